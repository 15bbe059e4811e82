/- Walks of the references; the orders agree; examples. -/
import Derived.Test.YthopjgahedijcaaGd
set_option linter.unusedSimpArgs false
set_option linter.unusedVariables false
namespace Go.Proofs.Ythopjgahedijcaa
open Go Go.Tx Go.Proofs.Try
set_option maxRecDepth 100000
set_option maxHeartbeats 0
abbrev ref01_Sign_ps : List Pk := [.row Rbuu true]
abbrev ref01_Sign_X : Type := Dbuu × Unit
abbrev ref01_Sign_R : Type := Int
def ref01_Sign_enc (r : ref01_Sign_R) : LV × List Ob := (.int .i64 r, [])
def ref01_Sign_sp (F : ref01_Sign_X → Option ref01_Sign_R) : Go.Tx.Spec := ⟨43, ref01_Sign_ps, ref01_Sign_R, F, ref01_Sign_enc⟩
abbrev ref01_Sign_C : Type := Unit
def ref01_Sign_K (_d : Nat) : ref01_Sign_C := ()
def ref01_Sign_tab (C : ref01_Sign_C) : List Go.Tx.Spec := []
abbrev ref01_Sign_Y0i : Type := Bool × Int × Int
def ref01_Sign_S0i (v : ref01_Sign_Y0i) : St := ⟨[(0, .agg [.bool v.1, .int .u64 v.2.1, .int .u64 v.2.2])], []⟩
abbrev ref01_Sign_Y0 : Type := Bool × Int × Int
def ref01_Sign_S0 (v : ref01_Sign_Y0) : St := ⟨[(1, .ptr 0 0)], [.cells [.bool v.1, .int .u64 v.2.1, .int .u64 v.2.2]]⟩
def ref01_Sign_r0 (C : ref01_Sign_C) (v : ref01_Sign_Y0i) : Dt ref01_Sign_Y0 := (Dt.ret (v.1, v.2.1, v.2.2))
theorem ref01_Sign_g0 (C : ref01_Sign_C) (v : ref01_Sign_Y0i) : treg tysT (orc (ref01_Sign_tab C)) 13 (regO (bodyOf f43) 0) false [(1, .any)] (ref01_Sign_S0i v) some = (ref01_Sign_r0 C v).eval fun y => some (ref01_Sign_S0 y) := by kernel_rfl
abbrev ref01_Sign_Y1 : Type := Bool × Bool × Int × Int
def ref01_Sign_S1 (v : ref01_Sign_Y1) : St := ⟨[(1, .ptr 0 0), (10, .bool v.1)], [.cells [.bool v.2.1, .int .u64 v.2.2.1, .int .u64 v.2.2.2]]⟩
def ref01_Sign_r1 (C : ref01_Sign_C) (v : ref01_Sign_Y0) : Dt ref01_Sign_Y1 := (Dt.ite (v.2.1 == (0:Int)) (Dt.ret ((v.2.2 == (0:Int)), v.1, v.2.1, v.2.2)) (Dt.ret (false, v.1, v.2.1, v.2.2)))
theorem ref01_Sign_g1 (C : ref01_Sign_C) (v : ref01_Sign_Y0) : treg tysT (orc (ref01_Sign_tab C)) 13 (regO (bodyOf f43) 1) false [(1, .any), (10, .any)] (ref01_Sign_S0 v) some = (ref01_Sign_r1 C v).eval fun y => some (ref01_Sign_S1 y) := by kernel_rfl
abbrev ref01_Sign_Y2 : Type := Int
def ref01_Sign_S2 (v : ref01_Sign_Y2) : St := ⟨[(2, .int .i64 v)], []⟩
def ref01_Sign_r2 (C : ref01_Sign_C) (v : ref01_Sign_Y1) : Dt ref01_Sign_Y2 := (Dt.ret (0:Int))
theorem ref01_Sign_g2 (C : ref01_Sign_C) (v : ref01_Sign_Y1) : treg tysT (orc (ref01_Sign_tab C)) 13 (regO (bodyOf f43) 2) false [(2, .any)] (ref01_Sign_S1 v) some = (ref01_Sign_r2 C v).eval fun y => some (ref01_Sign_S2 y) := by kernel_rfl
abbrev ref01_Sign_Y3 : Type := Bool
def ref01_Sign_S3 (v : ref01_Sign_Y3) : St := ⟨[(12, .bool v)], []⟩
def ref01_Sign_r3 (C : ref01_Sign_C) (v : ref01_Sign_Y1) : Dt ref01_Sign_Y3 := (Dt.ret v.2.1)
theorem ref01_Sign_g3 (C : ref01_Sign_C) (v : ref01_Sign_Y1) : treg tysT (orc (ref01_Sign_tab C)) 13 (regO (bodyOf f43) 3) false [(12, .any)] (ref01_Sign_S1 v) some = (ref01_Sign_r3 C v).eval fun y => some (ref01_Sign_S3 y) := by kernel_rfl
def ref01_Sign_r4 (C : ref01_Sign_C) (v : ref01_Sign_Y3) : Dt ref01_Sign_Y2 := (Dt.ret (-1:Int))
theorem ref01_Sign_g4 (C : ref01_Sign_C) (v : ref01_Sign_Y3) : treg tysT (orc (ref01_Sign_tab C)) 13 (regO (bodyOf f43) 4) false [(2, .any)] (ref01_Sign_S3 v) some = (ref01_Sign_r4 C v).eval fun y => some (ref01_Sign_S2 y) := by kernel_rfl
def ref01_Sign_r5 (C : ref01_Sign_C) (v : ref01_Sign_Y3) : Dt ref01_Sign_Y2 := (Dt.ret (1:Int))
theorem ref01_Sign_g5 (C : ref01_Sign_C) (v : ref01_Sign_Y3) : treg tysT (orc (ref01_Sign_tab C)) 13 (regO (bodyOf f43) 5) false [(2, .any)] (ref01_Sign_S3 v) some = (ref01_Sign_r5 C v).eval fun y => some (ref01_Sign_S2 y) := by kernel_rfl
def F_ref01_Sign (d : Nat) (x : ref01_Sign_X) : Option ref01_Sign_R :=
  (ref01_Sign_r0 (ref01_Sign_K d) (x.1.1, x.1.2.1, x.1.2.2.1)).eval fun y0 =>
  (ref01_Sign_r1 (ref01_Sign_K d) y0).eval fun y1 =>
  bif y1.1 then ((ref01_Sign_r2 (ref01_Sign_K d) y1).eval fun y2 =>
  some y2) else ((ref01_Sign_r3 (ref01_Sign_K d) y1).eval fun y3 =>
  bif y3 then ((ref01_Sign_r4 (ref01_Sign_K d) y3).eval fun y4 =>
  some y4) else ((ref01_Sign_r5 (ref01_Sign_K d) y3).eval fun y5 =>
  some y5))
theorem ref01_Sign_cok (d : Nat) : COK prog (ref01_Sign_sp (F_ref01_Sign d)) := by
  have hm : prog.follows .mixedOrders = true := mixed
  have hT := tys
  have hC0 : OrcOK prog (orc (ref01_Sign_tab (ref01_Sign_K d))) := orc_ok (by
    intro S hS
    simp only [ref01_Sign_tab, List.mem_cons, List.not_mem_nil, or_false] at hS
    all_goals first | cases hS | exact hS.elim)
  have hC : OrcOK prog (orc (ref01_Sign_tab (ref01_Sign_K d))) := hC0
  refine cok_of (c := bodyOf f43) (fn := f43) hT (by kernel_rfl) (by kernel_rfl) (by decide) fun x r h w0 φ0 Q hend => ?_
  replace h : F_ref01_Sign d x = some r := h
  unfold F_ref01_Sign at h
  show Run prog w0 φ0 13 (bodyOf f43) ⟨[(0, .agg [.bool x.1.1, .int .u64 x.1.2.1, .int .u64 x.1.2.2.1])], []⟩ Q
  refine run_seq ?_
  refine run_reg hm hT hC (ref01_Sign_g0 (ref01_Sign_K d) (x.1.1, x.1.2.1, x.1.2.2.1)) h ?_
  intro y0 h
  refine cn_then ?_
  refine run_seq ?_
  refine run_seq ?_
  refine run_reg hm hT hC (ref01_Sign_g1 (ref01_Sign_K d) y0) h ?_
  intro y1 h
  refine cn_then ?_
  refine run_cond (v := y1.1) (by kernel_rfl) h ?_ ?_
  ·
    intro h
    refine run_seq ?_
    refine run_reg hm hT hC (ref01_Sign_g2 (ref01_Sign_K d) y1) h ?_
    intro y2 h
    refine cn_then ?_
    refine run_ret ?_
    refine cn_then_ret ?_
    cases h
    exact (hend _ (by kernel_rfl)).2
  ·
    intro h
    refine run_skip ?_
    refine cn_then ?_
    refine run_seq ?_
    refine run_seq ?_
    refine run_reg hm hT hC (ref01_Sign_g3 (ref01_Sign_K d) y1) h ?_
    intro y3 h
    refine cn_then ?_
    refine run_cond (v := y3) (by kernel_rfl) h ?_ ?_
    ·
      intro h
      refine run_seq ?_
      refine run_reg hm hT hC (ref01_Sign_g4 (ref01_Sign_K d) y3) h ?_
      intro y4 h
      refine cn_then ?_
      refine run_ret ?_
      refine cn_then_ret ?_
      cases h
      exact (hend _ (by kernel_rfl)).2
    ·
      intro h
      refine run_skip ?_
      refine cn_then ?_
      refine run_seq ?_
      refine run_reg hm hT hC (ref01_Sign_g5 (ref01_Sign_K d) y3) h ?_
      intro y5 h
      refine cn_then ?_
      refine run_ret ?_
      cases h
      exact (hend _ (by kernel_rfl)).2
abbrev ref01_less_ps : List Pk := [.row Rbuu true, .row Rbuu true]
abbrev ref01_less_X : Type := Dbuu × Dbuu × Unit
abbrev ref01_less_R : Type := Int
def ref01_less_enc (r : ref01_less_R) : LV × List Ob := (.int .i64 r, [])
def ref01_less_sp (F : ref01_less_X → Option ref01_less_R) : Go.Tx.Spec := ⟨44, ref01_less_ps, ref01_less_R, F, ref01_less_enc⟩
abbrev ref01_less_C : Type := Unit
def ref01_less_K (_d : Nat) : ref01_less_C := ()
def ref01_less_tab (C : ref01_less_C) : List Go.Tx.Spec := []
abbrev ref01_less_Y0i : Type := Bool × Int × Int × Bool × Int × Int
def ref01_less_S0i (v : ref01_less_Y0i) : St := ⟨[(0, .agg [.bool v.1, .int .u64 v.2.1, .int .u64 v.2.2.1]), (1, .agg [.bool v.2.2.2.1, .int .u64 v.2.2.2.2.1, .int .u64 v.2.2.2.2.2])], []⟩
abbrev ref01_less_Y0 : Type := Bool × Int × Int × Bool × Int × Int
def ref01_less_S0 (v : ref01_less_Y0) : St := ⟨[(2, .ptr 0 0), (3, .ptr 1 0)], [.cells [.bool v.1, .int .u64 v.2.1, .int .u64 v.2.2.1], .cells [.bool v.2.2.2.1, .int .u64 v.2.2.2.2.1, .int .u64 v.2.2.2.2.2]]⟩
def ref01_less_r0 (C : ref01_less_C) (v : ref01_less_Y0i) : Dt ref01_less_Y0 := (Dt.ret (v.1, v.2.1, v.2.2.1, v.2.2.2.1, v.2.2.2.2.1, v.2.2.2.2.2))
theorem ref01_less_g0 (C : ref01_less_C) (v : ref01_less_Y0i) : treg tysT (orc (ref01_less_tab C)) 25 (regO (bodyOf f44) 0) false [(2, .any), (3, .any)] (ref01_less_S0i v) some = (ref01_less_r0 C v).eval fun y => some (ref01_less_S0 y) := by kernel_rfl
abbrev ref01_less_Y1 : Type := Bool × Bool × Int × Int × Bool × Int × Int
def ref01_less_S1 (v : ref01_less_Y1) : St := ⟨[(2, .ptr 0 0), (3, .ptr 1 0), (9, .bool v.1)], [.cells [.bool v.2.1, .int .u64 v.2.2.1, .int .u64 v.2.2.2.1], .cells [.bool v.2.2.2.2.1, .int .u64 v.2.2.2.2.2.1, .int .u64 v.2.2.2.2.2.2]]⟩
def ref01_less_r1 (C : ref01_less_C) (v : ref01_less_Y0) : Dt ref01_less_Y1 := (Dt.ret ((v.2.1 != v.2.2.2.2.1), v.1, v.2.1, v.2.2.1, v.2.2.2.1, v.2.2.2.2.1, v.2.2.2.2.2))
theorem ref01_less_g1 (C : ref01_less_C) (v : ref01_less_Y0) : treg tysT (orc (ref01_less_tab C)) 25 (regO (bodyOf f44) 1) false [(2, .any), (3, .any), (9, .any)] (ref01_less_S0 v) some = (ref01_less_r1 C v).eval fun y => some (ref01_less_S1 y) := by kernel_rfl
abbrev ref01_less_Y2 : Type := Bool
def ref01_less_S2 (v : ref01_less_Y2) : St := ⟨[(14, .bool v)], []⟩
def ref01_less_r2 (C : ref01_less_C) (v : ref01_less_Y1) : Dt ref01_less_Y2 := (Dt.ret (decide (v.2.2.1 < v.2.2.2.2.2.1)))
theorem ref01_less_g2 (C : ref01_less_C) (v : ref01_less_Y1) : treg tysT (orc (ref01_less_tab C)) 25 (regO (bodyOf f44) 2) false [(14, .any)] (ref01_less_S1 v) some = (ref01_less_r2 C v).eval fun y => some (ref01_less_S2 y) := by kernel_rfl
abbrev ref01_less_Y3 : Type := Int
def ref01_less_S3 (v : ref01_less_Y3) : St := ⟨[(4, .int .i64 v)], []⟩
def ref01_less_r3 (C : ref01_less_C) (v : ref01_less_Y2) : Dt ref01_less_Y3 := (Dt.ret (-1:Int))
theorem ref01_less_g3 (C : ref01_less_C) (v : ref01_less_Y2) : treg tysT (orc (ref01_less_tab C)) 25 (regO (bodyOf f44) 3) false [(4, .any)] (ref01_less_S2 v) some = (ref01_less_r3 C v).eval fun y => some (ref01_less_S3 y) := by kernel_rfl
def ref01_less_r4 (C : ref01_less_C) (v : ref01_less_Y2) : Dt ref01_less_Y3 := (Dt.ret (1:Int))
theorem ref01_less_g4 (C : ref01_less_C) (v : ref01_less_Y2) : treg tysT (orc (ref01_less_tab C)) 25 (regO (bodyOf f44) 4) false [(4, .any)] (ref01_less_S2 v) some = (ref01_less_r4 C v).eval fun y => some (ref01_less_S3 y) := by kernel_rfl
abbrev ref01_less_Y5 : Type := Bool × Bool × Int × Int × Bool × Int × Int
def ref01_less_S5 (v : ref01_less_Y5) : St := ⟨[(2, .ptr 0 0), (3, .ptr 1 0), (19, .bool v.1)], [.cells [.bool v.2.1, .int .u64 v.2.2.1, .int .u64 v.2.2.2.1], .cells [.bool v.2.2.2.2.1, .int .u64 v.2.2.2.2.2.1, .int .u64 v.2.2.2.2.2.2]]⟩
def ref01_less_r5 (C : ref01_less_C) (v : ref01_less_Y1) : Dt ref01_less_Y5 := (Dt.ret ((v.2.2.2.1 != v.2.2.2.2.2.2), v.2.1, v.2.2.1, v.2.2.2.1, v.2.2.2.2.1, v.2.2.2.2.2.1, v.2.2.2.2.2.2))
theorem ref01_less_g5 (C : ref01_less_C) (v : ref01_less_Y1) : treg tysT (orc (ref01_less_tab C)) 25 (regO (bodyOf f44) 5) false [(2, .any), (3, .any), (19, .any)] (ref01_less_S1 v) some = (ref01_less_r5 C v).eval fun y => some (ref01_less_S5 y) := by kernel_rfl
abbrev ref01_less_Y6 : Type := Bool
def ref01_less_S6 (v : ref01_less_Y6) : St := ⟨[(24, .bool v)], []⟩
def ref01_less_r6 (C : ref01_less_C) (v : ref01_less_Y5) : Dt ref01_less_Y6 := (Dt.ret (decide (v.2.2.2.1 < v.2.2.2.2.2.2)))
theorem ref01_less_g6 (C : ref01_less_C) (v : ref01_less_Y5) : treg tysT (orc (ref01_less_tab C)) 25 (regO (bodyOf f44) 6) false [(24, .any)] (ref01_less_S5 v) some = (ref01_less_r6 C v).eval fun y => some (ref01_less_S6 y) := by kernel_rfl
def ref01_less_r7 (C : ref01_less_C) (v : ref01_less_Y6) : Dt ref01_less_Y3 := (Dt.ret (-1:Int))
theorem ref01_less_g7 (C : ref01_less_C) (v : ref01_less_Y6) : treg tysT (orc (ref01_less_tab C)) 25 (regO (bodyOf f44) 7) false [(4, .any)] (ref01_less_S6 v) some = (ref01_less_r7 C v).eval fun y => some (ref01_less_S3 y) := by kernel_rfl
def ref01_less_r8 (C : ref01_less_C) (v : ref01_less_Y6) : Dt ref01_less_Y3 := (Dt.ret (1:Int))
theorem ref01_less_g8 (C : ref01_less_C) (v : ref01_less_Y6) : treg tysT (orc (ref01_less_tab C)) 25 (regO (bodyOf f44) 8) false [(4, .any)] (ref01_less_S6 v) some = (ref01_less_r8 C v).eval fun y => some (ref01_less_S3 y) := by kernel_rfl
def ref01_less_r9 (C : ref01_less_C) (v : ref01_less_Y5) : Dt ref01_less_Y3 := (Dt.ret (0:Int))
theorem ref01_less_g9 (C : ref01_less_C) (v : ref01_less_Y5) : treg tysT (orc (ref01_less_tab C)) 25 (regO (bodyOf f44) 9) false [(4, .any)] (ref01_less_S5 v) some = (ref01_less_r9 C v).eval fun y => some (ref01_less_S3 y) := by kernel_rfl
def F_ref01_less (d : Nat) (x : ref01_less_X) : Option ref01_less_R :=
  (ref01_less_r0 (ref01_less_K d) (x.1.1, x.1.2.1, x.1.2.2.1, x.2.1.1, x.2.1.2.1, x.2.1.2.2.1)).eval fun y0 =>
  (ref01_less_r1 (ref01_less_K d) y0).eval fun y1 =>
  bif y1.1 then ((ref01_less_r2 (ref01_less_K d) y1).eval fun y2 =>
  bif y2 then ((ref01_less_r3 (ref01_less_K d) y2).eval fun y3 =>
  some y3) else ((ref01_less_r4 (ref01_less_K d) y2).eval fun y4 =>
  some y4)) else ((ref01_less_r5 (ref01_less_K d) y1).eval fun y5 =>
  bif y5.1 then ((ref01_less_r6 (ref01_less_K d) y5).eval fun y6 =>
  bif y6 then ((ref01_less_r7 (ref01_less_K d) y6).eval fun y7 =>
  some y7) else ((ref01_less_r8 (ref01_less_K d) y6).eval fun y8 =>
  some y8)) else ((ref01_less_r9 (ref01_less_K d) y5).eval fun y9 =>
  some y9))
theorem ref01_less_cok (d : Nat) : COK prog (ref01_less_sp (F_ref01_less d)) := by
  have hm : prog.follows .mixedOrders = true := mixed
  have hT := tys
  have hC0 : OrcOK prog (orc (ref01_less_tab (ref01_less_K d))) := orc_ok (by
    intro S hS
    simp only [ref01_less_tab, List.mem_cons, List.not_mem_nil, or_false] at hS
    all_goals first | cases hS | exact hS.elim)
  have hC : OrcOK prog (orc (ref01_less_tab (ref01_less_K d))) := hC0
  refine cok_of (c := bodyOf f44) (fn := f44) hT (by kernel_rfl) (by kernel_rfl) (by decide) fun x r h w0 φ0 Q hend => ?_
  replace h : F_ref01_less d x = some r := h
  unfold F_ref01_less at h
  show Run prog w0 φ0 25 (bodyOf f44) ⟨[(0, .agg [.bool x.1.1, .int .u64 x.1.2.1, .int .u64 x.1.2.2.1]), (1, .agg [.bool x.2.1.1, .int .u64 x.2.1.2.1, .int .u64 x.2.1.2.2.1])], []⟩ Q
  refine run_seq ?_
  refine run_reg hm hT hC (ref01_less_g0 (ref01_less_K d) (x.1.1, x.1.2.1, x.1.2.2.1, x.2.1.1, x.2.1.2.1, x.2.1.2.2.1)) h ?_
  intro y0 h
  refine cn_then ?_
  refine run_seq ?_
  refine run_seq ?_
  refine run_reg hm hT hC (ref01_less_g1 (ref01_less_K d) y0) h ?_
  intro y1 h
  refine cn_then ?_
  refine run_cond (v := y1.1) (by kernel_rfl) h ?_ ?_
  ·
    intro h
    refine run_seq ?_
    refine run_seq ?_
    refine run_reg hm hT hC (ref01_less_g2 (ref01_less_K d) y1) h ?_
    intro y2 h
    refine cn_then ?_
    refine run_cond (v := y2) (by kernel_rfl) h ?_ ?_
    ·
      intro h
      refine run_seq ?_
      refine run_reg hm hT hC (ref01_less_g3 (ref01_less_K d) y2) h ?_
      intro y3 h
      refine cn_then ?_
      refine run_ret ?_
      refine cn_then_ret ?_
      refine cn_then_ret ?_
      cases h
      exact (hend _ (by kernel_rfl)).2
    ·
      intro h
      refine run_skip ?_
      refine cn_then ?_
      refine run_seq ?_
      refine run_reg hm hT hC (ref01_less_g4 (ref01_less_K d) y2) h ?_
      intro y4 h
      refine cn_then ?_
      refine run_ret ?_
      refine cn_then_ret ?_
      cases h
      exact (hend _ (by kernel_rfl)).2
  ·
    intro h
    refine run_skip ?_
    refine cn_then ?_
    refine run_seq ?_
    refine run_seq ?_
    refine run_reg hm hT hC (ref01_less_g5 (ref01_less_K d) y1) h ?_
    intro y5 h
    refine cn_then ?_
    refine run_cond (v := y5.1) (by kernel_rfl) h ?_ ?_
    ·
      intro h
      refine run_seq ?_
      refine run_seq ?_
      refine run_reg hm hT hC (ref01_less_g6 (ref01_less_K d) y5) h ?_
      intro y6 h
      refine cn_then ?_
      refine run_cond (v := y6) (by kernel_rfl) h ?_ ?_
      ·
        intro h
        refine run_seq ?_
        refine run_reg hm hT hC (ref01_less_g7 (ref01_less_K d) y6) h ?_
        intro y7 h
        refine cn_then ?_
        refine run_ret ?_
        refine cn_then_ret ?_
        refine cn_then_ret ?_
        cases h
        exact (hend _ (by kernel_rfl)).2
      ·
        intro h
        refine run_skip ?_
        refine cn_then ?_
        refine run_seq ?_
        refine run_reg hm hT hC (ref01_less_g8 (ref01_less_K d) y6) h ?_
        intro y8 h
        refine cn_then ?_
        refine run_ret ?_
        refine cn_then_ret ?_
        cases h
        exact (hend _ (by kernel_rfl)).2
    ·
      intro h
      refine run_skip ?_
      refine cn_then ?_
      refine run_seq ?_
      refine run_reg hm hT hC (ref01_less_g9 (ref01_less_K d) y5) h ?_
      intro y9 h
      refine cn_then ?_
      refine run_ret ?_
      cases h
      exact (hend _ (by kernel_rfl)).2
abbrev ref01_Compare_ps : List Pk := [.row Rii true, .row Rii true]
abbrev ref01_Compare_X : Type := Dii × Dii × Unit
abbrev ref01_Compare_R : Type := Int
def ref01_Compare_enc (r : ref01_Compare_R) : LV × List Ob := (.int .i64 r, [])
def ref01_Compare_sp (F : ref01_Compare_X → Option ref01_Compare_R) : Go.Tx.Spec := ⟨18, ref01_Compare_ps, ref01_Compare_R, F, ref01_Compare_enc⟩
abbrev ref01_Compare_C : Type := (ref01_Product_X → Option ref01_Product_R) × (ref01_Sign_X → Option ref01_Sign_R) × (ref01_less_X → Option ref01_less_R) × Unit
def ref01_Compare_K (d : Nat) : ref01_Compare_C := (F_ref01_Product d, F_ref01_Sign d, F_ref01_less d, ())
def ref01_Compare_tab (C : ref01_Compare_C) : List Go.Tx.Spec := [ref01_Product_sp C.1, ref01_Sign_sp C.2.1, ref01_less_sp C.2.2.1]
abbrev ref01_Compare_Y0i : Type := Int × Int × Int × Int
def ref01_Compare_S0i (v : ref01_Compare_Y0i) : St := ⟨[(0, .agg [.int .i64 v.1, .int .i64 v.2.1]), (1, .agg [.int .i64 v.2.2.1, .int .i64 v.2.2.2])], []⟩
abbrev ref01_Compare_Y0 : Type := Int × Int × Int × Int
def ref01_Compare_S0 (v : ref01_Compare_Y0) : St := ⟨[(2, .ptr 0 0), (3, .ptr 1 0)], [.cells [.int .i64 v.1, .int .i64 v.2.1], .cells [.int .i64 v.2.2.1, .int .i64 v.2.2.2]]⟩
def ref01_Compare_r0 (C : ref01_Compare_C) (v : ref01_Compare_Y0i) : Dt ref01_Compare_Y0 := (Dt.ret (v.1, v.2.1, v.2.2.1, v.2.2.2))
theorem ref01_Compare_g0 (C : ref01_Compare_C) (v : ref01_Compare_Y0i) : treg tysT (orc (ref01_Compare_tab C)) 36 (regO (bodyOf f18) 0) false [(2, .any), (3, .any)] (ref01_Compare_S0i v) some = (ref01_Compare_r0 C v).eval fun y => some (ref01_Compare_S0 y) := by kernel_rfl
abbrev ref01_Compare_Y1 : Type := Bool × Int × Int × Bool × Int × Int
def ref01_Compare_S1 (v : ref01_Compare_Y1) : St := ⟨[(5, .ptr 0 0), (6, .ptr 1 0)], [.cells [.bool v.1, .int .u64 v.2.1, .int .u64 v.2.2.1], .cells [.bool v.2.2.2.1, .int .u64 v.2.2.2.2.1, .int .u64 v.2.2.2.2.2]]⟩
def ref01_Compare_r1 (C : ref01_Compare_C) (v : ref01_Compare_Y0) : Dt ref01_Compare_Y1 := (Dt.bnd (C.1 ((v.1, ()), (v.2.2.2, ()), ())) fun r1 => (Dt.bnd (C.1 ((v.2.2.1, ()), (v.2.1, ()), ())) fun r2 => (Dt.ret (r1.1, r1.2.1, r1.2.2, r2.1, r2.2.1, r2.2.2))))
theorem ref01_Compare_g1 (C : ref01_Compare_C) (v : ref01_Compare_Y0) : treg tysT (orc (ref01_Compare_tab C)) 36 (regO (bodyOf f18) 1) true [(5, .any), (6, .any)] (ref01_Compare_S0 v) some = (ref01_Compare_r1 C v).eval fun y => some (ref01_Compare_S1 y) := by kernel_rfl
abbrev ref01_Compare_Y2 : Type := Bool × Bool × Int × Int × Bool × Int × Int
def ref01_Compare_S2 (v : ref01_Compare_Y2) : St := ⟨[(5, .ptr 0 0), (6, .ptr 1 0), (21, .bool v.1)], [.cells [.bool v.2.1, .int .u64 v.2.2.1, .int .u64 v.2.2.2.1], .cells [.bool v.2.2.2.2.1, .int .u64 v.2.2.2.2.2.1, .int .u64 v.2.2.2.2.2.2]]⟩
def ref01_Compare_r2 (C : ref01_Compare_C) (v : ref01_Compare_Y1) : Dt ref01_Compare_Y2 := (Dt.bnd (C.2.1 ((v.1, v.2.1, v.2.2.1, ()), ())) fun r1 => (Dt.bnd (C.2.1 ((v.2.2.2.1, v.2.2.2.2.1, v.2.2.2.2.2, ()), ())) fun r2 => (Dt.ret ((r1 != r2), v.1, v.2.1, v.2.2.1, v.2.2.2.1, v.2.2.2.2.1, v.2.2.2.2.2))))
theorem ref01_Compare_g2 (C : ref01_Compare_C) (v : ref01_Compare_Y1) : treg tysT (orc (ref01_Compare_tab C)) 36 (regO (bodyOf f18) 2) true [(5, .any), (6, .any), (21, .any)] (ref01_Compare_S1 v) some = (ref01_Compare_r2 C v).eval fun y => some (ref01_Compare_S2 y) := by kernel_rfl
abbrev ref01_Compare_Y3 : Type := Bool
def ref01_Compare_S3 (v : ref01_Compare_Y3) : St := ⟨[(26, .bool v)], []⟩
def ref01_Compare_r3 (C : ref01_Compare_C) (v : ref01_Compare_Y2) : Dt ref01_Compare_Y3 := (Dt.bnd (C.2.1 ((v.2.1, v.2.2.1, v.2.2.2.1, ()), ())) fun r1 => (Dt.bnd (C.2.1 ((v.2.2.2.2.1, v.2.2.2.2.2.1, v.2.2.2.2.2.2, ()), ())) fun r2 => (Dt.ret (decide (r1 < r2)))))
theorem ref01_Compare_g3 (C : ref01_Compare_C) (v : ref01_Compare_Y2) : treg tysT (orc (ref01_Compare_tab C)) 36 (regO (bodyOf f18) 3) true [(26, .any)] (ref01_Compare_S2 v) some = (ref01_Compare_r3 C v).eval fun y => some (ref01_Compare_S3 y) := by kernel_rfl
abbrev ref01_Compare_Y4 : Type := Int
def ref01_Compare_S4 (v : ref01_Compare_Y4) : St := ⟨[(4, .int .i64 v)], []⟩
def ref01_Compare_r4 (C : ref01_Compare_C) (v : ref01_Compare_Y3) : Dt ref01_Compare_Y4 := (Dt.ret (-1:Int))
theorem ref01_Compare_g4 (C : ref01_Compare_C) (v : ref01_Compare_Y3) : treg tysT (orc (ref01_Compare_tab C)) 36 (regO (bodyOf f18) 4) false [(4, .any)] (ref01_Compare_S3 v) some = (ref01_Compare_r4 C v).eval fun y => some (ref01_Compare_S4 y) := by kernel_rfl
def ref01_Compare_r5 (C : ref01_Compare_C) (v : ref01_Compare_Y3) : Dt ref01_Compare_Y4 := (Dt.ret (1:Int))
theorem ref01_Compare_g5 (C : ref01_Compare_C) (v : ref01_Compare_Y3) : treg tysT (orc (ref01_Compare_tab C)) 36 (regO (bodyOf f18) 5) false [(4, .any)] (ref01_Compare_S3 v) some = (ref01_Compare_r5 C v).eval fun y => some (ref01_Compare_S4 y) := by kernel_rfl
abbrev ref01_Compare_Y6 : Type := Bool × Bool × Int × Int × Bool × Int × Int
def ref01_Compare_S6 (v : ref01_Compare_Y6) : St := ⟨[(5, .ptr 0 0), (6, .ptr 1 0), (29, .bool v.1)], [.cells [.bool v.2.1, .int .u64 v.2.2.1, .int .u64 v.2.2.2.1], .cells [.bool v.2.2.2.2.1, .int .u64 v.2.2.2.2.2.1, .int .u64 v.2.2.2.2.2.2]]⟩
def ref01_Compare_r6 (C : ref01_Compare_C) (v : ref01_Compare_Y2) : Dt ref01_Compare_Y6 := (Dt.bnd (C.2.1 ((v.2.1, v.2.2.1, v.2.2.2.1, ()), ())) fun r1 => (Dt.ret ((decide (r1 < (0:Int))), v.2.1, v.2.2.1, v.2.2.2.1, v.2.2.2.2.1, v.2.2.2.2.2.1, v.2.2.2.2.2.2)))
theorem ref01_Compare_g6 (C : ref01_Compare_C) (v : ref01_Compare_Y2) : treg tysT (orc (ref01_Compare_tab C)) 36 (regO (bodyOf f18) 6) false [(5, .any), (6, .any), (29, .any)] (ref01_Compare_S2 v) some = (ref01_Compare_r6 C v).eval fun y => some (ref01_Compare_S6 y) := by kernel_rfl
def ref01_Compare_r7 (C : ref01_Compare_C) (v : ref01_Compare_Y6) : Dt ref01_Compare_Y4 := (Dt.bnd (C.2.2.1 ((v.2.2.2.2.1, v.2.2.2.2.2.1, v.2.2.2.2.2.2, ()), (v.2.1, v.2.2.1, v.2.2.2.1, ()), ())) fun r1 => (Dt.ret r1))
theorem ref01_Compare_g7 (C : ref01_Compare_C) (v : ref01_Compare_Y6) : treg tysT (orc (ref01_Compare_tab C)) 36 (regO (bodyOf f18) 7) false [(4, .any)] (ref01_Compare_S6 v) some = (ref01_Compare_r7 C v).eval fun y => some (ref01_Compare_S4 y) := by kernel_rfl
def ref01_Compare_r8 (C : ref01_Compare_C) (v : ref01_Compare_Y6) : Dt ref01_Compare_Y4 := (Dt.bnd (C.2.2.1 ((v.2.1, v.2.2.1, v.2.2.2.1, ()), (v.2.2.2.2.1, v.2.2.2.2.2.1, v.2.2.2.2.2.2, ()), ())) fun r1 => (Dt.ret r1))
theorem ref01_Compare_g8 (C : ref01_Compare_C) (v : ref01_Compare_Y6) : treg tysT (orc (ref01_Compare_tab C)) 36 (regO (bodyOf f18) 8) false [(4, .any)] (ref01_Compare_S6 v) some = (ref01_Compare_r8 C v).eval fun y => some (ref01_Compare_S4 y) := by kernel_rfl
def F_ref01_Compare (d : Nat) (x : ref01_Compare_X) : Option ref01_Compare_R :=
  (ref01_Compare_r0 (ref01_Compare_K d) (x.1.1, x.1.2.1, x.2.1.1, x.2.1.2.1)).eval fun y0 =>
  (ref01_Compare_r1 (ref01_Compare_K d) y0).eval fun y1 =>
  (ref01_Compare_r2 (ref01_Compare_K d) y1).eval fun y2 =>
  bif y2.1 then ((ref01_Compare_r3 (ref01_Compare_K d) y2).eval fun y3 =>
  bif y3 then ((ref01_Compare_r4 (ref01_Compare_K d) y3).eval fun y4 =>
  some y4) else ((ref01_Compare_r5 (ref01_Compare_K d) y3).eval fun y5 =>
  some y5)) else ((ref01_Compare_r6 (ref01_Compare_K d) y2).eval fun y6 =>
  bif y6.1 then ((ref01_Compare_r7 (ref01_Compare_K d) y6).eval fun y7 =>
  some y7) else ((ref01_Compare_r8 (ref01_Compare_K d) y6).eval fun y8 =>
  some y8))
theorem ref01_Compare_cok (d : Nat) : COK prog (ref01_Compare_sp (F_ref01_Compare d)) := by
  have hm : prog.follows .mixedOrders = true := mixed
  have hT := tys
  have hC0 : OrcOK prog (orc (ref01_Compare_tab (ref01_Compare_K d))) := orc_ok (by
    intro S hS
    simp only [ref01_Compare_tab, List.mem_cons, List.not_mem_nil, or_false] at hS
    rcases hS with rfl | rfl | rfl
    · exact ref01_Product_cok d
    · exact ref01_Sign_cok d
    · exact ref01_less_cok d)
  have hC : OrcOK prog (orc (ref01_Compare_tab (ref01_Compare_K d))) := hC0
  refine cok_of (c := bodyOf f18) (fn := f18) hT (by kernel_rfl) (by kernel_rfl) (by decide) fun x r h w0 φ0 Q hend => ?_
  replace h : F_ref01_Compare d x = some r := h
  unfold F_ref01_Compare at h
  show Run prog w0 φ0 36 (bodyOf f18) ⟨[(0, .agg [.int .i64 x.1.1, .int .i64 x.1.2.1]), (1, .agg [.int .i64 x.2.1.1, .int .i64 x.2.1.2.1])], []⟩ Q
  refine run_seq ?_
  refine run_reg hm hT hC (ref01_Compare_g0 (ref01_Compare_K d) (x.1.1, x.1.2.1, x.2.1.1, x.2.1.2.1)) h ?_
  intro y0 h
  refine cn_then ?_
  refine run_seq ?_
  refine run_reg hm hT hC (ref01_Compare_g1 (ref01_Compare_K d) y0) h ?_
  intro y1 h
  refine cn_then ?_
  refine run_seq ?_
  refine run_seq ?_
  refine run_reg hm hT hC (ref01_Compare_g2 (ref01_Compare_K d) y1) h ?_
  intro y2 h
  refine cn_then ?_
  refine run_cond (v := y2.1) (by kernel_rfl) h ?_ ?_
  ·
    intro h
    refine run_seq ?_
    refine run_seq ?_
    refine run_reg hm hT hC (ref01_Compare_g3 (ref01_Compare_K d) y2) h ?_
    intro y3 h
    refine cn_then ?_
    refine run_cond (v := y3) (by kernel_rfl) h ?_ ?_
    ·
      intro h
      refine run_seq ?_
      refine run_reg hm hT hC (ref01_Compare_g4 (ref01_Compare_K d) y3) h ?_
      intro y4 h
      refine cn_then ?_
      refine run_ret ?_
      refine cn_then_ret ?_
      refine cn_then_ret ?_
      cases h
      exact (hend _ (by kernel_rfl)).2
    ·
      intro h
      refine run_skip ?_
      refine cn_then ?_
      refine run_seq ?_
      refine run_reg hm hT hC (ref01_Compare_g5 (ref01_Compare_K d) y3) h ?_
      intro y5 h
      refine cn_then ?_
      refine run_ret ?_
      refine cn_then_ret ?_
      cases h
      exact (hend _ (by kernel_rfl)).2
  ·
    intro h
    refine run_skip ?_
    refine cn_then ?_
    refine run_seq ?_
    refine run_seq ?_
    refine run_reg hm hT hC (ref01_Compare_g6 (ref01_Compare_K d) y2) h ?_
    intro y6 h
    refine cn_then ?_
    refine run_cond (v := y6.1) (by kernel_rfl) h ?_ ?_
    ·
      intro h
      refine run_seq ?_
      refine run_reg hm hT hC (ref01_Compare_g7 (ref01_Compare_K d) y6) h ?_
      intro y7 h
      refine cn_then ?_
      refine run_ret ?_
      refine cn_then_ret ?_
      cases h
      exact (hend _ (by kernel_rfl)).2
    ·
      intro h
      refine run_skip ?_
      refine cn_then ?_
      refine run_seq ?_
      refine run_reg hm hT hC (ref01_Compare_g8 (ref01_Compare_K d) y6) h ?_
      intro y8 h
      refine cn_then ?_
      refine run_ret ?_
      cases h
      exact (hend _ (by kernel_rfl)).2
abbrev ref01_Both_ps : List Pk := [.row Rii true, .row Rii true]
abbrev ref01_Both_X : Type := Dii × Dii × Unit
abbrev ref01_Both_R : Type := Int
def ref01_Both_enc (r : ref01_Both_R) : LV × List Ob := (.int .i64 r, [])
def ref01_Both_sp (F : ref01_Both_X → Option ref01_Both_R) : Go.Tx.Spec := ⟨63, ref01_Both_ps, ref01_Both_R, F, ref01_Both_enc⟩
abbrev ref01_Both_C : Type := (ref01_Check_X → Option ref01_Check_R) × Unit
def ref01_Both_K (d : Nat) : ref01_Both_C := (F_ref01_Check d, ())
def ref01_Both_tab (C : ref01_Both_C) : List Go.Tx.Spec := [ref01_Check_sp C.1]
abbrev ref01_Both_Y0i : Type := Int × Int × Int × Int
def ref01_Both_S0i (v : ref01_Both_Y0i) : St := ⟨[(0, .agg [.int .i64 v.1, .int .i64 v.2.1]), (1, .agg [.int .i64 v.2.2.1, .int .i64 v.2.2.2])], []⟩
abbrev ref01_Both_Y0 : Type := Int × Int × Int × Int
def ref01_Both_S0 (v : ref01_Both_Y0) : St := ⟨[(2, .ptr 0 0), (3, .ptr 1 0)], [.cells [.int .i64 v.1, .int .i64 v.2.1], .cells [.int .i64 v.2.2.1, .int .i64 v.2.2.2]]⟩
def ref01_Both_r0 (C : ref01_Both_C) (v : ref01_Both_Y0i) : Dt ref01_Both_Y0 := (Dt.ret (v.1, v.2.1, v.2.2.1, v.2.2.2))
theorem ref01_Both_g0 (C : ref01_Both_C) (v : ref01_Both_Y0i) : treg tysT (orc (ref01_Both_tab C)) 12 (regO (bodyOf f63) 0) false [(2, .any), (3, .any)] (ref01_Both_S0i v) some = (ref01_Both_r0 C v).eval fun y => some (ref01_Both_S0 y) := by kernel_rfl
abbrev ref01_Both_Y1 : Type := Bool × Int × Int × Int × Int
def ref01_Both_S1 (v : ref01_Both_Y1) : St := ⟨[(2, .ptr 0 0), (3, .ptr 1 0), (7, .bool v.1)], [.cells [.int .i64 v.2.1, .int .i64 v.2.2.1], .cells [.int .i64 v.2.2.2.1, .int .i64 v.2.2.2.2]]⟩
def ref01_Both_r1 (C : ref01_Both_C) (v : ref01_Both_Y0) : Dt ref01_Both_Y1 := (Dt.bnd (C.1 ((v.1, v.2.1, ()), ())) fun r1 => (Dt.ret ((r1 != (0:Int)), v.1, v.2.1, v.2.2.1, v.2.2.2)))
theorem ref01_Both_g1 (C : ref01_Both_C) (v : ref01_Both_Y0) : treg tysT (orc (ref01_Both_tab C)) 12 (regO (bodyOf f63) 1) false [(2, .any), (3, .any), (7, .any)] (ref01_Both_S0 v) some = (ref01_Both_r1 C v).eval fun y => some (ref01_Both_S1 y) := by kernel_rfl
abbrev ref01_Both_Y2 : Type := Int
def ref01_Both_S2 (v : ref01_Both_Y2) : St := ⟨[(4, .int .i64 v)], []⟩
def ref01_Both_r2 (C : ref01_Both_C) (v : ref01_Both_Y1) : Dt ref01_Both_Y2 := (Dt.bnd (C.1 ((v.2.1, v.2.2.1, ()), ())) fun r1 => (Dt.ret r1))
theorem ref01_Both_g2 (C : ref01_Both_C) (v : ref01_Both_Y1) : treg tysT (orc (ref01_Both_tab C)) 12 (regO (bodyOf f63) 2) false [(4, .any)] (ref01_Both_S1 v) some = (ref01_Both_r2 C v).eval fun y => some (ref01_Both_S2 y) := by kernel_rfl
def ref01_Both_r3 (C : ref01_Both_C) (v : ref01_Both_Y1) : Dt ref01_Both_Y2 := (Dt.bnd (C.1 ((v.2.2.2.1, v.2.2.2.2, ()), ())) fun r1 => (Dt.ret r1))
theorem ref01_Both_g3 (C : ref01_Both_C) (v : ref01_Both_Y1) : treg tysT (orc (ref01_Both_tab C)) 12 (regO (bodyOf f63) 3) false [(4, .any)] (ref01_Both_S1 v) some = (ref01_Both_r3 C v).eval fun y => some (ref01_Both_S2 y) := by kernel_rfl
def F_ref01_Both (d : Nat) (x : ref01_Both_X) : Option ref01_Both_R :=
  (ref01_Both_r0 (ref01_Both_K d) (x.1.1, x.1.2.1, x.2.1.1, x.2.1.2.1)).eval fun y0 =>
  (ref01_Both_r1 (ref01_Both_K d) y0).eval fun y1 =>
  bif y1.1 then ((ref01_Both_r2 (ref01_Both_K d) y1).eval fun y2 =>
  some y2) else ((ref01_Both_r3 (ref01_Both_K d) y1).eval fun y3 =>
  some y3)
theorem ref01_Both_cok (d : Nat) : COK prog (ref01_Both_sp (F_ref01_Both d)) := by
  have hm : prog.follows .mixedOrders = true := mixed
  have hT := tys
  have hC0 : OrcOK prog (orc (ref01_Both_tab (ref01_Both_K d))) := orc_ok (by
    intro S hS
    simp only [ref01_Both_tab, List.mem_cons, List.not_mem_nil, or_false] at hS
    subst hS; exact ref01_Check_cok d)
  have hC : OrcOK prog (orc (ref01_Both_tab (ref01_Both_K d))) := hC0
  refine cok_of (c := bodyOf f63) (fn := f63) hT (by kernel_rfl) (by kernel_rfl) (by decide) fun x r h w0 φ0 Q hend => ?_
  replace h : F_ref01_Both d x = some r := h
  unfold F_ref01_Both at h
  show Run prog w0 φ0 12 (bodyOf f63) ⟨[(0, .agg [.int .i64 x.1.1, .int .i64 x.1.2.1]), (1, .agg [.int .i64 x.2.1.1, .int .i64 x.2.1.2.1])], []⟩ Q
  refine run_seq ?_
  refine run_reg hm hT hC (ref01_Both_g0 (ref01_Both_K d) (x.1.1, x.1.2.1, x.2.1.1, x.2.1.2.1)) h ?_
  intro y0 h
  refine cn_then ?_
  refine run_seq ?_
  refine run_seq ?_
  refine run_reg hm hT hC (ref01_Both_g1 (ref01_Both_K d) y0) h ?_
  intro y1 h
  refine cn_then ?_
  refine run_cond (v := y1.1) (by kernel_rfl) h ?_ ?_
  ·
    intro h
    refine run_seq ?_
    refine run_reg hm hT hC (ref01_Both_g2 (ref01_Both_K d) y1) h ?_
    intro y2 h
    refine cn_then ?_
    refine run_ret ?_
    refine cn_then_ret ?_
    cases h
    exact (hend _ (by kernel_rfl)).2
  ·
    intro h
    refine run_skip ?_
    refine cn_then ?_
    refine run_seq ?_
    refine run_reg hm hT hC (ref01_Both_g3 (ref01_Both_K d) y1) h ?_
    intro y3 h
    refine cn_then ?_
    refine run_ret ?_
    cases h
    exact (hend _ (by kernel_rfl)).2
abbrev ref04_Times_ps : List Pk := [.row RLiiiE true, .row Rii true, .row Rii true]
abbrev ref04_Times_X : Type := DLiiiE × Dii × Dii × Unit
abbrev ref04_Times_R : Type := Int
def ref04_Times_enc (r : ref04_Times_R) : LV × List Ob := (.int .i64 r, [])
def ref04_Times_sp (F : ref04_Times_X → Option ref04_Times_R) : Go.Tx.Spec := ⟨37, ref04_Times_ps, ref04_Times_R, F, ref04_Times_enc⟩
abbrev ref04_Times_C : Type := (ref01_Compare_X → Option ref01_Compare_R) × (ref03_Check_X → Option ref03_Check_R) × (ref01_Both_X → Option ref01_Both_R) × Unit
def ref04_Times_K (d : Nat) : ref04_Times_C := (F_ref01_Compare d, F_ref03_Check d, F_ref01_Both d, ())
def ref04_Times_tab (C : ref04_Times_C) : List Go.Tx.Spec := [ref01_Compare_sp C.1, ref03_Check_sp C.2.1, ref01_Both_sp C.2.2.1]
abbrev ref04_Times_Y0i : Type := List Diii × Int × Int × Int × Int
def ref04_Times_S0i (v : ref04_Times_Y0i) : St := ⟨[(0, .agg [.fz Riii v.1]), (1, .agg [.int .i64 v.2.1, .int .i64 v.2.2.1]), (2, .agg [.int .i64 v.2.2.2.1, .int .i64 v.2.2.2.2])], []⟩
abbrev ref04_Times_Y0 : Type := List Diii × Int × Int × Int × Int
def ref04_Times_S0 (v : ref04_Times_Y0) : St := ⟨[(3, .ptr 0 0), (4, .ptr 1 0), (5, .ptr 2 0)], [.cells [.fz Riii v.1], .cells [.int .i64 v.2.1, .int .i64 v.2.2.1], .cells [.int .i64 v.2.2.2.1, .int .i64 v.2.2.2.2]]⟩
def ref04_Times_r0 (C : ref04_Times_C) (v : ref04_Times_Y0i) : Dt ref04_Times_Y0 := (Dt.ret (v.1, v.2.1, v.2.2.1, v.2.2.2.1, v.2.2.2.2))
theorem ref04_Times_g0 (C : ref04_Times_C) (v : ref04_Times_Y0i) : treg tysT (orc (ref04_Times_tab C)) 24 (regO (bodyOf f37) 0) false [(3, (.box [.val Riii])), (4, .any), (5, .any)] (ref04_Times_S0i v) some = (ref04_Times_r0 C v).eval fun y => some (ref04_Times_S0 y) := by kernel_rfl
abbrev ref04_Times_Y1 : Type := Int × Int × Int × Int × Int
def ref04_Times_S1 (v : ref04_Times_Y1) : St := ⟨[(4, .ptr 0 0), (5, .ptr 1 0), (7, .int .i64 v.1)], [.cells [.int .i64 v.2.1, .int .i64 v.2.2.1], .cells [.int .i64 v.2.2.2.1, .int .i64 v.2.2.2.2]]⟩
def ref04_Times_r1 (C : ref04_Times_C) (v : ref04_Times_Y0) : Dt ref04_Times_Y1 := (Dt.bnd (C.2.1 ((v.1, ()), ())) fun r1 => (Dt.ret (r1, v.2.1, v.2.2.1, v.2.2.2.1, v.2.2.2.2)))
theorem ref04_Times_g1 (C : ref04_Times_C) (v : ref04_Times_Y0) : treg tysT (orc (ref04_Times_tab C)) 24 (regO (bodyOf f37) 1) false [(4, .any), (5, .any), (7, .any)] (ref04_Times_S0 v) some = (ref04_Times_r1 C v).eval fun y => some (ref04_Times_S1 y) := by kernel_rfl
abbrev ref04_Times_Y2 : Type := Int × Bool × Int × Int × Int × Int
def ref04_Times_S2 (v : ref04_Times_Y2) : St := ⟨[(4, .ptr 0 0), (5, .ptr 1 0), (7, .int .i64 v.1), (12, .bool v.2.1)], [.cells [.int .i64 v.2.2.1, .int .i64 v.2.2.2.1], .cells [.int .i64 v.2.2.2.2.1, .int .i64 v.2.2.2.2.2]]⟩
def ref04_Times_r2 (C : ref04_Times_C) (v : ref04_Times_Y1) : Dt ref04_Times_Y2 := (Dt.ret (v.1, (v.1 != (0:Int)), v.2.1, v.2.2.1, v.2.2.2.1, v.2.2.2.2))
theorem ref04_Times_g2 (C : ref04_Times_C) (v : ref04_Times_Y1) : treg tysT (orc (ref04_Times_tab C)) 24 (regO (bodyOf f37) 2) false [(4, .any), (5, .any), (7, .any), (12, .any)] (ref04_Times_S1 v) some = (ref04_Times_r2 C v).eval fun y => some (ref04_Times_S2 y) := by kernel_rfl
abbrev ref04_Times_Y3 : Type := Int
def ref04_Times_S3 (v : ref04_Times_Y3) : St := ⟨[(6, .int .i64 v)], []⟩
def ref04_Times_r3 (C : ref04_Times_C) (v : ref04_Times_Y2) : Dt ref04_Times_Y3 := (Dt.ret v.1)
theorem ref04_Times_g3 (C : ref04_Times_C) (v : ref04_Times_Y2) : treg tysT (orc (ref04_Times_tab C)) 24 (regO (bodyOf f37) 3) false [(6, .any)] (ref04_Times_S2 v) some = (ref04_Times_r3 C v).eval fun y => some (ref04_Times_S3 y) := by kernel_rfl
abbrev ref04_Times_Y4 : Type := Int × Int × Int × Int × Int
def ref04_Times_S4 (v : ref04_Times_Y4) : St := ⟨[(4, .ptr 0 0), (5, .ptr 1 0), (8, .int .i64 v.1)], [.cells [.int .i64 v.2.1, .int .i64 v.2.2.1], .cells [.int .i64 v.2.2.2.1, .int .i64 v.2.2.2.2]]⟩
def ref04_Times_r4 (C : ref04_Times_C) (v : ref04_Times_Y2) : Dt ref04_Times_Y4 := (Dt.bnd (C.2.2.1 ((v.2.2.1, v.2.2.2.1, ()), (v.2.2.2.2.1, v.2.2.2.2.2, ()), ())) fun r1 => (Dt.ret (r1, v.2.2.1, v.2.2.2.1, v.2.2.2.2.1, v.2.2.2.2.2)))
theorem ref04_Times_g4 (C : ref04_Times_C) (v : ref04_Times_Y2) : treg tysT (orc (ref04_Times_tab C)) 24 (regO (bodyOf f37) 4) false [(4, .any), (5, .any), (8, .any)] (ref04_Times_S2 v) some = (ref04_Times_r4 C v).eval fun y => some (ref04_Times_S4 y) := by kernel_rfl
abbrev ref04_Times_Y5 : Type := Int × Bool × Int × Int × Int × Int
def ref04_Times_S5 (v : ref04_Times_Y5) : St := ⟨[(4, .ptr 0 0), (5, .ptr 1 0), (8, .int .i64 v.1), (18, .bool v.2.1)], [.cells [.int .i64 v.2.2.1, .int .i64 v.2.2.2.1], .cells [.int .i64 v.2.2.2.2.1, .int .i64 v.2.2.2.2.2]]⟩
def ref04_Times_r5 (C : ref04_Times_C) (v : ref04_Times_Y4) : Dt ref04_Times_Y5 := (Dt.ret (v.1, (v.1 != (0:Int)), v.2.1, v.2.2.1, v.2.2.2.1, v.2.2.2.2))
theorem ref04_Times_g5 (C : ref04_Times_C) (v : ref04_Times_Y4) : treg tysT (orc (ref04_Times_tab C)) 24 (regO (bodyOf f37) 5) false [(4, .any), (5, .any), (8, .any), (18, .any)] (ref04_Times_S4 v) some = (ref04_Times_r5 C v).eval fun y => some (ref04_Times_S5 y) := by kernel_rfl
def ref04_Times_r6 (C : ref04_Times_C) (v : ref04_Times_Y5) : Dt ref04_Times_Y3 := (Dt.ret v.1)
theorem ref04_Times_g6 (C : ref04_Times_C) (v : ref04_Times_Y5) : treg tysT (orc (ref04_Times_tab C)) 24 (regO (bodyOf f37) 6) false [(6, .any)] (ref04_Times_S5 v) some = (ref04_Times_r6 C v).eval fun y => some (ref04_Times_S3 y) := by kernel_rfl
abbrev ref04_Times_Y7 : Type := Bool
def ref04_Times_S7 (v : ref04_Times_Y7) : St := ⟨[(23, .bool v)], []⟩
def ref04_Times_r7 (C : ref04_Times_C) (v : ref04_Times_Y5) : Dt ref04_Times_Y7 := (Dt.bnd (C.1 ((v.2.2.1, v.2.2.2.1, ()), (v.2.2.2.2.1, v.2.2.2.2.2, ()), ())) fun r1 => (Dt.ret (decide (r1 > (0:Int)))))
theorem ref04_Times_g7 (C : ref04_Times_C) (v : ref04_Times_Y5) : treg tysT (orc (ref04_Times_tab C)) 24 (regO (bodyOf f37) 7) false [(23, .any)] (ref04_Times_S5 v) some = (ref04_Times_r7 C v).eval fun y => some (ref04_Times_S7 y) := by kernel_rfl
def ref04_Times_r8 (C : ref04_Times_C) (v : ref04_Times_Y7) : Dt ref04_Times_Y3 := (Dt.ret (2:Int))
theorem ref04_Times_g8 (C : ref04_Times_C) (v : ref04_Times_Y7) : treg tysT (orc (ref04_Times_tab C)) 24 (regO (bodyOf f37) 8) false [(6, .any)] (ref04_Times_S7 v) some = (ref04_Times_r8 C v).eval fun y => some (ref04_Times_S3 y) := by kernel_rfl
def ref04_Times_r9 (C : ref04_Times_C) (v : ref04_Times_Y7) : Dt ref04_Times_Y3 := (Dt.ret (0:Int))
theorem ref04_Times_g9 (C : ref04_Times_C) (v : ref04_Times_Y7) : treg tysT (orc (ref04_Times_tab C)) 24 (regO (bodyOf f37) 9) false [(6, .any)] (ref04_Times_S7 v) some = (ref04_Times_r9 C v).eval fun y => some (ref04_Times_S3 y) := by kernel_rfl
def F_ref04_Times (d : Nat) (x : ref04_Times_X) : Option ref04_Times_R :=
  (ref04_Times_r0 (ref04_Times_K d) (x.1.1, x.2.1.1, x.2.1.2.1, x.2.2.1.1, x.2.2.1.2.1)).eval fun y0 =>
  (ref04_Times_r1 (ref04_Times_K d) y0).eval fun y1 =>
  (ref04_Times_r2 (ref04_Times_K d) y1).eval fun y2 =>
  bif y2.2.1 then ((ref04_Times_r3 (ref04_Times_K d) y2).eval fun y3 =>
  some y3) else ((ref04_Times_r4 (ref04_Times_K d) y2).eval fun y4 =>
  (ref04_Times_r5 (ref04_Times_K d) y4).eval fun y5 =>
  bif y5.2.1 then ((ref04_Times_r6 (ref04_Times_K d) y5).eval fun y6 =>
  some y6) else ((ref04_Times_r7 (ref04_Times_K d) y5).eval fun y7 =>
  bif y7 then ((ref04_Times_r8 (ref04_Times_K d) y7).eval fun y8 =>
  some y8) else ((ref04_Times_r9 (ref04_Times_K d) y7).eval fun y9 =>
  some y9)))
theorem ref04_Times_cok (d : Nat) : COK prog (ref04_Times_sp (F_ref04_Times d)) := by
  have hm : prog.follows .mixedOrders = true := mixed
  have hT := tys
  have hC0 : OrcOK prog (orc (ref04_Times_tab (ref04_Times_K d))) := orc_ok (by
    intro S hS
    simp only [ref04_Times_tab, List.mem_cons, List.not_mem_nil, or_false] at hS
    rcases hS with rfl | rfl | rfl
    · exact ref01_Compare_cok d
    · exact ref03_Check_cok d
    · exact ref01_Both_cok d)
  have hC : OrcOK prog (orc (ref04_Times_tab (ref04_Times_K d))) := hC0
  refine cok_of (c := bodyOf f37) (fn := f37) hT (by kernel_rfl) (by kernel_rfl) (by decide) fun x r h w0 φ0 Q hend => ?_
  replace h : F_ref04_Times d x = some r := h
  unfold F_ref04_Times at h
  show Run prog w0 φ0 24 (bodyOf f37) ⟨[(0, .agg [.fz Riii x.1.1]), (1, .agg [.int .i64 x.2.1.1, .int .i64 x.2.1.2.1]), (2, .agg [.int .i64 x.2.2.1.1, .int .i64 x.2.2.1.2.1])], []⟩ Q
  refine run_seq ?_
  refine run_reg hm hT hC (ref04_Times_g0 (ref04_Times_K d) (x.1.1, x.2.1.1, x.2.1.2.1, x.2.2.1.1, x.2.2.1.2.1)) h ?_
  intro y0 h
  refine cn_then ?_
  refine run_seq ?_
  refine run_seq ?_
  refine run_reg hm hT hC (ref04_Times_g1 (ref04_Times_K d) y0) h ?_
  intro y1 h
  refine cn_then ?_
  refine run_seq ?_
  refine run_reg hm hT hC (ref04_Times_g2 (ref04_Times_K d) y1) h ?_
  intro y2 h
  refine cn_then ?_
  refine run_cond (v := y2.2.1) (by kernel_rfl) h ?_ ?_
  ·
    intro h
    refine run_seq ?_
    refine run_reg hm hT hC (ref04_Times_g3 (ref04_Times_K d) y2) h ?_
    intro y3 h
    refine cn_then ?_
    refine run_ret ?_
    refine cn_then_ret ?_
    cases h
    exact (hend _ (by kernel_rfl)).2
  ·
    intro h
    refine run_skip ?_
    refine cn_then ?_
    refine run_seq ?_
    refine run_seq ?_
    refine run_reg hm hT hC (ref04_Times_g4 (ref04_Times_K d) y2) h ?_
    intro y4 h
    refine cn_then ?_
    refine run_seq ?_
    refine run_reg hm hT hC (ref04_Times_g5 (ref04_Times_K d) y4) h ?_
    intro y5 h
    refine cn_then ?_
    refine run_cond (v := y5.2.1) (by kernel_rfl) h ?_ ?_
    ·
      intro h
      refine run_seq ?_
      refine run_reg hm hT hC (ref04_Times_g6 (ref04_Times_K d) y5) h ?_
      intro y6 h
      refine cn_then ?_
      refine run_ret ?_
      refine cn_then_ret ?_
      cases h
      exact (hend _ (by kernel_rfl)).2
    ·
      intro h
      refine run_skip ?_
      refine cn_then ?_
      refine run_seq ?_
      refine run_seq ?_
      refine run_reg hm hT hC (ref04_Times_g7 (ref04_Times_K d) y5) h ?_
      intro y7 h
      refine cn_then ?_
      refine run_cond (v := y7) (by kernel_rfl) h ?_ ?_
      ·
        intro h
        refine run_seq ?_
        refine run_reg hm hT hC (ref04_Times_g8 (ref04_Times_K d) y7) h ?_
        intro y8 h
        refine cn_then ?_
        refine run_ret ?_
        refine cn_then_ret ?_
        cases h
        exact (hend _ (by kernel_rfl)).2
      ·
        intro h
        refine run_skip ?_
        refine cn_then ?_
        refine run_seq ?_
        refine run_reg hm hT hC (ref04_Times_g9 (ref04_Times_K d) y7) h ?_
        intro y9 h
        refine cn_then ?_
        refine run_ret ?_
        cases h
        exact (hend _ (by kernel_rfl)).2
abbrev ref04_Before_ps : List Pk := [.row Riiii true, .row Riiii true]
abbrev ref04_Before_X : Type := Diiii × Diiii × Unit
abbrev ref04_Before_R : Type := Bool
def ref04_Before_enc (r : ref04_Before_R) : LV × List Ob := (.bool r, [])
def ref04_Before_sp (F : ref04_Before_X → Option ref04_Before_R) : Go.Tx.Spec := ⟨30, ref04_Before_ps, ref04_Before_R, F, ref04_Before_enc⟩
abbrev ref04_Before_C : Type := (ref01_Compare_X → Option ref01_Compare_R) × Unit
def ref04_Before_K (d : Nat) : ref04_Before_C := (F_ref01_Compare d, ())
def ref04_Before_tab (C : ref04_Before_C) : List Go.Tx.Spec := [ref01_Compare_sp C.1]
abbrev ref04_Before_Y0i : Type := Int × Int × Int × Int × Int × Int × Int × Int
def ref04_Before_S0i (v : ref04_Before_Y0i) : St := ⟨[(0, .agg [.int .i64 v.1, .int .i64 v.2.1, .int .i64 v.2.2.1, .int .i64 v.2.2.2.1]), (1, .agg [.int .i64 v.2.2.2.2.1, .int .i64 v.2.2.2.2.2.1, .int .i64 v.2.2.2.2.2.2.1, .int .i64 v.2.2.2.2.2.2.2])], []⟩
abbrev ref04_Before_Y0 : Type := Int × Int × Int × Int × Int × Int × Int × Int
def ref04_Before_S0 (v : ref04_Before_Y0) : St := ⟨[(2, .ptr 0 0), (3, .ptr 1 0)], [.cells [.int .i64 v.1, .int .i64 v.2.1, .int .i64 v.2.2.1, .int .i64 v.2.2.2.1], .cells [.int .i64 v.2.2.2.2.1, .int .i64 v.2.2.2.2.2.1, .int .i64 v.2.2.2.2.2.2.1, .int .i64 v.2.2.2.2.2.2.2]]⟩
def ref04_Before_r0 (C : ref04_Before_C) (v : ref04_Before_Y0i) : Dt ref04_Before_Y0 := (Dt.ret (v.1, v.2.1, v.2.2.1, v.2.2.2.1, v.2.2.2.2.1, v.2.2.2.2.2.1, v.2.2.2.2.2.2.1, v.2.2.2.2.2.2.2))
theorem ref04_Before_g0 (C : ref04_Before_C) (v : ref04_Before_Y0i) : treg tysT (orc (ref04_Before_tab C)) 30 (regO (bodyOf f30) 0) false [(2, .any), (3, .any)] (ref04_Before_S0i v) some = (ref04_Before_r0 C v).eval fun y => some (ref04_Before_S0 y) := by kernel_rfl
abbrev ref04_Before_Y1 : Type := Int × Int × Int × Int × Int × Int × Int × Int × Int
def ref04_Before_S1 (v : ref04_Before_Y1) : St := ⟨[(2, .ptr 0 0), (3, .ptr 1 0), (5, .int .i64 v.1)], [.cells [.int .i64 v.2.1, .int .i64 v.2.2.1, .int .i64 v.2.2.2.1, .int .i64 v.2.2.2.2.1], .cells [.int .i64 v.2.2.2.2.2.1, .int .i64 v.2.2.2.2.2.2.1, .int .i64 v.2.2.2.2.2.2.2.1, .int .i64 v.2.2.2.2.2.2.2.2]]⟩
def ref04_Before_r1 (C : ref04_Before_C) (v : ref04_Before_Y0) : Dt ref04_Before_Y1 := (Dt.bnd (C.1 ((v.1, v.2.1, ()), (v.2.2.2.2.1, v.2.2.2.2.2.1, ()), ())) fun r1 => (Dt.ret (r1, v.1, v.2.1, v.2.2.1, v.2.2.2.1, v.2.2.2.2.1, v.2.2.2.2.2.1, v.2.2.2.2.2.2.1, v.2.2.2.2.2.2.2)))
theorem ref04_Before_g1 (C : ref04_Before_C) (v : ref04_Before_Y0) : treg tysT (orc (ref04_Before_tab C)) 30 (regO (bodyOf f30) 1) false [(2, .any), (3, .any), (5, .any)] (ref04_Before_S0 v) some = (ref04_Before_r1 C v).eval fun y => some (ref04_Before_S1 y) := by kernel_rfl
abbrev ref04_Before_Y2 : Type := Int × Bool × Int × Int × Int × Int × Int × Int × Int × Int
def ref04_Before_S2 (v : ref04_Before_Y2) : St := ⟨[(2, .ptr 0 0), (3, .ptr 1 0), (5, .int .i64 v.1), (12, .bool v.2.1)], [.cells [.int .i64 v.2.2.1, .int .i64 v.2.2.2.1, .int .i64 v.2.2.2.2.1, .int .i64 v.2.2.2.2.2.1], .cells [.int .i64 v.2.2.2.2.2.2.1, .int .i64 v.2.2.2.2.2.2.2.1, .int .i64 v.2.2.2.2.2.2.2.2.1, .int .i64 v.2.2.2.2.2.2.2.2.2]]⟩
def ref04_Before_r2 (C : ref04_Before_C) (v : ref04_Before_Y1) : Dt ref04_Before_Y2 := (Dt.ret (v.1, (v.1 != (0:Int)), v.2.1, v.2.2.1, v.2.2.2.1, v.2.2.2.2.1, v.2.2.2.2.2.1, v.2.2.2.2.2.2.1, v.2.2.2.2.2.2.2.1, v.2.2.2.2.2.2.2.2))
theorem ref04_Before_g2 (C : ref04_Before_C) (v : ref04_Before_Y1) : treg tysT (orc (ref04_Before_tab C)) 30 (regO (bodyOf f30) 2) false [(2, .any), (3, .any), (5, .any), (12, .any)] (ref04_Before_S1 v) some = (ref04_Before_r2 C v).eval fun y => some (ref04_Before_S2 y) := by kernel_rfl
abbrev ref04_Before_Y3 : Type := Bool
def ref04_Before_S3 (v : ref04_Before_Y3) : St := ⟨[(4, .bool v)], []⟩
def ref04_Before_r3 (C : ref04_Before_C) (v : ref04_Before_Y2) : Dt ref04_Before_Y3 := (Dt.ret (decide (v.1 < (0:Int))))
theorem ref04_Before_g3 (C : ref04_Before_C) (v : ref04_Before_Y2) : treg tysT (orc (ref04_Before_tab C)) 30 (regO (bodyOf f30) 3) false [(4, .any)] (ref04_Before_S2 v) some = (ref04_Before_r3 C v).eval fun y => some (ref04_Before_S3 y) := by kernel_rfl
abbrev ref04_Before_Y4 : Type := Bool × Int × Int × Int × Int × Int × Int × Int × Int
def ref04_Before_S4 (v : ref04_Before_Y4) : St := ⟨[(2, .ptr 0 0), (3, .ptr 1 0), (19, .bool v.1)], [.cells [.int .i64 v.2.1, .int .i64 v.2.2.1, .int .i64 v.2.2.2.1, .int .i64 v.2.2.2.2.1], .cells [.int .i64 v.2.2.2.2.2.1, .int .i64 v.2.2.2.2.2.2.1, .int .i64 v.2.2.2.2.2.2.2.1, .int .i64 v.2.2.2.2.2.2.2.2]]⟩
def ref04_Before_r4 (C : ref04_Before_C) (v : ref04_Before_Y2) : Dt ref04_Before_Y4 := (Dt.ret ((v.2.2.2.2.1 != v.2.2.2.2.2.2.2.2.1), v.2.2.1, v.2.2.2.1, v.2.2.2.2.1, v.2.2.2.2.2.1, v.2.2.2.2.2.2.1, v.2.2.2.2.2.2.2.1, v.2.2.2.2.2.2.2.2.1, v.2.2.2.2.2.2.2.2.2))
theorem ref04_Before_g4 (C : ref04_Before_C) (v : ref04_Before_Y2) : treg tysT (orc (ref04_Before_tab C)) 30 (regO (bodyOf f30) 4) false [(2, .any), (3, .any), (19, .any)] (ref04_Before_S2 v) some = (ref04_Before_r4 C v).eval fun y => some (ref04_Before_S4 y) := by kernel_rfl
def ref04_Before_r5 (C : ref04_Before_C) (v : ref04_Before_Y4) : Dt ref04_Before_Y3 := (Dt.ret (decide (v.2.2.2.1 < v.2.2.2.2.2.2.2.1)))
theorem ref04_Before_g5 (C : ref04_Before_C) (v : ref04_Before_Y4) : treg tysT (orc (ref04_Before_tab C)) 30 (regO (bodyOf f30) 5) false [(4, .any)] (ref04_Before_S4 v) some = (ref04_Before_r5 C v).eval fun y => some (ref04_Before_S3 y) := by kernel_rfl
def ref04_Before_r6 (C : ref04_Before_C) (v : ref04_Before_Y4) : Dt ref04_Before_Y3 := (Dt.ret (decide (v.2.2.2.2.1 < v.2.2.2.2.2.2.2.2)))
theorem ref04_Before_g6 (C : ref04_Before_C) (v : ref04_Before_Y4) : treg tysT (orc (ref04_Before_tab C)) 30 (regO (bodyOf f30) 6) false [(4, .any)] (ref04_Before_S4 v) some = (ref04_Before_r6 C v).eval fun y => some (ref04_Before_S3 y) := by kernel_rfl
def F_ref04_Before (d : Nat) (x : ref04_Before_X) : Option ref04_Before_R :=
  (ref04_Before_r0 (ref04_Before_K d) (x.1.1, x.1.2.1, x.1.2.2.1, x.1.2.2.2.1, x.2.1.1, x.2.1.2.1, x.2.1.2.2.1, x.2.1.2.2.2.1)).eval fun y0 =>
  (ref04_Before_r1 (ref04_Before_K d) y0).eval fun y1 =>
  (ref04_Before_r2 (ref04_Before_K d) y1).eval fun y2 =>
  bif y2.2.1 then ((ref04_Before_r3 (ref04_Before_K d) y2).eval fun y3 =>
  some y3) else ((ref04_Before_r4 (ref04_Before_K d) y2).eval fun y4 =>
  bif y4.1 then ((ref04_Before_r5 (ref04_Before_K d) y4).eval fun y5 =>
  some y5) else ((ref04_Before_r6 (ref04_Before_K d) y4).eval fun y6 =>
  some y6))
theorem ref04_Before_cok (d : Nat) : COK prog (ref04_Before_sp (F_ref04_Before d)) := by
  have hm : prog.follows .mixedOrders = true := mixed
  have hT := tys
  have hC0 : OrcOK prog (orc (ref04_Before_tab (ref04_Before_K d))) := orc_ok (by
    intro S hS
    simp only [ref04_Before_tab, List.mem_cons, List.not_mem_nil, or_false] at hS
    subst hS; exact ref01_Compare_cok d)
  have hC : OrcOK prog (orc (ref04_Before_tab (ref04_Before_K d))) := hC0
  refine cok_of (c := bodyOf f30) (fn := f30) hT (by kernel_rfl) (by kernel_rfl) (by decide) fun x r h w0 φ0 Q hend => ?_
  replace h : F_ref04_Before d x = some r := h
  unfold F_ref04_Before at h
  show Run prog w0 φ0 30 (bodyOf f30) ⟨[(0, .agg [.int .i64 x.1.1, .int .i64 x.1.2.1, .int .i64 x.1.2.2.1, .int .i64 x.1.2.2.2.1]), (1, .agg [.int .i64 x.2.1.1, .int .i64 x.2.1.2.1, .int .i64 x.2.1.2.2.1, .int .i64 x.2.1.2.2.2.1])], []⟩ Q
  refine run_seq ?_
  refine run_reg hm hT hC (ref04_Before_g0 (ref04_Before_K d) (x.1.1, x.1.2.1, x.1.2.2.1, x.1.2.2.2.1, x.2.1.1, x.2.1.2.1, x.2.1.2.2.1, x.2.1.2.2.2.1)) h ?_
  intro y0 h
  refine cn_then ?_
  refine run_seq ?_
  refine run_seq ?_
  refine run_reg hm hT hC (ref04_Before_g1 (ref04_Before_K d) y0) h ?_
  intro y1 h
  refine cn_then ?_
  refine run_seq ?_
  refine run_reg hm hT hC (ref04_Before_g2 (ref04_Before_K d) y1) h ?_
  intro y2 h
  refine cn_then ?_
  refine run_cond (v := y2.2.1) (by kernel_rfl) h ?_ ?_
  ·
    intro h
    refine run_seq ?_
    refine run_reg hm hT hC (ref04_Before_g3 (ref04_Before_K d) y2) h ?_
    intro y3 h
    refine cn_then ?_
    refine run_ret ?_
    refine cn_then_ret ?_
    cases h
    exact (hend _ (by kernel_rfl)).2
  ·
    intro h
    refine run_skip ?_
    refine cn_then ?_
    refine run_seq ?_
    refine run_seq ?_
    refine run_reg hm hT hC (ref04_Before_g4 (ref04_Before_K d) y2) h ?_
    intro y4 h
    refine cn_then ?_
    refine run_cond (v := y4.1) (by kernel_rfl) h ?_ ?_
    ·
      intro h
      refine run_seq ?_
      refine run_reg hm hT hC (ref04_Before_g5 (ref04_Before_K d) y4) h ?_
      intro y5 h
      refine cn_then ?_
      refine run_ret ?_
      refine cn_then_ret ?_
      cases h
      exact (hend _ (by kernel_rfl)).2
    ·
      intro h
      refine run_skip ?_
      refine cn_then ?_
      refine run_seq ?_
      refine run_reg hm hT hC (ref04_Before_g6 (ref04_Before_K d) y4) h ?_
      intro y6 h
      refine cn_then ?_
      refine run_ret ?_
      cases h
      exact (hend _ (by kernel_rfl)).2
abbrev ref04_Same_ps : List Pk := [.row RLiiiiE false, .row RLiiiiE false]
abbrev ref04_Same_X : Type := DLiiiiE × DLiiiiE × Unit
abbrev ref04_Same_R : Type := Bool
def ref04_Same_enc (r : ref04_Same_R) : LV × List Ob := (.bool r, [])
def ref04_Same_sp (F : ref04_Same_X → Option ref04_Same_R) : Go.Tx.Spec := ⟨16, ref04_Same_ps, ref04_Same_R, F, ref04_Same_enc⟩
abbrev ref04_Same_C : Type := Unit
def ref04_Same_K (_d : Nat) : ref04_Same_C := ()
def ref04_Same_tab (C : ref04_Same_C) : List Go.Tx.Spec := []
abbrev ref04_Same_Y0i : Type := List Diiii × List Diiii
def ref04_Same_S0i (v : ref04_Same_Y0i) : St := ⟨[(0, .fz Riiii v.1), (1, .fz Riiii v.2)], []⟩
def ref04_Same_r0 (C : ref04_Same_C) (v : ref04_Same_Y0i) : Dt ref04_Same_Y0i := (Dt.ret (v.1, v.2))
theorem ref04_Same_g0 (C : ref04_Same_C) (v : ref04_Same_Y0i) : treg tysT (orc (ref04_Same_tab C)) 26 (regO (bodyOf f16) 0) false [(0, (.val Riiii)), (1, (.val Riiii))] (ref04_Same_S0i v) some = (ref04_Same_r0 C v).eval fun y => some (ref04_Same_S0i y) := by kernel_rfl
abbrev ref04_Same_Y1 : Type := List Diiii × List Diiii × Bool
def ref04_Same_S1 (v : ref04_Same_Y1) : St := ⟨[(0, .fz Riiii v.1), (1, .fz Riiii v.2.1), (10, .bool v.2.2)], []⟩
def ref04_Same_r1 (C : ref04_Same_C) (v : ref04_Same_Y0i) : Dt ref04_Same_Y1 := (Dt.ret (v.1, v.2, ((List.length v.1 : Int) != (List.length v.2 : Int))))
theorem ref04_Same_g1 (C : ref04_Same_C) (v : ref04_Same_Y0i) : treg tysT (orc (ref04_Same_tab C)) 26 (regO (bodyOf f16) 1) false [(0, (.val Riiii)), (1, (.val Riiii)), (10, .any)] (ref04_Same_S0i v) some = (ref04_Same_r1 C v).eval fun y => some (ref04_Same_S1 y) := by kernel_rfl
abbrev ref04_Same_Y2 : Type := Bool
def ref04_Same_S2 (v : ref04_Same_Y2) : St := ⟨[(4, .bool v)], []⟩
def ref04_Same_r2 (C : ref04_Same_C) (v : ref04_Same_Y1) : Dt ref04_Same_Y2 := (Dt.ret false)
theorem ref04_Same_g2 (C : ref04_Same_C) (v : ref04_Same_Y1) : treg tysT (orc (ref04_Same_tab C)) 26 (regO (bodyOf f16) 2) false [(4, .any)] (ref04_Same_S1 v) some = (ref04_Same_r2 C v).eval fun y => some (ref04_Same_S2 y) := by kernel_rfl
abbrev ref04_Same_Y3 : Type := List Diiii × List Diiii × Int
def ref04_Same_S3 (v : ref04_Same_Y3) : St := ⟨[(0, .fz Riiii v.1), (1, .fz Riiii v.2.1), (5, .int .i64 v.2.2)], []⟩
def ref04_Same_r3 (C : ref04_Same_C) (v : ref04_Same_Y1) : Dt ref04_Same_Y3 := (Dt.ret (v.1, v.2.1, (0:Int)))
theorem ref04_Same_g3 (C : ref04_Same_C) (v : ref04_Same_Y1) : treg tysT (orc (ref04_Same_tab C)) 26 (regO (bodyOf f16) 3) false [(0, (.val Riiii)), (1, (.val Riiii)), (5, .any)] (ref04_Same_S1 v) some = (ref04_Same_r3 C v).eval fun y => some (ref04_Same_S3 y) := by kernel_rfl
abbrev ref04_Same_Y4 : Type := List Diiii × List Diiii × Int × Bool
def ref04_Same_S4 (v : ref04_Same_Y4) : St := ⟨[(0, .fz Riiii v.1), (1, .fz Riiii v.2.1), (5, .int .i64 v.2.2.1), (14, .bool v.2.2.2)], []⟩
def ref04_Same_r4 (C : ref04_Same_C) (v : ref04_Same_Y3) : Dt ref04_Same_Y4 := (Dt.ret (v.1, v.2.1, v.2.2, (decide (v.2.2 < (List.length v.1 : Int)))))
theorem ref04_Same_g4 (C : ref04_Same_C) (v : ref04_Same_Y3) : treg tysT (orc (ref04_Same_tab C)) 26 (regO (bodyOf f16) 4) false [(0, (.val Riiii)), (1, (.val Riiii)), (5, .any), (14, .any)] (ref04_Same_S3 v) some = (ref04_Same_r4 C v).eval fun y => some (ref04_Same_S4 y) := by kernel_rfl
abbrev ref04_Same_Y6 : Type := List Diiii × List Diiii × Int × Bool
def ref04_Same_S6 (v : ref04_Same_Y6) : St := ⟨[(0, .fz Riiii v.1), (1, .fz Riiii v.2.1), (5, .int .i64 v.2.2.1), (25, .bool v.2.2.2)], []⟩
def ref04_Same_r6 (C : ref04_Same_C) (v : ref04_Same_Y4) : Dt ref04_Same_Y6 := (Dt.ite (inB v.2.2.1 (List.length v.1)) (Dt.ite (inB v.2.2.1 (List.length v.2.1)) (Dt.ret (v.1, v.2.1, v.2.2.1, (!(((elt ziiii v.1 (v.2.2.1).toNat).1 == (elt ziiii v.2.1 (v.2.2.1).toNat).1) && (((elt ziiii v.1 (v.2.2.1).toNat).2.1 == (elt ziiii v.2.1 (v.2.2.1).toNat).2.1) && (((elt ziiii v.1 (v.2.2.1).toNat).2.2.1 == (elt ziiii v.2.1 (v.2.2.1).toNat).2.2.1) && (((elt ziiii v.1 (v.2.2.1).toNat).2.2.2.1 == (elt ziiii v.2.1 (v.2.2.1).toNat).2.2.2.1) && true))))))) Dt.fail) Dt.fail)
theorem ref04_Same_g6 (C : ref04_Same_C) (v : ref04_Same_Y4) : treg tysT (orc (ref04_Same_tab C)) 26 (regO (bodyOf f16) 6) true [(0, (.val Riiii)), (1, (.val Riiii)), (5, .any), (25, .any)] (ref04_Same_S4 v) some = (ref04_Same_r6 C v).eval fun y => some (ref04_Same_S6 y) := by kernel_rfl
def ref04_Same_r7 (C : ref04_Same_C) (v : ref04_Same_Y6) : Dt ref04_Same_Y2 := (Dt.ret false)
theorem ref04_Same_g7 (C : ref04_Same_C) (v : ref04_Same_Y6) : treg tysT (orc (ref04_Same_tab C)) 26 (regO (bodyOf f16) 7) false [(4, .any)] (ref04_Same_S6 v) some = (ref04_Same_r7 C v).eval fun y => some (ref04_Same_S2 y) := by kernel_rfl
def ref04_Same_r5 (C : ref04_Same_C) (v : ref04_Same_Y6) : Dt ref04_Same_Y3 := (Dt.ret (v.1, v.2.1, (IntKind.wrap .i64 (v.2.2.1 + (1:Int)))))
theorem ref04_Same_g5 (C : ref04_Same_C) (v : ref04_Same_Y6) : treg tysT (orc (ref04_Same_tab C)) 26 (regO (bodyOf f16) 5) false [(0, (.val Riiii)), (1, (.val Riiii)), (5, .any)] (ref04_Same_S6 v) some = (ref04_Same_r5 C v).eval fun y => some (ref04_Same_S3 y) := by kernel_rfl
def ref04_Same_r8 (C : ref04_Same_C) (v : ref04_Same_Y4) : Dt ref04_Same_Y2 := (Dt.ret true)
theorem ref04_Same_g8 (C : ref04_Same_C) (v : ref04_Same_Y4) : treg tysT (orc (ref04_Same_tab C)) 26 (regO (bodyOf f16) 8) false [(4, .any)] (ref04_Same_S4 v) some = (ref04_Same_r8 C v).eval fun y => some (ref04_Same_S2 y) := by kernel_rfl
def ref04_Same_L1 (d : Nat) (self1 : (List Diiii × List Diiii × Int) → Option ref04_Same_R) (x1 : List Diiii × List Diiii × Int) : Option ref04_Same_R :=
  (ref04_Same_r4 (ref04_Same_K d) x1).eval fun y4 =>
  bif y4.2.2.2 then ((ref04_Same_r6 (ref04_Same_K d) y4).eval fun y6 =>
  bif y6.2.2.2 then ((ref04_Same_r7 (ref04_Same_K d) y6).eval fun y7 =>
  some y7) else ((ref04_Same_r5 (ref04_Same_K d) y6).eval fun y5 =>
  self1 y5)) else ((ref04_Same_r8 (ref04_Same_K d) y4).eval fun y8 =>
  some y8)
def F_ref04_Same (d : Nat) (x : ref04_Same_X) : Option ref04_Same_R :=
  (ref04_Same_r0 (ref04_Same_K d) (x.1.1, x.2.1.1)).eval fun y0 =>
  (ref04_Same_r1 (ref04_Same_K d) y0).eval fun y1 =>
  bif y1.2.2 then ((ref04_Same_r2 (ref04_Same_K d) y1).eval fun y2 =>
  some y2) else ((ref04_Same_r3 (ref04_Same_K d) y1).eval fun y3 =>
  iter (ref04_Same_L1 d ) d y3)
theorem ref04_Same_cok (d : Nat) : COK prog (ref04_Same_sp (F_ref04_Same d)) := by
  have hm : prog.follows .mixedOrders = true := mixed
  have hT := tys
  have hC0 : OrcOK prog (orc (ref04_Same_tab (ref04_Same_K d))) := orc_ok (by
    intro S hS
    simp only [ref04_Same_tab, List.mem_cons, List.not_mem_nil, or_false] at hS
    all_goals first | cases hS | exact hS.elim)
  have hC : OrcOK prog (orc (ref04_Same_tab (ref04_Same_K d))) := hC0
  refine cok_of (c := bodyOf f16) (fn := f16) hT (by kernel_rfl) (by kernel_rfl) (by decide) fun x r h w0 φ0 Q hend => ?_
  replace h : F_ref04_Same d x = some r := h
  unfold F_ref04_Same at h
  show Run prog w0 φ0 26 (bodyOf f16) ⟨[(0, .fz Riiii x.1.1), (1, .fz Riiii x.2.1.1)], []⟩ Q
  refine run_seq ?_
  refine run_reg hm hT hC (ref04_Same_g0 (ref04_Same_K d) (x.1.1, x.2.1.1)) h ?_
  intro y0 h
  refine cn_then ?_
  refine run_seq ?_
  refine run_seq ?_
  refine run_reg hm hT hC (ref04_Same_g1 (ref04_Same_K d) y0) h ?_
  intro y1 h
  refine cn_then ?_
  refine run_cond (v := y1.2.2) (by kernel_rfl) h ?_ ?_
  ·
    intro h
    refine run_seq ?_
    refine run_reg hm hT hC (ref04_Same_g2 (ref04_Same_K d) y1) h ?_
    intro y2 h
    refine cn_then ?_
    refine run_ret ?_
    refine cn_then_ret ?_
    cases h
    exact (hend _ (by kernel_rfl)).2
  ·
    intro h
    refine run_skip ?_
    refine cn_then ?_
    refine run_seq ?_
    refine run_seq ?_
    refine run_reg hm hT hC (ref04_Same_g3 (ref04_Same_K d) y1) h ?_
    intro y3 h
    refine cn_then ?_
    refine run_block ?_
    refine run_loop (G := iter (ref04_Same_L1 d )) (S := (fun x1 => ⟨[(0, .fz Riiii x1.1), (1, .fz Riiii x1.2.1), (5, .int .i64 x1.2.2)], []⟩ : List Diiii × List Diiii × Int → St)) (fun _ => rfl) ?_ d _ h
    intro n1 x1 h K1 hn1
    replace h : ref04_Same_L1 d  (iter (ref04_Same_L1 d ) n1) x1 = some r := h
    generalize iter (ref04_Same_L1 d ) n1 = self1 at h hn1
    unfold ref04_Same_L1 at h
    refine run_seq ?_
    refine run_seq ?_
    refine run_reg hm hT hC (ref04_Same_g4 (ref04_Same_K d) x1) h ?_
    intro y4 h
    refine cn_then ?_
    refine run_cond (v := y4.2.2.2) (by kernel_rfl) h ?_ ?_
    ·
      intro h
      refine run_skip ?_
      refine cn_then ?_
      refine run_seq ?_
      refine run_block ?_
      refine run_seq ?_
      refine run_reg hm hT hC (ref04_Same_g6 (ref04_Same_K d) y4) h ?_
      intro y6 h
      refine cn_then ?_
      refine run_cond (v := y6.2.2.2) (by kernel_rfl) h ?_ ?_
      ·
        intro h
        refine run_seq ?_
        refine run_reg hm hT hC (ref04_Same_g7 (ref04_Same_K d) y6) h ?_
        intro y7 h
        refine cn_then ?_
        refine run_ret ?_
        refine cn_blk_ret ?_
        refine cn_then_ret ?_
        refine cn_then_ret ?_
        refine cn_blk_ret ?_
        refine cn_then_ret ?_
        cases h
        exact (hend _ (by kernel_rfl)).2
      ·
        intro h
        refine run_skip ?_
        refine cn_blk ?_
        refine cn_then ?_
        refine run_reg hm hT hC (ref04_Same_g5 (ref04_Same_K d) y6) h ?_
        intro y5 h
        exact hn1 _ h
    ·
      intro h
      refine run_exit ?_
      refine cn_then_exit ?_
      refine cn_then_exit ?_
      refine cn_blk_eq ?_
      refine cn_then ?_
      refine run_seq ?_
      refine run_reg hm hT hC (ref04_Same_g8 (ref04_Same_K d) y4) h ?_
      intro y8 h
      refine cn_then ?_
      refine run_ret ?_
      cases h
      exact (hend _ (by kernel_rfl)).2
end Go.Proofs.Ythopjgahedijcaa

namespace Go.Proofs.Ythopjgahedijcaa
open Go Go.Tx Go.Proofs.Try
set_option maxRecDepth 100000
set_option maxHeartbeats 0
abbrev law04_great_ps : List Pk := [.row RLiiiE true]
abbrev law04_great_X : Type := DLiiiE × Unit
abbrev law04_great_R : Type := Bool
def law04_great_enc (r : law04_great_R) : LV × List Ob := (.bool r, [])
def law04_great_sp (F : law04_great_X → Option law04_great_R) : Go.Tx.Spec := ⟨8, law04_great_ps, law04_great_R, F, law04_great_enc⟩
abbrev law04_great_C : Type := (ref03_Great_X → Option ref03_Great_R) × Unit
def law04_great_K (d : Nat) : law04_great_C := (F_ref03_Great d, ())
def law04_great_tab (C : law04_great_C) : List Go.Tx.Spec := [ref03_Great_sp C.1]
abbrev law04_great_Y0i : Type := List Diii
def law04_great_S0i (v : law04_great_Y0i) : St := ⟨[(0, .agg [.fz Riii v])], []⟩
abbrev law04_great_Y0 : Type := List Diii
def law04_great_S0 (v : law04_great_Y0) : St := ⟨[(1, .ptr 0 0)], [.cells [.fz Riii v]]⟩
def law04_great_r0 (C : law04_great_C) (v : law04_great_Y0i) : Dt law04_great_Y0 := (Dt.ret v)
theorem law04_great_g0 (C : law04_great_C) (v : law04_great_Y0i) : treg tysT (orc (law04_great_tab C)) 11 (regO (bodyOf f8) 0) false [(1, (.box [.val Riii]))] (law04_great_S0i v) some = (law04_great_r0 C v).eval fun y => some (law04_great_S0 y) := by kernel_rfl
abbrev law04_great_Y1 : Type := Bool
def law04_great_S1 (v : law04_great_Y1) : St := ⟨[(2, .bool v)], []⟩
def law04_great_r1 (C : law04_great_C) (v : law04_great_Y0) : Dt law04_great_Y1 := (Dt.bnd (C.1 ((v, ()), ())) fun r1 => (Dt.ite r1 (Dt.ret true) (Dt.ret ((List.length v : Int) == (64:Int)))))
theorem law04_great_g1 (C : law04_great_C) (v : law04_great_Y0) : treg tysT (orc (law04_great_tab C)) 11 (regO (bodyOf f8) 1) false [(2, .any)] (law04_great_S0 v) some = (law04_great_r1 C v).eval fun y => some (law04_great_S1 y) := by kernel_rfl
def F_law04_great (d : Nat) (x : law04_great_X) : Option law04_great_R :=
  (law04_great_r0 (law04_great_K d) x.1.1).eval fun y0 =>
  (law04_great_r1 (law04_great_K d) y0).eval fun y1 =>
  some y1
theorem law04_great_cok (d : Nat) : COK prog (law04_great_sp (F_law04_great d)) := by
  have hm : prog.follows .mixedOrders = true := mixed
  have hT := tys
  have hC0 : OrcOK prog (orc (law04_great_tab (law04_great_K d))) := orc_ok (by
    intro S hS
    simp only [law04_great_tab, List.mem_cons, List.not_mem_nil, or_false] at hS
    subst hS; exact ref03_Great_cok d)
  have hC : OrcOK prog (orc (law04_great_tab (law04_great_K d))) := hC0
  refine cok_of (c := bodyOf f8) (fn := f8) hT (by kernel_rfl) (by kernel_rfl) (by decide) fun x r h w0 φ0 Q hend => ?_
  replace h : F_law04_great d x = some r := h
  unfold F_law04_great at h
  show Run prog w0 φ0 11 (bodyOf f8) ⟨[(0, .agg [.fz Riii x.1.1])], []⟩ Q
  refine run_seq ?_
  refine run_reg hm hT hC (law04_great_g0 (law04_great_K d) x.1.1) h ?_
  intro y0 h
  refine cn_then ?_
  refine run_seq ?_
  refine run_reg hm hT hC (law04_great_g1 (law04_great_K d) y0) h ?_
  intro y1 h
  refine cn_then ?_
  refine run_ret ?_
  cases h
  exact (hend _ (by kernel_rfl)).2
abbrev law04_fit_ps : List Pk := [.row RLiiiE true, .row Rii true, .row Rii true]
abbrev law04_fit_X : Type := DLiiiE × Dii × Dii × Unit
abbrev law04_fit_R : Type := Bool
def law04_fit_enc (r : law04_fit_R) : LV × List Ob := (.bool r, [])
def law04_fit_sp (F : law04_fit_X → Option law04_fit_R) : Go.Tx.Spec := ⟨13, law04_fit_ps, law04_fit_R, F, law04_fit_enc⟩
abbrev law04_fit_C : Type := (law04_great_X → Option law04_great_R) × (ref04_Times_X → Option ref04_Times_R) × Unit
def law04_fit_K (d : Nat) : law04_fit_C := (F_law04_great d, F_ref04_Times d, ())
def law04_fit_tab (C : law04_fit_C) : List Go.Tx.Spec := [law04_great_sp C.1, ref04_Times_sp C.2.1]
abbrev law04_fit_Y0i : Type := List Diii × Int × Int × Int × Int
def law04_fit_S0i (v : law04_fit_Y0i) : St := ⟨[(0, .agg [.fz Riii v.1]), (1, .agg [.int .i64 v.2.1, .int .i64 v.2.2.1]), (2, .agg [.int .i64 v.2.2.2.1, .int .i64 v.2.2.2.2])], []⟩
abbrev law04_fit_Y0 : Type := List Diii × Int × Int × Int × Int
def law04_fit_S0 (v : law04_fit_Y0) : St := ⟨[(3, .ptr 0 0), (4, .ptr 1 0), (5, .ptr 2 0)], [.cells [.fz Riii v.1], .cells [.int .i64 v.2.1, .int .i64 v.2.2.1], .cells [.int .i64 v.2.2.2.1, .int .i64 v.2.2.2.2]]⟩
def law04_fit_r0 (C : law04_fit_C) (v : law04_fit_Y0i) : Dt law04_fit_Y0 := (Dt.ret (v.1, v.2.1, v.2.2.1, v.2.2.2.1, v.2.2.2.2))
theorem law04_fit_g0 (C : law04_fit_C) (v : law04_fit_Y0i) : treg tysT (orc (law04_fit_tab C)) 17 (regO (bodyOf f13) 0) false [(3, (.box [.val Riii])), (4, .any), (5, .any)] (law04_fit_S0i v) some = (law04_fit_r0 C v).eval fun y => some (law04_fit_S0 y) := by kernel_rfl
abbrev law04_fit_Y1 : Type := Bool
def law04_fit_S1 (v : law04_fit_Y1) : St := ⟨[(6, .bool v)], []⟩
def law04_fit_r1 (C : law04_fit_C) (v : law04_fit_Y0) : Dt law04_fit_Y1 := (Dt.bnd (C.1 ((v.1, ()), ())) fun r1 => (Dt.ite (!r1) (Dt.bnd (C.2.1 ((v.1, ()), (v.2.1, v.2.2.1, ()), (v.2.2.2.1, v.2.2.2.2, ()), ())) fun r2 => (Dt.ret (r2 == (0:Int)))) (Dt.ret false)))
theorem law04_fit_g1 (C : law04_fit_C) (v : law04_fit_Y0) : treg tysT (orc (law04_fit_tab C)) 17 (regO (bodyOf f13) 1) false [(6, .any)] (law04_fit_S0 v) some = (law04_fit_r1 C v).eval fun y => some (law04_fit_S1 y) := by kernel_rfl
def F_law04_fit (d : Nat) (x : law04_fit_X) : Option law04_fit_R :=
  (law04_fit_r0 (law04_fit_K d) (x.1.1, x.2.1.1, x.2.1.2.1, x.2.2.1.1, x.2.2.1.2.1)).eval fun y0 =>
  (law04_fit_r1 (law04_fit_K d) y0).eval fun y1 =>
  some y1
theorem law04_fit_cok (d : Nat) : COK prog (law04_fit_sp (F_law04_fit d)) := by
  have hm : prog.follows .mixedOrders = true := mixed
  have hT := tys
  have hC0 : OrcOK prog (orc (law04_fit_tab (law04_fit_K d))) := orc_ok (by
    intro S hS
    simp only [law04_fit_tab, List.mem_cons, List.not_mem_nil, or_false] at hS
    rcases hS with rfl | rfl
    · exact law04_great_cok d
    · exact ref04_Times_cok d)
  have hC : OrcOK prog (orc (law04_fit_tab (law04_fit_K d))) := hC0
  refine cok_of (c := bodyOf f13) (fn := f13) hT (by kernel_rfl) (by kernel_rfl) (by decide) fun x r h w0 φ0 Q hend => ?_
  replace h : F_law04_fit d x = some r := h
  unfold F_law04_fit at h
  show Run prog w0 φ0 17 (bodyOf f13) ⟨[(0, .agg [.fz Riii x.1.1]), (1, .agg [.int .i64 x.2.1.1, .int .i64 x.2.1.2.1]), (2, .agg [.int .i64 x.2.2.1.1, .int .i64 x.2.2.1.2.1])], []⟩ Q
  refine run_seq ?_
  refine run_reg hm hT hC (law04_fit_g0 (law04_fit_K d) (x.1.1, x.2.1.1, x.2.1.2.1, x.2.2.1.1, x.2.2.1.2.1)) h ?_
  intro y0 h
  refine cn_then ?_
  refine run_seq ?_
  refine run_reg hm hT hC (law04_fit_g1 (law04_fit_K d) y0) h ?_
  intro y1 h
  refine cn_then ?_
  refine run_ret ?_
  cases h
  exact (hend _ (by kernel_rfl)).2
abbrev law04_given_ps : List Pk := []
abbrev law04_given_X : Type := Unit
abbrev law04_given_R : Type := List Diii
def law04_given_enc (r : law04_given_R) : LV × List Ob := (.agg [.rs 0], [.rows Riii r])
def law04_given_sp (F : law04_given_X → Option law04_given_R) : Go.Tx.Spec := ⟨27, law04_given_ps, law04_given_R, F, law04_given_enc⟩
abbrev law04_given_C : Type := Unit
def law04_given_K (_d : Nat) : law04_given_C := ()
def law04_given_tab (C : law04_given_C) : List Go.Tx.Spec := []
abbrev law04_given_Y0i : Type := Unit
def law04_given_S0i (v : law04_given_Y0i) : St := ⟨[], []⟩
abbrev law04_given_Y0 : Type := List Diii
def law04_given_S0 (v : law04_given_Y0) : St := ⟨[(0, .ptr 0 0)], [.cells [.rs 1], .rows Riii v]⟩
def law04_given_r0 (C : law04_given_C) (v : law04_given_Y0i) : Dt law04_given_Y0 := (Dt.ret ([] : List Diii))
theorem law04_given_g0 (C : law04_given_C) (v : law04_given_Y0i) : treg tysT (orc (law04_given_tab C)) 6 (regO (bodyOf f27) 0) false [(0, (.box [.own Riii]))] (law04_given_S0i v) some = (law04_given_r0 C v).eval fun y => some (law04_given_S0 y) := by kernel_rfl
def law04_given_r1 (C : law04_given_C) (v : law04_given_Y0) : Dt law04_given_Y0 := (Dt.ret ([((1:Int), (0:Int), (2:Int), ()), ((2:Int), (6:Int), (-1:Int), ()), ((5:Int), (0:Int), (0:Int), ())] : List Diii))
theorem law04_given_g1 (C : law04_given_C) (v : law04_given_Y0) : treg tysT (orc (law04_given_tab C)) 6 (regO (bodyOf f27) 1) false [(0, (.box [.own Riii]))] (law04_given_S0 v) some = (law04_given_r1 C v).eval fun y => some (law04_given_S0 y) := by kernel_rfl
def F_law04_given (d : Nat) (x : law04_given_X) : Option law04_given_R :=
  (law04_given_r0 (law04_given_K d) ()).eval fun y0 =>
  (law04_given_r1 (law04_given_K d) y0).eval fun y1 =>
  some y1
theorem law04_given_cok (d : Nat) : COK prog (law04_given_sp (F_law04_given d)) := by
  have hm : prog.follows .mixedOrders = true := mixed
  have hT := tys
  have hC0 : OrcOK prog (orc (law04_given_tab (law04_given_K d))) := orc_ok (by
    intro S hS
    simp only [law04_given_tab, List.mem_cons, List.not_mem_nil, or_false] at hS
    all_goals first | cases hS | exact hS.elim)
  have hC : OrcOK prog (orc (law04_given_tab (law04_given_K d))) := hC0
  refine cok_of (c := bodyOf f27) (fn := f27) hT (by kernel_rfl) (by kernel_rfl) (by decide) fun x r h w0 φ0 Q hend => ?_
  replace h : F_law04_given d x = some r := h
  unfold F_law04_given at h
  show Run prog w0 φ0 6 (bodyOf f27) ⟨[], []⟩ Q
  refine run_seq ?_
  refine run_reg hm hT hC (law04_given_g0 (law04_given_K d) ()) h ?_
  intro y0 h
  refine cn_then ?_
  refine run_seq ?_
  refine run_reg hm hT hC (law04_given_g1 (law04_given_K d) y0) h ?_
  intro y1 h
  refine cn_then ?_
  refine run_ret ?_
  cases h
  exact (hend _ (by kernel_rfl)).2
abbrev law04_at_ps : List Pk := [.row Ri false]
abbrev law04_at_X : Type := Di × Unit
abbrev law04_at_R : Type := Int × Int
def law04_at_enc (r : law04_at_R) : LV × List Ob := (.agg [.int .i64 r.1, .int .i64 r.2], [])
def law04_at_sp (F : law04_at_X → Option law04_at_R) : Go.Tx.Spec := ⟨26, law04_at_ps, law04_at_R, F, law04_at_enc⟩
abbrev law04_at_C : Type := Unit
def law04_at_K (_d : Nat) : law04_at_C := ()
def law04_at_tab (C : law04_at_C) : List Go.Tx.Spec := []
abbrev law04_at_Y0i : Type := Int
def law04_at_S0i (v : law04_at_Y0i) : St := ⟨[(0, .int .i64 v)], []⟩
abbrev law04_at_Y0 : Type := Int × Int × Int
def law04_at_S0 (v : law04_at_Y0) : St := ⟨[(0, .int .i64 v.1), (2, .ptr 0 0)], [.cells [.int .i64 v.2.1, .int .i64 v.2.2]]⟩
def law04_at_r0 (C : law04_at_C) (v : law04_at_Y0i) : Dt law04_at_Y0 := (Dt.ret (v, (0:Int), (0:Int)))
theorem law04_at_g0 (C : law04_at_C) (v : law04_at_Y0i) : treg tysT (orc (law04_at_tab C)) 5 (regO (bodyOf f26) 0) false [(0, .any), (2, .any)] (law04_at_S0i v) some = (law04_at_r0 C v).eval fun y => some (law04_at_S0 y) := by kernel_rfl
abbrev law04_at_Y1 : Type := Int × Int
def law04_at_S1 (v : law04_at_Y1) : St := ⟨[(2, .ptr 0 0)], [.cells [.int .i64 v.1, .int .i64 v.2]]⟩
def law04_at_r1 (C : law04_at_C) (v : law04_at_Y0) : Dt law04_at_Y1 := (Dt.ret (v.1, (1:Int)))
theorem law04_at_g1 (C : law04_at_C) (v : law04_at_Y0) : treg tysT (orc (law04_at_tab C)) 5 (regO (bodyOf f26) 1) false [(2, .any)] (law04_at_S0 v) some = (law04_at_r1 C v).eval fun y => some (law04_at_S1 y) := by kernel_rfl
def F_law04_at (d : Nat) (x : law04_at_X) : Option law04_at_R :=
  (law04_at_r0 (law04_at_K d) x.1.1).eval fun y0 =>
  (law04_at_r1 (law04_at_K d) y0).eval fun y1 =>
  some y1
theorem law04_at_cok (d : Nat) : COK prog (law04_at_sp (F_law04_at d)) := by
  have hm : prog.follows .mixedOrders = true := mixed
  have hT := tys
  have hC0 : OrcOK prog (orc (law04_at_tab (law04_at_K d))) := orc_ok (by
    intro S hS
    simp only [law04_at_tab, List.mem_cons, List.not_mem_nil, or_false] at hS
    all_goals first | cases hS | exact hS.elim)
  have hC : OrcOK prog (orc (law04_at_tab (law04_at_K d))) := hC0
  refine cok_of (c := bodyOf f26) (fn := f26) hT (by kernel_rfl) (by kernel_rfl) (by decide) fun x r h w0 φ0 Q hend => ?_
  replace h : F_law04_at d x = some r := h
  unfold F_law04_at at h
  show Run prog w0 φ0 5 (bodyOf f26) ⟨[(0, .int .i64 x.1.1)], []⟩ Q
  refine run_seq ?_
  refine run_reg hm hT hC (law04_at_g0 (law04_at_K d) x.1.1) h ?_
  intro y0 h
  refine cn_then ?_
  refine run_seq ?_
  refine run_reg hm hT hC (law04_at_g1 (law04_at_K d) y0) h ?_
  intro y1 h
  refine cn_then ?_
  refine run_ret ?_
  cases h
  exact (hend _ (by kernel_rfl)).2
abbrev law04_alive_ps : List Pk := []
abbrev law04_alive_X : Type := Unit
abbrev law04_alive_R : Type := Bool
def law04_alive_enc (r : law04_alive_R) : LV × List Ob := (.bool r, [])
def law04_alive_sp (F : law04_alive_X → Option law04_alive_R) : Go.Tx.Spec := ⟨14, law04_alive_ps, law04_alive_R, F, law04_alive_enc⟩
abbrev law04_alive_C : Type := (meet_Last_X → Option meet_Last_R) × (meet_All_X → Option meet_All_R) × (ref04_Same_X → Option ref04_Same_R) × (meet_Count_X → Option meet_Count_R) × (law04_at_X → Option law04_at_R) × (law04_given_X → Option law04_given_R) × Unit
def law04_alive_K (d : Nat) : law04_alive_C := (F_meet_Last d, F_meet_All d, F_ref04_Same d, F_meet_Count d, F_law04_at d, F_law04_given d, ())
def law04_alive_tab (C : law04_alive_C) : List Go.Tx.Spec := [meet_Last_sp C.1, meet_All_sp C.2.1, ref04_Same_sp C.2.2.1, meet_Count_sp C.2.2.2.1, law04_at_sp C.2.2.2.2.1, law04_given_sp C.2.2.2.2.2.1]
abbrev law04_alive_Y0i : Type := Unit
def law04_alive_S0i (v : law04_alive_Y0i) : St := ⟨[], []⟩
def law04_alive_r0 (C : law04_alive_C) (v : law04_alive_Y0i) : Dt law04_alive_Y0i := (Dt.ret ())
theorem law04_alive_g0 (C : law04_alive_C) (v : law04_alive_Y0i) : treg tysT (orc (law04_alive_tab C)) 58 (regO (bodyOf f14) 0) false [] (law04_alive_S0i v) some = (law04_alive_r0 C v).eval fun y => some (law04_alive_S0i y) := by kernel_rfl
abbrev law04_alive_Y1 : Type := List Diiii × Int
def law04_alive_S1 (v : law04_alive_Y1) : St := ⟨[(1, .fz Riiii v.1), (2, .int .i64 v.2)], []⟩
def law04_alive_r1 (C : law04_alive_C) (v : law04_alive_Y0i) : Dt law04_alive_Y1 := (Dt.bnd (C.2.2.2.2.2.1 (())) fun r1 => (Dt.bnd (C.2.2.2.2.1 (((-1:Int), ()), ())) fun r2 => (Dt.bnd (C.2.2.2.2.1 (((6:Int), ()), ())) fun r3 => (Dt.bnd (C.2.1 ((r1, ()), (r2.1, r2.2, ()), (r3.1, r3.2, ()), ())) fun r4 => (Dt.ret (r4.1, r4.2))))))
theorem law04_alive_g1 (C : law04_alive_C) (v : law04_alive_Y0i) : treg tysT (orc (law04_alive_tab C)) 58 (regO (bodyOf f14) 1) false [(1, (.val Riiii)), (2, .any)] (law04_alive_S0i v) some = (law04_alive_r1 C v).eval fun y => some (law04_alive_S1 y) := by kernel_rfl
abbrev law04_alive_Y2 : Type := List Diiii × Int × Int × Int
def law04_alive_S2 (v : law04_alive_Y2) : St := ⟨[(1, .fz Riiii v.1), (2, .int .i64 v.2.1), (3, .int .i64 v.2.2.1), (4, .int .i64 v.2.2.2)], []⟩
def law04_alive_r2 (C : law04_alive_C) (v : law04_alive_Y1) : Dt law04_alive_Y2 := (Dt.bnd (C.2.2.2.2.2.1 (())) fun r1 => (Dt.bnd (C.2.2.2.2.1 (((0:Int), ()), ())) fun r2 => (Dt.bnd (C.2.2.2.2.1 (((5:Int), ()), ())) fun r3 => (Dt.bnd (C.2.2.2.1 ((r1, ()), (r2.1, r2.2, ()), (r3.1, r3.2, ()), ())) fun r4 => (Dt.ret (v.1, v.2, r4.1, r4.2))))))
theorem law04_alive_g2 (C : law04_alive_C) (v : law04_alive_Y1) : treg tysT (orc (law04_alive_tab C)) 58 (regO (bodyOf f14) 2) false [(1, (.val Riiii)), (2, .any), (3, .any), (4, .any)] (law04_alive_S1 v) some = (law04_alive_r2 C v).eval fun y => some (law04_alive_S2 y) := by kernel_rfl
abbrev law04_alive_Y3 : Type := List Diiii × Int × Int × Int × Int × Int × Int
def law04_alive_S3 (v : law04_alive_Y3) : St := ⟨[(1, .fz Riiii v.1), (2, .int .i64 v.2.1), (3, .int .i64 v.2.2.1), (4, .int .i64 v.2.2.2.1), (5, .ptr 0 0), (6, .int .i64 v.2.2.2.2.1)], [.cells [.int .i64 v.2.2.2.2.2.1, .int .i64 v.2.2.2.2.2.2]]⟩
def law04_alive_r3 (C : law04_alive_C) (v : law04_alive_Y2) : Dt law04_alive_Y3 := (Dt.bnd (C.2.2.2.2.2.1 (())) fun r1 => (Dt.bnd (C.1 ((r1, ()), ())) fun r2 => (Dt.ret (v.1, v.2.1, v.2.2.1, v.2.2.2, r2.2.2, r2.1, r2.2.1))))
theorem law04_alive_g3 (C : law04_alive_C) (v : law04_alive_Y2) : treg tysT (orc (law04_alive_tab C)) 58 (regO (bodyOf f14) 3) false [(1, (.val Riiii)), (2, .any), (3, .any), (4, .any), (5, .any), (6, .any)] (law04_alive_S2 v) some = (law04_alive_r3 C v).eval fun y => some (law04_alive_S3 y) := by kernel_rfl
abbrev law04_alive_Y4 : Type := List Diiii × Int × Int × Int × Int × Int × Int × List Diiii
def law04_alive_S4 (v : law04_alive_Y4) : St := ⟨[(1, .fz Riiii v.1), (2, .int .i64 v.2.1), (3, .int .i64 v.2.2.1), (4, .int .i64 v.2.2.2.1), (5, .ptr 0 0), (6, .int .i64 v.2.2.2.2.1), (7, .rs 1)], [.cells [.int .i64 v.2.2.2.2.2.1, .int .i64 v.2.2.2.2.2.2.1], .rows Riiii v.2.2.2.2.2.2.2]⟩
def law04_alive_r4 (C : law04_alive_C) (v : law04_alive_Y3) : Dt law04_alive_Y4 := (Dt.bnd (C.2.2.2.2.1 (((0:Int), ()), ())) fun r1 => (Dt.bnd (C.2.2.2.2.1 (((2:Int), ()), ())) fun r2 => (Dt.bnd (C.2.2.2.2.1 (((6:Int), ()), ())) fun r3 => (Dt.ret (v.1, v.2.1, v.2.2.1, v.2.2.2.1, v.2.2.2.2.1, v.2.2.2.2.2.1, v.2.2.2.2.2.2, ([(r1.1, r1.2, (1:Int), (5:Int), ()), (r2.1, r2.2, (1:Int), (2:Int), ()), (r3.1, r3.2, (2:Int), (5:Int), ())] : List Diiii))))))
theorem law04_alive_g4 (C : law04_alive_C) (v : law04_alive_Y3) : treg tysT (orc (law04_alive_tab C)) 58 (regO (bodyOf f14) 4) false [(1, (.val Riiii)), (2, .any), (3, .any), (4, .any), (5, .any), (6, .any), (7, (.own Riiii))] (law04_alive_S3 v) some = (law04_alive_r4 C v).eval fun y => some (law04_alive_S4 y) := by kernel_rfl
abbrev law04_alive_Y5 : Type := Bool
def law04_alive_S5 (v : law04_alive_Y5) : St := ⟨[(0, .bool v)], []⟩
def law04_alive_r5 (C : law04_alive_C) (v : law04_alive_Y4) : Dt law04_alive_Y5 := (Dt.ite (v.2.1 == (0:Int)) (Dt.bnd (C.2.2.1 ((v.1, ()), (v.2.2.2.2.2.2.2, ()), ())) fun r1 => (Dt.ite r1 (Dt.ite (v.2.2.2.1 == (0:Int)) (Dt.ite (v.2.2.1 == (1:Int)) (Dt.ite (v.2.2.2.2.1 == (0:Int)) (Dt.bnd (C.2.2.2.2.1 (((6:Int), ()), ())) fun r2 => (Dt.ret ((v.2.2.2.2.2.1 == r2.1) && ((v.2.2.2.2.2.2.1 == r2.2) && true)))) (Dt.ret false)) (Dt.ret false)) (Dt.ret false)) (Dt.ret false))) (Dt.ret false))
theorem law04_alive_g5 (C : law04_alive_C) (v : law04_alive_Y4) : treg tysT (orc (law04_alive_tab C)) 58 (regO (bodyOf f14) 5) true [(0, .any)] (law04_alive_S4 v) some = (law04_alive_r5 C v).eval fun y => some (law04_alive_S5 y) := by kernel_rfl
def F_law04_alive (d : Nat) (x : law04_alive_X) : Option law04_alive_R :=
  (law04_alive_r0 (law04_alive_K d) ()).eval fun y0 =>
  (law04_alive_r1 (law04_alive_K d) ()).eval fun y1 =>
  (law04_alive_r2 (law04_alive_K d) y1).eval fun y2 =>
  (law04_alive_r3 (law04_alive_K d) y2).eval fun y3 =>
  (law04_alive_r4 (law04_alive_K d) y3).eval fun y4 =>
  (law04_alive_r5 (law04_alive_K d) y4).eval fun y5 =>
  some y5
theorem law04_alive_cok (d : Nat) : COK prog (law04_alive_sp (F_law04_alive d)) := by
  have hm : prog.follows .mixedOrders = true := mixed
  have hT := tys
  have hC0 : OrcOK prog (orc (law04_alive_tab (law04_alive_K d))) := orc_ok (by
    intro S hS
    simp only [law04_alive_tab, List.mem_cons, List.not_mem_nil, or_false] at hS
    rcases hS with rfl | rfl | rfl | rfl | rfl | rfl
    · exact meet_Last_cok d
    · exact meet_All_cok d
    · exact ref04_Same_cok d
    · exact meet_Count_cok d
    · exact law04_at_cok d
    · exact law04_given_cok d)
  have hC : OrcOK prog (orc (law04_alive_tab (law04_alive_K d))) := hC0
  refine cok_of (c := bodyOf f14) (fn := f14) hT (by kernel_rfl) (by kernel_rfl) (by decide) fun x r h w0 φ0 Q hend => ?_
  replace h : F_law04_alive d x = some r := h
  unfold F_law04_alive at h
  show Run prog w0 φ0 58 (bodyOf f14) ⟨[], []⟩ Q
  refine run_seq ?_
  refine run_reg hm hT hC (law04_alive_g0 (law04_alive_K d) ()) h ?_
  intro y0 h
  refine cn_then ?_
  refine run_seq ?_
  refine run_reg hm hT hC (law04_alive_g1 (law04_alive_K d) ()) h ?_
  intro y1 h
  refine cn_then ?_
  refine run_seq ?_
  refine run_reg hm hT hC (law04_alive_g2 (law04_alive_K d) y1) h ?_
  intro y2 h
  refine cn_then ?_
  refine run_seq ?_
  refine run_reg hm hT hC (law04_alive_g3 (law04_alive_K d) y2) h ?_
  intro y3 h
  refine cn_then ?_
  refine run_seq ?_
  refine run_reg hm hT hC (law04_alive_g4 (law04_alive_K d) y3) h ?_
  intro y4 h
  refine cn_then ?_
  refine run_seq ?_
  refine run_reg hm hT hC (law04_alive_g5 (law04_alive_K d) y4) h ?_
  intro y5 h
  refine cn_then ?_
  refine run_ret ?_
  cases h
  exact (hend _ (by kernel_rfl)).2
end Go.Proofs.Ythopjgahedijcaa

namespace Go.Proofs.Ythopjgahedijcaa
open Go Go.Tx Go.Pel
theorem cmpI64_eq (d : Nat) (a b : Int) : F_cmp_Compare_int64 d ((a, ()), (b, ()), ()) = some (cmpZ a b) := by
  simp only [F_cmp_Compare_int64, cmp_Compare_int64_K, cmp_Compare_int64_r0, cmp_Compare_int64_r1, cmp_Compare_int64_r2, cmp_Compare_int64_r3, cmp_Compare_int64_r4, cmp_Compare_int64_r5, cmp_Compare_int64_r6, cmp_Compare_int64_r7, cmp_Compare_int64_r8, cmp_Compare_int64_r9, cmp_Compare_int64_r10, cmp_Compare_int64_r11, cmp_Compare_int64_r12, cmp_Compare_int64_r13, F_cmp_isNaN_int64, cmp_isNaN_int64_K, cmp_isNaN_int64_r0, cmp_isNaN_int64_r1, Dt.eval, bne_self_eq_false, cond_false]
  unfold cmpZ
  by_cases h1 : a < b
  · simp only [h1, decide_true, cond_true, if_true]
  · by_cases h2 : b < a
    · simp only [h1, h2, gt_iff_lt, decide_true, decide_false, cond_true, cond_false, if_true, if_false]
    · simp only [h1, h2, gt_iff_lt, decide_false, cond_false, if_false]
theorem cmpU64_eq (d : Nat) (a b : Int) : F_cmp_Compare_uint64 d ((a, ()), (b, ()), ()) = some (cmpZ a b) := by
  simp only [F_cmp_Compare_uint64, cmp_Compare_uint64_K, cmp_Compare_uint64_r0, cmp_Compare_uint64_r1, cmp_Compare_uint64_r2, cmp_Compare_uint64_r3, cmp_Compare_uint64_r4, cmp_Compare_uint64_r5, cmp_Compare_uint64_r6, cmp_Compare_uint64_r7, cmp_Compare_uint64_r8, cmp_Compare_uint64_r9, cmp_Compare_uint64_r10, cmp_Compare_uint64_r11, cmp_Compare_uint64_r12, cmp_Compare_uint64_r13, F_cmp_isNaN_uint64, cmp_isNaN_uint64_K, cmp_isNaN_uint64_r0, cmp_isNaN_uint64_r1, Dt.eval, bne_self_eq_false, cond_false]
  unfold cmpZ
  by_cases h1 : a < b
  · simp only [h1, decide_true, cond_true, if_true]
  · by_cases h2 : b < a
    · simp only [h1, h2, gt_iff_lt, decide_true, decide_false, cond_true, cond_false, if_true, if_false]
    · simp only [h1, h2, gt_iff_lt, decide_false, cond_false, if_false]
theorem cmpInt_eq (d : Nat) (a b : Int) : F_cmp_Compare_int d ((a, ()), (b, ()), ()) = some (cmpZ a b) := by
  simp only [F_cmp_Compare_int, cmp_Compare_int_K, cmp_Compare_int_r0, cmp_Compare_int_r1, cmp_Compare_int_r2, cmp_Compare_int_r3, cmp_Compare_int_r4, cmp_Compare_int_r5, cmp_Compare_int_r6, cmp_Compare_int_r7, cmp_Compare_int_r8, cmp_Compare_int_r9, cmp_Compare_int_r10, cmp_Compare_int_r11, cmp_Compare_int_r12, cmp_Compare_int_r13, F_cmp_isNaN_int, cmp_isNaN_int_K, cmp_isNaN_int_r0, cmp_isNaN_int_r1, Dt.eval, bne_self_eq_false, cond_false]
  unfold cmpZ
  by_cases h1 : a < b
  · simp only [h1, decide_true, cond_true, if_true]
  · by_cases h2 : b < a
    · simp only [h1, h2, gt_iff_lt, decide_true, decide_false, cond_true, cond_false, if_true, if_false]
    · simp only [h1, h2, gt_iff_lt, decide_false, cond_false, if_false]
theorem abs_eq (d : Nat) (a : Int) (h : i64B a = true) : F_ratio_abs d ((a, ()), ()) = some (a.natAbs : Int) := by
  have h := i64B_iff h
  simp only [F_ratio_abs, ratio_abs_K, ratio_abs_r0, ratio_abs_r1, ratio_abs_r2, ratio_abs_r3, Dt.eval]
  by_cases h1 : a < 0
  · simp only [h1, decide_true, cond_true, IntKind.wrap_u64]
    exact congrArg some (by omega : ((0 : Int) - a % 18446744073709551616) % 18446744073709551616 = (a.natAbs : Int))
  · simp only [h1, decide_false, cond_false, IntKind.wrap_u64]
    exact congrArg some (by omega : (a % 18446744073709551616 : Int) = (a.natAbs : Int))
theorem mul_cond {a b : Int} (ha : i64B a = true) (hb : i64B b = true) : (a * b).natAbs < 340282366920938463463374607431768211456 := by
  have ha := i64B_iff ha
  have hb := i64B_iff hb
  rw [Int.natAbs_mul]
  have := Nat.mul_le_mul (show a.natAbs ≤ 9223372036854775808 by omega) (show b.natAbs ≤ 9223372036854775808 by omega)
  omega
theorem times_eq (d : Nat) (a b : Int) (ha : i64B a = true) (hb : i64B b = true) : F_ratio_times d ((a, ()), (b, ()), ()) = some (!((decide (a < 0)) == (decide (b < 0))), (((a * b).natAbs / 18446744073709551616 : Nat) : Int), (((a * b).natAbs % 18446744073709551616 : Nat) : Int)) := by
  have e1 := abs_eq d a ha
  have e2 := abs_eq d b hb
  have ha' := i64B_iff ha
  have hb' := i64B_iff hb
  have e3 : F_math_bits_Mul64 d (((a.natAbs : Int), ()), ((b.natAbs : Int), ()), ()) = some (((a.natAbs : Int) * (b.natAbs : Int)) / 18446744073709551616, ((a.natAbs : Int) * (b.natAbs : Int)) % 18446744073709551616) := by
    rw [F_math_bits_Mul64_eq _ _ (by unfold math_bits_Mul64_if u64B; simp only [Bool.and_eq_true, decide_eq_true_eq]; omega)]
  simp only [F_ratio_times, ratio_times_K, ratio_times_r0, ratio_times_r1, ratio_times_r2, Dt.eval, e1, e2, e3]
  rw [Int.natAbs_mul]
  simp
theorem ltZ (a b : Int) : cmpZ a b = -1 ∧ a < b ∨ cmpZ a b = 0 ∧ a = b ∨ cmpZ a b = 1 ∧ b < a := by
  unfold cmpZ
  repeat' split
  all_goals omega
theorem ratio_compare_eq (d : Nat) (n1 n2 : Bool) (P Q : Nat) : F_ratio_compare d ((n1, ((P / 18446744073709551616 : Nat) : Int), ((P % 18446744073709551616 : Nat) : Int), ()), (n2, ((Q / 18446744073709551616 : Nat) : Int), ((Q % 18446744073709551616 : Nat) : Int), ()), ()) = some (cmpZ (P : Int) (Q : Int)) := by
  simp only [F_ratio_compare, ratio_compare_K, ratio_compare_r0, ratio_compare_r1, ratio_compare_r2, ratio_compare_r3, ratio_compare_r4, Dt.eval, cmpU64_eq]
  rcases ltZ ((P / 18446744073709551616 : Nat) : Int) ((Q / 18446744073709551616 : Nat) : Int) with ⟨h1, h2⟩ | ⟨h1, h2⟩ | ⟨h1, h2⟩
  · simp only [h1, show ((-1 : Int) != 0) = true from rfl, cond_true]
    rw [cmpZ_lt (by omega)]
  · simp only [h1, show ((0 : Int) != 0) = false from rfl, cond_false]
    rcases ltZ (P : Int) (Q : Int) with ⟨k1, k2⟩ | ⟨k1, k2⟩ | ⟨k1, k2⟩
    · rw [k1, cmpZ_lt (by omega)]
    · rw [k1, cmpZ_eq (by omega)]
    · rw [k1, cmpZ_gt (by omega)]
  · simp only [h1, show ((1 : Int) != 0) = true from rfl, cond_true]
    rw [cmpZ_gt (by omega)]
theorem both_eq (d : Nat) (n1 d1 n2 d2 : Int) (h1 : i64B n1 = true) (h2 : i64B d1 = true) (h3 : i64B n2 = true) (h4 : i64B d2 = true) : F_ratio_both d ((n1, d1, ()), (n2, d2, ()), ()) = some (tmax (ratioChk n1 d1) (ratioChk n2 d2)) := by
  have e1 : F_ratio_Check d ((n1, d1, ()), ()) = some (ratioChk n1 d1) := F_ratio_Check_eq _ _ (by unfold ratio_Check_if; simp only [h1, h2, Bool.and_self])
  have e2 : F_ratio_Check d ((n2, d2, ()), ()) = some (ratioChk n2 d2) := F_ratio_Check_eq _ _ (by unfold ratio_Check_if; simp only [h3, h4, Bool.and_self])
  simp only [F_ratio_both, ratio_both_K, ratio_both_r0, ratio_both_r1, Dt.eval, e1, e2]
/-- fractions compared, and an error -/
def cmpR (n1 d1 n2 d2 : Int) : Int × Int := if ratioChk n1 d1 = 0 ∧ ratioChk n2 d2 = 0 then (cmpQ n1 d1 n2 d2, 0) else (0, 8)
theorem rCmp_eq (d : Nat) (n1 d1 n2 d2 : Int) (h1 : i64B n1 = true) (h2 : i64B d1 = true) (h3 : i64B n2 = true) (h4 : i64B d2 = true) : F_ratio_Cmp d ((n1, d1, ()), (n2, d2, ()), ()) = some (cmpR n1 d1 n2 d2) := by
  unfold cmpR
  have e0 := both_eq d n1 d1 n2 d2 h1 h2 h3 h4
  by_cases hc : ratioChk n1 d1 = 0 ∧ ratioChk n2 d2 = 0
  · rw [if_pos hc]
    rw [hc.1, hc.2] at e0
    obtain ⟨g1, _, _⟩ := ratioChk_zero hc.1
    obtain ⟨g2, _, _⟩ := ratioChk_zero hc.2
    have e1 := times_eq d n1 d2 h1 h4
    have e2 := times_eq d n2 d1 h3 h2
    have e3 := cmpI64_eq d n1 n2
    simp only [F_ratio_Cmp, ratio_Cmp_K, ratio_Cmp_r0, ratio_Cmp_r1, ratio_Cmp_r2, ratio_Cmp_r3, ratio_Cmp_r4, ratio_Cmp_r5, ratio_Cmp_r6, ratio_Cmp_r7, ratio_Cmp_r8, ratio_Cmp_r9, ratio_Cmp_J1, Dt.eval, e0, e1, e2, e3, ratio_compare_eq, show tmax 0 0 = 0 from rfl, show ((0 : Int) != 0) = false from rfl, cond_false]
    unfold cmpQ
    have p1 : 0 < d1 := by omega
    have p2 : 0 < d2 := by omega
    have s1 : (n1 < 0 → n1 * d2 < 0) ∧ (0 ≤ n1 → 0 ≤ n1 * d2) := ⟨fun h => Int.mul_neg_of_neg_of_pos h p2, fun h => Int.mul_nonneg h (by omega)⟩
    have s2 : (n2 < 0 → n2 * d1 < 0) ∧ (0 ≤ n2 → 0 ≤ n2 * d1) := ⟨fun h => Int.mul_neg_of_neg_of_pos h p1, fun h => Int.mul_nonneg h (by omega)⟩
    generalize n1 * d2 = P at *
    generalize n2 * d1 = Q at *
    by_cases k1 : n1 < 0 <;> by_cases k2 : n2 < 0 <;> simp only [k1, k2, decide_true, decide_false, beq_self_eq_true, Bool.not_true, Bool.not_false, cond_true, cond_false, Bool.false_beq, Bool.true_beq]
    · have := s1.1 k1
      have := s2.1 k2
      rcases ltZ (P.natAbs : Int) (Q.natAbs : Int) with ⟨g1, g2⟩ | ⟨g1, g2⟩ | ⟨g1, g2⟩
      · rw [g1, cmpZ_gt (a := P) (b := Q) (by omega)]; rfl
      · rw [g1, cmpZ_eq (a := P) (b := Q) (by omega)]; rfl
      · rw [g1, cmpZ_lt (a := P) (b := Q) (by omega)]; rfl
    · have := s1.1 k1
      have := s2.2 (by omega)
      rw [cmpZ_lt (by omega), cmpZ_lt (by omega)]
    · have := s1.2 (by omega)
      have := s2.1 k2
      rw [cmpZ_gt (by omega), cmpZ_gt (by omega)]
    · have := s1.2 (by omega)
      have := s2.2 (by omega)
      rw [show (P.natAbs : Int) = P by omega, show (Q.natAbs : Int) = Q by omega]
  · rw [if_neg hc]
    have e1 : tmax (ratioChk n1 d1) (ratioChk n2 d2) = 8 := by
      unfold tmax
      rcases ratioChk_cases n1 d1 with q1 | q1 <;> rcases ratioChk_cases n2 d2 with q2 | q2
      · exact absurd ⟨q1, q2⟩ hc
      all_goals rw [q1, q2]; rfl
    rw [e1] at e0
    simp only [F_ratio_Cmp, ratio_Cmp_K, ratio_Cmp_r0, ratio_Cmp_r1, ratio_Cmp_r2, ratio_Cmp_r3, Dt.eval, e0, show ((8 : Int) != 0) = true from rfl, cond_true]
theorem later_eq (d : Nat) (n1 d1 n2 d2 : Int) (h1 : i64B n1 = true) (h2 : i64B d1 = true) (h3 : i64B n2 = true) (h4 : i64B d2 = true) : F_meet_later d ((n1, d1, ()), (n2, d2, ()), ()) = some (cmpR n1 d1 n2 d2).1 := by
  have e1 := rCmp_eq d n1 d1 n2 d2 h1 h2 h3 h4
  simp only [F_meet_later, meet_later_K, meet_later_r0, meet_later_r1, meet_later_r2, Dt.eval, e1]
theorem rSign_eq (d : Nat) (P : Int) : F_ref01_Sign d ((decide (P < 0), ((P.natAbs / 18446744073709551616 : Nat) : Int), ((P.natAbs % 18446744073709551616 : Nat) : Int), ()), ()) = some (cmpZ P 0) := by
  simp only [F_ref01_Sign, ref01_Sign_K, ref01_Sign_r0, ref01_Sign_r1, ref01_Sign_r2, ref01_Sign_r3, ref01_Sign_r4, ref01_Sign_r5, Dt.eval]
  by_cases h0 : P = 0
  · subst h0; rfl
  · have hne : ¬ (((P.natAbs / 18446744073709551616 : Nat) : Int) = 0 ∧ ((P.natAbs % 18446744073709551616 : Nat) : Int) = 0) := by omega
    have hh : (bif (((P.natAbs / 18446744073709551616 : Nat) : Int) == 0) then (((P.natAbs % 18446744073709551616 : Nat) : Int) == 0) else false) = false := by
      cases h1 : (((P.natAbs / 18446744073709551616 : Nat) : Int) == 0) with
      | false => rfl
      | true => rw [cond_true, beq_eq_false_iff_ne]; rw [beq_iff_eq] at h1; intro h2; exact hne ⟨h1, h2⟩
    cases h1 : (((P.natAbs / 18446744073709551616 : Nat) : Int) == 0) with
    | false =>
      simp only [cond_false]
      rcases ltZ P 0 with ⟨k1, k2⟩ | ⟨k1, k2⟩ | ⟨k1, k2⟩
      · simp only [k1, k2, decide_true, cond_true]
      · exact absurd k2 h0
      · simp only [k1, show ¬ P < 0 by omega, decide_false, cond_false]
    | true =>
      rw [h1, cond_true] at hh
      simp only [cond_true, hh, cond_false]
      rcases ltZ P 0 with ⟨k1, k2⟩ | ⟨k1, k2⟩ | ⟨k1, k2⟩
      · simp only [k1, k2, decide_true, cond_true]
      · exact absurd k2 h0
      · simp only [k1, show ¬ P < 0 by omega, decide_false, cond_false]
theorem rLess_eq (d : Nat) (n1 n2 : Bool) (P Q : Nat) : F_ref01_less d ((n1, ((P / 18446744073709551616 : Nat) : Int), ((P % 18446744073709551616 : Nat) : Int), ()), (n2, ((Q / 18446744073709551616 : Nat) : Int), ((Q % 18446744073709551616 : Nat) : Int), ()), ()) = some (cmpZ (P : Int) (Q : Int)) := by
  simp only [F_ref01_less, ref01_less_K, ref01_less_r0, ref01_less_r1, ref01_less_r2, ref01_less_r3, ref01_less_r4, ref01_less_r5, ref01_less_r6, ref01_less_r7, ref01_less_r8, ref01_less_r9, Dt.eval]
  obtain ⟨a, ha⟩ : ∃ a : Int, ((P / 18446744073709551616 : Nat) : Int) = a := ⟨_, rfl⟩
  obtain ⟨b, hb⟩ : ∃ a : Int, ((P % 18446744073709551616 : Nat) : Int) = a := ⟨_, rfl⟩
  obtain ⟨c, hc⟩ : ∃ a : Int, ((Q / 18446744073709551616 : Nat) : Int) = a := ⟨_, rfl⟩
  obtain ⟨e, he⟩ : ∃ a : Int, ((Q % 18446744073709551616 : Nat) : Int) = a := ⟨_, rfl⟩
  rw [ha, hb, hc, he]
  rcases ltZ a c with ⟨_, k2⟩ | ⟨_, k2⟩ | ⟨_, k2⟩
  · have e1 : (a != c) = true := by simp; omega
    simp only [e1, k2, decide_true, cond_true]
    rw [cmpZ_lt (by omega)]
  · have e1 : (a != c) = false := by simp; omega
    simp only [e1, cond_false]
    rcases ltZ b e with ⟨_, g2⟩ | ⟨_, g2⟩ | ⟨_, g2⟩
    · have e2 : (b != e) = true := by simp; omega
      simp only [e2, g2, decide_true, cond_true]
      rw [cmpZ_lt (by omega)]
    · have e2 : (b != e) = false := by simp; omega
      simp only [e2, cond_false]
      rw [cmpZ_eq (by omega)]
    · have e2 : (b != e) = true := by simp; omega
      simp only [e2, show ¬ b < e by omega, decide_false, cond_true, cond_false]
      rw [cmpZ_gt (by omega)]
  · have e1 : (a != c) = true := by simp; omega
    simp only [e1, show ¬ a < c by omega, decide_false, cond_true, cond_false]
    rw [cmpZ_gt (by omega)]
theorem rCompare_eq (d : Nat) (n1 d1 n2 d2 : Int) (h1 : i64B n1 = true) (h2 : i64B d1 = true) (h3 : i64B n2 = true) (h4 : i64B d2 = true) : F_ref01_Compare d ((n1, d1, ()), (n2, d2, ()), ()) = some (cmpQ n1 d1 n2 d2) := by
  have e1 : F_ref01_Product d ((n1, ()), (d2, ()), ()) = some (decide (n1 * d2 < 0), (((n1 * d2).natAbs / 18446744073709551616 : Nat) : Int), (((n1 * d2).natAbs % 18446744073709551616 : Nat) : Int)) := F_ref01_Product_eq _ _ (by unfold ref01_Product_if; simp only [h1, h4, Bool.and_self])
  have e2 : F_ref01_Product d ((n2, ()), (d1, ()), ()) = some (decide (n2 * d1 < 0), (((n2 * d1).natAbs / 18446744073709551616 : Nat) : Int), (((n2 * d1).natAbs % 18446744073709551616 : Nat) : Int)) := F_ref01_Product_eq _ _ (by unfold ref01_Product_if; simp only [h3, h2, Bool.and_self])
  unfold cmpQ
  generalize n1 * d2 = P at *
  generalize n2 * d1 = Q at *
  have hs := @cmp_sign P Q
  have hn := @cmp_neg P Q
  have hp := @cmp_pos P Q
  simp only [F_ref01_Compare, ref01_Compare_K, ref01_Compare_r0, ref01_Compare_r1, ref01_Compare_r2, ref01_Compare_r3, ref01_Compare_r4, ref01_Compare_r5, ref01_Compare_r6, ref01_Compare_r7, ref01_Compare_r8, Dt.eval, e1, e2, rSign_eq, rLess_eq]
  by_cases hg : cmpZ P 0 = cmpZ Q 0
  · have g1 : (cmpZ P 0 != cmpZ Q 0) = false := by simp [hg]
    simp only [g1, cond_false]
    by_cases h0 : cmpZ P 0 < 0
    · simp only [h0, decide_true, cond_true]; rw [hn hg h0]
    · simp only [h0, decide_false, cond_false]; rw [hp hg h0]
  · have g1 : (cmpZ P 0 != cmpZ Q 0) = true := by simp [hg]
    simp only [g1, cond_true]
    have := hs hg
    by_cases h0 : cmpZ P 0 < cmpZ Q 0
    · rw [if_pos h0] at this; simp only [h0, decide_true, cond_true]; rw [this]
    · rw [if_neg h0] at this; simp only [h0, decide_false, cond_false]; rw [this]
end Go.Proofs.Ythopjgahedijcaa

namespace Go.Pel
open Go Go.Tx
abbrev T3 : Type := Int × Int × Int × Unit
abbrev M4 : Type := Int × Int × Int × Int × Unit
theorem q_le {a b c d1 d2 d3 : Int} (h1 : 1 ≤ d1) (h2 : 1 ≤ d2) (h3 : 1 ≤ d3) (h : a * d2 ≤ b * d1) (k : b * d3 ≤ c * d2) : a * d3 ≤ c * d1 := by
  have e1 : a * d3 * d2 ≤ c * d1 * d2 := by
    have := Int.mul_le_mul_of_nonneg_right h (show (0 : Int) ≤ d3 by omega)
    have := Int.mul_le_mul_of_nonneg_right k (show (0 : Int) ≤ d1 by omega)
    rw [Int.mul_right_comm a d3 d2, Int.mul_right_comm c d1 d2]
    have e : b * d1 * d3 = b * d3 * d1 := Int.mul_right_comm b d1 d3
    omega
  exact Int.le_of_mul_le_mul_right e1 (by omega)
theorem q_lt {a b c d1 d2 d3 : Int} (h1 : 1 ≤ d1) (h2 : 1 ≤ d2) (h3 : 1 ≤ d3) (h : a * d2 < b * d1) (k : b * d3 ≤ c * d2) : a * d3 < c * d1 := by
  have e1 : a * d3 * d2 < c * d1 * d2 := by
    have := Int.mul_lt_mul_of_pos_right h (show (0 : Int) < d3 by omega)
    have := Int.mul_le_mul_of_nonneg_right k (show (0 : Int) ≤ d1 by omega)
    rw [Int.mul_right_comm a d3 d2, Int.mul_right_comm c d1 d2]
    have e : b * d1 * d3 = b * d3 * d1 := Int.mul_right_comm b d1 d3
    omega
  exact Int.lt_of_mul_lt_mul_right e1 (by omega)
theorem q_lt' {a b c d1 d2 d3 : Int} (h1 : 1 ≤ d1) (h2 : 1 ≤ d2) (h3 : 1 ≤ d3) (h : a * d2 ≤ b * d1) (k : b * d3 < c * d2) : a * d3 < c * d1 := by
  have e1 : a * d3 * d2 < c * d1 * d2 := by
    have := Int.mul_le_mul_of_nonneg_right h (show (0 : Int) ≤ d3 by omega)
    have := Int.mul_lt_mul_of_pos_right k (show (0 : Int) < d1 by omega)
    rw [Int.mul_right_comm a d3 d2, Int.mul_right_comm c d1 d2]
    have e : b * d1 * d3 = b * d3 * d1 := Int.mul_right_comm b d1 d3
    omega
  exact Int.lt_of_mul_lt_mul_right e1 (by omega)
/-- fractions in lowest terms are equal if their values are -/
theorem q_eq {a b d1 d2 : Int} (h1 : ratioChk a d1 = 0) (h2 : ratioChk b d2 = 0) (h : a * d2 = b * d1) : a = b ∧ d1 = d2 := by
  obtain ⟨p1, _, g1⟩ := ratioChk_zero h1
  obtain ⟨p2, _, g2⟩ := ratioChk_zero h2
  have hn : a.natAbs * d2.toNat = b.natAbs * d1.toNat := by
    have := congrArg Int.natAbs h
    rw [Int.natAbs_mul, Int.natAbs_mul] at this
    rwa [show d2.natAbs = d2.toNat by omega, show d1.natAbs = d1.toNat by omega] at this
  have k1 : d1.toNat ∣ d2.toNat := Nat.Coprime.dvd_of_dvd_mul_left (k := d1.toNat) (m := a.natAbs) (n := d2.toNat) g1 ⟨b.natAbs, by rw [hn, Nat.mul_comm]⟩
  have k2 : d2.toNat ∣ d1.toNat := Nat.Coprime.dvd_of_dvd_mul_left (k := d2.toNat) (m := b.natAbs) (n := d1.toNat) g2 ⟨a.natAbs, by rw [← hn, Nat.mul_comm]⟩
  have e : d1.toNat = d2.toNat := Nat.dvd_antisymm k1 k2
  have e' : d1 = d2 := by omega
  subst e'
  exact ⟨Int.eq_of_mul_eq_mul_right (by omega) h, rfl⟩
def okM (x : M4) : Prop := ratioChk x.1 x.2.1 = 0
def cmpM (x y : M4) : Int := orZ (cmpQ x.1 x.2.1 y.1 y.2.1) (orZ (cmpZ x.2.2.1 y.2.2.1) (cmpZ x.2.2.2.1 y.2.2.2.1))
def ltM (x y : M4) : Bool := decide (cmpM x y < 0)
theorem ltM_iff (x y : M4) : ltM x y = true ↔ x.1 * y.2.1 < y.1 * x.2.1 ∨ (x.1 * y.2.1 = y.1 * x.2.1 ∧ (x.2.2.1 < y.2.2.1 ∨ (x.2.2.1 = y.2.2.1 ∧ x.2.2.2.1 < y.2.2.2.1))) := by
  unfold ltM cmpM cmpQ orZ cmpZ
  rw [decide_eq_true_eq]
  generalize x.1 * y.2.1 = P
  generalize y.1 * x.2.1 = Q
  repeat' split
  all_goals omega
theorem ltM_not (x y : M4) (h : ltM x y = false) : ¬ (x.1 * y.2.1 < y.1 * x.2.1 ∨ (x.1 * y.2.1 = y.1 * x.2.1 ∧ (x.2.2.1 < y.2.2.1 ∨ (x.2.2.1 = y.2.2.1 ∧ x.2.2.2.1 < y.2.2.2.1)))) := by
  intro k; rw [(ltM_iff x y).2 k] at h; cases h
theorem ltM_irr (x : M4) : ltM x x = false := by
  rw [← Bool.not_eq_true, ltM_iff]; omega
theorem ltM_asymm {x y : M4} (h : ltM x y = true) : ltM y x = false := by
  rw [ltM_iff] at h
  rw [← Bool.not_eq_true, ltM_iff]; omega
theorem ltM_trans {x y z : M4} (hx : okM x) (hy : okM y) (hz : okM z) (h : ltM x y = true) (k : ltM y z = true) : ltM x z = true := by
  obtain ⟨p1, _, _⟩ := ratioChk_zero hx
  obtain ⟨p2, _, _⟩ := ratioChk_zero hy
  obtain ⟨p3, _, _⟩ := ratioChk_zero hz
  rw [ltM_iff] at h k ⊢
  have a1 := @q_lt x.1 y.1 z.1 x.2.1 y.2.1 z.2.1 p1 p2 p3
  have a2 := @q_lt' x.1 y.1 z.1 x.2.1 y.2.1 z.2.1 p1 p2 p3
  have a3 := @q_le x.1 y.1 z.1 x.2.1 y.2.1 z.2.1 p1 p2 p3
  have a4 := @q_le z.1 y.1 x.1 z.2.1 y.2.1 x.2.1 p3 p2 p1
  generalize x.1 * y.2.1 = A at *
  generalize y.1 * x.2.1 = B at *
  generalize y.1 * z.2.1 = C at *
  generalize z.1 * y.2.1 = D at *
  generalize x.1 * z.2.1 = E at *
  generalize z.1 * x.2.1 = G at *
  rcases h with h | ⟨h, h'⟩
  · left
    refine a1 h ?_
    rcases k with k | ⟨k, _⟩ <;> omega
  · rcases k with k | ⟨k, k'⟩
    · left; exact a2 (by omega) k
    · right
      refine ⟨Int.le_antisymm (a3 (by omega) (by omega)) (a4 (by omega) (by omega)), by omega⟩
theorem ltM_neg {x y z : M4} (hx : okM x) (hy : okM y) (hz : okM z) (h : ltM x y = false) (k : ltM y z = false) : ltM x z = false := by
  obtain ⟨p1, _, _⟩ := ratioChk_zero hx
  obtain ⟨p2, _, _⟩ := ratioChk_zero hy
  obtain ⟨p3, _, _⟩ := ratioChk_zero hz
  have h := ltM_not _ _ h
  have k := ltM_not _ _ k
  rw [← Bool.not_eq_true, ltM_iff]
  have a1 := @q_lt z.1 y.1 x.1 z.2.1 y.2.1 x.2.1 p3 p2 p1
  have a2 := @q_lt' z.1 y.1 x.1 z.2.1 y.2.1 x.2.1 p3 p2 p1
  have a3 := @q_le x.1 y.1 z.1 x.2.1 y.2.1 z.2.1 p1 p2 p3
  have a4 := @q_le z.1 y.1 x.1 z.2.1 y.2.1 x.2.1 p3 p2 p1
  generalize x.1 * y.2.1 = A at *
  generalize y.1 * x.2.1 = B at *
  generalize y.1 * z.2.1 = C at *
  generalize z.1 * y.2.1 = D at *
  generalize x.1 * z.2.1 = E at *
  generalize z.1 * x.2.1 = G at *
  have f4 := a4 (by omega) (by omega)
  intro q
  have hE : E = G := by omega
  have hAB : A = B := by
    rcases Int.lt_or_eq_of_le (show B ≤ A by omega) with h5 | h5
    · have := a2 (by omega) h5; omega
    · omega
  have hCD : C = D := by
    rcases Int.lt_or_eq_of_le (show D ≤ C by omega) with h5 | h5
    · have := a1 h5 (by omega); omega
    · omega
  omega
theorem ltM_eq {x y : M4} (hx : okM x) (hy : okM y) (h : ltM x y = false) (k : ltM y x = false) : x = y := by
  have h := ltM_not _ _ h
  have k := ltM_not _ _ k
  obtain ⟨e1, e2⟩ := q_eq hx hy (by omega)
  obtain ⟨a, b, c, e, ⟨⟩⟩ := x
  obtain ⟨a', b', c', e', ⟨⟩⟩ := y
  simp only at e1 e2 h k
  subst e1 e2
  have : c = c' := by omega
  have : e = e' := by omega
  subst_vars; rfl
/-- sorted lists of the same meetings are the same -/
theorem sorted_uniq {l m : List M4} (hok : ∀ x ∈ l, okM x) (hp : l.Perm m) (hl : l.Pairwise fun a b => ltM b a = false) (hm : m.Pairwise fun a b => ltM b a = false) : l = m := by
  refine List.Perm.eq_of_pairwise (le := fun a b => ltM b a = false) ?_ hl hm hp
  intro a b ha hb h k
  exact ltM_eq (hok a ha) (hok b (hp.symm.mem_iff.1 hb)) k h
theorem mk_ok {n d : Int} (hd : d ≠ 0) (hn : n.natAbs ≤ 4194304) (hd2 : d.natAbs ≤ 4194304) : (mk n d).2.2 = 0 ∧ ratioChk (mk n d).1 (mk n d).2.1 = 0 ∧ (mk n d).1.natAbs ≤ 4194304 ∧ (mk n d).2.1 ≤ 4194304 := by
  have hg := mk_gcd_pos (n := n) hd
  rw [mk_some hd]
  have b1 : n.natAbs / Nat.gcd n.natAbs d.natAbs ≤ n.natAbs := Nat.div_le_self _ _
  have b2 : d.natAbs / Nat.gcd n.natAbs d.natAbs ≤ d.natAbs := Nat.div_le_self _ _
  have b3 : 1 ≤ d.natAbs / Nat.gcd n.natAbs d.natAbs := Nat.div_pos (Nat.gcd_le_right _ (by omega)) hg
  have hc : Nat.gcd (d.natAbs / Nat.gcd n.natAbs d.natAbs) (n.natAbs / Nat.gcd n.natAbs d.natAbs) = 1 := by
    rw [Nat.gcd_comm]; exact Nat.coprime_div_gcd_div_gcd hg
  generalize n.natAbs / Nat.gcd n.natAbs d.natAbs = A at *
  generalize d.natAbs / Nat.gcd n.natAbs d.natAbs = B at *
  have hno : ¬ (0 < 0 ∨ 9223372036854775807 < A ∨ 0 < 0 ∨ 9223372036854775807 < B) := by omega
  cases (decide (n < 0) != decide (d < 0)) with
  | true =>
    rw [bld_neg hno]
    refine ⟨rfl, ratioChk_one (by simp only; omega) (by simp only; omega) ?_, by simp only; omega, by simp only; omega⟩
    simp only [Int.toNat_natCast, Int.natAbs_neg, Int.natAbs_natCast]; exact hc
  | false =>
    rw [bld_pos hno]
    refine ⟨rfl, ratioChk_one (by simp only; omega) (by simp only; omega) ?_, by simp only; omega, by simp only; omega⟩
    simp only [Int.toNat_natCast, Int.natAbs_natCast]; exact hc
/-- where two points meet -/
def mtP (x : T3 × T3) : Option M4 := if x.1.2.2.1 = x.2.2.2.1 then none else some ((mk (x.1.2.1 - x.2.2.1) (x.2.2.2.1 - x.1.2.2.1)).1, (mk (x.1.2.1 - x.2.2.1) (x.2.2.2.1 - x.1.2.2.1)).2.1, x.1.1, x.2.1, ())
def meetsL (l : List T3) : List M4 := (pairsL l).filterMap mtP
def allM (l : List T3) : List M4 := sortL ltM (meetsL l)
def okP (p : T3) : Prop := (ofP p).chk = 0
theorem pairsL_mem {α : Type} {R : α → α → Prop} : ∀ {l : List α} {x : α × α}, x ∈ pairsL l → l.Pairwise R → x.1 ∈ l ∧ x.2 ∈ l ∧ R x.1 x.2
  | [], x, h, _ => by cases h
  | p :: r, x, h, hR => by
    obtain ⟨h1, h2⟩ := List.pairwise_cons.1 hR
    rw [pairsL] at h
    rcases List.mem_append.1 h with h | h
    · obtain ⟨q, hq, rfl⟩ := List.mem_map.1 h
      exact ⟨List.mem_cons_self .., List.mem_cons_of_mem _ hq, h1 q hq⟩
    · obtain ⟨a, b, c⟩ := pairsL_mem h h2
      exact ⟨List.mem_cons_of_mem _ a, List.mem_cons_of_mem _ b, c⟩
theorem pairsL_len {α : Type} : ∀ l : List α, (pairsL l).length ≤ l.length * l.length
  | [] => Nat.le_refl _
  | p :: r => by
    have := pairsL_len r
    rw [pairsL, List.length_append, List.length_map, List.length_cons]
    have e : (r.length + 1) * (r.length + 1) = r.length * r.length + 2 * r.length + 1 := by
      rw [Nat.mul_add, Nat.add_mul]; omega
    omega
theorem mt_ok {x : T3 × T3} {y : M4} (h1 : okP x.1) (h2 : okP x.2) (h : mtP x = some y) : okM y ∧ y.1.natAbs ≤ 4194304 ∧ y.2.1 ≤ 4194304 := by
  unfold mtP at h
  split at h
  · cases h
  · rename_i hb
    injection h with h; subst h
    obtain ⟨_, _, a1, a2, a3, a4⟩ := pointChk_zero (show pointChk x.1.1 x.1.2.1 x.1.2.2.1 = 0 from h1)
    obtain ⟨_, _, b1, b2, b3, b4⟩ := pointChk_zero (show pointChk x.2.1 x.2.2.1 x.2.2.2.1 = 0 from h2)
    obtain ⟨_, k1, k2, k3⟩ := mk_ok (n := x.1.2.1 - x.2.2.1) (d := x.2.2.2.1 - x.1.2.2.1) (by omega) (by omega) (by omega)
    exact ⟨k1, k2, k3⟩
/-- a field is valid -/
structure FldOk (l : List T3) : Prop where
  len : l.length ≤ 64
  ok : ∀ p ∈ l, okP p
  inc : l.Pairwise fun p q => p.1 < q.1
theorem meets_ok {l : List T3} (h : FldOk l) {y : M4} (hy : y ∈ meetsL l) : okM y ∧ y.1.natAbs ≤ 4194304 ∧ y.2.1 ≤ 4194304 := by
  obtain ⟨x, hx, he⟩ := List.mem_filterMap.1 hy
  obtain ⟨h1, h2, _⟩ := pairsL_mem hx h.inc
  exact mt_ok (h.ok _ h1) (h.ok _ h2) he
theorem meets_len {l : List T3} (h : FldOk l) : (meetsL l).length ≤ 4096 := by
  have h1 := List.length_filterMap_le mtP (pairsL l)
  have h2 := pairsL_len l
  have h3 := Nat.mul_le_mul h.len h.len
  unfold meetsL; omega
theorem allM_perm (l : List T3) : (allM l).Perm (meetsL l) := sortL_perm _ _
theorem allM_ok {l : List T3} (h : FldOk l) {y : M4} (hy : y ∈ allM l) : okM y ∧ y.1.natAbs ≤ 4194304 ∧ y.2.1 ≤ 4194304 := meets_ok h ((allM_perm l).mem_iff.1 hy)
theorem allM_len {l : List T3} (h : FldOk l) : (allM l).length ≤ 4096 := by rw [(allM_perm l).length_eq]; exact meets_len h
theorem allM_pw {l : List T3} (h : FldOk l) : (allM l).Pairwise fun a b => ltM b a = false :=
  sortL_pw (S := okM) (fun a b _ _ h => ltM_asymm h) (fun a b c ha hb hc h k => ltM_neg ha hb hc h k) _ fun a ha => (meets_ok h ha).1
theorem allM_only {l : List T3} (h : FldOk l) {m : List M4} (hp : m.Perm (meetsL l)) (hm : m.Pairwise fun a b => ltM b a = false) : m = allM l :=
  sorted_uniq (fun x hx => (meets_ok h (hp.mem_iff.1 hx)).1) (hp.trans (allM_perm l).symm) hm (allM_pw h)
end Go.Pel

namespace Go.Tx
theorem insL_congr {α : Type} {f g : α → α → Bool} {x : α} : ∀ {l : List α}, (∀ a ∈ l, f x a = g x a) → insL f x l = insL g x l
  | [], _ => rfl
  | y :: ys, h => by
    rw [insL, insL, h y (List.mem_cons_self ..), insL_congr fun a ha => h a (List.mem_cons_of_mem _ ha)]
theorem sortL_congr {α : Type} {f g : α → α → Bool} : ∀ {l : List α}, (∀ a ∈ l, ∀ b ∈ l, f a b = g a b) → sortL f l = sortL g l
  | [], _ => rfl
  | x :: xs, h => by
    rw [sortL, sortL, sortL_congr fun a ha b hb => h a (List.mem_cons_of_mem _ ha) b (List.mem_cons_of_mem _ hb)]
    exact insL_congr fun a ha => h x (List.mem_cons_self ..) a (List.mem_cons_of_mem _ ((sortL_perm g xs).mem_iff.1 ha))
theorem loopF_map {α β : Type} {step : α → List β → Option (List β)} {g : α → Option β} {P : α → Prop} (hs : ∀ a acc, P a → acc.length ≤ 99999 → step a acc = some (acc ++ (g a).toList)) : ∀ (l : List α) (acc : List β), (∀ a ∈ l, P a) → acc.length + l.length ≤ 99999 → loopF step l acc = some (acc ++ l.filterMap g)
  | [], acc, _, _ => by simp [loopF]
  | a :: l, acc, h, hl => by
    rw [List.length_cons] at hl
    have h1 : (g a).toList.length ≤ 1 := by cases g a <;> simp
    rw [loopF, hs a acc (h a (List.mem_cons_self ..)) (by omega)]
    show loopF step l (acc ++ (g a).toList) = _
    rw [loopF_map hs l _ (fun b hb => h b (List.mem_cons_of_mem _ hb)) (by rw [List.length_append]; omega)]
    cases hg : g a <;> simp [hg]
theorem sortV_gen {τ : Row} {F : den τ × den τ × Unit → Option Int} {S : den τ → Prop} {lt : den τ → den τ → Bool} {c : den τ → den τ → Int} {xs : List (den τ)} (hS : ∀ x ∈ xs, S x) (hF : ∀ x y, S x → S y → F (x, y, ()) = some (c x y)) (hc : ∀ x y, lt x y = decide (c x y < 0)) (hi : ∀ x, lt x x = false)
    (ht : ∀ x y z, S x → S y → S z → lt x y = true → lt y z = true → lt x z = true) (hn : ∀ x y z, S x → S y → S z → lt x y = false → lt y z = false → lt x z = false) (he : ∀ x y, S x → S y → lt x y = false → lt y x = false → eqR τ x y = true) (hl : xs.length ≤ 1000000) : sortV F xs = some (sortL lt xs) := by
  have hlt : ∀ x y, S x → S y → ltV F x y = lt x y := fun x y hx hy => by unfold ltV cmpV; rw [hF x y hx hy, hc]
  have hB : sortB F xs = true := by
    unfold sortB
    simp only [Bool.and_eq_true, List.all_eq_true, Bool.or_eq_true, Bool.not_eq_true']
    refine ⟨⟨⟨⟨fun x hx y hy => ?_, fun x hx => ?_⟩, fun x hx y hy => ?_⟩, fun x hx y hy => ?_⟩, fun x hx y hy => ?_⟩
    · rw [hF x y (hS x hx) (hS y hy)]; rfl
    · rw [hlt x x (hS x hx) (hS x hx)]; exact hi x
    · rw [hlt x y (hS x hx) (hS y hy)]
      cases hxy : lt x y with
      | false => exact .inl rfl
      | true =>
        refine .inr fun z hz => ?_
        rw [hlt y z (hS y hy) (hS z hz), hlt x z (hS x hx) (hS z hz)]
        cases hyz : lt y z with
        | false => exact .inl rfl
        | true => exact .inr (ht x y z (hS x hx) (hS y hy) (hS z hz) hxy hyz)
    · rw [hlt x y (hS x hx) (hS y hy)]
      cases hxy : lt x y with
      | true => exact .inl rfl
      | false =>
        refine .inr fun z hz => ?_
        rw [hlt y z (hS y hy) (hS z hz), hlt x z (hS x hx) (hS z hz)]
        cases hyz : lt y z with
        | true => exact .inl rfl
        | false => exact .inr (hn x y z (hS x hx) (hS y hy) (hS z hz) hxy hyz)
    · rw [hlt x y (hS x hx) (hS y hy), hlt y x (hS y hy) (hS x hx)]
      cases hxy : lt x y with
      | true => exact .inl (.inl rfl)
      | false =>
        cases hyx : lt y x with
        | true => exact .inl (.inr rfl)
        | false => exact .inr (he x y (hS x hx) (hS y hy) hxy hyx)
  unfold sortV
  rw [hB, show Nat.ble xs.length 1000000 = true by rw [Nat.ble_eq]; exact hl]
  exact congrArg some (sortL_congr fun a ha b hb => hlt a b (hS a ha) (hS b hb))
end Go.Tx
namespace Go.Proofs.Ythopjgahedijcaa
open Go Go.Tx Go.Pel
theorem i64B_of {a : Int} (h : a.natAbs ≤ 9223372036854775807) : i64B a = true := by
  unfold i64B; simp only [Bool.and_eq_true, decide_eq_true_eq]; omega
theorem orInt_eq (d : Nat) (hd : 5 ≤ d) (a b c : Int) : F_cmp_Or_int d (([(a, ()), (b, ()), (c, ())], ()), ()) = some (orZ a (orZ b c)) := by
  obtain ⟨n, rfl⟩ : ∃ n, d = n + 5 := ⟨d - 5, by omega⟩
  have w1 : IntKind.wrap .i64 ((0 : Int) + 1) = 1 := by decide
  have w2 : IntKind.wrap .i64 ((1 : Int) + 1) = 2 := by decide
  have w3 : IntKind.wrap .i64 ((2 : Int) + 1) = 3 := by decide
  have w4 : IntKind.wrap .i64 (1 : Int) = 1 := by decide
  have w5 : IntKind.wrap .i64 (2 : Int) = 2 := by decide
  have w6 : IntKind.wrap .i64 (3 : Int) = 3 := by decide
  have b0 : inB 0 3 = true := by decide
  have b1 : inB 1 3 = true := by decide
  have b2 : inB 2 3 = true := by decide
  unfold orZ
  by_cases ha : a = 0
  · by_cases hb : b = 0
    · by_cases hc : c = 0
      · subst ha hb hc
        simp [F_cmp_Or_int, cmp_Or_int_K, cmp_Or_int_r0, cmp_Or_int_r1, cmp_Or_int_r2, cmp_Or_int_r3, cmp_Or_int_r4, cmp_Or_int_r5, cmp_Or_int_r6, cmp_Or_int_r7, cmp_Or_int_r8, cmp_Or_int_L1, iter, Dt.eval, w1, w2, w3, w4, w5, w6, b0, b1, b2, elt]
      · subst ha hb
        simp [F_cmp_Or_int, cmp_Or_int_K, cmp_Or_int_r0, cmp_Or_int_r1, cmp_Or_int_r2, cmp_Or_int_r3, cmp_Or_int_r4, cmp_Or_int_r5, cmp_Or_int_r6, cmp_Or_int_r7, cmp_Or_int_r8, cmp_Or_int_L1, iter, Dt.eval, w1, w2, w3, w4, w5, w6, b0, b1, b2, elt, show (c != 0) = true by simpa using hc]
    · subst ha
      simp [F_cmp_Or_int, cmp_Or_int_K, cmp_Or_int_r0, cmp_Or_int_r1, cmp_Or_int_r2, cmp_Or_int_r3, cmp_Or_int_r4, cmp_Or_int_r5, cmp_Or_int_r6, cmp_Or_int_r7, cmp_Or_int_r8, cmp_Or_int_L1, iter, Dt.eval, w1, w2, w3, w4, w5, w6, b0, b1, b2, elt, show (b != 0) = true by simpa using hb]
      intro h; exact absurd h hb
  · simp [F_cmp_Or_int, cmp_Or_int_K, cmp_Or_int_r0, cmp_Or_int_r1, cmp_Or_int_r2, cmp_Or_int_r3, cmp_Or_int_r4, cmp_Or_int_r5, cmp_Or_int_r6, cmp_Or_int_r7, cmp_Or_int_r8, cmp_Or_int_L1, iter, Dt.eval, w1, w2, w3, w4, w5, w6, b0, b1, b2, elt, show (a != 0) = true by simpa using ha]
    intro h; exact absurd h ha
structure okW (x : M4) : Prop where
  ok : okM x
  n : x.1.natAbs ≤ 4194304
  d : x.2.1 ≤ 4194304
theorem okW.b1 {x : M4} (h : okW x) : i64B x.1 = true := i64B_of (by have := h.n; omega)
theorem okW.b2 {x : M4} (h : okW x) : i64B x.2.1 = true := i64B_of (by have := h.d; have := (ratioChk_zero h.ok).1; omega)
theorem order_eq (d : Nat) (hd : 5 ≤ d) {x y : M4} (hx : okW x) (hy : okW y) : F_meet_order d (x, y, ()) = some (cmpM x y) := by
  have e1 : F_meet_later d ((x.1, x.2.1, ()), (y.1, y.2.1, ()), ()) = some (cmpQ x.1 x.2.1 y.1 y.2.1) := by
    rw [later_eq d _ _ _ _ hx.b1 hx.b2 hy.b1 hy.b2]; unfold cmpR; rw [if_pos ⟨hx.ok, hy.ok⟩]
  have e2 := cmpInt_eq d x.2.2.1 y.2.2.1
  have e3 := cmpInt_eq d x.2.2.2.1 y.2.2.2.1
  simp only [F_meet_order, meet_order_K, meet_order_r0, meet_order_r1, Dt.eval, e1, e2, e3, orInt_eq d hd]
  rfl
theorem sortV_eq (d : Nat) (hd : 5 ≤ d) {xs : List M4} (h : ∀ x ∈ xs, okW x) (hl : xs.length ≤ 1000000) : sortV (τ := Riiii) (F_meet_order d) xs = some (sortL ltM xs) :=
  sortV_gen (τ := Riiii) (S := okW) (lt := ltM) (c := cmpM) h (fun x y hx hy => order_eq d hd hx hy) (fun _ _ => rfl) ltM_irr (fun x y z hx hy hz => ltM_trans hx.ok hy.ok hz.ok) (fun x y z hx hy hz => ltM_neg hx.ok hy.ok hz.ok) (fun x y hx hy h1 h2 => by
    have := ltM_eq hx.ok hy.ok h1 h2
    subst this
    show (x.1 == x.1 && (x.2.1 == x.2.1 && (x.2.2.1 == x.2.2.1 && (x.2.2.2.1 == x.2.2.2.1 && true)))) = true
    simp only [beq_self_eq_true, Bool.and_self]) hl
theorem pt_bd {p : T3} (h : okP p) : 0 ≤ p.1 ∧ p.1 ≤ 65535 ∧ -1048576 ≤ p.2.1 ∧ p.2.1 ≤ 1048576 ∧ -1048576 ≤ p.2.2.1 ∧ p.2.2.1 ≤ 1048576 := pointChk_zero (show pointChk p.1 p.2.1 p.2.2.1 = 0 from h)
theorem meet_eq (d : Nat) {p q : T3} (hp : okP p) (hq : okP q) (hi : p.1 ≠ q.1) : F_course_Meet d ((p.1, p.2.1, p.2.2.1, ()), (q.1, q.2.1, q.2.2.1, ()), ()) =
    some (if p.2.2.1 = q.2.2.1 then (0, 0, 6) else ((mk (p.2.1 - q.2.1) (q.2.2.1 - p.2.2.1)).1, (mk (p.2.1 - q.2.1) (q.2.2.1 - p.2.2.1)).2.1, 0)) := by
  obtain ⟨_, _, a1, a2, a3, a4⟩ := pt_bd hp
  obtain ⟨_, _, b1, b2, b3, b4⟩ := pt_bd hq
  have e1 : F_course_two d ((p.1, p.2.1, p.2.2.1, ()), (q.1, q.2.1, q.2.2.1, ()), ((0 : Int), (1 : Int), ()), ()) = some 0 := by
    rw [F_course_two_eq _ _ (by rfl)]
    exact congrArg some (twoChk_ok ⟨hp, hq, show ratioChk 0 1 = 0 by decide⟩ hi)
  have w1 : IntKind.wrap .i64 (p.2.1 - q.2.1) = p.2.1 - q.2.1 := IntWalk.i64_in _ (by omega)
  have w2 : IntKind.wrap .i64 (q.2.2.1 - p.2.2.1) = q.2.2.1 - p.2.2.1 := IntWalk.i64_in _ (by omega)
  have e2 : F_ratio_Make d ((p.2.1 - q.2.1, ()), (q.2.2.1 - p.2.2.1, ()), ()) = some ((mk (p.2.1 - q.2.1) (q.2.2.1 - p.2.2.1)).1, (mk (p.2.1 - q.2.1) (q.2.2.1 - p.2.2.1)).2.1, (mk (p.2.1 - q.2.1) (q.2.2.1 - p.2.2.1)).2.2) :=
    F_ratio_Make_eq _ _ (by unfold ratio_Make_if; simp only; rw [i64B_of (by omega), i64B_of (by omega)]; rfl)
  simp only [F_course_Meet, course_Meet_K, course_Meet_r0, course_Meet_r1, course_Meet_r2, course_Meet_r3, course_Meet_r4, course_Meet_r5, course_Meet_r6, Dt.eval, e1, show ((0 : Int) != 0) = false from rfl, cond_false]
  by_cases hb : p.2.2.1 = q.2.2.1
  · simp only [hb, beq_self_eq_true, cond_true, if_true]
  · have hb' : (p.2.2.1 == q.2.2.1) = false := by simpa using hb
    have h0 := (mk_ok (n := p.2.1 - q.2.1) (d := q.2.2.1 - p.2.2.1) (by omega) (by omega) (by omega)).1
    simp only [hb', cond_false, hb, if_false, w1, w2, e2, h0]
    rfl
theorem all_eq (d : Nat) (hd : 5 ≤ d) {l : List T3} (h : FldOk l) : F_meet_all d ((l, ()), ()) = some (allM l) := by
  have hlen := pairsL_len l
  have hl4 := Nat.mul_le_mul h.len h.len
  have e1 : F_meet_pairs d ((l, ()), ()) = some l := by simp only [F_meet_pairs, meet_pairs_K, meet_pairs_r0, meet_pairs_r1, Dt.eval]
  have hp : pairsB l = true := by unfold pairsB; rw [Nat.ble_eq]; have := h.len; omega
  have hstep : ∀ (x : T3 × T3) (acc : List M4), (okP x.1 ∧ okP x.2 ∧ x.1.1 ≠ x.2.1) → acc.length ≤ 99999 → step2 (meet_all_A1 d) (meet_all_B1 d) x acc = some (acc ++ (mtP x).toList) := by
    rintro x acc ⟨h1, h2, h3⟩ hacc
    have e2 := meet_eq d h1 h2 h3
    have ha : apB acc.length 1 = true := by unfold apB; rw [Nat.ble_eq]; omega
    unfold step2 meet_all_A1 meet_all_B1 mtP
    simp only [meet_all_r3, meet_all_r4, meet_all_r5, meet_all_r6, meet_all_r7, Dt.eval, meet_all_K, e2, Option.bind_some]
    by_cases hb : x.1.2.2.1 = x.2.2.2.1
    · simp only [hb, if_true, show ((6 : Int) == 0) = false from rfl, cond_false]
      simp
    · simp only [hb, if_false, show ((0 : Int) == 0) = true from rfl, cond_true, List.length_cons, List.length_nil, Nat.zero_add, ha]
      simp
  have e3 := loopF_map hstep (pairsL l) [] (fun x hx => by
    obtain ⟨g1, g2, g3⟩ := pairsL_mem hx h.inc
    exact ⟨h.ok _ g1, h.ok _ g2, by omega⟩) (by simp; omega)
  have e4 := sortV_eq d hd (xs := meetsL l) (fun x hx => ⟨(meets_ok h hx).1, (meets_ok h hx).2.1, (meets_ok h hx).2.2⟩) (by have := meets_len h; omega)
  simp only [F_meet_all, meet_all_K, meet_all_r0, meet_all_r1, meet_all_r2, meet_all_r8, meet_all_r9, Dt.eval, e1, hp, cond_true]
  rw [e3]
  simp only [Option.bind_some, List.nil_append]
  rw [show (pairsL l).filterMap mtP = meetsL l from rfl, e4]
  rfl
end Go.Proofs.Ythopjgahedijcaa
