/- Walks of the references; the orders agree; examples. -/
import Derived.Test.YtdpnndpbbdhnmaaGe
set_option linter.unusedSimpArgs false
set_option linter.unusedVariables false
namespace Go.Proofs.Ytdpnndpbbdhnmaa
open Go Go.Tx Go.Proofs.Try
set_option maxRecDepth 100000
set_option maxHeartbeats 0
abbrev ref01_Sign_ps : List Pk := [.row Rbuu true]
abbrev ref01_Sign_X : Type := Dbuu × Unit
abbrev ref01_Sign_R : Type := Int
def ref01_Sign_enc (r : ref01_Sign_R) : LV × List Ob := (.int .i64 r, [])
def ref01_Sign_sp (F : ref01_Sign_X → Option ref01_Sign_R) : Go.Tx.Spec := ⟨54, ref01_Sign_ps, ref01_Sign_R, F, ref01_Sign_enc⟩
abbrev ref01_Sign_C : Type := Unit
def ref01_Sign_K (_d : Nat) : ref01_Sign_C := ()
def ref01_Sign_tab (C : ref01_Sign_C) : List Go.Tx.Spec := []
abbrev ref01_Sign_Y0i : Type := Bool × Int × Int
def ref01_Sign_S0i (v : ref01_Sign_Y0i) : St := ⟨[(0, .agg [.bool v.1, .int .u64 v.2.1, .int .u64 v.2.2])], []⟩
abbrev ref01_Sign_Y0 : Type := Bool × Int × Int
def ref01_Sign_S0 (v : ref01_Sign_Y0) : St := ⟨[(1, .ptr 0 0)], [.cells [.bool v.1, .int .u64 v.2.1, .int .u64 v.2.2]]⟩
def ref01_Sign_r0 (C : ref01_Sign_C) (v : ref01_Sign_Y0i) : Dt ref01_Sign_Y0 := (Dt.ret (v.1, v.2.1, v.2.2))
theorem ref01_Sign_g0 (C : ref01_Sign_C) (v : ref01_Sign_Y0i) : treg tysT (orc (ref01_Sign_tab C)) 13 (regO (bodyOf f54) 0) false [(1, .any)] (ref01_Sign_S0i v) some = (ref01_Sign_r0 C v).eval fun y => some (ref01_Sign_S0 y) := by kernel_rfl
abbrev ref01_Sign_Y1 : Type := Bool × Bool × Int × Int
def ref01_Sign_S1 (v : ref01_Sign_Y1) : St := ⟨[(1, .ptr 0 0), (10, .bool v.1)], [.cells [.bool v.2.1, .int .u64 v.2.2.1, .int .u64 v.2.2.2]]⟩
def ref01_Sign_r1 (C : ref01_Sign_C) (v : ref01_Sign_Y0) : Dt ref01_Sign_Y1 := (Dt.ite (v.2.1 == (0:Int)) (Dt.ret ((v.2.2 == (0:Int)), v.1, v.2.1, v.2.2)) (Dt.ret (false, v.1, v.2.1, v.2.2)))
theorem ref01_Sign_g1 (C : ref01_Sign_C) (v : ref01_Sign_Y0) : treg tysT (orc (ref01_Sign_tab C)) 13 (regO (bodyOf f54) 1) false [(1, .any), (10, .any)] (ref01_Sign_S0 v) some = (ref01_Sign_r1 C v).eval fun y => some (ref01_Sign_S1 y) := by kernel_rfl
abbrev ref01_Sign_Y2 : Type := Int
def ref01_Sign_S2 (v : ref01_Sign_Y2) : St := ⟨[(2, .int .i64 v)], []⟩
def ref01_Sign_r2 (C : ref01_Sign_C) (v : ref01_Sign_Y1) : Dt ref01_Sign_Y2 := (Dt.ret (0:Int))
theorem ref01_Sign_g2 (C : ref01_Sign_C) (v : ref01_Sign_Y1) : treg tysT (orc (ref01_Sign_tab C)) 13 (regO (bodyOf f54) 2) false [(2, .any)] (ref01_Sign_S1 v) some = (ref01_Sign_r2 C v).eval fun y => some (ref01_Sign_S2 y) := by kernel_rfl
abbrev ref01_Sign_Y3 : Type := Bool
def ref01_Sign_S3 (v : ref01_Sign_Y3) : St := ⟨[(12, .bool v)], []⟩
def ref01_Sign_r3 (C : ref01_Sign_C) (v : ref01_Sign_Y1) : Dt ref01_Sign_Y3 := (Dt.ret v.2.1)
theorem ref01_Sign_g3 (C : ref01_Sign_C) (v : ref01_Sign_Y1) : treg tysT (orc (ref01_Sign_tab C)) 13 (regO (bodyOf f54) 3) false [(12, .any)] (ref01_Sign_S1 v) some = (ref01_Sign_r3 C v).eval fun y => some (ref01_Sign_S3 y) := by kernel_rfl
def ref01_Sign_r4 (C : ref01_Sign_C) (v : ref01_Sign_Y3) : Dt ref01_Sign_Y2 := (Dt.ret (-1:Int))
theorem ref01_Sign_g4 (C : ref01_Sign_C) (v : ref01_Sign_Y3) : treg tysT (orc (ref01_Sign_tab C)) 13 (regO (bodyOf f54) 4) false [(2, .any)] (ref01_Sign_S3 v) some = (ref01_Sign_r4 C v).eval fun y => some (ref01_Sign_S2 y) := by kernel_rfl
def ref01_Sign_r5 (C : ref01_Sign_C) (v : ref01_Sign_Y3) : Dt ref01_Sign_Y2 := (Dt.ret (1:Int))
theorem ref01_Sign_g5 (C : ref01_Sign_C) (v : ref01_Sign_Y3) : treg tysT (orc (ref01_Sign_tab C)) 13 (regO (bodyOf f54) 5) false [(2, .any)] (ref01_Sign_S3 v) some = (ref01_Sign_r5 C v).eval fun y => some (ref01_Sign_S2 y) := by kernel_rfl
def F_ref01_Sign (d : Nat) (x : ref01_Sign_X) : Option ref01_Sign_R :=
  (ref01_Sign_r0 (ref01_Sign_K d) (x.1.1, x.1.2.1, x.1.2.2.1)).eval fun y0 =>
  (ref01_Sign_r1 (ref01_Sign_K d) y0).eval fun y1 =>
  bif y1.1 then ((ref01_Sign_r2 (ref01_Sign_K d) y1).eval fun y2 =>
  some y2) else ((ref01_Sign_r3 (ref01_Sign_K d) y1).eval fun y3 =>
  bif y3 then ((ref01_Sign_r4 (ref01_Sign_K d) y3).eval fun y4 =>
  some y4) else ((ref01_Sign_r5 (ref01_Sign_K d) y3).eval fun y5 =>
  some y5))
theorem ref01_Sign_cok (d : Nat) : COK prog (ref01_Sign_sp (F_ref01_Sign d)) := by
  have hm : prog.follows .mixedOrders = true := mixed
  have hT := tys
  have hC0 : OrcOK prog (orc (ref01_Sign_tab (ref01_Sign_K d))) := orc_ok (by
    intro S hS
    simp only [ref01_Sign_tab, List.mem_cons, List.not_mem_nil, or_false] at hS
    all_goals first | cases hS | exact hS.elim)
  have hC : OrcOK prog (orc (ref01_Sign_tab (ref01_Sign_K d))) := hC0
  refine cok_of (c := bodyOf f54) (fn := f54) hT (by kernel_rfl) (by kernel_rfl) (by decide) fun x r h w0 φ0 Q hend => ?_
  replace h : F_ref01_Sign d x = some r := h
  unfold F_ref01_Sign at h
  show Run prog w0 φ0 13 (bodyOf f54) ⟨[(0, .agg [.bool x.1.1, .int .u64 x.1.2.1, .int .u64 x.1.2.2.1])], []⟩ Q
  refine run_seq ?_
  refine run_reg hm hT hC (ref01_Sign_g0 (ref01_Sign_K d) (x.1.1, x.1.2.1, x.1.2.2.1)) h ?_
  intro y0 h
  refine cn_then ?_
  refine run_seq ?_
  refine run_seq ?_
  refine run_reg hm hT hC (ref01_Sign_g1 (ref01_Sign_K d) y0) h ?_
  intro y1 h
  refine cn_then ?_
  refine run_cond (v := y1.1) (by kernel_rfl) h ?_ ?_
  ·
    intro h
    refine run_seq ?_
    refine run_reg hm hT hC (ref01_Sign_g2 (ref01_Sign_K d) y1) h ?_
    intro y2 h
    refine cn_then ?_
    refine run_ret ?_
    refine cn_then_ret ?_
    cases h
    exact (hend _ (by kernel_rfl)).2
  ·
    intro h
    refine run_skip ?_
    refine cn_then ?_
    refine run_seq ?_
    refine run_seq ?_
    refine run_reg hm hT hC (ref01_Sign_g3 (ref01_Sign_K d) y1) h ?_
    intro y3 h
    refine cn_then ?_
    refine run_cond (v := y3) (by kernel_rfl) h ?_ ?_
    ·
      intro h
      refine run_seq ?_
      refine run_reg hm hT hC (ref01_Sign_g4 (ref01_Sign_K d) y3) h ?_
      intro y4 h
      refine cn_then ?_
      refine run_ret ?_
      refine cn_then_ret ?_
      cases h
      exact (hend _ (by kernel_rfl)).2
    ·
      intro h
      refine run_skip ?_
      refine cn_then ?_
      refine run_seq ?_
      refine run_reg hm hT hC (ref01_Sign_g5 (ref01_Sign_K d) y3) h ?_
      intro y5 h
      refine cn_then ?_
      refine run_ret ?_
      cases h
      exact (hend _ (by kernel_rfl)).2
abbrev ref01_less_ps : List Pk := [.row Rbuu true, .row Rbuu true]
abbrev ref01_less_X : Type := Dbuu × Dbuu × Unit
abbrev ref01_less_R : Type := Int
def ref01_less_enc (r : ref01_less_R) : LV × List Ob := (.int .i64 r, [])
def ref01_less_sp (F : ref01_less_X → Option ref01_less_R) : Go.Tx.Spec := ⟨55, ref01_less_ps, ref01_less_R, F, ref01_less_enc⟩
abbrev ref01_less_C : Type := Unit
def ref01_less_K (_d : Nat) : ref01_less_C := ()
def ref01_less_tab (C : ref01_less_C) : List Go.Tx.Spec := []
abbrev ref01_less_Y0i : Type := Bool × Int × Int × Bool × Int × Int
def ref01_less_S0i (v : ref01_less_Y0i) : St := ⟨[(0, .agg [.bool v.1, .int .u64 v.2.1, .int .u64 v.2.2.1]), (1, .agg [.bool v.2.2.2.1, .int .u64 v.2.2.2.2.1, .int .u64 v.2.2.2.2.2])], []⟩
abbrev ref01_less_Y0 : Type := Bool × Int × Int × Bool × Int × Int
def ref01_less_S0 (v : ref01_less_Y0) : St := ⟨[(2, .ptr 0 0), (3, .ptr 1 0)], [.cells [.bool v.1, .int .u64 v.2.1, .int .u64 v.2.2.1], .cells [.bool v.2.2.2.1, .int .u64 v.2.2.2.2.1, .int .u64 v.2.2.2.2.2]]⟩
def ref01_less_r0 (C : ref01_less_C) (v : ref01_less_Y0i) : Dt ref01_less_Y0 := (Dt.ret (v.1, v.2.1, v.2.2.1, v.2.2.2.1, v.2.2.2.2.1, v.2.2.2.2.2))
theorem ref01_less_g0 (C : ref01_less_C) (v : ref01_less_Y0i) : treg tysT (orc (ref01_less_tab C)) 25 (regO (bodyOf f55) 0) false [(2, .any), (3, .any)] (ref01_less_S0i v) some = (ref01_less_r0 C v).eval fun y => some (ref01_less_S0 y) := by kernel_rfl
abbrev ref01_less_Y1 : Type := Bool × Bool × Int × Int × Bool × Int × Int
def ref01_less_S1 (v : ref01_less_Y1) : St := ⟨[(2, .ptr 0 0), (3, .ptr 1 0), (9, .bool v.1)], [.cells [.bool v.2.1, .int .u64 v.2.2.1, .int .u64 v.2.2.2.1], .cells [.bool v.2.2.2.2.1, .int .u64 v.2.2.2.2.2.1, .int .u64 v.2.2.2.2.2.2]]⟩
def ref01_less_r1 (C : ref01_less_C) (v : ref01_less_Y0) : Dt ref01_less_Y1 := (Dt.ret ((v.2.1 != v.2.2.2.2.1), v.1, v.2.1, v.2.2.1, v.2.2.2.1, v.2.2.2.2.1, v.2.2.2.2.2))
theorem ref01_less_g1 (C : ref01_less_C) (v : ref01_less_Y0) : treg tysT (orc (ref01_less_tab C)) 25 (regO (bodyOf f55) 1) false [(2, .any), (3, .any), (9, .any)] (ref01_less_S0 v) some = (ref01_less_r1 C v).eval fun y => some (ref01_less_S1 y) := by kernel_rfl
abbrev ref01_less_Y2 : Type := Bool
def ref01_less_S2 (v : ref01_less_Y2) : St := ⟨[(14, .bool v)], []⟩
def ref01_less_r2 (C : ref01_less_C) (v : ref01_less_Y1) : Dt ref01_less_Y2 := (Dt.ret (decide (v.2.2.1 < v.2.2.2.2.2.1)))
theorem ref01_less_g2 (C : ref01_less_C) (v : ref01_less_Y1) : treg tysT (orc (ref01_less_tab C)) 25 (regO (bodyOf f55) 2) false [(14, .any)] (ref01_less_S1 v) some = (ref01_less_r2 C v).eval fun y => some (ref01_less_S2 y) := by kernel_rfl
abbrev ref01_less_Y3 : Type := Int
def ref01_less_S3 (v : ref01_less_Y3) : St := ⟨[(4, .int .i64 v)], []⟩
def ref01_less_r3 (C : ref01_less_C) (v : ref01_less_Y2) : Dt ref01_less_Y3 := (Dt.ret (-1:Int))
theorem ref01_less_g3 (C : ref01_less_C) (v : ref01_less_Y2) : treg tysT (orc (ref01_less_tab C)) 25 (regO (bodyOf f55) 3) false [(4, .any)] (ref01_less_S2 v) some = (ref01_less_r3 C v).eval fun y => some (ref01_less_S3 y) := by kernel_rfl
def ref01_less_r4 (C : ref01_less_C) (v : ref01_less_Y2) : Dt ref01_less_Y3 := (Dt.ret (1:Int))
theorem ref01_less_g4 (C : ref01_less_C) (v : ref01_less_Y2) : treg tysT (orc (ref01_less_tab C)) 25 (regO (bodyOf f55) 4) false [(4, .any)] (ref01_less_S2 v) some = (ref01_less_r4 C v).eval fun y => some (ref01_less_S3 y) := by kernel_rfl
abbrev ref01_less_Y5 : Type := Bool × Bool × Int × Int × Bool × Int × Int
def ref01_less_S5 (v : ref01_less_Y5) : St := ⟨[(2, .ptr 0 0), (3, .ptr 1 0), (19, .bool v.1)], [.cells [.bool v.2.1, .int .u64 v.2.2.1, .int .u64 v.2.2.2.1], .cells [.bool v.2.2.2.2.1, .int .u64 v.2.2.2.2.2.1, .int .u64 v.2.2.2.2.2.2]]⟩
def ref01_less_r5 (C : ref01_less_C) (v : ref01_less_Y1) : Dt ref01_less_Y5 := (Dt.ret ((v.2.2.2.1 != v.2.2.2.2.2.2), v.2.1, v.2.2.1, v.2.2.2.1, v.2.2.2.2.1, v.2.2.2.2.2.1, v.2.2.2.2.2.2))
theorem ref01_less_g5 (C : ref01_less_C) (v : ref01_less_Y1) : treg tysT (orc (ref01_less_tab C)) 25 (regO (bodyOf f55) 5) false [(2, .any), (3, .any), (19, .any)] (ref01_less_S1 v) some = (ref01_less_r5 C v).eval fun y => some (ref01_less_S5 y) := by kernel_rfl
abbrev ref01_less_Y6 : Type := Bool
def ref01_less_S6 (v : ref01_less_Y6) : St := ⟨[(24, .bool v)], []⟩
def ref01_less_r6 (C : ref01_less_C) (v : ref01_less_Y5) : Dt ref01_less_Y6 := (Dt.ret (decide (v.2.2.2.1 < v.2.2.2.2.2.2)))
theorem ref01_less_g6 (C : ref01_less_C) (v : ref01_less_Y5) : treg tysT (orc (ref01_less_tab C)) 25 (regO (bodyOf f55) 6) false [(24, .any)] (ref01_less_S5 v) some = (ref01_less_r6 C v).eval fun y => some (ref01_less_S6 y) := by kernel_rfl
def ref01_less_r7 (C : ref01_less_C) (v : ref01_less_Y6) : Dt ref01_less_Y3 := (Dt.ret (-1:Int))
theorem ref01_less_g7 (C : ref01_less_C) (v : ref01_less_Y6) : treg tysT (orc (ref01_less_tab C)) 25 (regO (bodyOf f55) 7) false [(4, .any)] (ref01_less_S6 v) some = (ref01_less_r7 C v).eval fun y => some (ref01_less_S3 y) := by kernel_rfl
def ref01_less_r8 (C : ref01_less_C) (v : ref01_less_Y6) : Dt ref01_less_Y3 := (Dt.ret (1:Int))
theorem ref01_less_g8 (C : ref01_less_C) (v : ref01_less_Y6) : treg tysT (orc (ref01_less_tab C)) 25 (regO (bodyOf f55) 8) false [(4, .any)] (ref01_less_S6 v) some = (ref01_less_r8 C v).eval fun y => some (ref01_less_S3 y) := by kernel_rfl
def ref01_less_r9 (C : ref01_less_C) (v : ref01_less_Y5) : Dt ref01_less_Y3 := (Dt.ret (0:Int))
theorem ref01_less_g9 (C : ref01_less_C) (v : ref01_less_Y5) : treg tysT (orc (ref01_less_tab C)) 25 (regO (bodyOf f55) 9) false [(4, .any)] (ref01_less_S5 v) some = (ref01_less_r9 C v).eval fun y => some (ref01_less_S3 y) := by kernel_rfl
def F_ref01_less (d : Nat) (x : ref01_less_X) : Option ref01_less_R :=
  (ref01_less_r0 (ref01_less_K d) (x.1.1, x.1.2.1, x.1.2.2.1, x.2.1.1, x.2.1.2.1, x.2.1.2.2.1)).eval fun y0 =>
  (ref01_less_r1 (ref01_less_K d) y0).eval fun y1 =>
  bif y1.1 then ((ref01_less_r2 (ref01_less_K d) y1).eval fun y2 =>
  bif y2 then ((ref01_less_r3 (ref01_less_K d) y2).eval fun y3 =>
  some y3) else ((ref01_less_r4 (ref01_less_K d) y2).eval fun y4 =>
  some y4)) else ((ref01_less_r5 (ref01_less_K d) y1).eval fun y5 =>
  bif y5.1 then ((ref01_less_r6 (ref01_less_K d) y5).eval fun y6 =>
  bif y6 then ((ref01_less_r7 (ref01_less_K d) y6).eval fun y7 =>
  some y7) else ((ref01_less_r8 (ref01_less_K d) y6).eval fun y8 =>
  some y8)) else ((ref01_less_r9 (ref01_less_K d) y5).eval fun y9 =>
  some y9))
theorem ref01_less_cok (d : Nat) : COK prog (ref01_less_sp (F_ref01_less d)) := by
  have hm : prog.follows .mixedOrders = true := mixed
  have hT := tys
  have hC0 : OrcOK prog (orc (ref01_less_tab (ref01_less_K d))) := orc_ok (by
    intro S hS
    simp only [ref01_less_tab, List.mem_cons, List.not_mem_nil, or_false] at hS
    all_goals first | cases hS | exact hS.elim)
  have hC : OrcOK prog (orc (ref01_less_tab (ref01_less_K d))) := hC0
  refine cok_of (c := bodyOf f55) (fn := f55) hT (by kernel_rfl) (by kernel_rfl) (by decide) fun x r h w0 φ0 Q hend => ?_
  replace h : F_ref01_less d x = some r := h
  unfold F_ref01_less at h
  show Run prog w0 φ0 25 (bodyOf f55) ⟨[(0, .agg [.bool x.1.1, .int .u64 x.1.2.1, .int .u64 x.1.2.2.1]), (1, .agg [.bool x.2.1.1, .int .u64 x.2.1.2.1, .int .u64 x.2.1.2.2.1])], []⟩ Q
  refine run_seq ?_
  refine run_reg hm hT hC (ref01_less_g0 (ref01_less_K d) (x.1.1, x.1.2.1, x.1.2.2.1, x.2.1.1, x.2.1.2.1, x.2.1.2.2.1)) h ?_
  intro y0 h
  refine cn_then ?_
  refine run_seq ?_
  refine run_seq ?_
  refine run_reg hm hT hC (ref01_less_g1 (ref01_less_K d) y0) h ?_
  intro y1 h
  refine cn_then ?_
  refine run_cond (v := y1.1) (by kernel_rfl) h ?_ ?_
  ·
    intro h
    refine run_seq ?_
    refine run_seq ?_
    refine run_reg hm hT hC (ref01_less_g2 (ref01_less_K d) y1) h ?_
    intro y2 h
    refine cn_then ?_
    refine run_cond (v := y2) (by kernel_rfl) h ?_ ?_
    ·
      intro h
      refine run_seq ?_
      refine run_reg hm hT hC (ref01_less_g3 (ref01_less_K d) y2) h ?_
      intro y3 h
      refine cn_then ?_
      refine run_ret ?_
      refine cn_then_ret ?_
      refine cn_then_ret ?_
      cases h
      exact (hend _ (by kernel_rfl)).2
    ·
      intro h
      refine run_skip ?_
      refine cn_then ?_
      refine run_seq ?_
      refine run_reg hm hT hC (ref01_less_g4 (ref01_less_K d) y2) h ?_
      intro y4 h
      refine cn_then ?_
      refine run_ret ?_
      refine cn_then_ret ?_
      cases h
      exact (hend _ (by kernel_rfl)).2
  ·
    intro h
    refine run_skip ?_
    refine cn_then ?_
    refine run_seq ?_
    refine run_seq ?_
    refine run_reg hm hT hC (ref01_less_g5 (ref01_less_K d) y1) h ?_
    intro y5 h
    refine cn_then ?_
    refine run_cond (v := y5.1) (by kernel_rfl) h ?_ ?_
    ·
      intro h
      refine run_seq ?_
      refine run_seq ?_
      refine run_reg hm hT hC (ref01_less_g6 (ref01_less_K d) y5) h ?_
      intro y6 h
      refine cn_then ?_
      refine run_cond (v := y6) (by kernel_rfl) h ?_ ?_
      ·
        intro h
        refine run_seq ?_
        refine run_reg hm hT hC (ref01_less_g7 (ref01_less_K d) y6) h ?_
        intro y7 h
        refine cn_then ?_
        refine run_ret ?_
        refine cn_then_ret ?_
        refine cn_then_ret ?_
        cases h
        exact (hend _ (by kernel_rfl)).2
      ·
        intro h
        refine run_skip ?_
        refine cn_then ?_
        refine run_seq ?_
        refine run_reg hm hT hC (ref01_less_g8 (ref01_less_K d) y6) h ?_
        intro y8 h
        refine cn_then ?_
        refine run_ret ?_
        refine cn_then_ret ?_
        cases h
        exact (hend _ (by kernel_rfl)).2
    ·
      intro h
      refine run_skip ?_
      refine cn_then ?_
      refine run_seq ?_
      refine run_reg hm hT hC (ref01_less_g9 (ref01_less_K d) y5) h ?_
      intro y9 h
      refine cn_then ?_
      refine run_ret ?_
      cases h
      exact (hend _ (by kernel_rfl)).2
abbrev ref01_Compare_ps : List Pk := [.row Rii true, .row Rii true]
abbrev ref01_Compare_X : Type := Dii × Dii × Unit
abbrev ref01_Compare_R : Type := Int
def ref01_Compare_enc (r : ref01_Compare_R) : LV × List Ob := (.int .i64 r, [])
def ref01_Compare_sp (F : ref01_Compare_X → Option ref01_Compare_R) : Go.Tx.Spec := ⟨23, ref01_Compare_ps, ref01_Compare_R, F, ref01_Compare_enc⟩
abbrev ref01_Compare_C : Type := (ref01_Product_X → Option ref01_Product_R) × (ref01_Sign_X → Option ref01_Sign_R) × (ref01_less_X → Option ref01_less_R) × Unit
def ref01_Compare_K (d : Nat) : ref01_Compare_C := (F_ref01_Product d, F_ref01_Sign d, F_ref01_less d, ())
def ref01_Compare_tab (C : ref01_Compare_C) : List Go.Tx.Spec := [ref01_Product_sp C.1, ref01_Sign_sp C.2.1, ref01_less_sp C.2.2.1]
abbrev ref01_Compare_Y0i : Type := Int × Int × Int × Int
def ref01_Compare_S0i (v : ref01_Compare_Y0i) : St := ⟨[(0, .agg [.int .i64 v.1, .int .i64 v.2.1]), (1, .agg [.int .i64 v.2.2.1, .int .i64 v.2.2.2])], []⟩
abbrev ref01_Compare_Y0 : Type := Int × Int × Int × Int
def ref01_Compare_S0 (v : ref01_Compare_Y0) : St := ⟨[(2, .ptr 0 0), (3, .ptr 1 0)], [.cells [.int .i64 v.1, .int .i64 v.2.1], .cells [.int .i64 v.2.2.1, .int .i64 v.2.2.2]]⟩
def ref01_Compare_r0 (C : ref01_Compare_C) (v : ref01_Compare_Y0i) : Dt ref01_Compare_Y0 := (Dt.ret (v.1, v.2.1, v.2.2.1, v.2.2.2))
theorem ref01_Compare_g0 (C : ref01_Compare_C) (v : ref01_Compare_Y0i) : treg tysT (orc (ref01_Compare_tab C)) 36 (regO (bodyOf f23) 0) false [(2, .any), (3, .any)] (ref01_Compare_S0i v) some = (ref01_Compare_r0 C v).eval fun y => some (ref01_Compare_S0 y) := by kernel_rfl
abbrev ref01_Compare_Y1 : Type := Bool × Int × Int × Bool × Int × Int
def ref01_Compare_S1 (v : ref01_Compare_Y1) : St := ⟨[(5, .ptr 0 0), (6, .ptr 1 0)], [.cells [.bool v.1, .int .u64 v.2.1, .int .u64 v.2.2.1], .cells [.bool v.2.2.2.1, .int .u64 v.2.2.2.2.1, .int .u64 v.2.2.2.2.2]]⟩
def ref01_Compare_r1 (C : ref01_Compare_C) (v : ref01_Compare_Y0) : Dt ref01_Compare_Y1 := (Dt.bnd (C.1 ((v.1, ()), (v.2.2.2, ()), ())) fun r1 => (Dt.bnd (C.1 ((v.2.2.1, ()), (v.2.1, ()), ())) fun r2 => (Dt.ret (r1.1, r1.2.1, r1.2.2, r2.1, r2.2.1, r2.2.2))))
theorem ref01_Compare_g1 (C : ref01_Compare_C) (v : ref01_Compare_Y0) : treg tysT (orc (ref01_Compare_tab C)) 36 (regO (bodyOf f23) 1) true [(5, .any), (6, .any)] (ref01_Compare_S0 v) some = (ref01_Compare_r1 C v).eval fun y => some (ref01_Compare_S1 y) := by kernel_rfl
abbrev ref01_Compare_Y2 : Type := Bool × Bool × Int × Int × Bool × Int × Int
def ref01_Compare_S2 (v : ref01_Compare_Y2) : St := ⟨[(5, .ptr 0 0), (6, .ptr 1 0), (21, .bool v.1)], [.cells [.bool v.2.1, .int .u64 v.2.2.1, .int .u64 v.2.2.2.1], .cells [.bool v.2.2.2.2.1, .int .u64 v.2.2.2.2.2.1, .int .u64 v.2.2.2.2.2.2]]⟩
def ref01_Compare_r2 (C : ref01_Compare_C) (v : ref01_Compare_Y1) : Dt ref01_Compare_Y2 := (Dt.bnd (C.2.1 ((v.1, v.2.1, v.2.2.1, ()), ())) fun r1 => (Dt.bnd (C.2.1 ((v.2.2.2.1, v.2.2.2.2.1, v.2.2.2.2.2, ()), ())) fun r2 => (Dt.ret ((r1 != r2), v.1, v.2.1, v.2.2.1, v.2.2.2.1, v.2.2.2.2.1, v.2.2.2.2.2))))
theorem ref01_Compare_g2 (C : ref01_Compare_C) (v : ref01_Compare_Y1) : treg tysT (orc (ref01_Compare_tab C)) 36 (regO (bodyOf f23) 2) true [(5, .any), (6, .any), (21, .any)] (ref01_Compare_S1 v) some = (ref01_Compare_r2 C v).eval fun y => some (ref01_Compare_S2 y) := by kernel_rfl
abbrev ref01_Compare_Y3 : Type := Bool
def ref01_Compare_S3 (v : ref01_Compare_Y3) : St := ⟨[(26, .bool v)], []⟩
def ref01_Compare_r3 (C : ref01_Compare_C) (v : ref01_Compare_Y2) : Dt ref01_Compare_Y3 := (Dt.bnd (C.2.1 ((v.2.1, v.2.2.1, v.2.2.2.1, ()), ())) fun r1 => (Dt.bnd (C.2.1 ((v.2.2.2.2.1, v.2.2.2.2.2.1, v.2.2.2.2.2.2, ()), ())) fun r2 => (Dt.ret (decide (r1 < r2)))))
theorem ref01_Compare_g3 (C : ref01_Compare_C) (v : ref01_Compare_Y2) : treg tysT (orc (ref01_Compare_tab C)) 36 (regO (bodyOf f23) 3) true [(26, .any)] (ref01_Compare_S2 v) some = (ref01_Compare_r3 C v).eval fun y => some (ref01_Compare_S3 y) := by kernel_rfl
abbrev ref01_Compare_Y4 : Type := Int
def ref01_Compare_S4 (v : ref01_Compare_Y4) : St := ⟨[(4, .int .i64 v)], []⟩
def ref01_Compare_r4 (C : ref01_Compare_C) (v : ref01_Compare_Y3) : Dt ref01_Compare_Y4 := (Dt.ret (-1:Int))
theorem ref01_Compare_g4 (C : ref01_Compare_C) (v : ref01_Compare_Y3) : treg tysT (orc (ref01_Compare_tab C)) 36 (regO (bodyOf f23) 4) false [(4, .any)] (ref01_Compare_S3 v) some = (ref01_Compare_r4 C v).eval fun y => some (ref01_Compare_S4 y) := by kernel_rfl
def ref01_Compare_r5 (C : ref01_Compare_C) (v : ref01_Compare_Y3) : Dt ref01_Compare_Y4 := (Dt.ret (1:Int))
theorem ref01_Compare_g5 (C : ref01_Compare_C) (v : ref01_Compare_Y3) : treg tysT (orc (ref01_Compare_tab C)) 36 (regO (bodyOf f23) 5) false [(4, .any)] (ref01_Compare_S3 v) some = (ref01_Compare_r5 C v).eval fun y => some (ref01_Compare_S4 y) := by kernel_rfl
abbrev ref01_Compare_Y6 : Type := Bool × Bool × Int × Int × Bool × Int × Int
def ref01_Compare_S6 (v : ref01_Compare_Y6) : St := ⟨[(5, .ptr 0 0), (6, .ptr 1 0), (29, .bool v.1)], [.cells [.bool v.2.1, .int .u64 v.2.2.1, .int .u64 v.2.2.2.1], .cells [.bool v.2.2.2.2.1, .int .u64 v.2.2.2.2.2.1, .int .u64 v.2.2.2.2.2.2]]⟩
def ref01_Compare_r6 (C : ref01_Compare_C) (v : ref01_Compare_Y2) : Dt ref01_Compare_Y6 := (Dt.bnd (C.2.1 ((v.2.1, v.2.2.1, v.2.2.2.1, ()), ())) fun r1 => (Dt.ret ((decide (r1 < (0:Int))), v.2.1, v.2.2.1, v.2.2.2.1, v.2.2.2.2.1, v.2.2.2.2.2.1, v.2.2.2.2.2.2)))
theorem ref01_Compare_g6 (C : ref01_Compare_C) (v : ref01_Compare_Y2) : treg tysT (orc (ref01_Compare_tab C)) 36 (regO (bodyOf f23) 6) false [(5, .any), (6, .any), (29, .any)] (ref01_Compare_S2 v) some = (ref01_Compare_r6 C v).eval fun y => some (ref01_Compare_S6 y) := by kernel_rfl
def ref01_Compare_r7 (C : ref01_Compare_C) (v : ref01_Compare_Y6) : Dt ref01_Compare_Y4 := (Dt.bnd (C.2.2.1 ((v.2.2.2.2.1, v.2.2.2.2.2.1, v.2.2.2.2.2.2, ()), (v.2.1, v.2.2.1, v.2.2.2.1, ()), ())) fun r1 => (Dt.ret r1))
theorem ref01_Compare_g7 (C : ref01_Compare_C) (v : ref01_Compare_Y6) : treg tysT (orc (ref01_Compare_tab C)) 36 (regO (bodyOf f23) 7) false [(4, .any)] (ref01_Compare_S6 v) some = (ref01_Compare_r7 C v).eval fun y => some (ref01_Compare_S4 y) := by kernel_rfl
def ref01_Compare_r8 (C : ref01_Compare_C) (v : ref01_Compare_Y6) : Dt ref01_Compare_Y4 := (Dt.bnd (C.2.2.1 ((v.2.1, v.2.2.1, v.2.2.2.1, ()), (v.2.2.2.2.1, v.2.2.2.2.2.1, v.2.2.2.2.2.2, ()), ())) fun r1 => (Dt.ret r1))
theorem ref01_Compare_g8 (C : ref01_Compare_C) (v : ref01_Compare_Y6) : treg tysT (orc (ref01_Compare_tab C)) 36 (regO (bodyOf f23) 8) false [(4, .any)] (ref01_Compare_S6 v) some = (ref01_Compare_r8 C v).eval fun y => some (ref01_Compare_S4 y) := by kernel_rfl
def F_ref01_Compare (d : Nat) (x : ref01_Compare_X) : Option ref01_Compare_R :=
  (ref01_Compare_r0 (ref01_Compare_K d) (x.1.1, x.1.2.1, x.2.1.1, x.2.1.2.1)).eval fun y0 =>
  (ref01_Compare_r1 (ref01_Compare_K d) y0).eval fun y1 =>
  (ref01_Compare_r2 (ref01_Compare_K d) y1).eval fun y2 =>
  bif y2.1 then ((ref01_Compare_r3 (ref01_Compare_K d) y2).eval fun y3 =>
  bif y3 then ((ref01_Compare_r4 (ref01_Compare_K d) y3).eval fun y4 =>
  some y4) else ((ref01_Compare_r5 (ref01_Compare_K d) y3).eval fun y5 =>
  some y5)) else ((ref01_Compare_r6 (ref01_Compare_K d) y2).eval fun y6 =>
  bif y6.1 then ((ref01_Compare_r7 (ref01_Compare_K d) y6).eval fun y7 =>
  some y7) else ((ref01_Compare_r8 (ref01_Compare_K d) y6).eval fun y8 =>
  some y8))
theorem ref01_Compare_cok (d : Nat) : COK prog (ref01_Compare_sp (F_ref01_Compare d)) := by
  have hm : prog.follows .mixedOrders = true := mixed
  have hT := tys
  have hC0 : OrcOK prog (orc (ref01_Compare_tab (ref01_Compare_K d))) := orc_ok (by
    intro S hS
    simp only [ref01_Compare_tab, List.mem_cons, List.not_mem_nil, or_false] at hS
    rcases hS with rfl | rfl | rfl
    · exact ref01_Product_cok d
    · exact ref01_Sign_cok d
    · exact ref01_less_cok d)
  have hC : OrcOK prog (orc (ref01_Compare_tab (ref01_Compare_K d))) := hC0
  refine cok_of (c := bodyOf f23) (fn := f23) hT (by kernel_rfl) (by kernel_rfl) (by decide) fun x r h w0 φ0 Q hend => ?_
  replace h : F_ref01_Compare d x = some r := h
  unfold F_ref01_Compare at h
  show Run prog w0 φ0 36 (bodyOf f23) ⟨[(0, .agg [.int .i64 x.1.1, .int .i64 x.1.2.1]), (1, .agg [.int .i64 x.2.1.1, .int .i64 x.2.1.2.1])], []⟩ Q
  refine run_seq ?_
  refine run_reg hm hT hC (ref01_Compare_g0 (ref01_Compare_K d) (x.1.1, x.1.2.1, x.2.1.1, x.2.1.2.1)) h ?_
  intro y0 h
  refine cn_then ?_
  refine run_seq ?_
  refine run_reg hm hT hC (ref01_Compare_g1 (ref01_Compare_K d) y0) h ?_
  intro y1 h
  refine cn_then ?_
  refine run_seq ?_
  refine run_seq ?_
  refine run_reg hm hT hC (ref01_Compare_g2 (ref01_Compare_K d) y1) h ?_
  intro y2 h
  refine cn_then ?_
  refine run_cond (v := y2.1) (by kernel_rfl) h ?_ ?_
  ·
    intro h
    refine run_seq ?_
    refine run_seq ?_
    refine run_reg hm hT hC (ref01_Compare_g3 (ref01_Compare_K d) y2) h ?_
    intro y3 h
    refine cn_then ?_
    refine run_cond (v := y3) (by kernel_rfl) h ?_ ?_
    ·
      intro h
      refine run_seq ?_
      refine run_reg hm hT hC (ref01_Compare_g4 (ref01_Compare_K d) y3) h ?_
      intro y4 h
      refine cn_then ?_
      refine run_ret ?_
      refine cn_then_ret ?_
      refine cn_then_ret ?_
      cases h
      exact (hend _ (by kernel_rfl)).2
    ·
      intro h
      refine run_skip ?_
      refine cn_then ?_
      refine run_seq ?_
      refine run_reg hm hT hC (ref01_Compare_g5 (ref01_Compare_K d) y3) h ?_
      intro y5 h
      refine cn_then ?_
      refine run_ret ?_
      refine cn_then_ret ?_
      cases h
      exact (hend _ (by kernel_rfl)).2
  ·
    intro h
    refine run_skip ?_
    refine cn_then ?_
    refine run_seq ?_
    refine run_seq ?_
    refine run_reg hm hT hC (ref01_Compare_g6 (ref01_Compare_K d) y2) h ?_
    intro y6 h
    refine cn_then ?_
    refine run_cond (v := y6.1) (by kernel_rfl) h ?_ ?_
    ·
      intro h
      refine run_seq ?_
      refine run_reg hm hT hC (ref01_Compare_g7 (ref01_Compare_K d) y6) h ?_
      intro y7 h
      refine cn_then ?_
      refine run_ret ?_
      refine cn_then_ret ?_
      cases h
      exact (hend _ (by kernel_rfl)).2
    ·
      intro h
      refine run_skip ?_
      refine cn_then ?_
      refine run_seq ?_
      refine run_reg hm hT hC (ref01_Compare_g8 (ref01_Compare_K d) y6) h ?_
      intro y8 h
      refine cn_then ?_
      refine run_ret ?_
      cases h
      exact (hend _ (by kernel_rfl)).2
abbrev ref01_Both_ps : List Pk := [.row Rii true, .row Rii true]
abbrev ref01_Both_X : Type := Dii × Dii × Unit
abbrev ref01_Both_R : Type := Int
def ref01_Both_enc (r : ref01_Both_R) : LV × List Ob := (.int .i64 r, [])
def ref01_Both_sp (F : ref01_Both_X → Option ref01_Both_R) : Go.Tx.Spec := ⟨63, ref01_Both_ps, ref01_Both_R, F, ref01_Both_enc⟩
abbrev ref01_Both_C : Type := (ref01_Check_X → Option ref01_Check_R) × Unit
def ref01_Both_K (d : Nat) : ref01_Both_C := (F_ref01_Check d, ())
def ref01_Both_tab (C : ref01_Both_C) : List Go.Tx.Spec := [ref01_Check_sp C.1]
abbrev ref01_Both_Y0i : Type := Int × Int × Int × Int
def ref01_Both_S0i (v : ref01_Both_Y0i) : St := ⟨[(0, .agg [.int .i64 v.1, .int .i64 v.2.1]), (1, .agg [.int .i64 v.2.2.1, .int .i64 v.2.2.2])], []⟩
abbrev ref01_Both_Y0 : Type := Int × Int × Int × Int
def ref01_Both_S0 (v : ref01_Both_Y0) : St := ⟨[(2, .ptr 0 0), (3, .ptr 1 0)], [.cells [.int .i64 v.1, .int .i64 v.2.1], .cells [.int .i64 v.2.2.1, .int .i64 v.2.2.2]]⟩
def ref01_Both_r0 (C : ref01_Both_C) (v : ref01_Both_Y0i) : Dt ref01_Both_Y0 := (Dt.ret (v.1, v.2.1, v.2.2.1, v.2.2.2))
theorem ref01_Both_g0 (C : ref01_Both_C) (v : ref01_Both_Y0i) : treg tysT (orc (ref01_Both_tab C)) 12 (regO (bodyOf f63) 0) false [(2, .any), (3, .any)] (ref01_Both_S0i v) some = (ref01_Both_r0 C v).eval fun y => some (ref01_Both_S0 y) := by kernel_rfl
abbrev ref01_Both_Y1 : Type := Bool × Int × Int × Int × Int
def ref01_Both_S1 (v : ref01_Both_Y1) : St := ⟨[(2, .ptr 0 0), (3, .ptr 1 0), (7, .bool v.1)], [.cells [.int .i64 v.2.1, .int .i64 v.2.2.1], .cells [.int .i64 v.2.2.2.1, .int .i64 v.2.2.2.2]]⟩
def ref01_Both_r1 (C : ref01_Both_C) (v : ref01_Both_Y0) : Dt ref01_Both_Y1 := (Dt.bnd (C.1 ((v.1, v.2.1, ()), ())) fun r1 => (Dt.ret ((r1 != (0:Int)), v.1, v.2.1, v.2.2.1, v.2.2.2)))
theorem ref01_Both_g1 (C : ref01_Both_C) (v : ref01_Both_Y0) : treg tysT (orc (ref01_Both_tab C)) 12 (regO (bodyOf f63) 1) false [(2, .any), (3, .any), (7, .any)] (ref01_Both_S0 v) some = (ref01_Both_r1 C v).eval fun y => some (ref01_Both_S1 y) := by kernel_rfl
abbrev ref01_Both_Y2 : Type := Int
def ref01_Both_S2 (v : ref01_Both_Y2) : St := ⟨[(4, .int .i64 v)], []⟩
def ref01_Both_r2 (C : ref01_Both_C) (v : ref01_Both_Y1) : Dt ref01_Both_Y2 := (Dt.bnd (C.1 ((v.2.1, v.2.2.1, ()), ())) fun r1 => (Dt.ret r1))
theorem ref01_Both_g2 (C : ref01_Both_C) (v : ref01_Both_Y1) : treg tysT (orc (ref01_Both_tab C)) 12 (regO (bodyOf f63) 2) false [(4, .any)] (ref01_Both_S1 v) some = (ref01_Both_r2 C v).eval fun y => some (ref01_Both_S2 y) := by kernel_rfl
def ref01_Both_r3 (C : ref01_Both_C) (v : ref01_Both_Y1) : Dt ref01_Both_Y2 := (Dt.bnd (C.1 ((v.2.2.2.1, v.2.2.2.2, ()), ())) fun r1 => (Dt.ret r1))
theorem ref01_Both_g3 (C : ref01_Both_C) (v : ref01_Both_Y1) : treg tysT (orc (ref01_Both_tab C)) 12 (regO (bodyOf f63) 3) false [(4, .any)] (ref01_Both_S1 v) some = (ref01_Both_r3 C v).eval fun y => some (ref01_Both_S2 y) := by kernel_rfl
def F_ref01_Both (d : Nat) (x : ref01_Both_X) : Option ref01_Both_R :=
  (ref01_Both_r0 (ref01_Both_K d) (x.1.1, x.1.2.1, x.2.1.1, x.2.1.2.1)).eval fun y0 =>
  (ref01_Both_r1 (ref01_Both_K d) y0).eval fun y1 =>
  bif y1.1 then ((ref01_Both_r2 (ref01_Both_K d) y1).eval fun y2 =>
  some y2) else ((ref01_Both_r3 (ref01_Both_K d) y1).eval fun y3 =>
  some y3)
theorem ref01_Both_cok (d : Nat) : COK prog (ref01_Both_sp (F_ref01_Both d)) := by
  have hm : prog.follows .mixedOrders = true := mixed
  have hT := tys
  have hC0 : OrcOK prog (orc (ref01_Both_tab (ref01_Both_K d))) := orc_ok (by
    intro S hS
    simp only [ref01_Both_tab, List.mem_cons, List.not_mem_nil, or_false] at hS
    subst hS; exact ref01_Check_cok d)
  have hC : OrcOK prog (orc (ref01_Both_tab (ref01_Both_K d))) := hC0
  refine cok_of (c := bodyOf f63) (fn := f63) hT (by kernel_rfl) (by kernel_rfl) (by decide) fun x r h w0 φ0 Q hend => ?_
  replace h : F_ref01_Both d x = some r := h
  unfold F_ref01_Both at h
  show Run prog w0 φ0 12 (bodyOf f63) ⟨[(0, .agg [.int .i64 x.1.1, .int .i64 x.1.2.1]), (1, .agg [.int .i64 x.2.1.1, .int .i64 x.2.1.2.1])], []⟩ Q
  refine run_seq ?_
  refine run_reg hm hT hC (ref01_Both_g0 (ref01_Both_K d) (x.1.1, x.1.2.1, x.2.1.1, x.2.1.2.1)) h ?_
  intro y0 h
  refine cn_then ?_
  refine run_seq ?_
  refine run_seq ?_
  refine run_reg hm hT hC (ref01_Both_g1 (ref01_Both_K d) y0) h ?_
  intro y1 h
  refine cn_then ?_
  refine run_cond (v := y1.1) (by kernel_rfl) h ?_ ?_
  ·
    intro h
    refine run_seq ?_
    refine run_reg hm hT hC (ref01_Both_g2 (ref01_Both_K d) y1) h ?_
    intro y2 h
    refine cn_then ?_
    refine run_ret ?_
    refine cn_then_ret ?_
    cases h
    exact (hend _ (by kernel_rfl)).2
  ·
    intro h
    refine run_skip ?_
    refine cn_then ?_
    refine run_seq ?_
    refine run_reg hm hT hC (ref01_Both_g3 (ref01_Both_K d) y1) h ?_
    intro y3 h
    refine cn_then ?_
    refine run_ret ?_
    cases h
    exact (hend _ (by kernel_rfl)).2
abbrev ref24_Asked_ps : List Pk := [.row RLiiiE true, .row Rii true, .row Rii true]
abbrev ref24_Asked_X : Type := DLiiiE × Dii × Dii × Unit
abbrev ref24_Asked_R : Type := Int
def ref24_Asked_enc (r : ref24_Asked_R) : LV × List Ob := (.int .i64 r, [])
def ref24_Asked_sp (F : ref24_Asked_X → Option ref24_Asked_R) : Go.Tx.Spec := ⟨61, ref24_Asked_ps, ref24_Asked_R, F, ref24_Asked_enc⟩
abbrev ref24_Asked_C : Type := (ref01_Compare_X → Option ref01_Compare_R) × (ref01_Both_X → Option ref01_Both_R) × (ref03_Check_X → Option ref03_Check_R) × Unit
def ref24_Asked_K (d : Nat) : ref24_Asked_C := (F_ref01_Compare d, F_ref01_Both d, F_ref03_Check d, ())
def ref24_Asked_tab (C : ref24_Asked_C) : List Go.Tx.Spec := [ref01_Compare_sp C.1, ref01_Both_sp C.2.1, ref03_Check_sp C.2.2.1]
abbrev ref24_Asked_Y0i : Type := List Diii × Int × Int × Int × Int
def ref24_Asked_S0i (v : ref24_Asked_Y0i) : St := ⟨[(0, .agg [.fz Riii v.1]), (1, .agg [.int .i64 v.2.1, .int .i64 v.2.2.1]), (2, .agg [.int .i64 v.2.2.2.1, .int .i64 v.2.2.2.2])], []⟩
abbrev ref24_Asked_Y0 : Type := List Diii × Int × Int × Int × Int
def ref24_Asked_S0 (v : ref24_Asked_Y0) : St := ⟨[(3, .ptr 0 0), (4, .ptr 1 0), (5, .ptr 2 0)], [.cells [.fz Riii v.1], .cells [.int .i64 v.2.1, .int .i64 v.2.2.1], .cells [.int .i64 v.2.2.2.1, .int .i64 v.2.2.2.2]]⟩
def ref24_Asked_r0 (C : ref24_Asked_C) (v : ref24_Asked_Y0i) : Dt ref24_Asked_Y0 := (Dt.ret (v.1, v.2.1, v.2.2.1, v.2.2.2.1, v.2.2.2.2))
theorem ref24_Asked_g0 (C : ref24_Asked_C) (v : ref24_Asked_Y0i) : treg tysT (orc (ref24_Asked_tab C)) 20 (regO (bodyOf f61) 0) false [(3, (.box [.val Riii])), (4, .any), (5, .any)] (ref24_Asked_S0i v) some = (ref24_Asked_r0 C v).eval fun y => some (ref24_Asked_S0 y) := by kernel_rfl
abbrev ref24_Asked_Y1 : Type := Bool × List Diii × Int × Int × Int × Int
def ref24_Asked_S1 (v : ref24_Asked_Y1) : St := ⟨[(3, .ptr 0 0), (4, .ptr 1 0), (5, .ptr 2 0), (9, .bool v.1)], [.cells [.fz Riii v.2.1], .cells [.int .i64 v.2.2.1, .int .i64 v.2.2.2.1], .cells [.int .i64 v.2.2.2.2.1, .int .i64 v.2.2.2.2.2]]⟩
def ref24_Asked_r1 (C : ref24_Asked_C) (v : ref24_Asked_Y0) : Dt ref24_Asked_Y1 := (Dt.bnd (C.2.2.1 ((v.1, ()), ())) fun r1 => (Dt.ret ((r1 != (0:Int)), v.1, v.2.1, v.2.2.1, v.2.2.2.1, v.2.2.2.2)))
theorem ref24_Asked_g1 (C : ref24_Asked_C) (v : ref24_Asked_Y0) : treg tysT (orc (ref24_Asked_tab C)) 20 (regO (bodyOf f61) 1) false [(3, (.box [.val Riii])), (4, .any), (5, .any), (9, .any)] (ref24_Asked_S0 v) some = (ref24_Asked_r1 C v).eval fun y => some (ref24_Asked_S1 y) := by kernel_rfl
abbrev ref24_Asked_Y2 : Type := Int
def ref24_Asked_S2 (v : ref24_Asked_Y2) : St := ⟨[(6, .int .i64 v)], []⟩
def ref24_Asked_r2 (C : ref24_Asked_C) (v : ref24_Asked_Y1) : Dt ref24_Asked_Y2 := (Dt.bnd (C.2.2.1 ((v.2.1, ()), ())) fun r1 => (Dt.ret r1))
theorem ref24_Asked_g2 (C : ref24_Asked_C) (v : ref24_Asked_Y1) : treg tysT (orc (ref24_Asked_tab C)) 20 (regO (bodyOf f61) 2) false [(6, .any)] (ref24_Asked_S1 v) some = (ref24_Asked_r2 C v).eval fun y => some (ref24_Asked_S2 y) := by kernel_rfl
abbrev ref24_Asked_Y3 : Type := Bool × Int × Int × Int × Int
def ref24_Asked_S3 (v : ref24_Asked_Y3) : St := ⟨[(4, .ptr 0 0), (5, .ptr 1 0), (15, .bool v.1)], [.cells [.int .i64 v.2.1, .int .i64 v.2.2.1], .cells [.int .i64 v.2.2.2.1, .int .i64 v.2.2.2.2]]⟩
def ref24_Asked_r3 (C : ref24_Asked_C) (v : ref24_Asked_Y1) : Dt ref24_Asked_Y3 := (Dt.bnd (C.2.1 ((v.2.2.1, v.2.2.2.1, ()), (v.2.2.2.2.1, v.2.2.2.2.2, ()), ())) fun r1 => (Dt.ret ((r1 != (0:Int)), v.2.2.1, v.2.2.2.1, v.2.2.2.2.1, v.2.2.2.2.2)))
theorem ref24_Asked_g3 (C : ref24_Asked_C) (v : ref24_Asked_Y1) : treg tysT (orc (ref24_Asked_tab C)) 20 (regO (bodyOf f61) 3) false [(4, .any), (5, .any), (15, .any)] (ref24_Asked_S1 v) some = (ref24_Asked_r3 C v).eval fun y => some (ref24_Asked_S3 y) := by kernel_rfl
def ref24_Asked_r4 (C : ref24_Asked_C) (v : ref24_Asked_Y3) : Dt ref24_Asked_Y2 := (Dt.ret (8:Int))
theorem ref24_Asked_g4 (C : ref24_Asked_C) (v : ref24_Asked_Y3) : treg tysT (orc (ref24_Asked_tab C)) 20 (regO (bodyOf f61) 4) false [(6, .any)] (ref24_Asked_S3 v) some = (ref24_Asked_r4 C v).eval fun y => some (ref24_Asked_S2 y) := by kernel_rfl
abbrev ref24_Asked_Y5 : Type := Bool
def ref24_Asked_S5 (v : ref24_Asked_Y5) : St := ⟨[(19, .bool v)], []⟩
def ref24_Asked_r5 (C : ref24_Asked_C) (v : ref24_Asked_Y3) : Dt ref24_Asked_Y5 := (Dt.bnd (C.1 ((v.2.1, v.2.2.1, ()), (v.2.2.2.1, v.2.2.2.2, ()), ())) fun r1 => (Dt.ret (decide (r1 > (0:Int)))))
theorem ref24_Asked_g5 (C : ref24_Asked_C) (v : ref24_Asked_Y3) : treg tysT (orc (ref24_Asked_tab C)) 20 (regO (bodyOf f61) 5) false [(19, .any)] (ref24_Asked_S3 v) some = (ref24_Asked_r5 C v).eval fun y => some (ref24_Asked_S5 y) := by kernel_rfl
def ref24_Asked_r6 (C : ref24_Asked_C) (v : ref24_Asked_Y5) : Dt ref24_Asked_Y2 := (Dt.ret (2:Int))
theorem ref24_Asked_g6 (C : ref24_Asked_C) (v : ref24_Asked_Y5) : treg tysT (orc (ref24_Asked_tab C)) 20 (regO (bodyOf f61) 6) false [(6, .any)] (ref24_Asked_S5 v) some = (ref24_Asked_r6 C v).eval fun y => some (ref24_Asked_S2 y) := by kernel_rfl
def ref24_Asked_r7 (C : ref24_Asked_C) (v : ref24_Asked_Y5) : Dt ref24_Asked_Y2 := (Dt.ret (0:Int))
theorem ref24_Asked_g7 (C : ref24_Asked_C) (v : ref24_Asked_Y5) : treg tysT (orc (ref24_Asked_tab C)) 20 (regO (bodyOf f61) 7) false [(6, .any)] (ref24_Asked_S5 v) some = (ref24_Asked_r7 C v).eval fun y => some (ref24_Asked_S2 y) := by kernel_rfl
def F_ref24_Asked (d : Nat) (x : ref24_Asked_X) : Option ref24_Asked_R :=
  (ref24_Asked_r0 (ref24_Asked_K d) (x.1.1, x.2.1.1, x.2.1.2.1, x.2.2.1.1, x.2.2.1.2.1)).eval fun y0 =>
  (ref24_Asked_r1 (ref24_Asked_K d) y0).eval fun y1 =>
  bif y1.1 then ((ref24_Asked_r2 (ref24_Asked_K d) y1).eval fun y2 =>
  some y2) else ((ref24_Asked_r3 (ref24_Asked_K d) y1).eval fun y3 =>
  bif y3.1 then ((ref24_Asked_r4 (ref24_Asked_K d) y3).eval fun y4 =>
  some y4) else ((ref24_Asked_r5 (ref24_Asked_K d) y3).eval fun y5 =>
  bif y5 then ((ref24_Asked_r6 (ref24_Asked_K d) y5).eval fun y6 =>
  some y6) else ((ref24_Asked_r7 (ref24_Asked_K d) y5).eval fun y7 =>
  some y7)))
theorem ref24_Asked_cok (d : Nat) : COK prog (ref24_Asked_sp (F_ref24_Asked d)) := by
  have hm : prog.follows .mixedOrders = true := mixed
  have hT := tys
  have hC0 : OrcOK prog (orc (ref24_Asked_tab (ref24_Asked_K d))) := orc_ok (by
    intro S hS
    simp only [ref24_Asked_tab, List.mem_cons, List.not_mem_nil, or_false] at hS
    rcases hS with rfl | rfl | rfl
    · exact ref01_Compare_cok d
    · exact ref01_Both_cok d
    · exact ref03_Check_cok d)
  have hC : OrcOK prog (orc (ref24_Asked_tab (ref24_Asked_K d))) := hC0
  refine cok_of (c := bodyOf f61) (fn := f61) hT (by kernel_rfl) (by kernel_rfl) (by decide) fun x r h w0 φ0 Q hend => ?_
  replace h : F_ref24_Asked d x = some r := h
  unfold F_ref24_Asked at h
  show Run prog w0 φ0 20 (bodyOf f61) ⟨[(0, .agg [.fz Riii x.1.1]), (1, .agg [.int .i64 x.2.1.1, .int .i64 x.2.1.2.1]), (2, .agg [.int .i64 x.2.2.1.1, .int .i64 x.2.2.1.2.1])], []⟩ Q
  refine run_seq ?_
  refine run_reg hm hT hC (ref24_Asked_g0 (ref24_Asked_K d) (x.1.1, x.2.1.1, x.2.1.2.1, x.2.2.1.1, x.2.2.1.2.1)) h ?_
  intro y0 h
  refine cn_then ?_
  refine run_seq ?_
  refine run_seq ?_
  refine run_reg hm hT hC (ref24_Asked_g1 (ref24_Asked_K d) y0) h ?_
  intro y1 h
  refine cn_then ?_
  refine run_cond (v := y1.1) (by kernel_rfl) h ?_ ?_
  ·
    intro h
    refine run_seq ?_
    refine run_reg hm hT hC (ref24_Asked_g2 (ref24_Asked_K d) y1) h ?_
    intro y2 h
    refine cn_then ?_
    refine run_ret ?_
    refine cn_then_ret ?_
    cases h
    exact (hend _ (by kernel_rfl)).2
  ·
    intro h
    refine run_skip ?_
    refine cn_then ?_
    refine run_seq ?_
    refine run_seq ?_
    refine run_reg hm hT hC (ref24_Asked_g3 (ref24_Asked_K d) y1) h ?_
    intro y3 h
    refine cn_then ?_
    refine run_cond (v := y3.1) (by kernel_rfl) h ?_ ?_
    ·
      intro h
      refine run_seq ?_
      refine run_reg hm hT hC (ref24_Asked_g4 (ref24_Asked_K d) y3) h ?_
      intro y4 h
      refine cn_then ?_
      refine run_ret ?_
      refine cn_then_ret ?_
      cases h
      exact (hend _ (by kernel_rfl)).2
    ·
      intro h
      refine run_skip ?_
      refine cn_then ?_
      refine run_seq ?_
      refine run_seq ?_
      refine run_reg hm hT hC (ref24_Asked_g5 (ref24_Asked_K d) y3) h ?_
      intro y5 h
      refine cn_then ?_
      refine run_cond (v := y5) (by kernel_rfl) h ?_ ?_
      ·
        intro h
        refine run_seq ?_
        refine run_reg hm hT hC (ref24_Asked_g6 (ref24_Asked_K d) y5) h ?_
        intro y6 h
        refine cn_then ?_
        refine run_ret ?_
        refine cn_then_ret ?_
        cases h
        exact (hend _ (by kernel_rfl)).2
      ·
        intro h
        refine run_skip ?_
        refine cn_then ?_
        refine run_seq ?_
        refine run_reg hm hT hC (ref24_Asked_g7 (ref24_Asked_K d) y5) h ?_
        intro y7 h
        refine cn_then ?_
        refine run_ret ?_
        cases h
        exact (hend _ (by kernel_rfl)).2
abbrev ref24_Same_ps : List Pk := [.row RLiiiiiE false, .row RLiiiiiE false]
abbrev ref24_Same_X : Type := DLiiiiiE × DLiiiiiE × Unit
abbrev ref24_Same_R : Type := Bool
def ref24_Same_enc (r : ref24_Same_R) : LV × List Ob := (.bool r, [])
def ref24_Same_sp (F : ref24_Same_X → Option ref24_Same_R) : Go.Tx.Spec := ⟨33, ref24_Same_ps, ref24_Same_R, F, ref24_Same_enc⟩
abbrev ref24_Same_C : Type := Unit
def ref24_Same_K (_d : Nat) : ref24_Same_C := ()
def ref24_Same_tab (C : ref24_Same_C) : List Go.Tx.Spec := []
abbrev ref24_Same_Y0i : Type := List Diiiii × List Diiiii
def ref24_Same_S0i (v : ref24_Same_Y0i) : St := ⟨[(0, .fz Riiiii v.1), (1, .fz Riiiii v.2)], []⟩
def ref24_Same_r0 (C : ref24_Same_C) (v : ref24_Same_Y0i) : Dt ref24_Same_Y0i := (Dt.ret (v.1, v.2))
theorem ref24_Same_g0 (C : ref24_Same_C) (v : ref24_Same_Y0i) : treg tysT (orc (ref24_Same_tab C)) 26 (regO (bodyOf f33) 0) false [(0, (.val Riiiii)), (1, (.val Riiiii))] (ref24_Same_S0i v) some = (ref24_Same_r0 C v).eval fun y => some (ref24_Same_S0i y) := by kernel_rfl
abbrev ref24_Same_Y1 : Type := List Diiiii × List Diiiii × Bool
def ref24_Same_S1 (v : ref24_Same_Y1) : St := ⟨[(0, .fz Riiiii v.1), (1, .fz Riiiii v.2.1), (10, .bool v.2.2)], []⟩
def ref24_Same_r1 (C : ref24_Same_C) (v : ref24_Same_Y0i) : Dt ref24_Same_Y1 := (Dt.ret (v.1, v.2, ((List.length v.1 : Int) != (List.length v.2 : Int))))
theorem ref24_Same_g1 (C : ref24_Same_C) (v : ref24_Same_Y0i) : treg tysT (orc (ref24_Same_tab C)) 26 (regO (bodyOf f33) 1) false [(0, (.val Riiiii)), (1, (.val Riiiii)), (10, .any)] (ref24_Same_S0i v) some = (ref24_Same_r1 C v).eval fun y => some (ref24_Same_S1 y) := by kernel_rfl
abbrev ref24_Same_Y2 : Type := Bool
def ref24_Same_S2 (v : ref24_Same_Y2) : St := ⟨[(4, .bool v)], []⟩
def ref24_Same_r2 (C : ref24_Same_C) (v : ref24_Same_Y1) : Dt ref24_Same_Y2 := (Dt.ret false)
theorem ref24_Same_g2 (C : ref24_Same_C) (v : ref24_Same_Y1) : treg tysT (orc (ref24_Same_tab C)) 26 (regO (bodyOf f33) 2) false [(4, .any)] (ref24_Same_S1 v) some = (ref24_Same_r2 C v).eval fun y => some (ref24_Same_S2 y) := by kernel_rfl
abbrev ref24_Same_Y3 : Type := List Diiiii × List Diiiii × Int
def ref24_Same_S3 (v : ref24_Same_Y3) : St := ⟨[(0, .fz Riiiii v.1), (1, .fz Riiiii v.2.1), (5, .int .i64 v.2.2)], []⟩
def ref24_Same_r3 (C : ref24_Same_C) (v : ref24_Same_Y1) : Dt ref24_Same_Y3 := (Dt.ret (v.1, v.2.1, (0:Int)))
theorem ref24_Same_g3 (C : ref24_Same_C) (v : ref24_Same_Y1) : treg tysT (orc (ref24_Same_tab C)) 26 (regO (bodyOf f33) 3) false [(0, (.val Riiiii)), (1, (.val Riiiii)), (5, .any)] (ref24_Same_S1 v) some = (ref24_Same_r3 C v).eval fun y => some (ref24_Same_S3 y) := by kernel_rfl
abbrev ref24_Same_Y4 : Type := List Diiiii × List Diiiii × Int × Bool
def ref24_Same_S4 (v : ref24_Same_Y4) : St := ⟨[(0, .fz Riiiii v.1), (1, .fz Riiiii v.2.1), (5, .int .i64 v.2.2.1), (14, .bool v.2.2.2)], []⟩
def ref24_Same_r4 (C : ref24_Same_C) (v : ref24_Same_Y3) : Dt ref24_Same_Y4 := (Dt.ret (v.1, v.2.1, v.2.2, (decide (v.2.2 < (List.length v.1 : Int)))))
theorem ref24_Same_g4 (C : ref24_Same_C) (v : ref24_Same_Y3) : treg tysT (orc (ref24_Same_tab C)) 26 (regO (bodyOf f33) 4) false [(0, (.val Riiiii)), (1, (.val Riiiii)), (5, .any), (14, .any)] (ref24_Same_S3 v) some = (ref24_Same_r4 C v).eval fun y => some (ref24_Same_S4 y) := by kernel_rfl
abbrev ref24_Same_Y6 : Type := List Diiiii × List Diiiii × Int × Bool
def ref24_Same_S6 (v : ref24_Same_Y6) : St := ⟨[(0, .fz Riiiii v.1), (1, .fz Riiiii v.2.1), (5, .int .i64 v.2.2.1), (25, .bool v.2.2.2)], []⟩
def ref24_Same_r6 (C : ref24_Same_C) (v : ref24_Same_Y4) : Dt ref24_Same_Y6 := (Dt.ite (inB v.2.2.1 (List.length v.1)) (Dt.ite (inB v.2.2.1 (List.length v.2.1)) (Dt.ret (v.1, v.2.1, v.2.2.1, (!(((elt ziiiii v.1 (v.2.2.1).toNat).1 == (elt ziiiii v.2.1 (v.2.2.1).toNat).1) && (((elt ziiiii v.1 (v.2.2.1).toNat).2.1 == (elt ziiiii v.2.1 (v.2.2.1).toNat).2.1) && (((elt ziiiii v.1 (v.2.2.1).toNat).2.2.1 == (elt ziiiii v.2.1 (v.2.2.1).toNat).2.2.1) && (((elt ziiiii v.1 (v.2.2.1).toNat).2.2.2.1 == (elt ziiiii v.2.1 (v.2.2.1).toNat).2.2.2.1) && (((elt ziiiii v.1 (v.2.2.1).toNat).2.2.2.2.1 == (elt ziiiii v.2.1 (v.2.2.1).toNat).2.2.2.2.1) && true)))))))) Dt.fail) Dt.fail)
theorem ref24_Same_g6 (C : ref24_Same_C) (v : ref24_Same_Y4) : treg tysT (orc (ref24_Same_tab C)) 26 (regO (bodyOf f33) 6) true [(0, (.val Riiiii)), (1, (.val Riiiii)), (5, .any), (25, .any)] (ref24_Same_S4 v) some = (ref24_Same_r6 C v).eval fun y => some (ref24_Same_S6 y) := by kernel_rfl
def ref24_Same_r7 (C : ref24_Same_C) (v : ref24_Same_Y6) : Dt ref24_Same_Y2 := (Dt.ret false)
theorem ref24_Same_g7 (C : ref24_Same_C) (v : ref24_Same_Y6) : treg tysT (orc (ref24_Same_tab C)) 26 (regO (bodyOf f33) 7) false [(4, .any)] (ref24_Same_S6 v) some = (ref24_Same_r7 C v).eval fun y => some (ref24_Same_S2 y) := by kernel_rfl
def ref24_Same_r5 (C : ref24_Same_C) (v : ref24_Same_Y6) : Dt ref24_Same_Y3 := (Dt.ret (v.1, v.2.1, (IntKind.wrap .i64 (v.2.2.1 + (1:Int)))))
theorem ref24_Same_g5 (C : ref24_Same_C) (v : ref24_Same_Y6) : treg tysT (orc (ref24_Same_tab C)) 26 (regO (bodyOf f33) 5) false [(0, (.val Riiiii)), (1, (.val Riiiii)), (5, .any)] (ref24_Same_S6 v) some = (ref24_Same_r5 C v).eval fun y => some (ref24_Same_S3 y) := by kernel_rfl
def ref24_Same_r8 (C : ref24_Same_C) (v : ref24_Same_Y4) : Dt ref24_Same_Y2 := (Dt.ret true)
theorem ref24_Same_g8 (C : ref24_Same_C) (v : ref24_Same_Y4) : treg tysT (orc (ref24_Same_tab C)) 26 (regO (bodyOf f33) 8) false [(4, .any)] (ref24_Same_S4 v) some = (ref24_Same_r8 C v).eval fun y => some (ref24_Same_S2 y) := by kernel_rfl
def ref24_Same_L1 (d : Nat) (self1 : (List Diiiii × List Diiiii × Int) → Option ref24_Same_R) (x1 : List Diiiii × List Diiiii × Int) : Option ref24_Same_R :=
  (ref24_Same_r4 (ref24_Same_K d) x1).eval fun y4 =>
  bif y4.2.2.2 then ((ref24_Same_r6 (ref24_Same_K d) y4).eval fun y6 =>
  bif y6.2.2.2 then ((ref24_Same_r7 (ref24_Same_K d) y6).eval fun y7 =>
  some y7) else ((ref24_Same_r5 (ref24_Same_K d) y6).eval fun y5 =>
  self1 y5)) else ((ref24_Same_r8 (ref24_Same_K d) y4).eval fun y8 =>
  some y8)
def F_ref24_Same (d : Nat) (x : ref24_Same_X) : Option ref24_Same_R :=
  (ref24_Same_r0 (ref24_Same_K d) (x.1.1, x.2.1.1)).eval fun y0 =>
  (ref24_Same_r1 (ref24_Same_K d) y0).eval fun y1 =>
  bif y1.2.2 then ((ref24_Same_r2 (ref24_Same_K d) y1).eval fun y2 =>
  some y2) else ((ref24_Same_r3 (ref24_Same_K d) y1).eval fun y3 =>
  iter (ref24_Same_L1 d ) d y3)
theorem ref24_Same_cok (d : Nat) : COK prog (ref24_Same_sp (F_ref24_Same d)) := by
  have hm : prog.follows .mixedOrders = true := mixed
  have hT := tys
  have hC0 : OrcOK prog (orc (ref24_Same_tab (ref24_Same_K d))) := orc_ok (by
    intro S hS
    simp only [ref24_Same_tab, List.mem_cons, List.not_mem_nil, or_false] at hS
    all_goals first | cases hS | exact hS.elim)
  have hC : OrcOK prog (orc (ref24_Same_tab (ref24_Same_K d))) := hC0
  refine cok_of (c := bodyOf f33) (fn := f33) hT (by kernel_rfl) (by kernel_rfl) (by decide) fun x r h w0 φ0 Q hend => ?_
  replace h : F_ref24_Same d x = some r := h
  unfold F_ref24_Same at h
  show Run prog w0 φ0 26 (bodyOf f33) ⟨[(0, .fz Riiiii x.1.1), (1, .fz Riiiii x.2.1.1)], []⟩ Q
  refine run_seq ?_
  refine run_reg hm hT hC (ref24_Same_g0 (ref24_Same_K d) (x.1.1, x.2.1.1)) h ?_
  intro y0 h
  refine cn_then ?_
  refine run_seq ?_
  refine run_seq ?_
  refine run_reg hm hT hC (ref24_Same_g1 (ref24_Same_K d) y0) h ?_
  intro y1 h
  refine cn_then ?_
  refine run_cond (v := y1.2.2) (by kernel_rfl) h ?_ ?_
  ·
    intro h
    refine run_seq ?_
    refine run_reg hm hT hC (ref24_Same_g2 (ref24_Same_K d) y1) h ?_
    intro y2 h
    refine cn_then ?_
    refine run_ret ?_
    refine cn_then_ret ?_
    cases h
    exact (hend _ (by kernel_rfl)).2
  ·
    intro h
    refine run_skip ?_
    refine cn_then ?_
    refine run_seq ?_
    refine run_seq ?_
    refine run_reg hm hT hC (ref24_Same_g3 (ref24_Same_K d) y1) h ?_
    intro y3 h
    refine cn_then ?_
    refine run_block ?_
    refine run_loop (G := iter (ref24_Same_L1 d )) (S := (fun x1 => ⟨[(0, .fz Riiiii x1.1), (1, .fz Riiiii x1.2.1), (5, .int .i64 x1.2.2)], []⟩ : List Diiiii × List Diiiii × Int → St)) (fun _ => rfl) ?_ d _ h
    intro n1 x1 h K1 hn1
    replace h : ref24_Same_L1 d  (iter (ref24_Same_L1 d ) n1) x1 = some r := h
    generalize iter (ref24_Same_L1 d ) n1 = self1 at h hn1
    unfold ref24_Same_L1 at h
    refine run_seq ?_
    refine run_seq ?_
    refine run_reg hm hT hC (ref24_Same_g4 (ref24_Same_K d) x1) h ?_
    intro y4 h
    refine cn_then ?_
    refine run_cond (v := y4.2.2.2) (by kernel_rfl) h ?_ ?_
    ·
      intro h
      refine run_skip ?_
      refine cn_then ?_
      refine run_seq ?_
      refine run_block ?_
      refine run_seq ?_
      refine run_reg hm hT hC (ref24_Same_g6 (ref24_Same_K d) y4) h ?_
      intro y6 h
      refine cn_then ?_
      refine run_cond (v := y6.2.2.2) (by kernel_rfl) h ?_ ?_
      ·
        intro h
        refine run_seq ?_
        refine run_reg hm hT hC (ref24_Same_g7 (ref24_Same_K d) y6) h ?_
        intro y7 h
        refine cn_then ?_
        refine run_ret ?_
        refine cn_blk_ret ?_
        refine cn_then_ret ?_
        refine cn_then_ret ?_
        refine cn_blk_ret ?_
        refine cn_then_ret ?_
        cases h
        exact (hend _ (by kernel_rfl)).2
      ·
        intro h
        refine run_skip ?_
        refine cn_blk ?_
        refine cn_then ?_
        refine run_reg hm hT hC (ref24_Same_g5 (ref24_Same_K d) y6) h ?_
        intro y5 h
        exact hn1 _ h
    ·
      intro h
      refine run_exit ?_
      refine cn_then_exit ?_
      refine cn_then_exit ?_
      refine cn_blk_eq ?_
      refine cn_then ?_
      refine run_seq ?_
      refine run_reg hm hT hC (ref24_Same_g8 (ref24_Same_K d) y4) h ?_
      intro y8 h
      refine cn_then ?_
      refine run_ret ?_
      cases h
      exact (hend _ (by kernel_rfl)).2
abbrev ref01_Asked_ps : List Pk := [.row Rii true]
abbrev ref01_Asked_X : Type := Dii × Unit
abbrev ref01_Asked_R : Type := Int
def ref01_Asked_enc (r : ref01_Asked_R) : LV × List Ob := (.int .i64 r, [])
def ref01_Asked_sp (F : ref01_Asked_X → Option ref01_Asked_R) : Go.Tx.Spec := ⟨38, ref01_Asked_ps, ref01_Asked_R, F, ref01_Asked_enc⟩
abbrev ref01_Asked_C : Type := (ref01_Check_X → Option ref01_Check_R) × Unit
def ref01_Asked_K (d : Nat) : ref01_Asked_C := (F_ref01_Check d, ())
def ref01_Asked_tab (C : ref01_Asked_C) : List Go.Tx.Spec := [ref01_Check_sp C.1]
abbrev ref01_Asked_Y0i : Type := Int × Int
def ref01_Asked_S0i (v : ref01_Asked_Y0i) : St := ⟨[(0, .agg [.int .i64 v.1, .int .i64 v.2])], []⟩
abbrev ref01_Asked_Y0 : Type := Int × Int
def ref01_Asked_S0 (v : ref01_Asked_Y0) : St := ⟨[(1, .ptr 0 0)], [.cells [.int .i64 v.1, .int .i64 v.2]]⟩
def ref01_Asked_r0 (C : ref01_Asked_C) (v : ref01_Asked_Y0i) : Dt ref01_Asked_Y0 := (Dt.ret (v.1, v.2))
theorem ref01_Asked_g0 (C : ref01_Asked_C) (v : ref01_Asked_Y0i) : treg tysT (orc (ref01_Asked_tab C)) 21 (regO (bodyOf f38) 0) false [(1, .any)] (ref01_Asked_S0i v) some = (ref01_Asked_r0 C v).eval fun y => some (ref01_Asked_S0 y) := by kernel_rfl
abbrev ref01_Asked_Y1 : Type := Bool × Int × Int
def ref01_Asked_S1 (v : ref01_Asked_Y1) : St := ⟨[(1, .ptr 0 0), (5, .bool v.1)], [.cells [.int .i64 v.2.1, .int .i64 v.2.2]]⟩
def ref01_Asked_r1 (C : ref01_Asked_C) (v : ref01_Asked_Y0) : Dt ref01_Asked_Y1 := (Dt.bnd (C.1 ((v.1, v.2, ()), ())) fun r1 => (Dt.ret ((r1 != (0:Int)), v.1, v.2)))
theorem ref01_Asked_g1 (C : ref01_Asked_C) (v : ref01_Asked_Y0) : treg tysT (orc (ref01_Asked_tab C)) 21 (regO (bodyOf f38) 1) false [(1, .any), (5, .any)] (ref01_Asked_S0 v) some = (ref01_Asked_r1 C v).eval fun y => some (ref01_Asked_S1 y) := by kernel_rfl
abbrev ref01_Asked_Y2 : Type := Int
def ref01_Asked_S2 (v : ref01_Asked_Y2) : St := ⟨[(2, .int .i64 v)], []⟩
def ref01_Asked_r2 (C : ref01_Asked_C) (v : ref01_Asked_Y1) : Dt ref01_Asked_Y2 := (Dt.bnd (C.1 ((v.2.1, v.2.2, ()), ())) fun r1 => (Dt.ret r1))
theorem ref01_Asked_g2 (C : ref01_Asked_C) (v : ref01_Asked_Y1) : treg tysT (orc (ref01_Asked_tab C)) 21 (regO (bodyOf f38) 2) false [(2, .any)] (ref01_Asked_S1 v) some = (ref01_Asked_r2 C v).eval fun y => some (ref01_Asked_S2 y) := by kernel_rfl
abbrev ref01_Asked_Y3 : Type := Bool
def ref01_Asked_S3 (v : ref01_Asked_Y3) : St := ⟨[(20, .bool v)], []⟩
def ref01_Asked_r3 (C : ref01_Asked_C) (v : ref01_Asked_Y1) : Dt ref01_Asked_Y3 := (Dt.ite (decide (v.2.1 > (1073741824:Int))) (Dt.ret true) (Dt.ite (decide (v.2.1 < (-1073741824:Int))) (Dt.ret true) (Dt.ret (decide (v.2.2 > (1024:Int))))))
theorem ref01_Asked_g3 (C : ref01_Asked_C) (v : ref01_Asked_Y1) : treg tysT (orc (ref01_Asked_tab C)) 21 (regO (bodyOf f38) 3) false [(20, .any)] (ref01_Asked_S1 v) some = (ref01_Asked_r3 C v).eval fun y => some (ref01_Asked_S3 y) := by kernel_rfl
def ref01_Asked_r4 (C : ref01_Asked_C) (v : ref01_Asked_Y3) : Dt ref01_Asked_Y2 := (Dt.ret (2:Int))
theorem ref01_Asked_g4 (C : ref01_Asked_C) (v : ref01_Asked_Y3) : treg tysT (orc (ref01_Asked_tab C)) 21 (regO (bodyOf f38) 4) false [(2, .any)] (ref01_Asked_S3 v) some = (ref01_Asked_r4 C v).eval fun y => some (ref01_Asked_S2 y) := by kernel_rfl
def ref01_Asked_r5 (C : ref01_Asked_C) (v : ref01_Asked_Y3) : Dt ref01_Asked_Y2 := (Dt.ret (0:Int))
theorem ref01_Asked_g5 (C : ref01_Asked_C) (v : ref01_Asked_Y3) : treg tysT (orc (ref01_Asked_tab C)) 21 (regO (bodyOf f38) 5) false [(2, .any)] (ref01_Asked_S3 v) some = (ref01_Asked_r5 C v).eval fun y => some (ref01_Asked_S2 y) := by kernel_rfl
def F_ref01_Asked (d : Nat) (x : ref01_Asked_X) : Option ref01_Asked_R :=
  (ref01_Asked_r0 (ref01_Asked_K d) (x.1.1, x.1.2.1)).eval fun y0 =>
  (ref01_Asked_r1 (ref01_Asked_K d) y0).eval fun y1 =>
  bif y1.1 then ((ref01_Asked_r2 (ref01_Asked_K d) y1).eval fun y2 =>
  some y2) else ((ref01_Asked_r3 (ref01_Asked_K d) y1).eval fun y3 =>
  bif y3 then ((ref01_Asked_r4 (ref01_Asked_K d) y3).eval fun y4 =>
  some y4) else ((ref01_Asked_r5 (ref01_Asked_K d) y3).eval fun y5 =>
  some y5))
theorem ref01_Asked_cok (d : Nat) : COK prog (ref01_Asked_sp (F_ref01_Asked d)) := by
  have hm : prog.follows .mixedOrders = true := mixed
  have hT := tys
  have hC0 : OrcOK prog (orc (ref01_Asked_tab (ref01_Asked_K d))) := orc_ok (by
    intro S hS
    simp only [ref01_Asked_tab, List.mem_cons, List.not_mem_nil, or_false] at hS
    subst hS; exact ref01_Check_cok d)
  have hC : OrcOK prog (orc (ref01_Asked_tab (ref01_Asked_K d))) := hC0
  refine cok_of (c := bodyOf f38) (fn := f38) hT (by kernel_rfl) (by kernel_rfl) (by decide) fun x r h w0 φ0 Q hend => ?_
  replace h : F_ref01_Asked d x = some r := h
  unfold F_ref01_Asked at h
  show Run prog w0 φ0 21 (bodyOf f38) ⟨[(0, .agg [.int .i64 x.1.1, .int .i64 x.1.2.1])], []⟩ Q
  refine run_seq ?_
  refine run_reg hm hT hC (ref01_Asked_g0 (ref01_Asked_K d) (x.1.1, x.1.2.1)) h ?_
  intro y0 h
  refine cn_then ?_
  refine run_seq ?_
  refine run_seq ?_
  refine run_reg hm hT hC (ref01_Asked_g1 (ref01_Asked_K d) y0) h ?_
  intro y1 h
  refine cn_then ?_
  refine run_cond (v := y1.1) (by kernel_rfl) h ?_ ?_
  ·
    intro h
    refine run_seq ?_
    refine run_reg hm hT hC (ref01_Asked_g2 (ref01_Asked_K d) y1) h ?_
    intro y2 h
    refine cn_then ?_
    refine run_ret ?_
    refine cn_then_ret ?_
    cases h
    exact (hend _ (by kernel_rfl)).2
  ·
    intro h
    refine run_skip ?_
    refine cn_then ?_
    refine run_seq ?_
    refine run_seq ?_
    refine run_reg hm hT hC (ref01_Asked_g3 (ref01_Asked_K d) y1) h ?_
    intro y3 h
    refine cn_then ?_
    refine run_cond (v := y3) (by kernel_rfl) h ?_ ?_
    ·
      intro h
      refine run_seq ?_
      refine run_reg hm hT hC (ref01_Asked_g4 (ref01_Asked_K d) y3) h ?_
      intro y4 h
      refine cn_then ?_
      refine run_ret ?_
      refine cn_then_ret ?_
      cases h
      exact (hend _ (by kernel_rfl)).2
    ·
      intro h
      refine run_skip ?_
      refine cn_then ?_
      refine run_seq ?_
      refine run_reg hm hT hC (ref01_Asked_g5 (ref01_Asked_K d) y3) h ?_
      intro y5 h
      refine cn_then ?_
      refine run_ret ?_
      cases h
      exact (hend _ (by kernel_rfl)).2
end Go.Proofs.Ytdpnndpbbdhnmaa

namespace Go.Proofs.Ytdpnndpbbdhnmaa
open Go Go.Tx Go.Proofs.Try
set_option maxRecDepth 100000
set_option maxHeartbeats 0
abbrev law24_three_ps : List Pk := []
abbrev law24_three_X : Type := Unit
abbrev law24_three_R : Type := List Diii
def law24_three_enc (r : law24_three_R) : LV × List Ob := (.agg [.rs 0], [.rows Riii r])
def law24_three_sp (F : law24_three_X → Option law24_three_R) : Go.Tx.Spec := ⟨64, law24_three_ps, law24_three_R, F, law24_three_enc⟩
abbrev law24_three_C : Type := Unit
def law24_three_K (_d : Nat) : law24_three_C := ()
def law24_three_tab (C : law24_three_C) : List Go.Tx.Spec := []
abbrev law24_three_Y0i : Type := Unit
def law24_three_S0i (v : law24_three_Y0i) : St := ⟨[], []⟩
abbrev law24_three_Y0 : Type := List Diii
def law24_three_S0 (v : law24_three_Y0) : St := ⟨[(0, .ptr 0 0)], [.cells [.rs 1], .rows Riii v]⟩
def law24_three_r0 (C : law24_three_C) (v : law24_three_Y0i) : Dt law24_three_Y0 := (Dt.ret ([] : List Diii))
theorem law24_three_g0 (C : law24_three_C) (v : law24_three_Y0i) : treg tysT (orc (law24_three_tab C)) 6 (regO (bodyOf f64) 0) false [(0, (.box [.own Riii]))] (law24_three_S0i v) some = (law24_three_r0 C v).eval fun y => some (law24_three_S0 y) := by kernel_rfl
def law24_three_r1 (C : law24_three_C) (v : law24_three_Y0) : Dt law24_three_Y0 := (Dt.ret ([((1:Int), (0:Int), (2:Int), ()), ((2:Int), (6:Int), (-1:Int), ()), ((5:Int), (0:Int), (0:Int), ())] : List Diii))
theorem law24_three_g1 (C : law24_three_C) (v : law24_three_Y0) : treg tysT (orc (law24_three_tab C)) 6 (regO (bodyOf f64) 1) false [(0, (.box [.own Riii]))] (law24_three_S0 v) some = (law24_three_r1 C v).eval fun y => some (law24_three_S0 y) := by kernel_rfl
def F_law24_three (d : Nat) (x : law24_three_X) : Option law24_three_R :=
  (law24_three_r0 (law24_three_K d) ()).eval fun y0 =>
  (law24_three_r1 (law24_three_K d) y0).eval fun y1 =>
  some y1
theorem law24_three_cok (d : Nat) : COK prog (law24_three_sp (F_law24_three d)) := by
  have hm : prog.follows .mixedOrders = true := mixed
  have hT := tys
  have hC0 : OrcOK prog (orc (law24_three_tab (law24_three_K d))) := orc_ok (by
    intro S hS
    simp only [law24_three_tab, List.mem_cons, List.not_mem_nil, or_false] at hS
    all_goals first | cases hS | exact hS.elim)
  have hC : OrcOK prog (orc (law24_three_tab (law24_three_K d))) := hC0
  refine cok_of (c := bodyOf f64) (fn := f64) hT (by kernel_rfl) (by kernel_rfl) (by decide) fun x r h w0 φ0 Q hend => ?_
  replace h : F_law24_three d x = some r := h
  unfold F_law24_three at h
  show Run prog w0 φ0 6 (bodyOf f64) ⟨[], []⟩ Q
  refine run_seq ?_
  refine run_reg hm hT hC (law24_three_g0 (law24_three_K d) ()) h ?_
  intro y0 h
  refine cn_then ?_
  refine run_seq ?_
  refine run_reg hm hT hC (law24_three_g1 (law24_three_K d) y0) h ?_
  intro y1 h
  refine cn_then ?_
  refine run_ret ?_
  cases h
  exact (hend _ (by kernel_rfl)).2
abbrev law24_at_ps : List Pk := [.row Ri false]
abbrev law24_at_X : Type := Di × Unit
abbrev law24_at_R : Type := Int × Int
def law24_at_enc (r : law24_at_R) : LV × List Ob := (.agg [.int .i64 r.1, .int .i64 r.2], [])
def law24_at_sp (F : law24_at_X → Option law24_at_R) : Go.Tx.Spec := ⟨41, law24_at_ps, law24_at_R, F, law24_at_enc⟩
abbrev law24_at_C : Type := Unit
def law24_at_K (_d : Nat) : law24_at_C := ()
def law24_at_tab (C : law24_at_C) : List Go.Tx.Spec := []
abbrev law24_at_Y0i : Type := Int
def law24_at_S0i (v : law24_at_Y0i) : St := ⟨[(0, .int .i64 v)], []⟩
abbrev law24_at_Y0 : Type := Int × Int × Int
def law24_at_S0 (v : law24_at_Y0) : St := ⟨[(0, .int .i64 v.1), (2, .ptr 0 0)], [.cells [.int .i64 v.2.1, .int .i64 v.2.2]]⟩
def law24_at_r0 (C : law24_at_C) (v : law24_at_Y0i) : Dt law24_at_Y0 := (Dt.ret (v, (0:Int), (0:Int)))
theorem law24_at_g0 (C : law24_at_C) (v : law24_at_Y0i) : treg tysT (orc (law24_at_tab C)) 5 (regO (bodyOf f41) 0) false [(0, .any), (2, .any)] (law24_at_S0i v) some = (law24_at_r0 C v).eval fun y => some (law24_at_S0 y) := by kernel_rfl
abbrev law24_at_Y1 : Type := Int × Int
def law24_at_S1 (v : law24_at_Y1) : St := ⟨[(2, .ptr 0 0)], [.cells [.int .i64 v.1, .int .i64 v.2]]⟩
def law24_at_r1 (C : law24_at_C) (v : law24_at_Y0) : Dt law24_at_Y1 := (Dt.ret (v.1, (1:Int)))
theorem law24_at_g1 (C : law24_at_C) (v : law24_at_Y0) : treg tysT (orc (law24_at_tab C)) 5 (regO (bodyOf f41) 1) false [(2, .any)] (law24_at_S0 v) some = (law24_at_r1 C v).eval fun y => some (law24_at_S1 y) := by kernel_rfl
def F_law24_at (d : Nat) (x : law24_at_X) : Option law24_at_R :=
  (law24_at_r0 (law24_at_K d) x.1.1).eval fun y0 =>
  (law24_at_r1 (law24_at_K d) y0).eval fun y1 =>
  some y1
theorem law24_at_cok (d : Nat) : COK prog (law24_at_sp (F_law24_at d)) := by
  have hm : prog.follows .mixedOrders = true := mixed
  have hT := tys
  have hC0 : OrcOK prog (orc (law24_at_tab (law24_at_K d))) := orc_ok (by
    intro S hS
    simp only [law24_at_tab, List.mem_cons, List.not_mem_nil, or_false] at hS
    all_goals first | cases hS | exact hS.elim)
  have hC : OrcOK prog (orc (law24_at_tab (law24_at_K d))) := hC0
  refine cok_of (c := bodyOf f41) (fn := f41) hT (by kernel_rfl) (by kernel_rfl) (by decide) fun x r h w0 φ0 Q hend => ?_
  replace h : F_law24_at d x = some r := h
  unfold F_law24_at at h
  show Run prog w0 φ0 5 (bodyOf f41) ⟨[(0, .int .i64 x.1.1)], []⟩ Q
  refine run_seq ?_
  refine run_reg hm hT hC (law24_at_g0 (law24_at_K d) x.1.1) h ?_
  intro y0 h
  refine cn_then ?_
  refine run_seq ?_
  refine run_reg hm hT hC (law24_at_g1 (law24_at_K d) y0) h ?_
  intro y1 h
  refine cn_then ?_
  refine run_ret ?_
  cases h
  exact (hend _ (by kernel_rfl)).2
abbrev law24_alive_ps : List Pk := []
abbrev law24_alive_X : Type := Unit
abbrev law24_alive_R : Type := Bool
def law24_alive_enc (r : law24_alive_R) : LV × List Ob := (.bool r, [])
def law24_alive_sp (F : law24_alive_X → Option law24_alive_R) : Go.Tx.Spec := ⟨36, law24_alive_ps, law24_alive_R, F, law24_alive_enc⟩
abbrev law24_alive_C : Type := (race_Reigns_X → Option race_Reigns_R) × (race_Laps_X → Option race_Laps_R) × (ref24_Same_X → Option ref24_Same_R) × (race_Time_X → Option race_Time_R) × (law24_at_X → Option law24_at_R) × (race_Medals_X → Option race_Medals_R) × (law24_three_X → Option law24_three_R) × (ref03_SameIDs_X → Option ref03_SameIDs_R) × Unit
def law24_alive_K (d : Nat) : law24_alive_C := (F_race_Reigns d, F_race_Laps d, F_ref24_Same d, F_race_Time d, F_law24_at d, F_race_Medals d, F_law24_three d, F_ref03_SameIDs d, ())
def law24_alive_tab (C : law24_alive_C) : List Go.Tx.Spec := [race_Reigns_sp C.1, race_Laps_sp C.2.1, ref24_Same_sp C.2.2.1, race_Time_sp C.2.2.2.1, law24_at_sp C.2.2.2.2.1, race_Medals_sp C.2.2.2.2.2.1, law24_three_sp C.2.2.2.2.2.2.1, ref03_SameIDs_sp C.2.2.2.2.2.2.2.1]
abbrev law24_alive_Y0i : Type := Unit
def law24_alive_S0i (v : law24_alive_Y0i) : St := ⟨[], []⟩
def law24_alive_r0 (C : law24_alive_C) (v : law24_alive_Y0i) : Dt law24_alive_Y0i := (Dt.ret ())
theorem law24_alive_g0 (C : law24_alive_C) (v : law24_alive_Y0i) : treg tysT (orc (law24_alive_tab C)) 129 (regO (bodyOf f36) 0) false [] (law24_alive_S0i v) some = (law24_alive_r0 C v).eval fun y => some (law24_alive_S0i y) := by kernel_rfl
abbrev law24_alive_Y1 : Type := Int × List Diiiii
def law24_alive_S1 (v : law24_alive_Y1) : St := ⟨[(1, .rs 0), (2, .int .i64 v.1)], [.rows Riiiii v.2]⟩
def law24_alive_r1 (C : law24_alive_C) (v : law24_alive_Y0i) : Dt law24_alive_Y1 := (Dt.bnd (C.2.2.2.2.2.2.1 (())) fun r1 => (Dt.bnd (C.2.2.2.2.1 (((0:Int), ()), ())) fun r2 => (Dt.bnd (C.2.2.2.2.1 (((3:Int), ()), ())) fun r3 => (Dt.bnd (C.1 ((r1, ()), (r2.1, r2.2, ()), (r3.1, r3.2, ()), ())) fun r4 => (Dt.ret (r4.2, r4.1))))))
theorem law24_alive_g1 (C : law24_alive_C) (v : law24_alive_Y0i) : treg tysT (orc (law24_alive_tab C)) 129 (regO (bodyOf f36) 1) false [(1, (.own Riiiii)), (2, .any)] (law24_alive_S0i v) some = (law24_alive_r1 C v).eval fun y => some (law24_alive_S1 y) := by kernel_rfl
abbrev law24_alive_Y2 : Type := Int × Int × Int × List Diiiii
def law24_alive_S2 (v : law24_alive_Y2) : St := ⟨[(1, .rs 0), (2, .int .i64 v.1), (3, .int .i64 v.2.1), (4, .int .i64 v.2.2.1)], [.rows Riiiii v.2.2.2]⟩
def law24_alive_r2 (C : law24_alive_C) (v : law24_alive_Y1) : Dt law24_alive_Y2 := (Dt.bnd (C.2.2.2.2.2.2.1 (())) fun r1 => (Dt.bnd (C.2.2.2.2.1 (((0:Int), ()), ())) fun r2 => (Dt.bnd (C.2.2.2.2.1 (((3:Int), ()), ())) fun r3 => (Dt.bnd (C.2.1 ((r1, ()), (r2.1, r2.2, ()), (r3.1, r3.2, ()), ())) fun r4 => (Dt.ret (v.1, r4.1, r4.2, v.2))))))
theorem law24_alive_g2 (C : law24_alive_C) (v : law24_alive_Y1) : treg tysT (orc (law24_alive_tab C)) 129 (regO (bodyOf f36) 2) false [(1, (.own Riiiii)), (2, .any), (3, .any), (4, .any)] (law24_alive_S1 v) some = (law24_alive_r2 C v).eval fun y => some (law24_alive_S2 y) := by kernel_rfl
abbrev law24_alive_Y3 : Type := Int × Int × Int × Int × List Diiiii × Int × Int
def law24_alive_S3 (v : law24_alive_Y3) : St := ⟨[(1, .rs 0), (2, .int .i64 v.1), (3, .int .i64 v.2.1), (4, .int .i64 v.2.2.1), (5, .ptr 1 0), (6, .int .i64 v.2.2.2.1)], [.rows Riiiii v.2.2.2.2.1, .cells [.int .i64 v.2.2.2.2.2.1, .int .i64 v.2.2.2.2.2.2]]⟩
def law24_alive_r3 (C : law24_alive_C) (v : law24_alive_Y2) : Dt law24_alive_Y3 := (Dt.bnd (C.2.2.2.2.2.2.1 (())) fun r1 => (Dt.bnd (C.2.2.2.2.1 (((0:Int), ()), ())) fun r2 => (Dt.bnd (C.2.2.2.2.1 (((3:Int), ()), ())) fun r3 => (Dt.bnd (C.2.2.2.1 ((r1, ()), ((1:Int), ()), (r2.1, r2.2, ()), (r3.1, r3.2, ()), ())) fun r4 => (Dt.ret (v.1, v.2.1, v.2.2.1, r4.2.2, v.2.2.2, r4.1, r4.2.1))))))
theorem law24_alive_g3 (C : law24_alive_C) (v : law24_alive_Y2) : treg tysT (orc (law24_alive_tab C)) 129 (regO (bodyOf f36) 3) false [(1, (.own Riiiii)), (2, .any), (3, .any), (4, .any), (5, .any), (6, .any)] (law24_alive_S2 v) some = (law24_alive_r3 C v).eval fun y => some (law24_alive_S3 y) := by kernel_rfl
abbrev law24_alive_Y4 : Type := Int × Int × Int × Int × Int × List Diiiii × Int × Int × Int × Int
def law24_alive_S4 (v : law24_alive_Y4) : St := ⟨[(1, .rs 0), (2, .int .i64 v.1), (3, .int .i64 v.2.1), (4, .int .i64 v.2.2.1), (5, .ptr 1 0), (6, .int .i64 v.2.2.2.1), (7, .ptr 2 0), (8, .int .i64 v.2.2.2.2.1)], [.rows Riiiii v.2.2.2.2.2.1, .cells [.int .i64 v.2.2.2.2.2.2.1, .int .i64 v.2.2.2.2.2.2.2.1], .cells [.int .i64 v.2.2.2.2.2.2.2.2.1, .int .i64 v.2.2.2.2.2.2.2.2.2]]⟩
def law24_alive_r4 (C : law24_alive_C) (v : law24_alive_Y3) : Dt law24_alive_Y4 := (Dt.bnd (C.2.2.2.2.2.2.1 (())) fun r1 => (Dt.bnd (C.2.2.2.2.1 (((0:Int), ()), ())) fun r2 => (Dt.bnd (C.2.2.2.2.1 (((3:Int), ()), ())) fun r3 => (Dt.bnd (C.2.2.2.1 ((r1, ()), ((5:Int), ()), (r2.1, r2.2, ()), (r3.1, r3.2, ()), ())) fun r4 => (Dt.ret (v.1, v.2.1, v.2.2.1, v.2.2.2.1, r4.2.2, v.2.2.2.2.1, v.2.2.2.2.2.1, v.2.2.2.2.2.2, r4.1, r4.2.1))))))
theorem law24_alive_g4 (C : law24_alive_C) (v : law24_alive_Y3) : treg tysT (orc (law24_alive_tab C)) 129 (regO (bodyOf f36) 4) false [(1, (.own Riiiii)), (2, .any), (3, .any), (4, .any), (5, .any), (6, .any), (7, .any), (8, .any)] (law24_alive_S3 v) some = (law24_alive_r4 C v).eval fun y => some (law24_alive_S4 y) := by kernel_rfl
abbrev law24_alive_Y5 : Type := Int × Int × Int × Int × Int × Int × List Diiiii × Int × Int × Int × Int × List Diiiii
def law24_alive_S5 (v : law24_alive_Y5) : St := ⟨[(1, .rs 0), (2, .int .i64 v.1), (3, .int .i64 v.2.1), (4, .int .i64 v.2.2.1), (5, .ptr 1 0), (6, .int .i64 v.2.2.2.1), (7, .ptr 2 0), (8, .int .i64 v.2.2.2.2.1), (9, .rs 3), (10, .int .i64 v.2.2.2.2.2.1)], [.rows Riiiii v.2.2.2.2.2.2.1, .cells [.int .i64 v.2.2.2.2.2.2.2.1, .int .i64 v.2.2.2.2.2.2.2.2.1], .cells [.int .i64 v.2.2.2.2.2.2.2.2.2.1, .int .i64 v.2.2.2.2.2.2.2.2.2.2.1], .rows Riiiii v.2.2.2.2.2.2.2.2.2.2.2]⟩
def law24_alive_r5 (C : law24_alive_C) (v : law24_alive_Y4) : Dt law24_alive_Y5 := (Dt.bnd (C.2.2.2.2.2.2.1 (())) fun r1 => (Dt.bnd (C.2.2.2.2.1 (((0:Int), ()), ())) fun r2 => (Dt.bnd (C.2.2.2.2.1 (((2:Int), ()), ())) fun r3 => (Dt.bnd (C.1 ((r1, ()), (r2.1, r2.2, ()), (r3.1, r3.2, ()), ())) fun r4 => (Dt.ret (v.1, v.2.1, v.2.2.1, v.2.2.2.1, v.2.2.2.2.1, r4.2, v.2.2.2.2.2.1, v.2.2.2.2.2.2.1, v.2.2.2.2.2.2.2.1, v.2.2.2.2.2.2.2.2.1, v.2.2.2.2.2.2.2.2.2, r4.1))))))
theorem law24_alive_g5 (C : law24_alive_C) (v : law24_alive_Y4) : treg tysT (orc (law24_alive_tab C)) 129 (regO (bodyOf f36) 5) false [(1, (.own Riiiii)), (2, .any), (3, .any), (4, .any), (5, .any), (6, .any), (7, .any), (8, .any), (9, (.own Riiiii)), (10, .any)] (law24_alive_S4 v) some = (law24_alive_r5 C v).eval fun y => some (law24_alive_S5 y) := by kernel_rfl
abbrev law24_alive_Y6 : Type := Int × Int × Int × Int × Int × Int × Int × Int × List Diiiii × Int × Int × Int × Int × List Diiiii
def law24_alive_S6 (v : law24_alive_Y6) : St := ⟨[(1, .rs 0), (2, .int .i64 v.1), (3, .int .i64 v.2.1), (4, .int .i64 v.2.2.1), (5, .ptr 1 0), (6, .int .i64 v.2.2.2.1), (7, .ptr 2 0), (8, .int .i64 v.2.2.2.2.1), (9, .rs 3), (10, .int .i64 v.2.2.2.2.2.1), (11, .int .i64 v.2.2.2.2.2.2.1), (12, .int .i64 v.2.2.2.2.2.2.2.1)], [.rows Riiiii v.2.2.2.2.2.2.2.2.1, .cells [.int .i64 v.2.2.2.2.2.2.2.2.2.1, .int .i64 v.2.2.2.2.2.2.2.2.2.2.1], .cells [.int .i64 v.2.2.2.2.2.2.2.2.2.2.2.1, .int .i64 v.2.2.2.2.2.2.2.2.2.2.2.2.1], .rows Riiiii v.2.2.2.2.2.2.2.2.2.2.2.2.2]⟩
def law24_alive_r6 (C : law24_alive_C) (v : law24_alive_Y5) : Dt law24_alive_Y6 := (Dt.bnd (C.2.2.2.2.2.2.1 (())) fun r1 => (Dt.bnd (C.2.2.2.2.1 (((0:Int), ()), ())) fun r2 => (Dt.bnd (C.2.2.2.2.1 (((2:Int), ()), ())) fun r3 => (Dt.bnd (C.2.1 ((r1, ()), (r2.1, r2.2, ()), (r3.1, r3.2, ()), ())) fun r4 => (Dt.ret (v.1, v.2.1, v.2.2.1, v.2.2.2.1, v.2.2.2.2.1, v.2.2.2.2.2.1, r4.1, r4.2, v.2.2.2.2.2.2.1, v.2.2.2.2.2.2.2.1, v.2.2.2.2.2.2.2.2.1, v.2.2.2.2.2.2.2.2.2.1, v.2.2.2.2.2.2.2.2.2.2.1, v.2.2.2.2.2.2.2.2.2.2.2))))))
theorem law24_alive_g6 (C : law24_alive_C) (v : law24_alive_Y5) : treg tysT (orc (law24_alive_tab C)) 129 (regO (bodyOf f36) 6) false [(1, (.own Riiiii)), (2, .any), (3, .any), (4, .any), (5, .any), (6, .any), (7, .any), (8, .any), (9, (.own Riiiii)), (10, .any), (11, .any), (12, .any)] (law24_alive_S5 v) some = (law24_alive_r6 C v).eval fun y => some (law24_alive_S6 y) := by kernel_rfl
abbrev law24_alive_Y7 : Type := Int × Int × Int × Int × Int × Int × Int × Int × List Di × Int × List Diiiii × Int × Int × Int × Int × List Diiiii
def law24_alive_S7 (v : law24_alive_Y7) : St := ⟨[(1, .rs 0), (2, .int .i64 v.1), (3, .int .i64 v.2.1), (4, .int .i64 v.2.2.1), (5, .ptr 1 0), (6, .int .i64 v.2.2.2.1), (7, .ptr 2 0), (8, .int .i64 v.2.2.2.2.1), (9, .rs 3), (10, .int .i64 v.2.2.2.2.2.1), (11, .int .i64 v.2.2.2.2.2.2.1), (12, .int .i64 v.2.2.2.2.2.2.2.1), (13, .fz Ri v.2.2.2.2.2.2.2.2.1), (14, .int .i64 v.2.2.2.2.2.2.2.2.2.1)], [.rows Riiiii v.2.2.2.2.2.2.2.2.2.2.1, .cells [.int .i64 v.2.2.2.2.2.2.2.2.2.2.2.1, .int .i64 v.2.2.2.2.2.2.2.2.2.2.2.2.1], .cells [.int .i64 v.2.2.2.2.2.2.2.2.2.2.2.2.2.1, .int .i64 v.2.2.2.2.2.2.2.2.2.2.2.2.2.2.1], .rows Riiiii v.2.2.2.2.2.2.2.2.2.2.2.2.2.2.2]⟩
def law24_alive_r7 (C : law24_alive_C) (v : law24_alive_Y6) : Dt law24_alive_Y7 := (Dt.bnd (C.2.2.2.2.2.2.1 (())) fun r1 => (Dt.bnd (C.2.2.2.2.1 (((2:Int), ()), ())) fun r2 => (Dt.bnd (C.2.2.2.2.2.1 ((r1, ()), (r2.1, r2.2, ()), ())) fun r3 => (Dt.ret (v.1, v.2.1, v.2.2.1, v.2.2.2.1, v.2.2.2.2.1, v.2.2.2.2.2.1, v.2.2.2.2.2.2.1, v.2.2.2.2.2.2.2.1, r3.1, r3.2, v.2.2.2.2.2.2.2.2.1, v.2.2.2.2.2.2.2.2.2.1, v.2.2.2.2.2.2.2.2.2.2.1, v.2.2.2.2.2.2.2.2.2.2.2.1, v.2.2.2.2.2.2.2.2.2.2.2.2.1, v.2.2.2.2.2.2.2.2.2.2.2.2.2)))))
theorem law24_alive_g7 (C : law24_alive_C) (v : law24_alive_Y6) : treg tysT (orc (law24_alive_tab C)) 129 (regO (bodyOf f36) 7) false [(1, (.own Riiiii)), (2, .any), (3, .any), (4, .any), (5, .any), (6, .any), (7, .any), (8, .any), (9, (.own Riiiii)), (10, .any), (11, .any), (12, .any), (13, (.val Ri)), (14, .any)] (law24_alive_S6 v) some = (law24_alive_r7 C v).eval fun y => some (law24_alive_S7 y) := by kernel_rfl
abbrev law24_alive_Y8 : Type := Int × Int × List Di × Bool × List Diiiii × Int × Int × Int × Int × List Diiiii
def law24_alive_S8 (v : law24_alive_Y8) : St := ⟨[(1, .rs 0), (3, .int .i64 v.1), (5, .ptr 1 0), (7, .ptr 2 0), (9, .rs 3), (11, .int .i64 v.2.1), (13, .fz Ri v.2.2.1), (88, .bool v.2.2.2.1)], [.rows Riiiii v.2.2.2.2.1, .cells [.int .i64 v.2.2.2.2.2.1, .int .i64 v.2.2.2.2.2.2.1], .cells [.int .i64 v.2.2.2.2.2.2.2.1, .int .i64 v.2.2.2.2.2.2.2.2.1], .rows Riiiii v.2.2.2.2.2.2.2.2.2]⟩
def law24_alive_r8 (C : law24_alive_C) (v : law24_alive_Y7) : Dt law24_alive_Y8 := (Dt.ite (v.1 != (0:Int)) (Dt.ret (v.2.1, v.2.2.2.2.2.2.1, v.2.2.2.2.2.2.2.2.1, true, v.2.2.2.2.2.2.2.2.2.2.1, v.2.2.2.2.2.2.2.2.2.2.2.1, v.2.2.2.2.2.2.2.2.2.2.2.2.1, v.2.2.2.2.2.2.2.2.2.2.2.2.2.1, v.2.2.2.2.2.2.2.2.2.2.2.2.2.2.1, v.2.2.2.2.2.2.2.2.2.2.2.2.2.2.2)) (Dt.ite (v.2.2.1 != (0:Int)) (Dt.ret (v.2.1, v.2.2.2.2.2.2.1, v.2.2.2.2.2.2.2.2.1, true, v.2.2.2.2.2.2.2.2.2.2.1, v.2.2.2.2.2.2.2.2.2.2.2.1, v.2.2.2.2.2.2.2.2.2.2.2.2.1, v.2.2.2.2.2.2.2.2.2.2.2.2.2.1, v.2.2.2.2.2.2.2.2.2.2.2.2.2.2.1, v.2.2.2.2.2.2.2.2.2.2.2.2.2.2.2)) (Dt.ite (v.2.2.2.1 != (0:Int)) (Dt.ret (v.2.1, v.2.2.2.2.2.2.1, v.2.2.2.2.2.2.2.2.1, true, v.2.2.2.2.2.2.2.2.2.2.1, v.2.2.2.2.2.2.2.2.2.2.2.1, v.2.2.2.2.2.2.2.2.2.2.2.2.1, v.2.2.2.2.2.2.2.2.2.2.2.2.2.1, v.2.2.2.2.2.2.2.2.2.2.2.2.2.2.1, v.2.2.2.2.2.2.2.2.2.2.2.2.2.2.2)) (Dt.ite (v.2.2.2.2.1 != (0:Int)) (Dt.ret (v.2.1, v.2.2.2.2.2.2.1, v.2.2.2.2.2.2.2.2.1, true, v.2.2.2.2.2.2.2.2.2.2.1, v.2.2.2.2.2.2.2.2.2.2.2.1, v.2.2.2.2.2.2.2.2.2.2.2.2.1, v.2.2.2.2.2.2.2.2.2.2.2.2.2.1, v.2.2.2.2.2.2.2.2.2.2.2.2.2.2.1, v.2.2.2.2.2.2.2.2.2.2.2.2.2.2.2)) (Dt.ite (v.2.2.2.2.2.1 != (0:Int)) (Dt.ret (v.2.1, v.2.2.2.2.2.2.1, v.2.2.2.2.2.2.2.2.1, true, v.2.2.2.2.2.2.2.2.2.2.1, v.2.2.2.2.2.2.2.2.2.2.2.1, v.2.2.2.2.2.2.2.2.2.2.2.2.1, v.2.2.2.2.2.2.2.2.2.2.2.2.2.1, v.2.2.2.2.2.2.2.2.2.2.2.2.2.2.1, v.2.2.2.2.2.2.2.2.2.2.2.2.2.2.2)) (Dt.ite (v.2.2.2.2.2.2.2.1 != (0:Int)) (Dt.ret (v.2.1, v.2.2.2.2.2.2.1, v.2.2.2.2.2.2.2.2.1, true, v.2.2.2.2.2.2.2.2.2.2.1, v.2.2.2.2.2.2.2.2.2.2.2.1, v.2.2.2.2.2.2.2.2.2.2.2.2.1, v.2.2.2.2.2.2.2.2.2.2.2.2.2.1, v.2.2.2.2.2.2.2.2.2.2.2.2.2.2.1, v.2.2.2.2.2.2.2.2.2.2.2.2.2.2.2)) (Dt.ret (v.2.1, v.2.2.2.2.2.2.1, v.2.2.2.2.2.2.2.2.1, (v.2.2.2.2.2.2.2.2.2.1 != (0:Int)), v.2.2.2.2.2.2.2.2.2.2.1, v.2.2.2.2.2.2.2.2.2.2.2.1, v.2.2.2.2.2.2.2.2.2.2.2.2.1, v.2.2.2.2.2.2.2.2.2.2.2.2.2.1, v.2.2.2.2.2.2.2.2.2.2.2.2.2.2.1, v.2.2.2.2.2.2.2.2.2.2.2.2.2.2.2))))))))
theorem law24_alive_g8 (C : law24_alive_C) (v : law24_alive_Y7) : treg tysT (orc (law24_alive_tab C)) 129 (regO (bodyOf f36) 8) false [(1, (.own Riiiii)), (3, .any), (5, .any), (7, .any), (9, (.own Riiiii)), (11, .any), (13, (.val Ri)), (88, .any)] (law24_alive_S7 v) some = (law24_alive_r8 C v).eval fun y => some (law24_alive_S8 y) := by kernel_rfl
abbrev law24_alive_Y9 : Type := Bool
def law24_alive_S9 (v : law24_alive_Y9) : St := ⟨[(0, .bool v)], []⟩
def law24_alive_r9 (C : law24_alive_C) (v : law24_alive_Y8) : Dt law24_alive_Y9 := (Dt.ret false)
theorem law24_alive_g9 (C : law24_alive_C) (v : law24_alive_Y8) : treg tysT (orc (law24_alive_tab C)) 129 (regO (bodyOf f36) 9) false [(0, .any)] (law24_alive_S8 v) some = (law24_alive_r9 C v).eval fun y => some (law24_alive_S9 y) := by kernel_rfl
def law24_alive_r10 (C : law24_alive_C) (v : law24_alive_Y8) : Dt law24_alive_Y9 := (Dt.bnd (C.2.2.2.2.1 (((0:Int), ()), ())) fun r1 => (Dt.bnd (C.2.2.2.2.1 (((2:Int), ()), ())) fun r2 => (Dt.bnd (C.2.2.2.2.1 (((2:Int), ()), ())) fun r3 => (Dt.bnd (C.2.2.2.2.1 (((3:Int), ()), ())) fun r4 => (Dt.bnd (C.2.2.1 ((v.2.2.2.2.1, ()), (([(r1.1, r1.2, r2.1, r2.2, (2:Int), ()), (r3.1, r3.2, r4.1, r4.2, (1:Int), ())] : List Diiiii), ()), ())) fun r5 => (Dt.ite r5 (Dt.ite (v.1 == (1:Int)) (Dt.bnd (C.2.2.2.2.1 (((1:Int), ()), ())) fun r6 => (Dt.ite ((v.2.2.2.2.2.1 == r6.1) && ((v.2.2.2.2.2.2.1 == r6.2) && true)) (Dt.bnd (C.2.2.2.2.1 (((0:Int), ()), ())) fun r7 => (Dt.ite ((v.2.2.2.2.2.2.2.1 == r7.1) && ((v.2.2.2.2.2.2.2.2.1 == r7.2) && true)) (Dt.bnd (C.2.2.2.2.1 (((0:Int), ()), ())) fun r8 => (Dt.bnd (C.2.2.2.2.1 (((2:Int), ()), ())) fun r9 => (Dt.bnd (C.2.2.1 ((v.2.2.2.2.2.2.2.2.2, ()), (([(r8.1, r8.2, r9.1, r9.2, (2:Int), ())] : List Diiiii), ()), ())) fun r10 => (Dt.ite r10 (Dt.ite (v.2.1 == (1:Int)) (Dt.bnd (C.2.2.2.2.2.2.2.1 ((v.2.2.1, ()), (([((1:Int), ()), ((2:Int), ()), ((5:Int), ())] : List Di), ()), ())) fun r11 => (Dt.ret r11)) (Dt.ret false)) (Dt.ret false))))) (Dt.ret false))) (Dt.ret false))) (Dt.ret false)) (Dt.ret false)))))))
theorem law24_alive_g10 (C : law24_alive_C) (v : law24_alive_Y8) : treg tysT (orc (law24_alive_tab C)) 129 (regO (bodyOf f36) 10) true [(0, .any)] (law24_alive_S8 v) some = (law24_alive_r10 C v).eval fun y => some (law24_alive_S9 y) := by kernel_rfl
def F_law24_alive (d : Nat) (x : law24_alive_X) : Option law24_alive_R :=
  (law24_alive_r0 (law24_alive_K d) ()).eval fun y0 =>
  (law24_alive_r1 (law24_alive_K d) ()).eval fun y1 =>
  (law24_alive_r2 (law24_alive_K d) y1).eval fun y2 =>
  (law24_alive_r3 (law24_alive_K d) y2).eval fun y3 =>
  (law24_alive_r4 (law24_alive_K d) y3).eval fun y4 =>
  (law24_alive_r5 (law24_alive_K d) y4).eval fun y5 =>
  (law24_alive_r6 (law24_alive_K d) y5).eval fun y6 =>
  (law24_alive_r7 (law24_alive_K d) y6).eval fun y7 =>
  (law24_alive_r8 (law24_alive_K d) y7).eval fun y8 =>
  bif y8.2.2.2.1 then ((law24_alive_r9 (law24_alive_K d) y8).eval fun y9 =>
  some y9) else ((law24_alive_r10 (law24_alive_K d) y8).eval fun y10 =>
  some y10)
theorem law24_alive_cok (d : Nat) : COK prog (law24_alive_sp (F_law24_alive d)) := by
  have hm : prog.follows .mixedOrders = true := mixed
  have hT := tys
  have hC0 : OrcOK prog (orc (law24_alive_tab (law24_alive_K d))) := orc_ok (by
    intro S hS
    simp only [law24_alive_tab, List.mem_cons, List.not_mem_nil, or_false] at hS
    rcases hS with rfl | rfl | rfl | rfl | rfl | rfl | rfl | rfl
    · exact race_Reigns_cok d
    · exact race_Laps_cok d
    · exact ref24_Same_cok d
    · exact race_Time_cok d
    · exact law24_at_cok d
    · exact race_Medals_cok d
    · exact law24_three_cok d
    · exact ref03_SameIDs_cok d)
  have hC : OrcOK prog (orc (law24_alive_tab (law24_alive_K d))) := hC0
  refine cok_of (c := bodyOf f36) (fn := f36) hT (by kernel_rfl) (by kernel_rfl) (by decide) fun x r h w0 φ0 Q hend => ?_
  replace h : F_law24_alive d x = some r := h
  unfold F_law24_alive at h
  show Run prog w0 φ0 129 (bodyOf f36) ⟨[], []⟩ Q
  refine run_seq ?_
  refine run_reg hm hT hC (law24_alive_g0 (law24_alive_K d) ()) h ?_
  intro y0 h
  refine cn_then ?_
  refine run_seq ?_
  refine run_reg hm hT hC (law24_alive_g1 (law24_alive_K d) ()) h ?_
  intro y1 h
  refine cn_then ?_
  refine run_seq ?_
  refine run_reg hm hT hC (law24_alive_g2 (law24_alive_K d) y1) h ?_
  intro y2 h
  refine cn_then ?_
  refine run_seq ?_
  refine run_reg hm hT hC (law24_alive_g3 (law24_alive_K d) y2) h ?_
  intro y3 h
  refine cn_then ?_
  refine run_seq ?_
  refine run_reg hm hT hC (law24_alive_g4 (law24_alive_K d) y3) h ?_
  intro y4 h
  refine cn_then ?_
  refine run_seq ?_
  refine run_reg hm hT hC (law24_alive_g5 (law24_alive_K d) y4) h ?_
  intro y5 h
  refine cn_then ?_
  refine run_seq ?_
  refine run_reg hm hT hC (law24_alive_g6 (law24_alive_K d) y5) h ?_
  intro y6 h
  refine cn_then ?_
  refine run_seq ?_
  refine run_reg hm hT hC (law24_alive_g7 (law24_alive_K d) y6) h ?_
  intro y7 h
  refine cn_then ?_
  refine run_seq ?_
  refine run_seq ?_
  refine run_reg hm hT hC (law24_alive_g8 (law24_alive_K d) y7) h ?_
  intro y8 h
  refine cn_then ?_
  refine run_cond (v := y8.2.2.2.1) (by kernel_rfl) h ?_ ?_
  ·
    intro h
    refine run_seq ?_
    refine run_reg hm hT hC (law24_alive_g9 (law24_alive_K d) y8) h ?_
    intro y9 h
    refine cn_then ?_
    refine run_ret ?_
    refine cn_then_ret ?_
    cases h
    exact (hend _ (by kernel_rfl)).2
  ·
    intro h
    refine run_skip ?_
    refine cn_then ?_
    refine run_seq ?_
    refine run_reg hm hT hC (law24_alive_g10 (law24_alive_K d) y8) h ?_
    intro y10 h
    refine cn_then ?_
    refine run_ret ?_
    cases h
    exact (hend _ (by kernel_rfl)).2
abbrev law24_fine_ps : List Pk := [.row RLiiiE true, .row Rii true, .row Rii true]
abbrev law24_fine_X : Type := DLiiiE × Dii × Dii × Unit
abbrev law24_fine_R : Type := Bool
def law24_fine_enc (r : law24_fine_R) : LV × List Ob := (.bool r, [])
def law24_fine_sp (F : law24_fine_X → Option law24_fine_R) : Go.Tx.Spec := ⟨37, law24_fine_ps, law24_fine_R, F, law24_fine_enc⟩
abbrev law24_fine_C : Type := (ref03_Great_X → Option ref03_Great_R) × (ref24_Asked_X → Option ref24_Asked_R) × Unit
def law24_fine_K (d : Nat) : law24_fine_C := (F_ref03_Great d, F_ref24_Asked d, ())
def law24_fine_tab (C : law24_fine_C) : List Go.Tx.Spec := [ref03_Great_sp C.1, ref24_Asked_sp C.2.1]
abbrev law24_fine_Y0i : Type := List Diii × Int × Int × Int × Int
def law24_fine_S0i (v : law24_fine_Y0i) : St := ⟨[(0, .agg [.fz Riii v.1]), (1, .agg [.int .i64 v.2.1, .int .i64 v.2.2.1]), (2, .agg [.int .i64 v.2.2.2.1, .int .i64 v.2.2.2.2])], []⟩
abbrev law24_fine_Y0 : Type := List Diii × Int × Int × Int × Int
def law24_fine_S0 (v : law24_fine_Y0) : St := ⟨[(3, .ptr 0 0), (4, .ptr 1 0), (5, .ptr 2 0)], [.cells [.fz Riii v.1], .cells [.int .i64 v.2.1, .int .i64 v.2.2.1], .cells [.int .i64 v.2.2.2.1, .int .i64 v.2.2.2.2]]⟩
def law24_fine_r0 (C : law24_fine_C) (v : law24_fine_Y0i) : Dt law24_fine_Y0 := (Dt.ret (v.1, v.2.1, v.2.2.1, v.2.2.2.1, v.2.2.2.2))
theorem law24_fine_g0 (C : law24_fine_C) (v : law24_fine_Y0i) : treg tysT (orc (law24_fine_tab C)) 23 (regO (bodyOf f37) 0) false [(3, (.box [.val Riii])), (4, .any), (5, .any)] (law24_fine_S0i v) some = (law24_fine_r0 C v).eval fun y => some (law24_fine_S0 y) := by kernel_rfl
abbrev law24_fine_Y1 : Type := Bool
def law24_fine_S1 (v : law24_fine_Y1) : St := ⟨[(6, .bool v)], []⟩
def law24_fine_r1 (C : law24_fine_C) (v : law24_fine_Y0) : Dt law24_fine_Y1 := (Dt.bnd (C.1 ((v.1, ()), ())) fun r1 => (Dt.ite (!r1) (Dt.ite (decide ((List.length v.1 : Int) > (0:Int))) (Dt.bnd (C.2.1 ((v.1, ()), (v.2.1, v.2.2.1, ()), (v.2.2.2.1, v.2.2.2.2, ()), ())) fun r2 => (Dt.ret (r2 == (0:Int)))) (Dt.ret false)) (Dt.ret false)))
theorem law24_fine_g1 (C : law24_fine_C) (v : law24_fine_Y0) : treg tysT (orc (law24_fine_tab C)) 23 (regO (bodyOf f37) 1) false [(6, .any)] (law24_fine_S0 v) some = (law24_fine_r1 C v).eval fun y => some (law24_fine_S1 y) := by kernel_rfl
def F_law24_fine (d : Nat) (x : law24_fine_X) : Option law24_fine_R :=
  (law24_fine_r0 (law24_fine_K d) (x.1.1, x.2.1.1, x.2.1.2.1, x.2.2.1.1, x.2.2.1.2.1)).eval fun y0 =>
  (law24_fine_r1 (law24_fine_K d) y0).eval fun y1 =>
  some y1
theorem law24_fine_cok (d : Nat) : COK prog (law24_fine_sp (F_law24_fine d)) := by
  have hm : prog.follows .mixedOrders = true := mixed
  have hT := tys
  have hC0 : OrcOK prog (orc (law24_fine_tab (law24_fine_K d))) := orc_ok (by
    intro S hS
    simp only [law24_fine_tab, List.mem_cons, List.not_mem_nil, or_false] at hS
    rcases hS with rfl | rfl
    · exact ref03_Great_cok d
    · exact ref24_Asked_cok d)
  have hC : OrcOK prog (orc (law24_fine_tab (law24_fine_K d))) := hC0
  refine cok_of (c := bodyOf f37) (fn := f37) hT (by kernel_rfl) (by kernel_rfl) (by decide) fun x r h w0 φ0 Q hend => ?_
  replace h : F_law24_fine d x = some r := h
  unfold F_law24_fine at h
  show Run prog w0 φ0 23 (bodyOf f37) ⟨[(0, .agg [.fz Riii x.1.1]), (1, .agg [.int .i64 x.2.1.1, .int .i64 x.2.1.2.1]), (2, .agg [.int .i64 x.2.2.1.1, .int .i64 x.2.2.1.2.1])], []⟩ Q
  refine run_seq ?_
  refine run_reg hm hT hC (law24_fine_g0 (law24_fine_K d) (x.1.1, x.2.1.1, x.2.1.2.1, x.2.2.1.1, x.2.2.1.2.1)) h ?_
  intro y0 h
  refine cn_then ?_
  refine run_seq ?_
  refine run_reg hm hT hC (law24_fine_g1 (law24_fine_K d) y0) h ?_
  intro y1 h
  refine cn_then ?_
  refine run_ret ?_
  cases h
  exact (hend _ (by kernel_rfl)).2
abbrev law24_RaceTotal_ps : List Pk := [.row RLiiiE true, .row Rii true, .row Rii true]
abbrev law24_RaceTotal_X : Type := DLiiiE × Dii × Dii × Unit
abbrev law24_RaceTotal_R : Type := Bool
def law24_RaceTotal_enc (r : law24_RaceTotal_R) : LV × List Ob := (.bool r, [])
def law24_RaceTotal_sp (F : law24_RaceTotal_X → Option law24_RaceTotal_R) : Go.Tx.Spec := ⟨8, law24_RaceTotal_ps, law24_RaceTotal_R, F, law24_RaceTotal_enc⟩
abbrev law24_RaceTotal_C : Type := (race_Reigns_X → Option race_Reigns_R) × (law24_alive_X → Option law24_alive_R) × (law24_fine_X → Option law24_fine_R) × (ref01_Asked_X → Option ref01_Asked_R) × (race_Time_X → Option race_Time_R) × (ratio_Sub_X → Option ratio_Sub_R) × (law24_at_X → Option law24_at_R) × Unit
def law24_RaceTotal_K (d : Nat) : law24_RaceTotal_C := (F_race_Reigns d, F_law24_alive d, F_law24_fine d, F_ref01_Asked d, F_race_Time d, F_ratio_Sub d, F_law24_at d, ())
def law24_RaceTotal_tab (C : law24_RaceTotal_C) : List Go.Tx.Spec := [race_Reigns_sp C.1, law24_alive_sp C.2.1, law24_fine_sp C.2.2.1, ref01_Asked_sp C.2.2.2.1, race_Time_sp C.2.2.2.2.1, ratio_Sub_sp C.2.2.2.2.2.1, law24_at_sp C.2.2.2.2.2.2.1]
abbrev law24_RaceTotal_Y0i : Type := List Diii × Int × Int × Int × Int
def law24_RaceTotal_S0i (v : law24_RaceTotal_Y0i) : St := ⟨[(0, .agg [.fz Riii v.1]), (1, .agg [.int .i64 v.2.1, .int .i64 v.2.2.1]), (2, .agg [.int .i64 v.2.2.2.1, .int .i64 v.2.2.2.2])], []⟩
abbrev law24_RaceTotal_Y0 : Type := List Diii × Int × Int × Int × Int
def law24_RaceTotal_S0 (v : law24_RaceTotal_Y0) : St := ⟨[(3, .ptr 0 0), (4, .ptr 1 0), (5, .ptr 2 0)], [.cells [.fz Riii v.1], .cells [.int .i64 v.2.1, .int .i64 v.2.2.1], .cells [.int .i64 v.2.2.2.1, .int .i64 v.2.2.2.2]]⟩
def law24_RaceTotal_r0 (C : law24_RaceTotal_C) (v : law24_RaceTotal_Y0i) : Dt law24_RaceTotal_Y0 := (Dt.ret (v.1, v.2.1, v.2.2.1, v.2.2.2.1, v.2.2.2.2))
theorem law24_RaceTotal_g0 (C : law24_RaceTotal_C) (v : law24_RaceTotal_Y0i) : treg tysT (orc (law24_RaceTotal_tab C)) 169 (regO (bodyOf f8) 0) false [(3, (.box [.val Riii])), (4, .any), (5, .any)] (law24_RaceTotal_S0i v) some = (law24_RaceTotal_r0 C v).eval fun y => some (law24_RaceTotal_S0 y) := by kernel_rfl
abbrev law24_RaceTotal_Y1 : Type := Bool × List Diii × Int × Int × Int × Int
def law24_RaceTotal_S1 (v : law24_RaceTotal_Y1) : St := ⟨[(3, .ptr 0 0), (4, .ptr 1 0), (5, .ptr 2 0), (7, .bool v.1)], [.cells [.fz Riii v.2.1], .cells [.int .i64 v.2.2.1, .int .i64 v.2.2.2.1], .cells [.int .i64 v.2.2.2.2.1, .int .i64 v.2.2.2.2.2]]⟩
def law24_RaceTotal_r1 (C : law24_RaceTotal_C) (v : law24_RaceTotal_Y0) : Dt law24_RaceTotal_Y1 := (Dt.bnd (C.2.1 (())) fun r1 => (Dt.ret (r1, v.1, v.2.1, v.2.2.1, v.2.2.2.1, v.2.2.2.2)))
theorem law24_RaceTotal_g1 (C : law24_RaceTotal_C) (v : law24_RaceTotal_Y0) : treg tysT (orc (law24_RaceTotal_tab C)) 169 (regO (bodyOf f8) 1) false [(3, (.box [.val Riii])), (4, .any), (5, .any), (7, .any)] (law24_RaceTotal_S0 v) some = (law24_RaceTotal_r1 C v).eval fun y => some (law24_RaceTotal_S1 y) := by kernel_rfl
abbrev law24_RaceTotal_Y2 : Type := Bool × Bool × List Diii × Int × Int × Int × Int
def law24_RaceTotal_S2 (v : law24_RaceTotal_Y2) : St := ⟨[(3, .ptr 0 0), (4, .ptr 1 0), (5, .ptr 2 0), (7, .bool v.1), (38, .bool v.2.1)], [.cells [.fz Riii v.2.2.1], .cells [.int .i64 v.2.2.2.1, .int .i64 v.2.2.2.2.1], .cells [.int .i64 v.2.2.2.2.2.1, .int .i64 v.2.2.2.2.2.2]]⟩
def law24_RaceTotal_r2 (C : law24_RaceTotal_C) (v : law24_RaceTotal_Y1) : Dt law24_RaceTotal_Y2 := (Dt.bnd (C.2.2.1 ((v.2.1, ()), (v.2.2.1, v.2.2.2.1, ()), (v.2.2.2.2.1, v.2.2.2.2.2, ()), ())) fun r1 => (Dt.ite (!r1) (Dt.ret (v.1, true, v.2.1, v.2.2.1, v.2.2.2.1, v.2.2.2.2.1, v.2.2.2.2.2)) (Dt.bnd (C.2.2.2.1 ((v.2.2.1, v.2.2.2.1, ()), ())) fun r2 => (Dt.ite (r2 != (0:Int)) (Dt.ret (v.1, true, v.2.1, v.2.2.1, v.2.2.2.1, v.2.2.2.2.1, v.2.2.2.2.2)) (Dt.bnd (C.2.2.2.1 ((v.2.2.2.2.1, v.2.2.2.2.2, ()), ())) fun r3 => (Dt.ite (r3 != (0:Int)) (Dt.ret (v.1, true, v.2.1, v.2.2.1, v.2.2.2.1, v.2.2.2.2.1, v.2.2.2.2.2)) (Dt.ret (v.1, (!v.1), v.2.1, v.2.2.1, v.2.2.2.1, v.2.2.2.2.1, v.2.2.2.2.2))))))))
theorem law24_RaceTotal_g2 (C : law24_RaceTotal_C) (v : law24_RaceTotal_Y1) : treg tysT (orc (law24_RaceTotal_tab C)) 169 (regO (bodyOf f8) 2) false [(3, (.box [.val Riii])), (4, .any), (5, .any), (7, .any), (38, .any)] (law24_RaceTotal_S1 v) some = (law24_RaceTotal_r2 C v).eval fun y => some (law24_RaceTotal_S2 y) := by kernel_rfl
abbrev law24_RaceTotal_Y3 : Type := Bool
def law24_RaceTotal_S3 (v : law24_RaceTotal_Y3) : St := ⟨[(6, .bool v)], []⟩
def law24_RaceTotal_r3 (C : law24_RaceTotal_C) (v : law24_RaceTotal_Y2) : Dt law24_RaceTotal_Y3 := (Dt.ret v.1)
theorem law24_RaceTotal_g3 (C : law24_RaceTotal_C) (v : law24_RaceTotal_Y2) : treg tysT (orc (law24_RaceTotal_tab C)) 169 (regO (bodyOf f8) 3) false [(6, .any)] (law24_RaceTotal_S2 v) some = (law24_RaceTotal_r3 C v).eval fun y => some (law24_RaceTotal_S3 y) := by kernel_rfl
abbrev law24_RaceTotal_Y4 : Type := Bool × Int × List Diii × Int × Int × Int × Int × List Diiiii
def law24_RaceTotal_S4 (v : law24_RaceTotal_Y4) : St := ⟨[(3, .ptr 0 0), (4, .ptr 1 0), (5, .ptr 2 0), (7, .bool v.1), (8, .rs 3), (9, .int .i64 v.2.1)], [.cells [.fz Riii v.2.2.1], .cells [.int .i64 v.2.2.2.1, .int .i64 v.2.2.2.2.1], .cells [.int .i64 v.2.2.2.2.2.1, .int .i64 v.2.2.2.2.2.2.1], .rows Riiiii v.2.2.2.2.2.2.2]⟩
def law24_RaceTotal_r4 (C : law24_RaceTotal_C) (v : law24_RaceTotal_Y2) : Dt law24_RaceTotal_Y4 := (Dt.bnd (C.1 ((v.2.2.1, ()), (v.2.2.2.1, v.2.2.2.2.1, ()), (v.2.2.2.2.2.1, v.2.2.2.2.2.2, ()), ())) fun r1 => (Dt.ret (v.1, r1.2, v.2.2.1, v.2.2.2.1, v.2.2.2.2.1, v.2.2.2.2.2.1, v.2.2.2.2.2.2, r1.1)))
theorem law24_RaceTotal_g4 (C : law24_RaceTotal_C) (v : law24_RaceTotal_Y2) : treg tysT (orc (law24_RaceTotal_tab C)) 169 (regO (bodyOf f8) 4) false [(3, (.box [.val Riii])), (4, .any), (5, .any), (7, .any), (8, (.own Riiiii)), (9, .any)] (law24_RaceTotal_S2 v) some = (law24_RaceTotal_r4 C v).eval fun y => some (law24_RaceTotal_S4 y) := by kernel_rfl
abbrev law24_RaceTotal_Y5 : Type := Bool × Bool × List Diii × Int × Int × Int × Int × List Diiiii
def law24_RaceTotal_S5 (v : law24_RaceTotal_Y5) : St := ⟨[(3, .ptr 0 0), (4, .ptr 1 0), (5, .ptr 2 0), (7, .bool v.1), (8, .rs 3), (48, .bool v.2.1)], [.cells [.fz Riii v.2.2.1], .cells [.int .i64 v.2.2.2.1, .int .i64 v.2.2.2.2.1], .cells [.int .i64 v.2.2.2.2.2.1, .int .i64 v.2.2.2.2.2.2.1], .rows Riiiii v.2.2.2.2.2.2.2]⟩
def law24_RaceTotal_r5 (C : law24_RaceTotal_C) (v : law24_RaceTotal_Y4) : Dt law24_RaceTotal_Y5 := (Dt.ret (v.1, (v.2.1 != (0:Int)), v.2.2.1, v.2.2.2.1, v.2.2.2.2.1, v.2.2.2.2.2.1, v.2.2.2.2.2.2.1, v.2.2.2.2.2.2.2))
theorem law24_RaceTotal_g5 (C : law24_RaceTotal_C) (v : law24_RaceTotal_Y4) : treg tysT (orc (law24_RaceTotal_tab C)) 169 (regO (bodyOf f8) 5) false [(3, (.box [.val Riii])), (4, .any), (5, .any), (7, .any), (8, (.own Riiiii)), (48, .any)] (law24_RaceTotal_S4 v) some = (law24_RaceTotal_r5 C v).eval fun y => some (law24_RaceTotal_S5 y) := by kernel_rfl
def law24_RaceTotal_r6 (C : law24_RaceTotal_C) (v : law24_RaceTotal_Y5) : Dt law24_RaceTotal_Y3 := (Dt.ret false)
theorem law24_RaceTotal_g6 (C : law24_RaceTotal_C) (v : law24_RaceTotal_Y5) : treg tysT (orc (law24_RaceTotal_tab C)) 169 (regO (bodyOf f8) 6) false [(6, .any)] (law24_RaceTotal_S5 v) some = (law24_RaceTotal_r6 C v).eval fun y => some (law24_RaceTotal_S3 y) := by kernel_rfl
abbrev law24_RaceTotal_Y7 : Type := Bool × Int × List Diii × Int × Int × Int × Int × List Diiiii
def law24_RaceTotal_S7 (v : law24_RaceTotal_Y7) : St := ⟨[(3, .ptr 0 0), (4, .ptr 1 0), (5, .ptr 2 0), (7, .bool v.1), (8, .rs 3), (10, .int .i64 v.2.1)], [.cells [.fz Riii v.2.2.1], .cells [.int .i64 v.2.2.2.1, .int .i64 v.2.2.2.2.1], .cells [.int .i64 v.2.2.2.2.2.1, .int .i64 v.2.2.2.2.2.2.1], .rows Riiiii v.2.2.2.2.2.2.2]⟩
def law24_RaceTotal_r7 (C : law24_RaceTotal_C) (v : law24_RaceTotal_Y5) : Dt law24_RaceTotal_Y7 := (Dt.ret (v.1, (0:Int), v.2.2.1, v.2.2.2.1, v.2.2.2.2.1, v.2.2.2.2.2.1, v.2.2.2.2.2.2.1, v.2.2.2.2.2.2.2))
theorem law24_RaceTotal_g7 (C : law24_RaceTotal_C) (v : law24_RaceTotal_Y5) : treg tysT (orc (law24_RaceTotal_tab C)) 169 (regO (bodyOf f8) 7) false [(3, (.box [.val Riii])), (4, .any), (5, .any), (7, .any), (8, (.own Riiiii)), (10, .any)] (law24_RaceTotal_S5 v) some = (law24_RaceTotal_r7 C v).eval fun y => some (law24_RaceTotal_S7 y) := by kernel_rfl
abbrev law24_RaceTotal_Y8 : Type := Bool × Int × Int × List Diii × Int × Int × Int × Int × List Diiiii
def law24_RaceTotal_S8 (v : law24_RaceTotal_Y8) : St := ⟨[(3, .ptr 0 0), (4, .ptr 1 0), (5, .ptr 2 0), (7, .bool v.1), (8, .rs 3), (10, .int .i64 v.2.1), (11, .int .i64 v.2.2.1)], [.cells [.fz Riii v.2.2.2.1], .cells [.int .i64 v.2.2.2.2.1, .int .i64 v.2.2.2.2.2.1], .cells [.int .i64 v.2.2.2.2.2.2.1, .int .i64 v.2.2.2.2.2.2.2.1], .rows Riiiii v.2.2.2.2.2.2.2.2]⟩
def law24_RaceTotal_r8 (C : law24_RaceTotal_C) (v : law24_RaceTotal_Y7) : Dt law24_RaceTotal_Y8 := (Dt.ret (v.1, v.2.1, (0:Int), v.2.2.1, v.2.2.2.1, v.2.2.2.2.1, v.2.2.2.2.2.1, v.2.2.2.2.2.2.1, v.2.2.2.2.2.2.2))
theorem law24_RaceTotal_g8 (C : law24_RaceTotal_C) (v : law24_RaceTotal_Y7) : treg tysT (orc (law24_RaceTotal_tab C)) 169 (regO (bodyOf f8) 8) false [(3, (.box [.val Riii])), (4, .any), (5, .any), (7, .any), (8, (.own Riiiii)), (10, .any), (11, .any)] (law24_RaceTotal_S7 v) some = (law24_RaceTotal_r8 C v).eval fun y => some (law24_RaceTotal_S8 y) := by kernel_rfl
abbrev law24_RaceTotal_Y9 : Type := Bool × Int × Int × Bool × List Diii × Int × Int × Int × Int × List Diiiii
def law24_RaceTotal_S9 (v : law24_RaceTotal_Y9) : St := ⟨[(3, .ptr 0 0), (4, .ptr 1 0), (5, .ptr 2 0), (7, .bool v.1), (8, .rs 3), (10, .int .i64 v.2.1), (11, .int .i64 v.2.2.1), (53, .bool v.2.2.2.1)], [.cells [.fz Riii v.2.2.2.2.1], .cells [.int .i64 v.2.2.2.2.2.1, .int .i64 v.2.2.2.2.2.2.1], .cells [.int .i64 v.2.2.2.2.2.2.2.1, .int .i64 v.2.2.2.2.2.2.2.2.1], .rows Riiiii v.2.2.2.2.2.2.2.2.2]⟩
def law24_RaceTotal_r9 (C : law24_RaceTotal_C) (v : law24_RaceTotal_Y8) : Dt law24_RaceTotal_Y9 := (Dt.ret (v.1, v.2.1, v.2.2.1, (decide (v.2.2.1 < (List.length v.2.2.2.1 : Int))), v.2.2.2.1, v.2.2.2.2.1, v.2.2.2.2.2.1, v.2.2.2.2.2.2.1, v.2.2.2.2.2.2.2.1, v.2.2.2.2.2.2.2.2))
theorem law24_RaceTotal_g9 (C : law24_RaceTotal_C) (v : law24_RaceTotal_Y8) : treg tysT (orc (law24_RaceTotal_tab C)) 169 (regO (bodyOf f8) 9) false [(3, (.box [.val Riii])), (4, .any), (5, .any), (7, .any), (8, (.own Riiiii)), (10, .any), (11, .any), (53, .any)] (law24_RaceTotal_S8 v) some = (law24_RaceTotal_r9 C v).eval fun y => some (law24_RaceTotal_S9 y) := by kernel_rfl
abbrev law24_RaceTotal_Y11 : Type := Bool × Int × Int × Int × List Diii × Int × Int × Int × Int × List Diiiii × Int × Int
def law24_RaceTotal_S11 (v : law24_RaceTotal_Y11) : St := ⟨[(3, .ptr 0 0), (4, .ptr 1 0), (5, .ptr 2 0), (7, .bool v.1), (8, .rs 3), (10, .int .i64 v.2.1), (11, .int .i64 v.2.2.1), (12, .ptr 4 0), (13, .int .i64 v.2.2.2.1)], [.cells [.fz Riii v.2.2.2.2.1], .cells [.int .i64 v.2.2.2.2.2.1, .int .i64 v.2.2.2.2.2.2.1], .cells [.int .i64 v.2.2.2.2.2.2.2.1, .int .i64 v.2.2.2.2.2.2.2.2.1], .rows Riiiii v.2.2.2.2.2.2.2.2.2.1, .cells [.int .i64 v.2.2.2.2.2.2.2.2.2.2.1, .int .i64 v.2.2.2.2.2.2.2.2.2.2.2]]⟩
def law24_RaceTotal_r11 (C : law24_RaceTotal_C) (v : law24_RaceTotal_Y9) : Dt law24_RaceTotal_Y11 := (Dt.ite (inB v.2.2.1 (List.length v.2.2.2.2.1)) (Dt.bnd (C.2.2.2.2.1 ((v.2.2.2.2.1, ()), ((elt ziii v.2.2.2.2.1 (v.2.2.1).toNat).1, ()), (v.2.2.2.2.2.1, v.2.2.2.2.2.2.1, ()), (v.2.2.2.2.2.2.2.1, v.2.2.2.2.2.2.2.2.1, ()), ())) fun r1 => (Dt.ret (v.1, v.2.1, v.2.2.1, r1.2.2, v.2.2.2.2.1, v.2.2.2.2.2.1, v.2.2.2.2.2.2.1, v.2.2.2.2.2.2.2.1, v.2.2.2.2.2.2.2.2.1, v.2.2.2.2.2.2.2.2.2, r1.1, r1.2.1))) Dt.fail)
theorem law24_RaceTotal_g11 (C : law24_RaceTotal_C) (v : law24_RaceTotal_Y9) : treg tysT (orc (law24_RaceTotal_tab C)) 169 (regO (bodyOf f8) 11) true [(3, (.box [.val Riii])), (4, .any), (5, .any), (7, .any), (8, (.own Riiiii)), (10, .any), (11, .any), (12, .any), (13, .any)] (law24_RaceTotal_S9 v) some = (law24_RaceTotal_r11 C v).eval fun y => some (law24_RaceTotal_S11 y) := by kernel_rfl
abbrev law24_RaceTotal_Y12 : Type := Bool × Int × Int × Int × Bool × List Diii × Int × Int × Int × Int × List Diiiii × Int × Int
def law24_RaceTotal_S12 (v : law24_RaceTotal_Y12) : St := ⟨[(3, .ptr 0 0), (4, .ptr 1 0), (5, .ptr 2 0), (7, .bool v.1), (8, .rs 3), (10, .int .i64 v.2.1), (11, .int .i64 v.2.2.1), (12, .ptr 4 0), (13, .int .i64 v.2.2.2.1), (14, .bool v.2.2.2.2.1)], [.cells [.fz Riii v.2.2.2.2.2.1], .cells [.int .i64 v.2.2.2.2.2.2.1, .int .i64 v.2.2.2.2.2.2.2.1], .cells [.int .i64 v.2.2.2.2.2.2.2.2.1, .int .i64 v.2.2.2.2.2.2.2.2.2.1], .rows Riiiii v.2.2.2.2.2.2.2.2.2.2.1, .cells [.int .i64 v.2.2.2.2.2.2.2.2.2.2.2.1, .int .i64 v.2.2.2.2.2.2.2.2.2.2.2.2]]⟩
def law24_RaceTotal_r12 (C : law24_RaceTotal_C) (v : law24_RaceTotal_Y11) : Dt law24_RaceTotal_Y12 := (Dt.ret (v.1, v.2.1, v.2.2.1, v.2.2.2.1, false, v.2.2.2.2.1, v.2.2.2.2.2.1, v.2.2.2.2.2.2.1, v.2.2.2.2.2.2.2.1, v.2.2.2.2.2.2.2.2.1, v.2.2.2.2.2.2.2.2.2.1, v.2.2.2.2.2.2.2.2.2.2.1, v.2.2.2.2.2.2.2.2.2.2.2))
theorem law24_RaceTotal_g12 (C : law24_RaceTotal_C) (v : law24_RaceTotal_Y11) : treg tysT (orc (law24_RaceTotal_tab C)) 169 (regO (bodyOf f8) 12) false [(3, (.box [.val Riii])), (4, .any), (5, .any), (7, .any), (8, (.own Riiiii)), (10, .any), (11, .any), (12, .any), (13, .any), (14, .any)] (law24_RaceTotal_S11 v) some = (law24_RaceTotal_r12 C v).eval fun y => some (law24_RaceTotal_S12 y) := by kernel_rfl
abbrev law24_RaceTotal_Y13 : Type := Bool × Int × Int × Int × Bool × Int × List Diii × Int × Int × Int × Int × List Diiiii × Int × Int
def law24_RaceTotal_S13 (v : law24_RaceTotal_Y13) : St := ⟨[(3, .ptr 0 0), (4, .ptr 1 0), (5, .ptr 2 0), (7, .bool v.1), (8, .rs 3), (10, .int .i64 v.2.1), (11, .int .i64 v.2.2.1), (12, .ptr 4 0), (13, .int .i64 v.2.2.2.1), (14, .bool v.2.2.2.2.1), (15, .int .i64 v.2.2.2.2.2.1)], [.cells [.fz Riii v.2.2.2.2.2.2.1], .cells [.int .i64 v.2.2.2.2.2.2.2.1, .int .i64 v.2.2.2.2.2.2.2.2.1], .cells [.int .i64 v.2.2.2.2.2.2.2.2.2.1, .int .i64 v.2.2.2.2.2.2.2.2.2.2.1], .rows Riiiii v.2.2.2.2.2.2.2.2.2.2.2.1, .cells [.int .i64 v.2.2.2.2.2.2.2.2.2.2.2.2.1, .int .i64 v.2.2.2.2.2.2.2.2.2.2.2.2.2]]⟩
def law24_RaceTotal_r13 (C : law24_RaceTotal_C) (v : law24_RaceTotal_Y12) : Dt law24_RaceTotal_Y13 := (Dt.ret (v.1, v.2.1, v.2.2.1, v.2.2.2.1, v.2.2.2.2.1, (0:Int), v.2.2.2.2.2.1, v.2.2.2.2.2.2.1, v.2.2.2.2.2.2.2.1, v.2.2.2.2.2.2.2.2.1, v.2.2.2.2.2.2.2.2.2.1, v.2.2.2.2.2.2.2.2.2.2.1, v.2.2.2.2.2.2.2.2.2.2.2.1, v.2.2.2.2.2.2.2.2.2.2.2.2))
theorem law24_RaceTotal_g13 (C : law24_RaceTotal_C) (v : law24_RaceTotal_Y12) : treg tysT (orc (law24_RaceTotal_tab C)) 169 (regO (bodyOf f8) 13) false [(3, (.box [.val Riii])), (4, .any), (5, .any), (7, .any), (8, (.own Riiiii)), (10, .any), (11, .any), (12, .any), (13, .any), (14, .any), (15, .any)] (law24_RaceTotal_S12 v) some = (law24_RaceTotal_r13 C v).eval fun y => some (law24_RaceTotal_S13 y) := by kernel_rfl
abbrev law24_RaceTotal_Y14 : Type := Bool × Int × Int × Int × Bool × Int × Bool × List Diii × Int × Int × Int × Int × List Diiiii × Int × Int
def law24_RaceTotal_S14 (v : law24_RaceTotal_Y14) : St := ⟨[(3, .ptr 0 0), (4, .ptr 1 0), (5, .ptr 2 0), (7, .bool v.1), (8, .rs 3), (10, .int .i64 v.2.1), (11, .int .i64 v.2.2.1), (12, .ptr 4 0), (13, .int .i64 v.2.2.2.1), (14, .bool v.2.2.2.2.1), (15, .int .i64 v.2.2.2.2.2.1), (72, .bool v.2.2.2.2.2.2.1)], [.cells [.fz Riii v.2.2.2.2.2.2.2.1], .cells [.int .i64 v.2.2.2.2.2.2.2.2.1, .int .i64 v.2.2.2.2.2.2.2.2.2.1], .cells [.int .i64 v.2.2.2.2.2.2.2.2.2.2.1, .int .i64 v.2.2.2.2.2.2.2.2.2.2.2.1], .rows Riiiii v.2.2.2.2.2.2.2.2.2.2.2.2.1, .cells [.int .i64 v.2.2.2.2.2.2.2.2.2.2.2.2.2.1, .int .i64 v.2.2.2.2.2.2.2.2.2.2.2.2.2.2]]⟩
def law24_RaceTotal_r14 (C : law24_RaceTotal_C) (v : law24_RaceTotal_Y13) : Dt law24_RaceTotal_Y14 := (Dt.ret (v.1, v.2.1, v.2.2.1, v.2.2.2.1, v.2.2.2.2.1, v.2.2.2.2.2.1, (decide (v.2.2.2.2.2.1 < (List.length v.2.2.2.2.2.2.2.2.2.2.2.1 : Int))), v.2.2.2.2.2.2.1, v.2.2.2.2.2.2.2.1, v.2.2.2.2.2.2.2.2.1, v.2.2.2.2.2.2.2.2.2.1, v.2.2.2.2.2.2.2.2.2.2.1, v.2.2.2.2.2.2.2.2.2.2.2.1, v.2.2.2.2.2.2.2.2.2.2.2.2.1, v.2.2.2.2.2.2.2.2.2.2.2.2.2))
theorem law24_RaceTotal_g14 (C : law24_RaceTotal_C) (v : law24_RaceTotal_Y13) : treg tysT (orc (law24_RaceTotal_tab C)) 169 (regO (bodyOf f8) 14) false [(3, (.box [.val Riii])), (4, .any), (5, .any), (7, .any), (8, (.own Riiiii)), (10, .any), (11, .any), (12, .any), (13, .any), (14, .any), (15, .any), (72, .any)] (law24_RaceTotal_S13 v) some = (law24_RaceTotal_r14 C v).eval fun y => some (law24_RaceTotal_S14 y) := by kernel_rfl
abbrev law24_RaceTotal_Y16 : Type := Bool × Int × Int × Int × Bool × Int × Bool × List Diii × Int × Int × Int × Int × List Diiiii × Int × Int
def law24_RaceTotal_S16 (v : law24_RaceTotal_Y16) : St := ⟨[(3, .ptr 0 0), (4, .ptr 1 0), (5, .ptr 2 0), (7, .bool v.1), (8, .rs 3), (10, .int .i64 v.2.1), (11, .int .i64 v.2.2.1), (12, .ptr 4 0), (13, .int .i64 v.2.2.2.1), (14, .bool v.2.2.2.2.1), (15, .int .i64 v.2.2.2.2.2.1), (86, .bool v.2.2.2.2.2.2.1)], [.cells [.fz Riii v.2.2.2.2.2.2.2.1], .cells [.int .i64 v.2.2.2.2.2.2.2.2.1, .int .i64 v.2.2.2.2.2.2.2.2.2.1], .cells [.int .i64 v.2.2.2.2.2.2.2.2.2.2.1, .int .i64 v.2.2.2.2.2.2.2.2.2.2.2.1], .rows Riiiii v.2.2.2.2.2.2.2.2.2.2.2.2.1, .cells [.int .i64 v.2.2.2.2.2.2.2.2.2.2.2.2.2.1, .int .i64 v.2.2.2.2.2.2.2.2.2.2.2.2.2.2]]⟩
def law24_RaceTotal_r16 (C : law24_RaceTotal_C) (v : law24_RaceTotal_Y14) : Dt law24_RaceTotal_Y16 := (Dt.ite (inB v.2.2.2.2.2.1 (List.length v.2.2.2.2.2.2.2.2.2.2.2.2.1)) (Dt.ite (inB v.2.2.1 (List.length v.2.2.2.2.2.2.2.1)) (Dt.ret (v.1, v.2.1, v.2.2.1, v.2.2.2.1, v.2.2.2.2.1, v.2.2.2.2.2.1, ((elt ziiiii v.2.2.2.2.2.2.2.2.2.2.2.2.1 (v.2.2.2.2.2.1).toNat).2.2.2.2.1 != (elt ziii v.2.2.2.2.2.2.2.1 (v.2.2.1).toNat).1), v.2.2.2.2.2.2.2.1, v.2.2.2.2.2.2.2.2.1, v.2.2.2.2.2.2.2.2.2.1, v.2.2.2.2.2.2.2.2.2.2.1, v.2.2.2.2.2.2.2.2.2.2.2.1, v.2.2.2.2.2.2.2.2.2.2.2.2.1, v.2.2.2.2.2.2.2.2.2.2.2.2.2.1, v.2.2.2.2.2.2.2.2.2.2.2.2.2.2)) Dt.fail) Dt.fail)
theorem law24_RaceTotal_g16 (C : law24_RaceTotal_C) (v : law24_RaceTotal_Y14) : treg tysT (orc (law24_RaceTotal_tab C)) 169 (regO (bodyOf f8) 16) true [(3, (.box [.val Riii])), (4, .any), (5, .any), (7, .any), (8, (.own Riiiii)), (10, .any), (11, .any), (12, .any), (13, .any), (14, .any), (15, .any), (86, .any)] (law24_RaceTotal_S14 v) some = (law24_RaceTotal_r16 C v).eval fun y => some (law24_RaceTotal_S16 y) := by kernel_rfl
def law24_RaceTotal_r15 (C : law24_RaceTotal_C) (v : law24_RaceTotal_Y13) : Dt law24_RaceTotal_Y13 := (Dt.ret (v.1, v.2.1, v.2.2.1, v.2.2.2.1, v.2.2.2.2.1, (IntKind.wrap .i64 (v.2.2.2.2.2.1 + (1:Int))), v.2.2.2.2.2.2.1, v.2.2.2.2.2.2.2.1, v.2.2.2.2.2.2.2.2.1, v.2.2.2.2.2.2.2.2.2.1, v.2.2.2.2.2.2.2.2.2.2.1, v.2.2.2.2.2.2.2.2.2.2.2.1, v.2.2.2.2.2.2.2.2.2.2.2.2.1, v.2.2.2.2.2.2.2.2.2.2.2.2.2))
theorem law24_RaceTotal_g15 (C : law24_RaceTotal_C) (v : law24_RaceTotal_Y13) : treg tysT (orc (law24_RaceTotal_tab C)) 169 (regO (bodyOf f8) 15) false [(3, (.box [.val Riii])), (4, .any), (5, .any), (7, .any), (8, (.own Riiiii)), (10, .any), (11, .any), (12, .any), (13, .any), (14, .any), (15, .any)] (law24_RaceTotal_S13 v) some = (law24_RaceTotal_r15 C v).eval fun y => some (law24_RaceTotal_S13 y) := by kernel_rfl
def law24_RaceTotal_J3  (d : Nat) (self1 : (Bool × Int × Int × List Diii × Int × Int × Int × Int × List Diiiii) → Option law24_RaceTotal_R) (self2 : (Bool × Int × Int × Int × Bool × Int × List Diii × Int × Int × Int × Int × List Diiiii × Int × Int) → Option law24_RaceTotal_R) (z : Bool × Int × Int × Int × Bool × Int × List Diii × Int × Int × Int × Int × List Diiiii × Int × Int) : Option (law24_RaceTotal_R) :=
  (law24_RaceTotal_r15 (law24_RaceTotal_K d) z).eval fun y15 =>
  self2 y15
def law24_RaceTotal_r17 (C : law24_RaceTotal_C) (v : law24_RaceTotal_Y16) : Dt law24_RaceTotal_Y13 := (Dt.ret (v.1, v.2.1, v.2.2.1, v.2.2.2.1, true, v.2.2.2.2.2.1, v.2.2.2.2.2.2.2.1, v.2.2.2.2.2.2.2.2.1, v.2.2.2.2.2.2.2.2.2.1, v.2.2.2.2.2.2.2.2.2.2.1, v.2.2.2.2.2.2.2.2.2.2.2.1, v.2.2.2.2.2.2.2.2.2.2.2.2.1, v.2.2.2.2.2.2.2.2.2.2.2.2.2.1, v.2.2.2.2.2.2.2.2.2.2.2.2.2.2))
theorem law24_RaceTotal_g17 (C : law24_RaceTotal_C) (v : law24_RaceTotal_Y16) : treg tysT (orc (law24_RaceTotal_tab C)) 169 (regO (bodyOf f8) 17) false [(3, (.box [.val Riii])), (4, .any), (5, .any), (7, .any), (8, (.own Riiiii)), (10, .any), (11, .any), (12, .any), (13, .any), (14, .any), (15, .any)] (law24_RaceTotal_S16 v) some = (law24_RaceTotal_r17 C v).eval fun y => some (law24_RaceTotal_S13 y) := by kernel_rfl
def law24_RaceTotal_r18 (C : law24_RaceTotal_C) (v : law24_RaceTotal_Y13) : Dt law24_RaceTotal_Y13 := (Dt.ret (v.1, (IntKind.wrap .i64 (v.2.1 + (1:Int))), v.2.2.1, v.2.2.2.1, v.2.2.2.2.1, v.2.2.2.2.2.1, v.2.2.2.2.2.2.1, v.2.2.2.2.2.2.2.1, v.2.2.2.2.2.2.2.2.1, v.2.2.2.2.2.2.2.2.2.1, v.2.2.2.2.2.2.2.2.2.2.1, v.2.2.2.2.2.2.2.2.2.2.2.1, v.2.2.2.2.2.2.2.2.2.2.2.2.1, v.2.2.2.2.2.2.2.2.2.2.2.2.2))
theorem law24_RaceTotal_g18 (C : law24_RaceTotal_C) (v : law24_RaceTotal_Y13) : treg tysT (orc (law24_RaceTotal_tab C)) 169 (regO (bodyOf f8) 18) false [(3, (.box [.val Riii])), (4, .any), (5, .any), (7, .any), (8, (.own Riiiii)), (10, .any), (11, .any), (12, .any), (13, .any), (14, .any), (15, .any)] (law24_RaceTotal_S13 v) some = (law24_RaceTotal_r18 C v).eval fun y => some (law24_RaceTotal_S13 y) := by kernel_rfl
abbrev law24_RaceTotal_Y19 : Type := Bool × Int × Int × Int × Bool × Int × Int × List Diii × Int × Int × Int × Int × List Diiiii × Int × Int × Int × Int
def law24_RaceTotal_S19 (v : law24_RaceTotal_Y19) : St := ⟨[(3, .ptr 0 0), (4, .ptr 1 0), (5, .ptr 2 0), (7, .bool v.1), (8, .rs 3), (10, .int .i64 v.2.1), (11, .int .i64 v.2.2.1), (12, .ptr 4 0), (13, .int .i64 v.2.2.2.1), (14, .bool v.2.2.2.2.1), (15, .int .i64 v.2.2.2.2.2.1), (16, .ptr 5 0), (17, .int .i64 v.2.2.2.2.2.2.1)], [.cells [.fz Riii v.2.2.2.2.2.2.2.1], .cells [.int .i64 v.2.2.2.2.2.2.2.2.1, .int .i64 v.2.2.2.2.2.2.2.2.2.1], .cells [.int .i64 v.2.2.2.2.2.2.2.2.2.2.1, .int .i64 v.2.2.2.2.2.2.2.2.2.2.2.1], .rows Riiiii v.2.2.2.2.2.2.2.2.2.2.2.2.1, .cells [.int .i64 v.2.2.2.2.2.2.2.2.2.2.2.2.2.1, .int .i64 v.2.2.2.2.2.2.2.2.2.2.2.2.2.2.1], .cells [.int .i64 v.2.2.2.2.2.2.2.2.2.2.2.2.2.2.2.1, .int .i64 v.2.2.2.2.2.2.2.2.2.2.2.2.2.2.2.2]]⟩
def law24_RaceTotal_r19 (C : law24_RaceTotal_C) (v : law24_RaceTotal_Y13) : Dt law24_RaceTotal_Y19 := (Dt.ite (inB v.2.2.2.2.2.1 (List.length v.2.2.2.2.2.2.2.2.2.2.2.1)) (Dt.ite (inB v.2.2.2.2.2.1 (List.length v.2.2.2.2.2.2.2.2.2.2.2.1)) (Dt.bnd (C.2.2.2.2.2.1 (((elt ziiiii v.2.2.2.2.2.2.2.2.2.2.2.1 (v.2.2.2.2.2.1).toNat).2.2.1, (elt ziiiii v.2.2.2.2.2.2.2.2.2.2.2.1 (v.2.2.2.2.2.1).toNat).2.2.2.1, ()), ((elt ziiiii v.2.2.2.2.2.2.2.2.2.2.2.1 (v.2.2.2.2.2.1).toNat).1, (elt ziiiii v.2.2.2.2.2.2.2.2.2.2.2.1 (v.2.2.2.2.2.1).toNat).2.1, ()), ())) fun r1 => (Dt.ret (v.1, v.2.1, v.2.2.1, v.2.2.2.1, v.2.2.2.2.1, v.2.2.2.2.2.1, r1.2.2, v.2.2.2.2.2.2.1, v.2.2.2.2.2.2.2.1, v.2.2.2.2.2.2.2.2.1, v.2.2.2.2.2.2.2.2.2.1, v.2.2.2.2.2.2.2.2.2.2.1, v.2.2.2.2.2.2.2.2.2.2.2.1, v.2.2.2.2.2.2.2.2.2.2.2.2.1, v.2.2.2.2.2.2.2.2.2.2.2.2.2, r1.1, r1.2.1))) Dt.fail) Dt.fail)
theorem law24_RaceTotal_g19 (C : law24_RaceTotal_C) (v : law24_RaceTotal_Y13) : treg tysT (orc (law24_RaceTotal_tab C)) 169 (regO (bodyOf f8) 19) true [(3, (.box [.val Riii])), (4, .any), (5, .any), (7, .any), (8, (.own Riiiii)), (10, .any), (11, .any), (12, .any), (13, .any), (14, .any), (15, .any), (16, .any), (17, .any)] (law24_RaceTotal_S13 v) some = (law24_RaceTotal_r19 C v).eval fun y => some (law24_RaceTotal_S19 y) := by kernel_rfl
abbrev law24_RaceTotal_Y20 : Type := Bool × Int × Int × Int × Bool × Int × Bool × List Diii × Int × Int × Int × Int × List Diiiii × Int × Int
def law24_RaceTotal_S20 (v : law24_RaceTotal_Y20) : St := ⟨[(3, .ptr 0 0), (4, .ptr 1 0), (5, .ptr 2 0), (7, .bool v.1), (8, .rs 3), (10, .int .i64 v.2.1), (11, .int .i64 v.2.2.1), (12, .ptr 4 0), (13, .int .i64 v.2.2.2.1), (14, .bool v.2.2.2.2.1), (15, .int .i64 v.2.2.2.2.2.1), (110, .bool v.2.2.2.2.2.2.1)], [.cells [.fz Riii v.2.2.2.2.2.2.2.1], .cells [.int .i64 v.2.2.2.2.2.2.2.2.1, .int .i64 v.2.2.2.2.2.2.2.2.2.1], .cells [.int .i64 v.2.2.2.2.2.2.2.2.2.2.1, .int .i64 v.2.2.2.2.2.2.2.2.2.2.2.1], .rows Riiiii v.2.2.2.2.2.2.2.2.2.2.2.2.1, .cells [.int .i64 v.2.2.2.2.2.2.2.2.2.2.2.2.2.1, .int .i64 v.2.2.2.2.2.2.2.2.2.2.2.2.2.2]]⟩
def law24_RaceTotal_r20 (C : law24_RaceTotal_C) (v : law24_RaceTotal_Y19) : Dt law24_RaceTotal_Y20 := (Dt.ite (v.2.2.2.1 != v.2.2.2.2.2.2.1) (Dt.ret (v.1, v.2.1, v.2.2.1, v.2.2.2.1, v.2.2.2.2.1, v.2.2.2.2.2.1, true, v.2.2.2.2.2.2.2.1, v.2.2.2.2.2.2.2.2.1, v.2.2.2.2.2.2.2.2.2.1, v.2.2.2.2.2.2.2.2.2.2.1, v.2.2.2.2.2.2.2.2.2.2.2.1, v.2.2.2.2.2.2.2.2.2.2.2.2.1, v.2.2.2.2.2.2.2.2.2.2.2.2.2.1, v.2.2.2.2.2.2.2.2.2.2.2.2.2.2.1)) (Dt.ret (v.1, v.2.1, v.2.2.1, v.2.2.2.1, v.2.2.2.2.1, v.2.2.2.2.2.1, (!((v.2.2.2.2.2.2.2.2.2.2.2.2.2.1 == v.2.2.2.2.2.2.2.2.2.2.2.2.2.2.2.1) && ((v.2.2.2.2.2.2.2.2.2.2.2.2.2.2.1 == v.2.2.2.2.2.2.2.2.2.2.2.2.2.2.2.2) && true))), v.2.2.2.2.2.2.2.1, v.2.2.2.2.2.2.2.2.1, v.2.2.2.2.2.2.2.2.2.1, v.2.2.2.2.2.2.2.2.2.2.1, v.2.2.2.2.2.2.2.2.2.2.2.1, v.2.2.2.2.2.2.2.2.2.2.2.2.1, v.2.2.2.2.2.2.2.2.2.2.2.2.2.1, v.2.2.2.2.2.2.2.2.2.2.2.2.2.2.1)))
theorem law24_RaceTotal_g20 (C : law24_RaceTotal_C) (v : law24_RaceTotal_Y19) : treg tysT (orc (law24_RaceTotal_tab C)) 169 (regO (bodyOf f8) 20) false [(3, (.box [.val Riii])), (4, .any), (5, .any), (7, .any), (8, (.own Riiiii)), (10, .any), (11, .any), (12, .any), (13, .any), (14, .any), (15, .any), (110, .any)] (law24_RaceTotal_S19 v) some = (law24_RaceTotal_r20 C v).eval fun y => some (law24_RaceTotal_S20 y) := by kernel_rfl
def law24_RaceTotal_r21 (C : law24_RaceTotal_C) (v : law24_RaceTotal_Y20) : Dt law24_RaceTotal_Y3 := (Dt.ret false)
theorem law24_RaceTotal_g21 (C : law24_RaceTotal_C) (v : law24_RaceTotal_Y20) : treg tysT (orc (law24_RaceTotal_tab C)) 169 (regO (bodyOf f8) 21) false [(6, .any)] (law24_RaceTotal_S20 v) some = (law24_RaceTotal_r21 C v).eval fun y => some (law24_RaceTotal_S3 y) := by kernel_rfl
abbrev law24_RaceTotal_Y22 : Type := Bool × Int × Int × Bool × List Diii × Int × Int × Int × Int × List Diiiii
def law24_RaceTotal_S22 (v : law24_RaceTotal_Y22) : St := ⟨[(3, .ptr 0 0), (4, .ptr 1 0), (5, .ptr 2 0), (7, .bool v.1), (8, .rs 3), (10, .int .i64 v.2.1), (11, .int .i64 v.2.2.1), (121, .bool v.2.2.2.1)], [.cells [.fz Riii v.2.2.2.2.1], .cells [.int .i64 v.2.2.2.2.2.1, .int .i64 v.2.2.2.2.2.2.1], .cells [.int .i64 v.2.2.2.2.2.2.2.1, .int .i64 v.2.2.2.2.2.2.2.2.1], .rows Riiiii v.2.2.2.2.2.2.2.2.2]⟩
def law24_RaceTotal_r22 (C : law24_RaceTotal_C) (v : law24_RaceTotal_Y14) : Dt law24_RaceTotal_Y22 := (Dt.ite (!v.2.2.2.2.1) (Dt.ite (v.2.2.2.1 != (0:Int)) (Dt.ret (v.1, v.2.1, v.2.2.1, true, v.2.2.2.2.2.2.2.1, v.2.2.2.2.2.2.2.2.1, v.2.2.2.2.2.2.2.2.2.1, v.2.2.2.2.2.2.2.2.2.2.1, v.2.2.2.2.2.2.2.2.2.2.2.1, v.2.2.2.2.2.2.2.2.2.2.2.2.1)) (Dt.bnd (C.2.2.2.2.2.2.1 (((0:Int), ()), ())) fun r1 => (Dt.ret (v.1, v.2.1, v.2.2.1, (!((v.2.2.2.2.2.2.2.2.2.2.2.2.2.1 == r1.1) && ((v.2.2.2.2.2.2.2.2.2.2.2.2.2.2 == r1.2) && true))), v.2.2.2.2.2.2.2.1, v.2.2.2.2.2.2.2.2.1, v.2.2.2.2.2.2.2.2.2.1, v.2.2.2.2.2.2.2.2.2.2.1, v.2.2.2.2.2.2.2.2.2.2.2.1, v.2.2.2.2.2.2.2.2.2.2.2.2.1)))) (Dt.ret (v.1, v.2.1, v.2.2.1, false, v.2.2.2.2.2.2.2.1, v.2.2.2.2.2.2.2.2.1, v.2.2.2.2.2.2.2.2.2.1, v.2.2.2.2.2.2.2.2.2.2.1, v.2.2.2.2.2.2.2.2.2.2.2.1, v.2.2.2.2.2.2.2.2.2.2.2.2.1)))
theorem law24_RaceTotal_g22 (C : law24_RaceTotal_C) (v : law24_RaceTotal_Y14) : treg tysT (orc (law24_RaceTotal_tab C)) 169 (regO (bodyOf f8) 22) true [(3, (.box [.val Riii])), (4, .any), (5, .any), (7, .any), (8, (.own Riiiii)), (10, .any), (11, .any), (121, .any)] (law24_RaceTotal_S14 v) some = (law24_RaceTotal_r22 C v).eval fun y => some (law24_RaceTotal_S22 y) := by kernel_rfl
def law24_RaceTotal_r23 (C : law24_RaceTotal_C) (v : law24_RaceTotal_Y22) : Dt law24_RaceTotal_Y3 := (Dt.ret false)
theorem law24_RaceTotal_g23 (C : law24_RaceTotal_C) (v : law24_RaceTotal_Y22) : treg tysT (orc (law24_RaceTotal_tab C)) 169 (regO (bodyOf f8) 23) false [(6, .any)] (law24_RaceTotal_S22 v) some = (law24_RaceTotal_r23 C v).eval fun y => some (law24_RaceTotal_S3 y) := by kernel_rfl
def law24_RaceTotal_r10 (C : law24_RaceTotal_C) (v : law24_RaceTotal_Y22) : Dt law24_RaceTotal_Y8 := (Dt.ret (v.1, v.2.1, (IntKind.wrap .i64 (v.2.2.1 + (1:Int))), v.2.2.2.2.1, v.2.2.2.2.2.1, v.2.2.2.2.2.2.1, v.2.2.2.2.2.2.2.1, v.2.2.2.2.2.2.2.2.1, v.2.2.2.2.2.2.2.2.2))
theorem law24_RaceTotal_g10 (C : law24_RaceTotal_C) (v : law24_RaceTotal_Y22) : treg tysT (orc (law24_RaceTotal_tab C)) 169 (regO (bodyOf f8) 10) false [(3, (.box [.val Riii])), (4, .any), (5, .any), (7, .any), (8, (.own Riiiii)), (10, .any), (11, .any)] (law24_RaceTotal_S22 v) some = (law24_RaceTotal_r10 C v).eval fun y => some (law24_RaceTotal_S8 y) := by kernel_rfl
def law24_RaceTotal_L2 (d : Nat) (self1 : (Bool × Int × Int × List Diii × Int × Int × Int × Int × List Diiiii) → Option law24_RaceTotal_R) (self2 : (Bool × Int × Int × Int × Bool × Int × List Diii × Int × Int × Int × Int × List Diiiii × Int × Int) → Option law24_RaceTotal_R) (x2 : Bool × Int × Int × Int × Bool × Int × List Diii × Int × Int × Int × Int × List Diiiii × Int × Int) : Option law24_RaceTotal_R :=
  (law24_RaceTotal_r14 (law24_RaceTotal_K d) x2).eval fun y14 =>
  bif y14.2.2.2.2.2.2.1 then ((law24_RaceTotal_r16 (law24_RaceTotal_K d) y14).eval fun y16 =>
  bif y16.2.2.2.2.2.2.1 then (law24_RaceTotal_J3 d self1 self2 (y16.1, y16.2.1, y16.2.2.1, y16.2.2.2.1, y16.2.2.2.2.1, y16.2.2.2.2.2.1, y16.2.2.2.2.2.2.2.1, y16.2.2.2.2.2.2.2.2.1, y16.2.2.2.2.2.2.2.2.2.1, y16.2.2.2.2.2.2.2.2.2.2.1, y16.2.2.2.2.2.2.2.2.2.2.2.1, y16.2.2.2.2.2.2.2.2.2.2.2.2.1, y16.2.2.2.2.2.2.2.2.2.2.2.2.2.1, y16.2.2.2.2.2.2.2.2.2.2.2.2.2.2)) else ((law24_RaceTotal_r17 (law24_RaceTotal_K d) y16).eval fun y17 =>
  (law24_RaceTotal_r18 (law24_RaceTotal_K d) y17).eval fun y18 =>
  (law24_RaceTotal_r19 (law24_RaceTotal_K d) y18).eval fun y19 =>
  (law24_RaceTotal_r20 (law24_RaceTotal_K d) y19).eval fun y20 =>
  bif y20.2.2.2.2.2.2.1 then ((law24_RaceTotal_r21 (law24_RaceTotal_K d) y20).eval fun y21 =>
  some y21) else (law24_RaceTotal_J3 d self1 self2 (y20.1, y20.2.1, y20.2.2.1, y20.2.2.2.1, y20.2.2.2.2.1, y20.2.2.2.2.2.1, y20.2.2.2.2.2.2.2.1, y20.2.2.2.2.2.2.2.2.1, y20.2.2.2.2.2.2.2.2.2.1, y20.2.2.2.2.2.2.2.2.2.2.1, y20.2.2.2.2.2.2.2.2.2.2.2.1, y20.2.2.2.2.2.2.2.2.2.2.2.2.1, y20.2.2.2.2.2.2.2.2.2.2.2.2.2.1, y20.2.2.2.2.2.2.2.2.2.2.2.2.2.2)))) else ((law24_RaceTotal_r22 (law24_RaceTotal_K d) y14).eval fun y22 =>
  bif y22.2.2.2.1 then ((law24_RaceTotal_r23 (law24_RaceTotal_K d) y22).eval fun y23 =>
  some y23) else ((law24_RaceTotal_r10 (law24_RaceTotal_K d) y22).eval fun y10 =>
  self1 y10))
abbrev law24_RaceTotal_Y24 : Type := Bool × Bool × Int × Int × Int × Int × List Diiiii
def law24_RaceTotal_S24 (v : law24_RaceTotal_Y24) : St := ⟨[(4, .ptr 0 0), (5, .ptr 1 0), (7, .bool v.1), (8, .rs 2), (125, .bool v.2.1)], [.cells [.int .i64 v.2.2.1, .int .i64 v.2.2.2.1], .cells [.int .i64 v.2.2.2.2.1, .int .i64 v.2.2.2.2.2.1], .rows Riiiii v.2.2.2.2.2.2]⟩
def law24_RaceTotal_r24 (C : law24_RaceTotal_C) (v : law24_RaceTotal_Y9) : Dt law24_RaceTotal_Y24 := (Dt.ret (v.1, (v.2.1 != (List.length v.2.2.2.2.2.2.2.2.2 : Int)), v.2.2.2.2.2.1, v.2.2.2.2.2.2.1, v.2.2.2.2.2.2.2.1, v.2.2.2.2.2.2.2.2.1, v.2.2.2.2.2.2.2.2.2))
theorem law24_RaceTotal_g24 (C : law24_RaceTotal_C) (v : law24_RaceTotal_Y9) : treg tysT (orc (law24_RaceTotal_tab C)) 169 (regO (bodyOf f8) 24) false [(4, .any), (5, .any), (7, .any), (8, (.own Riiiii)), (125, .any)] (law24_RaceTotal_S9 v) some = (law24_RaceTotal_r24 C v).eval fun y => some (law24_RaceTotal_S24 y) := by kernel_rfl
def law24_RaceTotal_r25 (C : law24_RaceTotal_C) (v : law24_RaceTotal_Y24) : Dt law24_RaceTotal_Y3 := (Dt.ret false)
theorem law24_RaceTotal_g25 (C : law24_RaceTotal_C) (v : law24_RaceTotal_Y24) : treg tysT (orc (law24_RaceTotal_tab C)) 169 (regO (bodyOf f8) 25) false [(6, .any)] (law24_RaceTotal_S24 v) some = (law24_RaceTotal_r25 C v).eval fun y => some (law24_RaceTotal_S3 y) := by kernel_rfl
abbrev law24_RaceTotal_Y26 : Type := Bool × Int × Int × Int × Int × Int × List Diiiii
def law24_RaceTotal_S26 (v : law24_RaceTotal_Y26) : St := ⟨[(4, .ptr 0 0), (5, .ptr 1 0), (7, .bool v.1), (8, .rs 2), (18, .int .i64 v.2.1)], [.cells [.int .i64 v.2.2.1, .int .i64 v.2.2.2.1], .cells [.int .i64 v.2.2.2.2.1, .int .i64 v.2.2.2.2.2.1], .rows Riiiii v.2.2.2.2.2.2]⟩
def law24_RaceTotal_r26 (C : law24_RaceTotal_C) (v : law24_RaceTotal_Y24) : Dt law24_RaceTotal_Y26 := (Dt.ret (v.1, (1:Int), v.2.2.1, v.2.2.2.1, v.2.2.2.2.1, v.2.2.2.2.2.1, v.2.2.2.2.2.2))
theorem law24_RaceTotal_g26 (C : law24_RaceTotal_C) (v : law24_RaceTotal_Y24) : treg tysT (orc (law24_RaceTotal_tab C)) 169 (regO (bodyOf f8) 26) false [(4, .any), (5, .any), (7, .any), (8, (.own Riiiii)), (18, .any)] (law24_RaceTotal_S24 v) some = (law24_RaceTotal_r26 C v).eval fun y => some (law24_RaceTotal_S26 y) := by kernel_rfl
abbrev law24_RaceTotal_Y27 : Type := Bool × Int × Bool × Int × Int × Int × Int × List Diiiii
def law24_RaceTotal_S27 (v : law24_RaceTotal_Y27) : St := ⟨[(4, .ptr 0 0), (5, .ptr 1 0), (7, .bool v.1), (8, .rs 2), (18, .int .i64 v.2.1), (129, .bool v.2.2.1)], [.cells [.int .i64 v.2.2.2.1, .int .i64 v.2.2.2.2.1], .cells [.int .i64 v.2.2.2.2.2.1, .int .i64 v.2.2.2.2.2.2.1], .rows Riiiii v.2.2.2.2.2.2.2]⟩
def law24_RaceTotal_r27 (C : law24_RaceTotal_C) (v : law24_RaceTotal_Y26) : Dt law24_RaceTotal_Y27 := (Dt.ret (v.1, v.2.1, (decide (v.2.1 < (List.length v.2.2.2.2.2.2 : Int))), v.2.2.1, v.2.2.2.1, v.2.2.2.2.1, v.2.2.2.2.2.1, v.2.2.2.2.2.2))
theorem law24_RaceTotal_g27 (C : law24_RaceTotal_C) (v : law24_RaceTotal_Y26) : treg tysT (orc (law24_RaceTotal_tab C)) 169 (regO (bodyOf f8) 27) false [(4, .any), (5, .any), (7, .any), (8, (.own Riiiii)), (18, .any), (129, .any)] (law24_RaceTotal_S26 v) some = (law24_RaceTotal_r27 C v).eval fun y => some (law24_RaceTotal_S27 y) := by kernel_rfl
abbrev law24_RaceTotal_Y29 : Type := Bool × Int × Bool × Int × Int × Int × Int × List Diiiii
def law24_RaceTotal_S29 (v : law24_RaceTotal_Y29) : St := ⟨[(4, .ptr 0 0), (5, .ptr 1 0), (7, .bool v.1), (8, .rs 2), (18, .int .i64 v.2.1), (143, .bool v.2.2.1)], [.cells [.int .i64 v.2.2.2.1, .int .i64 v.2.2.2.2.1], .cells [.int .i64 v.2.2.2.2.2.1, .int .i64 v.2.2.2.2.2.2.1], .rows Riiiii v.2.2.2.2.2.2.2]⟩
def law24_RaceTotal_r29 (C : law24_RaceTotal_C) (v : law24_RaceTotal_Y27) : Dt law24_RaceTotal_Y29 := (Dt.ite (inB (IntKind.wrap .i64 (v.2.1 - (1:Int))) (List.length v.2.2.2.2.2.2.2)) (Dt.ite (inB v.2.1 (List.length v.2.2.2.2.2.2.2)) (Dt.ret (v.1, v.2.1, (!(((elt ziiiii v.2.2.2.2.2.2.2 ((IntKind.wrap .i64 (v.2.1 - (1:Int)))).toNat).2.2.1 == (elt ziiiii v.2.2.2.2.2.2.2 (v.2.1).toNat).1) && (((elt ziiiii v.2.2.2.2.2.2.2 ((IntKind.wrap .i64 (v.2.1 - (1:Int)))).toNat).2.2.2.1 == (elt ziiiii v.2.2.2.2.2.2.2 (v.2.1).toNat).2.1) && true))), v.2.2.2.1, v.2.2.2.2.1, v.2.2.2.2.2.1, v.2.2.2.2.2.2.1, v.2.2.2.2.2.2.2)) Dt.fail) Dt.fail)
theorem law24_RaceTotal_g29 (C : law24_RaceTotal_C) (v : law24_RaceTotal_Y27) : treg tysT (orc (law24_RaceTotal_tab C)) 169 (regO (bodyOf f8) 29) true [(4, .any), (5, .any), (7, .any), (8, (.own Riiiii)), (18, .any), (143, .any)] (law24_RaceTotal_S27 v) some = (law24_RaceTotal_r29 C v).eval fun y => some (law24_RaceTotal_S29 y) := by kernel_rfl
def law24_RaceTotal_r30 (C : law24_RaceTotal_C) (v : law24_RaceTotal_Y29) : Dt law24_RaceTotal_Y3 := (Dt.ret false)
theorem law24_RaceTotal_g30 (C : law24_RaceTotal_C) (v : law24_RaceTotal_Y29) : treg tysT (orc (law24_RaceTotal_tab C)) 169 (regO (bodyOf f8) 30) false [(6, .any)] (law24_RaceTotal_S29 v) some = (law24_RaceTotal_r30 C v).eval fun y => some (law24_RaceTotal_S3 y) := by kernel_rfl
def law24_RaceTotal_r28 (C : law24_RaceTotal_C) (v : law24_RaceTotal_Y29) : Dt law24_RaceTotal_Y26 := (Dt.ret (v.1, (IntKind.wrap .i64 (v.2.1 + (1:Int))), v.2.2.2.1, v.2.2.2.2.1, v.2.2.2.2.2.1, v.2.2.2.2.2.2.1, v.2.2.2.2.2.2.2))
theorem law24_RaceTotal_g28 (C : law24_RaceTotal_C) (v : law24_RaceTotal_Y29) : treg tysT (orc (law24_RaceTotal_tab C)) 169 (regO (bodyOf f8) 28) false [(4, .any), (5, .any), (7, .any), (8, (.own Riiiii)), (18, .any)] (law24_RaceTotal_S29 v) some = (law24_RaceTotal_r28 C v).eval fun y => some (law24_RaceTotal_S26 y) := by kernel_rfl
def law24_RaceTotal_r31 (C : law24_RaceTotal_C) (v : law24_RaceTotal_Y27) : Dt law24_RaceTotal_Y3 := (Dt.ite v.1 (Dt.ite (decide ((List.length v.2.2.2.2.2.2.2 : Int) > (0:Int))) (Dt.ite (inB (0:Int) (List.length v.2.2.2.2.2.2.2)) (Dt.ite (((elt ziiiii v.2.2.2.2.2.2.2 ((0:Int)).toNat).1 == v.2.2.2.1) && (((elt ziiiii v.2.2.2.2.2.2.2 ((0:Int)).toNat).2.1 == v.2.2.2.2.1) && true)) (Dt.ite (inB (IntKind.wrap .i64 ((List.length v.2.2.2.2.2.2.2 : Int) - (1:Int))) (List.length v.2.2.2.2.2.2.2)) (Dt.ret (((elt ziiiii v.2.2.2.2.2.2.2 ((IntKind.wrap .i64 ((List.length v.2.2.2.2.2.2.2 : Int) - (1:Int)))).toNat).2.2.1 == v.2.2.2.2.2.1) && (((elt ziiiii v.2.2.2.2.2.2.2 ((IntKind.wrap .i64 ((List.length v.2.2.2.2.2.2.2 : Int) - (1:Int)))).toNat).2.2.2.1 == v.2.2.2.2.2.2.1) && true))) Dt.fail) (Dt.ret false)) Dt.fail) (Dt.ret false)) (Dt.ret false))
theorem law24_RaceTotal_g31 (C : law24_RaceTotal_C) (v : law24_RaceTotal_Y27) : treg tysT (orc (law24_RaceTotal_tab C)) 169 (regO (bodyOf f8) 31) true [(6, .any)] (law24_RaceTotal_S27 v) some = (law24_RaceTotal_r31 C v).eval fun y => some (law24_RaceTotal_S3 y) := by kernel_rfl
def law24_RaceTotal_L4 (d : Nat) (self4 : (Bool × Int × Int × Int × Int × Int × List Diiiii) → Option law24_RaceTotal_R) (x4 : Bool × Int × Int × Int × Int × Int × List Diiiii) : Option law24_RaceTotal_R :=
  (law24_RaceTotal_r27 (law24_RaceTotal_K d) x4).eval fun y27 =>
  bif y27.2.2.1 then ((law24_RaceTotal_r29 (law24_RaceTotal_K d) y27).eval fun y29 =>
  bif y29.2.2.1 then ((law24_RaceTotal_r30 (law24_RaceTotal_K d) y29).eval fun y30 =>
  some y30) else ((law24_RaceTotal_r28 (law24_RaceTotal_K d) y29).eval fun y28 =>
  self4 y28)) else ((law24_RaceTotal_r31 (law24_RaceTotal_K d) y27).eval fun y31 =>
  some y31)
def law24_RaceTotal_L1 (d : Nat) (self1 : (Bool × Int × Int × List Diii × Int × Int × Int × Int × List Diiiii) → Option law24_RaceTotal_R) (x1 : Bool × Int × Int × List Diii × Int × Int × Int × Int × List Diiiii) : Option law24_RaceTotal_R :=
  (law24_RaceTotal_r9 (law24_RaceTotal_K d) x1).eval fun y9 =>
  bif y9.2.2.2.1 then ((law24_RaceTotal_r11 (law24_RaceTotal_K d) y9).eval fun y11 =>
  (law24_RaceTotal_r12 (law24_RaceTotal_K d) y11).eval fun y12 =>
  (law24_RaceTotal_r13 (law24_RaceTotal_K d) y12).eval fun y13 =>
  iter (law24_RaceTotal_L2 d self1) d y13) else ((law24_RaceTotal_r24 (law24_RaceTotal_K d) y9).eval fun y24 =>
  bif y24.2.1 then ((law24_RaceTotal_r25 (law24_RaceTotal_K d) y24).eval fun y25 =>
  some y25) else ((law24_RaceTotal_r26 (law24_RaceTotal_K d) y24).eval fun y26 =>
  iter (law24_RaceTotal_L4 d ) d y26))
def F_law24_RaceTotal (d : Nat) (x : law24_RaceTotal_X) : Option law24_RaceTotal_R :=
  (law24_RaceTotal_r0 (law24_RaceTotal_K d) (x.1.1, x.2.1.1, x.2.1.2.1, x.2.2.1.1, x.2.2.1.2.1)).eval fun y0 =>
  (law24_RaceTotal_r1 (law24_RaceTotal_K d) y0).eval fun y1 =>
  (law24_RaceTotal_r2 (law24_RaceTotal_K d) y1).eval fun y2 =>
  bif y2.2.1 then ((law24_RaceTotal_r3 (law24_RaceTotal_K d) y2).eval fun y3 =>
  some y3) else ((law24_RaceTotal_r4 (law24_RaceTotal_K d) y2).eval fun y4 =>
  (law24_RaceTotal_r5 (law24_RaceTotal_K d) y4).eval fun y5 =>
  bif y5.2.1 then ((law24_RaceTotal_r6 (law24_RaceTotal_K d) y5).eval fun y6 =>
  some y6) else ((law24_RaceTotal_r7 (law24_RaceTotal_K d) y5).eval fun y7 =>
  (law24_RaceTotal_r8 (law24_RaceTotal_K d) y7).eval fun y8 =>
  iter (law24_RaceTotal_L1 d ) d y8))
theorem law24_RaceTotal_cok (d : Nat) : COK prog (law24_RaceTotal_sp (F_law24_RaceTotal d)) := by
  have hm : prog.follows .mixedOrders = true := mixed
  have hT := tys
  have hC0 : OrcOK prog (orc (law24_RaceTotal_tab (law24_RaceTotal_K d))) := orc_ok (by
    intro S hS
    simp only [law24_RaceTotal_tab, List.mem_cons, List.not_mem_nil, or_false] at hS
    rcases hS with rfl | rfl | rfl | rfl | rfl | rfl | rfl
    · exact race_Reigns_cok d
    · exact law24_alive_cok d
    · exact law24_fine_cok d
    · exact ref01_Asked_cok d
    · exact race_Time_cok d
    · exact ratio_Sub_cok d
    · exact law24_at_cok d)
  have hC : OrcOK prog (orc (law24_RaceTotal_tab (law24_RaceTotal_K d))) := hC0
  refine cok_of (c := bodyOf f8) (fn := f8) hT (by kernel_rfl) (by kernel_rfl) (by decide) fun x r h w0 φ0 Q hend => ?_
  replace h : F_law24_RaceTotal d x = some r := h
  unfold F_law24_RaceTotal at h
  show Run prog w0 φ0 169 (bodyOf f8) ⟨[(0, .agg [.fz Riii x.1.1]), (1, .agg [.int .i64 x.2.1.1, .int .i64 x.2.1.2.1]), (2, .agg [.int .i64 x.2.2.1.1, .int .i64 x.2.2.1.2.1])], []⟩ Q
  refine run_seq ?_
  refine run_reg hm hT hC (law24_RaceTotal_g0 (law24_RaceTotal_K d) (x.1.1, x.2.1.1, x.2.1.2.1, x.2.2.1.1, x.2.2.1.2.1)) h ?_
  intro y0 h
  refine cn_then ?_
  refine run_seq ?_
  refine run_reg hm hT hC (law24_RaceTotal_g1 (law24_RaceTotal_K d) y0) h ?_
  intro y1 h
  refine cn_then ?_
  refine run_seq ?_
  refine run_seq ?_
  refine run_reg hm hT hC (law24_RaceTotal_g2 (law24_RaceTotal_K d) y1) h ?_
  intro y2 h
  refine cn_then ?_
  refine run_cond (v := y2.2.1) (by kernel_rfl) h ?_ ?_
  ·
    intro h
    refine run_seq ?_
    refine run_reg hm hT hC (law24_RaceTotal_g3 (law24_RaceTotal_K d) y2) h ?_
    intro y3 h
    refine cn_then ?_
    refine run_ret ?_
    refine cn_then_ret ?_
    cases h
    exact (hend _ (by kernel_rfl)).2
  ·
    intro h
    refine run_skip ?_
    refine cn_then ?_
    refine run_seq ?_
    refine run_reg hm hT hC (law24_RaceTotal_g4 (law24_RaceTotal_K d) y2) h ?_
    intro y4 h
    refine cn_then ?_
    refine run_seq ?_
    refine run_seq ?_
    refine run_reg hm hT hC (law24_RaceTotal_g5 (law24_RaceTotal_K d) y4) h ?_
    intro y5 h
    refine cn_then ?_
    refine run_cond (v := y5.2.1) (by kernel_rfl) h ?_ ?_
    ·
      intro h
      refine run_seq ?_
      refine run_reg hm hT hC (law24_RaceTotal_g6 (law24_RaceTotal_K d) y5) h ?_
      intro y6 h
      refine cn_then ?_
      refine run_ret ?_
      refine cn_then_ret ?_
      cases h
      exact (hend _ (by kernel_rfl)).2
    ·
      intro h
      refine run_skip ?_
      refine cn_then ?_
      refine run_seq ?_
      refine run_reg hm hT hC (law24_RaceTotal_g7 (law24_RaceTotal_K d) y5) h ?_
      intro y7 h
      refine cn_then ?_
      refine run_seq ?_
      refine run_seq ?_
      refine run_reg hm hT hC (law24_RaceTotal_g8 (law24_RaceTotal_K d) y7) h ?_
      intro y8 h
      refine cn_then ?_
      refine run_block ?_
      refine run_loop (G := iter (law24_RaceTotal_L1 d )) (S := (fun x1 => ⟨[(3, .ptr 0 0), (4, .ptr 1 0), (5, .ptr 2 0), (7, .bool x1.1), (8, .rs 3), (10, .int .i64 x1.2.1), (11, .int .i64 x1.2.2.1)], [.cells [.fz Riii x1.2.2.2.1], .cells [.int .i64 x1.2.2.2.2.1, .int .i64 x1.2.2.2.2.2.1], .cells [.int .i64 x1.2.2.2.2.2.2.1, .int .i64 x1.2.2.2.2.2.2.2.1], .rows Riiiii x1.2.2.2.2.2.2.2.2]⟩ : Bool × Int × Int × List Diii × Int × Int × Int × Int × List Diiiii → St)) (fun _ => rfl) ?_ d _ h
      intro n1 x1 h K1 hn1
      replace h : law24_RaceTotal_L1 d  (iter (law24_RaceTotal_L1 d ) n1) x1 = some r := h
      generalize iter (law24_RaceTotal_L1 d ) n1 = self1 at h hn1
      unfold law24_RaceTotal_L1 at h
      refine run_seq ?_
      refine run_seq ?_
      refine run_reg hm hT hC (law24_RaceTotal_g9 (law24_RaceTotal_K d) x1) h ?_
      intro y9 h
      refine cn_then ?_
      refine run_cond (v := y9.2.2.2.1) (by kernel_rfl) h ?_ ?_
      ·
        intro h
        refine run_skip ?_
        refine cn_then ?_
        refine run_seq ?_
        refine run_block ?_
        refine run_seq ?_
        refine run_reg hm hT hC (law24_RaceTotal_g11 (law24_RaceTotal_K d) y9) h ?_
        intro y11 h
        refine cn_then ?_
        refine run_seq ?_
        refine run_reg hm hT hC (law24_RaceTotal_g12 (law24_RaceTotal_K d) y11) h ?_
        intro y12 h
        refine cn_then ?_
        refine run_seq ?_
        refine run_seq ?_
        refine run_reg hm hT hC (law24_RaceTotal_g13 (law24_RaceTotal_K d) y12) h ?_
        intro y13 h
        refine cn_then ?_
        refine run_block ?_
        refine run_loop (G := iter (law24_RaceTotal_L2 d self1)) (S := (fun x2 => ⟨[(3, .ptr 0 0), (4, .ptr 1 0), (5, .ptr 2 0), (7, .bool x2.1), (8, .rs 3), (10, .int .i64 x2.2.1), (11, .int .i64 x2.2.2.1), (12, .ptr 4 0), (13, .int .i64 x2.2.2.2.1), (14, .bool x2.2.2.2.2.1), (15, .int .i64 x2.2.2.2.2.2.1)], [.cells [.fz Riii x2.2.2.2.2.2.2.1], .cells [.int .i64 x2.2.2.2.2.2.2.2.1, .int .i64 x2.2.2.2.2.2.2.2.2.1], .cells [.int .i64 x2.2.2.2.2.2.2.2.2.2.1, .int .i64 x2.2.2.2.2.2.2.2.2.2.2.1], .rows Riiiii x2.2.2.2.2.2.2.2.2.2.2.2.1, .cells [.int .i64 x2.2.2.2.2.2.2.2.2.2.2.2.2.1, .int .i64 x2.2.2.2.2.2.2.2.2.2.2.2.2.2]]⟩ : Bool × Int × Int × Int × Bool × Int × List Diii × Int × Int × Int × Int × List Diiiii × Int × Int → St)) (fun _ => rfl) ?_ d _ h
        intro n2 x2 h K2 hn2
        replace h : law24_RaceTotal_L2 d self1 (iter (law24_RaceTotal_L2 d self1) n2) x2 = some r := h
        generalize iter (law24_RaceTotal_L2 d self1) n2 = self2 at h hn2
        unfold law24_RaceTotal_L2 at h
        refine run_seq ?_
        refine run_seq ?_
        refine run_reg hm hT hC (law24_RaceTotal_g14 (law24_RaceTotal_K d) x2) h ?_
        intro y14 h
        refine cn_then ?_
        refine run_cond (v := y14.2.2.2.2.2.2.1) (by kernel_rfl) h ?_ ?_
        ·
          intro h
          refine run_skip ?_
          refine cn_then ?_
          refine run_join (r := r) (F := law24_RaceTotal_J3 d self1 self2) (S := (fun z => ⟨[(3, .ptr 0 0), (4, .ptr 1 0), (5, .ptr 2 0), (7, .bool z.1), (8, .rs 3), (10, .int .i64 z.2.1), (11, .int .i64 z.2.2.1), (12, .ptr 4 0), (13, .int .i64 z.2.2.2.1), (14, .bool z.2.2.2.2.1), (15, .int .i64 z.2.2.2.2.2.1)], [.cells [.fz Riii z.2.2.2.2.2.2.1], .cells [.int .i64 z.2.2.2.2.2.2.2.1, .int .i64 z.2.2.2.2.2.2.2.2.1], .cells [.int .i64 z.2.2.2.2.2.2.2.2.2.1, .int .i64 z.2.2.2.2.2.2.2.2.2.2.1], .rows Riiiii z.2.2.2.2.2.2.2.2.2.2.2.1, .cells [.int .i64 z.2.2.2.2.2.2.2.2.2.2.2.2.1, .int .i64 z.2.2.2.2.2.2.2.2.2.2.2.2.2]]⟩ : Bool × Int × Int × Int × Bool × Int × List Diii × Int × Int × Int × Int × List Diiiii × Int × Int → St)) ?_ ?_
          ·
            intro z h
            unfold law24_RaceTotal_J3 at h
            refine run_reg hm hT hC (law24_RaceTotal_g15 (law24_RaceTotal_K d) z) h ?_
            intro y15 h
            exact hn2 _ h
          intro hj3
          refine run_block ?_
          refine run_seq ?_
          refine run_seq ?_
          refine run_reg hm hT hC (law24_RaceTotal_g16 (law24_RaceTotal_K d) y14) h ?_
          intro y16 h
          refine cn_then ?_
          refine run_cond (v := y16.2.2.2.2.2.2.1) (by kernel_rfl) h ?_ ?_
          ·
            intro h
            refine run_exit ?_
            refine cn_then_exit ?_
            refine cn_blk_eq ?_
            refine cn_num (s := ⟨[(3, .ptr 0 0), (4, .ptr 1 0), (5, .ptr 2 0), (7, .bool y16.1), (8, .rs 3), (10, .int .i64 y16.2.1), (11, .int .i64 y16.2.2.1), (12, .ptr 4 0), (13, .int .i64 y16.2.2.2.1), (14, .bool y16.2.2.2.2.1), (15, .int .i64 y16.2.2.2.2.2.1)], [.cells [.fz Riii y16.2.2.2.2.2.2.2.1], .cells [.int .i64 y16.2.2.2.2.2.2.2.2.1, .int .i64 y16.2.2.2.2.2.2.2.2.2.1], .cells [.int .i64 y16.2.2.2.2.2.2.2.2.2.2.1, .int .i64 y16.2.2.2.2.2.2.2.2.2.2.2.1], .rows Riiiii y16.2.2.2.2.2.2.2.2.2.2.2.2.1, .cells [.int .i64 y16.2.2.2.2.2.2.2.2.2.2.2.2.2.1, .int .i64 y16.2.2.2.2.2.2.2.2.2.2.2.2.2.2]]⟩) [86] (by kernel_rfl) ?_
            exact hj3 _ h
          ·
            intro h
            refine run_skip ?_
            refine cn_then ?_
            refine run_seq ?_
            refine run_reg hm hT hC (law24_RaceTotal_g17 (law24_RaceTotal_K d) y16) h ?_
            intro y17 h
            refine cn_then ?_
            refine run_seq ?_
            refine run_reg hm hT hC (law24_RaceTotal_g18 (law24_RaceTotal_K d) y17) h ?_
            intro y18 h
            refine cn_then ?_
            refine run_seq ?_
            refine run_reg hm hT hC (law24_RaceTotal_g19 (law24_RaceTotal_K d) y18) h ?_
            intro y19 h
            refine cn_then ?_
            refine run_seq ?_
            refine run_reg hm hT hC (law24_RaceTotal_g20 (law24_RaceTotal_K d) y19) h ?_
            intro y20 h
            refine cn_then ?_
            refine run_cond (v := y20.2.2.2.2.2.2.1) (by kernel_rfl) h ?_ ?_
            ·
              intro h
              refine run_seq ?_
              refine run_reg hm hT hC (law24_RaceTotal_g21 (law24_RaceTotal_K d) y20) h ?_
              intro y21 h
              refine cn_then ?_
              refine run_ret ?_
              refine cn_blk_ret ?_
              refine cn_then_ret ?_
              refine cn_then_ret ?_
              refine cn_blk_ret ?_
              refine cn_then_ret ?_
              refine cn_blk_ret ?_
              refine cn_then_ret ?_
              refine cn_then_ret ?_
              refine cn_blk_ret ?_
              refine cn_then_ret ?_
              cases h
              exact (hend _ (by kernel_rfl)).2
            ·
              intro h
              refine run_skip ?_
              refine cn_blk ?_
              refine cn_num (s := ⟨[(3, .ptr 0 0), (4, .ptr 1 0), (5, .ptr 2 0), (7, .bool y20.1), (8, .rs 3), (10, .int .i64 y20.2.1), (11, .int .i64 y20.2.2.1), (12, .ptr 4 0), (13, .int .i64 y20.2.2.2.1), (14, .bool y20.2.2.2.2.1), (15, .int .i64 y20.2.2.2.2.2.1)], [.cells [.fz Riii y20.2.2.2.2.2.2.2.1], .cells [.int .i64 y20.2.2.2.2.2.2.2.2.1, .int .i64 y20.2.2.2.2.2.2.2.2.2.1], .cells [.int .i64 y20.2.2.2.2.2.2.2.2.2.2.1, .int .i64 y20.2.2.2.2.2.2.2.2.2.2.2.1], .rows Riiiii y20.2.2.2.2.2.2.2.2.2.2.2.2.1, .cells [.int .i64 y20.2.2.2.2.2.2.2.2.2.2.2.2.2.1, .int .i64 y20.2.2.2.2.2.2.2.2.2.2.2.2.2.2]]⟩) [110] (by kernel_rfl) ?_
              exact hj3 _ h
        ·
          intro h
          refine run_exit ?_
          refine cn_then_exit ?_
          refine cn_then_exit ?_
          refine cn_blk_eq ?_
          refine cn_then ?_
          refine run_seq ?_
          refine run_reg hm hT hC (law24_RaceTotal_g22 (law24_RaceTotal_K d) y14) h ?_
          intro y22 h
          refine cn_then ?_
          refine run_cond (v := y22.2.2.2.1) (by kernel_rfl) h ?_ ?_
          ·
            intro h
            refine run_seq ?_
            refine run_reg hm hT hC (law24_RaceTotal_g23 (law24_RaceTotal_K d) y22) h ?_
            intro y23 h
            refine cn_then ?_
            refine run_ret ?_
            refine cn_blk_ret ?_
            refine cn_then_ret ?_
            refine cn_then_ret ?_
            refine cn_blk_ret ?_
            refine cn_then_ret ?_
            cases h
            exact (hend _ (by kernel_rfl)).2
          ·
            intro h
            refine run_skip ?_
            refine cn_blk ?_
            refine cn_then ?_
            refine run_reg hm hT hC (law24_RaceTotal_g10 (law24_RaceTotal_K d) y22) h ?_
            intro y10 h
            exact hn1 _ h
      ·
        intro h
        refine run_exit ?_
        refine cn_then_exit ?_
        refine cn_then_exit ?_
        refine cn_blk_eq ?_
        refine cn_then ?_
        refine run_seq ?_
        refine run_seq ?_
        refine run_reg hm hT hC (law24_RaceTotal_g24 (law24_RaceTotal_K d) y9) h ?_
        intro y24 h
        refine cn_then ?_
        refine run_cond (v := y24.2.1) (by kernel_rfl) h ?_ ?_
        ·
          intro h
          refine run_seq ?_
          refine run_reg hm hT hC (law24_RaceTotal_g25 (law24_RaceTotal_K d) y24) h ?_
          intro y25 h
          refine cn_then ?_
          refine run_ret ?_
          refine cn_then_ret ?_
          cases h
          exact (hend _ (by kernel_rfl)).2
        ·
          intro h
          refine run_skip ?_
          refine cn_then ?_
          refine run_seq ?_
          refine run_seq ?_
          refine run_reg hm hT hC (law24_RaceTotal_g26 (law24_RaceTotal_K d) y24) h ?_
          intro y26 h
          refine cn_then ?_
          refine run_block ?_
          refine run_loop (G := iter (law24_RaceTotal_L4 d )) (S := (fun x4 => ⟨[(4, .ptr 0 0), (5, .ptr 1 0), (7, .bool x4.1), (8, .rs 2), (18, .int .i64 x4.2.1)], [.cells [.int .i64 x4.2.2.1, .int .i64 x4.2.2.2.1], .cells [.int .i64 x4.2.2.2.2.1, .int .i64 x4.2.2.2.2.2.1], .rows Riiiii x4.2.2.2.2.2.2]⟩ : Bool × Int × Int × Int × Int × Int × List Diiiii → St)) (fun _ => rfl) ?_ d _ h
          intro n4 x4 h K4 hn4
          replace h : law24_RaceTotal_L4 d  (iter (law24_RaceTotal_L4 d ) n4) x4 = some r := h
          generalize iter (law24_RaceTotal_L4 d ) n4 = self4 at h hn4
          unfold law24_RaceTotal_L4 at h
          refine run_seq ?_
          refine run_seq ?_
          refine run_reg hm hT hC (law24_RaceTotal_g27 (law24_RaceTotal_K d) x4) h ?_
          intro y27 h
          refine cn_then ?_
          refine run_cond (v := y27.2.2.1) (by kernel_rfl) h ?_ ?_
          ·
            intro h
            refine run_skip ?_
            refine cn_then ?_
            refine run_seq ?_
            refine run_block ?_
            refine run_seq ?_
            refine run_reg hm hT hC (law24_RaceTotal_g29 (law24_RaceTotal_K d) y27) h ?_
            intro y29 h
            refine cn_then ?_
            refine run_cond (v := y29.2.2.1) (by kernel_rfl) h ?_ ?_
            ·
              intro h
              refine run_seq ?_
              refine run_reg hm hT hC (law24_RaceTotal_g30 (law24_RaceTotal_K d) y29) h ?_
              intro y30 h
              refine cn_then ?_
              refine run_ret ?_
              refine cn_blk_ret ?_
              refine cn_then_ret ?_
              refine cn_then_ret ?_
              refine cn_blk_ret ?_
              refine cn_then_ret ?_
              cases h
              exact (hend _ (by kernel_rfl)).2
            ·
              intro h
              refine run_skip ?_
              refine cn_blk ?_
              refine cn_then ?_
              refine run_reg hm hT hC (law24_RaceTotal_g28 (law24_RaceTotal_K d) y29) h ?_
              intro y28 h
              exact hn4 _ h
          ·
            intro h
            refine run_exit ?_
            refine cn_then_exit ?_
            refine cn_then_exit ?_
            refine cn_blk_eq ?_
            refine cn_then ?_
            refine run_seq ?_
            refine run_reg hm hT hC (law24_RaceTotal_g31 (law24_RaceTotal_K d) y27) h ?_
            intro y31 h
            refine cn_then ?_
            refine run_ret ?_
            cases h
            exact (hend _ (by kernel_rfl)).2
end Go.Proofs.Ytdpnndpbbdhnmaa
