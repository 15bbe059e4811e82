/- Walks of the references; the orders agree; examples. -/
import Derived.Test.YtpojhcjdcbegiaaGreatGc
set_option linter.unusedSimpArgs false
set_option linter.unusedVariables false
namespace Go.Proofs.YtpojhcjdcbegiaaGreat
open Go Go.Tx Go.Proofs.Tryz
set_option maxRecDepth 100000
set_option maxHeartbeats 0
abbrev ratio_abs_ps : List Pk := [.row Ri false]
abbrev ratio_abs_X : Type := Di × Unit
abbrev ratio_abs_R : Type := Int
def ratio_abs_enc (r : ratio_abs_R) : LV × List Ob := (.int .u64 r, [])
def ratio_abs_sp (F : ratio_abs_X → Option ratio_abs_R) : Go.Tx.Spec := ⟨37, ratio_abs_ps, ratio_abs_R, F, ratio_abs_enc⟩
abbrev ratio_abs_C : Type := Unit
def ratio_abs_K (_d : Nat) : ratio_abs_C := ()
def ratio_abs_tab (C : ratio_abs_C) : List Go.Tx.Spec := []
abbrev ratio_abs_Y0i : Type := Int
def ratio_abs_S0i (v : ratio_abs_Y0i) : St := ⟨[(0, .int .i64 v)], []⟩
def ratio_abs_r0 (C : ratio_abs_C) (v : ratio_abs_Y0i) : Dt ratio_abs_Y0i := (Dt.ret v)
theorem ratio_abs_g0 (C : ratio_abs_C) (v : ratio_abs_Y0i) : treg tysT (orc (ratio_abs_tab C)) 10 (regO (bodyOf f37) 0) false [(0, .any)] (ratio_abs_S0i v) some = (ratio_abs_r0 C v).eval fun y => some (ratio_abs_S0i y) := by kernel_rfl
abbrev ratio_abs_Y1 : Type := Int × Bool
def ratio_abs_S1 (v : ratio_abs_Y1) : St := ⟨[(0, .int .i64 v.1), (4, .bool v.2)], []⟩
def ratio_abs_r1 (C : ratio_abs_C) (v : ratio_abs_Y0i) : Dt ratio_abs_Y1 := (Dt.ret (v, (decide (v < (0:Int)))))
theorem ratio_abs_g1 (C : ratio_abs_C) (v : ratio_abs_Y0i) : treg tysT (orc (ratio_abs_tab C)) 10 (regO (bodyOf f37) 1) false [(0, .any), (4, .any)] (ratio_abs_S0i v) some = (ratio_abs_r1 C v).eval fun y => some (ratio_abs_S1 y) := by kernel_rfl
abbrev ratio_abs_Y2 : Type := Int
def ratio_abs_S2 (v : ratio_abs_Y2) : St := ⟨[(2, .int .u64 v)], []⟩
def ratio_abs_r2 (C : ratio_abs_C) (v : ratio_abs_Y1) : Dt ratio_abs_Y2 := (Dt.ret (IntKind.wrap .u64 (0 - (IntKind.wrap .u64 v.1))))
theorem ratio_abs_g2 (C : ratio_abs_C) (v : ratio_abs_Y1) : treg tysT (orc (ratio_abs_tab C)) 10 (regO (bodyOf f37) 2) false [(2, .any)] (ratio_abs_S1 v) some = (ratio_abs_r2 C v).eval fun y => some (ratio_abs_S2 y) := by kernel_rfl
def ratio_abs_r3 (C : ratio_abs_C) (v : ratio_abs_Y1) : Dt ratio_abs_Y2 := (Dt.ret (IntKind.wrap .u64 v.1))
theorem ratio_abs_g3 (C : ratio_abs_C) (v : ratio_abs_Y1) : treg tysT (orc (ratio_abs_tab C)) 10 (regO (bodyOf f37) 3) false [(2, .any)] (ratio_abs_S1 v) some = (ratio_abs_r3 C v).eval fun y => some (ratio_abs_S2 y) := by kernel_rfl
def F_ratio_abs (d : Nat) (x : ratio_abs_X) : Option ratio_abs_R :=
  (ratio_abs_r0 (ratio_abs_K d) x.1.1).eval fun y0 =>
  (ratio_abs_r1 (ratio_abs_K d) y0).eval fun y1 =>
  bif y1.2 then ((ratio_abs_r2 (ratio_abs_K d) y1).eval fun y2 =>
  some y2) else ((ratio_abs_r3 (ratio_abs_K d) y1).eval fun y3 =>
  some y3)
theorem ratio_abs_cok (d : Nat) : COK prog (ratio_abs_sp (F_ratio_abs d)) := by
  have hm : prog.follows .mixedOrders = true := mixed
  have hT := tys
  have hC0 : OrcOK prog (orc (ratio_abs_tab (ratio_abs_K d))) := orc_ok (by
    intro S hS
    simp only [ratio_abs_tab, List.mem_cons, List.not_mem_nil, or_false] at hS
    all_goals first | cases hS | exact hS.elim)
  have hC : OrcOK prog (orc (ratio_abs_tab (ratio_abs_K d))) := hC0
  refine cok_of (c := bodyOf f37) (fn := f37) hT (by kernel_rfl) (by kernel_rfl) (by decide) fun x r h w0 φ0 Q hend => ?_
  replace h : F_ratio_abs d x = some r := h
  unfold F_ratio_abs at h
  show Run prog w0 φ0 10 (bodyOf f37) ⟨[(0, .int .i64 x.1.1)], []⟩ Q
  refine run_seq ?_
  refine run_reg hm hT hC (ratio_abs_g0 (ratio_abs_K d) x.1.1) h ?_
  intro y0 h
  refine cn_then ?_
  refine run_seq ?_
  refine run_seq ?_
  refine run_reg hm hT hC (ratio_abs_g1 (ratio_abs_K d) y0) h ?_
  intro y1 h
  refine cn_then ?_
  refine run_cond (v := y1.2) (by kernel_rfl) h ?_ ?_
  ·
    intro h
    refine run_seq ?_
    refine run_reg hm hT hC (ratio_abs_g2 (ratio_abs_K d) y1) h ?_
    intro y2 h
    refine cn_then ?_
    refine run_ret ?_
    refine cn_then_ret ?_
    cases h
    exact (hend _ (by kernel_rfl)).2
  ·
    intro h
    refine run_skip ?_
    refine cn_then ?_
    refine run_seq ?_
    refine run_reg hm hT hC (ratio_abs_g3 (ratio_abs_K d) y1) h ?_
    intro y3 h
    refine cn_then ?_
    refine run_ret ?_
    cases h
    exact (hend _ (by kernel_rfl)).2
abbrev ratio_gcd_ps : List Pk := [.row Ru false, .row Ru false]
abbrev ratio_gcd_X : Type := Du × Du × Unit
abbrev ratio_gcd_R : Type := Int
def ratio_gcd_enc (r : ratio_gcd_R) : LV × List Ob := (.int .u64 r, [])
def ratio_gcd_sp (F : ratio_gcd_X → Option ratio_gcd_R) : Go.Tx.Spec := ⟨36, ratio_gcd_ps, ratio_gcd_R, F, ratio_gcd_enc⟩
abbrev ratio_gcd_C : Type := Unit
def ratio_gcd_K (_d : Nat) : ratio_gcd_C := ()
def ratio_gcd_tab (C : ratio_gcd_C) : List Go.Tx.Spec := []
abbrev ratio_gcd_Y0i : Type := Int × Int
def ratio_gcd_S0i (v : ratio_gcd_Y0i) : St := ⟨[(0, .int .u64 v.1), (1, .int .u64 v.2)], []⟩
def ratio_gcd_r0 (C : ratio_gcd_C) (v : ratio_gcd_Y0i) : Dt ratio_gcd_Y0i := (Dt.ret (v.1, v.2))
theorem ratio_gcd_g0 (C : ratio_gcd_C) (v : ratio_gcd_Y0i) : treg tysT (orc (ratio_gcd_tab C)) 12 (regO (bodyOf f36) 0) false [(0, .any), (1, .any)] (ratio_gcd_S0i v) some = (ratio_gcd_r0 C v).eval fun y => some (ratio_gcd_S0i y) := by kernel_rfl
abbrev ratio_gcd_Y1 : Type := Int × Int × Bool
def ratio_gcd_S1 (v : ratio_gcd_Y1) : St := ⟨[(0, .int .u64 v.1), (1, .int .u64 v.2.1), (6, .bool v.2.2)], []⟩
def ratio_gcd_r1 (C : ratio_gcd_C) (v : ratio_gcd_Y0i) : Dt ratio_gcd_Y1 := (Dt.ret (v.1, v.2, (decide (v.2 > (0:Int)))))
theorem ratio_gcd_g1 (C : ratio_gcd_C) (v : ratio_gcd_Y0i) : treg tysT (orc (ratio_gcd_tab C)) 12 (regO (bodyOf f36) 1) false [(0, .any), (1, .any), (6, .any)] (ratio_gcd_S0i v) some = (ratio_gcd_r1 C v).eval fun y => some (ratio_gcd_S1 y) := by kernel_rfl
def ratio_gcd_r2 (C : ratio_gcd_C) (v : ratio_gcd_Y1) : Dt ratio_gcd_Y0i := (Dt.ite (v.2.1 == (0:Int)) Dt.fail (Dt.ret (v.2.1, (Int.tmod v.1 v.2.1))))
theorem ratio_gcd_g2 (C : ratio_gcd_C) (v : ratio_gcd_Y1) : treg tysT (orc (ratio_gcd_tab C)) 12 (regO (bodyOf f36) 2) true [(0, .any), (1, .any)] (ratio_gcd_S1 v) some = (ratio_gcd_r2 C v).eval fun y => some (ratio_gcd_S0i y) := by kernel_rfl
abbrev ratio_gcd_Y3 : Type := Int
def ratio_gcd_S3 (v : ratio_gcd_Y3) : St := ⟨[(4, .int .u64 v)], []⟩
def ratio_gcd_r3 (C : ratio_gcd_C) (v : ratio_gcd_Y1) : Dt ratio_gcd_Y3 := (Dt.ret v.1)
theorem ratio_gcd_g3 (C : ratio_gcd_C) (v : ratio_gcd_Y1) : treg tysT (orc (ratio_gcd_tab C)) 12 (regO (bodyOf f36) 3) false [(4, .any)] (ratio_gcd_S1 v) some = (ratio_gcd_r3 C v).eval fun y => some (ratio_gcd_S3 y) := by kernel_rfl
def ratio_gcd_L1 (d : Nat) (self1 : (Int × Int) → Option ratio_gcd_R) (x1 : Int × Int) : Option ratio_gcd_R :=
  (ratio_gcd_r1 (ratio_gcd_K d) x1).eval fun y1 =>
  bif y1.2.2 then ((ratio_gcd_r2 (ratio_gcd_K d) y1).eval fun y2 =>
  self1 y2) else ((ratio_gcd_r3 (ratio_gcd_K d) y1).eval fun y3 =>
  some y3)
def F_ratio_gcd (d : Nat) (x : ratio_gcd_X) : Option ratio_gcd_R :=
  (ratio_gcd_r0 (ratio_gcd_K d) (x.1.1, x.2.1.1)).eval fun y0 =>
  iter (ratio_gcd_L1 d ) d y0
theorem ratio_gcd_cok (d : Nat) : COK prog (ratio_gcd_sp (F_ratio_gcd d)) := by
  have hm : prog.follows .mixedOrders = true := mixed
  have hT := tys
  have hC0 : OrcOK prog (orc (ratio_gcd_tab (ratio_gcd_K d))) := orc_ok (by
    intro S hS
    simp only [ratio_gcd_tab, List.mem_cons, List.not_mem_nil, or_false] at hS
    all_goals first | cases hS | exact hS.elim)
  have hC : OrcOK prog (orc (ratio_gcd_tab (ratio_gcd_K d))) := hC0
  refine cok_of (c := bodyOf f36) (fn := f36) hT (by kernel_rfl) (by kernel_rfl) (by decide) fun x r h w0 φ0 Q hend => ?_
  replace h : F_ratio_gcd d x = some r := h
  unfold F_ratio_gcd at h
  show Run prog w0 φ0 12 (bodyOf f36) ⟨[(0, .int .u64 x.1.1), (1, .int .u64 x.2.1.1)], []⟩ Q
  refine run_seq ?_
  refine run_reg hm hT hC (ratio_gcd_g0 (ratio_gcd_K d) (x.1.1, x.2.1.1)) h ?_
  intro y0 h
  refine cn_then ?_
  refine run_seq ?_
  refine run_block ?_
  refine run_loop (G := iter (ratio_gcd_L1 d )) (S := (fun x1 => ⟨[(0, .int .u64 x1.1), (1, .int .u64 x1.2)], []⟩ : Int × Int → St)) (fun _ => rfl) ?_ d _ h
  intro n1 x1 h K1 hn1
  replace h : ratio_gcd_L1 d  (iter (ratio_gcd_L1 d ) n1) x1 = some r := h
  generalize iter (ratio_gcd_L1 d ) n1 = self1 at h hn1
  unfold ratio_gcd_L1 at h
  refine run_seq ?_
  refine run_seq ?_
  refine run_reg hm hT hC (ratio_gcd_g1 (ratio_gcd_K d) x1) h ?_
  intro y1 h
  refine cn_then ?_
  refine run_cond (v := y1.2.2) (by kernel_rfl) h ?_ ?_
  ·
    intro h
    refine run_skip ?_
    refine cn_then ?_
    refine run_block ?_
    refine run_reg hm hT hC (ratio_gcd_g2 (ratio_gcd_K d) y1) h ?_
    intro y2 h
    refine cn_blk ?_
    exact hn1 _ h
  ·
    intro h
    refine run_exit ?_
    refine cn_then_exit ?_
    refine cn_then_exit ?_
    refine cn_blk_eq ?_
    refine cn_then ?_
    refine run_seq ?_
    refine run_reg hm hT hC (ratio_gcd_g3 (ratio_gcd_K d) y1) h ?_
    intro y3 h
    refine cn_then ?_
    refine run_ret ?_
    cases h
    exact (hend _ (by kernel_rfl)).2
abbrev ratio_Check_ps : List Pk := [.row Rii true]
abbrev ratio_Check_X : Type := Dii × Unit
abbrev ratio_Check_R : Type := Int
def ratio_Check_enc (r : ratio_Check_R) : LV × List Ob := (.int .i64 r, [])
def ratio_Check_sp (F : ratio_Check_X → Option ratio_Check_R) : Go.Tx.Spec := ⟨25, ratio_Check_ps, ratio_Check_R, F, ratio_Check_enc⟩
abbrev ratio_Check_C : Type := (ratio_gcd_X → Option ratio_gcd_R) × (ratio_abs_X → Option ratio_abs_R) × Unit
def ratio_Check_K (d : Nat) : ratio_Check_C := (F_ratio_gcd d, F_ratio_abs d, ())
def ratio_Check_tab (C : ratio_Check_C) : List Go.Tx.Spec := [ratio_gcd_sp C.1, ratio_abs_sp C.2.1]
abbrev ratio_Check_Y0i : Type := Int × Int
def ratio_Check_S0i (v : ratio_Check_Y0i) : St := ⟨[(0, .agg [.int .i64 v.1, .int .i64 v.2])], []⟩
abbrev ratio_Check_Y0 : Type := Int × Int
def ratio_Check_S0 (v : ratio_Check_Y0) : St := ⟨[(1, .ptr 0 0)], [.cells [.int .i64 v.1, .int .i64 v.2]]⟩
def ratio_Check_r0 (C : ratio_Check_C) (v : ratio_Check_Y0i) : Dt ratio_Check_Y0 := (Dt.ret (v.1, v.2))
theorem ratio_Check_g0 (C : ratio_Check_C) (v : ratio_Check_Y0i) : treg tysT (orc (ratio_Check_tab C)) 21 (regO (bodyOf f25) 0) false [(1, .any)] (ratio_Check_S0i v) some = (ratio_Check_r0 C v).eval fun y => some (ratio_Check_S0 y) := by kernel_rfl
abbrev ratio_Check_Y1 : Type := Bool
def ratio_Check_S1 (v : ratio_Check_Y1) : St := ⟨[(20, .bool v)], []⟩
def ratio_Check_r1 (C : ratio_Check_C) (v : ratio_Check_Y0) : Dt ratio_Check_Y1 := (Dt.ite (decide (v.2 < (1:Int))) (Dt.ret true) (Dt.ite (v.1 == (-9223372036854775808:Int)) (Dt.ret true) (Dt.bnd (C.2.1 ((v.1, ()), ())) fun r1 => (Dt.bnd (C.1 (((IntKind.wrap .u64 v.2), ()), (r1, ()), ())) fun r2 => (Dt.ret (decide (r2 > (1:Int))))))))
theorem ratio_Check_g1 (C : ratio_Check_C) (v : ratio_Check_Y0) : treg tysT (orc (ratio_Check_tab C)) 21 (regO (bodyOf f25) 1) true [(20, .any)] (ratio_Check_S0 v) some = (ratio_Check_r1 C v).eval fun y => some (ratio_Check_S1 y) := by kernel_rfl
abbrev ratio_Check_Y2 : Type := Int
def ratio_Check_S2 (v : ratio_Check_Y2) : St := ⟨[(2, .int .i64 v)], []⟩
def ratio_Check_r2 (C : ratio_Check_C) (v : ratio_Check_Y1) : Dt ratio_Check_Y2 := (Dt.ret (8:Int))
theorem ratio_Check_g2 (C : ratio_Check_C) (v : ratio_Check_Y1) : treg tysT (orc (ratio_Check_tab C)) 21 (regO (bodyOf f25) 2) false [(2, .any)] (ratio_Check_S1 v) some = (ratio_Check_r2 C v).eval fun y => some (ratio_Check_S2 y) := by kernel_rfl
def ratio_Check_r3 (C : ratio_Check_C) (v : ratio_Check_Y1) : Dt ratio_Check_Y2 := (Dt.ret (0:Int))
theorem ratio_Check_g3 (C : ratio_Check_C) (v : ratio_Check_Y1) : treg tysT (orc (ratio_Check_tab C)) 21 (regO (bodyOf f25) 3) false [(2, .any)] (ratio_Check_S1 v) some = (ratio_Check_r3 C v).eval fun y => some (ratio_Check_S2 y) := by kernel_rfl
def F_ratio_Check (d : Nat) (x : ratio_Check_X) : Option ratio_Check_R :=
  (ratio_Check_r0 (ratio_Check_K d) (x.1.1, x.1.2.1)).eval fun y0 =>
  (ratio_Check_r1 (ratio_Check_K d) y0).eval fun y1 =>
  bif y1 then ((ratio_Check_r2 (ratio_Check_K d) y1).eval fun y2 =>
  some y2) else ((ratio_Check_r3 (ratio_Check_K d) y1).eval fun y3 =>
  some y3)
theorem ratio_Check_cok (d : Nat) : COK prog (ratio_Check_sp (F_ratio_Check d)) := by
  have hm : prog.follows .mixedOrders = true := mixed
  have hT := tys
  have hC0 : OrcOK prog (orc (ratio_Check_tab (ratio_Check_K d))) := orc_ok (by
    intro S hS
    simp only [ratio_Check_tab, List.mem_cons, List.not_mem_nil, or_false] at hS
    rcases hS with rfl | rfl
    · exact ratio_gcd_cok d
    · exact ratio_abs_cok d)
  have hC : OrcOK prog (orc (ratio_Check_tab (ratio_Check_K d))) := hC0
  refine cok_of (c := bodyOf f25) (fn := f25) hT (by kernel_rfl) (by kernel_rfl) (by decide) fun x r h w0 φ0 Q hend => ?_
  replace h : F_ratio_Check d x = some r := h
  unfold F_ratio_Check at h
  show Run prog w0 φ0 21 (bodyOf f25) ⟨[(0, .agg [.int .i64 x.1.1, .int .i64 x.1.2.1])], []⟩ Q
  refine run_seq ?_
  refine run_reg hm hT hC (ratio_Check_g0 (ratio_Check_K d) (x.1.1, x.1.2.1)) h ?_
  intro y0 h
  refine cn_then ?_
  refine run_seq ?_
  refine run_seq ?_
  refine run_reg hm hT hC (ratio_Check_g1 (ratio_Check_K d) y0) h ?_
  intro y1 h
  refine cn_then ?_
  refine run_cond (v := y1) (by kernel_rfl) h ?_ ?_
  ·
    intro h
    refine run_seq ?_
    refine run_reg hm hT hC (ratio_Check_g2 (ratio_Check_K d) y1) h ?_
    intro y2 h
    refine cn_then ?_
    refine run_ret ?_
    refine cn_then_ret ?_
    cases h
    exact (hend _ (by kernel_rfl)).2
  ·
    intro h
    refine run_skip ?_
    refine cn_then ?_
    refine run_seq ?_
    refine run_reg hm hT hC (ratio_Check_g3 (ratio_Check_K d) y1) h ?_
    intro y3 h
    refine cn_then ?_
    refine run_ret ?_
    cases h
    exact (hend _ (by kernel_rfl)).2
abbrev ratio_both_ps : List Pk := [.row Rii true, .row Rii true]
abbrev ratio_both_X : Type := Dii × Dii × Unit
abbrev ratio_both_R : Type := Int
def ratio_both_enc (r : ratio_both_R) : LV × List Ob := (.int .i64 r, [])
def ratio_both_sp (F : ratio_both_X → Option ratio_both_R) : Go.Tx.Spec := ⟨30, ratio_both_ps, ratio_both_R, F, ratio_both_enc⟩
abbrev ratio_both_C : Type := (ratio_Check_X → Option ratio_Check_R) × Unit
def ratio_both_K (d : Nat) : ratio_both_C := (F_ratio_Check d, ())
def ratio_both_tab (C : ratio_both_C) : List Go.Tx.Spec := [ratio_Check_sp C.1]
abbrev ratio_both_Y0i : Type := Int × Int × Int × Int
def ratio_both_S0i (v : ratio_both_Y0i) : St := ⟨[(0, .agg [.int .i64 v.1, .int .i64 v.2.1]), (1, .agg [.int .i64 v.2.2.1, .int .i64 v.2.2.2])], []⟩
abbrev ratio_both_Y0 : Type := Int × Int × Int × Int
def ratio_both_S0 (v : ratio_both_Y0) : St := ⟨[(2, .ptr 0 0), (3, .ptr 1 0)], [.cells [.int .i64 v.1, .int .i64 v.2.1], .cells [.int .i64 v.2.2.1, .int .i64 v.2.2.2]]⟩
def ratio_both_r0 (C : ratio_both_C) (v : ratio_both_Y0i) : Dt ratio_both_Y0 := (Dt.ret (v.1, v.2.1, v.2.2.1, v.2.2.2))
theorem ratio_both_g0 (C : ratio_both_C) (v : ratio_both_Y0i) : treg tysT (orc (ratio_both_tab C)) 10 (regO (bodyOf f30) 0) false [(2, .any), (3, .any)] (ratio_both_S0i v) some = (ratio_both_r0 C v).eval fun y => some (ratio_both_S0 y) := by kernel_rfl
abbrev ratio_both_Y1 : Type := Int
def ratio_both_S1 (v : ratio_both_Y1) : St := ⟨[(4, .int .i64 v)], []⟩
def ratio_both_r1 (C : ratio_both_C) (v : ratio_both_Y0) : Dt ratio_both_Y1 := (Dt.bnd (C.1 ((v.1, v.2.1, ()), ())) fun r1 => (Dt.bnd (C.1 ((v.2.2.1, v.2.2.2, ()), ())) fun r2 => (Dt.ret (tmax r1 r2))))
theorem ratio_both_g1 (C : ratio_both_C) (v : ratio_both_Y0) : treg tysT (orc (ratio_both_tab C)) 10 (regO (bodyOf f30) 1) true [(4, .any)] (ratio_both_S0 v) some = (ratio_both_r1 C v).eval fun y => some (ratio_both_S1 y) := by kernel_rfl
def F_ratio_both (d : Nat) (x : ratio_both_X) : Option ratio_both_R :=
  (ratio_both_r0 (ratio_both_K d) (x.1.1, x.1.2.1, x.2.1.1, x.2.1.2.1)).eval fun y0 =>
  (ratio_both_r1 (ratio_both_K d) y0).eval fun y1 =>
  some y1
theorem ratio_both_cok (d : Nat) : COK prog (ratio_both_sp (F_ratio_both d)) := by
  have hm : prog.follows .mixedOrders = true := mixed
  have hT := tys
  have hC0 : OrcOK prog (orc (ratio_both_tab (ratio_both_K d))) := orc_ok (by
    intro S hS
    simp only [ratio_both_tab, List.mem_cons, List.not_mem_nil, or_false] at hS
    subst hS; exact ratio_Check_cok d)
  have hC : OrcOK prog (orc (ratio_both_tab (ratio_both_K d))) := hC0
  refine cok_of (c := bodyOf f30) (fn := f30) hT (by kernel_rfl) (by kernel_rfl) (by decide) fun x r h w0 φ0 Q hend => ?_
  replace h : F_ratio_both d x = some r := h
  unfold F_ratio_both at h
  show Run prog w0 φ0 10 (bodyOf f30) ⟨[(0, .agg [.int .i64 x.1.1, .int .i64 x.1.2.1]), (1, .agg [.int .i64 x.2.1.1, .int .i64 x.2.1.2.1])], []⟩ Q
  refine run_seq ?_
  refine run_reg hm hT hC (ratio_both_g0 (ratio_both_K d) (x.1.1, x.1.2.1, x.2.1.1, x.2.1.2.1)) h ?_
  intro y0 h
  refine cn_then ?_
  refine run_seq ?_
  refine run_reg hm hT hC (ratio_both_g1 (ratio_both_K d) y0) h ?_
  intro y1 h
  refine cn_then ?_
  refine run_ret ?_
  cases h
  exact (hend _ (by kernel_rfl)).2
abbrev math_bits_Mul64_ps : List Pk := [.row Ru false, .row Ru false]
abbrev math_bits_Mul64_X : Type := Du × Du × Unit
abbrev math_bits_Mul64_R : Type := Int × Int
def math_bits_Mul64_enc (r : math_bits_Mul64_R) : LV × List Ob := (.tup [.int .u64 r.1, .int .u64 r.2], [])
def math_bits_Mul64_sp (F : math_bits_Mul64_X → Option math_bits_Mul64_R) : Go.Tx.Spec := ⟨38, math_bits_Mul64_ps, math_bits_Mul64_R, F, math_bits_Mul64_enc⟩
abbrev math_bits_Mul64_C : Type := Unit
def math_bits_Mul64_K (_d : Nat) : math_bits_Mul64_C := ()
def math_bits_Mul64_tab (C : math_bits_Mul64_C) : List Go.Tx.Spec := []
abbrev math_bits_Mul64_Y0i : Type := Int × Int
def math_bits_Mul64_S0i (v : math_bits_Mul64_Y0i) : St := ⟨[(0, .int .u64 v.1), (1, .int .u64 v.2)], []⟩
def math_bits_Mul64_r0 (C : math_bits_Mul64_C) (v : math_bits_Mul64_Y0i) : Dt math_bits_Mul64_Y0i := (Dt.ret (v.1, v.2))
theorem math_bits_Mul64_g0 (C : math_bits_Mul64_C) (v : math_bits_Mul64_Y0i) : treg tysT (orc (math_bits_Mul64_tab C)) 51 (regO (bodyOf f38) 0) false [(0, .any), (1, .any)] (math_bits_Mul64_S0i v) some = (math_bits_Mul64_r0 C v).eval fun y => some (math_bits_Mul64_S0i y) := by kernel_rfl
abbrev math_bits_Mul64_Y1 : Type := Int × Int × Int
def math_bits_Mul64_S1 (v : math_bits_Mul64_Y1) : St := ⟨[(0, .int .u64 v.1), (1, .int .u64 v.2.1), (6, .int .u64 v.2.2)], []⟩
def math_bits_Mul64_r1 (C : math_bits_Mul64_C) (v : math_bits_Mul64_Y0i) : Dt math_bits_Mul64_Y1 := (Dt.ret (v.1, v.2, (andI .u64 v.1 (4294967295:Int))))
theorem math_bits_Mul64_g1 (C : math_bits_Mul64_C) (v : math_bits_Mul64_Y0i) : treg tysT (orc (math_bits_Mul64_tab C)) 51 (regO (bodyOf f38) 1) false [(0, .any), (1, .any), (6, .any)] (math_bits_Mul64_S0i v) some = (math_bits_Mul64_r1 C v).eval fun y => some (math_bits_Mul64_S1 y) := by kernel_rfl
abbrev math_bits_Mul64_Y2 : Type := Int × Int × Int × Int
def math_bits_Mul64_S2 (v : math_bits_Mul64_Y2) : St := ⟨[(0, .int .u64 v.1), (1, .int .u64 v.2.1), (6, .int .u64 v.2.2.1), (7, .int .u64 v.2.2.2)], []⟩
def math_bits_Mul64_r2 (C : math_bits_Mul64_C) (v : math_bits_Mul64_Y1) : Dt math_bits_Mul64_Y2 := (Dt.ret (v.1, v.2.1, v.2.2, (shrI .u64 v.1 (32:Int))))
theorem math_bits_Mul64_g2 (C : math_bits_Mul64_C) (v : math_bits_Mul64_Y1) : treg tysT (orc (math_bits_Mul64_tab C)) 51 (regO (bodyOf f38) 2) false [(0, .any), (1, .any), (6, .any), (7, .any)] (math_bits_Mul64_S1 v) some = (math_bits_Mul64_r2 C v).eval fun y => some (math_bits_Mul64_S2 y) := by kernel_rfl
abbrev math_bits_Mul64_Y3 : Type := Int × Int × Int × Int × Int
def math_bits_Mul64_S3 (v : math_bits_Mul64_Y3) : St := ⟨[(0, .int .u64 v.1), (1, .int .u64 v.2.1), (6, .int .u64 v.2.2.1), (7, .int .u64 v.2.2.2.1), (8, .int .u64 v.2.2.2.2)], []⟩
def math_bits_Mul64_r3 (C : math_bits_Mul64_C) (v : math_bits_Mul64_Y2) : Dt math_bits_Mul64_Y3 := (Dt.ret (v.1, v.2.1, v.2.2.1, v.2.2.2, (andI .u64 v.2.1 (4294967295:Int))))
theorem math_bits_Mul64_g3 (C : math_bits_Mul64_C) (v : math_bits_Mul64_Y2) : treg tysT (orc (math_bits_Mul64_tab C)) 51 (regO (bodyOf f38) 3) false [(0, .any), (1, .any), (6, .any), (7, .any), (8, .any)] (math_bits_Mul64_S2 v) some = (math_bits_Mul64_r3 C v).eval fun y => some (math_bits_Mul64_S3 y) := by kernel_rfl
abbrev math_bits_Mul64_Y4 : Type := Int × Int × Int × Int × Int × Int
def math_bits_Mul64_S4 (v : math_bits_Mul64_Y4) : St := ⟨[(0, .int .u64 v.1), (1, .int .u64 v.2.1), (6, .int .u64 v.2.2.1), (7, .int .u64 v.2.2.2.1), (8, .int .u64 v.2.2.2.2.1), (9, .int .u64 v.2.2.2.2.2)], []⟩
def math_bits_Mul64_r4 (C : math_bits_Mul64_C) (v : math_bits_Mul64_Y3) : Dt math_bits_Mul64_Y4 := (Dt.ret (v.1, v.2.1, v.2.2.1, v.2.2.2.1, v.2.2.2.2, (shrI .u64 v.2.1 (32:Int))))
theorem math_bits_Mul64_g4 (C : math_bits_Mul64_C) (v : math_bits_Mul64_Y3) : treg tysT (orc (math_bits_Mul64_tab C)) 51 (regO (bodyOf f38) 4) false [(0, .any), (1, .any), (6, .any), (7, .any), (8, .any), (9, .any)] (math_bits_Mul64_S3 v) some = (math_bits_Mul64_r4 C v).eval fun y => some (math_bits_Mul64_S4 y) := by kernel_rfl
abbrev math_bits_Mul64_Y5 : Type := Int × Int × Int × Int × Int × Int × Int
def math_bits_Mul64_S5 (v : math_bits_Mul64_Y5) : St := ⟨[(0, .int .u64 v.1), (1, .int .u64 v.2.1), (6, .int .u64 v.2.2.1), (7, .int .u64 v.2.2.2.1), (8, .int .u64 v.2.2.2.2.1), (9, .int .u64 v.2.2.2.2.2.1), (10, .int .u64 v.2.2.2.2.2.2)], []⟩
def math_bits_Mul64_r5 (C : math_bits_Mul64_C) (v : math_bits_Mul64_Y4) : Dt math_bits_Mul64_Y5 := (Dt.ret (v.1, v.2.1, v.2.2.1, v.2.2.2.1, v.2.2.2.2.1, v.2.2.2.2.2, (IntKind.wrap .u64 (v.2.2.1 * v.2.2.2.2.1))))
theorem math_bits_Mul64_g5 (C : math_bits_Mul64_C) (v : math_bits_Mul64_Y4) : treg tysT (orc (math_bits_Mul64_tab C)) 51 (regO (bodyOf f38) 5) false [(0, .any), (1, .any), (6, .any), (7, .any), (8, .any), (9, .any), (10, .any)] (math_bits_Mul64_S4 v) some = (math_bits_Mul64_r5 C v).eval fun y => some (math_bits_Mul64_S5 y) := by kernel_rfl
abbrev math_bits_Mul64_Y6 : Type := Int × Int × Int × Int × Int × Int
def math_bits_Mul64_S6 (v : math_bits_Mul64_Y6) : St := ⟨[(0, .int .u64 v.1), (1, .int .u64 v.2.1), (6, .int .u64 v.2.2.1), (7, .int .u64 v.2.2.2.1), (9, .int .u64 v.2.2.2.2.1), (11, .int .u64 v.2.2.2.2.2)], []⟩
def math_bits_Mul64_r6 (C : math_bits_Mul64_C) (v : math_bits_Mul64_Y5) : Dt math_bits_Mul64_Y6 := (Dt.ret (v.1, v.2.1, v.2.2.1, v.2.2.2.1, v.2.2.2.2.2.1, (IntKind.wrap .u64 ((IntKind.wrap .u64 (v.2.2.2.1 * v.2.2.2.2.1)) + (shrI .u64 v.2.2.2.2.2.2 (32:Int))))))
theorem math_bits_Mul64_g6 (C : math_bits_Mul64_C) (v : math_bits_Mul64_Y5) : treg tysT (orc (math_bits_Mul64_tab C)) 51 (regO (bodyOf f38) 6) false [(0, .any), (1, .any), (6, .any), (7, .any), (9, .any), (11, .any)] (math_bits_Mul64_S5 v) some = (math_bits_Mul64_r6 C v).eval fun y => some (math_bits_Mul64_S6 y) := by kernel_rfl
abbrev math_bits_Mul64_Y7 : Type := Int × Int × Int × Int × Int × Int × Int
def math_bits_Mul64_S7 (v : math_bits_Mul64_Y7) : St := ⟨[(0, .int .u64 v.1), (1, .int .u64 v.2.1), (6, .int .u64 v.2.2.1), (7, .int .u64 v.2.2.2.1), (9, .int .u64 v.2.2.2.2.1), (11, .int .u64 v.2.2.2.2.2.1), (12, .int .u64 v.2.2.2.2.2.2)], []⟩
def math_bits_Mul64_r7 (C : math_bits_Mul64_C) (v : math_bits_Mul64_Y6) : Dt math_bits_Mul64_Y7 := (Dt.ret (v.1, v.2.1, v.2.2.1, v.2.2.2.1, v.2.2.2.2.1, v.2.2.2.2.2, (andI .u64 v.2.2.2.2.2 (4294967295:Int))))
theorem math_bits_Mul64_g7 (C : math_bits_Mul64_C) (v : math_bits_Mul64_Y6) : treg tysT (orc (math_bits_Mul64_tab C)) 51 (regO (bodyOf f38) 7) false [(0, .any), (1, .any), (6, .any), (7, .any), (9, .any), (11, .any), (12, .any)] (math_bits_Mul64_S6 v) some = (math_bits_Mul64_r7 C v).eval fun y => some (math_bits_Mul64_S7 y) := by kernel_rfl
abbrev math_bits_Mul64_Y8 : Type := Int × Int × Int × Int × Int × Int × Int
def math_bits_Mul64_S8 (v : math_bits_Mul64_Y8) : St := ⟨[(0, .int .u64 v.1), (1, .int .u64 v.2.1), (6, .int .u64 v.2.2.1), (7, .int .u64 v.2.2.2.1), (9, .int .u64 v.2.2.2.2.1), (12, .int .u64 v.2.2.2.2.2.1), (13, .int .u64 v.2.2.2.2.2.2)], []⟩
def math_bits_Mul64_r8 (C : math_bits_Mul64_C) (v : math_bits_Mul64_Y7) : Dt math_bits_Mul64_Y8 := (Dt.ret (v.1, v.2.1, v.2.2.1, v.2.2.2.1, v.2.2.2.2.1, v.2.2.2.2.2.2, (shrI .u64 v.2.2.2.2.2.1 (32:Int))))
theorem math_bits_Mul64_g8 (C : math_bits_Mul64_C) (v : math_bits_Mul64_Y7) : treg tysT (orc (math_bits_Mul64_tab C)) 51 (regO (bodyOf f38) 8) false [(0, .any), (1, .any), (6, .any), (7, .any), (9, .any), (12, .any), (13, .any)] (math_bits_Mul64_S7 v) some = (math_bits_Mul64_r8 C v).eval fun y => some (math_bits_Mul64_S8 y) := by kernel_rfl
abbrev math_bits_Mul64_Y9 : Type := Int × Int × Int × Int × Int × Int
def math_bits_Mul64_S9 (v : math_bits_Mul64_Y9) : St := ⟨[(0, .int .u64 v.1), (1, .int .u64 v.2.1), (7, .int .u64 v.2.2.1), (9, .int .u64 v.2.2.2.1), (12, .int .u64 v.2.2.2.2.1), (13, .int .u64 v.2.2.2.2.2)], []⟩
def math_bits_Mul64_r9 (C : math_bits_Mul64_C) (v : math_bits_Mul64_Y8) : Dt math_bits_Mul64_Y9 := (Dt.ret (v.1, v.2.1, v.2.2.2.1, v.2.2.2.2.1, (IntKind.wrap .u64 (v.2.2.2.2.2.1 + (IntKind.wrap .u64 (v.2.2.1 * v.2.2.2.2.1)))), v.2.2.2.2.2.2))
theorem math_bits_Mul64_g9 (C : math_bits_Mul64_C) (v : math_bits_Mul64_Y8) : treg tysT (orc (math_bits_Mul64_tab C)) 51 (regO (bodyOf f38) 9) false [(0, .any), (1, .any), (7, .any), (9, .any), (12, .any), (13, .any)] (math_bits_Mul64_S8 v) some = (math_bits_Mul64_r9 C v).eval fun y => some (math_bits_Mul64_S9 y) := by kernel_rfl
abbrev math_bits_Mul64_Y10 : Type := Int × Int × Int
def math_bits_Mul64_S10 (v : math_bits_Mul64_Y10) : St := ⟨[(0, .int .u64 v.1), (1, .int .u64 v.2.1), (4, .int .u64 v.2.2)], []⟩
def math_bits_Mul64_r10 (C : math_bits_Mul64_C) (v : math_bits_Mul64_Y9) : Dt math_bits_Mul64_Y10 := (Dt.ret (v.1, v.2.1, (IntKind.wrap .u64 ((IntKind.wrap .u64 ((IntKind.wrap .u64 (v.2.2.1 * v.2.2.2.1)) + v.2.2.2.2.2)) + (shrI .u64 v.2.2.2.2.1 (32:Int))))))
theorem math_bits_Mul64_g10 (C : math_bits_Mul64_C) (v : math_bits_Mul64_Y9) : treg tysT (orc (math_bits_Mul64_tab C)) 51 (regO (bodyOf f38) 10) false [(0, .any), (1, .any), (4, .any)] (math_bits_Mul64_S9 v) some = (math_bits_Mul64_r10 C v).eval fun y => some (math_bits_Mul64_S10 y) := by kernel_rfl
abbrev math_bits_Mul64_Y11 : Type := Int × Int
def math_bits_Mul64_S11 (v : math_bits_Mul64_Y11) : St := ⟨[(4, .int .u64 v.1), (5, .int .u64 v.2)], []⟩
def math_bits_Mul64_r11 (C : math_bits_Mul64_C) (v : math_bits_Mul64_Y10) : Dt math_bits_Mul64_Y11 := (Dt.ret (v.2.2, (IntKind.wrap .u64 (v.1 * v.2.1))))
theorem math_bits_Mul64_g11 (C : math_bits_Mul64_C) (v : math_bits_Mul64_Y10) : treg tysT (orc (math_bits_Mul64_tab C)) 51 (regO (bodyOf f38) 11) false [(4, .any), (5, .any)] (math_bits_Mul64_S10 v) some = (math_bits_Mul64_r11 C v).eval fun y => some (math_bits_Mul64_S11 y) := by kernel_rfl
def F_math_bits_Mul64 (d : Nat) (x : math_bits_Mul64_X) : Option math_bits_Mul64_R :=
  (math_bits_Mul64_r0 (math_bits_Mul64_K d) (x.1.1, x.2.1.1)).eval fun y0 =>
  (math_bits_Mul64_r1 (math_bits_Mul64_K d) y0).eval fun y1 =>
  (math_bits_Mul64_r2 (math_bits_Mul64_K d) y1).eval fun y2 =>
  (math_bits_Mul64_r3 (math_bits_Mul64_K d) y2).eval fun y3 =>
  (math_bits_Mul64_r4 (math_bits_Mul64_K d) y3).eval fun y4 =>
  (math_bits_Mul64_r5 (math_bits_Mul64_K d) y4).eval fun y5 =>
  (math_bits_Mul64_r6 (math_bits_Mul64_K d) y5).eval fun y6 =>
  (math_bits_Mul64_r7 (math_bits_Mul64_K d) y6).eval fun y7 =>
  (math_bits_Mul64_r8 (math_bits_Mul64_K d) y7).eval fun y8 =>
  (math_bits_Mul64_r9 (math_bits_Mul64_K d) y8).eval fun y9 =>
  (math_bits_Mul64_r10 (math_bits_Mul64_K d) y9).eval fun y10 =>
  (math_bits_Mul64_r11 (math_bits_Mul64_K d) y10).eval fun y11 =>
  some y11
theorem math_bits_Mul64_cok (d : Nat) : COK prog (math_bits_Mul64_sp (F_math_bits_Mul64 d)) := by
  have hm : prog.follows .mixedOrders = true := mixed
  have hT := tys
  have hC0 : OrcOK prog (orc (math_bits_Mul64_tab (math_bits_Mul64_K d))) := orc_ok (by
    intro S hS
    simp only [math_bits_Mul64_tab, List.mem_cons, List.not_mem_nil, or_false] at hS
    all_goals first | cases hS | exact hS.elim)
  have hC : OrcOK prog (orc (math_bits_Mul64_tab (math_bits_Mul64_K d))) := hC0
  refine cok_of (c := bodyOf f38) (fn := f38) hT (by kernel_rfl) (by kernel_rfl) (by decide) fun x r h w0 φ0 Q hend => ?_
  replace h : F_math_bits_Mul64 d x = some r := h
  unfold F_math_bits_Mul64 at h
  show Run prog w0 φ0 51 (bodyOf f38) ⟨[(0, .int .u64 x.1.1), (1, .int .u64 x.2.1.1)], []⟩ Q
  refine run_seq ?_
  refine run_reg hm hT hC (math_bits_Mul64_g0 (math_bits_Mul64_K d) (x.1.1, x.2.1.1)) h ?_
  intro y0 h
  refine cn_then ?_
  refine run_seq ?_
  refine run_reg hm hT hC (math_bits_Mul64_g1 (math_bits_Mul64_K d) y0) h ?_
  intro y1 h
  refine cn_then ?_
  refine run_seq ?_
  refine run_reg hm hT hC (math_bits_Mul64_g2 (math_bits_Mul64_K d) y1) h ?_
  intro y2 h
  refine cn_then ?_
  refine run_seq ?_
  refine run_reg hm hT hC (math_bits_Mul64_g3 (math_bits_Mul64_K d) y2) h ?_
  intro y3 h
  refine cn_then ?_
  refine run_seq ?_
  refine run_reg hm hT hC (math_bits_Mul64_g4 (math_bits_Mul64_K d) y3) h ?_
  intro y4 h
  refine cn_then ?_
  refine run_seq ?_
  refine run_reg hm hT hC (math_bits_Mul64_g5 (math_bits_Mul64_K d) y4) h ?_
  intro y5 h
  refine cn_then ?_
  refine run_seq ?_
  refine run_reg hm hT hC (math_bits_Mul64_g6 (math_bits_Mul64_K d) y5) h ?_
  intro y6 h
  refine cn_then ?_
  refine run_seq ?_
  refine run_reg hm hT hC (math_bits_Mul64_g7 (math_bits_Mul64_K d) y6) h ?_
  intro y7 h
  refine cn_then ?_
  refine run_seq ?_
  refine run_reg hm hT hC (math_bits_Mul64_g8 (math_bits_Mul64_K d) y7) h ?_
  intro y8 h
  refine cn_then ?_
  refine run_seq ?_
  refine run_reg hm hT hC (math_bits_Mul64_g9 (math_bits_Mul64_K d) y8) h ?_
  intro y9 h
  refine cn_then ?_
  refine run_seq ?_
  refine run_reg hm hT hC (math_bits_Mul64_g10 (math_bits_Mul64_K d) y9) h ?_
  intro y10 h
  refine cn_then ?_
  refine run_seq ?_
  refine run_reg hm hT hC (math_bits_Mul64_g11 (math_bits_Mul64_K d) y10) h ?_
  intro y11 h
  refine cn_then ?_
  refine run_ret ?_
  cases h
  exact (hend _ (by kernel_rfl)).2
abbrev ratio_times_ps : List Pk := [.row Ri false, .row Ri false]
abbrev ratio_times_X : Type := Di × Di × Unit
abbrev ratio_times_R : Type := Bool × Int × Int
def ratio_times_enc (r : ratio_times_R) : LV × List Ob := (.agg [.bool r.1, .int .u64 r.2.1, .int .u64 r.2.2], [])
def ratio_times_sp (F : ratio_times_X → Option ratio_times_R) : Go.Tx.Spec := ⟨42, ratio_times_ps, ratio_times_R, F, ratio_times_enc⟩
abbrev ratio_times_C : Type := (ratio_abs_X → Option ratio_abs_R) × (math_bits_Mul64_X → Option math_bits_Mul64_R) × Unit
def ratio_times_K (d : Nat) : ratio_times_C := (F_ratio_abs d, F_math_bits_Mul64 d, ())
def ratio_times_tab (C : ratio_times_C) : List Go.Tx.Spec := [ratio_abs_sp C.1, math_bits_Mul64_sp C.2.1]
abbrev ratio_times_Y0i : Type := Int × Int
def ratio_times_S0i (v : ratio_times_Y0i) : St := ⟨[(0, .int .i64 v.1), (1, .int .i64 v.2)], []⟩
abbrev ratio_times_Y0 : Type := Int × Int × Bool × Int × Int
def ratio_times_S0 (v : ratio_times_Y0) : St := ⟨[(0, .int .i64 v.1), (1, .int .i64 v.2.1), (4, .ptr 0 0)], [.cells [.bool v.2.2.1, .int .u64 v.2.2.2.1, .int .u64 v.2.2.2.2]]⟩
def ratio_times_r0 (C : ratio_times_C) (v : ratio_times_Y0i) : Dt ratio_times_Y0 := (Dt.ret (v.1, v.2, false, (0:Int), (0:Int)))
theorem ratio_times_g0 (C : ratio_times_C) (v : ratio_times_Y0i) : treg tysT (orc (ratio_times_tab C)) 23 (regO (bodyOf f42) 0) false [(0, .any), (1, .any), (4, .any)] (ratio_times_S0i v) some = (ratio_times_r0 C v).eval fun y => some (ratio_times_S0 y) := by kernel_rfl
abbrev ratio_times_Y1 : Type := Int × Int × Int × Int × Bool × Int × Int
def ratio_times_S1 (v : ratio_times_Y1) : St := ⟨[(0, .int .i64 v.1), (1, .int .i64 v.2.1), (4, .ptr 0 0), (5, .int .u64 v.2.2.1), (6, .int .u64 v.2.2.2.1)], [.cells [.bool v.2.2.2.2.1, .int .u64 v.2.2.2.2.2.1, .int .u64 v.2.2.2.2.2.2]]⟩
def ratio_times_r1 (C : ratio_times_C) (v : ratio_times_Y0) : Dt ratio_times_Y1 := (Dt.bnd (C.1 ((v.1, ()), ())) fun r1 => (Dt.bnd (C.1 ((v.2.1, ()), ())) fun r2 => (Dt.bnd (C.2.1 ((r1, ()), (r2, ()), ())) fun r3 => (Dt.ret (v.1, v.2.1, r3.1, r3.2, v.2.2.1, v.2.2.2.1, v.2.2.2.2)))))
theorem ratio_times_g1 (C : ratio_times_C) (v : ratio_times_Y0) : treg tysT (orc (ratio_times_tab C)) 23 (regO (bodyOf f42) 1) false [(0, .any), (1, .any), (4, .any), (5, .any), (6, .any)] (ratio_times_S0 v) some = (ratio_times_r1 C v).eval fun y => some (ratio_times_S1 y) := by kernel_rfl
abbrev ratio_times_Y2 : Type := Bool × Int × Int
def ratio_times_S2 (v : ratio_times_Y2) : St := ⟨[(4, .ptr 0 0)], [.cells [.bool v.1, .int .u64 v.2.1, .int .u64 v.2.2]]⟩
def ratio_times_r2 (C : ratio_times_C) (v : ratio_times_Y1) : Dt ratio_times_Y2 := (Dt.ret ((!((decide (v.1 < (0:Int))) == (decide (v.2.1 < (0:Int))))), v.2.2.1, v.2.2.2.1))
theorem ratio_times_g2 (C : ratio_times_C) (v : ratio_times_Y1) : treg tysT (orc (ratio_times_tab C)) 23 (regO (bodyOf f42) 2) false [(4, .any)] (ratio_times_S1 v) some = (ratio_times_r2 C v).eval fun y => some (ratio_times_S2 y) := by kernel_rfl
def F_ratio_times (d : Nat) (x : ratio_times_X) : Option ratio_times_R :=
  (ratio_times_r0 (ratio_times_K d) (x.1.1, x.2.1.1)).eval fun y0 =>
  (ratio_times_r1 (ratio_times_K d) y0).eval fun y1 =>
  (ratio_times_r2 (ratio_times_K d) y1).eval fun y2 =>
  some y2
theorem ratio_times_cok (d : Nat) : COK prog (ratio_times_sp (F_ratio_times d)) := by
  have hm : prog.follows .mixedOrders = true := mixed
  have hT := tys
  have hC0 : OrcOK prog (orc (ratio_times_tab (ratio_times_K d))) := orc_ok (by
    intro S hS
    simp only [ratio_times_tab, List.mem_cons, List.not_mem_nil, or_false] at hS
    rcases hS with rfl | rfl
    · exact ratio_abs_cok d
    · exact math_bits_Mul64_cok d)
  have hC : OrcOK prog (orc (ratio_times_tab (ratio_times_K d))) := hC0
  refine cok_of (c := bodyOf f42) (fn := f42) hT (by kernel_rfl) (by kernel_rfl) (by decide) fun x r h w0 φ0 Q hend => ?_
  replace h : F_ratio_times d x = some r := h
  unfold F_ratio_times at h
  show Run prog w0 φ0 23 (bodyOf f42) ⟨[(0, .int .i64 x.1.1), (1, .int .i64 x.2.1.1)], []⟩ Q
  refine run_seq ?_
  refine run_reg hm hT hC (ratio_times_g0 (ratio_times_K d) (x.1.1, x.2.1.1)) h ?_
  intro y0 h
  refine cn_then ?_
  refine run_seq ?_
  refine run_reg hm hT hC (ratio_times_g1 (ratio_times_K d) y0) h ?_
  intro y1 h
  refine cn_then ?_
  refine run_seq ?_
  refine run_reg hm hT hC (ratio_times_g2 (ratio_times_K d) y1) h ?_
  intro y2 h
  refine cn_then ?_
  refine run_ret ?_
  cases h
  exact (hend _ (by kernel_rfl)).2
abbrev cmp_isNaN_uint64_ps : List Pk := [.row Ru false]
abbrev cmp_isNaN_uint64_X : Type := Du × Unit
abbrev cmp_isNaN_uint64_R : Type := Bool
def cmp_isNaN_uint64_enc (r : cmp_isNaN_uint64_R) : LV × List Ob := (.bool r, [])
def cmp_isNaN_uint64_sp (F : cmp_isNaN_uint64_X → Option cmp_isNaN_uint64_R) : Go.Tx.Spec := ⟨87, cmp_isNaN_uint64_ps, cmp_isNaN_uint64_R, F, cmp_isNaN_uint64_enc⟩
abbrev cmp_isNaN_uint64_C : Type := Unit
def cmp_isNaN_uint64_K (_d : Nat) : cmp_isNaN_uint64_C := ()
def cmp_isNaN_uint64_tab (C : cmp_isNaN_uint64_C) : List Go.Tx.Spec := []
abbrev cmp_isNaN_uint64_Y0i : Type := Int
def cmp_isNaN_uint64_S0i (v : cmp_isNaN_uint64_Y0i) : St := ⟨[(0, .int .u64 v)], []⟩
def cmp_isNaN_uint64_r0 (C : cmp_isNaN_uint64_C) (v : cmp_isNaN_uint64_Y0i) : Dt cmp_isNaN_uint64_Y0i := (Dt.ret v)
theorem cmp_isNaN_uint64_g0 (C : cmp_isNaN_uint64_C) (v : cmp_isNaN_uint64_Y0i) : treg tysT (orc (cmp_isNaN_uint64_tab C)) 6 (regO (bodyOf f87) 0) false [(0, .any)] (cmp_isNaN_uint64_S0i v) some = (cmp_isNaN_uint64_r0 C v).eval fun y => some (cmp_isNaN_uint64_S0i y) := by kernel_rfl
abbrev cmp_isNaN_uint64_Y1 : Type := Bool
def cmp_isNaN_uint64_S1 (v : cmp_isNaN_uint64_Y1) : St := ⟨[(2, .bool v)], []⟩
def cmp_isNaN_uint64_r1 (C : cmp_isNaN_uint64_C) (v : cmp_isNaN_uint64_Y0i) : Dt cmp_isNaN_uint64_Y1 := (Dt.ret (v != v))
theorem cmp_isNaN_uint64_g1 (C : cmp_isNaN_uint64_C) (v : cmp_isNaN_uint64_Y0i) : treg tysT (orc (cmp_isNaN_uint64_tab C)) 6 (regO (bodyOf f87) 1) false [(2, .any)] (cmp_isNaN_uint64_S0i v) some = (cmp_isNaN_uint64_r1 C v).eval fun y => some (cmp_isNaN_uint64_S1 y) := by kernel_rfl
def F_cmp_isNaN_uint64 (d : Nat) (x : cmp_isNaN_uint64_X) : Option cmp_isNaN_uint64_R :=
  (cmp_isNaN_uint64_r0 (cmp_isNaN_uint64_K d) x.1.1).eval fun y0 =>
  (cmp_isNaN_uint64_r1 (cmp_isNaN_uint64_K d) y0).eval fun y1 =>
  some y1
theorem cmp_isNaN_uint64_cok (d : Nat) : COK prog (cmp_isNaN_uint64_sp (F_cmp_isNaN_uint64 d)) := by
  have hm : prog.follows .mixedOrders = true := mixed
  have hT := tys
  have hC0 : OrcOK prog (orc (cmp_isNaN_uint64_tab (cmp_isNaN_uint64_K d))) := orc_ok (by
    intro S hS
    simp only [cmp_isNaN_uint64_tab, List.mem_cons, List.not_mem_nil, or_false] at hS
    all_goals first | cases hS | exact hS.elim)
  have hC : OrcOK prog (orc (cmp_isNaN_uint64_tab (cmp_isNaN_uint64_K d))) := hC0
  refine cok_of (c := bodyOf f87) (fn := f87) hT (by kernel_rfl) (by kernel_rfl) (by decide) fun x r h w0 φ0 Q hend => ?_
  replace h : F_cmp_isNaN_uint64 d x = some r := h
  unfold F_cmp_isNaN_uint64 at h
  show Run prog w0 φ0 6 (bodyOf f87) ⟨[(0, .int .u64 x.1.1)], []⟩ Q
  refine run_seq ?_
  refine run_reg hm hT hC (cmp_isNaN_uint64_g0 (cmp_isNaN_uint64_K d) x.1.1) h ?_
  intro y0 h
  refine cn_then ?_
  refine run_seq ?_
  refine run_reg hm hT hC (cmp_isNaN_uint64_g1 (cmp_isNaN_uint64_K d) y0) h ?_
  intro y1 h
  refine cn_then ?_
  refine run_ret ?_
  cases h
  exact (hend _ (by kernel_rfl)).2
abbrev cmp_Compare_uint64_ps : List Pk := [.row Ru false, .row Ru false]
abbrev cmp_Compare_uint64_X : Type := Du × Du × Unit
abbrev cmp_Compare_uint64_R : Type := Int
def cmp_Compare_uint64_enc (r : cmp_Compare_uint64_R) : LV × List Ob := (.int .i64 r, [])
def cmp_Compare_uint64_sp (F : cmp_Compare_uint64_X → Option cmp_Compare_uint64_R) : Go.Tx.Spec := ⟨70, cmp_Compare_uint64_ps, cmp_Compare_uint64_R, F, cmp_Compare_uint64_enc⟩
abbrev cmp_Compare_uint64_C : Type := (cmp_isNaN_uint64_X → Option cmp_isNaN_uint64_R) × Unit
def cmp_Compare_uint64_K (d : Nat) : cmp_Compare_uint64_C := (F_cmp_isNaN_uint64 d, ())
def cmp_Compare_uint64_tab (C : cmp_Compare_uint64_C) : List Go.Tx.Spec := [cmp_isNaN_uint64_sp C.1]
abbrev cmp_Compare_uint64_Y0i : Type := Int × Int
def cmp_Compare_uint64_S0i (v : cmp_Compare_uint64_Y0i) : St := ⟨[(0, .int .u64 v.1), (1, .int .u64 v.2)], []⟩
def cmp_Compare_uint64_r0 (C : cmp_Compare_uint64_C) (v : cmp_Compare_uint64_Y0i) : Dt cmp_Compare_uint64_Y0i := (Dt.ret (v.1, v.2))
theorem cmp_Compare_uint64_g0 (C : cmp_Compare_uint64_C) (v : cmp_Compare_uint64_Y0i) : treg tysT (orc (cmp_Compare_uint64_tab C)) 20 (regO (bodyOf f70) 0) false [(0, .any), (1, .any)] (cmp_Compare_uint64_S0i v) some = (cmp_Compare_uint64_r0 C v).eval fun y => some (cmp_Compare_uint64_S0i y) := by kernel_rfl
abbrev cmp_Compare_uint64_Y1 : Type := Int × Int × Bool
def cmp_Compare_uint64_S1 (v : cmp_Compare_uint64_Y1) : St := ⟨[(0, .int .u64 v.1), (1, .int .u64 v.2.1), (5, .bool v.2.2)], []⟩
def cmp_Compare_uint64_r1 (C : cmp_Compare_uint64_C) (v : cmp_Compare_uint64_Y0i) : Dt cmp_Compare_uint64_Y1 := (Dt.bnd (C.1 ((v.1, ()), ())) fun r1 => (Dt.ret (v.1, v.2, r1)))
theorem cmp_Compare_uint64_g1 (C : cmp_Compare_uint64_C) (v : cmp_Compare_uint64_Y0i) : treg tysT (orc (cmp_Compare_uint64_tab C)) 20 (regO (bodyOf f70) 1) false [(0, .any), (1, .any), (5, .any)] (cmp_Compare_uint64_S0i v) some = (cmp_Compare_uint64_r1 C v).eval fun y => some (cmp_Compare_uint64_S1 y) := by kernel_rfl
abbrev cmp_Compare_uint64_Y2 : Type := Int × Int × Bool × Bool
def cmp_Compare_uint64_S2 (v : cmp_Compare_uint64_Y2) : St := ⟨[(0, .int .u64 v.1), (1, .int .u64 v.2.1), (5, .bool v.2.2.1), (6, .bool v.2.2.2)], []⟩
def cmp_Compare_uint64_r2 (C : cmp_Compare_uint64_C) (v : cmp_Compare_uint64_Y1) : Dt cmp_Compare_uint64_Y2 := (Dt.bnd (C.1 ((v.2.1, ()), ())) fun r1 => (Dt.ret (v.1, v.2.1, v.2.2, r1)))
theorem cmp_Compare_uint64_g2 (C : cmp_Compare_uint64_C) (v : cmp_Compare_uint64_Y1) : treg tysT (orc (cmp_Compare_uint64_tab C)) 20 (regO (bodyOf f70) 2) false [(0, .any), (1, .any), (5, .any), (6, .any)] (cmp_Compare_uint64_S1 v) some = (cmp_Compare_uint64_r2 C v).eval fun y => some (cmp_Compare_uint64_S2 y) := by kernel_rfl
abbrev cmp_Compare_uint64_Y3 : Type := Int × Int × Bool × Bool
def cmp_Compare_uint64_S3 (v : cmp_Compare_uint64_Y3) : St := ⟨[(0, .int .u64 v.1), (1, .int .u64 v.2.1), (6, .bool v.2.2.1), (11, .bool v.2.2.2)], []⟩
def cmp_Compare_uint64_r3 (C : cmp_Compare_uint64_C) (v : cmp_Compare_uint64_Y2) : Dt cmp_Compare_uint64_Y3 := (Dt.ret (v.1, v.2.1, v.2.2.2, v.2.2.1))
theorem cmp_Compare_uint64_g3 (C : cmp_Compare_uint64_C) (v : cmp_Compare_uint64_Y2) : treg tysT (orc (cmp_Compare_uint64_tab C)) 20 (regO (bodyOf f70) 3) false [(0, .any), (1, .any), (6, .any), (11, .any)] (cmp_Compare_uint64_S2 v) some = (cmp_Compare_uint64_r3 C v).eval fun y => some (cmp_Compare_uint64_S3 y) := by kernel_rfl
abbrev cmp_Compare_uint64_Y4 : Type := Bool
def cmp_Compare_uint64_S4 (v : cmp_Compare_uint64_Y4) : St := ⟨[(12, .bool v)], []⟩
def cmp_Compare_uint64_r4 (C : cmp_Compare_uint64_C) (v : cmp_Compare_uint64_Y3) : Dt cmp_Compare_uint64_Y4 := (Dt.ret v.2.2.1)
theorem cmp_Compare_uint64_g4 (C : cmp_Compare_uint64_C) (v : cmp_Compare_uint64_Y3) : treg tysT (orc (cmp_Compare_uint64_tab C)) 20 (regO (bodyOf f70) 4) false [(12, .any)] (cmp_Compare_uint64_S3 v) some = (cmp_Compare_uint64_r4 C v).eval fun y => some (cmp_Compare_uint64_S4 y) := by kernel_rfl
abbrev cmp_Compare_uint64_Y5 : Type := Int
def cmp_Compare_uint64_S5 (v : cmp_Compare_uint64_Y5) : St := ⟨[(4, .int .i64 v)], []⟩
def cmp_Compare_uint64_r5 (C : cmp_Compare_uint64_C) (v : cmp_Compare_uint64_Y4) : Dt cmp_Compare_uint64_Y5 := (Dt.ret (0:Int))
theorem cmp_Compare_uint64_g5 (C : cmp_Compare_uint64_C) (v : cmp_Compare_uint64_Y4) : treg tysT (orc (cmp_Compare_uint64_tab C)) 20 (regO (bodyOf f70) 5) false [(4, .any)] (cmp_Compare_uint64_S4 v) some = (cmp_Compare_uint64_r5 C v).eval fun y => some (cmp_Compare_uint64_S5 y) := by kernel_rfl
def cmp_Compare_uint64_r6 (C : cmp_Compare_uint64_C) (v : cmp_Compare_uint64_Y4) : Dt cmp_Compare_uint64_Y5 := (Dt.ret (-1:Int))
theorem cmp_Compare_uint64_g6 (C : cmp_Compare_uint64_C) (v : cmp_Compare_uint64_Y4) : treg tysT (orc (cmp_Compare_uint64_tab C)) 20 (regO (bodyOf f70) 6) false [(4, .any)] (cmp_Compare_uint64_S4 v) some = (cmp_Compare_uint64_r6 C v).eval fun y => some (cmp_Compare_uint64_S5 y) := by kernel_rfl
abbrev cmp_Compare_uint64_Y7 : Type := Int × Int × Bool
def cmp_Compare_uint64_S7 (v : cmp_Compare_uint64_Y7) : St := ⟨[(0, .int .u64 v.1), (1, .int .u64 v.2.1), (13, .bool v.2.2)], []⟩
def cmp_Compare_uint64_r7 (C : cmp_Compare_uint64_C) (v : cmp_Compare_uint64_Y3) : Dt cmp_Compare_uint64_Y7 := (Dt.ret (v.1, v.2.1, v.2.2.1))
theorem cmp_Compare_uint64_g7 (C : cmp_Compare_uint64_C) (v : cmp_Compare_uint64_Y3) : treg tysT (orc (cmp_Compare_uint64_tab C)) 20 (regO (bodyOf f70) 7) false [(0, .any), (1, .any), (13, .any)] (cmp_Compare_uint64_S3 v) some = (cmp_Compare_uint64_r7 C v).eval fun y => some (cmp_Compare_uint64_S7 y) := by kernel_rfl
def cmp_Compare_uint64_r8 (C : cmp_Compare_uint64_C) (v : cmp_Compare_uint64_Y7) : Dt cmp_Compare_uint64_Y5 := (Dt.ret (1:Int))
theorem cmp_Compare_uint64_g8 (C : cmp_Compare_uint64_C) (v : cmp_Compare_uint64_Y7) : treg tysT (orc (cmp_Compare_uint64_tab C)) 20 (regO (bodyOf f70) 8) false [(4, .any)] (cmp_Compare_uint64_S7 v) some = (cmp_Compare_uint64_r8 C v).eval fun y => some (cmp_Compare_uint64_S5 y) := by kernel_rfl
abbrev cmp_Compare_uint64_Y9 : Type := Int × Int × Bool
def cmp_Compare_uint64_S9 (v : cmp_Compare_uint64_Y9) : St := ⟨[(0, .int .u64 v.1), (1, .int .u64 v.2.1), (16, .bool v.2.2)], []⟩
def cmp_Compare_uint64_r9 (C : cmp_Compare_uint64_C) (v : cmp_Compare_uint64_Y7) : Dt cmp_Compare_uint64_Y9 := (Dt.ret (v.1, v.2.1, (decide (v.1 < v.2.1))))
theorem cmp_Compare_uint64_g9 (C : cmp_Compare_uint64_C) (v : cmp_Compare_uint64_Y7) : treg tysT (orc (cmp_Compare_uint64_tab C)) 20 (regO (bodyOf f70) 9) false [(0, .any), (1, .any), (16, .any)] (cmp_Compare_uint64_S7 v) some = (cmp_Compare_uint64_r9 C v).eval fun y => some (cmp_Compare_uint64_S9 y) := by kernel_rfl
def cmp_Compare_uint64_r10 (C : cmp_Compare_uint64_C) (v : cmp_Compare_uint64_Y9) : Dt cmp_Compare_uint64_Y5 := (Dt.ret (-1:Int))
theorem cmp_Compare_uint64_g10 (C : cmp_Compare_uint64_C) (v : cmp_Compare_uint64_Y9) : treg tysT (orc (cmp_Compare_uint64_tab C)) 20 (regO (bodyOf f70) 10) false [(4, .any)] (cmp_Compare_uint64_S9 v) some = (cmp_Compare_uint64_r10 C v).eval fun y => some (cmp_Compare_uint64_S5 y) := by kernel_rfl
abbrev cmp_Compare_uint64_Y11 : Type := Bool
def cmp_Compare_uint64_S11 (v : cmp_Compare_uint64_Y11) : St := ⟨[(19, .bool v)], []⟩
def cmp_Compare_uint64_r11 (C : cmp_Compare_uint64_C) (v : cmp_Compare_uint64_Y9) : Dt cmp_Compare_uint64_Y11 := (Dt.ret (decide (v.1 > v.2.1)))
theorem cmp_Compare_uint64_g11 (C : cmp_Compare_uint64_C) (v : cmp_Compare_uint64_Y9) : treg tysT (orc (cmp_Compare_uint64_tab C)) 20 (regO (bodyOf f70) 11) false [(19, .any)] (cmp_Compare_uint64_S9 v) some = (cmp_Compare_uint64_r11 C v).eval fun y => some (cmp_Compare_uint64_S11 y) := by kernel_rfl
def cmp_Compare_uint64_r12 (C : cmp_Compare_uint64_C) (v : cmp_Compare_uint64_Y11) : Dt cmp_Compare_uint64_Y5 := (Dt.ret (1:Int))
theorem cmp_Compare_uint64_g12 (C : cmp_Compare_uint64_C) (v : cmp_Compare_uint64_Y11) : treg tysT (orc (cmp_Compare_uint64_tab C)) 20 (regO (bodyOf f70) 12) false [(4, .any)] (cmp_Compare_uint64_S11 v) some = (cmp_Compare_uint64_r12 C v).eval fun y => some (cmp_Compare_uint64_S5 y) := by kernel_rfl
def cmp_Compare_uint64_r13 (C : cmp_Compare_uint64_C) (v : cmp_Compare_uint64_Y11) : Dt cmp_Compare_uint64_Y5 := (Dt.ret (0:Int))
theorem cmp_Compare_uint64_g13 (C : cmp_Compare_uint64_C) (v : cmp_Compare_uint64_Y11) : treg tysT (orc (cmp_Compare_uint64_tab C)) 20 (regO (bodyOf f70) 13) false [(4, .any)] (cmp_Compare_uint64_S11 v) some = (cmp_Compare_uint64_r13 C v).eval fun y => some (cmp_Compare_uint64_S5 y) := by kernel_rfl
def F_cmp_Compare_uint64 (d : Nat) (x : cmp_Compare_uint64_X) : Option cmp_Compare_uint64_R :=
  (cmp_Compare_uint64_r0 (cmp_Compare_uint64_K d) (x.1.1, x.2.1.1)).eval fun y0 =>
  (cmp_Compare_uint64_r1 (cmp_Compare_uint64_K d) y0).eval fun y1 =>
  (cmp_Compare_uint64_r2 (cmp_Compare_uint64_K d) y1).eval fun y2 =>
  (cmp_Compare_uint64_r3 (cmp_Compare_uint64_K d) y2).eval fun y3 =>
  bif y3.2.2.2 then ((cmp_Compare_uint64_r4 (cmp_Compare_uint64_K d) y3).eval fun y4 =>
  bif y4 then ((cmp_Compare_uint64_r5 (cmp_Compare_uint64_K d) y4).eval fun y5 =>
  some y5) else ((cmp_Compare_uint64_r6 (cmp_Compare_uint64_K d) y4).eval fun y6 =>
  some y6)) else ((cmp_Compare_uint64_r7 (cmp_Compare_uint64_K d) y3).eval fun y7 =>
  bif y7.2.2 then ((cmp_Compare_uint64_r8 (cmp_Compare_uint64_K d) y7).eval fun y8 =>
  some y8) else ((cmp_Compare_uint64_r9 (cmp_Compare_uint64_K d) y7).eval fun y9 =>
  bif y9.2.2 then ((cmp_Compare_uint64_r10 (cmp_Compare_uint64_K d) y9).eval fun y10 =>
  some y10) else ((cmp_Compare_uint64_r11 (cmp_Compare_uint64_K d) y9).eval fun y11 =>
  bif y11 then ((cmp_Compare_uint64_r12 (cmp_Compare_uint64_K d) y11).eval fun y12 =>
  some y12) else ((cmp_Compare_uint64_r13 (cmp_Compare_uint64_K d) y11).eval fun y13 =>
  some y13))))
theorem cmp_Compare_uint64_cok (d : Nat) : COK prog (cmp_Compare_uint64_sp (F_cmp_Compare_uint64 d)) := by
  have hm : prog.follows .mixedOrders = true := mixed
  have hT := tys
  have hC0 : OrcOK prog (orc (cmp_Compare_uint64_tab (cmp_Compare_uint64_K d))) := orc_ok (by
    intro S hS
    simp only [cmp_Compare_uint64_tab, List.mem_cons, List.not_mem_nil, or_false] at hS
    subst hS; exact cmp_isNaN_uint64_cok d)
  have hC : OrcOK prog (orc (cmp_Compare_uint64_tab (cmp_Compare_uint64_K d))) := hC0
  refine cok_of (c := bodyOf f70) (fn := f70) hT (by kernel_rfl) (by kernel_rfl) (by decide) fun x r h w0 φ0 Q hend => ?_
  replace h : F_cmp_Compare_uint64 d x = some r := h
  unfold F_cmp_Compare_uint64 at h
  show Run prog w0 φ0 20 (bodyOf f70) ⟨[(0, .int .u64 x.1.1), (1, .int .u64 x.2.1.1)], []⟩ Q
  refine run_seq ?_
  refine run_reg hm hT hC (cmp_Compare_uint64_g0 (cmp_Compare_uint64_K d) (x.1.1, x.2.1.1)) h ?_
  intro y0 h
  refine cn_then ?_
  refine run_seq ?_
  refine run_reg hm hT hC (cmp_Compare_uint64_g1 (cmp_Compare_uint64_K d) y0) h ?_
  intro y1 h
  refine cn_then ?_
  refine run_seq ?_
  refine run_reg hm hT hC (cmp_Compare_uint64_g2 (cmp_Compare_uint64_K d) y1) h ?_
  intro y2 h
  refine cn_then ?_
  refine run_seq ?_
  refine run_seq ?_
  refine run_reg hm hT hC (cmp_Compare_uint64_g3 (cmp_Compare_uint64_K d) y2) h ?_
  intro y3 h
  refine cn_then ?_
  refine run_cond (v := y3.2.2.2) (by kernel_rfl) h ?_ ?_
  ·
    intro h
    refine run_seq ?_
    refine run_seq ?_
    refine run_reg hm hT hC (cmp_Compare_uint64_g4 (cmp_Compare_uint64_K d) y3) h ?_
    intro y4 h
    refine cn_then ?_
    refine run_cond (v := y4) (by kernel_rfl) h ?_ ?_
    ·
      intro h
      refine run_seq ?_
      refine run_reg hm hT hC (cmp_Compare_uint64_g5 (cmp_Compare_uint64_K d) y4) h ?_
      intro y5 h
      refine cn_then ?_
      refine run_ret ?_
      refine cn_then_ret ?_
      refine cn_then_ret ?_
      cases h
      exact (hend _ (by kernel_rfl)).2
    ·
      intro h
      refine run_skip ?_
      refine cn_then ?_
      refine run_seq ?_
      refine run_reg hm hT hC (cmp_Compare_uint64_g6 (cmp_Compare_uint64_K d) y4) h ?_
      intro y6 h
      refine cn_then ?_
      refine run_ret ?_
      refine cn_then_ret ?_
      cases h
      exact (hend _ (by kernel_rfl)).2
  ·
    intro h
    refine run_skip ?_
    refine cn_then ?_
    refine run_seq ?_
    refine run_seq ?_
    refine run_reg hm hT hC (cmp_Compare_uint64_g7 (cmp_Compare_uint64_K d) y3) h ?_
    intro y7 h
    refine cn_then ?_
    refine run_cond (v := y7.2.2) (by kernel_rfl) h ?_ ?_
    ·
      intro h
      refine run_seq ?_
      refine run_reg hm hT hC (cmp_Compare_uint64_g8 (cmp_Compare_uint64_K d) y7) h ?_
      intro y8 h
      refine cn_then ?_
      refine run_ret ?_
      refine cn_then_ret ?_
      cases h
      exact (hend _ (by kernel_rfl)).2
    ·
      intro h
      refine run_skip ?_
      refine cn_then ?_
      refine run_seq ?_
      refine run_seq ?_
      refine run_reg hm hT hC (cmp_Compare_uint64_g9 (cmp_Compare_uint64_K d) y7) h ?_
      intro y9 h
      refine cn_then ?_
      refine run_cond (v := y9.2.2) (by kernel_rfl) h ?_ ?_
      ·
        intro h
        refine run_seq ?_
        refine run_reg hm hT hC (cmp_Compare_uint64_g10 (cmp_Compare_uint64_K d) y9) h ?_
        intro y10 h
        refine cn_then ?_
        refine run_ret ?_
        refine cn_then_ret ?_
        cases h
        exact (hend _ (by kernel_rfl)).2
      ·
        intro h
        refine run_skip ?_
        refine cn_then ?_
        refine run_seq ?_
        refine run_seq ?_
        refine run_reg hm hT hC (cmp_Compare_uint64_g11 (cmp_Compare_uint64_K d) y9) h ?_
        intro y11 h
        refine cn_then ?_
        refine run_cond (v := y11) (by kernel_rfl) h ?_ ?_
        ·
          intro h
          refine run_seq ?_
          refine run_reg hm hT hC (cmp_Compare_uint64_g12 (cmp_Compare_uint64_K d) y11) h ?_
          intro y12 h
          refine cn_then ?_
          refine run_ret ?_
          refine cn_then_ret ?_
          cases h
          exact (hend _ (by kernel_rfl)).2
        ·
          intro h
          refine run_skip ?_
          refine cn_then ?_
          refine run_seq ?_
          refine run_reg hm hT hC (cmp_Compare_uint64_g13 (cmp_Compare_uint64_K d) y11) h ?_
          intro y13 h
          refine cn_then ?_
          refine run_ret ?_
          cases h
          exact (hend _ (by kernel_rfl)).2
abbrev ratio_compare_ps : List Pk := [.row Rbuu true, .row Rbuu true]
abbrev ratio_compare_X : Type := Dbuu × Dbuu × Unit
abbrev ratio_compare_R : Type := Int
def ratio_compare_enc (r : ratio_compare_R) : LV × List Ob := (.int .i64 r, [])
def ratio_compare_sp (F : ratio_compare_X → Option ratio_compare_R) : Go.Tx.Spec := ⟨55, ratio_compare_ps, ratio_compare_R, F, ratio_compare_enc⟩
abbrev ratio_compare_C : Type := (cmp_Compare_uint64_X → Option cmp_Compare_uint64_R) × Unit
def ratio_compare_K (d : Nat) : ratio_compare_C := (F_cmp_Compare_uint64 d, ())
def ratio_compare_tab (C : ratio_compare_C) : List Go.Tx.Spec := [cmp_Compare_uint64_sp C.1]
abbrev ratio_compare_Y0i : Type := Bool × Int × Int × Bool × Int × Int
def ratio_compare_S0i (v : ratio_compare_Y0i) : St := ⟨[(0, .agg [.bool v.1, .int .u64 v.2.1, .int .u64 v.2.2.1]), (1, .agg [.bool v.2.2.2.1, .int .u64 v.2.2.2.2.1, .int .u64 v.2.2.2.2.2])], []⟩
abbrev ratio_compare_Y0 : Type := Bool × Int × Int × Bool × Int × Int
def ratio_compare_S0 (v : ratio_compare_Y0) : St := ⟨[(2, .ptr 0 0), (3, .ptr 1 0)], [.cells [.bool v.1, .int .u64 v.2.1, .int .u64 v.2.2.1], .cells [.bool v.2.2.2.1, .int .u64 v.2.2.2.2.1, .int .u64 v.2.2.2.2.2]]⟩
def ratio_compare_r0 (C : ratio_compare_C) (v : ratio_compare_Y0i) : Dt ratio_compare_Y0 := (Dt.ret (v.1, v.2.1, v.2.2.1, v.2.2.2.1, v.2.2.2.2.1, v.2.2.2.2.2))
theorem ratio_compare_g0 (C : ratio_compare_C) (v : ratio_compare_Y0i) : treg tysT (orc (ratio_compare_tab C)) 19 (regO (bodyOf f55) 0) false [(2, .any), (3, .any)] (ratio_compare_S0i v) some = (ratio_compare_r0 C v).eval fun y => some (ratio_compare_S0 y) := by kernel_rfl
abbrev ratio_compare_Y1 : Type := Int × Bool × Int × Int × Bool × Int × Int
def ratio_compare_S1 (v : ratio_compare_Y1) : St := ⟨[(2, .ptr 0 0), (3, .ptr 1 0), (5, .int .i64 v.1)], [.cells [.bool v.2.1, .int .u64 v.2.2.1, .int .u64 v.2.2.2.1], .cells [.bool v.2.2.2.2.1, .int .u64 v.2.2.2.2.2.1, .int .u64 v.2.2.2.2.2.2]]⟩
def ratio_compare_r1 (C : ratio_compare_C) (v : ratio_compare_Y0) : Dt ratio_compare_Y1 := (Dt.bnd (C.1 ((v.2.1, ()), (v.2.2.2.2.1, ()), ())) fun r1 => (Dt.ret (r1, v.1, v.2.1, v.2.2.1, v.2.2.2.1, v.2.2.2.2.1, v.2.2.2.2.2)))
theorem ratio_compare_g1 (C : ratio_compare_C) (v : ratio_compare_Y0) : treg tysT (orc (ratio_compare_tab C)) 19 (regO (bodyOf f55) 1) false [(2, .any), (3, .any), (5, .any)] (ratio_compare_S0 v) some = (ratio_compare_r1 C v).eval fun y => some (ratio_compare_S1 y) := by kernel_rfl
abbrev ratio_compare_Y2 : Type := Int × Bool × Bool × Int × Int × Bool × Int × Int
def ratio_compare_S2 (v : ratio_compare_Y2) : St := ⟨[(2, .ptr 0 0), (3, .ptr 1 0), (5, .int .i64 v.1), (12, .bool v.2.1)], [.cells [.bool v.2.2.1, .int .u64 v.2.2.2.1, .int .u64 v.2.2.2.2.1], .cells [.bool v.2.2.2.2.2.1, .int .u64 v.2.2.2.2.2.2.1, .int .u64 v.2.2.2.2.2.2.2]]⟩
def ratio_compare_r2 (C : ratio_compare_C) (v : ratio_compare_Y1) : Dt ratio_compare_Y2 := (Dt.ret (v.1, (v.1 != (0:Int)), v.2.1, v.2.2.1, v.2.2.2.1, v.2.2.2.2.1, v.2.2.2.2.2.1, v.2.2.2.2.2.2))
theorem ratio_compare_g2 (C : ratio_compare_C) (v : ratio_compare_Y1) : treg tysT (orc (ratio_compare_tab C)) 19 (regO (bodyOf f55) 2) false [(2, .any), (3, .any), (5, .any), (12, .any)] (ratio_compare_S1 v) some = (ratio_compare_r2 C v).eval fun y => some (ratio_compare_S2 y) := by kernel_rfl
abbrev ratio_compare_Y3 : Type := Int
def ratio_compare_S3 (v : ratio_compare_Y3) : St := ⟨[(4, .int .i64 v)], []⟩
def ratio_compare_r3 (C : ratio_compare_C) (v : ratio_compare_Y2) : Dt ratio_compare_Y3 := (Dt.ret v.1)
theorem ratio_compare_g3 (C : ratio_compare_C) (v : ratio_compare_Y2) : treg tysT (orc (ratio_compare_tab C)) 19 (regO (bodyOf f55) 3) false [(4, .any)] (ratio_compare_S2 v) some = (ratio_compare_r3 C v).eval fun y => some (ratio_compare_S3 y) := by kernel_rfl
def ratio_compare_r4 (C : ratio_compare_C) (v : ratio_compare_Y2) : Dt ratio_compare_Y3 := (Dt.bnd (C.1 ((v.2.2.2.2.1, ()), (v.2.2.2.2.2.2.2, ()), ())) fun r1 => (Dt.ret r1))
theorem ratio_compare_g4 (C : ratio_compare_C) (v : ratio_compare_Y2) : treg tysT (orc (ratio_compare_tab C)) 19 (regO (bodyOf f55) 4) false [(4, .any)] (ratio_compare_S2 v) some = (ratio_compare_r4 C v).eval fun y => some (ratio_compare_S3 y) := by kernel_rfl
def F_ratio_compare (d : Nat) (x : ratio_compare_X) : Option ratio_compare_R :=
  (ratio_compare_r0 (ratio_compare_K d) (x.1.1, x.1.2.1, x.1.2.2.1, x.2.1.1, x.2.1.2.1, x.2.1.2.2.1)).eval fun y0 =>
  (ratio_compare_r1 (ratio_compare_K d) y0).eval fun y1 =>
  (ratio_compare_r2 (ratio_compare_K d) y1).eval fun y2 =>
  bif y2.2.1 then ((ratio_compare_r3 (ratio_compare_K d) y2).eval fun y3 =>
  some y3) else ((ratio_compare_r4 (ratio_compare_K d) y2).eval fun y4 =>
  some y4)
theorem ratio_compare_cok (d : Nat) : COK prog (ratio_compare_sp (F_ratio_compare d)) := by
  have hm : prog.follows .mixedOrders = true := mixed
  have hT := tys
  have hC0 : OrcOK prog (orc (ratio_compare_tab (ratio_compare_K d))) := orc_ok (by
    intro S hS
    simp only [ratio_compare_tab, List.mem_cons, List.not_mem_nil, or_false] at hS
    subst hS; exact cmp_Compare_uint64_cok d)
  have hC : OrcOK prog (orc (ratio_compare_tab (ratio_compare_K d))) := hC0
  refine cok_of (c := bodyOf f55) (fn := f55) hT (by kernel_rfl) (by kernel_rfl) (by decide) fun x r h w0 φ0 Q hend => ?_
  replace h : F_ratio_compare d x = some r := h
  unfold F_ratio_compare at h
  show Run prog w0 φ0 19 (bodyOf f55) ⟨[(0, .agg [.bool x.1.1, .int .u64 x.1.2.1, .int .u64 x.1.2.2.1]), (1, .agg [.bool x.2.1.1, .int .u64 x.2.1.2.1, .int .u64 x.2.1.2.2.1])], []⟩ Q
  refine run_seq ?_
  refine run_reg hm hT hC (ratio_compare_g0 (ratio_compare_K d) (x.1.1, x.1.2.1, x.1.2.2.1, x.2.1.1, x.2.1.2.1, x.2.1.2.2.1)) h ?_
  intro y0 h
  refine cn_then ?_
  refine run_seq ?_
  refine run_seq ?_
  refine run_reg hm hT hC (ratio_compare_g1 (ratio_compare_K d) y0) h ?_
  intro y1 h
  refine cn_then ?_
  refine run_seq ?_
  refine run_reg hm hT hC (ratio_compare_g2 (ratio_compare_K d) y1) h ?_
  intro y2 h
  refine cn_then ?_
  refine run_cond (v := y2.2.1) (by kernel_rfl) h ?_ ?_
  ·
    intro h
    refine run_seq ?_
    refine run_reg hm hT hC (ratio_compare_g3 (ratio_compare_K d) y2) h ?_
    intro y3 h
    refine cn_then ?_
    refine run_ret ?_
    refine cn_then_ret ?_
    cases h
    exact (hend _ (by kernel_rfl)).2
  ·
    intro h
    refine run_skip ?_
    refine cn_then ?_
    refine run_seq ?_
    refine run_reg hm hT hC (ratio_compare_g4 (ratio_compare_K d) y2) h ?_
    intro y4 h
    refine cn_then ?_
    refine run_ret ?_
    cases h
    exact (hend _ (by kernel_rfl)).2
abbrev ratio_plus_ps : List Pk := [.row Rbuu true, .row Rbuu true]
abbrev ratio_plus_X : Type := Dbuu × Dbuu × Unit
abbrev ratio_plus_R : Type := Bool × Int × Int
def ratio_plus_enc (r : ratio_plus_R) : LV × List Ob := (.agg [.bool r.1, .int .u64 r.2.1, .int .u64 r.2.2], [])
def ratio_plus_sp (F : ratio_plus_X → Option ratio_plus_R) : Go.Tx.Spec := ⟨41, ratio_plus_ps, ratio_plus_R, F, ratio_plus_enc⟩
abbrev ratio_plus_C : Type := (ratio_compare_X → Option ratio_compare_R) × Unit
def ratio_plus_K (d : Nat) : ratio_plus_C := (F_ratio_compare d, ())
def ratio_plus_tab (C : ratio_plus_C) : List Go.Tx.Spec := [ratio_compare_sp C.1]
abbrev ratio_plus_Y0i : Type := Bool × Int × Int × Bool × Int × Int
def ratio_plus_S0i (v : ratio_plus_Y0i) : St := ⟨[(0, .agg [.bool v.1, .int .u64 v.2.1, .int .u64 v.2.2.1]), (1, .agg [.bool v.2.2.2.1, .int .u64 v.2.2.2.2.1, .int .u64 v.2.2.2.2.2])], []⟩
abbrev ratio_plus_Y0 : Type := Bool × Int × Int × Bool × Int × Int × Bool × Int × Int
def ratio_plus_S0 (v : ratio_plus_Y0) : St := ⟨[(2, .ptr 0 0), (3, .ptr 1 0), (4, .ptr 2 0)], [.cells [.bool v.1, .int .u64 v.2.1, .int .u64 v.2.2.1], .cells [.bool v.2.2.2.1, .int .u64 v.2.2.2.2.1, .int .u64 v.2.2.2.2.2.1], .cells [.bool v.2.2.2.2.2.2.1, .int .u64 v.2.2.2.2.2.2.2.1, .int .u64 v.2.2.2.2.2.2.2.2]]⟩
def ratio_plus_r0 (C : ratio_plus_C) (v : ratio_plus_Y0i) : Dt ratio_plus_Y0 := (Dt.ret (v.1, v.2.1, v.2.2.1, v.2.2.2.1, v.2.2.2.2.1, v.2.2.2.2.2, false, (0:Int), (0:Int)))
theorem ratio_plus_g0 (C : ratio_plus_C) (v : ratio_plus_Y0i) : treg tysT (orcI 39 add64V (orcI 27 sub64V (orc (ratio_plus_tab C)))) 68 (regO (bodyOf f41) 0) false [(2, .any), (3, .any), (4, .any)] (ratio_plus_S0i v) some = (ratio_plus_r0 C v).eval fun y => some (ratio_plus_S0 y) := by kernel_rfl
abbrev ratio_plus_Y1 : Type := Bool × Bool × Int × Int × Bool × Int × Int × Bool × Int × Int
def ratio_plus_S1 (v : ratio_plus_Y1) : St := ⟨[(2, .ptr 0 0), (3, .ptr 1 0), (4, .ptr 2 0), (17, .bool v.1)], [.cells [.bool v.2.1, .int .u64 v.2.2.1, .int .u64 v.2.2.2.1], .cells [.bool v.2.2.2.2.1, .int .u64 v.2.2.2.2.2.1, .int .u64 v.2.2.2.2.2.2.1], .cells [.bool v.2.2.2.2.2.2.2.1, .int .u64 v.2.2.2.2.2.2.2.2.1, .int .u64 v.2.2.2.2.2.2.2.2.2]]⟩
def ratio_plus_r1 (C : ratio_plus_C) (v : ratio_plus_Y0) : Dt ratio_plus_Y1 := (Dt.ret ((v.1 == v.2.2.2.1), v.1, v.2.1, v.2.2.1, v.2.2.2.1, v.2.2.2.2.1, v.2.2.2.2.2.1, v.2.2.2.2.2.2.1, v.2.2.2.2.2.2.2.1, v.2.2.2.2.2.2.2.2))
theorem ratio_plus_g1 (C : ratio_plus_C) (v : ratio_plus_Y0) : treg tysT (orcI 39 add64V (orcI 27 sub64V (orc (ratio_plus_tab C)))) 68 (regO (bodyOf f41) 1) false [(2, .any), (3, .any), (4, .any), (17, .any)] (ratio_plus_S0 v) some = (ratio_plus_r1 C v).eval fun y => some (ratio_plus_S1 y) := by kernel_rfl
abbrev ratio_plus_Y2 : Type := Int × Int × Bool × Int × Int × Bool × Int × Int × Bool × Int × Int
def ratio_plus_S2 (v : ratio_plus_Y2) : St := ⟨[(2, .ptr 0 0), (3, .ptr 1 0), (4, .ptr 2 0), (5, .int .u64 v.1), (6, .int .u64 v.2.1)], [.cells [.bool v.2.2.1, .int .u64 v.2.2.2.1, .int .u64 v.2.2.2.2.1], .cells [.bool v.2.2.2.2.2.1, .int .u64 v.2.2.2.2.2.2.1, .int .u64 v.2.2.2.2.2.2.2.1], .cells [.bool v.2.2.2.2.2.2.2.2.1, .int .u64 v.2.2.2.2.2.2.2.2.2.1, .int .u64 v.2.2.2.2.2.2.2.2.2.2]]⟩
def ratio_plus_r2 (C : ratio_plus_C) (v : ratio_plus_Y1) : Dt ratio_plus_Y2 := (Dt.bnd (add64V (v.2.2.2.1) (v.2.2.2.2.2.2.1) ((0:Int))) fun r1 => (Dt.ret (r1.1, r1.2, v.2.1, v.2.2.1, v.2.2.2.1, v.2.2.2.2.1, v.2.2.2.2.2.1, v.2.2.2.2.2.2.1, v.2.2.2.2.2.2.2.1, v.2.2.2.2.2.2.2.2.1, v.2.2.2.2.2.2.2.2.2)))
theorem ratio_plus_g2 (C : ratio_plus_C) (v : ratio_plus_Y1) : treg tysT (orcI 39 add64V (orcI 27 sub64V (orc (ratio_plus_tab C)))) 68 (regO (bodyOf f41) 2) false [(2, .any), (3, .any), (4, .any), (5, .any), (6, .any)] (ratio_plus_S1 v) some = (ratio_plus_r2 C v).eval fun y => some (ratio_plus_S2 y) := by kernel_rfl
abbrev ratio_plus_Y3 : Type := Int × Int × Bool × Int × Int × Bool × Int × Int
def ratio_plus_S3 (v : ratio_plus_Y3) : St := ⟨[(2, .ptr 0 0), (4, .ptr 1 0), (5, .int .u64 v.1), (7, .int .u64 v.2.1)], [.cells [.bool v.2.2.1, .int .u64 v.2.2.2.1, .int .u64 v.2.2.2.2.1], .cells [.bool v.2.2.2.2.2.1, .int .u64 v.2.2.2.2.2.2.1, .int .u64 v.2.2.2.2.2.2.2]]⟩
def ratio_plus_r3 (C : ratio_plus_C) (v : ratio_plus_Y2) : Dt ratio_plus_Y3 := (Dt.bnd (add64V (v.2.2.2.1) (v.2.2.2.2.2.2.1) (v.2.1)) fun r1 => (Dt.ret (v.1, r1.1, v.2.2.1, v.2.2.2.1, v.2.2.2.2.1, v.2.2.2.2.2.2.2.2.1, v.2.2.2.2.2.2.2.2.2.1, v.2.2.2.2.2.2.2.2.2.2)))
theorem ratio_plus_g3 (C : ratio_plus_C) (v : ratio_plus_Y2) : treg tysT (orcI 39 add64V (orcI 27 sub64V (orc (ratio_plus_tab C)))) 68 (regO (bodyOf f41) 3) false [(2, .any), (4, .any), (5, .any), (7, .any)] (ratio_plus_S2 v) some = (ratio_plus_r3 C v).eval fun y => some (ratio_plus_S3 y) := by kernel_rfl
abbrev ratio_plus_Y4 : Type := Bool × Int × Int
def ratio_plus_S4 (v : ratio_plus_Y4) : St := ⟨[(4, .ptr 0 0)], [.cells [.bool v.1, .int .u64 v.2.1, .int .u64 v.2.2]]⟩
def ratio_plus_r4 (C : ratio_plus_C) (v : ratio_plus_Y3) : Dt ratio_plus_Y4 := (Dt.ret (v.2.2.1, v.2.1, v.1))
theorem ratio_plus_g4 (C : ratio_plus_C) (v : ratio_plus_Y3) : treg tysT (orcI 39 add64V (orcI 27 sub64V (orc (ratio_plus_tab C)))) 68 (regO (bodyOf f41) 4) false [(4, .any)] (ratio_plus_S3 v) some = (ratio_plus_r4 C v).eval fun y => some (ratio_plus_S4 y) := by kernel_rfl
abbrev ratio_plus_Y5 : Type := Bool × Bool × Int × Int × Bool × Int × Int × Bool × Int × Int
def ratio_plus_S5 (v : ratio_plus_Y5) : St := ⟨[(2, .ptr 0 0), (3, .ptr 1 0), (4, .ptr 2 0), (43, .bool v.1)], [.cells [.bool v.2.1, .int .u64 v.2.2.1, .int .u64 v.2.2.2.1], .cells [.bool v.2.2.2.2.1, .int .u64 v.2.2.2.2.2.1, .int .u64 v.2.2.2.2.2.2.1], .cells [.bool v.2.2.2.2.2.2.2.1, .int .u64 v.2.2.2.2.2.2.2.2.1, .int .u64 v.2.2.2.2.2.2.2.2.2]]⟩
def ratio_plus_r5 (C : ratio_plus_C) (v : ratio_plus_Y1) : Dt ratio_plus_Y5 := (Dt.bnd (C.1 ((v.2.1, v.2.2.1, v.2.2.2.1, ()), (v.2.2.2.2.1, v.2.2.2.2.2.1, v.2.2.2.2.2.2.1, ()), ())) fun r1 => (Dt.ret ((decide (r1 < (0:Int))), v.2.1, v.2.2.1, v.2.2.2.1, v.2.2.2.2.1, v.2.2.2.2.2.1, v.2.2.2.2.2.2.1, v.2.2.2.2.2.2.2.1, v.2.2.2.2.2.2.2.2.1, v.2.2.2.2.2.2.2.2.2)))
theorem ratio_plus_g5 (C : ratio_plus_C) (v : ratio_plus_Y1) : treg tysT (orcI 39 add64V (orcI 27 sub64V (orc (ratio_plus_tab C)))) 68 (regO (bodyOf f41) 5) false [(2, .any), (3, .any), (4, .any), (43, .any)] (ratio_plus_S1 v) some = (ratio_plus_r5 C v).eval fun y => some (ratio_plus_S5 y) := by kernel_rfl
def ratio_plus_r6 (C : ratio_plus_C) (v : ratio_plus_Y5) : Dt ratio_plus_Y0 := (Dt.ret (v.2.2.2.2.1, v.2.2.2.2.2.1, v.2.2.2.2.2.2.1, v.2.1, v.2.2.1, v.2.2.2.1, v.2.2.2.2.2.2.2.1, v.2.2.2.2.2.2.2.2.1, v.2.2.2.2.2.2.2.2.2))
theorem ratio_plus_g6 (C : ratio_plus_C) (v : ratio_plus_Y5) : treg tysT (orcI 39 add64V (orcI 27 sub64V (orc (ratio_plus_tab C)))) 68 (regO (bodyOf f41) 6) false [(2, .any), (3, .any), (4, .any)] (ratio_plus_S5 v) some = (ratio_plus_r6 C v).eval fun y => some (ratio_plus_S0 y) := by kernel_rfl
abbrev ratio_plus_Y7 : Type := Int × Int × Bool × Int × Int × Bool × Int × Int × Bool × Int × Int
def ratio_plus_S7 (v : ratio_plus_Y7) : St := ⟨[(2, .ptr 0 0), (3, .ptr 1 0), (4, .ptr 2 0), (9, .int .u64 v.1), (10, .int .u64 v.2.1)], [.cells [.bool v.2.2.1, .int .u64 v.2.2.2.1, .int .u64 v.2.2.2.2.1], .cells [.bool v.2.2.2.2.2.1, .int .u64 v.2.2.2.2.2.2.1, .int .u64 v.2.2.2.2.2.2.2.1], .cells [.bool v.2.2.2.2.2.2.2.2.1, .int .u64 v.2.2.2.2.2.2.2.2.2.1, .int .u64 v.2.2.2.2.2.2.2.2.2.2]]⟩
def ratio_plus_r7 (C : ratio_plus_C) (v : ratio_plus_Y0) : Dt ratio_plus_Y7 := (Dt.bnd (sub64V (v.2.2.1) (v.2.2.2.2.2.1) ((0:Int))) fun r1 => (Dt.ret (r1.1, r1.2, v.1, v.2.1, v.2.2.1, v.2.2.2.1, v.2.2.2.2.1, v.2.2.2.2.2.1, v.2.2.2.2.2.2.1, v.2.2.2.2.2.2.2.1, v.2.2.2.2.2.2.2.2)))
theorem ratio_plus_g7 (C : ratio_plus_C) (v : ratio_plus_Y0) : treg tysT (orcI 39 add64V (orcI 27 sub64V (orc (ratio_plus_tab C)))) 68 (regO (bodyOf f41) 7) false [(2, .any), (3, .any), (4, .any), (9, .any), (10, .any)] (ratio_plus_S0 v) some = (ratio_plus_r7 C v).eval fun y => some (ratio_plus_S7 y) := by kernel_rfl
abbrev ratio_plus_Y8 : Type := Int × Int × Bool × Int × Int × Bool × Int × Int
def ratio_plus_S8 (v : ratio_plus_Y8) : St := ⟨[(2, .ptr 0 0), (4, .ptr 1 0), (9, .int .u64 v.1), (11, .int .u64 v.2.1)], [.cells [.bool v.2.2.1, .int .u64 v.2.2.2.1, .int .u64 v.2.2.2.2.1], .cells [.bool v.2.2.2.2.2.1, .int .u64 v.2.2.2.2.2.2.1, .int .u64 v.2.2.2.2.2.2.2]]⟩
def ratio_plus_r8 (C : ratio_plus_C) (v : ratio_plus_Y7) : Dt ratio_plus_Y8 := (Dt.bnd (sub64V (v.2.2.2.1) (v.2.2.2.2.2.2.1) (v.2.1)) fun r1 => (Dt.ret (v.1, r1.1, v.2.2.1, v.2.2.2.1, v.2.2.2.2.1, v.2.2.2.2.2.2.2.2.1, v.2.2.2.2.2.2.2.2.2.1, v.2.2.2.2.2.2.2.2.2.2)))
theorem ratio_plus_g8 (C : ratio_plus_C) (v : ratio_plus_Y7) : treg tysT (orcI 39 add64V (orcI 27 sub64V (orc (ratio_plus_tab C)))) 68 (regO (bodyOf f41) 8) false [(2, .any), (4, .any), (9, .any), (11, .any)] (ratio_plus_S7 v) some = (ratio_plus_r8 C v).eval fun y => some (ratio_plus_S8 y) := by kernel_rfl
def ratio_plus_r9 (C : ratio_plus_C) (v : ratio_plus_Y8) : Dt ratio_plus_Y4 := (Dt.ret (v.2.2.1, v.2.1, v.1))
theorem ratio_plus_g9 (C : ratio_plus_C) (v : ratio_plus_Y8) : treg tysT (orcI 39 add64V (orcI 27 sub64V (orc (ratio_plus_tab C)))) 68 (regO (bodyOf f41) 9) false [(4, .any)] (ratio_plus_S8 v) some = (ratio_plus_r9 C v).eval fun y => some (ratio_plus_S4 y) := by kernel_rfl
def ratio_plus_J1  (d : Nat)  (z : Bool × Int × Int × Bool × Int × Int × Bool × Int × Int) : Option (ratio_plus_R) :=
  (ratio_plus_r7 (ratio_plus_K d) z).eval fun y7 =>
  (ratio_plus_r8 (ratio_plus_K d) y7).eval fun y8 =>
  (ratio_plus_r9 (ratio_plus_K d) y8).eval fun y9 =>
  some y9
def F_ratio_plus (d : Nat) (x : ratio_plus_X) : Option ratio_plus_R :=
  (ratio_plus_r0 (ratio_plus_K d) (x.1.1, x.1.2.1, x.1.2.2.1, x.2.1.1, x.2.1.2.1, x.2.1.2.2.1)).eval fun y0 =>
  (ratio_plus_r1 (ratio_plus_K d) y0).eval fun y1 =>
  bif y1.1 then ((ratio_plus_r2 (ratio_plus_K d) y1).eval fun y2 =>
  (ratio_plus_r3 (ratio_plus_K d) y2).eval fun y3 =>
  (ratio_plus_r4 (ratio_plus_K d) y3).eval fun y4 =>
  some y4) else ((ratio_plus_r5 (ratio_plus_K d) y1).eval fun y5 =>
  bif y5.1 then ((ratio_plus_r6 (ratio_plus_K d) y5).eval fun y6 =>
  ratio_plus_J1 d  y6) else (ratio_plus_J1 d  y5.2))
theorem ratio_plus_cok (d : Nat) : COK prog (ratio_plus_sp (F_ratio_plus d)) := by
  have hm : prog.follows .mixedOrders = true := mixed
  have hT := tys
  have hC0 : OrcOK prog (orc (ratio_plus_tab (ratio_plus_K d))) := orc_ok (by
    intro S hS
    simp only [ratio_plus_tab, List.mem_cons, List.not_mem_nil, or_false] at hS
    subst hS; exact ratio_compare_cok d)
  have hC : OrcOK prog (orcI 39 add64V (orcI 27 sub64V (orc (ratio_plus_tab (ratio_plus_K d))))) := (orcI_ok add64_imm (orcI_ok sub64_imm hC0))
  refine cok_of (c := bodyOf f41) (fn := f41) hT (by kernel_rfl) (by kernel_rfl) (by decide) fun x r h w0 φ0 Q hend => ?_
  replace h : F_ratio_plus d x = some r := h
  unfold F_ratio_plus at h
  show Run prog w0 φ0 68 (bodyOf f41) ⟨[(0, .agg [.bool x.1.1, .int .u64 x.1.2.1, .int .u64 x.1.2.2.1]), (1, .agg [.bool x.2.1.1, .int .u64 x.2.1.2.1, .int .u64 x.2.1.2.2.1])], []⟩ Q
  refine run_seq ?_
  refine run_reg hm hT hC (ratio_plus_g0 (ratio_plus_K d) (x.1.1, x.1.2.1, x.1.2.2.1, x.2.1.1, x.2.1.2.1, x.2.1.2.2.1)) h ?_
  intro y0 h
  refine cn_then ?_
  refine run_seq ?_
  refine run_seq ?_
  refine run_reg hm hT hC (ratio_plus_g1 (ratio_plus_K d) y0) h ?_
  intro y1 h
  refine cn_then ?_
  refine run_cond (v := y1.1) (by kernel_rfl) h ?_ ?_
  ·
    intro h
    refine run_seq ?_
    refine run_reg hm hT hC (ratio_plus_g2 (ratio_plus_K d) y1) h ?_
    intro y2 h
    refine cn_then ?_
    refine run_seq ?_
    refine run_reg hm hT hC (ratio_plus_g3 (ratio_plus_K d) y2) h ?_
    intro y3 h
    refine cn_then ?_
    refine run_seq ?_
    refine run_reg hm hT hC (ratio_plus_g4 (ratio_plus_K d) y3) h ?_
    intro y4 h
    refine cn_then ?_
    refine run_ret ?_
    refine cn_then_ret ?_
    cases h
    exact (hend _ (by kernel_rfl)).2
  ·
    intro h
    refine run_skip ?_
    refine cn_then ?_
    refine run_join (r := r) (F := ratio_plus_J1 d ) (S := (fun z => ⟨[(2, .ptr 0 0), (3, .ptr 1 0), (4, .ptr 2 0)], [.cells [.bool z.1, .int .u64 z.2.1, .int .u64 z.2.2.1], .cells [.bool z.2.2.2.1, .int .u64 z.2.2.2.2.1, .int .u64 z.2.2.2.2.2.1], .cells [.bool z.2.2.2.2.2.2.1, .int .u64 z.2.2.2.2.2.2.2.1, .int .u64 z.2.2.2.2.2.2.2.2]]⟩ : Bool × Int × Int × Bool × Int × Int × Bool × Int × Int → St)) ?_ ?_
    ·
      intro z h
      unfold ratio_plus_J1 at h
      refine run_seq ?_
      refine run_reg hm hT hC (ratio_plus_g7 (ratio_plus_K d) z) h ?_
      intro y7 h
      refine cn_then ?_
      refine run_seq ?_
      refine run_reg hm hT hC (ratio_plus_g8 (ratio_plus_K d) y7) h ?_
      intro y8 h
      refine cn_then ?_
      refine run_seq ?_
      refine run_reg hm hT hC (ratio_plus_g9 (ratio_plus_K d) y8) h ?_
      intro y9 h
      refine cn_then ?_
      refine run_ret ?_
      cases h
      exact (hend _ (by kernel_rfl)).2
    intro hj1
    refine run_seq ?_
    refine run_reg hm hT hC (ratio_plus_g5 (ratio_plus_K d) y1) h ?_
    intro y5 h
    refine cn_then ?_
    refine run_cond (v := y5.1) (by kernel_rfl) h ?_ ?_
    ·
      intro h
      refine run_reg hm hT hC (ratio_plus_g6 (ratio_plus_K d) y5) h ?_
      intro y6 h
      exact hj1 _ h
    ·
      intro h
      refine run_skip ?_
      refine cn_num (s := ⟨[(2, .ptr 0 0), (3, .ptr 1 0), (4, .ptr 2 0)], [.cells [.bool y5.2.1, .int .u64 y5.2.2.1, .int .u64 y5.2.2.2.1], .cells [.bool y5.2.2.2.2.1, .int .u64 y5.2.2.2.2.2.1, .int .u64 y5.2.2.2.2.2.2.1], .cells [.bool y5.2.2.2.2.2.2.2.1, .int .u64 y5.2.2.2.2.2.2.2.2.1, .int .u64 y5.2.2.2.2.2.2.2.2.2]]⟩) [43] (by kernel_rfl) ?_
      exact hj1 _ h
abbrev math_bits_Len64_ps : List Pk := [.row Ru false]
abbrev math_bits_Len64_X : Type := Du × Unit
abbrev math_bits_Len64_R : Type := Int
def math_bits_Len64_enc (r : math_bits_Len64_R) : LV × List Ob := (.int .i64 r, [])
def math_bits_Len64_sp (F : math_bits_Len64_X → Option math_bits_Len64_R) : Go.Tx.Spec := ⟨54, math_bits_Len64_ps, math_bits_Len64_R, F, math_bits_Len64_enc⟩
abbrev math_bits_Len64_C : Type := Unit
def math_bits_Len64_K (_d : Nat) : math_bits_Len64_C := ()
def math_bits_Len64_tab (C : math_bits_Len64_C) : List Go.Tx.Spec := []
abbrev math_bits_Len64_Y0i : Type := Int
def math_bits_Len64_S0i (v : math_bits_Len64_Y0i) : St := ⟨[(0, .int .u64 v)], []⟩
abbrev math_bits_Len64_Y0 : Type := Int × Int
def math_bits_Len64_S0 (v : math_bits_Len64_Y0) : St := ⟨[(0, .int .u64 v.1), (2, .int .i64 v.2)], []⟩
def math_bits_Len64_r0 (C : math_bits_Len64_C) (v : math_bits_Len64_Y0i) : Dt math_bits_Len64_Y0 := (Dt.ret (v, (0:Int)))
theorem math_bits_Len64_g0 (C : math_bits_Len64_C) (v : math_bits_Len64_Y0i) : treg tysT (orc (math_bits_Len64_tab C)) 25 (regO (bodyOf f54) 0) false [(0, .any), (2, .any)] (math_bits_Len64_S0i v) some = (math_bits_Len64_r0 C v).eval fun y => some (math_bits_Len64_S0 y) := by kernel_rfl
abbrev math_bits_Len64_Y1 : Type := Int × Int × Bool
def math_bits_Len64_S1 (v : math_bits_Len64_Y1) : St := ⟨[(0, .int .u64 v.1), (2, .int .i64 v.2.1), (4, .bool v.2.2)], []⟩
def math_bits_Len64_r1 (C : math_bits_Len64_C) (v : math_bits_Len64_Y0) : Dt math_bits_Len64_Y1 := (Dt.ret (v.1, v.2, (decide (v.1 ≥ (4294967296:Int)))))
theorem math_bits_Len64_g1 (C : math_bits_Len64_C) (v : math_bits_Len64_Y0) : treg tysT (orc (math_bits_Len64_tab C)) 25 (regO (bodyOf f54) 1) false [(0, .any), (2, .any), (4, .any)] (math_bits_Len64_S0 v) some = (math_bits_Len64_r1 C v).eval fun y => some (math_bits_Len64_S1 y) := by kernel_rfl
def math_bits_Len64_r2 (C : math_bits_Len64_C) (v : math_bits_Len64_Y1) : Dt math_bits_Len64_Y0i := (Dt.ret (shrI .u64 v.1 (32:Int)))
theorem math_bits_Len64_g2 (C : math_bits_Len64_C) (v : math_bits_Len64_Y1) : treg tysT (orc (math_bits_Len64_tab C)) 25 (regO (bodyOf f54) 2) false [(0, .any)] (math_bits_Len64_S1 v) some = (math_bits_Len64_r2 C v).eval fun y => some (math_bits_Len64_S0i y) := by kernel_rfl
def math_bits_Len64_r3 (C : math_bits_Len64_C) (v : math_bits_Len64_Y0i) : Dt math_bits_Len64_Y0 := (Dt.ret (v, (32:Int)))
theorem math_bits_Len64_g3 (C : math_bits_Len64_C) (v : math_bits_Len64_Y0i) : treg tysT (orc (math_bits_Len64_tab C)) 25 (regO (bodyOf f54) 3) false [(0, .any), (2, .any)] (math_bits_Len64_S0i v) some = (math_bits_Len64_r3 C v).eval fun y => some (math_bits_Len64_S0 y) := by kernel_rfl
abbrev math_bits_Len64_Y4 : Type := Int × Int × Bool
def math_bits_Len64_S4 (v : math_bits_Len64_Y4) : St := ⟨[(0, .int .u64 v.1), (2, .int .i64 v.2.1), (8, .bool v.2.2)], []⟩
def math_bits_Len64_r4 (C : math_bits_Len64_C) (v : math_bits_Len64_Y0) : Dt math_bits_Len64_Y4 := (Dt.ret (v.1, v.2, (decide (v.1 ≥ (65536:Int)))))
theorem math_bits_Len64_g4 (C : math_bits_Len64_C) (v : math_bits_Len64_Y0) : treg tysT (orc (math_bits_Len64_tab C)) 25 (regO (bodyOf f54) 4) false [(0, .any), (2, .any), (8, .any)] (math_bits_Len64_S0 v) some = (math_bits_Len64_r4 C v).eval fun y => some (math_bits_Len64_S4 y) := by kernel_rfl
def math_bits_Len64_r5 (C : math_bits_Len64_C) (v : math_bits_Len64_Y4) : Dt math_bits_Len64_Y0 := (Dt.ret ((shrI .u64 v.1 (16:Int)), v.2.1))
theorem math_bits_Len64_g5 (C : math_bits_Len64_C) (v : math_bits_Len64_Y4) : treg tysT (orc (math_bits_Len64_tab C)) 25 (regO (bodyOf f54) 5) false [(0, .any), (2, .any)] (math_bits_Len64_S4 v) some = (math_bits_Len64_r5 C v).eval fun y => some (math_bits_Len64_S0 y) := by kernel_rfl
def math_bits_Len64_r6 (C : math_bits_Len64_C) (v : math_bits_Len64_Y0) : Dt math_bits_Len64_Y0 := (Dt.ret (v.1, (IntKind.wrap .i64 (v.2 + (16:Int)))))
theorem math_bits_Len64_g6 (C : math_bits_Len64_C) (v : math_bits_Len64_Y0) : treg tysT (orc (math_bits_Len64_tab C)) 25 (regO (bodyOf f54) 6) false [(0, .any), (2, .any)] (math_bits_Len64_S0 v) some = (math_bits_Len64_r6 C v).eval fun y => some (math_bits_Len64_S0 y) := by kernel_rfl
abbrev math_bits_Len64_Y7 : Type := Int × Int × Bool
def math_bits_Len64_S7 (v : math_bits_Len64_Y7) : St := ⟨[(0, .int .u64 v.1), (2, .int .i64 v.2.1), (14, .bool v.2.2)], []⟩
def math_bits_Len64_r7 (C : math_bits_Len64_C) (v : math_bits_Len64_Y0) : Dt math_bits_Len64_Y7 := (Dt.ret (v.1, v.2, (decide (v.1 ≥ (256:Int)))))
theorem math_bits_Len64_g7 (C : math_bits_Len64_C) (v : math_bits_Len64_Y0) : treg tysT (orc (math_bits_Len64_tab C)) 25 (regO (bodyOf f54) 7) false [(0, .any), (2, .any), (14, .any)] (math_bits_Len64_S0 v) some = (math_bits_Len64_r7 C v).eval fun y => some (math_bits_Len64_S7 y) := by kernel_rfl
def math_bits_Len64_r8 (C : math_bits_Len64_C) (v : math_bits_Len64_Y7) : Dt math_bits_Len64_Y0 := (Dt.ret ((shrI .u64 v.1 (8:Int)), v.2.1))
theorem math_bits_Len64_g8 (C : math_bits_Len64_C) (v : math_bits_Len64_Y7) : treg tysT (orc (math_bits_Len64_tab C)) 25 (regO (bodyOf f54) 8) false [(0, .any), (2, .any)] (math_bits_Len64_S7 v) some = (math_bits_Len64_r8 C v).eval fun y => some (math_bits_Len64_S0 y) := by kernel_rfl
def math_bits_Len64_r9 (C : math_bits_Len64_C) (v : math_bits_Len64_Y0) : Dt math_bits_Len64_Y0 := (Dt.ret (v.1, (IntKind.wrap .i64 (v.2 + (8:Int)))))
theorem math_bits_Len64_g9 (C : math_bits_Len64_C) (v : math_bits_Len64_Y0) : treg tysT (orc (math_bits_Len64_tab C)) 25 (regO (bodyOf f54) 9) false [(0, .any), (2, .any)] (math_bits_Len64_S0 v) some = (math_bits_Len64_r9 C v).eval fun y => some (math_bits_Len64_S0 y) := by kernel_rfl
abbrev math_bits_Len64_Y10 : Type := Int
def math_bits_Len64_S10 (v : math_bits_Len64_Y10) : St := ⟨[(2, .int .i64 v)], []⟩
def math_bits_Len64_r10 (C : math_bits_Len64_C) (v : math_bits_Len64_Y0) : Dt math_bits_Len64_Y10 := (Dt.ite (strB (⟨#[0, 1, 2, 2, 3, 3, 3, 3, 4, 4, 4, 4, 4, 4, 4, 4, 5, 5, 5, 5, 5, 5, 5, 5, 5, 5, 5, 5, 5, 5, 5, 5, 6, 6, 6, 6, 6, 6, 6, 6, 6, 6, 6, 6, 6, 6, 6, 6, 6, 6, 6, 6, 6, 6, 6, 6, 6, 6, 6, 6, 6, 6, 6, 6, 7, 7, 7, 7, 7, 7, 7, 7, 7, 7, 7, 7, 7, 7, 7, 7, 7, 7, 7, 7, 7, 7, 7, 7, 7, 7, 7, 7, 7, 7, 7, 7, 7, 7, 7, 7, 7, 7, 7, 7, 7, 7, 7, 7, 7, 7, 7, 7, 7, 7, 7, 7, 7, 7, 7, 7, 7, 7, 7, 7, 7, 7, 7, 7, 8, 8, 8, 8, 8, 8, 8, 8, 8, 8, 8, 8, 8, 8, 8, 8, 8, 8, 8, 8, 8, 8, 8, 8, 8, 8, 8, 8, 8, 8, 8, 8, 8, 8, 8, 8, 8, 8, 8, 8, 8, 8, 8, 8, 8, 8, 8, 8, 8, 8, 8, 8, 8, 8, 8, 8, 8, 8, 8, 8, 8, 8, 8, 8, 8, 8, 8, 8, 8, 8, 8, 8, 8, 8, 8, 8, 8, 8, 8, 8, 8, 8, 8, 8, 8, 8, 8, 8, 8, 8, 8, 8, 8, 8, 8, 8, 8, 8, 8, 8, 8, 8, 8, 8, 8, 8, 8, 8, 8, 8, 8, 8, 8, 8, 8, 8, 8, 8, 8, 8, 8, 8, 8, 8, 8, 8, 8, 8]⟩ : ByteArray) ((IntKind.wrap .u8 v.1))) (Dt.ret (IntKind.wrap .i64 (v.2 + (IntKind.wrap .i64 (strAt (⟨#[0, 1, 2, 2, 3, 3, 3, 3, 4, 4, 4, 4, 4, 4, 4, 4, 5, 5, 5, 5, 5, 5, 5, 5, 5, 5, 5, 5, 5, 5, 5, 5, 6, 6, 6, 6, 6, 6, 6, 6, 6, 6, 6, 6, 6, 6, 6, 6, 6, 6, 6, 6, 6, 6, 6, 6, 6, 6, 6, 6, 6, 6, 6, 6, 7, 7, 7, 7, 7, 7, 7, 7, 7, 7, 7, 7, 7, 7, 7, 7, 7, 7, 7, 7, 7, 7, 7, 7, 7, 7, 7, 7, 7, 7, 7, 7, 7, 7, 7, 7, 7, 7, 7, 7, 7, 7, 7, 7, 7, 7, 7, 7, 7, 7, 7, 7, 7, 7, 7, 7, 7, 7, 7, 7, 7, 7, 7, 7, 8, 8, 8, 8, 8, 8, 8, 8, 8, 8, 8, 8, 8, 8, 8, 8, 8, 8, 8, 8, 8, 8, 8, 8, 8, 8, 8, 8, 8, 8, 8, 8, 8, 8, 8, 8, 8, 8, 8, 8, 8, 8, 8, 8, 8, 8, 8, 8, 8, 8, 8, 8, 8, 8, 8, 8, 8, 8, 8, 8, 8, 8, 8, 8, 8, 8, 8, 8, 8, 8, 8, 8, 8, 8, 8, 8, 8, 8, 8, 8, 8, 8, 8, 8, 8, 8, 8, 8, 8, 8, 8, 8, 8, 8, 8, 8, 8, 8, 8, 8, 8, 8, 8, 8, 8, 8, 8, 8, 8, 8, 8, 8, 8, 8, 8, 8, 8, 8, 8, 8, 8, 8, 8, 8, 8, 8, 8, 8]⟩ : ByteArray) ((IntKind.wrap .u8 v.1))))))) Dt.fail)
theorem math_bits_Len64_g10 (C : math_bits_Len64_C) (v : math_bits_Len64_Y0) : treg tysT (orc (math_bits_Len64_tab C)) 25 (regO (bodyOf f54) 10) false [(2, .any)] (math_bits_Len64_S0 v) some = (math_bits_Len64_r10 C v).eval fun y => some (math_bits_Len64_S10 y) := by kernel_rfl
def math_bits_Len64_J3  (d : Nat)  (z : Int × Int) : Option (math_bits_Len64_R) :=
  (math_bits_Len64_r10 (math_bits_Len64_K d) z).eval fun y10 =>
  some y10
def math_bits_Len64_J2  (d : Nat)  (z : Int × Int) : Option (math_bits_Len64_R) :=
  (math_bits_Len64_r7 (math_bits_Len64_K d) z).eval fun y7 =>
  bif y7.2.2 then ((math_bits_Len64_r8 (math_bits_Len64_K d) y7).eval fun y8 =>
  (math_bits_Len64_r9 (math_bits_Len64_K d) y8).eval fun y9 =>
  math_bits_Len64_J3 d  y9) else (math_bits_Len64_J3 d  (y7.1, y7.2.1))
def math_bits_Len64_J1  (d : Nat)  (z : Int × Int) : Option (math_bits_Len64_R) :=
  (math_bits_Len64_r4 (math_bits_Len64_K d) z).eval fun y4 =>
  bif y4.2.2 then ((math_bits_Len64_r5 (math_bits_Len64_K d) y4).eval fun y5 =>
  (math_bits_Len64_r6 (math_bits_Len64_K d) y5).eval fun y6 =>
  math_bits_Len64_J2 d  y6) else (math_bits_Len64_J2 d  (y4.1, y4.2.1))
def F_math_bits_Len64 (d : Nat) (x : math_bits_Len64_X) : Option math_bits_Len64_R :=
  (math_bits_Len64_r0 (math_bits_Len64_K d) x.1.1).eval fun y0 =>
  (math_bits_Len64_r1 (math_bits_Len64_K d) y0).eval fun y1 =>
  bif y1.2.2 then ((math_bits_Len64_r2 (math_bits_Len64_K d) y1).eval fun y2 =>
  (math_bits_Len64_r3 (math_bits_Len64_K d) y2).eval fun y3 =>
  math_bits_Len64_J1 d  y3) else (math_bits_Len64_J1 d  (y1.1, y1.2.1))
theorem math_bits_Len64_cok (d : Nat) : COK prog (math_bits_Len64_sp (F_math_bits_Len64 d)) := by
  have hm : prog.follows .mixedOrders = true := mixed
  have hT := tys
  have hC0 : OrcOK prog (orc (math_bits_Len64_tab (math_bits_Len64_K d))) := orc_ok (by
    intro S hS
    simp only [math_bits_Len64_tab, List.mem_cons, List.not_mem_nil, or_false] at hS
    all_goals first | cases hS | exact hS.elim)
  have hC : OrcOK prog (orc (math_bits_Len64_tab (math_bits_Len64_K d))) := hC0
  refine cok_of (c := bodyOf f54) (fn := f54) hT (by kernel_rfl) (by kernel_rfl) (by decide) fun x r h w0 φ0 Q hend => ?_
  replace h : F_math_bits_Len64 d x = some r := h
  unfold F_math_bits_Len64 at h
  show Run prog w0 φ0 25 (bodyOf f54) ⟨[(0, .int .u64 x.1.1)], []⟩ Q
  refine run_seq ?_
  refine run_reg hm hT hC (math_bits_Len64_g0 (math_bits_Len64_K d) x.1.1) h ?_
  intro y0 h
  refine cn_then ?_
  refine run_join (r := r) (F := math_bits_Len64_J1 d ) (S := (fun z => ⟨[(0, .int .u64 z.1), (2, .int .i64 z.2)], []⟩ : Int × Int → St)) ?_ ?_
  ·
    intro z h
    unfold math_bits_Len64_J1 at h
    refine run_join (r := r) (F := math_bits_Len64_J2 d ) (S := (fun z => ⟨[(0, .int .u64 z.1), (2, .int .i64 z.2)], []⟩ : Int × Int → St)) ?_ ?_
    ·
      intro z h
      unfold math_bits_Len64_J2 at h
      refine run_join (r := r) (F := math_bits_Len64_J3 d ) (S := (fun z => ⟨[(0, .int .u64 z.1), (2, .int .i64 z.2)], []⟩ : Int × Int → St)) ?_ ?_
      ·
        intro z h
        unfold math_bits_Len64_J3 at h
        refine run_seq ?_
        refine run_reg hm hT hC (math_bits_Len64_g10 (math_bits_Len64_K d) z) h ?_
        intro y10 h
        refine cn_then ?_
        refine run_ret ?_
        cases h
        exact (hend _ (by kernel_rfl)).2
      intro hj3
      refine run_seq ?_
      refine run_reg hm hT hC (math_bits_Len64_g7 (math_bits_Len64_K d) z) h ?_
      intro y7 h
      refine cn_then ?_
      refine run_cond (v := y7.2.2) (by kernel_rfl) h ?_ ?_
      ·
        intro h
        refine run_seq ?_
        refine run_reg hm hT hC (math_bits_Len64_g8 (math_bits_Len64_K d) y7) h ?_
        intro y8 h
        refine cn_then ?_
        refine run_reg hm hT hC (math_bits_Len64_g9 (math_bits_Len64_K d) y8) h ?_
        intro y9 h
        exact hj3 _ h
      ·
        intro h
        refine run_skip ?_
        refine cn_num (s := ⟨[(0, .int .u64 y7.1), (2, .int .i64 y7.2.1)], []⟩) [14] (by kernel_rfl) ?_
        exact hj3 _ h
    intro hj2
    refine run_seq ?_
    refine run_reg hm hT hC (math_bits_Len64_g4 (math_bits_Len64_K d) z) h ?_
    intro y4 h
    refine cn_then ?_
    refine run_cond (v := y4.2.2) (by kernel_rfl) h ?_ ?_
    ·
      intro h
      refine run_seq ?_
      refine run_reg hm hT hC (math_bits_Len64_g5 (math_bits_Len64_K d) y4) h ?_
      intro y5 h
      refine cn_then ?_
      refine run_reg hm hT hC (math_bits_Len64_g6 (math_bits_Len64_K d) y5) h ?_
      intro y6 h
      exact hj2 _ h
    ·
      intro h
      refine run_skip ?_
      refine cn_num (s := ⟨[(0, .int .u64 y4.1), (2, .int .i64 y4.2.1)], []⟩) [8] (by kernel_rfl) ?_
      exact hj2 _ h
  intro hj1
  refine run_seq ?_
  refine run_reg hm hT hC (math_bits_Len64_g1 (math_bits_Len64_K d) y0) h ?_
  intro y1 h
  refine cn_then ?_
  refine run_cond (v := y1.2.2) (by kernel_rfl) h ?_ ?_
  ·
    intro h
    refine run_seq ?_
    refine run_reg hm hT hC (math_bits_Len64_g2 (math_bits_Len64_K d) y1) h ?_
    intro y2 h
    refine cn_then ?_
    refine run_reg hm hT hC (math_bits_Len64_g3 (math_bits_Len64_K d) y2) h ?_
    intro y3 h
    exact hj1 _ h
  ·
    intro h
    refine run_skip ?_
    refine cn_num (s := ⟨[(0, .int .u64 y1.1), (2, .int .i64 y1.2.1)], []⟩) [4] (by kernel_rfl) ?_
    exact hj1 _ h
abbrev math_bits_LeadingZeros64_ps : List Pk := [.row Ru false]
abbrev math_bits_LeadingZeros64_X : Type := Du × Unit
abbrev math_bits_LeadingZeros64_R : Type := Int
def math_bits_LeadingZeros64_enc (r : math_bits_LeadingZeros64_R) : LV × List Ob := (.int .i64 r, [])
def math_bits_LeadingZeros64_sp (F : math_bits_LeadingZeros64_X → Option math_bits_LeadingZeros64_R) : Go.Tx.Spec := ⟨40, math_bits_LeadingZeros64_ps, math_bits_LeadingZeros64_R, F, math_bits_LeadingZeros64_enc⟩
abbrev math_bits_LeadingZeros64_C : Type := (math_bits_Len64_X → Option math_bits_Len64_R) × Unit
def math_bits_LeadingZeros64_K (d : Nat) : math_bits_LeadingZeros64_C := (F_math_bits_Len64 d, ())
def math_bits_LeadingZeros64_tab (C : math_bits_LeadingZeros64_C) : List Go.Tx.Spec := [math_bits_Len64_sp C.1]
abbrev math_bits_LeadingZeros64_Y0i : Type := Int
def math_bits_LeadingZeros64_S0i (v : math_bits_LeadingZeros64_Y0i) : St := ⟨[(0, .int .u64 v)], []⟩
def math_bits_LeadingZeros64_r0 (C : math_bits_LeadingZeros64_C) (v : math_bits_LeadingZeros64_Y0i) : Dt math_bits_LeadingZeros64_Y0i := (Dt.ret v)
theorem math_bits_LeadingZeros64_g0 (C : math_bits_LeadingZeros64_C) (v : math_bits_LeadingZeros64_Y0i) : treg tysT (orc (math_bits_LeadingZeros64_tab C)) 6 (regO (bodyOf f40) 0) false [(0, .any)] (math_bits_LeadingZeros64_S0i v) some = (math_bits_LeadingZeros64_r0 C v).eval fun y => some (math_bits_LeadingZeros64_S0i y) := by kernel_rfl
abbrev math_bits_LeadingZeros64_Y1 : Type := Int
def math_bits_LeadingZeros64_S1 (v : math_bits_LeadingZeros64_Y1) : St := ⟨[(2, .int .i64 v)], []⟩
def math_bits_LeadingZeros64_r1 (C : math_bits_LeadingZeros64_C) (v : math_bits_LeadingZeros64_Y0i) : Dt math_bits_LeadingZeros64_Y1 := (Dt.bnd (C.1 ((v, ()), ())) fun r1 => (Dt.ret (IntKind.wrap .i64 ((64:Int) - r1))))
theorem math_bits_LeadingZeros64_g1 (C : math_bits_LeadingZeros64_C) (v : math_bits_LeadingZeros64_Y0i) : treg tysT (orc (math_bits_LeadingZeros64_tab C)) 6 (regO (bodyOf f40) 1) false [(2, .any)] (math_bits_LeadingZeros64_S0i v) some = (math_bits_LeadingZeros64_r1 C v).eval fun y => some (math_bits_LeadingZeros64_S1 y) := by kernel_rfl
def F_math_bits_LeadingZeros64 (d : Nat) (x : math_bits_LeadingZeros64_X) : Option math_bits_LeadingZeros64_R :=
  (math_bits_LeadingZeros64_r0 (math_bits_LeadingZeros64_K d) x.1.1).eval fun y0 =>
  (math_bits_LeadingZeros64_r1 (math_bits_LeadingZeros64_K d) y0).eval fun y1 =>
  some y1
theorem math_bits_LeadingZeros64_cok (d : Nat) : COK prog (math_bits_LeadingZeros64_sp (F_math_bits_LeadingZeros64 d)) := by
  have hm : prog.follows .mixedOrders = true := mixed
  have hT := tys
  have hC0 : OrcOK prog (orc (math_bits_LeadingZeros64_tab (math_bits_LeadingZeros64_K d))) := orc_ok (by
    intro S hS
    simp only [math_bits_LeadingZeros64_tab, List.mem_cons, List.not_mem_nil, or_false] at hS
    subst hS; exact math_bits_Len64_cok d)
  have hC : OrcOK prog (orc (math_bits_LeadingZeros64_tab (math_bits_LeadingZeros64_K d))) := hC0
  refine cok_of (c := bodyOf f40) (fn := f40) hT (by kernel_rfl) (by kernel_rfl) (by decide) fun x r h w0 φ0 Q hend => ?_
  replace h : F_math_bits_LeadingZeros64 d x = some r := h
  unfold F_math_bits_LeadingZeros64 at h
  show Run prog w0 φ0 6 (bodyOf f40) ⟨[(0, .int .u64 x.1.1)], []⟩ Q
  refine run_seq ?_
  refine run_reg hm hT hC (math_bits_LeadingZeros64_g0 (math_bits_LeadingZeros64_K d) x.1.1) h ?_
  intro y0 h
  refine cn_then ?_
  refine run_seq ?_
  refine run_reg hm hT hC (math_bits_LeadingZeros64_g1 (math_bits_LeadingZeros64_K d) y0) h ?_
  intro y1 h
  refine cn_then ?_
  refine run_ret ?_
  cases h
  exact (hend _ (by kernel_rfl)).2
abbrev math_bits_Div64_ps : List Pk := [.row Ru false, .row Ru false, .row Ru false]
abbrev math_bits_Div64_X : Type := Du × Du × Du × Unit
abbrev math_bits_Div64_R : Type := Int × Int
def math_bits_Div64_enc (r : math_bits_Div64_R) : LV × List Ob := (.tup [.int .u64 r.1, .int .u64 r.2], [])
def math_bits_Div64_sp (F : math_bits_Div64_X → Option math_bits_Div64_R) : Go.Tx.Spec := ⟨29, math_bits_Div64_ps, math_bits_Div64_R, F, math_bits_Div64_enc⟩
abbrev math_bits_Div64_C : Type := (math_bits_LeadingZeros64_X → Option math_bits_LeadingZeros64_R) × Unit
def math_bits_Div64_K (d : Nat) : math_bits_Div64_C := (F_math_bits_LeadingZeros64 d, ())
def math_bits_Div64_tab (C : math_bits_Div64_C) : List Go.Tx.Spec := [math_bits_LeadingZeros64_sp C.1]
abbrev math_bits_Div64_Y0i : Type := Int × Int × Int
def math_bits_Div64_S0i (v : math_bits_Div64_Y0i) : St := ⟨[(0, .int .u64 v.1), (1, .int .u64 v.2.1), (2, .int .u64 v.2.2)], []⟩
def math_bits_Div64_r0 (C : math_bits_Div64_C) (v : math_bits_Div64_Y0i) : Dt math_bits_Div64_Y0i := (Dt.ret (v.1, v.2.1, v.2.2))
theorem math_bits_Div64_g0 (C : math_bits_Div64_C) (v : math_bits_Div64_Y0i) : treg tysT (orc (math_bits_Div64_tab C)) 135 (regO (bodyOf f29) 0) false [(0, .any), (1, .any), (2, .any)] (math_bits_Div64_S0i v) some = (math_bits_Div64_r0 C v).eval fun y => some (math_bits_Div64_S0i y) := by kernel_rfl
abbrev math_bits_Div64_Y1 : Type := Int × Int × Int × Bool
def math_bits_Div64_S1 (v : math_bits_Div64_Y1) : St := ⟨[(0, .int .u64 v.1), (1, .int .u64 v.2.1), (2, .int .u64 v.2.2.1), (20, .bool v.2.2.2)], []⟩
def math_bits_Div64_r1 (C : math_bits_Div64_C) (v : math_bits_Div64_Y0i) : Dt math_bits_Div64_Y1 := (Dt.ret (v.1, v.2.1, v.2.2, (v.2.2 == (0:Int))))
theorem math_bits_Div64_g1 (C : math_bits_Div64_C) (v : math_bits_Div64_Y0i) : treg tysT (orc (math_bits_Div64_tab C)) 135 (regO (bodyOf f29) 1) false [(0, .any), (1, .any), (2, .any), (20, .any)] (math_bits_Div64_S0i v) some = (math_bits_Div64_r1 C v).eval fun y => some (math_bits_Div64_S1 y) := by kernel_rfl
abbrev math_bits_Div64_Y3 : Type := Int × Int × Int × Bool
def math_bits_Div64_S3 (v : math_bits_Div64_Y3) : St := ⟨[(0, .int .u64 v.1), (1, .int .u64 v.2.1), (2, .int .u64 v.2.2.1), (24, .bool v.2.2.2)], []⟩
def math_bits_Div64_r3 (C : math_bits_Div64_C) (v : math_bits_Div64_Y1) : Dt math_bits_Div64_Y3 := (Dt.ret (v.1, v.2.1, v.2.2.1, (decide (v.2.2.1 ≤ v.1))))
theorem math_bits_Div64_g3 (C : math_bits_Div64_C) (v : math_bits_Div64_Y1) : treg tysT (orc (math_bits_Div64_tab C)) 135 (regO (bodyOf f29) 3) false [(0, .any), (1, .any), (2, .any), (24, .any)] (math_bits_Div64_S1 v) some = (math_bits_Div64_r3 C v).eval fun y => some (math_bits_Div64_S3 y) := by kernel_rfl
abbrev math_bits_Div64_Y5 : Type := Int × Int × Int × Bool
def math_bits_Div64_S5 (v : math_bits_Div64_Y5) : St := ⟨[(0, .int .u64 v.1), (1, .int .u64 v.2.1), (2, .int .u64 v.2.2.1), (27, .bool v.2.2.2)], []⟩
def math_bits_Div64_r5 (C : math_bits_Div64_C) (v : math_bits_Div64_Y3) : Dt math_bits_Div64_Y5 := (Dt.ret (v.1, v.2.1, v.2.2.1, (v.1 == (0:Int))))
theorem math_bits_Div64_g5 (C : math_bits_Div64_C) (v : math_bits_Div64_Y3) : treg tysT (orc (math_bits_Div64_tab C)) 135 (regO (bodyOf f29) 5) false [(0, .any), (1, .any), (2, .any), (27, .any)] (math_bits_Div64_S3 v) some = (math_bits_Div64_r5 C v).eval fun y => some (math_bits_Div64_S5 y) := by kernel_rfl
abbrev math_bits_Div64_Y6 : Type := Int × Int
def math_bits_Div64_S6 (v : math_bits_Div64_Y6) : St := ⟨[(6, .int .u64 v.1), (7, .int .u64 v.2)], []⟩
def math_bits_Div64_r6 (C : math_bits_Div64_C) (v : math_bits_Div64_Y5) : Dt math_bits_Div64_Y6 := (Dt.ite (v.2.2.1 == (0:Int)) Dt.fail (Dt.ite (v.2.2.1 == (0:Int)) Dt.fail (Dt.ret ((IntKind.wrap .u64 (Int.tdiv v.2.1 v.2.2.1)), (Int.tmod v.2.1 v.2.2.1)))))
theorem math_bits_Div64_g6 (C : math_bits_Div64_C) (v : math_bits_Div64_Y5) : treg tysT (orc (math_bits_Div64_tab C)) 135 (regO (bodyOf f29) 6) true [(6, .any), (7, .any)] (math_bits_Div64_S5 v) some = (math_bits_Div64_r6 C v).eval fun y => some (math_bits_Div64_S6 y) := by kernel_rfl
abbrev math_bits_Div64_Y7 : Type := Int × Int × Int × Int
def math_bits_Div64_S7 (v : math_bits_Div64_Y7) : St := ⟨[(0, .int .u64 v.1), (1, .int .u64 v.2.1), (2, .int .u64 v.2.2.1), (8, .int .u64 v.2.2.2)], []⟩
def math_bits_Div64_r7 (C : math_bits_Div64_C) (v : math_bits_Div64_Y5) : Dt math_bits_Div64_Y7 := (Dt.bnd (C.1 ((v.2.2.1, ()), ())) fun r1 => (Dt.ret (v.1, v.2.1, v.2.2.1, (IntKind.wrap .u64 r1))))
theorem math_bits_Div64_g7 (C : math_bits_Div64_C) (v : math_bits_Div64_Y5) : treg tysT (orc (math_bits_Div64_tab C)) 135 (regO (bodyOf f29) 7) false [(0, .any), (1, .any), (2, .any), (8, .any)] (math_bits_Div64_S5 v) some = (math_bits_Div64_r7 C v).eval fun y => some (math_bits_Div64_S7 y) := by kernel_rfl
def math_bits_Div64_r8 (C : math_bits_Div64_C) (v : math_bits_Div64_Y7) : Dt math_bits_Div64_Y7 := (Dt.ite (decide (v.2.2.2 < 0)) Dt.fail (Dt.ret (v.1, v.2.1, (shlI .u64 v.2.2.1 v.2.2.2), v.2.2.2)))
theorem math_bits_Div64_g8 (C : math_bits_Div64_C) (v : math_bits_Div64_Y7) : treg tysT (orc (math_bits_Div64_tab C)) 135 (regO (bodyOf f29) 8) false [(0, .any), (1, .any), (2, .any), (8, .any)] (math_bits_Div64_S7 v) some = (math_bits_Div64_r8 C v).eval fun y => some (math_bits_Div64_S7 y) := by kernel_rfl
abbrev math_bits_Div64_Y9 : Type := Int × Int × Int × Int × Int
def math_bits_Div64_S9 (v : math_bits_Div64_Y9) : St := ⟨[(0, .int .u64 v.1), (1, .int .u64 v.2.1), (2, .int .u64 v.2.2.1), (8, .int .u64 v.2.2.2.1), (9, .int .u64 v.2.2.2.2)], []⟩
def math_bits_Div64_r9 (C : math_bits_Div64_C) (v : math_bits_Div64_Y7) : Dt math_bits_Div64_Y9 := (Dt.ret (v.1, v.2.1, v.2.2.1, v.2.2.2, (shrI .u64 v.2.2.1 (32:Int))))
theorem math_bits_Div64_g9 (C : math_bits_Div64_C) (v : math_bits_Div64_Y7) : treg tysT (orc (math_bits_Div64_tab C)) 135 (regO (bodyOf f29) 9) false [(0, .any), (1, .any), (2, .any), (8, .any), (9, .any)] (math_bits_Div64_S7 v) some = (math_bits_Div64_r9 C v).eval fun y => some (math_bits_Div64_S9 y) := by kernel_rfl
abbrev math_bits_Div64_Y10 : Type := Int × Int × Int × Int × Int × Int
def math_bits_Div64_S10 (v : math_bits_Div64_Y10) : St := ⟨[(0, .int .u64 v.1), (1, .int .u64 v.2.1), (2, .int .u64 v.2.2.1), (8, .int .u64 v.2.2.2.1), (9, .int .u64 v.2.2.2.2.1), (10, .int .u64 v.2.2.2.2.2)], []⟩
def math_bits_Div64_r10 (C : math_bits_Div64_C) (v : math_bits_Div64_Y9) : Dt math_bits_Div64_Y10 := (Dt.ret (v.1, v.2.1, v.2.2.1, v.2.2.2.1, v.2.2.2.2, (andI .u64 v.2.2.1 (4294967295:Int))))
theorem math_bits_Div64_g10 (C : math_bits_Div64_C) (v : math_bits_Div64_Y9) : treg tysT (orc (math_bits_Div64_tab C)) 135 (regO (bodyOf f29) 10) false [(0, .any), (1, .any), (2, .any), (8, .any), (9, .any), (10, .any)] (math_bits_Div64_S9 v) some = (math_bits_Div64_r10 C v).eval fun y => some (math_bits_Div64_S10 y) := by kernel_rfl
abbrev math_bits_Div64_Y11 : Type := Int × Int × Int × Int × Int × Int
def math_bits_Div64_S11 (v : math_bits_Div64_Y11) : St := ⟨[(1, .int .u64 v.1), (2, .int .u64 v.2.1), (8, .int .u64 v.2.2.1), (9, .int .u64 v.2.2.2.1), (10, .int .u64 v.2.2.2.2.1), (11, .int .u64 v.2.2.2.2.2)], []⟩
def math_bits_Div64_r11 (C : math_bits_Div64_C) (v : math_bits_Div64_Y10) : Dt math_bits_Div64_Y11 := (Dt.ite (decide (v.2.2.2.1 < 0)) Dt.fail (Dt.ite (decide ((IntKind.wrap .u64 ((64:Int) - v.2.2.2.1)) < 0)) Dt.fail (Dt.ret (v.2.1, v.2.2.1, v.2.2.2.1, v.2.2.2.2.1, v.2.2.2.2.2, (orI .u64 (shlI .u64 v.1 v.2.2.2.1) (shrI .u64 v.2.1 (IntKind.wrap .u64 ((64:Int) - v.2.2.2.1))))))))
theorem math_bits_Div64_g11 (C : math_bits_Div64_C) (v : math_bits_Div64_Y10) : treg tysT (orc (math_bits_Div64_tab C)) 135 (regO (bodyOf f29) 11) false [(1, .any), (2, .any), (8, .any), (9, .any), (10, .any), (11, .any)] (math_bits_Div64_S10 v) some = (math_bits_Div64_r11 C v).eval fun y => some (math_bits_Div64_S11 y) := by kernel_rfl
abbrev math_bits_Div64_Y12 : Type := Int × Int × Int × Int × Int × Int
def math_bits_Div64_S12 (v : math_bits_Div64_Y12) : St := ⟨[(2, .int .u64 v.1), (8, .int .u64 v.2.1), (9, .int .u64 v.2.2.1), (10, .int .u64 v.2.2.2.1), (11, .int .u64 v.2.2.2.2.1), (12, .int .u64 v.2.2.2.2.2)], []⟩
def math_bits_Div64_r12 (C : math_bits_Div64_C) (v : math_bits_Div64_Y11) : Dt math_bits_Div64_Y12 := (Dt.ite (decide (v.2.2.1 < 0)) Dt.fail (Dt.ret (v.2.1, v.2.2.1, v.2.2.2.1, v.2.2.2.2.1, v.2.2.2.2.2, (shlI .u64 v.1 v.2.2.1))))
theorem math_bits_Div64_g12 (C : math_bits_Div64_C) (v : math_bits_Div64_Y11) : treg tysT (orc (math_bits_Div64_tab C)) 135 (regO (bodyOf f29) 12) false [(2, .any), (8, .any), (9, .any), (10, .any), (11, .any), (12, .any)] (math_bits_Div64_S11 v) some = (math_bits_Div64_r12 C v).eval fun y => some (math_bits_Div64_S12 y) := by kernel_rfl
abbrev math_bits_Div64_Y13 : Type := Int × Int × Int × Int × Int × Int × Int
def math_bits_Div64_S13 (v : math_bits_Div64_Y13) : St := ⟨[(2, .int .u64 v.1), (8, .int .u64 v.2.1), (9, .int .u64 v.2.2.1), (10, .int .u64 v.2.2.2.1), (11, .int .u64 v.2.2.2.2.1), (12, .int .u64 v.2.2.2.2.2.1), (13, .int .u64 v.2.2.2.2.2.2)], []⟩
def math_bits_Div64_r13 (C : math_bits_Div64_C) (v : math_bits_Div64_Y12) : Dt math_bits_Div64_Y13 := (Dt.ret (v.1, v.2.1, v.2.2.1, v.2.2.2.1, v.2.2.2.2.1, v.2.2.2.2.2, (shrI .u64 v.2.2.2.2.2 (32:Int))))
theorem math_bits_Div64_g13 (C : math_bits_Div64_C) (v : math_bits_Div64_Y12) : treg tysT (orc (math_bits_Div64_tab C)) 135 (regO (bodyOf f29) 13) false [(2, .any), (8, .any), (9, .any), (10, .any), (11, .any), (12, .any), (13, .any)] (math_bits_Div64_S12 v) some = (math_bits_Div64_r13 C v).eval fun y => some (math_bits_Div64_S13 y) := by kernel_rfl
abbrev math_bits_Div64_Y14 : Type := Int × Int × Int × Int × Int × Int × Int
def math_bits_Div64_S14 (v : math_bits_Div64_Y14) : St := ⟨[(2, .int .u64 v.1), (8, .int .u64 v.2.1), (9, .int .u64 v.2.2.1), (10, .int .u64 v.2.2.2.1), (11, .int .u64 v.2.2.2.2.1), (13, .int .u64 v.2.2.2.2.2.1), (14, .int .u64 v.2.2.2.2.2.2)], []⟩
def math_bits_Div64_r14 (C : math_bits_Div64_C) (v : math_bits_Div64_Y13) : Dt math_bits_Div64_Y14 := (Dt.ret (v.1, v.2.1, v.2.2.1, v.2.2.2.1, v.2.2.2.2.1, v.2.2.2.2.2.2, (andI .u64 v.2.2.2.2.2.1 (4294967295:Int))))
theorem math_bits_Div64_g14 (C : math_bits_Div64_C) (v : math_bits_Div64_Y13) : treg tysT (orc (math_bits_Div64_tab C)) 135 (regO (bodyOf f29) 14) false [(2, .any), (8, .any), (9, .any), (10, .any), (11, .any), (13, .any), (14, .any)] (math_bits_Div64_S13 v) some = (math_bits_Div64_r14 C v).eval fun y => some (math_bits_Div64_S14 y) := by kernel_rfl
abbrev math_bits_Div64_Y15 : Type := Int × Int × Int × Int × Int × Int × Int × Int
def math_bits_Div64_S15 (v : math_bits_Div64_Y15) : St := ⟨[(2, .int .u64 v.1), (8, .int .u64 v.2.1), (9, .int .u64 v.2.2.1), (10, .int .u64 v.2.2.2.1), (11, .int .u64 v.2.2.2.2.1), (13, .int .u64 v.2.2.2.2.2.1), (14, .int .u64 v.2.2.2.2.2.2.1), (15, .int .u64 v.2.2.2.2.2.2.2)], []⟩
def math_bits_Div64_r15 (C : math_bits_Div64_C) (v : math_bits_Div64_Y14) : Dt math_bits_Div64_Y15 := (Dt.ite (v.2.2.1 == (0:Int)) Dt.fail (Dt.ret (v.1, v.2.1, v.2.2.1, v.2.2.2.1, v.2.2.2.2.1, v.2.2.2.2.2.1, v.2.2.2.2.2.2, (IntKind.wrap .u64 (Int.tdiv v.2.2.2.2.1 v.2.2.1)))))
theorem math_bits_Div64_g15 (C : math_bits_Div64_C) (v : math_bits_Div64_Y14) : treg tysT (orc (math_bits_Div64_tab C)) 135 (regO (bodyOf f29) 15) false [(2, .any), (8, .any), (9, .any), (10, .any), (11, .any), (13, .any), (14, .any), (15, .any)] (math_bits_Div64_S14 v) some = (math_bits_Div64_r15 C v).eval fun y => some (math_bits_Div64_S15 y) := by kernel_rfl
abbrev math_bits_Div64_Y16 : Type := Int × Int × Int × Int × Int × Int × Int × Int × Int
def math_bits_Div64_S16 (v : math_bits_Div64_Y16) : St := ⟨[(2, .int .u64 v.1), (8, .int .u64 v.2.1), (9, .int .u64 v.2.2.1), (10, .int .u64 v.2.2.2.1), (11, .int .u64 v.2.2.2.2.1), (13, .int .u64 v.2.2.2.2.2.1), (14, .int .u64 v.2.2.2.2.2.2.1), (15, .int .u64 v.2.2.2.2.2.2.2.1), (16, .int .u64 v.2.2.2.2.2.2.2.2)], []⟩
def math_bits_Div64_r16 (C : math_bits_Div64_C) (v : math_bits_Div64_Y15) : Dt math_bits_Div64_Y16 := (Dt.ret (v.1, v.2.1, v.2.2.1, v.2.2.2.1, v.2.2.2.2.1, v.2.2.2.2.2.1, v.2.2.2.2.2.2.1, v.2.2.2.2.2.2.2, (IntKind.wrap .u64 (v.2.2.2.2.1 - (IntKind.wrap .u64 (v.2.2.2.2.2.2.2 * v.2.2.1))))))
theorem math_bits_Div64_g16 (C : math_bits_Div64_C) (v : math_bits_Div64_Y15) : treg tysT (orc (math_bits_Div64_tab C)) 135 (regO (bodyOf f29) 16) false [(2, .any), (8, .any), (9, .any), (10, .any), (11, .any), (13, .any), (14, .any), (15, .any), (16, .any)] (math_bits_Div64_S15 v) some = (math_bits_Div64_r16 C v).eval fun y => some (math_bits_Div64_S16 y) := by kernel_rfl
abbrev math_bits_Div64_Y17 : Type := Int × Int × Int × Int × Int × Int × Int × Int × Int × Bool
def math_bits_Div64_S17 (v : math_bits_Div64_Y17) : St := ⟨[(2, .int .u64 v.1), (8, .int .u64 v.2.1), (9, .int .u64 v.2.2.1), (10, .int .u64 v.2.2.2.1), (11, .int .u64 v.2.2.2.2.1), (13, .int .u64 v.2.2.2.2.2.1), (14, .int .u64 v.2.2.2.2.2.2.1), (15, .int .u64 v.2.2.2.2.2.2.2.1), (16, .int .u64 v.2.2.2.2.2.2.2.2.1), (78, .bool v.2.2.2.2.2.2.2.2.2)], []⟩
def math_bits_Div64_r17 (C : math_bits_Div64_C) (v : math_bits_Div64_Y16) : Dt math_bits_Div64_Y17 := (Dt.ite (decide (v.2.2.2.2.2.2.2.1 ≥ (4294967296:Int))) (Dt.ret (v.1, v.2.1, v.2.2.1, v.2.2.2.1, v.2.2.2.2.1, v.2.2.2.2.2.1, v.2.2.2.2.2.2.1, v.2.2.2.2.2.2.2.1, v.2.2.2.2.2.2.2.2, true)) (Dt.ret (v.1, v.2.1, v.2.2.1, v.2.2.2.1, v.2.2.2.2.1, v.2.2.2.2.2.1, v.2.2.2.2.2.2.1, v.2.2.2.2.2.2.2.1, v.2.2.2.2.2.2.2.2, (decide ((IntKind.wrap .u64 (v.2.2.2.2.2.2.2.1 * v.2.2.2.1)) > (IntKind.wrap .u64 ((IntKind.wrap .u64 ((4294967296:Int) * v.2.2.2.2.2.2.2.2)) + v.2.2.2.2.2.1)))))))
theorem math_bits_Div64_g17 (C : math_bits_Div64_C) (v : math_bits_Div64_Y16) : treg tysT (orc (math_bits_Div64_tab C)) 135 (regO (bodyOf f29) 17) false [(2, .any), (8, .any), (9, .any), (10, .any), (11, .any), (13, .any), (14, .any), (15, .any), (16, .any), (78, .any)] (math_bits_Div64_S16 v) some = (math_bits_Div64_r17 C v).eval fun y => some (math_bits_Div64_S17 y) := by kernel_rfl
def math_bits_Div64_r18 (C : math_bits_Div64_C) (v : math_bits_Div64_Y17) : Dt math_bits_Div64_Y16 := (Dt.ret (v.1, v.2.1, v.2.2.1, v.2.2.2.1, v.2.2.2.2.1, v.2.2.2.2.2.1, v.2.2.2.2.2.2.1, (IntKind.wrap .u64 (v.2.2.2.2.2.2.2.1 - (1:Int))), v.2.2.2.2.2.2.2.2.1))
theorem math_bits_Div64_g18 (C : math_bits_Div64_C) (v : math_bits_Div64_Y17) : treg tysT (orc (math_bits_Div64_tab C)) 135 (regO (bodyOf f29) 18) false [(2, .any), (8, .any), (9, .any), (10, .any), (11, .any), (13, .any), (14, .any), (15, .any), (16, .any)] (math_bits_Div64_S17 v) some = (math_bits_Div64_r18 C v).eval fun y => some (math_bits_Div64_S16 y) := by kernel_rfl
def math_bits_Div64_r19 (C : math_bits_Div64_C) (v : math_bits_Div64_Y16) : Dt math_bits_Div64_Y16 := (Dt.ret (v.1, v.2.1, v.2.2.1, v.2.2.2.1, v.2.2.2.2.1, v.2.2.2.2.2.1, v.2.2.2.2.2.2.1, v.2.2.2.2.2.2.2.1, (IntKind.wrap .u64 (v.2.2.2.2.2.2.2.2 + v.2.2.1))))
theorem math_bits_Div64_g19 (C : math_bits_Div64_C) (v : math_bits_Div64_Y16) : treg tysT (orc (math_bits_Div64_tab C)) 135 (regO (bodyOf f29) 19) false [(2, .any), (8, .any), (9, .any), (10, .any), (11, .any), (13, .any), (14, .any), (15, .any), (16, .any)] (math_bits_Div64_S16 v) some = (math_bits_Div64_r19 C v).eval fun y => some (math_bits_Div64_S16 y) := by kernel_rfl
abbrev math_bits_Div64_Y20 : Type := Int × Int × Int × Int × Int × Int × Int × Int × Int × Bool
def math_bits_Div64_S20 (v : math_bits_Div64_Y20) : St := ⟨[(2, .int .u64 v.1), (8, .int .u64 v.2.1), (9, .int .u64 v.2.2.1), (10, .int .u64 v.2.2.2.1), (11, .int .u64 v.2.2.2.2.1), (13, .int .u64 v.2.2.2.2.2.1), (14, .int .u64 v.2.2.2.2.2.2.1), (15, .int .u64 v.2.2.2.2.2.2.2.1), (16, .int .u64 v.2.2.2.2.2.2.2.2.1), (85, .bool v.2.2.2.2.2.2.2.2.2)], []⟩
def math_bits_Div64_r20 (C : math_bits_Div64_C) (v : math_bits_Div64_Y16) : Dt math_bits_Div64_Y20 := (Dt.ret (v.1, v.2.1, v.2.2.1, v.2.2.2.1, v.2.2.2.2.1, v.2.2.2.2.2.1, v.2.2.2.2.2.2.1, v.2.2.2.2.2.2.2.1, v.2.2.2.2.2.2.2.2, (decide (v.2.2.2.2.2.2.2.2 ≥ (4294967296:Int)))))
theorem math_bits_Div64_g20 (C : math_bits_Div64_C) (v : math_bits_Div64_Y16) : treg tysT (orc (math_bits_Div64_tab C)) 135 (regO (bodyOf f29) 20) false [(2, .any), (8, .any), (9, .any), (10, .any), (11, .any), (13, .any), (14, .any), (15, .any), (16, .any), (85, .any)] (math_bits_Div64_S16 v) some = (math_bits_Div64_r20 C v).eval fun y => some (math_bits_Div64_S20 y) := by kernel_rfl
abbrev math_bits_Div64_Y21 : Type := Int × Int × Int × Int × Int × Int × Int
def math_bits_Div64_S21 (v : math_bits_Div64_Y21) : St := ⟨[(2, .int .u64 v.1), (8, .int .u64 v.2.1), (9, .int .u64 v.2.2.1), (10, .int .u64 v.2.2.2.1), (14, .int .u64 v.2.2.2.2.1), (15, .int .u64 v.2.2.2.2.2.1), (17, .int .u64 v.2.2.2.2.2.2)], []⟩
def math_bits_Div64_r21 (C : math_bits_Div64_C) (v : math_bits_Div64_Y16) : Dt math_bits_Div64_Y21 := (Dt.ret (v.1, v.2.1, v.2.2.1, v.2.2.2.1, v.2.2.2.2.2.2.1, v.2.2.2.2.2.2.2.1, (IntKind.wrap .u64 ((IntKind.wrap .u64 ((IntKind.wrap .u64 (v.2.2.2.2.1 * (4294967296:Int))) + v.2.2.2.2.2.1)) - (IntKind.wrap .u64 (v.2.2.2.2.2.2.2.1 * v.1))))))
theorem math_bits_Div64_g21 (C : math_bits_Div64_C) (v : math_bits_Div64_Y16) : treg tysT (orc (math_bits_Div64_tab C)) 135 (regO (bodyOf f29) 21) false [(2, .any), (8, .any), (9, .any), (10, .any), (14, .any), (15, .any), (17, .any)] (math_bits_Div64_S16 v) some = (math_bits_Div64_r21 C v).eval fun y => some (math_bits_Div64_S21 y) := by kernel_rfl
abbrev math_bits_Div64_Y22 : Type := Int × Int × Int × Int × Int × Int × Int × Int
def math_bits_Div64_S22 (v : math_bits_Div64_Y22) : St := ⟨[(2, .int .u64 v.1), (8, .int .u64 v.2.1), (9, .int .u64 v.2.2.1), (10, .int .u64 v.2.2.2.1), (14, .int .u64 v.2.2.2.2.1), (15, .int .u64 v.2.2.2.2.2.1), (17, .int .u64 v.2.2.2.2.2.2.1), (18, .int .u64 v.2.2.2.2.2.2.2)], []⟩
def math_bits_Div64_r22 (C : math_bits_Div64_C) (v : math_bits_Div64_Y21) : Dt math_bits_Div64_Y22 := (Dt.ite (v.2.2.1 == (0:Int)) Dt.fail (Dt.ret (v.1, v.2.1, v.2.2.1, v.2.2.2.1, v.2.2.2.2.1, v.2.2.2.2.2.1, v.2.2.2.2.2.2, (IntKind.wrap .u64 (Int.tdiv v.2.2.2.2.2.2 v.2.2.1)))))
theorem math_bits_Div64_g22 (C : math_bits_Div64_C) (v : math_bits_Div64_Y21) : treg tysT (orc (math_bits_Div64_tab C)) 135 (regO (bodyOf f29) 22) false [(2, .any), (8, .any), (9, .any), (10, .any), (14, .any), (15, .any), (17, .any), (18, .any)] (math_bits_Div64_S21 v) some = (math_bits_Div64_r22 C v).eval fun y => some (math_bits_Div64_S22 y) := by kernel_rfl
abbrev math_bits_Div64_Y23 : Type := Int × Int × Int × Int × Int × Int × Int × Int × Int
def math_bits_Div64_S23 (v : math_bits_Div64_Y23) : St := ⟨[(2, .int .u64 v.1), (8, .int .u64 v.2.1), (9, .int .u64 v.2.2.1), (10, .int .u64 v.2.2.2.1), (14, .int .u64 v.2.2.2.2.1), (15, .int .u64 v.2.2.2.2.2.1), (16, .int .u64 v.2.2.2.2.2.2.1), (17, .int .u64 v.2.2.2.2.2.2.2.1), (18, .int .u64 v.2.2.2.2.2.2.2.2)], []⟩
def math_bits_Div64_r23 (C : math_bits_Div64_C) (v : math_bits_Div64_Y22) : Dt math_bits_Div64_Y23 := (Dt.ret (v.1, v.2.1, v.2.2.1, v.2.2.2.1, v.2.2.2.2.1, v.2.2.2.2.2.1, (IntKind.wrap .u64 (v.2.2.2.2.2.2.1 - (IntKind.wrap .u64 (v.2.2.2.2.2.2.2 * v.2.2.1)))), v.2.2.2.2.2.2.1, v.2.2.2.2.2.2.2))
theorem math_bits_Div64_g23 (C : math_bits_Div64_C) (v : math_bits_Div64_Y22) : treg tysT (orc (math_bits_Div64_tab C)) 135 (regO (bodyOf f29) 23) false [(2, .any), (8, .any), (9, .any), (10, .any), (14, .any), (15, .any), (16, .any), (17, .any), (18, .any)] (math_bits_Div64_S22 v) some = (math_bits_Div64_r23 C v).eval fun y => some (math_bits_Div64_S23 y) := by kernel_rfl
abbrev math_bits_Div64_Y24 : Type := Int × Int × Int × Int × Int × Int × Int × Int × Int × Bool
def math_bits_Div64_S24 (v : math_bits_Div64_Y24) : St := ⟨[(2, .int .u64 v.1), (8, .int .u64 v.2.1), (9, .int .u64 v.2.2.1), (10, .int .u64 v.2.2.2.1), (14, .int .u64 v.2.2.2.2.1), (15, .int .u64 v.2.2.2.2.2.1), (16, .int .u64 v.2.2.2.2.2.2.1), (17, .int .u64 v.2.2.2.2.2.2.2.1), (18, .int .u64 v.2.2.2.2.2.2.2.2.1), (113, .bool v.2.2.2.2.2.2.2.2.2)], []⟩
def math_bits_Div64_r24 (C : math_bits_Div64_C) (v : math_bits_Div64_Y23) : Dt math_bits_Div64_Y24 := (Dt.ite (decide (v.2.2.2.2.2.2.2.2 ≥ (4294967296:Int))) (Dt.ret (v.1, v.2.1, v.2.2.1, v.2.2.2.1, v.2.2.2.2.1, v.2.2.2.2.2.1, v.2.2.2.2.2.2.1, v.2.2.2.2.2.2.2.1, v.2.2.2.2.2.2.2.2, true)) (Dt.ret (v.1, v.2.1, v.2.2.1, v.2.2.2.1, v.2.2.2.2.1, v.2.2.2.2.2.1, v.2.2.2.2.2.2.1, v.2.2.2.2.2.2.2.1, v.2.2.2.2.2.2.2.2, (decide ((IntKind.wrap .u64 (v.2.2.2.2.2.2.2.2 * v.2.2.2.1)) > (IntKind.wrap .u64 ((IntKind.wrap .u64 ((4294967296:Int) * v.2.2.2.2.2.2.1)) + v.2.2.2.2.1)))))))
theorem math_bits_Div64_g24 (C : math_bits_Div64_C) (v : math_bits_Div64_Y23) : treg tysT (orc (math_bits_Div64_tab C)) 135 (regO (bodyOf f29) 24) false [(2, .any), (8, .any), (9, .any), (10, .any), (14, .any), (15, .any), (16, .any), (17, .any), (18, .any), (113, .any)] (math_bits_Div64_S23 v) some = (math_bits_Div64_r24 C v).eval fun y => some (math_bits_Div64_S24 y) := by kernel_rfl
def math_bits_Div64_r25 (C : math_bits_Div64_C) (v : math_bits_Div64_Y24) : Dt math_bits_Div64_Y23 := (Dt.ret (v.1, v.2.1, v.2.2.1, v.2.2.2.1, v.2.2.2.2.1, v.2.2.2.2.2.1, v.2.2.2.2.2.2.1, v.2.2.2.2.2.2.2.1, (IntKind.wrap .u64 (v.2.2.2.2.2.2.2.2.1 - (1:Int)))))
theorem math_bits_Div64_g25 (C : math_bits_Div64_C) (v : math_bits_Div64_Y24) : treg tysT (orc (math_bits_Div64_tab C)) 135 (regO (bodyOf f29) 25) false [(2, .any), (8, .any), (9, .any), (10, .any), (14, .any), (15, .any), (16, .any), (17, .any), (18, .any)] (math_bits_Div64_S24 v) some = (math_bits_Div64_r25 C v).eval fun y => some (math_bits_Div64_S23 y) := by kernel_rfl
def math_bits_Div64_r26 (C : math_bits_Div64_C) (v : math_bits_Div64_Y23) : Dt math_bits_Div64_Y23 := (Dt.ret (v.1, v.2.1, v.2.2.1, v.2.2.2.1, v.2.2.2.2.1, v.2.2.2.2.2.1, (IntKind.wrap .u64 (v.2.2.2.2.2.2.1 + v.2.2.1)), v.2.2.2.2.2.2.2.1, v.2.2.2.2.2.2.2.2))
theorem math_bits_Div64_g26 (C : math_bits_Div64_C) (v : math_bits_Div64_Y23) : treg tysT (orc (math_bits_Div64_tab C)) 135 (regO (bodyOf f29) 26) false [(2, .any), (8, .any), (9, .any), (10, .any), (14, .any), (15, .any), (16, .any), (17, .any), (18, .any)] (math_bits_Div64_S23 v) some = (math_bits_Div64_r26 C v).eval fun y => some (math_bits_Div64_S23 y) := by kernel_rfl
abbrev math_bits_Div64_Y27 : Type := Int × Int × Int × Int × Int × Int × Int × Int × Int × Bool
def math_bits_Div64_S27 (v : math_bits_Div64_Y27) : St := ⟨[(2, .int .u64 v.1), (8, .int .u64 v.2.1), (9, .int .u64 v.2.2.1), (10, .int .u64 v.2.2.2.1), (14, .int .u64 v.2.2.2.2.1), (15, .int .u64 v.2.2.2.2.2.1), (16, .int .u64 v.2.2.2.2.2.2.1), (17, .int .u64 v.2.2.2.2.2.2.2.1), (18, .int .u64 v.2.2.2.2.2.2.2.2.1), (120, .bool v.2.2.2.2.2.2.2.2.2)], []⟩
def math_bits_Div64_r27 (C : math_bits_Div64_C) (v : math_bits_Div64_Y23) : Dt math_bits_Div64_Y27 := (Dt.ret (v.1, v.2.1, v.2.2.1, v.2.2.2.1, v.2.2.2.2.1, v.2.2.2.2.2.1, v.2.2.2.2.2.2.1, v.2.2.2.2.2.2.2.1, v.2.2.2.2.2.2.2.2, (decide (v.2.2.2.2.2.2.1 ≥ (4294967296:Int)))))
theorem math_bits_Div64_g27 (C : math_bits_Div64_C) (v : math_bits_Div64_Y23) : treg tysT (orc (math_bits_Div64_tab C)) 135 (regO (bodyOf f29) 27) false [(2, .any), (8, .any), (9, .any), (10, .any), (14, .any), (15, .any), (16, .any), (17, .any), (18, .any), (120, .any)] (math_bits_Div64_S23 v) some = (math_bits_Div64_r27 C v).eval fun y => some (math_bits_Div64_S27 y) := by kernel_rfl
def math_bits_Div64_r28 (C : math_bits_Div64_C) (v : math_bits_Div64_Y23) : Dt math_bits_Div64_Y6 := (Dt.ite (decide (v.2.1 < 0)) Dt.fail (Dt.ret ((IntKind.wrap .u64 ((IntKind.wrap .u64 (v.2.2.2.2.2.1 * (4294967296:Int))) + v.2.2.2.2.2.2.2.2)), (shrI .u64 (IntKind.wrap .u64 ((IntKind.wrap .u64 ((IntKind.wrap .u64 (v.2.2.2.2.2.2.2.1 * (4294967296:Int))) + v.2.2.2.2.1)) - (IntKind.wrap .u64 (v.2.2.2.2.2.2.2.2 * v.1)))) v.2.1))))
theorem math_bits_Div64_g28 (C : math_bits_Div64_C) (v : math_bits_Div64_Y23) : treg tysT (orc (math_bits_Div64_tab C)) 135 (regO (bodyOf f29) 28) false [(6, .any), (7, .any)] (math_bits_Div64_S23 v) some = (math_bits_Div64_r28 C v).eval fun y => some (math_bits_Div64_S6 y) := by kernel_rfl
def math_bits_Div64_J5  (d : Nat)  (z : Int × Int × Int × Int × Int × Int × Int × Int × Int) : Option (math_bits_Div64_R) :=
  (math_bits_Div64_r28 (math_bits_Div64_K d) z).eval fun y28 =>
  some y28
def math_bits_Div64_L6 (d : Nat) (self6 : (Int × Int × Int × Int × Int × Int × Int × Int × Int) → Option math_bits_Div64_R) (x6 : Int × Int × Int × Int × Int × Int × Int × Int × Int) : Option math_bits_Div64_R :=
  (math_bits_Div64_r24 (math_bits_Div64_K d) x6).eval fun y24 =>
  bif y24.2.2.2.2.2.2.2.2.2 then ((math_bits_Div64_r25 (math_bits_Div64_K d) y24).eval fun y25 =>
  (math_bits_Div64_r26 (math_bits_Div64_K d) y25).eval fun y26 =>
  (math_bits_Div64_r27 (math_bits_Div64_K d) y26).eval fun y27 =>
  bif y27.2.2.2.2.2.2.2.2.2 then (math_bits_Div64_J5 d  (y27.1, y27.2.1, y27.2.2.1, y27.2.2.2.1, y27.2.2.2.2.1, y27.2.2.2.2.2.1, y27.2.2.2.2.2.2.1, y27.2.2.2.2.2.2.2.1, y27.2.2.2.2.2.2.2.2.1)) else (self6 (y27.1, y27.2.1, y27.2.2.1, y27.2.2.2.1, y27.2.2.2.2.1, y27.2.2.2.2.2.1, y27.2.2.2.2.2.2.1, y27.2.2.2.2.2.2.2.1, y27.2.2.2.2.2.2.2.2.1))) else (math_bits_Div64_J5 d  (y24.1, y24.2.1, y24.2.2.1, y24.2.2.2.1, y24.2.2.2.2.1, y24.2.2.2.2.2.1, y24.2.2.2.2.2.2.1, y24.2.2.2.2.2.2.2.1, y24.2.2.2.2.2.2.2.2.1))
def math_bits_Div64_J3  (d : Nat)  (z : Int × Int × Int × Int × Int × Int × Int × Int × Int) : Option (math_bits_Div64_R) :=
  (math_bits_Div64_r21 (math_bits_Div64_K d) z).eval fun y21 =>
  (math_bits_Div64_r22 (math_bits_Div64_K d) y21).eval fun y22 =>
  (math_bits_Div64_r23 (math_bits_Div64_K d) y22).eval fun y23 =>
  iter (math_bits_Div64_L6 d ) d y23
def math_bits_Div64_L4 (d : Nat) (self4 : (Int × Int × Int × Int × Int × Int × Int × Int × Int) → Option math_bits_Div64_R) (x4 : Int × Int × Int × Int × Int × Int × Int × Int × Int) : Option math_bits_Div64_R :=
  (math_bits_Div64_r17 (math_bits_Div64_K d) x4).eval fun y17 =>
  bif y17.2.2.2.2.2.2.2.2.2 then ((math_bits_Div64_r18 (math_bits_Div64_K d) y17).eval fun y18 =>
  (math_bits_Div64_r19 (math_bits_Div64_K d) y18).eval fun y19 =>
  (math_bits_Div64_r20 (math_bits_Div64_K d) y19).eval fun y20 =>
  bif y20.2.2.2.2.2.2.2.2.2 then (math_bits_Div64_J3 d  (y20.1, y20.2.1, y20.2.2.1, y20.2.2.2.1, y20.2.2.2.2.1, y20.2.2.2.2.2.1, y20.2.2.2.2.2.2.1, y20.2.2.2.2.2.2.2.1, y20.2.2.2.2.2.2.2.2.1)) else (self4 (y20.1, y20.2.1, y20.2.2.1, y20.2.2.2.1, y20.2.2.2.2.1, y20.2.2.2.2.2.1, y20.2.2.2.2.2.2.1, y20.2.2.2.2.2.2.2.1, y20.2.2.2.2.2.2.2.2.1))) else (math_bits_Div64_J3 d  (y17.1, y17.2.1, y17.2.2.1, y17.2.2.2.1, y17.2.2.2.2.1, y17.2.2.2.2.2.1, y17.2.2.2.2.2.2.1, y17.2.2.2.2.2.2.2.1, y17.2.2.2.2.2.2.2.2.1))
def math_bits_Div64_J2  (d : Nat)  (z : Int × Int × Int × Bool) : Option (math_bits_Div64_R) :=
  (math_bits_Div64_r5 (math_bits_Div64_K d) z).eval fun y5 =>
  bif y5.2.2.2 then ((math_bits_Div64_r6 (math_bits_Div64_K d) y5).eval fun y6 =>
  some y6) else ((math_bits_Div64_r7 (math_bits_Div64_K d) y5).eval fun y7 =>
  (math_bits_Div64_r8 (math_bits_Div64_K d) y7).eval fun y8 =>
  (math_bits_Div64_r9 (math_bits_Div64_K d) y8).eval fun y9 =>
  (math_bits_Div64_r10 (math_bits_Div64_K d) y9).eval fun y10 =>
  (math_bits_Div64_r11 (math_bits_Div64_K d) y10).eval fun y11 =>
  (math_bits_Div64_r12 (math_bits_Div64_K d) y11).eval fun y12 =>
  (math_bits_Div64_r13 (math_bits_Div64_K d) y12).eval fun y13 =>
  (math_bits_Div64_r14 (math_bits_Div64_K d) y13).eval fun y14 =>
  (math_bits_Div64_r15 (math_bits_Div64_K d) y14).eval fun y15 =>
  (math_bits_Div64_r16 (math_bits_Div64_K d) y15).eval fun y16 =>
  iter (math_bits_Div64_L4 d ) d y16)
def math_bits_Div64_J1  (d : Nat)  (z : Int × Int × Int × Bool) : Option (math_bits_Div64_R) :=
  (math_bits_Div64_r3 (math_bits_Div64_K d) z).eval fun y3 =>
  bif y3.2.2.2 then (none) else (math_bits_Div64_J2 d  y3)
def F_math_bits_Div64 (d : Nat) (x : math_bits_Div64_X) : Option math_bits_Div64_R :=
  (math_bits_Div64_r0 (math_bits_Div64_K d) (x.1.1, x.2.1.1, x.2.2.1.1)).eval fun y0 =>
  (math_bits_Div64_r1 (math_bits_Div64_K d) y0).eval fun y1 =>
  bif y1.2.2.2 then (none) else (math_bits_Div64_J1 d  y1)
theorem math_bits_Div64_cok (d : Nat) : COK prog (math_bits_Div64_sp (F_math_bits_Div64 d)) := by
  have hm : prog.follows .mixedOrders = true := mixed
  have hT := tys
  have hC0 : OrcOK prog (orc (math_bits_Div64_tab (math_bits_Div64_K d))) := orc_ok (by
    intro S hS
    simp only [math_bits_Div64_tab, List.mem_cons, List.not_mem_nil, or_false] at hS
    subst hS; exact math_bits_LeadingZeros64_cok d)
  have hC : OrcOK prog (orc (math_bits_Div64_tab (math_bits_Div64_K d))) := hC0
  refine cok_of (c := bodyOf f29) (fn := f29) hT (by kernel_rfl) (by kernel_rfl) (by decide) fun x r h w0 φ0 Q hend => ?_
  replace h : F_math_bits_Div64 d x = some r := h
  unfold F_math_bits_Div64 at h
  show Run prog w0 φ0 135 (bodyOf f29) ⟨[(0, .int .u64 x.1.1), (1, .int .u64 x.2.1.1), (2, .int .u64 x.2.2.1.1)], []⟩ Q
  refine run_seq ?_
  refine run_reg hm hT hC (math_bits_Div64_g0 (math_bits_Div64_K d) (x.1.1, x.2.1.1, x.2.2.1.1)) h ?_
  intro y0 h
  refine cn_then ?_
  refine run_join (r := r) (F := math_bits_Div64_J1 d ) (S := (fun z => ⟨[(0, .int .u64 z.1), (1, .int .u64 z.2.1), (2, .int .u64 z.2.2.1), (20, .bool z.2.2.2)], []⟩ : Int × Int × Int × Bool → St)) ?_ ?_
  ·
    intro z h
    unfold math_bits_Div64_J1 at h
    refine run_join (r := r) (F := math_bits_Div64_J2 d ) (S := (fun z => ⟨[(0, .int .u64 z.1), (1, .int .u64 z.2.1), (2, .int .u64 z.2.2.1), (24, .bool z.2.2.2)], []⟩ : Int × Int × Int × Bool → St)) ?_ ?_
    ·
      intro z h
      unfold math_bits_Div64_J2 at h
      refine run_seq ?_
      refine run_seq ?_
      refine run_reg hm hT hC (math_bits_Div64_g5 (math_bits_Div64_K d) z) h ?_
      intro y5 h
      refine cn_then ?_
      refine run_cond (v := y5.2.2.2) (by kernel_rfl) h ?_ ?_
      ·
        intro h
        refine run_seq ?_
        refine run_reg hm hT hC (math_bits_Div64_g6 (math_bits_Div64_K d) y5) h ?_
        intro y6 h
        refine cn_then ?_
        refine run_ret ?_
        refine cn_then_ret ?_
        cases h
        exact (hend _ (by kernel_rfl)).2
      ·
        intro h
        refine run_skip ?_
        refine cn_then ?_
        refine run_seq ?_
        refine run_reg hm hT hC (math_bits_Div64_g7 (math_bits_Div64_K d) y5) h ?_
        intro y7 h
        refine cn_then ?_
        refine run_seq ?_
        refine run_reg hm hT hC (math_bits_Div64_g8 (math_bits_Div64_K d) y7) h ?_
        intro y8 h
        refine cn_then ?_
        refine run_seq ?_
        refine run_reg hm hT hC (math_bits_Div64_g9 (math_bits_Div64_K d) y8) h ?_
        intro y9 h
        refine cn_then ?_
        refine run_seq ?_
        refine run_reg hm hT hC (math_bits_Div64_g10 (math_bits_Div64_K d) y9) h ?_
        intro y10 h
        refine cn_then ?_
        refine run_seq ?_
        refine run_reg hm hT hC (math_bits_Div64_g11 (math_bits_Div64_K d) y10) h ?_
        intro y11 h
        refine cn_then ?_
        refine run_seq ?_
        refine run_reg hm hT hC (math_bits_Div64_g12 (math_bits_Div64_K d) y11) h ?_
        intro y12 h
        refine cn_then ?_
        refine run_seq ?_
        refine run_reg hm hT hC (math_bits_Div64_g13 (math_bits_Div64_K d) y12) h ?_
        intro y13 h
        refine cn_then ?_
        refine run_seq ?_
        refine run_reg hm hT hC (math_bits_Div64_g14 (math_bits_Div64_K d) y13) h ?_
        intro y14 h
        refine cn_then ?_
        refine run_seq ?_
        refine run_reg hm hT hC (math_bits_Div64_g15 (math_bits_Div64_K d) y14) h ?_
        intro y15 h
        refine cn_then ?_
        refine run_seq ?_
        refine run_reg hm hT hC (math_bits_Div64_g16 (math_bits_Div64_K d) y15) h ?_
        intro y16 h
        refine cn_then ?_
        refine run_join (r := r) (F := math_bits_Div64_J3 d ) (S := (fun z => ⟨[(2, .int .u64 z.1), (8, .int .u64 z.2.1), (9, .int .u64 z.2.2.1), (10, .int .u64 z.2.2.2.1), (11, .int .u64 z.2.2.2.2.1), (13, .int .u64 z.2.2.2.2.2.1), (14, .int .u64 z.2.2.2.2.2.2.1), (15, .int .u64 z.2.2.2.2.2.2.2.1), (16, .int .u64 z.2.2.2.2.2.2.2.2)], []⟩ : Int × Int × Int × Int × Int × Int × Int × Int × Int → St)) ?_ ?_
        ·
          intro z h
          unfold math_bits_Div64_J3 at h
          refine run_seq ?_
          refine run_reg hm hT hC (math_bits_Div64_g21 (math_bits_Div64_K d) z) h ?_
          intro y21 h
          refine cn_then ?_
          refine run_seq ?_
          refine run_reg hm hT hC (math_bits_Div64_g22 (math_bits_Div64_K d) y21) h ?_
          intro y22 h
          refine cn_then ?_
          refine run_seq ?_
          refine run_reg hm hT hC (math_bits_Div64_g23 (math_bits_Div64_K d) y22) h ?_
          intro y23 h
          refine cn_then ?_
          refine run_join (r := r) (F := math_bits_Div64_J5 d ) (S := (fun z => ⟨[(2, .int .u64 z.1), (8, .int .u64 z.2.1), (9, .int .u64 z.2.2.1), (10, .int .u64 z.2.2.2.1), (14, .int .u64 z.2.2.2.2.1), (15, .int .u64 z.2.2.2.2.2.1), (16, .int .u64 z.2.2.2.2.2.2.1), (17, .int .u64 z.2.2.2.2.2.2.2.1), (18, .int .u64 z.2.2.2.2.2.2.2.2)], []⟩ : Int × Int × Int × Int × Int × Int × Int × Int × Int → St)) ?_ ?_
          ·
            intro z h
            unfold math_bits_Div64_J5 at h
            refine run_seq ?_
            refine run_reg hm hT hC (math_bits_Div64_g28 (math_bits_Div64_K d) z) h ?_
            intro y28 h
            refine cn_then ?_
            refine run_ret ?_
            cases h
            exact (hend _ (by kernel_rfl)).2
          intro hj5
          refine run_block ?_
          refine run_loop (G := iter (math_bits_Div64_L6 d )) (S := (fun x6 => ⟨[(2, .int .u64 x6.1), (8, .int .u64 x6.2.1), (9, .int .u64 x6.2.2.1), (10, .int .u64 x6.2.2.2.1), (14, .int .u64 x6.2.2.2.2.1), (15, .int .u64 x6.2.2.2.2.2.1), (16, .int .u64 x6.2.2.2.2.2.2.1), (17, .int .u64 x6.2.2.2.2.2.2.2.1), (18, .int .u64 x6.2.2.2.2.2.2.2.2)], []⟩ : Int × Int × Int × Int × Int × Int × Int × Int × Int → St)) (fun _ => rfl) ?_ d _ h
          intro n6 x6 h K6 hn6
          replace h : math_bits_Div64_L6 d  (iter (math_bits_Div64_L6 d ) n6) x6 = some r := h
          generalize iter (math_bits_Div64_L6 d ) n6 = self6 at h hn6
          unfold math_bits_Div64_L6 at h
          refine run_seq ?_
          refine run_seq ?_
          refine run_reg hm hT hC (math_bits_Div64_g24 (math_bits_Div64_K d) x6) h ?_
          intro y24 h
          refine cn_then ?_
          refine run_cond (v := y24.2.2.2.2.2.2.2.2.2) (by kernel_rfl) h ?_ ?_
          ·
            intro h
            refine run_skip ?_
            refine cn_then ?_
            refine run_block ?_
            refine run_seq ?_
            refine run_reg hm hT hC (math_bits_Div64_g25 (math_bits_Div64_K d) y24) h ?_
            intro y25 h
            refine cn_then ?_
            refine run_seq ?_
            refine run_reg hm hT hC (math_bits_Div64_g26 (math_bits_Div64_K d) y25) h ?_
            intro y26 h
            refine cn_then ?_
            refine run_seq ?_
            refine run_reg hm hT hC (math_bits_Div64_g27 (math_bits_Div64_K d) y26) h ?_
            intro y27 h
            refine cn_then ?_
            refine run_cond (v := y27.2.2.2.2.2.2.2.2.2) (by kernel_rfl) h ?_ ?_
            ·
              intro h
              refine run_exit ?_
              refine cn_blk_ne (by rfl) ?_
              refine cn_then_exit ?_
              refine cn_blk_eq ?_
              refine cn_num (s := ⟨[(2, .int .u64 y27.1), (8, .int .u64 y27.2.1), (9, .int .u64 y27.2.2.1), (10, .int .u64 y27.2.2.2.1), (14, .int .u64 y27.2.2.2.2.1), (15, .int .u64 y27.2.2.2.2.2.1), (16, .int .u64 y27.2.2.2.2.2.2.1), (17, .int .u64 y27.2.2.2.2.2.2.2.1), (18, .int .u64 y27.2.2.2.2.2.2.2.2.1)], []⟩) [120] (by kernel_rfl) ?_
              exact hj5 _ h
            ·
              intro h
              refine run_skip ?_
              refine cn_blk ?_
              refine cn_num (s := ⟨[(2, .int .u64 y27.1), (8, .int .u64 y27.2.1), (9, .int .u64 y27.2.2.1), (10, .int .u64 y27.2.2.2.1), (14, .int .u64 y27.2.2.2.2.1), (15, .int .u64 y27.2.2.2.2.2.1), (16, .int .u64 y27.2.2.2.2.2.2.1), (17, .int .u64 y27.2.2.2.2.2.2.2.1), (18, .int .u64 y27.2.2.2.2.2.2.2.2.1)], []⟩) [120] (by kernel_rfl) ?_
              exact hn6 _ h
          ·
            intro h
            refine run_exit ?_
            refine cn_then_exit ?_
            refine cn_then_exit ?_
            refine cn_blk_eq ?_
            refine cn_num (s := ⟨[(2, .int .u64 y24.1), (8, .int .u64 y24.2.1), (9, .int .u64 y24.2.2.1), (10, .int .u64 y24.2.2.2.1), (14, .int .u64 y24.2.2.2.2.1), (15, .int .u64 y24.2.2.2.2.2.1), (16, .int .u64 y24.2.2.2.2.2.2.1), (17, .int .u64 y24.2.2.2.2.2.2.2.1), (18, .int .u64 y24.2.2.2.2.2.2.2.2.1)], []⟩) [113] (by kernel_rfl) ?_
            exact hj5 _ h
        intro hj3
        refine run_block ?_
        refine run_loop (G := iter (math_bits_Div64_L4 d )) (S := (fun x4 => ⟨[(2, .int .u64 x4.1), (8, .int .u64 x4.2.1), (9, .int .u64 x4.2.2.1), (10, .int .u64 x4.2.2.2.1), (11, .int .u64 x4.2.2.2.2.1), (13, .int .u64 x4.2.2.2.2.2.1), (14, .int .u64 x4.2.2.2.2.2.2.1), (15, .int .u64 x4.2.2.2.2.2.2.2.1), (16, .int .u64 x4.2.2.2.2.2.2.2.2)], []⟩ : Int × Int × Int × Int × Int × Int × Int × Int × Int → St)) (fun _ => rfl) ?_ d _ h
        intro n4 x4 h K4 hn4
        replace h : math_bits_Div64_L4 d  (iter (math_bits_Div64_L4 d ) n4) x4 = some r := h
        generalize iter (math_bits_Div64_L4 d ) n4 = self4 at h hn4
        unfold math_bits_Div64_L4 at h
        refine run_seq ?_
        refine run_seq ?_
        refine run_reg hm hT hC (math_bits_Div64_g17 (math_bits_Div64_K d) x4) h ?_
        intro y17 h
        refine cn_then ?_
        refine run_cond (v := y17.2.2.2.2.2.2.2.2.2) (by kernel_rfl) h ?_ ?_
        ·
          intro h
          refine run_skip ?_
          refine cn_then ?_
          refine run_block ?_
          refine run_seq ?_
          refine run_reg hm hT hC (math_bits_Div64_g18 (math_bits_Div64_K d) y17) h ?_
          intro y18 h
          refine cn_then ?_
          refine run_seq ?_
          refine run_reg hm hT hC (math_bits_Div64_g19 (math_bits_Div64_K d) y18) h ?_
          intro y19 h
          refine cn_then ?_
          refine run_seq ?_
          refine run_reg hm hT hC (math_bits_Div64_g20 (math_bits_Div64_K d) y19) h ?_
          intro y20 h
          refine cn_then ?_
          refine run_cond (v := y20.2.2.2.2.2.2.2.2.2) (by kernel_rfl) h ?_ ?_
          ·
            intro h
            refine run_exit ?_
            refine cn_blk_ne (by rfl) ?_
            refine cn_then_exit ?_
            refine cn_blk_eq ?_
            refine cn_num (s := ⟨[(2, .int .u64 y20.1), (8, .int .u64 y20.2.1), (9, .int .u64 y20.2.2.1), (10, .int .u64 y20.2.2.2.1), (11, .int .u64 y20.2.2.2.2.1), (13, .int .u64 y20.2.2.2.2.2.1), (14, .int .u64 y20.2.2.2.2.2.2.1), (15, .int .u64 y20.2.2.2.2.2.2.2.1), (16, .int .u64 y20.2.2.2.2.2.2.2.2.1)], []⟩) [85] (by kernel_rfl) ?_
            exact hj3 _ h
          ·
            intro h
            refine run_skip ?_
            refine cn_blk ?_
            refine cn_num (s := ⟨[(2, .int .u64 y20.1), (8, .int .u64 y20.2.1), (9, .int .u64 y20.2.2.1), (10, .int .u64 y20.2.2.2.1), (11, .int .u64 y20.2.2.2.2.1), (13, .int .u64 y20.2.2.2.2.2.1), (14, .int .u64 y20.2.2.2.2.2.2.1), (15, .int .u64 y20.2.2.2.2.2.2.2.1), (16, .int .u64 y20.2.2.2.2.2.2.2.2.1)], []⟩) [85] (by kernel_rfl) ?_
            exact hn4 _ h
        ·
          intro h
          refine run_exit ?_
          refine cn_then_exit ?_
          refine cn_then_exit ?_
          refine cn_blk_eq ?_
          refine cn_num (s := ⟨[(2, .int .u64 y17.1), (8, .int .u64 y17.2.1), (9, .int .u64 y17.2.2.1), (10, .int .u64 y17.2.2.2.1), (11, .int .u64 y17.2.2.2.2.1), (13, .int .u64 y17.2.2.2.2.2.1), (14, .int .u64 y17.2.2.2.2.2.2.1), (15, .int .u64 y17.2.2.2.2.2.2.2.1), (16, .int .u64 y17.2.2.2.2.2.2.2.2.1)], []⟩) [78] (by kernel_rfl) ?_
          exact hj3 _ h
    intro hj2
    refine run_seq ?_
    refine run_reg hm hT hC (math_bits_Div64_g3 (math_bits_Div64_K d) z) h ?_
    intro y3 h
    refine cn_then ?_
    refine run_cond (v := y3.2.2.2) (by kernel_rfl) h ?_ ?_
    ·
      intro h
      cases h
    ·
      intro h
      refine run_skip ?_
      exact hj2 _ h
  intro hj1
  refine run_seq ?_
  refine run_reg hm hT hC (math_bits_Div64_g1 (math_bits_Div64_K d) y0) h ?_
  intro y1 h
  refine cn_then ?_
  refine run_cond (v := y1.2.2.2) (by kernel_rfl) h ?_ ?_
  ·
    intro h
    cases h
  ·
    intro h
    refine run_skip ?_
    exact hj1 _ h
abbrev ratio_wide_over_ps : List Pk := [.row Rbuu true, .row Ru false]
abbrev ratio_wide_over_X : Type := Dbuu × Du × Unit
abbrev ratio_wide_over_R : Type := Bool × Int × Int × Int
def ratio_wide_over_enc (r : ratio_wide_over_R) : LV × List Ob := (.tup [.agg [.bool r.1, .int .u64 r.2.1, .int .u64 r.2.2.1], .int .u64 r.2.2.2], [])
def ratio_wide_over_sp (F : ratio_wide_over_X → Option ratio_wide_over_R) : Go.Tx.Spec := ⟨43, ratio_wide_over_ps, ratio_wide_over_R, F, ratio_wide_over_enc⟩
abbrev ratio_wide_over_C : Type := (math_bits_Div64_X → Option math_bits_Div64_R) × Unit
def ratio_wide_over_K (d : Nat) : ratio_wide_over_C := (F_math_bits_Div64 d, ())
def ratio_wide_over_tab (C : ratio_wide_over_C) : List Go.Tx.Spec := [math_bits_Div64_sp C.1]
abbrev ratio_wide_over_Y0i : Type := Bool × Int × Int × Int
def ratio_wide_over_S0i (v : ratio_wide_over_Y0i) : St := ⟨[(0, .agg [.bool v.1, .int .u64 v.2.1, .int .u64 v.2.2.1]), (1, .int .u64 v.2.2.2)], []⟩
abbrev ratio_wide_over_Y0 : Type := Int × Bool × Int × Int × Bool × Int × Int
def ratio_wide_over_S0 (v : ratio_wide_over_Y0) : St := ⟨[(1, .int .u64 v.1), (2, .ptr 0 0), (4, .ptr 1 0)], [.cells [.bool v.2.1, .int .u64 v.2.2.1, .int .u64 v.2.2.2.1], .cells [.bool v.2.2.2.2.1, .int .u64 v.2.2.2.2.2.1, .int .u64 v.2.2.2.2.2.2]]⟩
def ratio_wide_over_r0 (C : ratio_wide_over_C) (v : ratio_wide_over_Y0i) : Dt ratio_wide_over_Y0 := (Dt.ret (v.2.2.2, v.1, v.2.1, v.2.2.1, false, (0:Int), (0:Int)))
theorem ratio_wide_over_g0 (C : ratio_wide_over_C) (v : ratio_wide_over_Y0i) : treg tysT (orc (ratio_wide_over_tab C)) 31 (regO (bodyOf f43) 0) false [(1, .any), (2, .any), (4, .any)] (ratio_wide_over_S0i v) some = (ratio_wide_over_r0 C v).eval fun y => some (ratio_wide_over_S0 y) := by kernel_rfl
abbrev ratio_wide_over_Y1 : Type := Int × Int × Int × Bool × Int × Int × Bool × Int × Int
def ratio_wide_over_S1 (v : ratio_wide_over_Y1) : St := ⟨[(1, .int .u64 v.1), (2, .ptr 0 0), (4, .ptr 1 0), (6, .int .u64 v.2.1), (7, .int .u64 v.2.2.1)], [.cells [.bool v.2.2.2.1, .int .u64 v.2.2.2.2.1, .int .u64 v.2.2.2.2.2.1], .cells [.bool v.2.2.2.2.2.2.1, .int .u64 v.2.2.2.2.2.2.2.1, .int .u64 v.2.2.2.2.2.2.2.2]]⟩
def ratio_wide_over_r1 (C : ratio_wide_over_C) (v : ratio_wide_over_Y0) : Dt ratio_wide_over_Y1 := (Dt.ite (v.1 == (0:Int)) Dt.fail (Dt.ite (v.1 == (0:Int)) Dt.fail (Dt.ret (v.1, (IntKind.wrap .u64 (Int.tdiv v.2.2.1 v.1)), (Int.tmod v.2.2.1 v.1), v.2.1, v.2.2.1, v.2.2.2.1, v.2.2.2.2.1, v.2.2.2.2.2.1, v.2.2.2.2.2.2))))
theorem ratio_wide_over_g1 (C : ratio_wide_over_C) (v : ratio_wide_over_Y0) : treg tysT (orc (ratio_wide_over_tab C)) 31 (regO (bodyOf f43) 1) true [(1, .any), (2, .any), (4, .any), (6, .any), (7, .any)] (ratio_wide_over_S0 v) some = (ratio_wide_over_r1 C v).eval fun y => some (ratio_wide_over_S1 y) := by kernel_rfl
abbrev ratio_wide_over_Y2 : Type := Int × Int × Int × Bool × Int × Int × Bool × Int × Int
def ratio_wide_over_S2 (v : ratio_wide_over_Y2) : St := ⟨[(2, .ptr 0 0), (4, .ptr 1 0), (6, .int .u64 v.1), (7, .int .u64 v.2.1), (8, .int .u64 v.2.2.1)], [.cells [.bool v.2.2.2.1, .int .u64 v.2.2.2.2.1, .int .u64 v.2.2.2.2.2.1], .cells [.bool v.2.2.2.2.2.2.1, .int .u64 v.2.2.2.2.2.2.2.1, .int .u64 v.2.2.2.2.2.2.2.2]]⟩
def ratio_wide_over_r2 (C : ratio_wide_over_C) (v : ratio_wide_over_Y1) : Dt ratio_wide_over_Y2 := (Dt.bnd (C.1 ((v.2.2.1, ()), (v.2.2.2.2.2.1, ()), (v.1, ()), ())) fun r1 => (Dt.ret (v.2.1, r1.2, r1.1, v.2.2.2.1, v.2.2.2.2.1, v.2.2.2.2.2.1, v.2.2.2.2.2.2.1, v.2.2.2.2.2.2.2.1, v.2.2.2.2.2.2.2.2)))
theorem ratio_wide_over_g2 (C : ratio_wide_over_C) (v : ratio_wide_over_Y1) : treg tysT (orc (ratio_wide_over_tab C)) 31 (regO (bodyOf f43) 2) false [(2, .any), (4, .any), (6, .any), (7, .any), (8, .any)] (ratio_wide_over_S1 v) some = (ratio_wide_over_r2 C v).eval fun y => some (ratio_wide_over_S2 y) := by kernel_rfl
abbrev ratio_wide_over_Y3 : Type := Int × Bool × Int × Int
def ratio_wide_over_S3 (v : ratio_wide_over_Y3) : St := ⟨[(4, .ptr 0 0), (5, .int .u64 v.1)], [.cells [.bool v.2.1, .int .u64 v.2.2.1, .int .u64 v.2.2.2]]⟩
def ratio_wide_over_r3 (C : ratio_wide_over_C) (v : ratio_wide_over_Y2) : Dt ratio_wide_over_Y3 := (Dt.ret (v.2.1, v.2.2.2.1, v.1, v.2.2.1))
theorem ratio_wide_over_g3 (C : ratio_wide_over_C) (v : ratio_wide_over_Y2) : treg tysT (orc (ratio_wide_over_tab C)) 31 (regO (bodyOf f43) 3) false [(4, .any), (5, .any)] (ratio_wide_over_S2 v) some = (ratio_wide_over_r3 C v).eval fun y => some (ratio_wide_over_S3 y) := by kernel_rfl
def F_ratio_wide_over (d : Nat) (x : ratio_wide_over_X) : Option ratio_wide_over_R :=
  (ratio_wide_over_r0 (ratio_wide_over_K d) (x.1.1, x.1.2.1, x.1.2.2.1, x.2.1.1)).eval fun y0 =>
  (ratio_wide_over_r1 (ratio_wide_over_K d) y0).eval fun y1 =>
  (ratio_wide_over_r2 (ratio_wide_over_K d) y1).eval fun y2 =>
  (ratio_wide_over_r3 (ratio_wide_over_K d) y2).eval fun y3 =>
  some (y3.2.1, y3.2.2.1, y3.2.2.2, y3.1)
theorem ratio_wide_over_cok (d : Nat) : COK prog (ratio_wide_over_sp (F_ratio_wide_over d)) := by
  have hm : prog.follows .mixedOrders = true := mixed
  have hT := tys
  have hC0 : OrcOK prog (orc (ratio_wide_over_tab (ratio_wide_over_K d))) := orc_ok (by
    intro S hS
    simp only [ratio_wide_over_tab, List.mem_cons, List.not_mem_nil, or_false] at hS
    subst hS; exact math_bits_Div64_cok d)
  have hC : OrcOK prog (orc (ratio_wide_over_tab (ratio_wide_over_K d))) := hC0
  refine cok_of (c := bodyOf f43) (fn := f43) hT (by kernel_rfl) (by kernel_rfl) (by decide) fun x r h w0 φ0 Q hend => ?_
  replace h : F_ratio_wide_over d x = some r := h
  unfold F_ratio_wide_over at h
  show Run prog w0 φ0 31 (bodyOf f43) ⟨[(0, .agg [.bool x.1.1, .int .u64 x.1.2.1, .int .u64 x.1.2.2.1]), (1, .int .u64 x.2.1.1)], []⟩ Q
  refine run_seq ?_
  refine run_reg hm hT hC (ratio_wide_over_g0 (ratio_wide_over_K d) (x.1.1, x.1.2.1, x.1.2.2.1, x.2.1.1)) h ?_
  intro y0 h
  refine cn_then ?_
  refine run_seq ?_
  refine run_reg hm hT hC (ratio_wide_over_g1 (ratio_wide_over_K d) y0) h ?_
  intro y1 h
  refine cn_then ?_
  refine run_seq ?_
  refine run_reg hm hT hC (ratio_wide_over_g2 (ratio_wide_over_K d) y1) h ?_
  intro y2 h
  refine cn_then ?_
  refine run_seq ?_
  refine run_reg hm hT hC (ratio_wide_over_g3 (ratio_wide_over_K d) y2) h ?_
  intro y3 h
  refine cn_then ?_
  refine run_ret ?_
  cases h
  exact (hend _ (by kernel_rfl)).2
abbrev ratio_build_ps : List Pk := [.row Rbuu true, .row Ru false, .row Ru false]
abbrev ratio_build_X : Type := Dbuu × Du × Du × Unit
abbrev ratio_build_R : Type := Int × Int × Int
def ratio_build_enc (r : ratio_build_R) : LV × List Ob := (.tup [.agg [.int .i64 r.1, .int .i64 r.2.1], .int .i64 r.2.2], [])
def ratio_build_sp (F : ratio_build_X → Option ratio_build_R) : Go.Tx.Spec := ⟨44, ratio_build_ps, ratio_build_R, F, ratio_build_enc⟩
abbrev ratio_build_C : Type := Unit
def ratio_build_K (_d : Nat) : ratio_build_C := ()
def ratio_build_tab (C : ratio_build_C) : List Go.Tx.Spec := []
abbrev ratio_build_Y0i : Type := Bool × Int × Int × Int × Int
def ratio_build_S0i (v : ratio_build_Y0i) : St := ⟨[(0, .agg [.bool v.1, .int .u64 v.2.1, .int .u64 v.2.2.1]), (1, .int .u64 v.2.2.2.1), (2, .int .u64 v.2.2.2.2)], []⟩
abbrev ratio_build_Y0 : Type := Int × Int × Bool × Int × Int × Int × Int
def ratio_build_S0 (v : ratio_build_Y0) : St := ⟨[(1, .int .u64 v.1), (2, .int .u64 v.2.1), (3, .ptr 0 0), (6, .ptr 1 0)], [.cells [.bool v.2.2.1, .int .u64 v.2.2.2.1, .int .u64 v.2.2.2.2.1], .cells [.int .i64 v.2.2.2.2.2.1, .int .i64 v.2.2.2.2.2.2]]⟩
def ratio_build_r0 (C : ratio_build_C) (v : ratio_build_Y0i) : Dt ratio_build_Y0 := (Dt.ret (v.2.2.2.1, v.2.2.2.2, v.1, v.2.1, v.2.2.1, (0:Int), (0:Int)))
theorem ratio_build_g0 (C : ratio_build_C) (v : ratio_build_Y0i) : treg tysT (orc (ratio_build_tab C)) 39 (regO (bodyOf f44) 0) false [(1, .any), (2, .any), (3, .any), (6, .any)] (ratio_build_S0i v) some = (ratio_build_r0 C v).eval fun y => some (ratio_build_S0 y) := by kernel_rfl
abbrev ratio_build_Y1 : Type := Int × Bool × Bool × Int × Int × Int × Int
def ratio_build_S1 (v : ratio_build_Y1) : St := ⟨[(2, .int .u64 v.1), (3, .ptr 0 0), (6, .ptr 1 0), (24, .bool v.2.1)], [.cells [.bool v.2.2.1, .int .u64 v.2.2.2.1, .int .u64 v.2.2.2.2.1], .cells [.int .i64 v.2.2.2.2.2.1, .int .i64 v.2.2.2.2.2.2]]⟩
def ratio_build_r1 (C : ratio_build_C) (v : ratio_build_Y0) : Dt ratio_build_Y1 := (Dt.ite (decide (v.2.2.2.1 > (0:Int))) (Dt.ret (v.2.1, true, v.2.2.1, v.2.2.2.1, v.2.2.2.2.1, v.2.2.2.2.2.1, v.2.2.2.2.2.2)) (Dt.ite (decide (v.2.2.2.2.1 > (9223372036854775807:Int))) (Dt.ret (v.2.1, true, v.2.2.1, v.2.2.2.1, v.2.2.2.2.1, v.2.2.2.2.2.1, v.2.2.2.2.2.2)) (Dt.ite (decide (v.1 > (0:Int))) (Dt.ret (v.2.1, true, v.2.2.1, v.2.2.2.1, v.2.2.2.2.1, v.2.2.2.2.2.1, v.2.2.2.2.2.2)) (Dt.ret (v.2.1, (decide (v.2.1 > (9223372036854775807:Int))), v.2.2.1, v.2.2.2.1, v.2.2.2.2.1, v.2.2.2.2.2.1, v.2.2.2.2.2.2)))))
theorem ratio_build_g1 (C : ratio_build_C) (v : ratio_build_Y0) : treg tysT (orc (ratio_build_tab C)) 39 (regO (bodyOf f44) 1) false [(2, .any), (3, .any), (6, .any), (24, .any)] (ratio_build_S0 v) some = (ratio_build_r1 C v).eval fun y => some (ratio_build_S1 y) := by kernel_rfl
abbrev ratio_build_Y2 : Type := Int × Int × Int
def ratio_build_S2 (v : ratio_build_Y2) : St := ⟨[(6, .ptr 0 0), (7, .int .i64 v.1)], [.cells [.int .i64 v.2.1, .int .i64 v.2.2]]⟩
def ratio_build_r2 (C : ratio_build_C) (v : ratio_build_Y1) : Dt ratio_build_Y2 := (Dt.ret ((16:Int), (0:Int), (0:Int)))
theorem ratio_build_g2 (C : ratio_build_C) (v : ratio_build_Y1) : treg tysT (orc (ratio_build_tab C)) 39 (regO (bodyOf f44) 2) false [(6, .any), (7, .any)] (ratio_build_S1 v) some = (ratio_build_r2 C v).eval fun y => some (ratio_build_S2 y) := by kernel_rfl
abbrev ratio_build_Y3 : Type := Bool × Int × Int × Int × Int × Int × Int
def ratio_build_S3 (v : ratio_build_Y3) : St := ⟨[(3, .ptr 0 0), (6, .ptr 1 0), (8, .ptr 2 0)], [.cells [.bool v.1, .int .u64 v.2.1, .int .u64 v.2.2.1], .cells [.int .i64 v.2.2.2.1, .int .i64 v.2.2.2.2.1], .cells [.int .i64 v.2.2.2.2.2.1, .int .i64 v.2.2.2.2.2.2]]⟩
def ratio_build_r3 (C : ratio_build_C) (v : ratio_build_Y1) : Dt ratio_build_Y3 := (Dt.ret (v.2.2.1, v.2.2.2.1, v.2.2.2.2.1, v.2.2.2.2.2.1, v.2.2.2.2.2.2, (IntKind.wrap .i64 v.2.2.2.2.1), (IntKind.wrap .i64 v.1)))
theorem ratio_build_g3 (C : ratio_build_C) (v : ratio_build_Y1) : treg tysT (orc (ratio_build_tab C)) 39 (regO (bodyOf f44) 3) false [(3, .any), (6, .any), (8, .any)] (ratio_build_S1 v) some = (ratio_build_r3 C v).eval fun y => some (ratio_build_S3 y) := by kernel_rfl
abbrev ratio_build_Y4 : Type := Bool × Int × Int × Int × Int
def ratio_build_S4 (v : ratio_build_Y4) : St := ⟨[(6, .ptr 0 0), (8, .ptr 1 0), (33, .bool v.1)], [.cells [.int .i64 v.2.1, .int .i64 v.2.2.1], .cells [.int .i64 v.2.2.2.1, .int .i64 v.2.2.2.2]]⟩
def ratio_build_r4 (C : ratio_build_C) (v : ratio_build_Y3) : Dt ratio_build_Y4 := (Dt.ret (v.1, v.2.2.2.1, v.2.2.2.2.1, v.2.2.2.2.2.1, v.2.2.2.2.2.2))
theorem ratio_build_g4 (C : ratio_build_C) (v : ratio_build_Y3) : treg tysT (orc (ratio_build_tab C)) 39 (regO (bodyOf f44) 4) false [(6, .any), (8, .any), (33, .any)] (ratio_build_S3 v) some = (ratio_build_r4 C v).eval fun y => some (ratio_build_S4 y) := by kernel_rfl
abbrev ratio_build_Y5 : Type := Int × Int × Int × Int
def ratio_build_S5 (v : ratio_build_Y5) : St := ⟨[(6, .ptr 0 0), (8, .ptr 1 0)], [.cells [.int .i64 v.1, .int .i64 v.2.1], .cells [.int .i64 v.2.2.1, .int .i64 v.2.2.2]]⟩
def ratio_build_r5 (C : ratio_build_C) (v : ratio_build_Y4) : Dt ratio_build_Y5 := (Dt.ret (v.2.1, v.2.2.1, (IntKind.wrap .i64 (0 - v.2.2.2.1)), v.2.2.2.2))
theorem ratio_build_g5 (C : ratio_build_C) (v : ratio_build_Y4) : treg tysT (orc (ratio_build_tab C)) 39 (regO (bodyOf f44) 5) false [(6, .any), (8, .any)] (ratio_build_S4 v) some = (ratio_build_r5 C v).eval fun y => some (ratio_build_S5 y) := by kernel_rfl
def ratio_build_r6 (C : ratio_build_C) (v : ratio_build_Y5) : Dt ratio_build_Y2 := (Dt.ret ((0:Int), v.2.2.1, v.2.2.2))
theorem ratio_build_g6 (C : ratio_build_C) (v : ratio_build_Y5) : treg tysT (orc (ratio_build_tab C)) 39 (regO (bodyOf f44) 6) false [(6, .any), (7, .any)] (ratio_build_S5 v) some = (ratio_build_r6 C v).eval fun y => some (ratio_build_S2 y) := by kernel_rfl
def ratio_build_J1  (d : Nat)  (z : Int × Int × Int × Int) : Option (ratio_build_R) :=
  (ratio_build_r6 (ratio_build_K d) z).eval fun y6 =>
  some (y6.2.1, y6.2.2, y6.1)
def F_ratio_build (d : Nat) (x : ratio_build_X) : Option ratio_build_R :=
  (ratio_build_r0 (ratio_build_K d) (x.1.1, x.1.2.1, x.1.2.2.1, x.2.1.1, x.2.2.1.1)).eval fun y0 =>
  (ratio_build_r1 (ratio_build_K d) y0).eval fun y1 =>
  bif y1.2.1 then ((ratio_build_r2 (ratio_build_K d) y1).eval fun y2 =>
  some (y2.2.1, y2.2.2, y2.1)) else ((ratio_build_r3 (ratio_build_K d) y1).eval fun y3 =>
  (ratio_build_r4 (ratio_build_K d) y3).eval fun y4 =>
  bif y4.1 then ((ratio_build_r5 (ratio_build_K d) y4).eval fun y5 =>
  ratio_build_J1 d  y5) else (ratio_build_J1 d  y4.2))
theorem ratio_build_cok (d : Nat) : COK prog (ratio_build_sp (F_ratio_build d)) := by
  have hm : prog.follows .mixedOrders = true := mixed
  have hT := tys
  have hC0 : OrcOK prog (orc (ratio_build_tab (ratio_build_K d))) := orc_ok (by
    intro S hS
    simp only [ratio_build_tab, List.mem_cons, List.not_mem_nil, or_false] at hS
    all_goals first | cases hS | exact hS.elim)
  have hC : OrcOK prog (orc (ratio_build_tab (ratio_build_K d))) := hC0
  refine cok_of (c := bodyOf f44) (fn := f44) hT (by kernel_rfl) (by kernel_rfl) (by decide) fun x r h w0 φ0 Q hend => ?_
  replace h : F_ratio_build d x = some r := h
  unfold F_ratio_build at h
  show Run prog w0 φ0 39 (bodyOf f44) ⟨[(0, .agg [.bool x.1.1, .int .u64 x.1.2.1, .int .u64 x.1.2.2.1]), (1, .int .u64 x.2.1.1), (2, .int .u64 x.2.2.1.1)], []⟩ Q
  refine run_seq ?_
  refine run_reg hm hT hC (ratio_build_g0 (ratio_build_K d) (x.1.1, x.1.2.1, x.1.2.2.1, x.2.1.1, x.2.2.1.1)) h ?_
  intro y0 h
  refine cn_then ?_
  refine run_seq ?_
  refine run_seq ?_
  refine run_reg hm hT hC (ratio_build_g1 (ratio_build_K d) y0) h ?_
  intro y1 h
  refine cn_then ?_
  refine run_cond (v := y1.2.1) (by kernel_rfl) h ?_ ?_
  ·
    intro h
    refine run_seq ?_
    refine run_reg hm hT hC (ratio_build_g2 (ratio_build_K d) y1) h ?_
    intro y2 h
    refine cn_then ?_
    refine run_ret ?_
    refine cn_then_ret ?_
    cases h
    exact (hend _ (by kernel_rfl)).2
  ·
    intro h
    refine run_skip ?_
    refine cn_then ?_
    refine run_seq ?_
    refine run_reg hm hT hC (ratio_build_g3 (ratio_build_K d) y1) h ?_
    intro y3 h
    refine cn_then ?_
    refine run_join (r := r) (F := ratio_build_J1 d ) (S := (fun z => ⟨[(6, .ptr 0 0), (8, .ptr 1 0)], [.cells [.int .i64 z.1, .int .i64 z.2.1], .cells [.int .i64 z.2.2.1, .int .i64 z.2.2.2]]⟩ : Int × Int × Int × Int → St)) ?_ ?_
    ·
      intro z h
      unfold ratio_build_J1 at h
      refine run_seq ?_
      refine run_reg hm hT hC (ratio_build_g6 (ratio_build_K d) z) h ?_
      intro y6 h
      refine cn_then ?_
      refine run_ret ?_
      cases h
      exact (hend _ (by kernel_rfl)).2
    intro hj1
    refine run_seq ?_
    refine run_reg hm hT hC (ratio_build_g4 (ratio_build_K d) y3) h ?_
    intro y4 h
    refine cn_then ?_
    refine run_cond (v := y4.1) (by kernel_rfl) h ?_ ?_
    ·
      intro h
      refine run_reg hm hT hC (ratio_build_g5 (ratio_build_K d) y4) h ?_
      intro y5 h
      exact hj1 _ h
    ·
      intro h
      refine run_skip ?_
      refine cn_num (s := ⟨[(6, .ptr 0 0), (8, .ptr 1 0)], [.cells [.int .i64 y4.2.1, .int .i64 y4.2.2.1], .cells [.int .i64 y4.2.2.2.1, .int .i64 y4.2.2.2.2]]⟩) [33] (by kernel_rfl) ?_
      exact hj1 _ h
abbrev ratio_Add_ps : List Pk := [.row Rii true, .row Rii true]
abbrev ratio_Add_X : Type := Dii × Dii × Unit
abbrev ratio_Add_R : Type := Int × Int × Int
def ratio_Add_enc (r : ratio_Add_R) : LV × List Ob := (.tup [.agg [.int .i64 r.1, .int .i64 r.2.1], .int .i64 r.2.2], [])
def ratio_Add_sp (F : ratio_Add_X → Option ratio_Add_R) : Go.Tx.Spec := ⟨31, ratio_Add_ps, ratio_Add_R, F, ratio_Add_enc⟩
abbrev ratio_Add_C : Type := (ratio_both_X → Option ratio_both_R) × (ratio_gcd_X → Option ratio_gcd_R) × (math_bits_Mul64_X → Option math_bits_Mul64_R) × (ratio_plus_X → Option ratio_plus_R) × (ratio_times_X → Option ratio_times_R) × (ratio_wide_over_X → Option ratio_wide_over_R) × (ratio_build_X → Option ratio_build_R) × Unit
def ratio_Add_K (d : Nat) : ratio_Add_C := (F_ratio_both d, F_ratio_gcd d, F_math_bits_Mul64 d, F_ratio_plus d, F_ratio_times d, F_ratio_wide_over d, F_ratio_build d, ())
def ratio_Add_tab (C : ratio_Add_C) : List Go.Tx.Spec := [ratio_both_sp C.1, ratio_gcd_sp C.2.1, math_bits_Mul64_sp C.2.2.1, ratio_plus_sp C.2.2.2.1, ratio_times_sp C.2.2.2.2.1, ratio_wide_over_sp C.2.2.2.2.2.1, ratio_build_sp C.2.2.2.2.2.2.1]
abbrev ratio_Add_Y0i : Type := Int × Int × Int × Int
def ratio_Add_S0i (v : ratio_Add_Y0i) : St := ⟨[(0, .agg [.int .i64 v.1, .int .i64 v.2.1]), (1, .agg [.int .i64 v.2.2.1, .int .i64 v.2.2.2])], []⟩
abbrev ratio_Add_Y0 : Type := Int × Int × Int × Int × Int × Int
def ratio_Add_S0 (v : ratio_Add_Y0) : St := ⟨[(2, .ptr 0 0), (3, .ptr 1 0), (4, .ptr 2 0)], [.cells [.int .i64 v.1, .int .i64 v.2.1], .cells [.int .i64 v.2.2.1, .int .i64 v.2.2.2.1], .cells [.int .i64 v.2.2.2.2.1, .int .i64 v.2.2.2.2.2]]⟩
def ratio_Add_r0 (C : ratio_Add_C) (v : ratio_Add_Y0i) : Dt ratio_Add_Y0 := (Dt.ret (v.1, v.2.1, v.2.2.1, v.2.2.2, (0:Int), (0:Int)))
theorem ratio_Add_g0 (C : ratio_Add_C) (v : ratio_Add_Y0i) : treg tysT (orc (ratio_Add_tab C)) 81 (regO (bodyOf f31) 0) false [(2, .any), (3, .any), (4, .any)] (ratio_Add_S0i v) some = (ratio_Add_r0 C v).eval fun y => some (ratio_Add_S0 y) := by kernel_rfl
abbrev ratio_Add_Y1 : Type := Int × Int × Int × Int × Int × Int × Int
def ratio_Add_S1 (v : ratio_Add_Y1) : St := ⟨[(2, .ptr 0 0), (3, .ptr 1 0), (4, .ptr 2 0), (6, .int .i64 v.1)], [.cells [.int .i64 v.2.1, .int .i64 v.2.2.1], .cells [.int .i64 v.2.2.2.1, .int .i64 v.2.2.2.2.1], .cells [.int .i64 v.2.2.2.2.2.1, .int .i64 v.2.2.2.2.2.2]]⟩
def ratio_Add_r1 (C : ratio_Add_C) (v : ratio_Add_Y0) : Dt ratio_Add_Y1 := (Dt.bnd (C.1 ((v.1, v.2.1, ()), (v.2.2.1, v.2.2.2.1, ()), ())) fun r1 => (Dt.ret (r1, v.1, v.2.1, v.2.2.1, v.2.2.2.1, v.2.2.2.2.1, v.2.2.2.2.2)))
theorem ratio_Add_g1 (C : ratio_Add_C) (v : ratio_Add_Y0) : treg tysT (orc (ratio_Add_tab C)) 81 (regO (bodyOf f31) 1) false [(2, .any), (3, .any), (4, .any), (6, .any)] (ratio_Add_S0 v) some = (ratio_Add_r1 C v).eval fun y => some (ratio_Add_S1 y) := by kernel_rfl
abbrev ratio_Add_Y2 : Type := Int × Bool × Int × Int × Int × Int × Int × Int
def ratio_Add_S2 (v : ratio_Add_Y2) : St := ⟨[(2, .ptr 0 0), (3, .ptr 1 0), (4, .ptr 2 0), (6, .int .i64 v.1), (18, .bool v.2.1)], [.cells [.int .i64 v.2.2.1, .int .i64 v.2.2.2.1], .cells [.int .i64 v.2.2.2.2.1, .int .i64 v.2.2.2.2.2.1], .cells [.int .i64 v.2.2.2.2.2.2.1, .int .i64 v.2.2.2.2.2.2.2]]⟩
def ratio_Add_r2 (C : ratio_Add_C) (v : ratio_Add_Y1) : Dt ratio_Add_Y2 := (Dt.ret (v.1, (v.1 != (0:Int)), v.2.1, v.2.2.1, v.2.2.2.1, v.2.2.2.2.1, v.2.2.2.2.2.1, v.2.2.2.2.2.2))
theorem ratio_Add_g2 (C : ratio_Add_C) (v : ratio_Add_Y1) : treg tysT (orc (ratio_Add_tab C)) 81 (regO (bodyOf f31) 2) false [(2, .any), (3, .any), (4, .any), (6, .any), (18, .any)] (ratio_Add_S1 v) some = (ratio_Add_r2 C v).eval fun y => some (ratio_Add_S2 y) := by kernel_rfl
abbrev ratio_Add_Y3 : Type := Int × Int × Int
def ratio_Add_S3 (v : ratio_Add_Y3) : St := ⟨[(4, .ptr 0 0), (5, .int .i64 v.1)], [.cells [.int .i64 v.2.1, .int .i64 v.2.2]]⟩
def ratio_Add_r3 (C : ratio_Add_C) (v : ratio_Add_Y2) : Dt ratio_Add_Y3 := (Dt.ret (v.1, (0:Int), (0:Int)))
theorem ratio_Add_g3 (C : ratio_Add_C) (v : ratio_Add_Y2) : treg tysT (orc (ratio_Add_tab C)) 81 (regO (bodyOf f31) 3) false [(4, .any), (5, .any)] (ratio_Add_S2 v) some = (ratio_Add_r3 C v).eval fun y => some (ratio_Add_S3 y) := by kernel_rfl
abbrev ratio_Add_Y4 : Type := Int × Int × Int × Int × Int × Int × Int
def ratio_Add_S4 (v : ratio_Add_Y4) : St := ⟨[(2, .ptr 0 0), (3, .ptr 1 0), (4, .ptr 2 0), (7, .int .i64 v.1)], [.cells [.int .i64 v.2.1, .int .i64 v.2.2.1], .cells [.int .i64 v.2.2.2.1, .int .i64 v.2.2.2.2.1], .cells [.int .i64 v.2.2.2.2.2.1, .int .i64 v.2.2.2.2.2.2]]⟩
def ratio_Add_r4 (C : ratio_Add_C) (v : ratio_Add_Y2) : Dt ratio_Add_Y4 := (Dt.bnd (C.2.1 (((IntKind.wrap .u64 v.2.2.2.1), ()), ((IntKind.wrap .u64 v.2.2.2.2.2.1), ()), ())) fun r1 => (Dt.ret ((IntKind.wrap .i64 r1), v.2.2.1, v.2.2.2.1, v.2.2.2.2.1, v.2.2.2.2.2.1, v.2.2.2.2.2.2.1, v.2.2.2.2.2.2.2)))
theorem ratio_Add_g4 (C : ratio_Add_C) (v : ratio_Add_Y2) : treg tysT (orc (ratio_Add_tab C)) 81 (regO (bodyOf f31) 4) false [(2, .any), (3, .any), (4, .any), (7, .any)] (ratio_Add_S2 v) some = (ratio_Add_r4 C v).eval fun y => some (ratio_Add_S4 y) := by kernel_rfl
abbrev ratio_Add_Y5 : Type := Int × Int × Int × Int × Int × Int × Int × Bool × Int × Int
def ratio_Add_S5 (v : ratio_Add_Y5) : St := ⟨[(2, .ptr 0 0), (3, .ptr 1 0), (4, .ptr 2 0), (7, .int .i64 v.1), (8, .ptr 3 0)], [.cells [.int .i64 v.2.1, .int .i64 v.2.2.1], .cells [.int .i64 v.2.2.2.1, .int .i64 v.2.2.2.2.1], .cells [.int .i64 v.2.2.2.2.2.1, .int .i64 v.2.2.2.2.2.2.1], .cells [.bool v.2.2.2.2.2.2.2.1, .int .u64 v.2.2.2.2.2.2.2.2.1, .int .u64 v.2.2.2.2.2.2.2.2.2]]⟩
def ratio_Add_r5 (C : ratio_Add_C) (v : ratio_Add_Y4) : Dt ratio_Add_Y5 := (Dt.ite (v.1 == (0:Int)) Dt.fail (Dt.bnd (C.2.2.2.2.1 ((v.2.1, ()), ((IntKind.wrap .i64 (Int.tdiv v.2.2.2.2.1 v.1)), ()), ())) fun r1 => (Dt.ite (v.1 == (0:Int)) Dt.fail (Dt.bnd (C.2.2.2.2.1 ((v.2.2.2.1, ()), ((IntKind.wrap .i64 (Int.tdiv v.2.2.1 v.1)), ()), ())) fun r2 => (Dt.bnd (C.2.2.2.1 ((r1.1, r1.2.1, r1.2.2, ()), (r2.1, r2.2.1, r2.2.2, ()), ())) fun r3 => (Dt.ret (v.1, v.2.1, v.2.2.1, v.2.2.2.1, v.2.2.2.2.1, v.2.2.2.2.2.1, v.2.2.2.2.2.2, r3.1, r3.2.1, r3.2.2)))))))
theorem ratio_Add_g5 (C : ratio_Add_C) (v : ratio_Add_Y4) : treg tysT (orc (ratio_Add_tab C)) 81 (regO (bodyOf f31) 5) true [(2, .any), (3, .any), (4, .any), (7, .any), (8, .any)] (ratio_Add_S4 v) some = (ratio_Add_r5 C v).eval fun y => some (ratio_Add_S5 y) := by kernel_rfl
abbrev ratio_Add_Y6 : Type := Int × Int × Int × Int × Int × Int × Int × Int × Bool × Int × Int
def ratio_Add_S6 (v : ratio_Add_Y6) : St := ⟨[(2, .ptr 0 0), (3, .ptr 1 0), (4, .ptr 2 0), (7, .int .i64 v.1), (8, .ptr 3 0), (10, .int .u64 v.2.1)], [.cells [.int .i64 v.2.2.1, .int .i64 v.2.2.2.1], .cells [.int .i64 v.2.2.2.2.1, .int .i64 v.2.2.2.2.2.1], .cells [.int .i64 v.2.2.2.2.2.2.1, .int .i64 v.2.2.2.2.2.2.2.1], .cells [.bool v.2.2.2.2.2.2.2.2.1, .int .u64 v.2.2.2.2.2.2.2.2.2.1, .int .u64 v.2.2.2.2.2.2.2.2.2.2]]⟩
def ratio_Add_r6 (C : ratio_Add_C) (v : ratio_Add_Y5) : Dt ratio_Add_Y6 := (Dt.bnd (C.2.2.2.2.2.1 ((v.2.2.2.2.2.2.2.1, v.2.2.2.2.2.2.2.2.1, v.2.2.2.2.2.2.2.2.2, ()), ((IntKind.wrap .u64 v.1), ()), ())) fun r1 => (Dt.ret (v.1, r1.2.2.2, v.2.1, v.2.2.1, v.2.2.2.1, v.2.2.2.2.1, v.2.2.2.2.2.1, v.2.2.2.2.2.2.1, v.2.2.2.2.2.2.2.1, v.2.2.2.2.2.2.2.2.1, v.2.2.2.2.2.2.2.2.2)))
theorem ratio_Add_g6 (C : ratio_Add_C) (v : ratio_Add_Y5) : treg tysT (orc (ratio_Add_tab C)) 81 (regO (bodyOf f31) 6) false [(2, .any), (3, .any), (4, .any), (7, .any), (8, .any), (10, .any)] (ratio_Add_S5 v) some = (ratio_Add_r6 C v).eval fun y => some (ratio_Add_S6 y) := by kernel_rfl
abbrev ratio_Add_Y7 : Type := Int × Int × Int × Int × Int × Int × Int × Int × Bool × Int × Int
def ratio_Add_S7 (v : ratio_Add_Y7) : St := ⟨[(2, .ptr 0 0), (3, .ptr 1 0), (4, .ptr 2 0), (7, .int .i64 v.1), (8, .ptr 3 0), (11, .int .u64 v.2.1)], [.cells [.int .i64 v.2.2.1, .int .i64 v.2.2.2.1], .cells [.int .i64 v.2.2.2.2.1, .int .i64 v.2.2.2.2.2.1], .cells [.int .i64 v.2.2.2.2.2.2.1, .int .i64 v.2.2.2.2.2.2.2.1], .cells [.bool v.2.2.2.2.2.2.2.2.1, .int .u64 v.2.2.2.2.2.2.2.2.2.1, .int .u64 v.2.2.2.2.2.2.2.2.2.2]]⟩
def ratio_Add_r7 (C : ratio_Add_C) (v : ratio_Add_Y6) : Dt ratio_Add_Y7 := (Dt.bnd (C.2.1 (((IntKind.wrap .u64 v.1), ()), (v.2.1, ()), ())) fun r1 => (Dt.ret (v.1, r1, v.2.2.1, v.2.2.2.1, v.2.2.2.2.1, v.2.2.2.2.2.1, v.2.2.2.2.2.2.1, v.2.2.2.2.2.2.2.1, v.2.2.2.2.2.2.2.2.1, v.2.2.2.2.2.2.2.2.2.1, v.2.2.2.2.2.2.2.2.2.2)))
theorem ratio_Add_g7 (C : ratio_Add_C) (v : ratio_Add_Y6) : treg tysT (orc (ratio_Add_tab C)) 81 (regO (bodyOf f31) 7) false [(2, .any), (3, .any), (4, .any), (7, .any), (8, .any), (11, .any)] (ratio_Add_S6 v) some = (ratio_Add_r7 C v).eval fun y => some (ratio_Add_S7 y) := by kernel_rfl
def ratio_Add_r8 (C : ratio_Add_C) (v : ratio_Add_Y7) : Dt ratio_Add_Y7 := (Dt.bnd (C.2.2.2.2.2.1 ((v.2.2.2.2.2.2.2.2.1, v.2.2.2.2.2.2.2.2.2.1, v.2.2.2.2.2.2.2.2.2.2, ()), (v.2.1, ()), ())) fun r1 => (Dt.ret (v.1, v.2.1, v.2.2.1, v.2.2.2.1, v.2.2.2.2.1, v.2.2.2.2.2.1, v.2.2.2.2.2.2.1, v.2.2.2.2.2.2.2.1, r1.1, r1.2.1, r1.2.2.1)))
theorem ratio_Add_g8 (C : ratio_Add_C) (v : ratio_Add_Y7) : treg tysT (orc (ratio_Add_tab C)) 81 (regO (bodyOf f31) 8) false [(2, .any), (3, .any), (4, .any), (7, .any), (8, .any), (11, .any)] (ratio_Add_S7 v) some = (ratio_Add_r8 C v).eval fun y => some (ratio_Add_S7 y) := by kernel_rfl
abbrev ratio_Add_Y9 : Type := Int × Int × Int × Int × Bool × Int × Int
def ratio_Add_S9 (v : ratio_Add_Y9) : St := ⟨[(4, .ptr 0 0), (8, .ptr 1 0), (12, .int .u64 v.1), (13, .int .u64 v.2.1)], [.cells [.int .i64 v.2.2.1, .int .i64 v.2.2.2.1], .cells [.bool v.2.2.2.2.1, .int .u64 v.2.2.2.2.2.1, .int .u64 v.2.2.2.2.2.2]]⟩
def ratio_Add_r9 (C : ratio_Add_C) (v : ratio_Add_Y7) : Dt ratio_Add_Y9 := (Dt.ite (v.1 == (0:Int)) Dt.fail (Dt.ite (v.2.1 == (0:Int)) Dt.fail (Dt.bnd (C.2.2.1 (((IntKind.wrap .u64 (IntKind.wrap .i64 (Int.tdiv v.2.2.2.1 v.1))), ()), ((IntKind.wrap .u64 (Int.tdiv (IntKind.wrap .u64 v.2.2.2.2.2.1) v.2.1)), ()), ())) fun r1 => (Dt.ret (r1.1, r1.2, v.2.2.2.2.2.2.1, v.2.2.2.2.2.2.2.1, v.2.2.2.2.2.2.2.2.1, v.2.2.2.2.2.2.2.2.2.1, v.2.2.2.2.2.2.2.2.2.2)))))
theorem ratio_Add_g9 (C : ratio_Add_C) (v : ratio_Add_Y7) : treg tysT (orc (ratio_Add_tab C)) 81 (regO (bodyOf f31) 9) true [(4, .any), (8, .any), (12, .any), (13, .any)] (ratio_Add_S7 v) some = (ratio_Add_r9 C v).eval fun y => some (ratio_Add_S9 y) := by kernel_rfl
def ratio_Add_r10 (C : ratio_Add_C) (v : ratio_Add_Y9) : Dt ratio_Add_Y3 := (Dt.bnd (C.2.2.2.2.2.2.1 ((v.2.2.2.2.1, v.2.2.2.2.2.1, v.2.2.2.2.2.2, ()), (v.1, ()), (v.2.1, ()), ())) fun r1 => (Dt.ret (r1.2.2, r1.1, r1.2.1)))
theorem ratio_Add_g10 (C : ratio_Add_C) (v : ratio_Add_Y9) : treg tysT (orc (ratio_Add_tab C)) 81 (regO (bodyOf f31) 10) false [(4, .any), (5, .any)] (ratio_Add_S9 v) some = (ratio_Add_r10 C v).eval fun y => some (ratio_Add_S3 y) := by kernel_rfl
def F_ratio_Add (d : Nat) (x : ratio_Add_X) : Option ratio_Add_R :=
  (ratio_Add_r0 (ratio_Add_K d) (x.1.1, x.1.2.1, x.2.1.1, x.2.1.2.1)).eval fun y0 =>
  (ratio_Add_r1 (ratio_Add_K d) y0).eval fun y1 =>
  (ratio_Add_r2 (ratio_Add_K d) y1).eval fun y2 =>
  bif y2.2.1 then ((ratio_Add_r3 (ratio_Add_K d) y2).eval fun y3 =>
  some (y3.2.1, y3.2.2, y3.1)) else ((ratio_Add_r4 (ratio_Add_K d) y2).eval fun y4 =>
  (ratio_Add_r5 (ratio_Add_K d) y4).eval fun y5 =>
  (ratio_Add_r6 (ratio_Add_K d) y5).eval fun y6 =>
  (ratio_Add_r7 (ratio_Add_K d) y6).eval fun y7 =>
  (ratio_Add_r8 (ratio_Add_K d) y7).eval fun y8 =>
  (ratio_Add_r9 (ratio_Add_K d) y8).eval fun y9 =>
  (ratio_Add_r10 (ratio_Add_K d) y9).eval fun y10 =>
  some (y10.2.1, y10.2.2, y10.1))
theorem ratio_Add_cok (d : Nat) : COK prog (ratio_Add_sp (F_ratio_Add d)) := by
  have hm : prog.follows .mixedOrders = true := mixed
  have hT := tys
  have hC0 : OrcOK prog (orc (ratio_Add_tab (ratio_Add_K d))) := orc_ok (by
    intro S hS
    simp only [ratio_Add_tab, List.mem_cons, List.not_mem_nil, or_false] at hS
    rcases hS with rfl | rfl | rfl | rfl | rfl | rfl | rfl
    · exact ratio_both_cok d
    · exact ratio_gcd_cok d
    · exact math_bits_Mul64_cok d
    · exact ratio_plus_cok d
    · exact ratio_times_cok d
    · exact ratio_wide_over_cok d
    · exact ratio_build_cok d)
  have hC : OrcOK prog (orc (ratio_Add_tab (ratio_Add_K d))) := hC0
  refine cok_of (c := bodyOf f31) (fn := f31) hT (by kernel_rfl) (by kernel_rfl) (by decide) fun x r h w0 φ0 Q hend => ?_
  replace h : F_ratio_Add d x = some r := h
  unfold F_ratio_Add at h
  show Run prog w0 φ0 81 (bodyOf f31) ⟨[(0, .agg [.int .i64 x.1.1, .int .i64 x.1.2.1]), (1, .agg [.int .i64 x.2.1.1, .int .i64 x.2.1.2.1])], []⟩ Q
  refine run_seq ?_
  refine run_reg hm hT hC (ratio_Add_g0 (ratio_Add_K d) (x.1.1, x.1.2.1, x.2.1.1, x.2.1.2.1)) h ?_
  intro y0 h
  refine cn_then ?_
  refine run_seq ?_
  refine run_seq ?_
  refine run_reg hm hT hC (ratio_Add_g1 (ratio_Add_K d) y0) h ?_
  intro y1 h
  refine cn_then ?_
  refine run_seq ?_
  refine run_reg hm hT hC (ratio_Add_g2 (ratio_Add_K d) y1) h ?_
  intro y2 h
  refine cn_then ?_
  refine run_cond (v := y2.2.1) (by kernel_rfl) h ?_ ?_
  ·
    intro h
    refine run_seq ?_
    refine run_reg hm hT hC (ratio_Add_g3 (ratio_Add_K d) y2) h ?_
    intro y3 h
    refine cn_then ?_
    refine run_ret ?_
    refine cn_then_ret ?_
    cases h
    exact (hend _ (by kernel_rfl)).2
  ·
    intro h
    refine run_skip ?_
    refine cn_then ?_
    refine run_seq ?_
    refine run_reg hm hT hC (ratio_Add_g4 (ratio_Add_K d) y2) h ?_
    intro y4 h
    refine cn_then ?_
    refine run_seq ?_
    refine run_reg hm hT hC (ratio_Add_g5 (ratio_Add_K d) y4) h ?_
    intro y5 h
    refine cn_then ?_
    refine run_seq ?_
    refine run_reg hm hT hC (ratio_Add_g6 (ratio_Add_K d) y5) h ?_
    intro y6 h
    refine cn_then ?_
    refine run_seq ?_
    refine run_reg hm hT hC (ratio_Add_g7 (ratio_Add_K d) y6) h ?_
    intro y7 h
    refine cn_then ?_
    refine run_seq ?_
    refine run_reg hm hT hC (ratio_Add_g8 (ratio_Add_K d) y7) h ?_
    intro y8 h
    refine cn_then ?_
    refine run_seq ?_
    refine run_reg hm hT hC (ratio_Add_g9 (ratio_Add_K d) y8) h ?_
    intro y9 h
    refine cn_then ?_
    refine run_seq ?_
    refine run_reg hm hT hC (ratio_Add_g10 (ratio_Add_K d) y9) h ?_
    intro y10 h
    refine cn_then ?_
    refine run_ret ?_
    cases h
    exact (hend _ (by kernel_rfl)).2
abbrev ratio_Sub_ps : List Pk := [.row Rii true, .row Rii true]
abbrev ratio_Sub_X : Type := Dii × Dii × Unit
abbrev ratio_Sub_R : Type := Int × Int × Int
def ratio_Sub_enc (r : ratio_Sub_R) : LV × List Ob := (.tup [.agg [.int .i64 r.1, .int .i64 r.2.1], .int .i64 r.2.2], [])
def ratio_Sub_sp (F : ratio_Sub_X → Option ratio_Sub_R) : Go.Tx.Spec := ⟨15, ratio_Sub_ps, ratio_Sub_R, F, ratio_Sub_enc⟩
abbrev ratio_Sub_C : Type := (ratio_both_X → Option ratio_both_R) × (ratio_Add_X → Option ratio_Add_R) × Unit
def ratio_Sub_K (d : Nat) : ratio_Sub_C := (F_ratio_both d, F_ratio_Add d, ())
def ratio_Sub_tab (C : ratio_Sub_C) : List Go.Tx.Spec := [ratio_both_sp C.1, ratio_Add_sp C.2.1]
abbrev ratio_Sub_Y0i : Type := Int × Int × Int × Int
def ratio_Sub_S0i (v : ratio_Sub_Y0i) : St := ⟨[(0, .agg [.int .i64 v.1, .int .i64 v.2.1]), (1, .agg [.int .i64 v.2.2.1, .int .i64 v.2.2.2])], []⟩
abbrev ratio_Sub_Y0 : Type := Int × Int × Int × Int × Int × Int
def ratio_Sub_S0 (v : ratio_Sub_Y0) : St := ⟨[(2, .ptr 0 0), (3, .ptr 1 0), (4, .ptr 2 0)], [.cells [.int .i64 v.1, .int .i64 v.2.1], .cells [.int .i64 v.2.2.1, .int .i64 v.2.2.2.1], .cells [.int .i64 v.2.2.2.2.1, .int .i64 v.2.2.2.2.2]]⟩
def ratio_Sub_r0 (C : ratio_Sub_C) (v : ratio_Sub_Y0i) : Dt ratio_Sub_Y0 := (Dt.ret (v.1, v.2.1, v.2.2.1, v.2.2.2, (0:Int), (0:Int)))
theorem ratio_Sub_g0 (C : ratio_Sub_C) (v : ratio_Sub_Y0i) : treg tysT (orc (ratio_Sub_tab C)) 23 (regO (bodyOf f15) 0) false [(2, .any), (3, .any), (4, .any)] (ratio_Sub_S0i v) some = (ratio_Sub_r0 C v).eval fun y => some (ratio_Sub_S0 y) := by kernel_rfl
abbrev ratio_Sub_Y1 : Type := Int × Int × Int × Int × Int × Int × Int
def ratio_Sub_S1 (v : ratio_Sub_Y1) : St := ⟨[(2, .ptr 0 0), (3, .ptr 1 0), (4, .ptr 2 0), (6, .int .i64 v.1)], [.cells [.int .i64 v.2.1, .int .i64 v.2.2.1], .cells [.int .i64 v.2.2.2.1, .int .i64 v.2.2.2.2.1], .cells [.int .i64 v.2.2.2.2.2.1, .int .i64 v.2.2.2.2.2.2]]⟩
def ratio_Sub_r1 (C : ratio_Sub_C) (v : ratio_Sub_Y0) : Dt ratio_Sub_Y1 := (Dt.bnd (C.1 ((v.1, v.2.1, ()), (v.2.2.1, v.2.2.2.1, ()), ())) fun r1 => (Dt.ret (r1, v.1, v.2.1, v.2.2.1, v.2.2.2.1, v.2.2.2.2.1, v.2.2.2.2.2)))
theorem ratio_Sub_g1 (C : ratio_Sub_C) (v : ratio_Sub_Y0) : treg tysT (orc (ratio_Sub_tab C)) 23 (regO (bodyOf f15) 1) false [(2, .any), (3, .any), (4, .any), (6, .any)] (ratio_Sub_S0 v) some = (ratio_Sub_r1 C v).eval fun y => some (ratio_Sub_S1 y) := by kernel_rfl
abbrev ratio_Sub_Y2 : Type := Int × Bool × Int × Int × Int × Int × Int × Int
def ratio_Sub_S2 (v : ratio_Sub_Y2) : St := ⟨[(2, .ptr 0 0), (3, .ptr 1 0), (4, .ptr 2 0), (6, .int .i64 v.1), (11, .bool v.2.1)], [.cells [.int .i64 v.2.2.1, .int .i64 v.2.2.2.1], .cells [.int .i64 v.2.2.2.2.1, .int .i64 v.2.2.2.2.2.1], .cells [.int .i64 v.2.2.2.2.2.2.1, .int .i64 v.2.2.2.2.2.2.2]]⟩
def ratio_Sub_r2 (C : ratio_Sub_C) (v : ratio_Sub_Y1) : Dt ratio_Sub_Y2 := (Dt.ret (v.1, (v.1 != (0:Int)), v.2.1, v.2.2.1, v.2.2.2.1, v.2.2.2.2.1, v.2.2.2.2.2.1, v.2.2.2.2.2.2))
theorem ratio_Sub_g2 (C : ratio_Sub_C) (v : ratio_Sub_Y1) : treg tysT (orc (ratio_Sub_tab C)) 23 (regO (bodyOf f15) 2) false [(2, .any), (3, .any), (4, .any), (6, .any), (11, .any)] (ratio_Sub_S1 v) some = (ratio_Sub_r2 C v).eval fun y => some (ratio_Sub_S2 y) := by kernel_rfl
abbrev ratio_Sub_Y3 : Type := Int × Int × Int
def ratio_Sub_S3 (v : ratio_Sub_Y3) : St := ⟨[(4, .ptr 0 0), (5, .int .i64 v.1)], [.cells [.int .i64 v.2.1, .int .i64 v.2.2]]⟩
def ratio_Sub_r3 (C : ratio_Sub_C) (v : ratio_Sub_Y2) : Dt ratio_Sub_Y3 := (Dt.ret (v.1, (0:Int), (0:Int)))
theorem ratio_Sub_g3 (C : ratio_Sub_C) (v : ratio_Sub_Y2) : treg tysT (orc (ratio_Sub_tab C)) 23 (regO (bodyOf f15) 3) false [(4, .any), (5, .any)] (ratio_Sub_S2 v) some = (ratio_Sub_r3 C v).eval fun y => some (ratio_Sub_S3 y) := by kernel_rfl
def ratio_Sub_r4 (C : ratio_Sub_C) (v : ratio_Sub_Y2) : Dt ratio_Sub_Y0 := (Dt.ret (v.2.2.1, v.2.2.2.1, (IntKind.wrap .i64 (0 - v.2.2.2.2.1)), v.2.2.2.2.2.1, v.2.2.2.2.2.2.1, v.2.2.2.2.2.2.2))
theorem ratio_Sub_g4 (C : ratio_Sub_C) (v : ratio_Sub_Y2) : treg tysT (orc (ratio_Sub_tab C)) 23 (regO (bodyOf f15) 4) false [(2, .any), (3, .any), (4, .any)] (ratio_Sub_S2 v) some = (ratio_Sub_r4 C v).eval fun y => some (ratio_Sub_S0 y) := by kernel_rfl
def ratio_Sub_r5 (C : ratio_Sub_C) (v : ratio_Sub_Y0) : Dt ratio_Sub_Y3 := (Dt.bnd (C.2.1 ((v.1, v.2.1, ()), (v.2.2.1, v.2.2.2.1, ()), ())) fun r1 => (Dt.ret (r1.2.2, r1.1, r1.2.1)))
theorem ratio_Sub_g5 (C : ratio_Sub_C) (v : ratio_Sub_Y0) : treg tysT (orc (ratio_Sub_tab C)) 23 (regO (bodyOf f15) 5) false [(4, .any), (5, .any)] (ratio_Sub_S0 v) some = (ratio_Sub_r5 C v).eval fun y => some (ratio_Sub_S3 y) := by kernel_rfl
def F_ratio_Sub (d : Nat) (x : ratio_Sub_X) : Option ratio_Sub_R :=
  (ratio_Sub_r0 (ratio_Sub_K d) (x.1.1, x.1.2.1, x.2.1.1, x.2.1.2.1)).eval fun y0 =>
  (ratio_Sub_r1 (ratio_Sub_K d) y0).eval fun y1 =>
  (ratio_Sub_r2 (ratio_Sub_K d) y1).eval fun y2 =>
  bif y2.2.1 then ((ratio_Sub_r3 (ratio_Sub_K d) y2).eval fun y3 =>
  some (y3.2.1, y3.2.2, y3.1)) else ((ratio_Sub_r4 (ratio_Sub_K d) y2).eval fun y4 =>
  (ratio_Sub_r5 (ratio_Sub_K d) y4).eval fun y5 =>
  some (y5.2.1, y5.2.2, y5.1))
theorem ratio_Sub_cok (d : Nat) : COK prog (ratio_Sub_sp (F_ratio_Sub d)) := by
  have hm : prog.follows .mixedOrders = true := mixed
  have hT := tys
  have hC0 : OrcOK prog (orc (ratio_Sub_tab (ratio_Sub_K d))) := orc_ok (by
    intro S hS
    simp only [ratio_Sub_tab, List.mem_cons, List.not_mem_nil, or_false] at hS
    rcases hS with rfl | rfl
    · exact ratio_both_cok d
    · exact ratio_Add_cok d)
  have hC : OrcOK prog (orc (ratio_Sub_tab (ratio_Sub_K d))) := hC0
  refine cok_of (c := bodyOf f15) (fn := f15) hT (by kernel_rfl) (by kernel_rfl) (by decide) fun x r h w0 φ0 Q hend => ?_
  replace h : F_ratio_Sub d x = some r := h
  unfold F_ratio_Sub at h
  show Run prog w0 φ0 23 (bodyOf f15) ⟨[(0, .agg [.int .i64 x.1.1, .int .i64 x.1.2.1]), (1, .agg [.int .i64 x.2.1.1, .int .i64 x.2.1.2.1])], []⟩ Q
  refine run_seq ?_
  refine run_reg hm hT hC (ratio_Sub_g0 (ratio_Sub_K d) (x.1.1, x.1.2.1, x.2.1.1, x.2.1.2.1)) h ?_
  intro y0 h
  refine cn_then ?_
  refine run_seq ?_
  refine run_seq ?_
  refine run_reg hm hT hC (ratio_Sub_g1 (ratio_Sub_K d) y0) h ?_
  intro y1 h
  refine cn_then ?_
  refine run_seq ?_
  refine run_reg hm hT hC (ratio_Sub_g2 (ratio_Sub_K d) y1) h ?_
  intro y2 h
  refine cn_then ?_
  refine run_cond (v := y2.2.1) (by kernel_rfl) h ?_ ?_
  ·
    intro h
    refine run_seq ?_
    refine run_reg hm hT hC (ratio_Sub_g3 (ratio_Sub_K d) y2) h ?_
    intro y3 h
    refine cn_then ?_
    refine run_ret ?_
    refine cn_then_ret ?_
    cases h
    exact (hend _ (by kernel_rfl)).2
  ·
    intro h
    refine run_skip ?_
    refine cn_then ?_
    refine run_seq ?_
    refine run_reg hm hT hC (ratio_Sub_g4 (ratio_Sub_K d) y2) h ?_
    intro y4 h
    refine cn_then ?_
    refine run_seq ?_
    refine run_reg hm hT hC (ratio_Sub_g5 (ratio_Sub_K d) y4) h ?_
    intro y5 h
    refine cn_then ?_
    refine run_ret ?_
    cases h
    exact (hend _ (by kernel_rfl)).2
end Go.Proofs.YtpojhcjdcbegiaaGreat
