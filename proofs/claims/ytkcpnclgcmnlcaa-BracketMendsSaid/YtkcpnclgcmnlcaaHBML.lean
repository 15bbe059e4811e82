/- Walks for the law. -/
import Derived.Test.YtkcpnclgcmnlcaaGj
set_option linter.unusedSimpArgs false
set_option linter.unusedVariables false
namespace Go.Proofs.Ytkcpnclgcmnlcaa
open Go Go.Tx Go.Proofs.Try
set_option maxRecDepth 100000
set_option maxHeartbeats 0
abbrev law10_given_ps : List Pk := []
abbrev law10_given_X : Type := Unit
abbrev law10_given_R : Type := List Diii
def law10_given_enc (r : law10_given_R) : LV × List Ob := (.agg [.rs 0], [.rows Riii r])
def law10_given_sp (F : law10_given_X → Option law10_given_R) : Go.Tx.Spec := ⟨47, law10_given_ps, law10_given_R, F, law10_given_enc⟩
abbrev law10_given_C : Type := Unit
def law10_given_K (_d : Nat) : law10_given_C := ()
def law10_given_tab (C : law10_given_C) : List Go.Tx.Spec := []
abbrev law10_given_Y0i : Type := Unit
def law10_given_S0i (v : law10_given_Y0i) : St := ⟨[], []⟩
abbrev law10_given_Y0 : Type := List Diii
def law10_given_S0 (v : law10_given_Y0) : St := ⟨[(0, .ptr 0 0)], [.cells [.rs 1], .rows Riii v]⟩
def law10_given_r0 (C : law10_given_C) (v : law10_given_Y0i) : Dt law10_given_Y0 := (Dt.ret ([] : List Diii))
theorem law10_given_g0 (C : law10_given_C) (v : law10_given_Y0i) : treg tysT (orc (law10_given_tab C)) 6 (regO (bodyOf f47) 0) false [(0, (.box [.own Riii]))] (law10_given_S0i v) some = (law10_given_r0 C v).eval fun y => some (law10_given_S0 y) := by kernel_rfl
def law10_given_r1 (C : law10_given_C) (v : law10_given_Y0) : Dt law10_given_Y0 := (Dt.ret ([((1:Int), (0:Int), (2:Int), ()), ((2:Int), (6:Int), (-1:Int), ()), ((5:Int), (0:Int), (0:Int), ())] : List Diii))
theorem law10_given_g1 (C : law10_given_C) (v : law10_given_Y0) : treg tysT (orc (law10_given_tab C)) 6 (regO (bodyOf f47) 1) false [(0, (.box [.own Riii]))] (law10_given_S0 v) some = (law10_given_r1 C v).eval fun y => some (law10_given_S0 y) := by kernel_rfl
def F_law10_given (d : Nat) (x : law10_given_X) : Option law10_given_R :=
  (law10_given_r0 (law10_given_K d) ()).eval fun y0 =>
  (law10_given_r1 (law10_given_K d) y0).eval fun y1 =>
  some y1
theorem law10_given_cok (d : Nat) : COK prog (law10_given_sp (F_law10_given d)) := by
  have hm : prog.follows .mixedOrders = true := mixed
  have hT := tys
  have hC : OrcOK prog (orc (law10_given_tab (law10_given_K d))) := orc_ok (by
    intro S hS
    simp only [law10_given_tab, List.mem_cons, List.not_mem_nil, or_false] at hS
    all_goals first | cases hS | exact hS.elim)
  refine cok_of (c := bodyOf f47) (fn := f47) hT (by kernel_rfl) (by kernel_rfl) (by decide) fun x r h w0 φ0 Q hend => ?_
  replace h : F_law10_given d x = some r := h
  unfold F_law10_given at h
  show Run prog w0 φ0 6 (bodyOf f47) ⟨[], []⟩ Q
  refine run_seq ?_
  refine run_reg hm hT hC (law10_given_g0 (law10_given_K d) ()) h ?_
  intro y0 h
  refine cn_then ?_
  refine run_seq ?_
  refine run_reg hm hT hC (law10_given_g1 (law10_given_K d) y0) h ?_
  intro y1 h
  refine cn_then ?_
  refine run_ret ?_
  cases h
  exact (hend _ (by kernel_rfl)).2
abbrev law10_at_ps : List Pk := [.row Ri false]
abbrev law10_at_X : Type := Di × Unit
abbrev law10_at_R : Type := Int × Int
def law10_at_enc (r : law10_at_R) : LV × List Ob := (.agg [.int .i64 r.1, .int .i64 r.2], [])
def law10_at_sp (F : law10_at_X → Option law10_at_R) : Go.Tx.Spec := ⟨48, law10_at_ps, law10_at_R, F, law10_at_enc⟩
abbrev law10_at_C : Type := Unit
def law10_at_K (_d : Nat) : law10_at_C := ()
def law10_at_tab (C : law10_at_C) : List Go.Tx.Spec := []
abbrev law10_at_Y0i : Type := Int
def law10_at_S0i (v : law10_at_Y0i) : St := ⟨[(0, .int .i64 v)], []⟩
abbrev law10_at_Y0 : Type := Int × Int × Int
def law10_at_S0 (v : law10_at_Y0) : St := ⟨[(0, .int .i64 v.1), (2, .ptr 0 0)], [.cells [.int .i64 v.2.1, .int .i64 v.2.2]]⟩
def law10_at_r0 (C : law10_at_C) (v : law10_at_Y0i) : Dt law10_at_Y0 := (Dt.ret (v, (0:Int), (0:Int)))
theorem law10_at_g0 (C : law10_at_C) (v : law10_at_Y0i) : treg tysT (orc (law10_at_tab C)) 5 (regO (bodyOf f48) 0) false [(0, .any), (2, .any)] (law10_at_S0i v) some = (law10_at_r0 C v).eval fun y => some (law10_at_S0 y) := by kernel_rfl
abbrev law10_at_Y1 : Type := Int × Int
def law10_at_S1 (v : law10_at_Y1) : St := ⟨[(2, .ptr 0 0)], [.cells [.int .i64 v.1, .int .i64 v.2]]⟩
def law10_at_r1 (C : law10_at_C) (v : law10_at_Y0) : Dt law10_at_Y1 := (Dt.ret (v.1, (1:Int)))
theorem law10_at_g1 (C : law10_at_C) (v : law10_at_Y0) : treg tysT (orc (law10_at_tab C)) 5 (regO (bodyOf f48) 1) false [(2, .any)] (law10_at_S0 v) some = (law10_at_r1 C v).eval fun y => some (law10_at_S1 y) := by kernel_rfl
def F_law10_at (d : Nat) (x : law10_at_X) : Option law10_at_R :=
  (law10_at_r0 (law10_at_K d) x.1.1).eval fun y0 =>
  (law10_at_r1 (law10_at_K d) y0).eval fun y1 =>
  some y1
theorem law10_at_cok (d : Nat) : COK prog (law10_at_sp (F_law10_at d)) := by
  have hm : prog.follows .mixedOrders = true := mixed
  have hT := tys
  have hC : OrcOK prog (orc (law10_at_tab (law10_at_K d))) := orc_ok (by
    intro S hS
    simp only [law10_at_tab, List.mem_cons, List.not_mem_nil, or_false] at hS
    all_goals first | cases hS | exact hS.elim)
  refine cok_of (c := bodyOf f48) (fn := f48) hT (by kernel_rfl) (by kernel_rfl) (by decide) fun x r h w0 φ0 Q hend => ?_
  replace h : F_law10_at d x = some r := h
  unfold F_law10_at at h
  show Run prog w0 φ0 5 (bodyOf f48) ⟨[(0, .int .i64 x.1.1)], []⟩ Q
  refine run_seq ?_
  refine run_reg hm hT hC (law10_at_g0 (law10_at_K d) x.1.1) h ?_
  intro y0 h
  refine cn_then ?_
  refine run_seq ?_
  refine run_reg hm hT hC (law10_at_g1 (law10_at_K d) y0) h ?_
  intro y1 h
  refine cn_then ?_
  refine run_ret ?_
  cases h
  exact (hend _ (by kernel_rfl)).2
abbrev law10_alive_ps : List Pk := []
abbrev law10_alive_X : Type := Unit
abbrev law10_alive_R : Type := Bool
def law10_alive_enc (r : law10_alive_R) : LV × List Ob := (.bool r, [])
def law10_alive_sp (F : law10_alive_X → Option law10_alive_R) : Go.Tx.Spec := ⟨46, law10_alive_ps, law10_alive_R, F, law10_alive_enc⟩
abbrev law10_alive_C : Type := (bracket_Set_X → Option bracket_Set_R) × (ref03_SameIDs_X → Option ref03_SameIDs_R) × (bracket_Build_X → Option bracket_Build_R) × (bracket_Winner_X → Option bracket_Winner_R) × (bracket_Path_X → Option bracket_Path_R) × (law10_given_X → Option law10_given_R) × (law10_at_X → Option law10_at_R) × Unit
def law10_alive_K (d : Nat) : law10_alive_C := (F_bracket_Set d, F_ref03_SameIDs d, F_bracket_Build d, F_bracket_Winner d, F_bracket_Path d, F_law10_given d, F_law10_at d, ())
def law10_alive_tab (C : law10_alive_C) : List Go.Tx.Spec := [bracket_Set_sp C.1, ref03_SameIDs_sp C.2.1, bracket_Build_sp C.2.2.1, bracket_Winner_sp C.2.2.2.1, bracket_Path_sp C.2.2.2.2.1, law10_given_sp C.2.2.2.2.2.1, law10_at_sp C.2.2.2.2.2.2.1]
abbrev law10_alive_Y0i : Type := Unit
def law10_alive_S0i (v : law10_alive_Y0i) : St := ⟨[], []⟩
def law10_alive_r0 (C : law10_alive_C) (v : law10_alive_Y0i) : Dt law10_alive_Y0i := (Dt.ret ())
theorem law10_alive_g0 (C : law10_alive_C) (v : law10_alive_Y0i) : treg tysT (orc (law10_alive_tab C)) 75 (regO (bodyOf f46) 0) false [] (law10_alive_S0i v) some = (law10_alive_r0 C v).eval fun y => some (law10_alive_S0i y) := by kernel_rfl
abbrev law10_alive_Y1 : Type := Int × List Di × List Di
def law10_alive_S1 (v : law10_alive_Y1) : St := ⟨[(1, .ptr 0 0), (2, .int .i64 v.1)], [.cells [.rs 1, .rs 2], .rows Ri v.2.1, .rows Ri v.2.2]⟩
def law10_alive_r1 (C : law10_alive_C) (v : law10_alive_Y0i) : Dt law10_alive_Y1 := (Dt.bnd (C.2.2.2.2.2.1 (())) fun r1 => (Dt.bnd (C.2.2.2.2.2.2.1 (((0:Int), ()), ())) fun r2 => (Dt.bnd (C.2.2.1 ((r1, ()), (r2.1, r2.2, ()), (([((1:Int), ()), ((2:Int), ()), ((-1:Int), ()), ((5:Int), ())] : List Di), ()), ())) fun r3 => (Dt.ret (r3.2.2, r3.1, r3.2.1)))))
theorem law10_alive_g1 (C : law10_alive_C) (v : law10_alive_Y0i) : treg tysT (orc (law10_alive_tab C)) 75 (regO (bodyOf f46) 1) false [(1, (.box [.own Ri, .own Ri])), (2, .any)] (law10_alive_S0i v) some = (law10_alive_r1 C v).eval fun y => some (law10_alive_S1 y) := by kernel_rfl
abbrev law10_alive_Y2 : Type := Int × Int × Int × List Di × List Di
def law10_alive_S2 (v : law10_alive_Y2) : St := ⟨[(1, .ptr 0 0), (2, .int .i64 v.1), (3, .int .i64 v.2.1), (4, .int .i64 v.2.2.1)], [.cells [.rs 1, .rs 2], .rows Ri v.2.2.2.1, .rows Ri v.2.2.2.2]⟩
def law10_alive_r2 (C : law10_alive_C) (v : law10_alive_Y1) : Dt law10_alive_Y2 := (Dt.bnd (C.2.2.2.1 ((v.2.1, v.2.2, ()), ())) fun r1 => (Dt.ret (v.1, r1.1, r1.2, v.2.1, v.2.2)))
theorem law10_alive_g2 (C : law10_alive_C) (v : law10_alive_Y1) : treg tysT (orc (law10_alive_tab C)) 75 (regO (bodyOf f46) 2) false [(1, (.box [.own Ri, .own Ri])), (2, .any), (3, .any), (4, .any)] (law10_alive_S1 v) some = (law10_alive_r2 C v).eval fun y => some (law10_alive_S2 y) := by kernel_rfl
abbrev law10_alive_Y3 : Type := Int × Int × Int × Int × List Di × List Di × List Di × List Di × List Di
def law10_alive_S3 (v : law10_alive_Y3) : St := ⟨[(1, .ptr 0 0), (2, .int .i64 v.1), (3, .int .i64 v.2.1), (4, .int .i64 v.2.2.1), (5, .ptr 3 0), (6, .rs 6), (7, .int .i64 v.2.2.2.1)], [.cells [.rs 1, .rs 2], .rows Ri v.2.2.2.2.1, .rows Ri v.2.2.2.2.2.1, .cells [.rs 4, .rs 5], .rows Ri v.2.2.2.2.2.2.1, .rows Ri v.2.2.2.2.2.2.2.1, .rows Ri v.2.2.2.2.2.2.2.2]⟩
def law10_alive_r3 (C : law10_alive_C) (v : law10_alive_Y2) : Dt law10_alive_Y3 := (Dt.bnd (C.2.2.2.2.2.1 (())) fun r1 => (Dt.bnd (C.2.2.2.2.2.2.1 (((0:Int), ()), ())) fun r2 => (Dt.bnd (C.1 ((v.2.2.2.1, v.2.2.2.2, ()), (r1, ()), (r2.1, r2.2, ()), ((1:Int), ()), ((-1:Int), ()), ())) fun r3 => (Dt.ret (v.1, v.2.1, v.2.2.1, r3.2.2.2, v.2.2.2.1, v.2.2.2.2, r3.1, r3.2.1, r3.2.2.1)))))
theorem law10_alive_g3 (C : law10_alive_C) (v : law10_alive_Y2) : treg tysT (orc (law10_alive_tab C)) 75 (regO (bodyOf f46) 3) true [(1, (.box [.own Ri, .own Ri])), (2, .any), (3, .any), (4, .any), (5, (.box [.own Ri, .own Ri])), (6, (.own Ri)), (7, .any)] (law10_alive_S2 v) some = (law10_alive_r3 C v).eval fun y => some (law10_alive_S3 y) := by kernel_rfl
abbrev law10_alive_Y4 : Type := Int × Int × Int × Int × Int × List Di × List Di × List Di × List Di × List Di × List Di
def law10_alive_S4 (v : law10_alive_Y4) : St := ⟨[(1, .ptr 0 0), (2, .int .i64 v.1), (3, .int .i64 v.2.1), (4, .int .i64 v.2.2.1), (5, .ptr 3 0), (6, .rs 6), (7, .int .i64 v.2.2.2.1), (8, .rs 7), (9, .int .i64 v.2.2.2.2.1)], [.cells [.rs 1, .rs 2], .rows Ri v.2.2.2.2.2.1, .rows Ri v.2.2.2.2.2.2.1, .cells [.rs 4, .rs 5], .rows Ri v.2.2.2.2.2.2.2.1, .rows Ri v.2.2.2.2.2.2.2.2.1, .rows Ri v.2.2.2.2.2.2.2.2.2.1, .rows Ri v.2.2.2.2.2.2.2.2.2.2]⟩
def law10_alive_r4 (C : law10_alive_C) (v : law10_alive_Y3) : Dt law10_alive_Y4 := (Dt.bnd (C.2.2.2.2.1 ((v.2.2.2.2.1, v.2.2.2.2.2.1, ()), ((3:Int), ()), ())) fun r1 => (Dt.ret (v.1, v.2.1, v.2.2.1, v.2.2.2.1, r1.2, v.2.2.2.2.1, v.2.2.2.2.2.1, v.2.2.2.2.2.2.1, v.2.2.2.2.2.2.2.1, v.2.2.2.2.2.2.2.2, r1.1)))
theorem law10_alive_g4 (C : law10_alive_C) (v : law10_alive_Y3) : treg tysT (orc (law10_alive_tab C)) 75 (regO (bodyOf f46) 4) false [(1, (.box [.own Ri, .own Ri])), (2, .any), (3, .any), (4, .any), (5, (.box [.own Ri, .own Ri])), (6, (.own Ri)), (7, .any), (8, (.own Ri)), (9, .any)] (law10_alive_S3 v) some = (law10_alive_r4 C v).eval fun y => some (law10_alive_S4 y) := by kernel_rfl
abbrev law10_alive_Y5 : Type := Bool
def law10_alive_S5 (v : law10_alive_Y5) : St := ⟨[(0, .bool v)], []⟩
def law10_alive_r5 (C : law10_alive_C) (v : law10_alive_Y4) : Dt law10_alive_Y5 := (Dt.ite (v.1 == (0:Int)) (Dt.bnd (C.2.1 ((v.2.2.2.2.2.2.1, ()), (([((2:Int), ()), ((2:Int), ()), ((5:Int), ())] : List Di), ()), ())) fun r1 => (Dt.ite r1 (Dt.ite (v.2.2.1 == (0:Int)) (Dt.ite (v.2.1 == (2:Int)) (Dt.ite (v.2.2.2.1 == (0:Int)) (Dt.bnd (C.2.1 ((v.2.2.2.2.2.2.2.2.1, ()), (([((1:Int), ()), ((1:Int), ()), ((5:Int), ())] : List Di), ()), ())) fun r2 => (Dt.ite r2 (Dt.bnd (C.2.1 ((v.2.2.2.2.2.2.2.2.2.1, ()), (([((1:Int), ()), ((0:Int), ())] : List Di), ()), ())) fun r3 => (Dt.ite r3 (Dt.ite (v.2.2.2.2.1 == (0:Int)) (Dt.bnd (C.2.1 ((v.2.2.2.2.2.2.2.2.2.2, ()), (([((2:Int), ()), ((0:Int), ())] : List Di), ()), ())) fun r4 => (Dt.ret r4)) (Dt.ret false)) (Dt.ret false))) (Dt.ret false))) (Dt.ret false)) (Dt.ret false)) (Dt.ret false)) (Dt.ret false))) (Dt.ret false))
theorem law10_alive_g5 (C : law10_alive_C) (v : law10_alive_Y4) : treg tysT (orc (law10_alive_tab C)) 75 (regO (bodyOf f46) 5) false [(0, .any)] (law10_alive_S4 v) some = (law10_alive_r5 C v).eval fun y => some (law10_alive_S5 y) := by kernel_rfl
def F_law10_alive (d : Nat) (x : law10_alive_X) : Option law10_alive_R :=
  (law10_alive_r0 (law10_alive_K d) ()).eval fun y0 =>
  (law10_alive_r1 (law10_alive_K d) ()).eval fun y1 =>
  (law10_alive_r2 (law10_alive_K d) y1).eval fun y2 =>
  (law10_alive_r3 (law10_alive_K d) y2).eval fun y3 =>
  (law10_alive_r4 (law10_alive_K d) y3).eval fun y4 =>
  (law10_alive_r5 (law10_alive_K d) y4).eval fun y5 =>
  some y5
theorem law10_alive_cok (d : Nat) : COK prog (law10_alive_sp (F_law10_alive d)) := by
  have hm : prog.follows .mixedOrders = true := mixed
  have hT := tys
  have hC : OrcOK prog (orc (law10_alive_tab (law10_alive_K d))) := orc_ok (by
    intro S hS
    simp only [law10_alive_tab, List.mem_cons, List.not_mem_nil, or_false] at hS
    rcases hS with rfl | rfl | rfl | rfl | rfl | rfl | rfl
    · exact bracket_Set_cok d
    · exact ref03_SameIDs_cok d
    · exact bracket_Build_cok d
    · exact bracket_Winner_cok d
    · exact bracket_Path_cok d
    · exact law10_given_cok d
    · exact law10_at_cok d)
  refine cok_of (c := bodyOf f46) (fn := f46) hT (by kernel_rfl) (by kernel_rfl) (by decide) fun x r h w0 φ0 Q hend => ?_
  replace h : F_law10_alive d x = some r := h
  unfold F_law10_alive at h
  show Run prog w0 φ0 75 (bodyOf f46) ⟨[], []⟩ Q
  refine run_seq ?_
  refine run_reg hm hT hC (law10_alive_g0 (law10_alive_K d) ()) h ?_
  intro y0 h
  refine cn_then ?_
  refine run_seq ?_
  refine run_reg hm hT hC (law10_alive_g1 (law10_alive_K d) ()) h ?_
  intro y1 h
  refine cn_then ?_
  refine run_seq ?_
  refine run_reg hm hT hC (law10_alive_g2 (law10_alive_K d) y1) h ?_
  intro y2 h
  refine cn_then ?_
  refine run_seq ?_
  refine run_reg hm hT hC (law10_alive_g3 (law10_alive_K d) y2) h ?_
  intro y3 h
  refine cn_then ?_
  refine run_seq ?_
  refine run_reg hm hT hC (law10_alive_g4 (law10_alive_K d) y3) h ?_
  intro y4 h
  refine cn_then ?_
  refine run_seq ?_
  refine run_reg hm hT hC (law10_alive_g5 (law10_alive_K d) y4) h ?_
  intro y5 h
  refine cn_then ?_
  refine run_ret ?_
  cases h
  exact (hend _ (by kernel_rfl)).2
end Go.Proofs.Ytkcpnclgcmnlcaa

namespace Go.Proofs.Ytkcpnclgcmnlcaa
open Go Go.Tx Go.Proofs.Try
set_option maxRecDepth 100000
set_option maxHeartbeats 0
abbrev law10_fit_ps : List Pk := [.row RLiELiE true, .row RLiiiE true, .row Rii true]
abbrev law10_fit_X : Type := DLiELiE × DLiiiE × Dii × Unit
abbrev law10_fit_R : Type := Bool
def law10_fit_enc (r : law10_fit_R) : LV × List Ob := (.bool r, [])
def law10_fit_sp (F : law10_fit_X → Option law10_fit_R) : Go.Tx.Spec := ⟨49, law10_fit_ps, law10_fit_R, F, law10_fit_enc⟩
abbrev law10_fit_C : Type := (ref03_Great_X → Option ref03_Great_R) × (ref10_Great_X → Option ref10_Great_R) × (ref10_Check_X → Option ref10_Check_R) × (ref03_Timed_X → Option ref03_Timed_R) × (ref10_Known_X → Option ref10_Known_R) × Unit
def law10_fit_K (d : Nat) : law10_fit_C := (F_ref03_Great d, F_ref10_Great d, F_ref10_Check d, F_ref03_Timed d, F_ref10_Known d, ())
def law10_fit_tab (C : law10_fit_C) : List Go.Tx.Spec := [ref03_Great_sp C.1, ref10_Great_sp C.2.1, ref10_Check_sp C.2.2.1, ref03_Timed_sp C.2.2.2.1, ref10_Known_sp C.2.2.2.2.1]
abbrev law10_fit_Y0i : Type := List Di × List Di × List Diii × Int × Int
def law10_fit_S0i (v : law10_fit_Y0i) : St := ⟨[(0, .agg [.fz Ri v.1, .fz Ri v.2.1]), (1, .agg [.fz Riii v.2.2.1]), (2, .agg [.int .i64 v.2.2.2.1, .int .i64 v.2.2.2.2])], []⟩
abbrev law10_fit_Y0 : Type := List Di × List Di × List Diii × Int × Int
def law10_fit_S0 (v : law10_fit_Y0) : St := ⟨[(3, .ptr 0 0), (4, .ptr 1 0), (5, .ptr 2 0)], [.cells [.fz Ri v.1, .fz Ri v.2.1], .cells [.fz Riii v.2.2.1], .cells [.int .i64 v.2.2.2.1, .int .i64 v.2.2.2.2]]⟩
def law10_fit_r0 (C : law10_fit_C) (v : law10_fit_Y0i) : Dt law10_fit_Y0 := (Dt.ret (v.1, v.2.1, v.2.2.1, v.2.2.2.1, v.2.2.2.2))
theorem law10_fit_g0 (C : law10_fit_C) (v : law10_fit_Y0i) : treg tysT (orc (law10_fit_tab C)) 32 (regO (bodyOf f49) 0) false [(3, (.box [.val Ri, .val Ri])), (4, (.box [.val Riii])), (5, .any)] (law10_fit_S0i v) some = (law10_fit_r0 C v).eval fun y => some (law10_fit_S0 y) := by kernel_rfl
abbrev law10_fit_Y1 : Type := Bool
def law10_fit_S1 (v : law10_fit_Y1) : St := ⟨[(6, .bool v)], []⟩
def law10_fit_r1 (C : law10_fit_C) (v : law10_fit_Y0) : Dt law10_fit_Y1 := (Dt.bnd (C.2.1 ((v.1, v.2.1, ()), ())) fun r1 => (Dt.ite (!r1) (Dt.bnd (C.1 ((v.2.2.1, ()), ())) fun r2 => (Dt.ite (!r2) (Dt.bnd (C.2.2.1 ((v.1, v.2.1, ()), ())) fun r3 => (Dt.ite (r3 == (0:Int)) (Dt.bnd (C.2.2.2.1 ((v.2.2.1, ()), (v.2.2.2.1, v.2.2.2.2, ()), ())) fun r4 => (Dt.ite (r4 == (0:Int)) (Dt.bnd (C.2.2.2.2.1 ((v.2.2.1, ()), (v.1, ()), ())) fun r5 => (Dt.ret r5)) (Dt.ret false))) (Dt.ret false))) (Dt.ret false))) (Dt.ret false)))
theorem law10_fit_g1 (C : law10_fit_C) (v : law10_fit_Y0) : treg tysT (orc (law10_fit_tab C)) 32 (regO (bodyOf f49) 1) false [(6, .any)] (law10_fit_S0 v) some = (law10_fit_r1 C v).eval fun y => some (law10_fit_S1 y) := by kernel_rfl
def F_law10_fit (d : Nat) (x : law10_fit_X) : Option law10_fit_R :=
  (law10_fit_r0 (law10_fit_K d) (x.1.1, x.1.2.1, x.2.1.1, x.2.2.1.1, x.2.2.1.2.1)).eval fun y0 =>
  (law10_fit_r1 (law10_fit_K d) y0).eval fun y1 =>
  some y1
theorem law10_fit_cok (d : Nat) : COK prog (law10_fit_sp (F_law10_fit d)) := by
  have hm : prog.follows .mixedOrders = true := mixed
  have hT := tys
  have hC : OrcOK prog (orc (law10_fit_tab (law10_fit_K d))) := orc_ok (by
    intro S hS
    simp only [law10_fit_tab, List.mem_cons, List.not_mem_nil, or_false] at hS
    rcases hS with rfl | rfl | rfl | rfl | rfl
    · exact ref03_Great_cok d
    · exact ref10_Great_cok d
    · exact ref10_Check_cok d
    · exact ref03_Timed_cok d
    · exact ref10_Known_cok d)
  refine cok_of (c := bodyOf f49) (fn := f49) hT (by kernel_rfl) (by kernel_rfl) (by decide) fun x r h w0 φ0 Q hend => ?_
  replace h : F_law10_fit d x = some r := h
  unfold F_law10_fit at h
  show Run prog w0 φ0 32 (bodyOf f49) ⟨[(0, .agg [.fz Ri x.1.1, .fz Ri x.1.2.1]), (1, .agg [.fz Riii x.2.1.1]), (2, .agg [.int .i64 x.2.2.1.1, .int .i64 x.2.2.1.2.1])], []⟩ Q
  refine run_seq ?_
  refine run_reg hm hT hC (law10_fit_g0 (law10_fit_K d) (x.1.1, x.1.2.1, x.2.1.1, x.2.2.1.1, x.2.2.1.2.1)) h ?_
  intro y0 h
  refine cn_then ?_
  refine run_seq ?_
  refine run_reg hm hT hC (law10_fit_g1 (law10_fit_K d) y0) h ?_
  intro y1 h
  refine cn_then ?_
  refine run_ret ?_
  cases h
  exact (hend _ (by kernel_rfl)).2
abbrev law10_BracketMends_ps : List Pk := [.row RLiELiE true, .row RLiiiE true, .row Rii true, .row Ri false, .row Ri false]
abbrev law10_BracketMends_X : Type := DLiELiE × DLiiiE × Dii × Di × Di × Unit
abbrev law10_BracketMends_R : Type := Bool
def law10_BracketMends_enc (r : law10_BracketMends_R) : LV × List Ob := (.bool r, [])
def law10_BracketMends_sp (F : law10_BracketMends_X → Option law10_BracketMends_R) : Go.Tx.Spec := ⟨8, law10_BracketMends_ps, law10_BracketMends_R, F, law10_BracketMends_enc⟩
abbrev law10_BracketMends_C : Type := (bracket_Set_X → Option bracket_Set_R) × (bracket_Path_X → Option bracket_Path_R) × (bracket_Right_X → Option bracket_Right_R) × (law10_alive_X → Option law10_alive_R) × (law10_fit_X → Option law10_fit_R) × Unit
def law10_BracketMends_K (d : Nat) : law10_BracketMends_C := (F_bracket_Set d, F_bracket_Path d, F_bracket_Right d, F_law10_alive d, F_law10_fit d, ())
def law10_BracketMends_tab (C : law10_BracketMends_C) : List Go.Tx.Spec := [bracket_Set_sp C.1, bracket_Path_sp C.2.1, bracket_Right_sp C.2.2.1, law10_alive_sp C.2.2.2.1, law10_fit_sp C.2.2.2.2.1]
abbrev law10_BracketMends_Y0i : Type := List Di × List Di × List Diii × Int × Int × Int × Int
def law10_BracketMends_S0i (v : law10_BracketMends_Y0i) : St := ⟨[(0, .agg [.fz Ri v.1, .fz Ri v.2.1]), (1, .agg [.fz Riii v.2.2.1]), (2, .agg [.int .i64 v.2.2.2.1, .int .i64 v.2.2.2.2.1]), (3, .int .i64 v.2.2.2.2.2.1), (4, .int .i64 v.2.2.2.2.2.2)], []⟩
abbrev law10_BracketMends_Y0 : Type := Int × Int × List Di × List Di × List Diii × Int × Int
def law10_BracketMends_S0 (v : law10_BracketMends_Y0) : St := ⟨[(3, .int .i64 v.1), (4, .int .i64 v.2.1), (5, .ptr 0 0), (6, .ptr 1 0), (7, .ptr 2 0)], [.cells [.fz Ri v.2.2.1, .fz Ri v.2.2.2.1], .cells [.fz Riii v.2.2.2.2.1], .cells [.int .i64 v.2.2.2.2.2.1, .int .i64 v.2.2.2.2.2.2]]⟩
def law10_BracketMends_r0 (C : law10_BracketMends_C) (v : law10_BracketMends_Y0i) : Dt law10_BracketMends_Y0 := (Dt.ret (v.2.2.2.2.2.1, v.2.2.2.2.2.2, v.1, v.2.1, v.2.2.1, v.2.2.2.1, v.2.2.2.2.1))
theorem law10_BracketMends_g0 (C : law10_BracketMends_C) (v : law10_BracketMends_Y0i) : treg tysT (orc (law10_BracketMends_tab C)) 234 (regO (bodyOf f8) 0) false [(3, .any), (4, .any), (5, (.box [.val Ri, .val Ri])), (6, (.box [.val Riii])), (7, .any)] (law10_BracketMends_S0i v) some = (law10_BracketMends_r0 C v).eval fun y => some (law10_BracketMends_S0 y) := by kernel_rfl
abbrev law10_BracketMends_Y1 : Type := Int × Int × Bool × List Di × List Di × List Diii × Int × Int
def law10_BracketMends_S1 (v : law10_BracketMends_Y1) : St := ⟨[(3, .int .i64 v.1), (4, .int .i64 v.2.1), (5, .ptr 0 0), (6, .ptr 1 0), (7, .ptr 2 0), (29, .bool v.2.2.1)], [.cells [.fz Ri v.2.2.2.1, .fz Ri v.2.2.2.2.1], .cells [.fz Riii v.2.2.2.2.2.1], .cells [.int .i64 v.2.2.2.2.2.2.1, .int .i64 v.2.2.2.2.2.2.2]]⟩
def law10_BracketMends_r1 (C : law10_BracketMends_C) (v : law10_BracketMends_Y0) : Dt law10_BracketMends_Y1 := (Dt.bnd (C.2.2.2.2.1 ((v.2.2.1, v.2.2.2.1, ()), (v.2.2.2.2.1, ()), (v.2.2.2.2.2.1, v.2.2.2.2.2.2, ()), ())) fun r1 => (Dt.ret (v.1, v.2.1, (!r1), v.2.2.1, v.2.2.2.1, v.2.2.2.2.1, v.2.2.2.2.2.1, v.2.2.2.2.2.2)))
theorem law10_BracketMends_g1 (C : law10_BracketMends_C) (v : law10_BracketMends_Y0) : treg tysT (orc (law10_BracketMends_tab C)) 234 (regO (bodyOf f8) 1) false [(3, .any), (4, .any), (5, (.box [.val Ri, .val Ri])), (6, (.box [.val Riii])), (7, .any), (29, .any)] (law10_BracketMends_S0 v) some = (law10_BracketMends_r1 C v).eval fun y => some (law10_BracketMends_S1 y) := by kernel_rfl
abbrev law10_BracketMends_Y2 : Type := Bool
def law10_BracketMends_S2 (v : law10_BracketMends_Y2) : St := ⟨[(10, .bool v)], []⟩
def law10_BracketMends_r2 (C : law10_BracketMends_C) (v : law10_BracketMends_Y1) : Dt law10_BracketMends_Y2 := (Dt.bnd (C.2.2.2.1 (())) fun r1 => (Dt.ret r1))
theorem law10_BracketMends_g2 (C : law10_BracketMends_C) (v : law10_BracketMends_Y1) : treg tysT (orc (law10_BracketMends_tab C)) 234 (regO (bodyOf f8) 2) false [(10, .any)] (law10_BracketMends_S1 v) some = (law10_BracketMends_r2 C v).eval fun y => some (law10_BracketMends_S2 y) := by kernel_rfl
abbrev law10_BracketMends_Y3 : Type := Int × Int × Int × List Di × List Di × List Diii × Int × Int × List Di × List Di × List Di
def law10_BracketMends_S3 (v : law10_BracketMends_Y3) : St := ⟨[(3, .int .i64 v.1), (4, .int .i64 v.2.1), (5, .ptr 0 0), (6, .ptr 1 0), (7, .ptr 2 0), (11, .ptr 3 0), (12, .rs 6), (13, .int .i64 v.2.2.1)], [.cells [.fz Ri v.2.2.2.1, .fz Ri v.2.2.2.2.1], .cells [.fz Riii v.2.2.2.2.2.1], .cells [.int .i64 v.2.2.2.2.2.2.1, .int .i64 v.2.2.2.2.2.2.2.1], .cells [.rs 4, .rs 5], .rows Ri v.2.2.2.2.2.2.2.2.1, .rows Ri v.2.2.2.2.2.2.2.2.2.1, .rows Ri v.2.2.2.2.2.2.2.2.2.2]⟩
def law10_BracketMends_r3 (C : law10_BracketMends_C) (v : law10_BracketMends_Y1) : Dt law10_BracketMends_Y3 := (Dt.bnd (C.1 ((v.2.2.2.1, v.2.2.2.2.1, ()), (v.2.2.2.2.2.1, ()), (v.2.2.2.2.2.2.1, v.2.2.2.2.2.2.2, ()), (v.1, ()), (v.2.1, ()), ())) fun r1 => (Dt.ret (v.1, v.2.1, r1.2.2.2, v.2.2.2.1, v.2.2.2.2.1, v.2.2.2.2.2.1, v.2.2.2.2.2.2.1, v.2.2.2.2.2.2.2, r1.1, r1.2.1, r1.2.2.1)))
theorem law10_BracketMends_g3 (C : law10_BracketMends_C) (v : law10_BracketMends_Y1) : treg tysT (orc (law10_BracketMends_tab C)) 234 (regO (bodyOf f8) 3) false [(3, .any), (4, .any), (5, (.box [.val Ri, .val Ri])), (6, (.box [.val Riii])), (7, .any), (11, (.box [.own Ri, .own Ri])), (12, (.own Ri)), (13, .any)] (law10_BracketMends_S1 v) some = (law10_BracketMends_r3 C v).eval fun y => some (law10_BracketMends_S3 y) := by kernel_rfl
abbrev law10_BracketMends_Y4 : Type := Int × Int × Int × Bool × Int × List Di × List Di × List Diii × Int × Int × List Di × List Di × List Di
def law10_BracketMends_S4 (v : law10_BracketMends_Y4) : St := ⟨[(3, .int .i64 v.1), (4, .int .i64 v.2.1), (5, .ptr 0 0), (6, .ptr 1 0), (7, .ptr 2 0), (11, .ptr 3 0), (12, .rs 6), (13, .int .i64 v.2.2.1), (14, .bool v.2.2.2.1), (15, .int .i64 v.2.2.2.2.1)], [.cells [.fz Ri v.2.2.2.2.2.1, .fz Ri v.2.2.2.2.2.2.1], .cells [.fz Riii v.2.2.2.2.2.2.2.1], .cells [.int .i64 v.2.2.2.2.2.2.2.2.1, .int .i64 v.2.2.2.2.2.2.2.2.2.1], .cells [.rs 4, .rs 5], .rows Ri v.2.2.2.2.2.2.2.2.2.2.1, .rows Ri v.2.2.2.2.2.2.2.2.2.2.2.1, .rows Ri v.2.2.2.2.2.2.2.2.2.2.2.2]⟩
def law10_BracketMends_r4 (C : law10_BracketMends_C) (v : law10_BracketMends_Y3) : Dt law10_BracketMends_Y4 := (Dt.bnd (C.2.2.1 ((v.2.2.2.1, v.2.2.2.2.1, ()), (v.2.2.2.2.2.1, ()), (v.2.2.2.2.2.2.1, v.2.2.2.2.2.2.2.1, ()), ())) fun r1 => (Dt.ret (v.1, v.2.1, v.2.2.1, r1.1, r1.2, v.2.2.2.1, v.2.2.2.2.1, v.2.2.2.2.2.1, v.2.2.2.2.2.2.1, v.2.2.2.2.2.2.2.1, v.2.2.2.2.2.2.2.2.1, v.2.2.2.2.2.2.2.2.2.1, v.2.2.2.2.2.2.2.2.2.2)))
theorem law10_BracketMends_g4 (C : law10_BracketMends_C) (v : law10_BracketMends_Y3) : treg tysT (orc (law10_BracketMends_tab C)) 234 (regO (bodyOf f8) 4) false [(3, .any), (4, .any), (5, (.box [.val Ri, .val Ri])), (6, (.box [.val Riii])), (7, .any), (11, (.box [.own Ri, .own Ri])), (12, (.own Ri)), (13, .any), (14, .any), (15, .any)] (law10_BracketMends_S3 v) some = (law10_BracketMends_r4 C v).eval fun y => some (law10_BracketMends_S4 y) := by kernel_rfl
abbrev law10_BracketMends_Y5 : Type := Int × Int × Bool × Int × Bool × List Di × List Di × List Diii × Int × Int × List Di × List Di × List Di
def law10_BracketMends_S5 (v : law10_BracketMends_Y5) : St := ⟨[(3, .int .i64 v.1), (4, .int .i64 v.2.1), (5, .ptr 0 0), (6, .ptr 1 0), (7, .ptr 2 0), (11, .ptr 3 0), (12, .rs 6), (14, .bool v.2.2.1), (15, .int .i64 v.2.2.2.1), (53, .bool v.2.2.2.2.1)], [.cells [.fz Ri v.2.2.2.2.2.1, .fz Ri v.2.2.2.2.2.2.1], .cells [.fz Riii v.2.2.2.2.2.2.2.1], .cells [.int .i64 v.2.2.2.2.2.2.2.2.1, .int .i64 v.2.2.2.2.2.2.2.2.2.1], .cells [.rs 4, .rs 5], .rows Ri v.2.2.2.2.2.2.2.2.2.2.1, .rows Ri v.2.2.2.2.2.2.2.2.2.2.2.1, .rows Ri v.2.2.2.2.2.2.2.2.2.2.2.2]⟩
def law10_BracketMends_r5 (C : law10_BracketMends_C) (v : law10_BracketMends_Y4) : Dt law10_BracketMends_Y5 := (Dt.ite (v.2.2.1 != (0:Int)) (Dt.ret (v.1, v.2.1, v.2.2.2.1, v.2.2.2.2.1, true, v.2.2.2.2.2.1, v.2.2.2.2.2.2.1, v.2.2.2.2.2.2.2.1, v.2.2.2.2.2.2.2.2.1, v.2.2.2.2.2.2.2.2.2.1, v.2.2.2.2.2.2.2.2.2.2.1, v.2.2.2.2.2.2.2.2.2.2.2.1, v.2.2.2.2.2.2.2.2.2.2.2.2)) (Dt.ret (v.1, v.2.1, v.2.2.2.1, v.2.2.2.2.1, (v.2.2.2.2.1 != (0:Int)), v.2.2.2.2.2.1, v.2.2.2.2.2.2.1, v.2.2.2.2.2.2.2.1, v.2.2.2.2.2.2.2.2.1, v.2.2.2.2.2.2.2.2.2.1, v.2.2.2.2.2.2.2.2.2.2.1, v.2.2.2.2.2.2.2.2.2.2.2.1, v.2.2.2.2.2.2.2.2.2.2.2.2)))
theorem law10_BracketMends_g5 (C : law10_BracketMends_C) (v : law10_BracketMends_Y4) : treg tysT (orc (law10_BracketMends_tab C)) 234 (regO (bodyOf f8) 5) false [(3, .any), (4, .any), (5, (.box [.val Ri, .val Ri])), (6, (.box [.val Riii])), (7, .any), (11, (.box [.own Ri, .own Ri])), (12, (.own Ri)), (14, .any), (15, .any), (53, .any)] (law10_BracketMends_S4 v) some = (law10_BracketMends_r5 C v).eval fun y => some (law10_BracketMends_S5 y) := by kernel_rfl
def law10_BracketMends_r6 (C : law10_BracketMends_C) (v : law10_BracketMends_Y5) : Dt law10_BracketMends_Y2 := (Dt.ite (v.2.2.2.1 == (0:Int)) (Dt.bnd (C.2.2.2.1 (())) fun r1 => (Dt.ret r1)) (Dt.ret false))
theorem law10_BracketMends_g6 (C : law10_BracketMends_C) (v : law10_BracketMends_Y5) : treg tysT (orc (law10_BracketMends_tab C)) 234 (regO (bodyOf f8) 6) false [(10, .any)] (law10_BracketMends_S5 v) some = (law10_BracketMends_r6 C v).eval fun y => some (law10_BracketMends_S2 y) := by kernel_rfl
abbrev law10_BracketMends_Y7 : Type := Int × Int × Bool × Int × List Di × List Di × List Diii × Int × Int × List Di × List Di × List Di × List Di
def law10_BracketMends_S7 (v : law10_BracketMends_Y7) : St := ⟨[(3, .int .i64 v.1), (4, .int .i64 v.2.1), (5, .ptr 0 0), (6, .ptr 1 0), (7, .ptr 2 0), (11, .ptr 3 0), (12, .rs 6), (14, .bool v.2.2.1), (16, .rs 7), (17, .int .i64 v.2.2.2.1)], [.cells [.fz Ri v.2.2.2.2.1, .fz Ri v.2.2.2.2.2.1], .cells [.fz Riii v.2.2.2.2.2.2.1], .cells [.int .i64 v.2.2.2.2.2.2.2.1, .int .i64 v.2.2.2.2.2.2.2.2.1], .cells [.rs 4, .rs 5], .rows Ri v.2.2.2.2.2.2.2.2.2.1, .rows Ri v.2.2.2.2.2.2.2.2.2.2.1, .rows Ri v.2.2.2.2.2.2.2.2.2.2.2.1, .rows Ri v.2.2.2.2.2.2.2.2.2.2.2.2]⟩
def law10_BracketMends_r7 (C : law10_BracketMends_C) (v : law10_BracketMends_Y5) : Dt law10_BracketMends_Y7 := (Dt.bnd (C.2.1 ((v.2.2.2.2.2.1, v.2.2.2.2.2.2.1, ()), (v.1, ()), ())) fun r1 => (Dt.ret (v.1, v.2.1, v.2.2.1, r1.2, v.2.2.2.2.2.1, v.2.2.2.2.2.2.1, v.2.2.2.2.2.2.2.1, v.2.2.2.2.2.2.2.2.1, v.2.2.2.2.2.2.2.2.2.1, v.2.2.2.2.2.2.2.2.2.2.1, v.2.2.2.2.2.2.2.2.2.2.2.1, v.2.2.2.2.2.2.2.2.2.2.2.2, r1.1)))
theorem law10_BracketMends_g7 (C : law10_BracketMends_C) (v : law10_BracketMends_Y5) : treg tysT (orc (law10_BracketMends_tab C)) 234 (regO (bodyOf f8) 7) false [(3, .any), (4, .any), (5, (.box [.val Ri, .val Ri])), (6, (.box [.val Riii])), (7, .any), (11, (.box [.own Ri, .own Ri])), (12, (.own Ri)), (14, .any), (16, (.own Ri)), (17, .any)] (law10_BracketMends_S5 v) some = (law10_BracketMends_r7 C v).eval fun y => some (law10_BracketMends_S7 y) := by kernel_rfl
abbrev law10_BracketMends_Y8 : Type := Int × Int × Bool × Int × Bool × Int × List Di × List Di × List Di × List Di × List Di × List Di
def law10_BracketMends_S8 (v : law10_BracketMends_Y8) : St := ⟨[(3, .int .i64 v.1), (4, .int .i64 v.2.1), (5, .ptr 0 0), (11, .ptr 1 0), (12, .rs 4), (14, .bool v.2.2.1), (16, .rs 5), (17, .int .i64 v.2.2.2.1), (18, .bool v.2.2.2.2.1), (19, .int .i64 v.2.2.2.2.2.1)], [.cells [.fz Ri v.2.2.2.2.2.2.1, .fz Ri v.2.2.2.2.2.2.2.1], .cells [.rs 2, .rs 3], .rows Ri v.2.2.2.2.2.2.2.2.1, .rows Ri v.2.2.2.2.2.2.2.2.2.1, .rows Ri v.2.2.2.2.2.2.2.2.2.2.1, .rows Ri v.2.2.2.2.2.2.2.2.2.2.2]⟩
def law10_BracketMends_r8 (C : law10_BracketMends_C) (v : law10_BracketMends_Y7) : Dt law10_BracketMends_Y8 := (Dt.bnd (C.2.2.1 ((v.2.2.2.2.2.2.2.2.2.1, v.2.2.2.2.2.2.2.2.2.2.1, ()), (v.2.2.2.2.2.2.1, ()), (v.2.2.2.2.2.2.2.1, v.2.2.2.2.2.2.2.2.1, ()), ())) fun r1 => (Dt.ret (v.1, v.2.1, v.2.2.1, v.2.2.2.1, r1.1, r1.2, v.2.2.2.2.1, v.2.2.2.2.2.1, v.2.2.2.2.2.2.2.2.2.1, v.2.2.2.2.2.2.2.2.2.2.1, v.2.2.2.2.2.2.2.2.2.2.2.1, v.2.2.2.2.2.2.2.2.2.2.2.2)))
theorem law10_BracketMends_g8 (C : law10_BracketMends_C) (v : law10_BracketMends_Y7) : treg tysT (orc (law10_BracketMends_tab C)) 234 (regO (bodyOf f8) 8) false [(3, .any), (4, .any), (5, (.box [.val Ri, .val Ri])), (11, (.box [.own Ri, .own Ri])), (12, (.own Ri)), (14, .any), (16, (.own Ri)), (17, .any), (18, .any), (19, .any)] (law10_BracketMends_S7 v) some = (law10_BracketMends_r8 C v).eval fun y => some (law10_BracketMends_S8 y) := by kernel_rfl
abbrev law10_BracketMends_Y9 : Type := Int × Int × Bool × List Di × List Di × List Di × List Di × List Di × List Di
def law10_BracketMends_S9 (v : law10_BracketMends_Y9) : St := ⟨[(3, .int .i64 v.1), (4, .int .i64 v.2.1), (5, .ptr 0 0), (11, .ptr 1 0), (12, .rs 4), (16, .rs 5), (107, .bool v.2.2.1)], [.cells [.fz Ri v.2.2.2.1, .fz Ri v.2.2.2.2.1], .cells [.rs 2, .rs 3], .rows Ri v.2.2.2.2.2.1, .rows Ri v.2.2.2.2.2.2.1, .rows Ri v.2.2.2.2.2.2.2.1, .rows Ri v.2.2.2.2.2.2.2.2]⟩
def law10_BracketMends_r9 (C : law10_BracketMends_C) (v : law10_BracketMends_Y8) : Dt law10_BracketMends_Y9 := (Dt.ite (v.2.2.2.1 != (0:Int)) (Dt.ret (v.1, v.2.1, true, v.2.2.2.2.2.2.1, v.2.2.2.2.2.2.2.1, v.2.2.2.2.2.2.2.2.1, v.2.2.2.2.2.2.2.2.2.1, v.2.2.2.2.2.2.2.2.2.2.1, v.2.2.2.2.2.2.2.2.2.2.2)) (Dt.ite (v.2.2.2.2.2.1 != (0:Int)) (Dt.ret (v.1, v.2.1, true, v.2.2.2.2.2.2.1, v.2.2.2.2.2.2.2.1, v.2.2.2.2.2.2.2.2.1, v.2.2.2.2.2.2.2.2.2.1, v.2.2.2.2.2.2.2.2.2.2.1, v.2.2.2.2.2.2.2.2.2.2.2)) (Dt.ite v.2.2.1 (Dt.ite (!v.2.2.2.2.1) (Dt.ret (v.1, v.2.1, true, v.2.2.2.2.2.2.1, v.2.2.2.2.2.2.2.1, v.2.2.2.2.2.2.2.2.1, v.2.2.2.2.2.2.2.2.2.1, v.2.2.2.2.2.2.2.2.2.2.1, v.2.2.2.2.2.2.2.2.2.2.2)) (Dt.ite ((List.length v.2.2.2.2.2.2.2.2.2.1 : Int) != (List.length v.2.2.2.2.2.2.2.1 : Int)) (Dt.ret (v.1, v.2.1, true, v.2.2.2.2.2.2.1, v.2.2.2.2.2.2.2.1, v.2.2.2.2.2.2.2.2.1, v.2.2.2.2.2.2.2.2.2.1, v.2.2.2.2.2.2.2.2.2.2.1, v.2.2.2.2.2.2.2.2.2.2.2)) (Dt.ite ((List.length v.2.2.2.2.2.2.2.2.1 : Int) != (List.length v.2.2.2.2.2.2.1 : Int)) (Dt.ret (v.1, v.2.1, true, v.2.2.2.2.2.2.1, v.2.2.2.2.2.2.2.1, v.2.2.2.2.2.2.2.2.1, v.2.2.2.2.2.2.2.2.2.1, v.2.2.2.2.2.2.2.2.2.2.1, v.2.2.2.2.2.2.2.2.2.2.2)) (Dt.ret (v.1, v.2.1, (decide ((List.length v.2.2.2.2.2.2.2.2.2.2.2 : Int) > (6:Int))), v.2.2.2.2.2.2.1, v.2.2.2.2.2.2.2.1, v.2.2.2.2.2.2.2.2.1, v.2.2.2.2.2.2.2.2.2.1, v.2.2.2.2.2.2.2.2.2.2.1, v.2.2.2.2.2.2.2.2.2.2.2))))) (Dt.ite ((List.length v.2.2.2.2.2.2.2.2.2.1 : Int) != (List.length v.2.2.2.2.2.2.2.1 : Int)) (Dt.ret (v.1, v.2.1, true, v.2.2.2.2.2.2.1, v.2.2.2.2.2.2.2.1, v.2.2.2.2.2.2.2.2.1, v.2.2.2.2.2.2.2.2.2.1, v.2.2.2.2.2.2.2.2.2.2.1, v.2.2.2.2.2.2.2.2.2.2.2)) (Dt.ite ((List.length v.2.2.2.2.2.2.2.2.1 : Int) != (List.length v.2.2.2.2.2.2.1 : Int)) (Dt.ret (v.1, v.2.1, true, v.2.2.2.2.2.2.1, v.2.2.2.2.2.2.2.1, v.2.2.2.2.2.2.2.2.1, v.2.2.2.2.2.2.2.2.2.1, v.2.2.2.2.2.2.2.2.2.2.1, v.2.2.2.2.2.2.2.2.2.2.2)) (Dt.ret (v.1, v.2.1, (decide ((List.length v.2.2.2.2.2.2.2.2.2.2.2 : Int) > (6:Int))), v.2.2.2.2.2.2.1, v.2.2.2.2.2.2.2.1, v.2.2.2.2.2.2.2.2.1, v.2.2.2.2.2.2.2.2.2.1, v.2.2.2.2.2.2.2.2.2.2.1, v.2.2.2.2.2.2.2.2.2.2.2)))))))
theorem law10_BracketMends_g9 (C : law10_BracketMends_C) (v : law10_BracketMends_Y8) : treg tysT (orc (law10_BracketMends_tab C)) 234 (regO (bodyOf f8) 9) false [(3, .any), (4, .any), (5, (.box [.val Ri, .val Ri])), (11, (.box [.own Ri, .own Ri])), (12, (.own Ri)), (16, (.own Ri)), (107, .any)] (law10_BracketMends_S8 v) some = (law10_BracketMends_r9 C v).eval fun y => some (law10_BracketMends_S9 y) := by kernel_rfl
def law10_BracketMends_r10 (C : law10_BracketMends_C) (v : law10_BracketMends_Y9) : Dt law10_BracketMends_Y2 := (Dt.ret false)
theorem law10_BracketMends_g10 (C : law10_BracketMends_C) (v : law10_BracketMends_Y9) : treg tysT (orc (law10_BracketMends_tab C)) 234 (regO (bodyOf f8) 10) false [(10, .any)] (law10_BracketMends_S9 v) some = (law10_BracketMends_r10 C v).eval fun y => some (law10_BracketMends_S2 y) := by kernel_rfl
abbrev law10_BracketMends_Y11 : Type := Int × Int × Int × List Di × List Di × List Di × List Di × List Di × List Di
def law10_BracketMends_S11 (v : law10_BracketMends_Y11) : St := ⟨[(3, .int .i64 v.1), (4, .int .i64 v.2.1), (5, .ptr 0 0), (11, .ptr 1 0), (12, .rs 4), (16, .rs 5), (20, .int .i64 v.2.2.1)], [.cells [.fz Ri v.2.2.2.1, .fz Ri v.2.2.2.2.1], .cells [.rs 2, .rs 3], .rows Ri v.2.2.2.2.2.1, .rows Ri v.2.2.2.2.2.2.1, .rows Ri v.2.2.2.2.2.2.2.1, .rows Ri v.2.2.2.2.2.2.2.2]⟩
def law10_BracketMends_r11 (C : law10_BracketMends_C) (v : law10_BracketMends_Y9) : Dt law10_BracketMends_Y11 := (Dt.ret (v.1, v.2.1, (0:Int), v.2.2.2.1, v.2.2.2.2.1, v.2.2.2.2.2.1, v.2.2.2.2.2.2.1, v.2.2.2.2.2.2.2.1, v.2.2.2.2.2.2.2.2))
theorem law10_BracketMends_g11 (C : law10_BracketMends_C) (v : law10_BracketMends_Y9) : treg tysT (orc (law10_BracketMends_tab C)) 234 (regO (bodyOf f8) 11) false [(3, .any), (4, .any), (5, (.box [.val Ri, .val Ri])), (11, (.box [.own Ri, .own Ri])), (12, (.own Ri)), (16, (.own Ri)), (20, .any)] (law10_BracketMends_S9 v) some = (law10_BracketMends_r11 C v).eval fun y => some (law10_BracketMends_S11 y) := by kernel_rfl
abbrev law10_BracketMends_Y12 : Type := Int × Int × Int × Int × List Di × List Di × List Di × List Di × List Di × List Di
def law10_BracketMends_S12 (v : law10_BracketMends_Y12) : St := ⟨[(3, .int .i64 v.1), (4, .int .i64 v.2.1), (5, .ptr 0 0), (11, .ptr 1 0), (12, .rs 4), (16, .rs 5), (20, .int .i64 v.2.2.1), (21, .int .i64 v.2.2.2.1)], [.cells [.fz Ri v.2.2.2.2.1, .fz Ri v.2.2.2.2.2.1], .cells [.rs 2, .rs 3], .rows Ri v.2.2.2.2.2.2.1, .rows Ri v.2.2.2.2.2.2.2.1, .rows Ri v.2.2.2.2.2.2.2.2.1, .rows Ri v.2.2.2.2.2.2.2.2.2]⟩
def law10_BracketMends_r12 (C : law10_BracketMends_C) (v : law10_BracketMends_Y11) : Dt law10_BracketMends_Y12 := (Dt.ret (v.1, v.2.1, v.2.2.1, (0:Int), v.2.2.2.1, v.2.2.2.2.1, v.2.2.2.2.2.1, v.2.2.2.2.2.2.1, v.2.2.2.2.2.2.2.1, v.2.2.2.2.2.2.2.2))
theorem law10_BracketMends_g12 (C : law10_BracketMends_C) (v : law10_BracketMends_Y11) : treg tysT (orc (law10_BracketMends_tab C)) 234 (regO (bodyOf f8) 12) false [(3, .any), (4, .any), (5, (.box [.val Ri, .val Ri])), (11, (.box [.own Ri, .own Ri])), (12, (.own Ri)), (16, (.own Ri)), (20, .any), (21, .any)] (law10_BracketMends_S11 v) some = (law10_BracketMends_r12 C v).eval fun y => some (law10_BracketMends_S12 y) := by kernel_rfl
abbrev law10_BracketMends_Y13 : Type := Int × Int × Int × Int × Bool × List Di × List Di × List Di × List Di × List Di × List Di
def law10_BracketMends_S13 (v : law10_BracketMends_Y13) : St := ⟨[(3, .int .i64 v.1), (4, .int .i64 v.2.1), (5, .ptr 0 0), (11, .ptr 1 0), (12, .rs 4), (16, .rs 5), (20, .int .i64 v.2.2.1), (21, .int .i64 v.2.2.2.1), (111, .bool v.2.2.2.2.1)], [.cells [.fz Ri v.2.2.2.2.2.1, .fz Ri v.2.2.2.2.2.2.1], .cells [.rs 2, .rs 3], .rows Ri v.2.2.2.2.2.2.2.1, .rows Ri v.2.2.2.2.2.2.2.2.1, .rows Ri v.2.2.2.2.2.2.2.2.2.1, .rows Ri v.2.2.2.2.2.2.2.2.2.2]⟩
def law10_BracketMends_r13 (C : law10_BracketMends_C) (v : law10_BracketMends_Y12) : Dt law10_BracketMends_Y13 := (Dt.ret (v.1, v.2.1, v.2.2.1, v.2.2.2.1, (decide (v.2.2.2.1 < (List.length v.2.2.2.2.2.2.2.2.2 : Int))), v.2.2.2.2.1, v.2.2.2.2.2.1, v.2.2.2.2.2.2.1, v.2.2.2.2.2.2.2.1, v.2.2.2.2.2.2.2.2.1, v.2.2.2.2.2.2.2.2.2))
theorem law10_BracketMends_g13 (C : law10_BracketMends_C) (v : law10_BracketMends_Y12) : treg tysT (orc (law10_BracketMends_tab C)) 234 (regO (bodyOf f8) 13) false [(3, .any), (4, .any), (5, (.box [.val Ri, .val Ri])), (11, (.box [.own Ri, .own Ri])), (12, (.own Ri)), (16, (.own Ri)), (20, .any), (21, .any), (111, .any)] (law10_BracketMends_S12 v) some = (law10_BracketMends_r13 C v).eval fun y => some (law10_BracketMends_S13 y) := by kernel_rfl
abbrev law10_BracketMends_Y15 : Type := Int × Int × Int × Int × Bool × List Di × List Di × List Di × List Di × List Di × List Di
def law10_BracketMends_S15 (v : law10_BracketMends_Y15) : St := ⟨[(3, .int .i64 v.1), (4, .int .i64 v.2.1), (5, .ptr 0 0), (11, .ptr 1 0), (12, .rs 4), (16, .rs 5), (20, .int .i64 v.2.2.1), (21, .int .i64 v.2.2.2.1), (146, .bool v.2.2.2.2.1)], [.cells [.fz Ri v.2.2.2.2.2.1, .fz Ri v.2.2.2.2.2.2.1], .cells [.rs 2, .rs 3], .rows Ri v.2.2.2.2.2.2.2.1, .rows Ri v.2.2.2.2.2.2.2.2.1, .rows Ri v.2.2.2.2.2.2.2.2.2.1, .rows Ri v.2.2.2.2.2.2.2.2.2.2]⟩
def law10_BracketMends_r15 (C : law10_BracketMends_C) (v : law10_BracketMends_Y13) : Dt law10_BracketMends_Y15 := (Dt.ite (inB v.2.2.2.1 (List.length v.2.2.2.2.2.2.2.2.2.2)) (Dt.ite (decide ((elt zi v.2.2.2.2.2.2.2.2.2.2 (v.2.2.2.1).toNat).1 < (0:Int))) (Dt.ret (v.1, v.2.1, v.2.2.1, v.2.2.2.1, true, v.2.2.2.2.2.1, v.2.2.2.2.2.2.1, v.2.2.2.2.2.2.2.1, v.2.2.2.2.2.2.2.2.1, v.2.2.2.2.2.2.2.2.2.1, v.2.2.2.2.2.2.2.2.2.2)) (Dt.ite (inB v.2.2.2.1 (List.length v.2.2.2.2.2.2.2.2.2.2)) (Dt.ite (decide ((elt zi v.2.2.2.2.2.2.2.2.2.2 (v.2.2.2.1).toNat).1 ≥ (List.length v.2.2.2.2.2.2.1 : Int))) (Dt.ret (v.1, v.2.1, v.2.2.1, v.2.2.2.1, true, v.2.2.2.2.2.1, v.2.2.2.2.2.2.1, v.2.2.2.2.2.2.2.1, v.2.2.2.2.2.2.2.2.1, v.2.2.2.2.2.2.2.2.2.1, v.2.2.2.2.2.2.2.2.2.2)) (Dt.ite (decide (v.2.2.2.1 > (0:Int))) (Dt.ite (inB v.2.2.2.1 (List.length v.2.2.2.2.2.2.2.2.2.2)) (Dt.ite (inB (IntKind.wrap .i64 (v.2.2.2.1 - (1:Int))) (List.length v.2.2.2.2.2.2.2.2.2.2)) (Dt.ite ((2:Int) == (0:Int)) Dt.fail (Dt.ret (v.1, v.2.1, v.2.2.1, v.2.2.2.1, ((elt zi v.2.2.2.2.2.2.2.2.2.2 (v.2.2.2.1).toNat).1 != (IntKind.wrap .i64 (Int.tdiv (IntKind.wrap .i64 ((elt zi v.2.2.2.2.2.2.2.2.2.2 ((IntKind.wrap .i64 (v.2.2.2.1 - (1:Int)))).toNat).1 - (1:Int))) (2:Int)))), v.2.2.2.2.2.1, v.2.2.2.2.2.2.1, v.2.2.2.2.2.2.2.1, v.2.2.2.2.2.2.2.2.1, v.2.2.2.2.2.2.2.2.2.1, v.2.2.2.2.2.2.2.2.2.2))) Dt.fail) Dt.fail) (Dt.ret (v.1, v.2.1, v.2.2.1, v.2.2.2.1, false, v.2.2.2.2.2.1, v.2.2.2.2.2.2.1, v.2.2.2.2.2.2.2.1, v.2.2.2.2.2.2.2.2.1, v.2.2.2.2.2.2.2.2.2.1, v.2.2.2.2.2.2.2.2.2.2)))) Dt.fail)) Dt.fail)
theorem law10_BracketMends_g15 (C : law10_BracketMends_C) (v : law10_BracketMends_Y13) : treg tysT (orc (law10_BracketMends_tab C)) 234 (regO (bodyOf f8) 15) true [(3, .any), (4, .any), (5, (.box [.val Ri, .val Ri])), (11, (.box [.own Ri, .own Ri])), (12, (.own Ri)), (16, (.own Ri)), (20, .any), (21, .any), (146, .any)] (law10_BracketMends_S13 v) some = (law10_BracketMends_r15 C v).eval fun y => some (law10_BracketMends_S15 y) := by kernel_rfl
def law10_BracketMends_r16 (C : law10_BracketMends_C) (v : law10_BracketMends_Y15) : Dt law10_BracketMends_Y2 := (Dt.ret false)
theorem law10_BracketMends_g16 (C : law10_BracketMends_C) (v : law10_BracketMends_Y15) : treg tysT (orc (law10_BracketMends_tab C)) 234 (regO (bodyOf f8) 16) false [(10, .any)] (law10_BracketMends_S15 v) some = (law10_BracketMends_r16 C v).eval fun y => some (law10_BracketMends_S2 y) := by kernel_rfl
abbrev law10_BracketMends_Y17 : Type := Int × Int × Int × Int × Bool × List Di × List Di × List Di × List Di × List Di × List Di
def law10_BracketMends_S17 (v : law10_BracketMends_Y17) : St := ⟨[(3, .int .i64 v.1), (4, .int .i64 v.2.1), (5, .ptr 0 0), (11, .ptr 1 0), (12, .rs 4), (16, .rs 5), (20, .int .i64 v.2.2.1), (21, .int .i64 v.2.2.2.1), (163, .bool v.2.2.2.2.1)], [.cells [.fz Ri v.2.2.2.2.2.1, .fz Ri v.2.2.2.2.2.2.1], .cells [.rs 2, .rs 3], .rows Ri v.2.2.2.2.2.2.2.1, .rows Ri v.2.2.2.2.2.2.2.2.1, .rows Ri v.2.2.2.2.2.2.2.2.2.1, .rows Ri v.2.2.2.2.2.2.2.2.2.2]⟩
def law10_BracketMends_r17 (C : law10_BracketMends_C) (v : law10_BracketMends_Y15) : Dt law10_BracketMends_Y17 := (Dt.ite (inB v.2.2.2.1 (List.length v.2.2.2.2.2.2.2.2.2.2)) (Dt.ite (inB (elt zi v.2.2.2.2.2.2.2.2.2.2 (v.2.2.2.1).toNat).1 (List.length v.2.2.2.2.2.2.2.2.1)) (Dt.ite (inB v.2.2.2.1 (List.length v.2.2.2.2.2.2.2.2.2.2)) (Dt.ite (inB (elt zi v.2.2.2.2.2.2.2.2.2.2 (v.2.2.2.1).toNat).1 (List.length v.2.2.2.2.2.2.1)) (Dt.ret (v.1, v.2.1, v.2.2.1, v.2.2.2.1, ((elt zi v.2.2.2.2.2.2.2.2.1 ((elt zi v.2.2.2.2.2.2.2.2.2.2 (v.2.2.2.1).toNat).1).toNat).1 == (elt zi v.2.2.2.2.2.2.1 ((elt zi v.2.2.2.2.2.2.2.2.2.2 (v.2.2.2.1).toNat).1).toNat).1), v.2.2.2.2.2.1, v.2.2.2.2.2.2.1, v.2.2.2.2.2.2.2.1, v.2.2.2.2.2.2.2.2.1, v.2.2.2.2.2.2.2.2.2.1, v.2.2.2.2.2.2.2.2.2.2)) Dt.fail) Dt.fail) Dt.fail) Dt.fail)
theorem law10_BracketMends_g17 (C : law10_BracketMends_C) (v : law10_BracketMends_Y15) : treg tysT (orc (law10_BracketMends_tab C)) 234 (regO (bodyOf f8) 17) true [(3, .any), (4, .any), (5, (.box [.val Ri, .val Ri])), (11, (.box [.own Ri, .own Ri])), (12, (.own Ri)), (16, (.own Ri)), (20, .any), (21, .any), (163, .any)] (law10_BracketMends_S15 v) some = (law10_BracketMends_r17 C v).eval fun y => some (law10_BracketMends_S17 y) := by kernel_rfl
def law10_BracketMends_r14 (C : law10_BracketMends_C) (v : law10_BracketMends_Y12) : Dt law10_BracketMends_Y12 := (Dt.ret (v.1, v.2.1, v.2.2.1, (IntKind.wrap .i64 (v.2.2.2.1 + (1:Int))), v.2.2.2.2.1, v.2.2.2.2.2.1, v.2.2.2.2.2.2.1, v.2.2.2.2.2.2.2.1, v.2.2.2.2.2.2.2.2.1, v.2.2.2.2.2.2.2.2.2))
theorem law10_BracketMends_g14 (C : law10_BracketMends_C) (v : law10_BracketMends_Y12) : treg tysT (orc (law10_BracketMends_tab C)) 234 (regO (bodyOf f8) 14) false [(3, .any), (4, .any), (5, (.box [.val Ri, .val Ri])), (11, (.box [.own Ri, .own Ri])), (12, (.own Ri)), (16, (.own Ri)), (20, .any), (21, .any)] (law10_BracketMends_S12 v) some = (law10_BracketMends_r14 C v).eval fun y => some (law10_BracketMends_S12 y) := by kernel_rfl
def law10_BracketMends_J2  (d : Nat) (self1 : (Int × Int × Int × Int × List Di × List Di × List Di × List Di × List Di × List Di) → Option law10_BracketMends_R) (z : Int × Int × Int × Int × List Di × List Di × List Di × List Di × List Di × List Di) : Option (law10_BracketMends_R) :=
  (law10_BracketMends_r14 (law10_BracketMends_K d) z).eval fun y14 =>
  self1 y14
abbrev law10_BracketMends_Y18 : Type := Int × Int × Int × Int × Bool × List Di × List Di × List Di × List Di × List Di × List Di
def law10_BracketMends_S18 (v : law10_BracketMends_Y18) : St := ⟨[(3, .int .i64 v.1), (4, .int .i64 v.2.1), (5, .ptr 0 0), (11, .ptr 1 0), (12, .rs 4), (16, .rs 5), (20, .int .i64 v.2.2.1), (21, .int .i64 v.2.2.2.1), (178, .bool v.2.2.2.2.1)], [.cells [.fz Ri v.2.2.2.2.2.1, .fz Ri v.2.2.2.2.2.2.1], .cells [.rs 2, .rs 3], .rows Ri v.2.2.2.2.2.2.2.1, .rows Ri v.2.2.2.2.2.2.2.2.1, .rows Ri v.2.2.2.2.2.2.2.2.2.1, .rows Ri v.2.2.2.2.2.2.2.2.2.2]⟩
def law10_BracketMends_r18 (C : law10_BracketMends_C) (v : law10_BracketMends_Y17) : Dt law10_BracketMends_Y18 := (Dt.ite (decide (v.2.2.1 ≥ (List.length v.2.2.2.2.2.2.2.2.2.1 : Int))) (Dt.ret (v.1, v.2.1, v.2.2.1, v.2.2.2.1, true, v.2.2.2.2.2.1, v.2.2.2.2.2.2.1, v.2.2.2.2.2.2.2.1, v.2.2.2.2.2.2.2.2.1, v.2.2.2.2.2.2.2.2.2.1, v.2.2.2.2.2.2.2.2.2.2)) (Dt.ite (inB v.2.2.1 (List.length v.2.2.2.2.2.2.2.2.2.1)) (Dt.ite (inB v.2.2.2.1 (List.length v.2.2.2.2.2.2.2.2.2.2)) (Dt.ret (v.1, v.2.1, v.2.2.1, v.2.2.2.1, ((elt zi v.2.2.2.2.2.2.2.2.2.1 (v.2.2.1).toNat).1 != (elt zi v.2.2.2.2.2.2.2.2.2.2 (v.2.2.2.1).toNat).1), v.2.2.2.2.2.1, v.2.2.2.2.2.2.1, v.2.2.2.2.2.2.2.1, v.2.2.2.2.2.2.2.2.1, v.2.2.2.2.2.2.2.2.2.1, v.2.2.2.2.2.2.2.2.2.2)) Dt.fail) Dt.fail))
theorem law10_BracketMends_g18 (C : law10_BracketMends_C) (v : law10_BracketMends_Y17) : treg tysT (orc (law10_BracketMends_tab C)) 234 (regO (bodyOf f8) 18) true [(3, .any), (4, .any), (5, (.box [.val Ri, .val Ri])), (11, (.box [.own Ri, .own Ri])), (12, (.own Ri)), (16, (.own Ri)), (20, .any), (21, .any), (178, .any)] (law10_BracketMends_S17 v) some = (law10_BracketMends_r18 C v).eval fun y => some (law10_BracketMends_S18 y) := by kernel_rfl
def law10_BracketMends_r19 (C : law10_BracketMends_C) (v : law10_BracketMends_Y18) : Dt law10_BracketMends_Y2 := (Dt.ret false)
theorem law10_BracketMends_g19 (C : law10_BracketMends_C) (v : law10_BracketMends_Y18) : treg tysT (orc (law10_BracketMends_tab C)) 234 (regO (bodyOf f8) 19) false [(10, .any)] (law10_BracketMends_S18 v) some = (law10_BracketMends_r19 C v).eval fun y => some (law10_BracketMends_S2 y) := by kernel_rfl
def law10_BracketMends_r20 (C : law10_BracketMends_C) (v : law10_BracketMends_Y18) : Dt law10_BracketMends_Y12 := (Dt.ret (v.1, v.2.1, (IntKind.wrap .i64 (v.2.2.1 + (1:Int))), v.2.2.2.1, v.2.2.2.2.2.1, v.2.2.2.2.2.2.1, v.2.2.2.2.2.2.2.1, v.2.2.2.2.2.2.2.2.1, v.2.2.2.2.2.2.2.2.2.1, v.2.2.2.2.2.2.2.2.2.2))
theorem law10_BracketMends_g20 (C : law10_BracketMends_C) (v : law10_BracketMends_Y18) : treg tysT (orc (law10_BracketMends_tab C)) 234 (regO (bodyOf f8) 20) false [(3, .any), (4, .any), (5, (.box [.val Ri, .val Ri])), (11, (.box [.own Ri, .own Ri])), (12, (.own Ri)), (16, (.own Ri)), (20, .any), (21, .any)] (law10_BracketMends_S18 v) some = (law10_BracketMends_r20 C v).eval fun y => some (law10_BracketMends_S12 y) := by kernel_rfl
abbrev law10_BracketMends_Y21 : Type := Int × Int × Int × Int × List Di × List Di × List Di × List Di × List Di × List Di
def law10_BracketMends_S21 (v : law10_BracketMends_Y21) : St := ⟨[(3, .int .i64 v.1), (4, .int .i64 v.2.1), (5, .ptr 0 0), (11, .ptr 1 0), (12, .rs 4), (16, .rs 5), (20, .int .i64 v.2.2.1), (22, .int .i64 v.2.2.2.1)], [.cells [.fz Ri v.2.2.2.2.1, .fz Ri v.2.2.2.2.2.1], .cells [.rs 2, .rs 3], .rows Ri v.2.2.2.2.2.2.1, .rows Ri v.2.2.2.2.2.2.2.1, .rows Ri v.2.2.2.2.2.2.2.2.1, .rows Ri v.2.2.2.2.2.2.2.2.2]⟩
def law10_BracketMends_r21 (C : law10_BracketMends_C) (v : law10_BracketMends_Y13) : Dt law10_BracketMends_Y21 := (Dt.ret (v.1, v.2.1, v.2.2.1, (0:Int), v.2.2.2.2.2.1, v.2.2.2.2.2.2.1, v.2.2.2.2.2.2.2.1, v.2.2.2.2.2.2.2.2.1, v.2.2.2.2.2.2.2.2.2.1, v.2.2.2.2.2.2.2.2.2.2))
theorem law10_BracketMends_g21 (C : law10_BracketMends_C) (v : law10_BracketMends_Y13) : treg tysT (orc (law10_BracketMends_tab C)) 234 (regO (bodyOf f8) 21) false [(3, .any), (4, .any), (5, (.box [.val Ri, .val Ri])), (11, (.box [.own Ri, .own Ri])), (12, (.own Ri)), (16, (.own Ri)), (20, .any), (22, .any)] (law10_BracketMends_S13 v) some = (law10_BracketMends_r21 C v).eval fun y => some (law10_BracketMends_S21 y) := by kernel_rfl
abbrev law10_BracketMends_Y22 : Type := Int × Int × Int × Int × Bool × List Di × List Di × List Di × List Di × List Di × List Di
def law10_BracketMends_S22 (v : law10_BracketMends_Y22) : St := ⟨[(3, .int .i64 v.1), (4, .int .i64 v.2.1), (5, .ptr 0 0), (11, .ptr 1 0), (12, .rs 4), (16, .rs 5), (20, .int .i64 v.2.2.1), (22, .int .i64 v.2.2.2.1), (185, .bool v.2.2.2.2.1)], [.cells [.fz Ri v.2.2.2.2.2.1, .fz Ri v.2.2.2.2.2.2.1], .cells [.rs 2, .rs 3], .rows Ri v.2.2.2.2.2.2.2.1, .rows Ri v.2.2.2.2.2.2.2.2.1, .rows Ri v.2.2.2.2.2.2.2.2.2.1, .rows Ri v.2.2.2.2.2.2.2.2.2.2]⟩
def law10_BracketMends_r22 (C : law10_BracketMends_C) (v : law10_BracketMends_Y21) : Dt law10_BracketMends_Y22 := (Dt.ret (v.1, v.2.1, v.2.2.1, v.2.2.2.1, (decide (v.2.2.2.1 < (List.length v.2.2.2.2.2.1 : Int))), v.2.2.2.2.1, v.2.2.2.2.2.1, v.2.2.2.2.2.2.1, v.2.2.2.2.2.2.2.1, v.2.2.2.2.2.2.2.2.1, v.2.2.2.2.2.2.2.2.2))
theorem law10_BracketMends_g22 (C : law10_BracketMends_C) (v : law10_BracketMends_Y21) : treg tysT (orc (law10_BracketMends_tab C)) 234 (regO (bodyOf f8) 22) false [(3, .any), (4, .any), (5, (.box [.val Ri, .val Ri])), (11, (.box [.own Ri, .own Ri])), (12, (.own Ri)), (16, (.own Ri)), (20, .any), (22, .any), (185, .any)] (law10_BracketMends_S21 v) some = (law10_BracketMends_r22 C v).eval fun y => some (law10_BracketMends_S22 y) := by kernel_rfl
abbrev law10_BracketMends_Y24 : Type := Int × Int × Int × Int × Bool × List Di × List Di × List Di × List Di × List Di × List Di
def law10_BracketMends_S24 (v : law10_BracketMends_Y24) : St := ⟨[(3, .int .i64 v.1), (4, .int .i64 v.2.1), (5, .ptr 0 0), (11, .ptr 1 0), (12, .rs 4), (16, .rs 5), (20, .int .i64 v.2.2.1), (22, .int .i64 v.2.2.2.1), (23, .bool v.2.2.2.2.1)], [.cells [.fz Ri v.2.2.2.2.2.1, .fz Ri v.2.2.2.2.2.2.1], .cells [.rs 2, .rs 3], .rows Ri v.2.2.2.2.2.2.2.1, .rows Ri v.2.2.2.2.2.2.2.2.1, .rows Ri v.2.2.2.2.2.2.2.2.2.1, .rows Ri v.2.2.2.2.2.2.2.2.2.2]⟩
def law10_BracketMends_r24 (C : law10_BracketMends_C) (v : law10_BracketMends_Y22) : Dt law10_BracketMends_Y24 := (Dt.ret (v.1, v.2.1, v.2.2.1, v.2.2.2.1, false, v.2.2.2.2.2.1, v.2.2.2.2.2.2.1, v.2.2.2.2.2.2.2.1, v.2.2.2.2.2.2.2.2.1, v.2.2.2.2.2.2.2.2.2.1, v.2.2.2.2.2.2.2.2.2.2))
theorem law10_BracketMends_g24 (C : law10_BracketMends_C) (v : law10_BracketMends_Y22) : treg tysT (orc (law10_BracketMends_tab C)) 234 (regO (bodyOf f8) 24) false [(3, .any), (4, .any), (5, (.box [.val Ri, .val Ri])), (11, (.box [.own Ri, .own Ri])), (12, (.own Ri)), (16, (.own Ri)), (20, .any), (22, .any), (23, .any)] (law10_BracketMends_S22 v) some = (law10_BracketMends_r24 C v).eval fun y => some (law10_BracketMends_S24 y) := by kernel_rfl
abbrev law10_BracketMends_Y25 : Type := Int × Int × Int × Int × Bool × Int × List Di × List Di × List Di × List Di × List Di × List Di
def law10_BracketMends_S25 (v : law10_BracketMends_Y25) : St := ⟨[(3, .int .i64 v.1), (4, .int .i64 v.2.1), (5, .ptr 0 0), (11, .ptr 1 0), (12, .rs 4), (16, .rs 5), (20, .int .i64 v.2.2.1), (22, .int .i64 v.2.2.2.1), (23, .bool v.2.2.2.2.1), (24, .int .i64 v.2.2.2.2.2.1)], [.cells [.fz Ri v.2.2.2.2.2.2.1, .fz Ri v.2.2.2.2.2.2.2.1], .cells [.rs 2, .rs 3], .rows Ri v.2.2.2.2.2.2.2.2.1, .rows Ri v.2.2.2.2.2.2.2.2.2.1, .rows Ri v.2.2.2.2.2.2.2.2.2.2.1, .rows Ri v.2.2.2.2.2.2.2.2.2.2.2]⟩
def law10_BracketMends_r25 (C : law10_BracketMends_C) (v : law10_BracketMends_Y24) : Dt law10_BracketMends_Y25 := (Dt.ret (v.1, v.2.1, v.2.2.1, v.2.2.2.1, v.2.2.2.2.1, (0:Int), v.2.2.2.2.2.1, v.2.2.2.2.2.2.1, v.2.2.2.2.2.2.2.1, v.2.2.2.2.2.2.2.2.1, v.2.2.2.2.2.2.2.2.2.1, v.2.2.2.2.2.2.2.2.2.2))
theorem law10_BracketMends_g25 (C : law10_BracketMends_C) (v : law10_BracketMends_Y24) : treg tysT (orc (law10_BracketMends_tab C)) 234 (regO (bodyOf f8) 25) false [(3, .any), (4, .any), (5, (.box [.val Ri, .val Ri])), (11, (.box [.own Ri, .own Ri])), (12, (.own Ri)), (16, (.own Ri)), (20, .any), (22, .any), (23, .any), (24, .any)] (law10_BracketMends_S24 v) some = (law10_BracketMends_r25 C v).eval fun y => some (law10_BracketMends_S25 y) := by kernel_rfl
abbrev law10_BracketMends_Y26 : Type := Int × Int × Int × Int × Bool × Int × Bool × List Di × List Di × List Di × List Di × List Di × List Di
def law10_BracketMends_S26 (v : law10_BracketMends_Y26) : St := ⟨[(3, .int .i64 v.1), (4, .int .i64 v.2.1), (5, .ptr 0 0), (11, .ptr 1 0), (12, .rs 4), (16, .rs 5), (20, .int .i64 v.2.2.1), (22, .int .i64 v.2.2.2.1), (23, .bool v.2.2.2.2.1), (24, .int .i64 v.2.2.2.2.2.1), (191, .bool v.2.2.2.2.2.2.1)], [.cells [.fz Ri v.2.2.2.2.2.2.2.1, .fz Ri v.2.2.2.2.2.2.2.2.1], .cells [.rs 2, .rs 3], .rows Ri v.2.2.2.2.2.2.2.2.2.1, .rows Ri v.2.2.2.2.2.2.2.2.2.2.1, .rows Ri v.2.2.2.2.2.2.2.2.2.2.2.1, .rows Ri v.2.2.2.2.2.2.2.2.2.2.2.2]⟩
def law10_BracketMends_r26 (C : law10_BracketMends_C) (v : law10_BracketMends_Y25) : Dt law10_BracketMends_Y26 := (Dt.ret (v.1, v.2.1, v.2.2.1, v.2.2.2.1, v.2.2.2.2.1, v.2.2.2.2.2.1, (decide (v.2.2.2.2.2.1 < (List.length v.2.2.2.2.2.2.2.2.2.2.2 : Int))), v.2.2.2.2.2.2.1, v.2.2.2.2.2.2.2.1, v.2.2.2.2.2.2.2.2.1, v.2.2.2.2.2.2.2.2.2.1, v.2.2.2.2.2.2.2.2.2.2.1, v.2.2.2.2.2.2.2.2.2.2.2))
theorem law10_BracketMends_g26 (C : law10_BracketMends_C) (v : law10_BracketMends_Y25) : treg tysT (orc (law10_BracketMends_tab C)) 234 (regO (bodyOf f8) 26) false [(3, .any), (4, .any), (5, (.box [.val Ri, .val Ri])), (11, (.box [.own Ri, .own Ri])), (12, (.own Ri)), (16, (.own Ri)), (20, .any), (22, .any), (23, .any), (24, .any), (191, .any)] (law10_BracketMends_S25 v) some = (law10_BracketMends_r26 C v).eval fun y => some (law10_BracketMends_S26 y) := by kernel_rfl
def law10_BracketMends_r28 (C : law10_BracketMends_C) (v : law10_BracketMends_Y26) : Dt law10_BracketMends_Y25 := (Dt.ite v.2.2.2.2.1 (Dt.ret (v.1, v.2.1, v.2.2.1, v.2.2.2.1, true, v.2.2.2.2.2.1, v.2.2.2.2.2.2.2.1, v.2.2.2.2.2.2.2.2.1, v.2.2.2.2.2.2.2.2.2.1, v.2.2.2.2.2.2.2.2.2.2.1, v.2.2.2.2.2.2.2.2.2.2.2.1, v.2.2.2.2.2.2.2.2.2.2.2.2)) (Dt.ite (inB v.2.2.2.2.2.1 (List.length v.2.2.2.2.2.2.2.2.2.2.2.2)) (Dt.ret (v.1, v.2.1, v.2.2.1, v.2.2.2.1, ((elt zi v.2.2.2.2.2.2.2.2.2.2.2.2 (v.2.2.2.2.2.1).toNat).1 == v.2.2.2.1), v.2.2.2.2.2.1, v.2.2.2.2.2.2.2.1, v.2.2.2.2.2.2.2.2.1, v.2.2.2.2.2.2.2.2.2.1, v.2.2.2.2.2.2.2.2.2.2.1, v.2.2.2.2.2.2.2.2.2.2.2.1, v.2.2.2.2.2.2.2.2.2.2.2.2)) Dt.fail))
theorem law10_BracketMends_g28 (C : law10_BracketMends_C) (v : law10_BracketMends_Y26) : treg tysT (orc (law10_BracketMends_tab C)) 234 (regO (bodyOf f8) 28) false [(3, .any), (4, .any), (5, (.box [.val Ri, .val Ri])), (11, (.box [.own Ri, .own Ri])), (12, (.own Ri)), (16, (.own Ri)), (20, .any), (22, .any), (23, .any), (24, .any)] (law10_BracketMends_S26 v) some = (law10_BracketMends_r28 C v).eval fun y => some (law10_BracketMends_S25 y) := by kernel_rfl
def law10_BracketMends_r27 (C : law10_BracketMends_C) (v : law10_BracketMends_Y25) : Dt law10_BracketMends_Y25 := (Dt.ret (v.1, v.2.1, v.2.2.1, v.2.2.2.1, v.2.2.2.2.1, (IntKind.wrap .i64 (v.2.2.2.2.2.1 + (1:Int))), v.2.2.2.2.2.2.1, v.2.2.2.2.2.2.2.1, v.2.2.2.2.2.2.2.2.1, v.2.2.2.2.2.2.2.2.2.1, v.2.2.2.2.2.2.2.2.2.2.1, v.2.2.2.2.2.2.2.2.2.2.2))
theorem law10_BracketMends_g27 (C : law10_BracketMends_C) (v : law10_BracketMends_Y25) : treg tysT (orc (law10_BracketMends_tab C)) 234 (regO (bodyOf f8) 27) false [(3, .any), (4, .any), (5, (.box [.val Ri, .val Ri])), (11, (.box [.own Ri, .own Ri])), (12, (.own Ri)), (16, (.own Ri)), (20, .any), (22, .any), (23, .any), (24, .any)] (law10_BracketMends_S25 v) some = (law10_BracketMends_r27 C v).eval fun y => some (law10_BracketMends_S25 y) := by kernel_rfl
abbrev law10_BracketMends_Y29 : Type := Int × Int × Int × Int × Bool × List Di × List Di × List Di × List Di × List Di × List Di
def law10_BracketMends_S29 (v : law10_BracketMends_Y29) : St := ⟨[(3, .int .i64 v.1), (4, .int .i64 v.2.1), (5, .ptr 0 0), (11, .ptr 1 0), (12, .rs 4), (16, .rs 5), (20, .int .i64 v.2.2.1), (22, .int .i64 v.2.2.2.1), (217, .bool v.2.2.2.2.1)], [.cells [.fz Ri v.2.2.2.2.2.1, .fz Ri v.2.2.2.2.2.2.1], .cells [.rs 2, .rs 3], .rows Ri v.2.2.2.2.2.2.2.1, .rows Ri v.2.2.2.2.2.2.2.2.1, .rows Ri v.2.2.2.2.2.2.2.2.2.1, .rows Ri v.2.2.2.2.2.2.2.2.2.2]⟩
def law10_BracketMends_r29 (C : law10_BracketMends_C) (v : law10_BracketMends_Y26) : Dt law10_BracketMends_Y29 := (Dt.ite (!v.2.2.2.2.1) (Dt.ite (inB v.2.2.2.1 (List.length v.2.2.2.2.2.2.2.2.2.2.1)) (Dt.ite (inB v.2.2.2.1 (List.length v.2.2.2.2.2.2.2.2.1)) (Dt.ret (v.1, v.2.1, v.2.2.1, v.2.2.2.1, ((elt zi v.2.2.2.2.2.2.2.2.2.2.1 (v.2.2.2.1).toNat).1 != (elt zi v.2.2.2.2.2.2.2.2.1 (v.2.2.2.1).toNat).1), v.2.2.2.2.2.2.2.1, v.2.2.2.2.2.2.2.2.1, v.2.2.2.2.2.2.2.2.2.1, v.2.2.2.2.2.2.2.2.2.2.1, v.2.2.2.2.2.2.2.2.2.2.2.1, v.2.2.2.2.2.2.2.2.2.2.2.2)) Dt.fail) Dt.fail) (Dt.ret (v.1, v.2.1, v.2.2.1, v.2.2.2.1, false, v.2.2.2.2.2.2.2.1, v.2.2.2.2.2.2.2.2.1, v.2.2.2.2.2.2.2.2.2.1, v.2.2.2.2.2.2.2.2.2.2.1, v.2.2.2.2.2.2.2.2.2.2.2.1, v.2.2.2.2.2.2.2.2.2.2.2.2)))
theorem law10_BracketMends_g29 (C : law10_BracketMends_C) (v : law10_BracketMends_Y26) : treg tysT (orc (law10_BracketMends_tab C)) 234 (regO (bodyOf f8) 29) true [(3, .any), (4, .any), (5, (.box [.val Ri, .val Ri])), (11, (.box [.own Ri, .own Ri])), (12, (.own Ri)), (16, (.own Ri)), (20, .any), (22, .any), (217, .any)] (law10_BracketMends_S26 v) some = (law10_BracketMends_r29 C v).eval fun y => some (law10_BracketMends_S29 y) := by kernel_rfl
def law10_BracketMends_r30 (C : law10_BracketMends_C) (v : law10_BracketMends_Y29) : Dt law10_BracketMends_Y2 := (Dt.ret false)
theorem law10_BracketMends_g30 (C : law10_BracketMends_C) (v : law10_BracketMends_Y29) : treg tysT (orc (law10_BracketMends_tab C)) 234 (regO (bodyOf f8) 30) false [(10, .any)] (law10_BracketMends_S29 v) some = (law10_BracketMends_r30 C v).eval fun y => some (law10_BracketMends_S2 y) := by kernel_rfl
def law10_BracketMends_r23 (C : law10_BracketMends_C) (v : law10_BracketMends_Y29) : Dt law10_BracketMends_Y21 := (Dt.ret (v.1, v.2.1, v.2.2.1, (IntKind.wrap .i64 (v.2.2.2.1 + (1:Int))), v.2.2.2.2.2.1, v.2.2.2.2.2.2.1, v.2.2.2.2.2.2.2.1, v.2.2.2.2.2.2.2.2.1, v.2.2.2.2.2.2.2.2.2.1, v.2.2.2.2.2.2.2.2.2.2))
theorem law10_BracketMends_g23 (C : law10_BracketMends_C) (v : law10_BracketMends_Y29) : treg tysT (orc (law10_BracketMends_tab C)) 234 (regO (bodyOf f8) 23) false [(3, .any), (4, .any), (5, (.box [.val Ri, .val Ri])), (11, (.box [.own Ri, .own Ri])), (12, (.own Ri)), (16, (.own Ri)), (20, .any), (22, .any)] (law10_BracketMends_S29 v) some = (law10_BracketMends_r23 C v).eval fun y => some (law10_BracketMends_S21 y) := by kernel_rfl
def law10_BracketMends_L4 (d : Nat) (self3 : (Int × Int × Int × Int × List Di × List Di × List Di × List Di × List Di × List Di) → Option law10_BracketMends_R) (self4 : (Int × Int × Int × Int × Bool × Int × List Di × List Di × List Di × List Di × List Di × List Di) → Option law10_BracketMends_R) (x4 : Int × Int × Int × Int × Bool × Int × List Di × List Di × List Di × List Di × List Di × List Di) : Option law10_BracketMends_R :=
  (law10_BracketMends_r26 (law10_BracketMends_K d) x4).eval fun y26 =>
  bif y26.2.2.2.2.2.2.1 then ((law10_BracketMends_r28 (law10_BracketMends_K d) y26).eval fun y28 =>
  (law10_BracketMends_r27 (law10_BracketMends_K d) y28).eval fun y27 =>
  self4 y27) else ((law10_BracketMends_r29 (law10_BracketMends_K d) y26).eval fun y29 =>
  bif y29.2.2.2.2.1 then ((law10_BracketMends_r30 (law10_BracketMends_K d) y29).eval fun y30 =>
  some y30) else ((law10_BracketMends_r23 (law10_BracketMends_K d) y29).eval fun y23 =>
  self3 y23))
def law10_BracketMends_r31 (C : law10_BracketMends_C) (v : law10_BracketMends_Y22) : Dt law10_BracketMends_Y2 := (Dt.ite (v.2.2.1 == (List.length v.2.2.2.2.2.2.2.2.2.1 : Int)) (Dt.ite (inB v.1 (List.length v.2.2.2.2.2.2.2.1)) (Dt.ite ((elt zi v.2.2.2.2.2.2.2.1 (v.1).toNat).1 == v.2.1) (Dt.bnd (C.2.2.2.1 (())) fun r1 => (Dt.ret r1)) (Dt.ret false)) Dt.fail) (Dt.ret false))
theorem law10_BracketMends_g31 (C : law10_BracketMends_C) (v : law10_BracketMends_Y22) : treg tysT (orc (law10_BracketMends_tab C)) 234 (regO (bodyOf f8) 31) false [(10, .any)] (law10_BracketMends_S22 v) some = (law10_BracketMends_r31 C v).eval fun y => some (law10_BracketMends_S2 y) := by kernel_rfl
def law10_BracketMends_L3 (d : Nat) (self3 : (Int × Int × Int × Int × List Di × List Di × List Di × List Di × List Di × List Di) → Option law10_BracketMends_R) (x3 : Int × Int × Int × Int × List Di × List Di × List Di × List Di × List Di × List Di) : Option law10_BracketMends_R :=
  (law10_BracketMends_r22 (law10_BracketMends_K d) x3).eval fun y22 =>
  bif y22.2.2.2.2.1 then ((law10_BracketMends_r24 (law10_BracketMends_K d) y22).eval fun y24 =>
  (law10_BracketMends_r25 (law10_BracketMends_K d) y24).eval fun y25 =>
  iter (law10_BracketMends_L4 d self3) d y25) else ((law10_BracketMends_r31 (law10_BracketMends_K d) y22).eval fun y31 =>
  some y31)
def law10_BracketMends_L1 (d : Nat) (self1 : (Int × Int × Int × Int × List Di × List Di × List Di × List Di × List Di × List Di) → Option law10_BracketMends_R) (x1 : Int × Int × Int × Int × List Di × List Di × List Di × List Di × List Di × List Di) : Option law10_BracketMends_R :=
  (law10_BracketMends_r13 (law10_BracketMends_K d) x1).eval fun y13 =>
  bif y13.2.2.2.2.1 then ((law10_BracketMends_r15 (law10_BracketMends_K d) y13).eval fun y15 =>
  bif y15.2.2.2.2.1 then ((law10_BracketMends_r16 (law10_BracketMends_K d) y15).eval fun y16 =>
  some y16) else ((law10_BracketMends_r17 (law10_BracketMends_K d) y15).eval fun y17 =>
  bif y17.2.2.2.2.1 then (law10_BracketMends_J2 d self1 (y17.1, y17.2.1, y17.2.2.1, y17.2.2.2.1, y17.2.2.2.2.2.1, y17.2.2.2.2.2.2.1, y17.2.2.2.2.2.2.2.1, y17.2.2.2.2.2.2.2.2.1, y17.2.2.2.2.2.2.2.2.2.1, y17.2.2.2.2.2.2.2.2.2.2)) else ((law10_BracketMends_r18 (law10_BracketMends_K d) y17).eval fun y18 =>
  bif y18.2.2.2.2.1 then ((law10_BracketMends_r19 (law10_BracketMends_K d) y18).eval fun y19 =>
  some y19) else ((law10_BracketMends_r20 (law10_BracketMends_K d) y18).eval fun y20 =>
  law10_BracketMends_J2 d self1 y20)))) else ((law10_BracketMends_r21 (law10_BracketMends_K d) y13).eval fun y21 =>
  iter (law10_BracketMends_L3 d ) d y21)
def F_law10_BracketMends (d : Nat) (x : law10_BracketMends_X) : Option law10_BracketMends_R :=
  (law10_BracketMends_r0 (law10_BracketMends_K d) (x.1.1, x.1.2.1, x.2.1.1, x.2.2.1.1, x.2.2.1.2.1, x.2.2.2.1.1, x.2.2.2.2.1.1)).eval fun y0 =>
  (law10_BracketMends_r1 (law10_BracketMends_K d) y0).eval fun y1 =>
  bif y1.2.2.1 then ((law10_BracketMends_r2 (law10_BracketMends_K d) y1).eval fun y2 =>
  some y2) else ((law10_BracketMends_r3 (law10_BracketMends_K d) y1).eval fun y3 =>
  (law10_BracketMends_r4 (law10_BracketMends_K d) y3).eval fun y4 =>
  (law10_BracketMends_r5 (law10_BracketMends_K d) y4).eval fun y5 =>
  bif y5.2.2.2.2.1 then ((law10_BracketMends_r6 (law10_BracketMends_K d) y5).eval fun y6 =>
  some y6) else ((law10_BracketMends_r7 (law10_BracketMends_K d) y5).eval fun y7 =>
  (law10_BracketMends_r8 (law10_BracketMends_K d) y7).eval fun y8 =>
  (law10_BracketMends_r9 (law10_BracketMends_K d) y8).eval fun y9 =>
  bif y9.2.2.1 then ((law10_BracketMends_r10 (law10_BracketMends_K d) y9).eval fun y10 =>
  some y10) else ((law10_BracketMends_r11 (law10_BracketMends_K d) y9).eval fun y11 =>
  (law10_BracketMends_r12 (law10_BracketMends_K d) y11).eval fun y12 =>
  iter (law10_BracketMends_L1 d ) d y12)))
theorem law10_BracketMends_cok (d : Nat) : COK prog (law10_BracketMends_sp (F_law10_BracketMends d)) := by
  have hm : prog.follows .mixedOrders = true := mixed
  have hT := tys
  have hC : OrcOK prog (orc (law10_BracketMends_tab (law10_BracketMends_K d))) := orc_ok (by
    intro S hS
    simp only [law10_BracketMends_tab, List.mem_cons, List.not_mem_nil, or_false] at hS
    rcases hS with rfl | rfl | rfl | rfl | rfl
    · exact bracket_Set_cok d
    · exact bracket_Path_cok d
    · exact bracket_Right_cok d
    · exact law10_alive_cok d
    · exact law10_fit_cok d)
  refine cok_of (c := bodyOf f8) (fn := f8) hT (by kernel_rfl) (by kernel_rfl) (by decide) fun x r h w0 φ0 Q hend => ?_
  replace h : F_law10_BracketMends d x = some r := h
  unfold F_law10_BracketMends at h
  show Run prog w0 φ0 234 (bodyOf f8) ⟨[(0, .agg [.fz Ri x.1.1, .fz Ri x.1.2.1]), (1, .agg [.fz Riii x.2.1.1]), (2, .agg [.int .i64 x.2.2.1.1, .int .i64 x.2.2.1.2.1]), (3, .int .i64 x.2.2.2.1.1), (4, .int .i64 x.2.2.2.2.1.1)], []⟩ Q
  refine run_seq ?_
  refine run_reg hm hT hC (law10_BracketMends_g0 (law10_BracketMends_K d) (x.1.1, x.1.2.1, x.2.1.1, x.2.2.1.1, x.2.2.1.2.1, x.2.2.2.1.1, x.2.2.2.2.1.1)) h ?_
  intro y0 h
  refine cn_then ?_
  refine run_seq ?_
  refine run_seq ?_
  refine run_reg hm hT hC (law10_BracketMends_g1 (law10_BracketMends_K d) y0) h ?_
  intro y1 h
  refine cn_then ?_
  refine run_cond (v := y1.2.2.1) (by kernel_rfl) h ?_ ?_
  ·
    intro h
    refine run_seq ?_
    refine run_reg hm hT hC (law10_BracketMends_g2 (law10_BracketMends_K d) y1) h ?_
    intro y2 h
    refine cn_then ?_
    refine run_ret ?_
    refine cn_then_ret ?_
    cases h
    exact (hend _ (by kernel_rfl)).2
  ·
    intro h
    refine run_skip ?_
    refine cn_then ?_
    refine run_seq ?_
    refine run_reg hm hT hC (law10_BracketMends_g3 (law10_BracketMends_K d) y1) h ?_
    intro y3 h
    refine cn_then ?_
    refine run_seq ?_
    refine run_reg hm hT hC (law10_BracketMends_g4 (law10_BracketMends_K d) y3) h ?_
    intro y4 h
    refine cn_then ?_
    refine run_seq ?_
    refine run_seq ?_
    refine run_reg hm hT hC (law10_BracketMends_g5 (law10_BracketMends_K d) y4) h ?_
    intro y5 h
    refine cn_then ?_
    refine run_cond (v := y5.2.2.2.2.1) (by kernel_rfl) h ?_ ?_
    ·
      intro h
      refine run_seq ?_
      refine run_reg hm hT hC (law10_BracketMends_g6 (law10_BracketMends_K d) y5) h ?_
      intro y6 h
      refine cn_then ?_
      refine run_ret ?_
      refine cn_then_ret ?_
      cases h
      exact (hend _ (by kernel_rfl)).2
    ·
      intro h
      refine run_skip ?_
      refine cn_then ?_
      refine run_seq ?_
      refine run_reg hm hT hC (law10_BracketMends_g7 (law10_BracketMends_K d) y5) h ?_
      intro y7 h
      refine cn_then ?_
      refine run_seq ?_
      refine run_reg hm hT hC (law10_BracketMends_g8 (law10_BracketMends_K d) y7) h ?_
      intro y8 h
      refine cn_then ?_
      refine run_seq ?_
      refine run_seq ?_
      refine run_reg hm hT hC (law10_BracketMends_g9 (law10_BracketMends_K d) y8) h ?_
      intro y9 h
      refine cn_then ?_
      refine run_cond (v := y9.2.2.1) (by kernel_rfl) h ?_ ?_
      ·
        intro h
        refine run_seq ?_
        refine run_reg hm hT hC (law10_BracketMends_g10 (law10_BracketMends_K d) y9) h ?_
        intro y10 h
        refine cn_then ?_
        refine run_ret ?_
        refine cn_then_ret ?_
        cases h
        exact (hend _ (by kernel_rfl)).2
      ·
        intro h
        refine run_skip ?_
        refine cn_then ?_
        refine run_seq ?_
        refine run_reg hm hT hC (law10_BracketMends_g11 (law10_BracketMends_K d) y9) h ?_
        intro y11 h
        refine cn_then ?_
        refine run_seq ?_
        refine run_seq ?_
        refine run_reg hm hT hC (law10_BracketMends_g12 (law10_BracketMends_K d) y11) h ?_
        intro y12 h
        refine cn_then ?_
        refine run_block ?_
        refine run_loop (G := iter (law10_BracketMends_L1 d )) (S := (fun x1 => ⟨[(3, .int .i64 x1.1), (4, .int .i64 x1.2.1), (5, .ptr 0 0), (11, .ptr 1 0), (12, .rs 4), (16, .rs 5), (20, .int .i64 x1.2.2.1), (21, .int .i64 x1.2.2.2.1)], [.cells [.fz Ri x1.2.2.2.2.1, .fz Ri x1.2.2.2.2.2.1], .cells [.rs 2, .rs 3], .rows Ri x1.2.2.2.2.2.2.1, .rows Ri x1.2.2.2.2.2.2.2.1, .rows Ri x1.2.2.2.2.2.2.2.2.1, .rows Ri x1.2.2.2.2.2.2.2.2.2]⟩ : Int × Int × Int × Int × List Di × List Di × List Di × List Di × List Di × List Di → St)) (fun _ => rfl) ?_ d _ h
        intro n1 x1 h K1 hn1
        replace h : law10_BracketMends_L1 d  (iter (law10_BracketMends_L1 d ) n1) x1 = some r := h
        generalize iter (law10_BracketMends_L1 d ) n1 = self1 at h hn1
        unfold law10_BracketMends_L1 at h
        refine run_seq ?_
        refine run_seq ?_
        refine run_reg hm hT hC (law10_BracketMends_g13 (law10_BracketMends_K d) x1) h ?_
        intro y13 h
        refine cn_then ?_
        refine run_cond (v := y13.2.2.2.2.1) (by kernel_rfl) h ?_ ?_
        ·
          intro h
          refine run_skip ?_
          refine cn_then ?_
          refine run_join (r := r) (F := law10_BracketMends_J2 d self1) (S := (fun z => ⟨[(3, .int .i64 z.1), (4, .int .i64 z.2.1), (5, .ptr 0 0), (11, .ptr 1 0), (12, .rs 4), (16, .rs 5), (20, .int .i64 z.2.2.1), (21, .int .i64 z.2.2.2.1)], [.cells [.fz Ri z.2.2.2.2.1, .fz Ri z.2.2.2.2.2.1], .cells [.rs 2, .rs 3], .rows Ri z.2.2.2.2.2.2.1, .rows Ri z.2.2.2.2.2.2.2.1, .rows Ri z.2.2.2.2.2.2.2.2.1, .rows Ri z.2.2.2.2.2.2.2.2.2]⟩ : Int × Int × Int × Int × List Di × List Di × List Di × List Di × List Di × List Di → St)) ?_ ?_
          ·
            intro z h
            unfold law10_BracketMends_J2 at h
            refine run_reg hm hT hC (law10_BracketMends_g14 (law10_BracketMends_K d) z) h ?_
            intro y14 h
            exact hn1 _ h
          intro hj2
          refine run_block ?_
          refine run_seq ?_
          refine run_seq ?_
          refine run_reg hm hT hC (law10_BracketMends_g15 (law10_BracketMends_K d) y13) h ?_
          intro y15 h
          refine cn_then ?_
          refine run_cond (v := y15.2.2.2.2.1) (by kernel_rfl) h ?_ ?_
          ·
            intro h
            refine run_seq ?_
            refine run_reg hm hT hC (law10_BracketMends_g16 (law10_BracketMends_K d) y15) h ?_
            intro y16 h
            refine cn_then ?_
            refine run_ret ?_
            refine cn_then_ret ?_
            refine cn_blk_ret ?_
            refine cn_then_ret ?_
            refine cn_then_ret ?_
            refine cn_blk_ret ?_
            refine cn_then_ret ?_
            cases h
            exact (hend _ (by kernel_rfl)).2
          ·
            intro h
            refine run_skip ?_
            refine cn_then ?_
            refine run_seq ?_
            refine run_seq ?_
            refine run_reg hm hT hC (law10_BracketMends_g17 (law10_BracketMends_K d) y15) h ?_
            intro y17 h
            refine cn_then ?_
            refine run_cond (v := y17.2.2.2.2.1) (by kernel_rfl) h ?_ ?_
            ·
              intro h
              refine run_exit ?_
              refine cn_then_exit ?_
              refine cn_blk_eq ?_
              refine cn_num (s := ⟨[(3, .int .i64 y17.1), (4, .int .i64 y17.2.1), (5, .ptr 0 0), (11, .ptr 1 0), (12, .rs 4), (16, .rs 5), (20, .int .i64 y17.2.2.1), (21, .int .i64 y17.2.2.2.1)], [.cells [.fz Ri y17.2.2.2.2.2.1, .fz Ri y17.2.2.2.2.2.2.1], .cells [.rs 2, .rs 3], .rows Ri y17.2.2.2.2.2.2.2.1, .rows Ri y17.2.2.2.2.2.2.2.2.1, .rows Ri y17.2.2.2.2.2.2.2.2.2.1, .rows Ri y17.2.2.2.2.2.2.2.2.2.2]⟩) [163] (by kernel_rfl) ?_
              exact hj2 _ h
            ·
              intro h
              refine run_skip ?_
              refine cn_then ?_
              refine run_seq ?_
              refine run_seq ?_
              refine run_reg hm hT hC (law10_BracketMends_g18 (law10_BracketMends_K d) y17) h ?_
              intro y18 h
              refine cn_then ?_
              refine run_cond (v := y18.2.2.2.2.1) (by kernel_rfl) h ?_ ?_
              ·
                intro h
                refine run_seq ?_
                refine run_reg hm hT hC (law10_BracketMends_g19 (law10_BracketMends_K d) y18) h ?_
                intro y19 h
                refine cn_then ?_
                refine run_ret ?_
                refine cn_then_ret ?_
                refine cn_blk_ret ?_
                refine cn_then_ret ?_
                refine cn_then_ret ?_
                refine cn_blk_ret ?_
                refine cn_then_ret ?_
                cases h
                exact (hend _ (by kernel_rfl)).2
              ·
                intro h
                refine run_skip ?_
                refine cn_then ?_
                refine run_reg hm hT hC (law10_BracketMends_g20 (law10_BracketMends_K d) y18) h ?_
                intro y20 h
                refine cn_blk ?_
                exact hj2 _ h
        ·
          intro h
          refine run_exit ?_
          refine cn_then_exit ?_
          refine cn_then_exit ?_
          refine cn_blk_eq ?_
          refine cn_then ?_
          refine run_seq ?_
          refine run_seq ?_
          refine run_reg hm hT hC (law10_BracketMends_g21 (law10_BracketMends_K d) y13) h ?_
          intro y21 h
          refine cn_then ?_
          refine run_block ?_
          refine run_loop (G := iter (law10_BracketMends_L3 d )) (S := (fun x3 => ⟨[(3, .int .i64 x3.1), (4, .int .i64 x3.2.1), (5, .ptr 0 0), (11, .ptr 1 0), (12, .rs 4), (16, .rs 5), (20, .int .i64 x3.2.2.1), (22, .int .i64 x3.2.2.2.1)], [.cells [.fz Ri x3.2.2.2.2.1, .fz Ri x3.2.2.2.2.2.1], .cells [.rs 2, .rs 3], .rows Ri x3.2.2.2.2.2.2.1, .rows Ri x3.2.2.2.2.2.2.2.1, .rows Ri x3.2.2.2.2.2.2.2.2.1, .rows Ri x3.2.2.2.2.2.2.2.2.2]⟩ : Int × Int × Int × Int × List Di × List Di × List Di × List Di × List Di × List Di → St)) (fun _ => rfl) ?_ d _ h
          intro n3 x3 h K3 hn3
          replace h : law10_BracketMends_L3 d  (iter (law10_BracketMends_L3 d ) n3) x3 = some r := h
          generalize iter (law10_BracketMends_L3 d ) n3 = self3 at h hn3
          unfold law10_BracketMends_L3 at h
          refine run_seq ?_
          refine run_seq ?_
          refine run_reg hm hT hC (law10_BracketMends_g22 (law10_BracketMends_K d) x3) h ?_
          intro y22 h
          refine cn_then ?_
          refine run_cond (v := y22.2.2.2.2.1) (by kernel_rfl) h ?_ ?_
          ·
            intro h
            refine run_skip ?_
            refine cn_then ?_
            refine run_seq ?_
            refine run_block ?_
            refine run_seq ?_
            refine run_reg hm hT hC (law10_BracketMends_g24 (law10_BracketMends_K d) y22) h ?_
            intro y24 h
            refine cn_then ?_
            refine run_seq ?_
            refine run_seq ?_
            refine run_reg hm hT hC (law10_BracketMends_g25 (law10_BracketMends_K d) y24) h ?_
            intro y25 h
            refine cn_then ?_
            refine run_block ?_
            refine run_loop (G := iter (law10_BracketMends_L4 d self3)) (S := (fun x4 => ⟨[(3, .int .i64 x4.1), (4, .int .i64 x4.2.1), (5, .ptr 0 0), (11, .ptr 1 0), (12, .rs 4), (16, .rs 5), (20, .int .i64 x4.2.2.1), (22, .int .i64 x4.2.2.2.1), (23, .bool x4.2.2.2.2.1), (24, .int .i64 x4.2.2.2.2.2.1)], [.cells [.fz Ri x4.2.2.2.2.2.2.1, .fz Ri x4.2.2.2.2.2.2.2.1], .cells [.rs 2, .rs 3], .rows Ri x4.2.2.2.2.2.2.2.2.1, .rows Ri x4.2.2.2.2.2.2.2.2.2.1, .rows Ri x4.2.2.2.2.2.2.2.2.2.2.1, .rows Ri x4.2.2.2.2.2.2.2.2.2.2.2]⟩ : Int × Int × Int × Int × Bool × Int × List Di × List Di × List Di × List Di × List Di × List Di → St)) (fun _ => rfl) ?_ d _ h
            intro n4 x4 h K4 hn4
            replace h : law10_BracketMends_L4 d self3 (iter (law10_BracketMends_L4 d self3) n4) x4 = some r := h
            generalize iter (law10_BracketMends_L4 d self3) n4 = self4 at h hn4
            unfold law10_BracketMends_L4 at h
            refine run_seq ?_
            refine run_seq ?_
            refine run_reg hm hT hC (law10_BracketMends_g26 (law10_BracketMends_K d) x4) h ?_
            intro y26 h
            refine cn_then ?_
            refine run_cond (v := y26.2.2.2.2.2.2.1) (by kernel_rfl) h ?_ ?_
            ·
              intro h
              refine run_skip ?_
              refine cn_then ?_
              refine run_seq ?_
              refine run_block ?_
              refine run_reg hm hT hC (law10_BracketMends_g28 (law10_BracketMends_K d) y26) h ?_
              intro y28 h
              refine cn_blk ?_
              refine cn_then ?_
              refine run_reg hm hT hC (law10_BracketMends_g27 (law10_BracketMends_K d) y28) h ?_
              intro y27 h
              exact hn4 _ h
            ·
              intro h
              refine run_exit ?_
              refine cn_then_exit ?_
              refine cn_then_exit ?_
              refine cn_blk_eq ?_
              refine cn_then ?_
              refine run_seq ?_
              refine run_reg hm hT hC (law10_BracketMends_g29 (law10_BracketMends_K d) y26) h ?_
              intro y29 h
              refine cn_then ?_
              refine run_cond (v := y29.2.2.2.2.1) (by kernel_rfl) h ?_ ?_
              ·
                intro h
                refine run_seq ?_
                refine run_reg hm hT hC (law10_BracketMends_g30 (law10_BracketMends_K d) y29) h ?_
                intro y30 h
                refine cn_then ?_
                refine run_ret ?_
                refine cn_blk_ret ?_
                refine cn_then_ret ?_
                refine cn_then_ret ?_
                refine cn_blk_ret ?_
                refine cn_then_ret ?_
                cases h
                exact (hend _ (by kernel_rfl)).2
              ·
                intro h
                refine run_skip ?_
                refine cn_blk ?_
                refine cn_then ?_
                refine run_reg hm hT hC (law10_BracketMends_g23 (law10_BracketMends_K d) y29) h ?_
                intro y23 h
                exact hn3 _ h
          ·
            intro h
            refine run_exit ?_
            refine cn_then_exit ?_
            refine cn_then_exit ?_
            refine cn_blk_eq ?_
            refine cn_then ?_
            refine run_seq ?_
            refine run_reg hm hT hC (law10_BracketMends_g31 (law10_BracketMends_K d) y22) h ?_
            intro y31 h
            refine cn_then ?_
            refine run_ret ?_
            cases h
            exact (hend _ (by kernel_rfl)).2
end Go.Proofs.Ytkcpnclgcmnlcaa
