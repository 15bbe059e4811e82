/- Walks for the law. -/
import Derived.Test.YtkcpnclgcmnlcaaGj
set_option linter.unusedSimpArgs false
set_option linter.unusedVariables false
namespace Go.Proofs.Ytkcpnclgcmnlcaa
open Go Go.Tx Go.Proofs.Try
set_option maxRecDepth 100000
set_option maxHeartbeats 0
abbrev law10_given_ps : List Pk := []
abbrev law10_given_X : Type := Unit
abbrev law10_given_R : Type := List Diii
def law10_given_enc (r : law10_given_R) : LV × List Ob := (.agg [.rs 0], [.rows Riii r])
def law10_given_sp (F : law10_given_X → Option law10_given_R) : Go.Tx.Spec := ⟨47, law10_given_ps, law10_given_R, F, law10_given_enc⟩
abbrev law10_given_C : Type := Unit
def law10_given_K (_d : Nat) : law10_given_C := ()
def law10_given_tab (C : law10_given_C) : List Go.Tx.Spec := []
abbrev law10_given_Y0i : Type := Unit
def law10_given_S0i (v : law10_given_Y0i) : St := ⟨[], []⟩
abbrev law10_given_Y0 : Type := List Diii
def law10_given_S0 (v : law10_given_Y0) : St := ⟨[(0, .ptr 0 0)], [.cells [.rs 1], .rows Riii v]⟩
def law10_given_r0 (C : law10_given_C) (v : law10_given_Y0i) : Dt law10_given_Y0 := (Dt.ret ([] : List Diii))
theorem law10_given_g0 (C : law10_given_C) (v : law10_given_Y0i) : treg tysT (orc (law10_given_tab C)) 6 (regO (bodyOf f47) 0) false [(0, (.box [.own Riii]))] (law10_given_S0i v) some = (law10_given_r0 C v).eval fun y => some (law10_given_S0 y) := by kernel_rfl
def law10_given_r1 (C : law10_given_C) (v : law10_given_Y0) : Dt law10_given_Y0 := (Dt.ret ([((1:Int), (0:Int), (2:Int), ()), ((2:Int), (6:Int), (-1:Int), ()), ((5:Int), (0:Int), (0:Int), ())] : List Diii))
theorem law10_given_g1 (C : law10_given_C) (v : law10_given_Y0) : treg tysT (orc (law10_given_tab C)) 6 (regO (bodyOf f47) 1) false [(0, (.box [.own Riii]))] (law10_given_S0 v) some = (law10_given_r1 C v).eval fun y => some (law10_given_S0 y) := by kernel_rfl
def F_law10_given (d : Nat) (x : law10_given_X) : Option law10_given_R :=
  (law10_given_r0 (law10_given_K d) ()).eval fun y0 =>
  (law10_given_r1 (law10_given_K d) y0).eval fun y1 =>
  some y1
theorem law10_given_cok (d : Nat) : COK prog (law10_given_sp (F_law10_given d)) := by
  have hm : prog.follows .mixedOrders = true := mixed
  have hT := tys
  have hC : OrcOK prog (orc (law10_given_tab (law10_given_K d))) := orc_ok (by
    intro S hS
    simp only [law10_given_tab, List.mem_cons, List.not_mem_nil, or_false] at hS
    all_goals first | cases hS | exact hS.elim)
  refine cok_of (c := bodyOf f47) (fn := f47) hT (by kernel_rfl) (by kernel_rfl) (by decide) fun x r h w0 φ0 Q hend => ?_
  replace h : F_law10_given d x = some r := h
  unfold F_law10_given at h
  show Run prog w0 φ0 6 (bodyOf f47) ⟨[], []⟩ Q
  refine run_seq ?_
  refine run_reg hm hT hC (law10_given_g0 (law10_given_K d) ()) h ?_
  intro y0 h
  refine cn_then ?_
  refine run_seq ?_
  refine run_reg hm hT hC (law10_given_g1 (law10_given_K d) y0) h ?_
  intro y1 h
  refine cn_then ?_
  refine run_ret ?_
  cases h
  exact (hend _ (by kernel_rfl)).2
abbrev law10_at_ps : List Pk := [.row Ri false]
abbrev law10_at_X : Type := Di × Unit
abbrev law10_at_R : Type := Int × Int
def law10_at_enc (r : law10_at_R) : LV × List Ob := (.agg [.int .i64 r.1, .int .i64 r.2], [])
def law10_at_sp (F : law10_at_X → Option law10_at_R) : Go.Tx.Spec := ⟨48, law10_at_ps, law10_at_R, F, law10_at_enc⟩
abbrev law10_at_C : Type := Unit
def law10_at_K (_d : Nat) : law10_at_C := ()
def law10_at_tab (C : law10_at_C) : List Go.Tx.Spec := []
abbrev law10_at_Y0i : Type := Int
def law10_at_S0i (v : law10_at_Y0i) : St := ⟨[(0, .int .i64 v)], []⟩
abbrev law10_at_Y0 : Type := Int × Int × Int
def law10_at_S0 (v : law10_at_Y0) : St := ⟨[(0, .int .i64 v.1), (2, .ptr 0 0)], [.cells [.int .i64 v.2.1, .int .i64 v.2.2]]⟩
def law10_at_r0 (C : law10_at_C) (v : law10_at_Y0i) : Dt law10_at_Y0 := (Dt.ret (v, (0:Int), (0:Int)))
theorem law10_at_g0 (C : law10_at_C) (v : law10_at_Y0i) : treg tysT (orc (law10_at_tab C)) 5 (regO (bodyOf f48) 0) false [(0, .any), (2, .any)] (law10_at_S0i v) some = (law10_at_r0 C v).eval fun y => some (law10_at_S0 y) := by kernel_rfl
abbrev law10_at_Y1 : Type := Int × Int
def law10_at_S1 (v : law10_at_Y1) : St := ⟨[(2, .ptr 0 0)], [.cells [.int .i64 v.1, .int .i64 v.2]]⟩
def law10_at_r1 (C : law10_at_C) (v : law10_at_Y0) : Dt law10_at_Y1 := (Dt.ret (v.1, (1:Int)))
theorem law10_at_g1 (C : law10_at_C) (v : law10_at_Y0) : treg tysT (orc (law10_at_tab C)) 5 (regO (bodyOf f48) 1) false [(2, .any)] (law10_at_S0 v) some = (law10_at_r1 C v).eval fun y => some (law10_at_S1 y) := by kernel_rfl
def F_law10_at (d : Nat) (x : law10_at_X) : Option law10_at_R :=
  (law10_at_r0 (law10_at_K d) x.1.1).eval fun y0 =>
  (law10_at_r1 (law10_at_K d) y0).eval fun y1 =>
  some y1
theorem law10_at_cok (d : Nat) : COK prog (law10_at_sp (F_law10_at d)) := by
  have hm : prog.follows .mixedOrders = true := mixed
  have hT := tys
  have hC : OrcOK prog (orc (law10_at_tab (law10_at_K d))) := orc_ok (by
    intro S hS
    simp only [law10_at_tab, List.mem_cons, List.not_mem_nil, or_false] at hS
    all_goals first | cases hS | exact hS.elim)
  refine cok_of (c := bodyOf f48) (fn := f48) hT (by kernel_rfl) (by kernel_rfl) (by decide) fun x r h w0 φ0 Q hend => ?_
  replace h : F_law10_at d x = some r := h
  unfold F_law10_at at h
  show Run prog w0 φ0 5 (bodyOf f48) ⟨[(0, .int .i64 x.1.1)], []⟩ Q
  refine run_seq ?_
  refine run_reg hm hT hC (law10_at_g0 (law10_at_K d) x.1.1) h ?_
  intro y0 h
  refine cn_then ?_
  refine run_seq ?_
  refine run_reg hm hT hC (law10_at_g1 (law10_at_K d) y0) h ?_
  intro y1 h
  refine cn_then ?_
  refine run_ret ?_
  cases h
  exact (hend _ (by kernel_rfl)).2
abbrev law10_alive_ps : List Pk := []
abbrev law10_alive_X : Type := Unit
abbrev law10_alive_R : Type := Bool
def law10_alive_enc (r : law10_alive_R) : LV × List Ob := (.bool r, [])
def law10_alive_sp (F : law10_alive_X → Option law10_alive_R) : Go.Tx.Spec := ⟨46, law10_alive_ps, law10_alive_R, F, law10_alive_enc⟩
abbrev law10_alive_C : Type := (bracket_Set_X → Option bracket_Set_R) × (ref03_SameIDs_X → Option ref03_SameIDs_R) × (bracket_Build_X → Option bracket_Build_R) × (bracket_Winner_X → Option bracket_Winner_R) × (bracket_Path_X → Option bracket_Path_R) × (law10_given_X → Option law10_given_R) × (law10_at_X → Option law10_at_R) × Unit
def law10_alive_K (d : Nat) : law10_alive_C := (F_bracket_Set d, F_ref03_SameIDs d, F_bracket_Build d, F_bracket_Winner d, F_bracket_Path d, F_law10_given d, F_law10_at d, ())
def law10_alive_tab (C : law10_alive_C) : List Go.Tx.Spec := [bracket_Set_sp C.1, ref03_SameIDs_sp C.2.1, bracket_Build_sp C.2.2.1, bracket_Winner_sp C.2.2.2.1, bracket_Path_sp C.2.2.2.2.1, law10_given_sp C.2.2.2.2.2.1, law10_at_sp C.2.2.2.2.2.2.1]
abbrev law10_alive_Y0i : Type := Unit
def law10_alive_S0i (v : law10_alive_Y0i) : St := ⟨[], []⟩
def law10_alive_r0 (C : law10_alive_C) (v : law10_alive_Y0i) : Dt law10_alive_Y0i := (Dt.ret ())
theorem law10_alive_g0 (C : law10_alive_C) (v : law10_alive_Y0i) : treg tysT (orc (law10_alive_tab C)) 75 (regO (bodyOf f46) 0) false [] (law10_alive_S0i v) some = (law10_alive_r0 C v).eval fun y => some (law10_alive_S0i y) := by kernel_rfl
abbrev law10_alive_Y1 : Type := Int × List Di × List Di
def law10_alive_S1 (v : law10_alive_Y1) : St := ⟨[(1, .ptr 0 0), (2, .int .i64 v.1)], [.cells [.rs 1, .rs 2], .rows Ri v.2.1, .rows Ri v.2.2]⟩
def law10_alive_r1 (C : law10_alive_C) (v : law10_alive_Y0i) : Dt law10_alive_Y1 := (Dt.bnd (C.2.2.2.2.2.1 (())) fun r1 => (Dt.bnd (C.2.2.2.2.2.2.1 (((0:Int), ()), ())) fun r2 => (Dt.bnd (C.2.2.1 ((r1, ()), (r2.1, r2.2, ()), (([((1:Int), ()), ((2:Int), ()), ((-1:Int), ()), ((5:Int), ())] : List Di), ()), ())) fun r3 => (Dt.ret (r3.2.2, r3.1, r3.2.1)))))
theorem law10_alive_g1 (C : law10_alive_C) (v : law10_alive_Y0i) : treg tysT (orc (law10_alive_tab C)) 75 (regO (bodyOf f46) 1) false [(1, (.box [.own Ri, .own Ri])), (2, .any)] (law10_alive_S0i v) some = (law10_alive_r1 C v).eval fun y => some (law10_alive_S1 y) := by kernel_rfl
abbrev law10_alive_Y2 : Type := Int × Int × Int × List Di × List Di
def law10_alive_S2 (v : law10_alive_Y2) : St := ⟨[(1, .ptr 0 0), (2, .int .i64 v.1), (3, .int .i64 v.2.1), (4, .int .i64 v.2.2.1)], [.cells [.rs 1, .rs 2], .rows Ri v.2.2.2.1, .rows Ri v.2.2.2.2]⟩
def law10_alive_r2 (C : law10_alive_C) (v : law10_alive_Y1) : Dt law10_alive_Y2 := (Dt.bnd (C.2.2.2.1 ((v.2.1, v.2.2, ()), ())) fun r1 => (Dt.ret (v.1, r1.1, r1.2, v.2.1, v.2.2)))
theorem law10_alive_g2 (C : law10_alive_C) (v : law10_alive_Y1) : treg tysT (orc (law10_alive_tab C)) 75 (regO (bodyOf f46) 2) false [(1, (.box [.own Ri, .own Ri])), (2, .any), (3, .any), (4, .any)] (law10_alive_S1 v) some = (law10_alive_r2 C v).eval fun y => some (law10_alive_S2 y) := by kernel_rfl
abbrev law10_alive_Y3 : Type := Int × Int × Int × Int × List Di × List Di × List Di × List Di × List Di
def law10_alive_S3 (v : law10_alive_Y3) : St := ⟨[(1, .ptr 0 0), (2, .int .i64 v.1), (3, .int .i64 v.2.1), (4, .int .i64 v.2.2.1), (5, .ptr 3 0), (6, .rs 6), (7, .int .i64 v.2.2.2.1)], [.cells [.rs 1, .rs 2], .rows Ri v.2.2.2.2.1, .rows Ri v.2.2.2.2.2.1, .cells [.rs 4, .rs 5], .rows Ri v.2.2.2.2.2.2.1, .rows Ri v.2.2.2.2.2.2.2.1, .rows Ri v.2.2.2.2.2.2.2.2]⟩
def law10_alive_r3 (C : law10_alive_C) (v : law10_alive_Y2) : Dt law10_alive_Y3 := (Dt.bnd (C.2.2.2.2.2.1 (())) fun r1 => (Dt.bnd (C.2.2.2.2.2.2.1 (((0:Int), ()), ())) fun r2 => (Dt.bnd (C.1 ((v.2.2.2.1, v.2.2.2.2, ()), (r1, ()), (r2.1, r2.2, ()), ((1:Int), ()), ((-1:Int), ()), ())) fun r3 => (Dt.ret (v.1, v.2.1, v.2.2.1, r3.2.2.2, v.2.2.2.1, v.2.2.2.2, r3.1, r3.2.1, r3.2.2.1)))))
theorem law10_alive_g3 (C : law10_alive_C) (v : law10_alive_Y2) : treg tysT (orc (law10_alive_tab C)) 75 (regO (bodyOf f46) 3) true [(1, (.box [.own Ri, .own Ri])), (2, .any), (3, .any), (4, .any), (5, (.box [.own Ri, .own Ri])), (6, (.own Ri)), (7, .any)] (law10_alive_S2 v) some = (law10_alive_r3 C v).eval fun y => some (law10_alive_S3 y) := by kernel_rfl
abbrev law10_alive_Y4 : Type := Int × Int × Int × Int × Int × List Di × List Di × List Di × List Di × List Di × List Di
def law10_alive_S4 (v : law10_alive_Y4) : St := ⟨[(1, .ptr 0 0), (2, .int .i64 v.1), (3, .int .i64 v.2.1), (4, .int .i64 v.2.2.1), (5, .ptr 3 0), (6, .rs 6), (7, .int .i64 v.2.2.2.1), (8, .rs 7), (9, .int .i64 v.2.2.2.2.1)], [.cells [.rs 1, .rs 2], .rows Ri v.2.2.2.2.2.1, .rows Ri v.2.2.2.2.2.2.1, .cells [.rs 4, .rs 5], .rows Ri v.2.2.2.2.2.2.2.1, .rows Ri v.2.2.2.2.2.2.2.2.1, .rows Ri v.2.2.2.2.2.2.2.2.2.1, .rows Ri v.2.2.2.2.2.2.2.2.2.2]⟩
def law10_alive_r4 (C : law10_alive_C) (v : law10_alive_Y3) : Dt law10_alive_Y4 := (Dt.bnd (C.2.2.2.2.1 ((v.2.2.2.2.1, v.2.2.2.2.2.1, ()), ((3:Int), ()), ())) fun r1 => (Dt.ret (v.1, v.2.1, v.2.2.1, v.2.2.2.1, r1.2, v.2.2.2.2.1, v.2.2.2.2.2.1, v.2.2.2.2.2.2.1, v.2.2.2.2.2.2.2.1, v.2.2.2.2.2.2.2.2, r1.1)))
theorem law10_alive_g4 (C : law10_alive_C) (v : law10_alive_Y3) : treg tysT (orc (law10_alive_tab C)) 75 (regO (bodyOf f46) 4) false [(1, (.box [.own Ri, .own Ri])), (2, .any), (3, .any), (4, .any), (5, (.box [.own Ri, .own Ri])), (6, (.own Ri)), (7, .any), (8, (.own Ri)), (9, .any)] (law10_alive_S3 v) some = (law10_alive_r4 C v).eval fun y => some (law10_alive_S4 y) := by kernel_rfl
abbrev law10_alive_Y5 : Type := Bool
def law10_alive_S5 (v : law10_alive_Y5) : St := ⟨[(0, .bool v)], []⟩
def law10_alive_r5 (C : law10_alive_C) (v : law10_alive_Y4) : Dt law10_alive_Y5 := (Dt.ite (v.1 == (0:Int)) (Dt.bnd (C.2.1 ((v.2.2.2.2.2.2.1, ()), (([((2:Int), ()), ((2:Int), ()), ((5:Int), ())] : List Di), ()), ())) fun r1 => (Dt.ite r1 (Dt.ite (v.2.2.1 == (0:Int)) (Dt.ite (v.2.1 == (2:Int)) (Dt.ite (v.2.2.2.1 == (0:Int)) (Dt.bnd (C.2.1 ((v.2.2.2.2.2.2.2.2.1, ()), (([((1:Int), ()), ((1:Int), ()), ((5:Int), ())] : List Di), ()), ())) fun r2 => (Dt.ite r2 (Dt.bnd (C.2.1 ((v.2.2.2.2.2.2.2.2.2.1, ()), (([((1:Int), ()), ((0:Int), ())] : List Di), ()), ())) fun r3 => (Dt.ite r3 (Dt.ite (v.2.2.2.2.1 == (0:Int)) (Dt.bnd (C.2.1 ((v.2.2.2.2.2.2.2.2.2.2, ()), (([((2:Int), ()), ((0:Int), ())] : List Di), ()), ())) fun r4 => (Dt.ret r4)) (Dt.ret false)) (Dt.ret false))) (Dt.ret false))) (Dt.ret false)) (Dt.ret false)) (Dt.ret false)) (Dt.ret false))) (Dt.ret false))
theorem law10_alive_g5 (C : law10_alive_C) (v : law10_alive_Y4) : treg tysT (orc (law10_alive_tab C)) 75 (regO (bodyOf f46) 5) false [(0, .any)] (law10_alive_S4 v) some = (law10_alive_r5 C v).eval fun y => some (law10_alive_S5 y) := by kernel_rfl
def F_law10_alive (d : Nat) (x : law10_alive_X) : Option law10_alive_R :=
  (law10_alive_r0 (law10_alive_K d) ()).eval fun y0 =>
  (law10_alive_r1 (law10_alive_K d) ()).eval fun y1 =>
  (law10_alive_r2 (law10_alive_K d) y1).eval fun y2 =>
  (law10_alive_r3 (law10_alive_K d) y2).eval fun y3 =>
  (law10_alive_r4 (law10_alive_K d) y3).eval fun y4 =>
  (law10_alive_r5 (law10_alive_K d) y4).eval fun y5 =>
  some y5
theorem law10_alive_cok (d : Nat) : COK prog (law10_alive_sp (F_law10_alive d)) := by
  have hm : prog.follows .mixedOrders = true := mixed
  have hT := tys
  have hC : OrcOK prog (orc (law10_alive_tab (law10_alive_K d))) := orc_ok (by
    intro S hS
    simp only [law10_alive_tab, List.mem_cons, List.not_mem_nil, or_false] at hS
    rcases hS with rfl | rfl | rfl | rfl | rfl | rfl | rfl
    · exact bracket_Set_cok d
    · exact ref03_SameIDs_cok d
    · exact bracket_Build_cok d
    · exact bracket_Winner_cok d
    · exact bracket_Path_cok d
    · exact law10_given_cok d
    · exact law10_at_cok d)
  refine cok_of (c := bodyOf f46) (fn := f46) hT (by kernel_rfl) (by kernel_rfl) (by decide) fun x r h w0 φ0 Q hend => ?_
  replace h : F_law10_alive d x = some r := h
  unfold F_law10_alive at h
  show Run prog w0 φ0 75 (bodyOf f46) ⟨[], []⟩ Q
  refine run_seq ?_
  refine run_reg hm hT hC (law10_alive_g0 (law10_alive_K d) ()) h ?_
  intro y0 h
  refine cn_then ?_
  refine run_seq ?_
  refine run_reg hm hT hC (law10_alive_g1 (law10_alive_K d) ()) h ?_
  intro y1 h
  refine cn_then ?_
  refine run_seq ?_
  refine run_reg hm hT hC (law10_alive_g2 (law10_alive_K d) y1) h ?_
  intro y2 h
  refine cn_then ?_
  refine run_seq ?_
  refine run_reg hm hT hC (law10_alive_g3 (law10_alive_K d) y2) h ?_
  intro y3 h
  refine cn_then ?_
  refine run_seq ?_
  refine run_reg hm hT hC (law10_alive_g4 (law10_alive_K d) y3) h ?_
  intro y4 h
  refine cn_then ?_
  refine run_seq ?_
  refine run_reg hm hT hC (law10_alive_g5 (law10_alive_K d) y4) h ?_
  intro y5 h
  refine cn_then ?_
  refine run_ret ?_
  cases h
  exact (hend _ (by kernel_rfl)).2
end Go.Proofs.Ytkcpnclgcmnlcaa

namespace Go.Proofs.Ytkcpnclgcmnlcaa
open Go Go.Tx Go.Proofs.Try
set_option maxRecDepth 100000
set_option maxHeartbeats 0
abbrev law10_BracketNames_ps : List Pk := []
abbrev law10_BracketNames_X : Type := Unit
abbrev law10_BracketNames_R : Type := Bool
def law10_BracketNames_enc (r : law10_BracketNames_R) : LV × List Ob := (.bool r, [])
def law10_BracketNames_sp (F : law10_BracketNames_X → Option law10_BracketNames_R) : Go.Tx.Spec := ⟨7, law10_BracketNames_ps, law10_BracketNames_R, F, law10_BracketNames_enc⟩
abbrev law10_BracketNames_C : Type := (bracket_Set_X → Option bracket_Set_R) × (ref10_Same_X → Option ref10_Same_R) × (bracket_Build_X → Option bracket_Build_R) × (bracket_Winner_X → Option bracket_Winner_R) × (bracket_Path_X → Option bracket_Path_R) × (bracket_Right_X → Option bracket_Right_R) × (bracket_Check_X → Option bracket_Check_R) × (law10_alive_X → Option law10_alive_R) × (law10_given_X → Option law10_given_R) × (law10_at_X → Option law10_at_R) × Unit
def law10_BracketNames_K (d : Nat) : law10_BracketNames_C := (F_bracket_Set d, F_ref10_Same d, F_bracket_Build d, F_bracket_Winner d, F_bracket_Path d, F_bracket_Right d, F_bracket_Check d, F_law10_alive d, F_law10_given d, F_law10_at d, ())
def law10_BracketNames_tab (C : law10_BracketNames_C) : List Go.Tx.Spec := [bracket_Set_sp C.1, ref10_Same_sp C.2.1, bracket_Build_sp C.2.2.1, bracket_Winner_sp C.2.2.2.1, bracket_Path_sp C.2.2.2.2.1, bracket_Right_sp C.2.2.2.2.2.1, bracket_Check_sp C.2.2.2.2.2.2.1, law10_alive_sp C.2.2.2.2.2.2.2.1, law10_given_sp C.2.2.2.2.2.2.2.2.1, law10_at_sp C.2.2.2.2.2.2.2.2.2.1]
abbrev law10_BracketNames_Y0i : Type := Unit
def law10_BracketNames_S0i (v : law10_BracketNames_Y0i) : St := ⟨[], []⟩
def law10_BracketNames_r0 (C : law10_BracketNames_C) (v : law10_BracketNames_Y0i) : Dt law10_BracketNames_Y0i := (Dt.ret ())
theorem law10_BracketNames_g0 (C : law10_BracketNames_C) (v : law10_BracketNames_Y0i) : treg tysT (orc (law10_BracketNames_tab C)) 451 (regO (bodyOf f7) 0) false [] (law10_BracketNames_S0i v) some = (law10_BracketNames_r0 C v).eval fun y => some (law10_BracketNames_S0i y) := by kernel_rfl
abbrev law10_BracketNames_Y1 : Type := List Diii
def law10_BracketNames_S1 (v : law10_BracketNames_Y1) : St := ⟨[(1, .ptr 0 0)], [.cells [.rs 1], .rows Riii v]⟩
def law10_BracketNames_r1 (C : law10_BracketNames_C) (v : law10_BracketNames_Y0i) : Dt law10_BracketNames_Y1 := (Dt.ite (mkB (65:Int) (65:Int)) (Dt.ret (List.replicate ((65:Int)).toNat ziii)) Dt.fail)
theorem law10_BracketNames_g1 (C : law10_BracketNames_C) (v : law10_BracketNames_Y0i) : treg tysT (orc (law10_BracketNames_tab C)) 451 (regO (bodyOf f7) 1) false [(1, (.box [.own Riii]))] (law10_BracketNames_S0i v) some = (law10_BracketNames_r1 C v).eval fun y => some (law10_BracketNames_S1 y) := by kernel_rfl
abbrev law10_BracketNames_Y2 : Type := Int × List Diii
def law10_BracketNames_S2 (v : law10_BracketNames_Y2) : St := ⟨[(1, .ptr 0 0), (3, .int .i64 v.1)], [.cells [.rs 1], .rows Riii v.2]⟩
def law10_BracketNames_r2 (C : law10_BracketNames_C) (v : law10_BracketNames_Y1) : Dt law10_BracketNames_Y2 := (Dt.bnd (C.2.2.1 ((v, ()), ((0:Int), (0:Int), ()), ([], ()), ())) fun r1 => (Dt.ret (r1.2.2, v)))
theorem law10_BracketNames_g2 (C : law10_BracketNames_C) (v : law10_BracketNames_Y1) : treg tysT (orc (law10_BracketNames_tab C)) 451 (regO (bodyOf f7) 2) false [(1, (.box [.own Riii])), (3, .any)] (law10_BracketNames_S1 v) some = (law10_BracketNames_r2 C v).eval fun y => some (law10_BracketNames_S2 y) := by kernel_rfl
abbrev law10_BracketNames_Y3 : Type := Int × Int × List Diii
def law10_BracketNames_S3 (v : law10_BracketNames_Y3) : St := ⟨[(1, .ptr 0 0), (3, .int .i64 v.1), (5, .int .i64 v.2.1)], [.cells [.rs 1], .rows Riii v.2.2]⟩
def law10_BracketNames_r3 (C : law10_BracketNames_C) (v : law10_BracketNames_Y2) : Dt law10_BracketNames_Y3 := (Dt.bnd (C.2.2.2.2.2.2.2.2.1 (())) fun r1 => (Dt.bnd (C.2.2.1 ((r1, ()), ((0:Int), (0:Int), ()), ([], ()), ())) fun r2 => (Dt.ret (v.1, r2.2.2, v.2))))
theorem law10_BracketNames_g3 (C : law10_BracketNames_C) (v : law10_BracketNames_Y2) : treg tysT (orc (law10_BracketNames_tab C)) 451 (regO (bodyOf f7) 3) false [(1, (.box [.own Riii])), (3, .any), (5, .any)] (law10_BracketNames_S2 v) some = (law10_BracketNames_r3 C v).eval fun y => some (law10_BracketNames_S3 y) := by kernel_rfl
abbrev law10_BracketNames_Y4 : Type := Int × Int × Int × List Diii
def law10_BracketNames_S4 (v : law10_BracketNames_Y4) : St := ⟨[(1, .ptr 0 0), (3, .int .i64 v.1), (5, .int .i64 v.2.1), (7, .int .i64 v.2.2.1)], [.cells [.rs 1], .rows Riii v.2.2.2]⟩
def law10_BracketNames_r4 (C : law10_BracketNames_C) (v : law10_BracketNames_Y3) : Dt law10_BracketNames_Y4 := (Dt.bnd (C.2.2.2.2.2.2.2.2.1 (())) fun r1 => (Dt.bnd (C.2.2.2.2.2.2.2.2.2.1 (((0:Int), ()), ())) fun r2 => (Dt.bnd (C.2.2.1 ((r1, ()), (r2.1, r2.2, ()), ([], ()), ())) fun r3 => (Dt.ret (v.1, v.2.1, r3.2.2, v.2.2)))))
theorem law10_BracketNames_g4 (C : law10_BracketNames_C) (v : law10_BracketNames_Y3) : treg tysT (orc (law10_BracketNames_tab C)) 451 (regO (bodyOf f7) 4) false [(1, (.box [.own Riii])), (3, .any), (5, .any), (7, .any)] (law10_BracketNames_S3 v) some = (law10_BracketNames_r4 C v).eval fun y => some (law10_BracketNames_S4 y) := by kernel_rfl
abbrev law10_BracketNames_Y5 : Type := Int × Int × Int × Int × List Diii
def law10_BracketNames_S5 (v : law10_BracketNames_Y5) : St := ⟨[(1, .ptr 0 0), (3, .int .i64 v.1), (5, .int .i64 v.2.1), (7, .int .i64 v.2.2.1), (9, .int .i64 v.2.2.2.1)], [.cells [.rs 1], .rows Riii v.2.2.2.2]⟩
def law10_BracketNames_r5 (C : law10_BracketNames_C) (v : law10_BracketNames_Y4) : Dt law10_BracketNames_Y5 := (Dt.bnd (C.2.2.2.2.2.2.2.2.1 (())) fun r1 => (Dt.bnd (C.2.2.2.2.2.2.2.2.2.1 (((0:Int), ()), ())) fun r2 => (Dt.ite (mkB (65:Int) (65:Int)) (Dt.bnd (C.2.2.1 ((r1, ()), (r2.1, r2.2, ()), ((List.replicate ((65:Int)).toNat zi), ()), ())) fun r3 => (Dt.ret (v.1, v.2.1, v.2.2.1, r3.2.2, v.2.2.2))) Dt.fail)))
theorem law10_BracketNames_g5 (C : law10_BracketNames_C) (v : law10_BracketNames_Y4) : treg tysT (orc (law10_BracketNames_tab C)) 451 (regO (bodyOf f7) 5) true [(1, (.box [.own Riii])), (3, .any), (5, .any), (7, .any), (9, .any)] (law10_BracketNames_S4 v) some = (law10_BracketNames_r5 C v).eval fun y => some (law10_BracketNames_S5 y) := by kernel_rfl
abbrev law10_BracketNames_Y6 : Type := Int × Int × Int × Int × Int × List Diii
def law10_BracketNames_S6 (v : law10_BracketNames_Y6) : St := ⟨[(1, .ptr 0 0), (3, .int .i64 v.1), (5, .int .i64 v.2.1), (7, .int .i64 v.2.2.1), (9, .int .i64 v.2.2.2.1), (11, .int .i64 v.2.2.2.2.1)], [.cells [.rs 1], .rows Riii v.2.2.2.2.2]⟩
def law10_BracketNames_r6 (C : law10_BracketNames_C) (v : law10_BracketNames_Y5) : Dt law10_BracketNames_Y6 := (Dt.bnd (C.2.2.2.2.2.2.2.2.1 (())) fun r1 => (Dt.bnd (C.2.2.2.2.2.2.2.2.2.1 (((0:Int), ()), ())) fun r2 => (Dt.bnd (C.2.2.1 ((r1, ()), (r2.1, r2.2, ()), (([((1:Int), ()), ((1:Int), ()), ((3:Int), ())] : List Di), ()), ())) fun r3 => (Dt.ret (v.1, v.2.1, v.2.2.1, v.2.2.2.1, r3.2.2, v.2.2.2.2)))))
theorem law10_BracketNames_g6 (C : law10_BracketNames_C) (v : law10_BracketNames_Y5) : treg tysT (orc (law10_BracketNames_tab C)) 451 (regO (bodyOf f7) 6) false [(1, (.box [.own Riii])), (3, .any), (5, .any), (7, .any), (9, .any), (11, .any)] (law10_BracketNames_S5 v) some = (law10_BracketNames_r6 C v).eval fun y => some (law10_BracketNames_S6 y) := by kernel_rfl
abbrev law10_BracketNames_Y7 : Type := Int × Int × Int × Int × Int × Int × List Diii
def law10_BracketNames_S7 (v : law10_BracketNames_Y7) : St := ⟨[(1, .ptr 0 0), (3, .int .i64 v.1), (5, .int .i64 v.2.1), (7, .int .i64 v.2.2.1), (9, .int .i64 v.2.2.2.1), (11, .int .i64 v.2.2.2.2.1), (13, .int .i64 v.2.2.2.2.2.1)], [.cells [.rs 1], .rows Riii v.2.2.2.2.2.2]⟩
def law10_BracketNames_r7 (C : law10_BracketNames_C) (v : law10_BracketNames_Y6) : Dt law10_BracketNames_Y7 := (Dt.bnd (C.2.2.2.2.2.2.2.2.1 (())) fun r1 => (Dt.bnd (C.2.2.2.2.2.2.2.2.2.1 (((0:Int), ()), ())) fun r2 => (Dt.bnd (C.2.2.1 ((r1, ()), (r2.1, r2.2, ()), (([((1:Int), ()), ((1:Int), ()), ((-1:Int), ())] : List Di), ()), ())) fun r3 => (Dt.ret (v.1, v.2.1, v.2.2.1, v.2.2.2.1, v.2.2.2.2.1, r3.2.2, v.2.2.2.2.2)))))
theorem law10_BracketNames_g7 (C : law10_BracketNames_C) (v : law10_BracketNames_Y6) : treg tysT (orc (law10_BracketNames_tab C)) 451 (regO (bodyOf f7) 7) false [(1, (.box [.own Riii])), (3, .any), (5, .any), (7, .any), (9, .any), (11, .any), (13, .any)] (law10_BracketNames_S6 v) some = (law10_BracketNames_r7 C v).eval fun y => some (law10_BracketNames_S7 y) := by kernel_rfl
abbrev law10_BracketNames_Y8 : Type := Int × Int × Int × Int × Int × Int × Int × List Diii
def law10_BracketNames_S8 (v : law10_BracketNames_Y8) : St := ⟨[(1, .ptr 0 0), (3, .int .i64 v.1), (5, .int .i64 v.2.1), (7, .int .i64 v.2.2.1), (9, .int .i64 v.2.2.2.1), (11, .int .i64 v.2.2.2.2.1), (13, .int .i64 v.2.2.2.2.2.1), (15, .int .i64 v.2.2.2.2.2.2.1)], [.cells [.rs 1], .rows Riii v.2.2.2.2.2.2.2]⟩
def law10_BracketNames_r8 (C : law10_BracketNames_C) (v : law10_BracketNames_Y7) : Dt law10_BracketNames_Y8 := (Dt.bnd (C.2.2.2.2.2.2.2.2.1 (())) fun r1 => (Dt.bnd (C.2.2.2.2.2.2.2.2.2.1 (((0:Int), ()), ())) fun r2 => (Dt.bnd (C.2.2.1 ((r1, ()), (r2.1, r2.2, ()), (([((-2:Int), ())] : List Di), ()), ())) fun r3 => (Dt.ret (v.1, v.2.1, v.2.2.1, v.2.2.2.1, v.2.2.2.2.1, v.2.2.2.2.2.1, r3.2.2, v.2.2.2.2.2.2)))))
theorem law10_BracketNames_g8 (C : law10_BracketNames_C) (v : law10_BracketNames_Y7) : treg tysT (orc (law10_BracketNames_tab C)) 451 (regO (bodyOf f7) 8) false [(1, (.box [.own Riii])), (3, .any), (5, .any), (7, .any), (9, .any), (11, .any), (13, .any), (15, .any)] (law10_BracketNames_S7 v) some = (law10_BracketNames_r8 C v).eval fun y => some (law10_BracketNames_S8 y) := by kernel_rfl
abbrev law10_BracketNames_Y9 : Type := Int × Int × Int × Int × Int × Int × Int × Int × List Diii × List Di × List Di
def law10_BracketNames_S9 (v : law10_BracketNames_Y9) : St := ⟨[(1, .ptr 0 0), (3, .int .i64 v.1), (5, .int .i64 v.2.1), (7, .int .i64 v.2.2.1), (9, .int .i64 v.2.2.2.1), (11, .int .i64 v.2.2.2.2.1), (13, .int .i64 v.2.2.2.2.2.1), (15, .int .i64 v.2.2.2.2.2.2.1), (16, .ptr 2 0), (17, .int .i64 v.2.2.2.2.2.2.2.1)], [.cells [.rs 1], .rows Riii v.2.2.2.2.2.2.2.2.1, .cells [.rs 3, .rs 4], .rows Ri v.2.2.2.2.2.2.2.2.2.1, .rows Ri v.2.2.2.2.2.2.2.2.2.2]⟩
def law10_BracketNames_r9 (C : law10_BracketNames_C) (v : law10_BracketNames_Y8) : Dt law10_BracketNames_Y9 := (Dt.bnd (C.2.2.2.2.2.2.2.2.1 (())) fun r1 => (Dt.bnd (C.2.2.2.2.2.2.2.2.2.1 (((0:Int), ()), ())) fun r2 => (Dt.bnd (C.2.2.1 ((r1, ()), (r2.1, r2.2, ()), (([((-1:Int), ()), ((-1:Int), ()), ((-1:Int), ())] : List Di), ()), ())) fun r3 => (Dt.ret (v.1, v.2.1, v.2.2.1, v.2.2.2.1, v.2.2.2.2.1, v.2.2.2.2.2.1, v.2.2.2.2.2.2.1, r3.2.2, v.2.2.2.2.2.2.2, r3.1, r3.2.1)))))
theorem law10_BracketNames_g9 (C : law10_BracketNames_C) (v : law10_BracketNames_Y8) : treg tysT (orc (law10_BracketNames_tab C)) 451 (regO (bodyOf f7) 9) false [(1, (.box [.own Riii])), (3, .any), (5, .any), (7, .any), (9, .any), (11, .any), (13, .any), (15, .any), (16, (.box [.own Ri, .own Ri])), (17, .any)] (law10_BracketNames_S8 v) some = (law10_BracketNames_r9 C v).eval fun y => some (law10_BracketNames_S9 y) := by kernel_rfl
abbrev law10_BracketNames_Y10 : Type := Int × Int × Int × Int × Int × Int × Int × Int × Int × List Diii × List Di × List Di
def law10_BracketNames_S10 (v : law10_BracketNames_Y10) : St := ⟨[(1, .ptr 0 0), (3, .int .i64 v.1), (5, .int .i64 v.2.1), (7, .int .i64 v.2.2.1), (9, .int .i64 v.2.2.2.1), (11, .int .i64 v.2.2.2.2.1), (13, .int .i64 v.2.2.2.2.2.1), (15, .int .i64 v.2.2.2.2.2.2.1), (16, .ptr 2 0), (17, .int .i64 v.2.2.2.2.2.2.2.1), (19, .int .i64 v.2.2.2.2.2.2.2.2.1)], [.cells [.rs 1], .rows Riii v.2.2.2.2.2.2.2.2.2.1, .cells [.rs 3, .rs 4], .rows Ri v.2.2.2.2.2.2.2.2.2.2.1, .rows Ri v.2.2.2.2.2.2.2.2.2.2.2]⟩
def law10_BracketNames_r10 (C : law10_BracketNames_C) (v : law10_BracketNames_Y9) : Dt law10_BracketNames_Y10 := (Dt.bnd (C.2.2.2.1 ((v.2.2.2.2.2.2.2.2.2.1, v.2.2.2.2.2.2.2.2.2.2, ()), ())) fun r1 => (Dt.ret (v.1, v.2.1, v.2.2.1, v.2.2.2.1, v.2.2.2.2.1, v.2.2.2.2.2.1, v.2.2.2.2.2.2.1, v.2.2.2.2.2.2.2.1, r1.2, v.2.2.2.2.2.2.2.2.1, v.2.2.2.2.2.2.2.2.2.1, v.2.2.2.2.2.2.2.2.2.2)))
theorem law10_BracketNames_g10 (C : law10_BracketNames_C) (v : law10_BracketNames_Y9) : treg tysT (orc (law10_BracketNames_tab C)) 451 (regO (bodyOf f7) 10) false [(1, (.box [.own Riii])), (3, .any), (5, .any), (7, .any), (9, .any), (11, .any), (13, .any), (15, .any), (16, (.box [.own Ri, .own Ri])), (17, .any), (19, .any)] (law10_BracketNames_S9 v) some = (law10_BracketNames_r10 C v).eval fun y => some (law10_BracketNames_S10 y) := by kernel_rfl
abbrev law10_BracketNames_Y11 : Type := Int × Int × Int × Int × Int × Int × Int × Int × Int × Int × List Diii × List Di × List Di × List Di × List Di
def law10_BracketNames_S11 (v : law10_BracketNames_Y11) : St := ⟨[(1, .ptr 0 0), (3, .int .i64 v.1), (5, .int .i64 v.2.1), (7, .int .i64 v.2.2.1), (9, .int .i64 v.2.2.2.1), (11, .int .i64 v.2.2.2.2.1), (13, .int .i64 v.2.2.2.2.2.1), (15, .int .i64 v.2.2.2.2.2.2.1), (16, .ptr 2 0), (17, .int .i64 v.2.2.2.2.2.2.2.1), (19, .int .i64 v.2.2.2.2.2.2.2.2.1), (20, .ptr 5 0), (21, .int .i64 v.2.2.2.2.2.2.2.2.2.1)], [.cells [.rs 1], .rows Riii v.2.2.2.2.2.2.2.2.2.2.1, .cells [.rs 3, .rs 4], .rows Ri v.2.2.2.2.2.2.2.2.2.2.2.1, .rows Ri v.2.2.2.2.2.2.2.2.2.2.2.2.1, .cells [.rs 6, .rs 7], .rows Ri v.2.2.2.2.2.2.2.2.2.2.2.2.2.1, .rows Ri v.2.2.2.2.2.2.2.2.2.2.2.2.2.2]⟩
def law10_BracketNames_r11 (C : law10_BracketNames_C) (v : law10_BracketNames_Y10) : Dt law10_BracketNames_Y11 := (Dt.bnd (C.2.2.2.2.2.2.2.2.1 (())) fun r1 => (Dt.bnd (C.2.2.2.2.2.2.2.2.2.1 (((0:Int), ()), ())) fun r2 => (Dt.bnd (C.2.2.1 ((r1, ()), (r2.1, r2.2, ()), (([((5:Int), ())] : List Di), ()), ())) fun r3 => (Dt.ret (v.1, v.2.1, v.2.2.1, v.2.2.2.1, v.2.2.2.2.1, v.2.2.2.2.2.1, v.2.2.2.2.2.2.1, v.2.2.2.2.2.2.2.1, v.2.2.2.2.2.2.2.2.1, r3.2.2, v.2.2.2.2.2.2.2.2.2.1, v.2.2.2.2.2.2.2.2.2.2.1, v.2.2.2.2.2.2.2.2.2.2.2, r3.1, r3.2.1)))))
theorem law10_BracketNames_g11 (C : law10_BracketNames_C) (v : law10_BracketNames_Y10) : treg tysT (orc (law10_BracketNames_tab C)) 451 (regO (bodyOf f7) 11) false [(1, (.box [.own Riii])), (3, .any), (5, .any), (7, .any), (9, .any), (11, .any), (13, .any), (15, .any), (16, (.box [.own Ri, .own Ri])), (17, .any), (19, .any), (20, (.box [.own Ri, .own Ri])), (21, .any)] (law10_BracketNames_S10 v) some = (law10_BracketNames_r11 C v).eval fun y => some (law10_BracketNames_S11 y) := by kernel_rfl
abbrev law10_BracketNames_Y12 : Type := Int × Int × Int × Int × Int × Int × Int × Int × Int × Int × Int × Int × List Diii × List Di × List Di × List Di × List Di
def law10_BracketNames_S12 (v : law10_BracketNames_Y12) : St := ⟨[(1, .ptr 0 0), (3, .int .i64 v.1), (5, .int .i64 v.2.1), (7, .int .i64 v.2.2.1), (9, .int .i64 v.2.2.2.1), (11, .int .i64 v.2.2.2.2.1), (13, .int .i64 v.2.2.2.2.2.1), (15, .int .i64 v.2.2.2.2.2.2.1), (16, .ptr 2 0), (17, .int .i64 v.2.2.2.2.2.2.2.1), (19, .int .i64 v.2.2.2.2.2.2.2.2.1), (20, .ptr 5 0), (21, .int .i64 v.2.2.2.2.2.2.2.2.2.1), (22, .int .i64 v.2.2.2.2.2.2.2.2.2.2.1), (23, .int .i64 v.2.2.2.2.2.2.2.2.2.2.2.1)], [.cells [.rs 1], .rows Riii v.2.2.2.2.2.2.2.2.2.2.2.2.1, .cells [.rs 3, .rs 4], .rows Ri v.2.2.2.2.2.2.2.2.2.2.2.2.2.1, .rows Ri v.2.2.2.2.2.2.2.2.2.2.2.2.2.2.1, .cells [.rs 6, .rs 7], .rows Ri v.2.2.2.2.2.2.2.2.2.2.2.2.2.2.2.1, .rows Ri v.2.2.2.2.2.2.2.2.2.2.2.2.2.2.2.2]⟩
def law10_BracketNames_r12 (C : law10_BracketNames_C) (v : law10_BracketNames_Y11) : Dt law10_BracketNames_Y12 := (Dt.bnd (C.2.2.2.1 ((v.2.2.2.2.2.2.2.2.2.2.2.2.2.1, v.2.2.2.2.2.2.2.2.2.2.2.2.2.2, ()), ())) fun r1 => (Dt.ret (v.1, v.2.1, v.2.2.1, v.2.2.2.1, v.2.2.2.2.1, v.2.2.2.2.2.1, v.2.2.2.2.2.2.1, v.2.2.2.2.2.2.2.1, v.2.2.2.2.2.2.2.2.1, v.2.2.2.2.2.2.2.2.2.1, r1.1, r1.2, v.2.2.2.2.2.2.2.2.2.2.1, v.2.2.2.2.2.2.2.2.2.2.2.1, v.2.2.2.2.2.2.2.2.2.2.2.2.1, v.2.2.2.2.2.2.2.2.2.2.2.2.2.1, v.2.2.2.2.2.2.2.2.2.2.2.2.2.2)))
theorem law10_BracketNames_g12 (C : law10_BracketNames_C) (v : law10_BracketNames_Y11) : treg tysT (orc (law10_BracketNames_tab C)) 451 (regO (bodyOf f7) 12) false [(1, (.box [.own Riii])), (3, .any), (5, .any), (7, .any), (9, .any), (11, .any), (13, .any), (15, .any), (16, (.box [.own Ri, .own Ri])), (17, .any), (19, .any), (20, (.box [.own Ri, .own Ri])), (21, .any), (22, .any), (23, .any)] (law10_BracketNames_S11 v) some = (law10_BracketNames_r12 C v).eval fun y => some (law10_BracketNames_S12 y) := by kernel_rfl
abbrev law10_BracketNames_Y13 : Type := Int × Int × Int × Int × Int × Int × Int × Int × Int × Int × Int × Int × Int × List Diii × List Di × List Di × List Di × List Di × List Di
def law10_BracketNames_S13 (v : law10_BracketNames_Y13) : St := ⟨[(1, .ptr 0 0), (3, .int .i64 v.1), (5, .int .i64 v.2.1), (7, .int .i64 v.2.2.1), (9, .int .i64 v.2.2.2.1), (11, .int .i64 v.2.2.2.2.1), (13, .int .i64 v.2.2.2.2.2.1), (15, .int .i64 v.2.2.2.2.2.2.1), (16, .ptr 2 0), (17, .int .i64 v.2.2.2.2.2.2.2.1), (19, .int .i64 v.2.2.2.2.2.2.2.2.1), (20, .ptr 5 0), (21, .int .i64 v.2.2.2.2.2.2.2.2.2.1), (22, .int .i64 v.2.2.2.2.2.2.2.2.2.2.1), (23, .int .i64 v.2.2.2.2.2.2.2.2.2.2.2.1), (24, .rs 8), (25, .int .i64 v.2.2.2.2.2.2.2.2.2.2.2.2.1)], [.cells [.rs 1], .rows Riii v.2.2.2.2.2.2.2.2.2.2.2.2.2.1, .cells [.rs 3, .rs 4], .rows Ri v.2.2.2.2.2.2.2.2.2.2.2.2.2.2.1, .rows Ri v.2.2.2.2.2.2.2.2.2.2.2.2.2.2.2.1, .cells [.rs 6, .rs 7], .rows Ri v.2.2.2.2.2.2.2.2.2.2.2.2.2.2.2.2.1, .rows Ri v.2.2.2.2.2.2.2.2.2.2.2.2.2.2.2.2.2.1, .rows Ri v.2.2.2.2.2.2.2.2.2.2.2.2.2.2.2.2.2.2]⟩
def law10_BracketNames_r13 (C : law10_BracketNames_C) (v : law10_BracketNames_Y12) : Dt law10_BracketNames_Y13 := (Dt.bnd (C.2.2.2.2.1 ((v.2.2.2.2.2.2.2.2.2.2.2.2.2.2.2.1, v.2.2.2.2.2.2.2.2.2.2.2.2.2.2.2.2, ()), ((0:Int), ()), ())) fun r1 => (Dt.ret (v.1, v.2.1, v.2.2.1, v.2.2.2.1, v.2.2.2.2.1, v.2.2.2.2.2.1, v.2.2.2.2.2.2.1, v.2.2.2.2.2.2.2.1, v.2.2.2.2.2.2.2.2.1, v.2.2.2.2.2.2.2.2.2.1, v.2.2.2.2.2.2.2.2.2.2.1, v.2.2.2.2.2.2.2.2.2.2.2.1, r1.2, v.2.2.2.2.2.2.2.2.2.2.2.2.1, v.2.2.2.2.2.2.2.2.2.2.2.2.2.1, v.2.2.2.2.2.2.2.2.2.2.2.2.2.2.1, v.2.2.2.2.2.2.2.2.2.2.2.2.2.2.2.1, v.2.2.2.2.2.2.2.2.2.2.2.2.2.2.2.2, r1.1)))
theorem law10_BracketNames_g13 (C : law10_BracketNames_C) (v : law10_BracketNames_Y12) : treg tysT (orc (law10_BracketNames_tab C)) 451 (regO (bodyOf f7) 13) false [(1, (.box [.own Riii])), (3, .any), (5, .any), (7, .any), (9, .any), (11, .any), (13, .any), (15, .any), (16, (.box [.own Ri, .own Ri])), (17, .any), (19, .any), (20, (.box [.own Ri, .own Ri])), (21, .any), (22, .any), (23, .any), (24, (.own Ri)), (25, .any)] (law10_BracketNames_S12 v) some = (law10_BracketNames_r13 C v).eval fun y => some (law10_BracketNames_S13 y) := by kernel_rfl
abbrev law10_BracketNames_Y14 : Type := Int × Int × Int × Int × Int × Int × Int × Int × Int × Int × Int × Bool × List Diii × List Di
def law10_BracketNames_S14 (v : law10_BracketNames_Y14) : St := ⟨[(1, .ptr 0 0), (3, .int .i64 v.1), (5, .int .i64 v.2.1), (7, .int .i64 v.2.2.1), (9, .int .i64 v.2.2.2.1), (11, .int .i64 v.2.2.2.2.1), (13, .int .i64 v.2.2.2.2.2.1), (15, .int .i64 v.2.2.2.2.2.2.1), (19, .int .i64 v.2.2.2.2.2.2.2.1), (22, .int .i64 v.2.2.2.2.2.2.2.2.1), (23, .int .i64 v.2.2.2.2.2.2.2.2.2.1), (24, .rs 2), (25, .int .i64 v.2.2.2.2.2.2.2.2.2.2.1), (162, .bool v.2.2.2.2.2.2.2.2.2.2.2.1)], [.cells [.rs 1], .rows Riii v.2.2.2.2.2.2.2.2.2.2.2.2.1, .rows Ri v.2.2.2.2.2.2.2.2.2.2.2.2.2]⟩
def law10_BracketNames_r14 (C : law10_BracketNames_C) (v : law10_BracketNames_Y13) : Dt law10_BracketNames_Y14 := (Dt.ite (v.2.2.2.2.2.2.2.1 != (0:Int)) (Dt.ret (v.1, v.2.1, v.2.2.1, v.2.2.2.1, v.2.2.2.2.1, v.2.2.2.2.2.1, v.2.2.2.2.2.2.1, v.2.2.2.2.2.2.2.2.1, v.2.2.2.2.2.2.2.2.2.2.1, v.2.2.2.2.2.2.2.2.2.2.2.1, v.2.2.2.2.2.2.2.2.2.2.2.2.1, true, v.2.2.2.2.2.2.2.2.2.2.2.2.2.1, v.2.2.2.2.2.2.2.2.2.2.2.2.2.2.2.2.2.2)) (Dt.ite (v.2.2.2.2.2.2.2.2.2.1 != (0:Int)) (Dt.ret (v.1, v.2.1, v.2.2.1, v.2.2.2.1, v.2.2.2.2.1, v.2.2.2.2.2.1, v.2.2.2.2.2.2.1, v.2.2.2.2.2.2.2.2.1, v.2.2.2.2.2.2.2.2.2.2.1, v.2.2.2.2.2.2.2.2.2.2.2.1, v.2.2.2.2.2.2.2.2.2.2.2.2.1, true, v.2.2.2.2.2.2.2.2.2.2.2.2.2.1, v.2.2.2.2.2.2.2.2.2.2.2.2.2.2.2.2.2.2)) (Dt.ite ((List.length v.2.2.2.2.2.2.2.2.2.2.2.2.2.2.2.1 : Int) != (2:Int)) (Dt.ret (v.1, v.2.1, v.2.2.1, v.2.2.2.1, v.2.2.2.2.1, v.2.2.2.2.2.1, v.2.2.2.2.2.2.1, v.2.2.2.2.2.2.2.2.1, v.2.2.2.2.2.2.2.2.2.2.1, v.2.2.2.2.2.2.2.2.2.2.2.1, v.2.2.2.2.2.2.2.2.2.2.2.2.1, true, v.2.2.2.2.2.2.2.2.2.2.2.2.2.1, v.2.2.2.2.2.2.2.2.2.2.2.2.2.2.2.2.2.2)) (Dt.ret (v.1, v.2.1, v.2.2.1, v.2.2.2.1, v.2.2.2.2.1, v.2.2.2.2.2.1, v.2.2.2.2.2.2.1, v.2.2.2.2.2.2.2.2.1, v.2.2.2.2.2.2.2.2.2.2.1, v.2.2.2.2.2.2.2.2.2.2.2.1, v.2.2.2.2.2.2.2.2.2.2.2.2.1, ((List.length v.2.2.2.2.2.2.2.2.2.2.2.2.2.2.2.2.1 : Int) != (1:Int)), v.2.2.2.2.2.2.2.2.2.2.2.2.2.1, v.2.2.2.2.2.2.2.2.2.2.2.2.2.2.2.2.2.2)))))
theorem law10_BracketNames_g14 (C : law10_BracketNames_C) (v : law10_BracketNames_Y13) : treg tysT (orc (law10_BracketNames_tab C)) 451 (regO (bodyOf f7) 14) false [(1, (.box [.own Riii])), (3, .any), (5, .any), (7, .any), (9, .any), (11, .any), (13, .any), (15, .any), (19, .any), (22, .any), (23, .any), (24, (.own Ri)), (25, .any), (162, .any)] (law10_BracketNames_S13 v) some = (law10_BracketNames_r14 C v).eval fun y => some (law10_BracketNames_S14 y) := by kernel_rfl
abbrev law10_BracketNames_Y15 : Type := Bool
def law10_BracketNames_S15 (v : law10_BracketNames_Y15) : St := ⟨[(0, .bool v)], []⟩
def law10_BracketNames_r15 (C : law10_BracketNames_C) (v : law10_BracketNames_Y14) : Dt law10_BracketNames_Y15 := (Dt.ret false)
theorem law10_BracketNames_g15 (C : law10_BracketNames_C) (v : law10_BracketNames_Y14) : treg tysT (orc (law10_BracketNames_tab C)) 451 (regO (bodyOf f7) 15) false [(0, .any)] (law10_BracketNames_S14 v) some = (law10_BracketNames_r15 C v).eval fun y => some (law10_BracketNames_S15 y) := by kernel_rfl
abbrev law10_BracketNames_Y16 : Type := Int × Int × Int × Int × Int × Int × Int × Int × Int × Int × Int × List Diii × List Di × List DLiELiE
def law10_BracketNames_S16 (v : law10_BracketNames_Y16) : St := ⟨[(1, .ptr 0 0), (3, .int .i64 v.1), (5, .int .i64 v.2.1), (7, .int .i64 v.2.2.1), (9, .int .i64 v.2.2.2.1), (11, .int .i64 v.2.2.2.2.1), (13, .int .i64 v.2.2.2.2.2.1), (15, .int .i64 v.2.2.2.2.2.2.1), (19, .int .i64 v.2.2.2.2.2.2.2.1), (22, .int .i64 v.2.2.2.2.2.2.2.2.1), (23, .int .i64 v.2.2.2.2.2.2.2.2.2.1), (24, .rs 2), (25, .int .i64 v.2.2.2.2.2.2.2.2.2.2.1), (26, .rs 3)], [.cells [.rs 1], .rows Riii v.2.2.2.2.2.2.2.2.2.2.2.1, .rows Ri v.2.2.2.2.2.2.2.2.2.2.2.2.1, .rows RLiELiE v.2.2.2.2.2.2.2.2.2.2.2.2.2]⟩
def law10_BracketNames_r16 (C : law10_BracketNames_C) (v : law10_BracketNames_Y14) : Dt law10_BracketNames_Y16 := (Dt.ite (mkB (65:Int) (65:Int)) (Dt.ite (mkB (64:Int) (64:Int)) (Dt.ret (v.1, v.2.1, v.2.2.1, v.2.2.2.1, v.2.2.2.2.1, v.2.2.2.2.2.1, v.2.2.2.2.2.2.1, v.2.2.2.2.2.2.2.1, v.2.2.2.2.2.2.2.2.1, v.2.2.2.2.2.2.2.2.2.1, v.2.2.2.2.2.2.2.2.2.2.1, v.2.2.2.2.2.2.2.2.2.2.2.2.1, v.2.2.2.2.2.2.2.2.2.2.2.2.2, ([([], [], ()), (([((1:Int), ())] : List Di), ([((1:Int), ())] : List Di), ()), (([((1:Int), ()), ((1:Int), ())] : List Di), ([((1:Int), ())] : List Di), ()), (([((-2:Int), ())] : List Di), [], ()), (([((65536:Int), ())] : List Di), [], ()), (([((1:Int), ()), ((2:Int), ())] : List Di), ([((3:Int), ())] : List Di), ()), (([((1:Int), ()), ((-1:Int), ())] : List Di), ([((-1:Int), ())] : List Di), ()), ((List.replicate ((65:Int)).toNat zi), (List.replicate ((64:Int)).toNat zi), ())] : List DLiELiE))) Dt.fail) Dt.fail)
theorem law10_BracketNames_g16 (C : law10_BracketNames_C) (v : law10_BracketNames_Y14) : treg tysT (orc (law10_BracketNames_tab C)) 451 (regO (bodyOf f7) 16) true [(1, (.box [.own Riii])), (3, .any), (5, .any), (7, .any), (9, .any), (11, .any), (13, .any), (15, .any), (19, .any), (22, .any), (23, .any), (24, (.own Ri)), (25, .any), (26, (.own RLiELiE))] (law10_BracketNames_S14 v) some = (law10_BracketNames_r16 C v).eval fun y => some (law10_BracketNames_S16 y) := by kernel_rfl
abbrev law10_BracketNames_Y17 : Type := Int × Int × Int × Int × Int × Int × Int × Int × Int × Int × Int × Int × List Diii × List Di × List DLiELiE
def law10_BracketNames_S17 (v : law10_BracketNames_Y17) : St := ⟨[(1, .ptr 0 0), (3, .int .i64 v.1), (5, .int .i64 v.2.1), (7, .int .i64 v.2.2.1), (9, .int .i64 v.2.2.2.1), (11, .int .i64 v.2.2.2.2.1), (13, .int .i64 v.2.2.2.2.2.1), (15, .int .i64 v.2.2.2.2.2.2.1), (19, .int .i64 v.2.2.2.2.2.2.2.1), (22, .int .i64 v.2.2.2.2.2.2.2.2.1), (23, .int .i64 v.2.2.2.2.2.2.2.2.2.1), (24, .rs 2), (25, .int .i64 v.2.2.2.2.2.2.2.2.2.2.1), (26, .rs 3), (27, .int .i64 v.2.2.2.2.2.2.2.2.2.2.2.1)], [.cells [.rs 1], .rows Riii v.2.2.2.2.2.2.2.2.2.2.2.2.1, .rows Ri v.2.2.2.2.2.2.2.2.2.2.2.2.2.1, .rows RLiELiE v.2.2.2.2.2.2.2.2.2.2.2.2.2.2]⟩
def law10_BracketNames_r17 (C : law10_BracketNames_C) (v : law10_BracketNames_Y16) : Dt law10_BracketNames_Y17 := (Dt.ret (v.1, v.2.1, v.2.2.1, v.2.2.2.1, v.2.2.2.2.1, v.2.2.2.2.2.1, v.2.2.2.2.2.2.1, v.2.2.2.2.2.2.2.1, v.2.2.2.2.2.2.2.2.1, v.2.2.2.2.2.2.2.2.2.1, v.2.2.2.2.2.2.2.2.2.2.1, (0:Int), v.2.2.2.2.2.2.2.2.2.2.2.1, v.2.2.2.2.2.2.2.2.2.2.2.2.1, v.2.2.2.2.2.2.2.2.2.2.2.2.2))
theorem law10_BracketNames_g17 (C : law10_BracketNames_C) (v : law10_BracketNames_Y16) : treg tysT (orc (law10_BracketNames_tab C)) 451 (regO (bodyOf f7) 17) false [(1, (.box [.own Riii])), (3, .any), (5, .any), (7, .any), (9, .any), (11, .any), (13, .any), (15, .any), (19, .any), (22, .any), (23, .any), (24, (.own Ri)), (25, .any), (26, (.own RLiELiE)), (27, .any)] (law10_BracketNames_S16 v) some = (law10_BracketNames_r17 C v).eval fun y => some (law10_BracketNames_S17 y) := by kernel_rfl
abbrev law10_BracketNames_Y18 : Type := Int × Int × Int × Int × Int × Int × Int × Int × Int × Int × Int × Int × Bool × List Diii × List Di × List DLiELiE
def law10_BracketNames_S18 (v : law10_BracketNames_Y18) : St := ⟨[(1, .ptr 0 0), (3, .int .i64 v.1), (5, .int .i64 v.2.1), (7, .int .i64 v.2.2.1), (9, .int .i64 v.2.2.2.1), (11, .int .i64 v.2.2.2.2.1), (13, .int .i64 v.2.2.2.2.2.1), (15, .int .i64 v.2.2.2.2.2.2.1), (19, .int .i64 v.2.2.2.2.2.2.2.1), (22, .int .i64 v.2.2.2.2.2.2.2.2.1), (23, .int .i64 v.2.2.2.2.2.2.2.2.2.1), (24, .rs 2), (25, .int .i64 v.2.2.2.2.2.2.2.2.2.2.1), (26, .rs 3), (27, .int .i64 v.2.2.2.2.2.2.2.2.2.2.2.1), (187, .bool v.2.2.2.2.2.2.2.2.2.2.2.2.1)], [.cells [.rs 1], .rows Riii v.2.2.2.2.2.2.2.2.2.2.2.2.2.1, .rows Ri v.2.2.2.2.2.2.2.2.2.2.2.2.2.2.1, .rows RLiELiE v.2.2.2.2.2.2.2.2.2.2.2.2.2.2.2]⟩
def law10_BracketNames_r18 (C : law10_BracketNames_C) (v : law10_BracketNames_Y17) : Dt law10_BracketNames_Y18 := (Dt.ret (v.1, v.2.1, v.2.2.1, v.2.2.2.1, v.2.2.2.2.1, v.2.2.2.2.2.1, v.2.2.2.2.2.2.1, v.2.2.2.2.2.2.2.1, v.2.2.2.2.2.2.2.2.1, v.2.2.2.2.2.2.2.2.2.1, v.2.2.2.2.2.2.2.2.2.2.1, v.2.2.2.2.2.2.2.2.2.2.2.1, (decide (v.2.2.2.2.2.2.2.2.2.2.2.1 < (List.length v.2.2.2.2.2.2.2.2.2.2.2.2.2.2 : Int))), v.2.2.2.2.2.2.2.2.2.2.2.2.1, v.2.2.2.2.2.2.2.2.2.2.2.2.2.1, v.2.2.2.2.2.2.2.2.2.2.2.2.2.2))
theorem law10_BracketNames_g18 (C : law10_BracketNames_C) (v : law10_BracketNames_Y17) : treg tysT (orc (law10_BracketNames_tab C)) 451 (regO (bodyOf f7) 18) false [(1, (.box [.own Riii])), (3, .any), (5, .any), (7, .any), (9, .any), (11, .any), (13, .any), (15, .any), (19, .any), (22, .any), (23, .any), (24, (.own Ri)), (25, .any), (26, (.own RLiELiE)), (27, .any), (187, .any)] (law10_BracketNames_S17 v) some = (law10_BracketNames_r18 C v).eval fun y => some (law10_BracketNames_S18 y) := by kernel_rfl
abbrev law10_BracketNames_Y20 : Type := Int × Int × Int × Int × Int × Int × Int × Int × Int × Int × Int × Int × Int × List Diii × List Di × List DLiELiE
def law10_BracketNames_S20 (v : law10_BracketNames_Y20) : St := ⟨[(1, .ptr 0 0), (3, .int .i64 v.1), (5, .int .i64 v.2.1), (7, .int .i64 v.2.2.1), (9, .int .i64 v.2.2.2.1), (11, .int .i64 v.2.2.2.2.1), (13, .int .i64 v.2.2.2.2.2.1), (15, .int .i64 v.2.2.2.2.2.2.1), (19, .int .i64 v.2.2.2.2.2.2.2.1), (22, .int .i64 v.2.2.2.2.2.2.2.2.1), (23, .int .i64 v.2.2.2.2.2.2.2.2.2.1), (24, .rs 2), (25, .int .i64 v.2.2.2.2.2.2.2.2.2.2.1), (26, .rs 3), (27, .int .i64 v.2.2.2.2.2.2.2.2.2.2.2.1), (29, .int .i64 v.2.2.2.2.2.2.2.2.2.2.2.2.1)], [.cells [.rs 1], .rows Riii v.2.2.2.2.2.2.2.2.2.2.2.2.2.1, .rows Ri v.2.2.2.2.2.2.2.2.2.2.2.2.2.2.1, .rows RLiELiE v.2.2.2.2.2.2.2.2.2.2.2.2.2.2.2]⟩
def law10_BracketNames_r20 (C : law10_BracketNames_C) (v : law10_BracketNames_Y18) : Dt law10_BracketNames_Y20 := (Dt.ite (inB v.2.2.2.2.2.2.2.2.2.2.2.1 (List.length v.2.2.2.2.2.2.2.2.2.2.2.2.2.2.2)) (Dt.bnd (C.2.2.2.1 (((elt zLiELiE v.2.2.2.2.2.2.2.2.2.2.2.2.2.2.2 (v.2.2.2.2.2.2.2.2.2.2.2.1).toNat).1, (elt zLiELiE v.2.2.2.2.2.2.2.2.2.2.2.2.2.2.2 (v.2.2.2.2.2.2.2.2.2.2.2.1).toNat).2.1, ()), ())) fun r1 => (Dt.ret (v.1, v.2.1, v.2.2.1, v.2.2.2.1, v.2.2.2.2.1, v.2.2.2.2.2.1, v.2.2.2.2.2.2.1, v.2.2.2.2.2.2.2.1, v.2.2.2.2.2.2.2.2.1, v.2.2.2.2.2.2.2.2.2.1, v.2.2.2.2.2.2.2.2.2.2.1, v.2.2.2.2.2.2.2.2.2.2.2.1, r1.2, v.2.2.2.2.2.2.2.2.2.2.2.2.2.1, v.2.2.2.2.2.2.2.2.2.2.2.2.2.2.1, v.2.2.2.2.2.2.2.2.2.2.2.2.2.2.2))) Dt.fail)
theorem law10_BracketNames_g20 (C : law10_BracketNames_C) (v : law10_BracketNames_Y18) : treg tysT (orc (law10_BracketNames_tab C)) 451 (regO (bodyOf f7) 20) false [(1, (.box [.own Riii])), (3, .any), (5, .any), (7, .any), (9, .any), (11, .any), (13, .any), (15, .any), (19, .any), (22, .any), (23, .any), (24, (.own Ri)), (25, .any), (26, (.own RLiELiE)), (27, .any), (29, .any)] (law10_BracketNames_S18 v) some = (law10_BracketNames_r20 C v).eval fun y => some (law10_BracketNames_S20 y) := by kernel_rfl
abbrev law10_BracketNames_Y21 : Type := Int × Int × Int × Int × Int × Int × Int × Int × Int × Int × Int × Int × Int × Int × List Diii × List Di × List DLiELiE
def law10_BracketNames_S21 (v : law10_BracketNames_Y21) : St := ⟨[(1, .ptr 0 0), (3, .int .i64 v.1), (5, .int .i64 v.2.1), (7, .int .i64 v.2.2.1), (9, .int .i64 v.2.2.2.1), (11, .int .i64 v.2.2.2.2.1), (13, .int .i64 v.2.2.2.2.2.1), (15, .int .i64 v.2.2.2.2.2.2.1), (19, .int .i64 v.2.2.2.2.2.2.2.1), (22, .int .i64 v.2.2.2.2.2.2.2.2.1), (23, .int .i64 v.2.2.2.2.2.2.2.2.2.1), (24, .rs 2), (25, .int .i64 v.2.2.2.2.2.2.2.2.2.2.1), (26, .rs 3), (27, .int .i64 v.2.2.2.2.2.2.2.2.2.2.2.1), (29, .int .i64 v.2.2.2.2.2.2.2.2.2.2.2.2.1), (31, .int .i64 v.2.2.2.2.2.2.2.2.2.2.2.2.2.1)], [.cells [.rs 1], .rows Riii v.2.2.2.2.2.2.2.2.2.2.2.2.2.2.1, .rows Ri v.2.2.2.2.2.2.2.2.2.2.2.2.2.2.2.1, .rows RLiELiE v.2.2.2.2.2.2.2.2.2.2.2.2.2.2.2.2]⟩
def law10_BracketNames_r21 (C : law10_BracketNames_C) (v : law10_BracketNames_Y20) : Dt law10_BracketNames_Y21 := (Dt.ite (inB v.2.2.2.2.2.2.2.2.2.2.2.1 (List.length v.2.2.2.2.2.2.2.2.2.2.2.2.2.2.2)) (Dt.bnd (C.2.2.2.2.1 (((elt zLiELiE v.2.2.2.2.2.2.2.2.2.2.2.2.2.2.2 (v.2.2.2.2.2.2.2.2.2.2.2.1).toNat).1, (elt zLiELiE v.2.2.2.2.2.2.2.2.2.2.2.2.2.2.2 (v.2.2.2.2.2.2.2.2.2.2.2.1).toNat).2.1, ()), ((-1:Int), ()), ())) fun r1 => (Dt.ret (v.1, v.2.1, v.2.2.1, v.2.2.2.1, v.2.2.2.2.1, v.2.2.2.2.2.1, v.2.2.2.2.2.2.1, v.2.2.2.2.2.2.2.1, v.2.2.2.2.2.2.2.2.1, v.2.2.2.2.2.2.2.2.2.1, v.2.2.2.2.2.2.2.2.2.2.1, v.2.2.2.2.2.2.2.2.2.2.2.1, v.2.2.2.2.2.2.2.2.2.2.2.2.1, r1.2, v.2.2.2.2.2.2.2.2.2.2.2.2.2.1, v.2.2.2.2.2.2.2.2.2.2.2.2.2.2.1, v.2.2.2.2.2.2.2.2.2.2.2.2.2.2.2))) Dt.fail)
theorem law10_BracketNames_g21 (C : law10_BracketNames_C) (v : law10_BracketNames_Y20) : treg tysT (orc (law10_BracketNames_tab C)) 451 (regO (bodyOf f7) 21) false [(1, (.box [.own Riii])), (3, .any), (5, .any), (7, .any), (9, .any), (11, .any), (13, .any), (15, .any), (19, .any), (22, .any), (23, .any), (24, (.own Ri)), (25, .any), (26, (.own RLiELiE)), (27, .any), (29, .any), (31, .any)] (law10_BracketNames_S20 v) some = (law10_BracketNames_r21 C v).eval fun y => some (law10_BracketNames_S21 y) := by kernel_rfl
abbrev law10_BracketNames_Y22 : Type := Int × Int × Int × Int × Int × Int × Int × Int × Int × Int × Int × Int × Int × Int × Int × List Diii × List Di × List DLiELiE
def law10_BracketNames_S22 (v : law10_BracketNames_Y22) : St := ⟨[(1, .ptr 0 0), (3, .int .i64 v.1), (5, .int .i64 v.2.1), (7, .int .i64 v.2.2.1), (9, .int .i64 v.2.2.2.1), (11, .int .i64 v.2.2.2.2.1), (13, .int .i64 v.2.2.2.2.2.1), (15, .int .i64 v.2.2.2.2.2.2.1), (19, .int .i64 v.2.2.2.2.2.2.2.1), (22, .int .i64 v.2.2.2.2.2.2.2.2.1), (23, .int .i64 v.2.2.2.2.2.2.2.2.2.1), (24, .rs 2), (25, .int .i64 v.2.2.2.2.2.2.2.2.2.2.1), (26, .rs 3), (27, .int .i64 v.2.2.2.2.2.2.2.2.2.2.2.1), (29, .int .i64 v.2.2.2.2.2.2.2.2.2.2.2.2.1), (31, .int .i64 v.2.2.2.2.2.2.2.2.2.2.2.2.2.1), (34, .int .i64 v.2.2.2.2.2.2.2.2.2.2.2.2.2.2.1)], [.cells [.rs 1], .rows Riii v.2.2.2.2.2.2.2.2.2.2.2.2.2.2.2.1, .rows Ri v.2.2.2.2.2.2.2.2.2.2.2.2.2.2.2.2.1, .rows RLiELiE v.2.2.2.2.2.2.2.2.2.2.2.2.2.2.2.2.2]⟩
def law10_BracketNames_r22 (C : law10_BracketNames_C) (v : law10_BracketNames_Y21) : Dt law10_BracketNames_Y22 := (Dt.ite (inB v.2.2.2.2.2.2.2.2.2.2.2.1 (List.length v.2.2.2.2.2.2.2.2.2.2.2.2.2.2.2.2)) (Dt.bnd (C.1 (((elt zLiELiE v.2.2.2.2.2.2.2.2.2.2.2.2.2.2.2.2 (v.2.2.2.2.2.2.2.2.2.2.2.1).toNat).1, (elt zLiELiE v.2.2.2.2.2.2.2.2.2.2.2.2.2.2.2.2 (v.2.2.2.2.2.2.2.2.2.2.2.1).toNat).2.1, ()), (v.2.2.2.2.2.2.2.2.2.2.2.2.2.2.1, ()), ((0:Int), (0:Int), ()), ((-1:Int), ()), ((9:Int), ()), ())) fun r1 => (Dt.ret (v.1, v.2.1, v.2.2.1, v.2.2.2.1, v.2.2.2.2.1, v.2.2.2.2.2.1, v.2.2.2.2.2.2.1, v.2.2.2.2.2.2.2.1, v.2.2.2.2.2.2.2.2.1, v.2.2.2.2.2.2.2.2.2.1, v.2.2.2.2.2.2.2.2.2.2.1, v.2.2.2.2.2.2.2.2.2.2.2.1, v.2.2.2.2.2.2.2.2.2.2.2.2.1, v.2.2.2.2.2.2.2.2.2.2.2.2.2.1, r1.2.2.2, v.2.2.2.2.2.2.2.2.2.2.2.2.2.2.1, v.2.2.2.2.2.2.2.2.2.2.2.2.2.2.2.1, v.2.2.2.2.2.2.2.2.2.2.2.2.2.2.2.2))) Dt.fail)
theorem law10_BracketNames_g22 (C : law10_BracketNames_C) (v : law10_BracketNames_Y21) : treg tysT (orc (law10_BracketNames_tab C)) 451 (regO (bodyOf f7) 22) true [(1, (.box [.own Riii])), (3, .any), (5, .any), (7, .any), (9, .any), (11, .any), (13, .any), (15, .any), (19, .any), (22, .any), (23, .any), (24, (.own Ri)), (25, .any), (26, (.own RLiELiE)), (27, .any), (29, .any), (31, .any), (34, .any)] (law10_BracketNames_S21 v) some = (law10_BracketNames_r22 C v).eval fun y => some (law10_BracketNames_S22 y) := by kernel_rfl
abbrev law10_BracketNames_Y23 : Type := Int × Int × Int × Int × Int × Int × Int × Int × Int × Int × Int × Int × Int × Int × Int × Int × List Diii × List Di × List DLiELiE
def law10_BracketNames_S23 (v : law10_BracketNames_Y23) : St := ⟨[(1, .ptr 0 0), (3, .int .i64 v.1), (5, .int .i64 v.2.1), (7, .int .i64 v.2.2.1), (9, .int .i64 v.2.2.2.1), (11, .int .i64 v.2.2.2.2.1), (13, .int .i64 v.2.2.2.2.2.1), (15, .int .i64 v.2.2.2.2.2.2.1), (19, .int .i64 v.2.2.2.2.2.2.2.1), (22, .int .i64 v.2.2.2.2.2.2.2.2.1), (23, .int .i64 v.2.2.2.2.2.2.2.2.2.1), (24, .rs 2), (25, .int .i64 v.2.2.2.2.2.2.2.2.2.2.1), (26, .rs 3), (27, .int .i64 v.2.2.2.2.2.2.2.2.2.2.2.1), (29, .int .i64 v.2.2.2.2.2.2.2.2.2.2.2.2.1), (31, .int .i64 v.2.2.2.2.2.2.2.2.2.2.2.2.2.1), (34, .int .i64 v.2.2.2.2.2.2.2.2.2.2.2.2.2.2.1), (36, .int .i64 v.2.2.2.2.2.2.2.2.2.2.2.2.2.2.2.1)], [.cells [.rs 1], .rows Riii v.2.2.2.2.2.2.2.2.2.2.2.2.2.2.2.2.1, .rows Ri v.2.2.2.2.2.2.2.2.2.2.2.2.2.2.2.2.2.1, .rows RLiELiE v.2.2.2.2.2.2.2.2.2.2.2.2.2.2.2.2.2.2]⟩
def law10_BracketNames_r23 (C : law10_BracketNames_C) (v : law10_BracketNames_Y22) : Dt law10_BracketNames_Y23 := (Dt.ite (inB v.2.2.2.2.2.2.2.2.2.2.2.1 (List.length v.2.2.2.2.2.2.2.2.2.2.2.2.2.2.2.2.2)) (Dt.bnd (C.2.2.2.2.2.1 (((elt zLiELiE v.2.2.2.2.2.2.2.2.2.2.2.2.2.2.2.2.2 (v.2.2.2.2.2.2.2.2.2.2.2.1).toNat).1, (elt zLiELiE v.2.2.2.2.2.2.2.2.2.2.2.2.2.2.2.2.2 (v.2.2.2.2.2.2.2.2.2.2.2.1).toNat).2.1, ()), (v.2.2.2.2.2.2.2.2.2.2.2.2.2.2.2.1, ()), ((0:Int), (0:Int), ()), ())) fun r1 => (Dt.ret (v.1, v.2.1, v.2.2.1, v.2.2.2.1, v.2.2.2.2.1, v.2.2.2.2.2.1, v.2.2.2.2.2.2.1, v.2.2.2.2.2.2.2.1, v.2.2.2.2.2.2.2.2.1, v.2.2.2.2.2.2.2.2.2.1, v.2.2.2.2.2.2.2.2.2.2.1, v.2.2.2.2.2.2.2.2.2.2.2.1, v.2.2.2.2.2.2.2.2.2.2.2.2.1, v.2.2.2.2.2.2.2.2.2.2.2.2.2.1, v.2.2.2.2.2.2.2.2.2.2.2.2.2.2.1, r1.2, v.2.2.2.2.2.2.2.2.2.2.2.2.2.2.2.1, v.2.2.2.2.2.2.2.2.2.2.2.2.2.2.2.2.1, v.2.2.2.2.2.2.2.2.2.2.2.2.2.2.2.2.2))) Dt.fail)
theorem law10_BracketNames_g23 (C : law10_BracketNames_C) (v : law10_BracketNames_Y22) : treg tysT (orc (law10_BracketNames_tab C)) 451 (regO (bodyOf f7) 23) true [(1, (.box [.own Riii])), (3, .any), (5, .any), (7, .any), (9, .any), (11, .any), (13, .any), (15, .any), (19, .any), (22, .any), (23, .any), (24, (.own Ri)), (25, .any), (26, (.own RLiELiE)), (27, .any), (29, .any), (31, .any), (34, .any), (36, .any)] (law10_BracketNames_S22 v) some = (law10_BracketNames_r23 C v).eval fun y => some (law10_BracketNames_S23 y) := by kernel_rfl
abbrev law10_BracketNames_Y24 : Type := Int × Int × Int × Int × Int × Int × Int × Int × Int × Int × Int × Int × Bool × List Diii × List Di × List DLiELiE
def law10_BracketNames_S24 (v : law10_BracketNames_Y24) : St := ⟨[(1, .ptr 0 0), (3, .int .i64 v.1), (5, .int .i64 v.2.1), (7, .int .i64 v.2.2.1), (9, .int .i64 v.2.2.2.1), (11, .int .i64 v.2.2.2.2.1), (13, .int .i64 v.2.2.2.2.2.1), (15, .int .i64 v.2.2.2.2.2.2.1), (19, .int .i64 v.2.2.2.2.2.2.2.1), (22, .int .i64 v.2.2.2.2.2.2.2.2.1), (23, .int .i64 v.2.2.2.2.2.2.2.2.2.1), (24, .rs 2), (25, .int .i64 v.2.2.2.2.2.2.2.2.2.2.1), (26, .rs 3), (27, .int .i64 v.2.2.2.2.2.2.2.2.2.2.2.1), (248, .bool v.2.2.2.2.2.2.2.2.2.2.2.2.1)], [.cells [.rs 1], .rows Riii v.2.2.2.2.2.2.2.2.2.2.2.2.2.1, .rows Ri v.2.2.2.2.2.2.2.2.2.2.2.2.2.2.1, .rows RLiELiE v.2.2.2.2.2.2.2.2.2.2.2.2.2.2.2]⟩
def law10_BracketNames_r24 (C : law10_BracketNames_C) (v : law10_BracketNames_Y23) : Dt law10_BracketNames_Y24 := (Dt.ite (inB v.2.2.2.2.2.2.2.2.2.2.2.1 (List.length v.2.2.2.2.2.2.2.2.2.2.2.2.2.2.2.2.2.2)) (Dt.bnd (C.2.2.2.2.2.2.1 (((elt zLiELiE v.2.2.2.2.2.2.2.2.2.2.2.2.2.2.2.2.2.2 (v.2.2.2.2.2.2.2.2.2.2.2.1).toNat).1, (elt zLiELiE v.2.2.2.2.2.2.2.2.2.2.2.2.2.2.2.2.2.2 (v.2.2.2.2.2.2.2.2.2.2.2.1).toNat).2.1, ()), ())) fun r1 => (Dt.ite (r1 != (8:Int)) (Dt.ret (v.1, v.2.1, v.2.2.1, v.2.2.2.1, v.2.2.2.2.1, v.2.2.2.2.2.1, v.2.2.2.2.2.2.1, v.2.2.2.2.2.2.2.1, v.2.2.2.2.2.2.2.2.1, v.2.2.2.2.2.2.2.2.2.1, v.2.2.2.2.2.2.2.2.2.2.1, v.2.2.2.2.2.2.2.2.2.2.2.1, true, v.2.2.2.2.2.2.2.2.2.2.2.2.2.2.2.2.1, v.2.2.2.2.2.2.2.2.2.2.2.2.2.2.2.2.2.1, v.2.2.2.2.2.2.2.2.2.2.2.2.2.2.2.2.2.2)) (Dt.ite (v.2.2.2.2.2.2.2.2.2.2.2.2.1 != (8:Int)) (Dt.ret (v.1, v.2.1, v.2.2.1, v.2.2.2.1, v.2.2.2.2.1, v.2.2.2.2.2.1, v.2.2.2.2.2.2.1, v.2.2.2.2.2.2.2.1, v.2.2.2.2.2.2.2.2.1, v.2.2.2.2.2.2.2.2.2.1, v.2.2.2.2.2.2.2.2.2.2.1, v.2.2.2.2.2.2.2.2.2.2.2.1, true, v.2.2.2.2.2.2.2.2.2.2.2.2.2.2.2.2.1, v.2.2.2.2.2.2.2.2.2.2.2.2.2.2.2.2.2.1, v.2.2.2.2.2.2.2.2.2.2.2.2.2.2.2.2.2.2)) (Dt.ite (v.2.2.2.2.2.2.2.2.2.2.2.2.2.1 != (8:Int)) (Dt.ret (v.1, v.2.1, v.2.2.1, v.2.2.2.1, v.2.2.2.2.1, v.2.2.2.2.2.1, v.2.2.2.2.2.2.1, v.2.2.2.2.2.2.2.1, v.2.2.2.2.2.2.2.2.1, v.2.2.2.2.2.2.2.2.2.1, v.2.2.2.2.2.2.2.2.2.2.1, v.2.2.2.2.2.2.2.2.2.2.2.1, true, v.2.2.2.2.2.2.2.2.2.2.2.2.2.2.2.2.1, v.2.2.2.2.2.2.2.2.2.2.2.2.2.2.2.2.2.1, v.2.2.2.2.2.2.2.2.2.2.2.2.2.2.2.2.2.2)) (Dt.ite (v.2.2.2.2.2.2.2.2.2.2.2.2.2.2.1 != (8:Int)) (Dt.ret (v.1, v.2.1, v.2.2.1, v.2.2.2.1, v.2.2.2.2.1, v.2.2.2.2.2.1, v.2.2.2.2.2.2.1, v.2.2.2.2.2.2.2.1, v.2.2.2.2.2.2.2.2.1, v.2.2.2.2.2.2.2.2.2.1, v.2.2.2.2.2.2.2.2.2.2.1, v.2.2.2.2.2.2.2.2.2.2.2.1, true, v.2.2.2.2.2.2.2.2.2.2.2.2.2.2.2.2.1, v.2.2.2.2.2.2.2.2.2.2.2.2.2.2.2.2.2.1, v.2.2.2.2.2.2.2.2.2.2.2.2.2.2.2.2.2.2)) (Dt.ret (v.1, v.2.1, v.2.2.1, v.2.2.2.1, v.2.2.2.2.1, v.2.2.2.2.2.1, v.2.2.2.2.2.2.1, v.2.2.2.2.2.2.2.1, v.2.2.2.2.2.2.2.2.1, v.2.2.2.2.2.2.2.2.2.1, v.2.2.2.2.2.2.2.2.2.2.1, v.2.2.2.2.2.2.2.2.2.2.2.1, (v.2.2.2.2.2.2.2.2.2.2.2.2.2.2.2.1 != (8:Int)), v.2.2.2.2.2.2.2.2.2.2.2.2.2.2.2.2.1, v.2.2.2.2.2.2.2.2.2.2.2.2.2.2.2.2.2.1, v.2.2.2.2.2.2.2.2.2.2.2.2.2.2.2.2.2.2))))))) Dt.fail)
theorem law10_BracketNames_g24 (C : law10_BracketNames_C) (v : law10_BracketNames_Y23) : treg tysT (orc (law10_BracketNames_tab C)) 451 (regO (bodyOf f7) 24) false [(1, (.box [.own Riii])), (3, .any), (5, .any), (7, .any), (9, .any), (11, .any), (13, .any), (15, .any), (19, .any), (22, .any), (23, .any), (24, (.own Ri)), (25, .any), (26, (.own RLiELiE)), (27, .any), (248, .any)] (law10_BracketNames_S23 v) some = (law10_BracketNames_r24 C v).eval fun y => some (law10_BracketNames_S24 y) := by kernel_rfl
def law10_BracketNames_r25 (C : law10_BracketNames_C) (v : law10_BracketNames_Y24) : Dt law10_BracketNames_Y15 := (Dt.ret false)
theorem law10_BracketNames_g25 (C : law10_BracketNames_C) (v : law10_BracketNames_Y24) : treg tysT (orc (law10_BracketNames_tab C)) 451 (regO (bodyOf f7) 25) false [(0, .any)] (law10_BracketNames_S24 v) some = (law10_BracketNames_r25 C v).eval fun y => some (law10_BracketNames_S15 y) := by kernel_rfl
def law10_BracketNames_r19 (C : law10_BracketNames_C) (v : law10_BracketNames_Y24) : Dt law10_BracketNames_Y17 := (Dt.ret (v.1, v.2.1, v.2.2.1, v.2.2.2.1, v.2.2.2.2.1, v.2.2.2.2.2.1, v.2.2.2.2.2.2.1, v.2.2.2.2.2.2.2.1, v.2.2.2.2.2.2.2.2.1, v.2.2.2.2.2.2.2.2.2.1, v.2.2.2.2.2.2.2.2.2.2.1, (IntKind.wrap .i64 (v.2.2.2.2.2.2.2.2.2.2.2.1 + (1:Int))), v.2.2.2.2.2.2.2.2.2.2.2.2.2.1, v.2.2.2.2.2.2.2.2.2.2.2.2.2.2.1, v.2.2.2.2.2.2.2.2.2.2.2.2.2.2.2))
theorem law10_BracketNames_g19 (C : law10_BracketNames_C) (v : law10_BracketNames_Y24) : treg tysT (orc (law10_BracketNames_tab C)) 451 (regO (bodyOf f7) 19) false [(1, (.box [.own Riii])), (3, .any), (5, .any), (7, .any), (9, .any), (11, .any), (13, .any), (15, .any), (19, .any), (22, .any), (23, .any), (24, (.own Ri)), (25, .any), (26, (.own RLiELiE)), (27, .any)] (law10_BracketNames_S24 v) some = (law10_BracketNames_r19 C v).eval fun y => some (law10_BracketNames_S17 y) := by kernel_rfl
abbrev law10_BracketNames_Y26 : Type := Int × Int × Int × Int × Int × Int × Int × Int × Int × Int × Int × List Diii × List Di × List Di × List Di
def law10_BracketNames_S26 (v : law10_BracketNames_Y26) : St := ⟨[(1, .ptr 0 0), (3, .int .i64 v.1), (5, .int .i64 v.2.1), (7, .int .i64 v.2.2.1), (9, .int .i64 v.2.2.2.1), (11, .int .i64 v.2.2.2.2.1), (13, .int .i64 v.2.2.2.2.2.1), (15, .int .i64 v.2.2.2.2.2.2.1), (19, .int .i64 v.2.2.2.2.2.2.2.1), (22, .int .i64 v.2.2.2.2.2.2.2.2.1), (23, .int .i64 v.2.2.2.2.2.2.2.2.2.1), (24, .rs 2), (25, .int .i64 v.2.2.2.2.2.2.2.2.2.2.1), (37, .ptr 3 0)], [.cells [.rs 1], .rows Riii v.2.2.2.2.2.2.2.2.2.2.2.1, .rows Ri v.2.2.2.2.2.2.2.2.2.2.2.2.1, .cells [.rs 4, .rs 5], .rows Ri v.2.2.2.2.2.2.2.2.2.2.2.2.2.1, .rows Ri v.2.2.2.2.2.2.2.2.2.2.2.2.2.2]⟩
def law10_BracketNames_r26 (C : law10_BracketNames_C) (v : law10_BracketNames_Y18) : Dt law10_BracketNames_Y26 := (Dt.ret (v.1, v.2.1, v.2.2.1, v.2.2.2.1, v.2.2.2.2.1, v.2.2.2.2.2.1, v.2.2.2.2.2.2.1, v.2.2.2.2.2.2.2.1, v.2.2.2.2.2.2.2.2.1, v.2.2.2.2.2.2.2.2.2.1, v.2.2.2.2.2.2.2.2.2.2.1, v.2.2.2.2.2.2.2.2.2.2.2.2.2.1, v.2.2.2.2.2.2.2.2.2.2.2.2.2.2.1, ([((1:Int), ()), ((5:Int), ())] : List Di), ([((5:Int), ())] : List Di)))
theorem law10_BracketNames_g26 (C : law10_BracketNames_C) (v : law10_BracketNames_Y18) : treg tysT (orc (law10_BracketNames_tab C)) 451 (regO (bodyOf f7) 26) false [(1, (.box [.own Riii])), (3, .any), (5, .any), (7, .any), (9, .any), (11, .any), (13, .any), (15, .any), (19, .any), (22, .any), (23, .any), (24, (.own Ri)), (25, .any), (37, (.box [.own Ri, .own Ri]))] (law10_BracketNames_S18 v) some = (law10_BracketNames_r26 C v).eval fun y => some (law10_BracketNames_S26 y) := by kernel_rfl
abbrev law10_BracketNames_Y27 : Type := Int × Int × Int × Int × Int × Int × Int × Int × Int × Int × Int × Int × List Diii × List Di × List Di × List Di
def law10_BracketNames_S27 (v : law10_BracketNames_Y27) : St := ⟨[(1, .ptr 0 0), (3, .int .i64 v.1), (5, .int .i64 v.2.1), (7, .int .i64 v.2.2.1), (9, .int .i64 v.2.2.2.1), (11, .int .i64 v.2.2.2.2.1), (13, .int .i64 v.2.2.2.2.2.1), (15, .int .i64 v.2.2.2.2.2.2.1), (19, .int .i64 v.2.2.2.2.2.2.2.1), (22, .int .i64 v.2.2.2.2.2.2.2.2.1), (23, .int .i64 v.2.2.2.2.2.2.2.2.2.1), (24, .rs 2), (25, .int .i64 v.2.2.2.2.2.2.2.2.2.2.1), (37, .ptr 3 0), (39, .int .i64 v.2.2.2.2.2.2.2.2.2.2.2.1)], [.cells [.rs 1], .rows Riii v.2.2.2.2.2.2.2.2.2.2.2.2.1, .rows Ri v.2.2.2.2.2.2.2.2.2.2.2.2.2.1, .cells [.rs 4, .rs 5], .rows Ri v.2.2.2.2.2.2.2.2.2.2.2.2.2.2.1, .rows Ri v.2.2.2.2.2.2.2.2.2.2.2.2.2.2.2]⟩
def law10_BracketNames_r27 (C : law10_BracketNames_C) (v : law10_BracketNames_Y26) : Dt law10_BracketNames_Y27 := (Dt.bnd (C.2.2.2.2.1 ((v.2.2.2.2.2.2.2.2.2.2.2.2.2.1, v.2.2.2.2.2.2.2.2.2.2.2.2.2.2, ()), ((2:Int), ()), ())) fun r1 => (Dt.ret (v.1, v.2.1, v.2.2.1, v.2.2.2.1, v.2.2.2.2.1, v.2.2.2.2.2.1, v.2.2.2.2.2.2.1, v.2.2.2.2.2.2.2.1, v.2.2.2.2.2.2.2.2.1, v.2.2.2.2.2.2.2.2.2.1, v.2.2.2.2.2.2.2.2.2.2.1, r1.2, v.2.2.2.2.2.2.2.2.2.2.2.1, v.2.2.2.2.2.2.2.2.2.2.2.2.1, v.2.2.2.2.2.2.2.2.2.2.2.2.2.1, v.2.2.2.2.2.2.2.2.2.2.2.2.2.2)))
theorem law10_BracketNames_g27 (C : law10_BracketNames_C) (v : law10_BracketNames_Y26) : treg tysT (orc (law10_BracketNames_tab C)) 451 (regO (bodyOf f7) 27) false [(1, (.box [.own Riii])), (3, .any), (5, .any), (7, .any), (9, .any), (11, .any), (13, .any), (15, .any), (19, .any), (22, .any), (23, .any), (24, (.own Ri)), (25, .any), (37, (.box [.own Ri, .own Ri])), (39, .any)] (law10_BracketNames_S26 v) some = (law10_BracketNames_r27 C v).eval fun y => some (law10_BracketNames_S27 y) := by kernel_rfl
abbrev law10_BracketNames_Y28 : Type := Int × Int × Int × Int × Int × Int × Int × Int × Int × Int × Int × Int × Int × List Di × List Di × List Di
def law10_BracketNames_S28 (v : law10_BracketNames_Y28) : St := ⟨[(3, .int .i64 v.1), (5, .int .i64 v.2.1), (7, .int .i64 v.2.2.1), (9, .int .i64 v.2.2.2.1), (11, .int .i64 v.2.2.2.2.1), (13, .int .i64 v.2.2.2.2.2.1), (15, .int .i64 v.2.2.2.2.2.2.1), (19, .int .i64 v.2.2.2.2.2.2.2.1), (22, .int .i64 v.2.2.2.2.2.2.2.2.1), (23, .int .i64 v.2.2.2.2.2.2.2.2.2.1), (24, .rs 0), (25, .int .i64 v.2.2.2.2.2.2.2.2.2.2.1), (37, .ptr 1 0), (39, .int .i64 v.2.2.2.2.2.2.2.2.2.2.2.1), (42, .int .i64 v.2.2.2.2.2.2.2.2.2.2.2.2.1)], [.rows Ri v.2.2.2.2.2.2.2.2.2.2.2.2.2.1, .cells [.rs 2, .rs 3], .rows Ri v.2.2.2.2.2.2.2.2.2.2.2.2.2.2.1, .rows Ri v.2.2.2.2.2.2.2.2.2.2.2.2.2.2.2]⟩
def law10_BracketNames_r28 (C : law10_BracketNames_C) (v : law10_BracketNames_Y27) : Dt law10_BracketNames_Y28 := (Dt.bnd (C.1 ((v.2.2.2.2.2.2.2.2.2.2.2.2.2.2.1, v.2.2.2.2.2.2.2.2.2.2.2.2.2.2.2, ()), (v.2.2.2.2.2.2.2.2.2.2.2.2.1, ()), ((0:Int), (0:Int), ()), ((-1:Int), ()), ((9:Int), ()), ())) fun r1 => (Dt.ret (v.1, v.2.1, v.2.2.1, v.2.2.2.1, v.2.2.2.2.1, v.2.2.2.2.2.1, v.2.2.2.2.2.2.1, v.2.2.2.2.2.2.2.1, v.2.2.2.2.2.2.2.2.1, v.2.2.2.2.2.2.2.2.2.1, v.2.2.2.2.2.2.2.2.2.2.1, v.2.2.2.2.2.2.2.2.2.2.2.1, r1.2.2.2, v.2.2.2.2.2.2.2.2.2.2.2.2.2.1, v.2.2.2.2.2.2.2.2.2.2.2.2.2.2.1, v.2.2.2.2.2.2.2.2.2.2.2.2.2.2.2)))
theorem law10_BracketNames_g28 (C : law10_BracketNames_C) (v : law10_BracketNames_Y27) : treg tysT (orc (law10_BracketNames_tab C)) 451 (regO (bodyOf f7) 28) false [(3, .any), (5, .any), (7, .any), (9, .any), (11, .any), (13, .any), (15, .any), (19, .any), (22, .any), (23, .any), (24, (.own Ri)), (25, .any), (37, (.box [.own Ri, .own Ri])), (39, .any), (42, .any)] (law10_BracketNames_S27 v) some = (law10_BracketNames_r28 C v).eval fun y => some (law10_BracketNames_S28 y) := by kernel_rfl
abbrev law10_BracketNames_Y29 : Type := Int × Int × Int × Int × Int × Int × Int × Int × Int × Int × Int × Int × Int × Int × List Di × List Di × List Di
def law10_BracketNames_S29 (v : law10_BracketNames_Y29) : St := ⟨[(3, .int .i64 v.1), (5, .int .i64 v.2.1), (7, .int .i64 v.2.2.1), (9, .int .i64 v.2.2.2.1), (11, .int .i64 v.2.2.2.2.1), (13, .int .i64 v.2.2.2.2.2.1), (15, .int .i64 v.2.2.2.2.2.2.1), (19, .int .i64 v.2.2.2.2.2.2.2.1), (22, .int .i64 v.2.2.2.2.2.2.2.2.1), (23, .int .i64 v.2.2.2.2.2.2.2.2.2.1), (24, .rs 0), (25, .int .i64 v.2.2.2.2.2.2.2.2.2.2.1), (37, .ptr 1 0), (39, .int .i64 v.2.2.2.2.2.2.2.2.2.2.2.1), (42, .int .i64 v.2.2.2.2.2.2.2.2.2.2.2.2.1), (45, .int .i64 v.2.2.2.2.2.2.2.2.2.2.2.2.2.1)], [.rows Ri v.2.2.2.2.2.2.2.2.2.2.2.2.2.2.1, .cells [.rs 2, .rs 3], .rows Ri v.2.2.2.2.2.2.2.2.2.2.2.2.2.2.2.1, .rows Ri v.2.2.2.2.2.2.2.2.2.2.2.2.2.2.2.2]⟩
def law10_BracketNames_r29 (C : law10_BracketNames_C) (v : law10_BracketNames_Y28) : Dt law10_BracketNames_Y29 := (Dt.bnd (C.2.2.2.2.2.2.2.2.1 (())) fun r1 => (Dt.bnd (C.1 ((v.2.2.2.2.2.2.2.2.2.2.2.2.2.2.1, v.2.2.2.2.2.2.2.2.2.2.2.2.2.2.2, ()), (r1, ()), ((0:Int), (0:Int), ()), ((-1:Int), ()), ((9:Int), ()), ())) fun r2 => (Dt.ret (v.1, v.2.1, v.2.2.1, v.2.2.2.1, v.2.2.2.2.1, v.2.2.2.2.2.1, v.2.2.2.2.2.2.1, v.2.2.2.2.2.2.2.1, v.2.2.2.2.2.2.2.2.1, v.2.2.2.2.2.2.2.2.2.1, v.2.2.2.2.2.2.2.2.2.2.1, v.2.2.2.2.2.2.2.2.2.2.2.1, v.2.2.2.2.2.2.2.2.2.2.2.2.1, r2.2.2.2, v.2.2.2.2.2.2.2.2.2.2.2.2.2.1, v.2.2.2.2.2.2.2.2.2.2.2.2.2.2.1, v.2.2.2.2.2.2.2.2.2.2.2.2.2.2.2))))
theorem law10_BracketNames_g29 (C : law10_BracketNames_C) (v : law10_BracketNames_Y28) : treg tysT (orc (law10_BracketNames_tab C)) 451 (regO (bodyOf f7) 29) true [(3, .any), (5, .any), (7, .any), (9, .any), (11, .any), (13, .any), (15, .any), (19, .any), (22, .any), (23, .any), (24, (.own Ri)), (25, .any), (37, (.box [.own Ri, .own Ri])), (39, .any), (42, .any), (45, .any)] (law10_BracketNames_S28 v) some = (law10_BracketNames_r29 C v).eval fun y => some (law10_BracketNames_S29 y) := by kernel_rfl
abbrev law10_BracketNames_Y30 : Type := Int × Int × Int × Int × Int × Int × Int × Int × Int × Int × Int × Int × Int × Int × Int × List Di × List Di × List Di
def law10_BracketNames_S30 (v : law10_BracketNames_Y30) : St := ⟨[(3, .int .i64 v.1), (5, .int .i64 v.2.1), (7, .int .i64 v.2.2.1), (9, .int .i64 v.2.2.2.1), (11, .int .i64 v.2.2.2.2.1), (13, .int .i64 v.2.2.2.2.2.1), (15, .int .i64 v.2.2.2.2.2.2.1), (19, .int .i64 v.2.2.2.2.2.2.2.1), (22, .int .i64 v.2.2.2.2.2.2.2.2.1), (23, .int .i64 v.2.2.2.2.2.2.2.2.2.1), (24, .rs 0), (25, .int .i64 v.2.2.2.2.2.2.2.2.2.2.1), (37, .ptr 1 0), (39, .int .i64 v.2.2.2.2.2.2.2.2.2.2.2.1), (42, .int .i64 v.2.2.2.2.2.2.2.2.2.2.2.2.1), (45, .int .i64 v.2.2.2.2.2.2.2.2.2.2.2.2.2.1), (48, .int .i64 v.2.2.2.2.2.2.2.2.2.2.2.2.2.2.1)], [.rows Ri v.2.2.2.2.2.2.2.2.2.2.2.2.2.2.2.1, .cells [.rs 2, .rs 3], .rows Ri v.2.2.2.2.2.2.2.2.2.2.2.2.2.2.2.2.1, .rows Ri v.2.2.2.2.2.2.2.2.2.2.2.2.2.2.2.2.2]⟩
def law10_BracketNames_r30 (C : law10_BracketNames_C) (v : law10_BracketNames_Y29) : Dt law10_BracketNames_Y30 := (Dt.bnd (C.2.2.2.2.2.2.2.2.1 (())) fun r1 => (Dt.bnd (C.2.2.2.2.2.2.2.2.2.1 (((0:Int), ()), ())) fun r2 => (Dt.bnd (C.1 ((v.2.2.2.2.2.2.2.2.2.2.2.2.2.2.2.1, v.2.2.2.2.2.2.2.2.2.2.2.2.2.2.2.2, ()), (r1, ()), (r2.1, r2.2, ()), ((2:Int), ()), ((9:Int), ()), ())) fun r3 => (Dt.ret (v.1, v.2.1, v.2.2.1, v.2.2.2.1, v.2.2.2.2.1, v.2.2.2.2.2.1, v.2.2.2.2.2.2.1, v.2.2.2.2.2.2.2.1, v.2.2.2.2.2.2.2.2.1, v.2.2.2.2.2.2.2.2.2.1, v.2.2.2.2.2.2.2.2.2.2.1, v.2.2.2.2.2.2.2.2.2.2.2.1, v.2.2.2.2.2.2.2.2.2.2.2.2.1, v.2.2.2.2.2.2.2.2.2.2.2.2.2.1, r3.2.2.2, v.2.2.2.2.2.2.2.2.2.2.2.2.2.2.1, v.2.2.2.2.2.2.2.2.2.2.2.2.2.2.2.1, v.2.2.2.2.2.2.2.2.2.2.2.2.2.2.2.2)))))
theorem law10_BracketNames_g30 (C : law10_BracketNames_C) (v : law10_BracketNames_Y29) : treg tysT (orc (law10_BracketNames_tab C)) 451 (regO (bodyOf f7) 30) true [(3, .any), (5, .any), (7, .any), (9, .any), (11, .any), (13, .any), (15, .any), (19, .any), (22, .any), (23, .any), (24, (.own Ri)), (25, .any), (37, (.box [.own Ri, .own Ri])), (39, .any), (42, .any), (45, .any), (48, .any)] (law10_BracketNames_S29 v) some = (law10_BracketNames_r30 C v).eval fun y => some (law10_BracketNames_S30 y) := by kernel_rfl
abbrev law10_BracketNames_Y31 : Type := Int × Int × Int × Int × Int × Int × Int × Int × Int × Int × Int × Int × Int × Int × Int × Int × List Di × List Di × List Di
def law10_BracketNames_S31 (v : law10_BracketNames_Y31) : St := ⟨[(3, .int .i64 v.1), (5, .int .i64 v.2.1), (7, .int .i64 v.2.2.1), (9, .int .i64 v.2.2.2.1), (11, .int .i64 v.2.2.2.2.1), (13, .int .i64 v.2.2.2.2.2.1), (15, .int .i64 v.2.2.2.2.2.2.1), (19, .int .i64 v.2.2.2.2.2.2.2.1), (22, .int .i64 v.2.2.2.2.2.2.2.2.1), (23, .int .i64 v.2.2.2.2.2.2.2.2.2.1), (24, .rs 0), (25, .int .i64 v.2.2.2.2.2.2.2.2.2.2.1), (37, .ptr 1 0), (39, .int .i64 v.2.2.2.2.2.2.2.2.2.2.2.1), (42, .int .i64 v.2.2.2.2.2.2.2.2.2.2.2.2.1), (45, .int .i64 v.2.2.2.2.2.2.2.2.2.2.2.2.2.1), (48, .int .i64 v.2.2.2.2.2.2.2.2.2.2.2.2.2.2.1), (51, .int .i64 v.2.2.2.2.2.2.2.2.2.2.2.2.2.2.2.1)], [.rows Ri v.2.2.2.2.2.2.2.2.2.2.2.2.2.2.2.2.1, .cells [.rs 2, .rs 3], .rows Ri v.2.2.2.2.2.2.2.2.2.2.2.2.2.2.2.2.2.1, .rows Ri v.2.2.2.2.2.2.2.2.2.2.2.2.2.2.2.2.2.2]⟩
def law10_BracketNames_r31 (C : law10_BracketNames_C) (v : law10_BracketNames_Y30) : Dt law10_BracketNames_Y31 := (Dt.bnd (C.2.2.2.2.2.2.2.2.1 (())) fun r1 => (Dt.bnd (C.2.2.2.2.2.2.2.2.2.1 (((0:Int), ()), ())) fun r2 => (Dt.bnd (C.1 ((v.2.2.2.2.2.2.2.2.2.2.2.2.2.2.2.2.1, v.2.2.2.2.2.2.2.2.2.2.2.2.2.2.2.2.2, ()), (r1, ()), (r2.1, r2.2, ()), ((0:Int), ()), ((9:Int), ()), ())) fun r3 => (Dt.ret (v.1, v.2.1, v.2.2.1, v.2.2.2.1, v.2.2.2.2.1, v.2.2.2.2.2.1, v.2.2.2.2.2.2.1, v.2.2.2.2.2.2.2.1, v.2.2.2.2.2.2.2.2.1, v.2.2.2.2.2.2.2.2.2.1, v.2.2.2.2.2.2.2.2.2.2.1, v.2.2.2.2.2.2.2.2.2.2.2.1, v.2.2.2.2.2.2.2.2.2.2.2.2.1, v.2.2.2.2.2.2.2.2.2.2.2.2.2.1, v.2.2.2.2.2.2.2.2.2.2.2.2.2.2.1, r3.2.2.2, v.2.2.2.2.2.2.2.2.2.2.2.2.2.2.2.1, v.2.2.2.2.2.2.2.2.2.2.2.2.2.2.2.2.1, v.2.2.2.2.2.2.2.2.2.2.2.2.2.2.2.2.2)))))
theorem law10_BracketNames_g31 (C : law10_BracketNames_C) (v : law10_BracketNames_Y30) : treg tysT (orc (law10_BracketNames_tab C)) 451 (regO (bodyOf f7) 31) true [(3, .any), (5, .any), (7, .any), (9, .any), (11, .any), (13, .any), (15, .any), (19, .any), (22, .any), (23, .any), (24, (.own Ri)), (25, .any), (37, (.box [.own Ri, .own Ri])), (39, .any), (42, .any), (45, .any), (48, .any), (51, .any)] (law10_BracketNames_S30 v) some = (law10_BracketNames_r31 C v).eval fun y => some (law10_BracketNames_S31 y) := by kernel_rfl
abbrev law10_BracketNames_Y32 : Type := Int × Int × Int × Int × Int × Int × Int × Int × Int × Int × Int × Int × Int × Int × Int × Int × Int × List Di × List Di × List Di
def law10_BracketNames_S32 (v : law10_BracketNames_Y32) : St := ⟨[(3, .int .i64 v.1), (5, .int .i64 v.2.1), (7, .int .i64 v.2.2.1), (9, .int .i64 v.2.2.2.1), (11, .int .i64 v.2.2.2.2.1), (13, .int .i64 v.2.2.2.2.2.1), (15, .int .i64 v.2.2.2.2.2.2.1), (19, .int .i64 v.2.2.2.2.2.2.2.1), (22, .int .i64 v.2.2.2.2.2.2.2.2.1), (23, .int .i64 v.2.2.2.2.2.2.2.2.2.1), (24, .rs 0), (25, .int .i64 v.2.2.2.2.2.2.2.2.2.2.1), (37, .ptr 1 0), (39, .int .i64 v.2.2.2.2.2.2.2.2.2.2.2.1), (42, .int .i64 v.2.2.2.2.2.2.2.2.2.2.2.2.1), (45, .int .i64 v.2.2.2.2.2.2.2.2.2.2.2.2.2.1), (48, .int .i64 v.2.2.2.2.2.2.2.2.2.2.2.2.2.2.1), (51, .int .i64 v.2.2.2.2.2.2.2.2.2.2.2.2.2.2.2.1), (54, .int .i64 v.2.2.2.2.2.2.2.2.2.2.2.2.2.2.2.2.1)], [.rows Ri v.2.2.2.2.2.2.2.2.2.2.2.2.2.2.2.2.2.1, .cells [.rs 2, .rs 3], .rows Ri v.2.2.2.2.2.2.2.2.2.2.2.2.2.2.2.2.2.2.1, .rows Ri v.2.2.2.2.2.2.2.2.2.2.2.2.2.2.2.2.2.2.2]⟩
def law10_BracketNames_r32 (C : law10_BracketNames_C) (v : law10_BracketNames_Y31) : Dt law10_BracketNames_Y32 := (Dt.bnd (C.2.2.2.2.2.2.2.2.1 (())) fun r1 => (Dt.bnd (C.2.2.2.2.2.2.2.2.2.1 (((0:Int), ()), ())) fun r2 => (Dt.bnd (C.1 ((v.2.2.2.2.2.2.2.2.2.2.2.2.2.2.2.2.2.1, v.2.2.2.2.2.2.2.2.2.2.2.2.2.2.2.2.2.2, ()), (r1, ()), (r2.1, r2.2, ()), ((0:Int), ()), ((5:Int), ()), ())) fun r3 => (Dt.ret (v.1, v.2.1, v.2.2.1, v.2.2.2.1, v.2.2.2.2.1, v.2.2.2.2.2.1, v.2.2.2.2.2.2.1, v.2.2.2.2.2.2.2.1, v.2.2.2.2.2.2.2.2.1, v.2.2.2.2.2.2.2.2.2.1, v.2.2.2.2.2.2.2.2.2.2.1, v.2.2.2.2.2.2.2.2.2.2.2.1, v.2.2.2.2.2.2.2.2.2.2.2.2.1, v.2.2.2.2.2.2.2.2.2.2.2.2.2.1, v.2.2.2.2.2.2.2.2.2.2.2.2.2.2.1, v.2.2.2.2.2.2.2.2.2.2.2.2.2.2.2.1, r3.2.2.2, v.2.2.2.2.2.2.2.2.2.2.2.2.2.2.2.2.1, v.2.2.2.2.2.2.2.2.2.2.2.2.2.2.2.2.2.1, v.2.2.2.2.2.2.2.2.2.2.2.2.2.2.2.2.2.2)))))
theorem law10_BracketNames_g32 (C : law10_BracketNames_C) (v : law10_BracketNames_Y31) : treg tysT (orc (law10_BracketNames_tab C)) 451 (regO (bodyOf f7) 32) true [(3, .any), (5, .any), (7, .any), (9, .any), (11, .any), (13, .any), (15, .any), (19, .any), (22, .any), (23, .any), (24, (.own Ri)), (25, .any), (37, (.box [.own Ri, .own Ri])), (39, .any), (42, .any), (45, .any), (48, .any), (51, .any), (54, .any)] (law10_BracketNames_S31 v) some = (law10_BracketNames_r32 C v).eval fun y => some (law10_BracketNames_S32 y) := by kernel_rfl
abbrev law10_BracketNames_Y33 : Type := Int × Int × Int × Int × Int × Int × Int × Int × Int × Int × Int × Int × Int × Int × Int × Int × Int × Int × List Di × List Di × List Di × List Di × List Di × List Di
def law10_BracketNames_S33 (v : law10_BracketNames_Y33) : St := ⟨[(3, .int .i64 v.1), (5, .int .i64 v.2.1), (7, .int .i64 v.2.2.1), (9, .int .i64 v.2.2.2.1), (11, .int .i64 v.2.2.2.2.1), (13, .int .i64 v.2.2.2.2.2.1), (15, .int .i64 v.2.2.2.2.2.2.1), (19, .int .i64 v.2.2.2.2.2.2.2.1), (22, .int .i64 v.2.2.2.2.2.2.2.2.1), (23, .int .i64 v.2.2.2.2.2.2.2.2.2.1), (24, .rs 0), (25, .int .i64 v.2.2.2.2.2.2.2.2.2.2.1), (37, .ptr 1 0), (39, .int .i64 v.2.2.2.2.2.2.2.2.2.2.2.1), (42, .int .i64 v.2.2.2.2.2.2.2.2.2.2.2.2.1), (45, .int .i64 v.2.2.2.2.2.2.2.2.2.2.2.2.2.1), (48, .int .i64 v.2.2.2.2.2.2.2.2.2.2.2.2.2.2.1), (51, .int .i64 v.2.2.2.2.2.2.2.2.2.2.2.2.2.2.2.1), (54, .int .i64 v.2.2.2.2.2.2.2.2.2.2.2.2.2.2.2.2.1), (55, .ptr 4 0), (56, .rs 7), (57, .int .i64 v.2.2.2.2.2.2.2.2.2.2.2.2.2.2.2.2.2.1)], [.rows Ri v.2.2.2.2.2.2.2.2.2.2.2.2.2.2.2.2.2.2.1, .cells [.rs 2, .rs 3], .rows Ri v.2.2.2.2.2.2.2.2.2.2.2.2.2.2.2.2.2.2.2.1, .rows Ri v.2.2.2.2.2.2.2.2.2.2.2.2.2.2.2.2.2.2.2.2.1, .cells [.rs 5, .rs 6], .rows Ri v.2.2.2.2.2.2.2.2.2.2.2.2.2.2.2.2.2.2.2.2.2.1, .rows Ri v.2.2.2.2.2.2.2.2.2.2.2.2.2.2.2.2.2.2.2.2.2.2.1, .rows Ri v.2.2.2.2.2.2.2.2.2.2.2.2.2.2.2.2.2.2.2.2.2.2.2]⟩
def law10_BracketNames_r33 (C : law10_BracketNames_C) (v : law10_BracketNames_Y32) : Dt law10_BracketNames_Y33 := (Dt.bnd (C.2.2.2.2.2.2.2.2.1 (())) fun r1 => (Dt.bnd (C.2.2.2.2.2.2.2.2.2.1 (((-1:Int), ()), ())) fun r2 => (Dt.bnd (C.1 ((v.2.2.2.2.2.2.2.2.2.2.2.2.2.2.2.2.2.2.1, v.2.2.2.2.2.2.2.2.2.2.2.2.2.2.2.2.2.2.2, ()), (r1, ()), (r2.1, r2.2, ()), ((1:Int), ()), ((5:Int), ()), ())) fun r3 => (Dt.ret (v.1, v.2.1, v.2.2.1, v.2.2.2.1, v.2.2.2.2.1, v.2.2.2.2.2.1, v.2.2.2.2.2.2.1, v.2.2.2.2.2.2.2.1, v.2.2.2.2.2.2.2.2.1, v.2.2.2.2.2.2.2.2.2.1, v.2.2.2.2.2.2.2.2.2.2.1, v.2.2.2.2.2.2.2.2.2.2.2.1, v.2.2.2.2.2.2.2.2.2.2.2.2.1, v.2.2.2.2.2.2.2.2.2.2.2.2.2.1, v.2.2.2.2.2.2.2.2.2.2.2.2.2.2.1, v.2.2.2.2.2.2.2.2.2.2.2.2.2.2.2.1, v.2.2.2.2.2.2.2.2.2.2.2.2.2.2.2.2.1, r3.2.2.2, v.2.2.2.2.2.2.2.2.2.2.2.2.2.2.2.2.2.1, v.2.2.2.2.2.2.2.2.2.2.2.2.2.2.2.2.2.2.1, v.2.2.2.2.2.2.2.2.2.2.2.2.2.2.2.2.2.2.2, r3.1, r3.2.1, r3.2.2.1)))))
theorem law10_BracketNames_g33 (C : law10_BracketNames_C) (v : law10_BracketNames_Y32) : treg tysT (orc (law10_BracketNames_tab C)) 451 (regO (bodyOf f7) 33) true [(3, .any), (5, .any), (7, .any), (9, .any), (11, .any), (13, .any), (15, .any), (19, .any), (22, .any), (23, .any), (24, (.own Ri)), (25, .any), (37, (.box [.own Ri, .own Ri])), (39, .any), (42, .any), (45, .any), (48, .any), (51, .any), (54, .any), (55, (.box [.own Ri, .own Ri])), (56, (.own Ri)), (57, .any)] (law10_BracketNames_S32 v) some = (law10_BracketNames_r33 C v).eval fun y => some (law10_BracketNames_S33 y) := by kernel_rfl
abbrev law10_BracketNames_Y34 : Type := Int × Int × Int × Int × Int × Int × Int × Int × Int × Int × Int × Int × Int × Int × Int × Int × Int × Int × Int × List Di × List Di × List Di × List Di × List Di × List Di
def law10_BracketNames_S34 (v : law10_BracketNames_Y34) : St := ⟨[(3, .int .i64 v.1), (5, .int .i64 v.2.1), (7, .int .i64 v.2.2.1), (9, .int .i64 v.2.2.2.1), (11, .int .i64 v.2.2.2.2.1), (13, .int .i64 v.2.2.2.2.2.1), (15, .int .i64 v.2.2.2.2.2.2.1), (19, .int .i64 v.2.2.2.2.2.2.2.1), (22, .int .i64 v.2.2.2.2.2.2.2.2.1), (23, .int .i64 v.2.2.2.2.2.2.2.2.2.1), (24, .rs 0), (25, .int .i64 v.2.2.2.2.2.2.2.2.2.2.1), (37, .ptr 1 0), (39, .int .i64 v.2.2.2.2.2.2.2.2.2.2.2.1), (42, .int .i64 v.2.2.2.2.2.2.2.2.2.2.2.2.1), (45, .int .i64 v.2.2.2.2.2.2.2.2.2.2.2.2.2.1), (48, .int .i64 v.2.2.2.2.2.2.2.2.2.2.2.2.2.2.1), (51, .int .i64 v.2.2.2.2.2.2.2.2.2.2.2.2.2.2.2.1), (54, .int .i64 v.2.2.2.2.2.2.2.2.2.2.2.2.2.2.2.2.1), (55, .ptr 4 0), (56, .rs 7), (57, .int .i64 v.2.2.2.2.2.2.2.2.2.2.2.2.2.2.2.2.2.1), (60, .int .i64 v.2.2.2.2.2.2.2.2.2.2.2.2.2.2.2.2.2.2.1)], [.rows Ri v.2.2.2.2.2.2.2.2.2.2.2.2.2.2.2.2.2.2.2.1, .cells [.rs 2, .rs 3], .rows Ri v.2.2.2.2.2.2.2.2.2.2.2.2.2.2.2.2.2.2.2.2.1, .rows Ri v.2.2.2.2.2.2.2.2.2.2.2.2.2.2.2.2.2.2.2.2.2.1, .cells [.rs 5, .rs 6], .rows Ri v.2.2.2.2.2.2.2.2.2.2.2.2.2.2.2.2.2.2.2.2.2.2.1, .rows Ri v.2.2.2.2.2.2.2.2.2.2.2.2.2.2.2.2.2.2.2.2.2.2.2.1, .rows Ri v.2.2.2.2.2.2.2.2.2.2.2.2.2.2.2.2.2.2.2.2.2.2.2.2]⟩
def law10_BracketNames_r34 (C : law10_BracketNames_C) (v : law10_BracketNames_Y33) : Dt law10_BracketNames_Y34 := (Dt.bnd (C.2.2.2.2.2.2.2.2.1 (())) fun r1 => (Dt.ite (decide (0 ≤ (1:Int)) && decide ((1:Int) ≤ (List.length r1 : Int))) (Dt.bnd (C.2.2.2.2.2.2.2.2.2.1 (((0:Int), ()), ())) fun r2 => (Dt.bnd (C.1 ((v.2.2.2.2.2.2.2.2.2.2.2.2.2.2.2.2.2.2.2.1, v.2.2.2.2.2.2.2.2.2.2.2.2.2.2.2.2.2.2.2.2.1, ()), ((List.drop ((1:Int)).toNat r1), ()), (r2.1, r2.2, ()), ((1:Int), ()), ((2:Int), ()), ())) fun r3 => (Dt.ret (v.1, v.2.1, v.2.2.1, v.2.2.2.1, v.2.2.2.2.1, v.2.2.2.2.2.1, v.2.2.2.2.2.2.1, v.2.2.2.2.2.2.2.1, v.2.2.2.2.2.2.2.2.1, v.2.2.2.2.2.2.2.2.2.1, v.2.2.2.2.2.2.2.2.2.2.1, v.2.2.2.2.2.2.2.2.2.2.2.1, v.2.2.2.2.2.2.2.2.2.2.2.2.1, v.2.2.2.2.2.2.2.2.2.2.2.2.2.1, v.2.2.2.2.2.2.2.2.2.2.2.2.2.2.1, v.2.2.2.2.2.2.2.2.2.2.2.2.2.2.2.1, v.2.2.2.2.2.2.2.2.2.2.2.2.2.2.2.2.1, v.2.2.2.2.2.2.2.2.2.2.2.2.2.2.2.2.2.1, r3.2.2.2, v.2.2.2.2.2.2.2.2.2.2.2.2.2.2.2.2.2.2.1, v.2.2.2.2.2.2.2.2.2.2.2.2.2.2.2.2.2.2.2.1, v.2.2.2.2.2.2.2.2.2.2.2.2.2.2.2.2.2.2.2.2.1, v.2.2.2.2.2.2.2.2.2.2.2.2.2.2.2.2.2.2.2.2.2.1, v.2.2.2.2.2.2.2.2.2.2.2.2.2.2.2.2.2.2.2.2.2.2.1, v.2.2.2.2.2.2.2.2.2.2.2.2.2.2.2.2.2.2.2.2.2.2.2)))) Dt.fail))
theorem law10_BracketNames_g34 (C : law10_BracketNames_C) (v : law10_BracketNames_Y33) : treg tysT (orc (law10_BracketNames_tab C)) 451 (regO (bodyOf f7) 34) true [(3, .any), (5, .any), (7, .any), (9, .any), (11, .any), (13, .any), (15, .any), (19, .any), (22, .any), (23, .any), (24, (.own Ri)), (25, .any), (37, (.box [.own Ri, .own Ri])), (39, .any), (42, .any), (45, .any), (48, .any), (51, .any), (54, .any), (55, (.box [.own Ri, .own Ri])), (56, (.own Ri)), (57, .any), (60, .any)] (law10_BracketNames_S33 v) some = (law10_BracketNames_r34 C v).eval fun y => some (law10_BracketNames_S34 y) := by kernel_rfl
abbrev law10_BracketNames_Y35 : Type := Int × Int × Int × Int × Int × Int × Int × Int × Int × Int × Int × Int × Int × Int × Int × Int × Int × Int × Int × Bool × Int × List Di × List Di × List Di × List Di × List Di × List Di
def law10_BracketNames_S35 (v : law10_BracketNames_Y35) : St := ⟨[(3, .int .i64 v.1), (5, .int .i64 v.2.1), (7, .int .i64 v.2.2.1), (9, .int .i64 v.2.2.2.1), (11, .int .i64 v.2.2.2.2.1), (13, .int .i64 v.2.2.2.2.2.1), (15, .int .i64 v.2.2.2.2.2.2.1), (19, .int .i64 v.2.2.2.2.2.2.2.1), (22, .int .i64 v.2.2.2.2.2.2.2.2.1), (23, .int .i64 v.2.2.2.2.2.2.2.2.2.1), (24, .rs 0), (25, .int .i64 v.2.2.2.2.2.2.2.2.2.2.1), (37, .ptr 1 0), (39, .int .i64 v.2.2.2.2.2.2.2.2.2.2.2.1), (42, .int .i64 v.2.2.2.2.2.2.2.2.2.2.2.2.1), (45, .int .i64 v.2.2.2.2.2.2.2.2.2.2.2.2.2.1), (48, .int .i64 v.2.2.2.2.2.2.2.2.2.2.2.2.2.2.1), (51, .int .i64 v.2.2.2.2.2.2.2.2.2.2.2.2.2.2.2.1), (54, .int .i64 v.2.2.2.2.2.2.2.2.2.2.2.2.2.2.2.2.1), (55, .ptr 4 0), (56, .rs 7), (57, .int .i64 v.2.2.2.2.2.2.2.2.2.2.2.2.2.2.2.2.2.1), (60, .int .i64 v.2.2.2.2.2.2.2.2.2.2.2.2.2.2.2.2.2.2.1), (61, .bool v.2.2.2.2.2.2.2.2.2.2.2.2.2.2.2.2.2.2.2.1), (62, .int .i64 v.2.2.2.2.2.2.2.2.2.2.2.2.2.2.2.2.2.2.2.2.1)], [.rows Ri v.2.2.2.2.2.2.2.2.2.2.2.2.2.2.2.2.2.2.2.2.2.1, .cells [.rs 2, .rs 3], .rows Ri v.2.2.2.2.2.2.2.2.2.2.2.2.2.2.2.2.2.2.2.2.2.2.1, .rows Ri v.2.2.2.2.2.2.2.2.2.2.2.2.2.2.2.2.2.2.2.2.2.2.2.1, .cells [.rs 5, .rs 6], .rows Ri v.2.2.2.2.2.2.2.2.2.2.2.2.2.2.2.2.2.2.2.2.2.2.2.2.1, .rows Ri v.2.2.2.2.2.2.2.2.2.2.2.2.2.2.2.2.2.2.2.2.2.2.2.2.2.1, .rows Ri v.2.2.2.2.2.2.2.2.2.2.2.2.2.2.2.2.2.2.2.2.2.2.2.2.2.2]⟩
def law10_BracketNames_r35 (C : law10_BracketNames_C) (v : law10_BracketNames_Y34) : Dt law10_BracketNames_Y35 := (Dt.bnd (C.2.2.2.2.2.2.2.2.1 (())) fun r1 => (Dt.bnd (C.2.2.2.2.2.2.2.2.2.1 (((0:Int), ()), ())) fun r2 => (Dt.bnd (C.2.2.2.2.2.1 ((v.2.2.2.2.2.2.2.2.2.2.2.2.2.2.2.2.2.2.2.2.1, v.2.2.2.2.2.2.2.2.2.2.2.2.2.2.2.2.2.2.2.2.2.1, ()), (r1, ()), (r2.1, r2.2, ()), ())) fun r3 => (Dt.ret (v.1, v.2.1, v.2.2.1, v.2.2.2.1, v.2.2.2.2.1, v.2.2.2.2.2.1, v.2.2.2.2.2.2.1, v.2.2.2.2.2.2.2.1, v.2.2.2.2.2.2.2.2.1, v.2.2.2.2.2.2.2.2.2.1, v.2.2.2.2.2.2.2.2.2.2.1, v.2.2.2.2.2.2.2.2.2.2.2.1, v.2.2.2.2.2.2.2.2.2.2.2.2.1, v.2.2.2.2.2.2.2.2.2.2.2.2.2.1, v.2.2.2.2.2.2.2.2.2.2.2.2.2.2.1, v.2.2.2.2.2.2.2.2.2.2.2.2.2.2.2.1, v.2.2.2.2.2.2.2.2.2.2.2.2.2.2.2.2.1, v.2.2.2.2.2.2.2.2.2.2.2.2.2.2.2.2.2.1, v.2.2.2.2.2.2.2.2.2.2.2.2.2.2.2.2.2.2.1, r3.1, r3.2, v.2.2.2.2.2.2.2.2.2.2.2.2.2.2.2.2.2.2.2.1, v.2.2.2.2.2.2.2.2.2.2.2.2.2.2.2.2.2.2.2.2.1, v.2.2.2.2.2.2.2.2.2.2.2.2.2.2.2.2.2.2.2.2.2.1, v.2.2.2.2.2.2.2.2.2.2.2.2.2.2.2.2.2.2.2.2.2.2.1, v.2.2.2.2.2.2.2.2.2.2.2.2.2.2.2.2.2.2.2.2.2.2.2.1, v.2.2.2.2.2.2.2.2.2.2.2.2.2.2.2.2.2.2.2.2.2.2.2.2)))))
theorem law10_BracketNames_g35 (C : law10_BracketNames_C) (v : law10_BracketNames_Y34) : treg tysT (orc (law10_BracketNames_tab C)) 451 (regO (bodyOf f7) 35) true [(3, .any), (5, .any), (7, .any), (9, .any), (11, .any), (13, .any), (15, .any), (19, .any), (22, .any), (23, .any), (24, (.own Ri)), (25, .any), (37, (.box [.own Ri, .own Ri])), (39, .any), (42, .any), (45, .any), (48, .any), (51, .any), (54, .any), (55, (.box [.own Ri, .own Ri])), (56, (.own Ri)), (57, .any), (60, .any), (61, .any), (62, .any)] (law10_BracketNames_S34 v) some = (law10_BracketNames_r35 C v).eval fun y => some (law10_BracketNames_S35 y) := by kernel_rfl
abbrev law10_BracketNames_Y36 : Type := Int × Int × Int × Int × Int × Int × Int × Int × Int × Int × Int × Int × Int × Int × Int × Int × Int × Int × Int × Bool × Int × Bool × Int × List Di × List Di × List Di × List Di × List Di × List Di
def law10_BracketNames_S36 (v : law10_BracketNames_Y36) : St := ⟨[(3, .int .i64 v.1), (5, .int .i64 v.2.1), (7, .int .i64 v.2.2.1), (9, .int .i64 v.2.2.2.1), (11, .int .i64 v.2.2.2.2.1), (13, .int .i64 v.2.2.2.2.2.1), (15, .int .i64 v.2.2.2.2.2.2.1), (19, .int .i64 v.2.2.2.2.2.2.2.1), (22, .int .i64 v.2.2.2.2.2.2.2.2.1), (23, .int .i64 v.2.2.2.2.2.2.2.2.2.1), (24, .rs 0), (25, .int .i64 v.2.2.2.2.2.2.2.2.2.2.1), (37, .ptr 1 0), (39, .int .i64 v.2.2.2.2.2.2.2.2.2.2.2.1), (42, .int .i64 v.2.2.2.2.2.2.2.2.2.2.2.2.1), (45, .int .i64 v.2.2.2.2.2.2.2.2.2.2.2.2.2.1), (48, .int .i64 v.2.2.2.2.2.2.2.2.2.2.2.2.2.2.1), (51, .int .i64 v.2.2.2.2.2.2.2.2.2.2.2.2.2.2.2.1), (54, .int .i64 v.2.2.2.2.2.2.2.2.2.2.2.2.2.2.2.2.1), (55, .ptr 4 0), (56, .rs 7), (57, .int .i64 v.2.2.2.2.2.2.2.2.2.2.2.2.2.2.2.2.2.1), (60, .int .i64 v.2.2.2.2.2.2.2.2.2.2.2.2.2.2.2.2.2.2.1), (61, .bool v.2.2.2.2.2.2.2.2.2.2.2.2.2.2.2.2.2.2.2.1), (62, .int .i64 v.2.2.2.2.2.2.2.2.2.2.2.2.2.2.2.2.2.2.2.2.1), (63, .bool v.2.2.2.2.2.2.2.2.2.2.2.2.2.2.2.2.2.2.2.2.2.1), (64, .int .i64 v.2.2.2.2.2.2.2.2.2.2.2.2.2.2.2.2.2.2.2.2.2.2.1)], [.rows Ri v.2.2.2.2.2.2.2.2.2.2.2.2.2.2.2.2.2.2.2.2.2.2.2.1, .cells [.rs 2, .rs 3], .rows Ri v.2.2.2.2.2.2.2.2.2.2.2.2.2.2.2.2.2.2.2.2.2.2.2.2.1, .rows Ri v.2.2.2.2.2.2.2.2.2.2.2.2.2.2.2.2.2.2.2.2.2.2.2.2.2.1, .cells [.rs 5, .rs 6], .rows Ri v.2.2.2.2.2.2.2.2.2.2.2.2.2.2.2.2.2.2.2.2.2.2.2.2.2.2.1, .rows Ri v.2.2.2.2.2.2.2.2.2.2.2.2.2.2.2.2.2.2.2.2.2.2.2.2.2.2.2.1, .rows Ri v.2.2.2.2.2.2.2.2.2.2.2.2.2.2.2.2.2.2.2.2.2.2.2.2.2.2.2.2]⟩
def law10_BracketNames_r36 (C : law10_BracketNames_C) (v : law10_BracketNames_Y35) : Dt law10_BracketNames_Y36 := (Dt.bnd (C.2.2.2.2.2.2.2.2.1 (())) fun r1 => (Dt.bnd (C.2.2.2.2.2.2.2.2.2.1 (((-1:Int), ()), ())) fun r2 => (Dt.bnd (C.2.2.2.2.2.1 ((v.2.2.2.2.2.2.2.2.2.2.2.2.2.2.2.2.2.2.2.2.2.2.1, v.2.2.2.2.2.2.2.2.2.2.2.2.2.2.2.2.2.2.2.2.2.2.2.1, ()), (r1, ()), (r2.1, r2.2, ()), ())) fun r3 => (Dt.ret (v.1, v.2.1, v.2.2.1, v.2.2.2.1, v.2.2.2.2.1, v.2.2.2.2.2.1, v.2.2.2.2.2.2.1, v.2.2.2.2.2.2.2.1, v.2.2.2.2.2.2.2.2.1, v.2.2.2.2.2.2.2.2.2.1, v.2.2.2.2.2.2.2.2.2.2.1, v.2.2.2.2.2.2.2.2.2.2.2.1, v.2.2.2.2.2.2.2.2.2.2.2.2.1, v.2.2.2.2.2.2.2.2.2.2.2.2.2.1, v.2.2.2.2.2.2.2.2.2.2.2.2.2.2.1, v.2.2.2.2.2.2.2.2.2.2.2.2.2.2.2.1, v.2.2.2.2.2.2.2.2.2.2.2.2.2.2.2.2.1, v.2.2.2.2.2.2.2.2.2.2.2.2.2.2.2.2.2.1, v.2.2.2.2.2.2.2.2.2.2.2.2.2.2.2.2.2.2.1, v.2.2.2.2.2.2.2.2.2.2.2.2.2.2.2.2.2.2.2.1, v.2.2.2.2.2.2.2.2.2.2.2.2.2.2.2.2.2.2.2.2.1, r3.1, r3.2, v.2.2.2.2.2.2.2.2.2.2.2.2.2.2.2.2.2.2.2.2.2.1, v.2.2.2.2.2.2.2.2.2.2.2.2.2.2.2.2.2.2.2.2.2.2.1, v.2.2.2.2.2.2.2.2.2.2.2.2.2.2.2.2.2.2.2.2.2.2.2.1, v.2.2.2.2.2.2.2.2.2.2.2.2.2.2.2.2.2.2.2.2.2.2.2.2.1, v.2.2.2.2.2.2.2.2.2.2.2.2.2.2.2.2.2.2.2.2.2.2.2.2.2.1, v.2.2.2.2.2.2.2.2.2.2.2.2.2.2.2.2.2.2.2.2.2.2.2.2.2.2)))))
theorem law10_BracketNames_g36 (C : law10_BracketNames_C) (v : law10_BracketNames_Y35) : treg tysT (orc (law10_BracketNames_tab C)) 451 (regO (bodyOf f7) 36) true [(3, .any), (5, .any), (7, .any), (9, .any), (11, .any), (13, .any), (15, .any), (19, .any), (22, .any), (23, .any), (24, (.own Ri)), (25, .any), (37, (.box [.own Ri, .own Ri])), (39, .any), (42, .any), (45, .any), (48, .any), (51, .any), (54, .any), (55, (.box [.own Ri, .own Ri])), (56, (.own Ri)), (57, .any), (60, .any), (61, .any), (62, .any), (63, .any), (64, .any)] (law10_BracketNames_S35 v) some = (law10_BracketNames_r36 C v).eval fun y => some (law10_BracketNames_S36 y) := by kernel_rfl
abbrev law10_BracketNames_Y37 : Type := Int × Int × Int × Int × Int × Int × Int × Int × Int × Int × Int × Int × Int × Int × Int × Int × Int × Int × Int × Bool × Int × Bool × Int × Int × List Di × List Di × List Di × List Di × List Di × List Di
def law10_BracketNames_S37 (v : law10_BracketNames_Y37) : St := ⟨[(3, .int .i64 v.1), (5, .int .i64 v.2.1), (7, .int .i64 v.2.2.1), (9, .int .i64 v.2.2.2.1), (11, .int .i64 v.2.2.2.2.1), (13, .int .i64 v.2.2.2.2.2.1), (15, .int .i64 v.2.2.2.2.2.2.1), (19, .int .i64 v.2.2.2.2.2.2.2.1), (22, .int .i64 v.2.2.2.2.2.2.2.2.1), (23, .int .i64 v.2.2.2.2.2.2.2.2.2.1), (24, .rs 0), (25, .int .i64 v.2.2.2.2.2.2.2.2.2.2.1), (37, .ptr 1 0), (39, .int .i64 v.2.2.2.2.2.2.2.2.2.2.2.1), (42, .int .i64 v.2.2.2.2.2.2.2.2.2.2.2.2.1), (45, .int .i64 v.2.2.2.2.2.2.2.2.2.2.2.2.2.1), (48, .int .i64 v.2.2.2.2.2.2.2.2.2.2.2.2.2.2.1), (51, .int .i64 v.2.2.2.2.2.2.2.2.2.2.2.2.2.2.2.1), (54, .int .i64 v.2.2.2.2.2.2.2.2.2.2.2.2.2.2.2.2.1), (55, .ptr 4 0), (56, .rs 7), (57, .int .i64 v.2.2.2.2.2.2.2.2.2.2.2.2.2.2.2.2.2.1), (60, .int .i64 v.2.2.2.2.2.2.2.2.2.2.2.2.2.2.2.2.2.2.1), (61, .bool v.2.2.2.2.2.2.2.2.2.2.2.2.2.2.2.2.2.2.2.1), (62, .int .i64 v.2.2.2.2.2.2.2.2.2.2.2.2.2.2.2.2.2.2.2.2.1), (63, .bool v.2.2.2.2.2.2.2.2.2.2.2.2.2.2.2.2.2.2.2.2.2.1), (64, .int .i64 v.2.2.2.2.2.2.2.2.2.2.2.2.2.2.2.2.2.2.2.2.2.2.1), (66, .int .i64 v.2.2.2.2.2.2.2.2.2.2.2.2.2.2.2.2.2.2.2.2.2.2.2.1)], [.rows Ri v.2.2.2.2.2.2.2.2.2.2.2.2.2.2.2.2.2.2.2.2.2.2.2.2.1, .cells [.rs 2, .rs 3], .rows Ri v.2.2.2.2.2.2.2.2.2.2.2.2.2.2.2.2.2.2.2.2.2.2.2.2.2.1, .rows Ri v.2.2.2.2.2.2.2.2.2.2.2.2.2.2.2.2.2.2.2.2.2.2.2.2.2.2.1, .cells [.rs 5, .rs 6], .rows Ri v.2.2.2.2.2.2.2.2.2.2.2.2.2.2.2.2.2.2.2.2.2.2.2.2.2.2.2.1, .rows Ri v.2.2.2.2.2.2.2.2.2.2.2.2.2.2.2.2.2.2.2.2.2.2.2.2.2.2.2.2.1, .rows Ri v.2.2.2.2.2.2.2.2.2.2.2.2.2.2.2.2.2.2.2.2.2.2.2.2.2.2.2.2.2]⟩
def law10_BracketNames_r37 (C : law10_BracketNames_C) (v : law10_BracketNames_Y36) : Dt law10_BracketNames_Y37 := (Dt.bnd (C.2.2.2.2.2.2.2.2.2.1 (((0:Int), ()), ())) fun r1 => (Dt.bnd (C.2.2.2.2.2.1 ((v.2.2.2.2.2.2.2.2.2.2.2.2.2.2.2.2.2.2.2.2.2.2.2.2.1, v.2.2.2.2.2.2.2.2.2.2.2.2.2.2.2.2.2.2.2.2.2.2.2.2.2.1, ()), ([], ()), (r1.1, r1.2, ()), ())) fun r2 => (Dt.ret (v.1, v.2.1, v.2.2.1, v.2.2.2.1, v.2.2.2.2.1, v.2.2.2.2.2.1, v.2.2.2.2.2.2.1, v.2.2.2.2.2.2.2.1, v.2.2.2.2.2.2.2.2.1, v.2.2.2.2.2.2.2.2.2.1, v.2.2.2.2.2.2.2.2.2.2.1, v.2.2.2.2.2.2.2.2.2.2.2.1, v.2.2.2.2.2.2.2.2.2.2.2.2.1, v.2.2.2.2.2.2.2.2.2.2.2.2.2.1, v.2.2.2.2.2.2.2.2.2.2.2.2.2.2.1, v.2.2.2.2.2.2.2.2.2.2.2.2.2.2.2.1, v.2.2.2.2.2.2.2.2.2.2.2.2.2.2.2.2.1, v.2.2.2.2.2.2.2.2.2.2.2.2.2.2.2.2.2.1, v.2.2.2.2.2.2.2.2.2.2.2.2.2.2.2.2.2.2.1, v.2.2.2.2.2.2.2.2.2.2.2.2.2.2.2.2.2.2.2.1, v.2.2.2.2.2.2.2.2.2.2.2.2.2.2.2.2.2.2.2.2.1, v.2.2.2.2.2.2.2.2.2.2.2.2.2.2.2.2.2.2.2.2.2.1, v.2.2.2.2.2.2.2.2.2.2.2.2.2.2.2.2.2.2.2.2.2.2.1, r2.2, v.2.2.2.2.2.2.2.2.2.2.2.2.2.2.2.2.2.2.2.2.2.2.2.1, v.2.2.2.2.2.2.2.2.2.2.2.2.2.2.2.2.2.2.2.2.2.2.2.2.1, v.2.2.2.2.2.2.2.2.2.2.2.2.2.2.2.2.2.2.2.2.2.2.2.2.2.1, v.2.2.2.2.2.2.2.2.2.2.2.2.2.2.2.2.2.2.2.2.2.2.2.2.2.2.1, v.2.2.2.2.2.2.2.2.2.2.2.2.2.2.2.2.2.2.2.2.2.2.2.2.2.2.2.1, v.2.2.2.2.2.2.2.2.2.2.2.2.2.2.2.2.2.2.2.2.2.2.2.2.2.2.2.2))))
theorem law10_BracketNames_g37 (C : law10_BracketNames_C) (v : law10_BracketNames_Y36) : treg tysT (orc (law10_BracketNames_tab C)) 451 (regO (bodyOf f7) 37) true [(3, .any), (5, .any), (7, .any), (9, .any), (11, .any), (13, .any), (15, .any), (19, .any), (22, .any), (23, .any), (24, (.own Ri)), (25, .any), (37, (.box [.own Ri, .own Ri])), (39, .any), (42, .any), (45, .any), (48, .any), (51, .any), (54, .any), (55, (.box [.own Ri, .own Ri])), (56, (.own Ri)), (57, .any), (60, .any), (61, .any), (62, .any), (63, .any), (64, .any), (66, .any)] (law10_BracketNames_S36 v) some = (law10_BracketNames_r37 C v).eval fun y => some (law10_BracketNames_S37 y) := by kernel_rfl
abbrev law10_BracketNames_Y38 : Type := Int × Int × Int × Int × Bool × Int × Bool × Int × Bool × List Di × List Di × List Di × List Di × List Di × List Di
def law10_BracketNames_S38 (v : law10_BracketNames_Y38) : St := ⟨[(22, .int .i64 v.1), (23, .int .i64 v.2.1), (24, .rs 0), (25, .int .i64 v.2.2.1), (37, .ptr 1 0), (55, .ptr 4 0), (56, .rs 7), (57, .int .i64 v.2.2.2.1), (61, .bool v.2.2.2.2.1), (62, .int .i64 v.2.2.2.2.2.1), (63, .bool v.2.2.2.2.2.2.1), (64, .int .i64 v.2.2.2.2.2.2.2.1), (67, .bool v.2.2.2.2.2.2.2.2.1)], [.rows Ri v.2.2.2.2.2.2.2.2.2.1, .cells [.rs 2, .rs 3], .rows Ri v.2.2.2.2.2.2.2.2.2.2.1, .rows Ri v.2.2.2.2.2.2.2.2.2.2.2.1, .cells [.rs 5, .rs 6], .rows Ri v.2.2.2.2.2.2.2.2.2.2.2.2.1, .rows Ri v.2.2.2.2.2.2.2.2.2.2.2.2.2.1, .rows Ri v.2.2.2.2.2.2.2.2.2.2.2.2.2.2]⟩
def law10_BracketNames_r38 (C : law10_BracketNames_C) (v : law10_BracketNames_Y37) : Dt law10_BracketNames_Y38 := (Dt.ite (v.1 == (4:Int)) (Dt.ite (v.2.1 == (8:Int)) (Dt.ite (v.2.2.1 == (2:Int)) (Dt.ite (v.2.2.2.1 == (2:Int)) (Dt.ite (v.2.2.2.2.1 == (6:Int)) (Dt.ite (v.2.2.2.2.2.1 == (14:Int)) (Dt.ite (v.2.2.2.2.2.2.1 == (6:Int)) (Dt.ite (v.2.2.2.2.2.2.2.1 == (42:Int)) (Dt.ite (v.2.2.2.2.2.2.2.2.2.2.2.1 == (2:Int)) (Dt.ite (v.2.2.2.2.2.2.2.2.2.2.2.2.1 == (4:Int)) (Dt.ite (v.2.2.2.2.2.2.2.2.2.2.2.2.2.1 == (8:Int)) (Dt.ite (v.2.2.2.2.2.2.2.2.2.2.2.2.2.2.1 == (2:Int)) (Dt.ite (v.2.2.2.2.2.2.2.2.2.2.2.2.2.2.2.1 == (6:Int)) (Dt.ite (v.2.2.2.2.2.2.2.2.2.2.2.2.2.2.2.2.1 == (14:Int)) (Dt.ite (v.2.2.2.2.2.2.2.2.2.2.2.2.2.2.2.2.2.2.1 == (6:Int)) (Dt.ret (v.2.2.2.2.2.2.2.2.1, v.2.2.2.2.2.2.2.2.2.1, v.2.2.2.2.2.2.2.2.2.2.1, v.2.2.2.2.2.2.2.2.2.2.2.2.2.2.2.2.2.1, v.2.2.2.2.2.2.2.2.2.2.2.2.2.2.2.2.2.2.2.1, v.2.2.2.2.2.2.2.2.2.2.2.2.2.2.2.2.2.2.2.2.1, v.2.2.2.2.2.2.2.2.2.2.2.2.2.2.2.2.2.2.2.2.2.1, v.2.2.2.2.2.2.2.2.2.2.2.2.2.2.2.2.2.2.2.2.2.2.1, (v.2.2.2.2.2.2.2.2.2.2.2.2.2.2.2.2.2.2.2.2.2.2.2.1 == (6:Int)), v.2.2.2.2.2.2.2.2.2.2.2.2.2.2.2.2.2.2.2.2.2.2.2.2.1, v.2.2.2.2.2.2.2.2.2.2.2.2.2.2.2.2.2.2.2.2.2.2.2.2.2.1, v.2.2.2.2.2.2.2.2.2.2.2.2.2.2.2.2.2.2.2.2.2.2.2.2.2.2.1, v.2.2.2.2.2.2.2.2.2.2.2.2.2.2.2.2.2.2.2.2.2.2.2.2.2.2.2.1, v.2.2.2.2.2.2.2.2.2.2.2.2.2.2.2.2.2.2.2.2.2.2.2.2.2.2.2.2.1, v.2.2.2.2.2.2.2.2.2.2.2.2.2.2.2.2.2.2.2.2.2.2.2.2.2.2.2.2.2)) (Dt.ret (v.2.2.2.2.2.2.2.2.1, v.2.2.2.2.2.2.2.2.2.1, v.2.2.2.2.2.2.2.2.2.2.1, v.2.2.2.2.2.2.2.2.2.2.2.2.2.2.2.2.2.1, v.2.2.2.2.2.2.2.2.2.2.2.2.2.2.2.2.2.2.2.1, v.2.2.2.2.2.2.2.2.2.2.2.2.2.2.2.2.2.2.2.2.1, v.2.2.2.2.2.2.2.2.2.2.2.2.2.2.2.2.2.2.2.2.2.1, v.2.2.2.2.2.2.2.2.2.2.2.2.2.2.2.2.2.2.2.2.2.2.1, false, v.2.2.2.2.2.2.2.2.2.2.2.2.2.2.2.2.2.2.2.2.2.2.2.2.1, v.2.2.2.2.2.2.2.2.2.2.2.2.2.2.2.2.2.2.2.2.2.2.2.2.2.1, v.2.2.2.2.2.2.2.2.2.2.2.2.2.2.2.2.2.2.2.2.2.2.2.2.2.2.1, v.2.2.2.2.2.2.2.2.2.2.2.2.2.2.2.2.2.2.2.2.2.2.2.2.2.2.2.1, v.2.2.2.2.2.2.2.2.2.2.2.2.2.2.2.2.2.2.2.2.2.2.2.2.2.2.2.2.1, v.2.2.2.2.2.2.2.2.2.2.2.2.2.2.2.2.2.2.2.2.2.2.2.2.2.2.2.2.2))) (Dt.ret (v.2.2.2.2.2.2.2.2.1, v.2.2.2.2.2.2.2.2.2.1, v.2.2.2.2.2.2.2.2.2.2.1, v.2.2.2.2.2.2.2.2.2.2.2.2.2.2.2.2.2.1, v.2.2.2.2.2.2.2.2.2.2.2.2.2.2.2.2.2.2.2.1, v.2.2.2.2.2.2.2.2.2.2.2.2.2.2.2.2.2.2.2.2.1, v.2.2.2.2.2.2.2.2.2.2.2.2.2.2.2.2.2.2.2.2.2.1, v.2.2.2.2.2.2.2.2.2.2.2.2.2.2.2.2.2.2.2.2.2.2.1, false, v.2.2.2.2.2.2.2.2.2.2.2.2.2.2.2.2.2.2.2.2.2.2.2.2.1, v.2.2.2.2.2.2.2.2.2.2.2.2.2.2.2.2.2.2.2.2.2.2.2.2.2.1, v.2.2.2.2.2.2.2.2.2.2.2.2.2.2.2.2.2.2.2.2.2.2.2.2.2.2.1, v.2.2.2.2.2.2.2.2.2.2.2.2.2.2.2.2.2.2.2.2.2.2.2.2.2.2.2.1, v.2.2.2.2.2.2.2.2.2.2.2.2.2.2.2.2.2.2.2.2.2.2.2.2.2.2.2.2.1, v.2.2.2.2.2.2.2.2.2.2.2.2.2.2.2.2.2.2.2.2.2.2.2.2.2.2.2.2.2))) (Dt.ret (v.2.2.2.2.2.2.2.2.1, v.2.2.2.2.2.2.2.2.2.1, v.2.2.2.2.2.2.2.2.2.2.1, v.2.2.2.2.2.2.2.2.2.2.2.2.2.2.2.2.2.1, v.2.2.2.2.2.2.2.2.2.2.2.2.2.2.2.2.2.2.2.1, v.2.2.2.2.2.2.2.2.2.2.2.2.2.2.2.2.2.2.2.2.1, v.2.2.2.2.2.2.2.2.2.2.2.2.2.2.2.2.2.2.2.2.2.1, v.2.2.2.2.2.2.2.2.2.2.2.2.2.2.2.2.2.2.2.2.2.2.1, false, v.2.2.2.2.2.2.2.2.2.2.2.2.2.2.2.2.2.2.2.2.2.2.2.2.1, v.2.2.2.2.2.2.2.2.2.2.2.2.2.2.2.2.2.2.2.2.2.2.2.2.2.1, v.2.2.2.2.2.2.2.2.2.2.2.2.2.2.2.2.2.2.2.2.2.2.2.2.2.2.1, v.2.2.2.2.2.2.2.2.2.2.2.2.2.2.2.2.2.2.2.2.2.2.2.2.2.2.2.1, v.2.2.2.2.2.2.2.2.2.2.2.2.2.2.2.2.2.2.2.2.2.2.2.2.2.2.2.2.1, v.2.2.2.2.2.2.2.2.2.2.2.2.2.2.2.2.2.2.2.2.2.2.2.2.2.2.2.2.2))) (Dt.ret (v.2.2.2.2.2.2.2.2.1, v.2.2.2.2.2.2.2.2.2.1, v.2.2.2.2.2.2.2.2.2.2.1, v.2.2.2.2.2.2.2.2.2.2.2.2.2.2.2.2.2.1, v.2.2.2.2.2.2.2.2.2.2.2.2.2.2.2.2.2.2.2.1, v.2.2.2.2.2.2.2.2.2.2.2.2.2.2.2.2.2.2.2.2.1, v.2.2.2.2.2.2.2.2.2.2.2.2.2.2.2.2.2.2.2.2.2.1, v.2.2.2.2.2.2.2.2.2.2.2.2.2.2.2.2.2.2.2.2.2.2.1, false, v.2.2.2.2.2.2.2.2.2.2.2.2.2.2.2.2.2.2.2.2.2.2.2.2.1, v.2.2.2.2.2.2.2.2.2.2.2.2.2.2.2.2.2.2.2.2.2.2.2.2.2.1, v.2.2.2.2.2.2.2.2.2.2.2.2.2.2.2.2.2.2.2.2.2.2.2.2.2.2.1, v.2.2.2.2.2.2.2.2.2.2.2.2.2.2.2.2.2.2.2.2.2.2.2.2.2.2.2.1, v.2.2.2.2.2.2.2.2.2.2.2.2.2.2.2.2.2.2.2.2.2.2.2.2.2.2.2.2.1, v.2.2.2.2.2.2.2.2.2.2.2.2.2.2.2.2.2.2.2.2.2.2.2.2.2.2.2.2.2))) (Dt.ret (v.2.2.2.2.2.2.2.2.1, v.2.2.2.2.2.2.2.2.2.1, v.2.2.2.2.2.2.2.2.2.2.1, v.2.2.2.2.2.2.2.2.2.2.2.2.2.2.2.2.2.1, v.2.2.2.2.2.2.2.2.2.2.2.2.2.2.2.2.2.2.2.1, v.2.2.2.2.2.2.2.2.2.2.2.2.2.2.2.2.2.2.2.2.1, v.2.2.2.2.2.2.2.2.2.2.2.2.2.2.2.2.2.2.2.2.2.1, v.2.2.2.2.2.2.2.2.2.2.2.2.2.2.2.2.2.2.2.2.2.2.1, false, v.2.2.2.2.2.2.2.2.2.2.2.2.2.2.2.2.2.2.2.2.2.2.2.2.1, v.2.2.2.2.2.2.2.2.2.2.2.2.2.2.2.2.2.2.2.2.2.2.2.2.2.1, v.2.2.2.2.2.2.2.2.2.2.2.2.2.2.2.2.2.2.2.2.2.2.2.2.2.2.1, v.2.2.2.2.2.2.2.2.2.2.2.2.2.2.2.2.2.2.2.2.2.2.2.2.2.2.2.1, v.2.2.2.2.2.2.2.2.2.2.2.2.2.2.2.2.2.2.2.2.2.2.2.2.2.2.2.2.1, v.2.2.2.2.2.2.2.2.2.2.2.2.2.2.2.2.2.2.2.2.2.2.2.2.2.2.2.2.2))) (Dt.ret (v.2.2.2.2.2.2.2.2.1, v.2.2.2.2.2.2.2.2.2.1, v.2.2.2.2.2.2.2.2.2.2.1, v.2.2.2.2.2.2.2.2.2.2.2.2.2.2.2.2.2.1, v.2.2.2.2.2.2.2.2.2.2.2.2.2.2.2.2.2.2.2.1, v.2.2.2.2.2.2.2.2.2.2.2.2.2.2.2.2.2.2.2.2.1, v.2.2.2.2.2.2.2.2.2.2.2.2.2.2.2.2.2.2.2.2.2.1, v.2.2.2.2.2.2.2.2.2.2.2.2.2.2.2.2.2.2.2.2.2.2.1, false, v.2.2.2.2.2.2.2.2.2.2.2.2.2.2.2.2.2.2.2.2.2.2.2.2.1, v.2.2.2.2.2.2.2.2.2.2.2.2.2.2.2.2.2.2.2.2.2.2.2.2.2.1, v.2.2.2.2.2.2.2.2.2.2.2.2.2.2.2.2.2.2.2.2.2.2.2.2.2.2.1, v.2.2.2.2.2.2.2.2.2.2.2.2.2.2.2.2.2.2.2.2.2.2.2.2.2.2.2.1, v.2.2.2.2.2.2.2.2.2.2.2.2.2.2.2.2.2.2.2.2.2.2.2.2.2.2.2.2.1, v.2.2.2.2.2.2.2.2.2.2.2.2.2.2.2.2.2.2.2.2.2.2.2.2.2.2.2.2.2))) (Dt.ret (v.2.2.2.2.2.2.2.2.1, v.2.2.2.2.2.2.2.2.2.1, v.2.2.2.2.2.2.2.2.2.2.1, v.2.2.2.2.2.2.2.2.2.2.2.2.2.2.2.2.2.1, v.2.2.2.2.2.2.2.2.2.2.2.2.2.2.2.2.2.2.2.1, v.2.2.2.2.2.2.2.2.2.2.2.2.2.2.2.2.2.2.2.2.1, v.2.2.2.2.2.2.2.2.2.2.2.2.2.2.2.2.2.2.2.2.2.1, v.2.2.2.2.2.2.2.2.2.2.2.2.2.2.2.2.2.2.2.2.2.2.1, false, v.2.2.2.2.2.2.2.2.2.2.2.2.2.2.2.2.2.2.2.2.2.2.2.2.1, v.2.2.2.2.2.2.2.2.2.2.2.2.2.2.2.2.2.2.2.2.2.2.2.2.2.1, v.2.2.2.2.2.2.2.2.2.2.2.2.2.2.2.2.2.2.2.2.2.2.2.2.2.2.1, v.2.2.2.2.2.2.2.2.2.2.2.2.2.2.2.2.2.2.2.2.2.2.2.2.2.2.2.1, v.2.2.2.2.2.2.2.2.2.2.2.2.2.2.2.2.2.2.2.2.2.2.2.2.2.2.2.2.1, v.2.2.2.2.2.2.2.2.2.2.2.2.2.2.2.2.2.2.2.2.2.2.2.2.2.2.2.2.2))) (Dt.ret (v.2.2.2.2.2.2.2.2.1, v.2.2.2.2.2.2.2.2.2.1, v.2.2.2.2.2.2.2.2.2.2.1, v.2.2.2.2.2.2.2.2.2.2.2.2.2.2.2.2.2.1, v.2.2.2.2.2.2.2.2.2.2.2.2.2.2.2.2.2.2.2.1, v.2.2.2.2.2.2.2.2.2.2.2.2.2.2.2.2.2.2.2.2.1, v.2.2.2.2.2.2.2.2.2.2.2.2.2.2.2.2.2.2.2.2.2.1, v.2.2.2.2.2.2.2.2.2.2.2.2.2.2.2.2.2.2.2.2.2.2.1, false, v.2.2.2.2.2.2.2.2.2.2.2.2.2.2.2.2.2.2.2.2.2.2.2.2.1, v.2.2.2.2.2.2.2.2.2.2.2.2.2.2.2.2.2.2.2.2.2.2.2.2.2.1, v.2.2.2.2.2.2.2.2.2.2.2.2.2.2.2.2.2.2.2.2.2.2.2.2.2.2.1, v.2.2.2.2.2.2.2.2.2.2.2.2.2.2.2.2.2.2.2.2.2.2.2.2.2.2.2.1, v.2.2.2.2.2.2.2.2.2.2.2.2.2.2.2.2.2.2.2.2.2.2.2.2.2.2.2.2.1, v.2.2.2.2.2.2.2.2.2.2.2.2.2.2.2.2.2.2.2.2.2.2.2.2.2.2.2.2.2))) (Dt.ret (v.2.2.2.2.2.2.2.2.1, v.2.2.2.2.2.2.2.2.2.1, v.2.2.2.2.2.2.2.2.2.2.1, v.2.2.2.2.2.2.2.2.2.2.2.2.2.2.2.2.2.1, v.2.2.2.2.2.2.2.2.2.2.2.2.2.2.2.2.2.2.2.1, v.2.2.2.2.2.2.2.2.2.2.2.2.2.2.2.2.2.2.2.2.1, v.2.2.2.2.2.2.2.2.2.2.2.2.2.2.2.2.2.2.2.2.2.1, v.2.2.2.2.2.2.2.2.2.2.2.2.2.2.2.2.2.2.2.2.2.2.1, false, v.2.2.2.2.2.2.2.2.2.2.2.2.2.2.2.2.2.2.2.2.2.2.2.2.1, v.2.2.2.2.2.2.2.2.2.2.2.2.2.2.2.2.2.2.2.2.2.2.2.2.2.1, v.2.2.2.2.2.2.2.2.2.2.2.2.2.2.2.2.2.2.2.2.2.2.2.2.2.2.1, v.2.2.2.2.2.2.2.2.2.2.2.2.2.2.2.2.2.2.2.2.2.2.2.2.2.2.2.1, v.2.2.2.2.2.2.2.2.2.2.2.2.2.2.2.2.2.2.2.2.2.2.2.2.2.2.2.2.1, v.2.2.2.2.2.2.2.2.2.2.2.2.2.2.2.2.2.2.2.2.2.2.2.2.2.2.2.2.2))) (Dt.ret (v.2.2.2.2.2.2.2.2.1, v.2.2.2.2.2.2.2.2.2.1, v.2.2.2.2.2.2.2.2.2.2.1, v.2.2.2.2.2.2.2.2.2.2.2.2.2.2.2.2.2.1, v.2.2.2.2.2.2.2.2.2.2.2.2.2.2.2.2.2.2.2.1, v.2.2.2.2.2.2.2.2.2.2.2.2.2.2.2.2.2.2.2.2.1, v.2.2.2.2.2.2.2.2.2.2.2.2.2.2.2.2.2.2.2.2.2.1, v.2.2.2.2.2.2.2.2.2.2.2.2.2.2.2.2.2.2.2.2.2.2.1, false, v.2.2.2.2.2.2.2.2.2.2.2.2.2.2.2.2.2.2.2.2.2.2.2.2.1, v.2.2.2.2.2.2.2.2.2.2.2.2.2.2.2.2.2.2.2.2.2.2.2.2.2.1, v.2.2.2.2.2.2.2.2.2.2.2.2.2.2.2.2.2.2.2.2.2.2.2.2.2.2.1, v.2.2.2.2.2.2.2.2.2.2.2.2.2.2.2.2.2.2.2.2.2.2.2.2.2.2.2.1, v.2.2.2.2.2.2.2.2.2.2.2.2.2.2.2.2.2.2.2.2.2.2.2.2.2.2.2.2.1, v.2.2.2.2.2.2.2.2.2.2.2.2.2.2.2.2.2.2.2.2.2.2.2.2.2.2.2.2.2))) (Dt.ret (v.2.2.2.2.2.2.2.2.1, v.2.2.2.2.2.2.2.2.2.1, v.2.2.2.2.2.2.2.2.2.2.1, v.2.2.2.2.2.2.2.2.2.2.2.2.2.2.2.2.2.1, v.2.2.2.2.2.2.2.2.2.2.2.2.2.2.2.2.2.2.2.1, v.2.2.2.2.2.2.2.2.2.2.2.2.2.2.2.2.2.2.2.2.1, v.2.2.2.2.2.2.2.2.2.2.2.2.2.2.2.2.2.2.2.2.2.1, v.2.2.2.2.2.2.2.2.2.2.2.2.2.2.2.2.2.2.2.2.2.2.1, false, v.2.2.2.2.2.2.2.2.2.2.2.2.2.2.2.2.2.2.2.2.2.2.2.2.1, v.2.2.2.2.2.2.2.2.2.2.2.2.2.2.2.2.2.2.2.2.2.2.2.2.2.1, v.2.2.2.2.2.2.2.2.2.2.2.2.2.2.2.2.2.2.2.2.2.2.2.2.2.2.1, v.2.2.2.2.2.2.2.2.2.2.2.2.2.2.2.2.2.2.2.2.2.2.2.2.2.2.2.1, v.2.2.2.2.2.2.2.2.2.2.2.2.2.2.2.2.2.2.2.2.2.2.2.2.2.2.2.2.1, v.2.2.2.2.2.2.2.2.2.2.2.2.2.2.2.2.2.2.2.2.2.2.2.2.2.2.2.2.2))) (Dt.ret (v.2.2.2.2.2.2.2.2.1, v.2.2.2.2.2.2.2.2.2.1, v.2.2.2.2.2.2.2.2.2.2.1, v.2.2.2.2.2.2.2.2.2.2.2.2.2.2.2.2.2.1, v.2.2.2.2.2.2.2.2.2.2.2.2.2.2.2.2.2.2.2.1, v.2.2.2.2.2.2.2.2.2.2.2.2.2.2.2.2.2.2.2.2.1, v.2.2.2.2.2.2.2.2.2.2.2.2.2.2.2.2.2.2.2.2.2.1, v.2.2.2.2.2.2.2.2.2.2.2.2.2.2.2.2.2.2.2.2.2.2.1, false, v.2.2.2.2.2.2.2.2.2.2.2.2.2.2.2.2.2.2.2.2.2.2.2.2.1, v.2.2.2.2.2.2.2.2.2.2.2.2.2.2.2.2.2.2.2.2.2.2.2.2.2.1, v.2.2.2.2.2.2.2.2.2.2.2.2.2.2.2.2.2.2.2.2.2.2.2.2.2.2.1, v.2.2.2.2.2.2.2.2.2.2.2.2.2.2.2.2.2.2.2.2.2.2.2.2.2.2.2.1, v.2.2.2.2.2.2.2.2.2.2.2.2.2.2.2.2.2.2.2.2.2.2.2.2.2.2.2.2.1, v.2.2.2.2.2.2.2.2.2.2.2.2.2.2.2.2.2.2.2.2.2.2.2.2.2.2.2.2.2))) (Dt.ret (v.2.2.2.2.2.2.2.2.1, v.2.2.2.2.2.2.2.2.2.1, v.2.2.2.2.2.2.2.2.2.2.1, v.2.2.2.2.2.2.2.2.2.2.2.2.2.2.2.2.2.1, v.2.2.2.2.2.2.2.2.2.2.2.2.2.2.2.2.2.2.2.1, v.2.2.2.2.2.2.2.2.2.2.2.2.2.2.2.2.2.2.2.2.1, v.2.2.2.2.2.2.2.2.2.2.2.2.2.2.2.2.2.2.2.2.2.1, v.2.2.2.2.2.2.2.2.2.2.2.2.2.2.2.2.2.2.2.2.2.2.1, false, v.2.2.2.2.2.2.2.2.2.2.2.2.2.2.2.2.2.2.2.2.2.2.2.2.1, v.2.2.2.2.2.2.2.2.2.2.2.2.2.2.2.2.2.2.2.2.2.2.2.2.2.1, v.2.2.2.2.2.2.2.2.2.2.2.2.2.2.2.2.2.2.2.2.2.2.2.2.2.2.1, v.2.2.2.2.2.2.2.2.2.2.2.2.2.2.2.2.2.2.2.2.2.2.2.2.2.2.2.1, v.2.2.2.2.2.2.2.2.2.2.2.2.2.2.2.2.2.2.2.2.2.2.2.2.2.2.2.2.1, v.2.2.2.2.2.2.2.2.2.2.2.2.2.2.2.2.2.2.2.2.2.2.2.2.2.2.2.2.2))) (Dt.ret (v.2.2.2.2.2.2.2.2.1, v.2.2.2.2.2.2.2.2.2.1, v.2.2.2.2.2.2.2.2.2.2.1, v.2.2.2.2.2.2.2.2.2.2.2.2.2.2.2.2.2.1, v.2.2.2.2.2.2.2.2.2.2.2.2.2.2.2.2.2.2.2.1, v.2.2.2.2.2.2.2.2.2.2.2.2.2.2.2.2.2.2.2.2.1, v.2.2.2.2.2.2.2.2.2.2.2.2.2.2.2.2.2.2.2.2.2.1, v.2.2.2.2.2.2.2.2.2.2.2.2.2.2.2.2.2.2.2.2.2.2.1, false, v.2.2.2.2.2.2.2.2.2.2.2.2.2.2.2.2.2.2.2.2.2.2.2.2.1, v.2.2.2.2.2.2.2.2.2.2.2.2.2.2.2.2.2.2.2.2.2.2.2.2.2.1, v.2.2.2.2.2.2.2.2.2.2.2.2.2.2.2.2.2.2.2.2.2.2.2.2.2.2.1, v.2.2.2.2.2.2.2.2.2.2.2.2.2.2.2.2.2.2.2.2.2.2.2.2.2.2.2.1, v.2.2.2.2.2.2.2.2.2.2.2.2.2.2.2.2.2.2.2.2.2.2.2.2.2.2.2.2.1, v.2.2.2.2.2.2.2.2.2.2.2.2.2.2.2.2.2.2.2.2.2.2.2.2.2.2.2.2.2))) (Dt.ret (v.2.2.2.2.2.2.2.2.1, v.2.2.2.2.2.2.2.2.2.1, v.2.2.2.2.2.2.2.2.2.2.1, v.2.2.2.2.2.2.2.2.2.2.2.2.2.2.2.2.2.1, v.2.2.2.2.2.2.2.2.2.2.2.2.2.2.2.2.2.2.2.1, v.2.2.2.2.2.2.2.2.2.2.2.2.2.2.2.2.2.2.2.2.1, v.2.2.2.2.2.2.2.2.2.2.2.2.2.2.2.2.2.2.2.2.2.1, v.2.2.2.2.2.2.2.2.2.2.2.2.2.2.2.2.2.2.2.2.2.2.1, false, v.2.2.2.2.2.2.2.2.2.2.2.2.2.2.2.2.2.2.2.2.2.2.2.2.1, v.2.2.2.2.2.2.2.2.2.2.2.2.2.2.2.2.2.2.2.2.2.2.2.2.2.1, v.2.2.2.2.2.2.2.2.2.2.2.2.2.2.2.2.2.2.2.2.2.2.2.2.2.2.1, v.2.2.2.2.2.2.2.2.2.2.2.2.2.2.2.2.2.2.2.2.2.2.2.2.2.2.2.1, v.2.2.2.2.2.2.2.2.2.2.2.2.2.2.2.2.2.2.2.2.2.2.2.2.2.2.2.2.1, v.2.2.2.2.2.2.2.2.2.2.2.2.2.2.2.2.2.2.2.2.2.2.2.2.2.2.2.2.2)))
theorem law10_BracketNames_g38 (C : law10_BracketNames_C) (v : law10_BracketNames_Y37) : treg tysT (orc (law10_BracketNames_tab C)) 451 (regO (bodyOf f7) 38) false [(22, .any), (23, .any), (24, (.own Ri)), (25, .any), (37, (.box [.own Ri, .own Ri])), (55, (.box [.own Ri, .own Ri])), (56, (.own Ri)), (57, .any), (61, .any), (62, .any), (63, .any), (64, .any), (67, .any)] (law10_BracketNames_S37 v) some = (law10_BracketNames_r38 C v).eval fun y => some (law10_BracketNames_S38 y) := by kernel_rfl
def law10_BracketNames_r39 (C : law10_BracketNames_C) (v : law10_BracketNames_Y38) : Dt law10_BracketNames_Y15 := (Dt.ite v.2.2.2.2.2.2.2.2.1 (Dt.ite (v.2.1 == (0:Int)) (Dt.ite (v.1 == (5:Int)) (Dt.ite (v.2.2.1 == (0:Int)) (Dt.ite ((List.length v.2.2.2.2.2.2.2.2.2.1 : Int) == (0:Int)) (Dt.ite (v.2.2.2.1 == (0:Int)) (Dt.bnd (C.2.1 ((v.2.2.2.2.2.2.2.2.2.2.2.2.1, v.2.2.2.2.2.2.2.2.2.2.2.2.2.1, ()), (v.2.2.2.2.2.2.2.2.2.2.1, v.2.2.2.2.2.2.2.2.2.2.2.1, ()), ())) fun r1 => (Dt.ite r1 (Dt.ite ((List.length v.2.2.2.2.2.2.2.2.2.2.2.2.2.2 : Int) == (0:Int)) (Dt.ite (v.2.2.2.2.2.1 == (0:Int)) (Dt.ite (!v.2.2.2.2.1) (Dt.ite (v.2.2.2.2.2.2.2.1 == (0:Int)) (Dt.ite v.2.2.2.2.2.2.1 (Dt.bnd (C.2.2.2.2.2.2.2.1 (())) fun r2 => (Dt.ret r2)) (Dt.ret false)) (Dt.ret false)) (Dt.ret false)) (Dt.ret false)) (Dt.ret false)) (Dt.ret false))) (Dt.ret false)) (Dt.ret false)) (Dt.ret false)) (Dt.ret false)) (Dt.ret false)) (Dt.ret false))
theorem law10_BracketNames_g39 (C : law10_BracketNames_C) (v : law10_BracketNames_Y38) : treg tysT (orc (law10_BracketNames_tab C)) 451 (regO (bodyOf f7) 39) false [(0, .any)] (law10_BracketNames_S38 v) some = (law10_BracketNames_r39 C v).eval fun y => some (law10_BracketNames_S15 y) := by kernel_rfl
def law10_BracketNames_L1 (d : Nat) (self1 : (Int × Int × Int × Int × Int × Int × Int × Int × Int × Int × Int × Int × List Diii × List Di × List DLiELiE) → Option law10_BracketNames_R) (x1 : Int × Int × Int × Int × Int × Int × Int × Int × Int × Int × Int × Int × List Diii × List Di × List DLiELiE) : Option law10_BracketNames_R :=
  (law10_BracketNames_r18 (law10_BracketNames_K d) x1).eval fun y18 =>
  bif y18.2.2.2.2.2.2.2.2.2.2.2.2.1 then ((law10_BracketNames_r20 (law10_BracketNames_K d) y18).eval fun y20 =>
  (law10_BracketNames_r21 (law10_BracketNames_K d) y20).eval fun y21 =>
  (law10_BracketNames_r22 (law10_BracketNames_K d) y21).eval fun y22 =>
  (law10_BracketNames_r23 (law10_BracketNames_K d) y22).eval fun y23 =>
  (law10_BracketNames_r24 (law10_BracketNames_K d) y23).eval fun y24 =>
  bif y24.2.2.2.2.2.2.2.2.2.2.2.2.1 then ((law10_BracketNames_r25 (law10_BracketNames_K d) y24).eval fun y25 =>
  some y25) else ((law10_BracketNames_r19 (law10_BracketNames_K d) y24).eval fun y19 =>
  self1 y19)) else ((law10_BracketNames_r26 (law10_BracketNames_K d) y18).eval fun y26 =>
  (law10_BracketNames_r27 (law10_BracketNames_K d) y26).eval fun y27 =>
  (law10_BracketNames_r28 (law10_BracketNames_K d) y27).eval fun y28 =>
  (law10_BracketNames_r29 (law10_BracketNames_K d) y28).eval fun y29 =>
  (law10_BracketNames_r30 (law10_BracketNames_K d) y29).eval fun y30 =>
  (law10_BracketNames_r31 (law10_BracketNames_K d) y30).eval fun y31 =>
  (law10_BracketNames_r32 (law10_BracketNames_K d) y31).eval fun y32 =>
  (law10_BracketNames_r33 (law10_BracketNames_K d) y32).eval fun y33 =>
  (law10_BracketNames_r34 (law10_BracketNames_K d) y33).eval fun y34 =>
  (law10_BracketNames_r35 (law10_BracketNames_K d) y34).eval fun y35 =>
  (law10_BracketNames_r36 (law10_BracketNames_K d) y35).eval fun y36 =>
  (law10_BracketNames_r37 (law10_BracketNames_K d) y36).eval fun y37 =>
  (law10_BracketNames_r38 (law10_BracketNames_K d) y37).eval fun y38 =>
  (law10_BracketNames_r39 (law10_BracketNames_K d) y38).eval fun y39 =>
  some y39)
def F_law10_BracketNames (d : Nat) (x : law10_BracketNames_X) : Option law10_BracketNames_R :=
  (law10_BracketNames_r0 (law10_BracketNames_K d) ()).eval fun y0 =>
  (law10_BracketNames_r1 (law10_BracketNames_K d) ()).eval fun y1 =>
  (law10_BracketNames_r2 (law10_BracketNames_K d) y1).eval fun y2 =>
  (law10_BracketNames_r3 (law10_BracketNames_K d) y2).eval fun y3 =>
  (law10_BracketNames_r4 (law10_BracketNames_K d) y3).eval fun y4 =>
  (law10_BracketNames_r5 (law10_BracketNames_K d) y4).eval fun y5 =>
  (law10_BracketNames_r6 (law10_BracketNames_K d) y5).eval fun y6 =>
  (law10_BracketNames_r7 (law10_BracketNames_K d) y6).eval fun y7 =>
  (law10_BracketNames_r8 (law10_BracketNames_K d) y7).eval fun y8 =>
  (law10_BracketNames_r9 (law10_BracketNames_K d) y8).eval fun y9 =>
  (law10_BracketNames_r10 (law10_BracketNames_K d) y9).eval fun y10 =>
  (law10_BracketNames_r11 (law10_BracketNames_K d) y10).eval fun y11 =>
  (law10_BracketNames_r12 (law10_BracketNames_K d) y11).eval fun y12 =>
  (law10_BracketNames_r13 (law10_BracketNames_K d) y12).eval fun y13 =>
  (law10_BracketNames_r14 (law10_BracketNames_K d) y13).eval fun y14 =>
  bif y14.2.2.2.2.2.2.2.2.2.2.2.1 then ((law10_BracketNames_r15 (law10_BracketNames_K d) y14).eval fun y15 =>
  some y15) else ((law10_BracketNames_r16 (law10_BracketNames_K d) y14).eval fun y16 =>
  (law10_BracketNames_r17 (law10_BracketNames_K d) y16).eval fun y17 =>
  iter (law10_BracketNames_L1 d ) d y17)
theorem law10_BracketNames_cok (d : Nat) : COK prog (law10_BracketNames_sp (F_law10_BracketNames d)) := by
  have hm : prog.follows .mixedOrders = true := mixed
  have hT := tys
  have hC : OrcOK prog (orc (law10_BracketNames_tab (law10_BracketNames_K d))) := orc_ok (by
    intro S hS
    simp only [law10_BracketNames_tab, List.mem_cons, List.not_mem_nil, or_false] at hS
    rcases hS with rfl | rfl | rfl | rfl | rfl | rfl | rfl | rfl | rfl | rfl
    · exact bracket_Set_cok d
    · exact ref10_Same_cok d
    · exact bracket_Build_cok d
    · exact bracket_Winner_cok d
    · exact bracket_Path_cok d
    · exact bracket_Right_cok d
    · exact bracket_Check_cok d
    · exact law10_alive_cok d
    · exact law10_given_cok d
    · exact law10_at_cok d)
  refine cok_of (c := bodyOf f7) (fn := f7) hT (by kernel_rfl) (by kernel_rfl) (by decide) fun x r h w0 φ0 Q hend => ?_
  replace h : F_law10_BracketNames d x = some r := h
  unfold F_law10_BracketNames at h
  show Run prog w0 φ0 451 (bodyOf f7) ⟨[], []⟩ Q
  refine run_seq ?_
  refine run_reg hm hT hC (law10_BracketNames_g0 (law10_BracketNames_K d) ()) h ?_
  intro y0 h
  refine cn_then ?_
  refine run_seq ?_
  refine run_reg hm hT hC (law10_BracketNames_g1 (law10_BracketNames_K d) ()) h ?_
  intro y1 h
  refine cn_then ?_
  refine run_seq ?_
  refine run_reg hm hT hC (law10_BracketNames_g2 (law10_BracketNames_K d) y1) h ?_
  intro y2 h
  refine cn_then ?_
  refine run_seq ?_
  refine run_reg hm hT hC (law10_BracketNames_g3 (law10_BracketNames_K d) y2) h ?_
  intro y3 h
  refine cn_then ?_
  refine run_seq ?_
  refine run_reg hm hT hC (law10_BracketNames_g4 (law10_BracketNames_K d) y3) h ?_
  intro y4 h
  refine cn_then ?_
  refine run_seq ?_
  refine run_reg hm hT hC (law10_BracketNames_g5 (law10_BracketNames_K d) y4) h ?_
  intro y5 h
  refine cn_then ?_
  refine run_seq ?_
  refine run_reg hm hT hC (law10_BracketNames_g6 (law10_BracketNames_K d) y5) h ?_
  intro y6 h
  refine cn_then ?_
  refine run_seq ?_
  refine run_reg hm hT hC (law10_BracketNames_g7 (law10_BracketNames_K d) y6) h ?_
  intro y7 h
  refine cn_then ?_
  refine run_seq ?_
  refine run_reg hm hT hC (law10_BracketNames_g8 (law10_BracketNames_K d) y7) h ?_
  intro y8 h
  refine cn_then ?_
  refine run_seq ?_
  refine run_reg hm hT hC (law10_BracketNames_g9 (law10_BracketNames_K d) y8) h ?_
  intro y9 h
  refine cn_then ?_
  refine run_seq ?_
  refine run_reg hm hT hC (law10_BracketNames_g10 (law10_BracketNames_K d) y9) h ?_
  intro y10 h
  refine cn_then ?_
  refine run_seq ?_
  refine run_reg hm hT hC (law10_BracketNames_g11 (law10_BracketNames_K d) y10) h ?_
  intro y11 h
  refine cn_then ?_
  refine run_seq ?_
  refine run_reg hm hT hC (law10_BracketNames_g12 (law10_BracketNames_K d) y11) h ?_
  intro y12 h
  refine cn_then ?_
  refine run_seq ?_
  refine run_reg hm hT hC (law10_BracketNames_g13 (law10_BracketNames_K d) y12) h ?_
  intro y13 h
  refine cn_then ?_
  refine run_seq ?_
  refine run_seq ?_
  refine run_reg hm hT hC (law10_BracketNames_g14 (law10_BracketNames_K d) y13) h ?_
  intro y14 h
  refine cn_then ?_
  refine run_cond (v := y14.2.2.2.2.2.2.2.2.2.2.2.1) (by kernel_rfl) h ?_ ?_
  ·
    intro h
    refine run_seq ?_
    refine run_reg hm hT hC (law10_BracketNames_g15 (law10_BracketNames_K d) y14) h ?_
    intro y15 h
    refine cn_then ?_
    refine run_ret ?_
    refine cn_then_ret ?_
    cases h
    exact (hend _ (by kernel_rfl)).2
  ·
    intro h
    refine run_skip ?_
    refine cn_then ?_
    refine run_seq ?_
    refine run_reg hm hT hC (law10_BracketNames_g16 (law10_BracketNames_K d) y14) h ?_
    intro y16 h
    refine cn_then ?_
    refine run_seq ?_
    refine run_seq ?_
    refine run_reg hm hT hC (law10_BracketNames_g17 (law10_BracketNames_K d) y16) h ?_
    intro y17 h
    refine cn_then ?_
    refine run_block ?_
    refine run_loop (G := iter (law10_BracketNames_L1 d )) (S := (fun x1 => ⟨[(1, .ptr 0 0), (3, .int .i64 x1.1), (5, .int .i64 x1.2.1), (7, .int .i64 x1.2.2.1), (9, .int .i64 x1.2.2.2.1), (11, .int .i64 x1.2.2.2.2.1), (13, .int .i64 x1.2.2.2.2.2.1), (15, .int .i64 x1.2.2.2.2.2.2.1), (19, .int .i64 x1.2.2.2.2.2.2.2.1), (22, .int .i64 x1.2.2.2.2.2.2.2.2.1), (23, .int .i64 x1.2.2.2.2.2.2.2.2.2.1), (24, .rs 2), (25, .int .i64 x1.2.2.2.2.2.2.2.2.2.2.1), (26, .rs 3), (27, .int .i64 x1.2.2.2.2.2.2.2.2.2.2.2.1)], [.cells [.rs 1], .rows Riii x1.2.2.2.2.2.2.2.2.2.2.2.2.1, .rows Ri x1.2.2.2.2.2.2.2.2.2.2.2.2.2.1, .rows RLiELiE x1.2.2.2.2.2.2.2.2.2.2.2.2.2.2]⟩ : Int × Int × Int × Int × Int × Int × Int × Int × Int × Int × Int × Int × List Diii × List Di × List DLiELiE → St)) (fun _ => rfl) ?_ d _ h
    intro n1 x1 h K1 hn1
    replace h : law10_BracketNames_L1 d  (iter (law10_BracketNames_L1 d ) n1) x1 = some r := h
    generalize iter (law10_BracketNames_L1 d ) n1 = self1 at h hn1
    unfold law10_BracketNames_L1 at h
    refine run_seq ?_
    refine run_seq ?_
    refine run_reg hm hT hC (law10_BracketNames_g18 (law10_BracketNames_K d) x1) h ?_
    intro y18 h
    refine cn_then ?_
    refine run_cond (v := y18.2.2.2.2.2.2.2.2.2.2.2.2.1) (by kernel_rfl) h ?_ ?_
    ·
      intro h
      refine run_skip ?_
      refine cn_then ?_
      refine run_seq ?_
      refine run_block ?_
      refine run_seq ?_
      refine run_reg hm hT hC (law10_BracketNames_g20 (law10_BracketNames_K d) y18) h ?_
      intro y20 h
      refine cn_then ?_
      refine run_seq ?_
      refine run_reg hm hT hC (law10_BracketNames_g21 (law10_BracketNames_K d) y20) h ?_
      intro y21 h
      refine cn_then ?_
      refine run_seq ?_
      refine run_reg hm hT hC (law10_BracketNames_g22 (law10_BracketNames_K d) y21) h ?_
      intro y22 h
      refine cn_then ?_
      refine run_seq ?_
      refine run_reg hm hT hC (law10_BracketNames_g23 (law10_BracketNames_K d) y22) h ?_
      intro y23 h
      refine cn_then ?_
      refine run_seq ?_
      refine run_reg hm hT hC (law10_BracketNames_g24 (law10_BracketNames_K d) y23) h ?_
      intro y24 h
      refine cn_then ?_
      refine run_cond (v := y24.2.2.2.2.2.2.2.2.2.2.2.2.1) (by kernel_rfl) h ?_ ?_
      ·
        intro h
        refine run_seq ?_
        refine run_reg hm hT hC (law10_BracketNames_g25 (law10_BracketNames_K d) y24) h ?_
        intro y25 h
        refine cn_then ?_
        refine run_ret ?_
        refine cn_blk_ret ?_
        refine cn_then_ret ?_
        refine cn_then_ret ?_
        refine cn_blk_ret ?_
        refine cn_then_ret ?_
        cases h
        exact (hend _ (by kernel_rfl)).2
      ·
        intro h
        refine run_skip ?_
        refine cn_blk ?_
        refine cn_then ?_
        refine run_reg hm hT hC (law10_BracketNames_g19 (law10_BracketNames_K d) y24) h ?_
        intro y19 h
        exact hn1 _ h
    ·
      intro h
      refine run_exit ?_
      refine cn_then_exit ?_
      refine cn_then_exit ?_
      refine cn_blk_eq ?_
      refine cn_then ?_
      refine run_seq ?_
      refine run_reg hm hT hC (law10_BracketNames_g26 (law10_BracketNames_K d) y18) h ?_
      intro y26 h
      refine cn_then ?_
      refine run_seq ?_
      refine run_reg hm hT hC (law10_BracketNames_g27 (law10_BracketNames_K d) y26) h ?_
      intro y27 h
      refine cn_then ?_
      refine run_seq ?_
      refine run_reg hm hT hC (law10_BracketNames_g28 (law10_BracketNames_K d) y27) h ?_
      intro y28 h
      refine cn_then ?_
      refine run_seq ?_
      refine run_reg hm hT hC (law10_BracketNames_g29 (law10_BracketNames_K d) y28) h ?_
      intro y29 h
      refine cn_then ?_
      refine run_seq ?_
      refine run_reg hm hT hC (law10_BracketNames_g30 (law10_BracketNames_K d) y29) h ?_
      intro y30 h
      refine cn_then ?_
      refine run_seq ?_
      refine run_reg hm hT hC (law10_BracketNames_g31 (law10_BracketNames_K d) y30) h ?_
      intro y31 h
      refine cn_then ?_
      refine run_seq ?_
      refine run_reg hm hT hC (law10_BracketNames_g32 (law10_BracketNames_K d) y31) h ?_
      intro y32 h
      refine cn_then ?_
      refine run_seq ?_
      refine run_reg hm hT hC (law10_BracketNames_g33 (law10_BracketNames_K d) y32) h ?_
      intro y33 h
      refine cn_then ?_
      refine run_seq ?_
      refine run_reg hm hT hC (law10_BracketNames_g34 (law10_BracketNames_K d) y33) h ?_
      intro y34 h
      refine cn_then ?_
      refine run_seq ?_
      refine run_reg hm hT hC (law10_BracketNames_g35 (law10_BracketNames_K d) y34) h ?_
      intro y35 h
      refine cn_then ?_
      refine run_seq ?_
      refine run_reg hm hT hC (law10_BracketNames_g36 (law10_BracketNames_K d) y35) h ?_
      intro y36 h
      refine cn_then ?_
      refine run_seq ?_
      refine run_reg hm hT hC (law10_BracketNames_g37 (law10_BracketNames_K d) y36) h ?_
      intro y37 h
      refine cn_then ?_
      refine run_seq ?_
      refine run_reg hm hT hC (law10_BracketNames_g38 (law10_BracketNames_K d) y37) h ?_
      intro y38 h
      refine cn_then ?_
      refine run_seq ?_
      refine run_reg hm hT hC (law10_BracketNames_g39 (law10_BracketNames_K d) y38) h ?_
      intro y39 h
      refine cn_then ?_
      refine run_ret ?_
      cases h
      exact (hend _ (by kernel_rfl)).2
end Go.Proofs.Ytkcpnclgcmnlcaa
