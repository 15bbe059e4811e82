/- Walks for the law. -/
import Derived.Test.YtkcpnclgcmnlcaaGj
set_option linter.unusedSimpArgs false
set_option linter.unusedVariables false
namespace Go.Proofs.Ytkcpnclgcmnlcaa
open Go Go.Tx Go.Proofs.Try
set_option maxRecDepth 100000
set_option maxHeartbeats 0
abbrev law10_given_ps : List Pk := []
abbrev law10_given_X : Type := Unit
abbrev law10_given_R : Type := List Diii
def law10_given_enc (r : law10_given_R) : LV × List Ob := (.agg [.rs 0], [.rows Riii r])
def law10_given_sp (F : law10_given_X → Option law10_given_R) : Go.Tx.Spec := ⟨47, law10_given_ps, law10_given_R, F, law10_given_enc⟩
abbrev law10_given_C : Type := Unit
def law10_given_K (_d : Nat) : law10_given_C := ()
def law10_given_tab (C : law10_given_C) : List Go.Tx.Spec := []
abbrev law10_given_Y0i : Type := Unit
def law10_given_S0i (v : law10_given_Y0i) : St := ⟨[], []⟩
abbrev law10_given_Y0 : Type := List Diii
def law10_given_S0 (v : law10_given_Y0) : St := ⟨[(0, .ptr 0 0)], [.cells [.rs 1], .rows Riii v]⟩
def law10_given_r0 (C : law10_given_C) (v : law10_given_Y0i) : Dt law10_given_Y0 := (Dt.ret ([] : List Diii))
theorem law10_given_g0 (C : law10_given_C) (v : law10_given_Y0i) : treg tysT (orc (law10_given_tab C)) 6 (regO (bodyOf f47) 0) false [(0, (.box [.own Riii]))] (law10_given_S0i v) some = (law10_given_r0 C v).eval fun y => some (law10_given_S0 y) := by kernel_rfl
def law10_given_r1 (C : law10_given_C) (v : law10_given_Y0) : Dt law10_given_Y0 := (Dt.ret ([((1:Int), (0:Int), (2:Int), ()), ((2:Int), (6:Int), (-1:Int), ()), ((5:Int), (0:Int), (0:Int), ())] : List Diii))
theorem law10_given_g1 (C : law10_given_C) (v : law10_given_Y0) : treg tysT (orc (law10_given_tab C)) 6 (regO (bodyOf f47) 1) false [(0, (.box [.own Riii]))] (law10_given_S0 v) some = (law10_given_r1 C v).eval fun y => some (law10_given_S0 y) := by kernel_rfl
def F_law10_given (d : Nat) (x : law10_given_X) : Option law10_given_R :=
  (law10_given_r0 (law10_given_K d) ()).eval fun y0 =>
  (law10_given_r1 (law10_given_K d) y0).eval fun y1 =>
  some y1
theorem law10_given_cok (d : Nat) : COK prog (law10_given_sp (F_law10_given d)) := by
  have hm : prog.follows .mixedOrders = true := mixed
  have hT := tys
  have hC : OrcOK prog (orc (law10_given_tab (law10_given_K d))) := orc_ok (by
    intro S hS
    simp only [law10_given_tab, List.mem_cons, List.not_mem_nil, or_false] at hS
    all_goals first | cases hS | exact hS.elim)
  refine cok_of (c := bodyOf f47) (fn := f47) hT (by kernel_rfl) (by kernel_rfl) (by decide) fun x r h w0 φ0 Q hend => ?_
  replace h : F_law10_given d x = some r := h
  unfold F_law10_given at h
  show Run prog w0 φ0 6 (bodyOf f47) ⟨[], []⟩ Q
  refine run_seq ?_
  refine run_reg hm hT hC (law10_given_g0 (law10_given_K d) ()) h ?_
  intro y0 h
  refine cn_then ?_
  refine run_seq ?_
  refine run_reg hm hT hC (law10_given_g1 (law10_given_K d) y0) h ?_
  intro y1 h
  refine cn_then ?_
  refine run_ret ?_
  cases h
  exact (hend _ (by kernel_rfl)).2
abbrev law10_at_ps : List Pk := [.row Ri false]
abbrev law10_at_X : Type := Di × Unit
abbrev law10_at_R : Type := Int × Int
def law10_at_enc (r : law10_at_R) : LV × List Ob := (.agg [.int .i64 r.1, .int .i64 r.2], [])
def law10_at_sp (F : law10_at_X → Option law10_at_R) : Go.Tx.Spec := ⟨48, law10_at_ps, law10_at_R, F, law10_at_enc⟩
abbrev law10_at_C : Type := Unit
def law10_at_K (_d : Nat) : law10_at_C := ()
def law10_at_tab (C : law10_at_C) : List Go.Tx.Spec := []
abbrev law10_at_Y0i : Type := Int
def law10_at_S0i (v : law10_at_Y0i) : St := ⟨[(0, .int .i64 v)], []⟩
abbrev law10_at_Y0 : Type := Int × Int × Int
def law10_at_S0 (v : law10_at_Y0) : St := ⟨[(0, .int .i64 v.1), (2, .ptr 0 0)], [.cells [.int .i64 v.2.1, .int .i64 v.2.2]]⟩
def law10_at_r0 (C : law10_at_C) (v : law10_at_Y0i) : Dt law10_at_Y0 := (Dt.ret (v, (0:Int), (0:Int)))
theorem law10_at_g0 (C : law10_at_C) (v : law10_at_Y0i) : treg tysT (orc (law10_at_tab C)) 5 (regO (bodyOf f48) 0) false [(0, .any), (2, .any)] (law10_at_S0i v) some = (law10_at_r0 C v).eval fun y => some (law10_at_S0 y) := by kernel_rfl
abbrev law10_at_Y1 : Type := Int × Int
def law10_at_S1 (v : law10_at_Y1) : St := ⟨[(2, .ptr 0 0)], [.cells [.int .i64 v.1, .int .i64 v.2]]⟩
def law10_at_r1 (C : law10_at_C) (v : law10_at_Y0) : Dt law10_at_Y1 := (Dt.ret (v.1, (1:Int)))
theorem law10_at_g1 (C : law10_at_C) (v : law10_at_Y0) : treg tysT (orc (law10_at_tab C)) 5 (regO (bodyOf f48) 1) false [(2, .any)] (law10_at_S0 v) some = (law10_at_r1 C v).eval fun y => some (law10_at_S1 y) := by kernel_rfl
def F_law10_at (d : Nat) (x : law10_at_X) : Option law10_at_R :=
  (law10_at_r0 (law10_at_K d) x.1.1).eval fun y0 =>
  (law10_at_r1 (law10_at_K d) y0).eval fun y1 =>
  some y1
theorem law10_at_cok (d : Nat) : COK prog (law10_at_sp (F_law10_at d)) := by
  have hm : prog.follows .mixedOrders = true := mixed
  have hT := tys
  have hC : OrcOK prog (orc (law10_at_tab (law10_at_K d))) := orc_ok (by
    intro S hS
    simp only [law10_at_tab, List.mem_cons, List.not_mem_nil, or_false] at hS
    all_goals first | cases hS | exact hS.elim)
  refine cok_of (c := bodyOf f48) (fn := f48) hT (by kernel_rfl) (by kernel_rfl) (by decide) fun x r h w0 φ0 Q hend => ?_
  replace h : F_law10_at d x = some r := h
  unfold F_law10_at at h
  show Run prog w0 φ0 5 (bodyOf f48) ⟨[(0, .int .i64 x.1.1)], []⟩ Q
  refine run_seq ?_
  refine run_reg hm hT hC (law10_at_g0 (law10_at_K d) x.1.1) h ?_
  intro y0 h
  refine cn_then ?_
  refine run_seq ?_
  refine run_reg hm hT hC (law10_at_g1 (law10_at_K d) y0) h ?_
  intro y1 h
  refine cn_then ?_
  refine run_ret ?_
  cases h
  exact (hend _ (by kernel_rfl)).2
abbrev law10_alive_ps : List Pk := []
abbrev law10_alive_X : Type := Unit
abbrev law10_alive_R : Type := Bool
def law10_alive_enc (r : law10_alive_R) : LV × List Ob := (.bool r, [])
def law10_alive_sp (F : law10_alive_X → Option law10_alive_R) : Go.Tx.Spec := ⟨46, law10_alive_ps, law10_alive_R, F, law10_alive_enc⟩
abbrev law10_alive_C : Type := (bracket_Set_X → Option bracket_Set_R) × (ref03_SameIDs_X → Option ref03_SameIDs_R) × (bracket_Build_X → Option bracket_Build_R) × (bracket_Winner_X → Option bracket_Winner_R) × (bracket_Path_X → Option bracket_Path_R) × (law10_given_X → Option law10_given_R) × (law10_at_X → Option law10_at_R) × Unit
def law10_alive_K (d : Nat) : law10_alive_C := (F_bracket_Set d, F_ref03_SameIDs d, F_bracket_Build d, F_bracket_Winner d, F_bracket_Path d, F_law10_given d, F_law10_at d, ())
def law10_alive_tab (C : law10_alive_C) : List Go.Tx.Spec := [bracket_Set_sp C.1, ref03_SameIDs_sp C.2.1, bracket_Build_sp C.2.2.1, bracket_Winner_sp C.2.2.2.1, bracket_Path_sp C.2.2.2.2.1, law10_given_sp C.2.2.2.2.2.1, law10_at_sp C.2.2.2.2.2.2.1]
abbrev law10_alive_Y0i : Type := Unit
def law10_alive_S0i (v : law10_alive_Y0i) : St := ⟨[], []⟩
def law10_alive_r0 (C : law10_alive_C) (v : law10_alive_Y0i) : Dt law10_alive_Y0i := (Dt.ret ())
theorem law10_alive_g0 (C : law10_alive_C) (v : law10_alive_Y0i) : treg tysT (orc (law10_alive_tab C)) 75 (regO (bodyOf f46) 0) false [] (law10_alive_S0i v) some = (law10_alive_r0 C v).eval fun y => some (law10_alive_S0i y) := by kernel_rfl
abbrev law10_alive_Y1 : Type := Int × List Di × List Di
def law10_alive_S1 (v : law10_alive_Y1) : St := ⟨[(1, .ptr 0 0), (2, .int .i64 v.1)], [.cells [.rs 1, .rs 2], .rows Ri v.2.1, .rows Ri v.2.2]⟩
def law10_alive_r1 (C : law10_alive_C) (v : law10_alive_Y0i) : Dt law10_alive_Y1 := (Dt.bnd (C.2.2.2.2.2.1 (())) fun r1 => (Dt.bnd (C.2.2.2.2.2.2.1 (((0:Int), ()), ())) fun r2 => (Dt.bnd (C.2.2.1 ((r1, ()), (r2.1, r2.2, ()), (([((1:Int), ()), ((2:Int), ()), ((-1:Int), ()), ((5:Int), ())] : List Di), ()), ())) fun r3 => (Dt.ret (r3.2.2, r3.1, r3.2.1)))))
theorem law10_alive_g1 (C : law10_alive_C) (v : law10_alive_Y0i) : treg tysT (orc (law10_alive_tab C)) 75 (regO (bodyOf f46) 1) false [(1, (.box [.own Ri, .own Ri])), (2, .any)] (law10_alive_S0i v) some = (law10_alive_r1 C v).eval fun y => some (law10_alive_S1 y) := by kernel_rfl
abbrev law10_alive_Y2 : Type := Int × Int × Int × List Di × List Di
def law10_alive_S2 (v : law10_alive_Y2) : St := ⟨[(1, .ptr 0 0), (2, .int .i64 v.1), (3, .int .i64 v.2.1), (4, .int .i64 v.2.2.1)], [.cells [.rs 1, .rs 2], .rows Ri v.2.2.2.1, .rows Ri v.2.2.2.2]⟩
def law10_alive_r2 (C : law10_alive_C) (v : law10_alive_Y1) : Dt law10_alive_Y2 := (Dt.bnd (C.2.2.2.1 ((v.2.1, v.2.2, ()), ())) fun r1 => (Dt.ret (v.1, r1.1, r1.2, v.2.1, v.2.2)))
theorem law10_alive_g2 (C : law10_alive_C) (v : law10_alive_Y1) : treg tysT (orc (law10_alive_tab C)) 75 (regO (bodyOf f46) 2) false [(1, (.box [.own Ri, .own Ri])), (2, .any), (3, .any), (4, .any)] (law10_alive_S1 v) some = (law10_alive_r2 C v).eval fun y => some (law10_alive_S2 y) := by kernel_rfl
abbrev law10_alive_Y3 : Type := Int × Int × Int × Int × List Di × List Di × List Di × List Di × List Di
def law10_alive_S3 (v : law10_alive_Y3) : St := ⟨[(1, .ptr 0 0), (2, .int .i64 v.1), (3, .int .i64 v.2.1), (4, .int .i64 v.2.2.1), (5, .ptr 3 0), (6, .rs 6), (7, .int .i64 v.2.2.2.1)], [.cells [.rs 1, .rs 2], .rows Ri v.2.2.2.2.1, .rows Ri v.2.2.2.2.2.1, .cells [.rs 4, .rs 5], .rows Ri v.2.2.2.2.2.2.1, .rows Ri v.2.2.2.2.2.2.2.1, .rows Ri v.2.2.2.2.2.2.2.2]⟩
def law10_alive_r3 (C : law10_alive_C) (v : law10_alive_Y2) : Dt law10_alive_Y3 := (Dt.bnd (C.2.2.2.2.2.1 (())) fun r1 => (Dt.bnd (C.2.2.2.2.2.2.1 (((0:Int), ()), ())) fun r2 => (Dt.bnd (C.1 ((v.2.2.2.1, v.2.2.2.2, ()), (r1, ()), (r2.1, r2.2, ()), ((1:Int), ()), ((-1:Int), ()), ())) fun r3 => (Dt.ret (v.1, v.2.1, v.2.2.1, r3.2.2.2, v.2.2.2.1, v.2.2.2.2, r3.1, r3.2.1, r3.2.2.1)))))
theorem law10_alive_g3 (C : law10_alive_C) (v : law10_alive_Y2) : treg tysT (orc (law10_alive_tab C)) 75 (regO (bodyOf f46) 3) true [(1, (.box [.own Ri, .own Ri])), (2, .any), (3, .any), (4, .any), (5, (.box [.own Ri, .own Ri])), (6, (.own Ri)), (7, .any)] (law10_alive_S2 v) some = (law10_alive_r3 C v).eval fun y => some (law10_alive_S3 y) := by kernel_rfl
abbrev law10_alive_Y4 : Type := Int × Int × Int × Int × Int × List Di × List Di × List Di × List Di × List Di × List Di
def law10_alive_S4 (v : law10_alive_Y4) : St := ⟨[(1, .ptr 0 0), (2, .int .i64 v.1), (3, .int .i64 v.2.1), (4, .int .i64 v.2.2.1), (5, .ptr 3 0), (6, .rs 6), (7, .int .i64 v.2.2.2.1), (8, .rs 7), (9, .int .i64 v.2.2.2.2.1)], [.cells [.rs 1, .rs 2], .rows Ri v.2.2.2.2.2.1, .rows Ri v.2.2.2.2.2.2.1, .cells [.rs 4, .rs 5], .rows Ri v.2.2.2.2.2.2.2.1, .rows Ri v.2.2.2.2.2.2.2.2.1, .rows Ri v.2.2.2.2.2.2.2.2.2.1, .rows Ri v.2.2.2.2.2.2.2.2.2.2]⟩
def law10_alive_r4 (C : law10_alive_C) (v : law10_alive_Y3) : Dt law10_alive_Y4 := (Dt.bnd (C.2.2.2.2.1 ((v.2.2.2.2.1, v.2.2.2.2.2.1, ()), ((3:Int), ()), ())) fun r1 => (Dt.ret (v.1, v.2.1, v.2.2.1, v.2.2.2.1, r1.2, v.2.2.2.2.1, v.2.2.2.2.2.1, v.2.2.2.2.2.2.1, v.2.2.2.2.2.2.2.1, v.2.2.2.2.2.2.2.2, r1.1)))
theorem law10_alive_g4 (C : law10_alive_C) (v : law10_alive_Y3) : treg tysT (orc (law10_alive_tab C)) 75 (regO (bodyOf f46) 4) false [(1, (.box [.own Ri, .own Ri])), (2, .any), (3, .any), (4, .any), (5, (.box [.own Ri, .own Ri])), (6, (.own Ri)), (7, .any), (8, (.own Ri)), (9, .any)] (law10_alive_S3 v) some = (law10_alive_r4 C v).eval fun y => some (law10_alive_S4 y) := by kernel_rfl
abbrev law10_alive_Y5 : Type := Bool
def law10_alive_S5 (v : law10_alive_Y5) : St := ⟨[(0, .bool v)], []⟩
def law10_alive_r5 (C : law10_alive_C) (v : law10_alive_Y4) : Dt law10_alive_Y5 := (Dt.ite (v.1 == (0:Int)) (Dt.bnd (C.2.1 ((v.2.2.2.2.2.2.1, ()), (([((2:Int), ()), ((2:Int), ()), ((5:Int), ())] : List Di), ()), ())) fun r1 => (Dt.ite r1 (Dt.ite (v.2.2.1 == (0:Int)) (Dt.ite (v.2.1 == (2:Int)) (Dt.ite (v.2.2.2.1 == (0:Int)) (Dt.bnd (C.2.1 ((v.2.2.2.2.2.2.2.2.1, ()), (([((1:Int), ()), ((1:Int), ()), ((5:Int), ())] : List Di), ()), ())) fun r2 => (Dt.ite r2 (Dt.bnd (C.2.1 ((v.2.2.2.2.2.2.2.2.2.1, ()), (([((1:Int), ()), ((0:Int), ())] : List Di), ()), ())) fun r3 => (Dt.ite r3 (Dt.ite (v.2.2.2.2.1 == (0:Int)) (Dt.bnd (C.2.1 ((v.2.2.2.2.2.2.2.2.2.2, ()), (([((2:Int), ()), ((0:Int), ())] : List Di), ()), ())) fun r4 => (Dt.ret r4)) (Dt.ret false)) (Dt.ret false))) (Dt.ret false))) (Dt.ret false)) (Dt.ret false)) (Dt.ret false)) (Dt.ret false))) (Dt.ret false))
theorem law10_alive_g5 (C : law10_alive_C) (v : law10_alive_Y4) : treg tysT (orc (law10_alive_tab C)) 75 (regO (bodyOf f46) 5) false [(0, .any)] (law10_alive_S4 v) some = (law10_alive_r5 C v).eval fun y => some (law10_alive_S5 y) := by kernel_rfl
def F_law10_alive (d : Nat) (x : law10_alive_X) : Option law10_alive_R :=
  (law10_alive_r0 (law10_alive_K d) ()).eval fun y0 =>
  (law10_alive_r1 (law10_alive_K d) ()).eval fun y1 =>
  (law10_alive_r2 (law10_alive_K d) y1).eval fun y2 =>
  (law10_alive_r3 (law10_alive_K d) y2).eval fun y3 =>
  (law10_alive_r4 (law10_alive_K d) y3).eval fun y4 =>
  (law10_alive_r5 (law10_alive_K d) y4).eval fun y5 =>
  some y5
theorem law10_alive_cok (d : Nat) : COK prog (law10_alive_sp (F_law10_alive d)) := by
  have hm : prog.follows .mixedOrders = true := mixed
  have hT := tys
  have hC : OrcOK prog (orc (law10_alive_tab (law10_alive_K d))) := orc_ok (by
    intro S hS
    simp only [law10_alive_tab, List.mem_cons, List.not_mem_nil, or_false] at hS
    rcases hS with rfl | rfl | rfl | rfl | rfl | rfl | rfl
    · exact bracket_Set_cok d
    · exact ref03_SameIDs_cok d
    · exact bracket_Build_cok d
    · exact bracket_Winner_cok d
    · exact bracket_Path_cok d
    · exact law10_given_cok d
    · exact law10_at_cok d)
  refine cok_of (c := bodyOf f46) (fn := f46) hT (by kernel_rfl) (by kernel_rfl) (by decide) fun x r h w0 φ0 Q hend => ?_
  replace h : F_law10_alive d x = some r := h
  unfold F_law10_alive at h
  show Run prog w0 φ0 75 (bodyOf f46) ⟨[], []⟩ Q
  refine run_seq ?_
  refine run_reg hm hT hC (law10_alive_g0 (law10_alive_K d) ()) h ?_
  intro y0 h
  refine cn_then ?_
  refine run_seq ?_
  refine run_reg hm hT hC (law10_alive_g1 (law10_alive_K d) ()) h ?_
  intro y1 h
  refine cn_then ?_
  refine run_seq ?_
  refine run_reg hm hT hC (law10_alive_g2 (law10_alive_K d) y1) h ?_
  intro y2 h
  refine cn_then ?_
  refine run_seq ?_
  refine run_reg hm hT hC (law10_alive_g3 (law10_alive_K d) y2) h ?_
  intro y3 h
  refine cn_then ?_
  refine run_seq ?_
  refine run_reg hm hT hC (law10_alive_g4 (law10_alive_K d) y3) h ?_
  intro y4 h
  refine cn_then ?_
  refine run_seq ?_
  refine run_reg hm hT hC (law10_alive_g5 (law10_alive_K d) y4) h ?_
  intro y5 h
  refine cn_then ?_
  refine run_ret ?_
  cases h
  exact (hend _ (by kernel_rfl)).2
end Go.Proofs.Ytkcpnclgcmnlcaa

namespace Go.Proofs.Ytkcpnclgcmnlcaa
open Go Go.Tx Go.Proofs.Try
set_option maxRecDepth 100000
set_option maxHeartbeats 0
abbrev law10_BracketSteps_ps : List Pk := [.row RLiiiE true, .row Rii true, .row RLiE false, .row Ri false]
abbrev law10_BracketSteps_X : Type := DLiiiE × Dii × DLiE × Di × Unit
abbrev law10_BracketSteps_R : Type := Bool
def law10_BracketSteps_enc (r : law10_BracketSteps_R) : LV × List Ob := (.bool r, [])
def law10_BracketSteps_sp (F : law10_BracketSteps_X → Option law10_BracketSteps_R) : Go.Tx.Spec := ⟨6, law10_BracketSteps_ps, law10_BracketSteps_R, F, law10_BracketSteps_enc⟩
abbrev law10_BracketSteps_C : Type := (ref03_Great_X → Option ref03_Great_R) × (bracket_Set_X → Option bracket_Set_R) × (ref10_Same_X → Option ref10_Same_R) × (bracket_Build_X → Option bracket_Build_R) × (ref03_Timed_X → Option ref03_Timed_R) × (law10_alive_X → Option law10_alive_R) × Unit
def law10_BracketSteps_K (d : Nat) : law10_BracketSteps_C := (F_ref03_Great d, F_bracket_Set d, F_ref10_Same d, F_bracket_Build d, F_ref03_Timed d, F_law10_alive d, ())
def law10_BracketSteps_tab (C : law10_BracketSteps_C) : List Go.Tx.Spec := [ref03_Great_sp C.1, bracket_Set_sp C.2.1, ref10_Same_sp C.2.2.1, bracket_Build_sp C.2.2.2.1, ref03_Timed_sp C.2.2.2.2.1, law10_alive_sp C.2.2.2.2.2.1]
abbrev law10_BracketSteps_Y0i : Type := List Diii × Int × Int × List Di × Int
def law10_BracketSteps_S0i (v : law10_BracketSteps_Y0i) : St := ⟨[(0, .agg [.fz Riii v.1]), (1, .agg [.int .i64 v.2.1, .int .i64 v.2.2.1]), (2, .fz Ri v.2.2.2.1), (3, .int .i64 v.2.2.2.2)], []⟩
abbrev law10_BracketSteps_Y0 : Type := List Di × Int × List Diii × Int × Int
def law10_BracketSteps_S0 (v : law10_BracketSteps_Y0) : St := ⟨[(2, .fz Ri v.1), (3, .int .i64 v.2.1), (4, .ptr 0 0), (5, .ptr 1 0)], [.cells [.fz Riii v.2.2.1], .cells [.int .i64 v.2.2.2.1, .int .i64 v.2.2.2.2]]⟩
def law10_BracketSteps_r0 (C : law10_BracketSteps_C) (v : law10_BracketSteps_Y0i) : Dt law10_BracketSteps_Y0 := (Dt.ret (v.2.2.2.1, v.2.2.2.2, v.1, v.2.1, v.2.2.1))
theorem law10_BracketSteps_g0 (C : law10_BracketSteps_C) (v : law10_BracketSteps_Y0i) : treg tysT (orc (law10_BracketSteps_tab C)) 109 (regO (bodyOf f6) 0) false [(2, (.val Ri)), (3, .any), (4, (.box [.val Riii])), (5, .any)] (law10_BracketSteps_S0i v) some = (law10_BracketSteps_r0 C v).eval fun y => some (law10_BracketSteps_S0 y) := by kernel_rfl
abbrev law10_BracketSteps_Y1 : Type := List Di × Int × Bool × List Diii × Int × Int
def law10_BracketSteps_S1 (v : law10_BracketSteps_Y1) : St := ⟨[(2, .fz Ri v.1), (3, .int .i64 v.2.1), (4, .ptr 0 0), (5, .ptr 1 0), (42, .bool v.2.2.1)], [.cells [.fz Riii v.2.2.2.1], .cells [.int .i64 v.2.2.2.2.1, .int .i64 v.2.2.2.2.2]]⟩
def law10_BracketSteps_r1 (C : law10_BracketSteps_C) (v : law10_BracketSteps_Y0) : Dt law10_BracketSteps_Y1 := (Dt.bnd (C.1 ((v.2.2.1, ()), ())) fun r1 => (Dt.ite r1 (Dt.ret (v.1, v.2.1, true, v.2.2.1, v.2.2.2.1, v.2.2.2.2)) (Dt.bnd (C.2.2.2.2.1 ((v.2.2.1, ()), (v.2.2.2.1, v.2.2.2.2, ()), ())) fun r2 => (Dt.ite (r2 != (0:Int)) (Dt.ret (v.1, v.2.1, true, v.2.2.1, v.2.2.2.1, v.2.2.2.2)) (Dt.ite (decide ((List.length v.1 : Int) > (16:Int))) (Dt.ret (v.1, v.2.1, true, v.2.2.1, v.2.2.2.1, v.2.2.2.2)) (Dt.ite (decide (v.2.1 < (0:Int))) (Dt.ret (v.1, v.2.1, true, v.2.2.1, v.2.2.2.1, v.2.2.2.2)) (Dt.ret (v.1, v.2.1, (decide (v.2.1 ≥ (List.length v.1 : Int))), v.2.2.1, v.2.2.2.1, v.2.2.2.2))))))))
theorem law10_BracketSteps_g1 (C : law10_BracketSteps_C) (v : law10_BracketSteps_Y0) : treg tysT (orc (law10_BracketSteps_tab C)) 109 (regO (bodyOf f6) 1) false [(2, (.val Ri)), (3, .any), (4, (.box [.val Riii])), (5, .any), (42, .any)] (law10_BracketSteps_S0 v) some = (law10_BracketSteps_r1 C v).eval fun y => some (law10_BracketSteps_S1 y) := by kernel_rfl
abbrev law10_BracketSteps_Y2 : Type := Bool
def law10_BracketSteps_S2 (v : law10_BracketSteps_Y2) : St := ⟨[(8, .bool v)], []⟩
def law10_BracketSteps_r2 (C : law10_BracketSteps_C) (v : law10_BracketSteps_Y1) : Dt law10_BracketSteps_Y2 := (Dt.bnd (C.2.2.2.2.2.1 (())) fun r1 => (Dt.ret r1))
theorem law10_BracketSteps_g2 (C : law10_BracketSteps_C) (v : law10_BracketSteps_Y1) : treg tysT (orc (law10_BracketSteps_tab C)) 109 (regO (bodyOf f6) 2) false [(8, .any)] (law10_BracketSteps_S1 v) some = (law10_BracketSteps_r2 C v).eval fun y => some (law10_BracketSteps_S2 y) := by kernel_rfl
abbrev law10_BracketSteps_Y3 : Type := List Di × Int × Int × List Diii × Int × Int × List Di × List Di
def law10_BracketSteps_S3 (v : law10_BracketSteps_Y3) : St := ⟨[(2, .fz Ri v.1), (3, .int .i64 v.2.1), (4, .ptr 0 0), (5, .ptr 1 0), (9, .ptr 2 0), (10, .int .i64 v.2.2.1)], [.cells [.fz Riii v.2.2.2.1], .cells [.int .i64 v.2.2.2.2.1, .int .i64 v.2.2.2.2.2.1], .cells [.rs 3, .rs 4], .rows Ri v.2.2.2.2.2.2.1, .rows Ri v.2.2.2.2.2.2.2]⟩
def law10_BracketSteps_r3 (C : law10_BracketSteps_C) (v : law10_BracketSteps_Y1) : Dt law10_BracketSteps_Y3 := (Dt.bnd (C.2.2.2.1 ((v.2.2.2.1, ()), (v.2.2.2.2.1, v.2.2.2.2.2, ()), (v.1, ()), ())) fun r1 => (Dt.ret (v.1, v.2.1, r1.2.2, v.2.2.2.1, v.2.2.2.2.1, v.2.2.2.2.2, r1.1, r1.2.1)))
theorem law10_BracketSteps_g3 (C : law10_BracketSteps_C) (v : law10_BracketSteps_Y1) : treg tysT (orc (law10_BracketSteps_tab C)) 109 (regO (bodyOf f6) 3) false [(2, (.val Ri)), (3, .any), (4, (.box [.val Riii])), (5, .any), (9, (.box [.own Ri, .own Ri])), (10, .any)] (law10_BracketSteps_S1 v) some = (law10_BracketSteps_r3 C v).eval fun y => some (law10_BracketSteps_S3 y) := by kernel_rfl
abbrev law10_BracketSteps_Y4 : Type := List Di × Int × Bool × List Diii × Int × Int × List Di × List Di
def law10_BracketSteps_S4 (v : law10_BracketSteps_Y4) : St := ⟨[(2, .fz Ri v.1), (3, .int .i64 v.2.1), (4, .ptr 0 0), (5, .ptr 1 0), (9, .ptr 2 0), (52, .bool v.2.2.1)], [.cells [.fz Riii v.2.2.2.1], .cells [.int .i64 v.2.2.2.2.1, .int .i64 v.2.2.2.2.2.1], .cells [.rs 3, .rs 4], .rows Ri v.2.2.2.2.2.2.1, .rows Ri v.2.2.2.2.2.2.2]⟩
def law10_BracketSteps_r4 (C : law10_BracketSteps_C) (v : law10_BracketSteps_Y3) : Dt law10_BracketSteps_Y4 := (Dt.ret (v.1, v.2.1, (v.2.2.1 != (0:Int)), v.2.2.2.1, v.2.2.2.2.1, v.2.2.2.2.2.1, v.2.2.2.2.2.2.1, v.2.2.2.2.2.2.2))
theorem law10_BracketSteps_g4 (C : law10_BracketSteps_C) (v : law10_BracketSteps_Y3) : treg tysT (orc (law10_BracketSteps_tab C)) 109 (regO (bodyOf f6) 4) false [(2, (.val Ri)), (3, .any), (4, (.box [.val Riii])), (5, .any), (9, (.box [.own Ri, .own Ri])), (52, .any)] (law10_BracketSteps_S3 v) some = (law10_BracketSteps_r4 C v).eval fun y => some (law10_BracketSteps_S4 y) := by kernel_rfl
def law10_BracketSteps_r5 (C : law10_BracketSteps_C) (v : law10_BracketSteps_Y4) : Dt law10_BracketSteps_Y2 := (Dt.bnd (C.2.2.2.2.2.1 (())) fun r1 => (Dt.ret r1))
theorem law10_BracketSteps_g5 (C : law10_BracketSteps_C) (v : law10_BracketSteps_Y4) : treg tysT (orc (law10_BracketSteps_tab C)) 109 (regO (bodyOf f6) 5) false [(8, .any)] (law10_BracketSteps_S4 v) some = (law10_BracketSteps_r5 C v).eval fun y => some (law10_BracketSteps_S2 y) := by kernel_rfl
abbrev law10_BracketSteps_Y6 : Type := List Di × Int × List Diii × Int × Int × List Di × List Di × List Di
def law10_BracketSteps_S6 (v : law10_BracketSteps_Y6) : St := ⟨[(2, .fz Ri v.1), (3, .int .i64 v.2.1), (4, .ptr 0 0), (5, .ptr 1 0), (9, .ptr 2 0), (11, .rs 5)], [.cells [.fz Riii v.2.2.1], .cells [.int .i64 v.2.2.2.1, .int .i64 v.2.2.2.2.1], .cells [.rs 3, .rs 4], .rows Ri v.2.2.2.2.2.1, .rows Ri v.2.2.2.2.2.2.1, .rows Ri v.2.2.2.2.2.2.2]⟩
def law10_BracketSteps_r6 (C : law10_BracketSteps_C) (v : law10_BracketSteps_Y4) : Dt law10_BracketSteps_Y6 := (Dt.ite (mkB (List.length v.1 : Int) (List.length v.1 : Int)) (Dt.ret (v.1, v.2.1, v.2.2.2.1, v.2.2.2.2.1, v.2.2.2.2.2.1, v.2.2.2.2.2.2.1, v.2.2.2.2.2.2.2, (List.replicate ((List.length v.1 : Int)).toNat zi))) Dt.fail)
theorem law10_BracketSteps_g6 (C : law10_BracketSteps_C) (v : law10_BracketSteps_Y4) : treg tysT (orc (law10_BracketSteps_tab C)) 109 (regO (bodyOf f6) 6) false [(2, (.val Ri)), (3, .any), (4, (.box [.val Riii])), (5, .any), (9, (.box [.own Ri, .own Ri])), (11, (.own Ri))] (law10_BracketSteps_S4 v) some = (law10_BracketSteps_r6 C v).eval fun y => some (law10_BracketSteps_S6 y) := by kernel_rfl
abbrev law10_BracketSteps_Y7 : Type := List Di × Int × Int × List Diii × Int × Int × List Di × List Di × List Di
def law10_BracketSteps_S7 (v : law10_BracketSteps_Y7) : St := ⟨[(2, .fz Ri v.1), (3, .int .i64 v.2.1), (4, .ptr 0 0), (5, .ptr 1 0), (9, .ptr 2 0), (11, .rs 5), (12, .int .i64 v.2.2.1)], [.cells [.fz Riii v.2.2.2.1], .cells [.int .i64 v.2.2.2.2.1, .int .i64 v.2.2.2.2.2.1], .cells [.rs 3, .rs 4], .rows Ri v.2.2.2.2.2.2.1, .rows Ri v.2.2.2.2.2.2.2.1, .rows Ri v.2.2.2.2.2.2.2.2]⟩
def law10_BracketSteps_r7 (C : law10_BracketSteps_C) (v : law10_BracketSteps_Y6) : Dt law10_BracketSteps_Y7 := (Dt.ret (v.1, v.2.1, (0:Int), v.2.2.1, v.2.2.2.1, v.2.2.2.2.1, v.2.2.2.2.2.1, v.2.2.2.2.2.2.1, v.2.2.2.2.2.2.2))
theorem law10_BracketSteps_g7 (C : law10_BracketSteps_C) (v : law10_BracketSteps_Y6) : treg tysT (orc (law10_BracketSteps_tab C)) 109 (regO (bodyOf f6) 7) false [(2, (.val Ri)), (3, .any), (4, (.box [.val Riii])), (5, .any), (9, (.box [.own Ri, .own Ri])), (11, (.own Ri)), (12, .any)] (law10_BracketSteps_S6 v) some = (law10_BracketSteps_r7 C v).eval fun y => some (law10_BracketSteps_S7 y) := by kernel_rfl
abbrev law10_BracketSteps_Y8 : Type := List Di × Int × Int × Bool × List Diii × Int × Int × List Di × List Di × List Di
def law10_BracketSteps_S8 (v : law10_BracketSteps_Y8) : St := ⟨[(2, .fz Ri v.1), (3, .int .i64 v.2.1), (4, .ptr 0 0), (5, .ptr 1 0), (9, .ptr 2 0), (11, .rs 5), (12, .int .i64 v.2.2.1), (60, .bool v.2.2.2.1)], [.cells [.fz Riii v.2.2.2.2.1], .cells [.int .i64 v.2.2.2.2.2.1, .int .i64 v.2.2.2.2.2.2.1], .cells [.rs 3, .rs 4], .rows Ri v.2.2.2.2.2.2.2.1, .rows Ri v.2.2.2.2.2.2.2.2.1, .rows Ri v.2.2.2.2.2.2.2.2.2]⟩
def law10_BracketSteps_r8 (C : law10_BracketSteps_C) (v : law10_BracketSteps_Y7) : Dt law10_BracketSteps_Y8 := (Dt.ret (v.1, v.2.1, v.2.2.1, (decide (v.2.2.1 < (List.length v.1 : Int))), v.2.2.2.1, v.2.2.2.2.1, v.2.2.2.2.2.1, v.2.2.2.2.2.2.1, v.2.2.2.2.2.2.2.1, v.2.2.2.2.2.2.2.2))
theorem law10_BracketSteps_g8 (C : law10_BracketSteps_C) (v : law10_BracketSteps_Y7) : treg tysT (orc (law10_BracketSteps_tab C)) 109 (regO (bodyOf f6) 8) false [(2, (.val Ri)), (3, .any), (4, (.box [.val Riii])), (5, .any), (9, (.box [.own Ri, .own Ri])), (11, (.own Ri)), (12, .any), (60, .any)] (law10_BracketSteps_S7 v) some = (law10_BracketSteps_r8 C v).eval fun y => some (law10_BracketSteps_S8 y) := by kernel_rfl
def law10_BracketSteps_r10 (C : law10_BracketSteps_C) (v : law10_BracketSteps_Y8) : Dt law10_BracketSteps_Y7 := (Dt.ite (inB v.2.2.1 (List.length v.2.2.2.2.2.2.2.2.2)) (Dt.ret (v.1, v.2.1, v.2.2.1, v.2.2.2.2.1, v.2.2.2.2.2.1, v.2.2.2.2.2.2.1, v.2.2.2.2.2.2.2.1, v.2.2.2.2.2.2.2.2.1, (List.set v.2.2.2.2.2.2.2.2.2 (v.2.2.1).toNat ((-1:Int), ())))) Dt.fail)
theorem law10_BracketSteps_g10 (C : law10_BracketSteps_C) (v : law10_BracketSteps_Y8) : treg tysT (orc (law10_BracketSteps_tab C)) 109 (regO (bodyOf f6) 10) false [(2, (.val Ri)), (3, .any), (4, (.box [.val Riii])), (5, .any), (9, (.box [.own Ri, .own Ri])), (11, (.own Ri)), (12, .any)] (law10_BracketSteps_S8 v) some = (law10_BracketSteps_r10 C v).eval fun y => some (law10_BracketSteps_S7 y) := by kernel_rfl
def law10_BracketSteps_r9 (C : law10_BracketSteps_C) (v : law10_BracketSteps_Y7) : Dt law10_BracketSteps_Y7 := (Dt.ret (v.1, v.2.1, (IntKind.wrap .i64 (v.2.2.1 + (1:Int))), v.2.2.2.1, v.2.2.2.2.1, v.2.2.2.2.2.1, v.2.2.2.2.2.2.1, v.2.2.2.2.2.2.2.1, v.2.2.2.2.2.2.2.2))
theorem law10_BracketSteps_g9 (C : law10_BracketSteps_C) (v : law10_BracketSteps_Y7) : treg tysT (orc (law10_BracketSteps_tab C)) 109 (regO (bodyOf f6) 9) false [(2, (.val Ri)), (3, .any), (4, (.box [.val Riii])), (5, .any), (9, (.box [.own Ri, .own Ri])), (11, (.own Ri)), (12, .any)] (law10_BracketSteps_S7 v) some = (law10_BracketSteps_r9 C v).eval fun y => some (law10_BracketSteps_S7 y) := by kernel_rfl
abbrev law10_BracketSteps_Y11 : Type := List Di × Int × Int × List Diii × Int × Int × List Di × List Di × List Di × List Di
def law10_BracketSteps_S11 (v : law10_BracketSteps_Y11) : St := ⟨[(2, .fz Ri v.1), (3, .int .i64 v.2.1), (4, .ptr 0 0), (5, .ptr 1 0), (9, .ptr 2 0), (13, .ptr 5 0), (14, .int .i64 v.2.2.1)], [.cells [.fz Riii v.2.2.2.1], .cells [.int .i64 v.2.2.2.2.1, .int .i64 v.2.2.2.2.2.1], .cells [.rs 3, .rs 4], .rows Ri v.2.2.2.2.2.2.1, .rows Ri v.2.2.2.2.2.2.2.1, .cells [.rs 6, .rs 7], .rows Ri v.2.2.2.2.2.2.2.2.1, .rows Ri v.2.2.2.2.2.2.2.2.2]⟩
def law10_BracketSteps_r11 (C : law10_BracketSteps_C) (v : law10_BracketSteps_Y8) : Dt law10_BracketSteps_Y11 := (Dt.bnd (C.2.2.2.1 ((v.2.2.2.2.1, ()), (v.2.2.2.2.2.1, v.2.2.2.2.2.2.1, ()), (v.2.2.2.2.2.2.2.2.2, ()), ())) fun r1 => (Dt.ret (v.1, v.2.1, r1.2.2, v.2.2.2.2.1, v.2.2.2.2.2.1, v.2.2.2.2.2.2.1, v.2.2.2.2.2.2.2.1, v.2.2.2.2.2.2.2.2.1, r1.1, r1.2.1)))
theorem law10_BracketSteps_g11 (C : law10_BracketSteps_C) (v : law10_BracketSteps_Y8) : treg tysT (orc (law10_BracketSteps_tab C)) 109 (regO (bodyOf f6) 11) false [(2, (.val Ri)), (3, .any), (4, (.box [.val Riii])), (5, .any), (9, (.box [.own Ri, .own Ri])), (13, (.box [.own Ri, .own Ri])), (14, .any)] (law10_BracketSteps_S8 v) some = (law10_BracketSteps_r11 C v).eval fun y => some (law10_BracketSteps_S11 y) := by kernel_rfl
abbrev law10_BracketSteps_Y12 : Type := List Di × Int × Bool × List Diii × Int × Int × List Di × List Di × List Di × List Di
def law10_BracketSteps_S12 (v : law10_BracketSteps_Y12) : St := ⟨[(2, .fz Ri v.1), (3, .int .i64 v.2.1), (4, .ptr 0 0), (5, .ptr 1 0), (9, .ptr 2 0), (13, .ptr 5 0), (74, .bool v.2.2.1)], [.cells [.fz Riii v.2.2.2.1], .cells [.int .i64 v.2.2.2.2.1, .int .i64 v.2.2.2.2.2.1], .cells [.rs 3, .rs 4], .rows Ri v.2.2.2.2.2.2.1, .rows Ri v.2.2.2.2.2.2.2.1, .cells [.rs 6, .rs 7], .rows Ri v.2.2.2.2.2.2.2.2.1, .rows Ri v.2.2.2.2.2.2.2.2.2]⟩
def law10_BracketSteps_r12 (C : law10_BracketSteps_C) (v : law10_BracketSteps_Y11) : Dt law10_BracketSteps_Y12 := (Dt.ret (v.1, v.2.1, (v.2.2.1 != (0:Int)), v.2.2.2.1, v.2.2.2.2.1, v.2.2.2.2.2.1, v.2.2.2.2.2.2.1, v.2.2.2.2.2.2.2.1, v.2.2.2.2.2.2.2.2.1, v.2.2.2.2.2.2.2.2.2))
theorem law10_BracketSteps_g12 (C : law10_BracketSteps_C) (v : law10_BracketSteps_Y11) : treg tysT (orc (law10_BracketSteps_tab C)) 109 (regO (bodyOf f6) 12) false [(2, (.val Ri)), (3, .any), (4, (.box [.val Riii])), (5, .any), (9, (.box [.own Ri, .own Ri])), (13, (.box [.own Ri, .own Ri])), (74, .any)] (law10_BracketSteps_S11 v) some = (law10_BracketSteps_r12 C v).eval fun y => some (law10_BracketSteps_S12 y) := by kernel_rfl
def law10_BracketSteps_r13 (C : law10_BracketSteps_C) (v : law10_BracketSteps_Y12) : Dt law10_BracketSteps_Y2 := (Dt.ret false)
theorem law10_BracketSteps_g13 (C : law10_BracketSteps_C) (v : law10_BracketSteps_Y12) : treg tysT (orc (law10_BracketSteps_tab C)) 109 (regO (bodyOf f6) 13) false [(8, .any)] (law10_BracketSteps_S12 v) some = (law10_BracketSteps_r13 C v).eval fun y => some (law10_BracketSteps_S2 y) := by kernel_rfl
abbrev law10_BracketSteps_Y14 : Type := List Di × Int × Int × List Diii × Int × Int × List Di × List Di × List Di × List Di
def law10_BracketSteps_S14 (v : law10_BracketSteps_Y14) : St := ⟨[(2, .fz Ri v.1), (3, .int .i64 v.2.1), (4, .ptr 0 0), (5, .ptr 1 0), (9, .ptr 2 0), (13, .ptr 5 0), (15, .int .i64 v.2.2.1)], [.cells [.fz Riii v.2.2.2.1], .cells [.int .i64 v.2.2.2.2.1, .int .i64 v.2.2.2.2.2.1], .cells [.rs 3, .rs 4], .rows Ri v.2.2.2.2.2.2.1, .rows Ri v.2.2.2.2.2.2.2.1, .cells [.rs 6, .rs 7], .rows Ri v.2.2.2.2.2.2.2.2.1, .rows Ri v.2.2.2.2.2.2.2.2.2]⟩
def law10_BracketSteps_r14 (C : law10_BracketSteps_C) (v : law10_BracketSteps_Y12) : Dt law10_BracketSteps_Y14 := (Dt.ret (v.1, v.2.1, (0:Int), v.2.2.2.1, v.2.2.2.2.1, v.2.2.2.2.2.1, v.2.2.2.2.2.2.1, v.2.2.2.2.2.2.2.1, v.2.2.2.2.2.2.2.2.1, v.2.2.2.2.2.2.2.2.2))
theorem law10_BracketSteps_g14 (C : law10_BracketSteps_C) (v : law10_BracketSteps_Y12) : treg tysT (orc (law10_BracketSteps_tab C)) 109 (regO (bodyOf f6) 14) false [(2, (.val Ri)), (3, .any), (4, (.box [.val Riii])), (5, .any), (9, (.box [.own Ri, .own Ri])), (13, (.box [.own Ri, .own Ri])), (15, .any)] (law10_BracketSteps_S12 v) some = (law10_BracketSteps_r14 C v).eval fun y => some (law10_BracketSteps_S14 y) := by kernel_rfl
abbrev law10_BracketSteps_Y15 : Type := List Di × Int × Int × Bool × List Diii × Int × Int × List Di × List Di × List Di × List Di
def law10_BracketSteps_S15 (v : law10_BracketSteps_Y15) : St := ⟨[(2, .fz Ri v.1), (3, .int .i64 v.2.1), (4, .ptr 0 0), (5, .ptr 1 0), (9, .ptr 2 0), (13, .ptr 5 0), (15, .int .i64 v.2.2.1), (78, .bool v.2.2.2.1)], [.cells [.fz Riii v.2.2.2.2.1], .cells [.int .i64 v.2.2.2.2.2.1, .int .i64 v.2.2.2.2.2.2.1], .cells [.rs 3, .rs 4], .rows Ri v.2.2.2.2.2.2.2.1, .rows Ri v.2.2.2.2.2.2.2.2.1, .cells [.rs 6, .rs 7], .rows Ri v.2.2.2.2.2.2.2.2.2.1, .rows Ri v.2.2.2.2.2.2.2.2.2.2]⟩
def law10_BracketSteps_r15 (C : law10_BracketSteps_C) (v : law10_BracketSteps_Y14) : Dt law10_BracketSteps_Y15 := (Dt.ret (v.1, v.2.1, v.2.2.1, (decide (v.2.2.1 < (List.length v.1 : Int))), v.2.2.2.1, v.2.2.2.2.1, v.2.2.2.2.2.1, v.2.2.2.2.2.2.1, v.2.2.2.2.2.2.2.1, v.2.2.2.2.2.2.2.2.1, v.2.2.2.2.2.2.2.2.2))
theorem law10_BracketSteps_g15 (C : law10_BracketSteps_C) (v : law10_BracketSteps_Y14) : treg tysT (orc (law10_BracketSteps_tab C)) 109 (regO (bodyOf f6) 15) false [(2, (.val Ri)), (3, .any), (4, (.box [.val Riii])), (5, .any), (9, (.box [.own Ri, .own Ri])), (13, (.box [.own Ri, .own Ri])), (15, .any), (78, .any)] (law10_BracketSteps_S14 v) some = (law10_BracketSteps_r15 C v).eval fun y => some (law10_BracketSteps_S15 y) := by kernel_rfl
abbrev law10_BracketSteps_Y17 : Type := List Di × Int × Int × Int × List Diii × Int × Int × List Di × List Di × List Di × List Di
def law10_BracketSteps_S17 (v : law10_BracketSteps_Y17) : St := ⟨[(2, .fz Ri v.1), (3, .int .i64 v.2.1), (4, .ptr 0 0), (5, .ptr 1 0), (9, .ptr 2 0), (13, .ptr 5 0), (15, .int .i64 v.2.2.1), (16, .int .i64 v.2.2.2.1)], [.cells [.fz Riii v.2.2.2.2.1], .cells [.int .i64 v.2.2.2.2.2.1, .int .i64 v.2.2.2.2.2.2.1], .cells [.rs 3, .rs 4], .rows Ri v.2.2.2.2.2.2.2.1, .rows Ri v.2.2.2.2.2.2.2.2.1, .cells [.rs 6, .rs 7], .rows Ri v.2.2.2.2.2.2.2.2.2.1, .rows Ri v.2.2.2.2.2.2.2.2.2.2]⟩
def law10_BracketSteps_r17 (C : law10_BracketSteps_C) (v : law10_BracketSteps_Y15) : Dt law10_BracketSteps_Y17 := (Dt.ite ((List.length v.1 : Int) == (0:Int)) Dt.fail (Dt.ret (v.1, v.2.1, v.2.2.1, (Int.tmod (IntKind.wrap .i64 (v.2.2.1 + v.2.1)) (List.length v.1 : Int)), v.2.2.2.2.1, v.2.2.2.2.2.1, v.2.2.2.2.2.2.1, v.2.2.2.2.2.2.2.1, v.2.2.2.2.2.2.2.2.1, v.2.2.2.2.2.2.2.2.2.1, v.2.2.2.2.2.2.2.2.2.2)))
theorem law10_BracketSteps_g17 (C : law10_BracketSteps_C) (v : law10_BracketSteps_Y15) : treg tysT (orc (law10_BracketSteps_tab C)) 109 (regO (bodyOf f6) 17) false [(2, (.val Ri)), (3, .any), (4, (.box [.val Riii])), (5, .any), (9, (.box [.own Ri, .own Ri])), (13, (.box [.own Ri, .own Ri])), (15, .any), (16, .any)] (law10_BracketSteps_S15 v) some = (law10_BracketSteps_r17 C v).eval fun y => some (law10_BracketSteps_S17 y) := by kernel_rfl
abbrev law10_BracketSteps_Y18 : Type := List Di × Int × Int × Int × List Diii × Int × Int × List Di × List Di × List Di × List Di × List Di × List Di
def law10_BracketSteps_S18 (v : law10_BracketSteps_Y18) : St := ⟨[(2, .fz Ri v.1), (3, .int .i64 v.2.1), (4, .ptr 0 0), (5, .ptr 1 0), (9, .ptr 2 0), (13, .ptr 5 0), (15, .int .i64 v.2.2.1), (17, .ptr 8 0), (19, .int .i64 v.2.2.2.1)], [.cells [.fz Riii v.2.2.2.2.1], .cells [.int .i64 v.2.2.2.2.2.1, .int .i64 v.2.2.2.2.2.2.1], .cells [.rs 3, .rs 4], .rows Ri v.2.2.2.2.2.2.2.1, .rows Ri v.2.2.2.2.2.2.2.2.1, .cells [.rs 6, .rs 7], .rows Ri v.2.2.2.2.2.2.2.2.2.1, .rows Ri v.2.2.2.2.2.2.2.2.2.2.1, .cells [.rs 9, .rs 10], .rows Ri v.2.2.2.2.2.2.2.2.2.2.2.1, .rows Ri v.2.2.2.2.2.2.2.2.2.2.2.2]⟩
def law10_BracketSteps_r18 (C : law10_BracketSteps_C) (v : law10_BracketSteps_Y17) : Dt law10_BracketSteps_Y18 := (Dt.ite (inB v.2.2.2.1 (List.length v.1)) (Dt.bnd (C.2.1 ((v.2.2.2.2.2.2.2.2.2.1, v.2.2.2.2.2.2.2.2.2.2, ()), (v.2.2.2.2.1, ()), (v.2.2.2.2.2.1, v.2.2.2.2.2.2.1, ()), (v.2.2.2.1, ()), ((elt zi v.1 (v.2.2.2.1).toNat).1, ()), ())) fun r1 => (Dt.ret (v.1, v.2.1, v.2.2.1, r1.2.2.2, v.2.2.2.2.1, v.2.2.2.2.2.1, v.2.2.2.2.2.2.1, v.2.2.2.2.2.2.2.1, v.2.2.2.2.2.2.2.2.1, v.2.2.2.2.2.2.2.2.2.1, v.2.2.2.2.2.2.2.2.2.2, r1.1, r1.2.1))) Dt.fail)
theorem law10_BracketSteps_g18 (C : law10_BracketSteps_C) (v : law10_BracketSteps_Y17) : treg tysT (orc (law10_BracketSteps_tab C)) 109 (regO (bodyOf f6) 18) true [(2, (.val Ri)), (3, .any), (4, (.box [.val Riii])), (5, .any), (9, (.box [.own Ri, .own Ri])), (13, (.box [.own Ri, .own Ri])), (15, .any), (17, (.box [.own Ri, .own Ri])), (19, .any)] (law10_BracketSteps_S17 v) some = (law10_BracketSteps_r18 C v).eval fun y => some (law10_BracketSteps_S18 y) := by kernel_rfl
abbrev law10_BracketSteps_Y19 : Type := List Di × Int × Int × Bool × List Diii × Int × Int × List Di × List Di × List Di × List Di × List Di × List Di
def law10_BracketSteps_S19 (v : law10_BracketSteps_Y19) : St := ⟨[(2, .fz Ri v.1), (3, .int .i64 v.2.1), (4, .ptr 0 0), (5, .ptr 1 0), (9, .ptr 2 0), (13, .ptr 5 0), (15, .int .i64 v.2.2.1), (17, .ptr 8 0), (101, .bool v.2.2.2.1)], [.cells [.fz Riii v.2.2.2.2.1], .cells [.int .i64 v.2.2.2.2.2.1, .int .i64 v.2.2.2.2.2.2.1], .cells [.rs 3, .rs 4], .rows Ri v.2.2.2.2.2.2.2.1, .rows Ri v.2.2.2.2.2.2.2.2.1, .cells [.rs 6, .rs 7], .rows Ri v.2.2.2.2.2.2.2.2.2.1, .rows Ri v.2.2.2.2.2.2.2.2.2.2.1, .cells [.rs 9, .rs 10], .rows Ri v.2.2.2.2.2.2.2.2.2.2.2.1, .rows Ri v.2.2.2.2.2.2.2.2.2.2.2.2]⟩
def law10_BracketSteps_r19 (C : law10_BracketSteps_C) (v : law10_BracketSteps_Y18) : Dt law10_BracketSteps_Y19 := (Dt.ret (v.1, v.2.1, v.2.2.1, (v.2.2.2.1 != (0:Int)), v.2.2.2.2.1, v.2.2.2.2.2.1, v.2.2.2.2.2.2.1, v.2.2.2.2.2.2.2.1, v.2.2.2.2.2.2.2.2.1, v.2.2.2.2.2.2.2.2.2.1, v.2.2.2.2.2.2.2.2.2.2.1, v.2.2.2.2.2.2.2.2.2.2.2.1, v.2.2.2.2.2.2.2.2.2.2.2.2))
theorem law10_BracketSteps_g19 (C : law10_BracketSteps_C) (v : law10_BracketSteps_Y18) : treg tysT (orc (law10_BracketSteps_tab C)) 109 (regO (bodyOf f6) 19) false [(2, (.val Ri)), (3, .any), (4, (.box [.val Riii])), (5, .any), (9, (.box [.own Ri, .own Ri])), (13, (.box [.own Ri, .own Ri])), (15, .any), (17, (.box [.own Ri, .own Ri])), (101, .any)] (law10_BracketSteps_S18 v) some = (law10_BracketSteps_r19 C v).eval fun y => some (law10_BracketSteps_S19 y) := by kernel_rfl
def law10_BracketSteps_r20 (C : law10_BracketSteps_C) (v : law10_BracketSteps_Y19) : Dt law10_BracketSteps_Y2 := (Dt.ret false)
theorem law10_BracketSteps_g20 (C : law10_BracketSteps_C) (v : law10_BracketSteps_Y19) : treg tysT (orc (law10_BracketSteps_tab C)) 109 (regO (bodyOf f6) 20) false [(8, .any)] (law10_BracketSteps_S19 v) some = (law10_BracketSteps_r20 C v).eval fun y => some (law10_BracketSteps_S2 y) := by kernel_rfl
def law10_BracketSteps_r21 (C : law10_BracketSteps_C) (v : law10_BracketSteps_Y19) : Dt law10_BracketSteps_Y14 := (Dt.ret (v.1, v.2.1, v.2.2.1, v.2.2.2.2.1, v.2.2.2.2.2.1, v.2.2.2.2.2.2.1, v.2.2.2.2.2.2.2.1, v.2.2.2.2.2.2.2.2.1, v.2.2.2.2.2.2.2.2.2.2.2.1, v.2.2.2.2.2.2.2.2.2.2.2.2))
theorem law10_BracketSteps_g21 (C : law10_BracketSteps_C) (v : law10_BracketSteps_Y19) : treg tysT (orc (law10_BracketSteps_tab C)) 109 (regO (bodyOf f6) 21) false [(2, (.val Ri)), (3, .any), (4, (.box [.val Riii])), (5, .any), (9, (.box [.own Ri, .own Ri])), (13, (.box [.own Ri, .own Ri])), (15, .any)] (law10_BracketSteps_S19 v) some = (law10_BracketSteps_r21 C v).eval fun y => some (law10_BracketSteps_S14 y) := by kernel_rfl
def law10_BracketSteps_r16 (C : law10_BracketSteps_C) (v : law10_BracketSteps_Y14) : Dt law10_BracketSteps_Y14 := (Dt.ret (v.1, v.2.1, (IntKind.wrap .i64 (v.2.2.1 + (1:Int))), v.2.2.2.1, v.2.2.2.2.1, v.2.2.2.2.2.1, v.2.2.2.2.2.2.1, v.2.2.2.2.2.2.2.1, v.2.2.2.2.2.2.2.2.1, v.2.2.2.2.2.2.2.2.2))
theorem law10_BracketSteps_g16 (C : law10_BracketSteps_C) (v : law10_BracketSteps_Y14) : treg tysT (orc (law10_BracketSteps_tab C)) 109 (regO (bodyOf f6) 16) false [(2, (.val Ri)), (3, .any), (4, (.box [.val Riii])), (5, .any), (9, (.box [.own Ri, .own Ri])), (13, (.box [.own Ri, .own Ri])), (15, .any)] (law10_BracketSteps_S14 v) some = (law10_BracketSteps_r16 C v).eval fun y => some (law10_BracketSteps_S14 y) := by kernel_rfl
def law10_BracketSteps_r22 (C : law10_BracketSteps_C) (v : law10_BracketSteps_Y15) : Dt law10_BracketSteps_Y2 := (Dt.bnd (C.2.2.1 ((v.2.2.2.2.2.2.2.2.2.1, v.2.2.2.2.2.2.2.2.2.2, ()), (v.2.2.2.2.2.2.2.1, v.2.2.2.2.2.2.2.2.1, ()), ())) fun r1 => (Dt.ite r1 (Dt.bnd (C.2.2.2.2.2.1 (())) fun r2 => (Dt.ret r2)) (Dt.ret false)))
theorem law10_BracketSteps_g22 (C : law10_BracketSteps_C) (v : law10_BracketSteps_Y15) : treg tysT (orc (law10_BracketSteps_tab C)) 109 (regO (bodyOf f6) 22) false [(8, .any)] (law10_BracketSteps_S15 v) some = (law10_BracketSteps_r22 C v).eval fun y => some (law10_BracketSteps_S2 y) := by kernel_rfl
def law10_BracketSteps_L2 (d : Nat) (self2 : (List Di × Int × Int × List Diii × Int × Int × List Di × List Di × List Di × List Di) → Option law10_BracketSteps_R) (x2 : List Di × Int × Int × List Diii × Int × Int × List Di × List Di × List Di × List Di) : Option law10_BracketSteps_R :=
  (law10_BracketSteps_r15 (law10_BracketSteps_K d) x2).eval fun y15 =>
  bif y15.2.2.2.1 then ((law10_BracketSteps_r17 (law10_BracketSteps_K d) y15).eval fun y17 =>
  (law10_BracketSteps_r18 (law10_BracketSteps_K d) y17).eval fun y18 =>
  (law10_BracketSteps_r19 (law10_BracketSteps_K d) y18).eval fun y19 =>
  bif y19.2.2.2.1 then ((law10_BracketSteps_r20 (law10_BracketSteps_K d) y19).eval fun y20 =>
  some y20) else ((law10_BracketSteps_r21 (law10_BracketSteps_K d) y19).eval fun y21 =>
  (law10_BracketSteps_r16 (law10_BracketSteps_K d) y21).eval fun y16 =>
  self2 y16)) else ((law10_BracketSteps_r22 (law10_BracketSteps_K d) y15).eval fun y22 =>
  some y22)
def law10_BracketSteps_L1 (d : Nat) (self1 : (List Di × Int × Int × List Diii × Int × Int × List Di × List Di × List Di) → Option law10_BracketSteps_R) (x1 : List Di × Int × Int × List Diii × Int × Int × List Di × List Di × List Di) : Option law10_BracketSteps_R :=
  (law10_BracketSteps_r8 (law10_BracketSteps_K d) x1).eval fun y8 =>
  bif y8.2.2.2.1 then ((law10_BracketSteps_r10 (law10_BracketSteps_K d) y8).eval fun y10 =>
  (law10_BracketSteps_r9 (law10_BracketSteps_K d) y10).eval fun y9 =>
  self1 y9) else ((law10_BracketSteps_r11 (law10_BracketSteps_K d) y8).eval fun y11 =>
  (law10_BracketSteps_r12 (law10_BracketSteps_K d) y11).eval fun y12 =>
  bif y12.2.2.1 then ((law10_BracketSteps_r13 (law10_BracketSteps_K d) y12).eval fun y13 =>
  some y13) else ((law10_BracketSteps_r14 (law10_BracketSteps_K d) y12).eval fun y14 =>
  iter (law10_BracketSteps_L2 d ) d y14))
def F_law10_BracketSteps (d : Nat) (x : law10_BracketSteps_X) : Option law10_BracketSteps_R :=
  (law10_BracketSteps_r0 (law10_BracketSteps_K d) (x.1.1, x.2.1.1, x.2.1.2.1, x.2.2.1.1, x.2.2.2.1.1)).eval fun y0 =>
  (law10_BracketSteps_r1 (law10_BracketSteps_K d) y0).eval fun y1 =>
  bif y1.2.2.1 then ((law10_BracketSteps_r2 (law10_BracketSteps_K d) y1).eval fun y2 =>
  some y2) else ((law10_BracketSteps_r3 (law10_BracketSteps_K d) y1).eval fun y3 =>
  (law10_BracketSteps_r4 (law10_BracketSteps_K d) y3).eval fun y4 =>
  bif y4.2.2.1 then ((law10_BracketSteps_r5 (law10_BracketSteps_K d) y4).eval fun y5 =>
  some y5) else ((law10_BracketSteps_r6 (law10_BracketSteps_K d) y4).eval fun y6 =>
  (law10_BracketSteps_r7 (law10_BracketSteps_K d) y6).eval fun y7 =>
  iter (law10_BracketSteps_L1 d ) d y7))
theorem law10_BracketSteps_cok (d : Nat) : COK prog (law10_BracketSteps_sp (F_law10_BracketSteps d)) := by
  have hm : prog.follows .mixedOrders = true := mixed
  have hT := tys
  have hC : OrcOK prog (orc (law10_BracketSteps_tab (law10_BracketSteps_K d))) := orc_ok (by
    intro S hS
    simp only [law10_BracketSteps_tab, List.mem_cons, List.not_mem_nil, or_false] at hS
    rcases hS with rfl | rfl | rfl | rfl | rfl | rfl
    · exact ref03_Great_cok d
    · exact bracket_Set_cok d
    · exact ref10_Same_cok d
    · exact bracket_Build_cok d
    · exact ref03_Timed_cok d
    · exact law10_alive_cok d)
  refine cok_of (c := bodyOf f6) (fn := f6) hT (by kernel_rfl) (by kernel_rfl) (by decide) fun x r h w0 φ0 Q hend => ?_
  replace h : F_law10_BracketSteps d x = some r := h
  unfold F_law10_BracketSteps at h
  show Run prog w0 φ0 109 (bodyOf f6) ⟨[(0, .agg [.fz Riii x.1.1]), (1, .agg [.int .i64 x.2.1.1, .int .i64 x.2.1.2.1]), (2, .fz Ri x.2.2.1.1), (3, .int .i64 x.2.2.2.1.1)], []⟩ Q
  refine run_seq ?_
  refine run_reg hm hT hC (law10_BracketSteps_g0 (law10_BracketSteps_K d) (x.1.1, x.2.1.1, x.2.1.2.1, x.2.2.1.1, x.2.2.2.1.1)) h ?_
  intro y0 h
  refine cn_then ?_
  refine run_seq ?_
  refine run_seq ?_
  refine run_reg hm hT hC (law10_BracketSteps_g1 (law10_BracketSteps_K d) y0) h ?_
  intro y1 h
  refine cn_then ?_
  refine run_cond (v := y1.2.2.1) (by kernel_rfl) h ?_ ?_
  ·
    intro h
    refine run_seq ?_
    refine run_reg hm hT hC (law10_BracketSteps_g2 (law10_BracketSteps_K d) y1) h ?_
    intro y2 h
    refine cn_then ?_
    refine run_ret ?_
    refine cn_then_ret ?_
    cases h
    exact (hend _ (by kernel_rfl)).2
  ·
    intro h
    refine run_skip ?_
    refine cn_then ?_
    refine run_seq ?_
    refine run_reg hm hT hC (law10_BracketSteps_g3 (law10_BracketSteps_K d) y1) h ?_
    intro y3 h
    refine cn_then ?_
    refine run_seq ?_
    refine run_seq ?_
    refine run_reg hm hT hC (law10_BracketSteps_g4 (law10_BracketSteps_K d) y3) h ?_
    intro y4 h
    refine cn_then ?_
    refine run_cond (v := y4.2.2.1) (by kernel_rfl) h ?_ ?_
    ·
      intro h
      refine run_seq ?_
      refine run_reg hm hT hC (law10_BracketSteps_g5 (law10_BracketSteps_K d) y4) h ?_
      intro y5 h
      refine cn_then ?_
      refine run_ret ?_
      refine cn_then_ret ?_
      cases h
      exact (hend _ (by kernel_rfl)).2
    ·
      intro h
      refine run_skip ?_
      refine cn_then ?_
      refine run_seq ?_
      refine run_reg hm hT hC (law10_BracketSteps_g6 (law10_BracketSteps_K d) y4) h ?_
      intro y6 h
      refine cn_then ?_
      refine run_seq ?_
      refine run_seq ?_
      refine run_reg hm hT hC (law10_BracketSteps_g7 (law10_BracketSteps_K d) y6) h ?_
      intro y7 h
      refine cn_then ?_
      refine run_block ?_
      refine run_loop (G := iter (law10_BracketSteps_L1 d )) (S := (fun x1 => ⟨[(2, .fz Ri x1.1), (3, .int .i64 x1.2.1), (4, .ptr 0 0), (5, .ptr 1 0), (9, .ptr 2 0), (11, .rs 5), (12, .int .i64 x1.2.2.1)], [.cells [.fz Riii x1.2.2.2.1], .cells [.int .i64 x1.2.2.2.2.1, .int .i64 x1.2.2.2.2.2.1], .cells [.rs 3, .rs 4], .rows Ri x1.2.2.2.2.2.2.1, .rows Ri x1.2.2.2.2.2.2.2.1, .rows Ri x1.2.2.2.2.2.2.2.2]⟩ : List Di × Int × Int × List Diii × Int × Int × List Di × List Di × List Di → St)) (fun _ => rfl) ?_ d _ h
      intro n1 x1 h K1 hn1
      replace h : law10_BracketSteps_L1 d  (iter (law10_BracketSteps_L1 d ) n1) x1 = some r := h
      generalize iter (law10_BracketSteps_L1 d ) n1 = self1 at h hn1
      unfold law10_BracketSteps_L1 at h
      refine run_seq ?_
      refine run_seq ?_
      refine run_reg hm hT hC (law10_BracketSteps_g8 (law10_BracketSteps_K d) x1) h ?_
      intro y8 h
      refine cn_then ?_
      refine run_cond (v := y8.2.2.2.1) (by kernel_rfl) h ?_ ?_
      ·
        intro h
        refine run_skip ?_
        refine cn_then ?_
        refine run_seq ?_
        refine run_block ?_
        refine run_reg hm hT hC (law10_BracketSteps_g10 (law10_BracketSteps_K d) y8) h ?_
        intro y10 h
        refine cn_blk ?_
        refine cn_then ?_
        refine run_reg hm hT hC (law10_BracketSteps_g9 (law10_BracketSteps_K d) y10) h ?_
        intro y9 h
        exact hn1 _ h
      ·
        intro h
        refine run_exit ?_
        refine cn_then_exit ?_
        refine cn_then_exit ?_
        refine cn_blk_eq ?_
        refine cn_then ?_
        refine run_seq ?_
        refine run_reg hm hT hC (law10_BracketSteps_g11 (law10_BracketSteps_K d) y8) h ?_
        intro y11 h
        refine cn_then ?_
        refine run_seq ?_
        refine run_seq ?_
        refine run_reg hm hT hC (law10_BracketSteps_g12 (law10_BracketSteps_K d) y11) h ?_
        intro y12 h
        refine cn_then ?_
        refine run_cond (v := y12.2.2.1) (by kernel_rfl) h ?_ ?_
        ·
          intro h
          refine run_seq ?_
          refine run_reg hm hT hC (law10_BracketSteps_g13 (law10_BracketSteps_K d) y12) h ?_
          intro y13 h
          refine cn_then ?_
          refine run_ret ?_
          refine cn_then_ret ?_
          cases h
          exact (hend _ (by kernel_rfl)).2
        ·
          intro h
          refine run_skip ?_
          refine cn_then ?_
          refine run_seq ?_
          refine run_seq ?_
          refine run_reg hm hT hC (law10_BracketSteps_g14 (law10_BracketSteps_K d) y12) h ?_
          intro y14 h
          refine cn_then ?_
          refine run_block ?_
          refine run_loop (G := iter (law10_BracketSteps_L2 d )) (S := (fun x2 => ⟨[(2, .fz Ri x2.1), (3, .int .i64 x2.2.1), (4, .ptr 0 0), (5, .ptr 1 0), (9, .ptr 2 0), (13, .ptr 5 0), (15, .int .i64 x2.2.2.1)], [.cells [.fz Riii x2.2.2.2.1], .cells [.int .i64 x2.2.2.2.2.1, .int .i64 x2.2.2.2.2.2.1], .cells [.rs 3, .rs 4], .rows Ri x2.2.2.2.2.2.2.1, .rows Ri x2.2.2.2.2.2.2.2.1, .cells [.rs 6, .rs 7], .rows Ri x2.2.2.2.2.2.2.2.2.1, .rows Ri x2.2.2.2.2.2.2.2.2.2]⟩ : List Di × Int × Int × List Diii × Int × Int × List Di × List Di × List Di × List Di → St)) (fun _ => rfl) ?_ d _ h
          intro n2 x2 h K2 hn2
          replace h : law10_BracketSteps_L2 d  (iter (law10_BracketSteps_L2 d ) n2) x2 = some r := h
          generalize iter (law10_BracketSteps_L2 d ) n2 = self2 at h hn2
          unfold law10_BracketSteps_L2 at h
          refine run_seq ?_
          refine run_seq ?_
          refine run_reg hm hT hC (law10_BracketSteps_g15 (law10_BracketSteps_K d) x2) h ?_
          intro y15 h
          refine cn_then ?_
          refine run_cond (v := y15.2.2.2.1) (by kernel_rfl) h ?_ ?_
          ·
            intro h
            refine run_skip ?_
            refine cn_then ?_
            refine run_seq ?_
            refine run_block ?_
            refine run_seq ?_
            refine run_reg hm hT hC (law10_BracketSteps_g17 (law10_BracketSteps_K d) y15) h ?_
            intro y17 h
            refine cn_then ?_
            refine run_seq ?_
            refine run_reg hm hT hC (law10_BracketSteps_g18 (law10_BracketSteps_K d) y17) h ?_
            intro y18 h
            refine cn_then ?_
            refine run_seq ?_
            refine run_seq ?_
            refine run_reg hm hT hC (law10_BracketSteps_g19 (law10_BracketSteps_K d) y18) h ?_
            intro y19 h
            refine cn_then ?_
            refine run_cond (v := y19.2.2.2.1) (by kernel_rfl) h ?_ ?_
            ·
              intro h
              refine run_seq ?_
              refine run_reg hm hT hC (law10_BracketSteps_g20 (law10_BracketSteps_K d) y19) h ?_
              intro y20 h
              refine cn_then ?_
              refine run_ret ?_
              refine cn_then_ret ?_
              refine cn_blk_ret ?_
              refine cn_then_ret ?_
              refine cn_then_ret ?_
              refine cn_blk_ret ?_
              refine cn_then_ret ?_
              cases h
              exact (hend _ (by kernel_rfl)).2
            ·
              intro h
              refine run_skip ?_
              refine cn_then ?_
              refine run_reg hm hT hC (law10_BracketSteps_g21 (law10_BracketSteps_K d) y19) h ?_
              intro y21 h
              refine cn_blk ?_
              refine cn_then ?_
              refine run_reg hm hT hC (law10_BracketSteps_g16 (law10_BracketSteps_K d) y21) h ?_
              intro y16 h
              exact hn2 _ h
          ·
            intro h
            refine run_exit ?_
            refine cn_then_exit ?_
            refine cn_then_exit ?_
            refine cn_blk_eq ?_
            refine cn_then ?_
            refine run_seq ?_
            refine run_reg hm hT hC (law10_BracketSteps_g22 (law10_BracketSteps_K d) y15) h ?_
            intro y22 h
            refine cn_then ?_
            refine run_ret ?_
            cases h
            exact (hend _ (by kernel_rfl)).2
end Go.Proofs.Ytkcpnclgcmnlcaa
