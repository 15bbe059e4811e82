/- Walks for the law. -/
import Derived.Test.YtkcpnclgcmnlcaaGj
set_option linter.unusedSimpArgs false
set_option linter.unusedVariables false
namespace Go.Proofs.Ytkcpnclgcmnlcaa
open Go Go.Tx Go.Proofs.Try
set_option maxRecDepth 100000
set_option maxHeartbeats 0
abbrev law10_given_ps : List Pk := []
abbrev law10_given_X : Type := Unit
abbrev law10_given_R : Type := List Diii
def law10_given_enc (r : law10_given_R) : LV × List Ob := (.agg [.rs 0], [.rows Riii r])
def law10_given_sp (F : law10_given_X → Option law10_given_R) : Go.Tx.Spec := ⟨47, law10_given_ps, law10_given_R, F, law10_given_enc⟩
abbrev law10_given_C : Type := Unit
def law10_given_K (_d : Nat) : law10_given_C := ()
def law10_given_tab (C : law10_given_C) : List Go.Tx.Spec := []
abbrev law10_given_Y0i : Type := Unit
def law10_given_S0i (v : law10_given_Y0i) : St := ⟨[], []⟩
abbrev law10_given_Y0 : Type := List Diii
def law10_given_S0 (v : law10_given_Y0) : St := ⟨[(0, .ptr 0 0)], [.cells [.rs 1], .rows Riii v]⟩
def law10_given_r0 (C : law10_given_C) (v : law10_given_Y0i) : Dt law10_given_Y0 := (Dt.ret ([] : List Diii))
theorem law10_given_g0 (C : law10_given_C) (v : law10_given_Y0i) : treg tysT (orc (law10_given_tab C)) 6 (regO (bodyOf f47) 0) false [(0, (.box [.own Riii]))] (law10_given_S0i v) some = (law10_given_r0 C v).eval fun y => some (law10_given_S0 y) := by kernel_rfl
def law10_given_r1 (C : law10_given_C) (v : law10_given_Y0) : Dt law10_given_Y0 := (Dt.ret ([((1:Int), (0:Int), (2:Int), ()), ((2:Int), (6:Int), (-1:Int), ()), ((5:Int), (0:Int), (0:Int), ())] : List Diii))
theorem law10_given_g1 (C : law10_given_C) (v : law10_given_Y0) : treg tysT (orc (law10_given_tab C)) 6 (regO (bodyOf f47) 1) false [(0, (.box [.own Riii]))] (law10_given_S0 v) some = (law10_given_r1 C v).eval fun y => some (law10_given_S0 y) := by kernel_rfl
def F_law10_given (d : Nat) (x : law10_given_X) : Option law10_given_R :=
  (law10_given_r0 (law10_given_K d) ()).eval fun y0 =>
  (law10_given_r1 (law10_given_K d) y0).eval fun y1 =>
  some y1
theorem law10_given_cok (d : Nat) : COK prog (law10_given_sp (F_law10_given d)) := by
  have hm : prog.follows .mixedOrders = true := mixed
  have hT := tys
  have hC : OrcOK prog (orc (law10_given_tab (law10_given_K d))) := orc_ok (by
    intro S hS
    simp only [law10_given_tab, List.mem_cons, List.not_mem_nil, or_false] at hS
    all_goals first | cases hS | exact hS.elim)
  refine cok_of (c := bodyOf f47) (fn := f47) hT (by kernel_rfl) (by kernel_rfl) (by decide) fun x r h w0 φ0 Q hend => ?_
  replace h : F_law10_given d x = some r := h
  unfold F_law10_given at h
  show Run prog w0 φ0 6 (bodyOf f47) ⟨[], []⟩ Q
  refine run_seq ?_
  refine run_reg hm hT hC (law10_given_g0 (law10_given_K d) ()) h ?_
  intro y0 h
  refine cn_then ?_
  refine run_seq ?_
  refine run_reg hm hT hC (law10_given_g1 (law10_given_K d) y0) h ?_
  intro y1 h
  refine cn_then ?_
  refine run_ret ?_
  cases h
  exact (hend _ (by kernel_rfl)).2
abbrev law10_at_ps : List Pk := [.row Ri false]
abbrev law10_at_X : Type := Di × Unit
abbrev law10_at_R : Type := Int × Int
def law10_at_enc (r : law10_at_R) : LV × List Ob := (.agg [.int .i64 r.1, .int .i64 r.2], [])
def law10_at_sp (F : law10_at_X → Option law10_at_R) : Go.Tx.Spec := ⟨48, law10_at_ps, law10_at_R, F, law10_at_enc⟩
abbrev law10_at_C : Type := Unit
def law10_at_K (_d : Nat) : law10_at_C := ()
def law10_at_tab (C : law10_at_C) : List Go.Tx.Spec := []
abbrev law10_at_Y0i : Type := Int
def law10_at_S0i (v : law10_at_Y0i) : St := ⟨[(0, .int .i64 v)], []⟩
abbrev law10_at_Y0 : Type := Int × Int × Int
def law10_at_S0 (v : law10_at_Y0) : St := ⟨[(0, .int .i64 v.1), (2, .ptr 0 0)], [.cells [.int .i64 v.2.1, .int .i64 v.2.2]]⟩
def law10_at_r0 (C : law10_at_C) (v : law10_at_Y0i) : Dt law10_at_Y0 := (Dt.ret (v, (0:Int), (0:Int)))
theorem law10_at_g0 (C : law10_at_C) (v : law10_at_Y0i) : treg tysT (orc (law10_at_tab C)) 5 (regO (bodyOf f48) 0) false [(0, .any), (2, .any)] (law10_at_S0i v) some = (law10_at_r0 C v).eval fun y => some (law10_at_S0 y) := by kernel_rfl
abbrev law10_at_Y1 : Type := Int × Int
def law10_at_S1 (v : law10_at_Y1) : St := ⟨[(2, .ptr 0 0)], [.cells [.int .i64 v.1, .int .i64 v.2]]⟩
def law10_at_r1 (C : law10_at_C) (v : law10_at_Y0) : Dt law10_at_Y1 := (Dt.ret (v.1, (1:Int)))
theorem law10_at_g1 (C : law10_at_C) (v : law10_at_Y0) : treg tysT (orc (law10_at_tab C)) 5 (regO (bodyOf f48) 1) false [(2, .any)] (law10_at_S0 v) some = (law10_at_r1 C v).eval fun y => some (law10_at_S1 y) := by kernel_rfl
def F_law10_at (d : Nat) (x : law10_at_X) : Option law10_at_R :=
  (law10_at_r0 (law10_at_K d) x.1.1).eval fun y0 =>
  (law10_at_r1 (law10_at_K d) y0).eval fun y1 =>
  some y1
theorem law10_at_cok (d : Nat) : COK prog (law10_at_sp (F_law10_at d)) := by
  have hm : prog.follows .mixedOrders = true := mixed
  have hT := tys
  have hC : OrcOK prog (orc (law10_at_tab (law10_at_K d))) := orc_ok (by
    intro S hS
    simp only [law10_at_tab, List.mem_cons, List.not_mem_nil, or_false] at hS
    all_goals first | cases hS | exact hS.elim)
  refine cok_of (c := bodyOf f48) (fn := f48) hT (by kernel_rfl) (by kernel_rfl) (by decide) fun x r h w0 φ0 Q hend => ?_
  replace h : F_law10_at d x = some r := h
  unfold F_law10_at at h
  show Run prog w0 φ0 5 (bodyOf f48) ⟨[(0, .int .i64 x.1.1)], []⟩ Q
  refine run_seq ?_
  refine run_reg hm hT hC (law10_at_g0 (law10_at_K d) x.1.1) h ?_
  intro y0 h
  refine cn_then ?_
  refine run_seq ?_
  refine run_reg hm hT hC (law10_at_g1 (law10_at_K d) y0) h ?_
  intro y1 h
  refine cn_then ?_
  refine run_ret ?_
  cases h
  exact (hend _ (by kernel_rfl)).2
abbrev law10_alive_ps : List Pk := []
abbrev law10_alive_X : Type := Unit
abbrev law10_alive_R : Type := Bool
def law10_alive_enc (r : law10_alive_R) : LV × List Ob := (.bool r, [])
def law10_alive_sp (F : law10_alive_X → Option law10_alive_R) : Go.Tx.Spec := ⟨46, law10_alive_ps, law10_alive_R, F, law10_alive_enc⟩
abbrev law10_alive_C : Type := (bracket_Set_X → Option bracket_Set_R) × (ref03_SameIDs_X → Option ref03_SameIDs_R) × (bracket_Build_X → Option bracket_Build_R) × (bracket_Winner_X → Option bracket_Winner_R) × (bracket_Path_X → Option bracket_Path_R) × (law10_given_X → Option law10_given_R) × (law10_at_X → Option law10_at_R) × Unit
def law10_alive_K (d : Nat) : law10_alive_C := (F_bracket_Set d, F_ref03_SameIDs d, F_bracket_Build d, F_bracket_Winner d, F_bracket_Path d, F_law10_given d, F_law10_at d, ())
def law10_alive_tab (C : law10_alive_C) : List Go.Tx.Spec := [bracket_Set_sp C.1, ref03_SameIDs_sp C.2.1, bracket_Build_sp C.2.2.1, bracket_Winner_sp C.2.2.2.1, bracket_Path_sp C.2.2.2.2.1, law10_given_sp C.2.2.2.2.2.1, law10_at_sp C.2.2.2.2.2.2.1]
abbrev law10_alive_Y0i : Type := Unit
def law10_alive_S0i (v : law10_alive_Y0i) : St := ⟨[], []⟩
def law10_alive_r0 (C : law10_alive_C) (v : law10_alive_Y0i) : Dt law10_alive_Y0i := (Dt.ret ())
theorem law10_alive_g0 (C : law10_alive_C) (v : law10_alive_Y0i) : treg tysT (orc (law10_alive_tab C)) 75 (regO (bodyOf f46) 0) false [] (law10_alive_S0i v) some = (law10_alive_r0 C v).eval fun y => some (law10_alive_S0i y) := by kernel_rfl
abbrev law10_alive_Y1 : Type := Int × List Di × List Di
def law10_alive_S1 (v : law10_alive_Y1) : St := ⟨[(1, .ptr 0 0), (2, .int .i64 v.1)], [.cells [.rs 1, .rs 2], .rows Ri v.2.1, .rows Ri v.2.2]⟩
def law10_alive_r1 (C : law10_alive_C) (v : law10_alive_Y0i) : Dt law10_alive_Y1 := (Dt.bnd (C.2.2.2.2.2.1 (())) fun r1 => (Dt.bnd (C.2.2.2.2.2.2.1 (((0:Int), ()), ())) fun r2 => (Dt.bnd (C.2.2.1 ((r1, ()), (r2.1, r2.2, ()), (([((1:Int), ()), ((2:Int), ()), ((-1:Int), ()), ((5:Int), ())] : List Di), ()), ())) fun r3 => (Dt.ret (r3.2.2, r3.1, r3.2.1)))))
theorem law10_alive_g1 (C : law10_alive_C) (v : law10_alive_Y0i) : treg tysT (orc (law10_alive_tab C)) 75 (regO (bodyOf f46) 1) false [(1, (.box [.own Ri, .own Ri])), (2, .any)] (law10_alive_S0i v) some = (law10_alive_r1 C v).eval fun y => some (law10_alive_S1 y) := by kernel_rfl
abbrev law10_alive_Y2 : Type := Int × Int × Int × List Di × List Di
def law10_alive_S2 (v : law10_alive_Y2) : St := ⟨[(1, .ptr 0 0), (2, .int .i64 v.1), (3, .int .i64 v.2.1), (4, .int .i64 v.2.2.1)], [.cells [.rs 1, .rs 2], .rows Ri v.2.2.2.1, .rows Ri v.2.2.2.2]⟩
def law10_alive_r2 (C : law10_alive_C) (v : law10_alive_Y1) : Dt law10_alive_Y2 := (Dt.bnd (C.2.2.2.1 ((v.2.1, v.2.2, ()), ())) fun r1 => (Dt.ret (v.1, r1.1, r1.2, v.2.1, v.2.2)))
theorem law10_alive_g2 (C : law10_alive_C) (v : law10_alive_Y1) : treg tysT (orc (law10_alive_tab C)) 75 (regO (bodyOf f46) 2) false [(1, (.box [.own Ri, .own Ri])), (2, .any), (3, .any), (4, .any)] (law10_alive_S1 v) some = (law10_alive_r2 C v).eval fun y => some (law10_alive_S2 y) := by kernel_rfl
abbrev law10_alive_Y3 : Type := Int × Int × Int × Int × List Di × List Di × List Di × List Di × List Di
def law10_alive_S3 (v : law10_alive_Y3) : St := ⟨[(1, .ptr 0 0), (2, .int .i64 v.1), (3, .int .i64 v.2.1), (4, .int .i64 v.2.2.1), (5, .ptr 3 0), (6, .rs 6), (7, .int .i64 v.2.2.2.1)], [.cells [.rs 1, .rs 2], .rows Ri v.2.2.2.2.1, .rows Ri v.2.2.2.2.2.1, .cells [.rs 4, .rs 5], .rows Ri v.2.2.2.2.2.2.1, .rows Ri v.2.2.2.2.2.2.2.1, .rows Ri v.2.2.2.2.2.2.2.2]⟩
def law10_alive_r3 (C : law10_alive_C) (v : law10_alive_Y2) : Dt law10_alive_Y3 := (Dt.bnd (C.2.2.2.2.2.1 (())) fun r1 => (Dt.bnd (C.2.2.2.2.2.2.1 (((0:Int), ()), ())) fun r2 => (Dt.bnd (C.1 ((v.2.2.2.1, v.2.2.2.2, ()), (r1, ()), (r2.1, r2.2, ()), ((1:Int), ()), ((-1:Int), ()), ())) fun r3 => (Dt.ret (v.1, v.2.1, v.2.2.1, r3.2.2.2, v.2.2.2.1, v.2.2.2.2, r3.1, r3.2.1, r3.2.2.1)))))
theorem law10_alive_g3 (C : law10_alive_C) (v : law10_alive_Y2) : treg tysT (orc (law10_alive_tab C)) 75 (regO (bodyOf f46) 3) true [(1, (.box [.own Ri, .own Ri])), (2, .any), (3, .any), (4, .any), (5, (.box [.own Ri, .own Ri])), (6, (.own Ri)), (7, .any)] (law10_alive_S2 v) some = (law10_alive_r3 C v).eval fun y => some (law10_alive_S3 y) := by kernel_rfl
abbrev law10_alive_Y4 : Type := Int × Int × Int × Int × Int × List Di × List Di × List Di × List Di × List Di × List Di
def law10_alive_S4 (v : law10_alive_Y4) : St := ⟨[(1, .ptr 0 0), (2, .int .i64 v.1), (3, .int .i64 v.2.1), (4, .int .i64 v.2.2.1), (5, .ptr 3 0), (6, .rs 6), (7, .int .i64 v.2.2.2.1), (8, .rs 7), (9, .int .i64 v.2.2.2.2.1)], [.cells [.rs 1, .rs 2], .rows Ri v.2.2.2.2.2.1, .rows Ri v.2.2.2.2.2.2.1, .cells [.rs 4, .rs 5], .rows Ri v.2.2.2.2.2.2.2.1, .rows Ri v.2.2.2.2.2.2.2.2.1, .rows Ri v.2.2.2.2.2.2.2.2.2.1, .rows Ri v.2.2.2.2.2.2.2.2.2.2]⟩
def law10_alive_r4 (C : law10_alive_C) (v : law10_alive_Y3) : Dt law10_alive_Y4 := (Dt.bnd (C.2.2.2.2.1 ((v.2.2.2.2.1, v.2.2.2.2.2.1, ()), ((3:Int), ()), ())) fun r1 => (Dt.ret (v.1, v.2.1, v.2.2.1, v.2.2.2.1, r1.2, v.2.2.2.2.1, v.2.2.2.2.2.1, v.2.2.2.2.2.2.1, v.2.2.2.2.2.2.2.1, v.2.2.2.2.2.2.2.2, r1.1)))
theorem law10_alive_g4 (C : law10_alive_C) (v : law10_alive_Y3) : treg tysT (orc (law10_alive_tab C)) 75 (regO (bodyOf f46) 4) false [(1, (.box [.own Ri, .own Ri])), (2, .any), (3, .any), (4, .any), (5, (.box [.own Ri, .own Ri])), (6, (.own Ri)), (7, .any), (8, (.own Ri)), (9, .any)] (law10_alive_S3 v) some = (law10_alive_r4 C v).eval fun y => some (law10_alive_S4 y) := by kernel_rfl
abbrev law10_alive_Y5 : Type := Bool
def law10_alive_S5 (v : law10_alive_Y5) : St := ⟨[(0, .bool v)], []⟩
def law10_alive_r5 (C : law10_alive_C) (v : law10_alive_Y4) : Dt law10_alive_Y5 := (Dt.ite (v.1 == (0:Int)) (Dt.bnd (C.2.1 ((v.2.2.2.2.2.2.1, ()), (([((2:Int), ()), ((2:Int), ()), ((5:Int), ())] : List Di), ()), ())) fun r1 => (Dt.ite r1 (Dt.ite (v.2.2.1 == (0:Int)) (Dt.ite (v.2.1 == (2:Int)) (Dt.ite (v.2.2.2.1 == (0:Int)) (Dt.bnd (C.2.1 ((v.2.2.2.2.2.2.2.2.1, ()), (([((1:Int), ()), ((1:Int), ()), ((5:Int), ())] : List Di), ()), ())) fun r2 => (Dt.ite r2 (Dt.bnd (C.2.1 ((v.2.2.2.2.2.2.2.2.2.1, ()), (([((1:Int), ()), ((0:Int), ())] : List Di), ()), ())) fun r3 => (Dt.ite r3 (Dt.ite (v.2.2.2.2.1 == (0:Int)) (Dt.bnd (C.2.1 ((v.2.2.2.2.2.2.2.2.2.2, ()), (([((2:Int), ()), ((0:Int), ())] : List Di), ()), ())) fun r4 => (Dt.ret r4)) (Dt.ret false)) (Dt.ret false))) (Dt.ret false))) (Dt.ret false)) (Dt.ret false)) (Dt.ret false)) (Dt.ret false))) (Dt.ret false))
theorem law10_alive_g5 (C : law10_alive_C) (v : law10_alive_Y4) : treg tysT (orc (law10_alive_tab C)) 75 (regO (bodyOf f46) 5) false [(0, .any)] (law10_alive_S4 v) some = (law10_alive_r5 C v).eval fun y => some (law10_alive_S5 y) := by kernel_rfl
def F_law10_alive (d : Nat) (x : law10_alive_X) : Option law10_alive_R :=
  (law10_alive_r0 (law10_alive_K d) ()).eval fun y0 =>
  (law10_alive_r1 (law10_alive_K d) ()).eval fun y1 =>
  (law10_alive_r2 (law10_alive_K d) y1).eval fun y2 =>
  (law10_alive_r3 (law10_alive_K d) y2).eval fun y3 =>
  (law10_alive_r4 (law10_alive_K d) y3).eval fun y4 =>
  (law10_alive_r5 (law10_alive_K d) y4).eval fun y5 =>
  some y5
theorem law10_alive_cok (d : Nat) : COK prog (law10_alive_sp (F_law10_alive d)) := by
  have hm : prog.follows .mixedOrders = true := mixed
  have hT := tys
  have hC : OrcOK prog (orc (law10_alive_tab (law10_alive_K d))) := orc_ok (by
    intro S hS
    simp only [law10_alive_tab, List.mem_cons, List.not_mem_nil, or_false] at hS
    rcases hS with rfl | rfl | rfl | rfl | rfl | rfl | rfl
    · exact bracket_Set_cok d
    · exact ref03_SameIDs_cok d
    · exact bracket_Build_cok d
    · exact bracket_Winner_cok d
    · exact bracket_Path_cok d
    · exact law10_given_cok d
    · exact law10_at_cok d)
  refine cok_of (c := bodyOf f46) (fn := f46) hT (by kernel_rfl) (by kernel_rfl) (by decide) fun x r h w0 φ0 Q hend => ?_
  replace h : F_law10_alive d x = some r := h
  unfold F_law10_alive at h
  show Run prog w0 φ0 75 (bodyOf f46) ⟨[], []⟩ Q
  refine run_seq ?_
  refine run_reg hm hT hC (law10_alive_g0 (law10_alive_K d) ()) h ?_
  intro y0 h
  refine cn_then ?_
  refine run_seq ?_
  refine run_reg hm hT hC (law10_alive_g1 (law10_alive_K d) ()) h ?_
  intro y1 h
  refine cn_then ?_
  refine run_seq ?_
  refine run_reg hm hT hC (law10_alive_g2 (law10_alive_K d) y1) h ?_
  intro y2 h
  refine cn_then ?_
  refine run_seq ?_
  refine run_reg hm hT hC (law10_alive_g3 (law10_alive_K d) y2) h ?_
  intro y3 h
  refine cn_then ?_
  refine run_seq ?_
  refine run_reg hm hT hC (law10_alive_g4 (law10_alive_K d) y3) h ?_
  intro y4 h
  refine cn_then ?_
  refine run_seq ?_
  refine run_reg hm hT hC (law10_alive_g5 (law10_alive_K d) y4) h ?_
  intro y5 h
  refine cn_then ?_
  refine run_ret ?_
  cases h
  exact (hend _ (by kernel_rfl)).2
end Go.Proofs.Ytkcpnclgcmnlcaa

namespace Go.Proofs.Ytkcpnclgcmnlcaa
open Go Go.Tx Go.Proofs.Try
set_option maxRecDepth 100000
set_option maxHeartbeats 0
abbrev law10_BracketWins_ps : List Pk := [.row RLiiiE true, .row Rii true, .row RLiE false]
abbrev law10_BracketWins_X : Type := DLiiiE × Dii × DLiE × Unit
abbrev law10_BracketWins_R : Type := Bool
def law10_BracketWins_enc (r : law10_BracketWins_R) : LV × List Ob := (.bool r, [])
def law10_BracketWins_sp (F : law10_BracketWins_X → Option law10_BracketWins_R) : Go.Tx.Spec := ⟨12, law10_BracketWins_ps, law10_BracketWins_R, F, law10_BracketWins_enc⟩
abbrev law10_BracketWins_C : Type := (ref03_Great_X → Option ref03_Great_R) × (ref03_SameIDs_X → Option ref03_SameIDs_R) × (bracket_Build_X → Option bracket_Build_R) × (bracket_Winner_X → Option bracket_Winner_R) × (bracket_Right_X → Option bracket_Right_R) × (ref03_Timed_X → Option ref03_Timed_R) × (law10_alive_X → Option law10_alive_R) × (field_Leader_X → Option field_Leader_R) × (ref10_Known_X → Option ref10_Known_R) × (ref10_Twice_X → Option ref10_Twice_R) × Unit
def law10_BracketWins_K (d : Nat) : law10_BracketWins_C := (F_ref03_Great d, F_ref03_SameIDs d, F_bracket_Build d, F_bracket_Winner d, F_bracket_Right d, F_ref03_Timed d, F_law10_alive d, F_field_Leader d, F_ref10_Known d, F_ref10_Twice d, ())
def law10_BracketWins_tab (C : law10_BracketWins_C) : List Go.Tx.Spec := [ref03_Great_sp C.1, ref03_SameIDs_sp C.2.1, bracket_Build_sp C.2.2.1, bracket_Winner_sp C.2.2.2.1, bracket_Right_sp C.2.2.2.2.1, ref03_Timed_sp C.2.2.2.2.2.1, law10_alive_sp C.2.2.2.2.2.2.1, field_Leader_sp C.2.2.2.2.2.2.2.1, ref10_Known_sp C.2.2.2.2.2.2.2.2.1, ref10_Twice_sp C.2.2.2.2.2.2.2.2.2.1]
abbrev law10_BracketWins_Y0i : Type := List Diii × Int × Int × List Di
def law10_BracketWins_S0i (v : law10_BracketWins_Y0i) : St := ⟨[(0, .agg [.fz Riii v.1]), (1, .agg [.int .i64 v.2.1, .int .i64 v.2.2.1]), (2, .fz Ri v.2.2.2)], []⟩
abbrev law10_BracketWins_Y0 : Type := List Di × List Diii × Int × Int
def law10_BracketWins_S0 (v : law10_BracketWins_Y0) : St := ⟨[(2, .fz Ri v.1), (3, .ptr 0 0), (4, .ptr 1 0)], [.cells [.fz Riii v.2.1], .cells [.int .i64 v.2.2.1, .int .i64 v.2.2.2]]⟩
def law10_BracketWins_r0 (C : law10_BracketWins_C) (v : law10_BracketWins_Y0i) : Dt law10_BracketWins_Y0 := (Dt.ret (v.2.2.2, v.1, v.2.1, v.2.2.1))
theorem law10_BracketWins_g0 (C : law10_BracketWins_C) (v : law10_BracketWins_Y0i) : treg tysT (orc (law10_BracketWins_tab C)) 161 (regO (bodyOf f12) 0) false [(2, (.val Ri)), (3, (.box [.val Riii])), (4, .any)] (law10_BracketWins_S0i v) some = (law10_BracketWins_r0 C v).eval fun y => some (law10_BracketWins_S0 y) := by kernel_rfl
abbrev law10_BracketWins_Y1 : Type := List Di × Bool × List Diii × Int × Int
def law10_BracketWins_S1 (v : law10_BracketWins_Y1) : St := ⟨[(2, .fz Ri v.1), (3, .ptr 0 0), (4, .ptr 1 0), (30, .bool v.2.1)], [.cells [.fz Riii v.2.2.1], .cells [.int .i64 v.2.2.2.1, .int .i64 v.2.2.2.2]]⟩
def law10_BracketWins_r1 (C : law10_BracketWins_C) (v : law10_BracketWins_Y0) : Dt law10_BracketWins_Y1 := (Dt.bnd (C.1 ((v.2.1, ()), ())) fun r1 => (Dt.ite r1 (Dt.ret (v.1, true, v.2.1, v.2.2.1, v.2.2.2)) (Dt.bnd (C.2.2.2.2.2.1 ((v.2.1, ()), (v.2.2.1, v.2.2.2, ()), ())) fun r2 => (Dt.ite (r2 != (0:Int)) (Dt.ret (v.1, true, v.2.1, v.2.2.1, v.2.2.2)) (Dt.ret (v.1, (decide ((List.length v.1 : Int) > (64:Int))), v.2.1, v.2.2.1, v.2.2.2))))))
theorem law10_BracketWins_g1 (C : law10_BracketWins_C) (v : law10_BracketWins_Y0) : treg tysT (orc (law10_BracketWins_tab C)) 161 (regO (bodyOf f12) 1) false [(2, (.val Ri)), (3, (.box [.val Riii])), (4, .any), (30, .any)] (law10_BracketWins_S0 v) some = (law10_BracketWins_r1 C v).eval fun y => some (law10_BracketWins_S1 y) := by kernel_rfl
abbrev law10_BracketWins_Y2 : Type := Bool
def law10_BracketWins_S2 (v : law10_BracketWins_Y2) : St := ⟨[(6, .bool v)], []⟩
def law10_BracketWins_r2 (C : law10_BracketWins_C) (v : law10_BracketWins_Y1) : Dt law10_BracketWins_Y2 := (Dt.bnd (C.2.2.2.2.2.2.1 (())) fun r1 => (Dt.ret r1))
theorem law10_BracketWins_g2 (C : law10_BracketWins_C) (v : law10_BracketWins_Y1) : treg tysT (orc (law10_BracketWins_tab C)) 161 (regO (bodyOf f12) 2) false [(6, .any)] (law10_BracketWins_S1 v) some = (law10_BracketWins_r2 C v).eval fun y => some (law10_BracketWins_S2 y) := by kernel_rfl
abbrev law10_BracketWins_Y3 : Type := List Di × Int × List Diii × Int × Int × List Di × List Di
def law10_BracketWins_S3 (v : law10_BracketWins_Y3) : St := ⟨[(2, .fz Ri v.1), (3, .ptr 0 0), (4, .ptr 1 0), (7, .ptr 2 0), (8, .int .i64 v.2.1)], [.cells [.fz Riii v.2.2.1], .cells [.int .i64 v.2.2.2.1, .int .i64 v.2.2.2.2.1], .cells [.rs 3, .rs 4], .rows Ri v.2.2.2.2.2.1, .rows Ri v.2.2.2.2.2.2]⟩
def law10_BracketWins_r3 (C : law10_BracketWins_C) (v : law10_BracketWins_Y1) : Dt law10_BracketWins_Y3 := (Dt.bnd (C.2.2.1 ((v.2.2.1, ()), (v.2.2.2.1, v.2.2.2.2, ()), (v.1, ()), ())) fun r1 => (Dt.ret (v.1, r1.2.2, v.2.2.1, v.2.2.2.1, v.2.2.2.2, r1.1, r1.2.1)))
theorem law10_BracketWins_g3 (C : law10_BracketWins_C) (v : law10_BracketWins_Y1) : treg tysT (orc (law10_BracketWins_tab C)) 161 (regO (bodyOf f12) 3) false [(2, (.val Ri)), (3, (.box [.val Riii])), (4, .any), (7, (.box [.own Ri, .own Ri])), (8, .any)] (law10_BracketWins_S1 v) some = (law10_BracketWins_r3 C v).eval fun y => some (law10_BracketWins_S3 y) := by kernel_rfl
abbrev law10_BracketWins_Y4 : Type := List Di × Int × Bool × List Diii × Int × Int × List Di × List Di
def law10_BracketWins_S4 (v : law10_BracketWins_Y4) : St := ⟨[(2, .fz Ri v.1), (3, .ptr 0 0), (4, .ptr 1 0), (7, .ptr 2 0), (8, .int .i64 v.2.1), (40, .bool v.2.2.1)], [.cells [.fz Riii v.2.2.2.1], .cells [.int .i64 v.2.2.2.2.1, .int .i64 v.2.2.2.2.2.1], .cells [.rs 3, .rs 4], .rows Ri v.2.2.2.2.2.2.1, .rows Ri v.2.2.2.2.2.2.2]⟩
def law10_BracketWins_r4 (C : law10_BracketWins_C) (v : law10_BracketWins_Y3) : Dt law10_BracketWins_Y4 := (Dt.ret (v.1, v.2.1, (v.2.1 != (0:Int)), v.2.2.1, v.2.2.2.1, v.2.2.2.2.1, v.2.2.2.2.2.1, v.2.2.2.2.2.2))
theorem law10_BracketWins_g4 (C : law10_BracketWins_C) (v : law10_BracketWins_Y3) : treg tysT (orc (law10_BracketWins_tab C)) 161 (regO (bodyOf f12) 4) false [(2, (.val Ri)), (3, (.box [.val Riii])), (4, .any), (7, (.box [.own Ri, .own Ri])), (8, .any), (40, .any)] (law10_BracketWins_S3 v) some = (law10_BracketWins_r4 C v).eval fun y => some (law10_BracketWins_S4 y) := by kernel_rfl
def law10_BracketWins_r5 (C : law10_BracketWins_C) (v : law10_BracketWins_Y4) : Dt law10_BracketWins_Y2 := (Dt.ite (v.2.1 == (2:Int)) (Dt.ite ((List.length v.1 : Int) == (0:Int)) (Dt.bnd (C.2.2.2.2.2.2.1 (())) fun r1 => (Dt.ret r1)) (Dt.ite (v.2.1 == (6:Int)) (Dt.bnd (C.2.2.2.2.2.2.2.2.1 ((v.2.2.2.1, ()), (v.1, ()), ())) fun r2 => (Dt.ite (!r2) (Dt.bnd (C.2.2.2.2.2.2.1 (())) fun r3 => (Dt.ret r3)) (Dt.ite (v.2.1 == (14:Int)) (Dt.bnd (C.2.2.2.2.2.2.2.2.2.1 ((v.1, ()), ())) fun r4 => (Dt.ite r4 (Dt.bnd (C.2.2.2.2.2.2.1 (())) fun r5 => (Dt.ret r5)) (Dt.ret false))) (Dt.ret false)))) (Dt.ite (v.2.1 == (14:Int)) (Dt.bnd (C.2.2.2.2.2.2.2.2.2.1 ((v.1, ()), ())) fun r6 => (Dt.ite r6 (Dt.bnd (C.2.2.2.2.2.2.1 (())) fun r7 => (Dt.ret r7)) (Dt.ret false))) (Dt.ret false)))) (Dt.ite (v.2.1 == (6:Int)) (Dt.bnd (C.2.2.2.2.2.2.2.2.1 ((v.2.2.2.1, ()), (v.1, ()), ())) fun r8 => (Dt.ite (!r8) (Dt.bnd (C.2.2.2.2.2.2.1 (())) fun r9 => (Dt.ret r9)) (Dt.ite (v.2.1 == (14:Int)) (Dt.bnd (C.2.2.2.2.2.2.2.2.2.1 ((v.1, ()), ())) fun r10 => (Dt.ite r10 (Dt.bnd (C.2.2.2.2.2.2.1 (())) fun r11 => (Dt.ret r11)) (Dt.ret false))) (Dt.ret false)))) (Dt.ite (v.2.1 == (14:Int)) (Dt.bnd (C.2.2.2.2.2.2.2.2.2.1 ((v.1, ()), ())) fun r12 => (Dt.ite r12 (Dt.bnd (C.2.2.2.2.2.2.1 (())) fun r13 => (Dt.ret r13)) (Dt.ret false))) (Dt.ret false))))
theorem law10_BracketWins_g5 (C : law10_BracketWins_C) (v : law10_BracketWins_Y4) : treg tysT (orc (law10_BracketWins_tab C)) 161 (regO (bodyOf f12) 5) false [(6, .any)] (law10_BracketWins_S4 v) some = (law10_BracketWins_r5 C v).eval fun y => some (law10_BracketWins_S2 y) := by kernel_rfl
abbrev law10_BracketWins_Y6 : Type := List Di × List Diii × Int × Int × List Di × List Di × List Diii
def law10_BracketWins_S6 (v : law10_BracketWins_Y6) : St := ⟨[(2, .fz Ri v.1), (3, .ptr 0 0), (4, .ptr 1 0), (7, .ptr 2 0), (9, .ptr 5 0)], [.cells [.fz Riii v.2.1], .cells [.int .i64 v.2.2.1, .int .i64 v.2.2.2.1], .cells [.rs 3, .rs 4], .rows Ri v.2.2.2.2.1, .rows Ri v.2.2.2.2.2.1, .cells [.rs 6], .rows Riii v.2.2.2.2.2.2]⟩
def law10_BracketWins_r6 (C : law10_BracketWins_C) (v : law10_BracketWins_Y4) : Dt law10_BracketWins_Y6 := (Dt.ret (v.1, v.2.2.2.1, v.2.2.2.2.1, v.2.2.2.2.2.1, v.2.2.2.2.2.2.1, v.2.2.2.2.2.2.2, ([] : List Diii)))
theorem law10_BracketWins_g6 (C : law10_BracketWins_C) (v : law10_BracketWins_Y4) : treg tysT (orc (law10_BracketWins_tab C)) 161 (regO (bodyOf f12) 6) false [(2, (.val Ri)), (3, (.box [.val Riii])), (4, .any), (7, (.box [.own Ri, .own Ri])), (9, (.box [.own Riii]))] (law10_BracketWins_S4 v) some = (law10_BracketWins_r6 C v).eval fun y => some (law10_BracketWins_S6 y) := by kernel_rfl
abbrev law10_BracketWins_Y7 : Type := List Di × Int × List Diii × Int × Int × List Di × List Di × List Diii
def law10_BracketWins_S7 (v : law10_BracketWins_Y7) : St := ⟨[(2, .fz Ri v.1), (3, .ptr 0 0), (4, .ptr 1 0), (7, .ptr 2 0), (9, .ptr 5 0), (10, .int .i64 v.2.1)], [.cells [.fz Riii v.2.2.1], .cells [.int .i64 v.2.2.2.1, .int .i64 v.2.2.2.2.1], .cells [.rs 3, .rs 4], .rows Ri v.2.2.2.2.2.1, .rows Ri v.2.2.2.2.2.2.1, .cells [.rs 6], .rows Riii v.2.2.2.2.2.2.2]⟩
def law10_BracketWins_r7 (C : law10_BracketWins_C) (v : law10_BracketWins_Y6) : Dt law10_BracketWins_Y7 := (Dt.ret (v.1, (0:Int), v.2.1, v.2.2.1, v.2.2.2.1, v.2.2.2.2.1, v.2.2.2.2.2.1, v.2.2.2.2.2.2))
theorem law10_BracketWins_g7 (C : law10_BracketWins_C) (v : law10_BracketWins_Y6) : treg tysT (orc (law10_BracketWins_tab C)) 161 (regO (bodyOf f12) 7) false [(2, (.val Ri)), (3, (.box [.val Riii])), (4, .any), (7, (.box [.own Ri, .own Ri])), (9, (.box [.own Riii])), (10, .any)] (law10_BracketWins_S6 v) some = (law10_BracketWins_r7 C v).eval fun y => some (law10_BracketWins_S7 y) := by kernel_rfl
abbrev law10_BracketWins_Y8 : Type := List Di × Int × Bool × List Diii × Int × Int × List Di × List Di × List Diii
def law10_BracketWins_S8 (v : law10_BracketWins_Y8) : St := ⟨[(2, .fz Ri v.1), (3, .ptr 0 0), (4, .ptr 1 0), (7, .ptr 2 0), (9, .ptr 5 0), (10, .int .i64 v.2.1), (73, .bool v.2.2.1)], [.cells [.fz Riii v.2.2.2.1], .cells [.int .i64 v.2.2.2.2.1, .int .i64 v.2.2.2.2.2.1], .cells [.rs 3, .rs 4], .rows Ri v.2.2.2.2.2.2.1, .rows Ri v.2.2.2.2.2.2.2.1, .cells [.rs 6], .rows Riii v.2.2.2.2.2.2.2.2]⟩
def law10_BracketWins_r8 (C : law10_BracketWins_C) (v : law10_BracketWins_Y7) : Dt law10_BracketWins_Y8 := (Dt.ret (v.1, v.2.1, (decide (v.2.1 < (List.length v.2.2.1 : Int))), v.2.2.1, v.2.2.2.1, v.2.2.2.2.1, v.2.2.2.2.2.1, v.2.2.2.2.2.2.1, v.2.2.2.2.2.2.2))
theorem law10_BracketWins_g8 (C : law10_BracketWins_C) (v : law10_BracketWins_Y7) : treg tysT (orc (law10_BracketWins_tab C)) 161 (regO (bodyOf f12) 8) false [(2, (.val Ri)), (3, (.box [.val Riii])), (4, .any), (7, (.box [.own Ri, .own Ri])), (9, (.box [.own Riii])), (10, .any), (73, .any)] (law10_BracketWins_S7 v) some = (law10_BracketWins_r8 C v).eval fun y => some (law10_BracketWins_S8 y) := by kernel_rfl
abbrev law10_BracketWins_Y10 : Type := List Di × Int × Int × List Diii × Int × Int × List Di × List Di × List Diii
def law10_BracketWins_S10 (v : law10_BracketWins_Y10) : St := ⟨[(2, .fz Ri v.1), (3, .ptr 0 0), (4, .ptr 1 0), (7, .ptr 2 0), (9, .ptr 5 0), (10, .int .i64 v.2.1), (11, .int .i64 v.2.2.1)], [.cells [.fz Riii v.2.2.2.1], .cells [.int .i64 v.2.2.2.2.1, .int .i64 v.2.2.2.2.2.1], .cells [.rs 3, .rs 4], .rows Ri v.2.2.2.2.2.2.1, .rows Ri v.2.2.2.2.2.2.2.1, .cells [.rs 6], .rows Riii v.2.2.2.2.2.2.2.2]⟩
def law10_BracketWins_r10 (C : law10_BracketWins_C) (v : law10_BracketWins_Y8) : Dt law10_BracketWins_Y10 := (Dt.ret (v.1, v.2.1, (0:Int), v.2.2.2.1, v.2.2.2.2.1, v.2.2.2.2.2.1, v.2.2.2.2.2.2.1, v.2.2.2.2.2.2.2.1, v.2.2.2.2.2.2.2.2))
theorem law10_BracketWins_g10 (C : law10_BracketWins_C) (v : law10_BracketWins_Y8) : treg tysT (orc (law10_BracketWins_tab C)) 161 (regO (bodyOf f12) 10) false [(2, (.val Ri)), (3, (.box [.val Riii])), (4, .any), (7, (.box [.own Ri, .own Ri])), (9, (.box [.own Riii])), (10, .any), (11, .any)] (law10_BracketWins_S8 v) some = (law10_BracketWins_r10 C v).eval fun y => some (law10_BracketWins_S10 y) := by kernel_rfl
abbrev law10_BracketWins_Y11 : Type := List Di × Int × Int × Bool × List Diii × Int × Int × List Di × List Di × List Diii
def law10_BracketWins_S11 (v : law10_BracketWins_Y11) : St := ⟨[(2, .fz Ri v.1), (3, .ptr 0 0), (4, .ptr 1 0), (7, .ptr 2 0), (9, .ptr 5 0), (10, .int .i64 v.2.1), (11, .int .i64 v.2.2.1), (79, .bool v.2.2.2.1)], [.cells [.fz Riii v.2.2.2.2.1], .cells [.int .i64 v.2.2.2.2.2.1, .int .i64 v.2.2.2.2.2.2.1], .cells [.rs 3, .rs 4], .rows Ri v.2.2.2.2.2.2.2.1, .rows Ri v.2.2.2.2.2.2.2.2.1, .cells [.rs 6], .rows Riii v.2.2.2.2.2.2.2.2.2]⟩
def law10_BracketWins_r11 (C : law10_BracketWins_C) (v : law10_BracketWins_Y10) : Dt law10_BracketWins_Y11 := (Dt.ret (v.1, v.2.1, v.2.2.1, (decide (v.2.2.1 < (List.length v.1 : Int))), v.2.2.2.1, v.2.2.2.2.1, v.2.2.2.2.2.1, v.2.2.2.2.2.2.1, v.2.2.2.2.2.2.2.1, v.2.2.2.2.2.2.2.2))
theorem law10_BracketWins_g11 (C : law10_BracketWins_C) (v : law10_BracketWins_Y10) : treg tysT (orc (law10_BracketWins_tab C)) 161 (regO (bodyOf f12) 11) false [(2, (.val Ri)), (3, (.box [.val Riii])), (4, .any), (7, (.box [.own Ri, .own Ri])), (9, (.box [.own Riii])), (10, .any), (11, .any), (79, .any)] (law10_BracketWins_S10 v) some = (law10_BracketWins_r11 C v).eval fun y => some (law10_BracketWins_S11 y) := by kernel_rfl
abbrev law10_BracketWins_Y13 : Type := List Di × Int × Int × Bool × List Diii × Int × Int × List Di × List Di × List Diii
def law10_BracketWins_S13 (v : law10_BracketWins_Y13) : St := ⟨[(2, .fz Ri v.1), (3, .ptr 0 0), (4, .ptr 1 0), (7, .ptr 2 0), (9, .ptr 5 0), (10, .int .i64 v.2.1), (11, .int .i64 v.2.2.1), (92, .bool v.2.2.2.1)], [.cells [.fz Riii v.2.2.2.2.1], .cells [.int .i64 v.2.2.2.2.2.1, .int .i64 v.2.2.2.2.2.2.1], .cells [.rs 3, .rs 4], .rows Ri v.2.2.2.2.2.2.2.1, .rows Ri v.2.2.2.2.2.2.2.2.1, .cells [.rs 6], .rows Riii v.2.2.2.2.2.2.2.2.2]⟩
def law10_BracketWins_r13 (C : law10_BracketWins_C) (v : law10_BracketWins_Y11) : Dt law10_BracketWins_Y13 := (Dt.ite (inB v.2.2.1 (List.length v.1)) (Dt.ite (inB v.2.1 (List.length v.2.2.2.2.1)) (Dt.ret (v.1, v.2.1, v.2.2.1, ((elt zi v.1 (v.2.2.1).toNat).1 == (elt ziii v.2.2.2.2.1 (v.2.1).toNat).1), v.2.2.2.2.1, v.2.2.2.2.2.1, v.2.2.2.2.2.2.1, v.2.2.2.2.2.2.2.1, v.2.2.2.2.2.2.2.2.1, v.2.2.2.2.2.2.2.2.2)) Dt.fail) Dt.fail)
theorem law10_BracketWins_g13 (C : law10_BracketWins_C) (v : law10_BracketWins_Y11) : treg tysT (orc (law10_BracketWins_tab C)) 161 (regO (bodyOf f12) 13) true [(2, (.val Ri)), (3, (.box [.val Riii])), (4, .any), (7, (.box [.own Ri, .own Ri])), (9, (.box [.own Riii])), (10, .any), (11, .any), (92, .any)] (law10_BracketWins_S11 v) some = (law10_BracketWins_r13 C v).eval fun y => some (law10_BracketWins_S13 y) := by kernel_rfl
def law10_BracketWins_r14 (C : law10_BracketWins_C) (v : law10_BracketWins_Y13) : Dt law10_BracketWins_Y10 := (Dt.ite (inB v.2.1 (List.length v.2.2.2.2.1)) (Dt.ite (apB (List.length v.2.2.2.2.2.2.2.2.2) (List.length ([((elt ziii v.2.2.2.2.1 (v.2.1).toNat).1, (elt ziii v.2.2.2.2.1 (v.2.1).toNat).2.1, (elt ziii v.2.2.2.2.1 (v.2.1).toNat).2.2.1, ())] : List Diii))) (Dt.ret (v.1, v.2.1, v.2.2.1, v.2.2.2.2.1, v.2.2.2.2.2.1, v.2.2.2.2.2.2.1, v.2.2.2.2.2.2.2.1, v.2.2.2.2.2.2.2.2.1, (v.2.2.2.2.2.2.2.2.2 ++ ([((elt ziii v.2.2.2.2.1 (v.2.1).toNat).1, (elt ziii v.2.2.2.2.1 (v.2.1).toNat).2.1, (elt ziii v.2.2.2.2.1 (v.2.1).toNat).2.2.1, ())] : List Diii)))) Dt.fail) Dt.fail)
theorem law10_BracketWins_g14 (C : law10_BracketWins_C) (v : law10_BracketWins_Y13) : treg tysT (orc (law10_BracketWins_tab C)) 161 (regO (bodyOf f12) 14) true [(2, (.val Ri)), (3, (.box [.val Riii])), (4, .any), (7, (.box [.own Ri, .own Ri])), (9, (.box [.own Riii])), (10, .any), (11, .any)] (law10_BracketWins_S13 v) some = (law10_BracketWins_r14 C v).eval fun y => some (law10_BracketWins_S10 y) := by kernel_rfl
def law10_BracketWins_r12 (C : law10_BracketWins_C) (v : law10_BracketWins_Y10) : Dt law10_BracketWins_Y10 := (Dt.ret (v.1, v.2.1, (IntKind.wrap .i64 (v.2.2.1 + (1:Int))), v.2.2.2.1, v.2.2.2.2.1, v.2.2.2.2.2.1, v.2.2.2.2.2.2.1, v.2.2.2.2.2.2.2.1, v.2.2.2.2.2.2.2.2))
theorem law10_BracketWins_g12 (C : law10_BracketWins_C) (v : law10_BracketWins_Y10) : treg tysT (orc (law10_BracketWins_tab C)) 161 (regO (bodyOf f12) 12) false [(2, (.val Ri)), (3, (.box [.val Riii])), (4, .any), (7, (.box [.own Ri, .own Ri])), (9, (.box [.own Riii])), (10, .any), (11, .any)] (law10_BracketWins_S10 v) some = (law10_BracketWins_r12 C v).eval fun y => some (law10_BracketWins_S10 y) := by kernel_rfl
def law10_BracketWins_J3  (d : Nat) (self1 : (List Di × Int × List Diii × Int × Int × List Di × List Di × List Diii) → Option law10_BracketWins_R) (self2 : (List Di × Int × Int × List Diii × Int × Int × List Di × List Di × List Diii) → Option law10_BracketWins_R) (z : List Di × Int × Int × List Diii × Int × Int × List Di × List Di × List Diii) : Option (law10_BracketWins_R) :=
  (law10_BracketWins_r12 (law10_BracketWins_K d) z).eval fun y12 =>
  self2 y12
def law10_BracketWins_r9 (C : law10_BracketWins_C) (v : law10_BracketWins_Y11) : Dt law10_BracketWins_Y7 := (Dt.ret (v.1, (IntKind.wrap .i64 (v.2.1 + (1:Int))), v.2.2.2.2.1, v.2.2.2.2.2.1, v.2.2.2.2.2.2.1, v.2.2.2.2.2.2.2.1, v.2.2.2.2.2.2.2.2.1, v.2.2.2.2.2.2.2.2.2))
theorem law10_BracketWins_g9 (C : law10_BracketWins_C) (v : law10_BracketWins_Y11) : treg tysT (orc (law10_BracketWins_tab C)) 161 (regO (bodyOf f12) 9) false [(2, (.val Ri)), (3, (.box [.val Riii])), (4, .any), (7, (.box [.own Ri, .own Ri])), (9, (.box [.own Riii])), (10, .any)] (law10_BracketWins_S11 v) some = (law10_BracketWins_r9 C v).eval fun y => some (law10_BracketWins_S7 y) := by kernel_rfl
def law10_BracketWins_L2 (d : Nat) (self1 : (List Di × Int × List Diii × Int × Int × List Di × List Di × List Diii) → Option law10_BracketWins_R) (self2 : (List Di × Int × Int × List Diii × Int × Int × List Di × List Di × List Diii) → Option law10_BracketWins_R) (x2 : List Di × Int × Int × List Diii × Int × Int × List Di × List Di × List Diii) : Option law10_BracketWins_R :=
  (law10_BracketWins_r11 (law10_BracketWins_K d) x2).eval fun y11 =>
  bif y11.2.2.2.1 then ((law10_BracketWins_r13 (law10_BracketWins_K d) y11).eval fun y13 =>
  bif y13.2.2.2.1 then ((law10_BracketWins_r14 (law10_BracketWins_K d) y13).eval fun y14 =>
  law10_BracketWins_J3 d self1 self2 y14) else (law10_BracketWins_J3 d self1 self2 (y13.1, y13.2.1, y13.2.2.1, y13.2.2.2.2.1, y13.2.2.2.2.2.1, y13.2.2.2.2.2.2.1, y13.2.2.2.2.2.2.2.1, y13.2.2.2.2.2.2.2.2.1, y13.2.2.2.2.2.2.2.2.2))) else ((law10_BracketWins_r9 (law10_BracketWins_K d) y11).eval fun y9 =>
  self1 y9)
abbrev law10_BracketWins_Y15 : Type := List Di × Bool × Int × Int × Int × List Di × List Di × List Diii
def law10_BracketWins_S15 (v : law10_BracketWins_Y15) : St := ⟨[(2, .fz Ri v.1), (4, .ptr 0 0), (7, .ptr 1 0), (9, .ptr 4 0), (12, .bool v.2.1), (13, .int .i64 v.2.2.1)], [.cells [.int .i64 v.2.2.2.1, .int .i64 v.2.2.2.2.1], .cells [.rs 2, .rs 3], .rows Ri v.2.2.2.2.2.1, .rows Ri v.2.2.2.2.2.2.1, .cells [.rs 5], .rows Riii v.2.2.2.2.2.2.2]⟩
def law10_BracketWins_r15 (C : law10_BracketWins_C) (v : law10_BracketWins_Y8) : Dt law10_BracketWins_Y15 := (Dt.bnd (C.2.2.2.2.1 ((v.2.2.2.2.2.2.1, v.2.2.2.2.2.2.2.1, ()), (v.2.2.2.1, ()), (v.2.2.2.2.1, v.2.2.2.2.2.1, ()), ())) fun r1 => (Dt.ret (v.1, r1.1, r1.2, v.2.2.2.2.1, v.2.2.2.2.2.1, v.2.2.2.2.2.2.1, v.2.2.2.2.2.2.2.1, v.2.2.2.2.2.2.2.2)))
theorem law10_BracketWins_g15 (C : law10_BracketWins_C) (v : law10_BracketWins_Y8) : treg tysT (orc (law10_BracketWins_tab C)) 161 (regO (bodyOf f12) 15) false [(2, (.val Ri)), (4, .any), (7, (.box [.own Ri, .own Ri])), (9, (.box [.own Riii])), (12, .any), (13, .any)] (law10_BracketWins_S8 v) some = (law10_BracketWins_r15 C v).eval fun y => some (law10_BracketWins_S15 y) := by kernel_rfl
abbrev law10_BracketWins_Y16 : Type := List Di × Bool × Int × Int × Int × Int × Int × List Di × List Di × List Diii
def law10_BracketWins_S16 (v : law10_BracketWins_Y16) : St := ⟨[(2, .fz Ri v.1), (4, .ptr 0 0), (7, .ptr 1 0), (9, .ptr 4 0), (12, .bool v.2.1), (13, .int .i64 v.2.2.1), (14, .int .i64 v.2.2.2.1), (15, .int .i64 v.2.2.2.2.1)], [.cells [.int .i64 v.2.2.2.2.2.1, .int .i64 v.2.2.2.2.2.2.1], .cells [.rs 2, .rs 3], .rows Ri v.2.2.2.2.2.2.2.1, .rows Ri v.2.2.2.2.2.2.2.2.1, .cells [.rs 5], .rows Riii v.2.2.2.2.2.2.2.2.2]⟩
def law10_BracketWins_r16 (C : law10_BracketWins_C) (v : law10_BracketWins_Y15) : Dt law10_BracketWins_Y16 := (Dt.bnd (C.2.2.2.1 ((v.2.2.2.2.2.1, v.2.2.2.2.2.2.1, ()), ())) fun r1 => (Dt.ret (v.1, v.2.1, v.2.2.1, r1.1, r1.2, v.2.2.2.1, v.2.2.2.2.1, v.2.2.2.2.2.1, v.2.2.2.2.2.2.1, v.2.2.2.2.2.2.2)))
theorem law10_BracketWins_g16 (C : law10_BracketWins_C) (v : law10_BracketWins_Y15) : treg tysT (orc (law10_BracketWins_tab C)) 161 (regO (bodyOf f12) 16) false [(2, (.val Ri)), (4, .any), (7, (.box [.own Ri, .own Ri])), (9, (.box [.own Riii])), (12, .any), (13, .any), (14, .any), (15, .any)] (law10_BracketWins_S15 v) some = (law10_BracketWins_r16 C v).eval fun y => some (law10_BracketWins_S16 y) := by kernel_rfl
abbrev law10_BracketWins_Y17 : Type := List Di × Bool × Int × Int × Int × Int × Int × List Di × List Di × List Diii
def law10_BracketWins_S17 (v : law10_BracketWins_Y17) : St := ⟨[(2, .fz Ri v.1), (7, .ptr 0 0), (9, .ptr 3 0), (12, .bool v.2.1), (13, .int .i64 v.2.2.1), (14, .int .i64 v.2.2.2.1), (15, .int .i64 v.2.2.2.2.1), (16, .int .i64 v.2.2.2.2.2.1), (17, .int .i64 v.2.2.2.2.2.2.1)], [.cells [.rs 1, .rs 2], .rows Ri v.2.2.2.2.2.2.2.1, .rows Ri v.2.2.2.2.2.2.2.2.1, .cells [.rs 4], .rows Riii v.2.2.2.2.2.2.2.2.2]⟩
def law10_BracketWins_r17 (C : law10_BracketWins_C) (v : law10_BracketWins_Y16) : Dt law10_BracketWins_Y17 := (Dt.bnd (C.2.2.2.2.2.2.2.1 ((v.2.2.2.2.2.2.2.2.2, ()), (v.2.2.2.2.2.1, v.2.2.2.2.2.2.1, ()), ())) fun r1 => (Dt.ret (v.1, v.2.1, v.2.2.1, v.2.2.2.1, v.2.2.2.2.1, r1.1, r1.2, v.2.2.2.2.2.2.2.1, v.2.2.2.2.2.2.2.2.1, v.2.2.2.2.2.2.2.2.2)))
theorem law10_BracketWins_g17 (C : law10_BracketWins_C) (v : law10_BracketWins_Y16) : treg tysT (orc (law10_BracketWins_tab C)) 161 (regO (bodyOf f12) 17) false [(2, (.val Ri)), (7, (.box [.own Ri, .own Ri])), (9, (.box [.own Riii])), (12, .any), (13, .any), (14, .any), (15, .any), (16, .any), (17, .any)] (law10_BracketWins_S16 v) some = (law10_BracketWins_r17 C v).eval fun y => some (law10_BracketWins_S17 y) := by kernel_rfl
abbrev law10_BracketWins_Y18 : Type := Int × Int × Int × Int × Bool × List Diii
def law10_BracketWins_S18 (v : law10_BracketWins_Y18) : St := ⟨[(9, .ptr 0 0), (14, .int .i64 v.1), (15, .int .i64 v.2.1), (16, .int .i64 v.2.2.1), (17, .int .i64 v.2.2.2.1), (133, .bool v.2.2.2.2.1)], [.cells [.rs 1], .rows Riii v.2.2.2.2.2]⟩
def law10_BracketWins_r18 (C : law10_BracketWins_C) (v : law10_BracketWins_Y17) : Dt law10_BracketWins_Y18 := (Dt.ite (v.2.2.1 != (0:Int)) (Dt.ret (v.2.2.2.1, v.2.2.2.2.1, v.2.2.2.2.2.1, v.2.2.2.2.2.2.1, true, v.2.2.2.2.2.2.2.2.2)) (Dt.ite (!v.2.1) (Dt.ret (v.2.2.2.1, v.2.2.2.2.1, v.2.2.2.2.2.1, v.2.2.2.2.2.2.1, true, v.2.2.2.2.2.2.2.2.2)) (Dt.bnd (C.2.1 ((v.2.2.2.2.2.2.2.1, ()), (v.1, ()), ())) fun r1 => (Dt.ret (v.2.2.2.1, v.2.2.2.2.1, v.2.2.2.2.2.1, v.2.2.2.2.2.2.1, (!r1), v.2.2.2.2.2.2.2.2.2)))))
theorem law10_BracketWins_g18 (C : law10_BracketWins_C) (v : law10_BracketWins_Y17) : treg tysT (orc (law10_BracketWins_tab C)) 161 (regO (bodyOf f12) 18) false [(9, (.box [.own Riii])), (14, .any), (15, .any), (16, .any), (17, .any), (133, .any)] (law10_BracketWins_S17 v) some = (law10_BracketWins_r18 C v).eval fun y => some (law10_BracketWins_S18 y) := by kernel_rfl
def law10_BracketWins_r19 (C : law10_BracketWins_C) (v : law10_BracketWins_Y18) : Dt law10_BracketWins_Y2 := (Dt.ret false)
theorem law10_BracketWins_g19 (C : law10_BracketWins_C) (v : law10_BracketWins_Y18) : treg tysT (orc (law10_BracketWins_tab C)) 161 (regO (bodyOf f12) 19) false [(6, .any)] (law10_BracketWins_S18 v) some = (law10_BracketWins_r19 C v).eval fun y => some (law10_BracketWins_S2 y) := by kernel_rfl
abbrev law10_BracketWins_Y20 : Type := Int × Int × Int × Int × Bool
def law10_BracketWins_S20 (v : law10_BracketWins_Y20) : St := ⟨[(14, .int .i64 v.1), (15, .int .i64 v.2.1), (16, .int .i64 v.2.2.1), (17, .int .i64 v.2.2.2.1), (137, .bool v.2.2.2.2)], []⟩
def law10_BracketWins_r20 (C : law10_BracketWins_C) (v : law10_BracketWins_Y18) : Dt law10_BracketWins_Y20 := (Dt.ret (v.1, v.2.1, v.2.2.1, v.2.2.2.1, ((List.length v.2.2.2.2.2 : Int) == (0:Int))))
theorem law10_BracketWins_g20 (C : law10_BracketWins_C) (v : law10_BracketWins_Y18) : treg tysT (orc (law10_BracketWins_tab C)) 161 (regO (bodyOf f12) 20) false [(14, .any), (15, .any), (16, .any), (17, .any), (137, .any)] (law10_BracketWins_S18 v) some = (law10_BracketWins_r20 C v).eval fun y => some (law10_BracketWins_S20 y) := by kernel_rfl
def law10_BracketWins_r21 (C : law10_BracketWins_C) (v : law10_BracketWins_Y20) : Dt law10_BracketWins_Y2 := (Dt.ite (v.2.1 == (42:Int)) (Dt.ite (v.2.2.2.1 == (42:Int)) (Dt.bnd (C.2.2.2.2.2.2.1 (())) fun r1 => (Dt.ret r1)) (Dt.ret false)) (Dt.ret false))
theorem law10_BracketWins_g21 (C : law10_BracketWins_C) (v : law10_BracketWins_Y20) : treg tysT (orc (law10_BracketWins_tab C)) 161 (regO (bodyOf f12) 21) false [(6, .any)] (law10_BracketWins_S20 v) some = (law10_BracketWins_r21 C v).eval fun y => some (law10_BracketWins_S2 y) := by kernel_rfl
def law10_BracketWins_r22 (C : law10_BracketWins_C) (v : law10_BracketWins_Y20) : Dt law10_BracketWins_Y2 := (Dt.ite (v.2.1 == (0:Int)) (Dt.ite (v.2.2.2.1 == (0:Int)) (Dt.ite (v.1 == v.2.2.1) (Dt.bnd (C.2.2.2.2.2.2.1 (())) fun r1 => (Dt.ret r1)) (Dt.ret false)) (Dt.ret false)) (Dt.ret false))
theorem law10_BracketWins_g22 (C : law10_BracketWins_C) (v : law10_BracketWins_Y20) : treg tysT (orc (law10_BracketWins_tab C)) 161 (regO (bodyOf f12) 22) false [(6, .any)] (law10_BracketWins_S20 v) some = (law10_BracketWins_r22 C v).eval fun y => some (law10_BracketWins_S2 y) := by kernel_rfl
def law10_BracketWins_L1 (d : Nat) (self1 : (List Di × Int × List Diii × Int × Int × List Di × List Di × List Diii) → Option law10_BracketWins_R) (x1 : List Di × Int × List Diii × Int × Int × List Di × List Di × List Diii) : Option law10_BracketWins_R :=
  (law10_BracketWins_r8 (law10_BracketWins_K d) x1).eval fun y8 =>
  bif y8.2.2.1 then ((law10_BracketWins_r10 (law10_BracketWins_K d) y8).eval fun y10 =>
  iter (law10_BracketWins_L2 d self1) d y10) else ((law10_BracketWins_r15 (law10_BracketWins_K d) y8).eval fun y15 =>
  (law10_BracketWins_r16 (law10_BracketWins_K d) y15).eval fun y16 =>
  (law10_BracketWins_r17 (law10_BracketWins_K d) y16).eval fun y17 =>
  (law10_BracketWins_r18 (law10_BracketWins_K d) y17).eval fun y18 =>
  bif y18.2.2.2.2.1 then ((law10_BracketWins_r19 (law10_BracketWins_K d) y18).eval fun y19 =>
  some y19) else ((law10_BracketWins_r20 (law10_BracketWins_K d) y18).eval fun y20 =>
  bif y20.2.2.2.2 then ((law10_BracketWins_r21 (law10_BracketWins_K d) y20).eval fun y21 =>
  some y21) else ((law10_BracketWins_r22 (law10_BracketWins_K d) y20).eval fun y22 =>
  some y22)))
def F_law10_BracketWins (d : Nat) (x : law10_BracketWins_X) : Option law10_BracketWins_R :=
  (law10_BracketWins_r0 (law10_BracketWins_K d) (x.1.1, x.2.1.1, x.2.1.2.1, x.2.2.1.1)).eval fun y0 =>
  (law10_BracketWins_r1 (law10_BracketWins_K d) y0).eval fun y1 =>
  bif y1.2.1 then ((law10_BracketWins_r2 (law10_BracketWins_K d) y1).eval fun y2 =>
  some y2) else ((law10_BracketWins_r3 (law10_BracketWins_K d) y1).eval fun y3 =>
  (law10_BracketWins_r4 (law10_BracketWins_K d) y3).eval fun y4 =>
  bif y4.2.2.1 then ((law10_BracketWins_r5 (law10_BracketWins_K d) y4).eval fun y5 =>
  some y5) else ((law10_BracketWins_r6 (law10_BracketWins_K d) y4).eval fun y6 =>
  (law10_BracketWins_r7 (law10_BracketWins_K d) y6).eval fun y7 =>
  iter (law10_BracketWins_L1 d ) d y7))
theorem law10_BracketWins_cok (d : Nat) : COK prog (law10_BracketWins_sp (F_law10_BracketWins d)) := by
  have hm : prog.follows .mixedOrders = true := mixed
  have hT := tys
  have hC : OrcOK prog (orc (law10_BracketWins_tab (law10_BracketWins_K d))) := orc_ok (by
    intro S hS
    simp only [law10_BracketWins_tab, List.mem_cons, List.not_mem_nil, or_false] at hS
    rcases hS with rfl | rfl | rfl | rfl | rfl | rfl | rfl | rfl | rfl | rfl
    · exact ref03_Great_cok d
    · exact ref03_SameIDs_cok d
    · exact bracket_Build_cok d
    · exact bracket_Winner_cok d
    · exact bracket_Right_cok d
    · exact ref03_Timed_cok d
    · exact law10_alive_cok d
    · exact field_Leader_cok d
    · exact ref10_Known_cok d
    · exact ref10_Twice_cok d)
  refine cok_of (c := bodyOf f12) (fn := f12) hT (by kernel_rfl) (by kernel_rfl) (by decide) fun x r h w0 φ0 Q hend => ?_
  replace h : F_law10_BracketWins d x = some r := h
  unfold F_law10_BracketWins at h
  show Run prog w0 φ0 161 (bodyOf f12) ⟨[(0, .agg [.fz Riii x.1.1]), (1, .agg [.int .i64 x.2.1.1, .int .i64 x.2.1.2.1]), (2, .fz Ri x.2.2.1.1)], []⟩ Q
  refine run_seq ?_
  refine run_reg hm hT hC (law10_BracketWins_g0 (law10_BracketWins_K d) (x.1.1, x.2.1.1, x.2.1.2.1, x.2.2.1.1)) h ?_
  intro y0 h
  refine cn_then ?_
  refine run_seq ?_
  refine run_seq ?_
  refine run_reg hm hT hC (law10_BracketWins_g1 (law10_BracketWins_K d) y0) h ?_
  intro y1 h
  refine cn_then ?_
  refine run_cond (v := y1.2.1) (by kernel_rfl) h ?_ ?_
  ·
    intro h
    refine run_seq ?_
    refine run_reg hm hT hC (law10_BracketWins_g2 (law10_BracketWins_K d) y1) h ?_
    intro y2 h
    refine cn_then ?_
    refine run_ret ?_
    refine cn_then_ret ?_
    cases h
    exact (hend _ (by kernel_rfl)).2
  ·
    intro h
    refine run_skip ?_
    refine cn_then ?_
    refine run_seq ?_
    refine run_reg hm hT hC (law10_BracketWins_g3 (law10_BracketWins_K d) y1) h ?_
    intro y3 h
    refine cn_then ?_
    refine run_seq ?_
    refine run_seq ?_
    refine run_reg hm hT hC (law10_BracketWins_g4 (law10_BracketWins_K d) y3) h ?_
    intro y4 h
    refine cn_then ?_
    refine run_cond (v := y4.2.2.1) (by kernel_rfl) h ?_ ?_
    ·
      intro h
      refine run_seq ?_
      refine run_reg hm hT hC (law10_BracketWins_g5 (law10_BracketWins_K d) y4) h ?_
      intro y5 h
      refine cn_then ?_
      refine run_ret ?_
      refine cn_then_ret ?_
      cases h
      exact (hend _ (by kernel_rfl)).2
    ·
      intro h
      refine run_skip ?_
      refine cn_then ?_
      refine run_seq ?_
      refine run_reg hm hT hC (law10_BracketWins_g6 (law10_BracketWins_K d) y4) h ?_
      intro y6 h
      refine cn_then ?_
      refine run_seq ?_
      refine run_seq ?_
      refine run_reg hm hT hC (law10_BracketWins_g7 (law10_BracketWins_K d) y6) h ?_
      intro y7 h
      refine cn_then ?_
      refine run_block ?_
      refine run_loop (G := iter (law10_BracketWins_L1 d )) (S := (fun x1 => ⟨[(2, .fz Ri x1.1), (3, .ptr 0 0), (4, .ptr 1 0), (7, .ptr 2 0), (9, .ptr 5 0), (10, .int .i64 x1.2.1)], [.cells [.fz Riii x1.2.2.1], .cells [.int .i64 x1.2.2.2.1, .int .i64 x1.2.2.2.2.1], .cells [.rs 3, .rs 4], .rows Ri x1.2.2.2.2.2.1, .rows Ri x1.2.2.2.2.2.2.1, .cells [.rs 6], .rows Riii x1.2.2.2.2.2.2.2]⟩ : List Di × Int × List Diii × Int × Int × List Di × List Di × List Diii → St)) (fun _ => rfl) ?_ d _ h
      intro n1 x1 h K1 hn1
      replace h : law10_BracketWins_L1 d  (iter (law10_BracketWins_L1 d ) n1) x1 = some r := h
      generalize iter (law10_BracketWins_L1 d ) n1 = self1 at h hn1
      unfold law10_BracketWins_L1 at h
      refine run_seq ?_
      refine run_seq ?_
      refine run_reg hm hT hC (law10_BracketWins_g8 (law10_BracketWins_K d) x1) h ?_
      intro y8 h
      refine cn_then ?_
      refine run_cond (v := y8.2.2.1) (by kernel_rfl) h ?_ ?_
      ·
        intro h
        refine run_skip ?_
        refine cn_then ?_
        refine run_seq ?_
        refine run_block ?_
        refine run_seq ?_
        refine run_reg hm hT hC (law10_BracketWins_g10 (law10_BracketWins_K d) y8) h ?_
        intro y10 h
        refine cn_then ?_
        refine run_block ?_
        refine run_loop (G := iter (law10_BracketWins_L2 d self1)) (S := (fun x2 => ⟨[(2, .fz Ri x2.1), (3, .ptr 0 0), (4, .ptr 1 0), (7, .ptr 2 0), (9, .ptr 5 0), (10, .int .i64 x2.2.1), (11, .int .i64 x2.2.2.1)], [.cells [.fz Riii x2.2.2.2.1], .cells [.int .i64 x2.2.2.2.2.1, .int .i64 x2.2.2.2.2.2.1], .cells [.rs 3, .rs 4], .rows Ri x2.2.2.2.2.2.2.1, .rows Ri x2.2.2.2.2.2.2.2.1, .cells [.rs 6], .rows Riii x2.2.2.2.2.2.2.2.2]⟩ : List Di × Int × Int × List Diii × Int × Int × List Di × List Di × List Diii → St)) (fun _ => rfl) ?_ d _ h
        intro n2 x2 h K2 hn2
        replace h : law10_BracketWins_L2 d self1 (iter (law10_BracketWins_L2 d self1) n2) x2 = some r := h
        generalize iter (law10_BracketWins_L2 d self1) n2 = self2 at h hn2
        unfold law10_BracketWins_L2 at h
        refine run_seq ?_
        refine run_seq ?_
        refine run_reg hm hT hC (law10_BracketWins_g11 (law10_BracketWins_K d) x2) h ?_
        intro y11 h
        refine cn_then ?_
        refine run_cond (v := y11.2.2.2.1) (by kernel_rfl) h ?_ ?_
        ·
          intro h
          refine run_skip ?_
          refine cn_then ?_
          refine run_join (r := r) (F := law10_BracketWins_J3 d self1 self2) (S := (fun z => ⟨[(2, .fz Ri z.1), (3, .ptr 0 0), (4, .ptr 1 0), (7, .ptr 2 0), (9, .ptr 5 0), (10, .int .i64 z.2.1), (11, .int .i64 z.2.2.1)], [.cells [.fz Riii z.2.2.2.1], .cells [.int .i64 z.2.2.2.2.1, .int .i64 z.2.2.2.2.2.1], .cells [.rs 3, .rs 4], .rows Ri z.2.2.2.2.2.2.1, .rows Ri z.2.2.2.2.2.2.2.1, .cells [.rs 6], .rows Riii z.2.2.2.2.2.2.2.2]⟩ : List Di × Int × Int × List Diii × Int × Int × List Di × List Di × List Diii → St)) ?_ ?_
          ·
            intro z h
            unfold law10_BracketWins_J3 at h
            refine run_reg hm hT hC (law10_BracketWins_g12 (law10_BracketWins_K d) z) h ?_
            intro y12 h
            exact hn2 _ h
          intro hj3
          refine run_block ?_
          refine run_seq ?_
          refine run_reg hm hT hC (law10_BracketWins_g13 (law10_BracketWins_K d) y11) h ?_
          intro y13 h
          refine cn_then ?_
          refine run_cond (v := y13.2.2.2.1) (by kernel_rfl) h ?_ ?_
          ·
            intro h
            refine run_reg hm hT hC (law10_BracketWins_g14 (law10_BracketWins_K d) y13) h ?_
            intro y14 h
            refine cn_blk ?_
            exact hj3 _ h
          ·
            intro h
            refine run_skip ?_
            refine cn_blk ?_
            refine cn_num (s := ⟨[(2, .fz Ri y13.1), (3, .ptr 0 0), (4, .ptr 1 0), (7, .ptr 2 0), (9, .ptr 5 0), (10, .int .i64 y13.2.1), (11, .int .i64 y13.2.2.1)], [.cells [.fz Riii y13.2.2.2.2.1], .cells [.int .i64 y13.2.2.2.2.2.1, .int .i64 y13.2.2.2.2.2.2.1], .cells [.rs 3, .rs 4], .rows Ri y13.2.2.2.2.2.2.2.1, .rows Ri y13.2.2.2.2.2.2.2.2.1, .cells [.rs 6], .rows Riii y13.2.2.2.2.2.2.2.2.2]⟩) [92] (by kernel_rfl) ?_
            exact hj3 _ h
        ·
          intro h
          refine run_exit ?_
          refine cn_then_exit ?_
          refine cn_then_exit ?_
          refine cn_blk_eq ?_
          refine cn_blk ?_
          refine cn_then ?_
          refine run_reg hm hT hC (law10_BracketWins_g9 (law10_BracketWins_K d) y11) h ?_
          intro y9 h
          exact hn1 _ h
      ·
        intro h
        refine run_exit ?_
        refine cn_then_exit ?_
        refine cn_then_exit ?_
        refine cn_blk_eq ?_
        refine cn_then ?_
        refine run_seq ?_
        refine run_reg hm hT hC (law10_BracketWins_g15 (law10_BracketWins_K d) y8) h ?_
        intro y15 h
        refine cn_then ?_
        refine run_seq ?_
        refine run_reg hm hT hC (law10_BracketWins_g16 (law10_BracketWins_K d) y15) h ?_
        intro y16 h
        refine cn_then ?_
        refine run_seq ?_
        refine run_reg hm hT hC (law10_BracketWins_g17 (law10_BracketWins_K d) y16) h ?_
        intro y17 h
        refine cn_then ?_
        refine run_seq ?_
        refine run_seq ?_
        refine run_reg hm hT hC (law10_BracketWins_g18 (law10_BracketWins_K d) y17) h ?_
        intro y18 h
        refine cn_then ?_
        refine run_cond (v := y18.2.2.2.2.1) (by kernel_rfl) h ?_ ?_
        ·
          intro h
          refine run_seq ?_
          refine run_reg hm hT hC (law10_BracketWins_g19 (law10_BracketWins_K d) y18) h ?_
          intro y19 h
          refine cn_then ?_
          refine run_ret ?_
          refine cn_then_ret ?_
          cases h
          exact (hend _ (by kernel_rfl)).2
        ·
          intro h
          refine run_skip ?_
          refine cn_then ?_
          refine run_seq ?_
          refine run_seq ?_
          refine run_reg hm hT hC (law10_BracketWins_g20 (law10_BracketWins_K d) y18) h ?_
          intro y20 h
          refine cn_then ?_
          refine run_cond (v := y20.2.2.2.2) (by kernel_rfl) h ?_ ?_
          ·
            intro h
            refine run_seq ?_
            refine run_reg hm hT hC (law10_BracketWins_g21 (law10_BracketWins_K d) y20) h ?_
            intro y21 h
            refine cn_then ?_
            refine run_ret ?_
            refine cn_then_ret ?_
            cases h
            exact (hend _ (by kernel_rfl)).2
          ·
            intro h
            refine run_skip ?_
            refine cn_then ?_
            refine run_seq ?_
            refine run_reg hm hT hC (law10_BracketWins_g22 (law10_BracketWins_K d) y20) h ?_
            intro y22 h
            refine cn_then ?_
            refine run_ret ?_
            cases h
            exact (hend _ (by kernel_rfl)).2
end Go.Proofs.Ytkcpnclgcmnlcaa

namespace Go.Pel
open Go Go.RowKit
/-- x is y, or its point leads; or there is no y -/
def beats (l : List Pt) (n d x y : Int) : Prop := y < 0 ∨ x = y ∨ (0 ≤ x ∧ leads (ptOf l x) (ptOf l y) n d = true)
theorem beats_trans {l : List Pt} {n d a b c : Int} (h1 : beats l n d a b) (h2 : beats l n d b c) : beats l n d a c := by
  rcases h2 with h | rfl | ⟨h0, h⟩
  · exact .inl h
  · exact h1
  · rcases h1 with g | rfl | ⟨g0, g⟩
    · omega
    · exact .inr (.inr ⟨h0, h⟩)
    · refine .inr (.inr ⟨g0, ?_⟩)
      rw [leads_iff] at g h ⊢
      omega
theorem leads_total {p q : Pt} {n d : Int} (hid : p.id ≠ q.id) (h : leads p q n d = false) : leads q p n d = true := by
  have h' : ¬ leads p q n d = true := by rw [h]; simp
  rw [leads_iff] at h' ⊢
  omega
theorem won_beats {l : List Pt} {n d x y : Int} (hf : fieldChk l = 0) (hx : Ok l x) (hy : Ok l y) : beats l n d (wonV l n d x y) x ∧ beats l n d (wonV l n d x y) y := by
  have hinc := (fieldChk_zero hf).2.2
  by_cases hc : x < 0 ∨ y < 0
  · unfold wonV
    rw [if_pos hc]
    split
    · exact ⟨.inl (by omega), .inr (.inl rfl)⟩
    · exact ⟨.inr (.inl rfl), .inl (by omega)⟩
  · have hx' : hasB l x = true := by rcases hx with rfl | h; omega; exact h
    have hy' : hasB l y = true := by rcases hy with rfl | h; omega; exact h
    unfold wonV
    rw [if_neg hc]
    split
    · rename_i hl; exact ⟨.inr (.inl rfl), .inr (.inr ⟨by omega, hl⟩)⟩
    · rename_i hl
      refine ⟨?_, .inr (.inl rfl)⟩
      by_cases he : y = x
      · exact .inr (.inl he)
      · refine .inr (.inr ⟨by omega, leads_total ?_ (by simpa using hl)⟩)
        rw [(ptOf_eq hinc hx').2.1, (ptOf_eq hinc hy').2.1]
        exact fun h => he h.symm
theorem ok_all {l : List Pt} {n d : Int} {P W : List Int} (hl : W.length + 1 = P.length) (hk : knownB l P = true) (hf : Fine l n d P W) : ∀ (m j : Nat), j + m = W.length + P.length → 0 < m → Ok l (nodeV P W j) := by
  intro m
  induction m using Nat.strongRecOn with
  | _ m ih =>
    intro j hj hm
    by_cases h : j < W.length
    · have e : nodeV P W j = downV l n d P W j := by unfold nodeV; rw [if_pos h]; exact hf j h
      rw [e]
      exact won_ok (ih (m - (j + 1)) (by omega) (2 * j + 1) (by omega) (by omega)) (ih (m - (j + 2)) (by omega) (2 * j + 2) (by omega) (by omega))
    · have e : nodeV P W j = P.getD (j - W.length) 0 := by unfold nodeV; rw [if_neg h]
      rw [e]
      exact known_ok hk (getD_mem (by omega))
theorem node_mem {l : List Pt} {n d : Int} {P W : List Int} (hl : W.length + 1 = P.length) (hf : Fine l n d P W) : ∀ (m j : Nat), j + m = W.length + P.length → 0 < m → nodeV P W j ∈ P := by
  intro m
  induction m using Nat.strongRecOn with
  | _ m ih =>
    intro j hj hm
    by_cases h : j < W.length
    · have e : nodeV P W j = downV l n d P W j := by unfold nodeV; rw [if_pos h]; exact hf j h
      rw [e]
      unfold downV
      rcases (won_val l n d (nodeV P W (2 * j + 1)) (nodeV P W (2 * j + 2))).1 with h1 | h1 <;> rw [h1]
      · exact ih (m - (j + 1)) (by omega) (2 * j + 1) (by omega) (by omega)
      · exact ih (m - (j + 2)) (by omega) (2 * j + 2) (by omega) (by omega)
    · have e : nodeV P W j = P.getD (j - W.length) 0 := by unfold nodeV; rw [if_neg h]
      rw [e]
      exact getD_mem (by omega)
theorem root_beats {l : List Pt} {n d : Int} {P W : List Int} (hc : fieldChk l = 0) (hl : W.length + 1 = P.length) (hk : knownB l P = true) (hf : Fine l n d P W) : ∀ j, j < W.length + P.length → beats l n d (nodeV P W 0) (nodeV P W j) := by
  have hok : ∀ j, j < W.length + P.length → Ok l (nodeV P W j) := fun j hj => ok_all hl hk hf (W.length + P.length - j) j (by omega) (by omega)
  intro j
  induction j using Nat.strongRecOn with
  | _ j ih =>
    intro hj
    cases j with
    | zero => exact .inr (.inl rfl)
    | succ j =>
      refine beats_trans (ih (j / 2) (by omega) (by omega)) ?_
      have hlt : j / 2 < W.length := by omega
      have e : nodeV P W (j / 2) = downV l n d P W (j / 2) := by unfold nodeV; rw [if_pos hlt]; exact hf _ hlt
      obtain ⟨b1, b2⟩ := won_beats (n := n) (d := d) hc (hok (2 * (j / 2) + 1) (by omega)) (hok (2 * (j / 2) + 2) (by omega))
      rw [e]
      by_cases hp : j + 1 = 2 * (j / 2) + 1
      · rw [hp]; exact b1
      · rw [show j + 1 = 2 * (j / 2) + 2 by omega]; exact b2
theorem timed_filter {l : List Pt} {n d : Int} (c : Pt → Bool) (h : timed l n d = 0) : timed (l.filter c) n d = 0 := by
  obtain ⟨h1, h2, _⟩ := timed_zero h
  obtain ⟨f1, f2, f3⟩ := fieldChk_zero h1
  have hf : fieldChk (l.filter c) = 0 := by
    unfold fieldChk
    have := List.length_filter_le c l
    rw [if_neg (by omega), if_pos (fun p hp => f2 p (List.mem_filter.1 hp).1), if_pos]
    rw [incB_pw] at f3 ⊢
    exact f3.filter c
  unfold timed; rw [if_neg (fun h => h hf)]; exact h2
theorem leader_is {g : List Pt} {n d : Int} {p : Pt} (h : timed g n d = 0) (hp : p ∈ g) (hq : ∀ q ∈ g, q = p ∨ leads p q n d = true) : fieldLeader g n d = (p.id, 0) := by
  obtain ⟨h1, _, h3⟩ := timed_zero h
  have hinc := (fieldChk_zero h1).2.2
  have hpw := sortP_pairwise (n := n) (d := d) (idsApart_inc hinc) (ids_nodup hinc)
  have hm : p ∈ sortP n d g := (sortP_perm n d g).mem_iff.2 hp
  cases hs : sortP n d g with
  | nil => rw [hs] at hm; cases hm
  | cons s r =>
    have hs0 : s ∈ g := (sortP_perm n d g).mem_iff.1 (by rw [hs]; exact List.mem_cons_self ..)
    have : s = p := by
      rw [hs] at hm hpw
      rcases List.mem_cons.1 hm with h | h
      · exact h.symm
      · have hl := (List.pairwise_cons.1 hpw).1 p h
        rcases hq s hs0 with h2 | h2
        · exact h2
        · exact absurd h2 (fun h2 => leads_asymm hl h2)
    rw [leader_at h (p := s) (by rw [hs]; rfl), this]
theorem leader_nil {n d : Int} {l : List Pt} (h : timed l n d = 0) : fieldLeader [] n d = (0, 42) := by
  have h0 := timed_filter (fun _ => false) h
  rw [show l.filter (fun _ => false) = [] by simp] at h0
  obtain ⟨_, _, h3⟩ := timed_zero h0
  unfold fieldLeader; rw [h3]; simp only
  rw [if_neg (fun h => h rfl)]
  have := (sortP_perm n d []).length_eq
  rw [List.length_nil] at this
  rw [List.eq_nil_of_length_eq_zero this]
/-- the points of a list of IDs -/
def inPts (l : List Pt) (Q : List Int) : List Pt := l.filter fun p => Q.contains p.id
theorem winner_leads {l : List Pt} {n d : Int} {Q : List Int} (ht : timed l n d = 0) (h1 : 1 ≤ Q.length) (hk : knownB l Q = true) :
    (inPts l Q = [] ∧ nodeV Q (builtB l n d Q) 0 < 0) ∨ (inPts l Q ≠ [] ∧ 0 ≤ nodeV Q (builtB l n d Q) 0 ∧ fieldLeader (inPts l Q) n d = (nodeV Q (builtB l n d Q) 0, 0)) := by
  have hc := (timed_zero ht).1
  have hinc := (fieldChk_zero hc).2.2
  have hl : (builtB l n d Q).length + 1 = Q.length := by rw [builtB_len]; omega
  have hb := root_beats hc hl hk (builtB_fine l n d Q)
  have hwQ := node_mem hl (builtB_fine l n d Q) ((builtB l n d Q).length + Q.length) 0 (by omega) (by omega)
  generalize nodeV Q (builtB l n d Q) 0 = w at hb hwQ ⊢
  -- the root is one of the IDs
  have hmem : ∀ x ∈ Q, beats l n d w x := fun x hx => by
    obtain ⟨q, hq⟩ := List.mem_iff_getElem?.1 hx
    have := hb ((builtB l n d Q).length + q) (by have := (List.getElem?_eq_some_iff.1 hq).1; omega)
    rwa [nodeV_place hq] at this
  have hpt : ∀ p ∈ inPts l Q, p ∈ l ∧ p.id ∈ Q := fun p hp => by
    unfold inPts at hp
    have := List.mem_filter.1 hp
    exact ⟨this.1, List.contains_iff_mem.1 this.2⟩
  have hid : ∀ p ∈ l, 0 ≤ p.id := fun p hp => (has_nonneg hc (hasB_mem hp)).1
  have hself : ∀ p ∈ l, ptOf l p.id = p := fun p hp => by
    obtain ⟨e1, e2, e3⟩ := ptOf_eq hinc (hasB_mem hp)
    exact idsApart_inc hinc _ e3 _ hp e2
  by_cases h0 : w < 0
  · refine .inl ⟨?_, h0⟩
    cases hg : inPts l Q with
    | nil => rfl
    | cons p r =>
      exfalso
      obtain ⟨a, b⟩ := hpt p (by rw [hg]; exact List.mem_cons_self ..)
      have := hid p a
      rcases hmem _ b with h | h | h <;> omega
  · have hw : hasB l w = true := by
      rcases known_ok hk hwQ with h | h
      · omega
      · exact h
    obtain ⟨_, e2, e3⟩ := ptOf_eq hinc hw
    have hin : ptOf l w ∈ inPts l Q := by
      unfold inPts
      exact List.mem_filter.2 ⟨e3, by rw [e2]; exact List.contains_iff_mem.2 hwQ⟩
    refine .inr ⟨fun h => (by rw [h] at hin; cases hin), by omega, ?_⟩
    have := leader_is (timed_filter (fun p => Q.contains p.id) ht) hin fun q hq => by
      obtain ⟨a, b⟩ := hpt q hq
      have := hid q a
      rcases hmem _ b with h | h | h
      · omega
      · left; rw [h, hself q a]
      · right; have h2 := h.2; rwa [hself q a] at h2
    rw [e2] at this
    exact this
end Go.Pel
