/- Walks of the references; the orders agree; examples. -/
import Derived.TacticsInMore
import Derived.LoopIn
import Derived.LoopNIn
import Derived.Test.YtmagihjfbembjaaGf
set_option linter.unusedSimpArgs false
set_option linter.unusedVariables false
namespace Go.Proofs.Ytmagihjfbembjaa
open Go Go.Tx Go.Proofs.Try
set_option maxRecDepth 100000
set_option maxHeartbeats 0
abbrev ref32_Great_ps : List Pk := [.row RLiiiE true]
abbrev ref32_Great_X : Type := DLiiiE × Unit
abbrev ref32_Great_R : Type := Bool
def ref32_Great_enc (r : ref32_Great_R) : LV × List Ob := (.bool r, [])
def ref32_Great_sp (F : ref32_Great_X → Option ref32_Great_R) : Go.Tx.Spec := ⟨26, ref32_Great_ps, ref32_Great_R, F, ref32_Great_enc⟩
abbrev ref32_Great_C : Type := Unit
def ref32_Great_K (_d : Nat) : ref32_Great_C := ()
def ref32_Great_tab (C : ref32_Great_C) : List Go.Tx.Spec := []
abbrev ref32_Great_Y0i : Type := List Diii
def ref32_Great_S0i (v : ref32_Great_Y0i) : St := ⟨[(0, .agg [.fz Riii v])], []⟩
abbrev ref32_Great_Y0 : Type := List Diii
def ref32_Great_S0 (v : ref32_Great_Y0) : St := ⟨[(1, .ptr 0 0)], [.cells [.fz Riii v]]⟩
def ref32_Great_r0 (C : ref32_Great_C) (v : ref32_Great_Y0i) : Dt ref32_Great_Y0 := (Dt.ret v)
theorem ref32_Great_g0 (C : ref32_Great_C) (v : ref32_Great_Y0i) : treg tysT (orc (ref32_Great_tab C)) 19 (regO (bodyOf f26) 0) false [(1, (.box [.val Riii]))] (ref32_Great_S0i v) some = (ref32_Great_r0 C v).eval fun y => some (ref32_Great_S0 y) := by kernel_rfl
abbrev ref32_Great_Y1 : Type := Bool
def ref32_Great_S1 (v : ref32_Great_Y1) : St := ⟨[(2, .bool v)], []⟩
def ref32_Great_r1 (C : ref32_Great_C) (v : ref32_Great_Y0) : Dt ref32_Great_Y1 := (Dt.ite (decide ((List.length v : Int) > (16:Int))) (Dt.ite (decide ((List.length v : Int) ≤ (64:Int))) (Dt.ret true) (Dt.ret (decide ((List.length v : Int) > (70:Int))))) (Dt.ret (decide ((List.length v : Int) > (70:Int)))))
theorem ref32_Great_g1 (C : ref32_Great_C) (v : ref32_Great_Y0) : treg tysT (orc (ref32_Great_tab C)) 19 (regO (bodyOf f26) 1) false [(2, .any)] (ref32_Great_S0 v) some = (ref32_Great_r1 C v).eval fun y => some (ref32_Great_S1 y) := by kernel_rfl
def F_ref32_Great (d : Nat) (x : ref32_Great_X) : Option ref32_Great_R :=
  (ref32_Great_r0 (ref32_Great_K d) x.1.1).eval fun y0 =>
  (ref32_Great_r1 (ref32_Great_K d) y0).eval fun y1 =>
  some y1
theorem ref32_Great_cok (d : Nat) : COK prog (ref32_Great_sp (F_ref32_Great d)) := by
  have hm : prog.follows .mixedOrders = true := mixed
  have hT := tys
  have hC0 : OrcOK prog (orc (ref32_Great_tab (ref32_Great_K d))) := orc_ok (by
    intro S hS
    simp only [ref32_Great_tab, List.mem_cons, List.not_mem_nil, or_false] at hS
    all_goals first | cases hS | exact hS.elim)
  have hC : OrcOK prog (orc (ref32_Great_tab (ref32_Great_K d))) := hC0
  refine cok_of (c := bodyOf f26) (fn := f26) hT (by kernel_rfl) (by kernel_rfl) (by decide) fun x r h w0 φ0 Q hend => ?_
  replace h : F_ref32_Great d x = some r := h
  unfold F_ref32_Great at h
  show Run prog w0 φ0 19 (bodyOf f26) ⟨[(0, .agg [.fz Riii x.1.1])], []⟩ Q
  refine run_seq ?_
  refine run_reg hm hT hC (ref32_Great_g0 (ref32_Great_K d) x.1.1) h ?_
  intro y0 h
  refine cn_then ?_
  refine run_seq ?_
  refine run_reg hm hT hC (ref32_Great_g1 (ref32_Great_K d) y0) h ?_
  intro y1 h
  refine cn_then ?_
  refine run_ret ?_
  cases h
  exact (hend _ (by kernel_rfl)).2
abbrev law34_example_ps : List Pk := []
abbrev law34_example_X : Type := Unit
abbrev law34_example_R : Type := List Diii
def law34_example_enc (r : law34_example_R) : LV × List Ob := (.agg [.rs 0], [.rows Riii r])
def law34_example_sp (F : law34_example_X → Option law34_example_R) : Go.Tx.Spec := ⟨49, law34_example_ps, law34_example_R, F, law34_example_enc⟩
abbrev law34_example_C : Type := Unit
def law34_example_K (_d : Nat) : law34_example_C := ()
def law34_example_tab (C : law34_example_C) : List Go.Tx.Spec := []
abbrev law34_example_Y0i : Type := Unit
def law34_example_S0i (v : law34_example_Y0i) : St := ⟨[], []⟩
abbrev law34_example_Y0 : Type := List Diii
def law34_example_S0 (v : law34_example_Y0) : St := ⟨[(0, .ptr 0 0)], [.cells [.rs 1], .rows Riii v]⟩
def law34_example_r0 (C : law34_example_C) (v : law34_example_Y0i) : Dt law34_example_Y0 := (Dt.ret ([] : List Diii))
theorem law34_example_g0 (C : law34_example_C) (v : law34_example_Y0i) : treg tysT (orc (law34_example_tab C)) 6 (regO (bodyOf f49) 0) false [(0, (.box [.own Riii]))] (law34_example_S0i v) some = (law34_example_r0 C v).eval fun y => some (law34_example_S0 y) := by kernel_rfl
def law34_example_r1 (C : law34_example_C) (v : law34_example_Y0) : Dt law34_example_Y0 := (Dt.ret ([((1:Int), (0:Int), (2:Int), ()), ((2:Int), (6:Int), (-1:Int), ()), ((5:Int), (0:Int), (0:Int), ())] : List Diii))
theorem law34_example_g1 (C : law34_example_C) (v : law34_example_Y0) : treg tysT (orc (law34_example_tab C)) 6 (regO (bodyOf f49) 1) false [(0, (.box [.own Riii]))] (law34_example_S0 v) some = (law34_example_r1 C v).eval fun y => some (law34_example_S0 y) := by kernel_rfl
def F_law34_example (d : Nat) (x : law34_example_X) : Option law34_example_R :=
  (law34_example_r0 (law34_example_K d) ()).eval fun y0 =>
  (law34_example_r1 (law34_example_K d) y0).eval fun y1 =>
  some y1
theorem law34_example_cok (d : Nat) : COK prog (law34_example_sp (F_law34_example d)) := by
  have hm : prog.follows .mixedOrders = true := mixed
  have hT := tys
  have hC0 : OrcOK prog (orc (law34_example_tab (law34_example_K d))) := orc_ok (by
    intro S hS
    simp only [law34_example_tab, List.mem_cons, List.not_mem_nil, or_false] at hS
    all_goals first | cases hS | exact hS.elim)
  have hC : OrcOK prog (orc (law34_example_tab (law34_example_K d))) := hC0
  refine cok_of (c := bodyOf f49) (fn := f49) hT (by kernel_rfl) (by kernel_rfl) (by decide) fun x r h w0 φ0 Q hend => ?_
  replace h : F_law34_example d x = some r := h
  unfold F_law34_example at h
  show Run prog w0 φ0 6 (bodyOf f49) ⟨[], []⟩ Q
  refine run_seq ?_
  refine run_reg hm hT hC (law34_example_g0 (law34_example_K d) ()) h ?_
  intro y0 h
  refine cn_then ?_
  refine run_seq ?_
  refine run_reg hm hT hC (law34_example_g1 (law34_example_K d) y0) h ?_
  intro y1 h
  refine cn_then ?_
  refine run_ret ?_
  cases h
  exact (hend _ (by kernel_rfl)).2
abbrev law34_whole_ps : List Pk := [.row Ri false]
abbrev law34_whole_X : Type := Di × Unit
abbrev law34_whole_R : Type := Int × Int
def law34_whole_enc (r : law34_whole_R) : LV × List Ob := (.agg [.int .i64 r.1, .int .i64 r.2], [])
def law34_whole_sp (F : law34_whole_X → Option law34_whole_R) : Go.Tx.Spec := ⟨50, law34_whole_ps, law34_whole_R, F, law34_whole_enc⟩
abbrev law34_whole_C : Type := Unit
def law34_whole_K (_d : Nat) : law34_whole_C := ()
def law34_whole_tab (C : law34_whole_C) : List Go.Tx.Spec := []
abbrev law34_whole_Y0i : Type := Int
def law34_whole_S0i (v : law34_whole_Y0i) : St := ⟨[(0, .int .i64 v)], []⟩
abbrev law34_whole_Y0 : Type := Int × Int × Int
def law34_whole_S0 (v : law34_whole_Y0) : St := ⟨[(0, .int .i64 v.1), (2, .ptr 0 0)], [.cells [.int .i64 v.2.1, .int .i64 v.2.2]]⟩
def law34_whole_r0 (C : law34_whole_C) (v : law34_whole_Y0i) : Dt law34_whole_Y0 := (Dt.ret (v, (0:Int), (0:Int)))
theorem law34_whole_g0 (C : law34_whole_C) (v : law34_whole_Y0i) : treg tysT (orc (law34_whole_tab C)) 5 (regO (bodyOf f50) 0) false [(0, .any), (2, .any)] (law34_whole_S0i v) some = (law34_whole_r0 C v).eval fun y => some (law34_whole_S0 y) := by kernel_rfl
abbrev law34_whole_Y1 : Type := Int × Int
def law34_whole_S1 (v : law34_whole_Y1) : St := ⟨[(2, .ptr 0 0)], [.cells [.int .i64 v.1, .int .i64 v.2]]⟩
def law34_whole_r1 (C : law34_whole_C) (v : law34_whole_Y0) : Dt law34_whole_Y1 := (Dt.ret (v.1, (1:Int)))
theorem law34_whole_g1 (C : law34_whole_C) (v : law34_whole_Y0) : treg tysT (orc (law34_whole_tab C)) 5 (regO (bodyOf f50) 1) false [(2, .any)] (law34_whole_S0 v) some = (law34_whole_r1 C v).eval fun y => some (law34_whole_S1 y) := by kernel_rfl
def F_law34_whole (d : Nat) (x : law34_whole_X) : Option law34_whole_R :=
  (law34_whole_r0 (law34_whole_K d) x.1.1).eval fun y0 =>
  (law34_whole_r1 (law34_whole_K d) y0).eval fun y1 =>
  some y1
theorem law34_whole_cok (d : Nat) : COK prog (law34_whole_sp (F_law34_whole d)) := by
  have hm : prog.follows .mixedOrders = true := mixed
  have hT := tys
  have hC0 : OrcOK prog (orc (law34_whole_tab (law34_whole_K d))) := orc_ok (by
    intro S hS
    simp only [law34_whole_tab, List.mem_cons, List.not_mem_nil, or_false] at hS
    all_goals first | cases hS | exact hS.elim)
  have hC : OrcOK prog (orc (law34_whole_tab (law34_whole_K d))) := hC0
  refine cok_of (c := bodyOf f50) (fn := f50) hT (by kernel_rfl) (by kernel_rfl) (by decide) fun x r h w0 φ0 Q hend => ?_
  replace h : F_law34_whole d x = some r := h
  unfold F_law34_whole at h
  show Run prog w0 φ0 5 (bodyOf f50) ⟨[(0, .int .i64 x.1.1)], []⟩ Q
  refine run_seq ?_
  refine run_reg hm hT hC (law34_whole_g0 (law34_whole_K d) x.1.1) h ?_
  intro y0 h
  refine cn_then ?_
  refine run_seq ?_
  refine run_reg hm hT hC (law34_whole_g1 (law34_whole_K d) y0) h ?_
  intro y1 h
  refine cn_then ?_
  refine run_ret ?_
  cases h
  exact (hend _ (by kernel_rfl)).2
abbrev law34_alive_ps : List Pk := []
abbrev law34_alive_X : Type := Unit
abbrev law34_alive_R : Type := Bool
def law34_alive_enc (r : law34_alive_R) : LV × List Ob := (.bool r, [])
def law34_alive_sp (F : law34_alive_X → Option law34_alive_R) : Go.Tx.Spec := ⟨41, law34_alive_ps, law34_alive_R, F, law34_alive_enc⟩
abbrev law34_alive_C : Type := (chase_Next_X → Option chase_Next_R) × (chase_Plan_X → Option chase_Plan_R) × (chase_Chain_X → Option chase_Chain_R) × (ref04_Same_X → Option ref04_Same_R) × (chase_Catch_X → Option chase_Catch_R) × (law34_example_X → Option law34_example_R) × (law34_whole_X → Option law34_whole_R) × Unit
def law34_alive_K (d : Nat) : law34_alive_C := (F_chase_Next d, F_chase_Plan d, F_chase_Chain d, F_ref04_Same d, F_chase_Catch d, F_law34_example d, F_law34_whole d, ())
def law34_alive_tab (C : law34_alive_C) : List Go.Tx.Spec := [chase_Next_sp C.1, chase_Plan_sp C.2.1, chase_Chain_sp C.2.2.1, ref04_Same_sp C.2.2.2.1, chase_Catch_sp C.2.2.2.2.1, law34_example_sp C.2.2.2.2.2.1, law34_whole_sp C.2.2.2.2.2.2.1]
abbrev law34_alive_Y0i : Type := Unit
def law34_alive_S0i (v : law34_alive_Y0i) : St := ⟨[], []⟩
def law34_alive_r0 (C : law34_alive_C) (v : law34_alive_Y0i) : Dt law34_alive_Y0i := (Dt.ret ())
theorem law34_alive_g0 (C : law34_alive_C) (v : law34_alive_Y0i) : treg tysT (orc (law34_alive_tab C)) 90 (regO (bodyOf f41) 0) false [] (law34_alive_S0i v) some = (law34_alive_r0 C v).eval fun y => some (law34_alive_S0i y) := by kernel_rfl
abbrev law34_alive_Y1 : Type := List Diii
def law34_alive_S1 (v : law34_alive_Y1) : St := ⟨[(1, .ptr 0 0)], [.cells [.fz Riii v]]⟩
def law34_alive_r1 (C : law34_alive_C) (v : law34_alive_Y0i) : Dt law34_alive_Y1 := (Dt.bnd (C.2.2.2.2.2.1 (())) fun r1 => (Dt.ret r1))
theorem law34_alive_g1 (C : law34_alive_C) (v : law34_alive_Y0i) : treg tysT (orc (law34_alive_tab C)) 90 (regO (bodyOf f41) 1) false [(1, (.box [.val Riii]))] (law34_alive_S0i v) some = (law34_alive_r1 C v).eval fun y => some (law34_alive_S1 y) := by kernel_rfl
abbrev law34_alive_Y2 : Type := Int × List Diii × Int × Int × Int × Int
def law34_alive_S2 (v : law34_alive_Y2) : St := ⟨[(1, .ptr 0 0), (2, .ptr 1 0), (3, .int .i64 v.1)], [.cells [.fz Riii v.2.1], .cells [.int .i64 v.2.2.1, .int .i64 v.2.2.2.1, .int .i64 v.2.2.2.2.1, .int .i64 v.2.2.2.2.2]]⟩
def law34_alive_r2 (C : law34_alive_C) (v : law34_alive_Y1) : Dt law34_alive_Y2 := (Dt.bnd (C.2.2.2.2.2.2.1 (((0:Int), ()), ())) fun r1 => (Dt.bnd (C.1 ((v, ()), ((1:Int), ()), (r1.1, r1.2, ()), ())) fun r2 => (Dt.ret (r2.2.2.2.2, v, r2.1, r2.2.1, r2.2.2.1, r2.2.2.2.1))))
theorem law34_alive_g2 (C : law34_alive_C) (v : law34_alive_Y1) : treg tysT (orc (law34_alive_tab C)) 90 (regO (bodyOf f41) 2) true [(1, (.box [.val Riii])), (2, .any), (3, .any)] (law34_alive_S1 v) some = (law34_alive_r2 C v).eval fun y => some (law34_alive_S2 y) := by kernel_rfl
abbrev law34_alive_Y3 : Type := Int × List Diiii × Int × List Diii × Int × Int × Int × Int
def law34_alive_S3 (v : law34_alive_Y3) : St := ⟨[(1, .ptr 0 0), (2, .ptr 1 0), (3, .int .i64 v.1), (4, .fz Riiii v.2.1), (5, .int .i64 v.2.2.1)], [.cells [.fz Riii v.2.2.2.1], .cells [.int .i64 v.2.2.2.2.1, .int .i64 v.2.2.2.2.2.1, .int .i64 v.2.2.2.2.2.2.1, .int .i64 v.2.2.2.2.2.2.2]]⟩
def law34_alive_r3 (C : law34_alive_C) (v : law34_alive_Y2) : Dt law34_alive_Y3 := (Dt.bnd (C.2.2.2.2.2.2.1 (((0:Int), ()), ())) fun r1 => (Dt.bnd (C.2.1 ((v.2.1, ()), ((2:Int), ()), (r1.1, r1.2, ()), ((9:Int), ()), ())) fun r2 => (Dt.ret (v.1, r2.1, r2.2, v.2.1, v.2.2.1, v.2.2.2.1, v.2.2.2.2.1, v.2.2.2.2.2))))
theorem law34_alive_g3 (C : law34_alive_C) (v : law34_alive_Y2) : treg tysT (orc (law34_alive_tab C)) 90 (regO (bodyOf f41) 3) true [(1, (.box [.val Riii])), (2, .any), (3, .any), (4, (.val Riiii)), (5, .any)] (law34_alive_S2 v) some = (law34_alive_r3 C v).eval fun y => some (law34_alive_S3 y) := by kernel_rfl
abbrev law34_alive_Y4 : Type := Int × List Diiii × Int × Int × List Diii × Int × Int × Int × Int × List Diiii
def law34_alive_S4 (v : law34_alive_Y4) : St := ⟨[(1, .ptr 0 0), (2, .ptr 1 0), (3, .int .i64 v.1), (4, .fz Riiii v.2.1), (5, .int .i64 v.2.2.1), (6, .rs 2), (7, .int .i64 v.2.2.2.1)], [.cells [.fz Riii v.2.2.2.2.1], .cells [.int .i64 v.2.2.2.2.2.1, .int .i64 v.2.2.2.2.2.2.1, .int .i64 v.2.2.2.2.2.2.2.1, .int .i64 v.2.2.2.2.2.2.2.2.1], .rows Riiii v.2.2.2.2.2.2.2.2.2]⟩
def law34_alive_r4 (C : law34_alive_C) (v : law34_alive_Y3) : Dt law34_alive_Y4 := (Dt.bnd (C.2.2.2.2.2.2.1 (((0:Int), ()), ())) fun r1 => (Dt.bnd (C.2.2.1 ((v.2.2.2.1, ()), ((5:Int), ()), (r1.1, r1.2, ()), ((9:Int), ()), ())) fun r2 => (Dt.ret (v.1, v.2.1, v.2.2.1, r2.2, v.2.2.2.1, v.2.2.2.2.1, v.2.2.2.2.2.1, v.2.2.2.2.2.2.1, v.2.2.2.2.2.2.2, r2.1))))
theorem law34_alive_g4 (C : law34_alive_C) (v : law34_alive_Y3) : treg tysT (orc (law34_alive_tab C)) 90 (regO (bodyOf f41) 4) true [(1, (.box [.val Riii])), (2, .any), (3, .any), (4, (.val Riiii)), (5, .any), (6, (.own Riiii)), (7, .any)] (law34_alive_S3 v) some = (law34_alive_r4 C v).eval fun y => some (law34_alive_S4 y) := by kernel_rfl
abbrev law34_alive_Y5 : Type := Int × List Diiii × Int × Int × Int × List Diii × Int × Int × Int × Int × List Diiii × Int × Int
def law34_alive_S5 (v : law34_alive_Y5) : St := ⟨[(1, .ptr 0 0), (2, .ptr 1 0), (3, .int .i64 v.1), (4, .fz Riiii v.2.1), (5, .int .i64 v.2.2.1), (6, .rs 2), (7, .int .i64 v.2.2.2.1), (8, .ptr 3 0), (9, .int .i64 v.2.2.2.2.1)], [.cells [.fz Riii v.2.2.2.2.2.1], .cells [.int .i64 v.2.2.2.2.2.2.1, .int .i64 v.2.2.2.2.2.2.2.1, .int .i64 v.2.2.2.2.2.2.2.2.1, .int .i64 v.2.2.2.2.2.2.2.2.2.1], .rows Riiii v.2.2.2.2.2.2.2.2.2.2.1, .cells [.int .i64 v.2.2.2.2.2.2.2.2.2.2.2.1, .int .i64 v.2.2.2.2.2.2.2.2.2.2.2.2]]⟩
def law34_alive_r5 (C : law34_alive_C) (v : law34_alive_Y4) : Dt law34_alive_Y5 := (Dt.bnd (C.2.2.2.2.2.2.1 (((0:Int), ()), ())) fun r1 => (Dt.bnd (C.2.2.2.2.1 ((v.2.2.2.2.1, ()), ((1:Int), ()), ((2:Int), ()), (r1.1, r1.2, ()), ())) fun r2 => (Dt.ret (v.1, v.2.1, v.2.2.1, v.2.2.2.1, r2.2.2, v.2.2.2.2.1, v.2.2.2.2.2.1, v.2.2.2.2.2.2.1, v.2.2.2.2.2.2.2.1, v.2.2.2.2.2.2.2.2.1, v.2.2.2.2.2.2.2.2.2, r2.1, r2.2.1))))
theorem law34_alive_g5 (C : law34_alive_C) (v : law34_alive_Y4) : treg tysT (orc (law34_alive_tab C)) 90 (regO (bodyOf f41) 5) true [(1, (.box [.val Riii])), (2, .any), (3, .any), (4, (.val Riiii)), (5, .any), (6, (.own Riiii)), (7, .any), (8, .any), (9, .any)] (law34_alive_S4 v) some = (law34_alive_r5 C v).eval fun y => some (law34_alive_S5 y) := by kernel_rfl
abbrev law34_alive_Y6 : Type := Int × List Diiii × Int × Int × Int × Int × Int × Int × Int × Int × List Diiii × Int × Int
def law34_alive_S6 (v : law34_alive_Y6) : St := ⟨[(2, .ptr 0 0), (3, .int .i64 v.1), (4, .fz Riiii v.2.1), (5, .int .i64 v.2.2.1), (6, .rs 1), (7, .int .i64 v.2.2.2.1), (8, .ptr 2 0), (9, .int .i64 v.2.2.2.2.1), (11, .int .i64 v.2.2.2.2.2.1)], [.cells [.int .i64 v.2.2.2.2.2.2.1, .int .i64 v.2.2.2.2.2.2.2.1, .int .i64 v.2.2.2.2.2.2.2.2.1, .int .i64 v.2.2.2.2.2.2.2.2.2.1], .rows Riiii v.2.2.2.2.2.2.2.2.2.2.1, .cells [.int .i64 v.2.2.2.2.2.2.2.2.2.2.2.1, .int .i64 v.2.2.2.2.2.2.2.2.2.2.2.2]]⟩
def law34_alive_r6 (C : law34_alive_C) (v : law34_alive_Y5) : Dt law34_alive_Y6 := (Dt.bnd (C.2.2.2.2.2.2.1 (((2:Int), ()), ())) fun r1 => (Dt.bnd (C.1 ((v.2.2.2.2.2.1, ()), ((1:Int), ()), (r1.1, r1.2, ()), ())) fun r2 => (Dt.ret (v.1, v.2.1, v.2.2.1, v.2.2.2.1, v.2.2.2.2.1, r2.2.2.2.2, v.2.2.2.2.2.2.1, v.2.2.2.2.2.2.2.1, v.2.2.2.2.2.2.2.2.1, v.2.2.2.2.2.2.2.2.2.1, v.2.2.2.2.2.2.2.2.2.2.1, v.2.2.2.2.2.2.2.2.2.2.2.1, v.2.2.2.2.2.2.2.2.2.2.2.2))))
theorem law34_alive_g6 (C : law34_alive_C) (v : law34_alive_Y5) : treg tysT (orc (law34_alive_tab C)) 90 (regO (bodyOf f41) 6) true [(2, .any), (3, .any), (4, (.val Riiii)), (5, .any), (6, (.own Riiii)), (7, .any), (8, .any), (9, .any), (11, .any)] (law34_alive_S5 v) some = (law34_alive_r6 C v).eval fun y => some (law34_alive_S6 y) := by kernel_rfl
abbrev law34_alive_Y7 : Type := Int × List Diiii × Int × Int × Int × Int × Int × Int × Int × Int × List Diiii × Int × Int × Int × Int × Int × Int × Int × Int × Int × Int
def law34_alive_S7 (v : law34_alive_Y7) : St := ⟨[(2, .ptr 0 0), (3, .int .i64 v.1), (4, .fz Riiii v.2.1), (5, .int .i64 v.2.2.1), (6, .rs 1), (7, .int .i64 v.2.2.2.1), (8, .ptr 2 0), (9, .int .i64 v.2.2.2.2.1), (11, .int .i64 v.2.2.2.2.2.1), (12, .ptr 3 0), (13, .ptr 4 0)], [.cells [.int .i64 v.2.2.2.2.2.2.1, .int .i64 v.2.2.2.2.2.2.2.1, .int .i64 v.2.2.2.2.2.2.2.2.1, .int .i64 v.2.2.2.2.2.2.2.2.2.1], .rows Riiii v.2.2.2.2.2.2.2.2.2.2.1, .cells [.int .i64 v.2.2.2.2.2.2.2.2.2.2.2.1, .int .i64 v.2.2.2.2.2.2.2.2.2.2.2.2.1], .cells [.int .i64 v.2.2.2.2.2.2.2.2.2.2.2.2.2.1, .int .i64 v.2.2.2.2.2.2.2.2.2.2.2.2.2.2.1, .int .i64 v.2.2.2.2.2.2.2.2.2.2.2.2.2.2.2.1, .int .i64 v.2.2.2.2.2.2.2.2.2.2.2.2.2.2.2.2.1], .cells [.int .i64 v.2.2.2.2.2.2.2.2.2.2.2.2.2.2.2.2.2.1, .int .i64 v.2.2.2.2.2.2.2.2.2.2.2.2.2.2.2.2.2.2.1, .int .i64 v.2.2.2.2.2.2.2.2.2.2.2.2.2.2.2.2.2.2.2.1, .int .i64 v.2.2.2.2.2.2.2.2.2.2.2.2.2.2.2.2.2.2.2.2]]⟩
def law34_alive_r7 (C : law34_alive_C) (v : law34_alive_Y6) : Dt law34_alive_Y7 := (Dt.bnd (C.2.2.2.2.2.2.1 (((2:Int), ()), ())) fun r1 => (Dt.bnd (C.2.2.2.2.2.2.1 (((6:Int), ()), ())) fun r2 => (Dt.ret (v.1, v.2.1, v.2.2.1, v.2.2.2.1, v.2.2.2.2.1, v.2.2.2.2.2.1, v.2.2.2.2.2.2.1, v.2.2.2.2.2.2.2.1, v.2.2.2.2.2.2.2.2.1, v.2.2.2.2.2.2.2.2.2.1, v.2.2.2.2.2.2.2.2.2.2.1, v.2.2.2.2.2.2.2.2.2.2.2.1, v.2.2.2.2.2.2.2.2.2.2.2.2, r1.1, r1.2, (1:Int), (2:Int), r2.1, r2.2, (2:Int), (5:Int)))))
theorem law34_alive_g7 (C : law34_alive_C) (v : law34_alive_Y6) : treg tysT (orc (law34_alive_tab C)) 90 (regO (bodyOf f41) 7) false [(2, .any), (3, .any), (4, (.val Riiii)), (5, .any), (6, (.own Riiii)), (7, .any), (8, .any), (9, .any), (11, .any), (12, .any), (13, .any)] (law34_alive_S6 v) some = (law34_alive_r7 C v).eval fun y => some (law34_alive_S7 y) := by kernel_rfl
abbrev law34_alive_Y8 : Type := Bool
def law34_alive_S8 (v : law34_alive_Y8) : St := ⟨[(0, .bool v)], []⟩
def law34_alive_r8 (C : law34_alive_C) (v : law34_alive_Y7) : Dt law34_alive_Y8 := (Dt.ite (v.1 == (0:Int)) (Dt.ite ((v.2.2.2.2.2.2.1 == v.2.2.2.2.2.2.2.2.2.2.2.2.2.1) && ((v.2.2.2.2.2.2.2.1 == v.2.2.2.2.2.2.2.2.2.2.2.2.2.2.1) && ((v.2.2.2.2.2.2.2.2.1 == v.2.2.2.2.2.2.2.2.2.2.2.2.2.2.2.1) && ((v.2.2.2.2.2.2.2.2.2.1 == v.2.2.2.2.2.2.2.2.2.2.2.2.2.2.2.2.1) && true)))) (Dt.ite (v.2.2.1 == (0:Int)) (Dt.bnd (C.2.2.2.1 ((v.2.1, ()), (([(v.2.2.2.2.2.2.2.2.2.2.2.2.2.1, v.2.2.2.2.2.2.2.2.2.2.2.2.2.2.1, v.2.2.2.2.2.2.2.2.2.2.2.2.2.2.2.1, v.2.2.2.2.2.2.2.2.2.2.2.2.2.2.2.2.1, ()), (v.2.2.2.2.2.2.2.2.2.2.2.2.2.2.2.2.2.1, v.2.2.2.2.2.2.2.2.2.2.2.2.2.2.2.2.2.2.1, v.2.2.2.2.2.2.2.2.2.2.2.2.2.2.2.2.2.2.2.1, v.2.2.2.2.2.2.2.2.2.2.2.2.2.2.2.2.2.2.2.2, ())] : List Diiii), ()), ())) fun r1 => (Dt.ite r1 (Dt.ite (v.2.2.2.1 == (0:Int)) (Dt.bnd (C.2.2.2.1 ((v.2.2.2.2.2.2.2.2.2.2.1, ()), (([(v.2.2.2.2.2.2.2.2.2.2.2.2.2.2.2.2.2.1, v.2.2.2.2.2.2.2.2.2.2.2.2.2.2.2.2.2.2.1, v.2.2.2.2.2.2.2.2.2.2.2.2.2.2.2.2.2.2.2.1, v.2.2.2.2.2.2.2.2.2.2.2.2.2.2.2.2.2.2.2.2, ())] : List Diiii), ()), ())) fun r2 => (Dt.ite r2 (Dt.ite (v.2.2.2.2.1 == (0:Int)) (Dt.bnd (C.2.2.2.2.2.2.1 (((2:Int), ()), ())) fun r3 => (Dt.ite ((v.2.2.2.2.2.2.2.2.2.2.2.1 == r3.1) && ((v.2.2.2.2.2.2.2.2.2.2.2.2.1 == r3.2) && true)) (Dt.ret (v.2.2.2.2.2.1 == (6:Int))) (Dt.ret false))) (Dt.ret false)) (Dt.ret false))) (Dt.ret false)) (Dt.ret false))) (Dt.ret false)) (Dt.ret false)) (Dt.ret false))
theorem law34_alive_g8 (C : law34_alive_C) (v : law34_alive_Y7) : treg tysT (orc (law34_alive_tab C)) 90 (regO (bodyOf f41) 8) true [(0, .any)] (law34_alive_S7 v) some = (law34_alive_r8 C v).eval fun y => some (law34_alive_S8 y) := by kernel_rfl
def F_law34_alive (d : Nat) (x : law34_alive_X) : Option law34_alive_R :=
  (law34_alive_r0 (law34_alive_K d) ()).eval fun y0 =>
  (law34_alive_r1 (law34_alive_K d) ()).eval fun y1 =>
  (law34_alive_r2 (law34_alive_K d) y1).eval fun y2 =>
  (law34_alive_r3 (law34_alive_K d) y2).eval fun y3 =>
  (law34_alive_r4 (law34_alive_K d) y3).eval fun y4 =>
  (law34_alive_r5 (law34_alive_K d) y4).eval fun y5 =>
  (law34_alive_r6 (law34_alive_K d) y5).eval fun y6 =>
  (law34_alive_r7 (law34_alive_K d) y6).eval fun y7 =>
  (law34_alive_r8 (law34_alive_K d) y7).eval fun y8 =>
  some y8
theorem law34_alive_cok (d : Nat) : COK prog (law34_alive_sp (F_law34_alive d)) := by
  have hm : prog.follows .mixedOrders = true := mixed
  have hT := tys
  have hC0 : OrcOK prog (orc (law34_alive_tab (law34_alive_K d))) := orc_ok (by
    intro S hS
    simp only [law34_alive_tab, List.mem_cons, List.not_mem_nil, or_false] at hS
    rcases hS with rfl | rfl | rfl | rfl | rfl | rfl | rfl
    · exact chase_Next_cok d
    · exact chase_Plan_cok d
    · exact chase_Chain_cok d
    · exact ref04_Same_cok d
    · exact chase_Catch_cok d
    · exact law34_example_cok d
    · exact law34_whole_cok d)
  have hC : OrcOK prog (orc (law34_alive_tab (law34_alive_K d))) := hC0
  refine cok_of (c := bodyOf f41) (fn := f41) hT (by kernel_rfl) (by kernel_rfl) (by decide) fun x r h w0 φ0 Q hend => ?_
  replace h : F_law34_alive d x = some r := h
  unfold F_law34_alive at h
  show Run prog w0 φ0 90 (bodyOf f41) ⟨[], []⟩ Q
  refine run_seq ?_
  refine run_reg hm hT hC (law34_alive_g0 (law34_alive_K d) ()) h ?_
  intro y0 h
  refine cn_then ?_
  refine run_seq ?_
  refine run_reg hm hT hC (law34_alive_g1 (law34_alive_K d) ()) h ?_
  intro y1 h
  refine cn_then ?_
  refine run_seq ?_
  refine run_reg hm hT hC (law34_alive_g2 (law34_alive_K d) y1) h ?_
  intro y2 h
  refine cn_then ?_
  refine run_seq ?_
  refine run_reg hm hT hC (law34_alive_g3 (law34_alive_K d) y2) h ?_
  intro y3 h
  refine cn_then ?_
  refine run_seq ?_
  refine run_reg hm hT hC (law34_alive_g4 (law34_alive_K d) y3) h ?_
  intro y4 h
  refine cn_then ?_
  refine run_seq ?_
  refine run_reg hm hT hC (law34_alive_g5 (law34_alive_K d) y4) h ?_
  intro y5 h
  refine cn_then ?_
  refine run_seq ?_
  refine run_reg hm hT hC (law34_alive_g6 (law34_alive_K d) y5) h ?_
  intro y6 h
  refine cn_then ?_
  refine run_seq ?_
  refine run_reg hm hT hC (law34_alive_g7 (law34_alive_K d) y6) h ?_
  intro y7 h
  refine cn_then ?_
  refine run_seq ?_
  refine run_reg hm hT hC (law34_alive_g8 (law34_alive_K d) y7) h ?_
  intro y8 h
  refine cn_then ?_
  refine run_ret ?_
  cases h
  exact (hend _ (by kernel_rfl)).2
abbrev law34_asked_ps : List Pk := [.row RLiiiE true, .row Ri false, .row Rii true]
abbrev law34_asked_X : Type := DLiiiE × Di × Dii × Unit
abbrev law34_asked_R : Type := Bool
def law34_asked_enc (r : law34_asked_R) : LV × List Ob := (.bool r, [])
def law34_asked_sp (F : law34_asked_X → Option law34_asked_R) : Go.Tx.Spec := ⟨42, law34_asked_ps, law34_asked_R, F, law34_asked_enc⟩
abbrev law34_asked_C : Type := (ref32_Great_X → Option ref32_Great_R) × (ref03_At_X → Option ref03_At_R) × (ref03_Timed_X → Option ref03_Timed_R) × Unit
def law34_asked_K (d : Nat) : law34_asked_C := (F_ref32_Great d, F_ref03_At d, F_ref03_Timed d, ())
def law34_asked_tab (C : law34_asked_C) : List Go.Tx.Spec := [ref32_Great_sp C.1, ref03_At_sp C.2.1, ref03_Timed_sp C.2.2.1]
abbrev law34_asked_Y0i : Type := List Diii × Int × Int × Int
def law34_asked_S0i (v : law34_asked_Y0i) : St := ⟨[(0, .agg [.fz Riii v.1]), (1, .int .i64 v.2.1), (2, .agg [.int .i64 v.2.2.1, .int .i64 v.2.2.2])], []⟩
abbrev law34_asked_Y0 : Type := Int × List Diii × Int × Int
def law34_asked_S0 (v : law34_asked_Y0) : St := ⟨[(1, .int .i64 v.1), (3, .ptr 0 0), (5, .ptr 1 0)], [.cells [.fz Riii v.2.1], .cells [.int .i64 v.2.2.1, .int .i64 v.2.2.2]]⟩
def law34_asked_r0 (C : law34_asked_C) (v : law34_asked_Y0i) : Dt law34_asked_Y0 := (Dt.ret (v.2.1, v.1, v.2.2.1, v.2.2.2))
theorem law34_asked_g0 (C : law34_asked_C) (v : law34_asked_Y0i) : treg tysT (orc (law34_asked_tab C)) 22 (regO (bodyOf f42) 0) false [(1, .any), (3, (.box [.val Riii])), (5, .any)] (law34_asked_S0i v) some = (law34_asked_r0 C v).eval fun y => some (law34_asked_S0 y) := by kernel_rfl
abbrev law34_asked_Y1 : Type := Bool
def law34_asked_S1 (v : law34_asked_Y1) : St := ⟨[(6, .bool v)], []⟩
def law34_asked_r1 (C : law34_asked_C) (v : law34_asked_Y0) : Dt law34_asked_Y1 := (Dt.bnd (C.1 ((v.2.1, ()), ())) fun r1 => (Dt.ite (!r1) (Dt.bnd (C.2.2.1 ((v.2.1, ()), (v.2.2.1, v.2.2.2, ()), ())) fun r2 => (Dt.ite (r2 == (0:Int)) (Dt.bnd (C.2.1 ((v.2.1, ()), (v.1, ()), ())) fun r3 => (Dt.ret (decide (r3 ≥ (0:Int))))) (Dt.ret false))) (Dt.ret false)))
theorem law34_asked_g1 (C : law34_asked_C) (v : law34_asked_Y0) : treg tysT (orc (law34_asked_tab C)) 22 (regO (bodyOf f42) 1) false [(6, .any)] (law34_asked_S0 v) some = (law34_asked_r1 C v).eval fun y => some (law34_asked_S1 y) := by kernel_rfl
def F_law34_asked (d : Nat) (x : law34_asked_X) : Option law34_asked_R :=
  (law34_asked_r0 (law34_asked_K d) (x.1.1, x.2.1.1, x.2.2.1.1, x.2.2.1.2.1)).eval fun y0 =>
  (law34_asked_r1 (law34_asked_K d) y0).eval fun y1 =>
  some y1
theorem law34_asked_cok (d : Nat) : COK prog (law34_asked_sp (F_law34_asked d)) := by
  have hm : prog.follows .mixedOrders = true := mixed
  have hT := tys
  have hC0 : OrcOK prog (orc (law34_asked_tab (law34_asked_K d))) := orc_ok (by
    intro S hS
    simp only [law34_asked_tab, List.mem_cons, List.not_mem_nil, or_false] at hS
    rcases hS with rfl | rfl | rfl
    · exact ref32_Great_cok d
    · exact ref03_At_cok d
    · exact ref03_Timed_cok d)
  have hC : OrcOK prog (orc (law34_asked_tab (law34_asked_K d))) := hC0
  refine cok_of (c := bodyOf f42) (fn := f42) hT (by kernel_rfl) (by kernel_rfl) (by decide) fun x r h w0 φ0 Q hend => ?_
  replace h : F_law34_asked d x = some r := h
  unfold F_law34_asked at h
  show Run prog w0 φ0 22 (bodyOf f42) ⟨[(0, .agg [.fz Riii x.1.1]), (1, .int .i64 x.2.1.1), (2, .agg [.int .i64 x.2.2.1.1, .int .i64 x.2.2.1.2.1])], []⟩ Q
  refine run_seq ?_
  refine run_reg hm hT hC (law34_asked_g0 (law34_asked_K d) (x.1.1, x.2.1.1, x.2.2.1.1, x.2.2.1.2.1)) h ?_
  intro y0 h
  refine cn_then ?_
  refine run_seq ?_
  refine run_reg hm hT hC (law34_asked_g1 (law34_asked_K d) y0) h ?_
  intro y1 h
  refine cn_then ?_
  refine run_ret ?_
  cases h
  exact (hend _ (by kernel_rfl)).2
end Go.Proofs.Ytmagihjfbembjaa

namespace Go.Proofs.Ytmagihjfbembjaa
open Go Go.Tx Go.Pel
theorem cmpI64_eq (d : Nat) (a b : Int) : F_cmp_Compare_int64 d ((a, ()), (b, ()), ()) = some (cmpZ a b) := by
  simp only [F_cmp_Compare_int64, cmp_Compare_int64_K, cmp_Compare_int64_r0, cmp_Compare_int64_r1, cmp_Compare_int64_r2, cmp_Compare_int64_r3, cmp_Compare_int64_r4, cmp_Compare_int64_r5, cmp_Compare_int64_r6, cmp_Compare_int64_r7, cmp_Compare_int64_r8, cmp_Compare_int64_r9, cmp_Compare_int64_r10, cmp_Compare_int64_r11, cmp_Compare_int64_r12, cmp_Compare_int64_r13, F_cmp_isNaN_int64, cmp_isNaN_int64_K, cmp_isNaN_int64_r0, cmp_isNaN_int64_r1, Dt.eval, bne_self_eq_false, cond_false]
  unfold cmpZ
  by_cases h1 : a < b
  · simp only [h1, decide_true, cond_true, if_true]
  · by_cases h2 : b < a
    · simp only [h1, h2, gt_iff_lt, decide_true, decide_false, cond_true, cond_false, if_true, if_false]
    · simp only [h1, h2, gt_iff_lt, decide_false, cond_false, if_false]
theorem cmpU64_eq (d : Nat) (a b : Int) : F_cmp_Compare_uint64 d ((a, ()), (b, ()), ()) = some (cmpZ a b) := by
  simp only [F_cmp_Compare_uint64, cmp_Compare_uint64_K, cmp_Compare_uint64_r0, cmp_Compare_uint64_r1, cmp_Compare_uint64_r2, cmp_Compare_uint64_r3, cmp_Compare_uint64_r4, cmp_Compare_uint64_r5, cmp_Compare_uint64_r6, cmp_Compare_uint64_r7, cmp_Compare_uint64_r8, cmp_Compare_uint64_r9, cmp_Compare_uint64_r10, cmp_Compare_uint64_r11, cmp_Compare_uint64_r12, cmp_Compare_uint64_r13, F_cmp_isNaN_uint64, cmp_isNaN_uint64_K, cmp_isNaN_uint64_r0, cmp_isNaN_uint64_r1, Dt.eval, bne_self_eq_false, cond_false]
  unfold cmpZ
  by_cases h1 : a < b
  · simp only [h1, decide_true, cond_true, if_true]
  · by_cases h2 : b < a
    · simp only [h1, h2, gt_iff_lt, decide_true, decide_false, cond_true, cond_false, if_true, if_false]
    · simp only [h1, h2, gt_iff_lt, decide_false, cond_false, if_false]
theorem cmpInt_eq (d : Nat) (a b : Int) : F_cmp_Compare_int d ((a, ()), (b, ()), ()) = some (cmpZ a b) := by
  simp only [F_cmp_Compare_int, cmp_Compare_int_K, cmp_Compare_int_r0, cmp_Compare_int_r1, cmp_Compare_int_r2, cmp_Compare_int_r3, cmp_Compare_int_r4, cmp_Compare_int_r5, cmp_Compare_int_r6, cmp_Compare_int_r7, cmp_Compare_int_r8, cmp_Compare_int_r9, cmp_Compare_int_r10, cmp_Compare_int_r11, cmp_Compare_int_r12, cmp_Compare_int_r13, F_cmp_isNaN_int, cmp_isNaN_int_K, cmp_isNaN_int_r0, cmp_isNaN_int_r1, Dt.eval, bne_self_eq_false, cond_false]
  unfold cmpZ
  by_cases h1 : a < b
  · simp only [h1, decide_true, cond_true, if_true]
  · by_cases h2 : b < a
    · simp only [h1, h2, gt_iff_lt, decide_true, decide_false, cond_true, cond_false, if_true, if_false]
    · simp only [h1, h2, gt_iff_lt, decide_false, cond_false, if_false]
theorem abs_eq (d : Nat) (a : Int) (h : i64B a = true) : F_ratio_abs d ((a, ()), ()) = some (a.natAbs : Int) := by
  have h := i64B_iff h
  simp only [F_ratio_abs, ratio_abs_K, ratio_abs_r0, ratio_abs_r1, ratio_abs_r2, ratio_abs_r3, Dt.eval]
  by_cases h1 : a < 0
  · simp only [h1, decide_true, cond_true, IntKind.wrap_u64]
    exact congrArg some (by omega : ((0 : Int) - a % 18446744073709551616) % 18446744073709551616 = (a.natAbs : Int))
  · simp only [h1, decide_false, cond_false, IntKind.wrap_u64]
    exact congrArg some (by omega : (a % 18446744073709551616 : Int) = (a.natAbs : Int))
theorem times_eq (d : Nat) (a b : Int) (ha : i64B a = true) (hb : i64B b = true) : F_ratio_times d ((a, ()), (b, ()), ()) = some (!((decide (a < 0)) == (decide (b < 0))), (((a * b).natAbs / 18446744073709551616 : Nat) : Int), (((a * b).natAbs % 18446744073709551616 : Nat) : Int)) := by
  have e1 := abs_eq d a ha
  have e2 := abs_eq d b hb
  have ha' := i64B_iff ha
  have hb' := i64B_iff hb
  have e3 : F_math_bits_Mul64 d (((a.natAbs : Int), ()), ((b.natAbs : Int), ()), ()) = some (((a.natAbs : Int) * (b.natAbs : Int)) / 18446744073709551616, ((a.natAbs : Int) * (b.natAbs : Int)) % 18446744073709551616) := by
    rw [F_math_bits_Mul64_eq _ _ (by unfold math_bits_Mul64_if u64B; simp only [Bool.and_eq_true, decide_eq_true_eq]; omega)]
  simp only [F_ratio_times, ratio_times_K, ratio_times_r0, ratio_times_r1, ratio_times_r2, Dt.eval, e1, e2, e3]
  rw [Int.natAbs_mul]
  simp
theorem ltZ (a b : Int) : cmpZ a b = -1 ∧ a < b ∨ cmpZ a b = 0 ∧ a = b ∨ cmpZ a b = 1 ∧ b < a := by
  unfold cmpZ
  repeat' split
  all_goals omega
theorem ratio_compare_eq (d : Nat) (n1 n2 : Bool) (P Q : Nat) : F_ratio_compare d ((n1, ((P / 18446744073709551616 : Nat) : Int), ((P % 18446744073709551616 : Nat) : Int), ()), (n2, ((Q / 18446744073709551616 : Nat) : Int), ((Q % 18446744073709551616 : Nat) : Int), ()), ()) = some (cmpZ (P : Int) (Q : Int)) := by
  simp only [F_ratio_compare, ratio_compare_K, ratio_compare_r0, ratio_compare_r1, ratio_compare_r2, ratio_compare_r3, ratio_compare_r4, Dt.eval, cmpU64_eq]
  rcases ltZ ((P / 18446744073709551616 : Nat) : Int) ((Q / 18446744073709551616 : Nat) : Int) with ⟨h1, h2⟩ | ⟨h1, h2⟩ | ⟨h1, h2⟩
  · simp only [h1, show ((-1 : Int) != 0) = true from rfl, cond_true]
    rw [cmpZ_lt (by omega)]
  · simp only [h1, show ((0 : Int) != 0) = false from rfl, cond_false]
    rcases ltZ (P : Int) (Q : Int) with ⟨k1, k2⟩ | ⟨k1, k2⟩ | ⟨k1, k2⟩
    · rw [k1, cmpZ_lt (by omega)]
    · rw [k1, cmpZ_eq (by omega)]
    · rw [k1, cmpZ_gt (by omega)]
  · simp only [h1, show ((1 : Int) != 0) = true from rfl, cond_true]
    rw [cmpZ_gt (by omega)]
theorem both_eq (d : Nat) (n1 d1 n2 d2 : Int) (h1 : i64B n1 = true) (h2 : i64B d1 = true) (h3 : i64B n2 = true) (h4 : i64B d2 = true) : F_ratio_both d ((n1, d1, ()), (n2, d2, ()), ()) = some (tmax (ratioChk n1 d1) (ratioChk n2 d2)) := by
  have e1 : F_ratio_Check d ((n1, d1, ()), ()) = some (ratioChk n1 d1) := F_ratio_Check_eq _ _ (by unfold ratio_Check_if; simp only [h1, h2, Bool.and_self])
  have e2 : F_ratio_Check d ((n2, d2, ()), ()) = some (ratioChk n2 d2) := F_ratio_Check_eq _ _ (by unfold ratio_Check_if; simp only [h3, h4, Bool.and_self])
  simp only [F_ratio_both, ratio_both_K, ratio_both_r0, ratio_both_r1, Dt.eval, e1, e2]
/-- fractions compared, and an error -/
def cmpR (n1 d1 n2 d2 : Int) : Int × Int := if ratioChk n1 d1 = 0 ∧ ratioChk n2 d2 = 0 then (cmpQ n1 d1 n2 d2, 0) else (0, 8)
theorem rCmp_eq (d : Nat) (n1 d1 n2 d2 : Int) (h1 : i64B n1 = true) (h2 : i64B d1 = true) (h3 : i64B n2 = true) (h4 : i64B d2 = true) : F_ratio_Cmp d ((n1, d1, ()), (n2, d2, ()), ()) = some (cmpR n1 d1 n2 d2) := by
  unfold cmpR
  have e0 := both_eq d n1 d1 n2 d2 h1 h2 h3 h4
  by_cases hc : ratioChk n1 d1 = 0 ∧ ratioChk n2 d2 = 0
  · rw [if_pos hc]
    rw [hc.1, hc.2] at e0
    obtain ⟨g1, _, _⟩ := ratioChk_zero hc.1
    obtain ⟨g2, _, _⟩ := ratioChk_zero hc.2
    have e1 := times_eq d n1 d2 h1 h4
    have e2 := times_eq d n2 d1 h3 h2
    have e3 := cmpI64_eq d n1 n2
    simp only [F_ratio_Cmp, ratio_Cmp_K, ratio_Cmp_r0, ratio_Cmp_r1, ratio_Cmp_r2, ratio_Cmp_r3, ratio_Cmp_r4, ratio_Cmp_r5, ratio_Cmp_r6, ratio_Cmp_r7, ratio_Cmp_r8, ratio_Cmp_r9, ratio_Cmp_J1, Dt.eval, e0, e1, e2, e3, ratio_compare_eq, show tmax 0 0 = 0 from rfl, show ((0 : Int) != 0) = false from rfl, cond_false]
    unfold cmpQ
    have p1 : 0 < d1 := by omega
    have p2 : 0 < d2 := by omega
    have s1 : (n1 < 0 → n1 * d2 < 0) ∧ (0 ≤ n1 → 0 ≤ n1 * d2) := ⟨fun h => Int.mul_neg_of_neg_of_pos h p2, fun h => Int.mul_nonneg h (by omega)⟩
    have s2 : (n2 < 0 → n2 * d1 < 0) ∧ (0 ≤ n2 → 0 ≤ n2 * d1) := ⟨fun h => Int.mul_neg_of_neg_of_pos h p1, fun h => Int.mul_nonneg h (by omega)⟩
    generalize n1 * d2 = P at *
    generalize n2 * d1 = Q at *
    by_cases k1 : n1 < 0 <;> by_cases k2 : n2 < 0 <;> simp only [k1, k2, decide_true, decide_false, beq_self_eq_true, Bool.not_true, Bool.not_false, cond_true, cond_false, Bool.false_beq, Bool.true_beq]
    · have := s1.1 k1
      have := s2.1 k2
      rcases ltZ (P.natAbs : Int) (Q.natAbs : Int) with ⟨g1, g2⟩ | ⟨g1, g2⟩ | ⟨g1, g2⟩
      · rw [g1, cmpZ_gt (a := P) (b := Q) (by omega)]; rfl
      · rw [g1, cmpZ_eq (a := P) (b := Q) (by omega)]; rfl
      · rw [g1, cmpZ_lt (a := P) (b := Q) (by omega)]; rfl
    · have := s1.1 k1
      have := s2.2 (by omega)
      rw [cmpZ_lt (by omega), cmpZ_lt (by omega)]
    · have := s1.2 (by omega)
      have := s2.1 k2
      rw [cmpZ_gt (by omega), cmpZ_gt (by omega)]
    · have := s1.2 (by omega)
      have := s2.2 (by omega)
      rw [show (P.natAbs : Int) = P by omega, show (Q.natAbs : Int) = Q by omega]
  · rw [if_neg hc]
    have e1 : tmax (ratioChk n1 d1) (ratioChk n2 d2) = 8 := by
      unfold tmax
      rcases ratioChk_cases n1 d1 with q1 | q1 <;> rcases ratioChk_cases n2 d2 with q2 | q2
      · exact absurd ⟨q1, q2⟩ hc
      all_goals rw [q1, q2]; rfl
    rw [e1] at e0
    simp only [F_ratio_Cmp, ratio_Cmp_K, ratio_Cmp_r0, ratio_Cmp_r1, ratio_Cmp_r2, ratio_Cmp_r3, Dt.eval, e0, show ((8 : Int) != 0) = true from rfl, cond_true]
theorem rSign_eq (d : Nat) (P : Int) : F_ref01_Sign d ((decide (P < 0), ((P.natAbs / 18446744073709551616 : Nat) : Int), ((P.natAbs % 18446744073709551616 : Nat) : Int), ()), ()) = some (cmpZ P 0) := by
  simp only [F_ref01_Sign, ref01_Sign_K, ref01_Sign_r0, ref01_Sign_r1, ref01_Sign_r2, ref01_Sign_r3, ref01_Sign_r4, ref01_Sign_r5, Dt.eval]
  by_cases h0 : P = 0
  · subst h0; rfl
  · have hne : ¬ (((P.natAbs / 18446744073709551616 : Nat) : Int) = 0 ∧ ((P.natAbs % 18446744073709551616 : Nat) : Int) = 0) := by omega
    have hh : (bif (((P.natAbs / 18446744073709551616 : Nat) : Int) == 0) then (((P.natAbs % 18446744073709551616 : Nat) : Int) == 0) else false) = false := by
      cases h1 : (((P.natAbs / 18446744073709551616 : Nat) : Int) == 0) with
      | false => rfl
      | true => rw [cond_true, beq_eq_false_iff_ne]; rw [beq_iff_eq] at h1; intro h2; exact hne ⟨h1, h2⟩
    cases h1 : (((P.natAbs / 18446744073709551616 : Nat) : Int) == 0) with
    | false =>
      simp only [cond_false]
      rcases ltZ P 0 with ⟨k1, k2⟩ | ⟨k1, k2⟩ | ⟨k1, k2⟩
      · simp only [k1, k2, decide_true, cond_true]
      · exact absurd k2 h0
      · simp only [k1, show ¬ P < 0 by omega, decide_false, cond_false]
    | true =>
      rw [h1, cond_true] at hh
      simp only [cond_true, hh, cond_false]
      rcases ltZ P 0 with ⟨k1, k2⟩ | ⟨k1, k2⟩ | ⟨k1, k2⟩
      · simp only [k1, k2, decide_true, cond_true]
      · exact absurd k2 h0
      · simp only [k1, show ¬ P < 0 by omega, decide_false, cond_false]
theorem rLess_eq (d : Nat) (n1 n2 : Bool) (P Q : Nat) : F_ref01_less d ((n1, ((P / 18446744073709551616 : Nat) : Int), ((P % 18446744073709551616 : Nat) : Int), ()), (n2, ((Q / 18446744073709551616 : Nat) : Int), ((Q % 18446744073709551616 : Nat) : Int), ()), ()) = some (cmpZ (P : Int) (Q : Int)) := by
  simp only [F_ref01_less, ref01_less_K, ref01_less_r0, ref01_less_r1, ref01_less_r2, ref01_less_r3, ref01_less_r4, ref01_less_r5, ref01_less_r6, ref01_less_r7, ref01_less_r8, ref01_less_r9, Dt.eval]
  obtain ⟨a, ha⟩ : ∃ a : Int, ((P / 18446744073709551616 : Nat) : Int) = a := ⟨_, rfl⟩
  obtain ⟨b, hb⟩ : ∃ a : Int, ((P % 18446744073709551616 : Nat) : Int) = a := ⟨_, rfl⟩
  obtain ⟨c, hc⟩ : ∃ a : Int, ((Q / 18446744073709551616 : Nat) : Int) = a := ⟨_, rfl⟩
  obtain ⟨e, he⟩ : ∃ a : Int, ((Q % 18446744073709551616 : Nat) : Int) = a := ⟨_, rfl⟩
  rw [ha, hb, hc, he]
  rcases ltZ a c with ⟨_, k2⟩ | ⟨_, k2⟩ | ⟨_, k2⟩
  · have e1 : (a != c) = true := by simp; omega
    simp only [e1, k2, decide_true, cond_true]
    rw [cmpZ_lt (by omega)]
  · have e1 : (a != c) = false := by simp; omega
    simp only [e1, cond_false]
    rcases ltZ b e with ⟨_, g2⟩ | ⟨_, g2⟩ | ⟨_, g2⟩
    · have e2 : (b != e) = true := by simp; omega
      simp only [e2, g2, decide_true, cond_true]
      rw [cmpZ_lt (by omega)]
    · have e2 : (b != e) = false := by simp; omega
      simp only [e2, cond_false]
      rw [cmpZ_eq (by omega)]
    · have e2 : (b != e) = true := by simp; omega
      simp only [e2, show ¬ b < e by omega, decide_false, cond_true, cond_false]
      rw [cmpZ_gt (by omega)]
  · have e1 : (a != c) = true := by simp; omega
    simp only [e1, show ¬ a < c by omega, decide_false, cond_true, cond_false]
    rw [cmpZ_gt (by omega)]
theorem rCompare_eq (d : Nat) (n1 d1 n2 d2 : Int) (h1 : i64B n1 = true) (h2 : i64B d1 = true) (h3 : i64B n2 = true) (h4 : i64B d2 = true) : F_ref01_Compare d ((n1, d1, ()), (n2, d2, ()), ()) = some (cmpQ n1 d1 n2 d2) := by
  have e1 : F_ref01_Product d ((n1, ()), (d2, ()), ()) = some (decide (n1 * d2 < 0), (((n1 * d2).natAbs / 18446744073709551616 : Nat) : Int), (((n1 * d2).natAbs % 18446744073709551616 : Nat) : Int)) := F_ref01_Product_eq _ _ (by unfold ref01_Product_if; simp only [h1, h4, Bool.and_self])
  have e2 : F_ref01_Product d ((n2, ()), (d1, ()), ()) = some (decide (n2 * d1 < 0), (((n2 * d1).natAbs / 18446744073709551616 : Nat) : Int), (((n2 * d1).natAbs % 18446744073709551616 : Nat) : Int)) := F_ref01_Product_eq _ _ (by unfold ref01_Product_if; simp only [h3, h2, Bool.and_self])
  unfold cmpQ
  generalize n1 * d2 = P at *
  generalize n2 * d1 = Q at *
  have hs := @cmp_sign P Q
  have hn := @cmp_neg P Q
  have hp := @cmp_pos P Q
  simp only [F_ref01_Compare, ref01_Compare_K, ref01_Compare_r0, ref01_Compare_r1, ref01_Compare_r2, ref01_Compare_r3, ref01_Compare_r4, ref01_Compare_r5, ref01_Compare_r6, ref01_Compare_r7, ref01_Compare_r8, Dt.eval, e1, e2, rSign_eq, rLess_eq]
  by_cases hg : cmpZ P 0 = cmpZ Q 0
  · have g1 : (cmpZ P 0 != cmpZ Q 0) = false := by simp [hg]
    simp only [g1, cond_false]
    by_cases h0 : cmpZ P 0 < 0
    · simp only [h0, decide_true, cond_true]; rw [hn hg h0]
    · simp only [h0, decide_false, cond_false]; rw [hp hg h0]
  · have g1 : (cmpZ P 0 != cmpZ Q 0) = true := by simp [hg]
    simp only [g1, cond_true]
    have := hs hg
    by_cases h0 : cmpZ P 0 < cmpZ Q 0
    · rw [if_pos h0] at this; simp only [h0, decide_true, cond_true]; rw [this]
    · rw [if_neg h0] at this; simp only [h0, decide_false, cond_false]; rw [this]
end Go.Proofs.Ytmagihjfbembjaa

namespace Go.Tx
open Go Go.Pel
def pairsL {α : Type} : List α → List (α × α)
  | [] => []
  | p :: r => r.map (fun q => (p, q)) ++ pairsL r
theorem pairsL_drop {α : Type} {l : List α} {k : Nat} {p : α} (h : l[k]? = some p) : pairsL (l.drop k) = ((l.drop (k + 1)).drop 0).map (fun q => (p, q)) ++ pairsL (l.drop (k + 1)) := by
  have hk := (List.getElem?_eq_some_iff.1 h).1
  have hp : l[k] = p := by rw [List.getElem?_eq_getElem hk] at h; exact Option.some.inj h
  rw [List.drop_eq_getElem_cons hk, pairsL, hp, List.drop_zero]
end Go.Tx
namespace Go.Proofs.Ytmagihjfbembjaa
open Go Go.Tx Go.Pel Go.RowKit Go.Shelf Go.Proofs.Try
attribute [local go_sem] Oper.semAt_some
end Go.Proofs.Ytmagihjfbembjaa

namespace Go.Pel
open Go Go.Tx
abbrev T3 : Type := Int × Int × Int × Unit
abbrev M4 : Type := Int × Int × Int × Int × Unit
theorem q_le {a b c d1 d2 d3 : Int} (h1 : 1 ≤ d1) (h2 : 1 ≤ d2) (h3 : 1 ≤ d3) (h : a * d2 ≤ b * d1) (k : b * d3 ≤ c * d2) : a * d3 ≤ c * d1 := by
  have e1 : a * d3 * d2 ≤ c * d1 * d2 := by
    have := Int.mul_le_mul_of_nonneg_right h (show (0 : Int) ≤ d3 by omega)
    have := Int.mul_le_mul_of_nonneg_right k (show (0 : Int) ≤ d1 by omega)
    rw [Int.mul_right_comm a d3 d2, Int.mul_right_comm c d1 d2]
    have e : b * d1 * d3 = b * d3 * d1 := Int.mul_right_comm b d1 d3
    omega
  exact Int.le_of_mul_le_mul_right e1 (by omega)
theorem q_lt {a b c d1 d2 d3 : Int} (h1 : 1 ≤ d1) (h2 : 1 ≤ d2) (h3 : 1 ≤ d3) (h : a * d2 < b * d1) (k : b * d3 ≤ c * d2) : a * d3 < c * d1 := by
  have e1 : a * d3 * d2 < c * d1 * d2 := by
    have := Int.mul_lt_mul_of_pos_right h (show (0 : Int) < d3 by omega)
    have := Int.mul_le_mul_of_nonneg_right k (show (0 : Int) ≤ d1 by omega)
    rw [Int.mul_right_comm a d3 d2, Int.mul_right_comm c d1 d2]
    have e : b * d1 * d3 = b * d3 * d1 := Int.mul_right_comm b d1 d3
    omega
  exact Int.lt_of_mul_lt_mul_right e1 (by omega)
theorem q_lt' {a b c d1 d2 d3 : Int} (h1 : 1 ≤ d1) (h2 : 1 ≤ d2) (h3 : 1 ≤ d3) (h : a * d2 ≤ b * d1) (k : b * d3 < c * d2) : a * d3 < c * d1 := by
  have e1 : a * d3 * d2 < c * d1 * d2 := by
    have := Int.mul_le_mul_of_nonneg_right h (show (0 : Int) ≤ d3 by omega)
    have := Int.mul_lt_mul_of_pos_right k (show (0 : Int) < d1 by omega)
    rw [Int.mul_right_comm a d3 d2, Int.mul_right_comm c d1 d2]
    have e : b * d1 * d3 = b * d3 * d1 := Int.mul_right_comm b d1 d3
    omega
  exact Int.lt_of_mul_lt_mul_right e1 (by omega)
/-- fractions in lowest terms are equal if their values are -/
theorem q_eq {a b d1 d2 : Int} (h1 : ratioChk a d1 = 0) (h2 : ratioChk b d2 = 0) (h : a * d2 = b * d1) : a = b ∧ d1 = d2 := by
  obtain ⟨p1, _, g1⟩ := ratioChk_zero h1
  obtain ⟨p2, _, g2⟩ := ratioChk_zero h2
  have hn : a.natAbs * d2.toNat = b.natAbs * d1.toNat := by
    have := congrArg Int.natAbs h
    rw [Int.natAbs_mul, Int.natAbs_mul] at this
    rwa [show d2.natAbs = d2.toNat by omega, show d1.natAbs = d1.toNat by omega] at this
  have k1 : d1.toNat ∣ d2.toNat := Nat.Coprime.dvd_of_dvd_mul_left (k := d1.toNat) (m := a.natAbs) (n := d2.toNat) g1 ⟨b.natAbs, by rw [hn, Nat.mul_comm]⟩
  have k2 : d2.toNat ∣ d1.toNat := Nat.Coprime.dvd_of_dvd_mul_left (k := d2.toNat) (m := b.natAbs) (n := d1.toNat) g2 ⟨a.natAbs, by rw [← hn, Nat.mul_comm]⟩
  have e : d1.toNat = d2.toNat := Nat.dvd_antisymm k1 k2
  have e' : d1 = d2 := by omega
  subst e'
  exact ⟨Int.eq_of_mul_eq_mul_right (by omega) h, rfl⟩
def okM (x : M4) : Prop := ratioChk x.1 x.2.1 = 0
def cmpM (x y : M4) : Int := orZ (cmpQ x.1 x.2.1 y.1 y.2.1) (orZ (cmpZ x.2.2.1 y.2.2.1) (cmpZ x.2.2.2.1 y.2.2.2.1))
def ltM (x y : M4) : Bool := decide (cmpM x y < 0)
theorem ltM_iff (x y : M4) : ltM x y = true ↔ x.1 * y.2.1 < y.1 * x.2.1 ∨ (x.1 * y.2.1 = y.1 * x.2.1 ∧ (x.2.2.1 < y.2.2.1 ∨ (x.2.2.1 = y.2.2.1 ∧ x.2.2.2.1 < y.2.2.2.1))) := by
  unfold ltM cmpM cmpQ orZ cmpZ
  rw [decide_eq_true_eq]
  generalize x.1 * y.2.1 = P
  generalize y.1 * x.2.1 = Q
  repeat' split
  all_goals omega
theorem ltM_not (x y : M4) (h : ltM x y = false) : ¬ (x.1 * y.2.1 < y.1 * x.2.1 ∨ (x.1 * y.2.1 = y.1 * x.2.1 ∧ (x.2.2.1 < y.2.2.1 ∨ (x.2.2.1 = y.2.2.1 ∧ x.2.2.2.1 < y.2.2.2.1)))) := by
  intro k; rw [(ltM_iff x y).2 k] at h; cases h
theorem ltM_irr (x : M4) : ltM x x = false := by
  rw [← Bool.not_eq_true, ltM_iff]; omega
theorem ltM_asymm {x y : M4} (h : ltM x y = true) : ltM y x = false := by
  rw [ltM_iff] at h
  rw [← Bool.not_eq_true, ltM_iff]; omega
theorem ltM_trans {x y z : M4} (hx : okM x) (hy : okM y) (hz : okM z) (h : ltM x y = true) (k : ltM y z = true) : ltM x z = true := by
  obtain ⟨p1, _, _⟩ := ratioChk_zero hx
  obtain ⟨p2, _, _⟩ := ratioChk_zero hy
  obtain ⟨p3, _, _⟩ := ratioChk_zero hz
  rw [ltM_iff] at h k ⊢
  have a1 := @q_lt x.1 y.1 z.1 x.2.1 y.2.1 z.2.1 p1 p2 p3
  have a2 := @q_lt' x.1 y.1 z.1 x.2.1 y.2.1 z.2.1 p1 p2 p3
  have a3 := @q_le x.1 y.1 z.1 x.2.1 y.2.1 z.2.1 p1 p2 p3
  have a4 := @q_le z.1 y.1 x.1 z.2.1 y.2.1 x.2.1 p3 p2 p1
  generalize x.1 * y.2.1 = A at *
  generalize y.1 * x.2.1 = B at *
  generalize y.1 * z.2.1 = C at *
  generalize z.1 * y.2.1 = D at *
  generalize x.1 * z.2.1 = E at *
  generalize z.1 * x.2.1 = G at *
  rcases h with h | ⟨h, h'⟩
  · left
    refine a1 h ?_
    rcases k with k | ⟨k, _⟩ <;> omega
  · rcases k with k | ⟨k, k'⟩
    · left; exact a2 (by omega) k
    · right
      refine ⟨Int.le_antisymm (a3 (by omega) (by omega)) (a4 (by omega) (by omega)), by omega⟩
theorem ltM_neg {x y z : M4} (hx : okM x) (hy : okM y) (hz : okM z) (h : ltM x y = false) (k : ltM y z = false) : ltM x z = false := by
  obtain ⟨p1, _, _⟩ := ratioChk_zero hx
  obtain ⟨p2, _, _⟩ := ratioChk_zero hy
  obtain ⟨p3, _, _⟩ := ratioChk_zero hz
  have h := ltM_not _ _ h
  have k := ltM_not _ _ k
  rw [← Bool.not_eq_true, ltM_iff]
  have a1 := @q_lt z.1 y.1 x.1 z.2.1 y.2.1 x.2.1 p3 p2 p1
  have a2 := @q_lt' z.1 y.1 x.1 z.2.1 y.2.1 x.2.1 p3 p2 p1
  have a3 := @q_le x.1 y.1 z.1 x.2.1 y.2.1 z.2.1 p1 p2 p3
  have a4 := @q_le z.1 y.1 x.1 z.2.1 y.2.1 x.2.1 p3 p2 p1
  generalize x.1 * y.2.1 = A at *
  generalize y.1 * x.2.1 = B at *
  generalize y.1 * z.2.1 = C at *
  generalize z.1 * y.2.1 = D at *
  generalize x.1 * z.2.1 = E at *
  generalize z.1 * x.2.1 = G at *
  have f4 := a4 (by omega) (by omega)
  intro q
  have hE : E = G := by omega
  have hAB : A = B := by
    rcases Int.lt_or_eq_of_le (show B ≤ A by omega) with h5 | h5
    · have := a2 (by omega) h5; omega
    · omega
  have hCD : C = D := by
    rcases Int.lt_or_eq_of_le (show D ≤ C by omega) with h5 | h5
    · have := a1 h5 (by omega); omega
    · omega
  omega
theorem ltM_eq {x y : M4} (hx : okM x) (hy : okM y) (h : ltM x y = false) (k : ltM y x = false) : x = y := by
  have h := ltM_not _ _ h
  have k := ltM_not _ _ k
  obtain ⟨e1, e2⟩ := q_eq hx hy (by omega)
  obtain ⟨a, b, c, e, ⟨⟩⟩ := x
  obtain ⟨a', b', c', e', ⟨⟩⟩ := y
  simp only at e1 e2 h k
  subst e1 e2
  have : c = c' := by omega
  have : e = e' := by omega
  subst_vars; rfl
/-- sorted lists of the same meetings are the same -/
theorem sorted_uniq {l m : List M4} (hok : ∀ x ∈ l, okM x) (hp : l.Perm m) (hl : l.Pairwise fun a b => ltM b a = false) (hm : m.Pairwise fun a b => ltM b a = false) : l = m := by
  refine List.Perm.eq_of_pairwise (le := fun a b => ltM b a = false) ?_ hl hm hp
  intro a b ha hb h k
  exact ltM_eq (hok a ha) (hok b (hp.symm.mem_iff.1 hb)) k h
theorem mk_ok {n d : Int} (hd : d ≠ 0) (hn : n.natAbs ≤ 4194304) (hd2 : d.natAbs ≤ 4194304) : (mk n d).2.2 = 0 ∧ ratioChk (mk n d).1 (mk n d).2.1 = 0 ∧ (mk n d).1.natAbs ≤ 4194304 ∧ (mk n d).2.1 ≤ 4194304 := by
  have hg := mk_gcd_pos (n := n) hd
  rw [mk_some hd]
  have b1 : n.natAbs / Nat.gcd n.natAbs d.natAbs ≤ n.natAbs := Nat.div_le_self _ _
  have b2 : d.natAbs / Nat.gcd n.natAbs d.natAbs ≤ d.natAbs := Nat.div_le_self _ _
  have b3 : 1 ≤ d.natAbs / Nat.gcd n.natAbs d.natAbs := Nat.div_pos (Nat.gcd_le_right _ (by omega)) hg
  have hc : Nat.gcd (d.natAbs / Nat.gcd n.natAbs d.natAbs) (n.natAbs / Nat.gcd n.natAbs d.natAbs) = 1 := by
    rw [Nat.gcd_comm]; exact Nat.coprime_div_gcd_div_gcd hg
  generalize n.natAbs / Nat.gcd n.natAbs d.natAbs = A at *
  generalize d.natAbs / Nat.gcd n.natAbs d.natAbs = B at *
  have hno : ¬ (0 < 0 ∨ 9223372036854775807 < A ∨ 0 < 0 ∨ 9223372036854775807 < B) := by omega
  cases (decide (n < 0) != decide (d < 0)) with
  | true =>
    rw [bld_neg hno]
    refine ⟨rfl, ratioChk_one (by simp only; omega) (by simp only; omega) ?_, by simp only; omega, by simp only; omega⟩
    simp only [Int.toNat_natCast, Int.natAbs_neg, Int.natAbs_natCast]; exact hc
  | false =>
    rw [bld_pos hno]
    refine ⟨rfl, ratioChk_one (by simp only; omega) (by simp only; omega) ?_, by simp only; omega, by simp only; omega⟩
    simp only [Int.toNat_natCast, Int.natAbs_natCast]; exact hc
/-- where two points meet -/
def mtP (x : T3 × T3) : Option M4 := if x.1.2.2.1 = x.2.2.2.1 then none else some ((mk (x.1.2.1 - x.2.2.1) (x.2.2.2.1 - x.1.2.2.1)).1, (mk (x.1.2.1 - x.2.2.1) (x.2.2.2.1 - x.1.2.2.1)).2.1, x.1.1, x.2.1, ())
def meetsL (l : List T3) : List M4 := (pairsL l).filterMap mtP
def allM (l : List T3) : List M4 := sortL ltM (meetsL l)
def okP (p : T3) : Prop := (ofP p).chk = 0
theorem pairsL_mem {α : Type} {R : α → α → Prop} : ∀ {l : List α} {x : α × α}, x ∈ pairsL l → l.Pairwise R → x.1 ∈ l ∧ x.2 ∈ l ∧ R x.1 x.2
  | [], x, h, _ => by cases h
  | p :: r, x, h, hR => by
    obtain ⟨h1, h2⟩ := List.pairwise_cons.1 hR
    rw [pairsL] at h
    rcases List.mem_append.1 h with h | h
    · obtain ⟨q, hq, rfl⟩ := List.mem_map.1 h
      exact ⟨List.mem_cons_self .., List.mem_cons_of_mem _ hq, h1 q hq⟩
    · obtain ⟨a, b, c⟩ := pairsL_mem h h2
      exact ⟨List.mem_cons_of_mem _ a, List.mem_cons_of_mem _ b, c⟩
theorem pairsL_len {α : Type} : ∀ l : List α, (pairsL l).length ≤ l.length * l.length
  | [] => Nat.le_refl _
  | p :: r => by
    have := pairsL_len r
    rw [pairsL, List.length_append, List.length_map, List.length_cons]
    have e : (r.length + 1) * (r.length + 1) = r.length * r.length + 2 * r.length + 1 := by
      rw [Nat.mul_add, Nat.add_mul]; omega
    omega
theorem mt_ok {x : T3 × T3} {y : M4} (h1 : okP x.1) (h2 : okP x.2) (h : mtP x = some y) : okM y ∧ y.1.natAbs ≤ 4194304 ∧ y.2.1 ≤ 4194304 := by
  unfold mtP at h
  split at h
  · cases h
  · rename_i hb
    injection h with h; subst h
    obtain ⟨_, _, a1, a2, a3, a4⟩ := pointChk_zero (show pointChk x.1.1 x.1.2.1 x.1.2.2.1 = 0 from h1)
    obtain ⟨_, _, b1, b2, b3, b4⟩ := pointChk_zero (show pointChk x.2.1 x.2.2.1 x.2.2.2.1 = 0 from h2)
    obtain ⟨_, k1, k2, k3⟩ := mk_ok (n := x.1.2.1 - x.2.2.1) (d := x.2.2.2.1 - x.1.2.2.1) (by omega) (by omega) (by omega)
    exact ⟨k1, k2, k3⟩
/-- a field is valid -/
structure FldOk (l : List T3) : Prop where
  len : l.length ≤ 64
  ok : ∀ p ∈ l, okP p
  inc : l.Pairwise fun p q => p.1 < q.1
theorem meets_ok {l : List T3} (h : FldOk l) {y : M4} (hy : y ∈ meetsL l) : okM y ∧ y.1.natAbs ≤ 4194304 ∧ y.2.1 ≤ 4194304 := by
  obtain ⟨x, hx, he⟩ := List.mem_filterMap.1 hy
  obtain ⟨h1, h2, _⟩ := pairsL_mem hx h.inc
  exact mt_ok (h.ok _ h1) (h.ok _ h2) he
theorem meets_len {l : List T3} (h : FldOk l) : (meetsL l).length ≤ 4096 := by
  have h1 := List.length_filterMap_le mtP (pairsL l)
  have h2 := pairsL_len l
  have h3 := Nat.mul_le_mul h.len h.len
  unfold meetsL; omega
theorem allM_perm (l : List T3) : (allM l).Perm (meetsL l) := sortL_perm _ _
theorem allM_ok {l : List T3} (h : FldOk l) {y : M4} (hy : y ∈ allM l) : okM y ∧ y.1.natAbs ≤ 4194304 ∧ y.2.1 ≤ 4194304 := meets_ok h ((allM_perm l).mem_iff.1 hy)
theorem allM_len {l : List T3} (h : FldOk l) : (allM l).length ≤ 4096 := by rw [(allM_perm l).length_eq]; exact meets_len h
theorem allM_pw {l : List T3} (h : FldOk l) : (allM l).Pairwise fun a b => ltM b a = false :=
  sortL_pw (S := okM) (fun a b _ _ h => ltM_asymm h) (fun a b c ha hb hc h k => ltM_neg ha hb hc h k) _ fun a ha => (meets_ok h ha).1
theorem allM_only {l : List T3} (h : FldOk l) {m : List M4} (hp : m.Perm (meetsL l)) (hm : m.Pairwise fun a b => ltM b a = false) : m = allM l :=
  sorted_uniq (fun x hx => (meets_ok h (hp.mem_iff.1 hx)).1) (hp.trans (allM_perm l).symm) hm (allM_pw h)
end Go.Pel

namespace Go.Tx
theorem insL_congr {α : Type} {f g : α → α → Bool} {x : α} : ∀ {l : List α}, (∀ a ∈ l, f x a = g x a) → insL f x l = insL g x l
  | [], _ => rfl
  | y :: ys, h => by
    rw [insL, insL, h y (List.mem_cons_self ..), insL_congr fun a ha => h a (List.mem_cons_of_mem _ ha)]
theorem sortL_congr {α : Type} {f g : α → α → Bool} : ∀ {l : List α}, (∀ a ∈ l, ∀ b ∈ l, f a b = g a b) → sortL f l = sortL g l
  | [], _ => rfl
  | x :: xs, h => by
    rw [sortL, sortL, sortL_congr fun a ha b hb => h a (List.mem_cons_of_mem _ ha) b (List.mem_cons_of_mem _ hb)]
    exact insL_congr fun a ha => h x (List.mem_cons_self ..) a (List.mem_cons_of_mem _ ((sortL_perm g xs).mem_iff.1 ha))
theorem sortV_gen {τ : Row} {F : den τ × den τ × Unit → Option Int} {S : den τ → Prop} {lt : den τ → den τ → Bool} {c : den τ → den τ → Int} {xs : List (den τ)} (hS : ∀ x ∈ xs, S x) (hF : ∀ x y, S x → S y → F (x, y, ()) = some (c x y)) (hc : ∀ x y, lt x y = decide (c x y < 0)) (hi : ∀ x, lt x x = false)
    (ht : ∀ x y z, S x → S y → S z → lt x y = true → lt y z = true → lt x z = true) (hn : ∀ x y z, S x → S y → S z → lt x y = false → lt y z = false → lt x z = false) (he : ∀ x y, S x → S y → lt x y = false → lt y x = false → eqR τ x y = true) (hl : xs.length ≤ 1000000) : sortV F xs = some (sortL lt xs) := by
  have hlt : ∀ x y, S x → S y → ltV F x y = lt x y := fun x y hx hy => by unfold ltV cmpV; rw [hF x y hx hy, hc]
  have hB : sortB F xs = true := by
    unfold sortB
    simp only [Bool.and_eq_true, List.all_eq_true, Bool.or_eq_true, Bool.not_eq_true']
    refine ⟨⟨⟨⟨fun x hx y hy => ?_, fun x hx => ?_⟩, fun x hx y hy => ?_⟩, fun x hx y hy => ?_⟩, fun x hx y hy => ?_⟩
    · rw [hF x y (hS x hx) (hS y hy)]; rfl
    · rw [hlt x x (hS x hx) (hS x hx)]; exact hi x
    · rw [hlt x y (hS x hx) (hS y hy)]
      cases hxy : lt x y with
      | false => exact .inl rfl
      | true =>
        refine .inr fun z hz => ?_
        rw [hlt y z (hS y hy) (hS z hz), hlt x z (hS x hx) (hS z hz)]
        cases hyz : lt y z with
        | false => exact .inl rfl
        | true => exact .inr (ht x y z (hS x hx) (hS y hy) (hS z hz) hxy hyz)
    · rw [hlt x y (hS x hx) (hS y hy)]
      cases hxy : lt x y with
      | true => exact .inl rfl
      | false =>
        refine .inr fun z hz => ?_
        rw [hlt y z (hS y hy) (hS z hz), hlt x z (hS x hx) (hS z hz)]
        cases hyz : lt y z with
        | true => exact .inl rfl
        | false => exact .inr (hn x y z (hS x hx) (hS y hy) (hS z hz) hxy hyz)
    · rw [hlt x y (hS x hx) (hS y hy), hlt y x (hS y hy) (hS x hx)]
      cases hxy : lt x y with
      | true => exact .inl (.inl rfl)
      | false =>
        cases hyx : lt y x with
        | true => exact .inl (.inr rfl)
        | false => exact .inr (he x y (hS x hx) (hS y hy) hxy hyx)
  unfold sortV
  rw [hB, show Nat.ble xs.length 1000000 = true by rw [Nat.ble_eq]; exact hl]
  exact congrArg some (sortL_congr fun a ha b hb => hlt a b (hS a ha) (hS b hb))
end Go.Tx
namespace Go.Proofs.Ytmagihjfbembjaa
open Go Go.Tx Go.Pel
theorem i64B_of {a : Int} (h : a.natAbs ≤ 9223372036854775807) : i64B a = true := by
  unfold i64B; simp only [Bool.and_eq_true, decide_eq_true_eq]; omega
structure okW (x : M4) : Prop where
  ok : okM x
  n : x.1.natAbs ≤ 4194304
  d : x.2.1 ≤ 4194304
theorem okW.b1 {x : M4} (h : okW x) : i64B x.1 = true := i64B_of (by have := h.n; omega)
theorem okW.b2 {x : M4} (h : okW x) : i64B x.2.1 = true := i64B_of (by have := h.d; have := (ratioChk_zero h.ok).1; omega)
theorem pt_bd {p : T3} (h : okP p) : 0 ≤ p.1 ∧ p.1 ≤ 65535 ∧ -1048576 ≤ p.2.1 ∧ p.2.1 ≤ 1048576 ∧ -1048576 ≤ p.2.2.1 ∧ p.2.2.1 ≤ 1048576 := pointChk_zero (show pointChk p.1 p.2.1 p.2.2.1 = 0 from h)
theorem meet_eq (d : Nat) {p q : T3} (hp : okP p) (hq : okP q) (hi : p.1 ≠ q.1) : F_course_Meet d ((p.1, p.2.1, p.2.2.1, ()), (q.1, q.2.1, q.2.2.1, ()), ()) =
    some (if p.2.2.1 = q.2.2.1 then (0, 0, 6) else ((mk (p.2.1 - q.2.1) (q.2.2.1 - p.2.2.1)).1, (mk (p.2.1 - q.2.1) (q.2.2.1 - p.2.2.1)).2.1, 0)) := by
  obtain ⟨_, _, a1, a2, a3, a4⟩ := pt_bd hp
  obtain ⟨_, _, b1, b2, b3, b4⟩ := pt_bd hq
  have e1 : F_course_two d ((p.1, p.2.1, p.2.2.1, ()), (q.1, q.2.1, q.2.2.1, ()), ((0 : Int), (1 : Int), ()), ()) = some 0 := by
    rw [F_course_two_eq _ _ (by rfl)]
    exact congrArg some (twoChk_ok ⟨hp, hq, show ratioChk 0 1 = 0 by decide⟩ hi)
  have w1 : IntKind.wrap .i64 (p.2.1 - q.2.1) = p.2.1 - q.2.1 := IntWalk.i64_in _ (by omega)
  have w2 : IntKind.wrap .i64 (q.2.2.1 - p.2.2.1) = q.2.2.1 - p.2.2.1 := IntWalk.i64_in _ (by omega)
  have e2 : F_ratio_Make d ((p.2.1 - q.2.1, ()), (q.2.2.1 - p.2.2.1, ()), ()) = some ((mk (p.2.1 - q.2.1) (q.2.2.1 - p.2.2.1)).1, (mk (p.2.1 - q.2.1) (q.2.2.1 - p.2.2.1)).2.1, (mk (p.2.1 - q.2.1) (q.2.2.1 - p.2.2.1)).2.2) :=
    F_ratio_Make_eq _ _ (by unfold ratio_Make_if; simp only; rw [i64B_of (by omega), i64B_of (by omega)]; rfl)
  simp only [F_course_Meet, course_Meet_K, course_Meet_r0, course_Meet_r1, course_Meet_r2, course_Meet_r3, course_Meet_r4, course_Meet_r5, course_Meet_r6, Dt.eval, e1, show ((0 : Int) != 0) = false from rfl, cond_false]
  by_cases hb : p.2.2.1 = q.2.2.1
  · simp only [hb, beq_self_eq_true, cond_true, if_true]
  · have hb' : (p.2.2.1 == q.2.2.1) = false := by simpa using hb
    have h0 := (mk_ok (n := p.2.1 - q.2.1) (d := q.2.2.1 - p.2.2.1) (by omega) (by omega) (by omega)).1
    simp only [hb', cond_false, hb, if_false, w1, w2, e2, h0]
    rfl
end Go.Proofs.Ytmagihjfbembjaa

namespace Go.Pel
open Go Go.Tx
/-- a meeting is behind a time -/
def gtM (n dd : Int) (x : M4) : Bool := decide (0 < cmpQ x.1 x.2.1 n dd)
theorem gtM_iff (n dd : Int) (x : M4) : gtM n dd x = true ↔ n * x.2.1 < x.1 * dd := by
  unfold gtM cmpQ cmpZ
  rw [decide_eq_true_eq]
  repeat' split
  all_goals omega
/-- how many meetings are not behind a time -/
def idxM (n dd : Int) (L : List M4) : Nat := L.findIdx (gtM n dd)
theorem idxM_only {n dd : Int} {L : List M4} {k : Nat} (hk : k ≤ L.length) (h1 : ∀ j x, j < k → L[j]? = some x → gtM n dd x = false) (h2 : ∀ x, L[k]? = some x → gtM n dd x = true) : idxM n dd L = k := by
  unfold idxM
  rcases Nat.lt_or_eq_of_le hk with hlt | rfl
  · rw [List.findIdx_eq hlt]
    refine ⟨h2 _ (List.getElem?_eq_getElem hlt), fun j hj => ?_⟩
    exact h1 j _ hj (List.getElem?_eq_getElem (by omega))
  · rw [List.findIdx_eq_length]
    intro x hx
    obtain ⟨j, hj, rfl⟩ := List.mem_iff_getElem.1 hx
    exact h1 j _ hj (List.getElem?_eq_getElem hj)
end Go.Pel
namespace Go.Proofs.Ytmagihjfbembjaa
open Go Go.Tx Go.Pel
def chk2 (l : List T3) (n dd n' dd' : Int) : Int := if fieldChk (ptsL l) ≠ 0 then fieldChk (ptsL l) else if ratioChk n dd ≠ 0 then ratioChk n dd else if ratioChk n' dd' ≠ 0 then ratioChk n' dd' else if 0 < cmpQ n dd n' dd' then 2 else 0
theorem fldOk_of {l : List T3} (h : fieldChk (ptsL l) = 0) : FldOk l := by
  obtain ⟨h1, h2, h3⟩ := fieldChk_zero h
  rw [ptsL_len] at h1
  refine ⟨h1, fun p hp => h2 _ (List.mem_map_of_mem hp), ?_⟩
  rw [List.pairwise_iff_getElem]
  intro i j hi hj hij
  have hg : ∀ k (hk : k < l.length), (ptsL l)[k]? = some (ofP l[k]) := fun k hk => by unfold ptsL; rw [List.getElem?_map, List.getElem?_eq_getElem hk]; rfl
  exact inc_lt h3 hij (hg i hi) (hg j hj)
theorem allM_w {l : List T3} (h : FldOk l) : ∀ x ∈ allM l, okW x := fun x hx => ⟨(allM_ok h hx).1, (allM_ok h hx).2.1, (allM_ok h hx).2.2⟩
end Go.Proofs.Ytmagihjfbembjaa

namespace Go.Pel
open Go Go.Tx
/-- sorted up to a place -/
def Srt (out : List M4) (i : Nat) : Prop := ∀ a b x y, a < b → b < i → out[a]? = some x → out[b]? = some y → ltM y x = false
/-- .. but for the one at k, which no later one comes before -/
def Near (out : List M4) (i k : Nat) : Prop := ∀ a b x y, a < b → b < i → b ≠ k → out[a]? = some x → out[b]? = some y → ltM y x = false
theorem srt_pw {out : List M4} (h : Srt out out.length) : out.Pairwise fun a b => ltM b a = false := by
  rw [List.pairwise_iff_getElem]
  intro i j hi hj hij
  exact h i j _ _ hij hj (List.getElem?_eq_getElem hi) (List.getElem?_eq_getElem hj)
theorem near_stop {out : List M4} {i k : Nat} (hok : ∀ x ∈ out, okM x) (h : Near out i k) (hk : k = 0 ∨ ∃ x y, out[k]? = some x ∧ out[k - 1]? = some y ∧ ltM x y = false) : Srt out i := by
  intro a b x y hab hbi hx hy
  by_cases hbk : b = k
  · subst hbk
    rcases hk with rfl | ⟨x', y', e1, e2, e3⟩
    · omega
    · rw [hy] at e1; injection e1 with e1; subst e1
      rcases (by omega : a = b - 1 ∨ a < b - 1) with rfl | hlt
      · rw [hx] at e2; injection e2 with e2; subst e2; exact e3
      · have h1 := h a (b - 1) x y' hlt (by omega) (by omega) hx e2
        exact ltM_neg (hok _ (List.mem_of_getElem? hy)) (hok _ (List.mem_of_getElem? e2)) (hok _ (List.mem_of_getElem? hx)) e3 h1
  · exact h a b x y hab hbi hbk hx hy
theorem near_swap {out : List M4} {i k : Nat} (hki : k < i) (hil : i ≤ out.length) (h0 : 0 < k) {x y : M4} (hx : out[k]? = some x) (hy : out[k - 1]? = some y) (hlt : ltM x y = true) (h : Near out i k) : Near ((out.set k y).set (k - 1) x) i (k - 1) := by
  have hg : ∀ j, ((out.set k y).set (k - 1) x)[j]? = if j = k - 1 then some x else if j = k then some y else out[j]? := fun j => by
    rw [List.getElem?_set, List.getElem?_set, List.length_set]
    by_cases h1 : k - 1 = j
    · rw [if_pos h1, if_pos (by omega), if_pos h1.symm]
    · rw [if_neg h1, if_neg (by omega : ¬ j = k - 1)]
      by_cases h2 : k = j
      · rw [if_pos h2, if_pos (by omega), if_pos h2.symm]
      · rw [if_neg h2, if_neg (by omega)]
  intro a b u v hab hbi hb hu hv
  rw [hg] at hu hv
  rw [if_neg hb] at hv
  by_cases hbk : b = k
  · rw [if_pos hbk] at hv; injection hv with hv; subst hv
    by_cases ha : a = k - 1
    · rw [if_pos ha] at hu; injection hu with hu; subst hu
      exact ltM_asymm hlt
    · rw [if_neg ha, if_neg (by omega)] at hu
      exact h a (k - 1) u y (by omega) (by omega) (by omega) hu hy
  · rw [if_neg hbk] at hv
    by_cases ha : a = k - 1
    · rw [if_pos ha] at hu; injection hu with hu; subst hu
      exact h k b x v (by omega) hbi hbk hx hv
    · rw [if_neg ha] at hu
      by_cases ha2 : a = k
      · rw [if_pos ha2] at hu; injection hu with hu; subst hu
        exact h (k - 1) b y v (by omega) hbi hbk hy hv
      · rw [if_neg ha2] at hu
        exact h a b u v hab hbi hbk hu hv
theorem swap_perm {out : List M4} {k : Nat} {x y : M4} (h0 : 0 < k) (hx : out[k]? = some x) (hy : out[k - 1]? = some y) : ((out.set k y).set (k - 1) x).Perm out := by
  obtain ⟨h1, rfl⟩ := List.getElem?_eq_some_iff.1 hx
  obtain ⟨h2, rfl⟩ := List.getElem?_eq_some_iff.1 hy
  exact List.set_set_perm h1 h2
end Go.Pel
namespace Go.Proofs.Ytmagihjfbembjaa
open Go Go.Tx Go.Pel
theorem before_eq (d : Nat) {x y : M4} (hx : okW x) (hy : okW y) : F_ref04_Before d ((x.1, x.2.1, x.2.2.1, x.2.2.2.1, ()), (y.1, y.2.1, y.2.2.1, y.2.2.2.1, ()), ()) = some (ltM x y) := by
  have e1 := rCompare_eq d x.1 x.2.1 y.1 y.2.1 hx.b1 hx.b2 hy.b1 hy.b2
  simp only [F_ref04_Before, ref04_Before_K, ref04_Before_r0, ref04_Before_r1, ref04_Before_r2, ref04_Before_r3, ref04_Before_r4, ref04_Before_r5, ref04_Before_r6, Dt.eval, e1]
  unfold ltM cmpM orZ
  by_cases h : cmpQ x.1 x.2.1 y.1 y.2.1 = 0
  · simp only [h, show ((0 : Int) != 0) = false from rfl, cond_false, ne_eq, not_true_eq_false, if_false]
    by_cases hi : x.2.2.1 = y.2.2.1
    · simp only [hi, bne_self_eq_false, cond_false, cmpZ_eq rfl, not_true_eq_false, if_false]
      rcases ltZ x.2.2.2.1 y.2.2.2.1 with ⟨k1, k2⟩ | ⟨k1, k2⟩ | ⟨k1, k2⟩
      · simp [k1, k2]
      · simp [k1, show ¬ x.2.2.2.1 < y.2.2.2.1 by omega]
      · simp [k1, show ¬ x.2.2.2.1 < y.2.2.2.1 by omega]
    · have hb : (x.2.2.1 != y.2.2.1) = true := by simpa using hi
      simp only [hb, cond_true]
      rcases ltZ x.2.2.1 y.2.2.1 with ⟨k1, k2⟩ | ⟨k1, k2⟩ | ⟨k1, k2⟩
      · simp [k1, k2]
      · exact absurd k2 hi
      · simp [k1, show ¬ x.2.2.1 < y.2.2.1 by omega]
  · have hb : (cmpQ x.1 x.2.1 y.1 y.2.1 != 0) = true := by simpa using h
    simp only [hb, cond_true, ne_eq, h, not_false_eq_true, if_true]
theorem met_eq (d : Nat) {p q : T3} (hp : okP p) (hq : okP q) : F_ref02_Met d ((p.1, p.2.1, p.2.2.1, ()), (q.1, q.2.1, q.2.2.1, ()), ()) = some ((mk (p.2.1 - q.2.1) (q.2.2.1 - p.2.2.1)).1, (mk (p.2.1 - q.2.1) (q.2.2.1 - p.2.2.1)).2.1) := by
  obtain ⟨_, _, a1, a2, a3, a4⟩ := pt_bd hp
  obtain ⟨_, _, b1, b2, b3, b4⟩ := pt_bd hq
  have w1 : IntKind.wrap .i64 (p.2.1 - q.2.1) = p.2.1 - q.2.1 := IntWalk.i64_in _ (by omega)
  have w2 : IntKind.wrap .i64 (q.2.2.1 - p.2.2.1) = q.2.2.1 - p.2.2.1 := IntWalk.i64_in _ (by omega)
  have e2 : F_ref01_Make d ((p.2.1 - q.2.1, ()), (q.2.2.1 - p.2.2.1, ()), ()) = some ((mk (p.2.1 - q.2.1) (q.2.2.1 - p.2.2.1)).1, (mk (p.2.1 - q.2.1) (q.2.2.1 - p.2.2.1)).2.1, (mk (p.2.1 - q.2.1) (q.2.2.1 - p.2.2.1)).2.2) :=
    F_ref01_Make_eq _ _ (by unfold ref01_Make_if; simp only; rw [i64B_of (by omega), i64B_of (by omega)]; rfl)
  simp only [F_ref02_Met, ref02_Met_K, ref02_Met_r0, ref02_Met_r1, ref02_Met_r2, Dt.eval, w1, w2, e2]
theorem wrap_succ {k : Nat} (h : k < 1000000) : IntKind.wrap .i64 ((k : Int) + 1) = ((k + 1 : Nat) : Int) := by rw [IntWalk.i64_in _ (by omega)]; omega
theorem elt_some {α : Type} {z : α} {l : List α} {k : Nat} {x : α} (h : l[k]? = some x) : elt z l (k : Int).toNat = x := by unfold elt; rw [Int.toNat_natCast, h]; rfl
theorem inB_of {k n : Nat} (h : k < n) : inB (k : Int) n = true := inB_iff.2 ⟨by omega, by omega⟩
theorem dec_lt {a b : Nat} (h : a < b) : decide ((a : Int) < (b : Int)) = true := by rw [decide_eq_true_eq]; omega
theorem dec_nlt {a b : Nat} (h : ¬ a < b) : decide ((a : Int) < (b : Int)) = false := by rw [decide_eq_false_iff_not]; omega
theorem drop_of {α : Type} {l : List α} {k : Nat} {x : α} (h : l[k]? = some x) : l.drop k = x :: l.drop (k + 1) := by
  obtain ⟨h1, rfl⟩ := List.getElem?_eq_some_iff.1 h
  exact List.drop_eq_getElem_cons h1
theorem pairs_in (d : Nat) {l : List T3} (h : FldOk l) (self1 : (Int × List Diii × List Diiii) → Option ref04_Pairs_R) {i : Nat} {p : T3} (hp : l[i]? = some p) : ∀ (f k : Nat) (out : List M4), l.length - k < f → k ≤ l.length → out.length + (l.length - k) ≤ 99999 →
    iter (ref04_Pairs_L2 d self1) f ((i : Int), (k : Int), l, out) = self1 (((i + 1 : Nat) : Int), l, out ++ (l.drop k).filterMap fun q => mtP (p, q))
  | 0, k, out, hf, _, _ => by omega
  | f + 1, k, out, hf, hk, ho => by
    have hl := h.len
    have hi := (List.getElem?_eq_some_iff.1 hp).1
    have hpk := h.ok p (List.mem_of_getElem? hp)
    have ih := fun k out => pairs_in d h self1 hp f k out
    rw [iter]
    revert ih
    generalize iter (ref04_Pairs_L2 d self1) f = self
    intro ih
    unfold ref04_Pairs_L2 ref04_Pairs_J3
    simp only [ref04_Pairs_r4, ref04_Pairs_r5, ref04_Pairs_r6, ref04_Pairs_r7, ref04_Pairs_r8, ref04_Pairs_r9, ref04_Pairs_r10, Dt.eval, ref04_Pairs_K]
    by_cases hlt : k < l.length
    · obtain ⟨q, hq⟩ : ∃ q, l[k]? = some q := ⟨_, List.getElem?_eq_getElem hlt⟩
      have hqk := h.ok q (List.mem_of_getElem? hq)
      simp only [dec_lt hlt, cond_true, inB_of hi, inB_of hlt, elt_some hp, elt_some hq, Dt.eval]
      rw [drop_of hq, List.filterMap_cons]
      unfold mtP
      by_cases hb : p.2.2.1 = q.2.2.1
      · simp only [hb, bne_self_eq_false, cond_false, if_true, wrap_succ (show k < 1000000 by omega)]
        have := ih (k + 1) out (by omega) (by omega) (by omega)
        unfold mtP at this
        simp only [hb] at this
        exact this
      · have hb' : (p.2.2.1 != q.2.2.1) = true := by simpa using hb
        have ha : apB out.length 1 = true := by unfold apB; rw [Nat.ble_eq]; omega
        simp only [hb', cond_true, met_eq d hpk hqk, Dt.eval, List.length_cons, List.length_nil, Nat.zero_add, ha, hb, if_false, wrap_succ (show k < 1000000 by omega)]
        have := ih (k + 1) (out ++ [((mk (p.2.1 - q.2.1) (q.2.2.1 - p.2.2.1)).1, (mk (p.2.1 - q.2.1) (q.2.2.1 - p.2.2.1)).2.1, p.1, q.1, ())]) (by omega) (by omega) (by simp; omega)
        rw [List.append_assoc] at this
        exact this
    · have hkl : k = l.length := by omega
      simp only [dec_nlt hlt, cond_false, wrap_succ (show i < 1000000 by omega)]
      rw [hkl, List.drop_length]
      simp
theorem pairs_out (d : Nat) (hd : 5000 ≤ d) {l : List T3} (h : FldOk l) : ∀ (f i : Nat) (out : List M4), l.length - i < f → i ≤ l.length → out.length ≤ i * 64 →
    iter (ref04_Pairs_L1 d) f ((i : Int), l, out) = iter (ref04_Pairs_L4 d) d ((1 : Int), out ++ (pairsL (l.drop i)).filterMap mtP)
  | 0, i, out, hf, _, _ => by omega
  | f + 1, i, out, hf, hi, ho => by
    have hl := h.len
    have ih := fun i out => pairs_out d hd h f i out
    rw [iter]
    revert ih
    generalize iter (ref04_Pairs_L1 d) f = self
    intro ih
    unfold ref04_Pairs_L1
    simp only [ref04_Pairs_r3, ref04_Pairs_r5, ref04_Pairs_r11, Dt.eval]
    by_cases hlt : i < l.length
    · obtain ⟨p, hp⟩ : ∃ p, l[i]? = some p := ⟨_, List.getElem?_eq_getElem hlt⟩
      simp only [dec_lt hlt, cond_true, wrap_succ (show i < 1000000 by omega)]
      have e := pairs_in d h self hp d (i + 1) out (by omega) (by omega) (by omega)
      have hlen := List.length_filterMap_le (fun q => mtP (p, q)) (l.drop (i + 1))
      rw [List.length_drop] at hlen
      rw [e, ih (i + 1) _ (by omega) (by omega) (by rw [List.length_append]; omega), pairsL_drop hp, List.drop_zero, List.filterMap_append, List.filterMap_map, List.append_assoc]
      rfl
    · have : i = l.length := by omega
      simp only [dec_nlt hlt, cond_false]
      rw [this, List.drop_length]
      simp [pairsL]
theorem ins_in (d : Nat) {M : List M4} (hM : ∀ x ∈ M, okW x) (hlen : M.length ≤ 4096) (self4 : (Int × List Diiii) → Option ref04_Pairs_R) {i : Nat} : ∀ (f k : Nat) (out : List M4), k < f → k ≤ i → i < out.length → out.Perm M → Near out (i + 1) k →
    ∃ out', out'.Perm M ∧ Srt out' (i + 1) ∧ iter (ref04_Pairs_L5 d self4) f ((i : Int), (k : Int), out) = self4 (((i + 1 : Nat) : Int), out')
  | 0, k, out, hf, _, _, _, _ => by omega
  | f + 1, k, out, hf, hk, hi, hp, hn => by
    have hw : ∀ x ∈ out, okW x := fun x hx => hM x (hp.mem_iff.1 hx)
    have hl : out.length ≤ 4096 := by rw [hp.length_eq]; exact hlen
    have ih := fun k out => ins_in d hM hlen self4 (i := i) f k out
    rw [iter]
    revert ih
    generalize iter (ref04_Pairs_L5 d self4) f = self
    intro ih
    unfold ref04_Pairs_L5
    simp only [ref04_Pairs_r13, ref04_Pairs_r15, ref04_Pairs_r16, ref04_Pairs_r17, Dt.eval, ref04_Pairs_K]
    have wi := wrap_succ (show i < 1000000 by omega)
    rcases Nat.eq_zero_or_pos k with h0 | h0
    · subst h0
      simp only [show decide (((0 : Nat) : Int) > 0) = false from rfl, cond_false, wi]
      exact ⟨out, hp, near_stop (fun x hx => (hw x hx).ok) hn (.inl rfl), rfl⟩
    · have c1 : decide ((k : Int) > 0) = true := by rw [decide_eq_true_eq]; omega
      have wk : IntKind.wrap .i64 ((k : Int) - 1) = ((k - 1 : Nat) : Int) := by rw [IntWalk.i64_in _ (by omega)]; omega
      obtain ⟨x, hx⟩ : ∃ x, out[k]? = some x := ⟨_, List.getElem?_eq_getElem (by omega)⟩
      obtain ⟨y, hy⟩ : ∃ y, out[k - 1]? = some y := ⟨_, List.getElem?_eq_getElem (by omega)⟩
      have e1 := before_eq d (hw x (List.mem_of_getElem? hx)) (hw y (List.mem_of_getElem? hy))
      simp only [c1, cond_true, wk, inB_of (show k < out.length by omega), inB_of (show k - 1 < out.length by omega), elt_some hx, elt_some hy, e1, Dt.eval]
      cases hb : ltM x y with
      | false =>
        simp only [cond_false, wi]
        exact ⟨out, hp, near_stop (fun x hx => (hw x hx).ok) hn (.inr ⟨x, y, hx, hy, hb⟩), rfl⟩
      | true =>
        simp only [cond_true, List.length_set, inB_of (show k < out.length by omega), inB_of (show k - 1 < out.length by omega), elt_some hx, elt_some hy, wk, Int.toNat_natCast]
        exact ih (k - 1) ((out.set k y).set (k - 1) x) (by omega) (by omega) (by simp only [List.length_set]; omega) ((swap_perm h0 hx hy).trans hp) (near_swap (by omega) (by omega) h0 hx hy hb hn)
theorem ins_out (d : Nat) (hd : 5000 ≤ d) {M : List M4} (hM : ∀ x ∈ M, okW x) (hlen : M.length ≤ 4096) : ∀ (f i : Nat) (out : List M4), out.length - i < f → 0 < i → out.Perm M → Srt out i →
    ∃ out', out'.Perm M ∧ Srt out' out'.length ∧ iter (ref04_Pairs_L4 d) f ((i : Int), out) = some out'
  | 0, i, out, hf, _, _, _ => by omega
  | f + 1, i, out, hf, h0, hp, hs => by
    have hl : out.length ≤ 4096 := by rw [hp.length_eq]; exact hlen
    have ih := fun i out => ins_out d hd hM hlen f i out
    rw [iter]
    revert ih
    generalize iter (ref04_Pairs_L4 d) f = self
    intro ih
    unfold ref04_Pairs_L4
    simp only [ref04_Pairs_r12, ref04_Pairs_r14, ref04_Pairs_r18, Dt.eval]
    by_cases hlt : i < out.length
    · simp only [dec_lt hlt, cond_true]
      obtain ⟨out1, h1, h2, h3⟩ := ins_in d hM hlen self (i := i) d i out (by omega) (Nat.le_refl _) hlt hp (fun a b x y hab hbi hne hx hy => hs a b x y hab (by omega) hx hy)
      rw [h3]
      have hlen1 : out1.length = out.length := (h1.trans hp.symm).length_eq
      exact ih (i + 1) out1 (by omega) (by omega) h1 h2
    · simp only [dec_nlt hlt, cond_false]
      exact ⟨out, hp, fun a b x y hab hb => hs a b x y hab (by omega), rfl⟩
theorem rPairs_eq (d : Nat) (hd : 5000 ≤ d) {l : List T3} (h : FldOk l) : F_ref04_Pairs d ((l, ()), ()) = some (allM l) := by
  have e1 := pairs_out d hd h d 0 [] (by have := h.len; omega) (by omega) (by simp)
  have hw : ∀ x ∈ meetsL l, okW x := fun x hx => ⟨(meets_ok h hx).1, (meets_ok h hx).2.1, (meets_ok h hx).2.2⟩
  have hlen := meets_len h
  obtain ⟨out, h1, h2, h3⟩ := ins_out d hd hw hlen d 1 (meetsL l) (by omega) (by omega) (List.Perm.refl _) (fun a b x y hab hb => by omega)
  simp only [F_ref04_Pairs, ref04_Pairs_K, ref04_Pairs_r0, ref04_Pairs_r1, ref04_Pairs_r2, Dt.eval]
  refine e1.trans ?_
  rw [List.drop_zero, List.nil_append]
  refine h3.trans (congrArg some ?_)
  exact allM_only h h1 (srt_pw h2)
end Go.Proofs.Ytmagihjfbembjaa

namespace Go.Proofs.Ytmagihjfbembjaa
open Go Go.Tx Go.Pel
theorem rChk_eq (d : Nat) {n dd : Int} (hn : i64B n = true) (hd : i64B dd = true) : F_ref01_Check d ((n, dd, ()), ()) = some (ratioChk n dd) := F_ref01_Check_eq _ _ (by unfold ref01_Check_if; simp only [hn, hd, Bool.and_self])
theorem rBoth_eq (d : Nat) {n dd n' dd' : Int} (hn : i64B n = true) (hd : i64B dd = true) (hn' : i64B n' = true) (hd' : i64B dd' = true) : F_ref01_Both d ((n, dd, ()), (n', dd', ()), ()) = some (if ratioChk n dd ≠ 0 then ratioChk n dd else ratioChk n' dd') := by
  have e1 := rChk_eq d hn hd
  have e2 := rChk_eq d hn' hd'
  simp only [F_ref01_Both, ref01_Both_K, ref01_Both_r0, ref01_Both_r1, ref01_Both_r2, ref01_Both_r3, Dt.eval, e1, e2]
  by_cases h : ratioChk n dd = 0
  · simp only [h, show ((0 : Int) != 0) = false from rfl, cond_false, ne_eq, not_true_eq_false, if_false]
  · simp only [show (ratioChk n dd != 0) = true by simpa using h, cond_true, ne_eq, h, not_false_eq_true, if_true]
theorem rTimes_eq (d : Nat) (l : List T3) {n dd n' dd' : Int} (hn : i64B n = true) (hd : i64B dd = true) (hn' : i64B n' = true) (hd' : i64B dd' = true) : F_ref04_Times d ((l, ()), (n, dd, ()), (n', dd', ()), ()) = some (chk2 l n dd n' dd') := by
  have e1 : F_ref03_Check d ((l, ()), ()) = some (fieldChk (ptsL l)) := F_ref03_Check_eq _ _ rfl
  have e2 := rBoth_eq d hn hd hn' hd'
  have e3 := rCompare_eq d n dd n' dd' hn hd hn' hd'
  unfold chk2
  simp only [F_ref04_Times, ref04_Times_K, ref04_Times_r0, ref04_Times_r1, ref04_Times_r2, ref04_Times_r3, ref04_Times_r4, ref04_Times_r5, ref04_Times_r6, ref04_Times_r7, ref04_Times_r8, ref04_Times_r9, Dt.eval, e1, e2, e3]
  by_cases h : fieldChk (ptsL l) = 0
  · simp only [h, show ((0 : Int) != 0) = false from rfl, cond_false, ne_eq, not_true_eq_false, if_false]
    by_cases h2 : ratioChk n dd = 0
    · simp only [h2, not_true_eq_false, if_false]
      by_cases h3 : ratioChk n' dd' = 0
      · simp only [h3, show ((0 : Int) != 0) = false from rfl, cond_false, not_true_eq_false, if_false]
        by_cases h4 : 0 < cmpQ n dd n' dd'
        · simp only [gt_iff_lt, h4, decide_true, cond_true, if_true]
        · simp only [gt_iff_lt, h4, decide_false, cond_false, if_false]
      · simp only [show (ratioChk n' dd' != 0) = true by simpa using h3, cond_true, h3, not_false_eq_true, if_true]
    · simp only [show (ratioChk n dd != 0) = true by simpa using h2, cond_true, h2, not_false_eq_true, if_true]
  · simp only [show (fieldChk (ptsL l) != 0) = true by simpa using h, cond_true, ne_eq, h, not_false_eq_true, if_true]
theorem gt_cmp {x : M4} {n dd : Int} : decide (cmpQ x.1 x.2.1 n dd > 0) = gtM n dd x := rfl
theorem i64B_in {a : Int} (h : -9223372036854775808 ≤ a ∧ a ≤ 9223372036854775807) : i64B a = true := by
  unfold i64B; simp only [Bool.and_eq_true, decide_eq_true_eq]; exact h
end Go.Proofs.Ytmagihjfbembjaa

namespace Go.Pel
open Go Go.Tx
theorem filter_dn {α : Type} {p : α → Bool} : ∀ {L : List α}, (L.Pairwise fun a b => p a = true → p b = true) → L.filter (fun x => !p x) = L.take (L.findIdx p)
  | [], _ => rfl
  | x :: xs, h => by
    obtain ⟨h1, h2⟩ := List.pairwise_cons.1 h
    rw [List.findIdx_cons]
    cases hp : p x with
    | true =>
      rw [cond_true, List.take_zero, List.filter_eq_nil_iff]
      intro y hy
      rcases List.mem_cons.1 hy with rfl | hy
      · rw [hp]; decide
      · rw [h1 y hy hp]; decide
    | false =>
      rw [cond_false, List.take_succ_cons, List.filter_cons_of_pos (by rw [hp]; decide), filter_dn h2]
/-- not before in time -/
def leQ (n dd n' dd' : Int) : Prop := n * dd' ≤ n' * dd
theorem leQ_iff (n dd n' dd' : Int) : leQ n dd n' dd' ↔ ¬ 0 < cmpQ n dd n' dd' := by
  unfold leQ cmpQ cmpZ
  repeat' split
  all_goals omega
theorem gtM_le {n dd n' dd' : Int} (hd : 1 ≤ dd) (hd' : 1 ≤ dd') (hle : leQ n dd n' dd') {x : M4} (hx : okM x) (h : gtM n' dd' x = true) : gtM n dd x = true := by
  have o1 := (ratioChk_zero hx).1
  rw [gtM_iff] at h ⊢
  exact q_lt' hd hd' o1 hle h
end Go.Pel
namespace Go.Proofs.Ytmagihjfbembjaa
open Go Go.Tx Go.Pel
theorem chk2_zero {l : List T3} {n dd n' dd' : Int} (h : chk2 l n dd n' dd' = 0) : FldOk l ∧ ratioChk n dd = 0 ∧ ratioChk n' dd' = 0 ∧ leQ n dd n' dd' := by
  unfold chk2 at h
  by_cases h1 : fieldChk (ptsL l) = 0
  · rw [if_neg (by simpa using h1)] at h
    by_cases h2 : ratioChk n dd = 0
    · rw [if_neg (by simpa using h2)] at h
      by_cases h3 : ratioChk n' dd' = 0
      · rw [if_neg (by simpa using h3)] at h
        by_cases h4 : 0 < cmpQ n dd n' dd'
        · rw [if_pos h4] at h; cases h
        · exact ⟨fldOk_of h1, h2, h3, (leQ_iff ..).2 h4⟩
      · rw [if_pos h3] at h; exact absurd h h3
    · rw [if_pos h2] at h; exact absurd h h2
  · rw [if_pos h1] at h; exact absurd h h1
theorem le_gt {x : M4} {n dd : Int} : decide (cmpQ x.1 x.2.1 n dd ≤ 0) = !gtM n dd x := by
  unfold gtM
  rw [← decide_not]
  congr 1
  exact propext (by omega)
end Go.Proofs.Ytmagihjfbembjaa

namespace Go.Tx
end Go.Tx
namespace Go.Proofs.Ytmagihjfbembjaa
open Go Go.Tx Go.Pel
theorem mAhead_eq (d : Nat) {p q : T3} (hp : okP p) (hq : okP q) (hi : p.1 ≠ q.1) {n dd : Int} (hn : i64B n = true) (hd : i64B dd = true) (hr : ratioChk n dd = 0) : F_course_Ahead d ((p.1, p.2.1, p.2.2.1, ()), (q.1, q.2.1, q.2.2.1, ()), (n, dd, ()), ()) = some (leads (ofP p) (ofP q) n dd, 0) := by
  rw [F_course_Ahead_eq _ _ (by unfold course_Ahead_if; simp only [hn, hd, Bool.and_self])]
  have h : twoChk (ofP p) (ofP q) n dd = 0 := twoChk_ok ⟨hp, hq, hr⟩ hi
  show some ((aheadV (ofP p) (ofP q) n dd).1, (aheadV (ofP p) (ofP q) n dd).2) = _
  unfold aheadV
  rw [if_pos h]
end Go.Proofs.Ytmagihjfbembjaa

namespace Go.Pel
open Go Go.Tx
theorem cut_get {α : Type} {L : List α} {f t : Nat} (h1 : f < t) : ((L.take t).drop f)[0]? = L[f]? := by
  rw [List.getElem?_drop, Nat.add_zero, List.getElem?_take, if_pos h1]
end Go.Pel
namespace Go.Proofs.Ytmagihjfbembjaa
open Go Go.Tx Go.Pel
end Go.Proofs.Ytmagihjfbembjaa

namespace Go.Pel
open Go Go.Tx
/-- a test of a value that may be missing -/
def anyO {β : Type} (P : β → Bool) : Option β → Bool
  | some m => P m
  | none => false
theorem mk_mul {n d : Int} (hd : d ≠ 0) (hn : n.natAbs ≤ 4194304) (hd2 : d.natAbs ≤ 4194304) : (mk n d).1 * d = n * (mk n d).2.1 := by
  have hg := mk_gcd_pos (n := n) hd
  rw [mk_some hd]
  have b1 : n.natAbs / Nat.gcd n.natAbs d.natAbs ≤ n.natAbs := Nat.div_le_self _ _
  have b2 : d.natAbs / Nat.gcd n.natAbs d.natAbs ≤ d.natAbs := Nat.div_le_self _ _
  have e1 : Nat.gcd n.natAbs d.natAbs * (n.natAbs / Nat.gcd n.natAbs d.natAbs) = n.natAbs := Nat.mul_div_cancel' (Nat.gcd_dvd_left _ _)
  have e2 : Nat.gcd n.natAbs d.natAbs * (d.natAbs / Nat.gcd n.natAbs d.natAbs) = d.natAbs := Nat.mul_div_cancel' (Nat.gcd_dvd_right _ _)
  have e3 := (fun (G A B N D : Nat) (k1 : G * A = N) (k2 : G * B = D) => (by subst k1 k2; rw [Nat.mul_left_comm, Nat.mul_assoc] : A * D = N * B)) _ _ _ _ _ e1 e2
  generalize n.natAbs / Nat.gcd n.natAbs d.natAbs = A at *
  generalize d.natAbs / Nat.gcd n.natAbs d.natAbs = B at *
  have e4 : (A : Int) * (d.natAbs : Int) = (n.natAbs : Int) * (B : Int) := by exact_mod_cast e3
  have hno : ¬ (0 < 0 ∨ 9223372036854775807 < A ∨ 0 < 0 ∨ 9223372036854775807 < B) := by omega
  by_cases h1 : n < 0 <;> by_cases h2 : d < 0
  · rw [show (decide (n < 0) != decide (d < 0)) = false by simp [h1, h2], bld_pos hno]
    rw [show (d.natAbs : Int) = -d by omega, show (n.natAbs : Int) = -n by omega, Int.mul_neg, Int.neg_mul] at e4
    show (A : Int) * d = n * (B : Int)
    omega
  · rw [show (decide (n < 0) != decide (d < 0)) = true by simp [h1, h2], bld_neg hno]
    rw [show (d.natAbs : Int) = d by omega, show (n.natAbs : Int) = -n by omega, Int.neg_mul] at e4
    show -(A : Int) * d = n * (B : Int)
    rw [Int.neg_mul]; omega
  · rw [show (decide (n < 0) != decide (d < 0)) = true by simp [h1, h2], bld_neg hno]
    rw [show (d.natAbs : Int) = -d by omega, show (n.natAbs : Int) = n by omega, Int.mul_neg] at e4
    show -(A : Int) * d = n * (B : Int)
    rw [Int.neg_mul]; omega
  · rw [show (decide (n < 0) != decide (d < 0)) = false by simp [h1, h2], bld_pos hno]
    rw [show (d.natAbs : Int) = d by omega, show (n.natAbs : Int) = n by omega] at e4
    exact e4
theorem sg_pos {F D B X : Int} (hD : 0 < D) (hB : 0 < B) (h : F * D = B * X) : (0 < F ↔ 0 < X) ∧ (F = 0 ↔ X = 0) := by
  have f : (0 < F ∧ 0 < F * D) ∨ (F = 0 ∧ F * D = 0) ∨ (F < 0 ∧ F * D < 0) := by
    rcases (by omega : 0 < F ∨ F = 0 ∨ F < 0) with k | k | k
    · exact .inl ⟨k, Int.mul_pos k hD⟩
    · exact .inr (.inl ⟨k, by rw [k, Int.zero_mul]⟩)
    · exact .inr (.inr ⟨k, Int.mul_neg_of_neg_of_pos k hD⟩)
  have g : (0 < X ∧ 0 < B * X) ∨ (X = 0 ∧ B * X = 0) ∨ (X < 0 ∧ B * X < 0) := by
    rcases (by omega : 0 < X ∨ X = 0 ∨ X < 0) with k | k | k
    · exact .inl ⟨k, Int.mul_pos hB k⟩
    · exact .inr (.inl ⟨k, by rw [k, Int.mul_zero]⟩)
    · exact .inr (.inr ⟨k, Int.mul_neg_of_pos_of_neg hB k⟩)
  generalize F * D = U at *
  generalize B * X = V at *
  omega
theorem sg_neg {F D B X : Int} (hD : 0 < D) (hB : B < 0) (h : F * D = B * X) : (0 < F ↔ X < 0) ∧ (F = 0 ↔ X = 0) := by
  have := sg_pos (F := F) (B := -B) (X := -X) hD (by omega) (by rw [Int.neg_mul_neg]; exact h)
  omega
theorem leads_sg {p q : Pt} {n d : Int} : leads p q n d = true ↔ 0 < farD p q n d ∨ (farD p q n d = 0 ∧ (q.b < p.b ∨ (p.b = q.b ∧ p.id < q.id))) := by
  unfold leads
  by_cases h : farD p q n d = 0
  · rw [if_neg (by omega)]
    by_cases hb : p.b = q.b
    · rw [if_neg (by omega), decide_eq_true_eq]; omega
    · rw [if_pos hb, decide_eq_true_eq]; omega
  · rw [if_pos h, decide_eq_true_eq]; omega
theorem pt_bd' {p : T3} (h : okP p) : 0 ≤ p.1 ∧ p.1 ≤ 65535 ∧ -1048576 ≤ p.2.1 ∧ p.2.1 ≤ 1048576 ∧ -1048576 ≤ p.2.2.1 ∧ p.2.2.1 ≤ 1048576 := pointChk_zero (show pointChk p.1 p.2.1 p.2.2.1 = 0 from h)
/-- a meeting is a time at which both are at the same place -/
theorem mtP_eq {x : T3 × T3} (hp : okP x.1) (hq : okP x.2) {m : M4} (h : mtP x = some m) : x.1.2.2.1 ≠ x.2.2.2.1 ∧ okM m ∧ m.1.natAbs ≤ 4194304 ∧ m.2.1 ≤ 4194304 ∧ m.2.2.1 = x.1.1 ∧ m.2.2.2.1 = x.2.1 ∧ (x.1.2.1 - x.2.2.1) * m.2.1 + (x.1.2.2.1 - x.2.2.2.1) * m.1 = 0 := by
  obtain ⟨_, _, a1, a2, a3, a4⟩ := pt_bd' hp
  obtain ⟨_, _, b1, b2, b3, b4⟩ := pt_bd' hq
  unfold mtP at h
  by_cases hb : x.1.2.2.1 = x.2.2.2.1
  · rw [if_pos hb] at h; cases h
  · rw [if_neg hb] at h
    injection h with h
    subst h
    obtain ⟨_, h2, h3, h4⟩ := mk_ok (n := x.1.2.1 - x.2.2.1) (d := x.2.2.2.1 - x.1.2.2.1) (by omega) (by omega) (by omega)
    have h5 := mk_mul (n := x.1.2.1 - x.2.2.1) (d := x.2.2.2.1 - x.1.2.2.1) (by omega) (by omega) (by omega)
    refine ⟨hb, h2, h3, h4, rfl, rfl, ?_⟩
    show (x.1.2.1 - x.2.2.1) * (mk (x.1.2.1 - x.2.2.1) (x.2.2.2.1 - x.1.2.2.1)).2.1 + (x.1.2.2.1 - x.2.2.2.1) * (mk (x.1.2.1 - x.2.2.1) (x.2.2.2.1 - x.1.2.2.1)).1 = 0
    rw [← h5, Int.mul_comm (x.1.2.2.1 - x.2.2.2.1), ← Int.mul_add, show x.2.2.2.1 - x.1.2.2.1 + (x.1.2.2.1 - x.2.2.2.1) = 0 by omega, Int.mul_zero]
theorem leads_mt {x : T3 × T3} (hp : okP x.1) (hq : okP x.2) {m : M4} (h : mtP x = some m) {n dd : Int} : leads (ofP x.1) (ofP x.2) n dd = (if x.2.2.2.1 < x.1.2.2.1 then !gtM n dd m else gtM n dd m) := by
  obtain ⟨hb, hm, _, _, _, _, e⟩ := mtP_eq hp hq h
  have hD := (ratioChk_zero hm).1
  have key : farD (ofP x.1) (ofP x.2) n dd * m.2.1 = (x.1.2.2.1 - x.2.2.2.1) * (n * m.2.1 - m.1 * dd) := by
    show ((x.1.2.1 - x.2.2.1) * dd + (x.1.2.2.1 - x.2.2.2.1) * n) * m.2.1 = _
    rw [Int.add_mul, Int.mul_sub, Int.mul_right_comm (x.1.2.1 - x.2.2.1), show (x.1.2.1 - x.2.2.1) * m.2.1 = -((x.1.2.2.1 - x.2.2.2.1) * m.1) by omega, Int.neg_mul, Int.mul_assoc, Int.mul_assoc]
    omega
  have hg := gtM_iff n dd m
  have hl := leads_sg (p := ofP x.1) (q := ofP x.2) (n := n) (d := dd)
  have hbb : (ofP x.2).b < (ofP x.1).b ↔ x.2.2.2.1 < x.1.2.2.1 := Iff.rfl
  have hbe : (ofP x.1).b = (ofP x.2).b ↔ x.1.2.2.1 = x.2.2.2.1 := Iff.rfl
  by_cases hlt : x.2.2.2.1 < x.1.2.2.1
  · obtain ⟨s1, s2⟩ := sg_pos (by omega : 0 < m.2.1) (by omega : 0 < x.1.2.2.1 - x.2.2.2.1) key
    rw [if_pos hlt]
    cases h1 : gtM n dd m with
    | true =>
      rw [h1] at hg
      have := hg.1 rfl
      cases h2 : leads (ofP x.1) (ofP x.2) n dd with
      | false => rfl
      | true => rw [h2] at hl; have := hl.1 rfl; omega
    | false =>
      rw [h1] at hg
      have : ¬ n * m.2.1 < m.1 * dd := fun k => by cases hg.2 k
      exact hl.2 (by omega)
  · obtain ⟨s1, s2⟩ := sg_neg (by omega : 0 < m.2.1) (by omega : x.1.2.2.1 - x.2.2.2.1 < 0) key
    rw [if_neg hlt]
    cases h1 : gtM n dd m with
    | true =>
      rw [h1] at hg
      have := hg.1 rfl
      exact hl.2 (by omega)
    | false =>
      rw [h1] at hg
      have : ¬ n * m.2.1 < m.1 * dd := fun k => by cases hg.2 k
      cases h2 : leads (ofP x.1) (ofP x.2) n dd with
      | false => rfl
      | true => rw [h2] at hl; have := hl.1 rfl; omega
theorem leads_same {p q : T3} (hb : p.2.2.1 = q.2.2.1) {n dd n' dd' : Int} (hd : 1 ≤ dd) (hd' : 1 ≤ dd') : leads (ofP p) (ofP q) n dd = leads (ofP p) (ofP q) n' dd' := by
  have f : ∀ {n d : Int}, 1 ≤ d → (0 < farD (ofP p) (ofP q) n d ↔ 0 < p.2.1 - q.2.1) ∧ (farD (ofP p) (ofP q) n d = 0 ↔ p.2.1 - q.2.1 = 0) := fun {n d} h => by
    have e : farD (ofP p) (ofP q) n d = (p.2.1 - q.2.1) * d := by
      show (p.2.1 - q.2.1) * d + (p.2.2.1 - q.2.2.1) * n = _
      rw [hb, Int.sub_self, Int.zero_mul, Int.add_zero]
    have := sg_pos (F := p.2.1 - q.2.1) (D := d) (B := 1) (X := farD (ofP p) (ofP q) n d) (by omega) (by omega) (by rw [e, Int.one_mul])
    omega
  obtain ⟨f1, f2⟩ := f (n := n) hd
  obtain ⟨g1, g2⟩ := f (n := n') hd'
  rw [Bool.eq_iff_iff, leads_sg, leads_sg]
  have hbb : (ofP p).b = (ofP q).b := hb
  omega
theorem countP_fm {α β : Type} {f : α → Option β} {P : β → Bool} : ∀ l : List α, (l.filterMap f).countP P = l.countP (fun x => anyO P (f x))
  | [] => rfl
  | a :: l => by
    rw [List.filterMap_cons, List.countP_cons, ← countP_fm l]
    cases h : f a with
    | none => simp [anyO]
    | some b => rw [List.countP_cons]; rfl
theorem pairsL_idx {α : Type} : ∀ {l : List α} {x : α × α}, x ∈ pairsL l → ∃ i j : Nat, i < j ∧ l[i]? = some x.1 ∧ l[j]? = some x.2
  | [], x, h => by cases h
  | p :: r, x, h => by
    rw [pairsL, List.mem_append, List.mem_map] at h
    rcases h with ⟨q, hq, rfl⟩ | h
    · obtain ⟨j, hj, rfl⟩ := List.mem_iff_getElem.1 hq
      exact ⟨0, j + 1, by omega, rfl, by simp⟩
    · obtain ⟨i, j, h1, h2, h3⟩ := pairsL_idx h
      exact ⟨i + 1, j + 1, by omega, by simpa using h2, by simpa using h3⟩
theorem pairsL_ids : ∀ {l : List T3}, (l.Pairwise fun p q => p.1 < q.1) → (pairsL l).Pairwise fun x y => x.1.1 ≠ y.1.1 ∨ x.2.1 ≠ y.2.1
  | [], _ => List.Pairwise.nil
  | p :: r, h => by
    obtain ⟨h1, h2⟩ := List.pairwise_cons.1 h
    rw [pairsL, List.pairwise_append]
    refine ⟨?_, pairsL_ids h2, ?_⟩
    · rw [List.pairwise_map]
      exact h2.imp fun {a b} hab => .inr (by show a.1 ≠ b.1; omega)
    · intro a ha b hb
      obtain ⟨q, hq, rfl⟩ := List.mem_map.1 ha
      have := h1 _ (pairsL_mem hb h2).1
      exact .inl (by show p.1 ≠ b.1.1; omega)
theorem allM_strict {l : List T3} (h : FldOk l) : (allM l).Pairwise fun a b => ltM a b = true := by
  have hn : (meetsL l).Pairwise fun a b => a ≠ b := by
    unfold meetsL
    rw [List.pairwise_filterMap]
    refine ((pairsL_ids h.inc).imp_of_mem fun {a b} ha hb hab => ?_)
    intro m hm m' hm' heq
    subst heq
    obtain ⟨g1, g2, _⟩ := pairsL_mem ha h.inc
    obtain ⟨k1, k2, _⟩ := pairsL_mem hb h.inc
    obtain ⟨_, _, _, _, i1, i2, _⟩ := mtP_eq (h.ok _ g1) (h.ok _ g2) hm
    obtain ⟨_, _, _, _, j1, j2, _⟩ := mtP_eq (h.ok _ k1) (h.ok _ k2) hm'
    omega
  have hn2 : (allM l).Pairwise fun a b => a ≠ b := ((allM_perm l).pairwise_iff (R := fun a b => a ≠ b) (fun {a b} h => Ne.symm h)).2 hn
  refine (List.Pairwise.and_mem.1 ((allM_pw h).and hn2)).imp fun {a b} ⟨ha, hb, h1, h2⟩ => ?_
  cases hab : ltM a b with
  | true => rfl
  | false => exact absurd (ltM_eq (allM_ok h ha).1 (allM_ok h hb).1 hab h1) h2
theorem allM_from {l : List T3} (h : FldOk l) {m : M4} (hm : m ∈ allM l) : ∃ (i j : Nat) (p q : T3), i < j ∧ l[i]? = some p ∧ l[j]? = some q ∧ mtP (p, q) = some m := by
  have := (allM_perm l).mem_iff.1 hm
  unfold meetsL at this
  obtain ⟨x, hx, hxm⟩ := List.mem_filterMap.1 this
  obtain ⟨i, j, h1, h2, h3⟩ := pairsL_idx hx
  exact ⟨i, j, x.1, x.2, h1, h2, h3, hxm⟩
end Go.Pel
namespace Go.Proofs.Ytmagihjfbembjaa
open Go Go.Tx Go.Pel
end Go.Proofs.Ytmagihjfbembjaa

namespace Go.Pel
open Go Go.Tx
theorem leads_self (p : Pt) (n d : Int) : leads p p n d = false := by
  cases h : leads p p n d with
  | false => rfl
  | true =>
    have := leads_sg.1 h
    have e : farD p p n d = 0 := by unfold farD; rw [Int.sub_self, Int.sub_self, Int.zero_mul, Int.zero_mul]; rfl
    omega
theorem leads_asym {p q : Pt} {n d : Int} (hi : p.id ≠ q.id) : leads q p n d = !leads p q n d := by
  have e : farD q p n d = -farD p q n d := by
    unfold farD
    rw [show q.a - p.a = -(p.a - q.a) by omega, show q.b - p.b = -(p.b - q.b) by omega, Int.neg_mul, Int.neg_mul]
    omega
  have h1 := leads_sg (p := p) (q := q) (n := n) (d := d)
  have h2 := leads_sg (p := q) (q := p) (n := n) (d := d)
  cases k1 : leads p q n d <;> cases k2 : leads q p n d
  · rw [k1] at h1; rw [k2] at h2
    have a1 : ¬ (0 < farD p q n d ∨ (farD p q n d = 0 ∧ (q.b < p.b ∨ (p.b = q.b ∧ p.id < q.id)))) := fun k => by cases h1.2 k
    have a2 : ¬ (0 < farD q p n d ∨ (farD q p n d = 0 ∧ (p.b < q.b ∨ (q.b = p.b ∧ q.id < p.id)))) := fun k => by cases h2.2 k
    omega
  · rfl
  · rfl
  · have a1 := h1.1 k1
    have a2 := h2.1 k2
    omega
theorem pairsL_of {α : Type} : ∀ {l : List α} {i j : Nat} {p q : α}, i < j → l[i]? = some p → l[j]? = some q → (p, q) ∈ pairsL l
  | [], i, j, p, q, _, h, _ => by simp at h
  | x :: r, 0, j + 1, p, q, _, h1, h2 => by
    rw [pairsL, List.mem_append, List.mem_map]
    simp only [List.getElem?_cons_zero, Option.some.injEq] at h1
    rw [List.getElem?_cons_succ] at h2
    exact .inl ⟨q, List.mem_of_getElem? h2, by rw [h1]⟩
  | x :: r, i + 1, j + 1, p, q, h, h1, h2 => by
    rw [pairsL, List.mem_append]
    rw [List.getElem?_cons_succ] at h1 h2
    exact .inr (pairsL_of (by omega) h1 h2)
theorem mtP_mem {l : List T3} {i j : Nat} {p q : T3} (h : i < j) (hp : l[i]? = some p) (hq : l[j]? = some q) {m : M4} (hm : mtP (p, q) = some m) : m ∈ allM l := by
  rw [(allM_perm l).mem_iff]
  unfold meetsL
  exact List.mem_filterMap.2 ⟨_, pairsL_of h hp hq, hm⟩
theorem ids_ne {l : List T3} (h : FldOk l) {i j : Nat} {p q : T3} (hij : i < j) (hp : l[i]? = some p) (hq : l[j]? = some q) : p.1 < q.1 := by
  obtain ⟨h1, rfl⟩ := List.getElem?_eq_some_iff.1 hp
  obtain ⟨h2, rfl⟩ := List.getElem?_eq_some_iff.1 hq
  exact (List.pairwise_iff_getElem.1 h.inc) i j h1 h2 hij
theorem pts_mem {l : List T3} {P : Pt} (h : P ∈ ptsL l) : ∃ p ∈ l, ofP p = P := List.mem_map.1 h
theorem find_in {l : List T3} (h : FldOk l) (h0 : fieldChk (ptsL l) = 0) {p : T3} (hp : p ∈ l) : fieldFind (ptsL l) p.1 = (ofP p, 0) := by
  have hb : hasB (ptsL l) p.1 = true := by
    unfold hasB
    rw [List.any_eq_true]
    exact ⟨ofP p, List.mem_map_of_mem hp, decide_eq_true rfl⟩
  obtain ⟨_, P, h1, h2⟩ := atI_low (fieldChk_zero h0).2.2 hb
  unfold fieldFind
  rw [if_neg (by simpa using h0), if_pos hb, List.getD_eq_getElem?_getD, h1]
  unfold ptsL at h1
  rw [List.getElem?_map] at h1
  cases hq : l[lowB (List.map ofP l) p.1]? with
  | none => rw [hq] at h1; cases h1
  | some q =>
    rw [hq] at h1
    injection h1 with h1
    subst h1
    obtain ⟨i, hi⟩ := List.mem_iff_getElem?.1 hp
    have h2 : q.1 = p.1 := h2
    rcases (by omega : i < lowB (List.map ofP l) p.1 ∨ i = lowB (List.map ofP l) p.1 ∨ lowB (List.map ofP l) p.1 < i) with k | k | k
    · have := ids_ne h k hi hq; omega
    · rw [← k, hi] at hq; injection hq with hq; subst hq; rfl
    · have := ids_ne h k hq hi; omega
end Go.Pel
namespace Go.Proofs.Ytmagihjfbembjaa
open Go Go.Tx Go.Pel
theorem order_at (d : Nat) {l : List T3} (hl : l.length ≤ 64) (h0 : fieldChk (ptsL l) = 0) {n dd : Int} (hn : i64B n = true) (hd : i64B dd = true) (hr : ratioChk n dd = 0) : F_field_Order d ((l, ()), (n, dd, ()), ()) = some (unI ((ordI n dd (ptsL l)).map Pt.id), 0) := by
  rw [F_field_Order_eq _ _ (by unfold field_Order_if; simp only [hn, hd, Bool.and_self, Bool.true_and, decide_eq_true_eq]; rw [ptsL_len]; omega)]
  have e : fieldOrderI (ptsL l) n dd = ((ordI n dd (ptsL l)).map Pt.id, 0) := by unfold fieldOrderI; rw [if_neg (by simpa using h0), if_neg (by simpa using hr)]
  show some (unI (fieldOrderI (ptsL l) n dd).1, (fieldOrderI (ptsL l) n dd).2) = _
  rw [e]
theorem find_at (d : Nat) {l : List T3} (h : FldOk l) (h0 : fieldChk (ptsL l) = 0) {p : T3} (hp : p ∈ l) : F_field_Find d ((l, ()), (p.1, ()), ()) = some (p.1, p.2.1, p.2.2.1, 0) := by
  rw [F_field_Find_eq _ _ rfl]
  show some ((fieldFind (ptsL l) p.1).1.id, (fieldFind (ptsL l) p.1).1.a, (fieldFind (ptsL l) p.1).1.b, (fieldFind (ptsL l) p.1).2) = _
  rw [find_in h h0 hp]
  rfl
end Go.Proofs.Ytmagihjfbembjaa

namespace Go.Tx
theorem stabV_of {τ : Row} {F : den τ × den τ × Unit → Option Int} {xs r : List (den τ)} (hl : xs.length ≤ 19) (h : sortV F xs = some r) : stabV F xs = some r := by
  unfold stabV
  rw [show Nat.ble xs.length 19 = true by rw [Nat.ble_eq]; exact hl, cond_true]
  exact h
end Go.Tx
namespace Go.Proofs.Ytmagihjfbembjaa
open Go Go.Tx Go.Pel
def oth (id : Int) (x : M4) : Int := if x.2.2.1 = id then x.2.2.2.1 else x.2.2.1
def oC (id : Int) (x : M4) : M4 := (x.1, x.2.1, oth id x, 0, ())
def cmpC (id : Int) (x y : M4) : Int := cmpM (oC id x) (oC id y)
def ltC (id : Int) (x y : M4) : Bool := ltM (oC id x) (oC id y)
structure okC (id : Int) (x : M4) : Prop where
  w : okW x
  lt : x.2.2.1 < x.2.2.2.1
  me : x.2.2.1 = id ∨ x.2.2.2.1 = id
theorem cmpC_eq (id : Int) (x y : M4) : cmpC id x y = orZ (cmpQ x.1 x.2.1 y.1 y.2.1) (cmpZ (oth id x) (oth id y)) := by
  unfold cmpC cmpM oC
  simp only
  have : orZ (cmpZ (oth id x) (oth id y)) (cmpZ 0 0) = cmpZ (oth id x) (oth id y) := by
    unfold orZ
    by_cases h : cmpZ (oth id x) (oth id y) = 0
    · simp only [h]; decide
    · simp only [h, ne_eq, not_false_eq_true, if_true]
  rw [this]
theorem okC.ok {id : Int} {x : M4} (h : okC id x) : okM (oC id x) := h.w.ok
theorem okC.eq {id : Int} {x y : M4} (hx : okC id x) (hy : okC id y) (h : oC id x = oC id y) : x = y := by
  obtain ⟨_, h2, h3⟩ := hx
  obtain ⟨_, k2, k3⟩ := hy
  obtain ⟨a, b, c, e, ⟨⟩⟩ := x
  obtain ⟨a', b', c', e', ⟨⟩⟩ := y
  unfold oC oth at h
  simp only [Prod.mk.injEq, and_true] at h h2 h3 k2 k3
  obtain ⟨rfl, rfl, h⟩ := h
  have : c = c' ∧ e = e' := by
    split at h <;> split at h <;> omega
  obtain ⟨rfl, rfl⟩ := this
  rfl
theorem ltC_eq {id : Int} {x y : M4} (hx : okC id x) (hy : okC id y) (h : ltC id x y = false) (k : ltC id y x = false) : x = y := hx.eq hy (ltM_eq hx.ok hy.ok h k)
theorem ltC_neg {id : Int} {x y z : M4} (hx : okC id x) (hy : okC id y) (hz : okC id z) (h : ltC id x y = false) (k : ltC id y z = false) : ltC id x z = false := ltM_neg hx.ok hy.ok hz.ok h k
theorem ltC_iff (id : Int) (x y : M4) : ltC id x y = true ↔ x.1 * y.2.1 < y.1 * x.2.1 ∨ (x.1 * y.2.1 = y.1 * x.2.1 ∧ oth id x < oth id y) := by
  unfold ltC
  rw [ltM_iff]
  unfold oC
  simp only
  omega
theorem uniqC {id : Int} {l m : List M4} (hok : ∀ x ∈ l, okC id x) (hp : l.Perm m) (hl : l.Pairwise fun a b => ltC id b a = false) (hm : m.Pairwise fun a b => ltC id b a = false) : l = m := by
  refine List.Perm.eq_of_pairwise (le := fun a b => ltC id b a = false) ?_ hl hm hp
  intro a b ha hb h k
  exact ltC_eq (hok a ha) (hok b (hp.symm.mem_iff.1 hb)) k h
theorem sortC_pw {id : Int} {l : List M4} (hok : ∀ x ∈ l, okC id x) : (sortL (ltC id) l).Pairwise fun a b => ltC id b a = false :=
  sortL_pw (S := okC id) (fun _ _ _ _ h => ltM_asymm h) (fun _ _ _ hx hy hz h k => ltC_neg hx hy hz h k) l hok
theorem orInt2_eq (d : Nat) (hd : 5 ≤ d) (a b : Int) : F_cmp_Or_int d (([(a, ()), (b, ())], ()), ()) = some (orZ a b) := by
  obtain ⟨n, rfl⟩ : ∃ n, d = n + 5 := ⟨d - 5, by omega⟩
  have w1 : IntKind.wrap .i64 ((0 : Int) + 1) = 1 := by decide
  have w2 : IntKind.wrap .i64 ((1 : Int) + 1) = 2 := by decide
  have w4 : IntKind.wrap .i64 (1 : Int) = 1 := by decide
  have w5 : IntKind.wrap .i64 (2 : Int) = 2 := by decide
  have b0 : inB 0 2 = true := by decide
  have b1 : inB 1 2 = true := by decide
  unfold orZ
  by_cases ha : a = 0
  · by_cases hb : b = 0
    · subst ha hb
      simp [F_cmp_Or_int, cmp_Or_int_K, cmp_Or_int_r0, cmp_Or_int_r1, cmp_Or_int_r2, cmp_Or_int_r3, cmp_Or_int_r4, cmp_Or_int_r5, cmp_Or_int_r6, cmp_Or_int_r7, cmp_Or_int_r8, cmp_Or_int_L1, iter, Dt.eval, w1, w2, w4, w5, b0, b1, elt]
    · subst ha
      simp [F_cmp_Or_int, cmp_Or_int_K, cmp_Or_int_r0, cmp_Or_int_r1, cmp_Or_int_r2, cmp_Or_int_r3, cmp_Or_int_r4, cmp_Or_int_r5, cmp_Or_int_r6, cmp_Or_int_r7, cmp_Or_int_r8, cmp_Or_int_L1, iter, Dt.eval, w1, w2, w4, w5, b0, b1, elt, show (b != 0) = true by simpa using hb]
  · simp [F_cmp_Or_int, cmp_Or_int_K, cmp_Or_int_r0, cmp_Or_int_r1, cmp_Or_int_r2, cmp_Or_int_r3, cmp_Or_int_r4, cmp_Or_int_r5, cmp_Or_int_r6, cmp_Or_int_r7, cmp_Or_int_r8, cmp_Or_int_L1, iter, Dt.eval, w1, w2, w4, w5, b0, b1, elt, show (a != 0) = true by simpa using ha]
    intro h; exact absurd h ha
theorem other_eq (d : Nat) (x : M4) (id : Int) : F_chase_other d ((x.1, x.2.1, x.2.2.1, x.2.2.2.1, ()), (id, ()), ()) = some (oth id x) := by
  unfold oth
  simp only [F_chase_other, chase_other_K, chase_other_r0, chase_other_r1, chase_other_r2, chase_other_r3, chase_other_r4, Dt.eval]
  by_cases h : x.2.2.1 = id
  · simp only [h, beq_self_eq_true, cond_true, if_true]
  · simp only [show (x.2.2.1 == id) = false by simpa using h, cond_false, h, if_false]
theorem behind2_eq (d : Nat) (hd : 5 ≤ d) {id : Int} {x y : M4} (hx : okW x) (hy : okW y) : F_chase_behind_2 d (x, y, (id, ()), ()) = some (cmpC id x y) := by
  have e1 : F_ratio_Cmp d ((x.1, x.2.1, ()), (y.1, y.2.1, ()), ()) = some (cmpQ x.1 x.2.1 y.1 y.2.1, 0) := by
    rw [rCmp_eq d _ _ _ _ hx.b1 hx.b2 hy.b1 hy.b2]; unfold cmpR; rw [if_pos ⟨hx.ok, hy.ok⟩]
  have e2 := cmpInt_eq d (oth id x) (oth id y)
  rw [cmpC_eq]
  simp only [F_chase_behind_2, chase_behind_2_K, chase_behind_2_r0, chase_behind_2_r1, chase_behind_2_r2, Dt.eval, e1, other_eq, e2, orInt2_eq d hd]
def stC (d : Nat) (id : Int) (xs : List M4) : Option (List M4) := stabV (τ := Riiii) (fun p => F_chase_behind_2 d (p.1, p.2.1, (id, ()), ())) xs
theorem stabC_eq (d : Nat) (hd : 5 ≤ d) {id : Int} {xs : List M4} (h : ∀ x ∈ xs, okC id x) (hl : xs.length ≤ 19) : stC d id xs = some (sortL (ltC id) xs) := by
  exact stabV_of (τ := Riiii) hl <| sortV_gen (τ := Riiii) (S := okC id) (lt := ltC id) (c := cmpC id) h (fun x y hx hy => behind2_eq d hd hx.w hy.w) (fun _ _ => rfl) (fun x => ltM_irr _) (fun x y z hx hy hz => ltM_trans hx.ok hy.ok hz.ok) (fun x y z hx hy hz => ltM_neg hx.ok hy.ok hz.ok) (fun x y hx hy h1 h2 => by
    have := ltC_eq hx hy h1 h2
    subst this
    show (x.1 == x.1 && (x.2.1 == x.2.1 && (x.2.2.1 == x.2.2.1 && (x.2.2.2.1 == x.2.2.2.1 && true)))) = true
    simp only [beq_self_eq_true, Bool.and_self]) (Nat.le_trans hl (by decide))
/-- the meeting of p and q -/
def chV (p q : T3) : M4 := ((mk (p.2.1 - q.2.1) (q.2.2.1 - p.2.2.1)).1, (mk (p.2.1 - q.2.1) (q.2.2.1 - p.2.2.1)).2.1, tmin p.1 q.1, tmax p.1 q.1, ())
def chM (p : T3) (n dd : Int) (q : T3) : Option M4 := if q.1 = p.1 then none else if p.2.2.1 = q.2.2.1 then none else if gtM n dd (chV p q) then some (chV p q) else none
theorem chV_ok {p q : T3} (hp : okP p) (hq : okP q) (hi : q.1 ≠ p.1) (hb : p.2.2.1 ≠ q.2.2.1) : okC p.1 (chV p q) := by
  obtain ⟨_, _, a1, a2, a3, a4⟩ := pt_bd hp
  obtain ⟨_, _, b1, b2, b3, b4⟩ := pt_bd hq
  have hm := mk_ok (n := p.2.1 - q.2.1) (d := q.2.2.1 - p.2.2.1) (by omega) (by omega) (by omega)
  refine ⟨⟨hm.2.1, hm.2.2.1, hm.2.2.2⟩, ?_, ?_⟩
  · show tmin p.1 q.1 < tmax p.1 q.1
    unfold tmin tmax; split <;> split <;> omega
  · show tmin p.1 q.1 = p.1 ∨ tmax p.1 q.1 = p.1
    unfold tmin tmax; split <;> split <;> omega
theorem chM_ok {p q : T3} {n dd : Int} {x : M4} (hp : okP p) (hq : okP q) (h : chM p n dd q = some x) : okC p.1 x ∧ gtM n dd x = true ∧ x = chV p q ∧ q.1 ≠ p.1 ∧ p.2.2.1 ≠ q.2.2.1 := by
  unfold chM at h
  split at h
  · cases h
  · rename_i h1
    split at h
    · cases h
    · rename_i h2
      split at h
      · rename_i h3; injection h with h; subst h; exact ⟨chV_ok hp hq h1 h2, h3, rfl, h1, h2⟩
      · cases h
theorem behind1_clo (d : Nat) {p q : T3} {n dd : Int} (hp : okP p) (hq : okP q) (hi : q.1 ≠ p.1) (hn : i64B n = true) (hdd : i64B dd = true) (hr : ratioChk n dd = 0) {out : List M4} (hl : out.length ≤ 99999) :
    F_chase_behind_1 d (((q.1, q.2.1, q.2.2.1, ()), (p.1, p.2.1, p.2.2.1, ()), (n, dd, ()), ()), ((p.1, ()), ()), out) = some (out ++ (chM p n dd q).toList) := by
  have e1 := meet_eq d hp hq (Ne.symm hi)
  have ha : apB out.length 1 = true := by unfold apB; rw [Nat.ble_eq]; omega
  unfold F_chase_behind_1 chase_behind_1_f chase_behind_1_K chM
  simp only [e1]
  by_cases hb : p.2.2.1 = q.2.2.1
  · simp only [hb, if_true, if_neg hi]
    simp
  · have hv := chV_ok hp hq hi hb
    have e2 := rCmp_eq d (chV p q).1 (chV p q).2.1 n dd hv.w.b1 hv.w.b2 hn hdd
    unfold cmpR at e2
    rw [if_pos ⟨hv.w.ok, hr⟩] at e2
    have e3 : F_ratio_Cmp d (((mk (p.2.1 - q.2.1) (q.2.2.1 - p.2.2.1)).1, (mk (p.2.1 - q.2.1) (q.2.2.1 - p.2.2.1)).2.1, ()), (n, dd, ()), ()) = some (cmpQ (chV p q).1 (chV p q).2.1 n dd, 0) := e2
    simp only [hb, if_false, if_neg hi, e3, show (!((0 : Int) == 0)) = false from rfl, cond_false]
    have e4 : decide (cmpQ (chV p q).1 (chV p q).2.1 n dd > 0) = gtM n dd (chV p q) := rfl
    rw [e4]
    cases hg : gtM n dd (chV p q) with
    | true => simp only [cond_true, ha, if_true]; rfl
    | false => simp
theorem beh_loop (d : Nat) {l : List T3} (h : FldOk l) {p : T3} (hp : okP p) {n dd : Int} (hn : i64B n = true) (hdd : i64B dd = true) (hr : ratioChk n dd = 0) {z : List M4} : ∀ (f i : Nat) (out : List M4), l.length - i < f → i ≤ l.length → out.length + (l.length - i) ≤ 99999 →
    stC d p.1 (out ++ (l.drop i).filterMap (chM p n dd)) = some z →
    iter (chase_behind_L1 d) f (l, (l.length : Int), (i : Int), p.1, out, p.1, p.2.1, p.2.2.1, n, dd) = some z := by
  have hl64 := h.len
  intro f
  induction f with
  | zero => intro i out hf; omega
  | succ f ih =>
    intro i out hf hi ho hz
    rw [iter]
    unfold chase_behind_L1
    rcases Nat.lt_or_ge i l.length with hlt | hge
    · obtain ⟨q, hq⟩ : ∃ q, l[i]? = some q := ⟨_, List.getElem?_eq_getElem hlt⟩
      have hqm : q ∈ l := List.mem_of_getElem? hq
      rw [drop_of hq, List.filterMap_cons] at hz
      have ew := wrap_succ (k := i) (by omega)
      simp only [chase_behind_r5, chase_behind_r6, chase_behind_r7, Dt.eval, dec_lt hlt, cond_true, inB_of hlt, elt_some hq]
      by_cases hid : q.1 = p.1
      · have e0 : chM p n dd q = none := by unfold chM; rw [if_pos hid]
        rw [e0] at hz
        simp only [hid, bne_self_eq_false, cond_false, chase_behind_J2, chase_behind_r9, Dt.eval, ew]
        exact ih (i + 1) out (by omega) (by omega) (by omega) hz
      · have e1 := behind1_clo d (n := n) (dd := dd) hp (h.ok q hqm) hid hn hdd hr (out := out) (by omega)
        simp only [show (q.1 != p.1) = true by simpa using hid, cond_true, chase_behind_r8, chase_behind_K, Dt.eval, e1, chase_behind_J2, chase_behind_r9, ew]
        refine ih (i + 1) _ (by omega) (by omega) ?_ ?_
        · have : (chM p n dd q).toList.length ≤ 1 := by cases chM p n dd q <;> simp
          rw [List.length_append]; omega
        · rw [← hz]
          refine congrArg (stC d p.1) ?_
          cases chM p n dd q <;> simp
    · rw [List.drop_eq_nil_of_le hge, List.filterMap_nil, List.append_nil] at hz
      have hz2 : stabV (τ := Riiii) (fun x => F_chase_behind_2 d (x.1, x.2.1, (p.1, ()), ())) out = some z := hz
      simp only [chase_behind_r5, chase_behind_r10, chase_behind_r11, chase_behind_K, Dt.eval, dec_nlt (show ¬ i < l.length by omega), cond_false, hz2]
/-- the meetings of a point behind a time -/
def chL (l : List T3) (p : T3) (n dd : Int) : List M4 := sortL (ltC p.1) (l.filterMap (chM p n dd))
theorem chL_perm (l : List T3) (p : T3) (n dd : Int) : (chL l p n dd).Perm (l.filterMap (chM p n dd)) := sortL_perm _ _
theorem chL_mem {l : List T3} {p : T3} {n dd : Int} {x : M4} : x ∈ chL l p n dd ↔ ∃ q ∈ l, chM p n dd q = some x := by
  rw [(chL_perm l p n dd).mem_iff, List.mem_filterMap]
theorem chL_ok {l : List T3} (h : FldOk l) {p : T3} (hp : okP p) {n dd : Int} : ∀ x ∈ chL l p n dd, okC p.1 x ∧ gtM n dd x = true := fun x hx => by
  obtain ⟨q, hq, hx⟩ := chL_mem.1 hx
  have := chM_ok hp (h.ok q hq) hx
  exact ⟨this.1, this.2.1⟩
theorem chL_len (l : List T3) (p : T3) (n dd : Int) : (chL l p n dd).length ≤ l.length := by
  rw [(chL_perm l p n dd).length_eq]; exact List.length_filterMap_le _ _
theorem chL_pw {l : List T3} (h : FldOk l) {p : T3} (hp : okP p) {n dd : Int} : (chL l p n dd).Pairwise fun a b => ltC p.1 b a = false :=
  sortC_pw fun x hx => by
    obtain ⟨q, hq, hx⟩ := List.mem_filterMap.1 hx
    exact (chM_ok hp (h.ok q hq) hx).1
theorem beh_eq (d : Nat) (hd : 100 ≤ d) {l : List T3} (h : FldOk l) (h0 : fieldChk (ptsL l) = 0) (h19 : l.length ≤ 19) {p : T3} (hp : p ∈ l) {n dd : Int} (hn : i64B n = true) (hdd : i64B dd = true) (hr : ratioChk n dd = 0) :
    F_chase_behind d ((l, ()), (p.1, ()), (n, dd, ()), ()) = some (chL l p n dd) := by
  have e1 := find_at d h h0 hp
  have hl64 := h.len
  have hz : stC d p.1 ([] ++ (l.drop 0).filterMap (chM p n dd)) = some (chL l p n dd) := by
    rw [List.nil_append, List.drop_zero]
    refine stabC_eq d (by omega) (fun x hx => ?_) (Nat.le_trans (List.length_filterMap_le _ _) h19)
    obtain ⟨q, hq, hx⟩ := List.mem_filterMap.1 hx
    exact (chM_ok (h.ok p hp) (h.ok q hq) hx).1
  have e2 := beh_loop d h (h.ok p hp) hn hdd hr d 0 [] (by omega) (by omega) (by simp; omega) hz
  simp only [F_chase_behind, chase_behind_K, chase_behind_r0, chase_behind_r1, chase_behind_r2, chase_behind_r3, chase_behind_r4, Dt.eval, e1]
  exact e2
end Go.Proofs.Ytmagihjfbembjaa

namespace Go.Pel
open Go Go.Tx
/-- nobody is ahead of a point at a time -/
def Lead (l : List T3) (n dd : Int) (p : T3) : Prop := p ∈ l ∧ ∀ q ∈ l, leads (ofP q) (ofP p) n dd = false
theorem ids_eq {l : List T3} (h : FldOk l) {p q : T3} (hp : p ∈ l) (hq : q ∈ l) (hi : p.1 = q.1) : p = q := by
  obtain ⟨i, hi'⟩ := List.mem_iff_getElem?.1 hp
  obtain ⟨j, hj⟩ := List.mem_iff_getElem?.1 hq
  rcases (by omega : i < j ∨ i = j ∨ j < i) with k | k | k
  · have := ids_ne h k hi' hj; omega
  · subst k; rw [hi'] at hj; exact Option.some.inj hj
  · have := ids_ne h k hj hi'; omega
theorem Lead.ahead {l : List T3} (h : FldOk l) {n dd : Int} {p q : T3} (hp : Lead l n dd p) (hq : q ∈ l) (hne : q.1 ≠ p.1) : leads (ofP p) (ofP q) n dd = true := by
  rw [leads_asym (p := ofP q) (q := ofP p) hne, hp.2 q hq]; rfl
theorem mtP_some {p q : T3} (hb : p.2.2.1 ≠ q.2.2.1) : ∃ m, mtP (p, q) = some m := by
  unfold mtP
  simp only [hb, if_false]
  exact ⟨_, rfl⟩
/-- a slower one does not pass -/
theorem stay_slow {p q : T3} (hp : okP p) (hq : okP q) {n dd n' dd' : Int} (hd : 1 ≤ dd) (hd' : 1 ≤ dd') (hle : leQ n dd n' dd') (hb : ¬ p.2.2.1 < q.2.2.1) (h : leads (ofP p) (ofP q) n dd = true) : leads (ofP p) (ofP q) n' dd' = true := by
  by_cases he : p.2.2.1 = q.2.2.1
  · rw [← leads_same he hd hd']; exact h
  · obtain ⟨m, hm⟩ := mtP_some he
    have k1 := leads_mt (x := (p, q)) hp hq hm (n := n) (dd := dd)
    have k2 := leads_mt (x := (p, q)) hp hq hm (n := n') (dd := dd')
    simp only [show q.2.2.1 < p.2.2.1 by omega, if_true] at k1 k2
    rw [h] at k1
    rw [k2]
    cases hg : gtM n' dd' m with
    | false => rfl
    | true =>
      rw [gtM_le hd hd' hle (mtP_eq (x := (p, q)) hp hq hm).2.1 hg] at k1
      cases k1
/-- a faster one passes at the meeting -/
theorem stay_fast {p q : T3} (hp : okP p) (hq : okP q) (hb : p.2.2.1 < q.2.2.1) {m : M4} (hm : mtP (p, q) = some m) (n dd : Int) : leads (ofP p) (ofP q) n dd = gtM n dd m := by
  have k1 := leads_mt (x := (p, q)) hp hq hm (n := n) (dd := dd)
  simp only [show ¬ q.2.2.1 < p.2.2.1 by omega, if_false] at k1
  exact k1
/-- no point is faster -/
def NoFast (l : List T3) (p : T3) : Prop := ∀ q ∈ l, ¬ p.2.2.1 < q.2.2.1
/-- the first meeting with a faster point -/
def Nxt (l : List T3) (p : T3) (n dd : Int) : Prop := (∃ q ∈ l, ∃ m, p.2.2.1 < q.2.2.1 ∧ mtP (p, q) = some m ∧ m.1 = n ∧ m.2.1 = dd) ∧ ∀ q ∈ l, ∀ m, p.2.2.1 < q.2.2.1 → mtP (p, q) = some m → ¬ m.1 * dd < n * m.2.1
theorem Nxt.ok {l : List T3} (h : FldOk l) {p : T3} (hp : p ∈ l) {n dd : Int} (k : Nxt l p n dd) : ratioChk n dd = 0 ∧ n.natAbs ≤ 4194304 ∧ dd ≤ 4194304 := by
  obtain ⟨q, hq, m, hb, hm, rfl, rfl⟩ := k.1
  obtain ⟨_, h1, h2, h3, _⟩ := mtP_eq (x := (p, q)) (h.ok p hp) (h.ok q hq) hm
  exact ⟨h1, h2, h3⟩
theorem Nxt.not {l : List T3} {p : T3} {n dd : Int} (k : Nxt l p n dd) (k' : NoFast l p) : False := by
  obtain ⟨q, hq, m, hb, _⟩ := k.1
  exact k' q hq hb
/-- at the first meeting the old leader is not behind anybody in place -/
theorem nxt_far {l : List T3} (h : FldOk l) {p : T3} {n dd n' dd' : Int} (hd : 1 ≤ dd) (hd' : 1 ≤ dd') (hle : leQ n dd n' dd') (hp : Lead l n dd p) (hmin : ∀ q ∈ l, ∀ m, p.2.2.1 < q.2.2.1 → mtP (p, q) = some m → ¬ m.1 * dd' < n' * m.2.1) {q : T3} (hq : q ∈ l) : q.2.1 * dd' + q.2.2.1 * n' ≤ p.2.1 * dd' + p.2.2.1 * n' := by
  have hpo := h.ok p hp.1
  have hqo := h.ok q hq
  by_cases hi : q.1 = p.1
  · rw [ids_eq h hq hp.1 hi]; exact Int.le_refl _
  · have ha := hp.ahead h hq hi
    by_cases hb : p.2.2.1 < q.2.2.1
    · obtain ⟨m, hm⟩ := mtP_some (p := p) (q := q) (by omega)
      have k := hmin q hq m hb hm
      obtain ⟨_, hmo, _, _, _, _, e⟩ := mtP_eq (x := (p, q)) hpo hqo hm
      have hl := stay_fast hpo hqo hb hm n' dd'
      cases hg : gtM n' dd' m with
      | true =>
        rw [hg] at hl
        rcases (leads_key ..).1 hl with k1 | ⟨k1, k2⟩
        · have : q.2.1 * dd' + q.2.2.1 * n' < p.2.1 * dd' + p.2.2.1 * n' := k1
          omega
        · have : q.2.1 * dd' + q.2.2.1 * n' = p.2.1 * dd' + p.2.2.1 * n' := k1
          omega
      | false =>
        -- the meeting is at the time itself
        have hg' : ¬ n' * m.2.1 < m.1 * dd' := fun k => by rw [(gtM_iff n' dd' m).2 k] at hg; cases hg
        have hD := (ratioChk_zero hmo).1
        have key : farD (ofP p) (ofP q) n' dd' * m.2.1 = (p.2.2.1 - q.2.2.1) * (n' * m.2.1 - m.1 * dd') := by
          show ((p.2.1 - q.2.1) * dd' + (p.2.2.1 - q.2.2.1) * n') * m.2.1 = _
          simp only at e
          rw [Int.add_mul, Int.mul_sub, Int.mul_right_comm (p.2.1 - q.2.1), show (p.2.1 - q.2.1) * m.2.1 = -((p.2.2.1 - q.2.2.1) * m.1) by omega, Int.neg_mul, Int.mul_assoc, Int.mul_assoc]
          omega
        rw [show n' * m.2.1 - m.1 * dd' = 0 by omega, Int.mul_zero] at key
        have hz : farD (ofP p) (ofP q) n' dd' = 0 := by
          rcases Int.mul_eq_zero.1 key with k | k
          · exact k
          · omega
        have : farD (ofP p) (ofP q) n' dd' = (p.2.1 * dd' + p.2.2.1 * n') - (q.2.1 * dd' + q.2.2.1 * n') := by
          show (p.2.1 - q.2.1) * dd' + (p.2.2.1 - q.2.2.1) * n' = _
          rw [Int.sub_mul, Int.sub_mul]; omega
        omega
    · have hl := stay_slow hpo hqo hd hd' hle hb ha
      rcases (leads_key ..).1 hl with k1 | ⟨k1, k2⟩
      · have : q.2.1 * dd' + q.2.2.1 * n' < p.2.1 * dd' + p.2.2.1 * n' := k1
        omega
      · have : q.2.1 * dd' + q.2.2.1 * n' = p.2.1 * dd' + p.2.2.1 * n' := k1
        omega
/-- two points at their meeting -/
theorem mt_place {p q : T3} (hp : okP p) (hq : okP q) {m : M4} (hm : mtP (p, q) = some m) : q.2.1 * m.2.1 + q.2.2.1 * m.1 = p.2.1 * m.2.1 + p.2.2.1 * m.1 := by
  obtain ⟨_, _, _, _, _, _, e⟩ := mtP_eq (x := (p, q)) hp hq hm
  simp only at e
  rw [Int.sub_mul, Int.sub_mul] at e
  omega
/-- the first meeting comes later than the lead -/
theorem nxt_later {l : List T3} (h : FldOk l) {p q : T3} {n dd : Int} (hp : Lead l n dd p) (hq : q ∈ l) (hb : p.2.2.1 < q.2.2.1) {m : M4} (hm : mtP (p, q) = some m) : gtM n dd m = true := by
  have hi : q.1 ≠ p.1 := fun hi => by rw [ids_eq h hq hp.1 hi] at hb; omega
  rw [← stay_fast (h.ok p hp.1) (h.ok q hq) hb hm]
  exact hp.ahead h hq hi
theorem gt_leQ {n dd : Int} {m : M4} (h : gtM n dd m = true) : leQ n dd m.1 m.2.1 := by have := (gtM_iff n dd m).1 h; unfold leQ; omega
/-- leads, one after the other: each until the first meeting with a faster point -/
inductive Crest (l : List T3) : T3 → Int → Int → List T3 → Prop
  | last (p : T3) (n dd : Int) : NoFast l p → Crest l p n dd [(n, dd, p.1, ())]
  | next (p : T3) (n dd n' dd' : Int) (p' : T3) (r : List T3) : Nxt l p n' dd' → Lead l n' dd' p' → Crest l p' n' dd' r → Crest l p n dd ((n, dd, p.1, ()) :: r)
theorem Crest.head {l : List T3} {p : T3} {n dd : Int} {a : List T3} (ha : Crest l p n dd a) : ∃ r, a = (n, dd, p.1, ()) :: r := by
  cases ha with
  | last _ _ _ _ => exact ⟨_, rfl⟩
  | next _ _ _ _ _ _ r _ _ _ => exact ⟨r, rfl⟩
/-- the one that leads next is faster -/
theorem nxt_fast {l : List T3} (h : FldOk l) {p p' : T3} {n dd n' dd' : Int} (hd : 1 ≤ dd) (hp : Lead l n dd p) (h1 : Nxt l p n' dd') (h2 : Lead l n' dd' p') : p.2.2.1 < p'.2.2.1 := by
  obtain ⟨q, hq, m, hb, hm, rfl, rfl⟩ := h1.1
  have hpo := h.ok p hp.1
  have hqo := h.ok q hq
  have hmo := (mtP_eq (x := (p, q)) hpo hqo hm).2.1
  have hD := (ratioChk_zero hmo).1
  have hle := gt_leQ (nxt_later h hp hq hb hm)
  have hfar := nxt_far h hd hD hle hp h1.2 h2.1
  have hpl := mt_place hpo hqo hm
  have hl := h2.2 q hq
  have k : ¬ ((p'.2.1 * m.2.1 + p'.2.2.1 * m.1 < q.2.1 * m.2.1 + q.2.2.1 * m.1) ∨ (p'.2.1 * m.2.1 + p'.2.2.1 * m.1 = q.2.1 * m.2.1 + q.2.2.1 * m.1 ∧ (p'.2.2.1 < q.2.2.1 ∨ (p'.2.2.1 = q.2.2.1 ∧ q.1 < p'.1)))) := leads_f hl
  omega
/-- how many points are faster -/
def fastN (l : List T3) (p : T3) : Nat := l.countP fun q => decide (p.2.2.1 < q.2.2.1)
theorem fastN_lt {l : List T3} {p p' : T3} (hp : p' ∈ l) (hb : p.2.2.1 < p'.2.2.1) : fastN l p' < fastN l p := by
  unfold fastN
  induction l with
  | nil => cases hp
  | cons x xs ih =>
    rw [List.countP_cons, List.countP_cons]
    have hmono : xs.countP (fun q => decide (p'.2.2.1 < q.2.2.1)) ≤ xs.countP (fun q => decide (p.2.2.1 < q.2.2.1)) := List.countP_mono_left fun q _ hq => by
      rw [decide_eq_true_eq] at hq ⊢; omega
    rcases List.mem_cons.1 hp with rfl | hp
    · rw [if_neg (by rw [decide_eq_true_eq]; omega), if_pos (by rw [decide_eq_true_eq]; omega)]; omega
    · have := ih hp
      by_cases h1 : p'.2.2.1 < x.2.2.1
      · rw [if_pos (by rw [decide_eq_true_eq]; omega), if_pos (by rw [decide_eq_true_eq]; omega)]; omega
      · rw [if_neg (by rw [decide_eq_true_eq]; omega)]
        split <;> omega
theorem Crest.len {l : List T3} (h : FldOk l) {p : T3} {n dd : Int} {a : List T3} (ha : Crest l p n dd a) (hr : ratioChk n dd = 0) (hp : Lead l n dd p) : a.length ≤ fastN l p + 1 := by
  induction ha with
  | last p n dd hn => simp
  | next p n dd n' dd' p' r h1 h2 _ ih =>
    have := ih (h1.ok h hp.1).1 h2
    have := fastN_lt h2.1 (nxt_fast h (ratioChk_zero hr).1 hp h1 h2)
    rw [List.length_cons]; omega
end Go.Pel

namespace Go.Proofs.Ytmagihjfbembjaa
open Go Go.Tx Go.Pel
theorem mk_neg {n d : Int} (hd : d ≠ 0) (hn : n.natAbs ≤ 4194304) (hd2 : d.natAbs ≤ 4194304) : (mk (-n) (-d)).1 = (mk n d).1 ∧ (mk (-n) (-d)).2.1 = (mk n d).2.1 := by
  obtain ⟨_, k1, _, _⟩ := mk_ok hd hn hd2
  obtain ⟨_, k2, _, _⟩ := mk_ok (n := -n) (d := -d) (by omega) (by omega) (by omega)
  have e1 := mk_mul hd hn hd2
  have e2 := mk_mul (n := -n) (d := -d) (by omega) (by omega) (by omega)
  refine q_eq k2 k1 ?_
  generalize (mk (-n) (-d)).1 = a at *
  generalize (mk (-n) (-d)).2.1 = b at *
  generalize (mk n d).1 = a' at *
  generalize (mk n d).2.1 = b' at *
  have e3 : a * d = n * b := by rw [Int.mul_neg, Int.neg_mul] at e2; omega
  have e4 : a * b' * d = a' * b * d := by
    rw [Int.mul_right_comm, e3, Int.mul_right_comm a', e1, Int.mul_right_comm]
  exact Int.eq_of_mul_eq_mul_right hd e4
/-- a meeting is one of a point's own, behind a time -/
def selC (id n dd : Int) (x : M4) : Bool := ((x.2.2.1 == id) || (x.2.2.2.1 == id)) && gtM n dd x
theorem oth_chV {p q : T3} (h : q.1 ≠ p.1) : oth p.1 (chV p q) = q.1 := by
  unfold oth chV
  show (if tmin p.1 q.1 = p.1 then tmax p.1 q.1 else tmin p.1 q.1) = q.1
  unfold tmin tmax
  repeat' split
  all_goals omega
theorem chV_lt {p q : T3} (hb : p.2.2.1 ≠ q.2.2.1) (h : p.1 < q.1) : mtP (p, q) = some (chV p q) := by
  unfold mtP chV
  rw [if_neg hb]
  have e1 : tmin p.1 q.1 = p.1 := by unfold tmin; split <;> omega
  have e2 : tmax p.1 q.1 = q.1 := by unfold tmax; split <;> omega
  rw [e1, e2]
theorem chV_gt {p q : T3} (hp : okP p) (hq : okP q) (hb : p.2.2.1 ≠ q.2.2.1) (h : q.1 < p.1) : mtP (q, p) = some (chV p q) := by
  obtain ⟨_, _, a1, a2, a3, a4⟩ := pt_bd' hp
  obtain ⟨_, _, b1, b2, b3, b4⟩ := pt_bd' hq
  unfold mtP chV
  rw [if_neg (by show ¬ q.2.2.1 = p.2.2.1; omega)]
  have e1 : tmin p.1 q.1 = q.1 := by unfold tmin; split <;> omega
  have e2 : tmax p.1 q.1 = p.1 := by unfold tmax; split <;> omega
  obtain ⟨k1, k2⟩ := mk_neg (n := p.2.1 - q.2.1) (d := q.2.2.1 - p.2.2.1) (by omega) (by omega) (by omega)
  rw [e1, e2]
  show some ((mk (q.2.1 - p.2.1) (p.2.2.1 - q.2.2.1)).1, (mk (q.2.1 - p.2.1) (p.2.2.1 - q.2.2.1)).2.1, q.1, p.1, ()) = _
  rw [show q.2.1 - p.2.1 = -(p.2.1 - q.2.1) by omega, show p.2.2.1 - q.2.2.1 = -(q.2.2.1 - p.2.2.1) by omega, k1, k2]
theorem own_mem {l : List T3} (h : FldOk l) {p : T3} (hp : p ∈ l) {x : M4} : (x ∈ allM l ∧ ((x.2.2.1 == p.1) || (x.2.2.2.1 == p.1)) = true) ↔ ∃ q ∈ l, q.1 ≠ p.1 ∧ p.2.2.1 ≠ q.2.2.1 ∧ x = chV p q := by
  constructor
  · rintro ⟨hx, hi⟩
    obtain ⟨i, j, a, b, hij, ha, hb, hm⟩ := allM_from h hx
    have ham := List.mem_of_getElem? ha
    have hbm := List.mem_of_getElem? hb
    have hlt := ids_ne h hij ha hb
    obtain ⟨g1, _, _, _, g2, g3, _⟩ := mtP_eq (x := (a, b)) (h.ok a ham) (h.ok b hbm) hm
    simp only at g1 g2 g3
    rw [Bool.or_eq_true, beq_iff_eq, beq_iff_eq] at hi
    rcases hi with hi | hi
    · have := ids_eq h ham hp (by omega)
      subst this
      refine ⟨b, hbm, by omega, g1, ?_⟩
      rw [chV_lt g1 hlt] at hm
      exact (Option.some.inj hm).symm
    · have := ids_eq h hbm hp (by omega)
      subst this
      refine ⟨a, ham, by omega, by omega, ?_⟩
      rw [chV_gt (h.ok b hbm) (h.ok a ham) (by omega) hlt] at hm
      exact (Option.some.inj hm).symm
  · rintro ⟨q, hq, hi, hb, rfl⟩
    obtain ⟨i, hpi⟩ := List.mem_iff_getElem?.1 hp
    obtain ⟨j, hqj⟩ := List.mem_iff_getElem?.1 hq
    have me := (chV_ok (h.ok p hp) (h.ok q hq) hi hb).me
    refine ⟨?_, by rw [Bool.or_eq_true, beq_iff_eq, beq_iff_eq]; exact me⟩
    rcases (by omega : i < j ∨ i = j ∨ j < i) with k | k | k
    · exact mtP_mem k hpi hqj (chV_lt hb (ids_ne h k hpi hqj))
    · subst k; rw [hpi] at hqj; injection hqj with e; subst e; exact absurd rfl hi
    · exact mtP_mem k hqj hpi (chV_gt (h.ok p hp) (h.ok q hq) hb (ids_ne h k hqj hpi))
theorem chM_some {p q : T3} {n dd : Int} (hi : q.1 ≠ p.1) (hb : p.2.2.1 ≠ q.2.2.1) (hg : gtM n dd (chV p q) = true) : chM p n dd q = some (chV p q) := by
  unfold chM; rw [if_neg hi, if_neg hb, if_pos hg]
theorem sel_perm {l : List T3} (h : FldOk l) {p : T3} (hp : p ∈ l) (n dd : Int) : ((allM l).filter (selC p.1 n dd)).Perm (l.filterMap (chM p n dd)) := by
  have n1 : ((allM l).filter (selC p.1 n dd)).Nodup := by
    refine List.Nodup.sublist List.filter_sublist ?_
    refine (allM_strict h).imp fun {a b} hab e => ?_
    subst e; rw [ltM_irr] at hab; cases hab
  have n2 : (l.filterMap (chM p n dd)).Nodup := by
    refine List.pairwise_filterMap.2 (h.inc.imp_of_mem fun {a b} ha hb hab => ?_)
    intro x hx y hy e
    subst e
    obtain ⟨_, _, e1, i1, _⟩ := chM_ok (h.ok p hp) (h.ok a ha) hx
    obtain ⟨_, _, e2, i2, _⟩ := chM_ok (h.ok p hp) (h.ok b hb) hy
    have k1 := oth_chV i1
    have k2 := oth_chV i2
    rw [← e1] at k1
    rw [← e2] at k2
    omega
  refine (List.perm_ext_iff_of_nodup n1 n2).2 fun x => ?_
  rw [List.mem_filter, List.mem_filterMap]
  unfold selC
  rw [Bool.and_eq_true, ← and_assoc, own_mem h hp]
  constructor
  · rintro ⟨⟨q, hq, hi, hb, rfl⟩, hg⟩
    exact ⟨q, hq, chM_some hi hb hg⟩
  · rintro ⟨q, hq, hx⟩
    obtain ⟨_, hg, e, hi, hb⟩ := chM_ok (h.ok p hp) (h.ok q hq) hx
    exact ⟨⟨q, hq, hi, hb, e⟩, hg⟩
/-- meetings of a point in order are just those -/
theorem chL_only {l : List T3} (h : FldOk l) {p : T3} (hp : p ∈ l) {n dd : Int} {m : List M4} (hm : m.Perm ((allM l).filter (selC p.1 n dd))) (hs : m.Pairwise fun a b => ltC p.1 b a = false) : m = chL l p n dd := by
  refine uniqC (id := p.1) (fun x hx => ?_) ((hm.trans (sel_perm h hp n dd)).trans (chL_perm l p n dd).symm) hs (chL_pw h (h.ok p hp))
  have := (hm.trans (sel_perm h hp n dd)).mem_iff.1 hx
  obtain ⟨q, hq, hx⟩ := List.mem_filterMap.1 this
  exact (chM_ok (h.ok p hp) (h.ok q hq) hx).1
/-- times of a list -/
def atL (out : List M4) : List (Int × Int) := out.map fun x => (x.1, x.2.1)
theorem atL_get {out : List M4} {k : Nat} {x : M4} (h : out[k]? = some x) : (atL out)[k]? = some (x.1, x.2.1) := by unfold atL; rw [List.getElem?_map, h]; rfl
theorem atL_swap {out : List M4} {k : Nat} {x y : M4} (h0 : 0 < k) (hx : out[k]? = some x) (hy : out[k - 1]? = some y) (he : x.1 = y.1 ∧ x.2.1 = y.2.1) : atL ((out.set k y).set (k - 1) x) = atL out := by
  have hl : k < out.length := (List.getElem?_eq_some_iff.1 hx).1
  refine List.ext_getElem? fun j => ?_
  unfold atL
  rw [List.getElem?_map, List.getElem?_map, List.getElem?_set, List.getElem?_set, List.length_set]
  by_cases h1 : k - 1 = j
  · subst h1; rw [if_pos rfl, if_pos (by omega), hy]; simp [he.1, he.2]
  · rw [if_neg h1]
    by_cases h2 : k = j
    · subst h2; rw [if_pos rfl, if_pos hl, hx]; simp [he.1, he.2]
    · rw [if_neg h2]
/-- at a list in order of times a later one is not before in time -/
def TimeS (T : List (Int × Int)) : Prop := T.Pairwise fun a b => ¬ b.1 * a.2 < a.1 * b.2
theorem timeS_of {L : List M4} (h : L.Pairwise fun a b => ltM b a = false) : TimeS (atL L) := by
  unfold TimeS atL
  rw [List.pairwise_map]
  refine h.imp fun {a b} hab => ?_
  have := ltM_not _ _ hab
  show ¬ b.1 * a.2.1 < a.1 * b.2.1
  omega
theorem ltC_adj {id : Int} {x y : M4} (hx : okM x) (hy : okM y) (h : ¬ x.1 * y.2.1 < y.1 * x.2.1) : ltC id x y = ((decide (x.1 = y.1) && decide (x.2.1 = y.2.1)) && decide (oth id x < oth id y)) := by
  rw [Bool.eq_iff_iff, ltC_iff]
  simp only [Bool.and_eq_true, decide_eq_true_eq]
  constructor
  · rintro (k | ⟨k1, k2⟩)
    · exact absurd k h
    · obtain ⟨e1, e2⟩ := q_eq hx hy k1
      exact ⟨⟨e1, e2⟩, k2⟩
  · rintro ⟨⟨e1, e2⟩, k⟩
    right
    exact ⟨by rw [e1, e2], k⟩
end Go.Proofs.Ytmagihjfbembjaa
