/- Walks of the references; the orders agree; examples. -/
import Derived.Test.YtmagihjfbembjaaGreatGe
set_option linter.unusedSimpArgs false
set_option linter.unusedVariables false
namespace Go.Proofs.YtmagihjfbembjaaGreat
open Go Go.Tx Go.Proofs.Tryz
set_option maxRecDepth 100000
set_option maxHeartbeats 0
abbrev law34_example_ps : List Pk := []
abbrev law34_example_X : Type := Unit
abbrev law34_example_R : Type := List Diii
def law34_example_enc (r : law34_example_R) : LV × List Ob := (.agg [.rs 0], [.rows Riii r])
def law34_example_sp (F : law34_example_X → Option law34_example_R) : Go.Tx.Spec := ⟨14, law34_example_ps, law34_example_R, F, law34_example_enc⟩
abbrev law34_example_C : Type := Unit
def law34_example_K (_d : Nat) : law34_example_C := ()
def law34_example_tab (C : law34_example_C) : List Go.Tx.Spec := []
abbrev law34_example_Y0i : Type := Unit
def law34_example_S0i (v : law34_example_Y0i) : St := ⟨[], []⟩
abbrev law34_example_Y0 : Type := List Diii
def law34_example_S0 (v : law34_example_Y0) : St := ⟨[(0, .ptr 0 0)], [.cells [.rs 1], .rows Riii v]⟩
def law34_example_r0 (C : law34_example_C) (v : law34_example_Y0i) : Dt law34_example_Y0 := (Dt.ret ([] : List Diii))
theorem law34_example_g0 (C : law34_example_C) (v : law34_example_Y0i) : treg tysT (orc (law34_example_tab C)) 6 (regO (bodyOf f14) 0) false [(0, (.box [.own Riii]))] (law34_example_S0i v) some = (law34_example_r0 C v).eval fun y => some (law34_example_S0 y) := by kernel_rfl
def law34_example_r1 (C : law34_example_C) (v : law34_example_Y0) : Dt law34_example_Y0 := (Dt.ret ([((1:Int), (0:Int), (2:Int), ()), ((2:Int), (6:Int), (-1:Int), ()), ((5:Int), (0:Int), (0:Int), ())] : List Diii))
theorem law34_example_g1 (C : law34_example_C) (v : law34_example_Y0) : treg tysT (orc (law34_example_tab C)) 6 (regO (bodyOf f14) 1) false [(0, (.box [.own Riii]))] (law34_example_S0 v) some = (law34_example_r1 C v).eval fun y => some (law34_example_S0 y) := by kernel_rfl
def F_law34_example (d : Nat) (x : law34_example_X) : Option law34_example_R :=
  (law34_example_r0 (law34_example_K d) ()).eval fun y0 =>
  (law34_example_r1 (law34_example_K d) y0).eval fun y1 =>
  some y1
theorem law34_example_cok (d : Nat) : COK prog (law34_example_sp (F_law34_example d)) := by
  have hm : prog.follows .mixedOrders = true := mixed
  have hT := tys
  have hC0 : OrcOK prog (orc (law34_example_tab (law34_example_K d))) := orc_ok (by
    intro S hS
    simp only [law34_example_tab, List.mem_cons, List.not_mem_nil, or_false] at hS
    all_goals first | cases hS | exact hS.elim)
  have hC : OrcOK prog (orc (law34_example_tab (law34_example_K d))) := hC0
  refine cok_of (c := bodyOf f14) (fn := f14) hT (by kernel_rfl) (by kernel_rfl) (by decide) fun x r h w0 φ0 Q hend => ?_
  replace h : F_law34_example d x = some r := h
  unfold F_law34_example at h
  show Run prog w0 φ0 6 (bodyOf f14) ⟨[], []⟩ Q
  refine run_seq ?_
  refine run_reg hm hT hC (law34_example_g0 (law34_example_K d) ()) h ?_
  intro y0 h
  refine cn_then ?_
  refine run_seq ?_
  refine run_reg hm hT hC (law34_example_g1 (law34_example_K d) y0) h ?_
  intro y1 h
  refine cn_then ?_
  refine run_ret ?_
  cases h
  exact (hend _ (by kernel_rfl)).2
abbrev law34_whole_ps : List Pk := [.row Ri false]
abbrev law34_whole_X : Type := Di × Unit
abbrev law34_whole_R : Type := Int × Int
def law34_whole_enc (r : law34_whole_R) : LV × List Ob := (.agg [.int .i64 r.1, .int .i64 r.2], [])
def law34_whole_sp (F : law34_whole_X → Option law34_whole_R) : Go.Tx.Spec := ⟨15, law34_whole_ps, law34_whole_R, F, law34_whole_enc⟩
abbrev law34_whole_C : Type := Unit
def law34_whole_K (_d : Nat) : law34_whole_C := ()
def law34_whole_tab (C : law34_whole_C) : List Go.Tx.Spec := []
abbrev law34_whole_Y0i : Type := Int
def law34_whole_S0i (v : law34_whole_Y0i) : St := ⟨[(0, .int .i64 v)], []⟩
abbrev law34_whole_Y0 : Type := Int × Int × Int
def law34_whole_S0 (v : law34_whole_Y0) : St := ⟨[(0, .int .i64 v.1), (2, .ptr 0 0)], [.cells [.int .i64 v.2.1, .int .i64 v.2.2]]⟩
def law34_whole_r0 (C : law34_whole_C) (v : law34_whole_Y0i) : Dt law34_whole_Y0 := (Dt.ret (v, (0:Int), (0:Int)))
theorem law34_whole_g0 (C : law34_whole_C) (v : law34_whole_Y0i) : treg tysT (orc (law34_whole_tab C)) 5 (regO (bodyOf f15) 0) false [(0, .any), (2, .any)] (law34_whole_S0i v) some = (law34_whole_r0 C v).eval fun y => some (law34_whole_S0 y) := by kernel_rfl
abbrev law34_whole_Y1 : Type := Int × Int
def law34_whole_S1 (v : law34_whole_Y1) : St := ⟨[(2, .ptr 0 0)], [.cells [.int .i64 v.1, .int .i64 v.2]]⟩
def law34_whole_r1 (C : law34_whole_C) (v : law34_whole_Y0) : Dt law34_whole_Y1 := (Dt.ret (v.1, (1:Int)))
theorem law34_whole_g1 (C : law34_whole_C) (v : law34_whole_Y0) : treg tysT (orc (law34_whole_tab C)) 5 (regO (bodyOf f15) 1) false [(2, .any)] (law34_whole_S0 v) some = (law34_whole_r1 C v).eval fun y => some (law34_whole_S1 y) := by kernel_rfl
def F_law34_whole (d : Nat) (x : law34_whole_X) : Option law34_whole_R :=
  (law34_whole_r0 (law34_whole_K d) x.1.1).eval fun y0 =>
  (law34_whole_r1 (law34_whole_K d) y0).eval fun y1 =>
  some y1
theorem law34_whole_cok (d : Nat) : COK prog (law34_whole_sp (F_law34_whole d)) := by
  have hm : prog.follows .mixedOrders = true := mixed
  have hT := tys
  have hC0 : OrcOK prog (orc (law34_whole_tab (law34_whole_K d))) := orc_ok (by
    intro S hS
    simp only [law34_whole_tab, List.mem_cons, List.not_mem_nil, or_false] at hS
    all_goals first | cases hS | exact hS.elim)
  have hC : OrcOK prog (orc (law34_whole_tab (law34_whole_K d))) := hC0
  refine cok_of (c := bodyOf f15) (fn := f15) hT (by kernel_rfl) (by kernel_rfl) (by decide) fun x r h w0 φ0 Q hend => ?_
  replace h : F_law34_whole d x = some r := h
  unfold F_law34_whole at h
  show Run prog w0 φ0 5 (bodyOf f15) ⟨[(0, .int .i64 x.1.1)], []⟩ Q
  refine run_seq ?_
  refine run_reg hm hT hC (law34_whole_g0 (law34_whole_K d) x.1.1) h ?_
  intro y0 h
  refine cn_then ?_
  refine run_seq ?_
  refine run_reg hm hT hC (law34_whole_g1 (law34_whole_K d) y0) h ?_
  intro y1 h
  refine cn_then ?_
  refine run_ret ?_
  cases h
  exact (hend _ (by kernel_rfl)).2
abbrev chase_Chain_ps : List Pk := [.row RLiiiE true, .row Ri false, .row Rii true, .row Ri false]
abbrev chase_Chain_X : Type := DLiiiE × Di × Dii × Di × Unit
abbrev chase_Chain_R : Type := List Diiii × Int
def chase_Chain_enc (r : chase_Chain_R) : LV × List Ob := (.tup [.rs 0, .int .i64 r.2], [.rows Riiii r.1])
def chase_Chain_sp (F : chase_Chain_X → Option chase_Chain_R) : Go.Tx.Spec := ⟨16, chase_Chain_ps, chase_Chain_R, F, chase_Chain_enc⟩
abbrev chase_Chain_C : Type := (chase_Next_X → Option chase_Next_R) × (chase_check_X → Option chase_check_R) × (chase_other_X → Option chase_other_R) × Unit
def chase_Chain_K (d : Nat) : chase_Chain_C := (F_chase_Next d, F_chase_check d, F_chase_other d, ())
def chase_Chain_tab (C : chase_Chain_C) : List Go.Tx.Spec := [chase_Next_sp C.1, chase_check_sp C.2.1, chase_other_sp C.2.2.1]
abbrev chase_Chain_Y0i : Type := List Diii × Int × Int × Int × Int
def chase_Chain_S0i (v : chase_Chain_Y0i) : St := ⟨[(0, .agg [.fz Riii v.1]), (1, .int .i64 v.2.1), (2, .agg [.int .i64 v.2.2.1, .int .i64 v.2.2.2.1]), (3, .int .i64 v.2.2.2.2)], []⟩
abbrev chase_Chain_Y0 : Type := Int × Int × List Diii × Int × Int
def chase_Chain_S0 (v : chase_Chain_Y0) : St := ⟨[(1, .int .i64 v.1), (3, .int .i64 v.2.1), (4, .ptr 0 0), (6, .ptr 1 0)], [.cells [.fz Riii v.2.2.1], .cells [.int .i64 v.2.2.2.1, .int .i64 v.2.2.2.2]]⟩
def chase_Chain_r0 (C : chase_Chain_C) (v : chase_Chain_Y0i) : Dt chase_Chain_Y0 := (Dt.ret (v.2.1, v.2.2.2.2, v.1, v.2.2.1, v.2.2.2.1))
theorem chase_Chain_g0 (C : chase_Chain_C) (v : chase_Chain_Y0i) : treg tysT (orc (chase_Chain_tab C)) 45 (regO (bodyOf f16) 0) false [(1, .any), (3, .any), (4, (.box [.val Riii])), (6, .any)] (chase_Chain_S0i v) some = (chase_Chain_r0 C v).eval fun y => some (chase_Chain_S0 y) := by kernel_rfl
abbrev chase_Chain_Y1 : Type := Int × Int × Int × List Diii × Int × Int
def chase_Chain_S1 (v : chase_Chain_Y1) : St := ⟨[(1, .int .i64 v.1), (3, .int .i64 v.2.1), (4, .ptr 0 0), (6, .ptr 1 0), (10, .int .i64 v.2.2.1)], [.cells [.fz Riii v.2.2.2.1], .cells [.int .i64 v.2.2.2.2.1, .int .i64 v.2.2.2.2.2]]⟩
def chase_Chain_r1 (C : chase_Chain_C) (v : chase_Chain_Y0) : Dt chase_Chain_Y1 := (Dt.bnd (C.2.1 ((v.2.2.1, ()), (v.1, ()), (v.2.2.2.1, v.2.2.2.2, ()), (v.2.1, ()), ())) fun r1 => (Dt.ret (v.1, v.2.1, r1, v.2.2.1, v.2.2.2.1, v.2.2.2.2)))
theorem chase_Chain_g1 (C : chase_Chain_C) (v : chase_Chain_Y0) : treg tysT (orc (chase_Chain_tab C)) 45 (regO (bodyOf f16) 1) false [(1, .any), (3, .any), (4, (.box [.val Riii])), (6, .any), (10, .any)] (chase_Chain_S0 v) some = (chase_Chain_r1 C v).eval fun y => some (chase_Chain_S1 y) := by kernel_rfl
abbrev chase_Chain_Y2 : Type := Int × Int × Int × Bool × List Diii × Int × Int
def chase_Chain_S2 (v : chase_Chain_Y2) : St := ⟨[(1, .int .i64 v.1), (3, .int .i64 v.2.1), (4, .ptr 0 0), (6, .ptr 1 0), (10, .int .i64 v.2.2.1), (20, .bool v.2.2.2.1)], [.cells [.fz Riii v.2.2.2.2.1], .cells [.int .i64 v.2.2.2.2.2.1, .int .i64 v.2.2.2.2.2.2]]⟩
def chase_Chain_r2 (C : chase_Chain_C) (v : chase_Chain_Y1) : Dt chase_Chain_Y2 := (Dt.ret (v.1, v.2.1, v.2.2.1, (v.2.2.1 != (0:Int)), v.2.2.2.1, v.2.2.2.2.1, v.2.2.2.2.2))
theorem chase_Chain_g2 (C : chase_Chain_C) (v : chase_Chain_Y1) : treg tysT (orc (chase_Chain_tab C)) 45 (regO (bodyOf f16) 2) false [(1, .any), (3, .any), (4, (.box [.val Riii])), (6, .any), (10, .any), (20, .any)] (chase_Chain_S1 v) some = (chase_Chain_r2 C v).eval fun y => some (chase_Chain_S2 y) := by kernel_rfl
abbrev chase_Chain_Y3 : Type := Int × List Diiii
def chase_Chain_S3 (v : chase_Chain_Y3) : St := ⟨[(8, .rs 0), (9, .int .i64 v.1)], [.rows Riiii v.2]⟩
def chase_Chain_r3 (C : chase_Chain_C) (v : chase_Chain_Y2) : Dt chase_Chain_Y3 := (Dt.ret (v.2.2.1, ([] : List Diiii)))
theorem chase_Chain_g3 (C : chase_Chain_C) (v : chase_Chain_Y2) : treg tysT (orc (chase_Chain_tab C)) 45 (regO (bodyOf f16) 3) false [(8, (.own Riiii)), (9, .any)] (chase_Chain_S2 v) some = (chase_Chain_r3 C v).eval fun y => some (chase_Chain_S3 y) := by kernel_rfl
abbrev chase_Chain_Y4 : Type := Int × Int × List Diii × Int × Int × List Diiii
def chase_Chain_S4 (v : chase_Chain_Y4) : St := ⟨[(1, .int .i64 v.1), (3, .int .i64 v.2.1), (4, .ptr 0 0), (6, .ptr 1 0), (11, .rs 2)], [.cells [.fz Riii v.2.2.1], .cells [.int .i64 v.2.2.2.1, .int .i64 v.2.2.2.2.1], .rows Riiii v.2.2.2.2.2]⟩
def chase_Chain_r4 (C : chase_Chain_C) (v : chase_Chain_Y2) : Dt chase_Chain_Y4 := (Dt.ret (v.1, v.2.1, v.2.2.2.2.1, v.2.2.2.2.2.1, v.2.2.2.2.2.2, ([] : List Diiii)))
theorem chase_Chain_g4 (C : chase_Chain_C) (v : chase_Chain_Y2) : treg tysT (orc (chase_Chain_tab C)) 45 (regO (bodyOf f16) 4) false [(1, .any), (3, .any), (4, (.box [.val Riii])), (6, .any), (11, (.own Riiii))] (chase_Chain_S2 v) some = (chase_Chain_r4 C v).eval fun y => some (chase_Chain_S4 y) := by kernel_rfl
abbrev chase_Chain_Y5 : Type := Int × Int × Bool × List Diii × Int × Int × List Diiii
def chase_Chain_S5 (v : chase_Chain_Y5) : St := ⟨[(1, .int .i64 v.1), (3, .int .i64 v.2.1), (4, .ptr 0 0), (6, .ptr 1 0), (11, .rs 2), (25, .bool v.2.2.1)], [.cells [.fz Riii v.2.2.2.1], .cells [.int .i64 v.2.2.2.2.1, .int .i64 v.2.2.2.2.2.1], .rows Riiii v.2.2.2.2.2.2]⟩
def chase_Chain_r5 (C : chase_Chain_C) (v : chase_Chain_Y4) : Dt chase_Chain_Y5 := (Dt.ret (v.1, v.2.1, (decide ((List.length v.2.2.2.2.2 : Int) < v.2.1)), v.2.2.1, v.2.2.2.1, v.2.2.2.2.1, v.2.2.2.2.2))
theorem chase_Chain_g5 (C : chase_Chain_C) (v : chase_Chain_Y4) : treg tysT (orc (chase_Chain_tab C)) 45 (regO (bodyOf f16) 5) false [(1, .any), (3, .any), (4, (.box [.val Riii])), (6, .any), (11, (.own Riiii)), (25, .any)] (chase_Chain_S4 v) some = (chase_Chain_r5 C v).eval fun y => some (chase_Chain_S5 y) := by kernel_rfl
abbrev chase_Chain_Y6 : Type := Int × Int × Int × List Diii × Int × Int × List Diiii × Int × Int × Int × Int
def chase_Chain_S6 (v : chase_Chain_Y6) : St := ⟨[(1, .int .i64 v.1), (3, .int .i64 v.2.1), (4, .ptr 0 0), (6, .ptr 1 0), (11, .rs 2), (12, .ptr 3 0), (13, .int .i64 v.2.2.1)], [.cells [.fz Riii v.2.2.2.1], .cells [.int .i64 v.2.2.2.2.1, .int .i64 v.2.2.2.2.2.1], .rows Riiii v.2.2.2.2.2.2.1, .cells [.int .i64 v.2.2.2.2.2.2.2.1, .int .i64 v.2.2.2.2.2.2.2.2.1, .int .i64 v.2.2.2.2.2.2.2.2.2.1, .int .i64 v.2.2.2.2.2.2.2.2.2.2]]⟩
def chase_Chain_r6 (C : chase_Chain_C) (v : chase_Chain_Y5) : Dt chase_Chain_Y6 := (Dt.bnd (C.1 ((v.2.2.2.1, ()), (v.1, ()), (v.2.2.2.2.1, v.2.2.2.2.2.1, ()), ())) fun r1 => (Dt.ret (v.1, v.2.1, r1.2.2.2.2, v.2.2.2.1, v.2.2.2.2.1, v.2.2.2.2.2.1, v.2.2.2.2.2.2, r1.1, r1.2.1, r1.2.2.1, r1.2.2.2.1)))
theorem chase_Chain_g6 (C : chase_Chain_C) (v : chase_Chain_Y5) : treg tysT (orc (chase_Chain_tab C)) 45 (regO (bodyOf f16) 6) false [(1, .any), (3, .any), (4, (.box [.val Riii])), (6, .any), (11, (.own Riiii)), (12, .any), (13, .any)] (chase_Chain_S5 v) some = (chase_Chain_r6 C v).eval fun y => some (chase_Chain_S6 y) := by kernel_rfl
abbrev chase_Chain_Y7 : Type := Int × Int × Bool × List Diii × Int × Int × List Diiii × Int × Int × Int × Int
def chase_Chain_S7 (v : chase_Chain_Y7) : St := ⟨[(1, .int .i64 v.1), (3, .int .i64 v.2.1), (4, .ptr 0 0), (6, .ptr 1 0), (11, .rs 2), (12, .ptr 3 0), (34, .bool v.2.2.1)], [.cells [.fz Riii v.2.2.2.1], .cells [.int .i64 v.2.2.2.2.1, .int .i64 v.2.2.2.2.2.1], .rows Riiii v.2.2.2.2.2.2.1, .cells [.int .i64 v.2.2.2.2.2.2.2.1, .int .i64 v.2.2.2.2.2.2.2.2.1, .int .i64 v.2.2.2.2.2.2.2.2.2.1, .int .i64 v.2.2.2.2.2.2.2.2.2.2]]⟩
def chase_Chain_r7 (C : chase_Chain_C) (v : chase_Chain_Y6) : Dt chase_Chain_Y7 := (Dt.ret (v.1, v.2.1, (v.2.2.1 != (0:Int)), v.2.2.2.1, v.2.2.2.2.1, v.2.2.2.2.2.1, v.2.2.2.2.2.2.1, v.2.2.2.2.2.2.2.1, v.2.2.2.2.2.2.2.2.1, v.2.2.2.2.2.2.2.2.2.1, v.2.2.2.2.2.2.2.2.2.2))
theorem chase_Chain_g7 (C : chase_Chain_C) (v : chase_Chain_Y6) : treg tysT (orc (chase_Chain_tab C)) 45 (regO (bodyOf f16) 7) false [(1, .any), (3, .any), (4, (.box [.val Riii])), (6, .any), (11, (.own Riiii)), (12, .any), (34, .any)] (chase_Chain_S6 v) some = (chase_Chain_r7 C v).eval fun y => some (chase_Chain_S7 y) := by kernel_rfl
def chase_Chain_r10 (C : chase_Chain_C) (v : chase_Chain_Y4) : Dt chase_Chain_Y3 := (Dt.ret ((0:Int), v.2.2.2.2.2))
theorem chase_Chain_g10 (C : chase_Chain_C) (v : chase_Chain_Y4) : treg tysT (orc (chase_Chain_tab C)) 45 (regO (bodyOf f16) 10) false [(8, (.own Riiii)), (9, .any)] (chase_Chain_S4 v) some = (chase_Chain_r10 C v).eval fun y => some (chase_Chain_S3 y) := by kernel_rfl
def chase_Chain_J1  (d : Nat)  (z : Int × Int × List Diii × Int × Int × List Diiii) : Option (chase_Chain_R) :=
  (chase_Chain_r10 (chase_Chain_K d) z).eval fun y10 =>
  some (y10.2, y10.1)
abbrev chase_Chain_Y8 : Type := Int × Int × List Diii × Int × Int × List Diiii × Int × Int × Int × Int
def chase_Chain_S8 (v : chase_Chain_Y8) : St := ⟨[(1, .int .i64 v.1), (3, .int .i64 v.2.1), (4, .ptr 0 0), (6, .ptr 1 0), (11, .rs 2), (12, .ptr 3 0)], [.cells [.fz Riii v.2.2.1], .cells [.int .i64 v.2.2.2.1, .int .i64 v.2.2.2.2.1], .rows Riiii v.2.2.2.2.2.1, .cells [.int .i64 v.2.2.2.2.2.2.1, .int .i64 v.2.2.2.2.2.2.2.1, .int .i64 v.2.2.2.2.2.2.2.2.1, .int .i64 v.2.2.2.2.2.2.2.2.2]]⟩
def chase_Chain_r8 (C : chase_Chain_C) (v : chase_Chain_Y7) : Dt chase_Chain_Y8 := (Dt.ite (apB (List.length v.2.2.2.2.2.2.1) (List.length ([(v.2.2.2.2.2.2.2.1, v.2.2.2.2.2.2.2.2.1, v.2.2.2.2.2.2.2.2.2.1, v.2.2.2.2.2.2.2.2.2.2, ())] : List Diiii))) (Dt.ret (v.1, v.2.1, v.2.2.2.1, v.2.2.2.2.1, v.2.2.2.2.2.1, (v.2.2.2.2.2.2.1 ++ ([(v.2.2.2.2.2.2.2.1, v.2.2.2.2.2.2.2.2.1, v.2.2.2.2.2.2.2.2.2.1, v.2.2.2.2.2.2.2.2.2.2, ())] : List Diiii)), v.2.2.2.2.2.2.2.1, v.2.2.2.2.2.2.2.2.1, v.2.2.2.2.2.2.2.2.2.1, v.2.2.2.2.2.2.2.2.2.2)) Dt.fail)
theorem chase_Chain_g8 (C : chase_Chain_C) (v : chase_Chain_Y7) : treg tysT (orc (chase_Chain_tab C)) 45 (regO (bodyOf f16) 8) false [(1, .any), (3, .any), (4, (.box [.val Riii])), (6, .any), (11, (.own Riiii)), (12, .any)] (chase_Chain_S7 v) some = (chase_Chain_r8 C v).eval fun y => some (chase_Chain_S8 y) := by kernel_rfl
def chase_Chain_r9 (C : chase_Chain_C) (v : chase_Chain_Y8) : Dt chase_Chain_Y4 := (Dt.bnd (C.2.2.1 ((v.2.2.2.2.2.2.1, v.2.2.2.2.2.2.2.1, v.2.2.2.2.2.2.2.2.1, v.2.2.2.2.2.2.2.2.2, ()), (v.1, ()), ())) fun r1 => (Dt.ret (r1, v.2.1, v.2.2.1, v.2.2.2.2.2.2.1, v.2.2.2.2.2.2.2.1, v.2.2.2.2.2.1)))
theorem chase_Chain_g9 (C : chase_Chain_C) (v : chase_Chain_Y8) : treg tysT (orc (chase_Chain_tab C)) 45 (regO (bodyOf f16) 9) true [(1, .any), (3, .any), (4, (.box [.val Riii])), (6, .any), (11, (.own Riiii))] (chase_Chain_S8 v) some = (chase_Chain_r9 C v).eval fun y => some (chase_Chain_S4 y) := by kernel_rfl
def chase_Chain_L2 (d : Nat) (self2 : (Int × Int × List Diii × Int × Int × List Diiii) → Option chase_Chain_R) (x2 : Int × Int × List Diii × Int × Int × List Diiii) : Option chase_Chain_R :=
  (chase_Chain_r5 (chase_Chain_K d) x2).eval fun y5 =>
  bif y5.2.2.1 then ((chase_Chain_r6 (chase_Chain_K d) y5).eval fun y6 =>
  (chase_Chain_r7 (chase_Chain_K d) y6).eval fun y7 =>
  bif y7.2.2.1 then (chase_Chain_J1 d  (y7.1, y7.2.1, y7.2.2.2.1, y7.2.2.2.2.1, y7.2.2.2.2.2.1, y7.2.2.2.2.2.2.1)) else ((chase_Chain_r8 (chase_Chain_K d) y7).eval fun y8 =>
  (chase_Chain_r9 (chase_Chain_K d) y8).eval fun y9 =>
  self2 y9)) else (chase_Chain_J1 d  (y5.1, y5.2.1, y5.2.2.2.1, y5.2.2.2.2.1, y5.2.2.2.2.2.1, y5.2.2.2.2.2.2))
def F_chase_Chain (d : Nat) (x : chase_Chain_X) : Option chase_Chain_R :=
  (chase_Chain_r0 (chase_Chain_K d) (x.1.1, x.2.1.1, x.2.2.1.1, x.2.2.1.2.1, x.2.2.2.1.1)).eval fun y0 =>
  (chase_Chain_r1 (chase_Chain_K d) y0).eval fun y1 =>
  (chase_Chain_r2 (chase_Chain_K d) y1).eval fun y2 =>
  bif y2.2.2.2.1 then ((chase_Chain_r3 (chase_Chain_K d) y2).eval fun y3 =>
  some (y3.2, y3.1)) else ((chase_Chain_r4 (chase_Chain_K d) y2).eval fun y4 =>
  iter (chase_Chain_L2 d ) d y4)
theorem chase_Chain_cok (d : Nat) : COK prog (chase_Chain_sp (F_chase_Chain d)) := by
  have hm : prog.follows .mixedOrders = true := mixed
  have hT := tys
  have hC0 : OrcOK prog (orc (chase_Chain_tab (chase_Chain_K d))) := orc_ok (by
    intro S hS
    simp only [chase_Chain_tab, List.mem_cons, List.not_mem_nil, or_false] at hS
    rcases hS with rfl | rfl | rfl
    · exact chase_Next_cok d
    · exact chase_check_cok d
    · exact chase_other_cok d)
  have hC : OrcOK prog (orc (chase_Chain_tab (chase_Chain_K d))) := hC0
  refine cok_of (c := bodyOf f16) (fn := f16) hT (by kernel_rfl) (by kernel_rfl) (by decide) fun x r h w0 φ0 Q hend => ?_
  replace h : F_chase_Chain d x = some r := h
  unfold F_chase_Chain at h
  show Run prog w0 φ0 45 (bodyOf f16) ⟨[(0, .agg [.fz Riii x.1.1]), (1, .int .i64 x.2.1.1), (2, .agg [.int .i64 x.2.2.1.1, .int .i64 x.2.2.1.2.1]), (3, .int .i64 x.2.2.2.1.1)], []⟩ Q
  refine run_seq ?_
  refine run_reg hm hT hC (chase_Chain_g0 (chase_Chain_K d) (x.1.1, x.2.1.1, x.2.2.1.1, x.2.2.1.2.1, x.2.2.2.1.1)) h ?_
  intro y0 h
  refine cn_then ?_
  refine run_seq ?_
  refine run_seq ?_
  refine run_reg hm hT hC (chase_Chain_g1 (chase_Chain_K d) y0) h ?_
  intro y1 h
  refine cn_then ?_
  refine run_seq ?_
  refine run_reg hm hT hC (chase_Chain_g2 (chase_Chain_K d) y1) h ?_
  intro y2 h
  refine cn_then ?_
  refine run_cond (v := y2.2.2.2.1) (by kernel_rfl) h ?_ ?_
  ·
    intro h
    refine run_seq ?_
    refine run_reg hm hT hC (chase_Chain_g3 (chase_Chain_K d) y2) h ?_
    intro y3 h
    refine cn_then ?_
    refine run_ret ?_
    refine cn_then_ret ?_
    cases h
    exact (hend _ (by kernel_rfl)).2
  ·
    intro h
    refine run_skip ?_
    refine cn_then ?_
    refine run_seq ?_
    refine run_reg hm hT hC (chase_Chain_g4 (chase_Chain_K d) y2) h ?_
    intro y4 h
    refine cn_then ?_
    refine run_join (r := r) (F := chase_Chain_J1 d ) (S := (fun z => ⟨[(1, .int .i64 z.1), (3, .int .i64 z.2.1), (4, .ptr 0 0), (6, .ptr 1 0), (11, .rs 2)], [.cells [.fz Riii z.2.2.1], .cells [.int .i64 z.2.2.2.1, .int .i64 z.2.2.2.2.1], .rows Riiii z.2.2.2.2.2]⟩ : Int × Int × List Diii × Int × Int × List Diiii → St)) ?_ ?_
    ·
      intro z h
      unfold chase_Chain_J1 at h
      refine run_seq ?_
      refine run_reg hm hT hC (chase_Chain_g10 (chase_Chain_K d) z) h ?_
      intro y10 h
      refine cn_then ?_
      refine run_ret ?_
      cases h
      exact (hend _ (by kernel_rfl)).2
    intro hj1
    refine run_block ?_
    refine run_loop (G := iter (chase_Chain_L2 d )) (S := (fun x2 => ⟨[(1, .int .i64 x2.1), (3, .int .i64 x2.2.1), (4, .ptr 0 0), (6, .ptr 1 0), (11, .rs 2)], [.cells [.fz Riii x2.2.2.1], .cells [.int .i64 x2.2.2.2.1, .int .i64 x2.2.2.2.2.1], .rows Riiii x2.2.2.2.2.2]⟩ : Int × Int × List Diii × Int × Int × List Diiii → St)) (fun _ => rfl) ?_ d _ h
    intro n2 x2 h K2 hn2
    replace h : chase_Chain_L2 d  (iter (chase_Chain_L2 d ) n2) x2 = some r := h
    generalize iter (chase_Chain_L2 d ) n2 = self2 at h hn2
    unfold chase_Chain_L2 at h
    refine run_seq ?_
    refine run_seq ?_
    refine run_reg hm hT hC (chase_Chain_g5 (chase_Chain_K d) x2) h ?_
    intro y5 h
    refine cn_then ?_
    refine run_cond (v := y5.2.2.1) (by kernel_rfl) h ?_ ?_
    ·
      intro h
      refine run_skip ?_
      refine cn_then ?_
      refine run_block ?_
      refine run_seq ?_
      refine run_reg hm hT hC (chase_Chain_g6 (chase_Chain_K d) y5) h ?_
      intro y6 h
      refine cn_then ?_
      refine run_seq ?_
      refine run_seq ?_
      refine run_reg hm hT hC (chase_Chain_g7 (chase_Chain_K d) y6) h ?_
      intro y7 h
      refine cn_then ?_
      refine run_cond (v := y7.2.2.1) (by kernel_rfl) h ?_ ?_
      ·
        intro h
        refine run_exit ?_
        refine cn_then_exit ?_
        refine cn_blk_ne (by rfl) ?_
        refine cn_then_exit ?_
        refine cn_blk_eq ?_
        refine cn_num (s := ⟨[(1, .int .i64 y7.1), (3, .int .i64 y7.2.1), (4, .ptr 0 0), (6, .ptr 1 0), (11, .rs 2)], [.cells [.fz Riii y7.2.2.2.1], .cells [.int .i64 y7.2.2.2.2.1, .int .i64 y7.2.2.2.2.2.1], .rows Riiii y7.2.2.2.2.2.2.1]⟩) [12, 34] (by kernel_rfl) ?_
        exact hj1 _ h
      ·
        intro h
        refine run_skip ?_
        refine cn_then ?_
        refine run_seq ?_
        refine run_reg hm hT hC (chase_Chain_g8 (chase_Chain_K d) y7) h ?_
        intro y8 h
        refine cn_then ?_
        refine run_reg hm hT hC (chase_Chain_g9 (chase_Chain_K d) y8) h ?_
        intro y9 h
        refine cn_blk ?_
        exact hn2 _ h
    ·
      intro h
      refine run_exit ?_
      refine cn_then_exit ?_
      refine cn_then_exit ?_
      refine cn_blk_eq ?_
      refine cn_num (s := ⟨[(1, .int .i64 y5.1), (3, .int .i64 y5.2.1), (4, .ptr 0 0), (6, .ptr 1 0), (11, .rs 2)], [.cells [.fz Riii y5.2.2.2.1], .cells [.int .i64 y5.2.2.2.2.1, .int .i64 y5.2.2.2.2.2.1], .rows Riiii y5.2.2.2.2.2.2]⟩) [25] (by kernel_rfl) ?_
      exact hj1 _ h
abbrev chase_Catch_ps : List Pk := [.row RLiiiE true, .row Ri false, .row Ri false, .row Rii true]
abbrev chase_Catch_X : Type := DLiiiE × Di × Di × Dii × Unit
abbrev chase_Catch_R : Type := Int × Int × Int
def chase_Catch_enc (r : chase_Catch_R) : LV × List Ob := (.tup [.agg [.int .i64 r.1, .int .i64 r.2.1], .int .i64 r.2.2], [])
def chase_Catch_sp (F : chase_Catch_X → Option chase_Catch_R) : Go.Tx.Spec := ⟨17, chase_Catch_ps, chase_Catch_R, F, chase_Catch_enc⟩
abbrev chase_Catch_C : Type := (field_Rank_X → Option field_Rank_R) × (field_Find_X → Option field_Find_R) × (course_Meet_X → Option course_Meet_R) × (ratio_Cmp_X → Option ratio_Cmp_R) × Unit
def chase_Catch_K (d : Nat) : chase_Catch_C := (F_field_Rank d, F_field_Find d, F_course_Meet d, F_ratio_Cmp d, ())
def chase_Catch_tab (C : chase_Catch_C) : List Go.Tx.Spec := [field_Rank_sp C.1, field_Find_sp C.2.1, course_Meet_sp C.2.2.1, ratio_Cmp_sp C.2.2.2.1]
abbrev chase_Catch_Y0i : Type := List Diii × Int × Int × Int × Int
def chase_Catch_S0i (v : chase_Catch_Y0i) : St := ⟨[(0, .agg [.fz Riii v.1]), (1, .int .i64 v.2.1), (2, .int .i64 v.2.2.1), (3, .agg [.int .i64 v.2.2.2.1, .int .i64 v.2.2.2.2])], []⟩
abbrev chase_Catch_Y0 : Type := Int × Int × List Diii × Int × Int × Int × Int
def chase_Catch_S0 (v : chase_Catch_Y0) : St := ⟨[(1, .int .i64 v.1), (2, .int .i64 v.2.1), (4, .ptr 0 0), (7, .ptr 1 0), (8, .ptr 2 0)], [.cells [.fz Riii v.2.2.1], .cells [.int .i64 v.2.2.2.1, .int .i64 v.2.2.2.2.1], .cells [.int .i64 v.2.2.2.2.2.1, .int .i64 v.2.2.2.2.2.2]]⟩
def chase_Catch_r0 (C : chase_Catch_C) (v : chase_Catch_Y0i) : Dt chase_Catch_Y0 := (Dt.ret (v.2.1, v.2.2.1, v.1, v.2.2.2.1, v.2.2.2.2, (0:Int), (0:Int)))
theorem chase_Catch_g0 (C : chase_Catch_C) (v : chase_Catch_Y0i) : treg tysT (orc (chase_Catch_tab C)) 83 (regO (bodyOf f17) 0) false [(1, .any), (2, .any), (4, (.box [.val Riii])), (7, .any), (8, .any)] (chase_Catch_S0i v) some = (chase_Catch_r0 C v).eval fun y => some (chase_Catch_S0 y) := by kernel_rfl
abbrev chase_Catch_Y1 : Type := Int × Int × Int × List Diii × Int × Int × Int × Int
def chase_Catch_S1 (v : chase_Catch_Y1) : St := ⟨[(1, .int .i64 v.1), (2, .int .i64 v.2.1), (4, .ptr 0 0), (7, .ptr 1 0), (8, .ptr 2 0), (11, .int .i64 v.2.2.1)], [.cells [.fz Riii v.2.2.2.1], .cells [.int .i64 v.2.2.2.2.1, .int .i64 v.2.2.2.2.2.1], .cells [.int .i64 v.2.2.2.2.2.2.1, .int .i64 v.2.2.2.2.2.2.2]]⟩
def chase_Catch_r1 (C : chase_Catch_C) (v : chase_Catch_Y0) : Dt chase_Catch_Y1 := (Dt.bnd (C.1 ((v.2.2.1, ()), (v.1, ()), (v.2.2.2.1, v.2.2.2.2.1, ()), ())) fun r1 => (Dt.ret (v.1, v.2.1, r1.2, v.2.2.1, v.2.2.2.1, v.2.2.2.2.1, v.2.2.2.2.2.1, v.2.2.2.2.2.2)))
theorem chase_Catch_g1 (C : chase_Catch_C) (v : chase_Catch_Y0) : treg tysT (orc (chase_Catch_tab C)) 83 (regO (bodyOf f17) 1) false [(1, .any), (2, .any), (4, (.box [.val Riii])), (7, .any), (8, .any), (11, .any)] (chase_Catch_S0 v) some = (chase_Catch_r1 C v).eval fun y => some (chase_Catch_S1 y) := by kernel_rfl
abbrev chase_Catch_Y2 : Type := Int × Int × Int × Bool × List Diii × Int × Int × Int × Int
def chase_Catch_S2 (v : chase_Catch_Y2) : St := ⟨[(1, .int .i64 v.1), (2, .int .i64 v.2.1), (4, .ptr 0 0), (7, .ptr 1 0), (8, .ptr 2 0), (11, .int .i64 v.2.2.1), (26, .bool v.2.2.2.1)], [.cells [.fz Riii v.2.2.2.2.1], .cells [.int .i64 v.2.2.2.2.2.1, .int .i64 v.2.2.2.2.2.2.1], .cells [.int .i64 v.2.2.2.2.2.2.2.1, .int .i64 v.2.2.2.2.2.2.2.2]]⟩
def chase_Catch_r2 (C : chase_Catch_C) (v : chase_Catch_Y1) : Dt chase_Catch_Y2 := (Dt.ite (v.2.2.1 != (0:Int)) (Dt.ret (v.1, v.2.1, v.2.2.1, (v.2.2.1 != (6:Int)), v.2.2.2.1, v.2.2.2.2.1, v.2.2.2.2.2.1, v.2.2.2.2.2.2.1, v.2.2.2.2.2.2.2)) (Dt.ret (v.1, v.2.1, v.2.2.1, false, v.2.2.2.1, v.2.2.2.2.1, v.2.2.2.2.2.1, v.2.2.2.2.2.2.1, v.2.2.2.2.2.2.2)))
theorem chase_Catch_g2 (C : chase_Catch_C) (v : chase_Catch_Y1) : treg tysT (orc (chase_Catch_tab C)) 83 (regO (bodyOf f17) 2) false [(1, .any), (2, .any), (4, (.box [.val Riii])), (7, .any), (8, .any), (11, .any), (26, .any)] (chase_Catch_S1 v) some = (chase_Catch_r2 C v).eval fun y => some (chase_Catch_S2 y) := by kernel_rfl
abbrev chase_Catch_Y3 : Type := Int × Int × Int
def chase_Catch_S3 (v : chase_Catch_Y3) : St := ⟨[(8, .ptr 0 0), (9, .int .i64 v.1)], [.cells [.int .i64 v.2.1, .int .i64 v.2.2]]⟩
def chase_Catch_r3 (C : chase_Catch_C) (v : chase_Catch_Y2) : Dt chase_Catch_Y3 := (Dt.ret (v.2.2.1, (0:Int), (0:Int)))
theorem chase_Catch_g3 (C : chase_Catch_C) (v : chase_Catch_Y2) : treg tysT (orc (chase_Catch_tab C)) 83 (regO (bodyOf f17) 3) false [(8, .any), (9, .any)] (chase_Catch_S2 v) some = (chase_Catch_r3 C v).eval fun y => some (chase_Catch_S3 y) := by kernel_rfl
abbrev chase_Catch_Y4 : Type := Int × Int × Int × Bool × List Diii × Int × Int × Int × Int
def chase_Catch_S4 (v : chase_Catch_Y4) : St := ⟨[(1, .int .i64 v.1), (2, .int .i64 v.2.1), (4, .ptr 0 0), (7, .ptr 1 0), (8, .ptr 2 0), (11, .int .i64 v.2.2.1), (35, .bool v.2.2.2.1)], [.cells [.fz Riii v.2.2.2.2.1], .cells [.int .i64 v.2.2.2.2.2.1, .int .i64 v.2.2.2.2.2.2.1], .cells [.int .i64 v.2.2.2.2.2.2.2.1, .int .i64 v.2.2.2.2.2.2.2.2]]⟩
def chase_Catch_r4 (C : chase_Catch_C) (v : chase_Catch_Y2) : Dt chase_Catch_Y4 := (Dt.ret (v.1, v.2.1, v.2.2.1, (v.1 == v.2.1), v.2.2.2.2.1, v.2.2.2.2.2.1, v.2.2.2.2.2.2.1, v.2.2.2.2.2.2.2.1, v.2.2.2.2.2.2.2.2))
theorem chase_Catch_g4 (C : chase_Catch_C) (v : chase_Catch_Y2) : treg tysT (orc (chase_Catch_tab C)) 83 (regO (bodyOf f17) 4) false [(1, .any), (2, .any), (4, (.box [.val Riii])), (7, .any), (8, .any), (11, .any), (35, .any)] (chase_Catch_S2 v) some = (chase_Catch_r4 C v).eval fun y => some (chase_Catch_S4 y) := by kernel_rfl
def chase_Catch_r5 (C : chase_Catch_C) (v : chase_Catch_Y4) : Dt chase_Catch_Y3 := (Dt.ret ((2:Int), (0:Int), (0:Int)))
theorem chase_Catch_g5 (C : chase_Catch_C) (v : chase_Catch_Y4) : treg tysT (orc (chase_Catch_tab C)) 83 (regO (bodyOf f17) 5) false [(8, .any), (9, .any)] (chase_Catch_S4 v) some = (chase_Catch_r5 C v).eval fun y => some (chase_Catch_S3 y) := by kernel_rfl
abbrev chase_Catch_Y6 : Type := Int × Int × Int × Bool × List Diii × Int × Int × Int × Int
def chase_Catch_S6 (v : chase_Catch_Y6) : St := ⟨[(1, .int .i64 v.1), (2, .int .i64 v.2.1), (4, .ptr 0 0), (7, .ptr 1 0), (8, .ptr 2 0), (11, .int .i64 v.2.2.1), (40, .bool v.2.2.2.1)], [.cells [.fz Riii v.2.2.2.2.1], .cells [.int .i64 v.2.2.2.2.2.1, .int .i64 v.2.2.2.2.2.2.1], .cells [.int .i64 v.2.2.2.2.2.2.2.1, .int .i64 v.2.2.2.2.2.2.2.2]]⟩
def chase_Catch_r6 (C : chase_Catch_C) (v : chase_Catch_Y4) : Dt chase_Catch_Y6 := (Dt.ret (v.1, v.2.1, v.2.2.1, (v.2.2.1 != (0:Int)), v.2.2.2.2.1, v.2.2.2.2.2.1, v.2.2.2.2.2.2.1, v.2.2.2.2.2.2.2.1, v.2.2.2.2.2.2.2.2))
theorem chase_Catch_g6 (C : chase_Catch_C) (v : chase_Catch_Y4) : treg tysT (orc (chase_Catch_tab C)) 83 (regO (bodyOf f17) 6) false [(1, .any), (2, .any), (4, (.box [.val Riii])), (7, .any), (8, .any), (11, .any), (40, .any)] (chase_Catch_S4 v) some = (chase_Catch_r6 C v).eval fun y => some (chase_Catch_S6 y) := by kernel_rfl
def chase_Catch_r7 (C : chase_Catch_C) (v : chase_Catch_Y6) : Dt chase_Catch_Y3 := (Dt.ret (v.2.2.1, (0:Int), (0:Int)))
theorem chase_Catch_g7 (C : chase_Catch_C) (v : chase_Catch_Y6) : treg tysT (orc (chase_Catch_tab C)) 83 (regO (bodyOf f17) 7) false [(8, .any), (9, .any)] (chase_Catch_S6 v) some = (chase_Catch_r7 C v).eval fun y => some (chase_Catch_S3 y) := by kernel_rfl
abbrev chase_Catch_Y8 : Type := Int × Int × List Diii × Int × Int × Int × Int × Int × Int × Int
def chase_Catch_S8 (v : chase_Catch_Y8) : St := ⟨[(1, .int .i64 v.1), (4, .ptr 0 0), (7, .ptr 1 0), (8, .ptr 2 0), (11, .int .i64 v.2.1), (12, .ptr 3 0)], [.cells [.fz Riii v.2.2.1], .cells [.int .i64 v.2.2.2.1, .int .i64 v.2.2.2.2.1], .cells [.int .i64 v.2.2.2.2.2.1, .int .i64 v.2.2.2.2.2.2.1], .cells [.int .i64 v.2.2.2.2.2.2.2.1, .int .i64 v.2.2.2.2.2.2.2.2.1, .int .i64 v.2.2.2.2.2.2.2.2.2]]⟩
def chase_Catch_r8 (C : chase_Catch_C) (v : chase_Catch_Y6) : Dt chase_Catch_Y8 := (Dt.bnd (C.2.1 ((v.2.2.2.2.1, ()), (v.2.1, ()), ())) fun r1 => (Dt.ret (v.1, r1.2.2.2, v.2.2.2.2.1, v.2.2.2.2.2.1, v.2.2.2.2.2.2.1, v.2.2.2.2.2.2.2.1, v.2.2.2.2.2.2.2.2, r1.1, r1.2.1, r1.2.2.1)))
theorem chase_Catch_g8 (C : chase_Catch_C) (v : chase_Catch_Y6) : treg tysT (orc (chase_Catch_tab C)) 83 (regO (bodyOf f17) 8) false [(1, .any), (4, (.box [.val Riii])), (7, .any), (8, .any), (11, .any), (12, .any)] (chase_Catch_S6 v) some = (chase_Catch_r8 C v).eval fun y => some (chase_Catch_S8 y) := by kernel_rfl
abbrev chase_Catch_Y9 : Type := Int × Int × Bool × List Diii × Int × Int × Int × Int × Int × Int × Int
def chase_Catch_S9 (v : chase_Catch_Y9) : St := ⟨[(1, .int .i64 v.1), (4, .ptr 0 0), (7, .ptr 1 0), (8, .ptr 2 0), (11, .int .i64 v.2.1), (12, .ptr 3 0), (52, .bool v.2.2.1)], [.cells [.fz Riii v.2.2.2.1], .cells [.int .i64 v.2.2.2.2.1, .int .i64 v.2.2.2.2.2.1], .cells [.int .i64 v.2.2.2.2.2.2.1, .int .i64 v.2.2.2.2.2.2.2.1], .cells [.int .i64 v.2.2.2.2.2.2.2.2.1, .int .i64 v.2.2.2.2.2.2.2.2.2.1, .int .i64 v.2.2.2.2.2.2.2.2.2.2]]⟩
def chase_Catch_r9 (C : chase_Catch_C) (v : chase_Catch_Y8) : Dt chase_Catch_Y9 := (Dt.ret (v.1, v.2.1, (v.2.1 != (0:Int)), v.2.2.1, v.2.2.2.1, v.2.2.2.2.1, v.2.2.2.2.2.1, v.2.2.2.2.2.2.1, v.2.2.2.2.2.2.2.1, v.2.2.2.2.2.2.2.2.1, v.2.2.2.2.2.2.2.2.2))
theorem chase_Catch_g9 (C : chase_Catch_C) (v : chase_Catch_Y8) : treg tysT (orc (chase_Catch_tab C)) 83 (regO (bodyOf f17) 9) false [(1, .any), (4, (.box [.val Riii])), (7, .any), (8, .any), (11, .any), (12, .any), (52, .any)] (chase_Catch_S8 v) some = (chase_Catch_r9 C v).eval fun y => some (chase_Catch_S9 y) := by kernel_rfl
def chase_Catch_r10 (C : chase_Catch_C) (v : chase_Catch_Y9) : Dt chase_Catch_Y3 := (Dt.ret (v.2.1, (0:Int), (0:Int)))
theorem chase_Catch_g10 (C : chase_Catch_C) (v : chase_Catch_Y9) : treg tysT (orc (chase_Catch_tab C)) 83 (regO (bodyOf f17) 10) false [(8, .any), (9, .any)] (chase_Catch_S9 v) some = (chase_Catch_r10 C v).eval fun y => some (chase_Catch_S3 y) := by kernel_rfl
abbrev chase_Catch_Y11 : Type := Int × Int × Int × Int × Int × Int × Int × Int × Int × Int
def chase_Catch_S11 (v : chase_Catch_Y11) : St := ⟨[(7, .ptr 0 0), (8, .ptr 1 0), (12, .ptr 2 0), (13, .ptr 3 0)], [.cells [.int .i64 v.1, .int .i64 v.2.1], .cells [.int .i64 v.2.2.1, .int .i64 v.2.2.2.1], .cells [.int .i64 v.2.2.2.2.1, .int .i64 v.2.2.2.2.2.1, .int .i64 v.2.2.2.2.2.2.1], .cells [.int .i64 v.2.2.2.2.2.2.2.1, .int .i64 v.2.2.2.2.2.2.2.2.1, .int .i64 v.2.2.2.2.2.2.2.2.2]]⟩
def chase_Catch_r11 (C : chase_Catch_C) (v : chase_Catch_Y9) : Dt chase_Catch_Y11 := (Dt.bnd (C.2.1 ((v.2.2.2.1, ()), (v.1, ()), ())) fun r1 => (Dt.ret (v.2.2.2.2.1, v.2.2.2.2.2.1, v.2.2.2.2.2.2.1, v.2.2.2.2.2.2.2.1, v.2.2.2.2.2.2.2.2.1, v.2.2.2.2.2.2.2.2.2.1, v.2.2.2.2.2.2.2.2.2.2, r1.1, r1.2.1, r1.2.2.1)))
theorem chase_Catch_g11 (C : chase_Catch_C) (v : chase_Catch_Y9) : treg tysT (orc (chase_Catch_tab C)) 83 (regO (bodyOf f17) 11) false [(7, .any), (8, .any), (12, .any), (13, .any)] (chase_Catch_S9 v) some = (chase_Catch_r11 C v).eval fun y => some (chase_Catch_S11 y) := by kernel_rfl
abbrev chase_Catch_Y12 : Type := Bool × Int × Int × Int × Int × Int × Int × Int × Int × Int × Int
def chase_Catch_S12 (v : chase_Catch_Y12) : St := ⟨[(7, .ptr 0 0), (8, .ptr 1 0), (12, .ptr 2 0), (13, .ptr 3 0), (65, .bool v.1)], [.cells [.int .i64 v.2.1, .int .i64 v.2.2.1], .cells [.int .i64 v.2.2.2.1, .int .i64 v.2.2.2.2.1], .cells [.int .i64 v.2.2.2.2.2.1, .int .i64 v.2.2.2.2.2.2.1, .int .i64 v.2.2.2.2.2.2.2.1], .cells [.int .i64 v.2.2.2.2.2.2.2.2.1, .int .i64 v.2.2.2.2.2.2.2.2.2.1, .int .i64 v.2.2.2.2.2.2.2.2.2.2]]⟩
def chase_Catch_r12 (C : chase_Catch_C) (v : chase_Catch_Y11) : Dt chase_Catch_Y12 := (Dt.ret ((decide (v.2.2.2.2.2.2.2.2.2 ≤ v.2.2.2.2.2.2.1)), v.1, v.2.1, v.2.2.1, v.2.2.2.1, v.2.2.2.2.1, v.2.2.2.2.2.1, v.2.2.2.2.2.2.1, v.2.2.2.2.2.2.2.1, v.2.2.2.2.2.2.2.2.1, v.2.2.2.2.2.2.2.2.2))
theorem chase_Catch_g12 (C : chase_Catch_C) (v : chase_Catch_Y11) : treg tysT (orc (chase_Catch_tab C)) 83 (regO (bodyOf f17) 12) false [(7, .any), (8, .any), (12, .any), (13, .any), (65, .any)] (chase_Catch_S11 v) some = (chase_Catch_r12 C v).eval fun y => some (chase_Catch_S12 y) := by kernel_rfl
def chase_Catch_r13 (C : chase_Catch_C) (v : chase_Catch_Y12) : Dt chase_Catch_Y3 := (Dt.ret ((6:Int), (0:Int), (0:Int)))
theorem chase_Catch_g13 (C : chase_Catch_C) (v : chase_Catch_Y12) : treg tysT (orc (chase_Catch_tab C)) 83 (regO (bodyOf f17) 13) false [(8, .any), (9, .any)] (chase_Catch_S12 v) some = (chase_Catch_r13 C v).eval fun y => some (chase_Catch_S3 y) := by kernel_rfl
abbrev chase_Catch_Y14 : Type := Int × Int × Int × Int × Int × Int
def chase_Catch_S14 (v : chase_Catch_Y14) : St := ⟨[(7, .ptr 0 0), (8, .ptr 1 0), (15, .ptr 2 0)], [.cells [.int .i64 v.1, .int .i64 v.2.1], .cells [.int .i64 v.2.2.1, .int .i64 v.2.2.2.1], .cells [.int .i64 v.2.2.2.2.1, .int .i64 v.2.2.2.2.2]]⟩
def chase_Catch_r14 (C : chase_Catch_C) (v : chase_Catch_Y12) : Dt chase_Catch_Y14 := (Dt.bnd (C.2.2.1 ((v.2.2.2.2.2.2.2.2.1, v.2.2.2.2.2.2.2.2.2.1, v.2.2.2.2.2.2.2.2.2.2, ()), (v.2.2.2.2.2.1, v.2.2.2.2.2.2.1, v.2.2.2.2.2.2.2.1, ()), ())) fun r1 => (Dt.ret (v.2.1, v.2.2.1, v.2.2.2.1, v.2.2.2.2.1, r1.1, r1.2.1)))
theorem chase_Catch_g14 (C : chase_Catch_C) (v : chase_Catch_Y12) : treg tysT (orc (chase_Catch_tab C)) 83 (regO (bodyOf f17) 14) false [(7, .any), (8, .any), (15, .any)] (chase_Catch_S12 v) some = (chase_Catch_r14 C v).eval fun y => some (chase_Catch_S14 y) := by kernel_rfl
abbrev chase_Catch_Y15 : Type := Int × Int × Int × Int × Int
def chase_Catch_S15 (v : chase_Catch_Y15) : St := ⟨[(8, .ptr 0 0), (15, .ptr 1 0), (17, .int .i64 v.1)], [.cells [.int .i64 v.2.1, .int .i64 v.2.2.1], .cells [.int .i64 v.2.2.2.1, .int .i64 v.2.2.2.2]]⟩
def chase_Catch_r15 (C : chase_Catch_C) (v : chase_Catch_Y14) : Dt chase_Catch_Y15 := (Dt.bnd (C.2.2.2.1 ((v.2.2.2.2.1, v.2.2.2.2.2, ()), (v.1, v.2.1, ()), ())) fun r1 => (Dt.ret (r1.1, v.2.2.1, v.2.2.2.1, v.2.2.2.2.1, v.2.2.2.2.2)))
theorem chase_Catch_g15 (C : chase_Catch_C) (v : chase_Catch_Y14) : treg tysT (orc (chase_Catch_tab C)) 83 (regO (bodyOf f17) 15) false [(8, .any), (15, .any), (17, .any)] (chase_Catch_S14 v) some = (chase_Catch_r15 C v).eval fun y => some (chase_Catch_S15 y) := by kernel_rfl
abbrev chase_Catch_Y16 : Type := Bool × Int × Int × Int × Int
def chase_Catch_S16 (v : chase_Catch_Y16) : St := ⟨[(8, .ptr 0 0), (15, .ptr 1 0), (80, .bool v.1)], [.cells [.int .i64 v.2.1, .int .i64 v.2.2.1], .cells [.int .i64 v.2.2.2.1, .int .i64 v.2.2.2.2]]⟩
def chase_Catch_r16 (C : chase_Catch_C) (v : chase_Catch_Y15) : Dt chase_Catch_Y16 := (Dt.ret ((decide (v.1 ≤ (0:Int))), v.2.1, v.2.2.1, v.2.2.2.1, v.2.2.2.2))
theorem chase_Catch_g16 (C : chase_Catch_C) (v : chase_Catch_Y15) : treg tysT (orc (chase_Catch_tab C)) 83 (regO (bodyOf f17) 16) false [(8, .any), (15, .any), (80, .any)] (chase_Catch_S15 v) some = (chase_Catch_r16 C v).eval fun y => some (chase_Catch_S16 y) := by kernel_rfl
def chase_Catch_r17 (C : chase_Catch_C) (v : chase_Catch_Y16) : Dt chase_Catch_Y3 := (Dt.ret ((6:Int), (0:Int), (0:Int)))
theorem chase_Catch_g17 (C : chase_Catch_C) (v : chase_Catch_Y16) : treg tysT (orc (chase_Catch_tab C)) 83 (regO (bodyOf f17) 17) false [(8, .any), (9, .any)] (chase_Catch_S16 v) some = (chase_Catch_r17 C v).eval fun y => some (chase_Catch_S3 y) := by kernel_rfl
def chase_Catch_r18 (C : chase_Catch_C) (v : chase_Catch_Y16) : Dt chase_Catch_Y3 := (Dt.ret ((0:Int), v.2.2.2.1, v.2.2.2.2))
theorem chase_Catch_g18 (C : chase_Catch_C) (v : chase_Catch_Y16) : treg tysT (orc (chase_Catch_tab C)) 83 (regO (bodyOf f17) 18) false [(8, .any), (9, .any)] (chase_Catch_S16 v) some = (chase_Catch_r18 C v).eval fun y => some (chase_Catch_S3 y) := by kernel_rfl
def F_chase_Catch (d : Nat) (x : chase_Catch_X) : Option chase_Catch_R :=
  (chase_Catch_r0 (chase_Catch_K d) (x.1.1, x.2.1.1, x.2.2.1.1, x.2.2.2.1.1, x.2.2.2.1.2.1)).eval fun y0 =>
  (chase_Catch_r1 (chase_Catch_K d) y0).eval fun y1 =>
  (chase_Catch_r2 (chase_Catch_K d) y1).eval fun y2 =>
  bif y2.2.2.2.1 then ((chase_Catch_r3 (chase_Catch_K d) y2).eval fun y3 =>
  some (y3.2.1, y3.2.2, y3.1)) else ((chase_Catch_r4 (chase_Catch_K d) y2).eval fun y4 =>
  bif y4.2.2.2.1 then ((chase_Catch_r5 (chase_Catch_K d) y4).eval fun y5 =>
  some (y5.2.1, y5.2.2, y5.1)) else ((chase_Catch_r6 (chase_Catch_K d) y4).eval fun y6 =>
  bif y6.2.2.2.1 then ((chase_Catch_r7 (chase_Catch_K d) y6).eval fun y7 =>
  some (y7.2.1, y7.2.2, y7.1)) else ((chase_Catch_r8 (chase_Catch_K d) y6).eval fun y8 =>
  (chase_Catch_r9 (chase_Catch_K d) y8).eval fun y9 =>
  bif y9.2.2.1 then ((chase_Catch_r10 (chase_Catch_K d) y9).eval fun y10 =>
  some (y10.2.1, y10.2.2, y10.1)) else ((chase_Catch_r11 (chase_Catch_K d) y9).eval fun y11 =>
  (chase_Catch_r12 (chase_Catch_K d) y11).eval fun y12 =>
  bif y12.1 then ((chase_Catch_r13 (chase_Catch_K d) y12).eval fun y13 =>
  some (y13.2.1, y13.2.2, y13.1)) else ((chase_Catch_r14 (chase_Catch_K d) y12).eval fun y14 =>
  (chase_Catch_r15 (chase_Catch_K d) y14).eval fun y15 =>
  (chase_Catch_r16 (chase_Catch_K d) y15).eval fun y16 =>
  bif y16.1 then ((chase_Catch_r17 (chase_Catch_K d) y16).eval fun y17 =>
  some (y17.2.1, y17.2.2, y17.1)) else ((chase_Catch_r18 (chase_Catch_K d) y16).eval fun y18 =>
  some (y18.2.1, y18.2.2, y18.1)))))))
theorem chase_Catch_cok (d : Nat) : COK prog (chase_Catch_sp (F_chase_Catch d)) := by
  have hm : prog.follows .mixedOrders = true := mixed
  have hT := tys
  have hC0 : OrcOK prog (orc (chase_Catch_tab (chase_Catch_K d))) := orc_ok (by
    intro S hS
    simp only [chase_Catch_tab, List.mem_cons, List.not_mem_nil, or_false] at hS
    rcases hS with rfl | rfl | rfl | rfl
    · exact field_Rank_cok d
    · exact field_Find_cok d
    · exact course_Meet_cok d
    · exact ratio_Cmp_cok d)
  have hC : OrcOK prog (orc (chase_Catch_tab (chase_Catch_K d))) := hC0
  refine cok_of (c := bodyOf f17) (fn := f17) hT (by kernel_rfl) (by kernel_rfl) (by decide) fun x r h w0 φ0 Q hend => ?_
  replace h : F_chase_Catch d x = some r := h
  unfold F_chase_Catch at h
  show Run prog w0 φ0 83 (bodyOf f17) ⟨[(0, .agg [.fz Riii x.1.1]), (1, .int .i64 x.2.1.1), (2, .int .i64 x.2.2.1.1), (3, .agg [.int .i64 x.2.2.2.1.1, .int .i64 x.2.2.2.1.2.1])], []⟩ Q
  refine run_seq ?_
  refine run_reg hm hT hC (chase_Catch_g0 (chase_Catch_K d) (x.1.1, x.2.1.1, x.2.2.1.1, x.2.2.2.1.1, x.2.2.2.1.2.1)) h ?_
  intro y0 h
  refine cn_then ?_
  refine run_seq ?_
  refine run_reg hm hT hC (chase_Catch_g1 (chase_Catch_K d) y0) h ?_
  intro y1 h
  refine cn_then ?_
  refine run_seq ?_
  refine run_block ?_
  refine run_seq ?_
  refine run_reg hm hT hC (chase_Catch_g2 (chase_Catch_K d) y1) h ?_
  intro y2 h
  refine cn_then ?_
  refine run_cond (v := y2.2.2.2.1) (by kernel_rfl) h ?_ ?_
  ·
    intro h
    refine run_seq ?_
    refine run_reg hm hT hC (chase_Catch_g3 (chase_Catch_K d) y2) h ?_
    intro y3 h
    refine cn_then ?_
    refine run_ret ?_
    refine cn_blk_ret ?_
    refine cn_then_ret ?_
    cases h
    exact (hend _ (by kernel_rfl)).2
  ·
    intro h
    refine run_seq ?_
    refine run_reg hm hT hC (chase_Catch_g4 (chase_Catch_K d) y2) h ?_
    intro y4 h
    refine cn_then ?_
    refine run_cond (v := y4.2.2.2.1) (by kernel_rfl) h ?_ ?_
    ·
      intro h
      refine run_seq ?_
      refine run_reg hm hT hC (chase_Catch_g5 (chase_Catch_K d) y4) h ?_
      intro y5 h
      refine cn_then ?_
      refine run_ret ?_
      refine cn_blk_ret ?_
      refine cn_then_ret ?_
      cases h
      exact (hend _ (by kernel_rfl)).2
    ·
      intro h
      refine run_seq ?_
      refine run_reg hm hT hC (chase_Catch_g6 (chase_Catch_K d) y4) h ?_
      intro y6 h
      refine cn_then ?_
      refine run_cond (v := y6.2.2.2.1) (by kernel_rfl) h ?_ ?_
      ·
        intro h
        refine run_seq ?_
        refine run_reg hm hT hC (chase_Catch_g7 (chase_Catch_K d) y6) h ?_
        intro y7 h
        refine cn_then ?_
        refine run_ret ?_
        refine cn_blk_ret ?_
        refine cn_then_ret ?_
        cases h
        exact (hend _ (by kernel_rfl)).2
      ·
        intro h
        refine run_skip ?_
        refine cn_blk ?_
        refine cn_then ?_
        refine run_seq ?_
        refine run_reg hm hT hC (chase_Catch_g8 (chase_Catch_K d) y6) h ?_
        intro y8 h
        refine cn_then ?_
        refine run_seq ?_
        refine run_seq ?_
        refine run_reg hm hT hC (chase_Catch_g9 (chase_Catch_K d) y8) h ?_
        intro y9 h
        refine cn_then ?_
        refine run_cond (v := y9.2.2.1) (by kernel_rfl) h ?_ ?_
        ·
          intro h
          refine run_seq ?_
          refine run_reg hm hT hC (chase_Catch_g10 (chase_Catch_K d) y9) h ?_
          intro y10 h
          refine cn_then ?_
          refine run_ret ?_
          refine cn_then_ret ?_
          cases h
          exact (hend _ (by kernel_rfl)).2
        ·
          intro h
          refine run_skip ?_
          refine cn_then ?_
          refine run_seq ?_
          refine run_reg hm hT hC (chase_Catch_g11 (chase_Catch_K d) y9) h ?_
          intro y11 h
          refine cn_then ?_
          refine run_seq ?_
          refine run_seq ?_
          refine run_reg hm hT hC (chase_Catch_g12 (chase_Catch_K d) y11) h ?_
          intro y12 h
          refine cn_then ?_
          refine run_cond (v := y12.1) (by kernel_rfl) h ?_ ?_
          ·
            intro h
            refine run_seq ?_
            refine run_reg hm hT hC (chase_Catch_g13 (chase_Catch_K d) y12) h ?_
            intro y13 h
            refine cn_then ?_
            refine run_ret ?_
            refine cn_then_ret ?_
            cases h
            exact (hend _ (by kernel_rfl)).2
          ·
            intro h
            refine run_skip ?_
            refine cn_then ?_
            refine run_seq ?_
            refine run_reg hm hT hC (chase_Catch_g14 (chase_Catch_K d) y12) h ?_
            intro y14 h
            refine cn_then ?_
            refine run_seq ?_
            refine run_seq ?_
            refine run_reg hm hT hC (chase_Catch_g15 (chase_Catch_K d) y14) h ?_
            intro y15 h
            refine cn_then ?_
            refine run_seq ?_
            refine run_reg hm hT hC (chase_Catch_g16 (chase_Catch_K d) y15) h ?_
            intro y16 h
            refine cn_then ?_
            refine run_cond (v := y16.1) (by kernel_rfl) h ?_ ?_
            ·
              intro h
              refine run_seq ?_
              refine run_reg hm hT hC (chase_Catch_g17 (chase_Catch_K d) y16) h ?_
              intro y17 h
              refine cn_then ?_
              refine run_ret ?_
              refine cn_then_ret ?_
              cases h
              exact (hend _ (by kernel_rfl)).2
            ·
              intro h
              refine run_skip ?_
              refine cn_then ?_
              refine run_seq ?_
              refine run_reg hm hT hC (chase_Catch_g18 (chase_Catch_K d) y16) h ?_
              intro y18 h
              refine cn_then ?_
              refine run_ret ?_
              cases h
              exact (hend _ (by kernel_rfl)).2
abbrev law34_alive_ps : List Pk := []
abbrev law34_alive_X : Type := Unit
abbrev law34_alive_R : Type := Bool
def law34_alive_enc (r : law34_alive_R) : LV × List Ob := (.bool r, [])
def law34_alive_sp (F : law34_alive_X → Option law34_alive_R) : Go.Tx.Spec := ⟨4, law34_alive_ps, law34_alive_R, F, law34_alive_enc⟩
abbrev law34_alive_C : Type := (chase_Next_X → Option chase_Next_R) × (chase_Plan_X → Option chase_Plan_R) × (ref04_Same_X → Option ref04_Same_R) × (law34_example_X → Option law34_example_R) × (law34_whole_X → Option law34_whole_R) × (chase_Chain_X → Option chase_Chain_R) × (chase_Catch_X → Option chase_Catch_R) × Unit
def law34_alive_K (d : Nat) : law34_alive_C := (F_chase_Next d, F_chase_Plan d, F_ref04_Same d, F_law34_example d, F_law34_whole d, F_chase_Chain d, F_chase_Catch d, ())
def law34_alive_tab (C : law34_alive_C) : List Go.Tx.Spec := [chase_Next_sp C.1, chase_Plan_sp C.2.1, ref04_Same_sp C.2.2.1, law34_example_sp C.2.2.2.1, law34_whole_sp C.2.2.2.2.1, chase_Chain_sp C.2.2.2.2.2.1, chase_Catch_sp C.2.2.2.2.2.2.1]
abbrev law34_alive_Y0i : Type := Unit
def law34_alive_S0i (v : law34_alive_Y0i) : St := ⟨[], []⟩
def law34_alive_r0 (C : law34_alive_C) (v : law34_alive_Y0i) : Dt law34_alive_Y0i := (Dt.ret ())
theorem law34_alive_g0 (C : law34_alive_C) (v : law34_alive_Y0i) : treg tysT (orc (law34_alive_tab C)) 90 (regO (bodyOf f4) 0) false [] (law34_alive_S0i v) some = (law34_alive_r0 C v).eval fun y => some (law34_alive_S0i y) := by kernel_rfl
abbrev law34_alive_Y1 : Type := List Diii
def law34_alive_S1 (v : law34_alive_Y1) : St := ⟨[(1, .ptr 0 0)], [.cells [.fz Riii v]]⟩
def law34_alive_r1 (C : law34_alive_C) (v : law34_alive_Y0i) : Dt law34_alive_Y1 := (Dt.bnd (C.2.2.2.1 (())) fun r1 => (Dt.ret r1))
theorem law34_alive_g1 (C : law34_alive_C) (v : law34_alive_Y0i) : treg tysT (orc (law34_alive_tab C)) 90 (regO (bodyOf f4) 1) false [(1, (.box [.val Riii]))] (law34_alive_S0i v) some = (law34_alive_r1 C v).eval fun y => some (law34_alive_S1 y) := by kernel_rfl
abbrev law34_alive_Y2 : Type := Int × List Diii × Int × Int × Int × Int
def law34_alive_S2 (v : law34_alive_Y2) : St := ⟨[(1, .ptr 0 0), (2, .ptr 1 0), (3, .int .i64 v.1)], [.cells [.fz Riii v.2.1], .cells [.int .i64 v.2.2.1, .int .i64 v.2.2.2.1, .int .i64 v.2.2.2.2.1, .int .i64 v.2.2.2.2.2]]⟩
def law34_alive_r2 (C : law34_alive_C) (v : law34_alive_Y1) : Dt law34_alive_Y2 := (Dt.bnd (C.2.2.2.2.1 (((0:Int), ()), ())) fun r1 => (Dt.bnd (C.1 ((v, ()), ((1:Int), ()), (r1.1, r1.2, ()), ())) fun r2 => (Dt.ret (r2.2.2.2.2, v, r2.1, r2.2.1, r2.2.2.1, r2.2.2.2.1))))
theorem law34_alive_g2 (C : law34_alive_C) (v : law34_alive_Y1) : treg tysT (orc (law34_alive_tab C)) 90 (regO (bodyOf f4) 2) true [(1, (.box [.val Riii])), (2, .any), (3, .any)] (law34_alive_S1 v) some = (law34_alive_r2 C v).eval fun y => some (law34_alive_S2 y) := by kernel_rfl
abbrev law34_alive_Y3 : Type := Int × List Diiii × Int × List Diii × Int × Int × Int × Int
def law34_alive_S3 (v : law34_alive_Y3) : St := ⟨[(1, .ptr 0 0), (2, .ptr 1 0), (3, .int .i64 v.1), (4, .fz Riiii v.2.1), (5, .int .i64 v.2.2.1)], [.cells [.fz Riii v.2.2.2.1], .cells [.int .i64 v.2.2.2.2.1, .int .i64 v.2.2.2.2.2.1, .int .i64 v.2.2.2.2.2.2.1, .int .i64 v.2.2.2.2.2.2.2]]⟩
def law34_alive_r3 (C : law34_alive_C) (v : law34_alive_Y2) : Dt law34_alive_Y3 := (Dt.bnd (C.2.2.2.2.1 (((0:Int), ()), ())) fun r1 => (Dt.bnd (C.2.1 ((v.2.1, ()), ((2:Int), ()), (r1.1, r1.2, ()), ((9:Int), ()), ())) fun r2 => (Dt.ret (v.1, r2.1, r2.2, v.2.1, v.2.2.1, v.2.2.2.1, v.2.2.2.2.1, v.2.2.2.2.2))))
theorem law34_alive_g3 (C : law34_alive_C) (v : law34_alive_Y2) : treg tysT (orc (law34_alive_tab C)) 90 (regO (bodyOf f4) 3) true [(1, (.box [.val Riii])), (2, .any), (3, .any), (4, (.val Riiii)), (5, .any)] (law34_alive_S2 v) some = (law34_alive_r3 C v).eval fun y => some (law34_alive_S3 y) := by kernel_rfl
abbrev law34_alive_Y4 : Type := Int × List Diiii × Int × Int × List Diii × Int × Int × Int × Int × List Diiii
def law34_alive_S4 (v : law34_alive_Y4) : St := ⟨[(1, .ptr 0 0), (2, .ptr 1 0), (3, .int .i64 v.1), (4, .fz Riiii v.2.1), (5, .int .i64 v.2.2.1), (6, .rs 2), (7, .int .i64 v.2.2.2.1)], [.cells [.fz Riii v.2.2.2.2.1], .cells [.int .i64 v.2.2.2.2.2.1, .int .i64 v.2.2.2.2.2.2.1, .int .i64 v.2.2.2.2.2.2.2.1, .int .i64 v.2.2.2.2.2.2.2.2.1], .rows Riiii v.2.2.2.2.2.2.2.2.2]⟩
def law34_alive_r4 (C : law34_alive_C) (v : law34_alive_Y3) : Dt law34_alive_Y4 := (Dt.bnd (C.2.2.2.2.1 (((0:Int), ()), ())) fun r1 => (Dt.bnd (C.2.2.2.2.2.1 ((v.2.2.2.1, ()), ((5:Int), ()), (r1.1, r1.2, ()), ((9:Int), ()), ())) fun r2 => (Dt.ret (v.1, v.2.1, v.2.2.1, r2.2, v.2.2.2.1, v.2.2.2.2.1, v.2.2.2.2.2.1, v.2.2.2.2.2.2.1, v.2.2.2.2.2.2.2, r2.1))))
theorem law34_alive_g4 (C : law34_alive_C) (v : law34_alive_Y3) : treg tysT (orc (law34_alive_tab C)) 90 (regO (bodyOf f4) 4) true [(1, (.box [.val Riii])), (2, .any), (3, .any), (4, (.val Riiii)), (5, .any), (6, (.own Riiii)), (7, .any)] (law34_alive_S3 v) some = (law34_alive_r4 C v).eval fun y => some (law34_alive_S4 y) := by kernel_rfl
abbrev law34_alive_Y5 : Type := Int × List Diiii × Int × Int × Int × List Diii × Int × Int × Int × Int × List Diiii × Int × Int
def law34_alive_S5 (v : law34_alive_Y5) : St := ⟨[(1, .ptr 0 0), (2, .ptr 1 0), (3, .int .i64 v.1), (4, .fz Riiii v.2.1), (5, .int .i64 v.2.2.1), (6, .rs 2), (7, .int .i64 v.2.2.2.1), (8, .ptr 3 0), (9, .int .i64 v.2.2.2.2.1)], [.cells [.fz Riii v.2.2.2.2.2.1], .cells [.int .i64 v.2.2.2.2.2.2.1, .int .i64 v.2.2.2.2.2.2.2.1, .int .i64 v.2.2.2.2.2.2.2.2.1, .int .i64 v.2.2.2.2.2.2.2.2.2.1], .rows Riiii v.2.2.2.2.2.2.2.2.2.2.1, .cells [.int .i64 v.2.2.2.2.2.2.2.2.2.2.2.1, .int .i64 v.2.2.2.2.2.2.2.2.2.2.2.2]]⟩
def law34_alive_r5 (C : law34_alive_C) (v : law34_alive_Y4) : Dt law34_alive_Y5 := (Dt.bnd (C.2.2.2.2.1 (((0:Int), ()), ())) fun r1 => (Dt.bnd (C.2.2.2.2.2.2.1 ((v.2.2.2.2.1, ()), ((1:Int), ()), ((2:Int), ()), (r1.1, r1.2, ()), ())) fun r2 => (Dt.ret (v.1, v.2.1, v.2.2.1, v.2.2.2.1, r2.2.2, v.2.2.2.2.1, v.2.2.2.2.2.1, v.2.2.2.2.2.2.1, v.2.2.2.2.2.2.2.1, v.2.2.2.2.2.2.2.2.1, v.2.2.2.2.2.2.2.2.2, r2.1, r2.2.1))))
theorem law34_alive_g5 (C : law34_alive_C) (v : law34_alive_Y4) : treg tysT (orc (law34_alive_tab C)) 90 (regO (bodyOf f4) 5) true [(1, (.box [.val Riii])), (2, .any), (3, .any), (4, (.val Riiii)), (5, .any), (6, (.own Riiii)), (7, .any), (8, .any), (9, .any)] (law34_alive_S4 v) some = (law34_alive_r5 C v).eval fun y => some (law34_alive_S5 y) := by kernel_rfl
abbrev law34_alive_Y6 : Type := Int × List Diiii × Int × Int × Int × Int × Int × Int × Int × Int × List Diiii × Int × Int
def law34_alive_S6 (v : law34_alive_Y6) : St := ⟨[(2, .ptr 0 0), (3, .int .i64 v.1), (4, .fz Riiii v.2.1), (5, .int .i64 v.2.2.1), (6, .rs 1), (7, .int .i64 v.2.2.2.1), (8, .ptr 2 0), (9, .int .i64 v.2.2.2.2.1), (11, .int .i64 v.2.2.2.2.2.1)], [.cells [.int .i64 v.2.2.2.2.2.2.1, .int .i64 v.2.2.2.2.2.2.2.1, .int .i64 v.2.2.2.2.2.2.2.2.1, .int .i64 v.2.2.2.2.2.2.2.2.2.1], .rows Riiii v.2.2.2.2.2.2.2.2.2.2.1, .cells [.int .i64 v.2.2.2.2.2.2.2.2.2.2.2.1, .int .i64 v.2.2.2.2.2.2.2.2.2.2.2.2]]⟩
def law34_alive_r6 (C : law34_alive_C) (v : law34_alive_Y5) : Dt law34_alive_Y6 := (Dt.bnd (C.2.2.2.2.1 (((2:Int), ()), ())) fun r1 => (Dt.bnd (C.1 ((v.2.2.2.2.2.1, ()), ((1:Int), ()), (r1.1, r1.2, ()), ())) fun r2 => (Dt.ret (v.1, v.2.1, v.2.2.1, v.2.2.2.1, v.2.2.2.2.1, r2.2.2.2.2, v.2.2.2.2.2.2.1, v.2.2.2.2.2.2.2.1, v.2.2.2.2.2.2.2.2.1, v.2.2.2.2.2.2.2.2.2.1, v.2.2.2.2.2.2.2.2.2.2.1, v.2.2.2.2.2.2.2.2.2.2.2.1, v.2.2.2.2.2.2.2.2.2.2.2.2))))
theorem law34_alive_g6 (C : law34_alive_C) (v : law34_alive_Y5) : treg tysT (orc (law34_alive_tab C)) 90 (regO (bodyOf f4) 6) true [(2, .any), (3, .any), (4, (.val Riiii)), (5, .any), (6, (.own Riiii)), (7, .any), (8, .any), (9, .any), (11, .any)] (law34_alive_S5 v) some = (law34_alive_r6 C v).eval fun y => some (law34_alive_S6 y) := by kernel_rfl
abbrev law34_alive_Y7 : Type := Int × List Diiii × Int × Int × Int × Int × Int × Int × Int × Int × List Diiii × Int × Int × Int × Int × Int × Int × Int × Int × Int × Int
def law34_alive_S7 (v : law34_alive_Y7) : St := ⟨[(2, .ptr 0 0), (3, .int .i64 v.1), (4, .fz Riiii v.2.1), (5, .int .i64 v.2.2.1), (6, .rs 1), (7, .int .i64 v.2.2.2.1), (8, .ptr 2 0), (9, .int .i64 v.2.2.2.2.1), (11, .int .i64 v.2.2.2.2.2.1), (12, .ptr 3 0), (13, .ptr 4 0)], [.cells [.int .i64 v.2.2.2.2.2.2.1, .int .i64 v.2.2.2.2.2.2.2.1, .int .i64 v.2.2.2.2.2.2.2.2.1, .int .i64 v.2.2.2.2.2.2.2.2.2.1], .rows Riiii v.2.2.2.2.2.2.2.2.2.2.1, .cells [.int .i64 v.2.2.2.2.2.2.2.2.2.2.2.1, .int .i64 v.2.2.2.2.2.2.2.2.2.2.2.2.1], .cells [.int .i64 v.2.2.2.2.2.2.2.2.2.2.2.2.2.1, .int .i64 v.2.2.2.2.2.2.2.2.2.2.2.2.2.2.1, .int .i64 v.2.2.2.2.2.2.2.2.2.2.2.2.2.2.2.1, .int .i64 v.2.2.2.2.2.2.2.2.2.2.2.2.2.2.2.2.1], .cells [.int .i64 v.2.2.2.2.2.2.2.2.2.2.2.2.2.2.2.2.2.1, .int .i64 v.2.2.2.2.2.2.2.2.2.2.2.2.2.2.2.2.2.2.1, .int .i64 v.2.2.2.2.2.2.2.2.2.2.2.2.2.2.2.2.2.2.2.1, .int .i64 v.2.2.2.2.2.2.2.2.2.2.2.2.2.2.2.2.2.2.2.2]]⟩
def law34_alive_r7 (C : law34_alive_C) (v : law34_alive_Y6) : Dt law34_alive_Y7 := (Dt.bnd (C.2.2.2.2.1 (((2:Int), ()), ())) fun r1 => (Dt.bnd (C.2.2.2.2.1 (((6:Int), ()), ())) fun r2 => (Dt.ret (v.1, v.2.1, v.2.2.1, v.2.2.2.1, v.2.2.2.2.1, v.2.2.2.2.2.1, v.2.2.2.2.2.2.1, v.2.2.2.2.2.2.2.1, v.2.2.2.2.2.2.2.2.1, v.2.2.2.2.2.2.2.2.2.1, v.2.2.2.2.2.2.2.2.2.2.1, v.2.2.2.2.2.2.2.2.2.2.2.1, v.2.2.2.2.2.2.2.2.2.2.2.2, r1.1, r1.2, (1:Int), (2:Int), r2.1, r2.2, (2:Int), (5:Int)))))
theorem law34_alive_g7 (C : law34_alive_C) (v : law34_alive_Y6) : treg tysT (orc (law34_alive_tab C)) 90 (regO (bodyOf f4) 7) false [(2, .any), (3, .any), (4, (.val Riiii)), (5, .any), (6, (.own Riiii)), (7, .any), (8, .any), (9, .any), (11, .any), (12, .any), (13, .any)] (law34_alive_S6 v) some = (law34_alive_r7 C v).eval fun y => some (law34_alive_S7 y) := by kernel_rfl
abbrev law34_alive_Y8 : Type := Bool
def law34_alive_S8 (v : law34_alive_Y8) : St := ⟨[(0, .bool v)], []⟩
def law34_alive_r8 (C : law34_alive_C) (v : law34_alive_Y7) : Dt law34_alive_Y8 := (Dt.ite (v.1 == (0:Int)) (Dt.ite ((v.2.2.2.2.2.2.1 == v.2.2.2.2.2.2.2.2.2.2.2.2.2.1) && ((v.2.2.2.2.2.2.2.1 == v.2.2.2.2.2.2.2.2.2.2.2.2.2.2.1) && ((v.2.2.2.2.2.2.2.2.1 == v.2.2.2.2.2.2.2.2.2.2.2.2.2.2.2.1) && ((v.2.2.2.2.2.2.2.2.2.1 == v.2.2.2.2.2.2.2.2.2.2.2.2.2.2.2.2.1) && true)))) (Dt.ite (v.2.2.1 == (0:Int)) (Dt.bnd (C.2.2.1 ((v.2.1, ()), (([(v.2.2.2.2.2.2.2.2.2.2.2.2.2.1, v.2.2.2.2.2.2.2.2.2.2.2.2.2.2.1, v.2.2.2.2.2.2.2.2.2.2.2.2.2.2.2.1, v.2.2.2.2.2.2.2.2.2.2.2.2.2.2.2.2.1, ()), (v.2.2.2.2.2.2.2.2.2.2.2.2.2.2.2.2.2.1, v.2.2.2.2.2.2.2.2.2.2.2.2.2.2.2.2.2.2.1, v.2.2.2.2.2.2.2.2.2.2.2.2.2.2.2.2.2.2.2.1, v.2.2.2.2.2.2.2.2.2.2.2.2.2.2.2.2.2.2.2.2, ())] : List Diiii), ()), ())) fun r1 => (Dt.ite r1 (Dt.ite (v.2.2.2.1 == (0:Int)) (Dt.bnd (C.2.2.1 ((v.2.2.2.2.2.2.2.2.2.2.1, ()), (([(v.2.2.2.2.2.2.2.2.2.2.2.2.2.2.2.2.2.1, v.2.2.2.2.2.2.2.2.2.2.2.2.2.2.2.2.2.2.1, v.2.2.2.2.2.2.2.2.2.2.2.2.2.2.2.2.2.2.2.1, v.2.2.2.2.2.2.2.2.2.2.2.2.2.2.2.2.2.2.2.2, ())] : List Diiii), ()), ())) fun r2 => (Dt.ite r2 (Dt.ite (v.2.2.2.2.1 == (0:Int)) (Dt.bnd (C.2.2.2.2.1 (((2:Int), ()), ())) fun r3 => (Dt.ite ((v.2.2.2.2.2.2.2.2.2.2.2.1 == r3.1) && ((v.2.2.2.2.2.2.2.2.2.2.2.2.1 == r3.2) && true)) (Dt.ret (v.2.2.2.2.2.1 == (6:Int))) (Dt.ret false))) (Dt.ret false)) (Dt.ret false))) (Dt.ret false)) (Dt.ret false))) (Dt.ret false)) (Dt.ret false)) (Dt.ret false))
theorem law34_alive_g8 (C : law34_alive_C) (v : law34_alive_Y7) : treg tysT (orc (law34_alive_tab C)) 90 (regO (bodyOf f4) 8) true [(0, .any)] (law34_alive_S7 v) some = (law34_alive_r8 C v).eval fun y => some (law34_alive_S8 y) := by kernel_rfl
def F_law34_alive (d : Nat) (x : law34_alive_X) : Option law34_alive_R :=
  (law34_alive_r0 (law34_alive_K d) ()).eval fun y0 =>
  (law34_alive_r1 (law34_alive_K d) ()).eval fun y1 =>
  (law34_alive_r2 (law34_alive_K d) y1).eval fun y2 =>
  (law34_alive_r3 (law34_alive_K d) y2).eval fun y3 =>
  (law34_alive_r4 (law34_alive_K d) y3).eval fun y4 =>
  (law34_alive_r5 (law34_alive_K d) y4).eval fun y5 =>
  (law34_alive_r6 (law34_alive_K d) y5).eval fun y6 =>
  (law34_alive_r7 (law34_alive_K d) y6).eval fun y7 =>
  (law34_alive_r8 (law34_alive_K d) y7).eval fun y8 =>
  some y8
theorem law34_alive_cok (d : Nat) : COK prog (law34_alive_sp (F_law34_alive d)) := by
  have hm : prog.follows .mixedOrders = true := mixed
  have hT := tys
  have hC0 : OrcOK prog (orc (law34_alive_tab (law34_alive_K d))) := orc_ok (by
    intro S hS
    simp only [law34_alive_tab, List.mem_cons, List.not_mem_nil, or_false] at hS
    rcases hS with rfl | rfl | rfl | rfl | rfl | rfl | rfl
    · exact chase_Next_cok d
    · exact chase_Plan_cok d
    · exact ref04_Same_cok d
    · exact law34_example_cok d
    · exact law34_whole_cok d
    · exact chase_Chain_cok d
    · exact chase_Catch_cok d)
  have hC : OrcOK prog (orc (law34_alive_tab (law34_alive_K d))) := hC0
  refine cok_of (c := bodyOf f4) (fn := f4) hT (by kernel_rfl) (by kernel_rfl) (by decide) fun x r h w0 φ0 Q hend => ?_
  replace h : F_law34_alive d x = some r := h
  unfold F_law34_alive at h
  show Run prog w0 φ0 90 (bodyOf f4) ⟨[], []⟩ Q
  refine run_seq ?_
  refine run_reg hm hT hC (law34_alive_g0 (law34_alive_K d) ()) h ?_
  intro y0 h
  refine cn_then ?_
  refine run_seq ?_
  refine run_reg hm hT hC (law34_alive_g1 (law34_alive_K d) ()) h ?_
  intro y1 h
  refine cn_then ?_
  refine run_seq ?_
  refine run_reg hm hT hC (law34_alive_g2 (law34_alive_K d) y1) h ?_
  intro y2 h
  refine cn_then ?_
  refine run_seq ?_
  refine run_reg hm hT hC (law34_alive_g3 (law34_alive_K d) y2) h ?_
  intro y3 h
  refine cn_then ?_
  refine run_seq ?_
  refine run_reg hm hT hC (law34_alive_g4 (law34_alive_K d) y3) h ?_
  intro y4 h
  refine cn_then ?_
  refine run_seq ?_
  refine run_reg hm hT hC (law34_alive_g5 (law34_alive_K d) y4) h ?_
  intro y5 h
  refine cn_then ?_
  refine run_seq ?_
  refine run_reg hm hT hC (law34_alive_g6 (law34_alive_K d) y5) h ?_
  intro y6 h
  refine cn_then ?_
  refine run_seq ?_
  refine run_reg hm hT hC (law34_alive_g7 (law34_alive_K d) y6) h ?_
  intro y7 h
  refine cn_then ?_
  refine run_seq ?_
  refine run_reg hm hT hC (law34_alive_g8 (law34_alive_K d) y7) h ?_
  intro y8 h
  refine cn_then ?_
  refine run_ret ?_
  cases h
  exact (hend _ (by kernel_rfl)).2
abbrev ref32_Great_ps : List Pk := [.row RLiiiE true]
abbrev ref32_Great_X : Type := DLiiiE × Unit
abbrev ref32_Great_R : Type := Bool
def ref32_Great_enc (r : ref32_Great_R) : LV × List Ob := (.bool r, [])
def ref32_Great_sp (F : ref32_Great_X → Option ref32_Great_R) : Go.Tx.Spec := ⟨18, ref32_Great_ps, ref32_Great_R, F, ref32_Great_enc⟩
abbrev ref32_Great_C : Type := Unit
def ref32_Great_K (_d : Nat) : ref32_Great_C := ()
def ref32_Great_tab (C : ref32_Great_C) : List Go.Tx.Spec := []
abbrev ref32_Great_Y0i : Type := List Diii
def ref32_Great_S0i (v : ref32_Great_Y0i) : St := ⟨[(0, .agg [.fz Riii v])], []⟩
abbrev ref32_Great_Y0 : Type := List Diii
def ref32_Great_S0 (v : ref32_Great_Y0) : St := ⟨[(1, .ptr 0 0)], [.cells [.fz Riii v]]⟩
def ref32_Great_r0 (C : ref32_Great_C) (v : ref32_Great_Y0i) : Dt ref32_Great_Y0 := (Dt.ret v)
theorem ref32_Great_g0 (C : ref32_Great_C) (v : ref32_Great_Y0i) : treg tysT (orc (ref32_Great_tab C)) 19 (regO (bodyOf f18) 0) false [(1, (.box [.val Riii]))] (ref32_Great_S0i v) some = (ref32_Great_r0 C v).eval fun y => some (ref32_Great_S0 y) := by kernel_rfl
abbrev ref32_Great_Y1 : Type := Bool
def ref32_Great_S1 (v : ref32_Great_Y1) : St := ⟨[(2, .bool v)], []⟩
def ref32_Great_r1 (C : ref32_Great_C) (v : ref32_Great_Y0) : Dt ref32_Great_Y1 := (Dt.ite (decide ((List.length v : Int) > (16:Int))) (Dt.ite (decide ((List.length v : Int) ≤ (64:Int))) (Dt.ret true) (Dt.ret (decide ((List.length v : Int) > (70:Int))))) (Dt.ret (decide ((List.length v : Int) > (70:Int)))))
theorem ref32_Great_g1 (C : ref32_Great_C) (v : ref32_Great_Y0) : treg tysT (orc (ref32_Great_tab C)) 19 (regO (bodyOf f18) 1) false [(2, .any)] (ref32_Great_S0 v) some = (ref32_Great_r1 C v).eval fun y => some (ref32_Great_S1 y) := by kernel_rfl
def F_ref32_Great (d : Nat) (x : ref32_Great_X) : Option ref32_Great_R :=
  (ref32_Great_r0 (ref32_Great_K d) x.1.1).eval fun y0 =>
  (ref32_Great_r1 (ref32_Great_K d) y0).eval fun y1 =>
  some y1
theorem ref32_Great_cok (d : Nat) : COK prog (ref32_Great_sp (F_ref32_Great d)) := by
  have hm : prog.follows .mixedOrders = true := mixed
  have hT := tys
  have hC0 : OrcOK prog (orc (ref32_Great_tab (ref32_Great_K d))) := orc_ok (by
    intro S hS
    simp only [ref32_Great_tab, List.mem_cons, List.not_mem_nil, or_false] at hS
    all_goals first | cases hS | exact hS.elim)
  have hC : OrcOK prog (orc (ref32_Great_tab (ref32_Great_K d))) := hC0
  refine cok_of (c := bodyOf f18) (fn := f18) hT (by kernel_rfl) (by kernel_rfl) (by decide) fun x r h w0 φ0 Q hend => ?_
  replace h : F_ref32_Great d x = some r := h
  unfold F_ref32_Great at h
  show Run prog w0 φ0 19 (bodyOf f18) ⟨[(0, .agg [.fz Riii x.1.1])], []⟩ Q
  refine run_seq ?_
  refine run_reg hm hT hC (ref32_Great_g0 (ref32_Great_K d) x.1.1) h ?_
  intro y0 h
  refine cn_then ?_
  refine run_seq ?_
  refine run_reg hm hT hC (ref32_Great_g1 (ref32_Great_K d) y0) h ?_
  intro y1 h
  refine cn_then ?_
  refine run_ret ?_
  cases h
  exact (hend _ (by kernel_rfl)).2
abbrev law34_asked_ps : List Pk := [.row RLiiiE true, .row Ri false, .row Rii true]
abbrev law34_asked_X : Type := DLiiiE × Di × Dii × Unit
abbrev law34_asked_R : Type := Bool
def law34_asked_enc (r : law34_asked_R) : LV × List Ob := (.bool r, [])
def law34_asked_sp (F : law34_asked_X → Option law34_asked_R) : Go.Tx.Spec := ⟨5, law34_asked_ps, law34_asked_R, F, law34_asked_enc⟩
abbrev law34_asked_C : Type := (ref32_Great_X → Option ref32_Great_R) × (ref03_Timed_X → Option ref03_Timed_R) × (ref03_At_X → Option ref03_At_R) × Unit
def law34_asked_K (d : Nat) : law34_asked_C := (F_ref32_Great d, F_ref03_Timed d, F_ref03_At d, ())
def law34_asked_tab (C : law34_asked_C) : List Go.Tx.Spec := [ref32_Great_sp C.1, ref03_Timed_sp C.2.1, ref03_At_sp C.2.2.1]
abbrev law34_asked_Y0i : Type := List Diii × Int × Int × Int
def law34_asked_S0i (v : law34_asked_Y0i) : St := ⟨[(0, .agg [.fz Riii v.1]), (1, .int .i64 v.2.1), (2, .agg [.int .i64 v.2.2.1, .int .i64 v.2.2.2])], []⟩
abbrev law34_asked_Y0 : Type := Int × List Diii × Int × Int
def law34_asked_S0 (v : law34_asked_Y0) : St := ⟨[(1, .int .i64 v.1), (3, .ptr 0 0), (5, .ptr 1 0)], [.cells [.fz Riii v.2.1], .cells [.int .i64 v.2.2.1, .int .i64 v.2.2.2]]⟩
def law34_asked_r0 (C : law34_asked_C) (v : law34_asked_Y0i) : Dt law34_asked_Y0 := (Dt.ret (v.2.1, v.1, v.2.2.1, v.2.2.2))
theorem law34_asked_g0 (C : law34_asked_C) (v : law34_asked_Y0i) : treg tysT (orc (law34_asked_tab C)) 22 (regO (bodyOf f5) 0) false [(1, .any), (3, (.box [.val Riii])), (5, .any)] (law34_asked_S0i v) some = (law34_asked_r0 C v).eval fun y => some (law34_asked_S0 y) := by kernel_rfl
abbrev law34_asked_Y1 : Type := Bool
def law34_asked_S1 (v : law34_asked_Y1) : St := ⟨[(6, .bool v)], []⟩
def law34_asked_r1 (C : law34_asked_C) (v : law34_asked_Y0) : Dt law34_asked_Y1 := (Dt.bnd (C.1 ((v.2.1, ()), ())) fun r1 => (Dt.ite (!r1) (Dt.bnd (C.2.1 ((v.2.1, ()), (v.2.2.1, v.2.2.2, ()), ())) fun r2 => (Dt.ite (r2 == (0:Int)) (Dt.bnd (C.2.2.1 ((v.2.1, ()), (v.1, ()), ())) fun r3 => (Dt.ret (decide (r3 ≥ (0:Int))))) (Dt.ret false))) (Dt.ret false)))
theorem law34_asked_g1 (C : law34_asked_C) (v : law34_asked_Y0) : treg tysT (orc (law34_asked_tab C)) 22 (regO (bodyOf f5) 1) false [(6, .any)] (law34_asked_S0 v) some = (law34_asked_r1 C v).eval fun y => some (law34_asked_S1 y) := by kernel_rfl
def F_law34_asked (d : Nat) (x : law34_asked_X) : Option law34_asked_R :=
  (law34_asked_r0 (law34_asked_K d) (x.1.1, x.2.1.1, x.2.2.1.1, x.2.2.1.2.1)).eval fun y0 =>
  (law34_asked_r1 (law34_asked_K d) y0).eval fun y1 =>
  some y1
theorem law34_asked_cok (d : Nat) : COK prog (law34_asked_sp (F_law34_asked d)) := by
  have hm : prog.follows .mixedOrders = true := mixed
  have hT := tys
  have hC0 : OrcOK prog (orc (law34_asked_tab (law34_asked_K d))) := orc_ok (by
    intro S hS
    simp only [law34_asked_tab, List.mem_cons, List.not_mem_nil, or_false] at hS
    rcases hS with rfl | rfl | rfl
    · exact ref32_Great_cok d
    · exact ref03_Timed_cok d
    · exact ref03_At_cok d)
  have hC : OrcOK prog (orc (law34_asked_tab (law34_asked_K d))) := hC0
  refine cok_of (c := bodyOf f5) (fn := f5) hT (by kernel_rfl) (by kernel_rfl) (by decide) fun x r h w0 φ0 Q hend => ?_
  replace h : F_law34_asked d x = some r := h
  unfold F_law34_asked at h
  show Run prog w0 φ0 22 (bodyOf f5) ⟨[(0, .agg [.fz Riii x.1.1]), (1, .int .i64 x.2.1.1), (2, .agg [.int .i64 x.2.2.1.1, .int .i64 x.2.2.1.2.1])], []⟩ Q
  refine run_seq ?_
  refine run_reg hm hT hC (law34_asked_g0 (law34_asked_K d) (x.1.1, x.2.1.1, x.2.2.1.1, x.2.2.1.2.1)) h ?_
  intro y0 h
  refine cn_then ?_
  refine run_seq ?_
  refine run_reg hm hT hC (law34_asked_g1 (law34_asked_K d) y0) h ?_
  intro y1 h
  refine cn_then ?_
  refine run_ret ?_
  cases h
  exact (hend _ (by kernel_rfl)).2
abbrev law34_ChaseFirst_ps : List Pk := [.row RLiiiE true, .row Ri false, .row Rii true, .row Ri false]
abbrev law34_ChaseFirst_X : Type := DLiiiE × Di × Dii × Di × Unit
abbrev law34_ChaseFirst_R : Type := Bool
def law34_ChaseFirst_enc (r : law34_ChaseFirst_R) : LV × List Ob := (.bool r, [])
def law34_ChaseFirst_sp (F : law34_ChaseFirst_X → Option law34_ChaseFirst_R) : Go.Tx.Spec := ⟨3, law34_ChaseFirst_ps, law34_ChaseFirst_R, F, law34_ChaseFirst_enc⟩
abbrev law34_ChaseFirst_C : Type := (law34_alive_X → Option law34_alive_R) × (law34_asked_X → Option law34_asked_R) × (meet_Last_X → Option meet_Last_R) × (ref01_Check_X → Option ref01_Check_R) × (ref01_Compare_X → Option ref01_Compare_R) × (chase_Next_X → Option chase_Next_R) × (chase_Plan_X → Option chase_Plan_R) × (meet_All_X → Option meet_All_R) × (ref34_Other_X → Option ref34_Other_R) × (ref04_Same_X → Option ref04_Same_R) × Unit
def law34_ChaseFirst_K (d : Nat) : law34_ChaseFirst_C := (F_law34_alive d, F_law34_asked d, F_meet_Last d, F_ref01_Check d, F_ref01_Compare d, F_chase_Next d, F_chase_Plan d, F_meet_All d, F_ref34_Other d, F_ref04_Same d, ())
def law34_ChaseFirst_tab (C : law34_ChaseFirst_C) : List Go.Tx.Spec := [law34_alive_sp C.1, law34_asked_sp C.2.1, meet_Last_sp C.2.2.1, ref01_Check_sp C.2.2.2.1, ref01_Compare_sp C.2.2.2.2.1, chase_Next_sp C.2.2.2.2.2.1, chase_Plan_sp C.2.2.2.2.2.2.1, meet_All_sp C.2.2.2.2.2.2.2.1, ref34_Other_sp C.2.2.2.2.2.2.2.2.1, ref04_Same_sp C.2.2.2.2.2.2.2.2.2.1]
abbrev law34_ChaseFirst_Y0i : Type := List Diii × Int × Int × Int × Int
def law34_ChaseFirst_S0i (v : law34_ChaseFirst_Y0i) : St := ⟨[(0, .agg [.fz Riii v.1]), (1, .int .i64 v.2.1), (2, .agg [.int .i64 v.2.2.1, .int .i64 v.2.2.2.1]), (3, .int .i64 v.2.2.2.2)], []⟩
abbrev law34_ChaseFirst_Y0 : Type := Int × Int × List Diii × Int × Int
def law34_ChaseFirst_S0 (v : law34_ChaseFirst_Y0) : St := ⟨[(1, .int .i64 v.1), (3, .int .i64 v.2.1), (4, .ptr 0 0), (6, .ptr 1 0)], [.cells [.fz Riii v.2.2.1], .cells [.int .i64 v.2.2.2.1, .int .i64 v.2.2.2.2]]⟩
def law34_ChaseFirst_r0 (C : law34_ChaseFirst_C) (v : law34_ChaseFirst_Y0i) : Dt law34_ChaseFirst_Y0 := (Dt.ret (v.2.1, v.2.2.2.2, v.1, v.2.2.1, v.2.2.2.1))
theorem law34_ChaseFirst_g0 (C : law34_ChaseFirst_C) (v : law34_ChaseFirst_Y0i) : treg tysT (orc (law34_ChaseFirst_tab C)) 265 (regO (bodyOf f3) 0) false [(1, .any), (3, .any), (4, (.box [.val Riii])), (6, .any)] (law34_ChaseFirst_S0i v) some = (law34_ChaseFirst_r0 C v).eval fun y => some (law34_ChaseFirst_S0 y) := by kernel_rfl
abbrev law34_ChaseFirst_Y1 : Type := Int × Int × Bool × List Diii × Int × Int
def law34_ChaseFirst_S1 (v : law34_ChaseFirst_Y1) : St := ⟨[(1, .int .i64 v.1), (3, .int .i64 v.2.1), (4, .ptr 0 0), (6, .ptr 1 0), (9, .bool v.2.2.1)], [.cells [.fz Riii v.2.2.2.1], .cells [.int .i64 v.2.2.2.2.1, .int .i64 v.2.2.2.2.2]]⟩
def law34_ChaseFirst_r1 (C : law34_ChaseFirst_C) (v : law34_ChaseFirst_Y0) : Dt law34_ChaseFirst_Y1 := (Dt.bnd (C.1 (())) fun r1 => (Dt.ret (v.1, v.2.1, r1, v.2.2.1, v.2.2.2.1, v.2.2.2.2)))
theorem law34_ChaseFirst_g1 (C : law34_ChaseFirst_C) (v : law34_ChaseFirst_Y0) : treg tysT (orc (law34_ChaseFirst_tab C)) 265 (regO (bodyOf f3) 1) false [(1, .any), (3, .any), (4, (.box [.val Riii])), (6, .any), (9, .any)] (law34_ChaseFirst_S0 v) some = (law34_ChaseFirst_r1 C v).eval fun y => some (law34_ChaseFirst_S1 y) := by kernel_rfl
abbrev law34_ChaseFirst_Y2 : Type := Int × Int × Bool × Bool × List Diii × Int × Int
def law34_ChaseFirst_S2 (v : law34_ChaseFirst_Y2) : St := ⟨[(1, .int .i64 v.1), (3, .int .i64 v.2.1), (4, .ptr 0 0), (6, .ptr 1 0), (9, .bool v.2.2.1), (47, .bool v.2.2.2.1)], [.cells [.fz Riii v.2.2.2.2.1], .cells [.int .i64 v.2.2.2.2.2.1, .int .i64 v.2.2.2.2.2.2]]⟩
def law34_ChaseFirst_r2 (C : law34_ChaseFirst_C) (v : law34_ChaseFirst_Y1) : Dt law34_ChaseFirst_Y2 := (Dt.bnd (C.2.1 ((v.2.2.2.1, ()), (v.1, ()), (v.2.2.2.2.1, v.2.2.2.2.2, ()), ())) fun r1 => (Dt.ite (!r1) (Dt.ret (v.1, v.2.1, v.2.2.1, true, v.2.2.2.1, v.2.2.2.2.1, v.2.2.2.2.2)) (Dt.ite (decide (v.2.1 < (0:Int))) (Dt.ret (v.1, v.2.1, v.2.2.1, true, v.2.2.2.1, v.2.2.2.2.1, v.2.2.2.2.2)) (Dt.ite (decide (v.2.1 > (64:Int))) (Dt.ret (v.1, v.2.1, v.2.2.1, true, v.2.2.2.1, v.2.2.2.2.1, v.2.2.2.2.2)) (Dt.ret (v.1, v.2.1, v.2.2.1, (!v.2.2.1), v.2.2.2.1, v.2.2.2.2.1, v.2.2.2.2.2))))))
theorem law34_ChaseFirst_g2 (C : law34_ChaseFirst_C) (v : law34_ChaseFirst_Y1) : treg tysT (orc (law34_ChaseFirst_tab C)) 265 (regO (bodyOf f3) 2) false [(1, .any), (3, .any), (4, (.box [.val Riii])), (6, .any), (9, .any), (47, .any)] (law34_ChaseFirst_S1 v) some = (law34_ChaseFirst_r2 C v).eval fun y => some (law34_ChaseFirst_S2 y) := by kernel_rfl
abbrev law34_ChaseFirst_Y3 : Type := Bool
def law34_ChaseFirst_S3 (v : law34_ChaseFirst_Y3) : St := ⟨[(8, .bool v)], []⟩
def law34_ChaseFirst_r3 (C : law34_ChaseFirst_C) (v : law34_ChaseFirst_Y2) : Dt law34_ChaseFirst_Y3 := (Dt.ret v.2.2.1)
theorem law34_ChaseFirst_g3 (C : law34_ChaseFirst_C) (v : law34_ChaseFirst_Y2) : treg tysT (orc (law34_ChaseFirst_tab C)) 265 (regO (bodyOf f3) 3) false [(8, .any)] (law34_ChaseFirst_S2 v) some = (law34_ChaseFirst_r3 C v).eval fun y => some (law34_ChaseFirst_S3 y) := by kernel_rfl
abbrev law34_ChaseFirst_Y4 : Type := Int × Int × Bool × Int × List Diii × Int × Int × Int × Int
def law34_ChaseFirst_S4 (v : law34_ChaseFirst_Y4) : St := ⟨[(1, .int .i64 v.1), (3, .int .i64 v.2.1), (4, .ptr 0 0), (6, .ptr 1 0), (9, .bool v.2.2.1), (10, .ptr 2 0), (11, .int .i64 v.2.2.2.1)], [.cells [.fz Riii v.2.2.2.2.1], .cells [.int .i64 v.2.2.2.2.2.1, .int .i64 v.2.2.2.2.2.2.1], .cells [.int .i64 v.2.2.2.2.2.2.2.1, .int .i64 v.2.2.2.2.2.2.2.2]]⟩
def law34_ChaseFirst_r4 (C : law34_ChaseFirst_C) (v : law34_ChaseFirst_Y2) : Dt law34_ChaseFirst_Y4 := (Dt.bnd (C.2.2.1 ((v.2.2.2.2.1, ()), ())) fun r1 => (Dt.ret (v.1, v.2.1, v.2.2.1, r1.2.2, v.2.2.2.2.1, v.2.2.2.2.2.1, v.2.2.2.2.2.2, r1.1, r1.2.1)))
theorem law34_ChaseFirst_g4 (C : law34_ChaseFirst_C) (v : law34_ChaseFirst_Y2) : treg tysT (orc (law34_ChaseFirst_tab C)) 265 (regO (bodyOf f3) 4) false [(1, .any), (3, .any), (4, (.box [.val Riii])), (6, .any), (9, .any), (10, .any), (11, .any)] (law34_ChaseFirst_S2 v) some = (law34_ChaseFirst_r4 C v).eval fun y => some (law34_ChaseFirst_S4 y) := by kernel_rfl
abbrev law34_ChaseFirst_Y5 : Type := Int × Int × Bool × Bool × List Diii × Int × Int × Int × Int
def law34_ChaseFirst_S5 (v : law34_ChaseFirst_Y5) : St := ⟨[(1, .int .i64 v.1), (3, .int .i64 v.2.1), (4, .ptr 0 0), (6, .ptr 1 0), (9, .bool v.2.2.1), (10, .ptr 2 0), (66, .bool v.2.2.2.1)], [.cells [.fz Riii v.2.2.2.2.1], .cells [.int .i64 v.2.2.2.2.2.1, .int .i64 v.2.2.2.2.2.2.1], .cells [.int .i64 v.2.2.2.2.2.2.2.1, .int .i64 v.2.2.2.2.2.2.2.2]]⟩
def law34_ChaseFirst_r5 (C : law34_ChaseFirst_C) (v : law34_ChaseFirst_Y4) : Dt law34_ChaseFirst_Y5 := (Dt.ite (v.2.2.2.1 != (0:Int)) (Dt.ret (v.1, v.2.1, v.2.2.1, true, v.2.2.2.2.1, v.2.2.2.2.2.1, v.2.2.2.2.2.2.1, v.2.2.2.2.2.2.2.1, v.2.2.2.2.2.2.2.2)) (Dt.bnd (C.2.2.2.1 ((v.2.2.2.2.2.2.2.1, v.2.2.2.2.2.2.2.2, ()), ())) fun r1 => (Dt.ite (r1 != (0:Int)) (Dt.ret (v.1, v.2.1, v.2.2.1, true, v.2.2.2.2.1, v.2.2.2.2.2.1, v.2.2.2.2.2.2.1, v.2.2.2.2.2.2.2.1, v.2.2.2.2.2.2.2.2)) (Dt.bnd (C.2.2.2.2.1 ((v.2.2.2.2.2.2.2.1, v.2.2.2.2.2.2.2.2, ()), (v.2.2.2.2.2.1, v.2.2.2.2.2.2.1, ()), ())) fun r2 => (Dt.ret (v.1, v.2.1, v.2.2.1, (decide (r2 ≤ (0:Int))), v.2.2.2.2.1, v.2.2.2.2.2.1, v.2.2.2.2.2.2.1, v.2.2.2.2.2.2.2.1, v.2.2.2.2.2.2.2.2))))))
theorem law34_ChaseFirst_g5 (C : law34_ChaseFirst_C) (v : law34_ChaseFirst_Y4) : treg tysT (orc (law34_ChaseFirst_tab C)) 265 (regO (bodyOf f3) 5) false [(1, .any), (3, .any), (4, (.box [.val Riii])), (6, .any), (9, .any), (10, .any), (66, .any)] (law34_ChaseFirst_S4 v) some = (law34_ChaseFirst_r5 C v).eval fun y => some (law34_ChaseFirst_S5 y) := by kernel_rfl
abbrev law34_ChaseFirst_Y6 : Type := Int × Int × Bool × Int × List Diii × Int × Int
def law34_ChaseFirst_S6 (v : law34_ChaseFirst_Y6) : St := ⟨[(1, .int .i64 v.1), (3, .int .i64 v.2.1), (4, .ptr 0 0), (6, .ptr 1 0), (9, .bool v.2.2.1), (13, .int .i64 v.2.2.2.1)], [.cells [.fz Riii v.2.2.2.2.1], .cells [.int .i64 v.2.2.2.2.2.1, .int .i64 v.2.2.2.2.2.2]]⟩
def law34_ChaseFirst_r6 (C : law34_ChaseFirst_C) (v : law34_ChaseFirst_Y5) : Dt law34_ChaseFirst_Y6 := (Dt.bnd (C.2.2.2.2.2.1 ((v.2.2.2.2.1, ()), (v.1, ()), (v.2.2.2.2.2.1, v.2.2.2.2.2.2.1, ()), ())) fun r1 => (Dt.ret (v.1, v.2.1, v.2.2.1, r1.2.2.2.2, v.2.2.2.2.1, v.2.2.2.2.2.1, v.2.2.2.2.2.2.1)))
theorem law34_ChaseFirst_g6 (C : law34_ChaseFirst_C) (v : law34_ChaseFirst_Y5) : treg tysT (orc (law34_ChaseFirst_tab C)) 265 (regO (bodyOf f3) 6) false [(1, .any), (3, .any), (4, (.box [.val Riii])), (6, .any), (9, .any), (13, .any)] (law34_ChaseFirst_S5 v) some = (law34_ChaseFirst_r6 C v).eval fun y => some (law34_ChaseFirst_S6 y) := by kernel_rfl
abbrev law34_ChaseFirst_Y7 : Type := Bool × Int × List Diiii × Int
def law34_ChaseFirst_S7 (v : law34_ChaseFirst_Y7) : St := ⟨[(9, .bool v.1), (13, .int .i64 v.2.1), (14, .fz Riiii v.2.2.1), (15, .int .i64 v.2.2.2)], []⟩
def law34_ChaseFirst_r7 (C : law34_ChaseFirst_C) (v : law34_ChaseFirst_Y6) : Dt law34_ChaseFirst_Y7 := (Dt.bnd (C.2.2.2.2.2.2.1 ((v.2.2.2.2.1, ()), (v.1, ()), (v.2.2.2.2.2.1, v.2.2.2.2.2.2, ()), (v.2.1, ()), ())) fun r1 => (Dt.ret (v.2.2.1, v.2.2.2.1, r1.1, r1.2)))
theorem law34_ChaseFirst_g7 (C : law34_ChaseFirst_C) (v : law34_ChaseFirst_Y6) : treg tysT (orc (law34_ChaseFirst_tab C)) 265 (regO (bodyOf f3) 7) false [(9, .any), (13, .any), (14, (.val Riiii)), (15, .any)] (law34_ChaseFirst_S6 v) some = (law34_ChaseFirst_r7 C v).eval fun y => some (law34_ChaseFirst_S7 y) := by kernel_rfl
def law34_ChaseFirst_r8 (C : law34_ChaseFirst_C) (v : law34_ChaseFirst_Y7) : Dt law34_ChaseFirst_Y3 := (Dt.ite v.1 (Dt.ite (v.2.1 == (6:Int)) (Dt.ite (v.2.2.2 == (0:Int)) (Dt.ret ((List.length v.2.2.1 : Int) == (0:Int))) (Dt.ret false)) (Dt.ret false)) (Dt.ret false))
theorem law34_ChaseFirst_g8 (C : law34_ChaseFirst_C) (v : law34_ChaseFirst_Y7) : treg tysT (orc (law34_ChaseFirst_tab C)) 265 (regO (bodyOf f3) 8) false [(8, .any)] (law34_ChaseFirst_S7 v) some = (law34_ChaseFirst_r8 C v).eval fun y => some (law34_ChaseFirst_S3 y) := by kernel_rfl
abbrev law34_ChaseFirst_Y9 : Type := Int × Int × Bool × List Diiii × Int × List Diii × Int × Int
def law34_ChaseFirst_S9 (v : law34_ChaseFirst_Y9) : St := ⟨[(1, .int .i64 v.1), (3, .int .i64 v.2.1), (4, .ptr 0 0), (6, .ptr 1 0), (9, .bool v.2.2.1), (16, .fz Riiii v.2.2.2.1), (17, .int .i64 v.2.2.2.2.1)], [.cells [.fz Riii v.2.2.2.2.2.1], .cells [.int .i64 v.2.2.2.2.2.2.1, .int .i64 v.2.2.2.2.2.2.2]]⟩
def law34_ChaseFirst_r9 (C : law34_ChaseFirst_C) (v : law34_ChaseFirst_Y5) : Dt law34_ChaseFirst_Y9 := (Dt.bnd (C.2.2.2.2.2.2.2.1 ((v.2.2.2.2.1, ()), (v.2.2.2.2.2.1, v.2.2.2.2.2.2.1, ()), (v.2.2.2.2.2.2.2.1, v.2.2.2.2.2.2.2.2, ()), ())) fun r1 => (Dt.ret (v.1, v.2.1, v.2.2.1, r1.1, r1.2, v.2.2.2.2.1, v.2.2.2.2.2.1, v.2.2.2.2.2.2.1)))
theorem law34_ChaseFirst_g9 (C : law34_ChaseFirst_C) (v : law34_ChaseFirst_Y5) : treg tysT (orc (law34_ChaseFirst_tab C)) 265 (regO (bodyOf f3) 9) false [(1, .any), (3, .any), (4, (.box [.val Riii])), (6, .any), (9, .any), (16, (.val Riiii)), (17, .any)] (law34_ChaseFirst_S5 v) some = (law34_ChaseFirst_r9 C v).eval fun y => some (law34_ChaseFirst_S9 y) := by kernel_rfl
abbrev law34_ChaseFirst_Y10 : Type := Int × Int × Bool × List Diiii × Int × List Diiii × Int × List Diii × Int × Int
def law34_ChaseFirst_S10 (v : law34_ChaseFirst_Y10) : St := ⟨[(1, .int .i64 v.1), (3, .int .i64 v.2.1), (4, .ptr 0 0), (6, .ptr 1 0), (9, .bool v.2.2.1), (16, .fz Riiii v.2.2.2.1), (17, .int .i64 v.2.2.2.2.1), (18, .fz Riiii v.2.2.2.2.2.1), (19, .int .i64 v.2.2.2.2.2.2.1)], [.cells [.fz Riii v.2.2.2.2.2.2.2.1], .cells [.int .i64 v.2.2.2.2.2.2.2.2.1, .int .i64 v.2.2.2.2.2.2.2.2.2]]⟩
def law34_ChaseFirst_r10 (C : law34_ChaseFirst_C) (v : law34_ChaseFirst_Y9) : Dt law34_ChaseFirst_Y10 := (Dt.bnd (C.2.2.2.2.2.2.1 ((v.2.2.2.2.2.1, ()), (v.1, ()), (v.2.2.2.2.2.2.1, v.2.2.2.2.2.2.2, ()), ((64:Int), ()), ())) fun r1 => (Dt.ret (v.1, v.2.1, v.2.2.1, v.2.2.2.1, v.2.2.2.2.1, r1.1, r1.2, v.2.2.2.2.2.1, v.2.2.2.2.2.2.1, v.2.2.2.2.2.2.2)))
theorem law34_ChaseFirst_g10 (C : law34_ChaseFirst_C) (v : law34_ChaseFirst_Y9) : treg tysT (orc (law34_ChaseFirst_tab C)) 265 (regO (bodyOf f3) 10) false [(1, .any), (3, .any), (4, (.box [.val Riii])), (6, .any), (9, .any), (16, (.val Riiii)), (17, .any), (18, (.val Riiii)), (19, .any)] (law34_ChaseFirst_S9 v) some = (law34_ChaseFirst_r10 C v).eval fun y => some (law34_ChaseFirst_S10 y) := by kernel_rfl
abbrev law34_ChaseFirst_Y11 : Type := Int × Int × Bool × List Diiii × Int × List Diiii × Int × List Diiii × Int × List Diii × Int × Int
def law34_ChaseFirst_S11 (v : law34_ChaseFirst_Y11) : St := ⟨[(1, .int .i64 v.1), (3, .int .i64 v.2.1), (4, .ptr 0 0), (6, .ptr 1 0), (9, .bool v.2.2.1), (16, .fz Riiii v.2.2.2.1), (17, .int .i64 v.2.2.2.2.1), (18, .fz Riiii v.2.2.2.2.2.1), (19, .int .i64 v.2.2.2.2.2.2.1), (20, .fz Riiii v.2.2.2.2.2.2.2.1), (21, .int .i64 v.2.2.2.2.2.2.2.2.1)], [.cells [.fz Riii v.2.2.2.2.2.2.2.2.2.1], .cells [.int .i64 v.2.2.2.2.2.2.2.2.2.2.1, .int .i64 v.2.2.2.2.2.2.2.2.2.2.2]]⟩
def law34_ChaseFirst_r11 (C : law34_ChaseFirst_C) (v : law34_ChaseFirst_Y10) : Dt law34_ChaseFirst_Y11 := (Dt.bnd (C.2.2.2.2.2.2.1 ((v.2.2.2.2.2.2.2.1, ()), (v.1, ()), (v.2.2.2.2.2.2.2.2.1, v.2.2.2.2.2.2.2.2.2, ()), (v.2.1, ()), ())) fun r1 => (Dt.ret (v.1, v.2.1, v.2.2.1, v.2.2.2.1, v.2.2.2.2.1, v.2.2.2.2.2.1, v.2.2.2.2.2.2.1, r1.1, r1.2, v.2.2.2.2.2.2.2.1, v.2.2.2.2.2.2.2.2.1, v.2.2.2.2.2.2.2.2.2)))
theorem law34_ChaseFirst_g11 (C : law34_ChaseFirst_C) (v : law34_ChaseFirst_Y10) : treg tysT (orc (law34_ChaseFirst_tab C)) 265 (regO (bodyOf f3) 11) false [(1, .any), (3, .any), (4, (.box [.val Riii])), (6, .any), (9, .any), (16, (.val Riiii)), (17, .any), (18, (.val Riiii)), (19, .any), (20, (.val Riiii)), (21, .any)] (law34_ChaseFirst_S10 v) some = (law34_ChaseFirst_r11 C v).eval fun y => some (law34_ChaseFirst_S11 y) := by kernel_rfl
abbrev law34_ChaseFirst_Y12 : Type := Int × Bool × List Diiii × List Diiii × List Diiii × Bool × List Diii × Int × Int
def law34_ChaseFirst_S12 (v : law34_ChaseFirst_Y12) : St := ⟨[(1, .int .i64 v.1), (4, .ptr 0 0), (6, .ptr 1 0), (9, .bool v.2.1), (16, .fz Riiii v.2.2.1), (18, .fz Riiii v.2.2.2.1), (20, .fz Riiii v.2.2.2.2.1), (136, .bool v.2.2.2.2.2.1)], [.cells [.fz Riii v.2.2.2.2.2.2.1], .cells [.int .i64 v.2.2.2.2.2.2.2.1, .int .i64 v.2.2.2.2.2.2.2.2]]⟩
def law34_ChaseFirst_r12 (C : law34_ChaseFirst_C) (v : law34_ChaseFirst_Y11) : Dt law34_ChaseFirst_Y12 := (Dt.ite (v.2.2.2.2.1 != (0:Int)) (Dt.ret (v.1, v.2.2.1, v.2.2.2.1, v.2.2.2.2.2.1, v.2.2.2.2.2.2.2.1, true, v.2.2.2.2.2.2.2.2.2.1, v.2.2.2.2.2.2.2.2.2.2.1, v.2.2.2.2.2.2.2.2.2.2.2)) (Dt.ite (v.2.2.2.2.2.2.1 != (0:Int)) (Dt.ret (v.1, v.2.2.1, v.2.2.2.1, v.2.2.2.2.2.1, v.2.2.2.2.2.2.2.1, true, v.2.2.2.2.2.2.2.2.2.1, v.2.2.2.2.2.2.2.2.2.2.1, v.2.2.2.2.2.2.2.2.2.2.2)) (Dt.ite (v.2.2.2.2.2.2.2.2.1 != (0:Int)) (Dt.ret (v.1, v.2.2.1, v.2.2.2.1, v.2.2.2.2.2.1, v.2.2.2.2.2.2.2.1, true, v.2.2.2.2.2.2.2.2.2.1, v.2.2.2.2.2.2.2.2.2.2.1, v.2.2.2.2.2.2.2.2.2.2.2)) (Dt.ret (v.1, v.2.2.1, v.2.2.2.1, v.2.2.2.2.2.1, v.2.2.2.2.2.2.2.1, ((List.length v.2.2.2.2.2.2.2.1 : Int) != (tmin v.2.1 (List.length v.2.2.2.2.2.1 : Int))), v.2.2.2.2.2.2.2.2.2.1, v.2.2.2.2.2.2.2.2.2.2.1, v.2.2.2.2.2.2.2.2.2.2.2)))))
theorem law34_ChaseFirst_g12 (C : law34_ChaseFirst_C) (v : law34_ChaseFirst_Y11) : treg tysT (orc (law34_ChaseFirst_tab C)) 265 (regO (bodyOf f3) 12) false [(1, .any), (4, (.box [.val Riii])), (6, .any), (9, .any), (16, (.val Riiii)), (18, (.val Riiii)), (20, (.val Riiii)), (136, .any)] (law34_ChaseFirst_S11 v) some = (law34_ChaseFirst_r12 C v).eval fun y => some (law34_ChaseFirst_S12 y) := by kernel_rfl
def law34_ChaseFirst_r13 (C : law34_ChaseFirst_C) (v : law34_ChaseFirst_Y12) : Dt law34_ChaseFirst_Y3 := (Dt.ret false)
theorem law34_ChaseFirst_g13 (C : law34_ChaseFirst_C) (v : law34_ChaseFirst_Y12) : treg tysT (orc (law34_ChaseFirst_tab C)) 265 (regO (bodyOf f3) 13) false [(8, .any)] (law34_ChaseFirst_S12 v) some = (law34_ChaseFirst_r13 C v).eval fun y => some (law34_ChaseFirst_S3 y) := by kernel_rfl
abbrev law34_ChaseFirst_Y14 : Type := Int × Bool × List Diiii × List Diiii × List Diiii × Int × List Diii × Int × Int
def law34_ChaseFirst_S14 (v : law34_ChaseFirst_Y14) : St := ⟨[(1, .int .i64 v.1), (4, .ptr 0 0), (6, .ptr 1 0), (9, .bool v.2.1), (16, .fz Riiii v.2.2.1), (18, .fz Riiii v.2.2.2.1), (20, .fz Riiii v.2.2.2.2.1), (22, .int .i64 v.2.2.2.2.2.1)], [.cells [.fz Riii v.2.2.2.2.2.2.1], .cells [.int .i64 v.2.2.2.2.2.2.2.1, .int .i64 v.2.2.2.2.2.2.2.2]]⟩
def law34_ChaseFirst_r14 (C : law34_ChaseFirst_C) (v : law34_ChaseFirst_Y12) : Dt law34_ChaseFirst_Y14 := (Dt.ret (v.1, v.2.1, v.2.2.1, v.2.2.2.1, v.2.2.2.2.1, (0:Int), v.2.2.2.2.2.2.1, v.2.2.2.2.2.2.2.1, v.2.2.2.2.2.2.2.2))
theorem law34_ChaseFirst_g14 (C : law34_ChaseFirst_C) (v : law34_ChaseFirst_Y12) : treg tysT (orc (law34_ChaseFirst_tab C)) 265 (regO (bodyOf f3) 14) false [(1, .any), (4, (.box [.val Riii])), (6, .any), (9, .any), (16, (.val Riiii)), (18, (.val Riiii)), (20, (.val Riiii)), (22, .any)] (law34_ChaseFirst_S12 v) some = (law34_ChaseFirst_r14 C v).eval fun y => some (law34_ChaseFirst_S14 y) := by kernel_rfl
abbrev law34_ChaseFirst_Y15 : Type := Int × Bool × List Diiii × List Diiii × List Diiii × Int × Int × List Diii × Int × Int
def law34_ChaseFirst_S15 (v : law34_ChaseFirst_Y15) : St := ⟨[(1, .int .i64 v.1), (4, .ptr 0 0), (6, .ptr 1 0), (9, .bool v.2.1), (16, .fz Riiii v.2.2.1), (18, .fz Riiii v.2.2.2.1), (20, .fz Riiii v.2.2.2.2.1), (22, .int .i64 v.2.2.2.2.2.1), (23, .int .i64 v.2.2.2.2.2.2.1)], [.cells [.fz Riii v.2.2.2.2.2.2.2.1], .cells [.int .i64 v.2.2.2.2.2.2.2.2.1, .int .i64 v.2.2.2.2.2.2.2.2.2]]⟩
def law34_ChaseFirst_r15 (C : law34_ChaseFirst_C) (v : law34_ChaseFirst_Y14) : Dt law34_ChaseFirst_Y15 := (Dt.ret (v.1, v.2.1, v.2.2.1, v.2.2.2.1, v.2.2.2.2.1, v.2.2.2.2.2.1, (0:Int), v.2.2.2.2.2.2.1, v.2.2.2.2.2.2.2.1, v.2.2.2.2.2.2.2.2))
theorem law34_ChaseFirst_g15 (C : law34_ChaseFirst_C) (v : law34_ChaseFirst_Y14) : treg tysT (orc (law34_ChaseFirst_tab C)) 265 (regO (bodyOf f3) 15) false [(1, .any), (4, (.box [.val Riii])), (6, .any), (9, .any), (16, (.val Riiii)), (18, (.val Riiii)), (20, (.val Riiii)), (22, .any), (23, .any)] (law34_ChaseFirst_S14 v) some = (law34_ChaseFirst_r15 C v).eval fun y => some (law34_ChaseFirst_S15 y) := by kernel_rfl
abbrev law34_ChaseFirst_Y16 : Type := Int × Bool × List Diiii × List Diiii × List Diiii × Int × Int × Bool × List Diii × Int × Int
def law34_ChaseFirst_S16 (v : law34_ChaseFirst_Y16) : St := ⟨[(1, .int .i64 v.1), (4, .ptr 0 0), (6, .ptr 1 0), (9, .bool v.2.1), (16, .fz Riiii v.2.2.1), (18, .fz Riiii v.2.2.2.1), (20, .fz Riiii v.2.2.2.2.1), (22, .int .i64 v.2.2.2.2.2.1), (23, .int .i64 v.2.2.2.2.2.2.1), (140, .bool v.2.2.2.2.2.2.2.1)], [.cells [.fz Riii v.2.2.2.2.2.2.2.2.1], .cells [.int .i64 v.2.2.2.2.2.2.2.2.2.1, .int .i64 v.2.2.2.2.2.2.2.2.2.2]]⟩
def law34_ChaseFirst_r16 (C : law34_ChaseFirst_C) (v : law34_ChaseFirst_Y15) : Dt law34_ChaseFirst_Y16 := (Dt.ret (v.1, v.2.1, v.2.2.1, v.2.2.2.1, v.2.2.2.2.1, v.2.2.2.2.2.1, v.2.2.2.2.2.2.1, (decide (v.2.2.2.2.2.2.1 < (List.length v.2.2.1 : Int))), v.2.2.2.2.2.2.2.1, v.2.2.2.2.2.2.2.2.1, v.2.2.2.2.2.2.2.2.2))
theorem law34_ChaseFirst_g16 (C : law34_ChaseFirst_C) (v : law34_ChaseFirst_Y15) : treg tysT (orc (law34_ChaseFirst_tab C)) 265 (regO (bodyOf f3) 16) false [(1, .any), (4, (.box [.val Riii])), (6, .any), (9, .any), (16, (.val Riiii)), (18, (.val Riiii)), (20, (.val Riiii)), (22, .any), (23, .any), (140, .any)] (law34_ChaseFirst_S15 v) some = (law34_ChaseFirst_r16 C v).eval fun y => some (law34_ChaseFirst_S16 y) := by kernel_rfl
abbrev law34_ChaseFirst_Y18 : Type := Int × Bool × List Diiii × List Diiii × List Diiii × Int × Int × Bool × List Diii × Int × Int
def law34_ChaseFirst_S18 (v : law34_ChaseFirst_Y18) : St := ⟨[(1, .int .i64 v.1), (4, .ptr 0 0), (6, .ptr 1 0), (9, .bool v.2.1), (16, .fz Riiii v.2.2.1), (18, .fz Riiii v.2.2.2.1), (20, .fz Riiii v.2.2.2.2.1), (22, .int .i64 v.2.2.2.2.2.1), (23, .int .i64 v.2.2.2.2.2.2.1), (158, .bool v.2.2.2.2.2.2.2.1)], [.cells [.fz Riii v.2.2.2.2.2.2.2.2.1], .cells [.int .i64 v.2.2.2.2.2.2.2.2.2.1, .int .i64 v.2.2.2.2.2.2.2.2.2.2]]⟩
def law34_ChaseFirst_r18 (C : law34_ChaseFirst_C) (v : law34_ChaseFirst_Y16) : Dt law34_ChaseFirst_Y18 := (Dt.ite (inB v.2.2.2.2.2.2.1 (List.length v.2.2.1)) (Dt.ite ((elt ziiii v.2.2.1 (v.2.2.2.2.2.2.1).toNat).2.2.1 != v.1) (Dt.ite (inB v.2.2.2.2.2.2.1 (List.length v.2.2.1)) (Dt.ret (v.1, v.2.1, v.2.2.1, v.2.2.2.1, v.2.2.2.2.1, v.2.2.2.2.2.1, v.2.2.2.2.2.2.1, ((elt ziiii v.2.2.1 (v.2.2.2.2.2.2.1).toNat).2.2.2.1 != v.1), v.2.2.2.2.2.2.2.2.1, v.2.2.2.2.2.2.2.2.2.1, v.2.2.2.2.2.2.2.2.2.2)) Dt.fail) (Dt.ret (v.1, v.2.1, v.2.2.1, v.2.2.2.1, v.2.2.2.2.1, v.2.2.2.2.2.1, v.2.2.2.2.2.2.1, false, v.2.2.2.2.2.2.2.2.1, v.2.2.2.2.2.2.2.2.2.1, v.2.2.2.2.2.2.2.2.2.2))) Dt.fail)
theorem law34_ChaseFirst_g18 (C : law34_ChaseFirst_C) (v : law34_ChaseFirst_Y16) : treg tysT (orc (law34_ChaseFirst_tab C)) 265 (regO (bodyOf f3) 18) false [(1, .any), (4, (.box [.val Riii])), (6, .any), (9, .any), (16, (.val Riiii)), (18, (.val Riiii)), (20, (.val Riiii)), (22, .any), (23, .any), (158, .any)] (law34_ChaseFirst_S16 v) some = (law34_ChaseFirst_r18 C v).eval fun y => some (law34_ChaseFirst_S18 y) := by kernel_rfl
def law34_ChaseFirst_r17 (C : law34_ChaseFirst_C) (v : law34_ChaseFirst_Y15) : Dt law34_ChaseFirst_Y15 := (Dt.ret (v.1, v.2.1, v.2.2.1, v.2.2.2.1, v.2.2.2.2.1, v.2.2.2.2.2.1, (IntKind.wrap .i64 (v.2.2.2.2.2.2.1 + (1:Int))), v.2.2.2.2.2.2.2.1, v.2.2.2.2.2.2.2.2.1, v.2.2.2.2.2.2.2.2.2))
theorem law34_ChaseFirst_g17 (C : law34_ChaseFirst_C) (v : law34_ChaseFirst_Y15) : treg tysT (orc (law34_ChaseFirst_tab C)) 265 (regO (bodyOf f3) 17) false [(1, .any), (4, (.box [.val Riii])), (6, .any), (9, .any), (16, (.val Riiii)), (18, (.val Riiii)), (20, (.val Riiii)), (22, .any), (23, .any)] (law34_ChaseFirst_S15 v) some = (law34_ChaseFirst_r17 C v).eval fun y => some (law34_ChaseFirst_S15 y) := by kernel_rfl
def law34_ChaseFirst_J2  (d : Nat) (self1 : (Int × Bool × List Diiii × List Diiii × List Diiii × Int × Int × List Diii × Int × Int) → Option law34_ChaseFirst_R) (z : Int × Bool × List Diiii × List Diiii × List Diiii × Int × Int × List Diii × Int × Int) : Option (law34_ChaseFirst_R) :=
  (law34_ChaseFirst_r17 (law34_ChaseFirst_K d) z).eval fun y17 =>
  self1 y17
def law34_ChaseFirst_r19 (C : law34_ChaseFirst_C) (v : law34_ChaseFirst_Y18) : Dt law34_ChaseFirst_Y15 := (Dt.ret (v.1, v.2.1, v.2.2.1, v.2.2.2.1, v.2.2.2.2.1, (IntKind.wrap .i64 (v.2.2.2.2.2.1 + (1:Int))), v.2.2.2.2.2.2.1, v.2.2.2.2.2.2.2.2.1, v.2.2.2.2.2.2.2.2.2.1, v.2.2.2.2.2.2.2.2.2.2))
theorem law34_ChaseFirst_g19 (C : law34_ChaseFirst_C) (v : law34_ChaseFirst_Y18) : treg tysT (orc (law34_ChaseFirst_tab C)) 265 (regO (bodyOf f3) 19) false [(1, .any), (4, (.box [.val Riii])), (6, .any), (9, .any), (16, (.val Riiii)), (18, (.val Riiii)), (20, (.val Riiii)), (22, .any), (23, .any)] (law34_ChaseFirst_S18 v) some = (law34_ChaseFirst_r19 C v).eval fun y => some (law34_ChaseFirst_S15 y) := by kernel_rfl
abbrev law34_ChaseFirst_Y20 : Type := Int × Bool × List Diiii × List Diiii × List Diiii × Int × Int × Int × List Diii × Int × Int
def law34_ChaseFirst_S20 (v : law34_ChaseFirst_Y20) : St := ⟨[(1, .int .i64 v.1), (4, .ptr 0 0), (6, .ptr 1 0), (9, .bool v.2.1), (16, .fz Riiii v.2.2.1), (18, .fz Riiii v.2.2.2.1), (20, .fz Riiii v.2.2.2.2.1), (22, .int .i64 v.2.2.2.2.2.1), (23, .int .i64 v.2.2.2.2.2.2.1), (24, .int .i64 v.2.2.2.2.2.2.2.1)], [.cells [.fz Riii v.2.2.2.2.2.2.2.2.1], .cells [.int .i64 v.2.2.2.2.2.2.2.2.2.1, .int .i64 v.2.2.2.2.2.2.2.2.2.2]]⟩
def law34_ChaseFirst_r20 (C : law34_ChaseFirst_C) (v : law34_ChaseFirst_Y15) : Dt law34_ChaseFirst_Y20 := (Dt.ret (v.1, v.2.1, v.2.2.1, v.2.2.2.1, v.2.2.2.2.1, v.2.2.2.2.2.1, v.2.2.2.2.2.2.1, (0:Int), v.2.2.2.2.2.2.2.1, v.2.2.2.2.2.2.2.2.1, v.2.2.2.2.2.2.2.2.2))
theorem law34_ChaseFirst_g20 (C : law34_ChaseFirst_C) (v : law34_ChaseFirst_Y15) : treg tysT (orc (law34_ChaseFirst_tab C)) 265 (regO (bodyOf f3) 20) false [(1, .any), (4, (.box [.val Riii])), (6, .any), (9, .any), (16, (.val Riiii)), (18, (.val Riiii)), (20, (.val Riiii)), (22, .any), (23, .any), (24, .any)] (law34_ChaseFirst_S15 v) some = (law34_ChaseFirst_r20 C v).eval fun y => some (law34_ChaseFirst_S20 y) := by kernel_rfl
abbrev law34_ChaseFirst_Y21 : Type := Int × Bool × List Diiii × List Diiii × List Diiii × Int × Int × Int × Int × List Diii × Int × Int
def law34_ChaseFirst_S21 (v : law34_ChaseFirst_Y21) : St := ⟨[(1, .int .i64 v.1), (4, .ptr 0 0), (6, .ptr 1 0), (9, .bool v.2.1), (16, .fz Riiii v.2.2.1), (18, .fz Riiii v.2.2.2.1), (20, .fz Riiii v.2.2.2.2.1), (22, .int .i64 v.2.2.2.2.2.1), (23, .int .i64 v.2.2.2.2.2.2.1), (24, .int .i64 v.2.2.2.2.2.2.2.1), (25, .int .i64 v.2.2.2.2.2.2.2.2.1)], [.cells [.fz Riii v.2.2.2.2.2.2.2.2.2.1], .cells [.int .i64 v.2.2.2.2.2.2.2.2.2.2.1, .int .i64 v.2.2.2.2.2.2.2.2.2.2.2]]⟩
def law34_ChaseFirst_r21 (C : law34_ChaseFirst_C) (v : law34_ChaseFirst_Y20) : Dt law34_ChaseFirst_Y21 := (Dt.ret (v.1, v.2.1, v.2.2.1, v.2.2.2.1, v.2.2.2.2.1, v.2.2.2.2.2.1, v.2.2.2.2.2.2.1, v.2.2.2.2.2.2.2.1, (0:Int), v.2.2.2.2.2.2.2.2.1, v.2.2.2.2.2.2.2.2.2.1, v.2.2.2.2.2.2.2.2.2.2))
theorem law34_ChaseFirst_g21 (C : law34_ChaseFirst_C) (v : law34_ChaseFirst_Y20) : treg tysT (orc (law34_ChaseFirst_tab C)) 265 (regO (bodyOf f3) 21) false [(1, .any), (4, (.box [.val Riii])), (6, .any), (9, .any), (16, (.val Riiii)), (18, (.val Riiii)), (20, (.val Riiii)), (22, .any), (23, .any), (24, .any), (25, .any)] (law34_ChaseFirst_S20 v) some = (law34_ChaseFirst_r21 C v).eval fun y => some (law34_ChaseFirst_S21 y) := by kernel_rfl
abbrev law34_ChaseFirst_Y22 : Type := Int × Bool × List Diiii × List Diiii × List Diiii × Int × Int × Int × Int × Bool × List Diii × Int × Int
def law34_ChaseFirst_S22 (v : law34_ChaseFirst_Y22) : St := ⟨[(1, .int .i64 v.1), (4, .ptr 0 0), (6, .ptr 1 0), (9, .bool v.2.1), (16, .fz Riiii v.2.2.1), (18, .fz Riiii v.2.2.2.1), (20, .fz Riiii v.2.2.2.2.1), (22, .int .i64 v.2.2.2.2.2.1), (23, .int .i64 v.2.2.2.2.2.2.1), (24, .int .i64 v.2.2.2.2.2.2.2.1), (25, .int .i64 v.2.2.2.2.2.2.2.2.1), (164, .bool v.2.2.2.2.2.2.2.2.2.1)], [.cells [.fz Riii v.2.2.2.2.2.2.2.2.2.2.1], .cells [.int .i64 v.2.2.2.2.2.2.2.2.2.2.2.1, .int .i64 v.2.2.2.2.2.2.2.2.2.2.2.2]]⟩
def law34_ChaseFirst_r22 (C : law34_ChaseFirst_C) (v : law34_ChaseFirst_Y21) : Dt law34_ChaseFirst_Y22 := (Dt.ret (v.1, v.2.1, v.2.2.1, v.2.2.2.1, v.2.2.2.2.1, v.2.2.2.2.2.1, v.2.2.2.2.2.2.1, v.2.2.2.2.2.2.2.1, v.2.2.2.2.2.2.2.2.1, (decide (v.2.2.2.2.2.2.2.2.1 < (List.length v.2.2.2.1 : Int))), v.2.2.2.2.2.2.2.2.2.1, v.2.2.2.2.2.2.2.2.2.2.1, v.2.2.2.2.2.2.2.2.2.2.2))
theorem law34_ChaseFirst_g22 (C : law34_ChaseFirst_C) (v : law34_ChaseFirst_Y21) : treg tysT (orc (law34_ChaseFirst_tab C)) 265 (regO (bodyOf f3) 22) false [(1, .any), (4, (.box [.val Riii])), (6, .any), (9, .any), (16, (.val Riiii)), (18, (.val Riiii)), (20, (.val Riiii)), (22, .any), (23, .any), (24, .any), (25, .any), (164, .any)] (law34_ChaseFirst_S21 v) some = (law34_ChaseFirst_r22 C v).eval fun y => some (law34_ChaseFirst_S22 y) := by kernel_rfl
abbrev law34_ChaseFirst_Y24 : Type := Int × Bool × List Diiii × List Diiii × List Diiii × Int × Int × Int × Int × Bool × List Diii × Int × Int
def law34_ChaseFirst_S24 (v : law34_ChaseFirst_Y24) : St := ⟨[(1, .int .i64 v.1), (4, .ptr 0 0), (6, .ptr 1 0), (9, .bool v.2.1), (16, .fz Riiii v.2.2.1), (18, .fz Riiii v.2.2.2.1), (20, .fz Riiii v.2.2.2.2.1), (22, .int .i64 v.2.2.2.2.2.1), (23, .int .i64 v.2.2.2.2.2.2.1), (24, .int .i64 v.2.2.2.2.2.2.2.1), (25, .int .i64 v.2.2.2.2.2.2.2.2.1), (175, .bool v.2.2.2.2.2.2.2.2.2.1)], [.cells [.fz Riii v.2.2.2.2.2.2.2.2.2.2.1], .cells [.int .i64 v.2.2.2.2.2.2.2.2.2.2.2.1, .int .i64 v.2.2.2.2.2.2.2.2.2.2.2.2]]⟩
def law34_ChaseFirst_r24 (C : law34_ChaseFirst_C) (v : law34_ChaseFirst_Y22) : Dt law34_ChaseFirst_Y24 := (Dt.ite (inB v.2.2.2.2.2.2.2.2.1 (List.length v.2.2.2.1)) (Dt.ite (inB v.2.2.2.2.2.2.1 (List.length v.2.2.1)) (Dt.ret (v.1, v.2.1, v.2.2.1, v.2.2.2.1, v.2.2.2.2.1, v.2.2.2.2.2.1, v.2.2.2.2.2.2.1, v.2.2.2.2.2.2.2.1, v.2.2.2.2.2.2.2.2.1, (((elt ziiii v.2.2.2.1 (v.2.2.2.2.2.2.2.2.1).toNat).1 == (elt ziiii v.2.2.1 (v.2.2.2.2.2.2.1).toNat).1) && (((elt ziiii v.2.2.2.1 (v.2.2.2.2.2.2.2.2.1).toNat).2.1 == (elt ziiii v.2.2.1 (v.2.2.2.2.2.2.1).toNat).2.1) && (((elt ziiii v.2.2.2.1 (v.2.2.2.2.2.2.2.2.1).toNat).2.2.1 == (elt ziiii v.2.2.1 (v.2.2.2.2.2.2.1).toNat).2.2.1) && (((elt ziiii v.2.2.2.1 (v.2.2.2.2.2.2.2.2.1).toNat).2.2.2.1 == (elt ziiii v.2.2.1 (v.2.2.2.2.2.2.1).toNat).2.2.2.1) && true)))), v.2.2.2.2.2.2.2.2.2.2.1, v.2.2.2.2.2.2.2.2.2.2.2.1, v.2.2.2.2.2.2.2.2.2.2.2.2)) Dt.fail) Dt.fail)
theorem law34_ChaseFirst_g24 (C : law34_ChaseFirst_C) (v : law34_ChaseFirst_Y22) : treg tysT (orc (law34_ChaseFirst_tab C)) 265 (regO (bodyOf f3) 24) true [(1, .any), (4, (.box [.val Riii])), (6, .any), (9, .any), (16, (.val Riiii)), (18, (.val Riiii)), (20, (.val Riiii)), (22, .any), (23, .any), (24, .any), (25, .any), (175, .any)] (law34_ChaseFirst_S22 v) some = (law34_ChaseFirst_r24 C v).eval fun y => some (law34_ChaseFirst_S24 y) := by kernel_rfl
def law34_ChaseFirst_r25 (C : law34_ChaseFirst_C) (v : law34_ChaseFirst_Y24) : Dt law34_ChaseFirst_Y21 := (Dt.ret (v.1, v.2.1, v.2.2.1, v.2.2.2.1, v.2.2.2.2.1, v.2.2.2.2.2.1, v.2.2.2.2.2.2.1, (IntKind.wrap .i64 (v.2.2.2.2.2.2.2.1 + (1:Int))), v.2.2.2.2.2.2.2.2.1, v.2.2.2.2.2.2.2.2.2.2.1, v.2.2.2.2.2.2.2.2.2.2.2.1, v.2.2.2.2.2.2.2.2.2.2.2.2))
theorem law34_ChaseFirst_g25 (C : law34_ChaseFirst_C) (v : law34_ChaseFirst_Y24) : treg tysT (orc (law34_ChaseFirst_tab C)) 265 (regO (bodyOf f3) 25) false [(1, .any), (4, (.box [.val Riii])), (6, .any), (9, .any), (16, (.val Riiii)), (18, (.val Riiii)), (20, (.val Riiii)), (22, .any), (23, .any), (24, .any), (25, .any)] (law34_ChaseFirst_S24 v) some = (law34_ChaseFirst_r25 C v).eval fun y => some (law34_ChaseFirst_S21 y) := by kernel_rfl
def law34_ChaseFirst_r23 (C : law34_ChaseFirst_C) (v : law34_ChaseFirst_Y21) : Dt law34_ChaseFirst_Y21 := (Dt.ret (v.1, v.2.1, v.2.2.1, v.2.2.2.1, v.2.2.2.2.1, v.2.2.2.2.2.1, v.2.2.2.2.2.2.1, v.2.2.2.2.2.2.2.1, (IntKind.wrap .i64 (v.2.2.2.2.2.2.2.2.1 + (1:Int))), v.2.2.2.2.2.2.2.2.2.1, v.2.2.2.2.2.2.2.2.2.2.1, v.2.2.2.2.2.2.2.2.2.2.2))
theorem law34_ChaseFirst_g23 (C : law34_ChaseFirst_C) (v : law34_ChaseFirst_Y21) : treg tysT (orc (law34_ChaseFirst_tab C)) 265 (regO (bodyOf f3) 23) false [(1, .any), (4, (.box [.val Riii])), (6, .any), (9, .any), (16, (.val Riiii)), (18, (.val Riiii)), (20, (.val Riiii)), (22, .any), (23, .any), (24, .any), (25, .any)] (law34_ChaseFirst_S21 v) some = (law34_ChaseFirst_r23 C v).eval fun y => some (law34_ChaseFirst_S21 y) := by kernel_rfl
def law34_ChaseFirst_J4  (d : Nat) (self1 : (Int × Bool × List Diiii × List Diiii × List Diiii × Int × Int × List Diii × Int × Int) → Option law34_ChaseFirst_R) (self3 : (Int × Bool × List Diiii × List Diiii × List Diiii × Int × Int × Int × Int × List Diii × Int × Int) → Option law34_ChaseFirst_R) (z : Int × Bool × List Diiii × List Diiii × List Diiii × Int × Int × Int × Int × List Diii × Int × Int) : Option (law34_ChaseFirst_R) :=
  (law34_ChaseFirst_r23 (law34_ChaseFirst_K d) z).eval fun y23 =>
  self3 y23
abbrev law34_ChaseFirst_Y26 : Type := Int × Bool × List Diiii × List Diiii × List Diiii × Int × Int × Bool × List Diii × Int × Int
def law34_ChaseFirst_S26 (v : law34_ChaseFirst_Y26) : St := ⟨[(1, .int .i64 v.1), (4, .ptr 0 0), (6, .ptr 1 0), (9, .bool v.2.1), (16, .fz Riiii v.2.2.1), (18, .fz Riiii v.2.2.2.1), (20, .fz Riiii v.2.2.2.2.1), (22, .int .i64 v.2.2.2.2.2.1), (23, .int .i64 v.2.2.2.2.2.2.1), (179, .bool v.2.2.2.2.2.2.2.1)], [.cells [.fz Riii v.2.2.2.2.2.2.2.2.1], .cells [.int .i64 v.2.2.2.2.2.2.2.2.2.1, .int .i64 v.2.2.2.2.2.2.2.2.2.2]]⟩
def law34_ChaseFirst_r26 (C : law34_ChaseFirst_C) (v : law34_ChaseFirst_Y22) : Dt law34_ChaseFirst_Y26 := (Dt.ret (v.1, v.2.1, v.2.2.1, v.2.2.2.1, v.2.2.2.2.1, v.2.2.2.2.2.1, v.2.2.2.2.2.2.1, (v.2.2.2.2.2.2.2.1 != (1:Int)), v.2.2.2.2.2.2.2.2.2.2.1, v.2.2.2.2.2.2.2.2.2.2.2.1, v.2.2.2.2.2.2.2.2.2.2.2.2))
theorem law34_ChaseFirst_g26 (C : law34_ChaseFirst_C) (v : law34_ChaseFirst_Y22) : treg tysT (orc (law34_ChaseFirst_tab C)) 265 (regO (bodyOf f3) 26) false [(1, .any), (4, (.box [.val Riii])), (6, .any), (9, .any), (16, (.val Riiii)), (18, (.val Riiii)), (20, (.val Riiii)), (22, .any), (23, .any), (179, .any)] (law34_ChaseFirst_S22 v) some = (law34_ChaseFirst_r26 C v).eval fun y => some (law34_ChaseFirst_S26 y) := by kernel_rfl
def law34_ChaseFirst_r27 (C : law34_ChaseFirst_C) (v : law34_ChaseFirst_Y26) : Dt law34_ChaseFirst_Y3 := (Dt.ret false)
theorem law34_ChaseFirst_g27 (C : law34_ChaseFirst_C) (v : law34_ChaseFirst_Y26) : treg tysT (orc (law34_ChaseFirst_tab C)) 265 (regO (bodyOf f3) 27) false [(8, .any)] (law34_ChaseFirst_S26 v) some = (law34_ChaseFirst_r27 C v).eval fun y => some (law34_ChaseFirst_S3 y) := by kernel_rfl
def law34_ChaseFirst_L3 (d : Nat) (self1 : (Int × Bool × List Diiii × List Diiii × List Diiii × Int × Int × List Diii × Int × Int) → Option law34_ChaseFirst_R) (self3 : (Int × Bool × List Diiii × List Diiii × List Diiii × Int × Int × Int × Int × List Diii × Int × Int) → Option law34_ChaseFirst_R) (x3 : Int × Bool × List Diiii × List Diiii × List Diiii × Int × Int × Int × Int × List Diii × Int × Int) : Option law34_ChaseFirst_R :=
  (law34_ChaseFirst_r22 (law34_ChaseFirst_K d) x3).eval fun y22 =>
  bif y22.2.2.2.2.2.2.2.2.2.1 then ((law34_ChaseFirst_r24 (law34_ChaseFirst_K d) y22).eval fun y24 =>
  bif y24.2.2.2.2.2.2.2.2.2.1 then ((law34_ChaseFirst_r25 (law34_ChaseFirst_K d) y24).eval fun y25 =>
  law34_ChaseFirst_J4 d self1 self3 y25) else (law34_ChaseFirst_J4 d self1 self3 (y24.1, y24.2.1, y24.2.2.1, y24.2.2.2.1, y24.2.2.2.2.1, y24.2.2.2.2.2.1, y24.2.2.2.2.2.2.1, y24.2.2.2.2.2.2.2.1, y24.2.2.2.2.2.2.2.2.1, y24.2.2.2.2.2.2.2.2.2.2.1, y24.2.2.2.2.2.2.2.2.2.2.2.1, y24.2.2.2.2.2.2.2.2.2.2.2.2))) else ((law34_ChaseFirst_r26 (law34_ChaseFirst_K d) y22).eval fun y26 =>
  bif y26.2.2.2.2.2.2.2.1 then ((law34_ChaseFirst_r27 (law34_ChaseFirst_K d) y26).eval fun y27 =>
  some y27) else (law34_ChaseFirst_J2 d self1 (y26.1, y26.2.1, y26.2.2.1, y26.2.2.2.1, y26.2.2.2.2.1, y26.2.2.2.2.2.1, y26.2.2.2.2.2.2.1, y26.2.2.2.2.2.2.2.2.1, y26.2.2.2.2.2.2.2.2.2.1, y26.2.2.2.2.2.2.2.2.2.2)))
abbrev law34_ChaseFirst_Y28 : Type := Int × Bool × List Diiii × List Diiii × Int × Int × List Diii × Int × Int
def law34_ChaseFirst_S28 (v : law34_ChaseFirst_Y28) : St := ⟨[(1, .int .i64 v.1), (4, .ptr 0 0), (6, .ptr 1 0), (9, .bool v.2.1), (18, .fz Riiii v.2.2.1), (20, .fz Riiii v.2.2.2.1), (22, .int .i64 v.2.2.2.2.1), (26, .int .i64 v.2.2.2.2.2.1)], [.cells [.fz Riii v.2.2.2.2.2.2.1], .cells [.int .i64 v.2.2.2.2.2.2.2.1, .int .i64 v.2.2.2.2.2.2.2.2]]⟩
def law34_ChaseFirst_r28 (C : law34_ChaseFirst_C) (v : law34_ChaseFirst_Y16) : Dt law34_ChaseFirst_Y28 := (Dt.ret (v.1, v.2.1, v.2.2.2.1, v.2.2.2.2.1, v.2.2.2.2.2.1, (1:Int), v.2.2.2.2.2.2.2.2.1, v.2.2.2.2.2.2.2.2.2.1, v.2.2.2.2.2.2.2.2.2.2))
theorem law34_ChaseFirst_g28 (C : law34_ChaseFirst_C) (v : law34_ChaseFirst_Y16) : treg tysT (orc (law34_ChaseFirst_tab C)) 265 (regO (bodyOf f3) 28) false [(1, .any), (4, (.box [.val Riii])), (6, .any), (9, .any), (18, (.val Riiii)), (20, (.val Riiii)), (22, .any), (26, .any)] (law34_ChaseFirst_S16 v) some = (law34_ChaseFirst_r28 C v).eval fun y => some (law34_ChaseFirst_S28 y) := by kernel_rfl
abbrev law34_ChaseFirst_Y29 : Type := Int × Bool × List Diiii × List Diiii × Int × Int × Bool × List Diii × Int × Int
def law34_ChaseFirst_S29 (v : law34_ChaseFirst_Y29) : St := ⟨[(1, .int .i64 v.1), (4, .ptr 0 0), (6, .ptr 1 0), (9, .bool v.2.1), (18, .fz Riiii v.2.2.1), (20, .fz Riiii v.2.2.2.1), (22, .int .i64 v.2.2.2.2.1), (26, .int .i64 v.2.2.2.2.2.1), (183, .bool v.2.2.2.2.2.2.1)], [.cells [.fz Riii v.2.2.2.2.2.2.2.1], .cells [.int .i64 v.2.2.2.2.2.2.2.2.1, .int .i64 v.2.2.2.2.2.2.2.2.2]]⟩
def law34_ChaseFirst_r29 (C : law34_ChaseFirst_C) (v : law34_ChaseFirst_Y28) : Dt law34_ChaseFirst_Y29 := (Dt.ret (v.1, v.2.1, v.2.2.1, v.2.2.2.1, v.2.2.2.2.1, v.2.2.2.2.2.1, (decide (v.2.2.2.2.2.1 < (List.length v.2.2.1 : Int))), v.2.2.2.2.2.2.1, v.2.2.2.2.2.2.2.1, v.2.2.2.2.2.2.2.2))
theorem law34_ChaseFirst_g29 (C : law34_ChaseFirst_C) (v : law34_ChaseFirst_Y28) : treg tysT (orc (law34_ChaseFirst_tab C)) 265 (regO (bodyOf f3) 29) false [(1, .any), (4, (.box [.val Riii])), (6, .any), (9, .any), (18, (.val Riiii)), (20, (.val Riiii)), (22, .any), (26, .any), (183, .any)] (law34_ChaseFirst_S28 v) some = (law34_ChaseFirst_r29 C v).eval fun y => some (law34_ChaseFirst_S29 y) := by kernel_rfl
abbrev law34_ChaseFirst_Y31 : Type := Int × Bool × List Diiii × List Diiii × Int × Int × Int × List Diii × Int × Int
def law34_ChaseFirst_S31 (v : law34_ChaseFirst_Y31) : St := ⟨[(1, .int .i64 v.1), (4, .ptr 0 0), (6, .ptr 1 0), (9, .bool v.2.1), (18, .fz Riiii v.2.2.1), (20, .fz Riiii v.2.2.2.1), (22, .int .i64 v.2.2.2.2.1), (26, .int .i64 v.2.2.2.2.2.1), (27, .int .i64 v.2.2.2.2.2.2.1)], [.cells [.fz Riii v.2.2.2.2.2.2.2.1], .cells [.int .i64 v.2.2.2.2.2.2.2.2.1, .int .i64 v.2.2.2.2.2.2.2.2.2]]⟩
def law34_ChaseFirst_r31 (C : law34_ChaseFirst_C) (v : law34_ChaseFirst_Y29) : Dt law34_ChaseFirst_Y31 := (Dt.ite (inB (IntKind.wrap .i64 (v.2.2.2.2.2.1 - (1:Int))) (List.length v.2.2.1)) (Dt.ite (inB v.2.2.2.2.2.1 (List.length v.2.2.1)) (Dt.bnd (C.2.2.2.2.1 (((elt ziiii v.2.2.1 ((IntKind.wrap .i64 (v.2.2.2.2.2.1 - (1:Int)))).toNat).1, (elt ziiii v.2.2.1 ((IntKind.wrap .i64 (v.2.2.2.2.2.1 - (1:Int)))).toNat).2.1, ()), ((elt ziiii v.2.2.1 (v.2.2.2.2.2.1).toNat).1, (elt ziiii v.2.2.1 (v.2.2.2.2.2.1).toNat).2.1, ()), ())) fun r1 => (Dt.ret (v.1, v.2.1, v.2.2.1, v.2.2.2.1, v.2.2.2.2.1, v.2.2.2.2.2.1, r1, v.2.2.2.2.2.2.2.1, v.2.2.2.2.2.2.2.2.1, v.2.2.2.2.2.2.2.2.2))) Dt.fail) Dt.fail)
theorem law34_ChaseFirst_g31 (C : law34_ChaseFirst_C) (v : law34_ChaseFirst_Y29) : treg tysT (orc (law34_ChaseFirst_tab C)) 265 (regO (bodyOf f3) 31) true [(1, .any), (4, (.box [.val Riii])), (6, .any), (9, .any), (18, (.val Riiii)), (20, (.val Riiii)), (22, .any), (26, .any), (27, .any)] (law34_ChaseFirst_S29 v) some = (law34_ChaseFirst_r31 C v).eval fun y => some (law34_ChaseFirst_S31 y) := by kernel_rfl
abbrev law34_ChaseFirst_Y32 : Type := Int × Bool × List Diiii × List Diiii × Int × Int × Bool × List Diii × Int × Int
def law34_ChaseFirst_S32 (v : law34_ChaseFirst_Y32) : St := ⟨[(1, .int .i64 v.1), (4, .ptr 0 0), (6, .ptr 1 0), (9, .bool v.2.1), (18, .fz Riiii v.2.2.1), (20, .fz Riiii v.2.2.2.1), (22, .int .i64 v.2.2.2.2.1), (26, .int .i64 v.2.2.2.2.2.1), (219, .bool v.2.2.2.2.2.2.1)], [.cells [.fz Riii v.2.2.2.2.2.2.2.1], .cells [.int .i64 v.2.2.2.2.2.2.2.2.1, .int .i64 v.2.2.2.2.2.2.2.2.2]]⟩
def law34_ChaseFirst_r32 (C : law34_ChaseFirst_C) (v : law34_ChaseFirst_Y31) : Dt law34_ChaseFirst_Y32 := (Dt.ite (decide (v.2.2.2.2.2.2.1 > (0:Int))) (Dt.ret (v.1, v.2.1, v.2.2.1, v.2.2.2.1, v.2.2.2.2.1, v.2.2.2.2.2.1, true, v.2.2.2.2.2.2.2.1, v.2.2.2.2.2.2.2.2.1, v.2.2.2.2.2.2.2.2.2)) (Dt.ite (v.2.2.2.2.2.2.1 == (0:Int)) (Dt.ite (inB (IntKind.wrap .i64 (v.2.2.2.2.2.1 - (1:Int))) (List.length v.2.2.1)) (Dt.bnd (C.2.2.2.2.2.2.2.2.1 (((elt ziiii v.2.2.1 ((IntKind.wrap .i64 (v.2.2.2.2.2.1 - (1:Int)))).toNat).1, (elt ziiii v.2.2.1 ((IntKind.wrap .i64 (v.2.2.2.2.2.1 - (1:Int)))).toNat).2.1, (elt ziiii v.2.2.1 ((IntKind.wrap .i64 (v.2.2.2.2.2.1 - (1:Int)))).toNat).2.2.1, (elt ziiii v.2.2.1 ((IntKind.wrap .i64 (v.2.2.2.2.2.1 - (1:Int)))).toNat).2.2.2.1, ()), (v.1, ()), ())) fun r1 => (Dt.ite (inB v.2.2.2.2.2.1 (List.length v.2.2.1)) (Dt.bnd (C.2.2.2.2.2.2.2.2.1 (((elt ziiii v.2.2.1 (v.2.2.2.2.2.1).toNat).1, (elt ziiii v.2.2.1 (v.2.2.2.2.2.1).toNat).2.1, (elt ziiii v.2.2.1 (v.2.2.2.2.2.1).toNat).2.2.1, (elt ziiii v.2.2.1 (v.2.2.2.2.2.1).toNat).2.2.2.1, ()), (v.1, ()), ())) fun r2 => (Dt.ret (v.1, v.2.1, v.2.2.1, v.2.2.2.1, v.2.2.2.2.1, v.2.2.2.2.2.1, (decide (r1 ≥ r2)), v.2.2.2.2.2.2.2.1, v.2.2.2.2.2.2.2.2.1, v.2.2.2.2.2.2.2.2.2))) Dt.fail)) Dt.fail) (Dt.ret (v.1, v.2.1, v.2.2.1, v.2.2.2.1, v.2.2.2.2.1, v.2.2.2.2.2.1, false, v.2.2.2.2.2.2.2.1, v.2.2.2.2.2.2.2.2.1, v.2.2.2.2.2.2.2.2.2))))
theorem law34_ChaseFirst_g32 (C : law34_ChaseFirst_C) (v : law34_ChaseFirst_Y31) : treg tysT (orc (law34_ChaseFirst_tab C)) 265 (regO (bodyOf f3) 32) true [(1, .any), (4, (.box [.val Riii])), (6, .any), (9, .any), (18, (.val Riiii)), (20, (.val Riiii)), (22, .any), (26, .any), (219, .any)] (law34_ChaseFirst_S31 v) some = (law34_ChaseFirst_r32 C v).eval fun y => some (law34_ChaseFirst_S32 y) := by kernel_rfl
def law34_ChaseFirst_r33 (C : law34_ChaseFirst_C) (v : law34_ChaseFirst_Y32) : Dt law34_ChaseFirst_Y3 := (Dt.ret false)
theorem law34_ChaseFirst_g33 (C : law34_ChaseFirst_C) (v : law34_ChaseFirst_Y32) : treg tysT (orc (law34_ChaseFirst_tab C)) 265 (regO (bodyOf f3) 33) false [(8, .any)] (law34_ChaseFirst_S32 v) some = (law34_ChaseFirst_r33 C v).eval fun y => some (law34_ChaseFirst_S3 y) := by kernel_rfl
def law34_ChaseFirst_r30 (C : law34_ChaseFirst_C) (v : law34_ChaseFirst_Y32) : Dt law34_ChaseFirst_Y28 := (Dt.ret (v.1, v.2.1, v.2.2.1, v.2.2.2.1, v.2.2.2.2.1, (IntKind.wrap .i64 (v.2.2.2.2.2.1 + (1:Int))), v.2.2.2.2.2.2.2.1, v.2.2.2.2.2.2.2.2.1, v.2.2.2.2.2.2.2.2.2))
theorem law34_ChaseFirst_g30 (C : law34_ChaseFirst_C) (v : law34_ChaseFirst_Y32) : treg tysT (orc (law34_ChaseFirst_tab C)) 265 (regO (bodyOf f3) 30) false [(1, .any), (4, (.box [.val Riii])), (6, .any), (9, .any), (18, (.val Riiii)), (20, (.val Riiii)), (22, .any), (26, .any)] (law34_ChaseFirst_S32 v) some = (law34_ChaseFirst_r30 C v).eval fun y => some (law34_ChaseFirst_S28 y) := by kernel_rfl
abbrev law34_ChaseFirst_Y34 : Type := Bool × List Diiii × List Diiii × Int × Int × Int × Int × Int × Int
def law34_ChaseFirst_S34 (v : law34_ChaseFirst_Y34) : St := ⟨[(9, .bool v.1), (18, .fz Riiii v.2.1), (20, .fz Riiii v.2.2.1), (22, .int .i64 v.2.2.2.1), (28, .ptr 0 0), (29, .int .i64 v.2.2.2.2.1)], [.cells [.int .i64 v.2.2.2.2.2.1, .int .i64 v.2.2.2.2.2.2.1, .int .i64 v.2.2.2.2.2.2.2.1, .int .i64 v.2.2.2.2.2.2.2.2]]⟩
def law34_ChaseFirst_r34 (C : law34_ChaseFirst_C) (v : law34_ChaseFirst_Y29) : Dt law34_ChaseFirst_Y34 := (Dt.bnd (C.2.2.2.2.2.1 ((v.2.2.2.2.2.2.2.1, ()), (v.1, ()), (v.2.2.2.2.2.2.2.2.1, v.2.2.2.2.2.2.2.2.2, ()), ())) fun r1 => (Dt.ret (v.2.1, v.2.2.1, v.2.2.2.1, v.2.2.2.2.1, r1.2.2.2.2, r1.1, r1.2.1, r1.2.2.1, r1.2.2.2.1)))
theorem law34_ChaseFirst_g34 (C : law34_ChaseFirst_C) (v : law34_ChaseFirst_Y29) : treg tysT (orc (law34_ChaseFirst_tab C)) 265 (regO (bodyOf f3) 34) false [(9, .any), (18, (.val Riiii)), (20, (.val Riiii)), (22, .any), (28, .any), (29, .any)] (law34_ChaseFirst_S29 v) some = (law34_ChaseFirst_r34 C v).eval fun y => some (law34_ChaseFirst_S34 y) := by kernel_rfl
abbrev law34_ChaseFirst_Y35 : Type := Bool × List Diiii × List Diiii × Int × Int × Bool × Int × Int × Int × Int
def law34_ChaseFirst_S35 (v : law34_ChaseFirst_Y35) : St := ⟨[(9, .bool v.1), (18, .fz Riiii v.2.1), (20, .fz Riiii v.2.2.1), (22, .int .i64 v.2.2.2.1), (28, .ptr 0 0), (29, .int .i64 v.2.2.2.2.1), (229, .bool v.2.2.2.2.2.1)], [.cells [.int .i64 v.2.2.2.2.2.2.1, .int .i64 v.2.2.2.2.2.2.2.1, .int .i64 v.2.2.2.2.2.2.2.2.1, .int .i64 v.2.2.2.2.2.2.2.2.2]]⟩
def law34_ChaseFirst_r35 (C : law34_ChaseFirst_C) (v : law34_ChaseFirst_Y34) : Dt law34_ChaseFirst_Y35 := (Dt.ret (v.1, v.2.1, v.2.2.1, v.2.2.2.1, v.2.2.2.2.1, ((List.length v.2.1 : Int) == (0:Int)), v.2.2.2.2.2.1, v.2.2.2.2.2.2.1, v.2.2.2.2.2.2.2.1, v.2.2.2.2.2.2.2.2))
theorem law34_ChaseFirst_g35 (C : law34_ChaseFirst_C) (v : law34_ChaseFirst_Y34) : treg tysT (orc (law34_ChaseFirst_tab C)) 265 (regO (bodyOf f3) 35) false [(9, .any), (18, (.val Riiii)), (20, (.val Riiii)), (22, .any), (28, .any), (29, .any), (229, .any)] (law34_ChaseFirst_S34 v) some = (law34_ChaseFirst_r35 C v).eval fun y => some (law34_ChaseFirst_S35 y) := by kernel_rfl
def law34_ChaseFirst_r36 (C : law34_ChaseFirst_C) (v : law34_ChaseFirst_Y35) : Dt law34_ChaseFirst_Y3 := (Dt.ite v.1 (Dt.ite (v.2.2.2.1 == (0:Int)) (Dt.ret (v.2.2.2.2.1 == (6:Int))) (Dt.ret false)) (Dt.ret false))
theorem law34_ChaseFirst_g36 (C : law34_ChaseFirst_C) (v : law34_ChaseFirst_Y35) : treg tysT (orc (law34_ChaseFirst_tab C)) 265 (regO (bodyOf f3) 36) false [(8, .any)] (law34_ChaseFirst_S35 v) some = (law34_ChaseFirst_r36 C v).eval fun y => some (law34_ChaseFirst_S3 y) := by kernel_rfl
def law34_ChaseFirst_r37 (C : law34_ChaseFirst_C) (v : law34_ChaseFirst_Y35) : Dt law34_ChaseFirst_Y3 := (Dt.ite v.1 (Dt.ite (v.2.2.2.1 == (List.length v.2.1 : Int)) (Dt.ite (decide (0 ≤ (List.length v.2.2.1 : Int)) && decide ((List.length v.2.2.1 : Int) ≤ (List.length v.2.1 : Int))) (Dt.bnd (C.2.2.2.2.2.2.2.2.2.1 ((v.2.2.1, ()), ((List.take ((List.length v.2.2.1 : Int)).toNat v.2.1), ()), ())) fun r1 => (Dt.ite r1 (Dt.ite (v.2.2.2.2.1 == (0:Int)) (Dt.ite (inB (0:Int) (List.length v.2.1)) (Dt.ret ((v.2.2.2.2.2.2.1 == (elt ziiii v.2.1 ((0:Int)).toNat).1) && ((v.2.2.2.2.2.2.2.1 == (elt ziiii v.2.1 ((0:Int)).toNat).2.1) && ((v.2.2.2.2.2.2.2.2.1 == (elt ziiii v.2.1 ((0:Int)).toNat).2.2.1) && ((v.2.2.2.2.2.2.2.2.2 == (elt ziiii v.2.1 ((0:Int)).toNat).2.2.2.1) && true))))) Dt.fail) (Dt.ret false)) (Dt.ret false))) Dt.fail) (Dt.ret false)) (Dt.ret false))
theorem law34_ChaseFirst_g37 (C : law34_ChaseFirst_C) (v : law34_ChaseFirst_Y35) : treg tysT (orc (law34_ChaseFirst_tab C)) 265 (regO (bodyOf f3) 37) true [(8, .any)] (law34_ChaseFirst_S35 v) some = (law34_ChaseFirst_r37 C v).eval fun y => some (law34_ChaseFirst_S3 y) := by kernel_rfl
def law34_ChaseFirst_L5 (d : Nat) (self5 : (Int × Bool × List Diiii × List Diiii × Int × Int × List Diii × Int × Int) → Option law34_ChaseFirst_R) (x5 : Int × Bool × List Diiii × List Diiii × Int × Int × List Diii × Int × Int) : Option law34_ChaseFirst_R :=
  (law34_ChaseFirst_r29 (law34_ChaseFirst_K d) x5).eval fun y29 =>
  bif y29.2.2.2.2.2.2.1 then ((law34_ChaseFirst_r31 (law34_ChaseFirst_K d) y29).eval fun y31 =>
  (law34_ChaseFirst_r32 (law34_ChaseFirst_K d) y31).eval fun y32 =>
  bif y32.2.2.2.2.2.2.1 then ((law34_ChaseFirst_r33 (law34_ChaseFirst_K d) y32).eval fun y33 =>
  some y33) else ((law34_ChaseFirst_r30 (law34_ChaseFirst_K d) y32).eval fun y30 =>
  self5 y30)) else ((law34_ChaseFirst_r34 (law34_ChaseFirst_K d) y29).eval fun y34 =>
  (law34_ChaseFirst_r35 (law34_ChaseFirst_K d) y34).eval fun y35 =>
  bif y35.2.2.2.2.2.1 then ((law34_ChaseFirst_r36 (law34_ChaseFirst_K d) y35).eval fun y36 =>
  some y36) else ((law34_ChaseFirst_r37 (law34_ChaseFirst_K d) y35).eval fun y37 =>
  some y37))
def law34_ChaseFirst_L1 (d : Nat) (self1 : (Int × Bool × List Diiii × List Diiii × List Diiii × Int × Int × List Diii × Int × Int) → Option law34_ChaseFirst_R) (x1 : Int × Bool × List Diiii × List Diiii × List Diiii × Int × Int × List Diii × Int × Int) : Option law34_ChaseFirst_R :=
  (law34_ChaseFirst_r16 (law34_ChaseFirst_K d) x1).eval fun y16 =>
  bif y16.2.2.2.2.2.2.2.1 then ((law34_ChaseFirst_r18 (law34_ChaseFirst_K d) y16).eval fun y18 =>
  bif y18.2.2.2.2.2.2.2.1 then (law34_ChaseFirst_J2 d self1 (y18.1, y18.2.1, y18.2.2.1, y18.2.2.2.1, y18.2.2.2.2.1, y18.2.2.2.2.2.1, y18.2.2.2.2.2.2.1, y18.2.2.2.2.2.2.2.2.1, y18.2.2.2.2.2.2.2.2.2.1, y18.2.2.2.2.2.2.2.2.2.2)) else ((law34_ChaseFirst_r19 (law34_ChaseFirst_K d) y18).eval fun y19 =>
  (law34_ChaseFirst_r20 (law34_ChaseFirst_K d) y19).eval fun y20 =>
  (law34_ChaseFirst_r21 (law34_ChaseFirst_K d) y20).eval fun y21 =>
  iter (law34_ChaseFirst_L3 d self1) d y21)) else ((law34_ChaseFirst_r28 (law34_ChaseFirst_K d) y16).eval fun y28 =>
  iter (law34_ChaseFirst_L5 d ) d y28)
def F_law34_ChaseFirst (d : Nat) (x : law34_ChaseFirst_X) : Option law34_ChaseFirst_R :=
  (law34_ChaseFirst_r0 (law34_ChaseFirst_K d) (x.1.1, x.2.1.1, x.2.2.1.1, x.2.2.1.2.1, x.2.2.2.1.1)).eval fun y0 =>
  (law34_ChaseFirst_r1 (law34_ChaseFirst_K d) y0).eval fun y1 =>
  (law34_ChaseFirst_r2 (law34_ChaseFirst_K d) y1).eval fun y2 =>
  bif y2.2.2.2.1 then ((law34_ChaseFirst_r3 (law34_ChaseFirst_K d) y2).eval fun y3 =>
  some y3) else ((law34_ChaseFirst_r4 (law34_ChaseFirst_K d) y2).eval fun y4 =>
  (law34_ChaseFirst_r5 (law34_ChaseFirst_K d) y4).eval fun y5 =>
  bif y5.2.2.2.1 then ((law34_ChaseFirst_r6 (law34_ChaseFirst_K d) y5).eval fun y6 =>
  (law34_ChaseFirst_r7 (law34_ChaseFirst_K d) y6).eval fun y7 =>
  (law34_ChaseFirst_r8 (law34_ChaseFirst_K d) y7).eval fun y8 =>
  some y8) else ((law34_ChaseFirst_r9 (law34_ChaseFirst_K d) y5).eval fun y9 =>
  (law34_ChaseFirst_r10 (law34_ChaseFirst_K d) y9).eval fun y10 =>
  (law34_ChaseFirst_r11 (law34_ChaseFirst_K d) y10).eval fun y11 =>
  (law34_ChaseFirst_r12 (law34_ChaseFirst_K d) y11).eval fun y12 =>
  bif y12.2.2.2.2.2.1 then ((law34_ChaseFirst_r13 (law34_ChaseFirst_K d) y12).eval fun y13 =>
  some y13) else ((law34_ChaseFirst_r14 (law34_ChaseFirst_K d) y12).eval fun y14 =>
  (law34_ChaseFirst_r15 (law34_ChaseFirst_K d) y14).eval fun y15 =>
  iter (law34_ChaseFirst_L1 d ) d y15)))
theorem law34_ChaseFirst_cok (d : Nat) : COK prog (law34_ChaseFirst_sp (F_law34_ChaseFirst d)) := by
  have hm : prog.follows .mixedOrders = true := mixed
  have hT := tys
  have hC0 : OrcOK prog (orc (law34_ChaseFirst_tab (law34_ChaseFirst_K d))) := orc_ok (by
    intro S hS
    simp only [law34_ChaseFirst_tab, List.mem_cons, List.not_mem_nil, or_false] at hS
    rcases hS with rfl | rfl | rfl | rfl | rfl | rfl | rfl | rfl | rfl | rfl
    · exact law34_alive_cok d
    · exact law34_asked_cok d
    · exact meet_Last_cok d
    · exact ref01_Check_cok d
    · exact ref01_Compare_cok d
    · exact chase_Next_cok d
    · exact chase_Plan_cok d
    · exact meet_All_cok d
    · exact ref34_Other_cok d
    · exact ref04_Same_cok d)
  have hC : OrcOK prog (orc (law34_ChaseFirst_tab (law34_ChaseFirst_K d))) := hC0
  refine cok_of (c := bodyOf f3) (fn := f3) hT (by kernel_rfl) (by kernel_rfl) (by decide) fun x r h w0 φ0 Q hend => ?_
  replace h : F_law34_ChaseFirst d x = some r := h
  unfold F_law34_ChaseFirst at h
  show Run prog w0 φ0 265 (bodyOf f3) ⟨[(0, .agg [.fz Riii x.1.1]), (1, .int .i64 x.2.1.1), (2, .agg [.int .i64 x.2.2.1.1, .int .i64 x.2.2.1.2.1]), (3, .int .i64 x.2.2.2.1.1)], []⟩ Q
  refine run_seq ?_
  refine run_reg hm hT hC (law34_ChaseFirst_g0 (law34_ChaseFirst_K d) (x.1.1, x.2.1.1, x.2.2.1.1, x.2.2.1.2.1, x.2.2.2.1.1)) h ?_
  intro y0 h
  refine cn_then ?_
  refine run_seq ?_
  refine run_reg hm hT hC (law34_ChaseFirst_g1 (law34_ChaseFirst_K d) y0) h ?_
  intro y1 h
  refine cn_then ?_
  refine run_seq ?_
  refine run_seq ?_
  refine run_reg hm hT hC (law34_ChaseFirst_g2 (law34_ChaseFirst_K d) y1) h ?_
  intro y2 h
  refine cn_then ?_
  refine run_cond (v := y2.2.2.2.1) (by kernel_rfl) h ?_ ?_
  ·
    intro h
    refine run_seq ?_
    refine run_reg hm hT hC (law34_ChaseFirst_g3 (law34_ChaseFirst_K d) y2) h ?_
    intro y3 h
    refine cn_then ?_
    refine run_ret ?_
    refine cn_then_ret ?_
    cases h
    exact (hend _ (by kernel_rfl)).2
  ·
    intro h
    refine run_skip ?_
    refine cn_then ?_
    refine run_seq ?_
    refine run_reg hm hT hC (law34_ChaseFirst_g4 (law34_ChaseFirst_K d) y2) h ?_
    intro y4 h
    refine cn_then ?_
    refine run_seq ?_
    refine run_seq ?_
    refine run_reg hm hT hC (law34_ChaseFirst_g5 (law34_ChaseFirst_K d) y4) h ?_
    intro y5 h
    refine cn_then ?_
    refine run_cond (v := y5.2.2.2.1) (by kernel_rfl) h ?_ ?_
    ·
      intro h
      refine run_seq ?_
      refine run_reg hm hT hC (law34_ChaseFirst_g6 (law34_ChaseFirst_K d) y5) h ?_
      intro y6 h
      refine cn_then ?_
      refine run_seq ?_
      refine run_reg hm hT hC (law34_ChaseFirst_g7 (law34_ChaseFirst_K d) y6) h ?_
      intro y7 h
      refine cn_then ?_
      refine run_seq ?_
      refine run_reg hm hT hC (law34_ChaseFirst_g8 (law34_ChaseFirst_K d) y7) h ?_
      intro y8 h
      refine cn_then ?_
      refine run_ret ?_
      refine cn_then_ret ?_
      cases h
      exact (hend _ (by kernel_rfl)).2
    ·
      intro h
      refine run_skip ?_
      refine cn_then ?_
      refine run_seq ?_
      refine run_reg hm hT hC (law34_ChaseFirst_g9 (law34_ChaseFirst_K d) y5) h ?_
      intro y9 h
      refine cn_then ?_
      refine run_seq ?_
      refine run_reg hm hT hC (law34_ChaseFirst_g10 (law34_ChaseFirst_K d) y9) h ?_
      intro y10 h
      refine cn_then ?_
      refine run_seq ?_
      refine run_reg hm hT hC (law34_ChaseFirst_g11 (law34_ChaseFirst_K d) y10) h ?_
      intro y11 h
      refine cn_then ?_
      refine run_seq ?_
      refine run_seq ?_
      refine run_reg hm hT hC (law34_ChaseFirst_g12 (law34_ChaseFirst_K d) y11) h ?_
      intro y12 h
      refine cn_then ?_
      refine run_cond (v := y12.2.2.2.2.2.1) (by kernel_rfl) h ?_ ?_
      ·
        intro h
        refine run_seq ?_
        refine run_reg hm hT hC (law34_ChaseFirst_g13 (law34_ChaseFirst_K d) y12) h ?_
        intro y13 h
        refine cn_then ?_
        refine run_ret ?_
        refine cn_then_ret ?_
        cases h
        exact (hend _ (by kernel_rfl)).2
      ·
        intro h
        refine run_skip ?_
        refine cn_then ?_
        refine run_seq ?_
        refine run_reg hm hT hC (law34_ChaseFirst_g14 (law34_ChaseFirst_K d) y12) h ?_
        intro y14 h
        refine cn_then ?_
        refine run_seq ?_
        refine run_seq ?_
        refine run_reg hm hT hC (law34_ChaseFirst_g15 (law34_ChaseFirst_K d) y14) h ?_
        intro y15 h
        refine cn_then ?_
        refine run_block ?_
        refine run_loop (G := iter (law34_ChaseFirst_L1 d )) (S := (fun x1 => ⟨[(1, .int .i64 x1.1), (4, .ptr 0 0), (6, .ptr 1 0), (9, .bool x1.2.1), (16, .fz Riiii x1.2.2.1), (18, .fz Riiii x1.2.2.2.1), (20, .fz Riiii x1.2.2.2.2.1), (22, .int .i64 x1.2.2.2.2.2.1), (23, .int .i64 x1.2.2.2.2.2.2.1)], [.cells [.fz Riii x1.2.2.2.2.2.2.2.1], .cells [.int .i64 x1.2.2.2.2.2.2.2.2.1, .int .i64 x1.2.2.2.2.2.2.2.2.2]]⟩ : Int × Bool × List Diiii × List Diiii × List Diiii × Int × Int × List Diii × Int × Int → St)) (fun _ => rfl) ?_ d _ h
        intro n1 x1 h K1 hn1
        replace h : law34_ChaseFirst_L1 d  (iter (law34_ChaseFirst_L1 d ) n1) x1 = some r := h
        generalize iter (law34_ChaseFirst_L1 d ) n1 = self1 at h hn1
        unfold law34_ChaseFirst_L1 at h
        refine run_seq ?_
        refine run_seq ?_
        refine run_reg hm hT hC (law34_ChaseFirst_g16 (law34_ChaseFirst_K d) x1) h ?_
        intro y16 h
        refine cn_then ?_
        refine run_cond (v := y16.2.2.2.2.2.2.2.1) (by kernel_rfl) h ?_ ?_
        ·
          intro h
          refine run_skip ?_
          refine cn_then ?_
          refine run_join (r := r) (F := law34_ChaseFirst_J2 d self1) (S := (fun z => ⟨[(1, .int .i64 z.1), (4, .ptr 0 0), (6, .ptr 1 0), (9, .bool z.2.1), (16, .fz Riiii z.2.2.1), (18, .fz Riiii z.2.2.2.1), (20, .fz Riiii z.2.2.2.2.1), (22, .int .i64 z.2.2.2.2.2.1), (23, .int .i64 z.2.2.2.2.2.2.1)], [.cells [.fz Riii z.2.2.2.2.2.2.2.1], .cells [.int .i64 z.2.2.2.2.2.2.2.2.1, .int .i64 z.2.2.2.2.2.2.2.2.2]]⟩ : Int × Bool × List Diiii × List Diiii × List Diiii × Int × Int × List Diii × Int × Int → St)) ?_ ?_
          ·
            intro z h
            unfold law34_ChaseFirst_J2 at h
            refine run_reg hm hT hC (law34_ChaseFirst_g17 (law34_ChaseFirst_K d) z) h ?_
            intro y17 h
            exact hn1 _ h
          intro hj2
          refine run_block ?_
          refine run_seq ?_
          refine run_seq ?_
          refine run_reg hm hT hC (law34_ChaseFirst_g18 (law34_ChaseFirst_K d) y16) h ?_
          intro y18 h
          refine cn_then ?_
          refine run_cond (v := y18.2.2.2.2.2.2.2.1) (by kernel_rfl) h ?_ ?_
          ·
            intro h
            refine run_exit ?_
            refine cn_then_exit ?_
            refine cn_blk_eq ?_
            refine cn_num (s := ⟨[(1, .int .i64 y18.1), (4, .ptr 0 0), (6, .ptr 1 0), (9, .bool y18.2.1), (16, .fz Riiii y18.2.2.1), (18, .fz Riiii y18.2.2.2.1), (20, .fz Riiii y18.2.2.2.2.1), (22, .int .i64 y18.2.2.2.2.2.1), (23, .int .i64 y18.2.2.2.2.2.2.1)], [.cells [.fz Riii y18.2.2.2.2.2.2.2.2.1], .cells [.int .i64 y18.2.2.2.2.2.2.2.2.2.1, .int .i64 y18.2.2.2.2.2.2.2.2.2.2]]⟩) [158] (by kernel_rfl) ?_
            exact hj2 _ h
          ·
            intro h
            refine run_skip ?_
            refine cn_then ?_
            refine run_seq ?_
            refine run_reg hm hT hC (law34_ChaseFirst_g19 (law34_ChaseFirst_K d) y18) h ?_
            intro y19 h
            refine cn_then ?_
            refine run_seq ?_
            refine run_reg hm hT hC (law34_ChaseFirst_g20 (law34_ChaseFirst_K d) y19) h ?_
            intro y20 h
            refine cn_then ?_
            refine run_seq ?_
            refine run_seq ?_
            refine run_reg hm hT hC (law34_ChaseFirst_g21 (law34_ChaseFirst_K d) y20) h ?_
            intro y21 h
            refine cn_then ?_
            refine run_block ?_
            refine run_loop (G := iter (law34_ChaseFirst_L3 d self1)) (S := (fun x3 => ⟨[(1, .int .i64 x3.1), (4, .ptr 0 0), (6, .ptr 1 0), (9, .bool x3.2.1), (16, .fz Riiii x3.2.2.1), (18, .fz Riiii x3.2.2.2.1), (20, .fz Riiii x3.2.2.2.2.1), (22, .int .i64 x3.2.2.2.2.2.1), (23, .int .i64 x3.2.2.2.2.2.2.1), (24, .int .i64 x3.2.2.2.2.2.2.2.1), (25, .int .i64 x3.2.2.2.2.2.2.2.2.1)], [.cells [.fz Riii x3.2.2.2.2.2.2.2.2.2.1], .cells [.int .i64 x3.2.2.2.2.2.2.2.2.2.2.1, .int .i64 x3.2.2.2.2.2.2.2.2.2.2.2]]⟩ : Int × Bool × List Diiii × List Diiii × List Diiii × Int × Int × Int × Int × List Diii × Int × Int → St)) (fun _ => rfl) ?_ d _ h
            intro n3 x3 h K3 hn3
            replace h : law34_ChaseFirst_L3 d self1 (iter (law34_ChaseFirst_L3 d self1) n3) x3 = some r := h
            generalize iter (law34_ChaseFirst_L3 d self1) n3 = self3 at h hn3
            unfold law34_ChaseFirst_L3 at h
            refine run_seq ?_
            refine run_seq ?_
            refine run_reg hm hT hC (law34_ChaseFirst_g22 (law34_ChaseFirst_K d) x3) h ?_
            intro y22 h
            refine cn_then ?_
            refine run_cond (v := y22.2.2.2.2.2.2.2.2.2.1) (by kernel_rfl) h ?_ ?_
            ·
              intro h
              refine run_skip ?_
              refine cn_then ?_
              refine run_join (r := r) (F := law34_ChaseFirst_J4 d self1 self3) (S := (fun z => ⟨[(1, .int .i64 z.1), (4, .ptr 0 0), (6, .ptr 1 0), (9, .bool z.2.1), (16, .fz Riiii z.2.2.1), (18, .fz Riiii z.2.2.2.1), (20, .fz Riiii z.2.2.2.2.1), (22, .int .i64 z.2.2.2.2.2.1), (23, .int .i64 z.2.2.2.2.2.2.1), (24, .int .i64 z.2.2.2.2.2.2.2.1), (25, .int .i64 z.2.2.2.2.2.2.2.2.1)], [.cells [.fz Riii z.2.2.2.2.2.2.2.2.2.1], .cells [.int .i64 z.2.2.2.2.2.2.2.2.2.2.1, .int .i64 z.2.2.2.2.2.2.2.2.2.2.2]]⟩ : Int × Bool × List Diiii × List Diiii × List Diiii × Int × Int × Int × Int × List Diii × Int × Int → St)) ?_ ?_
              ·
                intro z h
                unfold law34_ChaseFirst_J4 at h
                refine run_reg hm hT hC (law34_ChaseFirst_g23 (law34_ChaseFirst_K d) z) h ?_
                intro y23 h
                exact hn3 _ h
              intro hj4
              refine run_block ?_
              refine run_seq ?_
              refine run_reg hm hT hC (law34_ChaseFirst_g24 (law34_ChaseFirst_K d) y22) h ?_
              intro y24 h
              refine cn_then ?_
              refine run_cond (v := y24.2.2.2.2.2.2.2.2.2.1) (by kernel_rfl) h ?_ ?_
              ·
                intro h
                refine run_reg hm hT hC (law34_ChaseFirst_g25 (law34_ChaseFirst_K d) y24) h ?_
                intro y25 h
                refine cn_blk ?_
                exact hj4 _ h
              ·
                intro h
                refine run_skip ?_
                refine cn_blk ?_
                refine cn_num (s := ⟨[(1, .int .i64 y24.1), (4, .ptr 0 0), (6, .ptr 1 0), (9, .bool y24.2.1), (16, .fz Riiii y24.2.2.1), (18, .fz Riiii y24.2.2.2.1), (20, .fz Riiii y24.2.2.2.2.1), (22, .int .i64 y24.2.2.2.2.2.1), (23, .int .i64 y24.2.2.2.2.2.2.1), (24, .int .i64 y24.2.2.2.2.2.2.2.1), (25, .int .i64 y24.2.2.2.2.2.2.2.2.1)], [.cells [.fz Riii y24.2.2.2.2.2.2.2.2.2.2.1], .cells [.int .i64 y24.2.2.2.2.2.2.2.2.2.2.2.1, .int .i64 y24.2.2.2.2.2.2.2.2.2.2.2.2]]⟩) [175] (by kernel_rfl) ?_
                exact hj4 _ h
            ·
              intro h
              refine run_exit ?_
              refine cn_then_exit ?_
              refine cn_then_exit ?_
              refine cn_blk_eq ?_
              refine cn_then ?_
              refine run_seq ?_
              refine run_reg hm hT hC (law34_ChaseFirst_g26 (law34_ChaseFirst_K d) y22) h ?_
              intro y26 h
              refine cn_then ?_
              refine run_cond (v := y26.2.2.2.2.2.2.2.1) (by kernel_rfl) h ?_ ?_
              ·
                intro h
                refine run_seq ?_
                refine run_reg hm hT hC (law34_ChaseFirst_g27 (law34_ChaseFirst_K d) y26) h ?_
                intro y27 h
                refine cn_then ?_
                refine run_ret ?_
                refine cn_blk_ret ?_
                refine cn_then_ret ?_
                refine cn_then_ret ?_
                refine cn_blk_ret ?_
                refine cn_then_ret ?_
                cases h
                exact (hend _ (by kernel_rfl)).2
              ·
                intro h
                refine run_skip ?_
                refine cn_blk ?_
                refine cn_num (s := ⟨[(1, .int .i64 y26.1), (4, .ptr 0 0), (6, .ptr 1 0), (9, .bool y26.2.1), (16, .fz Riiii y26.2.2.1), (18, .fz Riiii y26.2.2.2.1), (20, .fz Riiii y26.2.2.2.2.1), (22, .int .i64 y26.2.2.2.2.2.1), (23, .int .i64 y26.2.2.2.2.2.2.1)], [.cells [.fz Riii y26.2.2.2.2.2.2.2.2.1], .cells [.int .i64 y26.2.2.2.2.2.2.2.2.2.1, .int .i64 y26.2.2.2.2.2.2.2.2.2.2]]⟩) [179] (by kernel_rfl) ?_
                exact hj2 _ h
        ·
          intro h
          refine run_exit ?_
          refine cn_then_exit ?_
          refine cn_then_exit ?_
          refine cn_blk_eq ?_
          refine cn_then ?_
          refine run_seq ?_
          refine run_seq ?_
          refine run_reg hm hT hC (law34_ChaseFirst_g28 (law34_ChaseFirst_K d) y16) h ?_
          intro y28 h
          refine cn_then ?_
          refine run_block ?_
          refine run_loop (G := iter (law34_ChaseFirst_L5 d )) (S := (fun x5 => ⟨[(1, .int .i64 x5.1), (4, .ptr 0 0), (6, .ptr 1 0), (9, .bool x5.2.1), (18, .fz Riiii x5.2.2.1), (20, .fz Riiii x5.2.2.2.1), (22, .int .i64 x5.2.2.2.2.1), (26, .int .i64 x5.2.2.2.2.2.1)], [.cells [.fz Riii x5.2.2.2.2.2.2.1], .cells [.int .i64 x5.2.2.2.2.2.2.2.1, .int .i64 x5.2.2.2.2.2.2.2.2]]⟩ : Int × Bool × List Diiii × List Diiii × Int × Int × List Diii × Int × Int → St)) (fun _ => rfl) ?_ d _ h
          intro n5 x5 h K5 hn5
          replace h : law34_ChaseFirst_L5 d  (iter (law34_ChaseFirst_L5 d ) n5) x5 = some r := h
          generalize iter (law34_ChaseFirst_L5 d ) n5 = self5 at h hn5
          unfold law34_ChaseFirst_L5 at h
          refine run_seq ?_
          refine run_seq ?_
          refine run_reg hm hT hC (law34_ChaseFirst_g29 (law34_ChaseFirst_K d) x5) h ?_
          intro y29 h
          refine cn_then ?_
          refine run_cond (v := y29.2.2.2.2.2.2.1) (by kernel_rfl) h ?_ ?_
          ·
            intro h
            refine run_skip ?_
            refine cn_then ?_
            refine run_seq ?_
            refine run_block ?_
            refine run_seq ?_
            refine run_reg hm hT hC (law34_ChaseFirst_g31 (law34_ChaseFirst_K d) y29) h ?_
            intro y31 h
            refine cn_then ?_
            refine run_seq ?_
            refine run_reg hm hT hC (law34_ChaseFirst_g32 (law34_ChaseFirst_K d) y31) h ?_
            intro y32 h
            refine cn_then ?_
            refine run_cond (v := y32.2.2.2.2.2.2.1) (by kernel_rfl) h ?_ ?_
            ·
              intro h
              refine run_seq ?_
              refine run_reg hm hT hC (law34_ChaseFirst_g33 (law34_ChaseFirst_K d) y32) h ?_
              intro y33 h
              refine cn_then ?_
              refine run_ret ?_
              refine cn_blk_ret ?_
              refine cn_then_ret ?_
              refine cn_then_ret ?_
              refine cn_blk_ret ?_
              refine cn_then_ret ?_
              cases h
              exact (hend _ (by kernel_rfl)).2
            ·
              intro h
              refine run_skip ?_
              refine cn_blk ?_
              refine cn_then ?_
              refine run_reg hm hT hC (law34_ChaseFirst_g30 (law34_ChaseFirst_K d) y32) h ?_
              intro y30 h
              exact hn5 _ h
          ·
            intro h
            refine run_exit ?_
            refine cn_then_exit ?_
            refine cn_then_exit ?_
            refine cn_blk_eq ?_
            refine cn_then ?_
            refine run_seq ?_
            refine run_reg hm hT hC (law34_ChaseFirst_g34 (law34_ChaseFirst_K d) y29) h ?_
            intro y34 h
            refine cn_then ?_
            refine run_seq ?_
            refine run_seq ?_
            refine run_reg hm hT hC (law34_ChaseFirst_g35 (law34_ChaseFirst_K d) y34) h ?_
            intro y35 h
            refine cn_then ?_
            refine run_cond (v := y35.2.2.2.2.2.1) (by kernel_rfl) h ?_ ?_
            ·
              intro h
              refine run_seq ?_
              refine run_reg hm hT hC (law34_ChaseFirst_g36 (law34_ChaseFirst_K d) y35) h ?_
              intro y36 h
              refine cn_then ?_
              refine run_ret ?_
              refine cn_then_ret ?_
              cases h
              exact (hend _ (by kernel_rfl)).2
            ·
              intro h
              refine run_skip ?_
              refine cn_then ?_
              refine run_seq ?_
              refine run_reg hm hT hC (law34_ChaseFirst_g37 (law34_ChaseFirst_K d) y35) h ?_
              intro y37 h
              refine cn_then ?_
              refine run_ret ?_
              cases h
              exact (hend _ (by kernel_rfl)).2
end Go.Proofs.YtmagihjfbembjaaGreat

namespace Go.Proofs.YtmagihjfbembjaaGreat
open Go Go.Tx Go.Pel
theorem cmpI64_eq (d : Nat) (a b : Int) : F_cmp_Compare_int64 d ((a, ()), (b, ()), ()) = some (cmpZ a b) := by
  simp only [F_cmp_Compare_int64, cmp_Compare_int64_K, cmp_Compare_int64_r0, cmp_Compare_int64_r1, cmp_Compare_int64_r2, cmp_Compare_int64_r3, cmp_Compare_int64_r4, cmp_Compare_int64_r5, cmp_Compare_int64_r6, cmp_Compare_int64_r7, cmp_Compare_int64_r8, cmp_Compare_int64_r9, cmp_Compare_int64_r10, cmp_Compare_int64_r11, cmp_Compare_int64_r12, cmp_Compare_int64_r13, F_cmp_isNaN_int64, cmp_isNaN_int64_K, cmp_isNaN_int64_r0, cmp_isNaN_int64_r1, Dt.eval, bne_self_eq_false, cond_false]
  unfold cmpZ
  by_cases h1 : a < b
  · simp only [h1, decide_true, cond_true, if_true]
  · by_cases h2 : b < a
    · simp only [h1, h2, gt_iff_lt, decide_true, decide_false, cond_true, cond_false, if_true, if_false]
    · simp only [h1, h2, gt_iff_lt, decide_false, cond_false, if_false]
theorem cmpU64_eq (d : Nat) (a b : Int) : F_cmp_Compare_uint64 d ((a, ()), (b, ()), ()) = some (cmpZ a b) := by
  simp only [F_cmp_Compare_uint64, cmp_Compare_uint64_K, cmp_Compare_uint64_r0, cmp_Compare_uint64_r1, cmp_Compare_uint64_r2, cmp_Compare_uint64_r3, cmp_Compare_uint64_r4, cmp_Compare_uint64_r5, cmp_Compare_uint64_r6, cmp_Compare_uint64_r7, cmp_Compare_uint64_r8, cmp_Compare_uint64_r9, cmp_Compare_uint64_r10, cmp_Compare_uint64_r11, cmp_Compare_uint64_r12, cmp_Compare_uint64_r13, F_cmp_isNaN_uint64, cmp_isNaN_uint64_K, cmp_isNaN_uint64_r0, cmp_isNaN_uint64_r1, Dt.eval, bne_self_eq_false, cond_false]
  unfold cmpZ
  by_cases h1 : a < b
  · simp only [h1, decide_true, cond_true, if_true]
  · by_cases h2 : b < a
    · simp only [h1, h2, gt_iff_lt, decide_true, decide_false, cond_true, cond_false, if_true, if_false]
    · simp only [h1, h2, gt_iff_lt, decide_false, cond_false, if_false]
theorem cmpInt_eq (d : Nat) (a b : Int) : F_cmp_Compare_int d ((a, ()), (b, ()), ()) = some (cmpZ a b) := by
  simp only [F_cmp_Compare_int, cmp_Compare_int_K, cmp_Compare_int_r0, cmp_Compare_int_r1, cmp_Compare_int_r2, cmp_Compare_int_r3, cmp_Compare_int_r4, cmp_Compare_int_r5, cmp_Compare_int_r6, cmp_Compare_int_r7, cmp_Compare_int_r8, cmp_Compare_int_r9, cmp_Compare_int_r10, cmp_Compare_int_r11, cmp_Compare_int_r12, cmp_Compare_int_r13, F_cmp_isNaN_int, cmp_isNaN_int_K, cmp_isNaN_int_r0, cmp_isNaN_int_r1, Dt.eval, bne_self_eq_false, cond_false]
  unfold cmpZ
  by_cases h1 : a < b
  · simp only [h1, decide_true, cond_true, if_true]
  · by_cases h2 : b < a
    · simp only [h1, h2, gt_iff_lt, decide_true, decide_false, cond_true, cond_false, if_true, if_false]
    · simp only [h1, h2, gt_iff_lt, decide_false, cond_false, if_false]
theorem abs_eq (d : Nat) (a : Int) (h : i64B a = true) : F_ratio_abs d ((a, ()), ()) = some (a.natAbs : Int) := by
  have h := i64B_iff h
  simp only [F_ratio_abs, ratio_abs_K, ratio_abs_r0, ratio_abs_r1, ratio_abs_r2, ratio_abs_r3, Dt.eval]
  by_cases h1 : a < 0
  · simp only [h1, decide_true, cond_true, IntKind.wrap_u64]
    exact congrArg some (by omega : ((0 : Int) - a % 18446744073709551616) % 18446744073709551616 = (a.natAbs : Int))
  · simp only [h1, decide_false, cond_false, IntKind.wrap_u64]
    exact congrArg some (by omega : (a % 18446744073709551616 : Int) = (a.natAbs : Int))
theorem times_eq (d : Nat) (a b : Int) (ha : i64B a = true) (hb : i64B b = true) : F_ratio_times d ((a, ()), (b, ()), ()) = some (!((decide (a < 0)) == (decide (b < 0))), (((a * b).natAbs / 18446744073709551616 : Nat) : Int), (((a * b).natAbs % 18446744073709551616 : Nat) : Int)) := by
  have e1 := abs_eq d a ha
  have e2 := abs_eq d b hb
  have ha' := i64B_iff ha
  have hb' := i64B_iff hb
  have e3 : F_math_bits_Mul64 d (((a.natAbs : Int), ()), ((b.natAbs : Int), ()), ()) = some (((a.natAbs : Int) * (b.natAbs : Int)) / 18446744073709551616, ((a.natAbs : Int) * (b.natAbs : Int)) % 18446744073709551616) := by
    rw [F_math_bits_Mul64_eq _ _ (by unfold math_bits_Mul64_if u64B; simp only [Bool.and_eq_true, decide_eq_true_eq]; omega)]
  simp only [F_ratio_times, ratio_times_K, ratio_times_r0, ratio_times_r1, ratio_times_r2, Dt.eval, e1, e2, e3]
  rw [Int.natAbs_mul]
  simp
theorem ltZ (a b : Int) : cmpZ a b = -1 ∧ a < b ∨ cmpZ a b = 0 ∧ a = b ∨ cmpZ a b = 1 ∧ b < a := by
  unfold cmpZ
  repeat' split
  all_goals omega
theorem ratio_compare_eq (d : Nat) (n1 n2 : Bool) (P Q : Nat) : F_ratio_compare d ((n1, ((P / 18446744073709551616 : Nat) : Int), ((P % 18446744073709551616 : Nat) : Int), ()), (n2, ((Q / 18446744073709551616 : Nat) : Int), ((Q % 18446744073709551616 : Nat) : Int), ()), ()) = some (cmpZ (P : Int) (Q : Int)) := by
  simp only [F_ratio_compare, ratio_compare_K, ratio_compare_r0, ratio_compare_r1, ratio_compare_r2, ratio_compare_r3, ratio_compare_r4, Dt.eval, cmpU64_eq]
  rcases ltZ ((P / 18446744073709551616 : Nat) : Int) ((Q / 18446744073709551616 : Nat) : Int) with ⟨h1, h2⟩ | ⟨h1, h2⟩ | ⟨h1, h2⟩
  · simp only [h1, show ((-1 : Int) != 0) = true from rfl, cond_true]
    rw [cmpZ_lt (by omega)]
  · simp only [h1, show ((0 : Int) != 0) = false from rfl, cond_false]
    rcases ltZ (P : Int) (Q : Int) with ⟨k1, k2⟩ | ⟨k1, k2⟩ | ⟨k1, k2⟩
    · rw [k1, cmpZ_lt (by omega)]
    · rw [k1, cmpZ_eq (by omega)]
    · rw [k1, cmpZ_gt (by omega)]
  · simp only [h1, show ((1 : Int) != 0) = true from rfl, cond_true]
    rw [cmpZ_gt (by omega)]
theorem both_eq (d : Nat) (n1 d1 n2 d2 : Int) (h1 : i64B n1 = true) (h2 : i64B d1 = true) (h3 : i64B n2 = true) (h4 : i64B d2 = true) : F_ratio_both d ((n1, d1, ()), (n2, d2, ()), ()) = some (tmax (ratioChk n1 d1) (ratioChk n2 d2)) := by
  have e1 : F_ratio_Check d ((n1, d1, ()), ()) = some (ratioChk n1 d1) := F_ratio_Check_eq _ _ (by unfold ratio_Check_if; simp only [h1, h2, Bool.and_self])
  have e2 : F_ratio_Check d ((n2, d2, ()), ()) = some (ratioChk n2 d2) := F_ratio_Check_eq _ _ (by unfold ratio_Check_if; simp only [h3, h4, Bool.and_self])
  simp only [F_ratio_both, ratio_both_K, ratio_both_r0, ratio_both_r1, Dt.eval, e1, e2]
/-- fractions compared, and an error -/
def cmpR (n1 d1 n2 d2 : Int) : Int × Int := if ratioChk n1 d1 = 0 ∧ ratioChk n2 d2 = 0 then (cmpQ n1 d1 n2 d2, 0) else (0, 8)
theorem rCmp_eq (d : Nat) (n1 d1 n2 d2 : Int) (h1 : i64B n1 = true) (h2 : i64B d1 = true) (h3 : i64B n2 = true) (h4 : i64B d2 = true) : F_ratio_Cmp d ((n1, d1, ()), (n2, d2, ()), ()) = some (cmpR n1 d1 n2 d2) := by
  unfold cmpR
  have e0 := both_eq d n1 d1 n2 d2 h1 h2 h3 h4
  by_cases hc : ratioChk n1 d1 = 0 ∧ ratioChk n2 d2 = 0
  · rw [if_pos hc]
    rw [hc.1, hc.2] at e0
    obtain ⟨g1, _, _⟩ := ratioChk_zero hc.1
    obtain ⟨g2, _, _⟩ := ratioChk_zero hc.2
    have e1 := times_eq d n1 d2 h1 h4
    have e2 := times_eq d n2 d1 h3 h2
    have e3 := cmpI64_eq d n1 n2
    simp only [F_ratio_Cmp, ratio_Cmp_K, ratio_Cmp_r0, ratio_Cmp_r1, ratio_Cmp_r2, ratio_Cmp_r3, ratio_Cmp_r4, ratio_Cmp_r5, ratio_Cmp_r6, ratio_Cmp_r7, ratio_Cmp_r8, ratio_Cmp_r9, ratio_Cmp_J1, Dt.eval, e0, e1, e2, e3, ratio_compare_eq, show tmax 0 0 = 0 from rfl, show ((0 : Int) != 0) = false from rfl, cond_false]
    unfold cmpQ
    have p1 : 0 < d1 := by omega
    have p2 : 0 < d2 := by omega
    have s1 : (n1 < 0 → n1 * d2 < 0) ∧ (0 ≤ n1 → 0 ≤ n1 * d2) := ⟨fun h => Int.mul_neg_of_neg_of_pos h p2, fun h => Int.mul_nonneg h (by omega)⟩
    have s2 : (n2 < 0 → n2 * d1 < 0) ∧ (0 ≤ n2 → 0 ≤ n2 * d1) := ⟨fun h => Int.mul_neg_of_neg_of_pos h p1, fun h => Int.mul_nonneg h (by omega)⟩
    generalize n1 * d2 = P at *
    generalize n2 * d1 = Q at *
    by_cases k1 : n1 < 0 <;> by_cases k2 : n2 < 0 <;> simp only [k1, k2, decide_true, decide_false, beq_self_eq_true, Bool.not_true, Bool.not_false, cond_true, cond_false, Bool.false_beq, Bool.true_beq]
    · have := s1.1 k1
      have := s2.1 k2
      rcases ltZ (P.natAbs : Int) (Q.natAbs : Int) with ⟨g1, g2⟩ | ⟨g1, g2⟩ | ⟨g1, g2⟩
      · rw [g1, cmpZ_gt (a := P) (b := Q) (by omega)]; rfl
      · rw [g1, cmpZ_eq (a := P) (b := Q) (by omega)]; rfl
      · rw [g1, cmpZ_lt (a := P) (b := Q) (by omega)]; rfl
    · have := s1.1 k1
      have := s2.2 (by omega)
      rw [cmpZ_lt (by omega), cmpZ_lt (by omega)]
    · have := s1.2 (by omega)
      have := s2.1 k2
      rw [cmpZ_gt (by omega), cmpZ_gt (by omega)]
    · have := s1.2 (by omega)
      have := s2.2 (by omega)
      rw [show (P.natAbs : Int) = P by omega, show (Q.natAbs : Int) = Q by omega]
  · rw [if_neg hc]
    have e1 : tmax (ratioChk n1 d1) (ratioChk n2 d2) = 8 := by
      unfold tmax
      rcases ratioChk_cases n1 d1 with q1 | q1 <;> rcases ratioChk_cases n2 d2 with q2 | q2
      · exact absurd ⟨q1, q2⟩ hc
      all_goals rw [q1, q2]; rfl
    rw [e1] at e0
    simp only [F_ratio_Cmp, ratio_Cmp_K, ratio_Cmp_r0, ratio_Cmp_r1, ratio_Cmp_r2, ratio_Cmp_r3, Dt.eval, e0, show ((8 : Int) != 0) = true from rfl, cond_true]
theorem later_eq (d : Nat) (n1 d1 n2 d2 : Int) (h1 : i64B n1 = true) (h2 : i64B d1 = true) (h3 : i64B n2 = true) (h4 : i64B d2 = true) : F_meet_later d ((n1, d1, ()), (n2, d2, ()), ()) = some (cmpR n1 d1 n2 d2).1 := by
  have e1 := rCmp_eq d n1 d1 n2 d2 h1 h2 h3 h4
  simp only [F_meet_later, meet_later_K, meet_later_r0, meet_later_r1, meet_later_r2, Dt.eval, e1]
theorem rSign_eq (d : Nat) (P : Int) : F_ref01_Sign d ((decide (P < 0), ((P.natAbs / 18446744073709551616 : Nat) : Int), ((P.natAbs % 18446744073709551616 : Nat) : Int), ()), ()) = some (cmpZ P 0) := by
  simp only [F_ref01_Sign, ref01_Sign_K, ref01_Sign_r0, ref01_Sign_r1, ref01_Sign_r2, ref01_Sign_r3, ref01_Sign_r4, ref01_Sign_r5, Dt.eval]
  by_cases h0 : P = 0
  · subst h0; rfl
  · have hne : ¬ (((P.natAbs / 18446744073709551616 : Nat) : Int) = 0 ∧ ((P.natAbs % 18446744073709551616 : Nat) : Int) = 0) := by omega
    have hh : (bif (((P.natAbs / 18446744073709551616 : Nat) : Int) == 0) then (((P.natAbs % 18446744073709551616 : Nat) : Int) == 0) else false) = false := by
      cases h1 : (((P.natAbs / 18446744073709551616 : Nat) : Int) == 0) with
      | false => rfl
      | true => rw [cond_true, beq_eq_false_iff_ne]; rw [beq_iff_eq] at h1; intro h2; exact hne ⟨h1, h2⟩
    cases h1 : (((P.natAbs / 18446744073709551616 : Nat) : Int) == 0) with
    | false =>
      simp only [cond_false]
      rcases ltZ P 0 with ⟨k1, k2⟩ | ⟨k1, k2⟩ | ⟨k1, k2⟩
      · simp only [k1, k2, decide_true, cond_true]
      · exact absurd k2 h0
      · simp only [k1, show ¬ P < 0 by omega, decide_false, cond_false]
    | true =>
      rw [h1, cond_true] at hh
      simp only [cond_true, hh, cond_false]
      rcases ltZ P 0 with ⟨k1, k2⟩ | ⟨k1, k2⟩ | ⟨k1, k2⟩
      · simp only [k1, k2, decide_true, cond_true]
      · exact absurd k2 h0
      · simp only [k1, show ¬ P < 0 by omega, decide_false, cond_false]
theorem rLess_eq (d : Nat) (n1 n2 : Bool) (P Q : Nat) : F_ref01_less d ((n1, ((P / 18446744073709551616 : Nat) : Int), ((P % 18446744073709551616 : Nat) : Int), ()), (n2, ((Q / 18446744073709551616 : Nat) : Int), ((Q % 18446744073709551616 : Nat) : Int), ()), ()) = some (cmpZ (P : Int) (Q : Int)) := by
  simp only [F_ref01_less, ref01_less_K, ref01_less_r0, ref01_less_r1, ref01_less_r2, ref01_less_r3, ref01_less_r4, ref01_less_r5, ref01_less_r6, ref01_less_r7, ref01_less_r8, ref01_less_r9, Dt.eval]
  obtain ⟨a, ha⟩ : ∃ a : Int, ((P / 18446744073709551616 : Nat) : Int) = a := ⟨_, rfl⟩
  obtain ⟨b, hb⟩ : ∃ a : Int, ((P % 18446744073709551616 : Nat) : Int) = a := ⟨_, rfl⟩
  obtain ⟨c, hc⟩ : ∃ a : Int, ((Q / 18446744073709551616 : Nat) : Int) = a := ⟨_, rfl⟩
  obtain ⟨e, he⟩ : ∃ a : Int, ((Q % 18446744073709551616 : Nat) : Int) = a := ⟨_, rfl⟩
  rw [ha, hb, hc, he]
  rcases ltZ a c with ⟨_, k2⟩ | ⟨_, k2⟩ | ⟨_, k2⟩
  · have e1 : (a != c) = true := by simp; omega
    simp only [e1, k2, decide_true, cond_true]
    rw [cmpZ_lt (by omega)]
  · have e1 : (a != c) = false := by simp; omega
    simp only [e1, cond_false]
    rcases ltZ b e with ⟨_, g2⟩ | ⟨_, g2⟩ | ⟨_, g2⟩
    · have e2 : (b != e) = true := by simp; omega
      simp only [e2, g2, decide_true, cond_true]
      rw [cmpZ_lt (by omega)]
    · have e2 : (b != e) = false := by simp; omega
      simp only [e2, cond_false]
      rw [cmpZ_eq (by omega)]
    · have e2 : (b != e) = true := by simp; omega
      simp only [e2, show ¬ b < e by omega, decide_false, cond_true, cond_false]
      rw [cmpZ_gt (by omega)]
  · have e1 : (a != c) = true := by simp; omega
    simp only [e1, show ¬ a < c by omega, decide_false, cond_true, cond_false]
    rw [cmpZ_gt (by omega)]
theorem rCompare_eq (d : Nat) (n1 d1 n2 d2 : Int) (h1 : i64B n1 = true) (h2 : i64B d1 = true) (h3 : i64B n2 = true) (h4 : i64B d2 = true) : F_ref01_Compare d ((n1, d1, ()), (n2, d2, ()), ()) = some (cmpQ n1 d1 n2 d2) := by
  have e1 : F_ref01_Product d ((n1, ()), (d2, ()), ()) = some (decide (n1 * d2 < 0), (((n1 * d2).natAbs / 18446744073709551616 : Nat) : Int), (((n1 * d2).natAbs % 18446744073709551616 : Nat) : Int)) := F_ref01_Product_eq _ _ (by unfold ref01_Product_if; simp only [h1, h4, Bool.and_self])
  have e2 : F_ref01_Product d ((n2, ()), (d1, ()), ()) = some (decide (n2 * d1 < 0), (((n2 * d1).natAbs / 18446744073709551616 : Nat) : Int), (((n2 * d1).natAbs % 18446744073709551616 : Nat) : Int)) := F_ref01_Product_eq _ _ (by unfold ref01_Product_if; simp only [h3, h2, Bool.and_self])
  unfold cmpQ
  generalize n1 * d2 = P at *
  generalize n2 * d1 = Q at *
  have hs := @cmp_sign P Q
  have hn := @cmp_neg P Q
  have hp := @cmp_pos P Q
  simp only [F_ref01_Compare, ref01_Compare_K, ref01_Compare_r0, ref01_Compare_r1, ref01_Compare_r2, ref01_Compare_r3, ref01_Compare_r4, ref01_Compare_r5, ref01_Compare_r6, ref01_Compare_r7, ref01_Compare_r8, Dt.eval, e1, e2, rSign_eq, rLess_eq]
  by_cases hg : cmpZ P 0 = cmpZ Q 0
  · have g1 : (cmpZ P 0 != cmpZ Q 0) = false := by simp [hg]
    simp only [g1, cond_false]
    by_cases h0 : cmpZ P 0 < 0
    · simp only [h0, decide_true, cond_true]; rw [hn hg h0]
    · simp only [h0, decide_false, cond_false]; rw [hp hg h0]
  · have g1 : (cmpZ P 0 != cmpZ Q 0) = true := by simp [hg]
    simp only [g1, cond_true]
    have := hs hg
    by_cases h0 : cmpZ P 0 < cmpZ Q 0
    · rw [if_pos h0] at this; simp only [h0, decide_true, cond_true]; rw [this]
    · rw [if_neg h0] at this; simp only [h0, decide_false, cond_false]; rw [this]
end Go.Proofs.YtmagihjfbembjaaGreat

namespace Go.Pel
open Go Go.Tx
abbrev T3 : Type := Int × Int × Int × Unit
abbrev M4 : Type := Int × Int × Int × Int × Unit
theorem q_le {a b c d1 d2 d3 : Int} (h1 : 1 ≤ d1) (h2 : 1 ≤ d2) (h3 : 1 ≤ d3) (h : a * d2 ≤ b * d1) (k : b * d3 ≤ c * d2) : a * d3 ≤ c * d1 := by
  have e1 : a * d3 * d2 ≤ c * d1 * d2 := by
    have := Int.mul_le_mul_of_nonneg_right h (show (0 : Int) ≤ d3 by omega)
    have := Int.mul_le_mul_of_nonneg_right k (show (0 : Int) ≤ d1 by omega)
    rw [Int.mul_right_comm a d3 d2, Int.mul_right_comm c d1 d2]
    have e : b * d1 * d3 = b * d3 * d1 := Int.mul_right_comm b d1 d3
    omega
  exact Int.le_of_mul_le_mul_right e1 (by omega)
theorem q_lt {a b c d1 d2 d3 : Int} (h1 : 1 ≤ d1) (h2 : 1 ≤ d2) (h3 : 1 ≤ d3) (h : a * d2 < b * d1) (k : b * d3 ≤ c * d2) : a * d3 < c * d1 := by
  have e1 : a * d3 * d2 < c * d1 * d2 := by
    have := Int.mul_lt_mul_of_pos_right h (show (0 : Int) < d3 by omega)
    have := Int.mul_le_mul_of_nonneg_right k (show (0 : Int) ≤ d1 by omega)
    rw [Int.mul_right_comm a d3 d2, Int.mul_right_comm c d1 d2]
    have e : b * d1 * d3 = b * d3 * d1 := Int.mul_right_comm b d1 d3
    omega
  exact Int.lt_of_mul_lt_mul_right e1 (by omega)
theorem q_lt' {a b c d1 d2 d3 : Int} (h1 : 1 ≤ d1) (h2 : 1 ≤ d2) (h3 : 1 ≤ d3) (h : a * d2 ≤ b * d1) (k : b * d3 < c * d2) : a * d3 < c * d1 := by
  have e1 : a * d3 * d2 < c * d1 * d2 := by
    have := Int.mul_le_mul_of_nonneg_right h (show (0 : Int) ≤ d3 by omega)
    have := Int.mul_lt_mul_of_pos_right k (show (0 : Int) < d1 by omega)
    rw [Int.mul_right_comm a d3 d2, Int.mul_right_comm c d1 d2]
    have e : b * d1 * d3 = b * d3 * d1 := Int.mul_right_comm b d1 d3
    omega
  exact Int.lt_of_mul_lt_mul_right e1 (by omega)
/-- fractions in lowest terms are equal if their values are -/
theorem q_eq {a b d1 d2 : Int} (h1 : ratioChk a d1 = 0) (h2 : ratioChk b d2 = 0) (h : a * d2 = b * d1) : a = b ∧ d1 = d2 := by
  obtain ⟨p1, _, g1⟩ := ratioChk_zero h1
  obtain ⟨p2, _, g2⟩ := ratioChk_zero h2
  have hn : a.natAbs * d2.toNat = b.natAbs * d1.toNat := by
    have := congrArg Int.natAbs h
    rw [Int.natAbs_mul, Int.natAbs_mul] at this
    rwa [show d2.natAbs = d2.toNat by omega, show d1.natAbs = d1.toNat by omega] at this
  have k1 : d1.toNat ∣ d2.toNat := Nat.Coprime.dvd_of_dvd_mul_left (k := d1.toNat) (m := a.natAbs) (n := d2.toNat) g1 ⟨b.natAbs, by rw [hn, Nat.mul_comm]⟩
  have k2 : d2.toNat ∣ d1.toNat := Nat.Coprime.dvd_of_dvd_mul_left (k := d2.toNat) (m := b.natAbs) (n := d1.toNat) g2 ⟨a.natAbs, by rw [← hn, Nat.mul_comm]⟩
  have e : d1.toNat = d2.toNat := Nat.dvd_antisymm k1 k2
  have e' : d1 = d2 := by omega
  subst e'
  exact ⟨Int.eq_of_mul_eq_mul_right (by omega) h, rfl⟩
def okM (x : M4) : Prop := ratioChk x.1 x.2.1 = 0
def cmpM (x y : M4) : Int := orZ (cmpQ x.1 x.2.1 y.1 y.2.1) (orZ (cmpZ x.2.2.1 y.2.2.1) (cmpZ x.2.2.2.1 y.2.2.2.1))
def ltM (x y : M4) : Bool := decide (cmpM x y < 0)
theorem ltM_iff (x y : M4) : ltM x y = true ↔ x.1 * y.2.1 < y.1 * x.2.1 ∨ (x.1 * y.2.1 = y.1 * x.2.1 ∧ (x.2.2.1 < y.2.2.1 ∨ (x.2.2.1 = y.2.2.1 ∧ x.2.2.2.1 < y.2.2.2.1))) := by
  unfold ltM cmpM cmpQ orZ cmpZ
  rw [decide_eq_true_eq]
  generalize x.1 * y.2.1 = P
  generalize y.1 * x.2.1 = Q
  repeat' split
  all_goals omega
theorem ltM_not (x y : M4) (h : ltM x y = false) : ¬ (x.1 * y.2.1 < y.1 * x.2.1 ∨ (x.1 * y.2.1 = y.1 * x.2.1 ∧ (x.2.2.1 < y.2.2.1 ∨ (x.2.2.1 = y.2.2.1 ∧ x.2.2.2.1 < y.2.2.2.1)))) := by
  intro k; rw [(ltM_iff x y).2 k] at h; cases h
theorem ltM_irr (x : M4) : ltM x x = false := by
  rw [← Bool.not_eq_true, ltM_iff]; omega
theorem ltM_asymm {x y : M4} (h : ltM x y = true) : ltM y x = false := by
  rw [ltM_iff] at h
  rw [← Bool.not_eq_true, ltM_iff]; omega
theorem ltM_trans {x y z : M4} (hx : okM x) (hy : okM y) (hz : okM z) (h : ltM x y = true) (k : ltM y z = true) : ltM x z = true := by
  obtain ⟨p1, _, _⟩ := ratioChk_zero hx
  obtain ⟨p2, _, _⟩ := ratioChk_zero hy
  obtain ⟨p3, _, _⟩ := ratioChk_zero hz
  rw [ltM_iff] at h k ⊢
  have a1 := @q_lt x.1 y.1 z.1 x.2.1 y.2.1 z.2.1 p1 p2 p3
  have a2 := @q_lt' x.1 y.1 z.1 x.2.1 y.2.1 z.2.1 p1 p2 p3
  have a3 := @q_le x.1 y.1 z.1 x.2.1 y.2.1 z.2.1 p1 p2 p3
  have a4 := @q_le z.1 y.1 x.1 z.2.1 y.2.1 x.2.1 p3 p2 p1
  generalize x.1 * y.2.1 = A at *
  generalize y.1 * x.2.1 = B at *
  generalize y.1 * z.2.1 = C at *
  generalize z.1 * y.2.1 = D at *
  generalize x.1 * z.2.1 = E at *
  generalize z.1 * x.2.1 = G at *
  rcases h with h | ⟨h, h'⟩
  · left
    refine a1 h ?_
    rcases k with k | ⟨k, _⟩ <;> omega
  · rcases k with k | ⟨k, k'⟩
    · left; exact a2 (by omega) k
    · right
      refine ⟨Int.le_antisymm (a3 (by omega) (by omega)) (a4 (by omega) (by omega)), by omega⟩
theorem ltM_neg {x y z : M4} (hx : okM x) (hy : okM y) (hz : okM z) (h : ltM x y = false) (k : ltM y z = false) : ltM x z = false := by
  obtain ⟨p1, _, _⟩ := ratioChk_zero hx
  obtain ⟨p2, _, _⟩ := ratioChk_zero hy
  obtain ⟨p3, _, _⟩ := ratioChk_zero hz
  have h := ltM_not _ _ h
  have k := ltM_not _ _ k
  rw [← Bool.not_eq_true, ltM_iff]
  have a1 := @q_lt z.1 y.1 x.1 z.2.1 y.2.1 x.2.1 p3 p2 p1
  have a2 := @q_lt' z.1 y.1 x.1 z.2.1 y.2.1 x.2.1 p3 p2 p1
  have a3 := @q_le x.1 y.1 z.1 x.2.1 y.2.1 z.2.1 p1 p2 p3
  have a4 := @q_le z.1 y.1 x.1 z.2.1 y.2.1 x.2.1 p3 p2 p1
  generalize x.1 * y.2.1 = A at *
  generalize y.1 * x.2.1 = B at *
  generalize y.1 * z.2.1 = C at *
  generalize z.1 * y.2.1 = D at *
  generalize x.1 * z.2.1 = E at *
  generalize z.1 * x.2.1 = G at *
  have f4 := a4 (by omega) (by omega)
  intro q
  have hE : E = G := by omega
  have hAB : A = B := by
    rcases Int.lt_or_eq_of_le (show B ≤ A by omega) with h5 | h5
    · have := a2 (by omega) h5; omega
    · omega
  have hCD : C = D := by
    rcases Int.lt_or_eq_of_le (show D ≤ C by omega) with h5 | h5
    · have := a1 h5 (by omega); omega
    · omega
  omega
theorem ltM_eq {x y : M4} (hx : okM x) (hy : okM y) (h : ltM x y = false) (k : ltM y x = false) : x = y := by
  have h := ltM_not _ _ h
  have k := ltM_not _ _ k
  obtain ⟨e1, e2⟩ := q_eq hx hy (by omega)
  obtain ⟨a, b, c, e, ⟨⟩⟩ := x
  obtain ⟨a', b', c', e', ⟨⟩⟩ := y
  simp only at e1 e2 h k
  subst e1 e2
  have : c = c' := by omega
  have : e = e' := by omega
  subst_vars; rfl
theorem mk_ok {n d : Int} (hd : d ≠ 0) (hn : n.natAbs ≤ 4194304) (hd2 : d.natAbs ≤ 4194304) : (mk n d).2.2 = 0 ∧ ratioChk (mk n d).1 (mk n d).2.1 = 0 ∧ (mk n d).1.natAbs ≤ 4194304 ∧ (mk n d).2.1 ≤ 4194304 := by
  have hg := mk_gcd_pos (n := n) hd
  rw [mk_some hd]
  have b1 : n.natAbs / Nat.gcd n.natAbs d.natAbs ≤ n.natAbs := Nat.div_le_self _ _
  have b2 : d.natAbs / Nat.gcd n.natAbs d.natAbs ≤ d.natAbs := Nat.div_le_self _ _
  have b3 : 1 ≤ d.natAbs / Nat.gcd n.natAbs d.natAbs := Nat.div_pos (Nat.gcd_le_right _ (by omega)) hg
  have hc : Nat.gcd (d.natAbs / Nat.gcd n.natAbs d.natAbs) (n.natAbs / Nat.gcd n.natAbs d.natAbs) = 1 := by
    rw [Nat.gcd_comm]; exact Nat.coprime_div_gcd_div_gcd hg
  generalize n.natAbs / Nat.gcd n.natAbs d.natAbs = A at *
  generalize d.natAbs / Nat.gcd n.natAbs d.natAbs = B at *
  have hno : ¬ (0 < 0 ∨ 9223372036854775807 < A ∨ 0 < 0 ∨ 9223372036854775807 < B) := by omega
  cases (decide (n < 0) != decide (d < 0)) with
  | true =>
    rw [bld_neg hno]
    refine ⟨rfl, ratioChk_one (by simp only; omega) (by simp only; omega) ?_, by simp only; omega, by simp only; omega⟩
    simp only [Int.toNat_natCast, Int.natAbs_neg, Int.natAbs_natCast]; exact hc
  | false =>
    rw [bld_pos hno]
    refine ⟨rfl, ratioChk_one (by simp only; omega) (by simp only; omega) ?_, by simp only; omega, by simp only; omega⟩
    simp only [Int.toNat_natCast, Int.natAbs_natCast]; exact hc
/-- where two points meet -/
def mtP (x : T3 × T3) : Option M4 := if x.1.2.2.1 = x.2.2.2.1 then none else some ((mk (x.1.2.1 - x.2.2.1) (x.2.2.2.1 - x.1.2.2.1)).1, (mk (x.1.2.1 - x.2.2.1) (x.2.2.2.1 - x.1.2.2.1)).2.1, x.1.1, x.2.1, ())
def meetsL (l : List T3) : List M4 := (pairsL l).filterMap mtP
def allM (l : List T3) : List M4 := sortL ltM (meetsL l)
def okP (p : T3) : Prop := (ofP p).chk = 0
theorem pairsL_mem {α : Type} {R : α → α → Prop} : ∀ {l : List α} {x : α × α}, x ∈ pairsL l → l.Pairwise R → x.1 ∈ l ∧ x.2 ∈ l ∧ R x.1 x.2
  | [], x, h, _ => by cases h
  | p :: r, x, h, hR => by
    obtain ⟨h1, h2⟩ := List.pairwise_cons.1 hR
    rw [pairsL] at h
    rcases List.mem_append.1 h with h | h
    · obtain ⟨q, hq, rfl⟩ := List.mem_map.1 h
      exact ⟨List.mem_cons_self .., List.mem_cons_of_mem _ hq, h1 q hq⟩
    · obtain ⟨a, b, c⟩ := pairsL_mem h h2
      exact ⟨List.mem_cons_of_mem _ a, List.mem_cons_of_mem _ b, c⟩
theorem pairsL_len {α : Type} : ∀ l : List α, (pairsL l).length ≤ l.length * l.length
  | [] => Nat.le_refl _
  | p :: r => by
    have := pairsL_len r
    rw [pairsL, List.length_append, List.length_map, List.length_cons]
    have e : (r.length + 1) * (r.length + 1) = r.length * r.length + 2 * r.length + 1 := by
      rw [Nat.mul_add, Nat.add_mul]; omega
    omega
theorem mt_ok {x : T3 × T3} {y : M4} (h1 : okP x.1) (h2 : okP x.2) (h : mtP x = some y) : okM y ∧ y.1.natAbs ≤ 4194304 ∧ y.2.1 ≤ 4194304 := by
  unfold mtP at h
  split at h
  · cases h
  · rename_i hb
    injection h with h; subst h
    obtain ⟨_, _, a1, a2, a3, a4⟩ := pointChk_zero (show pointChk x.1.1 x.1.2.1 x.1.2.2.1 = 0 from h1)
    obtain ⟨_, _, b1, b2, b3, b4⟩ := pointChk_zero (show pointChk x.2.1 x.2.2.1 x.2.2.2.1 = 0 from h2)
    obtain ⟨_, k1, k2, k3⟩ := mk_ok (n := x.1.2.1 - x.2.2.1) (d := x.2.2.2.1 - x.1.2.2.1) (by omega) (by omega) (by omega)
    exact ⟨k1, k2, k3⟩
/-- a field is valid -/
structure FldOk (l : List T3) : Prop where
  len : l.length ≤ 64
  ok : ∀ p ∈ l, okP p
  inc : l.Pairwise fun p q => p.1 < q.1
theorem meets_ok {l : List T3} (h : FldOk l) {y : M4} (hy : y ∈ meetsL l) : okM y ∧ y.1.natAbs ≤ 4194304 ∧ y.2.1 ≤ 4194304 := by
  obtain ⟨x, hx, he⟩ := List.mem_filterMap.1 hy
  obtain ⟨h1, h2, _⟩ := pairsL_mem hx h.inc
  exact mt_ok (h.ok _ h1) (h.ok _ h2) he
theorem meets_len {l : List T3} (h : FldOk l) : (meetsL l).length ≤ 4096 := by
  have h1 := List.length_filterMap_le mtP (pairsL l)
  have h2 := pairsL_len l
  have h3 := Nat.mul_le_mul h.len h.len
  unfold meetsL; omega
theorem allM_perm (l : List T3) : (allM l).Perm (meetsL l) := sortL_perm _ _
theorem allM_ok {l : List T3} (h : FldOk l) {y : M4} (hy : y ∈ allM l) : okM y ∧ y.1.natAbs ≤ 4194304 ∧ y.2.1 ≤ 4194304 := meets_ok h ((allM_perm l).mem_iff.1 hy)
theorem allM_len {l : List T3} (h : FldOk l) : (allM l).length ≤ 4096 := by rw [(allM_perm l).length_eq]; exact meets_len h
theorem allM_pw {l : List T3} (h : FldOk l) : (allM l).Pairwise fun a b => ltM b a = false :=
  sortL_pw (S := okM) (fun a b _ _ h => ltM_asymm h) (fun a b c ha hb hc h k => ltM_neg ha hb hc h k) _ fun a ha => (meets_ok h ha).1
end Go.Pel

namespace Go.Tx
theorem insL_congr {α : Type} {f g : α → α → Bool} {x : α} : ∀ {l : List α}, (∀ a ∈ l, f x a = g x a) → insL f x l = insL g x l
  | [], _ => rfl
  | y :: ys, h => by
    rw [insL, insL, h y (List.mem_cons_self ..), insL_congr fun a ha => h a (List.mem_cons_of_mem _ ha)]
theorem sortL_congr {α : Type} {f g : α → α → Bool} : ∀ {l : List α}, (∀ a ∈ l, ∀ b ∈ l, f a b = g a b) → sortL f l = sortL g l
  | [], _ => rfl
  | x :: xs, h => by
    rw [sortL, sortL, sortL_congr fun a ha b hb => h a (List.mem_cons_of_mem _ ha) b (List.mem_cons_of_mem _ hb)]
    exact insL_congr fun a ha => h x (List.mem_cons_self ..) a (List.mem_cons_of_mem _ ((sortL_perm g xs).mem_iff.1 ha))
theorem loopF_map {α β : Type} {step : α → List β → Option (List β)} {g : α → Option β} {P : α → Prop} (hs : ∀ a acc, P a → acc.length ≤ 99999 → step a acc = some (acc ++ (g a).toList)) : ∀ (l : List α) (acc : List β), (∀ a ∈ l, P a) → acc.length + l.length ≤ 99999 → loopF step l acc = some (acc ++ l.filterMap g)
  | [], acc, _, _ => by simp [loopF]
  | a :: l, acc, h, hl => by
    rw [List.length_cons] at hl
    have h1 : (g a).toList.length ≤ 1 := by cases g a <;> simp
    rw [loopF, hs a acc (h a (List.mem_cons_self ..)) (by omega)]
    show loopF step l (acc ++ (g a).toList) = _
    rw [loopF_map hs l _ (fun b hb => h b (List.mem_cons_of_mem _ hb)) (by rw [List.length_append]; omega)]
    cases hg : g a <;> simp [hg]
theorem sortV_gen {τ : Row} {F : den τ × den τ × Unit → Option Int} {S : den τ → Prop} {lt : den τ → den τ → Bool} {c : den τ → den τ → Int} {xs : List (den τ)} (hS : ∀ x ∈ xs, S x) (hF : ∀ x y, S x → S y → F (x, y, ()) = some (c x y)) (hc : ∀ x y, lt x y = decide (c x y < 0)) (hi : ∀ x, lt x x = false)
    (ht : ∀ x y z, S x → S y → S z → lt x y = true → lt y z = true → lt x z = true) (hn : ∀ x y z, S x → S y → S z → lt x y = false → lt y z = false → lt x z = false) (he : ∀ x y, S x → S y → lt x y = false → lt y x = false → eqR τ x y = true) (hl : xs.length ≤ 1000000) : sortV F xs = some (sortL lt xs) := by
  have hlt : ∀ x y, S x → S y → ltV F x y = lt x y := fun x y hx hy => by unfold ltV cmpV; rw [hF x y hx hy, hc]
  have hB : sortB F xs = true := by
    unfold sortB
    simp only [Bool.and_eq_true, List.all_eq_true, Bool.or_eq_true, Bool.not_eq_true']
    refine ⟨⟨⟨⟨fun x hx y hy => ?_, fun x hx => ?_⟩, fun x hx y hy => ?_⟩, fun x hx y hy => ?_⟩, fun x hx y hy => ?_⟩
    · rw [hF x y (hS x hx) (hS y hy)]; rfl
    · rw [hlt x x (hS x hx) (hS x hx)]; exact hi x
    · rw [hlt x y (hS x hx) (hS y hy)]
      cases hxy : lt x y with
      | false => exact .inl rfl
      | true =>
        refine .inr fun z hz => ?_
        rw [hlt y z (hS y hy) (hS z hz), hlt x z (hS x hx) (hS z hz)]
        cases hyz : lt y z with
        | false => exact .inl rfl
        | true => exact .inr (ht x y z (hS x hx) (hS y hy) (hS z hz) hxy hyz)
    · rw [hlt x y (hS x hx) (hS y hy)]
      cases hxy : lt x y with
      | true => exact .inl rfl
      | false =>
        refine .inr fun z hz => ?_
        rw [hlt y z (hS y hy) (hS z hz), hlt x z (hS x hx) (hS z hz)]
        cases hyz : lt y z with
        | true => exact .inl rfl
        | false => exact .inr (hn x y z (hS x hx) (hS y hy) (hS z hz) hxy hyz)
    · rw [hlt x y (hS x hx) (hS y hy), hlt y x (hS y hy) (hS x hx)]
      cases hxy : lt x y with
      | true => exact .inl (.inl rfl)
      | false =>
        cases hyx : lt y x with
        | true => exact .inl (.inr rfl)
        | false => exact .inr (he x y (hS x hx) (hS y hy) hxy hyx)
  unfold sortV
  rw [hB, show Nat.ble xs.length 1000000 = true by rw [Nat.ble_eq]; exact hl]
  exact congrArg some (sortL_congr fun a ha b hb => hlt a b (hS a ha) (hS b hb))
end Go.Tx
namespace Go.Proofs.YtmagihjfbembjaaGreat
open Go Go.Tx Go.Pel
theorem i64B_of {a : Int} (h : a.natAbs ≤ 9223372036854775807) : i64B a = true := by
  unfold i64B; simp only [Bool.and_eq_true, decide_eq_true_eq]; omega
theorem orInt_eq (d : Nat) (hd : 5 ≤ d) (a b c : Int) : F_cmp_Or_int d (([(a, ()), (b, ()), (c, ())], ()), ()) = some (orZ a (orZ b c)) := by
  obtain ⟨n, rfl⟩ : ∃ n, d = n + 5 := ⟨d - 5, by omega⟩
  have w1 : IntKind.wrap .i64 ((0 : Int) + 1) = 1 := by decide
  have w2 : IntKind.wrap .i64 ((1 : Int) + 1) = 2 := by decide
  have w3 : IntKind.wrap .i64 ((2 : Int) + 1) = 3 := by decide
  have w4 : IntKind.wrap .i64 (1 : Int) = 1 := by decide
  have w5 : IntKind.wrap .i64 (2 : Int) = 2 := by decide
  have w6 : IntKind.wrap .i64 (3 : Int) = 3 := by decide
  have b0 : inB 0 3 = true := by decide
  have b1 : inB 1 3 = true := by decide
  have b2 : inB 2 3 = true := by decide
  unfold orZ
  by_cases ha : a = 0
  · by_cases hb : b = 0
    · by_cases hc : c = 0
      · subst ha hb hc
        simp [F_cmp_Or_int, cmp_Or_int_K, cmp_Or_int_r0, cmp_Or_int_r1, cmp_Or_int_r2, cmp_Or_int_r3, cmp_Or_int_r4, cmp_Or_int_r5, cmp_Or_int_r6, cmp_Or_int_r7, cmp_Or_int_r8, cmp_Or_int_L1, iter, Dt.eval, w1, w2, w3, w4, w5, w6, b0, b1, b2, elt]
      · subst ha hb
        simp [F_cmp_Or_int, cmp_Or_int_K, cmp_Or_int_r0, cmp_Or_int_r1, cmp_Or_int_r2, cmp_Or_int_r3, cmp_Or_int_r4, cmp_Or_int_r5, cmp_Or_int_r6, cmp_Or_int_r7, cmp_Or_int_r8, cmp_Or_int_L1, iter, Dt.eval, w1, w2, w3, w4, w5, w6, b0, b1, b2, elt, show (c != 0) = true by simpa using hc]
    · subst ha
      simp [F_cmp_Or_int, cmp_Or_int_K, cmp_Or_int_r0, cmp_Or_int_r1, cmp_Or_int_r2, cmp_Or_int_r3, cmp_Or_int_r4, cmp_Or_int_r5, cmp_Or_int_r6, cmp_Or_int_r7, cmp_Or_int_r8, cmp_Or_int_L1, iter, Dt.eval, w1, w2, w3, w4, w5, w6, b0, b1, b2, elt, show (b != 0) = true by simpa using hb]
      intro h; exact absurd h hb
  · simp [F_cmp_Or_int, cmp_Or_int_K, cmp_Or_int_r0, cmp_Or_int_r1, cmp_Or_int_r2, cmp_Or_int_r3, cmp_Or_int_r4, cmp_Or_int_r5, cmp_Or_int_r6, cmp_Or_int_r7, cmp_Or_int_r8, cmp_Or_int_L1, iter, Dt.eval, w1, w2, w3, w4, w5, w6, b0, b1, b2, elt, show (a != 0) = true by simpa using ha]
    intro h; exact absurd h ha
structure okW (x : M4) : Prop where
  ok : okM x
  n : x.1.natAbs ≤ 4194304
  d : x.2.1 ≤ 4194304
theorem okW.b1 {x : M4} (h : okW x) : i64B x.1 = true := i64B_of (by have := h.n; omega)
theorem okW.b2 {x : M4} (h : okW x) : i64B x.2.1 = true := i64B_of (by have := h.d; have := (ratioChk_zero h.ok).1; omega)
theorem order_eq (d : Nat) (hd : 5 ≤ d) {x y : M4} (hx : okW x) (hy : okW y) : F_meet_order d (x, y, ()) = some (cmpM x y) := by
  have e1 : F_meet_later d ((x.1, x.2.1, ()), (y.1, y.2.1, ()), ()) = some (cmpQ x.1 x.2.1 y.1 y.2.1) := by
    rw [later_eq d _ _ _ _ hx.b1 hx.b2 hy.b1 hy.b2]; unfold cmpR; rw [if_pos ⟨hx.ok, hy.ok⟩]
  have e2 := cmpInt_eq d x.2.2.1 y.2.2.1
  have e3 := cmpInt_eq d x.2.2.2.1 y.2.2.2.1
  simp only [F_meet_order, meet_order_K, meet_order_r0, meet_order_r1, Dt.eval, e1, e2, e3, orInt_eq d hd]
  rfl
theorem sortV_eq (d : Nat) (hd : 5 ≤ d) {xs : List M4} (h : ∀ x ∈ xs, okW x) (hl : xs.length ≤ 1000000) : sortV (τ := Riiii) (F_meet_order d) xs = some (sortL ltM xs) :=
  sortV_gen (τ := Riiii) (S := okW) (lt := ltM) (c := cmpM) h (fun x y hx hy => order_eq d hd hx hy) (fun _ _ => rfl) ltM_irr (fun x y z hx hy hz => ltM_trans hx.ok hy.ok hz.ok) (fun x y z hx hy hz => ltM_neg hx.ok hy.ok hz.ok) (fun x y hx hy h1 h2 => by
    have := ltM_eq hx.ok hy.ok h1 h2
    subst this
    show (x.1 == x.1 && (x.2.1 == x.2.1 && (x.2.2.1 == x.2.2.1 && (x.2.2.2.1 == x.2.2.2.1 && true)))) = true
    simp only [beq_self_eq_true, Bool.and_self]) hl
theorem pt_bd {p : T3} (h : okP p) : 0 ≤ p.1 ∧ p.1 ≤ 65535 ∧ -1048576 ≤ p.2.1 ∧ p.2.1 ≤ 1048576 ∧ -1048576 ≤ p.2.2.1 ∧ p.2.2.1 ≤ 1048576 := pointChk_zero (show pointChk p.1 p.2.1 p.2.2.1 = 0 from h)
theorem meet_eq (d : Nat) {p q : T3} (hp : okP p) (hq : okP q) (hi : p.1 ≠ q.1) : F_course_Meet d ((p.1, p.2.1, p.2.2.1, ()), (q.1, q.2.1, q.2.2.1, ()), ()) =
    some (if p.2.2.1 = q.2.2.1 then (0, 0, 6) else ((mk (p.2.1 - q.2.1) (q.2.2.1 - p.2.2.1)).1, (mk (p.2.1 - q.2.1) (q.2.2.1 - p.2.2.1)).2.1, 0)) := by
  obtain ⟨_, _, a1, a2, a3, a4⟩ := pt_bd hp
  obtain ⟨_, _, b1, b2, b3, b4⟩ := pt_bd hq
  have e1 : F_course_two d ((p.1, p.2.1, p.2.2.1, ()), (q.1, q.2.1, q.2.2.1, ()), ((0 : Int), (1 : Int), ()), ()) = some 0 := by
    rw [F_course_two_eq _ _ (by rfl)]
    exact congrArg some (twoChk_ok ⟨hp, hq, show ratioChk 0 1 = 0 by decide⟩ hi)
  have w1 : IntKind.wrap .i64 (p.2.1 - q.2.1) = p.2.1 - q.2.1 := IntWalk.i64_in _ (by omega)
  have w2 : IntKind.wrap .i64 (q.2.2.1 - p.2.2.1) = q.2.2.1 - p.2.2.1 := IntWalk.i64_in _ (by omega)
  have e2 : F_ratio_Make d ((p.2.1 - q.2.1, ()), (q.2.2.1 - p.2.2.1, ()), ()) = some ((mk (p.2.1 - q.2.1) (q.2.2.1 - p.2.2.1)).1, (mk (p.2.1 - q.2.1) (q.2.2.1 - p.2.2.1)).2.1, (mk (p.2.1 - q.2.1) (q.2.2.1 - p.2.2.1)).2.2) :=
    F_ratio_Make_eq _ _ (by unfold ratio_Make_if; simp only; rw [i64B_of (by omega), i64B_of (by omega)]; rfl)
  simp only [F_course_Meet, course_Meet_K, course_Meet_r0, course_Meet_r1, course_Meet_r2, course_Meet_r3, course_Meet_r4, course_Meet_r5, course_Meet_r6, Dt.eval, e1, show ((0 : Int) != 0) = false from rfl, cond_false]
  by_cases hb : p.2.2.1 = q.2.2.1
  · simp only [hb, beq_self_eq_true, cond_true, if_true]
  · have hb' : (p.2.2.1 == q.2.2.1) = false := by simpa using hb
    have h0 := (mk_ok (n := p.2.1 - q.2.1) (d := q.2.2.1 - p.2.2.1) (by omega) (by omega) (by omega)).1
    simp only [hb', cond_false, hb, if_false, w1, w2, e2, h0]
    rfl
theorem all_eq (d : Nat) (hd : 5 ≤ d) {l : List T3} (h : FldOk l) : F_meet_all d ((l, ()), ()) = some (allM l) := by
  have hlen := pairsL_len l
  have hl4 := Nat.mul_le_mul h.len h.len
  have e1 : F_meet_pairs d ((l, ()), ()) = some l := by simp only [F_meet_pairs, meet_pairs_K, meet_pairs_r0, meet_pairs_r1, Dt.eval]
  have hp : pairsB l = true := by unfold pairsB; rw [Nat.ble_eq]; have := h.len; omega
  have hstep : ∀ (x : T3 × T3) (acc : List M4), (okP x.1 ∧ okP x.2 ∧ x.1.1 ≠ x.2.1) → acc.length ≤ 99999 → step2 (meet_all_A1 d) (meet_all_B1 d) x acc = some (acc ++ (mtP x).toList) := by
    rintro x acc ⟨h1, h2, h3⟩ hacc
    have e2 := meet_eq d h1 h2 h3
    have ha : apB acc.length 1 = true := by unfold apB; rw [Nat.ble_eq]; omega
    unfold step2 meet_all_A1 meet_all_B1 mtP
    simp only [meet_all_r3, meet_all_r4, meet_all_r5, meet_all_r6, meet_all_r7, Dt.eval, meet_all_K, e2, Option.bind_some]
    by_cases hb : x.1.2.2.1 = x.2.2.2.1
    · simp only [hb, if_true, show ((6 : Int) == 0) = false from rfl, cond_false]
      simp
    · simp only [hb, if_false, show ((0 : Int) == 0) = true from rfl, cond_true, List.length_cons, List.length_nil, Nat.zero_add, ha]
      simp
  have e3 := loopF_map hstep (pairsL l) [] (fun x hx => by
    obtain ⟨g1, g2, g3⟩ := pairsL_mem hx h.inc
    exact ⟨h.ok _ g1, h.ok _ g2, by omega⟩) (by simp; omega)
  have e4 := sortV_eq d hd (xs := meetsL l) (fun x hx => ⟨(meets_ok h hx).1, (meets_ok h hx).2.1, (meets_ok h hx).2.2⟩) (by have := meets_len h; omega)
  simp only [F_meet_all, meet_all_K, meet_all_r0, meet_all_r1, meet_all_r2, meet_all_r8, meet_all_r9, Dt.eval, e1, hp, cond_true]
  rw [e3]
  simp only [Option.bind_some, List.nil_append]
  rw [show (pairsL l).filterMap mtP = meetsL l from rfl, e4]
  rfl
end Go.Proofs.YtmagihjfbembjaaGreat

namespace Go.Pel
open Go Go.Tx
/-- a meeting is behind a time -/
def gtM (n dd : Int) (x : M4) : Bool := decide (0 < cmpQ x.1 x.2.1 n dd)
theorem gtM_iff (n dd : Int) (x : M4) : gtM n dd x = true ↔ n * x.2.1 < x.1 * dd := by
  unfold gtM cmpQ cmpZ
  rw [decide_eq_true_eq]
  repeat' split
  all_goals omega
theorem gtM_mono {n dd : Int} (hd : 1 ≤ dd) {L : List M4} (hL : ∀ x ∈ L, okM x) (hs : L.Pairwise fun a b => ltM b a = false) {i j : Nat} {x y : M4} (hij : i ≤ j) (hx : L[i]? = some x) (hy : L[j]? = some y) (h : gtM n dd x = true) : gtM n dd y = true := by
  rcases Nat.lt_or_eq_of_le hij with hlt | rfl
  · obtain ⟨hi, rfl⟩ := List.getElem?_eq_some_iff.1 hx
    obtain ⟨hj, rfl⟩ := List.getElem?_eq_some_iff.1 hy
    have hp := ltM_not _ _ ((List.pairwise_iff_getElem.1 hs) i j hi hj hlt)
    have o1 := (ratioChk_zero (hL _ (List.getElem_mem hi))).1
    have o2 := (ratioChk_zero (hL _ (List.getElem_mem hj))).1
    rw [gtM_iff] at h ⊢
    exact q_lt hd o1 o2 h (by omega)
  · rw [hx] at hy; injection hy with hy; subst hy; exact h
/-- how many meetings are not behind a time -/
def idxM (n dd : Int) (L : List M4) : Nat := L.findIdx (gtM n dd)
theorem idxM_only {n dd : Int} {L : List M4} {k : Nat} (hk : k ≤ L.length) (h1 : ∀ j x, j < k → L[j]? = some x → gtM n dd x = false) (h2 : ∀ x, L[k]? = some x → gtM n dd x = true) : idxM n dd L = k := by
  unfold idxM
  rcases Nat.lt_or_eq_of_le hk with hlt | rfl
  · rw [List.findIdx_eq hlt]
    refine ⟨h2 _ (List.getElem?_eq_getElem hlt), fun j hj => ?_⟩
    exact h1 j _ hj (List.getElem?_eq_getElem (by omega))
  · rw [List.findIdx_eq_length]
    intro x hx
    obtain ⟨j, hj, rfl⟩ := List.mem_iff_getElem.1 hx
    exact h1 j _ hj (List.getElem?_eq_getElem hj)
end Go.Pel
namespace Go.Proofs.YtmagihjfbembjaaGreat
open Go Go.Tx Go.Pel
theorem behind1_eq (d : Nat) {x : M4} {n dd : Int} (hx : okW x) (hn : i64B n = true) (hd : i64B dd = true) (hr : ratioChk n dd = 0) : F_meet_behind_1 d ((x.1, x.2.1, x.2.2.1, x.2.2.2.1, ()), (n, dd, ()), ()) = some (if gtM n dd x = true then 1 else -1) := by
  have e1 : F_meet_later d ((x.1, x.2.1, ()), (n, dd, ()), ()) = some (cmpQ x.1 x.2.1 n dd) := by
    rw [later_eq d _ _ _ _ hx.b1 hx.b2 hn hd]; unfold cmpR; rw [if_pos ⟨hx.ok, hr⟩]
  simp only [F_meet_behind_1, meet_behind_1_K, meet_behind_1_r0, meet_behind_1_r1, meet_behind_1_r2, meet_behind_1_r3, Dt.eval, e1]
  unfold gtM
  by_cases h : 0 < cmpQ x.1 x.2.1 n dd
  · simp only [h, gt_iff_lt, decide_true, cond_true, if_true]
  · simp only [h, gt_iff_lt, decide_false, cond_false]
    rfl
abbrev bsX : Type := List Diiii × Int × Int × Int × Int × Int
theorem bs_loop (d : Nat) {L : List M4} {n dd : Int} (hL : ∀ x ∈ L, okW x) (hlen : L.length ≤ 4096) (hs : L.Pairwise fun a b => ltM b a = false) (hn : i64B n = true) (hd : i64B dd = true) (hr : ratioChk n dd = 0) : ∀ (f lo hi : Nat), hi - lo < f → lo ≤ hi → hi ≤ L.length → (∀ j x, j < lo → L[j]? = some x → gtM n dd x = false) → (∀ j x, hi ≤ j → L[j]? = some x → gtM n dd x = true) →
    ∃ b, iter (slices_BinarySearchFunc_api_Meeting_api_Meeting_api_Ratio_at_meet_behind_1_L1 d) f ((L, (L.length : Int), (lo : Int), (hi : Int), n, dd) : bsX) = some ((idxM n dd L : Int), b)
  | 0, lo, hi, h, _, _, _, _ => by omega
  | f + 1, lo, hi, h, hle, hhi, h1, h2 => by
    have hD := (ratioChk_zero hr).1
    rw [iter]
    have ih := bs_loop d hL hlen hs hn hd hr f
    revert ih
    generalize iter (slices_BinarySearchFunc_api_Meeting_api_Meeting_api_Ratio_at_meet_behind_1_L1 d) f = self
    intro ih
    unfold slices_BinarySearchFunc_api_Meeting_api_Meeting_api_Ratio_at_meet_behind_1_L1
    simp only [slices_BinarySearchFunc_api_Meeting_api_Meeting_api_Ratio_at_meet_behind_1_r3, slices_BinarySearchFunc_api_Meeting_api_Meeting_api_Ratio_at_meet_behind_1_r4, slices_BinarySearchFunc_api_Meeting_api_Meeting_api_Ratio_at_meet_behind_1_r5, slices_BinarySearchFunc_api_Meeting_api_Meeting_api_Ratio_at_meet_behind_1_r6, slices_BinarySearchFunc_api_Meeting_api_Meeting_api_Ratio_at_meet_behind_1_r7, slices_BinarySearchFunc_api_Meeting_api_Meeting_api_Ratio_at_meet_behind_1_r8, Dt.eval]
    by_cases hlt : lo < hi
    · have c1 : decide ((lo : Int) < (hi : Int)) = true := by rw [decide_eq_true_eq]; omega
      have wm : IntKind.wrap .i64 (shrI .u64 (IntKind.wrap .u64 (IntKind.wrap .i64 ((lo : Int) + (hi : Int)))) 1) = (((lo + hi) / 2 : Nat) : Int) := by
        rw [show IntKind.wrap .i64 ((lo : Int) + (hi : Int)) = (lo : Int) + (hi : Int) from IntWalk.i64_in _ (by omega), show IntKind.wrap .u64 ((lo : Int) + (hi : Int)) = ((lo + hi : Nat) : Int) by rw [IntKind.wrap_u64]; omega]
        have : shrI .u64 ((lo + hi : Nat) : Int) 1 = (((lo + hi) / 2 : Nat) : Int) := by
          unfold shrI
          rw [show (2 : Int) ^ (min (1 : Int).toNat IntKind.u64.bits) = 2 from by decide, Int.fdiv_eq_ediv_of_nonneg _ (by omega)]; omega
        rw [this]; exact IntWalk.i64_in _ (by omega)
      obtain ⟨m, hm⟩ : ∃ m, (lo + hi) / 2 = m := ⟨_, rfl⟩
      rw [hm] at wm
      have hml : m < L.length := by omega
      obtain ⟨x, hx⟩ : ∃ x, L[m]? = some x := ⟨_, List.getElem?_eq_getElem hml⟩
      have hxw := hL x (List.mem_of_getElem? hx)
      have ib : inB (m : Int) L.length = true := inB_iff.2 ⟨by omega, by omega⟩
      have ee : elt ziiii L (m : Int).toNat = x := by unfold elt; rw [Int.toNat_natCast, hx]; rfl
      have e1 := behind1_eq d hxw hn hd hr
      cases hg : gtM n dd x with
      | true =>
        rw [hg, if_pos rfl] at e1
        simp only [c1, cond_true, wm, ib, ee, slices_BinarySearchFunc_api_Meeting_api_Meeting_api_Ratio_at_meet_behind_1_K, e1, show decide ((1 : Int) < 0) = false from rfl, cond_false]
        exact ih lo m (by omega) (by omega) (by omega) h1 fun j y hj hy => gtM_mono hD (fun x hx => (hL x hx).ok) hs hj hx hy hg
      | false =>
        have wm1 : IntKind.wrap .i64 ((m : Int) + 1) = ((m + 1 : Nat) : Int) := by rw [IntWalk.i64_in _ (by omega)]; omega
        rw [hg, if_neg (by decide)] at e1
        simp only [c1, cond_true, wm, ib, ee, slices_BinarySearchFunc_api_Meeting_api_Meeting_api_Ratio_at_meet_behind_1_K, e1, show decide ((-1 : Int) < 0) = true from rfl, wm1, Dt.eval, cond_true]
        refine ih (m + 1) hi (by omega) (by omega) (by omega) (fun j y hj hy => ?_) h2
        cases hgy : gtM n dd y with
        | false => rfl
        | true => rw [gtM_mono hD (fun x hx => (hL x hx).ok) hs (show j ≤ m by omega) hy hx hgy] at hg; cases hg
    · obtain rfl : lo = hi := by omega
      have c1 : decide ((lo : Int) < (lo : Int)) = false := by rw [decide_eq_false_iff_not]; omega
      have hidx : idxM n dd L = lo := idxM_only hhi h1 fun x hx => h2 lo x (Nat.le_refl _) hx
      simp only [c1, cond_false]
      rw [hidx]
      by_cases hll : lo < L.length
      · have c2 : decide ((lo : Int) < (L.length : Int)) = true := by rw [decide_eq_true_eq]; omega
        obtain ⟨x, hx⟩ : ∃ x, L[lo]? = some x := ⟨_, List.getElem?_eq_getElem hll⟩
        have hxw := hL x (List.mem_of_getElem? hx)
        have ib : inB (lo : Int) L.length = true := inB_iff.2 ⟨by omega, by omega⟩
        have ee : elt ziiii L (lo : Int).toNat = x := by unfold elt; rw [Int.toNat_natCast, hx]; rfl
        have e1 := behind1_eq d hxw hn hd hr
        simp only [c2, cond_true, ib, ee, slices_BinarySearchFunc_api_Meeting_api_Meeting_api_Ratio_at_meet_behind_1_K, e1]
        exact ⟨_, rfl⟩
      · have c2 : decide ((lo : Int) < (L.length : Int)) = false := by rw [decide_eq_false_iff_not]; omega
        simp only [c2, cond_false]
        exact ⟨_, rfl⟩
theorem behind_eq (d : Nat) (hf : 5000 ≤ d) {L : List M4} {n dd : Int} (hL : ∀ x ∈ L, okW x) (hlen : L.length ≤ 4096) (hs : L.Pairwise fun a b => ltM b a = false) (hn : i64B n = true) (hd : i64B dd = true) (hr : ratioChk n dd = 0) : F_meet_behind d ((L, ()), (n, dd, ()), ()) = some (idxM n dd L : Int) := by
  obtain ⟨b, hb⟩ := bs_loop d hL hlen hs hn hd hr d 0 L.length (by omega) (by omega) (Nat.le_refl _) (fun j x hj => by omega) (fun j x hj hx => by have := (List.getElem?_eq_some_iff.1 hx).1; omega)
  have e1 : F_slices_BinarySearchFunc_api_Meeting_api_Meeting_api_Ratio_at_meet_behind_1 d ((L, ()), (n, dd, ()), (), ()) = some ((idxM n dd L : Int), b) := by
    simp only [F_slices_BinarySearchFunc_api_Meeting_api_Meeting_api_Ratio_at_meet_behind_1, slices_BinarySearchFunc_api_Meeting_api_Meeting_api_Ratio_at_meet_behind_1_K, slices_BinarySearchFunc_api_Meeting_api_Meeting_api_Ratio_at_meet_behind_1_r0, slices_BinarySearchFunc_api_Meeting_api_Meeting_api_Ratio_at_meet_behind_1_r1, slices_BinarySearchFunc_api_Meeting_api_Meeting_api_Ratio_at_meet_behind_1_r2, Dt.eval]
    exact hb
  simp only [F_meet_behind, meet_behind_K, meet_behind_r0, meet_behind_r1, meet_behind_r2, Dt.eval, e1]
def chk2 (l : List T3) (n dd n' dd' : Int) : Int := if fieldChk (ptsL l) ≠ 0 then fieldChk (ptsL l) else if ratioChk n dd ≠ 0 then ratioChk n dd else if ratioChk n' dd' ≠ 0 then ratioChk n' dd' else if 0 < cmpQ n dd n' dd' then 2 else 0
theorem check0_eq (d : Nat) (hf : 5 ≤ d) (l : List T3) : F_meet_check d ((l, ()), ([], ()), ()) = some (fieldChk (ptsL l)) := by
  obtain ⟨n, rfl⟩ : ∃ n, d = n + 5 := ⟨d - 5, by omega⟩
  have e1 : F_field_Check (n + 5) ((l, ()), ()) = some (fieldChk (ptsL l)) := F_field_Check_eq _ _ rfl
  simp only [F_meet_check, meet_check_K, meet_check_r0, meet_check_r1, meet_check_r2, meet_check_r3, meet_check_r4, Dt.eval, e1]
  by_cases h : fieldChk (ptsL l) = 0
  · rw [h]
    simp [iter, meet_check_L1, meet_check_r5, meet_check_r6, meet_check_r7, meet_check_r8, meet_check_r9, meet_check_r10, meet_check_r11, meet_check_r12, meet_check_r13, Dt.eval]
  · have hb : (fieldChk (ptsL l) != 0) = true := by simpa using h
    simp only [hb, cond_true]
theorem check2_eq (d : Nat) (hf : 5 ≤ d) (l : List T3) (n dd n' dd' : Int) (hn : i64B n = true) (hd : i64B dd = true) (hn' : i64B n' = true) (hd' : i64B dd' = true) : F_meet_check d ((l, ()), ([(n, dd, ()), (n', dd', ())], ()), ()) = some (chk2 l n dd n' dd') := by
  obtain ⟨k, rfl⟩ : ∃ k, d = k + 5 := ⟨d - 5, by omega⟩
  have e1 : F_field_Check (k + 5) ((l, ()), ()) = some (fieldChk (ptsL l)) := F_field_Check_eq _ _ rfl
  have e2 : F_ratio_Check (k + 5) ((n, dd, ()), ()) = some (ratioChk n dd) := F_ratio_Check_eq _ _ (by unfold ratio_Check_if; simp only [hn, hd, Bool.and_self])
  have e3 : F_ratio_Check (k + 5) ((n', dd', ()), ()) = some (ratioChk n' dd') := F_ratio_Check_eq _ _ (by unfold ratio_Check_if; simp only [hn', hd', Bool.and_self])
  have e4 := later_eq (k + 5) n dd n' dd' hn hd hn' hd'
  have w1 : IntKind.wrap .i64 (1 : Int) = 1 := by decide
  have w2 : IntKind.wrap .i64 (2 : Int) = 2 := by decide
  have b0 : inB 0 2 = true := by decide
  have b1 : inB 1 2 = true := by decide
  unfold chk2
  simp only [F_meet_check, meet_check_K, meet_check_r0, meet_check_r1, meet_check_r2, meet_check_r3, meet_check_r4, Dt.eval, e1]
  by_cases h : fieldChk (ptsL l) = 0
  · rw [h]
    by_cases h2 : ratioChk n dd = 0
    · by_cases h3 : ratioChk n' dd' = 0
      · unfold cmpR at e4
        rw [if_pos ⟨h2, h3⟩] at e4
        by_cases h4 : 0 < cmpQ n dd n' dd'
        · simp [iter, meet_check_L1, meet_check_r5, meet_check_r6, meet_check_r7, meet_check_r8, meet_check_r9, meet_check_r10, meet_check_r11, meet_check_r12, meet_check_r13, Dt.eval, meet_check_K, e2, e3, e4, h2, h3, h4, w1, w2, b0, b1, elt]
        · simp [iter, meet_check_L1, meet_check_r5, meet_check_r6, meet_check_r7, meet_check_r8, meet_check_r9, meet_check_r10, meet_check_r11, meet_check_r12, meet_check_r13, Dt.eval, meet_check_K, e2, e3, e4, h2, h3, h4, w1, w2, b0, b1, elt]
      · simp [iter, meet_check_L1, meet_check_r5, meet_check_r6, meet_check_r7, meet_check_r8, meet_check_r9, meet_check_r10, meet_check_r11, meet_check_r12, meet_check_r13, Dt.eval, meet_check_K, e2, e3, h2, h3, w1, w2, b0, b1, elt, show (ratioChk n' dd' != 0) = true by simpa using h3]
    · simp [iter, meet_check_L1, meet_check_r5, meet_check_r6, meet_check_r7, meet_check_r8, meet_check_r9, meet_check_r10, meet_check_r11, meet_check_r12, meet_check_r13, Dt.eval, meet_check_K, e2, h2, w1, b0, elt, show (ratioChk n dd != 0) = true by simpa using h2]
  · have hb : (fieldChk (ptsL l) != 0) = true := by simpa using h
    simp only [hb, cond_true, ne_eq, h, not_false_eq_true, if_true]
theorem fldOk_of {l : List T3} (h : fieldChk (ptsL l) = 0) : FldOk l := by
  obtain ⟨h1, h2, h3⟩ := fieldChk_zero h
  rw [ptsL_len] at h1
  refine ⟨h1, fun p hp => h2 _ (List.mem_map_of_mem hp), ?_⟩
  rw [List.pairwise_iff_getElem]
  intro i j hi hj hij
  have hg : ∀ k (hk : k < l.length), (ptsL l)[k]? = some (ofP l[k]) := fun k hk => by unfold ptsL; rw [List.getElem?_map, List.getElem?_eq_getElem hk]; rfl
  exact inc_lt h3 hij (hg i hi) (hg j hj)
theorem allM_w {l : List T3} (h : FldOk l) : ∀ x ∈ allM l, okW x := fun x hx => ⟨(allM_ok h hx).1, (allM_ok h hx).2.1, (allM_ok h hx).2.2⟩
/-- meet.Last -/
def lastV (l : List T3) : Int × Int × Int := if fieldChk (ptsL l) ≠ 0 then (0, 0, fieldChk (ptsL l)) else match (allM l)[(allM l).length - 1]? with
  | some x => (x.1, x.2.1, 0)
  | none => (0, 0, 6)
theorem last_eq (d : Nat) (hf : 5000 ≤ d) (l : List T3) : F_meet_Last d ((l, ()), ()) = some (lastV l) := by
  have e1 := check0_eq d (by omega) l
  unfold lastV
  simp only [F_meet_Last, meet_Last_K, meet_Last_r0, meet_Last_r1, meet_Last_r2, meet_Last_r3, meet_Last_r4, meet_Last_r5, meet_Last_r6, meet_Last_r7, Dt.eval, e1]
  by_cases h : fieldChk (ptsL l) = 0
  · have hok := fldOk_of h
    have e2 := all_eq d (by omega) hok
    have hlen := allM_len hok
    simp only [h, show ((0 : Int) != 0) = false from rfl, cond_false, Dt.eval, e2, ne_eq, not_true_eq_false, if_false]
    rcases Nat.eq_zero_or_pos (allM l).length with h0 | h0
    · have c1 : (((allM l).length : Int) == 0) = true := by rw [beq_iff_eq]; omega
      have hx : (allM l)[(allM l).length - 1]? = none := List.getElem?_eq_none (by omega)
      simp only [c1, cond_true, hx]
    · have c1 : (((allM l).length : Int) == 0) = false := by rw [beq_eq_false_iff_ne]; omega
      have w1 : IntKind.wrap .i64 (((allM l).length : Int) - 1) = (((allM l).length - 1 : Nat) : Int) := by rw [IntWalk.i64_in _ (by omega)]; omega
      obtain ⟨x, hx⟩ : ∃ x, (allM l)[(allM l).length - 1]? = some x := ⟨_, List.getElem?_eq_getElem (by omega)⟩
      have ib : inB (((allM l).length - 1 : Nat) : Int) (allM l).length = true := inB_iff.2 ⟨by omega, by omega⟩
      have ee : elt ziiii (allM l) (((allM l).length - 1 : Nat) : Int).toNat = x := by unfold elt; rw [Int.toNat_natCast, hx]; rfl
      simp only [c1, cond_false, w1, ib, cond_true, ee, hx]
  · have hb : (fieldChk (ptsL l) != 0) = true := by simpa using h
    simp only [hb, cond_true, ne_eq, h, not_false_eq_true, if_true]
end Go.Proofs.YtmagihjfbembjaaGreat

namespace Go.Pel
open Go Go.Tx
end Go.Pel
namespace Go.Proofs.YtmagihjfbembjaaGreat
open Go Go.Tx Go.Pel
theorem wrap_succ {k : Nat} (h : k < 1000000) : IntKind.wrap .i64 ((k : Int) + 1) = ((k + 1 : Nat) : Int) := by rw [IntWalk.i64_in _ (by omega)]; omega
theorem elt_some {α : Type} {z : α} {l : List α} {k : Nat} {x : α} (h : l[k]? = some x) : elt z l (k : Int).toNat = x := by unfold elt; rw [Int.toNat_natCast, h]; rfl
theorem inB_of {k n : Nat} (h : k < n) : inB (k : Int) n = true := inB_iff.2 ⟨by omega, by omega⟩
theorem dec_lt {a b : Nat} (h : a < b) : decide ((a : Int) < (b : Int)) = true := by rw [decide_eq_true_eq]; omega
theorem dec_nlt {a b : Nat} (h : ¬ a < b) : decide ((a : Int) < (b : Int)) = false := by rw [decide_eq_false_iff_not]; omega
theorem drop_of {α : Type} {l : List α} {k : Nat} {x : α} (h : l[k]? = some x) : l.drop k = x :: l.drop (k + 1) := by
  obtain ⟨h1, rfl⟩ := List.getElem?_eq_some_iff.1 h
  exact List.drop_eq_getElem_cons h1
end Go.Proofs.YtmagihjfbembjaaGreat

namespace Go.Proofs.YtmagihjfbembjaaGreat
open Go Go.Tx Go.Pel
theorem rChk_eq (d : Nat) {n dd : Int} (hn : i64B n = true) (hd : i64B dd = true) : F_ref01_Check d ((n, dd, ()), ()) = some (ratioChk n dd) := F_ref01_Check_eq _ _ (by unfold ref01_Check_if; simp only [hn, hd, Bool.and_self])
theorem i64B_in {a : Int} (h : -9223372036854775808 ≤ a ∧ a ≤ 9223372036854775807) : i64B a = true := by
  unfold i64B; simp only [Bool.and_eq_true, decide_eq_true_eq]; exact h
end Go.Proofs.YtmagihjfbembjaaGreat

namespace Go.Pel
open Go Go.Tx
theorem filter_up {α : Type} {p : α → Bool} : ∀ {L : List α}, (L.Pairwise fun a b => p a = true → p b = true) → L.filter p = L.drop (L.findIdx p)
  | [], _ => rfl
  | x :: xs, h => by
    obtain ⟨h1, h2⟩ := List.pairwise_cons.1 h
    rw [List.findIdx_cons]
    cases hp : p x with
    | true =>
      rw [cond_true, List.drop_zero, List.filter_eq_self]
      intro y hy
      rcases List.mem_cons.1 hy with rfl | hy
      · exact hp
      · exact h1 y hy hp
    | false =>
      rw [cond_false, List.drop_succ_cons, List.filter_cons_of_neg (by rw [hp]; decide), filter_up h2]
theorem filter_dn {α : Type} {p : α → Bool} : ∀ {L : List α}, (L.Pairwise fun a b => p a = true → p b = true) → L.filter (fun x => !p x) = L.take (L.findIdx p)
  | [], _ => rfl
  | x :: xs, h => by
    obtain ⟨h1, h2⟩ := List.pairwise_cons.1 h
    rw [List.findIdx_cons]
    cases hp : p x with
    | true =>
      rw [cond_true, List.take_zero, List.filter_eq_nil_iff]
      intro y hy
      rcases List.mem_cons.1 hy with rfl | hy
      · rw [hp]; decide
      · rw [h1 y hy hp]; decide
    | false =>
      rw [cond_false, List.take_succ_cons, List.filter_cons_of_pos (by rw [hp]; decide), filter_dn h2]
theorem gtM_pw {n dd : Int} (hd : 1 ≤ dd) {L : List M4} (hL : ∀ x ∈ L, okM x) (hs : L.Pairwise fun a b => ltM b a = false) : L.Pairwise fun a b => gtM n dd a = true → gtM n dd b = true := by
  rw [List.pairwise_iff_getElem] at hs ⊢
  intro i j hi hj hij h
  exact gtM_mono hd hL (List.pairwise_iff_getElem.2 hs) (Nat.le_of_lt hij) (List.getElem?_eq_getElem hi) (List.getElem?_eq_getElem hj) h
/-- not before in time -/
def leQ (n dd n' dd' : Int) : Prop := n * dd' ≤ n' * dd
theorem leQ_iff (n dd n' dd' : Int) : leQ n dd n' dd' ↔ ¬ 0 < cmpQ n dd n' dd' := by
  unfold leQ cmpQ cmpZ
  repeat' split
  all_goals omega
theorem gtM_le {n dd n' dd' : Int} (hd : 1 ≤ dd) (hd' : 1 ≤ dd') (hle : leQ n dd n' dd') {x : M4} (hx : okM x) (h : gtM n' dd' x = true) : gtM n dd x = true := by
  have o1 := (ratioChk_zero hx).1
  rw [gtM_iff] at h ⊢
  exact q_lt' hd hd' o1 hle h
theorem idxM_le {n dd n' dd' : Int} (hd : 1 ≤ dd) (hd' : 1 ≤ dd') (hle : leQ n dd n' dd') {L : List M4} (hL : ∀ x ∈ L, okM x) : idxM n dd L ≤ idxM n' dd' L := by
  unfold idxM
  induction L with
  | nil => exact Nat.le_refl _
  | cons x xs ih =>
    have := ih fun y hy => hL y (List.mem_cons_of_mem _ hy)
    rw [List.findIdx_cons, List.findIdx_cons]
    cases h1 : gtM n dd x with
    | true => rw [cond_true]; omega
    | false =>
      cases h2 : gtM n' dd' x with
      | true => rw [gtM_le hd hd' hle (hL x (List.mem_cons_self ..)) h2] at h1; cases h1
      | false => rw [cond_false, cond_false]; omega
theorem idxM_len (n dd : Int) (L : List M4) : idxM n dd L ≤ L.length := List.findIdx_le_length
/-- the meetings of a list that come between two times -/
def cutM (L : List M4) (n dd n' dd' : Int) : List M4 := (L.take (idxM n' dd' L)).drop (idxM n dd L)
def inM (n dd n' dd' : Int) (x : M4) : Bool := gtM n dd x && !gtM n' dd' x
theorem cutM_eq {n dd n' dd' : Int} (hd : 1 ≤ dd) (hd' : 1 ≤ dd') (hle : leQ n dd n' dd') {L : List M4} (hL : ∀ x ∈ L, okM x) (hs : L.Pairwise fun a b => ltM b a = false) : L.filter (inM n dd n' dd') = cutM L n dd n' dd' := by
  have e1 : L.filter (inM n dd n' dd') = (L.filter fun x => !gtM n' dd' x).filter (gtM n dd) := by rw [List.filter_filter]; rfl
  have e2 := filter_dn (gtM_pw (n := n') (dd := dd') hd' hL hs)
  have hp : (L.take (idxM n' dd' L)).Pairwise fun a b => gtM n dd a = true → gtM n dd b = true := (gtM_pw hd hL hs).sublist (List.take_sublist _ _)
  have h3 := idxM_le hd hd' hle hL
  rw [e1, e2]
  unfold cutM
  rw [show L.findIdx (gtM n' dd') = idxM n' dd' L from rfl, filter_up hp, List.findIdx_take]
  congr 1
  unfold idxM at h3 ⊢
  omega
theorem cutM_len (L : List M4) (n dd n' dd' : Int) : (cutM L n dd n' dd').length ≤ L.length := by unfold cutM; rw [List.length_drop, List.length_take]; omega
end Go.Pel
namespace Go.Proofs.YtmagihjfbembjaaGreat
open Go Go.Tx Go.Pel
theorem chk2_zero {l : List T3} {n dd n' dd' : Int} (h : chk2 l n dd n' dd' = 0) : FldOk l ∧ ratioChk n dd = 0 ∧ ratioChk n' dd' = 0 ∧ leQ n dd n' dd' := by
  unfold chk2 at h
  by_cases h1 : fieldChk (ptsL l) = 0
  · rw [if_neg (by simpa using h1)] at h
    by_cases h2 : ratioChk n dd = 0
    · rw [if_neg (by simpa using h2)] at h
      by_cases h3 : ratioChk n' dd' = 0
      · rw [if_neg (by simpa using h3)] at h
        by_cases h4 : 0 < cmpQ n dd n' dd'
        · rw [if_pos h4] at h; cases h
        · exact ⟨fldOk_of h1, h2, h3, (leQ_iff ..).2 h4⟩
      · rw [if_pos h3] at h; exact absurd h h3
    · rw [if_pos h2] at h; exact absurd h h2
  · rw [if_pos h1] at h; exact absurd h h1
/-- meet.All -/
def allV (l : List T3) (n dd n' dd' : Int) : List M4 × Int := if chk2 l n dd n' dd' ≠ 0 then ([], chk2 l n dd n' dd') else (cutM (allM l) n dd n' dd', 0)
theorem mAll_eq (d : Nat) (hf : 5000 ≤ d) (l : List T3) {n dd n' dd' : Int} (hn : i64B n = true) (hd : i64B dd = true) (hn' : i64B n' = true) (hd' : i64B dd' = true) : F_meet_All d ((l, ()), (n, dd, ()), (n', dd', ()), ()) = some (allV l n dd n' dd') := by
  have e1 := check2_eq d (by omega) l n dd n' dd' hn hd hn' hd'
  unfold allV
  simp only [F_meet_All, meet_All_K, meet_All_r0, meet_All_r1, meet_All_r2, meet_All_r3, meet_All_r4, meet_All_r5, meet_All_r6, Dt.eval, e1]
  by_cases h : chk2 l n dd n' dd' = 0
  · obtain ⟨hok, h2, h3, h4⟩ := chk2_zero h
    have e2 := all_eq d (by omega) hok
    have e3 := behind_eq d hf (allM_w hok) (allM_len hok) (allM_pw hok) hn hd h2
    have e4 := behind_eq d hf (allM_w hok) (allM_len hok) (allM_pw hok) hn' hd' h3
    have hle := idxM_le (ratioChk_zero h2).1 (ratioChk_zero h3).1 h4 fun x hx => (allM_w hok x hx).ok
    have hln := idxM_len n' dd' (allM l)
    have hc : cut3B (idxM n dd (allM l) : Int) (idxM n' dd' (allM l) : Int) (idxM n' dd' (allM l) : Int) (allM l).length = true := by
      unfold cut3B; simp only [Bool.and_eq_true, decide_eq_true_eq]; omega
    simp only [h, show ((0 : Int) != 0) = false from rfl, cond_false, Dt.eval, e2, e3, e4, ne_eq, not_true_eq_false, if_false, hc, cond_true, Int.toNat_natCast]
    rfl
  · have hb : (chk2 l n dd n' dd' != 0) = true := by simpa using h
    simp only [hb, cond_true, ne_eq, h, not_false_eq_true, if_true]
theorem le_gt {x : M4} {n dd : Int} : decide (cmpQ x.1 x.2.1 n dd ≤ 0) = !gtM n dd x := by
  unfold gtM
  rw [← decide_not]
  congr 1
  exact propext (by omega)
theorem same_loop (d : Nat) {L : List M4} (hlen : L.length ≤ 4096) : ∀ (f i : Nat), L.length - i < f → i ≤ L.length → iter (ref04_Same_L1 d) f (L, L, (i : Int)) = some true
  | 0, i, hf, _ => by omega
  | f + 1, i, hf, hi => by
    have ih := same_loop d hlen f (i + 1)
    rw [iter]
    revert ih
    generalize iter (ref04_Same_L1 d) f = self
    intro ih
    unfold ref04_Same_L1
    simp only [ref04_Same_r4, ref04_Same_r5, ref04_Same_r6, ref04_Same_r7, ref04_Same_r8, Dt.eval]
    by_cases hlt : i < L.length
    · simp only [dec_lt hlt, cond_true, inB_of hlt, beq_self_eq_true, Bool.and_self, Bool.not_true, cond_false, wrap_succ (show i < 1000000 by omega)]
      exact ih (by omega) (by omega)
    · simp only [dec_nlt hlt, cond_false]
theorem rSame_refl (d : Nat) (hf : 5000 ≤ d) {L : List M4} (hlen : L.length ≤ 4096) : F_ref04_Same d ((L, ()), (L, ()), ()) = some true := by
  have e := same_loop d hlen d 0 (by omega) (by omega)
  simp only [F_ref04_Same, ref04_Same_K, ref04_Same_r0, ref04_Same_r1, ref04_Same_r2, ref04_Same_r3, Dt.eval, bne_self_eq_false, cond_false]
  exact e
end Go.Proofs.YtmagihjfbembjaaGreat

namespace Go.Tx
end Go.Tx
namespace Go.Proofs.YtmagihjfbembjaaGreat
open Go Go.Tx Go.Pel
end Go.Proofs.YtmagihjfbembjaaGreat

namespace Go.Pel
open Go Go.Tx
theorem cut_get {α : Type} {L : List α} {f t : Nat} (h1 : f < t) : ((L.take t).drop f)[0]? = L[f]? := by
  rw [List.getElem?_drop, Nat.add_zero, List.getElem?_take, if_pos h1]
end Go.Pel
namespace Go.Proofs.YtmagihjfbembjaaGreat
open Go Go.Tx Go.Pel
end Go.Proofs.YtmagihjfbembjaaGreat

namespace Go.Pel
open Go Go.Tx
theorem mk_mul {n d : Int} (hd : d ≠ 0) (hn : n.natAbs ≤ 4194304) (hd2 : d.natAbs ≤ 4194304) : (mk n d).1 * d = n * (mk n d).2.1 := by
  have hg := mk_gcd_pos (n := n) hd
  rw [mk_some hd]
  have b1 : n.natAbs / Nat.gcd n.natAbs d.natAbs ≤ n.natAbs := Nat.div_le_self _ _
  have b2 : d.natAbs / Nat.gcd n.natAbs d.natAbs ≤ d.natAbs := Nat.div_le_self _ _
  have e1 : Nat.gcd n.natAbs d.natAbs * (n.natAbs / Nat.gcd n.natAbs d.natAbs) = n.natAbs := Nat.mul_div_cancel' (Nat.gcd_dvd_left _ _)
  have e2 : Nat.gcd n.natAbs d.natAbs * (d.natAbs / Nat.gcd n.natAbs d.natAbs) = d.natAbs := Nat.mul_div_cancel' (Nat.gcd_dvd_right _ _)
  have e3 := (fun (G A B N D : Nat) (k1 : G * A = N) (k2 : G * B = D) => (by subst k1 k2; rw [Nat.mul_left_comm, Nat.mul_assoc] : A * D = N * B)) _ _ _ _ _ e1 e2
  generalize n.natAbs / Nat.gcd n.natAbs d.natAbs = A at *
  generalize d.natAbs / Nat.gcd n.natAbs d.natAbs = B at *
  have e4 : (A : Int) * (d.natAbs : Int) = (n.natAbs : Int) * (B : Int) := by exact_mod_cast e3
  have hno : ¬ (0 < 0 ∨ 9223372036854775807 < A ∨ 0 < 0 ∨ 9223372036854775807 < B) := by omega
  by_cases h1 : n < 0 <;> by_cases h2 : d < 0
  · rw [show (decide (n < 0) != decide (d < 0)) = false by simp [h1, h2], bld_pos hno]
    rw [show (d.natAbs : Int) = -d by omega, show (n.natAbs : Int) = -n by omega, Int.mul_neg, Int.neg_mul] at e4
    show (A : Int) * d = n * (B : Int)
    omega
  · rw [show (decide (n < 0) != decide (d < 0)) = true by simp [h1, h2], bld_neg hno]
    rw [show (d.natAbs : Int) = d by omega, show (n.natAbs : Int) = -n by omega, Int.neg_mul] at e4
    show -(A : Int) * d = n * (B : Int)
    rw [Int.neg_mul]; omega
  · rw [show (decide (n < 0) != decide (d < 0)) = true by simp [h1, h2], bld_neg hno]
    rw [show (d.natAbs : Int) = -d by omega, show (n.natAbs : Int) = n by omega, Int.mul_neg] at e4
    show -(A : Int) * d = n * (B : Int)
    rw [Int.neg_mul]; omega
  · rw [show (decide (n < 0) != decide (d < 0)) = false by simp [h1, h2], bld_pos hno]
    rw [show (d.natAbs : Int) = d by omega, show (n.natAbs : Int) = n by omega] at e4
    exact e4
theorem sg_pos {F D B X : Int} (hD : 0 < D) (hB : 0 < B) (h : F * D = B * X) : (0 < F ↔ 0 < X) ∧ (F = 0 ↔ X = 0) := by
  have f : (0 < F ∧ 0 < F * D) ∨ (F = 0 ∧ F * D = 0) ∨ (F < 0 ∧ F * D < 0) := by
    rcases (by omega : 0 < F ∨ F = 0 ∨ F < 0) with k | k | k
    · exact .inl ⟨k, Int.mul_pos k hD⟩
    · exact .inr (.inl ⟨k, by rw [k, Int.zero_mul]⟩)
    · exact .inr (.inr ⟨k, Int.mul_neg_of_neg_of_pos k hD⟩)
  have g : (0 < X ∧ 0 < B * X) ∨ (X = 0 ∧ B * X = 0) ∨ (X < 0 ∧ B * X < 0) := by
    rcases (by omega : 0 < X ∨ X = 0 ∨ X < 0) with k | k | k
    · exact .inl ⟨k, Int.mul_pos hB k⟩
    · exact .inr (.inl ⟨k, by rw [k, Int.mul_zero]⟩)
    · exact .inr (.inr ⟨k, Int.mul_neg_of_pos_of_neg hB k⟩)
  generalize F * D = U at *
  generalize B * X = V at *
  omega
theorem sg_neg {F D B X : Int} (hD : 0 < D) (hB : B < 0) (h : F * D = B * X) : (0 < F ↔ X < 0) ∧ (F = 0 ↔ X = 0) := by
  have := sg_pos (F := F) (B := -B) (X := -X) hD (by omega) (by rw [Int.neg_mul_neg]; exact h)
  omega
theorem leads_sg {p q : Pt} {n d : Int} : leads p q n d = true ↔ 0 < farD p q n d ∨ (farD p q n d = 0 ∧ (q.b < p.b ∨ (p.b = q.b ∧ p.id < q.id))) := by
  unfold leads
  by_cases h : farD p q n d = 0
  · rw [if_neg (by omega)]
    by_cases hb : p.b = q.b
    · rw [if_neg (by omega), decide_eq_true_eq]; omega
    · rw [if_pos hb, decide_eq_true_eq]; omega
  · rw [if_pos h, decide_eq_true_eq]; omega
theorem pt_bd' {p : T3} (h : okP p) : 0 ≤ p.1 ∧ p.1 ≤ 65535 ∧ -1048576 ≤ p.2.1 ∧ p.2.1 ≤ 1048576 ∧ -1048576 ≤ p.2.2.1 ∧ p.2.2.1 ≤ 1048576 := pointChk_zero (show pointChk p.1 p.2.1 p.2.2.1 = 0 from h)
/-- a meeting is a time at which both are at the same place -/
theorem mtP_eq {x : T3 × T3} (hp : okP x.1) (hq : okP x.2) {m : M4} (h : mtP x = some m) : x.1.2.2.1 ≠ x.2.2.2.1 ∧ okM m ∧ m.1.natAbs ≤ 4194304 ∧ m.2.1 ≤ 4194304 ∧ m.2.2.1 = x.1.1 ∧ m.2.2.2.1 = x.2.1 ∧ (x.1.2.1 - x.2.2.1) * m.2.1 + (x.1.2.2.1 - x.2.2.2.1) * m.1 = 0 := by
  obtain ⟨_, _, a1, a2, a3, a4⟩ := pt_bd' hp
  obtain ⟨_, _, b1, b2, b3, b4⟩ := pt_bd' hq
  unfold mtP at h
  by_cases hb : x.1.2.2.1 = x.2.2.2.1
  · rw [if_pos hb] at h; cases h
  · rw [if_neg hb] at h
    injection h with h
    subst h
    obtain ⟨_, h2, h3, h4⟩ := mk_ok (n := x.1.2.1 - x.2.2.1) (d := x.2.2.2.1 - x.1.2.2.1) (by omega) (by omega) (by omega)
    have h5 := mk_mul (n := x.1.2.1 - x.2.2.1) (d := x.2.2.2.1 - x.1.2.2.1) (by omega) (by omega) (by omega)
    refine ⟨hb, h2, h3, h4, rfl, rfl, ?_⟩
    show (x.1.2.1 - x.2.2.1) * (mk (x.1.2.1 - x.2.2.1) (x.2.2.2.1 - x.1.2.2.1)).2.1 + (x.1.2.2.1 - x.2.2.2.1) * (mk (x.1.2.1 - x.2.2.1) (x.2.2.2.1 - x.1.2.2.1)).1 = 0
    rw [← h5, Int.mul_comm (x.1.2.2.1 - x.2.2.2.1), ← Int.mul_add, show x.2.2.2.1 - x.1.2.2.1 + (x.1.2.2.1 - x.2.2.2.1) = 0 by omega, Int.mul_zero]
theorem leads_mt {x : T3 × T3} (hp : okP x.1) (hq : okP x.2) {m : M4} (h : mtP x = some m) {n dd : Int} : leads (ofP x.1) (ofP x.2) n dd = (if x.2.2.2.1 < x.1.2.2.1 then !gtM n dd m else gtM n dd m) := by
  obtain ⟨hb, hm, _, _, _, _, e⟩ := mtP_eq hp hq h
  have hD := (ratioChk_zero hm).1
  have key : farD (ofP x.1) (ofP x.2) n dd * m.2.1 = (x.1.2.2.1 - x.2.2.2.1) * (n * m.2.1 - m.1 * dd) := by
    show ((x.1.2.1 - x.2.2.1) * dd + (x.1.2.2.1 - x.2.2.2.1) * n) * m.2.1 = _
    rw [Int.add_mul, Int.mul_sub, Int.mul_right_comm (x.1.2.1 - x.2.2.1), show (x.1.2.1 - x.2.2.1) * m.2.1 = -((x.1.2.2.1 - x.2.2.2.1) * m.1) by omega, Int.neg_mul, Int.mul_assoc, Int.mul_assoc]
    omega
  have hg := gtM_iff n dd m
  have hl := leads_sg (p := ofP x.1) (q := ofP x.2) (n := n) (d := dd)
  have hbb : (ofP x.2).b < (ofP x.1).b ↔ x.2.2.2.1 < x.1.2.2.1 := Iff.rfl
  have hbe : (ofP x.1).b = (ofP x.2).b ↔ x.1.2.2.1 = x.2.2.2.1 := Iff.rfl
  by_cases hlt : x.2.2.2.1 < x.1.2.2.1
  · obtain ⟨s1, s2⟩ := sg_pos (by omega : 0 < m.2.1) (by omega : 0 < x.1.2.2.1 - x.2.2.2.1) key
    rw [if_pos hlt]
    cases h1 : gtM n dd m with
    | true =>
      rw [h1] at hg
      have := hg.1 rfl
      cases h2 : leads (ofP x.1) (ofP x.2) n dd with
      | false => rfl
      | true => rw [h2] at hl; have := hl.1 rfl; omega
    | false =>
      rw [h1] at hg
      have : ¬ n * m.2.1 < m.1 * dd := fun k => by cases hg.2 k
      exact hl.2 (by omega)
  · obtain ⟨s1, s2⟩ := sg_neg (by omega : 0 < m.2.1) (by omega : x.1.2.2.1 - x.2.2.2.1 < 0) key
    rw [if_neg hlt]
    cases h1 : gtM n dd m with
    | true =>
      rw [h1] at hg
      have := hg.1 rfl
      exact hl.2 (by omega)
    | false =>
      rw [h1] at hg
      have : ¬ n * m.2.1 < m.1 * dd := fun k => by cases hg.2 k
      cases h2 : leads (ofP x.1) (ofP x.2) n dd with
      | false => rfl
      | true => rw [h2] at hl; have := hl.1 rfl; omega
theorem leads_same {p q : T3} (hb : p.2.2.1 = q.2.2.1) {n dd n' dd' : Int} (hd : 1 ≤ dd) (hd' : 1 ≤ dd') : leads (ofP p) (ofP q) n dd = leads (ofP p) (ofP q) n' dd' := by
  have f : ∀ {n d : Int}, 1 ≤ d → (0 < farD (ofP p) (ofP q) n d ↔ 0 < p.2.1 - q.2.1) ∧ (farD (ofP p) (ofP q) n d = 0 ↔ p.2.1 - q.2.1 = 0) := fun {n d} h => by
    have e : farD (ofP p) (ofP q) n d = (p.2.1 - q.2.1) * d := by
      show (p.2.1 - q.2.1) * d + (p.2.2.1 - q.2.2.1) * n = _
      rw [hb, Int.sub_self, Int.zero_mul, Int.add_zero]
    have := sg_pos (F := p.2.1 - q.2.1) (D := d) (B := 1) (X := farD (ofP p) (ofP q) n d) (by omega) (by omega) (by rw [e, Int.one_mul])
    omega
  obtain ⟨f1, f2⟩ := f (n := n) hd
  obtain ⟨g1, g2⟩ := f (n := n') hd'
  rw [Bool.eq_iff_iff, leads_sg, leads_sg]
  have hbb : (ofP p).b = (ofP q).b := hb
  omega
theorem pairsL_idx {α : Type} : ∀ {l : List α} {x : α × α}, x ∈ pairsL l → ∃ i j : Nat, i < j ∧ l[i]? = some x.1 ∧ l[j]? = some x.2
  | [], x, h => by cases h
  | p :: r, x, h => by
    rw [pairsL, List.mem_append, List.mem_map] at h
    rcases h with ⟨q, hq, rfl⟩ | h
    · obtain ⟨j, hj, rfl⟩ := List.mem_iff_getElem.1 hq
      exact ⟨0, j + 1, by omega, rfl, by simp⟩
    · obtain ⟨i, j, h1, h2, h3⟩ := pairsL_idx h
      exact ⟨i + 1, j + 1, by omega, by simpa using h2, by simpa using h3⟩
theorem pairsL_ids : ∀ {l : List T3}, (l.Pairwise fun p q => p.1 < q.1) → (pairsL l).Pairwise fun x y => x.1.1 ≠ y.1.1 ∨ x.2.1 ≠ y.2.1
  | [], _ => List.Pairwise.nil
  | p :: r, h => by
    obtain ⟨h1, h2⟩ := List.pairwise_cons.1 h
    rw [pairsL, List.pairwise_append]
    refine ⟨?_, pairsL_ids h2, ?_⟩
    · rw [List.pairwise_map]
      exact h2.imp fun {a b} hab => .inr (by show a.1 ≠ b.1; omega)
    · intro a ha b hb
      obtain ⟨q, hq, rfl⟩ := List.mem_map.1 ha
      have := h1 _ (pairsL_mem hb h2).1
      exact .inl (by show p.1 ≠ b.1.1; omega)
theorem allM_strict {l : List T3} (h : FldOk l) : (allM l).Pairwise fun a b => ltM a b = true := by
  have hn : (meetsL l).Pairwise fun a b => a ≠ b := by
    unfold meetsL
    rw [List.pairwise_filterMap]
    refine ((pairsL_ids h.inc).imp_of_mem fun {a b} ha hb hab => ?_)
    intro m hm m' hm' heq
    subst heq
    obtain ⟨g1, g2, _⟩ := pairsL_mem ha h.inc
    obtain ⟨k1, k2, _⟩ := pairsL_mem hb h.inc
    obtain ⟨_, _, _, _, i1, i2, _⟩ := mtP_eq (h.ok _ g1) (h.ok _ g2) hm
    obtain ⟨_, _, _, _, j1, j2, _⟩ := mtP_eq (h.ok _ k1) (h.ok _ k2) hm'
    omega
  have hn2 : (allM l).Pairwise fun a b => a ≠ b := ((allM_perm l).pairwise_iff (R := fun a b => a ≠ b) (fun {a b} h => Ne.symm h)).2 hn
  refine (List.Pairwise.and_mem.1 ((allM_pw h).and hn2)).imp fun {a b} ⟨ha, hb, h1, h2⟩ => ?_
  cases hab : ltM a b with
  | true => rfl
  | false => exact absurd (ltM_eq (allM_ok h ha).1 (allM_ok h hb).1 hab h1) h2
theorem allM_from {l : List T3} (h : FldOk l) {m : M4} (hm : m ∈ allM l) : ∃ (i j : Nat) (p q : T3), i < j ∧ l[i]? = some p ∧ l[j]? = some q ∧ mtP (p, q) = some m := by
  have := (allM_perm l).mem_iff.1 hm
  unfold meetsL at this
  obtain ⟨x, hx, hxm⟩ := List.mem_filterMap.1 this
  obtain ⟨i, j, h1, h2, h3⟩ := pairsL_idx hx
  exact ⟨i, j, x.1, x.2, h1, h2, h3, hxm⟩
theorem cutM_mem {L : List M4} {n dd n' dd' : Int} (hd : 1 ≤ dd) (hd' : 1 ≤ dd') (hle : leQ n dd n' dd') (hL : ∀ x ∈ L, okM x) (hs : L.Pairwise fun a b => ltM b a = false) {x : M4} (hx : x ∈ cutM L n dd n' dd') : x ∈ L ∧ gtM n dd x = true ∧ gtM n' dd' x = false := by
  rw [← cutM_eq hd hd' hle hL hs, List.mem_filter] at hx
  unfold inM at hx
  simpa using hx
end Go.Pel
namespace Go.Proofs.YtmagihjfbembjaaGreat
open Go Go.Tx Go.Pel
end Go.Proofs.YtmagihjfbembjaaGreat

namespace Go.Pel
open Go Go.Tx
theorem leads_self (p : Pt) (n d : Int) : leads p p n d = false := by
  cases h : leads p p n d with
  | false => rfl
  | true =>
    have := leads_sg.1 h
    have e : farD p p n d = 0 := by unfold farD; rw [Int.sub_self, Int.sub_self, Int.zero_mul, Int.zero_mul]; rfl
    omega
theorem leads_asym {p q : Pt} {n d : Int} (hi : p.id ≠ q.id) : leads q p n d = !leads p q n d := by
  have e : farD q p n d = -farD p q n d := by
    unfold farD
    rw [show q.a - p.a = -(p.a - q.a) by omega, show q.b - p.b = -(p.b - q.b) by omega, Int.neg_mul, Int.neg_mul]
    omega
  have h1 := leads_sg (p := p) (q := q) (n := n) (d := d)
  have h2 := leads_sg (p := q) (q := p) (n := n) (d := d)
  cases k1 : leads p q n d <;> cases k2 : leads q p n d
  · rw [k1] at h1; rw [k2] at h2
    have a1 : ¬ (0 < farD p q n d ∨ (farD p q n d = 0 ∧ (q.b < p.b ∨ (p.b = q.b ∧ p.id < q.id)))) := fun k => by cases h1.2 k
    have a2 : ¬ (0 < farD q p n d ∨ (farD q p n d = 0 ∧ (p.b < q.b ∨ (q.b = p.b ∧ q.id < p.id)))) := fun k => by cases h2.2 k
    omega
  · rfl
  · rfl
  · have a1 := h1.1 k1
    have a2 := h2.1 k2
    omega
theorem pairsL_of {α : Type} : ∀ {l : List α} {i j : Nat} {p q : α}, i < j → l[i]? = some p → l[j]? = some q → (p, q) ∈ pairsL l
  | [], i, j, p, q, _, h, _ => by simp at h
  | x :: r, 0, j + 1, p, q, _, h1, h2 => by
    rw [pairsL, List.mem_append, List.mem_map]
    simp only [List.getElem?_cons_zero, Option.some.injEq] at h1
    rw [List.getElem?_cons_succ] at h2
    exact .inl ⟨q, List.mem_of_getElem? h2, by rw [h1]⟩
  | x :: r, i + 1, j + 1, p, q, h, h1, h2 => by
    rw [pairsL, List.mem_append]
    rw [List.getElem?_cons_succ] at h1 h2
    exact .inr (pairsL_of (by omega) h1 h2)
theorem mtP_mem {l : List T3} {i j : Nat} {p q : T3} (h : i < j) (hp : l[i]? = some p) (hq : l[j]? = some q) {m : M4} (hm : mtP (p, q) = some m) : m ∈ allM l := by
  rw [(allM_perm l).mem_iff]
  unfold meetsL
  exact List.mem_filterMap.2 ⟨_, pairsL_of h hp hq, hm⟩
/-- no meeting is behind a time -/
def Past (l : List T3) (n dd : Int) : Prop := ∀ m ∈ allM l, gtM n dd m = false
theorem ids_ne {l : List T3} (h : FldOk l) {i j : Nat} {p q : T3} (hij : i < j) (hp : l[i]? = some p) (hq : l[j]? = some q) : p.1 < q.1 := by
  obtain ⟨h1, rfl⟩ := List.getElem?_eq_some_iff.1 hp
  obtain ⟨h2, rfl⟩ := List.getElem?_eq_some_iff.1 hq
  exact (List.pairwise_iff_getElem.1 h.inc) i j h1 h2 hij
theorem pts_mem {l : List T3} {P : Pt} (h : P ∈ ptsL l) : ∃ p ∈ l, ofP p = P := List.mem_map.1 h
theorem find_in {l : List T3} (h : FldOk l) (h0 : fieldChk (ptsL l) = 0) {p : T3} (hp : p ∈ l) : fieldFind (ptsL l) p.1 = (ofP p, 0) := by
  have hb : hasB (ptsL l) p.1 = true := by
    unfold hasB
    rw [List.any_eq_true]
    exact ⟨ofP p, List.mem_map_of_mem hp, decide_eq_true rfl⟩
  obtain ⟨_, P, h1, h2⟩ := atI_low (fieldChk_zero h0).2.2 hb
  unfold fieldFind
  rw [if_neg (by simpa using h0), if_pos hb, List.getD_eq_getElem?_getD, h1]
  unfold ptsL at h1
  rw [List.getElem?_map] at h1
  cases hq : l[lowB (List.map ofP l) p.1]? with
  | none => rw [hq] at h1; cases h1
  | some q =>
    rw [hq] at h1
    injection h1 with h1
    subst h1
    obtain ⟨i, hi⟩ := List.mem_iff_getElem?.1 hp
    have h2 : q.1 = p.1 := h2
    rcases (by omega : i < lowB (List.map ofP l) p.1 ∨ i = lowB (List.map ofP l) p.1 ∨ lowB (List.map ofP l) p.1 < i) with k | k | k
    · have := ids_ne h k hi hq; omega
    · rw [← k, hi] at hq; injection hq with hq; subst hq; rfl
    · have := ids_ne h k hq hi; omega
theorem past_last {l : List T3} {x : M4} (hs : (allM l).Pairwise fun a b => ltM b a = false) (hx : (allM l)[(allM l).length - 1]? = some x) : Past l x.1 x.2.1 := by
  intro y hy
  obtain ⟨i, hi, rfl⟩ := List.mem_iff_getElem.1 hy
  obtain ⟨hl, rfl⟩ := List.getElem?_eq_some_iff.1 hx
  cases hg : gtM ((allM l)[(allM l).length - 1]).1 ((allM l)[(allM l).length - 1]).2.1 (allM l)[i] with
  | false => rfl
  | true =>
    rw [gtM_iff] at hg
    rcases (by omega : i < (allM l).length - 1 ∨ i = (allM l).length - 1) with k | k
    · have := ltM_not _ _ ((List.pairwise_iff_getElem.1 hs) i ((allM l).length - 1) hi hl k)
      omega
    · subst k; omega
end Go.Pel
namespace Go.Proofs.YtmagihjfbembjaaGreat
open Go Go.Tx Go.Pel
theorem order_at (d : Nat) {l : List T3} (hl : l.length ≤ 64) (h0 : fieldChk (ptsL l) = 0) {n dd : Int} (hn : i64B n = true) (hd : i64B dd = true) (hr : ratioChk n dd = 0) : F_field_Order d ((l, ()), (n, dd, ()), ()) = some (unI ((ordI n dd (ptsL l)).map Pt.id), 0) := by
  rw [F_field_Order_eq _ _ (by unfold field_Order_if; simp only [hn, hd, Bool.and_self, Bool.true_and, decide_eq_true_eq]; rw [ptsL_len]; omega)]
  have e : fieldOrderI (ptsL l) n dd = ((ordI n dd (ptsL l)).map Pt.id, 0) := by unfold fieldOrderI; rw [if_neg (by simpa using h0), if_neg (by simpa using hr)]
  show some (unI (fieldOrderI (ptsL l) n dd).1, (fieldOrderI (ptsL l) n dd).2) = _
  rw [e]
theorem find_at (d : Nat) {l : List T3} (h : FldOk l) (h0 : fieldChk (ptsL l) = 0) {p : T3} (hp : p ∈ l) : F_field_Find d ((l, ()), (p.1, ()), ()) = some (p.1, p.2.1, p.2.2.1, 0) := by
  rw [F_field_Find_eq _ _ rfl]
  show some ((fieldFind (ptsL l) p.1).1.id, (fieldFind (ptsL l) p.1).1.a, (fieldFind (ptsL l) p.1).1.b, (fieldFind (ptsL l) p.1).2) = _
  rw [find_in h h0 hp]
  rfl
end Go.Proofs.YtmagihjfbembjaaGreat

namespace Go.Tx
theorem stabV_of {τ : Row} {F : den τ × den τ × Unit → Option Int} {xs r : List (den τ)} (hl : xs.length ≤ 19) (h : sortV F xs = some r) : stabV F xs = some r := by
  unfold stabV
  rw [show Nat.ble xs.length 19 = true by rw [Nat.ble_eq]; exact hl, cond_true]
  exact h
end Go.Tx
namespace Go.Proofs.YtmagihjfbembjaaGreat
open Go Go.Tx Go.Pel
def oth (id : Int) (x : M4) : Int := if x.2.2.1 = id then x.2.2.2.1 else x.2.2.1
def oC (id : Int) (x : M4) : M4 := (x.1, x.2.1, oth id x, 0, ())
def cmpC (id : Int) (x y : M4) : Int := cmpM (oC id x) (oC id y)
def ltC (id : Int) (x y : M4) : Bool := ltM (oC id x) (oC id y)
structure okC (id : Int) (x : M4) : Prop where
  w : okW x
  lt : x.2.2.1 < x.2.2.2.1
  me : x.2.2.1 = id ∨ x.2.2.2.1 = id
theorem cmpC_eq (id : Int) (x y : M4) : cmpC id x y = orZ (cmpQ x.1 x.2.1 y.1 y.2.1) (cmpZ (oth id x) (oth id y)) := by
  unfold cmpC cmpM oC
  simp only
  have : orZ (cmpZ (oth id x) (oth id y)) (cmpZ 0 0) = cmpZ (oth id x) (oth id y) := by
    unfold orZ
    by_cases h : cmpZ (oth id x) (oth id y) = 0
    · simp only [h]; decide
    · simp only [h, ne_eq, not_false_eq_true, if_true]
  rw [this]
theorem okC.ok {id : Int} {x : M4} (h : okC id x) : okM (oC id x) := h.w.ok
theorem okC.eq {id : Int} {x y : M4} (hx : okC id x) (hy : okC id y) (h : oC id x = oC id y) : x = y := by
  obtain ⟨_, h2, h3⟩ := hx
  obtain ⟨_, k2, k3⟩ := hy
  obtain ⟨a, b, c, e, ⟨⟩⟩ := x
  obtain ⟨a', b', c', e', ⟨⟩⟩ := y
  unfold oC oth at h
  simp only [Prod.mk.injEq, and_true] at h h2 h3 k2 k3
  obtain ⟨rfl, rfl, h⟩ := h
  have : c = c' ∧ e = e' := by
    split at h <;> split at h <;> omega
  obtain ⟨rfl, rfl⟩ := this
  rfl
theorem ltC_eq {id : Int} {x y : M4} (hx : okC id x) (hy : okC id y) (h : ltC id x y = false) (k : ltC id y x = false) : x = y := hx.eq hy (ltM_eq hx.ok hy.ok h k)
theorem ltC_neg {id : Int} {x y z : M4} (hx : okC id x) (hy : okC id y) (hz : okC id z) (h : ltC id x y = false) (k : ltC id y z = false) : ltC id x z = false := ltM_neg hx.ok hy.ok hz.ok h k
theorem ltC_iff (id : Int) (x y : M4) : ltC id x y = true ↔ x.1 * y.2.1 < y.1 * x.2.1 ∨ (x.1 * y.2.1 = y.1 * x.2.1 ∧ oth id x < oth id y) := by
  unfold ltC
  rw [ltM_iff]
  unfold oC
  simp only
  omega
theorem sortC_pw {id : Int} {l : List M4} (hok : ∀ x ∈ l, okC id x) : (sortL (ltC id) l).Pairwise fun a b => ltC id b a = false :=
  sortL_pw (S := okC id) (fun _ _ _ _ h => ltM_asymm h) (fun _ _ _ hx hy hz h k => ltC_neg hx hy hz h k) l hok
theorem orInt2_eq (d : Nat) (hd : 5 ≤ d) (a b : Int) : F_cmp_Or_int d (([(a, ()), (b, ())], ()), ()) = some (orZ a b) := by
  obtain ⟨n, rfl⟩ : ∃ n, d = n + 5 := ⟨d - 5, by omega⟩
  have w1 : IntKind.wrap .i64 ((0 : Int) + 1) = 1 := by decide
  have w2 : IntKind.wrap .i64 ((1 : Int) + 1) = 2 := by decide
  have w4 : IntKind.wrap .i64 (1 : Int) = 1 := by decide
  have w5 : IntKind.wrap .i64 (2 : Int) = 2 := by decide
  have b0 : inB 0 2 = true := by decide
  have b1 : inB 1 2 = true := by decide
  unfold orZ
  by_cases ha : a = 0
  · by_cases hb : b = 0
    · subst ha hb
      simp [F_cmp_Or_int, cmp_Or_int_K, cmp_Or_int_r0, cmp_Or_int_r1, cmp_Or_int_r2, cmp_Or_int_r3, cmp_Or_int_r4, cmp_Or_int_r5, cmp_Or_int_r6, cmp_Or_int_r7, cmp_Or_int_r8, cmp_Or_int_L1, iter, Dt.eval, w1, w2, w4, w5, b0, b1, elt]
    · subst ha
      simp [F_cmp_Or_int, cmp_Or_int_K, cmp_Or_int_r0, cmp_Or_int_r1, cmp_Or_int_r2, cmp_Or_int_r3, cmp_Or_int_r4, cmp_Or_int_r5, cmp_Or_int_r6, cmp_Or_int_r7, cmp_Or_int_r8, cmp_Or_int_L1, iter, Dt.eval, w1, w2, w4, w5, b0, b1, elt, show (b != 0) = true by simpa using hb]
  · simp [F_cmp_Or_int, cmp_Or_int_K, cmp_Or_int_r0, cmp_Or_int_r1, cmp_Or_int_r2, cmp_Or_int_r3, cmp_Or_int_r4, cmp_Or_int_r5, cmp_Or_int_r6, cmp_Or_int_r7, cmp_Or_int_r8, cmp_Or_int_L1, iter, Dt.eval, w1, w2, w4, w5, b0, b1, elt, show (a != 0) = true by simpa using ha]
    intro h; exact absurd h ha
theorem other_eq (d : Nat) (x : M4) (id : Int) : F_chase_other d ((x.1, x.2.1, x.2.2.1, x.2.2.2.1, ()), (id, ()), ()) = some (oth id x) := by
  unfold oth
  simp only [F_chase_other, chase_other_K, chase_other_r0, chase_other_r1, chase_other_r2, chase_other_r3, chase_other_r4, Dt.eval]
  by_cases h : x.2.2.1 = id
  · simp only [h, beq_self_eq_true, cond_true, if_true]
  · simp only [show (x.2.2.1 == id) = false by simpa using h, cond_false, h, if_false]
theorem behind2_eq (d : Nat) (hd : 5 ≤ d) {id : Int} {x y : M4} (hx : okW x) (hy : okW y) : F_chase_behind_2 d (x, y, (id, ()), ()) = some (cmpC id x y) := by
  have e1 : F_ratio_Cmp d ((x.1, x.2.1, ()), (y.1, y.2.1, ()), ()) = some (cmpQ x.1 x.2.1 y.1 y.2.1, 0) := by
    rw [rCmp_eq d _ _ _ _ hx.b1 hx.b2 hy.b1 hy.b2]; unfold cmpR; rw [if_pos ⟨hx.ok, hy.ok⟩]
  have e2 := cmpInt_eq d (oth id x) (oth id y)
  rw [cmpC_eq]
  simp only [F_chase_behind_2, chase_behind_2_K, chase_behind_2_r0, chase_behind_2_r1, chase_behind_2_r2, Dt.eval, e1, other_eq, e2, orInt2_eq d hd]
def stC (d : Nat) (id : Int) (xs : List M4) : Option (List M4) := stabV (τ := Riiii) (fun p => F_chase_behind_2 d (p.1, p.2.1, (id, ()), ())) xs
theorem stabC_eq (d : Nat) (hd : 5 ≤ d) {id : Int} {xs : List M4} (h : ∀ x ∈ xs, okC id x) (hl : xs.length ≤ 19) : stC d id xs = some (sortL (ltC id) xs) := by
  exact stabV_of (τ := Riiii) hl <| sortV_gen (τ := Riiii) (S := okC id) (lt := ltC id) (c := cmpC id) h (fun x y hx hy => behind2_eq d hd hx.w hy.w) (fun _ _ => rfl) (fun x => ltM_irr _) (fun x y z hx hy hz => ltM_trans hx.ok hy.ok hz.ok) (fun x y z hx hy hz => ltM_neg hx.ok hy.ok hz.ok) (fun x y hx hy h1 h2 => by
    have := ltC_eq hx hy h1 h2
    subst this
    show (x.1 == x.1 && (x.2.1 == x.2.1 && (x.2.2.1 == x.2.2.1 && (x.2.2.2.1 == x.2.2.2.1 && true)))) = true
    simp only [beq_self_eq_true, Bool.and_self]) (Nat.le_trans hl (by decide))
/-- the meeting of p and q -/
def chV (p q : T3) : M4 := ((mk (p.2.1 - q.2.1) (q.2.2.1 - p.2.2.1)).1, (mk (p.2.1 - q.2.1) (q.2.2.1 - p.2.2.1)).2.1, tmin p.1 q.1, tmax p.1 q.1, ())
def chM (p : T3) (n dd : Int) (q : T3) : Option M4 := if q.1 = p.1 then none else if p.2.2.1 = q.2.2.1 then none else if gtM n dd (chV p q) then some (chV p q) else none
theorem chV_ok {p q : T3} (hp : okP p) (hq : okP q) (hi : q.1 ≠ p.1) (hb : p.2.2.1 ≠ q.2.2.1) : okC p.1 (chV p q) := by
  obtain ⟨_, _, a1, a2, a3, a4⟩ := pt_bd hp
  obtain ⟨_, _, b1, b2, b3, b4⟩ := pt_bd hq
  have hm := mk_ok (n := p.2.1 - q.2.1) (d := q.2.2.1 - p.2.2.1) (by omega) (by omega) (by omega)
  refine ⟨⟨hm.2.1, hm.2.2.1, hm.2.2.2⟩, ?_, ?_⟩
  · show tmin p.1 q.1 < tmax p.1 q.1
    unfold tmin tmax; split <;> split <;> omega
  · show tmin p.1 q.1 = p.1 ∨ tmax p.1 q.1 = p.1
    unfold tmin tmax; split <;> split <;> omega
theorem chM_ok {p q : T3} {n dd : Int} {x : M4} (hp : okP p) (hq : okP q) (h : chM p n dd q = some x) : okC p.1 x ∧ gtM n dd x = true ∧ x = chV p q ∧ q.1 ≠ p.1 ∧ p.2.2.1 ≠ q.2.2.1 := by
  unfold chM at h
  split at h
  · cases h
  · rename_i h1
    split at h
    · cases h
    · rename_i h2
      split at h
      · rename_i h3; injection h with h; subst h; exact ⟨chV_ok hp hq h1 h2, h3, rfl, h1, h2⟩
      · cases h
theorem behind1_clo (d : Nat) {p q : T3} {n dd : Int} (hp : okP p) (hq : okP q) (hi : q.1 ≠ p.1) (hn : i64B n = true) (hdd : i64B dd = true) (hr : ratioChk n dd = 0) {out : List M4} (hl : out.length ≤ 99999) :
    F_chase_behind_1 d (((q.1, q.2.1, q.2.2.1, ()), (p.1, p.2.1, p.2.2.1, ()), (n, dd, ()), ()), ((p.1, ()), ()), out) = some (out ++ (chM p n dd q).toList) := by
  have e1 := meet_eq d hp hq (Ne.symm hi)
  have ha : apB out.length 1 = true := by unfold apB; rw [Nat.ble_eq]; omega
  unfold F_chase_behind_1 chase_behind_1_f chase_behind_1_K chM
  simp only [e1]
  by_cases hb : p.2.2.1 = q.2.2.1
  · simp only [hb, if_true, if_neg hi]
    simp
  · have hv := chV_ok hp hq hi hb
    have e2 := rCmp_eq d (chV p q).1 (chV p q).2.1 n dd hv.w.b1 hv.w.b2 hn hdd
    unfold cmpR at e2
    rw [if_pos ⟨hv.w.ok, hr⟩] at e2
    have e3 : F_ratio_Cmp d (((mk (p.2.1 - q.2.1) (q.2.2.1 - p.2.2.1)).1, (mk (p.2.1 - q.2.1) (q.2.2.1 - p.2.2.1)).2.1, ()), (n, dd, ()), ()) = some (cmpQ (chV p q).1 (chV p q).2.1 n dd, 0) := e2
    simp only [hb, if_false, if_neg hi, e3, show (!((0 : Int) == 0)) = false from rfl, cond_false]
    have e4 : decide (cmpQ (chV p q).1 (chV p q).2.1 n dd > 0) = gtM n dd (chV p q) := rfl
    rw [e4]
    cases hg : gtM n dd (chV p q) with
    | true => simp only [cond_true, ha, if_true]; rfl
    | false => simp
theorem beh_loop (d : Nat) {l : List T3} (h : FldOk l) {p : T3} (hp : okP p) {n dd : Int} (hn : i64B n = true) (hdd : i64B dd = true) (hr : ratioChk n dd = 0) {z : List M4} : ∀ (f i : Nat) (out : List M4), l.length - i < f → i ≤ l.length → out.length + (l.length - i) ≤ 99999 →
    stC d p.1 (out ++ (l.drop i).filterMap (chM p n dd)) = some z →
    iter (chase_behind_L1 d) f (l, (l.length : Int), (i : Int), p.1, out, p.1, p.2.1, p.2.2.1, n, dd) = some z := by
  have hl64 := h.len
  intro f
  induction f with
  | zero => intro i out hf; omega
  | succ f ih =>
    intro i out hf hi ho hz
    rw [iter]
    unfold chase_behind_L1
    rcases Nat.lt_or_ge i l.length with hlt | hge
    · obtain ⟨q, hq⟩ : ∃ q, l[i]? = some q := ⟨_, List.getElem?_eq_getElem hlt⟩
      have hqm : q ∈ l := List.mem_of_getElem? hq
      rw [drop_of hq, List.filterMap_cons] at hz
      have ew := wrap_succ (k := i) (by omega)
      simp only [chase_behind_r5, chase_behind_r6, chase_behind_r7, Dt.eval, dec_lt hlt, cond_true, inB_of hlt, elt_some hq]
      by_cases hid : q.1 = p.1
      · have e0 : chM p n dd q = none := by unfold chM; rw [if_pos hid]
        rw [e0] at hz
        simp only [hid, bne_self_eq_false, cond_false, chase_behind_J2, chase_behind_r9, Dt.eval, ew]
        exact ih (i + 1) out (by omega) (by omega) (by omega) hz
      · have e1 := behind1_clo d (n := n) (dd := dd) hp (h.ok q hqm) hid hn hdd hr (out := out) (by omega)
        simp only [show (q.1 != p.1) = true by simpa using hid, cond_true, chase_behind_r8, chase_behind_K, Dt.eval, e1, chase_behind_J2, chase_behind_r9, ew]
        refine ih (i + 1) _ (by omega) (by omega) ?_ ?_
        · have : (chM p n dd q).toList.length ≤ 1 := by cases chM p n dd q <;> simp
          rw [List.length_append]; omega
        · rw [← hz]
          refine congrArg (stC d p.1) ?_
          cases chM p n dd q <;> simp
    · rw [List.drop_eq_nil_of_le hge, List.filterMap_nil, List.append_nil] at hz
      have hz2 : stabV (τ := Riiii) (fun x => F_chase_behind_2 d (x.1, x.2.1, (p.1, ()), ())) out = some z := hz
      simp only [chase_behind_r5, chase_behind_r10, chase_behind_r11, chase_behind_K, Dt.eval, dec_nlt (show ¬ i < l.length by omega), cond_false, hz2]
/-- the meetings of a point behind a time -/
def chL (l : List T3) (p : T3) (n dd : Int) : List M4 := sortL (ltC p.1) (l.filterMap (chM p n dd))
theorem chL_perm (l : List T3) (p : T3) (n dd : Int) : (chL l p n dd).Perm (l.filterMap (chM p n dd)) := sortL_perm _ _
theorem chL_mem {l : List T3} {p : T3} {n dd : Int} {x : M4} : x ∈ chL l p n dd ↔ ∃ q ∈ l, chM p n dd q = some x := by
  rw [(chL_perm l p n dd).mem_iff, List.mem_filterMap]
theorem chL_ok {l : List T3} (h : FldOk l) {p : T3} (hp : okP p) {n dd : Int} : ∀ x ∈ chL l p n dd, okC p.1 x ∧ gtM n dd x = true := fun x hx => by
  obtain ⟨q, hq, hx⟩ := chL_mem.1 hx
  have := chM_ok hp (h.ok q hq) hx
  exact ⟨this.1, this.2.1⟩
theorem chL_len (l : List T3) (p : T3) (n dd : Int) : (chL l p n dd).length ≤ l.length := by
  rw [(chL_perm l p n dd).length_eq]; exact List.length_filterMap_le _ _
theorem chL_pw {l : List T3} (h : FldOk l) {p : T3} (hp : okP p) {n dd : Int} : (chL l p n dd).Pairwise fun a b => ltC p.1 b a = false :=
  sortC_pw fun x hx => by
    obtain ⟨q, hq, hx⟩ := List.mem_filterMap.1 hx
    exact (chM_ok hp (h.ok q hq) hx).1
theorem beh_eq (d : Nat) (hd : 100 ≤ d) {l : List T3} (h : FldOk l) (h0 : fieldChk (ptsL l) = 0) (h19 : l.length ≤ 19) {p : T3} (hp : p ∈ l) {n dd : Int} (hn : i64B n = true) (hdd : i64B dd = true) (hr : ratioChk n dd = 0) :
    F_chase_behind d ((l, ()), (p.1, ()), (n, dd, ()), ()) = some (chL l p n dd) := by
  have e1 := find_at d h h0 hp
  have hl64 := h.len
  have hz : stC d p.1 ([] ++ (l.drop 0).filterMap (chM p n dd)) = some (chL l p n dd) := by
    rw [List.nil_append, List.drop_zero]
    refine stabC_eq d (by omega) (fun x hx => ?_) (Nat.le_trans (List.length_filterMap_le _ _) h19)
    obtain ⟨q, hq, hx⟩ := List.mem_filterMap.1 hx
    exact (chM_ok (h.ok p hp) (h.ok q hq) hx).1
  have e2 := beh_loop d h (h.ok p hp) hn hdd hr d 0 [] (by omega) (by omega) (by simp; omega) hz
  simp only [F_chase_behind, chase_behind_K, chase_behind_r0, chase_behind_r1, chase_behind_r2, chase_behind_r3, chase_behind_r4, Dt.eval, e1]
  exact e2
end Go.Proofs.YtmagihjfbembjaaGreat

namespace Go.Pel
open Go Go.Tx
/-- nobody is ahead of a point at a time -/
def Lead (l : List T3) (n dd : Int) (p : T3) : Prop := p ∈ l ∧ ∀ q ∈ l, leads (ofP q) (ofP p) n dd = false
theorem ids_eq {l : List T3} (h : FldOk l) {p q : T3} (hp : p ∈ l) (hq : q ∈ l) (hi : p.1 = q.1) : p = q := by
  obtain ⟨i, hi'⟩ := List.mem_iff_getElem?.1 hp
  obtain ⟨j, hj⟩ := List.mem_iff_getElem?.1 hq
  rcases (by omega : i < j ∨ i = j ∨ j < i) with k | k | k
  · have := ids_ne h k hi' hj; omega
  · subst k; rw [hi'] at hj; exact Option.some.inj hj
  · have := ids_ne h k hj hi'; omega
theorem Lead.ahead {l : List T3} (h : FldOk l) {n dd : Int} {p q : T3} (hp : Lead l n dd p) (hq : q ∈ l) (hne : q.1 ≠ p.1) : leads (ofP p) (ofP q) n dd = true := by
  rw [leads_asym (p := ofP q) (q := ofP p) hne, hp.2 q hq]; rfl
theorem mtP_some {p q : T3} (hb : p.2.2.1 ≠ q.2.2.1) : ∃ m, mtP (p, q) = some m := by
  unfold mtP
  simp only [hb, if_false]
  exact ⟨_, rfl⟩
/-- a slower one does not pass -/
theorem stay_slow {p q : T3} (hp : okP p) (hq : okP q) {n dd n' dd' : Int} (hd : 1 ≤ dd) (hd' : 1 ≤ dd') (hle : leQ n dd n' dd') (hb : ¬ p.2.2.1 < q.2.2.1) (h : leads (ofP p) (ofP q) n dd = true) : leads (ofP p) (ofP q) n' dd' = true := by
  by_cases he : p.2.2.1 = q.2.2.1
  · rw [← leads_same he hd hd']; exact h
  · obtain ⟨m, hm⟩ := mtP_some he
    have k1 := leads_mt (x := (p, q)) hp hq hm (n := n) (dd := dd)
    have k2 := leads_mt (x := (p, q)) hp hq hm (n := n') (dd := dd')
    simp only [show q.2.2.1 < p.2.2.1 by omega, if_true] at k1 k2
    rw [h] at k1
    rw [k2]
    cases hg : gtM n' dd' m with
    | false => rfl
    | true =>
      rw [gtM_le hd hd' hle (mtP_eq (x := (p, q)) hp hq hm).2.1 hg] at k1
      cases k1
/-- a faster one passes at the meeting -/
theorem stay_fast {p q : T3} (hp : okP p) (hq : okP q) (hb : p.2.2.1 < q.2.2.1) {m : M4} (hm : mtP (p, q) = some m) (n dd : Int) : leads (ofP p) (ofP q) n dd = gtM n dd m := by
  have k1 := leads_mt (x := (p, q)) hp hq hm (n := n) (dd := dd)
  simp only [show ¬ q.2.2.1 < p.2.2.1 by omega, if_false] at k1
  exact k1
/-- no point is faster -/
def NoFast (l : List T3) (p : T3) : Prop := ∀ q ∈ l, ¬ p.2.2.1 < q.2.2.1
/-- the first meeting with a faster point -/
def Nxt (l : List T3) (p : T3) (n dd : Int) : Prop := (∃ q ∈ l, ∃ m, p.2.2.1 < q.2.2.1 ∧ mtP (p, q) = some m ∧ m.1 = n ∧ m.2.1 = dd) ∧ ∀ q ∈ l, ∀ m, p.2.2.1 < q.2.2.1 → mtP (p, q) = some m → ¬ m.1 * dd < n * m.2.1
theorem Nxt.ok {l : List T3} (h : FldOk l) {p : T3} (hp : p ∈ l) {n dd : Int} (k : Nxt l p n dd) : ratioChk n dd = 0 ∧ n.natAbs ≤ 4194304 ∧ dd ≤ 4194304 := by
  obtain ⟨q, hq, m, hb, hm, rfl, rfl⟩ := k.1
  obtain ⟨_, h1, h2, h3, _⟩ := mtP_eq (x := (p, q)) (h.ok p hp) (h.ok q hq) hm
  exact ⟨h1, h2, h3⟩
theorem Nxt.not {l : List T3} {p : T3} {n dd : Int} (k : Nxt l p n dd) (k' : NoFast l p) : False := by
  obtain ⟨q, hq, m, hb, _⟩ := k.1
  exact k' q hq hb
/-- at the first meeting the old leader is not behind anybody in place -/
theorem nxt_far {l : List T3} (h : FldOk l) {p : T3} {n dd n' dd' : Int} (hd : 1 ≤ dd) (hd' : 1 ≤ dd') (hle : leQ n dd n' dd') (hp : Lead l n dd p) (hmin : ∀ q ∈ l, ∀ m, p.2.2.1 < q.2.2.1 → mtP (p, q) = some m → ¬ m.1 * dd' < n' * m.2.1) {q : T3} (hq : q ∈ l) : q.2.1 * dd' + q.2.2.1 * n' ≤ p.2.1 * dd' + p.2.2.1 * n' := by
  have hpo := h.ok p hp.1
  have hqo := h.ok q hq
  by_cases hi : q.1 = p.1
  · rw [ids_eq h hq hp.1 hi]; exact Int.le_refl _
  · have ha := hp.ahead h hq hi
    by_cases hb : p.2.2.1 < q.2.2.1
    · obtain ⟨m, hm⟩ := mtP_some (p := p) (q := q) (by omega)
      have k := hmin q hq m hb hm
      obtain ⟨_, hmo, _, _, _, _, e⟩ := mtP_eq (x := (p, q)) hpo hqo hm
      have hl := stay_fast hpo hqo hb hm n' dd'
      cases hg : gtM n' dd' m with
      | true =>
        rw [hg] at hl
        rcases (leads_key ..).1 hl with k1 | ⟨k1, k2⟩
        · have : q.2.1 * dd' + q.2.2.1 * n' < p.2.1 * dd' + p.2.2.1 * n' := k1
          omega
        · have : q.2.1 * dd' + q.2.2.1 * n' = p.2.1 * dd' + p.2.2.1 * n' := k1
          omega
      | false =>
        -- the meeting is at the time itself
        have hg' : ¬ n' * m.2.1 < m.1 * dd' := fun k => by rw [(gtM_iff n' dd' m).2 k] at hg; cases hg
        have hD := (ratioChk_zero hmo).1
        have key : farD (ofP p) (ofP q) n' dd' * m.2.1 = (p.2.2.1 - q.2.2.1) * (n' * m.2.1 - m.1 * dd') := by
          show ((p.2.1 - q.2.1) * dd' + (p.2.2.1 - q.2.2.1) * n') * m.2.1 = _
          simp only at e
          rw [Int.add_mul, Int.mul_sub, Int.mul_right_comm (p.2.1 - q.2.1), show (p.2.1 - q.2.1) * m.2.1 = -((p.2.2.1 - q.2.2.1) * m.1) by omega, Int.neg_mul, Int.mul_assoc, Int.mul_assoc]
          omega
        rw [show n' * m.2.1 - m.1 * dd' = 0 by omega, Int.mul_zero] at key
        have hz : farD (ofP p) (ofP q) n' dd' = 0 := by
          rcases Int.mul_eq_zero.1 key with k | k
          · exact k
          · omega
        have : farD (ofP p) (ofP q) n' dd' = (p.2.1 * dd' + p.2.2.1 * n') - (q.2.1 * dd' + q.2.2.1 * n') := by
          show (p.2.1 - q.2.1) * dd' + (p.2.2.1 - q.2.2.1) * n' = _
          rw [Int.sub_mul, Int.sub_mul]; omega
        omega
    · have hl := stay_slow hpo hqo hd hd' hle hb ha
      rcases (leads_key ..).1 hl with k1 | ⟨k1, k2⟩
      · have : q.2.1 * dd' + q.2.2.1 * n' < p.2.1 * dd' + p.2.2.1 * n' := k1
        omega
      · have : q.2.1 * dd' + q.2.2.1 * n' = p.2.1 * dd' + p.2.2.1 * n' := k1
        omega
/-- two points at their meeting -/
theorem mt_place {p q : T3} (hp : okP p) (hq : okP q) {m : M4} (hm : mtP (p, q) = some m) : q.2.1 * m.2.1 + q.2.2.1 * m.1 = p.2.1 * m.2.1 + p.2.2.1 * m.1 := by
  obtain ⟨_, _, _, _, _, _, e⟩ := mtP_eq (x := (p, q)) hp hq hm
  simp only at e
  rw [Int.sub_mul, Int.sub_mul] at e
  omega
/-- the first meeting comes later than the lead -/
theorem nxt_later {l : List T3} (h : FldOk l) {p q : T3} {n dd : Int} (hp : Lead l n dd p) (hq : q ∈ l) (hb : p.2.2.1 < q.2.2.1) {m : M4} (hm : mtP (p, q) = some m) : gtM n dd m = true := by
  have hi : q.1 ≠ p.1 := fun hi => by rw [ids_eq h hq hp.1 hi] at hb; omega
  rw [← stay_fast (h.ok p hp.1) (h.ok q hq) hb hm]
  exact hp.ahead h hq hi
theorem gt_leQ {n dd : Int} {m : M4} (h : gtM n dd m = true) : leQ n dd m.1 m.2.1 := by have := (gtM_iff n dd m).1 h; unfold leQ; omega
/-- leads, one after the other: each until the first meeting with a faster point -/
inductive Crest (l : List T3) : T3 → Int → Int → List T3 → Prop
  | last (p : T3) (n dd : Int) : NoFast l p → Crest l p n dd [(n, dd, p.1, ())]
  | next (p : T3) (n dd n' dd' : Int) (p' : T3) (r : List T3) : Nxt l p n' dd' → Lead l n' dd' p' → Crest l p' n' dd' r → Crest l p n dd ((n, dd, p.1, ()) :: r)
theorem Crest.head {l : List T3} {p : T3} {n dd : Int} {a : List T3} (ha : Crest l p n dd a) : ∃ r, a = (n, dd, p.1, ()) :: r := by
  cases ha with
  | last _ _ _ _ => exact ⟨_, rfl⟩
  | next _ _ _ _ _ _ r _ _ _ => exact ⟨r, rfl⟩
/-- the one that leads next is faster -/
theorem nxt_fast {l : List T3} (h : FldOk l) {p p' : T3} {n dd n' dd' : Int} (hd : 1 ≤ dd) (hp : Lead l n dd p) (h1 : Nxt l p n' dd') (h2 : Lead l n' dd' p') : p.2.2.1 < p'.2.2.1 := by
  obtain ⟨q, hq, m, hb, hm, rfl, rfl⟩ := h1.1
  have hpo := h.ok p hp.1
  have hqo := h.ok q hq
  have hmo := (mtP_eq (x := (p, q)) hpo hqo hm).2.1
  have hD := (ratioChk_zero hmo).1
  have hle := gt_leQ (nxt_later h hp hq hb hm)
  have hfar := nxt_far h hd hD hle hp h1.2 h2.1
  have hpl := mt_place hpo hqo hm
  have hl := h2.2 q hq
  have k : ¬ ((p'.2.1 * m.2.1 + p'.2.2.1 * m.1 < q.2.1 * m.2.1 + q.2.2.1 * m.1) ∨ (p'.2.1 * m.2.1 + p'.2.2.1 * m.1 = q.2.1 * m.2.1 + q.2.2.1 * m.1 ∧ (p'.2.2.1 < q.2.2.1 ∨ (p'.2.2.1 = q.2.2.1 ∧ q.1 < p'.1)))) := leads_f hl
  omega
/-- how many points are faster -/
def fastN (l : List T3) (p : T3) : Nat := l.countP fun q => decide (p.2.2.1 < q.2.2.1)
theorem fastN_lt {l : List T3} {p p' : T3} (hp : p' ∈ l) (hb : p.2.2.1 < p'.2.2.1) : fastN l p' < fastN l p := by
  unfold fastN
  induction l with
  | nil => cases hp
  | cons x xs ih =>
    rw [List.countP_cons, List.countP_cons]
    have hmono : xs.countP (fun q => decide (p'.2.2.1 < q.2.2.1)) ≤ xs.countP (fun q => decide (p.2.2.1 < q.2.2.1)) := List.countP_mono_left fun q _ hq => by
      rw [decide_eq_true_eq] at hq ⊢; omega
    rcases List.mem_cons.1 hp with rfl | hp
    · rw [if_neg (by rw [decide_eq_true_eq]; omega), if_pos (by rw [decide_eq_true_eq]; omega)]; omega
    · have := ih hp
      by_cases h1 : p'.2.2.1 < x.2.2.1
      · rw [if_pos (by rw [decide_eq_true_eq]; omega), if_pos (by rw [decide_eq_true_eq]; omega)]; omega
      · rw [if_neg (by rw [decide_eq_true_eq]; omega)]
        split <;> omega
theorem Crest.len {l : List T3} (h : FldOk l) {p : T3} {n dd : Int} {a : List T3} (ha : Crest l p n dd a) (hr : ratioChk n dd = 0) (hp : Lead l n dd p) : a.length ≤ fastN l p + 1 := by
  induction ha with
  | last p n dd hn => simp
  | next p n dd n' dd' p' r h1 h2 _ ih =>
    have := ih (h1.ok h hp.1).1 h2
    have := fastN_lt h2.1 (nxt_fast h (ratioChk_zero hr).1 hp h1 h2)
    rw [List.length_cons]; omega
end Go.Pel

namespace Go.Proofs.YtmagihjfbembjaaGreat
open Go Go.Tx Go.Pel
theorem mk_neg {n d : Int} (hd : d ≠ 0) (hn : n.natAbs ≤ 4194304) (hd2 : d.natAbs ≤ 4194304) : (mk (-n) (-d)).1 = (mk n d).1 ∧ (mk (-n) (-d)).2.1 = (mk n d).2.1 := by
  obtain ⟨_, k1, _, _⟩ := mk_ok hd hn hd2
  obtain ⟨_, k2, _, _⟩ := mk_ok (n := -n) (d := -d) (by omega) (by omega) (by omega)
  have e1 := mk_mul hd hn hd2
  have e2 := mk_mul (n := -n) (d := -d) (by omega) (by omega) (by omega)
  refine q_eq k2 k1 ?_
  generalize (mk (-n) (-d)).1 = a at *
  generalize (mk (-n) (-d)).2.1 = b at *
  generalize (mk n d).1 = a' at *
  generalize (mk n d).2.1 = b' at *
  have e3 : a * d = n * b := by rw [Int.mul_neg, Int.neg_mul] at e2; omega
  have e4 : a * b' * d = a' * b * d := by
    rw [Int.mul_right_comm, e3, Int.mul_right_comm a', e1, Int.mul_right_comm]
  exact Int.eq_of_mul_eq_mul_right hd e4
/-- a meeting is one of a point's own, behind a time -/
def selC (id n dd : Int) (x : M4) : Bool := ((x.2.2.1 == id) || (x.2.2.2.1 == id)) && gtM n dd x
theorem oth_chV {p q : T3} (h : q.1 ≠ p.1) : oth p.1 (chV p q) = q.1 := by
  unfold oth chV
  show (if tmin p.1 q.1 = p.1 then tmax p.1 q.1 else tmin p.1 q.1) = q.1
  unfold tmin tmax
  repeat' split
  all_goals omega
theorem chV_lt {p q : T3} (hb : p.2.2.1 ≠ q.2.2.1) (h : p.1 < q.1) : mtP (p, q) = some (chV p q) := by
  unfold mtP chV
  rw [if_neg hb]
  have e1 : tmin p.1 q.1 = p.1 := by unfold tmin; split <;> omega
  have e2 : tmax p.1 q.1 = q.1 := by unfold tmax; split <;> omega
  rw [e1, e2]
theorem chV_gt {p q : T3} (hp : okP p) (hq : okP q) (hb : p.2.2.1 ≠ q.2.2.1) (h : q.1 < p.1) : mtP (q, p) = some (chV p q) := by
  obtain ⟨_, _, a1, a2, a3, a4⟩ := pt_bd' hp
  obtain ⟨_, _, b1, b2, b3, b4⟩ := pt_bd' hq
  unfold mtP chV
  rw [if_neg (by show ¬ q.2.2.1 = p.2.2.1; omega)]
  have e1 : tmin p.1 q.1 = q.1 := by unfold tmin; split <;> omega
  have e2 : tmax p.1 q.1 = p.1 := by unfold tmax; split <;> omega
  obtain ⟨k1, k2⟩ := mk_neg (n := p.2.1 - q.2.1) (d := q.2.2.1 - p.2.2.1) (by omega) (by omega) (by omega)
  rw [e1, e2]
  show some ((mk (q.2.1 - p.2.1) (p.2.2.1 - q.2.2.1)).1, (mk (q.2.1 - p.2.1) (p.2.2.1 - q.2.2.1)).2.1, q.1, p.1, ()) = _
  rw [show q.2.1 - p.2.1 = -(p.2.1 - q.2.1) by omega, show p.2.2.1 - q.2.2.1 = -(q.2.2.1 - p.2.2.1) by omega, k1, k2]
theorem own_mem {l : List T3} (h : FldOk l) {p : T3} (hp : p ∈ l) {x : M4} : (x ∈ allM l ∧ ((x.2.2.1 == p.1) || (x.2.2.2.1 == p.1)) = true) ↔ ∃ q ∈ l, q.1 ≠ p.1 ∧ p.2.2.1 ≠ q.2.2.1 ∧ x = chV p q := by
  constructor
  · rintro ⟨hx, hi⟩
    obtain ⟨i, j, a, b, hij, ha, hb, hm⟩ := allM_from h hx
    have ham := List.mem_of_getElem? ha
    have hbm := List.mem_of_getElem? hb
    have hlt := ids_ne h hij ha hb
    obtain ⟨g1, _, _, _, g2, g3, _⟩ := mtP_eq (x := (a, b)) (h.ok a ham) (h.ok b hbm) hm
    simp only at g1 g2 g3
    rw [Bool.or_eq_true, beq_iff_eq, beq_iff_eq] at hi
    rcases hi with hi | hi
    · have := ids_eq h ham hp (by omega)
      subst this
      refine ⟨b, hbm, by omega, g1, ?_⟩
      rw [chV_lt g1 hlt] at hm
      exact (Option.some.inj hm).symm
    · have := ids_eq h hbm hp (by omega)
      subst this
      refine ⟨a, ham, by omega, by omega, ?_⟩
      rw [chV_gt (h.ok b hbm) (h.ok a ham) (by omega) hlt] at hm
      exact (Option.some.inj hm).symm
  · rintro ⟨q, hq, hi, hb, rfl⟩
    obtain ⟨i, hpi⟩ := List.mem_iff_getElem?.1 hp
    obtain ⟨j, hqj⟩ := List.mem_iff_getElem?.1 hq
    have me := (chV_ok (h.ok p hp) (h.ok q hq) hi hb).me
    refine ⟨?_, by rw [Bool.or_eq_true, beq_iff_eq, beq_iff_eq]; exact me⟩
    rcases (by omega : i < j ∨ i = j ∨ j < i) with k | k | k
    · exact mtP_mem k hpi hqj (chV_lt hb (ids_ne h k hpi hqj))
    · subst k; rw [hpi] at hqj; injection hqj with e; subst e; exact absurd rfl hi
    · exact mtP_mem k hqj hpi (chV_gt (h.ok p hp) (h.ok q hq) hb (ids_ne h k hqj hpi))
theorem chM_some {p q : T3} {n dd : Int} (hi : q.1 ≠ p.1) (hb : p.2.2.1 ≠ q.2.2.1) (hg : gtM n dd (chV p q) = true) : chM p n dd q = some (chV p q) := by
  unfold chM; rw [if_neg hi, if_neg hb, if_pos hg]
theorem sel_perm {l : List T3} (h : FldOk l) {p : T3} (hp : p ∈ l) (n dd : Int) : ((allM l).filter (selC p.1 n dd)).Perm (l.filterMap (chM p n dd)) := by
  have n1 : ((allM l).filter (selC p.1 n dd)).Nodup := by
    refine List.Nodup.sublist List.filter_sublist ?_
    refine (allM_strict h).imp fun {a b} hab e => ?_
    subst e; rw [ltM_irr] at hab; cases hab
  have n2 : (l.filterMap (chM p n dd)).Nodup := by
    refine List.pairwise_filterMap.2 (h.inc.imp_of_mem fun {a b} ha hb hab => ?_)
    intro x hx y hy e
    subst e
    obtain ⟨_, _, e1, i1, _⟩ := chM_ok (h.ok p hp) (h.ok a ha) hx
    obtain ⟨_, _, e2, i2, _⟩ := chM_ok (h.ok p hp) (h.ok b hb) hy
    have k1 := oth_chV i1
    have k2 := oth_chV i2
    rw [← e1] at k1
    rw [← e2] at k2
    omega
  refine (List.perm_ext_iff_of_nodup n1 n2).2 fun x => ?_
  rw [List.mem_filter, List.mem_filterMap]
  unfold selC
  rw [Bool.and_eq_true, ← and_assoc, own_mem h hp]
  constructor
  · rintro ⟨⟨q, hq, hi, hb, rfl⟩, hg⟩
    exact ⟨q, hq, chM_some hi hb hg⟩
  · rintro ⟨q, hq, hx⟩
    obtain ⟨_, hg, e, hi, hb⟩ := chM_ok (h.ok p hp) (h.ok q hq) hx
    exact ⟨⟨q, hq, hi, hb, e⟩, hg⟩
theorem chL_in {l : List T3} (h : FldOk l) {p : T3} (hp : p ∈ l) {n dd : Int} {x : M4} : x ∈ chL l p n dd ↔ x ∈ allM l ∧ selC p.1 n dd x = true := by
  rw [(chL_perm l p n dd).mem_iff, ← (sel_perm h hp n dd).mem_iff, List.mem_filter]
end Go.Proofs.YtmagihjfbembjaaGreat
