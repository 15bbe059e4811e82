/- Walks for the law. -/
import Derived.Test.YthopjgahedijcaaGe
set_option linter.unusedSimpArgs false
set_option linter.unusedVariables false
namespace Go.Proofs.Ythopjgahedijcaa
open Go Go.Tx Go.Proofs.Try
set_option maxRecDepth 100000
set_option maxHeartbeats 0
abbrev law04_at_ps : List Pk := [.row Ri false]
abbrev law04_at_X : Type := Di × Unit
abbrev law04_at_R : Type := Int × Int
def law04_at_enc (r : law04_at_R) : LV × List Ob := (.agg [.int .i64 r.1, .int .i64 r.2], [])
def law04_at_sp (F : law04_at_X → Option law04_at_R) : Go.Tx.Spec := ⟨26, law04_at_ps, law04_at_R, F, law04_at_enc⟩
abbrev law04_at_C : Type := Unit
def law04_at_K (_d : Nat) : law04_at_C := ()
def law04_at_tab (C : law04_at_C) : List Go.Tx.Spec := []
abbrev law04_at_Y0i : Type := Int
def law04_at_S0i (v : law04_at_Y0i) : St := ⟨[(0, .int .i64 v)], []⟩
abbrev law04_at_Y0 : Type := Int × Int × Int
def law04_at_S0 (v : law04_at_Y0) : St := ⟨[(0, .int .i64 v.1), (2, .ptr 0 0)], [.cells [.int .i64 v.2.1, .int .i64 v.2.2]]⟩
def law04_at_r0 (C : law04_at_C) (v : law04_at_Y0i) : Dt law04_at_Y0 := (Dt.ret (v, (0:Int), (0:Int)))
theorem law04_at_g0 (C : law04_at_C) (v : law04_at_Y0i) : treg tysT (orc (law04_at_tab C)) 5 (regO (bodyOf f26) 0) false [(0, .any), (2, .any)] (law04_at_S0i v) some = (law04_at_r0 C v).eval fun y => some (law04_at_S0 y) := by kernel_rfl
abbrev law04_at_Y1 : Type := Int × Int
def law04_at_S1 (v : law04_at_Y1) : St := ⟨[(2, .ptr 0 0)], [.cells [.int .i64 v.1, .int .i64 v.2]]⟩
def law04_at_r1 (C : law04_at_C) (v : law04_at_Y0) : Dt law04_at_Y1 := (Dt.ret (v.1, (1:Int)))
theorem law04_at_g1 (C : law04_at_C) (v : law04_at_Y0) : treg tysT (orc (law04_at_tab C)) 5 (regO (bodyOf f26) 1) false [(2, .any)] (law04_at_S0 v) some = (law04_at_r1 C v).eval fun y => some (law04_at_S1 y) := by kernel_rfl
def F_law04_at (d : Nat) (x : law04_at_X) : Option law04_at_R :=
  (law04_at_r0 (law04_at_K d) x.1.1).eval fun y0 =>
  (law04_at_r1 (law04_at_K d) y0).eval fun y1 =>
  some y1
theorem law04_at_cok (d : Nat) : COK prog (law04_at_sp (F_law04_at d)) := by
  have hm : prog.follows .mixedOrders = true := mixed
  have hT := tys
  have hC0 : OrcOK prog (orc (law04_at_tab (law04_at_K d))) := orc_ok (by
    intro S hS
    simp only [law04_at_tab, List.mem_cons, List.not_mem_nil, or_false] at hS
    all_goals first | cases hS | exact hS.elim)
  have hC : OrcOK prog (orc (law04_at_tab (law04_at_K d))) := hC0
  refine cok_of (c := bodyOf f26) (fn := f26) hT (by kernel_rfl) (by kernel_rfl) (by decide) fun x r h w0 φ0 Q hend => ?_
  replace h : F_law04_at d x = some r := h
  unfold F_law04_at at h
  show Run prog w0 φ0 5 (bodyOf f26) ⟨[(0, .int .i64 x.1.1)], []⟩ Q
  refine run_seq ?_
  refine run_reg hm hT hC (law04_at_g0 (law04_at_K d) x.1.1) h ?_
  intro y0 h
  refine cn_then ?_
  refine run_seq ?_
  refine run_reg hm hT hC (law04_at_g1 (law04_at_K d) y0) h ?_
  intro y1 h
  refine cn_then ?_
  refine run_ret ?_
  cases h
  exact (hend _ (by kernel_rfl)).2
abbrev law04_given_ps : List Pk := []
abbrev law04_given_X : Type := Unit
abbrev law04_given_R : Type := List Diii
def law04_given_enc (r : law04_given_R) : LV × List Ob := (.agg [.rs 0], [.rows Riii r])
def law04_given_sp (F : law04_given_X → Option law04_given_R) : Go.Tx.Spec := ⟨27, law04_given_ps, law04_given_R, F, law04_given_enc⟩
abbrev law04_given_C : Type := Unit
def law04_given_K (_d : Nat) : law04_given_C := ()
def law04_given_tab (C : law04_given_C) : List Go.Tx.Spec := []
abbrev law04_given_Y0i : Type := Unit
def law04_given_S0i (v : law04_given_Y0i) : St := ⟨[], []⟩
abbrev law04_given_Y0 : Type := List Diii
def law04_given_S0 (v : law04_given_Y0) : St := ⟨[(0, .ptr 0 0)], [.cells [.rs 1], .rows Riii v]⟩
def law04_given_r0 (C : law04_given_C) (v : law04_given_Y0i) : Dt law04_given_Y0 := (Dt.ret ([] : List Diii))
theorem law04_given_g0 (C : law04_given_C) (v : law04_given_Y0i) : treg tysT (orc (law04_given_tab C)) 6 (regO (bodyOf f27) 0) false [(0, (.box [.own Riii]))] (law04_given_S0i v) some = (law04_given_r0 C v).eval fun y => some (law04_given_S0 y) := by kernel_rfl
def law04_given_r1 (C : law04_given_C) (v : law04_given_Y0) : Dt law04_given_Y0 := (Dt.ret ([((1:Int), (0:Int), (2:Int), ()), ((2:Int), (6:Int), (-1:Int), ()), ((5:Int), (0:Int), (0:Int), ())] : List Diii))
theorem law04_given_g1 (C : law04_given_C) (v : law04_given_Y0) : treg tysT (orc (law04_given_tab C)) 6 (regO (bodyOf f27) 1) false [(0, (.box [.own Riii]))] (law04_given_S0 v) some = (law04_given_r1 C v).eval fun y => some (law04_given_S0 y) := by kernel_rfl
def F_law04_given (d : Nat) (x : law04_given_X) : Option law04_given_R :=
  (law04_given_r0 (law04_given_K d) ()).eval fun y0 =>
  (law04_given_r1 (law04_given_K d) y0).eval fun y1 =>
  some y1
theorem law04_given_cok (d : Nat) : COK prog (law04_given_sp (F_law04_given d)) := by
  have hm : prog.follows .mixedOrders = true := mixed
  have hT := tys
  have hC0 : OrcOK prog (orc (law04_given_tab (law04_given_K d))) := orc_ok (by
    intro S hS
    simp only [law04_given_tab, List.mem_cons, List.not_mem_nil, or_false] at hS
    all_goals first | cases hS | exact hS.elim)
  have hC : OrcOK prog (orc (law04_given_tab (law04_given_K d))) := hC0
  refine cok_of (c := bodyOf f27) (fn := f27) hT (by kernel_rfl) (by kernel_rfl) (by decide) fun x r h w0 φ0 Q hend => ?_
  replace h : F_law04_given d x = some r := h
  unfold F_law04_given at h
  show Run prog w0 φ0 6 (bodyOf f27) ⟨[], []⟩ Q
  refine run_seq ?_
  refine run_reg hm hT hC (law04_given_g0 (law04_given_K d) ()) h ?_
  intro y0 h
  refine cn_then ?_
  refine run_seq ?_
  refine run_reg hm hT hC (law04_given_g1 (law04_given_K d) y0) h ?_
  intro y1 h
  refine cn_then ?_
  refine run_ret ?_
  cases h
  exact (hend _ (by kernel_rfl)).2
abbrev ref04_Same_ps : List Pk := [.row RLiiiiE false, .row RLiiiiE false]
abbrev ref04_Same_X : Type := DLiiiiE × DLiiiiE × Unit
abbrev ref04_Same_R : Type := Bool
def ref04_Same_enc (r : ref04_Same_R) : LV × List Ob := (.bool r, [])
def ref04_Same_sp (F : ref04_Same_X → Option ref04_Same_R) : Go.Tx.Spec := ⟨16, ref04_Same_ps, ref04_Same_R, F, ref04_Same_enc⟩
abbrev ref04_Same_C : Type := Unit
def ref04_Same_K (_d : Nat) : ref04_Same_C := ()
def ref04_Same_tab (C : ref04_Same_C) : List Go.Tx.Spec := []
abbrev ref04_Same_Y0i : Type := List Diiii × List Diiii
def ref04_Same_S0i (v : ref04_Same_Y0i) : St := ⟨[(0, .fz Riiii v.1), (1, .fz Riiii v.2)], []⟩
def ref04_Same_r0 (C : ref04_Same_C) (v : ref04_Same_Y0i) : Dt ref04_Same_Y0i := (Dt.ret (v.1, v.2))
theorem ref04_Same_g0 (C : ref04_Same_C) (v : ref04_Same_Y0i) : treg tysT (orc (ref04_Same_tab C)) 26 (regO (bodyOf f16) 0) false [(0, (.val Riiii)), (1, (.val Riiii))] (ref04_Same_S0i v) some = (ref04_Same_r0 C v).eval fun y => some (ref04_Same_S0i y) := by kernel_rfl
abbrev ref04_Same_Y1 : Type := List Diiii × List Diiii × Bool
def ref04_Same_S1 (v : ref04_Same_Y1) : St := ⟨[(0, .fz Riiii v.1), (1, .fz Riiii v.2.1), (10, .bool v.2.2)], []⟩
def ref04_Same_r1 (C : ref04_Same_C) (v : ref04_Same_Y0i) : Dt ref04_Same_Y1 := (Dt.ret (v.1, v.2, ((List.length v.1 : Int) != (List.length v.2 : Int))))
theorem ref04_Same_g1 (C : ref04_Same_C) (v : ref04_Same_Y0i) : treg tysT (orc (ref04_Same_tab C)) 26 (regO (bodyOf f16) 1) false [(0, (.val Riiii)), (1, (.val Riiii)), (10, .any)] (ref04_Same_S0i v) some = (ref04_Same_r1 C v).eval fun y => some (ref04_Same_S1 y) := by kernel_rfl
abbrev ref04_Same_Y2 : Type := Bool
def ref04_Same_S2 (v : ref04_Same_Y2) : St := ⟨[(4, .bool v)], []⟩
def ref04_Same_r2 (C : ref04_Same_C) (v : ref04_Same_Y1) : Dt ref04_Same_Y2 := (Dt.ret false)
theorem ref04_Same_g2 (C : ref04_Same_C) (v : ref04_Same_Y1) : treg tysT (orc (ref04_Same_tab C)) 26 (regO (bodyOf f16) 2) false [(4, .any)] (ref04_Same_S1 v) some = (ref04_Same_r2 C v).eval fun y => some (ref04_Same_S2 y) := by kernel_rfl
abbrev ref04_Same_Y3 : Type := List Diiii × List Diiii × Int
def ref04_Same_S3 (v : ref04_Same_Y3) : St := ⟨[(0, .fz Riiii v.1), (1, .fz Riiii v.2.1), (5, .int .i64 v.2.2)], []⟩
def ref04_Same_r3 (C : ref04_Same_C) (v : ref04_Same_Y1) : Dt ref04_Same_Y3 := (Dt.ret (v.1, v.2.1, (0:Int)))
theorem ref04_Same_g3 (C : ref04_Same_C) (v : ref04_Same_Y1) : treg tysT (orc (ref04_Same_tab C)) 26 (regO (bodyOf f16) 3) false [(0, (.val Riiii)), (1, (.val Riiii)), (5, .any)] (ref04_Same_S1 v) some = (ref04_Same_r3 C v).eval fun y => some (ref04_Same_S3 y) := by kernel_rfl
abbrev ref04_Same_Y4 : Type := List Diiii × List Diiii × Int × Bool
def ref04_Same_S4 (v : ref04_Same_Y4) : St := ⟨[(0, .fz Riiii v.1), (1, .fz Riiii v.2.1), (5, .int .i64 v.2.2.1), (14, .bool v.2.2.2)], []⟩
def ref04_Same_r4 (C : ref04_Same_C) (v : ref04_Same_Y3) : Dt ref04_Same_Y4 := (Dt.ret (v.1, v.2.1, v.2.2, (decide (v.2.2 < (List.length v.1 : Int)))))
theorem ref04_Same_g4 (C : ref04_Same_C) (v : ref04_Same_Y3) : treg tysT (orc (ref04_Same_tab C)) 26 (regO (bodyOf f16) 4) false [(0, (.val Riiii)), (1, (.val Riiii)), (5, .any), (14, .any)] (ref04_Same_S3 v) some = (ref04_Same_r4 C v).eval fun y => some (ref04_Same_S4 y) := by kernel_rfl
abbrev ref04_Same_Y6 : Type := List Diiii × List Diiii × Int × Bool
def ref04_Same_S6 (v : ref04_Same_Y6) : St := ⟨[(0, .fz Riiii v.1), (1, .fz Riiii v.2.1), (5, .int .i64 v.2.2.1), (25, .bool v.2.2.2)], []⟩
def ref04_Same_r6 (C : ref04_Same_C) (v : ref04_Same_Y4) : Dt ref04_Same_Y6 := (Dt.ite (inB v.2.2.1 (List.length v.1)) (Dt.ite (inB v.2.2.1 (List.length v.2.1)) (Dt.ret (v.1, v.2.1, v.2.2.1, (!(((elt ziiii v.1 (v.2.2.1).toNat).1 == (elt ziiii v.2.1 (v.2.2.1).toNat).1) && (((elt ziiii v.1 (v.2.2.1).toNat).2.1 == (elt ziiii v.2.1 (v.2.2.1).toNat).2.1) && (((elt ziiii v.1 (v.2.2.1).toNat).2.2.1 == (elt ziiii v.2.1 (v.2.2.1).toNat).2.2.1) && (((elt ziiii v.1 (v.2.2.1).toNat).2.2.2.1 == (elt ziiii v.2.1 (v.2.2.1).toNat).2.2.2.1) && true))))))) Dt.fail) Dt.fail)
theorem ref04_Same_g6 (C : ref04_Same_C) (v : ref04_Same_Y4) : treg tysT (orc (ref04_Same_tab C)) 26 (regO (bodyOf f16) 6) true [(0, (.val Riiii)), (1, (.val Riiii)), (5, .any), (25, .any)] (ref04_Same_S4 v) some = (ref04_Same_r6 C v).eval fun y => some (ref04_Same_S6 y) := by kernel_rfl
def ref04_Same_r7 (C : ref04_Same_C) (v : ref04_Same_Y6) : Dt ref04_Same_Y2 := (Dt.ret false)
theorem ref04_Same_g7 (C : ref04_Same_C) (v : ref04_Same_Y6) : treg tysT (orc (ref04_Same_tab C)) 26 (regO (bodyOf f16) 7) false [(4, .any)] (ref04_Same_S6 v) some = (ref04_Same_r7 C v).eval fun y => some (ref04_Same_S2 y) := by kernel_rfl
def ref04_Same_r5 (C : ref04_Same_C) (v : ref04_Same_Y6) : Dt ref04_Same_Y3 := (Dt.ret (v.1, v.2.1, (IntKind.wrap .i64 (v.2.2.1 + (1:Int)))))
theorem ref04_Same_g5 (C : ref04_Same_C) (v : ref04_Same_Y6) : treg tysT (orc (ref04_Same_tab C)) 26 (regO (bodyOf f16) 5) false [(0, (.val Riiii)), (1, (.val Riiii)), (5, .any)] (ref04_Same_S6 v) some = (ref04_Same_r5 C v).eval fun y => some (ref04_Same_S3 y) := by kernel_rfl
def ref04_Same_r8 (C : ref04_Same_C) (v : ref04_Same_Y4) : Dt ref04_Same_Y2 := (Dt.ret true)
theorem ref04_Same_g8 (C : ref04_Same_C) (v : ref04_Same_Y4) : treg tysT (orc (ref04_Same_tab C)) 26 (regO (bodyOf f16) 8) false [(4, .any)] (ref04_Same_S4 v) some = (ref04_Same_r8 C v).eval fun y => some (ref04_Same_S2 y) := by kernel_rfl
def ref04_Same_L1 (d : Nat) (self1 : (List Diiii × List Diiii × Int) → Option ref04_Same_R) (x1 : List Diiii × List Diiii × Int) : Option ref04_Same_R :=
  (ref04_Same_r4 (ref04_Same_K d) x1).eval fun y4 =>
  bif y4.2.2.2 then ((ref04_Same_r6 (ref04_Same_K d) y4).eval fun y6 =>
  bif y6.2.2.2 then ((ref04_Same_r7 (ref04_Same_K d) y6).eval fun y7 =>
  some y7) else ((ref04_Same_r5 (ref04_Same_K d) y6).eval fun y5 =>
  self1 y5)) else ((ref04_Same_r8 (ref04_Same_K d) y4).eval fun y8 =>
  some y8)
def F_ref04_Same (d : Nat) (x : ref04_Same_X) : Option ref04_Same_R :=
  (ref04_Same_r0 (ref04_Same_K d) (x.1.1, x.2.1.1)).eval fun y0 =>
  (ref04_Same_r1 (ref04_Same_K d) y0).eval fun y1 =>
  bif y1.2.2 then ((ref04_Same_r2 (ref04_Same_K d) y1).eval fun y2 =>
  some y2) else ((ref04_Same_r3 (ref04_Same_K d) y1).eval fun y3 =>
  iter (ref04_Same_L1 d ) d y3)
theorem ref04_Same_cok (d : Nat) : COK prog (ref04_Same_sp (F_ref04_Same d)) := by
  have hm : prog.follows .mixedOrders = true := mixed
  have hT := tys
  have hC0 : OrcOK prog (orc (ref04_Same_tab (ref04_Same_K d))) := orc_ok (by
    intro S hS
    simp only [ref04_Same_tab, List.mem_cons, List.not_mem_nil, or_false] at hS
    all_goals first | cases hS | exact hS.elim)
  have hC : OrcOK prog (orc (ref04_Same_tab (ref04_Same_K d))) := hC0
  refine cok_of (c := bodyOf f16) (fn := f16) hT (by kernel_rfl) (by kernel_rfl) (by decide) fun x r h w0 φ0 Q hend => ?_
  replace h : F_ref04_Same d x = some r := h
  unfold F_ref04_Same at h
  show Run prog w0 φ0 26 (bodyOf f16) ⟨[(0, .fz Riiii x.1.1), (1, .fz Riiii x.2.1.1)], []⟩ Q
  refine run_seq ?_
  refine run_reg hm hT hC (ref04_Same_g0 (ref04_Same_K d) (x.1.1, x.2.1.1)) h ?_
  intro y0 h
  refine cn_then ?_
  refine run_seq ?_
  refine run_seq ?_
  refine run_reg hm hT hC (ref04_Same_g1 (ref04_Same_K d) y0) h ?_
  intro y1 h
  refine cn_then ?_
  refine run_cond (v := y1.2.2) (by kernel_rfl) h ?_ ?_
  ·
    intro h
    refine run_seq ?_
    refine run_reg hm hT hC (ref04_Same_g2 (ref04_Same_K d) y1) h ?_
    intro y2 h
    refine cn_then ?_
    refine run_ret ?_
    refine cn_then_ret ?_
    cases h
    exact (hend _ (by kernel_rfl)).2
  ·
    intro h
    refine run_skip ?_
    refine cn_then ?_
    refine run_seq ?_
    refine run_seq ?_
    refine run_reg hm hT hC (ref04_Same_g3 (ref04_Same_K d) y1) h ?_
    intro y3 h
    refine cn_then ?_
    refine run_block ?_
    refine run_loop (G := iter (ref04_Same_L1 d )) (S := (fun x1 => ⟨[(0, .fz Riiii x1.1), (1, .fz Riiii x1.2.1), (5, .int .i64 x1.2.2)], []⟩ : List Diiii × List Diiii × Int → St)) (fun _ => rfl) ?_ d _ h
    intro n1 x1 h K1 hn1
    replace h : ref04_Same_L1 d  (iter (ref04_Same_L1 d ) n1) x1 = some r := h
    generalize iter (ref04_Same_L1 d ) n1 = self1 at h hn1
    unfold ref04_Same_L1 at h
    refine run_seq ?_
    refine run_seq ?_
    refine run_reg hm hT hC (ref04_Same_g4 (ref04_Same_K d) x1) h ?_
    intro y4 h
    refine cn_then ?_
    refine run_cond (v := y4.2.2.2) (by kernel_rfl) h ?_ ?_
    ·
      intro h
      refine run_skip ?_
      refine cn_then ?_
      refine run_seq ?_
      refine run_block ?_
      refine run_seq ?_
      refine run_reg hm hT hC (ref04_Same_g6 (ref04_Same_K d) y4) h ?_
      intro y6 h
      refine cn_then ?_
      refine run_cond (v := y6.2.2.2) (by kernel_rfl) h ?_ ?_
      ·
        intro h
        refine run_seq ?_
        refine run_reg hm hT hC (ref04_Same_g7 (ref04_Same_K d) y6) h ?_
        intro y7 h
        refine cn_then ?_
        refine run_ret ?_
        refine cn_blk_ret ?_
        refine cn_then_ret ?_
        refine cn_then_ret ?_
        refine cn_blk_ret ?_
        refine cn_then_ret ?_
        cases h
        exact (hend _ (by kernel_rfl)).2
      ·
        intro h
        refine run_skip ?_
        refine cn_blk ?_
        refine cn_then ?_
        refine run_reg hm hT hC (ref04_Same_g5 (ref04_Same_K d) y6) h ?_
        intro y5 h
        exact hn1 _ h
    ·
      intro h
      refine run_exit ?_
      refine cn_then_exit ?_
      refine cn_then_exit ?_
      refine cn_blk_eq ?_
      refine cn_then ?_
      refine run_seq ?_
      refine run_reg hm hT hC (ref04_Same_g8 (ref04_Same_K d) y4) h ?_
      intro y8 h
      refine cn_then ?_
      refine run_ret ?_
      cases h
      exact (hend _ (by kernel_rfl)).2
abbrev law04_alive_ps : List Pk := []
abbrev law04_alive_X : Type := Unit
abbrev law04_alive_R : Type := Bool
def law04_alive_enc (r : law04_alive_R) : LV × List Ob := (.bool r, [])
def law04_alive_sp (F : law04_alive_X → Option law04_alive_R) : Go.Tx.Spec := ⟨14, law04_alive_ps, law04_alive_R, F, law04_alive_enc⟩
abbrev law04_alive_C : Type := (meet_Last_X → Option meet_Last_R) × (meet_All_X → Option meet_All_R) × (ref04_Same_X → Option ref04_Same_R) × (meet_Count_X → Option meet_Count_R) × (law04_at_X → Option law04_at_R) × (law04_given_X → Option law04_given_R) × Unit
def law04_alive_K (d : Nat) : law04_alive_C := (F_meet_Last d, F_meet_All d, F_ref04_Same d, F_meet_Count d, F_law04_at d, F_law04_given d, ())
def law04_alive_tab (C : law04_alive_C) : List Go.Tx.Spec := [meet_Last_sp C.1, meet_All_sp C.2.1, ref04_Same_sp C.2.2.1, meet_Count_sp C.2.2.2.1, law04_at_sp C.2.2.2.2.1, law04_given_sp C.2.2.2.2.2.1]
abbrev law04_alive_Y0i : Type := Unit
def law04_alive_S0i (v : law04_alive_Y0i) : St := ⟨[], []⟩
def law04_alive_r0 (C : law04_alive_C) (v : law04_alive_Y0i) : Dt law04_alive_Y0i := (Dt.ret ())
theorem law04_alive_g0 (C : law04_alive_C) (v : law04_alive_Y0i) : treg tysT (orc (law04_alive_tab C)) 58 (regO (bodyOf f14) 0) false [] (law04_alive_S0i v) some = (law04_alive_r0 C v).eval fun y => some (law04_alive_S0i y) := by kernel_rfl
abbrev law04_alive_Y1 : Type := List Diiii × Int
def law04_alive_S1 (v : law04_alive_Y1) : St := ⟨[(1, .fz Riiii v.1), (2, .int .i64 v.2)], []⟩
def law04_alive_r1 (C : law04_alive_C) (v : law04_alive_Y0i) : Dt law04_alive_Y1 := (Dt.bnd (C.2.2.2.2.2.1 (())) fun r1 => (Dt.bnd (C.2.2.2.2.1 (((-1:Int), ()), ())) fun r2 => (Dt.bnd (C.2.2.2.2.1 (((6:Int), ()), ())) fun r3 => (Dt.bnd (C.2.1 ((r1, ()), (r2.1, r2.2, ()), (r3.1, r3.2, ()), ())) fun r4 => (Dt.ret (r4.1, r4.2))))))
theorem law04_alive_g1 (C : law04_alive_C) (v : law04_alive_Y0i) : treg tysT (orc (law04_alive_tab C)) 58 (regO (bodyOf f14) 1) false [(1, (.val Riiii)), (2, .any)] (law04_alive_S0i v) some = (law04_alive_r1 C v).eval fun y => some (law04_alive_S1 y) := by kernel_rfl
abbrev law04_alive_Y2 : Type := List Diiii × Int × Int × Int
def law04_alive_S2 (v : law04_alive_Y2) : St := ⟨[(1, .fz Riiii v.1), (2, .int .i64 v.2.1), (3, .int .i64 v.2.2.1), (4, .int .i64 v.2.2.2)], []⟩
def law04_alive_r2 (C : law04_alive_C) (v : law04_alive_Y1) : Dt law04_alive_Y2 := (Dt.bnd (C.2.2.2.2.2.1 (())) fun r1 => (Dt.bnd (C.2.2.2.2.1 (((0:Int), ()), ())) fun r2 => (Dt.bnd (C.2.2.2.2.1 (((5:Int), ()), ())) fun r3 => (Dt.bnd (C.2.2.2.1 ((r1, ()), (r2.1, r2.2, ()), (r3.1, r3.2, ()), ())) fun r4 => (Dt.ret (v.1, v.2, r4.1, r4.2))))))
theorem law04_alive_g2 (C : law04_alive_C) (v : law04_alive_Y1) : treg tysT (orc (law04_alive_tab C)) 58 (regO (bodyOf f14) 2) false [(1, (.val Riiii)), (2, .any), (3, .any), (4, .any)] (law04_alive_S1 v) some = (law04_alive_r2 C v).eval fun y => some (law04_alive_S2 y) := by kernel_rfl
abbrev law04_alive_Y3 : Type := List Diiii × Int × Int × Int × Int × Int × Int
def law04_alive_S3 (v : law04_alive_Y3) : St := ⟨[(1, .fz Riiii v.1), (2, .int .i64 v.2.1), (3, .int .i64 v.2.2.1), (4, .int .i64 v.2.2.2.1), (5, .ptr 0 0), (6, .int .i64 v.2.2.2.2.1)], [.cells [.int .i64 v.2.2.2.2.2.1, .int .i64 v.2.2.2.2.2.2]]⟩
def law04_alive_r3 (C : law04_alive_C) (v : law04_alive_Y2) : Dt law04_alive_Y3 := (Dt.bnd (C.2.2.2.2.2.1 (())) fun r1 => (Dt.bnd (C.1 ((r1, ()), ())) fun r2 => (Dt.ret (v.1, v.2.1, v.2.2.1, v.2.2.2, r2.2.2, r2.1, r2.2.1))))
theorem law04_alive_g3 (C : law04_alive_C) (v : law04_alive_Y2) : treg tysT (orc (law04_alive_tab C)) 58 (regO (bodyOf f14) 3) false [(1, (.val Riiii)), (2, .any), (3, .any), (4, .any), (5, .any), (6, .any)] (law04_alive_S2 v) some = (law04_alive_r3 C v).eval fun y => some (law04_alive_S3 y) := by kernel_rfl
abbrev law04_alive_Y4 : Type := List Diiii × Int × Int × Int × Int × Int × Int × List Diiii
def law04_alive_S4 (v : law04_alive_Y4) : St := ⟨[(1, .fz Riiii v.1), (2, .int .i64 v.2.1), (3, .int .i64 v.2.2.1), (4, .int .i64 v.2.2.2.1), (5, .ptr 0 0), (6, .int .i64 v.2.2.2.2.1), (7, .rs 1)], [.cells [.int .i64 v.2.2.2.2.2.1, .int .i64 v.2.2.2.2.2.2.1], .rows Riiii v.2.2.2.2.2.2.2]⟩
def law04_alive_r4 (C : law04_alive_C) (v : law04_alive_Y3) : Dt law04_alive_Y4 := (Dt.bnd (C.2.2.2.2.1 (((0:Int), ()), ())) fun r1 => (Dt.bnd (C.2.2.2.2.1 (((2:Int), ()), ())) fun r2 => (Dt.bnd (C.2.2.2.2.1 (((6:Int), ()), ())) fun r3 => (Dt.ret (v.1, v.2.1, v.2.2.1, v.2.2.2.1, v.2.2.2.2.1, v.2.2.2.2.2.1, v.2.2.2.2.2.2, ([(r1.1, r1.2, (1:Int), (5:Int), ()), (r2.1, r2.2, (1:Int), (2:Int), ()), (r3.1, r3.2, (2:Int), (5:Int), ())] : List Diiii))))))
theorem law04_alive_g4 (C : law04_alive_C) (v : law04_alive_Y3) : treg tysT (orc (law04_alive_tab C)) 58 (regO (bodyOf f14) 4) false [(1, (.val Riiii)), (2, .any), (3, .any), (4, .any), (5, .any), (6, .any), (7, (.own Riiii))] (law04_alive_S3 v) some = (law04_alive_r4 C v).eval fun y => some (law04_alive_S4 y) := by kernel_rfl
abbrev law04_alive_Y5 : Type := Bool
def law04_alive_S5 (v : law04_alive_Y5) : St := ⟨[(0, .bool v)], []⟩
def law04_alive_r5 (C : law04_alive_C) (v : law04_alive_Y4) : Dt law04_alive_Y5 := (Dt.ite (v.2.1 == (0:Int)) (Dt.bnd (C.2.2.1 ((v.1, ()), (v.2.2.2.2.2.2.2, ()), ())) fun r1 => (Dt.ite r1 (Dt.ite (v.2.2.2.1 == (0:Int)) (Dt.ite (v.2.2.1 == (1:Int)) (Dt.ite (v.2.2.2.2.1 == (0:Int)) (Dt.bnd (C.2.2.2.2.1 (((6:Int), ()), ())) fun r2 => (Dt.ret ((v.2.2.2.2.2.1 == r2.1) && ((v.2.2.2.2.2.2.1 == r2.2) && true)))) (Dt.ret false)) (Dt.ret false)) (Dt.ret false)) (Dt.ret false))) (Dt.ret false))
theorem law04_alive_g5 (C : law04_alive_C) (v : law04_alive_Y4) : treg tysT (orc (law04_alive_tab C)) 58 (regO (bodyOf f14) 5) true [(0, .any)] (law04_alive_S4 v) some = (law04_alive_r5 C v).eval fun y => some (law04_alive_S5 y) := by kernel_rfl
def F_law04_alive (d : Nat) (x : law04_alive_X) : Option law04_alive_R :=
  (law04_alive_r0 (law04_alive_K d) ()).eval fun y0 =>
  (law04_alive_r1 (law04_alive_K d) ()).eval fun y1 =>
  (law04_alive_r2 (law04_alive_K d) y1).eval fun y2 =>
  (law04_alive_r3 (law04_alive_K d) y2).eval fun y3 =>
  (law04_alive_r4 (law04_alive_K d) y3).eval fun y4 =>
  (law04_alive_r5 (law04_alive_K d) y4).eval fun y5 =>
  some y5
theorem law04_alive_cok (d : Nat) : COK prog (law04_alive_sp (F_law04_alive d)) := by
  have hm : prog.follows .mixedOrders = true := mixed
  have hT := tys
  have hC0 : OrcOK prog (orc (law04_alive_tab (law04_alive_K d))) := orc_ok (by
    intro S hS
    simp only [law04_alive_tab, List.mem_cons, List.not_mem_nil, or_false] at hS
    rcases hS with rfl | rfl | rfl | rfl | rfl | rfl
    · exact meet_Last_cok d
    · exact meet_All_cok d
    · exact ref04_Same_cok d
    · exact meet_Count_cok d
    · exact law04_at_cok d
    · exact law04_given_cok d)
  have hC : OrcOK prog (orc (law04_alive_tab (law04_alive_K d))) := hC0
  refine cok_of (c := bodyOf f14) (fn := f14) hT (by kernel_rfl) (by kernel_rfl) (by decide) fun x r h w0 φ0 Q hend => ?_
  replace h : F_law04_alive d x = some r := h
  unfold F_law04_alive at h
  show Run prog w0 φ0 58 (bodyOf f14) ⟨[], []⟩ Q
  refine run_seq ?_
  refine run_reg hm hT hC (law04_alive_g0 (law04_alive_K d) ()) h ?_
  intro y0 h
  refine cn_then ?_
  refine run_seq ?_
  refine run_reg hm hT hC (law04_alive_g1 (law04_alive_K d) ()) h ?_
  intro y1 h
  refine cn_then ?_
  refine run_seq ?_
  refine run_reg hm hT hC (law04_alive_g2 (law04_alive_K d) y1) h ?_
  intro y2 h
  refine cn_then ?_
  refine run_seq ?_
  refine run_reg hm hT hC (law04_alive_g3 (law04_alive_K d) y2) h ?_
  intro y3 h
  refine cn_then ?_
  refine run_seq ?_
  refine run_reg hm hT hC (law04_alive_g4 (law04_alive_K d) y3) h ?_
  intro y4 h
  refine cn_then ?_
  refine run_seq ?_
  refine run_reg hm hT hC (law04_alive_g5 (law04_alive_K d) y4) h ?_
  intro y5 h
  refine cn_then ?_
  refine run_ret ?_
  cases h
  exact (hend _ (by kernel_rfl)).2
abbrev law04_MeetNames_ps : List Pk := []
abbrev law04_MeetNames_X : Type := Unit
abbrev law04_MeetNames_R : Type := Bool
def law04_MeetNames_enc (r : law04_MeetNames_R) : LV × List Ob := (.bool r, [])
def law04_MeetNames_sp (F : law04_MeetNames_X → Option law04_MeetNames_R) : Go.Tx.Spec := ⟨6, law04_MeetNames_ps, law04_MeetNames_R, F, law04_MeetNames_enc⟩
abbrev law04_MeetNames_C : Type := (meet_Next_X → Option meet_Next_R) × (meet_Last_X → Option meet_Last_R) × (law04_alive_X → Option law04_alive_R) × (meet_All_X → Option meet_All_R) × (meet_Count_X → Option meet_Count_R) × (meet_Swaps_X → Option meet_Swaps_R) × (law04_at_X → Option law04_at_R) × (law04_given_X → Option law04_given_R) × (field_New_X → Option field_New_R) × Unit
def law04_MeetNames_K (d : Nat) : law04_MeetNames_C := (F_meet_Next d, F_meet_Last d, F_law04_alive d, F_meet_All d, F_meet_Count d, F_meet_Swaps d, F_law04_at d, F_law04_given d, F_field_New d, ())
def law04_MeetNames_tab (C : law04_MeetNames_C) : List Go.Tx.Spec := [meet_Next_sp C.1, meet_Last_sp C.2.1, law04_alive_sp C.2.2.1, meet_All_sp C.2.2.2.1, meet_Count_sp C.2.2.2.2.1, meet_Swaps_sp C.2.2.2.2.2.1, law04_at_sp C.2.2.2.2.2.2.1, law04_given_sp C.2.2.2.2.2.2.2.1, field_New_sp C.2.2.2.2.2.2.2.2.1]
abbrev law04_MeetNames_Y0i : Type := Unit
def law04_MeetNames_S0i (v : law04_MeetNames_Y0i) : St := ⟨[], []⟩
def law04_MeetNames_r0 (C : law04_MeetNames_C) (v : law04_MeetNames_Y0i) : Dt law04_MeetNames_Y0i := (Dt.ret ())
theorem law04_MeetNames_g0 (C : law04_MeetNames_C) (v : law04_MeetNames_Y0i) : treg tysT (orc (law04_MeetNames_tab C)) 204 (regO (bodyOf f6) 0) false [] (law04_MeetNames_S0i v) some = (law04_MeetNames_r0 C v).eval fun y => some (law04_MeetNames_S0i y) := by kernel_rfl
abbrev law04_MeetNames_Y1 : Type := List Diii
def law04_MeetNames_S1 (v : law04_MeetNames_Y1) : St := ⟨[(1, .ptr 0 0)], [.cells [.fz Riii v]]⟩
def law04_MeetNames_r1 (C : law04_MeetNames_C) (v : law04_MeetNames_Y0i) : Dt law04_MeetNames_Y1 := (Dt.ite (mkB (65:Int) (65:Int)) (Dt.ret (List.replicate ((65:Int)).toNat ziii)) Dt.fail)
theorem law04_MeetNames_g1 (C : law04_MeetNames_C) (v : law04_MeetNames_Y0i) : treg tysT (orc (law04_MeetNames_tab C)) 204 (regO (bodyOf f6) 1) false [(1, (.box [.val Riii]))] (law04_MeetNames_S0i v) some = (law04_MeetNames_r1 C v).eval fun y => some (law04_MeetNames_S1 y) := by kernel_rfl
abbrev law04_MeetNames_Y2 : Type := Int × List Diii
def law04_MeetNames_S2 (v : law04_MeetNames_Y2) : St := ⟨[(1, .ptr 0 0), (3, .int .i64 v.1)], [.cells [.fz Riii v.2]]⟩
def law04_MeetNames_r2 (C : law04_MeetNames_C) (v : law04_MeetNames_Y1) : Dt law04_MeetNames_Y2 := (Dt.bnd (C.2.2.2.2.2.2.1 (((0:Int), ()), ())) fun r1 => (Dt.bnd (C.2.2.2.1 ((v, ()), ((0:Int), (0:Int), ()), (r1.1, r1.2, ()), ())) fun r2 => (Dt.ret (r2.2, v))))
theorem law04_MeetNames_g2 (C : law04_MeetNames_C) (v : law04_MeetNames_Y1) : treg tysT (orc (law04_MeetNames_tab C)) 204 (regO (bodyOf f6) 2) true [(1, (.box [.val Riii])), (3, .any)] (law04_MeetNames_S1 v) some = (law04_MeetNames_r2 C v).eval fun y => some (law04_MeetNames_S2 y) := by kernel_rfl
abbrev law04_MeetNames_Y3 : Type := Int × Int × List Diii
def law04_MeetNames_S3 (v : law04_MeetNames_Y3) : St := ⟨[(1, .ptr 0 0), (3, .int .i64 v.1), (5, .int .i64 v.2.1)], [.cells [.fz Riii v.2.2]]⟩
def law04_MeetNames_r3 (C : law04_MeetNames_C) (v : law04_MeetNames_Y2) : Dt law04_MeetNames_Y3 := (Dt.bnd (C.2.2.2.2.2.2.2.1 (())) fun r1 => (Dt.bnd (C.2.2.2.2.2.2.1 (((0:Int), ()), ())) fun r2 => (Dt.bnd (C.2.2.2.2.1 ((r1, ()), (r2.1, r2.2, ()), ((0:Int), (0:Int), ()), ())) fun r3 => (Dt.ret (v.1, r3.2, v.2)))))
theorem law04_MeetNames_g3 (C : law04_MeetNames_C) (v : law04_MeetNames_Y2) : treg tysT (orc (law04_MeetNames_tab C)) 204 (regO (bodyOf f6) 3) false [(1, (.box [.val Riii])), (3, .any), (5, .any)] (law04_MeetNames_S2 v) some = (law04_MeetNames_r3 C v).eval fun y => some (law04_MeetNames_S3 y) := by kernel_rfl
abbrev law04_MeetNames_Y4 : Type := Int × Int × Int × List Diii
def law04_MeetNames_S4 (v : law04_MeetNames_Y4) : St := ⟨[(1, .ptr 0 0), (3, .int .i64 v.1), (5, .int .i64 v.2.1), (7, .int .i64 v.2.2.1)], [.cells [.fz Riii v.2.2.2]]⟩
def law04_MeetNames_r4 (C : law04_MeetNames_C) (v : law04_MeetNames_Y3) : Dt law04_MeetNames_Y4 := (Dt.bnd (C.2.2.2.2.2.2.2.1 (())) fun r1 => (Dt.bnd (C.2.2.2.2.2.2.1 (((1:Int), ()), ())) fun r2 => (Dt.bnd (C.2.2.2.2.2.2.1 (((0:Int), ()), ())) fun r3 => (Dt.bnd (C.2.2.2.2.2.1 ((r1, ()), (r2.1, r2.2, ()), (r3.1, r3.2, ()), ())) fun r4 => (Dt.ret (v.1, v.2.1, r4.2, v.2.2))))))
theorem law04_MeetNames_g4 (C : law04_MeetNames_C) (v : law04_MeetNames_Y3) : treg tysT (orc (law04_MeetNames_tab C)) 204 (regO (bodyOf f6) 4) false [(1, (.box [.val Riii])), (3, .any), (5, .any), (7, .any)] (law04_MeetNames_S3 v) some = (law04_MeetNames_r4 C v).eval fun y => some (law04_MeetNames_S4 y) := by kernel_rfl
abbrev law04_MeetNames_Y5 : Type := Int × Int × Int × Int × List Diii
def law04_MeetNames_S5 (v : law04_MeetNames_Y5) : St := ⟨[(1, .ptr 0 0), (3, .int .i64 v.1), (5, .int .i64 v.2.1), (7, .int .i64 v.2.2.1), (9, .int .i64 v.2.2.2.1)], [.cells [.fz Riii v.2.2.2.2]]⟩
def law04_MeetNames_r5 (C : law04_MeetNames_C) (v : law04_MeetNames_Y4) : Dt law04_MeetNames_Y5 := (Dt.bnd (C.2.2.2.2.2.2.2.1 (())) fun r1 => (Dt.bnd (C.2.2.2.2.2.2.1 (((1:Int), ()), ())) fun r2 => (Dt.bnd (C.2.2.2.1 ((r1, ()), (r2.1, r2.2, ()), ((1:Int), (2:Int), ()), ())) fun r3 => (Dt.ret (v.1, v.2.1, v.2.2.1, r3.2, v.2.2.2)))))
theorem law04_MeetNames_g5 (C : law04_MeetNames_C) (v : law04_MeetNames_Y4) : treg tysT (orc (law04_MeetNames_tab C)) 204 (regO (bodyOf f6) 5) false [(1, (.box [.val Riii])), (3, .any), (5, .any), (7, .any), (9, .any)] (law04_MeetNames_S4 v) some = (law04_MeetNames_r5 C v).eval fun y => some (law04_MeetNames_S5 y) := by kernel_rfl
abbrev law04_MeetNames_Y6 : Type := Int × Int × Int × Int × Int × List Diii
def law04_MeetNames_S6 (v : law04_MeetNames_Y6) : St := ⟨[(1, .ptr 0 0), (3, .int .i64 v.1), (5, .int .i64 v.2.1), (7, .int .i64 v.2.2.1), (9, .int .i64 v.2.2.2.1), (11, .int .i64 v.2.2.2.2.1)], [.cells [.fz Riii v.2.2.2.2.2]]⟩
def law04_MeetNames_r6 (C : law04_MeetNames_C) (v : law04_MeetNames_Y5) : Dt law04_MeetNames_Y6 := (Dt.bnd (C.2.2.2.2.2.2.2.1 (())) fun r1 => (Dt.bnd (C.1 ((r1, ()), ((2:Int), (4:Int), ()), ())) fun r2 => (Dt.ret (v.1, v.2.1, v.2.2.1, v.2.2.2.1, r2.2.2.2.2, v.2.2.2.2))))
theorem law04_MeetNames_g6 (C : law04_MeetNames_C) (v : law04_MeetNames_Y5) : treg tysT (orc (law04_MeetNames_tab C)) 204 (regO (bodyOf f6) 6) false [(1, (.box [.val Riii])), (3, .any), (5, .any), (7, .any), (9, .any), (11, .any)] (law04_MeetNames_S5 v) some = (law04_MeetNames_r6 C v).eval fun y => some (law04_MeetNames_S6 y) := by kernel_rfl
abbrev law04_MeetNames_Y7 : Type := Int × Int × Int × Int × Int × Int × List Diii
def law04_MeetNames_S7 (v : law04_MeetNames_Y7) : St := ⟨[(1, .ptr 0 0), (3, .int .i64 v.1), (5, .int .i64 v.2.1), (7, .int .i64 v.2.2.1), (9, .int .i64 v.2.2.2.1), (11, .int .i64 v.2.2.2.2.1), (13, .int .i64 v.2.2.2.2.2.1)], [.cells [.fz Riii v.2.2.2.2.2.2]]⟩
def law04_MeetNames_r7 (C : law04_MeetNames_C) (v : law04_MeetNames_Y6) : Dt law04_MeetNames_Y7 := (Dt.bnd (C.2.2.2.2.2.2.2.1 (())) fun r1 => (Dt.bnd (C.2.2.2.2.2.2.1 (((6:Int), ()), ())) fun r2 => (Dt.bnd (C.1 ((r1, ()), (r2.1, r2.2, ()), ())) fun r3 => (Dt.ret (v.1, v.2.1, v.2.2.1, v.2.2.2.1, v.2.2.2.2.1, r3.2.2.2.2, v.2.2.2.2.2)))))
theorem law04_MeetNames_g7 (C : law04_MeetNames_C) (v : law04_MeetNames_Y6) : treg tysT (orc (law04_MeetNames_tab C)) 204 (regO (bodyOf f6) 7) false [(1, (.box [.val Riii])), (3, .any), (5, .any), (7, .any), (9, .any), (11, .any), (13, .any)] (law04_MeetNames_S6 v) some = (law04_MeetNames_r7 C v).eval fun y => some (law04_MeetNames_S7 y) := by kernel_rfl
abbrev law04_MeetNames_Y8 : Type := Int × Int × Int × Int × Int × Int × Int × List Diii
def law04_MeetNames_S8 (v : law04_MeetNames_Y8) : St := ⟨[(1, .ptr 0 0), (3, .int .i64 v.1), (5, .int .i64 v.2.1), (7, .int .i64 v.2.2.1), (9, .int .i64 v.2.2.2.1), (11, .int .i64 v.2.2.2.2.1), (13, .int .i64 v.2.2.2.2.2.1), (15, .int .i64 v.2.2.2.2.2.2.1)], [.cells [.fz Riii v.2.2.2.2.2.2.2]]⟩
def law04_MeetNames_r8 (C : law04_MeetNames_C) (v : law04_MeetNames_Y7) : Dt law04_MeetNames_Y8 := (Dt.bnd (C.2.1 ((v.2.2.2.2.2.2, ()), ())) fun r1 => (Dt.ret (v.1, v.2.1, v.2.2.1, v.2.2.2.1, v.2.2.2.2.1, v.2.2.2.2.2.1, r1.2.2, v.2.2.2.2.2.2)))
theorem law04_MeetNames_g8 (C : law04_MeetNames_C) (v : law04_MeetNames_Y7) : treg tysT (orc (law04_MeetNames_tab C)) 204 (regO (bodyOf f6) 8) false [(1, (.box [.val Riii])), (3, .any), (5, .any), (7, .any), (9, .any), (11, .any), (13, .any), (15, .any)] (law04_MeetNames_S7 v) some = (law04_MeetNames_r8 C v).eval fun y => some (law04_MeetNames_S8 y) := by kernel_rfl
abbrev law04_MeetNames_Y9 : Type := Int × Int × Int × Int × Int × Int × Int × Int × List Diii
def law04_MeetNames_S9 (v : law04_MeetNames_Y9) : St := ⟨[(1, .ptr 0 0), (3, .int .i64 v.1), (5, .int .i64 v.2.1), (7, .int .i64 v.2.2.1), (9, .int .i64 v.2.2.2.1), (11, .int .i64 v.2.2.2.2.1), (13, .int .i64 v.2.2.2.2.2.1), (15, .int .i64 v.2.2.2.2.2.2.1), (17, .int .i64 v.2.2.2.2.2.2.2.1)], [.cells [.fz Riii v.2.2.2.2.2.2.2.2]]⟩
def law04_MeetNames_r9 (C : law04_MeetNames_C) (v : law04_MeetNames_Y8) : Dt law04_MeetNames_Y9 := (Dt.bnd (C.2.2.2.2.2.2.2.2.1 (())) fun r1 => (Dt.bnd (C.2.1 ((r1, ()), ())) fun r2 => (Dt.ret (v.1, v.2.1, v.2.2.1, v.2.2.2.1, v.2.2.2.2.1, v.2.2.2.2.2.1, v.2.2.2.2.2.2.1, r2.2.2, v.2.2.2.2.2.2.2))))
theorem law04_MeetNames_g9 (C : law04_MeetNames_C) (v : law04_MeetNames_Y8) : treg tysT (orc (law04_MeetNames_tab C)) 204 (regO (bodyOf f6) 9) false [(1, (.box [.val Riii])), (3, .any), (5, .any), (7, .any), (9, .any), (11, .any), (13, .any), (15, .any), (17, .any)] (law04_MeetNames_S8 v) some = (law04_MeetNames_r9 C v).eval fun y => some (law04_MeetNames_S9 y) := by kernel_rfl
abbrev law04_MeetNames_Y10 : Type := Int × Int × Int × Int × Int × Int × Int × Int × Int
def law04_MeetNames_S10 (v : law04_MeetNames_Y10) : St := ⟨[(3, .int .i64 v.1), (5, .int .i64 v.2.1), (7, .int .i64 v.2.2.1), (9, .int .i64 v.2.2.2.1), (11, .int .i64 v.2.2.2.2.1), (13, .int .i64 v.2.2.2.2.2.1), (15, .int .i64 v.2.2.2.2.2.2.1), (17, .int .i64 v.2.2.2.2.2.2.2.1), (19, .int .i64 v.2.2.2.2.2.2.2.2)], []⟩
def law04_MeetNames_r10 (C : law04_MeetNames_C) (v : law04_MeetNames_Y9) : Dt law04_MeetNames_Y10 := (Dt.bnd (C.1 ((v.2.2.2.2.2.2.2.2, ()), ((0:Int), (0:Int), ()), ())) fun r1 => (Dt.ret (v.1, v.2.1, v.2.2.1, v.2.2.2.1, v.2.2.2.2.1, v.2.2.2.2.2.1, v.2.2.2.2.2.2.1, v.2.2.2.2.2.2.2.1, r1.2.2.2.2)))
theorem law04_MeetNames_g10 (C : law04_MeetNames_C) (v : law04_MeetNames_Y9) : treg tysT (orc (law04_MeetNames_tab C)) 204 (regO (bodyOf f6) 10) false [(3, .any), (5, .any), (7, .any), (9, .any), (11, .any), (13, .any), (15, .any), (17, .any), (19, .any)] (law04_MeetNames_S9 v) some = (law04_MeetNames_r10 C v).eval fun y => some (law04_MeetNames_S10 y) := by kernel_rfl
abbrev law04_MeetNames_Y11 : Type := Int × Int × Int × Int × Int × Int × Int × Int × Int × List Diii
def law04_MeetNames_S11 (v : law04_MeetNames_Y11) : St := ⟨[(3, .int .i64 v.1), (5, .int .i64 v.2.1), (7, .int .i64 v.2.2.1), (9, .int .i64 v.2.2.2.1), (11, .int .i64 v.2.2.2.2.1), (13, .int .i64 v.2.2.2.2.2.1), (15, .int .i64 v.2.2.2.2.2.2.1), (17, .int .i64 v.2.2.2.2.2.2.2.1), (19, .int .i64 v.2.2.2.2.2.2.2.2.1), (20, .ptr 0 0)], [.cells [.fz Riii v.2.2.2.2.2.2.2.2.2]]⟩
def law04_MeetNames_r11 (C : law04_MeetNames_C) (v : law04_MeetNames_Y10) : Dt law04_MeetNames_Y11 := (Dt.ret (v.1, v.2.1, v.2.2.1, v.2.2.2.1, v.2.2.2.2.1, v.2.2.2.2.2.1, v.2.2.2.2.2.2.1, v.2.2.2.2.2.2.2.1, v.2.2.2.2.2.2.2.2, ([((1:Int), (4:Int), (3:Int), ()), ((2:Int), (4:Int), (3:Int), ())] : List Diii)))
theorem law04_MeetNames_g11 (C : law04_MeetNames_C) (v : law04_MeetNames_Y10) : treg tysT (orc (law04_MeetNames_tab C)) 204 (regO (bodyOf f6) 11) false [(3, .any), (5, .any), (7, .any), (9, .any), (11, .any), (13, .any), (15, .any), (17, .any), (19, .any), (20, (.box [.val Riii]))] (law04_MeetNames_S10 v) some = (law04_MeetNames_r11 C v).eval fun y => some (law04_MeetNames_S11 y) := by kernel_rfl
abbrev law04_MeetNames_Y12 : Type := Int × Int × Int × Int × Int × Int × Int × Int × Int × List Diiii × Int × List Diii
def law04_MeetNames_S12 (v : law04_MeetNames_Y12) : St := ⟨[(3, .int .i64 v.1), (5, .int .i64 v.2.1), (7, .int .i64 v.2.2.1), (9, .int .i64 v.2.2.2.1), (11, .int .i64 v.2.2.2.2.1), (13, .int .i64 v.2.2.2.2.2.1), (15, .int .i64 v.2.2.2.2.2.2.1), (17, .int .i64 v.2.2.2.2.2.2.2.1), (19, .int .i64 v.2.2.2.2.2.2.2.2.1), (20, .ptr 0 0), (21, .fz Riiii v.2.2.2.2.2.2.2.2.2.1), (22, .int .i64 v.2.2.2.2.2.2.2.2.2.2.1)], [.cells [.fz Riii v.2.2.2.2.2.2.2.2.2.2.2]]⟩
def law04_MeetNames_r12 (C : law04_MeetNames_C) (v : law04_MeetNames_Y11) : Dt law04_MeetNames_Y12 := (Dt.bnd (C.2.2.2.2.2.2.1 (((-1000:Int), ()), ())) fun r1 => (Dt.bnd (C.2.2.2.2.2.2.1 (((1000:Int), ()), ())) fun r2 => (Dt.bnd (C.2.2.2.1 ((v.2.2.2.2.2.2.2.2.2, ()), (r1.1, r1.2, ()), (r2.1, r2.2, ()), ())) fun r3 => (Dt.ret (v.1, v.2.1, v.2.2.1, v.2.2.2.1, v.2.2.2.2.1, v.2.2.2.2.2.1, v.2.2.2.2.2.2.1, v.2.2.2.2.2.2.2.1, v.2.2.2.2.2.2.2.2.1, r3.1, r3.2, v.2.2.2.2.2.2.2.2.2)))))
theorem law04_MeetNames_g12 (C : law04_MeetNames_C) (v : law04_MeetNames_Y11) : treg tysT (orc (law04_MeetNames_tab C)) 204 (regO (bodyOf f6) 12) true [(3, .any), (5, .any), (7, .any), (9, .any), (11, .any), (13, .any), (15, .any), (17, .any), (19, .any), (20, (.box [.val Riii])), (21, (.val Riiii)), (22, .any)] (law04_MeetNames_S11 v) some = (law04_MeetNames_r12 C v).eval fun y => some (law04_MeetNames_S12 y) := by kernel_rfl
abbrev law04_MeetNames_Y13 : Type := Int × Int × Int × Int × Int × Int × Int × Int × Int × List Diiii × Int × Int
def law04_MeetNames_S13 (v : law04_MeetNames_Y13) : St := ⟨[(3, .int .i64 v.1), (5, .int .i64 v.2.1), (7, .int .i64 v.2.2.1), (9, .int .i64 v.2.2.2.1), (11, .int .i64 v.2.2.2.2.1), (13, .int .i64 v.2.2.2.2.2.1), (15, .int .i64 v.2.2.2.2.2.2.1), (17, .int .i64 v.2.2.2.2.2.2.2.1), (19, .int .i64 v.2.2.2.2.2.2.2.2.1), (21, .fz Riiii v.2.2.2.2.2.2.2.2.2.1), (22, .int .i64 v.2.2.2.2.2.2.2.2.2.2.1), (24, .int .i64 v.2.2.2.2.2.2.2.2.2.2.2)], []⟩
def law04_MeetNames_r13 (C : law04_MeetNames_C) (v : law04_MeetNames_Y12) : Dt law04_MeetNames_Y13 := (Dt.bnd (C.2.2.2.2.2.2.1 (((-9223372036854775807:Int), ()), ())) fun r1 => (Dt.bnd (C.1 ((v.2.2.2.2.2.2.2.2.2.2.2, ()), (r1.1, r1.2, ()), ())) fun r2 => (Dt.ret (v.1, v.2.1, v.2.2.1, v.2.2.2.1, v.2.2.2.2.1, v.2.2.2.2.2.1, v.2.2.2.2.2.2.1, v.2.2.2.2.2.2.2.1, v.2.2.2.2.2.2.2.2.1, v.2.2.2.2.2.2.2.2.2.1, v.2.2.2.2.2.2.2.2.2.2.1, r2.2.2.2.2))))
theorem law04_MeetNames_g13 (C : law04_MeetNames_C) (v : law04_MeetNames_Y12) : treg tysT (orc (law04_MeetNames_tab C)) 204 (regO (bodyOf f6) 13) true [(3, .any), (5, .any), (7, .any), (9, .any), (11, .any), (13, .any), (15, .any), (17, .any), (19, .any), (21, (.val Riiii)), (22, .any), (24, .any)] (law04_MeetNames_S12 v) some = (law04_MeetNames_r13 C v).eval fun y => some (law04_MeetNames_S13 y) := by kernel_rfl
abbrev law04_MeetNames_Y14 : Type := Int × Int × Int × Int × Int × Int × Int × Int × Int × List Diiii × Int × Int × Int × Int
def law04_MeetNames_S14 (v : law04_MeetNames_Y14) : St := ⟨[(3, .int .i64 v.1), (5, .int .i64 v.2.1), (7, .int .i64 v.2.2.1), (9, .int .i64 v.2.2.2.1), (11, .int .i64 v.2.2.2.2.1), (13, .int .i64 v.2.2.2.2.2.1), (15, .int .i64 v.2.2.2.2.2.2.1), (17, .int .i64 v.2.2.2.2.2.2.2.1), (19, .int .i64 v.2.2.2.2.2.2.2.2.1), (21, .fz Riiii v.2.2.2.2.2.2.2.2.2.1), (22, .int .i64 v.2.2.2.2.2.2.2.2.2.2.1), (24, .int .i64 v.2.2.2.2.2.2.2.2.2.2.2.1), (25, .int .i64 v.2.2.2.2.2.2.2.2.2.2.2.2.1), (26, .int .i64 v.2.2.2.2.2.2.2.2.2.2.2.2.2)], []⟩
def law04_MeetNames_r14 (C : law04_MeetNames_C) (v : law04_MeetNames_Y13) : Dt law04_MeetNames_Y14 := (Dt.bnd (C.2.2.2.2.2.2.2.1 (())) fun r1 => (Dt.bnd (C.2.2.2.2.2.2.1 (((2:Int), ()), ())) fun r2 => (Dt.bnd (C.2.2.2.2.2.2.1 (((2:Int), ()), ())) fun r3 => (Dt.bnd (C.2.2.2.2.1 ((r1, ()), (r2.1, r2.2, ()), (r3.1, r3.2, ()), ())) fun r4 => (Dt.ret (v.1, v.2.1, v.2.2.1, v.2.2.2.1, v.2.2.2.2.1, v.2.2.2.2.2.1, v.2.2.2.2.2.2.1, v.2.2.2.2.2.2.2.1, v.2.2.2.2.2.2.2.2.1, v.2.2.2.2.2.2.2.2.2.1, v.2.2.2.2.2.2.2.2.2.2.1, v.2.2.2.2.2.2.2.2.2.2.2, r4.1, r4.2))))))
theorem law04_MeetNames_g14 (C : law04_MeetNames_C) (v : law04_MeetNames_Y13) : treg tysT (orc (law04_MeetNames_tab C)) 204 (regO (bodyOf f6) 14) false [(3, .any), (5, .any), (7, .any), (9, .any), (11, .any), (13, .any), (15, .any), (17, .any), (19, .any), (21, (.val Riiii)), (22, .any), (24, .any), (25, .any), (26, .any)] (law04_MeetNames_S13 v) some = (law04_MeetNames_r14 C v).eval fun y => some (law04_MeetNames_S14 y) := by kernel_rfl
abbrev law04_MeetNames_Y15 : Type := Int × Int × Int × Int × Int × Int × Int × Int × Int × List Diiii × Int × Int × Int × Int × Int × Int × Int × Int × Int
def law04_MeetNames_S15 (v : law04_MeetNames_Y15) : St := ⟨[(3, .int .i64 v.1), (5, .int .i64 v.2.1), (7, .int .i64 v.2.2.1), (9, .int .i64 v.2.2.2.1), (11, .int .i64 v.2.2.2.2.1), (13, .int .i64 v.2.2.2.2.2.1), (15, .int .i64 v.2.2.2.2.2.2.1), (17, .int .i64 v.2.2.2.2.2.2.2.1), (19, .int .i64 v.2.2.2.2.2.2.2.2.1), (21, .fz Riiii v.2.2.2.2.2.2.2.2.2.1), (22, .int .i64 v.2.2.2.2.2.2.2.2.2.2.1), (24, .int .i64 v.2.2.2.2.2.2.2.2.2.2.2.1), (25, .int .i64 v.2.2.2.2.2.2.2.2.2.2.2.2.1), (26, .int .i64 v.2.2.2.2.2.2.2.2.2.2.2.2.2.1), (27, .ptr 0 0), (28, .int .i64 v.2.2.2.2.2.2.2.2.2.2.2.2.2.2.1)], [.cells [.int .i64 v.2.2.2.2.2.2.2.2.2.2.2.2.2.2.2.1, .int .i64 v.2.2.2.2.2.2.2.2.2.2.2.2.2.2.2.2.1, .int .i64 v.2.2.2.2.2.2.2.2.2.2.2.2.2.2.2.2.2.1, .int .i64 v.2.2.2.2.2.2.2.2.2.2.2.2.2.2.2.2.2.2]]⟩
def law04_MeetNames_r15 (C : law04_MeetNames_C) (v : law04_MeetNames_Y14) : Dt law04_MeetNames_Y15 := (Dt.bnd (C.2.2.2.2.2.2.2.1 (())) fun r1 => (Dt.bnd (C.2.2.2.2.2.2.1 (((-9223372036854775807:Int), ()), ())) fun r2 => (Dt.bnd (C.1 ((r1, ()), (r2.1, r2.2, ()), ())) fun r3 => (Dt.ret (v.1, v.2.1, v.2.2.1, v.2.2.2.1, v.2.2.2.2.1, v.2.2.2.2.2.1, v.2.2.2.2.2.2.1, v.2.2.2.2.2.2.2.1, v.2.2.2.2.2.2.2.2.1, v.2.2.2.2.2.2.2.2.2.1, v.2.2.2.2.2.2.2.2.2.2.1, v.2.2.2.2.2.2.2.2.2.2.2.1, v.2.2.2.2.2.2.2.2.2.2.2.2.1, v.2.2.2.2.2.2.2.2.2.2.2.2.2, r3.2.2.2.2, r3.1, r3.2.1, r3.2.2.1, r3.2.2.2.1)))))
theorem law04_MeetNames_g15 (C : law04_MeetNames_C) (v : law04_MeetNames_Y14) : treg tysT (orc (law04_MeetNames_tab C)) 204 (regO (bodyOf f6) 15) false [(3, .any), (5, .any), (7, .any), (9, .any), (11, .any), (13, .any), (15, .any), (17, .any), (19, .any), (21, (.val Riiii)), (22, .any), (24, .any), (25, .any), (26, .any), (27, .any), (28, .any)] (law04_MeetNames_S14 v) some = (law04_MeetNames_r15 C v).eval fun y => some (law04_MeetNames_S15 y) := by kernel_rfl
abbrev law04_MeetNames_Y16 : Type := Int × Int × Int × Int × Int × Int × Int × Int × Int × List Diiii × Int × Int × Int × Int × Int × Int × Int × Int × Int × Int × Int
def law04_MeetNames_S16 (v : law04_MeetNames_Y16) : St := ⟨[(3, .int .i64 v.1), (5, .int .i64 v.2.1), (7, .int .i64 v.2.2.1), (9, .int .i64 v.2.2.2.1), (11, .int .i64 v.2.2.2.2.1), (13, .int .i64 v.2.2.2.2.2.1), (15, .int .i64 v.2.2.2.2.2.2.1), (17, .int .i64 v.2.2.2.2.2.2.2.1), (19, .int .i64 v.2.2.2.2.2.2.2.2.1), (21, .fz Riiii v.2.2.2.2.2.2.2.2.2.1), (22, .int .i64 v.2.2.2.2.2.2.2.2.2.2.1), (24, .int .i64 v.2.2.2.2.2.2.2.2.2.2.2.1), (25, .int .i64 v.2.2.2.2.2.2.2.2.2.2.2.2.1), (26, .int .i64 v.2.2.2.2.2.2.2.2.2.2.2.2.2.1), (27, .ptr 0 0), (28, .int .i64 v.2.2.2.2.2.2.2.2.2.2.2.2.2.2.1), (29, .int .i64 v.2.2.2.2.2.2.2.2.2.2.2.2.2.2.2.1), (30, .int .i64 v.2.2.2.2.2.2.2.2.2.2.2.2.2.2.2.2.1)], [.cells [.int .i64 v.2.2.2.2.2.2.2.2.2.2.2.2.2.2.2.2.2.1, .int .i64 v.2.2.2.2.2.2.2.2.2.2.2.2.2.2.2.2.2.2.1, .int .i64 v.2.2.2.2.2.2.2.2.2.2.2.2.2.2.2.2.2.2.2.1, .int .i64 v.2.2.2.2.2.2.2.2.2.2.2.2.2.2.2.2.2.2.2.2]]⟩
def law04_MeetNames_r16 (C : law04_MeetNames_C) (v : law04_MeetNames_Y15) : Dt law04_MeetNames_Y16 := (Dt.bnd (C.2.2.2.2.2.2.2.1 (())) fun r1 => (Dt.bnd (C.2.2.2.2.2.2.1 (((-9223372036854775807:Int), ()), ())) fun r2 => (Dt.bnd (C.2.2.2.2.2.2.1 (((9223372036854775807:Int), ()), ())) fun r3 => (Dt.bnd (C.2.2.2.2.1 ((r1, ()), (r2.1, r2.2, ()), (r3.1, r3.2, ()), ())) fun r4 => (Dt.ret (v.1, v.2.1, v.2.2.1, v.2.2.2.1, v.2.2.2.2.1, v.2.2.2.2.2.1, v.2.2.2.2.2.2.1, v.2.2.2.2.2.2.2.1, v.2.2.2.2.2.2.2.2.1, v.2.2.2.2.2.2.2.2.2.1, v.2.2.2.2.2.2.2.2.2.2.1, v.2.2.2.2.2.2.2.2.2.2.2.1, v.2.2.2.2.2.2.2.2.2.2.2.2.1, v.2.2.2.2.2.2.2.2.2.2.2.2.2.1, v.2.2.2.2.2.2.2.2.2.2.2.2.2.2.1, r4.1, r4.2, v.2.2.2.2.2.2.2.2.2.2.2.2.2.2.2.1, v.2.2.2.2.2.2.2.2.2.2.2.2.2.2.2.2.1, v.2.2.2.2.2.2.2.2.2.2.2.2.2.2.2.2.2.1, v.2.2.2.2.2.2.2.2.2.2.2.2.2.2.2.2.2.2))))))
theorem law04_MeetNames_g16 (C : law04_MeetNames_C) (v : law04_MeetNames_Y15) : treg tysT (orc (law04_MeetNames_tab C)) 204 (regO (bodyOf f6) 16) false [(3, .any), (5, .any), (7, .any), (9, .any), (11, .any), (13, .any), (15, .any), (17, .any), (19, .any), (21, (.val Riiii)), (22, .any), (24, .any), (25, .any), (26, .any), (27, .any), (28, .any), (29, .any), (30, .any)] (law04_MeetNames_S15 v) some = (law04_MeetNames_r16 C v).eval fun y => some (law04_MeetNames_S16 y) := by kernel_rfl
abbrev law04_MeetNames_Y17 : Type := Bool
def law04_MeetNames_S17 (v : law04_MeetNames_Y17) : St := ⟨[(0, .bool v)], []⟩
def law04_MeetNames_r17 (C : law04_MeetNames_C) (v : law04_MeetNames_Y16) : Dt law04_MeetNames_Y17 := (Dt.ite (v.1 == (4:Int)) (Dt.ite (v.2.1 == (8:Int)) (Dt.ite (v.2.2.1 == (2:Int)) (Dt.ite (v.2.2.2.1 == (2:Int)) (Dt.ite (v.2.2.2.2.1 == (8:Int)) (Dt.ite (v.2.2.2.2.2.1 == (6:Int)) (Dt.ite (v.2.2.2.2.2.2.1 == (4:Int)) (Dt.ite (v.2.2.2.2.2.2.2.1 == (6:Int)) (Dt.ite (v.2.2.2.2.2.2.2.2.1 == (4:Int)) (Dt.ite (v.2.2.2.2.2.2.2.2.2.2.1 == (0:Int)) (Dt.ite ((List.length v.2.2.2.2.2.2.2.2.2.1 : Int) == (0:Int)) (Dt.ite (v.2.2.2.2.2.2.2.2.2.2.2.1 == (6:Int)) (Dt.ite (v.2.2.2.2.2.2.2.2.2.2.2.2.2.1 == (0:Int)) (Dt.ite (v.2.2.2.2.2.2.2.2.2.2.2.2.1 == (0:Int)) (Dt.ite (v.2.2.2.2.2.2.2.2.2.2.2.2.2.2.1 == (0:Int)) (Dt.bnd (C.2.2.2.2.2.2.1 (((0:Int), ()), ())) fun r1 => (Dt.ite ((v.2.2.2.2.2.2.2.2.2.2.2.2.2.2.2.2.2.1 == r1.1) && ((v.2.2.2.2.2.2.2.2.2.2.2.2.2.2.2.2.2.2.1 == r1.2) && ((v.2.2.2.2.2.2.2.2.2.2.2.2.2.2.2.2.2.2.2.1 == (1:Int)) && ((v.2.2.2.2.2.2.2.2.2.2.2.2.2.2.2.2.2.2.2.2 == (5:Int)) && true)))) (Dt.ite (v.2.2.2.2.2.2.2.2.2.2.2.2.2.2.2.2.1 == (0:Int)) (Dt.ite (v.2.2.2.2.2.2.2.2.2.2.2.2.2.2.2.1 == (3:Int)) (Dt.bnd (C.2.2.1 (())) fun r2 => (Dt.ret r2)) (Dt.ret false)) (Dt.ret false)) (Dt.ret false))) (Dt.ret false)) (Dt.ret false)) (Dt.ret false)) (Dt.ret false)) (Dt.ret false)) (Dt.ret false)) (Dt.ret false)) (Dt.ret false)) (Dt.ret false)) (Dt.ret false)) (Dt.ret false)) (Dt.ret false)) (Dt.ret false)) (Dt.ret false)) (Dt.ret false))
theorem law04_MeetNames_g17 (C : law04_MeetNames_C) (v : law04_MeetNames_Y16) : treg tysT (orc (law04_MeetNames_tab C)) 204 (regO (bodyOf f6) 17) true [(0, .any)] (law04_MeetNames_S16 v) some = (law04_MeetNames_r17 C v).eval fun y => some (law04_MeetNames_S17 y) := by kernel_rfl
def F_law04_MeetNames (d : Nat) (x : law04_MeetNames_X) : Option law04_MeetNames_R :=
  (law04_MeetNames_r0 (law04_MeetNames_K d) ()).eval fun y0 =>
  (law04_MeetNames_r1 (law04_MeetNames_K d) ()).eval fun y1 =>
  (law04_MeetNames_r2 (law04_MeetNames_K d) y1).eval fun y2 =>
  (law04_MeetNames_r3 (law04_MeetNames_K d) y2).eval fun y3 =>
  (law04_MeetNames_r4 (law04_MeetNames_K d) y3).eval fun y4 =>
  (law04_MeetNames_r5 (law04_MeetNames_K d) y4).eval fun y5 =>
  (law04_MeetNames_r6 (law04_MeetNames_K d) y5).eval fun y6 =>
  (law04_MeetNames_r7 (law04_MeetNames_K d) y6).eval fun y7 =>
  (law04_MeetNames_r8 (law04_MeetNames_K d) y7).eval fun y8 =>
  (law04_MeetNames_r9 (law04_MeetNames_K d) y8).eval fun y9 =>
  (law04_MeetNames_r10 (law04_MeetNames_K d) y9).eval fun y10 =>
  (law04_MeetNames_r11 (law04_MeetNames_K d) y10).eval fun y11 =>
  (law04_MeetNames_r12 (law04_MeetNames_K d) y11).eval fun y12 =>
  (law04_MeetNames_r13 (law04_MeetNames_K d) y12).eval fun y13 =>
  (law04_MeetNames_r14 (law04_MeetNames_K d) y13).eval fun y14 =>
  (law04_MeetNames_r15 (law04_MeetNames_K d) y14).eval fun y15 =>
  (law04_MeetNames_r16 (law04_MeetNames_K d) y15).eval fun y16 =>
  (law04_MeetNames_r17 (law04_MeetNames_K d) y16).eval fun y17 =>
  some y17
theorem law04_MeetNames_cok (d : Nat) : COK prog (law04_MeetNames_sp (F_law04_MeetNames d)) := by
  have hm : prog.follows .mixedOrders = true := mixed
  have hT := tys
  have hC0 : OrcOK prog (orc (law04_MeetNames_tab (law04_MeetNames_K d))) := orc_ok (by
    intro S hS
    simp only [law04_MeetNames_tab, List.mem_cons, List.not_mem_nil, or_false] at hS
    rcases hS with rfl | rfl | rfl | rfl | rfl | rfl | rfl | rfl | rfl
    · exact meet_Next_cok d
    · exact meet_Last_cok d
    · exact law04_alive_cok d
    · exact meet_All_cok d
    · exact meet_Count_cok d
    · exact meet_Swaps_cok d
    · exact law04_at_cok d
    · exact law04_given_cok d
    · exact field_New_cok d)
  have hC : OrcOK prog (orc (law04_MeetNames_tab (law04_MeetNames_K d))) := hC0
  refine cok_of (c := bodyOf f6) (fn := f6) hT (by kernel_rfl) (by kernel_rfl) (by decide) fun x r h w0 φ0 Q hend => ?_
  replace h : F_law04_MeetNames d x = some r := h
  unfold F_law04_MeetNames at h
  show Run prog w0 φ0 204 (bodyOf f6) ⟨[], []⟩ Q
  refine run_seq ?_
  refine run_reg hm hT hC (law04_MeetNames_g0 (law04_MeetNames_K d) ()) h ?_
  intro y0 h
  refine cn_then ?_
  refine run_seq ?_
  refine run_reg hm hT hC (law04_MeetNames_g1 (law04_MeetNames_K d) ()) h ?_
  intro y1 h
  refine cn_then ?_
  refine run_seq ?_
  refine run_reg hm hT hC (law04_MeetNames_g2 (law04_MeetNames_K d) y1) h ?_
  intro y2 h
  refine cn_then ?_
  refine run_seq ?_
  refine run_reg hm hT hC (law04_MeetNames_g3 (law04_MeetNames_K d) y2) h ?_
  intro y3 h
  refine cn_then ?_
  refine run_seq ?_
  refine run_reg hm hT hC (law04_MeetNames_g4 (law04_MeetNames_K d) y3) h ?_
  intro y4 h
  refine cn_then ?_
  refine run_seq ?_
  refine run_reg hm hT hC (law04_MeetNames_g5 (law04_MeetNames_K d) y4) h ?_
  intro y5 h
  refine cn_then ?_
  refine run_seq ?_
  refine run_reg hm hT hC (law04_MeetNames_g6 (law04_MeetNames_K d) y5) h ?_
  intro y6 h
  refine cn_then ?_
  refine run_seq ?_
  refine run_reg hm hT hC (law04_MeetNames_g7 (law04_MeetNames_K d) y6) h ?_
  intro y7 h
  refine cn_then ?_
  refine run_seq ?_
  refine run_reg hm hT hC (law04_MeetNames_g8 (law04_MeetNames_K d) y7) h ?_
  intro y8 h
  refine cn_then ?_
  refine run_seq ?_
  refine run_reg hm hT hC (law04_MeetNames_g9 (law04_MeetNames_K d) y8) h ?_
  intro y9 h
  refine cn_then ?_
  refine run_seq ?_
  refine run_reg hm hT hC (law04_MeetNames_g10 (law04_MeetNames_K d) y9) h ?_
  intro y10 h
  refine cn_then ?_
  refine run_seq ?_
  refine run_reg hm hT hC (law04_MeetNames_g11 (law04_MeetNames_K d) y10) h ?_
  intro y11 h
  refine cn_then ?_
  refine run_seq ?_
  refine run_reg hm hT hC (law04_MeetNames_g12 (law04_MeetNames_K d) y11) h ?_
  intro y12 h
  refine cn_then ?_
  refine run_seq ?_
  refine run_reg hm hT hC (law04_MeetNames_g13 (law04_MeetNames_K d) y12) h ?_
  intro y13 h
  refine cn_then ?_
  refine run_seq ?_
  refine run_reg hm hT hC (law04_MeetNames_g14 (law04_MeetNames_K d) y13) h ?_
  intro y14 h
  refine cn_then ?_
  refine run_seq ?_
  refine run_reg hm hT hC (law04_MeetNames_g15 (law04_MeetNames_K d) y14) h ?_
  intro y15 h
  refine cn_then ?_
  refine run_seq ?_
  refine run_reg hm hT hC (law04_MeetNames_g16 (law04_MeetNames_K d) y15) h ?_
  intro y16 h
  refine cn_then ?_
  refine run_seq ?_
  refine run_reg hm hT hC (law04_MeetNames_g17 (law04_MeetNames_K d) y16) h ?_
  intro y17 h
  refine cn_then ?_
  refine run_ret ?_
  cases h
  exact (hend _ (by kernel_rfl)).2
end Go.Proofs.Ythopjgahedijcaa
