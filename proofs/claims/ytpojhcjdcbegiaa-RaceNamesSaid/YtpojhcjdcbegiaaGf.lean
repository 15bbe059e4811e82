/- Walks of the references; the orders agree; examples. -/
import Derived.Test.YtpojhcjdcbegiaaRows
import Derived.ProofKit
import Derived.OpenShut
import Derived.ShutString
import Derived.ChangeOld
import Derived.Test.YtpojhcjdcbegiaaGe
set_option linter.unusedSimpArgs false
set_option linter.unusedVariables false
namespace Go.Proofs.Ytpojhcjdcbegiaa
open Go Go.Tx Go.Proofs.Try
set_option maxRecDepth 100000
set_option maxHeartbeats 0
abbrev race_less_ps : List Pk := [.row Rii true, .row Rii true]
abbrev race_less_X : Type := Dii × Dii × Unit
abbrev race_less_R : Type := Bool
def race_less_enc (r : race_less_R) : LV × List Ob := (.bool r, [])
def race_less_sp (F : race_less_X → Option race_less_R) : Go.Tx.Spec := ⟨67, race_less_ps, race_less_R, F, race_less_enc⟩
abbrev race_less_C : Type := (ratio_Cmp_X → Option ratio_Cmp_R) × Unit
def race_less_K (d : Nat) : race_less_C := (F_ratio_Cmp d, ())
def race_less_tab (C : race_less_C) : List Go.Tx.Spec := [ratio_Cmp_sp C.1]
abbrev race_less_Y0i : Type := Int × Int × Int × Int
def race_less_S0i (v : race_less_Y0i) : St := ⟨[(0, .agg [.int .i64 v.1, .int .i64 v.2.1]), (1, .agg [.int .i64 v.2.2.1, .int .i64 v.2.2.2])], []⟩
abbrev race_less_Y0 : Type := Int × Int × Int × Int
def race_less_S0 (v : race_less_Y0) : St := ⟨[(2, .ptr 0 0), (3, .ptr 1 0)], [.cells [.int .i64 v.1, .int .i64 v.2.1], .cells [.int .i64 v.2.2.1, .int .i64 v.2.2.2]]⟩
def race_less_r0 (C : race_less_C) (v : race_less_Y0i) : Dt race_less_Y0 := (Dt.ret (v.1, v.2.1, v.2.2.1, v.2.2.2))
theorem race_less_g0 (C : race_less_C) (v : race_less_Y0i) : treg tysT (orc (race_less_tab C)) 15 (regO (bodyOf f67) 0) false [(2, .any), (3, .any)] (race_less_S0i v) some = (race_less_r0 C v).eval fun y => some (race_less_S0 y) := by kernel_rfl
abbrev race_less_Y1 : Type := Int
def race_less_S1 (v : race_less_Y1) : St := ⟨[(5, .int .i64 v)], []⟩
def race_less_r1 (C : race_less_C) (v : race_less_Y0) : Dt race_less_Y1 := (Dt.bnd (C.1 ((v.1, v.2.1, ()), (v.2.2.1, v.2.2.2, ()), ())) fun r1 => (Dt.ret r1.1))
theorem race_less_g1 (C : race_less_C) (v : race_less_Y0) : treg tysT (orc (race_less_tab C)) 15 (regO (bodyOf f67) 1) false [(5, .any)] (race_less_S0 v) some = (race_less_r1 C v).eval fun y => some (race_less_S1 y) := by kernel_rfl
abbrev race_less_Y2 : Type := Bool
def race_less_S2 (v : race_less_Y2) : St := ⟨[(4, .bool v)], []⟩
def race_less_r2 (C : race_less_C) (v : race_less_Y1) : Dt race_less_Y2 := (Dt.ret (decide (v < (0:Int))))
theorem race_less_g2 (C : race_less_C) (v : race_less_Y1) : treg tysT (orc (race_less_tab C)) 15 (regO (bodyOf f67) 2) false [(4, .any)] (race_less_S1 v) some = (race_less_r2 C v).eval fun y => some (race_less_S2 y) := by kernel_rfl
def F_race_less (d : Nat) (x : race_less_X) : Option race_less_R :=
  (race_less_r0 (race_less_K d) (x.1.1, x.1.2.1, x.2.1.1, x.2.1.2.1)).eval fun y0 =>
  (race_less_r1 (race_less_K d) y0).eval fun y1 =>
  (race_less_r2 (race_less_K d) y1).eval fun y2 =>
  some y2
theorem race_less_cok (d : Nat) : COK prog (race_less_sp (F_race_less d)) := by
  have hm : prog.follows .mixedOrders = true := mixed
  have hT := tys
  have hC0 : OrcOK prog (orc (race_less_tab (race_less_K d))) := orc_ok (by
    intro S hS
    simp only [race_less_tab, List.mem_cons, List.not_mem_nil, or_false] at hS
    subst hS; exact ratio_Cmp_cok d)
  have hC : OrcOK prog (orc (race_less_tab (race_less_K d))) := hC0
  refine cok_of (c := bodyOf f67) (fn := f67) hT (by kernel_rfl) (by kernel_rfl) (by decide) fun x r h w0 φ0 Q hend => ?_
  replace h : F_race_less d x = some r := h
  unfold F_race_less at h
  show Run prog w0 φ0 15 (bodyOf f67) ⟨[(0, .agg [.int .i64 x.1.1, .int .i64 x.1.2.1]), (1, .agg [.int .i64 x.2.1.1, .int .i64 x.2.1.2.1])], []⟩ Q
  refine run_seq ?_
  refine run_reg hm hT hC (race_less_g0 (race_less_K d) (x.1.1, x.1.2.1, x.2.1.1, x.2.1.2.1)) h ?_
  intro y0 h
  refine cn_then ?_
  refine run_seq ?_
  refine run_reg hm hT hC (race_less_g1 (race_less_K d) y0) h ?_
  intro y1 h
  refine cn_then ?_
  refine run_seq ?_
  refine run_reg hm hT hC (race_less_g2 (race_less_K d) y1) h ?_
  intro y2 h
  refine cn_then ?_
  refine run_ret ?_
  cases h
  exact (hend _ (by kernel_rfl)).2
abbrev race_Check_ps : List Pk := [.row RLiiiiiE false]
abbrev race_Check_X : Type := DLiiiiiE × Unit
abbrev race_Check_R : Type := Int
def race_Check_enc (r : race_Check_R) : LV × List Ob := (.int .i64 r, [])
def race_Check_sp (F : race_Check_X → Option race_Check_R) : Go.Tx.Spec := ⟨31, race_Check_ps, race_Check_R, F, race_Check_enc⟩
abbrev race_Check_C : Type := (ratio_Check_X → Option ratio_Check_R) × (race_less_X → Option race_less_R) × Unit
def race_Check_K (d : Nat) : race_Check_C := (F_ratio_Check d, F_race_less d, ())
def race_Check_tab (C : race_Check_C) : List Go.Tx.Spec := [ratio_Check_sp C.1, race_less_sp C.2.1]
abbrev race_Check_Y0i : Type := List Diiiii
def race_Check_S0i (v : race_Check_Y0i) : St := ⟨[(0, .fz Riiiii v)], []⟩
def race_Check_r0 (C : race_Check_C) (v : race_Check_Y0i) : Dt race_Check_Y0i := (Dt.ret v)
theorem race_Check_g0 (C : race_Check_C) (v : race_Check_Y0i) : treg tysT (orc (race_Check_tab C)) 82 (regO (bodyOf f31) 0) false [(0, (.val Riiiii))] (race_Check_S0i v) some = (race_Check_r0 C v).eval fun y => some (race_Check_S0i y) := by kernel_rfl
abbrev race_Check_Y1 : Type := List Diiiii × Bool
def race_Check_S1 (v : race_Check_Y1) : St := ⟨[(0, .fz Riiiii v.1), (12, .bool v.2)], []⟩
def race_Check_r1 (C : race_Check_C) (v : race_Check_Y0i) : Dt race_Check_Y1 := (Dt.ite (decide ((List.length v : Int) < (1:Int))) (Dt.ret (v, true)) (Dt.ret (v, (decide ((List.length v : Int) > (300:Int))))))
theorem race_Check_g1 (C : race_Check_C) (v : race_Check_Y0i) : treg tysT (orc (race_Check_tab C)) 82 (regO (bodyOf f31) 1) false [(0, (.val Riiiii)), (12, .any)] (race_Check_S0i v) some = (race_Check_r1 C v).eval fun y => some (race_Check_S1 y) := by kernel_rfl
abbrev race_Check_Y2 : Type := Int
def race_Check_S2 (v : race_Check_Y2) : St := ⟨[(2, .int .i64 v)], []⟩
def race_Check_r2 (C : race_Check_C) (v : race_Check_Y1) : Dt race_Check_Y2 := (Dt.ret (8:Int))
theorem race_Check_g2 (C : race_Check_C) (v : race_Check_Y1) : treg tysT (orc (race_Check_tab C)) 82 (regO (bodyOf f31) 2) false [(2, .any)] (race_Check_S1 v) some = (race_Check_r2 C v).eval fun y => some (race_Check_S2 y) := by kernel_rfl
abbrev race_Check_Y3 : Type := List Diiiii × List Diiiii × Int × Int
def race_Check_S3 (v : race_Check_Y3) : St := ⟨[(0, .fz Riiiii v.1), (13, .fz Riiiii v.2.1), (14, .int .i64 v.2.2.1), (15, .int .i64 v.2.2.2)], []⟩
def race_Check_r3 (C : race_Check_C) (v : race_Check_Y1) : Dt race_Check_Y3 := (Dt.ret (v.1, v.1, (List.length v.1 : Int), (0:Int)))
theorem race_Check_g3 (C : race_Check_C) (v : race_Check_Y1) : treg tysT (orc (race_Check_tab C)) 82 (regO (bodyOf f31) 3) false [(0, (.val Riiiii)), (13, (.val Riiiii)), (14, .any), (15, .any)] (race_Check_S1 v) some = (race_Check_r3 C v).eval fun y => some (race_Check_S3 y) := by kernel_rfl
abbrev race_Check_Y4 : Type := List Diiiii × List Diiiii × Int × Int × Bool
def race_Check_S4 (v : race_Check_Y4) : St := ⟨[(0, .fz Riiiii v.1), (13, .fz Riiiii v.2.1), (14, .int .i64 v.2.2.1), (15, .int .i64 v.2.2.2.1), (16, .bool v.2.2.2.2)], []⟩
def race_Check_r4 (C : race_Check_C) (v : race_Check_Y3) : Dt race_Check_Y4 := (Dt.ret (v.1, v.2.1, v.2.2.1, v.2.2.2, (decide (v.2.2.2 < v.2.2.1))))
theorem race_Check_g4 (C : race_Check_C) (v : race_Check_Y3) : treg tysT (orc (race_Check_tab C)) 82 (regO (bodyOf f31) 4) false [(0, (.val Riiiii)), (13, (.val Riiiii)), (14, .any), (15, .any), (16, .any)] (race_Check_S3 v) some = (race_Check_r4 C v).eval fun y => some (race_Check_S4 y) := by kernel_rfl
abbrev race_Check_Y5 : Type := List Diiiii × Int × List Diiiii × Int × Int × Int × Int × Int × Int × Int
def race_Check_S5 (v : race_Check_Y5) : St := ⟨[(0, .fz Riiiii v.1), (3, .int .i64 v.2.1), (4, .ptr 0 0), (13, .fz Riiiii v.2.2.1), (14, .int .i64 v.2.2.2.1), (15, .int .i64 v.2.2.2.2.1)], [.cells [.int .i64 v.2.2.2.2.2.1, .int .i64 v.2.2.2.2.2.2.1, .int .i64 v.2.2.2.2.2.2.2.1, .int .i64 v.2.2.2.2.2.2.2.2.1, .int .i64 v.2.2.2.2.2.2.2.2.2]]⟩
def race_Check_r5 (C : race_Check_C) (v : race_Check_Y4) : Dt race_Check_Y5 := (Dt.ite (inB v.2.2.2.1 (List.length v.2.1)) (Dt.ret (v.1, v.2.2.2.1, v.2.1, v.2.2.1, v.2.2.2.1, (elt ziiiii v.2.1 (v.2.2.2.1).toNat).1, (elt ziiiii v.2.1 (v.2.2.2.1).toNat).2.1, (elt ziiiii v.2.1 (v.2.2.2.1).toNat).2.2.1, (elt ziiiii v.2.1 (v.2.2.2.1).toNat).2.2.2.1, (elt ziiiii v.2.1 (v.2.2.2.1).toNat).2.2.2.2.1)) Dt.fail)
theorem race_Check_g5 (C : race_Check_C) (v : race_Check_Y4) : treg tysT (orc (race_Check_tab C)) 82 (regO (bodyOf f31) 5) false [(0, (.val Riiiii)), (3, .any), (4, .any), (13, (.val Riiiii)), (14, .any), (15, .any)] (race_Check_S4 v) some = (race_Check_r5 C v).eval fun y => some (race_Check_S5 y) := by kernel_rfl
abbrev race_Check_Y6 : Type := List Diiiii × Int × List Diiiii × Int × Int × Bool × Int × Int × Int × Int × Int
def race_Check_S6 (v : race_Check_Y6) : St := ⟨[(0, .fz Riiiii v.1), (3, .int .i64 v.2.1), (4, .ptr 0 0), (13, .fz Riiiii v.2.2.1), (14, .int .i64 v.2.2.2.1), (15, .int .i64 v.2.2.2.2.1), (39, .bool v.2.2.2.2.2.1)], [.cells [.int .i64 v.2.2.2.2.2.2.1, .int .i64 v.2.2.2.2.2.2.2.1, .int .i64 v.2.2.2.2.2.2.2.2.1, .int .i64 v.2.2.2.2.2.2.2.2.2.1, .int .i64 v.2.2.2.2.2.2.2.2.2.2]]⟩
def race_Check_r6 (C : race_Check_C) (v : race_Check_Y5) : Dt race_Check_Y6 := (Dt.bnd (C.1 ((v.2.2.2.2.2.1, v.2.2.2.2.2.2.1, ()), ())) fun r1 => (Dt.ite (r1 != (0:Int)) (Dt.ret (v.1, v.2.1, v.2.2.1, v.2.2.2.1, v.2.2.2.2.1, true, v.2.2.2.2.2.1, v.2.2.2.2.2.2.1, v.2.2.2.2.2.2.2.1, v.2.2.2.2.2.2.2.2.1, v.2.2.2.2.2.2.2.2.2)) (Dt.bnd (C.1 ((v.2.2.2.2.2.2.2.1, v.2.2.2.2.2.2.2.2.1, ()), ())) fun r2 => (Dt.ite (r2 != (0:Int)) (Dt.ret (v.1, v.2.1, v.2.2.1, v.2.2.2.1, v.2.2.2.2.1, true, v.2.2.2.2.2.1, v.2.2.2.2.2.2.1, v.2.2.2.2.2.2.2.1, v.2.2.2.2.2.2.2.2.1, v.2.2.2.2.2.2.2.2.2)) (Dt.ite (decide (v.2.2.2.2.2.2.2.2.2 < (0:Int))) (Dt.ret (v.1, v.2.1, v.2.2.1, v.2.2.2.1, v.2.2.2.2.1, true, v.2.2.2.2.2.1, v.2.2.2.2.2.2.1, v.2.2.2.2.2.2.2.1, v.2.2.2.2.2.2.2.2.1, v.2.2.2.2.2.2.2.2.2)) (Dt.ret (v.1, v.2.1, v.2.2.1, v.2.2.2.1, v.2.2.2.2.1, (decide (v.2.2.2.2.2.2.2.2.2 > (65535:Int))), v.2.2.2.2.2.1, v.2.2.2.2.2.2.1, v.2.2.2.2.2.2.2.1, v.2.2.2.2.2.2.2.2.1, v.2.2.2.2.2.2.2.2.2)))))))
theorem race_Check_g6 (C : race_Check_C) (v : race_Check_Y5) : treg tysT (orc (race_Check_tab C)) 82 (regO (bodyOf f31) 6) false [(0, (.val Riiiii)), (3, .any), (4, .any), (13, (.val Riiiii)), (14, .any), (15, .any), (39, .any)] (race_Check_S5 v) some = (race_Check_r6 C v).eval fun y => some (race_Check_S6 y) := by kernel_rfl
def race_Check_r7 (C : race_Check_C) (v : race_Check_Y6) : Dt race_Check_Y2 := (Dt.ret (8:Int))
theorem race_Check_g7 (C : race_Check_C) (v : race_Check_Y6) : treg tysT (orc (race_Check_tab C)) 82 (regO (bodyOf f31) 7) false [(2, .any)] (race_Check_S6 v) some = (race_Check_r7 C v).eval fun y => some (race_Check_S2 y) := by kernel_rfl
abbrev race_Check_Y8 : Type := List Diiiii × Int × List Diiiii × Int × Int × Bool × Int × Int × Int × Int × Int
def race_Check_S8 (v : race_Check_Y8) : St := ⟨[(0, .fz Riiiii v.1), (3, .int .i64 v.2.1), (4, .ptr 0 0), (13, .fz Riiiii v.2.2.1), (14, .int .i64 v.2.2.2.1), (15, .int .i64 v.2.2.2.2.1), (56, .bool v.2.2.2.2.2.1)], [.cells [.int .i64 v.2.2.2.2.2.2.1, .int .i64 v.2.2.2.2.2.2.2.1, .int .i64 v.2.2.2.2.2.2.2.2.1, .int .i64 v.2.2.2.2.2.2.2.2.2.1, .int .i64 v.2.2.2.2.2.2.2.2.2.2]]⟩
def race_Check_r8 (C : race_Check_C) (v : race_Check_Y6) : Dt race_Check_Y8 := (Dt.bnd (C.2.1 ((v.2.2.2.2.2.2.2.2.1, v.2.2.2.2.2.2.2.2.2.1, ()), (v.2.2.2.2.2.2.1, v.2.2.2.2.2.2.2.1, ()), ())) fun r1 => (Dt.ite r1 (Dt.ret (v.1, v.2.1, v.2.2.1, v.2.2.2.1, v.2.2.2.2.1, true, v.2.2.2.2.2.2.1, v.2.2.2.2.2.2.2.1, v.2.2.2.2.2.2.2.2.1, v.2.2.2.2.2.2.2.2.2.1, v.2.2.2.2.2.2.2.2.2.2)) (Dt.ite ((v.2.2.2.2.2.2.1 == v.2.2.2.2.2.2.2.2.1) && ((v.2.2.2.2.2.2.2.1 == v.2.2.2.2.2.2.2.2.2.1) && true)) (Dt.ret (v.1, v.2.1, v.2.2.1, v.2.2.2.1, v.2.2.2.2.1, (decide ((List.length v.1 : Int) > (1:Int))), v.2.2.2.2.2.2.1, v.2.2.2.2.2.2.2.1, v.2.2.2.2.2.2.2.2.1, v.2.2.2.2.2.2.2.2.2.1, v.2.2.2.2.2.2.2.2.2.2)) (Dt.ret (v.1, v.2.1, v.2.2.1, v.2.2.2.1, v.2.2.2.2.1, false, v.2.2.2.2.2.2.1, v.2.2.2.2.2.2.2.1, v.2.2.2.2.2.2.2.2.1, v.2.2.2.2.2.2.2.2.2.1, v.2.2.2.2.2.2.2.2.2.2)))))
theorem race_Check_g8 (C : race_Check_C) (v : race_Check_Y6) : treg tysT (orc (race_Check_tab C)) 82 (regO (bodyOf f31) 8) false [(0, (.val Riiiii)), (3, .any), (4, .any), (13, (.val Riiiii)), (14, .any), (15, .any), (56, .any)] (race_Check_S6 v) some = (race_Check_r8 C v).eval fun y => some (race_Check_S8 y) := by kernel_rfl
def race_Check_r9 (C : race_Check_C) (v : race_Check_Y8) : Dt race_Check_Y2 := (Dt.ret (8:Int))
theorem race_Check_g9 (C : race_Check_C) (v : race_Check_Y8) : treg tysT (orc (race_Check_tab C)) 82 (regO (bodyOf f31) 9) false [(2, .any)] (race_Check_S8 v) some = (race_Check_r9 C v).eval fun y => some (race_Check_S2 y) := by kernel_rfl
abbrev race_Check_Y10 : Type := List Diiiii × List Diiiii × Int × Int × Bool
def race_Check_S10 (v : race_Check_Y10) : St := ⟨[(0, .fz Riiiii v.1), (13, .fz Riiiii v.2.1), (14, .int .i64 v.2.2.1), (15, .int .i64 v.2.2.2.1), (80, .bool v.2.2.2.2)], []⟩
def race_Check_r10 (C : race_Check_C) (v : race_Check_Y8) : Dt race_Check_Y10 := (Dt.ite (decide (v.2.1 > (0:Int))) (Dt.ite (inB (IntKind.wrap .i64 (v.2.1 - (1:Int))) (List.length v.1)) (Dt.ite (!(((elt ziiiii v.1 ((IntKind.wrap .i64 (v.2.1 - (1:Int)))).toNat).2.2.1 == v.2.2.2.2.2.2.1) && (((elt ziiiii v.1 ((IntKind.wrap .i64 (v.2.1 - (1:Int)))).toNat).2.2.2.1 == v.2.2.2.2.2.2.2.1) && true))) (Dt.ret (v.1, v.2.2.1, v.2.2.2.1, v.2.2.2.2.1, true)) (Dt.ite (inB (IntKind.wrap .i64 (v.2.1 - (1:Int))) (List.length v.1)) (Dt.ret (v.1, v.2.2.1, v.2.2.2.1, v.2.2.2.2.1, ((elt ziiiii v.1 ((IntKind.wrap .i64 (v.2.1 - (1:Int)))).toNat).2.2.2.2.1 == v.2.2.2.2.2.2.2.2.2.2))) Dt.fail)) Dt.fail) (Dt.ret (v.1, v.2.2.1, v.2.2.2.1, v.2.2.2.2.1, false)))
theorem race_Check_g10 (C : race_Check_C) (v : race_Check_Y8) : treg tysT (orc (race_Check_tab C)) 82 (regO (bodyOf f31) 10) true [(0, (.val Riiiii)), (13, (.val Riiiii)), (14, .any), (15, .any), (80, .any)] (race_Check_S8 v) some = (race_Check_r10 C v).eval fun y => some (race_Check_S10 y) := by kernel_rfl
def race_Check_r11 (C : race_Check_C) (v : race_Check_Y10) : Dt race_Check_Y2 := (Dt.ret (8:Int))
theorem race_Check_g11 (C : race_Check_C) (v : race_Check_Y10) : treg tysT (orc (race_Check_tab C)) 82 (regO (bodyOf f31) 11) false [(2, .any)] (race_Check_S10 v) some = (race_Check_r11 C v).eval fun y => some (race_Check_S2 y) := by kernel_rfl
def race_Check_r12 (C : race_Check_C) (v : race_Check_Y10) : Dt race_Check_Y3 := (Dt.ret (v.1, v.2.1, v.2.2.1, (IntKind.wrap .i64 (v.2.2.2.1 + (1:Int)))))
theorem race_Check_g12 (C : race_Check_C) (v : race_Check_Y10) : treg tysT (orc (race_Check_tab C)) 82 (regO (bodyOf f31) 12) false [(0, (.val Riiiii)), (13, (.val Riiiii)), (14, .any), (15, .any)] (race_Check_S10 v) some = (race_Check_r12 C v).eval fun y => some (race_Check_S3 y) := by kernel_rfl
def race_Check_r13 (C : race_Check_C) (v : race_Check_Y4) : Dt race_Check_Y2 := (Dt.ret (0:Int))
theorem race_Check_g13 (C : race_Check_C) (v : race_Check_Y4) : treg tysT (orc (race_Check_tab C)) 82 (regO (bodyOf f31) 13) false [(2, .any)] (race_Check_S4 v) some = (race_Check_r13 C v).eval fun y => some (race_Check_S2 y) := by kernel_rfl
def race_Check_L1 (d : Nat) (self1 : (List Diiiii × List Diiiii × Int × Int) → Option race_Check_R) (x1 : List Diiiii × List Diiiii × Int × Int) : Option race_Check_R :=
  (race_Check_r4 (race_Check_K d) x1).eval fun y4 =>
  bif y4.2.2.2.2 then ((race_Check_r5 (race_Check_K d) y4).eval fun y5 =>
  (race_Check_r6 (race_Check_K d) y5).eval fun y6 =>
  bif y6.2.2.2.2.2.1 then ((race_Check_r7 (race_Check_K d) y6).eval fun y7 =>
  some y7) else ((race_Check_r8 (race_Check_K d) y6).eval fun y8 =>
  bif y8.2.2.2.2.2.1 then ((race_Check_r9 (race_Check_K d) y8).eval fun y9 =>
  some y9) else ((race_Check_r10 (race_Check_K d) y8).eval fun y10 =>
  bif y10.2.2.2.2 then ((race_Check_r11 (race_Check_K d) y10).eval fun y11 =>
  some y11) else ((race_Check_r12 (race_Check_K d) y10).eval fun y12 =>
  self1 y12)))) else ((race_Check_r13 (race_Check_K d) y4).eval fun y13 =>
  some y13)
def F_race_Check (d : Nat) (x : race_Check_X) : Option race_Check_R :=
  (race_Check_r0 (race_Check_K d) x.1.1).eval fun y0 =>
  (race_Check_r1 (race_Check_K d) y0).eval fun y1 =>
  bif y1.2 then ((race_Check_r2 (race_Check_K d) y1).eval fun y2 =>
  some y2) else ((race_Check_r3 (race_Check_K d) y1).eval fun y3 =>
  iter (race_Check_L1 d ) d y3)
theorem race_Check_cok (d : Nat) : COK prog (race_Check_sp (F_race_Check d)) := by
  have hm : prog.follows .mixedOrders = true := mixed
  have hT := tys
  have hC0 : OrcOK prog (orc (race_Check_tab (race_Check_K d))) := orc_ok (by
    intro S hS
    simp only [race_Check_tab, List.mem_cons, List.not_mem_nil, or_false] at hS
    rcases hS with rfl | rfl
    · exact ratio_Check_cok d
    · exact race_less_cok d)
  have hC : OrcOK prog (orc (race_Check_tab (race_Check_K d))) := hC0
  refine cok_of (c := bodyOf f31) (fn := f31) hT (by kernel_rfl) (by kernel_rfl) (by decide) fun x r h w0 φ0 Q hend => ?_
  replace h : F_race_Check d x = some r := h
  unfold F_race_Check at h
  show Run prog w0 φ0 82 (bodyOf f31) ⟨[(0, .fz Riiiii x.1.1)], []⟩ Q
  refine run_seq ?_
  refine run_reg hm hT hC (race_Check_g0 (race_Check_K d) x.1.1) h ?_
  intro y0 h
  refine cn_then ?_
  refine run_seq ?_
  refine run_seq ?_
  refine run_reg hm hT hC (race_Check_g1 (race_Check_K d) y0) h ?_
  intro y1 h
  refine cn_then ?_
  refine run_cond (v := y1.2) (by kernel_rfl) h ?_ ?_
  ·
    intro h
    refine run_seq ?_
    refine run_reg hm hT hC (race_Check_g2 (race_Check_K d) y1) h ?_
    intro y2 h
    refine cn_then ?_
    refine run_ret ?_
    refine cn_then_ret ?_
    cases h
    exact (hend _ (by kernel_rfl)).2
  ·
    intro h
    refine run_skip ?_
    refine cn_then ?_
    refine run_seq ?_
    refine run_seq ?_
    refine run_reg hm hT hC (race_Check_g3 (race_Check_K d) y1) h ?_
    intro y3 h
    refine cn_then ?_
    refine run_block ?_
    refine run_loop (G := iter (race_Check_L1 d )) (S := (fun x1 => ⟨[(0, .fz Riiiii x1.1), (13, .fz Riiiii x1.2.1), (14, .int .i64 x1.2.2.1), (15, .int .i64 x1.2.2.2)], []⟩ : List Diiiii × List Diiiii × Int × Int → St)) (fun _ => rfl) ?_ d _ h
    intro n1 x1 h K1 hn1
    replace h : race_Check_L1 d  (iter (race_Check_L1 d ) n1) x1 = some r := h
    generalize iter (race_Check_L1 d ) n1 = self1 at h hn1
    unfold race_Check_L1 at h
    refine run_seq ?_
    refine run_reg hm hT hC (race_Check_g4 (race_Check_K d) x1) h ?_
    intro y4 h
    refine cn_then ?_
    refine run_seq ?_
    refine run_cond (v := y4.2.2.2.2) (by kernel_rfl) h ?_ ?_
    ·
      intro h
      refine run_skip ?_
      refine cn_then ?_
      refine run_seq ?_
      refine run_block ?_
      refine run_seq ?_
      refine run_reg hm hT hC (race_Check_g5 (race_Check_K d) y4) h ?_
      intro y5 h
      refine cn_then ?_
      refine run_seq ?_
      refine run_seq ?_
      refine run_reg hm hT hC (race_Check_g6 (race_Check_K d) y5) h ?_
      intro y6 h
      refine cn_then ?_
      refine run_cond (v := y6.2.2.2.2.2.1) (by kernel_rfl) h ?_ ?_
      ·
        intro h
        refine run_seq ?_
        refine run_reg hm hT hC (race_Check_g7 (race_Check_K d) y6) h ?_
        intro y7 h
        refine cn_then ?_
        refine run_ret ?_
        refine cn_then_ret ?_
        refine cn_blk_ret ?_
        refine cn_then_ret ?_
        refine cn_then_ret ?_
        refine cn_blk_ret ?_
        refine cn_then_ret ?_
        cases h
        exact (hend _ (by kernel_rfl)).2
      ·
        intro h
        refine run_skip ?_
        refine cn_then ?_
        refine run_seq ?_
        refine run_seq ?_
        refine run_reg hm hT hC (race_Check_g8 (race_Check_K d) y6) h ?_
        intro y8 h
        refine cn_then ?_
        refine run_cond (v := y8.2.2.2.2.2.1) (by kernel_rfl) h ?_ ?_
        ·
          intro h
          refine run_seq ?_
          refine run_reg hm hT hC (race_Check_g9 (race_Check_K d) y8) h ?_
          intro y9 h
          refine cn_then ?_
          refine run_ret ?_
          refine cn_then_ret ?_
          refine cn_blk_ret ?_
          refine cn_then_ret ?_
          refine cn_then_ret ?_
          refine cn_blk_ret ?_
          refine cn_then_ret ?_
          cases h
          exact (hend _ (by kernel_rfl)).2
        ·
          intro h
          refine run_skip ?_
          refine cn_then ?_
          refine run_seq ?_
          refine run_reg hm hT hC (race_Check_g10 (race_Check_K d) y8) h ?_
          intro y10 h
          refine cn_then ?_
          refine run_cond (v := y10.2.2.2.2) (by kernel_rfl) h ?_ ?_
          ·
            intro h
            refine run_seq ?_
            refine run_reg hm hT hC (race_Check_g11 (race_Check_K d) y10) h ?_
            intro y11 h
            refine cn_then ?_
            refine run_ret ?_
            refine cn_blk_ret ?_
            refine cn_then_ret ?_
            refine cn_then_ret ?_
            refine cn_blk_ret ?_
            refine cn_then_ret ?_
            cases h
            exact (hend _ (by kernel_rfl)).2
          ·
            intro h
            refine run_skip ?_
            refine cn_blk ?_
            refine cn_then ?_
            refine run_reg hm hT hC (race_Check_g12 (race_Check_K d) y10) h ?_
            intro y12 h
            exact hn1 _ h
    ·
      intro h
      refine run_exit ?_
      refine cn_then_exit ?_
      refine cn_then_exit ?_
      refine cn_blk_eq ?_
      refine cn_then ?_
      refine run_seq ?_
      refine run_reg hm hT hC (race_Check_g13 (race_Check_K d) y4) h ?_
      intro y13 h
      refine cn_then ?_
      refine run_ret ?_
      cases h
      exact (hend _ (by kernel_rfl)).2
abbrev race_check_ps : List Pk := [.row RLiiiE true, .row Rii true, .row Rii true]
abbrev race_check_X : Type := DLiiiE × Dii × Dii × Unit
abbrev race_check_R : Type := Int
def race_check_enc (r : race_check_R) : LV × List Ob := (.int .i64 r, [])
def race_check_sp (F : race_check_X → Option race_check_R) : Go.Tx.Spec := ⟨66, race_check_ps, race_check_R, F, race_check_enc⟩
abbrev race_check_C : Type := (ratio_Check_X → Option ratio_Check_R) × (field_Check_X → Option field_Check_R) × (ratio_Cmp_X → Option ratio_Cmp_R) × Unit
def race_check_K (d : Nat) : race_check_C := (F_ratio_Check d, F_field_Check d, F_ratio_Cmp d, ())
def race_check_tab (C : race_check_C) : List Go.Tx.Spec := [ratio_Check_sp C.1, field_Check_sp C.2.1, ratio_Cmp_sp C.2.2.1]
abbrev race_check_Y0i : Type := List Diii × Int × Int × Int × Int
def race_check_S0i (v : race_check_Y0i) : St := ⟨[(0, .agg [.fz Riii v.1]), (1, .agg [.int .i64 v.2.1, .int .i64 v.2.2.1]), (2, .agg [.int .i64 v.2.2.2.1, .int .i64 v.2.2.2.2])], []⟩
abbrev race_check_Y0 : Type := List Diii × Int × Int × Int × Int
def race_check_S0 (v : race_check_Y0) : St := ⟨[(3, .ptr 0 0), (4, .ptr 1 0), (5, .ptr 2 0)], [.cells [.fz Riii v.1], .cells [.int .i64 v.2.1, .int .i64 v.2.2.1], .cells [.int .i64 v.2.2.2.1, .int .i64 v.2.2.2.2]]⟩
def race_check_r0 (C : race_check_C) (v : race_check_Y0i) : Dt race_check_Y0 := (Dt.ret (v.1, v.2.1, v.2.2.1, v.2.2.2.1, v.2.2.2.2))
theorem race_check_g0 (C : race_check_C) (v : race_check_Y0i) : treg tysT (orc (race_check_tab C)) 31 (regO (bodyOf f66) 0) false [(3, (.box [.val Riii])), (4, .any), (5, .any)] (race_check_S0i v) some = (race_check_r0 C v).eval fun y => some (race_check_S0 y) := by kernel_rfl
abbrev race_check_Y1 : Type := Int × Int × Int × Int × Int
def race_check_S1 (v : race_check_Y1) : St := ⟨[(4, .ptr 0 0), (5, .ptr 1 0), (7, .int .i64 v.1)], [.cells [.int .i64 v.2.1, .int .i64 v.2.2.1], .cells [.int .i64 v.2.2.2.1, .int .i64 v.2.2.2.2]]⟩
def race_check_r1 (C : race_check_C) (v : race_check_Y0) : Dt race_check_Y1 := (Dt.bnd (C.2.1 ((v.1, ()), ())) fun r1 => (Dt.ret (r1, v.2.1, v.2.2.1, v.2.2.2.1, v.2.2.2.2)))
theorem race_check_g1 (C : race_check_C) (v : race_check_Y0) : treg tysT (orc (race_check_tab C)) 31 (regO (bodyOf f66) 1) false [(4, .any), (5, .any), (7, .any)] (race_check_S0 v) some = (race_check_r1 C v).eval fun y => some (race_check_S1 y) := by kernel_rfl
abbrev race_check_Y2 : Type := Int × Bool × Int × Int × Int × Int
def race_check_S2 (v : race_check_Y2) : St := ⟨[(4, .ptr 0 0), (5, .ptr 1 0), (7, .int .i64 v.1), (13, .bool v.2.1)], [.cells [.int .i64 v.2.2.1, .int .i64 v.2.2.2.1], .cells [.int .i64 v.2.2.2.2.1, .int .i64 v.2.2.2.2.2]]⟩
def race_check_r2 (C : race_check_C) (v : race_check_Y1) : Dt race_check_Y2 := (Dt.ret (v.1, (v.1 != (0:Int)), v.2.1, v.2.2.1, v.2.2.2.1, v.2.2.2.2))
theorem race_check_g2 (C : race_check_C) (v : race_check_Y1) : treg tysT (orc (race_check_tab C)) 31 (regO (bodyOf f66) 2) false [(4, .any), (5, .any), (7, .any), (13, .any)] (race_check_S1 v) some = (race_check_r2 C v).eval fun y => some (race_check_S2 y) := by kernel_rfl
abbrev race_check_Y3 : Type := Int
def race_check_S3 (v : race_check_Y3) : St := ⟨[(6, .int .i64 v)], []⟩
def race_check_r3 (C : race_check_C) (v : race_check_Y2) : Dt race_check_Y3 := (Dt.ret v.1)
theorem race_check_g3 (C : race_check_C) (v : race_check_Y2) : treg tysT (orc (race_check_tab C)) 31 (regO (bodyOf f66) 3) false [(6, .any)] (race_check_S2 v) some = (race_check_r3 C v).eval fun y => some (race_check_S3 y) := by kernel_rfl
abbrev race_check_Y4 : Type := Bool × Int × Int × Int × Int
def race_check_S4 (v : race_check_Y4) : St := ⟨[(4, .ptr 0 0), (5, .ptr 1 0), (22, .bool v.1)], [.cells [.int .i64 v.2.1, .int .i64 v.2.2.1], .cells [.int .i64 v.2.2.2.1, .int .i64 v.2.2.2.2]]⟩
def race_check_r4 (C : race_check_C) (v : race_check_Y2) : Dt race_check_Y4 := (Dt.bnd (C.1 ((v.2.2.1, v.2.2.2.1, ()), ())) fun r1 => (Dt.ite (r1 != (0:Int)) (Dt.ret (true, v.2.2.1, v.2.2.2.1, v.2.2.2.2.1, v.2.2.2.2.2)) (Dt.bnd (C.1 ((v.2.2.2.2.1, v.2.2.2.2.2, ()), ())) fun r2 => (Dt.ret ((r2 != (0:Int)), v.2.2.1, v.2.2.2.1, v.2.2.2.2.1, v.2.2.2.2.2)))))
theorem race_check_g4 (C : race_check_C) (v : race_check_Y2) : treg tysT (orc (race_check_tab C)) 31 (regO (bodyOf f66) 4) false [(4, .any), (5, .any), (22, .any)] (race_check_S2 v) some = (race_check_r4 C v).eval fun y => some (race_check_S4 y) := by kernel_rfl
def race_check_r5 (C : race_check_C) (v : race_check_Y4) : Dt race_check_Y3 := (Dt.ret (8:Int))
theorem race_check_g5 (C : race_check_C) (v : race_check_Y4) : treg tysT (orc (race_check_tab C)) 31 (regO (bodyOf f66) 5) false [(6, .any)] (race_check_S4 v) some = (race_check_r5 C v).eval fun y => some (race_check_S3 y) := by kernel_rfl
abbrev race_check_Y6 : Type := Int
def race_check_S6 (v : race_check_Y6) : St := ⟨[(8, .int .i64 v)], []⟩
def race_check_r6 (C : race_check_C) (v : race_check_Y4) : Dt race_check_Y6 := (Dt.bnd (C.2.2.1 ((v.2.1, v.2.2.1, ()), (v.2.2.2.1, v.2.2.2.2, ()), ())) fun r1 => (Dt.ret r1.1))
theorem race_check_g6 (C : race_check_C) (v : race_check_Y4) : treg tysT (orc (race_check_tab C)) 31 (regO (bodyOf f66) 6) false [(8, .any)] (race_check_S4 v) some = (race_check_r6 C v).eval fun y => some (race_check_S6 y) := by kernel_rfl
abbrev race_check_Y7 : Type := Bool
def race_check_S7 (v : race_check_Y7) : St := ⟨[(30, .bool v)], []⟩
def race_check_r7 (C : race_check_C) (v : race_check_Y6) : Dt race_check_Y7 := (Dt.ret (decide (v > (0:Int))))
theorem race_check_g7 (C : race_check_C) (v : race_check_Y6) : treg tysT (orc (race_check_tab C)) 31 (regO (bodyOf f66) 7) false [(30, .any)] (race_check_S6 v) some = (race_check_r7 C v).eval fun y => some (race_check_S7 y) := by kernel_rfl
def race_check_r8 (C : race_check_C) (v : race_check_Y7) : Dt race_check_Y3 := (Dt.ret (2:Int))
theorem race_check_g8 (C : race_check_C) (v : race_check_Y7) : treg tysT (orc (race_check_tab C)) 31 (regO (bodyOf f66) 8) false [(6, .any)] (race_check_S7 v) some = (race_check_r8 C v).eval fun y => some (race_check_S3 y) := by kernel_rfl
def race_check_r9 (C : race_check_C) (v : race_check_Y7) : Dt race_check_Y3 := (Dt.ret (0:Int))
theorem race_check_g9 (C : race_check_C) (v : race_check_Y7) : treg tysT (orc (race_check_tab C)) 31 (regO (bodyOf f66) 9) false [(6, .any)] (race_check_S7 v) some = (race_check_r9 C v).eval fun y => some (race_check_S3 y) := by kernel_rfl
def F_race_check (d : Nat) (x : race_check_X) : Option race_check_R :=
  (race_check_r0 (race_check_K d) (x.1.1, x.2.1.1, x.2.1.2.1, x.2.2.1.1, x.2.2.1.2.1)).eval fun y0 =>
  (race_check_r1 (race_check_K d) y0).eval fun y1 =>
  (race_check_r2 (race_check_K d) y1).eval fun y2 =>
  bif y2.2.1 then ((race_check_r3 (race_check_K d) y2).eval fun y3 =>
  some y3) else ((race_check_r4 (race_check_K d) y2).eval fun y4 =>
  bif y4.1 then ((race_check_r5 (race_check_K d) y4).eval fun y5 =>
  some y5) else ((race_check_r6 (race_check_K d) y4).eval fun y6 =>
  (race_check_r7 (race_check_K d) y6).eval fun y7 =>
  bif y7 then ((race_check_r8 (race_check_K d) y7).eval fun y8 =>
  some y8) else ((race_check_r9 (race_check_K d) y7).eval fun y9 =>
  some y9)))
theorem race_check_cok (d : Nat) : COK prog (race_check_sp (F_race_check d)) := by
  have hm : prog.follows .mixedOrders = true := mixed
  have hT := tys
  have hC0 : OrcOK prog (orc (race_check_tab (race_check_K d))) := orc_ok (by
    intro S hS
    simp only [race_check_tab, List.mem_cons, List.not_mem_nil, or_false] at hS
    rcases hS with rfl | rfl | rfl
    · exact ratio_Check_cok d
    · exact field_Check_cok d
    · exact ratio_Cmp_cok d)
  have hC : OrcOK prog (orc (race_check_tab (race_check_K d))) := hC0
  refine cok_of (c := bodyOf f66) (fn := f66) hT (by kernel_rfl) (by kernel_rfl) (by decide) fun x r h w0 φ0 Q hend => ?_
  replace h : F_race_check d x = some r := h
  unfold F_race_check at h
  show Run prog w0 φ0 31 (bodyOf f66) ⟨[(0, .agg [.fz Riii x.1.1]), (1, .agg [.int .i64 x.2.1.1, .int .i64 x.2.1.2.1]), (2, .agg [.int .i64 x.2.2.1.1, .int .i64 x.2.2.1.2.1])], []⟩ Q
  refine run_seq ?_
  refine run_reg hm hT hC (race_check_g0 (race_check_K d) (x.1.1, x.2.1.1, x.2.1.2.1, x.2.2.1.1, x.2.2.1.2.1)) h ?_
  intro y0 h
  refine cn_then ?_
  refine run_seq ?_
  refine run_seq ?_
  refine run_reg hm hT hC (race_check_g1 (race_check_K d) y0) h ?_
  intro y1 h
  refine cn_then ?_
  refine run_seq ?_
  refine run_reg hm hT hC (race_check_g2 (race_check_K d) y1) h ?_
  intro y2 h
  refine cn_then ?_
  refine run_cond (v := y2.2.1) (by kernel_rfl) h ?_ ?_
  ·
    intro h
    refine run_seq ?_
    refine run_reg hm hT hC (race_check_g3 (race_check_K d) y2) h ?_
    intro y3 h
    refine cn_then ?_
    refine run_ret ?_
    refine cn_then_ret ?_
    cases h
    exact (hend _ (by kernel_rfl)).2
  ·
    intro h
    refine run_skip ?_
    refine cn_then ?_
    refine run_seq ?_
    refine run_seq ?_
    refine run_reg hm hT hC (race_check_g4 (race_check_K d) y2) h ?_
    intro y4 h
    refine cn_then ?_
    refine run_cond (v := y4.1) (by kernel_rfl) h ?_ ?_
    ·
      intro h
      refine run_seq ?_
      refine run_reg hm hT hC (race_check_g5 (race_check_K d) y4) h ?_
      intro y5 h
      refine cn_then ?_
      refine run_ret ?_
      refine cn_then_ret ?_
      cases h
      exact (hend _ (by kernel_rfl)).2
    ·
      intro h
      refine run_skip ?_
      refine cn_then ?_
      refine run_seq ?_
      refine run_seq ?_
      refine run_reg hm hT hC (race_check_g6 (race_check_K d) y4) h ?_
      intro y6 h
      refine cn_then ?_
      refine run_seq ?_
      refine run_reg hm hT hC (race_check_g7 (race_check_K d) y6) h ?_
      intro y7 h
      refine cn_then ?_
      refine run_cond (v := y7) (by kernel_rfl) h ?_ ?_
      ·
        intro h
        refine run_seq ?_
        refine run_reg hm hT hC (race_check_g8 (race_check_K d) y7) h ?_
        intro y8 h
        refine cn_then ?_
        refine run_ret ?_
        refine cn_then_ret ?_
        cases h
        exact (hend _ (by kernel_rfl)).2
      ·
        intro h
        refine run_skip ?_
        refine cn_then ?_
        refine run_seq ?_
        refine run_reg hm hT hC (race_check_g9 (race_check_K d) y7) h ?_
        intro y9 h
        refine cn_then ?_
        refine run_ret ?_
        cases h
        exact (hend _ (by kernel_rfl)).2
abbrev race_Reigns_ps : List Pk := [.row RLiiiE true, .row Rii true, .row Rii true]
abbrev race_Reigns_X : Type := DLiiiE × Dii × Dii × Unit
abbrev race_Reigns_R : Type := List Diiiii × Int
def race_Reigns_enc (r : race_Reigns_R) : LV × List Ob := (.tup [.rs 0, .int .i64 r.2], [.rows Riiiii r.1])
def race_Reigns_sp (F : race_Reigns_X → Option race_Reigns_R) : Go.Tx.Spec := ⟨25, race_Reigns_ps, race_Reigns_R, F, race_Reigns_enc⟩
abbrev race_Reigns_C : Type := (crest_Of_X → Option crest_Of_R) × (race_check_X → Option race_check_R) × (race_less_X → Option race_less_R) × Unit
def race_Reigns_K (d : Nat) : race_Reigns_C := (F_crest_Of d, F_race_check d, F_race_less d, ())
def race_Reigns_tab (C : race_Reigns_C) : List Go.Tx.Spec := [crest_Of_sp C.1, race_check_sp C.2.1, race_less_sp C.2.2.1]
abbrev race_Reigns_Y0i : Type := List Diii × Int × Int × Int × Int
def race_Reigns_S0i (v : race_Reigns_Y0i) : St := ⟨[(0, .agg [.fz Riii v.1]), (1, .agg [.int .i64 v.2.1, .int .i64 v.2.2.1]), (2, .agg [.int .i64 v.2.2.2.1, .int .i64 v.2.2.2.2])], []⟩
abbrev race_Reigns_Y0 : Type := List Diii × Int × Int × Int × Int
def race_Reigns_S0 (v : race_Reigns_Y0) : St := ⟨[(3, .ptr 0 0), (4, .ptr 1 0), (5, .ptr 2 0)], [.cells [.fz Riii v.1], .cells [.int .i64 v.2.1, .int .i64 v.2.2.1], .cells [.int .i64 v.2.2.2.1, .int .i64 v.2.2.2.2]]⟩
def race_Reigns_r0 (C : race_Reigns_C) (v : race_Reigns_Y0i) : Dt race_Reigns_Y0 := (Dt.ret (v.1, v.2.1, v.2.2.1, v.2.2.2.1, v.2.2.2.2))
theorem race_Reigns_g0 (C : race_Reigns_C) (v : race_Reigns_Y0i) : treg tysT (orc (race_Reigns_tab C)) 62 (regO (bodyOf f25) 0) false [(3, (.box [.val Riii])), (4, .any), (5, .any)] (race_Reigns_S0i v) some = (race_Reigns_r0 C v).eval fun y => some (race_Reigns_S0 y) := by kernel_rfl
abbrev race_Reigns_Y1 : Type := Int × List Diii × Int × Int × Int × Int
def race_Reigns_S1 (v : race_Reigns_Y1) : St := ⟨[(3, .ptr 0 0), (4, .ptr 1 0), (5, .ptr 2 0), (8, .int .i64 v.1)], [.cells [.fz Riii v.2.1], .cells [.int .i64 v.2.2.1, .int .i64 v.2.2.2.1], .cells [.int .i64 v.2.2.2.2.1, .int .i64 v.2.2.2.2.2]]⟩
def race_Reigns_r1 (C : race_Reigns_C) (v : race_Reigns_Y0) : Dt race_Reigns_Y1 := (Dt.bnd (C.2.1 ((v.1, ()), (v.2.1, v.2.2.1, ()), (v.2.2.2.1, v.2.2.2.2, ()), ())) fun r1 => (Dt.ret (r1, v.1, v.2.1, v.2.2.1, v.2.2.2.1, v.2.2.2.2)))
theorem race_Reigns_g1 (C : race_Reigns_C) (v : race_Reigns_Y0) : treg tysT (orc (race_Reigns_tab C)) 62 (regO (bodyOf f25) 1) false [(3, (.box [.val Riii])), (4, .any), (5, .any), (8, .any)] (race_Reigns_S0 v) some = (race_Reigns_r1 C v).eval fun y => some (race_Reigns_S1 y) := by kernel_rfl
abbrev race_Reigns_Y2 : Type := Int × Bool × List Diii × Int × Int × Int × Int
def race_Reigns_S2 (v : race_Reigns_Y2) : St := ⟨[(3, .ptr 0 0), (4, .ptr 1 0), (5, .ptr 2 0), (8, .int .i64 v.1), (19, .bool v.2.1)], [.cells [.fz Riii v.2.2.1], .cells [.int .i64 v.2.2.2.1, .int .i64 v.2.2.2.2.1], .cells [.int .i64 v.2.2.2.2.2.1, .int .i64 v.2.2.2.2.2.2]]⟩
def race_Reigns_r2 (C : race_Reigns_C) (v : race_Reigns_Y1) : Dt race_Reigns_Y2 := (Dt.ret (v.1, (v.1 != (0:Int)), v.2.1, v.2.2.1, v.2.2.2.1, v.2.2.2.2.1, v.2.2.2.2.2))
theorem race_Reigns_g2 (C : race_Reigns_C) (v : race_Reigns_Y1) : treg tysT (orc (race_Reigns_tab C)) 62 (regO (bodyOf f25) 2) false [(3, (.box [.val Riii])), (4, .any), (5, .any), (8, .any), (19, .any)] (race_Reigns_S1 v) some = (race_Reigns_r2 C v).eval fun y => some (race_Reigns_S2 y) := by kernel_rfl
abbrev race_Reigns_Y3 : Type := Int × List Diiiii
def race_Reigns_S3 (v : race_Reigns_Y3) : St := ⟨[(6, .rs 0), (7, .int .i64 v.1)], [.rows Riiiii v.2]⟩
def race_Reigns_r3 (C : race_Reigns_C) (v : race_Reigns_Y2) : Dt race_Reigns_Y3 := (Dt.ret (v.1, ([] : List Diiiii)))
theorem race_Reigns_g3 (C : race_Reigns_C) (v : race_Reigns_Y2) : treg tysT (orc (race_Reigns_tab C)) 62 (regO (bodyOf f25) 3) false [(6, (.own Riiiii)), (7, .any)] (race_Reigns_S2 v) some = (race_Reigns_r3 C v).eval fun y => some (race_Reigns_S3 y) := by kernel_rfl
abbrev race_Reigns_Y4 : Type := Int × Int × Int × List Diii
def race_Reigns_S4 (v : race_Reigns_Y4) : St := ⟨[(5, .ptr 0 0), (9, .rs 1), (10, .int .i64 v.1)], [.cells [.int .i64 v.2.1, .int .i64 v.2.2.1], .rows Riii v.2.2.2]⟩
def race_Reigns_r4 (C : race_Reigns_C) (v : race_Reigns_Y2) : Dt race_Reigns_Y4 := (Dt.bnd (C.1 ((v.2.2.1, ()), (v.2.2.2.1, v.2.2.2.2.1, ()), ())) fun r1 => (Dt.ret (r1.2, v.2.2.2.2.2.1, v.2.2.2.2.2.2, r1.1)))
theorem race_Reigns_g4 (C : race_Reigns_C) (v : race_Reigns_Y2) : treg tysT (orc (race_Reigns_tab C)) 62 (regO (bodyOf f25) 4) false [(5, .any), (9, (.own Riii)), (10, .any)] (race_Reigns_S2 v) some = (race_Reigns_r4 C v).eval fun y => some (race_Reigns_S4 y) := by kernel_rfl
abbrev race_Reigns_Y5 : Type := Int × Bool × Int × Int × List Diii
def race_Reigns_S5 (v : race_Reigns_Y5) : St := ⟨[(5, .ptr 0 0), (9, .rs 1), (10, .int .i64 v.1), (28, .bool v.2.1)], [.cells [.int .i64 v.2.2.1, .int .i64 v.2.2.2.1], .rows Riii v.2.2.2.2]⟩
def race_Reigns_r5 (C : race_Reigns_C) (v : race_Reigns_Y4) : Dt race_Reigns_Y5 := (Dt.ret (v.1, (v.1 != (0:Int)), v.2.1, v.2.2.1, v.2.2.2))
theorem race_Reigns_g5 (C : race_Reigns_C) (v : race_Reigns_Y4) : treg tysT (orc (race_Reigns_tab C)) 62 (regO (bodyOf f25) 5) false [(5, .any), (9, (.own Riii)), (10, .any), (28, .any)] (race_Reigns_S4 v) some = (race_Reigns_r5 C v).eval fun y => some (race_Reigns_S5 y) := by kernel_rfl
def race_Reigns_r6 (C : race_Reigns_C) (v : race_Reigns_Y5) : Dt race_Reigns_Y3 := (Dt.ret (v.1, ([] : List Diiiii)))
theorem race_Reigns_g6 (C : race_Reigns_C) (v : race_Reigns_Y5) : treg tysT (orc (race_Reigns_tab C)) 62 (regO (bodyOf f25) 6) false [(6, (.own Riiiii)), (7, .any)] (race_Reigns_S5 v) some = (race_Reigns_r6 C v).eval fun y => some (race_Reigns_S3 y) := by kernel_rfl
abbrev race_Reigns_Y7 : Type := Int × Int × List Diii × List Diiiii
def race_Reigns_S7 (v : race_Reigns_Y7) : St := ⟨[(5, .ptr 0 0), (9, .rs 1), (11, .rs 2)], [.cells [.int .i64 v.1, .int .i64 v.2.1], .rows Riii v.2.2.1, .rows Riiiii v.2.2.2]⟩
def race_Reigns_r7 (C : race_Reigns_C) (v : race_Reigns_Y5) : Dt race_Reigns_Y7 := (Dt.ret (v.2.2.1, v.2.2.2.1, v.2.2.2.2, ([] : List Diiiii)))
theorem race_Reigns_g7 (C : race_Reigns_C) (v : race_Reigns_Y5) : treg tysT (orc (race_Reigns_tab C)) 62 (regO (bodyOf f25) 7) false [(5, .any), (9, (.own Riii)), (11, (.own Riiiii))] (race_Reigns_S5 v) some = (race_Reigns_r7 C v).eval fun y => some (race_Reigns_S7 y) := by kernel_rfl
abbrev race_Reigns_Y8 : Type := Int × Int × Int × Int × List Diiiii × List Diii
def race_Reigns_S8 (v : race_Reigns_Y8) : St := ⟨[(5, .ptr 0 0), (11, .rs 1), (30, .rs 2), (31, .int .i64 v.1), (32, .int .i64 v.2.1)], [.cells [.int .i64 v.2.2.1, .int .i64 v.2.2.2.1], .rows Riiiii v.2.2.2.2.1, .rows Riii v.2.2.2.2.2]⟩
def race_Reigns_r8 (C : race_Reigns_C) (v : race_Reigns_Y7) : Dt race_Reigns_Y8 := (Dt.ret ((List.length v.2.2.1 : Int), (0:Int), v.1, v.2.1, v.2.2.2, v.2.2.1))
theorem race_Reigns_g8 (C : race_Reigns_C) (v : race_Reigns_Y7) : treg tysT (orc (race_Reigns_tab C)) 62 (regO (bodyOf f25) 8) false [(5, .any), (11, (.own Riiiii)), (30, (.own Riii)), (31, .any), (32, .any)] (race_Reigns_S7 v) some = (race_Reigns_r8 C v).eval fun y => some (race_Reigns_S8 y) := by kernel_rfl
abbrev race_Reigns_Y9 : Type := Int × Int × Bool × Int × Int × List Diiiii × List Diii
def race_Reigns_S9 (v : race_Reigns_Y9) : St := ⟨[(5, .ptr 0 0), (11, .rs 1), (30, .rs 2), (31, .int .i64 v.1), (32, .int .i64 v.2.1), (33, .bool v.2.2.1)], [.cells [.int .i64 v.2.2.2.1, .int .i64 v.2.2.2.2.1], .rows Riiiii v.2.2.2.2.2.1, .rows Riii v.2.2.2.2.2.2]⟩
def race_Reigns_r9 (C : race_Reigns_C) (v : race_Reigns_Y8) : Dt race_Reigns_Y9 := (Dt.ret (v.1, v.2.1, (decide (v.2.1 < v.1)), v.2.2.1, v.2.2.2.1, v.2.2.2.2.1, v.2.2.2.2.2))
theorem race_Reigns_g9 (C : race_Reigns_C) (v : race_Reigns_Y8) : treg tysT (orc (race_Reigns_tab C)) 62 (regO (bodyOf f25) 9) false [(5, .any), (11, (.own Riiiii)), (30, (.own Riii)), (31, .any), (32, .any), (33, .any)] (race_Reigns_S8 v) some = (race_Reigns_r9 C v).eval fun y => some (race_Reigns_S9 y) := by kernel_rfl
abbrev race_Reigns_Y10 : Type := Int × Int × Int × Int × Int × List Diiiii × Int × Int × Int × List Diii
def race_Reigns_S10 (v : race_Reigns_Y10) : St := ⟨[(5, .ptr 0 0), (11, .rs 1), (12, .int .i64 v.1), (13, .ptr 2 0), (30, .rs 3), (31, .int .i64 v.2.1), (32, .int .i64 v.2.2.1)], [.cells [.int .i64 v.2.2.2.1, .int .i64 v.2.2.2.2.1], .rows Riiiii v.2.2.2.2.2.1, .cells [.int .i64 v.2.2.2.2.2.2.1, .int .i64 v.2.2.2.2.2.2.2.1, .int .i64 v.2.2.2.2.2.2.2.2.1], .rows Riii v.2.2.2.2.2.2.2.2.2]⟩
def race_Reigns_r10 (C : race_Reigns_C) (v : race_Reigns_Y9) : Dt race_Reigns_Y10 := (Dt.ite (inB v.2.1 (List.length v.2.2.2.2.2.2)) (Dt.ret (v.2.1, v.1, v.2.1, v.2.2.2.1, v.2.2.2.2.1, v.2.2.2.2.2.1, (elt ziii v.2.2.2.2.2.2 (v.2.1).toNat).1, (elt ziii v.2.2.2.2.2.2 (v.2.1).toNat).2.1, (elt ziii v.2.2.2.2.2.2 (v.2.1).toNat).2.2.1, v.2.2.2.2.2.2)) Dt.fail)
theorem race_Reigns_g10 (C : race_Reigns_C) (v : race_Reigns_Y9) : treg tysT (orc (race_Reigns_tab C)) 62 (regO (bodyOf f25) 10) false [(5, .any), (11, (.own Riiiii)), (12, .any), (13, .any), (30, (.own Riii)), (31, .any), (32, .any)] (race_Reigns_S9 v) some = (race_Reigns_r10 C v).eval fun y => some (race_Reigns_S10 y) := by kernel_rfl
abbrev race_Reigns_Y11 : Type := Int × Int × Int × Bool × Int × Int × List Diiiii × Int × Int × Int × List Diii
def race_Reigns_S11 (v : race_Reigns_Y11) : St := ⟨[(5, .ptr 0 0), (11, .rs 1), (12, .int .i64 v.1), (13, .ptr 2 0), (30, .rs 3), (31, .int .i64 v.2.1), (32, .int .i64 v.2.2.1), (38, .bool v.2.2.2.1)], [.cells [.int .i64 v.2.2.2.2.1, .int .i64 v.2.2.2.2.2.1], .rows Riiiii v.2.2.2.2.2.2.1, .cells [.int .i64 v.2.2.2.2.2.2.2.1, .int .i64 v.2.2.2.2.2.2.2.2.1, .int .i64 v.2.2.2.2.2.2.2.2.2.1], .rows Riii v.2.2.2.2.2.2.2.2.2.2]⟩
def race_Reigns_r11 (C : race_Reigns_C) (v : race_Reigns_Y10) : Dt race_Reigns_Y11 := (Dt.ret (v.1, v.2.1, v.2.2.1, (decide (v.1 > (0:Int))), v.2.2.2.1, v.2.2.2.2.1, v.2.2.2.2.2.1, v.2.2.2.2.2.2.1, v.2.2.2.2.2.2.2.1, v.2.2.2.2.2.2.2.2.1, v.2.2.2.2.2.2.2.2.2))
theorem race_Reigns_g11 (C : race_Reigns_C) (v : race_Reigns_Y10) : treg tysT (orc (race_Reigns_tab C)) 62 (regO (bodyOf f25) 11) false [(5, .any), (11, (.own Riiiii)), (12, .any), (13, .any), (30, (.own Riii)), (31, .any), (32, .any), (38, .any)] (race_Reigns_S10 v) some = (race_Reigns_r11 C v).eval fun y => some (race_Reigns_S11 y) := by kernel_rfl
abbrev race_Reigns_Y12 : Type := Int × Int × Int × Bool × Int × Int × List Diiiii × Int × Int × Int × List Diii
def race_Reigns_S12 (v : race_Reigns_Y12) : St := ⟨[(5, .ptr 0 0), (11, .rs 1), (12, .int .i64 v.1), (13, .ptr 2 0), (30, .rs 3), (31, .int .i64 v.2.1), (32, .int .i64 v.2.2.1), (43, .bool v.2.2.2.1)], [.cells [.int .i64 v.2.2.2.2.1, .int .i64 v.2.2.2.2.2.1], .rows Riiiii v.2.2.2.2.2.2.1, .cells [.int .i64 v.2.2.2.2.2.2.2.1, .int .i64 v.2.2.2.2.2.2.2.2.1, .int .i64 v.2.2.2.2.2.2.2.2.2.1], .rows Riii v.2.2.2.2.2.2.2.2.2.2]⟩
def race_Reigns_r12 (C : race_Reigns_C) (v : race_Reigns_Y11) : Dt race_Reigns_Y12 := (Dt.bnd (C.2.2.1 ((v.2.2.2.2.2.2.2.1, v.2.2.2.2.2.2.2.2.1, ()), (v.2.2.2.2.1, v.2.2.2.2.2.1, ()), ())) fun r1 => (Dt.ret (v.1, v.2.1, v.2.2.1, (!r1), v.2.2.2.2.1, v.2.2.2.2.2.1, v.2.2.2.2.2.2.1, v.2.2.2.2.2.2.2.1, v.2.2.2.2.2.2.2.2.1, v.2.2.2.2.2.2.2.2.2.1, v.2.2.2.2.2.2.2.2.2.2)))
theorem race_Reigns_g12 (C : race_Reigns_C) (v : race_Reigns_Y11) : treg tysT (orc (race_Reigns_tab C)) 62 (regO (bodyOf f25) 12) false [(5, .any), (11, (.own Riiiii)), (12, .any), (13, .any), (30, (.own Riii)), (31, .any), (32, .any), (43, .any)] (race_Reigns_S11 v) some = (race_Reigns_r12 C v).eval fun y => some (race_Reigns_S12 y) := by kernel_rfl
def race_Reigns_r16 (C : race_Reigns_C) (v : race_Reigns_Y8) : Dt race_Reigns_Y3 := (Dt.ret ((0:Int), v.2.2.2.2.1))
theorem race_Reigns_g16 (C : race_Reigns_C) (v : race_Reigns_Y8) : treg tysT (orc (race_Reigns_tab C)) 62 (regO (bodyOf f25) 16) false [(6, (.own Riiiii)), (7, .any)] (race_Reigns_S8 v) some = (race_Reigns_r16 C v).eval fun y => some (race_Reigns_S3 y) := by kernel_rfl
def race_Reigns_J1  (d : Nat)  (z : Int × Int × Int × Int × List Diiiii × List Diii) : Option (race_Reigns_R) :=
  (race_Reigns_r16 (race_Reigns_K d) z).eval fun y16 =>
  some (y16.2, y16.1)
abbrev race_Reigns_Y13 : Type := Int × Int × Int × Int × List Diiiii × Int × Int × Int × List Diii
def race_Reigns_S13 (v : race_Reigns_Y13) : St := ⟨[(5, .ptr 0 0), (11, .rs 1), (13, .ptr 2 0), (30, .rs 3), (31, .int .i64 v.1), (32, .int .i64 v.2.1)], [.cells [.int .i64 v.2.2.1, .int .i64 v.2.2.2.1], .rows Riiiii v.2.2.2.2.1, .cells [.int .i64 v.2.2.2.2.2.1, .int .i64 v.2.2.2.2.2.2.1, .int .i64 v.2.2.2.2.2.2.2.1], .rows Riii v.2.2.2.2.2.2.2.2]⟩
def race_Reigns_r13 (C : race_Reigns_C) (v : race_Reigns_Y12) : Dt race_Reigns_Y13 := (Dt.ite (inB (IntKind.wrap .i64 (v.1 - (1:Int))) (List.length v.2.2.2.2.2.2.1)) (Dt.ret (v.2.1, v.2.2.1, v.2.2.2.2.1, v.2.2.2.2.2.1, (List.set v.2.2.2.2.2.2.1 ((IntKind.wrap .i64 (v.1 - (1:Int)))).toNat ((elt ziiiii v.2.2.2.2.2.2.1 ((IntKind.wrap .i64 (v.1 - (1:Int)))).toNat).1, (elt ziiiii v.2.2.2.2.2.2.1 ((IntKind.wrap .i64 (v.1 - (1:Int)))).toNat).2.1, v.2.2.2.2.2.2.2.1, v.2.2.2.2.2.2.2.2.1, (elt ziiiii v.2.2.2.2.2.2.1 ((IntKind.wrap .i64 (v.1 - (1:Int)))).toNat).2.2.2.2.1, ())), v.2.2.2.2.2.2.2.1, v.2.2.2.2.2.2.2.2.1, v.2.2.2.2.2.2.2.2.2.1, v.2.2.2.2.2.2.2.2.2.2)) Dt.fail)
theorem race_Reigns_g13 (C : race_Reigns_C) (v : race_Reigns_Y12) : treg tysT (orc (race_Reigns_tab C)) 62 (regO (bodyOf f25) 13) false [(5, .any), (11, (.own Riiiii)), (13, .any), (30, (.own Riii)), (31, .any), (32, .any)] (race_Reigns_S12 v) some = (race_Reigns_r13 C v).eval fun y => some (race_Reigns_S13 y) := by kernel_rfl
def race_Reigns_r14 (C : race_Reigns_C) (v : race_Reigns_Y13) : Dt race_Reigns_Y8 := (Dt.ite (apB (List.length v.2.2.2.2.1) (List.length ([(v.2.2.2.2.2.1, v.2.2.2.2.2.2.1, v.2.2.1, v.2.2.2.1, v.2.2.2.2.2.2.2.1, ())] : List Diiiii))) (Dt.ret (v.1, v.2.1, v.2.2.1, v.2.2.2.1, (v.2.2.2.2.1 ++ ([(v.2.2.2.2.2.1, v.2.2.2.2.2.2.1, v.2.2.1, v.2.2.2.1, v.2.2.2.2.2.2.2.1, ())] : List Diiiii)), v.2.2.2.2.2.2.2.2)) Dt.fail)
theorem race_Reigns_g14 (C : race_Reigns_C) (v : race_Reigns_Y13) : treg tysT (orc (race_Reigns_tab C)) 62 (regO (bodyOf f25) 14) false [(5, .any), (11, (.own Riiiii)), (30, (.own Riii)), (31, .any), (32, .any)] (race_Reigns_S13 v) some = (race_Reigns_r14 C v).eval fun y => some (race_Reigns_S8 y) := by kernel_rfl
def race_Reigns_r15 (C : race_Reigns_C) (v : race_Reigns_Y8) : Dt race_Reigns_Y8 := (Dt.ret (v.1, (IntKind.wrap .i64 (v.2.1 + (1:Int))), v.2.2.1, v.2.2.2.1, v.2.2.2.2.1, v.2.2.2.2.2))
theorem race_Reigns_g15 (C : race_Reigns_C) (v : race_Reigns_Y8) : treg tysT (orc (race_Reigns_tab C)) 62 (regO (bodyOf f25) 15) false [(5, .any), (11, (.own Riiiii)), (30, (.own Riii)), (31, .any), (32, .any)] (race_Reigns_S8 v) some = (race_Reigns_r15 C v).eval fun y => some (race_Reigns_S8 y) := by kernel_rfl
def race_Reigns_J3  (d : Nat) (self2 : (Int × Int × Int × Int × List Diiiii × List Diii) → Option race_Reigns_R) (z : Int × Int × Int × Int × List Diiiii × Int × Int × Int × List Diii) : Option (race_Reigns_R) :=
  (race_Reigns_r14 (race_Reigns_K d) z).eval fun y14 =>
  (race_Reigns_r15 (race_Reigns_K d) y14).eval fun y15 =>
  self2 y15
def race_Reigns_L2 (d : Nat) (self2 : (Int × Int × Int × Int × List Diiiii × List Diii) → Option race_Reigns_R) (x2 : Int × Int × Int × Int × List Diiiii × List Diii) : Option race_Reigns_R :=
  (race_Reigns_r9 (race_Reigns_K d) x2).eval fun y9 =>
  bif y9.2.2.1 then ((race_Reigns_r10 (race_Reigns_K d) y9).eval fun y10 =>
  (race_Reigns_r11 (race_Reigns_K d) y10).eval fun y11 =>
  bif y11.2.2.2.1 then ((race_Reigns_r12 (race_Reigns_K d) y11).eval fun y12 =>
  bif y12.2.2.2.1 then (race_Reigns_J1 d  (y12.2.1, y12.2.2.1, y12.2.2.2.2.1, y12.2.2.2.2.2.1, y12.2.2.2.2.2.2.1, y12.2.2.2.2.2.2.2.2.2.2)) else ((race_Reigns_r13 (race_Reigns_K d) y12).eval fun y13 =>
  race_Reigns_J3 d self2 y13)) else (race_Reigns_J3 d self2 (y11.2.1, y11.2.2.1, y11.2.2.2.2.1, y11.2.2.2.2.2.1, y11.2.2.2.2.2.2.1, y11.2.2.2.2.2.2.2.1, y11.2.2.2.2.2.2.2.2.1, y11.2.2.2.2.2.2.2.2.2.1, y11.2.2.2.2.2.2.2.2.2.2))) else (race_Reigns_J1 d  (y9.1, y9.2.1, y9.2.2.2.1, y9.2.2.2.2.1, y9.2.2.2.2.2.1, y9.2.2.2.2.2.2))
def F_race_Reigns (d : Nat) (x : race_Reigns_X) : Option race_Reigns_R :=
  (race_Reigns_r0 (race_Reigns_K d) (x.1.1, x.2.1.1, x.2.1.2.1, x.2.2.1.1, x.2.2.1.2.1)).eval fun y0 =>
  (race_Reigns_r1 (race_Reigns_K d) y0).eval fun y1 =>
  (race_Reigns_r2 (race_Reigns_K d) y1).eval fun y2 =>
  bif y2.2.1 then ((race_Reigns_r3 (race_Reigns_K d) y2).eval fun y3 =>
  some (y3.2, y3.1)) else ((race_Reigns_r4 (race_Reigns_K d) y2).eval fun y4 =>
  (race_Reigns_r5 (race_Reigns_K d) y4).eval fun y5 =>
  bif y5.2.1 then ((race_Reigns_r6 (race_Reigns_K d) y5).eval fun y6 =>
  some (y6.2, y6.1)) else ((race_Reigns_r7 (race_Reigns_K d) y5).eval fun y7 =>
  (race_Reigns_r8 (race_Reigns_K d) y7).eval fun y8 =>
  iter (race_Reigns_L2 d ) d y8))
theorem race_Reigns_cok (d : Nat) : COK prog (race_Reigns_sp (F_race_Reigns d)) := by
  have hm : prog.follows .mixedOrders = true := mixed
  have hT := tys
  have hC0 : OrcOK prog (orc (race_Reigns_tab (race_Reigns_K d))) := orc_ok (by
    intro S hS
    simp only [race_Reigns_tab, List.mem_cons, List.not_mem_nil, or_false] at hS
    rcases hS with rfl | rfl | rfl
    · exact crest_Of_cok d
    · exact race_check_cok d
    · exact race_less_cok d)
  have hC : OrcOK prog (orc (race_Reigns_tab (race_Reigns_K d))) := hC0
  refine cok_of (c := bodyOf f25) (fn := f25) hT (by kernel_rfl) (by kernel_rfl) (by decide) fun x r h w0 φ0 Q hend => ?_
  replace h : F_race_Reigns d x = some r := h
  unfold F_race_Reigns at h
  show Run prog w0 φ0 62 (bodyOf f25) ⟨[(0, .agg [.fz Riii x.1.1]), (1, .agg [.int .i64 x.2.1.1, .int .i64 x.2.1.2.1]), (2, .agg [.int .i64 x.2.2.1.1, .int .i64 x.2.2.1.2.1])], []⟩ Q
  refine run_seq ?_
  refine run_reg hm hT hC (race_Reigns_g0 (race_Reigns_K d) (x.1.1, x.2.1.1, x.2.1.2.1, x.2.2.1.1, x.2.2.1.2.1)) h ?_
  intro y0 h
  refine cn_then ?_
  refine run_seq ?_
  refine run_seq ?_
  refine run_reg hm hT hC (race_Reigns_g1 (race_Reigns_K d) y0) h ?_
  intro y1 h
  refine cn_then ?_
  refine run_seq ?_
  refine run_reg hm hT hC (race_Reigns_g2 (race_Reigns_K d) y1) h ?_
  intro y2 h
  refine cn_then ?_
  refine run_cond (v := y2.2.1) (by kernel_rfl) h ?_ ?_
  ·
    intro h
    refine run_seq ?_
    refine run_reg hm hT hC (race_Reigns_g3 (race_Reigns_K d) y2) h ?_
    intro y3 h
    refine cn_then ?_
    refine run_ret ?_
    refine cn_then_ret ?_
    cases h
    exact (hend _ (by kernel_rfl)).2
  ·
    intro h
    refine run_skip ?_
    refine cn_then ?_
    refine run_seq ?_
    refine run_reg hm hT hC (race_Reigns_g4 (race_Reigns_K d) y2) h ?_
    intro y4 h
    refine cn_then ?_
    refine run_seq ?_
    refine run_seq ?_
    refine run_reg hm hT hC (race_Reigns_g5 (race_Reigns_K d) y4) h ?_
    intro y5 h
    refine cn_then ?_
    refine run_cond (v := y5.2.1) (by kernel_rfl) h ?_ ?_
    ·
      intro h
      refine run_seq ?_
      refine run_reg hm hT hC (race_Reigns_g6 (race_Reigns_K d) y5) h ?_
      intro y6 h
      refine cn_then ?_
      refine run_ret ?_
      refine cn_then_ret ?_
      cases h
      exact (hend _ (by kernel_rfl)).2
    ·
      intro h
      refine run_skip ?_
      refine cn_then ?_
      refine run_seq ?_
      refine run_reg hm hT hC (race_Reigns_g7 (race_Reigns_K d) y5) h ?_
      intro y7 h
      refine cn_then ?_
      refine run_join (r := r) (F := race_Reigns_J1 d ) (S := (fun z => ⟨[(5, .ptr 0 0), (11, .rs 1), (30, .rs 2), (31, .int .i64 z.1), (32, .int .i64 z.2.1)], [.cells [.int .i64 z.2.2.1, .int .i64 z.2.2.2.1], .rows Riiiii z.2.2.2.2.1, .rows Riii z.2.2.2.2.2]⟩ : Int × Int × Int × Int × List Diiiii × List Diii → St)) ?_ ?_
      ·
        intro z h
        unfold race_Reigns_J1 at h
        refine run_seq ?_
        refine run_reg hm hT hC (race_Reigns_g16 (race_Reigns_K d) z) h ?_
        intro y16 h
        refine cn_then ?_
        refine run_ret ?_
        cases h
        exact (hend _ (by kernel_rfl)).2
      intro hj1
      refine run_seq ?_
      refine run_reg hm hT hC (race_Reigns_g8 (race_Reigns_K d) y7) h ?_
      intro y8 h
      refine cn_then ?_
      refine run_block ?_
      refine run_loop (G := iter (race_Reigns_L2 d )) (S := (fun x2 => ⟨[(5, .ptr 0 0), (11, .rs 1), (30, .rs 2), (31, .int .i64 x2.1), (32, .int .i64 x2.2.1)], [.cells [.int .i64 x2.2.2.1, .int .i64 x2.2.2.2.1], .rows Riiiii x2.2.2.2.2.1, .rows Riii x2.2.2.2.2.2]⟩ : Int × Int × Int × Int × List Diiiii × List Diii → St)) (fun _ => rfl) ?_ d _ h
      intro n2 x2 h K2 hn2
      replace h : race_Reigns_L2 d  (iter (race_Reigns_L2 d ) n2) x2 = some r := h
      generalize iter (race_Reigns_L2 d ) n2 = self2 at h hn2
      unfold race_Reigns_L2 at h
      refine run_seq ?_
      refine run_reg hm hT hC (race_Reigns_g9 (race_Reigns_K d) x2) h ?_
      intro y9 h
      refine cn_then ?_
      refine run_seq ?_
      refine run_cond (v := y9.2.2.1) (by kernel_rfl) h ?_ ?_
      ·
        intro h
        refine run_skip ?_
        refine cn_then ?_
        refine run_seq ?_
        refine run_block ?_
        refine run_seq ?_
        refine run_reg hm hT hC (race_Reigns_g10 (race_Reigns_K d) y9) h ?_
        intro y10 h
        refine cn_then ?_
        refine run_join (r := r) (F := race_Reigns_J3 d self2) (S := (fun z => ⟨[(5, .ptr 0 0), (11, .rs 1), (13, .ptr 2 0), (30, .rs 3), (31, .int .i64 z.1), (32, .int .i64 z.2.1)], [.cells [.int .i64 z.2.2.1, .int .i64 z.2.2.2.1], .rows Riiiii z.2.2.2.2.1, .cells [.int .i64 z.2.2.2.2.2.1, .int .i64 z.2.2.2.2.2.2.1, .int .i64 z.2.2.2.2.2.2.2.1], .rows Riii z.2.2.2.2.2.2.2.2]⟩ : Int × Int × Int × Int × List Diiiii × Int × Int × Int × List Diii → St)) ?_ ?_
        ·
          intro z h
          unfold race_Reigns_J3 at h
          refine run_reg hm hT hC (race_Reigns_g14 (race_Reigns_K d) z) h ?_
          intro y14 h
          refine cn_blk ?_
          refine cn_then ?_
          refine run_reg hm hT hC (race_Reigns_g15 (race_Reigns_K d) y14) h ?_
          intro y15 h
          exact hn2 _ h
        intro hj3
        refine run_seq ?_
        refine run_reg hm hT hC (race_Reigns_g11 (race_Reigns_K d) y10) h ?_
        intro y11 h
        refine cn_then ?_
        refine run_cond (v := y11.2.2.2.1) (by kernel_rfl) h ?_ ?_
        ·
          intro h
          refine run_seq ?_
          refine run_seq ?_
          refine run_reg hm hT hC (race_Reigns_g12 (race_Reigns_K d) y11) h ?_
          intro y12 h
          refine cn_then ?_
          refine run_cond (v := y12.2.2.2.1) (by kernel_rfl) h ?_ ?_
          ·
            intro h
            refine run_exit ?_
            refine cn_then_exit ?_
            refine cn_then_exit ?_
            refine cn_blk_ne (by rfl) ?_
            refine cn_then_exit ?_
            refine cn_then_exit ?_
            refine cn_blk_eq ?_
            refine cn_num (s := ⟨[(5, .ptr 0 0), (11, .rs 1), (30, .rs 2), (31, .int .i64 y12.2.1), (32, .int .i64 y12.2.2.1)], [.cells [.int .i64 y12.2.2.2.2.1, .int .i64 y12.2.2.2.2.2.1], .rows Riiiii y12.2.2.2.2.2.2.1, .rows Riii y12.2.2.2.2.2.2.2.2.2.2]⟩) [12, 13, 43] (by kernel_rfl) ?_
            exact hj1 _ h
          ·
            intro h
            refine run_skip ?_
            refine cn_then ?_
            refine run_reg hm hT hC (race_Reigns_g13 (race_Reigns_K d) y12) h ?_
            intro y13 h
            exact hj3 _ h
        ·
          intro h
          refine run_skip ?_
          refine cn_num (s := ⟨[(5, .ptr 0 0), (11, .rs 1), (13, .ptr 2 0), (30, .rs 3), (31, .int .i64 y11.2.1), (32, .int .i64 y11.2.2.1)], [.cells [.int .i64 y11.2.2.2.2.1, .int .i64 y11.2.2.2.2.2.1], .rows Riiiii y11.2.2.2.2.2.2.1, .cells [.int .i64 y11.2.2.2.2.2.2.2.1, .int .i64 y11.2.2.2.2.2.2.2.2.1, .int .i64 y11.2.2.2.2.2.2.2.2.2.1], .rows Riii y11.2.2.2.2.2.2.2.2.2.2]⟩) [12, 38] (by kernel_rfl) ?_
          exact hj3 _ h
      ·
        intro h
        refine run_exit ?_
        refine cn_then_exit ?_
        refine cn_then_exit ?_
        refine cn_blk_eq ?_
        refine cn_num (s := ⟨[(5, .ptr 0 0), (11, .rs 1), (30, .rs 2), (31, .int .i64 y9.1), (32, .int .i64 y9.2.1)], [.cells [.int .i64 y9.2.2.2.1, .int .i64 y9.2.2.2.2.1], .rows Riiiii y9.2.2.2.2.2.1, .rows Riii y9.2.2.2.2.2.2]⟩) [33] (by kernel_rfl) ?_
        exact hj1 _ h
abbrev race_Time_ps : List Pk := [.row RLiiiE true, .row Ri false, .row Rii true, .row Rii true]
abbrev race_Time_X : Type := DLiiiE × Di × Dii × Dii × Unit
abbrev race_Time_R : Type := Int × Int × Int
def race_Time_enc (r : race_Time_R) : LV × List Ob := (.tup [.agg [.int .i64 r.1, .int .i64 r.2.1], .int .i64 r.2.2], [])
def race_Time_sp (F : race_Time_X → Option race_Time_R) : Go.Tx.Spec := ⟨29, race_Time_ps, race_Time_R, F, race_Time_enc⟩
abbrev race_Time_C : Type := (race_Reigns_X → Option race_Reigns_R) × (field_Find_X → Option field_Find_R) × (race_check_X → Option race_check_R) × (ratio_Sub_X → Option ratio_Sub_R) × Unit
def race_Time_K (d : Nat) : race_Time_C := (F_race_Reigns d, F_field_Find d, F_race_check d, F_ratio_Sub d, ())
def race_Time_tab (C : race_Time_C) : List Go.Tx.Spec := [race_Reigns_sp C.1, field_Find_sp C.2.1, race_check_sp C.2.2.1, ratio_Sub_sp C.2.2.2.1]
abbrev race_Time_Y0i : Type := List Diii × Int × Int × Int × Int × Int
def race_Time_S0i (v : race_Time_Y0i) : St := ⟨[(0, .agg [.fz Riii v.1]), (1, .int .i64 v.2.1), (2, .agg [.int .i64 v.2.2.1, .int .i64 v.2.2.2.1]), (3, .agg [.int .i64 v.2.2.2.2.1, .int .i64 v.2.2.2.2.2])], []⟩
abbrev race_Time_Y0 : Type := Int × List Diii × Int × Int × Int × Int × Int × Int
def race_Time_S0 (v : race_Time_Y0) : St := ⟨[(1, .int .i64 v.1), (4, .ptr 0 0), (6, .ptr 1 0), (7, .ptr 2 0), (8, .ptr 3 0)], [.cells [.fz Riii v.2.1], .cells [.int .i64 v.2.2.1, .int .i64 v.2.2.2.1], .cells [.int .i64 v.2.2.2.2.1, .int .i64 v.2.2.2.2.2.1], .cells [.int .i64 v.2.2.2.2.2.2.1, .int .i64 v.2.2.2.2.2.2.2]]⟩
def race_Time_r0 (C : race_Time_C) (v : race_Time_Y0i) : Dt race_Time_Y0 := (Dt.ret (v.2.1, v.1, v.2.2.1, v.2.2.2.1, v.2.2.2.2.1, v.2.2.2.2.2, (0:Int), (0:Int)))
theorem race_Time_g0 (C : race_Time_C) (v : race_Time_Y0i) : treg tysT (orc (race_Time_tab C)) 61 (regO (bodyOf f29) 0) false [(1, .any), (4, (.box [.val Riii])), (6, .any), (7, .any), (8, .any)] (race_Time_S0i v) some = (race_Time_r0 C v).eval fun y => some (race_Time_S0 y) := by kernel_rfl
abbrev race_Time_Y1 : Type := Int × Int × List Diii × Int × Int × Int × Int × Int × Int
def race_Time_S1 (v : race_Time_Y1) : St := ⟨[(1, .int .i64 v.1), (4, .ptr 0 0), (6, .ptr 1 0), (7, .ptr 2 0), (8, .ptr 3 0), (10, .int .i64 v.2.1)], [.cells [.fz Riii v.2.2.1], .cells [.int .i64 v.2.2.2.1, .int .i64 v.2.2.2.2.1], .cells [.int .i64 v.2.2.2.2.2.1, .int .i64 v.2.2.2.2.2.2.1], .cells [.int .i64 v.2.2.2.2.2.2.2.1, .int .i64 v.2.2.2.2.2.2.2.2]]⟩
def race_Time_r1 (C : race_Time_C) (v : race_Time_Y0) : Dt race_Time_Y1 := (Dt.bnd (C.2.2.1 ((v.2.1, ()), (v.2.2.1, v.2.2.2.1, ()), (v.2.2.2.2.1, v.2.2.2.2.2.1, ()), ())) fun r1 => (Dt.ret (v.1, r1, v.2.1, v.2.2.1, v.2.2.2.1, v.2.2.2.2.1, v.2.2.2.2.2.1, v.2.2.2.2.2.2.1, v.2.2.2.2.2.2.2)))
theorem race_Time_g1 (C : race_Time_C) (v : race_Time_Y0) : treg tysT (orc (race_Time_tab C)) 61 (regO (bodyOf f29) 1) false [(1, .any), (4, (.box [.val Riii])), (6, .any), (7, .any), (8, .any), (10, .any)] (race_Time_S0 v) some = (race_Time_r1 C v).eval fun y => some (race_Time_S1 y) := by kernel_rfl
abbrev race_Time_Y2 : Type := Int × Int × Bool × List Diii × Int × Int × Int × Int × Int × Int
def race_Time_S2 (v : race_Time_Y2) : St := ⟨[(1, .int .i64 v.1), (4, .ptr 0 0), (6, .ptr 1 0), (7, .ptr 2 0), (8, .ptr 3 0), (10, .int .i64 v.2.1), (22, .bool v.2.2.1)], [.cells [.fz Riii v.2.2.2.1], .cells [.int .i64 v.2.2.2.2.1, .int .i64 v.2.2.2.2.2.1], .cells [.int .i64 v.2.2.2.2.2.2.1, .int .i64 v.2.2.2.2.2.2.2.1], .cells [.int .i64 v.2.2.2.2.2.2.2.2.1, .int .i64 v.2.2.2.2.2.2.2.2.2]]⟩
def race_Time_r2 (C : race_Time_C) (v : race_Time_Y1) : Dt race_Time_Y2 := (Dt.ret (v.1, v.2.1, (v.2.1 != (0:Int)), v.2.2.1, v.2.2.2.1, v.2.2.2.2.1, v.2.2.2.2.2.1, v.2.2.2.2.2.2.1, v.2.2.2.2.2.2.2.1, v.2.2.2.2.2.2.2.2))
theorem race_Time_g2 (C : race_Time_C) (v : race_Time_Y1) : treg tysT (orc (race_Time_tab C)) 61 (regO (bodyOf f29) 2) false [(1, .any), (4, (.box [.val Riii])), (6, .any), (7, .any), (8, .any), (10, .any), (22, .any)] (race_Time_S1 v) some = (race_Time_r2 C v).eval fun y => some (race_Time_S2 y) := by kernel_rfl
abbrev race_Time_Y3 : Type := Int × Int × Int
def race_Time_S3 (v : race_Time_Y3) : St := ⟨[(8, .ptr 0 0), (9, .int .i64 v.1)], [.cells [.int .i64 v.2.1, .int .i64 v.2.2]]⟩
def race_Time_r3 (C : race_Time_C) (v : race_Time_Y2) : Dt race_Time_Y3 := (Dt.ret (v.2.1, (0:Int), (0:Int)))
theorem race_Time_g3 (C : race_Time_C) (v : race_Time_Y2) : treg tysT (orc (race_Time_tab C)) 61 (regO (bodyOf f29) 3) false [(8, .any), (9, .any)] (race_Time_S2 v) some = (race_Time_r3 C v).eval fun y => some (race_Time_S3 y) := by kernel_rfl
abbrev race_Time_Y4 : Type := Int × Int × List Diii × Int × Int × Int × Int × Int × Int
def race_Time_S4 (v : race_Time_Y4) : St := ⟨[(1, .int .i64 v.1), (4, .ptr 0 0), (6, .ptr 1 0), (7, .ptr 2 0), (8, .ptr 3 0), (12, .int .i64 v.2.1)], [.cells [.fz Riii v.2.2.1], .cells [.int .i64 v.2.2.2.1, .int .i64 v.2.2.2.2.1], .cells [.int .i64 v.2.2.2.2.2.1, .int .i64 v.2.2.2.2.2.2.1], .cells [.int .i64 v.2.2.2.2.2.2.2.1, .int .i64 v.2.2.2.2.2.2.2.2]]⟩
def race_Time_r4 (C : race_Time_C) (v : race_Time_Y2) : Dt race_Time_Y4 := (Dt.bnd (C.2.1 ((v.2.2.2.1, ()), (v.1, ()), ())) fun r1 => (Dt.ret (v.1, r1.2.2.2, v.2.2.2.1, v.2.2.2.2.1, v.2.2.2.2.2.1, v.2.2.2.2.2.2.1, v.2.2.2.2.2.2.2.1, v.2.2.2.2.2.2.2.2.1, v.2.2.2.2.2.2.2.2.2)))
theorem race_Time_g4 (C : race_Time_C) (v : race_Time_Y2) : treg tysT (orc (race_Time_tab C)) 61 (regO (bodyOf f29) 4) false [(1, .any), (4, (.box [.val Riii])), (6, .any), (7, .any), (8, .any), (12, .any)] (race_Time_S2 v) some = (race_Time_r4 C v).eval fun y => some (race_Time_S4 y) := by kernel_rfl
abbrev race_Time_Y5 : Type := Int × Int × Bool × List Diii × Int × Int × Int × Int × Int × Int
def race_Time_S5 (v : race_Time_Y5) : St := ⟨[(1, .int .i64 v.1), (4, .ptr 0 0), (6, .ptr 1 0), (7, .ptr 2 0), (8, .ptr 3 0), (12, .int .i64 v.2.1), (32, .bool v.2.2.1)], [.cells [.fz Riii v.2.2.2.1], .cells [.int .i64 v.2.2.2.2.1, .int .i64 v.2.2.2.2.2.1], .cells [.int .i64 v.2.2.2.2.2.2.1, .int .i64 v.2.2.2.2.2.2.2.1], .cells [.int .i64 v.2.2.2.2.2.2.2.2.1, .int .i64 v.2.2.2.2.2.2.2.2.2]]⟩
def race_Time_r5 (C : race_Time_C) (v : race_Time_Y4) : Dt race_Time_Y5 := (Dt.ret (v.1, v.2.1, (v.2.1 != (0:Int)), v.2.2.1, v.2.2.2.1, v.2.2.2.2.1, v.2.2.2.2.2.1, v.2.2.2.2.2.2.1, v.2.2.2.2.2.2.2.1, v.2.2.2.2.2.2.2.2))
theorem race_Time_g5 (C : race_Time_C) (v : race_Time_Y4) : treg tysT (orc (race_Time_tab C)) 61 (regO (bodyOf f29) 5) false [(1, .any), (4, (.box [.val Riii])), (6, .any), (7, .any), (8, .any), (12, .any), (32, .any)] (race_Time_S4 v) some = (race_Time_r5 C v).eval fun y => some (race_Time_S5 y) := by kernel_rfl
def race_Time_r6 (C : race_Time_C) (v : race_Time_Y5) : Dt race_Time_Y3 := (Dt.ret (v.2.1, (0:Int), (0:Int)))
theorem race_Time_g6 (C : race_Time_C) (v : race_Time_Y5) : treg tysT (orc (race_Time_tab C)) 61 (regO (bodyOf f29) 6) false [(8, .any), (9, .any)] (race_Time_S5 v) some = (race_Time_r6 C v).eval fun y => some (race_Time_S3 y) := by kernel_rfl
abbrev race_Time_Y7 : Type := Int × Int × Int × List Diiiii
def race_Time_S7 (v : race_Time_Y7) : St := ⟨[(1, .int .i64 v.1), (8, .ptr 0 0), (13, .rs 1)], [.cells [.int .i64 v.2.1, .int .i64 v.2.2.1], .rows Riiiii v.2.2.2]⟩
def race_Time_r7 (C : race_Time_C) (v : race_Time_Y5) : Dt race_Time_Y7 := (Dt.bnd (C.1 ((v.2.2.2.1, ()), (v.2.2.2.2.1, v.2.2.2.2.2.1, ()), (v.2.2.2.2.2.2.1, v.2.2.2.2.2.2.2.1, ()), ())) fun r1 => (Dt.ret (v.1, v.2.2.2.2.2.2.2.2.1, v.2.2.2.2.2.2.2.2.2, r1.1)))
theorem race_Time_g7 (C : race_Time_C) (v : race_Time_Y5) : treg tysT (orc (race_Time_tab C)) 61 (regO (bodyOf f29) 7) false [(1, .any), (8, .any), (13, (.own Riiiii))] (race_Time_S5 v) some = (race_Time_r7 C v).eval fun y => some (race_Time_S7 y) := by kernel_rfl
abbrev race_Time_Y8 : Type := Int × Int × Int × Int × Int × List Diiiii
def race_Time_S8 (v : race_Time_Y8) : St := ⟨[(1, .int .i64 v.1), (8, .ptr 0 0), (42, .rs 1), (43, .int .i64 v.2.1), (44, .int .i64 v.2.2.1)], [.cells [.int .i64 v.2.2.2.1, .int .i64 v.2.2.2.2.1], .rows Riiiii v.2.2.2.2.2]⟩
def race_Time_r8 (C : race_Time_C) (v : race_Time_Y7) : Dt race_Time_Y8 := (Dt.ret (v.1, (List.length v.2.2.2 : Int), (0:Int), v.2.1, v.2.2.1, v.2.2.2))
theorem race_Time_g8 (C : race_Time_C) (v : race_Time_Y7) : treg tysT (orc (race_Time_tab C)) 61 (regO (bodyOf f29) 8) false [(1, .any), (8, .any), (42, (.own Riiiii)), (43, .any), (44, .any)] (race_Time_S7 v) some = (race_Time_r8 C v).eval fun y => some (race_Time_S8 y) := by kernel_rfl
abbrev race_Time_Y9 : Type := Int × Int × Int × Bool × Int × Int × List Diiiii
def race_Time_S9 (v : race_Time_Y9) : St := ⟨[(1, .int .i64 v.1), (8, .ptr 0 0), (42, .rs 1), (43, .int .i64 v.2.1), (44, .int .i64 v.2.2.1), (45, .bool v.2.2.2.1)], [.cells [.int .i64 v.2.2.2.2.1, .int .i64 v.2.2.2.2.2.1], .rows Riiiii v.2.2.2.2.2.2]⟩
def race_Time_r9 (C : race_Time_C) (v : race_Time_Y8) : Dt race_Time_Y9 := (Dt.ret (v.1, v.2.1, v.2.2.1, (decide (v.2.2.1 < v.2.1)), v.2.2.2.1, v.2.2.2.2.1, v.2.2.2.2.2))
theorem race_Time_g9 (C : race_Time_C) (v : race_Time_Y8) : treg tysT (orc (race_Time_tab C)) 61 (regO (bodyOf f29) 9) false [(1, .any), (8, .any), (42, (.own Riiiii)), (43, .any), (44, .any), (45, .any)] (race_Time_S8 v) some = (race_Time_r9 C v).eval fun y => some (race_Time_S9 y) := by kernel_rfl
abbrev race_Time_Y10 : Type := Int × Int × Int × Int × Int × Int × Int × Int × Int × Int × List Diiiii
def race_Time_S10 (v : race_Time_Y10) : St := ⟨[(1, .int .i64 v.1), (8, .ptr 0 0), (16, .ptr 1 0), (42, .rs 2), (43, .int .i64 v.2.1), (44, .int .i64 v.2.2.1)], [.cells [.int .i64 v.2.2.2.1, .int .i64 v.2.2.2.2.1], .cells [.int .i64 v.2.2.2.2.2.1, .int .i64 v.2.2.2.2.2.2.1, .int .i64 v.2.2.2.2.2.2.2.1, .int .i64 v.2.2.2.2.2.2.2.2.1, .int .i64 v.2.2.2.2.2.2.2.2.2.1], .rows Riiiii v.2.2.2.2.2.2.2.2.2.2]⟩
def race_Time_r10 (C : race_Time_C) (v : race_Time_Y9) : Dt race_Time_Y10 := (Dt.ite (inB v.2.2.1 (List.length v.2.2.2.2.2.2)) (Dt.ret (v.1, v.2.1, v.2.2.1, v.2.2.2.2.1, v.2.2.2.2.2.1, (elt ziiiii v.2.2.2.2.2.2 (v.2.2.1).toNat).1, (elt ziiiii v.2.2.2.2.2.2 (v.2.2.1).toNat).2.1, (elt ziiiii v.2.2.2.2.2.2 (v.2.2.1).toNat).2.2.1, (elt ziiiii v.2.2.2.2.2.2 (v.2.2.1).toNat).2.2.2.1, (elt ziiiii v.2.2.2.2.2.2 (v.2.2.1).toNat).2.2.2.2.1, v.2.2.2.2.2.2)) Dt.fail)
theorem race_Time_g10 (C : race_Time_C) (v : race_Time_Y9) : treg tysT (orc (race_Time_tab C)) 61 (regO (bodyOf f29) 10) false [(1, .any), (8, .any), (16, .any), (42, (.own Riiiii)), (43, .any), (44, .any)] (race_Time_S9 v) some = (race_Time_r10 C v).eval fun y => some (race_Time_S10 y) := by kernel_rfl
abbrev race_Time_Y11 : Type := Int × Int × Int × Bool × Int × Int × Int × Int × Int × Int × Int × List Diiiii
def race_Time_S11 (v : race_Time_Y11) : St := ⟨[(1, .int .i64 v.1), (8, .ptr 0 0), (16, .ptr 1 0), (42, .rs 2), (43, .int .i64 v.2.1), (44, .int .i64 v.2.2.1), (51, .bool v.2.2.2.1)], [.cells [.int .i64 v.2.2.2.2.1, .int .i64 v.2.2.2.2.2.1], .cells [.int .i64 v.2.2.2.2.2.2.1, .int .i64 v.2.2.2.2.2.2.2.1, .int .i64 v.2.2.2.2.2.2.2.2.1, .int .i64 v.2.2.2.2.2.2.2.2.2.1, .int .i64 v.2.2.2.2.2.2.2.2.2.2.1], .rows Riiiii v.2.2.2.2.2.2.2.2.2.2.2]⟩
def race_Time_r11 (C : race_Time_C) (v : race_Time_Y10) : Dt race_Time_Y11 := (Dt.ret (v.1, v.2.1, v.2.2.1, (v.2.2.2.2.2.2.2.2.2.1 == v.1), v.2.2.2.1, v.2.2.2.2.1, v.2.2.2.2.2.1, v.2.2.2.2.2.2.1, v.2.2.2.2.2.2.2.1, v.2.2.2.2.2.2.2.2.1, v.2.2.2.2.2.2.2.2.2.1, v.2.2.2.2.2.2.2.2.2.2))
theorem race_Time_g11 (C : race_Time_C) (v : race_Time_Y10) : treg tysT (orc (race_Time_tab C)) 61 (regO (bodyOf f29) 11) false [(1, .any), (8, .any), (16, .any), (42, (.own Riiiii)), (43, .any), (44, .any), (51, .any)] (race_Time_S10 v) some = (race_Time_r11 C v).eval fun y => some (race_Time_S11 y) := by kernel_rfl
def race_Time_r12 (C : race_Time_C) (v : race_Time_Y11) : Dt race_Time_Y3 := (Dt.bnd (C.2.2.2.1 ((v.2.2.2.2.2.2.2.2.1, v.2.2.2.2.2.2.2.2.2.1, ()), (v.2.2.2.2.2.2.1, v.2.2.2.2.2.2.2.1, ()), ())) fun r1 => (Dt.ret (r1.2.2, r1.1, r1.2.1)))
theorem race_Time_g12 (C : race_Time_C) (v : race_Time_Y11) : treg tysT (orc (race_Time_tab C)) 61 (regO (bodyOf f29) 12) false [(8, .any), (9, .any)] (race_Time_S11 v) some = (race_Time_r12 C v).eval fun y => some (race_Time_S3 y) := by kernel_rfl
def race_Time_r13 (C : race_Time_C) (v : race_Time_Y11) : Dt race_Time_Y8 := (Dt.ret (v.1, v.2.1, (IntKind.wrap .i64 (v.2.2.1 + (1:Int))), v.2.2.2.2.1, v.2.2.2.2.2.1, v.2.2.2.2.2.2.2.2.2.2.2))
theorem race_Time_g13 (C : race_Time_C) (v : race_Time_Y11) : treg tysT (orc (race_Time_tab C)) 61 (regO (bodyOf f29) 13) false [(1, .any), (8, .any), (42, (.own Riiiii)), (43, .any), (44, .any)] (race_Time_S11 v) some = (race_Time_r13 C v).eval fun y => some (race_Time_S8 y) := by kernel_rfl
def race_Time_r14 (C : race_Time_C) (v : race_Time_Y9) : Dt race_Time_Y3 := (Dt.ret ((0:Int), (0:Int), (1:Int)))
theorem race_Time_g14 (C : race_Time_C) (v : race_Time_Y9) : treg tysT (orc (race_Time_tab C)) 61 (regO (bodyOf f29) 14) false [(8, .any), (9, .any)] (race_Time_S9 v) some = (race_Time_r14 C v).eval fun y => some (race_Time_S3 y) := by kernel_rfl
def race_Time_L1 (d : Nat) (self1 : (Int × Int × Int × Int × Int × List Diiiii) → Option race_Time_R) (x1 : Int × Int × Int × Int × Int × List Diiiii) : Option race_Time_R :=
  (race_Time_r9 (race_Time_K d) x1).eval fun y9 =>
  bif y9.2.2.2.1 then ((race_Time_r10 (race_Time_K d) y9).eval fun y10 =>
  (race_Time_r11 (race_Time_K d) y10).eval fun y11 =>
  bif y11.2.2.2.1 then ((race_Time_r12 (race_Time_K d) y11).eval fun y12 =>
  some (y12.2.1, y12.2.2, y12.1)) else ((race_Time_r13 (race_Time_K d) y11).eval fun y13 =>
  self1 y13)) else ((race_Time_r14 (race_Time_K d) y9).eval fun y14 =>
  some (y14.2.1, y14.2.2, y14.1))
def F_race_Time (d : Nat) (x : race_Time_X) : Option race_Time_R :=
  (race_Time_r0 (race_Time_K d) (x.1.1, x.2.1.1, x.2.2.1.1, x.2.2.1.2.1, x.2.2.2.1.1, x.2.2.2.1.2.1)).eval fun y0 =>
  (race_Time_r1 (race_Time_K d) y0).eval fun y1 =>
  (race_Time_r2 (race_Time_K d) y1).eval fun y2 =>
  bif y2.2.2.1 then ((race_Time_r3 (race_Time_K d) y2).eval fun y3 =>
  some (y3.2.1, y3.2.2, y3.1)) else ((race_Time_r4 (race_Time_K d) y2).eval fun y4 =>
  (race_Time_r5 (race_Time_K d) y4).eval fun y5 =>
  bif y5.2.2.1 then ((race_Time_r6 (race_Time_K d) y5).eval fun y6 =>
  some (y6.2.1, y6.2.2, y6.1)) else ((race_Time_r7 (race_Time_K d) y5).eval fun y7 =>
  (race_Time_r8 (race_Time_K d) y7).eval fun y8 =>
  iter (race_Time_L1 d ) d y8))
theorem race_Time_cok (d : Nat) : COK prog (race_Time_sp (F_race_Time d)) := by
  have hm : prog.follows .mixedOrders = true := mixed
  have hT := tys
  have hC0 : OrcOK prog (orc (race_Time_tab (race_Time_K d))) := orc_ok (by
    intro S hS
    simp only [race_Time_tab, List.mem_cons, List.not_mem_nil, or_false] at hS
    rcases hS with rfl | rfl | rfl | rfl
    · exact race_Reigns_cok d
    · exact field_Find_cok d
    · exact race_check_cok d
    · exact ratio_Sub_cok d)
  have hC : OrcOK prog (orc (race_Time_tab (race_Time_K d))) := hC0
  refine cok_of (c := bodyOf f29) (fn := f29) hT (by kernel_rfl) (by kernel_rfl) (by decide) fun x r h w0 φ0 Q hend => ?_
  replace h : F_race_Time d x = some r := h
  unfold F_race_Time at h
  show Run prog w0 φ0 61 (bodyOf f29) ⟨[(0, .agg [.fz Riii x.1.1]), (1, .int .i64 x.2.1.1), (2, .agg [.int .i64 x.2.2.1.1, .int .i64 x.2.2.1.2.1]), (3, .agg [.int .i64 x.2.2.2.1.1, .int .i64 x.2.2.2.1.2.1])], []⟩ Q
  refine run_seq ?_
  refine run_reg hm hT hC (race_Time_g0 (race_Time_K d) (x.1.1, x.2.1.1, x.2.2.1.1, x.2.2.1.2.1, x.2.2.2.1.1, x.2.2.2.1.2.1)) h ?_
  intro y0 h
  refine cn_then ?_
  refine run_seq ?_
  refine run_seq ?_
  refine run_reg hm hT hC (race_Time_g1 (race_Time_K d) y0) h ?_
  intro y1 h
  refine cn_then ?_
  refine run_seq ?_
  refine run_reg hm hT hC (race_Time_g2 (race_Time_K d) y1) h ?_
  intro y2 h
  refine cn_then ?_
  refine run_cond (v := y2.2.2.1) (by kernel_rfl) h ?_ ?_
  ·
    intro h
    refine run_seq ?_
    refine run_reg hm hT hC (race_Time_g3 (race_Time_K d) y2) h ?_
    intro y3 h
    refine cn_then ?_
    refine run_ret ?_
    refine cn_then_ret ?_
    cases h
    exact (hend _ (by kernel_rfl)).2
  ·
    intro h
    refine run_skip ?_
    refine cn_then ?_
    refine run_seq ?_
    refine run_seq ?_
    refine run_reg hm hT hC (race_Time_g4 (race_Time_K d) y2) h ?_
    intro y4 h
    refine cn_then ?_
    refine run_seq ?_
    refine run_reg hm hT hC (race_Time_g5 (race_Time_K d) y4) h ?_
    intro y5 h
    refine cn_then ?_
    refine run_cond (v := y5.2.2.1) (by kernel_rfl) h ?_ ?_
    ·
      intro h
      refine run_seq ?_
      refine run_reg hm hT hC (race_Time_g6 (race_Time_K d) y5) h ?_
      intro y6 h
      refine cn_then ?_
      refine run_ret ?_
      refine cn_then_ret ?_
      cases h
      exact (hend _ (by kernel_rfl)).2
    ·
      intro h
      refine run_skip ?_
      refine cn_then ?_
      refine run_seq ?_
      refine run_reg hm hT hC (race_Time_g7 (race_Time_K d) y5) h ?_
      intro y7 h
      refine cn_then ?_
      refine run_seq ?_
      refine run_seq ?_
      refine run_reg hm hT hC (race_Time_g8 (race_Time_K d) y7) h ?_
      intro y8 h
      refine cn_then ?_
      refine run_block ?_
      refine run_loop (G := iter (race_Time_L1 d )) (S := (fun x1 => ⟨[(1, .int .i64 x1.1), (8, .ptr 0 0), (42, .rs 1), (43, .int .i64 x1.2.1), (44, .int .i64 x1.2.2.1)], [.cells [.int .i64 x1.2.2.2.1, .int .i64 x1.2.2.2.2.1], .rows Riiiii x1.2.2.2.2.2]⟩ : Int × Int × Int × Int × Int × List Diiiii → St)) (fun _ => rfl) ?_ d _ h
      intro n1 x1 h K1 hn1
      replace h : race_Time_L1 d  (iter (race_Time_L1 d ) n1) x1 = some r := h
      generalize iter (race_Time_L1 d ) n1 = self1 at h hn1
      unfold race_Time_L1 at h
      refine run_seq ?_
      refine run_reg hm hT hC (race_Time_g9 (race_Time_K d) x1) h ?_
      intro y9 h
      refine cn_then ?_
      refine run_seq ?_
      refine run_cond (v := y9.2.2.2.1) (by kernel_rfl) h ?_ ?_
      ·
        intro h
        refine run_skip ?_
        refine cn_then ?_
        refine run_seq ?_
        refine run_block ?_
        refine run_seq ?_
        refine run_reg hm hT hC (race_Time_g10 (race_Time_K d) y9) h ?_
        intro y10 h
        refine cn_then ?_
        refine run_seq ?_
        refine run_reg hm hT hC (race_Time_g11 (race_Time_K d) y10) h ?_
        intro y11 h
        refine cn_then ?_
        refine run_cond (v := y11.2.2.2.1) (by kernel_rfl) h ?_ ?_
        ·
          intro h
          refine run_seq ?_
          refine run_reg hm hT hC (race_Time_g12 (race_Time_K d) y11) h ?_
          intro y12 h
          refine cn_then ?_
          refine run_ret ?_
          refine cn_blk_ret ?_
          refine cn_then_ret ?_
          refine cn_then_ret ?_
          refine cn_blk_ret ?_
          refine cn_then_ret ?_
          cases h
          exact (hend _ (by kernel_rfl)).2
        ·
          intro h
          refine run_skip ?_
          refine cn_blk ?_
          refine cn_then ?_
          refine run_reg hm hT hC (race_Time_g13 (race_Time_K d) y11) h ?_
          intro y13 h
          exact hn1 _ h
      ·
        intro h
        refine run_exit ?_
        refine cn_then_exit ?_
        refine cn_then_exit ?_
        refine cn_blk_eq ?_
        refine cn_then ?_
        refine run_seq ?_
        refine run_reg hm hT hC (race_Time_g14 (race_Time_K d) y9) h ?_
        intro y14 h
        refine cn_then ?_
        refine run_ret ?_
        cases h
        exact (hend _ (by kernel_rfl)).2
abbrev race_Laps_ps : List Pk := [.row RLiiiE true, .row Rii true, .row Rii true]
abbrev race_Laps_X : Type := DLiiiE × Dii × Dii × Unit
abbrev race_Laps_R : Type := Int × Int
def race_Laps_enc (r : race_Laps_R) : LV × List Ob := (.tup [.int .i64 r.1, .int .i64 r.2], [])
def race_Laps_sp (F : race_Laps_X → Option race_Laps_R) : Go.Tx.Spec := ⟨28, race_Laps_ps, race_Laps_R, F, race_Laps_enc⟩
abbrev race_Laps_C : Type := (crest_Of_X → Option crest_Of_R) × (race_check_X → Option race_check_R) × (race_less_X → Option race_less_R) × Unit
def race_Laps_K (d : Nat) : race_Laps_C := (F_crest_Of d, F_race_check d, F_race_less d, ())
def race_Laps_tab (C : race_Laps_C) : List Go.Tx.Spec := [crest_Of_sp C.1, race_check_sp C.2.1, race_less_sp C.2.2.1]
abbrev race_Laps_Y0i : Type := List Diii × Int × Int × Int × Int
def race_Laps_S0i (v : race_Laps_Y0i) : St := ⟨[(0, .agg [.fz Riii v.1]), (1, .agg [.int .i64 v.2.1, .int .i64 v.2.2.1]), (2, .agg [.int .i64 v.2.2.2.1, .int .i64 v.2.2.2.2])], []⟩
abbrev race_Laps_Y0 : Type := List Diii × Int × Int × Int × Int
def race_Laps_S0 (v : race_Laps_Y0) : St := ⟨[(3, .ptr 0 0), (4, .ptr 1 0), (5, .ptr 2 0)], [.cells [.fz Riii v.1], .cells [.int .i64 v.2.1, .int .i64 v.2.2.1], .cells [.int .i64 v.2.2.2.1, .int .i64 v.2.2.2.2]]⟩
def race_Laps_r0 (C : race_Laps_C) (v : race_Laps_Y0i) : Dt race_Laps_Y0 := (Dt.ret (v.1, v.2.1, v.2.2.1, v.2.2.2.1, v.2.2.2.2))
theorem race_Laps_g0 (C : race_Laps_C) (v : race_Laps_Y0i) : treg tysT (orc (race_Laps_tab C)) 46 (regO (bodyOf f28) 0) false [(3, (.box [.val Riii])), (4, .any), (5, .any)] (race_Laps_S0i v) some = (race_Laps_r0 C v).eval fun y => some (race_Laps_S0 y) := by kernel_rfl
abbrev race_Laps_Y1 : Type := Int × List Diii × Int × Int × Int × Int
def race_Laps_S1 (v : race_Laps_Y1) : St := ⟨[(3, .ptr 0 0), (4, .ptr 1 0), (5, .ptr 2 0), (8, .int .i64 v.1)], [.cells [.fz Riii v.2.1], .cells [.int .i64 v.2.2.1, .int .i64 v.2.2.2.1], .cells [.int .i64 v.2.2.2.2.1, .int .i64 v.2.2.2.2.2]]⟩
def race_Laps_r1 (C : race_Laps_C) (v : race_Laps_Y0) : Dt race_Laps_Y1 := (Dt.bnd (C.2.1 ((v.1, ()), (v.2.1, v.2.2.1, ()), (v.2.2.2.1, v.2.2.2.2, ()), ())) fun r1 => (Dt.ret (r1, v.1, v.2.1, v.2.2.1, v.2.2.2.1, v.2.2.2.2)))
theorem race_Laps_g1 (C : race_Laps_C) (v : race_Laps_Y0) : treg tysT (orc (race_Laps_tab C)) 46 (regO (bodyOf f28) 1) false [(3, (.box [.val Riii])), (4, .any), (5, .any), (8, .any)] (race_Laps_S0 v) some = (race_Laps_r1 C v).eval fun y => some (race_Laps_S1 y) := by kernel_rfl
abbrev race_Laps_Y2 : Type := Int × Bool × List Diii × Int × Int × Int × Int
def race_Laps_S2 (v : race_Laps_Y2) : St := ⟨[(3, .ptr 0 0), (4, .ptr 1 0), (5, .ptr 2 0), (8, .int .i64 v.1), (19, .bool v.2.1)], [.cells [.fz Riii v.2.2.1], .cells [.int .i64 v.2.2.2.1, .int .i64 v.2.2.2.2.1], .cells [.int .i64 v.2.2.2.2.2.1, .int .i64 v.2.2.2.2.2.2]]⟩
def race_Laps_r2 (C : race_Laps_C) (v : race_Laps_Y1) : Dt race_Laps_Y2 := (Dt.ret (v.1, (v.1 != (0:Int)), v.2.1, v.2.2.1, v.2.2.2.1, v.2.2.2.2.1, v.2.2.2.2.2))
theorem race_Laps_g2 (C : race_Laps_C) (v : race_Laps_Y1) : treg tysT (orc (race_Laps_tab C)) 46 (regO (bodyOf f28) 2) false [(3, (.box [.val Riii])), (4, .any), (5, .any), (8, .any), (19, .any)] (race_Laps_S1 v) some = (race_Laps_r2 C v).eval fun y => some (race_Laps_S2 y) := by kernel_rfl
abbrev race_Laps_Y3 : Type := Int × Int
def race_Laps_S3 (v : race_Laps_Y3) : St := ⟨[(6, .int .i64 v.1), (7, .int .i64 v.2)], []⟩
def race_Laps_r3 (C : race_Laps_C) (v : race_Laps_Y2) : Dt race_Laps_Y3 := (Dt.ret ((0:Int), v.1))
theorem race_Laps_g3 (C : race_Laps_C) (v : race_Laps_Y2) : treg tysT (orc (race_Laps_tab C)) 46 (regO (bodyOf f28) 3) false [(6, .any), (7, .any)] (race_Laps_S2 v) some = (race_Laps_r3 C v).eval fun y => some (race_Laps_S3 y) := by kernel_rfl
abbrev race_Laps_Y4 : Type := Int × Int × Int × List Diii
def race_Laps_S4 (v : race_Laps_Y4) : St := ⟨[(5, .ptr 0 0), (9, .rs 1), (10, .int .i64 v.1)], [.cells [.int .i64 v.2.1, .int .i64 v.2.2.1], .rows Riii v.2.2.2]⟩
def race_Laps_r4 (C : race_Laps_C) (v : race_Laps_Y2) : Dt race_Laps_Y4 := (Dt.bnd (C.1 ((v.2.2.1, ()), (v.2.2.2.1, v.2.2.2.2.1, ()), ())) fun r1 => (Dt.ret (r1.2, v.2.2.2.2.2.1, v.2.2.2.2.2.2, r1.1)))
theorem race_Laps_g4 (C : race_Laps_C) (v : race_Laps_Y2) : treg tysT (orc (race_Laps_tab C)) 46 (regO (bodyOf f28) 4) false [(5, .any), (9, (.own Riii)), (10, .any)] (race_Laps_S2 v) some = (race_Laps_r4 C v).eval fun y => some (race_Laps_S4 y) := by kernel_rfl
abbrev race_Laps_Y5 : Type := Int × Bool × Int × Int × List Diii
def race_Laps_S5 (v : race_Laps_Y5) : St := ⟨[(5, .ptr 0 0), (9, .rs 1), (10, .int .i64 v.1), (28, .bool v.2.1)], [.cells [.int .i64 v.2.2.1, .int .i64 v.2.2.2.1], .rows Riii v.2.2.2.2]⟩
def race_Laps_r5 (C : race_Laps_C) (v : race_Laps_Y4) : Dt race_Laps_Y5 := (Dt.ret (v.1, (v.1 != (0:Int)), v.2.1, v.2.2.1, v.2.2.2))
theorem race_Laps_g5 (C : race_Laps_C) (v : race_Laps_Y4) : treg tysT (orc (race_Laps_tab C)) 46 (regO (bodyOf f28) 5) false [(5, .any), (9, (.own Riii)), (10, .any), (28, .any)] (race_Laps_S4 v) some = (race_Laps_r5 C v).eval fun y => some (race_Laps_S5 y) := by kernel_rfl
def race_Laps_r6 (C : race_Laps_C) (v : race_Laps_Y5) : Dt race_Laps_Y3 := (Dt.ret ((0:Int), v.1))
theorem race_Laps_g6 (C : race_Laps_C) (v : race_Laps_Y5) : treg tysT (orc (race_Laps_tab C)) 46 (regO (bodyOf f28) 6) false [(6, .any), (7, .any)] (race_Laps_S5 v) some = (race_Laps_r6 C v).eval fun y => some (race_Laps_S3 y) := by kernel_rfl
abbrev race_Laps_Y7 : Type := Int × Int × Int × List Diii
def race_Laps_S7 (v : race_Laps_Y7) : St := ⟨[(5, .ptr 0 0), (9, .rs 1), (11, .int .i64 v.1)], [.cells [.int .i64 v.2.1, .int .i64 v.2.2.1], .rows Riii v.2.2.2]⟩
def race_Laps_r7 (C : race_Laps_C) (v : race_Laps_Y5) : Dt race_Laps_Y7 := (Dt.ret ((0:Int), v.2.2.1, v.2.2.2.1, v.2.2.2.2))
theorem race_Laps_g7 (C : race_Laps_C) (v : race_Laps_Y5) : treg tysT (orc (race_Laps_tab C)) 46 (regO (bodyOf f28) 7) false [(5, .any), (9, (.own Riii)), (11, .any)] (race_Laps_S5 v) some = (race_Laps_r7 C v).eval fun y => some (race_Laps_S7 y) := by kernel_rfl
abbrev race_Laps_Y8 : Type := Int × List Diii × Int × Int × Int × Int
def race_Laps_S8 (v : race_Laps_Y8) : St := ⟨[(5, .ptr 0 0), (11, .int .i64 v.1), (31, .fz Riii v.2.1), (32, .int .i64 v.2.2.1), (33, .int .i64 v.2.2.2.1)], [.cells [.int .i64 v.2.2.2.2.1, .int .i64 v.2.2.2.2.2]]⟩
def race_Laps_r8 (C : race_Laps_C) (v : race_Laps_Y7) : Dt race_Laps_Y8 := (Dt.ite (decide (0 ≤ (1:Int)) && decide ((1:Int) ≤ (List.length v.2.2.2 : Int))) (Dt.ret (v.1, (List.drop ((1:Int)).toNat v.2.2.2), (List.length (List.drop ((1:Int)).toNat v.2.2.2) : Int), (0:Int), v.2.1, v.2.2.1)) Dt.fail)
theorem race_Laps_g8 (C : race_Laps_C) (v : race_Laps_Y7) : treg tysT (orc (race_Laps_tab C)) 46 (regO (bodyOf f28) 8) false [(5, .any), (11, .any), (31, (.val Riii)), (32, .any), (33, .any)] (race_Laps_S7 v) some = (race_Laps_r8 C v).eval fun y => some (race_Laps_S8 y) := by kernel_rfl
abbrev race_Laps_Y9 : Type := Int × List Diii × Int × Int × Bool × Int × Int
def race_Laps_S9 (v : race_Laps_Y9) : St := ⟨[(5, .ptr 0 0), (11, .int .i64 v.1), (31, .fz Riii v.2.1), (32, .int .i64 v.2.2.1), (33, .int .i64 v.2.2.2.1), (34, .bool v.2.2.2.2.1)], [.cells [.int .i64 v.2.2.2.2.2.1, .int .i64 v.2.2.2.2.2.2]]⟩
def race_Laps_r9 (C : race_Laps_C) (v : race_Laps_Y8) : Dt race_Laps_Y9 := (Dt.ret (v.1, v.2.1, v.2.2.1, v.2.2.2.1, (decide (v.2.2.2.1 < v.2.2.1)), v.2.2.2.2.1, v.2.2.2.2.2))
theorem race_Laps_g9 (C : race_Laps_C) (v : race_Laps_Y8) : treg tysT (orc (race_Laps_tab C)) 46 (regO (bodyOf f28) 9) false [(5, .any), (11, .any), (31, (.val Riii)), (32, .any), (33, .any), (34, .any)] (race_Laps_S8 v) some = (race_Laps_r9 C v).eval fun y => some (race_Laps_S9 y) := by kernel_rfl
abbrev race_Laps_Y10 : Type := Int × List Diii × Int × Int × Int × Int × Int × Int × Int
def race_Laps_S10 (v : race_Laps_Y10) : St := ⟨[(5, .ptr 0 0), (11, .int .i64 v.1), (13, .ptr 1 0), (31, .fz Riii v.2.1), (32, .int .i64 v.2.2.1), (33, .int .i64 v.2.2.2.1)], [.cells [.int .i64 v.2.2.2.2.1, .int .i64 v.2.2.2.2.2.1], .cells [.int .i64 v.2.2.2.2.2.2.1, .int .i64 v.2.2.2.2.2.2.2.1, .int .i64 v.2.2.2.2.2.2.2.2]]⟩
def race_Laps_r10 (C : race_Laps_C) (v : race_Laps_Y9) : Dt race_Laps_Y10 := (Dt.ite (inB v.2.2.2.1 (List.length v.2.1)) (Dt.ret (v.1, v.2.1, v.2.2.1, v.2.2.2.1, v.2.2.2.2.2.1, v.2.2.2.2.2.2, (elt ziii v.2.1 (v.2.2.2.1).toNat).1, (elt ziii v.2.1 (v.2.2.2.1).toNat).2.1, (elt ziii v.2.1 (v.2.2.2.1).toNat).2.2.1)) Dt.fail)
theorem race_Laps_g10 (C : race_Laps_C) (v : race_Laps_Y9) : treg tysT (orc (race_Laps_tab C)) 46 (regO (bodyOf f28) 10) false [(5, .any), (11, .any), (13, .any), (31, (.val Riii)), (32, .any), (33, .any)] (race_Laps_S9 v) some = (race_Laps_r10 C v).eval fun y => some (race_Laps_S10 y) := by kernel_rfl
abbrev race_Laps_Y11 : Type := Int × List Diii × Int × Int × Bool × Int × Int
def race_Laps_S11 (v : race_Laps_Y11) : St := ⟨[(5, .ptr 0 0), (11, .int .i64 v.1), (31, .fz Riii v.2.1), (32, .int .i64 v.2.2.1), (33, .int .i64 v.2.2.2.1), (41, .bool v.2.2.2.2.1)], [.cells [.int .i64 v.2.2.2.2.2.1, .int .i64 v.2.2.2.2.2.2]]⟩
def race_Laps_r11 (C : race_Laps_C) (v : race_Laps_Y10) : Dt race_Laps_Y11 := (Dt.bnd (C.2.2.1 ((v.2.2.2.2.1, v.2.2.2.2.2.1, ()), (v.2.2.2.2.2.2.1, v.2.2.2.2.2.2.2.1, ()), ())) fun r1 => (Dt.ret (v.1, v.2.1, v.2.2.1, v.2.2.2.1, (!r1), v.2.2.2.2.1, v.2.2.2.2.2.1)))
theorem race_Laps_g11 (C : race_Laps_C) (v : race_Laps_Y10) : treg tysT (orc (race_Laps_tab C)) 46 (regO (bodyOf f28) 11) false [(5, .any), (11, .any), (31, (.val Riii)), (32, .any), (33, .any), (41, .any)] (race_Laps_S10 v) some = (race_Laps_r11 C v).eval fun y => some (race_Laps_S11 y) := by kernel_rfl
def race_Laps_r12 (C : race_Laps_C) (v : race_Laps_Y11) : Dt race_Laps_Y8 := (Dt.ret ((IntKind.wrap .i64 (v.1 + (1:Int))), v.2.1, v.2.2.1, v.2.2.2.1, v.2.2.2.2.2.1, v.2.2.2.2.2.2))
theorem race_Laps_g12 (C : race_Laps_C) (v : race_Laps_Y11) : treg tysT (orc (race_Laps_tab C)) 46 (regO (bodyOf f28) 12) false [(5, .any), (11, .any), (31, (.val Riii)), (32, .any), (33, .any)] (race_Laps_S11 v) some = (race_Laps_r12 C v).eval fun y => some (race_Laps_S8 y) := by kernel_rfl
def race_Laps_r13 (C : race_Laps_C) (v : race_Laps_Y8) : Dt race_Laps_Y8 := (Dt.ret (v.1, v.2.1, v.2.2.1, (IntKind.wrap .i64 (v.2.2.2.1 + (1:Int))), v.2.2.2.2.1, v.2.2.2.2.2))
theorem race_Laps_g13 (C : race_Laps_C) (v : race_Laps_Y8) : treg tysT (orc (race_Laps_tab C)) 46 (regO (bodyOf f28) 13) false [(5, .any), (11, .any), (31, (.val Riii)), (32, .any), (33, .any)] (race_Laps_S8 v) some = (race_Laps_r13 C v).eval fun y => some (race_Laps_S8 y) := by kernel_rfl
def race_Laps_J2  (d : Nat) (self1 : (Int × List Diii × Int × Int × Int × Int) → Option race_Laps_R) (z : Int × List Diii × Int × Int × Int × Int) : Option (race_Laps_R) :=
  (race_Laps_r13 (race_Laps_K d) z).eval fun y13 =>
  self1 y13
def race_Laps_r14 (C : race_Laps_C) (v : race_Laps_Y9) : Dt race_Laps_Y3 := (Dt.ret (v.1, (0:Int)))
theorem race_Laps_g14 (C : race_Laps_C) (v : race_Laps_Y9) : treg tysT (orc (race_Laps_tab C)) 46 (regO (bodyOf f28) 14) false [(6, .any), (7, .any)] (race_Laps_S9 v) some = (race_Laps_r14 C v).eval fun y => some (race_Laps_S3 y) := by kernel_rfl
def race_Laps_L1 (d : Nat) (self1 : (Int × List Diii × Int × Int × Int × Int) → Option race_Laps_R) (x1 : Int × List Diii × Int × Int × Int × Int) : Option race_Laps_R :=
  (race_Laps_r9 (race_Laps_K d) x1).eval fun y9 =>
  bif y9.2.2.2.2.1 then ((race_Laps_r10 (race_Laps_K d) y9).eval fun y10 =>
  (race_Laps_r11 (race_Laps_K d) y10).eval fun y11 =>
  bif y11.2.2.2.2.1 then ((race_Laps_r12 (race_Laps_K d) y11).eval fun y12 =>
  race_Laps_J2 d self1 y12) else (race_Laps_J2 d self1 (y11.1, y11.2.1, y11.2.2.1, y11.2.2.2.1, y11.2.2.2.2.2.1, y11.2.2.2.2.2.2))) else ((race_Laps_r14 (race_Laps_K d) y9).eval fun y14 =>
  some y14)
def F_race_Laps (d : Nat) (x : race_Laps_X) : Option race_Laps_R :=
  (race_Laps_r0 (race_Laps_K d) (x.1.1, x.2.1.1, x.2.1.2.1, x.2.2.1.1, x.2.2.1.2.1)).eval fun y0 =>
  (race_Laps_r1 (race_Laps_K d) y0).eval fun y1 =>
  (race_Laps_r2 (race_Laps_K d) y1).eval fun y2 =>
  bif y2.2.1 then ((race_Laps_r3 (race_Laps_K d) y2).eval fun y3 =>
  some y3) else ((race_Laps_r4 (race_Laps_K d) y2).eval fun y4 =>
  (race_Laps_r5 (race_Laps_K d) y4).eval fun y5 =>
  bif y5.2.1 then ((race_Laps_r6 (race_Laps_K d) y5).eval fun y6 =>
  some y6) else ((race_Laps_r7 (race_Laps_K d) y5).eval fun y7 =>
  (race_Laps_r8 (race_Laps_K d) y7).eval fun y8 =>
  iter (race_Laps_L1 d ) d y8))
theorem race_Laps_cok (d : Nat) : COK prog (race_Laps_sp (F_race_Laps d)) := by
  have hm : prog.follows .mixedOrders = true := mixed
  have hT := tys
  have hC0 : OrcOK prog (orc (race_Laps_tab (race_Laps_K d))) := orc_ok (by
    intro S hS
    simp only [race_Laps_tab, List.mem_cons, List.not_mem_nil, or_false] at hS
    rcases hS with rfl | rfl | rfl
    · exact crest_Of_cok d
    · exact race_check_cok d
    · exact race_less_cok d)
  have hC : OrcOK prog (orc (race_Laps_tab (race_Laps_K d))) := hC0
  refine cok_of (c := bodyOf f28) (fn := f28) hT (by kernel_rfl) (by kernel_rfl) (by decide) fun x r h w0 φ0 Q hend => ?_
  replace h : F_race_Laps d x = some r := h
  unfold F_race_Laps at h
  show Run prog w0 φ0 46 (bodyOf f28) ⟨[(0, .agg [.fz Riii x.1.1]), (1, .agg [.int .i64 x.2.1.1, .int .i64 x.2.1.2.1]), (2, .agg [.int .i64 x.2.2.1.1, .int .i64 x.2.2.1.2.1])], []⟩ Q
  refine run_seq ?_
  refine run_reg hm hT hC (race_Laps_g0 (race_Laps_K d) (x.1.1, x.2.1.1, x.2.1.2.1, x.2.2.1.1, x.2.2.1.2.1)) h ?_
  intro y0 h
  refine cn_then ?_
  refine run_seq ?_
  refine run_seq ?_
  refine run_reg hm hT hC (race_Laps_g1 (race_Laps_K d) y0) h ?_
  intro y1 h
  refine cn_then ?_
  refine run_seq ?_
  refine run_reg hm hT hC (race_Laps_g2 (race_Laps_K d) y1) h ?_
  intro y2 h
  refine cn_then ?_
  refine run_cond (v := y2.2.1) (by kernel_rfl) h ?_ ?_
  ·
    intro h
    refine run_seq ?_
    refine run_reg hm hT hC (race_Laps_g3 (race_Laps_K d) y2) h ?_
    intro y3 h
    refine cn_then ?_
    refine run_ret ?_
    refine cn_then_ret ?_
    cases h
    exact (hend _ (by kernel_rfl)).2
  ·
    intro h
    refine run_skip ?_
    refine cn_then ?_
    refine run_seq ?_
    refine run_reg hm hT hC (race_Laps_g4 (race_Laps_K d) y2) h ?_
    intro y4 h
    refine cn_then ?_
    refine run_seq ?_
    refine run_seq ?_
    refine run_reg hm hT hC (race_Laps_g5 (race_Laps_K d) y4) h ?_
    intro y5 h
    refine cn_then ?_
    refine run_cond (v := y5.2.1) (by kernel_rfl) h ?_ ?_
    ·
      intro h
      refine run_seq ?_
      refine run_reg hm hT hC (race_Laps_g6 (race_Laps_K d) y5) h ?_
      intro y6 h
      refine cn_then ?_
      refine run_ret ?_
      refine cn_then_ret ?_
      cases h
      exact (hend _ (by kernel_rfl)).2
    ·
      intro h
      refine run_skip ?_
      refine cn_then ?_
      refine run_seq ?_
      refine run_reg hm hT hC (race_Laps_g7 (race_Laps_K d) y5) h ?_
      intro y7 h
      refine cn_then ?_
      refine run_seq ?_
      refine run_seq ?_
      refine run_reg hm hT hC (race_Laps_g8 (race_Laps_K d) y7) h ?_
      intro y8 h
      refine cn_then ?_
      refine run_block ?_
      refine run_loop (G := iter (race_Laps_L1 d )) (S := (fun x1 => ⟨[(5, .ptr 0 0), (11, .int .i64 x1.1), (31, .fz Riii x1.2.1), (32, .int .i64 x1.2.2.1), (33, .int .i64 x1.2.2.2.1)], [.cells [.int .i64 x1.2.2.2.2.1, .int .i64 x1.2.2.2.2.2]]⟩ : Int × List Diii × Int × Int × Int × Int → St)) (fun _ => rfl) ?_ d _ h
      intro n1 x1 h K1 hn1
      replace h : race_Laps_L1 d  (iter (race_Laps_L1 d ) n1) x1 = some r := h
      generalize iter (race_Laps_L1 d ) n1 = self1 at h hn1
      unfold race_Laps_L1 at h
      refine run_seq ?_
      refine run_reg hm hT hC (race_Laps_g9 (race_Laps_K d) x1) h ?_
      intro y9 h
      refine cn_then ?_
      refine run_seq ?_
      refine run_cond (v := y9.2.2.2.2.1) (by kernel_rfl) h ?_ ?_
      ·
        intro h
        refine run_skip ?_
        refine cn_then ?_
        refine run_join (r := r) (F := race_Laps_J2 d self1) (S := (fun z => ⟨[(5, .ptr 0 0), (11, .int .i64 z.1), (31, .fz Riii z.2.1), (32, .int .i64 z.2.2.1), (33, .int .i64 z.2.2.2.1)], [.cells [.int .i64 z.2.2.2.2.1, .int .i64 z.2.2.2.2.2]]⟩ : Int × List Diii × Int × Int × Int × Int → St)) ?_ ?_
        ·
          intro z h
          unfold race_Laps_J2 at h
          refine run_reg hm hT hC (race_Laps_g13 (race_Laps_K d) z) h ?_
          intro y13 h
          exact hn1 _ h
        intro hj2
        refine run_block ?_
        refine run_seq ?_
        refine run_reg hm hT hC (race_Laps_g10 (race_Laps_K d) y9) h ?_
        intro y10 h
        refine cn_then ?_
        refine run_seq ?_
        refine run_reg hm hT hC (race_Laps_g11 (race_Laps_K d) y10) h ?_
        intro y11 h
        refine cn_then ?_
        refine run_cond (v := y11.2.2.2.2.1) (by kernel_rfl) h ?_ ?_
        ·
          intro h
          refine run_reg hm hT hC (race_Laps_g12 (race_Laps_K d) y11) h ?_
          intro y12 h
          refine cn_blk ?_
          exact hj2 _ h
        ·
          intro h
          refine run_skip ?_
          refine cn_blk ?_
          refine cn_num (s := ⟨[(5, .ptr 0 0), (11, .int .i64 y11.1), (31, .fz Riii y11.2.1), (32, .int .i64 y11.2.2.1), (33, .int .i64 y11.2.2.2.1)], [.cells [.int .i64 y11.2.2.2.2.2.1, .int .i64 y11.2.2.2.2.2.2]]⟩) [41] (by kernel_rfl) ?_
          exact hj2 _ h
      ·
        intro h
        refine run_exit ?_
        refine cn_then_exit ?_
        refine cn_then_exit ?_
        refine cn_blk_eq ?_
        refine cn_then ?_
        refine run_seq ?_
        refine run_reg hm hT hC (race_Laps_g14 (race_Laps_K d) y9) h ?_
        intro y14 h
        refine cn_then ?_
        refine run_ret ?_
        cases h
        exact (hend _ (by kernel_rfl)).2
abbrev race_Medals_ps : List Pk := [.row RLiiiE true, .row Rii true]
abbrev race_Medals_X : Type := DLiiiE × Dii × Unit
abbrev race_Medals_R : Type := List Di × Int
def race_Medals_enc (r : race_Medals_R) : LV × List Ob := (.tup [.fz Ri r.1, .int .i64 r.2], [])
def race_Medals_sp (F : race_Medals_X → Option race_Medals_R) : Go.Tx.Spec := ⟨30, race_Medals_ps, race_Medals_R, F, race_Medals_enc⟩
abbrev race_Medals_C : Type := (field_Order_X → Option field_Order_R) × Unit
def race_Medals_K (d : Nat) : race_Medals_C := (F_field_Order d, ())
def race_Medals_tab (C : race_Medals_C) : List Go.Tx.Spec := [field_Order_sp C.1]
abbrev race_Medals_Y0i : Type := List Diii × Int × Int
def race_Medals_S0i (v : race_Medals_Y0i) : St := ⟨[(0, .agg [.fz Riii v.1]), (1, .agg [.int .i64 v.2.1, .int .i64 v.2.2])], []⟩
abbrev race_Medals_Y0 : Type := List Diii × Int × Int
def race_Medals_S0 (v : race_Medals_Y0) : St := ⟨[(2, .ptr 0 0), (3, .ptr 1 0)], [.cells [.fz Riii v.1], .cells [.int .i64 v.2.1, .int .i64 v.2.2]]⟩
def race_Medals_r0 (C : race_Medals_C) (v : race_Medals_Y0i) : Dt race_Medals_Y0 := (Dt.ret (v.1, v.2.1, v.2.2))
theorem race_Medals_g0 (C : race_Medals_C) (v : race_Medals_Y0i) : treg tysT (orc (race_Medals_tab C)) 22 (regO (bodyOf f30) 0) false [(2, (.box [.val Riii])), (3, .any)] (race_Medals_S0i v) some = (race_Medals_r0 C v).eval fun y => some (race_Medals_S0 y) := by kernel_rfl
abbrev race_Medals_Y1 : Type := Int × List Di
def race_Medals_S1 (v : race_Medals_Y1) : St := ⟨[(6, .rs 0), (7, .int .i64 v.1)], [.rows Ri v.2]⟩
def race_Medals_r1 (C : race_Medals_C) (v : race_Medals_Y0) : Dt race_Medals_Y1 := (Dt.bnd (C.1 ((v.1, ()), (v.2.1, v.2.2, ()), ())) fun r1 => (Dt.ret (r1.2, r1.1)))
theorem race_Medals_g1 (C : race_Medals_C) (v : race_Medals_Y0) : treg tysT (orc (race_Medals_tab C)) 22 (regO (bodyOf f30) 1) false [(6, (.own Ri)), (7, .any)] (race_Medals_S0 v) some = (race_Medals_r1 C v).eval fun y => some (race_Medals_S1 y) := by kernel_rfl
abbrev race_Medals_Y2 : Type := Int × Bool × List Di
def race_Medals_S2 (v : race_Medals_Y2) : St := ⟨[(6, .rs 0), (7, .int .i64 v.1), (15, .bool v.2.1)], [.rows Ri v.2.2]⟩
def race_Medals_r2 (C : race_Medals_C) (v : race_Medals_Y1) : Dt race_Medals_Y2 := (Dt.ret (v.1, (v.1 != (0:Int)), v.2))
theorem race_Medals_g2 (C : race_Medals_C) (v : race_Medals_Y1) : treg tysT (orc (race_Medals_tab C)) 22 (regO (bodyOf f30) 2) false [(6, (.own Ri)), (7, .any), (15, .any)] (race_Medals_S1 v) some = (race_Medals_r2 C v).eval fun y => some (race_Medals_S2 y) := by kernel_rfl
abbrev race_Medals_Y3 : Type := List Di × Int
def race_Medals_S3 (v : race_Medals_Y3) : St := ⟨[(4, .fz Ri v.1), (5, .int .i64 v.2)], []⟩
def race_Medals_r3 (C : race_Medals_C) (v : race_Medals_Y2) : Dt race_Medals_Y3 := (Dt.ret (([] : List Di), v.1))
theorem race_Medals_g3 (C : race_Medals_C) (v : race_Medals_Y2) : treg tysT (orc (race_Medals_tab C)) 22 (regO (bodyOf f30) 3) false [(4, (.val Ri)), (5, .any)] (race_Medals_S2 v) some = (race_Medals_r3 C v).eval fun y => some (race_Medals_S3 y) := by kernel_rfl
def race_Medals_r4 (C : race_Medals_C) (v : race_Medals_Y2) : Dt race_Medals_Y3 := (Dt.ite (decide (0 ≤ (tmin (List.length v.2.2 : Int) (3:Int))) && decide ((tmin (List.length v.2.2 : Int) (3:Int)) ≤ (List.length v.2.2 : Int))) (Dt.ret ((List.take ((tmin (List.length v.2.2 : Int) (3:Int))).toNat v.2.2), (0:Int))) Dt.fail)
theorem race_Medals_g4 (C : race_Medals_C) (v : race_Medals_Y2) : treg tysT (orc (race_Medals_tab C)) 22 (regO (bodyOf f30) 4) false [(4, (.val Ri)), (5, .any)] (race_Medals_S2 v) some = (race_Medals_r4 C v).eval fun y => some (race_Medals_S3 y) := by kernel_rfl
def F_race_Medals (d : Nat) (x : race_Medals_X) : Option race_Medals_R :=
  (race_Medals_r0 (race_Medals_K d) (x.1.1, x.2.1.1, x.2.1.2.1)).eval fun y0 =>
  (race_Medals_r1 (race_Medals_K d) y0).eval fun y1 =>
  (race_Medals_r2 (race_Medals_K d) y1).eval fun y2 =>
  bif y2.2.1 then ((race_Medals_r3 (race_Medals_K d) y2).eval fun y3 =>
  some y3) else ((race_Medals_r4 (race_Medals_K d) y2).eval fun y4 =>
  some y4)
theorem race_Medals_cok (d : Nat) : COK prog (race_Medals_sp (F_race_Medals d)) := by
  have hm : prog.follows .mixedOrders = true := mixed
  have hT := tys
  have hC0 : OrcOK prog (orc (race_Medals_tab (race_Medals_K d))) := orc_ok (by
    intro S hS
    simp only [race_Medals_tab, List.mem_cons, List.not_mem_nil, or_false] at hS
    subst hS; exact field_Order_cok d)
  have hC : OrcOK prog (orc (race_Medals_tab (race_Medals_K d))) := hC0
  refine cok_of (c := bodyOf f30) (fn := f30) hT (by kernel_rfl) (by kernel_rfl) (by decide) fun x r h w0 φ0 Q hend => ?_
  replace h : F_race_Medals d x = some r := h
  unfold F_race_Medals at h
  show Run prog w0 φ0 22 (bodyOf f30) ⟨[(0, .agg [.fz Riii x.1.1]), (1, .agg [.int .i64 x.2.1.1, .int .i64 x.2.1.2.1])], []⟩ Q
  refine run_seq ?_
  refine run_reg hm hT hC (race_Medals_g0 (race_Medals_K d) (x.1.1, x.2.1.1, x.2.1.2.1)) h ?_
  intro y0 h
  refine cn_then ?_
  refine run_seq ?_
  refine run_reg hm hT hC (race_Medals_g1 (race_Medals_K d) y0) h ?_
  intro y1 h
  refine cn_then ?_
  refine run_seq ?_
  refine run_seq ?_
  refine run_reg hm hT hC (race_Medals_g2 (race_Medals_K d) y1) h ?_
  intro y2 h
  refine cn_then ?_
  refine run_cond (v := y2.2.1) (by kernel_rfl) h ?_ ?_
  ·
    intro h
    refine run_seq ?_
    refine run_reg hm hT hC (race_Medals_g3 (race_Medals_K d) y2) h ?_
    intro y3 h
    refine cn_then ?_
    refine run_ret ?_
    refine cn_then_ret ?_
    cases h
    exact (hend _ (by kernel_rfl)).2
  ·
    intro h
    refine run_skip ?_
    refine cn_then ?_
    refine run_seq ?_
    refine run_reg hm hT hC (race_Medals_g4 (race_Medals_K d) y2) h ?_
    intro y4 h
    refine cn_then ?_
    refine run_ret ?_
    cases h
    exact (hend _ (by kernel_rfl)).2
end Go.Proofs.Ytpojhcjdcbegiaa

namespace Go.Proofs.Ytpojhcjdcbegiaa
open Go Go.Tx Go.Proofs.Try
set_option maxRecDepth 100000
set_option maxHeartbeats 0
abbrev law24_at_ps : List Pk := [.row Ri false]
abbrev law24_at_X : Type := Di × Unit
abbrev law24_at_R : Type := Int × Int
def law24_at_enc (r : law24_at_R) : LV × List Ob := (.agg [.int .i64 r.1, .int .i64 r.2], [])
def law24_at_sp (F : law24_at_X → Option law24_at_R) : Go.Tx.Spec := ⟨26, law24_at_ps, law24_at_R, F, law24_at_enc⟩
abbrev law24_at_C : Type := Unit
def law24_at_K (_d : Nat) : law24_at_C := ()
def law24_at_tab (C : law24_at_C) : List Go.Tx.Spec := []
abbrev law24_at_Y0i : Type := Int
def law24_at_S0i (v : law24_at_Y0i) : St := ⟨[(0, .int .i64 v)], []⟩
abbrev law24_at_Y0 : Type := Int × Int × Int
def law24_at_S0 (v : law24_at_Y0) : St := ⟨[(0, .int .i64 v.1), (2, .ptr 0 0)], [.cells [.int .i64 v.2.1, .int .i64 v.2.2]]⟩
def law24_at_r0 (C : law24_at_C) (v : law24_at_Y0i) : Dt law24_at_Y0 := (Dt.ret (v, (0:Int), (0:Int)))
theorem law24_at_g0 (C : law24_at_C) (v : law24_at_Y0i) : treg tysT (orc (law24_at_tab C)) 5 (regO (bodyOf f26) 0) false [(0, .any), (2, .any)] (law24_at_S0i v) some = (law24_at_r0 C v).eval fun y => some (law24_at_S0 y) := by kernel_rfl
abbrev law24_at_Y1 : Type := Int × Int
def law24_at_S1 (v : law24_at_Y1) : St := ⟨[(2, .ptr 0 0)], [.cells [.int .i64 v.1, .int .i64 v.2]]⟩
def law24_at_r1 (C : law24_at_C) (v : law24_at_Y0) : Dt law24_at_Y1 := (Dt.ret (v.1, (1:Int)))
theorem law24_at_g1 (C : law24_at_C) (v : law24_at_Y0) : treg tysT (orc (law24_at_tab C)) 5 (regO (bodyOf f26) 1) false [(2, .any)] (law24_at_S0 v) some = (law24_at_r1 C v).eval fun y => some (law24_at_S1 y) := by kernel_rfl
def F_law24_at (d : Nat) (x : law24_at_X) : Option law24_at_R :=
  (law24_at_r0 (law24_at_K d) x.1.1).eval fun y0 =>
  (law24_at_r1 (law24_at_K d) y0).eval fun y1 =>
  some y1
theorem law24_at_cok (d : Nat) : COK prog (law24_at_sp (F_law24_at d)) := by
  have hm : prog.follows .mixedOrders = true := mixed
  have hT := tys
  have hC0 : OrcOK prog (orc (law24_at_tab (law24_at_K d))) := orc_ok (by
    intro S hS
    simp only [law24_at_tab, List.mem_cons, List.not_mem_nil, or_false] at hS
    all_goals first | cases hS | exact hS.elim)
  have hC : OrcOK prog (orc (law24_at_tab (law24_at_K d))) := hC0
  refine cok_of (c := bodyOf f26) (fn := f26) hT (by kernel_rfl) (by kernel_rfl) (by decide) fun x r h w0 φ0 Q hend => ?_
  replace h : F_law24_at d x = some r := h
  unfold F_law24_at at h
  show Run prog w0 φ0 5 (bodyOf f26) ⟨[(0, .int .i64 x.1.1)], []⟩ Q
  refine run_seq ?_
  refine run_reg hm hT hC (law24_at_g0 (law24_at_K d) x.1.1) h ?_
  intro y0 h
  refine cn_then ?_
  refine run_seq ?_
  refine run_reg hm hT hC (law24_at_g1 (law24_at_K d) y0) h ?_
  intro y1 h
  refine cn_then ?_
  refine run_ret ?_
  cases h
  exact (hend _ (by kernel_rfl)).2
abbrev law24_three_ps : List Pk := []
abbrev law24_three_X : Type := Unit
abbrev law24_three_R : Type := List Diii
def law24_three_enc (r : law24_three_R) : LV × List Ob := (.agg [.rs 0], [.rows Riii r])
def law24_three_sp (F : law24_three_X → Option law24_three_R) : Go.Tx.Spec := ⟨27, law24_three_ps, law24_three_R, F, law24_three_enc⟩
abbrev law24_three_C : Type := Unit
def law24_three_K (_d : Nat) : law24_three_C := ()
def law24_three_tab (C : law24_three_C) : List Go.Tx.Spec := []
abbrev law24_three_Y0i : Type := Unit
def law24_three_S0i (v : law24_three_Y0i) : St := ⟨[], []⟩
abbrev law24_three_Y0 : Type := List Diii
def law24_three_S0 (v : law24_three_Y0) : St := ⟨[(0, .ptr 0 0)], [.cells [.rs 1], .rows Riii v]⟩
def law24_three_r0 (C : law24_three_C) (v : law24_three_Y0i) : Dt law24_three_Y0 := (Dt.ret ([] : List Diii))
theorem law24_three_g0 (C : law24_three_C) (v : law24_three_Y0i) : treg tysT (orc (law24_three_tab C)) 6 (regO (bodyOf f27) 0) false [(0, (.box [.own Riii]))] (law24_three_S0i v) some = (law24_three_r0 C v).eval fun y => some (law24_three_S0 y) := by kernel_rfl
def law24_three_r1 (C : law24_three_C) (v : law24_three_Y0) : Dt law24_three_Y0 := (Dt.ret ([((1:Int), (0:Int), (2:Int), ()), ((2:Int), (6:Int), (-1:Int), ()), ((5:Int), (0:Int), (0:Int), ())] : List Diii))
theorem law24_three_g1 (C : law24_three_C) (v : law24_three_Y0) : treg tysT (orc (law24_three_tab C)) 6 (regO (bodyOf f27) 1) false [(0, (.box [.own Riii]))] (law24_three_S0 v) some = (law24_three_r1 C v).eval fun y => some (law24_three_S0 y) := by kernel_rfl
def F_law24_three (d : Nat) (x : law24_three_X) : Option law24_three_R :=
  (law24_three_r0 (law24_three_K d) ()).eval fun y0 =>
  (law24_three_r1 (law24_three_K d) y0).eval fun y1 =>
  some y1
theorem law24_three_cok (d : Nat) : COK prog (law24_three_sp (F_law24_three d)) := by
  have hm : prog.follows .mixedOrders = true := mixed
  have hT := tys
  have hC0 : OrcOK prog (orc (law24_three_tab (law24_three_K d))) := orc_ok (by
    intro S hS
    simp only [law24_three_tab, List.mem_cons, List.not_mem_nil, or_false] at hS
    all_goals first | cases hS | exact hS.elim)
  have hC : OrcOK prog (orc (law24_three_tab (law24_three_K d))) := hC0
  refine cok_of (c := bodyOf f27) (fn := f27) hT (by kernel_rfl) (by kernel_rfl) (by decide) fun x r h w0 φ0 Q hend => ?_
  replace h : F_law24_three d x = some r := h
  unfold F_law24_three at h
  show Run prog w0 φ0 6 (bodyOf f27) ⟨[], []⟩ Q
  refine run_seq ?_
  refine run_reg hm hT hC (law24_three_g0 (law24_three_K d) ()) h ?_
  intro y0 h
  refine cn_then ?_
  refine run_seq ?_
  refine run_reg hm hT hC (law24_three_g1 (law24_three_K d) y0) h ?_
  intro y1 h
  refine cn_then ?_
  refine run_ret ?_
  cases h
  exact (hend _ (by kernel_rfl)).2
abbrev ref24_Same_ps : List Pk := [.row RLiiiiiE false, .row RLiiiiiE false]
abbrev ref24_Same_X : Type := DLiiiiiE × DLiiiiiE × Unit
abbrev ref24_Same_R : Type := Bool
def ref24_Same_enc (r : ref24_Same_R) : LV × List Ob := (.bool r, [])
def ref24_Same_sp (F : ref24_Same_X → Option ref24_Same_R) : Go.Tx.Spec := ⟨33, ref24_Same_ps, ref24_Same_R, F, ref24_Same_enc⟩
abbrev ref24_Same_C : Type := Unit
def ref24_Same_K (_d : Nat) : ref24_Same_C := ()
def ref24_Same_tab (C : ref24_Same_C) : List Go.Tx.Spec := []
abbrev ref24_Same_Y0i : Type := List Diiiii × List Diiiii
def ref24_Same_S0i (v : ref24_Same_Y0i) : St := ⟨[(0, .fz Riiiii v.1), (1, .fz Riiiii v.2)], []⟩
def ref24_Same_r0 (C : ref24_Same_C) (v : ref24_Same_Y0i) : Dt ref24_Same_Y0i := (Dt.ret (v.1, v.2))
theorem ref24_Same_g0 (C : ref24_Same_C) (v : ref24_Same_Y0i) : treg tysT (orc (ref24_Same_tab C)) 26 (regO (bodyOf f33) 0) false [(0, (.val Riiiii)), (1, (.val Riiiii))] (ref24_Same_S0i v) some = (ref24_Same_r0 C v).eval fun y => some (ref24_Same_S0i y) := by kernel_rfl
abbrev ref24_Same_Y1 : Type := List Diiiii × List Diiiii × Bool
def ref24_Same_S1 (v : ref24_Same_Y1) : St := ⟨[(0, .fz Riiiii v.1), (1, .fz Riiiii v.2.1), (10, .bool v.2.2)], []⟩
def ref24_Same_r1 (C : ref24_Same_C) (v : ref24_Same_Y0i) : Dt ref24_Same_Y1 := (Dt.ret (v.1, v.2, ((List.length v.1 : Int) != (List.length v.2 : Int))))
theorem ref24_Same_g1 (C : ref24_Same_C) (v : ref24_Same_Y0i) : treg tysT (orc (ref24_Same_tab C)) 26 (regO (bodyOf f33) 1) false [(0, (.val Riiiii)), (1, (.val Riiiii)), (10, .any)] (ref24_Same_S0i v) some = (ref24_Same_r1 C v).eval fun y => some (ref24_Same_S1 y) := by kernel_rfl
abbrev ref24_Same_Y2 : Type := Bool
def ref24_Same_S2 (v : ref24_Same_Y2) : St := ⟨[(4, .bool v)], []⟩
def ref24_Same_r2 (C : ref24_Same_C) (v : ref24_Same_Y1) : Dt ref24_Same_Y2 := (Dt.ret false)
theorem ref24_Same_g2 (C : ref24_Same_C) (v : ref24_Same_Y1) : treg tysT (orc (ref24_Same_tab C)) 26 (regO (bodyOf f33) 2) false [(4, .any)] (ref24_Same_S1 v) some = (ref24_Same_r2 C v).eval fun y => some (ref24_Same_S2 y) := by kernel_rfl
abbrev ref24_Same_Y3 : Type := List Diiiii × List Diiiii × Int
def ref24_Same_S3 (v : ref24_Same_Y3) : St := ⟨[(0, .fz Riiiii v.1), (1, .fz Riiiii v.2.1), (5, .int .i64 v.2.2)], []⟩
def ref24_Same_r3 (C : ref24_Same_C) (v : ref24_Same_Y1) : Dt ref24_Same_Y3 := (Dt.ret (v.1, v.2.1, (0:Int)))
theorem ref24_Same_g3 (C : ref24_Same_C) (v : ref24_Same_Y1) : treg tysT (orc (ref24_Same_tab C)) 26 (regO (bodyOf f33) 3) false [(0, (.val Riiiii)), (1, (.val Riiiii)), (5, .any)] (ref24_Same_S1 v) some = (ref24_Same_r3 C v).eval fun y => some (ref24_Same_S3 y) := by kernel_rfl
abbrev ref24_Same_Y4 : Type := List Diiiii × List Diiiii × Int × Bool
def ref24_Same_S4 (v : ref24_Same_Y4) : St := ⟨[(0, .fz Riiiii v.1), (1, .fz Riiiii v.2.1), (5, .int .i64 v.2.2.1), (14, .bool v.2.2.2)], []⟩
def ref24_Same_r4 (C : ref24_Same_C) (v : ref24_Same_Y3) : Dt ref24_Same_Y4 := (Dt.ret (v.1, v.2.1, v.2.2, (decide (v.2.2 < (List.length v.1 : Int)))))
theorem ref24_Same_g4 (C : ref24_Same_C) (v : ref24_Same_Y3) : treg tysT (orc (ref24_Same_tab C)) 26 (regO (bodyOf f33) 4) false [(0, (.val Riiiii)), (1, (.val Riiiii)), (5, .any), (14, .any)] (ref24_Same_S3 v) some = (ref24_Same_r4 C v).eval fun y => some (ref24_Same_S4 y) := by kernel_rfl
abbrev ref24_Same_Y6 : Type := List Diiiii × List Diiiii × Int × Bool
def ref24_Same_S6 (v : ref24_Same_Y6) : St := ⟨[(0, .fz Riiiii v.1), (1, .fz Riiiii v.2.1), (5, .int .i64 v.2.2.1), (25, .bool v.2.2.2)], []⟩
def ref24_Same_r6 (C : ref24_Same_C) (v : ref24_Same_Y4) : Dt ref24_Same_Y6 := (Dt.ite (inB v.2.2.1 (List.length v.1)) (Dt.ite (inB v.2.2.1 (List.length v.2.1)) (Dt.ret (v.1, v.2.1, v.2.2.1, (!(((elt ziiiii v.1 (v.2.2.1).toNat).1 == (elt ziiiii v.2.1 (v.2.2.1).toNat).1) && (((elt ziiiii v.1 (v.2.2.1).toNat).2.1 == (elt ziiiii v.2.1 (v.2.2.1).toNat).2.1) && (((elt ziiiii v.1 (v.2.2.1).toNat).2.2.1 == (elt ziiiii v.2.1 (v.2.2.1).toNat).2.2.1) && (((elt ziiiii v.1 (v.2.2.1).toNat).2.2.2.1 == (elt ziiiii v.2.1 (v.2.2.1).toNat).2.2.2.1) && (((elt ziiiii v.1 (v.2.2.1).toNat).2.2.2.2.1 == (elt ziiiii v.2.1 (v.2.2.1).toNat).2.2.2.2.1) && true)))))))) Dt.fail) Dt.fail)
theorem ref24_Same_g6 (C : ref24_Same_C) (v : ref24_Same_Y4) : treg tysT (orc (ref24_Same_tab C)) 26 (regO (bodyOf f33) 6) true [(0, (.val Riiiii)), (1, (.val Riiiii)), (5, .any), (25, .any)] (ref24_Same_S4 v) some = (ref24_Same_r6 C v).eval fun y => some (ref24_Same_S6 y) := by kernel_rfl
def ref24_Same_r7 (C : ref24_Same_C) (v : ref24_Same_Y6) : Dt ref24_Same_Y2 := (Dt.ret false)
theorem ref24_Same_g7 (C : ref24_Same_C) (v : ref24_Same_Y6) : treg tysT (orc (ref24_Same_tab C)) 26 (regO (bodyOf f33) 7) false [(4, .any)] (ref24_Same_S6 v) some = (ref24_Same_r7 C v).eval fun y => some (ref24_Same_S2 y) := by kernel_rfl
def ref24_Same_r5 (C : ref24_Same_C) (v : ref24_Same_Y6) : Dt ref24_Same_Y3 := (Dt.ret (v.1, v.2.1, (IntKind.wrap .i64 (v.2.2.1 + (1:Int)))))
theorem ref24_Same_g5 (C : ref24_Same_C) (v : ref24_Same_Y6) : treg tysT (orc (ref24_Same_tab C)) 26 (regO (bodyOf f33) 5) false [(0, (.val Riiiii)), (1, (.val Riiiii)), (5, .any)] (ref24_Same_S6 v) some = (ref24_Same_r5 C v).eval fun y => some (ref24_Same_S3 y) := by kernel_rfl
def ref24_Same_r8 (C : ref24_Same_C) (v : ref24_Same_Y4) : Dt ref24_Same_Y2 := (Dt.ret true)
theorem ref24_Same_g8 (C : ref24_Same_C) (v : ref24_Same_Y4) : treg tysT (orc (ref24_Same_tab C)) 26 (regO (bodyOf f33) 8) false [(4, .any)] (ref24_Same_S4 v) some = (ref24_Same_r8 C v).eval fun y => some (ref24_Same_S2 y) := by kernel_rfl
def ref24_Same_L1 (d : Nat) (self1 : (List Diiiii × List Diiiii × Int) → Option ref24_Same_R) (x1 : List Diiiii × List Diiiii × Int) : Option ref24_Same_R :=
  (ref24_Same_r4 (ref24_Same_K d) x1).eval fun y4 =>
  bif y4.2.2.2 then ((ref24_Same_r6 (ref24_Same_K d) y4).eval fun y6 =>
  bif y6.2.2.2 then ((ref24_Same_r7 (ref24_Same_K d) y6).eval fun y7 =>
  some y7) else ((ref24_Same_r5 (ref24_Same_K d) y6).eval fun y5 =>
  self1 y5)) else ((ref24_Same_r8 (ref24_Same_K d) y4).eval fun y8 =>
  some y8)
def F_ref24_Same (d : Nat) (x : ref24_Same_X) : Option ref24_Same_R :=
  (ref24_Same_r0 (ref24_Same_K d) (x.1.1, x.2.1.1)).eval fun y0 =>
  (ref24_Same_r1 (ref24_Same_K d) y0).eval fun y1 =>
  bif y1.2.2 then ((ref24_Same_r2 (ref24_Same_K d) y1).eval fun y2 =>
  some y2) else ((ref24_Same_r3 (ref24_Same_K d) y1).eval fun y3 =>
  iter (ref24_Same_L1 d ) d y3)
theorem ref24_Same_cok (d : Nat) : COK prog (ref24_Same_sp (F_ref24_Same d)) := by
  have hm : prog.follows .mixedOrders = true := mixed
  have hT := tys
  have hC0 : OrcOK prog (orc (ref24_Same_tab (ref24_Same_K d))) := orc_ok (by
    intro S hS
    simp only [ref24_Same_tab, List.mem_cons, List.not_mem_nil, or_false] at hS
    all_goals first | cases hS | exact hS.elim)
  have hC : OrcOK prog (orc (ref24_Same_tab (ref24_Same_K d))) := hC0
  refine cok_of (c := bodyOf f33) (fn := f33) hT (by kernel_rfl) (by kernel_rfl) (by decide) fun x r h w0 φ0 Q hend => ?_
  replace h : F_ref24_Same d x = some r := h
  unfold F_ref24_Same at h
  show Run prog w0 φ0 26 (bodyOf f33) ⟨[(0, .fz Riiiii x.1.1), (1, .fz Riiiii x.2.1.1)], []⟩ Q
  refine run_seq ?_
  refine run_reg hm hT hC (ref24_Same_g0 (ref24_Same_K d) (x.1.1, x.2.1.1)) h ?_
  intro y0 h
  refine cn_then ?_
  refine run_seq ?_
  refine run_seq ?_
  refine run_reg hm hT hC (ref24_Same_g1 (ref24_Same_K d) y0) h ?_
  intro y1 h
  refine cn_then ?_
  refine run_cond (v := y1.2.2) (by kernel_rfl) h ?_ ?_
  ·
    intro h
    refine run_seq ?_
    refine run_reg hm hT hC (ref24_Same_g2 (ref24_Same_K d) y1) h ?_
    intro y2 h
    refine cn_then ?_
    refine run_ret ?_
    refine cn_then_ret ?_
    cases h
    exact (hend _ (by kernel_rfl)).2
  ·
    intro h
    refine run_skip ?_
    refine cn_then ?_
    refine run_seq ?_
    refine run_seq ?_
    refine run_reg hm hT hC (ref24_Same_g3 (ref24_Same_K d) y1) h ?_
    intro y3 h
    refine cn_then ?_
    refine run_block ?_
    refine run_loop (G := iter (ref24_Same_L1 d )) (S := (fun x1 => ⟨[(0, .fz Riiiii x1.1), (1, .fz Riiiii x1.2.1), (5, .int .i64 x1.2.2)], []⟩ : List Diiiii × List Diiiii × Int → St)) (fun _ => rfl) ?_ d _ h
    intro n1 x1 h K1 hn1
    replace h : ref24_Same_L1 d  (iter (ref24_Same_L1 d ) n1) x1 = some r := h
    generalize iter (ref24_Same_L1 d ) n1 = self1 at h hn1
    unfold ref24_Same_L1 at h
    refine run_seq ?_
    refine run_seq ?_
    refine run_reg hm hT hC (ref24_Same_g4 (ref24_Same_K d) x1) h ?_
    intro y4 h
    refine cn_then ?_
    refine run_cond (v := y4.2.2.2) (by kernel_rfl) h ?_ ?_
    ·
      intro h
      refine run_skip ?_
      refine cn_then ?_
      refine run_seq ?_
      refine run_block ?_
      refine run_seq ?_
      refine run_reg hm hT hC (ref24_Same_g6 (ref24_Same_K d) y4) h ?_
      intro y6 h
      refine cn_then ?_
      refine run_cond (v := y6.2.2.2) (by kernel_rfl) h ?_ ?_
      ·
        intro h
        refine run_seq ?_
        refine run_reg hm hT hC (ref24_Same_g7 (ref24_Same_K d) y6) h ?_
        intro y7 h
        refine cn_then ?_
        refine run_ret ?_
        refine cn_blk_ret ?_
        refine cn_then_ret ?_
        refine cn_then_ret ?_
        refine cn_blk_ret ?_
        refine cn_then_ret ?_
        cases h
        exact (hend _ (by kernel_rfl)).2
      ·
        intro h
        refine run_skip ?_
        refine cn_blk ?_
        refine cn_then ?_
        refine run_reg hm hT hC (ref24_Same_g5 (ref24_Same_K d) y6) h ?_
        intro y5 h
        exact hn1 _ h
    ·
      intro h
      refine run_exit ?_
      refine cn_then_exit ?_
      refine cn_then_exit ?_
      refine cn_blk_eq ?_
      refine cn_then ?_
      refine run_seq ?_
      refine run_reg hm hT hC (ref24_Same_g8 (ref24_Same_K d) y4) h ?_
      intro y8 h
      refine cn_then ?_
      refine run_ret ?_
      cases h
      exact (hend _ (by kernel_rfl)).2
abbrev ref03_SameIDs_ps : List Pk := [.row RLiE false, .row RLiE false]
abbrev ref03_SameIDs_X : Type := DLiE × DLiE × Unit
abbrev ref03_SameIDs_R : Type := Bool
def ref03_SameIDs_enc (r : ref03_SameIDs_R) : LV × List Ob := (.bool r, [])
def ref03_SameIDs_sp (F : ref03_SameIDs_X → Option ref03_SameIDs_R) : Go.Tx.Spec := ⟨24, ref03_SameIDs_ps, ref03_SameIDs_R, F, ref03_SameIDs_enc⟩
abbrev ref03_SameIDs_C : Type := Unit
def ref03_SameIDs_K (_d : Nat) : ref03_SameIDs_C := ()
def ref03_SameIDs_tab (C : ref03_SameIDs_C) : List Go.Tx.Spec := []
abbrev ref03_SameIDs_Y0i : Type := List Di × List Di
def ref03_SameIDs_S0i (v : ref03_SameIDs_Y0i) : St := ⟨[(0, .fz Ri v.1), (1, .fz Ri v.2)], []⟩
def ref03_SameIDs_r0 (C : ref03_SameIDs_C) (v : ref03_SameIDs_Y0i) : Dt ref03_SameIDs_Y0i := (Dt.ret (v.1, v.2))
theorem ref03_SameIDs_g0 (C : ref03_SameIDs_C) (v : ref03_SameIDs_Y0i) : treg tysT (orc (ref03_SameIDs_tab C)) 26 (regO (bodyOf f24) 0) false [(0, (.val Ri)), (1, (.val Ri))] (ref03_SameIDs_S0i v) some = (ref03_SameIDs_r0 C v).eval fun y => some (ref03_SameIDs_S0i y) := by kernel_rfl
abbrev ref03_SameIDs_Y1 : Type := List Di × List Di × Bool
def ref03_SameIDs_S1 (v : ref03_SameIDs_Y1) : St := ⟨[(0, .fz Ri v.1), (1, .fz Ri v.2.1), (10, .bool v.2.2)], []⟩
def ref03_SameIDs_r1 (C : ref03_SameIDs_C) (v : ref03_SameIDs_Y0i) : Dt ref03_SameIDs_Y1 := (Dt.ret (v.1, v.2, ((List.length v.1 : Int) != (List.length v.2 : Int))))
theorem ref03_SameIDs_g1 (C : ref03_SameIDs_C) (v : ref03_SameIDs_Y0i) : treg tysT (orc (ref03_SameIDs_tab C)) 26 (regO (bodyOf f24) 1) false [(0, (.val Ri)), (1, (.val Ri)), (10, .any)] (ref03_SameIDs_S0i v) some = (ref03_SameIDs_r1 C v).eval fun y => some (ref03_SameIDs_S1 y) := by kernel_rfl
abbrev ref03_SameIDs_Y2 : Type := Bool
def ref03_SameIDs_S2 (v : ref03_SameIDs_Y2) : St := ⟨[(4, .bool v)], []⟩
def ref03_SameIDs_r2 (C : ref03_SameIDs_C) (v : ref03_SameIDs_Y1) : Dt ref03_SameIDs_Y2 := (Dt.ret false)
theorem ref03_SameIDs_g2 (C : ref03_SameIDs_C) (v : ref03_SameIDs_Y1) : treg tysT (orc (ref03_SameIDs_tab C)) 26 (regO (bodyOf f24) 2) false [(4, .any)] (ref03_SameIDs_S1 v) some = (ref03_SameIDs_r2 C v).eval fun y => some (ref03_SameIDs_S2 y) := by kernel_rfl
abbrev ref03_SameIDs_Y3 : Type := List Di × List Di × Int
def ref03_SameIDs_S3 (v : ref03_SameIDs_Y3) : St := ⟨[(0, .fz Ri v.1), (1, .fz Ri v.2.1), (5, .int .i64 v.2.2)], []⟩
def ref03_SameIDs_r3 (C : ref03_SameIDs_C) (v : ref03_SameIDs_Y1) : Dt ref03_SameIDs_Y3 := (Dt.ret (v.1, v.2.1, (0:Int)))
theorem ref03_SameIDs_g3 (C : ref03_SameIDs_C) (v : ref03_SameIDs_Y1) : treg tysT (orc (ref03_SameIDs_tab C)) 26 (regO (bodyOf f24) 3) false [(0, (.val Ri)), (1, (.val Ri)), (5, .any)] (ref03_SameIDs_S1 v) some = (ref03_SameIDs_r3 C v).eval fun y => some (ref03_SameIDs_S3 y) := by kernel_rfl
abbrev ref03_SameIDs_Y4 : Type := List Di × List Di × Int × Bool
def ref03_SameIDs_S4 (v : ref03_SameIDs_Y4) : St := ⟨[(0, .fz Ri v.1), (1, .fz Ri v.2.1), (5, .int .i64 v.2.2.1), (14, .bool v.2.2.2)], []⟩
def ref03_SameIDs_r4 (C : ref03_SameIDs_C) (v : ref03_SameIDs_Y3) : Dt ref03_SameIDs_Y4 := (Dt.ret (v.1, v.2.1, v.2.2, (decide (v.2.2 < (List.length v.1 : Int)))))
theorem ref03_SameIDs_g4 (C : ref03_SameIDs_C) (v : ref03_SameIDs_Y3) : treg tysT (orc (ref03_SameIDs_tab C)) 26 (regO (bodyOf f24) 4) false [(0, (.val Ri)), (1, (.val Ri)), (5, .any), (14, .any)] (ref03_SameIDs_S3 v) some = (ref03_SameIDs_r4 C v).eval fun y => some (ref03_SameIDs_S4 y) := by kernel_rfl
abbrev ref03_SameIDs_Y6 : Type := List Di × List Di × Int × Bool
def ref03_SameIDs_S6 (v : ref03_SameIDs_Y6) : St := ⟨[(0, .fz Ri v.1), (1, .fz Ri v.2.1), (5, .int .i64 v.2.2.1), (25, .bool v.2.2.2)], []⟩
def ref03_SameIDs_r6 (C : ref03_SameIDs_C) (v : ref03_SameIDs_Y4) : Dt ref03_SameIDs_Y6 := (Dt.ite (inB v.2.2.1 (List.length v.1)) (Dt.ite (inB v.2.2.1 (List.length v.2.1)) (Dt.ret (v.1, v.2.1, v.2.2.1, ((elt zi v.1 (v.2.2.1).toNat).1 != (elt zi v.2.1 (v.2.2.1).toNat).1))) Dt.fail) Dt.fail)
theorem ref03_SameIDs_g6 (C : ref03_SameIDs_C) (v : ref03_SameIDs_Y4) : treg tysT (orc (ref03_SameIDs_tab C)) 26 (regO (bodyOf f24) 6) true [(0, (.val Ri)), (1, (.val Ri)), (5, .any), (25, .any)] (ref03_SameIDs_S4 v) some = (ref03_SameIDs_r6 C v).eval fun y => some (ref03_SameIDs_S6 y) := by kernel_rfl
def ref03_SameIDs_r7 (C : ref03_SameIDs_C) (v : ref03_SameIDs_Y6) : Dt ref03_SameIDs_Y2 := (Dt.ret false)
theorem ref03_SameIDs_g7 (C : ref03_SameIDs_C) (v : ref03_SameIDs_Y6) : treg tysT (orc (ref03_SameIDs_tab C)) 26 (regO (bodyOf f24) 7) false [(4, .any)] (ref03_SameIDs_S6 v) some = (ref03_SameIDs_r7 C v).eval fun y => some (ref03_SameIDs_S2 y) := by kernel_rfl
def ref03_SameIDs_r5 (C : ref03_SameIDs_C) (v : ref03_SameIDs_Y6) : Dt ref03_SameIDs_Y3 := (Dt.ret (v.1, v.2.1, (IntKind.wrap .i64 (v.2.2.1 + (1:Int)))))
theorem ref03_SameIDs_g5 (C : ref03_SameIDs_C) (v : ref03_SameIDs_Y6) : treg tysT (orc (ref03_SameIDs_tab C)) 26 (regO (bodyOf f24) 5) false [(0, (.val Ri)), (1, (.val Ri)), (5, .any)] (ref03_SameIDs_S6 v) some = (ref03_SameIDs_r5 C v).eval fun y => some (ref03_SameIDs_S3 y) := by kernel_rfl
def ref03_SameIDs_r8 (C : ref03_SameIDs_C) (v : ref03_SameIDs_Y4) : Dt ref03_SameIDs_Y2 := (Dt.ret true)
theorem ref03_SameIDs_g8 (C : ref03_SameIDs_C) (v : ref03_SameIDs_Y4) : treg tysT (orc (ref03_SameIDs_tab C)) 26 (regO (bodyOf f24) 8) false [(4, .any)] (ref03_SameIDs_S4 v) some = (ref03_SameIDs_r8 C v).eval fun y => some (ref03_SameIDs_S2 y) := by kernel_rfl
def ref03_SameIDs_L1 (d : Nat) (self1 : (List Di × List Di × Int) → Option ref03_SameIDs_R) (x1 : List Di × List Di × Int) : Option ref03_SameIDs_R :=
  (ref03_SameIDs_r4 (ref03_SameIDs_K d) x1).eval fun y4 =>
  bif y4.2.2.2 then ((ref03_SameIDs_r6 (ref03_SameIDs_K d) y4).eval fun y6 =>
  bif y6.2.2.2 then ((ref03_SameIDs_r7 (ref03_SameIDs_K d) y6).eval fun y7 =>
  some y7) else ((ref03_SameIDs_r5 (ref03_SameIDs_K d) y6).eval fun y5 =>
  self1 y5)) else ((ref03_SameIDs_r8 (ref03_SameIDs_K d) y4).eval fun y8 =>
  some y8)
def F_ref03_SameIDs (d : Nat) (x : ref03_SameIDs_X) : Option ref03_SameIDs_R :=
  (ref03_SameIDs_r0 (ref03_SameIDs_K d) (x.1.1, x.2.1.1)).eval fun y0 =>
  (ref03_SameIDs_r1 (ref03_SameIDs_K d) y0).eval fun y1 =>
  bif y1.2.2 then ((ref03_SameIDs_r2 (ref03_SameIDs_K d) y1).eval fun y2 =>
  some y2) else ((ref03_SameIDs_r3 (ref03_SameIDs_K d) y1).eval fun y3 =>
  iter (ref03_SameIDs_L1 d ) d y3)
theorem ref03_SameIDs_cok (d : Nat) : COK prog (ref03_SameIDs_sp (F_ref03_SameIDs d)) := by
  have hm : prog.follows .mixedOrders = true := mixed
  have hT := tys
  have hC0 : OrcOK prog (orc (ref03_SameIDs_tab (ref03_SameIDs_K d))) := orc_ok (by
    intro S hS
    simp only [ref03_SameIDs_tab, List.mem_cons, List.not_mem_nil, or_false] at hS
    all_goals first | cases hS | exact hS.elim)
  have hC : OrcOK prog (orc (ref03_SameIDs_tab (ref03_SameIDs_K d))) := hC0
  refine cok_of (c := bodyOf f24) (fn := f24) hT (by kernel_rfl) (by kernel_rfl) (by decide) fun x r h w0 φ0 Q hend => ?_
  replace h : F_ref03_SameIDs d x = some r := h
  unfold F_ref03_SameIDs at h
  show Run prog w0 φ0 26 (bodyOf f24) ⟨[(0, .fz Ri x.1.1), (1, .fz Ri x.2.1.1)], []⟩ Q
  refine run_seq ?_
  refine run_reg hm hT hC (ref03_SameIDs_g0 (ref03_SameIDs_K d) (x.1.1, x.2.1.1)) h ?_
  intro y0 h
  refine cn_then ?_
  refine run_seq ?_
  refine run_seq ?_
  refine run_reg hm hT hC (ref03_SameIDs_g1 (ref03_SameIDs_K d) y0) h ?_
  intro y1 h
  refine cn_then ?_
  refine run_cond (v := y1.2.2) (by kernel_rfl) h ?_ ?_
  ·
    intro h
    refine run_seq ?_
    refine run_reg hm hT hC (ref03_SameIDs_g2 (ref03_SameIDs_K d) y1) h ?_
    intro y2 h
    refine cn_then ?_
    refine run_ret ?_
    refine cn_then_ret ?_
    cases h
    exact (hend _ (by kernel_rfl)).2
  ·
    intro h
    refine run_skip ?_
    refine cn_then ?_
    refine run_seq ?_
    refine run_seq ?_
    refine run_reg hm hT hC (ref03_SameIDs_g3 (ref03_SameIDs_K d) y1) h ?_
    intro y3 h
    refine cn_then ?_
    refine run_block ?_
    refine run_loop (G := iter (ref03_SameIDs_L1 d )) (S := (fun x1 => ⟨[(0, .fz Ri x1.1), (1, .fz Ri x1.2.1), (5, .int .i64 x1.2.2)], []⟩ : List Di × List Di × Int → St)) (fun _ => rfl) ?_ d _ h
    intro n1 x1 h K1 hn1
    replace h : ref03_SameIDs_L1 d  (iter (ref03_SameIDs_L1 d ) n1) x1 = some r := h
    generalize iter (ref03_SameIDs_L1 d ) n1 = self1 at h hn1
    unfold ref03_SameIDs_L1 at h
    refine run_seq ?_
    refine run_seq ?_
    refine run_reg hm hT hC (ref03_SameIDs_g4 (ref03_SameIDs_K d) x1) h ?_
    intro y4 h
    refine cn_then ?_
    refine run_cond (v := y4.2.2.2) (by kernel_rfl) h ?_ ?_
    ·
      intro h
      refine run_skip ?_
      refine cn_then ?_
      refine run_seq ?_
      refine run_block ?_
      refine run_seq ?_
      refine run_reg hm hT hC (ref03_SameIDs_g6 (ref03_SameIDs_K d) y4) h ?_
      intro y6 h
      refine cn_then ?_
      refine run_cond (v := y6.2.2.2) (by kernel_rfl) h ?_ ?_
      ·
        intro h
        refine run_seq ?_
        refine run_reg hm hT hC (ref03_SameIDs_g7 (ref03_SameIDs_K d) y6) h ?_
        intro y7 h
        refine cn_then ?_
        refine run_ret ?_
        refine cn_blk_ret ?_
        refine cn_then_ret ?_
        refine cn_then_ret ?_
        refine cn_blk_ret ?_
        refine cn_then_ret ?_
        cases h
        exact (hend _ (by kernel_rfl)).2
      ·
        intro h
        refine run_skip ?_
        refine cn_blk ?_
        refine cn_then ?_
        refine run_reg hm hT hC (ref03_SameIDs_g5 (ref03_SameIDs_K d) y6) h ?_
        intro y5 h
        exact hn1 _ h
    ·
      intro h
      refine run_exit ?_
      refine cn_then_exit ?_
      refine cn_then_exit ?_
      refine cn_blk_eq ?_
      refine cn_then ?_
      refine run_seq ?_
      refine run_reg hm hT hC (ref03_SameIDs_g8 (ref03_SameIDs_K d) y4) h ?_
      intro y8 h
      refine cn_then ?_
      refine run_ret ?_
      cases h
      exact (hend _ (by kernel_rfl)).2
abbrev law24_alive_ps : List Pk := []
abbrev law24_alive_X : Type := Unit
abbrev law24_alive_R : Type := Bool
def law24_alive_enc (r : law24_alive_R) : LV × List Ob := (.bool r, [])
def law24_alive_sp (F : law24_alive_X → Option law24_alive_R) : Go.Tx.Spec := ⟨32, law24_alive_ps, law24_alive_R, F, law24_alive_enc⟩
abbrev law24_alive_C : Type := (ref03_SameIDs_X → Option ref03_SameIDs_R) × (race_Reigns_X → Option race_Reigns_R) × (law24_at_X → Option law24_at_R) × (law24_three_X → Option law24_three_R) × (race_Laps_X → Option race_Laps_R) × (race_Time_X → Option race_Time_R) × (race_Medals_X → Option race_Medals_R) × (ref24_Same_X → Option ref24_Same_R) × Unit
def law24_alive_K (d : Nat) : law24_alive_C := (F_ref03_SameIDs d, F_race_Reigns d, F_law24_at d, F_law24_three d, F_race_Laps d, F_race_Time d, F_race_Medals d, F_ref24_Same d, ())
def law24_alive_tab (C : law24_alive_C) : List Go.Tx.Spec := [ref03_SameIDs_sp C.1, race_Reigns_sp C.2.1, law24_at_sp C.2.2.1, law24_three_sp C.2.2.2.1, race_Laps_sp C.2.2.2.2.1, race_Time_sp C.2.2.2.2.2.1, race_Medals_sp C.2.2.2.2.2.2.1, ref24_Same_sp C.2.2.2.2.2.2.2.1]
abbrev law24_alive_Y0i : Type := Unit
def law24_alive_S0i (v : law24_alive_Y0i) : St := ⟨[], []⟩
def law24_alive_r0 (C : law24_alive_C) (v : law24_alive_Y0i) : Dt law24_alive_Y0i := (Dt.ret ())
theorem law24_alive_g0 (C : law24_alive_C) (v : law24_alive_Y0i) : treg tysT (orc (law24_alive_tab C)) 129 (regO (bodyOf f32) 0) false [] (law24_alive_S0i v) some = (law24_alive_r0 C v).eval fun y => some (law24_alive_S0i y) := by kernel_rfl
abbrev law24_alive_Y1 : Type := Int × List Diiiii
def law24_alive_S1 (v : law24_alive_Y1) : St := ⟨[(1, .rs 0), (2, .int .i64 v.1)], [.rows Riiiii v.2]⟩
def law24_alive_r1 (C : law24_alive_C) (v : law24_alive_Y0i) : Dt law24_alive_Y1 := (Dt.bnd (C.2.2.2.1 (())) fun r1 => (Dt.bnd (C.2.2.1 (((0:Int), ()), ())) fun r2 => (Dt.bnd (C.2.2.1 (((3:Int), ()), ())) fun r3 => (Dt.bnd (C.2.1 ((r1, ()), (r2.1, r2.2, ()), (r3.1, r3.2, ()), ())) fun r4 => (Dt.ret (r4.2, r4.1))))))
theorem law24_alive_g1 (C : law24_alive_C) (v : law24_alive_Y0i) : treg tysT (orc (law24_alive_tab C)) 129 (regO (bodyOf f32) 1) false [(1, (.own Riiiii)), (2, .any)] (law24_alive_S0i v) some = (law24_alive_r1 C v).eval fun y => some (law24_alive_S1 y) := by kernel_rfl
abbrev law24_alive_Y2 : Type := Int × Int × Int × List Diiiii
def law24_alive_S2 (v : law24_alive_Y2) : St := ⟨[(1, .rs 0), (2, .int .i64 v.1), (3, .int .i64 v.2.1), (4, .int .i64 v.2.2.1)], [.rows Riiiii v.2.2.2]⟩
def law24_alive_r2 (C : law24_alive_C) (v : law24_alive_Y1) : Dt law24_alive_Y2 := (Dt.bnd (C.2.2.2.1 (())) fun r1 => (Dt.bnd (C.2.2.1 (((0:Int), ()), ())) fun r2 => (Dt.bnd (C.2.2.1 (((3:Int), ()), ())) fun r3 => (Dt.bnd (C.2.2.2.2.1 ((r1, ()), (r2.1, r2.2, ()), (r3.1, r3.2, ()), ())) fun r4 => (Dt.ret (v.1, r4.1, r4.2, v.2))))))
theorem law24_alive_g2 (C : law24_alive_C) (v : law24_alive_Y1) : treg tysT (orc (law24_alive_tab C)) 129 (regO (bodyOf f32) 2) false [(1, (.own Riiiii)), (2, .any), (3, .any), (4, .any)] (law24_alive_S1 v) some = (law24_alive_r2 C v).eval fun y => some (law24_alive_S2 y) := by kernel_rfl
abbrev law24_alive_Y3 : Type := Int × Int × Int × Int × List Diiiii × Int × Int
def law24_alive_S3 (v : law24_alive_Y3) : St := ⟨[(1, .rs 0), (2, .int .i64 v.1), (3, .int .i64 v.2.1), (4, .int .i64 v.2.2.1), (5, .ptr 1 0), (6, .int .i64 v.2.2.2.1)], [.rows Riiiii v.2.2.2.2.1, .cells [.int .i64 v.2.2.2.2.2.1, .int .i64 v.2.2.2.2.2.2]]⟩
def law24_alive_r3 (C : law24_alive_C) (v : law24_alive_Y2) : Dt law24_alive_Y3 := (Dt.bnd (C.2.2.2.1 (())) fun r1 => (Dt.bnd (C.2.2.1 (((0:Int), ()), ())) fun r2 => (Dt.bnd (C.2.2.1 (((3:Int), ()), ())) fun r3 => (Dt.bnd (C.2.2.2.2.2.1 ((r1, ()), ((1:Int), ()), (r2.1, r2.2, ()), (r3.1, r3.2, ()), ())) fun r4 => (Dt.ret (v.1, v.2.1, v.2.2.1, r4.2.2, v.2.2.2, r4.1, r4.2.1))))))
theorem law24_alive_g3 (C : law24_alive_C) (v : law24_alive_Y2) : treg tysT (orc (law24_alive_tab C)) 129 (regO (bodyOf f32) 3) false [(1, (.own Riiiii)), (2, .any), (3, .any), (4, .any), (5, .any), (6, .any)] (law24_alive_S2 v) some = (law24_alive_r3 C v).eval fun y => some (law24_alive_S3 y) := by kernel_rfl
abbrev law24_alive_Y4 : Type := Int × Int × Int × Int × Int × List Diiiii × Int × Int × Int × Int
def law24_alive_S4 (v : law24_alive_Y4) : St := ⟨[(1, .rs 0), (2, .int .i64 v.1), (3, .int .i64 v.2.1), (4, .int .i64 v.2.2.1), (5, .ptr 1 0), (6, .int .i64 v.2.2.2.1), (7, .ptr 2 0), (8, .int .i64 v.2.2.2.2.1)], [.rows Riiiii v.2.2.2.2.2.1, .cells [.int .i64 v.2.2.2.2.2.2.1, .int .i64 v.2.2.2.2.2.2.2.1], .cells [.int .i64 v.2.2.2.2.2.2.2.2.1, .int .i64 v.2.2.2.2.2.2.2.2.2]]⟩
def law24_alive_r4 (C : law24_alive_C) (v : law24_alive_Y3) : Dt law24_alive_Y4 := (Dt.bnd (C.2.2.2.1 (())) fun r1 => (Dt.bnd (C.2.2.1 (((0:Int), ()), ())) fun r2 => (Dt.bnd (C.2.2.1 (((3:Int), ()), ())) fun r3 => (Dt.bnd (C.2.2.2.2.2.1 ((r1, ()), ((5:Int), ()), (r2.1, r2.2, ()), (r3.1, r3.2, ()), ())) fun r4 => (Dt.ret (v.1, v.2.1, v.2.2.1, v.2.2.2.1, r4.2.2, v.2.2.2.2.1, v.2.2.2.2.2.1, v.2.2.2.2.2.2, r4.1, r4.2.1))))))
theorem law24_alive_g4 (C : law24_alive_C) (v : law24_alive_Y3) : treg tysT (orc (law24_alive_tab C)) 129 (regO (bodyOf f32) 4) false [(1, (.own Riiiii)), (2, .any), (3, .any), (4, .any), (5, .any), (6, .any), (7, .any), (8, .any)] (law24_alive_S3 v) some = (law24_alive_r4 C v).eval fun y => some (law24_alive_S4 y) := by kernel_rfl
abbrev law24_alive_Y5 : Type := Int × Int × Int × Int × Int × Int × List Diiiii × Int × Int × Int × Int × List Diiiii
def law24_alive_S5 (v : law24_alive_Y5) : St := ⟨[(1, .rs 0), (2, .int .i64 v.1), (3, .int .i64 v.2.1), (4, .int .i64 v.2.2.1), (5, .ptr 1 0), (6, .int .i64 v.2.2.2.1), (7, .ptr 2 0), (8, .int .i64 v.2.2.2.2.1), (9, .rs 3), (10, .int .i64 v.2.2.2.2.2.1)], [.rows Riiiii v.2.2.2.2.2.2.1, .cells [.int .i64 v.2.2.2.2.2.2.2.1, .int .i64 v.2.2.2.2.2.2.2.2.1], .cells [.int .i64 v.2.2.2.2.2.2.2.2.2.1, .int .i64 v.2.2.2.2.2.2.2.2.2.2.1], .rows Riiiii v.2.2.2.2.2.2.2.2.2.2.2]⟩
def law24_alive_r5 (C : law24_alive_C) (v : law24_alive_Y4) : Dt law24_alive_Y5 := (Dt.bnd (C.2.2.2.1 (())) fun r1 => (Dt.bnd (C.2.2.1 (((0:Int), ()), ())) fun r2 => (Dt.bnd (C.2.2.1 (((2:Int), ()), ())) fun r3 => (Dt.bnd (C.2.1 ((r1, ()), (r2.1, r2.2, ()), (r3.1, r3.2, ()), ())) fun r4 => (Dt.ret (v.1, v.2.1, v.2.2.1, v.2.2.2.1, v.2.2.2.2.1, r4.2, v.2.2.2.2.2.1, v.2.2.2.2.2.2.1, v.2.2.2.2.2.2.2.1, v.2.2.2.2.2.2.2.2.1, v.2.2.2.2.2.2.2.2.2, r4.1))))))
theorem law24_alive_g5 (C : law24_alive_C) (v : law24_alive_Y4) : treg tysT (orc (law24_alive_tab C)) 129 (regO (bodyOf f32) 5) false [(1, (.own Riiiii)), (2, .any), (3, .any), (4, .any), (5, .any), (6, .any), (7, .any), (8, .any), (9, (.own Riiiii)), (10, .any)] (law24_alive_S4 v) some = (law24_alive_r5 C v).eval fun y => some (law24_alive_S5 y) := by kernel_rfl
abbrev law24_alive_Y6 : Type := Int × Int × Int × Int × Int × Int × Int × Int × List Diiiii × Int × Int × Int × Int × List Diiiii
def law24_alive_S6 (v : law24_alive_Y6) : St := ⟨[(1, .rs 0), (2, .int .i64 v.1), (3, .int .i64 v.2.1), (4, .int .i64 v.2.2.1), (5, .ptr 1 0), (6, .int .i64 v.2.2.2.1), (7, .ptr 2 0), (8, .int .i64 v.2.2.2.2.1), (9, .rs 3), (10, .int .i64 v.2.2.2.2.2.1), (11, .int .i64 v.2.2.2.2.2.2.1), (12, .int .i64 v.2.2.2.2.2.2.2.1)], [.rows Riiiii v.2.2.2.2.2.2.2.2.1, .cells [.int .i64 v.2.2.2.2.2.2.2.2.2.1, .int .i64 v.2.2.2.2.2.2.2.2.2.2.1], .cells [.int .i64 v.2.2.2.2.2.2.2.2.2.2.2.1, .int .i64 v.2.2.2.2.2.2.2.2.2.2.2.2.1], .rows Riiiii v.2.2.2.2.2.2.2.2.2.2.2.2.2]⟩
def law24_alive_r6 (C : law24_alive_C) (v : law24_alive_Y5) : Dt law24_alive_Y6 := (Dt.bnd (C.2.2.2.1 (())) fun r1 => (Dt.bnd (C.2.2.1 (((0:Int), ()), ())) fun r2 => (Dt.bnd (C.2.2.1 (((2:Int), ()), ())) fun r3 => (Dt.bnd (C.2.2.2.2.1 ((r1, ()), (r2.1, r2.2, ()), (r3.1, r3.2, ()), ())) fun r4 => (Dt.ret (v.1, v.2.1, v.2.2.1, v.2.2.2.1, v.2.2.2.2.1, v.2.2.2.2.2.1, r4.1, r4.2, v.2.2.2.2.2.2.1, v.2.2.2.2.2.2.2.1, v.2.2.2.2.2.2.2.2.1, v.2.2.2.2.2.2.2.2.2.1, v.2.2.2.2.2.2.2.2.2.2.1, v.2.2.2.2.2.2.2.2.2.2.2))))))
theorem law24_alive_g6 (C : law24_alive_C) (v : law24_alive_Y5) : treg tysT (orc (law24_alive_tab C)) 129 (regO (bodyOf f32) 6) false [(1, (.own Riiiii)), (2, .any), (3, .any), (4, .any), (5, .any), (6, .any), (7, .any), (8, .any), (9, (.own Riiiii)), (10, .any), (11, .any), (12, .any)] (law24_alive_S5 v) some = (law24_alive_r6 C v).eval fun y => some (law24_alive_S6 y) := by kernel_rfl
abbrev law24_alive_Y7 : Type := Int × Int × Int × Int × Int × Int × Int × Int × List Di × Int × List Diiiii × Int × Int × Int × Int × List Diiiii
def law24_alive_S7 (v : law24_alive_Y7) : St := ⟨[(1, .rs 0), (2, .int .i64 v.1), (3, .int .i64 v.2.1), (4, .int .i64 v.2.2.1), (5, .ptr 1 0), (6, .int .i64 v.2.2.2.1), (7, .ptr 2 0), (8, .int .i64 v.2.2.2.2.1), (9, .rs 3), (10, .int .i64 v.2.2.2.2.2.1), (11, .int .i64 v.2.2.2.2.2.2.1), (12, .int .i64 v.2.2.2.2.2.2.2.1), (13, .fz Ri v.2.2.2.2.2.2.2.2.1), (14, .int .i64 v.2.2.2.2.2.2.2.2.2.1)], [.rows Riiiii v.2.2.2.2.2.2.2.2.2.2.1, .cells [.int .i64 v.2.2.2.2.2.2.2.2.2.2.2.1, .int .i64 v.2.2.2.2.2.2.2.2.2.2.2.2.1], .cells [.int .i64 v.2.2.2.2.2.2.2.2.2.2.2.2.2.1, .int .i64 v.2.2.2.2.2.2.2.2.2.2.2.2.2.2.1], .rows Riiiii v.2.2.2.2.2.2.2.2.2.2.2.2.2.2.2]⟩
def law24_alive_r7 (C : law24_alive_C) (v : law24_alive_Y6) : Dt law24_alive_Y7 := (Dt.bnd (C.2.2.2.1 (())) fun r1 => (Dt.bnd (C.2.2.1 (((2:Int), ()), ())) fun r2 => (Dt.bnd (C.2.2.2.2.2.2.1 ((r1, ()), (r2.1, r2.2, ()), ())) fun r3 => (Dt.ret (v.1, v.2.1, v.2.2.1, v.2.2.2.1, v.2.2.2.2.1, v.2.2.2.2.2.1, v.2.2.2.2.2.2.1, v.2.2.2.2.2.2.2.1, r3.1, r3.2, v.2.2.2.2.2.2.2.2.1, v.2.2.2.2.2.2.2.2.2.1, v.2.2.2.2.2.2.2.2.2.2.1, v.2.2.2.2.2.2.2.2.2.2.2.1, v.2.2.2.2.2.2.2.2.2.2.2.2.1, v.2.2.2.2.2.2.2.2.2.2.2.2.2)))))
theorem law24_alive_g7 (C : law24_alive_C) (v : law24_alive_Y6) : treg tysT (orc (law24_alive_tab C)) 129 (regO (bodyOf f32) 7) false [(1, (.own Riiiii)), (2, .any), (3, .any), (4, .any), (5, .any), (6, .any), (7, .any), (8, .any), (9, (.own Riiiii)), (10, .any), (11, .any), (12, .any), (13, (.val Ri)), (14, .any)] (law24_alive_S6 v) some = (law24_alive_r7 C v).eval fun y => some (law24_alive_S7 y) := by kernel_rfl
abbrev law24_alive_Y8 : Type := Int × Int × List Di × Bool × List Diiiii × Int × Int × Int × Int × List Diiiii
def law24_alive_S8 (v : law24_alive_Y8) : St := ⟨[(1, .rs 0), (3, .int .i64 v.1), (5, .ptr 1 0), (7, .ptr 2 0), (9, .rs 3), (11, .int .i64 v.2.1), (13, .fz Ri v.2.2.1), (88, .bool v.2.2.2.1)], [.rows Riiiii v.2.2.2.2.1, .cells [.int .i64 v.2.2.2.2.2.1, .int .i64 v.2.2.2.2.2.2.1], .cells [.int .i64 v.2.2.2.2.2.2.2.1, .int .i64 v.2.2.2.2.2.2.2.2.1], .rows Riiiii v.2.2.2.2.2.2.2.2.2]⟩
def law24_alive_r8 (C : law24_alive_C) (v : law24_alive_Y7) : Dt law24_alive_Y8 := (Dt.ite (v.1 != (0:Int)) (Dt.ret (v.2.1, v.2.2.2.2.2.2.1, v.2.2.2.2.2.2.2.2.1, true, v.2.2.2.2.2.2.2.2.2.2.1, v.2.2.2.2.2.2.2.2.2.2.2.1, v.2.2.2.2.2.2.2.2.2.2.2.2.1, v.2.2.2.2.2.2.2.2.2.2.2.2.2.1, v.2.2.2.2.2.2.2.2.2.2.2.2.2.2.1, v.2.2.2.2.2.2.2.2.2.2.2.2.2.2.2)) (Dt.ite (v.2.2.1 != (0:Int)) (Dt.ret (v.2.1, v.2.2.2.2.2.2.1, v.2.2.2.2.2.2.2.2.1, true, v.2.2.2.2.2.2.2.2.2.2.1, v.2.2.2.2.2.2.2.2.2.2.2.1, v.2.2.2.2.2.2.2.2.2.2.2.2.1, v.2.2.2.2.2.2.2.2.2.2.2.2.2.1, v.2.2.2.2.2.2.2.2.2.2.2.2.2.2.1, v.2.2.2.2.2.2.2.2.2.2.2.2.2.2.2)) (Dt.ite (v.2.2.2.1 != (0:Int)) (Dt.ret (v.2.1, v.2.2.2.2.2.2.1, v.2.2.2.2.2.2.2.2.1, true, v.2.2.2.2.2.2.2.2.2.2.1, v.2.2.2.2.2.2.2.2.2.2.2.1, v.2.2.2.2.2.2.2.2.2.2.2.2.1, v.2.2.2.2.2.2.2.2.2.2.2.2.2.1, v.2.2.2.2.2.2.2.2.2.2.2.2.2.2.1, v.2.2.2.2.2.2.2.2.2.2.2.2.2.2.2)) (Dt.ite (v.2.2.2.2.1 != (0:Int)) (Dt.ret (v.2.1, v.2.2.2.2.2.2.1, v.2.2.2.2.2.2.2.2.1, true, v.2.2.2.2.2.2.2.2.2.2.1, v.2.2.2.2.2.2.2.2.2.2.2.1, v.2.2.2.2.2.2.2.2.2.2.2.2.1, v.2.2.2.2.2.2.2.2.2.2.2.2.2.1, v.2.2.2.2.2.2.2.2.2.2.2.2.2.2.1, v.2.2.2.2.2.2.2.2.2.2.2.2.2.2.2)) (Dt.ite (v.2.2.2.2.2.1 != (0:Int)) (Dt.ret (v.2.1, v.2.2.2.2.2.2.1, v.2.2.2.2.2.2.2.2.1, true, v.2.2.2.2.2.2.2.2.2.2.1, v.2.2.2.2.2.2.2.2.2.2.2.1, v.2.2.2.2.2.2.2.2.2.2.2.2.1, v.2.2.2.2.2.2.2.2.2.2.2.2.2.1, v.2.2.2.2.2.2.2.2.2.2.2.2.2.2.1, v.2.2.2.2.2.2.2.2.2.2.2.2.2.2.2)) (Dt.ite (v.2.2.2.2.2.2.2.1 != (0:Int)) (Dt.ret (v.2.1, v.2.2.2.2.2.2.1, v.2.2.2.2.2.2.2.2.1, true, v.2.2.2.2.2.2.2.2.2.2.1, v.2.2.2.2.2.2.2.2.2.2.2.1, v.2.2.2.2.2.2.2.2.2.2.2.2.1, v.2.2.2.2.2.2.2.2.2.2.2.2.2.1, v.2.2.2.2.2.2.2.2.2.2.2.2.2.2.1, v.2.2.2.2.2.2.2.2.2.2.2.2.2.2.2)) (Dt.ret (v.2.1, v.2.2.2.2.2.2.1, v.2.2.2.2.2.2.2.2.1, (v.2.2.2.2.2.2.2.2.2.1 != (0:Int)), v.2.2.2.2.2.2.2.2.2.2.1, v.2.2.2.2.2.2.2.2.2.2.2.1, v.2.2.2.2.2.2.2.2.2.2.2.2.1, v.2.2.2.2.2.2.2.2.2.2.2.2.2.1, v.2.2.2.2.2.2.2.2.2.2.2.2.2.2.1, v.2.2.2.2.2.2.2.2.2.2.2.2.2.2.2))))))))
theorem law24_alive_g8 (C : law24_alive_C) (v : law24_alive_Y7) : treg tysT (orc (law24_alive_tab C)) 129 (regO (bodyOf f32) 8) false [(1, (.own Riiiii)), (3, .any), (5, .any), (7, .any), (9, (.own Riiiii)), (11, .any), (13, (.val Ri)), (88, .any)] (law24_alive_S7 v) some = (law24_alive_r8 C v).eval fun y => some (law24_alive_S8 y) := by kernel_rfl
abbrev law24_alive_Y9 : Type := Bool
def law24_alive_S9 (v : law24_alive_Y9) : St := ⟨[(0, .bool v)], []⟩
def law24_alive_r9 (C : law24_alive_C) (v : law24_alive_Y8) : Dt law24_alive_Y9 := (Dt.ret false)
theorem law24_alive_g9 (C : law24_alive_C) (v : law24_alive_Y8) : treg tysT (orc (law24_alive_tab C)) 129 (regO (bodyOf f32) 9) false [(0, .any)] (law24_alive_S8 v) some = (law24_alive_r9 C v).eval fun y => some (law24_alive_S9 y) := by kernel_rfl
def law24_alive_r10 (C : law24_alive_C) (v : law24_alive_Y8) : Dt law24_alive_Y9 := (Dt.bnd (C.2.2.1 (((0:Int), ()), ())) fun r1 => (Dt.bnd (C.2.2.1 (((2:Int), ()), ())) fun r2 => (Dt.bnd (C.2.2.1 (((2:Int), ()), ())) fun r3 => (Dt.bnd (C.2.2.1 (((3:Int), ()), ())) fun r4 => (Dt.bnd (C.2.2.2.2.2.2.2.1 ((v.2.2.2.2.1, ()), (([(r1.1, r1.2, r2.1, r2.2, (2:Int), ()), (r3.1, r3.2, r4.1, r4.2, (1:Int), ())] : List Diiiii), ()), ())) fun r5 => (Dt.ite r5 (Dt.ite (v.1 == (1:Int)) (Dt.bnd (C.2.2.1 (((1:Int), ()), ())) fun r6 => (Dt.ite ((v.2.2.2.2.2.1 == r6.1) && ((v.2.2.2.2.2.2.1 == r6.2) && true)) (Dt.bnd (C.2.2.1 (((0:Int), ()), ())) fun r7 => (Dt.ite ((v.2.2.2.2.2.2.2.1 == r7.1) && ((v.2.2.2.2.2.2.2.2.1 == r7.2) && true)) (Dt.bnd (C.2.2.1 (((0:Int), ()), ())) fun r8 => (Dt.bnd (C.2.2.1 (((2:Int), ()), ())) fun r9 => (Dt.bnd (C.2.2.2.2.2.2.2.1 ((v.2.2.2.2.2.2.2.2.2, ()), (([(r8.1, r8.2, r9.1, r9.2, (2:Int), ())] : List Diiiii), ()), ())) fun r10 => (Dt.ite r10 (Dt.ite (v.2.1 == (1:Int)) (Dt.bnd (C.1 ((v.2.2.1, ()), (([((1:Int), ()), ((2:Int), ()), ((5:Int), ())] : List Di), ()), ())) fun r11 => (Dt.ret r11)) (Dt.ret false)) (Dt.ret false))))) (Dt.ret false))) (Dt.ret false))) (Dt.ret false)) (Dt.ret false)))))))
theorem law24_alive_g10 (C : law24_alive_C) (v : law24_alive_Y8) : treg tysT (orc (law24_alive_tab C)) 129 (regO (bodyOf f32) 10) true [(0, .any)] (law24_alive_S8 v) some = (law24_alive_r10 C v).eval fun y => some (law24_alive_S9 y) := by kernel_rfl
def F_law24_alive (d : Nat) (x : law24_alive_X) : Option law24_alive_R :=
  (law24_alive_r0 (law24_alive_K d) ()).eval fun y0 =>
  (law24_alive_r1 (law24_alive_K d) ()).eval fun y1 =>
  (law24_alive_r2 (law24_alive_K d) y1).eval fun y2 =>
  (law24_alive_r3 (law24_alive_K d) y2).eval fun y3 =>
  (law24_alive_r4 (law24_alive_K d) y3).eval fun y4 =>
  (law24_alive_r5 (law24_alive_K d) y4).eval fun y5 =>
  (law24_alive_r6 (law24_alive_K d) y5).eval fun y6 =>
  (law24_alive_r7 (law24_alive_K d) y6).eval fun y7 =>
  (law24_alive_r8 (law24_alive_K d) y7).eval fun y8 =>
  bif y8.2.2.2.1 then ((law24_alive_r9 (law24_alive_K d) y8).eval fun y9 =>
  some y9) else ((law24_alive_r10 (law24_alive_K d) y8).eval fun y10 =>
  some y10)
theorem law24_alive_cok (d : Nat) : COK prog (law24_alive_sp (F_law24_alive d)) := by
  have hm : prog.follows .mixedOrders = true := mixed
  have hT := tys
  have hC0 : OrcOK prog (orc (law24_alive_tab (law24_alive_K d))) := orc_ok (by
    intro S hS
    simp only [law24_alive_tab, List.mem_cons, List.not_mem_nil, or_false] at hS
    rcases hS with rfl | rfl | rfl | rfl | rfl | rfl | rfl | rfl
    · exact ref03_SameIDs_cok d
    · exact race_Reigns_cok d
    · exact law24_at_cok d
    · exact law24_three_cok d
    · exact race_Laps_cok d
    · exact race_Time_cok d
    · exact race_Medals_cok d
    · exact ref24_Same_cok d)
  have hC : OrcOK prog (orc (law24_alive_tab (law24_alive_K d))) := hC0
  refine cok_of (c := bodyOf f32) (fn := f32) hT (by kernel_rfl) (by kernel_rfl) (by decide) fun x r h w0 φ0 Q hend => ?_
  replace h : F_law24_alive d x = some r := h
  unfold F_law24_alive at h
  show Run prog w0 φ0 129 (bodyOf f32) ⟨[], []⟩ Q
  refine run_seq ?_
  refine run_reg hm hT hC (law24_alive_g0 (law24_alive_K d) ()) h ?_
  intro y0 h
  refine cn_then ?_
  refine run_seq ?_
  refine run_reg hm hT hC (law24_alive_g1 (law24_alive_K d) ()) h ?_
  intro y1 h
  refine cn_then ?_
  refine run_seq ?_
  refine run_reg hm hT hC (law24_alive_g2 (law24_alive_K d) y1) h ?_
  intro y2 h
  refine cn_then ?_
  refine run_seq ?_
  refine run_reg hm hT hC (law24_alive_g3 (law24_alive_K d) y2) h ?_
  intro y3 h
  refine cn_then ?_
  refine run_seq ?_
  refine run_reg hm hT hC (law24_alive_g4 (law24_alive_K d) y3) h ?_
  intro y4 h
  refine cn_then ?_
  refine run_seq ?_
  refine run_reg hm hT hC (law24_alive_g5 (law24_alive_K d) y4) h ?_
  intro y5 h
  refine cn_then ?_
  refine run_seq ?_
  refine run_reg hm hT hC (law24_alive_g6 (law24_alive_K d) y5) h ?_
  intro y6 h
  refine cn_then ?_
  refine run_seq ?_
  refine run_reg hm hT hC (law24_alive_g7 (law24_alive_K d) y6) h ?_
  intro y7 h
  refine cn_then ?_
  refine run_seq ?_
  refine run_seq ?_
  refine run_reg hm hT hC (law24_alive_g8 (law24_alive_K d) y7) h ?_
  intro y8 h
  refine cn_then ?_
  refine run_cond (v := y8.2.2.2.1) (by kernel_rfl) h ?_ ?_
  ·
    intro h
    refine run_seq ?_
    refine run_reg hm hT hC (law24_alive_g9 (law24_alive_K d) y8) h ?_
    intro y9 h
    refine cn_then ?_
    refine run_ret ?_
    refine cn_then_ret ?_
    cases h
    exact (hend _ (by kernel_rfl)).2
  ·
    intro h
    refine run_skip ?_
    refine cn_then ?_
    refine run_seq ?_
    refine run_reg hm hT hC (law24_alive_g10 (law24_alive_K d) y8) h ?_
    intro y10 h
    refine cn_then ?_
    refine run_ret ?_
    cases h
    exact (hend _ (by kernel_rfl)).2
abbrev law24_RaceNames_ps : List Pk := []
abbrev law24_RaceNames_X : Type := Unit
abbrev law24_RaceNames_R : Type := Bool
def law24_RaceNames_enc (r : law24_RaceNames_R) : LV × List Ob := (.bool r, [])
def law24_RaceNames_sp (F : law24_RaceNames_X → Option law24_RaceNames_R) : Go.Tx.Spec := ⟨5, law24_RaceNames_ps, law24_RaceNames_R, F, law24_RaceNames_enc⟩
abbrev law24_RaceNames_C : Type := (race_Reigns_X → Option race_Reigns_R) × (law24_at_X → Option law24_at_R) × (law24_three_X → Option law24_three_R) × (race_Laps_X → Option race_Laps_R) × (race_Time_X → Option race_Time_R) × (race_Medals_X → Option race_Medals_R) × (race_Check_X → Option race_Check_R) × (law24_alive_X → Option law24_alive_R) × (ref24_Same_X → Option ref24_Same_R) × Unit
def law24_RaceNames_K (d : Nat) : law24_RaceNames_C := (F_race_Reigns d, F_law24_at d, F_law24_three d, F_race_Laps d, F_race_Time d, F_race_Medals d, F_race_Check d, F_law24_alive d, F_ref24_Same d, ())
def law24_RaceNames_tab (C : law24_RaceNames_C) : List Go.Tx.Spec := [race_Reigns_sp C.1, law24_at_sp C.2.1, law24_three_sp C.2.2.1, race_Laps_sp C.2.2.2.1, race_Time_sp C.2.2.2.2.1, race_Medals_sp C.2.2.2.2.2.1, race_Check_sp C.2.2.2.2.2.2.1, law24_alive_sp C.2.2.2.2.2.2.2.1, ref24_Same_sp C.2.2.2.2.2.2.2.2.1]
abbrev law24_RaceNames_Y0i : Type := Unit
def law24_RaceNames_S0i (v : law24_RaceNames_Y0i) : St := ⟨[], []⟩
def law24_RaceNames_r0 (C : law24_RaceNames_C) (v : law24_RaceNames_Y0i) : Dt law24_RaceNames_Y0i := (Dt.ret ())
theorem law24_RaceNames_g0 (C : law24_RaceNames_C) (v : law24_RaceNames_Y0i) : treg tysT (orc (law24_RaceNames_tab C)) 259 (regO (bodyOf f5) 0) false [] (law24_RaceNames_S0i v) some = (law24_RaceNames_r0 C v).eval fun y => some (law24_RaceNames_S0i y) := by kernel_rfl
abbrev law24_RaceNames_Y1 : Type := List Diii
def law24_RaceNames_S1 (v : law24_RaceNames_Y1) : St := ⟨[(1, .ptr 0 0)], [.cells [.rs 1], .rows Riii v]⟩
def law24_RaceNames_r1 (C : law24_RaceNames_C) (v : law24_RaceNames_Y0i) : Dt law24_RaceNames_Y1 := (Dt.ite (mkB (65:Int) (65:Int)) (Dt.ret (List.replicate ((65:Int)).toNat ziii)) Dt.fail)
theorem law24_RaceNames_g1 (C : law24_RaceNames_C) (v : law24_RaceNames_Y0i) : treg tysT (orc (law24_RaceNames_tab C)) 259 (regO (bodyOf f5) 1) false [(1, (.box [.own Riii]))] (law24_RaceNames_S0i v) some = (law24_RaceNames_r1 C v).eval fun y => some (law24_RaceNames_S1 y) := by kernel_rfl
abbrev law24_RaceNames_Y2 : Type := Int
def law24_RaceNames_S2 (v : law24_RaceNames_Y2) : St := ⟨[(3, .int .i64 v)], []⟩
def law24_RaceNames_r2 (C : law24_RaceNames_C) (v : law24_RaceNames_Y1) : Dt law24_RaceNames_Y2 := (Dt.bnd (C.2.1 (((0:Int), ()), ())) fun r1 => (Dt.bnd (C.1 ((v, ()), ((0:Int), (0:Int), ()), (r1.1, r1.2, ()), ())) fun r2 => (Dt.ret r2.2)))
theorem law24_RaceNames_g2 (C : law24_RaceNames_C) (v : law24_RaceNames_Y1) : treg tysT (orc (law24_RaceNames_tab C)) 259 (regO (bodyOf f5) 2) true [(3, .any)] (law24_RaceNames_S1 v) some = (law24_RaceNames_r2 C v).eval fun y => some (law24_RaceNames_S2 y) := by kernel_rfl
abbrev law24_RaceNames_Y3 : Type := Int × Int
def law24_RaceNames_S3 (v : law24_RaceNames_Y3) : St := ⟨[(3, .int .i64 v.1), (5, .int .i64 v.2)], []⟩
def law24_RaceNames_r3 (C : law24_RaceNames_C) (v : law24_RaceNames_Y2) : Dt law24_RaceNames_Y3 := (Dt.bnd (C.2.2.1 (())) fun r1 => (Dt.bnd (C.2.1 (((0:Int), ()), ())) fun r2 => (Dt.bnd (C.1 ((r1, ()), (r2.1, r2.2, ()), ((0:Int), (0:Int), ()), ())) fun r3 => (Dt.ret (v, r3.2)))))
theorem law24_RaceNames_g3 (C : law24_RaceNames_C) (v : law24_RaceNames_Y2) : treg tysT (orc (law24_RaceNames_tab C)) 259 (regO (bodyOf f5) 3) false [(3, .any), (5, .any)] (law24_RaceNames_S2 v) some = (law24_RaceNames_r3 C v).eval fun y => some (law24_RaceNames_S3 y) := by kernel_rfl
abbrev law24_RaceNames_Y4 : Type := Int × Int × Int
def law24_RaceNames_S4 (v : law24_RaceNames_Y4) : St := ⟨[(3, .int .i64 v.1), (5, .int .i64 v.2.1), (7, .int .i64 v.2.2)], []⟩
def law24_RaceNames_r4 (C : law24_RaceNames_C) (v : law24_RaceNames_Y3) : Dt law24_RaceNames_Y4 := (Dt.bnd (C.2.2.1 (())) fun r1 => (Dt.bnd (C.2.1 (((1:Int), ()), ())) fun r2 => (Dt.bnd (C.2.1 (((0:Int), ()), ())) fun r3 => (Dt.bnd (C.1 ((r1, ()), (r2.1, r2.2, ()), (r3.1, r3.2, ()), ())) fun r4 => (Dt.ret (v.1, v.2, r4.2))))))
theorem law24_RaceNames_g4 (C : law24_RaceNames_C) (v : law24_RaceNames_Y3) : treg tysT (orc (law24_RaceNames_tab C)) 259 (regO (bodyOf f5) 4) false [(3, .any), (5, .any), (7, .any)] (law24_RaceNames_S3 v) some = (law24_RaceNames_r4 C v).eval fun y => some (law24_RaceNames_S4 y) := by kernel_rfl
abbrev law24_RaceNames_Y5 : Type := Int × Int × Int × Int
def law24_RaceNames_S5 (v : law24_RaceNames_Y5) : St := ⟨[(3, .int .i64 v.1), (5, .int .i64 v.2.1), (7, .int .i64 v.2.2.1), (9, .int .i64 v.2.2.2)], []⟩
def law24_RaceNames_r5 (C : law24_RaceNames_C) (v : law24_RaceNames_Y4) : Dt law24_RaceNames_Y5 := (Dt.bnd (C.2.1 (((0:Int), ()), ())) fun r1 => (Dt.bnd (C.2.1 (((0:Int), ()), ())) fun r2 => (Dt.bnd (C.1 (([], ()), (r1.1, r1.2, ()), (r2.1, r2.2, ()), ())) fun r3 => (Dt.ret (v.1, v.2.1, v.2.2, r3.2)))))
theorem law24_RaceNames_g5 (C : law24_RaceNames_C) (v : law24_RaceNames_Y4) : treg tysT (orc (law24_RaceNames_tab C)) 259 (regO (bodyOf f5) 5) false [(3, .any), (5, .any), (7, .any), (9, .any)] (law24_RaceNames_S4 v) some = (law24_RaceNames_r5 C v).eval fun y => some (law24_RaceNames_S5 y) := by kernel_rfl
abbrev law24_RaceNames_Y6 : Type := Int × Int × Int × Int × Int
def law24_RaceNames_S6 (v : law24_RaceNames_Y6) : St := ⟨[(3, .int .i64 v.1), (5, .int .i64 v.2.1), (7, .int .i64 v.2.2.1), (9, .int .i64 v.2.2.2.1), (11, .int .i64 v.2.2.2.2)], []⟩
def law24_RaceNames_r6 (C : law24_RaceNames_C) (v : law24_RaceNames_Y5) : Dt law24_RaceNames_Y6 := (Dt.bnd (C.2.1 (((0:Int), ()), ())) fun r1 => (Dt.bnd (C.2.1 (((0:Int), ()), ())) fun r2 => (Dt.bnd (C.2.2.2.1 (([], ()), (r1.1, r1.2, ()), (r2.1, r2.2, ()), ())) fun r3 => (Dt.ret (v.1, v.2.1, v.2.2.1, v.2.2.2, r3.2)))))
theorem law24_RaceNames_g6 (C : law24_RaceNames_C) (v : law24_RaceNames_Y5) : treg tysT (orc (law24_RaceNames_tab C)) 259 (regO (bodyOf f5) 6) false [(3, .any), (5, .any), (7, .any), (9, .any), (11, .any)] (law24_RaceNames_S5 v) some = (law24_RaceNames_r6 C v).eval fun y => some (law24_RaceNames_S6 y) := by kernel_rfl
abbrev law24_RaceNames_Y7 : Type := Int × Int × Int × Int × Int × Int
def law24_RaceNames_S7 (v : law24_RaceNames_Y7) : St := ⟨[(3, .int .i64 v.1), (5, .int .i64 v.2.1), (7, .int .i64 v.2.2.1), (9, .int .i64 v.2.2.2.1), (11, .int .i64 v.2.2.2.2.1), (13, .int .i64 v.2.2.2.2.2)], []⟩
def law24_RaceNames_r7 (C : law24_RaceNames_C) (v : law24_RaceNames_Y6) : Dt law24_RaceNames_Y7 := (Dt.bnd (C.2.2.1 (())) fun r1 => (Dt.bnd (C.2.1 (((1:Int), ()), ())) fun r2 => (Dt.bnd (C.2.1 (((0:Int), ()), ())) fun r3 => (Dt.bnd (C.2.2.2.1 ((r1, ()), (r2.1, r2.2, ()), (r3.1, r3.2, ()), ())) fun r4 => (Dt.ret (v.1, v.2.1, v.2.2.1, v.2.2.2.1, v.2.2.2.2, r4.2))))))
theorem law24_RaceNames_g7 (C : law24_RaceNames_C) (v : law24_RaceNames_Y6) : treg tysT (orc (law24_RaceNames_tab C)) 259 (regO (bodyOf f5) 7) false [(3, .any), (5, .any), (7, .any), (9, .any), (11, .any), (13, .any)] (law24_RaceNames_S6 v) some = (law24_RaceNames_r7 C v).eval fun y => some (law24_RaceNames_S7 y) := by kernel_rfl
abbrev law24_RaceNames_Y8 : Type := Int × Int × Int × Int × Int × Int × Int
def law24_RaceNames_S8 (v : law24_RaceNames_Y8) : St := ⟨[(3, .int .i64 v.1), (5, .int .i64 v.2.1), (7, .int .i64 v.2.2.1), (9, .int .i64 v.2.2.2.1), (11, .int .i64 v.2.2.2.2.1), (13, .int .i64 v.2.2.2.2.2.1), (15, .int .i64 v.2.2.2.2.2.2)], []⟩
def law24_RaceNames_r8 (C : law24_RaceNames_C) (v : law24_RaceNames_Y7) : Dt law24_RaceNames_Y8 := (Dt.bnd (C.2.2.1 (())) fun r1 => (Dt.bnd (C.2.1 (((1:Int), ()), ())) fun r2 => (Dt.bnd (C.2.1 (((0:Int), ()), ())) fun r3 => (Dt.bnd (C.2.2.2.2.1 ((r1, ()), ((7:Int), ()), (r2.1, r2.2, ()), (r3.1, r3.2, ()), ())) fun r4 => (Dt.ret (v.1, v.2.1, v.2.2.1, v.2.2.2.1, v.2.2.2.2.1, v.2.2.2.2.2, r4.2.2))))))
theorem law24_RaceNames_g8 (C : law24_RaceNames_C) (v : law24_RaceNames_Y7) : treg tysT (orc (law24_RaceNames_tab C)) 259 (regO (bodyOf f5) 8) false [(3, .any), (5, .any), (7, .any), (9, .any), (11, .any), (13, .any), (15, .any)] (law24_RaceNames_S7 v) some = (law24_RaceNames_r8 C v).eval fun y => some (law24_RaceNames_S8 y) := by kernel_rfl
abbrev law24_RaceNames_Y9 : Type := Int × Int × Int × Int × Int × Int × Int × Int
def law24_RaceNames_S9 (v : law24_RaceNames_Y9) : St := ⟨[(3, .int .i64 v.1), (5, .int .i64 v.2.1), (7, .int .i64 v.2.2.1), (9, .int .i64 v.2.2.2.1), (11, .int .i64 v.2.2.2.2.1), (13, .int .i64 v.2.2.2.2.2.1), (15, .int .i64 v.2.2.2.2.2.2.1), (17, .int .i64 v.2.2.2.2.2.2.2)], []⟩
def law24_RaceNames_r9 (C : law24_RaceNames_C) (v : law24_RaceNames_Y8) : Dt law24_RaceNames_Y9 := (Dt.bnd (C.2.2.1 (())) fun r1 => (Dt.bnd (C.2.1 (((0:Int), ()), ())) fun r2 => (Dt.bnd (C.2.1 (((1:Int), ()), ())) fun r3 => (Dt.bnd (C.2.2.2.2.1 ((r1, ()), ((7:Int), ()), (r2.1, r2.2, ()), (r3.1, r3.2, ()), ())) fun r4 => (Dt.ret (v.1, v.2.1, v.2.2.1, v.2.2.2.1, v.2.2.2.2.1, v.2.2.2.2.2.1, v.2.2.2.2.2.2, r4.2.2))))))
theorem law24_RaceNames_g9 (C : law24_RaceNames_C) (v : law24_RaceNames_Y8) : treg tysT (orc (law24_RaceNames_tab C)) 259 (regO (bodyOf f5) 9) false [(3, .any), (5, .any), (7, .any), (9, .any), (11, .any), (13, .any), (15, .any), (17, .any)] (law24_RaceNames_S8 v) some = (law24_RaceNames_r9 C v).eval fun y => some (law24_RaceNames_S9 y) := by kernel_rfl
abbrev law24_RaceNames_Y10 : Type := Int × Int × Int × Int × Int × Int × Int × Int × Int × Int × Int × Int
def law24_RaceNames_S10 (v : law24_RaceNames_Y10) : St := ⟨[(3, .int .i64 v.1), (5, .int .i64 v.2.1), (7, .int .i64 v.2.2.1), (9, .int .i64 v.2.2.2.1), (11, .int .i64 v.2.2.2.2.1), (13, .int .i64 v.2.2.2.2.2.1), (15, .int .i64 v.2.2.2.2.2.2.1), (17, .int .i64 v.2.2.2.2.2.2.2.1), (18, .ptr 0 0), (19, .ptr 1 0)], [.cells [.int .i64 v.2.2.2.2.2.2.2.2.1, .int .i64 v.2.2.2.2.2.2.2.2.2.1], .cells [.int .i64 v.2.2.2.2.2.2.2.2.2.2.1, .int .i64 v.2.2.2.2.2.2.2.2.2.2.2]]⟩
def law24_RaceNames_r10 (C : law24_RaceNames_C) (v : law24_RaceNames_Y9) : Dt law24_RaceNames_Y10 := (Dt.ret (v.1, v.2.1, v.2.2.1, v.2.2.2.1, v.2.2.2.2.1, v.2.2.2.2.2.1, v.2.2.2.2.2.2.1, v.2.2.2.2.2.2.2, (9223372036854775807:Int), (1:Int), (-9223372036854775807:Int), (1:Int)))
theorem law24_RaceNames_g10 (C : law24_RaceNames_C) (v : law24_RaceNames_Y9) : treg tysT (orc (law24_RaceNames_tab C)) 259 (regO (bodyOf f5) 10) false [(3, .any), (5, .any), (7, .any), (9, .any), (11, .any), (13, .any), (15, .any), (17, .any), (18, .any), (19, .any)] (law24_RaceNames_S9 v) some = (law24_RaceNames_r10 C v).eval fun y => some (law24_RaceNames_S10 y) := by kernel_rfl
abbrev law24_RaceNames_Y11 : Type := Int × Int × Int × Int × Int × Int × Int × Int × Int
def law24_RaceNames_S11 (v : law24_RaceNames_Y11) : St := ⟨[(3, .int .i64 v.1), (5, .int .i64 v.2.1), (7, .int .i64 v.2.2.1), (9, .int .i64 v.2.2.2.1), (11, .int .i64 v.2.2.2.2.1), (13, .int .i64 v.2.2.2.2.2.1), (15, .int .i64 v.2.2.2.2.2.2.1), (17, .int .i64 v.2.2.2.2.2.2.2.1), (21, .int .i64 v.2.2.2.2.2.2.2.2)], []⟩
def law24_RaceNames_r11 (C : law24_RaceNames_C) (v : law24_RaceNames_Y10) : Dt law24_RaceNames_Y11 := (Dt.bnd (C.2.2.1 (())) fun r1 => (Dt.bnd (C.2.2.2.2.1 ((r1, ()), ((5:Int), ()), (v.2.2.2.2.2.2.2.2.2.2.1, v.2.2.2.2.2.2.2.2.2.2.2, ()), (v.2.2.2.2.2.2.2.2.1, v.2.2.2.2.2.2.2.2.2.1, ()), ())) fun r2 => (Dt.ret (v.1, v.2.1, v.2.2.1, v.2.2.2.1, v.2.2.2.2.1, v.2.2.2.2.2.1, v.2.2.2.2.2.2.1, v.2.2.2.2.2.2.2.1, r2.2.2))))
theorem law24_RaceNames_g11 (C : law24_RaceNames_C) (v : law24_RaceNames_Y10) : treg tysT (orc (law24_RaceNames_tab C)) 259 (regO (bodyOf f5) 11) true [(3, .any), (5, .any), (7, .any), (9, .any), (11, .any), (13, .any), (15, .any), (17, .any), (21, .any)] (law24_RaceNames_S10 v) some = (law24_RaceNames_r11 C v).eval fun y => some (law24_RaceNames_S11 y) := by kernel_rfl
abbrev law24_RaceNames_Y12 : Type := Int × Int × Int × Int × Int × Int × Int × Int × Int × List Di × Int
def law24_RaceNames_S12 (v : law24_RaceNames_Y12) : St := ⟨[(3, .int .i64 v.1), (5, .int .i64 v.2.1), (7, .int .i64 v.2.2.1), (9, .int .i64 v.2.2.2.1), (11, .int .i64 v.2.2.2.2.1), (13, .int .i64 v.2.2.2.2.2.1), (15, .int .i64 v.2.2.2.2.2.2.1), (17, .int .i64 v.2.2.2.2.2.2.2.1), (21, .int .i64 v.2.2.2.2.2.2.2.2.1), (22, .fz Ri v.2.2.2.2.2.2.2.2.2.1), (23, .int .i64 v.2.2.2.2.2.2.2.2.2.2)], []⟩
def law24_RaceNames_r12 (C : law24_RaceNames_C) (v : law24_RaceNames_Y11) : Dt law24_RaceNames_Y12 := (Dt.bnd (C.2.1 (((0:Int), ()), ())) fun r1 => (Dt.bnd (C.2.2.2.2.2.1 (([], ()), (r1.1, r1.2, ()), ())) fun r2 => (Dt.ret (v.1, v.2.1, v.2.2.1, v.2.2.2.1, v.2.2.2.2.1, v.2.2.2.2.2.1, v.2.2.2.2.2.2.1, v.2.2.2.2.2.2.2.1, v.2.2.2.2.2.2.2.2, r2.1, r2.2))))
theorem law24_RaceNames_g12 (C : law24_RaceNames_C) (v : law24_RaceNames_Y11) : treg tysT (orc (law24_RaceNames_tab C)) 259 (regO (bodyOf f5) 12) false [(3, .any), (5, .any), (7, .any), (9, .any), (11, .any), (13, .any), (15, .any), (17, .any), (21, .any), (22, (.val Ri)), (23, .any)] (law24_RaceNames_S11 v) some = (law24_RaceNames_r12 C v).eval fun y => some (law24_RaceNames_S12 y) := by kernel_rfl
abbrev law24_RaceNames_Y13 : Type := Int × Int × Int × Int × Int × Int × Int × Int × Int × List Di × Int × Int
def law24_RaceNames_S13 (v : law24_RaceNames_Y13) : St := ⟨[(3, .int .i64 v.1), (5, .int .i64 v.2.1), (7, .int .i64 v.2.2.1), (9, .int .i64 v.2.2.2.1), (11, .int .i64 v.2.2.2.2.1), (13, .int .i64 v.2.2.2.2.2.1), (15, .int .i64 v.2.2.2.2.2.2.1), (17, .int .i64 v.2.2.2.2.2.2.2.1), (21, .int .i64 v.2.2.2.2.2.2.2.2.1), (22, .fz Ri v.2.2.2.2.2.2.2.2.2.1), (23, .int .i64 v.2.2.2.2.2.2.2.2.2.2.1), (25, .int .i64 v.2.2.2.2.2.2.2.2.2.2.2)], []⟩
def law24_RaceNames_r13 (C : law24_RaceNames_C) (v : law24_RaceNames_Y12) : Dt law24_RaceNames_Y13 := (Dt.bnd (C.2.2.1 (())) fun r1 => (Dt.bnd (C.2.2.2.2.2.1 ((r1, ()), ((0:Int), (0:Int), ()), ())) fun r2 => (Dt.ret (v.1, v.2.1, v.2.2.1, v.2.2.2.1, v.2.2.2.2.1, v.2.2.2.2.2.1, v.2.2.2.2.2.2.1, v.2.2.2.2.2.2.2.1, v.2.2.2.2.2.2.2.2.1, v.2.2.2.2.2.2.2.2.2.1, v.2.2.2.2.2.2.2.2.2.2, r2.2))))
theorem law24_RaceNames_g13 (C : law24_RaceNames_C) (v : law24_RaceNames_Y12) : treg tysT (orc (law24_RaceNames_tab C)) 259 (regO (bodyOf f5) 13) false [(3, .any), (5, .any), (7, .any), (9, .any), (11, .any), (13, .any), (15, .any), (17, .any), (21, .any), (22, (.val Ri)), (23, .any), (25, .any)] (law24_RaceNames_S12 v) some = (law24_RaceNames_r13 C v).eval fun y => some (law24_RaceNames_S13 y) := by kernel_rfl
abbrev law24_RaceNames_Y14 : Type := Int × Int × Int × Int × Int × Int × Int × Int × Int × List Di × Int × Int × Int × List Diiiii
def law24_RaceNames_S14 (v : law24_RaceNames_Y14) : St := ⟨[(3, .int .i64 v.1), (5, .int .i64 v.2.1), (7, .int .i64 v.2.2.1), (9, .int .i64 v.2.2.2.1), (11, .int .i64 v.2.2.2.2.1), (13, .int .i64 v.2.2.2.2.2.1), (15, .int .i64 v.2.2.2.2.2.2.1), (17, .int .i64 v.2.2.2.2.2.2.2.1), (21, .int .i64 v.2.2.2.2.2.2.2.2.1), (22, .fz Ri v.2.2.2.2.2.2.2.2.2.1), (23, .int .i64 v.2.2.2.2.2.2.2.2.2.2.1), (25, .int .i64 v.2.2.2.2.2.2.2.2.2.2.2.1), (26, .rs 0), (27, .int .i64 v.2.2.2.2.2.2.2.2.2.2.2.2.1)], [.rows Riiiii v.2.2.2.2.2.2.2.2.2.2.2.2.2]⟩
def law24_RaceNames_r14 (C : law24_RaceNames_C) (v : law24_RaceNames_Y13) : Dt law24_RaceNames_Y14 := (Dt.bnd (C.2.2.1 (())) fun r1 => (Dt.bnd (C.2.1 (((2:Int), ()), ())) fun r2 => (Dt.bnd (C.2.1 (((2:Int), ()), ())) fun r3 => (Dt.bnd (C.1 ((r1, ()), (r2.1, r2.2, ()), (r3.1, r3.2, ()), ())) fun r4 => (Dt.ret (v.1, v.2.1, v.2.2.1, v.2.2.2.1, v.2.2.2.2.1, v.2.2.2.2.2.1, v.2.2.2.2.2.2.1, v.2.2.2.2.2.2.2.1, v.2.2.2.2.2.2.2.2.1, v.2.2.2.2.2.2.2.2.2.1, v.2.2.2.2.2.2.2.2.2.2.1, v.2.2.2.2.2.2.2.2.2.2.2, r4.2, r4.1))))))
theorem law24_RaceNames_g14 (C : law24_RaceNames_C) (v : law24_RaceNames_Y13) : treg tysT (orc (law24_RaceNames_tab C)) 259 (regO (bodyOf f5) 14) false [(3, .any), (5, .any), (7, .any), (9, .any), (11, .any), (13, .any), (15, .any), (17, .any), (21, .any), (22, (.val Ri)), (23, .any), (25, .any), (26, (.own Riiiii)), (27, .any)] (law24_RaceNames_S13 v) some = (law24_RaceNames_r14 C v).eval fun y => some (law24_RaceNames_S14 y) := by kernel_rfl
abbrev law24_RaceNames_Y15 : Type := Int × Int × Int × Int × Int × Int × Int × Int × Int × List Di × Int × Int × Int × List Diiiii × Int × Int × Int × Int × Int
def law24_RaceNames_S15 (v : law24_RaceNames_Y15) : St := ⟨[(3, .int .i64 v.1), (5, .int .i64 v.2.1), (7, .int .i64 v.2.2.1), (9, .int .i64 v.2.2.2.1), (11, .int .i64 v.2.2.2.2.1), (13, .int .i64 v.2.2.2.2.2.1), (15, .int .i64 v.2.2.2.2.2.2.1), (17, .int .i64 v.2.2.2.2.2.2.2.1), (21, .int .i64 v.2.2.2.2.2.2.2.2.1), (22, .fz Ri v.2.2.2.2.2.2.2.2.2.1), (23, .int .i64 v.2.2.2.2.2.2.2.2.2.2.1), (25, .int .i64 v.2.2.2.2.2.2.2.2.2.2.2.1), (26, .rs 0), (27, .int .i64 v.2.2.2.2.2.2.2.2.2.2.2.2.1), (28, .ptr 1 0)], [.rows Riiiii v.2.2.2.2.2.2.2.2.2.2.2.2.2.1, .cells [.int .i64 v.2.2.2.2.2.2.2.2.2.2.2.2.2.2.1, .int .i64 v.2.2.2.2.2.2.2.2.2.2.2.2.2.2.2.1, .int .i64 v.2.2.2.2.2.2.2.2.2.2.2.2.2.2.2.2.1, .int .i64 v.2.2.2.2.2.2.2.2.2.2.2.2.2.2.2.2.2.1, .int .i64 v.2.2.2.2.2.2.2.2.2.2.2.2.2.2.2.2.2.2]]⟩
def law24_RaceNames_r15 (C : law24_RaceNames_C) (v : law24_RaceNames_Y14) : Dt law24_RaceNames_Y15 := (Dt.bnd (C.2.1 (((0:Int), ()), ())) fun r1 => (Dt.bnd (C.2.1 (((2:Int), ()), ())) fun r2 => (Dt.ret (v.1, v.2.1, v.2.2.1, v.2.2.2.1, v.2.2.2.2.1, v.2.2.2.2.2.1, v.2.2.2.2.2.2.1, v.2.2.2.2.2.2.2.1, v.2.2.2.2.2.2.2.2.1, v.2.2.2.2.2.2.2.2.2.1, v.2.2.2.2.2.2.2.2.2.2.1, v.2.2.2.2.2.2.2.2.2.2.2.1, v.2.2.2.2.2.2.2.2.2.2.2.2.1, v.2.2.2.2.2.2.2.2.2.2.2.2.2, r1.1, r1.2, r2.1, r2.2, (2:Int)))))
theorem law24_RaceNames_g15 (C : law24_RaceNames_C) (v : law24_RaceNames_Y14) : treg tysT (orc (law24_RaceNames_tab C)) 259 (regO (bodyOf f5) 15) false [(3, .any), (5, .any), (7, .any), (9, .any), (11, .any), (13, .any), (15, .any), (17, .any), (21, .any), (22, (.val Ri)), (23, .any), (25, .any), (26, (.own Riiiii)), (27, .any), (28, .any)] (law24_RaceNames_S14 v) some = (law24_RaceNames_r15 C v).eval fun y => some (law24_RaceNames_S15 y) := by kernel_rfl
abbrev law24_RaceNames_Y16 : Type := Int × Int × Int × Int × Int × Int × Int × Int × Int × List Di × Int × Int × Int × List Diiiii × Int × Int × Int × Int × Int × Int × Int × Int × Int × Int
def law24_RaceNames_S16 (v : law24_RaceNames_Y16) : St := ⟨[(3, .int .i64 v.1), (5, .int .i64 v.2.1), (7, .int .i64 v.2.2.1), (9, .int .i64 v.2.2.2.1), (11, .int .i64 v.2.2.2.2.1), (13, .int .i64 v.2.2.2.2.2.1), (15, .int .i64 v.2.2.2.2.2.2.1), (17, .int .i64 v.2.2.2.2.2.2.2.1), (21, .int .i64 v.2.2.2.2.2.2.2.2.1), (22, .fz Ri v.2.2.2.2.2.2.2.2.2.1), (23, .int .i64 v.2.2.2.2.2.2.2.2.2.2.1), (25, .int .i64 v.2.2.2.2.2.2.2.2.2.2.2.1), (26, .rs 0), (27, .int .i64 v.2.2.2.2.2.2.2.2.2.2.2.2.1), (28, .ptr 1 0), (29, .ptr 2 0)], [.rows Riiiii v.2.2.2.2.2.2.2.2.2.2.2.2.2.1, .cells [.int .i64 v.2.2.2.2.2.2.2.2.2.2.2.2.2.2.1, .int .i64 v.2.2.2.2.2.2.2.2.2.2.2.2.2.2.2.1, .int .i64 v.2.2.2.2.2.2.2.2.2.2.2.2.2.2.2.2.1, .int .i64 v.2.2.2.2.2.2.2.2.2.2.2.2.2.2.2.2.2.1, .int .i64 v.2.2.2.2.2.2.2.2.2.2.2.2.2.2.2.2.2.2.1], .cells [.int .i64 v.2.2.2.2.2.2.2.2.2.2.2.2.2.2.2.2.2.2.2.1, .int .i64 v.2.2.2.2.2.2.2.2.2.2.2.2.2.2.2.2.2.2.2.2.1, .int .i64 v.2.2.2.2.2.2.2.2.2.2.2.2.2.2.2.2.2.2.2.2.2.1, .int .i64 v.2.2.2.2.2.2.2.2.2.2.2.2.2.2.2.2.2.2.2.2.2.2.1, .int .i64 v.2.2.2.2.2.2.2.2.2.2.2.2.2.2.2.2.2.2.2.2.2.2.2]]⟩
def law24_RaceNames_r16 (C : law24_RaceNames_C) (v : law24_RaceNames_Y15) : Dt law24_RaceNames_Y16 := (Dt.bnd (C.2.1 (((2:Int), ()), ())) fun r1 => (Dt.bnd (C.2.1 (((3:Int), ()), ())) fun r2 => (Dt.ret (v.1, v.2.1, v.2.2.1, v.2.2.2.1, v.2.2.2.2.1, v.2.2.2.2.2.1, v.2.2.2.2.2.2.1, v.2.2.2.2.2.2.2.1, v.2.2.2.2.2.2.2.2.1, v.2.2.2.2.2.2.2.2.2.1, v.2.2.2.2.2.2.2.2.2.2.1, v.2.2.2.2.2.2.2.2.2.2.2.1, v.2.2.2.2.2.2.2.2.2.2.2.2.1, v.2.2.2.2.2.2.2.2.2.2.2.2.2.1, v.2.2.2.2.2.2.2.2.2.2.2.2.2.2.1, v.2.2.2.2.2.2.2.2.2.2.2.2.2.2.2.1, v.2.2.2.2.2.2.2.2.2.2.2.2.2.2.2.2.1, v.2.2.2.2.2.2.2.2.2.2.2.2.2.2.2.2.2.1, v.2.2.2.2.2.2.2.2.2.2.2.2.2.2.2.2.2.2, r1.1, r1.2, r2.1, r2.2, (1:Int)))))
theorem law24_RaceNames_g16 (C : law24_RaceNames_C) (v : law24_RaceNames_Y15) : treg tysT (orc (law24_RaceNames_tab C)) 259 (regO (bodyOf f5) 16) false [(3, .any), (5, .any), (7, .any), (9, .any), (11, .any), (13, .any), (15, .any), (17, .any), (21, .any), (22, (.val Ri)), (23, .any), (25, .any), (26, (.own Riiiii)), (27, .any), (28, .any), (29, .any)] (law24_RaceNames_S15 v) some = (law24_RaceNames_r16 C v).eval fun y => some (law24_RaceNames_S16 y) := by kernel_rfl
abbrev law24_RaceNames_Y17 : Type := Int × Int × Int × Int × Int × Int × Int × Int × Int × List Di × Int × Int × Int × List Diiiii × Int × Int × Int × Int × Int × Int × Int × Int × Int × Int × List DLiiiiiE
def law24_RaceNames_S17 (v : law24_RaceNames_Y17) : St := ⟨[(3, .int .i64 v.1), (5, .int .i64 v.2.1), (7, .int .i64 v.2.2.1), (9, .int .i64 v.2.2.2.1), (11, .int .i64 v.2.2.2.2.1), (13, .int .i64 v.2.2.2.2.2.1), (15, .int .i64 v.2.2.2.2.2.2.1), (17, .int .i64 v.2.2.2.2.2.2.2.1), (21, .int .i64 v.2.2.2.2.2.2.2.2.1), (22, .fz Ri v.2.2.2.2.2.2.2.2.2.1), (23, .int .i64 v.2.2.2.2.2.2.2.2.2.2.1), (25, .int .i64 v.2.2.2.2.2.2.2.2.2.2.2.1), (26, .rs 0), (27, .int .i64 v.2.2.2.2.2.2.2.2.2.2.2.2.1), (28, .ptr 1 0), (29, .ptr 2 0), (30, .rs 3)], [.rows Riiiii v.2.2.2.2.2.2.2.2.2.2.2.2.2.1, .cells [.int .i64 v.2.2.2.2.2.2.2.2.2.2.2.2.2.2.1, .int .i64 v.2.2.2.2.2.2.2.2.2.2.2.2.2.2.2.1, .int .i64 v.2.2.2.2.2.2.2.2.2.2.2.2.2.2.2.2.1, .int .i64 v.2.2.2.2.2.2.2.2.2.2.2.2.2.2.2.2.2.1, .int .i64 v.2.2.2.2.2.2.2.2.2.2.2.2.2.2.2.2.2.2.1], .cells [.int .i64 v.2.2.2.2.2.2.2.2.2.2.2.2.2.2.2.2.2.2.2.1, .int .i64 v.2.2.2.2.2.2.2.2.2.2.2.2.2.2.2.2.2.2.2.2.1, .int .i64 v.2.2.2.2.2.2.2.2.2.2.2.2.2.2.2.2.2.2.2.2.2.1, .int .i64 v.2.2.2.2.2.2.2.2.2.2.2.2.2.2.2.2.2.2.2.2.2.2.1, .int .i64 v.2.2.2.2.2.2.2.2.2.2.2.2.2.2.2.2.2.2.2.2.2.2.2.1], .rows RLiiiiiE v.2.2.2.2.2.2.2.2.2.2.2.2.2.2.2.2.2.2.2.2.2.2.2.2]⟩
def law24_RaceNames_r17 (C : law24_RaceNames_C) (v : law24_RaceNames_Y16) : Dt law24_RaceNames_Y17 := (Dt.bnd (C.2.1 (((1:Int), ()), ())) fun r1 => (Dt.bnd (C.2.1 (((3:Int), ()), ())) fun r2 => (Dt.bnd (C.2.1 (((2:Int), ()), ())) fun r3 => (Dt.bnd (C.2.1 (((2:Int), ()), ())) fun r4 => (Dt.bnd (C.2.1 (((1:Int), ()), ())) fun r5 => (Dt.bnd (C.2.1 (((0:Int), ()), ())) fun r6 => (Dt.bnd (C.2.1 (((0:Int), ()), ())) fun r7 => (Dt.bnd (C.2.1 (((1:Int), ()), ())) fun r8 => (Dt.bnd (C.2.1 (((0:Int), ()), ())) fun r9 => (Dt.bnd (C.2.1 (((1:Int), ()), ())) fun r10 => (Dt.bnd (C.2.1 (((0:Int), ()), ())) fun r11 => (Dt.bnd (C.2.1 (((2:Int), ()), ())) fun r12 => (Dt.bnd (C.2.1 (((3:Int), ()), ())) fun r13 => (Dt.ite (mkB (301:Int) (301:Int)) (Dt.ret (v.1, v.2.1, v.2.2.1, v.2.2.2.1, v.2.2.2.2.1, v.2.2.2.2.2.1, v.2.2.2.2.2.2.1, v.2.2.2.2.2.2.2.1, v.2.2.2.2.2.2.2.2.1, v.2.2.2.2.2.2.2.2.2.1, v.2.2.2.2.2.2.2.2.2.2.1, v.2.2.2.2.2.2.2.2.2.2.2.1, v.2.2.2.2.2.2.2.2.2.2.2.2.1, v.2.2.2.2.2.2.2.2.2.2.2.2.2.1, v.2.2.2.2.2.2.2.2.2.2.2.2.2.2.1, v.2.2.2.2.2.2.2.2.2.2.2.2.2.2.2.1, v.2.2.2.2.2.2.2.2.2.2.2.2.2.2.2.2.1, v.2.2.2.2.2.2.2.2.2.2.2.2.2.2.2.2.2.1, v.2.2.2.2.2.2.2.2.2.2.2.2.2.2.2.2.2.2.1, v.2.2.2.2.2.2.2.2.2.2.2.2.2.2.2.2.2.2.2.1, v.2.2.2.2.2.2.2.2.2.2.2.2.2.2.2.2.2.2.2.2.1, v.2.2.2.2.2.2.2.2.2.2.2.2.2.2.2.2.2.2.2.2.2.1, v.2.2.2.2.2.2.2.2.2.2.2.2.2.2.2.2.2.2.2.2.2.2.1, v.2.2.2.2.2.2.2.2.2.2.2.2.2.2.2.2.2.2.2.2.2.2.2, ([([], ()), (([(v.2.2.2.2.2.2.2.2.2.2.2.2.2.2.2.2.2.2.2.1, v.2.2.2.2.2.2.2.2.2.2.2.2.2.2.2.2.2.2.2.2.1, v.2.2.2.2.2.2.2.2.2.2.2.2.2.2.2.2.2.2.2.2.2.1, v.2.2.2.2.2.2.2.2.2.2.2.2.2.2.2.2.2.2.2.2.2.2.1, v.2.2.2.2.2.2.2.2.2.2.2.2.2.2.2.2.2.2.2.2.2.2.2, ()), (v.2.2.2.2.2.2.2.2.2.2.2.2.2.2.1, v.2.2.2.2.2.2.2.2.2.2.2.2.2.2.2.1, v.2.2.2.2.2.2.2.2.2.2.2.2.2.2.2.2.1, v.2.2.2.2.2.2.2.2.2.2.2.2.2.2.2.2.2.1, v.2.2.2.2.2.2.2.2.2.2.2.2.2.2.2.2.2.2.1, ())] : List Diiiii), ()), (([(v.2.2.2.2.2.2.2.2.2.2.2.2.2.2.1, v.2.2.2.2.2.2.2.2.2.2.2.2.2.2.2.1, v.2.2.2.2.2.2.2.2.2.2.2.2.2.2.2.2.1, v.2.2.2.2.2.2.2.2.2.2.2.2.2.2.2.2.2.1, v.2.2.2.2.2.2.2.2.2.2.2.2.2.2.2.2.2.2.1, ()), (v.2.2.2.2.2.2.2.2.2.2.2.2.2.2.1, v.2.2.2.2.2.2.2.2.2.2.2.2.2.2.2.1, v.2.2.2.2.2.2.2.2.2.2.2.2.2.2.2.2.1, v.2.2.2.2.2.2.2.2.2.2.2.2.2.2.2.2.2.1, v.2.2.2.2.2.2.2.2.2.2.2.2.2.2.2.2.2.2.1, ())] : List Diiiii), ()), (([(v.2.2.2.2.2.2.2.2.2.2.2.2.2.2.1, v.2.2.2.2.2.2.2.2.2.2.2.2.2.2.2.1, v.2.2.2.2.2.2.2.2.2.2.2.2.2.2.2.2.1, v.2.2.2.2.2.2.2.2.2.2.2.2.2.2.2.2.2.1, v.2.2.2.2.2.2.2.2.2.2.2.2.2.2.2.2.2.2.1, ()), (r1.1, r1.2, r2.1, r2.2, (1:Int), ())] : List Diiiii), ()), (([(v.2.2.2.2.2.2.2.2.2.2.2.2.2.2.1, v.2.2.2.2.2.2.2.2.2.2.2.2.2.2.2.1, v.2.2.2.2.2.2.2.2.2.2.2.2.2.2.2.2.1, v.2.2.2.2.2.2.2.2.2.2.2.2.2.2.2.2.2.1, v.2.2.2.2.2.2.2.2.2.2.2.2.2.2.2.2.2.2.1, ()), (r3.1, r3.2, r4.1, r4.2, (1:Int), ())] : List Diiiii), ()), (([(r5.1, r5.2, r6.1, r6.2, (0:Int), ())] : List Diiiii), ()), (([(r7.1, r7.2, r8.1, r8.2, (-1:Int), ())] : List Diiiii), ()), (([(r9.1, r9.2, r10.1, r10.2, (65536:Int), ())] : List Diiiii), ()), (([(r11.1, r11.2, (0:Int), (0:Int), (0:Int), ())] : List Diiiii), ()), (([(v.2.2.2.2.2.2.2.2.2.2.2.2.2.2.1, v.2.2.2.2.2.2.2.2.2.2.2.2.2.2.2.1, v.2.2.2.2.2.2.2.2.2.2.2.2.2.2.2.2.1, v.2.2.2.2.2.2.2.2.2.2.2.2.2.2.2.2.2.1, v.2.2.2.2.2.2.2.2.2.2.2.2.2.2.2.2.2.2.1, ()), (r12.1, r12.2, r13.1, r13.2, (2:Int), ())] : List Diiiii), ()), ((List.replicate ((301:Int)).toNat ziiiii), ())] : List DLiiiiiE))) Dt.fail))))))))))))))
theorem law24_RaceNames_g17 (C : law24_RaceNames_C) (v : law24_RaceNames_Y16) : treg tysT (orc (law24_RaceNames_tab C)) 259 (regO (bodyOf f5) 17) true [(3, .any), (5, .any), (7, .any), (9, .any), (11, .any), (13, .any), (15, .any), (17, .any), (21, .any), (22, (.val Ri)), (23, .any), (25, .any), (26, (.own Riiiii)), (27, .any), (28, .any), (29, .any), (30, (.own RLiiiiiE))] (law24_RaceNames_S16 v) some = (law24_RaceNames_r17 C v).eval fun y => some (law24_RaceNames_S17 y) := by kernel_rfl
abbrev law24_RaceNames_Y18 : Type := Int × Int × Int × Int × Int × Int × Int × Int × Int × List Di × Int × Int × Int × Int × List Diiiii × Int × Int × Int × Int × Int × Int × Int × Int × Int × Int × List DLiiiiiE
def law24_RaceNames_S18 (v : law24_RaceNames_Y18) : St := ⟨[(3, .int .i64 v.1), (5, .int .i64 v.2.1), (7, .int .i64 v.2.2.1), (9, .int .i64 v.2.2.2.1), (11, .int .i64 v.2.2.2.2.1), (13, .int .i64 v.2.2.2.2.2.1), (15, .int .i64 v.2.2.2.2.2.2.1), (17, .int .i64 v.2.2.2.2.2.2.2.1), (21, .int .i64 v.2.2.2.2.2.2.2.2.1), (22, .fz Ri v.2.2.2.2.2.2.2.2.2.1), (23, .int .i64 v.2.2.2.2.2.2.2.2.2.2.1), (25, .int .i64 v.2.2.2.2.2.2.2.2.2.2.2.1), (26, .rs 0), (27, .int .i64 v.2.2.2.2.2.2.2.2.2.2.2.2.1), (28, .ptr 1 0), (29, .ptr 2 0), (30, .rs 3), (31, .int .i64 v.2.2.2.2.2.2.2.2.2.2.2.2.2.1)], [.rows Riiiii v.2.2.2.2.2.2.2.2.2.2.2.2.2.2.1, .cells [.int .i64 v.2.2.2.2.2.2.2.2.2.2.2.2.2.2.2.1, .int .i64 v.2.2.2.2.2.2.2.2.2.2.2.2.2.2.2.2.1, .int .i64 v.2.2.2.2.2.2.2.2.2.2.2.2.2.2.2.2.2.1, .int .i64 v.2.2.2.2.2.2.2.2.2.2.2.2.2.2.2.2.2.2.1, .int .i64 v.2.2.2.2.2.2.2.2.2.2.2.2.2.2.2.2.2.2.2.1], .cells [.int .i64 v.2.2.2.2.2.2.2.2.2.2.2.2.2.2.2.2.2.2.2.2.1, .int .i64 v.2.2.2.2.2.2.2.2.2.2.2.2.2.2.2.2.2.2.2.2.2.1, .int .i64 v.2.2.2.2.2.2.2.2.2.2.2.2.2.2.2.2.2.2.2.2.2.2.1, .int .i64 v.2.2.2.2.2.2.2.2.2.2.2.2.2.2.2.2.2.2.2.2.2.2.2.1, .int .i64 v.2.2.2.2.2.2.2.2.2.2.2.2.2.2.2.2.2.2.2.2.2.2.2.2.1], .rows RLiiiiiE v.2.2.2.2.2.2.2.2.2.2.2.2.2.2.2.2.2.2.2.2.2.2.2.2.2]⟩
def law24_RaceNames_r18 (C : law24_RaceNames_C) (v : law24_RaceNames_Y17) : Dt law24_RaceNames_Y18 := (Dt.ret (v.1, v.2.1, v.2.2.1, v.2.2.2.1, v.2.2.2.2.1, v.2.2.2.2.2.1, v.2.2.2.2.2.2.1, v.2.2.2.2.2.2.2.1, v.2.2.2.2.2.2.2.2.1, v.2.2.2.2.2.2.2.2.2.1, v.2.2.2.2.2.2.2.2.2.2.1, v.2.2.2.2.2.2.2.2.2.2.2.1, v.2.2.2.2.2.2.2.2.2.2.2.2.1, (0:Int), v.2.2.2.2.2.2.2.2.2.2.2.2.2.1, v.2.2.2.2.2.2.2.2.2.2.2.2.2.2.1, v.2.2.2.2.2.2.2.2.2.2.2.2.2.2.2.1, v.2.2.2.2.2.2.2.2.2.2.2.2.2.2.2.2.1, v.2.2.2.2.2.2.2.2.2.2.2.2.2.2.2.2.2.1, v.2.2.2.2.2.2.2.2.2.2.2.2.2.2.2.2.2.2.1, v.2.2.2.2.2.2.2.2.2.2.2.2.2.2.2.2.2.2.2.1, v.2.2.2.2.2.2.2.2.2.2.2.2.2.2.2.2.2.2.2.2.1, v.2.2.2.2.2.2.2.2.2.2.2.2.2.2.2.2.2.2.2.2.2.1, v.2.2.2.2.2.2.2.2.2.2.2.2.2.2.2.2.2.2.2.2.2.2.1, v.2.2.2.2.2.2.2.2.2.2.2.2.2.2.2.2.2.2.2.2.2.2.2.1, v.2.2.2.2.2.2.2.2.2.2.2.2.2.2.2.2.2.2.2.2.2.2.2.2))
theorem law24_RaceNames_g18 (C : law24_RaceNames_C) (v : law24_RaceNames_Y17) : treg tysT (orc (law24_RaceNames_tab C)) 259 (regO (bodyOf f5) 18) false [(3, .any), (5, .any), (7, .any), (9, .any), (11, .any), (13, .any), (15, .any), (17, .any), (21, .any), (22, (.val Ri)), (23, .any), (25, .any), (26, (.own Riiiii)), (27, .any), (28, .any), (29, .any), (30, (.own RLiiiiiE)), (31, .any)] (law24_RaceNames_S17 v) some = (law24_RaceNames_r18 C v).eval fun y => some (law24_RaceNames_S18 y) := by kernel_rfl
abbrev law24_RaceNames_Y19 : Type := Int × Int × Int × Int × Int × Int × Int × Int × Int × List Di × Int × Int × Int × Int × Bool × List Diiiii × Int × Int × Int × Int × Int × Int × Int × Int × Int × Int × List DLiiiiiE
def law24_RaceNames_S19 (v : law24_RaceNames_Y19) : St := ⟨[(3, .int .i64 v.1), (5, .int .i64 v.2.1), (7, .int .i64 v.2.2.1), (9, .int .i64 v.2.2.2.1), (11, .int .i64 v.2.2.2.2.1), (13, .int .i64 v.2.2.2.2.2.1), (15, .int .i64 v.2.2.2.2.2.2.1), (17, .int .i64 v.2.2.2.2.2.2.2.1), (21, .int .i64 v.2.2.2.2.2.2.2.2.1), (22, .fz Ri v.2.2.2.2.2.2.2.2.2.1), (23, .int .i64 v.2.2.2.2.2.2.2.2.2.2.1), (25, .int .i64 v.2.2.2.2.2.2.2.2.2.2.2.1), (26, .rs 0), (27, .int .i64 v.2.2.2.2.2.2.2.2.2.2.2.2.1), (28, .ptr 1 0), (29, .ptr 2 0), (30, .rs 3), (31, .int .i64 v.2.2.2.2.2.2.2.2.2.2.2.2.2.1), (166, .bool v.2.2.2.2.2.2.2.2.2.2.2.2.2.2.1)], [.rows Riiiii v.2.2.2.2.2.2.2.2.2.2.2.2.2.2.2.1, .cells [.int .i64 v.2.2.2.2.2.2.2.2.2.2.2.2.2.2.2.2.1, .int .i64 v.2.2.2.2.2.2.2.2.2.2.2.2.2.2.2.2.2.1, .int .i64 v.2.2.2.2.2.2.2.2.2.2.2.2.2.2.2.2.2.2.1, .int .i64 v.2.2.2.2.2.2.2.2.2.2.2.2.2.2.2.2.2.2.2.1, .int .i64 v.2.2.2.2.2.2.2.2.2.2.2.2.2.2.2.2.2.2.2.2.1], .cells [.int .i64 v.2.2.2.2.2.2.2.2.2.2.2.2.2.2.2.2.2.2.2.2.2.1, .int .i64 v.2.2.2.2.2.2.2.2.2.2.2.2.2.2.2.2.2.2.2.2.2.2.1, .int .i64 v.2.2.2.2.2.2.2.2.2.2.2.2.2.2.2.2.2.2.2.2.2.2.2.1, .int .i64 v.2.2.2.2.2.2.2.2.2.2.2.2.2.2.2.2.2.2.2.2.2.2.2.2.1, .int .i64 v.2.2.2.2.2.2.2.2.2.2.2.2.2.2.2.2.2.2.2.2.2.2.2.2.2.1], .rows RLiiiiiE v.2.2.2.2.2.2.2.2.2.2.2.2.2.2.2.2.2.2.2.2.2.2.2.2.2.2]⟩
def law24_RaceNames_r19 (C : law24_RaceNames_C) (v : law24_RaceNames_Y18) : Dt law24_RaceNames_Y19 := (Dt.ret (v.1, v.2.1, v.2.2.1, v.2.2.2.1, v.2.2.2.2.1, v.2.2.2.2.2.1, v.2.2.2.2.2.2.1, v.2.2.2.2.2.2.2.1, v.2.2.2.2.2.2.2.2.1, v.2.2.2.2.2.2.2.2.2.1, v.2.2.2.2.2.2.2.2.2.2.1, v.2.2.2.2.2.2.2.2.2.2.2.1, v.2.2.2.2.2.2.2.2.2.2.2.2.1, v.2.2.2.2.2.2.2.2.2.2.2.2.2.1, (decide (v.2.2.2.2.2.2.2.2.2.2.2.2.2.1 < (List.length v.2.2.2.2.2.2.2.2.2.2.2.2.2.2.2.2.2.2.2.2.2.2.2.2.2 : Int))), v.2.2.2.2.2.2.2.2.2.2.2.2.2.2.1, v.2.2.2.2.2.2.2.2.2.2.2.2.2.2.2.1, v.2.2.2.2.2.2.2.2.2.2.2.2.2.2.2.2.1, v.2.2.2.2.2.2.2.2.2.2.2.2.2.2.2.2.2.1, v.2.2.2.2.2.2.2.2.2.2.2.2.2.2.2.2.2.2.1, v.2.2.2.2.2.2.2.2.2.2.2.2.2.2.2.2.2.2.2.1, v.2.2.2.2.2.2.2.2.2.2.2.2.2.2.2.2.2.2.2.2.1, v.2.2.2.2.2.2.2.2.2.2.2.2.2.2.2.2.2.2.2.2.2.1, v.2.2.2.2.2.2.2.2.2.2.2.2.2.2.2.2.2.2.2.2.2.2.1, v.2.2.2.2.2.2.2.2.2.2.2.2.2.2.2.2.2.2.2.2.2.2.2.1, v.2.2.2.2.2.2.2.2.2.2.2.2.2.2.2.2.2.2.2.2.2.2.2.2.1, v.2.2.2.2.2.2.2.2.2.2.2.2.2.2.2.2.2.2.2.2.2.2.2.2.2))
theorem law24_RaceNames_g19 (C : law24_RaceNames_C) (v : law24_RaceNames_Y18) : treg tysT (orc (law24_RaceNames_tab C)) 259 (regO (bodyOf f5) 19) false [(3, .any), (5, .any), (7, .any), (9, .any), (11, .any), (13, .any), (15, .any), (17, .any), (21, .any), (22, (.val Ri)), (23, .any), (25, .any), (26, (.own Riiiii)), (27, .any), (28, .any), (29, .any), (30, (.own RLiiiiiE)), (31, .any), (166, .any)] (law24_RaceNames_S18 v) some = (law24_RaceNames_r19 C v).eval fun y => some (law24_RaceNames_S19 y) := by kernel_rfl
abbrev law24_RaceNames_Y21 : Type := Int × Int × Int × Int × Int × Int × Int × Int × Int × List Di × Int × Int × Int × Int × Bool × List Diiiii × Int × Int × Int × Int × Int × Int × Int × Int × Int × Int × List DLiiiiiE
def law24_RaceNames_S21 (v : law24_RaceNames_Y21) : St := ⟨[(3, .int .i64 v.1), (5, .int .i64 v.2.1), (7, .int .i64 v.2.2.1), (9, .int .i64 v.2.2.2.1), (11, .int .i64 v.2.2.2.2.1), (13, .int .i64 v.2.2.2.2.2.1), (15, .int .i64 v.2.2.2.2.2.2.1), (17, .int .i64 v.2.2.2.2.2.2.2.1), (21, .int .i64 v.2.2.2.2.2.2.2.2.1), (22, .fz Ri v.2.2.2.2.2.2.2.2.2.1), (23, .int .i64 v.2.2.2.2.2.2.2.2.2.2.1), (25, .int .i64 v.2.2.2.2.2.2.2.2.2.2.2.1), (26, .rs 0), (27, .int .i64 v.2.2.2.2.2.2.2.2.2.2.2.2.1), (28, .ptr 1 0), (29, .ptr 2 0), (30, .rs 3), (31, .int .i64 v.2.2.2.2.2.2.2.2.2.2.2.2.2.1), (174, .bool v.2.2.2.2.2.2.2.2.2.2.2.2.2.2.1)], [.rows Riiiii v.2.2.2.2.2.2.2.2.2.2.2.2.2.2.2.1, .cells [.int .i64 v.2.2.2.2.2.2.2.2.2.2.2.2.2.2.2.2.1, .int .i64 v.2.2.2.2.2.2.2.2.2.2.2.2.2.2.2.2.2.1, .int .i64 v.2.2.2.2.2.2.2.2.2.2.2.2.2.2.2.2.2.2.1, .int .i64 v.2.2.2.2.2.2.2.2.2.2.2.2.2.2.2.2.2.2.2.1, .int .i64 v.2.2.2.2.2.2.2.2.2.2.2.2.2.2.2.2.2.2.2.2.1], .cells [.int .i64 v.2.2.2.2.2.2.2.2.2.2.2.2.2.2.2.2.2.2.2.2.2.1, .int .i64 v.2.2.2.2.2.2.2.2.2.2.2.2.2.2.2.2.2.2.2.2.2.2.1, .int .i64 v.2.2.2.2.2.2.2.2.2.2.2.2.2.2.2.2.2.2.2.2.2.2.2.1, .int .i64 v.2.2.2.2.2.2.2.2.2.2.2.2.2.2.2.2.2.2.2.2.2.2.2.2.1, .int .i64 v.2.2.2.2.2.2.2.2.2.2.2.2.2.2.2.2.2.2.2.2.2.2.2.2.2.1], .rows RLiiiiiE v.2.2.2.2.2.2.2.2.2.2.2.2.2.2.2.2.2.2.2.2.2.2.2.2.2.2]⟩
def law24_RaceNames_r21 (C : law24_RaceNames_C) (v : law24_RaceNames_Y19) : Dt law24_RaceNames_Y21 := (Dt.ite (inB v.2.2.2.2.2.2.2.2.2.2.2.2.2.1 (List.length v.2.2.2.2.2.2.2.2.2.2.2.2.2.2.2.2.2.2.2.2.2.2.2.2.2.2)) (Dt.bnd (C.2.2.2.2.2.2.1 (((elt zLiiiiiE v.2.2.2.2.2.2.2.2.2.2.2.2.2.2.2.2.2.2.2.2.2.2.2.2.2.2 (v.2.2.2.2.2.2.2.2.2.2.2.2.2.1).toNat).1, ()), ())) fun r1 => (Dt.ret (v.1, v.2.1, v.2.2.1, v.2.2.2.1, v.2.2.2.2.1, v.2.2.2.2.2.1, v.2.2.2.2.2.2.1, v.2.2.2.2.2.2.2.1, v.2.2.2.2.2.2.2.2.1, v.2.2.2.2.2.2.2.2.2.1, v.2.2.2.2.2.2.2.2.2.2.1, v.2.2.2.2.2.2.2.2.2.2.2.1, v.2.2.2.2.2.2.2.2.2.2.2.2.1, v.2.2.2.2.2.2.2.2.2.2.2.2.2.1, (r1 != (8:Int)), v.2.2.2.2.2.2.2.2.2.2.2.2.2.2.2.1, v.2.2.2.2.2.2.2.2.2.2.2.2.2.2.2.2.1, v.2.2.2.2.2.2.2.2.2.2.2.2.2.2.2.2.2.1, v.2.2.2.2.2.2.2.2.2.2.2.2.2.2.2.2.2.2.1, v.2.2.2.2.2.2.2.2.2.2.2.2.2.2.2.2.2.2.2.1, v.2.2.2.2.2.2.2.2.2.2.2.2.2.2.2.2.2.2.2.2.1, v.2.2.2.2.2.2.2.2.2.2.2.2.2.2.2.2.2.2.2.2.2.1, v.2.2.2.2.2.2.2.2.2.2.2.2.2.2.2.2.2.2.2.2.2.2.1, v.2.2.2.2.2.2.2.2.2.2.2.2.2.2.2.2.2.2.2.2.2.2.2.1, v.2.2.2.2.2.2.2.2.2.2.2.2.2.2.2.2.2.2.2.2.2.2.2.2.1, v.2.2.2.2.2.2.2.2.2.2.2.2.2.2.2.2.2.2.2.2.2.2.2.2.2.1, v.2.2.2.2.2.2.2.2.2.2.2.2.2.2.2.2.2.2.2.2.2.2.2.2.2.2))) Dt.fail)
theorem law24_RaceNames_g21 (C : law24_RaceNames_C) (v : law24_RaceNames_Y19) : treg tysT (orc (law24_RaceNames_tab C)) 259 (regO (bodyOf f5) 21) false [(3, .any), (5, .any), (7, .any), (9, .any), (11, .any), (13, .any), (15, .any), (17, .any), (21, .any), (22, (.val Ri)), (23, .any), (25, .any), (26, (.own Riiiii)), (27, .any), (28, .any), (29, .any), (30, (.own RLiiiiiE)), (31, .any), (174, .any)] (law24_RaceNames_S19 v) some = (law24_RaceNames_r21 C v).eval fun y => some (law24_RaceNames_S21 y) := by kernel_rfl
abbrev law24_RaceNames_Y22 : Type := Bool
def law24_RaceNames_S22 (v : law24_RaceNames_Y22) : St := ⟨[(0, .bool v)], []⟩
def law24_RaceNames_r22 (C : law24_RaceNames_C) (v : law24_RaceNames_Y21) : Dt law24_RaceNames_Y22 := (Dt.ret false)
theorem law24_RaceNames_g22 (C : law24_RaceNames_C) (v : law24_RaceNames_Y21) : treg tysT (orc (law24_RaceNames_tab C)) 259 (regO (bodyOf f5) 22) false [(0, .any)] (law24_RaceNames_S21 v) some = (law24_RaceNames_r22 C v).eval fun y => some (law24_RaceNames_S22 y) := by kernel_rfl
def law24_RaceNames_r20 (C : law24_RaceNames_C) (v : law24_RaceNames_Y21) : Dt law24_RaceNames_Y18 := (Dt.ret (v.1, v.2.1, v.2.2.1, v.2.2.2.1, v.2.2.2.2.1, v.2.2.2.2.2.1, v.2.2.2.2.2.2.1, v.2.2.2.2.2.2.2.1, v.2.2.2.2.2.2.2.2.1, v.2.2.2.2.2.2.2.2.2.1, v.2.2.2.2.2.2.2.2.2.2.1, v.2.2.2.2.2.2.2.2.2.2.2.1, v.2.2.2.2.2.2.2.2.2.2.2.2.1, (IntKind.wrap .i64 (v.2.2.2.2.2.2.2.2.2.2.2.2.2.1 + (1:Int))), v.2.2.2.2.2.2.2.2.2.2.2.2.2.2.2.1, v.2.2.2.2.2.2.2.2.2.2.2.2.2.2.2.2.1, v.2.2.2.2.2.2.2.2.2.2.2.2.2.2.2.2.2.1, v.2.2.2.2.2.2.2.2.2.2.2.2.2.2.2.2.2.2.1, v.2.2.2.2.2.2.2.2.2.2.2.2.2.2.2.2.2.2.2.1, v.2.2.2.2.2.2.2.2.2.2.2.2.2.2.2.2.2.2.2.2.1, v.2.2.2.2.2.2.2.2.2.2.2.2.2.2.2.2.2.2.2.2.2.1, v.2.2.2.2.2.2.2.2.2.2.2.2.2.2.2.2.2.2.2.2.2.2.1, v.2.2.2.2.2.2.2.2.2.2.2.2.2.2.2.2.2.2.2.2.2.2.2.1, v.2.2.2.2.2.2.2.2.2.2.2.2.2.2.2.2.2.2.2.2.2.2.2.2.1, v.2.2.2.2.2.2.2.2.2.2.2.2.2.2.2.2.2.2.2.2.2.2.2.2.2.1, v.2.2.2.2.2.2.2.2.2.2.2.2.2.2.2.2.2.2.2.2.2.2.2.2.2.2))
theorem law24_RaceNames_g20 (C : law24_RaceNames_C) (v : law24_RaceNames_Y21) : treg tysT (orc (law24_RaceNames_tab C)) 259 (regO (bodyOf f5) 20) false [(3, .any), (5, .any), (7, .any), (9, .any), (11, .any), (13, .any), (15, .any), (17, .any), (21, .any), (22, (.val Ri)), (23, .any), (25, .any), (26, (.own Riiiii)), (27, .any), (28, .any), (29, .any), (30, (.own RLiiiiiE)), (31, .any)] (law24_RaceNames_S21 v) some = (law24_RaceNames_r20 C v).eval fun y => some (law24_RaceNames_S18 y) := by kernel_rfl
abbrev law24_RaceNames_Y23 : Type := Int × Int × Int × Int × Int × Int × Int × Int × Int × List Di × Int × Int × Int × Bool × List Diiiii
def law24_RaceNames_S23 (v : law24_RaceNames_Y23) : St := ⟨[(3, .int .i64 v.1), (5, .int .i64 v.2.1), (7, .int .i64 v.2.2.1), (9, .int .i64 v.2.2.2.1), (11, .int .i64 v.2.2.2.2.1), (13, .int .i64 v.2.2.2.2.2.1), (15, .int .i64 v.2.2.2.2.2.2.1), (17, .int .i64 v.2.2.2.2.2.2.2.1), (21, .int .i64 v.2.2.2.2.2.2.2.2.1), (22, .fz Ri v.2.2.2.2.2.2.2.2.2.1), (23, .int .i64 v.2.2.2.2.2.2.2.2.2.2.1), (25, .int .i64 v.2.2.2.2.2.2.2.2.2.2.2.1), (26, .rs 0), (27, .int .i64 v.2.2.2.2.2.2.2.2.2.2.2.2.1), (32, .bool v.2.2.2.2.2.2.2.2.2.2.2.2.2.1)], [.rows Riiiii v.2.2.2.2.2.2.2.2.2.2.2.2.2.2]⟩
def law24_RaceNames_r23 (C : law24_RaceNames_C) (v : law24_RaceNames_Y19) : Dt law24_RaceNames_Y23 := (Dt.bnd (C.2.2.2.2.2.2.1 ((([(v.2.2.2.2.2.2.2.2.2.2.2.2.2.2.2.2.1, v.2.2.2.2.2.2.2.2.2.2.2.2.2.2.2.2.2.1, v.2.2.2.2.2.2.2.2.2.2.2.2.2.2.2.2.2.2.1, v.2.2.2.2.2.2.2.2.2.2.2.2.2.2.2.2.2.2.2.1, v.2.2.2.2.2.2.2.2.2.2.2.2.2.2.2.2.2.2.2.2.1, ()), (v.2.2.2.2.2.2.2.2.2.2.2.2.2.2.2.2.2.2.2.2.2.1, v.2.2.2.2.2.2.2.2.2.2.2.2.2.2.2.2.2.2.2.2.2.2.1, v.2.2.2.2.2.2.2.2.2.2.2.2.2.2.2.2.2.2.2.2.2.2.2.1, v.2.2.2.2.2.2.2.2.2.2.2.2.2.2.2.2.2.2.2.2.2.2.2.2.1, v.2.2.2.2.2.2.2.2.2.2.2.2.2.2.2.2.2.2.2.2.2.2.2.2.2.1, ())] : List Diiiii), ()), ())) fun r1 => (Dt.ite (r1 == (0:Int)) (Dt.bnd (C.2.1 (((2:Int), ()), ())) fun r2 => (Dt.bnd (C.2.1 (((2:Int), ()), ())) fun r3 => (Dt.bnd (C.2.2.2.2.2.2.1 ((([(r2.1, r2.2, r3.1, r3.2, (0:Int), ())] : List Diiiii), ()), ())) fun r4 => (Dt.ret (v.1, v.2.1, v.2.2.1, v.2.2.2.1, v.2.2.2.2.1, v.2.2.2.2.2.1, v.2.2.2.2.2.2.1, v.2.2.2.2.2.2.2.1, v.2.2.2.2.2.2.2.2.1, v.2.2.2.2.2.2.2.2.2.1, v.2.2.2.2.2.2.2.2.2.2.1, v.2.2.2.2.2.2.2.2.2.2.2.1, v.2.2.2.2.2.2.2.2.2.2.2.2.1, (r4 == (0:Int)), v.2.2.2.2.2.2.2.2.2.2.2.2.2.2.2.1))))) (Dt.ret (v.1, v.2.1, v.2.2.1, v.2.2.2.1, v.2.2.2.2.1, v.2.2.2.2.2.1, v.2.2.2.2.2.2.1, v.2.2.2.2.2.2.2.1, v.2.2.2.2.2.2.2.2.1, v.2.2.2.2.2.2.2.2.2.1, v.2.2.2.2.2.2.2.2.2.2.1, v.2.2.2.2.2.2.2.2.2.2.2.1, v.2.2.2.2.2.2.2.2.2.2.2.2.1, false, v.2.2.2.2.2.2.2.2.2.2.2.2.2.2.2.1))))
theorem law24_RaceNames_g23 (C : law24_RaceNames_C) (v : law24_RaceNames_Y19) : treg tysT (orc (law24_RaceNames_tab C)) 259 (regO (bodyOf f5) 23) false [(3, .any), (5, .any), (7, .any), (9, .any), (11, .any), (13, .any), (15, .any), (17, .any), (21, .any), (22, (.val Ri)), (23, .any), (25, .any), (26, (.own Riiiii)), (27, .any), (32, .any)] (law24_RaceNames_S19 v) some = (law24_RaceNames_r23 C v).eval fun y => some (law24_RaceNames_S23 y) := by kernel_rfl
def law24_RaceNames_r24 (C : law24_RaceNames_C) (v : law24_RaceNames_Y23) : Dt law24_RaceNames_Y22 := (Dt.bnd (C.2.2.2.2.2.2.2.1 (())) fun r1 => (Dt.ite r1 (Dt.ite v.2.2.2.2.2.2.2.2.2.2.2.2.2.1 (Dt.ite (v.1 == (4:Int)) (Dt.ite (v.2.1 == (8:Int)) (Dt.ite (v.2.2.1 == (2:Int)) (Dt.ite (v.2.2.2.1 == (42:Int)) (Dt.ite (v.2.2.2.2.1 == (42:Int)) (Dt.ite (v.2.2.2.2.2.1 == (2:Int)) (Dt.ite (v.2.2.2.2.2.2.1 == (2:Int)) (Dt.ite (v.2.2.2.2.2.2.2.1 == (6:Int)) (Dt.ite (v.2.2.2.2.2.2.2.2.1 == (0:Int)) (Dt.ite (v.2.2.2.2.2.2.2.2.2.2.1 == (0:Int)) (Dt.ite ((List.length v.2.2.2.2.2.2.2.2.2.1 : Int) == (0:Int)) (Dt.ite (v.2.2.2.2.2.2.2.2.2.2.2.1 == (8:Int)) (Dt.ite (v.2.2.2.2.2.2.2.2.2.2.2.2.1 == (0:Int)) (Dt.bnd (C.2.1 (((2:Int), ()), ())) fun r2 => (Dt.bnd (C.2.1 (((2:Int), ()), ())) fun r3 => (Dt.bnd (C.2.2.2.2.2.2.2.2.1 ((v.2.2.2.2.2.2.2.2.2.2.2.2.2.2, ()), (([(r2.1, r2.2, r3.1, r3.2, (1:Int), ())] : List Diiiii), ()), ())) fun r4 => (Dt.ret r4)))) (Dt.ret false)) (Dt.ret false)) (Dt.ret false)) (Dt.ret false)) (Dt.ite (v.2.2.2.2.2.2.2.2.1 == (16:Int)) (Dt.ite (v.2.2.2.2.2.2.2.2.2.2.1 == (0:Int)) (Dt.ite ((List.length v.2.2.2.2.2.2.2.2.2.1 : Int) == (0:Int)) (Dt.ite (v.2.2.2.2.2.2.2.2.2.2.2.1 == (8:Int)) (Dt.ite (v.2.2.2.2.2.2.2.2.2.2.2.2.1 == (0:Int)) (Dt.bnd (C.2.1 (((2:Int), ()), ())) fun r5 => (Dt.bnd (C.2.1 (((2:Int), ()), ())) fun r6 => (Dt.bnd (C.2.2.2.2.2.2.2.2.1 ((v.2.2.2.2.2.2.2.2.2.2.2.2.2.2, ()), (([(r5.1, r5.2, r6.1, r6.2, (1:Int), ())] : List Diiiii), ()), ())) fun r7 => (Dt.ret r7)))) (Dt.ret false)) (Dt.ret false)) (Dt.ret false)) (Dt.ret false)) (Dt.ret false))) (Dt.ret false)) (Dt.ret false)) (Dt.ret false)) (Dt.ret false)) (Dt.ret false)) (Dt.ret false)) (Dt.ret false)) (Dt.ret false)) (Dt.ret false)) (Dt.ret false)))
theorem law24_RaceNames_g24 (C : law24_RaceNames_C) (v : law24_RaceNames_Y23) : treg tysT (orc (law24_RaceNames_tab C)) 259 (regO (bodyOf f5) 24) false [(0, .any)] (law24_RaceNames_S23 v) some = (law24_RaceNames_r24 C v).eval fun y => some (law24_RaceNames_S22 y) := by kernel_rfl
def law24_RaceNames_L1 (d : Nat) (self1 : (Int × Int × Int × Int × Int × Int × Int × Int × Int × List Di × Int × Int × Int × Int × List Diiiii × Int × Int × Int × Int × Int × Int × Int × Int × Int × Int × List DLiiiiiE) → Option law24_RaceNames_R) (x1 : Int × Int × Int × Int × Int × Int × Int × Int × Int × List Di × Int × Int × Int × Int × List Diiiii × Int × Int × Int × Int × Int × Int × Int × Int × Int × Int × List DLiiiiiE) : Option law24_RaceNames_R :=
  (law24_RaceNames_r19 (law24_RaceNames_K d) x1).eval fun y19 =>
  bif y19.2.2.2.2.2.2.2.2.2.2.2.2.2.2.1 then ((law24_RaceNames_r21 (law24_RaceNames_K d) y19).eval fun y21 =>
  bif y21.2.2.2.2.2.2.2.2.2.2.2.2.2.2.1 then ((law24_RaceNames_r22 (law24_RaceNames_K d) y21).eval fun y22 =>
  some y22) else ((law24_RaceNames_r20 (law24_RaceNames_K d) y21).eval fun y20 =>
  self1 y20)) else ((law24_RaceNames_r23 (law24_RaceNames_K d) y19).eval fun y23 =>
  (law24_RaceNames_r24 (law24_RaceNames_K d) y23).eval fun y24 =>
  some y24)
def F_law24_RaceNames (d : Nat) (x : law24_RaceNames_X) : Option law24_RaceNames_R :=
  (law24_RaceNames_r0 (law24_RaceNames_K d) ()).eval fun y0 =>
  (law24_RaceNames_r1 (law24_RaceNames_K d) ()).eval fun y1 =>
  (law24_RaceNames_r2 (law24_RaceNames_K d) y1).eval fun y2 =>
  (law24_RaceNames_r3 (law24_RaceNames_K d) y2).eval fun y3 =>
  (law24_RaceNames_r4 (law24_RaceNames_K d) y3).eval fun y4 =>
  (law24_RaceNames_r5 (law24_RaceNames_K d) y4).eval fun y5 =>
  (law24_RaceNames_r6 (law24_RaceNames_K d) y5).eval fun y6 =>
  (law24_RaceNames_r7 (law24_RaceNames_K d) y6).eval fun y7 =>
  (law24_RaceNames_r8 (law24_RaceNames_K d) y7).eval fun y8 =>
  (law24_RaceNames_r9 (law24_RaceNames_K d) y8).eval fun y9 =>
  (law24_RaceNames_r10 (law24_RaceNames_K d) y9).eval fun y10 =>
  (law24_RaceNames_r11 (law24_RaceNames_K d) y10).eval fun y11 =>
  (law24_RaceNames_r12 (law24_RaceNames_K d) y11).eval fun y12 =>
  (law24_RaceNames_r13 (law24_RaceNames_K d) y12).eval fun y13 =>
  (law24_RaceNames_r14 (law24_RaceNames_K d) y13).eval fun y14 =>
  (law24_RaceNames_r15 (law24_RaceNames_K d) y14).eval fun y15 =>
  (law24_RaceNames_r16 (law24_RaceNames_K d) y15).eval fun y16 =>
  (law24_RaceNames_r17 (law24_RaceNames_K d) y16).eval fun y17 =>
  (law24_RaceNames_r18 (law24_RaceNames_K d) y17).eval fun y18 =>
  iter (law24_RaceNames_L1 d ) d y18
theorem law24_RaceNames_cok (d : Nat) : COK prog (law24_RaceNames_sp (F_law24_RaceNames d)) := by
  have hm : prog.follows .mixedOrders = true := mixed
  have hT := tys
  have hC0 : OrcOK prog (orc (law24_RaceNames_tab (law24_RaceNames_K d))) := orc_ok (by
    intro S hS
    simp only [law24_RaceNames_tab, List.mem_cons, List.not_mem_nil, or_false] at hS
    rcases hS with rfl | rfl | rfl | rfl | rfl | rfl | rfl | rfl | rfl
    · exact race_Reigns_cok d
    · exact law24_at_cok d
    · exact law24_three_cok d
    · exact race_Laps_cok d
    · exact race_Time_cok d
    · exact race_Medals_cok d
    · exact race_Check_cok d
    · exact law24_alive_cok d
    · exact ref24_Same_cok d)
  have hC : OrcOK prog (orc (law24_RaceNames_tab (law24_RaceNames_K d))) := hC0
  refine cok_of (c := bodyOf f5) (fn := f5) hT (by kernel_rfl) (by kernel_rfl) (by decide) fun x r h w0 φ0 Q hend => ?_
  replace h : F_law24_RaceNames d x = some r := h
  unfold F_law24_RaceNames at h
  show Run prog w0 φ0 259 (bodyOf f5) ⟨[], []⟩ Q
  refine run_seq ?_
  refine run_reg hm hT hC (law24_RaceNames_g0 (law24_RaceNames_K d) ()) h ?_
  intro y0 h
  refine cn_then ?_
  refine run_seq ?_
  refine run_reg hm hT hC (law24_RaceNames_g1 (law24_RaceNames_K d) ()) h ?_
  intro y1 h
  refine cn_then ?_
  refine run_seq ?_
  refine run_reg hm hT hC (law24_RaceNames_g2 (law24_RaceNames_K d) y1) h ?_
  intro y2 h
  refine cn_then ?_
  refine run_seq ?_
  refine run_reg hm hT hC (law24_RaceNames_g3 (law24_RaceNames_K d) y2) h ?_
  intro y3 h
  refine cn_then ?_
  refine run_seq ?_
  refine run_reg hm hT hC (law24_RaceNames_g4 (law24_RaceNames_K d) y3) h ?_
  intro y4 h
  refine cn_then ?_
  refine run_seq ?_
  refine run_reg hm hT hC (law24_RaceNames_g5 (law24_RaceNames_K d) y4) h ?_
  intro y5 h
  refine cn_then ?_
  refine run_seq ?_
  refine run_reg hm hT hC (law24_RaceNames_g6 (law24_RaceNames_K d) y5) h ?_
  intro y6 h
  refine cn_then ?_
  refine run_seq ?_
  refine run_reg hm hT hC (law24_RaceNames_g7 (law24_RaceNames_K d) y6) h ?_
  intro y7 h
  refine cn_then ?_
  refine run_seq ?_
  refine run_reg hm hT hC (law24_RaceNames_g8 (law24_RaceNames_K d) y7) h ?_
  intro y8 h
  refine cn_then ?_
  refine run_seq ?_
  refine run_reg hm hT hC (law24_RaceNames_g9 (law24_RaceNames_K d) y8) h ?_
  intro y9 h
  refine cn_then ?_
  refine run_seq ?_
  refine run_reg hm hT hC (law24_RaceNames_g10 (law24_RaceNames_K d) y9) h ?_
  intro y10 h
  refine cn_then ?_
  refine run_seq ?_
  refine run_reg hm hT hC (law24_RaceNames_g11 (law24_RaceNames_K d) y10) h ?_
  intro y11 h
  refine cn_then ?_
  refine run_seq ?_
  refine run_reg hm hT hC (law24_RaceNames_g12 (law24_RaceNames_K d) y11) h ?_
  intro y12 h
  refine cn_then ?_
  refine run_seq ?_
  refine run_reg hm hT hC (law24_RaceNames_g13 (law24_RaceNames_K d) y12) h ?_
  intro y13 h
  refine cn_then ?_
  refine run_seq ?_
  refine run_reg hm hT hC (law24_RaceNames_g14 (law24_RaceNames_K d) y13) h ?_
  intro y14 h
  refine cn_then ?_
  refine run_seq ?_
  refine run_reg hm hT hC (law24_RaceNames_g15 (law24_RaceNames_K d) y14) h ?_
  intro y15 h
  refine cn_then ?_
  refine run_seq ?_
  refine run_reg hm hT hC (law24_RaceNames_g16 (law24_RaceNames_K d) y15) h ?_
  intro y16 h
  refine cn_then ?_
  refine run_seq ?_
  refine run_reg hm hT hC (law24_RaceNames_g17 (law24_RaceNames_K d) y16) h ?_
  intro y17 h
  refine cn_then ?_
  refine run_seq ?_
  refine run_seq ?_
  refine run_reg hm hT hC (law24_RaceNames_g18 (law24_RaceNames_K d) y17) h ?_
  intro y18 h
  refine cn_then ?_
  refine run_block ?_
  refine run_loop (G := iter (law24_RaceNames_L1 d )) (S := (fun x1 => ⟨[(3, .int .i64 x1.1), (5, .int .i64 x1.2.1), (7, .int .i64 x1.2.2.1), (9, .int .i64 x1.2.2.2.1), (11, .int .i64 x1.2.2.2.2.1), (13, .int .i64 x1.2.2.2.2.2.1), (15, .int .i64 x1.2.2.2.2.2.2.1), (17, .int .i64 x1.2.2.2.2.2.2.2.1), (21, .int .i64 x1.2.2.2.2.2.2.2.2.1), (22, .fz Ri x1.2.2.2.2.2.2.2.2.2.1), (23, .int .i64 x1.2.2.2.2.2.2.2.2.2.2.1), (25, .int .i64 x1.2.2.2.2.2.2.2.2.2.2.2.1), (26, .rs 0), (27, .int .i64 x1.2.2.2.2.2.2.2.2.2.2.2.2.1), (28, .ptr 1 0), (29, .ptr 2 0), (30, .rs 3), (31, .int .i64 x1.2.2.2.2.2.2.2.2.2.2.2.2.2.1)], [.rows Riiiii x1.2.2.2.2.2.2.2.2.2.2.2.2.2.2.1, .cells [.int .i64 x1.2.2.2.2.2.2.2.2.2.2.2.2.2.2.2.1, .int .i64 x1.2.2.2.2.2.2.2.2.2.2.2.2.2.2.2.2.1, .int .i64 x1.2.2.2.2.2.2.2.2.2.2.2.2.2.2.2.2.2.1, .int .i64 x1.2.2.2.2.2.2.2.2.2.2.2.2.2.2.2.2.2.2.1, .int .i64 x1.2.2.2.2.2.2.2.2.2.2.2.2.2.2.2.2.2.2.2.1], .cells [.int .i64 x1.2.2.2.2.2.2.2.2.2.2.2.2.2.2.2.2.2.2.2.2.1, .int .i64 x1.2.2.2.2.2.2.2.2.2.2.2.2.2.2.2.2.2.2.2.2.2.1, .int .i64 x1.2.2.2.2.2.2.2.2.2.2.2.2.2.2.2.2.2.2.2.2.2.2.1, .int .i64 x1.2.2.2.2.2.2.2.2.2.2.2.2.2.2.2.2.2.2.2.2.2.2.2.1, .int .i64 x1.2.2.2.2.2.2.2.2.2.2.2.2.2.2.2.2.2.2.2.2.2.2.2.2.1], .rows RLiiiiiE x1.2.2.2.2.2.2.2.2.2.2.2.2.2.2.2.2.2.2.2.2.2.2.2.2.2]⟩ : Int × Int × Int × Int × Int × Int × Int × Int × Int × List Di × Int × Int × Int × Int × List Diiiii × Int × Int × Int × Int × Int × Int × Int × Int × Int × Int × List DLiiiiiE → St)) (fun _ => rfl) ?_ d _ h
  intro n1 x1 h K1 hn1
  replace h : law24_RaceNames_L1 d  (iter (law24_RaceNames_L1 d ) n1) x1 = some r := h
  generalize iter (law24_RaceNames_L1 d ) n1 = self1 at h hn1
  unfold law24_RaceNames_L1 at h
  refine run_seq ?_
  refine run_seq ?_
  refine run_reg hm hT hC (law24_RaceNames_g19 (law24_RaceNames_K d) x1) h ?_
  intro y19 h
  refine cn_then ?_
  refine run_cond (v := y19.2.2.2.2.2.2.2.2.2.2.2.2.2.2.1) (by kernel_rfl) h ?_ ?_
  ·
    intro h
    refine run_skip ?_
    refine cn_then ?_
    refine run_seq ?_
    refine run_block ?_
    refine run_seq ?_
    refine run_reg hm hT hC (law24_RaceNames_g21 (law24_RaceNames_K d) y19) h ?_
    intro y21 h
    refine cn_then ?_
    refine run_cond (v := y21.2.2.2.2.2.2.2.2.2.2.2.2.2.2.1) (by kernel_rfl) h ?_ ?_
    ·
      intro h
      refine run_seq ?_
      refine run_reg hm hT hC (law24_RaceNames_g22 (law24_RaceNames_K d) y21) h ?_
      intro y22 h
      refine cn_then ?_
      refine run_ret ?_
      refine cn_blk_ret ?_
      refine cn_then_ret ?_
      refine cn_then_ret ?_
      refine cn_blk_ret ?_
      refine cn_then_ret ?_
      cases h
      exact (hend _ (by kernel_rfl)).2
    ·
      intro h
      refine run_skip ?_
      refine cn_blk ?_
      refine cn_then ?_
      refine run_reg hm hT hC (law24_RaceNames_g20 (law24_RaceNames_K d) y21) h ?_
      intro y20 h
      exact hn1 _ h
  ·
    intro h
    refine run_exit ?_
    refine cn_then_exit ?_
    refine cn_then_exit ?_
    refine cn_blk_eq ?_
    refine cn_then ?_
    refine run_seq ?_
    refine run_reg hm hT hC (law24_RaceNames_g23 (law24_RaceNames_K d) y19) h ?_
    intro y23 h
    refine cn_then ?_
    refine run_seq ?_
    refine run_reg hm hT hC (law24_RaceNames_g24 (law24_RaceNames_K d) y23) h ?_
    intro y24 h
    refine cn_then ?_
    refine run_ret ?_
    cases h
    exact (hend _ (by kernel_rfl)).2
end Go.Proofs.Ytpojhcjdcbegiaa

namespace Go
open Go.ChangeShapes Go.WideShapes Go.ChangeAt Go.RowKit
section
variable {H : Type} {enc : TypeId × Value → H} {P : Program} {w : World} {base : Nat} {spare : Nat → Bool} {held : Bool}
/-- a field of a struct -/
theorem field_at {t : TypeId} {fs : Array Field} {fuel : Nat} {cs : List Value} {x : DataW H × List MemPlace} (hs : P.underlying t = some (.struct fs)) (h : DataW.trod enc P w base spare held fuel t cs = some x)
    {i : Nat} {f : Field} (hf : fs[i]? = some f) {off n : Nat} {ft : TypeId} (ho : f.offset = off) (ht : f.type = ft) (hn : P.cellsOf ft = n) : ∃ m y, DataW.trod enc P w base spare held m ft ((cs.drop off).take n) = some y := by
  obtain ⟨xs, m, _, _, _, hlen, hg⟩ := DataW.trod_struct hs h
  have h1 := hg i f hf
  subst ho ht hn
  have hi : i < xs.length := by rw [hlen]; exact (Array.getElem?_eq_some_iff.1 hf).1
  exact ⟨m, xs[i], by rw [h1, List.getElem?_eq_getElem hi]⟩
theorem int_cell {t : TypeId} {k : IntKind} {fuel : Nat} {cs : List Value} {x : DataW H × List MemPlace} (ht : P.underlying t = some (.int k)) (h : DataW.trod enc P w base spare held fuel t cs = some x) : ∃ n, cs = [.int k n] ∧ (Lit.int k n).wf = true := by
  obtain ⟨n, h1, _, h2⟩ := DataW.trod_int ht h; exact ⟨n, h1, h2⟩
theorem wf_i64 {n : Int} (h : (Lit.int .i64 n).wf = true) : -9223372036854775808 ≤ n ∧ n ≤ 9223372036854775807 := bounds_i64 h
theorem wf_u8 {n : Int} (h : (Lit.int .u8 n).wf = true) : 0 ≤ n ∧ n ≤ 255 := bounds_u8 h
theorem bytes_of (zs : List Int) (h : ∀ n ∈ zs, (Lit.int .u8 n).wf = true) : ∃ l : List UInt8, zs = l.map fun x => (x.toNat : Int) := by
  induction zs with
  | nil => exact ⟨[], rfl⟩
  | cons z zs ih =>
    obtain ⟨l, rfl⟩ := ih (fun n hn => h n (List.mem_cons_of_mem _ hn))
    have hz := wf_u8 (h z (List.mem_cons_self ..))
    refine ⟨UInt8.ofNat z.toNat :: l, ?_⟩
    rw [List.map_cons]
    congr 1
    simp; omega
/-- bytes that came in -/
theorem arg_bytes {t e : TypeId} {fuel : Nat} {A : Option Addr} {n c : Nat} {x : DataW H × List MemPlace} (ht : P.underlying t = some (.slice e)) (he : P.underlying e = some (.int .u8)) (hc : P.cellsOf e = 1)
    (h : DataW.trod enc P w base (fun _ => true) held fuel t [Value.slice A n c] = some x) : ∃ l : List UInt8, l.length = n ∧ Sl w 1 A l.length c (vb l) := by
  rcases open_ints ht he hc h with ⟨hcs, _⟩ | ⟨a, len, cap, zs, hcs, _, hl, hm, hz, _, hcell, hwz⟩
  · simp only [List.cons.injEq, and_true] at hcs
    injection hcs with h1 h2 h3
    subst h1 h2 h3
    exact ⟨[], rfl, Sl.nil_ _ _ _ _⟩
  · simp only [List.cons.injEq, and_true] at hcs
    injection hcs with h1 h2 h3
    subst h1 h2 h3
    have hz' : zs.length = c := by simpa using hz
    obtain ⟨l, hl'⟩ := bytes_of (zs.take n) (fun m hm => hwz m (List.mem_of_mem_take hm))
    have hlen : l.length = n := by
      have := congrArg List.length hl'
      rw [List.length_take, List.length_map] at this; omega
    refine ⟨l, hlen, by omega, by rw [vb_length]; omega, fun hn => ?_⟩
    obtain ⟨b, o, spot⟩ := a
    have h0 := hcell 0 (by omega)
    have hspot : spot = none := by simpa [Addr.add] using World.cell?_spot h0
    subst hspot
    refine ⟨b, o, rfl, ?_, fun j u hu => ?_⟩
    · have hb := World.block_lt_of_cell? w _ h0
      simpa [Addr.add] using hb
    · rw [vb_get] at hu
      have hj : j < l.length := by
        rcases Nat.lt_or_ge j l.length with h | h
        · exact h
        · rw [List.getElem?_eq_none h] at hu; cases hu
      have h1 := hcell j (by omega)
      have e1 : (⟨b, o, none⟩ : Addr).add j = ⟨b, o + j, none⟩ := by
        unfold Addr.add; split
        · rename_i h0; rw [h0]; rfl
        · rfl
      rw [e1] at h1
      rw [h1, ← hu]
      have e2 : (zs.take n)[j]? = some (zs.getD j 0) := by
        rw [List.getElem?_take, if_pos (by omega), List.getD_eq_getElem?_getD, List.getElem?_eq_getElem (by omega)]; rfl
      rw [hl'] at e2
      rw [List.getElem?_map] at e2
      cases hx : l[j]? with
      | none => rw [hx] at e2; cases e2
      | some y => rw [hx] at e2; simp only [Option.map_some, Option.some.injEq] at e2 ⊢; rw [e2]
end
end Go
namespace Go.Proofs.Ytpojhcjdcbegiaa
open Go.ChangeShapes Go.WideShapes Go.ChangeAt Go.RowKit
theorem ownKnob_ : ownKnob Try.prog.godebug = none := by kernel_rfl
theorem laidOut_ : laidOutB Try.prog = true := by kernel_rfl
end Go.Proofs.Ytpojhcjdcbegiaa
