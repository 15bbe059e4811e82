/- Walks of the references; the orders agree; examples. -/
import Derived.Test.YthopjgahedijcaaProg
import Derived.ChangeKeysEq
import Derived.Shelf.SlSortCmp.NoneTotal
import Derived.TacticsInMore
import Derived.LoopIn
import Derived.LoopNIn
import Derived.Test.YthopjgahedijcaaGc
set_option linter.unusedSimpArgs false
set_option linter.unusedVariables false
namespace Go.Proofs.Ythopjgahedijcaa
open Go Go.Tx Go.Proofs.Try
abbrev Ri : Go.Tx.Row := (.int .i64 .nil)
abbrev Di : Type := (Int × Unit)
abbrev zi : Di := (0, ())
abbrev Rb : Go.Tx.Row := (.bool .nil)
abbrev Db : Type := (Bool × Unit)
abbrev zb : Db := (false, ())
abbrev Rc : Go.Tx.Row := (.int .u8 .nil)
abbrev Dc : Type := (Int × Unit)
abbrev zc : Dc := (0, ())
abbrev Ru : Go.Tx.Row := (.int .u64 .nil)
abbrev Du : Type := (Int × Unit)
abbrev zu : Du := (0, ())
abbrev Rw : Go.Tx.Row := (.int .i32 .nil)
abbrev Dw : Type := (Int × Unit)
abbrev zw : Dw := (0, ())
abbrev Riii : Go.Tx.Row := (.int .i64 (.int .i64 (.int .i64 .nil)))
abbrev Diii : Type := (Int × (Int × (Int × Unit)))
abbrev ziii : Diii := (0, 0, 0, ())
abbrev RLiiiE : Go.Tx.Row := (.sl Riii .nil)
abbrev DLiiiE : Type := (List Diii × Unit)
abbrev zLiiiE : DLiiiE := ([], ())
abbrev Rii : Go.Tx.Row := (.int .i64 (.int .i64 .nil))
abbrev Dii : Type := (Int × (Int × Unit))
abbrev zii : Dii := (0, 0, ())
abbrev Riiii : Go.Tx.Row := (.int .i64 (.int .i64 (.int .i64 (.int .i64 .nil))))
abbrev Diiii : Type := (Int × (Int × (Int × (Int × Unit))))
abbrev ziiii : Diiii := (0, 0, 0, 0, ())
abbrev RLiiiiE : Go.Tx.Row := (.sl Riiii .nil)
abbrev DLiiiiE : Type := (List Diiii × Unit)
abbrev zLiiiiE : DLiiiiE := ([], ())
abbrev Rbuu : Go.Tx.Row := (.bool (.int .u64 (.int .u64 .nil)))
abbrev Dbuu : Type := (Bool × (Int × (Int × Unit)))
abbrev zbuu : Dbuu := (false, 0, 0, ())
abbrev Riu : Go.Tx.Row := (.int .i64 (.int .u64 .nil))
abbrev Diu : Type := (Int × (Int × Unit))
abbrev ziu : Diu := (0, 0, ())
abbrev RLiiE : Go.Tx.Row := (.sl Rii .nil)
abbrev DLiiE : Type := (List Dii × Unit)
abbrev zLiiE : DLiiE := ([], ())
abbrev RLiE : Go.Tx.Row := (.sl Ri .nil)
abbrev DLiE : Type := (List Di × Unit)
abbrev zLiE : DLiE := ([], ())
abbrev Rv : Go.Tx.Row := (.int .u32 .nil)
abbrev Dv : Type := (Int × Unit)
abbrev zv : Dv := (0, ())
theorem mixed : prog.follows .mixedOrders = true := by kernel_rfl
def tysT : Tys := [(2, ⟨.int .i64, 1, false, [.int .i64 0], false⟩),
  (3, ⟨.int .i64, 1, false, [.int .i64 0], false⟩),
  (4, ⟨.bool, 1, false, [.bool false], false⟩),
  (5, ⟨.int .u8, 1, false, [.int .u8 0], false⟩),
  (6, ⟨.int .u8, 1, false, [.int .u8 0], false⟩),
  (12, ⟨.int .u64, 1, false, [.int .u64 0], false⟩),
  (21, ⟨.int .i32, 1, false, [.int .i32 0], false⟩),
  (22, ⟨.slice 60 Riii, 1, false, [.nils], false⟩),
  (24, ⟨.struct [(0, 22)], 1, true, [.nils], false⟩),
  (26, ⟨.struct [(0, 2), (1, 2)], 2, true, [.int .i64 0, .int .i64 0], true⟩),
  (29, ⟨.struct [(0, 26), (2, 3), (3, 3)], 4, true, [.int .i64 0, .int .i64 0, .int .i64 0, .int .i64 0], true⟩),
  (30, ⟨.int .i64, 1, false, [.int .i64 0], false⟩),
  (42, ⟨.slice 29 Riiii, 1, false, [.nils], false⟩),
  (60, ⟨.struct [(0, 3), (1, 2), (2, 2)], 3, true, [.int .i64 0, .int .i64 0, .int .i64 0], false⟩),
  (71, ⟨.int .u64, 1, false, [.int .u64 0], false⟩),
  (75, ⟨.struct [(0, 4), (1, 71), (2, 71)], 3, true, [.bool false, .int .u64 0, .int .u64 0], false⟩),
  (81, ⟨.other, 1, false, [.undef], false⟩),
  (87, ⟨.struct [(0, 2), (1, 71)], 2, true, [.int .i64 0, .int .u64 0], false⟩),
  (89, ⟨.array 2 2, 2, true, [.int .i64 0, .int .i64 0], false⟩),
  (90, ⟨.array 2 89, 4, true, [.int .i64 0, .int .i64 0, .int .i64 0, .int .i64 0], false⟩),
  (96, ⟨.slice 26 Rii, 1, false, [.nils], false⟩),
  (100, ⟨.other, 1, false, [.undef], false⟩),
  (103, ⟨.other, 1, false, [.undef], false⟩),
  (107, ⟨.other, 1, false, [.undef], false⟩),
  (112, ⟨.int .u64, 1, false, [.int .u64 0], false⟩),
  (123, ⟨.slice 3 Ri, 1, false, [.nils], false⟩),
  (128, ⟨.struct [(0, 4), (1, 71), (2, 71)], 3, true, [.bool false, .int .u64 0, .int .u64 0], false⟩),
  (132, ⟨.int .i64, 1, false, [.int .i64 0], false⟩),
  (139, ⟨.int .u32, 1, false, [.int .u32 0], false⟩),
  (142, ⟨.int .u64, 1, false, [.int .u64 0], false⟩),
  (149, ⟨.other, 1, false, [.nilp], false⟩),
  (158, ⟨.int .u8, 1, false, [.int .u8 0], false⟩),
  (159, ⟨.int .u8, 1, false, [.int .u8 0], false⟩),
  (162, ⟨.int .i32, 1, false, [.int .i32 0], false⟩),
  (163, ⟨.int .i32, 1, false, [.int .i32 0], false⟩)]
set_option maxRecDepth 20000 in
set_option maxHeartbeats 4000000 in
theorem eqr_26 (n : Nat) (k0 k1 : IntKind) (a0 a1 b0 b1 : Int) (w : World) : (Op.equalIn (n + 2) 26 (.agg #[.int k0 a0, .int k1 a1]) (.agg #[.int k0 b0, .int k1 b1])).run prog w = .ok ((a0 == b0) && (a1 == b1)) w := by
  have hst : prog.stoodInHeld 26 = false := by kernel_rfl
  have hu : prog.underlying 26 = some (.struct (prog.fieldsOf 26)) := by kernel_rfl
  have hf := Try.underlying26
  rw [hu] at hf
  injection hf with hf
  injection hf with hf
  have e2 := fun (k : IntKind) (x y : Int) => run_equalIn_int (P := prog) w (n + 0) 2 k .i64 x y Try.underlying2
  rw [run_equalIn_struct w (n + 1) 26 _ _ hu hst, hf]
  simp [Op.eqFields, part, Sem.run_bind, Result.andThen_ok, e2, Try.isAgg2]
  cases h0 : (a0 == b0) <;> cases h1 : (a1 == b1) <;> simp_all
theorem eqt_26 : EqT prog 26 2 := by
  refine ⟨fun vs us b w h1 h2 h => ?_, by kernel_rfl⟩
  obtain ⟨a0, a1, rfl⟩ : ∃ a0 a1, vs = [a0, a1] := by
    match vs, h1 with
    | [a0, a1], _ => exact ⟨a0, a1, rfl⟩
  obtain ⟨b0, b1, rfl⟩ : ∃ b0 b1, us = [b0, b1] := by
    match us, h2 with
    | [b0, b1], _ => exact ⟨b0, b1, rfl⟩
  obtain ⟨k0, x0, y0, c0, rfl, rfl, g0, rfl⟩ := eqVs_cons h
  obtain ⟨k1, x1, y1, c1, rfl, rfl, g1, rfl⟩ := eqVs_cons g0
  obtain rfl := eqVs_nil g1
  refine (eqr_26 9998 k0 k1 x0 x1 y0 y1 w).trans ?_
  simp [Bool.and_assoc]
set_option maxRecDepth 20000 in
set_option maxHeartbeats 4000000 in
theorem eqr_29 (n : Nat) (k0 k1 k2 k3 : IntKind) (a0 a1 a2 a3 b0 b1 b2 b3 : Int) (w : World) : (Op.equalIn (n + 3) 29 (.agg #[.int k0 a0, .int k1 a1, .int k2 a2, .int k3 a3]) (.agg #[.int k0 b0, .int k1 b1, .int k2 b2, .int k3 b3])).run prog w = .ok ((a0 == b0) && (a1 == b1) && (a2 == b2) && (a3 == b3)) w := by
  have hst : prog.stoodInHeld 29 = false := by kernel_rfl
  have hu : prog.underlying 29 = some (.struct (prog.fieldsOf 29)) := by kernel_rfl
  have hf := Try.underlying29
  rw [hu] at hf
  injection hf with hf
  injection hf with hf
  have e3 := fun (k : IntKind) (x y : Int) => run_equalIn_int (P := prog) w (n + 1) 3 k .i64 x y Try.underlying3
  have e26 := fun (k0 k1 : IntKind) (x0 x1 y0 y1 : Int) => eqr_26 (n + 0) k0 k1 x0 x1 y0 y1 w
  rw [run_equalIn_struct w (n + 2) 29 _ _ hu hst, hf]
  simp [Op.eqFields, part, Sem.run_bind, Result.andThen_ok, e3, Try.isAgg3, e26, Try.isAgg26, Try.sizeOf26]
  cases h0 : (a0 == b0) <;> cases h1 : (a1 == b1) <;> cases h2 : (a2 == b2) <;> cases h3 : (a3 == b3) <;> simp_all
theorem eqt_29 : EqT prog 29 4 := by
  refine ⟨fun vs us b w h1 h2 h => ?_, by kernel_rfl⟩
  obtain ⟨a0, a1, a2, a3, rfl⟩ : ∃ a0 a1 a2 a3, vs = [a0, a1, a2, a3] := by
    match vs, h1 with
    | [a0, a1, a2, a3], _ => exact ⟨a0, a1, a2, a3, rfl⟩
  obtain ⟨b0, b1, b2, b3, rfl⟩ : ∃ b0 b1 b2 b3, us = [b0, b1, b2, b3] := by
    match us, h2 with
    | [b0, b1, b2, b3], _ => exact ⟨b0, b1, b2, b3, rfl⟩
  obtain ⟨k0, x0, y0, c0, rfl, rfl, g0, rfl⟩ := eqVs_cons h
  obtain ⟨k1, x1, y1, c1, rfl, rfl, g1, rfl⟩ := eqVs_cons g0
  obtain ⟨k2, x2, y2, c2, rfl, rfl, g2, rfl⟩ := eqVs_cons g1
  obtain ⟨k3, x3, y3, c3, rfl, rfl, g3, rfl⟩ := eqVs_cons g2
  obtain rfl := eqVs_nil g3
  refine (eqr_29 9997 k0 k1 k2 k3 x0 x1 x2 x3 y0 y1 y2 y3 w).trans ?_
  simp [Bool.and_assoc]
theorem tys : TysOK prog tysT := tys_ok (by kernel_rfl) (by
  intro p hp he
  simp only [tysT, List.mem_cons, List.not_mem_nil, or_false] at hp
  rcases hp with rfl | rfl | rfl | rfl | rfl | rfl | rfl | rfl | rfl | rfl | rfl | rfl | rfl | rfl | rfl | rfl | rfl | rfl | rfl | rfl | rfl | rfl | rfl | rfl | rfl | rfl | rfl | rfl | rfl | rfl | rfl | rfl | rfl | rfl | rfl
  all_goals first | exact eqt_26 | exact eqt_29 | (cases he; done))
end Go.Proofs.Ythopjgahedijcaa

namespace Go.Proofs.Ythopjgahedijcaa
open Go Go.Tx Go.Pel Go.Proofs.Try
set_option maxRecDepth 100000
set_option maxHeartbeats 0
theorem or_dec {p : Prop} [Decidable p] {b : Bool} (h : (decide p || b) = true) : p ∨ b = true := by simpa using h
abbrev course_Ahead_ps : List Pk := [.row Riii true, .row Riii true, .row Rii true]
abbrev course_Ahead_X : Type := Diii × Diii × Dii × Unit
abbrev course_Ahead_R : Type := Bool × Int
def course_Ahead_enc (r : course_Ahead_R) : LV × List Ob := (.tup [.bool r.1, .int .i64 r.2], [])
def course_Ahead_sp (F : course_Ahead_X → Option course_Ahead_R) : Go.Tx.Spec := ⟨32, course_Ahead_ps, course_Ahead_R, F, course_Ahead_enc⟩
def course_Ahead_if (x : course_Ahead_X) : Bool := i64B x.2.2.1.1 && i64B x.2.2.1.2.1
def F_course_Ahead (d : Nat) (x : course_Ahead_X) : Option course_Ahead_R := bif course_Ahead_if x then some ((aheadV (ofP x.1) (ofP x.2.1) x.2.2.1.1 x.2.2.1.2.1).1, (aheadV (ofP x.1) (ofP x.2.1) x.2.2.1.1 x.2.2.1.2.1).2) else none
theorem F_course_Ahead_eq (d : Nat) (x : course_Ahead_X) (h : course_Ahead_if x = true) : F_course_Ahead d x = some ((aheadV (ofP x.1) (ofP x.2.1) x.2.2.1.1 x.2.2.1.2.1).1, (aheadV (ofP x.1) (ofP x.2.1) x.2.2.1.1 x.2.2.1.2.1).2) := by unfold F_course_Ahead; rw [h]; rfl
theorem course_Ahead_cok (d : Nat) : COK prog (course_Ahead_sp (F_course_Ahead d)) := by
  refine cok_old (body_of (fn := f32) (by kernel_rfl) (by kernel_rfl) (by kernel_rfl)) fun x r hx w φ vs hφ hv => ?_
  have hx : F_course_Ahead d x = some r := hx
  unfold F_course_Ahead at hx
  obtain ⟨hc, rfl⟩ := bif_some hx
  have hv : VRs (Emb.fro φ) [.agg [.int .i64 x.1.1, .int .i64 x.1.2.1, .int .i64 x.1.2.2.1], .agg [.int .i64 x.2.1.1, .int .i64 x.2.1.2.1, .int .i64 x.2.1.2.2.1], .agg [.int .i64 x.2.2.1.1, .int .i64 x.2.2.1.2.1]] vs := hv
  obtain ⟨v0, vs, rfl, q0, hv⟩ := VRs.uncons hv
  obtain ⟨v1, vs, rfl, q1, hv⟩ := VRs.uncons hv
  obtain ⟨v2, rfl, q2⟩ := vrs1 hv
  have r0 := vr_point (p := x.1) q0; subst r0
  have r1 := vr_point (p := x.2.1) q1; subst r1
  have r2 := vr_ratio q2; subst r2
  unfold course_Ahead_if at hc
  simp only [Bool.and_eq_true] at hc
  obtain ⟨h1, h2⟩ := hc
  refine (ahead_any (ofP x.1) (ofP x.2.1) x.2.2.1.1 x.2.2.1.2.1 w (i64B_iff h1) (i64B_iff h2)).mono ?_
  rintro e w' ⟨rfl, y, rfl⟩
  exact gives_pure hφ (VR.tupL (VRs.cons (.bool _) (VRs.cons (.int _ _) VRs.nil))) y
end Go.Proofs.Ythopjgahedijcaa

namespace Go.Proofs
open Go.Shelf
def Try.laysSortM_ren : Go.Shelf.Ren := ⟨fun | 6 => 59 | 15 => 81 | 14 => 80 | 28 => 99 | 29 => 84 | 20 => 91 | 21 => 92 | 22 => 93 | 23 => 94 | 24 => 95 | 25 => 96 | 26 => 97 | 27 => 98 | 46 => 103 | 47 => 104 | 48 => 105 | 49 => 106 | 50 => 107 | 57 => 109 | n => n, fun | 22 => 42 | 24 => 29 | 25 => 100 | 3 => 3 | 39 => 112 | 0 => 0 | 53 => 139 | 55 => 71 | 4 => 4 | 46 => 133 | 45 => 132 | 50 => 101 | 5 => 5 | 9 => 9 | 66 => 142 | 70 => 146 | 76 => 149 | 77 => 54 | n => n, fun | n => n⟩
theorem Try.laysSortM : Go.Proofs.SlLaysF0.n6 Try.prog Try.laysSortM_ren := {
  mixed := by kernel_rfl
  f6 := ⟨Try.f59.name, by decide, Try.func59.trans (congrArg some (by kernel_rfl))⟩
  f14 := ⟨Try.f80.name, by decide, Try.func80.trans (congrArg some (by kernel_rfl))⟩
  f15 := Try.func81.trans (congrArg some (by kernel_rfl))
  f20 := ⟨Try.f91.name, by decide, Try.func91.trans (congrArg some (by kernel_rfl))⟩
  f21 := ⟨Try.f92.name, by decide, Try.func92.trans (congrArg some (by kernel_rfl))⟩
  f22 := ⟨Try.f93.name, by decide, Try.func93.trans (congrArg some (by kernel_rfl))⟩
  f23 := ⟨Try.f94.name, by decide, Try.func94.trans (congrArg some (by kernel_rfl))⟩
  f24 := ⟨Try.f95.name, by decide, Try.func95.trans (congrArg some (by kernel_rfl))⟩
  f25 := ⟨Try.f96.name, by decide, Try.func96.trans (congrArg some (by kernel_rfl))⟩
  f26 := ⟨Try.f97.name, by decide, Try.func97.trans (congrArg some (by kernel_rfl))⟩
  f27 := ⟨Try.f98.name, by decide, Try.func98.trans (congrArg some (by kernel_rfl))⟩
  f28 := Try.func99.trans (congrArg some (by kernel_rfl))
  f29 := Try.func84.trans (congrArg some (by kernel_rfl))
  f46 := ⟨Try.f103.name, by decide, Try.func103.trans (congrArg some (by kernel_rfl))⟩
  f47 := Try.func104.trans (congrArg some (by kernel_rfl))
  f48 := Try.func105.trans (congrArg some (by kernel_rfl))
  f49 := ⟨Try.f106.name, by decide, Try.func106.trans (congrArg some (by kernel_rfl))⟩
  f50 := ⟨Try.f107.name, by decide, Try.func107.trans (congrArg some (by kernel_rfl))⟩
  f57 := ⟨Try.f109.name, by decide, Try.func109.trans (congrArg some (by kernel_rfl))⟩
  t0 := Try.underlying0
  a0 := Try.isAgg0
  z0 := Try.sizeOf0
  v0 := Try.zeroValue0
  t3 := Try.underlying3
  a3 := Try.isAgg3
  z3 := Try.sizeOf3
  v3 := Try.zeroValue3
  t4 := Try.underlying4
  a4 := Try.isAgg4
  z4 := Try.sizeOf4
  v4 := Try.zeroValue4
  t5 := Try.underlying5
  a5 := Try.isAgg5
  z5 := Try.sizeOf5
  v5 := Try.zeroValue5
  t9 := Try.underlying9
  a9 := Try.isAgg9
  z9 := Try.sizeOf9
  v9 := Try.zeroValue9
  t22 := Try.underlying42
  a22 := Try.isAgg42
  z22 := Try.sizeOf42
  v22 := Try.zeroValue42
  t25 := Try.underlying100
  a25 := Try.isAgg100
  z25 := Try.sizeOf100
  v25 := Try.zeroValue100
  t39 := Try.underlying112
  a39 := Try.isAgg112
  z39 := Try.sizeOf112
  v39 := Try.zeroValue112
  t45 := Try.underlying132
  a45 := Try.isAgg132
  z45 := Try.sizeOf132
  v45 := Try.zeroValue132
  t46 := Try.underlying133
  a46 := Try.isAgg133
  z46 := Try.sizeOf133
  v46 := Try.zeroValue133
  t50 := Try.underlying101
  a50 := Try.isAgg101
  z50 := Try.sizeOf101
  v50 := Try.zeroValue101
  t53 := Try.underlying139
  a53 := Try.isAgg139
  z53 := Try.sizeOf139
  v53 := Try.zeroValue139
  t55 := Try.underlying71
  a55 := Try.isAgg71
  z55 := Try.sizeOf71
  v55 := Try.zeroValue71
  t66 := Try.underlying142
  a66 := Try.isAgg142
  z66 := Try.sizeOf142
  v66 := Try.zeroValue142
  t70 := Try.underlying146
  a70 := Try.isAgg146
  z70 := Try.sizeOf146
  v70 := Try.zeroValue146
  t76 := Try.underlying149
  a76 := Try.isAgg149
  z76 := Try.sizeOf149
  v76 := Try.zeroValue149
  t77 := Try.underlying54
  a77 := Try.isAgg54
  z77 := Try.sizeOf54
  v77 := Try.zeroValue54 }
end Go.Proofs

namespace Go.Proofs.Ythopjgahedijcaa
open Go Go.Tx Go.Proofs.Try
theorem sort_api_Meeting_ok {g : FuncId} {F : den Riiii × den Riiii × Unit → Option Int} (hS : COK prog ⟨g, [.row Riiii true, .row Riiii true], Int, F, fun r => (.int .i64 r, [])⟩) {C : Orc} (hC : OrcOK prog C) : OrcOK prog (orcS 59 g Riiii F C) :=
  orcS_ok (τ := Riiii) (ρ := laysSortM_ren) laysSortM rfl isAgg29 sizeOf29 hS (body_of (fn := f59) (by kernel_rfl) (by kernel_rfl) (by kernel_rfl)) hC
end Go.Proofs.Ythopjgahedijcaa

namespace Go.Tx
open Go Go.Pel
def pairsL {α : Type} : List α → List (α × α)
  | [] => []
  | p :: r => r.map (fun q => (p, q)) ++ pairsL r
def pairsB {α : Type} (l : List α) : Bool := Nat.ble l.length 1000
theorem pairsL_drop {α : Type} {l : List α} {k : Nat} {p : α} (h : l[k]? = some p) : pairsL (l.drop k) = ((l.drop (k + 1)).drop 0).map (fun q => (p, q)) ++ pairsL (l.drop (k + 1)) := by
  have hk := (List.getElem?_eq_some_iff.1 h).1
  have hp : l[k] = p := by rw [List.getElem?_eq_getElem hk] at h; exact Option.some.inj h
  rw [List.drop_eq_getElem_cons hk, pairsL, hp, List.drop_zero]
theorem pairs_next {α : Type} {l : List α} {k m : Nat} {p q : α} (h : l[k + 1 + m]? = some q) : ((l.drop (k + 1)).drop m).map (fun q => (p, q)) = (p, q) :: ((l.drop (k + 1)).drop (m + 1)).map (fun q => (p, q)) := by
  have hk := (List.getElem?_eq_some_iff.1 h).1
  have hp : l[k + 1 + m] = q := by rw [List.getElem?_eq_getElem hk] at h; exact Option.some.inj h
  rw [List.drop_drop, List.drop_drop, List.drop_eq_getElem_cons hk, hp, List.map_cons, Nat.add_assoc (k + 1) m 1]
/-- a slice that is written no more, in every world that keeps it -/
theorem fz_all {η : Emb} {τ : Row} (h : plainR τ = true) (hs : 0 < τ.size) {xs : List (den τ)} {v : Value} {w : World} (hw : ∀ k ob, η.fz k = some ob → w.heap[k]? = some ob) (hv : VR η (.fz τ xs) v) : ∃ A c, v = .slice A xs.length c ∧ ∀ w : World, (∀ k ob, η.fz k = some ob → w.heap[k]? = some ob) → Sl w τ.size A xs.length c (valsL τ xs) := by
  have hv' : VR (Emb.fro η.fz) (.fz τ xs) v := by
    cases hv with
    | fz hf => exact .fz hf
  obtain ⟨A, c, rfl, _, _⟩ := fz_sl hw h hs hv'
  refine ⟨A, c, rfl, fun w' hw' => ?_⟩
  obtain ⟨A', c', e, h1, _⟩ := fz_sl hw' h hs hv'
  injection e with e1 e2 e3
  subst e1 e3
  exact h1
theorem el3 {w : World} {b o n c k : Nat} {l : List (Int × Int × Int × Unit)} {x : Int × Int × Int × Unit} (h : Sl w 3 (some ⟨b, o, none⟩) n c (valsL (.int .i64 (.int .i64 (.int .i64 .nil))) l)) (hx : l[k]? = some x) : w.cell? ⟨b, o + k * 3, none⟩ = some (.int .i64 x.1) ∧ w.cell? ⟨b, o + k * 3 + 1, none⟩ = some (.int .i64 x.2.1) ∧ w.cell? ⟨b, o + k * 3 + 2, none⟩ = some (.int .i64 x.2.2.1) := by
  have e : valsL (.int .i64 (.int .i64 (.int .i64 .nil))) l = vp (ptsL l) := valsL_pt l
  rw [e] at h
  have hx' : (ptsL l)[k]? = some (ofP x) := by unfold ptsL; rw [List.getElem?_map, hx]; rfl
  exact pt_at h hx'
theorem lt_of_cell3 {w : World} {b o : Nat} {v : Value} (h : w.cell? ⟨b, o, none⟩ = some v) : b < w.heap.size := by
  unfold World.cell? at h
  cases hb : w.heap[b]? with
  | none => rw [show w.heap[(⟨b, o, none⟩ : Addr).block]? = w.heap[b]? from rfl, hb] at h; cases h
  | some ob => exact (Array.getElem?_eq_some_iff.1 hb).1
theorem cell_of_cells {w : World} {b : Nat} {cs : Array Value} {e : TypeId} {f : Nat × Nat} (h : w.heap[b]? = some (.cells cs e f)) (j : Nat) : w.cell? ⟨b, j, none⟩ = cs[j]? := by
  unfold World.cell?
  rw [show w.heap[(⟨b, j, none⟩ : Addr).block]? = w.heap[b]? from rfl, h]
  rfl
end Go.Tx
namespace Go.Proofs.Ythopjgahedijcaa
open Go Go.Tx Go.Pel Go.RowKit Go.Shelf Go.Proofs.Try
attribute [local go_sem] Oper.semAt_some
set_option maxRecDepth 100000 in
set_option maxHeartbeats 1000000 in
theorem pairs1_iter {l : List Diii} (h : pairsB l = true) : IterOK prog 67 [.fz Riii l] (fun x : Diii × Diii => #[.agg #[.int .i64 x.1.1, .int .i64 x.1.2.1, .int .i64 x.1.2.2.1], .agg #[.int .i64 x.2.1, .int .i64 x.2.2.1, .int .i64 x.2.2.2.1]]) (pairsL l) := by
  have hl : l.length ≤ 1000 := Nat.le_of_ble_eq_true h
  intro w η ⟨B, Bo, Bl⟩ hat hw
  obtain ⟨v, h1, h2⟩ := hat.cell 0 _ rfl
  have hlt : B < w.heap.size := hat.lt
  obtain ⟨A, c, rfl, hS⟩ := fz_all (τ := Riii) rfl (by decide) hw h2
  clear h2 hat h
  intro l0 J W hW hJ1 hJ2 hY h0
  have hB0 : W.heap[B]? = w.heap[B]? := hW.block _ hlt
  have hc0 : W.cell? ⟨B, Bo, none⟩ = some (.slice A l.length c) := (hW.cell (p := ⟨B, Bo + 0, none⟩) hlt).trans h1
  have hF0 : ∀ k ob, η.fz k = some ob → W.heap[k]? = some ob := fun k ob hk => (hW.block _ (Array.getElem?_eq_some_iff.1 (hw k ob hk)).1).trans (hw k ob hk)
  have HS := Lib.hid hS
  have HF0 := Lib.hid hF0
  have HW := Lib.hid hw
  have HY := Lib.hid hY
  have HJ1 := Lib.hid hJ1
  have HJ2 := Lib.hid hJ2
  have H0 := Lib.hid h0
  clear h1 hS hF0 hw hY hJ1 hJ2 hW hB0 hlt h0
  dsimp only
  refine callsIn_of_wp Try.func67 rfl trivial ?_ rfl
  simp only [Try.ntmps67, List.size_toArray, List.length_cons, List.length_nil, Nat.reduceAdd, Nat.reduceSub, Array.replicate_succ, Array.replicate_zero, List.push_toArray, List.append_toArray, List.nil_append, List.cons_append]
  gi_wp2
  gi_loopw [10] (fun i wr => ∃ (k : Nat) (T : Nat → Prop) (pre : List (Diii × Diii)), i = .int .i64 k ∧ k ≤ l.length ∧ wr.cell? ⟨B, Bo, none⟩ = some (.slice A l.length c) ∧ (∀ j ob, η.fz j = some ob → wr.heap[j]? = some ob) ∧ pre ++ pairsL (l.drop k) = pairsL l ∧ J T pre wr) (fun i _ => l.length - (intOf i).toNat)
  case atStart => exact ⟨0, _, [], rfl, Nat.zero_le _, hc0, HF0.out, rfl, H0.out⟩
  case round =>
    obtain ⟨k, T, pre, rfl, hk, hc, hF, hx, hj⟩ := hrel
    clear hc0 HF0 H0
    by_cases hlt : k < l.length
    · obtain ⟨wo, rfl⟩ : ∃ wo : World, wo = wr := ⟨_, rfl⟩
      obtain ⟨x, hxk⟩ : ∃ x, l[k]? = some x := ⟨_, List.getElem?_eq_getElem hlt⟩
      have hsl := HS.out wo hF
      have hpos : 0 < l.length := by omega
      obtain ⟨b, o, rfl, hb⟩ := hsl.at_ hpos
      obtain ⟨d0, d1, d2⟩ := el3 hsl hxk
      have hBl : B < wo.heap.size := lt_of_cell3 hc
      have hcV : (wo.alloc (.cells #[.int .i64 x.1, .int .i64 x.2.1, .int .i64 x.2.2.1] 60)).cell? ⟨B, Bo, none⟩ = some (.slice (some ⟨b, o, none⟩) l.length c) := (World.cell?_of_block (a := ⟨B, Bo, none⟩) (((Bel.refl wo).alloc _).block _ hBl)).trans hc
      have hcap : l.length ≤ c := hsl.1
      have hlt' : (k : Int) < (l.length : Int) := by omega
      have e1 : IntKind.i64.wrap ((k : Int) + 1) = ((k + 1 : Nat) : Int) := by rw [IntWalk.i64_in _ (by omega)]; omega
      have hV : Bel wo (wo.alloc (.cells #[.int .i64 x.1, .int .i64 x.2.1, .int .i64 x.2.2.1] 60)) := (Bel.refl wo).alloc _
      have hVs : (wo.alloc (.cells #[.int .i64 x.1, .int .i64 x.2.1, .int .i64 x.2.2.1] 60)).heap.size = wo.heap.size + 1 := by simp
      have hVn : (wo.alloc (.cells #[.int .i64 x.1, .int .i64 x.2.1, .int .i64 x.2.2.1] 60)).heap[wo.heap.size]? = some (.cells #[.int .i64 x.1, .int .i64 x.2.1, .int .i64 x.2.2.1] 60) := World.alloc_heap_new _ _
      have hJV := HJ2.out T pre wo _ hj hV
      have hFV : ∀ j ob, η.fz j = some ob → (wo.alloc (.cells #[.int .i64 x.1, .int .i64 x.2.1, .int .i64 x.2.2.1] 60)).heap[j]? = some ob := fun j ob hj => by rw [hV.block j (Array.getElem?_eq_some_iff.1 (hF j ob hj)).1]; exact hF j ob hj
      have hx0 : pre ++ (((l.drop (k + 1)).drop 0).map (fun q => (x, q)) ++ pairsL (l.drop (k + 1))) = pairsL l := by rw [← pairsL_drop hxk]; exact hx
      have HX := Lib.hid hx0
      have HFV := Lib.hid hFV
      have HJV := Lib.hid hJV
      have HXK := Lib.hid hxk
      have HVN := Lib.hid hVn
      have HVS := Lib.hid hVs
      clear hx hF hj hsl hxk hx0 hFV hJV hV hVn hVs
      by_cases hck : c = k + 1
      · have hn0 : l.length = k + 1 := by omega
        have hn0' := Lib.hid (show l.drop (k + 1) = [] from List.drop_eq_nil_of_le (by omega))
        subst hck
        have z0 : l.length - (k + 1) = 0 := by omega
        gi_wp2
        gi_loopw [21] (fun i wr => i = .int .i64 0 ∧ wr = wo.alloc (.cells #[.int .i64 x.1, .int .i64 x.2.1, .int .i64 x.2.2.1] 60)) (fun _ _ => 0)
        case atStart => exact ⟨rfl, rfl⟩
        case round =>
          obtain ⟨rfl, rfl⟩ := hrel
          gi_wp2
          go_roundw
          case rel => exact ⟨k + 1, _, pre, by go_num, by omega, hcV, HFV.out, by have := HX.out; rw [List.drop_zero, hn0'.out] at this; rw [hn0'.out]; exact this, HJV.out⟩
          case measure => (first | (simp [intOf]; done) | (simp [intOf]; omega))
      · gi_wp2
        gi_loopw [21] (fun i wr2 => ∃ (m : Nat) (T2 : Nat → Prop) (pre2 : List (Diii × Diii)), i = .int .i64 m ∧ m ≤ l.length - (k + 1) ∧ wr2.cell? ⟨B, Bo, none⟩ = some (.slice (some ⟨b, o, none⟩) l.length c) ∧ (∀ j ob, η.fz j = some ob → wr2.heap[j]? = some ob) ∧ pre2 ++ (((l.drop (k + 1)).drop m).map (fun q => (x, q)) ++ pairsL (l.drop (k + 1))) = pairsL l ∧ J T2 pre2 wr2 ∧ T2 wo.heap.size ∧ wr2.heap[wo.heap.size]? = some (.cells #[.int .i64 x.1, .int .i64 x.2.1, .int .i64 x.2.2.1] 60)) (fun i _ => (l.length - (k + 1)) - (intOf i).toNat)
        case atStart => exact ⟨0, _, pre, rfl, Nat.zero_le _, hcV, HFV.out, HX.out, HJV.out, .inr ⟨Nat.le_refl _, by rw [HVS.out]; omega⟩, HVN.out⟩
        case round =>
          obtain ⟨m, T2, pre2, rfl, hm, hc2, hF2, hx2, hj2, hT2, hp2⟩ := hrel
          clear hcV HX HFV HJV HVN HVS
          by_cases hlm : m < l.length - (k + 1)
          · obtain ⟨q, hqk⟩ : ∃ q, l[k + 1 + m]? = some q := ⟨_, List.getElem?_eq_getElem (by omega)⟩
            obtain ⟨d0', d1', d2'⟩ := el3 (HS.out _ hF2) hqk
            have a0 : o + (k + 1 + m) * 3 = o + (k + 1) * 3 + m * 3 := by omega
            rw [a0] at d0' d1' d2'
            have hb2 : b < wr.heap.size := lt_of_cell3 d0'
            have hBl2 : B < wr.heap.size := lt_of_cell3 hc2
            have hPl2 : wo.heap.size < wr.heap.size := (Array.getElem?_eq_some_iff.1 hp2).1
            have hV : Bel wr (wr.alloc (.cells #[.int .i64 q.1, .int .i64 q.2.1, .int .i64 q.2.2.1] 60)) := (Bel.refl wr).alloc _
            have hcV2 : (wr.alloc (.cells #[.int .i64 q.1, .int .i64 q.2.1, .int .i64 q.2.2.1] 60)).cell? ⟨B, Bo, none⟩ = some (.slice (some ⟨b, o, none⟩) l.length c) := (World.cell?_of_block (a := ⟨B, Bo, none⟩) (hV.block _ hBl2)).trans hc2
            have hpV : (wr.alloc (.cells #[.int .i64 q.1, .int .i64 q.2.1, .int .i64 q.2.2.1] 60)).heap[wo.heap.size]? = some (.cells #[.int .i64 x.1, .int .i64 x.2.1, .int .i64 x.2.2.1] 60) := (hV.block _ hPl2).trans hp2
            have p0 : (wr.alloc (.cells #[.int .i64 q.1, .int .i64 q.2.1, .int .i64 q.2.2.1] 60)).cell? ⟨wo.heap.size, 0, none⟩ = some (.int .i64 x.1) := by rw [cell_of_cells hpV]; rfl
            have p1 : (wr.alloc (.cells #[.int .i64 q.1, .int .i64 q.2.1, .int .i64 q.2.2.1] 60)).cell? ⟨wo.heap.size, 1, none⟩ = some (.int .i64 x.2.1) := by rw [cell_of_cells hpV]; rfl
            have p2 : (wr.alloc (.cells #[.int .i64 q.1, .int .i64 q.2.1, .int .i64 q.2.2.1] 60)).cell? ⟨wo.heap.size, 2, none⟩ = some (.int .i64 x.2.2.1) := by rw [cell_of_cells hpV]; rfl
            have hJV := HJ2.out T2 pre2 wr _ hj2 hV
            rw [pairs_next hqk] at hx2
            obtain ⟨fn, tmps, assign, body, hy, hR⟩ := HY.out _ pre2 (x, q) _ _ hx2.symm hJV
            have hlm' : (m : Int) < ((l.length - (k + 1) : Nat) : Int) := by omega
            have HX2 := Lib.hid hx2
            have HF2 := Lib.hid hF2
            have HT2 := Lib.hid hT2
            have HV2 := Lib.hid hV
            have HPV := Lib.hid hpV
            have HCV2 := Lib.hid hcV2
            clear hx2 hF2 hT2 hV hpV hJV hj2 hqk
            gi_wp2
            refine hR.mono ?_
            rintro e W3 ⟨rfl, hJ3, ⟨hk3, hf3⟩, ht3⟩
            have hF3 : ∀ j ob, η.fz j = some ob → W3.heap[j]? = some ob := fun j ob hj => hf3 j ob hj (((HV2.out).block j (Array.getElem?_eq_some_iff.1 (HF2.out j ob hj)).1).trans (HF2.out j ob hj))
            have hc3 : W3.cell? ⟨B, Bo, none⟩ = some (.slice (some ⟨b, o, none⟩) l.length c) := (World.cell?_of_block (a := ⟨B, Bo, none⟩) hk3).trans HCV2.out
            have hp3 : W3.heap[wo.heap.size]? = some (.cells #[.int .i64 x.1, .int .i64 x.2.1, .int .i64 x.2.2.1] 60) := (ht3 _ (.inl HT2.out)).trans HPV.out
            have HF3 := Lib.hid hF3
            have HP3 := Lib.hid hp3
            have HJ3 := Lib.hid hJ3
            clear hF3 hp3 hJ3 hf3 ht3 hk3
            gi_wp2
            go_roundw
            case rel => exact ⟨m + 1, _, pre2 ++ [(x, q)], by go_num, by omega, hc3, HF3.out, by rw [List.append_assoc]; exact HX2.out, HJ3.out, .inl HT2.out, HP3.out⟩
            case measure => (first | (simp [intOf]; done) | (simp [intOf]; omega))
          · obtain rfl : m = l.length - (k + 1) := by omega
            have HX2 := Lib.hid hx2
            have HF2 := Lib.hid hF2
            have HJ2' := Lib.hid hj2
            clear hx2 hF2 hj2 hlm
            gi_wp2
            go_roundw
            case rel => exact ⟨k + 1, T2, pre2, by go_num, by omega, hc2, HF2.out, by have := HX2.out; rw [List.drop_drop, show k + 1 + (l.length - (k + 1)) = l.length by omega, List.drop_length] at this; exact this, HJ2'.out⟩
            case measure => (first | (simp [intOf]; done) | (simp [intOf]; omega))
    · obtain rfl : k = l.length := by omega
      have HX := Lib.hid hx
      have HF := Lib.hid hF
      have HJ := Lib.hid hj
      clear hx hF hj hlt
      gi_wp2
      go_end0
      exact ⟨⟨_, rfl⟩, _, by have := HX.out; rw [List.drop_length, pairsL, List.append_nil] at this; rw [← this]; exact HJ.out⟩
end Go.Proofs.Ythopjgahedijcaa

namespace Go.Proofs.Ythopjgahedijcaa
open Go Go.Tx Go.Proofs.Try
set_option maxRecDepth 100000
set_option maxHeartbeats 0
abbrev course_Check_1_ps : List Pk := [.row Ri false]
abbrev course_Check_1_X : Type := Di × Unit
abbrev course_Check_1_R : Type := Bool
def course_Check_1_enc (r : course_Check_1_R) : LV × List Ob := (.bool r, [])
def course_Check_1_sp (F : course_Check_1_X → Option course_Check_1_R) : Go.Tx.Spec := ⟨69, course_Check_1_ps, course_Check_1_R, F, course_Check_1_enc⟩
abbrev course_Check_1_C : Type := Unit
def course_Check_1_K (_d : Nat) : course_Check_1_C := ()
def course_Check_1_tab (C : course_Check_1_C) : List Go.Tx.Spec := []
abbrev course_Check_1_Y0i : Type := Int
def course_Check_1_S0i (v : course_Check_1_Y0i) : St := ⟨[(0, .int .i64 v)], []⟩
def course_Check_1_r0 (C : course_Check_1_C) (v : course_Check_1_Y0i) : Dt course_Check_1_Y0i := (Dt.ret v)
theorem course_Check_1_g0 (C : course_Check_1_C) (v : course_Check_1_Y0i) : treg tysT (orc (course_Check_1_tab C)) 9 (regO (bodyOf f69) 0) false [(0, .any)] (course_Check_1_S0i v) some = (course_Check_1_r0 C v).eval fun y => some (course_Check_1_S0i y) := by kernel_rfl
abbrev course_Check_1_Y1 : Type := Bool
def course_Check_1_S1 (v : course_Check_1_Y1) : St := ⟨[(2, .bool v)], []⟩
def course_Check_1_r1 (C : course_Check_1_C) (v : course_Check_1_Y0i) : Dt course_Check_1_Y1 := (Dt.ite (decide (v < (-1048576:Int))) (Dt.ret true) (Dt.ret (decide (v > (1048576:Int)))))
theorem course_Check_1_g1 (C : course_Check_1_C) (v : course_Check_1_Y0i) : treg tysT (orc (course_Check_1_tab C)) 9 (regO (bodyOf f69) 1) false [(2, .any)] (course_Check_1_S0i v) some = (course_Check_1_r1 C v).eval fun y => some (course_Check_1_S1 y) := by kernel_rfl
def F_course_Check_1 (d : Nat) (x : course_Check_1_X) : Option course_Check_1_R :=
  (course_Check_1_r0 (course_Check_1_K d) x.1.1).eval fun y0 =>
  (course_Check_1_r1 (course_Check_1_K d) y0).eval fun y1 =>
  some y1
theorem course_Check_1_cok (d : Nat) : COK prog (course_Check_1_sp (F_course_Check_1 d)) := by
  have hm : prog.follows .mixedOrders = true := mixed
  have hT := tys
  have hC0 : OrcOK prog (orc (course_Check_1_tab (course_Check_1_K d))) := orc_ok (by
    intro S hS
    simp only [course_Check_1_tab, List.mem_cons, List.not_mem_nil, or_false] at hS
    all_goals first | cases hS | exact hS.elim)
  have hC : OrcOK prog (orc (course_Check_1_tab (course_Check_1_K d))) := hC0
  refine cok_of (c := bodyOf f69) (fn := f69) hT (by kernel_rfl) (by kernel_rfl) (by decide) fun x r h w0 φ0 Q hend => ?_
  replace h : F_course_Check_1 d x = some r := h
  unfold F_course_Check_1 at h
  show Run prog w0 φ0 9 (bodyOf f69) ⟨[(0, .int .i64 x.1.1)], []⟩ Q
  refine run_seq ?_
  refine run_reg hm hT hC (course_Check_1_g0 (course_Check_1_K d) x.1.1) h ?_
  intro y0 h
  refine cn_then ?_
  refine run_seq ?_
  refine run_reg hm hT hC (course_Check_1_g1 (course_Check_1_K d) y0) h ?_
  intro y1 h
  refine cn_then ?_
  refine run_ret ?_
  cases h
  exact (hend _ (by kernel_rfl)).2
abbrev course_Check_ps : List Pk := [.row Riii true]
abbrev course_Check_X : Type := Diii × Unit
abbrev course_Check_R : Type := Int
def course_Check_enc (r : course_Check_R) : LV × List Ob := (.int .i64 r, [])
def course_Check_sp (F : course_Check_X → Option course_Check_R) : Go.Tx.Spec := ⟨48, course_Check_ps, course_Check_R, F, course_Check_enc⟩
abbrev course_Check_C : Type := (course_Check_1_X → Option course_Check_1_R) × Unit
def course_Check_K (d : Nat) : course_Check_C := (F_course_Check_1 d, ())
def course_Check_tab (C : course_Check_C) : List Go.Tx.Spec := [course_Check_1_sp C.1]
abbrev course_Check_Y0i : Type := Int × Int × Int
def course_Check_S0i (v : course_Check_Y0i) : St := ⟨[(0, .agg [.int .i64 v.1, .int .i64 v.2.1, .int .i64 v.2.2])], []⟩
abbrev course_Check_Y0 : Type := Int × Int × Int
def course_Check_S0 (v : course_Check_Y0) : St := ⟨[(1, .ptr 0 0)], [.cells [.int .i64 v.1, .int .i64 v.2.1, .int .i64 v.2.2]]⟩
def course_Check_r0 (C : course_Check_C) (v : course_Check_Y0i) : Dt course_Check_Y0 := (Dt.ret (v.1, v.2.1, v.2.2))
theorem course_Check_g0 (C : course_Check_C) (v : course_Check_Y0i) : treg tysT (orc (course_Check_tab C)) 24 (regO (bodyOf f48) 0) false [(1, .any)] (course_Check_S0i v) some = (course_Check_r0 C v).eval fun y => some (course_Check_S0 y) := by kernel_rfl
abbrev course_Check_Y1 : Type := Int × Int × Int
def course_Check_S1 (v : course_Check_Y1) : St := ⟨[(1, .ptr 0 0), (3, .fn 69 [])], [.cells [.int .i64 v.1, .int .i64 v.2.1, .int .i64 v.2.2]]⟩
def course_Check_r1 (C : course_Check_C) (v : course_Check_Y0) : Dt course_Check_Y1 := (Dt.ret (v.1, v.2.1, v.2.2))
theorem course_Check_g1 (C : course_Check_C) (v : course_Check_Y0) : treg tysT (orc (course_Check_tab C)) 24 (regO (bodyOf f48) 1) false [(1, .any), (3, .any)] (course_Check_S0 v) some = (course_Check_r1 C v).eval fun y => some (course_Check_S1 y) := by kernel_rfl
abbrev course_Check_Y2 : Type := Bool
def course_Check_S2 (v : course_Check_Y2) : St := ⟨[(23, .bool v)], []⟩
def course_Check_r2 (C : course_Check_C) (v : course_Check_Y1) : Dt course_Check_Y2 := (Dt.ite (decide (v.1 < (0:Int))) (Dt.ret true) (Dt.ite (decide (v.1 > (65535:Int))) (Dt.ret true) (Dt.bnd (C.1 ((v.2.1, ()), ())) fun r1 => (Dt.ite r1 (Dt.ret true) (Dt.bnd (C.1 ((v.2.2, ()), ())) fun r2 => (Dt.ret r2))))))
theorem course_Check_g2 (C : course_Check_C) (v : course_Check_Y1) : treg tysT (orc (course_Check_tab C)) 24 (regO (bodyOf f48) 2) false [(23, .any)] (course_Check_S1 v) some = (course_Check_r2 C v).eval fun y => some (course_Check_S2 y) := by kernel_rfl
abbrev course_Check_Y3 : Type := Int
def course_Check_S3 (v : course_Check_Y3) : St := ⟨[(2, .int .i64 v)], []⟩
def course_Check_r3 (C : course_Check_C) (v : course_Check_Y2) : Dt course_Check_Y3 := (Dt.ret (8:Int))
theorem course_Check_g3 (C : course_Check_C) (v : course_Check_Y2) : treg tysT (orc (course_Check_tab C)) 24 (regO (bodyOf f48) 3) false [(2, .any)] (course_Check_S2 v) some = (course_Check_r3 C v).eval fun y => some (course_Check_S3 y) := by kernel_rfl
def course_Check_r4 (C : course_Check_C) (v : course_Check_Y2) : Dt course_Check_Y3 := (Dt.ret (0:Int))
theorem course_Check_g4 (C : course_Check_C) (v : course_Check_Y2) : treg tysT (orc (course_Check_tab C)) 24 (regO (bodyOf f48) 4) false [(2, .any)] (course_Check_S2 v) some = (course_Check_r4 C v).eval fun y => some (course_Check_S3 y) := by kernel_rfl
def F_course_Check (d : Nat) (x : course_Check_X) : Option course_Check_R :=
  (course_Check_r0 (course_Check_K d) (x.1.1, x.1.2.1, x.1.2.2.1)).eval fun y0 =>
  (course_Check_r1 (course_Check_K d) y0).eval fun y1 =>
  (course_Check_r2 (course_Check_K d) y1).eval fun y2 =>
  bif y2 then ((course_Check_r3 (course_Check_K d) y2).eval fun y3 =>
  some y3) else ((course_Check_r4 (course_Check_K d) y2).eval fun y4 =>
  some y4)
theorem course_Check_cok (d : Nat) : COK prog (course_Check_sp (F_course_Check d)) := by
  have hm : prog.follows .mixedOrders = true := mixed
  have hT := tys
  have hC0 : OrcOK prog (orc (course_Check_tab (course_Check_K d))) := orc_ok (by
    intro S hS
    simp only [course_Check_tab, List.mem_cons, List.not_mem_nil, or_false] at hS
    subst hS; exact course_Check_1_cok d)
  have hC : OrcOK prog (orc (course_Check_tab (course_Check_K d))) := hC0
  refine cok_of (c := bodyOf f48) (fn := f48) hT (by kernel_rfl) (by kernel_rfl) (by decide) fun x r h w0 φ0 Q hend => ?_
  replace h : F_course_Check d x = some r := h
  unfold F_course_Check at h
  show Run prog w0 φ0 24 (bodyOf f48) ⟨[(0, .agg [.int .i64 x.1.1, .int .i64 x.1.2.1, .int .i64 x.1.2.2.1])], []⟩ Q
  refine run_seq ?_
  refine run_reg hm hT hC (course_Check_g0 (course_Check_K d) (x.1.1, x.1.2.1, x.1.2.2.1)) h ?_
  intro y0 h
  refine cn_then ?_
  refine run_seq ?_
  refine run_reg hm hT hC (course_Check_g1 (course_Check_K d) y0) h ?_
  intro y1 h
  refine cn_then ?_
  refine run_seq ?_
  refine run_seq ?_
  refine run_reg hm hT hC (course_Check_g2 (course_Check_K d) y1) h ?_
  intro y2 h
  refine cn_then ?_
  refine run_cond (v := y2) (by kernel_rfl) h ?_ ?_
  ·
    intro h
    refine run_seq ?_
    refine run_reg hm hT hC (course_Check_g3 (course_Check_K d) y2) h ?_
    intro y3 h
    refine cn_then ?_
    refine run_ret ?_
    refine cn_then_ret ?_
    cases h
    exact (hend _ (by kernel_rfl)).2
  ·
    intro h
    refine run_skip ?_
    refine cn_then ?_
    refine run_seq ?_
    refine run_reg hm hT hC (course_Check_g4 (course_Check_K d) y2) h ?_
    intro y4 h
    refine cn_then ?_
    refine run_ret ?_
    cases h
    exact (hend _ (by kernel_rfl)).2
abbrev ratio_abs_ps : List Pk := [.row Ri false]
abbrev ratio_abs_X : Type := Di × Unit
abbrev ratio_abs_R : Type := Int
def ratio_abs_enc (r : ratio_abs_R) : LV × List Ob := (.int .u64 r, [])
def ratio_abs_sp (F : ratio_abs_X → Option ratio_abs_R) : Go.Tx.Spec := ⟨71, ratio_abs_ps, ratio_abs_R, F, ratio_abs_enc⟩
abbrev ratio_abs_C : Type := Unit
def ratio_abs_K (_d : Nat) : ratio_abs_C := ()
def ratio_abs_tab (C : ratio_abs_C) : List Go.Tx.Spec := []
abbrev ratio_abs_Y0i : Type := Int
def ratio_abs_S0i (v : ratio_abs_Y0i) : St := ⟨[(0, .int .i64 v)], []⟩
def ratio_abs_r0 (C : ratio_abs_C) (v : ratio_abs_Y0i) : Dt ratio_abs_Y0i := (Dt.ret v)
theorem ratio_abs_g0 (C : ratio_abs_C) (v : ratio_abs_Y0i) : treg tysT (orc (ratio_abs_tab C)) 10 (regO (bodyOf f71) 0) false [(0, .any)] (ratio_abs_S0i v) some = (ratio_abs_r0 C v).eval fun y => some (ratio_abs_S0i y) := by kernel_rfl
abbrev ratio_abs_Y1 : Type := Int × Bool
def ratio_abs_S1 (v : ratio_abs_Y1) : St := ⟨[(0, .int .i64 v.1), (4, .bool v.2)], []⟩
def ratio_abs_r1 (C : ratio_abs_C) (v : ratio_abs_Y0i) : Dt ratio_abs_Y1 := (Dt.ret (v, (decide (v < (0:Int)))))
theorem ratio_abs_g1 (C : ratio_abs_C) (v : ratio_abs_Y0i) : treg tysT (orc (ratio_abs_tab C)) 10 (regO (bodyOf f71) 1) false [(0, .any), (4, .any)] (ratio_abs_S0i v) some = (ratio_abs_r1 C v).eval fun y => some (ratio_abs_S1 y) := by kernel_rfl
abbrev ratio_abs_Y2 : Type := Int
def ratio_abs_S2 (v : ratio_abs_Y2) : St := ⟨[(2, .int .u64 v)], []⟩
def ratio_abs_r2 (C : ratio_abs_C) (v : ratio_abs_Y1) : Dt ratio_abs_Y2 := (Dt.ret (IntKind.wrap .u64 (0 - (IntKind.wrap .u64 v.1))))
theorem ratio_abs_g2 (C : ratio_abs_C) (v : ratio_abs_Y1) : treg tysT (orc (ratio_abs_tab C)) 10 (regO (bodyOf f71) 2) false [(2, .any)] (ratio_abs_S1 v) some = (ratio_abs_r2 C v).eval fun y => some (ratio_abs_S2 y) := by kernel_rfl
def ratio_abs_r3 (C : ratio_abs_C) (v : ratio_abs_Y1) : Dt ratio_abs_Y2 := (Dt.ret (IntKind.wrap .u64 v.1))
theorem ratio_abs_g3 (C : ratio_abs_C) (v : ratio_abs_Y1) : treg tysT (orc (ratio_abs_tab C)) 10 (regO (bodyOf f71) 3) false [(2, .any)] (ratio_abs_S1 v) some = (ratio_abs_r3 C v).eval fun y => some (ratio_abs_S2 y) := by kernel_rfl
def F_ratio_abs (d : Nat) (x : ratio_abs_X) : Option ratio_abs_R :=
  (ratio_abs_r0 (ratio_abs_K d) x.1.1).eval fun y0 =>
  (ratio_abs_r1 (ratio_abs_K d) y0).eval fun y1 =>
  bif y1.2 then ((ratio_abs_r2 (ratio_abs_K d) y1).eval fun y2 =>
  some y2) else ((ratio_abs_r3 (ratio_abs_K d) y1).eval fun y3 =>
  some y3)
theorem ratio_abs_cok (d : Nat) : COK prog (ratio_abs_sp (F_ratio_abs d)) := by
  have hm : prog.follows .mixedOrders = true := mixed
  have hT := tys
  have hC0 : OrcOK prog (orc (ratio_abs_tab (ratio_abs_K d))) := orc_ok (by
    intro S hS
    simp only [ratio_abs_tab, List.mem_cons, List.not_mem_nil, or_false] at hS
    all_goals first | cases hS | exact hS.elim)
  have hC : OrcOK prog (orc (ratio_abs_tab (ratio_abs_K d))) := hC0
  refine cok_of (c := bodyOf f71) (fn := f71) hT (by kernel_rfl) (by kernel_rfl) (by decide) fun x r h w0 φ0 Q hend => ?_
  replace h : F_ratio_abs d x = some r := h
  unfold F_ratio_abs at h
  show Run prog w0 φ0 10 (bodyOf f71) ⟨[(0, .int .i64 x.1.1)], []⟩ Q
  refine run_seq ?_
  refine run_reg hm hT hC (ratio_abs_g0 (ratio_abs_K d) x.1.1) h ?_
  intro y0 h
  refine cn_then ?_
  refine run_seq ?_
  refine run_seq ?_
  refine run_reg hm hT hC (ratio_abs_g1 (ratio_abs_K d) y0) h ?_
  intro y1 h
  refine cn_then ?_
  refine run_cond (v := y1.2) (by kernel_rfl) h ?_ ?_
  ·
    intro h
    refine run_seq ?_
    refine run_reg hm hT hC (ratio_abs_g2 (ratio_abs_K d) y1) h ?_
    intro y2 h
    refine cn_then ?_
    refine run_ret ?_
    refine cn_then_ret ?_
    cases h
    exact (hend _ (by kernel_rfl)).2
  ·
    intro h
    refine run_skip ?_
    refine cn_then ?_
    refine run_seq ?_
    refine run_reg hm hT hC (ratio_abs_g3 (ratio_abs_K d) y1) h ?_
    intro y3 h
    refine cn_then ?_
    refine run_ret ?_
    cases h
    exact (hend _ (by kernel_rfl)).2
abbrev ratio_gcd_ps : List Pk := [.row Ru false, .row Ru false]
abbrev ratio_gcd_X : Type := Du × Du × Unit
abbrev ratio_gcd_R : Type := Int
def ratio_gcd_enc (r : ratio_gcd_R) : LV × List Ob := (.int .u64 r, [])
def ratio_gcd_sp (F : ratio_gcd_X → Option ratio_gcd_R) : Go.Tx.Spec := ⟨70, ratio_gcd_ps, ratio_gcd_R, F, ratio_gcd_enc⟩
abbrev ratio_gcd_C : Type := Unit
def ratio_gcd_K (_d : Nat) : ratio_gcd_C := ()
def ratio_gcd_tab (C : ratio_gcd_C) : List Go.Tx.Spec := []
abbrev ratio_gcd_Y0i : Type := Int × Int
def ratio_gcd_S0i (v : ratio_gcd_Y0i) : St := ⟨[(0, .int .u64 v.1), (1, .int .u64 v.2)], []⟩
def ratio_gcd_r0 (C : ratio_gcd_C) (v : ratio_gcd_Y0i) : Dt ratio_gcd_Y0i := (Dt.ret (v.1, v.2))
theorem ratio_gcd_g0 (C : ratio_gcd_C) (v : ratio_gcd_Y0i) : treg tysT (orc (ratio_gcd_tab C)) 12 (regO (bodyOf f70) 0) false [(0, .any), (1, .any)] (ratio_gcd_S0i v) some = (ratio_gcd_r0 C v).eval fun y => some (ratio_gcd_S0i y) := by kernel_rfl
abbrev ratio_gcd_Y1 : Type := Int × Int × Bool
def ratio_gcd_S1 (v : ratio_gcd_Y1) : St := ⟨[(0, .int .u64 v.1), (1, .int .u64 v.2.1), (6, .bool v.2.2)], []⟩
def ratio_gcd_r1 (C : ratio_gcd_C) (v : ratio_gcd_Y0i) : Dt ratio_gcd_Y1 := (Dt.ret (v.1, v.2, (decide (v.2 > (0:Int)))))
theorem ratio_gcd_g1 (C : ratio_gcd_C) (v : ratio_gcd_Y0i) : treg tysT (orc (ratio_gcd_tab C)) 12 (regO (bodyOf f70) 1) false [(0, .any), (1, .any), (6, .any)] (ratio_gcd_S0i v) some = (ratio_gcd_r1 C v).eval fun y => some (ratio_gcd_S1 y) := by kernel_rfl
def ratio_gcd_r2 (C : ratio_gcd_C) (v : ratio_gcd_Y1) : Dt ratio_gcd_Y0i := (Dt.ite (v.2.1 == (0:Int)) Dt.fail (Dt.ret (v.2.1, (Int.tmod v.1 v.2.1))))
theorem ratio_gcd_g2 (C : ratio_gcd_C) (v : ratio_gcd_Y1) : treg tysT (orc (ratio_gcd_tab C)) 12 (regO (bodyOf f70) 2) true [(0, .any), (1, .any)] (ratio_gcd_S1 v) some = (ratio_gcd_r2 C v).eval fun y => some (ratio_gcd_S0i y) := by kernel_rfl
abbrev ratio_gcd_Y3 : Type := Int
def ratio_gcd_S3 (v : ratio_gcd_Y3) : St := ⟨[(4, .int .u64 v)], []⟩
def ratio_gcd_r3 (C : ratio_gcd_C) (v : ratio_gcd_Y1) : Dt ratio_gcd_Y3 := (Dt.ret v.1)
theorem ratio_gcd_g3 (C : ratio_gcd_C) (v : ratio_gcd_Y1) : treg tysT (orc (ratio_gcd_tab C)) 12 (regO (bodyOf f70) 3) false [(4, .any)] (ratio_gcd_S1 v) some = (ratio_gcd_r3 C v).eval fun y => some (ratio_gcd_S3 y) := by kernel_rfl
def ratio_gcd_L1 (d : Nat) (self1 : (Int × Int) → Option ratio_gcd_R) (x1 : Int × Int) : Option ratio_gcd_R :=
  (ratio_gcd_r1 (ratio_gcd_K d) x1).eval fun y1 =>
  bif y1.2.2 then ((ratio_gcd_r2 (ratio_gcd_K d) y1).eval fun y2 =>
  self1 y2) else ((ratio_gcd_r3 (ratio_gcd_K d) y1).eval fun y3 =>
  some y3)
def F_ratio_gcd (d : Nat) (x : ratio_gcd_X) : Option ratio_gcd_R :=
  (ratio_gcd_r0 (ratio_gcd_K d) (x.1.1, x.2.1.1)).eval fun y0 =>
  iter (ratio_gcd_L1 d ) d y0
theorem ratio_gcd_cok (d : Nat) : COK prog (ratio_gcd_sp (F_ratio_gcd d)) := by
  have hm : prog.follows .mixedOrders = true := mixed
  have hT := tys
  have hC0 : OrcOK prog (orc (ratio_gcd_tab (ratio_gcd_K d))) := orc_ok (by
    intro S hS
    simp only [ratio_gcd_tab, List.mem_cons, List.not_mem_nil, or_false] at hS
    all_goals first | cases hS | exact hS.elim)
  have hC : OrcOK prog (orc (ratio_gcd_tab (ratio_gcd_K d))) := hC0
  refine cok_of (c := bodyOf f70) (fn := f70) hT (by kernel_rfl) (by kernel_rfl) (by decide) fun x r h w0 φ0 Q hend => ?_
  replace h : F_ratio_gcd d x = some r := h
  unfold F_ratio_gcd at h
  show Run prog w0 φ0 12 (bodyOf f70) ⟨[(0, .int .u64 x.1.1), (1, .int .u64 x.2.1.1)], []⟩ Q
  refine run_seq ?_
  refine run_reg hm hT hC (ratio_gcd_g0 (ratio_gcd_K d) (x.1.1, x.2.1.1)) h ?_
  intro y0 h
  refine cn_then ?_
  refine run_seq ?_
  refine run_block ?_
  refine run_loop (G := iter (ratio_gcd_L1 d )) (S := (fun x1 => ⟨[(0, .int .u64 x1.1), (1, .int .u64 x1.2)], []⟩ : Int × Int → St)) (fun _ => rfl) ?_ d _ h
  intro n1 x1 h K1 hn1
  replace h : ratio_gcd_L1 d  (iter (ratio_gcd_L1 d ) n1) x1 = some r := h
  generalize iter (ratio_gcd_L1 d ) n1 = self1 at h hn1
  unfold ratio_gcd_L1 at h
  refine run_seq ?_
  refine run_seq ?_
  refine run_reg hm hT hC (ratio_gcd_g1 (ratio_gcd_K d) x1) h ?_
  intro y1 h
  refine cn_then ?_
  refine run_cond (v := y1.2.2) (by kernel_rfl) h ?_ ?_
  ·
    intro h
    refine run_skip ?_
    refine cn_then ?_
    refine run_block ?_
    refine run_reg hm hT hC (ratio_gcd_g2 (ratio_gcd_K d) y1) h ?_
    intro y2 h
    refine cn_blk ?_
    exact hn1 _ h
  ·
    intro h
    refine run_exit ?_
    refine cn_then_exit ?_
    refine cn_then_exit ?_
    refine cn_blk_eq ?_
    refine cn_then ?_
    refine run_seq ?_
    refine run_reg hm hT hC (ratio_gcd_g3 (ratio_gcd_K d) y1) h ?_
    intro y3 h
    refine cn_then ?_
    refine run_ret ?_
    cases h
    exact (hend _ (by kernel_rfl)).2
abbrev ratio_Check_ps : List Pk := [.row Rii true]
abbrev ratio_Check_X : Type := Dii × Unit
abbrev ratio_Check_R : Type := Int
def ratio_Check_enc (r : ratio_Check_R) : LV × List Ob := (.int .i64 r, [])
def ratio_Check_sp (F : ratio_Check_X → Option ratio_Check_R) : Go.Tx.Spec := ⟨49, ratio_Check_ps, ratio_Check_R, F, ratio_Check_enc⟩
abbrev ratio_Check_C : Type := (ratio_gcd_X → Option ratio_gcd_R) × (ratio_abs_X → Option ratio_abs_R) × Unit
def ratio_Check_K (d : Nat) : ratio_Check_C := (F_ratio_gcd d, F_ratio_abs d, ())
def ratio_Check_tab (C : ratio_Check_C) : List Go.Tx.Spec := [ratio_gcd_sp C.1, ratio_abs_sp C.2.1]
abbrev ratio_Check_Y0i : Type := Int × Int
def ratio_Check_S0i (v : ratio_Check_Y0i) : St := ⟨[(0, .agg [.int .i64 v.1, .int .i64 v.2])], []⟩
abbrev ratio_Check_Y0 : Type := Int × Int
def ratio_Check_S0 (v : ratio_Check_Y0) : St := ⟨[(1, .ptr 0 0)], [.cells [.int .i64 v.1, .int .i64 v.2]]⟩
def ratio_Check_r0 (C : ratio_Check_C) (v : ratio_Check_Y0i) : Dt ratio_Check_Y0 := (Dt.ret (v.1, v.2))
theorem ratio_Check_g0 (C : ratio_Check_C) (v : ratio_Check_Y0i) : treg tysT (orc (ratio_Check_tab C)) 21 (regO (bodyOf f49) 0) false [(1, .any)] (ratio_Check_S0i v) some = (ratio_Check_r0 C v).eval fun y => some (ratio_Check_S0 y) := by kernel_rfl
abbrev ratio_Check_Y1 : Type := Bool
def ratio_Check_S1 (v : ratio_Check_Y1) : St := ⟨[(20, .bool v)], []⟩
def ratio_Check_r1 (C : ratio_Check_C) (v : ratio_Check_Y0) : Dt ratio_Check_Y1 := (Dt.ite (decide (v.2 < (1:Int))) (Dt.ret true) (Dt.ite (v.1 == (-9223372036854775808:Int)) (Dt.ret true) (Dt.bnd (C.2.1 ((v.1, ()), ())) fun r1 => (Dt.bnd (C.1 (((IntKind.wrap .u64 v.2), ()), (r1, ()), ())) fun r2 => (Dt.ret (decide (r2 > (1:Int))))))))
theorem ratio_Check_g1 (C : ratio_Check_C) (v : ratio_Check_Y0) : treg tysT (orc (ratio_Check_tab C)) 21 (regO (bodyOf f49) 1) true [(20, .any)] (ratio_Check_S0 v) some = (ratio_Check_r1 C v).eval fun y => some (ratio_Check_S1 y) := by kernel_rfl
abbrev ratio_Check_Y2 : Type := Int
def ratio_Check_S2 (v : ratio_Check_Y2) : St := ⟨[(2, .int .i64 v)], []⟩
def ratio_Check_r2 (C : ratio_Check_C) (v : ratio_Check_Y1) : Dt ratio_Check_Y2 := (Dt.ret (8:Int))
theorem ratio_Check_g2 (C : ratio_Check_C) (v : ratio_Check_Y1) : treg tysT (orc (ratio_Check_tab C)) 21 (regO (bodyOf f49) 2) false [(2, .any)] (ratio_Check_S1 v) some = (ratio_Check_r2 C v).eval fun y => some (ratio_Check_S2 y) := by kernel_rfl
def ratio_Check_r3 (C : ratio_Check_C) (v : ratio_Check_Y1) : Dt ratio_Check_Y2 := (Dt.ret (0:Int))
theorem ratio_Check_g3 (C : ratio_Check_C) (v : ratio_Check_Y1) : treg tysT (orc (ratio_Check_tab C)) 21 (regO (bodyOf f49) 3) false [(2, .any)] (ratio_Check_S1 v) some = (ratio_Check_r3 C v).eval fun y => some (ratio_Check_S2 y) := by kernel_rfl
def F_ratio_Check (d : Nat) (x : ratio_Check_X) : Option ratio_Check_R :=
  (ratio_Check_r0 (ratio_Check_K d) (x.1.1, x.1.2.1)).eval fun y0 =>
  (ratio_Check_r1 (ratio_Check_K d) y0).eval fun y1 =>
  bif y1 then ((ratio_Check_r2 (ratio_Check_K d) y1).eval fun y2 =>
  some y2) else ((ratio_Check_r3 (ratio_Check_K d) y1).eval fun y3 =>
  some y3)
theorem ratio_Check_cok (d : Nat) : COK prog (ratio_Check_sp (F_ratio_Check d)) := by
  have hm : prog.follows .mixedOrders = true := mixed
  have hT := tys
  have hC0 : OrcOK prog (orc (ratio_Check_tab (ratio_Check_K d))) := orc_ok (by
    intro S hS
    simp only [ratio_Check_tab, List.mem_cons, List.not_mem_nil, or_false] at hS
    rcases hS with rfl | rfl
    · exact ratio_gcd_cok d
    · exact ratio_abs_cok d)
  have hC : OrcOK prog (orc (ratio_Check_tab (ratio_Check_K d))) := hC0
  refine cok_of (c := bodyOf f49) (fn := f49) hT (by kernel_rfl) (by kernel_rfl) (by decide) fun x r h w0 φ0 Q hend => ?_
  replace h : F_ratio_Check d x = some r := h
  unfold F_ratio_Check at h
  show Run prog w0 φ0 21 (bodyOf f49) ⟨[(0, .agg [.int .i64 x.1.1, .int .i64 x.1.2.1])], []⟩ Q
  refine run_seq ?_
  refine run_reg hm hT hC (ratio_Check_g0 (ratio_Check_K d) (x.1.1, x.1.2.1)) h ?_
  intro y0 h
  refine cn_then ?_
  refine run_seq ?_
  refine run_seq ?_
  refine run_reg hm hT hC (ratio_Check_g1 (ratio_Check_K d) y0) h ?_
  intro y1 h
  refine cn_then ?_
  refine run_cond (v := y1) (by kernel_rfl) h ?_ ?_
  ·
    intro h
    refine run_seq ?_
    refine run_reg hm hT hC (ratio_Check_g2 (ratio_Check_K d) y1) h ?_
    intro y2 h
    refine cn_then ?_
    refine run_ret ?_
    refine cn_then_ret ?_
    cases h
    exact (hend _ (by kernel_rfl)).2
  ·
    intro h
    refine run_skip ?_
    refine cn_then ?_
    refine run_seq ?_
    refine run_reg hm hT hC (ratio_Check_g3 (ratio_Check_K d) y1) h ?_
    intro y3 h
    refine cn_then ?_
    refine run_ret ?_
    cases h
    exact (hend _ (by kernel_rfl)).2
abbrev course_two_ps : List Pk := [.row Riii true, .row Riii true, .row Rii true]
abbrev course_two_X : Type := Diii × Diii × Dii × Unit
abbrev course_two_R : Type := Int
def course_two_enc (r : course_two_R) : LV × List Ob := (.int .i64 r, [])
def course_two_sp (F : course_two_X → Option course_two_R) : Go.Tx.Spec := ⟨54, course_two_ps, course_two_R, F, course_two_enc⟩
abbrev course_two_C : Type := (course_Check_X → Option course_Check_R) × (ratio_Check_X → Option ratio_Check_R) × Unit
def course_two_K (d : Nat) : course_two_C := (F_course_Check d, F_ratio_Check d, ())
def course_two_tab (C : course_two_C) : List Go.Tx.Spec := [course_Check_sp C.1, ratio_Check_sp C.2.1]
abbrev course_two_Y0i : Type := Int × Int × Int × Int × Int × Int × Int × Int
def course_two_S0i (v : course_two_Y0i) : St := ⟨[(0, .agg [.int .i64 v.1, .int .i64 v.2.1, .int .i64 v.2.2.1]), (1, .agg [.int .i64 v.2.2.2.1, .int .i64 v.2.2.2.2.1, .int .i64 v.2.2.2.2.2.1]), (2, .agg [.int .i64 v.2.2.2.2.2.2.1, .int .i64 v.2.2.2.2.2.2.2])], []⟩
abbrev course_two_Y0 : Type := Int × Int × Int × Int × Int × Int × Int × Int
def course_two_S0 (v : course_two_Y0) : St := ⟨[(3, .ptr 0 0), (4, .ptr 1 0), (5, .ptr 2 0)], [.cells [.int .i64 v.1, .int .i64 v.2.1, .int .i64 v.2.2.1], .cells [.int .i64 v.2.2.2.1, .int .i64 v.2.2.2.2.1, .int .i64 v.2.2.2.2.2.1], .cells [.int .i64 v.2.2.2.2.2.2.1, .int .i64 v.2.2.2.2.2.2.2]]⟩
def course_two_r0 (C : course_two_C) (v : course_two_Y0i) : Dt course_two_Y0 := (Dt.ret (v.1, v.2.1, v.2.2.1, v.2.2.2.1, v.2.2.2.2.1, v.2.2.2.2.2.1, v.2.2.2.2.2.2.1, v.2.2.2.2.2.2.2))
theorem course_two_g0 (C : course_two_C) (v : course_two_Y0i) : treg tysT (orc (course_two_tab C)) 23 (regO (bodyOf f54) 0) false [(3, .any), (4, .any), (5, .any)] (course_two_S0i v) some = (course_two_r0 C v).eval fun y => some (course_two_S0 y) := by kernel_rfl
abbrev course_two_Y1 : Type := Int × Int × Int × Int × Int × Int × Int
def course_two_S1 (v : course_two_Y1) : St := ⟨[(3, .ptr 0 0), (4, .ptr 1 0), (7, .int .i64 v.1)], [.cells [.int .i64 v.2.1, .int .i64 v.2.2.1, .int .i64 v.2.2.2.1], .cells [.int .i64 v.2.2.2.2.1, .int .i64 v.2.2.2.2.2.1, .int .i64 v.2.2.2.2.2.2]]⟩
def course_two_r1 (C : course_two_C) (v : course_two_Y0) : Dt course_two_Y1 := (Dt.bnd (C.1 ((v.1, v.2.1, v.2.2.1, ()), ())) fun r1 => (Dt.bnd (C.1 ((v.2.2.2.1, v.2.2.2.2.1, v.2.2.2.2.2.1, ()), ())) fun r2 => (Dt.bnd (C.2.1 ((v.2.2.2.2.2.2.1, v.2.2.2.2.2.2.2, ()), ())) fun r3 => (Dt.ret ((tmax (tmax r1 r2) r3), v.1, v.2.1, v.2.2.1, v.2.2.2.1, v.2.2.2.2.1, v.2.2.2.2.2.1)))))
theorem course_two_g1 (C : course_two_C) (v : course_two_Y0) : treg tysT (orc (course_two_tab C)) 23 (regO (bodyOf f54) 1) true [(3, .any), (4, .any), (7, .any)] (course_two_S0 v) some = (course_two_r1 C v).eval fun y => some (course_two_S1 y) := by kernel_rfl
abbrev course_two_Y2 : Type := Int × Bool × Int × Int × Int × Int × Int × Int
def course_two_S2 (v : course_two_Y2) : St := ⟨[(3, .ptr 0 0), (4, .ptr 1 0), (7, .int .i64 v.1), (16, .bool v.2.1)], [.cells [.int .i64 v.2.2.1, .int .i64 v.2.2.2.1, .int .i64 v.2.2.2.2.1], .cells [.int .i64 v.2.2.2.2.2.1, .int .i64 v.2.2.2.2.2.2.1, .int .i64 v.2.2.2.2.2.2.2]]⟩
def course_two_r2 (C : course_two_C) (v : course_two_Y1) : Dt course_two_Y2 := (Dt.ret (v.1, (v.1 != (0:Int)), v.2.1, v.2.2.1, v.2.2.2.1, v.2.2.2.2.1, v.2.2.2.2.2.1, v.2.2.2.2.2.2))
theorem course_two_g2 (C : course_two_C) (v : course_two_Y1) : treg tysT (orc (course_two_tab C)) 23 (regO (bodyOf f54) 2) false [(3, .any), (4, .any), (7, .any), (16, .any)] (course_two_S1 v) some = (course_two_r2 C v).eval fun y => some (course_two_S2 y) := by kernel_rfl
abbrev course_two_Y3 : Type := Int
def course_two_S3 (v : course_two_Y3) : St := ⟨[(6, .int .i64 v)], []⟩
def course_two_r3 (C : course_two_C) (v : course_two_Y2) : Dt course_two_Y3 := (Dt.ret v.1)
theorem course_two_g3 (C : course_two_C) (v : course_two_Y2) : treg tysT (orc (course_two_tab C)) 23 (regO (bodyOf f54) 3) false [(6, .any)] (course_two_S2 v) some = (course_two_r3 C v).eval fun y => some (course_two_S3 y) := by kernel_rfl
abbrev course_two_Y4 : Type := Bool
def course_two_S4 (v : course_two_Y4) : St := ⟨[(22, .bool v)], []⟩
def course_two_r4 (C : course_two_C) (v : course_two_Y2) : Dt course_two_Y4 := (Dt.ret (v.2.2.1 == v.2.2.2.2.2.1))
theorem course_two_g4 (C : course_two_C) (v : course_two_Y2) : treg tysT (orc (course_two_tab C)) 23 (regO (bodyOf f54) 4) false [(22, .any)] (course_two_S2 v) some = (course_two_r4 C v).eval fun y => some (course_two_S4 y) := by kernel_rfl
def course_two_r5 (C : course_two_C) (v : course_two_Y4) : Dt course_two_Y3 := (Dt.ret (2:Int))
theorem course_two_g5 (C : course_two_C) (v : course_two_Y4) : treg tysT (orc (course_two_tab C)) 23 (regO (bodyOf f54) 5) false [(6, .any)] (course_two_S4 v) some = (course_two_r5 C v).eval fun y => some (course_two_S3 y) := by kernel_rfl
def course_two_r6 (C : course_two_C) (v : course_two_Y4) : Dt course_two_Y3 := (Dt.ret (0:Int))
theorem course_two_g6 (C : course_two_C) (v : course_two_Y4) : treg tysT (orc (course_two_tab C)) 23 (regO (bodyOf f54) 6) false [(6, .any)] (course_two_S4 v) some = (course_two_r6 C v).eval fun y => some (course_two_S3 y) := by kernel_rfl
def F_course_two (d : Nat) (x : course_two_X) : Option course_two_R :=
  (course_two_r0 (course_two_K d) (x.1.1, x.1.2.1, x.1.2.2.1, x.2.1.1, x.2.1.2.1, x.2.1.2.2.1, x.2.2.1.1, x.2.2.1.2.1)).eval fun y0 =>
  (course_two_r1 (course_two_K d) y0).eval fun y1 =>
  (course_two_r2 (course_two_K d) y1).eval fun y2 =>
  bif y2.2.1 then ((course_two_r3 (course_two_K d) y2).eval fun y3 =>
  some y3) else ((course_two_r4 (course_two_K d) y2).eval fun y4 =>
  bif y4 then ((course_two_r5 (course_two_K d) y4).eval fun y5 =>
  some y5) else ((course_two_r6 (course_two_K d) y4).eval fun y6 =>
  some y6))
theorem course_two_cok (d : Nat) : COK prog (course_two_sp (F_course_two d)) := by
  have hm : prog.follows .mixedOrders = true := mixed
  have hT := tys
  have hC0 : OrcOK prog (orc (course_two_tab (course_two_K d))) := orc_ok (by
    intro S hS
    simp only [course_two_tab, List.mem_cons, List.not_mem_nil, or_false] at hS
    rcases hS with rfl | rfl
    · exact course_Check_cok d
    · exact ratio_Check_cok d)
  have hC : OrcOK prog (orc (course_two_tab (course_two_K d))) := hC0
  refine cok_of (c := bodyOf f54) (fn := f54) hT (by kernel_rfl) (by kernel_rfl) (by decide) fun x r h w0 φ0 Q hend => ?_
  replace h : F_course_two d x = some r := h
  unfold F_course_two at h
  show Run prog w0 φ0 23 (bodyOf f54) ⟨[(0, .agg [.int .i64 x.1.1, .int .i64 x.1.2.1, .int .i64 x.1.2.2.1]), (1, .agg [.int .i64 x.2.1.1, .int .i64 x.2.1.2.1, .int .i64 x.2.1.2.2.1]), (2, .agg [.int .i64 x.2.2.1.1, .int .i64 x.2.2.1.2.1])], []⟩ Q
  refine run_seq ?_
  refine run_reg hm hT hC (course_two_g0 (course_two_K d) (x.1.1, x.1.2.1, x.1.2.2.1, x.2.1.1, x.2.1.2.1, x.2.1.2.2.1, x.2.2.1.1, x.2.2.1.2.1)) h ?_
  intro y0 h
  refine cn_then ?_
  refine run_seq ?_
  refine run_seq ?_
  refine run_reg hm hT hC (course_two_g1 (course_two_K d) y0) h ?_
  intro y1 h
  refine cn_then ?_
  refine run_seq ?_
  refine run_reg hm hT hC (course_two_g2 (course_two_K d) y1) h ?_
  intro y2 h
  refine cn_then ?_
  refine run_cond (v := y2.2.1) (by kernel_rfl) h ?_ ?_
  ·
    intro h
    refine run_seq ?_
    refine run_reg hm hT hC (course_two_g3 (course_two_K d) y2) h ?_
    intro y3 h
    refine cn_then ?_
    refine run_ret ?_
    refine cn_then_ret ?_
    cases h
    exact (hend _ (by kernel_rfl)).2
  ·
    intro h
    refine run_skip ?_
    refine cn_then ?_
    refine run_seq ?_
    refine run_seq ?_
    refine run_reg hm hT hC (course_two_g4 (course_two_K d) y2) h ?_
    intro y4 h
    refine cn_then ?_
    refine run_cond (v := y4) (by kernel_rfl) h ?_ ?_
    ·
      intro h
      refine run_seq ?_
      refine run_reg hm hT hC (course_two_g5 (course_two_K d) y4) h ?_
      intro y5 h
      refine cn_then ?_
      refine run_ret ?_
      refine cn_then_ret ?_
      cases h
      exact (hend _ (by kernel_rfl)).2
    ·
      intro h
      refine run_skip ?_
      refine cn_then ?_
      refine run_seq ?_
      refine run_reg hm hT hC (course_two_g6 (course_two_K d) y4) h ?_
      intro y6 h
      refine cn_then ?_
      refine run_ret ?_
      cases h
      exact (hend _ (by kernel_rfl)).2
abbrev ratio_build_ps : List Pk := [.row Rbuu true, .row Ru false, .row Ru false]
abbrev ratio_build_X : Type := Dbuu × Du × Du × Unit
abbrev ratio_build_R : Type := Int × Int × Int
def ratio_build_enc (r : ratio_build_R) : LV × List Ob := (.tup [.agg [.int .i64 r.1, .int .i64 r.2.1], .int .i64 r.2.2], [])
def ratio_build_sp (F : ratio_build_X → Option ratio_build_R) : Go.Tx.Spec := ⟨90, ratio_build_ps, ratio_build_R, F, ratio_build_enc⟩
abbrev ratio_build_C : Type := Unit
def ratio_build_K (_d : Nat) : ratio_build_C := ()
def ratio_build_tab (C : ratio_build_C) : List Go.Tx.Spec := []
abbrev ratio_build_Y0i : Type := Bool × Int × Int × Int × Int
def ratio_build_S0i (v : ratio_build_Y0i) : St := ⟨[(0, .agg [.bool v.1, .int .u64 v.2.1, .int .u64 v.2.2.1]), (1, .int .u64 v.2.2.2.1), (2, .int .u64 v.2.2.2.2)], []⟩
abbrev ratio_build_Y0 : Type := Int × Int × Bool × Int × Int × Int × Int
def ratio_build_S0 (v : ratio_build_Y0) : St := ⟨[(1, .int .u64 v.1), (2, .int .u64 v.2.1), (3, .ptr 0 0), (6, .ptr 1 0)], [.cells [.bool v.2.2.1, .int .u64 v.2.2.2.1, .int .u64 v.2.2.2.2.1], .cells [.int .i64 v.2.2.2.2.2.1, .int .i64 v.2.2.2.2.2.2]]⟩
def ratio_build_r0 (C : ratio_build_C) (v : ratio_build_Y0i) : Dt ratio_build_Y0 := (Dt.ret (v.2.2.2.1, v.2.2.2.2, v.1, v.2.1, v.2.2.1, (0:Int), (0:Int)))
theorem ratio_build_g0 (C : ratio_build_C) (v : ratio_build_Y0i) : treg tysT (orc (ratio_build_tab C)) 39 (regO (bodyOf f90) 0) false [(1, .any), (2, .any), (3, .any), (6, .any)] (ratio_build_S0i v) some = (ratio_build_r0 C v).eval fun y => some (ratio_build_S0 y) := by kernel_rfl
abbrev ratio_build_Y1 : Type := Int × Bool × Bool × Int × Int × Int × Int
def ratio_build_S1 (v : ratio_build_Y1) : St := ⟨[(2, .int .u64 v.1), (3, .ptr 0 0), (6, .ptr 1 0), (24, .bool v.2.1)], [.cells [.bool v.2.2.1, .int .u64 v.2.2.2.1, .int .u64 v.2.2.2.2.1], .cells [.int .i64 v.2.2.2.2.2.1, .int .i64 v.2.2.2.2.2.2]]⟩
def ratio_build_r1 (C : ratio_build_C) (v : ratio_build_Y0) : Dt ratio_build_Y1 := (Dt.ite (decide (v.2.2.2.1 > (0:Int))) (Dt.ret (v.2.1, true, v.2.2.1, v.2.2.2.1, v.2.2.2.2.1, v.2.2.2.2.2.1, v.2.2.2.2.2.2)) (Dt.ite (decide (v.2.2.2.2.1 > (9223372036854775807:Int))) (Dt.ret (v.2.1, true, v.2.2.1, v.2.2.2.1, v.2.2.2.2.1, v.2.2.2.2.2.1, v.2.2.2.2.2.2)) (Dt.ite (decide (v.1 > (0:Int))) (Dt.ret (v.2.1, true, v.2.2.1, v.2.2.2.1, v.2.2.2.2.1, v.2.2.2.2.2.1, v.2.2.2.2.2.2)) (Dt.ret (v.2.1, (decide (v.2.1 > (9223372036854775807:Int))), v.2.2.1, v.2.2.2.1, v.2.2.2.2.1, v.2.2.2.2.2.1, v.2.2.2.2.2.2)))))
theorem ratio_build_g1 (C : ratio_build_C) (v : ratio_build_Y0) : treg tysT (orc (ratio_build_tab C)) 39 (regO (bodyOf f90) 1) false [(2, .any), (3, .any), (6, .any), (24, .any)] (ratio_build_S0 v) some = (ratio_build_r1 C v).eval fun y => some (ratio_build_S1 y) := by kernel_rfl
abbrev ratio_build_Y2 : Type := Int × Int × Int
def ratio_build_S2 (v : ratio_build_Y2) : St := ⟨[(6, .ptr 0 0), (7, .int .i64 v.1)], [.cells [.int .i64 v.2.1, .int .i64 v.2.2]]⟩
def ratio_build_r2 (C : ratio_build_C) (v : ratio_build_Y1) : Dt ratio_build_Y2 := (Dt.ret ((16:Int), (0:Int), (0:Int)))
theorem ratio_build_g2 (C : ratio_build_C) (v : ratio_build_Y1) : treg tysT (orc (ratio_build_tab C)) 39 (regO (bodyOf f90) 2) false [(6, .any), (7, .any)] (ratio_build_S1 v) some = (ratio_build_r2 C v).eval fun y => some (ratio_build_S2 y) := by kernel_rfl
abbrev ratio_build_Y3 : Type := Bool × Int × Int × Int × Int × Int × Int
def ratio_build_S3 (v : ratio_build_Y3) : St := ⟨[(3, .ptr 0 0), (6, .ptr 1 0), (8, .ptr 2 0)], [.cells [.bool v.1, .int .u64 v.2.1, .int .u64 v.2.2.1], .cells [.int .i64 v.2.2.2.1, .int .i64 v.2.2.2.2.1], .cells [.int .i64 v.2.2.2.2.2.1, .int .i64 v.2.2.2.2.2.2]]⟩
def ratio_build_r3 (C : ratio_build_C) (v : ratio_build_Y1) : Dt ratio_build_Y3 := (Dt.ret (v.2.2.1, v.2.2.2.1, v.2.2.2.2.1, v.2.2.2.2.2.1, v.2.2.2.2.2.2, (IntKind.wrap .i64 v.2.2.2.2.1), (IntKind.wrap .i64 v.1)))
theorem ratio_build_g3 (C : ratio_build_C) (v : ratio_build_Y1) : treg tysT (orc (ratio_build_tab C)) 39 (regO (bodyOf f90) 3) false [(3, .any), (6, .any), (8, .any)] (ratio_build_S1 v) some = (ratio_build_r3 C v).eval fun y => some (ratio_build_S3 y) := by kernel_rfl
abbrev ratio_build_Y4 : Type := Bool × Int × Int × Int × Int
def ratio_build_S4 (v : ratio_build_Y4) : St := ⟨[(6, .ptr 0 0), (8, .ptr 1 0), (33, .bool v.1)], [.cells [.int .i64 v.2.1, .int .i64 v.2.2.1], .cells [.int .i64 v.2.2.2.1, .int .i64 v.2.2.2.2]]⟩
def ratio_build_r4 (C : ratio_build_C) (v : ratio_build_Y3) : Dt ratio_build_Y4 := (Dt.ret (v.1, v.2.2.2.1, v.2.2.2.2.1, v.2.2.2.2.2.1, v.2.2.2.2.2.2))
theorem ratio_build_g4 (C : ratio_build_C) (v : ratio_build_Y3) : treg tysT (orc (ratio_build_tab C)) 39 (regO (bodyOf f90) 4) false [(6, .any), (8, .any), (33, .any)] (ratio_build_S3 v) some = (ratio_build_r4 C v).eval fun y => some (ratio_build_S4 y) := by kernel_rfl
abbrev ratio_build_Y5 : Type := Int × Int × Int × Int
def ratio_build_S5 (v : ratio_build_Y5) : St := ⟨[(6, .ptr 0 0), (8, .ptr 1 0)], [.cells [.int .i64 v.1, .int .i64 v.2.1], .cells [.int .i64 v.2.2.1, .int .i64 v.2.2.2]]⟩
def ratio_build_r5 (C : ratio_build_C) (v : ratio_build_Y4) : Dt ratio_build_Y5 := (Dt.ret (v.2.1, v.2.2.1, (IntKind.wrap .i64 (0 - v.2.2.2.1)), v.2.2.2.2))
theorem ratio_build_g5 (C : ratio_build_C) (v : ratio_build_Y4) : treg tysT (orc (ratio_build_tab C)) 39 (regO (bodyOf f90) 5) false [(6, .any), (8, .any)] (ratio_build_S4 v) some = (ratio_build_r5 C v).eval fun y => some (ratio_build_S5 y) := by kernel_rfl
def ratio_build_r6 (C : ratio_build_C) (v : ratio_build_Y5) : Dt ratio_build_Y2 := (Dt.ret ((0:Int), v.2.2.1, v.2.2.2))
theorem ratio_build_g6 (C : ratio_build_C) (v : ratio_build_Y5) : treg tysT (orc (ratio_build_tab C)) 39 (regO (bodyOf f90) 6) false [(6, .any), (7, .any)] (ratio_build_S5 v) some = (ratio_build_r6 C v).eval fun y => some (ratio_build_S2 y) := by kernel_rfl
def ratio_build_J1  (d : Nat)  (z : Int × Int × Int × Int) : Option (ratio_build_R) :=
  (ratio_build_r6 (ratio_build_K d) z).eval fun y6 =>
  some (y6.2.1, y6.2.2, y6.1)
def F_ratio_build (d : Nat) (x : ratio_build_X) : Option ratio_build_R :=
  (ratio_build_r0 (ratio_build_K d) (x.1.1, x.1.2.1, x.1.2.2.1, x.2.1.1, x.2.2.1.1)).eval fun y0 =>
  (ratio_build_r1 (ratio_build_K d) y0).eval fun y1 =>
  bif y1.2.1 then ((ratio_build_r2 (ratio_build_K d) y1).eval fun y2 =>
  some (y2.2.1, y2.2.2, y2.1)) else ((ratio_build_r3 (ratio_build_K d) y1).eval fun y3 =>
  (ratio_build_r4 (ratio_build_K d) y3).eval fun y4 =>
  bif y4.1 then ((ratio_build_r5 (ratio_build_K d) y4).eval fun y5 =>
  ratio_build_J1 d  y5) else (ratio_build_J1 d  y4.2))
theorem ratio_build_cok (d : Nat) : COK prog (ratio_build_sp (F_ratio_build d)) := by
  have hm : prog.follows .mixedOrders = true := mixed
  have hT := tys
  have hC0 : OrcOK prog (orc (ratio_build_tab (ratio_build_K d))) := orc_ok (by
    intro S hS
    simp only [ratio_build_tab, List.mem_cons, List.not_mem_nil, or_false] at hS
    all_goals first | cases hS | exact hS.elim)
  have hC : OrcOK prog (orc (ratio_build_tab (ratio_build_K d))) := hC0
  refine cok_of (c := bodyOf f90) (fn := f90) hT (by kernel_rfl) (by kernel_rfl) (by decide) fun x r h w0 φ0 Q hend => ?_
  replace h : F_ratio_build d x = some r := h
  unfold F_ratio_build at h
  show Run prog w0 φ0 39 (bodyOf f90) ⟨[(0, .agg [.bool x.1.1, .int .u64 x.1.2.1, .int .u64 x.1.2.2.1]), (1, .int .u64 x.2.1.1), (2, .int .u64 x.2.2.1.1)], []⟩ Q
  refine run_seq ?_
  refine run_reg hm hT hC (ratio_build_g0 (ratio_build_K d) (x.1.1, x.1.2.1, x.1.2.2.1, x.2.1.1, x.2.2.1.1)) h ?_
  intro y0 h
  refine cn_then ?_
  refine run_seq ?_
  refine run_seq ?_
  refine run_reg hm hT hC (ratio_build_g1 (ratio_build_K d) y0) h ?_
  intro y1 h
  refine cn_then ?_
  refine run_cond (v := y1.2.1) (by kernel_rfl) h ?_ ?_
  ·
    intro h
    refine run_seq ?_
    refine run_reg hm hT hC (ratio_build_g2 (ratio_build_K d) y1) h ?_
    intro y2 h
    refine cn_then ?_
    refine run_ret ?_
    refine cn_then_ret ?_
    cases h
    exact (hend _ (by kernel_rfl)).2
  ·
    intro h
    refine run_skip ?_
    refine cn_then ?_
    refine run_seq ?_
    refine run_reg hm hT hC (ratio_build_g3 (ratio_build_K d) y1) h ?_
    intro y3 h
    refine cn_then ?_
    refine run_join (r := r) (F := ratio_build_J1 d ) (S := (fun z => ⟨[(6, .ptr 0 0), (8, .ptr 1 0)], [.cells [.int .i64 z.1, .int .i64 z.2.1], .cells [.int .i64 z.2.2.1, .int .i64 z.2.2.2]]⟩ : Int × Int × Int × Int → St)) ?_ ?_
    ·
      intro z h
      unfold ratio_build_J1 at h
      refine run_seq ?_
      refine run_reg hm hT hC (ratio_build_g6 (ratio_build_K d) z) h ?_
      intro y6 h
      refine cn_then ?_
      refine run_ret ?_
      cases h
      exact (hend _ (by kernel_rfl)).2
    intro hj1
    refine run_seq ?_
    refine run_reg hm hT hC (ratio_build_g4 (ratio_build_K d) y3) h ?_
    intro y4 h
    refine cn_then ?_
    refine run_cond (v := y4.1) (by kernel_rfl) h ?_ ?_
    ·
      intro h
      refine run_reg hm hT hC (ratio_build_g5 (ratio_build_K d) y4) h ?_
      intro y5 h
      exact hj1 _ h
    ·
      intro h
      refine run_skip ?_
      refine cn_num (s := ⟨[(6, .ptr 0 0), (8, .ptr 1 0)], [.cells [.int .i64 y4.2.1, .int .i64 y4.2.2.1], .cells [.int .i64 y4.2.2.2.1, .int .i64 y4.2.2.2.2]]⟩) [33] (by kernel_rfl) ?_
      exact hj1 _ h
abbrev ratio_Make_ps : List Pk := [.row Ri false, .row Ri false]
abbrev ratio_Make_X : Type := Di × Di × Unit
abbrev ratio_Make_R : Type := Int × Int × Int
def ratio_Make_enc (r : ratio_Make_R) : LV × List Ob := (.tup [.agg [.int .i64 r.1, .int .i64 r.2.1], .int .i64 r.2.2], [])
def ratio_Make_sp (F : ratio_Make_X → Option ratio_Make_R) : Go.Tx.Spec := ⟨79, ratio_Make_ps, ratio_Make_R, F, ratio_Make_enc⟩
abbrev ratio_Make_C : Type := (ratio_gcd_X → Option ratio_gcd_R) × (ratio_abs_X → Option ratio_abs_R) × (ratio_build_X → Option ratio_build_R) × Unit
def ratio_Make_K (d : Nat) : ratio_Make_C := (F_ratio_gcd d, F_ratio_abs d, F_ratio_build d, ())
def ratio_Make_tab (C : ratio_Make_C) : List Go.Tx.Spec := [ratio_gcd_sp C.1, ratio_abs_sp C.2.1, ratio_build_sp C.2.2.1]
abbrev ratio_Make_Y0i : Type := Int × Int
def ratio_Make_S0i (v : ratio_Make_Y0i) : St := ⟨[(0, .int .i64 v.1), (1, .int .i64 v.2)], []⟩
abbrev ratio_Make_Y0 : Type := Int × Int × Int × Int
def ratio_Make_S0 (v : ratio_Make_Y0) : St := ⟨[(0, .int .i64 v.1), (1, .int .i64 v.2.1), (4, .ptr 0 0)], [.cells [.int .i64 v.2.2.1, .int .i64 v.2.2.2]]⟩
def ratio_Make_r0 (C : ratio_Make_C) (v : ratio_Make_Y0i) : Dt ratio_Make_Y0 := (Dt.ret (v.1, v.2, (0:Int), (0:Int)))
theorem ratio_Make_g0 (C : ratio_Make_C) (v : ratio_Make_Y0i) : treg tysT (orc (ratio_Make_tab C)) 32 (regO (bodyOf f79) 0) false [(0, .any), (1, .any), (4, .any)] (ratio_Make_S0i v) some = (ratio_Make_r0 C v).eval fun y => some (ratio_Make_S0 y) := by kernel_rfl
abbrev ratio_Make_Y1 : Type := Int × Int × Bool × Int × Int
def ratio_Make_S1 (v : ratio_Make_Y1) : St := ⟨[(0, .int .i64 v.1), (1, .int .i64 v.2.1), (4, .ptr 0 0), (8, .bool v.2.2.1)], [.cells [.int .i64 v.2.2.2.1, .int .i64 v.2.2.2.2]]⟩
def ratio_Make_r1 (C : ratio_Make_C) (v : ratio_Make_Y0) : Dt ratio_Make_Y1 := (Dt.ret (v.1, v.2.1, (v.2.1 == (0:Int)), v.2.2.1, v.2.2.2))
theorem ratio_Make_g1 (C : ratio_Make_C) (v : ratio_Make_Y0) : treg tysT (orc (ratio_Make_tab C)) 32 (regO (bodyOf f79) 1) false [(0, .any), (1, .any), (4, .any), (8, .any)] (ratio_Make_S0 v) some = (ratio_Make_r1 C v).eval fun y => some (ratio_Make_S1 y) := by kernel_rfl
abbrev ratio_Make_Y2 : Type := Int × Int × Int
def ratio_Make_S2 (v : ratio_Make_Y2) : St := ⟨[(4, .ptr 0 0), (5, .int .i64 v.1)], [.cells [.int .i64 v.2.1, .int .i64 v.2.2]]⟩
def ratio_Make_r2 (C : ratio_Make_C) (v : ratio_Make_Y1) : Dt ratio_Make_Y2 := (Dt.ret ((26:Int), (0:Int), (0:Int)))
theorem ratio_Make_g2 (C : ratio_Make_C) (v : ratio_Make_Y1) : treg tysT (orc (ratio_Make_tab C)) 32 (regO (bodyOf f79) 2) false [(4, .any), (5, .any)] (ratio_Make_S1 v) some = (ratio_Make_r2 C v).eval fun y => some (ratio_Make_S2 y) := by kernel_rfl
abbrev ratio_Make_Y3 : Type := Int × Int × Int × Int × Int
def ratio_Make_S3 (v : ratio_Make_Y3) : St := ⟨[(0, .int .i64 v.1), (1, .int .i64 v.2.1), (4, .ptr 0 0), (6, .int .u64 v.2.2.1)], [.cells [.int .i64 v.2.2.2.1, .int .i64 v.2.2.2.2]]⟩
def ratio_Make_r3 (C : ratio_Make_C) (v : ratio_Make_Y1) : Dt ratio_Make_Y3 := (Dt.bnd (C.2.1 ((v.1, ()), ())) fun r1 => (Dt.bnd (C.2.1 ((v.2.1, ()), ())) fun r2 => (Dt.bnd (C.1 ((r1, ()), (r2, ()), ())) fun r3 => (Dt.ret (v.1, v.2.1, r3, v.2.2.2.1, v.2.2.2.2)))))
theorem ratio_Make_g3 (C : ratio_Make_C) (v : ratio_Make_Y1) : treg tysT (orc (ratio_Make_tab C)) 32 (regO (bodyOf f79) 3) false [(0, .any), (1, .any), (4, .any), (6, .any)] (ratio_Make_S1 v) some = (ratio_Make_r3 C v).eval fun y => some (ratio_Make_S3 y) := by kernel_rfl
def ratio_Make_r4 (C : ratio_Make_C) (v : ratio_Make_Y3) : Dt ratio_Make_Y2 := (Dt.bnd (C.2.1 ((v.1, ()), ())) fun r1 => (Dt.ite (v.2.2.1 == (0:Int)) Dt.fail (Dt.bnd (C.2.1 ((v.2.1, ()), ())) fun r2 => (Dt.ite (v.2.2.1 == (0:Int)) Dt.fail (Dt.bnd (C.2.2.1 (((!((decide (v.1 < (0:Int))) == (decide (v.2.1 < (0:Int))))), (0:Int), (IntKind.wrap .u64 (Int.tdiv r1 v.2.2.1)), ()), ((0:Int), ()), ((IntKind.wrap .u64 (Int.tdiv r2 v.2.2.1)), ()), ())) fun r3 => (Dt.ret (r3.2.2, r3.1, r3.2.1)))))))
theorem ratio_Make_g4 (C : ratio_Make_C) (v : ratio_Make_Y3) : treg tysT (orc (ratio_Make_tab C)) 32 (regO (bodyOf f79) 4) true [(4, .any), (5, .any)] (ratio_Make_S3 v) some = (ratio_Make_r4 C v).eval fun y => some (ratio_Make_S2 y) := by kernel_rfl
def F_ratio_Make (d : Nat) (x : ratio_Make_X) : Option ratio_Make_R :=
  (ratio_Make_r0 (ratio_Make_K d) (x.1.1, x.2.1.1)).eval fun y0 =>
  (ratio_Make_r1 (ratio_Make_K d) y0).eval fun y1 =>
  bif y1.2.2.1 then ((ratio_Make_r2 (ratio_Make_K d) y1).eval fun y2 =>
  some (y2.2.1, y2.2.2, y2.1)) else ((ratio_Make_r3 (ratio_Make_K d) y1).eval fun y3 =>
  (ratio_Make_r4 (ratio_Make_K d) y3).eval fun y4 =>
  some (y4.2.1, y4.2.2, y4.1))
theorem ratio_Make_cok (d : Nat) : COK prog (ratio_Make_sp (F_ratio_Make d)) := by
  have hm : prog.follows .mixedOrders = true := mixed
  have hT := tys
  have hC0 : OrcOK prog (orc (ratio_Make_tab (ratio_Make_K d))) := orc_ok (by
    intro S hS
    simp only [ratio_Make_tab, List.mem_cons, List.not_mem_nil, or_false] at hS
    rcases hS with rfl | rfl | rfl
    · exact ratio_gcd_cok d
    · exact ratio_abs_cok d
    · exact ratio_build_cok d)
  have hC : OrcOK prog (orc (ratio_Make_tab (ratio_Make_K d))) := hC0
  refine cok_of (c := bodyOf f79) (fn := f79) hT (by kernel_rfl) (by kernel_rfl) (by decide) fun x r h w0 φ0 Q hend => ?_
  replace h : F_ratio_Make d x = some r := h
  unfold F_ratio_Make at h
  show Run prog w0 φ0 32 (bodyOf f79) ⟨[(0, .int .i64 x.1.1), (1, .int .i64 x.2.1.1)], []⟩ Q
  refine run_seq ?_
  refine run_reg hm hT hC (ratio_Make_g0 (ratio_Make_K d) (x.1.1, x.2.1.1)) h ?_
  intro y0 h
  refine cn_then ?_
  refine run_seq ?_
  refine run_seq ?_
  refine run_reg hm hT hC (ratio_Make_g1 (ratio_Make_K d) y0) h ?_
  intro y1 h
  refine cn_then ?_
  refine run_cond (v := y1.2.2.1) (by kernel_rfl) h ?_ ?_
  ·
    intro h
    refine run_seq ?_
    refine run_reg hm hT hC (ratio_Make_g2 (ratio_Make_K d) y1) h ?_
    intro y2 h
    refine cn_then ?_
    refine run_ret ?_
    refine cn_then_ret ?_
    cases h
    exact (hend _ (by kernel_rfl)).2
  ·
    intro h
    refine run_skip ?_
    refine cn_then ?_
    refine run_seq ?_
    refine run_reg hm hT hC (ratio_Make_g3 (ratio_Make_K d) y1) h ?_
    intro y3 h
    refine cn_then ?_
    refine run_seq ?_
    refine run_reg hm hT hC (ratio_Make_g4 (ratio_Make_K d) y3) h ?_
    intro y4 h
    refine cn_then ?_
    refine run_ret ?_
    cases h
    exact (hend _ (by kernel_rfl)).2
abbrev course_Meet_ps : List Pk := [.row Riii true, .row Riii true]
abbrev course_Meet_X : Type := Diii × Diii × Unit
abbrev course_Meet_R : Type := Int × Int × Int
def course_Meet_enc (r : course_Meet_R) : LV × List Ob := (.tup [.agg [.int .i64 r.1, .int .i64 r.2.1], .int .i64 r.2.2], [])
def course_Meet_sp (F : course_Meet_X → Option course_Meet_R) : Go.Tx.Spec := ⟨58, course_Meet_ps, course_Meet_R, F, course_Meet_enc⟩
abbrev course_Meet_C : Type := (course_two_X → Option course_two_R) × (ratio_Make_X → Option ratio_Make_R) × Unit
def course_Meet_K (d : Nat) : course_Meet_C := (F_course_two d, F_ratio_Make d, ())
def course_Meet_tab (C : course_Meet_C) : List Go.Tx.Spec := [course_two_sp C.1, ratio_Make_sp C.2.1]
abbrev course_Meet_Y0i : Type := Int × Int × Int × Int × Int × Int
def course_Meet_S0i (v : course_Meet_Y0i) : St := ⟨[(0, .agg [.int .i64 v.1, .int .i64 v.2.1, .int .i64 v.2.2.1]), (1, .agg [.int .i64 v.2.2.2.1, .int .i64 v.2.2.2.2.1, .int .i64 v.2.2.2.2.2])], []⟩
abbrev course_Meet_Y0 : Type := Int × Int × Int × Int × Int × Int × Int × Int
def course_Meet_S0 (v : course_Meet_Y0) : St := ⟨[(2, .ptr 0 0), (3, .ptr 1 0), (4, .ptr 2 0)], [.cells [.int .i64 v.1, .int .i64 v.2.1, .int .i64 v.2.2.1], .cells [.int .i64 v.2.2.2.1, .int .i64 v.2.2.2.2.1, .int .i64 v.2.2.2.2.2.1], .cells [.int .i64 v.2.2.2.2.2.2.1, .int .i64 v.2.2.2.2.2.2.2]]⟩
def course_Meet_r0 (C : course_Meet_C) (v : course_Meet_Y0i) : Dt course_Meet_Y0 := (Dt.ret (v.1, v.2.1, v.2.2.1, v.2.2.2.1, v.2.2.2.2.1, v.2.2.2.2.2, (0:Int), (0:Int)))
theorem course_Meet_g0 (C : course_Meet_C) (v : course_Meet_Y0i) : treg tysT (orc (course_Meet_tab C)) 34 (regO (bodyOf f58) 0) false [(2, .any), (3, .any), (4, .any)] (course_Meet_S0i v) some = (course_Meet_r0 C v).eval fun y => some (course_Meet_S0 y) := by kernel_rfl
abbrev course_Meet_Y1 : Type := Int × Int × Int × Int × Int × Int × Int × Int × Int
def course_Meet_S1 (v : course_Meet_Y1) : St := ⟨[(2, .ptr 0 0), (3, .ptr 1 0), (4, .ptr 2 0), (6, .int .i64 v.1)], [.cells [.int .i64 v.2.1, .int .i64 v.2.2.1, .int .i64 v.2.2.2.1], .cells [.int .i64 v.2.2.2.2.1, .int .i64 v.2.2.2.2.2.1, .int .i64 v.2.2.2.2.2.2.1], .cells [.int .i64 v.2.2.2.2.2.2.2.1, .int .i64 v.2.2.2.2.2.2.2.2]]⟩
def course_Meet_r1 (C : course_Meet_C) (v : course_Meet_Y0) : Dt course_Meet_Y1 := (Dt.bnd (C.1 ((v.1, v.2.1, v.2.2.1, ()), (v.2.2.2.1, v.2.2.2.2.1, v.2.2.2.2.2.1, ()), ((0:Int), (1:Int), ()), ())) fun r1 => (Dt.ret (r1, v.1, v.2.1, v.2.2.1, v.2.2.2.1, v.2.2.2.2.1, v.2.2.2.2.2.1, v.2.2.2.2.2.2.1, v.2.2.2.2.2.2.2)))
theorem course_Meet_g1 (C : course_Meet_C) (v : course_Meet_Y0) : treg tysT (orc (course_Meet_tab C)) 34 (regO (bodyOf f58) 1) false [(2, .any), (3, .any), (4, .any), (6, .any)] (course_Meet_S0 v) some = (course_Meet_r1 C v).eval fun y => some (course_Meet_S1 y) := by kernel_rfl
abbrev course_Meet_Y2 : Type := Int × Bool × Int × Int × Int × Int × Int × Int × Int × Int
def course_Meet_S2 (v : course_Meet_Y2) : St := ⟨[(2, .ptr 0 0), (3, .ptr 1 0), (4, .ptr 2 0), (6, .int .i64 v.1), (12, .bool v.2.1)], [.cells [.int .i64 v.2.2.1, .int .i64 v.2.2.2.1, .int .i64 v.2.2.2.2.1], .cells [.int .i64 v.2.2.2.2.2.1, .int .i64 v.2.2.2.2.2.2.1, .int .i64 v.2.2.2.2.2.2.2.1], .cells [.int .i64 v.2.2.2.2.2.2.2.2.1, .int .i64 v.2.2.2.2.2.2.2.2.2]]⟩
def course_Meet_r2 (C : course_Meet_C) (v : course_Meet_Y1) : Dt course_Meet_Y2 := (Dt.ret (v.1, (v.1 != (0:Int)), v.2.1, v.2.2.1, v.2.2.2.1, v.2.2.2.2.1, v.2.2.2.2.2.1, v.2.2.2.2.2.2.1, v.2.2.2.2.2.2.2.1, v.2.2.2.2.2.2.2.2))
theorem course_Meet_g2 (C : course_Meet_C) (v : course_Meet_Y1) : treg tysT (orc (course_Meet_tab C)) 34 (regO (bodyOf f58) 2) false [(2, .any), (3, .any), (4, .any), (6, .any), (12, .any)] (course_Meet_S1 v) some = (course_Meet_r2 C v).eval fun y => some (course_Meet_S2 y) := by kernel_rfl
abbrev course_Meet_Y3 : Type := Int × Int × Int
def course_Meet_S3 (v : course_Meet_Y3) : St := ⟨[(4, .ptr 0 0), (5, .int .i64 v.1)], [.cells [.int .i64 v.2.1, .int .i64 v.2.2]]⟩
def course_Meet_r3 (C : course_Meet_C) (v : course_Meet_Y2) : Dt course_Meet_Y3 := (Dt.ret (v.1, (0:Int), (0:Int)))
theorem course_Meet_g3 (C : course_Meet_C) (v : course_Meet_Y2) : treg tysT (orc (course_Meet_tab C)) 34 (regO (bodyOf f58) 3) false [(4, .any), (5, .any)] (course_Meet_S2 v) some = (course_Meet_r3 C v).eval fun y => some (course_Meet_S3 y) := by kernel_rfl
abbrev course_Meet_Y4 : Type := Bool × Int × Int × Int × Int × Int × Int × Int × Int
def course_Meet_S4 (v : course_Meet_Y4) : St := ⟨[(2, .ptr 0 0), (3, .ptr 1 0), (4, .ptr 2 0), (19, .bool v.1)], [.cells [.int .i64 v.2.1, .int .i64 v.2.2.1, .int .i64 v.2.2.2.1], .cells [.int .i64 v.2.2.2.2.1, .int .i64 v.2.2.2.2.2.1, .int .i64 v.2.2.2.2.2.2.1], .cells [.int .i64 v.2.2.2.2.2.2.2.1, .int .i64 v.2.2.2.2.2.2.2.2]]⟩
def course_Meet_r4 (C : course_Meet_C) (v : course_Meet_Y2) : Dt course_Meet_Y4 := (Dt.ret ((v.2.2.2.2.1 == v.2.2.2.2.2.2.2.1), v.2.2.1, v.2.2.2.1, v.2.2.2.2.1, v.2.2.2.2.2.1, v.2.2.2.2.2.2.1, v.2.2.2.2.2.2.2.1, v.2.2.2.2.2.2.2.2.1, v.2.2.2.2.2.2.2.2.2))
theorem course_Meet_g4 (C : course_Meet_C) (v : course_Meet_Y2) : treg tysT (orc (course_Meet_tab C)) 34 (regO (bodyOf f58) 4) false [(2, .any), (3, .any), (4, .any), (19, .any)] (course_Meet_S2 v) some = (course_Meet_r4 C v).eval fun y => some (course_Meet_S4 y) := by kernel_rfl
def course_Meet_r5 (C : course_Meet_C) (v : course_Meet_Y4) : Dt course_Meet_Y3 := (Dt.ret ((6:Int), (0:Int), (0:Int)))
theorem course_Meet_g5 (C : course_Meet_C) (v : course_Meet_Y4) : treg tysT (orc (course_Meet_tab C)) 34 (regO (bodyOf f58) 5) false [(4, .any), (5, .any)] (course_Meet_S4 v) some = (course_Meet_r5 C v).eval fun y => some (course_Meet_S3 y) := by kernel_rfl
def course_Meet_r6 (C : course_Meet_C) (v : course_Meet_Y4) : Dt course_Meet_Y3 := (Dt.bnd (C.2.1 (((IntKind.wrap .i64 (v.2.2.1 - v.2.2.2.2.2.1)), ()), ((IntKind.wrap .i64 (v.2.2.2.2.2.2.1 - v.2.2.2.1)), ()), ())) fun r1 => (Dt.ret (r1.2.2, r1.1, r1.2.1)))
theorem course_Meet_g6 (C : course_Meet_C) (v : course_Meet_Y4) : treg tysT (orc (course_Meet_tab C)) 34 (regO (bodyOf f58) 6) false [(4, .any), (5, .any)] (course_Meet_S4 v) some = (course_Meet_r6 C v).eval fun y => some (course_Meet_S3 y) := by kernel_rfl
def F_course_Meet (d : Nat) (x : course_Meet_X) : Option course_Meet_R :=
  (course_Meet_r0 (course_Meet_K d) (x.1.1, x.1.2.1, x.1.2.2.1, x.2.1.1, x.2.1.2.1, x.2.1.2.2.1)).eval fun y0 =>
  (course_Meet_r1 (course_Meet_K d) y0).eval fun y1 =>
  (course_Meet_r2 (course_Meet_K d) y1).eval fun y2 =>
  bif y2.2.1 then ((course_Meet_r3 (course_Meet_K d) y2).eval fun y3 =>
  some (y3.2.1, y3.2.2, y3.1)) else ((course_Meet_r4 (course_Meet_K d) y2).eval fun y4 =>
  bif y4.1 then ((course_Meet_r5 (course_Meet_K d) y4).eval fun y5 =>
  some (y5.2.1, y5.2.2, y5.1)) else ((course_Meet_r6 (course_Meet_K d) y4).eval fun y6 =>
  some (y6.2.1, y6.2.2, y6.1)))
theorem course_Meet_cok (d : Nat) : COK prog (course_Meet_sp (F_course_Meet d)) := by
  have hm : prog.follows .mixedOrders = true := mixed
  have hT := tys
  have hC0 : OrcOK prog (orc (course_Meet_tab (course_Meet_K d))) := orc_ok (by
    intro S hS
    simp only [course_Meet_tab, List.mem_cons, List.not_mem_nil, or_false] at hS
    rcases hS with rfl | rfl
    · exact course_two_cok d
    · exact ratio_Make_cok d)
  have hC : OrcOK prog (orc (course_Meet_tab (course_Meet_K d))) := hC0
  refine cok_of (c := bodyOf f58) (fn := f58) hT (by kernel_rfl) (by kernel_rfl) (by decide) fun x r h w0 φ0 Q hend => ?_
  replace h : F_course_Meet d x = some r := h
  unfold F_course_Meet at h
  show Run prog w0 φ0 34 (bodyOf f58) ⟨[(0, .agg [.int .i64 x.1.1, .int .i64 x.1.2.1, .int .i64 x.1.2.2.1]), (1, .agg [.int .i64 x.2.1.1, .int .i64 x.2.1.2.1, .int .i64 x.2.1.2.2.1])], []⟩ Q
  refine run_seq ?_
  refine run_reg hm hT hC (course_Meet_g0 (course_Meet_K d) (x.1.1, x.1.2.1, x.1.2.2.1, x.2.1.1, x.2.1.2.1, x.2.1.2.2.1)) h ?_
  intro y0 h
  refine cn_then ?_
  refine run_seq ?_
  refine run_seq ?_
  refine run_reg hm hT hC (course_Meet_g1 (course_Meet_K d) y0) h ?_
  intro y1 h
  refine cn_then ?_
  refine run_seq ?_
  refine run_reg hm hT hC (course_Meet_g2 (course_Meet_K d) y1) h ?_
  intro y2 h
  refine cn_then ?_
  refine run_cond (v := y2.2.1) (by kernel_rfl) h ?_ ?_
  ·
    intro h
    refine run_seq ?_
    refine run_reg hm hT hC (course_Meet_g3 (course_Meet_K d) y2) h ?_
    intro y3 h
    refine cn_then ?_
    refine run_ret ?_
    refine cn_then_ret ?_
    cases h
    exact (hend _ (by kernel_rfl)).2
  ·
    intro h
    refine run_skip ?_
    refine cn_then ?_
    refine run_seq ?_
    refine run_seq ?_
    refine run_reg hm hT hC (course_Meet_g4 (course_Meet_K d) y2) h ?_
    intro y4 h
    refine cn_then ?_
    refine run_cond (v := y4.1) (by kernel_rfl) h ?_ ?_
    ·
      intro h
      refine run_seq ?_
      refine run_reg hm hT hC (course_Meet_g5 (course_Meet_K d) y4) h ?_
      intro y5 h
      refine cn_then ?_
      refine run_ret ?_
      refine cn_then_ret ?_
      cases h
      exact (hend _ (by kernel_rfl)).2
    ·
      intro h
      refine run_skip ?_
      refine cn_then ?_
      refine run_seq ?_
      refine run_reg hm hT hC (course_Meet_g6 (course_Meet_K d) y4) h ?_
      intro y6 h
      refine cn_then ?_
      refine run_ret ?_
      cases h
      exact (hend _ (by kernel_rfl)).2
abbrev ratio_both_ps : List Pk := [.row Rii true, .row Rii true]
abbrev ratio_both_X : Type := Dii × Dii × Unit
abbrev ratio_both_R : Type := Int
def ratio_both_enc (r : ratio_both_R) : LV × List Ob := (.int .i64 r, [])
def ratio_both_sp (F : ratio_both_X → Option ratio_both_R) : Go.Tx.Spec := ⟨87, ratio_both_ps, ratio_both_R, F, ratio_both_enc⟩
abbrev ratio_both_C : Type := (ratio_Check_X → Option ratio_Check_R) × Unit
def ratio_both_K (d : Nat) : ratio_both_C := (F_ratio_Check d, ())
def ratio_both_tab (C : ratio_both_C) : List Go.Tx.Spec := [ratio_Check_sp C.1]
abbrev ratio_both_Y0i : Type := Int × Int × Int × Int
def ratio_both_S0i (v : ratio_both_Y0i) : St := ⟨[(0, .agg [.int .i64 v.1, .int .i64 v.2.1]), (1, .agg [.int .i64 v.2.2.1, .int .i64 v.2.2.2])], []⟩
abbrev ratio_both_Y0 : Type := Int × Int × Int × Int
def ratio_both_S0 (v : ratio_both_Y0) : St := ⟨[(2, .ptr 0 0), (3, .ptr 1 0)], [.cells [.int .i64 v.1, .int .i64 v.2.1], .cells [.int .i64 v.2.2.1, .int .i64 v.2.2.2]]⟩
def ratio_both_r0 (C : ratio_both_C) (v : ratio_both_Y0i) : Dt ratio_both_Y0 := (Dt.ret (v.1, v.2.1, v.2.2.1, v.2.2.2))
theorem ratio_both_g0 (C : ratio_both_C) (v : ratio_both_Y0i) : treg tysT (orc (ratio_both_tab C)) 10 (regO (bodyOf f87) 0) false [(2, .any), (3, .any)] (ratio_both_S0i v) some = (ratio_both_r0 C v).eval fun y => some (ratio_both_S0 y) := by kernel_rfl
abbrev ratio_both_Y1 : Type := Int
def ratio_both_S1 (v : ratio_both_Y1) : St := ⟨[(4, .int .i64 v)], []⟩
def ratio_both_r1 (C : ratio_both_C) (v : ratio_both_Y0) : Dt ratio_both_Y1 := (Dt.bnd (C.1 ((v.1, v.2.1, ()), ())) fun r1 => (Dt.bnd (C.1 ((v.2.2.1, v.2.2.2, ()), ())) fun r2 => (Dt.ret (tmax r1 r2))))
theorem ratio_both_g1 (C : ratio_both_C) (v : ratio_both_Y0) : treg tysT (orc (ratio_both_tab C)) 10 (regO (bodyOf f87) 1) true [(4, .any)] (ratio_both_S0 v) some = (ratio_both_r1 C v).eval fun y => some (ratio_both_S1 y) := by kernel_rfl
def F_ratio_both (d : Nat) (x : ratio_both_X) : Option ratio_both_R :=
  (ratio_both_r0 (ratio_both_K d) (x.1.1, x.1.2.1, x.2.1.1, x.2.1.2.1)).eval fun y0 =>
  (ratio_both_r1 (ratio_both_K d) y0).eval fun y1 =>
  some y1
theorem ratio_both_cok (d : Nat) : COK prog (ratio_both_sp (F_ratio_both d)) := by
  have hm : prog.follows .mixedOrders = true := mixed
  have hT := tys
  have hC0 : OrcOK prog (orc (ratio_both_tab (ratio_both_K d))) := orc_ok (by
    intro S hS
    simp only [ratio_both_tab, List.mem_cons, List.not_mem_nil, or_false] at hS
    subst hS; exact ratio_Check_cok d)
  have hC : OrcOK prog (orc (ratio_both_tab (ratio_both_K d))) := hC0
  refine cok_of (c := bodyOf f87) (fn := f87) hT (by kernel_rfl) (by kernel_rfl) (by decide) fun x r h w0 φ0 Q hend => ?_
  replace h : F_ratio_both d x = some r := h
  unfold F_ratio_both at h
  show Run prog w0 φ0 10 (bodyOf f87) ⟨[(0, .agg [.int .i64 x.1.1, .int .i64 x.1.2.1]), (1, .agg [.int .i64 x.2.1.1, .int .i64 x.2.1.2.1])], []⟩ Q
  refine run_seq ?_
  refine run_reg hm hT hC (ratio_both_g0 (ratio_both_K d) (x.1.1, x.1.2.1, x.2.1.1, x.2.1.2.1)) h ?_
  intro y0 h
  refine cn_then ?_
  refine run_seq ?_
  refine run_reg hm hT hC (ratio_both_g1 (ratio_both_K d) y0) h ?_
  intro y1 h
  refine cn_then ?_
  refine run_ret ?_
  cases h
  exact (hend _ (by kernel_rfl)).2
abbrev cmp_isNaN_int64_ps : List Pk := [.row Ri false]
abbrev cmp_isNaN_int64_X : Type := Di × Unit
abbrev cmp_isNaN_int64_R : Type := Bool
def cmp_isNaN_int64_enc (r : cmp_isNaN_int64_R) : LV × List Ob := (.bool r, [])
def cmp_isNaN_int64_sp (F : cmp_isNaN_int64_X → Option cmp_isNaN_int64_R) : Go.Tx.Spec := ⟨85, cmp_isNaN_int64_ps, cmp_isNaN_int64_R, F, cmp_isNaN_int64_enc⟩
abbrev cmp_isNaN_int64_C : Type := Unit
def cmp_isNaN_int64_K (_d : Nat) : cmp_isNaN_int64_C := ()
def cmp_isNaN_int64_tab (C : cmp_isNaN_int64_C) : List Go.Tx.Spec := []
abbrev cmp_isNaN_int64_Y0i : Type := Int
def cmp_isNaN_int64_S0i (v : cmp_isNaN_int64_Y0i) : St := ⟨[(0, .int .i64 v)], []⟩
def cmp_isNaN_int64_r0 (C : cmp_isNaN_int64_C) (v : cmp_isNaN_int64_Y0i) : Dt cmp_isNaN_int64_Y0i := (Dt.ret v)
theorem cmp_isNaN_int64_g0 (C : cmp_isNaN_int64_C) (v : cmp_isNaN_int64_Y0i) : treg tysT (orc (cmp_isNaN_int64_tab C)) 6 (regO (bodyOf f85) 0) false [(0, .any)] (cmp_isNaN_int64_S0i v) some = (cmp_isNaN_int64_r0 C v).eval fun y => some (cmp_isNaN_int64_S0i y) := by kernel_rfl
abbrev cmp_isNaN_int64_Y1 : Type := Bool
def cmp_isNaN_int64_S1 (v : cmp_isNaN_int64_Y1) : St := ⟨[(2, .bool v)], []⟩
def cmp_isNaN_int64_r1 (C : cmp_isNaN_int64_C) (v : cmp_isNaN_int64_Y0i) : Dt cmp_isNaN_int64_Y1 := (Dt.ret (v != v))
theorem cmp_isNaN_int64_g1 (C : cmp_isNaN_int64_C) (v : cmp_isNaN_int64_Y0i) : treg tysT (orc (cmp_isNaN_int64_tab C)) 6 (regO (bodyOf f85) 1) false [(2, .any)] (cmp_isNaN_int64_S0i v) some = (cmp_isNaN_int64_r1 C v).eval fun y => some (cmp_isNaN_int64_S1 y) := by kernel_rfl
def F_cmp_isNaN_int64 (d : Nat) (x : cmp_isNaN_int64_X) : Option cmp_isNaN_int64_R :=
  (cmp_isNaN_int64_r0 (cmp_isNaN_int64_K d) x.1.1).eval fun y0 =>
  (cmp_isNaN_int64_r1 (cmp_isNaN_int64_K d) y0).eval fun y1 =>
  some y1
theorem cmp_isNaN_int64_cok (d : Nat) : COK prog (cmp_isNaN_int64_sp (F_cmp_isNaN_int64 d)) := by
  have hm : prog.follows .mixedOrders = true := mixed
  have hT := tys
  have hC0 : OrcOK prog (orc (cmp_isNaN_int64_tab (cmp_isNaN_int64_K d))) := orc_ok (by
    intro S hS
    simp only [cmp_isNaN_int64_tab, List.mem_cons, List.not_mem_nil, or_false] at hS
    all_goals first | cases hS | exact hS.elim)
  have hC : OrcOK prog (orc (cmp_isNaN_int64_tab (cmp_isNaN_int64_K d))) := hC0
  refine cok_of (c := bodyOf f85) (fn := f85) hT (by kernel_rfl) (by kernel_rfl) (by decide) fun x r h w0 φ0 Q hend => ?_
  replace h : F_cmp_isNaN_int64 d x = some r := h
  unfold F_cmp_isNaN_int64 at h
  show Run prog w0 φ0 6 (bodyOf f85) ⟨[(0, .int .i64 x.1.1)], []⟩ Q
  refine run_seq ?_
  refine run_reg hm hT hC (cmp_isNaN_int64_g0 (cmp_isNaN_int64_K d) x.1.1) h ?_
  intro y0 h
  refine cn_then ?_
  refine run_seq ?_
  refine run_reg hm hT hC (cmp_isNaN_int64_g1 (cmp_isNaN_int64_K d) y0) h ?_
  intro y1 h
  refine cn_then ?_
  refine run_ret ?_
  cases h
  exact (hend _ (by kernel_rfl)).2
abbrev cmp_Compare_int64_ps : List Pk := [.row Ri false, .row Ri false]
abbrev cmp_Compare_int64_X : Type := Di × Di × Unit
abbrev cmp_Compare_int64_R : Type := Int
def cmp_Compare_int64_enc (r : cmp_Compare_int64_R) : LV × List Ob := (.int .i64 r, [])
def cmp_Compare_int64_sp (F : cmp_Compare_int64_X → Option cmp_Compare_int64_R) : Go.Tx.Spec := ⟨76, cmp_Compare_int64_ps, cmp_Compare_int64_R, F, cmp_Compare_int64_enc⟩
abbrev cmp_Compare_int64_C : Type := (cmp_isNaN_int64_X → Option cmp_isNaN_int64_R) × Unit
def cmp_Compare_int64_K (d : Nat) : cmp_Compare_int64_C := (F_cmp_isNaN_int64 d, ())
def cmp_Compare_int64_tab (C : cmp_Compare_int64_C) : List Go.Tx.Spec := [cmp_isNaN_int64_sp C.1]
abbrev cmp_Compare_int64_Y0i : Type := Int × Int
def cmp_Compare_int64_S0i (v : cmp_Compare_int64_Y0i) : St := ⟨[(0, .int .i64 v.1), (1, .int .i64 v.2)], []⟩
def cmp_Compare_int64_r0 (C : cmp_Compare_int64_C) (v : cmp_Compare_int64_Y0i) : Dt cmp_Compare_int64_Y0i := (Dt.ret (v.1, v.2))
theorem cmp_Compare_int64_g0 (C : cmp_Compare_int64_C) (v : cmp_Compare_int64_Y0i) : treg tysT (orc (cmp_Compare_int64_tab C)) 20 (regO (bodyOf f76) 0) false [(0, .any), (1, .any)] (cmp_Compare_int64_S0i v) some = (cmp_Compare_int64_r0 C v).eval fun y => some (cmp_Compare_int64_S0i y) := by kernel_rfl
abbrev cmp_Compare_int64_Y1 : Type := Int × Int × Bool
def cmp_Compare_int64_S1 (v : cmp_Compare_int64_Y1) : St := ⟨[(0, .int .i64 v.1), (1, .int .i64 v.2.1), (5, .bool v.2.2)], []⟩
def cmp_Compare_int64_r1 (C : cmp_Compare_int64_C) (v : cmp_Compare_int64_Y0i) : Dt cmp_Compare_int64_Y1 := (Dt.bnd (C.1 ((v.1, ()), ())) fun r1 => (Dt.ret (v.1, v.2, r1)))
theorem cmp_Compare_int64_g1 (C : cmp_Compare_int64_C) (v : cmp_Compare_int64_Y0i) : treg tysT (orc (cmp_Compare_int64_tab C)) 20 (regO (bodyOf f76) 1) false [(0, .any), (1, .any), (5, .any)] (cmp_Compare_int64_S0i v) some = (cmp_Compare_int64_r1 C v).eval fun y => some (cmp_Compare_int64_S1 y) := by kernel_rfl
abbrev cmp_Compare_int64_Y2 : Type := Int × Int × Bool × Bool
def cmp_Compare_int64_S2 (v : cmp_Compare_int64_Y2) : St := ⟨[(0, .int .i64 v.1), (1, .int .i64 v.2.1), (5, .bool v.2.2.1), (6, .bool v.2.2.2)], []⟩
def cmp_Compare_int64_r2 (C : cmp_Compare_int64_C) (v : cmp_Compare_int64_Y1) : Dt cmp_Compare_int64_Y2 := (Dt.bnd (C.1 ((v.2.1, ()), ())) fun r1 => (Dt.ret (v.1, v.2.1, v.2.2, r1)))
theorem cmp_Compare_int64_g2 (C : cmp_Compare_int64_C) (v : cmp_Compare_int64_Y1) : treg tysT (orc (cmp_Compare_int64_tab C)) 20 (regO (bodyOf f76) 2) false [(0, .any), (1, .any), (5, .any), (6, .any)] (cmp_Compare_int64_S1 v) some = (cmp_Compare_int64_r2 C v).eval fun y => some (cmp_Compare_int64_S2 y) := by kernel_rfl
abbrev cmp_Compare_int64_Y3 : Type := Int × Int × Bool × Bool
def cmp_Compare_int64_S3 (v : cmp_Compare_int64_Y3) : St := ⟨[(0, .int .i64 v.1), (1, .int .i64 v.2.1), (6, .bool v.2.2.1), (11, .bool v.2.2.2)], []⟩
def cmp_Compare_int64_r3 (C : cmp_Compare_int64_C) (v : cmp_Compare_int64_Y2) : Dt cmp_Compare_int64_Y3 := (Dt.ret (v.1, v.2.1, v.2.2.2, v.2.2.1))
theorem cmp_Compare_int64_g3 (C : cmp_Compare_int64_C) (v : cmp_Compare_int64_Y2) : treg tysT (orc (cmp_Compare_int64_tab C)) 20 (regO (bodyOf f76) 3) false [(0, .any), (1, .any), (6, .any), (11, .any)] (cmp_Compare_int64_S2 v) some = (cmp_Compare_int64_r3 C v).eval fun y => some (cmp_Compare_int64_S3 y) := by kernel_rfl
abbrev cmp_Compare_int64_Y4 : Type := Bool
def cmp_Compare_int64_S4 (v : cmp_Compare_int64_Y4) : St := ⟨[(12, .bool v)], []⟩
def cmp_Compare_int64_r4 (C : cmp_Compare_int64_C) (v : cmp_Compare_int64_Y3) : Dt cmp_Compare_int64_Y4 := (Dt.ret v.2.2.1)
theorem cmp_Compare_int64_g4 (C : cmp_Compare_int64_C) (v : cmp_Compare_int64_Y3) : treg tysT (orc (cmp_Compare_int64_tab C)) 20 (regO (bodyOf f76) 4) false [(12, .any)] (cmp_Compare_int64_S3 v) some = (cmp_Compare_int64_r4 C v).eval fun y => some (cmp_Compare_int64_S4 y) := by kernel_rfl
abbrev cmp_Compare_int64_Y5 : Type := Int
def cmp_Compare_int64_S5 (v : cmp_Compare_int64_Y5) : St := ⟨[(4, .int .i64 v)], []⟩
def cmp_Compare_int64_r5 (C : cmp_Compare_int64_C) (v : cmp_Compare_int64_Y4) : Dt cmp_Compare_int64_Y5 := (Dt.ret (0:Int))
theorem cmp_Compare_int64_g5 (C : cmp_Compare_int64_C) (v : cmp_Compare_int64_Y4) : treg tysT (orc (cmp_Compare_int64_tab C)) 20 (regO (bodyOf f76) 5) false [(4, .any)] (cmp_Compare_int64_S4 v) some = (cmp_Compare_int64_r5 C v).eval fun y => some (cmp_Compare_int64_S5 y) := by kernel_rfl
def cmp_Compare_int64_r6 (C : cmp_Compare_int64_C) (v : cmp_Compare_int64_Y4) : Dt cmp_Compare_int64_Y5 := (Dt.ret (-1:Int))
theorem cmp_Compare_int64_g6 (C : cmp_Compare_int64_C) (v : cmp_Compare_int64_Y4) : treg tysT (orc (cmp_Compare_int64_tab C)) 20 (regO (bodyOf f76) 6) false [(4, .any)] (cmp_Compare_int64_S4 v) some = (cmp_Compare_int64_r6 C v).eval fun y => some (cmp_Compare_int64_S5 y) := by kernel_rfl
abbrev cmp_Compare_int64_Y7 : Type := Int × Int × Bool
def cmp_Compare_int64_S7 (v : cmp_Compare_int64_Y7) : St := ⟨[(0, .int .i64 v.1), (1, .int .i64 v.2.1), (13, .bool v.2.2)], []⟩
def cmp_Compare_int64_r7 (C : cmp_Compare_int64_C) (v : cmp_Compare_int64_Y3) : Dt cmp_Compare_int64_Y7 := (Dt.ret (v.1, v.2.1, v.2.2.1))
theorem cmp_Compare_int64_g7 (C : cmp_Compare_int64_C) (v : cmp_Compare_int64_Y3) : treg tysT (orc (cmp_Compare_int64_tab C)) 20 (regO (bodyOf f76) 7) false [(0, .any), (1, .any), (13, .any)] (cmp_Compare_int64_S3 v) some = (cmp_Compare_int64_r7 C v).eval fun y => some (cmp_Compare_int64_S7 y) := by kernel_rfl
def cmp_Compare_int64_r8 (C : cmp_Compare_int64_C) (v : cmp_Compare_int64_Y7) : Dt cmp_Compare_int64_Y5 := (Dt.ret (1:Int))
theorem cmp_Compare_int64_g8 (C : cmp_Compare_int64_C) (v : cmp_Compare_int64_Y7) : treg tysT (orc (cmp_Compare_int64_tab C)) 20 (regO (bodyOf f76) 8) false [(4, .any)] (cmp_Compare_int64_S7 v) some = (cmp_Compare_int64_r8 C v).eval fun y => some (cmp_Compare_int64_S5 y) := by kernel_rfl
abbrev cmp_Compare_int64_Y9 : Type := Int × Int × Bool
def cmp_Compare_int64_S9 (v : cmp_Compare_int64_Y9) : St := ⟨[(0, .int .i64 v.1), (1, .int .i64 v.2.1), (16, .bool v.2.2)], []⟩
def cmp_Compare_int64_r9 (C : cmp_Compare_int64_C) (v : cmp_Compare_int64_Y7) : Dt cmp_Compare_int64_Y9 := (Dt.ret (v.1, v.2.1, (decide (v.1 < v.2.1))))
theorem cmp_Compare_int64_g9 (C : cmp_Compare_int64_C) (v : cmp_Compare_int64_Y7) : treg tysT (orc (cmp_Compare_int64_tab C)) 20 (regO (bodyOf f76) 9) false [(0, .any), (1, .any), (16, .any)] (cmp_Compare_int64_S7 v) some = (cmp_Compare_int64_r9 C v).eval fun y => some (cmp_Compare_int64_S9 y) := by kernel_rfl
def cmp_Compare_int64_r10 (C : cmp_Compare_int64_C) (v : cmp_Compare_int64_Y9) : Dt cmp_Compare_int64_Y5 := (Dt.ret (-1:Int))
theorem cmp_Compare_int64_g10 (C : cmp_Compare_int64_C) (v : cmp_Compare_int64_Y9) : treg tysT (orc (cmp_Compare_int64_tab C)) 20 (regO (bodyOf f76) 10) false [(4, .any)] (cmp_Compare_int64_S9 v) some = (cmp_Compare_int64_r10 C v).eval fun y => some (cmp_Compare_int64_S5 y) := by kernel_rfl
abbrev cmp_Compare_int64_Y11 : Type := Bool
def cmp_Compare_int64_S11 (v : cmp_Compare_int64_Y11) : St := ⟨[(19, .bool v)], []⟩
def cmp_Compare_int64_r11 (C : cmp_Compare_int64_C) (v : cmp_Compare_int64_Y9) : Dt cmp_Compare_int64_Y11 := (Dt.ret (decide (v.1 > v.2.1)))
theorem cmp_Compare_int64_g11 (C : cmp_Compare_int64_C) (v : cmp_Compare_int64_Y9) : treg tysT (orc (cmp_Compare_int64_tab C)) 20 (regO (bodyOf f76) 11) false [(19, .any)] (cmp_Compare_int64_S9 v) some = (cmp_Compare_int64_r11 C v).eval fun y => some (cmp_Compare_int64_S11 y) := by kernel_rfl
def cmp_Compare_int64_r12 (C : cmp_Compare_int64_C) (v : cmp_Compare_int64_Y11) : Dt cmp_Compare_int64_Y5 := (Dt.ret (1:Int))
theorem cmp_Compare_int64_g12 (C : cmp_Compare_int64_C) (v : cmp_Compare_int64_Y11) : treg tysT (orc (cmp_Compare_int64_tab C)) 20 (regO (bodyOf f76) 12) false [(4, .any)] (cmp_Compare_int64_S11 v) some = (cmp_Compare_int64_r12 C v).eval fun y => some (cmp_Compare_int64_S5 y) := by kernel_rfl
def cmp_Compare_int64_r13 (C : cmp_Compare_int64_C) (v : cmp_Compare_int64_Y11) : Dt cmp_Compare_int64_Y5 := (Dt.ret (0:Int))
theorem cmp_Compare_int64_g13 (C : cmp_Compare_int64_C) (v : cmp_Compare_int64_Y11) : treg tysT (orc (cmp_Compare_int64_tab C)) 20 (regO (bodyOf f76) 13) false [(4, .any)] (cmp_Compare_int64_S11 v) some = (cmp_Compare_int64_r13 C v).eval fun y => some (cmp_Compare_int64_S5 y) := by kernel_rfl
def F_cmp_Compare_int64 (d : Nat) (x : cmp_Compare_int64_X) : Option cmp_Compare_int64_R :=
  (cmp_Compare_int64_r0 (cmp_Compare_int64_K d) (x.1.1, x.2.1.1)).eval fun y0 =>
  (cmp_Compare_int64_r1 (cmp_Compare_int64_K d) y0).eval fun y1 =>
  (cmp_Compare_int64_r2 (cmp_Compare_int64_K d) y1).eval fun y2 =>
  (cmp_Compare_int64_r3 (cmp_Compare_int64_K d) y2).eval fun y3 =>
  bif y3.2.2.2 then ((cmp_Compare_int64_r4 (cmp_Compare_int64_K d) y3).eval fun y4 =>
  bif y4 then ((cmp_Compare_int64_r5 (cmp_Compare_int64_K d) y4).eval fun y5 =>
  some y5) else ((cmp_Compare_int64_r6 (cmp_Compare_int64_K d) y4).eval fun y6 =>
  some y6)) else ((cmp_Compare_int64_r7 (cmp_Compare_int64_K d) y3).eval fun y7 =>
  bif y7.2.2 then ((cmp_Compare_int64_r8 (cmp_Compare_int64_K d) y7).eval fun y8 =>
  some y8) else ((cmp_Compare_int64_r9 (cmp_Compare_int64_K d) y7).eval fun y9 =>
  bif y9.2.2 then ((cmp_Compare_int64_r10 (cmp_Compare_int64_K d) y9).eval fun y10 =>
  some y10) else ((cmp_Compare_int64_r11 (cmp_Compare_int64_K d) y9).eval fun y11 =>
  bif y11 then ((cmp_Compare_int64_r12 (cmp_Compare_int64_K d) y11).eval fun y12 =>
  some y12) else ((cmp_Compare_int64_r13 (cmp_Compare_int64_K d) y11).eval fun y13 =>
  some y13))))
theorem cmp_Compare_int64_cok (d : Nat) : COK prog (cmp_Compare_int64_sp (F_cmp_Compare_int64 d)) := by
  have hm : prog.follows .mixedOrders = true := mixed
  have hT := tys
  have hC0 : OrcOK prog (orc (cmp_Compare_int64_tab (cmp_Compare_int64_K d))) := orc_ok (by
    intro S hS
    simp only [cmp_Compare_int64_tab, List.mem_cons, List.not_mem_nil, or_false] at hS
    subst hS; exact cmp_isNaN_int64_cok d)
  have hC : OrcOK prog (orc (cmp_Compare_int64_tab (cmp_Compare_int64_K d))) := hC0
  refine cok_of (c := bodyOf f76) (fn := f76) hT (by kernel_rfl) (by kernel_rfl) (by decide) fun x r h w0 φ0 Q hend => ?_
  replace h : F_cmp_Compare_int64 d x = some r := h
  unfold F_cmp_Compare_int64 at h
  show Run prog w0 φ0 20 (bodyOf f76) ⟨[(0, .int .i64 x.1.1), (1, .int .i64 x.2.1.1)], []⟩ Q
  refine run_seq ?_
  refine run_reg hm hT hC (cmp_Compare_int64_g0 (cmp_Compare_int64_K d) (x.1.1, x.2.1.1)) h ?_
  intro y0 h
  refine cn_then ?_
  refine run_seq ?_
  refine run_reg hm hT hC (cmp_Compare_int64_g1 (cmp_Compare_int64_K d) y0) h ?_
  intro y1 h
  refine cn_then ?_
  refine run_seq ?_
  refine run_reg hm hT hC (cmp_Compare_int64_g2 (cmp_Compare_int64_K d) y1) h ?_
  intro y2 h
  refine cn_then ?_
  refine run_seq ?_
  refine run_seq ?_
  refine run_reg hm hT hC (cmp_Compare_int64_g3 (cmp_Compare_int64_K d) y2) h ?_
  intro y3 h
  refine cn_then ?_
  refine run_cond (v := y3.2.2.2) (by kernel_rfl) h ?_ ?_
  ·
    intro h
    refine run_seq ?_
    refine run_seq ?_
    refine run_reg hm hT hC (cmp_Compare_int64_g4 (cmp_Compare_int64_K d) y3) h ?_
    intro y4 h
    refine cn_then ?_
    refine run_cond (v := y4) (by kernel_rfl) h ?_ ?_
    ·
      intro h
      refine run_seq ?_
      refine run_reg hm hT hC (cmp_Compare_int64_g5 (cmp_Compare_int64_K d) y4) h ?_
      intro y5 h
      refine cn_then ?_
      refine run_ret ?_
      refine cn_then_ret ?_
      refine cn_then_ret ?_
      cases h
      exact (hend _ (by kernel_rfl)).2
    ·
      intro h
      refine run_skip ?_
      refine cn_then ?_
      refine run_seq ?_
      refine run_reg hm hT hC (cmp_Compare_int64_g6 (cmp_Compare_int64_K d) y4) h ?_
      intro y6 h
      refine cn_then ?_
      refine run_ret ?_
      refine cn_then_ret ?_
      cases h
      exact (hend _ (by kernel_rfl)).2
  ·
    intro h
    refine run_skip ?_
    refine cn_then ?_
    refine run_seq ?_
    refine run_seq ?_
    refine run_reg hm hT hC (cmp_Compare_int64_g7 (cmp_Compare_int64_K d) y3) h ?_
    intro y7 h
    refine cn_then ?_
    refine run_cond (v := y7.2.2) (by kernel_rfl) h ?_ ?_
    ·
      intro h
      refine run_seq ?_
      refine run_reg hm hT hC (cmp_Compare_int64_g8 (cmp_Compare_int64_K d) y7) h ?_
      intro y8 h
      refine cn_then ?_
      refine run_ret ?_
      refine cn_then_ret ?_
      cases h
      exact (hend _ (by kernel_rfl)).2
    ·
      intro h
      refine run_skip ?_
      refine cn_then ?_
      refine run_seq ?_
      refine run_seq ?_
      refine run_reg hm hT hC (cmp_Compare_int64_g9 (cmp_Compare_int64_K d) y7) h ?_
      intro y9 h
      refine cn_then ?_
      refine run_cond (v := y9.2.2) (by kernel_rfl) h ?_ ?_
      ·
        intro h
        refine run_seq ?_
        refine run_reg hm hT hC (cmp_Compare_int64_g10 (cmp_Compare_int64_K d) y9) h ?_
        intro y10 h
        refine cn_then ?_
        refine run_ret ?_
        refine cn_then_ret ?_
        cases h
        exact (hend _ (by kernel_rfl)).2
      ·
        intro h
        refine run_skip ?_
        refine cn_then ?_
        refine run_seq ?_
        refine run_seq ?_
        refine run_reg hm hT hC (cmp_Compare_int64_g11 (cmp_Compare_int64_K d) y9) h ?_
        intro y11 h
        refine cn_then ?_
        refine run_cond (v := y11) (by kernel_rfl) h ?_ ?_
        ·
          intro h
          refine run_seq ?_
          refine run_reg hm hT hC (cmp_Compare_int64_g12 (cmp_Compare_int64_K d) y11) h ?_
          intro y12 h
          refine cn_then ?_
          refine run_ret ?_
          refine cn_then_ret ?_
          cases h
          exact (hend _ (by kernel_rfl)).2
        ·
          intro h
          refine run_skip ?_
          refine cn_then ?_
          refine run_seq ?_
          refine run_reg hm hT hC (cmp_Compare_int64_g13 (cmp_Compare_int64_K d) y11) h ?_
          intro y13 h
          refine cn_then ?_
          refine run_ret ?_
          cases h
          exact (hend _ (by kernel_rfl)).2
abbrev math_bits_Mul64_ps : List Pk := [.row Ru false, .row Ru false]
abbrev math_bits_Mul64_X : Type := Du × Du × Unit
abbrev math_bits_Mul64_R : Type := Int × Int
def math_bits_Mul64_enc (r : math_bits_Mul64_R) : LV × List Ob := (.tup [.int .u64 r.1, .int .u64 r.2], [])
def math_bits_Mul64_sp (F : math_bits_Mul64_X → Option math_bits_Mul64_R) : Go.Tx.Spec := ⟨72, math_bits_Mul64_ps, math_bits_Mul64_R, F, math_bits_Mul64_enc⟩
abbrev math_bits_Mul64_C : Type := Unit
def math_bits_Mul64_K (_d : Nat) : math_bits_Mul64_C := ()
def math_bits_Mul64_tab (C : math_bits_Mul64_C) : List Go.Tx.Spec := []
abbrev math_bits_Mul64_Y0i : Type := Int × Int
def math_bits_Mul64_S0i (v : math_bits_Mul64_Y0i) : St := ⟨[(0, .int .u64 v.1), (1, .int .u64 v.2)], []⟩
def math_bits_Mul64_r0 (C : math_bits_Mul64_C) (v : math_bits_Mul64_Y0i) : Dt math_bits_Mul64_Y0i := (Dt.ret (v.1, v.2))
theorem math_bits_Mul64_g0 (C : math_bits_Mul64_C) (v : math_bits_Mul64_Y0i) : treg tysT (orc (math_bits_Mul64_tab C)) 51 (regO (bodyOf f72) 0) false [(0, .any), (1, .any)] (math_bits_Mul64_S0i v) some = (math_bits_Mul64_r0 C v).eval fun y => some (math_bits_Mul64_S0i y) := by kernel_rfl
abbrev math_bits_Mul64_Y1 : Type := Int × Int × Int
def math_bits_Mul64_S1 (v : math_bits_Mul64_Y1) : St := ⟨[(0, .int .u64 v.1), (1, .int .u64 v.2.1), (6, .int .u64 v.2.2)], []⟩
def math_bits_Mul64_r1 (C : math_bits_Mul64_C) (v : math_bits_Mul64_Y0i) : Dt math_bits_Mul64_Y1 := (Dt.ret (v.1, v.2, (andI .u64 v.1 (4294967295:Int))))
theorem math_bits_Mul64_g1 (C : math_bits_Mul64_C) (v : math_bits_Mul64_Y0i) : treg tysT (orc (math_bits_Mul64_tab C)) 51 (regO (bodyOf f72) 1) false [(0, .any), (1, .any), (6, .any)] (math_bits_Mul64_S0i v) some = (math_bits_Mul64_r1 C v).eval fun y => some (math_bits_Mul64_S1 y) := by kernel_rfl
abbrev math_bits_Mul64_Y2 : Type := Int × Int × Int × Int
def math_bits_Mul64_S2 (v : math_bits_Mul64_Y2) : St := ⟨[(0, .int .u64 v.1), (1, .int .u64 v.2.1), (6, .int .u64 v.2.2.1), (7, .int .u64 v.2.2.2)], []⟩
def math_bits_Mul64_r2 (C : math_bits_Mul64_C) (v : math_bits_Mul64_Y1) : Dt math_bits_Mul64_Y2 := (Dt.ret (v.1, v.2.1, v.2.2, (shrI .u64 v.1 (32:Int))))
theorem math_bits_Mul64_g2 (C : math_bits_Mul64_C) (v : math_bits_Mul64_Y1) : treg tysT (orc (math_bits_Mul64_tab C)) 51 (regO (bodyOf f72) 2) false [(0, .any), (1, .any), (6, .any), (7, .any)] (math_bits_Mul64_S1 v) some = (math_bits_Mul64_r2 C v).eval fun y => some (math_bits_Mul64_S2 y) := by kernel_rfl
abbrev math_bits_Mul64_Y3 : Type := Int × Int × Int × Int × Int
def math_bits_Mul64_S3 (v : math_bits_Mul64_Y3) : St := ⟨[(0, .int .u64 v.1), (1, .int .u64 v.2.1), (6, .int .u64 v.2.2.1), (7, .int .u64 v.2.2.2.1), (8, .int .u64 v.2.2.2.2)], []⟩
def math_bits_Mul64_r3 (C : math_bits_Mul64_C) (v : math_bits_Mul64_Y2) : Dt math_bits_Mul64_Y3 := (Dt.ret (v.1, v.2.1, v.2.2.1, v.2.2.2, (andI .u64 v.2.1 (4294967295:Int))))
theorem math_bits_Mul64_g3 (C : math_bits_Mul64_C) (v : math_bits_Mul64_Y2) : treg tysT (orc (math_bits_Mul64_tab C)) 51 (regO (bodyOf f72) 3) false [(0, .any), (1, .any), (6, .any), (7, .any), (8, .any)] (math_bits_Mul64_S2 v) some = (math_bits_Mul64_r3 C v).eval fun y => some (math_bits_Mul64_S3 y) := by kernel_rfl
abbrev math_bits_Mul64_Y4 : Type := Int × Int × Int × Int × Int × Int
def math_bits_Mul64_S4 (v : math_bits_Mul64_Y4) : St := ⟨[(0, .int .u64 v.1), (1, .int .u64 v.2.1), (6, .int .u64 v.2.2.1), (7, .int .u64 v.2.2.2.1), (8, .int .u64 v.2.2.2.2.1), (9, .int .u64 v.2.2.2.2.2)], []⟩
def math_bits_Mul64_r4 (C : math_bits_Mul64_C) (v : math_bits_Mul64_Y3) : Dt math_bits_Mul64_Y4 := (Dt.ret (v.1, v.2.1, v.2.2.1, v.2.2.2.1, v.2.2.2.2, (shrI .u64 v.2.1 (32:Int))))
theorem math_bits_Mul64_g4 (C : math_bits_Mul64_C) (v : math_bits_Mul64_Y3) : treg tysT (orc (math_bits_Mul64_tab C)) 51 (regO (bodyOf f72) 4) false [(0, .any), (1, .any), (6, .any), (7, .any), (8, .any), (9, .any)] (math_bits_Mul64_S3 v) some = (math_bits_Mul64_r4 C v).eval fun y => some (math_bits_Mul64_S4 y) := by kernel_rfl
abbrev math_bits_Mul64_Y5 : Type := Int × Int × Int × Int × Int × Int × Int
def math_bits_Mul64_S5 (v : math_bits_Mul64_Y5) : St := ⟨[(0, .int .u64 v.1), (1, .int .u64 v.2.1), (6, .int .u64 v.2.2.1), (7, .int .u64 v.2.2.2.1), (8, .int .u64 v.2.2.2.2.1), (9, .int .u64 v.2.2.2.2.2.1), (10, .int .u64 v.2.2.2.2.2.2)], []⟩
def math_bits_Mul64_r5 (C : math_bits_Mul64_C) (v : math_bits_Mul64_Y4) : Dt math_bits_Mul64_Y5 := (Dt.ret (v.1, v.2.1, v.2.2.1, v.2.2.2.1, v.2.2.2.2.1, v.2.2.2.2.2, (IntKind.wrap .u64 (v.2.2.1 * v.2.2.2.2.1))))
theorem math_bits_Mul64_g5 (C : math_bits_Mul64_C) (v : math_bits_Mul64_Y4) : treg tysT (orc (math_bits_Mul64_tab C)) 51 (regO (bodyOf f72) 5) false [(0, .any), (1, .any), (6, .any), (7, .any), (8, .any), (9, .any), (10, .any)] (math_bits_Mul64_S4 v) some = (math_bits_Mul64_r5 C v).eval fun y => some (math_bits_Mul64_S5 y) := by kernel_rfl
abbrev math_bits_Mul64_Y6 : Type := Int × Int × Int × Int × Int × Int
def math_bits_Mul64_S6 (v : math_bits_Mul64_Y6) : St := ⟨[(0, .int .u64 v.1), (1, .int .u64 v.2.1), (6, .int .u64 v.2.2.1), (7, .int .u64 v.2.2.2.1), (9, .int .u64 v.2.2.2.2.1), (11, .int .u64 v.2.2.2.2.2)], []⟩
def math_bits_Mul64_r6 (C : math_bits_Mul64_C) (v : math_bits_Mul64_Y5) : Dt math_bits_Mul64_Y6 := (Dt.ret (v.1, v.2.1, v.2.2.1, v.2.2.2.1, v.2.2.2.2.2.1, (IntKind.wrap .u64 ((IntKind.wrap .u64 (v.2.2.2.1 * v.2.2.2.2.1)) + (shrI .u64 v.2.2.2.2.2.2 (32:Int))))))
theorem math_bits_Mul64_g6 (C : math_bits_Mul64_C) (v : math_bits_Mul64_Y5) : treg tysT (orc (math_bits_Mul64_tab C)) 51 (regO (bodyOf f72) 6) false [(0, .any), (1, .any), (6, .any), (7, .any), (9, .any), (11, .any)] (math_bits_Mul64_S5 v) some = (math_bits_Mul64_r6 C v).eval fun y => some (math_bits_Mul64_S6 y) := by kernel_rfl
abbrev math_bits_Mul64_Y7 : Type := Int × Int × Int × Int × Int × Int × Int
def math_bits_Mul64_S7 (v : math_bits_Mul64_Y7) : St := ⟨[(0, .int .u64 v.1), (1, .int .u64 v.2.1), (6, .int .u64 v.2.2.1), (7, .int .u64 v.2.2.2.1), (9, .int .u64 v.2.2.2.2.1), (11, .int .u64 v.2.2.2.2.2.1), (12, .int .u64 v.2.2.2.2.2.2)], []⟩
def math_bits_Mul64_r7 (C : math_bits_Mul64_C) (v : math_bits_Mul64_Y6) : Dt math_bits_Mul64_Y7 := (Dt.ret (v.1, v.2.1, v.2.2.1, v.2.2.2.1, v.2.2.2.2.1, v.2.2.2.2.2, (andI .u64 v.2.2.2.2.2 (4294967295:Int))))
theorem math_bits_Mul64_g7 (C : math_bits_Mul64_C) (v : math_bits_Mul64_Y6) : treg tysT (orc (math_bits_Mul64_tab C)) 51 (regO (bodyOf f72) 7) false [(0, .any), (1, .any), (6, .any), (7, .any), (9, .any), (11, .any), (12, .any)] (math_bits_Mul64_S6 v) some = (math_bits_Mul64_r7 C v).eval fun y => some (math_bits_Mul64_S7 y) := by kernel_rfl
abbrev math_bits_Mul64_Y8 : Type := Int × Int × Int × Int × Int × Int × Int
def math_bits_Mul64_S8 (v : math_bits_Mul64_Y8) : St := ⟨[(0, .int .u64 v.1), (1, .int .u64 v.2.1), (6, .int .u64 v.2.2.1), (7, .int .u64 v.2.2.2.1), (9, .int .u64 v.2.2.2.2.1), (12, .int .u64 v.2.2.2.2.2.1), (13, .int .u64 v.2.2.2.2.2.2)], []⟩
def math_bits_Mul64_r8 (C : math_bits_Mul64_C) (v : math_bits_Mul64_Y7) : Dt math_bits_Mul64_Y8 := (Dt.ret (v.1, v.2.1, v.2.2.1, v.2.2.2.1, v.2.2.2.2.1, v.2.2.2.2.2.2, (shrI .u64 v.2.2.2.2.2.1 (32:Int))))
theorem math_bits_Mul64_g8 (C : math_bits_Mul64_C) (v : math_bits_Mul64_Y7) : treg tysT (orc (math_bits_Mul64_tab C)) 51 (regO (bodyOf f72) 8) false [(0, .any), (1, .any), (6, .any), (7, .any), (9, .any), (12, .any), (13, .any)] (math_bits_Mul64_S7 v) some = (math_bits_Mul64_r8 C v).eval fun y => some (math_bits_Mul64_S8 y) := by kernel_rfl
abbrev math_bits_Mul64_Y9 : Type := Int × Int × Int × Int × Int × Int
def math_bits_Mul64_S9 (v : math_bits_Mul64_Y9) : St := ⟨[(0, .int .u64 v.1), (1, .int .u64 v.2.1), (7, .int .u64 v.2.2.1), (9, .int .u64 v.2.2.2.1), (12, .int .u64 v.2.2.2.2.1), (13, .int .u64 v.2.2.2.2.2)], []⟩
def math_bits_Mul64_r9 (C : math_bits_Mul64_C) (v : math_bits_Mul64_Y8) : Dt math_bits_Mul64_Y9 := (Dt.ret (v.1, v.2.1, v.2.2.2.1, v.2.2.2.2.1, (IntKind.wrap .u64 (v.2.2.2.2.2.1 + (IntKind.wrap .u64 (v.2.2.1 * v.2.2.2.2.1)))), v.2.2.2.2.2.2))
theorem math_bits_Mul64_g9 (C : math_bits_Mul64_C) (v : math_bits_Mul64_Y8) : treg tysT (orc (math_bits_Mul64_tab C)) 51 (regO (bodyOf f72) 9) false [(0, .any), (1, .any), (7, .any), (9, .any), (12, .any), (13, .any)] (math_bits_Mul64_S8 v) some = (math_bits_Mul64_r9 C v).eval fun y => some (math_bits_Mul64_S9 y) := by kernel_rfl
abbrev math_bits_Mul64_Y10 : Type := Int × Int × Int
def math_bits_Mul64_S10 (v : math_bits_Mul64_Y10) : St := ⟨[(0, .int .u64 v.1), (1, .int .u64 v.2.1), (4, .int .u64 v.2.2)], []⟩
def math_bits_Mul64_r10 (C : math_bits_Mul64_C) (v : math_bits_Mul64_Y9) : Dt math_bits_Mul64_Y10 := (Dt.ret (v.1, v.2.1, (IntKind.wrap .u64 ((IntKind.wrap .u64 ((IntKind.wrap .u64 (v.2.2.1 * v.2.2.2.1)) + v.2.2.2.2.2)) + (shrI .u64 v.2.2.2.2.1 (32:Int))))))
theorem math_bits_Mul64_g10 (C : math_bits_Mul64_C) (v : math_bits_Mul64_Y9) : treg tysT (orc (math_bits_Mul64_tab C)) 51 (regO (bodyOf f72) 10) false [(0, .any), (1, .any), (4, .any)] (math_bits_Mul64_S9 v) some = (math_bits_Mul64_r10 C v).eval fun y => some (math_bits_Mul64_S10 y) := by kernel_rfl
abbrev math_bits_Mul64_Y11 : Type := Int × Int
def math_bits_Mul64_S11 (v : math_bits_Mul64_Y11) : St := ⟨[(4, .int .u64 v.1), (5, .int .u64 v.2)], []⟩
def math_bits_Mul64_r11 (C : math_bits_Mul64_C) (v : math_bits_Mul64_Y10) : Dt math_bits_Mul64_Y11 := (Dt.ret (v.2.2, (IntKind.wrap .u64 (v.1 * v.2.1))))
theorem math_bits_Mul64_g11 (C : math_bits_Mul64_C) (v : math_bits_Mul64_Y10) : treg tysT (orc (math_bits_Mul64_tab C)) 51 (regO (bodyOf f72) 11) false [(4, .any), (5, .any)] (math_bits_Mul64_S10 v) some = (math_bits_Mul64_r11 C v).eval fun y => some (math_bits_Mul64_S11 y) := by kernel_rfl
def F_math_bits_Mul64 (d : Nat) (x : math_bits_Mul64_X) : Option math_bits_Mul64_R :=
  (math_bits_Mul64_r0 (math_bits_Mul64_K d) (x.1.1, x.2.1.1)).eval fun y0 =>
  (math_bits_Mul64_r1 (math_bits_Mul64_K d) y0).eval fun y1 =>
  (math_bits_Mul64_r2 (math_bits_Mul64_K d) y1).eval fun y2 =>
  (math_bits_Mul64_r3 (math_bits_Mul64_K d) y2).eval fun y3 =>
  (math_bits_Mul64_r4 (math_bits_Mul64_K d) y3).eval fun y4 =>
  (math_bits_Mul64_r5 (math_bits_Mul64_K d) y4).eval fun y5 =>
  (math_bits_Mul64_r6 (math_bits_Mul64_K d) y5).eval fun y6 =>
  (math_bits_Mul64_r7 (math_bits_Mul64_K d) y6).eval fun y7 =>
  (math_bits_Mul64_r8 (math_bits_Mul64_K d) y7).eval fun y8 =>
  (math_bits_Mul64_r9 (math_bits_Mul64_K d) y8).eval fun y9 =>
  (math_bits_Mul64_r10 (math_bits_Mul64_K d) y9).eval fun y10 =>
  (math_bits_Mul64_r11 (math_bits_Mul64_K d) y10).eval fun y11 =>
  some y11
theorem math_bits_Mul64_cok (d : Nat) : COK prog (math_bits_Mul64_sp (F_math_bits_Mul64 d)) := by
  have hm : prog.follows .mixedOrders = true := mixed
  have hT := tys
  have hC0 : OrcOK prog (orc (math_bits_Mul64_tab (math_bits_Mul64_K d))) := orc_ok (by
    intro S hS
    simp only [math_bits_Mul64_tab, List.mem_cons, List.not_mem_nil, or_false] at hS
    all_goals first | cases hS | exact hS.elim)
  have hC : OrcOK prog (orc (math_bits_Mul64_tab (math_bits_Mul64_K d))) := hC0
  refine cok_of (c := bodyOf f72) (fn := f72) hT (by kernel_rfl) (by kernel_rfl) (by decide) fun x r h w0 φ0 Q hend => ?_
  replace h : F_math_bits_Mul64 d x = some r := h
  unfold F_math_bits_Mul64 at h
  show Run prog w0 φ0 51 (bodyOf f72) ⟨[(0, .int .u64 x.1.1), (1, .int .u64 x.2.1.1)], []⟩ Q
  refine run_seq ?_
  refine run_reg hm hT hC (math_bits_Mul64_g0 (math_bits_Mul64_K d) (x.1.1, x.2.1.1)) h ?_
  intro y0 h
  refine cn_then ?_
  refine run_seq ?_
  refine run_reg hm hT hC (math_bits_Mul64_g1 (math_bits_Mul64_K d) y0) h ?_
  intro y1 h
  refine cn_then ?_
  refine run_seq ?_
  refine run_reg hm hT hC (math_bits_Mul64_g2 (math_bits_Mul64_K d) y1) h ?_
  intro y2 h
  refine cn_then ?_
  refine run_seq ?_
  refine run_reg hm hT hC (math_bits_Mul64_g3 (math_bits_Mul64_K d) y2) h ?_
  intro y3 h
  refine cn_then ?_
  refine run_seq ?_
  refine run_reg hm hT hC (math_bits_Mul64_g4 (math_bits_Mul64_K d) y3) h ?_
  intro y4 h
  refine cn_then ?_
  refine run_seq ?_
  refine run_reg hm hT hC (math_bits_Mul64_g5 (math_bits_Mul64_K d) y4) h ?_
  intro y5 h
  refine cn_then ?_
  refine run_seq ?_
  refine run_reg hm hT hC (math_bits_Mul64_g6 (math_bits_Mul64_K d) y5) h ?_
  intro y6 h
  refine cn_then ?_
  refine run_seq ?_
  refine run_reg hm hT hC (math_bits_Mul64_g7 (math_bits_Mul64_K d) y6) h ?_
  intro y7 h
  refine cn_then ?_
  refine run_seq ?_
  refine run_reg hm hT hC (math_bits_Mul64_g8 (math_bits_Mul64_K d) y7) h ?_
  intro y8 h
  refine cn_then ?_
  refine run_seq ?_
  refine run_reg hm hT hC (math_bits_Mul64_g9 (math_bits_Mul64_K d) y8) h ?_
  intro y9 h
  refine cn_then ?_
  refine run_seq ?_
  refine run_reg hm hT hC (math_bits_Mul64_g10 (math_bits_Mul64_K d) y9) h ?_
  intro y10 h
  refine cn_then ?_
  refine run_seq ?_
  refine run_reg hm hT hC (math_bits_Mul64_g11 (math_bits_Mul64_K d) y10) h ?_
  intro y11 h
  refine cn_then ?_
  refine run_ret ?_
  cases h
  exact (hend _ (by kernel_rfl)).2
abbrev ratio_times_ps : List Pk := [.row Ri false, .row Ri false]
abbrev ratio_times_X : Type := Di × Di × Unit
abbrev ratio_times_R : Type := Bool × Int × Int
def ratio_times_enc (r : ratio_times_R) : LV × List Ob := (.agg [.bool r.1, .int .u64 r.2.1, .int .u64 r.2.2], [])
def ratio_times_sp (F : ratio_times_X → Option ratio_times_R) : Go.Tx.Spec := ⟨89, ratio_times_ps, ratio_times_R, F, ratio_times_enc⟩
abbrev ratio_times_C : Type := (ratio_abs_X → Option ratio_abs_R) × (math_bits_Mul64_X → Option math_bits_Mul64_R) × Unit
def ratio_times_K (d : Nat) : ratio_times_C := (F_ratio_abs d, F_math_bits_Mul64 d, ())
def ratio_times_tab (C : ratio_times_C) : List Go.Tx.Spec := [ratio_abs_sp C.1, math_bits_Mul64_sp C.2.1]
abbrev ratio_times_Y0i : Type := Int × Int
def ratio_times_S0i (v : ratio_times_Y0i) : St := ⟨[(0, .int .i64 v.1), (1, .int .i64 v.2)], []⟩
abbrev ratio_times_Y0 : Type := Int × Int × Bool × Int × Int
def ratio_times_S0 (v : ratio_times_Y0) : St := ⟨[(0, .int .i64 v.1), (1, .int .i64 v.2.1), (4, .ptr 0 0)], [.cells [.bool v.2.2.1, .int .u64 v.2.2.2.1, .int .u64 v.2.2.2.2]]⟩
def ratio_times_r0 (C : ratio_times_C) (v : ratio_times_Y0i) : Dt ratio_times_Y0 := (Dt.ret (v.1, v.2, false, (0:Int), (0:Int)))
theorem ratio_times_g0 (C : ratio_times_C) (v : ratio_times_Y0i) : treg tysT (orc (ratio_times_tab C)) 23 (regO (bodyOf f89) 0) false [(0, .any), (1, .any), (4, .any)] (ratio_times_S0i v) some = (ratio_times_r0 C v).eval fun y => some (ratio_times_S0 y) := by kernel_rfl
abbrev ratio_times_Y1 : Type := Int × Int × Int × Int × Bool × Int × Int
def ratio_times_S1 (v : ratio_times_Y1) : St := ⟨[(0, .int .i64 v.1), (1, .int .i64 v.2.1), (4, .ptr 0 0), (5, .int .u64 v.2.2.1), (6, .int .u64 v.2.2.2.1)], [.cells [.bool v.2.2.2.2.1, .int .u64 v.2.2.2.2.2.1, .int .u64 v.2.2.2.2.2.2]]⟩
def ratio_times_r1 (C : ratio_times_C) (v : ratio_times_Y0) : Dt ratio_times_Y1 := (Dt.bnd (C.1 ((v.1, ()), ())) fun r1 => (Dt.bnd (C.1 ((v.2.1, ()), ())) fun r2 => (Dt.bnd (C.2.1 ((r1, ()), (r2, ()), ())) fun r3 => (Dt.ret (v.1, v.2.1, r3.1, r3.2, v.2.2.1, v.2.2.2.1, v.2.2.2.2)))))
theorem ratio_times_g1 (C : ratio_times_C) (v : ratio_times_Y0) : treg tysT (orc (ratio_times_tab C)) 23 (regO (bodyOf f89) 1) false [(0, .any), (1, .any), (4, .any), (5, .any), (6, .any)] (ratio_times_S0 v) some = (ratio_times_r1 C v).eval fun y => some (ratio_times_S1 y) := by kernel_rfl
abbrev ratio_times_Y2 : Type := Bool × Int × Int
def ratio_times_S2 (v : ratio_times_Y2) : St := ⟨[(4, .ptr 0 0)], [.cells [.bool v.1, .int .u64 v.2.1, .int .u64 v.2.2]]⟩
def ratio_times_r2 (C : ratio_times_C) (v : ratio_times_Y1) : Dt ratio_times_Y2 := (Dt.ret ((!((decide (v.1 < (0:Int))) == (decide (v.2.1 < (0:Int))))), v.2.2.1, v.2.2.2.1))
theorem ratio_times_g2 (C : ratio_times_C) (v : ratio_times_Y1) : treg tysT (orc (ratio_times_tab C)) 23 (regO (bodyOf f89) 2) false [(4, .any)] (ratio_times_S1 v) some = (ratio_times_r2 C v).eval fun y => some (ratio_times_S2 y) := by kernel_rfl
def F_ratio_times (d : Nat) (x : ratio_times_X) : Option ratio_times_R :=
  (ratio_times_r0 (ratio_times_K d) (x.1.1, x.2.1.1)).eval fun y0 =>
  (ratio_times_r1 (ratio_times_K d) y0).eval fun y1 =>
  (ratio_times_r2 (ratio_times_K d) y1).eval fun y2 =>
  some y2
theorem ratio_times_cok (d : Nat) : COK prog (ratio_times_sp (F_ratio_times d)) := by
  have hm : prog.follows .mixedOrders = true := mixed
  have hT := tys
  have hC0 : OrcOK prog (orc (ratio_times_tab (ratio_times_K d))) := orc_ok (by
    intro S hS
    simp only [ratio_times_tab, List.mem_cons, List.not_mem_nil, or_false] at hS
    rcases hS with rfl | rfl
    · exact ratio_abs_cok d
    · exact math_bits_Mul64_cok d)
  have hC : OrcOK prog (orc (ratio_times_tab (ratio_times_K d))) := hC0
  refine cok_of (c := bodyOf f89) (fn := f89) hT (by kernel_rfl) (by kernel_rfl) (by decide) fun x r h w0 φ0 Q hend => ?_
  replace h : F_ratio_times d x = some r := h
  unfold F_ratio_times at h
  show Run prog w0 φ0 23 (bodyOf f89) ⟨[(0, .int .i64 x.1.1), (1, .int .i64 x.2.1.1)], []⟩ Q
  refine run_seq ?_
  refine run_reg hm hT hC (ratio_times_g0 (ratio_times_K d) (x.1.1, x.2.1.1)) h ?_
  intro y0 h
  refine cn_then ?_
  refine run_seq ?_
  refine run_reg hm hT hC (ratio_times_g1 (ratio_times_K d) y0) h ?_
  intro y1 h
  refine cn_then ?_
  refine run_seq ?_
  refine run_reg hm hT hC (ratio_times_g2 (ratio_times_K d) y1) h ?_
  intro y2 h
  refine cn_then ?_
  refine run_ret ?_
  cases h
  exact (hend _ (by kernel_rfl)).2
abbrev cmp_isNaN_uint64_ps : List Pk := [.row Ru false]
abbrev cmp_isNaN_uint64_X : Type := Du × Unit
abbrev cmp_isNaN_uint64_R : Type := Bool
def cmp_isNaN_uint64_enc (r : cmp_isNaN_uint64_R) : LV × List Ob := (.bool r, [])
def cmp_isNaN_uint64_sp (F : cmp_isNaN_uint64_X → Option cmp_isNaN_uint64_R) : Go.Tx.Spec := ⟨108, cmp_isNaN_uint64_ps, cmp_isNaN_uint64_R, F, cmp_isNaN_uint64_enc⟩
abbrev cmp_isNaN_uint64_C : Type := Unit
def cmp_isNaN_uint64_K (_d : Nat) : cmp_isNaN_uint64_C := ()
def cmp_isNaN_uint64_tab (C : cmp_isNaN_uint64_C) : List Go.Tx.Spec := []
abbrev cmp_isNaN_uint64_Y0i : Type := Int
def cmp_isNaN_uint64_S0i (v : cmp_isNaN_uint64_Y0i) : St := ⟨[(0, .int .u64 v)], []⟩
def cmp_isNaN_uint64_r0 (C : cmp_isNaN_uint64_C) (v : cmp_isNaN_uint64_Y0i) : Dt cmp_isNaN_uint64_Y0i := (Dt.ret v)
theorem cmp_isNaN_uint64_g0 (C : cmp_isNaN_uint64_C) (v : cmp_isNaN_uint64_Y0i) : treg tysT (orc (cmp_isNaN_uint64_tab C)) 6 (regO (bodyOf f108) 0) false [(0, .any)] (cmp_isNaN_uint64_S0i v) some = (cmp_isNaN_uint64_r0 C v).eval fun y => some (cmp_isNaN_uint64_S0i y) := by kernel_rfl
abbrev cmp_isNaN_uint64_Y1 : Type := Bool
def cmp_isNaN_uint64_S1 (v : cmp_isNaN_uint64_Y1) : St := ⟨[(2, .bool v)], []⟩
def cmp_isNaN_uint64_r1 (C : cmp_isNaN_uint64_C) (v : cmp_isNaN_uint64_Y0i) : Dt cmp_isNaN_uint64_Y1 := (Dt.ret (v != v))
theorem cmp_isNaN_uint64_g1 (C : cmp_isNaN_uint64_C) (v : cmp_isNaN_uint64_Y0i) : treg tysT (orc (cmp_isNaN_uint64_tab C)) 6 (regO (bodyOf f108) 1) false [(2, .any)] (cmp_isNaN_uint64_S0i v) some = (cmp_isNaN_uint64_r1 C v).eval fun y => some (cmp_isNaN_uint64_S1 y) := by kernel_rfl
def F_cmp_isNaN_uint64 (d : Nat) (x : cmp_isNaN_uint64_X) : Option cmp_isNaN_uint64_R :=
  (cmp_isNaN_uint64_r0 (cmp_isNaN_uint64_K d) x.1.1).eval fun y0 =>
  (cmp_isNaN_uint64_r1 (cmp_isNaN_uint64_K d) y0).eval fun y1 =>
  some y1
theorem cmp_isNaN_uint64_cok (d : Nat) : COK prog (cmp_isNaN_uint64_sp (F_cmp_isNaN_uint64 d)) := by
  have hm : prog.follows .mixedOrders = true := mixed
  have hT := tys
  have hC0 : OrcOK prog (orc (cmp_isNaN_uint64_tab (cmp_isNaN_uint64_K d))) := orc_ok (by
    intro S hS
    simp only [cmp_isNaN_uint64_tab, List.mem_cons, List.not_mem_nil, or_false] at hS
    all_goals first | cases hS | exact hS.elim)
  have hC : OrcOK prog (orc (cmp_isNaN_uint64_tab (cmp_isNaN_uint64_K d))) := hC0
  refine cok_of (c := bodyOf f108) (fn := f108) hT (by kernel_rfl) (by kernel_rfl) (by decide) fun x r h w0 φ0 Q hend => ?_
  replace h : F_cmp_isNaN_uint64 d x = some r := h
  unfold F_cmp_isNaN_uint64 at h
  show Run prog w0 φ0 6 (bodyOf f108) ⟨[(0, .int .u64 x.1.1)], []⟩ Q
  refine run_seq ?_
  refine run_reg hm hT hC (cmp_isNaN_uint64_g0 (cmp_isNaN_uint64_K d) x.1.1) h ?_
  intro y0 h
  refine cn_then ?_
  refine run_seq ?_
  refine run_reg hm hT hC (cmp_isNaN_uint64_g1 (cmp_isNaN_uint64_K d) y0) h ?_
  intro y1 h
  refine cn_then ?_
  refine run_ret ?_
  cases h
  exact (hend _ (by kernel_rfl)).2
abbrev cmp_Compare_uint64_ps : List Pk := [.row Ru false, .row Ru false]
abbrev cmp_Compare_uint64_X : Type := Du × Du × Unit
abbrev cmp_Compare_uint64_R : Type := Int
def cmp_Compare_uint64_enc (r : cmp_Compare_uint64_R) : LV × List Ob := (.int .i64 r, [])
def cmp_Compare_uint64_sp (F : cmp_Compare_uint64_X → Option cmp_Compare_uint64_R) : Go.Tx.Spec := ⟨102, cmp_Compare_uint64_ps, cmp_Compare_uint64_R, F, cmp_Compare_uint64_enc⟩
abbrev cmp_Compare_uint64_C : Type := (cmp_isNaN_uint64_X → Option cmp_isNaN_uint64_R) × Unit
def cmp_Compare_uint64_K (d : Nat) : cmp_Compare_uint64_C := (F_cmp_isNaN_uint64 d, ())
def cmp_Compare_uint64_tab (C : cmp_Compare_uint64_C) : List Go.Tx.Spec := [cmp_isNaN_uint64_sp C.1]
abbrev cmp_Compare_uint64_Y0i : Type := Int × Int
def cmp_Compare_uint64_S0i (v : cmp_Compare_uint64_Y0i) : St := ⟨[(0, .int .u64 v.1), (1, .int .u64 v.2)], []⟩
def cmp_Compare_uint64_r0 (C : cmp_Compare_uint64_C) (v : cmp_Compare_uint64_Y0i) : Dt cmp_Compare_uint64_Y0i := (Dt.ret (v.1, v.2))
theorem cmp_Compare_uint64_g0 (C : cmp_Compare_uint64_C) (v : cmp_Compare_uint64_Y0i) : treg tysT (orc (cmp_Compare_uint64_tab C)) 20 (regO (bodyOf f102) 0) false [(0, .any), (1, .any)] (cmp_Compare_uint64_S0i v) some = (cmp_Compare_uint64_r0 C v).eval fun y => some (cmp_Compare_uint64_S0i y) := by kernel_rfl
abbrev cmp_Compare_uint64_Y1 : Type := Int × Int × Bool
def cmp_Compare_uint64_S1 (v : cmp_Compare_uint64_Y1) : St := ⟨[(0, .int .u64 v.1), (1, .int .u64 v.2.1), (5, .bool v.2.2)], []⟩
def cmp_Compare_uint64_r1 (C : cmp_Compare_uint64_C) (v : cmp_Compare_uint64_Y0i) : Dt cmp_Compare_uint64_Y1 := (Dt.bnd (C.1 ((v.1, ()), ())) fun r1 => (Dt.ret (v.1, v.2, r1)))
theorem cmp_Compare_uint64_g1 (C : cmp_Compare_uint64_C) (v : cmp_Compare_uint64_Y0i) : treg tysT (orc (cmp_Compare_uint64_tab C)) 20 (regO (bodyOf f102) 1) false [(0, .any), (1, .any), (5, .any)] (cmp_Compare_uint64_S0i v) some = (cmp_Compare_uint64_r1 C v).eval fun y => some (cmp_Compare_uint64_S1 y) := by kernel_rfl
abbrev cmp_Compare_uint64_Y2 : Type := Int × Int × Bool × Bool
def cmp_Compare_uint64_S2 (v : cmp_Compare_uint64_Y2) : St := ⟨[(0, .int .u64 v.1), (1, .int .u64 v.2.1), (5, .bool v.2.2.1), (6, .bool v.2.2.2)], []⟩
def cmp_Compare_uint64_r2 (C : cmp_Compare_uint64_C) (v : cmp_Compare_uint64_Y1) : Dt cmp_Compare_uint64_Y2 := (Dt.bnd (C.1 ((v.2.1, ()), ())) fun r1 => (Dt.ret (v.1, v.2.1, v.2.2, r1)))
theorem cmp_Compare_uint64_g2 (C : cmp_Compare_uint64_C) (v : cmp_Compare_uint64_Y1) : treg tysT (orc (cmp_Compare_uint64_tab C)) 20 (regO (bodyOf f102) 2) false [(0, .any), (1, .any), (5, .any), (6, .any)] (cmp_Compare_uint64_S1 v) some = (cmp_Compare_uint64_r2 C v).eval fun y => some (cmp_Compare_uint64_S2 y) := by kernel_rfl
abbrev cmp_Compare_uint64_Y3 : Type := Int × Int × Bool × Bool
def cmp_Compare_uint64_S3 (v : cmp_Compare_uint64_Y3) : St := ⟨[(0, .int .u64 v.1), (1, .int .u64 v.2.1), (6, .bool v.2.2.1), (11, .bool v.2.2.2)], []⟩
def cmp_Compare_uint64_r3 (C : cmp_Compare_uint64_C) (v : cmp_Compare_uint64_Y2) : Dt cmp_Compare_uint64_Y3 := (Dt.ret (v.1, v.2.1, v.2.2.2, v.2.2.1))
theorem cmp_Compare_uint64_g3 (C : cmp_Compare_uint64_C) (v : cmp_Compare_uint64_Y2) : treg tysT (orc (cmp_Compare_uint64_tab C)) 20 (regO (bodyOf f102) 3) false [(0, .any), (1, .any), (6, .any), (11, .any)] (cmp_Compare_uint64_S2 v) some = (cmp_Compare_uint64_r3 C v).eval fun y => some (cmp_Compare_uint64_S3 y) := by kernel_rfl
abbrev cmp_Compare_uint64_Y4 : Type := Bool
def cmp_Compare_uint64_S4 (v : cmp_Compare_uint64_Y4) : St := ⟨[(12, .bool v)], []⟩
def cmp_Compare_uint64_r4 (C : cmp_Compare_uint64_C) (v : cmp_Compare_uint64_Y3) : Dt cmp_Compare_uint64_Y4 := (Dt.ret v.2.2.1)
theorem cmp_Compare_uint64_g4 (C : cmp_Compare_uint64_C) (v : cmp_Compare_uint64_Y3) : treg tysT (orc (cmp_Compare_uint64_tab C)) 20 (regO (bodyOf f102) 4) false [(12, .any)] (cmp_Compare_uint64_S3 v) some = (cmp_Compare_uint64_r4 C v).eval fun y => some (cmp_Compare_uint64_S4 y) := by kernel_rfl
abbrev cmp_Compare_uint64_Y5 : Type := Int
def cmp_Compare_uint64_S5 (v : cmp_Compare_uint64_Y5) : St := ⟨[(4, .int .i64 v)], []⟩
def cmp_Compare_uint64_r5 (C : cmp_Compare_uint64_C) (v : cmp_Compare_uint64_Y4) : Dt cmp_Compare_uint64_Y5 := (Dt.ret (0:Int))
theorem cmp_Compare_uint64_g5 (C : cmp_Compare_uint64_C) (v : cmp_Compare_uint64_Y4) : treg tysT (orc (cmp_Compare_uint64_tab C)) 20 (regO (bodyOf f102) 5) false [(4, .any)] (cmp_Compare_uint64_S4 v) some = (cmp_Compare_uint64_r5 C v).eval fun y => some (cmp_Compare_uint64_S5 y) := by kernel_rfl
def cmp_Compare_uint64_r6 (C : cmp_Compare_uint64_C) (v : cmp_Compare_uint64_Y4) : Dt cmp_Compare_uint64_Y5 := (Dt.ret (-1:Int))
theorem cmp_Compare_uint64_g6 (C : cmp_Compare_uint64_C) (v : cmp_Compare_uint64_Y4) : treg tysT (orc (cmp_Compare_uint64_tab C)) 20 (regO (bodyOf f102) 6) false [(4, .any)] (cmp_Compare_uint64_S4 v) some = (cmp_Compare_uint64_r6 C v).eval fun y => some (cmp_Compare_uint64_S5 y) := by kernel_rfl
abbrev cmp_Compare_uint64_Y7 : Type := Int × Int × Bool
def cmp_Compare_uint64_S7 (v : cmp_Compare_uint64_Y7) : St := ⟨[(0, .int .u64 v.1), (1, .int .u64 v.2.1), (13, .bool v.2.2)], []⟩
def cmp_Compare_uint64_r7 (C : cmp_Compare_uint64_C) (v : cmp_Compare_uint64_Y3) : Dt cmp_Compare_uint64_Y7 := (Dt.ret (v.1, v.2.1, v.2.2.1))
theorem cmp_Compare_uint64_g7 (C : cmp_Compare_uint64_C) (v : cmp_Compare_uint64_Y3) : treg tysT (orc (cmp_Compare_uint64_tab C)) 20 (regO (bodyOf f102) 7) false [(0, .any), (1, .any), (13, .any)] (cmp_Compare_uint64_S3 v) some = (cmp_Compare_uint64_r7 C v).eval fun y => some (cmp_Compare_uint64_S7 y) := by kernel_rfl
def cmp_Compare_uint64_r8 (C : cmp_Compare_uint64_C) (v : cmp_Compare_uint64_Y7) : Dt cmp_Compare_uint64_Y5 := (Dt.ret (1:Int))
theorem cmp_Compare_uint64_g8 (C : cmp_Compare_uint64_C) (v : cmp_Compare_uint64_Y7) : treg tysT (orc (cmp_Compare_uint64_tab C)) 20 (regO (bodyOf f102) 8) false [(4, .any)] (cmp_Compare_uint64_S7 v) some = (cmp_Compare_uint64_r8 C v).eval fun y => some (cmp_Compare_uint64_S5 y) := by kernel_rfl
abbrev cmp_Compare_uint64_Y9 : Type := Int × Int × Bool
def cmp_Compare_uint64_S9 (v : cmp_Compare_uint64_Y9) : St := ⟨[(0, .int .u64 v.1), (1, .int .u64 v.2.1), (16, .bool v.2.2)], []⟩
def cmp_Compare_uint64_r9 (C : cmp_Compare_uint64_C) (v : cmp_Compare_uint64_Y7) : Dt cmp_Compare_uint64_Y9 := (Dt.ret (v.1, v.2.1, (decide (v.1 < v.2.1))))
theorem cmp_Compare_uint64_g9 (C : cmp_Compare_uint64_C) (v : cmp_Compare_uint64_Y7) : treg tysT (orc (cmp_Compare_uint64_tab C)) 20 (regO (bodyOf f102) 9) false [(0, .any), (1, .any), (16, .any)] (cmp_Compare_uint64_S7 v) some = (cmp_Compare_uint64_r9 C v).eval fun y => some (cmp_Compare_uint64_S9 y) := by kernel_rfl
def cmp_Compare_uint64_r10 (C : cmp_Compare_uint64_C) (v : cmp_Compare_uint64_Y9) : Dt cmp_Compare_uint64_Y5 := (Dt.ret (-1:Int))
theorem cmp_Compare_uint64_g10 (C : cmp_Compare_uint64_C) (v : cmp_Compare_uint64_Y9) : treg tysT (orc (cmp_Compare_uint64_tab C)) 20 (regO (bodyOf f102) 10) false [(4, .any)] (cmp_Compare_uint64_S9 v) some = (cmp_Compare_uint64_r10 C v).eval fun y => some (cmp_Compare_uint64_S5 y) := by kernel_rfl
abbrev cmp_Compare_uint64_Y11 : Type := Bool
def cmp_Compare_uint64_S11 (v : cmp_Compare_uint64_Y11) : St := ⟨[(19, .bool v)], []⟩
def cmp_Compare_uint64_r11 (C : cmp_Compare_uint64_C) (v : cmp_Compare_uint64_Y9) : Dt cmp_Compare_uint64_Y11 := (Dt.ret (decide (v.1 > v.2.1)))
theorem cmp_Compare_uint64_g11 (C : cmp_Compare_uint64_C) (v : cmp_Compare_uint64_Y9) : treg tysT (orc (cmp_Compare_uint64_tab C)) 20 (regO (bodyOf f102) 11) false [(19, .any)] (cmp_Compare_uint64_S9 v) some = (cmp_Compare_uint64_r11 C v).eval fun y => some (cmp_Compare_uint64_S11 y) := by kernel_rfl
def cmp_Compare_uint64_r12 (C : cmp_Compare_uint64_C) (v : cmp_Compare_uint64_Y11) : Dt cmp_Compare_uint64_Y5 := (Dt.ret (1:Int))
theorem cmp_Compare_uint64_g12 (C : cmp_Compare_uint64_C) (v : cmp_Compare_uint64_Y11) : treg tysT (orc (cmp_Compare_uint64_tab C)) 20 (regO (bodyOf f102) 12) false [(4, .any)] (cmp_Compare_uint64_S11 v) some = (cmp_Compare_uint64_r12 C v).eval fun y => some (cmp_Compare_uint64_S5 y) := by kernel_rfl
def cmp_Compare_uint64_r13 (C : cmp_Compare_uint64_C) (v : cmp_Compare_uint64_Y11) : Dt cmp_Compare_uint64_Y5 := (Dt.ret (0:Int))
theorem cmp_Compare_uint64_g13 (C : cmp_Compare_uint64_C) (v : cmp_Compare_uint64_Y11) : treg tysT (orc (cmp_Compare_uint64_tab C)) 20 (regO (bodyOf f102) 13) false [(4, .any)] (cmp_Compare_uint64_S11 v) some = (cmp_Compare_uint64_r13 C v).eval fun y => some (cmp_Compare_uint64_S5 y) := by kernel_rfl
def F_cmp_Compare_uint64 (d : Nat) (x : cmp_Compare_uint64_X) : Option cmp_Compare_uint64_R :=
  (cmp_Compare_uint64_r0 (cmp_Compare_uint64_K d) (x.1.1, x.2.1.1)).eval fun y0 =>
  (cmp_Compare_uint64_r1 (cmp_Compare_uint64_K d) y0).eval fun y1 =>
  (cmp_Compare_uint64_r2 (cmp_Compare_uint64_K d) y1).eval fun y2 =>
  (cmp_Compare_uint64_r3 (cmp_Compare_uint64_K d) y2).eval fun y3 =>
  bif y3.2.2.2 then ((cmp_Compare_uint64_r4 (cmp_Compare_uint64_K d) y3).eval fun y4 =>
  bif y4 then ((cmp_Compare_uint64_r5 (cmp_Compare_uint64_K d) y4).eval fun y5 =>
  some y5) else ((cmp_Compare_uint64_r6 (cmp_Compare_uint64_K d) y4).eval fun y6 =>
  some y6)) else ((cmp_Compare_uint64_r7 (cmp_Compare_uint64_K d) y3).eval fun y7 =>
  bif y7.2.2 then ((cmp_Compare_uint64_r8 (cmp_Compare_uint64_K d) y7).eval fun y8 =>
  some y8) else ((cmp_Compare_uint64_r9 (cmp_Compare_uint64_K d) y7).eval fun y9 =>
  bif y9.2.2 then ((cmp_Compare_uint64_r10 (cmp_Compare_uint64_K d) y9).eval fun y10 =>
  some y10) else ((cmp_Compare_uint64_r11 (cmp_Compare_uint64_K d) y9).eval fun y11 =>
  bif y11 then ((cmp_Compare_uint64_r12 (cmp_Compare_uint64_K d) y11).eval fun y12 =>
  some y12) else ((cmp_Compare_uint64_r13 (cmp_Compare_uint64_K d) y11).eval fun y13 =>
  some y13))))
theorem cmp_Compare_uint64_cok (d : Nat) : COK prog (cmp_Compare_uint64_sp (F_cmp_Compare_uint64 d)) := by
  have hm : prog.follows .mixedOrders = true := mixed
  have hT := tys
  have hC0 : OrcOK prog (orc (cmp_Compare_uint64_tab (cmp_Compare_uint64_K d))) := orc_ok (by
    intro S hS
    simp only [cmp_Compare_uint64_tab, List.mem_cons, List.not_mem_nil, or_false] at hS
    subst hS; exact cmp_isNaN_uint64_cok d)
  have hC : OrcOK prog (orc (cmp_Compare_uint64_tab (cmp_Compare_uint64_K d))) := hC0
  refine cok_of (c := bodyOf f102) (fn := f102) hT (by kernel_rfl) (by kernel_rfl) (by decide) fun x r h w0 φ0 Q hend => ?_
  replace h : F_cmp_Compare_uint64 d x = some r := h
  unfold F_cmp_Compare_uint64 at h
  show Run prog w0 φ0 20 (bodyOf f102) ⟨[(0, .int .u64 x.1.1), (1, .int .u64 x.2.1.1)], []⟩ Q
  refine run_seq ?_
  refine run_reg hm hT hC (cmp_Compare_uint64_g0 (cmp_Compare_uint64_K d) (x.1.1, x.2.1.1)) h ?_
  intro y0 h
  refine cn_then ?_
  refine run_seq ?_
  refine run_reg hm hT hC (cmp_Compare_uint64_g1 (cmp_Compare_uint64_K d) y0) h ?_
  intro y1 h
  refine cn_then ?_
  refine run_seq ?_
  refine run_reg hm hT hC (cmp_Compare_uint64_g2 (cmp_Compare_uint64_K d) y1) h ?_
  intro y2 h
  refine cn_then ?_
  refine run_seq ?_
  refine run_seq ?_
  refine run_reg hm hT hC (cmp_Compare_uint64_g3 (cmp_Compare_uint64_K d) y2) h ?_
  intro y3 h
  refine cn_then ?_
  refine run_cond (v := y3.2.2.2) (by kernel_rfl) h ?_ ?_
  ·
    intro h
    refine run_seq ?_
    refine run_seq ?_
    refine run_reg hm hT hC (cmp_Compare_uint64_g4 (cmp_Compare_uint64_K d) y3) h ?_
    intro y4 h
    refine cn_then ?_
    refine run_cond (v := y4) (by kernel_rfl) h ?_ ?_
    ·
      intro h
      refine run_seq ?_
      refine run_reg hm hT hC (cmp_Compare_uint64_g5 (cmp_Compare_uint64_K d) y4) h ?_
      intro y5 h
      refine cn_then ?_
      refine run_ret ?_
      refine cn_then_ret ?_
      refine cn_then_ret ?_
      cases h
      exact (hend _ (by kernel_rfl)).2
    ·
      intro h
      refine run_skip ?_
      refine cn_then ?_
      refine run_seq ?_
      refine run_reg hm hT hC (cmp_Compare_uint64_g6 (cmp_Compare_uint64_K d) y4) h ?_
      intro y6 h
      refine cn_then ?_
      refine run_ret ?_
      refine cn_then_ret ?_
      cases h
      exact (hend _ (by kernel_rfl)).2
  ·
    intro h
    refine run_skip ?_
    refine cn_then ?_
    refine run_seq ?_
    refine run_seq ?_
    refine run_reg hm hT hC (cmp_Compare_uint64_g7 (cmp_Compare_uint64_K d) y3) h ?_
    intro y7 h
    refine cn_then ?_
    refine run_cond (v := y7.2.2) (by kernel_rfl) h ?_ ?_
    ·
      intro h
      refine run_seq ?_
      refine run_reg hm hT hC (cmp_Compare_uint64_g8 (cmp_Compare_uint64_K d) y7) h ?_
      intro y8 h
      refine cn_then ?_
      refine run_ret ?_
      refine cn_then_ret ?_
      cases h
      exact (hend _ (by kernel_rfl)).2
    ·
      intro h
      refine run_skip ?_
      refine cn_then ?_
      refine run_seq ?_
      refine run_seq ?_
      refine run_reg hm hT hC (cmp_Compare_uint64_g9 (cmp_Compare_uint64_K d) y7) h ?_
      intro y9 h
      refine cn_then ?_
      refine run_cond (v := y9.2.2) (by kernel_rfl) h ?_ ?_
      ·
        intro h
        refine run_seq ?_
        refine run_reg hm hT hC (cmp_Compare_uint64_g10 (cmp_Compare_uint64_K d) y9) h ?_
        intro y10 h
        refine cn_then ?_
        refine run_ret ?_
        refine cn_then_ret ?_
        cases h
        exact (hend _ (by kernel_rfl)).2
      ·
        intro h
        refine run_skip ?_
        refine cn_then ?_
        refine run_seq ?_
        refine run_seq ?_
        refine run_reg hm hT hC (cmp_Compare_uint64_g11 (cmp_Compare_uint64_K d) y9) h ?_
        intro y11 h
        refine cn_then ?_
        refine run_cond (v := y11) (by kernel_rfl) h ?_ ?_
        ·
          intro h
          refine run_seq ?_
          refine run_reg hm hT hC (cmp_Compare_uint64_g12 (cmp_Compare_uint64_K d) y11) h ?_
          intro y12 h
          refine cn_then ?_
          refine run_ret ?_
          refine cn_then_ret ?_
          cases h
          exact (hend _ (by kernel_rfl)).2
        ·
          intro h
          refine run_skip ?_
          refine cn_then ?_
          refine run_seq ?_
          refine run_reg hm hT hC (cmp_Compare_uint64_g13 (cmp_Compare_uint64_K d) y11) h ?_
          intro y13 h
          refine cn_then ?_
          refine run_ret ?_
          cases h
          exact (hend _ (by kernel_rfl)).2
abbrev ratio_compare_ps : List Pk := [.row Rbuu true, .row Rbuu true]
abbrev ratio_compare_X : Type := Dbuu × Dbuu × Unit
abbrev ratio_compare_R : Type := Int
def ratio_compare_enc (r : ratio_compare_R) : LV × List Ob := (.int .i64 r, [])
def ratio_compare_sp (F : ratio_compare_X → Option ratio_compare_R) : Go.Tx.Spec := ⟨88, ratio_compare_ps, ratio_compare_R, F, ratio_compare_enc⟩
abbrev ratio_compare_C : Type := (cmp_Compare_uint64_X → Option cmp_Compare_uint64_R) × Unit
def ratio_compare_K (d : Nat) : ratio_compare_C := (F_cmp_Compare_uint64 d, ())
def ratio_compare_tab (C : ratio_compare_C) : List Go.Tx.Spec := [cmp_Compare_uint64_sp C.1]
abbrev ratio_compare_Y0i : Type := Bool × Int × Int × Bool × Int × Int
def ratio_compare_S0i (v : ratio_compare_Y0i) : St := ⟨[(0, .agg [.bool v.1, .int .u64 v.2.1, .int .u64 v.2.2.1]), (1, .agg [.bool v.2.2.2.1, .int .u64 v.2.2.2.2.1, .int .u64 v.2.2.2.2.2])], []⟩
abbrev ratio_compare_Y0 : Type := Bool × Int × Int × Bool × Int × Int
def ratio_compare_S0 (v : ratio_compare_Y0) : St := ⟨[(2, .ptr 0 0), (3, .ptr 1 0)], [.cells [.bool v.1, .int .u64 v.2.1, .int .u64 v.2.2.1], .cells [.bool v.2.2.2.1, .int .u64 v.2.2.2.2.1, .int .u64 v.2.2.2.2.2]]⟩
def ratio_compare_r0 (C : ratio_compare_C) (v : ratio_compare_Y0i) : Dt ratio_compare_Y0 := (Dt.ret (v.1, v.2.1, v.2.2.1, v.2.2.2.1, v.2.2.2.2.1, v.2.2.2.2.2))
theorem ratio_compare_g0 (C : ratio_compare_C) (v : ratio_compare_Y0i) : treg tysT (orc (ratio_compare_tab C)) 19 (regO (bodyOf f88) 0) false [(2, .any), (3, .any)] (ratio_compare_S0i v) some = (ratio_compare_r0 C v).eval fun y => some (ratio_compare_S0 y) := by kernel_rfl
abbrev ratio_compare_Y1 : Type := Int × Bool × Int × Int × Bool × Int × Int
def ratio_compare_S1 (v : ratio_compare_Y1) : St := ⟨[(2, .ptr 0 0), (3, .ptr 1 0), (5, .int .i64 v.1)], [.cells [.bool v.2.1, .int .u64 v.2.2.1, .int .u64 v.2.2.2.1], .cells [.bool v.2.2.2.2.1, .int .u64 v.2.2.2.2.2.1, .int .u64 v.2.2.2.2.2.2]]⟩
def ratio_compare_r1 (C : ratio_compare_C) (v : ratio_compare_Y0) : Dt ratio_compare_Y1 := (Dt.bnd (C.1 ((v.2.1, ()), (v.2.2.2.2.1, ()), ())) fun r1 => (Dt.ret (r1, v.1, v.2.1, v.2.2.1, v.2.2.2.1, v.2.2.2.2.1, v.2.2.2.2.2)))
theorem ratio_compare_g1 (C : ratio_compare_C) (v : ratio_compare_Y0) : treg tysT (orc (ratio_compare_tab C)) 19 (regO (bodyOf f88) 1) false [(2, .any), (3, .any), (5, .any)] (ratio_compare_S0 v) some = (ratio_compare_r1 C v).eval fun y => some (ratio_compare_S1 y) := by kernel_rfl
abbrev ratio_compare_Y2 : Type := Int × Bool × Bool × Int × Int × Bool × Int × Int
def ratio_compare_S2 (v : ratio_compare_Y2) : St := ⟨[(2, .ptr 0 0), (3, .ptr 1 0), (5, .int .i64 v.1), (12, .bool v.2.1)], [.cells [.bool v.2.2.1, .int .u64 v.2.2.2.1, .int .u64 v.2.2.2.2.1], .cells [.bool v.2.2.2.2.2.1, .int .u64 v.2.2.2.2.2.2.1, .int .u64 v.2.2.2.2.2.2.2]]⟩
def ratio_compare_r2 (C : ratio_compare_C) (v : ratio_compare_Y1) : Dt ratio_compare_Y2 := (Dt.ret (v.1, (v.1 != (0:Int)), v.2.1, v.2.2.1, v.2.2.2.1, v.2.2.2.2.1, v.2.2.2.2.2.1, v.2.2.2.2.2.2))
theorem ratio_compare_g2 (C : ratio_compare_C) (v : ratio_compare_Y1) : treg tysT (orc (ratio_compare_tab C)) 19 (regO (bodyOf f88) 2) false [(2, .any), (3, .any), (5, .any), (12, .any)] (ratio_compare_S1 v) some = (ratio_compare_r2 C v).eval fun y => some (ratio_compare_S2 y) := by kernel_rfl
abbrev ratio_compare_Y3 : Type := Int
def ratio_compare_S3 (v : ratio_compare_Y3) : St := ⟨[(4, .int .i64 v)], []⟩
def ratio_compare_r3 (C : ratio_compare_C) (v : ratio_compare_Y2) : Dt ratio_compare_Y3 := (Dt.ret v.1)
theorem ratio_compare_g3 (C : ratio_compare_C) (v : ratio_compare_Y2) : treg tysT (orc (ratio_compare_tab C)) 19 (regO (bodyOf f88) 3) false [(4, .any)] (ratio_compare_S2 v) some = (ratio_compare_r3 C v).eval fun y => some (ratio_compare_S3 y) := by kernel_rfl
def ratio_compare_r4 (C : ratio_compare_C) (v : ratio_compare_Y2) : Dt ratio_compare_Y3 := (Dt.bnd (C.1 ((v.2.2.2.2.1, ()), (v.2.2.2.2.2.2.2, ()), ())) fun r1 => (Dt.ret r1))
theorem ratio_compare_g4 (C : ratio_compare_C) (v : ratio_compare_Y2) : treg tysT (orc (ratio_compare_tab C)) 19 (regO (bodyOf f88) 4) false [(4, .any)] (ratio_compare_S2 v) some = (ratio_compare_r4 C v).eval fun y => some (ratio_compare_S3 y) := by kernel_rfl
def F_ratio_compare (d : Nat) (x : ratio_compare_X) : Option ratio_compare_R :=
  (ratio_compare_r0 (ratio_compare_K d) (x.1.1, x.1.2.1, x.1.2.2.1, x.2.1.1, x.2.1.2.1, x.2.1.2.2.1)).eval fun y0 =>
  (ratio_compare_r1 (ratio_compare_K d) y0).eval fun y1 =>
  (ratio_compare_r2 (ratio_compare_K d) y1).eval fun y2 =>
  bif y2.2.1 then ((ratio_compare_r3 (ratio_compare_K d) y2).eval fun y3 =>
  some y3) else ((ratio_compare_r4 (ratio_compare_K d) y2).eval fun y4 =>
  some y4)
theorem ratio_compare_cok (d : Nat) : COK prog (ratio_compare_sp (F_ratio_compare d)) := by
  have hm : prog.follows .mixedOrders = true := mixed
  have hT := tys
  have hC0 : OrcOK prog (orc (ratio_compare_tab (ratio_compare_K d))) := orc_ok (by
    intro S hS
    simp only [ratio_compare_tab, List.mem_cons, List.not_mem_nil, or_false] at hS
    subst hS; exact cmp_Compare_uint64_cok d)
  have hC : OrcOK prog (orc (ratio_compare_tab (ratio_compare_K d))) := hC0
  refine cok_of (c := bodyOf f88) (fn := f88) hT (by kernel_rfl) (by kernel_rfl) (by decide) fun x r h w0 φ0 Q hend => ?_
  replace h : F_ratio_compare d x = some r := h
  unfold F_ratio_compare at h
  show Run prog w0 φ0 19 (bodyOf f88) ⟨[(0, .agg [.bool x.1.1, .int .u64 x.1.2.1, .int .u64 x.1.2.2.1]), (1, .agg [.bool x.2.1.1, .int .u64 x.2.1.2.1, .int .u64 x.2.1.2.2.1])], []⟩ Q
  refine run_seq ?_
  refine run_reg hm hT hC (ratio_compare_g0 (ratio_compare_K d) (x.1.1, x.1.2.1, x.1.2.2.1, x.2.1.1, x.2.1.2.1, x.2.1.2.2.1)) h ?_
  intro y0 h
  refine cn_then ?_
  refine run_seq ?_
  refine run_seq ?_
  refine run_reg hm hT hC (ratio_compare_g1 (ratio_compare_K d) y0) h ?_
  intro y1 h
  refine cn_then ?_
  refine run_seq ?_
  refine run_reg hm hT hC (ratio_compare_g2 (ratio_compare_K d) y1) h ?_
  intro y2 h
  refine cn_then ?_
  refine run_cond (v := y2.2.1) (by kernel_rfl) h ?_ ?_
  ·
    intro h
    refine run_seq ?_
    refine run_reg hm hT hC (ratio_compare_g3 (ratio_compare_K d) y2) h ?_
    intro y3 h
    refine cn_then ?_
    refine run_ret ?_
    refine cn_then_ret ?_
    cases h
    exact (hend _ (by kernel_rfl)).2
  ·
    intro h
    refine run_skip ?_
    refine cn_then ?_
    refine run_seq ?_
    refine run_reg hm hT hC (ratio_compare_g4 (ratio_compare_K d) y2) h ?_
    intro y4 h
    refine cn_then ?_
    refine run_ret ?_
    cases h
    exact (hend _ (by kernel_rfl)).2
abbrev ratio_Cmp_ps : List Pk := [.row Rii true, .row Rii true]
abbrev ratio_Cmp_X : Type := Dii × Dii × Unit
abbrev ratio_Cmp_R : Type := Int × Int
def ratio_Cmp_enc (r : ratio_Cmp_R) : LV × List Ob := (.tup [.int .i64 r.1, .int .i64 r.2], [])
def ratio_Cmp_sp (F : ratio_Cmp_X → Option ratio_Cmp_R) : Go.Tx.Spec := ⟨78, ratio_Cmp_ps, ratio_Cmp_R, F, ratio_Cmp_enc⟩
abbrev ratio_Cmp_C : Type := (cmp_Compare_int64_X → Option cmp_Compare_int64_R) × (ratio_both_X → Option ratio_both_R) × (ratio_compare_X → Option ratio_compare_R) × (ratio_times_X → Option ratio_times_R) × Unit
def ratio_Cmp_K (d : Nat) : ratio_Cmp_C := (F_cmp_Compare_int64 d, F_ratio_both d, F_ratio_compare d, F_ratio_times d, ())
def ratio_Cmp_tab (C : ratio_Cmp_C) : List Go.Tx.Spec := [cmp_Compare_int64_sp C.1, ratio_both_sp C.2.1, ratio_compare_sp C.2.2.1, ratio_times_sp C.2.2.2.1]
abbrev ratio_Cmp_Y0i : Type := Int × Int × Int × Int
def ratio_Cmp_S0i (v : ratio_Cmp_Y0i) : St := ⟨[(0, .agg [.int .i64 v.1, .int .i64 v.2.1]), (1, .agg [.int .i64 v.2.2.1, .int .i64 v.2.2.2])], []⟩
abbrev ratio_Cmp_Y0 : Type := Int × Int × Int × Int
def ratio_Cmp_S0 (v : ratio_Cmp_Y0) : St := ⟨[(2, .ptr 0 0), (3, .ptr 1 0)], [.cells [.int .i64 v.1, .int .i64 v.2.1], .cells [.int .i64 v.2.2.1, .int .i64 v.2.2.2]]⟩
def ratio_Cmp_r0 (C : ratio_Cmp_C) (v : ratio_Cmp_Y0i) : Dt ratio_Cmp_Y0 := (Dt.ret (v.1, v.2.1, v.2.2.1, v.2.2.2))
theorem ratio_Cmp_g0 (C : ratio_Cmp_C) (v : ratio_Cmp_Y0i) : treg tysT (orc (ratio_Cmp_tab C)) 43 (regO (bodyOf f78) 0) false [(2, .any), (3, .any)] (ratio_Cmp_S0i v) some = (ratio_Cmp_r0 C v).eval fun y => some (ratio_Cmp_S0 y) := by kernel_rfl
abbrev ratio_Cmp_Y1 : Type := Int × Int × Int × Int × Int
def ratio_Cmp_S1 (v : ratio_Cmp_Y1) : St := ⟨[(2, .ptr 0 0), (3, .ptr 1 0), (6, .int .i64 v.1)], [.cells [.int .i64 v.2.1, .int .i64 v.2.2.1], .cells [.int .i64 v.2.2.2.1, .int .i64 v.2.2.2.2]]⟩
def ratio_Cmp_r1 (C : ratio_Cmp_C) (v : ratio_Cmp_Y0) : Dt ratio_Cmp_Y1 := (Dt.bnd (C.2.1 ((v.1, v.2.1, ()), (v.2.2.1, v.2.2.2, ()), ())) fun r1 => (Dt.ret (r1, v.1, v.2.1, v.2.2.1, v.2.2.2)))
theorem ratio_Cmp_g1 (C : ratio_Cmp_C) (v : ratio_Cmp_Y0) : treg tysT (orc (ratio_Cmp_tab C)) 43 (regO (bodyOf f78) 1) false [(2, .any), (3, .any), (6, .any)] (ratio_Cmp_S0 v) some = (ratio_Cmp_r1 C v).eval fun y => some (ratio_Cmp_S1 y) := by kernel_rfl
abbrev ratio_Cmp_Y2 : Type := Int × Bool × Int × Int × Int × Int
def ratio_Cmp_S2 (v : ratio_Cmp_Y2) : St := ⟨[(2, .ptr 0 0), (3, .ptr 1 0), (6, .int .i64 v.1), (12, .bool v.2.1)], [.cells [.int .i64 v.2.2.1, .int .i64 v.2.2.2.1], .cells [.int .i64 v.2.2.2.2.1, .int .i64 v.2.2.2.2.2]]⟩
def ratio_Cmp_r2 (C : ratio_Cmp_C) (v : ratio_Cmp_Y1) : Dt ratio_Cmp_Y2 := (Dt.ret (v.1, (v.1 != (0:Int)), v.2.1, v.2.2.1, v.2.2.2.1, v.2.2.2.2))
theorem ratio_Cmp_g2 (C : ratio_Cmp_C) (v : ratio_Cmp_Y1) : treg tysT (orc (ratio_Cmp_tab C)) 43 (regO (bodyOf f78) 2) false [(2, .any), (3, .any), (6, .any), (12, .any)] (ratio_Cmp_S1 v) some = (ratio_Cmp_r2 C v).eval fun y => some (ratio_Cmp_S2 y) := by kernel_rfl
abbrev ratio_Cmp_Y3 : Type := Int × Int
def ratio_Cmp_S3 (v : ratio_Cmp_Y3) : St := ⟨[(4, .int .i64 v.1), (5, .int .i64 v.2)], []⟩
def ratio_Cmp_r3 (C : ratio_Cmp_C) (v : ratio_Cmp_Y2) : Dt ratio_Cmp_Y3 := (Dt.ret ((0:Int), v.1))
theorem ratio_Cmp_g3 (C : ratio_Cmp_C) (v : ratio_Cmp_Y2) : treg tysT (orc (ratio_Cmp_tab C)) 43 (regO (bodyOf f78) 3) false [(4, .any), (5, .any)] (ratio_Cmp_S2 v) some = (ratio_Cmp_r3 C v).eval fun y => some (ratio_Cmp_S3 y) := by kernel_rfl
abbrev ratio_Cmp_Y4 : Type := Bool × Int × Int × Int × Int
def ratio_Cmp_S4 (v : ratio_Cmp_Y4) : St := ⟨[(2, .ptr 0 0), (3, .ptr 1 0), (20, .bool v.1)], [.cells [.int .i64 v.2.1, .int .i64 v.2.2.1], .cells [.int .i64 v.2.2.2.1, .int .i64 v.2.2.2.2]]⟩
def ratio_Cmp_r4 (C : ratio_Cmp_C) (v : ratio_Cmp_Y2) : Dt ratio_Cmp_Y4 := (Dt.ret ((!((decide (v.2.2.1 < (0:Int))) == (decide (v.2.2.2.2.1 < (0:Int))))), v.2.2.1, v.2.2.2.1, v.2.2.2.2.1, v.2.2.2.2.2))
theorem ratio_Cmp_g4 (C : ratio_Cmp_C) (v : ratio_Cmp_Y2) : treg tysT (orc (ratio_Cmp_tab C)) 43 (regO (bodyOf f78) 4) false [(2, .any), (3, .any), (20, .any)] (ratio_Cmp_S2 v) some = (ratio_Cmp_r4 C v).eval fun y => some (ratio_Cmp_S4 y) := by kernel_rfl
def ratio_Cmp_r5 (C : ratio_Cmp_C) (v : ratio_Cmp_Y4) : Dt ratio_Cmp_Y3 := (Dt.bnd (C.1 ((v.2.1, ()), (v.2.2.2.1, ()), ())) fun r1 => (Dt.ret (r1, (0:Int))))
theorem ratio_Cmp_g5 (C : ratio_Cmp_C) (v : ratio_Cmp_Y4) : treg tysT (orc (ratio_Cmp_tab C)) 43 (regO (bodyOf f78) 5) false [(4, .any), (5, .any)] (ratio_Cmp_S4 v) some = (ratio_Cmp_r5 C v).eval fun y => some (ratio_Cmp_S3 y) := by kernel_rfl
abbrev ratio_Cmp_Y6 : Type := Int × Int × Int
def ratio_Cmp_S6 (v : ratio_Cmp_Y6) : St := ⟨[(2, .ptr 0 0), (7, .int .i64 v.1)], [.cells [.int .i64 v.2.1, .int .i64 v.2.2]]⟩
def ratio_Cmp_r6 (C : ratio_Cmp_C) (v : ratio_Cmp_Y4) : Dt ratio_Cmp_Y6 := (Dt.bnd (C.2.2.2.1 ((v.2.1, ()), (v.2.2.2.2, ()), ())) fun r1 => (Dt.bnd (C.2.2.2.1 ((v.2.2.2.1, ()), (v.2.2.1, ()), ())) fun r2 => (Dt.bnd (C.2.2.1 ((r1.1, r1.2.1, r1.2.2, ()), (r2.1, r2.2.1, r2.2.2, ()), ())) fun r3 => (Dt.ret (r3, v.2.1, v.2.2.1)))))
theorem ratio_Cmp_g6 (C : ratio_Cmp_C) (v : ratio_Cmp_Y4) : treg tysT (orc (ratio_Cmp_tab C)) 43 (regO (bodyOf f78) 6) true [(2, .any), (7, .any)] (ratio_Cmp_S4 v) some = (ratio_Cmp_r6 C v).eval fun y => some (ratio_Cmp_S6 y) := by kernel_rfl
abbrev ratio_Cmp_Y7 : Type := Int × Bool
def ratio_Cmp_S7 (v : ratio_Cmp_Y7) : St := ⟨[(7, .int .i64 v.1), (39, .bool v.2)], []⟩
def ratio_Cmp_r7 (C : ratio_Cmp_C) (v : ratio_Cmp_Y6) : Dt ratio_Cmp_Y7 := (Dt.ret (v.1, (decide (v.2.1 < (0:Int)))))
theorem ratio_Cmp_g7 (C : ratio_Cmp_C) (v : ratio_Cmp_Y6) : treg tysT (orc (ratio_Cmp_tab C)) 43 (regO (bodyOf f78) 7) false [(7, .any), (39, .any)] (ratio_Cmp_S6 v) some = (ratio_Cmp_r7 C v).eval fun y => some (ratio_Cmp_S7 y) := by kernel_rfl
abbrev ratio_Cmp_Y8 : Type := Int
def ratio_Cmp_S8 (v : ratio_Cmp_Y8) : St := ⟨[(7, .int .i64 v)], []⟩
def ratio_Cmp_r8 (C : ratio_Cmp_C) (v : ratio_Cmp_Y7) : Dt ratio_Cmp_Y8 := (Dt.ret (IntKind.wrap .i64 (0 - v.1)))
theorem ratio_Cmp_g8 (C : ratio_Cmp_C) (v : ratio_Cmp_Y7) : treg tysT (orc (ratio_Cmp_tab C)) 43 (regO (bodyOf f78) 8) false [(7, .any)] (ratio_Cmp_S7 v) some = (ratio_Cmp_r8 C v).eval fun y => some (ratio_Cmp_S8 y) := by kernel_rfl
def ratio_Cmp_r9 (C : ratio_Cmp_C) (v : ratio_Cmp_Y8) : Dt ratio_Cmp_Y3 := (Dt.ret (v, (0:Int)))
theorem ratio_Cmp_g9 (C : ratio_Cmp_C) (v : ratio_Cmp_Y8) : treg tysT (orc (ratio_Cmp_tab C)) 43 (regO (bodyOf f78) 9) false [(4, .any), (5, .any)] (ratio_Cmp_S8 v) some = (ratio_Cmp_r9 C v).eval fun y => some (ratio_Cmp_S3 y) := by kernel_rfl
def ratio_Cmp_J1  (d : Nat)  (z : Int) : Option (ratio_Cmp_R) :=
  (ratio_Cmp_r9 (ratio_Cmp_K d) z).eval fun y9 =>
  some y9
def F_ratio_Cmp (d : Nat) (x : ratio_Cmp_X) : Option ratio_Cmp_R :=
  (ratio_Cmp_r0 (ratio_Cmp_K d) (x.1.1, x.1.2.1, x.2.1.1, x.2.1.2.1)).eval fun y0 =>
  (ratio_Cmp_r1 (ratio_Cmp_K d) y0).eval fun y1 =>
  (ratio_Cmp_r2 (ratio_Cmp_K d) y1).eval fun y2 =>
  bif y2.2.1 then ((ratio_Cmp_r3 (ratio_Cmp_K d) y2).eval fun y3 =>
  some y3) else ((ratio_Cmp_r4 (ratio_Cmp_K d) y2).eval fun y4 =>
  bif y4.1 then ((ratio_Cmp_r5 (ratio_Cmp_K d) y4).eval fun y5 =>
  some y5) else ((ratio_Cmp_r6 (ratio_Cmp_K d) y4).eval fun y6 =>
  (ratio_Cmp_r7 (ratio_Cmp_K d) y6).eval fun y7 =>
  bif y7.2 then ((ratio_Cmp_r8 (ratio_Cmp_K d) y7).eval fun y8 =>
  ratio_Cmp_J1 d  y8) else (ratio_Cmp_J1 d  y7.1)))
theorem ratio_Cmp_cok (d : Nat) : COK prog (ratio_Cmp_sp (F_ratio_Cmp d)) := by
  have hm : prog.follows .mixedOrders = true := mixed
  have hT := tys
  have hC0 : OrcOK prog (orc (ratio_Cmp_tab (ratio_Cmp_K d))) := orc_ok (by
    intro S hS
    simp only [ratio_Cmp_tab, List.mem_cons, List.not_mem_nil, or_false] at hS
    rcases hS with rfl | rfl | rfl | rfl
    · exact cmp_Compare_int64_cok d
    · exact ratio_both_cok d
    · exact ratio_compare_cok d
    · exact ratio_times_cok d)
  have hC : OrcOK prog (orc (ratio_Cmp_tab (ratio_Cmp_K d))) := hC0
  refine cok_of (c := bodyOf f78) (fn := f78) hT (by kernel_rfl) (by kernel_rfl) (by decide) fun x r h w0 φ0 Q hend => ?_
  replace h : F_ratio_Cmp d x = some r := h
  unfold F_ratio_Cmp at h
  show Run prog w0 φ0 43 (bodyOf f78) ⟨[(0, .agg [.int .i64 x.1.1, .int .i64 x.1.2.1]), (1, .agg [.int .i64 x.2.1.1, .int .i64 x.2.1.2.1])], []⟩ Q
  refine run_seq ?_
  refine run_reg hm hT hC (ratio_Cmp_g0 (ratio_Cmp_K d) (x.1.1, x.1.2.1, x.2.1.1, x.2.1.2.1)) h ?_
  intro y0 h
  refine cn_then ?_
  refine run_seq ?_
  refine run_seq ?_
  refine run_reg hm hT hC (ratio_Cmp_g1 (ratio_Cmp_K d) y0) h ?_
  intro y1 h
  refine cn_then ?_
  refine run_seq ?_
  refine run_reg hm hT hC (ratio_Cmp_g2 (ratio_Cmp_K d) y1) h ?_
  intro y2 h
  refine cn_then ?_
  refine run_cond (v := y2.2.1) (by kernel_rfl) h ?_ ?_
  ·
    intro h
    refine run_seq ?_
    refine run_reg hm hT hC (ratio_Cmp_g3 (ratio_Cmp_K d) y2) h ?_
    intro y3 h
    refine cn_then ?_
    refine run_ret ?_
    refine cn_then_ret ?_
    cases h
    exact (hend _ (by kernel_rfl)).2
  ·
    intro h
    refine run_skip ?_
    refine cn_then ?_
    refine run_seq ?_
    refine run_seq ?_
    refine run_reg hm hT hC (ratio_Cmp_g4 (ratio_Cmp_K d) y2) h ?_
    intro y4 h
    refine cn_then ?_
    refine run_cond (v := y4.1) (by kernel_rfl) h ?_ ?_
    ·
      intro h
      refine run_seq ?_
      refine run_reg hm hT hC (ratio_Cmp_g5 (ratio_Cmp_K d) y4) h ?_
      intro y5 h
      refine cn_then ?_
      refine run_ret ?_
      refine cn_then_ret ?_
      cases h
      exact (hend _ (by kernel_rfl)).2
    ·
      intro h
      refine run_skip ?_
      refine cn_then ?_
      refine run_seq ?_
      refine run_reg hm hT hC (ratio_Cmp_g6 (ratio_Cmp_K d) y4) h ?_
      intro y6 h
      refine cn_then ?_
      refine run_join (r := r) (F := ratio_Cmp_J1 d ) (S := (fun z => ⟨[(7, .int .i64 z)], []⟩ : Int → St)) ?_ ?_
      ·
        intro z h
        unfold ratio_Cmp_J1 at h
        refine run_seq ?_
        refine run_reg hm hT hC (ratio_Cmp_g9 (ratio_Cmp_K d) z) h ?_
        intro y9 h
        refine cn_then ?_
        refine run_ret ?_
        cases h
        exact (hend _ (by kernel_rfl)).2
      intro hj1
      refine run_seq ?_
      refine run_reg hm hT hC (ratio_Cmp_g7 (ratio_Cmp_K d) y6) h ?_
      intro y7 h
      refine cn_then ?_
      refine run_cond (v := y7.2) (by kernel_rfl) h ?_ ?_
      ·
        intro h
        refine run_reg hm hT hC (ratio_Cmp_g8 (ratio_Cmp_K d) y7) h ?_
        intro y8 h
        exact hj1 _ h
      ·
        intro h
        refine run_skip ?_
        refine cn_num (s := ⟨[(7, .int .i64 y7.1)], []⟩) [39] (by kernel_rfl) ?_
        exact hj1 _ h
abbrev field_Check_ps : List Pk := [.row RLiiiE true]
abbrev field_Check_X : Type := DLiiiE × Unit
abbrev field_Check_R : Type := Int
def field_Check_enc (r : field_Check_R) : LV × List Ob := (.int .i64 r, [])
def field_Check_sp (F : field_Check_X → Option field_Check_R) : Go.Tx.Spec := ⟨56, field_Check_ps, field_Check_R, F, field_Check_enc⟩
abbrev field_Check_C : Type := (course_Check_X → Option course_Check_R) × Unit
def field_Check_K (d : Nat) : field_Check_C := (F_course_Check d, ())
def field_Check_tab (C : field_Check_C) : List Go.Tx.Spec := [course_Check_sp C.1]
abbrev field_Check_Y0i : Type := List Diii
def field_Check_S0i (v : field_Check_Y0i) : St := ⟨[(0, .agg [.fz Riii v])], []⟩
abbrev field_Check_Y0 : Type := List Diii
def field_Check_S0 (v : field_Check_Y0) : St := ⟨[(1, .ptr 0 0)], [.cells [.fz Riii v]]⟩
def field_Check_r0 (C : field_Check_C) (v : field_Check_Y0i) : Dt field_Check_Y0 := (Dt.ret v)
theorem field_Check_g0 (C : field_Check_C) (v : field_Check_Y0i) : treg tysT (orc (field_Check_tab C)) 48 (regO (bodyOf f56) 0) false [(1, (.box [.val Riii]))] (field_Check_S0i v) some = (field_Check_r0 C v).eval fun y => some (field_Check_S0 y) := by kernel_rfl
abbrev field_Check_Y1 : Type := Bool × List Diii
def field_Check_S1 (v : field_Check_Y1) : St := ⟨[(1, .ptr 0 0), (11, .bool v.1)], [.cells [.fz Riii v.2]]⟩
def field_Check_r1 (C : field_Check_C) (v : field_Check_Y0) : Dt field_Check_Y1 := (Dt.ret ((decide ((List.length v : Int) > (64:Int))), v))
theorem field_Check_g1 (C : field_Check_C) (v : field_Check_Y0) : treg tysT (orc (field_Check_tab C)) 48 (regO (bodyOf f56) 1) false [(1, (.box [.val Riii])), (11, .any)] (field_Check_S0 v) some = (field_Check_r1 C v).eval fun y => some (field_Check_S1 y) := by kernel_rfl
abbrev field_Check_Y2 : Type := Int
def field_Check_S2 (v : field_Check_Y2) : St := ⟨[(2, .int .i64 v)], []⟩
def field_Check_r2 (C : field_Check_C) (v : field_Check_Y1) : Dt field_Check_Y2 := (Dt.ret (4:Int))
theorem field_Check_g2 (C : field_Check_C) (v : field_Check_Y1) : treg tysT (orc (field_Check_tab C)) 48 (regO (bodyOf f56) 2) false [(2, .any)] (field_Check_S1 v) some = (field_Check_r2 C v).eval fun y => some (field_Check_S2 y) := by kernel_rfl
abbrev field_Check_Y3 : Type := List Diii × Int × Int × List Diii
def field_Check_S3 (v : field_Check_Y3) : St := ⟨[(1, .ptr 0 0), (13, .fz Riii v.1), (14, .int .i64 v.2.1), (15, .int .i64 v.2.2.1)], [.cells [.fz Riii v.2.2.2]]⟩
def field_Check_r3 (C : field_Check_C) (v : field_Check_Y1) : Dt field_Check_Y3 := (Dt.ret (v.2, (List.length v.2 : Int), (0:Int), v.2))
theorem field_Check_g3 (C : field_Check_C) (v : field_Check_Y1) : treg tysT (orc (field_Check_tab C)) 48 (regO (bodyOf f56) 3) false [(1, (.box [.val Riii])), (13, (.val Riii)), (14, .any), (15, .any)] (field_Check_S1 v) some = (field_Check_r3 C v).eval fun y => some (field_Check_S3 y) := by kernel_rfl
abbrev field_Check_Y4 : Type := List Diii × Int × Int × Bool × List Diii
def field_Check_S4 (v : field_Check_Y4) : St := ⟨[(1, .ptr 0 0), (13, .fz Riii v.1), (14, .int .i64 v.2.1), (15, .int .i64 v.2.2.1), (16, .bool v.2.2.2.1)], [.cells [.fz Riii v.2.2.2.2]]⟩
def field_Check_r4 (C : field_Check_C) (v : field_Check_Y3) : Dt field_Check_Y4 := (Dt.ret (v.1, v.2.1, v.2.2.1, (decide (v.2.2.1 < v.2.1)), v.2.2.2))
theorem field_Check_g4 (C : field_Check_C) (v : field_Check_Y3) : treg tysT (orc (field_Check_tab C)) 48 (regO (bodyOf f56) 4) false [(1, (.box [.val Riii])), (13, (.val Riii)), (14, .any), (15, .any), (16, .any)] (field_Check_S3 v) some = (field_Check_r4 C v).eval fun y => some (field_Check_S4 y) := by kernel_rfl
abbrev field_Check_Y5 : Type := List Diii × Int × Int × List Diii × Int × Int × Int
def field_Check_S5 (v : field_Check_Y5) : St := ⟨[(1, .ptr 0 0), (4, .ptr 1 0), (13, .fz Riii v.1), (14, .int .i64 v.2.1), (15, .int .i64 v.2.2.1)], [.cells [.fz Riii v.2.2.2.1], .cells [.int .i64 v.2.2.2.2.1, .int .i64 v.2.2.2.2.2.1, .int .i64 v.2.2.2.2.2.2]]⟩
def field_Check_r5 (C : field_Check_C) (v : field_Check_Y4) : Dt field_Check_Y5 := (Dt.ite (inB v.2.2.1 (List.length v.1)) (Dt.ret (v.1, v.2.1, v.2.2.1, v.2.2.2.2, (elt ziii v.1 (v.2.2.1).toNat).1, (elt ziii v.1 (v.2.2.1).toNat).2.1, (elt ziii v.1 (v.2.2.1).toNat).2.2.1)) Dt.fail)
theorem field_Check_g5 (C : field_Check_C) (v : field_Check_Y4) : treg tysT (orc (field_Check_tab C)) 48 (regO (bodyOf f56) 5) false [(1, (.box [.val Riii])), (4, .any), (13, (.val Riii)), (14, .any), (15, .any)] (field_Check_S4 v) some = (field_Check_r5 C v).eval fun y => some (field_Check_S5 y) := by kernel_rfl
abbrev field_Check_Y6 : Type := Int × List Diii × Int × Int × List Diii
def field_Check_S6 (v : field_Check_Y6) : St := ⟨[(1, .ptr 0 0), (5, .int .i64 v.1), (13, .fz Riii v.2.1), (14, .int .i64 v.2.2.1), (15, .int .i64 v.2.2.2.1)], [.cells [.fz Riii v.2.2.2.2]]⟩
def field_Check_r6 (C : field_Check_C) (v : field_Check_Y5) : Dt field_Check_Y6 := (Dt.bnd (C.1 ((v.2.2.2.2.1, v.2.2.2.2.2.1, v.2.2.2.2.2.2, ()), ())) fun r1 => (Dt.ret (r1, v.1, v.2.1, v.2.2.1, v.2.2.2.1)))
theorem field_Check_g6 (C : field_Check_C) (v : field_Check_Y5) : treg tysT (orc (field_Check_tab C)) 48 (regO (bodyOf f56) 6) false [(1, (.box [.val Riii])), (5, .any), (13, (.val Riii)), (14, .any), (15, .any)] (field_Check_S5 v) some = (field_Check_r6 C v).eval fun y => some (field_Check_S6 y) := by kernel_rfl
abbrev field_Check_Y7 : Type := Int × List Diii × Int × Int × Bool × List Diii
def field_Check_S7 (v : field_Check_Y7) : St := ⟨[(1, .ptr 0 0), (5, .int .i64 v.1), (13, .fz Riii v.2.1), (14, .int .i64 v.2.2.1), (15, .int .i64 v.2.2.2.1), (22, .bool v.2.2.2.2.1)], [.cells [.fz Riii v.2.2.2.2.2]]⟩
def field_Check_r7 (C : field_Check_C) (v : field_Check_Y6) : Dt field_Check_Y7 := (Dt.ret (v.1, v.2.1, v.2.2.1, v.2.2.2.1, (v.1 != (0:Int)), v.2.2.2.2))
theorem field_Check_g7 (C : field_Check_C) (v : field_Check_Y6) : treg tysT (orc (field_Check_tab C)) 48 (regO (bodyOf f56) 7) false [(1, (.box [.val Riii])), (5, .any), (13, (.val Riii)), (14, .any), (15, .any), (22, .any)] (field_Check_S6 v) some = (field_Check_r7 C v).eval fun y => some (field_Check_S7 y) := by kernel_rfl
def field_Check_r8 (C : field_Check_C) (v : field_Check_Y7) : Dt field_Check_Y2 := (Dt.ret v.1)
theorem field_Check_g8 (C : field_Check_C) (v : field_Check_Y7) : treg tysT (orc (field_Check_tab C)) 48 (regO (bodyOf f56) 8) false [(2, .any)] (field_Check_S7 v) some = (field_Check_r8 C v).eval fun y => some (field_Check_S2 y) := by kernel_rfl
def field_Check_r9 (C : field_Check_C) (v : field_Check_Y7) : Dt field_Check_Y3 := (Dt.ret (v.2.1, v.2.2.1, (IntKind.wrap .i64 (v.2.2.2.1 + (1:Int))), v.2.2.2.2.2))
theorem field_Check_g9 (C : field_Check_C) (v : field_Check_Y7) : treg tysT (orc (field_Check_tab C)) 48 (regO (bodyOf f56) 9) false [(1, (.box [.val Riii])), (13, (.val Riii)), (14, .any), (15, .any)] (field_Check_S7 v) some = (field_Check_r9 C v).eval fun y => some (field_Check_S3 y) := by kernel_rfl
abbrev field_Check_Y10 : Type := List Diii × Int × Int × List Diii
def field_Check_S10 (v : field_Check_Y10) : St := ⟨[(1, .ptr 0 0), (26, .fz Riii v.1), (27, .int .i64 v.2.1), (28, .int .i64 v.2.2.1)], [.cells [.fz Riii v.2.2.2]]⟩
def field_Check_r10 (C : field_Check_C) (v : field_Check_Y4) : Dt field_Check_Y10 := (Dt.ret (v.2.2.2.2, (List.length v.2.2.2.2 : Int), (0:Int), v.2.2.2.2))
theorem field_Check_g10 (C : field_Check_C) (v : field_Check_Y4) : treg tysT (orc (field_Check_tab C)) 48 (regO (bodyOf f56) 10) false [(1, (.box [.val Riii])), (26, (.val Riii)), (27, .any), (28, .any)] (field_Check_S4 v) some = (field_Check_r10 C v).eval fun y => some (field_Check_S10 y) := by kernel_rfl
abbrev field_Check_Y11 : Type := List Diii × Int × Int × Bool × List Diii
def field_Check_S11 (v : field_Check_Y11) : St := ⟨[(1, .ptr 0 0), (26, .fz Riii v.1), (27, .int .i64 v.2.1), (28, .int .i64 v.2.2.1), (29, .bool v.2.2.2.1)], [.cells [.fz Riii v.2.2.2.2]]⟩
def field_Check_r11 (C : field_Check_C) (v : field_Check_Y10) : Dt field_Check_Y11 := (Dt.ret (v.1, v.2.1, v.2.2.1, (decide (v.2.2.1 < v.2.1)), v.2.2.2))
theorem field_Check_g11 (C : field_Check_C) (v : field_Check_Y10) : treg tysT (orc (field_Check_tab C)) 48 (regO (bodyOf f56) 11) false [(1, (.box [.val Riii])), (26, (.val Riii)), (27, .any), (28, .any), (29, .any)] (field_Check_S10 v) some = (field_Check_r11 C v).eval fun y => some (field_Check_S11 y) := by kernel_rfl
abbrev field_Check_Y12 : Type := Int × List Diii × Int × Int × List Diii × Int × Int × Int
def field_Check_S12 (v : field_Check_Y12) : St := ⟨[(1, .ptr 0 0), (6, .int .i64 v.1), (7, .ptr 1 0), (26, .fz Riii v.2.1), (27, .int .i64 v.2.2.1), (28, .int .i64 v.2.2.2.1)], [.cells [.fz Riii v.2.2.2.2.1], .cells [.int .i64 v.2.2.2.2.2.1, .int .i64 v.2.2.2.2.2.2.1, .int .i64 v.2.2.2.2.2.2.2]]⟩
def field_Check_r12 (C : field_Check_C) (v : field_Check_Y11) : Dt field_Check_Y12 := (Dt.ite (inB v.2.2.1 (List.length v.1)) (Dt.ret (v.2.2.1, v.1, v.2.1, v.2.2.1, v.2.2.2.2, (elt ziii v.1 (v.2.2.1).toNat).1, (elt ziii v.1 (v.2.2.1).toNat).2.1, (elt ziii v.1 (v.2.2.1).toNat).2.2.1)) Dt.fail)
theorem field_Check_g12 (C : field_Check_C) (v : field_Check_Y11) : treg tysT (orc (field_Check_tab C)) 48 (regO (bodyOf f56) 12) false [(1, (.box [.val Riii])), (6, .any), (7, .any), (26, (.val Riii)), (27, .any), (28, .any)] (field_Check_S11 v) some = (field_Check_r12 C v).eval fun y => some (field_Check_S12 y) := by kernel_rfl
abbrev field_Check_Y13 : Type := List Diii × Int × Int × Bool × List Diii
def field_Check_S13 (v : field_Check_Y13) : St := ⟨[(1, .ptr 0 0), (26, .fz Riii v.1), (27, .int .i64 v.2.1), (28, .int .i64 v.2.2.1), (46, .bool v.2.2.2.1)], [.cells [.fz Riii v.2.2.2.2]]⟩
def field_Check_r13 (C : field_Check_C) (v : field_Check_Y12) : Dt field_Check_Y13 := (Dt.ite (decide (v.1 > (0:Int))) (Dt.ite (inB (IntKind.wrap .i64 (v.1 - (1:Int))) (List.length v.2.2.2.2.1)) (Dt.ret (v.2.1, v.2.2.1, v.2.2.2.1, (decide ((elt ziii v.2.2.2.2.1 ((IntKind.wrap .i64 (v.1 - (1:Int)))).toNat).1 ≥ v.2.2.2.2.2.1)), v.2.2.2.2.1)) Dt.fail) (Dt.ret (v.2.1, v.2.2.1, v.2.2.2.1, false, v.2.2.2.2.1)))
theorem field_Check_g13 (C : field_Check_C) (v : field_Check_Y12) : treg tysT (orc (field_Check_tab C)) 48 (regO (bodyOf f56) 13) true [(1, (.box [.val Riii])), (26, (.val Riii)), (27, .any), (28, .any), (46, .any)] (field_Check_S12 v) some = (field_Check_r13 C v).eval fun y => some (field_Check_S13 y) := by kernel_rfl
def field_Check_r14 (C : field_Check_C) (v : field_Check_Y13) : Dt field_Check_Y2 := (Dt.ret (32:Int))
theorem field_Check_g14 (C : field_Check_C) (v : field_Check_Y13) : treg tysT (orc (field_Check_tab C)) 48 (regO (bodyOf f56) 14) false [(2, .any)] (field_Check_S13 v) some = (field_Check_r14 C v).eval fun y => some (field_Check_S2 y) := by kernel_rfl
def field_Check_r15 (C : field_Check_C) (v : field_Check_Y13) : Dt field_Check_Y10 := (Dt.ret (v.1, v.2.1, (IntKind.wrap .i64 (v.2.2.1 + (1:Int))), v.2.2.2.2))
theorem field_Check_g15 (C : field_Check_C) (v : field_Check_Y13) : treg tysT (orc (field_Check_tab C)) 48 (regO (bodyOf f56) 15) false [(1, (.box [.val Riii])), (26, (.val Riii)), (27, .any), (28, .any)] (field_Check_S13 v) some = (field_Check_r15 C v).eval fun y => some (field_Check_S10 y) := by kernel_rfl
def field_Check_r16 (C : field_Check_C) (v : field_Check_Y11) : Dt field_Check_Y2 := (Dt.ret (0:Int))
theorem field_Check_g16 (C : field_Check_C) (v : field_Check_Y11) : treg tysT (orc (field_Check_tab C)) 48 (regO (bodyOf f56) 16) false [(2, .any)] (field_Check_S11 v) some = (field_Check_r16 C v).eval fun y => some (field_Check_S2 y) := by kernel_rfl
def field_Check_L2 (d : Nat) (self2 : (List Diii × Int × Int × List Diii) → Option field_Check_R) (x2 : List Diii × Int × Int × List Diii) : Option field_Check_R :=
  (field_Check_r11 (field_Check_K d) x2).eval fun y11 =>
  bif y11.2.2.2.1 then ((field_Check_r12 (field_Check_K d) y11).eval fun y12 =>
  (field_Check_r13 (field_Check_K d) y12).eval fun y13 =>
  bif y13.2.2.2.1 then ((field_Check_r14 (field_Check_K d) y13).eval fun y14 =>
  some y14) else ((field_Check_r15 (field_Check_K d) y13).eval fun y15 =>
  self2 y15)) else ((field_Check_r16 (field_Check_K d) y11).eval fun y16 =>
  some y16)
def field_Check_L1 (d : Nat) (self1 : (List Diii × Int × Int × List Diii) → Option field_Check_R) (x1 : List Diii × Int × Int × List Diii) : Option field_Check_R :=
  (field_Check_r4 (field_Check_K d) x1).eval fun y4 =>
  bif y4.2.2.2.1 then ((field_Check_r5 (field_Check_K d) y4).eval fun y5 =>
  (field_Check_r6 (field_Check_K d) y5).eval fun y6 =>
  (field_Check_r7 (field_Check_K d) y6).eval fun y7 =>
  bif y7.2.2.2.2.1 then ((field_Check_r8 (field_Check_K d) y7).eval fun y8 =>
  some y8) else ((field_Check_r9 (field_Check_K d) y7).eval fun y9 =>
  self1 y9)) else ((field_Check_r10 (field_Check_K d) y4).eval fun y10 =>
  iter (field_Check_L2 d ) d y10)
def F_field_Check (d : Nat) (x : field_Check_X) : Option field_Check_R :=
  (field_Check_r0 (field_Check_K d) x.1.1).eval fun y0 =>
  (field_Check_r1 (field_Check_K d) y0).eval fun y1 =>
  bif y1.1 then ((field_Check_r2 (field_Check_K d) y1).eval fun y2 =>
  some y2) else ((field_Check_r3 (field_Check_K d) y1).eval fun y3 =>
  iter (field_Check_L1 d ) d y3)
theorem field_Check_cok (d : Nat) : COK prog (field_Check_sp (F_field_Check d)) := by
  have hm : prog.follows .mixedOrders = true := mixed
  have hT := tys
  have hC0 : OrcOK prog (orc (field_Check_tab (field_Check_K d))) := orc_ok (by
    intro S hS
    simp only [field_Check_tab, List.mem_cons, List.not_mem_nil, or_false] at hS
    subst hS; exact course_Check_cok d)
  have hC : OrcOK prog (orc (field_Check_tab (field_Check_K d))) := hC0
  refine cok_of (c := bodyOf f56) (fn := f56) hT (by kernel_rfl) (by kernel_rfl) (by decide) fun x r h w0 φ0 Q hend => ?_
  replace h : F_field_Check d x = some r := h
  unfold F_field_Check at h
  show Run prog w0 φ0 48 (bodyOf f56) ⟨[(0, .agg [.fz Riii x.1.1])], []⟩ Q
  refine run_seq ?_
  refine run_reg hm hT hC (field_Check_g0 (field_Check_K d) x.1.1) h ?_
  intro y0 h
  refine cn_then ?_
  refine run_seq ?_
  refine run_seq ?_
  refine run_reg hm hT hC (field_Check_g1 (field_Check_K d) y0) h ?_
  intro y1 h
  refine cn_then ?_
  refine run_cond (v := y1.1) (by kernel_rfl) h ?_ ?_
  ·
    intro h
    refine run_seq ?_
    refine run_reg hm hT hC (field_Check_g2 (field_Check_K d) y1) h ?_
    intro y2 h
    refine cn_then ?_
    refine run_ret ?_
    refine cn_then_ret ?_
    cases h
    exact (hend _ (by kernel_rfl)).2
  ·
    intro h
    refine run_skip ?_
    refine cn_then ?_
    refine run_seq ?_
    refine run_seq ?_
    refine run_reg hm hT hC (field_Check_g3 (field_Check_K d) y1) h ?_
    intro y3 h
    refine cn_then ?_
    refine run_block ?_
    refine run_loop (G := iter (field_Check_L1 d )) (S := (fun x1 => ⟨[(1, .ptr 0 0), (13, .fz Riii x1.1), (14, .int .i64 x1.2.1), (15, .int .i64 x1.2.2.1)], [.cells [.fz Riii x1.2.2.2]]⟩ : List Diii × Int × Int × List Diii → St)) (fun _ => rfl) ?_ d _ h
    intro n1 x1 h K1 hn1
    replace h : field_Check_L1 d  (iter (field_Check_L1 d ) n1) x1 = some r := h
    generalize iter (field_Check_L1 d ) n1 = self1 at h hn1
    unfold field_Check_L1 at h
    refine run_seq ?_
    refine run_reg hm hT hC (field_Check_g4 (field_Check_K d) x1) h ?_
    intro y4 h
    refine cn_then ?_
    refine run_seq ?_
    refine run_cond (v := y4.2.2.2.1) (by kernel_rfl) h ?_ ?_
    ·
      intro h
      refine run_skip ?_
      refine cn_then ?_
      refine run_seq ?_
      refine run_block ?_
      refine run_seq ?_
      refine run_reg hm hT hC (field_Check_g5 (field_Check_K d) y4) h ?_
      intro y5 h
      refine cn_then ?_
      refine run_seq ?_
      refine run_reg hm hT hC (field_Check_g6 (field_Check_K d) y5) h ?_
      intro y6 h
      refine cn_then ?_
      refine run_seq ?_
      refine run_reg hm hT hC (field_Check_g7 (field_Check_K d) y6) h ?_
      intro y7 h
      refine cn_then ?_
      refine run_cond (v := y7.2.2.2.2.1) (by kernel_rfl) h ?_ ?_
      ·
        intro h
        refine run_seq ?_
        refine run_reg hm hT hC (field_Check_g8 (field_Check_K d) y7) h ?_
        intro y8 h
        refine cn_then ?_
        refine run_ret ?_
        refine cn_blk_ret ?_
        refine cn_then_ret ?_
        refine cn_then_ret ?_
        refine cn_blk_ret ?_
        refine cn_then_ret ?_
        cases h
        exact (hend _ (by kernel_rfl)).2
      ·
        intro h
        refine run_skip ?_
        refine cn_blk ?_
        refine cn_then ?_
        refine run_reg hm hT hC (field_Check_g9 (field_Check_K d) y7) h ?_
        intro y9 h
        exact hn1 _ h
    ·
      intro h
      refine run_exit ?_
      refine cn_then_exit ?_
      refine cn_then_exit ?_
      refine cn_blk_eq ?_
      refine cn_then ?_
      refine run_seq ?_
      refine run_seq ?_
      refine run_reg hm hT hC (field_Check_g10 (field_Check_K d) y4) h ?_
      intro y10 h
      refine cn_then ?_
      refine run_block ?_
      refine run_loop (G := iter (field_Check_L2 d )) (S := (fun x2 => ⟨[(1, .ptr 0 0), (26, .fz Riii x2.1), (27, .int .i64 x2.2.1), (28, .int .i64 x2.2.2.1)], [.cells [.fz Riii x2.2.2.2]]⟩ : List Diii × Int × Int × List Diii → St)) (fun _ => rfl) ?_ d _ h
      intro n2 x2 h K2 hn2
      replace h : field_Check_L2 d  (iter (field_Check_L2 d ) n2) x2 = some r := h
      generalize iter (field_Check_L2 d ) n2 = self2 at h hn2
      unfold field_Check_L2 at h
      refine run_seq ?_
      refine run_reg hm hT hC (field_Check_g11 (field_Check_K d) x2) h ?_
      intro y11 h
      refine cn_then ?_
      refine run_seq ?_
      refine run_cond (v := y11.2.2.2.1) (by kernel_rfl) h ?_ ?_
      ·
        intro h
        refine run_skip ?_
        refine cn_then ?_
        refine run_seq ?_
        refine run_block ?_
        refine run_seq ?_
        refine run_reg hm hT hC (field_Check_g12 (field_Check_K d) y11) h ?_
        intro y12 h
        refine cn_then ?_
        refine run_seq ?_
        refine run_reg hm hT hC (field_Check_g13 (field_Check_K d) y12) h ?_
        intro y13 h
        refine cn_then ?_
        refine run_cond (v := y13.2.2.2.1) (by kernel_rfl) h ?_ ?_
        ·
          intro h
          refine run_seq ?_
          refine run_reg hm hT hC (field_Check_g14 (field_Check_K d) y13) h ?_
          intro y14 h
          refine cn_then ?_
          refine run_ret ?_
          refine cn_blk_ret ?_
          refine cn_then_ret ?_
          refine cn_then_ret ?_
          refine cn_blk_ret ?_
          refine cn_then_ret ?_
          cases h
          exact (hend _ (by kernel_rfl)).2
        ·
          intro h
          refine run_skip ?_
          refine cn_blk ?_
          refine cn_then ?_
          refine run_reg hm hT hC (field_Check_g15 (field_Check_K d) y13) h ?_
          intro y15 h
          exact hn2 _ h
      ·
        intro h
        refine run_exit ?_
        refine cn_then_exit ?_
        refine cn_then_exit ?_
        refine cn_blk_eq ?_
        refine cn_then ?_
        refine run_seq ?_
        refine run_reg hm hT hC (field_Check_g16 (field_Check_K d) y11) h ?_
        intro y16 h
        refine cn_then ?_
        refine run_ret ?_
        cases h
        exact (hend _ (by kernel_rfl)).2
abbrev meet_later_ps : List Pk := [.row Rii true, .row Rii true]
abbrev meet_later_X : Type := Dii × Dii × Unit
abbrev meet_later_R : Type := Int
def meet_later_enc (r : meet_later_R) : LV × List Ob := (.int .i64 r, [])
def meet_later_sp (F : meet_later_X → Option meet_later_R) : Go.Tx.Spec := ⟨57, meet_later_ps, meet_later_R, F, meet_later_enc⟩
abbrev meet_later_C : Type := (ratio_Cmp_X → Option ratio_Cmp_R) × Unit
def meet_later_K (d : Nat) : meet_later_C := (F_ratio_Cmp d, ())
def meet_later_tab (C : meet_later_C) : List Go.Tx.Spec := [ratio_Cmp_sp C.1]
abbrev meet_later_Y0i : Type := Int × Int × Int × Int
def meet_later_S0i (v : meet_later_Y0i) : St := ⟨[(0, .agg [.int .i64 v.1, .int .i64 v.2.1]), (1, .agg [.int .i64 v.2.2.1, .int .i64 v.2.2.2])], []⟩
abbrev meet_later_Y0 : Type := Int × Int × Int × Int
def meet_later_S0 (v : meet_later_Y0) : St := ⟨[(2, .ptr 0 0), (3, .ptr 1 0)], [.cells [.int .i64 v.1, .int .i64 v.2.1], .cells [.int .i64 v.2.2.1, .int .i64 v.2.2.2]]⟩
def meet_later_r0 (C : meet_later_C) (v : meet_later_Y0i) : Dt meet_later_Y0 := (Dt.ret (v.1, v.2.1, v.2.2.1, v.2.2.2))
theorem meet_later_g0 (C : meet_later_C) (v : meet_later_Y0i) : treg tysT (orc (meet_later_tab C)) 14 (regO (bodyOf f57) 0) false [(2, .any), (3, .any)] (meet_later_S0i v) some = (meet_later_r0 C v).eval fun y => some (meet_later_S0 y) := by kernel_rfl
abbrev meet_later_Y1 : Type := Int
def meet_later_S1 (v : meet_later_Y1) : St := ⟨[(5, .int .i64 v)], []⟩
def meet_later_r1 (C : meet_later_C) (v : meet_later_Y0) : Dt meet_later_Y1 := (Dt.bnd (C.1 ((v.1, v.2.1, ()), (v.2.2.1, v.2.2.2, ()), ())) fun r1 => (Dt.ret r1.1))
theorem meet_later_g1 (C : meet_later_C) (v : meet_later_Y0) : treg tysT (orc (meet_later_tab C)) 14 (regO (bodyOf f57) 1) false [(5, .any)] (meet_later_S0 v) some = (meet_later_r1 C v).eval fun y => some (meet_later_S1 y) := by kernel_rfl
abbrev meet_later_Y2 : Type := Int
def meet_later_S2 (v : meet_later_Y2) : St := ⟨[(4, .int .i64 v)], []⟩
def meet_later_r2 (C : meet_later_C) (v : meet_later_Y1) : Dt meet_later_Y2 := (Dt.ret v)
theorem meet_later_g2 (C : meet_later_C) (v : meet_later_Y1) : treg tysT (orc (meet_later_tab C)) 14 (regO (bodyOf f57) 2) false [(4, .any)] (meet_later_S1 v) some = (meet_later_r2 C v).eval fun y => some (meet_later_S2 y) := by kernel_rfl
def F_meet_later (d : Nat) (x : meet_later_X) : Option meet_later_R :=
  (meet_later_r0 (meet_later_K d) (x.1.1, x.1.2.1, x.2.1.1, x.2.1.2.1)).eval fun y0 =>
  (meet_later_r1 (meet_later_K d) y0).eval fun y1 =>
  (meet_later_r2 (meet_later_K d) y1).eval fun y2 =>
  some y2
theorem meet_later_cok (d : Nat) : COK prog (meet_later_sp (F_meet_later d)) := by
  have hm : prog.follows .mixedOrders = true := mixed
  have hT := tys
  have hC0 : OrcOK prog (orc (meet_later_tab (meet_later_K d))) := orc_ok (by
    intro S hS
    simp only [meet_later_tab, List.mem_cons, List.not_mem_nil, or_false] at hS
    subst hS; exact ratio_Cmp_cok d)
  have hC : OrcOK prog (orc (meet_later_tab (meet_later_K d))) := hC0
  refine cok_of (c := bodyOf f57) (fn := f57) hT (by kernel_rfl) (by kernel_rfl) (by decide) fun x r h w0 φ0 Q hend => ?_
  replace h : F_meet_later d x = some r := h
  unfold F_meet_later at h
  show Run prog w0 φ0 14 (bodyOf f57) ⟨[(0, .agg [.int .i64 x.1.1, .int .i64 x.1.2.1]), (1, .agg [.int .i64 x.2.1.1, .int .i64 x.2.1.2.1])], []⟩ Q
  refine run_seq ?_
  refine run_reg hm hT hC (meet_later_g0 (meet_later_K d) (x.1.1, x.1.2.1, x.2.1.1, x.2.1.2.1)) h ?_
  intro y0 h
  refine cn_then ?_
  refine run_seq ?_
  refine run_reg hm hT hC (meet_later_g1 (meet_later_K d) y0) h ?_
  intro y1 h
  refine cn_then ?_
  refine run_seq ?_
  refine run_reg hm hT hC (meet_later_g2 (meet_later_K d) y1) h ?_
  intro y2 h
  refine cn_then ?_
  refine run_ret ?_
  cases h
  exact (hend _ (by kernel_rfl)).2
abbrev meet_check_ps : List Pk := [.row RLiiiE true, .row RLiiE false]
abbrev meet_check_X : Type := DLiiiE × DLiiE × Unit
abbrev meet_check_R : Type := Int
def meet_check_enc (r : meet_check_R) : LV × List Ob := (.int .i64 r, [])
def meet_check_sp (F : meet_check_X → Option meet_check_R) : Go.Tx.Spec := ⟨34, meet_check_ps, meet_check_R, F, meet_check_enc⟩
abbrev meet_check_C : Type := (ratio_Check_X → Option ratio_Check_R) × (field_Check_X → Option field_Check_R) × (meet_later_X → Option meet_later_R) × Unit
def meet_check_K (d : Nat) : meet_check_C := (F_ratio_Check d, F_field_Check d, F_meet_later d, ())
def meet_check_tab (C : meet_check_C) : List Go.Tx.Spec := [ratio_Check_sp C.1, field_Check_sp C.2.1, meet_later_sp C.2.2.1]
abbrev meet_check_Y0i : Type := List Diii × List Dii
def meet_check_S0i (v : meet_check_Y0i) : St := ⟨[(0, .agg [.fz Riii v.1]), (1, .fz Rii v.2)], []⟩
abbrev meet_check_Y0 : Type := List Dii × List Diii
def meet_check_S0 (v : meet_check_Y0) : St := ⟨[(1, .fz Rii v.1), (2, .ptr 0 0)], [.cells [.fz Riii v.2]]⟩
def meet_check_r0 (C : meet_check_C) (v : meet_check_Y0i) : Dt meet_check_Y0 := (Dt.ret (v.2, v.1))
theorem meet_check_g0 (C : meet_check_C) (v : meet_check_Y0i) : treg tysT (orc (meet_check_tab C)) 39 (regO (bodyOf f34) 0) false [(1, (.val Rii)), (2, (.box [.val Riii]))] (meet_check_S0i v) some = (meet_check_r0 C v).eval fun y => some (meet_check_S0 y) := by kernel_rfl
abbrev meet_check_Y1 : Type := List Dii × Int
def meet_check_S1 (v : meet_check_Y1) : St := ⟨[(1, .fz Rii v.1), (5, .int .i64 v.2)], []⟩
def meet_check_r1 (C : meet_check_C) (v : meet_check_Y0) : Dt meet_check_Y1 := (Dt.bnd (C.2.1 ((v.2, ()), ())) fun r1 => (Dt.ret (v.1, r1)))
theorem meet_check_g1 (C : meet_check_C) (v : meet_check_Y0) : treg tysT (orc (meet_check_tab C)) 39 (regO (bodyOf f34) 1) false [(1, (.val Rii)), (5, .any)] (meet_check_S0 v) some = (meet_check_r1 C v).eval fun y => some (meet_check_S1 y) := by kernel_rfl
abbrev meet_check_Y2 : Type := List Dii × Int × Bool
def meet_check_S2 (v : meet_check_Y2) : St := ⟨[(1, .fz Rii v.1), (5, .int .i64 v.2.1), (12, .bool v.2.2)], []⟩
def meet_check_r2 (C : meet_check_C) (v : meet_check_Y1) : Dt meet_check_Y2 := (Dt.ret (v.1, v.2, (v.2 != (0:Int))))
theorem meet_check_g2 (C : meet_check_C) (v : meet_check_Y1) : treg tysT (orc (meet_check_tab C)) 39 (regO (bodyOf f34) 2) false [(1, (.val Rii)), (5, .any), (12, .any)] (meet_check_S1 v) some = (meet_check_r2 C v).eval fun y => some (meet_check_S2 y) := by kernel_rfl
abbrev meet_check_Y3 : Type := Int
def meet_check_S3 (v : meet_check_Y3) : St := ⟨[(4, .int .i64 v)], []⟩
def meet_check_r3 (C : meet_check_C) (v : meet_check_Y2) : Dt meet_check_Y3 := (Dt.ret v.2.1)
theorem meet_check_g3 (C : meet_check_C) (v : meet_check_Y2) : treg tysT (orc (meet_check_tab C)) 39 (regO (bodyOf f34) 3) false [(4, .any)] (meet_check_S2 v) some = (meet_check_r3 C v).eval fun y => some (meet_check_S3 y) := by kernel_rfl
abbrev meet_check_Y4 : Type := List Dii × List Dii × Int × Int
def meet_check_S4 (v : meet_check_Y4) : St := ⟨[(1, .fz Rii v.1), (14, .fz Rii v.2.1), (15, .int .i64 v.2.2.1), (16, .int .i64 v.2.2.2)], []⟩
def meet_check_r4 (C : meet_check_C) (v : meet_check_Y2) : Dt meet_check_Y4 := (Dt.ret (v.1, v.1, (List.length v.1 : Int), (0:Int)))
theorem meet_check_g4 (C : meet_check_C) (v : meet_check_Y2) : treg tysT (orc (meet_check_tab C)) 39 (regO (bodyOf f34) 4) false [(1, (.val Rii)), (14, (.val Rii)), (15, .any), (16, .any)] (meet_check_S2 v) some = (meet_check_r4 C v).eval fun y => some (meet_check_S4 y) := by kernel_rfl
abbrev meet_check_Y5 : Type := List Dii × List Dii × Int × Int × Bool
def meet_check_S5 (v : meet_check_Y5) : St := ⟨[(1, .fz Rii v.1), (14, .fz Rii v.2.1), (15, .int .i64 v.2.2.1), (16, .int .i64 v.2.2.2.1), (17, .bool v.2.2.2.2)], []⟩
def meet_check_r5 (C : meet_check_C) (v : meet_check_Y4) : Dt meet_check_Y5 := (Dt.ret (v.1, v.2.1, v.2.2.1, v.2.2.2, (decide (v.2.2.2 < v.2.2.1))))
theorem meet_check_g5 (C : meet_check_C) (v : meet_check_Y4) : treg tysT (orc (meet_check_tab C)) 39 (regO (bodyOf f34) 5) false [(1, (.val Rii)), (14, (.val Rii)), (15, .any), (16, .any), (17, .any)] (meet_check_S4 v) some = (meet_check_r5 C v).eval fun y => some (meet_check_S5 y) := by kernel_rfl
abbrev meet_check_Y6 : Type := List Dii × List Dii × Int × Int × Int × Int
def meet_check_S6 (v : meet_check_Y6) : St := ⟨[(1, .fz Rii v.1), (7, .ptr 0 0), (14, .fz Rii v.2.1), (15, .int .i64 v.2.2.1), (16, .int .i64 v.2.2.2.1)], [.cells [.int .i64 v.2.2.2.2.1, .int .i64 v.2.2.2.2.2]]⟩
def meet_check_r6 (C : meet_check_C) (v : meet_check_Y5) : Dt meet_check_Y6 := (Dt.ite (inB v.2.2.2.1 (List.length v.2.1)) (Dt.ret (v.1, v.2.1, v.2.2.1, v.2.2.2.1, (elt zii v.2.1 (v.2.2.2.1).toNat).1, (elt zii v.2.1 (v.2.2.2.1).toNat).2.1)) Dt.fail)
theorem meet_check_g6 (C : meet_check_C) (v : meet_check_Y5) : treg tysT (orc (meet_check_tab C)) 39 (regO (bodyOf f34) 6) false [(1, (.val Rii)), (7, .any), (14, (.val Rii)), (15, .any), (16, .any)] (meet_check_S5 v) some = (meet_check_r6 C v).eval fun y => some (meet_check_S6 y) := by kernel_rfl
abbrev meet_check_Y7 : Type := List Dii × Int × List Dii × Int × Int
def meet_check_S7 (v : meet_check_Y7) : St := ⟨[(1, .fz Rii v.1), (8, .int .i64 v.2.1), (14, .fz Rii v.2.2.1), (15, .int .i64 v.2.2.2.1), (16, .int .i64 v.2.2.2.2)], []⟩
def meet_check_r7 (C : meet_check_C) (v : meet_check_Y6) : Dt meet_check_Y7 := (Dt.bnd (C.1 ((v.2.2.2.2.1, v.2.2.2.2.2, ()), ())) fun r1 => (Dt.ret (v.1, r1, v.2.1, v.2.2.1, v.2.2.2.1)))
theorem meet_check_g7 (C : meet_check_C) (v : meet_check_Y6) : treg tysT (orc (meet_check_tab C)) 39 (regO (bodyOf f34) 7) false [(1, (.val Rii)), (8, .any), (14, (.val Rii)), (15, .any), (16, .any)] (meet_check_S6 v) some = (meet_check_r7 C v).eval fun y => some (meet_check_S7 y) := by kernel_rfl
abbrev meet_check_Y8 : Type := List Dii × Int × List Dii × Int × Int × Bool
def meet_check_S8 (v : meet_check_Y8) : St := ⟨[(1, .fz Rii v.1), (8, .int .i64 v.2.1), (14, .fz Rii v.2.2.1), (15, .int .i64 v.2.2.2.1), (16, .int .i64 v.2.2.2.2.1), (23, .bool v.2.2.2.2.2)], []⟩
def meet_check_r8 (C : meet_check_C) (v : meet_check_Y7) : Dt meet_check_Y8 := (Dt.ret (v.1, v.2.1, v.2.2.1, v.2.2.2.1, v.2.2.2.2, (v.2.1 != (0:Int))))
theorem meet_check_g8 (C : meet_check_C) (v : meet_check_Y7) : treg tysT (orc (meet_check_tab C)) 39 (regO (bodyOf f34) 8) false [(1, (.val Rii)), (8, .any), (14, (.val Rii)), (15, .any), (16, .any), (23, .any)] (meet_check_S7 v) some = (meet_check_r8 C v).eval fun y => some (meet_check_S8 y) := by kernel_rfl
def meet_check_r9 (C : meet_check_C) (v : meet_check_Y8) : Dt meet_check_Y3 := (Dt.ret v.2.1)
theorem meet_check_g9 (C : meet_check_C) (v : meet_check_Y8) : treg tysT (orc (meet_check_tab C)) 39 (regO (bodyOf f34) 9) false [(4, .any)] (meet_check_S8 v) some = (meet_check_r9 C v).eval fun y => some (meet_check_S3 y) := by kernel_rfl
def meet_check_r10 (C : meet_check_C) (v : meet_check_Y8) : Dt meet_check_Y4 := (Dt.ret (v.1, v.2.2.1, v.2.2.2.1, (IntKind.wrap .i64 (v.2.2.2.2.1 + (1:Int)))))
theorem meet_check_g10 (C : meet_check_C) (v : meet_check_Y8) : treg tysT (orc (meet_check_tab C)) 39 (regO (bodyOf f34) 10) false [(1, (.val Rii)), (14, (.val Rii)), (15, .any), (16, .any)] (meet_check_S8 v) some = (meet_check_r10 C v).eval fun y => some (meet_check_S4 y) := by kernel_rfl
abbrev meet_check_Y11 : Type := Bool
def meet_check_S11 (v : meet_check_Y11) : St := ⟨[(38, .bool v)], []⟩
def meet_check_r11 (C : meet_check_C) (v : meet_check_Y5) : Dt meet_check_Y11 := (Dt.ite ((List.length v.1 : Int) == (2:Int)) (Dt.ite (inB (0:Int) (List.length v.1)) (Dt.ite (inB (1:Int) (List.length v.1)) (Dt.bnd (C.2.2.1 (((elt zii v.1 ((0:Int)).toNat).1, (elt zii v.1 ((0:Int)).toNat).2.1, ()), ((elt zii v.1 ((1:Int)).toNat).1, (elt zii v.1 ((1:Int)).toNat).2.1, ()), ())) fun r1 => (Dt.ret (decide (r1 > (0:Int))))) Dt.fail) Dt.fail) (Dt.ret false))
theorem meet_check_g11 (C : meet_check_C) (v : meet_check_Y5) : treg tysT (orc (meet_check_tab C)) 39 (regO (bodyOf f34) 11) true [(38, .any)] (meet_check_S5 v) some = (meet_check_r11 C v).eval fun y => some (meet_check_S11 y) := by kernel_rfl
def meet_check_r12 (C : meet_check_C) (v : meet_check_Y11) : Dt meet_check_Y3 := (Dt.ret (2:Int))
theorem meet_check_g12 (C : meet_check_C) (v : meet_check_Y11) : treg tysT (orc (meet_check_tab C)) 39 (regO (bodyOf f34) 12) false [(4, .any)] (meet_check_S11 v) some = (meet_check_r12 C v).eval fun y => some (meet_check_S3 y) := by kernel_rfl
def meet_check_r13 (C : meet_check_C) (v : meet_check_Y11) : Dt meet_check_Y3 := (Dt.ret (0:Int))
theorem meet_check_g13 (C : meet_check_C) (v : meet_check_Y11) : treg tysT (orc (meet_check_tab C)) 39 (regO (bodyOf f34) 13) false [(4, .any)] (meet_check_S11 v) some = (meet_check_r13 C v).eval fun y => some (meet_check_S3 y) := by kernel_rfl
def meet_check_L1 (d : Nat) (self1 : (List Dii × List Dii × Int × Int) → Option meet_check_R) (x1 : List Dii × List Dii × Int × Int) : Option meet_check_R :=
  (meet_check_r5 (meet_check_K d) x1).eval fun y5 =>
  bif y5.2.2.2.2 then ((meet_check_r6 (meet_check_K d) y5).eval fun y6 =>
  (meet_check_r7 (meet_check_K d) y6).eval fun y7 =>
  (meet_check_r8 (meet_check_K d) y7).eval fun y8 =>
  bif y8.2.2.2.2.2 then ((meet_check_r9 (meet_check_K d) y8).eval fun y9 =>
  some y9) else ((meet_check_r10 (meet_check_K d) y8).eval fun y10 =>
  self1 y10)) else ((meet_check_r11 (meet_check_K d) y5).eval fun y11 =>
  bif y11 then ((meet_check_r12 (meet_check_K d) y11).eval fun y12 =>
  some y12) else ((meet_check_r13 (meet_check_K d) y11).eval fun y13 =>
  some y13))
def F_meet_check (d : Nat) (x : meet_check_X) : Option meet_check_R :=
  (meet_check_r0 (meet_check_K d) (x.1.1, x.2.1.1)).eval fun y0 =>
  (meet_check_r1 (meet_check_K d) y0).eval fun y1 =>
  (meet_check_r2 (meet_check_K d) y1).eval fun y2 =>
  bif y2.2.2 then ((meet_check_r3 (meet_check_K d) y2).eval fun y3 =>
  some y3) else ((meet_check_r4 (meet_check_K d) y2).eval fun y4 =>
  iter (meet_check_L1 d ) d y4)
theorem meet_check_cok (d : Nat) : COK prog (meet_check_sp (F_meet_check d)) := by
  have hm : prog.follows .mixedOrders = true := mixed
  have hT := tys
  have hC0 : OrcOK prog (orc (meet_check_tab (meet_check_K d))) := orc_ok (by
    intro S hS
    simp only [meet_check_tab, List.mem_cons, List.not_mem_nil, or_false] at hS
    rcases hS with rfl | rfl | rfl
    · exact ratio_Check_cok d
    · exact field_Check_cok d
    · exact meet_later_cok d)
  have hC : OrcOK prog (orc (meet_check_tab (meet_check_K d))) := hC0
  refine cok_of (c := bodyOf f34) (fn := f34) hT (by kernel_rfl) (by kernel_rfl) (by decide) fun x r h w0 φ0 Q hend => ?_
  replace h : F_meet_check d x = some r := h
  unfold F_meet_check at h
  show Run prog w0 φ0 39 (bodyOf f34) ⟨[(0, .agg [.fz Riii x.1.1]), (1, .fz Rii x.2.1.1)], []⟩ Q
  refine run_seq ?_
  refine run_reg hm hT hC (meet_check_g0 (meet_check_K d) (x.1.1, x.2.1.1)) h ?_
  intro y0 h
  refine cn_then ?_
  refine run_seq ?_
  refine run_seq ?_
  refine run_reg hm hT hC (meet_check_g1 (meet_check_K d) y0) h ?_
  intro y1 h
  refine cn_then ?_
  refine run_seq ?_
  refine run_reg hm hT hC (meet_check_g2 (meet_check_K d) y1) h ?_
  intro y2 h
  refine cn_then ?_
  refine run_cond (v := y2.2.2) (by kernel_rfl) h ?_ ?_
  ·
    intro h
    refine run_seq ?_
    refine run_reg hm hT hC (meet_check_g3 (meet_check_K d) y2) h ?_
    intro y3 h
    refine cn_then ?_
    refine run_ret ?_
    refine cn_then_ret ?_
    cases h
    exact (hend _ (by kernel_rfl)).2
  ·
    intro h
    refine run_skip ?_
    refine cn_then ?_
    refine run_seq ?_
    refine run_seq ?_
    refine run_reg hm hT hC (meet_check_g4 (meet_check_K d) y2) h ?_
    intro y4 h
    refine cn_then ?_
    refine run_block ?_
    refine run_loop (G := iter (meet_check_L1 d )) (S := (fun x1 => ⟨[(1, .fz Rii x1.1), (14, .fz Rii x1.2.1), (15, .int .i64 x1.2.2.1), (16, .int .i64 x1.2.2.2)], []⟩ : List Dii × List Dii × Int × Int → St)) (fun _ => rfl) ?_ d _ h
    intro n1 x1 h K1 hn1
    replace h : meet_check_L1 d  (iter (meet_check_L1 d ) n1) x1 = some r := h
    generalize iter (meet_check_L1 d ) n1 = self1 at h hn1
    unfold meet_check_L1 at h
    refine run_seq ?_
    refine run_reg hm hT hC (meet_check_g5 (meet_check_K d) x1) h ?_
    intro y5 h
    refine cn_then ?_
    refine run_seq ?_
    refine run_cond (v := y5.2.2.2.2) (by kernel_rfl) h ?_ ?_
    ·
      intro h
      refine run_skip ?_
      refine cn_then ?_
      refine run_seq ?_
      refine run_block ?_
      refine run_seq ?_
      refine run_reg hm hT hC (meet_check_g6 (meet_check_K d) y5) h ?_
      intro y6 h
      refine cn_then ?_
      refine run_seq ?_
      refine run_reg hm hT hC (meet_check_g7 (meet_check_K d) y6) h ?_
      intro y7 h
      refine cn_then ?_
      refine run_seq ?_
      refine run_reg hm hT hC (meet_check_g8 (meet_check_K d) y7) h ?_
      intro y8 h
      refine cn_then ?_
      refine run_cond (v := y8.2.2.2.2.2) (by kernel_rfl) h ?_ ?_
      ·
        intro h
        refine run_seq ?_
        refine run_reg hm hT hC (meet_check_g9 (meet_check_K d) y8) h ?_
        intro y9 h
        refine cn_then ?_
        refine run_ret ?_
        refine cn_blk_ret ?_
        refine cn_then_ret ?_
        refine cn_then_ret ?_
        refine cn_blk_ret ?_
        refine cn_then_ret ?_
        cases h
        exact (hend _ (by kernel_rfl)).2
      ·
        intro h
        refine run_skip ?_
        refine cn_blk ?_
        refine cn_then ?_
        refine run_reg hm hT hC (meet_check_g10 (meet_check_K d) y8) h ?_
        intro y10 h
        exact hn1 _ h
    ·
      intro h
      refine run_exit ?_
      refine cn_then_exit ?_
      refine cn_then_exit ?_
      refine cn_blk_eq ?_
      refine cn_then ?_
      refine run_seq ?_
      refine run_seq ?_
      refine run_reg hm hT hC (meet_check_g11 (meet_check_K d) y5) h ?_
      intro y11 h
      refine cn_then ?_
      refine run_cond (v := y11) (by kernel_rfl) h ?_ ?_
      ·
        intro h
        refine run_seq ?_
        refine run_reg hm hT hC (meet_check_g12 (meet_check_K d) y11) h ?_
        intro y12 h
        refine cn_then ?_
        refine run_ret ?_
        refine cn_then_ret ?_
        cases h
        exact (hend _ (by kernel_rfl)).2
      ·
        intro h
        refine run_skip ?_
        refine cn_then ?_
        refine run_seq ?_
        refine run_reg hm hT hC (meet_check_g13 (meet_check_K d) y11) h ?_
        intro y13 h
        refine cn_then ?_
        refine run_ret ?_
        cases h
        exact (hend _ (by kernel_rfl)).2
abbrev meet_pairs_ps : List Pk := [.row RLiiiE true]
abbrev meet_pairs_X : Type := DLiiiE × Unit
abbrev meet_pairs_R : Type := List Diii
def meet_pairs_enc (r : meet_pairs_R) : LV × List Ob := (.fn 67 [.ptr 0 0], [.cells [.fz Riii r]])
def meet_pairs_sp (F : meet_pairs_X → Option meet_pairs_R) : Go.Tx.Spec := ⟨46, meet_pairs_ps, meet_pairs_R, F, meet_pairs_enc⟩
abbrev meet_pairs_C : Type := Unit
def meet_pairs_K (_d : Nat) : meet_pairs_C := ()
def meet_pairs_tab (C : meet_pairs_C) : List Go.Tx.Spec := []
abbrev meet_pairs_Y0i : Type := List Diii
def meet_pairs_S0i (v : meet_pairs_Y0i) : St := ⟨[(0, .agg [.fz Riii v])], []⟩
abbrev meet_pairs_Y0 : Type := List Diii
def meet_pairs_S0 (v : meet_pairs_Y0) : St := ⟨[(1, .ptr 0 0)], [.cells [.fz Riii v]]⟩
def meet_pairs_r0 (C : meet_pairs_C) (v : meet_pairs_Y0i) : Dt meet_pairs_Y0 := (Dt.ret v)
theorem meet_pairs_g0 (C : meet_pairs_C) (v : meet_pairs_Y0i) : treg tysT (orc (meet_pairs_tab C)) 4 (regO (bodyOf f46) 0) false [(1, (.box [.val Riii]))] (meet_pairs_S0i v) some = (meet_pairs_r0 C v).eval fun y => some (meet_pairs_S0 y) := by kernel_rfl
abbrev meet_pairs_Y1 : Type := List Diii
def meet_pairs_S1 (v : meet_pairs_Y1) : St := ⟨[(2, .fn 67 [.ptr 0 0])], [.cells [.fz Riii v]]⟩
def meet_pairs_r1 (C : meet_pairs_C) (v : meet_pairs_Y0) : Dt meet_pairs_Y1 := (Dt.ret v)
theorem meet_pairs_g1 (C : meet_pairs_C) (v : meet_pairs_Y0) : treg tysT (orc (meet_pairs_tab C)) 4 (regO (bodyOf f46) 1) false [(2, .any)] (meet_pairs_S0 v) some = (meet_pairs_r1 C v).eval fun y => some (meet_pairs_S1 y) := by kernel_rfl
def F_meet_pairs (d : Nat) (x : meet_pairs_X) : Option meet_pairs_R :=
  (meet_pairs_r0 (meet_pairs_K d) x.1.1).eval fun y0 =>
  (meet_pairs_r1 (meet_pairs_K d) y0).eval fun y1 =>
  some y1
theorem meet_pairs_cok (d : Nat) : COK prog (meet_pairs_sp (F_meet_pairs d)) := by
  have hm : prog.follows .mixedOrders = true := mixed
  have hT := tys
  have hC0 : OrcOK prog (orc (meet_pairs_tab (meet_pairs_K d))) := orc_ok (by
    intro S hS
    simp only [meet_pairs_tab, List.mem_cons, List.not_mem_nil, or_false] at hS
    all_goals first | cases hS | exact hS.elim)
  have hC : OrcOK prog (orc (meet_pairs_tab (meet_pairs_K d))) := hC0
  refine cok_of (c := bodyOf f46) (fn := f46) hT (by kernel_rfl) (by kernel_rfl) (by decide) fun x r h w0 φ0 Q hend => ?_
  replace h : F_meet_pairs d x = some r := h
  unfold F_meet_pairs at h
  show Run prog w0 φ0 4 (bodyOf f46) ⟨[(0, .agg [.fz Riii x.1.1])], []⟩ Q
  refine run_seq ?_
  refine run_reg hm hT hC (meet_pairs_g0 (meet_pairs_K d) x.1.1) h ?_
  intro y0 h
  refine cn_then ?_
  refine run_seq ?_
  refine run_reg hm hT hC (meet_pairs_g1 (meet_pairs_K d) y0) h ?_
  intro y1 h
  refine cn_then ?_
  refine run_ret ?_
  cases h
  exact (hend _ (by kernel_rfl)).2
abbrev cmp_isNaN_int_ps : List Pk := [.row Ri false]
abbrev cmp_isNaN_int_X : Type := Di × Unit
abbrev cmp_isNaN_int_R : Type := Bool
def cmp_isNaN_int_enc (r : cmp_isNaN_int_R) : LV × List Ob := (.bool r, [])
def cmp_isNaN_int_sp (F : cmp_isNaN_int_X → Option cmp_isNaN_int_R) : Go.Tx.Spec := ⟨86, cmp_isNaN_int_ps, cmp_isNaN_int_R, F, cmp_isNaN_int_enc⟩
abbrev cmp_isNaN_int_C : Type := Unit
def cmp_isNaN_int_K (_d : Nat) : cmp_isNaN_int_C := ()
def cmp_isNaN_int_tab (C : cmp_isNaN_int_C) : List Go.Tx.Spec := []
abbrev cmp_isNaN_int_Y0i : Type := Int
def cmp_isNaN_int_S0i (v : cmp_isNaN_int_Y0i) : St := ⟨[(0, .int .i64 v)], []⟩
def cmp_isNaN_int_r0 (C : cmp_isNaN_int_C) (v : cmp_isNaN_int_Y0i) : Dt cmp_isNaN_int_Y0i := (Dt.ret v)
theorem cmp_isNaN_int_g0 (C : cmp_isNaN_int_C) (v : cmp_isNaN_int_Y0i) : treg tysT (orc (cmp_isNaN_int_tab C)) 6 (regO (bodyOf f86) 0) false [(0, .any)] (cmp_isNaN_int_S0i v) some = (cmp_isNaN_int_r0 C v).eval fun y => some (cmp_isNaN_int_S0i y) := by kernel_rfl
abbrev cmp_isNaN_int_Y1 : Type := Bool
def cmp_isNaN_int_S1 (v : cmp_isNaN_int_Y1) : St := ⟨[(2, .bool v)], []⟩
def cmp_isNaN_int_r1 (C : cmp_isNaN_int_C) (v : cmp_isNaN_int_Y0i) : Dt cmp_isNaN_int_Y1 := (Dt.ret (v != v))
theorem cmp_isNaN_int_g1 (C : cmp_isNaN_int_C) (v : cmp_isNaN_int_Y0i) : treg tysT (orc (cmp_isNaN_int_tab C)) 6 (regO (bodyOf f86) 1) false [(2, .any)] (cmp_isNaN_int_S0i v) some = (cmp_isNaN_int_r1 C v).eval fun y => some (cmp_isNaN_int_S1 y) := by kernel_rfl
def F_cmp_isNaN_int (d : Nat) (x : cmp_isNaN_int_X) : Option cmp_isNaN_int_R :=
  (cmp_isNaN_int_r0 (cmp_isNaN_int_K d) x.1.1).eval fun y0 =>
  (cmp_isNaN_int_r1 (cmp_isNaN_int_K d) y0).eval fun y1 =>
  some y1
theorem cmp_isNaN_int_cok (d : Nat) : COK prog (cmp_isNaN_int_sp (F_cmp_isNaN_int d)) := by
  have hm : prog.follows .mixedOrders = true := mixed
  have hT := tys
  have hC0 : OrcOK prog (orc (cmp_isNaN_int_tab (cmp_isNaN_int_K d))) := orc_ok (by
    intro S hS
    simp only [cmp_isNaN_int_tab, List.mem_cons, List.not_mem_nil, or_false] at hS
    all_goals first | cases hS | exact hS.elim)
  have hC : OrcOK prog (orc (cmp_isNaN_int_tab (cmp_isNaN_int_K d))) := hC0
  refine cok_of (c := bodyOf f86) (fn := f86) hT (by kernel_rfl) (by kernel_rfl) (by decide) fun x r h w0 φ0 Q hend => ?_
  replace h : F_cmp_isNaN_int d x = some r := h
  unfold F_cmp_isNaN_int at h
  show Run prog w0 φ0 6 (bodyOf f86) ⟨[(0, .int .i64 x.1.1)], []⟩ Q
  refine run_seq ?_
  refine run_reg hm hT hC (cmp_isNaN_int_g0 (cmp_isNaN_int_K d) x.1.1) h ?_
  intro y0 h
  refine cn_then ?_
  refine run_seq ?_
  refine run_reg hm hT hC (cmp_isNaN_int_g1 (cmp_isNaN_int_K d) y0) h ?_
  intro y1 h
  refine cn_then ?_
  refine run_ret ?_
  cases h
  exact (hend _ (by kernel_rfl)).2
abbrev cmp_Compare_int_ps : List Pk := [.row Ri false, .row Ri false]
abbrev cmp_Compare_int_X : Type := Di × Di × Unit
abbrev cmp_Compare_int_R : Type := Int
def cmp_Compare_int_enc (r : cmp_Compare_int_R) : LV × List Ob := (.int .i64 r, [])
def cmp_Compare_int_sp (F : cmp_Compare_int_X → Option cmp_Compare_int_R) : Go.Tx.Spec := ⟨77, cmp_Compare_int_ps, cmp_Compare_int_R, F, cmp_Compare_int_enc⟩
abbrev cmp_Compare_int_C : Type := (cmp_isNaN_int_X → Option cmp_isNaN_int_R) × Unit
def cmp_Compare_int_K (d : Nat) : cmp_Compare_int_C := (F_cmp_isNaN_int d, ())
def cmp_Compare_int_tab (C : cmp_Compare_int_C) : List Go.Tx.Spec := [cmp_isNaN_int_sp C.1]
abbrev cmp_Compare_int_Y0i : Type := Int × Int
def cmp_Compare_int_S0i (v : cmp_Compare_int_Y0i) : St := ⟨[(0, .int .i64 v.1), (1, .int .i64 v.2)], []⟩
def cmp_Compare_int_r0 (C : cmp_Compare_int_C) (v : cmp_Compare_int_Y0i) : Dt cmp_Compare_int_Y0i := (Dt.ret (v.1, v.2))
theorem cmp_Compare_int_g0 (C : cmp_Compare_int_C) (v : cmp_Compare_int_Y0i) : treg tysT (orc (cmp_Compare_int_tab C)) 20 (regO (bodyOf f77) 0) false [(0, .any), (1, .any)] (cmp_Compare_int_S0i v) some = (cmp_Compare_int_r0 C v).eval fun y => some (cmp_Compare_int_S0i y) := by kernel_rfl
abbrev cmp_Compare_int_Y1 : Type := Int × Int × Bool
def cmp_Compare_int_S1 (v : cmp_Compare_int_Y1) : St := ⟨[(0, .int .i64 v.1), (1, .int .i64 v.2.1), (5, .bool v.2.2)], []⟩
def cmp_Compare_int_r1 (C : cmp_Compare_int_C) (v : cmp_Compare_int_Y0i) : Dt cmp_Compare_int_Y1 := (Dt.bnd (C.1 ((v.1, ()), ())) fun r1 => (Dt.ret (v.1, v.2, r1)))
theorem cmp_Compare_int_g1 (C : cmp_Compare_int_C) (v : cmp_Compare_int_Y0i) : treg tysT (orc (cmp_Compare_int_tab C)) 20 (regO (bodyOf f77) 1) false [(0, .any), (1, .any), (5, .any)] (cmp_Compare_int_S0i v) some = (cmp_Compare_int_r1 C v).eval fun y => some (cmp_Compare_int_S1 y) := by kernel_rfl
abbrev cmp_Compare_int_Y2 : Type := Int × Int × Bool × Bool
def cmp_Compare_int_S2 (v : cmp_Compare_int_Y2) : St := ⟨[(0, .int .i64 v.1), (1, .int .i64 v.2.1), (5, .bool v.2.2.1), (6, .bool v.2.2.2)], []⟩
def cmp_Compare_int_r2 (C : cmp_Compare_int_C) (v : cmp_Compare_int_Y1) : Dt cmp_Compare_int_Y2 := (Dt.bnd (C.1 ((v.2.1, ()), ())) fun r1 => (Dt.ret (v.1, v.2.1, v.2.2, r1)))
theorem cmp_Compare_int_g2 (C : cmp_Compare_int_C) (v : cmp_Compare_int_Y1) : treg tysT (orc (cmp_Compare_int_tab C)) 20 (regO (bodyOf f77) 2) false [(0, .any), (1, .any), (5, .any), (6, .any)] (cmp_Compare_int_S1 v) some = (cmp_Compare_int_r2 C v).eval fun y => some (cmp_Compare_int_S2 y) := by kernel_rfl
abbrev cmp_Compare_int_Y3 : Type := Int × Int × Bool × Bool
def cmp_Compare_int_S3 (v : cmp_Compare_int_Y3) : St := ⟨[(0, .int .i64 v.1), (1, .int .i64 v.2.1), (6, .bool v.2.2.1), (11, .bool v.2.2.2)], []⟩
def cmp_Compare_int_r3 (C : cmp_Compare_int_C) (v : cmp_Compare_int_Y2) : Dt cmp_Compare_int_Y3 := (Dt.ret (v.1, v.2.1, v.2.2.2, v.2.2.1))
theorem cmp_Compare_int_g3 (C : cmp_Compare_int_C) (v : cmp_Compare_int_Y2) : treg tysT (orc (cmp_Compare_int_tab C)) 20 (regO (bodyOf f77) 3) false [(0, .any), (1, .any), (6, .any), (11, .any)] (cmp_Compare_int_S2 v) some = (cmp_Compare_int_r3 C v).eval fun y => some (cmp_Compare_int_S3 y) := by kernel_rfl
abbrev cmp_Compare_int_Y4 : Type := Bool
def cmp_Compare_int_S4 (v : cmp_Compare_int_Y4) : St := ⟨[(12, .bool v)], []⟩
def cmp_Compare_int_r4 (C : cmp_Compare_int_C) (v : cmp_Compare_int_Y3) : Dt cmp_Compare_int_Y4 := (Dt.ret v.2.2.1)
theorem cmp_Compare_int_g4 (C : cmp_Compare_int_C) (v : cmp_Compare_int_Y3) : treg tysT (orc (cmp_Compare_int_tab C)) 20 (regO (bodyOf f77) 4) false [(12, .any)] (cmp_Compare_int_S3 v) some = (cmp_Compare_int_r4 C v).eval fun y => some (cmp_Compare_int_S4 y) := by kernel_rfl
abbrev cmp_Compare_int_Y5 : Type := Int
def cmp_Compare_int_S5 (v : cmp_Compare_int_Y5) : St := ⟨[(4, .int .i64 v)], []⟩
def cmp_Compare_int_r5 (C : cmp_Compare_int_C) (v : cmp_Compare_int_Y4) : Dt cmp_Compare_int_Y5 := (Dt.ret (0:Int))
theorem cmp_Compare_int_g5 (C : cmp_Compare_int_C) (v : cmp_Compare_int_Y4) : treg tysT (orc (cmp_Compare_int_tab C)) 20 (regO (bodyOf f77) 5) false [(4, .any)] (cmp_Compare_int_S4 v) some = (cmp_Compare_int_r5 C v).eval fun y => some (cmp_Compare_int_S5 y) := by kernel_rfl
def cmp_Compare_int_r6 (C : cmp_Compare_int_C) (v : cmp_Compare_int_Y4) : Dt cmp_Compare_int_Y5 := (Dt.ret (-1:Int))
theorem cmp_Compare_int_g6 (C : cmp_Compare_int_C) (v : cmp_Compare_int_Y4) : treg tysT (orc (cmp_Compare_int_tab C)) 20 (regO (bodyOf f77) 6) false [(4, .any)] (cmp_Compare_int_S4 v) some = (cmp_Compare_int_r6 C v).eval fun y => some (cmp_Compare_int_S5 y) := by kernel_rfl
abbrev cmp_Compare_int_Y7 : Type := Int × Int × Bool
def cmp_Compare_int_S7 (v : cmp_Compare_int_Y7) : St := ⟨[(0, .int .i64 v.1), (1, .int .i64 v.2.1), (13, .bool v.2.2)], []⟩
def cmp_Compare_int_r7 (C : cmp_Compare_int_C) (v : cmp_Compare_int_Y3) : Dt cmp_Compare_int_Y7 := (Dt.ret (v.1, v.2.1, v.2.2.1))
theorem cmp_Compare_int_g7 (C : cmp_Compare_int_C) (v : cmp_Compare_int_Y3) : treg tysT (orc (cmp_Compare_int_tab C)) 20 (regO (bodyOf f77) 7) false [(0, .any), (1, .any), (13, .any)] (cmp_Compare_int_S3 v) some = (cmp_Compare_int_r7 C v).eval fun y => some (cmp_Compare_int_S7 y) := by kernel_rfl
def cmp_Compare_int_r8 (C : cmp_Compare_int_C) (v : cmp_Compare_int_Y7) : Dt cmp_Compare_int_Y5 := (Dt.ret (1:Int))
theorem cmp_Compare_int_g8 (C : cmp_Compare_int_C) (v : cmp_Compare_int_Y7) : treg tysT (orc (cmp_Compare_int_tab C)) 20 (regO (bodyOf f77) 8) false [(4, .any)] (cmp_Compare_int_S7 v) some = (cmp_Compare_int_r8 C v).eval fun y => some (cmp_Compare_int_S5 y) := by kernel_rfl
abbrev cmp_Compare_int_Y9 : Type := Int × Int × Bool
def cmp_Compare_int_S9 (v : cmp_Compare_int_Y9) : St := ⟨[(0, .int .i64 v.1), (1, .int .i64 v.2.1), (16, .bool v.2.2)], []⟩
def cmp_Compare_int_r9 (C : cmp_Compare_int_C) (v : cmp_Compare_int_Y7) : Dt cmp_Compare_int_Y9 := (Dt.ret (v.1, v.2.1, (decide (v.1 < v.2.1))))
theorem cmp_Compare_int_g9 (C : cmp_Compare_int_C) (v : cmp_Compare_int_Y7) : treg tysT (orc (cmp_Compare_int_tab C)) 20 (regO (bodyOf f77) 9) false [(0, .any), (1, .any), (16, .any)] (cmp_Compare_int_S7 v) some = (cmp_Compare_int_r9 C v).eval fun y => some (cmp_Compare_int_S9 y) := by kernel_rfl
def cmp_Compare_int_r10 (C : cmp_Compare_int_C) (v : cmp_Compare_int_Y9) : Dt cmp_Compare_int_Y5 := (Dt.ret (-1:Int))
theorem cmp_Compare_int_g10 (C : cmp_Compare_int_C) (v : cmp_Compare_int_Y9) : treg tysT (orc (cmp_Compare_int_tab C)) 20 (regO (bodyOf f77) 10) false [(4, .any)] (cmp_Compare_int_S9 v) some = (cmp_Compare_int_r10 C v).eval fun y => some (cmp_Compare_int_S5 y) := by kernel_rfl
abbrev cmp_Compare_int_Y11 : Type := Bool
def cmp_Compare_int_S11 (v : cmp_Compare_int_Y11) : St := ⟨[(19, .bool v)], []⟩
def cmp_Compare_int_r11 (C : cmp_Compare_int_C) (v : cmp_Compare_int_Y9) : Dt cmp_Compare_int_Y11 := (Dt.ret (decide (v.1 > v.2.1)))
theorem cmp_Compare_int_g11 (C : cmp_Compare_int_C) (v : cmp_Compare_int_Y9) : treg tysT (orc (cmp_Compare_int_tab C)) 20 (regO (bodyOf f77) 11) false [(19, .any)] (cmp_Compare_int_S9 v) some = (cmp_Compare_int_r11 C v).eval fun y => some (cmp_Compare_int_S11 y) := by kernel_rfl
def cmp_Compare_int_r12 (C : cmp_Compare_int_C) (v : cmp_Compare_int_Y11) : Dt cmp_Compare_int_Y5 := (Dt.ret (1:Int))
theorem cmp_Compare_int_g12 (C : cmp_Compare_int_C) (v : cmp_Compare_int_Y11) : treg tysT (orc (cmp_Compare_int_tab C)) 20 (regO (bodyOf f77) 12) false [(4, .any)] (cmp_Compare_int_S11 v) some = (cmp_Compare_int_r12 C v).eval fun y => some (cmp_Compare_int_S5 y) := by kernel_rfl
def cmp_Compare_int_r13 (C : cmp_Compare_int_C) (v : cmp_Compare_int_Y11) : Dt cmp_Compare_int_Y5 := (Dt.ret (0:Int))
theorem cmp_Compare_int_g13 (C : cmp_Compare_int_C) (v : cmp_Compare_int_Y11) : treg tysT (orc (cmp_Compare_int_tab C)) 20 (regO (bodyOf f77) 13) false [(4, .any)] (cmp_Compare_int_S11 v) some = (cmp_Compare_int_r13 C v).eval fun y => some (cmp_Compare_int_S5 y) := by kernel_rfl
def F_cmp_Compare_int (d : Nat) (x : cmp_Compare_int_X) : Option cmp_Compare_int_R :=
  (cmp_Compare_int_r0 (cmp_Compare_int_K d) (x.1.1, x.2.1.1)).eval fun y0 =>
  (cmp_Compare_int_r1 (cmp_Compare_int_K d) y0).eval fun y1 =>
  (cmp_Compare_int_r2 (cmp_Compare_int_K d) y1).eval fun y2 =>
  (cmp_Compare_int_r3 (cmp_Compare_int_K d) y2).eval fun y3 =>
  bif y3.2.2.2 then ((cmp_Compare_int_r4 (cmp_Compare_int_K d) y3).eval fun y4 =>
  bif y4 then ((cmp_Compare_int_r5 (cmp_Compare_int_K d) y4).eval fun y5 =>
  some y5) else ((cmp_Compare_int_r6 (cmp_Compare_int_K d) y4).eval fun y6 =>
  some y6)) else ((cmp_Compare_int_r7 (cmp_Compare_int_K d) y3).eval fun y7 =>
  bif y7.2.2 then ((cmp_Compare_int_r8 (cmp_Compare_int_K d) y7).eval fun y8 =>
  some y8) else ((cmp_Compare_int_r9 (cmp_Compare_int_K d) y7).eval fun y9 =>
  bif y9.2.2 then ((cmp_Compare_int_r10 (cmp_Compare_int_K d) y9).eval fun y10 =>
  some y10) else ((cmp_Compare_int_r11 (cmp_Compare_int_K d) y9).eval fun y11 =>
  bif y11 then ((cmp_Compare_int_r12 (cmp_Compare_int_K d) y11).eval fun y12 =>
  some y12) else ((cmp_Compare_int_r13 (cmp_Compare_int_K d) y11).eval fun y13 =>
  some y13))))
theorem cmp_Compare_int_cok (d : Nat) : COK prog (cmp_Compare_int_sp (F_cmp_Compare_int d)) := by
  have hm : prog.follows .mixedOrders = true := mixed
  have hT := tys
  have hC0 : OrcOK prog (orc (cmp_Compare_int_tab (cmp_Compare_int_K d))) := orc_ok (by
    intro S hS
    simp only [cmp_Compare_int_tab, List.mem_cons, List.not_mem_nil, or_false] at hS
    subst hS; exact cmp_isNaN_int_cok d)
  have hC : OrcOK prog (orc (cmp_Compare_int_tab (cmp_Compare_int_K d))) := hC0
  refine cok_of (c := bodyOf f77) (fn := f77) hT (by kernel_rfl) (by kernel_rfl) (by decide) fun x r h w0 φ0 Q hend => ?_
  replace h : F_cmp_Compare_int d x = some r := h
  unfold F_cmp_Compare_int at h
  show Run prog w0 φ0 20 (bodyOf f77) ⟨[(0, .int .i64 x.1.1), (1, .int .i64 x.2.1.1)], []⟩ Q
  refine run_seq ?_
  refine run_reg hm hT hC (cmp_Compare_int_g0 (cmp_Compare_int_K d) (x.1.1, x.2.1.1)) h ?_
  intro y0 h
  refine cn_then ?_
  refine run_seq ?_
  refine run_reg hm hT hC (cmp_Compare_int_g1 (cmp_Compare_int_K d) y0) h ?_
  intro y1 h
  refine cn_then ?_
  refine run_seq ?_
  refine run_reg hm hT hC (cmp_Compare_int_g2 (cmp_Compare_int_K d) y1) h ?_
  intro y2 h
  refine cn_then ?_
  refine run_seq ?_
  refine run_seq ?_
  refine run_reg hm hT hC (cmp_Compare_int_g3 (cmp_Compare_int_K d) y2) h ?_
  intro y3 h
  refine cn_then ?_
  refine run_cond (v := y3.2.2.2) (by kernel_rfl) h ?_ ?_
  ·
    intro h
    refine run_seq ?_
    refine run_seq ?_
    refine run_reg hm hT hC (cmp_Compare_int_g4 (cmp_Compare_int_K d) y3) h ?_
    intro y4 h
    refine cn_then ?_
    refine run_cond (v := y4) (by kernel_rfl) h ?_ ?_
    ·
      intro h
      refine run_seq ?_
      refine run_reg hm hT hC (cmp_Compare_int_g5 (cmp_Compare_int_K d) y4) h ?_
      intro y5 h
      refine cn_then ?_
      refine run_ret ?_
      refine cn_then_ret ?_
      refine cn_then_ret ?_
      cases h
      exact (hend _ (by kernel_rfl)).2
    ·
      intro h
      refine run_skip ?_
      refine cn_then ?_
      refine run_seq ?_
      refine run_reg hm hT hC (cmp_Compare_int_g6 (cmp_Compare_int_K d) y4) h ?_
      intro y6 h
      refine cn_then ?_
      refine run_ret ?_
      refine cn_then_ret ?_
      cases h
      exact (hend _ (by kernel_rfl)).2
  ·
    intro h
    refine run_skip ?_
    refine cn_then ?_
    refine run_seq ?_
    refine run_seq ?_
    refine run_reg hm hT hC (cmp_Compare_int_g7 (cmp_Compare_int_K d) y3) h ?_
    intro y7 h
    refine cn_then ?_
    refine run_cond (v := y7.2.2) (by kernel_rfl) h ?_ ?_
    ·
      intro h
      refine run_seq ?_
      refine run_reg hm hT hC (cmp_Compare_int_g8 (cmp_Compare_int_K d) y7) h ?_
      intro y8 h
      refine cn_then ?_
      refine run_ret ?_
      refine cn_then_ret ?_
      cases h
      exact (hend _ (by kernel_rfl)).2
    ·
      intro h
      refine run_skip ?_
      refine cn_then ?_
      refine run_seq ?_
      refine run_seq ?_
      refine run_reg hm hT hC (cmp_Compare_int_g9 (cmp_Compare_int_K d) y7) h ?_
      intro y9 h
      refine cn_then ?_
      refine run_cond (v := y9.2.2) (by kernel_rfl) h ?_ ?_
      ·
        intro h
        refine run_seq ?_
        refine run_reg hm hT hC (cmp_Compare_int_g10 (cmp_Compare_int_K d) y9) h ?_
        intro y10 h
        refine cn_then ?_
        refine run_ret ?_
        refine cn_then_ret ?_
        cases h
        exact (hend _ (by kernel_rfl)).2
      ·
        intro h
        refine run_skip ?_
        refine cn_then ?_
        refine run_seq ?_
        refine run_seq ?_
        refine run_reg hm hT hC (cmp_Compare_int_g11 (cmp_Compare_int_K d) y9) h ?_
        intro y11 h
        refine cn_then ?_
        refine run_cond (v := y11) (by kernel_rfl) h ?_ ?_
        ·
          intro h
          refine run_seq ?_
          refine run_reg hm hT hC (cmp_Compare_int_g12 (cmp_Compare_int_K d) y11) h ?_
          intro y12 h
          refine cn_then ?_
          refine run_ret ?_
          refine cn_then_ret ?_
          cases h
          exact (hend _ (by kernel_rfl)).2
        ·
          intro h
          refine run_skip ?_
          refine cn_then ?_
          refine run_seq ?_
          refine run_reg hm hT hC (cmp_Compare_int_g13 (cmp_Compare_int_K d) y11) h ?_
          intro y13 h
          refine cn_then ?_
          refine run_ret ?_
          cases h
          exact (hend _ (by kernel_rfl)).2
abbrev cmp_Or_int_ps : List Pk := [.row RLiE false]
abbrev cmp_Or_int_X : Type := DLiE × Unit
abbrev cmp_Or_int_R : Type := Int
def cmp_Or_int_enc (r : cmp_Or_int_R) : LV × List Ob := (.int .i64 r, [])
def cmp_Or_int_sp (F : cmp_Or_int_X → Option cmp_Or_int_R) : Go.Tx.Spec := ⟨75, cmp_Or_int_ps, cmp_Or_int_R, F, cmp_Or_int_enc⟩
abbrev cmp_Or_int_C : Type := Unit
def cmp_Or_int_K (_d : Nat) : cmp_Or_int_C := ()
def cmp_Or_int_tab (C : cmp_Or_int_C) : List Go.Tx.Spec := []
abbrev cmp_Or_int_Y0i : Type := List Di
def cmp_Or_int_S0i (v : cmp_Or_int_Y0i) : St := ⟨[(0, .fz Ri v)], []⟩
def cmp_Or_int_r0 (C : cmp_Or_int_C) (v : cmp_Or_int_Y0i) : Dt cmp_Or_int_Y0i := (Dt.ret v)
theorem cmp_Or_int_g0 (C : cmp_Or_int_C) (v : cmp_Or_int_Y0i) : treg tysT (orc (cmp_Or_int_tab C)) 18 (regO (bodyOf f75) 0) false [(0, (.val Ri))] (cmp_Or_int_S0i v) some = (cmp_Or_int_r0 C v).eval fun y => some (cmp_Or_int_S0i y) := by kernel_rfl
abbrev cmp_Or_int_Y1 : Type := List Di × Int
def cmp_Or_int_S1 (v : cmp_Or_int_Y1) : St := ⟨[(0, .fz Ri v.1), (3, .int .i64 v.2)], []⟩
def cmp_Or_int_r1 (C : cmp_Or_int_C) (v : cmp_Or_int_Y0i) : Dt cmp_Or_int_Y1 := (Dt.ret (v, (0:Int)))
theorem cmp_Or_int_g1 (C : cmp_Or_int_C) (v : cmp_Or_int_Y0i) : treg tysT (orc (cmp_Or_int_tab C)) 18 (regO (bodyOf f75) 1) false [(0, (.val Ri)), (3, .any)] (cmp_Or_int_S0i v) some = (cmp_Or_int_r1 C v).eval fun y => some (cmp_Or_int_S1 y) := by kernel_rfl
abbrev cmp_Or_int_Y2 : Type := Int × List Di × Int × Int
def cmp_Or_int_S2 (v : cmp_Or_int_Y2) : St := ⟨[(3, .int .i64 v.1), (6, .fz Ri v.2.1), (7, .int .i64 v.2.2.1), (8, .int .i64 v.2.2.2)], []⟩
def cmp_Or_int_r2 (C : cmp_Or_int_C) (v : cmp_Or_int_Y1) : Dt cmp_Or_int_Y2 := (Dt.ret (v.2, v.1, (List.length v.1 : Int), (0:Int)))
theorem cmp_Or_int_g2 (C : cmp_Or_int_C) (v : cmp_Or_int_Y1) : treg tysT (orc (cmp_Or_int_tab C)) 18 (regO (bodyOf f75) 2) false [(3, .any), (6, (.val Ri)), (7, .any), (8, .any)] (cmp_Or_int_S1 v) some = (cmp_Or_int_r2 C v).eval fun y => some (cmp_Or_int_S2 y) := by kernel_rfl
abbrev cmp_Or_int_Y3 : Type := Int × List Di × Int × Int × Bool
def cmp_Or_int_S3 (v : cmp_Or_int_Y3) : St := ⟨[(3, .int .i64 v.1), (6, .fz Ri v.2.1), (7, .int .i64 v.2.2.1), (8, .int .i64 v.2.2.2.1), (9, .bool v.2.2.2.2)], []⟩
def cmp_Or_int_r3 (C : cmp_Or_int_C) (v : cmp_Or_int_Y2) : Dt cmp_Or_int_Y3 := (Dt.ret (v.1, v.2.1, v.2.2.1, v.2.2.2, (decide (v.2.2.2 < v.2.2.1))))
theorem cmp_Or_int_g3 (C : cmp_Or_int_C) (v : cmp_Or_int_Y2) : treg tysT (orc (cmp_Or_int_tab C)) 18 (regO (bodyOf f75) 3) false [(3, .any), (6, (.val Ri)), (7, .any), (8, .any), (9, .any)] (cmp_Or_int_S2 v) some = (cmp_Or_int_r3 C v).eval fun y => some (cmp_Or_int_S3 y) := by kernel_rfl
abbrev cmp_Or_int_Y4 : Type := Int × Int × List Di × Int × Int
def cmp_Or_int_S4 (v : cmp_Or_int_Y4) : St := ⟨[(3, .int .i64 v.1), (5, .int .i64 v.2.1), (6, .fz Ri v.2.2.1), (7, .int .i64 v.2.2.2.1), (8, .int .i64 v.2.2.2.2)], []⟩
def cmp_Or_int_r4 (C : cmp_Or_int_C) (v : cmp_Or_int_Y3) : Dt cmp_Or_int_Y4 := (Dt.ite (inB v.2.2.2.1 (List.length v.2.1)) (Dt.ret (v.1, (elt zi v.2.1 (v.2.2.2.1).toNat).1, v.2.1, v.2.2.1, v.2.2.2.1)) Dt.fail)
theorem cmp_Or_int_g4 (C : cmp_Or_int_C) (v : cmp_Or_int_Y3) : treg tysT (orc (cmp_Or_int_tab C)) 18 (regO (bodyOf f75) 4) false [(3, .any), (5, .any), (6, (.val Ri)), (7, .any), (8, .any)] (cmp_Or_int_S3 v) some = (cmp_Or_int_r4 C v).eval fun y => some (cmp_Or_int_S4 y) := by kernel_rfl
abbrev cmp_Or_int_Y5 : Type := Int × Int × List Di × Int × Int × Bool
def cmp_Or_int_S5 (v : cmp_Or_int_Y5) : St := ⟨[(3, .int .i64 v.1), (5, .int .i64 v.2.1), (6, .fz Ri v.2.2.1), (7, .int .i64 v.2.2.2.1), (8, .int .i64 v.2.2.2.2.1), (14, .bool v.2.2.2.2.2)], []⟩
def cmp_Or_int_r5 (C : cmp_Or_int_C) (v : cmp_Or_int_Y4) : Dt cmp_Or_int_Y5 := (Dt.ret (v.1, v.2.1, v.2.2.1, v.2.2.2.1, v.2.2.2.2, (v.2.1 != v.1)))
theorem cmp_Or_int_g5 (C : cmp_Or_int_C) (v : cmp_Or_int_Y4) : treg tysT (orc (cmp_Or_int_tab C)) 18 (regO (bodyOf f75) 5) false [(3, .any), (5, .any), (6, (.val Ri)), (7, .any), (8, .any), (14, .any)] (cmp_Or_int_S4 v) some = (cmp_Or_int_r5 C v).eval fun y => some (cmp_Or_int_S5 y) := by kernel_rfl
abbrev cmp_Or_int_Y6 : Type := Int
def cmp_Or_int_S6 (v : cmp_Or_int_Y6) : St := ⟨[(2, .int .i64 v)], []⟩
def cmp_Or_int_r6 (C : cmp_Or_int_C) (v : cmp_Or_int_Y5) : Dt cmp_Or_int_Y6 := (Dt.ret v.2.1)
theorem cmp_Or_int_g6 (C : cmp_Or_int_C) (v : cmp_Or_int_Y5) : treg tysT (orc (cmp_Or_int_tab C)) 18 (regO (bodyOf f75) 6) false [(2, .any)] (cmp_Or_int_S5 v) some = (cmp_Or_int_r6 C v).eval fun y => some (cmp_Or_int_S6 y) := by kernel_rfl
def cmp_Or_int_r7 (C : cmp_Or_int_C) (v : cmp_Or_int_Y5) : Dt cmp_Or_int_Y2 := (Dt.ret (v.1, v.2.2.1, v.2.2.2.1, (IntKind.wrap .i64 (v.2.2.2.2.1 + (1:Int)))))
theorem cmp_Or_int_g7 (C : cmp_Or_int_C) (v : cmp_Or_int_Y5) : treg tysT (orc (cmp_Or_int_tab C)) 18 (regO (bodyOf f75) 7) false [(3, .any), (6, (.val Ri)), (7, .any), (8, .any)] (cmp_Or_int_S5 v) some = (cmp_Or_int_r7 C v).eval fun y => some (cmp_Or_int_S2 y) := by kernel_rfl
def cmp_Or_int_r8 (C : cmp_Or_int_C) (v : cmp_Or_int_Y3) : Dt cmp_Or_int_Y6 := (Dt.ret v.1)
theorem cmp_Or_int_g8 (C : cmp_Or_int_C) (v : cmp_Or_int_Y3) : treg tysT (orc (cmp_Or_int_tab C)) 18 (regO (bodyOf f75) 8) false [(2, .any)] (cmp_Or_int_S3 v) some = (cmp_Or_int_r8 C v).eval fun y => some (cmp_Or_int_S6 y) := by kernel_rfl
def cmp_Or_int_L1 (d : Nat) (self1 : (Int × List Di × Int × Int) → Option cmp_Or_int_R) (x1 : Int × List Di × Int × Int) : Option cmp_Or_int_R :=
  (cmp_Or_int_r3 (cmp_Or_int_K d) x1).eval fun y3 =>
  bif y3.2.2.2.2 then ((cmp_Or_int_r4 (cmp_Or_int_K d) y3).eval fun y4 =>
  (cmp_Or_int_r5 (cmp_Or_int_K d) y4).eval fun y5 =>
  bif y5.2.2.2.2.2 then ((cmp_Or_int_r6 (cmp_Or_int_K d) y5).eval fun y6 =>
  some y6) else ((cmp_Or_int_r7 (cmp_Or_int_K d) y5).eval fun y7 =>
  self1 y7)) else ((cmp_Or_int_r8 (cmp_Or_int_K d) y3).eval fun y8 =>
  some y8)
def F_cmp_Or_int (d : Nat) (x : cmp_Or_int_X) : Option cmp_Or_int_R :=
  (cmp_Or_int_r0 (cmp_Or_int_K d) x.1.1).eval fun y0 =>
  (cmp_Or_int_r1 (cmp_Or_int_K d) y0).eval fun y1 =>
  (cmp_Or_int_r2 (cmp_Or_int_K d) y1).eval fun y2 =>
  iter (cmp_Or_int_L1 d ) d y2
theorem cmp_Or_int_cok (d : Nat) : COK prog (cmp_Or_int_sp (F_cmp_Or_int d)) := by
  have hm : prog.follows .mixedOrders = true := mixed
  have hT := tys
  have hC0 : OrcOK prog (orc (cmp_Or_int_tab (cmp_Or_int_K d))) := orc_ok (by
    intro S hS
    simp only [cmp_Or_int_tab, List.mem_cons, List.not_mem_nil, or_false] at hS
    all_goals first | cases hS | exact hS.elim)
  have hC : OrcOK prog (orc (cmp_Or_int_tab (cmp_Or_int_K d))) := hC0
  refine cok_of (c := bodyOf f75) (fn := f75) hT (by kernel_rfl) (by kernel_rfl) (by decide) fun x r h w0 φ0 Q hend => ?_
  replace h : F_cmp_Or_int d x = some r := h
  unfold F_cmp_Or_int at h
  show Run prog w0 φ0 18 (bodyOf f75) ⟨[(0, .fz Ri x.1.1)], []⟩ Q
  refine run_seq ?_
  refine run_reg hm hT hC (cmp_Or_int_g0 (cmp_Or_int_K d) x.1.1) h ?_
  intro y0 h
  refine cn_then ?_
  refine run_seq ?_
  refine run_reg hm hT hC (cmp_Or_int_g1 (cmp_Or_int_K d) y0) h ?_
  intro y1 h
  refine cn_then ?_
  refine run_seq ?_
  refine run_seq ?_
  refine run_reg hm hT hC (cmp_Or_int_g2 (cmp_Or_int_K d) y1) h ?_
  intro y2 h
  refine cn_then ?_
  refine run_block ?_
  refine run_loop (G := iter (cmp_Or_int_L1 d )) (S := (fun x1 => ⟨[(3, .int .i64 x1.1), (6, .fz Ri x1.2.1), (7, .int .i64 x1.2.2.1), (8, .int .i64 x1.2.2.2)], []⟩ : Int × List Di × Int × Int → St)) (fun _ => rfl) ?_ d _ h
  intro n1 x1 h K1 hn1
  replace h : cmp_Or_int_L1 d  (iter (cmp_Or_int_L1 d ) n1) x1 = some r := h
  generalize iter (cmp_Or_int_L1 d ) n1 = self1 at h hn1
  unfold cmp_Or_int_L1 at h
  refine run_seq ?_
  refine run_reg hm hT hC (cmp_Or_int_g3 (cmp_Or_int_K d) x1) h ?_
  intro y3 h
  refine cn_then ?_
  refine run_seq ?_
  refine run_cond (v := y3.2.2.2.2) (by kernel_rfl) h ?_ ?_
  ·
    intro h
    refine run_skip ?_
    refine cn_then ?_
    refine run_seq ?_
    refine run_block ?_
    refine run_seq ?_
    refine run_reg hm hT hC (cmp_Or_int_g4 (cmp_Or_int_K d) y3) h ?_
    intro y4 h
    refine cn_then ?_
    refine run_seq ?_
    refine run_reg hm hT hC (cmp_Or_int_g5 (cmp_Or_int_K d) y4) h ?_
    intro y5 h
    refine cn_then ?_
    refine run_cond (v := y5.2.2.2.2.2) (by kernel_rfl) h ?_ ?_
    ·
      intro h
      refine run_seq ?_
      refine run_reg hm hT hC (cmp_Or_int_g6 (cmp_Or_int_K d) y5) h ?_
      intro y6 h
      refine cn_then ?_
      refine run_ret ?_
      refine cn_blk_ret ?_
      refine cn_then_ret ?_
      refine cn_then_ret ?_
      refine cn_blk_ret ?_
      refine cn_then_ret ?_
      cases h
      exact (hend _ (by kernel_rfl)).2
    ·
      intro h
      refine run_skip ?_
      refine cn_blk ?_
      refine cn_then ?_
      refine run_reg hm hT hC (cmp_Or_int_g7 (cmp_Or_int_K d) y5) h ?_
      intro y7 h
      exact hn1 _ h
  ·
    intro h
    refine run_exit ?_
    refine cn_then_exit ?_
    refine cn_then_exit ?_
    refine cn_blk_eq ?_
    refine cn_then ?_
    refine run_seq ?_
    refine run_reg hm hT hC (cmp_Or_int_g8 (cmp_Or_int_K d) y3) h ?_
    intro y8 h
    refine cn_then ?_
    refine run_ret ?_
    cases h
    exact (hend _ (by kernel_rfl)).2
abbrev meet_order_ps : List Pk := [.row Riiii true, .row Riiii true]
abbrev meet_order_X : Type := Diiii × Diiii × Unit
abbrev meet_order_R : Type := Int
def meet_order_enc (r : meet_order_R) : LV × List Ob := (.int .i64 r, [])
def meet_order_sp (F : meet_order_X → Option meet_order_R) : Go.Tx.Spec := ⟨60, meet_order_ps, meet_order_R, F, meet_order_enc⟩
abbrev meet_order_C : Type := (meet_later_X → Option meet_later_R) × (cmp_Or_int_X → Option cmp_Or_int_R) × (cmp_Compare_int_X → Option cmp_Compare_int_R) × Unit
def meet_order_K (d : Nat) : meet_order_C := (F_meet_later d, F_cmp_Or_int d, F_cmp_Compare_int d, ())
def meet_order_tab (C : meet_order_C) : List Go.Tx.Spec := [meet_later_sp C.1, cmp_Or_int_sp C.2.1, cmp_Compare_int_sp C.2.2.1]
abbrev meet_order_Y0i : Type := Int × Int × Int × Int × Int × Int × Int × Int
def meet_order_S0i (v : meet_order_Y0i) : St := ⟨[(0, .agg [.int .i64 v.1, .int .i64 v.2.1, .int .i64 v.2.2.1, .int .i64 v.2.2.2.1]), (1, .agg [.int .i64 v.2.2.2.2.1, .int .i64 v.2.2.2.2.2.1, .int .i64 v.2.2.2.2.2.2.1, .int .i64 v.2.2.2.2.2.2.2])], []⟩
abbrev meet_order_Y0 : Type := Int × Int × Int × Int × Int × Int × Int × Int
def meet_order_S0 (v : meet_order_Y0) : St := ⟨[(2, .ptr 0 0), (3, .ptr 1 0)], [.cells [.int .i64 v.1, .int .i64 v.2.1, .int .i64 v.2.2.1, .int .i64 v.2.2.2.1], .cells [.int .i64 v.2.2.2.2.1, .int .i64 v.2.2.2.2.2.1, .int .i64 v.2.2.2.2.2.2.1, .int .i64 v.2.2.2.2.2.2.2]]⟩
def meet_order_r0 (C : meet_order_C) (v : meet_order_Y0i) : Dt meet_order_Y0 := (Dt.ret (v.1, v.2.1, v.2.2.1, v.2.2.2.1, v.2.2.2.2.1, v.2.2.2.2.2.1, v.2.2.2.2.2.2.1, v.2.2.2.2.2.2.2))
theorem meet_order_g0 (C : meet_order_C) (v : meet_order_Y0i) : treg tysT (orc (meet_order_tab C)) 22 (regO (bodyOf f60) 0) false [(2, .any), (3, .any)] (meet_order_S0i v) some = (meet_order_r0 C v).eval fun y => some (meet_order_S0 y) := by kernel_rfl
abbrev meet_order_Y1 : Type := Int
def meet_order_S1 (v : meet_order_Y1) : St := ⟨[(4, .int .i64 v)], []⟩
def meet_order_r1 (C : meet_order_C) (v : meet_order_Y0) : Dt meet_order_Y1 := (Dt.bnd (C.1 ((v.1, v.2.1, ()), (v.2.2.2.2.1, v.2.2.2.2.2.1, ()), ())) fun r1 => (Dt.bnd (C.2.2.1 ((v.2.2.1, ()), (v.2.2.2.2.2.2.1, ()), ())) fun r2 => (Dt.bnd (C.2.2.1 ((v.2.2.2.1, ()), (v.2.2.2.2.2.2.2, ()), ())) fun r3 => (Dt.bnd (C.2.1 ((([(r1, ()), (r2, ()), (r3, ())] : List Di), ()), ())) fun r4 => (Dt.ret r4)))))
theorem meet_order_g1 (C : meet_order_C) (v : meet_order_Y0) : treg tysT (orc (meet_order_tab C)) 22 (regO (bodyOf f60) 1) true [(4, .any)] (meet_order_S0 v) some = (meet_order_r1 C v).eval fun y => some (meet_order_S1 y) := by kernel_rfl
def F_meet_order (d : Nat) (x : meet_order_X) : Option meet_order_R :=
  (meet_order_r0 (meet_order_K d) (x.1.1, x.1.2.1, x.1.2.2.1, x.1.2.2.2.1, x.2.1.1, x.2.1.2.1, x.2.1.2.2.1, x.2.1.2.2.2.1)).eval fun y0 =>
  (meet_order_r1 (meet_order_K d) y0).eval fun y1 =>
  some y1
theorem meet_order_cok (d : Nat) : COK prog (meet_order_sp (F_meet_order d)) := by
  have hm : prog.follows .mixedOrders = true := mixed
  have hT := tys
  have hC0 : OrcOK prog (orc (meet_order_tab (meet_order_K d))) := orc_ok (by
    intro S hS
    simp only [meet_order_tab, List.mem_cons, List.not_mem_nil, or_false] at hS
    rcases hS with rfl | rfl | rfl
    · exact meet_later_cok d
    · exact cmp_Or_int_cok d
    · exact cmp_Compare_int_cok d)
  have hC : OrcOK prog (orc (meet_order_tab (meet_order_K d))) := hC0
  refine cok_of (c := bodyOf f60) (fn := f60) hT (by kernel_rfl) (by kernel_rfl) (by decide) fun x r h w0 φ0 Q hend => ?_
  replace h : F_meet_order d x = some r := h
  unfold F_meet_order at h
  show Run prog w0 φ0 22 (bodyOf f60) ⟨[(0, .agg [.int .i64 x.1.1, .int .i64 x.1.2.1, .int .i64 x.1.2.2.1, .int .i64 x.1.2.2.2.1]), (1, .agg [.int .i64 x.2.1.1, .int .i64 x.2.1.2.1, .int .i64 x.2.1.2.2.1, .int .i64 x.2.1.2.2.2.1])], []⟩ Q
  refine run_seq ?_
  refine run_reg hm hT hC (meet_order_g0 (meet_order_K d) (x.1.1, x.1.2.1, x.1.2.2.1, x.1.2.2.2.1, x.2.1.1, x.2.1.2.1, x.2.1.2.2.1, x.2.1.2.2.2.1)) h ?_
  intro y0 h
  refine cn_then ?_
  refine run_seq ?_
  refine run_reg hm hT hC (meet_order_g1 (meet_order_K d) y0) h ?_
  intro y1 h
  refine cn_then ?_
  refine run_ret ?_
  cases h
  exact (hend _ (by kernel_rfl)).2
abbrev field_New_ps : List Pk := []
abbrev field_New_X : Type := Unit
abbrev field_New_R : Type := List Diii
def field_New_enc (r : field_New_R) : LV × List Ob := (.agg [.rs 0], [.rows Riii r])
def field_New_sp (F : field_New_X → Option field_New_R) : Go.Tx.Spec := ⟨28, field_New_ps, field_New_R, F, field_New_enc⟩
abbrev field_New_C : Type := Unit
def field_New_K (_d : Nat) : field_New_C := ()
def field_New_tab (C : field_New_C) : List Go.Tx.Spec := []
abbrev field_New_Y0i : Type := Unit
def field_New_S0i (v : field_New_Y0i) : St := ⟨[], []⟩
abbrev field_New_Y0 : Type := List Diii
def field_New_S0 (v : field_New_Y0) : St := ⟨[(0, .ptr 0 0)], [.cells [.rs 1], .rows Riii v]⟩
def field_New_r0 (C : field_New_C) (v : field_New_Y0i) : Dt field_New_Y0 := (Dt.ret ([] : List Diii))
theorem field_New_g0 (C : field_New_C) (v : field_New_Y0i) : treg tysT (orc (field_New_tab C)) 2 (regO (bodyOf f28) 0) false [(0, (.box [.own Riii]))] (field_New_S0i v) some = (field_New_r0 C v).eval fun y => some (field_New_S0 y) := by kernel_rfl
def field_New_r1 (C : field_New_C) (v : field_New_Y0) : Dt field_New_Y0 := (Dt.ret ([] : List Diii))
theorem field_New_g1 (C : field_New_C) (v : field_New_Y0) : treg tysT (orc (field_New_tab C)) 2 (regO (bodyOf f28) 1) false [(0, (.box [.own Riii]))] (field_New_S0 v) some = (field_New_r1 C v).eval fun y => some (field_New_S0 y) := by kernel_rfl
def F_field_New (d : Nat) (x : field_New_X) : Option field_New_R :=
  (field_New_r0 (field_New_K d) ()).eval fun y0 =>
  (field_New_r1 (field_New_K d) y0).eval fun y1 =>
  some y1
theorem field_New_cok (d : Nat) : COK prog (field_New_sp (F_field_New d)) := by
  have hm : prog.follows .mixedOrders = true := mixed
  have hT := tys
  have hC0 : OrcOK prog (orc (field_New_tab (field_New_K d))) := orc_ok (by
    intro S hS
    simp only [field_New_tab, List.mem_cons, List.not_mem_nil, or_false] at hS
    all_goals first | cases hS | exact hS.elim)
  have hC : OrcOK prog (orc (field_New_tab (field_New_K d))) := hC0
  refine cok_of (c := bodyOf f28) (fn := f28) hT (by kernel_rfl) (by kernel_rfl) (by decide) fun x r h w0 φ0 Q hend => ?_
  replace h : F_field_New d x = some r := h
  unfold F_field_New at h
  show Run prog w0 φ0 2 (bodyOf f28) ⟨[], []⟩ Q
  refine run_seq ?_
  refine run_reg hm hT hC (field_New_g0 (field_New_K d) ()) h ?_
  intro y0 h
  refine cn_then ?_
  refine run_seq ?_
  refine run_reg hm hT hC (field_New_g1 (field_New_K d) y0) h ?_
  intro y1 h
  refine cn_then ?_
  refine run_ret ?_
  cases h
  exact (hend _ (by kernel_rfl)).2
end Go.Proofs.Ythopjgahedijcaa
