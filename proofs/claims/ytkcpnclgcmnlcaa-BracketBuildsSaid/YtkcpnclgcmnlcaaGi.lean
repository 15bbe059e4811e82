/- Walks of the references; the orders agree; examples. -/
import Derived.Test.YtkcpnclgcmnlcaaProg
import Derived.Test.YtkcpnclgcmnlcaaGh
set_option linter.unusedSimpArgs false
set_option linter.unusedVariables false
namespace Go.Proofs.Ytkcpnclgcmnlcaa
open Go Go.Tx Try
abbrev Ri : Row := (.int .i64 .nil)
abbrev Di : Type := (Int × Unit)
abbrev zi : Di := (0, ())
abbrev Rb : Row := (.bool .nil)
abbrev Db : Type := (Bool × Unit)
abbrev zb : Db := (false, ())
abbrev Riii : Row := (.int .i64 (.int .i64 (.int .i64 .nil)))
abbrev Diii : Type := (Int × (Int × (Int × Unit)))
abbrev ziii : Diii := (0, 0, 0, ())
abbrev RLiiiE : Row := (.sl Riii .nil)
abbrev DLiiiE : Type := (List Diii × Unit)
abbrev zLiiiE : DLiiiE := ([], ())
abbrev RLiE : Row := (.sl Ri .nil)
abbrev DLiE : Type := (List Di × Unit)
abbrev zLiE : DLiE := ([], ())
abbrev RLiELiE : Row := (.sl Ri (.sl Ri .nil))
abbrev DLiELiE : Type := (List Di × (List Di × Unit))
abbrev zLiELiE : DLiELiE := ([], [], ())
abbrev Rii : Row := (.int .i64 (.int .i64 .nil))
abbrev Dii : Type := (Int × (Int × Unit))
abbrev zii : Dii := (0, 0, ())
abbrev RLLiELiEE : Row := (.sl RLiELiE .nil)
abbrev DLLiELiEE : Type := (List DLiELiE × Unit)
abbrev zLLiELiEE : DLLiELiEE := ([], ())
abbrev RLLiiiEE : Row := (.sl RLiiiE .nil)
abbrev DLLiiiEE : Type := (List DLiiiE × Unit)
abbrev zLLiiiEE : DLLiiiEE := ([], ())
abbrev Ru : Row := (.int .u64 .nil)
abbrev Du : Type := (Int × Unit)
abbrev zu : Du := (0, ())
abbrev Riu : Row := (.int .i64 (.int .u64 .nil))
abbrev Diu : Type := (Int × (Int × Unit))
abbrev ziu : Diu := (0, 0, ())
abbrev Riiii : Row := (.int .i64 (.int .i64 (.int .i64 (.int .i64 .nil))))
abbrev Diiii : Type := (Int × (Int × (Int × (Int × Unit))))
abbrev ziiii : Diiii := (0, 0, 0, 0, ())
abbrev Rbuu : Row := (.bool (.int .u64 (.int .u64 .nil)))
abbrev Dbuu : Type := (Bool × (Int × (Int × Unit)))
abbrev zbuu : Dbuu := (false, 0, 0, ())
theorem mixed : prog.follows .mixedOrders = true := by kernel_rfl
def tysT : Tys := [(2, ⟨.int .i64, 1, false, [.int .i64 0], false⟩),
  (3, ⟨.int .i64, 1, false, [.int .i64 0], false⟩),
  (4, ⟨.bool, 1, false, [.bool false], false⟩),
  (22, ⟨.slice 26 Riii, 1, false, [.nils], false⟩),
  (24, ⟨.struct [(0, 22)], 1, true, [.nils], false⟩),
  (26, ⟨.struct [(0, 3), (1, 2), (2, 2)], 3, true, [.int .i64 0, .int .i64 0, .int .i64 0], false⟩),
  (29, ⟨.int .i64, 1, false, [.int .i64 0], false⟩),
  (45, ⟨.slice 3 Ri, 1, false, [.nils], false⟩),
  (47, ⟨.struct [(0, 45), (1, 45)], 2, true, [.nils, .nils], false⟩),
  (49, ⟨.struct [(0, 2), (1, 2)], 2, true, [.int .i64 0, .int .i64 0], false⟩),
  (82, ⟨.slice 47 RLiELiE, 1, false, [.nils], false⟩),
  (99, ⟨.slice 24 RLiiiE, 1, false, [.nils], false⟩),
  (100, ⟨.slice 29 Ri, 1, false, [.nils], false⟩),
  (114, ⟨.other, 1, false, [.undef], false⟩),
  (124, ⟨.other, 1, false, [.undef], false⟩),
  (136, ⟨.other, 1, false, [.undef], false⟩),
  (142, ⟨.int .u64, 1, false, [.int .u64 0], false⟩),
  (146, ⟨.other, 1, false, [.undef], false⟩),
  (149, ⟨.struct [(0, 2), (1, 142)], 2, true, [.int .i64 0, .int .u64 0], false⟩),
  (151, ⟨.array 2 2, 2, true, [.int .i64 0, .int .i64 0], false⟩),
  (152, ⟨.array 2 151, 4, true, [.int .i64 0, .int .i64 0, .int .i64 0, .int .i64 0], false⟩),
  (175, ⟨.struct [(0, 4), (1, 142), (2, 142)], 3, true, [.bool false, .int .u64 0, .int .u64 0], false⟩),
  (178, ⟨.int .u64, 1, false, [.int .u64 0], false⟩),
  (186, ⟨.other, 1, false, [.nilp], false⟩)]
theorem tys : TysOK prog tysT := tys_ok (by kernel_rfl) (by
  intro p hp he
  simp only [tysT, List.mem_cons, List.not_mem_nil, or_false] at hp
  rcases hp with rfl | rfl | rfl | rfl | rfl | rfl | rfl | rfl | rfl | rfl | rfl | rfl | rfl | rfl | rfl | rfl | rfl | rfl | rfl | rfl | rfl | rfl | rfl | rfl
  all_goals first | cases he)
end Go.Proofs.Ytkcpnclgcmnlcaa

namespace Go.Proofs.Ytkcpnclgcmnlcaa
open Go Go.Tx Go.Pel Go.Proofs.Try
set_option maxRecDepth 100000
set_option maxHeartbeats 0
abbrev ref10_Great_ps : List Pk := [.row RLiELiE true]
abbrev ref10_Great_X : Type := DLiELiE × Unit
abbrev ref10_Great_R : Type := Bool
def ref10_Great_enc (r : ref10_Great_R) : LV × List Ob := (.bool r, [])
def ref10_Great_sp (F : ref10_Great_X → Option ref10_Great_R) : Go.Tx.Spec := ⟨29, ref10_Great_ps, ref10_Great_R, F, ref10_Great_enc⟩
def ref10_Great_if (x : ref10_Great_X) : Bool := true
def F_ref10_Great (d : Nat) (x : ref10_Great_X) : Option ref10_Great_R := bif ref10_Great_if x then some (greatB (idsI x.1.1).length (idsI x.1.2.1).length) else none
theorem F_ref10_Great_eq (d : Nat) (x : ref10_Great_X) (h : ref10_Great_if x = true) : F_ref10_Great d x = some (greatB (idsI x.1.1).length (idsI x.1.2.1).length) := by unfold F_ref10_Great; rw [h]; rfl
theorem ref10_Great_cok (d : Nat) : COK prog (ref10_Great_sp (F_ref10_Great d)) := by
  refine cok_old (body_of (fn := f29) (by kernel_rfl) (by kernel_rfl) (by kernel_rfl)) fun x r hx w φ vs hφ hv => ?_
  have hx : F_ref10_Great d x = some r := hx
  unfold F_ref10_Great at hx
  obtain ⟨hc, rfl⟩ := bif_some hx
  have hv : VRs (Emb.fro φ) [.agg [.fz RI x.1.1, .fz RI x.1.2.1]] vs := hv
  obtain ⟨v0, rfl, q0⟩ := vrs1 hv
  obtain ⟨A0, c0, B0, e0, rfl, s0, t0, z0, y0⟩ := vr_bracket hφ q0
  refine (bgreat_any A0 B0 (idsI x.1.1).length (idsI x.1.2.1).length c0 e0 w).mono ?_
  rintro e w' ⟨rfl, y, rfl⟩
  exact gives_pure hφ (.bool _) y
abbrev ref10_Twin_ps : List Pk := [.row RLiELiE true]
abbrev ref10_Twin_X : Type := DLiELiE × Unit
abbrev ref10_Twin_R : Type := List Di × List Di
def ref10_Twin_enc (r : ref10_Twin_R) : LV × List Ob := (.agg [.rs 0, .rs 1], [.rows Ri r.1, .rows Ri r.2])
def ref10_Twin_sp (F : ref10_Twin_X → Option ref10_Twin_R) : Go.Tx.Spec := ⟨30, ref10_Twin_ps, ref10_Twin_R, F, ref10_Twin_enc⟩
def ref10_Twin_if (x : ref10_Twin_X) : Bool := decide ((idsI x.1.1).length ≤ 1000) && decide ((idsI x.1.2.1).length ≤ 1000)
def F_ref10_Twin (d : Nat) (x : ref10_Twin_X) : Option ref10_Twin_R := bif ref10_Twin_if x then some (unI (idsI x.1.1), unI (idsI x.1.2.1)) else none
theorem F_ref10_Twin_eq (d : Nat) (x : ref10_Twin_X) (h : ref10_Twin_if x = true) : F_ref10_Twin d x = some (unI (idsI x.1.1), unI (idsI x.1.2.1)) := by unfold F_ref10_Twin; rw [h]; rfl
theorem ref10_Twin_cok (d : Nat) : COK prog (ref10_Twin_sp (F_ref10_Twin d)) := by
  refine cok_old (body_of (fn := f30) (by kernel_rfl) (by kernel_rfl) (by kernel_rfl)) fun x r hx w φ vs hφ hv => ?_
  have hx : F_ref10_Twin d x = some r := hx
  unfold F_ref10_Twin at hx
  obtain ⟨hc, rfl⟩ := bif_some hx
  have hv : VRs (Emb.fro φ) [.agg [.fz RI x.1.1, .fz RI x.1.2.1]] vs := hv
  obtain ⟨v0, rfl, q0⟩ := vrs1 hv
  obtain ⟨A0, c0, B0, e0, rfl, s0, t0, z0, y0⟩ := vr_bracket hφ q0
  unfold ref10_Twin_if at hc
  simp only [Bool.and_eq_true] at hc
  obtain ⟨h1, h2⟩ := hc
  replace h1 := of_decide_eq_true h1
  replace h2 := of_decide_eq_true h2
  refine (twin10_any A0 B0 c0 e0 (idsI x.1.1) (idsI x.1.2.1) w s0 t0 z0 y0 h1 h2).mono ?_
  rintro e w' ⟨A', c', B', d', rfl, y, rfl, ho, ho', ha⟩
  exact gives_own2 hφ (τ := Ri) (σ := Ri) rfl rfl (unI_len _) (unI_len _) ho ho' ha (valsL_unI _) (valsL_unI _) fun η e0 e1 => VR.aggL (VRs.cons (.rs e0) (VRs.cons (.rs e1) VRs.nil))
abbrev bracket_Build_ps : List Pk := [.row RLiiiE true, .row Rii true, .row RLiE false]
abbrev bracket_Build_X : Type := DLiiiE × Dii × DLiE × Unit
abbrev bracket_Build_R : Type := List Di × List Di × Int
def bracket_Build_enc (r : bracket_Build_R) : LV × List Ob := (.tup [.agg [.rs 0, .rs 1], .int .i64 r.2.2], [.rows Ri r.1, .rows Ri r.2.1])
def bracket_Build_sp (F : bracket_Build_X → Option bracket_Build_R) : Go.Tx.Spec := ⟨35, bracket_Build_ps, bracket_Build_R, F, bracket_Build_enc⟩
def bracket_Build_if (x : bracket_Build_X) : Bool := i64B x.2.1.1 && i64B x.2.1.2.1 && decide ((ptsL x.1.1).length ≤ 1000000) && decide ((idsI x.2.2.1.1).length ≤ 1000) && all64B (idsI x.2.2.1.1)
def F_bracket_Build (d : Nat) (x : bracket_Build_X) : Option bracket_Build_R := bif bracket_Build_if x then some (unI (brBuild (ptsL x.1.1) x.2.1.1 x.2.1.2.1 (idsI x.2.2.1.1)).1, unI (brBuild (ptsL x.1.1) x.2.1.1 x.2.1.2.1 (idsI x.2.2.1.1)).2.1, (brBuild (ptsL x.1.1) x.2.1.1 x.2.1.2.1 (idsI x.2.2.1.1)).2.2) else none
theorem F_bracket_Build_eq (d : Nat) (x : bracket_Build_X) (h : bracket_Build_if x = true) : F_bracket_Build d x = some (unI (brBuild (ptsL x.1.1) x.2.1.1 x.2.1.2.1 (idsI x.2.2.1.1)).1, unI (brBuild (ptsL x.1.1) x.2.1.1 x.2.1.2.1 (idsI x.2.2.1.1)).2.1, (brBuild (ptsL x.1.1) x.2.1.1 x.2.1.2.1 (idsI x.2.2.1.1)).2.2) := by unfold F_bracket_Build; rw [h]; rfl
theorem bracket_Build_cok (d : Nat) : COK prog (bracket_Build_sp (F_bracket_Build d)) := by
  refine cok_old (body_of (fn := f35) (by kernel_rfl) (by kernel_rfl) (by kernel_rfl)) fun x r hx w φ vs hφ hv => ?_
  have hx : F_bracket_Build d x = some r := hx
  unfold F_bracket_Build at hx
  obtain ⟨hc, rfl⟩ := bif_some hx
  have hv : VRs (Emb.fro φ) [.agg [.fz RP x.1.1], .agg [.int .i64 x.2.1.1, .int .i64 x.2.1.2.1], .fz RI x.2.2.1.1] vs := hv
  obtain ⟨v0, vs, rfl, q0, hv⟩ := VRs.uncons hv
  obtain ⟨v1, vs, rfl, q1, hv⟩ := VRs.uncons hv
  obtain ⟨v2, rfl, q2⟩ := vrs1 hv
  obtain ⟨A0, c0, rfl, s0, z0⟩ := vr_fld hφ q0
  have r1 := vr_ratio q1; subst r1
  obtain ⟨A2, c2, rfl, s2, z2⟩ := vr_idsI hφ q2
  unfold bracket_Build_if at hc
  simp only [Bool.and_eq_true] at hc
  obtain ⟨⟨⟨⟨h1, h2⟩, h3⟩, h4⟩, h5⟩ := hc
  replace h3 := of_decide_eq_true h3
  replace h4 := of_decide_eq_true h4
  refine (bbuild_any A2 A0 c2 c0 (idsI x.2.2.1.1) (ptsL x.1.1) x.2.1.1 x.2.1.2.1 w (i64B_iff h1) (i64B_iff h2) s2 z2 s0 h3 h4 (all64B_iff h5)).mono ?_
  rintro e w' ⟨A', c', B', d', rfl, y, rfl, ho, ho', ha⟩
  exact gives_own2 hφ (τ := Ri) (σ := Ri) rfl rfl (unI_len _) (unI_len _) ho ho' ha (valsL_unI _) (valsL_unI _) fun η e0 e1 => VR.tupL (VRs.cons (VR.aggL (VRs.cons (.rs e0) (VRs.cons (.rs e1) VRs.nil))) (VRs.cons (.int _ _) VRs.nil))
abbrev ref10_Build_ps : List Pk := [.row RLiiiE true, .row Rii true, .row RLiE false]
abbrev ref10_Build_X : Type := DLiiiE × Dii × DLiE × Unit
abbrev ref10_Build_R : Type := List Di × List Di × Int
def ref10_Build_enc (r : ref10_Build_R) : LV × List Ob := (.tup [.agg [.rs 0, .rs 1], .int .i64 r.2.2], [.rows Ri r.1, .rows Ri r.2.1])
def ref10_Build_sp (F : ref10_Build_X → Option ref10_Build_R) : Go.Tx.Spec := ⟨36, ref10_Build_ps, ref10_Build_R, F, ref10_Build_enc⟩
def ref10_Build_if (x : ref10_Build_X) : Bool := i64B x.2.1.1 && i64B x.2.1.2.1 && decide ((ptsL x.1.1).length ≤ 1000000) && decide ((idsI x.2.2.1.1).length ≤ 1000)
def F_ref10_Build (d : Nat) (x : ref10_Build_X) : Option ref10_Build_R := bif ref10_Build_if x then some (unI (brBuild (ptsL x.1.1) x.2.1.1 x.2.1.2.1 (idsI x.2.2.1.1)).1, unI (brBuild (ptsL x.1.1) x.2.1.1 x.2.1.2.1 (idsI x.2.2.1.1)).2.1, (brBuild (ptsL x.1.1) x.2.1.1 x.2.1.2.1 (idsI x.2.2.1.1)).2.2) else none
theorem F_ref10_Build_eq (d : Nat) (x : ref10_Build_X) (h : ref10_Build_if x = true) : F_ref10_Build d x = some (unI (brBuild (ptsL x.1.1) x.2.1.1 x.2.1.2.1 (idsI x.2.2.1.1)).1, unI (brBuild (ptsL x.1.1) x.2.1.1 x.2.1.2.1 (idsI x.2.2.1.1)).2.1, (brBuild (ptsL x.1.1) x.2.1.1 x.2.1.2.1 (idsI x.2.2.1.1)).2.2) := by unfold F_ref10_Build; rw [h]; rfl
theorem ref10_Build_cok (d : Nat) : COK prog (ref10_Build_sp (F_ref10_Build d)) := by
  refine cok_old (body_of (fn := f36) (by kernel_rfl) (by kernel_rfl) (by kernel_rfl)) fun x r hx w φ vs hφ hv => ?_
  have hx : F_ref10_Build d x = some r := hx
  unfold F_ref10_Build at hx
  obtain ⟨hc, rfl⟩ := bif_some hx
  have hv : VRs (Emb.fro φ) [.agg [.fz RP x.1.1], .agg [.int .i64 x.2.1.1, .int .i64 x.2.1.2.1], .fz RI x.2.2.1.1] vs := hv
  obtain ⟨v0, vs, rfl, q0, hv⟩ := VRs.uncons hv
  obtain ⟨v1, vs, rfl, q1, hv⟩ := VRs.uncons hv
  obtain ⟨v2, rfl, q2⟩ := vrs1 hv
  obtain ⟨A0, c0, rfl, s0, z0⟩ := vr_fld hφ q0
  have r1 := vr_ratio q1; subst r1
  obtain ⟨A2, c2, rfl, s2, z2⟩ := vr_idsI hφ q2
  unfold ref10_Build_if at hc
  simp only [Bool.and_eq_true] at hc
  obtain ⟨⟨⟨h1, h2⟩, h3⟩, h4⟩ := hc
  replace h3 := of_decide_eq_true h3
  replace h4 := of_decide_eq_true h4
  refine (rbuild_any A2 A0 c2 c0 (idsI x.2.2.1.1) (ptsL x.1.1) x.2.1.1 x.2.1.2.1 w (i64B_iff h1) (i64B_iff h2) s2 z2 s0 h3 h4).mono ?_
  rintro e w' ⟨A', c', B', d', rfl, y, rfl, ho, ho', ha⟩
  exact gives_own2 hφ (τ := Ri) (σ := Ri) rfl rfl (unI_len _) (unI_len _) ho ho' ha (valsL_unI _) (valsL_unI _) fun η e0 e1 => VR.tupL (VRs.cons (VR.aggL (VRs.cons (.rs e0) (VRs.cons (.rs e1) VRs.nil))) (VRs.cons (.int _ _) VRs.nil))
abbrev bracket_Winner_ps : List Pk := [.row RLiELiE true]
abbrev bracket_Winner_X : Type := DLiELiE × Unit
abbrev bracket_Winner_R : Type := Int × Int
def bracket_Winner_enc (r : bracket_Winner_R) : LV × List Ob := (.tup [.int .i64 r.1, .int .i64 r.2], [])
def bracket_Winner_sp (F : bracket_Winner_X → Option bracket_Winner_R) : Go.Tx.Spec := ⟨37, bracket_Winner_ps, bracket_Winner_R, F, bracket_Winner_enc⟩
def bracket_Winner_if (x : bracket_Winner_X) : Bool := decide ((idsI x.1.1).length ≤ 1000) && decide ((idsI x.1.2.1).length ≤ 1000) && all64B (idsI x.1.1)
def F_bracket_Winner (d : Nat) (x : bracket_Winner_X) : Option bracket_Winner_R := bif bracket_Winner_if x then some ((brWinner (idsI x.1.1) (idsI x.1.2.1)).1, (brWinner (idsI x.1.1) (idsI x.1.2.1)).2) else none
theorem F_bracket_Winner_eq (d : Nat) (x : bracket_Winner_X) (h : bracket_Winner_if x = true) : F_bracket_Winner d x = some ((brWinner (idsI x.1.1) (idsI x.1.2.1)).1, (brWinner (idsI x.1.1) (idsI x.1.2.1)).2) := by unfold F_bracket_Winner; rw [h]; rfl
theorem bracket_Winner_cok (d : Nat) : COK prog (bracket_Winner_sp (F_bracket_Winner d)) := by
  refine cok_old (body_of (fn := f37) (by kernel_rfl) (by kernel_rfl) (by kernel_rfl)) fun x r hx w φ vs hφ hv => ?_
  have hx : F_bracket_Winner d x = some r := hx
  unfold F_bracket_Winner at hx
  obtain ⟨hc, rfl⟩ := bif_some hx
  have hv : VRs (Emb.fro φ) [.agg [.fz RI x.1.1, .fz RI x.1.2.1]] vs := hv
  obtain ⟨v0, rfl, q0⟩ := vrs1 hv
  obtain ⟨A0, c0, B0, e0, rfl, s0, t0, z0, y0⟩ := vr_bracket hφ q0
  unfold bracket_Winner_if at hc
  simp only [Bool.and_eq_true] at hc
  obtain ⟨⟨h1, h2⟩, h3⟩ := hc
  replace h1 := of_decide_eq_true h1
  replace h2 := of_decide_eq_true h2
  refine (bwinner_any A0 B0 c0 e0 (idsI x.1.1) (idsI x.1.2.1) w s0 t0 h1 h2 (all64B_iff h3)).mono ?_
  rintro e w' ⟨rfl, y, rfl⟩
  exact gives_pure hφ (VR.tupL (VRs.cons (.int _ _) (VRs.cons (.int _ _) VRs.nil))) y
abbrev ref10_Winner_ps : List Pk := [.row RLiELiE true]
abbrev ref10_Winner_X : Type := DLiELiE × Unit
abbrev ref10_Winner_R : Type := Int × Int
def ref10_Winner_enc (r : ref10_Winner_R) : LV × List Ob := (.tup [.int .i64 r.1, .int .i64 r.2], [])
def ref10_Winner_sp (F : ref10_Winner_X → Option ref10_Winner_R) : Go.Tx.Spec := ⟨38, ref10_Winner_ps, ref10_Winner_R, F, ref10_Winner_enc⟩
def ref10_Winner_if (x : ref10_Winner_X) : Bool := decide ((idsI x.1.1).length ≤ 1000) && decide ((idsI x.1.2.1).length ≤ 1000)
def F_ref10_Winner (d : Nat) (x : ref10_Winner_X) : Option ref10_Winner_R := bif ref10_Winner_if x then some ((brWinner (idsI x.1.1) (idsI x.1.2.1)).1, (brWinner (idsI x.1.1) (idsI x.1.2.1)).2) else none
theorem F_ref10_Winner_eq (d : Nat) (x : ref10_Winner_X) (h : ref10_Winner_if x = true) : F_ref10_Winner d x = some ((brWinner (idsI x.1.1) (idsI x.1.2.1)).1, (brWinner (idsI x.1.1) (idsI x.1.2.1)).2) := by unfold F_ref10_Winner; rw [h]; rfl
theorem ref10_Winner_cok (d : Nat) : COK prog (ref10_Winner_sp (F_ref10_Winner d)) := by
  refine cok_old (body_of (fn := f38) (by kernel_rfl) (by kernel_rfl) (by kernel_rfl)) fun x r hx w φ vs hφ hv => ?_
  have hx : F_ref10_Winner d x = some r := hx
  unfold F_ref10_Winner at hx
  obtain ⟨hc, rfl⟩ := bif_some hx
  have hv : VRs (Emb.fro φ) [.agg [.fz RI x.1.1, .fz RI x.1.2.1]] vs := hv
  obtain ⟨v0, rfl, q0⟩ := vrs1 hv
  obtain ⟨A0, c0, B0, e0, rfl, s0, t0, z0, y0⟩ := vr_bracket hφ q0
  unfold ref10_Winner_if at hc
  simp only [Bool.and_eq_true] at hc
  obtain ⟨h1, h2⟩ := hc
  replace h1 := of_decide_eq_true h1
  replace h2 := of_decide_eq_true h2
  refine (rwinner_any A0 B0 c0 e0 (idsI x.1.1) (idsI x.1.2.1) w s0 t0 h1 h2).mono ?_
  rintro e w' ⟨rfl, y, rfl⟩
  exact gives_pure hφ (VR.tupL (VRs.cons (.int _ _) (VRs.cons (.int _ _) VRs.nil))) y
abbrev bracket_Path_ps : List Pk := [.row RLiELiE true, .row Ri false]
abbrev bracket_Path_X : Type := DLiELiE × Di × Unit
abbrev bracket_Path_R : Type := List Di × Int
def bracket_Path_enc (r : bracket_Path_R) : LV × List Ob := (.tup [.rs 0, .int .i64 r.2], [.rows Ri r.1])
def bracket_Path_sp (F : bracket_Path_X → Option bracket_Path_R) : Go.Tx.Spec := ⟨39, bracket_Path_ps, bracket_Path_R, F, bracket_Path_enc⟩
def bracket_Path_if (x : bracket_Path_X) : Bool := decide ((idsI x.1.1).length ≤ 1000) && decide ((idsI x.1.2.1).length ≤ 1000) && all64B (idsI x.1.1)
def F_bracket_Path (d : Nat) (x : bracket_Path_X) : Option bracket_Path_R := bif bracket_Path_if x then some (unI (brPath (idsI x.1.1) (idsI x.1.2.1) x.2.1.1).1, (brPath (idsI x.1.1) (idsI x.1.2.1) x.2.1.1).2) else none
theorem F_bracket_Path_eq (d : Nat) (x : bracket_Path_X) (h : bracket_Path_if x = true) : F_bracket_Path d x = some (unI (brPath (idsI x.1.1) (idsI x.1.2.1) x.2.1.1).1, (brPath (idsI x.1.1) (idsI x.1.2.1) x.2.1.1).2) := by unfold F_bracket_Path; rw [h]; rfl
theorem bracket_Path_cok (d : Nat) : COK prog (bracket_Path_sp (F_bracket_Path d)) := by
  refine cok_old (body_of (fn := f39) (by kernel_rfl) (by kernel_rfl) (by kernel_rfl)) fun x r hx w φ vs hφ hv => ?_
  have hx : F_bracket_Path d x = some r := hx
  unfold F_bracket_Path at hx
  obtain ⟨hc, rfl⟩ := bif_some hx
  have hv : VRs (Emb.fro φ) [.agg [.fz RI x.1.1, .fz RI x.1.2.1], .int .i64 x.2.1.1] vs := hv
  obtain ⟨v0, vs, rfl, q0, hv⟩ := VRs.uncons hv
  obtain ⟨v1, rfl, q1⟩ := vrs1 hv
  obtain ⟨A0, c0, B0, e0, rfl, s0, t0, z0, y0⟩ := vr_bracket hφ q0
  have r1 := vr_int q1; subst r1
  unfold bracket_Path_if at hc
  simp only [Bool.and_eq_true] at hc
  obtain ⟨⟨h1, h2⟩, h3⟩ := hc
  replace h1 := of_decide_eq_true h1
  replace h2 := of_decide_eq_true h2
  refine (bpath_any A0 B0 c0 e0 (idsI x.1.1) (idsI x.1.2.1) x.2.1.1 w s0 t0 h1 h2 (all64B_iff h3)).mono ?_
  rintro e w' ⟨A', c', rfl, y, rfl, ho⟩
  exact gives_own hφ (τ := Ri) rfl (unI_len _) ho (valsL_unI _) fun η e0 => VR.tupL (VRs.cons (.rs e0) (VRs.cons (.int _ _) VRs.nil))
abbrev ref10_Path_ps : List Pk := [.row RLiELiE true, .row Ri false]
abbrev ref10_Path_X : Type := DLiELiE × Di × Unit
abbrev ref10_Path_R : Type := List Di × Int
def ref10_Path_enc (r : ref10_Path_R) : LV × List Ob := (.tup [.rs 0, .int .i64 r.2], [.rows Ri r.1])
def ref10_Path_sp (F : ref10_Path_X → Option ref10_Path_R) : Go.Tx.Spec := ⟨40, ref10_Path_ps, ref10_Path_R, F, ref10_Path_enc⟩
def ref10_Path_if (x : ref10_Path_X) : Bool := decide ((idsI x.1.1).length ≤ 1000) && decide ((idsI x.1.2.1).length ≤ 1000)
def F_ref10_Path (d : Nat) (x : ref10_Path_X) : Option ref10_Path_R := bif ref10_Path_if x then some (unI (brPath (idsI x.1.1) (idsI x.1.2.1) x.2.1.1).1, (brPath (idsI x.1.1) (idsI x.1.2.1) x.2.1.1).2) else none
theorem F_ref10_Path_eq (d : Nat) (x : ref10_Path_X) (h : ref10_Path_if x = true) : F_ref10_Path d x = some (unI (brPath (idsI x.1.1) (idsI x.1.2.1) x.2.1.1).1, (brPath (idsI x.1.1) (idsI x.1.2.1) x.2.1.1).2) := by unfold F_ref10_Path; rw [h]; rfl
theorem ref10_Path_cok (d : Nat) : COK prog (ref10_Path_sp (F_ref10_Path d)) := by
  refine cok_old (body_of (fn := f40) (by kernel_rfl) (by kernel_rfl) (by kernel_rfl)) fun x r hx w φ vs hφ hv => ?_
  have hx : F_ref10_Path d x = some r := hx
  unfold F_ref10_Path at hx
  obtain ⟨hc, rfl⟩ := bif_some hx
  have hv : VRs (Emb.fro φ) [.agg [.fz RI x.1.1, .fz RI x.1.2.1], .int .i64 x.2.1.1] vs := hv
  obtain ⟨v0, vs, rfl, q0, hv⟩ := VRs.uncons hv
  obtain ⟨v1, rfl, q1⟩ := vrs1 hv
  obtain ⟨A0, c0, B0, e0, rfl, s0, t0, z0, y0⟩ := vr_bracket hφ q0
  have r1 := vr_int q1; subst r1
  unfold ref10_Path_if at hc
  simp only [Bool.and_eq_true] at hc
  obtain ⟨h1, h2⟩ := hc
  replace h1 := of_decide_eq_true h1
  replace h2 := of_decide_eq_true h2
  refine (rpath_any A0 B0 c0 e0 (idsI x.1.1) (idsI x.1.2.1) x.2.1.1 w s0 t0 h1 h2).mono ?_
  rintro e w' ⟨A', c', rfl, y, rfl, ho⟩
  exact gives_own hφ (τ := Ri) rfl (unI_len _) ho (valsL_unI _) fun η e0 => VR.tupL (VRs.cons (.rs e0) (VRs.cons (.int _ _) VRs.nil))
abbrev bracket_Right_ps : List Pk := [.row RLiELiE true, .row RLiiiE true, .row Rii true]
abbrev bracket_Right_X : Type := DLiELiE × DLiiiE × Dii × Unit
abbrev bracket_Right_R : Type := Bool × Int
def bracket_Right_enc (r : bracket_Right_R) : LV × List Ob := (.tup [.bool r.1, .int .i64 r.2], [])
def bracket_Right_sp (F : bracket_Right_X → Option bracket_Right_R) : Go.Tx.Spec := ⟨41, bracket_Right_ps, bracket_Right_R, F, bracket_Right_enc⟩
def bracket_Right_if (x : bracket_Right_X) : Bool := decide ((idsI x.1.1).length ≤ 1000) && decide ((idsI x.1.2.1).length ≤ 1000) && decide ((ptsL x.2.1.1).length ≤ 1000000) && all64B (idsI x.1.1) && i64B x.2.2.1.1 && i64B x.2.2.1.2.1
def F_bracket_Right (d : Nat) (x : bracket_Right_X) : Option bracket_Right_R := bif bracket_Right_if x then some ((brRight (ptsL x.2.1.1) x.2.2.1.1 x.2.2.1.2.1 (idsI x.1.1) (idsI x.1.2.1)).1, (brRight (ptsL x.2.1.1) x.2.2.1.1 x.2.2.1.2.1 (idsI x.1.1) (idsI x.1.2.1)).2) else none
theorem F_bracket_Right_eq (d : Nat) (x : bracket_Right_X) (h : bracket_Right_if x = true) : F_bracket_Right d x = some ((brRight (ptsL x.2.1.1) x.2.2.1.1 x.2.2.1.2.1 (idsI x.1.1) (idsI x.1.2.1)).1, (brRight (ptsL x.2.1.1) x.2.2.1.1 x.2.2.1.2.1 (idsI x.1.1) (idsI x.1.2.1)).2) := by unfold F_bracket_Right; rw [h]; rfl
theorem bracket_Right_cok (d : Nat) : COK prog (bracket_Right_sp (F_bracket_Right d)) := by
  refine cok_old (body_of (fn := f41) (by kernel_rfl) (by kernel_rfl) (by kernel_rfl)) fun x r hx w φ vs hφ hv => ?_
  have hx : F_bracket_Right d x = some r := hx
  unfold F_bracket_Right at hx
  obtain ⟨hc, rfl⟩ := bif_some hx
  have hv : VRs (Emb.fro φ) [.agg [.fz RI x.1.1, .fz RI x.1.2.1], .agg [.fz RP x.2.1.1], .agg [.int .i64 x.2.2.1.1, .int .i64 x.2.2.1.2.1]] vs := hv
  obtain ⟨v0, vs, rfl, q0, hv⟩ := VRs.uncons hv
  obtain ⟨v1, vs, rfl, q1, hv⟩ := VRs.uncons hv
  obtain ⟨v2, rfl, q2⟩ := vrs1 hv
  obtain ⟨A0, c0, B0, e0, rfl, s0, t0, z0, y0⟩ := vr_bracket hφ q0
  obtain ⟨A1, c1, rfl, s1, z1⟩ := vr_fld hφ q1
  have r2 := vr_ratio q2; subst r2
  unfold bracket_Right_if at hc
  simp only [Bool.and_eq_true] at hc
  obtain ⟨⟨⟨⟨⟨h1, h2⟩, h3⟩, h4⟩, h5⟩, h6⟩ := hc
  replace h1 := of_decide_eq_true h1
  replace h2 := of_decide_eq_true h2
  replace h3 := of_decide_eq_true h3
  refine (bright_any A0 B0 A1 c0 e0 c1 (idsI x.1.1) (idsI x.1.2.1) (ptsL x.2.1.1) x.2.2.1.1 x.2.2.1.2.1 w (i64B_iff h5) (i64B_iff h6) s0 t0 s1 h1 h2 h3 (all64B_iff h4)).mono ?_
  rintro e w' ⟨rfl, y, rfl⟩
  exact gives_pure hφ (VR.tupL (VRs.cons (.bool _) (VRs.cons (.int _ _) VRs.nil))) y
abbrev ref10_Right_ps : List Pk := [.row RLiELiE true, .row RLiiiE true, .row Rii true]
abbrev ref10_Right_X : Type := DLiELiE × DLiiiE × Dii × Unit
abbrev ref10_Right_R : Type := Bool × Int
def ref10_Right_enc (r : ref10_Right_R) : LV × List Ob := (.tup [.bool r.1, .int .i64 r.2], [])
def ref10_Right_sp (F : ref10_Right_X → Option ref10_Right_R) : Go.Tx.Spec := ⟨42, ref10_Right_ps, ref10_Right_R, F, ref10_Right_enc⟩
def ref10_Right_if (x : ref10_Right_X) : Bool := decide ((idsI x.1.1).length ≤ 1000) && decide ((idsI x.1.2.1).length ≤ 1000) && decide ((ptsL x.2.1.1).length ≤ 1000000) && i64B x.2.2.1.1 && i64B x.2.2.1.2.1
def F_ref10_Right (d : Nat) (x : ref10_Right_X) : Option ref10_Right_R := bif ref10_Right_if x then some ((brRight (ptsL x.2.1.1) x.2.2.1.1 x.2.2.1.2.1 (idsI x.1.1) (idsI x.1.2.1)).1, (brRight (ptsL x.2.1.1) x.2.2.1.1 x.2.2.1.2.1 (idsI x.1.1) (idsI x.1.2.1)).2) else none
theorem F_ref10_Right_eq (d : Nat) (x : ref10_Right_X) (h : ref10_Right_if x = true) : F_ref10_Right d x = some ((brRight (ptsL x.2.1.1) x.2.2.1.1 x.2.2.1.2.1 (idsI x.1.1) (idsI x.1.2.1)).1, (brRight (ptsL x.2.1.1) x.2.2.1.1 x.2.2.1.2.1 (idsI x.1.1) (idsI x.1.2.1)).2) := by unfold F_ref10_Right; rw [h]; rfl
theorem ref10_Right_cok (d : Nat) : COK prog (ref10_Right_sp (F_ref10_Right d)) := by
  refine cok_old (body_of (fn := f42) (by kernel_rfl) (by kernel_rfl) (by kernel_rfl)) fun x r hx w φ vs hφ hv => ?_
  have hx : F_ref10_Right d x = some r := hx
  unfold F_ref10_Right at hx
  obtain ⟨hc, rfl⟩ := bif_some hx
  have hv : VRs (Emb.fro φ) [.agg [.fz RI x.1.1, .fz RI x.1.2.1], .agg [.fz RP x.2.1.1], .agg [.int .i64 x.2.2.1.1, .int .i64 x.2.2.1.2.1]] vs := hv
  obtain ⟨v0, vs, rfl, q0, hv⟩ := VRs.uncons hv
  obtain ⟨v1, vs, rfl, q1, hv⟩ := VRs.uncons hv
  obtain ⟨v2, rfl, q2⟩ := vrs1 hv
  obtain ⟨A0, c0, B0, e0, rfl, s0, t0, z0, y0⟩ := vr_bracket hφ q0
  obtain ⟨A1, c1, rfl, s1, z1⟩ := vr_fld hφ q1
  have r2 := vr_ratio q2; subst r2
  unfold ref10_Right_if at hc
  simp only [Bool.and_eq_true] at hc
  obtain ⟨⟨⟨⟨h1, h2⟩, h3⟩, h4⟩, h5⟩ := hc
  replace h1 := of_decide_eq_true h1
  replace h2 := of_decide_eq_true h2
  replace h3 := of_decide_eq_true h3
  refine (rright_any A0 B0 A1 c0 e0 c1 (idsI x.1.1) (idsI x.1.2.1) (ptsL x.2.1.1) x.2.2.1.1 x.2.2.1.2.1 w (i64B_iff h4) (i64B_iff h5) s0 t0 s1 h1 h2 h3).mono ?_
  rintro e w' ⟨rfl, y, rfl⟩
  exact gives_pure hφ (VR.tupL (VRs.cons (.bool _) (VRs.cons (.int _ _) VRs.nil))) y
abbrev bracket_Check_ps : List Pk := [.row RLiELiE true]
abbrev bracket_Check_X : Type := DLiELiE × Unit
abbrev bracket_Check_R : Type := Int
def bracket_Check_enc (r : bracket_Check_R) : LV × List Ob := (.int .i64 r, [])
def bracket_Check_sp (F : bracket_Check_X → Option bracket_Check_R) : Go.Tx.Spec := ⟨43, bracket_Check_ps, bracket_Check_R, F, bracket_Check_enc⟩
def bracket_Check_if (x : bracket_Check_X) : Bool := decide ((idsI x.1.1).length ≤ 1000) && decide ((idsI x.1.2.1).length ≤ 1000) && all64B (idsI x.1.1)
def F_bracket_Check (d : Nat) (x : bracket_Check_X) : Option bracket_Check_R := bif bracket_Check_if x then some (brChk (idsI x.1.1) (idsI x.1.2.1)) else none
theorem F_bracket_Check_eq (d : Nat) (x : bracket_Check_X) (h : bracket_Check_if x = true) : F_bracket_Check d x = some (brChk (idsI x.1.1) (idsI x.1.2.1)) := by unfold F_bracket_Check; rw [h]; rfl
theorem bracket_Check_cok (d : Nat) : COK prog (bracket_Check_sp (F_bracket_Check d)) := by
  refine cok_old (body_of (fn := f43) (by kernel_rfl) (by kernel_rfl) (by kernel_rfl)) fun x r hx w φ vs hφ hv => ?_
  have hx : F_bracket_Check d x = some r := hx
  unfold F_bracket_Check at hx
  obtain ⟨hc, rfl⟩ := bif_some hx
  have hv : VRs (Emb.fro φ) [.agg [.fz RI x.1.1, .fz RI x.1.2.1]] vs := hv
  obtain ⟨v0, rfl, q0⟩ := vrs1 hv
  obtain ⟨A0, c0, B0, e0, rfl, s0, t0, z0, y0⟩ := vr_bracket hφ q0
  unfold bracket_Check_if at hc
  simp only [Bool.and_eq_true] at hc
  obtain ⟨⟨h1, h2⟩, h3⟩ := hc
  replace h1 := of_decide_eq_true h1
  replace h2 := of_decide_eq_true h2
  refine (bcheck_any A0 B0 c0 e0 (idsI x.1.1) (idsI x.1.2.1) w s0 t0 h1 h2 (all64B_iff h3)).mono ?_
  rintro e w' ⟨rfl, y, rfl⟩
  exact gives_pure hφ (.int _ _) y
abbrev ref10_Check_ps : List Pk := [.row RLiELiE true]
abbrev ref10_Check_X : Type := DLiELiE × Unit
abbrev ref10_Check_R : Type := Int
def ref10_Check_enc (r : ref10_Check_R) : LV × List Ob := (.int .i64 r, [])
def ref10_Check_sp (F : ref10_Check_X → Option ref10_Check_R) : Go.Tx.Spec := ⟨44, ref10_Check_ps, ref10_Check_R, F, ref10_Check_enc⟩
def ref10_Check_if (x : ref10_Check_X) : Bool := decide ((idsI x.1.1).length ≤ 1000) && decide ((idsI x.1.2.1).length ≤ 1000)
def F_ref10_Check (d : Nat) (x : ref10_Check_X) : Option ref10_Check_R := bif ref10_Check_if x then some (brChk (idsI x.1.1) (idsI x.1.2.1)) else none
theorem F_ref10_Check_eq (d : Nat) (x : ref10_Check_X) (h : ref10_Check_if x = true) : F_ref10_Check d x = some (brChk (idsI x.1.1) (idsI x.1.2.1)) := by unfold F_ref10_Check; rw [h]; rfl
theorem ref10_Check_cok (d : Nat) : COK prog (ref10_Check_sp (F_ref10_Check d)) := by
  refine cok_old (body_of (fn := f44) (by kernel_rfl) (by kernel_rfl) (by kernel_rfl)) fun x r hx w φ vs hφ hv => ?_
  have hx : F_ref10_Check d x = some r := hx
  unfold F_ref10_Check at hx
  obtain ⟨hc, rfl⟩ := bif_some hx
  have hv : VRs (Emb.fro φ) [.agg [.fz RI x.1.1, .fz RI x.1.2.1]] vs := hv
  obtain ⟨v0, rfl, q0⟩ := vrs1 hv
  obtain ⟨A0, c0, B0, e0, rfl, s0, t0, z0, y0⟩ := vr_bracket hφ q0
  unfold ref10_Check_if at hc
  simp only [Bool.and_eq_true] at hc
  obtain ⟨h1, h2⟩ := hc
  replace h1 := of_decide_eq_true h1
  replace h2 := of_decide_eq_true h2
  refine (rcheck_any A0 B0 c0 e0 (idsI x.1.1) (idsI x.1.2.1) w s0 t0 h1 h2).mono ?_
  rintro e w' ⟨rfl, y, rfl⟩
  exact gives_pure hφ (.int _ _) y
abbrev ref10_Same_ps : List Pk := [.row RLiELiE true, .row RLiELiE true]
abbrev ref10_Same_X : Type := DLiELiE × DLiELiE × Unit
abbrev ref10_Same_R : Type := Bool
def ref10_Same_enc (r : ref10_Same_R) : LV × List Ob := (.bool r, [])
def ref10_Same_sp (F : ref10_Same_X → Option ref10_Same_R) : Go.Tx.Spec := ⟨33, ref10_Same_ps, ref10_Same_R, F, ref10_Same_enc⟩
def ref10_Same_if (x : ref10_Same_X) : Bool := decide ((idsI x.1.1).length ≤ 1000000) && decide ((idsI x.1.2.1).length ≤ 1000000) && decide ((idsI x.2.1.1).length ≤ 1000000) && decide ((idsI x.2.1.2.1).length ≤ 1000000)
def F_ref10_Same (d : Nat) (x : ref10_Same_X) : Option ref10_Same_R := bif ref10_Same_if x then some (decide ((idsI x.1.1) = (idsI x.2.1.1)) && decide ((idsI x.1.2.1) = (idsI x.2.1.2.1))) else none
theorem F_ref10_Same_eq (d : Nat) (x : ref10_Same_X) (h : ref10_Same_if x = true) : F_ref10_Same d x = some (decide ((idsI x.1.1) = (idsI x.2.1.1)) && decide ((idsI x.1.2.1) = (idsI x.2.1.2.1))) := by unfold F_ref10_Same; rw [h]; rfl
theorem ref10_Same_cok (d : Nat) : COK prog (ref10_Same_sp (F_ref10_Same d)) := by
  refine cok_old (body_of (fn := f33) (by kernel_rfl) (by kernel_rfl) (by kernel_rfl)) fun x r hx w φ vs hφ hv => ?_
  have hx : F_ref10_Same d x = some r := hx
  unfold F_ref10_Same at hx
  obtain ⟨hc, rfl⟩ := bif_some hx
  have hv : VRs (Emb.fro φ) [.agg [.fz RI x.1.1, .fz RI x.1.2.1], .agg [.fz RI x.2.1.1, .fz RI x.2.1.2.1]] vs := hv
  obtain ⟨v0, vs, rfl, q0, hv⟩ := VRs.uncons hv
  obtain ⟨v1, rfl, q1⟩ := vrs1 hv
  obtain ⟨A0, c0, B0, e0, rfl, s0, t0, z0, y0⟩ := vr_bracket hφ q0
  obtain ⟨A1, c1, B1, e1, rfl, s1, t1, z1, y1⟩ := vr_bracket hφ q1
  unfold ref10_Same_if at hc
  simp only [Bool.and_eq_true] at hc
  obtain ⟨⟨⟨h1, h2⟩, h3⟩, h4⟩ := hc
  replace h1 := of_decide_eq_true h1
  replace h2 := of_decide_eq_true h2
  replace h3 := of_decide_eq_true h3
  replace h4 := of_decide_eq_true h4
  refine (bsame_any A0 B0 A1 B1 c0 e0 c1 e1 (idsI x.1.1) (idsI x.1.2.1) (idsI x.2.1.1) (idsI x.2.1.2.1) w s0 t0 s1 t1 h1 h2 h3 h4).mono ?_
  rintro e w' ⟨rfl, y, rfl⟩
  exact gives_pure hφ (.bool _) y
abbrev ref10_Known_ps : List Pk := [.row RLiiiE true, .row RLiE false]
abbrev ref10_Known_X : Type := DLiiiE × DLiE × Unit
abbrev ref10_Known_R : Type := Bool
def ref10_Known_enc (r : ref10_Known_R) : LV × List Ob := (.bool r, [])
def ref10_Known_sp (F : ref10_Known_X → Option ref10_Known_R) : Go.Tx.Spec := ⟨59, ref10_Known_ps, ref10_Known_R, F, ref10_Known_enc⟩
def ref10_Known_if (x : ref10_Known_X) : Bool := decide ((ptsL x.1.1).length ≤ 1000000) && decide ((idsI x.2.1.1).length ≤ 1000000)
def F_ref10_Known (d : Nat) (x : ref10_Known_X) : Option ref10_Known_R := bif ref10_Known_if x then some (knownB (ptsL x.1.1) (idsI x.2.1.1)) else none
theorem F_ref10_Known_eq (d : Nat) (x : ref10_Known_X) (h : ref10_Known_if x = true) : F_ref10_Known d x = some (knownB (ptsL x.1.1) (idsI x.2.1.1)) := by unfold F_ref10_Known; rw [h]; rfl
theorem ref10_Known_cok (d : Nat) : COK prog (ref10_Known_sp (F_ref10_Known d)) := by
  refine cok_old (body_of (fn := f59) (by kernel_rfl) (by kernel_rfl) (by kernel_rfl)) fun x r hx w φ vs hφ hv => ?_
  have hx : F_ref10_Known d x = some r := hx
  unfold F_ref10_Known at hx
  obtain ⟨hc, rfl⟩ := bif_some hx
  have hv : VRs (Emb.fro φ) [.agg [.fz RP x.1.1], .fz RI x.2.1.1] vs := hv
  obtain ⟨v0, vs, rfl, q0, hv⟩ := VRs.uncons hv
  obtain ⟨v1, rfl, q1⟩ := vrs1 hv
  obtain ⟨A0, c0, rfl, s0, z0⟩ := vr_fld hφ q0
  obtain ⟨A1, c1, rfl, s1, z1⟩ := vr_idsI hφ q1
  unfold ref10_Known_if at hc
  simp only [Bool.and_eq_true] at hc
  obtain ⟨h1, h2⟩ := hc
  replace h1 := of_decide_eq_true h1
  replace h2 := of_decide_eq_true h2
  refine (rknown_any A0 A1 c0 c1 (ptsL x.1.1) (idsI x.2.1.1) w s0 s1 h1 h2).mono ?_
  rintro e w' ⟨rfl, y, rfl⟩
  exact gives_pure hφ (.bool _) y
abbrev bracket_timed_ps : List Pk := [.row RLiiiE true, .row Rii true]
abbrev bracket_timed_X : Type := DLiiiE × Dii × Unit
abbrev bracket_timed_R : Type := Int
def bracket_timed_enc (r : bracket_timed_R) : LV × List Ob := (.int .i64 r, [])
def bracket_timed_sp (F : bracket_timed_X → Option bracket_timed_R) : Go.Tx.Spec := ⟨74, bracket_timed_ps, bracket_timed_R, F, bracket_timed_enc⟩
def bracket_timed_if (x : bracket_timed_X) : Bool := i64B x.2.1.1 && i64B x.2.1.2.1
def F_bracket_timed (d : Nat) (x : bracket_timed_X) : Option bracket_timed_R := bif bracket_timed_if x then some (timed (ptsL x.1.1) x.2.1.1 x.2.1.2.1) else none
theorem F_bracket_timed_eq (d : Nat) (x : bracket_timed_X) (h : bracket_timed_if x = true) : F_bracket_timed d x = some (timed (ptsL x.1.1) x.2.1.1 x.2.1.2.1) := by unfold F_bracket_timed; rw [h]; rfl
theorem bracket_timed_cok (d : Nat) : COK prog (bracket_timed_sp (F_bracket_timed d)) := by
  refine cok_old (body_of (fn := f74) (by kernel_rfl) (by kernel_rfl) (by kernel_rfl)) fun x r hx w φ vs hφ hv => ?_
  have hx : F_bracket_timed d x = some r := hx
  unfold F_bracket_timed at hx
  obtain ⟨hc, rfl⟩ := bif_some hx
  have hv : VRs (Emb.fro φ) [.agg [.fz RP x.1.1], .agg [.int .i64 x.2.1.1, .int .i64 x.2.1.2.1]] vs := hv
  obtain ⟨v0, vs, rfl, q0, hv⟩ := VRs.uncons hv
  obtain ⟨v1, rfl, q1⟩ := vrs1 hv
  obtain ⟨A0, c0, rfl, s0, z0⟩ := vr_fld hφ q0
  have r1 := vr_ratio q1; subst r1
  unfold bracket_timed_if at hc
  simp only [Bool.and_eq_true] at hc
  obtain ⟨h1, h2⟩ := hc
  refine (btimed_any A0 c0 (ptsL x.1.1) x.2.1.1 x.2.1.2.1 w (i64B_iff h1) (i64B_iff h2) s0).mono ?_
  rintro e w' ⟨rfl, y, rfl⟩
  exact gives_pure hφ (.int _ _) y
end Go.Proofs.Ytkcpnclgcmnlcaa
