/- Walks of the references; the orders agree; examples. -/
import Derived.Shelf.Spec.BitsCarry
import Derived.Test.YtdpnndpbbdhnmaaGc
set_option linter.unusedSimpArgs false
set_option linter.unusedVariables false
namespace Go.Proofs.Ytdpnndpbbdhnmaa
open Go Go.Tx Go.RowKit Go.Pel
end Go.Proofs.Ytdpnndpbbdhnmaa

namespace Go.Tx
open Go
def insL {α : Type} (lt : α → α → Bool) (x : α) : List α → List α
  | [] => [x]
  | y :: ys => bif lt x y then x :: y :: ys else y :: insL lt x ys
def sortL {α : Type} (lt : α → α → Bool) : List α → List α
  | [] => []
  | x :: xs => insL lt x (sortL lt xs)
theorem insL_perm {α : Type} (lt : α → α → Bool) (x : α) : ∀ l : List α, (insL lt x l).Perm (x :: l)
  | [] => .refl _
  | y :: ys => by
    rw [insL]
    cases lt x y with
    | true => exact .refl _
    | false => exact ((insL_perm lt x ys).cons y).trans (.swap x y ys)
theorem sortL_perm {α : Type} (lt : α → α → Bool) : ∀ l : List α, (sortL lt l).Perm l
  | [] => .refl _
  | x :: xs => by rw [sortL]; exact (insL_perm lt x _).trans ((sortL_perm lt xs).cons x)
theorem insL_pw {α : Type} {lt : α → α → Bool} {S : α → Prop} (has : ∀ a b, S a → S b → lt a b = true → lt b a = false) (hn : ∀ a b c, S a → S b → S c → lt a b = false → lt b c = false → lt a c = false) {x : α} (hx : S x) : ∀ l : List α, (∀ a ∈ l, S a) → l.Pairwise (fun a b => lt b a = false) → (insL lt x l).Pairwise (fun a b => lt b a = false)
  | [], _, _ => List.pairwise_singleton _ _
  | y :: ys, hS, hp => by
    obtain ⟨h1, h2⟩ := List.pairwise_cons.1 hp
    have hy := hS y (List.mem_cons_self ..)
    rw [insL]
    cases hl : lt x y with
    | true =>
      refine List.pairwise_cons.2 ⟨fun b hb => ?_, hp⟩
      have hyx := has x y hx hy hl
      rcases List.mem_cons.1 hb with rfl | hb
      · exact hyx
      · exact hn b y x (hS b (List.mem_cons_of_mem _ hb)) hy hx (h1 b hb) hyx
    | false =>
      refine List.pairwise_cons.2 ⟨fun b hb => ?_, insL_pw has hn hx ys (fun a ha => hS a (List.mem_cons_of_mem _ ha)) h2⟩
      rcases List.mem_cons.1 ((insL_perm lt x ys).mem_iff.1 hb) with rfl | hb
      · exact hl
      · exact h1 b hb
theorem sortL_pw {α : Type} {lt : α → α → Bool} {S : α → Prop} (has : ∀ a b, S a → S b → lt a b = true → lt b a = false) (hn : ∀ a b c, S a → S b → S c → lt a b = false → lt b c = false → lt a c = false) : ∀ l : List α, (∀ a ∈ l, S a) → (sortL lt l).Pairwise (fun a b => lt b a = false)
  | [], _ => .nil
  | x :: xs, hS => by
    rw [sortL]
    exact insL_pw has hn (hS x (List.mem_cons_self ..)) _ (fun a ha => hS a (List.mem_cons_of_mem _ ((sortL_perm lt xs).mem_iff.1 ha))) (sortL_pw has hn xs fun a ha => hS a (List.mem_cons_of_mem _ ha))
end Go.Tx

namespace Go.Pel
open Go Go.Tx
theorem ids_nodupI {l : List Pt} (h : incB l = true) : (l.map Pt.id).Nodup := by
  unfold List.Nodup
  rw [List.pairwise_iff_getElem]
  intro i j hi hj hij
  simp only [List.length_map] at hi hj
  have := inc_lt h hij (List.getElem?_eq_getElem hi) (List.getElem?_eq_getElem hj)
  simp; omega
theorem leads_key (p q : Pt) (n d : Int) : leads p q n d = true ↔ (q.a * d + q.b * n < p.a * d + p.b * n) ∨ (q.a * d + q.b * n = p.a * d + p.b * n ∧ (q.b < p.b ∨ (q.b = p.b ∧ p.id < q.id))) := by
  have e : farD p q n d = (p.a * d + p.b * n) - (q.a * d + q.b * n) := by unfold farD; rw [Int.sub_mul, Int.sub_mul]; omega
  unfold leads
  rw [e]
  generalize p.a * d + p.b * n = P
  generalize q.a * d + q.b * n = Q
  repeat' split
  all_goals simp only [decide_eq_true_eq]
  all_goals omega
def ordI (n d : Int) (l : List Pt) : List Pt := sortL (fun p q => leads p q n d) l
def fieldOrderI (l : List Pt) (n d : Int) : List Int × Int := if fieldChk l ≠ 0 then ([], fieldChk l) else if ratioChk n d ≠ 0 then ([], ratioChk n d) else ((ordI n d l).map Pt.id, 0)
theorem ordI_perm (n d : Int) (l : List Pt) : (ordI n d l).Perm l := sortL_perm _ l
theorem leads_f {p q : Pt} {n d : Int} (h : leads p q n d = false) : ¬ ((q.a * d + q.b * n < p.a * d + p.b * n) ∨ (q.a * d + q.b * n = p.a * d + p.b * n ∧ (q.b < p.b ∨ (q.b = p.b ∧ p.id < q.id)))) := by
  intro k; rw [(leads_key p q n d).2 k] at h; cases h
theorem ordI_pw (n d : Int) (l : List Pt) : (ordI n d l).Pairwise fun p q => leads q p n d = false := by
  refine sortL_pw (S := fun _ => True) (fun a b _ _ h => ?_) (fun a b c _ _ _ h1 h2 => ?_) l (fun _ _ => trivial)
  · rw [leads_key] at h
    rw [← Bool.not_eq_true, leads_key]; omega
  · have h1 := leads_f h1
    have h2 := leads_f h2
    rw [← Bool.not_eq_true, leads_key]; omega
theorem ordI_eq {n d : Int} {l : List Pt} (hinc : incB l = true) (hd : 1 ≤ d) : sortP n d l = ordI n d l := by
  refine List.Perm.eq_of_pairwise (le := fun p q => leads q p n d = false) ?_ ((sortP_pairwise (idsApart_inc hinc) (ids_nodupI hinc)).imp fun {a b} h => ?_) (ordI_pw n d l) ((sortP_perm n d l).trans (ordI_perm n d l).symm)
  · intro a b _ _ h k
    have h1 := leads_f h
    have h2 := leads_f k
    have e1 : a.b = b.b := by omega
    have e2 : a.id = b.id := by omega
    have e3 : a.a * d + a.b * n = b.a * d + b.b * n := by omega
    rw [e1] at e3
    have e4 : a.a * d = b.a * d := by omega
    have e5 := Int.eq_of_mul_eq_mul_right (by omega) e4
    obtain ⟨x, y, z⟩ := a
    obtain ⟨x', y', z'⟩ := b
    simp only at e1 e2 e5
    subst e1 e2 e5
    rfl
  · rw [leads_key] at h
    rw [← Bool.not_eq_true, leads_key]; omega
theorem order_I (l : List Pt) (n d : Int) : fieldOrder l n d = fieldOrderI l n d := by
  unfold fieldOrder fieldSorted fieldOrderI
  by_cases h1 : fieldChk l = 0
  · simp only [h1, ne_eq, not_true_eq_false, if_false]
    by_cases h2 : ratioChk n d = 0
    · simp only [h2, ne_eq, not_true_eq_false, if_false]
      rw [ordI_eq (fieldChk_zero h1).2.2 (ratioChk_zero h2).1]
    · simp only [h2, ne_eq, not_false_eq_true, if_true]
  · simp only [h1, ne_eq, not_false_eq_true, if_true]
end Go.Pel

namespace Go.Proofs.Ytdpnndpbbdhnmaa
open Go Go.Tx Go.Pel Go.Proofs.Try
set_option maxRecDepth 100000
set_option maxHeartbeats 0
abbrev course_compare_ps : List Pk := [.row Riii true, .row Riii true, .row Rii true]
abbrev course_compare_X : Type := Diii × Diii × Dii × Unit
abbrev course_compare_R : Type := Int
def course_compare_enc (r : course_compare_R) : LV × List Ob := (.int .i64 r, [])
def course_compare_sp (F : course_compare_X → Option course_compare_R) : Go.Tx.Spec := ⟨72, course_compare_ps, course_compare_R, F, course_compare_enc⟩
def course_compare_if (x : course_compare_X) : Bool := cmpInB (ofP x.1) (ofP x.2.1) x.2.2.1.1 x.2.2.1.2.1
def F_course_compare (d : Nat) (x : course_compare_X) : Option course_compare_R := bif course_compare_if x then some (cmpC (ofP x.1) (ofP x.2.1) x.2.2.1.1 x.2.2.1.2.1) else none
theorem F_course_compare_eq (d : Nat) (x : course_compare_X) (h : course_compare_if x = true) : F_course_compare d x = some (cmpC (ofP x.1) (ofP x.2.1) x.2.2.1.1 x.2.2.1.2.1) := by unfold F_course_compare; rw [h]; rfl
theorem course_compare_cok (d : Nat) : COK prog (course_compare_sp (F_course_compare d)) := by
  refine cok_old (body_of (fn := f72) (by kernel_rfl) (by kernel_rfl) (by kernel_rfl)) fun x r hx w φ vs hφ hv => ?_
  have hx : F_course_compare d x = some r := hx
  unfold F_course_compare at hx
  obtain ⟨hc, rfl⟩ := bif_some hx
  have hv : VRs (Emb.fro φ) [.agg [.int .i64 x.1.1, .int .i64 x.1.2.1, .int .i64 x.1.2.2.1], .agg [.int .i64 x.2.1.1, .int .i64 x.2.1.2.1, .int .i64 x.2.1.2.2.1], .agg [.int .i64 x.2.2.1.1, .int .i64 x.2.2.1.2.1]] vs := hv
  obtain ⟨v0, vs, rfl, q0, hv⟩ := VRs.uncons hv
  obtain ⟨v1, vs, rfl, q1, hv⟩ := VRs.uncons hv
  obtain ⟨v2, rfl, q2⟩ := vrs1 hv
  have r0 := vr_point (p := x.1) q0; subst r0
  have r1 := vr_point (p := x.2.1) q1; subst r1
  have r2 := vr_ratio q2; subst r2
  unfold course_compare_if at hc
  have h1 := hc
  refine (compare_any (ofP x.1) (ofP x.2.1) x.2.2.1.1 x.2.2.1.2.1 w (cmpInB_iff h1)).mono ?_
  rintro e w' ⟨rfl, y, rfl⟩
  exact gives_pure hφ (.int _ _) y
abbrev ref03_SameIDs_ps : List Pk := [.row RLiE false, .row RLiE false]
abbrev ref03_SameIDs_X : Type := DLiE × DLiE × Unit
abbrev ref03_SameIDs_R : Type := Bool
def ref03_SameIDs_enc (r : ref03_SameIDs_R) : LV × List Ob := (.bool r, [])
def ref03_SameIDs_sp (F : ref03_SameIDs_X → Option ref03_SameIDs_R) : Go.Tx.Spec := ⟨65, ref03_SameIDs_ps, ref03_SameIDs_R, F, ref03_SameIDs_enc⟩
def ref03_SameIDs_if (x : ref03_SameIDs_X) : Bool := decide ((idsI x.1.1).length ≤ 1000000) && decide ((idsI x.2.1.1).length ≤ 1000000)
def F_ref03_SameIDs (d : Nat) (x : ref03_SameIDs_X) : Option ref03_SameIDs_R := bif ref03_SameIDs_if x then some (decide ((idsI x.1.1) = (idsI x.2.1.1))) else none
theorem ref03_SameIDs_cok (d : Nat) : COK prog (ref03_SameIDs_sp (F_ref03_SameIDs d)) := by
  refine cok_old (body_of (fn := f65) (by kernel_rfl) (by kernel_rfl) (by kernel_rfl)) fun x r hx w φ vs hφ hv => ?_
  have hx : F_ref03_SameIDs d x = some r := hx
  unfold F_ref03_SameIDs at hx
  obtain ⟨hc, rfl⟩ := bif_some hx
  have hv : VRs (Emb.fro φ) [.fz RI x.1.1, .fz RI x.2.1.1] vs := hv
  obtain ⟨v0, vs, rfl, q0, hv⟩ := VRs.uncons hv
  obtain ⟨v1, rfl, q1⟩ := vrs1 hv
  obtain ⟨A0, c0, rfl, s0, z0⟩ := vr_idsI hφ q0
  obtain ⟨A1, c1, rfl, s1, z1⟩ := vr_idsI hφ q1
  unfold ref03_SameIDs_if at hc
  simp only [Bool.and_eq_true] at hc
  obtain ⟨h1, h2⟩ := hc
  replace h1 := of_decide_eq_true h1
  replace h2 := of_decide_eq_true h2
  refine (sameIDs_any A0 A1 c0 c1 (idsI x.1.1) (idsI x.2.1.1) w s0 s1 h1 h2).mono ?_
  rintro e w' ⟨rfl, y, rfl⟩
  exact gives_pure hφ (.bool _) y
abbrev field_Find_ps : List Pk := [.row RLiiiE true, .row Ri false]
abbrev field_Find_X : Type := DLiiiE × Di × Unit
abbrev field_Find_R : Type := Int × Int × Int × Int
def field_Find_enc (r : field_Find_R) : LV × List Ob := (.tup [.agg [.int .i64 r.1, .int .i64 r.2.1, .int .i64 r.2.2.1], .int .i64 r.2.2.2], [])
def field_Find_sp (F : field_Find_X → Option field_Find_R) : Go.Tx.Spec := ⟨45, field_Find_ps, field_Find_R, F, field_Find_enc⟩
def field_Find_if (x : field_Find_X) : Bool := true
def F_field_Find (d : Nat) (x : field_Find_X) : Option field_Find_R := bif field_Find_if x then some ((fieldFind (ptsL x.1.1) x.2.1.1).1.id, (fieldFind (ptsL x.1.1) x.2.1.1).1.a, (fieldFind (ptsL x.1.1) x.2.1.1).1.b, (fieldFind (ptsL x.1.1) x.2.1.1).2) else none
theorem F_field_Find_eq (d : Nat) (x : field_Find_X) (h : field_Find_if x = true) : F_field_Find d x = some ((fieldFind (ptsL x.1.1) x.2.1.1).1.id, (fieldFind (ptsL x.1.1) x.2.1.1).1.a, (fieldFind (ptsL x.1.1) x.2.1.1).1.b, (fieldFind (ptsL x.1.1) x.2.1.1).2) := by unfold F_field_Find; rw [h]; rfl
theorem field_Find_cok (d : Nat) : COK prog (field_Find_sp (F_field_Find d)) := by
  refine cok_old (body_of (fn := f45) (by kernel_rfl) (by kernel_rfl) (by kernel_rfl)) fun x r hx w φ vs hφ hv => ?_
  have hx : F_field_Find d x = some r := hx
  unfold F_field_Find at hx
  obtain ⟨hc, rfl⟩ := bif_some hx
  have hv : VRs (Emb.fro φ) [.agg [.fz RP x.1.1], .int .i64 x.2.1.1] vs := hv
  obtain ⟨v0, vs, rfl, q0, hv⟩ := VRs.uncons hv
  obtain ⟨v1, rfl, q1⟩ := vrs1 hv
  obtain ⟨A0, c0, rfl, s0, z0⟩ := vr_fld hφ q0
  have r1 := vr_int q1; subst r1
  refine (fieldFind_any A0 c0 (ptsL x.1.1) x.2.1.1 w s0).mono ?_
  rintro e w' ⟨rfl, y, rfl⟩
  exact gives_pure hφ (VR.tupL (VRs.cons (VR.aggL (VRs.cons (.int _ _) (VRs.cons (.int _ _) (VRs.cons (.int _ _) VRs.nil)))) (VRs.cons (.int _ _) VRs.nil))) y
abbrev field_Order_ps : List Pk := [.row RLiiiE true, .row Rii true]
abbrev field_Order_X : Type := DLiiiE × Dii × Unit
abbrev field_Order_R : Type := List Di × Int
def field_Order_enc (r : field_Order_R) : LV × List Ob := (.tup [.rs 0, .int .i64 r.2], [.rows Ri r.1])
def field_Order_sp (F : field_Order_X → Option field_Order_R) : Go.Tx.Spec := ⟨44, field_Order_ps, field_Order_R, F, field_Order_enc⟩
def field_Order_if (x : field_Order_X) : Bool := i64B x.2.1.1 && i64B x.2.1.2.1 && decide ((ptsL x.1.1).length ≤ 1000000)
def F_field_Order (d : Nat) (x : field_Order_X) : Option field_Order_R := bif field_Order_if x then some (unI (fieldOrderI (ptsL x.1.1) x.2.1.1 x.2.1.2.1).1, (fieldOrderI (ptsL x.1.1) x.2.1.1 x.2.1.2.1).2) else none
theorem F_field_Order_eq (d : Nat) (x : field_Order_X) (h : field_Order_if x = true) : F_field_Order d x = some (unI (fieldOrderI (ptsL x.1.1) x.2.1.1 x.2.1.2.1).1, (fieldOrderI (ptsL x.1.1) x.2.1.1 x.2.1.2.1).2) := by unfold F_field_Order; rw [h]; rfl
theorem field_Order_cok (d : Nat) : COK prog (field_Order_sp (F_field_Order d)) := by
  refine cok_old (body_of (fn := f44) (by kernel_rfl) (by kernel_rfl) (by kernel_rfl)) fun x r hx w φ vs hφ hv => ?_
  have hx : F_field_Order d x = some r := hx
  unfold F_field_Order at hx
  obtain ⟨hc, rfl⟩ := bif_some hx
  have hv : VRs (Emb.fro φ) [.agg [.fz RP x.1.1], .agg [.int .i64 x.2.1.1, .int .i64 x.2.1.2.1]] vs := hv
  obtain ⟨v0, vs, rfl, q0, hv⟩ := VRs.uncons hv
  obtain ⟨v1, rfl, q1⟩ := vrs1 hv
  obtain ⟨A0, c0, rfl, s0, z0⟩ := vr_fld hφ q0
  have r1 := vr_ratio q1; subst r1
  unfold field_Order_if at hc
  simp only [Bool.and_eq_true] at hc
  obtain ⟨⟨h1, h2⟩, h3⟩ := hc
  replace h3 := of_decide_eq_true h3
  refine ((order_I (ptsL x.1.1) x.2.1.1 x.2.1.2.1) ▸ order_any A0 c0 (ptsL x.1.1) x.2.1.1 x.2.1.2.1 w (i64B_iff h1) (i64B_iff h2) s0 z0 h3).mono ?_
  rintro e w' ⟨A', c', rfl, y, rfl, ho⟩
  exact gives_own hφ (τ := Ri) rfl (unI_len _) ho (valsL_unI _) fun η e0 => VR.tupL (VRs.cons (.rs e0) (VRs.cons (.int _ _) VRs.nil))
end Go.Proofs.Ytdpnndpbbdhnmaa

namespace Go.Proofs.Ytdpnndpbbdhnmaa
open Go Go.Tx Go.Proofs.Try
set_option maxRecDepth 100000
set_option maxHeartbeats 0
abbrev course_Meet_ps : List Pk := [.row Riii true, .row Riii true]
abbrev course_Meet_X : Type := Diii × Diii × Unit
abbrev course_Meet_R : Type := Int × Int × Int
def course_Meet_enc (r : course_Meet_R) : LV × List Ob := (.tup [.agg [.int .i64 r.1, .int .i64 r.2.1], .int .i64 r.2.2], [])
def course_Meet_sp (F : course_Meet_X → Option course_Meet_R) : Go.Tx.Spec := ⟨73, course_Meet_ps, course_Meet_R, F, course_Meet_enc⟩
abbrev course_Meet_C : Type := (course_two_X → Option course_two_R) × (ratio_Make_X → Option ratio_Make_R) × Unit
def course_Meet_K (d : Nat) : course_Meet_C := (F_course_two d, F_ratio_Make d, ())
def course_Meet_tab (C : course_Meet_C) : List Go.Tx.Spec := [course_two_sp C.1, ratio_Make_sp C.2.1]
abbrev course_Meet_Y0i : Type := Int × Int × Int × Int × Int × Int
def course_Meet_S0i (v : course_Meet_Y0i) : St := ⟨[(0, .agg [.int .i64 v.1, .int .i64 v.2.1, .int .i64 v.2.2.1]), (1, .agg [.int .i64 v.2.2.2.1, .int .i64 v.2.2.2.2.1, .int .i64 v.2.2.2.2.2])], []⟩
abbrev course_Meet_Y0 : Type := Int × Int × Int × Int × Int × Int × Int × Int
def course_Meet_S0 (v : course_Meet_Y0) : St := ⟨[(2, .ptr 0 0), (3, .ptr 1 0), (4, .ptr 2 0)], [.cells [.int .i64 v.1, .int .i64 v.2.1, .int .i64 v.2.2.1], .cells [.int .i64 v.2.2.2.1, .int .i64 v.2.2.2.2.1, .int .i64 v.2.2.2.2.2.1], .cells [.int .i64 v.2.2.2.2.2.2.1, .int .i64 v.2.2.2.2.2.2.2]]⟩
def course_Meet_r0 (C : course_Meet_C) (v : course_Meet_Y0i) : Dt course_Meet_Y0 := (Dt.ret (v.1, v.2.1, v.2.2.1, v.2.2.2.1, v.2.2.2.2.1, v.2.2.2.2.2, (0:Int), (0:Int)))
theorem course_Meet_g0 (C : course_Meet_C) (v : course_Meet_Y0i) : treg tysT (orc (course_Meet_tab C)) 34 (regO (bodyOf f73) 0) false [(2, .any), (3, .any), (4, .any)] (course_Meet_S0i v) some = (course_Meet_r0 C v).eval fun y => some (course_Meet_S0 y) := by kernel_rfl
abbrev course_Meet_Y1 : Type := Int × Int × Int × Int × Int × Int × Int × Int × Int
def course_Meet_S1 (v : course_Meet_Y1) : St := ⟨[(2, .ptr 0 0), (3, .ptr 1 0), (4, .ptr 2 0), (6, .int .i64 v.1)], [.cells [.int .i64 v.2.1, .int .i64 v.2.2.1, .int .i64 v.2.2.2.1], .cells [.int .i64 v.2.2.2.2.1, .int .i64 v.2.2.2.2.2.1, .int .i64 v.2.2.2.2.2.2.1], .cells [.int .i64 v.2.2.2.2.2.2.2.1, .int .i64 v.2.2.2.2.2.2.2.2]]⟩
def course_Meet_r1 (C : course_Meet_C) (v : course_Meet_Y0) : Dt course_Meet_Y1 := (Dt.bnd (C.1 ((v.1, v.2.1, v.2.2.1, ()), (v.2.2.2.1, v.2.2.2.2.1, v.2.2.2.2.2.1, ()), ((0:Int), (1:Int), ()), ())) fun r1 => (Dt.ret (r1, v.1, v.2.1, v.2.2.1, v.2.2.2.1, v.2.2.2.2.1, v.2.2.2.2.2.1, v.2.2.2.2.2.2.1, v.2.2.2.2.2.2.2)))
theorem course_Meet_g1 (C : course_Meet_C) (v : course_Meet_Y0) : treg tysT (orc (course_Meet_tab C)) 34 (regO (bodyOf f73) 1) false [(2, .any), (3, .any), (4, .any), (6, .any)] (course_Meet_S0 v) some = (course_Meet_r1 C v).eval fun y => some (course_Meet_S1 y) := by kernel_rfl
abbrev course_Meet_Y2 : Type := Int × Bool × Int × Int × Int × Int × Int × Int × Int × Int
def course_Meet_S2 (v : course_Meet_Y2) : St := ⟨[(2, .ptr 0 0), (3, .ptr 1 0), (4, .ptr 2 0), (6, .int .i64 v.1), (12, .bool v.2.1)], [.cells [.int .i64 v.2.2.1, .int .i64 v.2.2.2.1, .int .i64 v.2.2.2.2.1], .cells [.int .i64 v.2.2.2.2.2.1, .int .i64 v.2.2.2.2.2.2.1, .int .i64 v.2.2.2.2.2.2.2.1], .cells [.int .i64 v.2.2.2.2.2.2.2.2.1, .int .i64 v.2.2.2.2.2.2.2.2.2]]⟩
def course_Meet_r2 (C : course_Meet_C) (v : course_Meet_Y1) : Dt course_Meet_Y2 := (Dt.ret (v.1, (v.1 != (0:Int)), v.2.1, v.2.2.1, v.2.2.2.1, v.2.2.2.2.1, v.2.2.2.2.2.1, v.2.2.2.2.2.2.1, v.2.2.2.2.2.2.2.1, v.2.2.2.2.2.2.2.2))
theorem course_Meet_g2 (C : course_Meet_C) (v : course_Meet_Y1) : treg tysT (orc (course_Meet_tab C)) 34 (regO (bodyOf f73) 2) false [(2, .any), (3, .any), (4, .any), (6, .any), (12, .any)] (course_Meet_S1 v) some = (course_Meet_r2 C v).eval fun y => some (course_Meet_S2 y) := by kernel_rfl
abbrev course_Meet_Y3 : Type := Int × Int × Int
def course_Meet_S3 (v : course_Meet_Y3) : St := ⟨[(4, .ptr 0 0), (5, .int .i64 v.1)], [.cells [.int .i64 v.2.1, .int .i64 v.2.2]]⟩
def course_Meet_r3 (C : course_Meet_C) (v : course_Meet_Y2) : Dt course_Meet_Y3 := (Dt.ret (v.1, (0:Int), (0:Int)))
theorem course_Meet_g3 (C : course_Meet_C) (v : course_Meet_Y2) : treg tysT (orc (course_Meet_tab C)) 34 (regO (bodyOf f73) 3) false [(4, .any), (5, .any)] (course_Meet_S2 v) some = (course_Meet_r3 C v).eval fun y => some (course_Meet_S3 y) := by kernel_rfl
abbrev course_Meet_Y4 : Type := Bool × Int × Int × Int × Int × Int × Int × Int × Int
def course_Meet_S4 (v : course_Meet_Y4) : St := ⟨[(2, .ptr 0 0), (3, .ptr 1 0), (4, .ptr 2 0), (19, .bool v.1)], [.cells [.int .i64 v.2.1, .int .i64 v.2.2.1, .int .i64 v.2.2.2.1], .cells [.int .i64 v.2.2.2.2.1, .int .i64 v.2.2.2.2.2.1, .int .i64 v.2.2.2.2.2.2.1], .cells [.int .i64 v.2.2.2.2.2.2.2.1, .int .i64 v.2.2.2.2.2.2.2.2]]⟩
def course_Meet_r4 (C : course_Meet_C) (v : course_Meet_Y2) : Dt course_Meet_Y4 := (Dt.ret ((v.2.2.2.2.1 == v.2.2.2.2.2.2.2.1), v.2.2.1, v.2.2.2.1, v.2.2.2.2.1, v.2.2.2.2.2.1, v.2.2.2.2.2.2.1, v.2.2.2.2.2.2.2.1, v.2.2.2.2.2.2.2.2.1, v.2.2.2.2.2.2.2.2.2))
theorem course_Meet_g4 (C : course_Meet_C) (v : course_Meet_Y2) : treg tysT (orc (course_Meet_tab C)) 34 (regO (bodyOf f73) 4) false [(2, .any), (3, .any), (4, .any), (19, .any)] (course_Meet_S2 v) some = (course_Meet_r4 C v).eval fun y => some (course_Meet_S4 y) := by kernel_rfl
def course_Meet_r5 (C : course_Meet_C) (v : course_Meet_Y4) : Dt course_Meet_Y3 := (Dt.ret ((6:Int), (0:Int), (0:Int)))
theorem course_Meet_g5 (C : course_Meet_C) (v : course_Meet_Y4) : treg tysT (orc (course_Meet_tab C)) 34 (regO (bodyOf f73) 5) false [(4, .any), (5, .any)] (course_Meet_S4 v) some = (course_Meet_r5 C v).eval fun y => some (course_Meet_S3 y) := by kernel_rfl
def course_Meet_r6 (C : course_Meet_C) (v : course_Meet_Y4) : Dt course_Meet_Y3 := (Dt.bnd (C.2.1 (((IntKind.wrap .i64 (v.2.2.1 - v.2.2.2.2.2.1)), ()), ((IntKind.wrap .i64 (v.2.2.2.2.2.2.1 - v.2.2.2.1)), ()), ())) fun r1 => (Dt.ret (r1.2.2, r1.1, r1.2.1)))
theorem course_Meet_g6 (C : course_Meet_C) (v : course_Meet_Y4) : treg tysT (orc (course_Meet_tab C)) 34 (regO (bodyOf f73) 6) false [(4, .any), (5, .any)] (course_Meet_S4 v) some = (course_Meet_r6 C v).eval fun y => some (course_Meet_S3 y) := by kernel_rfl
def F_course_Meet (d : Nat) (x : course_Meet_X) : Option course_Meet_R :=
  (course_Meet_r0 (course_Meet_K d) (x.1.1, x.1.2.1, x.1.2.2.1, x.2.1.1, x.2.1.2.1, x.2.1.2.2.1)).eval fun y0 =>
  (course_Meet_r1 (course_Meet_K d) y0).eval fun y1 =>
  (course_Meet_r2 (course_Meet_K d) y1).eval fun y2 =>
  bif y2.2.1 then ((course_Meet_r3 (course_Meet_K d) y2).eval fun y3 =>
  some (y3.2.1, y3.2.2, y3.1)) else ((course_Meet_r4 (course_Meet_K d) y2).eval fun y4 =>
  bif y4.1 then ((course_Meet_r5 (course_Meet_K d) y4).eval fun y5 =>
  some (y5.2.1, y5.2.2, y5.1)) else ((course_Meet_r6 (course_Meet_K d) y4).eval fun y6 =>
  some (y6.2.1, y6.2.2, y6.1)))
theorem course_Meet_cok (d : Nat) : COK prog (course_Meet_sp (F_course_Meet d)) := by
  have hm : prog.follows .mixedOrders = true := mixed
  have hT := tys
  have hC0 : OrcOK prog (orc (course_Meet_tab (course_Meet_K d))) := orc_ok (by
    intro S hS
    simp only [course_Meet_tab, List.mem_cons, List.not_mem_nil, or_false] at hS
    rcases hS with rfl | rfl
    · exact course_two_cok d
    · exact ratio_Make_cok d)
  have hC : OrcOK prog (orc (course_Meet_tab (course_Meet_K d))) := hC0
  refine cok_of (c := bodyOf f73) (fn := f73) hT (by kernel_rfl) (by kernel_rfl) (by decide) fun x r h w0 φ0 Q hend => ?_
  replace h : F_course_Meet d x = some r := h
  unfold F_course_Meet at h
  show Run prog w0 φ0 34 (bodyOf f73) ⟨[(0, .agg [.int .i64 x.1.1, .int .i64 x.1.2.1, .int .i64 x.1.2.2.1]), (1, .agg [.int .i64 x.2.1.1, .int .i64 x.2.1.2.1, .int .i64 x.2.1.2.2.1])], []⟩ Q
  refine run_seq ?_
  refine run_reg hm hT hC (course_Meet_g0 (course_Meet_K d) (x.1.1, x.1.2.1, x.1.2.2.1, x.2.1.1, x.2.1.2.1, x.2.1.2.2.1)) h ?_
  intro y0 h
  refine cn_then ?_
  refine run_seq ?_
  refine run_seq ?_
  refine run_reg hm hT hC (course_Meet_g1 (course_Meet_K d) y0) h ?_
  intro y1 h
  refine cn_then ?_
  refine run_seq ?_
  refine run_reg hm hT hC (course_Meet_g2 (course_Meet_K d) y1) h ?_
  intro y2 h
  refine cn_then ?_
  refine run_cond (v := y2.2.1) (by kernel_rfl) h ?_ ?_
  ·
    intro h
    refine run_seq ?_
    refine run_reg hm hT hC (course_Meet_g3 (course_Meet_K d) y2) h ?_
    intro y3 h
    refine cn_then ?_
    refine run_ret ?_
    refine cn_then_ret ?_
    cases h
    exact (hend _ (by kernel_rfl)).2
  ·
    intro h
    refine run_skip ?_
    refine cn_then ?_
    refine run_seq ?_
    refine run_seq ?_
    refine run_reg hm hT hC (course_Meet_g4 (course_Meet_K d) y2) h ?_
    intro y4 h
    refine cn_then ?_
    refine run_cond (v := y4.1) (by kernel_rfl) h ?_ ?_
    ·
      intro h
      refine run_seq ?_
      refine run_reg hm hT hC (course_Meet_g5 (course_Meet_K d) y4) h ?_
      intro y5 h
      refine cn_then ?_
      refine run_ret ?_
      refine cn_then_ret ?_
      cases h
      exact (hend _ (by kernel_rfl)).2
    ·
      intro h
      refine run_skip ?_
      refine cn_then ?_
      refine run_seq ?_
      refine run_reg hm hT hC (course_Meet_g6 (course_Meet_K d) y4) h ?_
      intro y6 h
      refine cn_then ?_
      refine run_ret ?_
      cases h
      exact (hend _ (by kernel_rfl)).2
abbrev ratio_both_ps : List Pk := [.row Rii true, .row Rii true]
abbrev ratio_both_X : Type := Dii × Dii × Unit
abbrev ratio_both_R : Type := Int
def ratio_both_enc (r : ratio_both_R) : LV × List Ob := (.int .i64 r, [])
def ratio_both_sp (F : ratio_both_X → Option ratio_both_R) : Go.Tx.Spec := ⟨66, ratio_both_ps, ratio_both_R, F, ratio_both_enc⟩
abbrev ratio_both_C : Type := (ratio_Check_X → Option ratio_Check_R) × Unit
def ratio_both_K (d : Nat) : ratio_both_C := (F_ratio_Check d, ())
def ratio_both_tab (C : ratio_both_C) : List Go.Tx.Spec := [ratio_Check_sp C.1]
abbrev ratio_both_Y0i : Type := Int × Int × Int × Int
def ratio_both_S0i (v : ratio_both_Y0i) : St := ⟨[(0, .agg [.int .i64 v.1, .int .i64 v.2.1]), (1, .agg [.int .i64 v.2.2.1, .int .i64 v.2.2.2])], []⟩
abbrev ratio_both_Y0 : Type := Int × Int × Int × Int
def ratio_both_S0 (v : ratio_both_Y0) : St := ⟨[(2, .ptr 0 0), (3, .ptr 1 0)], [.cells [.int .i64 v.1, .int .i64 v.2.1], .cells [.int .i64 v.2.2.1, .int .i64 v.2.2.2]]⟩
def ratio_both_r0 (C : ratio_both_C) (v : ratio_both_Y0i) : Dt ratio_both_Y0 := (Dt.ret (v.1, v.2.1, v.2.2.1, v.2.2.2))
theorem ratio_both_g0 (C : ratio_both_C) (v : ratio_both_Y0i) : treg tysT (orc (ratio_both_tab C)) 10 (regO (bodyOf f66) 0) false [(2, .any), (3, .any)] (ratio_both_S0i v) some = (ratio_both_r0 C v).eval fun y => some (ratio_both_S0 y) := by kernel_rfl
abbrev ratio_both_Y1 : Type := Int
def ratio_both_S1 (v : ratio_both_Y1) : St := ⟨[(4, .int .i64 v)], []⟩
def ratio_both_r1 (C : ratio_both_C) (v : ratio_both_Y0) : Dt ratio_both_Y1 := (Dt.bnd (C.1 ((v.1, v.2.1, ()), ())) fun r1 => (Dt.bnd (C.1 ((v.2.2.1, v.2.2.2, ()), ())) fun r2 => (Dt.ret (tmax r1 r2))))
theorem ratio_both_g1 (C : ratio_both_C) (v : ratio_both_Y0) : treg tysT (orc (ratio_both_tab C)) 10 (regO (bodyOf f66) 1) true [(4, .any)] (ratio_both_S0 v) some = (ratio_both_r1 C v).eval fun y => some (ratio_both_S1 y) := by kernel_rfl
def F_ratio_both (d : Nat) (x : ratio_both_X) : Option ratio_both_R :=
  (ratio_both_r0 (ratio_both_K d) (x.1.1, x.1.2.1, x.2.1.1, x.2.1.2.1)).eval fun y0 =>
  (ratio_both_r1 (ratio_both_K d) y0).eval fun y1 =>
  some y1
theorem ratio_both_cok (d : Nat) : COK prog (ratio_both_sp (F_ratio_both d)) := by
  have hm : prog.follows .mixedOrders = true := mixed
  have hT := tys
  have hC0 : OrcOK prog (orc (ratio_both_tab (ratio_both_K d))) := orc_ok (by
    intro S hS
    simp only [ratio_both_tab, List.mem_cons, List.not_mem_nil, or_false] at hS
    subst hS; exact ratio_Check_cok d)
  have hC : OrcOK prog (orc (ratio_both_tab (ratio_both_K d))) := hC0
  refine cok_of (c := bodyOf f66) (fn := f66) hT (by kernel_rfl) (by kernel_rfl) (by decide) fun x r h w0 φ0 Q hend => ?_
  replace h : F_ratio_both d x = some r := h
  unfold F_ratio_both at h
  show Run prog w0 φ0 10 (bodyOf f66) ⟨[(0, .agg [.int .i64 x.1.1, .int .i64 x.1.2.1]), (1, .agg [.int .i64 x.2.1.1, .int .i64 x.2.1.2.1])], []⟩ Q
  refine run_seq ?_
  refine run_reg hm hT hC (ratio_both_g0 (ratio_both_K d) (x.1.1, x.1.2.1, x.2.1.1, x.2.1.2.1)) h ?_
  intro y0 h
  refine cn_then ?_
  refine run_seq ?_
  refine run_reg hm hT hC (ratio_both_g1 (ratio_both_K d) y0) h ?_
  intro y1 h
  refine cn_then ?_
  refine run_ret ?_
  cases h
  exact (hend _ (by kernel_rfl)).2
abbrev cmp_isNaN_int64_ps : List Pk := [.row Ri false]
abbrev cmp_isNaN_int64_X : Type := Di × Unit
abbrev cmp_isNaN_int64_R : Type := Bool
def cmp_isNaN_int64_enc (r : cmp_isNaN_int64_R) : LV × List Ob := (.bool r, [])
def cmp_isNaN_int64_sp (F : cmp_isNaN_int64_X → Option cmp_isNaN_int64_R) : Go.Tx.Spec := ⟨111, cmp_isNaN_int64_ps, cmp_isNaN_int64_R, F, cmp_isNaN_int64_enc⟩
abbrev cmp_isNaN_int64_C : Type := Unit
def cmp_isNaN_int64_K (_d : Nat) : cmp_isNaN_int64_C := ()
def cmp_isNaN_int64_tab (C : cmp_isNaN_int64_C) : List Go.Tx.Spec := []
abbrev cmp_isNaN_int64_Y0i : Type := Int
def cmp_isNaN_int64_S0i (v : cmp_isNaN_int64_Y0i) : St := ⟨[(0, .int .i64 v)], []⟩
def cmp_isNaN_int64_r0 (C : cmp_isNaN_int64_C) (v : cmp_isNaN_int64_Y0i) : Dt cmp_isNaN_int64_Y0i := (Dt.ret v)
theorem cmp_isNaN_int64_g0 (C : cmp_isNaN_int64_C) (v : cmp_isNaN_int64_Y0i) : treg tysT (orc (cmp_isNaN_int64_tab C)) 6 (regO (bodyOf f111) 0) false [(0, .any)] (cmp_isNaN_int64_S0i v) some = (cmp_isNaN_int64_r0 C v).eval fun y => some (cmp_isNaN_int64_S0i y) := by kernel_rfl
abbrev cmp_isNaN_int64_Y1 : Type := Bool
def cmp_isNaN_int64_S1 (v : cmp_isNaN_int64_Y1) : St := ⟨[(2, .bool v)], []⟩
def cmp_isNaN_int64_r1 (C : cmp_isNaN_int64_C) (v : cmp_isNaN_int64_Y0i) : Dt cmp_isNaN_int64_Y1 := (Dt.ret (v != v))
theorem cmp_isNaN_int64_g1 (C : cmp_isNaN_int64_C) (v : cmp_isNaN_int64_Y0i) : treg tysT (orc (cmp_isNaN_int64_tab C)) 6 (regO (bodyOf f111) 1) false [(2, .any)] (cmp_isNaN_int64_S0i v) some = (cmp_isNaN_int64_r1 C v).eval fun y => some (cmp_isNaN_int64_S1 y) := by kernel_rfl
def F_cmp_isNaN_int64 (d : Nat) (x : cmp_isNaN_int64_X) : Option cmp_isNaN_int64_R :=
  (cmp_isNaN_int64_r0 (cmp_isNaN_int64_K d) x.1.1).eval fun y0 =>
  (cmp_isNaN_int64_r1 (cmp_isNaN_int64_K d) y0).eval fun y1 =>
  some y1
theorem cmp_isNaN_int64_cok (d : Nat) : COK prog (cmp_isNaN_int64_sp (F_cmp_isNaN_int64 d)) := by
  have hm : prog.follows .mixedOrders = true := mixed
  have hT := tys
  have hC0 : OrcOK prog (orc (cmp_isNaN_int64_tab (cmp_isNaN_int64_K d))) := orc_ok (by
    intro S hS
    simp only [cmp_isNaN_int64_tab, List.mem_cons, List.not_mem_nil, or_false] at hS
    all_goals first | cases hS | exact hS.elim)
  have hC : OrcOK prog (orc (cmp_isNaN_int64_tab (cmp_isNaN_int64_K d))) := hC0
  refine cok_of (c := bodyOf f111) (fn := f111) hT (by kernel_rfl) (by kernel_rfl) (by decide) fun x r h w0 φ0 Q hend => ?_
  replace h : F_cmp_isNaN_int64 d x = some r := h
  unfold F_cmp_isNaN_int64 at h
  show Run prog w0 φ0 6 (bodyOf f111) ⟨[(0, .int .i64 x.1.1)], []⟩ Q
  refine run_seq ?_
  refine run_reg hm hT hC (cmp_isNaN_int64_g0 (cmp_isNaN_int64_K d) x.1.1) h ?_
  intro y0 h
  refine cn_then ?_
  refine run_seq ?_
  refine run_reg hm hT hC (cmp_isNaN_int64_g1 (cmp_isNaN_int64_K d) y0) h ?_
  intro y1 h
  refine cn_then ?_
  refine run_ret ?_
  cases h
  exact (hend _ (by kernel_rfl)).2
abbrev cmp_Compare_int64_ps : List Pk := [.row Ri false, .row Ri false]
abbrev cmp_Compare_int64_X : Type := Di × Di × Unit
abbrev cmp_Compare_int64_R : Type := Int
def cmp_Compare_int64_enc (r : cmp_Compare_int64_R) : LV × List Ob := (.int .i64 r, [])
def cmp_Compare_int64_sp (F : cmp_Compare_int64_X → Option cmp_Compare_int64_R) : Go.Tx.Spec := ⟨96, cmp_Compare_int64_ps, cmp_Compare_int64_R, F, cmp_Compare_int64_enc⟩
abbrev cmp_Compare_int64_C : Type := (cmp_isNaN_int64_X → Option cmp_isNaN_int64_R) × Unit
def cmp_Compare_int64_K (d : Nat) : cmp_Compare_int64_C := (F_cmp_isNaN_int64 d, ())
def cmp_Compare_int64_tab (C : cmp_Compare_int64_C) : List Go.Tx.Spec := [cmp_isNaN_int64_sp C.1]
abbrev cmp_Compare_int64_Y0i : Type := Int × Int
def cmp_Compare_int64_S0i (v : cmp_Compare_int64_Y0i) : St := ⟨[(0, .int .i64 v.1), (1, .int .i64 v.2)], []⟩
def cmp_Compare_int64_r0 (C : cmp_Compare_int64_C) (v : cmp_Compare_int64_Y0i) : Dt cmp_Compare_int64_Y0i := (Dt.ret (v.1, v.2))
theorem cmp_Compare_int64_g0 (C : cmp_Compare_int64_C) (v : cmp_Compare_int64_Y0i) : treg tysT (orc (cmp_Compare_int64_tab C)) 20 (regO (bodyOf f96) 0) false [(0, .any), (1, .any)] (cmp_Compare_int64_S0i v) some = (cmp_Compare_int64_r0 C v).eval fun y => some (cmp_Compare_int64_S0i y) := by kernel_rfl
abbrev cmp_Compare_int64_Y1 : Type := Int × Int × Bool
def cmp_Compare_int64_S1 (v : cmp_Compare_int64_Y1) : St := ⟨[(0, .int .i64 v.1), (1, .int .i64 v.2.1), (5, .bool v.2.2)], []⟩
def cmp_Compare_int64_r1 (C : cmp_Compare_int64_C) (v : cmp_Compare_int64_Y0i) : Dt cmp_Compare_int64_Y1 := (Dt.bnd (C.1 ((v.1, ()), ())) fun r1 => (Dt.ret (v.1, v.2, r1)))
theorem cmp_Compare_int64_g1 (C : cmp_Compare_int64_C) (v : cmp_Compare_int64_Y0i) : treg tysT (orc (cmp_Compare_int64_tab C)) 20 (regO (bodyOf f96) 1) false [(0, .any), (1, .any), (5, .any)] (cmp_Compare_int64_S0i v) some = (cmp_Compare_int64_r1 C v).eval fun y => some (cmp_Compare_int64_S1 y) := by kernel_rfl
abbrev cmp_Compare_int64_Y2 : Type := Int × Int × Bool × Bool
def cmp_Compare_int64_S2 (v : cmp_Compare_int64_Y2) : St := ⟨[(0, .int .i64 v.1), (1, .int .i64 v.2.1), (5, .bool v.2.2.1), (6, .bool v.2.2.2)], []⟩
def cmp_Compare_int64_r2 (C : cmp_Compare_int64_C) (v : cmp_Compare_int64_Y1) : Dt cmp_Compare_int64_Y2 := (Dt.bnd (C.1 ((v.2.1, ()), ())) fun r1 => (Dt.ret (v.1, v.2.1, v.2.2, r1)))
theorem cmp_Compare_int64_g2 (C : cmp_Compare_int64_C) (v : cmp_Compare_int64_Y1) : treg tysT (orc (cmp_Compare_int64_tab C)) 20 (regO (bodyOf f96) 2) false [(0, .any), (1, .any), (5, .any), (6, .any)] (cmp_Compare_int64_S1 v) some = (cmp_Compare_int64_r2 C v).eval fun y => some (cmp_Compare_int64_S2 y) := by kernel_rfl
abbrev cmp_Compare_int64_Y3 : Type := Int × Int × Bool × Bool
def cmp_Compare_int64_S3 (v : cmp_Compare_int64_Y3) : St := ⟨[(0, .int .i64 v.1), (1, .int .i64 v.2.1), (6, .bool v.2.2.1), (11, .bool v.2.2.2)], []⟩
def cmp_Compare_int64_r3 (C : cmp_Compare_int64_C) (v : cmp_Compare_int64_Y2) : Dt cmp_Compare_int64_Y3 := (Dt.ret (v.1, v.2.1, v.2.2.2, v.2.2.1))
theorem cmp_Compare_int64_g3 (C : cmp_Compare_int64_C) (v : cmp_Compare_int64_Y2) : treg tysT (orc (cmp_Compare_int64_tab C)) 20 (regO (bodyOf f96) 3) false [(0, .any), (1, .any), (6, .any), (11, .any)] (cmp_Compare_int64_S2 v) some = (cmp_Compare_int64_r3 C v).eval fun y => some (cmp_Compare_int64_S3 y) := by kernel_rfl
abbrev cmp_Compare_int64_Y4 : Type := Bool
def cmp_Compare_int64_S4 (v : cmp_Compare_int64_Y4) : St := ⟨[(12, .bool v)], []⟩
def cmp_Compare_int64_r4 (C : cmp_Compare_int64_C) (v : cmp_Compare_int64_Y3) : Dt cmp_Compare_int64_Y4 := (Dt.ret v.2.2.1)
theorem cmp_Compare_int64_g4 (C : cmp_Compare_int64_C) (v : cmp_Compare_int64_Y3) : treg tysT (orc (cmp_Compare_int64_tab C)) 20 (regO (bodyOf f96) 4) false [(12, .any)] (cmp_Compare_int64_S3 v) some = (cmp_Compare_int64_r4 C v).eval fun y => some (cmp_Compare_int64_S4 y) := by kernel_rfl
abbrev cmp_Compare_int64_Y5 : Type := Int
def cmp_Compare_int64_S5 (v : cmp_Compare_int64_Y5) : St := ⟨[(4, .int .i64 v)], []⟩
def cmp_Compare_int64_r5 (C : cmp_Compare_int64_C) (v : cmp_Compare_int64_Y4) : Dt cmp_Compare_int64_Y5 := (Dt.ret (0:Int))
theorem cmp_Compare_int64_g5 (C : cmp_Compare_int64_C) (v : cmp_Compare_int64_Y4) : treg tysT (orc (cmp_Compare_int64_tab C)) 20 (regO (bodyOf f96) 5) false [(4, .any)] (cmp_Compare_int64_S4 v) some = (cmp_Compare_int64_r5 C v).eval fun y => some (cmp_Compare_int64_S5 y) := by kernel_rfl
def cmp_Compare_int64_r6 (C : cmp_Compare_int64_C) (v : cmp_Compare_int64_Y4) : Dt cmp_Compare_int64_Y5 := (Dt.ret (-1:Int))
theorem cmp_Compare_int64_g6 (C : cmp_Compare_int64_C) (v : cmp_Compare_int64_Y4) : treg tysT (orc (cmp_Compare_int64_tab C)) 20 (regO (bodyOf f96) 6) false [(4, .any)] (cmp_Compare_int64_S4 v) some = (cmp_Compare_int64_r6 C v).eval fun y => some (cmp_Compare_int64_S5 y) := by kernel_rfl
abbrev cmp_Compare_int64_Y7 : Type := Int × Int × Bool
def cmp_Compare_int64_S7 (v : cmp_Compare_int64_Y7) : St := ⟨[(0, .int .i64 v.1), (1, .int .i64 v.2.1), (13, .bool v.2.2)], []⟩
def cmp_Compare_int64_r7 (C : cmp_Compare_int64_C) (v : cmp_Compare_int64_Y3) : Dt cmp_Compare_int64_Y7 := (Dt.ret (v.1, v.2.1, v.2.2.1))
theorem cmp_Compare_int64_g7 (C : cmp_Compare_int64_C) (v : cmp_Compare_int64_Y3) : treg tysT (orc (cmp_Compare_int64_tab C)) 20 (regO (bodyOf f96) 7) false [(0, .any), (1, .any), (13, .any)] (cmp_Compare_int64_S3 v) some = (cmp_Compare_int64_r7 C v).eval fun y => some (cmp_Compare_int64_S7 y) := by kernel_rfl
def cmp_Compare_int64_r8 (C : cmp_Compare_int64_C) (v : cmp_Compare_int64_Y7) : Dt cmp_Compare_int64_Y5 := (Dt.ret (1:Int))
theorem cmp_Compare_int64_g8 (C : cmp_Compare_int64_C) (v : cmp_Compare_int64_Y7) : treg tysT (orc (cmp_Compare_int64_tab C)) 20 (regO (bodyOf f96) 8) false [(4, .any)] (cmp_Compare_int64_S7 v) some = (cmp_Compare_int64_r8 C v).eval fun y => some (cmp_Compare_int64_S5 y) := by kernel_rfl
abbrev cmp_Compare_int64_Y9 : Type := Int × Int × Bool
def cmp_Compare_int64_S9 (v : cmp_Compare_int64_Y9) : St := ⟨[(0, .int .i64 v.1), (1, .int .i64 v.2.1), (16, .bool v.2.2)], []⟩
def cmp_Compare_int64_r9 (C : cmp_Compare_int64_C) (v : cmp_Compare_int64_Y7) : Dt cmp_Compare_int64_Y9 := (Dt.ret (v.1, v.2.1, (decide (v.1 < v.2.1))))
theorem cmp_Compare_int64_g9 (C : cmp_Compare_int64_C) (v : cmp_Compare_int64_Y7) : treg tysT (orc (cmp_Compare_int64_tab C)) 20 (regO (bodyOf f96) 9) false [(0, .any), (1, .any), (16, .any)] (cmp_Compare_int64_S7 v) some = (cmp_Compare_int64_r9 C v).eval fun y => some (cmp_Compare_int64_S9 y) := by kernel_rfl
def cmp_Compare_int64_r10 (C : cmp_Compare_int64_C) (v : cmp_Compare_int64_Y9) : Dt cmp_Compare_int64_Y5 := (Dt.ret (-1:Int))
theorem cmp_Compare_int64_g10 (C : cmp_Compare_int64_C) (v : cmp_Compare_int64_Y9) : treg tysT (orc (cmp_Compare_int64_tab C)) 20 (regO (bodyOf f96) 10) false [(4, .any)] (cmp_Compare_int64_S9 v) some = (cmp_Compare_int64_r10 C v).eval fun y => some (cmp_Compare_int64_S5 y) := by kernel_rfl
abbrev cmp_Compare_int64_Y11 : Type := Bool
def cmp_Compare_int64_S11 (v : cmp_Compare_int64_Y11) : St := ⟨[(19, .bool v)], []⟩
def cmp_Compare_int64_r11 (C : cmp_Compare_int64_C) (v : cmp_Compare_int64_Y9) : Dt cmp_Compare_int64_Y11 := (Dt.ret (decide (v.1 > v.2.1)))
theorem cmp_Compare_int64_g11 (C : cmp_Compare_int64_C) (v : cmp_Compare_int64_Y9) : treg tysT (orc (cmp_Compare_int64_tab C)) 20 (regO (bodyOf f96) 11) false [(19, .any)] (cmp_Compare_int64_S9 v) some = (cmp_Compare_int64_r11 C v).eval fun y => some (cmp_Compare_int64_S11 y) := by kernel_rfl
def cmp_Compare_int64_r12 (C : cmp_Compare_int64_C) (v : cmp_Compare_int64_Y11) : Dt cmp_Compare_int64_Y5 := (Dt.ret (1:Int))
theorem cmp_Compare_int64_g12 (C : cmp_Compare_int64_C) (v : cmp_Compare_int64_Y11) : treg tysT (orc (cmp_Compare_int64_tab C)) 20 (regO (bodyOf f96) 12) false [(4, .any)] (cmp_Compare_int64_S11 v) some = (cmp_Compare_int64_r12 C v).eval fun y => some (cmp_Compare_int64_S5 y) := by kernel_rfl
def cmp_Compare_int64_r13 (C : cmp_Compare_int64_C) (v : cmp_Compare_int64_Y11) : Dt cmp_Compare_int64_Y5 := (Dt.ret (0:Int))
theorem cmp_Compare_int64_g13 (C : cmp_Compare_int64_C) (v : cmp_Compare_int64_Y11) : treg tysT (orc (cmp_Compare_int64_tab C)) 20 (regO (bodyOf f96) 13) false [(4, .any)] (cmp_Compare_int64_S11 v) some = (cmp_Compare_int64_r13 C v).eval fun y => some (cmp_Compare_int64_S5 y) := by kernel_rfl
def F_cmp_Compare_int64 (d : Nat) (x : cmp_Compare_int64_X) : Option cmp_Compare_int64_R :=
  (cmp_Compare_int64_r0 (cmp_Compare_int64_K d) (x.1.1, x.2.1.1)).eval fun y0 =>
  (cmp_Compare_int64_r1 (cmp_Compare_int64_K d) y0).eval fun y1 =>
  (cmp_Compare_int64_r2 (cmp_Compare_int64_K d) y1).eval fun y2 =>
  (cmp_Compare_int64_r3 (cmp_Compare_int64_K d) y2).eval fun y3 =>
  bif y3.2.2.2 then ((cmp_Compare_int64_r4 (cmp_Compare_int64_K d) y3).eval fun y4 =>
  bif y4 then ((cmp_Compare_int64_r5 (cmp_Compare_int64_K d) y4).eval fun y5 =>
  some y5) else ((cmp_Compare_int64_r6 (cmp_Compare_int64_K d) y4).eval fun y6 =>
  some y6)) else ((cmp_Compare_int64_r7 (cmp_Compare_int64_K d) y3).eval fun y7 =>
  bif y7.2.2 then ((cmp_Compare_int64_r8 (cmp_Compare_int64_K d) y7).eval fun y8 =>
  some y8) else ((cmp_Compare_int64_r9 (cmp_Compare_int64_K d) y7).eval fun y9 =>
  bif y9.2.2 then ((cmp_Compare_int64_r10 (cmp_Compare_int64_K d) y9).eval fun y10 =>
  some y10) else ((cmp_Compare_int64_r11 (cmp_Compare_int64_K d) y9).eval fun y11 =>
  bif y11 then ((cmp_Compare_int64_r12 (cmp_Compare_int64_K d) y11).eval fun y12 =>
  some y12) else ((cmp_Compare_int64_r13 (cmp_Compare_int64_K d) y11).eval fun y13 =>
  some y13))))
theorem cmp_Compare_int64_cok (d : Nat) : COK prog (cmp_Compare_int64_sp (F_cmp_Compare_int64 d)) := by
  have hm : prog.follows .mixedOrders = true := mixed
  have hT := tys
  have hC0 : OrcOK prog (orc (cmp_Compare_int64_tab (cmp_Compare_int64_K d))) := orc_ok (by
    intro S hS
    simp only [cmp_Compare_int64_tab, List.mem_cons, List.not_mem_nil, or_false] at hS
    subst hS; exact cmp_isNaN_int64_cok d)
  have hC : OrcOK prog (orc (cmp_Compare_int64_tab (cmp_Compare_int64_K d))) := hC0
  refine cok_of (c := bodyOf f96) (fn := f96) hT (by kernel_rfl) (by kernel_rfl) (by decide) fun x r h w0 φ0 Q hend => ?_
  replace h : F_cmp_Compare_int64 d x = some r := h
  unfold F_cmp_Compare_int64 at h
  show Run prog w0 φ0 20 (bodyOf f96) ⟨[(0, .int .i64 x.1.1), (1, .int .i64 x.2.1.1)], []⟩ Q
  refine run_seq ?_
  refine run_reg hm hT hC (cmp_Compare_int64_g0 (cmp_Compare_int64_K d) (x.1.1, x.2.1.1)) h ?_
  intro y0 h
  refine cn_then ?_
  refine run_seq ?_
  refine run_reg hm hT hC (cmp_Compare_int64_g1 (cmp_Compare_int64_K d) y0) h ?_
  intro y1 h
  refine cn_then ?_
  refine run_seq ?_
  refine run_reg hm hT hC (cmp_Compare_int64_g2 (cmp_Compare_int64_K d) y1) h ?_
  intro y2 h
  refine cn_then ?_
  refine run_seq ?_
  refine run_seq ?_
  refine run_reg hm hT hC (cmp_Compare_int64_g3 (cmp_Compare_int64_K d) y2) h ?_
  intro y3 h
  refine cn_then ?_
  refine run_cond (v := y3.2.2.2) (by kernel_rfl) h ?_ ?_
  ·
    intro h
    refine run_seq ?_
    refine run_seq ?_
    refine run_reg hm hT hC (cmp_Compare_int64_g4 (cmp_Compare_int64_K d) y3) h ?_
    intro y4 h
    refine cn_then ?_
    refine run_cond (v := y4) (by kernel_rfl) h ?_ ?_
    ·
      intro h
      refine run_seq ?_
      refine run_reg hm hT hC (cmp_Compare_int64_g5 (cmp_Compare_int64_K d) y4) h ?_
      intro y5 h
      refine cn_then ?_
      refine run_ret ?_
      refine cn_then_ret ?_
      refine cn_then_ret ?_
      cases h
      exact (hend _ (by kernel_rfl)).2
    ·
      intro h
      refine run_skip ?_
      refine cn_then ?_
      refine run_seq ?_
      refine run_reg hm hT hC (cmp_Compare_int64_g6 (cmp_Compare_int64_K d) y4) h ?_
      intro y6 h
      refine cn_then ?_
      refine run_ret ?_
      refine cn_then_ret ?_
      cases h
      exact (hend _ (by kernel_rfl)).2
  ·
    intro h
    refine run_skip ?_
    refine cn_then ?_
    refine run_seq ?_
    refine run_seq ?_
    refine run_reg hm hT hC (cmp_Compare_int64_g7 (cmp_Compare_int64_K d) y3) h ?_
    intro y7 h
    refine cn_then ?_
    refine run_cond (v := y7.2.2) (by kernel_rfl) h ?_ ?_
    ·
      intro h
      refine run_seq ?_
      refine run_reg hm hT hC (cmp_Compare_int64_g8 (cmp_Compare_int64_K d) y7) h ?_
      intro y8 h
      refine cn_then ?_
      refine run_ret ?_
      refine cn_then_ret ?_
      cases h
      exact (hend _ (by kernel_rfl)).2
    ·
      intro h
      refine run_skip ?_
      refine cn_then ?_
      refine run_seq ?_
      refine run_seq ?_
      refine run_reg hm hT hC (cmp_Compare_int64_g9 (cmp_Compare_int64_K d) y7) h ?_
      intro y9 h
      refine cn_then ?_
      refine run_cond (v := y9.2.2) (by kernel_rfl) h ?_ ?_
      ·
        intro h
        refine run_seq ?_
        refine run_reg hm hT hC (cmp_Compare_int64_g10 (cmp_Compare_int64_K d) y9) h ?_
        intro y10 h
        refine cn_then ?_
        refine run_ret ?_
        refine cn_then_ret ?_
        cases h
        exact (hend _ (by kernel_rfl)).2
      ·
        intro h
        refine run_skip ?_
        refine cn_then ?_
        refine run_seq ?_
        refine run_seq ?_
        refine run_reg hm hT hC (cmp_Compare_int64_g11 (cmp_Compare_int64_K d) y9) h ?_
        intro y11 h
        refine cn_then ?_
        refine run_cond (v := y11) (by kernel_rfl) h ?_ ?_
        ·
          intro h
          refine run_seq ?_
          refine run_reg hm hT hC (cmp_Compare_int64_g12 (cmp_Compare_int64_K d) y11) h ?_
          intro y12 h
          refine cn_then ?_
          refine run_ret ?_
          refine cn_then_ret ?_
          cases h
          exact (hend _ (by kernel_rfl)).2
        ·
          intro h
          refine run_skip ?_
          refine cn_then ?_
          refine run_seq ?_
          refine run_reg hm hT hC (cmp_Compare_int64_g13 (cmp_Compare_int64_K d) y11) h ?_
          intro y13 h
          refine cn_then ?_
          refine run_ret ?_
          cases h
          exact (hend _ (by kernel_rfl)).2
abbrev ratio_abs_ps : List Pk := [.row Ri false]
abbrev ratio_abs_X : Type := Di × Unit
abbrev ratio_abs_R : Type := Int
def ratio_abs_enc (r : ratio_abs_R) : LV × List Ob := (.int .u64 r, [])
def ratio_abs_sp (F : ratio_abs_X → Option ratio_abs_R) : Go.Tx.Spec := ⟨79, ratio_abs_ps, ratio_abs_R, F, ratio_abs_enc⟩
abbrev ratio_abs_C : Type := Unit
def ratio_abs_K (_d : Nat) : ratio_abs_C := ()
def ratio_abs_tab (C : ratio_abs_C) : List Go.Tx.Spec := []
abbrev ratio_abs_Y0i : Type := Int
def ratio_abs_S0i (v : ratio_abs_Y0i) : St := ⟨[(0, .int .i64 v)], []⟩
def ratio_abs_r0 (C : ratio_abs_C) (v : ratio_abs_Y0i) : Dt ratio_abs_Y0i := (Dt.ret v)
theorem ratio_abs_g0 (C : ratio_abs_C) (v : ratio_abs_Y0i) : treg tysT (orc (ratio_abs_tab C)) 10 (regO (bodyOf f79) 0) false [(0, .any)] (ratio_abs_S0i v) some = (ratio_abs_r0 C v).eval fun y => some (ratio_abs_S0i y) := by kernel_rfl
abbrev ratio_abs_Y1 : Type := Int × Bool
def ratio_abs_S1 (v : ratio_abs_Y1) : St := ⟨[(0, .int .i64 v.1), (4, .bool v.2)], []⟩
def ratio_abs_r1 (C : ratio_abs_C) (v : ratio_abs_Y0i) : Dt ratio_abs_Y1 := (Dt.ret (v, (decide (v < (0:Int)))))
theorem ratio_abs_g1 (C : ratio_abs_C) (v : ratio_abs_Y0i) : treg tysT (orc (ratio_abs_tab C)) 10 (regO (bodyOf f79) 1) false [(0, .any), (4, .any)] (ratio_abs_S0i v) some = (ratio_abs_r1 C v).eval fun y => some (ratio_abs_S1 y) := by kernel_rfl
abbrev ratio_abs_Y2 : Type := Int
def ratio_abs_S2 (v : ratio_abs_Y2) : St := ⟨[(2, .int .u64 v)], []⟩
def ratio_abs_r2 (C : ratio_abs_C) (v : ratio_abs_Y1) : Dt ratio_abs_Y2 := (Dt.ret (IntKind.wrap .u64 (0 - (IntKind.wrap .u64 v.1))))
theorem ratio_abs_g2 (C : ratio_abs_C) (v : ratio_abs_Y1) : treg tysT (orc (ratio_abs_tab C)) 10 (regO (bodyOf f79) 2) false [(2, .any)] (ratio_abs_S1 v) some = (ratio_abs_r2 C v).eval fun y => some (ratio_abs_S2 y) := by kernel_rfl
def ratio_abs_r3 (C : ratio_abs_C) (v : ratio_abs_Y1) : Dt ratio_abs_Y2 := (Dt.ret (IntKind.wrap .u64 v.1))
theorem ratio_abs_g3 (C : ratio_abs_C) (v : ratio_abs_Y1) : treg tysT (orc (ratio_abs_tab C)) 10 (regO (bodyOf f79) 3) false [(2, .any)] (ratio_abs_S1 v) some = (ratio_abs_r3 C v).eval fun y => some (ratio_abs_S2 y) := by kernel_rfl
def F_ratio_abs (d : Nat) (x : ratio_abs_X) : Option ratio_abs_R :=
  (ratio_abs_r0 (ratio_abs_K d) x.1.1).eval fun y0 =>
  (ratio_abs_r1 (ratio_abs_K d) y0).eval fun y1 =>
  bif y1.2 then ((ratio_abs_r2 (ratio_abs_K d) y1).eval fun y2 =>
  some y2) else ((ratio_abs_r3 (ratio_abs_K d) y1).eval fun y3 =>
  some y3)
theorem ratio_abs_cok (d : Nat) : COK prog (ratio_abs_sp (F_ratio_abs d)) := by
  have hm : prog.follows .mixedOrders = true := mixed
  have hT := tys
  have hC0 : OrcOK prog (orc (ratio_abs_tab (ratio_abs_K d))) := orc_ok (by
    intro S hS
    simp only [ratio_abs_tab, List.mem_cons, List.not_mem_nil, or_false] at hS
    all_goals first | cases hS | exact hS.elim)
  have hC : OrcOK prog (orc (ratio_abs_tab (ratio_abs_K d))) := hC0
  refine cok_of (c := bodyOf f79) (fn := f79) hT (by kernel_rfl) (by kernel_rfl) (by decide) fun x r h w0 φ0 Q hend => ?_
  replace h : F_ratio_abs d x = some r := h
  unfold F_ratio_abs at h
  show Run prog w0 φ0 10 (bodyOf f79) ⟨[(0, .int .i64 x.1.1)], []⟩ Q
  refine run_seq ?_
  refine run_reg hm hT hC (ratio_abs_g0 (ratio_abs_K d) x.1.1) h ?_
  intro y0 h
  refine cn_then ?_
  refine run_seq ?_
  refine run_seq ?_
  refine run_reg hm hT hC (ratio_abs_g1 (ratio_abs_K d) y0) h ?_
  intro y1 h
  refine cn_then ?_
  refine run_cond (v := y1.2) (by kernel_rfl) h ?_ ?_
  ·
    intro h
    refine run_seq ?_
    refine run_reg hm hT hC (ratio_abs_g2 (ratio_abs_K d) y1) h ?_
    intro y2 h
    refine cn_then ?_
    refine run_ret ?_
    refine cn_then_ret ?_
    cases h
    exact (hend _ (by kernel_rfl)).2
  ·
    intro h
    refine run_skip ?_
    refine cn_then ?_
    refine run_seq ?_
    refine run_reg hm hT hC (ratio_abs_g3 (ratio_abs_K d) y1) h ?_
    intro y3 h
    refine cn_then ?_
    refine run_ret ?_
    cases h
    exact (hend _ (by kernel_rfl)).2
abbrev ratio_times_ps : List Pk := [.row Ri false, .row Ri false]
abbrev ratio_times_X : Type := Di × Di × Unit
abbrev ratio_times_R : Type := Bool × Int × Int
def ratio_times_enc (r : ratio_times_R) : LV × List Ob := (.agg [.bool r.1, .int .u64 r.2.1, .int .u64 r.2.2], [])
def ratio_times_sp (F : ratio_times_X → Option ratio_times_R) : Go.Tx.Spec := ⟨88, ratio_times_ps, ratio_times_R, F, ratio_times_enc⟩
abbrev ratio_times_C : Type := (ratio_abs_X → Option ratio_abs_R) × (math_bits_Mul64_X → Option math_bits_Mul64_R) × Unit
def ratio_times_K (d : Nat) : ratio_times_C := (F_ratio_abs d, F_math_bits_Mul64 d, ())
def ratio_times_tab (C : ratio_times_C) : List Go.Tx.Spec := [ratio_abs_sp C.1, math_bits_Mul64_sp C.2.1]
abbrev ratio_times_Y0i : Type := Int × Int
def ratio_times_S0i (v : ratio_times_Y0i) : St := ⟨[(0, .int .i64 v.1), (1, .int .i64 v.2)], []⟩
abbrev ratio_times_Y0 : Type := Int × Int × Bool × Int × Int
def ratio_times_S0 (v : ratio_times_Y0) : St := ⟨[(0, .int .i64 v.1), (1, .int .i64 v.2.1), (4, .ptr 0 0)], [.cells [.bool v.2.2.1, .int .u64 v.2.2.2.1, .int .u64 v.2.2.2.2]]⟩
def ratio_times_r0 (C : ratio_times_C) (v : ratio_times_Y0i) : Dt ratio_times_Y0 := (Dt.ret (v.1, v.2, false, (0:Int), (0:Int)))
theorem ratio_times_g0 (C : ratio_times_C) (v : ratio_times_Y0i) : treg tysT (orc (ratio_times_tab C)) 23 (regO (bodyOf f88) 0) false [(0, .any), (1, .any), (4, .any)] (ratio_times_S0i v) some = (ratio_times_r0 C v).eval fun y => some (ratio_times_S0 y) := by kernel_rfl
abbrev ratio_times_Y1 : Type := Int × Int × Int × Int × Bool × Int × Int
def ratio_times_S1 (v : ratio_times_Y1) : St := ⟨[(0, .int .i64 v.1), (1, .int .i64 v.2.1), (4, .ptr 0 0), (5, .int .u64 v.2.2.1), (6, .int .u64 v.2.2.2.1)], [.cells [.bool v.2.2.2.2.1, .int .u64 v.2.2.2.2.2.1, .int .u64 v.2.2.2.2.2.2]]⟩
def ratio_times_r1 (C : ratio_times_C) (v : ratio_times_Y0) : Dt ratio_times_Y1 := (Dt.bnd (C.1 ((v.1, ()), ())) fun r1 => (Dt.bnd (C.1 ((v.2.1, ()), ())) fun r2 => (Dt.bnd (C.2.1 ((r1, ()), (r2, ()), ())) fun r3 => (Dt.ret (v.1, v.2.1, r3.1, r3.2, v.2.2.1, v.2.2.2.1, v.2.2.2.2)))))
theorem ratio_times_g1 (C : ratio_times_C) (v : ratio_times_Y0) : treg tysT (orc (ratio_times_tab C)) 23 (regO (bodyOf f88) 1) false [(0, .any), (1, .any), (4, .any), (5, .any), (6, .any)] (ratio_times_S0 v) some = (ratio_times_r1 C v).eval fun y => some (ratio_times_S1 y) := by kernel_rfl
abbrev ratio_times_Y2 : Type := Bool × Int × Int
def ratio_times_S2 (v : ratio_times_Y2) : St := ⟨[(4, .ptr 0 0)], [.cells [.bool v.1, .int .u64 v.2.1, .int .u64 v.2.2]]⟩
def ratio_times_r2 (C : ratio_times_C) (v : ratio_times_Y1) : Dt ratio_times_Y2 := (Dt.ret ((!((decide (v.1 < (0:Int))) == (decide (v.2.1 < (0:Int))))), v.2.2.1, v.2.2.2.1))
theorem ratio_times_g2 (C : ratio_times_C) (v : ratio_times_Y1) : treg tysT (orc (ratio_times_tab C)) 23 (regO (bodyOf f88) 2) false [(4, .any)] (ratio_times_S1 v) some = (ratio_times_r2 C v).eval fun y => some (ratio_times_S2 y) := by kernel_rfl
def F_ratio_times (d : Nat) (x : ratio_times_X) : Option ratio_times_R :=
  (ratio_times_r0 (ratio_times_K d) (x.1.1, x.2.1.1)).eval fun y0 =>
  (ratio_times_r1 (ratio_times_K d) y0).eval fun y1 =>
  (ratio_times_r2 (ratio_times_K d) y1).eval fun y2 =>
  some y2
theorem ratio_times_cok (d : Nat) : COK prog (ratio_times_sp (F_ratio_times d)) := by
  have hm : prog.follows .mixedOrders = true := mixed
  have hT := tys
  have hC0 : OrcOK prog (orc (ratio_times_tab (ratio_times_K d))) := orc_ok (by
    intro S hS
    simp only [ratio_times_tab, List.mem_cons, List.not_mem_nil, or_false] at hS
    rcases hS with rfl | rfl
    · exact ratio_abs_cok d
    · exact math_bits_Mul64_cok d)
  have hC : OrcOK prog (orc (ratio_times_tab (ratio_times_K d))) := hC0
  refine cok_of (c := bodyOf f88) (fn := f88) hT (by kernel_rfl) (by kernel_rfl) (by decide) fun x r h w0 φ0 Q hend => ?_
  replace h : F_ratio_times d x = some r := h
  unfold F_ratio_times at h
  show Run prog w0 φ0 23 (bodyOf f88) ⟨[(0, .int .i64 x.1.1), (1, .int .i64 x.2.1.1)], []⟩ Q
  refine run_seq ?_
  refine run_reg hm hT hC (ratio_times_g0 (ratio_times_K d) (x.1.1, x.2.1.1)) h ?_
  intro y0 h
  refine cn_then ?_
  refine run_seq ?_
  refine run_reg hm hT hC (ratio_times_g1 (ratio_times_K d) y0) h ?_
  intro y1 h
  refine cn_then ?_
  refine run_seq ?_
  refine run_reg hm hT hC (ratio_times_g2 (ratio_times_K d) y1) h ?_
  intro y2 h
  refine cn_then ?_
  refine run_ret ?_
  cases h
  exact (hend _ (by kernel_rfl)).2
abbrev cmp_isNaN_uint64_ps : List Pk := [.row Ru false]
abbrev cmp_isNaN_uint64_X : Type := Du × Unit
abbrev cmp_isNaN_uint64_R : Type := Bool
def cmp_isNaN_uint64_enc (r : cmp_isNaN_uint64_R) : LV × List Ob := (.bool r, [])
def cmp_isNaN_uint64_sp (F : cmp_isNaN_uint64_X → Option cmp_isNaN_uint64_R) : Go.Tx.Spec := ⟨127, cmp_isNaN_uint64_ps, cmp_isNaN_uint64_R, F, cmp_isNaN_uint64_enc⟩
abbrev cmp_isNaN_uint64_C : Type := Unit
def cmp_isNaN_uint64_K (_d : Nat) : cmp_isNaN_uint64_C := ()
def cmp_isNaN_uint64_tab (C : cmp_isNaN_uint64_C) : List Go.Tx.Spec := []
abbrev cmp_isNaN_uint64_Y0i : Type := Int
def cmp_isNaN_uint64_S0i (v : cmp_isNaN_uint64_Y0i) : St := ⟨[(0, .int .u64 v)], []⟩
def cmp_isNaN_uint64_r0 (C : cmp_isNaN_uint64_C) (v : cmp_isNaN_uint64_Y0i) : Dt cmp_isNaN_uint64_Y0i := (Dt.ret v)
theorem cmp_isNaN_uint64_g0 (C : cmp_isNaN_uint64_C) (v : cmp_isNaN_uint64_Y0i) : treg tysT (orc (cmp_isNaN_uint64_tab C)) 6 (regO (bodyOf f127) 0) false [(0, .any)] (cmp_isNaN_uint64_S0i v) some = (cmp_isNaN_uint64_r0 C v).eval fun y => some (cmp_isNaN_uint64_S0i y) := by kernel_rfl
abbrev cmp_isNaN_uint64_Y1 : Type := Bool
def cmp_isNaN_uint64_S1 (v : cmp_isNaN_uint64_Y1) : St := ⟨[(2, .bool v)], []⟩
def cmp_isNaN_uint64_r1 (C : cmp_isNaN_uint64_C) (v : cmp_isNaN_uint64_Y0i) : Dt cmp_isNaN_uint64_Y1 := (Dt.ret (v != v))
theorem cmp_isNaN_uint64_g1 (C : cmp_isNaN_uint64_C) (v : cmp_isNaN_uint64_Y0i) : treg tysT (orc (cmp_isNaN_uint64_tab C)) 6 (regO (bodyOf f127) 1) false [(2, .any)] (cmp_isNaN_uint64_S0i v) some = (cmp_isNaN_uint64_r1 C v).eval fun y => some (cmp_isNaN_uint64_S1 y) := by kernel_rfl
def F_cmp_isNaN_uint64 (d : Nat) (x : cmp_isNaN_uint64_X) : Option cmp_isNaN_uint64_R :=
  (cmp_isNaN_uint64_r0 (cmp_isNaN_uint64_K d) x.1.1).eval fun y0 =>
  (cmp_isNaN_uint64_r1 (cmp_isNaN_uint64_K d) y0).eval fun y1 =>
  some y1
theorem cmp_isNaN_uint64_cok (d : Nat) : COK prog (cmp_isNaN_uint64_sp (F_cmp_isNaN_uint64 d)) := by
  have hm : prog.follows .mixedOrders = true := mixed
  have hT := tys
  have hC0 : OrcOK prog (orc (cmp_isNaN_uint64_tab (cmp_isNaN_uint64_K d))) := orc_ok (by
    intro S hS
    simp only [cmp_isNaN_uint64_tab, List.mem_cons, List.not_mem_nil, or_false] at hS
    all_goals first | cases hS | exact hS.elim)
  have hC : OrcOK prog (orc (cmp_isNaN_uint64_tab (cmp_isNaN_uint64_K d))) := hC0
  refine cok_of (c := bodyOf f127) (fn := f127) hT (by kernel_rfl) (by kernel_rfl) (by decide) fun x r h w0 φ0 Q hend => ?_
  replace h : F_cmp_isNaN_uint64 d x = some r := h
  unfold F_cmp_isNaN_uint64 at h
  show Run prog w0 φ0 6 (bodyOf f127) ⟨[(0, .int .u64 x.1.1)], []⟩ Q
  refine run_seq ?_
  refine run_reg hm hT hC (cmp_isNaN_uint64_g0 (cmp_isNaN_uint64_K d) x.1.1) h ?_
  intro y0 h
  refine cn_then ?_
  refine run_seq ?_
  refine run_reg hm hT hC (cmp_isNaN_uint64_g1 (cmp_isNaN_uint64_K d) y0) h ?_
  intro y1 h
  refine cn_then ?_
  refine run_ret ?_
  cases h
  exact (hend _ (by kernel_rfl)).2
abbrev cmp_Compare_uint64_ps : List Pk := [.row Ru false, .row Ru false]
abbrev cmp_Compare_uint64_X : Type := Du × Du × Unit
abbrev cmp_Compare_uint64_R : Type := Int
def cmp_Compare_uint64_enc (r : cmp_Compare_uint64_R) : LV × List Ob := (.int .i64 r, [])
def cmp_Compare_uint64_sp (F : cmp_Compare_uint64_X → Option cmp_Compare_uint64_R) : Go.Tx.Spec := ⟨113, cmp_Compare_uint64_ps, cmp_Compare_uint64_R, F, cmp_Compare_uint64_enc⟩
abbrev cmp_Compare_uint64_C : Type := (cmp_isNaN_uint64_X → Option cmp_isNaN_uint64_R) × Unit
def cmp_Compare_uint64_K (d : Nat) : cmp_Compare_uint64_C := (F_cmp_isNaN_uint64 d, ())
def cmp_Compare_uint64_tab (C : cmp_Compare_uint64_C) : List Go.Tx.Spec := [cmp_isNaN_uint64_sp C.1]
abbrev cmp_Compare_uint64_Y0i : Type := Int × Int
def cmp_Compare_uint64_S0i (v : cmp_Compare_uint64_Y0i) : St := ⟨[(0, .int .u64 v.1), (1, .int .u64 v.2)], []⟩
def cmp_Compare_uint64_r0 (C : cmp_Compare_uint64_C) (v : cmp_Compare_uint64_Y0i) : Dt cmp_Compare_uint64_Y0i := (Dt.ret (v.1, v.2))
theorem cmp_Compare_uint64_g0 (C : cmp_Compare_uint64_C) (v : cmp_Compare_uint64_Y0i) : treg tysT (orc (cmp_Compare_uint64_tab C)) 20 (regO (bodyOf f113) 0) false [(0, .any), (1, .any)] (cmp_Compare_uint64_S0i v) some = (cmp_Compare_uint64_r0 C v).eval fun y => some (cmp_Compare_uint64_S0i y) := by kernel_rfl
abbrev cmp_Compare_uint64_Y1 : Type := Int × Int × Bool
def cmp_Compare_uint64_S1 (v : cmp_Compare_uint64_Y1) : St := ⟨[(0, .int .u64 v.1), (1, .int .u64 v.2.1), (5, .bool v.2.2)], []⟩
def cmp_Compare_uint64_r1 (C : cmp_Compare_uint64_C) (v : cmp_Compare_uint64_Y0i) : Dt cmp_Compare_uint64_Y1 := (Dt.bnd (C.1 ((v.1, ()), ())) fun r1 => (Dt.ret (v.1, v.2, r1)))
theorem cmp_Compare_uint64_g1 (C : cmp_Compare_uint64_C) (v : cmp_Compare_uint64_Y0i) : treg tysT (orc (cmp_Compare_uint64_tab C)) 20 (regO (bodyOf f113) 1) false [(0, .any), (1, .any), (5, .any)] (cmp_Compare_uint64_S0i v) some = (cmp_Compare_uint64_r1 C v).eval fun y => some (cmp_Compare_uint64_S1 y) := by kernel_rfl
abbrev cmp_Compare_uint64_Y2 : Type := Int × Int × Bool × Bool
def cmp_Compare_uint64_S2 (v : cmp_Compare_uint64_Y2) : St := ⟨[(0, .int .u64 v.1), (1, .int .u64 v.2.1), (5, .bool v.2.2.1), (6, .bool v.2.2.2)], []⟩
def cmp_Compare_uint64_r2 (C : cmp_Compare_uint64_C) (v : cmp_Compare_uint64_Y1) : Dt cmp_Compare_uint64_Y2 := (Dt.bnd (C.1 ((v.2.1, ()), ())) fun r1 => (Dt.ret (v.1, v.2.1, v.2.2, r1)))
theorem cmp_Compare_uint64_g2 (C : cmp_Compare_uint64_C) (v : cmp_Compare_uint64_Y1) : treg tysT (orc (cmp_Compare_uint64_tab C)) 20 (regO (bodyOf f113) 2) false [(0, .any), (1, .any), (5, .any), (6, .any)] (cmp_Compare_uint64_S1 v) some = (cmp_Compare_uint64_r2 C v).eval fun y => some (cmp_Compare_uint64_S2 y) := by kernel_rfl
abbrev cmp_Compare_uint64_Y3 : Type := Int × Int × Bool × Bool
def cmp_Compare_uint64_S3 (v : cmp_Compare_uint64_Y3) : St := ⟨[(0, .int .u64 v.1), (1, .int .u64 v.2.1), (6, .bool v.2.2.1), (11, .bool v.2.2.2)], []⟩
def cmp_Compare_uint64_r3 (C : cmp_Compare_uint64_C) (v : cmp_Compare_uint64_Y2) : Dt cmp_Compare_uint64_Y3 := (Dt.ret (v.1, v.2.1, v.2.2.2, v.2.2.1))
theorem cmp_Compare_uint64_g3 (C : cmp_Compare_uint64_C) (v : cmp_Compare_uint64_Y2) : treg tysT (orc (cmp_Compare_uint64_tab C)) 20 (regO (bodyOf f113) 3) false [(0, .any), (1, .any), (6, .any), (11, .any)] (cmp_Compare_uint64_S2 v) some = (cmp_Compare_uint64_r3 C v).eval fun y => some (cmp_Compare_uint64_S3 y) := by kernel_rfl
abbrev cmp_Compare_uint64_Y4 : Type := Bool
def cmp_Compare_uint64_S4 (v : cmp_Compare_uint64_Y4) : St := ⟨[(12, .bool v)], []⟩
def cmp_Compare_uint64_r4 (C : cmp_Compare_uint64_C) (v : cmp_Compare_uint64_Y3) : Dt cmp_Compare_uint64_Y4 := (Dt.ret v.2.2.1)
theorem cmp_Compare_uint64_g4 (C : cmp_Compare_uint64_C) (v : cmp_Compare_uint64_Y3) : treg tysT (orc (cmp_Compare_uint64_tab C)) 20 (regO (bodyOf f113) 4) false [(12, .any)] (cmp_Compare_uint64_S3 v) some = (cmp_Compare_uint64_r4 C v).eval fun y => some (cmp_Compare_uint64_S4 y) := by kernel_rfl
abbrev cmp_Compare_uint64_Y5 : Type := Int
def cmp_Compare_uint64_S5 (v : cmp_Compare_uint64_Y5) : St := ⟨[(4, .int .i64 v)], []⟩
def cmp_Compare_uint64_r5 (C : cmp_Compare_uint64_C) (v : cmp_Compare_uint64_Y4) : Dt cmp_Compare_uint64_Y5 := (Dt.ret (0:Int))
theorem cmp_Compare_uint64_g5 (C : cmp_Compare_uint64_C) (v : cmp_Compare_uint64_Y4) : treg tysT (orc (cmp_Compare_uint64_tab C)) 20 (regO (bodyOf f113) 5) false [(4, .any)] (cmp_Compare_uint64_S4 v) some = (cmp_Compare_uint64_r5 C v).eval fun y => some (cmp_Compare_uint64_S5 y) := by kernel_rfl
def cmp_Compare_uint64_r6 (C : cmp_Compare_uint64_C) (v : cmp_Compare_uint64_Y4) : Dt cmp_Compare_uint64_Y5 := (Dt.ret (-1:Int))
theorem cmp_Compare_uint64_g6 (C : cmp_Compare_uint64_C) (v : cmp_Compare_uint64_Y4) : treg tysT (orc (cmp_Compare_uint64_tab C)) 20 (regO (bodyOf f113) 6) false [(4, .any)] (cmp_Compare_uint64_S4 v) some = (cmp_Compare_uint64_r6 C v).eval fun y => some (cmp_Compare_uint64_S5 y) := by kernel_rfl
abbrev cmp_Compare_uint64_Y7 : Type := Int × Int × Bool
def cmp_Compare_uint64_S7 (v : cmp_Compare_uint64_Y7) : St := ⟨[(0, .int .u64 v.1), (1, .int .u64 v.2.1), (13, .bool v.2.2)], []⟩
def cmp_Compare_uint64_r7 (C : cmp_Compare_uint64_C) (v : cmp_Compare_uint64_Y3) : Dt cmp_Compare_uint64_Y7 := (Dt.ret (v.1, v.2.1, v.2.2.1))
theorem cmp_Compare_uint64_g7 (C : cmp_Compare_uint64_C) (v : cmp_Compare_uint64_Y3) : treg tysT (orc (cmp_Compare_uint64_tab C)) 20 (regO (bodyOf f113) 7) false [(0, .any), (1, .any), (13, .any)] (cmp_Compare_uint64_S3 v) some = (cmp_Compare_uint64_r7 C v).eval fun y => some (cmp_Compare_uint64_S7 y) := by kernel_rfl
def cmp_Compare_uint64_r8 (C : cmp_Compare_uint64_C) (v : cmp_Compare_uint64_Y7) : Dt cmp_Compare_uint64_Y5 := (Dt.ret (1:Int))
theorem cmp_Compare_uint64_g8 (C : cmp_Compare_uint64_C) (v : cmp_Compare_uint64_Y7) : treg tysT (orc (cmp_Compare_uint64_tab C)) 20 (regO (bodyOf f113) 8) false [(4, .any)] (cmp_Compare_uint64_S7 v) some = (cmp_Compare_uint64_r8 C v).eval fun y => some (cmp_Compare_uint64_S5 y) := by kernel_rfl
abbrev cmp_Compare_uint64_Y9 : Type := Int × Int × Bool
def cmp_Compare_uint64_S9 (v : cmp_Compare_uint64_Y9) : St := ⟨[(0, .int .u64 v.1), (1, .int .u64 v.2.1), (16, .bool v.2.2)], []⟩
def cmp_Compare_uint64_r9 (C : cmp_Compare_uint64_C) (v : cmp_Compare_uint64_Y7) : Dt cmp_Compare_uint64_Y9 := (Dt.ret (v.1, v.2.1, (decide (v.1 < v.2.1))))
theorem cmp_Compare_uint64_g9 (C : cmp_Compare_uint64_C) (v : cmp_Compare_uint64_Y7) : treg tysT (orc (cmp_Compare_uint64_tab C)) 20 (regO (bodyOf f113) 9) false [(0, .any), (1, .any), (16, .any)] (cmp_Compare_uint64_S7 v) some = (cmp_Compare_uint64_r9 C v).eval fun y => some (cmp_Compare_uint64_S9 y) := by kernel_rfl
def cmp_Compare_uint64_r10 (C : cmp_Compare_uint64_C) (v : cmp_Compare_uint64_Y9) : Dt cmp_Compare_uint64_Y5 := (Dt.ret (-1:Int))
theorem cmp_Compare_uint64_g10 (C : cmp_Compare_uint64_C) (v : cmp_Compare_uint64_Y9) : treg tysT (orc (cmp_Compare_uint64_tab C)) 20 (regO (bodyOf f113) 10) false [(4, .any)] (cmp_Compare_uint64_S9 v) some = (cmp_Compare_uint64_r10 C v).eval fun y => some (cmp_Compare_uint64_S5 y) := by kernel_rfl
abbrev cmp_Compare_uint64_Y11 : Type := Bool
def cmp_Compare_uint64_S11 (v : cmp_Compare_uint64_Y11) : St := ⟨[(19, .bool v)], []⟩
def cmp_Compare_uint64_r11 (C : cmp_Compare_uint64_C) (v : cmp_Compare_uint64_Y9) : Dt cmp_Compare_uint64_Y11 := (Dt.ret (decide (v.1 > v.2.1)))
theorem cmp_Compare_uint64_g11 (C : cmp_Compare_uint64_C) (v : cmp_Compare_uint64_Y9) : treg tysT (orc (cmp_Compare_uint64_tab C)) 20 (regO (bodyOf f113) 11) false [(19, .any)] (cmp_Compare_uint64_S9 v) some = (cmp_Compare_uint64_r11 C v).eval fun y => some (cmp_Compare_uint64_S11 y) := by kernel_rfl
def cmp_Compare_uint64_r12 (C : cmp_Compare_uint64_C) (v : cmp_Compare_uint64_Y11) : Dt cmp_Compare_uint64_Y5 := (Dt.ret (1:Int))
theorem cmp_Compare_uint64_g12 (C : cmp_Compare_uint64_C) (v : cmp_Compare_uint64_Y11) : treg tysT (orc (cmp_Compare_uint64_tab C)) 20 (regO (bodyOf f113) 12) false [(4, .any)] (cmp_Compare_uint64_S11 v) some = (cmp_Compare_uint64_r12 C v).eval fun y => some (cmp_Compare_uint64_S5 y) := by kernel_rfl
def cmp_Compare_uint64_r13 (C : cmp_Compare_uint64_C) (v : cmp_Compare_uint64_Y11) : Dt cmp_Compare_uint64_Y5 := (Dt.ret (0:Int))
theorem cmp_Compare_uint64_g13 (C : cmp_Compare_uint64_C) (v : cmp_Compare_uint64_Y11) : treg tysT (orc (cmp_Compare_uint64_tab C)) 20 (regO (bodyOf f113) 13) false [(4, .any)] (cmp_Compare_uint64_S11 v) some = (cmp_Compare_uint64_r13 C v).eval fun y => some (cmp_Compare_uint64_S5 y) := by kernel_rfl
def F_cmp_Compare_uint64 (d : Nat) (x : cmp_Compare_uint64_X) : Option cmp_Compare_uint64_R :=
  (cmp_Compare_uint64_r0 (cmp_Compare_uint64_K d) (x.1.1, x.2.1.1)).eval fun y0 =>
  (cmp_Compare_uint64_r1 (cmp_Compare_uint64_K d) y0).eval fun y1 =>
  (cmp_Compare_uint64_r2 (cmp_Compare_uint64_K d) y1).eval fun y2 =>
  (cmp_Compare_uint64_r3 (cmp_Compare_uint64_K d) y2).eval fun y3 =>
  bif y3.2.2.2 then ((cmp_Compare_uint64_r4 (cmp_Compare_uint64_K d) y3).eval fun y4 =>
  bif y4 then ((cmp_Compare_uint64_r5 (cmp_Compare_uint64_K d) y4).eval fun y5 =>
  some y5) else ((cmp_Compare_uint64_r6 (cmp_Compare_uint64_K d) y4).eval fun y6 =>
  some y6)) else ((cmp_Compare_uint64_r7 (cmp_Compare_uint64_K d) y3).eval fun y7 =>
  bif y7.2.2 then ((cmp_Compare_uint64_r8 (cmp_Compare_uint64_K d) y7).eval fun y8 =>
  some y8) else ((cmp_Compare_uint64_r9 (cmp_Compare_uint64_K d) y7).eval fun y9 =>
  bif y9.2.2 then ((cmp_Compare_uint64_r10 (cmp_Compare_uint64_K d) y9).eval fun y10 =>
  some y10) else ((cmp_Compare_uint64_r11 (cmp_Compare_uint64_K d) y9).eval fun y11 =>
  bif y11 then ((cmp_Compare_uint64_r12 (cmp_Compare_uint64_K d) y11).eval fun y12 =>
  some y12) else ((cmp_Compare_uint64_r13 (cmp_Compare_uint64_K d) y11).eval fun y13 =>
  some y13))))
theorem cmp_Compare_uint64_cok (d : Nat) : COK prog (cmp_Compare_uint64_sp (F_cmp_Compare_uint64 d)) := by
  have hm : prog.follows .mixedOrders = true := mixed
  have hT := tys
  have hC0 : OrcOK prog (orc (cmp_Compare_uint64_tab (cmp_Compare_uint64_K d))) := orc_ok (by
    intro S hS
    simp only [cmp_Compare_uint64_tab, List.mem_cons, List.not_mem_nil, or_false] at hS
    subst hS; exact cmp_isNaN_uint64_cok d)
  have hC : OrcOK prog (orc (cmp_Compare_uint64_tab (cmp_Compare_uint64_K d))) := hC0
  refine cok_of (c := bodyOf f113) (fn := f113) hT (by kernel_rfl) (by kernel_rfl) (by decide) fun x r h w0 φ0 Q hend => ?_
  replace h : F_cmp_Compare_uint64 d x = some r := h
  unfold F_cmp_Compare_uint64 at h
  show Run prog w0 φ0 20 (bodyOf f113) ⟨[(0, .int .u64 x.1.1), (1, .int .u64 x.2.1.1)], []⟩ Q
  refine run_seq ?_
  refine run_reg hm hT hC (cmp_Compare_uint64_g0 (cmp_Compare_uint64_K d) (x.1.1, x.2.1.1)) h ?_
  intro y0 h
  refine cn_then ?_
  refine run_seq ?_
  refine run_reg hm hT hC (cmp_Compare_uint64_g1 (cmp_Compare_uint64_K d) y0) h ?_
  intro y1 h
  refine cn_then ?_
  refine run_seq ?_
  refine run_reg hm hT hC (cmp_Compare_uint64_g2 (cmp_Compare_uint64_K d) y1) h ?_
  intro y2 h
  refine cn_then ?_
  refine run_seq ?_
  refine run_seq ?_
  refine run_reg hm hT hC (cmp_Compare_uint64_g3 (cmp_Compare_uint64_K d) y2) h ?_
  intro y3 h
  refine cn_then ?_
  refine run_cond (v := y3.2.2.2) (by kernel_rfl) h ?_ ?_
  ·
    intro h
    refine run_seq ?_
    refine run_seq ?_
    refine run_reg hm hT hC (cmp_Compare_uint64_g4 (cmp_Compare_uint64_K d) y3) h ?_
    intro y4 h
    refine cn_then ?_
    refine run_cond (v := y4) (by kernel_rfl) h ?_ ?_
    ·
      intro h
      refine run_seq ?_
      refine run_reg hm hT hC (cmp_Compare_uint64_g5 (cmp_Compare_uint64_K d) y4) h ?_
      intro y5 h
      refine cn_then ?_
      refine run_ret ?_
      refine cn_then_ret ?_
      refine cn_then_ret ?_
      cases h
      exact (hend _ (by kernel_rfl)).2
    ·
      intro h
      refine run_skip ?_
      refine cn_then ?_
      refine run_seq ?_
      refine run_reg hm hT hC (cmp_Compare_uint64_g6 (cmp_Compare_uint64_K d) y4) h ?_
      intro y6 h
      refine cn_then ?_
      refine run_ret ?_
      refine cn_then_ret ?_
      cases h
      exact (hend _ (by kernel_rfl)).2
  ·
    intro h
    refine run_skip ?_
    refine cn_then ?_
    refine run_seq ?_
    refine run_seq ?_
    refine run_reg hm hT hC (cmp_Compare_uint64_g7 (cmp_Compare_uint64_K d) y3) h ?_
    intro y7 h
    refine cn_then ?_
    refine run_cond (v := y7.2.2) (by kernel_rfl) h ?_ ?_
    ·
      intro h
      refine run_seq ?_
      refine run_reg hm hT hC (cmp_Compare_uint64_g8 (cmp_Compare_uint64_K d) y7) h ?_
      intro y8 h
      refine cn_then ?_
      refine run_ret ?_
      refine cn_then_ret ?_
      cases h
      exact (hend _ (by kernel_rfl)).2
    ·
      intro h
      refine run_skip ?_
      refine cn_then ?_
      refine run_seq ?_
      refine run_seq ?_
      refine run_reg hm hT hC (cmp_Compare_uint64_g9 (cmp_Compare_uint64_K d) y7) h ?_
      intro y9 h
      refine cn_then ?_
      refine run_cond (v := y9.2.2) (by kernel_rfl) h ?_ ?_
      ·
        intro h
        refine run_seq ?_
        refine run_reg hm hT hC (cmp_Compare_uint64_g10 (cmp_Compare_uint64_K d) y9) h ?_
        intro y10 h
        refine cn_then ?_
        refine run_ret ?_
        refine cn_then_ret ?_
        cases h
        exact (hend _ (by kernel_rfl)).2
      ·
        intro h
        refine run_skip ?_
        refine cn_then ?_
        refine run_seq ?_
        refine run_seq ?_
        refine run_reg hm hT hC (cmp_Compare_uint64_g11 (cmp_Compare_uint64_K d) y9) h ?_
        intro y11 h
        refine cn_then ?_
        refine run_cond (v := y11) (by kernel_rfl) h ?_ ?_
        ·
          intro h
          refine run_seq ?_
          refine run_reg hm hT hC (cmp_Compare_uint64_g12 (cmp_Compare_uint64_K d) y11) h ?_
          intro y12 h
          refine cn_then ?_
          refine run_ret ?_
          refine cn_then_ret ?_
          cases h
          exact (hend _ (by kernel_rfl)).2
        ·
          intro h
          refine run_skip ?_
          refine cn_then ?_
          refine run_seq ?_
          refine run_reg hm hT hC (cmp_Compare_uint64_g13 (cmp_Compare_uint64_K d) y11) h ?_
          intro y13 h
          refine cn_then ?_
          refine run_ret ?_
          cases h
          exact (hend _ (by kernel_rfl)).2
abbrev ratio_compare_ps : List Pk := [.row Rbuu true, .row Rbuu true]
abbrev ratio_compare_X : Type := Dbuu × Dbuu × Unit
abbrev ratio_compare_R : Type := Int
def ratio_compare_enc (r : ratio_compare_R) : LV × List Ob := (.int .i64 r, [])
def ratio_compare_sp (F : ratio_compare_X → Option ratio_compare_R) : Go.Tx.Spec := ⟨99, ratio_compare_ps, ratio_compare_R, F, ratio_compare_enc⟩
abbrev ratio_compare_C : Type := (cmp_Compare_uint64_X → Option cmp_Compare_uint64_R) × Unit
def ratio_compare_K (d : Nat) : ratio_compare_C := (F_cmp_Compare_uint64 d, ())
def ratio_compare_tab (C : ratio_compare_C) : List Go.Tx.Spec := [cmp_Compare_uint64_sp C.1]
abbrev ratio_compare_Y0i : Type := Bool × Int × Int × Bool × Int × Int
def ratio_compare_S0i (v : ratio_compare_Y0i) : St := ⟨[(0, .agg [.bool v.1, .int .u64 v.2.1, .int .u64 v.2.2.1]), (1, .agg [.bool v.2.2.2.1, .int .u64 v.2.2.2.2.1, .int .u64 v.2.2.2.2.2])], []⟩
abbrev ratio_compare_Y0 : Type := Bool × Int × Int × Bool × Int × Int
def ratio_compare_S0 (v : ratio_compare_Y0) : St := ⟨[(2, .ptr 0 0), (3, .ptr 1 0)], [.cells [.bool v.1, .int .u64 v.2.1, .int .u64 v.2.2.1], .cells [.bool v.2.2.2.1, .int .u64 v.2.2.2.2.1, .int .u64 v.2.2.2.2.2]]⟩
def ratio_compare_r0 (C : ratio_compare_C) (v : ratio_compare_Y0i) : Dt ratio_compare_Y0 := (Dt.ret (v.1, v.2.1, v.2.2.1, v.2.2.2.1, v.2.2.2.2.1, v.2.2.2.2.2))
theorem ratio_compare_g0 (C : ratio_compare_C) (v : ratio_compare_Y0i) : treg tysT (orc (ratio_compare_tab C)) 19 (regO (bodyOf f99) 0) false [(2, .any), (3, .any)] (ratio_compare_S0i v) some = (ratio_compare_r0 C v).eval fun y => some (ratio_compare_S0 y) := by kernel_rfl
abbrev ratio_compare_Y1 : Type := Int × Bool × Int × Int × Bool × Int × Int
def ratio_compare_S1 (v : ratio_compare_Y1) : St := ⟨[(2, .ptr 0 0), (3, .ptr 1 0), (5, .int .i64 v.1)], [.cells [.bool v.2.1, .int .u64 v.2.2.1, .int .u64 v.2.2.2.1], .cells [.bool v.2.2.2.2.1, .int .u64 v.2.2.2.2.2.1, .int .u64 v.2.2.2.2.2.2]]⟩
def ratio_compare_r1 (C : ratio_compare_C) (v : ratio_compare_Y0) : Dt ratio_compare_Y1 := (Dt.bnd (C.1 ((v.2.1, ()), (v.2.2.2.2.1, ()), ())) fun r1 => (Dt.ret (r1, v.1, v.2.1, v.2.2.1, v.2.2.2.1, v.2.2.2.2.1, v.2.2.2.2.2)))
theorem ratio_compare_g1 (C : ratio_compare_C) (v : ratio_compare_Y0) : treg tysT (orc (ratio_compare_tab C)) 19 (regO (bodyOf f99) 1) false [(2, .any), (3, .any), (5, .any)] (ratio_compare_S0 v) some = (ratio_compare_r1 C v).eval fun y => some (ratio_compare_S1 y) := by kernel_rfl
abbrev ratio_compare_Y2 : Type := Int × Bool × Bool × Int × Int × Bool × Int × Int
def ratio_compare_S2 (v : ratio_compare_Y2) : St := ⟨[(2, .ptr 0 0), (3, .ptr 1 0), (5, .int .i64 v.1), (12, .bool v.2.1)], [.cells [.bool v.2.2.1, .int .u64 v.2.2.2.1, .int .u64 v.2.2.2.2.1], .cells [.bool v.2.2.2.2.2.1, .int .u64 v.2.2.2.2.2.2.1, .int .u64 v.2.2.2.2.2.2.2]]⟩
def ratio_compare_r2 (C : ratio_compare_C) (v : ratio_compare_Y1) : Dt ratio_compare_Y2 := (Dt.ret (v.1, (v.1 != (0:Int)), v.2.1, v.2.2.1, v.2.2.2.1, v.2.2.2.2.1, v.2.2.2.2.2.1, v.2.2.2.2.2.2))
theorem ratio_compare_g2 (C : ratio_compare_C) (v : ratio_compare_Y1) : treg tysT (orc (ratio_compare_tab C)) 19 (regO (bodyOf f99) 2) false [(2, .any), (3, .any), (5, .any), (12, .any)] (ratio_compare_S1 v) some = (ratio_compare_r2 C v).eval fun y => some (ratio_compare_S2 y) := by kernel_rfl
abbrev ratio_compare_Y3 : Type := Int
def ratio_compare_S3 (v : ratio_compare_Y3) : St := ⟨[(4, .int .i64 v)], []⟩
def ratio_compare_r3 (C : ratio_compare_C) (v : ratio_compare_Y2) : Dt ratio_compare_Y3 := (Dt.ret v.1)
theorem ratio_compare_g3 (C : ratio_compare_C) (v : ratio_compare_Y2) : treg tysT (orc (ratio_compare_tab C)) 19 (regO (bodyOf f99) 3) false [(4, .any)] (ratio_compare_S2 v) some = (ratio_compare_r3 C v).eval fun y => some (ratio_compare_S3 y) := by kernel_rfl
def ratio_compare_r4 (C : ratio_compare_C) (v : ratio_compare_Y2) : Dt ratio_compare_Y3 := (Dt.bnd (C.1 ((v.2.2.2.2.1, ()), (v.2.2.2.2.2.2.2, ()), ())) fun r1 => (Dt.ret r1))
theorem ratio_compare_g4 (C : ratio_compare_C) (v : ratio_compare_Y2) : treg tysT (orc (ratio_compare_tab C)) 19 (regO (bodyOf f99) 4) false [(4, .any)] (ratio_compare_S2 v) some = (ratio_compare_r4 C v).eval fun y => some (ratio_compare_S3 y) := by kernel_rfl
def F_ratio_compare (d : Nat) (x : ratio_compare_X) : Option ratio_compare_R :=
  (ratio_compare_r0 (ratio_compare_K d) (x.1.1, x.1.2.1, x.1.2.2.1, x.2.1.1, x.2.1.2.1, x.2.1.2.2.1)).eval fun y0 =>
  (ratio_compare_r1 (ratio_compare_K d) y0).eval fun y1 =>
  (ratio_compare_r2 (ratio_compare_K d) y1).eval fun y2 =>
  bif y2.2.1 then ((ratio_compare_r3 (ratio_compare_K d) y2).eval fun y3 =>
  some y3) else ((ratio_compare_r4 (ratio_compare_K d) y2).eval fun y4 =>
  some y4)
theorem ratio_compare_cok (d : Nat) : COK prog (ratio_compare_sp (F_ratio_compare d)) := by
  have hm : prog.follows .mixedOrders = true := mixed
  have hT := tys
  have hC0 : OrcOK prog (orc (ratio_compare_tab (ratio_compare_K d))) := orc_ok (by
    intro S hS
    simp only [ratio_compare_tab, List.mem_cons, List.not_mem_nil, or_false] at hS
    subst hS; exact cmp_Compare_uint64_cok d)
  have hC : OrcOK prog (orc (ratio_compare_tab (ratio_compare_K d))) := hC0
  refine cok_of (c := bodyOf f99) (fn := f99) hT (by kernel_rfl) (by kernel_rfl) (by decide) fun x r h w0 φ0 Q hend => ?_
  replace h : F_ratio_compare d x = some r := h
  unfold F_ratio_compare at h
  show Run prog w0 φ0 19 (bodyOf f99) ⟨[(0, .agg [.bool x.1.1, .int .u64 x.1.2.1, .int .u64 x.1.2.2.1]), (1, .agg [.bool x.2.1.1, .int .u64 x.2.1.2.1, .int .u64 x.2.1.2.2.1])], []⟩ Q
  refine run_seq ?_
  refine run_reg hm hT hC (ratio_compare_g0 (ratio_compare_K d) (x.1.1, x.1.2.1, x.1.2.2.1, x.2.1.1, x.2.1.2.1, x.2.1.2.2.1)) h ?_
  intro y0 h
  refine cn_then ?_
  refine run_seq ?_
  refine run_seq ?_
  refine run_reg hm hT hC (ratio_compare_g1 (ratio_compare_K d) y0) h ?_
  intro y1 h
  refine cn_then ?_
  refine run_seq ?_
  refine run_reg hm hT hC (ratio_compare_g2 (ratio_compare_K d) y1) h ?_
  intro y2 h
  refine cn_then ?_
  refine run_cond (v := y2.2.1) (by kernel_rfl) h ?_ ?_
  ·
    intro h
    refine run_seq ?_
    refine run_reg hm hT hC (ratio_compare_g3 (ratio_compare_K d) y2) h ?_
    intro y3 h
    refine cn_then ?_
    refine run_ret ?_
    refine cn_then_ret ?_
    cases h
    exact (hend _ (by kernel_rfl)).2
  ·
    intro h
    refine run_skip ?_
    refine cn_then ?_
    refine run_seq ?_
    refine run_reg hm hT hC (ratio_compare_g4 (ratio_compare_K d) y2) h ?_
    intro y4 h
    refine cn_then ?_
    refine run_ret ?_
    cases h
    exact (hend _ (by kernel_rfl)).2
abbrev ratio_Cmp_ps : List Pk := [.row Rii true, .row Rii true]
abbrev ratio_Cmp_X : Type := Dii × Dii × Unit
abbrev ratio_Cmp_R : Type := Int × Int
def ratio_Cmp_enc (r : ratio_Cmp_R) : LV × List Ob := (.tup [.int .i64 r.1, .int .i64 r.2], [])
def ratio_Cmp_sp (F : ratio_Cmp_X → Option ratio_Cmp_R) : Go.Tx.Spec := ⟨74, ratio_Cmp_ps, ratio_Cmp_R, F, ratio_Cmp_enc⟩
abbrev ratio_Cmp_C : Type := (ratio_both_X → Option ratio_both_R) × (ratio_times_X → Option ratio_times_R) × (cmp_Compare_int64_X → Option cmp_Compare_int64_R) × (ratio_compare_X → Option ratio_compare_R) × Unit
def ratio_Cmp_K (d : Nat) : ratio_Cmp_C := (F_ratio_both d, F_ratio_times d, F_cmp_Compare_int64 d, F_ratio_compare d, ())
def ratio_Cmp_tab (C : ratio_Cmp_C) : List Go.Tx.Spec := [ratio_both_sp C.1, ratio_times_sp C.2.1, cmp_Compare_int64_sp C.2.2.1, ratio_compare_sp C.2.2.2.1]
abbrev ratio_Cmp_Y0i : Type := Int × Int × Int × Int
def ratio_Cmp_S0i (v : ratio_Cmp_Y0i) : St := ⟨[(0, .agg [.int .i64 v.1, .int .i64 v.2.1]), (1, .agg [.int .i64 v.2.2.1, .int .i64 v.2.2.2])], []⟩
abbrev ratio_Cmp_Y0 : Type := Int × Int × Int × Int
def ratio_Cmp_S0 (v : ratio_Cmp_Y0) : St := ⟨[(2, .ptr 0 0), (3, .ptr 1 0)], [.cells [.int .i64 v.1, .int .i64 v.2.1], .cells [.int .i64 v.2.2.1, .int .i64 v.2.2.2]]⟩
def ratio_Cmp_r0 (C : ratio_Cmp_C) (v : ratio_Cmp_Y0i) : Dt ratio_Cmp_Y0 := (Dt.ret (v.1, v.2.1, v.2.2.1, v.2.2.2))
theorem ratio_Cmp_g0 (C : ratio_Cmp_C) (v : ratio_Cmp_Y0i) : treg tysT (orc (ratio_Cmp_tab C)) 43 (regO (bodyOf f74) 0) false [(2, .any), (3, .any)] (ratio_Cmp_S0i v) some = (ratio_Cmp_r0 C v).eval fun y => some (ratio_Cmp_S0 y) := by kernel_rfl
abbrev ratio_Cmp_Y1 : Type := Int × Int × Int × Int × Int
def ratio_Cmp_S1 (v : ratio_Cmp_Y1) : St := ⟨[(2, .ptr 0 0), (3, .ptr 1 0), (6, .int .i64 v.1)], [.cells [.int .i64 v.2.1, .int .i64 v.2.2.1], .cells [.int .i64 v.2.2.2.1, .int .i64 v.2.2.2.2]]⟩
def ratio_Cmp_r1 (C : ratio_Cmp_C) (v : ratio_Cmp_Y0) : Dt ratio_Cmp_Y1 := (Dt.bnd (C.1 ((v.1, v.2.1, ()), (v.2.2.1, v.2.2.2, ()), ())) fun r1 => (Dt.ret (r1, v.1, v.2.1, v.2.2.1, v.2.2.2)))
theorem ratio_Cmp_g1 (C : ratio_Cmp_C) (v : ratio_Cmp_Y0) : treg tysT (orc (ratio_Cmp_tab C)) 43 (regO (bodyOf f74) 1) false [(2, .any), (3, .any), (6, .any)] (ratio_Cmp_S0 v) some = (ratio_Cmp_r1 C v).eval fun y => some (ratio_Cmp_S1 y) := by kernel_rfl
abbrev ratio_Cmp_Y2 : Type := Int × Bool × Int × Int × Int × Int
def ratio_Cmp_S2 (v : ratio_Cmp_Y2) : St := ⟨[(2, .ptr 0 0), (3, .ptr 1 0), (6, .int .i64 v.1), (12, .bool v.2.1)], [.cells [.int .i64 v.2.2.1, .int .i64 v.2.2.2.1], .cells [.int .i64 v.2.2.2.2.1, .int .i64 v.2.2.2.2.2]]⟩
def ratio_Cmp_r2 (C : ratio_Cmp_C) (v : ratio_Cmp_Y1) : Dt ratio_Cmp_Y2 := (Dt.ret (v.1, (v.1 != (0:Int)), v.2.1, v.2.2.1, v.2.2.2.1, v.2.2.2.2))
theorem ratio_Cmp_g2 (C : ratio_Cmp_C) (v : ratio_Cmp_Y1) : treg tysT (orc (ratio_Cmp_tab C)) 43 (regO (bodyOf f74) 2) false [(2, .any), (3, .any), (6, .any), (12, .any)] (ratio_Cmp_S1 v) some = (ratio_Cmp_r2 C v).eval fun y => some (ratio_Cmp_S2 y) := by kernel_rfl
abbrev ratio_Cmp_Y3 : Type := Int × Int
def ratio_Cmp_S3 (v : ratio_Cmp_Y3) : St := ⟨[(4, .int .i64 v.1), (5, .int .i64 v.2)], []⟩
def ratio_Cmp_r3 (C : ratio_Cmp_C) (v : ratio_Cmp_Y2) : Dt ratio_Cmp_Y3 := (Dt.ret ((0:Int), v.1))
theorem ratio_Cmp_g3 (C : ratio_Cmp_C) (v : ratio_Cmp_Y2) : treg tysT (orc (ratio_Cmp_tab C)) 43 (regO (bodyOf f74) 3) false [(4, .any), (5, .any)] (ratio_Cmp_S2 v) some = (ratio_Cmp_r3 C v).eval fun y => some (ratio_Cmp_S3 y) := by kernel_rfl
abbrev ratio_Cmp_Y4 : Type := Bool × Int × Int × Int × Int
def ratio_Cmp_S4 (v : ratio_Cmp_Y4) : St := ⟨[(2, .ptr 0 0), (3, .ptr 1 0), (20, .bool v.1)], [.cells [.int .i64 v.2.1, .int .i64 v.2.2.1], .cells [.int .i64 v.2.2.2.1, .int .i64 v.2.2.2.2]]⟩
def ratio_Cmp_r4 (C : ratio_Cmp_C) (v : ratio_Cmp_Y2) : Dt ratio_Cmp_Y4 := (Dt.ret ((!((decide (v.2.2.1 < (0:Int))) == (decide (v.2.2.2.2.1 < (0:Int))))), v.2.2.1, v.2.2.2.1, v.2.2.2.2.1, v.2.2.2.2.2))
theorem ratio_Cmp_g4 (C : ratio_Cmp_C) (v : ratio_Cmp_Y2) : treg tysT (orc (ratio_Cmp_tab C)) 43 (regO (bodyOf f74) 4) false [(2, .any), (3, .any), (20, .any)] (ratio_Cmp_S2 v) some = (ratio_Cmp_r4 C v).eval fun y => some (ratio_Cmp_S4 y) := by kernel_rfl
def ratio_Cmp_r5 (C : ratio_Cmp_C) (v : ratio_Cmp_Y4) : Dt ratio_Cmp_Y3 := (Dt.bnd (C.2.2.1 ((v.2.1, ()), (v.2.2.2.1, ()), ())) fun r1 => (Dt.ret (r1, (0:Int))))
theorem ratio_Cmp_g5 (C : ratio_Cmp_C) (v : ratio_Cmp_Y4) : treg tysT (orc (ratio_Cmp_tab C)) 43 (regO (bodyOf f74) 5) false [(4, .any), (5, .any)] (ratio_Cmp_S4 v) some = (ratio_Cmp_r5 C v).eval fun y => some (ratio_Cmp_S3 y) := by kernel_rfl
abbrev ratio_Cmp_Y6 : Type := Int × Int × Int
def ratio_Cmp_S6 (v : ratio_Cmp_Y6) : St := ⟨[(2, .ptr 0 0), (7, .int .i64 v.1)], [.cells [.int .i64 v.2.1, .int .i64 v.2.2]]⟩
def ratio_Cmp_r6 (C : ratio_Cmp_C) (v : ratio_Cmp_Y4) : Dt ratio_Cmp_Y6 := (Dt.bnd (C.2.1 ((v.2.1, ()), (v.2.2.2.2, ()), ())) fun r1 => (Dt.bnd (C.2.1 ((v.2.2.2.1, ()), (v.2.2.1, ()), ())) fun r2 => (Dt.bnd (C.2.2.2.1 ((r1.1, r1.2.1, r1.2.2, ()), (r2.1, r2.2.1, r2.2.2, ()), ())) fun r3 => (Dt.ret (r3, v.2.1, v.2.2.1)))))
theorem ratio_Cmp_g6 (C : ratio_Cmp_C) (v : ratio_Cmp_Y4) : treg tysT (orc (ratio_Cmp_tab C)) 43 (regO (bodyOf f74) 6) true [(2, .any), (7, .any)] (ratio_Cmp_S4 v) some = (ratio_Cmp_r6 C v).eval fun y => some (ratio_Cmp_S6 y) := by kernel_rfl
abbrev ratio_Cmp_Y7 : Type := Int × Bool
def ratio_Cmp_S7 (v : ratio_Cmp_Y7) : St := ⟨[(7, .int .i64 v.1), (39, .bool v.2)], []⟩
def ratio_Cmp_r7 (C : ratio_Cmp_C) (v : ratio_Cmp_Y6) : Dt ratio_Cmp_Y7 := (Dt.ret (v.1, (decide (v.2.1 < (0:Int)))))
theorem ratio_Cmp_g7 (C : ratio_Cmp_C) (v : ratio_Cmp_Y6) : treg tysT (orc (ratio_Cmp_tab C)) 43 (regO (bodyOf f74) 7) false [(7, .any), (39, .any)] (ratio_Cmp_S6 v) some = (ratio_Cmp_r7 C v).eval fun y => some (ratio_Cmp_S7 y) := by kernel_rfl
abbrev ratio_Cmp_Y8 : Type := Int
def ratio_Cmp_S8 (v : ratio_Cmp_Y8) : St := ⟨[(7, .int .i64 v)], []⟩
def ratio_Cmp_r8 (C : ratio_Cmp_C) (v : ratio_Cmp_Y7) : Dt ratio_Cmp_Y8 := (Dt.ret (IntKind.wrap .i64 (0 - v.1)))
theorem ratio_Cmp_g8 (C : ratio_Cmp_C) (v : ratio_Cmp_Y7) : treg tysT (orc (ratio_Cmp_tab C)) 43 (regO (bodyOf f74) 8) false [(7, .any)] (ratio_Cmp_S7 v) some = (ratio_Cmp_r8 C v).eval fun y => some (ratio_Cmp_S8 y) := by kernel_rfl
def ratio_Cmp_r9 (C : ratio_Cmp_C) (v : ratio_Cmp_Y8) : Dt ratio_Cmp_Y3 := (Dt.ret (v, (0:Int)))
theorem ratio_Cmp_g9 (C : ratio_Cmp_C) (v : ratio_Cmp_Y8) : treg tysT (orc (ratio_Cmp_tab C)) 43 (regO (bodyOf f74) 9) false [(4, .any), (5, .any)] (ratio_Cmp_S8 v) some = (ratio_Cmp_r9 C v).eval fun y => some (ratio_Cmp_S3 y) := by kernel_rfl
def ratio_Cmp_J1  (d : Nat)  (z : Int) : Option (ratio_Cmp_R) :=
  (ratio_Cmp_r9 (ratio_Cmp_K d) z).eval fun y9 =>
  some y9
def F_ratio_Cmp (d : Nat) (x : ratio_Cmp_X) : Option ratio_Cmp_R :=
  (ratio_Cmp_r0 (ratio_Cmp_K d) (x.1.1, x.1.2.1, x.2.1.1, x.2.1.2.1)).eval fun y0 =>
  (ratio_Cmp_r1 (ratio_Cmp_K d) y0).eval fun y1 =>
  (ratio_Cmp_r2 (ratio_Cmp_K d) y1).eval fun y2 =>
  bif y2.2.1 then ((ratio_Cmp_r3 (ratio_Cmp_K d) y2).eval fun y3 =>
  some y3) else ((ratio_Cmp_r4 (ratio_Cmp_K d) y2).eval fun y4 =>
  bif y4.1 then ((ratio_Cmp_r5 (ratio_Cmp_K d) y4).eval fun y5 =>
  some y5) else ((ratio_Cmp_r6 (ratio_Cmp_K d) y4).eval fun y6 =>
  (ratio_Cmp_r7 (ratio_Cmp_K d) y6).eval fun y7 =>
  bif y7.2 then ((ratio_Cmp_r8 (ratio_Cmp_K d) y7).eval fun y8 =>
  ratio_Cmp_J1 d  y8) else (ratio_Cmp_J1 d  y7.1)))
theorem ratio_Cmp_cok (d : Nat) : COK prog (ratio_Cmp_sp (F_ratio_Cmp d)) := by
  have hm : prog.follows .mixedOrders = true := mixed
  have hT := tys
  have hC0 : OrcOK prog (orc (ratio_Cmp_tab (ratio_Cmp_K d))) := orc_ok (by
    intro S hS
    simp only [ratio_Cmp_tab, List.mem_cons, List.not_mem_nil, or_false] at hS
    rcases hS with rfl | rfl | rfl | rfl
    · exact ratio_both_cok d
    · exact ratio_times_cok d
    · exact cmp_Compare_int64_cok d
    · exact ratio_compare_cok d)
  have hC : OrcOK prog (orc (ratio_Cmp_tab (ratio_Cmp_K d))) := hC0
  refine cok_of (c := bodyOf f74) (fn := f74) hT (by kernel_rfl) (by kernel_rfl) (by decide) fun x r h w0 φ0 Q hend => ?_
  replace h : F_ratio_Cmp d x = some r := h
  unfold F_ratio_Cmp at h
  show Run prog w0 φ0 43 (bodyOf f74) ⟨[(0, .agg [.int .i64 x.1.1, .int .i64 x.1.2.1]), (1, .agg [.int .i64 x.2.1.1, .int .i64 x.2.1.2.1])], []⟩ Q
  refine run_seq ?_
  refine run_reg hm hT hC (ratio_Cmp_g0 (ratio_Cmp_K d) (x.1.1, x.1.2.1, x.2.1.1, x.2.1.2.1)) h ?_
  intro y0 h
  refine cn_then ?_
  refine run_seq ?_
  refine run_seq ?_
  refine run_reg hm hT hC (ratio_Cmp_g1 (ratio_Cmp_K d) y0) h ?_
  intro y1 h
  refine cn_then ?_
  refine run_seq ?_
  refine run_reg hm hT hC (ratio_Cmp_g2 (ratio_Cmp_K d) y1) h ?_
  intro y2 h
  refine cn_then ?_
  refine run_cond (v := y2.2.1) (by kernel_rfl) h ?_ ?_
  ·
    intro h
    refine run_seq ?_
    refine run_reg hm hT hC (ratio_Cmp_g3 (ratio_Cmp_K d) y2) h ?_
    intro y3 h
    refine cn_then ?_
    refine run_ret ?_
    refine cn_then_ret ?_
    cases h
    exact (hend _ (by kernel_rfl)).2
  ·
    intro h
    refine run_skip ?_
    refine cn_then ?_
    refine run_seq ?_
    refine run_seq ?_
    refine run_reg hm hT hC (ratio_Cmp_g4 (ratio_Cmp_K d) y2) h ?_
    intro y4 h
    refine cn_then ?_
    refine run_cond (v := y4.1) (by kernel_rfl) h ?_ ?_
    ·
      intro h
      refine run_seq ?_
      refine run_reg hm hT hC (ratio_Cmp_g5 (ratio_Cmp_K d) y4) h ?_
      intro y5 h
      refine cn_then ?_
      refine run_ret ?_
      refine cn_then_ret ?_
      cases h
      exact (hend _ (by kernel_rfl)).2
    ·
      intro h
      refine run_skip ?_
      refine cn_then ?_
      refine run_seq ?_
      refine run_reg hm hT hC (ratio_Cmp_g6 (ratio_Cmp_K d) y4) h ?_
      intro y6 h
      refine cn_then ?_
      refine run_join (r := r) (F := ratio_Cmp_J1 d ) (S := (fun z => ⟨[(7, .int .i64 z)], []⟩ : Int → St)) ?_ ?_
      ·
        intro z h
        unfold ratio_Cmp_J1 at h
        refine run_seq ?_
        refine run_reg hm hT hC (ratio_Cmp_g9 (ratio_Cmp_K d) z) h ?_
        intro y9 h
        refine cn_then ?_
        refine run_ret ?_
        cases h
        exact (hend _ (by kernel_rfl)).2
      intro hj1
      refine run_seq ?_
      refine run_reg hm hT hC (ratio_Cmp_g7 (ratio_Cmp_K d) y6) h ?_
      intro y7 h
      refine cn_then ?_
      refine run_cond (v := y7.2) (by kernel_rfl) h ?_ ?_
      ·
        intro h
        refine run_reg hm hT hC (ratio_Cmp_g8 (ratio_Cmp_K d) y7) h ?_
        intro y8 h
        exact hj1 _ h
      ·
        intro h
        refine run_skip ?_
        refine cn_num (s := ⟨[(7, .int .i64 y7.1)], []⟩) [39] (by kernel_rfl) ?_
        exact hj1 _ h
abbrev course_Fails_ps : List Pk := [.row Riii true, .row Riii true, .row Rii true]
abbrev course_Fails_X : Type := Diii × Diii × Dii × Unit
abbrev course_Fails_R : Type := Int × Int × Bool × Int
def course_Fails_enc (r : course_Fails_R) : LV × List Ob := (.tup [.agg [.int .i64 r.1, .int .i64 r.2.1], .bool r.2.2.1, .int .i64 r.2.2.2], [])
def course_Fails_sp (F : course_Fails_X → Option course_Fails_R) : Go.Tx.Spec := ⟨46, course_Fails_ps, course_Fails_R, F, course_Fails_enc⟩
abbrev course_Fails_C : Type := (course_two_X → Option course_two_R) × (course_compare_X → Option course_compare_R) × (course_Meet_X → Option course_Meet_R) × Unit
def course_Fails_K (d : Nat) : course_Fails_C := (F_course_two d, F_course_compare d, F_course_Meet d, ())
def course_Fails_tab (C : course_Fails_C) : List Go.Tx.Spec := [course_two_sp C.1, course_compare_sp C.2.1, course_Meet_sp C.2.2.1]
abbrev course_Fails_Y0i : Type := Int × Int × Int × Int × Int × Int × Int × Int
def course_Fails_S0i (v : course_Fails_Y0i) : St := ⟨[(0, .agg [.int .i64 v.1, .int .i64 v.2.1, .int .i64 v.2.2.1]), (1, .agg [.int .i64 v.2.2.2.1, .int .i64 v.2.2.2.2.1, .int .i64 v.2.2.2.2.2.1]), (2, .agg [.int .i64 v.2.2.2.2.2.2.1, .int .i64 v.2.2.2.2.2.2.2])], []⟩
abbrev course_Fails_Y0 : Type := Int × Int × Int × Int × Int × Int × Int × Int × Int × Int
def course_Fails_S0 (v : course_Fails_Y0) : St := ⟨[(3, .ptr 0 0), (4, .ptr 1 0), (5, .ptr 2 0), (6, .ptr 3 0)], [.cells [.int .i64 v.1, .int .i64 v.2.1, .int .i64 v.2.2.1], .cells [.int .i64 v.2.2.2.1, .int .i64 v.2.2.2.2.1, .int .i64 v.2.2.2.2.2.1], .cells [.int .i64 v.2.2.2.2.2.2.1, .int .i64 v.2.2.2.2.2.2.2.1], .cells [.int .i64 v.2.2.2.2.2.2.2.2.1, .int .i64 v.2.2.2.2.2.2.2.2.2]]⟩
def course_Fails_r0 (C : course_Fails_C) (v : course_Fails_Y0i) : Dt course_Fails_Y0 := (Dt.ret (v.1, v.2.1, v.2.2.1, v.2.2.2.1, v.2.2.2.2.1, v.2.2.2.2.2.1, v.2.2.2.2.2.2.1, v.2.2.2.2.2.2.2, (0:Int), (0:Int)))
theorem course_Fails_g0 (C : course_Fails_C) (v : course_Fails_Y0i) : treg tysT (orc (course_Fails_tab C)) 42 (regO (bodyOf f46) 0) false [(3, .any), (4, .any), (5, .any), (6, .any)] (course_Fails_S0i v) some = (course_Fails_r0 C v).eval fun y => some (course_Fails_S0 y) := by kernel_rfl
abbrev course_Fails_Y1 : Type := Int × Int × Int × Int × Int × Int × Int × Int × Int × Int × Int
def course_Fails_S1 (v : course_Fails_Y1) : St := ⟨[(3, .ptr 0 0), (4, .ptr 1 0), (5, .ptr 2 0), (6, .ptr 3 0), (9, .int .i64 v.1)], [.cells [.int .i64 v.2.1, .int .i64 v.2.2.1, .int .i64 v.2.2.2.1], .cells [.int .i64 v.2.2.2.2.1, .int .i64 v.2.2.2.2.2.1, .int .i64 v.2.2.2.2.2.2.1], .cells [.int .i64 v.2.2.2.2.2.2.2.1, .int .i64 v.2.2.2.2.2.2.2.2.1], .cells [.int .i64 v.2.2.2.2.2.2.2.2.2.1, .int .i64 v.2.2.2.2.2.2.2.2.2.2]]⟩
def course_Fails_r1 (C : course_Fails_C) (v : course_Fails_Y0) : Dt course_Fails_Y1 := (Dt.bnd (C.1 ((v.1, v.2.1, v.2.2.1, ()), (v.2.2.2.1, v.2.2.2.2.1, v.2.2.2.2.2.1, ()), (v.2.2.2.2.2.2.1, v.2.2.2.2.2.2.2.1, ()), ())) fun r1 => (Dt.ret (r1, v.1, v.2.1, v.2.2.1, v.2.2.2.1, v.2.2.2.2.1, v.2.2.2.2.2.1, v.2.2.2.2.2.2.1, v.2.2.2.2.2.2.2.1, v.2.2.2.2.2.2.2.2.1, v.2.2.2.2.2.2.2.2.2)))
theorem course_Fails_g1 (C : course_Fails_C) (v : course_Fails_Y0) : treg tysT (orc (course_Fails_tab C)) 42 (regO (bodyOf f46) 1) false [(3, .any), (4, .any), (5, .any), (6, .any), (9, .any)] (course_Fails_S0 v) some = (course_Fails_r1 C v).eval fun y => some (course_Fails_S1 y) := by kernel_rfl
abbrev course_Fails_Y2 : Type := Int × Bool × Int × Int × Int × Int × Int × Int × Int × Int × Int × Int
def course_Fails_S2 (v : course_Fails_Y2) : St := ⟨[(3, .ptr 0 0), (4, .ptr 1 0), (5, .ptr 2 0), (6, .ptr 3 0), (9, .int .i64 v.1), (17, .bool v.2.1)], [.cells [.int .i64 v.2.2.1, .int .i64 v.2.2.2.1, .int .i64 v.2.2.2.2.1], .cells [.int .i64 v.2.2.2.2.2.1, .int .i64 v.2.2.2.2.2.2.1, .int .i64 v.2.2.2.2.2.2.2.1], .cells [.int .i64 v.2.2.2.2.2.2.2.2.1, .int .i64 v.2.2.2.2.2.2.2.2.2.1], .cells [.int .i64 v.2.2.2.2.2.2.2.2.2.2.1, .int .i64 v.2.2.2.2.2.2.2.2.2.2.2]]⟩
def course_Fails_r2 (C : course_Fails_C) (v : course_Fails_Y1) : Dt course_Fails_Y2 := (Dt.ret (v.1, (v.1 != (0:Int)), v.2.1, v.2.2.1, v.2.2.2.1, v.2.2.2.2.1, v.2.2.2.2.2.1, v.2.2.2.2.2.2.1, v.2.2.2.2.2.2.2.1, v.2.2.2.2.2.2.2.2.1, v.2.2.2.2.2.2.2.2.2.1, v.2.2.2.2.2.2.2.2.2.2))
theorem course_Fails_g2 (C : course_Fails_C) (v : course_Fails_Y1) : treg tysT (orc (course_Fails_tab C)) 42 (regO (bodyOf f46) 2) false [(3, .any), (4, .any), (5, .any), (6, .any), (9, .any), (17, .any)] (course_Fails_S1 v) some = (course_Fails_r2 C v).eval fun y => some (course_Fails_S2 y) := by kernel_rfl
abbrev course_Fails_Y3 : Type := Bool × Int × Int × Int
def course_Fails_S3 (v : course_Fails_Y3) : St := ⟨[(6, .ptr 0 0), (7, .bool v.1), (8, .int .i64 v.2.1)], [.cells [.int .i64 v.2.2.1, .int .i64 v.2.2.2]]⟩
def course_Fails_r3 (C : course_Fails_C) (v : course_Fails_Y2) : Dt course_Fails_Y3 := (Dt.ret (false, v.1, (0:Int), (0:Int)))
theorem course_Fails_g3 (C : course_Fails_C) (v : course_Fails_Y2) : treg tysT (orc (course_Fails_tab C)) 42 (regO (bodyOf f46) 3) false [(6, .any), (7, .any), (8, .any)] (course_Fails_S2 v) some = (course_Fails_r3 C v).eval fun y => some (course_Fails_S3 y) := by kernel_rfl
abbrev course_Fails_Y4 : Type := Bool × Int × Int × Int × Int × Int × Int × Int × Int × Int × Int
def course_Fails_S4 (v : course_Fails_Y4) : St := ⟨[(3, .ptr 0 0), (4, .ptr 1 0), (5, .ptr 2 0), (6, .ptr 3 0), (24, .bool v.1)], [.cells [.int .i64 v.2.1, .int .i64 v.2.2.1, .int .i64 v.2.2.2.1], .cells [.int .i64 v.2.2.2.2.1, .int .i64 v.2.2.2.2.2.1, .int .i64 v.2.2.2.2.2.2.1], .cells [.int .i64 v.2.2.2.2.2.2.2.1, .int .i64 v.2.2.2.2.2.2.2.2.1], .cells [.int .i64 v.2.2.2.2.2.2.2.2.2.1, .int .i64 v.2.2.2.2.2.2.2.2.2.2]]⟩
def course_Fails_r4 (C : course_Fails_C) (v : course_Fails_Y2) : Dt course_Fails_Y4 := (Dt.bnd (C.2.1 ((v.2.2.2.2.2.1, v.2.2.2.2.2.2.1, v.2.2.2.2.2.2.2.1, ()), (v.2.2.1, v.2.2.2.1, v.2.2.2.2.1, ()), (v.2.2.2.2.2.2.2.2.1, v.2.2.2.2.2.2.2.2.2.1, ()), ())) fun r1 => (Dt.ret ((decide (r1 > (0:Int))), v.2.2.1, v.2.2.2.1, v.2.2.2.2.1, v.2.2.2.2.2.1, v.2.2.2.2.2.2.1, v.2.2.2.2.2.2.2.1, v.2.2.2.2.2.2.2.2.1, v.2.2.2.2.2.2.2.2.2.1, v.2.2.2.2.2.2.2.2.2.2.1, v.2.2.2.2.2.2.2.2.2.2.2)))
theorem course_Fails_g4 (C : course_Fails_C) (v : course_Fails_Y2) : treg tysT (orc (course_Fails_tab C)) 42 (regO (bodyOf f46) 4) false [(3, .any), (4, .any), (5, .any), (6, .any), (24, .any)] (course_Fails_S2 v) some = (course_Fails_r4 C v).eval fun y => some (course_Fails_S4 y) := by kernel_rfl
def course_Fails_r5 (C : course_Fails_C) (v : course_Fails_Y4) : Dt course_Fails_Y3 := (Dt.ret (true, (0:Int), v.2.2.2.2.2.2.2.1, v.2.2.2.2.2.2.2.2.1))
theorem course_Fails_g5 (C : course_Fails_C) (v : course_Fails_Y4) : treg tysT (orc (course_Fails_tab C)) 42 (regO (bodyOf f46) 5) false [(6, .any), (7, .any), (8, .any)] (course_Fails_S4 v) some = (course_Fails_r5 C v).eval fun y => some (course_Fails_S3 y) := by kernel_rfl
abbrev course_Fails_Y6 : Type := Bool × Int × Int × Int × Int × Int × Int × Int × Int
def course_Fails_S6 (v : course_Fails_Y6) : St := ⟨[(3, .ptr 0 0), (4, .ptr 1 0), (6, .ptr 2 0), (30, .bool v.1)], [.cells [.int .i64 v.2.1, .int .i64 v.2.2.1, .int .i64 v.2.2.2.1], .cells [.int .i64 v.2.2.2.2.1, .int .i64 v.2.2.2.2.2.1, .int .i64 v.2.2.2.2.2.2.1], .cells [.int .i64 v.2.2.2.2.2.2.2.1, .int .i64 v.2.2.2.2.2.2.2.2]]⟩
def course_Fails_r6 (C : course_Fails_C) (v : course_Fails_Y4) : Dt course_Fails_Y6 := (Dt.ret ((decide (v.2.2.2.2.2.2.1 ≤ v.2.2.2.1)), v.2.1, v.2.2.1, v.2.2.2.1, v.2.2.2.2.1, v.2.2.2.2.2.1, v.2.2.2.2.2.2.1, v.2.2.2.2.2.2.2.2.2.1, v.2.2.2.2.2.2.2.2.2.2))
theorem course_Fails_g6 (C : course_Fails_C) (v : course_Fails_Y4) : treg tysT (orc (course_Fails_tab C)) 42 (regO (bodyOf f46) 6) false [(3, .any), (4, .any), (6, .any), (30, .any)] (course_Fails_S4 v) some = (course_Fails_r6 C v).eval fun y => some (course_Fails_S6 y) := by kernel_rfl
def course_Fails_r7 (C : course_Fails_C) (v : course_Fails_Y6) : Dt course_Fails_Y3 := (Dt.ret (false, (0:Int), (0:Int), (0:Int)))
theorem course_Fails_g7 (C : course_Fails_C) (v : course_Fails_Y6) : treg tysT (orc (course_Fails_tab C)) 42 (regO (bodyOf f46) 7) false [(6, .any), (7, .any), (8, .any)] (course_Fails_S6 v) some = (course_Fails_r7 C v).eval fun y => some (course_Fails_S3 y) := by kernel_rfl
abbrev course_Fails_Y8 : Type := Int × Int × Int × Int × Int
def course_Fails_S8 (v : course_Fails_Y8) : St := ⟨[(6, .ptr 0 0), (10, .ptr 1 0), (11, .int .i64 v.1)], [.cells [.int .i64 v.2.1, .int .i64 v.2.2.1], .cells [.int .i64 v.2.2.2.1, .int .i64 v.2.2.2.2]]⟩
def course_Fails_r8 (C : course_Fails_C) (v : course_Fails_Y6) : Dt course_Fails_Y8 := (Dt.bnd (C.2.2.1 ((v.2.1, v.2.2.1, v.2.2.2.1, ()), (v.2.2.2.2.1, v.2.2.2.2.2.1, v.2.2.2.2.2.2.1, ()), ())) fun r1 => (Dt.ret (r1.2.2, v.2.2.2.2.2.2.2.1, v.2.2.2.2.2.2.2.2, r1.1, r1.2.1)))
theorem course_Fails_g8 (C : course_Fails_C) (v : course_Fails_Y6) : treg tysT (orc (course_Fails_tab C)) 42 (regO (bodyOf f46) 8) false [(6, .any), (10, .any), (11, .any)] (course_Fails_S6 v) some = (course_Fails_r8 C v).eval fun y => some (course_Fails_S8 y) := by kernel_rfl
def course_Fails_r9 (C : course_Fails_C) (v : course_Fails_Y8) : Dt course_Fails_Y3 := (Dt.ret ((v.1 == (0:Int)), v.1, v.2.2.2.1, v.2.2.2.2))
theorem course_Fails_g9 (C : course_Fails_C) (v : course_Fails_Y8) : treg tysT (orc (course_Fails_tab C)) 42 (regO (bodyOf f46) 9) false [(6, .any), (7, .any), (8, .any)] (course_Fails_S8 v) some = (course_Fails_r9 C v).eval fun y => some (course_Fails_S3 y) := by kernel_rfl
def F_course_Fails (d : Nat) (x : course_Fails_X) : Option course_Fails_R :=
  (course_Fails_r0 (course_Fails_K d) (x.1.1, x.1.2.1, x.1.2.2.1, x.2.1.1, x.2.1.2.1, x.2.1.2.2.1, x.2.2.1.1, x.2.2.1.2.1)).eval fun y0 =>
  (course_Fails_r1 (course_Fails_K d) y0).eval fun y1 =>
  (course_Fails_r2 (course_Fails_K d) y1).eval fun y2 =>
  bif y2.2.1 then ((course_Fails_r3 (course_Fails_K d) y2).eval fun y3 =>
  some (y3.2.2.1, y3.2.2.2, y3.1, y3.2.1)) else ((course_Fails_r4 (course_Fails_K d) y2).eval fun y4 =>
  bif y4.1 then ((course_Fails_r5 (course_Fails_K d) y4).eval fun y5 =>
  some (y5.2.2.1, y5.2.2.2, y5.1, y5.2.1)) else ((course_Fails_r6 (course_Fails_K d) y4).eval fun y6 =>
  bif y6.1 then ((course_Fails_r7 (course_Fails_K d) y6).eval fun y7 =>
  some (y7.2.2.1, y7.2.2.2, y7.1, y7.2.1)) else ((course_Fails_r8 (course_Fails_K d) y6).eval fun y8 =>
  (course_Fails_r9 (course_Fails_K d) y8).eval fun y9 =>
  some (y9.2.2.1, y9.2.2.2, y9.1, y9.2.1))))
theorem course_Fails_cok (d : Nat) : COK prog (course_Fails_sp (F_course_Fails d)) := by
  have hm : prog.follows .mixedOrders = true := mixed
  have hT := tys
  have hC0 : OrcOK prog (orc (course_Fails_tab (course_Fails_K d))) := orc_ok (by
    intro S hS
    simp only [course_Fails_tab, List.mem_cons, List.not_mem_nil, or_false] at hS
    rcases hS with rfl | rfl | rfl
    · exact course_two_cok d
    · exact course_compare_cok d
    · exact course_Meet_cok d)
  have hC : OrcOK prog (orc (course_Fails_tab (course_Fails_K d))) := hC0
  refine cok_of (c := bodyOf f46) (fn := f46) hT (by kernel_rfl) (by kernel_rfl) (by decide) fun x r h w0 φ0 Q hend => ?_
  replace h : F_course_Fails d x = some r := h
  unfold F_course_Fails at h
  show Run prog w0 φ0 42 (bodyOf f46) ⟨[(0, .agg [.int .i64 x.1.1, .int .i64 x.1.2.1, .int .i64 x.1.2.2.1]), (1, .agg [.int .i64 x.2.1.1, .int .i64 x.2.1.2.1, .int .i64 x.2.1.2.2.1]), (2, .agg [.int .i64 x.2.2.1.1, .int .i64 x.2.2.1.2.1])], []⟩ Q
  refine run_seq ?_
  refine run_reg hm hT hC (course_Fails_g0 (course_Fails_K d) (x.1.1, x.1.2.1, x.1.2.2.1, x.2.1.1, x.2.1.2.1, x.2.1.2.2.1, x.2.2.1.1, x.2.2.1.2.1)) h ?_
  intro y0 h
  refine cn_then ?_
  refine run_seq ?_
  refine run_seq ?_
  refine run_reg hm hT hC (course_Fails_g1 (course_Fails_K d) y0) h ?_
  intro y1 h
  refine cn_then ?_
  refine run_seq ?_
  refine run_reg hm hT hC (course_Fails_g2 (course_Fails_K d) y1) h ?_
  intro y2 h
  refine cn_then ?_
  refine run_cond (v := y2.2.1) (by kernel_rfl) h ?_ ?_
  ·
    intro h
    refine run_seq ?_
    refine run_reg hm hT hC (course_Fails_g3 (course_Fails_K d) y2) h ?_
    intro y3 h
    refine cn_then ?_
    refine run_ret ?_
    refine cn_then_ret ?_
    cases h
    exact (hend _ (by kernel_rfl)).2
  ·
    intro h
    refine run_skip ?_
    refine cn_then ?_
    refine run_seq ?_
    refine run_seq ?_
    refine run_reg hm hT hC (course_Fails_g4 (course_Fails_K d) y2) h ?_
    intro y4 h
    refine cn_then ?_
    refine run_cond (v := y4.1) (by kernel_rfl) h ?_ ?_
    ·
      intro h
      refine run_seq ?_
      refine run_reg hm hT hC (course_Fails_g5 (course_Fails_K d) y4) h ?_
      intro y5 h
      refine cn_then ?_
      refine run_ret ?_
      refine cn_then_ret ?_
      cases h
      exact (hend _ (by kernel_rfl)).2
    ·
      intro h
      refine run_skip ?_
      refine cn_then ?_
      refine run_seq ?_
      refine run_seq ?_
      refine run_reg hm hT hC (course_Fails_g6 (course_Fails_K d) y4) h ?_
      intro y6 h
      refine cn_then ?_
      refine run_cond (v := y6.1) (by kernel_rfl) h ?_ ?_
      ·
        intro h
        refine run_seq ?_
        refine run_reg hm hT hC (course_Fails_g7 (course_Fails_K d) y6) h ?_
        intro y7 h
        refine cn_then ?_
        refine run_ret ?_
        refine cn_then_ret ?_
        cases h
        exact (hend _ (by kernel_rfl)).2
      ·
        intro h
        refine run_skip ?_
        refine cn_then ?_
        refine run_seq ?_
        refine run_reg hm hT hC (course_Fails_g8 (course_Fails_K d) y6) h ?_
        intro y8 h
        refine cn_then ?_
        refine run_seq ?_
        refine run_reg hm hT hC (course_Fails_g9 (course_Fails_K d) y8) h ?_
        intro y9 h
        refine cn_then ?_
        refine run_ret ?_
        cases h
        exact (hend _ (by kernel_rfl)).2
end Go.Proofs.Ytdpnndpbbdhnmaa

namespace Go.Tx
open Go
def add64V (x y c : Int) : Option (Int × Int) := bif decide (0 ≤ x) && decide (x < 18446744073709551616) && decide (0 ≤ y) && decide (y < 18446744073709551616) && decide (0 ≤ c) && decide (c ≤ 1) then some ((x + y + c) % 18446744073709551616, (x + y + c) / 18446744073709551616) else none
def sub64V (x y c : Int) : Option (Int × Int) := bif decide (0 ≤ x) && decide (x < 18446744073709551616) && decide (0 ≤ y) && decide (y < 18446744073709551616) && decide (0 ≤ c) && decide (c ≤ 1) then some ((x - y - c) % 18446744073709551616, bif decide (x < y + c) then 1 else 0) else none
/-- calls of the function f, which gives two numbers of 64 bits at once -/
def orcI (f : FuncId) (G : Int → Int → Int → Option (Int × Int)) (C : Orc) : Orc := fun h args H =>
  bif Nat.beq h f then (match args with
    | [.int .u64 x, .int .u64 y, .int .u64 c] => some ⟨Int × Int, G x y c, fun r => (.tup [.int .u64 r.1, .int .u64 r.2], H)⟩
    | _ => none) else C h args H
theorem orcI_ok {P : Program} {f : FuncId} {G : Int → Int → Int → Option (Int × Int)} (hG : ∀ x y c r, G x y c = some r → ∀ w, (callFunc f #[.int .u64 x, .int .u64 y, .int .u64 c]).run P w = .ok (.value (.tuple #[.int .u64 r.1, .int .u64 r.2])) w) {C : Orc} (hC : OrcOK P C) : OrcOK P (orcI f G C) := by
  refine ⟨fun h args H p x hp hx => ?_⟩
  unfold orcI at hp
  rw [Bool.cond_eq_ite] at hp
  split at hp
  · rename_i he
    have he := Nat.eq_of_beq_eq_true he
    subst he
    split at hp
    · rename_i x0 y0 c0
      injection hp with hp; subst hp
      refine .inr ⟨rfl, fun η w vs hv => ?_⟩
      obtain ⟨v0, vs', rfl, q0, hv⟩ := hv.uncons
      obtain ⟨v1, v2, rfl, q1, q2⟩ := vrs2 hv
      cases q0; cases q1; cases q2
      exact ⟨_, hG x0 y0 c0 x hx w, .tup rfl (VRs.cons (.int _ _) (VRs.cons (.int _ _) VRs.nil)).2⟩
    · cases hp
  · exact hC.call h args H p x hp hx
theorem add64_nat {x y c : Int} {r : Int × Int} (h : add64V x y c = some r) : ∃ a b d : Nat, x = a ∧ y = b ∧ c = d ∧ a < 18446744073709551616 ∧ b < 18446744073709551616 ∧ d ≤ 1 ∧ r = ((((a + b + d) % 18446744073709551616 : Nat) : Int), (((a + b + d) / 18446744073709551616 : Nat) : Int)) := by
  unfold add64V at h
  rw [Bool.cond_eq_ite] at h
  split at h
  · rename_i hc
    simp only [Bool.and_eq_true, decide_eq_true_eq] at hc
    injection h with h
    refine ⟨x.toNat, y.toNat, c.toNat, by omega, by omega, by omega, by omega, by omega, by omega, ?_⟩
    rw [← h]
    refine Prod.ext ?_ ?_ <;> simp only <;> omega
  · cases h
theorem sub64_nat {x y c : Int} {r : Int × Int} (h : sub64V x y c = some r) : ∃ a b d : Nat, x = a ∧ y = b ∧ c = d ∧ a < 18446744073709551616 ∧ b < 18446744073709551616 ∧ d ≤ 1 ∧ r = ((((a + 18446744073709551616 - b - d) % 18446744073709551616 : Nat) : Int), ((if a < b + d then 1 else 0 : Nat) : Int)) := by
  unfold sub64V at h
  rw [Bool.cond_eq_ite] at h
  split at h
  · rename_i hc
    simp only [Bool.and_eq_true, decide_eq_true_eq] at hc
    injection h with h
    refine ⟨x.toNat, y.toNat, c.toNat, by omega, by omega, by omega, by omega, by omega, by omega, ?_⟩
    rw [← h]
    refine Prod.ext ?_ ?_
    · simp only; omega
    · simp only [Bool.cond_eq_ite, decide_eq_true_eq]
      split <;> split <;> first | rfl | omega
  · cases h
end Go.Tx

namespace Go.Proofs.Ytdpnndpbbdhnmaa
open Go Go.Tx Go.Proofs.Try
theorem add64_imm : ∀ x y c r, add64V x y c = some r → ∀ w, (callFunc 105 #[.int .u64 x, .int .u64 y, .int .u64 c]).run Try.prog w = .ok (.value (.tuple #[.int .u64 r.1, .int .u64 r.2])) w := by
  intro x y c r h w
  obtain ⟨a, b, d, rfl, rfl, rfl, ha, hb, hd, rfl⟩ := add64_nat h
  rw [run_callFunc_extern Try.func105 (by kernel_rfl) (by kernel_rfl) (by kernel_rfl) (e := add64Entry) (by kernel_rfl), run_add64 a b d (by omega) (by omega) (by omega) (by omega)]
  simp only [Result.andThen]
  congr 5 <;> omega
theorem sub64_imm : ∀ x y c r, sub64V x y c = some r → ∀ w, (callFunc 106 #[.int .u64 x, .int .u64 y, .int .u64 c]).run Try.prog w = .ok (.value (.tuple #[.int .u64 r.1, .int .u64 r.2])) w := by
  intro x y c r h w
  obtain ⟨a, b, d, rfl, rfl, rfl, ha, hb, hd, rfl⟩ := sub64_nat h
  rw [run_callFunc_extern Try.func106 (by kernel_rfl) (by kernel_rfl) (by kernel_rfl) (e := sub64Entry) (by kernel_rfl), run_sub64 a b d hd]
  rfl
end Go.Proofs.Ytdpnndpbbdhnmaa
