/- The statement BracketBuilds: the plain law, and the join. -/
import Derived.Test.YtkcpnclgcmnlcaaHBBL
set_option linter.unusedSimpArgs false
set_option linter.unusedVariables false
namespace Go.Proofs.Ytkcpnclgcmnlcaa
open Go Go.Tx Go.Pel Go.Proofs.Try Go.ChangeShapes Go.WideShapes Go.ChangeAt Go.RowKit
theorem great_le {n : Nat} (h : great n = false) : n ≤ 70 := by
  unfold great at h; simp only [Bool.or_eq_false_iff, decide_eq_false_iff_not] at h; omega
theorem greatB_le {m n : Nat} (h : greatB m n = false) : m ≤ 70 ∧ n ≤ 70 := by
  unfold greatB at h; simp only [Bool.or_eq_false_iff, decide_eq_false_iff_not] at h; omega
theorem all64B_of {l : List Int} (h : ∀ i ∈ l, wf64 i) : all64B l = true := List.all_eq_true.2 fun x hx => by have := h x hx; unfold wf64 at this; unfold i64B; simp; omega
theorem i64B_of {n : Int} (h : -9223372036854775808 ≤ n ∧ n ≤ 9223372036854775807) : i64B n = true := by unfold i64B; simp; omega
theorem dlt {a b : Nat} (h : a ≤ b) : decide (a ≤ b) = true := decide_eq_true h
set_option maxHeartbeats 4000000 in
theorem bbuilds_plain (d : Nat) (l : List Pt) (n m : Int) (Q P W : List Int) (k : Int) (hN : i64B n = true) (hD : i64B m = true) (fQ : all64B Q = true) (fP : all64B P = true) :
    F_law10_BracketBuilds d ((toPs l, ()), (n, m, ()), (unI Q, ()), (unI P, unI W, ()), (k, ()), ()) = some true := by
  have e15 : F_ref03_Great d ((toPs l, ()), ()) = some (great l.length) := by rw [F_ref03_Great_eq _ _ rfl, ptsL_toP]
  have e29 : F_ref10_Great d ((unI P, unI W, ()), ()) = some (greatB P.length W.length) := by rw [F_ref10_Great_eq _ _ rfl]; simp only [idsI_unI]
  cases hg : great l.length with
  | true => simp only [F_law10_BracketBuilds, law10_BracketBuilds_r0, law10_BracketBuilds_r1, law10_BracketBuilds_r2, Dt.eval, e15, hg, cond_true]
  | false =>
  cases hq : decide (((unI Q).length : Int) > 70) with
  | true => simp only [F_law10_BracketBuilds, law10_BracketBuilds_r0, law10_BracketBuilds_r1, law10_BracketBuilds_r2, Dt.eval, e15, hg, hq, cond_true, cond_false]
  | false =>
  cases hb : greatB P.length W.length with
  | true => simp only [F_law10_BracketBuilds, law10_BracketBuilds_r0, law10_BracketBuilds_r1, law10_BracketBuilds_r2, Dt.eval, e15, e29, hg, hq, hb, cond_true, cond_false]
  | false =>
  have l1 := great_le hg
  have l2 : Q.length ≤ 70 := by rw [unI_len] at hq; have := of_decide_eq_false hq; omega
  obtain ⟨l3, l4⟩ := greatB_le hb
  have b1 := brBuild_len1 l n m Q
  have b2 := brBuild_len2 l n m Q
  have b3 := brPath_len P W k
  have e30 : F_ref10_Twin d ((unI P, unI W, ()), ()) = some (unI P, unI W) := by
    rw [F_ref10_Twin_eq _ _ (by unfold ref10_Twin_if; simp only [idsI_unI, Bool.and_eq_true, decide_eq_true_eq]; omega)]; simp only [idsI_unI]
  have e35 : F_bracket_Build d ((toPs l, ()), (n, m, ()), (unI Q, ()), ()) = some (unI (brBuild l n m Q).1, unI (brBuild l n m Q).2.1, (brBuild l n m Q).2.2) := by
    rw [F_bracket_Build_eq _ _ (by unfold bracket_Build_if; simp only [idsI_unI, ptsL_toP, hN, hD, fQ, Bool.and_true, Bool.true_and, Bool.and_eq_true, decide_eq_true_eq]; omega)]; simp only [idsI_unI, ptsL_toP]
  have e36 : F_ref10_Build d ((toPs l, ()), (n, m, ()), (unI Q, ()), ()) = some (unI (brBuild l n m Q).1, unI (brBuild l n m Q).2.1, (brBuild l n m Q).2.2) := by
    rw [F_ref10_Build_eq _ _ (by unfold ref10_Build_if; simp only [idsI_unI, ptsL_toP, hN, hD, Bool.and_true, Bool.true_and, Bool.and_eq_true, decide_eq_true_eq]; omega)]; simp only [idsI_unI, ptsL_toP]
  have e37 : F_bracket_Winner d ((unI P, unI W, ()), ()) = some ((brWinner P W).1, (brWinner P W).2) := by
    rw [F_bracket_Winner_eq _ _ (by unfold bracket_Winner_if; simp only [idsI_unI, fP, Bool.and_true, Bool.and_eq_true, decide_eq_true_eq]; omega)]; simp only [idsI_unI]
  have e38 : F_ref10_Winner d ((unI P, unI W, ()), ()) = some ((brWinner P W).1, (brWinner P W).2) := by
    rw [F_ref10_Winner_eq _ _ (by unfold ref10_Winner_if; simp only [idsI_unI, Bool.and_eq_true, decide_eq_true_eq]; omega)]; simp only [idsI_unI]
  have e39 : F_bracket_Path d ((unI P, unI W, ()), (k, ()), ()) = some (unI (brPath P W k).1, (brPath P W k).2) := by
    rw [F_bracket_Path_eq _ _ (by unfold bracket_Path_if; simp only [idsI_unI, fP, Bool.and_true, Bool.and_eq_true, decide_eq_true_eq]; omega)]; simp only [idsI_unI]
  have e40 : F_ref10_Path d ((unI P, unI W, ()), (k, ()), ()) = some (unI (brPath P W k).1, (brPath P W k).2) := by
    rw [F_ref10_Path_eq _ _ (by unfold ref10_Path_if; simp only [idsI_unI, Bool.and_eq_true, decide_eq_true_eq]; omega)]; simp only [idsI_unI]
  have e41 : F_bracket_Right d ((unI P, unI W, ()), (toPs l, ()), (n, m, ()), ()) = some ((brRight l n m P W).1, (brRight l n m P W).2) := by
    rw [F_bracket_Right_eq _ _ (by unfold bracket_Right_if; simp only [idsI_unI, ptsL_toP, fP, hN, hD, Bool.and_true, Bool.and_eq_true, decide_eq_true_eq]; omega)]; simp only [idsI_unI, ptsL_toP]
  have e42 : F_ref10_Right d ((unI P, unI W, ()), (toPs l, ()), (n, m, ()), ()) = some ((brRight l n m P W).1, (brRight l n m P W).2) := by
    rw [F_ref10_Right_eq _ _ (by unfold ref10_Right_if; simp only [idsI_unI, ptsL_toP, hN, hD, Bool.and_true, Bool.and_eq_true, decide_eq_true_eq]; omega)]; simp only [idsI_unI, ptsL_toP]
  have e43 : F_bracket_Check d ((unI P, unI W, ()), ()) = some (brChk P W) := by
    rw [F_bracket_Check_eq _ _ (by unfold bracket_Check_if; simp only [idsI_unI, fP, Bool.and_true, Bool.and_eq_true, decide_eq_true_eq]; omega)]; simp only [idsI_unI]
  have e44 : F_ref10_Check d ((unI P, unI W, ()), ()) = some (brChk P W) := by
    rw [F_ref10_Check_eq _ _ (by unfold ref10_Check_if; simp only [idsI_unI, Bool.and_eq_true, decide_eq_true_eq]; omega)]; simp only [idsI_unI]
  have e33 : F_ref10_Same d ((unI P, unI W, ()), (unI P, unI W, ()), ()) = some true := by
    rw [F_ref10_Same_eq _ _ (by unfold ref10_Same_if; simp only [idsI_unI, Bool.and_eq_true, decide_eq_true_eq]; omega)]; simp only [idsI_unI, decide_true, Bool.and_self]
  have e33' : F_ref10_Same d ((unI (brBuild l n m Q).1, unI (brBuild l n m Q).2.1, ()), (unI (brBuild l n m Q).1, unI (brBuild l n m Q).2.1, ()), ()) = some true := by
    rw [F_ref10_Same_eq _ _ (by unfold ref10_Same_if; simp only [idsI_unI, Bool.and_eq_true, decide_eq_true_eq]; omega)]; simp only [idsI_unI, decide_true, Bool.and_self]
  have e34 : F_ref03_SameIDs d ((unI Q, ()), (unI Q, ()), ()) = some true := by
    rw [F_ref03_SameIDs_eq _ _ (by unfold ref03_SameIDs_if; simp only [idsI_unI, Bool.and_eq_true, decide_eq_true_eq]; omega)]; simp only [idsI_unI, decide_true]
  have e34' : F_ref03_SameIDs d ((unI (brPath P W k).1, ()), (unI (brPath P W k).1, ()), ()) = some true := by
    rw [F_ref03_SameIDs_eq _ _ (by unfold ref03_SameIDs_if; simp only [idsI_unI, Bool.and_eq_true, decide_eq_true_eq]; omega)]; simp only [idsI_unI, decide_true]
  have hap : apB (List.length ([] : List Di)) (List.length (unI Q)) = true := by
    rw [unI_len]; unfold apB; simp; omega
  simp only [F_law10_BracketBuilds, law10_BracketBuilds_r0, law10_BracketBuilds_r1, law10_BracketBuilds_r3, law10_BracketBuilds_r4, law10_BracketBuilds_r5, law10_BracketBuilds_r6, law10_BracketBuilds_r7, law10_BracketBuilds_r8, law10_BracketBuilds_r9, law10_BracketBuilds_r10, law10_BracketBuilds_r11, law10_BracketBuilds_r12, Dt.eval, e15, e29, e30, e33, e33', e34, e34', e35, e36, e37, e38, e39, e40, e41, e42, e43, e44, hg, hq, hb, hap, cond_true, cond_false, List.nil_append, beq_self_eq_true]
theorem bbuilds_walk (A : Option Addr) (c : Nat) (l : List Pt) (n m : Int) (C : Option Addr) (e : Nat) (Q : List Int) (D : Option Addr) (f : Nat) (P : List Int) (E : Option Addr) (g : Nat) (W : List Int) (k : Int) (w : World) (hs : Sl w 3 A l.length c (vp l)) (hn : A = none → c = 0) (hN : -9223372036854775808 ≤ n ∧ n ≤ 9223372036854775807) (hD : -9223372036854775808 ≤ m ∧ m ≤ 9223372036854775807)
    (h1 : Sl w 1 C Q.length e (vi Q)) (n1 : C = none → e = 0) (f1 : ∀ i ∈ Q, wf64 i) (h2 : Sl w 1 D P.length f (vi P)) (n2 : D = none → f = 0) (f2 : ∀ i ∈ P, wf64 i) (h3 : Sl w 1 E W.length g (vi W)) (n3 : E = none → g = 0) :
    Calls Try.prog 5 #[.agg #[.slice A l.length c], .agg #[.int .i64 n, .int .i64 m], .slice C Q.length e, .agg #[.slice D P.length f, .slice E W.length g], .int .i64 k] w fun e w' => e = .returned (.bool true) ∧ ∃ x, w' = ext w x :=
  law_of (law10_BracketBuilds_cok 0) (bbuilds_plain 0 l n m Q P W k (i64B_of hN) (i64B_of hD) (all64B_of f1) (all64B_of f2)) rfl w
    (VRs.cons (sl_fld hs hn) (VRs.cons (sl_rat n m) (VRs.cons (sl_ints h1 n1) (VRs.cons (sl_brk h2 h3 n2 n3) (VRs.cons (.int _ _) VRs.nil)))))
set_option maxRecDepth 100000 in
theorem bracketBuilds_lifted (os : Os) (started : os.Started) (H : Type) (enc : TypeId × Value → H) :
    ReturnsInHanded {} Try.checked os 5 .any (Rows.bracketBuildsSpec.pre6 enc Try.prog Try.f5 Rows.bracketBuildsRow.domain false) (Rows.bracketBuildsSpec.post enc Try.prog Try.f5 false true false false) := by
  refine returnsInHanded_of_change (C := Try.checked) ownKnob_ started (by kernel_rfl) Try.func5
    (ChangeSpec.witness6 (enc := enc) (C := Try.checked) false ⟨#[], #[.agg #[.slice none 0 0], .agg #[.int .i64 0, .int .i64 0], .slice none 0 0, .agg #[.slice none 0 0, .slice none 0 0], .int .i64 0], []⟩ 8 (by kernel_rfl) (by kernel_rfl) (by kernel_rfl) (by kernel_rfl)) ?_
  intro W base args ds gs before hval0 hW hcnd _
  have hval : ∀ (j : Nat) t v, Try.f5.params[j]? = some t → args[j]? = some v → Value.okWide Try.prog W .any base t v := hval0
  have hW' := hW
  obtain ⟨p, q, hA0, hV, rfl, hfz, hnd⟩ := hW
  have hA : DataW.TrodAll enc Try.prog W 0 (fun _ => true) true Try.f5.params.toList args.toList ds p := hA0
  rw [Try.params5] at hA hval
  obtain ⟨v0, vs0, d0, ds0, p0, q0, hargs, rfl, rfl, h0, r0⟩ := trodAll_cons hA
  obtain ⟨v1, vs1, d1, ds1, p1, q1, rfl, rfl, rfl, h1, r1⟩ := trodAll_cons r0
  obtain ⟨v2, vs2, d2, ds2, p2, q2, rfl, rfl, rfl, h2, r2⟩ := trodAll_cons r1
  obtain ⟨v3, vs3, d3, ds3, p3, q3, rfl, rfl, rfl, h3, r3⟩ := trodAll_cons r2
  obtain ⟨v4, vs4, d4, ds4, p4, q4, rfl, rfl, rfl, h4, r4⟩ := trodAll_cons r3
  obtain ⟨rfl, rfl, rfl⟩ := trodAll_nil r4
  obtain rfl : args = #[v0, v1, v2, v3, v4] := by cases args; simp_all
  obtain ⟨rfl, rfl⟩ := trodVars_none hV
  have k0_ := h0
  have lt0 : ∀ x ∈ p0, x.block < W.heap.size := by obtain ⟨m, hm⟩ := k0_; exact DataW.trod_lt m _ _ _ hm
  have k1_ := h1
  have lt1 : ∀ x ∈ p1, x.block < W.heap.size := by obtain ⟨m, hm⟩ := k1_; exact DataW.trod_lt m _ _ _ hm
  have k2_ := h2
  have lt2 : ∀ x ∈ p2, x.block < W.heap.size := by obtain ⟨m, hm⟩ := k2_; exact DataW.trod_lt m _ _ _ hm
  have k3_ := h3
  have lt3 : ∀ x ∈ p3, x.block < W.heap.size := by obtain ⟨m, hm⟩ := k3_; exact DataW.trod_lt m _ _ _ hm
  have k4_ := h4
  have lt4 : ∀ x ∈ p4, x.block < W.heap.size := by obtain ⟨m, hm⟩ := k4_; exact DataW.trod_lt m _ _ _ hm
  obtain ⟨cs0, rfl, hsz0⟩ := okWide_struct Try.underlying24 (hval 0 24 v0 rfl rfl)
  obtain ⟨l0⟩ := cs0
  obtain ⟨fuel0, hf0⟩ := h0
  obtain ⟨A0, c0, l0, rfl, hsl0, hnil0, hfit0⟩ := field_cells hf0 (by rw [cellsF_field] at hsz0; exact hsz0)
  obtain ⟨cs1, rfl, hsz1⟩ := okWide_struct Try.underlying49 (hval 1 49 v1 rfl rfl)
  obtain ⟨l1⟩ := cs1
  obtain ⟨fuel1, hf1⟩ := h1
  obtain ⟨n1, d1, rfl, hfitn1, hfitd1⟩ := ratio_cells hf1 (by rw [cellsF_ratio] at hsz1; exact hsz1)
  obtain ⟨A2, n2, c2, rfl⟩ := okWide_slice Try.underlying45 (hval 2 45 v2 rfl rfl)
  obtain ⟨fuel2, hf2⟩ := h2
  obtain ⟨l2, rfl, hsl2, hfit2, hnil2⟩ := arg_ints hf2
  obtain ⟨cs3, rfl, hsz3⟩ := okWide_struct Try.underlying47 (hval 3 47 v3 rfl rfl)
  obtain ⟨l3⟩ := cs3
  obtain ⟨fuel3, hf3⟩ := h3
  obtain ⟨A3, c3, P3, B3, d3, W3, rfl, hsl3, hnil3, hfit3, hsw3, hnw3, hfw3⟩ := bracket_cells hf3 (by rw [cellsB_bracket] at hsz3; exact hsz3)
  obtain ⟨i4, rfl, hfit4⟩ := okWide_int Try.underlying3 (hval 4 3 v4 rfl rfl)
  clear hA0 hval0
  refine (bbuilds_walk A0 c0 l0 n1 d1 A2 c2 l2 A3 c3 P3 B3 d3 W3 i4 _ hsl0 hnil0 hfitn1 hfitd1 hsl2 hnil2 hfit2 hsl3 hnil3 hfit3 hsw3 hnw3).mono fun e W' ⟨he, hx⟩ => ?_
  have bel : Below W.heap.size W W' := (bel_of hx).toBelow
  subst he
  exact ⟨_, rfl, _, _, _, [], _, [], hW', trodAll_mk1 (shut_bool Try.underlying4 _), (trodAll_cons_mk (Below.trod laidOut_ (by kernel_rfl) (of_decide_eq_true (by kernel_rfl)) k0_ bel lt0) (trodAll_cons_mk (Below.trod laidOut_ (by kernel_rfl) (of_decide_eq_true (by kernel_rfl)) k1_ bel lt1) (trodAll_cons_mk (Below.trod laidOut_ (by kernel_rfl) (of_decide_eq_true (by kernel_rfl)) k2_ bel lt2) (trodAll_cons_mk (Below.trod laidOut_ (by kernel_rfl) (of_decide_eq_true (by kernel_rfl)) k3_ bel lt3) (trodAll_cons_mk (Below.trod laidOut_ (by kernel_rfl) (of_decide_eq_true (by kernel_rfl)) k4_ bel lt4) trodAll_mk0))))), rfl, bel.frame _, fun h => by cases h⟩
theorem bracketBuilds_over : Rows.bracketBuildsRow.holds Try.pinned (OpenSpec.ofChange Rows.bracketBuildsSpec) :=
  OpenClaim.holds_of_wide 5 Try.f5 rfl rfl rfl rfl rfl rfl rfl ⟨rfl, rfl, rfl, rfl, rfl⟩ rfl rfl rfl rfl rfl (by kernel_rfl) Try.func5 (by kernel_rfl)
    (of_decide_eq_true (by kernel_rfl)) (by unfold Func.isWrapper; rw [if_neg (of_decide_eq_false (by kernel_rfl))]; exact ⟨rfl, rfl⟩)
    (fun os started H enc _ => bracketBuilds_lifted os started H enc)
/-- The statement. -/
theorem bracketBuilds_holds : Rows.BracketBuildsSaid := bracketBuilds_over
end Go.Proofs.Ytkcpnclgcmnlcaa
