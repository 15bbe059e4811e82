/- The statement BracketSets: the plain law, and the join. -/
import Derived.Test.YtkcpnclgcmnlcaaHBSL
set_option linter.unusedSimpArgs false
set_option linter.unusedVariables false
namespace Go.Proofs.Ytkcpnclgcmnlcaa
open Go Go.Tx Go.Pel Go.Proofs.Try Go.ChangeShapes Go.WideShapes Go.ChangeAt Go.RowKit
theorem bsets_l2 (d : Nat) (e : Int) {A B L : List Int} (hA : A.length ≤ 1000) (hB : B.length ≤ 1000) (hL : L.length ≤ 1000) : ∀ (j i f : Nat) (X Y : List Int), Y.length = i + j → Y.length ≤ 1000 → j + 1 ≤ f →
    iter (law10_BracketSets_L2 d) f (e, e, (i : Int), unI X, unI Y, unI A, unI B, unI L, unI A, unI B, unI L) = some true
  | 0, i, f + 1, X, Y, h, hY, hf => by
    rw [iter]
    have e1 : decide ((i : Int) < ((unI Y).length : Int)) = false := decide_eq_false (by rw [unI_len]; omega)
    simp only [law10_BracketSets_L2, law10_BracketSets_r13, law10_BracketSets_r16, Dt.eval, e1, bsame_refl d hA hB, sameIDs_refl d hL, beq_self_eq_true, cond_true, cond_false, law10_BracketSets_K]
  | j + 1, i, f + 1, X, Y, h, hY, hf => by
    rw [iter]
    have e1 : decide ((i : Int) < ((unI Y).length : Int)) = true := decide_eq_true (by rw [unI_len]; omega)
    have e2 : inB (i : Int) (unI Y).length = true := inB_t (by omega) (by rw [unI_len]; omega)
    have e3 : IntKind.wrap .i64 ((i : Int) + (1 : Int)) = ((i + 1 : Nat) : Int) := by rw [wr64 (by omega) (by omega)]; omega
    simp only [law10_BracketSets_L2, law10_BracketSets_r13, law10_BracketSets_r15, law10_BracketSets_r14, Dt.eval, e1, e2, e3, cond_true, cond_false, Int.toNat_natCast, set_unI, law10_BracketSets_K]
    exact bsets_l2 d e hA hB hL j (i + 1) f X _ (by rw [List.length_set]; omega) (by rw [List.length_set]; exact hY) (by omega)
  | _, _, 0, _, _, _, _, hf => by omega
theorem bsets_l1 (d : Nat) (hd : 1001 ≤ d) (e : Int) {A B L : List Int} (hA : A.length ≤ 1000) (hB : B.length ≤ 1000) (hL : L.length ≤ 1000) : ∀ (j i f : Nat) (X Y : List Int), X.length = i + j → X.length ≤ 1000 → Y.length ≤ 1000 → j + 1 ≤ f →
    iter (law10_BracketSets_L1 d) f (e, e, (i : Int), unI X, unI Y, unI A, unI B, unI L, unI A, unI B, unI L) = some true
  | 0, i, f + 1, X, Y, h, hX, hY, hf => by
    rw [iter]
    have e1 : decide ((i : Int) < ((unI X).length : Int)) = false := decide_eq_false (by rw [unI_len]; omega)
    simp only [law10_BracketSets_L1, law10_BracketSets_r9, law10_BracketSets_r12, Dt.eval, e1, cond_true, cond_false, law10_BracketSets_K]
    exact bsets_l2 d e hA hB hL Y.length 0 d X Y (by omega) hY (by omega)
  | j + 1, i, f + 1, X, Y, h, hX, hY, hf => by
    rw [iter]
    have e1 : decide ((i : Int) < ((unI X).length : Int)) = true := decide_eq_true (by rw [unI_len]; omega)
    have e2 : inB (i : Int) (unI X).length = true := inB_t (by omega) (by rw [unI_len]; omega)
    have e3 : IntKind.wrap .i64 ((i : Int) + (1 : Int)) = ((i + 1 : Nat) : Int) := by rw [wr64 (by omega) (by omega)]; omega
    simp only [law10_BracketSets_L1, law10_BracketSets_r9, law10_BracketSets_r11, law10_BracketSets_r10, Dt.eval, e1, e2, e3, cond_true, cond_false, Int.toNat_natCast, set_unI, law10_BracketSets_K]
    exact bsets_l1 d hd e hA hB hL j (i + 1) f _ Y (by rw [List.length_set]; omega) (by rw [List.length_set]; exact hX) hY (by omega)
  | _, _, 0, _, _, _, _, _, hf => by omega
set_option maxHeartbeats 4000000 in
theorem bsets_plain (d : Nat) (hd : 1001 ≤ d) (P W : List Int) (l : List Pt) (n m k id : Int) (hN : i64B n = true) (hD : i64B m = true) (fP : all64B P = true) (hI : i64B id = true) :
    F_law10_BracketSets d ((unI P, unI W, ()), (toPs l, ()), (n, m, ()), (k, ()), (id, ()), ()) = some true := by
  have e15 : F_ref03_Great d ((toPs l, ()), ()) = some (great l.length) := by rw [F_ref03_Great_eq _ _ rfl, ptsL_toP]
  have e29 : F_ref10_Great d ((unI P, unI W, ()), ()) = some (greatB P.length W.length) := by rw [F_ref10_Great_eq _ _ rfl]; simp only [idsI_unI]
  cases hg : great l.length with
  | true => simp only [F_law10_BracketSets, law10_BracketSets_r0, law10_BracketSets_r1, law10_BracketSets_r2, Dt.eval, e15, hg, cond_true, law10_BracketSets_K]
  | false =>
  cases hb : greatB P.length W.length with
  | true => simp only [F_law10_BracketSets, law10_BracketSets_r0, law10_BracketSets_r1, law10_BracketSets_r2, Dt.eval, e15, e29, hg, hb, cond_true, cond_false, law10_BracketSets_K]
  | false =>
  have l1 := great_le hg
  obtain ⟨l3, l4⟩ := greatB_le hb
  obtain ⟨b1, b2, b3⟩ := brSet_len l n m P W k id
  have e30 : F_ref10_Twin d ((unI P, unI W, ()), ()) = some (unI P, unI W) := by
    rw [F_ref10_Twin_eq _ _ (by unfold ref10_Twin_if; simp only [idsI_unI, Bool.and_eq_true, decide_eq_true_eq]; omega)]; simp only [idsI_unI]
  have e31 := bset_eq d l n m P W k id hN hD fP hI (by omega) (by omega)
  have e32 := rset_eq d hd l n m P W k id hN hD (by omega) (by omega) (by omega)
  have e33 := bsame_refl d (P := P) (W := W) (by omega) (by omega)
  simp only [F_law10_BracketSets, law10_BracketSets_r0, law10_BracketSets_r1, law10_BracketSets_r3, law10_BracketSets_r4, law10_BracketSets_r5, law10_BracketSets_r6, law10_BracketSets_r8, Dt.eval, e15, e29, e30, e31, e32, e33, hg, hb, Bool.not_true, cond_true, cond_false, law10_BracketSets_K]
  exact bsets_l1 d hd _ (by omega) (by omega) (by omega) P.length 0 d P W (by omega) (by omega) (by omega) (by omega)
theorem bsets_walk (D : Option Addr) (f : Nat) (P : List Int) (E : Option Addr) (g : Nat) (W : List Int) (A : Option Addr) (c : Nat) (l : List Pt) (n m k id : Int) (w : World)
    (h2 : Sl w 1 D P.length f (vi P)) (n2 : D = none → f = 0) (f2 : ∀ i ∈ P, wf64 i) (h3 : Sl w 1 E W.length g (vi W)) (n3 : E = none → g = 0) (hs : Sl w 3 A l.length c (vp l)) (hn : A = none → c = 0) (hN : -9223372036854775808 ≤ n ∧ n ≤ 9223372036854775807) (hD : -9223372036854775808 ≤ m ∧ m ≤ 9223372036854775807) (hI : -9223372036854775808 ≤ id ∧ id ≤ 9223372036854775807) :
    Calls Try.prog 4 #[.agg #[.slice D P.length f, .slice E W.length g], .agg #[.slice A l.length c], .agg #[.int .i64 n, .int .i64 m], .int .i64 k, .int .i64 id] w fun e w' => e = .returned (.bool true) ∧ ∃ x, w' = ext w x :=
  law_of (law10_BracketSets_cok 1001) (bsets_plain 1001 (Nat.le_refl _) P W l n m k id (i64B_of hN) (i64B_of hD) (all64B_of f2) (i64B_of hI)) rfl w
    (VRs.cons (sl_brk h2 h3 n2 n3) (VRs.cons (sl_fld hs hn) (VRs.cons (sl_rat n m) (VRs.cons (.int _ _) (VRs.cons (.int _ _) VRs.nil)))))
set_option maxRecDepth 100000 in
theorem bracketSets_lifted (os : Os) (started : os.Started) (H : Type) (enc : TypeId × Value → H) :
    ReturnsInHanded {} Try.checked os 4 .any (Rows.bracketSetsSpec.pre6 enc Try.prog Try.f4 Rows.bracketSetsRow.domain false) (Rows.bracketSetsSpec.post enc Try.prog Try.f4 false true false false) := by
  refine returnsInHanded_of_change (C := Try.checked) ownKnob_ started (by kernel_rfl) Try.func4
    (ChangeSpec.witness6 (enc := enc) (C := Try.checked) false ⟨#[], #[.agg #[.slice none 0 0, .slice none 0 0], .agg #[.slice none 0 0], .agg #[.int .i64 0, .int .i64 0], .int .i64 0, .int .i64 0], []⟩ 8 (by kernel_rfl) (by kernel_rfl) (by kernel_rfl) (by kernel_rfl)) ?_
  intro W base args ds gs before hval0 hW hcnd _
  have hval : ∀ (j : Nat) t v, Try.f4.params[j]? = some t → args[j]? = some v → Value.okWide Try.prog W .any base t v := hval0
  have hW' := hW
  obtain ⟨p, q, hA0, hV, rfl, hfz, hnd⟩ := hW
  have hA : DataW.TrodAll enc Try.prog W 0 (fun _ => true) true Try.f4.params.toList args.toList ds p := hA0
  rw [Try.params4] at hA hval
  obtain ⟨v0, vs0, d0, ds0, p0, q0, hargs, rfl, rfl, h0, r0⟩ := trodAll_cons hA
  obtain ⟨v1, vs1, d1, ds1, p1, q1, rfl, rfl, rfl, h1, r1⟩ := trodAll_cons r0
  obtain ⟨v2, vs2, d2, ds2, p2, q2, rfl, rfl, rfl, h2, r2⟩ := trodAll_cons r1
  obtain ⟨v3, vs3, d3, ds3, p3, q3, rfl, rfl, rfl, h3, r3⟩ := trodAll_cons r2
  obtain ⟨v4, vs4, d4, ds4, p4, q4, rfl, rfl, rfl, h4, r4⟩ := trodAll_cons r3
  obtain ⟨rfl, rfl, rfl⟩ := trodAll_nil r4
  obtain rfl : args = #[v0, v1, v2, v3, v4] := by cases args; simp_all
  obtain ⟨rfl, rfl⟩ := trodVars_none hV
  have k0_ := h0
  have lt0 : ∀ x ∈ p0, x.block < W.heap.size := by obtain ⟨m, hm⟩ := k0_; exact DataW.trod_lt m _ _ _ hm
  have k1_ := h1
  have lt1 : ∀ x ∈ p1, x.block < W.heap.size := by obtain ⟨m, hm⟩ := k1_; exact DataW.trod_lt m _ _ _ hm
  have k2_ := h2
  have lt2 : ∀ x ∈ p2, x.block < W.heap.size := by obtain ⟨m, hm⟩ := k2_; exact DataW.trod_lt m _ _ _ hm
  have k3_ := h3
  have lt3 : ∀ x ∈ p3, x.block < W.heap.size := by obtain ⟨m, hm⟩ := k3_; exact DataW.trod_lt m _ _ _ hm
  have k4_ := h4
  have lt4 : ∀ x ∈ p4, x.block < W.heap.size := by obtain ⟨m, hm⟩ := k4_; exact DataW.trod_lt m _ _ _ hm
  obtain ⟨cs0, rfl, hsz0⟩ := okWide_struct Try.underlying47 (hval 0 47 v0 rfl rfl)
  obtain ⟨l0⟩ := cs0
  obtain ⟨fuel0, hf0⟩ := h0
  obtain ⟨A0, c0, P0, B0, d0, W0, rfl, hsl0, hnil0, hfit0, hsw0, hnw0, hfw0⟩ := bracket_cells hf0 (by rw [cellsB_bracket] at hsz0; exact hsz0)
  obtain ⟨cs1, rfl, hsz1⟩ := okWide_struct Try.underlying24 (hval 1 24 v1 rfl rfl)
  obtain ⟨l1⟩ := cs1
  obtain ⟨fuel1, hf1⟩ := h1
  obtain ⟨A1, c1, l1, rfl, hsl1, hnil1, hfit1⟩ := field_cells hf1 (by rw [cellsF_field] at hsz1; exact hsz1)
  obtain ⟨cs2, rfl, hsz2⟩ := okWide_struct Try.underlying49 (hval 2 49 v2 rfl rfl)
  obtain ⟨l2⟩ := cs2
  obtain ⟨fuel2, hf2⟩ := h2
  obtain ⟨n2, d2, rfl, hfitn2, hfitd2⟩ := ratio_cells hf2 (by rw [cellsF_ratio] at hsz2; exact hsz2)
  have hw3 := hval 3 3 v3 rfl rfl
  obtain ⟨i3, rfl⟩ := okWide_int Try.underlying3 hw3
  have hw4 := hval 4 3 v4 rfl rfl
  obtain ⟨i4, rfl⟩ := okWide_int Try.underlying3 hw4
  clear hA0 hval0
  refine (bsets_walk A0 c0 P0 B0 d0 W0 A1 c1 l1 n2 d2 i3 i4 _ hsl0 hnil0 hfit0 hsw0 hnw0 hsl1 hnil1 hfitn2 hfitd2 (okWide_rng Try.underlying3 hw4)).mono fun e W' ⟨he, hx⟩ => ?_
  have bel : Below W.heap.size W W' := (bel_of hx).toBelow
  subst he
  exact ⟨_, rfl, _, _, _, [], _, [], hW', trodAll_mk1 (shut_bool Try.underlying4 _), (trodAll_cons_mk (Below.trod laidOut_ (by kernel_rfl) (of_decide_eq_true (by kernel_rfl)) k0_ bel lt0) (trodAll_cons_mk (Below.trod laidOut_ (by kernel_rfl) (of_decide_eq_true (by kernel_rfl)) k1_ bel lt1) (trodAll_cons_mk (Below.trod laidOut_ (by kernel_rfl) (of_decide_eq_true (by kernel_rfl)) k2_ bel lt2) (trodAll_cons_mk (Below.trod laidOut_ (by kernel_rfl) (of_decide_eq_true (by kernel_rfl)) k3_ bel lt3) (trodAll_cons_mk (Below.trod laidOut_ (by kernel_rfl) (of_decide_eq_true (by kernel_rfl)) k4_ bel lt4) trodAll_mk0))))), rfl, bel.frame _, fun h => by cases h⟩
theorem bracketSets_over : Rows.bracketSetsRow.holds Try.pinned (OpenSpec.ofChange Rows.bracketSetsSpec) :=
  OpenClaim.holds_of_wide 4 Try.f4 rfl rfl rfl rfl rfl rfl rfl ⟨rfl, rfl, rfl, rfl, rfl⟩ rfl rfl rfl rfl rfl (by kernel_rfl) Try.func4 (by kernel_rfl)
    (of_decide_eq_true (by kernel_rfl)) (by unfold Func.isWrapper; rw [if_neg (of_decide_eq_false (by kernel_rfl))]; exact ⟨rfl, rfl⟩)
    (fun os started H enc _ => bracketSets_lifted os started H enc)
/-- The statement. -/
theorem bracketSets_holds : Rows.BracketSetsSaid := bracketSets_over
end Go.Proofs.Ytkcpnclgcmnlcaa
