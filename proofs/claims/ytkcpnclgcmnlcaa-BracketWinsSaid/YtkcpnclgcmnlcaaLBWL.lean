/- The statement BracketWins: the plain law, and the join. -/
import Derived.Test.YtkcpnclgcmnlcaaHBWL
set_option linter.unusedSimpArgs false
set_option linter.unusedVariables false
namespace Go.Proofs.Ytkcpnclgcmnlcaa
open Go Go.Tx Go.Pel Go.Proofs.Try Go.ChangeShapes Go.WideShapes Go.ChangeAt Go.RowKit
theorem alive10_eq : F_law10_alive 1001 () = some true := by kernel_rfl
theorem bbuild_eq (d : Nat) (l : List Pt) (n m : Int) (Q : List Int) (hN : i64B n = true) (hD : i64B m = true) (hQ : all64B Q = true) (hlQ : Q.length ≤ 100) (hll : l.length ≤ 100) : F_bracket_Build d ((toPs l, ()), (n, m, ()), (unI Q, ()), ()) = some (unI (brBuild l n m Q).1, unI (brBuild l n m Q).2.1, (brBuild l n m Q).2.2) := by
  rw [F_bracket_Build_eq _ _ (by unfold bracket_Build_if; simp only [idsI_unI, ptsL_toP, hN, hD, hQ, Bool.and_true, Bool.true_and, Bool.and_eq_true, decide_eq_true_eq]; omega)]; simp only [idsI_unI, ptsL_toP]
theorem elt_toPs {l : List Pt} {i : Nat} {p : Pt} (h : l[i]? = some p) : elt ziii (toPs l) i = (p.id, p.a, p.b, ()) := by
  unfold elt toPs
  rw [List.getElem?_map, h]; rfl
theorem app_toPs (l : List Pt) (p : Pt) : toPs l ++ [(p.id, p.a, p.b, ())] = toPs (l ++ [p]) := by
  unfold toPs; rw [List.map_append]; rfl
theorem take_next {l : List Int} {k : Nat} {x : Int} (h : l[k]? = some x) (y : Int) : (l.take (k + 1)).contains y = ((l.take k).contains y || x == y) := by
  rw [List.take_add_one, h, Bool.eq_iff_iff, List.contains_iff_mem, Bool.or_eq_true, List.contains_iff_mem, beq_iff_eq]
  simp [eq_comm]
section
variable {l : List Pt} {n m : Int} {Q P W : List Int}
theorem bw_l2 (d : Nat) (hl : l.length ≤ 64) (hQ : Q.length ≤ 64) (ho : onceB Q = true) {i : Nat} {p : Pt} (hp : l[i]? = some p) (hid : 0 ≤ p.id) (G : List Pt) (hG : G.length ≤ 100) (self : (List Di × Int × List Diii × Int × Int × List Di × List Di × List Diii) → Option law10_BracketWins_R) :
    ∀ (j k f : Nat), Q.length = k + j → j + 1 ≤ f → iter (law10_BracketWins_L2 d self) f (unI Q, (i : Int), (k : Int), toPs l, n, m, unI P, unI W, toPs (G ++ if (Q.take k).contains p.id = true then [p] else [])) = self (unI Q, ((i + 1 : Nat) : Int), toPs l, n, m, unI P, unI W, toPs (G ++ if Q.contains p.id = true then [p] else []))
  | 0, k, f + 1, h, hf => by
    rw [iter]
    have hi := (List.getElem?_eq_some_iff.1 hp).1
    have e1 : decide ((k : Int) < ((unI Q).length : Int)) = false := decide_eq_false (by rw [unI_len]; omega)
    have e2 : IntKind.wrap .i64 ((i : Int) + (1 : Int)) = ((i + 1 : Nat) : Int) := by rw [wr64 (by omega) (by omega)]; omega
    have e3 : Q.take k = Q := List.take_of_length_le (by omega)
    rw [e3]
    simp only [law10_BracketWins_L2, law10_BracketWins_r11, law10_BracketWins_r9, Dt.eval, e1, e2, cond_false]
  | j + 1, k, f + 1, h, hf => by
    rw [iter]
    have hi := (List.getElem?_eq_some_iff.1 hp).1
    obtain ⟨x, hx⟩ : ∃ x, Q[k]? = some x := ⟨_, List.getElem?_eq_getElem (show k < Q.length by omega)⟩
    have e1 : decide ((k : Int) < ((unI Q).length : Int)) = true := decide_eq_true (by rw [unI_len]; omega)
    have b1 : inB (k : Int) (unI Q).length = true := inB_t (by omega) (by rw [unI_len]; omega)
    have b2 : inB (i : Int) (toPs l).length = true := inB_t (by omega) (by rw [toPs_len]; omega)
    have e2 : IntKind.wrap .i64 ((k : Int) + (1 : Int)) = ((k + 1 : Nat) : Int) := by rw [wr64 (by omega) (by omega)]; omega
    have g1 : Q.getD k 0 = x := getD_some hx
    have ih := bw_l2 d hl hQ ho hp hid G hG self j (k + 1) f (by omega) (by omega)
    rw [take_next hx] at ih
    have hgl : (toPs (G ++ if (Q.take k).contains p.id = true then [p] else [])).length ≤ 101 := by
      rw [toPs_len, List.length_append]; split <;> simp <;> omega
    by_cases hc : x = p.id
    · have hno : (Q.take k).contains p.id = false := by
        rw [← Bool.not_eq_true, List.contains_iff_mem]
        intro hm
        obtain ⟨q, hq⟩ := List.mem_iff_getElem?.1 hm
        rw [List.getElem?_take] at hq
        split at hq
        · have := twice_yes (l := Q) (i := k) (k := q) (x := p.id) ‹_› (by rw [hx, hc]) hid hq
          rw [this] at ho; cases ho
        · cases hq
      have a1 : apB (toPs (G ++ ([] : List Pt))).length ([(p.id, p.a, p.b, ())] : List Diii).length = true := apB_t (by rw [toPs_len]; simp; omega)
      rw [hno, hc, beq_self_eq_true, Bool.or_true, if_pos rfl] at ih
      rw [hno, if_neg (by simp)]
      simp only [law10_BracketWins_L2, law10_BracketWins_r11, law10_BracketWins_r13, law10_BracketWins_r14, law10_BracketWins_J3, law10_BracketWins_r12, Dt.eval, e1, b1, b2, Int.toNat_natCast, elt_unI, g1, elt_toPs hp, hc, beq_self_eq_true, a1, app_toPs, e2, cond_true]
      rw [List.append_nil]
      exact ih
    · have hc' : (x == p.id) = false := beq_eq_false_iff_ne.2 hc
      rw [hc', Bool.or_false] at ih
      simp only [law10_BracketWins_L2, law10_BracketWins_r11, law10_BracketWins_r13, law10_BracketWins_J3, law10_BracketWins_r12, Dt.eval, e1, b1, b2, Int.toNat_natCast, elt_unI, g1, elt_toPs hp, hc', e2, cond_true, cond_false]
      exact ih
  | _, _, 0, _, hf => by omega
theorem bw_l1 (d : Nat) (hd : 1001 ≤ d) (hal : F_law10_alive d () = some true) (hN : i64B n = true) (hD : i64B m = true) (fQ : all64B Q = true) (ht : timed l n m = 0) (hQ1 : 1 ≤ Q.length) (hQ : Q.length ≤ 64) (hk : knownB l Q = true) (ho : onceB Q = true) :
    ∀ (j i f : Nat), l.length = i + j → j + 1 ≤ f → iter (law10_BracketWins_L1 d) f (unI Q, (i : Int), toPs l, n, m, unI Q, unI (builtB l n m Q), toPs (inPts (l.take i) Q)) = some true
  | 0, i, f + 1, h, hf => by
    rw [iter]
    obtain ⟨f1, f2, f3⟩ := fieldChk_zero (timed_zero ht).1
    have e1 : decide ((i : Int) < ((toPs l).length : Int)) = false := decide_eq_false (by rw [toPs_len]; omega)
    have e3 : l.take i = l := List.take_of_length_le (by omega)
    rw [e3]
    have hbl := builtB_len l n m Q
    have hchk : brChk Q (builtB l n m Q) = 0 := valid_of (timed_zero ht).1 hQ1 hQ (by omega) ho hk (fun q hq => winOk_fine (builtB_fine l n m Q q hq))
    have e41 : F_bracket_Right d ((unI Q, unI (builtB l n m Q), ()), (toPs l, ()), (n, m, ()), ()) = some (true, 0) := by
      rw [F_bracket_Right_eq _ _ (by unfold bracket_Right_if; simp only [idsI_unI, ptsL_toP, fQ, hN, hD, Bool.and_true, Bool.and_eq_true, decide_eq_true_eq]; omega)]
      simp only [idsI_unI, ptsL_toP]
      unfold brRight
      rw [if_neg (fun h => h hchk), if_neg (fun h => h ht), if_pos hk, fineB_iff.2 (builtB_fine l n m Q)]
    have e37 : F_bracket_Winner d ((unI Q, unI (builtB l n m Q), ()), ()) = some ((brWinner Q (builtB l n m Q)).1, (brWinner Q (builtB l n m Q)).2) := by
      rw [F_bracket_Winner_eq _ _ (by unfold bracket_Winner_if; simp only [idsI_unI, fQ, Bool.and_true, Bool.and_eq_true, decide_eq_true_eq]; omega)]; simp only [idsI_unI]
    have el : F_field_Leader d ((toPs (inPts l Q), ()), (n, m, ()), ()) = some ((fieldLeader (inPts l Q) n m).1, (fieldLeader (inPts l Q) n m).2) := by
      rw [F_field_Leader_eq _ _ (by unfold field_Leader_if; simp only [hN, hD, Bool.and_self])]; simp only [ptsL_toP]
    have es := sameIDs_refl d (Q := Q) (by omega)
    rcases winner_leads (n := n) (d := m) ht hQ1 hk with ⟨h1, h2⟩ | ⟨h1, h2, h3⟩
    · have hw : brWinner Q (builtB l n m Q) = (0, 42) := by unfold brWinner; rw [if_neg (fun h => h hchk), if_pos h2]
      rw [hw] at e37
      rw [h1] at el ⊢
      rw [leader_nil ht] at el
      simp only [law10_BracketWins_L1, law10_BracketWins_r8, law10_BracketWins_r15, law10_BracketWins_r16, law10_BracketWins_r17, law10_BracketWins_r18, law10_BracketWins_r20, law10_BracketWins_r21, law10_BracketWins_K, Dt.eval, e1, e41, e37, el, es, bne_self_eq_false, Bool.not_true, show (((toPs ([] : List Pt)).length : Int) == (0 : Int)) = true from rfl, beq_self_eq_true, hal, cond_true, cond_false]
    · have hw : brWinner Q (builtB l n m Q) = (nodeV Q (builtB l n m Q) 0, 0) := by unfold brWinner; rw [if_neg (fun h => h hchk), if_neg (by omega)]
      rw [hw] at e37
      rw [h3] at el
      have c1 : (((toPs (inPts l Q)).length : Int) == (0 : Int)) = false := by
        rw [toPs_len]
        cases hg : inPts l Q with
        | nil => exact absurd hg h1
        | cons a r => exact beq_eq_false_iff_ne.2 (by simp; omega)
      simp only [law10_BracketWins_L1, law10_BracketWins_r8, law10_BracketWins_r15, law10_BracketWins_r16, law10_BracketWins_r17, law10_BracketWins_r18, law10_BracketWins_r20, law10_BracketWins_r22, law10_BracketWins_K, Dt.eval, e1, e41, e37, el, es, bne_self_eq_false, Bool.not_true, c1, beq_self_eq_true, hal, cond_true, cond_false]
  | j + 1, i, f + 1, h, hf => by
    rw [iter]
    obtain ⟨f1, f2, f3⟩ := fieldChk_zero (timed_zero ht).1
    obtain ⟨p, hp⟩ : ∃ p, l[i]? = some p := ⟨_, List.getElem?_eq_getElem (show i < l.length by omega)⟩
    have hid : 0 ≤ p.id := (has_nonneg (timed_zero ht).1 (hasB_mem (List.mem_of_getElem? hp))).1
    have e1 : decide ((i : Int) < ((toPs l).length : Int)) = true := decide_eq_true (by rw [toPs_len]; omega)
    have hgl : (inPts (l.take i) Q).length ≤ 100 := by
      unfold inPts
      have := List.length_filter_le (fun p => Q.contains p.id) (l.take i)
      rw [List.length_take] at this
      omega
    have h2 := bw_l2 (n := n) (m := m) (P := Q) (W := builtB l n m Q) d f1 hQ ho hp hid (inPts (l.take i) Q) hgl (iter (law10_BracketWins_L1 d) f) Q.length 0 d (by omega) (by omega)
    have e0 : (Q.take 0).contains p.id = false := rfl
    rw [e0, if_neg (by simp), List.append_nil] at h2
    have hnext : inPts (l.take (i + 1)) Q = inPts (l.take i) Q ++ if Q.contains p.id = true then [p] else [] := by
      unfold inPts
      rw [List.take_add_one, hp, List.filter_append]
      congr 1
      show List.filter _ [p] = _
      rw [List.filter_cons, List.filter_nil]
    have ih := bw_l1 d hd hal hN hD fQ ht hQ1 hQ hk ho j (i + 1) f (by omega) (by omega)
    rw [hnext] at ih
    simp only [law10_BracketWins_L1, law10_BracketWins_r8, law10_BracketWins_r10, Dt.eval, e1, cond_true]
    exact h2.trans ih
  | _, _, 0, _, hf => by omega
end
set_option maxHeartbeats 4000000 in
theorem bwins_plain (d : Nat) (hd : 1001 ≤ d) (hal : F_law10_alive d () = some true) (l : List Pt) (n m : Int) (Q : List Int) (hN : i64B n = true) (hD : i64B m = true) (fQ : all64B Q = true) :
    F_law10_BracketWins d ((toPs l, ()), (n, m, ()), (unI Q, ()), ()) = some true := by
  have e15 : F_ref03_Great d ((toPs l, ()), ()) = some (great l.length) := by rw [F_ref03_Great_eq _ _ rfl, ptsL_toP]
  cases hg : great l.length with
  | true => simp only [F_law10_BracketWins, law10_BracketWins_r0, law10_BracketWins_r1, law10_BracketWins_r2, law10_BracketWins_K, Dt.eval, e15, hg, hal, cond_true]
  | false =>
  have l1 := great_le hg
  have e45 : F_ref03_Timed d ((toPs l, ()), (n, m, ()), ()) = some (timed l n m) := by
    rw [F_ref03_Timed_eq _ _ (by unfold ref03_Timed_if; simp only [ptsL_toP, hN, hD, Bool.true_and, Bool.and_true, Bool.and_self, decide_eq_true_eq]; omega)]; simp only [ptsL_toP]
  by_cases h2 : timed l n m = 0
  case neg => simp only [F_law10_BracketWins, law10_BracketWins_r0, law10_BracketWins_r1, law10_BracketWins_r2, law10_BracketWins_K, Dt.eval, e15, e45, hg, ne0_t h2, hal, cond_true, cond_false]
  by_cases h3 : 64 < Q.length
  · have c1 : decide (((unI Q).length : Int) > (64 : Int)) = true := decide_eq_true (by rw [unI_len]; omega)
    simp only [F_law10_BracketWins, law10_BracketWins_r0, law10_BracketWins_r1, law10_BracketWins_r2, law10_BracketWins_K, Dt.eval, e15, e45, hg, ne0_f h2, c1, hal, cond_true, cond_false]
  have c1 : decide (((unI Q).length : Int) > (64 : Int)) = false := decide_eq_false (by rw [unI_len]; omega)
  have e35 := bbuild_eq d l n m Q hN hD fQ (by omega) (by omega)
  have e59 : F_ref10_Known d ((toPs l, ()), (unI Q, ()), ()) = some (knownB l Q) := by
    rw [F_ref10_Known_eq _ _ (by unfold ref10_Known_if; simp only [idsI_unI, ptsL_toP, Bool.and_eq_true, decide_eq_true_eq]; omega)]; simp only [idsI_unI, ptsL_toP]
  have e60 : F_ref10_Twice d ((unI Q, ()), ()) = some (!(onceB Q)) := by
    rw [F_ref10_Twice_eq _ _ (by unfold ref10_Twice_if; simp only [idsI_unI, decide_eq_true_eq]; omega)]; simp only [idsI_unI]
  by_cases h4 : Q.length < 1
  · have e3 : brBuild l n m Q = ([], [], 2) := by unfold brBuild; rw [if_neg (fun h => h h2), if_pos (.inl h4)]
    rw [e3] at e35
    have c2 : (((unI Q).length : Int) == (0 : Int)) = true := beq_iff_eq.2 (by rw [unI_len]; omega)
    simp only [F_law10_BracketWins, law10_BracketWins_r0, law10_BracketWins_r1, law10_BracketWins_r3, law10_BracketWins_r4, law10_BracketWins_r5, law10_BracketWins_K, Dt.eval, e15, e45, e35, hg, ne0_f h2, c1, ne0_t (show (2 : Int) ≠ 0 by decide), beq_self_eq_true, c2, hal, cond_true, cond_false]
  cases h5 : knownB l Q with
  | false =>
    have e3 : brBuild l n m Q = ([], [], 6) := by unfold brBuild; rw [if_neg (fun h => h h2), if_neg (by omega), if_neg (by rw [h5]; simp)]
    rw [e3] at e35
    rw [h5] at e59
    simp only [F_law10_BracketWins, law10_BracketWins_r0, law10_BracketWins_r1, law10_BracketWins_r3, law10_BracketWins_r4, law10_BracketWins_r5, law10_BracketWins_K, Dt.eval, e15, e45, e35, e59, hg, ne0_f h2, c1, ne0_t (show (6 : Int) ≠ 0 by decide), show ((6 : Int) == (2 : Int)) = false from rfl, beq_self_eq_true, Bool.not_false, hal, cond_true, cond_false]
  | true =>
  cases h6 : onceB Q with
  | false =>
    have e3 : brBuild l n m Q = ([], [], 14) := by unfold brBuild; rw [if_neg (fun h => h h2), if_neg (by omega), if_pos h5, if_neg (by rw [h6]; simp)]
    rw [e3] at e35
    rw [h6] at e60
    simp only [F_law10_BracketWins, law10_BracketWins_r0, law10_BracketWins_r1, law10_BracketWins_r3, law10_BracketWins_r4, law10_BracketWins_r5, law10_BracketWins_K, Dt.eval, e15, e45, e35, e60, hg, ne0_f h2, c1, ne0_t (show (14 : Int) ≠ 0 by decide), show ((14 : Int) == (2 : Int)) = false from rfl, show ((14 : Int) == (6 : Int)) = false from rfl, beq_self_eq_true, Bool.not_false, hal, cond_true, cond_false]
  | true =>
  have e3 : brBuild l n m Q = (Q, builtB l n m Q, 0) := by unfold brBuild; rw [if_neg (fun h => h h2), if_neg (by omega), if_pos h5, if_pos h6]
  rw [e3] at e35
  have h1 := bw_l1 d hd hal hN hD fQ h2 (by omega) (by omega) h5 h6 l.length 0 d (by omega) (by omega)
  rw [show toPs (inPts (l.take 0) Q) = ([] : List Diii) from rfl] at h1
  simp only [F_law10_BracketWins, law10_BracketWins_r0, law10_BracketWins_r1, law10_BracketWins_r3, law10_BracketWins_r4, law10_BracketWins_r6, law10_BracketWins_r7, law10_BracketWins_K, Dt.eval, e15, e45, e35, hg, ne0_f h2, c1, bne_self_eq_false, cond_true, cond_false]
  exact h1
theorem bwins_walk (A : Option Addr) (c : Nat) (l : List Pt) (n m : Int) (C : Option Addr) (e : Nat) (Q : List Int) (w : World) (hs : Sl w 3 A l.length c (vp l)) (hn : A = none → c = 0) (hN : -9223372036854775808 ≤ n ∧ n ≤ 9223372036854775807) (hD : -9223372036854775808 ≤ m ∧ m ≤ 9223372036854775807)
    (h1 : Sl w 1 C Q.length e (vi Q)) (n1 : C = none → e = 0) (f1 : ∀ i ∈ Q, wf64 i) :
    Calls Try.prog 12 #[.agg #[.slice A l.length c], .agg #[.int .i64 n, .int .i64 m], .slice C Q.length e] w fun e w' => e = .returned (.bool true) ∧ ∃ x, w' = ext w x := by
  obtain ⟨d, hd, hal⟩ : ∃ d, 1001 ≤ d ∧ F_law10_alive d () = some true := ⟨1001, Nat.le_refl _, alive10_eq⟩
  exact law_of (law10_BracketWins_cok d) (bwins_plain d hd hal l n m Q (i64B_of hN) (i64B_of hD) (all64B_of f1)) rfl w
    (VRs.cons (sl_fld hs hn) (VRs.cons (sl_rat n m) (VRs.cons (sl_ints h1 n1) VRs.nil)))
set_option maxRecDepth 100000 in
theorem bracketWins_lifted (os : Os) (started : os.Started) (H : Type) (enc : TypeId × Value → H) :
    ReturnsInHanded {} Try.checked os 12 .any (Rows.bracketWinsSpec.pre6 enc Try.prog Try.f12 Rows.bracketWinsRow.domain false) (Rows.bracketWinsSpec.post enc Try.prog Try.f12 false true false false) := by
  refine returnsInHanded_of_change (C := Try.checked) ownKnob_ started (by kernel_rfl) Try.func12
    (ChangeSpec.witness6 (enc := enc) (C := Try.checked) false ⟨#[], #[.agg #[.slice none 0 0], .agg #[.int .i64 0, .int .i64 0], .slice none 0 0], []⟩ 8 (by kernel_rfl) (by kernel_rfl) (by kernel_rfl) (by kernel_rfl)) ?_
  intro W base args ds gs before hval0 hW hcnd _
  have hval : ∀ (j : Nat) t v, Try.f12.params[j]? = some t → args[j]? = some v → Value.okWide Try.prog W .any base t v := hval0
  have hW' := hW
  obtain ⟨p, q, hA0, hV, rfl, hfz, hnd⟩ := hW
  have hA : DataW.TrodAll enc Try.prog W 0 (fun _ => true) true Try.f12.params.toList args.toList ds p := hA0
  rw [Try.params12] at hA hval
  obtain ⟨v0, vs0, d0, ds0, p0, q0, hargs, rfl, rfl, h0, r0⟩ := trodAll_cons hA
  obtain ⟨v1, vs1, d1, ds1, p1, q1, rfl, rfl, rfl, h1, r1⟩ := trodAll_cons r0
  obtain ⟨v2, vs2, d2, ds2, p2, q2, rfl, rfl, rfl, h2, r2⟩ := trodAll_cons r1
  obtain ⟨rfl, rfl, rfl⟩ := trodAll_nil r2
  obtain rfl : args = #[v0, v1, v2] := by cases args; simp_all
  obtain ⟨rfl, rfl⟩ := trodVars_none hV
  have k0_ := h0
  have lt0 : ∀ x ∈ p0, x.block < W.heap.size := by obtain ⟨m, hm⟩ := k0_; exact DataW.trod_lt m _ _ _ hm
  have k1_ := h1
  have lt1 : ∀ x ∈ p1, x.block < W.heap.size := by obtain ⟨m, hm⟩ := k1_; exact DataW.trod_lt m _ _ _ hm
  have k2_ := h2
  have lt2 : ∀ x ∈ p2, x.block < W.heap.size := by obtain ⟨m, hm⟩ := k2_; exact DataW.trod_lt m _ _ _ hm
  obtain ⟨cs0, rfl, hsz0⟩ := okWide_struct Try.underlying24 (hval 0 24 v0 rfl rfl)
  obtain ⟨l0⟩ := cs0
  obtain ⟨fuel0, hf0⟩ := h0
  obtain ⟨A0, c0, l0, rfl, hsl0, hnil0, hfit0⟩ := field_cells hf0 (by rw [cellsF_field] at hsz0; exact hsz0)
  obtain ⟨cs1, rfl, hsz1⟩ := okWide_struct Try.underlying49 (hval 1 49 v1 rfl rfl)
  obtain ⟨l1⟩ := cs1
  obtain ⟨fuel1, hf1⟩ := h1
  obtain ⟨n1, d1, rfl, hfitn1, hfitd1⟩ := ratio_cells hf1 (by rw [cellsF_ratio] at hsz1; exact hsz1)
  obtain ⟨A2, n2, c2, rfl⟩ := okWide_slice Try.underlying45 (hval 2 45 v2 rfl rfl)
  obtain ⟨fuel2, hf2⟩ := h2
  obtain ⟨l2, rfl, hsl2, hfit2, hnil2⟩ := arg_ints hf2
  clear hA0 hval0
  refine (bwins_walk A0 c0 l0 n1 d1 A2 c2 l2 _ hsl0 hnil0 hfitn1 hfitd1 hsl2 hnil2 hfit2).mono fun e W' ⟨he, hx⟩ => ?_
  have bel : Below W.heap.size W W' := (bel_of hx).toBelow
  subst he
  exact ⟨_, rfl, _, _, _, [], _, [], hW', trodAll_mk1 (shut_bool Try.underlying4 _), (trodAll_cons_mk (Below.trod laidOut_ (by kernel_rfl) (of_decide_eq_true (by kernel_rfl)) k0_ bel lt0) (trodAll_cons_mk (Below.trod laidOut_ (by kernel_rfl) (of_decide_eq_true (by kernel_rfl)) k1_ bel lt1) (trodAll_cons_mk (Below.trod laidOut_ (by kernel_rfl) (of_decide_eq_true (by kernel_rfl)) k2_ bel lt2) trodAll_mk0))), rfl, bel.frame _, fun h => by cases h⟩
theorem bracketWins_over : Rows.bracketWinsRow.holds Try.pinned (OpenSpec.ofChange Rows.bracketWinsSpec) :=
  OpenClaim.holds_of_wide 12 Try.f12 rfl rfl rfl rfl rfl rfl rfl ⟨rfl, rfl, rfl, rfl, rfl⟩ rfl rfl rfl rfl rfl (by kernel_rfl) Try.func12 (by kernel_rfl)
    (of_decide_eq_true (by kernel_rfl)) (by unfold Func.isWrapper; rw [if_neg (of_decide_eq_false (by kernel_rfl))]; exact ⟨rfl, rfl⟩)
    (fun os started H enc _ => bracketWins_lifted os started H enc)
/-- The statement. -/
theorem bracketWins_holds : Rows.BracketWinsSaid := bracketWins_over
end Go.Proofs.Ytkcpnclgcmnlcaa
