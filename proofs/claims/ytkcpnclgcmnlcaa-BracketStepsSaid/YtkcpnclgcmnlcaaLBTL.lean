/- The statement BracketSteps: the plain law, and the join. -/
import Derived.Test.YtkcpnclgcmnlcaaHBTL
set_option linter.unusedSimpArgs false
set_option linter.unusedVariables false
namespace Go.Pel
open Go Go.RowKit
theorem brSet_ok {l : List Pt} {n d : Int} {P W : List Int} {p : Nat} {id : Int} (h1 : brChk P W = 0) (h2 : timed l n d = 0) (hp : p < P.length) (h6 : knownB l (P.set p id) = true) (h7 : onceB (P.set p id) = true) :
    brSet l n d P W (p : Int) id = (P.set p id, (setR l n d (P.set p id) W (W.length + p) (W, [])).1, (setR l n d (P.set p id) W (W.length + p) (W, [])).2, 0) := by
  unfold brSet
  rw [if_neg (fun h => h h1), if_neg (fun h => h h2), if_neg (by omega), Int.toNat_natCast, if_pos h6, if_pos h7]
theorem once_sub {P Q : List Int} (hl : P.length = Q.length) (hQ : onceB Q = true) (h : ∀ q, q < Q.length → P.getD q 0 = -1 ∨ P.getD q 0 = Q.getD q 0) : onceB P = true := by
  refine twice_no fun i k x hk hi h0 hx => ?_
  have hi2 := (List.getElem?_eq_some_iff.1 hi).1
  have e1 := getD_some hi
  have e2 := getD_some hx
  have a1 := h i (by omega)
  have a2 := h k (by omega)
  have b1 : Q.getD i 0 = x := by rcases a1 with a | a <;> omega
  have b2 : Q.getD k 0 = x := by rcases a2 with a | a <;> omega
  have c1 : Q[i]? = some x := by rw [List.getD_eq_getElem?_getD, List.getElem?_eq_getElem (show i < Q.length by omega)] at b1; rw [List.getElem?_eq_getElem (show i < Q.length by omega)]; exact congrArg some b1
  have c2 : Q[k]? = some x := by rw [List.getD_eq_getElem?_getD, List.getElem?_eq_getElem (show k < Q.length by omega)] at b2; rw [List.getElem?_eq_getElem (show k < Q.length by omega)]; exact congrArg some b2
  rw [twice_yes hk c1 h0 c2] at hQ
  cases hQ
theorem known_sub {l : List Pt} {P Q : List Int} (hl : P.length = Q.length) (hQ : knownB l Q = true) (h : ∀ q, q < Q.length → P.getD q 0 = -1 ∨ P.getD q 0 = Q.getD q 0) : knownB l P = true := by
  unfold knownB
  rw [List.all_eq_true]
  intro x hx
  obtain ⟨q, hq, he⟩ := List.mem_iff_getElem.1 hx
  have e : P.getD q 0 = x := by rw [List.getD_eq_getElem?_getD, List.getElem?_eq_getElem hq]; exact he
  rcases h q (by omega) with a | a
  · rw [← e, a]; simp
  · have := known_ok hQ (getD_mem (l := Q) (k := q) (by omega))
    rw [← a, e] at this
    rcases this with h | h
    · rw [h]; simp
    · rw [h]; rfl
theorem ext_getD {P Q : List Int} (hl : P.length = Q.length) (h : ∀ q, q < Q.length → P.getD q 0 = Q.getD q 0) : P = Q := by
  refine List.ext_getElem? fun j => ?_
  by_cases hj : j < Q.length
  · have := h j hj
    rw [List.getD_eq_getElem?_getD, List.getD_eq_getElem?_getD, List.getElem?_eq_getElem hj, List.getElem?_eq_getElem (show j < P.length by omega)] at this
    rw [List.getElem?_eq_getElem hj, List.getElem?_eq_getElem (show j < P.length by omega)]
    exact congrArg some this
  · rw [List.getElem?_eq_none (by omega), List.getElem?_eq_none (by omega)]
/-- the step at which a place is set -/
def posQ (t n q : Nat) : Nat := if t ≤ q then q - t else q + n - t
end Go.Pel
namespace Go.Proofs.Ytkcpnclgcmnlcaa
open Go Go.Tx Go.Pel Go.Proofs.Try Go.ChangeShapes Go.WideShapes Go.ChangeAt Go.RowKit
theorem alive10_eq : F_law10_alive 1001 () = some true := by kernel_rfl
theorem bbuild_eq (d : Nat) (l : List Pt) (n m : Int) (Q : List Int) (hN : i64B n = true) (hD : i64B m = true) (hQ : all64B Q = true) (hlQ : Q.length ≤ 100) (hll : l.length ≤ 100) : F_bracket_Build d ((toPs l, ()), (n, m, ()), (unI Q, ()), ()) = some (unI (brBuild l n m Q).1, unI (brBuild l n m Q).2.1, (brBuild l n m Q).2.2) := by
  rw [F_bracket_Build_eq _ _ (by unfold bracket_Build_if; simp only [idsI_unI, ptsL_toP, hN, hD, hQ, Bool.and_true, Bool.true_and, Bool.and_eq_true, decide_eq_true_eq]; omega)]; simp only [idsI_unI, ptsL_toP]
section
variable {l : List Pt} {n m : Int} {Q : List Int} {t : Nat}
theorem bt_l2 (d : Nat) (hal : F_law10_alive d () = some true) (hN : i64B n = true) (hD : i64B m = true) (hQ : all64B Q = true) (hlQ : Q.length ≤ 64) (ht : timed l n m = 0) (htu : t < Q.length) (hk : knownB l Q = true) (ho : onceB Q = true) :
    ∀ (j i f : Nat) (P W : List Int), Q.length = i + j → P.length = Q.length → W.length + 1 = Q.length → Fine l n m P W → all64B P = true → (∀ q, q < Q.length → P.getD q 0 = if posQ t Q.length q < i then Q.getD q 0 else -1) → j + 1 ≤ f →
    iter (law10_BracketSteps_L2 d) f (unI Q, (t : Int), (i : Int), toPs l, n, m, unI Q, unI (builtB l n m Q), unI P, unI W) = some true
  | 0, i, f + 1, P, W, hj, hP, hW, hf, h6, hq, hfu => by
    rw [iter]
    have e1 : decide ((i : Int) < ((unI Q).length : Int)) = false := decide_eq_false (by rw [unI_len]; omega)
    obtain rfl : P = Q := ext_getD hP fun q hq' => by rw [hq q hq', if_pos (by unfold posQ; split <;> omega)]
    obtain rfl : W = builtB l n m P := fine_only (by rw [builtB_len]; omega) (by rw [builtB_len]; omega) hf (builtB_fine l n m P)
    have e2 := bsame_refl d (P := P) (W := builtB l n m P) (by omega) (by omega)
    simp only [law10_BracketSteps_L2, law10_BracketSteps_r15, law10_BracketSteps_r22, law10_BracketSteps_K, Dt.eval, e1, e2, hal, cond_true, cond_false]
  | j + 1, i, f + 1, P, W, hj, hP, hW, hf, h6, hq, hfu => by
    rw [iter]
    obtain ⟨p, hp0⟩ : ∃ p, (i + t) % Q.length = p := ⟨_, rfl⟩
    have hp : p < Q.length := by rw [← hp0]; exact Nat.mod_lt _ (by omega)
    have hpos : ∀ q, q < Q.length → (posQ t Q.length q = i ↔ q = p) := by
      intro q hq'
      by_cases hlt : i + t < Q.length
      · rw [Nat.mod_eq_of_lt hlt] at hp0
        unfold posQ; split <;> omega
      · rw [Nat.mod_eq_sub_mod (by omega), Nat.mod_eq_of_lt (by omega)] at hp0
        unfold posQ; split <;> omega
    have e1 : decide ((i : Int) < ((unI Q).length : Int)) = true := decide_eq_true (by rw [unI_len]; omega)
    have e2 : (((unI Q).length : Int) == (0 : Int)) = false := beq_eq_false_iff_ne.2 (by rw [unI_len]; omega)
    have e3 : Int.tmod (IntKind.wrap .i64 ((i : Int) + (t : Int))) ((unI Q).length : Int) = (p : Int) := by
      rw [unI_len, wr64 (by omega) (by omega), ← hp0]
      rw [show (i : Int) + (t : Int) = ((i + t : Nat) : Int) by omega, Int.tmod_eq_emod_of_nonneg (by omega)]
      rfl
    have b1 : inB (p : Int) (unI Q).length = true := inB_t (by omega) (by rw [unI_len]; omega)
    have hI : i64B (Q.getD p 0) = true := (List.all_eq_true.1 hQ) _ (getD_mem hp)
    have hsub : ∀ q, q < Q.length → (P.set p (Q.getD p 0)).getD q 0 = if posQ t Q.length q < i + 1 then Q.getD q 0 else -1 := by
      intro q hq'
      rw [getD_set (by omega)]
      by_cases hqp : q = p
      · subst hqp; rw [if_pos rfl, if_pos (by have := (hpos q hq').2 rfl; omega)]
      · rw [if_neg hqp, hq q hq']
        have : posQ t Q.length q ≠ i := fun h => hqp ((hpos q hq').1 h)
        by_cases h1 : posQ t Q.length q < i
        · rw [if_pos h1, if_pos (by omega)]
        · rw [if_neg h1, if_neg (by omega)]
    have hor : ∀ (k : Nat) (R : List Int), (∀ q, q < Q.length → R.getD q 0 = if posQ t Q.length q < k then Q.getD q 0 else -1) → ∀ q, q < Q.length → R.getD q 0 = -1 ∨ R.getD q 0 = Q.getD q 0 := fun k R h q hq' => by
      rw [h q hq']; split
      · exact .inr rfl
      · exact .inl rfl
    have k1 := known_sub (by rw [List.length_set]; exact hP) hk (hor _ _ hsub)
    have k2 := once_sub (by rw [List.length_set]; exact hP) ho (hor _ _ hsub)
    have hchk : brChk P W = 0 := valid_of (timed_zero ht).1 (by omega) (by omega) (by omega) (once_sub hP ho (hor _ _ hq)) (known_sub hP hk (hor _ _ hq)) (fun q hq' => winOk_fine (hf q hq'))
    have e31 := bset_eq d l n m P W (p : Int) (Q.getD p 0) hN hD h6 hI (by omega) (by omega)
    rw [brSet_ok hchk ht (by omega) k1 k2] at e31
    have e4 : IntKind.wrap .i64 ((i : Int) + (1 : Int)) = ((i + 1 : Nat) : Int) := by rw [wr64 (by omega) (by omega)]; omega
    have hl' : (Pel.setR l n m (P.set p (Q.getD p 0)) W (W.length + p) (W, [])).1.length = W.length := Pel.setR_len ..
    have ih := bt_l2 d hal hN hD hQ hlQ ht htu hk ho j (i + 1) f (P.set p (Q.getD p 0)) (Pel.setR l n m (P.set p (Q.getD p 0)) W (W.length + p) (W, [])).1 (by omega) (by rw [List.length_set]; exact hP) (by omega) (fun q hq' => setR_fine l n m (P.set p (Q.getD p 0)) W (W.length + p) (W, []) (fineBut_start (by omega) hf) (by show _ ≤ 2 * W.length; omega) q (by show q < W.length; omega)) (all64B_set h6 hI p) hsub (by omega)
    simp only [law10_BracketSteps_L2, law10_BracketSteps_r15, law10_BracketSteps_r17, law10_BracketSteps_r18, law10_BracketSteps_r19, law10_BracketSteps_r21, law10_BracketSteps_r16, law10_BracketSteps_K, Dt.eval, e1, e2, e3, b1, Int.toNat_natCast, elt_unI, e31, bne_self_eq_false, e4, cond_true, cond_false]
    exact ih
  | _, _, 0, _, _, _, _, _, _, _, _, hf => by omega
theorem bt_l1 (d : Nat) (hd : 1001 ≤ d) (hal : F_law10_alive d () = some true) (hN : i64B n = true) (hD : i64B m = true) (hQ : all64B Q = true) (hlQ : Q.length ≤ 64) (ht : timed l n m = 0) (htu : t < Q.length) (hk : knownB l Q = true) (ho : onceB Q = true) :
    ∀ (j i f : Nat) (E : List Int), Q.length = i + j → E.length = Q.length → all64B E = true → (∀ q, q < i → E.getD q 0 = -1) → j + 1 ≤ f →
    iter (law10_BracketSteps_L1 d) f (unI Q, (t : Int), (i : Int), toPs l, n, m, unI Q, unI (builtB l n m Q), unI E) = some true
  | 0, i, f + 1, E, hj, hE, h6, hq, hfu => by
    rw [iter]
    obtain ⟨f1, _, f3⟩ := fieldChk_zero (timed_zero ht).1
    have e1 : decide ((i : Int) < ((unI Q).length : Int)) = false := decide_eq_false (by rw [unI_len]; omega)
    have hsub : ∀ q, q < Q.length → E.getD q 0 = -1 ∨ E.getD q 0 = Q.getD q 0 := fun q hq' => .inl (hq q (by omega))
    have e2 := bbuild_eq d l n m E hN hD h6 (by omega) (by omega)
    have e3 : brBuild l n m E = (E, builtB l n m E, 0) := by
      unfold brBuild; rw [if_neg (fun h => h ht), if_neg (by omega), if_pos (known_sub hE hk hsub), if_pos (once_sub hE ho hsub)]
    rw [e3] at e2
    have h2 := bt_l2 (t := t) d hal hN hD hQ hlQ ht htu hk ho Q.length 0 d E (builtB l n m E) (by omega) hE (by rw [builtB_len]; omega) (builtB_fine l n m E) h6 (fun q hq' => by rw [hq q (by omega), if_neg (by omega)]) (by omega)
    simp only [law10_BracketSteps_L1, law10_BracketSteps_r8, law10_BracketSteps_r11, law10_BracketSteps_r12, law10_BracketSteps_r14, law10_BracketSteps_K, Dt.eval, e1, e2, bne_self_eq_false, cond_true, cond_false]
    exact h2
  | j + 1, i, f + 1, E, hj, hE, h6, hq, hfu => by
    rw [iter]
    have e1 : decide ((i : Int) < ((unI Q).length : Int)) = true := decide_eq_true (by rw [unI_len]; omega)
    have b1 : inB (i : Int) (unI E).length = true := inB_t (by omega) (by rw [unI_len]; omega)
    have e4 : IntKind.wrap .i64 ((i : Int) + (1 : Int)) = ((i + 1 : Nat) : Int) := by rw [wr64 (by omega) (by omega)]; omega
    have ih := bt_l1 d hd hal hN hD hQ hlQ ht htu hk ho j (i + 1) f (E.set i (-1)) (by omega) (by rw [List.length_set]; exact hE) (all64B_set h6 rfl i) (fun q hq' => by
      rw [getD_set (by omega)]
      by_cases h : q = i
      · rw [if_pos h]
      · rw [if_neg h]; exact hq q (by omega)) (by omega)
    simp only [law10_BracketSteps_L1, law10_BracketSteps_r8, law10_BracketSteps_r10, law10_BracketSteps_r9, Dt.eval, e1, b1, Int.toNat_natCast, set_unI, e4, cond_true]
    exact ih
  | _, _, 0, _, _, _, _, _, hf => by omega
end
set_option maxHeartbeats 4000000 in
theorem bsteps_plain (d : Nat) (hd : 1001 ≤ d) (hal : F_law10_alive d () = some true) (l : List Pt) (n m : Int) (Q : List Int) (k : Int) (hN : i64B n = true) (hD : i64B m = true) (fQ : all64B Q = true) :
    F_law10_BracketSteps d ((toPs l, ()), (n, m, ()), (unI Q, ()), (k, ()), ()) = some true := by
  have e15 : F_ref03_Great d ((toPs l, ()), ()) = some (great l.length) := by rw [F_ref03_Great_eq _ _ rfl, ptsL_toP]
  cases hg : great l.length with
  | true => simp only [F_law10_BracketSteps, law10_BracketSteps_r0, law10_BracketSteps_r1, law10_BracketSteps_r2, law10_BracketSteps_K, Dt.eval, e15, hg, hal, cond_true]
  | false =>
  have l1 := great_le hg
  have e45 : F_ref03_Timed d ((toPs l, ()), (n, m, ()), ()) = some (timed l n m) := by
    rw [F_ref03_Timed_eq _ _ (by unfold ref03_Timed_if; simp only [ptsL_toP, hN, hD, Bool.true_and, Bool.and_true, Bool.and_self, decide_eq_true_eq]; omega)]; simp only [ptsL_toP]
  by_cases h2 : timed l n m = 0
  case neg => simp only [F_law10_BracketSteps, law10_BracketSteps_r0, law10_BracketSteps_r1, law10_BracketSteps_r2, law10_BracketSteps_K, Dt.eval, e15, e45, hg, ne0_t h2, hal, cond_true, cond_false]
  by_cases h3 : 16 < Q.length
  · have c1 : decide (((unI Q).length : Int) > (16 : Int)) = true := decide_eq_true (by rw [unI_len]; omega)
    simp only [F_law10_BracketSteps, law10_BracketSteps_r0, law10_BracketSteps_r1, law10_BracketSteps_r2, law10_BracketSteps_K, Dt.eval, e15, e45, hg, ne0_f h2, c1, hal, cond_true, cond_false]
  have c1 : decide (((unI Q).length : Int) > (16 : Int)) = false := decide_eq_false (by rw [unI_len]; omega)
  by_cases h4 : k < 0
  · simp only [F_law10_BracketSteps, law10_BracketSteps_r0, law10_BracketSteps_r1, law10_BracketSteps_r2, law10_BracketSteps_K, Dt.eval, e15, e45, hg, ne0_f h2, c1, decide_eq_true h4, hal, cond_true, cond_false]
  obtain ⟨t, rfl⟩ : ∃ t : Nat, k = t := ⟨k.toNat, by omega⟩
  by_cases h5 : Q.length ≤ t
  · have c2 : decide ((t : Int) ≥ ((unI Q).length : Int)) = true := decide_eq_true (by rw [unI_len]; omega)
    simp only [F_law10_BracketSteps, law10_BracketSteps_r0, law10_BracketSteps_r1, law10_BracketSteps_r2, law10_BracketSteps_K, Dt.eval, e15, e45, hg, ne0_f h2, c1, decide_eq_false h4, c2, hal, cond_true, cond_false]
  have c2 : decide ((t : Int) ≥ ((unI Q).length : Int)) = false := decide_eq_false (by rw [unI_len]; omega)
  have e35 := bbuild_eq d l n m Q hN hD fQ (by omega) (by omega)
  by_cases h6 : knownB l Q = true ∧ onceB Q = true
  case neg =>
    have h7 : (brBuild l n m Q).2.2 ≠ 0 := by
      unfold brBuild; rw [if_neg (fun h => h h2), if_neg (by omega)]
      split
      · split
        · exact absurd ⟨‹_›, ‹_›⟩ h6
        · simp
      · simp
    simp only [F_law10_BracketSteps, law10_BracketSteps_r0, law10_BracketSteps_r1, law10_BracketSteps_r3, law10_BracketSteps_r4, law10_BracketSteps_r5, law10_BracketSteps_K, Dt.eval, e15, e45, e35, hg, ne0_f h2, c1, decide_eq_false h4, c2, ne0_t h7, hal, cond_true, cond_false]
  have e3 : brBuild l n m Q = (Q, builtB l n m Q, 0) := by
    unfold brBuild; rw [if_neg (fun h => h h2), if_neg (by omega), if_pos h6.1, if_pos h6.2]
  rw [e3] at e35
  have mk1 : mkB ((unI Q).length : Int) ((unI Q).length : Int) = true := by unfold mkB; rw [unI_len]; simp; omega
  have rp : List.replicate (((unI Q).length : Int)).toNat zi = unI (List.replicate Q.length 0) := by rw [unI_len, Int.toNat_natCast]; unfold unI; rw [List.map_replicate]; rfl
  have h1 := bt_l1 (t := t) d hd hal hN hD fQ (by omega) h2 (by omega) h6.1 h6.2 Q.length 0 d (List.replicate Q.length 0) (by omega) (by simp) (List.all_eq_true.2 fun x hx => by rw [List.eq_of_mem_replicate hx]; rfl) (fun q hq => by omega) (by omega)
  simp only [F_law10_BracketSteps, law10_BracketSteps_r0, law10_BracketSteps_r1, law10_BracketSteps_r3, law10_BracketSteps_r4, law10_BracketSteps_r6, law10_BracketSteps_r7, law10_BracketSteps_K, Dt.eval, e15, e45, e35, hg, ne0_f h2, c1, decide_eq_false h4, c2, bne_self_eq_false, mk1, rp, cond_true, cond_false]
  exact h1
theorem bsteps_walk (A : Option Addr) (c : Nat) (l : List Pt) (n m : Int) (C : Option Addr) (e : Nat) (Q : List Int) (k : Int) (w : World) (hs : Sl w 3 A l.length c (vp l)) (hn : A = none → c = 0) (hN : -9223372036854775808 ≤ n ∧ n ≤ 9223372036854775807) (hD : -9223372036854775808 ≤ m ∧ m ≤ 9223372036854775807)
    (h1 : Sl w 1 C Q.length e (vi Q)) (n1 : C = none → e = 0) (f1 : ∀ i ∈ Q, wf64 i) :
    Calls Try.prog 6 #[.agg #[.slice A l.length c], .agg #[.int .i64 n, .int .i64 m], .slice C Q.length e, .int .i64 k] w fun e w' => e = .returned (.bool true) ∧ ∃ x, w' = ext w x := by
  obtain ⟨d, hd, hal⟩ : ∃ d, 1001 ≤ d ∧ F_law10_alive d () = some true := ⟨1001, Nat.le_refl _, alive10_eq⟩
  exact law_of (law10_BracketSteps_cok d) (bsteps_plain d hd hal l n m Q k (i64B_of hN) (i64B_of hD) (all64B_of f1)) rfl w
    (VRs.cons (sl_fld hs hn) (VRs.cons (sl_rat n m) (VRs.cons (sl_ints h1 n1) (VRs.cons (.int _ _) VRs.nil))))
set_option maxRecDepth 100000 in
theorem bracketSteps_lifted (os : Os) (started : os.Started) (H : Type) (enc : TypeId × Value → H) :
    ReturnsInHanded {} Try.checked os 6 .any (Rows.bracketStepsSpec.pre6 enc Try.prog Try.f6 Rows.bracketStepsRow.domain false) (Rows.bracketStepsSpec.post enc Try.prog Try.f6 false true false false) := by
  refine returnsInHanded_of_change (C := Try.checked) ownKnob_ started (by kernel_rfl) Try.func6
    (ChangeSpec.witness6 (enc := enc) (C := Try.checked) false ⟨#[], #[.agg #[.slice none 0 0], .agg #[.int .i64 0, .int .i64 0], .slice none 0 0, .int .i64 0], []⟩ 8 (by kernel_rfl) (by kernel_rfl) (by kernel_rfl) (by kernel_rfl)) ?_
  intro W base args ds gs before hval0 hW hcnd _
  have hval : ∀ (j : Nat) t v, Try.f6.params[j]? = some t → args[j]? = some v → Value.okWide Try.prog W .any base t v := hval0
  have hW' := hW
  obtain ⟨p, q, hA0, hV, rfl, hfz, hnd⟩ := hW
  have hA : DataW.TrodAll enc Try.prog W 0 (fun _ => true) true Try.f6.params.toList args.toList ds p := hA0
  rw [Try.params6] at hA hval
  obtain ⟨v0, vs0, d0, ds0, p0, q0, hargs, rfl, rfl, h0, r0⟩ := trodAll_cons hA
  obtain ⟨v1, vs1, d1, ds1, p1, q1, rfl, rfl, rfl, h1, r1⟩ := trodAll_cons r0
  obtain ⟨v2, vs2, d2, ds2, p2, q2, rfl, rfl, rfl, h2, r2⟩ := trodAll_cons r1
  obtain ⟨v3, vs3, d3, ds3, p3, q3, rfl, rfl, rfl, h3, r3⟩ := trodAll_cons r2
  obtain ⟨rfl, rfl, rfl⟩ := trodAll_nil r3
  obtain rfl : args = #[v0, v1, v2, v3] := by cases args; simp_all
  obtain ⟨rfl, rfl⟩ := trodVars_none hV
  have k0_ := h0
  have lt0 : ∀ x ∈ p0, x.block < W.heap.size := by obtain ⟨m, hm⟩ := k0_; exact DataW.trod_lt m _ _ _ hm
  have k1_ := h1
  have lt1 : ∀ x ∈ p1, x.block < W.heap.size := by obtain ⟨m, hm⟩ := k1_; exact DataW.trod_lt m _ _ _ hm
  have k2_ := h2
  have lt2 : ∀ x ∈ p2, x.block < W.heap.size := by obtain ⟨m, hm⟩ := k2_; exact DataW.trod_lt m _ _ _ hm
  have k3_ := h3
  have lt3 : ∀ x ∈ p3, x.block < W.heap.size := by obtain ⟨m, hm⟩ := k3_; exact DataW.trod_lt m _ _ _ hm
  obtain ⟨cs0, rfl, hsz0⟩ := okWide_struct Try.underlying24 (hval 0 24 v0 rfl rfl)
  obtain ⟨l0⟩ := cs0
  obtain ⟨fuel0, hf0⟩ := h0
  obtain ⟨A0, c0, l0, rfl, hsl0, hnil0, hfit0⟩ := field_cells hf0 (by rw [cellsF_field] at hsz0; exact hsz0)
  obtain ⟨cs1, rfl, hsz1⟩ := okWide_struct Try.underlying49 (hval 1 49 v1 rfl rfl)
  obtain ⟨l1⟩ := cs1
  obtain ⟨fuel1, hf1⟩ := h1
  obtain ⟨n1, d1, rfl, hfitn1, hfitd1⟩ := ratio_cells hf1 (by rw [cellsF_ratio] at hsz1; exact hsz1)
  obtain ⟨A2, n2, c2, rfl⟩ := okWide_slice Try.underlying45 (hval 2 45 v2 rfl rfl)
  obtain ⟨fuel2, hf2⟩ := h2
  obtain ⟨l2, rfl, hsl2, hfit2, hnil2⟩ := arg_ints hf2
  have hw3 := hval 3 3 v3 rfl rfl
  obtain ⟨i3, rfl⟩ := okWide_int Try.underlying3 hw3
  clear hA0 hval0
  refine (bsteps_walk A0 c0 l0 n1 d1 A2 c2 l2 i3 _ hsl0 hnil0 hfitn1 hfitd1 hsl2 hnil2 hfit2).mono fun e W' ⟨he, hx⟩ => ?_
  have bel : Below W.heap.size W W' := (bel_of hx).toBelow
  subst he
  exact ⟨_, rfl, _, _, _, [], _, [], hW', trodAll_mk1 (shut_bool Try.underlying4 _), (trodAll_cons_mk (Below.trod laidOut_ (by kernel_rfl) (of_decide_eq_true (by kernel_rfl)) k0_ bel lt0) (trodAll_cons_mk (Below.trod laidOut_ (by kernel_rfl) (of_decide_eq_true (by kernel_rfl)) k1_ bel lt1) (trodAll_cons_mk (Below.trod laidOut_ (by kernel_rfl) (of_decide_eq_true (by kernel_rfl)) k2_ bel lt2) (trodAll_cons_mk (Below.trod laidOut_ (by kernel_rfl) (of_decide_eq_true (by kernel_rfl)) k3_ bel lt3) trodAll_mk0)))), rfl, bel.frame _, fun h => by cases h⟩
theorem bracketSteps_over : Rows.bracketStepsRow.holds Try.pinned (OpenSpec.ofChange Rows.bracketStepsSpec) :=
  OpenClaim.holds_of_wide 6 Try.f6 rfl rfl rfl rfl rfl rfl rfl ⟨rfl, rfl, rfl, rfl, rfl⟩ rfl rfl rfl rfl rfl (by kernel_rfl) Try.func6 (by kernel_rfl)
    (of_decide_eq_true (by kernel_rfl)) (by unfold Func.isWrapper; rw [if_neg (of_decide_eq_false (by kernel_rfl))]; exact ⟨rfl, rfl⟩)
    (fun os started H enc _ => bracketSteps_lifted os started H enc)
/-- The statement. -/
theorem bracketSteps_holds : Rows.BracketStepsSaid := bracketSteps_over
end Go.Proofs.Ytkcpnclgcmnlcaa
