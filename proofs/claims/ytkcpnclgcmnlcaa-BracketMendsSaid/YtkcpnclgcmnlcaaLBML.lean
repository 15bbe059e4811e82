/- The statement BracketMends: the plain law, and the join. -/
import Derived.Test.YtkcpnclgcmnlcaaHBML
set_option linter.unusedSimpArgs false
set_option linter.unusedVariables false
namespace Go.Proofs.Ytkcpnclgcmnlcaa
open Go Go.Tx Go.Pel Go.Proofs.Try Go.ChangeShapes Go.WideShapes Go.ChangeAt Go.RowKit
theorem alive10_eq : F_law10_alive 1001 () = some true := by kernel_rfl
theorem bright_eq (d : Nat) (l : List Pt) (n m : Int) (P W : List Int) (hN : i64B n = true) (hD : i64B m = true) (hP : all64B P = true) (hlP : P.length ≤ 100) (hlW : W.length ≤ 100) (hll : l.length ≤ 100) : F_bracket_Right d ((unI P, unI W, ()), (toPs l, ()), (n, m, ()), ()) = some ((brRight l n m P W).1, (brRight l n m P W).2) := by
  rw [F_bracket_Right_eq _ _ (by unfold bracket_Right_if; simp only [idsI_unI, ptsL_toP, hP, hN, hD, Bool.and_true, Bool.and_eq_true, decide_eq_true_eq]; omega)]; simp only [idsI_unI, ptsL_toP]
theorem brRight_at {l : List Pt} {n d : Int} {P W : List Int} (h1 : brChk P W = 0) (h2 : timed l n d = 0) (h3 : knownB l P = true) : brRight l n d P W = (fineB l n d P W, 0) := by
  unfold brRight; rw [if_neg (fun h => h h1), if_neg (fun h => h h2), if_pos h3]
theorem getD_app {l : List Int} {x : Int} {r : List Int} : (l ++ x :: r).getD l.length 0 = x := by
  rw [List.getD_eq_getElem?_getD, List.getElem?_append_right (Nat.le_refl _), Nat.sub_self]; rfl
section
variable (d : Nat) (place id : Int) (P W P' W' : List Int)
/-- is a node's winner another one? -/
def chB (W W' : List Int) (k : Int) : Bool := !decide (W'.getD k.toNat 0 = W.getD k.toNat 0)
theorem bm_l4 (O R : List Int) (at_ : Int) (k : Nat) (self : (Int × Int × Int × Int × List Di × List Di × List Di × List Di × List Di × List Di) → Option law10_BracketMends_R) (hk : k < W.length) (hl : W'.length = W.length) (hW : W.length ≤ 1000) (hR : R.length ≤ 1000) (hkeep : (k : Int) ∉ R → W'.getD k 0 = W.getD k 0) :
    ∀ (rest pre : List Int) (f : Nat), R = pre ++ rest → rest.length + 1 ≤ f → iter (law10_BracketMends_L4 d self) f (place, id, at_, (k : Int), decide ((k : Int) ∈ pre), (pre.length : Int), unI P, unI W, unI P', unI W', unI O, unI R) = self (place, id, at_, ((k + 1 : Nat) : Int), unI P, unI W, unI P', unI W', unI O, unI R)
  | [], pre, f + 1, h, hf => by
    rw [iter]
    rw [List.append_nil] at h; subst h
    have e1 : decide ((R.length : Int) < ((unI R).length : Int)) = false := decide_eq_false (by rw [unI_len]; omega)
    have e2 : IntKind.wrap .i64 ((k : Int) + (1 : Int)) = ((k + 1 : Nat) : Int) := by rw [wr64 (by omega) (by omega)]; omega
    have b1 : inB (k : Int) (unI W).length = true := inB_t (by omega) (by rw [unI_len]; omega)
    have b2 : inB (k : Int) (unI W').length = true := inB_t (by omega) (by rw [unI_len]; omega)
    by_cases hm : (k : Int) ∈ R
    · simp only [law10_BracketMends_L4, law10_BracketMends_r26, law10_BracketMends_r29, law10_BracketMends_r23, law10_BracketMends_K, Dt.eval, e1, e2, decide_eq_true hm, Bool.not_true, cond_true, cond_false]
    · have e3 : (W'.getD k 0 != W.getD k 0) = false := by rw [hkeep hm]; exact bne_self_eq_false ..
      simp only [law10_BracketMends_L4, law10_BracketMends_r26, law10_BracketMends_r29, law10_BracketMends_r23, law10_BracketMends_K, Dt.eval, e1, e2, b1, b2, decide_eq_false hm, Bool.not_false, Int.toNat_natCast, elt_unI, e3, cond_true, cond_false]
  | x :: rest, pre, f + 1, h, hf => by
    rw [iter]
    have hlen : R.length = pre.length + (rest.length + 1) := by rw [h, List.length_append, List.length_cons]
    have e1 : decide ((pre.length : Int) < ((unI R).length : Int)) = true := decide_eq_true (by rw [unI_len]; omega)
    have b1 : inB (pre.length : Int) (unI R).length = true := inB_t (by omega) (by rw [unI_len]; omega)
    have g1 : R.getD pre.length 0 = x := by rw [h]; exact getD_app
    have e2 : IntKind.wrap .i64 ((pre.length : Int) + (1 : Int)) = ((pre ++ [x]).length : Int) := by rw [wr64 (by omega) (by omega)]; simp
    have ih := bm_l4 O R at_ k self hk hl hW hR hkeep rest (pre ++ [x]) f (by rw [h]; simp) (by simp at hf; omega)
    by_cases hm : (k : Int) ∈ pre
    · have e3 : decide ((k : Int) ∈ pre ++ [x]) = true := decide_eq_true (by simp [hm])
      rw [e3] at ih
      simp only [law10_BracketMends_L4, law10_BracketMends_r26, law10_BracketMends_r28, law10_BracketMends_r27, law10_BracketMends_K, Dt.eval, e1, e2, decide_eq_true hm, cond_true]
      exact ih
    · have e3 : decide ((k : Int) ∈ pre ++ [x]) = (x == (k : Int)) := by
        by_cases hx : x = (k : Int)
        · rw [hx, beq_self_eq_true]; exact decide_eq_true (by simp)
        · rw [beq_eq_false_iff_ne.2 hx]; exact decide_eq_false (by simp [hm]; exact fun h => hx h.symm)
      rw [e3] at ih
      simp only [law10_BracketMends_L4, law10_BracketMends_r26, law10_BracketMends_r28, law10_BracketMends_r27, law10_BracketMends_K, Dt.eval, e1, e2, b1, decide_eq_false hm, Int.toNat_natCast, elt_unI, g1, cond_true, cond_false]
      exact ih
  | _, _, 0, _, hf => by omega
theorem bm_l3 (hal : F_law10_alive d () = some true) (hd : 1001 ≤ d) (O R : List Int) (p : Nat) (hp : p < P'.length) (hPp : P'.getD p 0 = id) (hl : W'.length = W.length) (hW : W.length ≤ 1000) (hR : R.length ≤ 1000) (hkeep : ∀ k : Nat, (k : Int) ∉ R → W'.getD k 0 = W.getD k 0) :
    ∀ (j k f : Nat), W.length = k + j → j + 1 ≤ f → iter (law10_BracketMends_L3 d) f ((p : Int), id, (O.length : Int), (k : Int), unI P, unI W, unI P', unI W', unI O, unI R) = some true
  | 0, k, f + 1, h, hf => by
    rw [iter]
    have e1 : decide ((k : Int) < ((unI W).length : Int)) = false := decide_eq_false (by rw [unI_len]; omega)
    have e2 : ((O.length : Int) == ((unI O).length : Int)) = true := by rw [unI_len]; exact beq_self_eq_true _
    have b1 : inB (p : Int) (unI P').length = true := inB_t (by omega) (by rw [unI_len]; omega)
    simp only [law10_BracketMends_L3, law10_BracketMends_r22, law10_BracketMends_r31, law10_BracketMends_K, Dt.eval, e1, e2, b1, Int.toNat_natCast, elt_unI, hPp, beq_self_eq_true, hal, cond_true, cond_false]
  | j + 1, k, f + 1, h, hf => by
    rw [iter]
    have e1 : decide ((k : Int) < ((unI W).length : Int)) = true := decide_eq_true (by rw [unI_len]; omega)
    have h4 := bm_l4 d (p : Int) id P W P' W' O R (O.length : Int) k (iter (law10_BracketMends_L3 d) f) (by omega) hl hW hR (hkeep k) R [] d rfl (by omega)
    have ih := bm_l3 hal hd O R p hp hPp hl hW hR hkeep j (k + 1) f (by omega) (by omega)
    have e0 : decide ((k : Int) ∈ ([] : List Int)) = false := decide_eq_false List.not_mem_nil
    rw [e0] at h4
    simp only [law10_BracketMends_L3, law10_BracketMends_r22, law10_BracketMends_r24, law10_BracketMends_r25, Dt.eval, e1, cond_true]
    exact h4.trans ih
  | _, _, 0, _, hf => by omega
set_option maxHeartbeats 1000000 in
theorem bm_l1 (hal : F_law10_alive d () = some true) (hd : 1001 ≤ d) (R : List Int) (p : Nat) (hp : p < P'.length) (hPp : P'.getD p 0 = id) (hl : W'.length = W.length) (hW : W.length ≤ 1000) (hR : R.length ≤ 1000) (hkeep : ∀ k : Nat, (k : Int) ∉ R → W'.getD k 0 = W.getD k 0) :
    ∀ (i f : Nat) (pre : List Int), R = pre ++ wayI i → (pre = [] ∨ pre.getD (pre.length - 1) 0 = (i : Int)) → i ≤ 2 * W.length → i + 1 ≤ f →
    iter (law10_BracketMends_L1 d) f ((p : Int), id, ((pre.filter (chB W W')).length : Int), (pre.length : Int), unI P, unI W, unI P', unI W', unI (R.filter (chB W W')), unI R) = some true := by
  intro i
  induction i using Nat.strongRecOn with
  | _ i ih =>
    intro f pre h hpre hi hf
    obtain ⟨f, rfl⟩ : ∃ g, f = g + 1 := ⟨f - 1, by omega⟩
    rw [iter]
    cases i with
    | zero =>
      rw [wayI_zero, List.append_nil] at h; subst h
      have e1 : decide ((R.length : Int) < ((unI R).length : Int)) = false := decide_eq_false (by rw [unI_len]; omega)
      have h3 := bm_l3 d id P W P' W' hal hd (R.filter (chB W W')) R p hp hPp hl hW hR hkeep W.length 0 d (by omega) (by omega)
      simp only [law10_BracketMends_L1, law10_BracketMends_r13, law10_BracketMends_r21, Dt.eval, e1, cond_false]
      exact h3
    | succ i =>
      obtain ⟨x, hx⟩ : ∃ x, i / 2 = x := ⟨_, rfl⟩
      have hxW : x < W.length := by omega
      rw [wayI_succ, hx] at h
      have hlen : R.length = pre.length + ((wayI x).length + 1) := by rw [h, List.length_append, List.length_cons]
      have e1 : decide ((pre.length : Int) < ((unI R).length : Int)) = true := decide_eq_true (by rw [unI_len]; omega)
      have b1 : inB (pre.length : Int) (unI R).length = true := inB_t (by omega) (by rw [unI_len]; omega)
      have g1 : R.getD pre.length 0 = (x : Int) := by rw [h]; exact getD_app
      have e2 : decide ((x : Int) < (0 : Int)) = false := decide_eq_false (by omega)
      have e3 : decide ((x : Int) ≥ ((unI W).length : Int)) = false := decide_eq_false (by rw [unI_len]; omega)
      have b2 : inB (x : Int) (unI W).length = true := inB_t (by omega) (by rw [unI_len]; omega)
      have b3 : inB (x : Int) (unI W').length = true := inB_t (by omega) (by rw [unI_len]; omega)
      have e4 : IntKind.wrap .i64 ((pre.length : Int) + (1 : Int)) = ((pre ++ [(x : Int)]).length : Int) := by rw [wr64 (by omega) (by omega)]; simp
      have hR2 : R = (pre ++ [(x : Int)]) ++ wayI x := by rw [h]; simp
      have hpre2 : (pre ++ [(x : Int)]) = [] ∨ (pre ++ [(x : Int)]).getD ((pre ++ [(x : Int)]).length - 1) 0 = (x : Int) := .inr (by rw [List.length_append, List.length_singleton, Nat.add_sub_cancel]; exact getD_app)
      have ihx := ih x (by omega) f (pre ++ [(x : Int)]) hR2 hpre2 (by omega) (by omega)
      -- the first test
      have t1 : ∀ K : Int × Int × Int × Int × Bool × List Di × List Di × List Di × List Di × List Di × List Di → Option law10_BracketMends_R, (law10_BracketMends_r15 (law10_BracketMends_K d) ((p : Int), id, ((pre.filter (chB W W')).length : Int), (pre.length : Int), true, unI P, unI W, unI P', unI W', unI (R.filter (chB W W')), unI R)).eval K = K ((p : Int), id, ((pre.filter (chB W W')).length : Int), (pre.length : Int), false, unI P, unI W, unI P', unI W', unI (R.filter (chB W W')), unI R) := by
        intro K
        rcases hpre with hn | hn
        · have e5 : decide ((pre.length : Int) > (0 : Int)) = false := decide_eq_false (by rw [hn]; simp)
          simp only [law10_BracketMends_r15, Dt.eval, b1, Int.toNat_natCast, elt_unI, g1, e2, e3, e5, cond_true, cond_false]
        · by_cases h0 : pre.length = 0
          · have e5 : decide ((pre.length : Int) > (0 : Int)) = false := decide_eq_false (by omega)
            simp only [law10_BracketMends_r15, Dt.eval, b1, Int.toNat_natCast, elt_unI, g1, e2, e3, e5, cond_true, cond_false]
          · have e5 : decide ((pre.length : Int) > (0 : Int)) = true := decide_eq_true (by omega)
            have e6 : IntKind.wrap .i64 ((pre.length : Int) - (1 : Int)) = ((pre.length - 1 : Nat) : Int) := by rw [wr64 (by omega) (by omega)]; omega
            have b4 : inB ((pre.length - 1 : Nat) : Int) (unI R).length = true := inB_t (by omega) (by rw [unI_len]; omega)
            have g2 : R.getD (pre.length - 1) 0 = ((i + 1 : Nat) : Int) := by
              rw [← hn, h, List.getD_eq_getElem?_getD, List.getD_eq_getElem?_getD, List.getElem?_append_left (by omega)]
            have e7 : IntKind.wrap .i64 (((i + 1 : Nat) : Int) - (1 : Int)) = (i : Int) := by rw [wr64 (by omega) (by omega)]; omega
            have e8 : IntKind.wrap .i64 (Int.tdiv (i : Int) (2 : Int)) = (x : Int) := by rw [Int.tdiv_eq_ediv_of_nonneg (by omega), wr64 (by omega) (by omega)]; omega
            simp only [law10_BracketMends_r15, Dt.eval, b1, Int.toNat_natCast, elt_unI, g1, e2, e3, e5, e6, b4, g2, e7, e8, show ((2 : Int) == (0 : Int)) = false from rfl, bne_self_eq_false, cond_true, cond_false]
      simp only [law10_BracketMends_L1, law10_BracketMends_r13, Dt.eval, e1, cond_true, t1, cond_false]
      have hf1 : (pre ++ [(x : Int)]).filter (chB W W') = pre.filter (chB W W') ++ (if chB W W' (x : Int) = true then [(x : Int)] else []) := by
        rw [List.filter_append, List.filter_cons, List.filter_nil]
      have hc0 : chB W W' (x : Int) = !decide (W'.getD x 0 = W.getD x 0) := by unfold chB; rw [Int.toNat_natCast]
      by_cases hc : W'.getD x 0 = W.getD x 0
      · rw [hc0, decide_eq_true hc] at hf1
        rw [show (if (!true) = true then [(x : Int)] else []) = [] from rfl, List.append_nil] at hf1
        rw [hf1] at ihx
        simp only [law10_BracketMends_r17, Dt.eval, b1, b2, b3, Int.toNat_natCast, elt_unI, g1, hc, beq_self_eq_true, cond_true, law10_BracketMends_J2, law10_BracketMends_r14, e4]
        exact ihx
      · rw [hc0, decide_eq_false hc] at hf1
        rw [show (if (!false) = true then [(x : Int)] else []) = [(x : Int)] from rfl] at hf1
        rw [hf1, List.length_append, List.length_singleton] at ihx
        have hRf : R.filter (chB W W') = pre.filter (chB W W') ++ (x : Int) :: (wayI x).filter (chB W W') := by rw [hR2, List.filter_append, hf1, List.append_assoc]; rfl
        have hle : (pre.filter (chB W W')).length ≤ pre.length := List.length_filter_le _ _
        have e5 : decide (((pre.filter (chB W W')).length : Int) ≥ ((unI (R.filter (chB W W'))).length : Int)) = false := decide_eq_false (by rw [unI_len, hRf]; simp; omega)
        have b5 : inB ((pre.filter (chB W W')).length : Int) (unI (R.filter (chB W W'))).length = true := inB_t (by omega) (by rw [unI_len, hRf]; simp; omega)
        have g3 : (R.filter (chB W W')).getD (pre.filter (chB W W')).length 0 = (x : Int) := by rw [hRf]; exact getD_app
        have e6 : IntKind.wrap .i64 (((pre.filter (chB W W')).length : Int) + (1 : Int)) = (((pre.filter (chB W W')).length + 1 : Nat) : Int) := by rw [wr64 (by omega) (by omega)]; omega
        simp only [law10_BracketMends_r17, Dt.eval, b1, b2, b3, Int.toNat_natCast, elt_unI, g1, beq_eq_false_iff_ne.2 hc, cond_true, cond_false, law10_BracketMends_r18, e5, b5, g3, bne_self_eq_false, law10_BracketMends_r20, e6, law10_BracketMends_J2, law10_BracketMends_r14, e4]
        exact ihx
end
set_option maxHeartbeats 4000000 in
theorem bmends_plain (d : Nat) (hd : 1001 ≤ d) (hal : F_law10_alive d () = some true) (P W : List Int) (l : List Pt) (n m k id : Int) (hN : i64B n = true) (hD : i64B m = true) (fP : all64B P = true) (hI : i64B id = true) :
    F_law10_BracketMends d ((unI P, unI W, ()), (toPs l, ()), (n, m, ()), (k, ()), (id, ()), ()) = some true := by
  have notfit : F_law10_fit d ((unI P, unI W, ()), (toPs l, ()), (n, m, ()), ()) = some false → F_law10_BracketMends d ((unI P, unI W, ()), (toPs l, ()), (n, m, ()), (k, ()), (id, ()), ()) = some true := fun h => by
    simp only [F_law10_BracketMends, law10_BracketMends_r0, law10_BracketMends_r1, law10_BracketMends_r2, law10_BracketMends_K, Dt.eval, h, hal, Bool.not_false, cond_true]
  have e15 : F_ref03_Great d ((toPs l, ()), ()) = some (great l.length) := by rw [F_ref03_Great_eq _ _ rfl, ptsL_toP]
  have e29 : F_ref10_Great d ((unI P, unI W, ()), ()) = some (greatB P.length W.length) := by rw [F_ref10_Great_eq _ _ rfl]; simp only [idsI_unI]
  cases hb : greatB P.length W.length with
  | true => exact notfit (by simp only [F_law10_fit, law10_fit_r0, law10_fit_r1, law10_fit_K, Dt.eval, e29, hb, Bool.not_true, cond_false])
  | false =>
  cases hg : great l.length with
  | true => exact notfit (by simp only [F_law10_fit, law10_fit_r0, law10_fit_r1, law10_fit_K, Dt.eval, e29, e15, hb, hg, Bool.not_true, Bool.not_false, cond_true, cond_false])
  | false =>
  have l1 := great_le hg
  obtain ⟨l3, l4⟩ := greatB_le hb
  have e44 : F_ref10_Check d ((unI P, unI W, ()), ()) = some (brChk P W) := by
    rw [F_ref10_Check_eq _ _ (by unfold ref10_Check_if; simp only [idsI_unI, Bool.and_eq_true, decide_eq_true_eq]; omega)]; simp only [idsI_unI]
  have e45 : F_ref03_Timed d ((toPs l, ()), (n, m, ()), ()) = some (timed l n m) := by
    rw [F_ref03_Timed_eq _ _ (by unfold ref03_Timed_if; simp only [ptsL_toP, hN, hD, Bool.true_and, Bool.and_true, Bool.and_self, decide_eq_true_eq]; omega)]; simp only [ptsL_toP]
  have e59 : F_ref10_Known d ((toPs l, ()), (unI P, ()), ()) = some (knownB l P) := by
    rw [F_ref10_Known_eq _ _ (by unfold ref10_Known_if; simp only [idsI_unI, ptsL_toP, Bool.and_eq_true, decide_eq_true_eq]; omega)]; simp only [idsI_unI, ptsL_toP]
  by_cases h1 : brChk P W = 0
  case neg => exact notfit (by simp only [F_law10_fit, law10_fit_r0, law10_fit_r1, law10_fit_K, Dt.eval, e29, e15, e44, hb, hg, Bool.not_false, beq_eq_false_iff_ne.2 h1, cond_true, cond_false])
  by_cases h2 : timed l n m = 0
  case neg => exact notfit (by simp only [F_law10_fit, law10_fit_r0, law10_fit_r1, law10_fit_K, Dt.eval, e29, e15, e44, e45, hb, hg, h1, Bool.not_false, beq_self_eq_true, beq_eq_false_iff_ne.2 h2, cond_true, cond_false])
  cases h3 : knownB l P with
  | false => exact notfit (by simp only [F_law10_fit, law10_fit_r0, law10_fit_r1, law10_fit_K, Dt.eval, e29, e15, e44, e45, e59, hb, hg, h1, h2, h3, Bool.not_false, beq_self_eq_true, cond_true, cond_false])
  | true =>
  have fit : F_law10_fit d ((unI P, unI W, ()), (toPs l, ()), (n, m, ()), ()) = some true := by simp only [F_law10_fit, law10_fit_r0, law10_fit_r1, law10_fit_K, Dt.eval, e29, e15, e44, e45, e59, hb, hg, h1, h2, h3, Bool.not_false, beq_self_eq_true, cond_true, cond_false]
  have e31 := bset_eq d l n m P W k id hN hD fP hI (by omega) (by omega)
  have e41 := bright_eq d l n m P W hN hD fP (by omega) (by omega) (by omega)
  rw [brRight_at h1 h2 h3] at e41
  by_cases h4 : (brSet l n m P W k id).2.2.2 = 0
  case neg => simp only [F_law10_BracketMends, law10_BracketMends_r0, law10_BracketMends_r1, law10_BracketMends_r3, law10_BracketMends_r4, law10_BracketMends_r5, law10_BracketMends_r6, law10_BracketMends_K, Dt.eval, fit, e31, e41, hal, ne0_t h4, Bool.not_true, beq_self_eq_true, cond_true, cond_false]
  -- the call succeeds
  obtain ⟨s1, s2, s3⟩ := brChk_zero h1
  obtain ⟨p1, p2, p3, p4⟩ := shape_parts s1
  obtain ⟨f1, _, f3⟩ := fieldChk_zero (timed_zero h2).1
  obtain ⟨p, hp, hkp, k6, k7, hset⟩ : ∃ p : Nat, p < P.length ∧ k = p ∧ knownB l (P.set p id) = true ∧ onceB (P.set p id) = true ∧ brSet l n m P W k id = (P.set p id, (Pel.setR l n m (P.set p id) W (W.length + p) (W, [])).1, (Pel.setR l n m (P.set p id) W (W.length + p) (W, [])).2, 0) := by
    unfold brSet at h4 ⊢
    rw [if_neg (fun h => h h1), if_neg (fun h => h h2)] at h4 ⊢
    split at h4
    · cases h4
    · rename_i hk
      rw [if_neg hk]
      have hk1 : ¬ k < 0 := fun h => hk (.inl h)
      have hk2 : ¬ (P.length : Int) ≤ k := fun h => hk (.inr h)
      split at h4
      · rename_i h6
        split at h4
        · rename_i h7
          rw [if_pos h6, if_pos h7]
          exact ⟨k.toNat, by omega, by omega, h6, h7, rfl⟩
        · cases h4
      · cases h4
  subst hkp
  rw [hset] at e31
  clear hset h4
  obtain ⟨W', hW'⟩ : ∃ W', (Pel.setR l n m (P.set p id) W (W.length + p) (W, [])).1 = W' := ⟨_, rfl⟩
  have hO := setR_told l n m (P.set p id) W (W.length + p) (W, []) (by show _ ≤ 2 * W.length; omega)
  rw [List.nil_append, hW'] at hO
  rw [hW', hO] at e31
  have hl' : W'.length = W.length := by rw [← hW', Pel.setR_len]
  have hchk : brChk (P.set p id) W' = 0 := valid_of (timed_zero h2).1 (by rw [List.length_set]; omega) (by rw [List.length_set]; omega) (by rw [List.length_set, hl']; exact p3) k7 k6 (fun j hj => by rw [← hW']; exact setR_winOk p3 s3 hp j (by omega))
  have e42 := bright_eq d l n m (P.set p id) W' hN hD (all64B_set fP hI p) (by rw [List.length_set]; omega) (by omega) (by omega)
  rw [brRight_at hchk h2 k6] at e42
  have e39 : F_bracket_Path d ((unI P, unI W, ()), ((p : Int), ()), ()) = some (unI (wayI (W.length + p)), 0) := by
    rw [F_bracket_Path_eq _ _ (by unfold bracket_Path_if; simp only [idsI_unI, fP, Bool.and_true, Bool.and_eq_true, decide_eq_true_eq]; omega)]
    simp only [idsI_unI]
    have : brPath P W (p : Int) = (wayI (W.length + p), 0) := by unfold brPath; rw [if_neg (fun h => h h1), if_neg (by omega), Int.toNat_natCast]
    rw [this]
  have hkeep : ∀ j : Nat, (j : Int) ∉ wayI (W.length + p) → W'.getD j 0 = W.getD j 0 := fun j hj => by
    rw [← hW']; exact setR_keep l n m (P.set p id) W (W.length + p) (W, []) j hj (by show _ ≤ 2 * W.length; omega)
  have hdeep : (wayI (W.length + p)).length ≤ 6 := wayI_deep 6 _ (by omega)
  have hfine : fineB l n m P W = true → fineB l n m (P.set p id) W' = true := fun h => by
    rw [fineB_iff] at h ⊢
    intro j hj
    rw [← hW']
    exact setR_fine l n m (P.set p id) W (W.length + p) (W, []) (fineBut_start hp h) (by show _ ≤ 2 * W.length; omega) j (by show j < W.length; omega)
  have c1 : (((unI W').length : Int) != ((unI W).length : Int)) = false := by rw [unI_len, unI_len, hl']; exact bne_self_eq_false ..
  have c2 : (((unI (P.set p id)).length : Int) != ((unI P).length : Int)) = false := by rw [unI_len, unI_len, List.length_set]; exact bne_self_eq_false ..
  have c3 : decide (((unI (wayI (W.length + p))).length : Int) > (6 : Int)) = false := decide_eq_false (by rw [unI_len]; omega)
  have t9 : ∀ K : Int × Int × Bool × List Di × List Di × List Di × List Di × List Di × List Di → Option law10_BracketMends_R, (law10_BracketMends_r9 (law10_BracketMends_K d) ((p : Int), id, fineB l n m P W, 0, fineB l n m (P.set p id) W', 0, unI P, unI W, unI (P.set p id), unI W', unI ((wayI (W.length + p)).filter (chB W W')), unI (wayI (W.length + p)))).eval K = K ((p : Int), id, false, unI P, unI W, unI (P.set p id), unI W', unI ((wayI (W.length + p)).filter (chB W W')), unI (wayI (W.length + p))) := by
    intro K
    cases hq : fineB l n m P W with
    | false => simp only [law10_BracketMends_r9, Dt.eval, bne_self_eq_false, c1, c2, c3, cond_true, cond_false]
    | true =>
      rw [hfine hq]
      simp only [law10_BracketMends_r9, Dt.eval, bne_self_eq_false, c1, c2, c3, Bool.not_true, cond_true, cond_false]
  have hl1 := bm_l1 d id P W (P.set p id) W' hal hd (wayI (W.length + p)) p (by rw [List.length_set]; exact hp) (by rw [getD_set hp, if_pos rfl]) hl' (by omega) (by omega) hkeep (W.length + p) d [] rfl (.inl rfl) (by omega) (by omega)
  simp only [F_law10_BracketMends, law10_BracketMends_r0, law10_BracketMends_r1, law10_BracketMends_r3, law10_BracketMends_r4, law10_BracketMends_r5, law10_BracketMends_r7, law10_BracketMends_r8, law10_BracketMends_K, Dt.eval, fit, e31, e41, e42, e39, bne_self_eq_false, Bool.not_true, cond_true, cond_false]
  have t9' := t9 fun y => bif y.2.2.1 then (law10_BracketMends_r10 (law10_BracketMends_K d) y).eval fun y10 => some y10 else (law10_BracketMends_r11 (law10_BracketMends_K d) y).eval fun y11 => (law10_BracketMends_r12 (law10_BracketMends_K d) y11).eval fun y12 => iter (law10_BracketMends_L1 d) d y12
  refine t9'.trans ?_
  simp only [law10_BracketMends_r11, law10_BracketMends_r12, Dt.eval, cond_false]
  exact hl1
theorem bmends_walk (D : Option Addr) (f : Nat) (P : List Int) (E : Option Addr) (g : Nat) (W : List Int) (A : Option Addr) (c : Nat) (l : List Pt) (n m k id : Int) (w : World)
    (h2 : Sl w 1 D P.length f (vi P)) (n2 : D = none → f = 0) (f2 : ∀ i ∈ P, wf64 i) (h3 : Sl w 1 E W.length g (vi W)) (n3 : E = none → g = 0) (hs : Sl w 3 A l.length c (vp l)) (hn : A = none → c = 0) (hN : -9223372036854775808 ≤ n ∧ n ≤ 9223372036854775807) (hD : -9223372036854775808 ≤ m ∧ m ≤ 9223372036854775807) (hI : -9223372036854775808 ≤ id ∧ id ≤ 9223372036854775807) :
    Calls Try.prog 8 #[.agg #[.slice D P.length f, .slice E W.length g], .agg #[.slice A l.length c], .agg #[.int .i64 n, .int .i64 m], .int .i64 k, .int .i64 id] w fun e w' => e = .returned (.bool true) ∧ ∃ x, w' = ext w x :=
  law_of (law10_BracketMends_cok 1001) (bmends_plain 1001 (Nat.le_refl _) alive10_eq P W l n m k id (i64B_of hN) (i64B_of hD) (all64B_of f2) (i64B_of hI)) rfl w
    (VRs.cons (sl_brk h2 h3 n2 n3) (VRs.cons (sl_fld hs hn) (VRs.cons (sl_rat n m) (VRs.cons (.int _ _) (VRs.cons (.int _ _) VRs.nil)))))
set_option maxRecDepth 100000 in
theorem bracketMends_lifted (os : Os) (started : os.Started) (H : Type) (enc : TypeId × Value → H) :
    ReturnsInHanded {} Try.checked os 8 .any (Rows.bracketMendsSpec.pre6 enc Try.prog Try.f8 Rows.bracketMendsRow.domain false) (Rows.bracketMendsSpec.post enc Try.prog Try.f8 false true false false) := by
  refine returnsInHanded_of_change (C := Try.checked) ownKnob_ started (by kernel_rfl) Try.func8
    (ChangeSpec.witness6 (enc := enc) (C := Try.checked) false ⟨#[], #[.agg #[.slice none 0 0, .slice none 0 0], .agg #[.slice none 0 0], .agg #[.int .i64 0, .int .i64 0], .int .i64 0, .int .i64 0], []⟩ 8 (by kernel_rfl) (by kernel_rfl) (by kernel_rfl) (by kernel_rfl)) ?_
  intro W base args ds gs before hval0 hW hcnd _
  have hval : ∀ (j : Nat) t v, Try.f8.params[j]? = some t → args[j]? = some v → Value.okWide Try.prog W .any base t v := hval0
  have hW' := hW
  obtain ⟨p, q, hA0, hV, rfl, hfz, hnd⟩ := hW
  have hA : DataW.TrodAll enc Try.prog W 0 (fun _ => true) true Try.f8.params.toList args.toList ds p := hA0
  rw [Try.params8] at hA hval
  obtain ⟨v0, vs0, d0, ds0, p0, q0, hargs, rfl, rfl, h0, r0⟩ := trodAll_cons hA
  obtain ⟨v1, vs1, d1, ds1, p1, q1, rfl, rfl, rfl, h1, r1⟩ := trodAll_cons r0
  obtain ⟨v2, vs2, d2, ds2, p2, q2, rfl, rfl, rfl, h2, r2⟩ := trodAll_cons r1
  obtain ⟨v3, vs3, d3, ds3, p3, q3, rfl, rfl, rfl, h3, r3⟩ := trodAll_cons r2
  obtain ⟨v4, vs4, d4, ds4, p4, q4, rfl, rfl, rfl, h4, r4⟩ := trodAll_cons r3
  obtain ⟨rfl, rfl, rfl⟩ := trodAll_nil r4
  obtain rfl : args = #[v0, v1, v2, v3, v4] := by cases args; simp_all
  obtain ⟨rfl, rfl⟩ := trodVars_none hV
  have k0_ := h0
  have lt0 : ∀ x ∈ p0, x.block < W.heap.size := by obtain ⟨m, hm⟩ := k0_; exact DataW.trod_lt m _ _ _ hm
  have k1_ := h1
  have lt1 : ∀ x ∈ p1, x.block < W.heap.size := by obtain ⟨m, hm⟩ := k1_; exact DataW.trod_lt m _ _ _ hm
  have k2_ := h2
  have lt2 : ∀ x ∈ p2, x.block < W.heap.size := by obtain ⟨m, hm⟩ := k2_; exact DataW.trod_lt m _ _ _ hm
  have k3_ := h3
  have lt3 : ∀ x ∈ p3, x.block < W.heap.size := by obtain ⟨m, hm⟩ := k3_; exact DataW.trod_lt m _ _ _ hm
  have k4_ := h4
  have lt4 : ∀ x ∈ p4, x.block < W.heap.size := by obtain ⟨m, hm⟩ := k4_; exact DataW.trod_lt m _ _ _ hm
  obtain ⟨cs0, rfl, hsz0⟩ := okWide_struct Try.underlying47 (hval 0 47 v0 rfl rfl)
  obtain ⟨l0⟩ := cs0
  obtain ⟨fuel0, hf0⟩ := h0
  obtain ⟨A0, c0, P0, B0, d0, W0, rfl, hsl0, hnil0, hfit0, hsw0, hnw0, hfw0⟩ := bracket_cells hf0 (by rw [cellsB_bracket] at hsz0; exact hsz0)
  obtain ⟨cs1, rfl, hsz1⟩ := okWide_struct Try.underlying24 (hval 1 24 v1 rfl rfl)
  obtain ⟨l1⟩ := cs1
  obtain ⟨fuel1, hf1⟩ := h1
  obtain ⟨A1, c1, l1, rfl, hsl1, hnil1, hfit1⟩ := field_cells hf1 (by rw [cellsF_field] at hsz1; exact hsz1)
  obtain ⟨cs2, rfl, hsz2⟩ := okWide_struct Try.underlying49 (hval 2 49 v2 rfl rfl)
  obtain ⟨l2⟩ := cs2
  obtain ⟨fuel2, hf2⟩ := h2
  obtain ⟨n2, d2, rfl, hfitn2, hfitd2⟩ := ratio_cells hf2 (by rw [cellsF_ratio] at hsz2; exact hsz2)
  have hw3 := hval 3 3 v3 rfl rfl
  obtain ⟨i3, rfl⟩ := okWide_int Try.underlying3 hw3
  have hw4 := hval 4 3 v4 rfl rfl
  obtain ⟨i4, rfl⟩ := okWide_int Try.underlying3 hw4
  clear hA0 hval0
  refine (bmends_walk A0 c0 P0 B0 d0 W0 A1 c1 l1 n2 d2 i3 i4 _ hsl0 hnil0 hfit0 hsw0 hnw0 hsl1 hnil1 hfitn2 hfitd2 (okWide_rng Try.underlying3 hw4)).mono fun e W' ⟨he, hx⟩ => ?_
  have bel : Below W.heap.size W W' := (bel_of hx).toBelow
  subst he
  exact ⟨_, rfl, _, _, _, [], _, [], hW', trodAll_mk1 (shut_bool Try.underlying4 _), (trodAll_cons_mk (Below.trod laidOut_ (by kernel_rfl) (of_decide_eq_true (by kernel_rfl)) k0_ bel lt0) (trodAll_cons_mk (Below.trod laidOut_ (by kernel_rfl) (of_decide_eq_true (by kernel_rfl)) k1_ bel lt1) (trodAll_cons_mk (Below.trod laidOut_ (by kernel_rfl) (of_decide_eq_true (by kernel_rfl)) k2_ bel lt2) (trodAll_cons_mk (Below.trod laidOut_ (by kernel_rfl) (of_decide_eq_true (by kernel_rfl)) k3_ bel lt3) (trodAll_cons_mk (Below.trod laidOut_ (by kernel_rfl) (of_decide_eq_true (by kernel_rfl)) k4_ bel lt4) trodAll_mk0))))), rfl, bel.frame _, fun h => by cases h⟩
theorem bracketMends_over : Rows.bracketMendsRow.holds Try.pinned (OpenSpec.ofChange Rows.bracketMendsSpec) :=
  OpenClaim.holds_of_wide 8 Try.f8 rfl rfl rfl rfl rfl rfl rfl ⟨rfl, rfl, rfl, rfl, rfl⟩ rfl rfl rfl rfl rfl (by kernel_rfl) Try.func8 (by kernel_rfl)
    (of_decide_eq_true (by kernel_rfl)) (by unfold Func.isWrapper; rw [if_neg (of_decide_eq_false (by kernel_rfl))]; exact ⟨rfl, rfl⟩)
    (fun os started H enc _ => bracketMends_lifted os started H enc)
/-- The statement. -/
theorem bracketMends_holds : Rows.BracketMendsSaid := bracketMends_over
end Go.Proofs.Ytkcpnclgcmnlcaa
