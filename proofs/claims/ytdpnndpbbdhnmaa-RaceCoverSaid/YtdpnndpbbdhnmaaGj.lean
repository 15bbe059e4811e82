/- Walks of the references; the orders agree; examples. -/
import Derived.Test.YtdpnndpbbdhnmaaGi
set_option linter.unusedSimpArgs false
set_option linter.unusedVariables false
namespace Go.Pel
open Go Go.Tx
/-- the last reign -/
theorem reiL_last {t u : Int} : ∀ (x : T3) (r : List T3), ∃ (k : Nat) (z : T3) (w : T5), (x :: r)[k]? = some z ∧ (reiL t u x r).length = k + 1 ∧ (reiL t u x r)[k]? = some w ∧ w.2.2.2.2.1 = z.2.2.1 ∧ (∀ j y, 1 ≤ j → j ≤ k → (x :: r)[j]? = some y → y.1 * u < t * y.2.1) ∧ (∀ y, (x :: r)[k + 1]? = some y → ¬ y.1 * u < t * y.2.1)
  | x, [] => ⟨0, x, _, rfl, rfl, rfl, rfl, fun j y h1 h2 => by omega, fun y h => by cases h⟩
  | x, y :: r => by
    unfold reiL
    by_cases hl : y.1 * u < t * y.2.1
    · rw [if_pos hl]
      obtain ⟨k, z, w, h1, h2, h3, h4, h5, h6⟩ := reiL_last (t := t) (u := u) y r
      refine ⟨k + 1, z, w, h1, by rw [List.length_cons, h2], h3, h4, fun j v hj1 hj2 hv => ?_, h6⟩
      cases j with
      | zero => omega
      | succ j =>
        rw [List.getElem?_cons_succ] at hv
        cases j with
        | zero => simp only [List.getElem?_cons_zero, Option.some.injEq] at hv; subst hv; exact hl
        | succ j => exact h5 (j + 1) v (by omega) (by omega) hv
    · rw [if_neg hl]
      refine ⟨0, x, _, rfl, rfl, rfl, rfl, fun j v h1 h2 => by omega, fun v hv => ?_⟩
      simp only [List.getElem?_cons_succ, List.getElem?_cons_zero, Option.some.injEq] at hv
      subst hv; exact hl
/-- as many reigns as leads until a time; one less if the lead changes then -/
theorem reiL_idx {t u : Int} (hu : 1 ≤ u) {x : T3} {r : List T3} (hc : chkR none (x :: r) = true) (hx : gtL t u x = false) {k : Nat} {z : T3} (hz : (x :: r)[k]? = some z) (h5 : ∀ j y, 1 ≤ j → j ≤ k → (x :: r)[j]? = some y → y.1 * u < t * y.2.1) (h6 : ∀ y, (x :: r)[k + 1]? = some y → ¬ y.1 * u < t * y.2.1) :
    (idxL t u (x :: r) = k + 1) ∨ (idxL t u (x :: r) = k + 2 ∧ ∃ y, (x :: r)[k + 1]? = some y ∧ z.2.2.1 ≠ y.2.2.1) := by
  obtain ⟨k1, k2, _⟩ := chkR_pw hc
  have hlow : ∀ j y, j < k + 1 → (x :: r)[j]? = some y → gtL t u y = false := fun j y hj hy => by
    cases j with
    | zero => simp only [List.getElem?_cons_zero, Option.some.injEq] at hy; subst hy; exact hx
    | succ j =>
      have := h5 (j + 1) y (by omega) (by omega) hy
      cases hg : gtL t u y with
      | false => rfl
      | true => have := (gtL_iff ..).1 hg; omega
  have hkl := (List.getElem?_eq_some_iff.1 hz).1
  cases hy : (x :: r)[k + 1]? with
  | none =>
    refine .inl (idxL_only (by omega) hlow fun y hy' => ?_)
    rw [hy] at hy'; cases hy'
  | some y =>
    have hyl := (List.getElem?_eq_some_iff.1 hy).1
    cases hg : gtL t u y with
    | true =>
      refine .inl (idxL_only (by omega) hlow fun y' hy' => ?_)
      rw [hy] at hy'; injection hy' with hy'; subst hy'; exact hg
    | false =>
      refine .inr ⟨idxL_only (by omega) (fun j v hj hv => ?_) (fun v hv => ?_), y, rfl, ?_⟩
      · rcases (by omega : j < k + 1 ∨ j = k + 1) with e | e
        · exact hlow j v e hv
        · subst e; rw [hy] at hv; injection hv with hv; subst hv; exact hg
      · have hn := h6 y hy
        obtain ⟨h1, e1⟩ := List.getElem?_eq_some_iff.1 hy
        obtain ⟨h2, e2⟩ := List.getElem?_eq_some_iff.1 hv
        have hlt := (List.pairwise_iff_getElem.1 k2) (k + 1) (k + 2) h1 h2 (by omega)
        rw [e1, e2] at hlt
        have hng : ¬ t * y.2.1 < y.1 * u := fun q => by rw [(gtL_iff t u y).2 q] at hg; cases hg
        have o2 := (ratioChk_zero (okL_iff.1 (k1 y (List.mem_of_getElem? hy))).1).1
        have o3 := (ratioChk_zero (okL_iff.1 (k1 v (List.mem_of_getElem? hv))).1).1
        rw [gtL_iff]
        exact q_lt' (b := y.1) hu o2 o3 (by omega) hlt
      · exact nx_at hc hz hy
where
  nx_at {x : T3} {r : List T3} (hc : chkR none (x :: r) = true) {k : Nat} {z y : T3} (hz : (x :: r)[k]? = some z) (hy : (x :: r)[k + 1]? = some y) : z.2.2.1 ≠ y.2.2.1 := by
    have gen : ∀ (o : Option T3) (l : List T3) (k : Nat), chkR o l = true → l[k]? = some z → l[k + 1]? = some y → nxB z y = true := by
      intro o l
      induction l generalizing o with
      | nil => intro k _ h; cases h
      | cons v l ih =>
        intro k h h1 h2
        unfold chkR at h
        simp only [Bool.and_eq_true] at h
        cases k with
        | zero =>
          simp only [List.getElem?_cons_zero, Option.some.injEq] at h1
          subst h1
          cases l with
          | nil => simp at h2
          | cons v' l' =>
            simp only [Nat.zero_add, List.getElem?_cons_succ, List.getElem?_cons_zero, Option.some.injEq] at h2
            subst h2
            have h3 := h.2
            unfold chkR at h3
            simp only [Bool.and_eq_true] at h3
            exact h3.1.2
        | succ k =>
          rw [List.getElem?_cons_succ] at h1 h2
          exact ih _ k h.2 h1 h2
    exact (nxB_iff.1 (gen none _ k hc hz hy)).2
end Go.Pel
namespace Go.Proofs.Ytdpnndpbbdhnmaa
open Go Go.Tx Go.Pel
/-- a valid field with points, and two valid times in order, that the laws look at -/
def fineC (l : List T3) (n dd t u : Int) : Bool := !great l.length && decide (0 < l.length) && (chk2 l n dd t u == 0)
theorem fine_eq (d : Nat) (l : List T3) {n dd t u : Int} (hn : i64B n = true) (hd : i64B dd = true) (ht : i64B t = true) (hu : i64B u = true) : F_law24_fine d ((l, ()), (n, dd, ()), (t, u, ()), ()) = some (fineC l n dd t u) := by
  have e1 := great3_eq d l
  have e2 := asked_eq d l hn hd ht hu
  unfold fineC
  simp only [F_law24_fine, law24_fine_K, law24_fine_r0, law24_fine_r1, Dt.eval, e1]
  cases hg : great l.length with
  | true => rfl
  | false =>
    by_cases h1 : 0 < l.length
    · simp only [Bool.not_false, cond_true, show decide ((l.length : Int) > 0) = true by rw [decide_eq_true_eq]; omega, e2, Dt.eval, h1, decide_true, Bool.true_and]
    · simp only [Bool.not_false, cond_true, show decide ((l.length : Int) > 0) = false by rw [decide_eq_false_iff_not]; omega, cond_false, h1, decide_false, Bool.true_and, Bool.false_and]
theorem fineC_iff {l : List T3} {n dd t u : Int} (h : fineC l n dd t u = true) : l ≠ [] ∧ chk2 l n dd t u = 0 := by
  unfold fineC at h
  simp only [Bool.and_eq_true, decide_eq_true_eq, beq_iff_eq] at h
  obtain ⟨⟨_, h1⟩, h3⟩ := h
  exact ⟨by intro e; rw [e] at h1; simp at h1, h3⟩
theorem cast_s (k : Nat) : ((k + 1 : Nat) : Int) = (k : Int) + 1 := by omega
theorem wrap_pred {k : Nat} (h : k < 1000000) : IntKind.wrap .i64 ((k : Int) + 1 - 1) = ((k : Nat) : Int) := by rw [IntWalk.i64_in _ (by omega)]; omega
theorem alive24 : F_law24_alive 5000 () = some true := by kernel_rfl
end Go.Proofs.Ytdpnndpbbdhnmaa
