/- Walks of the references; the orders agree; examples. -/
import Derived.Test.YtdpnndpbbdhnmaaGi
set_option linter.unusedSimpArgs false
set_option linter.unusedVariables false
namespace Go.Pel
open Go Go.Tx
/-- the last reign -/
theorem reiL_last {t u : Int} : ∀ (x : T3) (r : List T3), ∃ (k : Nat) (z : T3) (w : T5), (x :: r)[k]? = some z ∧ (reiL t u x r).length = k + 1 ∧ (reiL t u x r)[k]? = some w ∧ w.2.2.2.2.1 = z.2.2.1 ∧ (∀ j y, 1 ≤ j → j ≤ k → (x :: r)[j]? = some y → y.1 * u < t * y.2.1) ∧ (∀ y, (x :: r)[k + 1]? = some y → ¬ y.1 * u < t * y.2.1)
  | x, [] => ⟨0, x, _, rfl, rfl, rfl, rfl, fun j y h1 h2 => by omega, fun y h => by cases h⟩
  | x, y :: r => by
    unfold reiL
    by_cases hl : y.1 * u < t * y.2.1
    · rw [if_pos hl]
      obtain ⟨k, z, w, h1, h2, h3, h4, h5, h6⟩ := reiL_last (t := t) (u := u) y r
      refine ⟨k + 1, z, w, h1, by rw [List.length_cons, h2], h3, h4, fun j v hj1 hj2 hv => ?_, h6⟩
      cases j with
      | zero => omega
      | succ j =>
        rw [List.getElem?_cons_succ] at hv
        cases j with
        | zero => simp only [List.getElem?_cons_zero, Option.some.injEq] at hv; subst hv; exact hl
        | succ j => exact h5 (j + 1) v (by omega) (by omega) hv
    · rw [if_neg hl]
      refine ⟨0, x, _, rfl, rfl, rfl, rfl, fun j v h1 h2 => by omega, fun v hv => ?_⟩
      simp only [List.getElem?_cons_succ, List.getElem?_cons_zero, Option.some.injEq] at hv
      subst hv; exact hl
end Go.Pel
namespace Go.Proofs.Ytdpnndpbbdhnmaa
open Go Go.Tx Go.Pel
/-- a valid field with points, and two valid times in order, that the laws look at -/
def fineC (l : List T3) (n dd t u : Int) : Bool := !great l.length && decide (0 < l.length) && (chk2 l n dd t u == 0)
theorem fine_eq (d : Nat) (l : List T3) {n dd t u : Int} (hn : i64B n = true) (hd : i64B dd = true) (ht : i64B t = true) (hu : i64B u = true) : F_law24_fine d ((l, ()), (n, dd, ()), (t, u, ()), ()) = some (fineC l n dd t u) := by
  have e1 := great3_eq d l
  have e2 := asked_eq d l hn hd ht hu
  unfold fineC
  simp only [F_law24_fine, law24_fine_K, law24_fine_r0, law24_fine_r1, Dt.eval, e1]
  cases hg : great l.length with
  | true => rfl
  | false =>
    by_cases h1 : 0 < l.length
    · simp only [Bool.not_false, cond_true, show decide ((l.length : Int) > 0) = true by rw [decide_eq_true_eq]; omega, e2, Dt.eval, h1, decide_true, Bool.true_and]
    · simp only [Bool.not_false, cond_true, show decide ((l.length : Int) > 0) = false by rw [decide_eq_false_iff_not]; omega, cond_false, h1, decide_false, Bool.true_and, Bool.false_and]
theorem fineC_iff {l : List T3} {n dd t u : Int} (h : fineC l n dd t u = true) : l ≠ [] ∧ chk2 l n dd t u = 0 := by
  unfold fineC at h
  simp only [Bool.and_eq_true, decide_eq_true_eq, beq_iff_eq] at h
  obtain ⟨⟨_, h1⟩, h3⟩ := h
  exact ⟨by intro e; rw [e] at h1; simp at h1, h3⟩
end Go.Proofs.Ytdpnndpbbdhnmaa
