/- Walks of the references; the orders agree; examples. -/
import Derived.Test.YtdpnndpbbdhnmaaGj
set_option linter.unusedSimpArgs false
set_option linter.unusedVariables false
namespace Go.Pel
open Go Go.Tx
/-- what stands in the reigns of a list of leads -/
theorem reiL_str {t u : Int} : ∀ (x : T3) (r : List T3) (i : Nat) (w : T5), (reiL t u x r)[i]? = some w → ∃ y, (x :: r)[i]? = some y ∧ w.1 = y.1 ∧ w.2.1 = y.2.1 ∧ w.2.2.2.2.1 = y.2.2.1 ∧
    ((i + 1 = (reiL t u x r).length ∧ w.2.2.1 = t ∧ w.2.2.2.1 = u ∧ ∀ y', (x :: r)[i + 1]? = some y' → ¬ y'.1 * u < t * y'.2.1) ∨
     (i + 1 < (reiL t u x r).length ∧ ∃ y', (x :: r)[i + 1]? = some y' ∧ w.2.2.1 = y'.1 ∧ w.2.2.2.1 = y'.2.1 ∧ y'.1 * u < t * y'.2.1))
  | x, [], i, w, h => by
    unfold reiL at h
    cases i with
    | zero =>
      simp only [List.getElem?_cons_zero, Option.some.injEq] at h
      subst h
      exact ⟨x, rfl, rfl, rfl, rfl, .inl ⟨rfl, rfl, rfl, fun y' h => by cases h⟩⟩
    | succ i => simp at h
  | x, y :: r, i, w, h => by
    unfold reiL at h ⊢
    by_cases hl : y.1 * u < t * y.2.1
    · rw [if_pos hl] at h ⊢
      cases i with
      | zero =>
        simp only [List.getElem?_cons_zero, Option.some.injEq] at h
        subst h
        have hpos : 0 < (reiL t u y r).length := by
          cases r with
          | nil => simp [reiL]
          | cons z r => unfold reiL; split <;> simp
        refine ⟨x, rfl, rfl, rfl, rfl, .inr ⟨by rw [List.length_cons]; omega, y, rfl, rfl, rfl, hl⟩⟩
      | succ i =>
        rw [List.getElem?_cons_succ] at h
        obtain ⟨z, h1, h2, h3, h4, h5⟩ := reiL_str y r i w h
        refine ⟨z, h1, h2, h3, h4, ?_⟩
        rcases h5 with ⟨k1, k2, k3, k4⟩ | ⟨k1, y', k2, k3⟩
        · exact .inl ⟨by rw [List.length_cons]; omega, k2, k3, k4⟩
        · exact .inr ⟨by rw [List.length_cons]; omega, y', k2, k3⟩
    · rw [if_neg hl] at h ⊢
      cases i with
      | zero =>
        simp only [List.getElem?_cons_zero, Option.some.injEq] at h
        subst h
        refine ⟨x, rfl, rfl, rfl, rfl, .inl ⟨rfl, rfl, rfl, fun y' h => ?_⟩⟩
        simp only [List.getElem?_cons_succ, List.getElem?_cons_zero, Option.some.injEq] at h
        subst h; exact hl
      | succ i => simp at h
end Go.Pel
namespace Go.Proofs.Ytdpnndpbbdhnmaa
open Go Go.Tx Go.Pel
end Go.Proofs.Ytdpnndpbbdhnmaa
