/- Walks of the references; the orders agree; examples. -/
import Derived.Test.YtdpnndpbbdhnmaaGg
set_option linter.unusedSimpArgs false
set_option linter.unusedVariables false
namespace Go.Pel
open Go Go.RowKit
end Go.Pel

namespace Go.Pel
open Go Go.Tx
/-- the first meeting among the first i points -/
def NxtI (l : List T3) (p : T3) (i : Nat) (is : Bool) (n dd : Int) : Prop :=
  (is = false ∧ ∀ k q, k < i → l[k]? = some q → ¬ p.2.2.1 < q.2.2.1) ∨
  (is = true ∧ (∃ j b m, j < i ∧ l[j]? = some b ∧ p.2.2.1 < b.2.2.1 ∧ mtP (p, b) = some m ∧ m.1 = n ∧ m.2.1 = dd) ∧ ∀ k q m', k < i → l[k]? = some q → p.2.2.1 < q.2.2.1 → mtP (p, q) = some m' → ¬ m'.1 * dd < n * m'.2.1)
theorem NxtI.skip {l : List T3} {p : T3} {i : Nat} {is : Bool} {n dd : Int} (h : NxtI l p i is n dd) {q : T3} (hq : l[i]? = some q) (hs : ¬ p.2.2.1 < q.2.2.1) : NxtI l p (i + 1) is n dd := by
  rcases h with ⟨h1, h2⟩ | ⟨h1, ⟨j, b, m, h3, h4, h5⟩, h6⟩
  · refine .inl ⟨h1, fun k x hk hx => ?_⟩
    rcases (by omega : k < i ∨ k = i) with k' | rfl
    · exact h2 k x k' hx
    · rw [hq] at hx; injection hx with hx; subst hx; exact hs
  · refine .inr ⟨h1, ⟨j, b, m, by omega, h4, h5⟩, fun k x m' hk hx hf hm' => ?_⟩
    rcases (by omega : k < i ∨ k = i) with k' | rfl
    · exact h6 k x m' k' hx hf hm'
    · rw [hq] at hx; injection hx with hx; subst hx; exact absurd hf hs
theorem NxtI.take {l : List T3} (h : FldOk l) {p : T3} (hp : p ∈ l) {i : Nat} {is : Bool} {n dd : Int} (hN : NxtI l p i is n dd) {q : T3} (hq : l[i]? = some q) (hf : p.2.2.1 < q.2.2.1) {m : M4} (hm : mtP (p, q) = some m) (hR : is = false ∨ m.1 * dd < n * m.2.1) : NxtI l p (i + 1) true m.1 m.2.1 := by
  have hpo := h.ok p hp
  have g1 := (mtP_eq (x := (p, q)) hpo (h.ok q (List.mem_of_getElem? hq)) hm).2.1
  have o1 := (ratioChk_zero g1).1
  refine .inr ⟨rfl, ⟨i, q, m, by omega, hq, hf, hm, rfl, rfl⟩, fun k x m' hk hx hfx hm' => ?_⟩
  rcases (by omega : k < i ∨ k = i) with k' | rfl
  · rcases hN with ⟨_, h2⟩ | ⟨h1, ⟨j, b, mb, _, hb, _, hmb, rfl, rfl⟩, h6⟩
    · exact absurd hfx (h2 k x k' hx)
    · rcases hR with hR | hR
      · rw [h1] at hR; cases hR
      · have oX := (ratioChk_zero (mtP_eq (x := (p, x)) hpo (h.ok x (List.mem_of_getElem? hx)) hm').2.1).1
        have oB := (ratioChk_zero (mtP_eq (x := (p, b)) hpo (h.ok b (List.mem_of_getElem? hb)) hmb).2.1).1
        intro k1
        have : m'.1 * mb.2.1 < mb.1 * m'.2.1 := q_lt oX o1 oB k1 (Int.le_of_lt hR)
        exact h6 k x m' k' hx hfx hm' this
  · rw [hq] at hx; injection hx with hx; subst hx
    rw [hm] at hm'; injection hm' with hm'; subst hm'
    omega
theorem NxtI.keep {l : List T3} {p : T3} {i : Nat} {n dd : Int} (hN : NxtI l p i true n dd) {q : T3} (hq : l[i]? = some q) {m : M4} (hm : mtP (p, q) = some m) (hR : ¬ m.1 * dd < n * m.2.1) : NxtI l p (i + 1) true n dd := by
  rcases hN with ⟨h1, _⟩ | ⟨_, ⟨j, b, mb, h3, h4⟩, h6⟩
  · cases h1
  · refine .inr ⟨rfl, ⟨j, b, mb, by omega, h4⟩, fun k x m' hk hx hfx hm' => ?_⟩
    rcases (by omega : k < i ∨ k = i) with k' | rfl
    · exact h6 k x m' k' hx hfx hm'
    · rw [hq] at hx; injection hx with hx; subst hx
      rw [hm] at hm'; injection hm' with hm'; subst hm'
      exact hR
theorem NxtI.no {l : List T3} {p : T3} {n dd : Int} (h : NxtI l p l.length false n dd) : NoFast l p := by
  rcases h with ⟨_, h2⟩ | ⟨h1, _⟩
  · intro q hq
    obtain ⟨k, hk⟩ := List.mem_iff_getElem?.1 hq
    exact h2 k q (List.getElem?_eq_some_iff.1 hk).1 hk
  · cases h1
end Go.Pel
namespace Go.Proofs.Ytdpnndpbbdhnmaa
open Go Go.Tx Go.Pel
end Go.Proofs.Ytdpnndpbbdhnmaa
