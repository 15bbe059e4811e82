/- Lists of structs as cells. -/
import Derived.Test.YtkcpnclgcmnlcaaMem3
set_option linter.unusedSimpArgs false
set_option linter.unusedVariables false
namespace Go
open RowKit
section
variable {α : Type} {cells : α → List Value} {k : Nat}
theorem fl_len (hk : ∀ a, (cells a).length = k) (l : List α) : (l.flatMap cells).length = l.length * k := by
  induction l with
  | nil => simp
  | cons x l ih => rw [List.flatMap_cons, List.length_append, ih, hk, List.length_cons, Nat.add_mul]; omega
theorem fl_at (hk : ∀ a, (cells a).length = k) {l : List α} {i : Nat} {x : α} (h : l[i]? = some x) (j : Nat) (hj : j < k) : (l.flatMap cells)[i * k + j]? = (cells x)[j]? := by
  induction l generalizing i with
  | nil => simp at h
  | cons y l ih =>
    rw [List.flatMap_cons]
    cases i with
    | zero =>
      simp only [List.getElem?_cons_zero, Option.some.injEq] at h
      subst h
      rw [Nat.zero_mul, Nat.zero_add, List.getElem?_append_left (by rw [hk]; exact hj)]
    | succ i =>
      rw [List.getElem?_append_right (by rw [hk, Nat.add_mul]; omega), hk]
      have e : (i + 1) * k + j - k = i * k + j := by rw [Nat.add_mul]; omega
      rw [e]; exact ih (by simpa using h)
theorem fl_take (hk : ∀ a, (cells a).length = k) (l : List α) (n : Nat) : (l.flatMap cells).take (n * k) = (l.take n).flatMap cells := by
  induction l generalizing n with
  | nil => simp
  | cons x l ih =>
    cases n with
    | zero => simp
    | succ n =>
      rw [List.flatMap_cons, List.take_succ_cons, List.flatMap_cons, List.take_append]
      rw [hk, List.take_of_length_le (by rw [hk, Nat.add_mul]; omega), show (n + 1) * k - k = n * k by rw [Nat.add_mul]; omega, ih]
theorem fl_drop (hk : ∀ a, (cells a).length = k) (l : List α) (n : Nat) : (l.flatMap cells).drop (n * k) = (l.drop n).flatMap cells := by
  induction l generalizing n with
  | nil => simp
  | cons x l ih =>
    cases n with
    | zero => simp
    | succ n =>
      rw [List.flatMap_cons, List.drop_succ_cons, List.drop_append, hk, List.drop_of_length_le (by rw [hk, Nat.add_mul]; omega), show (n + 1) * k - k = n * k by rw [Nat.add_mul]; omega, ih]
      simp
theorem fl_snoc (l : List α) (x : α) : (l ++ [x]).flatMap cells = l.flatMap cells ++ cells x := by simp
theorem fl_one (h : ∀ a, ∀ u ∈ cells a, u.oneCell' = true) (l : List α) : ∀ u ∈ l.flatMap cells, u.oneCell' = true := by
  intro u hu
  obtain ⟨x, _, hx⟩ := List.mem_flatMap.1 hu
  exact h x u hx
/-- an element's cell in a slice -/
theorem fl_cell {w : World} {b o n c i : Nat} {l : List α} {x : α} (hk : ∀ a, (cells a).length = k) (h : Sl w k (some ⟨b, o, none⟩) n c (l.flatMap cells)) (hx : l[i]? = some x) {j : Nat} {u : Value} (hj : (cells x)[j]? = some u) : w.cell? ⟨b, o + i * k + j, none⟩ = some u := by
  have hjk : j < k := by rw [← hk x]; exact (List.getElem?_eq_some_iff.1 hj).1
  have := h.cell (j := i * k + j) (u := u) (by rw [fl_at hk hx j hjk]; exact hj)
  rwa [← Nat.add_assoc] at this
theorem fl_sl_take {w : World} {A : Option Addr} {n c i : Nat} {l : List α} (hk : ∀ a, (cells a).length = k) (h : Sl w k A n c (l.flatMap cells)) (hi : i ≤ n) : Sl w k A i c ((l.take i).flatMap cells) := by
  rw [← fl_take hk]; exact h.take hi
end
end Go
namespace Go
section
variable {α : Type} {cells : α → List Value} {k : Nat}
theorem fl_sl_drop {w : World} {b o n c i : Nat} {l : List α} (hk : ∀ a, (cells a).length = k) (h : Sl w k (some ⟨b, o, none⟩) n c (l.flatMap cells)) (hi : i ≤ n) : Sl w k (some ⟨b, o + i * k, none⟩) (n - i) (c - i) ((l.drop i).flatMap cells) := by
  rw [← fl_drop hk]
  exact ⟨by have := h.1; omega, by rw [List.length_drop, h.2.1, Nat.sub_mul], fun hn => by
    obtain ⟨b', o', hA, hb, hc⟩ := h.2.2 (by omega)
    injection hA with hA
    injection hA with e1 e2
    subst e1 e2
    refine ⟨b, _, rfl, hb, fun j u hu => ?_⟩
    rw [List.getElem?_drop] at hu
    rw [Nat.add_assoc]
    exact hc _ u hu⟩
end
end Go
namespace Go
theorem nil_ret {w W : World} (hb : Bel w W) {e : TypeId} {size B : Nat} : ∃ x, W = ext w x ∧ Own (ext w x) B e size none 0 0 [] := by
  obtain ⟨x, hx⟩ := ext_of hb
  exact ⟨x, hx, Own.nil_ _ _ _ _⟩
theorem ext_nil (w : World) (e : TypeId) (size : Nat) (B : Nat) : ∃ x, w = ext w x ∧ Own (ext w x) B e size none 0 0 [] := by
  obtain ⟨x, hx⟩ := ext_of (Bel.refl w)
  exact ⟨x, hx, Own.nil_ _ _ _ _⟩
end Go
