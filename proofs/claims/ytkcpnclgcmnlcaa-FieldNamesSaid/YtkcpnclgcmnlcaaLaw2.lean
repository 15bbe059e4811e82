/- A block of the call's own, whole, as one fact. -/
import Derived.Test.YtkcpnclgcmnlcaaLaw
set_option linter.unusedSimpArgs false
set_option linter.unusedVariables false
namespace Go
open RowKit
structure Box (W : World) (b : Nat) (cs : Array Value) : Prop where
  lt : b < W.heap.size
  eq : ∀ (j : Nat) (v : Value), cs[j]? = some v → W.cell? ⟨b, j, none⟩ = some v
  fr : ∀ (j : Nat), W.frozen? ⟨b, j, none⟩ = false
theorem Box.bel {W W' : World} {b : Nat} {cs : Array Value} (h : Box W b cs) (hb : Bel W W') : Box W' b cs := by
  obtain ⟨x, rfl⟩ := ext_of hb
  exact ⟨by rw [size_ext]; have := h.lt; omega, fun j v hv => by rw [cell_ext _ _ _ _ h.lt]; exact h.eq j v hv, fun j => by rw [frozen_ext _ _ _ _ h.lt]; exact h.fr j⟩
theorem Box.new {W W' : World} {cs : Array Value} {e : TypeId} (hb : Bel (W.alloc (.cells cs e)) W') {b : Nat} (hbk : b = W.heap.size) : Box W' b cs := by
  subst hbk
  have h : Box (W.alloc (.cells cs e)) W.heap.size cs := ⟨by simp, fun j v hv => by simp [go_sem, hv], fun j => by simp [go_sem]⟩
  exact h.bel hb
theorem own_row {W W' : World} {cs : Array Value} {e : TypeId} {size n : Nat} (hb : Bel (W.alloc (.cells cs e)) W') {b : Nat} (hbk : b = W.heap.size) (hn : n ≤ 1000000) (hs : cs.size = n * size) : Own W' b e size (some ⟨b, 0, none⟩) n n cs.toList := by
  subst hbk
  have h : Own (W.alloc (.cells cs e)) W.heap.size e size (some ⟨W.heap.size, 0, none⟩) n n cs.toList := World.ownsRow_lit W cs n (Nat.le_refl _) (Nat.le_trans hn (by unfold maxLen; decide)) hs
  exact h.bel hb
end Go
