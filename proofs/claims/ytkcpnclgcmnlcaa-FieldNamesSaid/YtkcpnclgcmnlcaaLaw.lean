/- Facts that are carried through the body of a law. -/
import Derived.Test.YtkcpnclgcmnlcaaStep
import Derived.Test.YtkcpnclgcmnlcaaRow
set_option linter.unusedSimpArgs false
set_option linter.unusedVariables false
namespace Go
open RowKit
/-- a cell of a block of W that may be written -/
structure Held (W : World) (b o : Nat) (v : Value) : Prop where
  lt : b < W.heap.size
  eq : W.cell? ⟨b, o, none⟩ = some v
  fr : W.frozen? ⟨b, o, none⟩ = false
theorem Held.bel {W W' : World} {b o : Nat} {v : Value} (h : Held W b o v) (hb : Bel W W') : Held W' b o v := by
  obtain ⟨x, rfl⟩ := ext_of hb
  exact ⟨by rw [size_ext]; have := h.lt; omega, by rw [cell_ext _ _ _ _ h.lt]; exact h.eq, by rw [frozen_ext _ _ _ _ h.lt]; exact h.fr⟩
theorem Held.new {W W' : World} {cs : Array Value} {e : TypeId} {j : Nat} {v : Value} (hb : Bel (W.alloc (.cells cs e)) W') (hv : cs[j]? = some v) : Held W' W.heap.size j v := by
  have h : Held (W.alloc (.cells cs e)) W.heap.size j v := ⟨by simp, by simp [go_sem, hv], by simp [go_sem]⟩
  exact h.bel hb
theorem own_split {w W' : World} {B : Nat} {e : TypeId} {size n c : Nat} {A : Option Addr} {xs : List Value} (h : ∃ y, W' = ext w y ∧ Own (ext w y) B e size A n c xs) : ∃ y, W' = ext w y := let ⟨y, hy, _⟩ := h; ⟨y, hy⟩
theorem own_here {w W' : World} {B : Nat} {e : TypeId} {size n c : Nat} {A : Option Addr} {xs : List Value} (h : ∃ y, W' = ext w y ∧ Own (ext w y) B e size A n c xs) : Own W' B e size A n c xs := by
  obtain ⟨y, rfl, h⟩ := h; exact h
/-- worlds that differ in block g alone -/
structure Apart (g : Nat) (W W' : World) : Prop where
  os : W'.os = W.os
  tape : W'.tape = W.tape
  output : W'.output = W.output
  size : W'.heap.size = W.heap.size
  drawn : W.drawn ≤ W'.drawn
  block : ∀ b, b ≠ g → W'.heap[b]? = W.heap[b]?
theorem Apart.refl (g : Nat) (W : World) : Apart g W W := ⟨rfl, rfl, rfl, rfl, Nat.le_refl _, fun _ _ => rfl⟩
theorem Apart.trans {g : Nat} {W W1 W2 : World} (h : Apart g W W1) (k : Apart g W1 W2) : Apart g W W2 :=
  ⟨k.os.trans h.os, k.tape.trans h.tape, k.output.trans h.output, k.size.trans h.size, Nat.le_trans h.drawn k.drawn, fun b hb => (k.block b hb).trans (h.block b hb)⟩
theorem Apart.setCell {g : Nat} {W W1 : World} (h : Apart g W W1) (o : Nat) (u : Value) : Apart g W (W1.setCell ⟨g, o, none⟩ u) :=
  h.trans ⟨rfl, rfl, rfl, by simp [World.setCell], Nat.le_refl _, fun b hb => by unfold World.setCell; simp only [Array.getElem?_modify, if_neg (Ne.symm hb)]⟩
theorem Apart.bel {g : Nat} {w W W1 : World} (h : Apart g W W1) (hb : Bel w W) (hg : w.heap.size ≤ g) : Bel w W1 :=
  ⟨⟨h.os.trans hb.os, h.tape.trans hb.tape, h.output.trans hb.output, by rw [h.size]; exact hb.size, fun k hk => (h.block k (by omega)).trans (hb.block k hk)⟩, Nat.le_trans hb.mono h.drawn⟩
theorem Held.apart {g : Nat} {W W' : World} {b o : Nat} {v : Value} (h : Held W b o v) (ha : Apart g W W') (hne : b ≠ g) : Held W' b o v :=
  ⟨by rw [ha.size]; exact h.lt, by have := h.eq; unfold World.cell? at this ⊢; rw [ha.block b hne]; exact this, by have := h.fr; unfold World.frozen? at this ⊢; rw [ha.block b hne]; exact this⟩
theorem Sl.apart {g : Nat} {W W' : World} {size n c : Nat} {A : Option Addr} {xs : List Value} (h : Sl W size A n c xs) (ha : Apart g W W') (hne : ∀ b o, A = some ⟨b, o, none⟩ → b ≠ g) : Sl W' size A n c xs :=
  ⟨h.1, h.2.1, fun hn => by
    obtain ⟨b, o, hA, hb, hc⟩ := h.2.2 hn
    refine ⟨b, o, hA, by rw [ha.size]; exact hb, fun j u hu => ?_⟩
    have h1 := hc j u hu
    unfold World.cell? at h1 ⊢
    rw [ha.block b (hne b o hA)]; exact h1⟩
theorem Own.ne {W : World} {B : Nat} {e : TypeId} {size n c : Nat} {A : Option Addr} {xs : List Value} (h : Own W B e size A n c xs) {g : Nat} (hg : g < B) : ∀ b o, A = some ⟨b, o, none⟩ → b ≠ g := by
  intro b o hA
  rcases h.row with ⟨h0, _⟩ | ⟨g', cur, h0, hr, _⟩
  · rw [hA] at h0; cases h0
  · have e1 : b = g' := by rw [hA] at h0; injection h0 with h0; injection h0
    have := hr.1
    omega
end Go
namespace Go
open RowKit
theorem Own.ats {W : World} {B : Nat} {e : TypeId} {size n c g : Nat} {xs : List Value} (h : Own W B e size (some ⟨g, 0, none⟩) n c xs) : B ≤ g ∧ g < W.heap.size := by
  rcases h.row with ⟨h0, _⟩ | ⟨g', cur, h0, hr, _⟩
  · cases h0
  · have e1 : g = g' := by injection h0 with h0; injection h0
    subst e1
    exact ⟨hr.1, hr.lt⟩
theorem Own.shape {W : World} {B : Nat} {e : TypeId} {size n c : Nat} {A : Option Addr} {xs : List Value} (h : Own W B e size A n c xs) : (A = none ∧ n = 0) ∨ ∃ g, A = some ⟨g, 0, none⟩ ∧ B ≤ g ∧ g < W.heap.size := by
  rcases h.row with ⟨h0, h1, _⟩ | ⟨g', cur, h0, hr, _⟩
  · exact .inl ⟨h0, h1⟩
  · exact .inr ⟨g', h0, hr.1, hr.lt⟩
end Go
