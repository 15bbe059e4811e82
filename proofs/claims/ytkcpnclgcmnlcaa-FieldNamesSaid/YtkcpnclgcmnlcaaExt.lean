/- A world that is another one with more behind it: 'ext w x': the blocks of w, then those of x. Every world that agrees with w on all of w's blocks is of this form. Rules by which a walk sees through it. -/
import Derived.Below
import Derived.Lib.Hide
import Derived.WalkKit
import Derived.WalkSpells
import Derived.WalkLawsBesides
set_option linter.unusedSimpArgs false
set_option linter.unusedVariables false
namespace Go
open RowKit
/-- All blocks of w are in w' as they were; the tape's place has not gone back. -/
structure Bel (w w' : World) : Prop where
  toBelow : Below w.heap.size w w'
  mono : w.drawn ≤ w'.drawn
theorem Bel.os {w w' : World} (h : Bel w w') : w'.os = w.os := h.toBelow.os
theorem Bel.tape {w w' : World} (h : Bel w w') : w'.tape = w.tape := h.toBelow.tape
theorem Bel.output {w w' : World} (h : Bel w w') : w'.output = w.output := h.toBelow.output
theorem Bel.size {w w' : World} (h : Bel w w') : w.heap.size ≤ w'.heap.size := h.toBelow.size
theorem Bel.block {w w' : World} (h : Bel w w') (k : Nat) (hk : k < w.heap.size) : w'.heap[k]? = w.heap[k]? := h.toBelow.block k hk
/-- What a call leaves behind: new blocks, and how often the tape was asked. -/
structure Beyond where
  objs : Array Obj
  drawn : Nat
instance : Inhabited Beyond := ⟨⟨#[], 0⟩⟩
def Beyond.and (x y : Beyond) : Beyond := ⟨x.objs ++ y.objs, x.drawn + y.drawn⟩
def Beyond.drewN (x : Beyond) (n : Nat) : Beyond := ⟨x.objs, x.drawn + n⟩
/-- w with more behind it. -/
def ext (w : World) (x : Beyond) : World := { w with heap := w.heap ++ x.objs, drawn := w.drawn + x.drawn }
/-- How many blocks there are then. -/
def Beyond.len (x : Beyond) : Nat := x.objs.size

theorem Bel.refl (w : World) : Bel w w := ⟨Below.refl _ _, Nat.le_refl _⟩
theorem Bel.trans {a b c : World} (h : Bel a b) (k : Bel b c) : Bel a c := ⟨Below.trans h.toBelow (Below.mono k.toBelow h.size), Nat.le_trans h.mono k.mono⟩
@[simp, go_sem] theorem size_ext (w : World) (x : Beyond) : (ext w x).heap.size = w.heap.size + x.len := by simp [ext, Beyond.len]
theorem len_and (x y : Beyond) : (x.and y).len = x.len + y.len := by simp [Beyond.and, Beyond.len]
@[simp, go_sem] theorem add_len_and (m : Nat) (x y : Beyond) : m + (x.and y).len = m + x.len + y.len := by rw [len_and, Nat.add_assoc]
@[simp, go_sem] theorem len_drewN (x : Beyond) (n : Nat) : (x.drewN n).len = x.len := rfl
theorem bel_ext (w : World) (x : Beyond) : Bel w (ext w x) :=
  ⟨⟨rfl, rfl, rfl, by simp, fun k hk => by simp only [ext]; rw [Array.getElem?_append_left hk]⟩, by simp [ext]⟩
theorem ext_of {w w' : World} (h : Bel w w') : ∃ x, w' = ext w x := by
  refine ⟨⟨(w'.heap.toList.drop w.heap.size).toArray, w'.drawn - w.drawn⟩, ?_⟩
  have hdr : w.drawn + (w'.drawn - w.drawn) = w'.drawn := by have := h.mono; omega
  have hh : w'.heap = w.heap ++ (w'.heap.toList.drop w.heap.size).toArray := by
    apply Array.ext_getElem?
    intro k
    rcases Nat.lt_or_ge k w.heap.size with hk | hk
    · rw [Array.getElem?_append_left hk, h.block k hk]
    · rw [Array.getElem?_append_right hk]
      simp only [List.getElem?_toArray, List.getElem?_drop]
      rw [show w.heap.size + (k - w.heap.size) = k from by omega]; simp
  cases w' with | mk hp tp dr o ou =>
  cases w with | mk hp2 tp2 dr2 o2 ou2 =>
  have h1 := h.os; have h2 := h.tape; have h3 := h.output
  simp only at h1 h2 h3 hh hdr
  subst h1 h2 h3
  simp only [ext]
  rw [← hh, hdr]
theorem bel_of {w w' : World} (h : ∃ x, w' = ext w x) : Bel w w' := by obtain ⟨x, rfl⟩ := h; exact bel_ext w x
theorem Bel.alloc {a w : World} (h : Bel a w) (o : Obj) : Bel a (w.alloc o) := ⟨Below.alloc h.toBelow h.size o, h.mono⟩
theorem Bel.drew {a w : World} (h : Bel a w) : Bel a w.drew := ⟨Below.drew h.toBelow, Nat.le_trans h.mono (Nat.le_succ _)⟩
theorem Bel.drewN {a w : World} (h : Bel a w) (n : Nat) : Bel a (w.drewN n) := ⟨⟨h.os, h.tape, h.output, h.size, h.block⟩, Nat.le_trans h.mono (Nat.le_add_right _ _)⟩
theorem Bel.ext {a w : World} (h : Bel a w) (x : Beyond) : Bel a (ext w x) := h.trans (bel_ext w x)
theorem Bel.setCell {a w : World} (h : Bel a w) {p : Addr} (hp : a.heap.size ≤ p.block) (u : Value) : Bel a (w.setCell p u) := ⟨Below.setCell h.toBelow hp u, h.mono⟩
theorem Bel.below {a w w' : World} {B : Nat} (h : Bel a w) (k : Below B w w') (hB : a.heap.size ≤ B) (hm : w.drawn ≤ w'.drawn) : Bel a w' := ⟨Below.trans h.toBelow (Below.mono k hB), Nat.le_trans h.mono hm⟩
theorem Bel.grown {a w w' : World} {row : Option Nat} (h : Bel a w) (hg : w.grownBy w' row) (hr : ∀ k, row = some k → a.heap.size ≤ k) (hm : w.drawn ≤ w'.drawn) : Bel a w' := ⟨Below.grown h.toBelow hg h.size hr, Nat.le_trans h.mono hm⟩
theorem Bel.le {a w : World} (h : Bel a w) : a.heap.size ≤ w.heap.size := h.size

@[go_sem] theorem lt_sum1 (n m k1 : Nat) (h : n < m) : n < m + k1 := by omega
@[go_sem] theorem le_sum1 (n m k1 : Nat) (h : n ≤ m) : n ≤ m + k1 := by omega
@[go_sem] theorem ll_sum1 (n m k1 : Nat) (h : n < m) : n ≤ m + k1 := by omega
@[go_sem] theorem ne_sum1 (n m k1 : Nat) (h : n < m) : (n = m + k1) = False := eq_false (by omega)
@[go_sem] theorem nf_sum1 (n m k1 : Nat) (h : n < m) : (m + k1 = n) = False := eq_false (by omega)
@[go_sem] theorem lt_sum2 (n m k1 k2 : Nat) (h : n < m) : n < m + k1 + k2 := by omega
@[go_sem] theorem le_sum2 (n m k1 k2 : Nat) (h : n ≤ m) : n ≤ m + k1 + k2 := by omega
@[go_sem] theorem ll_sum2 (n m k1 k2 : Nat) (h : n < m) : n ≤ m + k1 + k2 := by omega
@[go_sem] theorem ne_sum2 (n m k1 k2 : Nat) (h : n < m) : (n = m + k1 + k2) = False := eq_false (by omega)
@[go_sem] theorem nf_sum2 (n m k1 k2 : Nat) (h : n < m) : (m + k1 + k2 = n) = False := eq_false (by omega)
@[go_sem] theorem lt_sum3 (n m k1 k2 k3 : Nat) (h : n < m) : n < m + k1 + k2 + k3 := by omega
@[go_sem] theorem le_sum3 (n m k1 k2 k3 : Nat) (h : n ≤ m) : n ≤ m + k1 + k2 + k3 := by omega
@[go_sem] theorem ll_sum3 (n m k1 k2 k3 : Nat) (h : n < m) : n ≤ m + k1 + k2 + k3 := by omega
@[go_sem] theorem ne_sum3 (n m k1 k2 k3 : Nat) (h : n < m) : (n = m + k1 + k2 + k3) = False := eq_false (by omega)
@[go_sem] theorem nf_sum3 (n m k1 k2 k3 : Nat) (h : n < m) : (m + k1 + k2 + k3 = n) = False := eq_false (by omega)
@[go_sem] theorem lt_sum4 (n m k1 k2 k3 k4 : Nat) (h : n < m) : n < m + k1 + k2 + k3 + k4 := by omega
@[go_sem] theorem le_sum4 (n m k1 k2 k3 k4 : Nat) (h : n ≤ m) : n ≤ m + k1 + k2 + k3 + k4 := by omega
@[go_sem] theorem ll_sum4 (n m k1 k2 k3 k4 : Nat) (h : n < m) : n ≤ m + k1 + k2 + k3 + k4 := by omega
@[go_sem] theorem ne_sum4 (n m k1 k2 k3 k4 : Nat) (h : n < m) : (n = m + k1 + k2 + k3 + k4) = False := eq_false (by omega)
@[go_sem] theorem nf_sum4 (n m k1 k2 k3 k4 : Nat) (h : n < m) : (m + k1 + k2 + k3 + k4 = n) = False := eq_false (by omega)
@[go_sem] theorem lt_sum5 (n m k1 k2 k3 k4 k5 : Nat) (h : n < m) : n < m + k1 + k2 + k3 + k4 + k5 := by omega
@[go_sem] theorem le_sum5 (n m k1 k2 k3 k4 k5 : Nat) (h : n ≤ m) : n ≤ m + k1 + k2 + k3 + k4 + k5 := by omega
@[go_sem] theorem ll_sum5 (n m k1 k2 k3 k4 k5 : Nat) (h : n < m) : n ≤ m + k1 + k2 + k3 + k4 + k5 := by omega
@[go_sem] theorem ne_sum5 (n m k1 k2 k3 k4 k5 : Nat) (h : n < m) : (n = m + k1 + k2 + k3 + k4 + k5) = False := eq_false (by omega)
@[go_sem] theorem nf_sum5 (n m k1 k2 k3 k4 k5 : Nat) (h : n < m) : (m + k1 + k2 + k3 + k4 + k5 = n) = False := eq_false (by omega)
@[go_sem] theorem lt_sum6 (n m k1 k2 k3 k4 k5 k6 : Nat) (h : n < m) : n < m + k1 + k2 + k3 + k4 + k5 + k6 := by omega
@[go_sem] theorem le_sum6 (n m k1 k2 k3 k4 k5 k6 : Nat) (h : n ≤ m) : n ≤ m + k1 + k2 + k3 + k4 + k5 + k6 := by omega
@[go_sem] theorem ll_sum6 (n m k1 k2 k3 k4 k5 k6 : Nat) (h : n < m) : n ≤ m + k1 + k2 + k3 + k4 + k5 + k6 := by omega
@[go_sem] theorem ne_sum6 (n m k1 k2 k3 k4 k5 k6 : Nat) (h : n < m) : (n = m + k1 + k2 + k3 + k4 + k5 + k6) = False := eq_false (by omega)
@[go_sem] theorem nf_sum6 (n m k1 k2 k3 k4 k5 k6 : Nat) (h : n < m) : (m + k1 + k2 + k3 + k4 + k5 + k6 = n) = False := eq_false (by omega)
@[go_sem] theorem lt_sum7 (n m k1 k2 k3 k4 k5 k6 k7 : Nat) (h : n < m) : n < m + k1 + k2 + k3 + k4 + k5 + k6 + k7 := by omega
@[go_sem] theorem le_sum7 (n m k1 k2 k3 k4 k5 k6 k7 : Nat) (h : n ≤ m) : n ≤ m + k1 + k2 + k3 + k4 + k5 + k6 + k7 := by omega
@[go_sem] theorem ll_sum7 (n m k1 k2 k3 k4 k5 k6 k7 : Nat) (h : n < m) : n ≤ m + k1 + k2 + k3 + k4 + k5 + k6 + k7 := by omega
@[go_sem] theorem ne_sum7 (n m k1 k2 k3 k4 k5 k6 k7 : Nat) (h : n < m) : (n = m + k1 + k2 + k3 + k4 + k5 + k6 + k7) = False := eq_false (by omega)
@[go_sem] theorem nf_sum7 (n m k1 k2 k3 k4 k5 k6 k7 : Nat) (h : n < m) : (m + k1 + k2 + k3 + k4 + k5 + k6 + k7 = n) = False := eq_false (by omega)
@[go_sem] theorem lt_sum8 (n m k1 k2 k3 k4 k5 k6 k7 k8 : Nat) (h : n < m) : n < m + k1 + k2 + k3 + k4 + k5 + k6 + k7 + k8 := by omega
@[go_sem] theorem le_sum8 (n m k1 k2 k3 k4 k5 k6 k7 k8 : Nat) (h : n ≤ m) : n ≤ m + k1 + k2 + k3 + k4 + k5 + k6 + k7 + k8 := by omega
@[go_sem] theorem ll_sum8 (n m k1 k2 k3 k4 k5 k6 k7 k8 : Nat) (h : n < m) : n ≤ m + k1 + k2 + k3 + k4 + k5 + k6 + k7 + k8 := by omega
@[go_sem] theorem ne_sum8 (n m k1 k2 k3 k4 k5 k6 k7 k8 : Nat) (h : n < m) : (n = m + k1 + k2 + k3 + k4 + k5 + k6 + k7 + k8) = False := eq_false (by omega)
@[go_sem] theorem nf_sum8 (n m k1 k2 k3 k4 k5 k6 k7 k8 : Nat) (h : n < m) : (m + k1 + k2 + k3 + k4 + k5 + k6 + k7 + k8 = n) = False := eq_false (by omega)
@[go_sem] theorem lt_sum9 (n m k1 k2 k3 k4 k5 k6 k7 k8 k9 : Nat) (h : n < m) : n < m + k1 + k2 + k3 + k4 + k5 + k6 + k7 + k8 + k9 := by omega
@[go_sem] theorem le_sum9 (n m k1 k2 k3 k4 k5 k6 k7 k8 k9 : Nat) (h : n ≤ m) : n ≤ m + k1 + k2 + k3 + k4 + k5 + k6 + k7 + k8 + k9 := by omega
@[go_sem] theorem ll_sum9 (n m k1 k2 k3 k4 k5 k6 k7 k8 k9 : Nat) (h : n < m) : n ≤ m + k1 + k2 + k3 + k4 + k5 + k6 + k7 + k8 + k9 := by omega
@[go_sem] theorem ne_sum9 (n m k1 k2 k3 k4 k5 k6 k7 k8 k9 : Nat) (h : n < m) : (n = m + k1 + k2 + k3 + k4 + k5 + k6 + k7 + k8 + k9) = False := eq_false (by omega)
@[go_sem] theorem nf_sum9 (n m k1 k2 k3 k4 k5 k6 k7 k8 k9 : Nat) (h : n < m) : (m + k1 + k2 + k3 + k4 + k5 + k6 + k7 + k8 + k9 = n) = False := eq_false (by omega)
@[go_sem] theorem lt_sum10 (n m k1 k2 k3 k4 k5 k6 k7 k8 k9 k10 : Nat) (h : n < m) : n < m + k1 + k2 + k3 + k4 + k5 + k6 + k7 + k8 + k9 + k10 := by omega
@[go_sem] theorem le_sum10 (n m k1 k2 k3 k4 k5 k6 k7 k8 k9 k10 : Nat) (h : n ≤ m) : n ≤ m + k1 + k2 + k3 + k4 + k5 + k6 + k7 + k8 + k9 + k10 := by omega
@[go_sem] theorem ll_sum10 (n m k1 k2 k3 k4 k5 k6 k7 k8 k9 k10 : Nat) (h : n < m) : n ≤ m + k1 + k2 + k3 + k4 + k5 + k6 + k7 + k8 + k9 + k10 := by omega
@[go_sem] theorem ne_sum10 (n m k1 k2 k3 k4 k5 k6 k7 k8 k9 k10 : Nat) (h : n < m) : (n = m + k1 + k2 + k3 + k4 + k5 + k6 + k7 + k8 + k9 + k10) = False := eq_false (by omega)
@[go_sem] theorem nf_sum10 (n m k1 k2 k3 k4 k5 k6 k7 k8 k9 k10 : Nat) (h : n < m) : (m + k1 + k2 + k3 + k4 + k5 + k6 + k7 + k8 + k9 + k10 = n) = False := eq_false (by omega)
@[go_sem] theorem lt_sum11 (n m k1 k2 k3 k4 k5 k6 k7 k8 k9 k10 k11 : Nat) (h : n < m) : n < m + k1 + k2 + k3 + k4 + k5 + k6 + k7 + k8 + k9 + k10 + k11 := by omega
@[go_sem] theorem le_sum11 (n m k1 k2 k3 k4 k5 k6 k7 k8 k9 k10 k11 : Nat) (h : n ≤ m) : n ≤ m + k1 + k2 + k3 + k4 + k5 + k6 + k7 + k8 + k9 + k10 + k11 := by omega
@[go_sem] theorem ll_sum11 (n m k1 k2 k3 k4 k5 k6 k7 k8 k9 k10 k11 : Nat) (h : n < m) : n ≤ m + k1 + k2 + k3 + k4 + k5 + k6 + k7 + k8 + k9 + k10 + k11 := by omega
@[go_sem] theorem ne_sum11 (n m k1 k2 k3 k4 k5 k6 k7 k8 k9 k10 k11 : Nat) (h : n < m) : (n = m + k1 + k2 + k3 + k4 + k5 + k6 + k7 + k8 + k9 + k10 + k11) = False := eq_false (by omega)
@[go_sem] theorem nf_sum11 (n m k1 k2 k3 k4 k5 k6 k7 k8 k9 k10 k11 : Nat) (h : n < m) : (m + k1 + k2 + k3 + k4 + k5 + k6 + k7 + k8 + k9 + k10 + k11 = n) = False := eq_false (by omega)
@[go_sem] theorem lt_sum12 (n m k1 k2 k3 k4 k5 k6 k7 k8 k9 k10 k11 k12 : Nat) (h : n < m) : n < m + k1 + k2 + k3 + k4 + k5 + k6 + k7 + k8 + k9 + k10 + k11 + k12 := by omega
@[go_sem] theorem le_sum12 (n m k1 k2 k3 k4 k5 k6 k7 k8 k9 k10 k11 k12 : Nat) (h : n ≤ m) : n ≤ m + k1 + k2 + k3 + k4 + k5 + k6 + k7 + k8 + k9 + k10 + k11 + k12 := by omega
@[go_sem] theorem ll_sum12 (n m k1 k2 k3 k4 k5 k6 k7 k8 k9 k10 k11 k12 : Nat) (h : n < m) : n ≤ m + k1 + k2 + k3 + k4 + k5 + k6 + k7 + k8 + k9 + k10 + k11 + k12 := by omega
@[go_sem] theorem ne_sum12 (n m k1 k2 k3 k4 k5 k6 k7 k8 k9 k10 k11 k12 : Nat) (h : n < m) : (n = m + k1 + k2 + k3 + k4 + k5 + k6 + k7 + k8 + k9 + k10 + k11 + k12) = False := eq_false (by omega)
@[go_sem] theorem nf_sum12 (n m k1 k2 k3 k4 k5 k6 k7 k8 k9 k10 k11 k12 : Nat) (h : n < m) : (m + k1 + k2 + k3 + k4 + k5 + k6 + k7 + k8 + k9 + k10 + k11 + k12 = n) = False := eq_false (by omega)
@[go_sem] theorem lt_sum13 (n m k1 k2 k3 k4 k5 k6 k7 k8 k9 k10 k11 k12 k13 : Nat) (h : n < m) : n < m + k1 + k2 + k3 + k4 + k5 + k6 + k7 + k8 + k9 + k10 + k11 + k12 + k13 := by omega
@[go_sem] theorem le_sum13 (n m k1 k2 k3 k4 k5 k6 k7 k8 k9 k10 k11 k12 k13 : Nat) (h : n ≤ m) : n ≤ m + k1 + k2 + k3 + k4 + k5 + k6 + k7 + k8 + k9 + k10 + k11 + k12 + k13 := by omega
@[go_sem] theorem ll_sum13 (n m k1 k2 k3 k4 k5 k6 k7 k8 k9 k10 k11 k12 k13 : Nat) (h : n < m) : n ≤ m + k1 + k2 + k3 + k4 + k5 + k6 + k7 + k8 + k9 + k10 + k11 + k12 + k13 := by omega
@[go_sem] theorem ne_sum13 (n m k1 k2 k3 k4 k5 k6 k7 k8 k9 k10 k11 k12 k13 : Nat) (h : n < m) : (n = m + k1 + k2 + k3 + k4 + k5 + k6 + k7 + k8 + k9 + k10 + k11 + k12 + k13) = False := eq_false (by omega)
@[go_sem] theorem nf_sum13 (n m k1 k2 k3 k4 k5 k6 k7 k8 k9 k10 k11 k12 k13 : Nat) (h : n < m) : (m + k1 + k2 + k3 + k4 + k5 + k6 + k7 + k8 + k9 + k10 + k11 + k12 + k13 = n) = False := eq_false (by omega)
@[go_sem] theorem lt_sum14 (n m k1 k2 k3 k4 k5 k6 k7 k8 k9 k10 k11 k12 k13 k14 : Nat) (h : n < m) : n < m + k1 + k2 + k3 + k4 + k5 + k6 + k7 + k8 + k9 + k10 + k11 + k12 + k13 + k14 := by omega
@[go_sem] theorem le_sum14 (n m k1 k2 k3 k4 k5 k6 k7 k8 k9 k10 k11 k12 k13 k14 : Nat) (h : n ≤ m) : n ≤ m + k1 + k2 + k3 + k4 + k5 + k6 + k7 + k8 + k9 + k10 + k11 + k12 + k13 + k14 := by omega
@[go_sem] theorem ll_sum14 (n m k1 k2 k3 k4 k5 k6 k7 k8 k9 k10 k11 k12 k13 k14 : Nat) (h : n < m) : n ≤ m + k1 + k2 + k3 + k4 + k5 + k6 + k7 + k8 + k9 + k10 + k11 + k12 + k13 + k14 := by omega
@[go_sem] theorem ne_sum14 (n m k1 k2 k3 k4 k5 k6 k7 k8 k9 k10 k11 k12 k13 k14 : Nat) (h : n < m) : (n = m + k1 + k2 + k3 + k4 + k5 + k6 + k7 + k8 + k9 + k10 + k11 + k12 + k13 + k14) = False := eq_false (by omega)
@[go_sem] theorem nf_sum14 (n m k1 k2 k3 k4 k5 k6 k7 k8 k9 k10 k11 k12 k13 k14 : Nat) (h : n < m) : (m + k1 + k2 + k3 + k4 + k5 + k6 + k7 + k8 + k9 + k10 + k11 + k12 + k13 + k14 = n) = False := eq_false (by omega)
@[go_sem] theorem lt_sum15 (n m k1 k2 k3 k4 k5 k6 k7 k8 k9 k10 k11 k12 k13 k14 k15 : Nat) (h : n < m) : n < m + k1 + k2 + k3 + k4 + k5 + k6 + k7 + k8 + k9 + k10 + k11 + k12 + k13 + k14 + k15 := by omega
@[go_sem] theorem le_sum15 (n m k1 k2 k3 k4 k5 k6 k7 k8 k9 k10 k11 k12 k13 k14 k15 : Nat) (h : n ≤ m) : n ≤ m + k1 + k2 + k3 + k4 + k5 + k6 + k7 + k8 + k9 + k10 + k11 + k12 + k13 + k14 + k15 := by omega
@[go_sem] theorem ll_sum15 (n m k1 k2 k3 k4 k5 k6 k7 k8 k9 k10 k11 k12 k13 k14 k15 : Nat) (h : n < m) : n ≤ m + k1 + k2 + k3 + k4 + k5 + k6 + k7 + k8 + k9 + k10 + k11 + k12 + k13 + k14 + k15 := by omega
@[go_sem] theorem ne_sum15 (n m k1 k2 k3 k4 k5 k6 k7 k8 k9 k10 k11 k12 k13 k14 k15 : Nat) (h : n < m) : (n = m + k1 + k2 + k3 + k4 + k5 + k6 + k7 + k8 + k9 + k10 + k11 + k12 + k13 + k14 + k15) = False := eq_false (by omega)
@[go_sem] theorem nf_sum15 (n m k1 k2 k3 k4 k5 k6 k7 k8 k9 k10 k11 k12 k13 k14 k15 : Nat) (h : n < m) : (m + k1 + k2 + k3 + k4 + k5 + k6 + k7 + k8 + k9 + k10 + k11 + k12 + k13 + k14 + k15 = n) = False := eq_false (by omega)
@[go_sem] theorem lt_sum16 (n m k1 k2 k3 k4 k5 k6 k7 k8 k9 k10 k11 k12 k13 k14 k15 k16 : Nat) (h : n < m) : n < m + k1 + k2 + k3 + k4 + k5 + k6 + k7 + k8 + k9 + k10 + k11 + k12 + k13 + k14 + k15 + k16 := by omega
@[go_sem] theorem le_sum16 (n m k1 k2 k3 k4 k5 k6 k7 k8 k9 k10 k11 k12 k13 k14 k15 k16 : Nat) (h : n ≤ m) : n ≤ m + k1 + k2 + k3 + k4 + k5 + k6 + k7 + k8 + k9 + k10 + k11 + k12 + k13 + k14 + k15 + k16 := by omega
@[go_sem] theorem ll_sum16 (n m k1 k2 k3 k4 k5 k6 k7 k8 k9 k10 k11 k12 k13 k14 k15 k16 : Nat) (h : n < m) : n ≤ m + k1 + k2 + k3 + k4 + k5 + k6 + k7 + k8 + k9 + k10 + k11 + k12 + k13 + k14 + k15 + k16 := by omega
@[go_sem] theorem ne_sum16 (n m k1 k2 k3 k4 k5 k6 k7 k8 k9 k10 k11 k12 k13 k14 k15 k16 : Nat) (h : n < m) : (n = m + k1 + k2 + k3 + k4 + k5 + k6 + k7 + k8 + k9 + k10 + k11 + k12 + k13 + k14 + k15 + k16) = False := eq_false (by omega)
@[go_sem] theorem nf_sum16 (n m k1 k2 k3 k4 k5 k6 k7 k8 k9 k10 k11 k12 k13 k14 k15 k16 : Nat) (h : n < m) : (m + k1 + k2 + k3 + k4 + k5 + k6 + k7 + k8 + k9 + k10 + k11 + k12 + k13 + k14 + k15 + k16 = n) = False := eq_false (by omega)
@[go_sem] theorem lt_sum17 (n m k1 k2 k3 k4 k5 k6 k7 k8 k9 k10 k11 k12 k13 k14 k15 k16 k17 : Nat) (h : n < m) : n < m + k1 + k2 + k3 + k4 + k5 + k6 + k7 + k8 + k9 + k10 + k11 + k12 + k13 + k14 + k15 + k16 + k17 := by omega
@[go_sem] theorem le_sum17 (n m k1 k2 k3 k4 k5 k6 k7 k8 k9 k10 k11 k12 k13 k14 k15 k16 k17 : Nat) (h : n ≤ m) : n ≤ m + k1 + k2 + k3 + k4 + k5 + k6 + k7 + k8 + k9 + k10 + k11 + k12 + k13 + k14 + k15 + k16 + k17 := by omega
@[go_sem] theorem ll_sum17 (n m k1 k2 k3 k4 k5 k6 k7 k8 k9 k10 k11 k12 k13 k14 k15 k16 k17 : Nat) (h : n < m) : n ≤ m + k1 + k2 + k3 + k4 + k5 + k6 + k7 + k8 + k9 + k10 + k11 + k12 + k13 + k14 + k15 + k16 + k17 := by omega
@[go_sem] theorem ne_sum17 (n m k1 k2 k3 k4 k5 k6 k7 k8 k9 k10 k11 k12 k13 k14 k15 k16 k17 : Nat) (h : n < m) : (n = m + k1 + k2 + k3 + k4 + k5 + k6 + k7 + k8 + k9 + k10 + k11 + k12 + k13 + k14 + k15 + k16 + k17) = False := eq_false (by omega)
@[go_sem] theorem nf_sum17 (n m k1 k2 k3 k4 k5 k6 k7 k8 k9 k10 k11 k12 k13 k14 k15 k16 k17 : Nat) (h : n < m) : (m + k1 + k2 + k3 + k4 + k5 + k6 + k7 + k8 + k9 + k10 + k11 + k12 + k13 + k14 + k15 + k16 + k17 = n) = False := eq_false (by omega)
@[go_sem] theorem lt_sum18 (n m k1 k2 k3 k4 k5 k6 k7 k8 k9 k10 k11 k12 k13 k14 k15 k16 k17 k18 : Nat) (h : n < m) : n < m + k1 + k2 + k3 + k4 + k5 + k6 + k7 + k8 + k9 + k10 + k11 + k12 + k13 + k14 + k15 + k16 + k17 + k18 := by omega
@[go_sem] theorem le_sum18 (n m k1 k2 k3 k4 k5 k6 k7 k8 k9 k10 k11 k12 k13 k14 k15 k16 k17 k18 : Nat) (h : n ≤ m) : n ≤ m + k1 + k2 + k3 + k4 + k5 + k6 + k7 + k8 + k9 + k10 + k11 + k12 + k13 + k14 + k15 + k16 + k17 + k18 := by omega
@[go_sem] theorem ll_sum18 (n m k1 k2 k3 k4 k5 k6 k7 k8 k9 k10 k11 k12 k13 k14 k15 k16 k17 k18 : Nat) (h : n < m) : n ≤ m + k1 + k2 + k3 + k4 + k5 + k6 + k7 + k8 + k9 + k10 + k11 + k12 + k13 + k14 + k15 + k16 + k17 + k18 := by omega
@[go_sem] theorem ne_sum18 (n m k1 k2 k3 k4 k5 k6 k7 k8 k9 k10 k11 k12 k13 k14 k15 k16 k17 k18 : Nat) (h : n < m) : (n = m + k1 + k2 + k3 + k4 + k5 + k6 + k7 + k8 + k9 + k10 + k11 + k12 + k13 + k14 + k15 + k16 + k17 + k18) = False := eq_false (by omega)
@[go_sem] theorem nf_sum18 (n m k1 k2 k3 k4 k5 k6 k7 k8 k9 k10 k11 k12 k13 k14 k15 k16 k17 k18 : Nat) (h : n < m) : (m + k1 + k2 + k3 + k4 + k5 + k6 + k7 + k8 + k9 + k10 + k11 + k12 + k13 + k14 + k15 + k16 + k17 + k18 = n) = False := eq_false (by omega)
@[go_sem] theorem lt_sum19 (n m k1 k2 k3 k4 k5 k6 k7 k8 k9 k10 k11 k12 k13 k14 k15 k16 k17 k18 k19 : Nat) (h : n < m) : n < m + k1 + k2 + k3 + k4 + k5 + k6 + k7 + k8 + k9 + k10 + k11 + k12 + k13 + k14 + k15 + k16 + k17 + k18 + k19 := by omega
@[go_sem] theorem le_sum19 (n m k1 k2 k3 k4 k5 k6 k7 k8 k9 k10 k11 k12 k13 k14 k15 k16 k17 k18 k19 : Nat) (h : n ≤ m) : n ≤ m + k1 + k2 + k3 + k4 + k5 + k6 + k7 + k8 + k9 + k10 + k11 + k12 + k13 + k14 + k15 + k16 + k17 + k18 + k19 := by omega
@[go_sem] theorem ll_sum19 (n m k1 k2 k3 k4 k5 k6 k7 k8 k9 k10 k11 k12 k13 k14 k15 k16 k17 k18 k19 : Nat) (h : n < m) : n ≤ m + k1 + k2 + k3 + k4 + k5 + k6 + k7 + k8 + k9 + k10 + k11 + k12 + k13 + k14 + k15 + k16 + k17 + k18 + k19 := by omega
@[go_sem] theorem ne_sum19 (n m k1 k2 k3 k4 k5 k6 k7 k8 k9 k10 k11 k12 k13 k14 k15 k16 k17 k18 k19 : Nat) (h : n < m) : (n = m + k1 + k2 + k3 + k4 + k5 + k6 + k7 + k8 + k9 + k10 + k11 + k12 + k13 + k14 + k15 + k16 + k17 + k18 + k19) = False := eq_false (by omega)
@[go_sem] theorem nf_sum19 (n m k1 k2 k3 k4 k5 k6 k7 k8 k9 k10 k11 k12 k13 k14 k15 k16 k17 k18 k19 : Nat) (h : n < m) : (m + k1 + k2 + k3 + k4 + k5 + k6 + k7 + k8 + k9 + k10 + k11 + k12 + k13 + k14 + k15 + k16 + k17 + k18 + k19 = n) = False := eq_false (by omega)
@[go_sem] theorem lt_sum20 (n m k1 k2 k3 k4 k5 k6 k7 k8 k9 k10 k11 k12 k13 k14 k15 k16 k17 k18 k19 k20 : Nat) (h : n < m) : n < m + k1 + k2 + k3 + k4 + k5 + k6 + k7 + k8 + k9 + k10 + k11 + k12 + k13 + k14 + k15 + k16 + k17 + k18 + k19 + k20 := by omega
@[go_sem] theorem le_sum20 (n m k1 k2 k3 k4 k5 k6 k7 k8 k9 k10 k11 k12 k13 k14 k15 k16 k17 k18 k19 k20 : Nat) (h : n ≤ m) : n ≤ m + k1 + k2 + k3 + k4 + k5 + k6 + k7 + k8 + k9 + k10 + k11 + k12 + k13 + k14 + k15 + k16 + k17 + k18 + k19 + k20 := by omega
@[go_sem] theorem ll_sum20 (n m k1 k2 k3 k4 k5 k6 k7 k8 k9 k10 k11 k12 k13 k14 k15 k16 k17 k18 k19 k20 : Nat) (h : n < m) : n ≤ m + k1 + k2 + k3 + k4 + k5 + k6 + k7 + k8 + k9 + k10 + k11 + k12 + k13 + k14 + k15 + k16 + k17 + k18 + k19 + k20 := by omega
@[go_sem] theorem ne_sum20 (n m k1 k2 k3 k4 k5 k6 k7 k8 k9 k10 k11 k12 k13 k14 k15 k16 k17 k18 k19 k20 : Nat) (h : n < m) : (n = m + k1 + k2 + k3 + k4 + k5 + k6 + k7 + k8 + k9 + k10 + k11 + k12 + k13 + k14 + k15 + k16 + k17 + k18 + k19 + k20) = False := eq_false (by omega)
@[go_sem] theorem nf_sum20 (n m k1 k2 k3 k4 k5 k6 k7 k8 k9 k10 k11 k12 k13 k14 k15 k16 k17 k18 k19 k20 : Nat) (h : n < m) : (m + k1 + k2 + k3 + k4 + k5 + k6 + k7 + k8 + k9 + k10 + k11 + k12 + k13 + k14 + k15 + k16 + k17 + k18 + k19 + k20 = n) = False := eq_false (by omega)
@[go_sem] theorem cell_ext (w : World) (x : Beyond) (n i : Nat) (h : n < w.heap.size) : (ext w x).cell? ⟨n, i, none⟩ = w.cell? ⟨n, i, none⟩ := Below.cell (p := ⟨n, i, none⟩) (bel_ext w x).toBelow h
@[go_sem] theorem frozen_ext (w : World) (x : Beyond) (n i : Nat) (h : n < w.heap.size) : (ext w x).frozen? ⟨n, i, none⟩ = w.frozen? ⟨n, i, none⟩ := Below.frozen (p := ⟨n, i, none⟩) (bel_ext w x).toBelow h
theorem heap_ext (w : World) (x : Beyond) (n : Nat) (h : n < w.heap.size) : (ext w x).heap[n]? = w.heap[n]? := (bel_ext w x).block n h
@[go_sem] theorem shape_ext (w : World) (x : Beyond) (n : Nat) (h : n < w.heap.size) : (ext w x).shape? n = w.shape? n := by
  unfold World.shape?; rw [heap_ext w x n h]

@[go_sem] theorem drew_ext (w : World) (x : Beyond) : (ext w x).drew = ext w (x.drewN 1) := rfl
@[go_sem] theorem drewN_ext (w : World) (x : Beyond) (n : Nat) : (ext w x).drewN n = ext w (x.drewN n) := by simp [ext, Beyond.drewN, World.drewN, Nat.add_assoc]
@[go_sem] theorem ext_ext (w : World) (x y : Beyond) : ext (ext w x) y = ext w (x.and y) := by simp [ext, Beyond.and, Array.append_assoc, Nat.add_assoc]
@[go_sem] theorem ext_drewN (w : World) (x : Beyond) (n : Nat) : ext (w.drewN n) x = ext w (x.drewN n) := by
  have h : w.drawn + n + x.drawn = w.drawn + (x.drawn + n) := by omega
  show ({ w with heap := w.heap ++ x.objs, drawn := w.drawn + n + x.drawn } : World) = _
  rw [h]; rfl
@[go_sem] theorem ext_drew (w : World) (x : Beyond) : ext w.drew x = ext w (x.drewN 1) := by
  have h : w.drawn + 1 + x.drawn = w.drawn + (x.drawn + 1) := by omega
  show ({ w with heap := w.heap ++ x.objs, drawn := w.drawn + 1 + x.drawn } : World) = _
  rw [h]; rfl
theorem modify_left {α : Type} (xs ys : Array α) (n : Nat) (f : α → α) (h : n < xs.size) : (xs ++ ys).modify n f = xs.modify n f ++ ys := by
  apply Array.ext_getElem?
  intro k
  rw [Array.getElem?_modify]
  rcases Nat.lt_or_ge k xs.size with hk | hk
  · rw [Array.getElem?_append_left hk, Array.getElem?_append_left (by simpa using hk), Array.getElem?_modify]
  · rw [if_neg (by omega), Array.getElem?_append_right hk, Array.getElem?_append_right (by simpa using hk)]; simp
@[go_sem] theorem setCell_ext (w : World) (x : Beyond) (n i : Nat) (u : Value) (h : n < w.heap.size) : (ext w x).setCell ⟨n, i, none⟩ u = ext (w.setCell ⟨n, i, none⟩ u) x := by
  simp only [World.setCell, ext]; rw [modify_left _ _ _ _ h]

@[go_sem] theorem cell_and (w : World) (x y : Beyond) (n i : Nat) (h : n < w.heap.size + x.len) : (ext w (x.and y)).cell? ⟨n, i, none⟩ = (ext w x).cell? ⟨n, i, none⟩ := by
  rw [← ext_ext]; exact cell_ext _ _ _ _ (by rw [size_ext]; exact h)
@[go_sem] theorem frozen_and (w : World) (x y : Beyond) (n i : Nat) (h : n < w.heap.size + x.len) : (ext w (x.and y)).frozen? ⟨n, i, none⟩ = (ext w x).frozen? ⟨n, i, none⟩ := by
  rw [← ext_ext]; exact frozen_ext _ _ _ _ (by rw [size_ext]; exact h)
@[go_sem] theorem cell_drews (w : World) (x : Beyond) (n : Nat) (a : Addr) : (ext w (x.drewN n)).cell? a = (ext w x).cell? a := rfl
@[go_sem] theorem frozen_drews (w : World) (x : Beyond) (n : Nat) (a : Addr) : (ext w (x.drewN n)).frozen? a = (ext w x).frozen? a := rfl
theorem bel_and {a w : World} {x : Beyond} (h : Bel a (Go.ext w x)) (y : Beyond) : Bel a (Go.ext w (x.and y)) := by rw [← ext_ext]; exact h.ext y
theorem bel_drews {a w : World} {x : Beyond} (h : Bel a (Go.ext w x)) (n : Nat) : Bel a (Go.ext w (x.drewN n)) := by rw [← drewN_ext]; exact h.drewN n
theorem ext_of1 {w w' : World} {x : Beyond} (h : Bel (Go.ext w x) w') : ∃ y, w' = Go.ext w (x.and y) := by
  obtain ⟨y, rfl⟩ := Go.ext_of h; exact ⟨y, ext_ext w x y⟩
/-- A callee's contract in a quiet walk over the class of all 'ext w x'. -/
theorem Calls.ext_of {P : Program} {f : FuncId} {args : Array Value} {w : World} {x : Beyond} {v : Value}
    (h : Calls P f args (ext w x) fun e w' => e = .returned v ∧ ∃ y, w' = ext (ext w x) y) : Calls P f args (ext w x) fun e w'' => e = .returned v ∧ ∃ y, w'' = ext w y :=
  h.mono fun _ _ ⟨he, y, hy⟩ => ⟨he, x.and y, by rw [hy, ext_ext]⟩
/-- The same where the class is that of all worlds behind 'ext w z'. -/
theorem Calls.ext_of1 {P : Program} {f : FuncId} {args : Array Value} {w : World} {z x : Beyond} {v : Value}
    (h : Calls P f args (ext w (z.and x)) fun e w' => e = .returned v ∧ ∃ y, w' = ext (ext w (z.and x)) y) : Calls P f args (ext w (z.and x)) fun e w'' => e = .returned v ∧ ∃ y, w'' = ext w (z.and y) :=
  h.mono fun _ _ ⟨he, y, hy⟩ => ⟨he, Go.ext_of1 (by rw [hy]; exact (bel_and (Bel.refl _) x).ext y)⟩
/-- A contract's world, seen from an elder one. -/
theorem ret_ext {w0 w : World} (hb : Bel w0 w) {e : Ending} {w' : World} {v : Value} (h : e = .returned v ∧ ∃ y, w' = ext w y) : e = .returned v ∧ ∃ y, w' = ext w0 y :=
  let ⟨he, y, hy⟩ := h
  ⟨he, Go.ext_of (by rw [hy]; exact hb.ext y)⟩
attribute [irreducible] ext Beyond.len
end Go
