/- Memory, worlds with more behind them, arguments: lemmas. -/
import Derived.Below
import Derived.Lib.Hide
import Derived.WalkKit
import Derived.WalkSpells
import Derived.WalkLawsBesides
import Derived.Deep.Quiet
import Derived.Deep.QuietTactic
import Derived.StillTail
import Derived.BigQuiet
import Derived.ScopeJumps
import Derived.Laws.AppendOwn
import Derived.Laws.AppendOwnNone
import Derived.ArgAppend
import Derived.Deep.AppendLies
import Derived.Deep.RegionHeld3
import Derived.Deep.RegionLaw
import Derived.Deep.MidRow
import Derived.Laws.CopyRow
import Derived.Lib.SliceRun
import Derived.Lib.AppendZerosOnto
import Derived.Lib.AppendZeros
import Derived.Lib.Overlaps
import Derived.Deep.DeepAppendRoom
import Derived.Test.YthopjgahedijcaaRows
import Derived.ProofKit
import Derived.OpenShut
import Derived.ShutString
import Derived.ChangeOld
import Derived.Deep.DeepCutAuto
import Derived.Deep.LoopGhost
import Derived.IntWalk
import Derived.Shelf.Bits.Mul64
import Derived.Test.YthopjgahedijcaaProg
import Derived.Shelf.Spec.BitsCarry
import Derived.Outline
import Derived.Laws.MakeOwn
set_option linter.unusedSimpArgs false
set_option linter.unusedVariables false
namespace Go
open RowKit
/-- All blocks of w are in w' as they were; the tape's place has not gone back. -/
structure Bel (w w' : World) : Prop where
  toBelow : Below w.heap.size w w'
  mono : w.drawn ≤ w'.drawn
theorem Bel.os {w w' : World} (h : Bel w w') : w'.os = w.os := h.toBelow.os
theorem Bel.tape {w w' : World} (h : Bel w w') : w'.tape = w.tape := h.toBelow.tape
theorem Bel.output {w w' : World} (h : Bel w w') : w'.output = w.output := h.toBelow.output
theorem Bel.size {w w' : World} (h : Bel w w') : w.heap.size ≤ w'.heap.size := h.toBelow.size
theorem Bel.block {w w' : World} (h : Bel w w') (k : Nat) (hk : k < w.heap.size) : w'.heap[k]? = w.heap[k]? := h.toBelow.block k hk
/-- What a call leaves behind: new blocks, and how often the tape was asked. -/
structure Beyond where
  objs : Array Obj
  drawn : Nat
instance : Inhabited Beyond := ⟨⟨#[], 0⟩⟩
def Beyond.and (x y : Beyond) : Beyond := ⟨x.objs ++ y.objs, x.drawn + y.drawn⟩
def Beyond.drewN (x : Beyond) (n : Nat) : Beyond := ⟨x.objs, x.drawn + n⟩
/-- w with more behind it. -/
def ext (w : World) (x : Beyond) : World := { w with heap := w.heap ++ x.objs, drawn := w.drawn + x.drawn }
/-- How many blocks there are then. -/
def Beyond.len (x : Beyond) : Nat := x.objs.size

theorem Bel.refl (w : World) : Bel w w := ⟨Below.refl _ _, Nat.le_refl _⟩
theorem Bel.trans {a b c : World} (h : Bel a b) (k : Bel b c) : Bel a c := ⟨Below.trans h.toBelow (Below.mono k.toBelow h.size), Nat.le_trans h.mono k.mono⟩
@[simp, go_sem] theorem size_ext (w : World) (x : Beyond) : (ext w x).heap.size = w.heap.size + x.len := by simp [ext, Beyond.len]
theorem len_and (x y : Beyond) : (x.and y).len = x.len + y.len := by simp [Beyond.and, Beyond.len]
@[simp, go_sem] theorem add_len_and (m : Nat) (x y : Beyond) : m + (x.and y).len = m + x.len + y.len := by rw [len_and, Nat.add_assoc]
@[simp, go_sem] theorem len_drewN (x : Beyond) (n : Nat) : (x.drewN n).len = x.len := rfl
theorem bel_ext (w : World) (x : Beyond) : Bel w (ext w x) :=
  ⟨⟨rfl, rfl, rfl, by simp, fun k hk => by simp only [ext]; rw [Array.getElem?_append_left hk]⟩, by simp [ext]⟩
theorem ext_of {w w' : World} (h : Bel w w') : ∃ x, w' = ext w x := by
  refine ⟨⟨(w'.heap.toList.drop w.heap.size).toArray, w'.drawn - w.drawn⟩, ?_⟩
  have hdr : w.drawn + (w'.drawn - w.drawn) = w'.drawn := by have := h.mono; omega
  have hh : w'.heap = w.heap ++ (w'.heap.toList.drop w.heap.size).toArray := by
    apply Array.ext_getElem?
    intro k
    rcases Nat.lt_or_ge k w.heap.size with hk | hk
    · rw [Array.getElem?_append_left hk, h.block k hk]
    · rw [Array.getElem?_append_right hk]
      simp only [List.getElem?_toArray, List.getElem?_drop]
      rw [show w.heap.size + (k - w.heap.size) = k from by omega]; simp
  cases w' with | mk hp tp dr o ou =>
  cases w with | mk hp2 tp2 dr2 o2 ou2 =>
  have h1 := h.os; have h2 := h.tape; have h3 := h.output
  simp only at h1 h2 h3 hh hdr
  subst h1 h2 h3
  simp only [ext]
  rw [← hh, hdr]
theorem bel_of {w w' : World} (h : ∃ x, w' = ext w x) : Bel w w' := by obtain ⟨x, rfl⟩ := h; exact bel_ext w x
theorem Bel.alloc {a w : World} (h : Bel a w) (o : Obj) : Bel a (w.alloc o) := ⟨Below.alloc h.toBelow h.size o, h.mono⟩
theorem Bel.drew {a w : World} (h : Bel a w) : Bel a w.drew := ⟨Below.drew h.toBelow, Nat.le_trans h.mono (Nat.le_succ _)⟩
theorem Bel.drewN {a w : World} (h : Bel a w) (n : Nat) : Bel a (w.drewN n) := ⟨⟨h.os, h.tape, h.output, h.size, h.block⟩, Nat.le_trans h.mono (Nat.le_add_right _ _)⟩
theorem Bel.ext {a w : World} (h : Bel a w) (x : Beyond) : Bel a (ext w x) := h.trans (bel_ext w x)
theorem Bel.setCell {a w : World} (h : Bel a w) {p : Addr} (hp : a.heap.size ≤ p.block) (u : Value) : Bel a (w.setCell p u) := ⟨Below.setCell h.toBelow hp u, h.mono⟩
theorem Bel.below {a w w' : World} {B : Nat} (h : Bel a w) (k : Below B w w') (hB : a.heap.size ≤ B) (hm : w.drawn ≤ w'.drawn) : Bel a w' := ⟨Below.trans h.toBelow (Below.mono k hB), Nat.le_trans h.mono hm⟩
theorem Bel.grown {a w w' : World} {row : Option Nat} (h : Bel a w) (hg : w.grownBy w' row) (hr : ∀ k, row = some k → a.heap.size ≤ k) (hm : w.drawn ≤ w'.drawn) : Bel a w' := ⟨Below.grown h.toBelow hg h.size hr, Nat.le_trans h.mono hm⟩
theorem Bel.le {a w : World} (h : Bel a w) : a.heap.size ≤ w.heap.size := h.size

@[go_sem] theorem lt_sum1 (n m k1 : Nat) (h : n < m) : n < m + k1 := by omega
@[go_sem] theorem le_sum1 (n m k1 : Nat) (h : n ≤ m) : n ≤ m + k1 := by omega
@[go_sem] theorem ll_sum1 (n m k1 : Nat) (h : n < m) : n ≤ m + k1 := by omega
@[go_sem] theorem ne_sum1 (n m k1 : Nat) (h : n < m) : (n = m + k1) = False := eq_false (by omega)
@[go_sem] theorem nf_sum1 (n m k1 : Nat) (h : n < m) : (m + k1 = n) = False := eq_false (by omega)
@[go_sem] theorem lt_sum2 (n m k1 k2 : Nat) (h : n < m) : n < m + k1 + k2 := by omega
@[go_sem] theorem le_sum2 (n m k1 k2 : Nat) (h : n ≤ m) : n ≤ m + k1 + k2 := by omega
@[go_sem] theorem ll_sum2 (n m k1 k2 : Nat) (h : n < m) : n ≤ m + k1 + k2 := by omega
@[go_sem] theorem ne_sum2 (n m k1 k2 : Nat) (h : n < m) : (n = m + k1 + k2) = False := eq_false (by omega)
@[go_sem] theorem nf_sum2 (n m k1 k2 : Nat) (h : n < m) : (m + k1 + k2 = n) = False := eq_false (by omega)
@[go_sem] theorem lt_sum3 (n m k1 k2 k3 : Nat) (h : n < m) : n < m + k1 + k2 + k3 := by omega
@[go_sem] theorem le_sum3 (n m k1 k2 k3 : Nat) (h : n ≤ m) : n ≤ m + k1 + k2 + k3 := by omega
@[go_sem] theorem ll_sum3 (n m k1 k2 k3 : Nat) (h : n < m) : n ≤ m + k1 + k2 + k3 := by omega
@[go_sem] theorem ne_sum3 (n m k1 k2 k3 : Nat) (h : n < m) : (n = m + k1 + k2 + k3) = False := eq_false (by omega)
@[go_sem] theorem nf_sum3 (n m k1 k2 k3 : Nat) (h : n < m) : (m + k1 + k2 + k3 = n) = False := eq_false (by omega)
@[go_sem] theorem lt_sum4 (n m k1 k2 k3 k4 : Nat) (h : n < m) : n < m + k1 + k2 + k3 + k4 := by omega
@[go_sem] theorem le_sum4 (n m k1 k2 k3 k4 : Nat) (h : n ≤ m) : n ≤ m + k1 + k2 + k3 + k4 := by omega
@[go_sem] theorem ll_sum4 (n m k1 k2 k3 k4 : Nat) (h : n < m) : n ≤ m + k1 + k2 + k3 + k4 := by omega
@[go_sem] theorem ne_sum4 (n m k1 k2 k3 k4 : Nat) (h : n < m) : (n = m + k1 + k2 + k3 + k4) = False := eq_false (by omega)
@[go_sem] theorem nf_sum4 (n m k1 k2 k3 k4 : Nat) (h : n < m) : (m + k1 + k2 + k3 + k4 = n) = False := eq_false (by omega)
@[go_sem] theorem lt_sum5 (n m k1 k2 k3 k4 k5 : Nat) (h : n < m) : n < m + k1 + k2 + k3 + k4 + k5 := by omega
@[go_sem] theorem le_sum5 (n m k1 k2 k3 k4 k5 : Nat) (h : n ≤ m) : n ≤ m + k1 + k2 + k3 + k4 + k5 := by omega
@[go_sem] theorem ll_sum5 (n m k1 k2 k3 k4 k5 : Nat) (h : n < m) : n ≤ m + k1 + k2 + k3 + k4 + k5 := by omega
@[go_sem] theorem ne_sum5 (n m k1 k2 k3 k4 k5 : Nat) (h : n < m) : (n = m + k1 + k2 + k3 + k4 + k5) = False := eq_false (by omega)
@[go_sem] theorem nf_sum5 (n m k1 k2 k3 k4 k5 : Nat) (h : n < m) : (m + k1 + k2 + k3 + k4 + k5 = n) = False := eq_false (by omega)
@[go_sem] theorem lt_sum6 (n m k1 k2 k3 k4 k5 k6 : Nat) (h : n < m) : n < m + k1 + k2 + k3 + k4 + k5 + k6 := by omega
@[go_sem] theorem le_sum6 (n m k1 k2 k3 k4 k5 k6 : Nat) (h : n ≤ m) : n ≤ m + k1 + k2 + k3 + k4 + k5 + k6 := by omega
@[go_sem] theorem ll_sum6 (n m k1 k2 k3 k4 k5 k6 : Nat) (h : n < m) : n ≤ m + k1 + k2 + k3 + k4 + k5 + k6 := by omega
@[go_sem] theorem ne_sum6 (n m k1 k2 k3 k4 k5 k6 : Nat) (h : n < m) : (n = m + k1 + k2 + k3 + k4 + k5 + k6) = False := eq_false (by omega)
@[go_sem] theorem nf_sum6 (n m k1 k2 k3 k4 k5 k6 : Nat) (h : n < m) : (m + k1 + k2 + k3 + k4 + k5 + k6 = n) = False := eq_false (by omega)
@[go_sem] theorem lt_sum7 (n m k1 k2 k3 k4 k5 k6 k7 : Nat) (h : n < m) : n < m + k1 + k2 + k3 + k4 + k5 + k6 + k7 := by omega
@[go_sem] theorem le_sum7 (n m k1 k2 k3 k4 k5 k6 k7 : Nat) (h : n ≤ m) : n ≤ m + k1 + k2 + k3 + k4 + k5 + k6 + k7 := by omega
@[go_sem] theorem ll_sum7 (n m k1 k2 k3 k4 k5 k6 k7 : Nat) (h : n < m) : n ≤ m + k1 + k2 + k3 + k4 + k5 + k6 + k7 := by omega
@[go_sem] theorem ne_sum7 (n m k1 k2 k3 k4 k5 k6 k7 : Nat) (h : n < m) : (n = m + k1 + k2 + k3 + k4 + k5 + k6 + k7) = False := eq_false (by omega)
@[go_sem] theorem nf_sum7 (n m k1 k2 k3 k4 k5 k6 k7 : Nat) (h : n < m) : (m + k1 + k2 + k3 + k4 + k5 + k6 + k7 = n) = False := eq_false (by omega)
@[go_sem] theorem lt_sum8 (n m k1 k2 k3 k4 k5 k6 k7 k8 : Nat) (h : n < m) : n < m + k1 + k2 + k3 + k4 + k5 + k6 + k7 + k8 := by omega
@[go_sem] theorem le_sum8 (n m k1 k2 k3 k4 k5 k6 k7 k8 : Nat) (h : n ≤ m) : n ≤ m + k1 + k2 + k3 + k4 + k5 + k6 + k7 + k8 := by omega
@[go_sem] theorem ll_sum8 (n m k1 k2 k3 k4 k5 k6 k7 k8 : Nat) (h : n < m) : n ≤ m + k1 + k2 + k3 + k4 + k5 + k6 + k7 + k8 := by omega
@[go_sem] theorem ne_sum8 (n m k1 k2 k3 k4 k5 k6 k7 k8 : Nat) (h : n < m) : (n = m + k1 + k2 + k3 + k4 + k5 + k6 + k7 + k8) = False := eq_false (by omega)
@[go_sem] theorem nf_sum8 (n m k1 k2 k3 k4 k5 k6 k7 k8 : Nat) (h : n < m) : (m + k1 + k2 + k3 + k4 + k5 + k6 + k7 + k8 = n) = False := eq_false (by omega)
@[go_sem] theorem lt_sum9 (n m k1 k2 k3 k4 k5 k6 k7 k8 k9 : Nat) (h : n < m) : n < m + k1 + k2 + k3 + k4 + k5 + k6 + k7 + k8 + k9 := by omega
@[go_sem] theorem le_sum9 (n m k1 k2 k3 k4 k5 k6 k7 k8 k9 : Nat) (h : n ≤ m) : n ≤ m + k1 + k2 + k3 + k4 + k5 + k6 + k7 + k8 + k9 := by omega
@[go_sem] theorem ll_sum9 (n m k1 k2 k3 k4 k5 k6 k7 k8 k9 : Nat) (h : n < m) : n ≤ m + k1 + k2 + k3 + k4 + k5 + k6 + k7 + k8 + k9 := by omega
@[go_sem] theorem ne_sum9 (n m k1 k2 k3 k4 k5 k6 k7 k8 k9 : Nat) (h : n < m) : (n = m + k1 + k2 + k3 + k4 + k5 + k6 + k7 + k8 + k9) = False := eq_false (by omega)
@[go_sem] theorem nf_sum9 (n m k1 k2 k3 k4 k5 k6 k7 k8 k9 : Nat) (h : n < m) : (m + k1 + k2 + k3 + k4 + k5 + k6 + k7 + k8 + k9 = n) = False := eq_false (by omega)
@[go_sem] theorem lt_sum10 (n m k1 k2 k3 k4 k5 k6 k7 k8 k9 k10 : Nat) (h : n < m) : n < m + k1 + k2 + k3 + k4 + k5 + k6 + k7 + k8 + k9 + k10 := by omega
@[go_sem] theorem le_sum10 (n m k1 k2 k3 k4 k5 k6 k7 k8 k9 k10 : Nat) (h : n ≤ m) : n ≤ m + k1 + k2 + k3 + k4 + k5 + k6 + k7 + k8 + k9 + k10 := by omega
@[go_sem] theorem ll_sum10 (n m k1 k2 k3 k4 k5 k6 k7 k8 k9 k10 : Nat) (h : n < m) : n ≤ m + k1 + k2 + k3 + k4 + k5 + k6 + k7 + k8 + k9 + k10 := by omega
@[go_sem] theorem ne_sum10 (n m k1 k2 k3 k4 k5 k6 k7 k8 k9 k10 : Nat) (h : n < m) : (n = m + k1 + k2 + k3 + k4 + k5 + k6 + k7 + k8 + k9 + k10) = False := eq_false (by omega)
@[go_sem] theorem nf_sum10 (n m k1 k2 k3 k4 k5 k6 k7 k8 k9 k10 : Nat) (h : n < m) : (m + k1 + k2 + k3 + k4 + k5 + k6 + k7 + k8 + k9 + k10 = n) = False := eq_false (by omega)
@[go_sem] theorem lt_sum11 (n m k1 k2 k3 k4 k5 k6 k7 k8 k9 k10 k11 : Nat) (h : n < m) : n < m + k1 + k2 + k3 + k4 + k5 + k6 + k7 + k8 + k9 + k10 + k11 := by omega
@[go_sem] theorem le_sum11 (n m k1 k2 k3 k4 k5 k6 k7 k8 k9 k10 k11 : Nat) (h : n ≤ m) : n ≤ m + k1 + k2 + k3 + k4 + k5 + k6 + k7 + k8 + k9 + k10 + k11 := by omega
@[go_sem] theorem ll_sum11 (n m k1 k2 k3 k4 k5 k6 k7 k8 k9 k10 k11 : Nat) (h : n < m) : n ≤ m + k1 + k2 + k3 + k4 + k5 + k6 + k7 + k8 + k9 + k10 + k11 := by omega
@[go_sem] theorem ne_sum11 (n m k1 k2 k3 k4 k5 k6 k7 k8 k9 k10 k11 : Nat) (h : n < m) : (n = m + k1 + k2 + k3 + k4 + k5 + k6 + k7 + k8 + k9 + k10 + k11) = False := eq_false (by omega)
@[go_sem] theorem nf_sum11 (n m k1 k2 k3 k4 k5 k6 k7 k8 k9 k10 k11 : Nat) (h : n < m) : (m + k1 + k2 + k3 + k4 + k5 + k6 + k7 + k8 + k9 + k10 + k11 = n) = False := eq_false (by omega)
@[go_sem] theorem lt_sum12 (n m k1 k2 k3 k4 k5 k6 k7 k8 k9 k10 k11 k12 : Nat) (h : n < m) : n < m + k1 + k2 + k3 + k4 + k5 + k6 + k7 + k8 + k9 + k10 + k11 + k12 := by omega
@[go_sem] theorem le_sum12 (n m k1 k2 k3 k4 k5 k6 k7 k8 k9 k10 k11 k12 : Nat) (h : n ≤ m) : n ≤ m + k1 + k2 + k3 + k4 + k5 + k6 + k7 + k8 + k9 + k10 + k11 + k12 := by omega
@[go_sem] theorem ll_sum12 (n m k1 k2 k3 k4 k5 k6 k7 k8 k9 k10 k11 k12 : Nat) (h : n < m) : n ≤ m + k1 + k2 + k3 + k4 + k5 + k6 + k7 + k8 + k9 + k10 + k11 + k12 := by omega
@[go_sem] theorem ne_sum12 (n m k1 k2 k3 k4 k5 k6 k7 k8 k9 k10 k11 k12 : Nat) (h : n < m) : (n = m + k1 + k2 + k3 + k4 + k5 + k6 + k7 + k8 + k9 + k10 + k11 + k12) = False := eq_false (by omega)
@[go_sem] theorem nf_sum12 (n m k1 k2 k3 k4 k5 k6 k7 k8 k9 k10 k11 k12 : Nat) (h : n < m) : (m + k1 + k2 + k3 + k4 + k5 + k6 + k7 + k8 + k9 + k10 + k11 + k12 = n) = False := eq_false (by omega)
@[go_sem] theorem lt_sum13 (n m k1 k2 k3 k4 k5 k6 k7 k8 k9 k10 k11 k12 k13 : Nat) (h : n < m) : n < m + k1 + k2 + k3 + k4 + k5 + k6 + k7 + k8 + k9 + k10 + k11 + k12 + k13 := by omega
@[go_sem] theorem le_sum13 (n m k1 k2 k3 k4 k5 k6 k7 k8 k9 k10 k11 k12 k13 : Nat) (h : n ≤ m) : n ≤ m + k1 + k2 + k3 + k4 + k5 + k6 + k7 + k8 + k9 + k10 + k11 + k12 + k13 := by omega
@[go_sem] theorem ll_sum13 (n m k1 k2 k3 k4 k5 k6 k7 k8 k9 k10 k11 k12 k13 : Nat) (h : n < m) : n ≤ m + k1 + k2 + k3 + k4 + k5 + k6 + k7 + k8 + k9 + k10 + k11 + k12 + k13 := by omega
@[go_sem] theorem ne_sum13 (n m k1 k2 k3 k4 k5 k6 k7 k8 k9 k10 k11 k12 k13 : Nat) (h : n < m) : (n = m + k1 + k2 + k3 + k4 + k5 + k6 + k7 + k8 + k9 + k10 + k11 + k12 + k13) = False := eq_false (by omega)
@[go_sem] theorem nf_sum13 (n m k1 k2 k3 k4 k5 k6 k7 k8 k9 k10 k11 k12 k13 : Nat) (h : n < m) : (m + k1 + k2 + k3 + k4 + k5 + k6 + k7 + k8 + k9 + k10 + k11 + k12 + k13 = n) = False := eq_false (by omega)
@[go_sem] theorem lt_sum14 (n m k1 k2 k3 k4 k5 k6 k7 k8 k9 k10 k11 k12 k13 k14 : Nat) (h : n < m) : n < m + k1 + k2 + k3 + k4 + k5 + k6 + k7 + k8 + k9 + k10 + k11 + k12 + k13 + k14 := by omega
@[go_sem] theorem le_sum14 (n m k1 k2 k3 k4 k5 k6 k7 k8 k9 k10 k11 k12 k13 k14 : Nat) (h : n ≤ m) : n ≤ m + k1 + k2 + k3 + k4 + k5 + k6 + k7 + k8 + k9 + k10 + k11 + k12 + k13 + k14 := by omega
@[go_sem] theorem ll_sum14 (n m k1 k2 k3 k4 k5 k6 k7 k8 k9 k10 k11 k12 k13 k14 : Nat) (h : n < m) : n ≤ m + k1 + k2 + k3 + k4 + k5 + k6 + k7 + k8 + k9 + k10 + k11 + k12 + k13 + k14 := by omega
@[go_sem] theorem ne_sum14 (n m k1 k2 k3 k4 k5 k6 k7 k8 k9 k10 k11 k12 k13 k14 : Nat) (h : n < m) : (n = m + k1 + k2 + k3 + k4 + k5 + k6 + k7 + k8 + k9 + k10 + k11 + k12 + k13 + k14) = False := eq_false (by omega)
@[go_sem] theorem nf_sum14 (n m k1 k2 k3 k4 k5 k6 k7 k8 k9 k10 k11 k12 k13 k14 : Nat) (h : n < m) : (m + k1 + k2 + k3 + k4 + k5 + k6 + k7 + k8 + k9 + k10 + k11 + k12 + k13 + k14 = n) = False := eq_false (by omega)
@[go_sem] theorem lt_sum15 (n m k1 k2 k3 k4 k5 k6 k7 k8 k9 k10 k11 k12 k13 k14 k15 : Nat) (h : n < m) : n < m + k1 + k2 + k3 + k4 + k5 + k6 + k7 + k8 + k9 + k10 + k11 + k12 + k13 + k14 + k15 := by omega
@[go_sem] theorem le_sum15 (n m k1 k2 k3 k4 k5 k6 k7 k8 k9 k10 k11 k12 k13 k14 k15 : Nat) (h : n ≤ m) : n ≤ m + k1 + k2 + k3 + k4 + k5 + k6 + k7 + k8 + k9 + k10 + k11 + k12 + k13 + k14 + k15 := by omega
@[go_sem] theorem ll_sum15 (n m k1 k2 k3 k4 k5 k6 k7 k8 k9 k10 k11 k12 k13 k14 k15 : Nat) (h : n < m) : n ≤ m + k1 + k2 + k3 + k4 + k5 + k6 + k7 + k8 + k9 + k10 + k11 + k12 + k13 + k14 + k15 := by omega
@[go_sem] theorem ne_sum15 (n m k1 k2 k3 k4 k5 k6 k7 k8 k9 k10 k11 k12 k13 k14 k15 : Nat) (h : n < m) : (n = m + k1 + k2 + k3 + k4 + k5 + k6 + k7 + k8 + k9 + k10 + k11 + k12 + k13 + k14 + k15) = False := eq_false (by omega)
@[go_sem] theorem nf_sum15 (n m k1 k2 k3 k4 k5 k6 k7 k8 k9 k10 k11 k12 k13 k14 k15 : Nat) (h : n < m) : (m + k1 + k2 + k3 + k4 + k5 + k6 + k7 + k8 + k9 + k10 + k11 + k12 + k13 + k14 + k15 = n) = False := eq_false (by omega)
@[go_sem] theorem lt_sum16 (n m k1 k2 k3 k4 k5 k6 k7 k8 k9 k10 k11 k12 k13 k14 k15 k16 : Nat) (h : n < m) : n < m + k1 + k2 + k3 + k4 + k5 + k6 + k7 + k8 + k9 + k10 + k11 + k12 + k13 + k14 + k15 + k16 := by omega
@[go_sem] theorem le_sum16 (n m k1 k2 k3 k4 k5 k6 k7 k8 k9 k10 k11 k12 k13 k14 k15 k16 : Nat) (h : n ≤ m) : n ≤ m + k1 + k2 + k3 + k4 + k5 + k6 + k7 + k8 + k9 + k10 + k11 + k12 + k13 + k14 + k15 + k16 := by omega
@[go_sem] theorem ll_sum16 (n m k1 k2 k3 k4 k5 k6 k7 k8 k9 k10 k11 k12 k13 k14 k15 k16 : Nat) (h : n < m) : n ≤ m + k1 + k2 + k3 + k4 + k5 + k6 + k7 + k8 + k9 + k10 + k11 + k12 + k13 + k14 + k15 + k16 := by omega
@[go_sem] theorem ne_sum16 (n m k1 k2 k3 k4 k5 k6 k7 k8 k9 k10 k11 k12 k13 k14 k15 k16 : Nat) (h : n < m) : (n = m + k1 + k2 + k3 + k4 + k5 + k6 + k7 + k8 + k9 + k10 + k11 + k12 + k13 + k14 + k15 + k16) = False := eq_false (by omega)
@[go_sem] theorem nf_sum16 (n m k1 k2 k3 k4 k5 k6 k7 k8 k9 k10 k11 k12 k13 k14 k15 k16 : Nat) (h : n < m) : (m + k1 + k2 + k3 + k4 + k5 + k6 + k7 + k8 + k9 + k10 + k11 + k12 + k13 + k14 + k15 + k16 = n) = False := eq_false (by omega)
@[go_sem] theorem lt_sum17 (n m k1 k2 k3 k4 k5 k6 k7 k8 k9 k10 k11 k12 k13 k14 k15 k16 k17 : Nat) (h : n < m) : n < m + k1 + k2 + k3 + k4 + k5 + k6 + k7 + k8 + k9 + k10 + k11 + k12 + k13 + k14 + k15 + k16 + k17 := by omega
@[go_sem] theorem le_sum17 (n m k1 k2 k3 k4 k5 k6 k7 k8 k9 k10 k11 k12 k13 k14 k15 k16 k17 : Nat) (h : n ≤ m) : n ≤ m + k1 + k2 + k3 + k4 + k5 + k6 + k7 + k8 + k9 + k10 + k11 + k12 + k13 + k14 + k15 + k16 + k17 := by omega
@[go_sem] theorem ll_sum17 (n m k1 k2 k3 k4 k5 k6 k7 k8 k9 k10 k11 k12 k13 k14 k15 k16 k17 : Nat) (h : n < m) : n ≤ m + k1 + k2 + k3 + k4 + k5 + k6 + k7 + k8 + k9 + k10 + k11 + k12 + k13 + k14 + k15 + k16 + k17 := by omega
@[go_sem] theorem ne_sum17 (n m k1 k2 k3 k4 k5 k6 k7 k8 k9 k10 k11 k12 k13 k14 k15 k16 k17 : Nat) (h : n < m) : (n = m + k1 + k2 + k3 + k4 + k5 + k6 + k7 + k8 + k9 + k10 + k11 + k12 + k13 + k14 + k15 + k16 + k17) = False := eq_false (by omega)
@[go_sem] theorem nf_sum17 (n m k1 k2 k3 k4 k5 k6 k7 k8 k9 k10 k11 k12 k13 k14 k15 k16 k17 : Nat) (h : n < m) : (m + k1 + k2 + k3 + k4 + k5 + k6 + k7 + k8 + k9 + k10 + k11 + k12 + k13 + k14 + k15 + k16 + k17 = n) = False := eq_false (by omega)
@[go_sem] theorem lt_sum18 (n m k1 k2 k3 k4 k5 k6 k7 k8 k9 k10 k11 k12 k13 k14 k15 k16 k17 k18 : Nat) (h : n < m) : n < m + k1 + k2 + k3 + k4 + k5 + k6 + k7 + k8 + k9 + k10 + k11 + k12 + k13 + k14 + k15 + k16 + k17 + k18 := by omega
@[go_sem] theorem le_sum18 (n m k1 k2 k3 k4 k5 k6 k7 k8 k9 k10 k11 k12 k13 k14 k15 k16 k17 k18 : Nat) (h : n ≤ m) : n ≤ m + k1 + k2 + k3 + k4 + k5 + k6 + k7 + k8 + k9 + k10 + k11 + k12 + k13 + k14 + k15 + k16 + k17 + k18 := by omega
@[go_sem] theorem ll_sum18 (n m k1 k2 k3 k4 k5 k6 k7 k8 k9 k10 k11 k12 k13 k14 k15 k16 k17 k18 : Nat) (h : n < m) : n ≤ m + k1 + k2 + k3 + k4 + k5 + k6 + k7 + k8 + k9 + k10 + k11 + k12 + k13 + k14 + k15 + k16 + k17 + k18 := by omega
@[go_sem] theorem ne_sum18 (n m k1 k2 k3 k4 k5 k6 k7 k8 k9 k10 k11 k12 k13 k14 k15 k16 k17 k18 : Nat) (h : n < m) : (n = m + k1 + k2 + k3 + k4 + k5 + k6 + k7 + k8 + k9 + k10 + k11 + k12 + k13 + k14 + k15 + k16 + k17 + k18) = False := eq_false (by omega)
@[go_sem] theorem nf_sum18 (n m k1 k2 k3 k4 k5 k6 k7 k8 k9 k10 k11 k12 k13 k14 k15 k16 k17 k18 : Nat) (h : n < m) : (m + k1 + k2 + k3 + k4 + k5 + k6 + k7 + k8 + k9 + k10 + k11 + k12 + k13 + k14 + k15 + k16 + k17 + k18 = n) = False := eq_false (by omega)
@[go_sem] theorem lt_sum19 (n m k1 k2 k3 k4 k5 k6 k7 k8 k9 k10 k11 k12 k13 k14 k15 k16 k17 k18 k19 : Nat) (h : n < m) : n < m + k1 + k2 + k3 + k4 + k5 + k6 + k7 + k8 + k9 + k10 + k11 + k12 + k13 + k14 + k15 + k16 + k17 + k18 + k19 := by omega
@[go_sem] theorem le_sum19 (n m k1 k2 k3 k4 k5 k6 k7 k8 k9 k10 k11 k12 k13 k14 k15 k16 k17 k18 k19 : Nat) (h : n ≤ m) : n ≤ m + k1 + k2 + k3 + k4 + k5 + k6 + k7 + k8 + k9 + k10 + k11 + k12 + k13 + k14 + k15 + k16 + k17 + k18 + k19 := by omega
@[go_sem] theorem ll_sum19 (n m k1 k2 k3 k4 k5 k6 k7 k8 k9 k10 k11 k12 k13 k14 k15 k16 k17 k18 k19 : Nat) (h : n < m) : n ≤ m + k1 + k2 + k3 + k4 + k5 + k6 + k7 + k8 + k9 + k10 + k11 + k12 + k13 + k14 + k15 + k16 + k17 + k18 + k19 := by omega
@[go_sem] theorem ne_sum19 (n m k1 k2 k3 k4 k5 k6 k7 k8 k9 k10 k11 k12 k13 k14 k15 k16 k17 k18 k19 : Nat) (h : n < m) : (n = m + k1 + k2 + k3 + k4 + k5 + k6 + k7 + k8 + k9 + k10 + k11 + k12 + k13 + k14 + k15 + k16 + k17 + k18 + k19) = False := eq_false (by omega)
@[go_sem] theorem nf_sum19 (n m k1 k2 k3 k4 k5 k6 k7 k8 k9 k10 k11 k12 k13 k14 k15 k16 k17 k18 k19 : Nat) (h : n < m) : (m + k1 + k2 + k3 + k4 + k5 + k6 + k7 + k8 + k9 + k10 + k11 + k12 + k13 + k14 + k15 + k16 + k17 + k18 + k19 = n) = False := eq_false (by omega)
@[go_sem] theorem lt_sum20 (n m k1 k2 k3 k4 k5 k6 k7 k8 k9 k10 k11 k12 k13 k14 k15 k16 k17 k18 k19 k20 : Nat) (h : n < m) : n < m + k1 + k2 + k3 + k4 + k5 + k6 + k7 + k8 + k9 + k10 + k11 + k12 + k13 + k14 + k15 + k16 + k17 + k18 + k19 + k20 := by omega
@[go_sem] theorem le_sum20 (n m k1 k2 k3 k4 k5 k6 k7 k8 k9 k10 k11 k12 k13 k14 k15 k16 k17 k18 k19 k20 : Nat) (h : n ≤ m) : n ≤ m + k1 + k2 + k3 + k4 + k5 + k6 + k7 + k8 + k9 + k10 + k11 + k12 + k13 + k14 + k15 + k16 + k17 + k18 + k19 + k20 := by omega
@[go_sem] theorem ll_sum20 (n m k1 k2 k3 k4 k5 k6 k7 k8 k9 k10 k11 k12 k13 k14 k15 k16 k17 k18 k19 k20 : Nat) (h : n < m) : n ≤ m + k1 + k2 + k3 + k4 + k5 + k6 + k7 + k8 + k9 + k10 + k11 + k12 + k13 + k14 + k15 + k16 + k17 + k18 + k19 + k20 := by omega
@[go_sem] theorem ne_sum20 (n m k1 k2 k3 k4 k5 k6 k7 k8 k9 k10 k11 k12 k13 k14 k15 k16 k17 k18 k19 k20 : Nat) (h : n < m) : (n = m + k1 + k2 + k3 + k4 + k5 + k6 + k7 + k8 + k9 + k10 + k11 + k12 + k13 + k14 + k15 + k16 + k17 + k18 + k19 + k20) = False := eq_false (by omega)
@[go_sem] theorem nf_sum20 (n m k1 k2 k3 k4 k5 k6 k7 k8 k9 k10 k11 k12 k13 k14 k15 k16 k17 k18 k19 k20 : Nat) (h : n < m) : (m + k1 + k2 + k3 + k4 + k5 + k6 + k7 + k8 + k9 + k10 + k11 + k12 + k13 + k14 + k15 + k16 + k17 + k18 + k19 + k20 = n) = False := eq_false (by omega)
@[go_sem] theorem cell_ext (w : World) (x : Beyond) (n i : Nat) (h : n < w.heap.size) : (ext w x).cell? ⟨n, i, none⟩ = w.cell? ⟨n, i, none⟩ := Below.cell (p := ⟨n, i, none⟩) (bel_ext w x).toBelow h
@[go_sem] theorem frozen_ext (w : World) (x : Beyond) (n i : Nat) (h : n < w.heap.size) : (ext w x).frozen? ⟨n, i, none⟩ = w.frozen? ⟨n, i, none⟩ := Below.frozen (p := ⟨n, i, none⟩) (bel_ext w x).toBelow h
theorem heap_ext (w : World) (x : Beyond) (n : Nat) (h : n < w.heap.size) : (ext w x).heap[n]? = w.heap[n]? := (bel_ext w x).block n h
@[go_sem] theorem shape_ext (w : World) (x : Beyond) (n : Nat) (h : n < w.heap.size) : (ext w x).shape? n = w.shape? n := by
  unfold World.shape?; rw [heap_ext w x n h]

@[go_sem] theorem drew_ext (w : World) (x : Beyond) : (ext w x).drew = ext w (x.drewN 1) := rfl
@[go_sem] theorem drewN_ext (w : World) (x : Beyond) (n : Nat) : (ext w x).drewN n = ext w (x.drewN n) := by simp [ext, Beyond.drewN, World.drewN, Nat.add_assoc]
@[go_sem] theorem ext_ext (w : World) (x y : Beyond) : ext (ext w x) y = ext w (x.and y) := by simp [ext, Beyond.and, Array.append_assoc, Nat.add_assoc]
@[go_sem] theorem ext_drewN (w : World) (x : Beyond) (n : Nat) : ext (w.drewN n) x = ext w (x.drewN n) := by
  have h : w.drawn + n + x.drawn = w.drawn + (x.drawn + n) := by omega
  show ({ w with heap := w.heap ++ x.objs, drawn := w.drawn + n + x.drawn } : World) = _
  rw [h]; rfl
@[go_sem] theorem ext_drew (w : World) (x : Beyond) : ext w.drew x = ext w (x.drewN 1) := by
  have h : w.drawn + 1 + x.drawn = w.drawn + (x.drawn + 1) := by omega
  show ({ w with heap := w.heap ++ x.objs, drawn := w.drawn + 1 + x.drawn } : World) = _
  rw [h]; rfl
theorem modify_left {α : Type} (xs ys : Array α) (n : Nat) (f : α → α) (h : n < xs.size) : (xs ++ ys).modify n f = xs.modify n f ++ ys := by
  apply Array.ext_getElem?
  intro k
  rw [Array.getElem?_modify]
  rcases Nat.lt_or_ge k xs.size with hk | hk
  · rw [Array.getElem?_append_left hk, Array.getElem?_append_left (by simpa using hk), Array.getElem?_modify]
  · rw [if_neg (by omega), Array.getElem?_append_right hk, Array.getElem?_append_right (by simpa using hk)]; simp
@[go_sem] theorem setCell_ext (w : World) (x : Beyond) (n i : Nat) (u : Value) (h : n < w.heap.size) : (ext w x).setCell ⟨n, i, none⟩ u = ext (w.setCell ⟨n, i, none⟩ u) x := by
  simp only [World.setCell, ext]; rw [modify_left _ _ _ _ h]

@[go_sem] theorem cell_and (w : World) (x y : Beyond) (n i : Nat) (h : n < w.heap.size + x.len) : (ext w (x.and y)).cell? ⟨n, i, none⟩ = (ext w x).cell? ⟨n, i, none⟩ := by
  rw [← ext_ext]; exact cell_ext _ _ _ _ (by rw [size_ext]; exact h)
@[go_sem] theorem frozen_and (w : World) (x y : Beyond) (n i : Nat) (h : n < w.heap.size + x.len) : (ext w (x.and y)).frozen? ⟨n, i, none⟩ = (ext w x).frozen? ⟨n, i, none⟩ := by
  rw [← ext_ext]; exact frozen_ext _ _ _ _ (by rw [size_ext]; exact h)
@[go_sem] theorem cell_drews (w : World) (x : Beyond) (n : Nat) (a : Addr) : (ext w (x.drewN n)).cell? a = (ext w x).cell? a := rfl
@[go_sem] theorem frozen_drews (w : World) (x : Beyond) (n : Nat) (a : Addr) : (ext w (x.drewN n)).frozen? a = (ext w x).frozen? a := rfl
theorem bel_and {a w : World} {x : Beyond} (h : Bel a (Go.ext w x)) (y : Beyond) : Bel a (Go.ext w (x.and y)) := by rw [← ext_ext]; exact h.ext y
theorem bel_drews {a w : World} {x : Beyond} (h : Bel a (Go.ext w x)) (n : Nat) : Bel a (Go.ext w (x.drewN n)) := by rw [← drewN_ext]; exact h.drewN n
theorem ext_of1 {w w' : World} {x : Beyond} (h : Bel (Go.ext w x) w') : ∃ y, w' = Go.ext w (x.and y) := by
  obtain ⟨y, rfl⟩ := Go.ext_of h; exact ⟨y, ext_ext w x y⟩
/-- A callee's contract in a quiet walk over the class of all 'ext w x'. -/
theorem Calls.ext_of {P : Program} {f : FuncId} {args : Array Value} {w : World} {x : Beyond} {v : Value}
    (h : Calls P f args (ext w x) fun e w' => e = .returned v ∧ ∃ y, w' = ext (ext w x) y) : Calls P f args (ext w x) fun e w'' => e = .returned v ∧ ∃ y, w'' = ext w y :=
  h.mono fun _ _ ⟨he, y, hy⟩ => ⟨he, x.and y, by rw [hy, ext_ext]⟩
/-- The same where the class is that of all worlds behind 'ext w z'. -/
theorem Calls.ext_of1 {P : Program} {f : FuncId} {args : Array Value} {w : World} {z x : Beyond} {v : Value}
    (h : Calls P f args (ext w (z.and x)) fun e w' => e = .returned v ∧ ∃ y, w' = ext (ext w (z.and x)) y) : Calls P f args (ext w (z.and x)) fun e w'' => e = .returned v ∧ ∃ y, w'' = ext w (z.and y) :=
  h.mono fun _ _ ⟨he, y, hy⟩ => ⟨he, Go.ext_of1 (by rw [hy]; exact (bel_and (Bel.refl _) x).ext y)⟩
/-- A contract's world, seen from an elder one. -/
theorem ret_ext {w0 w : World} (hb : Bel w0 w) {e : Ending} {w' : World} {v : Value} (h : e = .returned v ∧ ∃ y, w' = ext w y) : e = .returned v ∧ ∃ y, w' = ext w0 y :=
  let ⟨he, y, hy⟩ := h
  ⟨he, Go.ext_of (by rw [hy]; exact hb.ext y)⟩
attribute [irreducible] ext Beyond.len
end Go

namespace Go.Pel
/-- P1.1 -/
def ratioOk (n d : Int) : Bool := decide (1 ≤ d ∧ n ≠ -9223372036854775808 ∧ Nat.gcd d.toNat n.natAbs = 1)
def ratioChk (n d : Int) : Int := if ratioOk n d then 0 else 8
theorem ratioChk_low {n d : Int} (h : d < 1) : ratioChk n d = 8 := by unfold ratioChk ratioOk; rw [if_neg]; simp; omega
theorem ratioChk_min {d : Int} : ratioChk (-9223372036854775808) d = 8 := by unfold ratioChk ratioOk; rw [if_neg]; simp
theorem ratioChk_one {n d : Int} (h1 : 1 ≤ d) (h2 : n ≠ -9223372036854775808) (h3 : Nat.gcd d.toNat n.natAbs = 1) : ratioChk n d = 0 := by unfold ratioChk ratioOk; rw [if_pos]; simp; exact ⟨h1, h2, h3⟩
theorem ratioChk_more {n d : Int} (h3 : Nat.gcd d.toNat n.natAbs ≠ 1) : ratioChk n d = 8 := by unfold ratioChk ratioOk; rw [if_neg]; simp; intro _ _; exact h3
theorem gcd_one {n d : Int} (h : 1 ≤ d) (k : ¬ 1 < Nat.gcd d.toNat n.natAbs) : Nat.gcd d.toNat n.natAbs = 1 := by
  have : 0 < Nat.gcd d.toNat n.natAbs := Nat.gcd_pos_of_pos_left _ (by omega)
  omega
theorem ratioChk_cases (n d : Int) : ratioChk n d = 0 ∨ ratioChk n d = 8 := by unfold ratioChk; split <;> simp
theorem ratioChk_zero {n d : Int} (h : ratioChk n d = 0) : 1 ≤ d ∧ n ≠ -9223372036854775808 ∧ Nat.gcd d.toNat n.natAbs = 1 := by
  unfold ratioChk ratioOk at h; split at h
  · rename_i h'; simpa using h'
  · omega
theorem ratioChk_le (n d : Int) : 0 ≤ ratioChk n d ∧ ratioChk n d ≤ 8 := by rcases ratioChk_cases n d with h | h <;> rw [h] <;> omega
/-- P1.1, asked for -/
def ratioAsked (n d : Int) : Int := if ratioOk n d then (if (n.natAbs ≤ 1073741824 ∧ d ≤ 1024) then 0 else 2) else 8
theorem asked_bad {n d : Int} (h : ratioChk n d = 8) : ratioAsked n d = 8 := by
  unfold ratioAsked; unfold ratioChk at h; split at h
  · omega
  · rename_i h'; rw [if_neg h']
theorem asked_yes {n d : Int} (h : ratioChk n d = 0) (h1 : n.natAbs ≤ 1073741824) (h2 : d ≤ 1024) : ratioAsked n d = 0 := by
  unfold ratioAsked; unfold ratioChk at h; split at h
  · rename_i h'; rw [if_pos h', if_pos ⟨h1, h2⟩]
  · omega
theorem asked_no {n d : Int} (h : ratioChk n d = 0) (h1 : ¬ (n.natAbs ≤ 1073741824 ∧ d ≤ 1024)) : ratioAsked n d = 2 := by
  unfold ratioAsked; unfold ratioChk at h; split at h
  · rename_i h'; rw [if_pos h', if_neg h1]
  · omega
/-- P2.1 -/
def pointOk (i a b : Int) : Bool := decide (0 ≤ i ∧ i ≤ 65535 ∧ -1048576 ≤ a ∧ a ≤ 1048576 ∧ -1048576 ≤ b ∧ b ≤ 1048576)
def pointChk (i a b : Int) : Int := if pointOk i a b then 0 else 8
theorem pointChk_yes {i a b : Int} (h : 0 ≤ i ∧ i ≤ 65535 ∧ -1048576 ≤ a ∧ a ≤ 1048576 ∧ -1048576 ≤ b ∧ b ≤ 1048576) : pointChk i a b = 0 := by unfold pointChk pointOk; rw [if_pos]; simpa using h
theorem pointChk_no {i a b : Int} (h : ¬ (0 ≤ i ∧ i ≤ 65535 ∧ -1048576 ≤ a ∧ a ≤ 1048576 ∧ -1048576 ≤ b ∧ b ≤ 1048576)) : pointChk i a b = 8 := by unfold pointChk pointOk; rw [if_neg]; simpa using h
theorem pointChk_cases (i a b : Int) : pointChk i a b = 0 ∨ pointChk i a b = 8 := by unfold pointChk; split <;> simp
theorem pointChk_zero {i a b : Int} (h : pointChk i a b = 0) : 0 ≤ i ∧ i ≤ 65535 ∧ -1048576 ≤ a ∧ a ≤ 1048576 ∧ -1048576 ≤ b ∧ b ≤ 1048576 := by
  unfold pointChk pointOk at h; split at h
  · rename_i h'; simpa using h'
  · omega
def far (n : Int) : Bool := decide (n < -1048576 ∨ 1048576 < n)
theorem far_yes {n : Int} (h : n < -1048576 ∨ 1048576 < n) : far n = true := by unfold far; exact decide_eq_true h
theorem far_no {n : Int} (h : ¬ (n < -1048576 ∨ 1048576 < n)) : far n = false := by unfold far; exact decide_eq_false h
theorem far_eq (n : Int) : far n = (decide (n < -1048576) || decide (1048576 < n)) := by unfold far; rw [Bool.eq_iff_iff]; simp
theorem far_true {n : Int} (h : far n = true) : n < -1048576 ∨ 1048576 < n := by unfold far at h; simpa using h
theorem far_false {n : Int} (h : far n = false) : -1048576 ≤ n ∧ n ≤ 1048576 := by unfold far at h; simp at h; omega
theorem far_iff (n : Int) : (far n = true) ↔ (n < -1048576 ∨ 1048576 < n) := by unfold far; simp
theorem far_iff_false (n : Int) : (far n = false) ↔ (-1048576 ≤ n ∧ n ≤ 1048576) := by unfold far; simp
/-- a fraction out of a sign and sizes: numerator, denominator, error -/
def bld (neg : Bool) (hi lo dhi dlo : Nat) : Int × Int × Int :=
  if 0 < hi ∨ 9223372036854775807 < lo ∨ 0 < dhi ∨ 9223372036854775807 < dlo then (0, 0, 16) else (if neg then -(lo : Int) else lo, dlo, 0)
theorem bld_no {neg : Bool} {hi lo dhi dlo : Nat} (h : 0 < hi ∨ 9223372036854775807 < lo ∨ 0 < dhi ∨ 9223372036854775807 < dlo) : bld neg hi lo dhi dlo = (0, 0, 16) := by unfold bld; rw [if_pos h]
theorem bld_neg {hi lo dhi dlo : Nat} (h : ¬ (0 < hi ∨ 9223372036854775807 < lo ∨ 0 < dhi ∨ 9223372036854775807 < dlo)) : bld true hi lo dhi dlo = (-(lo : Int), (dlo : Int), 0) := by unfold bld; rw [if_neg h]; rfl
theorem bld_pos {hi lo dhi dlo : Nat} (h : ¬ (0 < hi ∨ 9223372036854775807 < lo ∨ 0 < dhi ∨ 9223372036854775807 < dlo)) : bld false hi lo dhi dlo = ((lo : Int), (dlo : Int), 0) := by unfold bld; rw [if_neg h]; rfl
theorem bld_zero (a b : Bool) (dhi dlo : Nat) : bld a 0 0 dhi dlo = bld b 0 0 dhi dlo := by unfold bld; simp
/-- P1.2 -/
def mk (n d : Int) : Int × Int × Int :=
  if d = 0 then (0, 0, 26) else bld (decide (n < 0) != decide (d < 0)) 0 (n.natAbs / Nat.gcd n.natAbs d.natAbs) 0 (d.natAbs / Nat.gcd n.natAbs d.natAbs)
theorem mk_zero (n : Int) : mk n 0 = (0, 0, 26) := by unfold mk; rw [if_pos rfl]
theorem mk_some {n d : Int} (h : d ≠ 0) : mk n d = bld (decide (n < 0) != decide (d < 0)) 0 (n.natAbs / Nat.gcd n.natAbs d.natAbs) 0 (d.natAbs / Nat.gcd n.natAbs d.natAbs) := by unfold mk; rw [if_neg h]
theorem mk_gcd_pos {n d : Int} (h : d ≠ 0) : 1 ≤ Nat.gcd n.natAbs d.natAbs := Nat.gcd_pos_of_pos_right _ (by omega)
theorem div_bound {a g B : Nat} (h : a < B) : a / g < B := Nat.lt_of_le_of_lt (Nat.div_le_self _ _) h
theorem mk_some' {n d : Int} (h : d ≠ 0) : mk n d = bld (!(decide (n < 0) == decide (d < 0))) 0 (n.natAbs / Nat.gcd n.natAbs d.natAbs) 0 (d.natAbs / Nat.gcd n.natAbs d.natAbs) := mk_some h
theorem mk_ref1 {n d : Int} (h : d ≠ 0) (k : (!(decide (n < 0) == decide (d < 0))) = true) : mk n d = bld (n != 0) 0 (n.natAbs / Nat.gcd n.natAbs d.natAbs) 0 (d.natAbs / Nat.gcd n.natAbs d.natAbs) := by
  rw [mk_some' h, k]
  by_cases c : n = 0
  · subst c; simp only [Int.natAbs_zero, Nat.zero_div]; exact bld_zero _ _ _ _
  · have : (n != 0) = true := by simpa using c
    rw [this]
theorem mk_ref2 {n d : Int} (h : d ≠ 0) (k : (!(decide (n < 0) == decide (d < 0))) = false) : mk n d = bld false 0 (n.natAbs / Nat.gcd n.natAbs d.natAbs) 0 (d.natAbs / Nat.gcd n.natAbs d.natAbs) := by
  rw [mk_some' h, k]
end Go.Pel

namespace Go
namespace RegC
section
variable {P : Program} {ops : Array Oper} {md : Region.Mode} {C : World → Prop}

/-- f operations of the head still to come, in whatever order; then L. -/
def anyC (P : Program) (md : Region.Mode) (ops : Array Oper) (C : World → Prop) (n : Nat) (L : Array Bool → Act → Prop) : Nat → Array Bool → Act → Prop
  | 0, li, a => L li a
  | f + 1, li, a => Region.ready md ops li ≠ [] ∧ ∀ i ∈ Region.ready md ops li, i < n ∧ qOp P ops C i (anyC P md ops C n L f (li.setIfInBounds i true)) a

theorem anyC_run {n g : Nat} {L : Array Bool → Act → Prop} {Q' : Exit → Act → World → Prop}
    (hL : ∀ li a w, C w → L li a → wpAny P md ops Q' g li a w) :
    ∀ (f : Nat) (li : Array Bool) (a : Act) (w : World), C w → anyC P md ops C n L f li a → wpAny P md ops Q' (f + g) li a w := by
  intro f
  induction f with
  | zero => intro li a w hw h; rw [Nat.zero_add]; exact hL _ _ _ hw h
  | succ f ih =>
    intro li a w hw h
    rw [show f + 1 + g = (f + g) + 1 from by omega]
    exact ⟨fun h0 => absurd h0 h.1, fun i hi => wpOp_of_qOp hw (fun a' w' hw' h' => ih _ a' w' hw' h') (h.2 i hi).2⟩

theorem anyC_first {n i : Nat} {oi : Oper} {v : Value} {L : Array Bool → Act → Prop} (hi : ops[i]? = some oi)
    (hsel : ∀ (j : Nat) (o : Oper) cs b, ops[j]? = some o → o.op ≠ .select cs b)
    (hs : Region.sinkB md ops n = true) (hc : Region.chainB md ops n = true) (hn : n < ops.size) (hin : i < n)
    (hdone : ∀ li a, L li a → ∀ j ∈ Region.ready md ops li, n ≤ j) :
    ∀ (f : Nat) (li : Array Bool) (a : Act), HeadInv md ops n li →
      (∀ j oj, ops[j]? = some oj → j ≠ i → li.getD j true = false → (∀ e ∈ oj.after, Region.binds md e = true → e.on ≠ i) → oi.apart ops oj = true) →
      i ∈ Region.ready md ops li → YieldsIn P ops C oi v a →
      anyC P md ops C n L f (li.setIfInBounds i true) (a.put oi.dst v) → anyC P md ops C n L (f + 1) li a := by
  intro f
  induction f with
  | zero =>
    intro li a inv _ hr hy H
    refine ⟨fun h => (by rw [h] at hr; cases hr), fun j hj => ?_⟩
    have hjn : j < n := Nat.lt_of_not_le fun h => tail_waits hs hc hn inv _ i rfl hin (mem_ready.1 hr).1 j h hj
    refine ⟨hjn, ?_⟩
    by_cases hji : j = i
    · subst hji; exact hy.qOp hi H
    · have := hdone _ _ H j (ready_mono hj hji); omega
  | succ f ih =>
    intro li a inv hfree hr hy H
    have hun := (mem_ready.1 hr).1
    refine ⟨fun h => (by rw [h] at hr; cases hr), fun j hj => ?_⟩
    have hjn : j < n := Nat.lt_of_not_le fun h => tail_waits hs hc hn inv _ i rfl hin hun j h hj
    refine ⟨hjn, ?_⟩
    by_cases hji : j = i
    · subst hji; exact hy.qOp hi H
    · have h1 := (H.2 j (ready_mono hj hji)).2
      obtain ⟨hjun, oj, hoj, hall⟩ := mem_ready.1 hj
      have hnot : ∀ e ∈ oj.after, Region.binds md e = true → e.on ≠ i := fun e he hb heq => by
        have h3 := hall e he hb
        rw [heq, getD_both hun] at h3
        cases h3
      have h2 := qOp_put hoj (hfree j oj hoj hji hjun hnot) (fun cs b => hsel i oi cs b hi) (fun cs b => hsel j oj cs b hoj) hy h1
      refine qOp_mono (fun a' h3 => ih (li.setIfInBounds j true) a' (inv.set hj hjn) (fun k ok hk hki hunk hno => ?_) (ready_mono hr (Ne.symm hji)) h3.1 ?_) h2
      · refine hfree k ok hk hki ?_ hno
        by_cases hjk : j = k
        · subst hjk; exact hjun
        · rw [getD_set_ne true hjk] at hunk; exact hunk
      · rw [Array.setIfInBounds_comm _ _ hji]
        exact h3.2

theorem anyC_lex {n g : Nat} {Lq : Act → Prop} (hsel : Region.noSelect ops = true) (hs : Region.sinkB md ops n = true) (hc : Region.chainB md ops n = true) (hn : n < ops.size) :
    ∀ (l : List Oper) (k : Nat) (li : Array Bool) (a : Act), (∀ j, j < l.length → l[j]? = ops[k + j]?) → k + l.length = n → HeadInv md ops n li →
    Region.lexHead md ops g l.length k li = true → wpQuiet P ops C Lq l a →
    anyC P md ops C n (fun li' a' => Region.seqB md ops g n li' = true ∧ Lq a') l.length li a
  | [], k, li, a, _, hk, _, hB, h => by
    obtain rfl : k = n := by simpa using hk
    exact ⟨by simpa [Region.lexHead] using hB, h⟩
  | o :: l, k, li, a, hl, hk, inv, hB, h => by
    have h0 : ops[k]? = some o := by simpa using (hl 0 (by simp)).symm
    simp only [List.length_cons, Region.lexHead, Bool.and_eq_true] at hB
    obtain ⟨⟨hr, hf⟩, hB'⟩ := hB
    have hkn : k < n := by simp only [List.length_cons] at hk; omega
    have hr' : k ∈ Region.ready md ops li := by simpa using hr
    have hst : qOp P ops C k (wpQuiet P ops C Lq l) a := by unfold qOp; simp only [h0]; exact h
    obtain ⟨v, hy, hK⟩ := yieldsIn_of_qOp h0 hst
    exact anyC_first h0 (Region.noSelect_spec hsel) hs hc hn hkn (fun li' a' hL => seqB_ready hL.1) l.length li a inv (Region.free_spec h0 hf) hr' hy
      (anyC_lex hsel hs hc hn l (k + 1) _ _ (fun j hj => by have := hl (j + 1) (by simp; omega); simpa [Nat.add_assoc, Nat.add_comm 1 j] using this)
        (by simp only [List.length_cons] at hk; omega) (inv.set hr' hkn) hB' hK)

/-- The head in any order, in the class; then the tail in order. -/
theorem wp_region_class_tail {id : Nat} {Q : Exit → Act → World → Prop} {a : Act} {w : World} {l : List Oper} (n : Nat) (hm : P.follows .mixedOrders = true) (hB : Region.lexTailB .any l.toArray n = true)
    (hC : C { w with drawn := w.drawn + 1 })
    (h : wpQuiet P l.toArray C (fun a' => ∀ w', C w' → wpList P l.toArray Q (l.drop n) a' w') (l.take n) a) : (Code.region id l.toArray true).wp P Q a w := by
  simp only [Region.lexTailB, Bool.and_eq_true, decide_eq_true_eq] at hB
  obtain ⟨⟨⟨⟨hsel, hn⟩, hs⟩, hc⟩, hlex⟩ := hB
  have hn' : n < l.length := by simpa using hn
  have htl : (l.take n).length = n := by simp; omega
  have hdl : (l.drop n).length = l.toArray.size - n := by simp
  have inv0 : HeadInv .any l.toArray n (Array.replicate l.toArray.size false) :=
    ⟨by simp, fun j oj _ hl => (by rw [getD_replicate_false] at hl; cases hl), fun t _ ht => getD_in (by simpa using ht) (getD_replicate_false _ _)⟩
  have H := anyC_lex (C := C) (md := .any) (g := l.toArray.size - n) hsel hs hc hn (l.take n) 0 _ a (fun j hj => by
    have hj' : j < n := by rw [htl] at hj; exact hj
    simp [hj']) (by simpa using htl) inv0 (by rw [htl]; exact hlex) h
  refine wp_region_any hm ?_
  have := anyC_run (Q' := Q) (g := l.toArray.size - n) (fun li a' w' hw' hL => by
    have := wpAny_of_seq (md := .any) (Q' := Q) (l.drop n) n li a' w' (fun j => by simp [List.getElem?_drop]) (by rw [hdl]; exact hL.1) (hL.2 w' hw')
    rwa [hdl] at this) _ _ _ _ hC H
  rw [htl, show n + (l.toArray.size - n) = l.toArray.size from by omega] at this
  exact this
end

/-- A guard that is not decided: both ways. -/
theorem wpQuiet_split {P : Program} {ops : Array Oper} {C : World → Prop} {Q : Act → Prop} {a : Act} {o : Oper} {rest : List Oper} {j : Nat} {want b : Bool}
    (_hg : o.guard = some (j, want)) (_hy : yielded ops a.tmps j = some b) (ht : b = true → wpQuiet P ops C Q (o :: rest) a) (hf : b = false → wpQuiet P ops C Q (o :: rest) a) : wpQuiet P ops C Q (o :: rest) a := by
  cases b
  · exact hf rfl
  · exact ht rfl

section
variable {P : Program}
/-- All in any order, over the worlds 'ext w x'. -/
theorem wp_region_ext0 {id : Nat} {Q : Exit → Act → World → Prop} {a : Act} {w : World} {l : List Oper} (hm : P.follows .mixedOrders = true) (hB : Region.lexB .any l.toArray = true)
    (h : wpQuiet P l.toArray (fun w' => ∃ x, w' = ext w x) (fun a' => ∀ w', (∃ x, w' = ext w x) → Q .normal a' w') l a) : (Code.region id l.toArray true).wp P Q a w :=
  wp_region_quiet (C := fun w' => ∃ x, w' = ext w x) hm hB (Go.ext_of ((Bel.refl w).drewN 1)) (by simpa using h)
theorem wp_region_ext1 {id : Nat} {Q : Exit → Act → World → Prop} {a : Act} {w : World} {z : Beyond} {l : List Oper} (hm : P.follows .mixedOrders = true) (hB : Region.lexB .any l.toArray = true)
    (h : wpQuiet P l.toArray (fun w' => ∃ x, w' = ext w (z.and x)) (fun a' => ∀ w', (∃ x, w' = ext w (z.and x)) → Q .normal a' w') l a) : (Code.region id l.toArray true).wp P Q a (ext w z) :=
  wp_region_quiet (C := fun w' => ∃ x, w' = ext w (z.and x)) hm hB (Go.ext_of1 ((Bel.refl (ext w z)).drewN 1)) (by simpa using h)
theorem wp_region_tail0 {id : Nat} {Q : Exit → Act → World → Prop} {a : Act} {w : World} {l : List Oper} (n : Nat) (hm : P.follows .mixedOrders = true) (hB : Region.lexTailB .any l.toArray n = true)
    (h : wpQuiet P l.toArray (fun w' => ∃ x, w' = ext w x) (fun a' => ∀ w', (∃ x, w' = ext w x) → wpList P l.toArray Q (l.drop n) a' w') (l.take n) a) : (Code.region id l.toArray true).wp P Q a w :=
  wp_region_class_tail (C := fun w' => ∃ x, w' = ext w x) n hm hB (Go.ext_of ((Bel.refl w).drewN 1)) h
theorem wp_region_tail1 {id : Nat} {Q : Exit → Act → World → Prop} {a : Act} {w : World} {z : Beyond} {l : List Oper} (n : Nat) (hm : P.follows .mixedOrders = true) (hB : Region.lexTailB .any l.toArray n = true)
    (h : wpQuiet P l.toArray (fun w' => ∃ x, w' = ext w (z.and x)) (fun a' => ∀ w', (∃ x, w' = ext w (z.and x)) → wpList P l.toArray Q (l.drop n) a' w') (l.take n) a) : (Code.region id l.toArray true).wp P Q a (ext w z) :=
  wp_region_class_tail (C := fun w' => ∃ x, w' = ext w (z.and x)) n hm hB (Go.ext_of1 ((Bel.refl (ext w z)).drewN 1)) h
end
end RegC
end Go
namespace Go
namespace RegC
/-- At most n passes from a label. -/
def passes (P : Program) (rest : Code) (l : Nat) (Q : Exit → Act → World → Prop) : Nat → Act → World → Prop
  | 0, _, _ => False
  | n + 1, a, w => rest.wp P (Exit.jump l (passes P rest l Q n) Q) a w
theorem jump_mono {l : Nat} {J J' : Act → World → Prop} {Q : Exit → Act → World → Prop} (h : ∀ a w, J a w → J' a w) : ∀ e a w, Exit.jump l J Q e a w → Exit.jump l J' Q e a w := by
  intro e a w hh
  cases e <;> first | exact hh | exact ⟨hh.1, h _ _ hh.2⟩
theorem wp_scope_passes {P : Program} {c rest : Code} {Q : Exit → Act → World → Prop} {a : Act} {w : World} (l n : Nat) (hf : findLabel c l = some rest)
    (first : c.wp P (Exit.jump l (passes P rest l Q n) Q) a w) : (Code.scope c).wp P Q a w := by
  classical
  have hfind : ∀ a w, (∃ m, passes P rest l Q m a w) → ∃ m, passes P rest l Q m a w ∧ ∀ k, passes P rest l Q k a w → m ≤ k := by
    intro a w ⟨m, hm⟩
    induction m using Nat.strongRecOn with
    | _ m ih =>
      by_cases hc : ∃ k, k < m ∧ passes P rest l Q k a w
      · obtain ⟨k, hk, hp⟩ := hc; exact ih k hk hp
      · exact ⟨m, hm, fun k hk => Nat.le_of_not_lt fun hlt => hc ⟨k, hlt, hk⟩⟩
  let μ : Act → World → Nat := fun a w => if h : ∃ m, passes P rest l Q m a w then (hfind a w h).choose else 0
  refine wp_scope_jumps l (fun a w => ∃ m, passes P rest l Q m a w) μ hf (Code.wp_mono (jump_mono fun a w h => ⟨n, h⟩) first) fun a w hJ => ?_
  have hs := (hfind a w hJ).choose_spec
  have hμ : μ a w = (hfind a w hJ).choose := by simp only [μ]; rw [dif_pos hJ]
  rw [hμ]
  generalize (hfind a w hJ).choose = m at hs ⊢
  obtain ⟨hm, _⟩ := hs
  cases m with
  | zero => exact hm.elim
  | succ k =>
    refine Code.wp_mono (jump_mono fun a' w' h => ⟨⟨k, h⟩, ?_⟩) hm
    have hJ' : ∃ m, passes P rest l Q m a' w' := ⟨k, h⟩
    have : μ a' w' ≤ k := by simp only [μ]; rw [dif_pos hJ']; exact (hfind a' w' hJ').choose_spec.2 k h
    omega
theorem passes_succ {P : Program} {rest : Code} {l n : Nat} {Q : Exit → Act → World → Prop} {a : Act} {w : World} : passes P rest l Q (n + 1) a w = rest.wp P (Exit.jump l (passes P rest l Q n) Q) a w := rfl
end RegC
end Go

namespace Go
theorem viewStore_drawn {p : Program} {w w' : World} {a : Addr} {u : TypeId} {k : Addr} {v : Value} {b : Bool} {l : List Addr} (h : w.viewStore p a u k v b = .ok (w', l)) : w'.drawn = w.drawn := by
  unfold World.viewStore at h
  simp only [bind, Except.bind, pure, Except.pure, throw, throwThe, MonadExceptOf.throw] at h
  repeat' (split at h <;> try (cases h; done))
  all_goals (try (cases h; rfl))
theorem farStore_drawn {p : Program} {w w' : World} {a : Addr} {v : Value} {b : Bool} {l : List Addr} (h : w.farStore p a v b = .ok (w', l)) : w'.drawn = w.drawn := by
  unfold World.farStore at h
  split at h
  · split at h
    · cases h; exact viewStore_drawn ‹_›
    · cases h
  · cases h
theorem ask_mono {α : Type} : ∀ (x : Ask α) (w : World), w.drawn ≤ (w.ask x).2.drawn
  | .done _, _ => Nat.le_refl _
  | .ask what range k, w => by
    unfold World.ask
    dsimp only
    split
    · exact ask_mono (k 0) w
    · exact Nat.le_trans (Nat.le_succ _) (ask_mono (k _) { w with drawn := w.drawn + 1 })
theorem sys_mono (w : World) (c : Sys) : w.drawn ≤ (w.sys c).2.drawn := by
  have h := ask_mono (Kernel.perform c w.os) w
  unfold World.sys
  split
  · exact Nat.le_refl _
  · rename_i heq; rw [heq] at h; exact h
theorem freeze_drawn (w : World) (a : Addr) (n : Nat) : (w.freeze a n).drawn = w.drawn := by unfold World.freeze; split <;> rfl
theorem run_mono {α : Type} {P : Program} : ∀ (s : Sem α) (w w' : World) (v : α), s.run P w = .ok v w' → w.drawn ≤ w'.drawn := by
  intro s
  induction s with
  | pure a => intro w w' v h; unfold Sem.run at h; cases h; exact Nat.le_refl _
  | load m a k ih =>
    intro w w' v h; unfold Sem.run at h
    split at h
    · exact ih _ _ _ _ h
    · split at h
      · exact ih _ _ _ _ h
      · cases h
  | store m a u k ih =>
    intro w w' v h
    cases u <;> simp only [Sem.run] at h
    all_goals first
      | (cases h; done)
      | (split at h
         · split at h
           · cases h
           · have := ih _ _ _ h; exact this
         · split at h
           · have := ih _ _ _ h
             rw [farStore_drawn ‹_›] at this; exact this
           · cases h)
  | new o k ih => intro w w' v h; unfold Sem.run at h; have := ih _ _ _ _ h; exact this
  | shape r k ih => intro w w' v h; unfold Sem.run at h; have := ih _ _ _ _ h; exact this
  | freeze a n k ih => intro w w' v h; unfold Sem.run at h; have := ih _ _ _ h; rwa [freeze_drawn] at this
  | frozen a k ih => intro w w' v h; unfold Sem.run at h; have := ih _ _ _ _ h; exact this
  | getObj r k ih =>
    intro w w' v h; unfold Sem.run at h
    split at h
    · cases h
    · exact ih _ _ _ _ h
    · cases h
  | setObj r o k ih =>
    intro w w' v h; unfold Sem.run at h
    split at h
    · cases h
    · have := ih _ _ _ h; exact this
    · cases h
  | choose q k ih =>
    intro w w' v h; unfold Sem.run at h
    split at h
    · exact ih _ _ _ _ h
    · exact Nat.le_trans (Nat.le_succ _) (ih _ _ _ _ h)
  | sys c k ih => intro w w' v h; unfold Sem.run at h; exact Nat.le_trans (sys_mono w c) (ih _ _ _ _ h)
  | program k ih => intro w w' v h; unfold Sem.run at h; have := ih _ _ _ _ h; exact this
  | mark m k ih => intro w w' v h; unfold Sem.run at h; exact ih _ _ _ h
  | halt h0 => intro w w' v h; unfold Sem.run at h; cases h
section
variable {P : Program}
/-- append onto a row of the call's own: what the kit's law says, and that the tape's place does not go back -/
theorem wp_append_m {w : World} {o : Oper} {a : Act} {K : Act → World → Prop} {Q : Exit → Act → World → Prop} (s x : Operand) (t : TypeId)
    (ho : o.op = .call { callee := .builtin .append, args := #[s, x], argTypes := #[t, t] })
    (base : Nat) (e : TypeId) (i : TypeInfo) (z : Value) (size bytes : Nat) (ht : P.underlying t = some (.slice e)) (hi : P.info? e = some i) (hz : i.zero = some z)
    (hsize : i.size = size) (hby : i.bytes = bytes) (hzs : z.cells.size = size) (hsz : 0 < size)
    (v : Value) (n : Nat) (xs : List Value) (hs : a.eval s = v) (hown : w.ownsRow base e size v n xs)
    (ad : Addr) (m c : Nat) (news : List Value) (hx : a.eval x = .slice (some ad) m c) (hl : news.length = m * size) (hnews : ∀ j u, news[j]? = some u → w.cell? (ad.add j) = some u) (h1 : ∀ u ∈ news, u.oneCell' = true)
    (h63 : n + m ≤ maxLen) (hbytes : (n + m) * bytes ≤ 140737488355328) (hbase : base ≤ w.heap.size)
    (h : ∀ v' w', w'.ownsRow base e size v' (n + m) (xs ++ news) → w.grownBy w' v.ownBlock → w.drawn ≤ w'.drawn → K (a.put o.dst v') w') : o.wp P a w K Q := by
  obtain ⟨v', w', hr, h2, h3, h4⟩ := run_append_own (P := P) w base t o.type e i z size bytes ht hi hz hsize hby hzs hsz v n xs hown ad m c news hl hnews h1 h63 hbytes hbase
  unfold Oper.wp execOp
  simp only [ho, resolve, invoke, builtin, Sem.run_bind, Sem.run_pure, Result.andThen_ok, List.map_toArray, List.map_cons, List.map_nil, hs, hx, hr]
  exact h v' w' h2 h3 (run_mono _ _ _ _ hr)
theorem wpList_append_m {w : World} {ops : Array Oper} {rest : List Oper} {o : Oper} {a : Act} {Q : Exit → Act → World → Prop} (hgd : o.guard = none) (s x : Operand) (t : TypeId)
    (ho : o.op = .call { callee := .builtin .append, args := #[s, x], argTypes := #[t, t] })
    (base : Nat) (e : TypeId) (i : TypeInfo) (z : Value) (size bytes : Nat) (ht : P.underlying t = some (.slice e)) (hi : P.info? e = some i) (hz : i.zero = some z)
    (hsize : i.size = size) (hby : i.bytes = bytes) (hzs : z.cells.size = size) (hsz : 0 < size)
    (v : Value) (n : Nat) (xs : List Value) (hs : a.eval s = v) (hown : w.ownsRow base e size v n xs)
    (ad : Addr) (m c : Nat) (news : List Value) (hx : a.eval x = .slice (some ad) m c) (hl : news.length = m * size) (hnews : ∀ j u, news[j]? = some u → w.cell? (ad.add j) = some u) (h1 : ∀ u ∈ news, u.oneCell' = true)
    (h63 : n + m ≤ maxLen) (hbytes : (n + m) * bytes ≤ 140737488355328) (hbase : base ≤ w.heap.size)
    (h : ∀ v' w', w'.ownsRow base e size v' (n + m) (xs ++ news) → w.grownBy w' v.ownBlock → w.drawn ≤ w'.drawn → wpList P ops Q rest (a.put o.dst v') w') : wpList P ops Q (o :: rest) a w :=
  wpList_plain hgd fun _ hK => wp_append_m s x t ho base e i z size bytes ht hi hz hsize hby hzs hsz v n xs hs hown ad m c news hx hl hnews h1 h63 hbytes hbase fun v' w' h2 h3 h4 => hK _ _ (h v' w' h2 h3 h4)
end
end Go

namespace Go
open RowKit
/-- '.slice A n c' reads as the cells xs (size cells an element), in blocks of w. -/
def Sl (w : World) (size : Nat) (A : Option Addr) (n c : Nat) (xs : List Value) : Prop :=
  n ≤ c ∧ xs.length = n * size ∧ (0 < n → ∃ b o, A = some ⟨b, o, none⟩ ∧ b < w.heap.size ∧ ∀ j u, xs[j]? = some u → w.cell? ⟨b, o + j, none⟩ = some u)
/-- .. of the call's own, from block 'base' on: it may be written and appended to. -/
def Own (w : World) (base : Nat) (e : TypeId) (size : Nat) (A : Option Addr) (n c : Nat) (xs : List Value) : Prop := w.ownsRow base e size (.slice A n c) n xs
/-- What the program's table says of a slice type. -/
structure SlT (P : Program) (t e : TypeId) (z : Value) (size bytes : Nat) : Prop where
  und : P.underlying t = some (.slice e)
  info : (P.info? e).map (fun i => (i.zero, i.size, i.bytes)) = some (some z, size, bytes)
  zs : z.cells.size = size
  pos : 0 < size
  small : bytes ≤ 1024

section
variable {w : World} {size n c : Nat} {A : Option Addr} {xs : List Value}
theorem Sl.len (h : Sl w size A n c xs) : xs.length = n * size := h.2.1
theorem Sl.cap (h : Sl w size A n c xs) : n ≤ c := h.1
theorem Sl.ext (h : Sl w size A n c xs) (x : Beyond) : Sl (ext w x) size A n c xs :=
  ⟨h.1, h.2.1, fun hn => by
    obtain ⟨b, o, rfl, hb, hc⟩ := h.2.2 hn
    exact ⟨b, o, rfl, by rw [size_ext]; omega, fun j u hu => by rw [cell_ext w x b _ hb]; exact hc j u hu⟩⟩
theorem Sl.bel {w' : World} (h : Sl w size A n c xs) (hb : Bel w w') : Sl w' size A n c xs := by
  obtain ⟨x, rfl⟩ := ext_of hb; exact h.ext x
theorem Sl.nil_ (w : World) (size c : Nat) (A : Option Addr) : Sl w size A 0 c [] := ⟨Nat.zero_le _, by simp, fun h => absurd h (by omega)⟩
theorem Sl.take (h : Sl w size A n c xs) {k : Nat} (hk : k ≤ n) : Sl w size A k c (xs.take (k * size)) :=
  ⟨Nat.le_trans hk h.1, by rw [List.length_take, h.2.1]; exact Nat.min_eq_left (Nat.mul_le_mul_right _ hk), fun hn => by
    obtain ⟨b, o, rfl, hb, hc⟩ := h.2.2 (by omega)
    refine ⟨b, o, rfl, hb, fun j u hu => hc j u ?_⟩
    rw [List.getElem?_take] at hu
    split at hu
    · exact hu
    · cases hu⟩
/-- One cell. -/
theorem Sl.cell {b o : Nat} (h : Sl w size (some ⟨b, o, none⟩) n c xs) {j : Nat} {u : Value} (hu : xs[j]? = some u) : w.cell? ⟨b, o + j, none⟩ = some u := by
  have hl : j < xs.length := (List.getElem?_eq_some_iff.1 hu).1
  have hn : 0 < n := Nat.pos_of_ne_zero fun h0 => by rw [h.2.1, h0, Nat.zero_mul] at hl; omega
  obtain ⟨b', o', hA, _, hc⟩ := h.2.2 hn
  injection hA with hA
  injection hA with h1 h2
  subst h1 h2
  exact hc j u hu
theorem Sl.at_ (h : Sl w size A n c xs) (hn : 0 < n) : ∃ b o, A = some ⟨b, o, none⟩ ∧ b < w.heap.size := by
  obtain ⟨b, o, hA, hb, _⟩ := h.2.2 hn; exact ⟨b, o, hA, hb⟩
theorem Own.nil_ (w : World) (base : Nat) (e : TypeId) (size : Nat) : Own w base e size none 0 0 [] := World.ownsRow_nil w base e size
theorem Own.len {base : Nat} {e : TypeId} (h : Own w base e size A n c xs) : xs.length = n * size := h.1
theorem Own.cap {base : Nat} {e : TypeId} (h : Own w base e size A n c xs) : n ≤ c := by
  rcases h.2 with ⟨h1, h2⟩ | ⟨g, cap, cur, hv, _, _, hnc, _⟩
  · omega
  · injection hv with _ _ h3; omega
theorem Own.maxLen_ {base : Nat} {e : TypeId} (h : Own w base e size A n c xs) : n ≤ maxLen := by
  rcases h.2 with ⟨h1, h2⟩ | ⟨g, cap, cur, hv, _, _, hnc, hm, _⟩
  · rw [h2]; exact Nat.zero_le _
  · exact Nat.le_trans hnc hm
theorem Own.at_ {base : Nat} {e : TypeId} (h : Own w base e size A n c xs) (hn : 0 < n) : ∃ g, A = some ⟨g, 0, none⟩ ∧ base ≤ g ∧ g < w.heap.size := by
  rcases h.2 with ⟨h1, h2⟩ | ⟨g, cap, cur, hv, hg, hh, _⟩
  · omega
  · injection hv with h1
    refine ⟨g, h1, hg, Nat.lt_of_not_le fun hle => ?_⟩
    rw [Array.getElem?_eq_none hle] at hh; cases hh
theorem Own.block {base : Nat} {e : TypeId} (h : Own w base e size A n c xs) : (Value.slice A n c).ownBlock = none ∨ ∃ g, (Value.slice A n c).ownBlock = some g ∧ base ≤ g ∧ g < w.heap.size := by
  cases hA : (Value.slice A n c).ownBlock with
  | none => exact .inl rfl
  | some g => exact .inr ⟨g, rfl, World.ownsRow.lt h g hA⟩
theorem Own.sl {base : Nat} {e : TypeId} (h : Own w base e size A n c xs) : Sl w size A n c xs :=
  ⟨h.cap, h.len, fun hn => by
    obtain ⟨g, rfl, _, hlt⟩ := h.at_ hn
    refine ⟨g, 0, rfl, hlt, fun j u hu => ?_⟩
    have hj : j < n * size := by rw [← h.len]; exact (List.getElem?_eq_some_iff.1 hu).1
    rw [Nat.zero_add, World.ownsRow.cellAt h j hj, hu]⟩
theorem Own.bel {base : Nat} {e : TypeId} {w' : World} (h : Own w base e size A n c xs) (hb : Bel w w') : Own w' base e size A n c xs := by
  refine World.ownsRow.kept (row := none) h ⟨hb.os, hb.tape, hb.output, hb.size, fun k hk _ => hb.block k hk⟩ ?_
  rcases h.block with h0 | ⟨g, h0, _⟩
  · exact .inl h0
  · exact .inr (by rw [h0]; exact fun e => by cases e)
theorem Own.ext {base : Nat} {e : TypeId} (h : Own w base e size A n c xs) (x : Beyond) : Own (ext w x) base e size A n c xs := h.bel (bel_ext w x)
theorem Own.alloc {base : Nat} {e : TypeId} (h : Own w base e size A n c xs) (ob : Obj) : Own (w.alloc ob) base e size A n c xs := h.bel ((Bel.refl w).alloc ob)
theorem Own.base_le {base base' : Nat} {e : TypeId} (h : Own w base e size A n c xs) (hb : base' ≤ base) : Own w base' e size A n c xs := by
  obtain ⟨h1, h2⟩ := h
  refine ⟨h1, ?_⟩
  rcases h2 with h2 | ⟨g, cap, cur, hv, hg, r⟩
  · exact .inl h2
  · exact .inr ⟨g, cap, cur, hv, Nat.le_trans hb hg, r⟩
end

section
variable {P : Program} {ops : Array Oper} {rest : List Oper} {o : Oper} {a : Act} {Q : Exit → Act → World → Prop}
/-- append of the elements of another slice (with an address) onto a slice of the call's own. -/
theorem append_ext {t e : TypeId} {z : Value} {size bytes : Nat} (hT : SlT P t e z size bytes) {wB W0 W1 W : World} (hb : Bel wB W)
    {A : Option Addr} {n c : Nat} {xs : List Value} (hown : Own W0 wB.heap.size e size A n c xs) (hb0 : Bel W0 W)
    {b off m c' : Nat} {news : List Value} (hsrc : Sl W1 size (some ⟨b, off, none⟩) m c' news) (hb1 : Bel W1 W) (h1 : ∀ u ∈ news, u.oneCell' = true) (hlen : n + m ≤ 4294967296)
    (hgd : o.guard = none) (s x : Operand) (ho : o.op = .call { callee := .builtin .append, args := #[s, x], argTypes := #[t, t] })
    (hs : a.eval s = .slice A n c) (hx : a.eval x = .slice (some ⟨b, off, none⟩) m c')
    (h : ∀ A' c'' y, Own (ext wB y) wB.heap.size e size A' (n + m) c'' (xs ++ news) → wpList P ops Q rest (a.put o.dst (.slice A' (n + m) c'')) (ext wB y)) : wpList P ops Q (o :: rest) a W := by
  obtain ⟨i, hi, hz0, hz1, hz2⟩ := info_parts hT.info
  replace hown := hown.bel hb0
  replace hsrc := hsrc.bel hb1
  have hby : (n + m) * bytes ≤ 140737488355328 := Nat.le_trans (Nat.mul_le_mul hlen hT.small) (by decide)
  refine wpList_append_m hgd s x t ho wB.heap.size e i z size bytes hT.und hi hz0 hz1 hz2 hT.zs hT.pos _ n xs hs hown ⟨b, off, none⟩ m c' news hx hsrc.len
    (fun j u hu => ?_) h1 (Nat.le_trans hlen (by unfold maxLen; decide)) hby hb.size fun v' w' hown' hg hnil => ?_
  · have hj := hsrc.cell hu
    unfold Addr.add
    split
    · rename_i h0; rw [h0] at hj; exact hj
    · exact hj
  · have hbel : Bel wB w' := hb.grown hg (fun k hk => by
      rcases hown.block with h0 | ⟨g, h0, hge, _⟩
      · rw [h0] at hk; cases hk
      · rw [h0] at hk; injection hk with hk; omega) hnil
    obtain ⟨y, rfl⟩ := ext_of hbel
    have hv : ∃ A' c'', v' = .slice A' (n + m) c'' := by
      rcases hown'.2 with ⟨hv, hn⟩ | ⟨g, cap, cur, hv, _⟩
      · exact ⟨none, 0, by rw [hv, hn]⟩
      · exact ⟨_, _, hv⟩
    obtain ⟨A', c'', rfl⟩ := hv
    exact h A' c'' y hown'
/-- make([]T, n). -/
theorem make_ext {t e : TypeId} {z : Value} {size bytes : Nat} (hT : SlT P t e z size bytes) {wB W : World} (hb : Bel wB W)
    {kl kc : IntKind} {n : Nat} (hlen : n ≤ 4294967296)
    (hgd : o.guard = none) (l c : Operand) (ho : o.op = .makeSlice t l c) (hl : a.eval l = .int kl n) (hc : a.eval c = .int kc n)
    (h : ∀ g y, wB.heap.size ≤ g → Own (ext wB y) wB.heap.size e size (some ⟨g, 0, none⟩) n n (madeCells z.cells (n * size)).toList → wpList P ops Q rest (a.put o.dst (.slice (some ⟨g, 0, none⟩) n n)) (ext wB y)) : wpList P ops Q (o :: rest) a W := by
  obtain ⟨i, hi, hz0, hz1, hz2⟩ := info_parts hT.info
  have hby : i.bytes * n ≤ 281474976710656 := by rw [hz2, Nat.mul_comm]; exact Nat.le_trans (Nat.mul_le_mul hlen hT.small) (by decide)
  obtain ⟨w', hrun, hown, hg⟩ := run_make_full (P := P) W wB.heap.size t e i z size hT.und hi hz0 hz1 kl kc n hby (Nat.le_trans hlen (by unfold maxLen; decide)) hb.size
  have hbel : Bel wB w' := hb.grown hg (fun k hk => by cases hk) (run_mono _ _ _ _ hrun)
  refine wpList_plain hgd fun K hK => ?_
  unfold Oper.wp
  simp [execOp, ho, hl, hc, hrun, Result.andThen]
  obtain ⟨y, rfl⟩ := ext_of hbel
  exact hK _ _ (h _ y hb.size hown)
end
end Go
namespace Go
open RowKit
/-- A store into a slice of the call's own. -/
theorem own_store {wB : World} {y : Beyond} {e : TypeId} {size g n c : Nat} {xs : List Value} (h : Own (ext wB y) wB.heap.size e size (some ⟨g, 0, none⟩) n c xs) (hg : wB.heap.size ≤ g) (j : Nat) (u : Value) :
    ∃ y', (ext wB y).setCell ⟨g, j, none⟩ u = ext wB y' ∧ Own (ext wB y') wB.heap.size e size (some ⟨g, 0, none⟩) n c (xs.set j u) := by
  have h1 := (World.ownsRow.stored h j u).1
  obtain ⟨y', hy⟩ := ext_of ((bel_ext wB y).setCell (p := ⟨g, j, none⟩) hg u)
  exact ⟨y', hy, by rw [← hy]; exact h1⟩
theorem own_cell {w : World} {base : Nat} {e : TypeId} {size g n c : Nat} {xs : List Value} (h : Own w base e size (some ⟨g, 0, none⟩) n c xs) {j : Nat} {u : Value} (hu : xs[j]? = some u) : w.cell? ⟨g, j, none⟩ = some u := by
  rw [World.ownsRow.cellAt h j (by rw [← h.len]; exact (List.getElem?_eq_some_iff.1 hu).1), hu]
theorem own_frozen {w : World} {base : Nat} {e : TypeId} {size g n c : Nat} {xs : List Value} (h : Own w base e size (some ⟨g, 0, none⟩) n c xs) (j : Nat) : w.frozen? ⟨g, j, none⟩ = false := World.ownsRow.frozenAt h j
/-- bytes as cells -/
def vb (l : List UInt8) : List Value := l.map fun x => .int .u8 (x.toNat : Int)
theorem vb_length (l : List UInt8) : (vb l).length = l.length := by simp [vb]
theorem vb_append (l m : List UInt8) : vb (l ++ m) = vb l ++ vb m := by simp [vb]
theorem vb_cons (x : UInt8) (l : List UInt8) : vb (x :: l) = .int .u8 (x.toNat : Int) :: vb l := by simp [vb]
theorem vb_get (l : List UInt8) (j : Nat) : (vb l)[j]? = (l[j]?).map fun x => Value.int .u8 (x.toNat : Int) := by simp [vb]
theorem vb_one (l : List UInt8) : ∀ u ∈ vb l, u.oneCell' = true := by
  intro u hu
  simp only [vb, List.mem_map] at hu
  obtain ⟨x, _, rfl⟩ := hu
  rfl
end Go

namespace Go
open RowKit
theorem own_lit (wB : World) (x : Beyond) (cs : Array Value) (e : TypeId) (size n g : Nat) (hg : g = wB.heap.size) (hn : n ≤ maxLen) (hs : cs.size = n * size) :
    ∃ y, ext (wB.alloc (.cells cs e)) x = ext wB y ∧ Own (ext wB y) wB.heap.size e size (some ⟨g, 0, none⟩) n n cs.toList := by
  subst hg
  obtain ⟨y, hy⟩ := ext_of (((Bel.refl wB).alloc (.cells cs e)).ext x)
  refine ⟨y, hy, ?_⟩
  rw [← hy]
  exact Own.ext (World.ownsRow_lit wB cs n (Nat.le_refl _) hn hs) x
theorem own_lit0 (wB : World) (cs : Array Value) (e : TypeId) (size n g : Nat) (hg : g = wB.heap.size) (hn : n ≤ maxLen) (hs : cs.size = n * size) :
    ∃ y, wB.alloc (.cells cs e) = ext wB y ∧ Own (ext wB y) wB.heap.size e size (some ⟨g, 0, none⟩) n n cs.toList := by
  subst hg
  obtain ⟨y, hy⟩ := ext_of ((Bel.refl wB).alloc (.cells cs e))
  exact ⟨y, hy, by rw [← hy]; exact World.ownsRow_lit wB cs n (Nat.le_refl _) hn hs⟩
section
variable {P : Program}
/-- A block that the call has just made becomes a slice of its own. -/
theorem wp_lit {c : Code} {Q : Exit → Act → World → Prop} {a : Act} {wB : World} {x : Beyond} {cs : Array Value} {e : TypeId} (size n g : Nat) (hg : g = wB.heap.size) (hn : n ≤ maxLen) (hs : cs.size = n * size)
    (h : ∀ y, Own (ext wB y) wB.heap.size e size (some ⟨g, 0, none⟩) n n cs.toList → c.wp P Q a (ext wB y)) : c.wp P Q a (ext (wB.alloc (.cells cs e)) x) := by
  obtain ⟨y, hy, ho⟩ := own_lit wB x cs e size n g hg hn hs
  rw [hy]; exact h y ho
theorem wp_lit0 {c : Code} {Q : Exit → Act → World → Prop} {a : Act} {wB : World} {cs : Array Value} {e : TypeId} (size n g : Nat) (hg : g = wB.heap.size) (hn : n ≤ maxLen) (hs : cs.size = n * size)
    (h : ∀ y, Own (ext wB y) wB.heap.size e size (some ⟨g, 0, none⟩) n n cs.toList → c.wp P Q a (ext wB y)) : c.wp P Q a (wB.alloc (.cells cs e)) := by
  obtain ⟨y, hy, ho⟩ := own_lit0 wB cs e size n g hg hn hs
  rw [hy]; exact h y ho
theorem calls_lit {f : FuncId} {args : Array Value} {R : Ending → World → Prop} {wB : World} {x : Beyond} {cs : Array Value} {e : TypeId} (size n g : Nat) (hg : g = wB.heap.size) (hn : n ≤ maxLen) (hs : cs.size = n * size)
    (h : ∀ y, Own (ext wB y) wB.heap.size e size (some ⟨g, 0, none⟩) n n cs.toList → Calls P f args (ext wB y) R) : Calls P f args (ext (wB.alloc (.cells cs e)) x) R := by
  obtain ⟨y, hy, ho⟩ := own_lit wB x cs e size n g hg hn hs
  rw [hy]; exact h y ho
theorem calls_lit0 {f : FuncId} {args : Array Value} {R : Ending → World → Prop} {wB : World} {cs : Array Value} {e : TypeId} (size n g : Nat) (hg : g = wB.heap.size) (hn : n ≤ maxLen) (hs : cs.size = n * size)
    (h : ∀ y, Own (ext wB y) wB.heap.size e size (some ⟨g, 0, none⟩) n n cs.toList → Calls P f args (ext wB y) R) : Calls P f args (wB.alloc (.cells cs e)) R := by
  obtain ⟨y, hy, ho⟩ := own_lit0 wB cs e size n g hg hn hs
  rw [hy]; exact h y ho
end
end Go

namespace Go
open RowKit
/-- What a call hands back: a slice of its own. -/
theorem own_ret {w W0 W : World} {base : Nat} {e : TypeId} {size n c : Nat} {A : Option Addr} {xs : List Value} (hb : Bel w W) (h : Own W0 base e size A n c xs) (h0 : Bel W0 W) (hbase : w.heap.size ≤ base) : ∃ x, W = ext w x ∧ Own (ext w x) w.heap.size e size A n c xs := by
  obtain ⟨x, hx⟩ := ext_of hb
  exact ⟨x, hx, by rw [← hx]; exact (h.bel h0).base_le hbase⟩
end Go

namespace Go
theorem exists_ext {w W : World} {Q : World → Prop} (hb : Bel w W) (h : Q W) : ∃ x, W = ext w x ∧ Q (ext w x) := by
  obtain ⟨x, rfl⟩ := ext_of hb; exact ⟨x, rfl, h⟩
/-- A block of the call's own, read as a slice. -/
theorem sl_cells {W : World} {g n size : Nat} {cs : Array Value} (hg : g < W.heap.size) (hs : cs.size = n * size) (h : ∀ j : Nat, W.cell? ⟨g, j, none⟩ = cs[j]?) : Sl W size (some ⟨g, 0, none⟩) n n cs.toList :=
  ⟨Nat.le_refl _, by simpa using hs, fun _ => ⟨g, 0, rfl, hg, fun j u hu => by rw [Nat.zero_add, h]; simpa using hu⟩⟩
end Go

namespace Go
open RowKit
theorem sl_new (W : World) (cs : Array Value) (e : TypeId) (size g : Nat) (hg : g = W.heap.size) (hs : cs.size = size) : Sl (W.alloc (.cells cs e)) size (some ⟨g, 0, none⟩) 1 1 cs.toList := by
  subst hg
  exact sl_cells (by simp) (by simpa using hs) (fun j => by simp [go_sem])
section
variable {P : Program} {ops : Array Oper} {rest : List Oper} {o : Oper} {a : Act} {Q : Exit → Act → World → Prop}
/-- append of one element, just built, onto a slice of the call's own. -/
theorem append1_ext {t e e' : TypeId} {z : Value} {size bytes : Nat} (hT : SlT P t e z size bytes) {wB W0 W : World} (hb : Bel wB W)
    {A : Option Addr} {n c : Nat} {xs : List Value} (hown : Own W0 wB.heap.size e size A n c xs) (hb0 : Bel W0 W)
    {cs : Array Value} (h1 : ∀ u ∈ cs.toList, u.oneCell' = true) (hsz : cs.size = size) (hlen : n + 1 ≤ 4294967296)
    (hgd : o.guard = none) (s x : Operand) (ho : o.op = .call { callee := .builtin .append, args := #[s, x], argTypes := #[t, t] }) {g : Nat}
    (hs : a.eval s = .slice A n c) (hx : a.eval x = .slice (some ⟨g, 0, none⟩) 1 1) (hg : g = W.heap.size)
    (h : ∀ A' c'' y, Own (ext wB y) wB.heap.size e size A' (n + 1) c'' (xs ++ cs.toList) → wpList P ops Q rest (a.put o.dst (.slice A' (n + 1) c'')) (ext wB y)) : wpList P ops Q (o :: rest) a (W.alloc (.cells cs e')) :=
  append_ext hT (hb.alloc _) hown (hb0.alloc _) (sl_new W cs e' size g hg hsz) (Bel.refl _) h1 hlen hgd s x ho hs hx h
/-- append of one element, just built, onto a slice that has no room: a new row; nothing that was there is written. -/
theorem grow1_ext {t e e' : TypeId} {z : Value} {size bytes : Nat} (hT : SlT P t e z size bytes) {W0 W : World}
    {b off n : Nat} {xs : List Value} (hsl : Sl W0 size (some ⟨b, off, none⟩) n n xs) (hb0 : Bel W0 W)
    {cs : Array Value} (hsz : cs.size = size) (hlen : n + 1 ≤ 4294967296)
    (hgd : o.guard = none) (s x : Operand) (ho : o.op = .call { callee := .builtin .append, args := #[s, x], argTypes := #[t, t] }) {g : Nat}
    (hs : a.eval s = .slice (some ⟨b, off, none⟩) n n) (hx : a.eval x = .slice (some ⟨g, 0, none⟩) 1 1) (hg : g = W.heap.size)
    (h : ∀ A' c'' y, Own (ext W y) W.heap.size e size A' (n + 1) c'' (xs ++ cs.toList) → wpList P ops Q rest (a.put o.dst (.slice A' (n + 1) c'')) (ext W y)) : wpList P ops Q (o :: rest) a (W.alloc (.cells cs e')) := by
  obtain ⟨i, hi, hz0, hz1, hz2⟩ := info_parts hT.info
  have hsl' := (hsl.bel hb0).bel ((Bel.refl W).alloc (.cells cs e'))
  have hsrc := sl_new W cs e' size g hg hsz
  have hby : (n + 1) * bytes ≤ 140737488355328 := Nat.le_trans (Nat.mul_le_mul hlen hT.small) (by decide)
  have add0 : ∀ (b off j : Nat), (⟨b, off, none⟩ : Addr).add j = ⟨b, off + j, none⟩ := fun b off j => by
    unfold Addr.add; split
    · rename_i h0; rw [h0]; rfl
    · rfl
  obtain ⟨v', w', hrun, hown, hgr⟩ := run_append_arg_grows (P := P) (W.alloc (.cells cs e')) t o.type e i z size bytes hT.und hi hz0 hz1 hz2 hT.zs hT.pos ⟨b, off, none⟩ n n xs hsl'.len
    (fun j u hu => by rw [add0]; exact hsl'.cell hu) ⟨g, 0, none⟩ 1 1 cs.toList hsrc.len (fun j u hu => by rw [add0]; exact hsrc.cell hu) (by omega) (Nat.le_trans hlen (by unfold maxLen; decide)) hby
  have hbel : Bel W w' := ((Bel.refl W).alloc _).grown hgr (fun k hk => by cases hk) (run_mono _ _ _ _ hrun)
  obtain ⟨y, rfl⟩ := ext_of hbel
  have hv : ∃ A' c'', v' = .slice A' (n + 1) c'' := by
    rcases hown.2 with ⟨_, hn⟩ | ⟨g, cap, cur, hv, _⟩
    · omega
    · exact ⟨_, _, hv⟩
  obtain ⟨A', c'', rfl⟩ := hv
  refine wpList_plain hgd fun K hK => ?_
  unfold Oper.wp execOp
  simp only [ho, resolve, invoke, builtin, Sem.run_bind, Sem.run_pure, Result.andThen_ok, List.map_toArray, List.map_cons, List.map_nil, hs, hx, hrun]
  exact hK _ _ (h A' c'' y (Own.base_le hown (by simp)))
end
end Go

namespace Go
open RowKit
section
variable {P : Program}
theorem strOf_vb (l : List UInt8) : strOfNums (l.map fun x => (x.toNat : Int)) = ⟨l.toArray⟩ := by
  have e : (l.map fun x => (x.toNat : Int)).map (fun n => UInt8.ofNat n.toNat) = l := by
    rw [List.map_map]
    conv => rhs; rw [← List.map_id l]
    apply List.map_congr_left
    intro x _
    simp
  unfold strOfNums
  rw [e]
/-- bytes as a string -/
theorem conv_sl {W W' : World} {b o n c : Nat} {l : List UInt8} (h : Sl W 1 (some ⟨b, o, none⟩) n c (vb l)) (hb : Bel W W') {src e dst : TypeId} (hs : P.underlying src = some (.slice e)) (he : P.underlying e = some (.int .u8)) (hd : P.underlying dst = some .string) :
    (convert src dst (.slice (some ⟨b, o, none⟩) n c)).run P W' = .ok (.string ⟨l.toArray⟩) W' := by
  have h' := h.bel hb
  have hl : l.length = n := by have := h'.len; rw [vb_length] at this; omega
  rw [run_convert_bytes_arg W' src e hs he b o n c (l.map fun x => (x.toNat : Int)) (by simpa using hl) (fun i hi => ?_) dst hd, strOf_vb]
  rw [h'.cell (j := i) (u := .int .u8 ((l.map fun x => (x.toNat : Int)).getD i 0)) (by
    rw [vb_get, List.getElem?_eq_getElem (by omega)]; simp [List.getD_eq_getElem?_getD, List.getElem?_eq_getElem (show i < l.length by omega)])]
theorem conv_own {W W' : World} {base : Nat} {e0 : TypeId} {A : Option Addr} {n c : Nat} {l : List UInt8} (h : Own W base e0 1 A n c (vb l)) (hb : Bel W W') {src e dst : TypeId} (hs : P.underlying src = some (.slice e)) (he : P.underlying e = some (.int .u8)) (hd : P.underlying dst = some .string) :
    (convert src dst (.slice A n c)).run P W' = .ok (.string ⟨l.toArray⟩) W' := by
  rcases h.2 with ⟨hv, hn⟩ | ⟨g, cap, cur, hv, _⟩
  · injection hv with h1 h2 h3
    subst h1
    have hl : l = [] := by
      have h4 := h.len
      rw [vb_length] at h4
      exact List.eq_nil_of_length_eq_zero (by omega)
    rw [run_convert_bytes_nil W' src e hs he n c dst hd, hl]; rfl
  · injection hv with h1
    subst h1
    exact conv_sl h.sl hb hs he hd
/-- A fact that holds in every world behind this one is laid into the context. -/
theorem wp_have1 {c : Code} {Q : Exit → Act → World → Prop} {a : Act} {w : World} {z : Beyond} (F : World → Prop) (hF : ∀ x, F (ext w (z.and x))) (h : (∀ x, F (ext w (z.and x))) → c.wp P Q a (ext w z)) : c.wp P Q a (ext w z) := h hF
theorem wp_have0 {c : Code} {Q : Exit → Act → World → Prop} {a : Act} {w : World} (F : World → Prop) (hF : ∀ x, F (ext w x)) (h : (∀ x, F (ext w x)) → c.wp P Q a w) : c.wp P Q a w := h hF
end
end Go

namespace Go
open RowKit
section
variable {P : Program} {ops : Array Oper} {rest : List Oper} {o : Oper} {a : Act} {Q : Exit → Act → World → Prop}
/-- append of the elements of whatever slice (nil, empty or not) onto a slice of the call's own. -/
theorem append_any {t e : TypeId} {z : Value} {size bytes : Nat} (hT : SlT P t e z size bytes) {wB W0 W1 W : World} (hb : Bel wB W)
    {A : Option Addr} {n c : Nat} {xs : List Value} (hown : Own W0 wB.heap.size e size A n c xs) (hb0 : Bel W0 W)
    {A1 : Option Addr} {m c' : Nat} {news : List Value} (hsrc : Sl W1 size A1 m c' news) (hb1 : Bel W1 W) (h1 : ∀ u ∈ news, u.oneCell' = true) (hnil : A1 = none → c' = 0) (hlen : n + m ≤ 4294967296)
    (hgd : o.guard = none) (s x : Operand) (ho : o.op = .call { callee := .builtin .append, args := #[s, x], argTypes := #[t, t] })
    (hs : a.eval s = .slice A n c) (hx : a.eval x = .slice A1 m c')
    (h : ∀ A' c'' y, Own (ext wB y) wB.heap.size e size A' (n + m) c'' (xs ++ news) → wpList P ops Q rest (a.put o.dst (.slice A' (n + m) c'')) (ext wB y)) : wpList P ops Q (o :: rest) a W := by
  obtain ⟨i, hi, hz0, hz1, hz2⟩ := info_parts hT.info
  have hown' := hown.bel hb0
  cases A1 with
  | none =>
    have hm : m = 0 := Nat.eq_zero_of_not_pos fun hp => by obtain ⟨b, o', hA, _⟩ := hsrc.at_ hp; cases hA
    subst hm
    obtain rfl := hnil rfl
    have hn : news = [] := List.eq_nil_of_length_eq_zero (by simpa using hsrc.len)
    subst hn
    obtain ⟨y, rfl⟩ := ext_of hb
    have hrun := run_append_owned_none (P := P) (w := ext wB y) wB.heap.size t o.type e i size hT.und hi _ n xs hown'
    refine wpList_plain hgd fun K hK => ?_
    unfold Oper.wp execOp
    simp only [ho, resolve, invoke, builtin, Sem.run_bind, Sem.run_pure, Result.andThen_ok, List.map_toArray, List.map_cons, List.map_nil, hs, hx, hrun]
    exact hK _ _ (h A c y (by simpa using hown'))
  | some ad =>
    have hby : (n + m) * bytes ≤ 140737488355328 := Nat.le_trans (Nat.mul_le_mul hlen hT.small) (by decide)
    have hsrc' := hsrc.bel hb1
    refine wpList_append_m hgd s x t ho wB.heap.size e i z size bytes hT.und hi hz0 hz1 hz2 hT.zs hT.pos _ n xs hs hown' ad m c' news hx hsrc'.len
      (fun j u hu => ?_) h1 (Nat.le_trans hlen (by unfold maxLen; decide)) hby hb.size fun v' w' hown2 hg hmono => ?_
    · have hl : j < news.length := (List.getElem?_eq_some_iff.1 hu).1
      have hp : 0 < m := Nat.pos_of_ne_zero fun h0 => by rw [hsrc'.len, h0, Nat.zero_mul] at hl; omega
      obtain ⟨b, o', hA, _⟩ := hsrc'.at_ hp
      injection hA with hA
      subst hA
      have hj := hsrc'.cell hu
      unfold Addr.add
      split
      · rename_i h0; rw [h0] at hj; exact hj
      · exact hj
    · have hbel : Bel wB w' := hb.grown hg (fun k hk => by
        rcases hown'.block with h0 | ⟨g, h0, hge, _⟩
        · rw [h0] at hk; cases hk
        · rw [h0] at hk; injection hk with hk; omega) hmono
      obtain ⟨y, rfl⟩ := ext_of hbel
      have hv : ∃ A' c'', v' = .slice A' (n + m) c'' := by
        rcases hown2.2 with ⟨hv, hn⟩ | ⟨g, cap, cur, hv, _⟩
        · exact ⟨none, 0, by rw [hv, hn]⟩
        · exact ⟨_, _, hv⟩
      obtain ⟨A', c'', rfl⟩ := hv
      exact h A' c'' y hown2
end
end Go

namespace Go
theorem Own.nilc {w : World} {base : Nat} {e : TypeId} {size n c : Nat} {A : Option Addr} {xs : List Value} (h : Own w base e size A n c xs) : A = none → c = 0 := by
  rcases h.2 with ⟨hv, _⟩ | ⟨g, cap, cur, hv, _⟩
  · intro _; injection hv
  · intro hA; injection hv with h1; rw [hA] at h1; cases h1
theorem own_exists {w W0 W : World} {base : Nat} {e : TypeId} {size n c : Nat} {A : Option Addr} {xs : List Value} (hb : Bel w W) (h : Own W0 base e size A n c xs) (h0 : Bel W0 W) : ∃ y, W = ext w y ∧ Own (ext w y) base e size A n c xs := by
  obtain ⟨y, hy⟩ := ext_of hb
  exact ⟨y, hy, by rw [← hy]; exact h.bel h0⟩
end Go

namespace Go
open RowKit
section
variable {P : Program} {ops : Array Oper} {rest : List Oper} {o : Oper} {a : Act} {Q : Exit → Act → World → Prop}
theorem append1_keep {t e e' : TypeId} {z : Value} {size bytes : Nat} (hT : SlT P t e z size bytes) {wB W0 W : World} (hb : Bel wB W)
    {A : Option Addr} {n c : Nat} {xs : List Value} (hown : Own W0 wB.heap.size e size A n c xs) (hb0 : Bel W0 W)
    {cs : Array Value} (h1 : ∀ u ∈ cs.toList, u.oneCell' = true) (hsz : cs.size = size) (hlen : n + 1 ≤ 4294967296)
    (hgd : o.guard = none) (s x : Operand) (ho : o.op = .call { callee := .builtin .append, args := #[s, x], argTypes := #[t, t] }) {g : Nat}
    (hs : a.eval s = .slice A n c) (hx : a.eval x = .slice (some ⟨g, 0, none⟩) 1 1) (hg : g = W.heap.size)
    (h : ∀ A' c'' y, Own (ext wB y) wB.heap.size e size A' (n + 1) c'' (xs ++ cs.toList) → (∀ (p : Addr) (u : Value), W0.heap.size ≤ p.block → p.block < W.heap.size → W.cell? p = some u → (ext wB y).cell? p = some u) → wpList P ops Q rest (a.put o.dst (.slice A' (n + 1) c'')) (ext wB y)) : wpList P ops Q (o :: rest) a (W.alloc (.cells cs e')) := by
  obtain ⟨i, hi, hz0, hz1, hz2⟩ := info_parts hT.info
  have hown1 := (hown.bel hb0).alloc (.cells cs e')
  have hsrc := sl_new W cs e' size g hg hsz
  have hb1 : Bel wB (W.alloc (.cells cs e')) := hb.alloc _
  have hby : (n + 1) * bytes ≤ 140737488355328 := Nat.le_trans (Nat.mul_le_mul hlen hT.small) (by decide)
  refine wpList_append_m hgd s x t ho wB.heap.size e i z size bytes hT.und hi hz0 hz1 hz2 hT.zs hT.pos _ n xs hs hown1 ⟨g, 0, none⟩ 1 1 cs.toList hx hsrc.len
    (fun j u hu => ?_) h1 (Nat.le_trans hlen (by unfold maxLen; decide)) hby hb1.size fun v' w' hown' hg' hnil => ?_
  · have hj := hsrc.cell hu
    unfold Addr.add
    split
    · rename_i h0; rw [h0] at hj; exact hj
    · exact hj
  · have hbel : Bel wB w' := hb1.grown hg' (fun k hk => by
      rcases hown1.block with h0 | ⟨g, h0, hge, _⟩
      · rw [h0] at hk; cases hk
      · rw [h0] at hk; injection hk with hk; omega) hnil
    obtain ⟨y, rfl⟩ := ext_of hbel
    have hv : ∃ A' c'', v' = .slice A' (n + 1) c'' := by
      rcases hown'.2 with ⟨hv, hn⟩ | ⟨g, cap, cur, hv, _⟩
      · exact ⟨none, 0, by rw [hv, hn]⟩
      · exact ⟨_, _, hv⟩
    obtain ⟨A', c'', rfl⟩ := hv
    refine h A' c'' y hown' fun p u hp0 hp1 hpu => ?_
    rw [hg'.cell_far p (by simp; omega) ?_]
    · have := (World.grownBy_alloc W (.cells cs e') none).cell hpu (by simp)
      exact this
    · rcases hown.block with h0 | ⟨g, h0, hge, hlt⟩
      · rw [h0]; exact fun h => by cases h
      · rw [h0]; intro h; injection h with h; omega
end
end Go

namespace Go
open RowKit
theorem own_new {wB W : World} (hb : Bel wB W) (cs : Array Value) (e : TypeId) (size n g : Nat) (hg : g = W.heap.size) (hn : n ≤ maxLen) (hs : cs.size = n * size) : Own (W.alloc (.cells cs e)) wB.heap.size e size (some ⟨g, 0, none⟩) n n cs.toList := by
  subst hg
  exact World.ownsRow_lit W cs n hb.size hn hs
/-- what make has made, element by element -/
theorem made_mul (z : Array Value) (n : Nat) (hz : 0 < z.size) : (madeCells z (n * z.size)).toList = (List.replicate n z.toList).flatten := by
  induction n with
  | zero => simp [madeCells]
  | succ n ih =>
    rw [List.replicate_succ', List.flatten_append, ← ih]
    apply List.ext_getElem?
    intro j
    have hs : (n + 1) * z.size = n * z.size + z.size := Nat.succ_mul _ _
    rcases Nat.lt_or_ge j (n * z.size) with hj | hj
    · rw [List.getElem?_append_left (by simpa [madeCells] using hj)]
      simp [madeCells, hs, show j < n * z.size + z.size by omega, hj]
    · rw [List.getElem?_append_right (by simpa [madeCells] using hj)]
      have hl : (madeCells z (n * z.size)).toList.length = n * z.size := by simp [madeCells]
      rw [hl]
      obtain ⟨r, rfl⟩ : ∃ r, j = n * z.size + r := ⟨j - n * z.size, by omega⟩
      rw [Nat.add_sub_cancel_left]
      by_cases hr : r < z.size
      · have e : (n * z.size + r) % z.size = r := by rw [Nat.mul_comm, Nat.mul_add_mod]; exact Nat.mod_eq_of_lt hr
        simp [madeCells, hs, hr, e]
      · simp [madeCells, hs, hr]
/-- a slice literal, just built -/
theorem sl_lit (W : World) (xs : List Value) (e : TypeId) (size n g : Nat) (hg : g = W.heap.size) (hs : xs.length = n * size) : Sl (W.alloc (.cells xs.toArray e)) size (some ⟨g, 0, none⟩) n n xs := by
  subst hg
  have := sl_cells (W := W.alloc (.cells xs.toArray e)) (g := W.heap.size) (n := n) (size := size) (cs := xs.toArray) (by simp) (by simpa using hs) (fun j => by simp [go_sem])
  simpa using this
theorem sl_blit (W : World) (l : List UInt8) (e : TypeId) (g : Nat) (hg : g = W.heap.size) : Sl (W.alloc (.cells (vb l).toArray e)) 1 (some ⟨g, 0, none⟩) l.length l.length (vb l) := sl_lit W (vb l) e 1 l.length g hg (by simp [vb_length])
/-- a slice of the call's own where an elder block has been written -/
theorem own_swap {V V' : World} {y : Beyond} {base : Nat} {e : TypeId} {size n c : Nat} {A : Option Addr} {xs : List Value} (hs : V.heap.size = V'.heap.size) (h : Own (ext V y) base e size A n c xs) (hb : V.heap.size ≤ base) : Own (ext V' y) base e size A n c xs := by
  obtain ⟨h1, h2⟩ := h
  refine ⟨h1, ?_⟩
  rcases h2 with h2 | ⟨g, cap, cur, hv, hg, hh, r⟩
  · exact .inl h2
  · refine .inr ⟨g, cap, cur, hv, hg, ?_, r⟩
    have e1 : (ext V y).heap = V.heap ++ y.objs := by unfold ext; rfl
    have e2 : (ext V' y).heap = V'.heap ++ y.objs := by unfold ext; rfl
    rw [e1, Array.getElem?_append_right (by omega)] at hh
    rw [e2, Array.getElem?_append_right (by omega), ← hs]
    exact hh
section
variable {P : Program} {ops : Array Oper} {rest : List Oper} {o : Oper} {a : Act} {Q : Exit → Act → World → Prop}
/-- an operation whose guard is met -/
theorem wpList_unguard {w : World} {j : Nat} {want : Bool} (hg : o.guard = some (j, want)) (hy : yielded ops a.tmps j = some want) (h : wpList P ops Q ({ o with guard := none } :: rest) a w) : wpList P ops Q (o :: rest) a w := by
  have h1 : Region.wanted o (yielded ops a.tmps) = true := by simp [Region.wanted, hg, hy]
  unfold wpList at h ⊢
  rw [if_pos h1]
  exact h
/-- bytes that came in, as a string -/
theorem conv_any {W W' : World} {A : Option Addr} {n c : Nat} {l : List UInt8} (h : Sl W 1 A n c (vb l)) (hn : A = none → c = 0) (hb : Bel W W') {src e dst : TypeId} (hs : P.underlying src = some (.slice e)) (he : P.underlying e = some (.int .u8)) (hd : P.underlying dst = some .string) :
    (convert src dst (.slice A n c)).run P W' = .ok (.string ⟨l.toArray⟩) W' := by
  have hl : l.length = n := by have := h.len; rw [vb_length] at this; omega
  by_cases h0 : 0 < n
  · obtain ⟨b, o', rfl, _⟩ := h.at_ h0
    exact conv_sl h hb hs he hd
  · obtain rfl : n = 0 := by omega
    obtain rfl : l = [] := List.eq_nil_of_length_eq_zero hl
    cases A with
    | none => rw [run_convert_bytes_nil W' src e hs he 0 c dst hd]; rfl
    | some ad =>
      have hl0 : (loadCells ad 0).run P W' = .ok (([] : List Int).map (Value.int .u8)).toArray W' := rfl
      rw [run_convert_bytes_string W' src dst e _ 0 c hs he hd, run_bytesToString W' _ 0 c [] hl0]; rfl
/-- append of the elements of whatever slice onto '[]T{}'. -/
theorem append_new {t e : TypeId} {z : Value} {size bytes : Nat} (hT : SlT P t e z size bytes) {wB W1 W : World} (hb : Bel wB W)
    {A1 : Option Addr} {m c' : Nat} {news : List Value} (hsrc : Sl W1 size A1 m c' news) (hb1 : Bel W1 W) (h1 : ∀ u ∈ news, u.oneCell' = true) (hnil : A1 = none → c' = 0) (hlen : m ≤ 4294967296)
    (hgd : o.guard = none) (s x : Operand) (ho : o.op = .call { callee := .builtin .append, args := #[s, x], argTypes := #[t, t] }) {g : Nat}
    (hs : a.eval s = .slice (some ⟨g, 0, none⟩) 0 0) (hx : a.eval x = .slice A1 m c') (hg : g = W.heap.size)
    (h : ∀ A' c'' y, Own (ext wB y) wB.heap.size e size A' m c'' news → wpList P ops Q rest (a.put o.dst (.slice A' m c'')) (ext wB y)) : wpList P ops Q (o :: rest) a (W.alloc (.cells #[] e)) := by
  refine append_any hT (hb.alloc _) (own_new hb #[] e size 0 g hg (Nat.zero_le _) (by simp)) (Bel.refl _) hsrc (hb1.alloc _) h1 hnil (by omega) hgd s x ho hs hx fun A' c'' y hown => ?_
  rw [Nat.zero_add] at hown ⊢
  exact h A' c'' y hown
end
end Go

namespace Go
open RowKit
section
variable {α : Type} {cells : α → List Value} {k : Nat}
theorem fl_len (hk : ∀ a, (cells a).length = k) (l : List α) : (l.flatMap cells).length = l.length * k := by
  induction l with
  | nil => simp
  | cons x l ih => rw [List.flatMap_cons, List.length_append, ih, hk, List.length_cons, Nat.add_mul]; omega
theorem fl_at (hk : ∀ a, (cells a).length = k) {l : List α} {i : Nat} {x : α} (h : l[i]? = some x) (j : Nat) (hj : j < k) : (l.flatMap cells)[i * k + j]? = (cells x)[j]? := by
  induction l generalizing i with
  | nil => simp at h
  | cons y l ih =>
    rw [List.flatMap_cons]
    cases i with
    | zero =>
      simp only [List.getElem?_cons_zero, Option.some.injEq] at h
      subst h
      rw [Nat.zero_mul, Nat.zero_add, List.getElem?_append_left (by rw [hk]; exact hj)]
    | succ i =>
      rw [List.getElem?_append_right (by rw [hk, Nat.add_mul]; omega), hk]
      have e : (i + 1) * k + j - k = i * k + j := by rw [Nat.add_mul]; omega
      rw [e]; exact ih (by simpa using h)
theorem fl_take (hk : ∀ a, (cells a).length = k) (l : List α) (n : Nat) : (l.flatMap cells).take (n * k) = (l.take n).flatMap cells := by
  induction l generalizing n with
  | nil => simp
  | cons x l ih =>
    cases n with
    | zero => simp
    | succ n =>
      rw [List.flatMap_cons, List.take_succ_cons, List.flatMap_cons, List.take_append]
      rw [hk, List.take_of_length_le (by rw [hk, Nat.add_mul]; omega), show (n + 1) * k - k = n * k by rw [Nat.add_mul]; omega, ih]
theorem fl_drop (hk : ∀ a, (cells a).length = k) (l : List α) (n : Nat) : (l.flatMap cells).drop (n * k) = (l.drop n).flatMap cells := by
  induction l generalizing n with
  | nil => simp
  | cons x l ih =>
    cases n with
    | zero => simp
    | succ n =>
      rw [List.flatMap_cons, List.drop_succ_cons, List.drop_append, hk, List.drop_of_length_le (by rw [hk, Nat.add_mul]; omega), show (n + 1) * k - k = n * k by rw [Nat.add_mul]; omega, ih]
      simp
theorem fl_snoc (l : List α) (x : α) : (l ++ [x]).flatMap cells = l.flatMap cells ++ cells x := by simp
theorem fl_one (h : ∀ a, ∀ u ∈ cells a, u.oneCell' = true) (l : List α) : ∀ u ∈ l.flatMap cells, u.oneCell' = true := by
  intro u hu
  obtain ⟨x, _, hx⟩ := List.mem_flatMap.1 hu
  exact h x u hx
/-- an element's cell in a slice -/
theorem fl_cell {w : World} {b o n c i : Nat} {l : List α} {x : α} (hk : ∀ a, (cells a).length = k) (h : Sl w k (some ⟨b, o, none⟩) n c (l.flatMap cells)) (hx : l[i]? = some x) {j : Nat} {u : Value} (hj : (cells x)[j]? = some u) : w.cell? ⟨b, o + i * k + j, none⟩ = some u := by
  have hjk : j < k := by rw [← hk x]; exact (List.getElem?_eq_some_iff.1 hj).1
  have := h.cell (j := i * k + j) (u := u) (by rw [fl_at hk hx j hjk]; exact hj)
  rwa [← Nat.add_assoc] at this
theorem fl_sl_take {w : World} {A : Option Addr} {n c i : Nat} {l : List α} (hk : ∀ a, (cells a).length = k) (h : Sl w k A n c (l.flatMap cells)) (hi : i ≤ n) : Sl w k A i c ((l.take i).flatMap cells) := by
  rw [← fl_take hk]; exact h.take hi
end
end Go
namespace Go
section
variable {α : Type} {cells : α → List Value} {k : Nat}
theorem fl_sl_drop {w : World} {b o n c i : Nat} {l : List α} (hk : ∀ a, (cells a).length = k) (h : Sl w k (some ⟨b, o, none⟩) n c (l.flatMap cells)) (hi : i ≤ n) : Sl w k (some ⟨b, o + i * k, none⟩) (n - i) (c - i) ((l.drop i).flatMap cells) := by
  rw [← fl_drop hk]
  exact ⟨by have := h.1; omega, by rw [List.length_drop, h.2.1, Nat.sub_mul], fun hn => by
    obtain ⟨b', o', hA, hb, hc⟩ := h.2.2 (by omega)
    injection hA with hA
    injection hA with e1 e2
    subst e1 e2
    refine ⟨b, _, rfl, hb, fun j u hu => ?_⟩
    rw [List.getElem?_drop] at hu
    rw [Nat.add_assoc]
    exact hc _ u hu⟩
end
end Go
namespace Go
theorem nil_ret {w W : World} (hb : Bel w W) {e : TypeId} {size B : Nat} : ∃ x, W = ext w x ∧ Own (ext w x) B e size none 0 0 [] := by
  obtain ⟨x, hx⟩ := ext_of hb
  exact ⟨x, hx, Own.nil_ _ _ _ _⟩
theorem ext_nil (w : World) (e : TypeId) (size : Nat) (B : Nat) : ∃ x, w = ext w x ∧ Own (ext w x) B e size none 0 0 [] := by
  obtain ⟨x, hx⟩ := ext_of (Bel.refl w)
  exact ⟨x, hx, Own.nil_ _ _ _ _⟩
end Go

namespace Go.Pel
open Go
structure Pt where
  id : Int
  a : Int
  b : Int
  deriving DecidableEq
def Pt.zero : Pt := ⟨0, 0, 0⟩
def Pt.cells (p : Pt) : List Value := [.int .i64 p.id, .int .i64 p.a, .int .i64 p.b]
def Pt.chk (p : Pt) : Int := pointChk p.id p.a p.b
structure Pt.Fits (p : Pt) : Prop where
  id : -9223372036854775808 ≤ p.id ∧ p.id ≤ 9223372036854775807
  a : -9223372036854775808 ≤ p.a ∧ p.a ≤ 9223372036854775807
  b : -9223372036854775808 ≤ p.b ∧ p.b ≤ 9223372036854775807
def vp (l : List Pt) : List Value := l.flatMap Pt.cells
theorem pt_len (p : Pt) : p.cells.length = 3 := rfl
theorem pt_one (p : Pt) : ∀ u ∈ p.cells, u.oneCell' = true := by
  intro u hu
  simp only [Pt.cells, List.mem_cons, List.not_mem_nil, or_false] at hu
  rcases hu with rfl | rfl | rfl <;> rfl
theorem vp_one (l : List Pt) : ∀ u ∈ vp l, u.oneCell' = true := fl_one pt_one l
theorem vp_len (l : List Pt) : (vp l).length = l.length * 3 := fl_len pt_len l
theorem vp_snoc (l : List Pt) (p : Pt) : vp (l ++ [p]) = vp l ++ p.cells := fl_snoc l p
theorem vp_append (l m : List Pt) : vp (l ++ m) = vp l ++ vp m := by simp [vp]
theorem pt_at {w : World} {b o n c i : Nat} {l : List Pt} {p : Pt} (h : Sl w 3 (some ⟨b, o, none⟩) n c (vp l)) (hx : l[i]? = some p) :
    w.cell? ⟨b, o + i * 3, none⟩ = some (.int .i64 p.id) ∧ w.cell? ⟨b, o + i * 3 + 1, none⟩ = some (.int .i64 p.a) ∧ w.cell? ⟨b, o + i * 3 + 2, none⟩ = some (.int .i64 p.b) :=
  ⟨fl_cell pt_len h hx (j := 0) rfl, fl_cell pt_len h hx (j := 1) rfl, fl_cell pt_len h hx (j := 2) rfl⟩
/-- IDs go up -/
def incB : List Pt → Bool
  | [] => true
  | [_] => true
  | p :: q :: r => decide (p.id < q.id) && incB (q :: r)
theorem incB_iff (l : List Pt) : incB l = true ↔ ∀ (i : Nat) (p q : Pt), l[i]? = some p → l[i + 1]? = some q → p.id < q.id := by
  induction l with
  | nil => simp [incB]
  | cons x l ih =>
    cases l with
    | nil => simp [incB]
    | cons y r =>
      simp only [incB, Bool.and_eq_true, decide_eq_true_eq, ih]
      constructor
      · rintro ⟨h0, h⟩ i p q hp hq
        cases i with
        | zero => simp at hp hq; rw [← hp, ← hq]; exact h0
        | succ i => exact h i p q (by simpa using hp) (by simpa using hq)
      · intro h
        exact ⟨h 0 x y rfl rfl, fun i p q hp hq => h (i + 1) p q (by simpa using hp) (by simpa using hq)⟩
theorem inc_lt {l : List Pt} (h : incB l = true) {i j : Nat} (hij : i < j) {p q : Pt} (hp : l[i]? = some p) (hq : l[j]? = some q) : p.id < q.id := by
  induction j generalizing q with
  | zero => omega
  | succ j ih =>
    rcases Nat.lt_or_ge i j with hlt | hge
    · have hjl : j < l.length := by have := (List.getElem?_eq_some_iff.1 hq).1; omega
      obtain ⟨m, hm⟩ : ∃ m, l[j]? = some m := ⟨_, List.getElem?_eq_getElem hjl⟩
      have h1 := ih hlt hm
      have h2 := (incB_iff l).1 h j m q hm hq
      omega
    · obtain rfl : i = j := by omega
      exact (incB_iff l).1 h i p q hp hq
/-- P3.1: Check -/
def fieldChk (l : List Pt) : Int := if 64 < l.length then 4 else if ∀ p ∈ l, p.chk = 0 then (if incB l then 0 else 32) else 8
theorem fieldChk_many {l : List Pt} (h : 64 < l.length) : fieldChk l = 4 := if_pos h
theorem fieldChk_bad {l : List Pt} (h : l.length ≤ 64) {p : Pt} (hp : p ∈ l) (hc : p.chk ≠ 0) : fieldChk l = 8 := by
  unfold fieldChk; rw [if_neg (by omega), if_neg]; intro h'; exact hc (h' p hp)
theorem fieldChk_order {l : List Pt} (h : l.length ≤ 64) (hc : ∀ p ∈ l, p.chk = 0) (hi : incB l = false) : fieldChk l = 32 := by
  unfold fieldChk; rw [if_neg (by omega), if_pos hc, hi]; rfl
theorem fieldChk_ok {l : List Pt} (h : l.length ≤ 64) (hc : ∀ p ∈ l, p.chk = 0) (hi : incB l = true) : fieldChk l = 0 := by
  unfold fieldChk; rw [if_neg (by omega), if_pos hc, hi]; rfl
theorem fieldChk_zero {l : List Pt} (h : fieldChk l = 0) : l.length ≤ 64 ∧ (∀ p ∈ l, p.chk = 0) ∧ incB l = true := by
  unfold fieldChk at h
  split at h
  · omega
  · split at h
    · rename_i h1 h2
      refine ⟨by omega, h2, ?_⟩
      split at h
      · assumption
      · omega
    · omega
theorem fieldChk_cases (l : List Pt) : fieldChk l = 0 ∨ fieldChk l = 4 ∨ fieldChk l = 8 ∨ fieldChk l = 32 := by
  unfold fieldChk; split
  · simp
  · split
    · split <;> simp
    · simp
theorem chk_pt {p : Pt} (h : p.chk = 0) : 0 ≤ p.id ∧ p.id ≤ 65535 ∧ -1048576 ≤ p.a ∧ p.a ≤ 1048576 ∧ -1048576 ≤ p.b ∧ p.b ≤ 1048576 := pointChk_zero h
theorem pt_cases (p : Pt) : p.chk = 0 ∨ p.chk = 8 := pointChk_cases _ _ _
/-- where the point with an ID is, or would be -/
def lowB (l : List Pt) (id : Int) : Nat := (l.takeWhile fun p => decide (p.id < id)).length
theorem lowB_le (l : List Pt) (id : Int) : lowB l id ≤ l.length := by unfold lowB; exact (List.takeWhile_prefix _).length_le
theorem lowB_of {l : List Pt} {id : Int} {k : Nat} (hk : k ≤ l.length) (h1 : ∀ (i : Nat) (p : Pt), i < k → l[i]? = some p → p.id < id) (h2 : ∀ p, l[k]? = some p → id ≤ p.id) : lowB l id = k := by
  unfold lowB
  induction l generalizing k with
  | nil => simp at hk; simp [hk]
  | cons x l ih =>
    cases k with
    | zero =>
      have := h2 x rfl
      rw [List.takeWhile_cons_of_neg (by simp; omega)]; rfl
    | succ k =>
      have := h1 0 x (by omega) rfl
      rw [List.takeWhile_cons_of_pos (by simpa using this), List.length_cons, ih (by simpa using hk) (fun i p hi hp => h1 (i + 1) p (by omega) (by simpa using hp)) (fun p hp => h2 p (by simpa using hp))]
theorem lowB_lt {l : List Pt} {id : Int} {i : Nat} {p : Pt} (hi : i < lowB l id) (hp : l[i]? = some p) : p.id < id := by
  induction l generalizing i with
  | nil => simp at hp
  | cons x l ih =>
    unfold lowB at hi
    by_cases hx : x.id < id
    · rw [List.takeWhile_cons_of_pos (by simpa using hx), List.length_cons] at hi
      cases i with
      | zero => simp at hp; subst hp; exact hx
      | succ i => exact ih (i := i) (by unfold lowB; omega) (by simpa using hp)
    · rw [List.takeWhile_cons_of_neg (by simpa using hx)] at hi
      simp at hi
theorem lowB_ge {l : List Pt} {id : Int} {p : Pt} (hp : l[lowB l id]? = some p) : id ≤ p.id := by
  unfold lowB at hp
  induction l with
  | nil => simp at hp
  | cons x l ih =>
    by_cases hx : x.id < id
    · rw [List.takeWhile_cons_of_pos (by simpa using hx), List.length_cons] at hp
      exact ih (by simpa using hp)
    · rw [List.takeWhile_cons_of_neg (by simpa using hx)] at hp
      simp at hp
      subst hp; omega
/-- has the field the ID? -/
def hasB (l : List Pt) (id : Int) : Bool := l.any fun p => decide (p.id = id)
theorem hasB_at {l : List Pt} (h : incB l = true) (id : Int) : hasB l id = (match l[lowB l id]? with | some p => decide (p.id = id) | none => false) := by
  cases hb : l[lowB l id]? with
  | none =>
    have hlen : l.length ≤ lowB l id := by simpa using hb
    unfold hasB
    rw [List.any_eq_false]
    intro p hp
    obtain ⟨i, hi⟩ := List.getElem?_of_mem hp
    have : i < l.length := (List.getElem?_eq_some_iff.1 hi).1
    have := lowB_lt (id := id) (by omega) hi
    simp; omega
  | some q =>
    have hge := lowB_ge hb
    simp only
    by_cases hq : q.id = id
    · rw [decide_eq_true hq]
      unfold hasB
      rw [List.any_eq_true]
      exact ⟨q, List.mem_of_getElem? hb, by simpa using hq⟩
    · rw [decide_eq_false hq]
      unfold hasB
      rw [List.any_eq_false]
      intro p hp
      obtain ⟨i, hi⟩ := List.getElem?_of_mem hp
      rcases Nat.lt_trichotomy i (lowB l id) with hlt | rfl | hgt
      · have := lowB_lt hlt hi; simp; omega
      · rw [hb] at hi; obtain rfl := Option.some.inj hi; simpa using hq
      · have := inc_lt h hgt hb hi; simp; omega
/-- the first point with an ID (the reference's At): its index, or -1 -/
def atI (l : List Pt) (id : Int) : Int := if hasB l id then ((l.takeWhile fun p => decide (p.id ≠ id)).length : Int) else -1
theorem atI_no {l : List Pt} {id : Int} (h : hasB l id = false) : atI l id = -1 := by unfold atI; rw [h]; rfl
theorem atI_of {l : List Pt} {id : Int} {k : Nat} {p : Pt} (h1 : ∀ (i : Nat) (p : Pt), i < k → l[i]? = some p → p.id ≠ id) (hk : l[k]? = some p) (hp : p.id = id) : atI l id = k := by
  have hb : hasB l id = true := by
    unfold hasB; rw [List.any_eq_true]; exact ⟨p, List.mem_of_getElem? hk, by simpa using hp⟩
  unfold atI; rw [hb, if_pos rfl]
  congr 1
  clear hb
  induction l generalizing k with
  | nil => simp at hk
  | cons x l ih =>
    cases k with
    | zero =>
      simp at hk; subst hk
      rw [List.takeWhile_cons_of_neg (by simpa using hp)]; rfl
    | succ k =>
      have := h1 0 x (by omega) rfl
      rw [List.takeWhile_cons_of_pos (by simpa using this), List.length_cons, ih (k := k) (fun i p hi hp => h1 (i + 1) p (by omega) (by simpa using hp)) (by simpa using hk)]
theorem hasB_no {l : List Pt} {id : Int} (h : ∀ (i : Nat) (p : Pt), l[i]? = some p → p.id ≠ id) : hasB l id = false := by
  unfold hasB; rw [List.any_eq_false]; intro p hp
  obtain ⟨i, hi⟩ := List.getElem?_of_mem hp
  simpa using h i p hi
/-- in a valid field both agree -/
theorem atI_low {l : List Pt} (h : incB l = true) {id : Int} (hb : hasB l id = true) : atI l id = lowB l id ∧ ∃ p, l[lowB l id]? = some p ∧ p.id = id := by
  rw [hasB_at h] at hb
  cases hq : l[lowB l id]? with
  | none => rw [hq] at hb; cases hb
  | some q =>
    rw [hq] at hb
    simp only [decide_eq_true_eq] at hb
    exact ⟨atI_of (fun i p hi hp => by have := lowB_lt (l := l) (id := id) hi hp; omega) hq hb, q, rfl, hb⟩
/-- P3.1: Find -/
def fieldFind (l : List Pt) (id : Int) : Pt × Int := if fieldChk l ≠ 0 then (Pt.zero, fieldChk l) else if hasB l id then (l.getD (lowB l id) Pt.zero, 0) else (Pt.zero, 6)
/-- P3.2: Put, Take, Change -/
def fieldPut (l : List Pt) (p : Pt) : List Pt × Int :=
  if fieldChk l ≠ 0 then ([], fieldChk l) else if p.chk ≠ 0 then ([], 8) else if hasB l p.id then ([], 14) else if l.length = 64 then ([], 18) else (l.take (lowB l p.id) ++ p :: l.drop (lowB l p.id), 0)
def fieldTake (l : List Pt) (id : Int) : List Pt × Int :=
  if fieldChk l ≠ 0 then ([], fieldChk l) else if hasB l id then (l.take (lowB l id) ++ l.drop (lowB l id + 1), 0) else ([], 6)
def fieldChange (l : List Pt) (p : Pt) : List Pt × Int :=
  if fieldChk l ≠ 0 then ([], fieldChk l) else if p.chk ≠ 0 then ([], 8) else if hasB l p.id then (l.set (lowB l p.id) p, 0) else ([], 6)
def vi (l : List Int) : List Value := l.map (Value.int .i64)
end Go.Pel

namespace Go
open RowKit
section
variable {P : Program} {ops : Array Oper} {o : Oper} {a : Act} {K : Act → World → Prop} {Q : Exit → Act → World → Prop} {E : Prop}
theorem oper_append_any {t e : TypeId} {z : Value} {size bytes : Nat} (hT : SlT P t e z size bytes) {wB W0 W1 W : World} (hb : Bel wB W)
    {A : Option Addr} {n c : Nat} {xs : List Value} (hown : Own W0 wB.heap.size e size A n c xs) (hb0 : Bel W0 W)
    {A1 : Option Addr} {m c' : Nat} {news : List Value} (hsrc : Sl W1 size A1 m c' news) (hb1 : Bel W1 W) (h1 : ∀ u ∈ news, u.oneCell' = true) (hnil : A1 = none → c' = 0) (hlen : n + m ≤ 4294967296)
    (s x : Operand) (ho : o.op = .call { callee := .builtin .append, args := #[s, x], argTypes := #[t, t] })
    (hs : a.eval s = .slice A n c) (hx : a.eval x = .slice A1 m c')
    (h : ∀ A' c'' y, Own (ext wB y) wB.heap.size e size A' (n + m) c'' (xs ++ news) → K (a.put o.dst (.slice A' (n + m) c'')) (ext wB y)) : Oper.wp P o a W K Q := by
  obtain ⟨i, hi, hz0, hz1, hz2⟩ := info_parts hT.info
  have hown' := hown.bel hb0
  cases A1 with
  | none =>
    have hm : m = 0 := Nat.eq_zero_of_not_pos fun hp => by obtain ⟨b, o', hA, _⟩ := hsrc.at_ hp; cases hA
    subst hm
    obtain rfl := hnil rfl
    have hn : news = [] := List.eq_nil_of_length_eq_zero (by simpa using hsrc.len)
    subst hn
    obtain ⟨y, rfl⟩ := ext_of hb
    have hrun := run_append_owned_none (P := P) (w := ext wB y) wB.heap.size t o.type e i size hT.und hi _ n xs hown'
    unfold Oper.wp execOp
    simp only [ho, resolve, invoke, builtin, Sem.run_bind, Sem.run_pure, Result.andThen_ok, List.map_toArray, List.map_cons, List.map_nil, hs, hx, hrun]
    exact h A c y (by simpa using hown')
  | some ad =>
    have hby : (n + m) * bytes ≤ 140737488355328 := Nat.le_trans (Nat.mul_le_mul hlen hT.small) (by decide)
    have hsrc' := hsrc.bel hb1
    refine wp_append_m s x t ho wB.heap.size e i z size bytes hT.und hi hz0 hz1 hz2 hT.zs hT.pos _ n xs hs hown' ad m c' news hx hsrc'.len
      (fun j u hu => ?_) h1 (Nat.le_trans hlen (by unfold maxLen; decide)) hby hb.size fun v' w' hown2 hg hmono => ?_
    · have hl : j < news.length := (List.getElem?_eq_some_iff.1 hu).1
      have hp : 0 < m := Nat.pos_of_ne_zero fun h0 => by rw [hsrc'.len, h0, Nat.zero_mul] at hl; omega
      obtain ⟨b, o', hA, _⟩ := hsrc'.at_ hp
      injection hA with hA
      subst hA
      have hj := hsrc'.cell hu
      unfold Addr.add
      split
      · rename_i h0; rw [h0] at hj; exact hj
      · exact hj
    · have hbel : Bel wB w' := hb.grown hg (fun k hk => by
        rcases hown'.block with h0 | ⟨g, h0, hge, _⟩
        · rw [h0] at hk; cases hk
        · rw [h0] at hk; injection hk with hk; omega) hmono
      obtain ⟨y, rfl⟩ := ext_of hbel
      have hv : ∃ A' c'', v' = .slice A' (n + m) c'' := by
        rcases hown2.2 with ⟨hv, hn⟩ | ⟨g, cap, cur, hv, _⟩
        · exact ⟨none, 0, by rw [hv, hn]⟩
        · exact ⟨_, _, hv⟩
      obtain ⟨A', c'', rfl⟩ := hv
      exact h A' c'' y hown2
theorem step_append_any {t e : TypeId} {z : Value} {size bytes : Nat} (hT : SlT P t e z size bytes) {wB W0 W1 W : World} (hb : Bel wB W)
    {A : Option Addr} {n c : Nat} {xs : List Value} (hown : Own W0 wB.heap.size e size A n c xs) (hb0 : Bel W0 W)
    {A1 : Option Addr} {m c' : Nat} {news : List Value} (hsrc : Sl W1 size A1 m c' news) (hb1 : Bel W1 W) (h1 : ∀ u ∈ news, u.oneCell' = true) (hnil : A1 = none → c' = 0) (hlen : n + m ≤ 4294967296)
    (hgd : o.guard = none) (s x : Operand) (ho : o.op = .call { callee := .builtin .append, args := #[s, x], argTypes := #[t, t] })
    (hs : a.eval s = .slice A n c) (hx : a.eval x = .slice A1 m c')
    (h : ∀ A' c'' y, Own (ext wB y) wB.heap.size e size A' (n + m) c'' (xs ++ news) → K (a.put o.dst (.slice A' (n + m) c'')) (ext wB y)) :
    if Region.wanted o (yielded ops a.tmps) = true then Oper.wp P o a W K Q else E := by
  have hw : Region.wanted o (yielded ops a.tmps) = true := by simp [Region.wanted, hgd]
  rw [if_pos hw]
  exact oper_append_any hT hb hown hb0 hsrc hb1 h1 hnil hlen s x ho hs hx h
/-- append of one element, just built -/
theorem step_append1 {t e e' : TypeId} {z : Value} {size bytes : Nat} (hT : SlT P t e z size bytes) {wB W0 W : World} (hb : Bel wB W)
    {A : Option Addr} {n c : Nat} {xs : List Value} (hown : Own W0 wB.heap.size e size A n c xs) (hb0 : Bel W0 W)
    {cs : Array Value} (h1 : ∀ u ∈ cs.toList, u.oneCell' = true) (hsz : cs.size = size) (hlen : n + 1 ≤ 4294967296)
    (hgd : o.guard = none) (s x : Operand) (ho : o.op = .call { callee := .builtin .append, args := #[s, x], argTypes := #[t, t] }) {g : Nat}
    (hs : a.eval s = .slice A n c) (hx : a.eval x = .slice (some ⟨g, 0, none⟩) 1 1) (hg : g = W.heap.size)
    (h : ∀ A' c'' y, Own (ext wB y) wB.heap.size e size A' (n + 1) c'' (xs ++ cs.toList) → K (a.put o.dst (.slice A' (n + 1) c'')) (ext wB y)) :
    if Region.wanted o (yielded ops a.tmps) = true then Oper.wp P o a (W.alloc (.cells cs e')) K Q else E :=
  step_append_any hT (hb.alloc _) hown (hb0.alloc _) (sl_new W cs e' size g hg hsz) (Bel.refl _) h1 (fun h => by cases h) hlen hgd s x ho hs hx h
end
end Go
namespace Go
open RowKit
def setL (xs : List Value) : Nat → List Value → List Value
  | _, [] => xs
  | o, v :: r => setL (xs.set o v) (o + 1) r
theorem setL_len : ∀ (vs : List Value) (o : Nat) (xs : List Value), (setL xs o vs).length = xs.length
  | [], _, _ => rfl
  | v :: r, o, xs => by rw [setL, setL_len r]; simp
theorem own_setCells {wB : World} {e : TypeId} {size g n c B : Nat} (hg : wB.heap.size ≤ g) : ∀ (vs : List Value) (o : Nat) (xs : List Value) (W : World), Bel wB W → Own W B e size (some ⟨g, 0, none⟩) n c xs →
    Bel wB (W.setCells g o vs) ∧ Own (W.setCells g o vs) B e size (some ⟨g, 0, none⟩) n c (setL xs o vs)
  | [], _, _, _, hb, h => ⟨hb, h⟩
  | v :: r, o, xs, W, hb, h => own_setCells hg r (o + 1) _ _ (hb.setCell (p := ⟨g, o, none⟩) hg v) (World.ownsRow.stored h o v).1
section
variable {P : Program} {ops : Array Oper} {rest : List Oper} {o : Oper} {a : Act} {Q : Exit → Act → World → Prop}
/-- a struct stored into a row of the call's own -/
theorem store_own {wB W : World} (hb : Bel wB W) {B g n c size : Nat} {e : TypeId} {xs : List Value} (hown : Own W B e size (some ⟨g, 0, none⟩) n c xs) (hg : wB.heap.size ≤ g) (off : Nat) (cells : Array Value) (hfit : off + cells.size ≤ xs.length) (hgd : o.guard = none) (ty : TypeId) (d v : Operand) (ho : o.op = .store ty d v) (hd : a.eval d = .pointer (some ⟨g, off, none⟩)) (hv : a.eval v = .agg cells) (hi : (P.info? ty).map (·.size) = some cells.size) (h1 : cells.all (·.oneCell') = true)
    (h : ∀ y, Own (ext wB y) B e size (some ⟨g, 0, none⟩) n c (setL xs off cells.toList) → wpList P ops Q rest (a.put o.dst undef) (ext wB y)) : wpList P ops Q (o :: rest) a W := by
  refine wpList_store_mid hgd ty d v ho g off cells hd hv (fun j hj => ?_) hi h1 ?_
  · have hl : off + j < xs.length := by omega
    obtain ⟨u, hu⟩ : ∃ u, xs[off + j]? = some u := ⟨_, List.getElem?_eq_getElem hl⟩
    exact ⟨by rw [own_cell hown hu]; rfl, own_frozen hown _⟩
  · obtain ⟨h2, h3⟩ := own_setCells hg cells.toList off xs W hb hown
    obtain ⟨y, hy⟩ := ext_of h2
    rw [hy] at h3 ⊢
    exact h y h3
end
end Go
namespace Go
open RowKit
theorem block_ne {a b g : Nat} (hne : b ≠ a) (h : some (⟨a, 0, none⟩ : Addr) = some ⟨g, 0, none⟩) : b ≠ g := by
  have e1 : a = g := by injection h with h; injection h
  rw [← e1]; exact hne
theorem own_other {W : World} {B n c b o size : Nat} {e : TypeId} {xs : List Value} {A : Option Addr} (h : Own W B e size A n c xs) (u : Value) (hne : ∀ g, A = some ⟨g, 0, none⟩ → b ≠ g) : Own (W.setCell ⟨b, o, none⟩ u) B e size A n c xs := by
  refine ⟨h.1, ?_⟩
  rcases h.2 with h2 | ⟨g, cap, cur, hv, hg, hh, r⟩
  · exact .inl h2
  · refine .inr ⟨g, cap, cur, hv, hg, ?_, r⟩
    have hbg : b ≠ g := hne g (by injection hv)
    have e1 : (W.setCell ⟨b, o, none⟩ u).heap[g]? = W.heap[g]? := by
      unfold World.setCell
      simp only [Array.getElem?_modify, if_neg hbg]
    rw [e1]; exact hh
end Go

namespace Go
open RowKit
/-- block g is a row of cap elements, not frozen, the call's own from 'base' on -/
def Row (w : World) (base : Nat) (e : TypeId) (size g cap : Nat) (cur : List Value) : Prop :=
  base ≤ g ∧ w.heap[g]? = some (.cells cur.toArray e (0, 0)) ∧ cap ≤ maxLen ∧ cur.length = cap * size
section
variable {w : World} {base : Nat} {e : TypeId} {size g cap : Nat} {cur : List Value}
theorem Row.lt (h : Row w base e size g cap cur) : g < w.heap.size := (Array.getElem?_eq_some_iff.1 h.2.1).1
theorem Row.len (h : Row w base e size g cap cur) : cur.length = cap * size := h.2.2.2
theorem Row.own (h : Row w base e size g cap cur) {n : Nat} (hn : n ≤ cap) : Own w base e size (some ⟨g, 0, none⟩) n cap (cur.take (n * size)) :=
  ⟨by rw [List.length_take, h.len]; exact Nat.min_eq_left (Nat.mul_le_mul_right _ hn), .inr ⟨g, cap, cur.toArray, rfl, h.1, h.2.1, hn, h.2.2.1, by simpa using h.len, by simp⟩⟩
theorem Own.row {A : Option Addr} {n c : Nat} {xs : List Value} (h : Own w base e size A n c xs) : (A = none ∧ n = 0 ∧ c = 0 ∧ xs = []) ∨ ∃ g cur, A = some ⟨g, 0, none⟩ ∧ Row w base e size g c cur ∧ n ≤ c ∧ cur.take (n * size) = xs := by
  rcases h.2 with ⟨hv, hn⟩ | ⟨g, cap, cur, hv, hb, hg, hnc, hm, hs, ht⟩
  · injection hv with h1 h2 h3
    refine .inl ⟨h1, hn, h3, List.eq_nil_of_length_eq_zero ?_⟩
    rw [h.1, hn, Nat.zero_mul]
  · injection hv with h1 h2 h3
    subst h1 h3
    exact .inr ⟨g, cur.toList, rfl, ⟨hb, by simpa using hg, hm, by simpa using hs⟩, hnc, ht⟩
theorem Row.cell (h : Row w base e size g cap cur) {j : Nat} {u : Value} (hu : cur[j]? = some u) : w.cell? ⟨g, j, none⟩ = some u := by
  simp [World.cell?, h.2.1, hu]
theorem Row.frozen (h : Row w base e size g cap cur) (j : Nat) : w.frozen? ⟨g, j, none⟩ = false := by
  simp [World.frozen?, h.2.1]
theorem Row.sl (h : Row w base e size g cap cur) {i n c : Nat} {xs : List Value} (hi : i + n ≤ cap) (hnc : n ≤ c) (hx : (cur.drop (i * size)).take (n * size) = xs) : Sl w size (some ⟨g, i * size, none⟩) n c xs := by
  have hle : i * size + n * size ≤ cap * size := by rw [← Nat.add_mul]; exact Nat.mul_le_mul_right _ hi
  refine ⟨hnc, by rw [← hx, List.length_take, List.length_drop, h.len]; omega, fun _ => ⟨g, _, rfl, h.lt, fun j u hu => h.cell ?_⟩⟩
  rw [← hx, List.getElem?_take] at hu
  split at hu
  · rwa [List.getElem?_drop] at hu
  · cases hu
theorem Row.set (h : Row w base e size g cap cur) {cur' : List Value} (hs : cur'.length = cur.length) : Row (w.setRow g cur'.toArray) base e size g cap cur' :=
  ⟨h.1, setRow_heap w g _ _ e _ h.2.1, h.2.2.1, by rw [hs]; exact h.len⟩
theorem Row.bel_set (h : Row w base e size g cap cur) {wB : World} (hb : Bel wB w) (hB : wB.heap.size ≤ g) (cur' : Array Value) : Bel wB (w.setRow g cur') :=
  ⟨⟨hb.os, hb.tape, hb.output, by unfold World.setRow; simpa using hb.size, fun k hk => by rw [setRow_other w g k cur' (by omega)]; exact hb.block k hk⟩, hb.mono⟩
theorem Row.bel {w' : World} (h : Row w base e size g cap cur) (hb : Bel w w') : Row w' base e size g cap cur := ⟨h.1, by rw [hb.block g h.lt]; exact h.2.1, h.2.2⟩
theorem Row.base_le {base' : Nat} (h : Row w base e size g cap cur) (hb : base' ≤ base) : Row w base' e size g cap cur := ⟨Nat.le_trans hb h.1, h.2⟩
theorem Row.alloc_new (W : World) {base cap : Nat} (cs : Array Value) (e : TypeId) {size : Nat} (hB : base ≤ W.heap.size) (hm : cap ≤ maxLen) (hs : cs.size = cap * size) : Row (W.alloc (.cells cs e)) base e size W.heap.size cap cs.toList :=
  ⟨hB, by unfold World.alloc; simp, hm, by simpa using hs⟩
end
section
variable {P : Program} {ops : Array Oper} {rest : List Oper} {o : Oper} {a : Act} {Q : Exit → Act → World → Prop}
theorem run_copy_rowk {t e : TypeId} {z : Value} {size bytes : Nat} (hT : SlT P t e z size bytes) {W : World} {base g cap : Nat} {cur : List Value} (hg : Row W base e size g cap cur) (off dLen dCap : Nat) {ad : Addr} {sLen sCap : Nat} {cs : List Value} (ty : TypeId)
    (hn : cs.length = Nat.min sLen dLen * size) (hsrc : ∀ j v, cs[j]? = some v → W.cell? (ad.add j) = some v) (hfit : off + cs.length ≤ cur.length) (h1 : ∀ v ∈ cs, v.oneCell' = true) :
    (Builtin.copy_ #[t, t] ty #[.slice (some ⟨g, off, none⟩) dLen dCap, .slice (some ad) sLen sCap]).run P W = .ok (goInt (Nat.min sLen dLen)) (W.setRow g (cur.take off ++ cs ++ cur.drop (off + cs.length)).toArray) := by
  obtain ⟨i, hi, hz0, hz1, hz2⟩ := info_parts hT.info
  have hl := run_loadCells_list (P := P) W ad cs hsrc
  have hst := run_storeCells_at P g off e cs 0 cur.toArray W hg.2.1 (by simpa using hfit) h1
  simp only [Nat.add_zero] at hst
  have hcnt : Nat.min sLen dLen * i.size = cs.length := by rw [hz1, hn]
  simp [Builtin.copy_, run_underlying hT.und, Builtin.lenOf, Builtin.firstCells, sizeOf, typeInfo, hi, hcnt, hl, hst]
/-- copy into a row of the call's own -/
theorem copy_row {t e : TypeId} {z : Value} {size bytes : Nat} (hT : SlT P t e z size bytes) {W : World} {base g cap : Nat} {cur : List Value} (hg : Row W base e size g cap cur) (off dLen dCap : Nat) {b so sLen sCap : Nat} (cs : List Value)
    (hn : cs.length = Nat.min sLen dLen * size) (hsrc : ∀ j v, cs[j]? = some v → W.cell? ⟨b, so + j, none⟩ = some v) (hfit : off + cs.length ≤ cur.length) (h1 : ∀ v ∈ cs, v.oneCell' = true)
    (hgd : o.guard = none) (d s : Operand) (ho : o.op = .call { callee := .builtin .copy, args := #[d, s], argTypes := #[t, t] })
    (hd : a.eval d = .slice (some ⟨g, off, none⟩) dLen dCap) (hs : a.eval s = .slice (some ⟨b, so, none⟩) sLen sCap)
    (h : wpList P ops Q rest (a.put o.dst (goInt (Nat.min sLen dLen))) (W.setRow g (cur.take off ++ cs ++ cur.drop (off + cs.length)).toArray)) : wpList P ops Q (o :: rest) a W := by
  have hr := run_copy_rowk (P := P) hT hg off dLen dCap (ad := ⟨b, so, none⟩) (sLen := sLen) (sCap := sCap) (cs := cs) o.type hn (fun j v hj => by
    have e1 : (⟨b, so, none⟩ : Addr).add j = ⟨b, so + j, none⟩ := by
      unfold Addr.add; split
      · rename_i h0; rw [h0]; rfl
      · rfl
    rw [e1]; exact hsrc j v hj) hfit h1
  refine wpList_plain hgd fun K hK => ?_
  unfold Oper.wp execOp
  simp only [ho, resolve, invoke, builtin, Sem.run_bind, Sem.run_pure, Result.andThen_ok, List.map_toArray, List.map_cons, List.map_nil, hd, hs, hr]
  exact hK _ _ h
theorem Row.oth {W : World} {base g cap : Nat} {e : TypeId} {size : Nat} {cur cur' : List Value} (hg : Row W base e size g cap cur) {s b so n c : Nat} {xs : List Value} (hne : b ≠ g) (h : Sl W s (some ⟨b, so, none⟩) n c xs) : Sl (W.setRow g cur'.toArray) s (some ⟨b, so, none⟩) n c xs :=
  ⟨h.1, h.2.1, fun hn => by
    obtain ⟨b', o', hA, hb, hc⟩ := h.2.2 hn
    injection hA with hA
    injection hA with e1 e2
    subst e1 e2
    refine ⟨b, so, rfl, by unfold World.setRow; simpa using hb, fun j u hu => ?_⟩
    have h1 := hc j u hu
    unfold World.cell? at h1 ⊢
    rw [setRow_other W g b _ hne]; exact h1⟩
/-- copy into a row of the call's own; the world behind it under a new name -/
theorem copy_rowC {t e : TypeId} {z : Value} {size bytes : Nat} (hT : SlT P t e z size bytes) {wB W : World} (hb : Bel wB W) {g cap : Nat} {cur : List Value} (hg : Row W wB.heap.size e size g cap cur) (off dLen dCap : Nat) {b so sLen sCap : Nat} (cs : List Value)
    (hn : cs.length = Nat.min sLen dLen * size) (hsrc : ∀ j v, cs[j]? = some v → W.cell? ⟨b, so + j, none⟩ = some v) (hfit : off + cs.length ≤ cur.length) (h1 : ∀ v ∈ cs, v.oneCell' = true)
    (hgd : o.guard = none) (d s : Operand) (ho : o.op = .call { callee := .builtin .copy, args := #[d, s], argTypes := #[t, t] })
    (hd : a.eval d = .slice (some ⟨g, off, none⟩) dLen dCap) (hs : a.eval s = .slice (some ⟨b, so, none⟩) sLen sCap)
    (h : ∀ W2 C, Hid (C = cur.take off ++ (cs ++ cur.drop (off + cs.length))) → Row W2 wB.heap.size e size g cap C → Bel wB W2 → (∀ s b so n c xs, b ≠ g → Sl W s (some ⟨b, so, none⟩) n c xs → Sl W2 s (some ⟨b, so, none⟩) n c xs) → wpList P ops Q rest (a.put o.dst (goInt (Nat.min sLen dLen))) W2) : wpList P ops Q (o :: rest) a W := by
  refine copy_row hT hg off dLen dCap cs hn hsrc hfit h1 hgd d s ho hd hs ?_
  rw [List.append_assoc]
  refine h _ _ (Lib.hid rfl) (hg.set ?_) (hg.bel_set hb hg.1 _) (fun s b so n c xs hne hS => hg.oth hne hS)
  simp only [List.length_append, List.length_take, List.length_drop]; omega
/-- append in place: there is room -/
theorem append_room {t e : TypeId} {z : Value} {size bytes : Nat} (hT : SlT P t e z size bytes) {W : World} {base g cap n : Nat} {cur : List Value} (hg : Row W base e size g cap cur) {b so m c' : Nat} {news : List Value} (hsrc : Sl W size (some ⟨b, so, none⟩) m c' news) (h1 : ∀ u ∈ news, u.oneCell' = true) (hroom : n + m ≤ cap)
    (hgd : o.guard = none) (s x : Operand) (ho : o.op = .call { callee := .builtin .append, args := #[s, x], argTypes := #[t, t] })
    (hs : a.eval s = .slice (some ⟨g, 0, none⟩) n cap) (hx : a.eval x = .slice (some ⟨b, so, none⟩) m c')
    (h : wpList P ops Q rest (a.put o.dst (.slice (some ⟨g, 0, none⟩) (n + m) cap)) (W.setRow g (cur.take (n * size) ++ news ++ cur.drop (n * size + news.length)).toArray)) : wpList P ops Q (o :: rest) a W := by
  obtain ⟨i, hi, hz0, hz1, hz2⟩ := info_parts hT.info
  have hfit : n * i.size + news.length ≤ cur.toArray.size := by rw [hsrc.len, hz1, List.size_toArray, hg.len, ← Nat.add_mul]; exact Nat.mul_le_mul_right _ hroom
  have add0 : ∀ (b off j : Nat), (⟨b, off, none⟩ : Addr).add j = ⟨b, off + j, none⟩ := fun b off j => by
    unfold Addr.add; split
    · rename_i h0; rw [h0]; rfl
    · rfl
  have hr := run_append_room (P := P) W t o.type e i hT.und hi g n cap cur.toArray hg.2.1 ⟨b, so, none⟩ m c' news (by rw [hz1]; exact hsrc.len) (fun j u hu => by rw [add0]; exact hsrc.cell hu) h1 hroom hfit
  rw [hz1] at hr
  refine wpList_plain hgd fun K hK => ?_
  unfold Oper.wp execOp
  simp only [ho, resolve, invoke, builtin, Sem.run_bind, Sem.run_pure, Result.andThen_ok, List.map_toArray, List.map_cons, List.map_nil, hs, hx, hr]
  exact hK _ _ (by simpa using h)
/-- append of k zero elements where there is no room: a new row -/
theorem append_zeros {t tn e : TypeId} {z : Value} {size bytes : Nat} (hT : SlT P t e z size bytes) (htn : P.underlying tn = some (.int .i64)) {wB W : World} (hb : Bel wB W) {b so n c k : Nat} {xs : List Value} (hsl : Sl W size (some ⟨b, so, none⟩) n c xs) (h0 : 0 < k) (hg : c < n + k) (hlen : n + k ≤ 4294967296) (hc : c ≤ 4294967296)
    (hgd : o.guard = none) (s x : Operand) (ho : o.op = .call { callee := .builtin .append, args := #[s, x], argTypes := #[t, tn] })
    (hs : a.eval s = .slice (some ⟨b, so, none⟩) n c) (hx : a.eval x = .int .i64 k)
    (h : ∀ G W' cur, Bel wB W' → Bel W W' → Row W' wB.heap.size e size W.heap.size G cur → n + k ≤ G → cur.take (n * size) = xs → wpList P ops Q rest (a.put o.dst (.slice (some ⟨W.heap.size, 0, none⟩) (n + k) G)) W') : wpList P ops Q (o :: rest) a W := by
  obtain ⟨i, hi, hz0, hz1, hz2⟩ := info_parts hT.info
  have add0 : ∀ (b off j : Nat), (⟨b, off, none⟩ : Addr).add j = ⟨b, off + j, none⟩ := fun b off j => by
    unfold Addr.add; split
    · rename_i h0; rw [h0]; rfl
    · rfl
  have hold : (Builtin.firstCells i.size n (.slice (some ⟨b, so, none⟩) n c)).run P W.drew = .ok xs.toArray W.drew := by
    have hl := run_loadCells_list (P := P) W.drew ⟨b, so, none⟩ xs (fun j v hj => by rw [add0]; exact (hsl.bel (Bel.refl W).drew).cell hj)
    have e1 : n * i.size = xs.length := by rw [hz1, hsl.len]
    simp [Builtin.firstCells, e1, hl]
  have hby : ∀ m : Nat, m ≤ 4294967296 → m * i.bytes ≤ 140737488355328 := fun m hm => by rw [hz2]; exact Nat.le_trans (Nat.mul_le_mul hm hT.small) (by decide)
  have hr := Lib.run_append_grow_zeros (P := P) W t tn o.type e i z .i64 .i64 hT.und htn hi hz0 (some ⟨b, so, none⟩) n c xs hold k h0 (by rw [hz1]; exact hT.pos) hg (by omega) (Nat.le_trans (hby k (by omega)) (by decide))
    (growslice_fits (by omega) (hby _ hlen))
  have hGn : n + k ≤ grownCap W (n + k) c e := grownCap_ge W _ _ _
  have hG2 := grownCap_le_maxLen W (n + k) c e (by unfold maxLen; omega)
  have hzc : ∀ m, (Builtin.zeroCells z.cells m).size = m * size := fun m => by rw [size_zeroCells, hT.zs, Nat.mul_comm]
  refine wpList_plain hgd fun K hK => ?_
  unfold Oper.wp execOp
  simp only [ho, resolve, invoke, builtin, Sem.run_bind, Sem.run_pure, Result.andThen_ok, List.map_toArray, List.map_cons, List.map_nil, hs, hx, hr]
  refine hK _ _ (h _ _ _ ((hb.drew).alloc _) (((Bel.refl W).drew).alloc _) (Row.alloc_new W.drew _ e hb.size hG2 ?_) hGn ?_)
  · simp only [Array.size_append, hzc, List.size_toArray, hsl.len]
    rw [← Nat.add_mul, ← Nat.add_mul]
    congr 1; omega
  · simp only [Array.toList_append, List.append_assoc]
    rw [← hsl.len, List.take_left]
/-- clear of a part of a row -/
theorem clear_row {t e : TypeId} {z : Value} {size bytes : Nat} (hT : SlT P t e z size bytes) (hz : ∀ w, (zeroValue e).run P w = .ok z w) (h1 : ∀ u ∈ z.cells.toList, u.oneCell' = true) {W : World} {base g cap i n c : Nat} {cur : List Value} (hg : Row W base e size g cap cur) (hin : i + n ≤ cap)
    (hgd : o.guard = none) (s : Operand) (ho : o.op = .call { callee := .builtin .clear, args := #[s], argTypes := #[t] })
    (hs : a.eval s = .slice (some ⟨g, i * size, none⟩) n c)
    (h : ∀ cur', Row (W.setRow g cur'.toArray) base e size g cap cur' → cur'.take (i * size) = cur.take (i * size) → wpList P ops Q rest (a.put o.dst (.tuple #[])) (W.setRow g cur'.toArray)) : wpList P ops Q (o :: rest) a W := by
  have hself : W = W.setRow g cur.toArray := (setRow_self W g cur.toArray e (0, 0) hg.2.1).symm
  have hrun : ∃ cur' : List Value, cur'.length = cur.length ∧ cur'.take (i * size) = cur.take (i * size) ∧ (Builtin.clear_ #[t] o.type #[.slice (some ⟨g, i * size, none⟩) n c]).run P W = .ok (.tuple #[]) (W.setRow g cur'.toArray) := by
    cases n with
    | zero => exact ⟨cur, rfl, rfl, by rw [← hself]; simp [Builtin.clear_, run_underlying hT.und]⟩
    | succ n =>
      have hzs : (Builtin.zeroCells z.cells (n + 1)).toList.length = (n + 1) * size := by simp [size_zeroCells, hT.zs]
      have hone : ∀ v ∈ (Builtin.zeroCells z.cells (n + 1)).toList, v.oneCell' = true := by
        intro v hv
        have e1 : (Builtin.zeroCells z.cells (n + 1)).toList = (List.replicate (n + 1) z.cells.toList).flatten := made_mul z.cells (n + 1) (by rw [hT.zs]; exact hT.pos)
        rw [e1, List.mem_flatten] at hv
        obtain ⟨l, hl, hv⟩ := hv
        rw [List.eq_of_mem_replicate hl] at hv
        exact h1 v hv
      have hle : i * size + (n + 1) * size ≤ cap * size := by rw [← Nat.add_mul]; exact Nat.mul_le_mul_right _ hin
      have hst := run_storeCells_at P g (i * size) e (Builtin.zeroCells z.cells (n + 1)).toList 0 cur.toArray W hg.2.1 (by rw [hzs, List.size_toArray, hg.len]; omega) hone
      simp only [Nat.add_zero] at hst
      refine ⟨cur.take (i * size) ++ (Builtin.zeroCells z.cells (n + 1)).toList ++ cur.drop (i * size + (Builtin.zeroCells z.cells (n + 1)).toList.length), ?_, ?_, ?_⟩
      · simp only [List.length_append, List.length_take, List.length_drop, hzs, hg.len]; omega
      · rw [List.append_assoc, List.take_append_of_le_length (by rw [List.length_take, hg.len]; omega), List.take_take, Nat.min_self]
      · simp [Builtin.clear_, run_underlying hT.und, hz, hst]
  obtain ⟨cur', hl, ht, hr⟩ := hrun
  refine wpList_plain hgd fun K hK => ?_
  unfold Oper.wp execOp
  simp only [ho, resolve, invoke, builtin, Sem.run_bind, Sem.run_pure, Result.andThen_ok, List.map_toArray, List.map_cons, List.map_nil, hs, hr]
  exact hK _ _ (h cur' (hg.set hl) ht)
theorem append_roomC {t e : TypeId} {z : Value} {size bytes : Nat} (hT : SlT P t e z size bytes) {wB W : World} (hb : Bel wB W) {g cap n : Nat} {cur : List Value} (hg : Row W wB.heap.size e size g cap cur) {b so m c' : Nat} {news : List Value} (hsrc : Sl W size (some ⟨b, so, none⟩) m c' news) (h1 : ∀ u ∈ news, u.oneCell' = true) (hroom : n + m ≤ cap)
    (hgd : o.guard = none) (s x : Operand) (ho : o.op = .call { callee := .builtin .append, args := #[s, x], argTypes := #[t, t] })
    (hs : a.eval s = .slice (some ⟨g, 0, none⟩) n cap) (hx : a.eval x = .slice (some ⟨b, so, none⟩) m c')
    (h : ∀ W2 C, Hid (C = cur.take (n * size) ++ (news ++ cur.drop (n * size + news.length))) → Row W2 wB.heap.size e size g cap C → Bel wB W2 → (∀ s b so n c xs, b ≠ g → Sl W s (some ⟨b, so, none⟩) n c xs → Sl W2 s (some ⟨b, so, none⟩) n c xs) → wpList P ops Q rest (a.put o.dst (.slice (some ⟨g, 0, none⟩) (n + m) cap)) W2) : wpList P ops Q (o :: rest) a W := by
  refine append_room hT hg hsrc h1 hroom hgd s x ho hs hx ?_
  rw [List.append_assoc]
  refine h _ _ (Lib.hid rfl) (hg.set ?_) (hg.bel_set hb hg.1 _) (fun s b so n c xs hne hS => hg.oth hne hS)
  have : n * size + m * size ≤ cap * size := by rw [← Nat.add_mul]; exact Nat.mul_le_mul_right _ hroom
  simp only [List.length_append, List.length_take, List.length_drop, hsrc.len, hg.len]; omega
theorem clear_rowC {t e : TypeId} {z : Value} {size bytes : Nat} (hT : SlT P t e z size bytes) (hz : ∀ w, (zeroValue e).run P w = .ok z w) (h1 : ∀ u ∈ z.cells.toList, u.oneCell' = true) {wB W : World} (hb : Bel wB W) {g cap i n c : Nat} {cur : List Value} (hg : Row W wB.heap.size e size g cap cur) (hin : i + n ≤ cap)
    (hgd : o.guard = none) (s : Operand) (ho : o.op = .call { callee := .builtin .clear, args := #[s], argTypes := #[t] })
    (hs : a.eval s = .slice (some ⟨g, i * size, none⟩) n c)
    (h : ∀ W2 C, Row W2 wB.heap.size e size g cap C → Bel wB W2 → Hid (C.take (i * size) = cur.take (i * size)) → wpList P ops Q rest (a.put o.dst (.tuple #[])) W2) : wpList P ops Q (o :: rest) a W :=
  clear_row hT hz h1 hg hin hgd s ho hs fun C hr ht => h _ _ hr (hg.bel_set hb hg.1 _) (Lib.hid ht)
end
end Go

namespace Go
open RowKit
/-- a cell of a block of W that may be written -/
structure Held (W : World) (b o : Nat) (v : Value) : Prop where
  lt : b < W.heap.size
  eq : W.cell? ⟨b, o, none⟩ = some v
  fr : W.frozen? ⟨b, o, none⟩ = false
theorem Held.bel {W W' : World} {b o : Nat} {v : Value} (h : Held W b o v) (hb : Bel W W') : Held W' b o v := by
  obtain ⟨x, rfl⟩ := ext_of hb
  exact ⟨by rw [size_ext]; have := h.lt; omega, by rw [cell_ext _ _ _ _ h.lt]; exact h.eq, by rw [frozen_ext _ _ _ _ h.lt]; exact h.fr⟩
theorem Held.new {W W' : World} {cs : Array Value} {e : TypeId} {j : Nat} {v : Value} (hb : Bel (W.alloc (.cells cs e)) W') (hv : cs[j]? = some v) : Held W' W.heap.size j v := by
  have h : Held (W.alloc (.cells cs e)) W.heap.size j v := ⟨by simp, by simp [go_sem, hv], by simp [go_sem]⟩
  exact h.bel hb
theorem own_split {w W' : World} {B : Nat} {e : TypeId} {size n c : Nat} {A : Option Addr} {xs : List Value} (h : ∃ y, W' = ext w y ∧ Own (ext w y) B e size A n c xs) : ∃ y, W' = ext w y := let ⟨y, hy, _⟩ := h; ⟨y, hy⟩
theorem own_here {w W' : World} {B : Nat} {e : TypeId} {size n c : Nat} {A : Option Addr} {xs : List Value} (h : ∃ y, W' = ext w y ∧ Own (ext w y) B e size A n c xs) : Own W' B e size A n c xs := by
  obtain ⟨y, rfl, h⟩ := h; exact h
/-- worlds that differ in block g alone -/
structure Apart (g : Nat) (W W' : World) : Prop where
  os : W'.os = W.os
  tape : W'.tape = W.tape
  output : W'.output = W.output
  size : W'.heap.size = W.heap.size
  drawn : W.drawn ≤ W'.drawn
  block : ∀ b, b ≠ g → W'.heap[b]? = W.heap[b]?
theorem Apart.refl (g : Nat) (W : World) : Apart g W W := ⟨rfl, rfl, rfl, rfl, Nat.le_refl _, fun _ _ => rfl⟩
theorem Apart.trans {g : Nat} {W W1 W2 : World} (h : Apart g W W1) (k : Apart g W1 W2) : Apart g W W2 :=
  ⟨k.os.trans h.os, k.tape.trans h.tape, k.output.trans h.output, k.size.trans h.size, Nat.le_trans h.drawn k.drawn, fun b hb => (k.block b hb).trans (h.block b hb)⟩
theorem Apart.setCell {g : Nat} {W W1 : World} (h : Apart g W W1) (o : Nat) (u : Value) : Apart g W (W1.setCell ⟨g, o, none⟩ u) :=
  h.trans ⟨rfl, rfl, rfl, by simp [World.setCell], Nat.le_refl _, fun b hb => by unfold World.setCell; simp only [Array.getElem?_modify, if_neg (Ne.symm hb)]⟩
theorem Apart.bel {g : Nat} {w W W1 : World} (h : Apart g W W1) (hb : Bel w W) (hg : w.heap.size ≤ g) : Bel w W1 :=
  ⟨⟨h.os.trans hb.os, h.tape.trans hb.tape, h.output.trans hb.output, by rw [h.size]; exact hb.size, fun k hk => (h.block k (by omega)).trans (hb.block k hk)⟩, Nat.le_trans hb.mono h.drawn⟩
theorem Held.apart {g : Nat} {W W' : World} {b o : Nat} {v : Value} (h : Held W b o v) (ha : Apart g W W') (hne : b ≠ g) : Held W' b o v :=
  ⟨by rw [ha.size]; exact h.lt, by have := h.eq; unfold World.cell? at this ⊢; rw [ha.block b hne]; exact this, by have := h.fr; unfold World.frozen? at this ⊢; rw [ha.block b hne]; exact this⟩
theorem Sl.apart {g : Nat} {W W' : World} {size n c : Nat} {A : Option Addr} {xs : List Value} (h : Sl W size A n c xs) (ha : Apart g W W') (hne : ∀ b o, A = some ⟨b, o, none⟩ → b ≠ g) : Sl W' size A n c xs :=
  ⟨h.1, h.2.1, fun hn => by
    obtain ⟨b, o, hA, hb, hc⟩ := h.2.2 hn
    refine ⟨b, o, hA, by rw [ha.size]; exact hb, fun j u hu => ?_⟩
    have h1 := hc j u hu
    unfold World.cell? at h1 ⊢
    rw [ha.block b (hne b o hA)]; exact h1⟩
theorem Own.ne {W : World} {B : Nat} {e : TypeId} {size n c : Nat} {A : Option Addr} {xs : List Value} (h : Own W B e size A n c xs) {g : Nat} (hg : g < B) : ∀ b o, A = some ⟨b, o, none⟩ → b ≠ g := by
  intro b o hA
  rcases h.row with ⟨h0, _⟩ | ⟨g', cur, h0, hr, _⟩
  · rw [hA] at h0; cases h0
  · have e1 : b = g' := by rw [hA] at h0; injection h0 with h0; injection h0
    have := hr.1
    omega
end Go
namespace Go
open RowKit
theorem Own.ats {W : World} {B : Nat} {e : TypeId} {size n c g : Nat} {xs : List Value} (h : Own W B e size (some ⟨g, 0, none⟩) n c xs) : B ≤ g ∧ g < W.heap.size := by
  rcases h.row with ⟨h0, _⟩ | ⟨g', cur, h0, hr, _⟩
  · cases h0
  · have e1 : g = g' := by injection h0 with h0; injection h0
    subst e1
    exact ⟨hr.1, hr.lt⟩
theorem Own.shape {W : World} {B : Nat} {e : TypeId} {size n c : Nat} {A : Option Addr} {xs : List Value} (h : Own W B e size A n c xs) : (A = none ∧ n = 0) ∨ ∃ g, A = some ⟨g, 0, none⟩ ∧ B ≤ g ∧ g < W.heap.size := by
  rcases h.row with ⟨h0, h1, _⟩ | ⟨g', cur, h0, hr, _⟩
  · exact .inl ⟨h0, h1⟩
  · exact .inr ⟨g', h0, hr.1, hr.lt⟩
end Go

namespace Go
open Go.ChangeShapes Go.WideShapes Go.ChangeAt Go.RowKit
section
variable {H : Type} {enc : TypeId × Value → H} {P : Program} {w : World} {base : Nat} {spare : Nat → Bool} {held : Bool}
/-- a field of a struct -/
theorem field_at {t : TypeId} {fs : Array Field} {fuel : Nat} {cs : List Value} {x : DataW H × List MemPlace} (hs : P.underlying t = some (.struct fs)) (h : DataW.trod enc P w base spare held fuel t cs = some x)
    {i : Nat} {f : Field} (hf : fs[i]? = some f) {off n : Nat} {ft : TypeId} (ho : f.offset = off) (ht : f.type = ft) (hn : P.cellsOf ft = n) : ∃ m y, DataW.trod enc P w base spare held m ft ((cs.drop off).take n) = some y := by
  obtain ⟨xs, m, _, _, _, hlen, hg⟩ := DataW.trod_struct hs h
  have h1 := hg i f hf
  subst ho ht hn
  have hi : i < xs.length := by rw [hlen]; exact (Array.getElem?_eq_some_iff.1 hf).1
  exact ⟨m, xs[i], by rw [h1, List.getElem?_eq_getElem hi]⟩
theorem int_cell {t : TypeId} {k : IntKind} {fuel : Nat} {cs : List Value} {x : DataW H × List MemPlace} (ht : P.underlying t = some (.int k)) (h : DataW.trod enc P w base spare held fuel t cs = some x) : ∃ n, cs = [.int k n] ∧ (Lit.int k n).wf = true := by
  obtain ⟨n, h1, _, h2⟩ := DataW.trod_int ht h; exact ⟨n, h1, h2⟩
theorem wf_i64 {n : Int} (h : (Lit.int .i64 n).wf = true) : -9223372036854775808 ≤ n ∧ n ≤ 9223372036854775807 := bounds_i64 h
theorem wf_u8 {n : Int} (h : (Lit.int .u8 n).wf = true) : 0 ≤ n ∧ n ≤ 255 := bounds_u8 h
theorem bytes_of (zs : List Int) (h : ∀ n ∈ zs, (Lit.int .u8 n).wf = true) : ∃ l : List UInt8, zs = l.map fun x => (x.toNat : Int) := by
  induction zs with
  | nil => exact ⟨[], rfl⟩
  | cons z zs ih =>
    obtain ⟨l, rfl⟩ := ih (fun n hn => h n (List.mem_cons_of_mem _ hn))
    have hz := wf_u8 (h z (List.mem_cons_self ..))
    refine ⟨UInt8.ofNat z.toNat :: l, ?_⟩
    rw [List.map_cons]
    congr 1
    simp; omega
/-- bytes that came in -/
theorem arg_bytes {t e : TypeId} {fuel : Nat} {A : Option Addr} {n c : Nat} {x : DataW H × List MemPlace} (ht : P.underlying t = some (.slice e)) (he : P.underlying e = some (.int .u8)) (hc : P.cellsOf e = 1)
    (h : DataW.trod enc P w base (fun _ => true) held fuel t [Value.slice A n c] = some x) : ∃ l : List UInt8, l.length = n ∧ Sl w 1 A l.length c (vb l) := by
  rcases open_ints ht he hc h with ⟨hcs, _⟩ | ⟨a, len, cap, zs, hcs, _, hl, hm, hz, _, hcell, hwz⟩
  · simp only [List.cons.injEq, and_true] at hcs
    injection hcs with h1 h2 h3
    subst h1 h2 h3
    exact ⟨[], rfl, Sl.nil_ _ _ _ _⟩
  · simp only [List.cons.injEq, and_true] at hcs
    injection hcs with h1 h2 h3
    subst h1 h2 h3
    have hz' : zs.length = c := by simpa using hz
    obtain ⟨l, hl'⟩ := bytes_of (zs.take n) (fun m hm => hwz m (List.mem_of_mem_take hm))
    have hlen : l.length = n := by
      have := congrArg List.length hl'
      rw [List.length_take, List.length_map] at this; omega
    refine ⟨l, hlen, by omega, by rw [vb_length]; omega, fun hn => ?_⟩
    obtain ⟨b, o, spot⟩ := a
    have h0 := hcell 0 (by omega)
    have hspot : spot = none := by simpa [Addr.add] using World.cell?_spot h0
    subst hspot
    refine ⟨b, o, rfl, ?_, fun j u hu => ?_⟩
    · have hb := World.block_lt_of_cell? w _ h0
      simpa [Addr.add] using hb
    · rw [vb_get] at hu
      have hj : j < l.length := by
        rcases Nat.lt_or_ge j l.length with h | h
        · exact h
        · rw [List.getElem?_eq_none h] at hu; cases hu
      have h1 := hcell j (by omega)
      have e1 : (⟨b, o, none⟩ : Addr).add j = ⟨b, o + j, none⟩ := by
        unfold Addr.add; split
        · rename_i h0; rw [h0]; rfl
        · rfl
      rw [e1] at h1
      rw [h1, ← hu]
      have e2 : (zs.take n)[j]? = some (zs.getD j 0) := by
        rw [List.getElem?_take, if_pos (by omega), List.getD_eq_getElem?_getD, List.getElem?_eq_getElem (by omega)]; rfl
      rw [hl'] at e2
      rw [List.getElem?_map] at e2
      cases hx : l[j]? with
      | none => rw [hx] at e2; cases e2
      | some y => rw [hx] at e2; simp only [Option.map_some, Option.some.injEq] at e2 ⊢; rw [e2]
end
end Go
namespace Go.Proofs.Ythopjgahedijcaa
open Go.ChangeShapes Go.WideShapes Go.ChangeAt Go.RowKit
theorem ownKnob_ : ownKnob Try.prog.godebug = none := by kernel_rfl
theorem laidOut_ : laidOutB Try.prog = true := by kernel_rfl
end Go.Proofs.Ythopjgahedijcaa

namespace Go
open RowKit
structure Box (W : World) (b : Nat) (cs : Array Value) : Prop where
  lt : b < W.heap.size
  eq : ∀ (j : Nat) (v : Value), cs[j]? = some v → W.cell? ⟨b, j, none⟩ = some v
  fr : ∀ (j : Nat), W.frozen? ⟨b, j, none⟩ = false
theorem Box.bel {W W' : World} {b : Nat} {cs : Array Value} (h : Box W b cs) (hb : Bel W W') : Box W' b cs := by
  obtain ⟨x, rfl⟩ := ext_of hb
  exact ⟨by rw [size_ext]; have := h.lt; omega, fun j v hv => by rw [cell_ext _ _ _ _ h.lt]; exact h.eq j v hv, fun j => by rw [frozen_ext _ _ _ _ h.lt]; exact h.fr j⟩
theorem Box.new {W W' : World} {cs : Array Value} {e : TypeId} (hb : Bel (W.alloc (.cells cs e)) W') {b : Nat} (hbk : b = W.heap.size) : Box W' b cs := by
  subst hbk
  have h : Box (W.alloc (.cells cs e)) W.heap.size cs := ⟨by simp, fun j v hv => by simp [go_sem, hv], fun j => by simp [go_sem]⟩
  exact h.bel hb
theorem own_row {W W' : World} {cs : Array Value} {e : TypeId} {size n : Nat} (hb : Bel (W.alloc (.cells cs e)) W') {b : Nat} (hbk : b = W.heap.size) (hn : n ≤ 1000000) (hs : cs.size = n * size) : Own W' b e size (some ⟨b, 0, none⟩) n n cs.toList := by
  subst hbk
  have h : Own (W.alloc (.cells cs e)) W.heap.size e size (some ⟨W.heap.size, 0, none⟩) n n cs.toList := World.ownsRow_lit W cs n (Nat.le_refl _) (Nat.le_trans hn (by unfold maxLen; decide)) hs
  exact h.bel hb
end Go

namespace Go
end Go

namespace Go
open RowKit
section
variable {P : Program} {ops : Array Oper} {o : Oper} {a : Act} {K : Act → World → Prop} {Q : Exit → Act → World → Prop} {E : Prop}
theorem stepg_append_any {t e : TypeId} {z : Value} {size bytes : Nat} (hT : SlT P t e z size bytes) {wB W0 W1 W : World} (hb : Bel wB W)
    {A : Option Addr} {n c : Nat} {xs : List Value} (hown : Own W0 wB.heap.size e size A n c xs) (hb0 : Bel W0 W)
    {A1 : Option Addr} {m c' : Nat} {news : List Value} (hsrc : Sl W1 size A1 m c' news) (hb1 : Bel W1 W) (h1 : ∀ u ∈ news, u.oneCell' = true) (hnil : A1 = none → c' = 0) (hlen : n + m ≤ 4294967296)
    (hw : Region.wanted o (yielded ops a.tmps) = true) (s x : Operand) (ho : o.op = .call { callee := .builtin .append, args := #[s, x], argTypes := #[t, t] })
    (hs : a.eval s = .slice A n c) (hx : a.eval x = .slice A1 m c')
    (h : ∀ A' c'' y, Own (ext wB y) wB.heap.size e size A' (n + m) c'' (xs ++ news) → K (a.put o.dst (.slice A' (n + m) c'')) (ext wB y)) :
    if Region.wanted o (yielded ops a.tmps) = true then Oper.wp P o a W K Q else E := by
  rw [if_pos hw]
  exact oper_append_any hT hb hown hb0 hsrc hb1 h1 hnil hlen s x ho hs hx h
theorem stepg_append_new {t e : TypeId} {z : Value} {size bytes : Nat} (hT : SlT P t e z size bytes) {wB W1 W V : World} (hb : Bel wB W) (hV : Bel (W.alloc (.cells #[] e)) V)
    {A1 : Option Addr} {m c' : Nat} {news : List Value} (hsrc : Sl W1 size A1 m c' news) (hb1 : Bel W1 V) (h1 : ∀ u ∈ news, u.oneCell' = true) (hnil : A1 = none → c' = 0) (hlen : m ≤ 4294967296)
    (hw : Region.wanted o (yielded ops a.tmps) = true) (s x : Operand) (ho : o.op = .call { callee := .builtin .append, args := #[s, x], argTypes := #[t, t] }) {g : Nat}
    (hs : a.eval s = .slice (some ⟨g, 0, none⟩) 0 0) (hx : a.eval x = .slice A1 m c') (hg : g = W.heap.size)
    (h : ∀ A' c'' y, Own (ext wB y) wB.heap.size e size A' m c'' news → K (a.put o.dst (.slice A' m c'')) (ext wB y)) :
    if Region.wanted o (yielded ops a.tmps) = true then Oper.wp P o a V K Q else E := by
  have hbv : Bel wB V := Bel.trans (hb.alloc _) hV
  refine stepg_append_any hT hbv (own_new hb #[] e size 0 g hg (Nat.zero_le _) (by simp)) hV hsrc hb1 h1 hnil (by omega) hw s x ho hs hx fun A' c'' y hown => ?_
  rw [Nat.zero_add] at hown ⊢
  exact h A' c'' y hown
end
end Go

namespace Go.Proofs.Ythopjgahedijcaa
open Go.RowKit Go.Pel
theorem ret_int {k : IntKind} {a b : Int} (h : a = b) : Ending.returned (.int k a) = .returned (.int k b) := by rw [h]
theorem ret_bool {a b : Bool} (h : a = b) : Ending.returned (.bool a) = .returned (.bool b) := by rw [h]

set_option maxHeartbeats 400000 in
theorem abs_any (n : Int) (w : World) (h : -9223372036854775808 ≤ n ∧ n ≤ 9223372036854775807) :
    Calls Try.prog 71 #[.int .i64 n] w fun e w' => e = .returned (.int .u64 n.natAbs) ∧ ∃ x, w' = ext w x := by
  obtain ⟨h1, h2⟩ := h
  go_enter Try.func71, Try.ntmps71
  go_wp2
  all_goals (go_ret; exact ⟨ret_int (by first | (simp only [IntKind.wrap_u64]; omega) | omega), ext_of (Bel.refl _)⟩)

set_option maxHeartbeats 400000 in
theorem size_any (n : Int) (w : World) (h : -9223372036854775808 ≤ n ∧ n ≤ 9223372036854775807) :
    Calls Try.prog 41 #[.int .i64 n] w fun e w' => e = .returned (.int .u64 n.natAbs) ∧ ∃ x, w' = ext w x := by
  obtain ⟨h1, h2⟩ := h
  go_enter Try.func41, Try.ntmps41
  go_wp2
  all_goals (go_ret; exact ⟨ret_int (by first | (simp only [IntKind.wrap_u64]; omega) | omega), ext_of (Bel.refl _)⟩)

set_option maxHeartbeats 400000 in
theorem gcd_any (a b : Nat) (w : World) (ha : a < 18446744073709551616) (hb : b < 18446744073709551616) :
    Calls Try.prog 70 #[.int .u64 a, .int .u64 b] w fun e w' => e = .returned (.int .u64 (Nat.gcd a b)) ∧ ∃ x, w' = ext w x := by
  go_enter Try.func70, Try.ntmps70
  go_wp2
  go_loopw [0,1] (fun x y wr => ∃ x0 y0 : Nat, x = .int .u64 x0 ∧ y = .int .u64 y0 ∧ x0 < 18446744073709551616 ∧ y0 < 18446744073709551616 ∧ Nat.gcd x0 y0 = Nat.gcd a b ∧ ∃ x, wr = ext w x) (fun _ y _ => (intOf y).toNat)
  case atStart => exact ⟨a, b, rfl, rfl, ha, hb, rfl, ext_of (Bel.refl _)⟩
  case round =>
    obtain ⟨x0, y0, rfl, rfl, hx, hy, hg, x, rfl⟩ := hrel
    have HG := Lib.hid hg; clear hg
    by_cases hlt : 0 < y0
    · go_wp2
      ((first | refine RegC.wp_region_ext1 (by kernel_rfl) (by kernel_rfl) ?_ | refine RegC.wp_region_ext0 (by kernel_rfl) (by kernel_rfl) ?_); (repeat (any_goals (first | go_big_quiet_step (fail) | (refine RegC.wpQuiet_split rfl rfl (fun hb => ?_) (fun hb => ?_) <;> simp only [hb])))); all_goals (refine wpQuiet_nil ?_; rintro _ ⟨nq, rfl⟩))
      go_wp2
      go_roundw
      case rel => exact ⟨y0, x0 % y0, rfl, by simp, hy, Nat.lt_of_lt_of_le (Nat.mod_lt _ hlt) (by omega), by rw [← HG.out, Nat.gcd_comm x0 y0, Nat.gcd_rec y0 x0, Nat.gcd_comm], _, rfl⟩
      case measure => simp [intOf]; exact Nat.mod_lt _ hlt
    · go_wp2
      go_ret
      obtain rfl : y0 = 0 := by omega
      exact ⟨ret_int (by rw [← HG.out]; simp), _, rfl⟩

set_option maxHeartbeats 400000 in
theorem common_any (a b : Nat) (w : World) (ha : a < 18446744073709551616) (hb : b < 18446744073709551616) :
    Calls Try.prog 40 #[.int .u64 a, .int .u64 b] w fun e w' => e = .returned (.int .u64 (Nat.gcd a b)) ∧ ∃ x, w' = ext w x := by
  go_enter Try.func40, Try.ntmps40
  go_wp2
  go_loopw [0,1] (fun x y wr => ∃ x0 y0 : Nat, x = .int .u64 x0 ∧ y = .int .u64 y0 ∧ x0 < 18446744073709551616 ∧ y0 < 18446744073709551616 ∧ Nat.gcd x0 y0 = Nat.gcd a b ∧ ∃ x, wr = ext w x) (fun _ y _ => (intOf y).toNat)
  case atStart => exact ⟨a, b, rfl, rfl, ha, hb, rfl, ext_of (Bel.refl _)⟩
  case round =>
    obtain ⟨x0, y0, rfl, rfl, hx, hy, hg, x, rfl⟩ := hrel
    have HG := Lib.hid hg; clear hg
    by_cases hlt : 0 < y0
    · have hn : ((y0 : Int) != 0) = true := by rw [bne_iff_ne]; omega
      go_wp2
      ((first | refine RegC.wp_region_ext1 (by kernel_rfl) (by kernel_rfl) ?_ | refine RegC.wp_region_ext0 (by kernel_rfl) (by kernel_rfl) ?_); (repeat (any_goals (first | go_big_quiet_step (fail) | (refine RegC.wpQuiet_split rfl rfl (fun hb => ?_) (fun hb => ?_) <;> simp only [hb])))); all_goals (refine wpQuiet_nil ?_; rintro _ ⟨nq, rfl⟩))
      go_wp2
      go_roundw
      case rel => exact ⟨y0, x0 % y0, rfl, by simp, hy, Nat.lt_of_lt_of_le (Nat.mod_lt _ hlt) (by omega), by rw [← HG.out, Nat.gcd_comm x0 y0, Nat.gcd_rec y0 x0, Nat.gcd_comm], _, rfl⟩
      case measure => simp [intOf]; exact Nat.mod_lt _ hlt
    · obtain rfl : y0 = 0 := by omega
      go_wp2
      go_ret
      exact ⟨ret_int (by rw [← HG.out]; simp), _, rfl⟩

set_option maxHeartbeats 400000 in
theorem ratioCheck_any (n d : Int) (w : World) (h : -9223372036854775808 ≤ n ∧ n ≤ 9223372036854775807) (h' : -9223372036854775808 ≤ d ∧ d ≤ 9223372036854775807) :
    Calls Try.prog 49 #[.agg #[.int .i64 n, .int .i64 d]] w fun e w' => e = .returned (.int .i64 (ratioChk n d)) ∧ ∃ x, w' = ext w x := by
  obtain ⟨h1, h2⟩ := h
  obtain ⟨h3, h4⟩ := h'
  by_cases c1 : d < 1
  · have e1 := Lib.hid (ratioChk_low (n := n) c1)
    go_enter Try.func49, Try.ntmps49
    go_wp2
    ((first | refine RegC.wp_region_ext1 (by kernel_rfl) (by kernel_rfl) ?_ | refine RegC.wp_region_ext0 (by kernel_rfl) (by kernel_rfl) ?_); (repeat (any_goals (first | go_big_quiet_step (fail) | (refine RegC.wpQuiet_split rfl rfl (fun hb => ?_) (fun hb => ?_) <;> simp only [hb])))); all_goals (refine wpQuiet_nil ?_; rintro _ ⟨nq, rfl⟩))
    go_wp2
    go_ret
    exact ⟨ret_int e1.out.symm, ext_of (((Bel.refl _).alloc _).ext _)⟩
  · have c1' : decide (d < 1) = false := by simpa using c1
    by_cases c2 : n = -9223372036854775808
    · subst c2
      go_enter Try.func49, Try.ntmps49
      go_wp2
      ((first | refine RegC.wp_region_ext1 (by kernel_rfl) (by kernel_rfl) ?_ | refine RegC.wp_region_ext0 (by kernel_rfl) (by kernel_rfl) ?_); (repeat (any_goals (first | go_big_quiet_step (fail) | (refine RegC.wpQuiet_split rfl rfl (fun hb => ?_) (fun hb => ?_) <;> simp only [hb])))); all_goals (refine wpQuiet_nil ?_; rintro _ ⟨nq, rfl⟩))
      go_wp2
      go_ret
      exact ⟨ret_int ratioChk_min.symm, ext_of (((Bel.refl _).alloc _).ext _)⟩
    · have c2' : (n == -9223372036854775808) = false := by simpa using c2
      have E1 := Lib.hid (ratioChk_one (n := n) (d := d) (by omega) c2)
      have E2 := Lib.hid (ratioChk_more (n := n) (d := d))
      have E3 := Lib.hid (gcd_one (n := n) (d := d) (by omega))
      obtain ⟨dn, rfl⟩ : ∃ dn : Nat, d = dn := ⟨d.toNat, by omega⟩
      go_enter Try.func49, Try.ntmps49
      go_wp2
      ((first | refine RegC.wp_region_ext1 (by kernel_rfl) (by kernel_rfl) ?_ | refine RegC.wp_region_ext0 (by kernel_rfl) (by kernel_rfl) ?_); (repeat (any_goals (first | go_big_quiet_step (first | (go_at_call 71; first | exact Calls.ext_of1 (abs_any _ _ (by omega)) | exact Calls.ext_of (abs_any _ _ (by omega))) | (go_at_call 70; first | exact Calls.ext_of1 (gcd_any _ _ _ (by omega) (by omega)) | exact Calls.ext_of (gcd_any _ _ _ (by omega) (by omega)))) | (refine RegC.wpQuiet_split rfl rfl (fun hb => ?_) (fun hb => ?_) <;> simp only [hb])))); all_goals (refine wpQuiet_nil ?_; rintro _ ⟨nq, rfl⟩))
      go_wp2
      · have hg : 1 < Nat.gcd dn n.natAbs := by omega
        go_ret
        exact ⟨ret_int (E2.out (by simp only [Int.toNat_natCast]; omega)).symm, ext_of (((Bel.refl _).alloc _).ext _)⟩
      · have hg : ¬ 1 < Nat.gcd dn n.natAbs := by omega
        go_ret
        exact ⟨ret_int (E1.out (E3.out (by simpa using hg))).symm, ext_of (((Bel.refl _).alloc _).ext _)⟩


end Go.Proofs.Ythopjgahedijcaa

namespace Go.Proofs.Ythopjgahedijcaa
open Go.RowKit Go.Pel
set_option maxHeartbeats 400000 in
theorem ref01Check_any (n d : Int) (w : World) (hn : -9223372036854775808 ≤ n ∧ n ≤ 9223372036854775807) (hd : -9223372036854775808 ≤ d ∧ d ≤ 9223372036854775807) :
    Calls Try.prog 17 #[.agg #[.int .i64 n, .int .i64 d]] w fun e w' => e = .returned (.int .i64 (ratioChk n d)) ∧ ∃ x, w' = ext w x := by
  obtain ⟨hn1, hn2⟩ := hn; obtain ⟨hd1, hd2⟩ := hd
  by_cases c1 : d < 1
  · have e1 := Lib.hid (ratioChk_low (n := n) c1)
    go_enter Try.func17, Try.ntmps17
    go_wp2
    ((first | refine RegC.wp_region_ext1 (by kernel_rfl) (by kernel_rfl) ?_ | refine RegC.wp_region_ext0 (by kernel_rfl) (by kernel_rfl) ?_); (repeat (any_goals (first | go_big_quiet_step (fail) | (refine RegC.wpQuiet_split rfl rfl (fun hb => ?_) (fun hb => ?_) <;> simp only [hb])))); all_goals (refine wpQuiet_nil ?_; rintro _ ⟨nq, rfl⟩))
    go_wp2
    (go_ret; exact ⟨ret_int (by exact e1.out.symm), ext_of (by (try simp only [ext_ext]); repeat (first | exact Bel.refl _ | assumption | refine bel_and ?_ _ | refine bel_drews ?_ _ | refine Bel.ext ?_ _ | refine Bel.alloc ?_ _ | refine Bel.drewN ?_ _))⟩)
  · have c1' : decide (d < 1) = false := by simpa using c1
    by_cases c2 : n = -9223372036854775808
    · subst c2
      go_enter Try.func17, Try.ntmps17
      go_wp2
      ((first | refine RegC.wp_region_ext1 (by kernel_rfl) (by kernel_rfl) ?_ | refine RegC.wp_region_ext0 (by kernel_rfl) (by kernel_rfl) ?_); (repeat (any_goals (first | go_big_quiet_step (fail) | (refine RegC.wpQuiet_split rfl rfl (fun hb => ?_) (fun hb => ?_) <;> simp only [hb])))); all_goals (refine wpQuiet_nil ?_; rintro _ ⟨nq, rfl⟩))
      go_wp2
      (go_ret; exact ⟨ret_int (by exact ratioChk_min.symm), ext_of (by (try simp only [ext_ext]); repeat (first | exact Bel.refl _ | assumption | refine bel_and ?_ _ | refine bel_drews ?_ _ | refine Bel.ext ?_ _ | refine Bel.alloc ?_ _ | refine Bel.drewN ?_ _))⟩)
    · have c2' : (n == -9223372036854775808) = false := by simpa using c2
      have E1 := Lib.hid (ratioChk_one (n := n) (d := d) (by omega) c2)
      have E2 := Lib.hid (ratioChk_more (n := n) (d := d))
      obtain ⟨dn, rfl⟩ : ∃ dn : Nat, d = dn := ⟨d.toNat, by omega⟩
      go_enter Try.func17, Try.ntmps17
      go_wp2
      ((first | refine RegC.wp_region_ext1 (by kernel_rfl) (by kernel_rfl) ?_ | refine RegC.wp_region_ext0 (by kernel_rfl) (by kernel_rfl) ?_); (repeat (any_goals (first | go_big_quiet_step (first | (go_at_call 41; first | exact Calls.ext_of1 (size_any _ _ (by omega)) | exact Calls.ext_of (size_any _ _ (by omega))) | (go_at_call 40; first | exact Calls.ext_of1 (common_any _ _ _ (by omega) (by omega)) | exact Calls.ext_of (common_any _ _ _ (by omega) (by omega)))) | (refine RegC.wpQuiet_split rfl rfl (fun hb => ?_) (fun hb => ?_) <;> simp only [hb])))); all_goals (refine wpQuiet_nil ?_; rintro _ ⟨nq, rfl⟩))
      go_wp2
      all_goals (go_ret; exact ⟨ret_int (by first | exact (E2.out (by rw [Int.toNat_natCast, Nat.gcd_comm]; (first | omega | (simp only [bne_iff_ne, ne_eq, bne_eq_false_iff_eq, beq_iff_eq, beq_eq_false_iff_ne, decide_eq_true_eq, decide_eq_false_iff_not, Bool.or_eq_true, Bool.and_eq_true, Bool.not_eq_true, Bool.not_eq_true', Bool.not_eq_false'] at *; omega)))).symm | exact (E1.out (by rw [Int.toNat_natCast, Nat.gcd_comm]; (first | omega | (simp only [bne_iff_ne, ne_eq, bne_eq_false_iff_eq, beq_iff_eq, beq_eq_false_iff_ne, decide_eq_true_eq, decide_eq_false_iff_not, Bool.or_eq_true, Bool.and_eq_true, Bool.not_eq_true, Bool.not_eq_true', Bool.not_eq_false'] at *; omega)))).symm), ext_of (by (try simp only [ext_ext]); repeat (first | exact Bel.refl _ | assumption | refine bel_and ?_ _ | refine bel_drews ?_ _ | refine Bel.ext ?_ _ | refine Bel.alloc ?_ _ | refine Bel.drewN ?_ _))⟩)


set_option maxHeartbeats 400000 in
theorem far_any (n : Int) (w : World) : Calls Try.prog 69 #[.int .i64 n] w fun e w' => e = .returned (.bool (far n)) ∧ ∃ x, w' = ext w x := by
  go_enter Try.func69, Try.ntmps69
  go_wp2
  all_goals (go_ret; exact ⟨ret_bool (by first | exact (far_eq _).symm | (rw [far_eq]; simp [*]; done) | (rw [far_eq]; simp; omega)), ext_of (by (try simp only [ext_ext]); repeat (first | exact Bel.refl _ | assumption | refine bel_and ?_ _ | refine bel_drews ?_ _ | refine Bel.ext ?_ _ | refine Bel.alloc ?_ _ | refine Bel.drewN ?_ _))⟩)

set_option maxHeartbeats 400000 in
theorem courseCheck_any (i a b : Int) (w : World) :
    Calls Try.prog 48 #[.agg #[.int .i64 i, .int .i64 a, .int .i64 b]] w fun e w' => e = .returned (.int .i64 (pointChk i a b)) ∧ ∃ x, w' = ext w x := by
  have E1 := Lib.hid (pointChk_yes (i := i) (a := a) (b := b))
  have E2 := Lib.hid (pointChk_no (i := i) (a := a) (b := b))
  go_enter Try.func48, Try.ntmps48
  go_wp2_with (first | (go_at_call 69; refine (far_any _ _).mono ?_; rintro e _ ⟨rfl, nx, rfl⟩))
  all_goals (go_ret; exact ⟨ret_int (by (try simp only [far_iff, far_iff_false] at *); first | exact (E2.out (by omega)).symm | exact (E1.out (by omega)).symm), ext_of (by (try simp only [ext_ext]); repeat (first | exact Bel.refl _ | assumption | refine bel_and ?_ _ | refine bel_drews ?_ _ | refine Bel.ext ?_ _ | refine Bel.alloc ?_ _ | refine Bel.drewN ?_ _))⟩)

set_option maxHeartbeats 400000 in
theorem ref02Check_any (i a b : Int) (w : World) :
    Calls Try.prog 65 #[.agg #[.int .i64 i, .int .i64 a, .int .i64 b]] w fun e w' => e = .returned (.int .i64 (pointChk i a b)) ∧ ∃ x, w' = ext w x := by
  have E1 := Lib.hid (pointChk_yes (i := i) (a := a) (b := b))
  have E2 := Lib.hid (pointChk_no (i := i) (a := a) (b := b))
  go_enter Try.func65, Try.ntmps65
  go_wp2
  all_goals (go_ret; exact ⟨ret_int (by first | exact (E1.out (by omega)).symm | exact (E2.out (by omega)).symm), ext_of (by (try simp only [ext_ext]); repeat (first | exact Bel.refl _ | assumption | refine bel_and ?_ _ | refine bel_drews ?_ _ | refine Bel.ext ?_ _ | refine Bel.alloc ?_ _ | refine Bel.drewN ?_ _))⟩)
end Go.Proofs.Ythopjgahedijcaa

namespace Go.Proofs.Ythopjgahedijcaa
open Go.RowKit Go.Pel
def cmpI (a b : Int) : Int := if a < b then -1 else if b < a then 1 else 0
theorem cmpI_lt {a b : Int} (h : a < b) : cmpI a b = -1 := if_pos h
theorem cmpI_gt {a b : Int} (h : b < a) : cmpI a b = 1 := by unfold cmpI; rw [if_neg (by omega), if_pos h]
theorem cmpI_eq {a b : Int} (h : a = b) : cmpI a b = 0 := by unfold cmpI; rw [if_neg (by omega), if_neg (by omega)]
set_option maxHeartbeats 400000 in
theorem cmpInt_any (a b : Int) (w : World) : Calls Try.prog 77 #[.int .i64 a, .int .i64 b] w fun e w' => e = .returned (.int .i64 (cmpI a b)) ∧ ∃ x, w' = ext w x := by
  rcases (by omega : a < b ∨ b < a ∨ a = b) with h | h | h
  · have H := Lib.hid (cmpI_lt h)
    have h2 : ¬ b < a := by omega
    go_enter Try.func77, Try.ntmps77
    go_wp2
    (go_ret; exact ⟨ret_int (by exact H.out.symm), ext_of (by (try simp only [ext_ext]); repeat (first | exact Bel.refl _ | assumption | refine bel_and ?_ _ | refine bel_drews ?_ _ | refine Bel.ext ?_ _ | refine Bel.alloc ?_ _ | refine Bel.drewN ?_ _))⟩)
  · have H := Lib.hid (cmpI_gt h)
    have h2 : ¬ a < b := by omega
    go_enter Try.func77, Try.ntmps77
    go_wp2
    (go_ret; exact ⟨ret_int (by exact H.out.symm), ext_of (by (try simp only [ext_ext]); repeat (first | exact Bel.refl _ | assumption | refine bel_and ?_ _ | refine bel_drews ?_ _ | refine Bel.ext ?_ _ | refine Bel.alloc ?_ _ | refine Bel.drewN ?_ _))⟩)
  · have H := Lib.hid (cmpI_eq h)
    have h2 : ¬ a < b := by omega
    have h3 : ¬ b < a := by omega
    clear h
    go_enter Try.func77, Try.ntmps77
    go_wp2
    (go_ret; exact ⟨ret_int (by exact H.out.symm), ext_of (by (try simp only [ext_ext]); repeat (first | exact Bel.refl _ | assumption | refine bel_and ?_ _ | refine bel_drews ?_ _ | refine Bel.ext ?_ _ | refine Bel.alloc ?_ _ | refine Bel.drewN ?_ _))⟩)
end Go.Proofs.Ythopjgahedijcaa

namespace Go.Proofs.Ythopjgahedijcaa
open Go.RowKit Go.Pel
theorem pchk_lit (p : Pt) (v : Int) (h : p.chk = v) (W : World) : Calls Try.prog 48 #[.agg #[.int .i64 p.id, .int .i64 p.a, .int .i64 p.b]] W fun e w' => e = .returned (.int .i64 v) ∧ ∃ y, w' = ext W y := by
  subst h; exact courseCheck_any p.id p.a p.b W
theorem pchk2_lit (p : Pt) (v : Int) (h : p.chk = v) (W : World) : Calls Try.prog 65 #[.agg #[.int .i64 p.id, .int .i64 p.a, .int .i64 p.b]] W fun e w' => e = .returned (.int .i64 v) ∧ ∃ y, w' = ext W y := by
  subst h; exact ref02Check_any p.id p.a p.b W
set_option maxRecDepth 10000 in
set_option maxHeartbeats 2000000 in
theorem fieldCheck_any (A : Option Addr) (c : Nat) (l : List Pt) (w : World) (hs : Sl w 3 A l.length c (vp l)) :
    Calls Try.prog 56 #[.agg #[.slice A l.length c]] w fun e w' => e = .returned (.int .i64 (fieldChk l)) ∧ ∃ x, w' = ext w x := by
  by_cases hm : 64 < l.length
  · have E1 := Lib.hid (fieldChk_many hm)
    go_enter Try.func56, Try.ntmps56
    go_wp2
    (go_ret; exact ⟨ret_int (by exact E1.out.symm), ext_of (by (try simp only [ext_ext]); repeat (first | exact Bel.refl _ | assumption | refine bel_and ?_ _ | refine bel_drews ?_ _ | refine Bel.ext ?_ _ | refine Bel.alloc ?_ _ | refine Bel.drewN ?_ _))⟩)
  · have E1 := Lib.hid (fun p (hp : p ∈ l) hc => fieldChk_bad (l := l) (by omega) hp hc)
    have E2 := Lib.hid (fieldChk_order (l := l) (by omega))
    have E3 := Lib.hid (fieldChk_ok (l := l) (by omega))
    go_enter Try.func56, Try.ntmps56
    go_wp2
    go_loopw [15] (fun i wr => ∃ (k : Nat), k ≤ l.length ∧ i = .int .i64 k ∧ (∀ p ∈ l.take k, p.chk = 0) ∧ ∃ y, wr = ext (w.alloc (.cells #[.slice A l.length c] 24)) y) (fun i _ => l.length - (intOf i).toNat)
    case atStart => exact ⟨0, Nat.zero_le _, rfl, by simp, ext_of (Bel.refl _)⟩
    case round =>
      obtain ⟨k, hk, rfl, hall, y, rfl⟩ := hrel
      have HA := Lib.hid hall; clear hall
      by_cases hlt : k < l.length
      · obtain ⟨p, hp⟩ : ∃ p, l[k]? = some p := ⟨_, List.getElem?_eq_getElem hlt⟩
        obtain ⟨b, o, rfl, hb⟩ := hs.at_ (by omega)
        obtain ⟨r0, r1, r2⟩ := pt_at hs hp
        have HP := Lib.hid hp; clear hp
        rcases pt_cases p with h | h
        · have e1 := Lib.hid (pchk_lit p 0 h)
          have HC := Lib.hid h; clear h
          go_wp2_with ((go_at_call 48; refine (e1.out _).mono ?_; rintro e _ ⟨rfl, nx, rfl⟩))
          go_roundw
          case rel =>
            refine ⟨k + 1, by omega, by go_num, ?_, ext_of (by (try simp only [ext_ext]); repeat (first | exact Bel.refl _ | assumption | refine bel_and ?_ _ | refine bel_drews ?_ _ | refine Bel.ext ?_ _ | refine Bel.alloc ?_ _ | refine Bel.drewN ?_ _))⟩
            intro q hq
            rw [List.take_add_one, HP.out] at hq
            rcases List.mem_append.1 hq with hq | hq
            · exact HA.out q hq
            · simp at hq; subst hq; exact HC.out
          case measure => (first | (simp [intOf]; done) | (simp [intOf]; omega))
        · have e1 := Lib.hid (pchk_lit p 8 h)
          have HC := Lib.hid (E1.out p (List.mem_of_getElem? HP.out) (by rw [h]; decide)); clear h
          go_wp2_with ((go_at_call 48; refine (e1.out _).mono ?_; rintro e _ ⟨rfl, nx, rfl⟩))
          (go_ret; exact ⟨ret_int (by exact HC.out.symm), ext_of (by (try simp only [ext_ext]); repeat (first | exact Bel.refl _ | assumption | refine bel_and ?_ _ | refine bel_drews ?_ _ | refine Bel.ext ?_ _ | refine Bel.alloc ?_ _ | refine Bel.drewN ?_ _))⟩)
      · obtain rfl : k = l.length := by omega
        have hc0 := HA.out
        rw [List.take_length] at hc0
        have HC := Lib.hid hc0; clear hc0
        go_wp2
        go_loopw [28] (fun i wr => ∃ (k : Nat), k ≤ l.length ∧ i = .int .i64 k ∧ (∀ (i : Nat) (p q : Pt), i + 1 < k → l[i]? = some p → l[i + 1]? = some q → p.id < q.id) ∧ ∃ y, wr = ext (w.alloc (.cells #[.slice A l.length c] 24)) y) (fun i _ => l.length - (intOf i).toNat)
        case atStart => exact ⟨0, Nat.zero_le _, rfl, (by intro i p q h; omega), y, rfl⟩
        case round =>
          clear hk hlt HA
          obtain ⟨k, hk, rfl, hall, y2, rfl⟩ := hrel
          have HA := Lib.hid hall; clear hall
          by_cases hlt : k < l.length
          · obtain ⟨p, hp⟩ : ∃ p, l[k]? = some p := ⟨_, List.getElem?_eq_getElem hlt⟩
            obtain ⟨b, o, rfl, hb⟩ := hs.at_ (by omega)
            obtain ⟨r0, r1, r2⟩ := pt_at hs hp
            have HP := Lib.hid hp; clear hp
            by_cases hk0 : 0 < k
            · obtain ⟨m, rfl⟩ : ∃ m, k = m + 1 := ⟨k - 1, by omega⟩
              have hmlt : m < l.length := by omega
              obtain ⟨q, hq⟩ : ∃ q, l[m]? = some q := ⟨_, List.getElem?_eq_getElem (by omega)⟩
              obtain ⟨q0, q1, q2⟩ := pt_at hs hq
              have HQ := Lib.hid hq; clear hq
              have hi0 : (0 : Int) ≤ (m : Int) := by omega
              have hi1 : (m : Int) < (l.length : Int) := by omega
              by_cases hid : q.id < p.id
              · have hd : ¬ p.id ≤ q.id := by omega
                go_wp2
                ((first | refine RegC.wp_region_ext1 (by kernel_rfl) (by kernel_rfl) ?_ | refine RegC.wp_region_ext0 (by kernel_rfl) (by kernel_rfl) ?_); (repeat (any_goals (first | go_big_quiet_step (fail) | (refine RegC.wpQuiet_split rfl rfl (fun hb => ?_) (fun hb => ?_) <;> simp only [hb])))); all_goals (refine wpQuiet_nil ?_; rintro _ ⟨nq, rfl⟩))
                go_wp2
                go_roundw
                case rel =>
                  refine ⟨m + 2, by omega, by go_num, ?_, ext_of (by (try simp only [ext_ext]); repeat (first | exact Bel.refl _ | assumption | refine bel_and ?_ _ | refine bel_drews ?_ _ | refine Bel.ext ?_ _ | refine Bel.alloc ?_ _ | refine Bel.drewN ?_ _))⟩
                  intro i p' q' hi hp' hq'
                  rcases Nat.lt_or_ge (i + 1) (m + 1) with h | h
                  · exact HA.out i p' q' h hp' hq'
                  · obtain rfl : i = m := by omega
                    rw [HQ.out] at hp'
                    rw [HP.out] at hq'
                    obtain rfl := Option.some.inj hp'
                    obtain rfl := Option.some.inj hq'
                    exact hid
                case measure => (first | (simp [intOf]; done) | (simp [intOf]; omega))
              · have hd : p.id ≤ q.id := by omega
                have hbad : incB l = false := by
                  rw [← Bool.not_eq_true, incB_iff]; intro h; exact hid (h m q p HQ.out HP.out)
                have HB := Lib.hid (E2.out HC.out hbad); clear hbad
                go_wp2
                ((first | refine RegC.wp_region_ext1 (by kernel_rfl) (by kernel_rfl) ?_ | refine RegC.wp_region_ext0 (by kernel_rfl) (by kernel_rfl) ?_); (repeat (any_goals (first | go_big_quiet_step (fail) | (refine RegC.wpQuiet_split rfl rfl (fun hb => ?_) (fun hb => ?_) <;> simp only [hb])))); all_goals (refine wpQuiet_nil ?_; rintro _ ⟨nq, rfl⟩))
                go_wp2
                (go_ret; exact ⟨ret_int (by exact HB.out.symm), ext_of (by (try simp only [ext_ext]); repeat (first | exact Bel.refl _ | assumption | refine bel_and ?_ _ | refine bel_drews ?_ _ | refine Bel.ext ?_ _ | refine Bel.alloc ?_ _ | refine Bel.drewN ?_ _))⟩)
            · obtain rfl : k = 0 := by omega
              simp only [Nat.zero_mul, Nat.add_zero] at r0 r1 r2
              go_wp2
              ((first | refine RegC.wp_region_ext1 (by kernel_rfl) (by kernel_rfl) ?_ | refine RegC.wp_region_ext0 (by kernel_rfl) (by kernel_rfl) ?_); (repeat (any_goals (first | go_big_quiet_step (fail) | (refine RegC.wpQuiet_split rfl rfl (fun hb => ?_) (fun hb => ?_) <;> simp only [hb])))); all_goals (refine wpQuiet_nil ?_; rintro _ ⟨nq, rfl⟩))
              go_wp2
              go_roundw
              case rel => exact ⟨1, by omega, by go_num, (by intro i p q h; omega), ext_of (by (try simp only [ext_ext]); repeat (first | exact Bel.refl _ | assumption | refine bel_and ?_ _ | refine bel_drews ?_ _ | refine Bel.ext ?_ _ | refine Bel.alloc ?_ _ | refine Bel.drewN ?_ _))⟩
              case measure => (first | (simp [intOf]; done) | (simp [intOf]; omega))
          · obtain rfl : k = l.length := by omega
            have hinc : incB l = true := (incB_iff l).2 fun i p q hp hq => HA.out i p q (by have := (List.getElem?_eq_some_iff.1 hq).1; omega) hp hq
            have HB := Lib.hid (E3.out HC.out hinc); clear hinc
            go_wp2
            (go_ret; exact ⟨ret_int (by exact HB.out.symm), ext_of (by (try simp only [ext_ext]); repeat (first | exact Bel.refl _ | assumption | refine bel_and ?_ _ | refine bel_drews ?_ _ | refine Bel.ext ?_ _ | refine Bel.alloc ?_ _ | refine Bel.drewN ?_ _))⟩)
end Go.Proofs.Ythopjgahedijcaa

namespace Go.Pel
open Go Go.RowKit
/-- unsigned reading of a number of 64 bits -/
def un (a : Int) : Nat := (a % 18446744073709551616).toNat
theorem un_lt (a : Int) : un a < 18446744073709551616 := by unfold un; omega
theorem un_cast (a : Int) : ((un a : Nat) : Int) = a % 18446744073709551616 := by unfold un; omega
theorem un_pos {a : Int} (h : 0 ≤ a) (h2 : a < 9223372036854775808) : ((un a : Nat) : Int) = a := by rw [un_cast]; omega
theorem un_neg {a : Int} (h : a < 0) (h2 : -9223372036854775808 ≤ a) : ((un a : Nat) : Int) = a + 18446744073709551616 := by rw [un_cast]; omega
/-- the product of two numbers with signs, out of that of their unsigned readings -/
theorem mul_un (a b : Int) (ha : -9223372036854775808 ≤ a ∧ a < 9223372036854775808) (hb : -9223372036854775808 ≤ b ∧ b < 9223372036854775808) :
    ((un a * un b : Nat) : Int) = a * b + 18446744073709551616 * ((if a < 0 then b else 0) + (if b < 0 then a else 0)) + (if a < 0 ∧ b < 0 then 340282366920938463463374607431768211456 else 0) := by
  have e : ((un a * un b : Nat) : Int) = (un a : Int) * (un b : Int) := by simp
  rw [e]
  by_cases h1 : a < 0 <;> by_cases h2 : b < 0
  · rw [un_neg h1 ha.1, un_neg h2 hb.1]
    simp only [h1, h2, if_true, and_self, Int.add_mul, Int.mul_add]
    have : b * 18446744073709551616 = 18446744073709551616 * b := Int.mul_comm _ _
    omega
  · rw [un_neg h1 ha.1, un_pos (by omega) hb.2]
    simp only [h1, h2, if_true, if_false, and_false, Int.add_mul, Int.mul_add]
    omega
  · rw [un_pos (by omega) ha.2, un_neg h2 hb.1]
    simp only [h1, h2, if_true, if_false, false_and, Int.add_mul, Int.mul_add]
    omega
  · rw [un_pos (by omega) ha.2, un_pos (by omega) hb.2]
    simp only [h1, h2, if_false, false_and]
    omega
/-- the upper half of a product, as the code reckons it -/
def hiOf (a b : Int) : Int := wrap64 (wrap64 (wrap64 ((un a * un b / 18446744073709551616 : Nat) : Int) - (if a < 0 then b else 0)) - (if b < 0 then a else 0))
theorem hiOf_eq (a b : Int) (ha : -9223372036854775808 ≤ a ∧ a < 9223372036854775808) (hb : -9223372036854775808 ≤ b ∧ b < 9223372036854775808) (hP : -77371252455336267181195264 ≤ a * b ∧ a * b ≤ 77371252455336267181195264) : hiOf a b = a * b / 18446744073709551616 := by
  have h := mul_un a b ha hb
  unfold hiOf
  generalize un a * un b = U at h
  generalize a * b = P at h hP ⊢
  unfold wrap64
  by_cases h1 : a < 0 <;> by_cases h2 : b < 0 <;> simp only [h1, h2, if_true, if_false, and_true, and_false, and_self, Int.sub_zero, Int.add_zero, Int.zero_add, Int.mul_zero] at h ⊢ <;> omega
theorem loOf_eq (a b : Int) (ha : -9223372036854775808 ≤ a ∧ a < 9223372036854775808) (hb : -9223372036854775808 ≤ b ∧ b < 9223372036854775808) : ((un a * un b % 18446744073709551616 : Nat) : Int) = a * b % 18446744073709551616 := by
  have h := mul_un a b ha hb
  generalize un a * un b = U at h ⊢
  generalize a * b = P at h ⊢
  by_cases h1 : a < 0 <;> by_cases h2 : b < 0 <;> simp only [h1, h2, if_true, if_false, and_true, and_false, and_self, Int.add_zero, Int.zero_add, Int.mul_zero] at h <;> omega
/-- how far p is ahead of q at the time n / d, times d -/
def farD (p q : Pt) (n d : Int) : Int := (p.a - q.a) * d + (p.b - q.b) * n
/-- P2.4: p is ahead of q -/
def leads (p q : Pt) (n d : Int) : Bool := if farD p q n d ≠ 0 then decide (0 < farD p q n d) else if p.b ≠ q.b then decide (q.b < p.b) else decide (p.id < q.id)
def cmpZ (a b : Int) : Int := if a < b then -1 else if b < a then 1 else 0
theorem cmpZ_lt {a b : Int} (h : a < b) : cmpZ a b = -1 := if_pos h
theorem cmpZ_gt {a b : Int} (h : b < a) : cmpZ a b = 1 := by unfold cmpZ; rw [if_neg (by omega), if_pos h]
theorem cmpZ_eq {a b : Int} (h : a = b) : cmpZ a b = 0 := by unfold cmpZ; rw [if_neg (by omega), if_neg (by omega)]
/-- the first that is not 0 -/
def orZ (x y : Int) : Int := if x ≠ 0 then x else y
theorem orZ_0 {x y : Int} (h : x = 0) : orZ x y = y := if_neg (by simpa using h)
theorem orZ_1 {x y : Int} (h : x ≠ 0) : orZ x y = x := if_pos h
/-- what course.compare returns -/
def cmpC (p q : Pt) (n d : Int) : Int := if farD p q n d < 0 then -1 else if 0 < farD p q n d then 1 else if cmpZ p.b q.b ≠ 0 then cmpZ p.b q.b else cmpZ q.id p.id
theorem cmpC_lt {p q : Pt} {n d : Int} (h : farD p q n d < 0) : cmpC p q n d = -1 := if_pos h
theorem cmpC_gt {p q : Pt} {n d : Int} (h : 0 < farD p q n d) : cmpC p q n d = 1 := by unfold cmpC; rw [if_neg (by omega), if_pos h]
theorem cmpC_b {p q : Pt} {n d : Int} (h : farD p q n d = 0) (hb : p.b ≠ q.b) : cmpC p q n d = cmpZ p.b q.b := by
  unfold cmpC; rw [if_neg (by omega), if_neg (by omega), if_pos]
  rcases Int.lt_or_gt_of_ne hb with h1 | h1
  · rw [cmpZ_lt h1]; decide
  · rw [cmpZ_gt h1]; decide
theorem cmpC_id {p q : Pt} {n d : Int} (h : farD p q n d = 0) (hb : p.b = q.b) : cmpC p q n d = cmpZ q.id p.id := by
  unfold cmpC; rw [if_neg (by omega), if_neg (by omega), if_neg (by rw [cmpZ_eq hb]; decide)]
theorem cmpC_leads (p q : Pt) (n d : Int) : decide (0 < cmpC p q n d) = leads p q n d := by
  unfold leads
  rcases (by omega : farD p q n d < 0 ∨ farD p q n d = 0 ∨ 0 < farD p q n d) with h | h | h
  · rw [cmpC_lt h, if_pos (by omega)]; simp; omega
  · rw [if_neg (by omega)]
    by_cases hb : p.b = q.b
    · rw [cmpC_id h hb, if_neg (by omega)]
      rcases (by omega : p.id < q.id ∨ q.id < p.id ∨ p.id = q.id) with h2 | h2 | h2
      · rw [cmpZ_gt h2]; simp; omega
      · rw [cmpZ_lt h2]; simp; omega
      · rw [cmpZ_eq h2.symm]; simp; omega
    · rw [cmpC_b h hb, if_pos hb]
      rcases (by omega : p.b < q.b ∨ q.b < p.b) with h1 | h1
      · rw [cmpZ_lt h1]; simp; omega
      · rw [cmpZ_gt h1]; simp; omega
  · rw [cmpC_gt h, if_pos (by omega)]; simp; omega
/-- the error of two points and a time -/
def twoChk (p q : Pt) (n d : Int) : Int := if p.chk = 0 ∧ q.chk = 0 ∧ ratioChk n d = 0 then (if p.id = q.id then 2 else 0) else 8
theorem twoChk_bad {p q : Pt} {n d : Int} (h : ¬ (p.chk = 0 ∧ q.chk = 0 ∧ ratioChk n d = 0)) : twoChk p q n d = 8 := if_neg h
theorem twoChk_same {p q : Pt} {n d : Int} (h : p.chk = 0 ∧ q.chk = 0 ∧ ratioChk n d = 0) (hi : p.id = q.id) : twoChk p q n d = 2 := by unfold twoChk; rw [if_pos h, if_pos hi]
theorem twoChk_ok {p q : Pt} {n d : Int} (h : p.chk = 0 ∧ q.chk = 0 ∧ ratioChk n d = 0) (hi : p.id ≠ q.id) : twoChk p q n d = 0 := by unfold twoChk; rw [if_pos h, if_neg hi]
theorem twoChk_zero {p q : Pt} {n d : Int} (h : twoChk p q n d = 0) : p.chk = 0 ∧ q.chk = 0 ∧ ratioChk n d = 0 ∧ p.id ≠ q.id := by
  unfold twoChk at h
  split at h
  · rename_i h1
    split at h
    · omega
    · exact ⟨h1.1, h1.2.1, h1.2.2, ‹_›⟩
  · omega
/-- P2.4: Ahead -/
def aheadV (p q : Pt) (n d : Int) : Bool × Int := if twoChk p q n d = 0 then (leads p q n d, 0) else (false, twoChk p q n d)
end Go.Pel

namespace Go.Proofs
open Go.Shelf
def Try.lays264_ren : Go.Shelf.Ren := ⟨fun | 264 => 72 | n => n, fun | 53 => 71 | 46 => 112 | n => n, fun | n => n⟩
theorem Try.lays264 : Go.Proofs.Lays.n264 Try.prog Try.lays264_ren := {
  mixed := by kernel_rfl
  f264 := Try.func72.trans (congrArg some (by kernel_rfl))
  t46 := Try.underlying112
  a46 := Try.isAgg112
  z46 := Try.sizeOf112
  v46 := Try.zeroValue112
  t53 := Try.underlying71
  a53 := Try.isAgg71
  z53 := Try.sizeOf71
  v53 := Try.zeroValue71 }
open Go.RowKit Go.Lib in
theorem Try.bits_Mul64 (x y : Nat) (hx : x < 18446744073709551616) (hy : y < 18446744073709551616) (w : World) :
    Calls Try.prog 72 #[.int .u64 x, .int .u64 y] w fun e w' => e = .returned (.tuple #[.int .u64 ((x * y / 18446744073709551616 : Nat) : Int), .int .u64 ((x * y % 18446744073709551616 : Nat) : Int)]) ∧ w' = w := Any.bits_Mul64 Try.lays264 x y hx hy w
end Go.Proofs

namespace Go.Proofs.Ythopjgahedijcaa
open Go.RowKit Go.Pel
theorem add64_run (x y c : Nat) (hx : x < 18446744073709551616) (hy : y < 18446744073709551616) (hc : c ≤ 1) (w : World) :
    (callFunc 73 #[.int .u64 x, .int .u64 y, .int .u64 c]).run Try.prog w =
      .ok (.value (.tuple #[.int .u64 (((x + y + c) % 18446744073709551616 : Nat) : Int), .int .u64 (((x + y + c) / 18446744073709551616 : Nat) : Int)])) w := by
  rw [run_callFunc_extern Try.func73 (by kernel_rfl) (by kernel_rfl) (by kernel_rfl) (e := add64Entry) (by kernel_rfl), run_add64 x y c (by omega) (by omega) (by omega) (by omega)]
  simp only [Result.andThen]
  congr 5 <;> omega
theorem hi_cases {a b Z : Int} {H : Nat} (hH : un a * un b / 18446744073709551616 = H) (hZ : hiOf a b = Z) : (decide (a < 0) = true ∧ decide (b < 0) = true ∧ wrap64 (wrap64 (wrap64 (H : Int) - b) - a) = Z) ∨ (decide (a < 0) = true ∧ decide (b < 0) = false ∧ wrap64 (wrap64 (H : Int) - b) = Z) ∨ (decide (a < 0) = false ∧ decide (b < 0) = true ∧ wrap64 (wrap64 (H : Int) - a) = Z) ∨ (decide (a < 0) = false ∧ decide (b < 0) = false ∧ wrap64 (H : Int) = Z) := by
  have w2 : ∀ x, wrap64 (wrap64 x) = wrap64 x := fun x => by unfold wrap64; omega
  unfold hiOf at hZ
  rw [hH] at hZ
  by_cases h1 : a < 0 <;> by_cases h2 : b < 0 <;> simp only [h1, h2, if_true, if_false, Int.sub_zero, w2] at hZ <;> simp [h1, h2, hZ]
theorem mul_c (a b : Int) (H L : Nat) (hH : un a * un b / 18446744073709551616 = H) (hL : un a * un b % 18446744073709551616 = L) (w : World) :
    Calls Try.prog 72 #[.int .u64 (IntKind.u64.wrap a), .int .u64 (IntKind.u64.wrap b)] w fun e w' => e = .returned (.tuple #[.int .u64 (H : Int), .int .u64 (L : Int)]) ∧ ∃ x, w' = ext w x := by
  have h := Try.bits_Mul64 (un a) (un b) (un_lt a) (un_lt b) w
  rw [hH, hL] at h
  have e1 : ((un a : Nat) : Int) = IntKind.u64.wrap a := by rw [un_cast, IntKind.wrap_u64]
  have e2 : ((un b : Nat) : Int) = IntKind.u64.wrap b := by rw [un_cast, IntKind.wrap_u64]
  rw [e1, e2] at h
  exact h.mono fun _ _ ⟨he, hw⟩ => ⟨he, ext_of (hw ▸ Bel.refl _)⟩
theorem add0_run (L : Nat) (hL : L < 18446744073709551616) (w : World) : (callFunc 73 #[.int .u64 0, .int .u64 (L : Int), .int .u64 0]).run Try.prog w = .ok (.value (.tuple #[.int .u64 (L : Int), .int .u64 0])) w := by
  have h := add64_run 0 L 0 (by omega) hL (by omega) w
  have e1 : (0 + L + 0) % 18446744073709551616 = L := by omega
  have e2 : (0 + L + 0) / 18446744073709551616 = 0 := by omega
  rw [e1, e2] at h
  exact h
set_option maxRecDepth 10000 in
set_option maxHeartbeats 8000000 in
theorem sum_any (a b c d : Int) (w : World) (ha : -9223372036854775808 ≤ a ∧ a < 9223372036854775808) (hb : -9223372036854775808 ≤ b ∧ b < 9223372036854775808) (hc : -9223372036854775808 ≤ c ∧ c < 9223372036854775808) (hd : -9223372036854775808 ≤ d ∧ d < 9223372036854775808)
    (hab : -38685626227668133590597632 ≤ a * b ∧ a * b ≤ 38685626227668133590597632) (hcd : -38685626227668133590597632 ≤ c * d ∧ c * d ≤ 38685626227668133590597632) :
    Calls Try.prog 50 #[.agg #[.int .i64 a, .int .i64 b, .int .i64 c, .int .i64 d]] w fun e w' => e = .returned (.agg #[.int .i64 ((a * b + c * d) / 18446744073709551616), .int .u64 ((a * b + c * d) % 18446744073709551616)]) ∧ ∃ x, w' = ext w x := by
  have i0 : ∀ w, (Instr.index 90 (.agg #[.int .i64 a, .int .i64 b, .int .i64 c, .int .i64 d]) (.int .i64 0)).run Try.prog w = .ok (.agg #[.int .i64 a, .int .i64 b]) w := fun _ => by kernel_rfl
  have i1 : ∀ w, (Instr.index 90 (.agg #[.int .i64 a, .int .i64 b, .int .i64 c, .int .i64 d]) (.int .i64 1)).run Try.prog w = .ok (.agg #[.int .i64 c, .int .i64 d]) w := fun _ => by kernel_rfl
  obtain ⟨H1, hH1⟩ : ∃ H, un a * un b / 18446744073709551616 = H := ⟨_, rfl⟩
  obtain ⟨L1, hL1⟩ : ∃ L, un a * un b % 18446744073709551616 = L := ⟨_, rfl⟩
  obtain ⟨H2, hH2⟩ : ∃ H, un c * un d / 18446744073709551616 = H := ⟨_, rfl⟩
  obtain ⟨L2, hL2⟩ : ∃ L, un c * un d % 18446744073709551616 = L := ⟨_, rfl⟩
  have q1 := Lib.hid (mul_c a b H1 L1 hH1 hL1)
  have q2 := Lib.hid (mul_c c d H2 L2 hH2 hL2)
  have a1 := add0_run L1 (by omega)
  have L1b : L1 < 18446744073709551616 := by omega
  have L2b : L2 < 18446744073709551616 := by omega
  obtain ⟨S, hS⟩ : ∃ S, (L1 + L2 + 0) % 18446744073709551616 = S := ⟨_, rfl⟩
  obtain ⟨C, hC⟩ : ∃ C, (L1 + L2 + 0) / 18446744073709551616 = C := ⟨_, rfl⟩
  have a2 : ∀ w, (callFunc 73 #[.int .u64 (L1 : Int), .int .u64 (L2 : Int), .int .u64 0]).run Try.prog w = .ok (.value (.tuple #[.int .u64 (S : Int), .int .u64 (C : Int)])) w := fun w => by
    have h := add64_run L1 L2 0 L1b L2b (by omega) w
    rw [hS, hC] at h; exact h
  obtain ⟨Z1, hZ1⟩ : ∃ Z, hiOf a b = Z := ⟨_, rfl⟩
  obtain ⟨Z2, hZ2⟩ : ∃ Z, hiOf c d = Z := ⟨_, rfl⟩
  have z1 : Z1 = a * b / 18446744073709551616 := by rw [← hZ1]; exact hiOf_eq a b ha hb (by omega)
  have z2 : Z2 = c * d / 18446744073709551616 := by rw [← hZ2]; exact hiOf_eq c d hc hd (by omega)
  have l1 := loOf_eq a b ha hb
  have l2 := loOf_eq c d hc hd
  rw [hL1] at l1
  rw [hL2] at l2
  have k1 := hi_cases hH1 hZ1
  have k2 := hi_cases hH2 hZ2
  have w1 : wrap64 Z1 = Z1 := by unfold wrap64; omega
  have hfin : Hid (wrap64 (wrap64 (Z1 + Z2) + wrap64 (C : Int)) = (a * b + c * d) / 18446744073709551616 ∧ (S : Int) = (a * b + c * d) % 18446744073709551616) := Lib.hid (by
    have hs : (S : Int) = ((L1 : Int) + L2) % 18446744073709551616 := by omega
    have hcc : (C : Int) = ((L1 : Int) + L2) / 18446744073709551616 := by omega
    generalize a * b = P1 at *
    generalize c * d = P2 at *
    unfold wrap64
    constructor <;> omega)
  have HF := hfin
  clear hH1 hL1 hH2 hL2 hS hC hZ1 hZ2 z1 z2 l1 l2 hab hcd hfin L1b L2b
  obtain ⟨ha1, ha2⟩ := ha; obtain ⟨hb1, hb2⟩ := hb; obtain ⟨hc1, hc2⟩ := hc; obtain ⟨hd1, hd2⟩ := hd
  rcases k1 with ⟨sa, sb, e1⟩ | ⟨sa, sb, e1⟩ | ⟨sa, sb, e1⟩ | ⟨sa, sb, e1⟩
  all_goals
    rcases k2 with ⟨sc, sd, e2⟩ | ⟨sc, sd, e2⟩ | ⟨sc, sd, e2⟩ | ⟨sc, sd, e2⟩
  all_goals
    go_enter Try.func50, Try.ntmps50
    go_wp2
    refine wp_loop_rounds 3 ?_
    rw [rounds_succ]
    go_wp2_with ((go_at_call 72; refine (q1.out _).mono ?_; rintro e _ ⟨rfl, y1, rfl⟩))
    rw [rounds_succ]
    go_wp2_with ((go_at_call 72; refine (q2.out _).mono ?_; rintro e _ ⟨rfl, y2, rfl⟩))
    rw [rounds_succ]
    go_wp2
    exact bodyPost_ret (v := .agg #[.int .i64 (wrap64 (wrap64 (Z1 + Z2) + wrap64 (C : Int))), .int .u64 (S : Int)]) (by simp [results, Try.results50, go_sem]) rfl ⟨by rw [HF.out.1, HF.out.2], ext_of (by (try simp only [ext_ext]); repeat (first | exact Bel.refl _ | assumption | refine bel_and ?_ _ | refine bel_drews ?_ _ | refine Bel.ext ?_ _ | refine Bel.alloc ?_ _ | refine Bel.drewN ?_ _))⟩
end Go.Proofs.Ythopjgahedijcaa

namespace Go.Proofs.Ythopjgahedijcaa
open Go.RowKit Go.Pel
set_option maxHeartbeats 400000 in
theorem cmpZ_any (a b : Int) (w : World) : Calls Try.prog 77 #[.int .i64 a, .int .i64 b] w fun e w' => e = .returned (.int .i64 (cmpZ a b)) ∧ ∃ x, w' = ext w x := cmpInt_any a b w
set_option maxHeartbeats 400000 in
theorem cmpZ64_any (a b : Int) (w : World) : Calls Try.prog 76 #[.int .i64 a, .int .i64 b] w fun e w' => e = .returned (.int .i64 (cmpZ a b)) ∧ ∃ x, w' = ext w x := by
  rcases (by omega : a < b ∨ b < a ∨ a = b) with h | h | h
  · have H := Lib.hid (cmpZ_lt h)
    have h2 : ¬ b < a := by omega
    go_enter Try.func76, Try.ntmps76
    go_wp2
    (go_ret; exact ⟨ret_int (by exact H.out.symm), ext_of (by (try simp only [ext_ext]); repeat (first | exact Bel.refl _ | assumption | refine bel_and ?_ _ | refine bel_drews ?_ _ | refine Bel.ext ?_ _ | refine Bel.alloc ?_ _ | refine Bel.drewN ?_ _))⟩)
  · have H := Lib.hid (cmpZ_gt h)
    have h2 : ¬ a < b := by omega
    go_enter Try.func76, Try.ntmps76
    go_wp2
    (go_ret; exact ⟨ret_int (by exact H.out.symm), ext_of (by (try simp only [ext_ext]); repeat (first | exact Bel.refl _ | assumption | refine bel_and ?_ _ | refine bel_drews ?_ _ | refine Bel.ext ?_ _ | refine Bel.alloc ?_ _ | refine Bel.drewN ?_ _))⟩)
  · have H := Lib.hid (cmpZ_eq h)
    have h2 : ¬ a < b := by omega
    have h3 : ¬ b < a := by omega
    clear h
    go_enter Try.func76, Try.ntmps76
    go_wp2
    (go_ret; exact ⟨ret_int (by exact H.out.symm), ext_of (by (try simp only [ext_ext]); repeat (first | exact Bel.refl _ | assumption | refine bel_and ?_ _ | refine bel_drews ?_ _ | refine Bel.ext ?_ _ | refine Bel.alloc ?_ _ | refine Bel.drewN ?_ _))⟩)
set_option maxHeartbeats 1000000 in
theorem or2_any (x y : Int) (g : Nat) (w : World) (hg : g < w.heap.size) (h0 : w.cell? ⟨g, 0, none⟩ = some (.int .i64 x)) (h1 : w.cell? ⟨g, 1, none⟩ = some (.int .i64 y)) :
    Calls Try.prog 75 #[.slice (some ⟨g, 0, none⟩) 2 2] w fun e w' => e = .returned (.int .i64 (orZ x y)) ∧ ∃ x, w' = ext w x := by
  by_cases hx : x = 0
  · have HR : Hid (orZ x y = y) := Lib.hid (orZ_0 hx)
    have hx1 : (x == 0) = true := by simpa using hx
    have hx2 : (x != 0) = false := by simpa using hx
    clear hx
    by_cases hy : y = 0
    · have HY := Lib.hid hy
      have hy1 : (y == 0) = true := by simpa using hy
      have hy2 : (y != 0) = false := by simpa using hy
      clear hy
      go_enter Try.func75, Try.ntmps75
      go_wp2
      refine wp_loop_rounds 3 ?_
      rw [rounds_succ]
      go_wp2
      rw [rounds_succ]
      go_wp2
      rw [rounds_succ]
      go_wp2
      (go_ret; exact ⟨ret_int (by rw [HR.out, HY.out]), ext_of (by (try simp only [ext_ext]); repeat (first | exact Bel.refl _ | assumption | refine bel_and ?_ _ | refine bel_drews ?_ _ | refine Bel.ext ?_ _ | refine Bel.alloc ?_ _ | refine Bel.drewN ?_ _))⟩)
    · have hy1 : (y == 0) = false := by simpa using hy
      have hy2 : (y != 0) = true := by simpa using hy
      clear hy
      go_enter Try.func75, Try.ntmps75
      go_wp2
      refine wp_loop_rounds 3 ?_
      rw [rounds_succ]
      go_wp2
      rw [rounds_succ]
      go_wp2
      (go_ret; exact ⟨ret_int (by exact HR.out.symm), ext_of (by (try simp only [ext_ext]); repeat (first | exact Bel.refl _ | assumption | refine bel_and ?_ _ | refine bel_drews ?_ _ | refine Bel.ext ?_ _ | refine Bel.alloc ?_ _ | refine Bel.drewN ?_ _))⟩)
  · have HR : Hid (orZ x y = x) := Lib.hid (orZ_1 hx)
    have hx1 : (x == 0) = false := by simpa using hx
    have hx2 : (x != 0) = true := by simpa using hx
    clear hx
    go_enter Try.func75, Try.ntmps75
    go_wp2
    refine wp_loop_rounds 3 ?_
    rw [rounds_succ]
    go_wp2
    (go_ret; exact ⟨ret_int (by exact HR.out.symm), ext_of (by (try simp only [ext_ext]); repeat (first | exact Bel.refl _ | assumption | refine bel_and ?_ _ | refine bel_drews ?_ _ | refine Bel.ext ?_ _ | refine Bel.alloc ?_ _ | refine Bel.drewN ?_ _))⟩)
/-- numbers that course.compare takes: points in their ranges, a time of 64 bits -/
structure CmpIn (p q : Pt) (n d : Int) : Prop where
  pa : -1048576 ≤ p.a ∧ p.a ≤ 1048576
  pb : -1048576 ≤ p.b ∧ p.b ≤ 1048576
  qa : -1048576 ≤ q.a ∧ q.a ≤ 1048576
  qb : -1048576 ≤ q.b ∧ q.b ≤ 1048576
  n : -9223372036854775807 ≤ n ∧ n ≤ 9223372036854775807
  d : 1 ≤ d ∧ d ≤ 9223372036854775807
theorem mul_bd (a b A B : Int) (ha : -A ≤ a ∧ a ≤ A) (hb : -B ≤ b ∧ b ≤ B) : -(A * B) ≤ a * b ∧ a * b ≤ A * B := by
  have hA : 0 ≤ A := by omega
  have hB : 0 ≤ B := by omega
  have h1 : 0 ≤ (A - a) * (B + b) := Int.mul_nonneg (by omega) (by omega)
  have h2 : 0 ≤ (A + a) * (B - b) := Int.mul_nonneg (by omega) (by omega)
  have h3 : 0 ≤ (A - a) * (B - b) := Int.mul_nonneg (by omega) (by omega)
  have h4 : 0 ≤ (A + a) * (B + b) := Int.mul_nonneg (by omega) (by omega)
  simp only [Int.sub_mul, Int.add_mul, Int.mul_sub, Int.mul_add] at h1 h2 h3 h4
  omega
theorem far_bd {p q : Pt} {n d : Int} (h : CmpIn p q n d) : (-38685626227668133590597632 ≤ (p.a - q.a) * d ∧ (p.a - q.a) * d ≤ 38685626227668133590597632) ∧ (-38685626227668133590597632 ≤ (p.b - q.b) * n ∧ (p.b - q.b) * n ≤ 38685626227668133590597632) := by
  obtain ⟨h1, h2, h3, h4, h5, h6⟩ := h
  have k1 := mul_bd (p.a - q.a) d 2097152 9223372036854775807 (by omega) (by omega)
  have k2 := mul_bd (p.b - q.b) n 2097152 9223372036854775807 (by omega) (by omega)
  omega
theorem equal_wide (h l h' l' : Int) (w : World) : (Op.equalIn 10000 87 (.agg #[.int .i64 h, .int .u64 l]) (.agg #[.int .i64 h', .int .u64 l'])).run Try.prog w = .ok (decide (h = h' ∧ l = l')) w := by
  simp [go_sem]
  by_cases h1 : h = h' <;> by_cases h2 : l = l' <;> simp [h1, h2]
attribute [local go_sem ↓] equal_wide
set_option maxRecDepth 10000 in
set_option maxHeartbeats 2000000 in
theorem compare_any (p q : Pt) (n d : Int) (w : World) (h : CmpIn p q n d) :
    Calls Try.prog 55 #[.agg #[.int .i64 p.id, .int .i64 p.a, .int .i64 p.b], .agg #[.int .i64 q.id, .int .i64 q.a, .int .i64 q.b], .agg #[.int .i64 n, .int .i64 d]] w fun e w' => e = .returned (.int .i64 (cmpC p q n d)) ∧ ∃ x, w' = ext w x := by
  obtain ⟨k1, k2⟩ := far_bd h
  obtain ⟨h1, h2, h3, h4, h5, h6⟩ := h
  have hs := sum_any (p.a - q.a) d (p.b - q.b) n
  have hs' := fun w => hs w (by omega) (by omega) (by omega) (by omega) k1 k2
  obtain ⟨D, hD⟩ : ∃ D, farD p q n d = D := ⟨_, rfl⟩
  have hD' : (p.a - q.a) * d + (p.b - q.b) * n = D := hD
  rw [hD'] at hs'
  obtain ⟨hi, hhi⟩ : ∃ x, D / 18446744073709551616 = x := ⟨_, rfl⟩
  obtain ⟨lo, hlo⟩ : ∃ x, D % 18446744073709551616 = x := ⟨_, rfl⟩
  rw [hhi, hlo] at hs'
  have q1 := Lib.hid hs'
  have HD := Lib.hid hD
  obtain ⟨a1, a2⟩ := h1; obtain ⟨a3, a4⟩ := h2; obtain ⟨a5, a6⟩ := h3; obtain ⟨a7, a8⟩ := h4
  rcases (by omega : D < 0 ∨ 0 < D ∨ D = 0) with hd0 | hd0 | hd0
  · have hne : decide (hi = 0 ∧ lo = 0) = false := by rw [decide_eq_false_iff_not]; omega
    have hlt : hi < 0 := by omega
    have HR := Lib.hid (cmpC_lt (p := p) (q := q) (n := n) (d := d) (by omega))
    clear hs hs' hD hD' hhi hlo k1 k2 h5 h6 hd0
    go_enter Try.func55, Try.ntmps55
    go_wp2_with ((go_at_call 50; refine (q1.out _).mono ?_; rintro e _ ⟨rfl, nx, rfl⟩))
    (go_ret; exact ⟨ret_int (by exact HR.out.symm), ext_of (by (try simp only [ext_ext]); repeat (first | exact Bel.refl _ | assumption | refine bel_and ?_ _ | refine bel_drews ?_ _ | refine Bel.ext ?_ _ | refine Bel.alloc ?_ _ | refine Bel.drewN ?_ _))⟩)
  · have hne : decide (hi = 0 ∧ lo = 0) = false := by rw [decide_eq_false_iff_not]; omega
    have hlt : ¬ hi < 0 := by omega
    have HR := Lib.hid (cmpC_gt (p := p) (q := q) (n := n) (d := d) (by omega))
    clear hs hs' hD hD' hhi hlo k1 k2 h5 h6 hd0
    go_enter Try.func55, Try.ntmps55
    go_wp2_with ((go_at_call 50; refine (q1.out _).mono ?_; rintro e _ ⟨rfl, nx, rfl⟩))
    (go_ret; exact ⟨ret_int (by exact HR.out.symm), ext_of (by (try simp only [ext_ext]); repeat (first | exact Bel.refl _ | assumption | refine bel_and ?_ _ | refine bel_drews ?_ _ | refine Bel.ext ?_ _ | refine Bel.alloc ?_ _ | refine Bel.drewN ?_ _))⟩)
  · have hne : decide (hi = 0 ∧ lo = 0) = true := by rw [decide_eq_true_eq]; omega
    have HR : Hid (orZ (cmpZ p.b q.b) (cmpZ q.id p.id) = cmpC p q n d) := Lib.hid (by unfold cmpC; rw [if_neg (by omega), if_neg (by omega)]; rfl)
    clear hs hs' hD hD' hhi hlo k1 k2 h5 h6 hd0
    go_enter Try.func55, Try.ntmps55
    go_wp2_with ((go_at_call 50; refine (q1.out _).mono ?_; rintro e _ ⟨rfl, y1, rfl⟩))
    go_region_held3 (fun w' => w'.cell? ⟨w.heap.size, 0, none⟩ = some (.int .i64 p.id) ∧ w'.cell? ⟨w.heap.size, 1, none⟩ = some (.int .i64 p.a) ∧ w'.cell? ⟨w.heap.size, 2, none⟩ = some (.int .i64 p.b) ∧ w'.cell? ⟨w.heap.size + 1, 0, none⟩ = some (.int .i64 q.id) ∧ w'.cell? ⟨w.heap.size + 1, 1, none⟩ = some (.int .i64 q.a) ∧ w'.cell? ⟨w.heap.size + 1, 2, none⟩ = some (.int .i64 q.b)) (simp [go_sem]) ((first | (go_at_call 77; refine (cmpZ_any _ _ _).mono ?_; rintro e _ ⟨rfl, nx, rfl⟩) | (go_at_call 76; refine (cmpZ64_any _ _ _).mono ?_; rintro e _ ⟨rfl, nx, rfl⟩) | (go_at_call 75; refine (or2_any (cmpZ p.b q.b) (cmpZ q.id p.id) _ _ (by simp [go_sem]) (by simp [go_sem]) (by simp [go_sem])).mono ?_; rintro e _ ⟨rfl, nx, rfl⟩)))
    all_goals
      go_wp2
      (go_ret; exact ⟨ret_int (by exact HR.out), ext_of (by (try simp only [ext_ext]); repeat (first | exact Bel.refl _ | assumption | refine bel_and ?_ _ | refine bel_drews ?_ _ | refine Bel.ext ?_ _ | refine Bel.alloc ?_ _ | refine Bel.drewN ?_ _))⟩)
end Go.Proofs.Ythopjgahedijcaa

namespace Go.Proofs.Ythopjgahedijcaa
open Go.RowKit Go.Pel
theorem rchk_lit (n d v : Int) (h : ratioChk n d = v) (hn : -9223372036854775808 ≤ n ∧ n ≤ 9223372036854775807) (hd : -9223372036854775808 ≤ d ∧ d ≤ 9223372036854775807) (W : World) : Calls Try.prog 49 #[.agg #[.int .i64 n, .int .i64 d]] W fun e w' => e = .returned (.int .i64 v) ∧ ∃ y, w' = ext W y := by
  subst h; exact ratioCheck_any n d W hn hd
set_option maxRecDepth 10000 in
set_option maxHeartbeats 2000000 in
theorem two_any (p q : Pt) (n d : Int) (w : World) (hn : -9223372036854775808 ≤ n ∧ n ≤ 9223372036854775807) (hd : -9223372036854775808 ≤ d ∧ d ≤ 9223372036854775807) :
    Calls Try.prog 54 #[.agg #[.int .i64 p.id, .int .i64 p.a, .int .i64 p.b], .agg #[.int .i64 q.id, .int .i64 q.a, .int .i64 q.b], .agg #[.int .i64 n, .int .i64 d]] w fun e w' => e = .returned (.int .i64 (twoChk p q n d)) ∧ ∃ x, w' = ext w x := by
  rcases pt_cases p with h1 | h1 <;> rcases pt_cases q with h2 | h2 <;> rcases ratioChk_cases n d with h3 | h3
  · have q1 := Lib.hid (pchk_lit p _ h1); have q2 := Lib.hid (pchk_lit q _ h2); have q3 := Lib.hid (rchk_lit n d _ h3 hn hd)
    by_cases hi : p.id = q.id
    · have HR := Lib.hid (twoChk_same (p := p) (q := q) ⟨h1, h2, h3⟩ hi)
      have hi' : (p.id == q.id) = true := by simpa using hi
      clear h1 h2 h3 hn hd hi
      go_enter Try.func54, Try.ntmps54
      go_wp2
      ((first | refine RegC.wp_region_ext1 (by kernel_rfl) (by kernel_rfl) ?_ | refine RegC.wp_region_ext0 (by kernel_rfl) (by kernel_rfl) ?_); (repeat (any_goals (first | go_big_quiet_step (first | (go_at_call 48; with_reducible exact Calls.ext_of (q1.out _)) | (go_at_call 48; with_reducible exact Calls.ext_of (q2.out _)) | (go_at_call 49; with_reducible exact Calls.ext_of (q3.out _))) | (refine RegC.wpQuiet_split rfl rfl (fun hb => ?_) (fun hb => ?_) <;> simp only [hb])))); all_goals (refine wpQuiet_nil ?_; rintro _ ⟨nq, rfl⟩))
      go_wp2
      (go_ret; exact ⟨ret_int (by exact HR.out.symm), ext_of (by (try simp only [ext_ext]); repeat (first | exact Bel.refl _ | assumption | refine bel_and ?_ _ | refine bel_drews ?_ _ | refine Bel.ext ?_ _ | refine Bel.alloc ?_ _ | refine Bel.drewN ?_ _))⟩)
    · have HR := Lib.hid (twoChk_ok (p := p) (q := q) ⟨h1, h2, h3⟩ hi)
      have hi' : (p.id == q.id) = false := by simpa using hi
      clear h1 h2 h3 hn hd hi
      go_enter Try.func54, Try.ntmps54
      go_wp2
      ((first | refine RegC.wp_region_ext1 (by kernel_rfl) (by kernel_rfl) ?_ | refine RegC.wp_region_ext0 (by kernel_rfl) (by kernel_rfl) ?_); (repeat (any_goals (first | go_big_quiet_step (first | (go_at_call 48; with_reducible exact Calls.ext_of (q1.out _)) | (go_at_call 48; with_reducible exact Calls.ext_of (q2.out _)) | (go_at_call 49; with_reducible exact Calls.ext_of (q3.out _))) | (refine RegC.wpQuiet_split rfl rfl (fun hb => ?_) (fun hb => ?_) <;> simp only [hb])))); all_goals (refine wpQuiet_nil ?_; rintro _ ⟨nq, rfl⟩))
      go_wp2
      (go_ret; exact ⟨ret_int (by exact HR.out.symm), ext_of (by (try simp only [ext_ext]); repeat (first | exact Bel.refl _ | assumption | refine bel_and ?_ _ | refine bel_drews ?_ _ | refine Bel.ext ?_ _ | refine Bel.alloc ?_ _ | refine Bel.drewN ?_ _))⟩)
  all_goals
    have q1 := Lib.hid (pchk_lit p _ h1)
    have q2 := Lib.hid (pchk_lit q _ h2)
    have q3 := Lib.hid (rchk_lit n d _ h3 hn hd)
    have HR := Lib.hid (twoChk_bad (p := p) (q := q) (n := n) (d := d) (by rw [h1, h2, h3]; decide))
    clear h1 h2 h3 hn hd
    go_enter Try.func54, Try.ntmps54
    go_wp2
    ((first | refine RegC.wp_region_ext1 (by kernel_rfl) (by kernel_rfl) ?_ | refine RegC.wp_region_ext0 (by kernel_rfl) (by kernel_rfl) ?_); (repeat (any_goals (first | go_big_quiet_step (first | (go_at_call 48; with_reducible exact Calls.ext_of (q1.out _)) | (go_at_call 48; with_reducible exact Calls.ext_of (q2.out _)) | (go_at_call 49; with_reducible exact Calls.ext_of (q3.out _))) | (refine RegC.wpQuiet_split rfl rfl (fun hb => ?_) (fun hb => ?_) <;> simp only [hb])))); all_goals (refine wpQuiet_nil ?_; rintro _ ⟨nq, rfl⟩))
    go_wp2
    (go_ret; exact ⟨ret_int (by exact HR.out.symm), ext_of (by (try simp only [ext_ext]); repeat (first | exact Bel.refl _ | assumption | refine bel_and ?_ _ | refine bel_drews ?_ _ | refine Bel.ext ?_ _ | refine Bel.alloc ?_ _ | refine Bel.drewN ?_ _))⟩)
theorem cmpIn_of {p q : Pt} {n d : Int} (hp : p.chk = 0) (hq : q.chk = 0) (hr : ratioChk n d = 0) (hn : -9223372036854775808 ≤ n ∧ n ≤ 9223372036854775807) (hd : -9223372036854775808 ≤ d ∧ d ≤ 9223372036854775807) : CmpIn p q n d := by
  have h1 := chk_pt hp
  have h2 := chk_pt hq
  have h3 := ratioChk_zero hr
  exact ⟨by omega, by omega, by omega, by omega, by omega, by omega⟩
set_option maxRecDepth 10000 in
set_option maxHeartbeats 2000000 in
theorem ahead_any (p q : Pt) (n d : Int) (w : World) (hn : -9223372036854775808 ≤ n ∧ n ≤ 9223372036854775807) (hd : -9223372036854775808 ≤ d ∧ d ≤ 9223372036854775807) :
    Calls Try.prog 32 #[.agg #[.int .i64 p.id, .int .i64 p.a, .int .i64 p.b], .agg #[.int .i64 q.id, .int .i64 q.a, .int .i64 q.b], .agg #[.int .i64 n, .int .i64 d]] w fun e w' => e = .returned (.tuple #[.bool (aheadV p q n d).1, .int .i64 (aheadV p q n d).2]) ∧ ∃ x, w' = ext w x := by
  have q1 := Lib.hid (fun W => two_any p q n d W hn hd)
  by_cases h : twoChk p q n d = 0
  · have HV : Hid (aheadV p q n d = (leads p q n d, 0)) := Lib.hid (by unfold aheadV; rw [if_pos h])
    obtain ⟨h1, h2, h3, _⟩ := twoChk_zero h
    have q2 := Lib.hid (fun W => compare_any p q n d W (cmpIn_of h1 h2 h3 hn hd))
    rw [h] at q1
    have HL := Lib.hid (cmpC_leads p q n d)
    obtain ⟨C, hC⟩ : ∃ C, cmpC p q n d = C := ⟨_, rfl⟩
    rw [hC] at q2 HL
    clear h h1 h2 h3 hn hd hC
    go_enter Try.func32, Try.ntmps32
    go_wp2_with (first | (go_at_call 54; refine (q1.out _).mono ?_; rintro e _ ⟨rfl, nx, rfl⟩) | (go_at_call 55; refine (q2.out _).mono ?_; rintro e _ ⟨rfl, nx, rfl⟩))
    go_ret2
    exact ⟨by rw [HV.out, ← HL.out]; rfl, ext_of (by (try simp only [ext_ext]); repeat (first | exact Bel.refl _ | assumption | refine bel_and ?_ _ | refine bel_drews ?_ _ | refine Bel.ext ?_ _ | refine Bel.alloc ?_ _ | refine Bel.drewN ?_ _))⟩
  · have HV : Hid (aheadV p q n d = (false, twoChk p q n d)) := Lib.hid (by unfold aheadV; rw [if_neg h])
    have hz : (twoChk p q n d == 0) = false := by simpa using h
    have hz' : (twoChk p q n d != 0) = true := by simpa using h
    clear h hn hd
    go_enter Try.func32, Try.ntmps32
    go_wp2_with ((go_at_call 54; refine (q1.out _).mono ?_; rintro e _ ⟨rfl, nx, rfl⟩))
    go_ret2
    exact ⟨by rw [HV.out]; rfl, ext_of (by (try simp only [ext_ext]); repeat (first | exact Bel.refl _ | assumption | refine bel_and ?_ _ | refine bel_drews ?_ _ | refine Bel.ext ?_ _ | refine Bel.alloc ?_ _ | refine Bel.drewN ?_ _))⟩
end Go.Proofs.Ythopjgahedijcaa

namespace Go
open RowKit
/-- where a row lies: at block g, or from block n on -/
def Lo (A : Option Addr) (g n : Nat) : Prop := ∀ k, A = some ⟨k, 0, none⟩ → k = g ∨ n ≤ k
/-- an empty literal of the call lies at g -/
def NewLit (V : World) (e : TypeId) (g : Nat) : Prop := ∃ W : World, Bel (W.alloc (.cells #[] e)) V ∧ g = W.heap.size
theorem NewLit.here {W : World} {e : TypeId} {g : Nat} (h : g = W.heap.size) : NewLit (W.alloc (.cells #[] e)) e g := ⟨W, Bel.refl _, h⟩
theorem NewLit.alloc {W : World} {e : TypeId} {g : Nat} {o : Obj} (h : NewLit W e g) : NewLit (W.alloc o) e g := by obtain ⟨W0, h1, h2⟩ := h; exact ⟨W0, h1.alloc _, h2⟩
theorem NewLit.ext {W : World} {e : TypeId} {g : Nat} {x : Beyond} (h : NewLit W e g) : NewLit (ext W x) e g := by obtain ⟨W0, h1, h2⟩ := h; exact ⟨W0, h1.ext _, h2⟩
theorem NewLit.drew {W : World} {e : TypeId} {g : Nat} (h : NewLit W e g) : NewLit W.drew e g := by obtain ⟨W0, h1, h2⟩ := h; exact ⟨W0, h1.drew, h2⟩
def RowsApart (A B : Option Addr) : Prop := ∀ k, A = some ⟨k, 0, none⟩ → B = some ⟨k, 0, none⟩ → False
theorem own_lt {w : World} {base : Nat} {e : TypeId} {size n c k : Nat} {xs : List Value} (h : Own w base e size (some ⟨k, 0, none⟩) n c xs) : k < w.heap.size := by
  rcases h.block with h0 | ⟨g, h0, _, h2⟩
  · cases h0
  · injection h0 with h0
    rw [show k = g from h0]; exact h2
theorem own_ge {w : World} {base : Nat} {e : TypeId} {size n c k : Nat} {xs : List Value} (h : Own w base e size (some ⟨k, 0, none⟩) n c xs) : base ≤ k := by
  rcases h.block with h0 | ⟨g, h0, h1, _⟩
  · cases h0
  · injection h0 with h0
    rw [show k = g from h0]; exact h1
theorem RowsApart.symm {A B : Option Addr} (h : RowsApart A B) : RowsApart B A := fun k h1 h2 => h k h2 h1
theorem apart_ge {w : World} {base : Nat} {e : TypeId} {size n c : Nat} {A B : Option Addr} {xs : List Value} (h : Own w base e size A n c xs) (hB : ∀ k, B = some ⟨k, 0, none⟩ → k < base) : RowsApart A B := by
  intro k h1 h2
  subst h1
  have := own_ge h
  have := hB k h2
  omega
/-- W' is over V' what W is over V, and V' is as great as V. -/
structure Swp (V V' W W' : World) : Prop where
  base : V.heap.size = V'.heap.size
  size : W.heap.size = W'.heap.size
  hi : ∀ k, V.heap.size ≤ k → W'.heap[k]? = W.heap[k]?
theorem Swp.refl {V V' : World} (h : V.heap.size = V'.heap.size) : Swp V V' V V' := ⟨h, h, fun k hk => by rw [Array.getElem?_eq_none hk, Array.getElem?_eq_none (by omega)]⟩
theorem Swp.ext {V V' W W' : World} (h : Swp V V' W W') (x : Beyond) : Swp V V' (ext W x) (ext W' x) := by
  refine ⟨h.base, by simp [h.size], fun k hk => ?_⟩
  have e1 : (Go.ext W x).heap = W.heap ++ x.objs := by unfold Go.ext; rfl
  have e2 : (Go.ext W' x).heap = W'.heap ++ x.objs := by unfold Go.ext; rfl
  rw [e1, e2]
  rcases Nat.lt_or_ge k W.heap.size with hl | hl
  · rw [Array.getElem?_append_left hl, Array.getElem?_append_left (by have := h.size; omega)]; exact h.hi k hk
  · rw [Array.getElem?_append_right hl, Array.getElem?_append_right (by have := h.size; omega), h.size]
theorem Swp.alloc {V V' W W' : World} (h : Swp V V' W W') (o : Obj) : Swp V V' (W.alloc o) (W'.alloc o) := by
  refine ⟨h.base, by simp [h.size], fun k hk => ?_⟩
  have e1 : (W.alloc o).heap = W.heap.push o := by unfold World.alloc; rfl
  have e2 : (W'.alloc o).heap = W'.heap.push o := by unfold World.alloc; rfl
  rw [e1, e2, Array.getElem?_push, Array.getElem?_push, h.hi k hk, h.size]
theorem Swp.drew {V V' W W' : World} (h : Swp V V' W W') : Swp V V' W.drew W'.drew := ⟨h.base, h.size, h.hi⟩
theorem pheap_ext (W : World) (x : Beyond) : (ext W x).heap = W.heap ++ x.objs := by unfold ext; rfl
theorem pheap_drew (W : World) : W.drew.heap = W.heap := rfl
theorem pheap_alloc (W : World) (o : Obj) : (W.alloc o).heap = W.heap ++ #[o] := by unfold World.alloc; simp
theorem objs_and (x y : Beyond) : (x.and y).objs = x.objs ++ y.objs := rfl
theorem objs_drewN (x : Beyond) (n : Nat) : (x.drewN n).objs = x.objs := rfl
/-- the blocks of W are the first ones of W' -/
def Pre (W W' : World) : Prop := ∃ r, W'.heap = W.heap ++ r
theorem pre_append {a b c : Array Obj} (h : ∃ r, a = b ++ r) : ∃ r, a ++ c = b ++ r := by
  obtain ⟨r, rfl⟩ := h
  exact ⟨r ++ c, by rw [Array.append_assoc]⟩
theorem pre_refl (a : Array Obj) : ∃ r, a = a ++ r := ⟨#[], by simp⟩
theorem own_pre {W W' : World} {base : Nat} {e : TypeId} {size n c : Nat} {A : Option Addr} {xs : List Value} (h : Own W base e size A n c xs) (hp : Pre W W') : Own W' base e size A n c xs := by
  obtain ⟨h1, h2⟩ := h
  obtain ⟨r, hr⟩ := hp
  refine ⟨h1, ?_⟩
  rcases h2 with h2 | ⟨g, cap, cur, hv', hg, hh, r'⟩
  · exact .inl h2
  · have hl : g < W.heap.size := by rcases Nat.lt_or_ge g W.heap.size with h | h; exact h; rw [Array.getElem?_eq_none h] at hh; cases hh
    exact .inr ⟨g, cap, cur, hv', hg, by rw [hr, Array.getElem?_append_left hl]; exact hh, r'⟩
theorem own_move {V V' W W1 W2 : World} {base : Nat} {e : TypeId} {size n c : Nat} {A : Option Addr} {xs : List Value} (h : Own W base e size A n c xs) (hs : Swp V V' W W1) (hb : Pre W1 W2) (hv : V.heap.size ≤ base) : Own W2 base e size A n c xs := by
  have h1 : Own W1 base e size A n c xs := by
    obtain ⟨h1, h2⟩ := h
    refine ⟨h1, ?_⟩
    rcases h2 with h2 | ⟨g, cap, cur, hv', hg, hh, r⟩
    · exact .inl h2
    · exact .inr ⟨g, cap, cur, hv', hg, by rw [hs.hi g (by omega)]; exact hh, r⟩
  exact own_pre h1 hb
theorem Box.here {W : World} {cs : Array Value} {e : TypeId} {b : Nat} (hb : b = W.heap.size) : Box (W.alloc (.cells cs e)) b cs := Box.new (Bel.refl _) hb
theorem Box.alloc {W : World} {cs : Array Value} {b : Nat} {o : Obj} (h : Box W b cs) : Box (W.alloc o) b cs := h.bel ((Bel.refl _).alloc _)
theorem Box.ext {W : World} {cs : Array Value} {b : Nat} {x : Beyond} (h : Box W b cs) : Box (ext W x) b cs := h.bel (bel_ext _ _)
theorem Box.drew {W : World} {cs : Array Value} {b : Nat} (h : Box W b cs) : Box W.drew b cs := h.bel (Bel.refl _).drew
theorem Own.here {W : World} {base : Nat} {cs : Array Value} {e : TypeId} {size n b : Nat} (hbk : b = W.heap.size) (hb : base ≤ b) (hn : n ≤ 1000000) (hs : cs.size = n * size) : Own (W.alloc (.cells cs e)) base e size (some ⟨b, 0, none⟩) n n cs.toList := by
  subst hbk
  exact World.ownsRow_lit W cs n hb (Nat.le_trans hn (by unfold maxLen; decide)) hs
theorem Own.alloc' {W : World} {base : Nat} {xs : List Value} {e : TypeId} {size n c : Nat} {A : Option Addr} {o : Obj} (h : Own W base e size A n c xs) : Own (W.alloc o) base e size A n c xs := h.alloc o
theorem Own.ext' {W : World} {base : Nat} {xs : List Value} {e : TypeId} {size n c : Nat} {A : Option Addr} {x : Beyond} (h : Own W base e size A n c xs) : Own (Go.ext W x) base e size A n c xs := h.ext x
theorem Own.drew' {W : World} {base : Nat} {xs : List Value} {e : TypeId} {size n c : Nat} {A : Option Addr} (h : Own W base e size A n c xs) : Own W.drew base e size A n c xs := h.bel (Bel.refl _).drew
/-- two heaps agree but at block g -/
def PBut (g : Nat) (a b : Array Obj) : Prop := ∀ k, k ≠ g → k < a.size → b[k]? = a[k]?
def PSame (g : Nat) (a b : Array Obj) : Prop := a.size = b.size ∧ ∀ k, k ≠ g → b[k]? = a[k]?
theorem PSame.refl (g : Nat) (a : Array Obj) : PSame g a a := ⟨rfl, fun _ _ => rfl⟩
theorem PSame.both {g : Nat} {a b : Array Obj} (h : PSame g a b) (c : Array Obj) : PSame g (a ++ c) (b ++ c) := by
  refine ⟨by simp [h.1], fun k hk => ?_⟩
  rcases Nat.lt_or_ge k a.size with hl | hl
  · rw [Array.getElem?_append_left hl, Array.getElem?_append_left (by have := h.1; omega)]; exact h.2 k hk
  · rw [Array.getElem?_append_right hl, Array.getElem?_append_right (by have := h.1; omega), h.1]
theorem PSame.swap {g : Nat} {a b : Array Obj} {o o' : Obj} (h : PSame g a b) (hg : g = a.size) : PSame g (a ++ #[o]) (b ++ #[o']) := by
  refine ⟨by simp [h.1], fun k hk => ?_⟩
  rcases Nat.lt_or_ge k a.size with hl | hl
  · rw [Array.getElem?_append_left hl, Array.getElem?_append_left (by have := h.1; omega)]; exact h.2 k hk
  · have hs := h.1
    have h1 : a.size + 1 ≤ k := by omega
    rw [Array.getElem?_eq_none (by first | simpa using h1 | (rw [hs] at h1; simpa using h1)), Array.getElem?_eq_none (by first | simpa using h1 | (rw [hs] at h1; simpa using h1))]
theorem PBut.same {g : Nat} {a b : Array Obj} (h : PSame g a b) : PBut g a b := fun k hk _ => h.2 k hk
theorem PBut.le {g : Nat} {a b : Array Obj} (h : PBut g a b) {k : Nat} (hk : k ≠ g) (hl : k < a.size) : k < b.size := by
  have h1 := h k hk hl
  rcases Nat.lt_or_ge k b.size with h2 | h2
  · exact h2
  · rw [Array.getElem?_eq_none h2, Array.getElem?_eq_getElem hl] at h1; cases h1
theorem PBut.right {g : Nat} {a b : Array Obj} (h : PBut g a b) (c : Array Obj) : PBut g a (b ++ c) := fun k hk hl => by
  rw [Array.getElem?_append_left (h.le hk hl)]; exact h k hk hl
theorem own_but {W W' : World} {base g : Nat} {e : TypeId} {size n c : Nat} {A : Option Addr} {xs : List Value} (h : Own W base e size A n c xs) (hA : ∀ q, A = some ⟨q, 0, none⟩ → q ≠ g) (hp : PBut g W.heap W'.heap) : Own W' base e size A n c xs := by
  obtain ⟨h1, h2⟩ := h
  refine ⟨h1, ?_⟩
  rcases h2 with h2 | ⟨q, cap, cur, hv', hq, hh, r'⟩
  · exact .inl h2
  · have hl : q < W.heap.size := by rcases Nat.lt_or_ge q W.heap.size with h | h; exact h; rw [Array.getElem?_eq_none h] at hh; cases hh
    have hne : q ≠ g := hA q (by injection hv')
    exact .inr ⟨q, cap, cur, hv', hq, by rw [hp q hne hl]; exact hh, r'⟩
theorem own_ne {W W' : World} {base b g : Nat} {e : TypeId} {size n c : Nat} {A : Option Addr} {xs : List Value} (h : Own W base e size A n c xs) (hA : ∀ q, A = some ⟨q, 0, none⟩ → q ≠ b ∧ q ≠ g) (hp : PBut g W.heap W'.heap) : Own W' base e size A n c xs ∧ ∀ q, A = some ⟨q, 0, none⟩ → q ≠ b ∧ q ≠ g := ⟨own_but h (fun q hq => (hA q hq).2) hp, hA⟩
theorem heap_other {W : World} {b g o : Nat} {u : Value} (hne : b ≠ g) : (W.setCell ⟨b, o, none⟩ u).heap[g]? = W.heap[g]? := by
  unfold World.setCell
  simp only [Array.getElem?_modify, if_neg hne]
theorem Box.other {W : World} {b g : Nat} {cs : Array Value} (h : Box W g cs) (o : Nat) (u : Value) (hne : b ≠ g) : Box (W.setCell ⟨b, o, none⟩ u) g cs := by
  refine ⟨by have := h.lt; simpa using this, fun j v hv => ?_, fun j => ?_⟩
  · rw [← h.eq j v hv]; exact World.cell?_of_block (heap_other hne)
  · rw [← h.fr j]; exact World.frozen?_of_block (heap_other hne)
theorem own_others {W : World} {B n c b size : Nat} {e : TypeId} {xs : List Value} {A : Option Addr} (h : Own W B e size A n c xs) (o : Nat) (u : Value) (hne : ∀ q, A = some ⟨q, 0, none⟩ → q ≠ b) : Own (W.setCell ⟨b, o, none⟩ u) B e size A n c xs :=
  own_other h u (fun g hg he => hne g hg he.symm)
theorem own2_ret {w W : World} {b1 b2 : Nat} {e1 e2 : TypeId} {s1 s2 n1 n2 c1 c2 : Nat} {A B : Option Addr} {xs ys : List Value} (hb : Bel w W) (h1 : Own W b1 e1 s1 A n1 c1 xs) (l1 : w.heap.size ≤ b1) (h2 : Own W b2 e2 s2 B n2 c2 ys) (l2 : w.heap.size ≤ b2) (ha : RowsApart A B) :
    ∃ x, W = ext w x ∧ Own (ext w x) w.heap.size e1 s1 A n1 c1 xs ∧ Own (ext w x) w.heap.size e2 s2 B n2 c2 ys ∧ RowsApart A B := by
  obtain ⟨x, rfl⟩ := ext_of hb
  exact ⟨x, rfl, h1.base_le l1, h2.base_le l2, ha⟩
section
variable {P : Program} {ops : Array Oper} {o : Oper} {a : Act} {K : Act → World → Prop} {Q : Exit → Act → World → Prop} {E : Prop}
/-- append of a row with an address onto an empty literal is as onto nothing -/
theorem run_append_lit {w : World} (t ty e : TypeId) (i : TypeInfo) (z : Value) (ht : P.underlying t = some (.slice e)) (hi : P.info? e = some i) (hz : i.zero = some z) (b ad : Addr) (m c : Nat) (news : List Value)
    (hl : news.length = m * i.size) (hnews : ∀ j v, news[j]? = some v → w.cell? (ad.add j) = some v) (hm : 0 < m) (h63 : (m : Int) ≤ 9223372036854775807) (hfit : Builtin.nextslicecap m 0 * i.bytes ≤ 281474976710656) :
    (Builtin.append_ #[t, t] ty #[.slice (some b) 0 0, .slice (some ad) m c]).run P w = .ok (.slice (some ⟨w.heap.size, 0, none⟩) m (grownCap w m 0 e)) (w.drew.alloc (.cells (news.toArray ++ Builtin.zeroCells z.cells (grownCap w m 0 e - m)) e)) := by
  have h := run_append_grow (P := P) w t ty e i z ht hi hz b 0 0 [] (by simp) (by simp) ad m c news hl hnews (by omega) (by omega) (by simpa using hfit)
  simpa using h
theorem stepg_append_fresh {t e : TypeId} {z : Value} {size bytes : Nat} (hT : SlT P t e z size bytes) {V W1 : World}
    {A1 : Option Addr} {m c' : Nat} {news : List Value} (hsrc : Sl W1 size A1 m c' news) (hb1 : Bel W1 V) (h1 : ∀ u ∈ news, u.oneCell' = true) (hnil : A1 = none → c' = 0) (hlen : m ≤ 1000000)
    (hw : Region.wanted o (yielded ops a.tmps) = true) (s x : Operand) (ho : o.op = .call { callee := .builtin .append, args := #[s, x], argTypes := #[t, t] }) {g : Nat}
    (hs : a.eval s = .slice (some ⟨g, 0, none⟩) 0 0) (hx : a.eval x = .slice A1 m c') (hL : NewLit V e g)
    (h : ∀ A' c'' y, Own (ext V y) g e size A' m c'' news → Lo A' g V.heap.size → K (a.put o.dst (.slice A' m c'')) (ext V y)) :
    if Region.wanted o (yielded ops a.tmps) = true then Oper.wp P o a V K Q else E := by
  obtain ⟨W, hV, hg⟩ := hL
  have hgv : g < V.heap.size := by have := hV.le; simp at this; omega
  rcases Nat.eq_zero_or_pos m with rfl | hm
  · have hn : news = [] := List.eq_nil_of_length_eq_zero (by simpa using hsrc.len)
    subst hn
    have hown : Own V g e size (some ⟨g, 0, none⟩) 0 0 [] := by
      subst hg
      have h0 : Own (W.alloc (.cells #[] e)) W.heap.size e size (some ⟨W.heap.size, 0, none⟩) 0 0 [] := World.ownsRow_lit W #[] 0 (Nat.le_refl _) (Nat.zero_le _) (by simp)
      exact h0.bel hV
    obtain ⟨i, hi, hz0, hz1, hz2⟩ := info_parts hT.info
    rw [if_pos hw]
    have hr : (Builtin.append_ #[t, t] o.type #[.slice (some ⟨g, 0, none⟩) 0 0, .slice A1 0 c']).run P V = .ok (.slice (some ⟨g, 0, none⟩) 0 0) V := by
      cases A1 with
      | none => obtain rfl := hnil rfl; simp [Builtin.append_, run_underlying hT.und, sizeOf, typeInfo, hi, Builtin.lenOf, Builtin.firstCells, storeCells]
      | some ad => simp [Builtin.append_, run_underlying hT.und, sizeOf, typeInfo, hi, Builtin.lenOf, Builtin.firstCells, storeCells, loadCells, loadCellsFrom]
    unfold Oper.wp execOp
    simp only [ho, resolve, invoke, builtin, Sem.run_bind, Sem.run_pure, Result.andThen_ok, List.map_toArray, List.map_cons, List.map_nil, hs, hx, hr]
    obtain ⟨y, hy⟩ := ext_of (Bel.refl V)
    have h' := h (some ⟨g, 0, none⟩) 0 y (by rw [← hy]; exact hown) (fun k hk => .inl (by injection hk with hk; injection hk with hk; omega))
    rw [← hy] at h'
    exact h'
  · obtain ⟨b, off, rfl, hbl⟩ := hsrc.at_ hm
    replace hsrc := hsrc.bel hb1
    obtain ⟨i, hi, hz0, hz1, hz2⟩ := info_parts hT.info
    rw [if_pos hw]
    have hnews : ∀ j v, news[j]? = some v → V.cell? ((⟨b, off, none⟩ : Addr).add j) = some v := by
      intro j u hu
      have hj := hsrc.cell hu
      unfold Addr.add
      split
      · rename_i h0; rw [h0] at hj; exact hj
      · exact hj
    have hby : m * bytes ≤ 140737488355328 := Nat.le_trans (Nat.mul_le_mul hlen hT.small) (by decide)
    have hr := run_append_lit (P := P) (w := V) t o.type e i z hT.und hi hz0 ⟨g, 0, none⟩ ⟨b, off, none⟩ m c' news (by rw [hz1]; exact hsrc.len) hnews hm (by omega) (growslice_fits hm (by rw [hz2]; exact hby))
    unfold Oper.wp execOp
    simp only [ho, resolve, invoke, builtin, Sem.run_bind, Sem.run_pure, Result.andThen_ok, List.map_toArray, List.map_cons, List.map_nil, hs, hx, hr]
    obtain ⟨y, hy⟩ := ext_of ((Bel.refl V).drew.alloc (.cells (news.toArray ++ Builtin.zeroCells z.cells (grownCap V m 0 e - m)) e))
    rw [hy]
    refine h _ _ _ ?_ (fun k hk => .inr (by injection hk with hk; injection hk with hk; omega))
    rw [← hy]
    have hge := grownCap_ge V m 0 e
    have hcm : grownCap V m 0 e ≤ maxLen := grownCap_le_maxLen V m 0 e (Nat.le_trans hlen (by unfold maxLen; decide))
    refine ⟨hsrc.len, .inr ⟨V.heap.size, _, _, rfl, by omega, heap_alloc_new V.drew _, hge, hcm, ?_, ?_⟩⟩
    · simp only [Array.size_append, List.size_toArray, size_zeroCells, hT.zs, hsrc.len, ← Nat.add_mul]
      congr 1
      omega
    · simp only [Array.toList_append]
      rw [← hsrc.len]
      exact List.take_left
theorem stepg_make {t e : TypeId} {z : Value} {size bytes : Nat} (hT : SlT P t e z size bytes) {V : World} {kl kc : IntKind} {k : Nat} (hlen : k ≤ 1000000)
    (hw : Region.wanted o (yielded ops a.tmps) = true) (l c : Operand) (ho : o.op = .makeSlice t l c) (hl : a.eval l = .int kl k) (hc : a.eval c = .int kc k)
    (h : ∀ cs : Array Value, cs.toList = (List.replicate k z.cells.toList).flatten → K (a.put o.dst (.slice (some ⟨V.heap.size, 0, none⟩) k k)) (V.alloc (.cells cs e))) :
    if Region.wanted o (yielded ops a.tmps) = true then Oper.wp P o a V K Q else E := by
  obtain ⟨i, hi, hz0, hz1, hz2⟩ := info_parts hT.info
  rw [if_pos hw]
  have hby : i.bytes * k ≤ 281474976710656 := by rw [hz2, Nat.mul_comm]; exact Nat.le_trans (Nat.mul_le_mul hlen hT.small) (by decide)
  have hby' : (i.bytes : Int) * (k : Int) ≤ 281474976710656 := by rw [← Int.natCast_mul]; omega
  have hr := run_make (P := P) V t e i z hT.und hi hz0 kl kc (k : Int) (k : Int) (by omega) (Int.le_refl _) hby' (by omega)
  unfold Oper.wp
  simp only [execOp, ho, hl, hc, Sem.run_bind, Sem.run_pure, hr, Result.andThen_ok, Int.toNat_natCast]
  refine h _ ?_
  rw [hz1, ← hT.zs]
  exact made_mul z.cells k (by rw [hT.zs]; exact hT.pos)
end
end Go
