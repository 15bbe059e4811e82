/- Memory, worlds with more behind them, arguments: lemmas. -/
import Derived.Below
import Derived.Lib.Hide
import Derived.WalkKit
import Derived.WalkSpells
import Derived.WalkLawsBesides
import Derived.Deep.Quiet
import Derived.Deep.QuietTactic
import Derived.StillTail
import Derived.BigQuiet
import Derived.ScopeJumps
import Derived.Laws.AppendOwn
import Derived.Laws.AppendOwnNone
import Derived.ArgAppend
import Derived.Deep.AppendLies
import Derived.Deep.RegionHeld3
import Derived.Deep.RegionLaw
import Derived.Deep.MidRow
import Derived.Laws.CopyRow
import Derived.Lib.SliceRun
import Derived.Lib.AppendZerosOnto
import Derived.Lib.AppendZeros
import Derived.Lib.Overlaps
import Derived.Deep.DeepAppendRoom
import Derived.Test.YtkcpnclgcmnlcaaRows
import Derived.ProofKit
import Derived.OpenShut
import Derived.ShutString
import Derived.ChangeOld
import Derived.Deep.Slices
import Derived.Deep.DeepCutAuto
import Derived.Deep.LoopGhost
set_option linter.unusedSimpArgs false
set_option linter.unusedVariables false
namespace Go
open RowKit
/-- All blocks of w are in w' as they were; the tape's place has not gone back. -/
structure Bel (w w' : World) : Prop where
  toBelow : Below w.heap.size w w'
  mono : w.drawn ≤ w'.drawn
theorem Bel.os {w w' : World} (h : Bel w w') : w'.os = w.os := h.toBelow.os
theorem Bel.tape {w w' : World} (h : Bel w w') : w'.tape = w.tape := h.toBelow.tape
theorem Bel.output {w w' : World} (h : Bel w w') : w'.output = w.output := h.toBelow.output
theorem Bel.size {w w' : World} (h : Bel w w') : w.heap.size ≤ w'.heap.size := h.toBelow.size
theorem Bel.block {w w' : World} (h : Bel w w') (k : Nat) (hk : k < w.heap.size) : w'.heap[k]? = w.heap[k]? := h.toBelow.block k hk
/-- What a call leaves behind: new blocks, and how often the tape was asked. -/
structure Beyond where
  objs : Array Obj
  drawn : Nat
instance : Inhabited Beyond := ⟨⟨#[], 0⟩⟩
def Beyond.and (x y : Beyond) : Beyond := ⟨x.objs ++ y.objs, x.drawn + y.drawn⟩
def Beyond.drewN (x : Beyond) (n : Nat) : Beyond := ⟨x.objs, x.drawn + n⟩
/-- w with more behind it. -/
def ext (w : World) (x : Beyond) : World := { w with heap := w.heap ++ x.objs, drawn := w.drawn + x.drawn }
/-- How many blocks there are then. -/
def Beyond.len (x : Beyond) : Nat := x.objs.size

theorem Bel.refl (w : World) : Bel w w := ⟨Below.refl _ _, Nat.le_refl _⟩
theorem Bel.trans {a b c : World} (h : Bel a b) (k : Bel b c) : Bel a c := ⟨Below.trans h.toBelow (Below.mono k.toBelow h.size), Nat.le_trans h.mono k.mono⟩
@[simp, go_sem] theorem size_ext (w : World) (x : Beyond) : (ext w x).heap.size = w.heap.size + x.len := by simp [ext, Beyond.len]
theorem len_and (x y : Beyond) : (x.and y).len = x.len + y.len := by simp [Beyond.and, Beyond.len]
@[simp, go_sem] theorem add_len_and (m : Nat) (x y : Beyond) : m + (x.and y).len = m + x.len + y.len := by rw [len_and, Nat.add_assoc]
@[simp, go_sem] theorem len_drewN (x : Beyond) (n : Nat) : (x.drewN n).len = x.len := rfl
theorem bel_ext (w : World) (x : Beyond) : Bel w (ext w x) :=
  ⟨⟨rfl, rfl, rfl, by simp, fun k hk => by simp only [ext]; rw [Array.getElem?_append_left hk]⟩, by simp [ext]⟩
theorem ext_of {w w' : World} (h : Bel w w') : ∃ x, w' = ext w x := by
  refine ⟨⟨(w'.heap.toList.drop w.heap.size).toArray, w'.drawn - w.drawn⟩, ?_⟩
  have hdr : w.drawn + (w'.drawn - w.drawn) = w'.drawn := by have := h.mono; omega
  have hh : w'.heap = w.heap ++ (w'.heap.toList.drop w.heap.size).toArray := by
    apply Array.ext_getElem?
    intro k
    rcases Nat.lt_or_ge k w.heap.size with hk | hk
    · rw [Array.getElem?_append_left hk, h.block k hk]
    · rw [Array.getElem?_append_right hk]
      simp only [List.getElem?_toArray, List.getElem?_drop]
      rw [show w.heap.size + (k - w.heap.size) = k from by omega]; simp
  cases w' with | mk hp tp dr o ou =>
  cases w with | mk hp2 tp2 dr2 o2 ou2 =>
  have h1 := h.os; have h2 := h.tape; have h3 := h.output
  simp only at h1 h2 h3 hh hdr
  subst h1 h2 h3
  simp only [ext]
  rw [← hh, hdr]
theorem bel_of {w w' : World} (h : ∃ x, w' = ext w x) : Bel w w' := by obtain ⟨x, rfl⟩ := h; exact bel_ext w x
theorem Bel.alloc {a w : World} (h : Bel a w) (o : Obj) : Bel a (w.alloc o) := ⟨Below.alloc h.toBelow h.size o, h.mono⟩
theorem Bel.drew {a w : World} (h : Bel a w) : Bel a w.drew := ⟨Below.drew h.toBelow, Nat.le_trans h.mono (Nat.le_succ _)⟩
theorem Bel.drewN {a w : World} (h : Bel a w) (n : Nat) : Bel a (w.drewN n) := ⟨⟨h.os, h.tape, h.output, h.size, h.block⟩, Nat.le_trans h.mono (Nat.le_add_right _ _)⟩
theorem Bel.ext {a w : World} (h : Bel a w) (x : Beyond) : Bel a (ext w x) := h.trans (bel_ext w x)
theorem Bel.setCell {a w : World} (h : Bel a w) {p : Addr} (hp : a.heap.size ≤ p.block) (u : Value) : Bel a (w.setCell p u) := ⟨Below.setCell h.toBelow hp u, h.mono⟩
theorem Bel.below {a w w' : World} {B : Nat} (h : Bel a w) (k : Below B w w') (hB : a.heap.size ≤ B) (hm : w.drawn ≤ w'.drawn) : Bel a w' := ⟨Below.trans h.toBelow (Below.mono k hB), Nat.le_trans h.mono hm⟩
theorem Bel.grown {a w w' : World} {row : Option Nat} (h : Bel a w) (hg : w.grownBy w' row) (hr : ∀ k, row = some k → a.heap.size ≤ k) (hm : w.drawn ≤ w'.drawn) : Bel a w' := ⟨Below.grown h.toBelow hg h.size hr, Nat.le_trans h.mono hm⟩
theorem Bel.le {a w : World} (h : Bel a w) : a.heap.size ≤ w.heap.size := h.size

@[go_sem] theorem lt_sum1 (n m k1 : Nat) (h : n < m) : n < m + k1 := by omega
@[go_sem] theorem le_sum1 (n m k1 : Nat) (h : n ≤ m) : n ≤ m + k1 := by omega
@[go_sem] theorem ll_sum1 (n m k1 : Nat) (h : n < m) : n ≤ m + k1 := by omega
@[go_sem] theorem ne_sum1 (n m k1 : Nat) (h : n < m) : (n = m + k1) = False := eq_false (by omega)
@[go_sem] theorem nf_sum1 (n m k1 : Nat) (h : n < m) : (m + k1 = n) = False := eq_false (by omega)
@[go_sem] theorem lt_sum2 (n m k1 k2 : Nat) (h : n < m) : n < m + k1 + k2 := by omega
@[go_sem] theorem le_sum2 (n m k1 k2 : Nat) (h : n ≤ m) : n ≤ m + k1 + k2 := by omega
@[go_sem] theorem ll_sum2 (n m k1 k2 : Nat) (h : n < m) : n ≤ m + k1 + k2 := by omega
@[go_sem] theorem ne_sum2 (n m k1 k2 : Nat) (h : n < m) : (n = m + k1 + k2) = False := eq_false (by omega)
@[go_sem] theorem nf_sum2 (n m k1 k2 : Nat) (h : n < m) : (m + k1 + k2 = n) = False := eq_false (by omega)
@[go_sem] theorem lt_sum3 (n m k1 k2 k3 : Nat) (h : n < m) : n < m + k1 + k2 + k3 := by omega
@[go_sem] theorem le_sum3 (n m k1 k2 k3 : Nat) (h : n ≤ m) : n ≤ m + k1 + k2 + k3 := by omega
@[go_sem] theorem ll_sum3 (n m k1 k2 k3 : Nat) (h : n < m) : n ≤ m + k1 + k2 + k3 := by omega
@[go_sem] theorem ne_sum3 (n m k1 k2 k3 : Nat) (h : n < m) : (n = m + k1 + k2 + k3) = False := eq_false (by omega)
@[go_sem] theorem nf_sum3 (n m k1 k2 k3 : Nat) (h : n < m) : (m + k1 + k2 + k3 = n) = False := eq_false (by omega)
@[go_sem] theorem lt_sum4 (n m k1 k2 k3 k4 : Nat) (h : n < m) : n < m + k1 + k2 + k3 + k4 := by omega
@[go_sem] theorem le_sum4 (n m k1 k2 k3 k4 : Nat) (h : n ≤ m) : n ≤ m + k1 + k2 + k3 + k4 := by omega
@[go_sem] theorem ll_sum4 (n m k1 k2 k3 k4 : Nat) (h : n < m) : n ≤ m + k1 + k2 + k3 + k4 := by omega
@[go_sem] theorem ne_sum4 (n m k1 k2 k3 k4 : Nat) (h : n < m) : (n = m + k1 + k2 + k3 + k4) = False := eq_false (by omega)
@[go_sem] theorem nf_sum4 (n m k1 k2 k3 k4 : Nat) (h : n < m) : (m + k1 + k2 + k3 + k4 = n) = False := eq_false (by omega)
@[go_sem] theorem lt_sum5 (n m k1 k2 k3 k4 k5 : Nat) (h : n < m) : n < m + k1 + k2 + k3 + k4 + k5 := by omega
@[go_sem] theorem le_sum5 (n m k1 k2 k3 k4 k5 : Nat) (h : n ≤ m) : n ≤ m + k1 + k2 + k3 + k4 + k5 := by omega
@[go_sem] theorem ll_sum5 (n m k1 k2 k3 k4 k5 : Nat) (h : n < m) : n ≤ m + k1 + k2 + k3 + k4 + k5 := by omega
@[go_sem] theorem ne_sum5 (n m k1 k2 k3 k4 k5 : Nat) (h : n < m) : (n = m + k1 + k2 + k3 + k4 + k5) = False := eq_false (by omega)
@[go_sem] theorem nf_sum5 (n m k1 k2 k3 k4 k5 : Nat) (h : n < m) : (m + k1 + k2 + k3 + k4 + k5 = n) = False := eq_false (by omega)
@[go_sem] theorem lt_sum6 (n m k1 k2 k3 k4 k5 k6 : Nat) (h : n < m) : n < m + k1 + k2 + k3 + k4 + k5 + k6 := by omega
@[go_sem] theorem le_sum6 (n m k1 k2 k3 k4 k5 k6 : Nat) (h : n ≤ m) : n ≤ m + k1 + k2 + k3 + k4 + k5 + k6 := by omega
@[go_sem] theorem ll_sum6 (n m k1 k2 k3 k4 k5 k6 : Nat) (h : n < m) : n ≤ m + k1 + k2 + k3 + k4 + k5 + k6 := by omega
@[go_sem] theorem ne_sum6 (n m k1 k2 k3 k4 k5 k6 : Nat) (h : n < m) : (n = m + k1 + k2 + k3 + k4 + k5 + k6) = False := eq_false (by omega)
@[go_sem] theorem nf_sum6 (n m k1 k2 k3 k4 k5 k6 : Nat) (h : n < m) : (m + k1 + k2 + k3 + k4 + k5 + k6 = n) = False := eq_false (by omega)
@[go_sem] theorem lt_sum7 (n m k1 k2 k3 k4 k5 k6 k7 : Nat) (h : n < m) : n < m + k1 + k2 + k3 + k4 + k5 + k6 + k7 := by omega
@[go_sem] theorem le_sum7 (n m k1 k2 k3 k4 k5 k6 k7 : Nat) (h : n ≤ m) : n ≤ m + k1 + k2 + k3 + k4 + k5 + k6 + k7 := by omega
@[go_sem] theorem ll_sum7 (n m k1 k2 k3 k4 k5 k6 k7 : Nat) (h : n < m) : n ≤ m + k1 + k2 + k3 + k4 + k5 + k6 + k7 := by omega
@[go_sem] theorem ne_sum7 (n m k1 k2 k3 k4 k5 k6 k7 : Nat) (h : n < m) : (n = m + k1 + k2 + k3 + k4 + k5 + k6 + k7) = False := eq_false (by omega)
@[go_sem] theorem nf_sum7 (n m k1 k2 k3 k4 k5 k6 k7 : Nat) (h : n < m) : (m + k1 + k2 + k3 + k4 + k5 + k6 + k7 = n) = False := eq_false (by omega)
@[go_sem] theorem lt_sum8 (n m k1 k2 k3 k4 k5 k6 k7 k8 : Nat) (h : n < m) : n < m + k1 + k2 + k3 + k4 + k5 + k6 + k7 + k8 := by omega
@[go_sem] theorem le_sum8 (n m k1 k2 k3 k4 k5 k6 k7 k8 : Nat) (h : n ≤ m) : n ≤ m + k1 + k2 + k3 + k4 + k5 + k6 + k7 + k8 := by omega
@[go_sem] theorem ll_sum8 (n m k1 k2 k3 k4 k5 k6 k7 k8 : Nat) (h : n < m) : n ≤ m + k1 + k2 + k3 + k4 + k5 + k6 + k7 + k8 := by omega
@[go_sem] theorem ne_sum8 (n m k1 k2 k3 k4 k5 k6 k7 k8 : Nat) (h : n < m) : (n = m + k1 + k2 + k3 + k4 + k5 + k6 + k7 + k8) = False := eq_false (by omega)
@[go_sem] theorem nf_sum8 (n m k1 k2 k3 k4 k5 k6 k7 k8 : Nat) (h : n < m) : (m + k1 + k2 + k3 + k4 + k5 + k6 + k7 + k8 = n) = False := eq_false (by omega)
@[go_sem] theorem lt_sum9 (n m k1 k2 k3 k4 k5 k6 k7 k8 k9 : Nat) (h : n < m) : n < m + k1 + k2 + k3 + k4 + k5 + k6 + k7 + k8 + k9 := by omega
@[go_sem] theorem le_sum9 (n m k1 k2 k3 k4 k5 k6 k7 k8 k9 : Nat) (h : n ≤ m) : n ≤ m + k1 + k2 + k3 + k4 + k5 + k6 + k7 + k8 + k9 := by omega
@[go_sem] theorem ll_sum9 (n m k1 k2 k3 k4 k5 k6 k7 k8 k9 : Nat) (h : n < m) : n ≤ m + k1 + k2 + k3 + k4 + k5 + k6 + k7 + k8 + k9 := by omega
@[go_sem] theorem ne_sum9 (n m k1 k2 k3 k4 k5 k6 k7 k8 k9 : Nat) (h : n < m) : (n = m + k1 + k2 + k3 + k4 + k5 + k6 + k7 + k8 + k9) = False := eq_false (by omega)
@[go_sem] theorem nf_sum9 (n m k1 k2 k3 k4 k5 k6 k7 k8 k9 : Nat) (h : n < m) : (m + k1 + k2 + k3 + k4 + k5 + k6 + k7 + k8 + k9 = n) = False := eq_false (by omega)
@[go_sem] theorem lt_sum10 (n m k1 k2 k3 k4 k5 k6 k7 k8 k9 k10 : Nat) (h : n < m) : n < m + k1 + k2 + k3 + k4 + k5 + k6 + k7 + k8 + k9 + k10 := by omega
@[go_sem] theorem le_sum10 (n m k1 k2 k3 k4 k5 k6 k7 k8 k9 k10 : Nat) (h : n ≤ m) : n ≤ m + k1 + k2 + k3 + k4 + k5 + k6 + k7 + k8 + k9 + k10 := by omega
@[go_sem] theorem ll_sum10 (n m k1 k2 k3 k4 k5 k6 k7 k8 k9 k10 : Nat) (h : n < m) : n ≤ m + k1 + k2 + k3 + k4 + k5 + k6 + k7 + k8 + k9 + k10 := by omega
@[go_sem] theorem ne_sum10 (n m k1 k2 k3 k4 k5 k6 k7 k8 k9 k10 : Nat) (h : n < m) : (n = m + k1 + k2 + k3 + k4 + k5 + k6 + k7 + k8 + k9 + k10) = False := eq_false (by omega)
@[go_sem] theorem nf_sum10 (n m k1 k2 k3 k4 k5 k6 k7 k8 k9 k10 : Nat) (h : n < m) : (m + k1 + k2 + k3 + k4 + k5 + k6 + k7 + k8 + k9 + k10 = n) = False := eq_false (by omega)
@[go_sem] theorem lt_sum11 (n m k1 k2 k3 k4 k5 k6 k7 k8 k9 k10 k11 : Nat) (h : n < m) : n < m + k1 + k2 + k3 + k4 + k5 + k6 + k7 + k8 + k9 + k10 + k11 := by omega
@[go_sem] theorem le_sum11 (n m k1 k2 k3 k4 k5 k6 k7 k8 k9 k10 k11 : Nat) (h : n ≤ m) : n ≤ m + k1 + k2 + k3 + k4 + k5 + k6 + k7 + k8 + k9 + k10 + k11 := by omega
@[go_sem] theorem ll_sum11 (n m k1 k2 k3 k4 k5 k6 k7 k8 k9 k10 k11 : Nat) (h : n < m) : n ≤ m + k1 + k2 + k3 + k4 + k5 + k6 + k7 + k8 + k9 + k10 + k11 := by omega
@[go_sem] theorem ne_sum11 (n m k1 k2 k3 k4 k5 k6 k7 k8 k9 k10 k11 : Nat) (h : n < m) : (n = m + k1 + k2 + k3 + k4 + k5 + k6 + k7 + k8 + k9 + k10 + k11) = False := eq_false (by omega)
@[go_sem] theorem nf_sum11 (n m k1 k2 k3 k4 k5 k6 k7 k8 k9 k10 k11 : Nat) (h : n < m) : (m + k1 + k2 + k3 + k4 + k5 + k6 + k7 + k8 + k9 + k10 + k11 = n) = False := eq_false (by omega)
@[go_sem] theorem lt_sum12 (n m k1 k2 k3 k4 k5 k6 k7 k8 k9 k10 k11 k12 : Nat) (h : n < m) : n < m + k1 + k2 + k3 + k4 + k5 + k6 + k7 + k8 + k9 + k10 + k11 + k12 := by omega
@[go_sem] theorem le_sum12 (n m k1 k2 k3 k4 k5 k6 k7 k8 k9 k10 k11 k12 : Nat) (h : n ≤ m) : n ≤ m + k1 + k2 + k3 + k4 + k5 + k6 + k7 + k8 + k9 + k10 + k11 + k12 := by omega
@[go_sem] theorem ll_sum12 (n m k1 k2 k3 k4 k5 k6 k7 k8 k9 k10 k11 k12 : Nat) (h : n < m) : n ≤ m + k1 + k2 + k3 + k4 + k5 + k6 + k7 + k8 + k9 + k10 + k11 + k12 := by omega
@[go_sem] theorem ne_sum12 (n m k1 k2 k3 k4 k5 k6 k7 k8 k9 k10 k11 k12 : Nat) (h : n < m) : (n = m + k1 + k2 + k3 + k4 + k5 + k6 + k7 + k8 + k9 + k10 + k11 + k12) = False := eq_false (by omega)
@[go_sem] theorem nf_sum12 (n m k1 k2 k3 k4 k5 k6 k7 k8 k9 k10 k11 k12 : Nat) (h : n < m) : (m + k1 + k2 + k3 + k4 + k5 + k6 + k7 + k8 + k9 + k10 + k11 + k12 = n) = False := eq_false (by omega)
@[go_sem] theorem lt_sum13 (n m k1 k2 k3 k4 k5 k6 k7 k8 k9 k10 k11 k12 k13 : Nat) (h : n < m) : n < m + k1 + k2 + k3 + k4 + k5 + k6 + k7 + k8 + k9 + k10 + k11 + k12 + k13 := by omega
@[go_sem] theorem le_sum13 (n m k1 k2 k3 k4 k5 k6 k7 k8 k9 k10 k11 k12 k13 : Nat) (h : n ≤ m) : n ≤ m + k1 + k2 + k3 + k4 + k5 + k6 + k7 + k8 + k9 + k10 + k11 + k12 + k13 := by omega
@[go_sem] theorem ll_sum13 (n m k1 k2 k3 k4 k5 k6 k7 k8 k9 k10 k11 k12 k13 : Nat) (h : n < m) : n ≤ m + k1 + k2 + k3 + k4 + k5 + k6 + k7 + k8 + k9 + k10 + k11 + k12 + k13 := by omega
@[go_sem] theorem ne_sum13 (n m k1 k2 k3 k4 k5 k6 k7 k8 k9 k10 k11 k12 k13 : Nat) (h : n < m) : (n = m + k1 + k2 + k3 + k4 + k5 + k6 + k7 + k8 + k9 + k10 + k11 + k12 + k13) = False := eq_false (by omega)
@[go_sem] theorem nf_sum13 (n m k1 k2 k3 k4 k5 k6 k7 k8 k9 k10 k11 k12 k13 : Nat) (h : n < m) : (m + k1 + k2 + k3 + k4 + k5 + k6 + k7 + k8 + k9 + k10 + k11 + k12 + k13 = n) = False := eq_false (by omega)
@[go_sem] theorem lt_sum14 (n m k1 k2 k3 k4 k5 k6 k7 k8 k9 k10 k11 k12 k13 k14 : Nat) (h : n < m) : n < m + k1 + k2 + k3 + k4 + k5 + k6 + k7 + k8 + k9 + k10 + k11 + k12 + k13 + k14 := by omega
@[go_sem] theorem le_sum14 (n m k1 k2 k3 k4 k5 k6 k7 k8 k9 k10 k11 k12 k13 k14 : Nat) (h : n ≤ m) : n ≤ m + k1 + k2 + k3 + k4 + k5 + k6 + k7 + k8 + k9 + k10 + k11 + k12 + k13 + k14 := by omega
@[go_sem] theorem ll_sum14 (n m k1 k2 k3 k4 k5 k6 k7 k8 k9 k10 k11 k12 k13 k14 : Nat) (h : n < m) : n ≤ m + k1 + k2 + k3 + k4 + k5 + k6 + k7 + k8 + k9 + k10 + k11 + k12 + k13 + k14 := by omega
@[go_sem] theorem ne_sum14 (n m k1 k2 k3 k4 k5 k6 k7 k8 k9 k10 k11 k12 k13 k14 : Nat) (h : n < m) : (n = m + k1 + k2 + k3 + k4 + k5 + k6 + k7 + k8 + k9 + k10 + k11 + k12 + k13 + k14) = False := eq_false (by omega)
@[go_sem] theorem nf_sum14 (n m k1 k2 k3 k4 k5 k6 k7 k8 k9 k10 k11 k12 k13 k14 : Nat) (h : n < m) : (m + k1 + k2 + k3 + k4 + k5 + k6 + k7 + k8 + k9 + k10 + k11 + k12 + k13 + k14 = n) = False := eq_false (by omega)
@[go_sem] theorem lt_sum15 (n m k1 k2 k3 k4 k5 k6 k7 k8 k9 k10 k11 k12 k13 k14 k15 : Nat) (h : n < m) : n < m + k1 + k2 + k3 + k4 + k5 + k6 + k7 + k8 + k9 + k10 + k11 + k12 + k13 + k14 + k15 := by omega
@[go_sem] theorem le_sum15 (n m k1 k2 k3 k4 k5 k6 k7 k8 k9 k10 k11 k12 k13 k14 k15 : Nat) (h : n ≤ m) : n ≤ m + k1 + k2 + k3 + k4 + k5 + k6 + k7 + k8 + k9 + k10 + k11 + k12 + k13 + k14 + k15 := by omega
@[go_sem] theorem ll_sum15 (n m k1 k2 k3 k4 k5 k6 k7 k8 k9 k10 k11 k12 k13 k14 k15 : Nat) (h : n < m) : n ≤ m + k1 + k2 + k3 + k4 + k5 + k6 + k7 + k8 + k9 + k10 + k11 + k12 + k13 + k14 + k15 := by omega
@[go_sem] theorem ne_sum15 (n m k1 k2 k3 k4 k5 k6 k7 k8 k9 k10 k11 k12 k13 k14 k15 : Nat) (h : n < m) : (n = m + k1 + k2 + k3 + k4 + k5 + k6 + k7 + k8 + k9 + k10 + k11 + k12 + k13 + k14 + k15) = False := eq_false (by omega)
@[go_sem] theorem nf_sum15 (n m k1 k2 k3 k4 k5 k6 k7 k8 k9 k10 k11 k12 k13 k14 k15 : Nat) (h : n < m) : (m + k1 + k2 + k3 + k4 + k5 + k6 + k7 + k8 + k9 + k10 + k11 + k12 + k13 + k14 + k15 = n) = False := eq_false (by omega)
@[go_sem] theorem lt_sum16 (n m k1 k2 k3 k4 k5 k6 k7 k8 k9 k10 k11 k12 k13 k14 k15 k16 : Nat) (h : n < m) : n < m + k1 + k2 + k3 + k4 + k5 + k6 + k7 + k8 + k9 + k10 + k11 + k12 + k13 + k14 + k15 + k16 := by omega
@[go_sem] theorem le_sum16 (n m k1 k2 k3 k4 k5 k6 k7 k8 k9 k10 k11 k12 k13 k14 k15 k16 : Nat) (h : n ≤ m) : n ≤ m + k1 + k2 + k3 + k4 + k5 + k6 + k7 + k8 + k9 + k10 + k11 + k12 + k13 + k14 + k15 + k16 := by omega
@[go_sem] theorem ll_sum16 (n m k1 k2 k3 k4 k5 k6 k7 k8 k9 k10 k11 k12 k13 k14 k15 k16 : Nat) (h : n < m) : n ≤ m + k1 + k2 + k3 + k4 + k5 + k6 + k7 + k8 + k9 + k10 + k11 + k12 + k13 + k14 + k15 + k16 := by omega
@[go_sem] theorem ne_sum16 (n m k1 k2 k3 k4 k5 k6 k7 k8 k9 k10 k11 k12 k13 k14 k15 k16 : Nat) (h : n < m) : (n = m + k1 + k2 + k3 + k4 + k5 + k6 + k7 + k8 + k9 + k10 + k11 + k12 + k13 + k14 + k15 + k16) = False := eq_false (by omega)
@[go_sem] theorem nf_sum16 (n m k1 k2 k3 k4 k5 k6 k7 k8 k9 k10 k11 k12 k13 k14 k15 k16 : Nat) (h : n < m) : (m + k1 + k2 + k3 + k4 + k5 + k6 + k7 + k8 + k9 + k10 + k11 + k12 + k13 + k14 + k15 + k16 = n) = False := eq_false (by omega)
@[go_sem] theorem lt_sum17 (n m k1 k2 k3 k4 k5 k6 k7 k8 k9 k10 k11 k12 k13 k14 k15 k16 k17 : Nat) (h : n < m) : n < m + k1 + k2 + k3 + k4 + k5 + k6 + k7 + k8 + k9 + k10 + k11 + k12 + k13 + k14 + k15 + k16 + k17 := by omega
@[go_sem] theorem le_sum17 (n m k1 k2 k3 k4 k5 k6 k7 k8 k9 k10 k11 k12 k13 k14 k15 k16 k17 : Nat) (h : n ≤ m) : n ≤ m + k1 + k2 + k3 + k4 + k5 + k6 + k7 + k8 + k9 + k10 + k11 + k12 + k13 + k14 + k15 + k16 + k17 := by omega
@[go_sem] theorem ll_sum17 (n m k1 k2 k3 k4 k5 k6 k7 k8 k9 k10 k11 k12 k13 k14 k15 k16 k17 : Nat) (h : n < m) : n ≤ m + k1 + k2 + k3 + k4 + k5 + k6 + k7 + k8 + k9 + k10 + k11 + k12 + k13 + k14 + k15 + k16 + k17 := by omega
@[go_sem] theorem ne_sum17 (n m k1 k2 k3 k4 k5 k6 k7 k8 k9 k10 k11 k12 k13 k14 k15 k16 k17 : Nat) (h : n < m) : (n = m + k1 + k2 + k3 + k4 + k5 + k6 + k7 + k8 + k9 + k10 + k11 + k12 + k13 + k14 + k15 + k16 + k17) = False := eq_false (by omega)
@[go_sem] theorem nf_sum17 (n m k1 k2 k3 k4 k5 k6 k7 k8 k9 k10 k11 k12 k13 k14 k15 k16 k17 : Nat) (h : n < m) : (m + k1 + k2 + k3 + k4 + k5 + k6 + k7 + k8 + k9 + k10 + k11 + k12 + k13 + k14 + k15 + k16 + k17 = n) = False := eq_false (by omega)
@[go_sem] theorem lt_sum18 (n m k1 k2 k3 k4 k5 k6 k7 k8 k9 k10 k11 k12 k13 k14 k15 k16 k17 k18 : Nat) (h : n < m) : n < m + k1 + k2 + k3 + k4 + k5 + k6 + k7 + k8 + k9 + k10 + k11 + k12 + k13 + k14 + k15 + k16 + k17 + k18 := by omega
@[go_sem] theorem le_sum18 (n m k1 k2 k3 k4 k5 k6 k7 k8 k9 k10 k11 k12 k13 k14 k15 k16 k17 k18 : Nat) (h : n ≤ m) : n ≤ m + k1 + k2 + k3 + k4 + k5 + k6 + k7 + k8 + k9 + k10 + k11 + k12 + k13 + k14 + k15 + k16 + k17 + k18 := by omega
@[go_sem] theorem ll_sum18 (n m k1 k2 k3 k4 k5 k6 k7 k8 k9 k10 k11 k12 k13 k14 k15 k16 k17 k18 : Nat) (h : n < m) : n ≤ m + k1 + k2 + k3 + k4 + k5 + k6 + k7 + k8 + k9 + k10 + k11 + k12 + k13 + k14 + k15 + k16 + k17 + k18 := by omega
@[go_sem] theorem ne_sum18 (n m k1 k2 k3 k4 k5 k6 k7 k8 k9 k10 k11 k12 k13 k14 k15 k16 k17 k18 : Nat) (h : n < m) : (n = m + k1 + k2 + k3 + k4 + k5 + k6 + k7 + k8 + k9 + k10 + k11 + k12 + k13 + k14 + k15 + k16 + k17 + k18) = False := eq_false (by omega)
@[go_sem] theorem nf_sum18 (n m k1 k2 k3 k4 k5 k6 k7 k8 k9 k10 k11 k12 k13 k14 k15 k16 k17 k18 : Nat) (h : n < m) : (m + k1 + k2 + k3 + k4 + k5 + k6 + k7 + k8 + k9 + k10 + k11 + k12 + k13 + k14 + k15 + k16 + k17 + k18 = n) = False := eq_false (by omega)
@[go_sem] theorem lt_sum19 (n m k1 k2 k3 k4 k5 k6 k7 k8 k9 k10 k11 k12 k13 k14 k15 k16 k17 k18 k19 : Nat) (h : n < m) : n < m + k1 + k2 + k3 + k4 + k5 + k6 + k7 + k8 + k9 + k10 + k11 + k12 + k13 + k14 + k15 + k16 + k17 + k18 + k19 := by omega
@[go_sem] theorem le_sum19 (n m k1 k2 k3 k4 k5 k6 k7 k8 k9 k10 k11 k12 k13 k14 k15 k16 k17 k18 k19 : Nat) (h : n ≤ m) : n ≤ m + k1 + k2 + k3 + k4 + k5 + k6 + k7 + k8 + k9 + k10 + k11 + k12 + k13 + k14 + k15 + k16 + k17 + k18 + k19 := by omega
@[go_sem] theorem ll_sum19 (n m k1 k2 k3 k4 k5 k6 k7 k8 k9 k10 k11 k12 k13 k14 k15 k16 k17 k18 k19 : Nat) (h : n < m) : n ≤ m + k1 + k2 + k3 + k4 + k5 + k6 + k7 + k8 + k9 + k10 + k11 + k12 + k13 + k14 + k15 + k16 + k17 + k18 + k19 := by omega
@[go_sem] theorem ne_sum19 (n m k1 k2 k3 k4 k5 k6 k7 k8 k9 k10 k11 k12 k13 k14 k15 k16 k17 k18 k19 : Nat) (h : n < m) : (n = m + k1 + k2 + k3 + k4 + k5 + k6 + k7 + k8 + k9 + k10 + k11 + k12 + k13 + k14 + k15 + k16 + k17 + k18 + k19) = False := eq_false (by omega)
@[go_sem] theorem nf_sum19 (n m k1 k2 k3 k4 k5 k6 k7 k8 k9 k10 k11 k12 k13 k14 k15 k16 k17 k18 k19 : Nat) (h : n < m) : (m + k1 + k2 + k3 + k4 + k5 + k6 + k7 + k8 + k9 + k10 + k11 + k12 + k13 + k14 + k15 + k16 + k17 + k18 + k19 = n) = False := eq_false (by omega)
@[go_sem] theorem lt_sum20 (n m k1 k2 k3 k4 k5 k6 k7 k8 k9 k10 k11 k12 k13 k14 k15 k16 k17 k18 k19 k20 : Nat) (h : n < m) : n < m + k1 + k2 + k3 + k4 + k5 + k6 + k7 + k8 + k9 + k10 + k11 + k12 + k13 + k14 + k15 + k16 + k17 + k18 + k19 + k20 := by omega
@[go_sem] theorem le_sum20 (n m k1 k2 k3 k4 k5 k6 k7 k8 k9 k10 k11 k12 k13 k14 k15 k16 k17 k18 k19 k20 : Nat) (h : n ≤ m) : n ≤ m + k1 + k2 + k3 + k4 + k5 + k6 + k7 + k8 + k9 + k10 + k11 + k12 + k13 + k14 + k15 + k16 + k17 + k18 + k19 + k20 := by omega
@[go_sem] theorem ll_sum20 (n m k1 k2 k3 k4 k5 k6 k7 k8 k9 k10 k11 k12 k13 k14 k15 k16 k17 k18 k19 k20 : Nat) (h : n < m) : n ≤ m + k1 + k2 + k3 + k4 + k5 + k6 + k7 + k8 + k9 + k10 + k11 + k12 + k13 + k14 + k15 + k16 + k17 + k18 + k19 + k20 := by omega
@[go_sem] theorem ne_sum20 (n m k1 k2 k3 k4 k5 k6 k7 k8 k9 k10 k11 k12 k13 k14 k15 k16 k17 k18 k19 k20 : Nat) (h : n < m) : (n = m + k1 + k2 + k3 + k4 + k5 + k6 + k7 + k8 + k9 + k10 + k11 + k12 + k13 + k14 + k15 + k16 + k17 + k18 + k19 + k20) = False := eq_false (by omega)
@[go_sem] theorem nf_sum20 (n m k1 k2 k3 k4 k5 k6 k7 k8 k9 k10 k11 k12 k13 k14 k15 k16 k17 k18 k19 k20 : Nat) (h : n < m) : (m + k1 + k2 + k3 + k4 + k5 + k6 + k7 + k8 + k9 + k10 + k11 + k12 + k13 + k14 + k15 + k16 + k17 + k18 + k19 + k20 = n) = False := eq_false (by omega)
@[go_sem] theorem cell_ext (w : World) (x : Beyond) (n i : Nat) (h : n < w.heap.size) : (ext w x).cell? ⟨n, i, none⟩ = w.cell? ⟨n, i, none⟩ := Below.cell (p := ⟨n, i, none⟩) (bel_ext w x).toBelow h
@[go_sem] theorem frozen_ext (w : World) (x : Beyond) (n i : Nat) (h : n < w.heap.size) : (ext w x).frozen? ⟨n, i, none⟩ = w.frozen? ⟨n, i, none⟩ := Below.frozen (p := ⟨n, i, none⟩) (bel_ext w x).toBelow h
theorem heap_ext (w : World) (x : Beyond) (n : Nat) (h : n < w.heap.size) : (ext w x).heap[n]? = w.heap[n]? := (bel_ext w x).block n h
@[go_sem] theorem shape_ext (w : World) (x : Beyond) (n : Nat) (h : n < w.heap.size) : (ext w x).shape? n = w.shape? n := by
  unfold World.shape?; rw [heap_ext w x n h]

@[go_sem] theorem drew_ext (w : World) (x : Beyond) : (ext w x).drew = ext w (x.drewN 1) := rfl
@[go_sem] theorem drewN_ext (w : World) (x : Beyond) (n : Nat) : (ext w x).drewN n = ext w (x.drewN n) := by simp [ext, Beyond.drewN, World.drewN, Nat.add_assoc]
@[go_sem] theorem ext_ext (w : World) (x y : Beyond) : ext (ext w x) y = ext w (x.and y) := by simp [ext, Beyond.and, Array.append_assoc, Nat.add_assoc]
@[go_sem] theorem ext_drewN (w : World) (x : Beyond) (n : Nat) : ext (w.drewN n) x = ext w (x.drewN n) := by
  have h : w.drawn + n + x.drawn = w.drawn + (x.drawn + n) := by omega
  show ({ w with heap := w.heap ++ x.objs, drawn := w.drawn + n + x.drawn } : World) = _
  rw [h]; rfl
@[go_sem] theorem ext_drew (w : World) (x : Beyond) : ext w.drew x = ext w (x.drewN 1) := by
  have h : w.drawn + 1 + x.drawn = w.drawn + (x.drawn + 1) := by omega
  show ({ w with heap := w.heap ++ x.objs, drawn := w.drawn + 1 + x.drawn } : World) = _
  rw [h]; rfl
theorem modify_left {α : Type} (xs ys : Array α) (n : Nat) (f : α → α) (h : n < xs.size) : (xs ++ ys).modify n f = xs.modify n f ++ ys := by
  apply Array.ext_getElem?
  intro k
  rw [Array.getElem?_modify]
  rcases Nat.lt_or_ge k xs.size with hk | hk
  · rw [Array.getElem?_append_left hk, Array.getElem?_append_left (by simpa using hk), Array.getElem?_modify]
  · rw [if_neg (by omega), Array.getElem?_append_right hk, Array.getElem?_append_right (by simpa using hk)]; simp
@[go_sem] theorem setCell_ext (w : World) (x : Beyond) (n i : Nat) (u : Value) (h : n < w.heap.size) : (ext w x).setCell ⟨n, i, none⟩ u = ext (w.setCell ⟨n, i, none⟩ u) x := by
  simp only [World.setCell, ext]; rw [modify_left _ _ _ _ h]

@[go_sem] theorem cell_and (w : World) (x y : Beyond) (n i : Nat) (h : n < w.heap.size + x.len) : (ext w (x.and y)).cell? ⟨n, i, none⟩ = (ext w x).cell? ⟨n, i, none⟩ := by
  rw [← ext_ext]; exact cell_ext _ _ _ _ (by rw [size_ext]; exact h)
@[go_sem] theorem frozen_and (w : World) (x y : Beyond) (n i : Nat) (h : n < w.heap.size + x.len) : (ext w (x.and y)).frozen? ⟨n, i, none⟩ = (ext w x).frozen? ⟨n, i, none⟩ := by
  rw [← ext_ext]; exact frozen_ext _ _ _ _ (by rw [size_ext]; exact h)
@[go_sem] theorem cell_drews (w : World) (x : Beyond) (n : Nat) (a : Addr) : (ext w (x.drewN n)).cell? a = (ext w x).cell? a := rfl
@[go_sem] theorem frozen_drews (w : World) (x : Beyond) (n : Nat) (a : Addr) : (ext w (x.drewN n)).frozen? a = (ext w x).frozen? a := rfl
theorem bel_and {a w : World} {x : Beyond} (h : Bel a (Go.ext w x)) (y : Beyond) : Bel a (Go.ext w (x.and y)) := by rw [← ext_ext]; exact h.ext y
theorem bel_drews {a w : World} {x : Beyond} (h : Bel a (Go.ext w x)) (n : Nat) : Bel a (Go.ext w (x.drewN n)) := by rw [← drewN_ext]; exact h.drewN n
theorem ext_of1 {w w' : World} {x : Beyond} (h : Bel (Go.ext w x) w') : ∃ y, w' = Go.ext w (x.and y) := by
  obtain ⟨y, rfl⟩ := Go.ext_of h; exact ⟨y, ext_ext w x y⟩
/-- A callee's contract in a quiet walk over the class of all 'ext w x'. -/
theorem Calls.ext_of {P : Program} {f : FuncId} {args : Array Value} {w : World} {x : Beyond} {v : Value}
    (h : Calls P f args (ext w x) fun e w' => e = .returned v ∧ ∃ y, w' = ext (ext w x) y) : Calls P f args (ext w x) fun e w'' => e = .returned v ∧ ∃ y, w'' = ext w y :=
  h.mono fun _ _ ⟨he, y, hy⟩ => ⟨he, x.and y, by rw [hy, ext_ext]⟩
/-- The same where the class is that of all worlds behind 'ext w z'. -/
theorem Calls.ext_of1 {P : Program} {f : FuncId} {args : Array Value} {w : World} {z x : Beyond} {v : Value}
    (h : Calls P f args (ext w (z.and x)) fun e w' => e = .returned v ∧ ∃ y, w' = ext (ext w (z.and x)) y) : Calls P f args (ext w (z.and x)) fun e w'' => e = .returned v ∧ ∃ y, w'' = ext w (z.and y) :=
  h.mono fun _ _ ⟨he, y, hy⟩ => ⟨he, Go.ext_of1 (by rw [hy]; exact (bel_and (Bel.refl _) x).ext y)⟩
/-- A contract's world, seen from an elder one. -/
theorem ret_ext {w0 w : World} (hb : Bel w0 w) {e : Ending} {w' : World} {v : Value} (h : e = .returned v ∧ ∃ y, w' = ext w y) : e = .returned v ∧ ∃ y, w' = ext w0 y :=
  let ⟨he, y, hy⟩ := h
  ⟨he, Go.ext_of (by rw [hy]; exact hb.ext y)⟩
attribute [irreducible] ext Beyond.len
end Go

namespace Go.Pel
/-- P1.1 -/
def ratioOk (n d : Int) : Bool := decide (1 ≤ d ∧ n ≠ -9223372036854775808 ∧ Nat.gcd d.toNat n.natAbs = 1)
def ratioChk (n d : Int) : Int := if ratioOk n d then 0 else 8
theorem ratioChk_low {n d : Int} (h : d < 1) : ratioChk n d = 8 := by unfold ratioChk ratioOk; rw [if_neg]; simp; omega
theorem ratioChk_min {d : Int} : ratioChk (-9223372036854775808) d = 8 := by unfold ratioChk ratioOk; rw [if_neg]; simp
theorem ratioChk_one {n d : Int} (h1 : 1 ≤ d) (h2 : n ≠ -9223372036854775808) (h3 : Nat.gcd d.toNat n.natAbs = 1) : ratioChk n d = 0 := by unfold ratioChk ratioOk; rw [if_pos]; simp; exact ⟨h1, h2, h3⟩
theorem ratioChk_more {n d : Int} (h3 : Nat.gcd d.toNat n.natAbs ≠ 1) : ratioChk n d = 8 := by unfold ratioChk ratioOk; rw [if_neg]; simp; intro _ _; exact h3
theorem gcd_one {n d : Int} (h : 1 ≤ d) (k : ¬ 1 < Nat.gcd d.toNat n.natAbs) : Nat.gcd d.toNat n.natAbs = 1 := by
  have : 0 < Nat.gcd d.toNat n.natAbs := Nat.gcd_pos_of_pos_left _ (by omega)
  omega
theorem ratioChk_cases (n d : Int) : ratioChk n d = 0 ∨ ratioChk n d = 8 := by unfold ratioChk; split <;> simp
theorem ratioChk_zero {n d : Int} (h : ratioChk n d = 0) : 1 ≤ d ∧ n ≠ -9223372036854775808 ∧ Nat.gcd d.toNat n.natAbs = 1 := by
  unfold ratioChk ratioOk at h; split at h
  · rename_i h'; simpa using h'
  · omega
theorem ratioChk_le (n d : Int) : 0 ≤ ratioChk n d ∧ ratioChk n d ≤ 8 := by rcases ratioChk_cases n d with h | h <;> rw [h] <;> omega
/-- P1.1, asked for -/
def ratioAsked (n d : Int) : Int := if ratioOk n d then (if (n.natAbs ≤ 1073741824 ∧ d ≤ 1024) then 0 else 2) else 8
theorem asked_bad {n d : Int} (h : ratioChk n d = 8) : ratioAsked n d = 8 := by
  unfold ratioAsked; unfold ratioChk at h; split at h
  · omega
  · rename_i h'; rw [if_neg h']
theorem asked_yes {n d : Int} (h : ratioChk n d = 0) (h1 : n.natAbs ≤ 1073741824) (h2 : d ≤ 1024) : ratioAsked n d = 0 := by
  unfold ratioAsked; unfold ratioChk at h; split at h
  · rename_i h'; rw [if_pos h', if_pos ⟨h1, h2⟩]
  · omega
theorem asked_no {n d : Int} (h : ratioChk n d = 0) (h1 : ¬ (n.natAbs ≤ 1073741824 ∧ d ≤ 1024)) : ratioAsked n d = 2 := by
  unfold ratioAsked; unfold ratioChk at h; split at h
  · rename_i h'; rw [if_pos h', if_neg h1]
  · omega
/-- P2.1 -/
def pointOk (i a b : Int) : Bool := decide (0 ≤ i ∧ i ≤ 65535 ∧ -1048576 ≤ a ∧ a ≤ 1048576 ∧ -1048576 ≤ b ∧ b ≤ 1048576)
def pointChk (i a b : Int) : Int := if pointOk i a b then 0 else 8
theorem pointChk_yes {i a b : Int} (h : 0 ≤ i ∧ i ≤ 65535 ∧ -1048576 ≤ a ∧ a ≤ 1048576 ∧ -1048576 ≤ b ∧ b ≤ 1048576) : pointChk i a b = 0 := by unfold pointChk pointOk; rw [if_pos]; simpa using h
theorem pointChk_no {i a b : Int} (h : ¬ (0 ≤ i ∧ i ≤ 65535 ∧ -1048576 ≤ a ∧ a ≤ 1048576 ∧ -1048576 ≤ b ∧ b ≤ 1048576)) : pointChk i a b = 8 := by unfold pointChk pointOk; rw [if_neg]; simpa using h
theorem pointChk_cases (i a b : Int) : pointChk i a b = 0 ∨ pointChk i a b = 8 := by unfold pointChk; split <;> simp
theorem pointChk_zero {i a b : Int} (h : pointChk i a b = 0) : 0 ≤ i ∧ i ≤ 65535 ∧ -1048576 ≤ a ∧ a ≤ 1048576 ∧ -1048576 ≤ b ∧ b ≤ 1048576 := by
  unfold pointChk pointOk at h; split at h
  · rename_i h'; simpa using h'
  · omega
def far (n : Int) : Bool := decide (n < -1048576 ∨ 1048576 < n)
theorem far_yes {n : Int} (h : n < -1048576 ∨ 1048576 < n) : far n = true := by unfold far; exact decide_eq_true h
theorem far_no {n : Int} (h : ¬ (n < -1048576 ∨ 1048576 < n)) : far n = false := by unfold far; exact decide_eq_false h
theorem far_eq (n : Int) : far n = (decide (n < -1048576) || decide (1048576 < n)) := by unfold far; rw [Bool.eq_iff_iff]; simp
theorem far_true {n : Int} (h : far n = true) : n < -1048576 ∨ 1048576 < n := by unfold far at h; simpa using h
theorem far_false {n : Int} (h : far n = false) : -1048576 ≤ n ∧ n ≤ 1048576 := by unfold far at h; simp at h; omega
theorem far_iff (n : Int) : (far n = true) ↔ (n < -1048576 ∨ 1048576 < n) := by unfold far; simp
theorem far_iff_false (n : Int) : (far n = false) ↔ (-1048576 ≤ n ∧ n ≤ 1048576) := by unfold far; simp
/-- a fraction out of a sign and sizes: numerator, denominator, error -/
def bld (neg : Bool) (hi lo dhi dlo : Nat) : Int × Int × Int :=
  if 0 < hi ∨ 9223372036854775807 < lo ∨ 0 < dhi ∨ 9223372036854775807 < dlo then (0, 0, 16) else (if neg then -(lo : Int) else lo, dlo, 0)
theorem bld_no {neg : Bool} {hi lo dhi dlo : Nat} (h : 0 < hi ∨ 9223372036854775807 < lo ∨ 0 < dhi ∨ 9223372036854775807 < dlo) : bld neg hi lo dhi dlo = (0, 0, 16) := by unfold bld; rw [if_pos h]
theorem bld_neg {hi lo dhi dlo : Nat} (h : ¬ (0 < hi ∨ 9223372036854775807 < lo ∨ 0 < dhi ∨ 9223372036854775807 < dlo)) : bld true hi lo dhi dlo = (-(lo : Int), (dlo : Int), 0) := by unfold bld; rw [if_neg h]; rfl
theorem bld_pos {hi lo dhi dlo : Nat} (h : ¬ (0 < hi ∨ 9223372036854775807 < lo ∨ 0 < dhi ∨ 9223372036854775807 < dlo)) : bld false hi lo dhi dlo = ((lo : Int), (dlo : Int), 0) := by unfold bld; rw [if_neg h]; rfl
theorem bld_zero (a b : Bool) (dhi dlo : Nat) : bld a 0 0 dhi dlo = bld b 0 0 dhi dlo := by unfold bld; simp
/-- P1.2 -/
def mk (n d : Int) : Int × Int × Int :=
  if d = 0 then (0, 0, 26) else bld (decide (n < 0) != decide (d < 0)) 0 (n.natAbs / Nat.gcd n.natAbs d.natAbs) 0 (d.natAbs / Nat.gcd n.natAbs d.natAbs)
theorem mk_zero (n : Int) : mk n 0 = (0, 0, 26) := by unfold mk; rw [if_pos rfl]
theorem mk_some {n d : Int} (h : d ≠ 0) : mk n d = bld (decide (n < 0) != decide (d < 0)) 0 (n.natAbs / Nat.gcd n.natAbs d.natAbs) 0 (d.natAbs / Nat.gcd n.natAbs d.natAbs) := by unfold mk; rw [if_neg h]
theorem mk_gcd_pos {n d : Int} (h : d ≠ 0) : 1 ≤ Nat.gcd n.natAbs d.natAbs := Nat.gcd_pos_of_pos_right _ (by omega)
theorem div_bound {a g B : Nat} (h : a < B) : a / g < B := Nat.lt_of_le_of_lt (Nat.div_le_self _ _) h
theorem mk_some' {n d : Int} (h : d ≠ 0) : mk n d = bld (!(decide (n < 0) == decide (d < 0))) 0 (n.natAbs / Nat.gcd n.natAbs d.natAbs) 0 (d.natAbs / Nat.gcd n.natAbs d.natAbs) := mk_some h
theorem mk_ref1 {n d : Int} (h : d ≠ 0) (k : (!(decide (n < 0) == decide (d < 0))) = true) : mk n d = bld (n != 0) 0 (n.natAbs / Nat.gcd n.natAbs d.natAbs) 0 (d.natAbs / Nat.gcd n.natAbs d.natAbs) := by
  rw [mk_some' h, k]
  by_cases c : n = 0
  · subst c; simp only [Int.natAbs_zero, Nat.zero_div]; exact bld_zero _ _ _ _
  · have : (n != 0) = true := by simpa using c
    rw [this]
theorem mk_ref2 {n d : Int} (h : d ≠ 0) (k : (!(decide (n < 0) == decide (d < 0))) = false) : mk n d = bld false 0 (n.natAbs / Nat.gcd n.natAbs d.natAbs) 0 (d.natAbs / Nat.gcd n.natAbs d.natAbs) := by
  rw [mk_some' h, k]
end Go.Pel

namespace Go
namespace RegC
section
variable {P : Program} {ops : Array Oper} {md : Region.Mode} {C : World → Prop}

/-- f operations of the head still to come, in whatever order; then L. -/
def anyC (P : Program) (md : Region.Mode) (ops : Array Oper) (C : World → Prop) (n : Nat) (L : Array Bool → Act → Prop) : Nat → Array Bool → Act → Prop
  | 0, li, a => L li a
  | f + 1, li, a => Region.ready md ops li ≠ [] ∧ ∀ i ∈ Region.ready md ops li, i < n ∧ qOp P ops C i (anyC P md ops C n L f (li.setIfInBounds i true)) a

theorem anyC_run {n g : Nat} {L : Array Bool → Act → Prop} {Q' : Exit → Act → World → Prop}
    (hL : ∀ li a w, C w → L li a → wpAny P md ops Q' g li a w) :
    ∀ (f : Nat) (li : Array Bool) (a : Act) (w : World), C w → anyC P md ops C n L f li a → wpAny P md ops Q' (f + g) li a w := by
  intro f
  induction f with
  | zero => intro li a w hw h; rw [Nat.zero_add]; exact hL _ _ _ hw h
  | succ f ih =>
    intro li a w hw h
    rw [show f + 1 + g = (f + g) + 1 from by omega]
    exact ⟨fun h0 => absurd h0 h.1, fun i hi => wpOp_of_qOp hw (fun a' w' hw' h' => ih _ a' w' hw' h') (h.2 i hi).2⟩

theorem anyC_first {n i : Nat} {oi : Oper} {v : Value} {L : Array Bool → Act → Prop} (hi : ops[i]? = some oi)
    (hsel : ∀ (j : Nat) (o : Oper) cs b, ops[j]? = some o → o.op ≠ .select cs b)
    (hs : Region.sinkB md ops n = true) (hc : Region.chainB md ops n = true) (hn : n < ops.size) (hin : i < n)
    (hdone : ∀ li a, L li a → ∀ j ∈ Region.ready md ops li, n ≤ j) :
    ∀ (f : Nat) (li : Array Bool) (a : Act), HeadInv md ops n li →
      (∀ j oj, ops[j]? = some oj → j ≠ i → li.getD j true = false → (∀ e ∈ oj.after, Region.binds md e = true → e.on ≠ i) → oi.apart ops oj = true) →
      i ∈ Region.ready md ops li → YieldsIn P ops C oi v a →
      anyC P md ops C n L f (li.setIfInBounds i true) (a.put oi.dst v) → anyC P md ops C n L (f + 1) li a := by
  intro f
  induction f with
  | zero =>
    intro li a inv _ hr hy H
    refine ⟨fun h => (by rw [h] at hr; cases hr), fun j hj => ?_⟩
    have hjn : j < n := Nat.lt_of_not_le fun h => tail_waits hs hc hn inv _ i rfl hin (mem_ready.1 hr).1 j h hj
    refine ⟨hjn, ?_⟩
    by_cases hji : j = i
    · subst hji; exact hy.qOp hi H
    · have := hdone _ _ H j (ready_mono hj hji); omega
  | succ f ih =>
    intro li a inv hfree hr hy H
    have hun := (mem_ready.1 hr).1
    refine ⟨fun h => (by rw [h] at hr; cases hr), fun j hj => ?_⟩
    have hjn : j < n := Nat.lt_of_not_le fun h => tail_waits hs hc hn inv _ i rfl hin hun j h hj
    refine ⟨hjn, ?_⟩
    by_cases hji : j = i
    · subst hji; exact hy.qOp hi H
    · have h1 := (H.2 j (ready_mono hj hji)).2
      obtain ⟨hjun, oj, hoj, hall⟩ := mem_ready.1 hj
      have hnot : ∀ e ∈ oj.after, Region.binds md e = true → e.on ≠ i := fun e he hb heq => by
        have h3 := hall e he hb
        rw [heq, getD_both hun] at h3
        cases h3
      have h2 := qOp_put hoj (hfree j oj hoj hji hjun hnot) (fun cs b => hsel i oi cs b hi) (fun cs b => hsel j oj cs b hoj) hy h1
      refine qOp_mono (fun a' h3 => ih (li.setIfInBounds j true) a' (inv.set hj hjn) (fun k ok hk hki hunk hno => ?_) (ready_mono hr (Ne.symm hji)) h3.1 ?_) h2
      · refine hfree k ok hk hki ?_ hno
        by_cases hjk : j = k
        · subst hjk; exact hjun
        · rw [getD_set_ne true hjk] at hunk; exact hunk
      · rw [Array.setIfInBounds_comm _ _ hji]
        exact h3.2

theorem anyC_lex {n g : Nat} {Lq : Act → Prop} (hsel : Region.noSelect ops = true) (hs : Region.sinkB md ops n = true) (hc : Region.chainB md ops n = true) (hn : n < ops.size) :
    ∀ (l : List Oper) (k : Nat) (li : Array Bool) (a : Act), (∀ j, j < l.length → l[j]? = ops[k + j]?) → k + l.length = n → HeadInv md ops n li →
    Region.lexHead md ops g l.length k li = true → wpQuiet P ops C Lq l a →
    anyC P md ops C n (fun li' a' => Region.seqB md ops g n li' = true ∧ Lq a') l.length li a
  | [], k, li, a, _, hk, _, hB, h => by
    obtain rfl : k = n := by simpa using hk
    exact ⟨by simpa [Region.lexHead] using hB, h⟩
  | o :: l, k, li, a, hl, hk, inv, hB, h => by
    have h0 : ops[k]? = some o := by simpa using (hl 0 (by simp)).symm
    simp only [List.length_cons, Region.lexHead, Bool.and_eq_true] at hB
    obtain ⟨⟨hr, hf⟩, hB'⟩ := hB
    have hkn : k < n := by simp only [List.length_cons] at hk; omega
    have hr' : k ∈ Region.ready md ops li := by simpa using hr
    have hst : qOp P ops C k (wpQuiet P ops C Lq l) a := by unfold qOp; simp only [h0]; exact h
    obtain ⟨v, hy, hK⟩ := yieldsIn_of_qOp h0 hst
    exact anyC_first h0 (Region.noSelect_spec hsel) hs hc hn hkn (fun li' a' hL => seqB_ready hL.1) l.length li a inv (Region.free_spec h0 hf) hr' hy
      (anyC_lex hsel hs hc hn l (k + 1) _ _ (fun j hj => by have := hl (j + 1) (by simp; omega); simpa [Nat.add_assoc, Nat.add_comm 1 j] using this)
        (by simp only [List.length_cons] at hk; omega) (inv.set hr' hkn) hB' hK)

/-- The head in any order, in the class; then the tail in order. -/
theorem wp_region_class_tail {id : Nat} {Q : Exit → Act → World → Prop} {a : Act} {w : World} {l : List Oper} (n : Nat) (hm : P.follows .mixedOrders = true) (hB : Region.lexTailB .any l.toArray n = true)
    (hC : C { w with drawn := w.drawn + 1 })
    (h : wpQuiet P l.toArray C (fun a' => ∀ w', C w' → wpList P l.toArray Q (l.drop n) a' w') (l.take n) a) : (Code.region id l.toArray true).wp P Q a w := by
  simp only [Region.lexTailB, Bool.and_eq_true, decide_eq_true_eq] at hB
  obtain ⟨⟨⟨⟨hsel, hn⟩, hs⟩, hc⟩, hlex⟩ := hB
  have hn' : n < l.length := by simpa using hn
  have htl : (l.take n).length = n := by simp; omega
  have hdl : (l.drop n).length = l.toArray.size - n := by simp
  have inv0 : HeadInv .any l.toArray n (Array.replicate l.toArray.size false) :=
    ⟨by simp, fun j oj _ hl => (by rw [getD_replicate_false] at hl; cases hl), fun t _ ht => getD_in (by simpa using ht) (getD_replicate_false _ _)⟩
  have H := anyC_lex (C := C) (md := .any) (g := l.toArray.size - n) hsel hs hc hn (l.take n) 0 _ a (fun j hj => by
    have hj' : j < n := by rw [htl] at hj; exact hj
    simp [hj']) (by simpa using htl) inv0 (by rw [htl]; exact hlex) h
  refine wp_region_any hm ?_
  have := anyC_run (Q' := Q) (g := l.toArray.size - n) (fun li a' w' hw' hL => by
    have := wpAny_of_seq (md := .any) (Q' := Q) (l.drop n) n li a' w' (fun j => by simp [List.getElem?_drop]) (by rw [hdl]; exact hL.1) (hL.2 w' hw')
    rwa [hdl] at this) _ _ _ _ hC H
  rw [htl, show n + (l.toArray.size - n) = l.toArray.size from by omega] at this
  exact this
end

/-- A guard that is not decided: both ways. -/
theorem wpQuiet_split {P : Program} {ops : Array Oper} {C : World → Prop} {Q : Act → Prop} {a : Act} {o : Oper} {rest : List Oper} {j : Nat} {want b : Bool}
    (_hg : o.guard = some (j, want)) (_hy : yielded ops a.tmps j = some b) (ht : b = true → wpQuiet P ops C Q (o :: rest) a) (hf : b = false → wpQuiet P ops C Q (o :: rest) a) : wpQuiet P ops C Q (o :: rest) a := by
  cases b
  · exact hf rfl
  · exact ht rfl

section
variable {P : Program}
/-- All in any order, over the worlds 'ext w x'. -/
theorem wp_region_ext0 {id : Nat} {Q : Exit → Act → World → Prop} {a : Act} {w : World} {l : List Oper} (hm : P.follows .mixedOrders = true) (hB : Region.lexB .any l.toArray = true)
    (h : wpQuiet P l.toArray (fun w' => ∃ x, w' = ext w x) (fun a' => ∀ w', (∃ x, w' = ext w x) → Q .normal a' w') l a) : (Code.region id l.toArray true).wp P Q a w :=
  wp_region_quiet (C := fun w' => ∃ x, w' = ext w x) hm hB (Go.ext_of ((Bel.refl w).drewN 1)) (by simpa using h)
theorem wp_region_ext1 {id : Nat} {Q : Exit → Act → World → Prop} {a : Act} {w : World} {z : Beyond} {l : List Oper} (hm : P.follows .mixedOrders = true) (hB : Region.lexB .any l.toArray = true)
    (h : wpQuiet P l.toArray (fun w' => ∃ x, w' = ext w (z.and x)) (fun a' => ∀ w', (∃ x, w' = ext w (z.and x)) → Q .normal a' w') l a) : (Code.region id l.toArray true).wp P Q a (ext w z) :=
  wp_region_quiet (C := fun w' => ∃ x, w' = ext w (z.and x)) hm hB (Go.ext_of1 ((Bel.refl (ext w z)).drewN 1)) (by simpa using h)
theorem wp_region_tail0 {id : Nat} {Q : Exit → Act → World → Prop} {a : Act} {w : World} {l : List Oper} (n : Nat) (hm : P.follows .mixedOrders = true) (hB : Region.lexTailB .any l.toArray n = true)
    (h : wpQuiet P l.toArray (fun w' => ∃ x, w' = ext w x) (fun a' => ∀ w', (∃ x, w' = ext w x) → wpList P l.toArray Q (l.drop n) a' w') (l.take n) a) : (Code.region id l.toArray true).wp P Q a w :=
  wp_region_class_tail (C := fun w' => ∃ x, w' = ext w x) n hm hB (Go.ext_of ((Bel.refl w).drewN 1)) h
theorem wp_region_tail1 {id : Nat} {Q : Exit → Act → World → Prop} {a : Act} {w : World} {z : Beyond} {l : List Oper} (n : Nat) (hm : P.follows .mixedOrders = true) (hB : Region.lexTailB .any l.toArray n = true)
    (h : wpQuiet P l.toArray (fun w' => ∃ x, w' = ext w (z.and x)) (fun a' => ∀ w', (∃ x, w' = ext w (z.and x)) → wpList P l.toArray Q (l.drop n) a' w') (l.take n) a) : (Code.region id l.toArray true).wp P Q a (ext w z) :=
  wp_region_class_tail (C := fun w' => ∃ x, w' = ext w (z.and x)) n hm hB (Go.ext_of1 ((Bel.refl (ext w z)).drewN 1)) h
end
end RegC
end Go
namespace Go
namespace RegC
/-- At most n passes from a label. -/
def passes (P : Program) (rest : Code) (l : Nat) (Q : Exit → Act → World → Prop) : Nat → Act → World → Prop
  | 0, _, _ => False
  | n + 1, a, w => rest.wp P (Exit.jump l (passes P rest l Q n) Q) a w
theorem jump_mono {l : Nat} {J J' : Act → World → Prop} {Q : Exit → Act → World → Prop} (h : ∀ a w, J a w → J' a w) : ∀ e a w, Exit.jump l J Q e a w → Exit.jump l J' Q e a w := by
  intro e a w hh
  cases e <;> first | exact hh | exact ⟨hh.1, h _ _ hh.2⟩
theorem wp_scope_passes {P : Program} {c rest : Code} {Q : Exit → Act → World → Prop} {a : Act} {w : World} (l n : Nat) (hf : findLabel c l = some rest)
    (first : c.wp P (Exit.jump l (passes P rest l Q n) Q) a w) : (Code.scope c).wp P Q a w := by
  classical
  have hfind : ∀ a w, (∃ m, passes P rest l Q m a w) → ∃ m, passes P rest l Q m a w ∧ ∀ k, passes P rest l Q k a w → m ≤ k := by
    intro a w ⟨m, hm⟩
    induction m using Nat.strongRecOn with
    | _ m ih =>
      by_cases hc : ∃ k, k < m ∧ passes P rest l Q k a w
      · obtain ⟨k, hk, hp⟩ := hc; exact ih k hk hp
      · exact ⟨m, hm, fun k hk => Nat.le_of_not_lt fun hlt => hc ⟨k, hlt, hk⟩⟩
  let μ : Act → World → Nat := fun a w => if h : ∃ m, passes P rest l Q m a w then (hfind a w h).choose else 0
  refine wp_scope_jumps l (fun a w => ∃ m, passes P rest l Q m a w) μ hf (Code.wp_mono (jump_mono fun a w h => ⟨n, h⟩) first) fun a w hJ => ?_
  have hs := (hfind a w hJ).choose_spec
  have hμ : μ a w = (hfind a w hJ).choose := by simp only [μ]; rw [dif_pos hJ]
  rw [hμ]
  generalize (hfind a w hJ).choose = m at hs ⊢
  obtain ⟨hm, _⟩ := hs
  cases m with
  | zero => exact hm.elim
  | succ k =>
    refine Code.wp_mono (jump_mono fun a' w' h => ⟨⟨k, h⟩, ?_⟩) hm
    have hJ' : ∃ m, passes P rest l Q m a' w' := ⟨k, h⟩
    have : μ a' w' ≤ k := by simp only [μ]; rw [dif_pos hJ']; exact (hfind a' w' hJ').choose_spec.2 k h
    omega
theorem passes_succ {P : Program} {rest : Code} {l n : Nat} {Q : Exit → Act → World → Prop} {a : Act} {w : World} : passes P rest l Q (n + 1) a w = rest.wp P (Exit.jump l (passes P rest l Q n) Q) a w := rfl
end RegC
end Go

namespace Go
theorem viewStore_drawn {p : Program} {w w' : World} {a : Addr} {u : TypeId} {k : Addr} {v : Value} {b : Bool} {l : List Addr} (h : w.viewStore p a u k v b = .ok (w', l)) : w'.drawn = w.drawn := by
  unfold World.viewStore at h
  simp only [bind, Except.bind, pure, Except.pure, throw, throwThe, MonadExceptOf.throw] at h
  repeat' (split at h <;> try (cases h; done))
  all_goals (try (cases h; rfl))
theorem farStore_drawn {p : Program} {w w' : World} {a : Addr} {v : Value} {b : Bool} {l : List Addr} (h : w.farStore p a v b = .ok (w', l)) : w'.drawn = w.drawn := by
  unfold World.farStore at h
  split at h
  · split at h
    · cases h; exact viewStore_drawn ‹_›
    · cases h
  · cases h
theorem ask_mono {α : Type} : ∀ (x : Ask α) (w : World), w.drawn ≤ (w.ask x).2.drawn
  | .done _, _ => Nat.le_refl _
  | .ask what range k, w => by
    unfold World.ask
    dsimp only
    split
    · exact ask_mono (k 0) w
    · exact Nat.le_trans (Nat.le_succ _) (ask_mono (k _) { w with drawn := w.drawn + 1 })
theorem sys_mono (w : World) (c : Sys) : w.drawn ≤ (w.sys c).2.drawn := by
  have h := ask_mono (Kernel.perform c w.os) w
  unfold World.sys
  split
  · exact Nat.le_refl _
  · rename_i heq; rw [heq] at h; exact h
theorem freeze_drawn (w : World) (a : Addr) (n : Nat) : (w.freeze a n).drawn = w.drawn := by unfold World.freeze; split <;> rfl
theorem run_mono {α : Type} {P : Program} : ∀ (s : Sem α) (w w' : World) (v : α), s.run P w = .ok v w' → w.drawn ≤ w'.drawn := by
  intro s
  induction s with
  | pure a => intro w w' v h; unfold Sem.run at h; cases h; exact Nat.le_refl _
  | load m a k ih =>
    intro w w' v h; unfold Sem.run at h
    split at h
    · exact ih _ _ _ _ h
    · split at h
      · exact ih _ _ _ _ h
      · cases h
  | store m a u k ih =>
    intro w w' v h
    cases u <;> simp only [Sem.run] at h
    all_goals first
      | (cases h; done)
      | (split at h
         · split at h
           · cases h
           · have := ih _ _ _ h; exact this
         · split at h
           · have := ih _ _ _ h
             rw [farStore_drawn ‹_›] at this; exact this
           · cases h)
  | new o k ih => intro w w' v h; unfold Sem.run at h; have := ih _ _ _ _ h; exact this
  | shape r k ih => intro w w' v h; unfold Sem.run at h; have := ih _ _ _ _ h; exact this
  | freeze a n k ih => intro w w' v h; unfold Sem.run at h; have := ih _ _ _ h; rwa [freeze_drawn] at this
  | frozen a k ih => intro w w' v h; unfold Sem.run at h; have := ih _ _ _ _ h; exact this
  | getObj r k ih =>
    intro w w' v h; unfold Sem.run at h
    split at h
    · cases h
    · exact ih _ _ _ _ h
    · cases h
  | setObj r o k ih =>
    intro w w' v h; unfold Sem.run at h
    split at h
    · cases h
    · have := ih _ _ _ h; exact this
    · cases h
  | choose q k ih =>
    intro w w' v h; unfold Sem.run at h
    split at h
    · exact ih _ _ _ _ h
    · exact Nat.le_trans (Nat.le_succ _) (ih _ _ _ _ h)
  | sys c k ih => intro w w' v h; unfold Sem.run at h; exact Nat.le_trans (sys_mono w c) (ih _ _ _ _ h)
  | program k ih => intro w w' v h; unfold Sem.run at h; have := ih _ _ _ _ h; exact this
  | mark m k ih => intro w w' v h; unfold Sem.run at h; exact ih _ _ _ h
  | halt h0 => intro w w' v h; unfold Sem.run at h; cases h
section
variable {P : Program}
/-- append onto a row of the call's own: what the kit's law says, and that the tape's place does not go back -/
theorem wp_append_m {w : World} {o : Oper} {a : Act} {K : Act → World → Prop} {Q : Exit → Act → World → Prop} (s x : Operand) (t : TypeId)
    (ho : o.op = .call { callee := .builtin .append, args := #[s, x], argTypes := #[t, t] })
    (base : Nat) (e : TypeId) (i : TypeInfo) (z : Value) (size bytes : Nat) (ht : P.underlying t = some (.slice e)) (hi : P.info? e = some i) (hz : i.zero = some z)
    (hsize : i.size = size) (hby : i.bytes = bytes) (hzs : z.cells.size = size) (hsz : 0 < size)
    (v : Value) (n : Nat) (xs : List Value) (hs : a.eval s = v) (hown : w.ownsRow base e size v n xs)
    (ad : Addr) (m c : Nat) (news : List Value) (hx : a.eval x = .slice (some ad) m c) (hl : news.length = m * size) (hnews : ∀ j u, news[j]? = some u → w.cell? (ad.add j) = some u) (h1 : ∀ u ∈ news, u.oneCell' = true)
    (h63 : n + m ≤ maxLen) (hbytes : (n + m) * bytes ≤ 140737488355328) (hbase : base ≤ w.heap.size)
    (h : ∀ v' w', w'.ownsRow base e size v' (n + m) (xs ++ news) → w.grownBy w' v.ownBlock → w.drawn ≤ w'.drawn → K (a.put o.dst v') w') : o.wp P a w K Q := by
  obtain ⟨v', w', hr, h2, h3, h4⟩ := run_append_own (P := P) w base t o.type e i z size bytes ht hi hz hsize hby hzs hsz v n xs hown ad m c news hl hnews h1 h63 hbytes hbase
  unfold Oper.wp execOp
  simp only [ho, resolve, invoke, builtin, Sem.run_bind, Sem.run_pure, Result.andThen_ok, List.map_toArray, List.map_cons, List.map_nil, hs, hx, hr]
  exact h v' w' h2 h3 (run_mono _ _ _ _ hr)
theorem wpList_append_m {w : World} {ops : Array Oper} {rest : List Oper} {o : Oper} {a : Act} {Q : Exit → Act → World → Prop} (hgd : o.guard = none) (s x : Operand) (t : TypeId)
    (ho : o.op = .call { callee := .builtin .append, args := #[s, x], argTypes := #[t, t] })
    (base : Nat) (e : TypeId) (i : TypeInfo) (z : Value) (size bytes : Nat) (ht : P.underlying t = some (.slice e)) (hi : P.info? e = some i) (hz : i.zero = some z)
    (hsize : i.size = size) (hby : i.bytes = bytes) (hzs : z.cells.size = size) (hsz : 0 < size)
    (v : Value) (n : Nat) (xs : List Value) (hs : a.eval s = v) (hown : w.ownsRow base e size v n xs)
    (ad : Addr) (m c : Nat) (news : List Value) (hx : a.eval x = .slice (some ad) m c) (hl : news.length = m * size) (hnews : ∀ j u, news[j]? = some u → w.cell? (ad.add j) = some u) (h1 : ∀ u ∈ news, u.oneCell' = true)
    (h63 : n + m ≤ maxLen) (hbytes : (n + m) * bytes ≤ 140737488355328) (hbase : base ≤ w.heap.size)
    (h : ∀ v' w', w'.ownsRow base e size v' (n + m) (xs ++ news) → w.grownBy w' v.ownBlock → w.drawn ≤ w'.drawn → wpList P ops Q rest (a.put o.dst v') w') : wpList P ops Q (o :: rest) a w :=
  wpList_plain hgd fun _ hK => wp_append_m s x t ho base e i z size bytes ht hi hz hsize hby hzs hsz v n xs hs hown ad m c news hx hl hnews h1 h63 hbytes hbase fun v' w' h2 h3 h4 => hK _ _ (h v' w' h2 h3 h4)
end
end Go

namespace Go
open RowKit
/-- '.slice A n c' reads as the cells xs (size cells an element), in blocks of w. -/
def Sl (w : World) (size : Nat) (A : Option Addr) (n c : Nat) (xs : List Value) : Prop :=
  n ≤ c ∧ xs.length = n * size ∧ (0 < n → ∃ b o, A = some ⟨b, o, none⟩ ∧ b < w.heap.size ∧ ∀ j u, xs[j]? = some u → w.cell? ⟨b, o + j, none⟩ = some u)
/-- .. of the call's own, from block 'base' on: it may be written and appended to. -/
def Own (w : World) (base : Nat) (e : TypeId) (size : Nat) (A : Option Addr) (n c : Nat) (xs : List Value) : Prop := w.ownsRow base e size (.slice A n c) n xs
/-- What the program's table says of a slice type. -/
structure SlT (P : Program) (t e : TypeId) (z : Value) (size bytes : Nat) : Prop where
  und : P.underlying t = some (.slice e)
  info : (P.info? e).map (fun i => (i.zero, i.size, i.bytes)) = some (some z, size, bytes)
  zs : z.cells.size = size
  pos : 0 < size
  small : bytes ≤ 1024

section
variable {w : World} {size n c : Nat} {A : Option Addr} {xs : List Value}
theorem Sl.len (h : Sl w size A n c xs) : xs.length = n * size := h.2.1
theorem Sl.cap (h : Sl w size A n c xs) : n ≤ c := h.1
theorem Sl.ext (h : Sl w size A n c xs) (x : Beyond) : Sl (ext w x) size A n c xs :=
  ⟨h.1, h.2.1, fun hn => by
    obtain ⟨b, o, rfl, hb, hc⟩ := h.2.2 hn
    exact ⟨b, o, rfl, by rw [size_ext]; omega, fun j u hu => by rw [cell_ext w x b _ hb]; exact hc j u hu⟩⟩
theorem Sl.bel {w' : World} (h : Sl w size A n c xs) (hb : Bel w w') : Sl w' size A n c xs := by
  obtain ⟨x, rfl⟩ := ext_of hb; exact h.ext x
theorem Sl.nil_ (w : World) (size c : Nat) (A : Option Addr) : Sl w size A 0 c [] := ⟨Nat.zero_le _, by simp, fun h => absurd h (by omega)⟩
theorem Sl.take (h : Sl w size A n c xs) {k : Nat} (hk : k ≤ n) : Sl w size A k c (xs.take (k * size)) :=
  ⟨Nat.le_trans hk h.1, by rw [List.length_take, h.2.1]; exact Nat.min_eq_left (Nat.mul_le_mul_right _ hk), fun hn => by
    obtain ⟨b, o, rfl, hb, hc⟩ := h.2.2 (by omega)
    refine ⟨b, o, rfl, hb, fun j u hu => hc j u ?_⟩
    rw [List.getElem?_take] at hu
    split at hu
    · exact hu
    · cases hu⟩
/-- One cell. -/
theorem Sl.cell {b o : Nat} (h : Sl w size (some ⟨b, o, none⟩) n c xs) {j : Nat} {u : Value} (hu : xs[j]? = some u) : w.cell? ⟨b, o + j, none⟩ = some u := by
  have hl : j < xs.length := (List.getElem?_eq_some_iff.1 hu).1
  have hn : 0 < n := Nat.pos_of_ne_zero fun h0 => by rw [h.2.1, h0, Nat.zero_mul] at hl; omega
  obtain ⟨b', o', hA, _, hc⟩ := h.2.2 hn
  injection hA with hA
  injection hA with h1 h2
  subst h1 h2
  exact hc j u hu
theorem Sl.at_ (h : Sl w size A n c xs) (hn : 0 < n) : ∃ b o, A = some ⟨b, o, none⟩ ∧ b < w.heap.size := by
  obtain ⟨b, o, hA, hb, _⟩ := h.2.2 hn; exact ⟨b, o, hA, hb⟩
theorem Own.nil_ (w : World) (base : Nat) (e : TypeId) (size : Nat) : Own w base e size none 0 0 [] := World.ownsRow_nil w base e size
theorem Own.len {base : Nat} {e : TypeId} (h : Own w base e size A n c xs) : xs.length = n * size := h.1
theorem Own.cap {base : Nat} {e : TypeId} (h : Own w base e size A n c xs) : n ≤ c := by
  rcases h.2 with ⟨h1, h2⟩ | ⟨g, cap, cur, hv, _, _, hnc, _⟩
  · omega
  · injection hv with _ _ h3; omega
theorem Own.maxLen_ {base : Nat} {e : TypeId} (h : Own w base e size A n c xs) : n ≤ maxLen := by
  rcases h.2 with ⟨h1, h2⟩ | ⟨g, cap, cur, hv, _, _, hnc, hm, _⟩
  · rw [h2]; exact Nat.zero_le _
  · exact Nat.le_trans hnc hm
theorem Own.at_ {base : Nat} {e : TypeId} (h : Own w base e size A n c xs) (hn : 0 < n) : ∃ g, A = some ⟨g, 0, none⟩ ∧ base ≤ g ∧ g < w.heap.size := by
  rcases h.2 with ⟨h1, h2⟩ | ⟨g, cap, cur, hv, hg, hh, _⟩
  · omega
  · injection hv with h1
    refine ⟨g, h1, hg, Nat.lt_of_not_le fun hle => ?_⟩
    rw [Array.getElem?_eq_none hle] at hh; cases hh
theorem Own.block {base : Nat} {e : TypeId} (h : Own w base e size A n c xs) : (Value.slice A n c).ownBlock = none ∨ ∃ g, (Value.slice A n c).ownBlock = some g ∧ base ≤ g ∧ g < w.heap.size := by
  cases hA : (Value.slice A n c).ownBlock with
  | none => exact .inl rfl
  | some g => exact .inr ⟨g, rfl, World.ownsRow.lt h g hA⟩
theorem Own.sl {base : Nat} {e : TypeId} (h : Own w base e size A n c xs) : Sl w size A n c xs :=
  ⟨h.cap, h.len, fun hn => by
    obtain ⟨g, rfl, _, hlt⟩ := h.at_ hn
    refine ⟨g, 0, rfl, hlt, fun j u hu => ?_⟩
    have hj : j < n * size := by rw [← h.len]; exact (List.getElem?_eq_some_iff.1 hu).1
    rw [Nat.zero_add, World.ownsRow.cellAt h j hj, hu]⟩
theorem Own.bel {base : Nat} {e : TypeId} {w' : World} (h : Own w base e size A n c xs) (hb : Bel w w') : Own w' base e size A n c xs := by
  refine World.ownsRow.kept (row := none) h ⟨hb.os, hb.tape, hb.output, hb.size, fun k hk _ => hb.block k hk⟩ ?_
  rcases h.block with h0 | ⟨g, h0, _⟩
  · exact .inl h0
  · exact .inr (by rw [h0]; exact fun e => by cases e)
theorem Own.ext {base : Nat} {e : TypeId} (h : Own w base e size A n c xs) (x : Beyond) : Own (ext w x) base e size A n c xs := h.bel (bel_ext w x)
theorem Own.alloc {base : Nat} {e : TypeId} (h : Own w base e size A n c xs) (ob : Obj) : Own (w.alloc ob) base e size A n c xs := h.bel ((Bel.refl w).alloc ob)
theorem Own.base_le {base base' : Nat} {e : TypeId} (h : Own w base e size A n c xs) (hb : base' ≤ base) : Own w base' e size A n c xs := by
  obtain ⟨h1, h2⟩ := h
  refine ⟨h1, ?_⟩
  rcases h2 with h2 | ⟨g, cap, cur, hv, hg, r⟩
  · exact .inl h2
  · exact .inr ⟨g, cap, cur, hv, Nat.le_trans hb hg, r⟩
end

section
variable {P : Program} {ops : Array Oper} {rest : List Oper} {o : Oper} {a : Act} {Q : Exit → Act → World → Prop}
/-- append of the elements of another slice (with an address) onto a slice of the call's own. -/
theorem append_ext {t e : TypeId} {z : Value} {size bytes : Nat} (hT : SlT P t e z size bytes) {wB W0 W1 W : World} (hb : Bel wB W)
    {A : Option Addr} {n c : Nat} {xs : List Value} (hown : Own W0 wB.heap.size e size A n c xs) (hb0 : Bel W0 W)
    {b off m c' : Nat} {news : List Value} (hsrc : Sl W1 size (some ⟨b, off, none⟩) m c' news) (hb1 : Bel W1 W) (h1 : ∀ u ∈ news, u.oneCell' = true) (hlen : n + m ≤ 4294967296)
    (hgd : o.guard = none) (s x : Operand) (ho : o.op = .call { callee := .builtin .append, args := #[s, x], argTypes := #[t, t] })
    (hs : a.eval s = .slice A n c) (hx : a.eval x = .slice (some ⟨b, off, none⟩) m c')
    (h : ∀ A' c'' y, Own (ext wB y) wB.heap.size e size A' (n + m) c'' (xs ++ news) → wpList P ops Q rest (a.put o.dst (.slice A' (n + m) c'')) (ext wB y)) : wpList P ops Q (o :: rest) a W := by
  obtain ⟨i, hi, hz0, hz1, hz2⟩ := info_parts hT.info
  replace hown := hown.bel hb0
  replace hsrc := hsrc.bel hb1
  have hby : (n + m) * bytes ≤ 140737488355328 := Nat.le_trans (Nat.mul_le_mul hlen hT.small) (by decide)
  refine wpList_append_m hgd s x t ho wB.heap.size e i z size bytes hT.und hi hz0 hz1 hz2 hT.zs hT.pos _ n xs hs hown ⟨b, off, none⟩ m c' news hx hsrc.len
    (fun j u hu => ?_) h1 (Nat.le_trans hlen (by unfold maxLen; decide)) hby hb.size fun v' w' hown' hg hnil => ?_
  · have hj := hsrc.cell hu
    unfold Addr.add
    split
    · rename_i h0; rw [h0] at hj; exact hj
    · exact hj
  · have hbel : Bel wB w' := hb.grown hg (fun k hk => by
      rcases hown.block with h0 | ⟨g, h0, hge, _⟩
      · rw [h0] at hk; cases hk
      · rw [h0] at hk; injection hk with hk; omega) hnil
    obtain ⟨y, rfl⟩ := ext_of hbel
    have hv : ∃ A' c'', v' = .slice A' (n + m) c'' := by
      rcases hown'.2 with ⟨hv, hn⟩ | ⟨g, cap, cur, hv, _⟩
      · exact ⟨none, 0, by rw [hv, hn]⟩
      · exact ⟨_, _, hv⟩
    obtain ⟨A', c'', rfl⟩ := hv
    exact h A' c'' y hown'
/-- make([]T, n). -/
theorem make_ext {t e : TypeId} {z : Value} {size bytes : Nat} (hT : SlT P t e z size bytes) {wB W : World} (hb : Bel wB W)
    {kl kc : IntKind} {n : Nat} (hlen : n ≤ 4294967296)
    (hgd : o.guard = none) (l c : Operand) (ho : o.op = .makeSlice t l c) (hl : a.eval l = .int kl n) (hc : a.eval c = .int kc n)
    (h : ∀ g y, wB.heap.size ≤ g → Own (ext wB y) wB.heap.size e size (some ⟨g, 0, none⟩) n n (madeCells z.cells (n * size)).toList → wpList P ops Q rest (a.put o.dst (.slice (some ⟨g, 0, none⟩) n n)) (ext wB y)) : wpList P ops Q (o :: rest) a W := by
  obtain ⟨i, hi, hz0, hz1, hz2⟩ := info_parts hT.info
  have hby : i.bytes * n ≤ 281474976710656 := by rw [hz2, Nat.mul_comm]; exact Nat.le_trans (Nat.mul_le_mul hlen hT.small) (by decide)
  obtain ⟨w', hrun, hown, hg⟩ := run_make_full (P := P) W wB.heap.size t e i z size hT.und hi hz0 hz1 kl kc n hby (Nat.le_trans hlen (by unfold maxLen; decide)) hb.size
  have hbel : Bel wB w' := hb.grown hg (fun k hk => by cases hk) (run_mono _ _ _ _ hrun)
  refine wpList_plain hgd fun K hK => ?_
  unfold Oper.wp
  simp [execOp, ho, hl, hc, hrun, Result.andThen]
  obtain ⟨y, rfl⟩ := ext_of hbel
  exact hK _ _ (h _ y hb.size hown)
end
end Go
namespace Go
open RowKit
/-- A store into a slice of the call's own. -/
theorem own_store {wB : World} {y : Beyond} {e : TypeId} {size g n c : Nat} {xs : List Value} (h : Own (ext wB y) wB.heap.size e size (some ⟨g, 0, none⟩) n c xs) (hg : wB.heap.size ≤ g) (j : Nat) (u : Value) :
    ∃ y', (ext wB y).setCell ⟨g, j, none⟩ u = ext wB y' ∧ Own (ext wB y') wB.heap.size e size (some ⟨g, 0, none⟩) n c (xs.set j u) := by
  have h1 := (World.ownsRow.stored h j u).1
  obtain ⟨y', hy⟩ := ext_of ((bel_ext wB y).setCell (p := ⟨g, j, none⟩) hg u)
  exact ⟨y', hy, by rw [← hy]; exact h1⟩
theorem own_cell {w : World} {base : Nat} {e : TypeId} {size g n c : Nat} {xs : List Value} (h : Own w base e size (some ⟨g, 0, none⟩) n c xs) {j : Nat} {u : Value} (hu : xs[j]? = some u) : w.cell? ⟨g, j, none⟩ = some u := by
  rw [World.ownsRow.cellAt h j (by rw [← h.len]; exact (List.getElem?_eq_some_iff.1 hu).1), hu]
theorem own_frozen {w : World} {base : Nat} {e : TypeId} {size g n c : Nat} {xs : List Value} (h : Own w base e size (some ⟨g, 0, none⟩) n c xs) (j : Nat) : w.frozen? ⟨g, j, none⟩ = false := World.ownsRow.frozenAt h j
/-- bytes as cells -/
def vb (l : List UInt8) : List Value := l.map fun x => .int .u8 (x.toNat : Int)
theorem vb_length (l : List UInt8) : (vb l).length = l.length := by simp [vb]
theorem vb_append (l m : List UInt8) : vb (l ++ m) = vb l ++ vb m := by simp [vb]
theorem vb_cons (x : UInt8) (l : List UInt8) : vb (x :: l) = .int .u8 (x.toNat : Int) :: vb l := by simp [vb]
theorem vb_get (l : List UInt8) (j : Nat) : (vb l)[j]? = (l[j]?).map fun x => Value.int .u8 (x.toNat : Int) := by simp [vb]
theorem vb_one (l : List UInt8) : ∀ u ∈ vb l, u.oneCell' = true := by
  intro u hu
  simp only [vb, List.mem_map] at hu
  obtain ⟨x, _, rfl⟩ := hu
  rfl
end Go

namespace Go
open RowKit
theorem own_lit (wB : World) (x : Beyond) (cs : Array Value) (e : TypeId) (size n g : Nat) (hg : g = wB.heap.size) (hn : n ≤ maxLen) (hs : cs.size = n * size) :
    ∃ y, ext (wB.alloc (.cells cs e)) x = ext wB y ∧ Own (ext wB y) wB.heap.size e size (some ⟨g, 0, none⟩) n n cs.toList := by
  subst hg
  obtain ⟨y, hy⟩ := ext_of (((Bel.refl wB).alloc (.cells cs e)).ext x)
  refine ⟨y, hy, ?_⟩
  rw [← hy]
  exact Own.ext (World.ownsRow_lit wB cs n (Nat.le_refl _) hn hs) x
theorem own_lit0 (wB : World) (cs : Array Value) (e : TypeId) (size n g : Nat) (hg : g = wB.heap.size) (hn : n ≤ maxLen) (hs : cs.size = n * size) :
    ∃ y, wB.alloc (.cells cs e) = ext wB y ∧ Own (ext wB y) wB.heap.size e size (some ⟨g, 0, none⟩) n n cs.toList := by
  subst hg
  obtain ⟨y, hy⟩ := ext_of ((Bel.refl wB).alloc (.cells cs e))
  exact ⟨y, hy, by rw [← hy]; exact World.ownsRow_lit wB cs n (Nat.le_refl _) hn hs⟩
section
variable {P : Program}
/-- A block that the call has just made becomes a slice of its own. -/
theorem wp_lit {c : Code} {Q : Exit → Act → World → Prop} {a : Act} {wB : World} {x : Beyond} {cs : Array Value} {e : TypeId} (size n g : Nat) (hg : g = wB.heap.size) (hn : n ≤ maxLen) (hs : cs.size = n * size)
    (h : ∀ y, Own (ext wB y) wB.heap.size e size (some ⟨g, 0, none⟩) n n cs.toList → c.wp P Q a (ext wB y)) : c.wp P Q a (ext (wB.alloc (.cells cs e)) x) := by
  obtain ⟨y, hy, ho⟩ := own_lit wB x cs e size n g hg hn hs
  rw [hy]; exact h y ho
theorem wp_lit0 {c : Code} {Q : Exit → Act → World → Prop} {a : Act} {wB : World} {cs : Array Value} {e : TypeId} (size n g : Nat) (hg : g = wB.heap.size) (hn : n ≤ maxLen) (hs : cs.size = n * size)
    (h : ∀ y, Own (ext wB y) wB.heap.size e size (some ⟨g, 0, none⟩) n n cs.toList → c.wp P Q a (ext wB y)) : c.wp P Q a (wB.alloc (.cells cs e)) := by
  obtain ⟨y, hy, ho⟩ := own_lit0 wB cs e size n g hg hn hs
  rw [hy]; exact h y ho
theorem calls_lit {f : FuncId} {args : Array Value} {R : Ending → World → Prop} {wB : World} {x : Beyond} {cs : Array Value} {e : TypeId} (size n g : Nat) (hg : g = wB.heap.size) (hn : n ≤ maxLen) (hs : cs.size = n * size)
    (h : ∀ y, Own (ext wB y) wB.heap.size e size (some ⟨g, 0, none⟩) n n cs.toList → Calls P f args (ext wB y) R) : Calls P f args (ext (wB.alloc (.cells cs e)) x) R := by
  obtain ⟨y, hy, ho⟩ := own_lit wB x cs e size n g hg hn hs
  rw [hy]; exact h y ho
theorem calls_lit0 {f : FuncId} {args : Array Value} {R : Ending → World → Prop} {wB : World} {cs : Array Value} {e : TypeId} (size n g : Nat) (hg : g = wB.heap.size) (hn : n ≤ maxLen) (hs : cs.size = n * size)
    (h : ∀ y, Own (ext wB y) wB.heap.size e size (some ⟨g, 0, none⟩) n n cs.toList → Calls P f args (ext wB y) R) : Calls P f args (wB.alloc (.cells cs e)) R := by
  obtain ⟨y, hy, ho⟩ := own_lit0 wB cs e size n g hg hn hs
  rw [hy]; exact h y ho
end
end Go

namespace Go
open RowKit
/-- What a call hands back: a slice of its own. -/
theorem own_ret {w W0 W : World} {base : Nat} {e : TypeId} {size n c : Nat} {A : Option Addr} {xs : List Value} (hb : Bel w W) (h : Own W0 base e size A n c xs) (h0 : Bel W0 W) (hbase : w.heap.size ≤ base) : ∃ x, W = ext w x ∧ Own (ext w x) w.heap.size e size A n c xs := by
  obtain ⟨x, hx⟩ := ext_of hb
  exact ⟨x, hx, by rw [← hx]; exact (h.bel h0).base_le hbase⟩
end Go

namespace Go
theorem exists_ext {w W : World} {Q : World → Prop} (hb : Bel w W) (h : Q W) : ∃ x, W = ext w x ∧ Q (ext w x) := by
  obtain ⟨x, rfl⟩ := ext_of hb; exact ⟨x, rfl, h⟩
/-- A block of the call's own, read as a slice. -/
theorem sl_cells {W : World} {g n size : Nat} {cs : Array Value} (hg : g < W.heap.size) (hs : cs.size = n * size) (h : ∀ j : Nat, W.cell? ⟨g, j, none⟩ = cs[j]?) : Sl W size (some ⟨g, 0, none⟩) n n cs.toList :=
  ⟨Nat.le_refl _, by simpa using hs, fun _ => ⟨g, 0, rfl, hg, fun j u hu => by rw [Nat.zero_add, h]; simpa using hu⟩⟩
end Go

namespace Go
open RowKit
theorem sl_new (W : World) (cs : Array Value) (e : TypeId) (size g : Nat) (hg : g = W.heap.size) (hs : cs.size = size) : Sl (W.alloc (.cells cs e)) size (some ⟨g, 0, none⟩) 1 1 cs.toList := by
  subst hg
  exact sl_cells (by simp) (by simpa using hs) (fun j => by simp [go_sem])
section
variable {P : Program} {ops : Array Oper} {rest : List Oper} {o : Oper} {a : Act} {Q : Exit → Act → World → Prop}
/-- append of one element, just built, onto a slice of the call's own. -/
theorem append1_ext {t e e' : TypeId} {z : Value} {size bytes : Nat} (hT : SlT P t e z size bytes) {wB W0 W : World} (hb : Bel wB W)
    {A : Option Addr} {n c : Nat} {xs : List Value} (hown : Own W0 wB.heap.size e size A n c xs) (hb0 : Bel W0 W)
    {cs : Array Value} (h1 : ∀ u ∈ cs.toList, u.oneCell' = true) (hsz : cs.size = size) (hlen : n + 1 ≤ 4294967296)
    (hgd : o.guard = none) (s x : Operand) (ho : o.op = .call { callee := .builtin .append, args := #[s, x], argTypes := #[t, t] }) {g : Nat}
    (hs : a.eval s = .slice A n c) (hx : a.eval x = .slice (some ⟨g, 0, none⟩) 1 1) (hg : g = W.heap.size)
    (h : ∀ A' c'' y, Own (ext wB y) wB.heap.size e size A' (n + 1) c'' (xs ++ cs.toList) → wpList P ops Q rest (a.put o.dst (.slice A' (n + 1) c'')) (ext wB y)) : wpList P ops Q (o :: rest) a (W.alloc (.cells cs e')) :=
  append_ext hT (hb.alloc _) hown (hb0.alloc _) (sl_new W cs e' size g hg hsz) (Bel.refl _) h1 hlen hgd s x ho hs hx h
/-- append of one element, just built, onto a slice that has no room: a new row; nothing that was there is written. -/
theorem grow1_ext {t e e' : TypeId} {z : Value} {size bytes : Nat} (hT : SlT P t e z size bytes) {W0 W : World}
    {b off n : Nat} {xs : List Value} (hsl : Sl W0 size (some ⟨b, off, none⟩) n n xs) (hb0 : Bel W0 W)
    {cs : Array Value} (hsz : cs.size = size) (hlen : n + 1 ≤ 4294967296)
    (hgd : o.guard = none) (s x : Operand) (ho : o.op = .call { callee := .builtin .append, args := #[s, x], argTypes := #[t, t] }) {g : Nat}
    (hs : a.eval s = .slice (some ⟨b, off, none⟩) n n) (hx : a.eval x = .slice (some ⟨g, 0, none⟩) 1 1) (hg : g = W.heap.size)
    (h : ∀ A' c'' y, Own (ext W y) W.heap.size e size A' (n + 1) c'' (xs ++ cs.toList) → wpList P ops Q rest (a.put o.dst (.slice A' (n + 1) c'')) (ext W y)) : wpList P ops Q (o :: rest) a (W.alloc (.cells cs e')) := by
  obtain ⟨i, hi, hz0, hz1, hz2⟩ := info_parts hT.info
  have hsl' := (hsl.bel hb0).bel ((Bel.refl W).alloc (.cells cs e'))
  have hsrc := sl_new W cs e' size g hg hsz
  have hby : (n + 1) * bytes ≤ 140737488355328 := Nat.le_trans (Nat.mul_le_mul hlen hT.small) (by decide)
  have add0 : ∀ (b off j : Nat), (⟨b, off, none⟩ : Addr).add j = ⟨b, off + j, none⟩ := fun b off j => by
    unfold Addr.add; split
    · rename_i h0; rw [h0]; rfl
    · rfl
  obtain ⟨v', w', hrun, hown, hgr⟩ := run_append_arg_grows (P := P) (W.alloc (.cells cs e')) t o.type e i z size bytes hT.und hi hz0 hz1 hz2 hT.zs hT.pos ⟨b, off, none⟩ n n xs hsl'.len
    (fun j u hu => by rw [add0]; exact hsl'.cell hu) ⟨g, 0, none⟩ 1 1 cs.toList hsrc.len (fun j u hu => by rw [add0]; exact hsrc.cell hu) (by omega) (Nat.le_trans hlen (by unfold maxLen; decide)) hby
  have hbel : Bel W w' := ((Bel.refl W).alloc _).grown hgr (fun k hk => by cases hk) (run_mono _ _ _ _ hrun)
  obtain ⟨y, rfl⟩ := ext_of hbel
  have hv : ∃ A' c'', v' = .slice A' (n + 1) c'' := by
    rcases hown.2 with ⟨_, hn⟩ | ⟨g, cap, cur, hv, _⟩
    · omega
    · exact ⟨_, _, hv⟩
  obtain ⟨A', c'', rfl⟩ := hv
  refine wpList_plain hgd fun K hK => ?_
  unfold Oper.wp execOp
  simp only [ho, resolve, invoke, builtin, Sem.run_bind, Sem.run_pure, Result.andThen_ok, List.map_toArray, List.map_cons, List.map_nil, hs, hx, hrun]
  exact hK _ _ (h A' c'' y (Own.base_le hown (by simp)))
end
end Go

namespace Go
open RowKit
section
variable {P : Program}
theorem strOf_vb (l : List UInt8) : strOfNums (l.map fun x => (x.toNat : Int)) = ⟨l.toArray⟩ := by
  have e : (l.map fun x => (x.toNat : Int)).map (fun n => UInt8.ofNat n.toNat) = l := by
    rw [List.map_map]
    conv => rhs; rw [← List.map_id l]
    apply List.map_congr_left
    intro x _
    simp
  unfold strOfNums
  rw [e]
/-- bytes as a string -/
theorem conv_sl {W W' : World} {b o n c : Nat} {l : List UInt8} (h : Sl W 1 (some ⟨b, o, none⟩) n c (vb l)) (hb : Bel W W') {src e dst : TypeId} (hs : P.underlying src = some (.slice e)) (he : P.underlying e = some (.int .u8)) (hd : P.underlying dst = some .string) :
    (convert src dst (.slice (some ⟨b, o, none⟩) n c)).run P W' = .ok (.string ⟨l.toArray⟩) W' := by
  have h' := h.bel hb
  have hl : l.length = n := by have := h'.len; rw [vb_length] at this; omega
  rw [run_convert_bytes_arg W' src e hs he b o n c (l.map fun x => (x.toNat : Int)) (by simpa using hl) (fun i hi => ?_) dst hd, strOf_vb]
  rw [h'.cell (j := i) (u := .int .u8 ((l.map fun x => (x.toNat : Int)).getD i 0)) (by
    rw [vb_get, List.getElem?_eq_getElem (by omega)]; simp [List.getD_eq_getElem?_getD, List.getElem?_eq_getElem (show i < l.length by omega)])]
theorem conv_own {W W' : World} {base : Nat} {e0 : TypeId} {A : Option Addr} {n c : Nat} {l : List UInt8} (h : Own W base e0 1 A n c (vb l)) (hb : Bel W W') {src e dst : TypeId} (hs : P.underlying src = some (.slice e)) (he : P.underlying e = some (.int .u8)) (hd : P.underlying dst = some .string) :
    (convert src dst (.slice A n c)).run P W' = .ok (.string ⟨l.toArray⟩) W' := by
  rcases h.2 with ⟨hv, hn⟩ | ⟨g, cap, cur, hv, _⟩
  · injection hv with h1 h2 h3
    subst h1
    have hl : l = [] := by
      have h4 := h.len
      rw [vb_length] at h4
      exact List.eq_nil_of_length_eq_zero (by omega)
    rw [run_convert_bytes_nil W' src e hs he n c dst hd, hl]; rfl
  · injection hv with h1
    subst h1
    exact conv_sl h.sl hb hs he hd
/-- A fact that holds in every world behind this one is laid into the context. -/
theorem wp_have1 {c : Code} {Q : Exit → Act → World → Prop} {a : Act} {w : World} {z : Beyond} (F : World → Prop) (hF : ∀ x, F (ext w (z.and x))) (h : (∀ x, F (ext w (z.and x))) → c.wp P Q a (ext w z)) : c.wp P Q a (ext w z) := h hF
theorem wp_have0 {c : Code} {Q : Exit → Act → World → Prop} {a : Act} {w : World} (F : World → Prop) (hF : ∀ x, F (ext w x)) (h : (∀ x, F (ext w x)) → c.wp P Q a w) : c.wp P Q a w := h hF
end
end Go

namespace Go
open RowKit
section
variable {P : Program} {ops : Array Oper} {rest : List Oper} {o : Oper} {a : Act} {Q : Exit → Act → World → Prop}
/-- append of the elements of whatever slice (nil, empty or not) onto a slice of the call's own. -/
theorem append_any {t e : TypeId} {z : Value} {size bytes : Nat} (hT : SlT P t e z size bytes) {wB W0 W1 W : World} (hb : Bel wB W)
    {A : Option Addr} {n c : Nat} {xs : List Value} (hown : Own W0 wB.heap.size e size A n c xs) (hb0 : Bel W0 W)
    {A1 : Option Addr} {m c' : Nat} {news : List Value} (hsrc : Sl W1 size A1 m c' news) (hb1 : Bel W1 W) (h1 : ∀ u ∈ news, u.oneCell' = true) (hnil : A1 = none → c' = 0) (hlen : n + m ≤ 4294967296)
    (hgd : o.guard = none) (s x : Operand) (ho : o.op = .call { callee := .builtin .append, args := #[s, x], argTypes := #[t, t] })
    (hs : a.eval s = .slice A n c) (hx : a.eval x = .slice A1 m c')
    (h : ∀ A' c'' y, Own (ext wB y) wB.heap.size e size A' (n + m) c'' (xs ++ news) → wpList P ops Q rest (a.put o.dst (.slice A' (n + m) c'')) (ext wB y)) : wpList P ops Q (o :: rest) a W := by
  obtain ⟨i, hi, hz0, hz1, hz2⟩ := info_parts hT.info
  have hown' := hown.bel hb0
  cases A1 with
  | none =>
    have hm : m = 0 := Nat.eq_zero_of_not_pos fun hp => by obtain ⟨b, o', hA, _⟩ := hsrc.at_ hp; cases hA
    subst hm
    obtain rfl := hnil rfl
    have hn : news = [] := List.eq_nil_of_length_eq_zero (by simpa using hsrc.len)
    subst hn
    obtain ⟨y, rfl⟩ := ext_of hb
    have hrun := run_append_owned_none (P := P) (w := ext wB y) wB.heap.size t o.type e i size hT.und hi _ n xs hown'
    refine wpList_plain hgd fun K hK => ?_
    unfold Oper.wp execOp
    simp only [ho, resolve, invoke, builtin, Sem.run_bind, Sem.run_pure, Result.andThen_ok, List.map_toArray, List.map_cons, List.map_nil, hs, hx, hrun]
    exact hK _ _ (h A c y (by simpa using hown'))
  | some ad =>
    have hby : (n + m) * bytes ≤ 140737488355328 := Nat.le_trans (Nat.mul_le_mul hlen hT.small) (by decide)
    have hsrc' := hsrc.bel hb1
    refine wpList_append_m hgd s x t ho wB.heap.size e i z size bytes hT.und hi hz0 hz1 hz2 hT.zs hT.pos _ n xs hs hown' ad m c' news hx hsrc'.len
      (fun j u hu => ?_) h1 (Nat.le_trans hlen (by unfold maxLen; decide)) hby hb.size fun v' w' hown2 hg hmono => ?_
    · have hl : j < news.length := (List.getElem?_eq_some_iff.1 hu).1
      have hp : 0 < m := Nat.pos_of_ne_zero fun h0 => by rw [hsrc'.len, h0, Nat.zero_mul] at hl; omega
      obtain ⟨b, o', hA, _⟩ := hsrc'.at_ hp
      injection hA with hA
      subst hA
      have hj := hsrc'.cell hu
      unfold Addr.add
      split
      · rename_i h0; rw [h0] at hj; exact hj
      · exact hj
    · have hbel : Bel wB w' := hb.grown hg (fun k hk => by
        rcases hown'.block with h0 | ⟨g, h0, hge, _⟩
        · rw [h0] at hk; cases hk
        · rw [h0] at hk; injection hk with hk; omega) hmono
      obtain ⟨y, rfl⟩ := ext_of hbel
      have hv : ∃ A' c'', v' = .slice A' (n + m) c'' := by
        rcases hown2.2 with ⟨hv, hn⟩ | ⟨g, cap, cur, hv, _⟩
        · exact ⟨none, 0, by rw [hv, hn]⟩
        · exact ⟨_, _, hv⟩
      obtain ⟨A', c'', rfl⟩ := hv
      exact h A' c'' y hown2
end
end Go

namespace Go
theorem Own.nilc {w : World} {base : Nat} {e : TypeId} {size n c : Nat} {A : Option Addr} {xs : List Value} (h : Own w base e size A n c xs) : A = none → c = 0 := by
  rcases h.2 with ⟨hv, _⟩ | ⟨g, cap, cur, hv, _⟩
  · intro _; injection hv
  · intro hA; injection hv with h1; rw [hA] at h1; cases h1
theorem own_exists {w W0 W : World} {base : Nat} {e : TypeId} {size n c : Nat} {A : Option Addr} {xs : List Value} (hb : Bel w W) (h : Own W0 base e size A n c xs) (h0 : Bel W0 W) : ∃ y, W = ext w y ∧ Own (ext w y) base e size A n c xs := by
  obtain ⟨y, hy⟩ := ext_of hb
  exact ⟨y, hy, by rw [← hy]; exact h.bel h0⟩
end Go

namespace Go
open RowKit
section
variable {P : Program} {ops : Array Oper} {rest : List Oper} {o : Oper} {a : Act} {Q : Exit → Act → World → Prop}
theorem append1_keep {t e e' : TypeId} {z : Value} {size bytes : Nat} (hT : SlT P t e z size bytes) {wB W0 W : World} (hb : Bel wB W)
    {A : Option Addr} {n c : Nat} {xs : List Value} (hown : Own W0 wB.heap.size e size A n c xs) (hb0 : Bel W0 W)
    {cs : Array Value} (h1 : ∀ u ∈ cs.toList, u.oneCell' = true) (hsz : cs.size = size) (hlen : n + 1 ≤ 4294967296)
    (hgd : o.guard = none) (s x : Operand) (ho : o.op = .call { callee := .builtin .append, args := #[s, x], argTypes := #[t, t] }) {g : Nat}
    (hs : a.eval s = .slice A n c) (hx : a.eval x = .slice (some ⟨g, 0, none⟩) 1 1) (hg : g = W.heap.size)
    (h : ∀ A' c'' y, Own (ext wB y) wB.heap.size e size A' (n + 1) c'' (xs ++ cs.toList) → (∀ (p : Addr) (u : Value), W0.heap.size ≤ p.block → p.block < W.heap.size → W.cell? p = some u → (ext wB y).cell? p = some u) → wpList P ops Q rest (a.put o.dst (.slice A' (n + 1) c'')) (ext wB y)) : wpList P ops Q (o :: rest) a (W.alloc (.cells cs e')) := by
  obtain ⟨i, hi, hz0, hz1, hz2⟩ := info_parts hT.info
  have hown1 := (hown.bel hb0).alloc (.cells cs e')
  have hsrc := sl_new W cs e' size g hg hsz
  have hb1 : Bel wB (W.alloc (.cells cs e')) := hb.alloc _
  have hby : (n + 1) * bytes ≤ 140737488355328 := Nat.le_trans (Nat.mul_le_mul hlen hT.small) (by decide)
  refine wpList_append_m hgd s x t ho wB.heap.size e i z size bytes hT.und hi hz0 hz1 hz2 hT.zs hT.pos _ n xs hs hown1 ⟨g, 0, none⟩ 1 1 cs.toList hx hsrc.len
    (fun j u hu => ?_) h1 (Nat.le_trans hlen (by unfold maxLen; decide)) hby hb1.size fun v' w' hown' hg' hnil => ?_
  · have hj := hsrc.cell hu
    unfold Addr.add
    split
    · rename_i h0; rw [h0] at hj; exact hj
    · exact hj
  · have hbel : Bel wB w' := hb1.grown hg' (fun k hk => by
      rcases hown1.block with h0 | ⟨g, h0, hge, _⟩
      · rw [h0] at hk; cases hk
      · rw [h0] at hk; injection hk with hk; omega) hnil
    obtain ⟨y, rfl⟩ := ext_of hbel
    have hv : ∃ A' c'', v' = .slice A' (n + 1) c'' := by
      rcases hown'.2 with ⟨hv, hn⟩ | ⟨g, cap, cur, hv, _⟩
      · exact ⟨none, 0, by rw [hv, hn]⟩
      · exact ⟨_, _, hv⟩
    obtain ⟨A', c'', rfl⟩ := hv
    refine h A' c'' y hown' fun p u hp0 hp1 hpu => ?_
    rw [hg'.cell_far p (by simp; omega) ?_]
    · have := (World.grownBy_alloc W (.cells cs e') none).cell hpu (by simp)
      exact this
    · rcases hown.block with h0 | ⟨g, h0, hge, hlt⟩
      · rw [h0]; exact fun h => by cases h
      · rw [h0]; intro h; injection h with h; omega
end
end Go

namespace Go
open RowKit
theorem own_new {wB W : World} (hb : Bel wB W) (cs : Array Value) (e : TypeId) (size n g : Nat) (hg : g = W.heap.size) (hn : n ≤ maxLen) (hs : cs.size = n * size) : Own (W.alloc (.cells cs e)) wB.heap.size e size (some ⟨g, 0, none⟩) n n cs.toList := by
  subst hg
  exact World.ownsRow_lit W cs n hb.size hn hs
/-- what make has made, element by element -/
theorem made_mul (z : Array Value) (n : Nat) (hz : 0 < z.size) : (madeCells z (n * z.size)).toList = (List.replicate n z.toList).flatten := by
  induction n with
  | zero => simp [madeCells]
  | succ n ih =>
    rw [List.replicate_succ', List.flatten_append, ← ih]
    apply List.ext_getElem?
    intro j
    have hs : (n + 1) * z.size = n * z.size + z.size := Nat.succ_mul _ _
    rcases Nat.lt_or_ge j (n * z.size) with hj | hj
    · rw [List.getElem?_append_left (by simpa [madeCells] using hj)]
      simp [madeCells, hs, show j < n * z.size + z.size by omega, hj]
    · rw [List.getElem?_append_right (by simpa [madeCells] using hj)]
      have hl : (madeCells z (n * z.size)).toList.length = n * z.size := by simp [madeCells]
      rw [hl]
      obtain ⟨r, rfl⟩ : ∃ r, j = n * z.size + r := ⟨j - n * z.size, by omega⟩
      rw [Nat.add_sub_cancel_left]
      by_cases hr : r < z.size
      · have e : (n * z.size + r) % z.size = r := by rw [Nat.mul_comm, Nat.mul_add_mod]; exact Nat.mod_eq_of_lt hr
        simp [madeCells, hs, hr, e]
      · simp [madeCells, hs, hr]
/-- a slice literal, just built -/
theorem sl_lit (W : World) (xs : List Value) (e : TypeId) (size n g : Nat) (hg : g = W.heap.size) (hs : xs.length = n * size) : Sl (W.alloc (.cells xs.toArray e)) size (some ⟨g, 0, none⟩) n n xs := by
  subst hg
  have := sl_cells (W := W.alloc (.cells xs.toArray e)) (g := W.heap.size) (n := n) (size := size) (cs := xs.toArray) (by simp) (by simpa using hs) (fun j => by simp [go_sem])
  simpa using this
theorem sl_blit (W : World) (l : List UInt8) (e : TypeId) (g : Nat) (hg : g = W.heap.size) : Sl (W.alloc (.cells (vb l).toArray e)) 1 (some ⟨g, 0, none⟩) l.length l.length (vb l) := sl_lit W (vb l) e 1 l.length g hg (by simp [vb_length])
/-- a slice of the call's own where an elder block has been written -/
theorem own_swap {V V' : World} {y : Beyond} {base : Nat} {e : TypeId} {size n c : Nat} {A : Option Addr} {xs : List Value} (hs : V.heap.size = V'.heap.size) (h : Own (ext V y) base e size A n c xs) (hb : V.heap.size ≤ base) : Own (ext V' y) base e size A n c xs := by
  obtain ⟨h1, h2⟩ := h
  refine ⟨h1, ?_⟩
  rcases h2 with h2 | ⟨g, cap, cur, hv, hg, hh, r⟩
  · exact .inl h2
  · refine .inr ⟨g, cap, cur, hv, hg, ?_, r⟩
    have e1 : (ext V y).heap = V.heap ++ y.objs := by unfold ext; rfl
    have e2 : (ext V' y).heap = V'.heap ++ y.objs := by unfold ext; rfl
    rw [e1, Array.getElem?_append_right (by omega)] at hh
    rw [e2, Array.getElem?_append_right (by omega), ← hs]
    exact hh
section
variable {P : Program} {ops : Array Oper} {rest : List Oper} {o : Oper} {a : Act} {Q : Exit → Act → World → Prop}
/-- an operation whose guard is met -/
theorem wpList_unguard {w : World} {j : Nat} {want : Bool} (hg : o.guard = some (j, want)) (hy : yielded ops a.tmps j = some want) (h : wpList P ops Q ({ o with guard := none } :: rest) a w) : wpList P ops Q (o :: rest) a w := by
  have h1 : Region.wanted o (yielded ops a.tmps) = true := by simp [Region.wanted, hg, hy]
  unfold wpList at h ⊢
  rw [if_pos h1]
  exact h
/-- bytes that came in, as a string -/
theorem conv_any {W W' : World} {A : Option Addr} {n c : Nat} {l : List UInt8} (h : Sl W 1 A n c (vb l)) (hn : A = none → c = 0) (hb : Bel W W') {src e dst : TypeId} (hs : P.underlying src = some (.slice e)) (he : P.underlying e = some (.int .u8)) (hd : P.underlying dst = some .string) :
    (convert src dst (.slice A n c)).run P W' = .ok (.string ⟨l.toArray⟩) W' := by
  have hl : l.length = n := by have := h.len; rw [vb_length] at this; omega
  by_cases h0 : 0 < n
  · obtain ⟨b, o', rfl, _⟩ := h.at_ h0
    exact conv_sl h hb hs he hd
  · obtain rfl : n = 0 := by omega
    obtain rfl : l = [] := List.eq_nil_of_length_eq_zero hl
    cases A with
    | none => rw [run_convert_bytes_nil W' src e hs he 0 c dst hd]; rfl
    | some ad =>
      have hl0 : (loadCells ad 0).run P W' = .ok (([] : List Int).map (Value.int .u8)).toArray W' := rfl
      rw [run_convert_bytes_string W' src dst e _ 0 c hs he hd, run_bytesToString W' _ 0 c [] hl0]; rfl
/-- append of the elements of whatever slice onto '[]T{}'. -/
theorem append_new {t e : TypeId} {z : Value} {size bytes : Nat} (hT : SlT P t e z size bytes) {wB W1 W : World} (hb : Bel wB W)
    {A1 : Option Addr} {m c' : Nat} {news : List Value} (hsrc : Sl W1 size A1 m c' news) (hb1 : Bel W1 W) (h1 : ∀ u ∈ news, u.oneCell' = true) (hnil : A1 = none → c' = 0) (hlen : m ≤ 4294967296)
    (hgd : o.guard = none) (s x : Operand) (ho : o.op = .call { callee := .builtin .append, args := #[s, x], argTypes := #[t, t] }) {g : Nat}
    (hs : a.eval s = .slice (some ⟨g, 0, none⟩) 0 0) (hx : a.eval x = .slice A1 m c') (hg : g = W.heap.size)
    (h : ∀ A' c'' y, Own (ext wB y) wB.heap.size e size A' m c'' news → wpList P ops Q rest (a.put o.dst (.slice A' m c'')) (ext wB y)) : wpList P ops Q (o :: rest) a (W.alloc (.cells #[] e)) := by
  refine append_any hT (hb.alloc _) (own_new hb #[] e size 0 g hg (Nat.zero_le _) (by simp)) (Bel.refl _) hsrc (hb1.alloc _) h1 hnil (by omega) hgd s x ho hs hx fun A' c'' y hown => ?_
  rw [Nat.zero_add] at hown ⊢
  exact h A' c'' y hown
end
end Go

namespace Go
open RowKit
section
variable {α : Type} {cells : α → List Value} {k : Nat}
theorem fl_len (hk : ∀ a, (cells a).length = k) (l : List α) : (l.flatMap cells).length = l.length * k := by
  induction l with
  | nil => simp
  | cons x l ih => rw [List.flatMap_cons, List.length_append, ih, hk, List.length_cons, Nat.add_mul]; omega
theorem fl_at (hk : ∀ a, (cells a).length = k) {l : List α} {i : Nat} {x : α} (h : l[i]? = some x) (j : Nat) (hj : j < k) : (l.flatMap cells)[i * k + j]? = (cells x)[j]? := by
  induction l generalizing i with
  | nil => simp at h
  | cons y l ih =>
    rw [List.flatMap_cons]
    cases i with
    | zero =>
      simp only [List.getElem?_cons_zero, Option.some.injEq] at h
      subst h
      rw [Nat.zero_mul, Nat.zero_add, List.getElem?_append_left (by rw [hk]; exact hj)]
    | succ i =>
      rw [List.getElem?_append_right (by rw [hk, Nat.add_mul]; omega), hk]
      have e : (i + 1) * k + j - k = i * k + j := by rw [Nat.add_mul]; omega
      rw [e]; exact ih (by simpa using h)
theorem fl_take (hk : ∀ a, (cells a).length = k) (l : List α) (n : Nat) : (l.flatMap cells).take (n * k) = (l.take n).flatMap cells := by
  induction l generalizing n with
  | nil => simp
  | cons x l ih =>
    cases n with
    | zero => simp
    | succ n =>
      rw [List.flatMap_cons, List.take_succ_cons, List.flatMap_cons, List.take_append]
      rw [hk, List.take_of_length_le (by rw [hk, Nat.add_mul]; omega), show (n + 1) * k - k = n * k by rw [Nat.add_mul]; omega, ih]
theorem fl_drop (hk : ∀ a, (cells a).length = k) (l : List α) (n : Nat) : (l.flatMap cells).drop (n * k) = (l.drop n).flatMap cells := by
  induction l generalizing n with
  | nil => simp
  | cons x l ih =>
    cases n with
    | zero => simp
    | succ n =>
      rw [List.flatMap_cons, List.drop_succ_cons, List.drop_append, hk, List.drop_of_length_le (by rw [hk, Nat.add_mul]; omega), show (n + 1) * k - k = n * k by rw [Nat.add_mul]; omega, ih]
      simp
theorem fl_snoc (l : List α) (x : α) : (l ++ [x]).flatMap cells = l.flatMap cells ++ cells x := by simp
theorem fl_one (h : ∀ a, ∀ u ∈ cells a, u.oneCell' = true) (l : List α) : ∀ u ∈ l.flatMap cells, u.oneCell' = true := by
  intro u hu
  obtain ⟨x, _, hx⟩ := List.mem_flatMap.1 hu
  exact h x u hx
/-- an element's cell in a slice -/
theorem fl_cell {w : World} {b o n c i : Nat} {l : List α} {x : α} (hk : ∀ a, (cells a).length = k) (h : Sl w k (some ⟨b, o, none⟩) n c (l.flatMap cells)) (hx : l[i]? = some x) {j : Nat} {u : Value} (hj : (cells x)[j]? = some u) : w.cell? ⟨b, o + i * k + j, none⟩ = some u := by
  have hjk : j < k := by rw [← hk x]; exact (List.getElem?_eq_some_iff.1 hj).1
  have := h.cell (j := i * k + j) (u := u) (by rw [fl_at hk hx j hjk]; exact hj)
  rwa [← Nat.add_assoc] at this
theorem fl_sl_take {w : World} {A : Option Addr} {n c i : Nat} {l : List α} (hk : ∀ a, (cells a).length = k) (h : Sl w k A n c (l.flatMap cells)) (hi : i ≤ n) : Sl w k A i c ((l.take i).flatMap cells) := by
  rw [← fl_take hk]; exact h.take hi
end
end Go
namespace Go
section
variable {α : Type} {cells : α → List Value} {k : Nat}
theorem fl_sl_drop {w : World} {b o n c i : Nat} {l : List α} (hk : ∀ a, (cells a).length = k) (h : Sl w k (some ⟨b, o, none⟩) n c (l.flatMap cells)) (hi : i ≤ n) : Sl w k (some ⟨b, o + i * k, none⟩) (n - i) (c - i) ((l.drop i).flatMap cells) := by
  rw [← fl_drop hk]
  exact ⟨by have := h.1; omega, by rw [List.length_drop, h.2.1, Nat.sub_mul], fun hn => by
    obtain ⟨b', o', hA, hb, hc⟩ := h.2.2 (by omega)
    injection hA with hA
    injection hA with e1 e2
    subst e1 e2
    refine ⟨b, _, rfl, hb, fun j u hu => ?_⟩
    rw [List.getElem?_drop] at hu
    rw [Nat.add_assoc]
    exact hc _ u hu⟩
end
end Go
namespace Go
theorem nil_ret {w W : World} (hb : Bel w W) {e : TypeId} {size B : Nat} : ∃ x, W = ext w x ∧ Own (ext w x) B e size none 0 0 [] := by
  obtain ⟨x, hx⟩ := ext_of hb
  exact ⟨x, hx, Own.nil_ _ _ _ _⟩
theorem ext_nil (w : World) (e : TypeId) (size : Nat) (B : Nat) : ∃ x, w = ext w x ∧ Own (ext w x) B e size none 0 0 [] := by
  obtain ⟨x, hx⟩ := ext_of (Bel.refl w)
  exact ⟨x, hx, Own.nil_ _ _ _ _⟩
end Go

namespace Go.Pel
open Go
structure Pt where
  id : Int
  a : Int
  b : Int
  deriving DecidableEq
def Pt.zero : Pt := ⟨0, 0, 0⟩
def Pt.cells (p : Pt) : List Value := [.int .i64 p.id, .int .i64 p.a, .int .i64 p.b]
def Pt.chk (p : Pt) : Int := pointChk p.id p.a p.b
structure Pt.Fits (p : Pt) : Prop where
  id : -9223372036854775808 ≤ p.id ∧ p.id ≤ 9223372036854775807
  a : -9223372036854775808 ≤ p.a ∧ p.a ≤ 9223372036854775807
  b : -9223372036854775808 ≤ p.b ∧ p.b ≤ 9223372036854775807
def vp (l : List Pt) : List Value := l.flatMap Pt.cells
theorem pt_len (p : Pt) : p.cells.length = 3 := rfl
theorem pt_one (p : Pt) : ∀ u ∈ p.cells, u.oneCell' = true := by
  intro u hu
  simp only [Pt.cells, List.mem_cons, List.not_mem_nil, or_false] at hu
  rcases hu with rfl | rfl | rfl <;> rfl
theorem vp_one (l : List Pt) : ∀ u ∈ vp l, u.oneCell' = true := fl_one pt_one l
theorem vp_len (l : List Pt) : (vp l).length = l.length * 3 := fl_len pt_len l
theorem vp_snoc (l : List Pt) (p : Pt) : vp (l ++ [p]) = vp l ++ p.cells := fl_snoc l p
theorem vp_append (l m : List Pt) : vp (l ++ m) = vp l ++ vp m := by simp [vp]
theorem pt_at {w : World} {b o n c i : Nat} {l : List Pt} {p : Pt} (h : Sl w 3 (some ⟨b, o, none⟩) n c (vp l)) (hx : l[i]? = some p) :
    w.cell? ⟨b, o + i * 3, none⟩ = some (.int .i64 p.id) ∧ w.cell? ⟨b, o + i * 3 + 1, none⟩ = some (.int .i64 p.a) ∧ w.cell? ⟨b, o + i * 3 + 2, none⟩ = some (.int .i64 p.b) :=
  ⟨fl_cell pt_len h hx (j := 0) rfl, fl_cell pt_len h hx (j := 1) rfl, fl_cell pt_len h hx (j := 2) rfl⟩
/-- IDs go up -/
def incB : List Pt → Bool
  | [] => true
  | [_] => true
  | p :: q :: r => decide (p.id < q.id) && incB (q :: r)
theorem incB_iff (l : List Pt) : incB l = true ↔ ∀ (i : Nat) (p q : Pt), l[i]? = some p → l[i + 1]? = some q → p.id < q.id := by
  induction l with
  | nil => simp [incB]
  | cons x l ih =>
    cases l with
    | nil => simp [incB]
    | cons y r =>
      simp only [incB, Bool.and_eq_true, decide_eq_true_eq, ih]
      constructor
      · rintro ⟨h0, h⟩ i p q hp hq
        cases i with
        | zero => simp at hp hq; rw [← hp, ← hq]; exact h0
        | succ i => exact h i p q (by simpa using hp) (by simpa using hq)
      · intro h
        exact ⟨h 0 x y rfl rfl, fun i p q hp hq => h (i + 1) p q (by simpa using hp) (by simpa using hq)⟩
theorem inc_lt {l : List Pt} (h : incB l = true) {i j : Nat} (hij : i < j) {p q : Pt} (hp : l[i]? = some p) (hq : l[j]? = some q) : p.id < q.id := by
  induction j generalizing q with
  | zero => omega
  | succ j ih =>
    rcases Nat.lt_or_ge i j with hlt | hge
    · have hjl : j < l.length := by have := (List.getElem?_eq_some_iff.1 hq).1; omega
      obtain ⟨m, hm⟩ : ∃ m, l[j]? = some m := ⟨_, List.getElem?_eq_getElem hjl⟩
      have h1 := ih hlt hm
      have h2 := (incB_iff l).1 h j m q hm hq
      omega
    · obtain rfl : i = j := by omega
      exact (incB_iff l).1 h i p q hp hq
/-- P3.1: Check -/
def fieldChk (l : List Pt) : Int := if 64 < l.length then 4 else if ∀ p ∈ l, p.chk = 0 then (if incB l then 0 else 32) else 8
theorem fieldChk_many {l : List Pt} (h : 64 < l.length) : fieldChk l = 4 := if_pos h
theorem fieldChk_bad {l : List Pt} (h : l.length ≤ 64) {p : Pt} (hp : p ∈ l) (hc : p.chk ≠ 0) : fieldChk l = 8 := by
  unfold fieldChk; rw [if_neg (by omega), if_neg]; intro h'; exact hc (h' p hp)
theorem fieldChk_order {l : List Pt} (h : l.length ≤ 64) (hc : ∀ p ∈ l, p.chk = 0) (hi : incB l = false) : fieldChk l = 32 := by
  unfold fieldChk; rw [if_neg (by omega), if_pos hc, hi]; rfl
theorem fieldChk_ok {l : List Pt} (h : l.length ≤ 64) (hc : ∀ p ∈ l, p.chk = 0) (hi : incB l = true) : fieldChk l = 0 := by
  unfold fieldChk; rw [if_neg (by omega), if_pos hc, hi]; rfl
theorem fieldChk_zero {l : List Pt} (h : fieldChk l = 0) : l.length ≤ 64 ∧ (∀ p ∈ l, p.chk = 0) ∧ incB l = true := by
  unfold fieldChk at h
  split at h
  · omega
  · split at h
    · rename_i h1 h2
      refine ⟨by omega, h2, ?_⟩
      split at h
      · assumption
      · omega
    · omega
theorem fieldChk_cases (l : List Pt) : fieldChk l = 0 ∨ fieldChk l = 4 ∨ fieldChk l = 8 ∨ fieldChk l = 32 := by
  unfold fieldChk; split
  · simp
  · split
    · split <;> simp
    · simp
theorem chk_pt {p : Pt} (h : p.chk = 0) : 0 ≤ p.id ∧ p.id ≤ 65535 ∧ -1048576 ≤ p.a ∧ p.a ≤ 1048576 ∧ -1048576 ≤ p.b ∧ p.b ≤ 1048576 := pointChk_zero h
theorem pt_cases (p : Pt) : p.chk = 0 ∨ p.chk = 8 := pointChk_cases _ _ _
/-- where the point with an ID is, or would be -/
def lowB (l : List Pt) (id : Int) : Nat := (l.takeWhile fun p => decide (p.id < id)).length
theorem lowB_le (l : List Pt) (id : Int) : lowB l id ≤ l.length := by unfold lowB; exact (List.takeWhile_prefix _).length_le
theorem lowB_of {l : List Pt} {id : Int} {k : Nat} (hk : k ≤ l.length) (h1 : ∀ (i : Nat) (p : Pt), i < k → l[i]? = some p → p.id < id) (h2 : ∀ p, l[k]? = some p → id ≤ p.id) : lowB l id = k := by
  unfold lowB
  induction l generalizing k with
  | nil => simp at hk; simp [hk]
  | cons x l ih =>
    cases k with
    | zero =>
      have := h2 x rfl
      rw [List.takeWhile_cons_of_neg (by simp; omega)]; rfl
    | succ k =>
      have := h1 0 x (by omega) rfl
      rw [List.takeWhile_cons_of_pos (by simpa using this), List.length_cons, ih (by simpa using hk) (fun i p hi hp => h1 (i + 1) p (by omega) (by simpa using hp)) (fun p hp => h2 p (by simpa using hp))]
theorem lowB_lt {l : List Pt} {id : Int} {i : Nat} {p : Pt} (hi : i < lowB l id) (hp : l[i]? = some p) : p.id < id := by
  induction l generalizing i with
  | nil => simp at hp
  | cons x l ih =>
    unfold lowB at hi
    by_cases hx : x.id < id
    · rw [List.takeWhile_cons_of_pos (by simpa using hx), List.length_cons] at hi
      cases i with
      | zero => simp at hp; subst hp; exact hx
      | succ i => exact ih (i := i) (by unfold lowB; omega) (by simpa using hp)
    · rw [List.takeWhile_cons_of_neg (by simpa using hx)] at hi
      simp at hi
theorem lowB_ge {l : List Pt} {id : Int} {p : Pt} (hp : l[lowB l id]? = some p) : id ≤ p.id := by
  unfold lowB at hp
  induction l with
  | nil => simp at hp
  | cons x l ih =>
    by_cases hx : x.id < id
    · rw [List.takeWhile_cons_of_pos (by simpa using hx), List.length_cons] at hp
      exact ih (by simpa using hp)
    · rw [List.takeWhile_cons_of_neg (by simpa using hx)] at hp
      simp at hp
      subst hp; omega
/-- has the field the ID? -/
def hasB (l : List Pt) (id : Int) : Bool := l.any fun p => decide (p.id = id)
theorem hasB_at {l : List Pt} (h : incB l = true) (id : Int) : hasB l id = (match l[lowB l id]? with | some p => decide (p.id = id) | none => false) := by
  cases hb : l[lowB l id]? with
  | none =>
    have hlen : l.length ≤ lowB l id := by simpa using hb
    unfold hasB
    rw [List.any_eq_false]
    intro p hp
    obtain ⟨i, hi⟩ := List.getElem?_of_mem hp
    have : i < l.length := (List.getElem?_eq_some_iff.1 hi).1
    have := lowB_lt (id := id) (by omega) hi
    simp; omega
  | some q =>
    have hge := lowB_ge hb
    simp only
    by_cases hq : q.id = id
    · rw [decide_eq_true hq]
      unfold hasB
      rw [List.any_eq_true]
      exact ⟨q, List.mem_of_getElem? hb, by simpa using hq⟩
    · rw [decide_eq_false hq]
      unfold hasB
      rw [List.any_eq_false]
      intro p hp
      obtain ⟨i, hi⟩ := List.getElem?_of_mem hp
      rcases Nat.lt_trichotomy i (lowB l id) with hlt | rfl | hgt
      · have := lowB_lt hlt hi; simp; omega
      · rw [hb] at hi; obtain rfl := Option.some.inj hi; simpa using hq
      · have := inc_lt h hgt hb hi; simp; omega
/-- the first point with an ID (the reference's At): its index, or -1 -/
def atI (l : List Pt) (id : Int) : Int := if hasB l id then ((l.takeWhile fun p => decide (p.id ≠ id)).length : Int) else -1
theorem atI_no {l : List Pt} {id : Int} (h : hasB l id = false) : atI l id = -1 := by unfold atI; rw [h]; rfl
theorem atI_of {l : List Pt} {id : Int} {k : Nat} {p : Pt} (h1 : ∀ (i : Nat) (p : Pt), i < k → l[i]? = some p → p.id ≠ id) (hk : l[k]? = some p) (hp : p.id = id) : atI l id = k := by
  have hb : hasB l id = true := by
    unfold hasB; rw [List.any_eq_true]; exact ⟨p, List.mem_of_getElem? hk, by simpa using hp⟩
  unfold atI; rw [hb, if_pos rfl]
  congr 1
  clear hb
  induction l generalizing k with
  | nil => simp at hk
  | cons x l ih =>
    cases k with
    | zero =>
      simp at hk; subst hk
      rw [List.takeWhile_cons_of_neg (by simpa using hp)]; rfl
    | succ k =>
      have := h1 0 x (by omega) rfl
      rw [List.takeWhile_cons_of_pos (by simpa using this), List.length_cons, ih (k := k) (fun i p hi hp => h1 (i + 1) p (by omega) (by simpa using hp)) (by simpa using hk)]
theorem hasB_no {l : List Pt} {id : Int} (h : ∀ (i : Nat) (p : Pt), l[i]? = some p → p.id ≠ id) : hasB l id = false := by
  unfold hasB; rw [List.any_eq_false]; intro p hp
  obtain ⟨i, hi⟩ := List.getElem?_of_mem hp
  simpa using h i p hi
/-- in a valid field both agree -/
theorem atI_low {l : List Pt} (h : incB l = true) {id : Int} (hb : hasB l id = true) : atI l id = lowB l id ∧ ∃ p, l[lowB l id]? = some p ∧ p.id = id := by
  rw [hasB_at h] at hb
  cases hq : l[lowB l id]? with
  | none => rw [hq] at hb; cases hb
  | some q =>
    rw [hq] at hb
    simp only [decide_eq_true_eq] at hb
    exact ⟨atI_of (fun i p hi hp => by have := lowB_lt (l := l) (id := id) hi hp; omega) hq hb, q, rfl, hb⟩
/-- P3.1: Find -/
def fieldFind (l : List Pt) (id : Int) : Pt × Int := if fieldChk l ≠ 0 then (Pt.zero, fieldChk l) else if hasB l id then (l.getD (lowB l id) Pt.zero, 0) else (Pt.zero, 6)
/-- P3.2: Put, Take, Change -/
def fieldPut (l : List Pt) (p : Pt) : List Pt × Int :=
  if fieldChk l ≠ 0 then ([], fieldChk l) else if p.chk ≠ 0 then ([], 8) else if hasB l p.id then ([], 14) else if l.length = 64 then ([], 18) else (l.take (lowB l p.id) ++ p :: l.drop (lowB l p.id), 0)
def fieldTake (l : List Pt) (id : Int) : List Pt × Int :=
  if fieldChk l ≠ 0 then ([], fieldChk l) else if hasB l id then (l.take (lowB l id) ++ l.drop (lowB l id + 1), 0) else ([], 6)
def fieldChange (l : List Pt) (p : Pt) : List Pt × Int :=
  if fieldChk l ≠ 0 then ([], fieldChk l) else if p.chk ≠ 0 then ([], 8) else if hasB l p.id then (l.set (lowB l p.id) p, 0) else ([], 6)
end Go.Pel

namespace Go
open RowKit
section
variable {P : Program} {ops : Array Oper} {o : Oper} {a : Act} {K : Act → World → Prop} {Q : Exit → Act → World → Prop} {E : Prop}
theorem oper_append_any {t e : TypeId} {z : Value} {size bytes : Nat} (hT : SlT P t e z size bytes) {wB W0 W1 W : World} (hb : Bel wB W)
    {A : Option Addr} {n c : Nat} {xs : List Value} (hown : Own W0 wB.heap.size e size A n c xs) (hb0 : Bel W0 W)
    {A1 : Option Addr} {m c' : Nat} {news : List Value} (hsrc : Sl W1 size A1 m c' news) (hb1 : Bel W1 W) (h1 : ∀ u ∈ news, u.oneCell' = true) (hnil : A1 = none → c' = 0) (hlen : n + m ≤ 4294967296)
    (s x : Operand) (ho : o.op = .call { callee := .builtin .append, args := #[s, x], argTypes := #[t, t] })
    (hs : a.eval s = .slice A n c) (hx : a.eval x = .slice A1 m c')
    (h : ∀ A' c'' y, Own (ext wB y) wB.heap.size e size A' (n + m) c'' (xs ++ news) → K (a.put o.dst (.slice A' (n + m) c'')) (ext wB y)) : Oper.wp P o a W K Q := by
  obtain ⟨i, hi, hz0, hz1, hz2⟩ := info_parts hT.info
  have hown' := hown.bel hb0
  cases A1 with
  | none =>
    have hm : m = 0 := Nat.eq_zero_of_not_pos fun hp => by obtain ⟨b, o', hA, _⟩ := hsrc.at_ hp; cases hA
    subst hm
    obtain rfl := hnil rfl
    have hn : news = [] := List.eq_nil_of_length_eq_zero (by simpa using hsrc.len)
    subst hn
    obtain ⟨y, rfl⟩ := ext_of hb
    have hrun := run_append_owned_none (P := P) (w := ext wB y) wB.heap.size t o.type e i size hT.und hi _ n xs hown'
    unfold Oper.wp execOp
    simp only [ho, resolve, invoke, builtin, Sem.run_bind, Sem.run_pure, Result.andThen_ok, List.map_toArray, List.map_cons, List.map_nil, hs, hx, hrun]
    exact h A c y (by simpa using hown')
  | some ad =>
    have hby : (n + m) * bytes ≤ 140737488355328 := Nat.le_trans (Nat.mul_le_mul hlen hT.small) (by decide)
    have hsrc' := hsrc.bel hb1
    refine wp_append_m s x t ho wB.heap.size e i z size bytes hT.und hi hz0 hz1 hz2 hT.zs hT.pos _ n xs hs hown' ad m c' news hx hsrc'.len
      (fun j u hu => ?_) h1 (Nat.le_trans hlen (by unfold maxLen; decide)) hby hb.size fun v' w' hown2 hg hmono => ?_
    · have hl : j < news.length := (List.getElem?_eq_some_iff.1 hu).1
      have hp : 0 < m := Nat.pos_of_ne_zero fun h0 => by rw [hsrc'.len, h0, Nat.zero_mul] at hl; omega
      obtain ⟨b, o', hA, _⟩ := hsrc'.at_ hp
      injection hA with hA
      subst hA
      have hj := hsrc'.cell hu
      unfold Addr.add
      split
      · rename_i h0; rw [h0] at hj; exact hj
      · exact hj
    · have hbel : Bel wB w' := hb.grown hg (fun k hk => by
        rcases hown'.block with h0 | ⟨g, h0, hge, _⟩
        · rw [h0] at hk; cases hk
        · rw [h0] at hk; injection hk with hk; omega) hmono
      obtain ⟨y, rfl⟩ := ext_of hbel
      have hv : ∃ A' c'', v' = .slice A' (n + m) c'' := by
        rcases hown2.2 with ⟨hv, hn⟩ | ⟨g, cap, cur, hv, _⟩
        · exact ⟨none, 0, by rw [hv, hn]⟩
        · exact ⟨_, _, hv⟩
      obtain ⟨A', c'', rfl⟩ := hv
      exact h A' c'' y hown2
theorem step_append_any {t e : TypeId} {z : Value} {size bytes : Nat} (hT : SlT P t e z size bytes) {wB W0 W1 W : World} (hb : Bel wB W)
    {A : Option Addr} {n c : Nat} {xs : List Value} (hown : Own W0 wB.heap.size e size A n c xs) (hb0 : Bel W0 W)
    {A1 : Option Addr} {m c' : Nat} {news : List Value} (hsrc : Sl W1 size A1 m c' news) (hb1 : Bel W1 W) (h1 : ∀ u ∈ news, u.oneCell' = true) (hnil : A1 = none → c' = 0) (hlen : n + m ≤ 4294967296)
    (hgd : o.guard = none) (s x : Operand) (ho : o.op = .call { callee := .builtin .append, args := #[s, x], argTypes := #[t, t] })
    (hs : a.eval s = .slice A n c) (hx : a.eval x = .slice A1 m c')
    (h : ∀ A' c'' y, Own (ext wB y) wB.heap.size e size A' (n + m) c'' (xs ++ news) → K (a.put o.dst (.slice A' (n + m) c'')) (ext wB y)) :
    if Region.wanted o (yielded ops a.tmps) = true then Oper.wp P o a W K Q else E := by
  have hw : Region.wanted o (yielded ops a.tmps) = true := by simp [Region.wanted, hgd]
  rw [if_pos hw]
  exact oper_append_any hT hb hown hb0 hsrc hb1 h1 hnil hlen s x ho hs hx h
/-- append of one element, just built -/
theorem step_append1 {t e e' : TypeId} {z : Value} {size bytes : Nat} (hT : SlT P t e z size bytes) {wB W0 W : World} (hb : Bel wB W)
    {A : Option Addr} {n c : Nat} {xs : List Value} (hown : Own W0 wB.heap.size e size A n c xs) (hb0 : Bel W0 W)
    {cs : Array Value} (h1 : ∀ u ∈ cs.toList, u.oneCell' = true) (hsz : cs.size = size) (hlen : n + 1 ≤ 4294967296)
    (hgd : o.guard = none) (s x : Operand) (ho : o.op = .call { callee := .builtin .append, args := #[s, x], argTypes := #[t, t] }) {g : Nat}
    (hs : a.eval s = .slice A n c) (hx : a.eval x = .slice (some ⟨g, 0, none⟩) 1 1) (hg : g = W.heap.size)
    (h : ∀ A' c'' y, Own (ext wB y) wB.heap.size e size A' (n + 1) c'' (xs ++ cs.toList) → K (a.put o.dst (.slice A' (n + 1) c'')) (ext wB y)) :
    if Region.wanted o (yielded ops a.tmps) = true then Oper.wp P o a (W.alloc (.cells cs e')) K Q else E :=
  step_append_any hT (hb.alloc _) hown (hb0.alloc _) (sl_new W cs e' size g hg hsz) (Bel.refl _) h1 (fun h => by cases h) hlen hgd s x ho hs hx h
end
end Go
namespace Go
open RowKit
def setL (xs : List Value) : Nat → List Value → List Value
  | _, [] => xs
  | o, v :: r => setL (xs.set o v) (o + 1) r
theorem setL_len : ∀ (vs : List Value) (o : Nat) (xs : List Value), (setL xs o vs).length = xs.length
  | [], _, _ => rfl
  | v :: r, o, xs => by rw [setL, setL_len r]; simp
theorem own_setCells {wB : World} {e : TypeId} {size g n c B : Nat} (hg : wB.heap.size ≤ g) : ∀ (vs : List Value) (o : Nat) (xs : List Value) (W : World), Bel wB W → Own W B e size (some ⟨g, 0, none⟩) n c xs →
    Bel wB (W.setCells g o vs) ∧ Own (W.setCells g o vs) B e size (some ⟨g, 0, none⟩) n c (setL xs o vs)
  | [], _, _, _, hb, h => ⟨hb, h⟩
  | v :: r, o, xs, W, hb, h => own_setCells hg r (o + 1) _ _ (hb.setCell (p := ⟨g, o, none⟩) hg v) (World.ownsRow.stored h o v).1
section
variable {P : Program} {ops : Array Oper} {rest : List Oper} {o : Oper} {a : Act} {Q : Exit → Act → World → Prop}
/-- a struct stored into a row of the call's own -/
theorem store_own {wB W : World} (hb : Bel wB W) {B g n c size : Nat} {e : TypeId} {xs : List Value} (hown : Own W B e size (some ⟨g, 0, none⟩) n c xs) (hg : wB.heap.size ≤ g) (off : Nat) (cells : Array Value) (hfit : off + cells.size ≤ xs.length) (hgd : o.guard = none) (ty : TypeId) (d v : Operand) (ho : o.op = .store ty d v) (hd : a.eval d = .pointer (some ⟨g, off, none⟩)) (hv : a.eval v = .agg cells) (hi : (P.info? ty).map (·.size) = some cells.size) (h1 : cells.all (·.oneCell') = true)
    (h : ∀ y, Own (ext wB y) B e size (some ⟨g, 0, none⟩) n c (setL xs off cells.toList) → wpList P ops Q rest (a.put o.dst undef) (ext wB y)) : wpList P ops Q (o :: rest) a W := by
  refine wpList_store_mid hgd ty d v ho g off cells hd hv (fun j hj => ?_) hi h1 ?_
  · have hl : off + j < xs.length := by omega
    obtain ⟨u, hu⟩ : ∃ u, xs[off + j]? = some u := ⟨_, List.getElem?_eq_getElem hl⟩
    exact ⟨by rw [own_cell hown hu]; rfl, own_frozen hown _⟩
  · obtain ⟨h2, h3⟩ := own_setCells hg cells.toList off xs W hb hown
    obtain ⟨y, hy⟩ := ext_of h2
    rw [hy] at h3 ⊢
    exact h y h3
end
end Go
namespace Go
open RowKit
theorem block_ne {a b g : Nat} (hne : b ≠ a) (h : some (⟨a, 0, none⟩ : Addr) = some ⟨g, 0, none⟩) : b ≠ g := by
  have e1 : a = g := by injection h with h; injection h
  rw [← e1]; exact hne
theorem own_other {W : World} {B n c b o size : Nat} {e : TypeId} {xs : List Value} {A : Option Addr} (h : Own W B e size A n c xs) (u : Value) (hne : ∀ g, A = some ⟨g, 0, none⟩ → b ≠ g) : Own (W.setCell ⟨b, o, none⟩ u) B e size A n c xs := by
  refine ⟨h.1, ?_⟩
  rcases h.2 with h2 | ⟨g, cap, cur, hv, hg, hh, r⟩
  · exact .inl h2
  · refine .inr ⟨g, cap, cur, hv, hg, ?_, r⟩
    have hbg : b ≠ g := hne g (by injection hv)
    have e1 : (W.setCell ⟨b, o, none⟩ u).heap[g]? = W.heap[g]? := by
      unfold World.setCell
      simp only [Array.getElem?_modify, if_neg hbg]
    rw [e1]; exact hh
end Go

namespace Go
open RowKit
/-- block g is a row of cap elements, not frozen, the call's own from 'base' on -/
def Row (w : World) (base : Nat) (e : TypeId) (size g cap : Nat) (cur : List Value) : Prop :=
  base ≤ g ∧ w.heap[g]? = some (.cells cur.toArray e (0, 0)) ∧ cap ≤ maxLen ∧ cur.length = cap * size
section
variable {w : World} {base : Nat} {e : TypeId} {size g cap : Nat} {cur : List Value}
theorem Row.lt (h : Row w base e size g cap cur) : g < w.heap.size := (Array.getElem?_eq_some_iff.1 h.2.1).1
theorem Row.len (h : Row w base e size g cap cur) : cur.length = cap * size := h.2.2.2
theorem Row.own (h : Row w base e size g cap cur) {n : Nat} (hn : n ≤ cap) : Own w base e size (some ⟨g, 0, none⟩) n cap (cur.take (n * size)) :=
  ⟨by rw [List.length_take, h.len]; exact Nat.min_eq_left (Nat.mul_le_mul_right _ hn), .inr ⟨g, cap, cur.toArray, rfl, h.1, h.2.1, hn, h.2.2.1, by simpa using h.len, by simp⟩⟩
theorem Own.row {A : Option Addr} {n c : Nat} {xs : List Value} (h : Own w base e size A n c xs) : (A = none ∧ n = 0 ∧ c = 0 ∧ xs = []) ∨ ∃ g cur, A = some ⟨g, 0, none⟩ ∧ Row w base e size g c cur ∧ n ≤ c ∧ cur.take (n * size) = xs := by
  rcases h.2 with ⟨hv, hn⟩ | ⟨g, cap, cur, hv, hb, hg, hnc, hm, hs, ht⟩
  · injection hv with h1 h2 h3
    refine .inl ⟨h1, hn, h3, List.eq_nil_of_length_eq_zero ?_⟩
    rw [h.1, hn, Nat.zero_mul]
  · injection hv with h1 h2 h3
    subst h1 h3
    exact .inr ⟨g, cur.toList, rfl, ⟨hb, by simpa using hg, hm, by simpa using hs⟩, hnc, ht⟩
theorem Row.cell (h : Row w base e size g cap cur) {j : Nat} {u : Value} (hu : cur[j]? = some u) : w.cell? ⟨g, j, none⟩ = some u := by
  simp [World.cell?, h.2.1, hu]
theorem Row.frozen (h : Row w base e size g cap cur) (j : Nat) : w.frozen? ⟨g, j, none⟩ = false := by
  simp [World.frozen?, h.2.1]
theorem Row.sl (h : Row w base e size g cap cur) {i n c : Nat} {xs : List Value} (hi : i + n ≤ cap) (hnc : n ≤ c) (hx : (cur.drop (i * size)).take (n * size) = xs) : Sl w size (some ⟨g, i * size, none⟩) n c xs := by
  have hle : i * size + n * size ≤ cap * size := by rw [← Nat.add_mul]; exact Nat.mul_le_mul_right _ hi
  refine ⟨hnc, by rw [← hx, List.length_take, List.length_drop, h.len]; omega, fun _ => ⟨g, _, rfl, h.lt, fun j u hu => h.cell ?_⟩⟩
  rw [← hx, List.getElem?_take] at hu
  split at hu
  · rwa [List.getElem?_drop] at hu
  · cases hu
theorem Row.set (h : Row w base e size g cap cur) {cur' : List Value} (hs : cur'.length = cur.length) : Row (w.setRow g cur'.toArray) base e size g cap cur' :=
  ⟨h.1, setRow_heap w g _ _ e _ h.2.1, h.2.2.1, by rw [hs]; exact h.len⟩
theorem Row.bel_set (h : Row w base e size g cap cur) {wB : World} (hb : Bel wB w) (hB : wB.heap.size ≤ g) (cur' : Array Value) : Bel wB (w.setRow g cur') :=
  ⟨⟨hb.os, hb.tape, hb.output, by unfold World.setRow; simpa using hb.size, fun k hk => by rw [setRow_other w g k cur' (by omega)]; exact hb.block k hk⟩, hb.mono⟩
theorem Row.bel {w' : World} (h : Row w base e size g cap cur) (hb : Bel w w') : Row w' base e size g cap cur := ⟨h.1, by rw [hb.block g h.lt]; exact h.2.1, h.2.2⟩
theorem Row.base_le {base' : Nat} (h : Row w base e size g cap cur) (hb : base' ≤ base) : Row w base' e size g cap cur := ⟨Nat.le_trans hb h.1, h.2⟩
theorem Row.alloc_new (W : World) {base cap : Nat} (cs : Array Value) (e : TypeId) {size : Nat} (hB : base ≤ W.heap.size) (hm : cap ≤ maxLen) (hs : cs.size = cap * size) : Row (W.alloc (.cells cs e)) base e size W.heap.size cap cs.toList :=
  ⟨hB, by unfold World.alloc; simp, hm, by simpa using hs⟩
end
section
variable {P : Program} {ops : Array Oper} {rest : List Oper} {o : Oper} {a : Act} {Q : Exit → Act → World → Prop}
theorem run_copy_rowk {t e : TypeId} {z : Value} {size bytes : Nat} (hT : SlT P t e z size bytes) {W : World} {base g cap : Nat} {cur : List Value} (hg : Row W base e size g cap cur) (off dLen dCap : Nat) {ad : Addr} {sLen sCap : Nat} {cs : List Value} (ty : TypeId)
    (hn : cs.length = Nat.min sLen dLen * size) (hsrc : ∀ j v, cs[j]? = some v → W.cell? (ad.add j) = some v) (hfit : off + cs.length ≤ cur.length) (h1 : ∀ v ∈ cs, v.oneCell' = true) :
    (Builtin.copy_ #[t, t] ty #[.slice (some ⟨g, off, none⟩) dLen dCap, .slice (some ad) sLen sCap]).run P W = .ok (goInt (Nat.min sLen dLen)) (W.setRow g (cur.take off ++ cs ++ cur.drop (off + cs.length)).toArray) := by
  obtain ⟨i, hi, hz0, hz1, hz2⟩ := info_parts hT.info
  have hl := run_loadCells_list (P := P) W ad cs hsrc
  have hst := run_storeCells_at P g off e cs 0 cur.toArray W hg.2.1 (by simpa using hfit) h1
  simp only [Nat.add_zero] at hst
  have hcnt : Nat.min sLen dLen * i.size = cs.length := by rw [hz1, hn]
  simp [Builtin.copy_, run_underlying hT.und, Builtin.lenOf, Builtin.firstCells, sizeOf, typeInfo, hi, hcnt, hl, hst]
/-- copy into a row of the call's own -/
theorem copy_row {t e : TypeId} {z : Value} {size bytes : Nat} (hT : SlT P t e z size bytes) {W : World} {base g cap : Nat} {cur : List Value} (hg : Row W base e size g cap cur) (off dLen dCap : Nat) {b so sLen sCap : Nat} (cs : List Value)
    (hn : cs.length = Nat.min sLen dLen * size) (hsrc : ∀ j v, cs[j]? = some v → W.cell? ⟨b, so + j, none⟩ = some v) (hfit : off + cs.length ≤ cur.length) (h1 : ∀ v ∈ cs, v.oneCell' = true)
    (hgd : o.guard = none) (d s : Operand) (ho : o.op = .call { callee := .builtin .copy, args := #[d, s], argTypes := #[t, t] })
    (hd : a.eval d = .slice (some ⟨g, off, none⟩) dLen dCap) (hs : a.eval s = .slice (some ⟨b, so, none⟩) sLen sCap)
    (h : wpList P ops Q rest (a.put o.dst (goInt (Nat.min sLen dLen))) (W.setRow g (cur.take off ++ cs ++ cur.drop (off + cs.length)).toArray)) : wpList P ops Q (o :: rest) a W := by
  have hr := run_copy_rowk (P := P) hT hg off dLen dCap (ad := ⟨b, so, none⟩) (sLen := sLen) (sCap := sCap) (cs := cs) o.type hn (fun j v hj => by
    have e1 : (⟨b, so, none⟩ : Addr).add j = ⟨b, so + j, none⟩ := by
      unfold Addr.add; split
      · rename_i h0; rw [h0]; rfl
      · rfl
    rw [e1]; exact hsrc j v hj) hfit h1
  refine wpList_plain hgd fun K hK => ?_
  unfold Oper.wp execOp
  simp only [ho, resolve, invoke, builtin, Sem.run_bind, Sem.run_pure, Result.andThen_ok, List.map_toArray, List.map_cons, List.map_nil, hd, hs, hr]
  exact hK _ _ h
theorem Row.oth {W : World} {base g cap : Nat} {e : TypeId} {size : Nat} {cur cur' : List Value} (hg : Row W base e size g cap cur) {s b so n c : Nat} {xs : List Value} (hne : b ≠ g) (h : Sl W s (some ⟨b, so, none⟩) n c xs) : Sl (W.setRow g cur'.toArray) s (some ⟨b, so, none⟩) n c xs :=
  ⟨h.1, h.2.1, fun hn => by
    obtain ⟨b', o', hA, hb, hc⟩ := h.2.2 hn
    injection hA with hA
    injection hA with e1 e2
    subst e1 e2
    refine ⟨b, so, rfl, by unfold World.setRow; simpa using hb, fun j u hu => ?_⟩
    have h1 := hc j u hu
    unfold World.cell? at h1 ⊢
    rw [setRow_other W g b _ hne]; exact h1⟩
/-- copy into a row of the call's own; the world behind it under a new name -/
theorem copy_rowC {t e : TypeId} {z : Value} {size bytes : Nat} (hT : SlT P t e z size bytes) {wB W : World} (hb : Bel wB W) {g cap : Nat} {cur : List Value} (hg : Row W wB.heap.size e size g cap cur) (off dLen dCap : Nat) {b so sLen sCap : Nat} (cs : List Value)
    (hn : cs.length = Nat.min sLen dLen * size) (hsrc : ∀ j v, cs[j]? = some v → W.cell? ⟨b, so + j, none⟩ = some v) (hfit : off + cs.length ≤ cur.length) (h1 : ∀ v ∈ cs, v.oneCell' = true)
    (hgd : o.guard = none) (d s : Operand) (ho : o.op = .call { callee := .builtin .copy, args := #[d, s], argTypes := #[t, t] })
    (hd : a.eval d = .slice (some ⟨g, off, none⟩) dLen dCap) (hs : a.eval s = .slice (some ⟨b, so, none⟩) sLen sCap)
    (h : ∀ W2 C, Hid (C = cur.take off ++ (cs ++ cur.drop (off + cs.length))) → Row W2 wB.heap.size e size g cap C → Bel wB W2 → (∀ s b so n c xs, b ≠ g → Sl W s (some ⟨b, so, none⟩) n c xs → Sl W2 s (some ⟨b, so, none⟩) n c xs) → wpList P ops Q rest (a.put o.dst (goInt (Nat.min sLen dLen))) W2) : wpList P ops Q (o :: rest) a W := by
  refine copy_row hT hg off dLen dCap cs hn hsrc hfit h1 hgd d s ho hd hs ?_
  rw [List.append_assoc]
  refine h _ _ (Lib.hid rfl) (hg.set ?_) (hg.bel_set hb hg.1 _) (fun s b so n c xs hne hS => hg.oth hne hS)
  simp only [List.length_append, List.length_take, List.length_drop]; omega
/-- append in place: there is room -/
theorem append_room {t e : TypeId} {z : Value} {size bytes : Nat} (hT : SlT P t e z size bytes) {W : World} {base g cap n : Nat} {cur : List Value} (hg : Row W base e size g cap cur) {b so m c' : Nat} {news : List Value} (hsrc : Sl W size (some ⟨b, so, none⟩) m c' news) (h1 : ∀ u ∈ news, u.oneCell' = true) (hroom : n + m ≤ cap)
    (hgd : o.guard = none) (s x : Operand) (ho : o.op = .call { callee := .builtin .append, args := #[s, x], argTypes := #[t, t] })
    (hs : a.eval s = .slice (some ⟨g, 0, none⟩) n cap) (hx : a.eval x = .slice (some ⟨b, so, none⟩) m c')
    (h : wpList P ops Q rest (a.put o.dst (.slice (some ⟨g, 0, none⟩) (n + m) cap)) (W.setRow g (cur.take (n * size) ++ news ++ cur.drop (n * size + news.length)).toArray)) : wpList P ops Q (o :: rest) a W := by
  obtain ⟨i, hi, hz0, hz1, hz2⟩ := info_parts hT.info
  have hfit : n * i.size + news.length ≤ cur.toArray.size := by rw [hsrc.len, hz1, List.size_toArray, hg.len, ← Nat.add_mul]; exact Nat.mul_le_mul_right _ hroom
  have add0 : ∀ (b off j : Nat), (⟨b, off, none⟩ : Addr).add j = ⟨b, off + j, none⟩ := fun b off j => by
    unfold Addr.add; split
    · rename_i h0; rw [h0]; rfl
    · rfl
  have hr := run_append_room (P := P) W t o.type e i hT.und hi g n cap cur.toArray hg.2.1 ⟨b, so, none⟩ m c' news (by rw [hz1]; exact hsrc.len) (fun j u hu => by rw [add0]; exact hsrc.cell hu) h1 hroom hfit
  rw [hz1] at hr
  refine wpList_plain hgd fun K hK => ?_
  unfold Oper.wp execOp
  simp only [ho, resolve, invoke, builtin, Sem.run_bind, Sem.run_pure, Result.andThen_ok, List.map_toArray, List.map_cons, List.map_nil, hs, hx, hr]
  exact hK _ _ (by simpa using h)
/-- append of k zero elements where there is no room: a new row -/
theorem append_zeros {t tn e : TypeId} {z : Value} {size bytes : Nat} (hT : SlT P t e z size bytes) (htn : P.underlying tn = some (.int .i64)) {wB W : World} (hb : Bel wB W) {b so n c k : Nat} {xs : List Value} (hsl : Sl W size (some ⟨b, so, none⟩) n c xs) (h0 : 0 < k) (hg : c < n + k) (hlen : n + k ≤ 4294967296) (hc : c ≤ 4294967296)
    (hgd : o.guard = none) (s x : Operand) (ho : o.op = .call { callee := .builtin .append, args := #[s, x], argTypes := #[t, tn] })
    (hs : a.eval s = .slice (some ⟨b, so, none⟩) n c) (hx : a.eval x = .int .i64 k)
    (h : ∀ G W' cur, Bel wB W' → Bel W W' → Row W' wB.heap.size e size W.heap.size G cur → n + k ≤ G → cur.take (n * size) = xs → wpList P ops Q rest (a.put o.dst (.slice (some ⟨W.heap.size, 0, none⟩) (n + k) G)) W') : wpList P ops Q (o :: rest) a W := by
  obtain ⟨i, hi, hz0, hz1, hz2⟩ := info_parts hT.info
  have add0 : ∀ (b off j : Nat), (⟨b, off, none⟩ : Addr).add j = ⟨b, off + j, none⟩ := fun b off j => by
    unfold Addr.add; split
    · rename_i h0; rw [h0]; rfl
    · rfl
  have hold : (Builtin.firstCells i.size n (.slice (some ⟨b, so, none⟩) n c)).run P W.drew = .ok xs.toArray W.drew := by
    have hl := run_loadCells_list (P := P) W.drew ⟨b, so, none⟩ xs (fun j v hj => by rw [add0]; exact (hsl.bel (Bel.refl W).drew).cell hj)
    have e1 : n * i.size = xs.length := by rw [hz1, hsl.len]
    simp [Builtin.firstCells, e1, hl]
  have hby : ∀ m : Nat, m ≤ 4294967296 → m * i.bytes ≤ 140737488355328 := fun m hm => by rw [hz2]; exact Nat.le_trans (Nat.mul_le_mul hm hT.small) (by decide)
  have hr := Lib.run_append_grow_zeros (P := P) W t tn o.type e i z .i64 .i64 hT.und htn hi hz0 (some ⟨b, so, none⟩) n c xs hold k h0 (by rw [hz1]; exact hT.pos) hg (by omega) (Nat.le_trans (hby k (by omega)) (by decide))
    (growslice_fits (by omega) (hby _ hlen))
  have hGn : n + k ≤ grownCap W (n + k) c e := grownCap_ge W _ _ _
  have hG2 := grownCap_le_maxLen W (n + k) c e (by unfold maxLen; omega)
  have hzc : ∀ m, (Builtin.zeroCells z.cells m).size = m * size := fun m => by rw [size_zeroCells, hT.zs, Nat.mul_comm]
  refine wpList_plain hgd fun K hK => ?_
  unfold Oper.wp execOp
  simp only [ho, resolve, invoke, builtin, Sem.run_bind, Sem.run_pure, Result.andThen_ok, List.map_toArray, List.map_cons, List.map_nil, hs, hx, hr]
  refine hK _ _ (h _ _ _ ((hb.drew).alloc _) (((Bel.refl W).drew).alloc _) (Row.alloc_new W.drew _ e hb.size hG2 ?_) hGn ?_)
  · simp only [Array.size_append, hzc, List.size_toArray, hsl.len]
    rw [← Nat.add_mul, ← Nat.add_mul]
    congr 1; omega
  · simp only [Array.toList_append, List.append_assoc]
    rw [← hsl.len, List.take_left]
/-- clear of a part of a row -/
theorem clear_row {t e : TypeId} {z : Value} {size bytes : Nat} (hT : SlT P t e z size bytes) (hz : ∀ w, (zeroValue e).run P w = .ok z w) (h1 : ∀ u ∈ z.cells.toList, u.oneCell' = true) {W : World} {base g cap i n c : Nat} {cur : List Value} (hg : Row W base e size g cap cur) (hin : i + n ≤ cap)
    (hgd : o.guard = none) (s : Operand) (ho : o.op = .call { callee := .builtin .clear, args := #[s], argTypes := #[t] })
    (hs : a.eval s = .slice (some ⟨g, i * size, none⟩) n c)
    (h : ∀ cur', Row (W.setRow g cur'.toArray) base e size g cap cur' → cur'.take (i * size) = cur.take (i * size) → wpList P ops Q rest (a.put o.dst (.tuple #[])) (W.setRow g cur'.toArray)) : wpList P ops Q (o :: rest) a W := by
  have hself : W = W.setRow g cur.toArray := (setRow_self W g cur.toArray e (0, 0) hg.2.1).symm
  have hrun : ∃ cur' : List Value, cur'.length = cur.length ∧ cur'.take (i * size) = cur.take (i * size) ∧ (Builtin.clear_ #[t] o.type #[.slice (some ⟨g, i * size, none⟩) n c]).run P W = .ok (.tuple #[]) (W.setRow g cur'.toArray) := by
    cases n with
    | zero => exact ⟨cur, rfl, rfl, by rw [← hself]; simp [Builtin.clear_, run_underlying hT.und]⟩
    | succ n =>
      have hzs : (Builtin.zeroCells z.cells (n + 1)).toList.length = (n + 1) * size := by simp [size_zeroCells, hT.zs]
      have hone : ∀ v ∈ (Builtin.zeroCells z.cells (n + 1)).toList, v.oneCell' = true := by
        intro v hv
        have e1 : (Builtin.zeroCells z.cells (n + 1)).toList = (List.replicate (n + 1) z.cells.toList).flatten := made_mul z.cells (n + 1) (by rw [hT.zs]; exact hT.pos)
        rw [e1, List.mem_flatten] at hv
        obtain ⟨l, hl, hv⟩ := hv
        rw [List.eq_of_mem_replicate hl] at hv
        exact h1 v hv
      have hle : i * size + (n + 1) * size ≤ cap * size := by rw [← Nat.add_mul]; exact Nat.mul_le_mul_right _ hin
      have hst := run_storeCells_at P g (i * size) e (Builtin.zeroCells z.cells (n + 1)).toList 0 cur.toArray W hg.2.1 (by rw [hzs, List.size_toArray, hg.len]; omega) hone
      simp only [Nat.add_zero] at hst
      refine ⟨cur.take (i * size) ++ (Builtin.zeroCells z.cells (n + 1)).toList ++ cur.drop (i * size + (Builtin.zeroCells z.cells (n + 1)).toList.length), ?_, ?_, ?_⟩
      · simp only [List.length_append, List.length_take, List.length_drop, hzs, hg.len]; omega
      · rw [List.append_assoc, List.take_append_of_le_length (by rw [List.length_take, hg.len]; omega), List.take_take, Nat.min_self]
      · simp [Builtin.clear_, run_underlying hT.und, hz, hst]
  obtain ⟨cur', hl, ht, hr⟩ := hrun
  refine wpList_plain hgd fun K hK => ?_
  unfold Oper.wp execOp
  simp only [ho, resolve, invoke, builtin, Sem.run_bind, Sem.run_pure, Result.andThen_ok, List.map_toArray, List.map_cons, List.map_nil, hs, hr]
  exact hK _ _ (h cur' (hg.set hl) ht)
theorem append_roomC {t e : TypeId} {z : Value} {size bytes : Nat} (hT : SlT P t e z size bytes) {wB W : World} (hb : Bel wB W) {g cap n : Nat} {cur : List Value} (hg : Row W wB.heap.size e size g cap cur) {b so m c' : Nat} {news : List Value} (hsrc : Sl W size (some ⟨b, so, none⟩) m c' news) (h1 : ∀ u ∈ news, u.oneCell' = true) (hroom : n + m ≤ cap)
    (hgd : o.guard = none) (s x : Operand) (ho : o.op = .call { callee := .builtin .append, args := #[s, x], argTypes := #[t, t] })
    (hs : a.eval s = .slice (some ⟨g, 0, none⟩) n cap) (hx : a.eval x = .slice (some ⟨b, so, none⟩) m c')
    (h : ∀ W2 C, Hid (C = cur.take (n * size) ++ (news ++ cur.drop (n * size + news.length))) → Row W2 wB.heap.size e size g cap C → Bel wB W2 → (∀ s b so n c xs, b ≠ g → Sl W s (some ⟨b, so, none⟩) n c xs → Sl W2 s (some ⟨b, so, none⟩) n c xs) → wpList P ops Q rest (a.put o.dst (.slice (some ⟨g, 0, none⟩) (n + m) cap)) W2) : wpList P ops Q (o :: rest) a W := by
  refine append_room hT hg hsrc h1 hroom hgd s x ho hs hx ?_
  rw [List.append_assoc]
  refine h _ _ (Lib.hid rfl) (hg.set ?_) (hg.bel_set hb hg.1 _) (fun s b so n c xs hne hS => hg.oth hne hS)
  have : n * size + m * size ≤ cap * size := by rw [← Nat.add_mul]; exact Nat.mul_le_mul_right _ hroom
  simp only [List.length_append, List.length_take, List.length_drop, hsrc.len, hg.len]; omega
theorem clear_rowC {t e : TypeId} {z : Value} {size bytes : Nat} (hT : SlT P t e z size bytes) (hz : ∀ w, (zeroValue e).run P w = .ok z w) (h1 : ∀ u ∈ z.cells.toList, u.oneCell' = true) {wB W : World} (hb : Bel wB W) {g cap i n c : Nat} {cur : List Value} (hg : Row W wB.heap.size e size g cap cur) (hin : i + n ≤ cap)
    (hgd : o.guard = none) (s : Operand) (ho : o.op = .call { callee := .builtin .clear, args := #[s], argTypes := #[t] })
    (hs : a.eval s = .slice (some ⟨g, i * size, none⟩) n c)
    (h : ∀ W2 C, Row W2 wB.heap.size e size g cap C → Bel wB W2 → Hid (C.take (i * size) = cur.take (i * size)) → wpList P ops Q rest (a.put o.dst (.tuple #[])) W2) : wpList P ops Q (o :: rest) a W :=
  clear_row hT hz h1 hg hin hgd s ho hs fun C hr ht => h _ _ hr (hg.bel_set hb hg.1 _) (Lib.hid ht)
end
end Go

namespace Go
open RowKit
/-- a cell of a block of W that may be written -/
structure Held (W : World) (b o : Nat) (v : Value) : Prop where
  lt : b < W.heap.size
  eq : W.cell? ⟨b, o, none⟩ = some v
  fr : W.frozen? ⟨b, o, none⟩ = false
theorem Held.bel {W W' : World} {b o : Nat} {v : Value} (h : Held W b o v) (hb : Bel W W') : Held W' b o v := by
  obtain ⟨x, rfl⟩ := ext_of hb
  exact ⟨by rw [size_ext]; have := h.lt; omega, by rw [cell_ext _ _ _ _ h.lt]; exact h.eq, by rw [frozen_ext _ _ _ _ h.lt]; exact h.fr⟩
theorem Held.new {W W' : World} {cs : Array Value} {e : TypeId} {j : Nat} {v : Value} (hb : Bel (W.alloc (.cells cs e)) W') (hv : cs[j]? = some v) : Held W' W.heap.size j v := by
  have h : Held (W.alloc (.cells cs e)) W.heap.size j v := ⟨by simp, by simp [go_sem, hv], by simp [go_sem]⟩
  exact h.bel hb
theorem own_split {w W' : World} {B : Nat} {e : TypeId} {size n c : Nat} {A : Option Addr} {xs : List Value} (h : ∃ y, W' = ext w y ∧ Own (ext w y) B e size A n c xs) : ∃ y, W' = ext w y := let ⟨y, hy, _⟩ := h; ⟨y, hy⟩
theorem own_here {w W' : World} {B : Nat} {e : TypeId} {size n c : Nat} {A : Option Addr} {xs : List Value} (h : ∃ y, W' = ext w y ∧ Own (ext w y) B e size A n c xs) : Own W' B e size A n c xs := by
  obtain ⟨y, rfl, h⟩ := h; exact h
/-- worlds that differ in block g alone -/
structure Apart (g : Nat) (W W' : World) : Prop where
  os : W'.os = W.os
  tape : W'.tape = W.tape
  output : W'.output = W.output
  size : W'.heap.size = W.heap.size
  drawn : W.drawn ≤ W'.drawn
  block : ∀ b, b ≠ g → W'.heap[b]? = W.heap[b]?
theorem Apart.refl (g : Nat) (W : World) : Apart g W W := ⟨rfl, rfl, rfl, rfl, Nat.le_refl _, fun _ _ => rfl⟩
theorem Apart.trans {g : Nat} {W W1 W2 : World} (h : Apart g W W1) (k : Apart g W1 W2) : Apart g W W2 :=
  ⟨k.os.trans h.os, k.tape.trans h.tape, k.output.trans h.output, k.size.trans h.size, Nat.le_trans h.drawn k.drawn, fun b hb => (k.block b hb).trans (h.block b hb)⟩
theorem Apart.setCell {g : Nat} {W W1 : World} (h : Apart g W W1) (o : Nat) (u : Value) : Apart g W (W1.setCell ⟨g, o, none⟩ u) :=
  h.trans ⟨rfl, rfl, rfl, by simp [World.setCell], Nat.le_refl _, fun b hb => by unfold World.setCell; simp only [Array.getElem?_modify, if_neg (Ne.symm hb)]⟩
theorem Apart.bel {g : Nat} {w W W1 : World} (h : Apart g W W1) (hb : Bel w W) (hg : w.heap.size ≤ g) : Bel w W1 :=
  ⟨⟨h.os.trans hb.os, h.tape.trans hb.tape, h.output.trans hb.output, by rw [h.size]; exact hb.size, fun k hk => (h.block k (by omega)).trans (hb.block k hk)⟩, Nat.le_trans hb.mono h.drawn⟩
theorem Held.apart {g : Nat} {W W' : World} {b o : Nat} {v : Value} (h : Held W b o v) (ha : Apart g W W') (hne : b ≠ g) : Held W' b o v :=
  ⟨by rw [ha.size]; exact h.lt, by have := h.eq; unfold World.cell? at this ⊢; rw [ha.block b hne]; exact this, by have := h.fr; unfold World.frozen? at this ⊢; rw [ha.block b hne]; exact this⟩
theorem Sl.apart {g : Nat} {W W' : World} {size n c : Nat} {A : Option Addr} {xs : List Value} (h : Sl W size A n c xs) (ha : Apart g W W') (hne : ∀ b o, A = some ⟨b, o, none⟩ → b ≠ g) : Sl W' size A n c xs :=
  ⟨h.1, h.2.1, fun hn => by
    obtain ⟨b, o, hA, hb, hc⟩ := h.2.2 hn
    refine ⟨b, o, hA, by rw [ha.size]; exact hb, fun j u hu => ?_⟩
    have h1 := hc j u hu
    unfold World.cell? at h1 ⊢
    rw [ha.block b (hne b o hA)]; exact h1⟩
theorem Own.ne {W : World} {B : Nat} {e : TypeId} {size n c : Nat} {A : Option Addr} {xs : List Value} (h : Own W B e size A n c xs) {g : Nat} (hg : g < B) : ∀ b o, A = some ⟨b, o, none⟩ → b ≠ g := by
  intro b o hA
  rcases h.row with ⟨h0, _⟩ | ⟨g', cur, h0, hr, _⟩
  · rw [hA] at h0; cases h0
  · have e1 : b = g' := by rw [hA] at h0; injection h0 with h0; injection h0
    have := hr.1
    omega
end Go
namespace Go
open RowKit
theorem Own.ats {W : World} {B : Nat} {e : TypeId} {size n c g : Nat} {xs : List Value} (h : Own W B e size (some ⟨g, 0, none⟩) n c xs) : B ≤ g ∧ g < W.heap.size := by
  rcases h.row with ⟨h0, _⟩ | ⟨g', cur, h0, hr, _⟩
  · cases h0
  · have e1 : g = g' := by injection h0 with h0; injection h0
    subst e1
    exact ⟨hr.1, hr.lt⟩
theorem Own.shape {W : World} {B : Nat} {e : TypeId} {size n c : Nat} {A : Option Addr} {xs : List Value} (h : Own W B e size A n c xs) : (A = none ∧ n = 0) ∨ ∃ g, A = some ⟨g, 0, none⟩ ∧ B ≤ g ∧ g < W.heap.size := by
  rcases h.row with ⟨h0, h1, _⟩ | ⟨g', cur, h0, hr, _⟩
  · exact .inl ⟨h0, h1⟩
  · exact .inr ⟨g', h0, hr.1, hr.lt⟩
end Go

namespace Go
open Go.ChangeShapes Go.WideShapes Go.ChangeAt Go.RowKit
section
variable {H : Type} {enc : TypeId × Value → H} {P : Program} {w : World} {base : Nat} {spare : Nat → Bool} {held : Bool}
/-- a field of a struct -/
theorem field_at {t : TypeId} {fs : Array Field} {fuel : Nat} {cs : List Value} {x : DataW H × List MemPlace} (hs : P.underlying t = some (.struct fs)) (h : DataW.trod enc P w base spare held fuel t cs = some x)
    {i : Nat} {f : Field} (hf : fs[i]? = some f) {off n : Nat} {ft : TypeId} (ho : f.offset = off) (ht : f.type = ft) (hn : P.cellsOf ft = n) : ∃ m y, DataW.trod enc P w base spare held m ft ((cs.drop off).take n) = some y := by
  obtain ⟨xs, m, _, _, _, hlen, hg⟩ := DataW.trod_struct hs h
  have h1 := hg i f hf
  subst ho ht hn
  have hi : i < xs.length := by rw [hlen]; exact (Array.getElem?_eq_some_iff.1 hf).1
  exact ⟨m, xs[i], by rw [h1, List.getElem?_eq_getElem hi]⟩
theorem int_cell {t : TypeId} {k : IntKind} {fuel : Nat} {cs : List Value} {x : DataW H × List MemPlace} (ht : P.underlying t = some (.int k)) (h : DataW.trod enc P w base spare held fuel t cs = some x) : ∃ n, cs = [.int k n] ∧ (Lit.int k n).wf = true := by
  obtain ⟨n, h1, _, h2⟩ := DataW.trod_int ht h; exact ⟨n, h1, h2⟩
theorem wf_i64 {n : Int} (h : (Lit.int .i64 n).wf = true) : -9223372036854775808 ≤ n ∧ n ≤ 9223372036854775807 := bounds_i64 h
theorem wf_u8 {n : Int} (h : (Lit.int .u8 n).wf = true) : 0 ≤ n ∧ n ≤ 255 := bounds_u8 h
theorem bytes_of (zs : List Int) (h : ∀ n ∈ zs, (Lit.int .u8 n).wf = true) : ∃ l : List UInt8, zs = l.map fun x => (x.toNat : Int) := by
  induction zs with
  | nil => exact ⟨[], rfl⟩
  | cons z zs ih =>
    obtain ⟨l, rfl⟩ := ih (fun n hn => h n (List.mem_cons_of_mem _ hn))
    have hz := wf_u8 (h z (List.mem_cons_self ..))
    refine ⟨UInt8.ofNat z.toNat :: l, ?_⟩
    rw [List.map_cons]
    congr 1
    simp; omega
/-- bytes that came in -/
theorem arg_bytes {t e : TypeId} {fuel : Nat} {A : Option Addr} {n c : Nat} {x : DataW H × List MemPlace} (ht : P.underlying t = some (.slice e)) (he : P.underlying e = some (.int .u8)) (hc : P.cellsOf e = 1)
    (h : DataW.trod enc P w base (fun _ => true) held fuel t [Value.slice A n c] = some x) : ∃ l : List UInt8, l.length = n ∧ Sl w 1 A l.length c (vb l) := by
  rcases open_ints ht he hc h with ⟨hcs, _⟩ | ⟨a, len, cap, zs, hcs, _, hl, hm, hz, _, hcell, hwz⟩
  · simp only [List.cons.injEq, and_true] at hcs
    injection hcs with h1 h2 h3
    subst h1 h2 h3
    exact ⟨[], rfl, Sl.nil_ _ _ _ _⟩
  · simp only [List.cons.injEq, and_true] at hcs
    injection hcs with h1 h2 h3
    subst h1 h2 h3
    have hz' : zs.length = c := by simpa using hz
    obtain ⟨l, hl'⟩ := bytes_of (zs.take n) (fun m hm => hwz m (List.mem_of_mem_take hm))
    have hlen : l.length = n := by
      have := congrArg List.length hl'
      rw [List.length_take, List.length_map] at this; omega
    refine ⟨l, hlen, by omega, by rw [vb_length]; omega, fun hn => ?_⟩
    obtain ⟨b, o, spot⟩ := a
    have h0 := hcell 0 (by omega)
    have hspot : spot = none := by simpa [Addr.add] using World.cell?_spot h0
    subst hspot
    refine ⟨b, o, rfl, ?_, fun j u hu => ?_⟩
    · have hb := World.block_lt_of_cell? w _ h0
      simpa [Addr.add] using hb
    · rw [vb_get] at hu
      have hj : j < l.length := by
        rcases Nat.lt_or_ge j l.length with h | h
        · exact h
        · rw [List.getElem?_eq_none h] at hu; cases hu
      have h1 := hcell j (by omega)
      have e1 : (⟨b, o, none⟩ : Addr).add j = ⟨b, o + j, none⟩ := by
        unfold Addr.add; split
        · rename_i h0; rw [h0]; rfl
        · rfl
      rw [e1] at h1
      rw [h1, ← hu]
      have e2 : (zs.take n)[j]? = some (zs.getD j 0) := by
        rw [List.getElem?_take, if_pos (by omega), List.getD_eq_getElem?_getD, List.getElem?_eq_getElem (by omega)]; rfl
      rw [hl'] at e2
      rw [List.getElem?_map] at e2
      cases hx : l[j]? with
      | none => rw [hx] at e2; cases e2
      | some y => rw [hx] at e2; simp only [Option.map_some, Option.some.injEq] at e2 ⊢; rw [e2]
end
end Go
namespace Go.Proofs.Ytkcpnclgcmnlcaa
open Go.ChangeShapes Go.WideShapes Go.ChangeAt Go.RowKit
theorem ownKnob_ : ownKnob Try.prog.godebug = none := by kernel_rfl
theorem laidOut_ : laidOutB Try.prog = true := by kernel_rfl
end Go.Proofs.Ytkcpnclgcmnlcaa

namespace Go
open Go.ChangeShapes Go.WideShapes Go.ChangeAt Go.RowKit Go.Deep
theorem choose_below {α : Type} {p : Nat → α → Prop} : ∀ n : Nat, (∀ i, i < n → ∃ v, p i v) → ∃ l : List α, l.length = n ∧ ∀ (i : Nat) (x : α), l[i]? = some x → p i x
  | 0, _ => ⟨[], rfl, fun i x h => by simp at h⟩
  | n + 1, h => by
    obtain ⟨l, hl, hp⟩ := choose_below n fun i hi => h i (by omega)
    obtain ⟨v, hv⟩ := h n (by omega)
    refine ⟨l ++ [v], by simp [hl], fun i x hx => ?_⟩
    rcases Nat.lt_or_ge i n with hi | hi
    · rw [List.getElem?_append_left (by omega)] at hx; exact hp i x hx
    · rw [List.getElem?_append_right (by omega)] at hx
      have : i = n := by
        have := (List.getElem?_eq_some_iff.1 hx).1
        simp at this; omega
      subst this
      simp [hl] at hx
      subst hx; exact hv
theorem flat_get {α : Type} {cells : α → List Value} {k : Nat} (hk : ∀ a, (cells a).length = k) (h0 : 0 < k) : ∀ (l : List α) (j : Nat) (u : Value), (l.flatMap cells)[j]? = some u → ∃ x, l[j / k]? = some x ∧ (cells x)[j % k]? = some u
  | [], j, u, h => by simp at h
  | x :: l, j, u, h => by
    rw [List.flatMap_cons] at h
    rcases Nat.lt_or_ge j k with hj | hj
    · rw [List.getElem?_append_left (by rw [hk]; exact hj)] at h
      rw [Nat.div_eq_of_lt hj, Nat.mod_eq_of_lt hj]
      exact ⟨x, rfl, h⟩
    · rw [List.getElem?_append_right (by rw [hk]; exact hj), hk] at h
      obtain ⟨y, hy, hu⟩ := flat_get hk h0 l (j - k) u h
      obtain ⟨m, rfl⟩ : ∃ m, j = m + k := ⟨j - k, by omega⟩
      rw [Nat.add_sub_cancel] at hy hu
      rw [Nat.add_div_right _ h0, Nat.add_mod_right]
      exact ⟨y, by simpa using hy, hu⟩
theorem flat_len {α : Type} {cells : α → List Value} {k : Nat} (hk : ∀ a, (cells a).length = k) (l : List α) : (l.flatMap cells).length = l.length * k := by
  induction l with
  | nil => simp
  | cons x l ih => rw [List.flatMap_cons, List.length_append, ih, hk, List.length_cons, Nat.add_mul]; omega
section
variable {H : Type} {enc : TypeId × Value → H} {P : Program} {w : World} {base : Nat} {held : Bool}
theorem arg_nil {t e : TypeId} {fuel : Nat} {A : Option Addr} {n c : Nat} {x : DataW H × List MemPlace} (ht : P.underlying t = some (.slice e))
    (h : DataW.trod enc P w base (fun _ => true) held fuel t [Value.slice A n c] = some x) : A = none → c = 0 := by
  rcases open_slice ht h with ⟨hcs, _⟩ | ⟨a, len, cap, m, q, D, Pl, hcs, _⟩
  · simp only [List.cons.injEq, and_true] at hcs
    injection hcs with h1 h2 h3
    intro _; exact h3
  · simp only [List.cons.injEq, and_true] at hcs
    injection hcs with h1 h2 h3
    subst h1; intro h; cases h
/-- A slice that came in: the list of its elements. -/
theorem arg_slice {α : Type} (cells : α → List Value) (ok : α → Prop) {t e : TypeId} {k fuel : Nat} {A : Option Addr} {n c : Nat} {x : DataW H × List MemPlace}
    (ht : P.underlying t = some (.slice e)) (hC : P.cellsOf e = k) (h0 : 0 < k) (hk : ∀ a, (cells a).length = k)
    (hR : ∀ (m : Nat) (l : List Value) (y : DataW H × List MemPlace), DataW.trod enc P w base (fun _ => true) held m e l = some y → l.length = k → ∃ a, l = cells a ∧ ok a)
    (h : DataW.trod enc P w base (fun _ => true) held fuel t [Value.slice A n c] = some x) :
    ∃ l : List α, l.length = n ∧ Sl w k A l.length c (l.flatMap cells) ∧ (∀ a ∈ l, ok a) ∧ (A = none → c = 0) ∧ c ≤ maxLen := by
  rcases open_slice ht h with ⟨hcs, _⟩ | ⟨a, len, cap, m, q, D, Pl, hcs, _, hl, hmx, hm, _, hi⟩
  · simp only [List.cons.injEq, and_true] at hcs
    injection hcs with h1 h2 h3
    subst h1 h2 h3
    exact ⟨[], rfl, Sl.nil_ _ _ _ _, (fun _ h => by cases h), (fun _ => rfl), Nat.zero_le _⟩
  · simp only [List.cons.injEq, and_true] at hcs
    injection hcs with h1 h2 h3
    subst h1 h2 h3
    simp only [if_true] at hm
    subst hm
    obtain ⟨l, hll, hp⟩ := choose_below (α := α) (p := fun i v => (∀ j u, (cells v)[j]? = some u → w.cell? (a.add (i * k + j)) = some u) ∧ ok v) n (fun i hin => by
      obtain ⟨cs', hc, ht'⟩ := hi i (by omega)
      rw [hC] at hc
      obtain ⟨_, hcl, hat⟩ := World.cells?_some hc
      obtain ⟨v, rfl, hv⟩ := hR _ _ _ ht' hcl
      refine ⟨v, fun j u hu => ?_, hv⟩
      have hj : j < k := by rw [← hk v]; exact (List.getElem?_eq_some_iff.1 hu).1
      rw [← Go.Deep.add_add, hat j hj, hu])
    refine ⟨l, hll, ⟨by omega, by rw [flat_len hk, hll], fun hn => ?_⟩, fun v hv => ?_, (fun h => by cases h), hmx⟩
    · obtain ⟨v0, hv0⟩ : ∃ v, l[0]? = some v := ⟨_, List.getElem?_eq_getElem (by omega)⟩
      obtain ⟨u0, hu0⟩ : ∃ u, (cells v0)[0]? = some u := ⟨_, List.getElem?_eq_getElem (by rw [hk]; exact h0)⟩
      have hc0 := (hp 0 v0 hv0).1 0 u0 hu0
      obtain ⟨b, o, spot⟩ := a
      have hspot : spot = none := by simpa [Addr.add] using World.cell?_spot hc0
      subst hspot
      refine ⟨b, o, rfl, ?_, fun j u hu => ?_⟩
      · have hb := World.block_lt_of_cell? w _ hc0
        simpa [Addr.add] using hb
      · obtain ⟨v, hv, huv⟩ := flat_get hk h0 l j u hu
        have h1 := (hp _ v hv).1 _ u huv
        have e0 : j / k * k + j % k = j := by rw [Nat.mul_comm]; exact Nat.div_add_mod j k
        rw [e0] at h1
        have e1 : (⟨b, o, none⟩ : Addr).add j = ⟨b, o + j, none⟩ := by
          unfold Addr.add; split
          · rename_i h0; rw [h0]; rfl
          · rfl
        rw [e1] at h1; exact h1
    · obtain ⟨i, hi'⟩ := List.getElem?_of_mem hv
      exact (hp i v hi').2
end
end Go

namespace Go.Proofs.Ytkcpnclgcmnlcaa
open Go.ChangeShapes Go.WideShapes Go.ChangeAt Go.RowKit Go.Pel Go.Deep
theorem list1 {α : Type} (l : List α) (h : l.length = 1) : ∃ a, l = [a] := by
  match l, h with
  | [a], _ => exact ⟨a, rfl⟩
theorem list2 {α : Type} (l : List α) (h : l.length = 2) : ∃ a b, l = [a, b] := by
  match l, h with
  | [a, b], _ => exact ⟨a, b, rfl⟩
theorem list3 {α : Type} (l : List α) (h : l.length = 3) : ∃ a b c, l = [a, b, c] := by
  match l, h with
  | [a, b, c], _ => exact ⟨a, b, c, rfl⟩
section
variable {H : Type} {enc : TypeId × Value → H} {w : World} {base : Nat} {spare : Nat → Bool} {held : Bool}
theorem cellsF_int : Try.prog.cellsOf 3 = 1 := by kernel_rfl
theorem cellsF_i64 : Try.prog.cellsOf 2 = 1 := by kernel_rfl
theorem cellsF_point : Try.prog.cellsOf 26 = 3 := by kernel_rfl
theorem cellsF_field : Try.prog.cellsOf 24 = 1 := by kernel_rfl
theorem cellsF_points : Try.prog.cellsOf 22 = 1 := by kernel_rfl
theorem point_cells {fuel : Nat} {l : List Value} {x : DataW H × List MemPlace} (h : DataW.trod enc Try.prog w base spare held fuel 26 l = some x) (hl : l.length = 3) :
    ∃ p : Pt, l = [.int .i64 p.id, .int .i64 p.a, .int .i64 p.b] ∧ p.Fits := by
  obtain ⟨c0, c1, c2, rfl⟩ := list3 l hl
  obtain ⟨m4, y4, h4⟩ := field_at Try.underlying26 h (i := 0) rfl rfl rfl cellsF_int
  obtain ⟨m5, y5, h5⟩ := field_at Try.underlying26 h (i := 1) rfl rfl rfl cellsF_i64
  obtain ⟨m6, y6, h6⟩ := field_at Try.underlying26 h (i := 2) rfl rfl rfl cellsF_i64
  obtain ⟨i, e4, w4⟩ := int_cell Try.underlying3 h4
  obtain ⟨a, e5, w5⟩ := int_cell Try.underlying2 h5
  obtain ⟨b, e6, w6⟩ := int_cell Try.underlying2 h6
  simp at e4 e5 e6
  subst e4 e5 e6
  exact ⟨⟨i, a, b⟩, rfl, ⟨wf_i64 w4, wf_i64 w5, wf_i64 w6⟩⟩
theorem point_read (fuel : Nat) (l : List Value) (x : DataW H × List MemPlace) (h : DataW.trod enc Try.prog w base spare held fuel 26 l = some x) (hl : l.length = 3) : ∃ p : Pt, l = p.cells ∧ p.Fits := point_cells h hl
theorem field_cells {fuel : Nat} {l : List Value} {x : DataW H × List MemPlace} (h : DataW.trod enc Try.prog w base (fun _ => true) held fuel 24 l = some x) (hl : l.length = 1) :
    ∃ (A : Option Addr) (c : Nat) (m : List Pt), l = [.slice A m.length c] ∧ Sl w 3 A m.length c (vp m) ∧ (A = none → c = 0) ∧ ∀ p ∈ m, p.Fits := by
  obtain ⟨c0, rfl⟩ := list1 l hl
  obtain ⟨m0, y0, h0⟩ := field_at Try.underlying24 h (i := 0) rfl rfl rfl cellsF_points
  have h0' : DataW.trod enc Try.prog w base (fun _ => true) held m0 22 [c0] = some y0 := by simpa using h0
  obtain ⟨A, n, c, rfl⟩ : ∃ A n c, c0 = Value.slice A n c := by
    rcases open_slice Try.underlying22 h0' with ⟨hcs, _⟩ | ⟨a, len, cap, m, q, D, Pl, hcs, _⟩
    · simp only [List.cons.injEq, and_true] at hcs; exact ⟨_, _, _, hcs⟩
    · simp only [List.cons.injEq, and_true] at hcs; exact ⟨_, _, _, hcs⟩
  have hn := arg_nil Try.underlying22 h0'
  obtain ⟨pts, rfl, hs, hok, _, _⟩ := arg_slice Pt.cells Pt.Fits Try.underlying22 cellsF_point (by decide) (fun _ => rfl) point_read h0'
  exact ⟨A, c, pts, rfl, hs, hn, hok⟩
theorem cellsF_ratio : Try.prog.cellsOf 49 = 2 := by kernel_rfl
theorem ratio_cells {fuel : Nat} {l : List Value} {x : DataW H × List MemPlace} (h : DataW.trod enc Try.prog w base spare held fuel 49 l = some x) (hl : l.length = 2) :
    ∃ n d : Int, l = [.int .i64 n, .int .i64 d] ∧ (-9223372036854775808 ≤ n ∧ n ≤ 9223372036854775807) ∧ (-9223372036854775808 ≤ d ∧ d ≤ 9223372036854775807) := by
  obtain ⟨c0, c1, rfl⟩ := list2 l hl
  obtain ⟨m4, y4, h4⟩ := field_at Try.underlying49 h (i := 0) rfl rfl rfl cellsF_i64
  obtain ⟨m5, y5, h5⟩ := field_at Try.underlying49 h (i := 1) rfl rfl rfl cellsF_i64
  obtain ⟨n, e4, w4⟩ := int_cell Try.underlying2 h4
  obtain ⟨d, e5, w5⟩ := int_cell Try.underlying2 h5
  simp at e4 e5
  subst e4 e5
  exact ⟨n, d, rfl, wf_i64 w4, wf_i64 w5⟩
end
end Go.Proofs.Ytkcpnclgcmnlcaa

namespace Go
open RowKit
structure Box (W : World) (b : Nat) (cs : Array Value) : Prop where
  lt : b < W.heap.size
  eq : ∀ (j : Nat) (v : Value), cs[j]? = some v → W.cell? ⟨b, j, none⟩ = some v
  fr : ∀ (j : Nat), W.frozen? ⟨b, j, none⟩ = false
theorem Box.bel {W W' : World} {b : Nat} {cs : Array Value} (h : Box W b cs) (hb : Bel W W') : Box W' b cs := by
  obtain ⟨x, rfl⟩ := ext_of hb
  exact ⟨by rw [size_ext]; have := h.lt; omega, fun j v hv => by rw [cell_ext _ _ _ _ h.lt]; exact h.eq j v hv, fun j => by rw [frozen_ext _ _ _ _ h.lt]; exact h.fr j⟩
theorem Box.new {W W' : World} {cs : Array Value} {e : TypeId} (hb : Bel (W.alloc (.cells cs e)) W') {b : Nat} (hbk : b = W.heap.size) : Box W' b cs := by
  subst hbk
  have h : Box (W.alloc (.cells cs e)) W.heap.size cs := ⟨by simp, fun j v hv => by simp [go_sem, hv], fun j => by simp [go_sem]⟩
  exact h.bel hb
theorem own_row {W W' : World} {cs : Array Value} {e : TypeId} {size n : Nat} (hb : Bel (W.alloc (.cells cs e)) W') {b : Nat} (hbk : b = W.heap.size) (hn : n ≤ 1000000) (hs : cs.size = n * size) : Own W' b e size (some ⟨b, 0, none⟩) n n cs.toList := by
  subst hbk
  have h : Own (W.alloc (.cells cs e)) W.heap.size e size (some ⟨W.heap.size, 0, none⟩) n n cs.toList := World.ownsRow_lit W cs n (Nat.le_refl _) (Nat.le_trans hn (by unfold maxLen; decide)) hs
  exact h.bel hb
end Go

namespace Go
end Go

namespace Go
open RowKit
section
variable {P : Program} {ops : Array Oper} {o : Oper} {a : Act} {K : Act → World → Prop} {Q : Exit → Act → World → Prop} {E : Prop}
theorem stepg_append_any {t e : TypeId} {z : Value} {size bytes : Nat} (hT : SlT P t e z size bytes) {wB W0 W1 W : World} (hb : Bel wB W)
    {A : Option Addr} {n c : Nat} {xs : List Value} (hown : Own W0 wB.heap.size e size A n c xs) (hb0 : Bel W0 W)
    {A1 : Option Addr} {m c' : Nat} {news : List Value} (hsrc : Sl W1 size A1 m c' news) (hb1 : Bel W1 W) (h1 : ∀ u ∈ news, u.oneCell' = true) (hnil : A1 = none → c' = 0) (hlen : n + m ≤ 4294967296)
    (hw : Region.wanted o (yielded ops a.tmps) = true) (s x : Operand) (ho : o.op = .call { callee := .builtin .append, args := #[s, x], argTypes := #[t, t] })
    (hs : a.eval s = .slice A n c) (hx : a.eval x = .slice A1 m c')
    (h : ∀ A' c'' y, Own (ext wB y) wB.heap.size e size A' (n + m) c'' (xs ++ news) → K (a.put o.dst (.slice A' (n + m) c'')) (ext wB y)) :
    if Region.wanted o (yielded ops a.tmps) = true then Oper.wp P o a W K Q else E := by
  rw [if_pos hw]
  exact oper_append_any hT hb hown hb0 hsrc hb1 h1 hnil hlen s x ho hs hx h
theorem stepg_append_new {t e : TypeId} {z : Value} {size bytes : Nat} (hT : SlT P t e z size bytes) {wB W1 W V : World} (hb : Bel wB W) (hV : Bel (W.alloc (.cells #[] e)) V)
    {A1 : Option Addr} {m c' : Nat} {news : List Value} (hsrc : Sl W1 size A1 m c' news) (hb1 : Bel W1 V) (h1 : ∀ u ∈ news, u.oneCell' = true) (hnil : A1 = none → c' = 0) (hlen : m ≤ 4294967296)
    (hw : Region.wanted o (yielded ops a.tmps) = true) (s x : Operand) (ho : o.op = .call { callee := .builtin .append, args := #[s, x], argTypes := #[t, t] }) {g : Nat}
    (hs : a.eval s = .slice (some ⟨g, 0, none⟩) 0 0) (hx : a.eval x = .slice A1 m c') (hg : g = W.heap.size)
    (h : ∀ A' c'' y, Own (ext wB y) wB.heap.size e size A' m c'' news → K (a.put o.dst (.slice A' m c'')) (ext wB y)) :
    if Region.wanted o (yielded ops a.tmps) = true then Oper.wp P o a V K Q else E := by
  have hbv : Bel wB V := Bel.trans (hb.alloc _) hV
  refine stepg_append_any hT hbv (own_new hb #[] e size 0 g hg (Nat.zero_le _) (by simp)) hV hsrc hb1 h1 hnil (by omega) hw s x ho hs hx fun A' c'' y hown => ?_
  rw [Nat.zero_add] at hown ⊢
  exact h A' c'' y hown
end
end Go
