/- Plain functions for layers 1 and 2: what is valid. -/
import Derived.Test.YtkcpnclgcmnlcaaExt
set_option linter.unusedSimpArgs false
set_option linter.unusedVariables false
namespace Go.Pel
/-- P1.1 -/
def ratioOk (n d : Int) : Bool := decide (1 ≤ d ∧ n ≠ -9223372036854775808 ∧ Nat.gcd d.toNat n.natAbs = 1)
def ratioChk (n d : Int) : Int := if ratioOk n d then 0 else 8
theorem ratioChk_low {n d : Int} (h : d < 1) : ratioChk n d = 8 := by unfold ratioChk ratioOk; rw [if_neg]; simp; omega
theorem ratioChk_min {d : Int} : ratioChk (-9223372036854775808) d = 8 := by unfold ratioChk ratioOk; rw [if_neg]; simp
theorem ratioChk_one {n d : Int} (h1 : 1 ≤ d) (h2 : n ≠ -9223372036854775808) (h3 : Nat.gcd d.toNat n.natAbs = 1) : ratioChk n d = 0 := by unfold ratioChk ratioOk; rw [if_pos]; simp; exact ⟨h1, h2, h3⟩
theorem ratioChk_more {n d : Int} (h3 : Nat.gcd d.toNat n.natAbs ≠ 1) : ratioChk n d = 8 := by unfold ratioChk ratioOk; rw [if_neg]; simp; intro _ _; exact h3
theorem gcd_one {n d : Int} (h : 1 ≤ d) (k : ¬ 1 < Nat.gcd d.toNat n.natAbs) : Nat.gcd d.toNat n.natAbs = 1 := by
  have : 0 < Nat.gcd d.toNat n.natAbs := Nat.gcd_pos_of_pos_left _ (by omega)
  omega
theorem ratioChk_cases (n d : Int) : ratioChk n d = 0 ∨ ratioChk n d = 8 := by unfold ratioChk; split <;> simp
theorem ratioChk_zero {n d : Int} (h : ratioChk n d = 0) : 1 ≤ d ∧ n ≠ -9223372036854775808 ∧ Nat.gcd d.toNat n.natAbs = 1 := by
  unfold ratioChk ratioOk at h; split at h
  · rename_i h'; simpa using h'
  · omega
theorem ratioChk_le (n d : Int) : 0 ≤ ratioChk n d ∧ ratioChk n d ≤ 8 := by rcases ratioChk_cases n d with h | h <;> rw [h] <;> omega
/-- P1.1, asked for -/
def ratioAsked (n d : Int) : Int := if ratioOk n d then (if (n.natAbs ≤ 1073741824 ∧ d ≤ 1024) then 0 else 2) else 8
theorem asked_bad {n d : Int} (h : ratioChk n d = 8) : ratioAsked n d = 8 := by
  unfold ratioAsked; unfold ratioChk at h; split at h
  · omega
  · rename_i h'; rw [if_neg h']
theorem asked_yes {n d : Int} (h : ratioChk n d = 0) (h1 : n.natAbs ≤ 1073741824) (h2 : d ≤ 1024) : ratioAsked n d = 0 := by
  unfold ratioAsked; unfold ratioChk at h; split at h
  · rename_i h'; rw [if_pos h', if_pos ⟨h1, h2⟩]
  · omega
theorem asked_no {n d : Int} (h : ratioChk n d = 0) (h1 : ¬ (n.natAbs ≤ 1073741824 ∧ d ≤ 1024)) : ratioAsked n d = 2 := by
  unfold ratioAsked; unfold ratioChk at h; split at h
  · rename_i h'; rw [if_pos h', if_neg h1]
  · omega
/-- P2.1 -/
def pointOk (i a b : Int) : Bool := decide (0 ≤ i ∧ i ≤ 65535 ∧ -1048576 ≤ a ∧ a ≤ 1048576 ∧ -1048576 ≤ b ∧ b ≤ 1048576)
def pointChk (i a b : Int) : Int := if pointOk i a b then 0 else 8
theorem pointChk_yes {i a b : Int} (h : 0 ≤ i ∧ i ≤ 65535 ∧ -1048576 ≤ a ∧ a ≤ 1048576 ∧ -1048576 ≤ b ∧ b ≤ 1048576) : pointChk i a b = 0 := by unfold pointChk pointOk; rw [if_pos]; simpa using h
theorem pointChk_no {i a b : Int} (h : ¬ (0 ≤ i ∧ i ≤ 65535 ∧ -1048576 ≤ a ∧ a ≤ 1048576 ∧ -1048576 ≤ b ∧ b ≤ 1048576)) : pointChk i a b = 8 := by unfold pointChk pointOk; rw [if_neg]; simpa using h
theorem pointChk_cases (i a b : Int) : pointChk i a b = 0 ∨ pointChk i a b = 8 := by unfold pointChk; split <;> simp
theorem pointChk_zero {i a b : Int} (h : pointChk i a b = 0) : 0 ≤ i ∧ i ≤ 65535 ∧ -1048576 ≤ a ∧ a ≤ 1048576 ∧ -1048576 ≤ b ∧ b ≤ 1048576 := by
  unfold pointChk pointOk at h; split at h
  · rename_i h'; simpa using h'
  · omega
def far (n : Int) : Bool := decide (n < -1048576 ∨ 1048576 < n)
theorem far_yes {n : Int} (h : n < -1048576 ∨ 1048576 < n) : far n = true := by unfold far; exact decide_eq_true h
theorem far_no {n : Int} (h : ¬ (n < -1048576 ∨ 1048576 < n)) : far n = false := by unfold far; exact decide_eq_false h
theorem far_eq (n : Int) : far n = (decide (n < -1048576) || decide (1048576 < n)) := by unfold far; rw [Bool.eq_iff_iff]; simp
theorem far_true {n : Int} (h : far n = true) : n < -1048576 ∨ 1048576 < n := by unfold far at h; simpa using h
theorem far_false {n : Int} (h : far n = false) : -1048576 ≤ n ∧ n ≤ 1048576 := by unfold far at h; simp at h; omega
theorem far_iff (n : Int) : (far n = true) ↔ (n < -1048576 ∨ 1048576 < n) := by unfold far; simp
theorem far_iff_false (n : Int) : (far n = false) ↔ (-1048576 ≤ n ∧ n ≤ 1048576) := by unfold far; simp
/-- a fraction out of a sign and sizes: numerator, denominator, error -/
def bld (neg : Bool) (hi lo dhi dlo : Nat) : Int × Int × Int :=
  if 0 < hi ∨ 9223372036854775807 < lo ∨ 0 < dhi ∨ 9223372036854775807 < dlo then (0, 0, 16) else (if neg then -(lo : Int) else lo, dlo, 0)
theorem bld_no {neg : Bool} {hi lo dhi dlo : Nat} (h : 0 < hi ∨ 9223372036854775807 < lo ∨ 0 < dhi ∨ 9223372036854775807 < dlo) : bld neg hi lo dhi dlo = (0, 0, 16) := by unfold bld; rw [if_pos h]
theorem bld_neg {hi lo dhi dlo : Nat} (h : ¬ (0 < hi ∨ 9223372036854775807 < lo ∨ 0 < dhi ∨ 9223372036854775807 < dlo)) : bld true hi lo dhi dlo = (-(lo : Int), (dlo : Int), 0) := by unfold bld; rw [if_neg h]; rfl
theorem bld_pos {hi lo dhi dlo : Nat} (h : ¬ (0 < hi ∨ 9223372036854775807 < lo ∨ 0 < dhi ∨ 9223372036854775807 < dlo)) : bld false hi lo dhi dlo = ((lo : Int), (dlo : Int), 0) := by unfold bld; rw [if_neg h]; rfl
theorem bld_zero (a b : Bool) (dhi dlo : Nat) : bld a 0 0 dhi dlo = bld b 0 0 dhi dlo := by unfold bld; simp
/-- P1.2 -/
def mk (n d : Int) : Int × Int × Int :=
  if d = 0 then (0, 0, 26) else bld (decide (n < 0) != decide (d < 0)) 0 (n.natAbs / Nat.gcd n.natAbs d.natAbs) 0 (d.natAbs / Nat.gcd n.natAbs d.natAbs)
theorem mk_zero (n : Int) : mk n 0 = (0, 0, 26) := by unfold mk; rw [if_pos rfl]
theorem mk_some {n d : Int} (h : d ≠ 0) : mk n d = bld (decide (n < 0) != decide (d < 0)) 0 (n.natAbs / Nat.gcd n.natAbs d.natAbs) 0 (d.natAbs / Nat.gcd n.natAbs d.natAbs) := by unfold mk; rw [if_neg h]
theorem mk_gcd_pos {n d : Int} (h : d ≠ 0) : 1 ≤ Nat.gcd n.natAbs d.natAbs := Nat.gcd_pos_of_pos_right _ (by omega)
theorem div_bound {a g B : Nat} (h : a < B) : a / g < B := Nat.lt_of_le_of_lt (Nat.div_le_self _ _) h
theorem mk_some' {n d : Int} (h : d ≠ 0) : mk n d = bld (!(decide (n < 0) == decide (d < 0))) 0 (n.natAbs / Nat.gcd n.natAbs d.natAbs) 0 (d.natAbs / Nat.gcd n.natAbs d.natAbs) := mk_some h
theorem mk_ref1 {n d : Int} (h : d ≠ 0) (k : (!(decide (n < 0) == decide (d < 0))) = true) : mk n d = bld (n != 0) 0 (n.natAbs / Nat.gcd n.natAbs d.natAbs) 0 (d.natAbs / Nat.gcd n.natAbs d.natAbs) := by
  rw [mk_some' h, k]
  by_cases c : n = 0
  · subst c; simp only [Int.natAbs_zero, Nat.zero_div]; exact bld_zero _ _ _ _
  · have : (n != 0) = true := by simpa using c
    rw [this]
theorem mk_ref2 {n d : Int} (h : d ≠ 0) (k : (!(decide (n < 0) == decide (d < 0))) = false) : mk n d = bld false 0 (n.natAbs / Nat.gcd n.natAbs d.natAbs) 0 (d.natAbs / Nat.gcd n.natAbs d.natAbs) := by
  rw [mk_some' h, k]
end Go.Pel
