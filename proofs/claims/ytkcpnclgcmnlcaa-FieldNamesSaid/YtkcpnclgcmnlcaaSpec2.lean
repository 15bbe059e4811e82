/- Courses as plain mathematics: who is ahead; numbers of 128 bits. -/
import Derived.Test.YtkcpnclgcmnlcaaSpec3
import Derived.IntWalk
set_option linter.unusedSimpArgs false
set_option linter.unusedVariables false
namespace Go.Pel
open Go Go.RowKit
/-- unsigned reading of a number of 64 bits -/
def un (a : Int) : Nat := (a % 18446744073709551616).toNat
theorem un_lt (a : Int) : un a < 18446744073709551616 := by unfold un; omega
theorem un_cast (a : Int) : ((un a : Nat) : Int) = a % 18446744073709551616 := by unfold un; omega
theorem un_pos {a : Int} (h : 0 ≤ a) (h2 : a < 9223372036854775808) : ((un a : Nat) : Int) = a := by rw [un_cast]; omega
theorem un_neg {a : Int} (h : a < 0) (h2 : -9223372036854775808 ≤ a) : ((un a : Nat) : Int) = a + 18446744073709551616 := by rw [un_cast]; omega
/-- the product of two numbers with signs, out of that of their unsigned readings -/
theorem mul_un (a b : Int) (ha : -9223372036854775808 ≤ a ∧ a < 9223372036854775808) (hb : -9223372036854775808 ≤ b ∧ b < 9223372036854775808) :
    ((un a * un b : Nat) : Int) = a * b + 18446744073709551616 * ((if a < 0 then b else 0) + (if b < 0 then a else 0)) + (if a < 0 ∧ b < 0 then 340282366920938463463374607431768211456 else 0) := by
  have e : ((un a * un b : Nat) : Int) = (un a : Int) * (un b : Int) := by simp
  rw [e]
  by_cases h1 : a < 0 <;> by_cases h2 : b < 0
  · rw [un_neg h1 ha.1, un_neg h2 hb.1]
    simp only [h1, h2, if_true, and_self, Int.add_mul, Int.mul_add]
    have : b * 18446744073709551616 = 18446744073709551616 * b := Int.mul_comm _ _
    omega
  · rw [un_neg h1 ha.1, un_pos (by omega) hb.2]
    simp only [h1, h2, if_true, if_false, and_false, Int.add_mul, Int.mul_add]
    omega
  · rw [un_pos (by omega) ha.2, un_neg h2 hb.1]
    simp only [h1, h2, if_true, if_false, false_and, Int.add_mul, Int.mul_add]
    omega
  · rw [un_pos (by omega) ha.2, un_pos (by omega) hb.2]
    simp only [h1, h2, if_false, false_and]
    omega
/-- the upper half of a product, as the code reckons it -/
def hiOf (a b : Int) : Int := wrap64 (wrap64 (wrap64 ((un a * un b / 18446744073709551616 : Nat) : Int) - (if a < 0 then b else 0)) - (if b < 0 then a else 0))
theorem hiOf_eq (a b : Int) (ha : -9223372036854775808 ≤ a ∧ a < 9223372036854775808) (hb : -9223372036854775808 ≤ b ∧ b < 9223372036854775808) (hP : -77371252455336267181195264 ≤ a * b ∧ a * b ≤ 77371252455336267181195264) : hiOf a b = a * b / 18446744073709551616 := by
  have h := mul_un a b ha hb
  unfold hiOf
  generalize un a * un b = U at h
  generalize a * b = P at h hP ⊢
  unfold wrap64
  by_cases h1 : a < 0 <;> by_cases h2 : b < 0 <;> simp only [h1, h2, if_true, if_false, and_true, and_false, and_self, Int.sub_zero, Int.add_zero, Int.zero_add, Int.mul_zero] at h ⊢ <;> omega
theorem loOf_eq (a b : Int) (ha : -9223372036854775808 ≤ a ∧ a < 9223372036854775808) (hb : -9223372036854775808 ≤ b ∧ b < 9223372036854775808) : ((un a * un b % 18446744073709551616 : Nat) : Int) = a * b % 18446744073709551616 := by
  have h := mul_un a b ha hb
  generalize un a * un b = U at h ⊢
  generalize a * b = P at h ⊢
  by_cases h1 : a < 0 <;> by_cases h2 : b < 0 <;> simp only [h1, h2, if_true, if_false, and_true, and_false, and_self, Int.add_zero, Int.zero_add, Int.mul_zero] at h <;> omega
/-- how far p is ahead of q at the time n / d, times d -/
def farD (p q : Pt) (n d : Int) : Int := (p.a - q.a) * d + (p.b - q.b) * n
/-- P2.4: p is ahead of q -/
def leads (p q : Pt) (n d : Int) : Bool := if farD p q n d ≠ 0 then decide (0 < farD p q n d) else if p.b ≠ q.b then decide (q.b < p.b) else decide (p.id < q.id)
def cmpZ (a b : Int) : Int := if a < b then -1 else if b < a then 1 else 0
theorem cmpZ_lt {a b : Int} (h : a < b) : cmpZ a b = -1 := if_pos h
theorem cmpZ_gt {a b : Int} (h : b < a) : cmpZ a b = 1 := by unfold cmpZ; rw [if_neg (by omega), if_pos h]
theorem cmpZ_eq {a b : Int} (h : a = b) : cmpZ a b = 0 := by unfold cmpZ; rw [if_neg (by omega), if_neg (by omega)]
/-- the first that is not 0 -/
def orZ (x y : Int) : Int := if x ≠ 0 then x else y
theorem orZ_0 {x y : Int} (h : x = 0) : orZ x y = y := if_neg (by simpa using h)
theorem orZ_1 {x y : Int} (h : x ≠ 0) : orZ x y = x := if_pos h
/-- what course.compare returns -/
def cmpC (p q : Pt) (n d : Int) : Int := if farD p q n d < 0 then -1 else if 0 < farD p q n d then 1 else if cmpZ p.b q.b ≠ 0 then cmpZ p.b q.b else cmpZ q.id p.id
theorem cmpC_lt {p q : Pt} {n d : Int} (h : farD p q n d < 0) : cmpC p q n d = -1 := if_pos h
theorem cmpC_gt {p q : Pt} {n d : Int} (h : 0 < farD p q n d) : cmpC p q n d = 1 := by unfold cmpC; rw [if_neg (by omega), if_pos h]
theorem cmpC_b {p q : Pt} {n d : Int} (h : farD p q n d = 0) (hb : p.b ≠ q.b) : cmpC p q n d = cmpZ p.b q.b := by
  unfold cmpC; rw [if_neg (by omega), if_neg (by omega), if_pos]
  rcases Int.lt_or_gt_of_ne hb with h1 | h1
  · rw [cmpZ_lt h1]; decide
  · rw [cmpZ_gt h1]; decide
theorem cmpC_id {p q : Pt} {n d : Int} (h : farD p q n d = 0) (hb : p.b = q.b) : cmpC p q n d = cmpZ q.id p.id := by
  unfold cmpC; rw [if_neg (by omega), if_neg (by omega), if_neg (by rw [cmpZ_eq hb]; decide)]
theorem cmpC_leads (p q : Pt) (n d : Int) : decide (0 < cmpC p q n d) = leads p q n d := by
  unfold leads
  rcases (by omega : farD p q n d < 0 ∨ farD p q n d = 0 ∨ 0 < farD p q n d) with h | h | h
  · rw [cmpC_lt h, if_pos (by omega)]; simp; omega
  · rw [if_neg (by omega)]
    by_cases hb : p.b = q.b
    · rw [cmpC_id h hb, if_neg (by omega)]
      rcases (by omega : p.id < q.id ∨ q.id < p.id ∨ p.id = q.id) with h2 | h2 | h2
      · rw [cmpZ_gt h2]; simp; omega
      · rw [cmpZ_lt h2]; simp; omega
      · rw [cmpZ_eq h2.symm]; simp; omega
    · rw [cmpC_b h hb, if_pos hb]
      rcases (by omega : p.b < q.b ∨ q.b < p.b) with h1 | h1
      · rw [cmpZ_lt h1]; simp; omega
      · rw [cmpZ_gt h1]; simp; omega
  · rw [cmpC_gt h, if_pos (by omega)]; simp; omega
/-- the error of two points and a time -/
def twoChk (p q : Pt) (n d : Int) : Int := if p.chk = 0 ∧ q.chk = 0 ∧ ratioChk n d = 0 then (if p.id = q.id then 2 else 0) else 8
theorem twoChk_bad {p q : Pt} {n d : Int} (h : ¬ (p.chk = 0 ∧ q.chk = 0 ∧ ratioChk n d = 0)) : twoChk p q n d = 8 := if_neg h
theorem twoChk_same {p q : Pt} {n d : Int} (h : p.chk = 0 ∧ q.chk = 0 ∧ ratioChk n d = 0) (hi : p.id = q.id) : twoChk p q n d = 2 := by unfold twoChk; rw [if_pos h, if_pos hi]
theorem twoChk_ok {p q : Pt} {n d : Int} (h : p.chk = 0 ∧ q.chk = 0 ∧ ratioChk n d = 0) (hi : p.id ≠ q.id) : twoChk p q n d = 0 := by unfold twoChk; rw [if_pos h, if_neg hi]
theorem twoChk_zero {p q : Pt} {n d : Int} (h : twoChk p q n d = 0) : p.chk = 0 ∧ q.chk = 0 ∧ ratioChk n d = 0 ∧ p.id ≠ q.id := by
  unfold twoChk at h
  split at h
  · rename_i h1
    split at h
    · omega
    · exact ⟨h1.1, h1.2.1, h1.2.2, ‹_›⟩
  · omega
/-- P2.4: Ahead -/
def aheadV (p q : Pt) (n d : Int) : Bool × Int := if twoChk p q n d = 0 then (leads p q n d, 0) else (false, twoChk p q n d)
end Go.Pel
