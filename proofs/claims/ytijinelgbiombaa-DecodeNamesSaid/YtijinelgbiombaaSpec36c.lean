/- Wild asks: P36.3. -/
import Derived.Test.YtijinelgbiombaaSpec36b
set_option linter.unusedSimpArgs false
set_option linter.unusedVariables false
namespace Go.Pel
open Go
def wideV (v : Nat) : Int := (v : Int) % 2097153 - 1048576
def numV (v : Nat) : Int := (v : Int) % 2147483649 - 1073741824
def denV (v : Nat) : Int := if v < 1 ∨ 1024 < v then 1 + (v : Int) % 1024 else v
def kindV (x : Int) : Int := if x < 1 ∨ 6 < x then 1 + x % 6 else x
theorem kindV_range (x : Int) : 1 ≤ kindV x ∧ kindV x ≤ 6 := by unfold kindV; split <;> omega
theorem kindV_in {x : Int} (h : 1 ≤ x ∧ x ≤ 6) : kindV x = x := by unfold kindV; rw [if_neg (by omega)]
theorem kindV_out {x : Int} (h : x < 1 ∨ 6 < x) : kindV x = 1 + x % 6 := by unfold kindV; rw [if_pos h]
theorem denV_in {v : Nat} (h : 1 ≤ v ∧ v ≤ 1024) : denV v = v := by unfold denV; rw [if_neg (by omega)]
theorem denV_out {v : Nat} (h : v < 1 ∨ 1024 < v) : denV v = 1 + (v : Int) % 1024 := by unfold denV; rw [if_pos h]
theorem denV_range (v : Nat) : 1 ≤ denV v ∧ denV v ≤ 1024 := by unfold denV; split <;> omega
theorem numV_range (v : Nat) : -1073741824 ≤ numV v ∧ numV v ≤ 1073741824 := by unfold numV; omega
theorem wideV_range (v : Nat) : -1048576 ≤ wideV v ∧ wideV v ≤ 1048576 := by unfold wideV; omega
def wildK (l : List UInt8) : Int := kindV (l.getD 0 0).toNat
def wildOf (k : Int) (l : List UInt8) : Ask :=
  if k = 1 ∨ k = 3 then ⟨k, valAt l 1 2, wideV (valAt l 3 3), wideV (valAt l 6 3), 0, 0, 0⟩
  else if k = 2 then ⟨2, 0, 0, 0, valAt l 1 2, 0, 0⟩
  else if k = 4 then ⟨4, 0, 0, 0, 0, (mk (numV (valAt l 1 4)) (denV (valAt l 5 2))).1, (mk (numV (valAt l 1 4)) (denV (valAt l 5 2))).2.1⟩
  else ⟨k, 0, 0, 0, 0, 0, 0⟩
def wildAsk (l : List UInt8) : Ask := wildOf (wildK l) l
theorem wildOf_put {k : Int} (l : List UInt8) (h : k = 1 ∨ k = 3) : wildOf k l = ⟨k, valAt l 1 2, wideV (valAt l 3 3), wideV (valAt l 6 3), 0, 0, 0⟩ := by unfold wildOf; rw [if_pos h]
theorem wildOf_take (l : List UInt8) : wildOf 2 l = ⟨2, 0, 0, 0, valAt l 1 2, 0, 0⟩ := by unfold wildOf; simp
theorem wildOf_move (l : List UInt8) : wildOf 4 l = ⟨4, 0, 0, 0, 0, (mk (numV (valAt l 1 4)) (denV (valAt l 5 2))).1, (mk (numV (valAt l 1 4)) (denV (valAt l 5 2))).2.1⟩ := by unfold wildOf; simp
theorem wildOf_bare {k : Int} (l : List UInt8) (h : k = 5 ∨ k = 6) : wildOf k l = ⟨k, 0, 0, 0, 0, 0, 0⟩ := by unfold wildOf; rw [if_neg (by omega), if_neg (by omega), if_neg (by omega)]
theorem wildK_of {l : List UInt8} {x : UInt8} (h : l[0]? = some x) : wildK l = kindV x.toNat := by unfold wildK; simp [List.getD_eq_getElem?_getD, h]
def wildLen (l : List UInt8) : Nat := askLen (wildK l)
def wlGo : Nat → List UInt8 → List Ask → List Ask × Int
  | 0, _, acc => (acc, 0)
  | f + 1, l, acc => if l = [] ∨ ¬ acc.length < 120 then (acc, 0) else wlGo f (l.drop (wildLen l)) (acc ++ [wildAsk l])
def wl (l : List UInt8) : List Ask × Int := if 1100 < l.length then ([], 4) else wlGo l.length l []
theorem wl_many {l : List UInt8} (h : 1100 < l.length) : wl l = ([], 4) := if_pos h
theorem wl_go {l : List UInt8} (h : l.length ≤ 1100) : wl l = wlGo l.length l [] := if_neg (by omega)
theorem wlGo_end {f : Nat} {l : List UInt8} {acc : List Ask} (h : l = [] ∨ ¬ acc.length < 120) : wlGo f l acc = (acc, 0) := by
  cases f with
  | zero => rfl
  | succ f => rw [wlGo, if_pos h]
theorem wlGo_step {f : Nat} {l : List UInt8} {acc : List Ask} (h : l ≠ []) (h1 : acc.length < 120) : wlGo (f + 1) l acc = wlGo f (l.drop (wildLen l)) (acc ++ [wildAsk l]) := by
  rw [wlGo, if_neg (by simp [h, h1])]
end Go.Pel
