/- Numbers out of bytes with zeros behind them. -/
import Derived.Test.YtijinelgbiombaaSpec36c
set_option linter.unusedSimpArgs false
set_option linter.unusedVariables false
namespace Go.Pel
open Go
theorem getD_zeros (l : List UInt8) (n j : Nat) : (l ++ List.replicate n (0 : UInt8)).getD j 0 = l.getD j 0 := by
  simp only [List.getD_eq_getElem?_getD]
  by_cases h : j < l.length
  · rw [List.getElem?_append_left h]
  · rw [List.getElem?_append_right (by omega), List.getElem?_eq_none (l := l) (by omega), List.getElem?_replicate]
    split <;> rfl
theorem getD_drop (l : List UInt8) (k j : Nat) : (l.drop k).getD j 0 = l.getD (k + j) 0 := by
  simp only [List.getD_eq_getElem?_getD, List.getElem?_drop]
theorem valAt_drop (l : List UInt8) (k a n : Nat) : valAt (l.drop k) a n = valAt l (k + a) n := by
  induction n with
  | zero => rfl
  | succ n ih => simp only [valAt, ih, getD_drop, Nat.add_assoc]
theorem valAt_zeros (l : List UInt8) (m a n : Nat) : valAt (l ++ List.replicate m (0 : UInt8)) a n = valAt l a n := by
  induction n with
  | zero => rfl
  | succ n ih => simp only [valAt, ih, getD_zeros]
theorem valAt_left (l : List UInt8) (k a n : Nat) : valAt (l.drop k) a n = valAt (l ++ List.replicate 8 (0 : UInt8)) (k + a) n := by rw [valAt_zeros, valAt_drop]
end Go.Pel
