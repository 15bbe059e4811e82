/- Walks of the references; the orders agree; examples. -/
import Derived.Test.YthopjgahedijcaaGg
set_option linter.unusedSimpArgs false
set_option linter.unusedVariables false
namespace Go.Pel
open Go Go.Tx
theorem idxM_gt {n dd : Int} {L : List M4} {x : M4} (h : L[idxM n dd L]? = some x) : gtM n dd x = true := by
  obtain ⟨h1, rfl⟩ := List.getElem?_eq_some_iff.1 h
  exact List.findIdx_getElem (p := gtM n dd) (w := h1)
theorem leQ_trans {a b c d1 d2 d3 : Int} (h1 : 1 ≤ d1) (h2 : 1 ≤ d2) (h3 : 1 ≤ d3) (h : leQ a d1 b d2) (k : leQ b d2 c d3) : leQ a d1 c d3 := q_le h1 h2 h3 h k
theorem cut_parts {α : Type} {L : List α} {f m t : Nat} (h1 : f ≤ m) (h2 : m ≤ t) (h3 : t ≤ L.length) : ([] ++ (L.take m).drop f) ++ (L.take t).drop m = (L.take t).drop f := by
  have e : L.take t = L.take m ++ (L.take t).drop m := by
    conv => lhs; rw [← List.take_append_drop m (L.take t)]
    rw [List.take_take, Nat.min_eq_left h2]
  rw [List.nil_append]
  conv => rhs; rw [e]
  rw [List.drop_append_of_le_length (by rw [List.length_take]; omega)]
theorem cut_get {α : Type} {L : List α} {f t : Nat} (h1 : f < t) : ((L.take t).drop f)[0]? = L[f]? := by
  rw [List.getElem?_drop, Nat.add_zero, List.getElem?_take, if_pos h1]
end Go.Pel
namespace Go.Proofs.Ythopjgahedijcaa
open Go Go.Tx Go.Pel
/-- a field and two times that the laws look at -/
def fitB (l : List T3) (n dd n' dd' : Int) : Bool := !greatB l && (chk2 l n dd n' dd' == 0)
theorem fit_eq (d : Nat) (l : List T3) {n dd n' dd' : Int} (hn : i64B n = true) (hd : i64B dd = true) (hn' : i64B n' = true) (hd' : i64B dd' = true) : F_law04_fit d ((l, ()), (n, dd, ()), (n', dd', ()), ()) = some (fitB l n dd n' dd') := by
  have e1 := great_eq d l
  have e2 := rTimes_eq d l hn hd hn' hd'
  unfold fitB
  simp only [F_law04_fit, law04_fit_K, law04_fit_r0, law04_fit_r1, Dt.eval, e1]
  cases greatB l with
  | true => rfl
  | false => simp only [Bool.not_false, cond_true, e2, Bool.true_and, Dt.eval]
theorem fitB_iff {l : List T3} {n dd n' dd' : Int} (h : fitB l n dd n' dd' = true) : greatB l = false ∧ chk2 l n dd n' dd' = 0 := by
  unfold fitB at h
  simpa using h
theorem alive04 : F_law04_alive 5000 () = some true := by kernel_rfl
theorem chk2_of {l : List T3} {n dd n' dd' : Int} (h : FldOk l) (h0 : fieldChk (ptsL l) = 0) (h1 : ratioChk n dd = 0) (h2 : ratioChk n' dd' = 0) (h3 : leQ n dd n' dd') : chk2 l n dd n' dd' = 0 := by
  unfold chk2
  rw [if_neg (by simpa using h0), if_neg (by simpa using h1), if_neg (by simpa using h2), if_neg ((leQ_iff ..).1 h3)]
theorem chk2_fld {l : List T3} {n dd n' dd' : Int} (h : chk2 l n dd n' dd' = 0) : fieldChk (ptsL l) = 0 := by
  unfold chk2 at h
  by_cases h1 : fieldChk (ptsL l) = 0
  · exact h1
  · rw [if_pos h1] at h; exact absurd h h1
end Go.Proofs.Ythopjgahedijcaa
