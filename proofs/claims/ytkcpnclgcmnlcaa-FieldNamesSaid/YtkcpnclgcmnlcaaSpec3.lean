/- Fields as plain mathematics: P3.1, P3.2. -/
import Derived.Test.YtkcpnclgcmnlcaaSpec1
import Derived.Test.YtkcpnclgcmnlcaaFlat
set_option linter.unusedSimpArgs false
set_option linter.unusedVariables false
namespace Go.Pel
open Go
structure Pt where
  id : Int
  a : Int
  b : Int
  deriving DecidableEq
def Pt.zero : Pt := ⟨0, 0, 0⟩
def Pt.cells (p : Pt) : List Value := [.int .i64 p.id, .int .i64 p.a, .int .i64 p.b]
def Pt.chk (p : Pt) : Int := pointChk p.id p.a p.b
structure Pt.Fits (p : Pt) : Prop where
  id : -9223372036854775808 ≤ p.id ∧ p.id ≤ 9223372036854775807
  a : -9223372036854775808 ≤ p.a ∧ p.a ≤ 9223372036854775807
  b : -9223372036854775808 ≤ p.b ∧ p.b ≤ 9223372036854775807
def vp (l : List Pt) : List Value := l.flatMap Pt.cells
theorem pt_len (p : Pt) : p.cells.length = 3 := rfl
theorem pt_one (p : Pt) : ∀ u ∈ p.cells, u.oneCell' = true := by
  intro u hu
  simp only [Pt.cells, List.mem_cons, List.not_mem_nil, or_false] at hu
  rcases hu with rfl | rfl | rfl <;> rfl
theorem vp_one (l : List Pt) : ∀ u ∈ vp l, u.oneCell' = true := fl_one pt_one l
theorem vp_len (l : List Pt) : (vp l).length = l.length * 3 := fl_len pt_len l
theorem vp_snoc (l : List Pt) (p : Pt) : vp (l ++ [p]) = vp l ++ p.cells := fl_snoc l p
theorem vp_append (l m : List Pt) : vp (l ++ m) = vp l ++ vp m := by simp [vp]
theorem pt_at {w : World} {b o n c i : Nat} {l : List Pt} {p : Pt} (h : Sl w 3 (some ⟨b, o, none⟩) n c (vp l)) (hx : l[i]? = some p) :
    w.cell? ⟨b, o + i * 3, none⟩ = some (.int .i64 p.id) ∧ w.cell? ⟨b, o + i * 3 + 1, none⟩ = some (.int .i64 p.a) ∧ w.cell? ⟨b, o + i * 3 + 2, none⟩ = some (.int .i64 p.b) :=
  ⟨fl_cell pt_len h hx (j := 0) rfl, fl_cell pt_len h hx (j := 1) rfl, fl_cell pt_len h hx (j := 2) rfl⟩
/-- IDs go up -/
def incB : List Pt → Bool
  | [] => true
  | [_] => true
  | p :: q :: r => decide (p.id < q.id) && incB (q :: r)
theorem incB_iff (l : List Pt) : incB l = true ↔ ∀ (i : Nat) (p q : Pt), l[i]? = some p → l[i + 1]? = some q → p.id < q.id := by
  induction l with
  | nil => simp [incB]
  | cons x l ih =>
    cases l with
    | nil => simp [incB]
    | cons y r =>
      simp only [incB, Bool.and_eq_true, decide_eq_true_eq, ih]
      constructor
      · rintro ⟨h0, h⟩ i p q hp hq
        cases i with
        | zero => simp at hp hq; rw [← hp, ← hq]; exact h0
        | succ i => exact h i p q (by simpa using hp) (by simpa using hq)
      · intro h
        exact ⟨h 0 x y rfl rfl, fun i p q hp hq => h (i + 1) p q (by simpa using hp) (by simpa using hq)⟩
theorem inc_lt {l : List Pt} (h : incB l = true) {i j : Nat} (hij : i < j) {p q : Pt} (hp : l[i]? = some p) (hq : l[j]? = some q) : p.id < q.id := by
  induction j generalizing q with
  | zero => omega
  | succ j ih =>
    rcases Nat.lt_or_ge i j with hlt | hge
    · have hjl : j < l.length := by have := (List.getElem?_eq_some_iff.1 hq).1; omega
      obtain ⟨m, hm⟩ : ∃ m, l[j]? = some m := ⟨_, List.getElem?_eq_getElem hjl⟩
      have h1 := ih hlt hm
      have h2 := (incB_iff l).1 h j m q hm hq
      omega
    · obtain rfl : i = j := by omega
      exact (incB_iff l).1 h i p q hp hq
/-- P3.1: Check -/
def fieldChk (l : List Pt) : Int := if 64 < l.length then 4 else if ∀ p ∈ l, p.chk = 0 then (if incB l then 0 else 32) else 8
theorem fieldChk_many {l : List Pt} (h : 64 < l.length) : fieldChk l = 4 := if_pos h
theorem fieldChk_bad {l : List Pt} (h : l.length ≤ 64) {p : Pt} (hp : p ∈ l) (hc : p.chk ≠ 0) : fieldChk l = 8 := by
  unfold fieldChk; rw [if_neg (by omega), if_neg]; intro h'; exact hc (h' p hp)
theorem fieldChk_order {l : List Pt} (h : l.length ≤ 64) (hc : ∀ p ∈ l, p.chk = 0) (hi : incB l = false) : fieldChk l = 32 := by
  unfold fieldChk; rw [if_neg (by omega), if_pos hc, hi]; rfl
theorem fieldChk_ok {l : List Pt} (h : l.length ≤ 64) (hc : ∀ p ∈ l, p.chk = 0) (hi : incB l = true) : fieldChk l = 0 := by
  unfold fieldChk; rw [if_neg (by omega), if_pos hc, hi]; rfl
theorem fieldChk_zero {l : List Pt} (h : fieldChk l = 0) : l.length ≤ 64 ∧ (∀ p ∈ l, p.chk = 0) ∧ incB l = true := by
  unfold fieldChk at h
  split at h
  · omega
  · split at h
    · rename_i h1 h2
      refine ⟨by omega, h2, ?_⟩
      split at h
      · assumption
      · omega
    · omega
theorem fieldChk_cases (l : List Pt) : fieldChk l = 0 ∨ fieldChk l = 4 ∨ fieldChk l = 8 ∨ fieldChk l = 32 := by
  unfold fieldChk; split
  · simp
  · split
    · split <;> simp
    · simp
theorem chk_pt {p : Pt} (h : p.chk = 0) : 0 ≤ p.id ∧ p.id ≤ 65535 ∧ -1048576 ≤ p.a ∧ p.a ≤ 1048576 ∧ -1048576 ≤ p.b ∧ p.b ≤ 1048576 := pointChk_zero h
theorem pt_cases (p : Pt) : p.chk = 0 ∨ p.chk = 8 := pointChk_cases _ _ _
/-- where the point with an ID is, or would be -/
def lowB (l : List Pt) (id : Int) : Nat := (l.takeWhile fun p => decide (p.id < id)).length
theorem lowB_le (l : List Pt) (id : Int) : lowB l id ≤ l.length := by unfold lowB; exact (List.takeWhile_prefix _).length_le
theorem lowB_of {l : List Pt} {id : Int} {k : Nat} (hk : k ≤ l.length) (h1 : ∀ (i : Nat) (p : Pt), i < k → l[i]? = some p → p.id < id) (h2 : ∀ p, l[k]? = some p → id ≤ p.id) : lowB l id = k := by
  unfold lowB
  induction l generalizing k with
  | nil => simp at hk; simp [hk]
  | cons x l ih =>
    cases k with
    | zero =>
      have := h2 x rfl
      rw [List.takeWhile_cons_of_neg (by simp; omega)]; rfl
    | succ k =>
      have := h1 0 x (by omega) rfl
      rw [List.takeWhile_cons_of_pos (by simpa using this), List.length_cons, ih (by simpa using hk) (fun i p hi hp => h1 (i + 1) p (by omega) (by simpa using hp)) (fun p hp => h2 p (by simpa using hp))]
theorem lowB_lt {l : List Pt} {id : Int} {i : Nat} {p : Pt} (hi : i < lowB l id) (hp : l[i]? = some p) : p.id < id := by
  induction l generalizing i with
  | nil => simp at hp
  | cons x l ih =>
    unfold lowB at hi
    by_cases hx : x.id < id
    · rw [List.takeWhile_cons_of_pos (by simpa using hx), List.length_cons] at hi
      cases i with
      | zero => simp at hp; subst hp; exact hx
      | succ i => exact ih (i := i) (by unfold lowB; omega) (by simpa using hp)
    · rw [List.takeWhile_cons_of_neg (by simpa using hx)] at hi
      simp at hi
theorem lowB_ge {l : List Pt} {id : Int} {p : Pt} (hp : l[lowB l id]? = some p) : id ≤ p.id := by
  unfold lowB at hp
  induction l with
  | nil => simp at hp
  | cons x l ih =>
    by_cases hx : x.id < id
    · rw [List.takeWhile_cons_of_pos (by simpa using hx), List.length_cons] at hp
      exact ih (by simpa using hp)
    · rw [List.takeWhile_cons_of_neg (by simpa using hx)] at hp
      simp at hp
      subst hp; omega
/-- has the field the ID? -/
def hasB (l : List Pt) (id : Int) : Bool := l.any fun p => decide (p.id = id)
theorem hasB_at {l : List Pt} (h : incB l = true) (id : Int) : hasB l id = (match l[lowB l id]? with | some p => decide (p.id = id) | none => false) := by
  cases hb : l[lowB l id]? with
  | none =>
    have hlen : l.length ≤ lowB l id := by simpa using hb
    unfold hasB
    rw [List.any_eq_false]
    intro p hp
    obtain ⟨i, hi⟩ := List.getElem?_of_mem hp
    have : i < l.length := (List.getElem?_eq_some_iff.1 hi).1
    have := lowB_lt (id := id) (by omega) hi
    simp; omega
  | some q =>
    have hge := lowB_ge hb
    simp only
    by_cases hq : q.id = id
    · rw [decide_eq_true hq]
      unfold hasB
      rw [List.any_eq_true]
      exact ⟨q, List.mem_of_getElem? hb, by simpa using hq⟩
    · rw [decide_eq_false hq]
      unfold hasB
      rw [List.any_eq_false]
      intro p hp
      obtain ⟨i, hi⟩ := List.getElem?_of_mem hp
      rcases Nat.lt_trichotomy i (lowB l id) with hlt | rfl | hgt
      · have := lowB_lt hlt hi; simp; omega
      · rw [hb] at hi; obtain rfl := Option.some.inj hi; simpa using hq
      · have := inc_lt h hgt hb hi; simp; omega
/-- the first point with an ID (the reference's At): its index, or -1 -/
def atI (l : List Pt) (id : Int) : Int := if hasB l id then ((l.takeWhile fun p => decide (p.id ≠ id)).length : Int) else -1
theorem atI_no {l : List Pt} {id : Int} (h : hasB l id = false) : atI l id = -1 := by unfold atI; rw [h]; rfl
theorem atI_of {l : List Pt} {id : Int} {k : Nat} {p : Pt} (h1 : ∀ (i : Nat) (p : Pt), i < k → l[i]? = some p → p.id ≠ id) (hk : l[k]? = some p) (hp : p.id = id) : atI l id = k := by
  have hb : hasB l id = true := by
    unfold hasB; rw [List.any_eq_true]; exact ⟨p, List.mem_of_getElem? hk, by simpa using hp⟩
  unfold atI; rw [hb, if_pos rfl]
  congr 1
  clear hb
  induction l generalizing k with
  | nil => simp at hk
  | cons x l ih =>
    cases k with
    | zero =>
      simp at hk; subst hk
      rw [List.takeWhile_cons_of_neg (by simpa using hp)]; rfl
    | succ k =>
      have := h1 0 x (by omega) rfl
      rw [List.takeWhile_cons_of_pos (by simpa using this), List.length_cons, ih (k := k) (fun i p hi hp => h1 (i + 1) p (by omega) (by simpa using hp)) (by simpa using hk)]
theorem hasB_no {l : List Pt} {id : Int} (h : ∀ (i : Nat) (p : Pt), l[i]? = some p → p.id ≠ id) : hasB l id = false := by
  unfold hasB; rw [List.any_eq_false]; intro p hp
  obtain ⟨i, hi⟩ := List.getElem?_of_mem hp
  simpa using h i p hi
/-- in a valid field both agree -/
theorem atI_low {l : List Pt} (h : incB l = true) {id : Int} (hb : hasB l id = true) : atI l id = lowB l id ∧ ∃ p, l[lowB l id]? = some p ∧ p.id = id := by
  rw [hasB_at h] at hb
  cases hq : l[lowB l id]? with
  | none => rw [hq] at hb; cases hb
  | some q =>
    rw [hq] at hb
    simp only [decide_eq_true_eq] at hb
    exact ⟨atI_of (fun i p hi hp => by have := lowB_lt (l := l) (id := id) hi hp; omega) hq hb, q, rfl, hb⟩
/-- P3.1: Find -/
def fieldFind (l : List Pt) (id : Int) : Pt × Int := if fieldChk l ≠ 0 then (Pt.zero, fieldChk l) else if hasB l id then (l.getD (lowB l id) Pt.zero, 0) else (Pt.zero, 6)
/-- P3.2: Put, Take, Change -/
def fieldPut (l : List Pt) (p : Pt) : List Pt × Int :=
  if fieldChk l ≠ 0 then ([], fieldChk l) else if p.chk ≠ 0 then ([], 8) else if hasB l p.id then ([], 14) else if l.length = 64 then ([], 18) else (l.take (lowB l p.id) ++ p :: l.drop (lowB l p.id), 0)
def fieldTake (l : List Pt) (id : Int) : List Pt × Int :=
  if fieldChk l ≠ 0 then ([], fieldChk l) else if hasB l id then (l.take (lowB l id) ++ l.drop (lowB l id + 1), 0) else ([], 6)
def fieldChange (l : List Pt) (p : Pt) : List Pt × Int :=
  if fieldChk l ≠ 0 then ([], fieldChk l) else if p.chk ≠ 0 then ([], 8) else if hasB l p.id then (l.set (lowB l p.id) p, 0) else ([], 6)
end Go.Pel
