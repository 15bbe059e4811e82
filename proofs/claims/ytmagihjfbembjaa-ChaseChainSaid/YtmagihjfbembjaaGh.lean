/- Walks of the references; the orders agree; examples. -/
import Derived.Test.YtmagihjfbembjaaRows
import Derived.ProofKit
import Derived.OpenShut
import Derived.ShutString
import Derived.ChangeOld
import Derived.Deep.Slices
import Derived.Test.YtmagihjfbembjaaGg
set_option linter.unusedSimpArgs false
set_option linter.unusedVariables false
namespace Go.Proofs.Ytmagihjfbembjaa
open Go Go.Tx Go.Pel
/-- how many points are ahead of one -/
def rkN (l : List T3) (p : T3) (n dd : Int) : Nat := l.countP fun q => leads (ofP q) (ofP p) n dd
theorem rank_pos {p : Pt} {n d : Int} : ∀ {O : List Pt} {k : Nat}, O.Pairwise (fun a b => leads b a n d = false ∧ leads a b n d = true) → O[k]? = some p → O.countP (fun q => leads q p n d) = k
  | [], k, _, h => by simp at h
  | a :: O, 0, hO, h => by
    obtain ⟨h1, _⟩ := List.pairwise_cons.1 hO
    simp only [List.getElem?_cons_zero, Option.some.injEq] at h
    subst h
    rw [List.countP_cons, leads_self]
    have : O.countP (fun q => leads q a n d) = 0 := List.countP_eq_zero.2 fun q hq => by rw [(h1 q hq).1]; decide
    rw [this]; rfl
  | a :: O, k + 1, hO, h => by
    obtain ⟨h1, h2⟩ := List.pairwise_cons.1 hO
    rw [List.getElem?_cons_succ] at h
    rw [List.countP_cons, rank_pos h2 h, (h1 p (List.mem_of_getElem? h)).2]; rfl
theorem ordI_strict {l : List T3} (h : FldOk l) (n dd : Int) : (ordI n dd (ptsL l)).Pairwise (fun a b => (leads b a n dd = false ∧ leads a b n dd = true) ∧ a.id ≠ b.id) := by
  have hp := ordI_perm n dd (ptsL l)
  have hn : (ordI n dd (ptsL l)).Pairwise fun a b => a.id ≠ b.id := by
    refine (hp.pairwise_iff (R := fun a b : Pt => a.id ≠ b.id) (fun {a b} h => Ne.symm h)).2 ?_
    unfold ptsL
    rw [List.pairwise_map]
    exact h.inc.imp fun {a b} hab => by show a.1 ≠ b.1; omega
  refine ((ordI_pw n dd (ptsL l)).and hn).imp fun {a b} ⟨h1, h2⟩ => ⟨⟨h1, ?_⟩, h2⟩
  rw [leads_asym (p := b) (q := a) (Ne.symm h2), h1]; rfl
theorem idx_loop (d : Nat) {L : List Int} {x r : Int} (hlen : L.length ≤ 1000) (hr : (∃ k : Nat, L[k]? = some x ∧ (∀ j, j < k → L[j]? ≠ some x) ∧ r = k) ∨ ((∀ j : Nat, L[j]? ≠ some x) ∧ r = -1)) : ∀ (f i : Nat), L.length - i < f → (∀ j, j < i → L[j]? ≠ some x) → iter (slices_Index_int_int_L1 d) f (unI L, x, (L.length : Int), (i : Int)) = some r
  | 0, i, hf, _ => by omega
  | f + 1, i, hf, hi => by
    have ih := idx_loop d hlen hr f (i + 1)
    rw [iter]
    revert ih
    generalize iter (slices_Index_int_int_L1 d) f = self
    intro ih
    unfold slices_Index_int_int_L1
    have hul : (unI L).length = L.length := unI_len L
    by_cases hlt : i < L.length
    · obtain ⟨y, hy⟩ : ∃ y, L[i]? = some y := ⟨_, List.getElem?_eq_getElem hlt⟩
      have hu : (unI L)[i]? = some (y, ()) := by unfold unI; rw [List.getElem?_map, hy]; rfl
      simp only [slices_Index_int_int_r2, slices_Index_int_int_r3, slices_Index_int_int_r4, slices_Index_int_int_r5, slices_Index_int_int_r6, Dt.eval, dec_lt hlt, cond_true, inB_of (show i < (unI L).length by omega), elt_some hu]
      by_cases he : x = y
      · subst he
        simp only [beq_self_eq_true, cond_true]
        rcases hr with ⟨k, k1, k2, rfl⟩ | ⟨k1, _⟩
        · have : k = i := by
            rcases (by omega : k < i ∨ k = i ∨ i < k) with h | h | h
            · exact absurd k1 (hi k h)
            · exact h
            · exact absurd hy (k2 i h)
          rw [this]
        · exact absurd hy (k1 i)
      · simp only [show (x == y) = false by simpa using he, cond_false, wrap_succ (show i < 1000000 by omega)]
        refine ih (by omega) fun j hj => ?_
        rcases (by omega : j < i ∨ j = i) with h | rfl
        · exact hi j h
        · rw [hy]; intro e; injection e with e; exact he e.symm
    · simp only [slices_Index_int_int_r2, slices_Index_int_int_r3, slices_Index_int_int_r4, slices_Index_int_int_r5, slices_Index_int_int_r6, slices_Index_int_int_r7, Dt.eval, dec_nlt hlt, cond_false]
      rcases hr with ⟨k, k1, k2, _⟩ | ⟨_, rfl⟩
      · have := (List.getElem?_eq_some_iff.1 k1).1
        exact absurd k1 (hi k (by omega))
      · rfl
theorem index_eq (d : Nat) (hd : 2000 ≤ d) {L : List Int} {x r : Int} (hlen : L.length ≤ 1000) (hr : (∃ k : Nat, L[k]? = some x ∧ (∀ j, j < k → L[j]? ≠ some x) ∧ r = k) ∨ ((∀ j : Nat, L[j]? ≠ some x) ∧ r = -1)) : F_slices_Index_int_int d ((unI L, ()), (x, ()), ()) = some r := by
  have e := idx_loop d hlen hr d 0 (by omega) (fun j hj => by omega)
  simp only [F_slices_Index_int_int, slices_Index_int_int_K, slices_Index_int_int_r0, slices_Index_int_int_r1, Dt.eval, unI_len]
  exact e
/-- a field has a point -/
def hasL (l : List T3) (id : Int) : Bool := l.any fun p => p.1 == id
theorem hasL_iff {l : List T3} {id : Int} : hasL l id = true ↔ ∃ p ∈ l, p.1 = id := by
  unfold hasL
  simp only [List.any_eq_true, beq_iff_eq]
theorem hasL_no {l : List T3} {id : Int} (h : hasL l id = false) {p : T3} (hp : p ∈ l) : p.1 ≠ id := fun e => by
  rw [hasL_iff.2 ⟨p, hp, e⟩] at h; cases h
theorem rank_has (d : Nat) (hd : 2000 ≤ d) {l : List T3} (h : FldOk l) (h0 : fieldChk (ptsL l) = 0) {p : T3} (hp : p ∈ l) {n dd : Int} (hn : i64B n = true) (hdd : i64B dd = true) (hr : ratioChk n dd = 0) : F_field_Rank d ((l, ()), (p.1, ()), (n, dd, ()), ()) = some ((rkN l p n dd : Int), 0) := by
  have e1 := order_at d h.len h0 hn hdd hr
  have hO := ordI_strict h n dd
  have hperm := ordI_perm n dd (ptsL l)
  have hlen : (ordI n dd (ptsL l)).length = l.length := by rw [hperm.length_eq, ptsL_len]
  obtain ⟨k, hk⟩ : ∃ k : Nat, (ordI n dd (ptsL l))[k]? = some (ofP p) := List.mem_iff_getElem?.1 (hperm.mem_iff.2 (List.mem_map_of_mem hp))
  have hcnt : k = rkN l p n dd := by
    rw [← rank_pos (hO.imp fun {a b} h => h.1) hk, hperm.countP_eq]
    unfold ptsL rkN
    rw [List.countP_map]; rfl
  have e2 := index_eq d hd (L := (ordI n dd (ptsL l)).map Pt.id) (x := p.1) (r := (k : Int)) (by rw [List.length_map, hlen]; have := h.len; omega) (.inl ⟨k, by rw [List.getElem?_map, hk]; rfl, fun j hj e => by
    obtain ⟨h1, _⟩ := List.getElem?_eq_some_iff.1 hk
    rw [List.getElem?_map, List.getElem?_eq_getElem (by omega)] at e
    injection e with e
    have := (List.pairwise_iff_getElem.1 hO) j k (by omega) h1 hj
    rw [(List.getElem?_eq_some_iff.1 hk).2] at this
    exact this.2 e, rfl⟩)
  have c : decide ((k : Int) < 0) = false := decide_eq_false (by omega)
  simp only [F_field_Rank, field_Rank_K, field_Rank_r0, field_Rank_r1, field_Rank_r2, field_Rank_r3, field_Rank_r4, field_Rank_r5, field_Rank_r6, field_Rank_r7, Dt.eval, e1, show ((0 : Int) != 0) = false from rfl, cond_false, e2, c]
  rw [hcnt]
theorem rank_no (d : Nat) (hd : 2000 ≤ d) {l : List T3} (h : FldOk l) (h0 : fieldChk (ptsL l) = 0) {id : Int} (hno : hasL l id = false) {n dd : Int} (hn : i64B n = true) (hdd : i64B dd = true) (hr : ratioChk n dd = 0) : F_field_Rank d ((l, ()), (id, ()), (n, dd, ()), ()) = some (0, 6) := by
  have e1 := order_at d h.len h0 hn hdd hr
  have hperm := ordI_perm n dd (ptsL l)
  have hlen : (ordI n dd (ptsL l)).length = l.length := by rw [hperm.length_eq, ptsL_len]
  have e2 := index_eq d hd (L := (ordI n dd (ptsL l)).map Pt.id) (x := id) (r := -1) (by rw [List.length_map, hlen]; have := h.len; omega) (.inr ⟨fun j e => by
    have := List.mem_of_getElem? e
    obtain ⟨P, hP, e2⟩ := List.mem_map.1 this
    obtain ⟨p, hp, rfl⟩ := pts_mem (hperm.mem_iff.1 hP)
    exact hasL_no hno hp e2, rfl⟩)
  simp only [F_field_Rank, field_Rank_K, field_Rank_r0, field_Rank_r1, field_Rank_r2, field_Rank_r3, field_Rank_r4, field_Rank_r5, field_Rank_r6, field_Rank_r7, Dt.eval, e1, show ((0 : Int) != 0) = false from rfl, cond_false, e2, show decide ((-1 : Int) < 0) = true from rfl, cond_true]
theorem timed_cases (L : List Pt) (n d : Int) : timed L n d = 0 ∨ timed L n d = 4 ∨ timed L n d = 8 ∨ timed L n d = 32 := by
  unfold timed
  split
  · rcases fieldChk_cases L with h | h | h | h <;> rw [h] <;> simp
  · rcases ratioChk_cases n d with h | h <;> rw [h] <;> simp
theorem timed_ok {l : List T3} {n d : Int} (h : timed (ptsL l) n d = 0) : FldOk l ∧ fieldChk (ptsL l) = 0 ∧ ratioChk n d = 0 := by
  unfold timed at h
  by_cases h0 : fieldChk (ptsL l) = 0
  · rw [if_neg (by simpa using h0)] at h
    exact ⟨fldOk_of h0, h0, h⟩
  · rw [if_pos h0] at h; exact absurd h h0
theorem timed_of {l : List T3} {n d : Int} (h0 : fieldChk (ptsL l) = 0) (hr : ratioChk n d = 0) : timed (ptsL l) n d = 0 := by
  unfold timed; rw [if_neg (by simpa using h0)]; exact hr
theorem rank_bad (d : Nat) {l : List T3} (hlen : l.length ≤ 1000) {id n dd : Int} (hn : i64B n = true) (hdd : i64B dd = true) (hb : timed (ptsL l) n dd ≠ 0) : F_field_Rank d ((l, ()), (id, ()), (n, dd, ()), ()) = some (0, timed (ptsL l) n dd) := by
  have e1 : F_field_Order d ((l, ()), (n, dd, ()), ()) = some ([], timed (ptsL l) n dd) := by
    rw [F_field_Order_eq _ _ (by unfold field_Order_if; simp only [hn, hdd, Bool.and_self, Bool.true_and, decide_eq_true_eq]; rw [ptsL_len]; omega)]
    show some (unI (fieldOrderI (ptsL l) n dd).1, (fieldOrderI (ptsL l) n dd).2) = _
    have : fieldOrderI (ptsL l) n dd = ([], timed (ptsL l) n dd) := by
      unfold fieldOrderI timed
      by_cases h0 : fieldChk (ptsL l) = 0
      · have hr : ratioChk n dd ≠ 0 := fun e => hb (timed_of h0 e)
        simp only [h0, ne_eq, not_true_eq_false, if_false, hr, not_false_eq_true, if_true]
      · rw [if_pos h0, if_pos h0]
    rw [this]; rfl
  simp only [F_field_Rank, field_Rank_K, field_Rank_r0, field_Rank_r1, field_Rank_r2, field_Rank_r3, Dt.eval, e1, show (timed (ptsL l) n dd != 0) = true by simpa using hb, cond_true]
/-- the check of a field, a point, a time and a number -/
def chkC (l : List T3) (id n dd m : Int) : Int := if timed (ptsL l) n dd ≠ 0 then timed (ptsL l) n dd else if m < 0 ∨ 64 < m then 2 else if hasL l id = true then 0 else 6
theorem chkC_zero {l : List T3} {id n dd m : Int} (h : chkC l id n dd m = 0) : FldOk l ∧ fieldChk (ptsL l) = 0 ∧ ratioChk n dd = 0 ∧ 0 ≤ m ∧ m ≤ 64 ∧ hasL l id = true := by
  unfold chkC at h
  by_cases h0 : timed (ptsL l) n dd = 0
  · rw [if_neg (by simpa using h0)] at h
    by_cases h1 : m < 0 ∨ 64 < m
    · rw [if_pos h1] at h; cases h
    · rw [if_neg h1] at h
      by_cases h2 : hasL l id = true
      · obtain ⟨a, b, c⟩ := timed_ok h0
        exact ⟨a, b, c, by omega, by omega, h2⟩
      · rw [if_neg h2] at h; cases h
  · rw [if_pos h0] at h; exact absurd h h0
theorem chkC_of {l : List T3} {id n dd m : Int} (h0 : fieldChk (ptsL l) = 0) (hr : ratioChk n dd = 0) (h1 : 0 ≤ m) (h2 : m ≤ 64) (hh : hasL l id = true) : chkC l id n dd m = 0 := by
  unfold chkC
  rw [if_neg (by simpa using timed_of h0 hr), if_neg (by omega), if_pos hh]
theorem ccheck_eq (d : Nat) (hd : 2000 ≤ d) {l : List T3} (hlen : l.length ≤ 1000) (id m : Int) {n dd : Int} (hn : i64B n = true) (hdd : i64B dd = true) : F_chase_check d ((l, ()), (id, ()), (n, dd, ()), (m, ()), ()) = some (chkC l id n dd m) := by
  unfold chkC
  by_cases h0 : timed (ptsL l) n dd = 0
  · obtain ⟨a, b, c⟩ := timed_ok h0
    have e1 : ∃ r, F_field_Rank d ((l, ()), (id, ()), (n, dd, ()), ()) = some (r, if hasL l id = true then 0 else 6) := by
      cases hh : hasL l id with
      | true =>
        obtain ⟨p, hp, rfl⟩ := hasL_iff.1 hh
        exact ⟨_, rank_has d hd a b hp hn hdd c⟩
      | false => exact ⟨_, rank_no d hd a b hh hn hdd c⟩
    obtain ⟨r, e1⟩ := e1
    rw [if_neg (by simpa using h0)]
    simp only [F_chase_check, chase_check_K, chase_check_r0, chase_check_r1, chase_check_r2, chase_check_r3, chase_check_r4, chase_check_r5, chase_check_r6, Dt.eval, e1]
    cases hasL l id with
    | true =>
      simp only [if_true, show ((0 : Int) != 0) = false from rfl, cond_false]
      by_cases h1 : m < 0
      · rw [if_pos (show m < 0 ∨ 64 < m from .inl h1)]
        simp only [decide_eq_true h1, cond_true, Dt.eval]
      · by_cases h2 : 64 < m
        · rw [if_pos (show m < 0 ∨ 64 < m from .inr h2)]
          simp only [decide_eq_false h1, cond_false, show decide (m > 64) = true from decide_eq_true h2, cond_true, Dt.eval]
        · rw [if_neg (show ¬ (m < 0 ∨ 64 < m) by omega)]
          simp only [decide_eq_false h1, cond_false, show decide (m > 64) = false from decide_eq_false h2, Dt.eval]
    | false =>
      simp only [Bool.false_eq_true, if_false, show ((6 : Int) != 0) = true from rfl, show ((6 : Int) != 6) = false from rfl, cond_true, cond_false, Dt.eval]
      by_cases h1 : m < 0
      · rw [if_pos (show m < 0 ∨ 64 < m from .inl h1)]
        simp only [decide_eq_true h1, cond_true, Dt.eval]
      · by_cases h2 : 64 < m
        · rw [if_pos (show m < 0 ∨ 64 < m from .inr h2)]
          simp only [decide_eq_false h1, cond_false, show decide (m > 64) = true from decide_eq_true h2, cond_true, Dt.eval]
        · rw [if_neg (show ¬ (m < 0 ∨ 64 < m) by omega)]
          simp only [decide_eq_false h1, cond_false, show decide (m > 64) = false from decide_eq_false h2, Dt.eval]
  · have e1 := rank_bad d hlen (id := id) hn hdd h0
    have k : (timed (ptsL l) n dd != 6) = true := by
      rcases timed_cases (ptsL l) n dd with h | h | h | h <;> rw [h] <;> rfl
    rw [if_pos h0]
    simp only [F_chase_check, chase_check_K, chase_check_r0, chase_check_r1, chase_check_r2, chase_check_r3, chase_check_r4, chase_check_r5, chase_check_r6, Dt.eval, e1, show (timed (ptsL l) n dd != 0) = true by simpa using h0, cond_true, k]
theorem rTimed_eq (d : Nat) {l : List T3} (hlen : l.length ≤ 1000) {n dd : Int} (hn : i64B n = true) (hdd : i64B dd = true) : F_ref03_Timed d ((l, ()), (n, dd, ()), ()) = some (timed (ptsL l) n dd) := by
  rw [F_ref03_Timed_eq _ _ (by unfold ref03_Timed_if; simp only [hn, hdd, Bool.and_self, Bool.true_and, decide_eq_true_eq]; rw [ptsL_len]; omega)]
theorem rAt_eq (d : Nat) {l : List T3} (hlen : l.length ≤ 1000) (id : Int) : F_ref03_At d ((l, ()), (id, ()), ()) = some (atI (ptsL l) id) := by
  rw [F_ref03_At_eq _ _ (by unfold ref03_At_if; rw [decide_eq_true_eq]; show (ptsL l).length ≤ _; rw [ptsL_len]; omega)]
theorem atL_has {l : List T3} (h : FldOk l) {p : T3} (hp : p ∈ l) : ∃ k : Nat, l[k]? = some p ∧ atI (ptsL l) p.1 = k := by
  obtain ⟨k, hk⟩ := List.mem_iff_getElem?.1 hp
  refine ⟨k, hk, atI_of (p := ofP p) (fun j q hj hq => ?_) (by unfold ptsL; rw [List.getElem?_map, hk]; rfl) rfl⟩
  unfold ptsL at hq
  rw [List.getElem?_map] at hq
  obtain ⟨hil, rfl⟩ := List.getElem?_eq_some_iff.1 hk
  rw [List.getElem?_eq_getElem (by omega)] at hq
  injection hq with hq
  subst hq
  have := (List.pairwise_iff_getElem.1 h.inc) j k (by omega) hil hj
  show (l[j]).1 ≠ (l[k]).1
  omega
theorem atL_no {l : List T3} {id : Int} (h : hasL l id = false) : atI (ptsL l) id = -1 := by
  refine atI_no (hasB_no fun i P hP => ?_)
  obtain ⟨p, hp, rfl⟩ := pts_mem (List.mem_of_getElem? hP)
  exact hasL_no h hp
theorem atL_neg {l : List T3} (h : FldOk l) (id : Int) : decide (atI (ptsL l) id < 0) = !hasL l id := by
  cases hh : hasL l id with
  | true =>
    obtain ⟨p, hp, rfl⟩ := hasL_iff.1 hh
    obtain ⟨k, _, e⟩ := atL_has h hp
    rw [e]; exact decide_eq_false (by omega)
  | false => rw [atL_no hh]; rfl
theorem rasked_eq (d : Nat) {l : List T3} (hlen : l.length ≤ 1000) (id m : Int) {n dd : Int} (hn : i64B n = true) (hdd : i64B dd = true) : F_ref34_asked d ((l, ()), (id, ()), (n, dd, ()), (m, ()), ()) = some (chkC l id n dd m) := by
  have e1 := rTimed_eq d hlen hn hdd
  have e2 := rAt_eq d hlen id
  unfold chkC
  by_cases h0 : timed (ptsL l) n dd = 0
  · obtain ⟨a, b, c⟩ := timed_ok h0
    have e3 := atL_neg a id
    rw [if_neg (by simpa using h0)]
    simp only [F_ref34_asked, ref34_asked_K, ref34_asked_r0, ref34_asked_r1, ref34_asked_r2, ref34_asked_r3, ref34_asked_r4, ref34_asked_r5, ref34_asked_r6, ref34_asked_r7, ref34_asked_r8, Dt.eval, e1, h0, show ((0 : Int) != 0) = false from rfl, cond_false]
    by_cases h1 : m < 0
    · rw [if_pos (show m < 0 ∨ 64 < m from .inl h1)]
      simp only [decide_eq_true h1, cond_true, Dt.eval]
    · by_cases h2 : 64 < m
      · rw [if_pos (show m < 0 ∨ 64 < m from .inr h2)]
        simp only [decide_eq_false h1, cond_false, show decide (m > 64) = true from decide_eq_true h2, cond_true, Dt.eval]
      · rw [if_neg (show ¬ (m < 0 ∨ 64 < m) by omega)]
        simp only [decide_eq_false h1, cond_false, show decide (m > 64) = false from decide_eq_false h2, Dt.eval, e2, e3]
        cases hasL l id <;> rfl
  · rw [if_pos h0]
    simp only [F_ref34_asked, ref34_asked_K, ref34_asked_r0, ref34_asked_r1, ref34_asked_r2, ref34_asked_r3, ref34_asked_r4, ref34_asked_r5, ref34_asked_r6, ref34_asked_r7, ref34_asked_r8, Dt.eval, e1, show (timed (ptsL l) n dd != 0) = true by simpa using h0, cond_true]
theorem rOther_eq (d : Nat) (x : M4) (id : Int) : F_ref34_Other d ((x.1, x.2.1, x.2.2.1, x.2.2.2.1, ()), (id, ()), ()) = some (oth id x) := by
  unfold oth
  simp only [F_ref34_Other, ref34_Other_K, ref34_Other_r0, ref34_Other_r1, ref34_Other_r2, ref34_Other_r3, Dt.eval]
  by_cases h : x.2.2.1 = id
  · simp only [h, beq_self_eq_true, cond_true, if_true]
  · simp only [show (x.2.2.1 == id) = false by simpa using h, cond_false, h, if_false]
theorem sel_loop (d : Nat) {L : List M4} {id n dd : Int} (hL : ∀ x ∈ L, okW x) (hlen : L.length ≤ 4096) (hn : i64B n = true) (hdd : i64B dd = true) : ∀ (f i : Nat) (out : List M4), L.length - i < f → i ≤ L.length → out.length ≤ i →
    iter (ref34_behind_L1 d) f (id, (i : Int), n, dd, L, out) = iter (ref34_behind_L3 d) d (id, (1 : Int), out ++ (L.drop i).filter (selC id n dd))
  | 0, i, out, hf, _, _ => by omega
  | f + 1, i, out, hf, hi, ho => by
    have ih := sel_loop d (id := id) hL hlen hn hdd f (i + 1)
    rw [iter]
    revert ih
    generalize iter (ref34_behind_L1 d) f = self
    intro ih
    unfold ref34_behind_L1 ref34_behind_J2
    by_cases hlt : i < L.length
    · obtain ⟨x, hx⟩ : ∃ x, L[i]? = some x := ⟨_, List.getElem?_eq_getElem hlt⟩
      have hxw := hL x (List.mem_of_getElem? hx)
      have e1 := rCompare_eq d x.1 x.2.1 n dd hxw.b1 hxw.b2 hn hdd
      have wi := wrap_succ (show i < 1000000 by omega)
      rw [drop_of hx, List.filter_cons]
      have ha : apB out.length 1 = true := by unfold apB; rw [Nat.ble_eq]; omega
      have hs : selC id n dd x = (((x.2.2.1 == id) || (x.2.2.2.1 == id)) && gtM n dd x) := rfl
      simp only [ref34_behind_r4, ref34_behind_r5, ref34_behind_r6, ref34_behind_r7, Dt.eval, ref34_behind_K, dec_lt hlt, cond_true, inB_of hlt, elt_some hx, e1, gt_cmp]
      have h1 := ih out (by omega) (by omega) (by omega)
      have h2 := ih (out ++ [x]) (by omega) (by omega) (by rw [List.length_append]; simp; omega)
      rw [List.append_assoc] at h2
      cases g1 : (x.2.2.1 == id) with
      | true =>
        rw [g1, Bool.true_or, Bool.true_and] at hs
        simp only [cond_true]
        cases g3 : gtM n dd x with
        | true =>
          rw [g3] at hs
          simp only [cond_true, hs, if_true, List.length_cons, List.length_nil, Nat.zero_add, ha, wi]
          exact h2
        | false =>
          rw [g3] at hs
          simp only [cond_false, hs, Bool.false_eq_true, if_false, wi]
          exact h1
      | false =>
        simp only [cond_false]
        rw [g1, Bool.false_or] at hs
        cases g2 : (x.2.2.2.1 == id) with
        | true =>
          rw [g2, Bool.true_and] at hs
          simp only [cond_true]
          cases g3 : gtM n dd x with
          | true =>
            rw [g3] at hs
            simp only [cond_true, hs, if_true, List.length_cons, List.length_nil, Nat.zero_add, ha, wi]
            exact h2
          | false =>
            rw [g3] at hs
            simp only [cond_false, hs, Bool.false_eq_true, if_false, wi]
            exact h1
        | false =>
          rw [g2, Bool.false_and] at hs
          simp only [cond_false, hs, Bool.false_eq_true, if_false, wi]
          exact h1
    · have hkl : i = L.length := by omega
      simp only [ref34_behind_r4, ref34_behind_r5, ref34_behind_r6, ref34_behind_r7, ref34_behind_r8, Dt.eval, ref34_behind_K, dec_nlt hlt, cond_false]
      rw [hkl, List.drop_length]
      simp
/-- sorted up to a place, by time and other point -/
def SrtC (id : Int) (out : List M4) (i : Nat) : Prop := Srt (out.map (oC id)) i
def NearC (id : Int) (out : List M4) (i k : Nat) : Prop := Near (out.map (oC id)) i k
theorem insC_in (d : Nat) {M : List M4} {id : Int} (hM : ∀ x ∈ M, okW x) (hlen : M.length ≤ 4096) (hT : TimeS (atL M)) (self3 : (Int × Int × List Diiii) → Option ref34_behind_R) {i : Nat} : ∀ (f k : Nat) (out : List M4), k < f → k ≤ i → i < out.length → out.Perm M → atL out = atL M → NearC id out (i + 1) k →
    ∃ out', out'.Perm M ∧ atL out' = atL M ∧ SrtC id out' (i + 1) ∧ iter (ref34_behind_L4 d self3) f (id, (i : Int), (k : Int), out) = self3 (id, ((i + 1 : Nat) : Int), out')
  | 0, k, out, hf, _, _, _, _, _ => by omega
  | f + 1, k, out, hf, hk, hi, hp, hat, hn => by
    have hw : ∀ x ∈ out, okW x := fun x hx => hM x (hp.mem_iff.1 hx)
    have hwm : ∀ x ∈ out.map (oC id), okM x := fun x hx => by
      obtain ⟨y, hy, rfl⟩ := List.mem_map.1 hx
      exact (hw y hy).ok
    have hl : out.length ≤ 4096 := by rw [hp.length_eq]; exact hlen
    have ih := fun k out => insC_in d (id := id) hM hlen hT self3 (i := i) f k out
    rw [iter]
    revert ih
    generalize iter (ref34_behind_L4 d self3) f = self
    intro ih
    unfold ref34_behind_L4
    simp only [ref34_behind_r10, ref34_behind_r11, ref34_behind_r12, ref34_behind_r13, ref34_behind_r14, Dt.eval, ref34_behind_K]
    have wi := wrap_succ (show i < 1000000 by omega)
    rcases Nat.eq_zero_or_pos k with h0 | h0
    · subst h0
      simp only [show decide (((0 : Nat) : Int) > 0) = false from rfl, cond_false, wi]
      exact ⟨out, hp, hat, near_stop hwm hn (.inl rfl), rfl⟩
    · have c1 : decide ((k : Int) > 0) = true := by rw [decide_eq_true_eq]; omega
      have wk : IntKind.wrap .i64 ((k : Int) - 1) = ((k - 1 : Nat) : Int) := by rw [IntWalk.i64_in _ (by omega)]; omega
      obtain ⟨x, hx⟩ : ∃ x, out[k]? = some x := ⟨_, List.getElem?_eq_getElem (by omega)⟩
      obtain ⟨y, hy⟩ : ∃ y, out[k - 1]? = some y := ⟨_, List.getElem?_eq_getElem (by omega)⟩
      have hxw := hw x (List.mem_of_getElem? hx)
      have hyw := hw y (List.mem_of_getElem? hy)
      have hmx : (out.map (oC id))[k]? = some (oC id x) := by rw [List.getElem?_map, hx]; rfl
      have hmy : (out.map (oC id))[k - 1]? = some (oC id y) := by rw [List.getElem?_map, hy]; rfl
      have htime : ¬ x.1 * y.2.1 < y.1 * x.2.1 := by
        rw [← hat] at hT
        obtain ⟨q1, q2⟩ := List.getElem?_eq_some_iff.1 (atL_get hx)
        obtain ⟨q3, q4⟩ := List.getElem?_eq_some_iff.1 (atL_get hy)
        have := (List.pairwise_iff_getElem.1 hT) (k - 1) k q3 q1 (by omega)
        rw [q2, q4] at this
        exact this
      have hadj := ltC_adj (id := id) hxw.ok hyw.ok htime
      have e1 := rOther_eq d x id
      have e2 := rOther_eq d y id
      simp only [c1, cond_true, wk, inB_of (show k < out.length by omega), inB_of (show k - 1 < out.length by omega), elt_some hx, elt_some hy, e1, e2, Dt.eval]
      have stop : ltC id x y = false → ∃ out', out'.Perm M ∧ atL out' = atL M ∧ SrtC id out' (i + 1) ∧ self3 (id, ((i + 1 : Nat) : Int), out) = self3 (id, ((i + 1 : Nat) : Int), out') := fun hb => ⟨out, hp, hat, near_stop hwm hn (.inr ⟨_, _, hmx, hmy, hb⟩), rfl⟩
      by_cases a1 : x.1 = y.1
      · by_cases a2 : x.2.1 = y.2.1
        · rw [decide_eq_true a1, decide_eq_true a2, Bool.true_and, Bool.true_and] at hadj
          simp only [a1, a2, beq_self_eq_true, Bool.and_self, cond_true]
          cases hb : ltC id x y with
          | false =>
            rw [hb] at hadj
            simp only [← hadj, cond_false, wi]
            exact stop hb
          | true =>
            rw [hb] at hadj
            have hset : ((out.set k y).set (k - 1) x) = ((out.set k (y.1, y.2.1, y.2.2.1, y.2.2.2.1, ())).set (k - 1) (y.1, y.2.1, x.2.2.1, x.2.2.2.1, ())) := by rw [← a1, ← a2]; congr 2; rw [a1, a2]
            simp only [← hadj, cond_true, List.length_set, inB_of (show k < out.length by omega), inB_of (show k - 1 < out.length by omega), elt_some hx, elt_some hy, wk, Int.toNat_natCast, a1, a2]
            rw [← hset]
            refine ih (k - 1) ((out.set k y).set (k - 1) x) (by omega) (by omega) (by simp only [List.length_set]; omega) ((swap_perm h0 hx hy).trans hp) ((atL_swap h0 hx hy ⟨a1, a2⟩).trans hat) ?_
            have := near_swap (by omega) (by rw [List.length_map]; omega) h0 hmx hmy hb hn
            unfold NearC
            rw [List.map_set, List.map_set]
            exact this
        · rw [decide_eq_false a2, Bool.and_false, Bool.false_and] at hadj
          simp only [a1, show (x.2.1 == y.2.1) = false by simpa using a2, beq_self_eq_true, Bool.false_and, Bool.and_false, cond_false, wi]
          exact stop hadj
      · rw [decide_eq_false a1, Bool.false_and, Bool.false_and] at hadj
        simp only [show (x.1 == y.1) = false by simpa using a1, Bool.false_and, cond_false, wi]
        exact stop hadj
theorem insC_out (d : Nat) (hd : 5000 ≤ d) {M : List M4} {id : Int} (hM : ∀ x ∈ M, okW x) (hlen : M.length ≤ 4096) (hT : TimeS (atL M)) : ∀ (f i : Nat) (out : List M4), out.length - i < f → 0 < i → out.Perm M → atL out = atL M → SrtC id out i →
    ∃ out', out'.Perm M ∧ SrtC id out' out'.length ∧ iter (ref34_behind_L3 d) f (id, (i : Int), out) = some out'
  | 0, i, out, hf, _, _, _, _ => by omega
  | f + 1, i, out, hf, h0, hp, hat, hs => by
    have hl : out.length ≤ 4096 := by rw [hp.length_eq]; exact hlen
    have ih := fun i out => insC_out d hd (id := id) hM hlen hT f i out
    rw [iter]
    revert ih
    generalize iter (ref34_behind_L3 d) f = self
    intro ih
    unfold ref34_behind_L3
    simp only [ref34_behind_r9, ref34_behind_r11, ref34_behind_r15, Dt.eval]
    by_cases hlt : i < out.length
    · simp only [dec_lt hlt, cond_true]
      obtain ⟨out1, h1, h1a, h2, h3⟩ := insC_in d (id := id) hM hlen hT self (i := i) d i out (by omega) (Nat.le_refl _) hlt hp hat (fun a b x y hab hbi hne hx hy => hs a b x y hab (by omega) hx hy)
      rw [h3]
      have hlen1 : out1.length = out.length := (h1.trans hp.symm).length_eq
      exact ih (i + 1) out1 (by omega) (by omega) h1 h1a h2
    · simp only [dec_nlt hlt, cond_false]
      exact ⟨out, hp, fun a b x y hab hb => hs a b x y hab (by omega), rfl⟩
theorem srtC_pw {id : Int} {out : List M4} (h : SrtC id out out.length) : out.Pairwise fun a b => ltC id b a = false := by
  have := srt_pw (out := out.map (oC id)) (by rw [List.length_map]; exact h)
  rw [List.pairwise_map] at this
  exact this
theorem rbeh_eq (d : Nat) (hd : 5000 ≤ d) {l : List T3} (h : FldOk l) {p : T3} (hp : p ∈ l) {n dd : Int} (hn : i64B n = true) (hdd : i64B dd = true) : F_ref34_behind d ((l, ()), (p.1, ()), (n, dd, ()), ()) = some (chL l p n dd) := by
  have e1 := rPairs_eq d hd h
  have hlen := allM_len h
  have e2 := sel_loop d (id := p.1) (allM_w h) hlen hn hdd d 0 [] (by omega) (by omega) (by simp)
  rw [List.drop_zero, List.nil_append] at e2
  have hsub : ((allM l).filter (selC p.1 n dd)).Sublist (allM l) := List.filter_sublist
  have hfl : ((allM l).filter (selC p.1 n dd)).length ≤ 4096 := Nat.le_trans hsub.length_le hlen
  obtain ⟨out, h1, h2, h3⟩ := insC_out d hd (id := p.1) (M := (allM l).filter (selC p.1 n dd)) (fun x hx => allM_w h x (hsub.subset hx)) hfl (timeS_of ((allM_pw h).sublist hsub)) d 1 ((allM l).filter (selC p.1 n dd)) (by omega) (by omega) (List.Perm.refl _) rfl (fun a b x y hab hb => by omega)
  simp only [F_ref34_behind, ref34_behind_K, ref34_behind_r0, ref34_behind_r1, ref34_behind_r2, ref34_behind_r3, Dt.eval, e1]
  refine e2.trans (h3.trans (congrArg some ?_))
  exact chL_only h hp h1 (srtC_pw h2)
end Go.Proofs.Ytmagihjfbembjaa

namespace Go.Proofs.Ytmagihjfbembjaa
open Go Go.Tx Go.Pel
/-- the meetings of the point with an ID -/
def chI (l : List T3) (id n dd : Int) : List M4 := match l.find? (fun p => p.1 == id) with | some p => chL l p n dd | none => []
theorem find_mem {l : List T3} (h : FldOk l) {p : T3} (hp : p ∈ l) : l.find? (fun q => q.1 == p.1) = some p := by
  cases hf : l.find? (fun q => q.1 == p.1) with
  | none =>
    have := List.find?_eq_none.1 hf p hp
    simp at this
  | some q =>
    have h1 := List.find?_some hf
    rw [beq_iff_eq] at h1
    rw [ids_eq h (List.mem_of_find?_eq_some hf) hp h1]
theorem chI_eq {l : List T3} (h : FldOk l) {p : T3} (hp : p ∈ l) (n dd : Int) : chI l p.1 n dd = chL l p n dd := by
  unfold chI; rw [find_mem h hp]
theorem chI_len {l : List T3} (id n dd : Int) : (chI l id n dd).length ≤ l.length := by
  unfold chI
  split
  · exact chL_len _ _ _ _
  · exact Nat.zero_le _
theorem beh_id (d : Nat) (hd : 5000 ≤ d) {l : List T3} (h : FldOk l) (h0 : fieldChk (ptsL l) = 0) (h16 : l.length ≤ 16) {id : Int} (hh : hasL l id = true) {n dd : Int} (hn : i64B n = true) (hdd : i64B dd = true) (hr : ratioChk n dd = 0) :
    F_chase_behind d ((l, ()), (id, ()), (n, dd, ()), ()) = some (chI l id n dd) ∧ F_ref34_behind d ((l, ()), (id, ()), (n, dd, ()), ()) = some (chI l id n dd) := by
  obtain ⟨p, hp, rfl⟩ := hasL_iff.1 hh
  rw [chI_eq h hp]
  exact ⟨beh_eq d (by omega) h h0 (by omega) hp hn hdd hr, rbeh_eq d hd h hp hn hdd⟩
def planV (l : List T3) (id n dd m : Int) : List M4 × Int := if chkC l id n dd m ≠ 0 then ([], chkC l id n dd m) else ((chI l id n dd).take (tmin m ((chI l id n dd).length : Int)).toNat, 0)
theorem tmin_ok {m : Int} {k : Nat} (h : 0 ≤ m) : (decide (0 ≤ tmin m (k : Int)) && decide (tmin m (k : Int) ≤ (k : Int))) = true := by
  unfold tmin
  simp only [Bool.and_eq_true, decide_eq_true_eq]
  split <;> omega
/-- fields that the laws look at -/
def Small (l : List T3) : Prop := l.length ≤ 1000 ∧ (l.length ≤ 64 → l.length ≤ 16)
theorem plan_eq (d : Nat) (hd : 5000 ≤ d) {l : List T3} (hs : Small l) (id m : Int) {n dd : Int} (hn : i64B n = true) (hdd : i64B dd = true) : F_chase_Plan d ((l, ()), (id, ()), (n, dd, ()), (m, ()), ()) = some (planV l id n dd m) ∧ F_ref34_Plan d ((l, ()), (id, ()), (n, dd, ()), (m, ()), ()) = some (planV l id n dd m) := by
  have e1 := ccheck_eq d (by omega) hs.1 id m hn hdd
  have e2 := rasked_eq d hs.1 id m hn hdd
  unfold planV
  by_cases h0 : chkC l id n dd m = 0
  · obtain ⟨a, b, c, m0, m1, hh⟩ := chkC_zero h0
    obtain ⟨e3, e4⟩ := beh_id d hd a b (hs.2 a.len) hh hn hdd c
    have ht := tmin_ok (k := (chI l id n dd).length) m0
    rw [if_neg (by simpa using h0)]
    simp only [F_chase_Plan, chase_Plan_K, chase_Plan_r0, chase_Plan_r1, chase_Plan_r2, chase_Plan_r3, chase_Plan_r4, chase_Plan_r5, F_ref34_Plan, ref34_Plan_K, ref34_Plan_r0, ref34_Plan_r1, ref34_Plan_r2, ref34_Plan_r3, ref34_Plan_r4, ref34_Plan_r5, Dt.eval, e1, e2, h0, show ((0 : Int) != 0) = false from rfl, cond_false, e3, e4, ht, cond_true, and_self]
  · rw [if_pos h0]
    simp only [F_chase_Plan, chase_Plan_K, chase_Plan_r0, chase_Plan_r1, chase_Plan_r2, chase_Plan_r3, chase_Plan_r4, chase_Plan_r5, F_ref34_Plan, ref34_Plan_K, ref34_Plan_r0, ref34_Plan_r1, ref34_Plan_r2, ref34_Plan_r3, ref34_Plan_r4, ref34_Plan_r5, Dt.eval, e1, e2, show (chkC l id n dd m != 0) = true by simpa using h0, cond_true, and_self]
def cnextV (l : List T3) (id n dd : Int) : Int × Int × Int × Int × Int := if chkC l id n dd 1 ≠ 0 then (0, 0, 0, 0, chkC l id n dd 1) else match (chI l id n dd)[0]? with
  | some x => (x.1, x.2.1, x.2.2.1, x.2.2.2.1, 0)
  | none => (0, 0, 0, 0, 6)
theorem chk1_eq {l : List T3} {id n dd : Int} : chkC l id n dd 1 = if timed (ptsL l) n dd ≠ 0 then timed (ptsL l) n dd else if hasL l id = true then 0 else 6 := by
  unfold chkC
  by_cases h0 : timed (ptsL l) n dd = 0
  · simp only [h0, ne_eq, not_true_eq_false, if_false, show ¬ ((1 : Int) < 0 ∨ (64 : Int) < 1) by omega]
  · rw [if_pos h0, if_pos h0]
theorem cnext_eq (d : Nat) (hd : 5000 ≤ d) {l : List T3} (hs : Small l) (id : Int) {n dd : Int} (hn : i64B n = true) (hdd : i64B dd = true) : F_chase_Next d ((l, ()), (id, ()), (n, dd, ()), ()) = some (cnextV l id n dd) ∧ F_ref34_Next d ((l, ()), (id, ()), (n, dd, ()), ()) = some (cnextV l id n dd) := by
  have e1 := (plan_eq d hd hs id 1 hn hdd).1
  have e2 := rTimed_eq d hs.1 hn hdd
  have e3 := rAt_eq d hs.1 id
  unfold cnextV
  unfold planV at e1
  by_cases h0 : chkC l id n dd 1 = 0
  · obtain ⟨a, b, c, _, _, hh⟩ := chkC_zero h0
    obtain ⟨_, e4⟩ := beh_id d hd a b (hs.2 a.len) hh hn hdd c
    have e5 := atL_neg a id
    rw [hh] at e5
    rw [if_neg (by simpa using h0)] at e1 ⊢
    have ht := timed_of b c
    cases hL : (chI l id n dd) with
    | nil =>
      rw [hL] at e1 e4
      have e1' : F_chase_Plan d ((l, ()), (id, ()), (n, dd, ()), ((1 : Int), ()), ()) = some ([], 0) := e1
      simp only [F_chase_Next, chase_Next_K, chase_Next_r0, chase_Next_r1, chase_Next_r2, chase_Next_r3, chase_Next_r4, chase_Next_r5, chase_Next_r6, F_ref34_Next, ref34_Next_K, ref34_Next_r0, ref34_Next_r1, ref34_Next_r2, ref34_Next_r3, ref34_Next_r4, ref34_Next_r5, ref34_Next_r6, ref34_Next_r7, ref34_Next_r8, ref34_Next_r9, Dt.eval, e1', e2, e3, e4, e5, ht, show ((0 : Int) != 0) = false from rfl, cond_false, Bool.not_true, List.length_nil, show (((0 : Nat) : Int) == 0) = true from rfl, cond_true, List.getElem?_nil, and_self]
    | cons x r =>
      rw [hL] at e1 e4
      have hm : tmin (1 : Int) ((x :: r).length : Int) = 1 := by unfold tmin; rw [List.length_cons]; split <;> omega
      rw [hm] at e1
      have e1' : F_chase_Plan d ((l, ()), (id, ()), (n, dd, ()), ((1 : Int), ()), ()) = some ([x], 0) := e1
      have c1 : (((x :: r).length : Int) == 0) = false := by rw [beq_eq_false_iff_ne, List.length_cons]; omega
      have i1 : inB (0 : Int) (x :: r).length = true := inB_of (k := 0) (by simp)
      have i2 : inB (0 : Int) [x].length = true := inB_of (k := 0) (by simp)
      have x1 : elt ziiii (x :: r) (0 : Int).toNat = x := rfl
      have x2 : elt ziiii [x] (0 : Int).toNat = x := rfl
      simp only [F_chase_Next, chase_Next_K, chase_Next_r0, chase_Next_r1, chase_Next_r2, chase_Next_r3, chase_Next_r4, chase_Next_r5, chase_Next_r6, F_ref34_Next, ref34_Next_K, ref34_Next_r0, ref34_Next_r1, ref34_Next_r2, ref34_Next_r3, ref34_Next_r4, ref34_Next_r5, ref34_Next_r6, ref34_Next_r7, ref34_Next_r8, ref34_Next_r9, Dt.eval, e1', e2, e3, e4, e5, ht, show ((0 : Int) != 0) = false from rfl, cond_false, Bool.not_true, c1, show (([x].length : Int) == 0) = false from rfl, i1, i2, cond_true, x1, x2, List.getElem?_cons_zero, and_self]
  · rw [if_pos h0] at e1 ⊢
    rw [chk1_eq] at *
    have e1' := e1
    by_cases ht : timed (ptsL l) n dd = 0
    · rw [if_neg (by simpa using ht)] at *
      obtain ⟨a, b, c⟩ := timed_ok ht
      have e5 := atL_neg a id
      cases hh : hasL l id with
      | true => rw [hh, if_pos rfl] at h0; exact absurd rfl h0
      | false =>
        rw [hh] at e1' e5
        simp only [Bool.false_eq_true, if_false] at e1'
        simp only [F_chase_Next, chase_Next_K, chase_Next_r0, chase_Next_r1, chase_Next_r2, chase_Next_r3, chase_Next_r4, chase_Next_r5, chase_Next_r6, F_ref34_Next, ref34_Next_K, ref34_Next_r0, ref34_Next_r1, ref34_Next_r2, ref34_Next_r3, ref34_Next_r4, ref34_Next_r5, ref34_Next_r6, ref34_Next_r7, ref34_Next_r8, ref34_Next_r9, Dt.eval, e1', e2, e3, e5, ht, show ((0 : Int) != 0) = false from rfl, cond_false, Bool.not_false, cond_true, show ((6 : Int) != 0) = true from rfl, Bool.false_eq_true, if_false, and_self]
    · rw [if_pos ht] at *
      simp only [F_chase_Next, chase_Next_K, chase_Next_r0, chase_Next_r1, chase_Next_r2, chase_Next_r3, chase_Next_r4, chase_Next_r5, chase_Next_r6, F_ref34_Next, ref34_Next_K, ref34_Next_r0, ref34_Next_r1, ref34_Next_r2, ref34_Next_r3, ref34_Next_r4, ref34_Next_r5, ref34_Next_r6, ref34_Next_r7, ref34_Next_r8, ref34_Next_r9, Dt.eval, e1', e2, show (timed (ptsL l) n dd != 0) = true by simpa using ht, cond_true, and_self]
/-- a chain of meetings -/
def chnL (l : List T3) : Nat → Int → Int → Int → List M4
  | 0, _, _, _ => []
  | k + 1, id, n, dd => match (chI l id n dd)[0]? with
    | none => []
    | some x => x :: chnL l k (oth id x) x.1 x.2.1
def chainV (l : List T3) (id n dd m : Int) : List M4 × Int := if chkC l id n dd m ≠ 0 then ([], chkC l id n dd m) else (chnL l m.toNat id n dd, 0)
theorem chnL_len (l : List T3) : ∀ (k : Nat) (id n dd : Int), (chnL l k id n dd).length ≤ k
  | 0, _, _, _ => Nat.le_refl _
  | k + 1, id, n, dd => by
    unfold chnL
    split
    · exact Nat.zero_le _
    · rename_i x _
      have := chnL_len l k (oth id x) x.1 x.2.1
      rw [List.length_cons]; omega
/-- the next point of a chain -/
theorem chI_step {l : List T3} (h : FldOk l) {id n dd : Int} (hh : hasL l id = true) {x : M4} (hx : x ∈ chI l id n dd) : okC id x ∧ gtM n dd x = true ∧ hasL l (oth id x) = true ∧ ratioChk x.1 x.2.1 = 0 := by
  obtain ⟨p, hp, rfl⟩ := hasL_iff.1 hh
  rw [chI_eq h hp] at hx
  obtain ⟨h1, h2⟩ := chL_ok h (h.ok p hp) x hx
  refine ⟨h1, h2, ?_, h1.w.ok⟩
  obtain ⟨q, hq, hx⟩ := chL_mem.1 hx
  obtain ⟨_, _, rfl, h3, _⟩ := chM_ok (h.ok p hp) (h.ok q hq) hx
  rw [oth_chV h3]
  exact hasL_iff.2 ⟨q, hq, rfl⟩
theorem chain_loop (d : Nat) (hd : 5000 ≤ d) {l : List T3} (hs : Small l) (h : FldOk l) (h0 : fieldChk (ptsL l) = 0) {m : Nat} (hm : m ≤ 64) : ∀ (f : Nat) (id n dd : Int) (out : List M4), m - out.length < f → out.length ≤ m → hasL l id = true → i64B n = true → i64B dd = true → ratioChk n dd = 0 →
    iter (chase_Chain_L2 d) f (id, (m : Int), l, n, dd, out) = some (out ++ chnL l (m - out.length) id n dd, 0) ∧ iter (ref34_Chain_L2 d) f (id, (m : Int), l, n, dd, out) = some (out ++ chnL l (m - out.length) id n dd, 0)
  | 0, _, _, _, out, hf, _, _, _, _, _ => by omega
  | f + 1, id, n, dd, out, hf, ho, hh, hn, hdd, hr => by
    have ih := fun id n dd out => chain_loop d hd hs h h0 hm f id n dd out
    rw [iter, iter]
    revert ih
    generalize iter (chase_Chain_L2 d) f = self
    generalize iter (ref34_Chain_L2 d) f = self'
    intro ih
    unfold chase_Chain_L2 chase_Chain_J1 ref34_Chain_L2 ref34_Chain_J1
    by_cases hlt : out.length < m
    · have e1 := (cnext_eq d hd hs id hn hdd).1
      obtain ⟨_, e2⟩ := beh_id d hd h h0 (hs.2 h.len) hh hn hdd hr
      have hc : chkC l id n dd 1 = 0 := chkC_of h0 hr (by omega) (by omega) hh
      unfold cnextV at e1
      rw [if_neg (by simpa using hc)] at e1
      obtain ⟨k, hk⟩ : ∃ k, m - out.length = k + 1 := ⟨m - out.length - 1, by omega⟩
      rw [hk]
      unfold chnL
      cases hL : chI l id n dd with
      | nil =>
        rw [hL] at e1 e2
        simp only [List.getElem?_nil] at e1
        simp only [chase_Chain_r5, chase_Chain_r6, chase_Chain_r7, chase_Chain_r8, chase_Chain_r9, chase_Chain_r10, ref34_Chain_r5, ref34_Chain_r6, ref34_Chain_r7, ref34_Chain_r8, ref34_Chain_r9, ref34_Chain_r10, chase_Chain_K, ref34_Chain_K, Dt.eval, dec_lt hlt, cond_true, e1, e2, show ((6 : Int) != 0) = true from rfl, List.length_nil, show (((0 : Nat) : Int) == 0) = true from rfl, List.getElem?_nil, List.append_nil, and_self]
      | cons x r =>
        obtain ⟨k1, k2, k3, k4⟩ := chI_step h hh (x := x) (by rw [hL]; exact List.mem_cons_self ..)
        rw [hL] at e1 e2
        simp only [List.getElem?_cons_zero] at e1
        have c1 : (((x :: r).length : Int) == 0) = false := by rw [beq_eq_false_iff_ne, List.length_cons]; omega
        have i1 : inB (0 : Int) (x :: r).length = true := inB_of (k := 0) (by simp)
        have x1 : elt ziiii (x :: r) (0 : Int).toNat = x := rfl
        have ha : apB out.length 1 = true := by unfold apB; rw [Nat.ble_eq]; omega
        have e3 := other_eq d x id
        have e4 := rOther_eq d x id
        obtain ⟨g1, g2⟩ := ih (oth id x) x.1 x.2.1 (out ++ [x]) (by rw [List.length_append]; simp; omega) (by rw [List.length_append]; simp; omega) k3 k1.w.b1 k1.w.b2 k4
        have hk2 : m - (out ++ [x]).length = k := by rw [List.length_append]; simp; omega
        rw [hk2, List.append_assoc] at g1 g2
        simp only [chase_Chain_r5, chase_Chain_r6, chase_Chain_r7, chase_Chain_r8, chase_Chain_r9, chase_Chain_r10, ref34_Chain_r5, ref34_Chain_r6, ref34_Chain_r7, ref34_Chain_r8, ref34_Chain_r9, ref34_Chain_r10, chase_Chain_K, ref34_Chain_K, Dt.eval, dec_lt hlt, cond_true, e1, e2, show ((0 : Int) != 0) = false from rfl, cond_false, c1, i1, x1, List.length_cons, List.length_nil, Nat.zero_add, ha, e3, e4, List.getElem?_cons_zero]
        exact ⟨g1, g2⟩
    · have hk : m - out.length = 0 := by omega
      rw [hk]
      unfold chnL
      simp only [chase_Chain_r5, chase_Chain_r6, chase_Chain_r7, chase_Chain_r8, chase_Chain_r9, chase_Chain_r10, ref34_Chain_r5, ref34_Chain_r6, ref34_Chain_r7, ref34_Chain_r8, ref34_Chain_r9, ref34_Chain_r10, chase_Chain_K, ref34_Chain_K, Dt.eval, dec_nlt hlt, cond_false, List.append_nil, and_self]
theorem chain_eq (d : Nat) (hd : 5000 ≤ d) {l : List T3} (hs : Small l) (id m : Int) {n dd : Int} (hn : i64B n = true) (hdd : i64B dd = true) : F_chase_Chain d ((l, ()), (id, ()), (n, dd, ()), (m, ()), ()) = some (chainV l id n dd m) ∧ F_ref34_Chain d ((l, ()), (id, ()), (n, dd, ()), (m, ()), ()) = some (chainV l id n dd m) := by
  have e1 := ccheck_eq d (by omega) hs.1 id m hn hdd
  have e2 := rasked_eq d hs.1 id m hn hdd
  unfold chainV
  by_cases h0 : chkC l id n dd m = 0
  · obtain ⟨a, b, c, m0, m1, hh⟩ := chkC_zero h0
    obtain ⟨k, rfl⟩ : ∃ k : Nat, m = k := ⟨m.toNat, by omega⟩
    obtain ⟨g1, g2⟩ := chain_loop d hd hs a b (m := k) (by omega) d id n dd [] (by simp; omega) (by simp) hh hn hdd c
    rw [if_neg (by simpa using h0)]
    simp only [F_chase_Chain, chase_Chain_K, chase_Chain_r0, chase_Chain_r1, chase_Chain_r2, chase_Chain_r3, chase_Chain_r4, F_ref34_Chain, ref34_Chain_K, ref34_Chain_r0, ref34_Chain_r1, ref34_Chain_r2, ref34_Chain_r3, ref34_Chain_r4, Dt.eval, e1, e2, h0, show ((0 : Int) != 0) = false from rfl, cond_false]
    rw [Int.toNat_natCast]
    exact ⟨g1, g2⟩
  · rw [if_pos h0]
    simp only [F_chase_Chain, chase_Chain_K, chase_Chain_r0, chase_Chain_r1, chase_Chain_r2, chase_Chain_r3, chase_Chain_r4, F_ref34_Chain, ref34_Chain_K, ref34_Chain_r0, ref34_Chain_r1, ref34_Chain_r2, ref34_Chain_r3, ref34_Chain_r4, Dt.eval, e1, e2, show (chkC l id n dd m != 0) = true by simpa using h0, cond_true, and_self]
/-- the pair's meeting -/
def pairM (p q : T3) : M4 := ((mk (p.2.1 - q.2.1) (q.2.2.1 - p.2.2.1)).1, (mk (p.2.1 - q.2.1) (q.2.2.1 - p.2.2.1)).2.1, p.1, q.1, ())
theorem pairM_mt {p q : T3} (hb : p.2.2.1 ≠ q.2.2.1) : mtP (p, q) = some (pairM p q) := by unfold mtP pairM; rw [if_neg hb]
theorem pairM_w {p q : T3} (hp : okP p) (hq : okP q) (hb : p.2.2.1 ≠ q.2.2.1) : okW (pairM p q) := by
  obtain ⟨_, h1, h2, h3, _⟩ := mtP_eq (x := (p, q)) hp hq (pairM_mt hb)
  exact ⟨h1, h2, h3⟩
def catchP (p q : T3) (n dd : Int) : Int × Int × Int := if p.2.2.1 ≤ q.2.2.1 then (0, 0, 6) else if gtM n dd (pairM p q) = true then ((pairM p q).1, (pairM p q).2.1, 0) else (0, 0, 6)
def catchV (l : List T3) (id other n dd : Int) : Int × Int × Int := if timed (ptsL l) n dd ≠ 0 then (0, 0, timed (ptsL l) n dd) else if id = other then (0, 0, 2) else
  match l.find? (fun p => p.1 == id), l.find? (fun p => p.1 == other) with
  | some p, some q => catchP p q n dd
  | _, _ => (0, 0, 6)
theorem find_no {l : List T3} {id : Int} (h : hasL l id = false) : l.find? (fun q => q.1 == id) = none := by
  rw [List.find?_eq_none]
  intro q hq
  have := hasL_no h hq
  simpa using this
theorem find_none (d : Nat) {l : List T3} (h0 : fieldChk (ptsL l) = 0) {id : Int} (hh : hasL l id = false) : ∃ a b c, F_field_Find d ((l, ()), (id, ()), ()) = some (a, b, c, 6) := by
  rw [F_field_Find_eq _ _ rfl]
  have hb : hasB (ptsL l) id = false := hasB_no fun i P hP => by
    obtain ⟨p, hp, rfl⟩ := pts_mem (List.mem_of_getElem? hP)
    exact hasL_no hh hp
  have e : (fieldFind (ptsL l) id).2 = 6 := by
    unfold fieldFind
    rw [if_neg (by simpa using h0), hb]; rfl
  refine ⟨(fieldFind (ptsL l) id).1.id, (fieldFind (ptsL l) id).1.a, (fieldFind (ptsL l) id).1.b, ?_⟩
  show some ((fieldFind (ptsL l) id).1.id, (fieldFind (ptsL l) id).1.a, (fieldFind (ptsL l) id).1.b, (fieldFind (ptsL l) id).2) = _
  rw [e]
theorem rankE (d : Nat) (hd : 2000 ≤ d) {l : List T3} (hlen : l.length ≤ 1000) (id : Int) {n dd : Int} (hn : i64B n = true) (hdd : i64B dd = true) : ∃ r, F_field_Rank d ((l, ()), (id, ()), (n, dd, ()), ()) = some (r, if timed (ptsL l) n dd ≠ 0 then timed (ptsL l) n dd else if hasL l id = true then 0 else 6) := by
  by_cases h0 : timed (ptsL l) n dd = 0
  · obtain ⟨a, b, c⟩ := timed_ok h0
    rw [if_neg (by simpa using h0)]
    cases hh : hasL l id with
    | true =>
      obtain ⟨p, hp, rfl⟩ := hasL_iff.1 hh
      exact ⟨_, rank_has d hd a b hp hn hdd c⟩
    | false => exact ⟨_, rank_no d hd a b hh hn hdd c⟩
  · rw [if_pos h0]
    exact ⟨_, rank_bad d hlen hn hdd h0⟩
theorem catch_eq (d : Nat) (hd : 5000 ≤ d) {l : List T3} (hs : Small l) (id other : Int) {n dd : Int} (hn : i64B n = true) (hdd : i64B dd = true) : F_chase_Catch d ((l, ()), (id, ()), (other, ()), (n, dd, ()), ()) = some (catchV l id other n dd) ∧ F_ref34_Catch d ((l, ()), (id, ()), (other, ()), (n, dd, ()), ()) = some (catchV l id other n dd) := by
  obtain ⟨r, e1⟩ := rankE d (by omega) hs.1 id hn hdd
  have e2 := rTimed_eq d hs.1 hn hdd
  have e3 := rAt_eq d hs.1 id
  have e4 := rAt_eq d hs.1 other
  have b0 : ((0 : Int) != 0) = false := rfl
  have b6 : ((6 : Int) != 0) = true := rfl
  have b66 : ((6 : Int) != 6) = false := rfl
  unfold catchV
  by_cases h0 : timed (ptsL l) n dd = 0
  · obtain ⟨a, b, c⟩ := timed_ok h0
    have e5 := atL_neg a id
    have e6 := atL_neg a other
    rw [if_neg (by simpa using h0)] at e1 ⊢
    by_cases hi : id = other
    · subst hi
      rw [if_pos rfl]
      cases hh : hasL l id with
      | true =>
        rw [hh, if_pos rfl] at e1
        simp only [F_chase_Catch, chase_Catch_K, chase_Catch_r0, chase_Catch_r1, chase_Catch_r2, chase_Catch_r3, chase_Catch_r4, chase_Catch_r5, F_ref34_Catch, ref34_Catch_K, ref34_Catch_r0, ref34_Catch_r1, ref34_Catch_r2, ref34_Catch_r3, ref34_Catch_r4, ref34_Catch_r5, Dt.eval, e1, e2, h0, b0, cond_false, beq_self_eq_true, cond_true, and_self]
      | false =>
        rw [hh] at e1
        simp only [Bool.false_eq_true, if_false] at e1
        simp only [F_chase_Catch, chase_Catch_K, chase_Catch_r0, chase_Catch_r1, chase_Catch_r2, chase_Catch_r3, chase_Catch_r4, chase_Catch_r5, F_ref34_Catch, ref34_Catch_K, ref34_Catch_r0, ref34_Catch_r1, ref34_Catch_r2, ref34_Catch_r3, ref34_Catch_r4, ref34_Catch_r5, Dt.eval, e1, e2, h0, b0, b6, b66, cond_false, beq_self_eq_true, cond_true, and_self]
    · have hi' : (id == other) = false := by simpa using hi
      rw [if_neg hi]
      cases hh : hasL l id with
      | false =>
        rw [hh] at e1 e5
        simp only [Bool.false_eq_true, if_false] at e1
        rw [find_no hh]
        simp only [F_chase_Catch, chase_Catch_K, chase_Catch_r0, chase_Catch_r1, chase_Catch_r2, chase_Catch_r3, chase_Catch_r4, chase_Catch_r5, chase_Catch_r6, chase_Catch_r7, F_ref34_Catch, ref34_Catch_K, ref34_Catch_r0, ref34_Catch_r1, ref34_Catch_r2, ref34_Catch_r3, ref34_Catch_r4, ref34_Catch_r5, ref34_Catch_r6, ref34_Catch_r7, ref34_Catch_r8, Dt.eval, e1, e2, e3, e4, e5, h0, b0, b6, b66, hi', cond_false, cond_true, Bool.not_false, and_self]
      | true =>
        rw [hh] at e1 e5
        rw [if_pos rfl] at e1
        obtain ⟨p, hp, rfl⟩ := hasL_iff.1 hh
        rw [find_mem a hp]
        cases hh2 : hasL l other with
        | false =>
          rw [hh2] at e6
          obtain ⟨x, y, z, e7⟩ := find_none d b hh2
          rw [find_no hh2]
          simp only [F_chase_Catch, chase_Catch_K, chase_Catch_r0, chase_Catch_r1, chase_Catch_r2, chase_Catch_r3, chase_Catch_r4, chase_Catch_r5, chase_Catch_r6, chase_Catch_r7, chase_Catch_r8, chase_Catch_r9, chase_Catch_r10, F_ref34_Catch, ref34_Catch_K, ref34_Catch_r0, ref34_Catch_r1, ref34_Catch_r2, ref34_Catch_r3, ref34_Catch_r4, ref34_Catch_r5, ref34_Catch_r6, ref34_Catch_r7, ref34_Catch_r8, Dt.eval, e1, e2, e3, e4, e5, e6, e7, h0, b0, b6, hi', cond_false, cond_true, Bool.not_false, Bool.not_true, and_self]
        | true =>
          rw [hh2] at e6
          obtain ⟨q, hq, rfl⟩ := hasL_iff.1 hh2
          rw [find_mem a hq]
          have e7 := find_at d a b hq
          have e8 := find_at d a b hp
          obtain ⟨i, hi1, hi2⟩ := atL_has a hp
          obtain ⟨j, hj1, hj2⟩ := atL_has a hq
          have il := (List.getElem?_eq_some_iff.1 hi1).1
          have jl := (List.getElem?_eq_some_iff.1 hj1).1
          have hpo := a.ok p hp
          have hqo := a.ok q hq
          have e9 := meet_eq d hpo hqo hi
          have e10 := met_eq d hpo hqo
          rw [hi2] at e3 e5
          rw [hj2] at e4 e6
          show _ = some (catchP p q n dd) ∧ _ = some (catchP p q n dd)
          unfold catchP
          by_cases hb : p.2.2.1 ≤ q.2.2.1
          · rw [if_pos hb]
            simp only [F_chase_Catch, chase_Catch_K, chase_Catch_r0, chase_Catch_r1, chase_Catch_r2, chase_Catch_r3, chase_Catch_r4, chase_Catch_r5, chase_Catch_r6, chase_Catch_r7, chase_Catch_r8, chase_Catch_r9, chase_Catch_r10, chase_Catch_r11, chase_Catch_r12, chase_Catch_r13, F_ref34_Catch, ref34_Catch_K, ref34_Catch_r0, ref34_Catch_r1, ref34_Catch_r2, ref34_Catch_r3, ref34_Catch_r4, ref34_Catch_r5, ref34_Catch_r6, ref34_Catch_r7, ref34_Catch_r8, ref34_Catch_r9, ref34_Catch_r10, ref34_Catch_r11, Dt.eval, e1, e2, e3, e4, e5, e6, e7, e8, h0, b0, hi', cond_false, cond_true, Bool.not_true, inB_of il, inB_of jl, elt_some hi1, elt_some hj1, decide_eq_true hb, and_self]
          · have hbn : p.2.2.1 ≠ q.2.2.1 := by omega
            have hw := pairM_w hpo hqo hbn
            have e11 := rCmp_eq d (pairM p q).1 (pairM p q).2.1 n dd hw.b1 hw.b2 hn hdd
            have e12 := rCompare_eq d (pairM p q).1 (pairM p q).2.1 n dd hw.b1 hw.b2 hn hdd
            unfold cmpR at e11
            rw [if_pos ⟨hw.ok, c⟩] at e11
            rw [if_neg hbn] at e9
            have e9' : F_course_Meet d ((p.1, p.2.1, p.2.2.1, ()), (q.1, q.2.1, q.2.2.1, ()), ()) = some ((pairM p q).1, (pairM p q).2.1, 0) := e9
            have e10' : F_ref02_Met d ((p.1, p.2.1, p.2.2.1, ()), (q.1, q.2.1, q.2.2.1, ()), ()) = some ((pairM p q).1, (pairM p q).2.1) := e10
            have hle := le_gt (x := pairM p q) (n := n) (dd := dd)
            rw [if_neg hb]
            generalize pairM p q = M at *
            cases hg : gtM n dd M with
            | true =>
              rw [hg] at hle
              simp only [F_chase_Catch, chase_Catch_K, chase_Catch_r0, chase_Catch_r1, chase_Catch_r2, chase_Catch_r3, chase_Catch_r4, chase_Catch_r5, chase_Catch_r6, chase_Catch_r7, chase_Catch_r8, chase_Catch_r9, chase_Catch_r10, chase_Catch_r11, chase_Catch_r12, chase_Catch_r13, chase_Catch_r14, chase_Catch_r15, chase_Catch_r16, chase_Catch_r17, chase_Catch_r18, F_ref34_Catch, ref34_Catch_K, ref34_Catch_r0, ref34_Catch_r1, ref34_Catch_r2, ref34_Catch_r3, ref34_Catch_r4, ref34_Catch_r5, ref34_Catch_r6, ref34_Catch_r7, ref34_Catch_r8, ref34_Catch_r9, ref34_Catch_r10, ref34_Catch_r11, ref34_Catch_r12, Dt.eval, e1, e2, e3, e4, e5, e6, e7, e8, h0, b0, hi', cond_false, cond_true, Bool.not_true, inB_of il, inB_of jl, elt_some hi1, elt_some hj1, decide_eq_false hb, e9', e10', e11, e12, hle, if_true, and_self]
            | false =>
              rw [hg] at hle
              simp only [F_chase_Catch, chase_Catch_K, chase_Catch_r0, chase_Catch_r1, chase_Catch_r2, chase_Catch_r3, chase_Catch_r4, chase_Catch_r5, chase_Catch_r6, chase_Catch_r7, chase_Catch_r8, chase_Catch_r9, chase_Catch_r10, chase_Catch_r11, chase_Catch_r12, chase_Catch_r13, chase_Catch_r14, chase_Catch_r15, chase_Catch_r16, chase_Catch_r17, chase_Catch_r18, F_ref34_Catch, ref34_Catch_K, ref34_Catch_r0, ref34_Catch_r1, ref34_Catch_r2, ref34_Catch_r3, ref34_Catch_r4, ref34_Catch_r5, ref34_Catch_r6, ref34_Catch_r7, ref34_Catch_r8, ref34_Catch_r9, ref34_Catch_r10, ref34_Catch_r11, ref34_Catch_r12, Dt.eval, e1, e2, e3, e4, e5, e6, e7, e8, h0, b0, hi', cond_false, cond_true, Bool.not_true, Bool.not_false, inB_of il, inB_of jl, elt_some hi1, elt_some hj1, decide_eq_false hb, e9', e10', e11, e12, hle, Bool.false_eq_true, if_false, and_self]
  · rw [if_pos h0] at e1 ⊢
    have k : (timed (ptsL l) n dd != 6) = true := by
      rcases timed_cases (ptsL l) n dd with h | h | h | h <;> rw [h] <;> rfl
    simp only [F_chase_Catch, chase_Catch_K, chase_Catch_r0, chase_Catch_r1, chase_Catch_r2, chase_Catch_r3, F_ref34_Catch, ref34_Catch_K, ref34_Catch_r0, ref34_Catch_r1, ref34_Catch_r2, ref34_Catch_r3, Dt.eval, e1, e2, show (timed (ptsL l) n dd != 0) = true by simpa using h0, cond_true, k, and_self]
/-- a point catches the other one of a meeting -/
def fastC (l : List T3) (p : T3) (x : M4) : Bool := match l.find? (fun q => q.1 == oth p.1 x) with | some q => decide (p.2.2.1 > q.2.2.1) | none => false
def othU (p : T3) (x : M4) : Di := (oth p.1 x, ())
/-- whom a point catches, and by whom it is caught, among meetings -/
def partC (l : List T3) (p : T3) (M : List M4) : List Di × List Di := ((M.filter (fastC l p)).map (othU p), (M.filter fun x => !fastC l p x).map (othU p))
theorem partC_snoc (l : List T3) (p : T3) (M : List M4) (x : M4) : partC l p (M ++ [x]) = if fastC l p x = true then ((partC l p M).1 ++ [othU p x], (partC l p M).2) else ((partC l p M).1, (partC l p M).2 ++ [othU p x]) := by
  unfold partC
  rw [List.filter_append, List.filter_append]
  cases h : fastC l p x <;> simp [h]
theorem take_snoc {α : Type} {L : List α} {i : Nat} {x : α} (h : L[i]? = some x) : L.take (i + 1) = L.take i ++ [x] := by
  obtain ⟨h1, rfl⟩ := List.getElem?_eq_some_iff.1 h
  exact List.take_succ_eq_append_getElem h1
/-- how many meetings are not behind a time -/
def cutC (n dd : Int) (L : List M4) : Nat := L.findIdx (gtM n dd)
theorem caught_loop (d : Nat) (hd : 5000 ≤ d) {l : List T3} (h : FldOk l) (h0 : fieldChk (ptsL l) = 0) {p : T3} (hp : p ∈ l) {n dd n' dd' : Int} (hn' : i64B n' = true) (hd' : i64B dd' = true) (hr' : ratioChk n' dd' = 0) {i0 : Nat} (hi0 : l[i0]? = some p) : ∀ (f i : Nat), (chL l p n dd).length - i < f → i ≤ (chL l p n dd).length → (∀ j x, j < i → (chL l p n dd)[j]? = some x → gtM n' dd' x = false) →
    iter (chase_Caught_L2 d) f (p.1, ((chL l p n dd).length : Int), (i : Int), l, n', dd', (partC l p ((chL l p n dd).take i)).1, (partC l p ((chL l p n dd).take i)).2, p.1, p.2.1, p.2.2.1, chL l p n dd) = some ((partC l p ((chL l p n dd).take (cutC n' dd' (chL l p n dd)))).1, (partC l p ((chL l p n dd).take (cutC n' dd' (chL l p n dd)))).2, 0) ∧
    iter (ref34_Caught_L1 d) f (p.1, (i0 : Int), (i : Int), l, n', dd', chL l p n dd, (partC l p ((chL l p n dd).take i)).1, (partC l p ((chL l p n dd).take i)).2) = some ((partC l p ((chL l p n dd).take (cutC n' dd' (chL l p n dd)))).1, (partC l p ((chL l p n dd).take (cutC n' dd' (chL l p n dd)))).2, 0)
  | 0, i, hf, _, _ => by omega
  | f + 1, i, hf, hi, h1 => by
    have hll := chL_len l p n dd
    have hl64 := h.len
    have ih := caught_loop d hd h h0 hp (n := n) (dd := dd) hn' hd' hr' hi0 f (i + 1)
    have hmem := fun x => @chL_mem l p n dd x
    have hok := chL_ok h (h.ok p hp) (n := n) (dd := dd)
    revert ih hmem hok
    generalize chL l p n dd = L at *
    intro ih hmem hok
    rw [iter, iter]
    revert ih
    generalize iter (chase_Caught_L2 d) f = self
    generalize iter (ref34_Caught_L1 d) f = self'
    intro ih
    unfold chase_Caught_L2 chase_Caught_J1 chase_Caught_J3 ref34_Caught_L1 ref34_Caught_J2
    have hpl : ∀ j, (partC l p (L.take j)).1.length ≤ 64 ∧ (partC l p (L.take j)).2.length ≤ 64 := fun j => by
      unfold partC
      have a1 := List.length_filter_le (fastC l p) (L.take j)
      have a2 := List.length_filter_le (fun x => !fastC l p x) (L.take j)
      have a3 : (L.take j).length ≤ 64 := by rw [List.length_take]; omega
      constructor <;> · rw [List.length_map]; omega
    by_cases hlt : i < L.length
    · obtain ⟨x, hx⟩ : ∃ x, L[i]? = some x := ⟨_, List.getElem?_eq_getElem hlt⟩
      have hxm := List.mem_of_getElem? hx
      obtain ⟨hxo, _⟩ := hok x hxm
      have hw := hxo.w
      have e1 := rCmp_eq d x.1 x.2.1 n' dd' hw.b1 hw.b2 hn' hd'
      unfold cmpR at e1
      rw [if_pos ⟨hw.ok, hr'⟩] at e1
      have e2 := rCompare_eq d x.1 x.2.1 n' dd' hw.b1 hw.b2 hn' hd'
      have hle := le_gt (x := x) (n := n') (dd := dd')
      have hgt := gt_cmp (x := x) (n := n') (dd := dd')
      cases hg : gtM n' dd' x with
      | true =>
        have hcut : cutC n' dd' L = i := idxM_only hi h1 fun y hy => by rw [hx] at hy; injection hy with hy; subst hy; exact hg
        rw [hg] at hle hgt
        simp only [chase_Caught_r13, chase_Caught_r14, chase_Caught_r15, chase_Caught_r16, chase_Caught_r17, chase_Caught_r18, chase_Caught_r19, chase_Caught_r20, chase_Caught_r21, chase_Caught_r22, chase_Caught_r23, ref34_Caught_r15, ref34_Caught_r16, ref34_Caught_r17, ref34_Caught_r18, ref34_Caught_r19, ref34_Caught_r20, ref34_Caught_r21, chase_Caught_K, ref34_Caught_K, Dt.eval, dec_lt hlt, cond_true, inB_of hlt, elt_some hx, e1, e2, hle, hgt, Bool.not_true, cond_false, hcut, and_self]
      | false =>
        rw [hg] at hle hgt
        obtain ⟨q, hq, hqx⟩ := (hmem x).1 hxm
        obtain ⟨_, _, hxe, hqi, _⟩ := chM_ok (h.ok p hp) (h.ok q hq) hqx
        have ho : oth p.1 x = q.1 := by rw [hxe]; exact oth_chV hqi
        have e3 := other_eq d x p.1
        have e4 := rOther_eq d x p.1
        rw [ho] at e3 e4
        have e5 := find_at d h h0 hq
        obtain ⟨j, hj1, hj2⟩ := atL_has h hq
        have jl := (List.getElem?_eq_some_iff.1 hj1).1
        have il := (List.getElem?_eq_some_iff.1 hi0).1
        have e6 := rAt_eq d (l := l) (by omega) q.1
        rw [hj2] at e6
        have wi := wrap_succ (show i < 1000000 by omega)
        have hf : fastC l p x = decide (p.2.2.1 > q.2.2.1) := by unfold fastC; rw [ho, find_mem h hq]
        have hu : othU p x = (q.1, ()) := by unfold othU; rw [ho]
        have hsn := partC_snoc l p (L.take i) x
        rw [← take_snoc hx, hf, hu] at hsn
        have ha1 : apB (partC l p (L.take i)).1.length 1 = true := by unfold apB; rw [Nat.ble_eq]; have := (hpl i).1; omega
        have ha2 : apB (partC l p (L.take i)).2.length 1 = true := by unfold apB; rw [Nat.ble_eq]; have := (hpl i).2; omega
        obtain ⟨g1, g2⟩ := ih (by omega) (by omega) fun j y hj hy => by
          rcases (by omega : j < i ∨ j = i) with k | rfl
          · exact h1 j y k hy
          · rw [hx] at hy; injection hy with hy; subst hy; exact hg
        rw [hsn] at g1 g2
        cases hb : decide (p.2.2.1 > q.2.2.1) with
        | true =>
          rw [hb] at g1 g2
          rw [if_pos rfl] at g1 g2
          simp only [chase_Caught_r13, chase_Caught_r14, chase_Caught_r15, chase_Caught_r16, chase_Caught_r17, chase_Caught_r18, chase_Caught_r19, chase_Caught_r20, chase_Caught_r21, chase_Caught_r22, chase_Caught_r23, ref34_Caught_r15, ref34_Caught_r16, ref34_Caught_r17, ref34_Caught_r18, ref34_Caught_r19, ref34_Caught_r20, ref34_Caught_r21, chase_Caught_K, ref34_Caught_K, Dt.eval, dec_lt hlt, cond_true, inB_of hlt, inB_of il, inB_of jl, elt_some hx, elt_some hi0, elt_some hj1, e1, e2, e3, e4, e5, e6, hle, hgt, Bool.not_false, cond_false, hb, List.length_cons, List.length_nil, Nat.zero_add, ha1, wi]
          exact ⟨g1, g2⟩
        | false =>
          rw [hb] at g1 g2
          rw [if_neg (by decide)] at g1 g2
          simp only [chase_Caught_r13, chase_Caught_r14, chase_Caught_r15, chase_Caught_r16, chase_Caught_r17, chase_Caught_r18, chase_Caught_r19, chase_Caught_r20, chase_Caught_r21, chase_Caught_r22, chase_Caught_r23, ref34_Caught_r15, ref34_Caught_r16, ref34_Caught_r17, ref34_Caught_r18, ref34_Caught_r19, ref34_Caught_r20, ref34_Caught_r21, chase_Caught_K, ref34_Caught_K, Dt.eval, dec_lt hlt, cond_true, inB_of hlt, inB_of il, inB_of jl, elt_some hx, elt_some hi0, elt_some hj1, e1, e2, e3, e4, e5, e6, hle, hgt, Bool.not_false, cond_false, hb, List.length_cons, List.length_nil, Nat.zero_add, ha2, wi]
          exact ⟨g1, g2⟩
    · have hkl : i = L.length := by omega
      have hcut : cutC n' dd' L = i := idxM_only hi h1 fun y hy => by have := (List.getElem?_eq_some_iff.1 hy).1; omega
      simp only [chase_Caught_r13, chase_Caught_r14, chase_Caught_r15, chase_Caught_r16, chase_Caught_r17, chase_Caught_r18, chase_Caught_r19, chase_Caught_r20, chase_Caught_r21, chase_Caught_r22, chase_Caught_r23, ref34_Caught_r15, ref34_Caught_r16, ref34_Caught_r17, ref34_Caught_r18, ref34_Caught_r19, ref34_Caught_r20, ref34_Caught_r21, chase_Caught_K, ref34_Caught_K, Dt.eval, dec_nlt hlt, cond_false, hcut, and_self]
def caughtV (l : List T3) (id n dd n' dd' : Int) : List Di × List Di × Int := if fieldChk (ptsL l) ≠ 0 then ([], [], fieldChk (ptsL l)) else if ratioChk n dd ≠ 0 ∨ ratioChk n' dd' ≠ 0 then ([], [], 8) else if 0 < cmpQ n dd n' dd' then ([], [], 2) else
  match l.find? (fun p => p.1 == id) with
  | some p => ((partC l p ((chL l p n dd).take (cutC n' dd' (chL l p n dd)))).1, (partC l p ((chL l p n dd).take (cutC n' dd' (chL l p n dd)))).2, 0)
  | none => ([], [], 6)
theorem caught_eq (d : Nat) (hd : 5000 ≤ d) {l : List T3} (hs : Small l) (id : Int) {n dd n' dd' : Int} (hn : i64B n = true) (hdd : i64B dd = true) (hn' : i64B n' = true) (hd' : i64B dd' = true) : F_chase_Caught d ((l, ()), (id, ()), (n, dd, ()), (n', dd', ()), ()) = some (caughtV l id n dd n' dd') ∧ F_ref34_Caught d ((l, ()), (id, ()), (n, dd, ()), (n', dd', ()), ()) = some (caughtV l id n dd n' dd') := by
  have e1 : F_field_Check d ((l, ()), ()) = some (fieldChk (ptsL l)) := F_field_Check_eq _ _ rfl
  have e2 : F_ref03_Check d ((l, ()), ()) = some (fieldChk (ptsL l)) := F_ref03_Check_eq _ _ rfl
  have e3 := rCmp_eq d n dd n' dd' hn hdd hn' hd'
  have e4 := rBoth_eq d hn hdd hn' hd'
  have e5 := rCompare_eq d n dd n' dd' hn hdd hn' hd'
  have e6 := rAt_eq d hs.1 id
  have b0 : ((0 : Int) != 0) = false := rfl
  have b8 : ((8 : Int) != 0) = true := rfl
  unfold caughtV
  by_cases h0 : fieldChk (ptsL l) = 0
  · have a := fldOk_of h0
    rw [if_neg (by simpa using h0)]
    unfold cmpR at e3
    by_cases hr : ratioChk n dd = 0 ∧ ratioChk n' dd' = 0
    · rw [if_pos hr] at e3
      rw [if_neg (by simpa using hr.1), hr.2] at e4
      rw [if_neg (by simp [hr.1, hr.2])]
      by_cases hc : 0 < cmpQ n dd n' dd'
      · rw [if_pos hc]
        have hcb : decide (cmpQ n dd n' dd' > 0) = true := decide_eq_true hc
        simp only [F_chase_Caught, chase_Caught_K, chase_Caught_r0, chase_Caught_r1, chase_Caught_r2, chase_Caught_r3, chase_Caught_r4, chase_Caught_r5, chase_Caught_r6, chase_Caught_r7, chase_Caught_r8, F_ref34_Caught, ref34_Caught_K, ref34_Caught_r0, ref34_Caught_r1, ref34_Caught_r2, ref34_Caught_r3, ref34_Caught_r4, ref34_Caught_r5, ref34_Caught_r6, ref34_Caught_r7, ref34_Caught_r8, Dt.eval, e1, e2, e3, e4, e5, h0, b0, cond_false, hcb, cond_true, and_self]
      · rw [if_neg hc]
        have hcb : decide (cmpQ n dd n' dd' > 0) = false := decide_eq_false hc
        have e7 := atL_neg a id
        cases hh : hasL l id with
        | false =>
          rw [hh] at e7
          rw [find_no hh]
          obtain ⟨x, y, z, e8⟩ := find_none d h0 hh
          simp only [F_chase_Caught, chase_Caught_K, chase_Caught_r0, chase_Caught_r1, chase_Caught_r2, chase_Caught_r3, chase_Caught_r4, chase_Caught_r5, chase_Caught_r6, chase_Caught_r7, chase_Caught_r8, chase_Caught_r9, chase_Caught_r10, chase_Caught_r11, F_ref34_Caught, ref34_Caught_K, ref34_Caught_r0, ref34_Caught_r1, ref34_Caught_r2, ref34_Caught_r3, ref34_Caught_r4, ref34_Caught_r5, ref34_Caught_r6, ref34_Caught_r7, ref34_Caught_r8, ref34_Caught_r9, ref34_Caught_r10, ref34_Caught_r11, Dt.eval, e1, e2, e3, e4, e5, e6, e7, e8, h0, b0, cond_false, hcb, show ((6 : Int) != 0) = true from rfl, cond_true, Bool.not_false, and_self]
        | true =>
          rw [hh] at e7
          obtain ⟨p, hp, rfl⟩ := hasL_iff.1 hh
          rw [find_mem a hp]
          have e8 := find_at d a h0 hp
          obtain ⟨i0, hi1, hi2⟩ := atL_has a hp
          rw [hi2] at e6 e7
          have h16 := hs.2 a.len
          have e9 := beh_eq d (by omega) a h0 (by omega) hp hn hdd hr.1
          have e10 := rbeh_eq d hd a hp hn hdd
          have hll := chL_len l p n dd
          obtain ⟨g1, g2⟩ := caught_loop d hd a h0 hp (n := n) (dd := dd) hn' hd' hr.2 hi1 d 0 (by omega) (by omega) (fun j x hj => by omega)
          simp only [F_chase_Caught, chase_Caught_K, chase_Caught_r0, chase_Caught_r1, chase_Caught_r2, chase_Caught_r3, chase_Caught_r4, chase_Caught_r5, chase_Caught_r6, chase_Caught_r7, chase_Caught_r8, chase_Caught_r9, chase_Caught_r10, chase_Caught_r11, chase_Caught_r12, F_ref34_Caught, ref34_Caught_K, ref34_Caught_r0, ref34_Caught_r1, ref34_Caught_r2, ref34_Caught_r3, ref34_Caught_r4, ref34_Caught_r5, ref34_Caught_r6, ref34_Caught_r7, ref34_Caught_r8, ref34_Caught_r9, ref34_Caught_r10, ref34_Caught_r11, ref34_Caught_r12, ref34_Caught_r13, ref34_Caught_r14, Dt.eval, e1, e2, e3, e4, e5, e6, e7, e8, e9, e10, h0, b0, cond_false, hcb, Bool.not_true]
          exact ⟨g1, g2⟩
    · rw [if_neg hr] at e3
      have h8 : (if ratioChk n dd ≠ 0 then ratioChk n dd else ratioChk n' dd') = 8 := by
        rcases ratioChk_cases n dd with q1 | q1 <;> rcases ratioChk_cases n' dd' with q2 | q2
        · exact absurd ⟨q1, q2⟩ hr
        all_goals simp [q1, q2]
      rw [h8] at e4
      rw [if_pos (by
        rcases Decidable.not_and_iff_or_not.1 hr with k | k
        · exact .inl k
        · exact .inr k)]
      simp only [F_chase_Caught, chase_Caught_K, chase_Caught_r0, chase_Caught_r1, chase_Caught_r2, chase_Caught_r3, chase_Caught_r4, chase_Caught_r5, chase_Caught_r6, F_ref34_Caught, ref34_Caught_K, ref34_Caught_r0, ref34_Caught_r1, ref34_Caught_r2, ref34_Caught_r3, ref34_Caught_r4, ref34_Caught_r5, ref34_Caught_r6, Dt.eval, e1, e2, e3, e4, h0, b0, b8, cond_false, cond_true, and_self]
  · rw [if_pos h0]
    simp only [F_chase_Caught, chase_Caught_K, chase_Caught_r0, chase_Caught_r1, chase_Caught_r2, chase_Caught_r3, F_ref34_Caught, ref34_Caught_K, ref34_Caught_r0, ref34_Caught_r1, ref34_Caught_r2, ref34_Caught_r3, Dt.eval, e1, e2, show (fieldChk (ptsL l) != 0) = true by simpa using h0, cond_true, and_self]
end Go.Proofs.Ytmagihjfbembjaa

namespace Go.Proofs.Ytmagihjfbembjaa
open Go Go.Tx Go.Pel
theorem great32 (d : Nat) (l : List T3) : ∃ g, F_ref32_Great d ((l, ()), ()) = some g ∧ (g = false → Small l) := by
  simp only [F_ref32_Great, ref32_Great_K, ref32_Great_r0, ref32_Great_r1, Dt.eval]
  by_cases h1 : (l.length : Int) > 16
  · rw [decide_eq_true h1, cond_true]
    by_cases h2 : (l.length : Int) ≤ 64
    · rw [decide_eq_true h2, cond_true]
      exact ⟨true, rfl, fun h => by cases h⟩
    · rw [decide_eq_false h2, cond_false]
      refine ⟨_, rfl, fun h => ?_⟩
      have := of_decide_eq_false h
      exact ⟨by omega, by omega⟩
  · rw [decide_eq_false h1, cond_false]
    refine ⟨_, rfl, fun h => ?_⟩
    have := of_decide_eq_false h
    exact ⟨by omega, by omega⟩
theorem casked_eq (d : Nat) (l : List T3) (id : Int) {n dd : Int} (hn : i64B n = true) (hdd : i64B dd = true) : ∃ b, F_law34_asked d ((l, ()), (id, ()), (n, dd, ()), ()) = some b ∧ (b = true → Small l ∧ FldOk l ∧ fieldChk (ptsL l) = 0 ∧ ratioChk n dd = 0 ∧ hasL l id = true) := by
  obtain ⟨g, e0, hs⟩ := great32 d l
  cases g with
  | true => exact ⟨false, by simp only [F_law34_asked, law34_asked_K, law34_asked_r0, law34_asked_r1, Dt.eval, e0, Bool.not_true, cond_false], fun h => by cases h⟩
  | false =>
    replace hs := hs rfl
    have e1 := rTimed_eq d hs.1 hn hdd
    have e2 := rAt_eq d hs.1 id
    by_cases h0 : timed (ptsL l) n dd = 0
    · obtain ⟨a, b, c⟩ := timed_ok h0
      have e3 := atL_neg a id
      have e4 : decide (atI (ptsL l) id ≥ 0) = hasL l id := by
        have : decide (atI (ptsL l) id ≥ 0) = !decide (atI (ptsL l) id < 0) := by rw [← decide_not]; congr 1; exact propext (by omega)
        rw [this, e3, Bool.not_not]
      exact ⟨hasL l id, by simp only [F_law34_asked, law34_asked_K, law34_asked_r0, law34_asked_r1, Dt.eval, e0, e1, e2, h0, e4, Bool.not_false, beq_self_eq_true, cond_true], fun h => ⟨hs, a, b, c, h⟩⟩
    · exact ⟨false, by simp only [F_law34_asked, law34_asked_K, law34_asked_r0, law34_asked_r1, Dt.eval, e0, e1, Bool.not_false, cond_true, show (timed (ptsL l) n dd == 0) = false by simpa using h0, cond_false], fun h => by cases h⟩
theorem lchain_loop (d : Nat) (hd : 5000 ≤ d) {l : List T3} (hs : Small l) (h : FldOk l) (h0 : fieldChk (ptsL l) = 0) {m : Nat} (hm : m ≤ 64) {L : List M4} (hL : L.length ≤ m) : ∀ (f i : Nat) (id n dd : Int), L.length - i < f → i ≤ L.length → hasL l id = true → i64B n = true → i64B dd = true → ratioChk n dd = 0 → chnL l (m - i) id n dd = L.drop i →
    iter (law34_ChaseChain_L1 d) f (id, (m : Int), true, (i : Int), l, n, dd, L) = some true
  | 0, i, _, _, _, hf, _, _, _, _, _, _ => by omega
  | f + 1, i, id, n, dd, hf, hi, hh, hn, hdd, hr, hc => by
    have ih := fun id n dd => lchain_loop d hd hs h h0 hm hL f (i + 1) id n dd
    rw [iter]
    revert ih
    generalize iter (law34_ChaseChain_L1 d) f = self
    intro ih
    unfold law34_ChaseChain_L1
    have e1 := (cnext_eq d hd hs id hn hdd).1
    have hck : chkC l id n dd 1 = 0 := chkC_of h0 hr (by omega) (by omega) hh
    unfold cnextV at e1
    rw [if_neg (by simpa using hck)] at e1
    by_cases hlt : i < L.length
    · obtain ⟨x, hx⟩ : ∃ x, L[i]? = some x := ⟨_, List.getElem?_eq_getElem hlt⟩
      rw [drop_of hx, show m - i = (m - (i + 1)) + 1 by omega] at hc
      unfold chnL at hc
      cases hz : (chI l id n dd)[0]? with
      | none => rw [hz] at hc; cases hc
      | some y =>
        rw [hz] at hc e1
        simp only [List.cons.injEq] at hc
        obtain ⟨rfl, hc⟩ := hc
        obtain ⟨k1, k2, k3, k4⟩ := chI_step h hh (List.mem_of_getElem? hz)
        have hw := k1.w
        have e2 := rChk_eq d hw.b1 hw.b2
        rw [k4] at e2
        have e3 := rCompare_eq d y.1 y.2.1 n dd hw.b1 hw.b2 hn hdd
        have hle := le_gt (x := y) (n := n) (dd := dd)
        rw [k2] at hle
        have e4 := rOther_eq d y id
        have b0 : ((0 : Int) != 0) = false := rfl
        have wi := wrap_succ (show i < 1000000 by omega)
        have g := ih (oth id y) y.1 y.2.1 (by omega) (by omega) k3 hw.b1 hw.b2 k4 hc
        rcases k1.me with hme | hme
        · simp only [law34_ChaseChain_r8, law34_ChaseChain_r9, law34_ChaseChain_r10, law34_ChaseChain_r11, law34_ChaseChain_r12, law34_ChaseChain_r13, law34_ChaseChain_r14, law34_ChaseChain_r15, law34_ChaseChain_K, Dt.eval, dec_lt hlt, cond_true, inB_of hlt, elt_some hx, e1, e2, e3, e4, b0, cond_false, hle, Bool.not_true, beq_self_eq_true, Bool.and_self, show (y.2.2.1 != id) = false by simpa using hme, wi]
          exact g
        · by_cases hme2 : y.2.2.1 = id
          · simp only [law34_ChaseChain_r8, law34_ChaseChain_r9, law34_ChaseChain_r10, law34_ChaseChain_r11, law34_ChaseChain_r12, law34_ChaseChain_r13, law34_ChaseChain_r14, law34_ChaseChain_r15, law34_ChaseChain_K, Dt.eval, dec_lt hlt, cond_true, inB_of hlt, elt_some hx, e1, e2, e3, e4, b0, cond_false, hle, Bool.not_true, beq_self_eq_true, Bool.and_self, show (y.2.2.1 != id) = false by simpa using hme2, wi]
            exact g
          · simp only [law34_ChaseChain_r8, law34_ChaseChain_r9, law34_ChaseChain_r10, law34_ChaseChain_r11, law34_ChaseChain_r12, law34_ChaseChain_r13, law34_ChaseChain_r14, law34_ChaseChain_r15, law34_ChaseChain_K, Dt.eval, dec_lt hlt, cond_true, inB_of hlt, elt_some hx, e1, e2, e3, e4, b0, cond_false, hle, Bool.not_true, beq_self_eq_true, Bool.and_self, show (y.2.2.2.1 != id) = false by simpa using hme, show (y.2.2.1 != id) = true by simpa using hme2, wi]
            exact g
    · have hkl : i = L.length := by omega
      by_cases hlm : L.length = m
      · have c1 : ((L.length : Int) == (m : Int)) = true := by rw [beq_iff_eq]; omega
        simp only [law34_ChaseChain_r8, law34_ChaseChain_r9, law34_ChaseChain_r10, law34_ChaseChain_r11, law34_ChaseChain_r12, law34_ChaseChain_r13, law34_ChaseChain_r14, law34_ChaseChain_r15, law34_ChaseChain_K, Dt.eval, dec_nlt hlt, cond_false, e1, cond_true, c1]
      · have c1 : ((L.length : Int) == (m : Int)) = false := by rw [beq_eq_false_iff_ne]; omega
        rw [hkl, List.drop_length, show m - L.length = (m - (L.length + 1)) + 1 by omega] at hc
        unfold chnL at hc
        cases hz : (chI l id n dd)[0]? with
        | some y => rw [hz] at hc; cases hc
        | none =>
          rw [hz] at e1
          simp only [law34_ChaseChain_r8, law34_ChaseChain_r9, law34_ChaseChain_r10, law34_ChaseChain_r11, law34_ChaseChain_r12, law34_ChaseChain_r13, law34_ChaseChain_r14, law34_ChaseChain_r15, law34_ChaseChain_K, Dt.eval, dec_nlt hlt, cond_false, e1, cond_true, c1, show ((6 : Int) == 6) = true from rfl]
theorem cchain_plain (d : Nat) (hd : 5000 ≤ d) (ea : F_law34_alive d () = some true) (l : List T3) (id m n dd : Int) (hn : i64B n = true) (hdd : i64B dd = true) : F_law34_ChaseChain d ((l, ()), (id, ()), (n, dd, ()), (m, ()), ()) = some true := by
  obtain ⟨b, e0, hb⟩ := casked_eq d l id hn hdd
  cases b with
  | false => simp only [F_law34_ChaseChain, law34_ChaseChain_K, law34_ChaseChain_r0, law34_ChaseChain_r1, law34_ChaseChain_r2, law34_ChaseChain_r3, Dt.eval, ea, e0, Bool.not_false, cond_true]
  | true =>
    obtain ⟨hs, a, h0, c, hh⟩ := hb rfl
    by_cases h1 : m < 0
    · simp only [F_law34_ChaseChain, law34_ChaseChain_K, law34_ChaseChain_r0, law34_ChaseChain_r1, law34_ChaseChain_r2, law34_ChaseChain_r3, Dt.eval, ea, e0, Bool.not_true, cond_true, cond_false, decide_eq_true h1]
    · by_cases h2 : m > 64
      · simp only [F_law34_ChaseChain, law34_ChaseChain_K, law34_ChaseChain_r0, law34_ChaseChain_r1, law34_ChaseChain_r2, law34_ChaseChain_r3, Dt.eval, ea, e0, Bool.not_true, cond_true, cond_false, decide_eq_false h1, decide_eq_true h2]
      · obtain ⟨k, rfl⟩ : ∃ k : Nat, m = k := ⟨m.toNat, by omega⟩
        have e1 := (chain_eq d hd hs id (k : Int) hn hdd).1
        unfold chainV at e1
        rw [if_neg (by simpa using chkC_of h0 c (by omega) (by omega) hh), Int.toNat_natCast] at e1
        have hlen := chnL_len l k id n dd
        have e2 := lchain_loop d hd hs a h0 (m := k) (by omega) hlen d 0 id n dd (by omega) (by omega) hh hn hdd c (by rw [List.drop_zero]; rfl)
        have c1 : decide (((chnL l k id n dd).length : Int) > (k : Int)) = false := decide_eq_false (by omega)
        simp only [F_law34_ChaseChain, law34_ChaseChain_K, law34_ChaseChain_r0, law34_ChaseChain_r1, law34_ChaseChain_r2, law34_ChaseChain_r3, law34_ChaseChain_r4, law34_ChaseChain_r5, law34_ChaseChain_r6, law34_ChaseChain_r7, Dt.eval, ea, e0, e1, Bool.not_true, cond_false, decide_eq_false h1, decide_eq_false h2, show ((0 : Int) != 0) = false from rfl, c1]
        exact e2
set_option maxRecDepth 100000 in
theorem alive34 : F_law34_alive 5001 () = some true := by kernel_rfl
end Go.Proofs.Ytmagihjfbembjaa

namespace Go
open Go.ChangeShapes Go.WideShapes Go.ChangeAt Go.RowKit
section
variable {H : Type} {enc : TypeId × Value → H} {P : Program} {w : World} {base : Nat} {spare : Nat → Bool} {held : Bool}
/-- a field of a struct -/
theorem field_at {t : TypeId} {fs : Array Field} {fuel : Nat} {cs : List Value} {x : DataW H × List MemPlace} (hs : P.underlying t = some (.struct fs)) (h : DataW.trod enc P w base spare held fuel t cs = some x)
    {i : Nat} {f : Field} (hf : fs[i]? = some f) {off n : Nat} {ft : TypeId} (ho : f.offset = off) (ht : f.type = ft) (hn : P.cellsOf ft = n) : ∃ m y, DataW.trod enc P w base spare held m ft ((cs.drop off).take n) = some y := by
  obtain ⟨xs, m, _, _, _, hlen, hg⟩ := DataW.trod_struct hs h
  have h1 := hg i f hf
  subst ho ht hn
  have hi : i < xs.length := by rw [hlen]; exact (Array.getElem?_eq_some_iff.1 hf).1
  exact ⟨m, xs[i], by rw [h1, List.getElem?_eq_getElem hi]⟩
theorem int_cell {t : TypeId} {k : IntKind} {fuel : Nat} {cs : List Value} {x : DataW H × List MemPlace} (ht : P.underlying t = some (.int k)) (h : DataW.trod enc P w base spare held fuel t cs = some x) : ∃ n, cs = [.int k n] ∧ (Lit.int k n).wf = true := by
  obtain ⟨n, h1, _, h2⟩ := DataW.trod_int ht h; exact ⟨n, h1, h2⟩
theorem wf_i64 {n : Int} (h : (Lit.int .i64 n).wf = true) : -9223372036854775808 ≤ n ∧ n ≤ 9223372036854775807 := bounds_i64 h
end
end Go
namespace Go.Proofs.Ytmagihjfbembjaa
open Go.ChangeShapes Go.WideShapes Go.ChangeAt Go.RowKit
theorem ownKnob_ : ownKnob Try.prog.godebug = none := by kernel_rfl
theorem laidOut_ : laidOutB Try.prog = true := by kernel_rfl
end Go.Proofs.Ytmagihjfbembjaa

namespace Go
open Go.ChangeShapes Go.WideShapes Go.ChangeAt Go.RowKit Go.Deep
theorem choose_below {α : Type} {p : Nat → α → Prop} : ∀ n : Nat, (∀ i, i < n → ∃ v, p i v) → ∃ l : List α, l.length = n ∧ ∀ (i : Nat) (x : α), l[i]? = some x → p i x
  | 0, _ => ⟨[], rfl, fun i x h => by simp at h⟩
  | n + 1, h => by
    obtain ⟨l, hl, hp⟩ := choose_below n fun i hi => h i (by omega)
    obtain ⟨v, hv⟩ := h n (by omega)
    refine ⟨l ++ [v], by simp [hl], fun i x hx => ?_⟩
    rcases Nat.lt_or_ge i n with hi | hi
    · rw [List.getElem?_append_left (by omega)] at hx; exact hp i x hx
    · rw [List.getElem?_append_right (by omega)] at hx
      have : i = n := by
        have := (List.getElem?_eq_some_iff.1 hx).1
        simp at this; omega
      subst this
      simp [hl] at hx
      subst hx; exact hv
theorem flat_get {α : Type} {cells : α → List Value} {k : Nat} (hk : ∀ a, (cells a).length = k) (h0 : 0 < k) : ∀ (l : List α) (j : Nat) (u : Value), (l.flatMap cells)[j]? = some u → ∃ x, l[j / k]? = some x ∧ (cells x)[j % k]? = some u
  | [], j, u, h => by simp at h
  | x :: l, j, u, h => by
    rw [List.flatMap_cons] at h
    rcases Nat.lt_or_ge j k with hj | hj
    · rw [List.getElem?_append_left (by rw [hk]; exact hj)] at h
      rw [Nat.div_eq_of_lt hj, Nat.mod_eq_of_lt hj]
      exact ⟨x, rfl, h⟩
    · rw [List.getElem?_append_right (by rw [hk]; exact hj), hk] at h
      obtain ⟨y, hy, hu⟩ := flat_get hk h0 l (j - k) u h
      obtain ⟨m, rfl⟩ : ∃ m, j = m + k := ⟨j - k, by omega⟩
      rw [Nat.add_sub_cancel] at hy hu
      rw [Nat.add_div_right _ h0, Nat.add_mod_right]
      exact ⟨y, by simpa using hy, hu⟩
theorem flat_len {α : Type} {cells : α → List Value} {k : Nat} (hk : ∀ a, (cells a).length = k) (l : List α) : (l.flatMap cells).length = l.length * k := by
  induction l with
  | nil => simp
  | cons x l ih => rw [List.flatMap_cons, List.length_append, ih, hk, List.length_cons, Nat.add_mul]; omega
section
variable {H : Type} {enc : TypeId × Value → H} {P : Program} {w : World} {base : Nat} {held : Bool}
theorem arg_nil {t e : TypeId} {fuel : Nat} {A : Option Addr} {n c : Nat} {x : DataW H × List MemPlace} (ht : P.underlying t = some (.slice e))
    (h : DataW.trod enc P w base (fun _ => true) held fuel t [Value.slice A n c] = some x) : A = none → c = 0 := by
  rcases open_slice ht h with ⟨hcs, _⟩ | ⟨a, len, cap, m, q, D, Pl, hcs, _⟩
  · simp only [List.cons.injEq, and_true] at hcs
    injection hcs with h1 h2 h3
    intro _; exact h3
  · simp only [List.cons.injEq, and_true] at hcs
    injection hcs with h1 h2 h3
    subst h1; intro h; cases h
/-- A slice that came in: the list of its elements. -/
theorem arg_slice {α : Type} (cells : α → List Value) (ok : α → Prop) {t e : TypeId} {k fuel : Nat} {A : Option Addr} {n c : Nat} {x : DataW H × List MemPlace}
    (ht : P.underlying t = some (.slice e)) (hC : P.cellsOf e = k) (h0 : 0 < k) (hk : ∀ a, (cells a).length = k)
    (hR : ∀ (m : Nat) (l : List Value) (y : DataW H × List MemPlace), DataW.trod enc P w base (fun _ => true) held m e l = some y → l.length = k → ∃ a, l = cells a ∧ ok a)
    (h : DataW.trod enc P w base (fun _ => true) held fuel t [Value.slice A n c] = some x) :
    ∃ l : List α, l.length = n ∧ Sl w k A l.length c (l.flatMap cells) ∧ (∀ a ∈ l, ok a) ∧ (A = none → c = 0) ∧ c ≤ maxLen := by
  rcases open_slice ht h with ⟨hcs, _⟩ | ⟨a, len, cap, m, q, D, Pl, hcs, _, hl, hmx, hm, _, hi⟩
  · simp only [List.cons.injEq, and_true] at hcs
    injection hcs with h1 h2 h3
    subst h1 h2 h3
    exact ⟨[], rfl, Sl.nil_ _ _ _ _, (fun _ h => by cases h), (fun _ => rfl), Nat.zero_le _⟩
  · simp only [List.cons.injEq, and_true] at hcs
    injection hcs with h1 h2 h3
    subst h1 h2 h3
    simp only [if_true] at hm
    subst hm
    obtain ⟨l, hll, hp⟩ := choose_below (α := α) (p := fun i v => (∀ j u, (cells v)[j]? = some u → w.cell? (a.add (i * k + j)) = some u) ∧ ok v) n (fun i hin => by
      obtain ⟨cs', hc, ht'⟩ := hi i (by omega)
      rw [hC] at hc
      obtain ⟨_, hcl, hat⟩ := World.cells?_some hc
      obtain ⟨v, rfl, hv⟩ := hR _ _ _ ht' hcl
      refine ⟨v, fun j u hu => ?_, hv⟩
      have hj : j < k := by rw [← hk v]; exact (List.getElem?_eq_some_iff.1 hu).1
      rw [← Go.Deep.add_add, hat j hj, hu])
    refine ⟨l, hll, ⟨by omega, by rw [flat_len hk, hll], fun hn => ?_⟩, fun v hv => ?_, (fun h => by cases h), hmx⟩
    · obtain ⟨v0, hv0⟩ : ∃ v, l[0]? = some v := ⟨_, List.getElem?_eq_getElem (by omega)⟩
      obtain ⟨u0, hu0⟩ : ∃ u, (cells v0)[0]? = some u := ⟨_, List.getElem?_eq_getElem (by rw [hk]; exact h0)⟩
      have hc0 := (hp 0 v0 hv0).1 0 u0 hu0
      obtain ⟨b, o, spot⟩ := a
      have hspot : spot = none := by simpa [Addr.add] using World.cell?_spot hc0
      subst hspot
      refine ⟨b, o, rfl, ?_, fun j u hu => ?_⟩
      · have hb := World.block_lt_of_cell? w _ hc0
        simpa [Addr.add] using hb
      · obtain ⟨v, hv, huv⟩ := flat_get hk h0 l j u hu
        have h1 := (hp _ v hv).1 _ u huv
        have e0 : j / k * k + j % k = j := by rw [Nat.mul_comm]; exact Nat.div_add_mod j k
        rw [e0] at h1
        have e1 : (⟨b, o, none⟩ : Addr).add j = ⟨b, o + j, none⟩ := by
          unfold Addr.add; split
          · rename_i h0; rw [h0]; rfl
          · rfl
        rw [e1] at h1; exact h1
    · obtain ⟨i, hi'⟩ := List.getElem?_of_mem hv
      exact (hp i v hi').2
end
end Go

namespace Go.Proofs.Ytmagihjfbembjaa
open Go.ChangeShapes Go.WideShapes Go.ChangeAt Go.RowKit Go.Pel Go.Deep
theorem list1 {α : Type} (l : List α) (h : l.length = 1) : ∃ a, l = [a] := by
  match l, h with
  | [a], _ => exact ⟨a, rfl⟩
theorem list2 {α : Type} (l : List α) (h : l.length = 2) : ∃ a b, l = [a, b] := by
  match l, h with
  | [a, b], _ => exact ⟨a, b, rfl⟩
theorem list3 {α : Type} (l : List α) (h : l.length = 3) : ∃ a b c, l = [a, b, c] := by
  match l, h with
  | [a, b, c], _ => exact ⟨a, b, c, rfl⟩
section
variable {H : Type} {enc : TypeId × Value → H} {w : World} {base : Nat} {spare : Nat → Bool} {held : Bool}
theorem cellsF_int : Try.prog.cellsOf 3 = 1 := by kernel_rfl
theorem cellsF_i64 : Try.prog.cellsOf 2 = 1 := by kernel_rfl
theorem cellsF_point : Try.prog.cellsOf 42 = 3 := by kernel_rfl
theorem cellsF_field : Try.prog.cellsOf 24 = 1 := by kernel_rfl
theorem cellsF_points : Try.prog.cellsOf 22 = 1 := by kernel_rfl
theorem point_cells {fuel : Nat} {l : List Value} {x : DataW H × List MemPlace} (h : DataW.trod enc Try.prog w base spare held fuel 42 l = some x) (hl : l.length = 3) :
    ∃ p : Pt, l = [.int .i64 p.id, .int .i64 p.a, .int .i64 p.b] ∧ p.Fits := by
  obtain ⟨c0, c1, c2, rfl⟩ := list3 l hl
  obtain ⟨m4, y4, h4⟩ := field_at Try.underlying42 h (i := 0) rfl rfl rfl cellsF_int
  obtain ⟨m5, y5, h5⟩ := field_at Try.underlying42 h (i := 1) rfl rfl rfl cellsF_i64
  obtain ⟨m6, y6, h6⟩ := field_at Try.underlying42 h (i := 2) rfl rfl rfl cellsF_i64
  obtain ⟨i, e4, w4⟩ := int_cell Try.underlying3 h4
  obtain ⟨a, e5, w5⟩ := int_cell Try.underlying2 h5
  obtain ⟨b, e6, w6⟩ := int_cell Try.underlying2 h6
  simp at e4 e5 e6
  subst e4 e5 e6
  exact ⟨⟨i, a, b⟩, rfl, ⟨wf_i64 w4, wf_i64 w5, wf_i64 w6⟩⟩
theorem point_read (fuel : Nat) (l : List Value) (x : DataW H × List MemPlace) (h : DataW.trod enc Try.prog w base spare held fuel 42 l = some x) (hl : l.length = 3) : ∃ p : Pt, l = p.cells ∧ p.Fits := point_cells h hl
theorem field_cells {fuel : Nat} {l : List Value} {x : DataW H × List MemPlace} (h : DataW.trod enc Try.prog w base (fun _ => true) held fuel 24 l = some x) (hl : l.length = 1) :
    ∃ (A : Option Addr) (c : Nat) (m : List Pt), l = [.slice A m.length c] ∧ Sl w 3 A m.length c (vp m) ∧ (A = none → c = 0) ∧ ∀ p ∈ m, p.Fits := by
  obtain ⟨c0, rfl⟩ := list1 l hl
  obtain ⟨m0, y0, h0⟩ := field_at Try.underlying24 h (i := 0) rfl rfl rfl cellsF_points
  have h0' : DataW.trod enc Try.prog w base (fun _ => true) held m0 22 [c0] = some y0 := by simpa using h0
  obtain ⟨A, n, c, rfl⟩ : ∃ A n c, c0 = Value.slice A n c := by
    rcases open_slice Try.underlying22 h0' with ⟨hcs, _⟩ | ⟨a, len, cap, m, q, D, Pl, hcs, _⟩
    · simp only [List.cons.injEq, and_true] at hcs; exact ⟨_, _, _, hcs⟩
    · simp only [List.cons.injEq, and_true] at hcs; exact ⟨_, _, _, hcs⟩
  have hn := arg_nil Try.underlying22 h0'
  obtain ⟨pts, rfl, hs, hok, _, _⟩ := arg_slice Pt.cells Pt.Fits Try.underlying22 cellsF_point (by decide) (fun _ => rfl) point_read h0'
  exact ⟨A, c, pts, rfl, hs, hn, hok⟩
theorem cellsF_ratio : Try.prog.cellsOf 36 = 2 := by kernel_rfl
theorem ratio_cells {fuel : Nat} {l : List Value} {x : DataW H × List MemPlace} (h : DataW.trod enc Try.prog w base spare held fuel 36 l = some x) (hl : l.length = 2) :
    ∃ n d : Int, l = [.int .i64 n, .int .i64 d] ∧ (-9223372036854775808 ≤ n ∧ n ≤ 9223372036854775807) ∧ (-9223372036854775808 ≤ d ∧ d ≤ 9223372036854775807) := by
  obtain ⟨c0, c1, rfl⟩ := list2 l hl
  obtain ⟨m4, y4, h4⟩ := field_at Try.underlying36 h (i := 0) rfl rfl rfl cellsF_i64
  obtain ⟨m5, y5, h5⟩ := field_at Try.underlying36 h (i := 1) rfl rfl rfl cellsF_i64
  obtain ⟨n, e4, w4⟩ := int_cell Try.underlying2 h4
  obtain ⟨d, e5, w5⟩ := int_cell Try.underlying2 h5
  simp at e4 e5
  subst e4 e5
  exact ⟨n, d, rfl, wf_i64 w4, wf_i64 w5⟩
end
end Go.Proofs.Ytmagihjfbembjaa
