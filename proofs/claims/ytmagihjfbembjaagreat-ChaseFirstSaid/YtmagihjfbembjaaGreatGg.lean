/- Walks of the references; the orders agree; examples. -/
import Derived.Test.YtmagihjfbembjaaGreatRows
import Derived.ProofKit
import Derived.OpenShut
import Derived.ShutString
import Derived.ChangeOld
import Derived.Deep.Slices
import Derived.Test.YtmagihjfbembjaaGreatGf
set_option linter.unusedSimpArgs false
set_option linter.unusedVariables false
namespace Go.Proofs.YtmagihjfbembjaaGreat
open Go Go.Tx Go.Pel
/-- how many points are ahead of one -/
def rkN (l : List T3) (p : T3) (n dd : Int) : Nat := l.countP fun q => leads (ofP q) (ofP p) n dd
theorem rank_pos {p : Pt} {n d : Int} : ∀ {O : List Pt} {k : Nat}, O.Pairwise (fun a b => leads b a n d = false ∧ leads a b n d = true) → O[k]? = some p → O.countP (fun q => leads q p n d) = k
  | [], k, _, h => by simp at h
  | a :: O, 0, hO, h => by
    obtain ⟨h1, _⟩ := List.pairwise_cons.1 hO
    simp only [List.getElem?_cons_zero, Option.some.injEq] at h
    subst h
    rw [List.countP_cons, leads_self]
    have : O.countP (fun q => leads q a n d) = 0 := List.countP_eq_zero.2 fun q hq => by rw [(h1 q hq).1]; decide
    rw [this]; rfl
  | a :: O, k + 1, hO, h => by
    obtain ⟨h1, h2⟩ := List.pairwise_cons.1 hO
    rw [List.getElem?_cons_succ] at h
    rw [List.countP_cons, rank_pos h2 h, (h1 p (List.mem_of_getElem? h)).2]; rfl
theorem ordI_strict {l : List T3} (h : FldOk l) (n dd : Int) : (ordI n dd (ptsL l)).Pairwise (fun a b => (leads b a n dd = false ∧ leads a b n dd = true) ∧ a.id ≠ b.id) := by
  have hp := ordI_perm n dd (ptsL l)
  have hn : (ordI n dd (ptsL l)).Pairwise fun a b => a.id ≠ b.id := by
    refine (hp.pairwise_iff (R := fun a b : Pt => a.id ≠ b.id) (fun {a b} h => Ne.symm h)).2 ?_
    unfold ptsL
    rw [List.pairwise_map]
    exact h.inc.imp fun {a b} hab => by show a.1 ≠ b.1; omega
  refine ((ordI_pw n dd (ptsL l)).and hn).imp fun {a b} ⟨h1, h2⟩ => ⟨⟨h1, ?_⟩, h2⟩
  rw [leads_asym (p := b) (q := a) (Ne.symm h2), h1]; rfl
theorem idx_loop (d : Nat) {L : List Int} {x r : Int} (hlen : L.length ≤ 1000) (hr : (∃ k : Nat, L[k]? = some x ∧ (∀ j, j < k → L[j]? ≠ some x) ∧ r = k) ∨ ((∀ j : Nat, L[j]? ≠ some x) ∧ r = -1)) : ∀ (f i : Nat), L.length - i < f → (∀ j, j < i → L[j]? ≠ some x) → iter (slices_Index_int_int_L1 d) f (unI L, x, (L.length : Int), (i : Int)) = some r
  | 0, i, hf, _ => by omega
  | f + 1, i, hf, hi => by
    have ih := idx_loop d hlen hr f (i + 1)
    rw [iter]
    revert ih
    generalize iter (slices_Index_int_int_L1 d) f = self
    intro ih
    unfold slices_Index_int_int_L1
    have hul : (unI L).length = L.length := unI_len L
    by_cases hlt : i < L.length
    · obtain ⟨y, hy⟩ : ∃ y, L[i]? = some y := ⟨_, List.getElem?_eq_getElem hlt⟩
      have hu : (unI L)[i]? = some (y, ()) := by unfold unI; rw [List.getElem?_map, hy]; rfl
      simp only [slices_Index_int_int_r2, slices_Index_int_int_r3, slices_Index_int_int_r4, slices_Index_int_int_r5, slices_Index_int_int_r6, Dt.eval, dec_lt hlt, cond_true, inB_of (show i < (unI L).length by omega), elt_some hu]
      by_cases he : x = y
      · subst he
        simp only [beq_self_eq_true, cond_true]
        rcases hr with ⟨k, k1, k2, rfl⟩ | ⟨k1, _⟩
        · have : k = i := by
            rcases (by omega : k < i ∨ k = i ∨ i < k) with h | h | h
            · exact absurd k1 (hi k h)
            · exact h
            · exact absurd hy (k2 i h)
          rw [this]
        · exact absurd hy (k1 i)
      · simp only [show (x == y) = false by simpa using he, cond_false, wrap_succ (show i < 1000000 by omega)]
        refine ih (by omega) fun j hj => ?_
        rcases (by omega : j < i ∨ j = i) with h | rfl
        · exact hi j h
        · rw [hy]; intro e; injection e with e; exact he e.symm
    · simp only [slices_Index_int_int_r2, slices_Index_int_int_r3, slices_Index_int_int_r4, slices_Index_int_int_r5, slices_Index_int_int_r6, slices_Index_int_int_r7, Dt.eval, dec_nlt hlt, cond_false]
      rcases hr with ⟨k, k1, k2, _⟩ | ⟨_, rfl⟩
      · have := (List.getElem?_eq_some_iff.1 k1).1
        exact absurd k1 (hi k (by omega))
      · rfl
theorem index_eq (d : Nat) (hd : 2000 ≤ d) {L : List Int} {x r : Int} (hlen : L.length ≤ 1000) (hr : (∃ k : Nat, L[k]? = some x ∧ (∀ j, j < k → L[j]? ≠ some x) ∧ r = k) ∨ ((∀ j : Nat, L[j]? ≠ some x) ∧ r = -1)) : F_slices_Index_int_int d ((unI L, ()), (x, ()), ()) = some r := by
  have e := idx_loop d hlen hr d 0 (by omega) (fun j hj => by omega)
  simp only [F_slices_Index_int_int, slices_Index_int_int_K, slices_Index_int_int_r0, slices_Index_int_int_r1, Dt.eval, unI_len]
  exact e
/-- a field has a point -/
def hasL (l : List T3) (id : Int) : Bool := l.any fun p => p.1 == id
theorem hasL_iff {l : List T3} {id : Int} : hasL l id = true ↔ ∃ p ∈ l, p.1 = id := by
  unfold hasL
  simp only [List.any_eq_true, beq_iff_eq]
theorem hasL_no {l : List T3} {id : Int} (h : hasL l id = false) {p : T3} (hp : p ∈ l) : p.1 ≠ id := fun e => by
  rw [hasL_iff.2 ⟨p, hp, e⟩] at h; cases h
theorem rank_has (d : Nat) (hd : 2000 ≤ d) {l : List T3} (h : FldOk l) (h0 : fieldChk (ptsL l) = 0) {p : T3} (hp : p ∈ l) {n dd : Int} (hn : i64B n = true) (hdd : i64B dd = true) (hr : ratioChk n dd = 0) : F_field_Rank d ((l, ()), (p.1, ()), (n, dd, ()), ()) = some ((rkN l p n dd : Int), 0) := by
  have e1 := order_at d h.len h0 hn hdd hr
  have hO := ordI_strict h n dd
  have hperm := ordI_perm n dd (ptsL l)
  have hlen : (ordI n dd (ptsL l)).length = l.length := by rw [hperm.length_eq, ptsL_len]
  obtain ⟨k, hk⟩ : ∃ k : Nat, (ordI n dd (ptsL l))[k]? = some (ofP p) := List.mem_iff_getElem?.1 (hperm.mem_iff.2 (List.mem_map_of_mem hp))
  have hcnt : k = rkN l p n dd := by
    rw [← rank_pos (hO.imp fun {a b} h => h.1) hk, hperm.countP_eq]
    unfold ptsL rkN
    rw [List.countP_map]; rfl
  have e2 := index_eq d hd (L := (ordI n dd (ptsL l)).map Pt.id) (x := p.1) (r := (k : Int)) (by rw [List.length_map, hlen]; have := h.len; omega) (.inl ⟨k, by rw [List.getElem?_map, hk]; rfl, fun j hj e => by
    obtain ⟨h1, _⟩ := List.getElem?_eq_some_iff.1 hk
    rw [List.getElem?_map, List.getElem?_eq_getElem (by omega)] at e
    injection e with e
    have := (List.pairwise_iff_getElem.1 hO) j k (by omega) h1 hj
    rw [(List.getElem?_eq_some_iff.1 hk).2] at this
    exact this.2 e, rfl⟩)
  have c : decide ((k : Int) < 0) = false := decide_eq_false (by omega)
  simp only [F_field_Rank, field_Rank_K, field_Rank_r0, field_Rank_r1, field_Rank_r2, field_Rank_r3, field_Rank_r4, field_Rank_r5, field_Rank_r6, field_Rank_r7, Dt.eval, e1, show ((0 : Int) != 0) = false from rfl, cond_false, e2, c]
  rw [hcnt]
theorem rank_no (d : Nat) (hd : 2000 ≤ d) {l : List T3} (h : FldOk l) (h0 : fieldChk (ptsL l) = 0) {id : Int} (hno : hasL l id = false) {n dd : Int} (hn : i64B n = true) (hdd : i64B dd = true) (hr : ratioChk n dd = 0) : F_field_Rank d ((l, ()), (id, ()), (n, dd, ()), ()) = some (0, 6) := by
  have e1 := order_at d h.len h0 hn hdd hr
  have hperm := ordI_perm n dd (ptsL l)
  have hlen : (ordI n dd (ptsL l)).length = l.length := by rw [hperm.length_eq, ptsL_len]
  have e2 := index_eq d hd (L := (ordI n dd (ptsL l)).map Pt.id) (x := id) (r := -1) (by rw [List.length_map, hlen]; have := h.len; omega) (.inr ⟨fun j e => by
    have := List.mem_of_getElem? e
    obtain ⟨P, hP, e2⟩ := List.mem_map.1 this
    obtain ⟨p, hp, rfl⟩ := pts_mem (hperm.mem_iff.1 hP)
    exact hasL_no hno hp e2, rfl⟩)
  simp only [F_field_Rank, field_Rank_K, field_Rank_r0, field_Rank_r1, field_Rank_r2, field_Rank_r3, field_Rank_r4, field_Rank_r5, field_Rank_r6, field_Rank_r7, Dt.eval, e1, show ((0 : Int) != 0) = false from rfl, cond_false, e2, show decide ((-1 : Int) < 0) = true from rfl, cond_true]
theorem timed_cases (L : List Pt) (n d : Int) : timed L n d = 0 ∨ timed L n d = 4 ∨ timed L n d = 8 ∨ timed L n d = 32 := by
  unfold timed
  split
  · rcases fieldChk_cases L with h | h | h | h <;> rw [h] <;> simp
  · rcases ratioChk_cases n d with h | h <;> rw [h] <;> simp
theorem timed_ok {l : List T3} {n d : Int} (h : timed (ptsL l) n d = 0) : FldOk l ∧ fieldChk (ptsL l) = 0 ∧ ratioChk n d = 0 := by
  unfold timed at h
  by_cases h0 : fieldChk (ptsL l) = 0
  · rw [if_neg (by simpa using h0)] at h
    exact ⟨fldOk_of h0, h0, h⟩
  · rw [if_pos h0] at h; exact absurd h h0
theorem timed_of {l : List T3} {n d : Int} (h0 : fieldChk (ptsL l) = 0) (hr : ratioChk n d = 0) : timed (ptsL l) n d = 0 := by
  unfold timed; rw [if_neg (by simpa using h0)]; exact hr
theorem rank_bad (d : Nat) {l : List T3} (hlen : l.length ≤ 1000) {id n dd : Int} (hn : i64B n = true) (hdd : i64B dd = true) (hb : timed (ptsL l) n dd ≠ 0) : F_field_Rank d ((l, ()), (id, ()), (n, dd, ()), ()) = some (0, timed (ptsL l) n dd) := by
  have e1 : F_field_Order d ((l, ()), (n, dd, ()), ()) = some ([], timed (ptsL l) n dd) := by
    rw [F_field_Order_eq _ _ (by unfold field_Order_if; simp only [hn, hdd, Bool.and_self, Bool.true_and, decide_eq_true_eq]; rw [ptsL_len]; omega)]
    show some (unI (fieldOrderI (ptsL l) n dd).1, (fieldOrderI (ptsL l) n dd).2) = _
    have : fieldOrderI (ptsL l) n dd = ([], timed (ptsL l) n dd) := by
      unfold fieldOrderI timed
      by_cases h0 : fieldChk (ptsL l) = 0
      · have hr : ratioChk n dd ≠ 0 := fun e => hb (timed_of h0 e)
        simp only [h0, ne_eq, not_true_eq_false, if_false, hr, not_false_eq_true, if_true]
      · rw [if_pos h0, if_pos h0]
    rw [this]; rfl
  simp only [F_field_Rank, field_Rank_K, field_Rank_r0, field_Rank_r1, field_Rank_r2, field_Rank_r3, Dt.eval, e1, show (timed (ptsL l) n dd != 0) = true by simpa using hb, cond_true]
/-- the check of a field, a point, a time and a number -/
def chkC (l : List T3) (id n dd m : Int) : Int := if timed (ptsL l) n dd ≠ 0 then timed (ptsL l) n dd else if m < 0 ∨ 64 < m then 2 else if hasL l id = true then 0 else 6
theorem chkC_zero {l : List T3} {id n dd m : Int} (h : chkC l id n dd m = 0) : FldOk l ∧ fieldChk (ptsL l) = 0 ∧ ratioChk n dd = 0 ∧ 0 ≤ m ∧ m ≤ 64 ∧ hasL l id = true := by
  unfold chkC at h
  by_cases h0 : timed (ptsL l) n dd = 0
  · rw [if_neg (by simpa using h0)] at h
    by_cases h1 : m < 0 ∨ 64 < m
    · rw [if_pos h1] at h; cases h
    · rw [if_neg h1] at h
      by_cases h2 : hasL l id = true
      · obtain ⟨a, b, c⟩ := timed_ok h0
        exact ⟨a, b, c, by omega, by omega, h2⟩
      · rw [if_neg h2] at h; cases h
  · rw [if_pos h0] at h; exact absurd h h0
theorem chkC_of {l : List T3} {id n dd m : Int} (h0 : fieldChk (ptsL l) = 0) (hr : ratioChk n dd = 0) (h1 : 0 ≤ m) (h2 : m ≤ 64) (hh : hasL l id = true) : chkC l id n dd m = 0 := by
  unfold chkC
  rw [if_neg (by simpa using timed_of h0 hr), if_neg (by omega), if_pos hh]
theorem ccheck_eq (d : Nat) (hd : 2000 ≤ d) {l : List T3} (hlen : l.length ≤ 1000) (id m : Int) {n dd : Int} (hn : i64B n = true) (hdd : i64B dd = true) : F_chase_check d ((l, ()), (id, ()), (n, dd, ()), (m, ()), ()) = some (chkC l id n dd m) := by
  unfold chkC
  by_cases h0 : timed (ptsL l) n dd = 0
  · obtain ⟨a, b, c⟩ := timed_ok h0
    have e1 : ∃ r, F_field_Rank d ((l, ()), (id, ()), (n, dd, ()), ()) = some (r, if hasL l id = true then 0 else 6) := by
      cases hh : hasL l id with
      | true =>
        obtain ⟨p, hp, rfl⟩ := hasL_iff.1 hh
        exact ⟨_, rank_has d hd a b hp hn hdd c⟩
      | false => exact ⟨_, rank_no d hd a b hh hn hdd c⟩
    obtain ⟨r, e1⟩ := e1
    rw [if_neg (by simpa using h0)]
    simp only [F_chase_check, chase_check_K, chase_check_r0, chase_check_r1, chase_check_r2, chase_check_r3, chase_check_r4, chase_check_r5, chase_check_r6, Dt.eval, e1]
    cases hasL l id with
    | true =>
      simp only [if_true, show ((0 : Int) != 0) = false from rfl, cond_false]
      by_cases h1 : m < 0
      · rw [if_pos (show m < 0 ∨ 64 < m from .inl h1)]
        simp only [decide_eq_true h1, cond_true, Dt.eval]
      · by_cases h2 : 64 < m
        · rw [if_pos (show m < 0 ∨ 64 < m from .inr h2)]
          simp only [decide_eq_false h1, cond_false, show decide (m > 64) = true from decide_eq_true h2, cond_true, Dt.eval]
        · rw [if_neg (show ¬ (m < 0 ∨ 64 < m) by omega)]
          simp only [decide_eq_false h1, cond_false, show decide (m > 64) = false from decide_eq_false h2, Dt.eval]
    | false =>
      simp only [Bool.false_eq_true, if_false, show ((6 : Int) != 0) = true from rfl, show ((6 : Int) != 6) = false from rfl, cond_true, cond_false, Dt.eval]
      by_cases h1 : m < 0
      · rw [if_pos (show m < 0 ∨ 64 < m from .inl h1)]
        simp only [decide_eq_true h1, cond_true, Dt.eval]
      · by_cases h2 : 64 < m
        · rw [if_pos (show m < 0 ∨ 64 < m from .inr h2)]
          simp only [decide_eq_false h1, cond_false, show decide (m > 64) = true from decide_eq_true h2, cond_true, Dt.eval]
        · rw [if_neg (show ¬ (m < 0 ∨ 64 < m) by omega)]
          simp only [decide_eq_false h1, cond_false, show decide (m > 64) = false from decide_eq_false h2, Dt.eval]
  · have e1 := rank_bad d hlen (id := id) hn hdd h0
    have k : (timed (ptsL l) n dd != 6) = true := by
      rcases timed_cases (ptsL l) n dd with h | h | h | h <;> rw [h] <;> rfl
    rw [if_pos h0]
    simp only [F_chase_check, chase_check_K, chase_check_r0, chase_check_r1, chase_check_r2, chase_check_r3, chase_check_r4, chase_check_r5, chase_check_r6, Dt.eval, e1, show (timed (ptsL l) n dd != 0) = true by simpa using h0, cond_true, k]
theorem rTimed_eq (d : Nat) {l : List T3} (hlen : l.length ≤ 1000) {n dd : Int} (hn : i64B n = true) (hdd : i64B dd = true) : F_ref03_Timed d ((l, ()), (n, dd, ()), ()) = some (timed (ptsL l) n dd) := by
  rw [F_ref03_Timed_eq _ _ (by unfold ref03_Timed_if; simp only [hn, hdd, Bool.and_self, Bool.true_and, decide_eq_true_eq]; rw [ptsL_len]; omega)]
theorem rAt_eq (d : Nat) {l : List T3} (hlen : l.length ≤ 1000) (id : Int) : F_ref03_At d ((l, ()), (id, ()), ()) = some (atI (ptsL l) id) := by
  rw [F_ref03_At_eq _ _ (by unfold ref03_At_if; rw [decide_eq_true_eq]; show (ptsL l).length ≤ _; rw [ptsL_len]; omega)]
theorem atL_has {l : List T3} (h : FldOk l) {p : T3} (hp : p ∈ l) : ∃ k : Nat, l[k]? = some p ∧ atI (ptsL l) p.1 = k := by
  obtain ⟨k, hk⟩ := List.mem_iff_getElem?.1 hp
  refine ⟨k, hk, atI_of (p := ofP p) (fun j q hj hq => ?_) (by unfold ptsL; rw [List.getElem?_map, hk]; rfl) rfl⟩
  unfold ptsL at hq
  rw [List.getElem?_map] at hq
  obtain ⟨hil, rfl⟩ := List.getElem?_eq_some_iff.1 hk
  rw [List.getElem?_eq_getElem (by omega)] at hq
  injection hq with hq
  subst hq
  have := (List.pairwise_iff_getElem.1 h.inc) j k (by omega) hil hj
  show (l[j]).1 ≠ (l[k]).1
  omega
theorem atL_no {l : List T3} {id : Int} (h : hasL l id = false) : atI (ptsL l) id = -1 := by
  refine atI_no (hasB_no fun i P hP => ?_)
  obtain ⟨p, hp, rfl⟩ := pts_mem (List.mem_of_getElem? hP)
  exact hasL_no h hp
theorem atL_neg {l : List T3} (h : FldOk l) (id : Int) : decide (atI (ptsL l) id < 0) = !hasL l id := by
  cases hh : hasL l id with
  | true =>
    obtain ⟨p, hp, rfl⟩ := hasL_iff.1 hh
    obtain ⟨k, _, e⟩ := atL_has h hp
    rw [e]; exact decide_eq_false (by omega)
  | false => rw [atL_no hh]; rfl
theorem rOther_eq (d : Nat) (x : M4) (id : Int) : F_ref34_Other d ((x.1, x.2.1, x.2.2.1, x.2.2.2.1, ()), (id, ()), ()) = some (oth id x) := by
  unfold oth
  simp only [F_ref34_Other, ref34_Other_K, ref34_Other_r0, ref34_Other_r1, ref34_Other_r2, ref34_Other_r3, Dt.eval]
  by_cases h : x.2.2.1 = id
  · simp only [h, beq_self_eq_true, cond_true, if_true]
  · simp only [show (x.2.2.1 == id) = false by simpa using h, cond_false, h, if_false]
end Go.Proofs.YtmagihjfbembjaaGreat

namespace Go.Proofs.YtmagihjfbembjaaGreat
open Go Go.Tx Go.Pel
/-- the meetings of the point with an ID -/
def chI (l : List T3) (id n dd : Int) : List M4 := match l.find? (fun p => p.1 == id) with | some p => chL l p n dd | none => []
theorem find_mem {l : List T3} (h : FldOk l) {p : T3} (hp : p ∈ l) : l.find? (fun q => q.1 == p.1) = some p := by
  cases hf : l.find? (fun q => q.1 == p.1) with
  | none =>
    have := List.find?_eq_none.1 hf p hp
    simp at this
  | some q =>
    have h1 := List.find?_some hf
    rw [beq_iff_eq] at h1
    rw [ids_eq h (List.mem_of_find?_eq_some hf) hp h1]
theorem chI_eq {l : List T3} (h : FldOk l) {p : T3} (hp : p ∈ l) (n dd : Int) : chI l p.1 n dd = chL l p n dd := by
  unfold chI; rw [find_mem h hp]
theorem behF_id (d : Nat) (hd : 5000 ≤ d) {l : List T3} (h : FldOk l) (h0 : fieldChk (ptsL l) = 0) (h16 : l.length ≤ 16) {id : Int} (hh : hasL l id = true) {n dd : Int} (hn : i64B n = true) (hdd : i64B dd = true) (hr : ratioChk n dd = 0) :
    F_chase_behind d ((l, ()), (id, ()), (n, dd, ()), ()) = some (chI l id n dd) := by
  obtain ⟨p, hp, rfl⟩ := hasL_iff.1 hh
  rw [chI_eq h hp]
  exact beh_eq d (by omega) h h0 (by omega) hp hn hdd hr
def planV (l : List T3) (id n dd m : Int) : List M4 × Int := if chkC l id n dd m ≠ 0 then ([], chkC l id n dd m) else ((chI l id n dd).take (tmin m ((chI l id n dd).length : Int)).toNat, 0)
theorem tmin_ok {m : Int} {k : Nat} (h : 0 ≤ m) : (decide (0 ≤ tmin m (k : Int)) && decide (tmin m (k : Int) ≤ (k : Int))) = true := by
  unfold tmin
  simp only [Bool.and_eq_true, decide_eq_true_eq]
  split <;> omega
/-- fields that the laws look at -/
def Small (l : List T3) : Prop := l.length ≤ 1000 ∧ (l.length ≤ 64 → l.length ≤ 16)
theorem planF_eq (d : Nat) (hd : 5000 ≤ d) {l : List T3} (hs : Small l) (id m : Int) {n dd : Int} (hn : i64B n = true) (hdd : i64B dd = true) : F_chase_Plan d ((l, ()), (id, ()), (n, dd, ()), (m, ()), ()) = some (planV l id n dd m) := by
  have e1 := ccheck_eq d (by omega) hs.1 id m hn hdd
  unfold planV
  by_cases h0 : chkC l id n dd m = 0
  · obtain ⟨a, b, c, m0, m1, hh⟩ := chkC_zero h0
    have e3 := behF_id d hd a b (hs.2 a.len) hh hn hdd c
    have ht := tmin_ok (k := (chI l id n dd).length) m0
    rw [if_neg (by simpa using h0)]
    simp only [F_chase_Plan, chase_Plan_K, chase_Plan_r0, chase_Plan_r1, chase_Plan_r2, chase_Plan_r3, chase_Plan_r4, chase_Plan_r5, Dt.eval, e1, h0, show ((0 : Int) != 0) = false from rfl, cond_false, e3, ht, cond_true]
  · rw [if_pos h0]
    simp only [F_chase_Plan, chase_Plan_K, chase_Plan_r0, chase_Plan_r1, chase_Plan_r2, chase_Plan_r3, chase_Plan_r4, chase_Plan_r5, Dt.eval, e1, show (chkC l id n dd m != 0) = true by simpa using h0, cond_true]
def cnextV (l : List T3) (id n dd : Int) : Int × Int × Int × Int × Int := if chkC l id n dd 1 ≠ 0 then (0, 0, 0, 0, chkC l id n dd 1) else match (chI l id n dd)[0]? with
  | some x => (x.1, x.2.1, x.2.2.1, x.2.2.2.1, 0)
  | none => (0, 0, 0, 0, 6)
theorem cnextF_eq (d : Nat) (hd : 5000 ≤ d) {l : List T3} (hs : Small l) (id : Int) {n dd : Int} (hn : i64B n = true) (hdd : i64B dd = true) : F_chase_Next d ((l, ()), (id, ()), (n, dd, ()), ()) = some (cnextV l id n dd) := by
  have e1 := planF_eq d hd hs id 1 hn hdd
  unfold cnextV
  unfold planV at e1
  by_cases h0 : chkC l id n dd 1 = 0
  · rw [if_neg (by simpa using h0)] at e1 ⊢
    cases hL : (chI l id n dd) with
    | nil =>
      rw [hL] at e1
      have e1' : F_chase_Plan d ((l, ()), (id, ()), (n, dd, ()), ((1 : Int), ()), ()) = some ([], 0) := e1
      simp only [F_chase_Next, chase_Next_K, chase_Next_r0, chase_Next_r1, chase_Next_r2, chase_Next_r3, chase_Next_r4, chase_Next_r5, chase_Next_r6, Dt.eval, e1', show ((0 : Int) != 0) = false from rfl, cond_false, List.length_nil, show (((0 : Nat) : Int) == 0) = true from rfl, cond_true, List.getElem?_nil]
    | cons x r =>
      rw [hL] at e1
      have hm : tmin (1 : Int) ((x :: r).length : Int) = 1 := by unfold tmin; rw [List.length_cons]; split <;> omega
      rw [hm] at e1
      have e1' : F_chase_Plan d ((l, ()), (id, ()), (n, dd, ()), ((1 : Int), ()), ()) = some ([x], 0) := e1
      have i2 : inB (0 : Int) [x].length = true := inB_of (k := 0) (by simp)
      have x2 : elt ziiii [x] (0 : Int).toNat = x := rfl
      simp only [F_chase_Next, chase_Next_K, chase_Next_r0, chase_Next_r1, chase_Next_r2, chase_Next_r3, chase_Next_r4, chase_Next_r5, chase_Next_r6, Dt.eval, e1', show ((0 : Int) != 0) = false from rfl, cond_false, show (([x].length : Int) == 0) = false from rfl, i2, cond_true, x2, List.getElem?_cons_zero]
  · rw [if_pos h0] at e1 ⊢
    simp only [F_chase_Next, chase_Next_K, chase_Next_r0, chase_Next_r1, chase_Next_r2, chase_Next_r3, chase_Next_r4, chase_Next_r5, chase_Next_r6, Dt.eval, e1, show (chkC l id n dd 1 != 0) = true by simpa using h0, cond_true]
end Go.Proofs.YtmagihjfbembjaaGreat

namespace Go.Proofs.YtmagihjfbembjaaGreat
open Go Go.Tx Go.Pel
theorem great32z (d : Nat) (l : List T3) : ∃ g, F_ref32_Great d ((l, ()), ()) = some g ∧ (g = false → Small l) := by
  simp only [F_ref32_Great, ref32_Great_K, ref32_Great_r0, ref32_Great_r1, Dt.eval]
  by_cases h1 : (l.length : Int) > 16
  · rw [decide_eq_true h1, cond_true]
    by_cases h2 : (l.length : Int) ≤ 64
    · rw [decide_eq_true h2, cond_true]
      exact ⟨true, rfl, fun h => by cases h⟩
    · rw [decide_eq_false h2, cond_false]
      refine ⟨_, rfl, fun h => ?_⟩
      have := of_decide_eq_false h
      exact ⟨by omega, by omega⟩
  · rw [decide_eq_false h1, cond_false]
    refine ⟨_, rfl, fun h => ?_⟩
    have := of_decide_eq_false h
    exact ⟨by omega, by omega⟩
theorem caskedz_eq (d : Nat) (l : List T3) (id : Int) {n dd : Int} (hn : i64B n = true) (hdd : i64B dd = true) : ∃ b, F_law34_asked d ((l, ()), (id, ()), (n, dd, ()), ()) = some b ∧ (b = true → Small l ∧ FldOk l ∧ fieldChk (ptsL l) = 0 ∧ ratioChk n dd = 0 ∧ hasL l id = true) := by
  obtain ⟨g, e0, hs⟩ := great32z d l
  cases g with
  | true => exact ⟨false, by simp only [F_law34_asked, law34_asked_K, law34_asked_r0, law34_asked_r1, Dt.eval, e0, Bool.not_true, cond_false], fun h => by cases h⟩
  | false =>
    replace hs := hs rfl
    have e1 := rTimed_eq d hs.1 hn hdd
    have e2 := rAt_eq d hs.1 id
    by_cases h0 : timed (ptsL l) n dd = 0
    · obtain ⟨a, b, c⟩ := timed_ok h0
      have e3 := atL_neg a id
      have e4 : decide (atI (ptsL l) id ≥ 0) = hasL l id := by
        have : decide (atI (ptsL l) id ≥ 0) = !decide (atI (ptsL l) id < 0) := by rw [← decide_not]; congr 1; exact propext (by omega)
        rw [this, e3, Bool.not_not]
      exact ⟨hasL l id, by simp only [F_law34_asked, law34_asked_K, law34_asked_r0, law34_asked_r1, Dt.eval, e0, e1, e2, h0, e4, Bool.not_false, beq_self_eq_true, cond_true], fun h => ⟨hs, a, b, c, h⟩⟩
    · exact ⟨false, by simp only [F_law34_asked, law34_asked_K, law34_asked_r0, law34_asked_r1, Dt.eval, e0, e1, Bool.not_false, cond_true, show (timed (ptsL l) n dd == 0) = false by simpa using h0, cond_false], fun h => by cases h⟩
def eqM (y x : M4) : Bool := (y.1 == x.1) && ((y.2.1 == x.2.1) && ((y.2.2.1 == x.2.2.1) && ((y.2.2.2.1 == x.2.2.2.1) && true)))
theorem eqM_iff {y x : M4} : eqM y x = true ↔ y = x := by
  unfold eqM
  obtain ⟨a, b, c, e, ⟨⟩⟩ := x
  obtain ⟨a', b', c', e', ⟨⟩⟩ := y
  simp only [Bool.and_eq_true, beq_iff_eq, Bool.and_true, Prod.mk.injEq, and_true]
theorem eqM_one : ∀ {L : List M4} {x : M4}, L.Nodup → x ∈ L → L.countP (fun y => eqM y x) = 1
  | [], x, _, h => by cases h
  | y :: L, x, hn, h => by
    obtain ⟨h1, h2⟩ := List.pairwise_cons.1 hn
    rw [List.countP_cons]
    by_cases he : y = x
    · subst he
      have : L.countP (fun z => eqM z y) = 0 := List.countP_eq_zero.2 fun z hz k => h1 z hz (eqM_iff.1 k).symm
      rw [this, if_pos (eqM_iff.2 rfl)]
    · rcases List.mem_cons.1 h with k | k
      · exact absurd k.symm he
      · rw [eqM_one h2 k, if_neg fun q => he (eqM_iff.1 q)]
theorem chL_nodup {l : List T3} (h : FldOk l) {p : T3} (hp : p ∈ l) (n dd : Int) : (chL l p n dd).Nodup := by
  have n1 : ((allM l).filter (selC p.1 n dd)).Nodup := by
    refine List.Nodup.sublist List.filter_sublist ?_
    refine (allM_strict h).imp fun {a b} hab e => ?_
    subst e; rw [ltM_irr] at hab; cases hab
  exact ((sel_perm h hp n dd).trans (chL_perm l p n dd).symm).nodup_iff.1 n1
theorem chL_strict {l : List T3} (h : FldOk l) {p : T3} (hp : p ∈ l) (n dd : Int) : (chL l p n dd).Pairwise fun a b => ltC p.1 a b = true := by
  refine (List.Pairwise.and_mem.1 ((chL_pw h (h.ok p hp) (n := n) (dd := dd)).and (chL_nodup h hp n dd))).imp fun {a b} ⟨ha, hb, h1, h2⟩ => ?_
  cases hab : ltC p.1 a b with
  | true => rfl
  | false => exact absurd (ltC_eq (chL_ok h (h.ok p hp) a ha).1 (chL_ok h (h.ok p hp) b hb).1 hab h1) h2
theorem first3 (d : Nat) {L A few : List M4} {x : M4} {k : Nat} (hA : A[k]? = some x) (hL : L.length ≤ 64) (self1 : (Int × Bool × List Diiii × List Diiii × List Diiii × Int × Int × List Diii × Int × Int) → Option law34_ChaseFirst_R) {id own n dd : Int} {l : List T3} : ∀ (f m c : Nat), L.length - m < f → m ≤ L.length → c ≤ m → c + (L.drop m).countP (fun y => eqM y x) = 1 →
    iter (law34_ChaseFirst_L3 d self1) f (id, true, A, L, few, own, (k : Int), (c : Int), (m : Int), l, n, dd) = law34_ChaseFirst_J2 d self1 (id, true, A, L, few, own, (k : Int), l, n, dd)
  | 0, m, c, hf, _, _, _ => by omega
  | f + 1, m, c, hf, hm, hc, h1 => by
    have ih := first3 d hA hL (few := few) self1 (id := id) (own := own) (n := n) (dd := dd) (l := l) f (m + 1)
    have hk := (List.getElem?_eq_some_iff.1 hA).1
    rw [iter]
    revert ih
    generalize iter (law34_ChaseFirst_L3 d self1) f = self
    intro ih
    unfold law34_ChaseFirst_L3 law34_ChaseFirst_J4
    by_cases hlt : m < L.length
    · obtain ⟨y, hy⟩ : ∃ y, L[m]? = some y := ⟨_, List.getElem?_eq_getElem hlt⟩
      have wi := wrap_succ (show m < 1000000 by omega)
      have wc := wrap_succ (show c < 1000000 by omega)
      rw [drop_of hy, List.countP_cons] at h1
      cases he : eqM y x with
      | true =>
        have he' : ((y.1 == x.1) && ((y.2.1 == x.2.1) && ((y.2.2.1 == x.2.2.1) && ((y.2.2.2.1 == x.2.2.2.1) && true)))) = true := he
        rw [he, if_pos rfl] at h1
        simp only [law34_ChaseFirst_r22, law34_ChaseFirst_r23, law34_ChaseFirst_r24, law34_ChaseFirst_r25, law34_ChaseFirst_r26, law34_ChaseFirst_K, Dt.eval, dec_lt hlt, cond_true, inB_of hlt, inB_of hk, elt_some hy, elt_some hA, he', wi, wc]
        exact ih (c + 1) (by omega) (by omega) (by omega) (by omega)
      | false =>
        have he' : ((y.1 == x.1) && ((y.2.1 == x.2.1) && ((y.2.2.1 == x.2.2.1) && ((y.2.2.2.1 == x.2.2.2.1) && true)))) = false := he
        rw [he, if_neg (by decide)] at h1
        simp only [law34_ChaseFirst_r22, law34_ChaseFirst_r23, law34_ChaseFirst_r24, law34_ChaseFirst_r25, law34_ChaseFirst_r26, law34_ChaseFirst_K, Dt.eval, dec_lt hlt, cond_true, inB_of hlt, inB_of hk, elt_some hy, elt_some hA, he', cond_false, wi]
        exact ih c (by omega) (by omega) (by omega) (by omega)
    · have hml : m = L.length := by omega
      rw [hml, List.drop_length, List.countP_nil] at h1
      have c1 : ((c : Int) != 1) = false := by rw [show c = 1 by omega]; rfl
      simp only [law34_ChaseFirst_r22, law34_ChaseFirst_r23, law34_ChaseFirst_r24, law34_ChaseFirst_r25, law34_ChaseFirst_r26, law34_ChaseFirst_K, Dt.eval, dec_nlt hlt, cond_false, c1]
/-- a meeting is one of a point's own -/
def ownB (id : Int) (x : M4) : Bool := (x.2.2.1 == id) || (x.2.2.2.1 == id)
theorem first5 (d : Nat) (hd : 5000 ≤ d) {l : List T3} (hs : Small l) (h : FldOk l) (h0 : fieldChk (ptsL l) = 0) {p : T3} (hp : p ∈ l) {n dd m : Int} (hn : i64B n = true) (hdd : i64B dd = true) (hr : ratioChk n dd = 0) (h64 : (chL l p n dd).length ≤ 64) (few : List M4) (hfew : few = (chL l p n dd).take few.length) (hfl : few.length ≤ (chL l p n dd).length) : ∀ (f k : Nat), (chL l p n dd).length - k < f → 1 ≤ k →
    iter (law34_ChaseFirst_L5 d) f (p.1, true, chL l p n dd, few, ((chL l p n dd).length : Int), (k : Int), l, n, dd) = some true
  | 0, k, hf, _ => by omega
  | f + 1, k, hf, hk => by
    have ih := first5 d hd hs h h0 hp (m := m) hn hdd hr h64 few hfew hfl f (k + 1)
    have e1 := cnextF_eq d hd hs p.1 hn hdd
    have hck : chkC l p.1 n dd 1 = 0 := chkC_of h0 hr (by omega) (by omega) (hasL_iff.2 ⟨p, hp, rfl⟩)
    unfold cnextV at e1
    rw [if_neg (by simpa using hck), chI_eq h hp] at e1
    have hst := chL_strict h hp n dd
    have hok := chL_ok h (h.ok p hp) (n := n) (dd := dd)
    revert ih
    generalize chL l p n dd = L at *
    intro ih
    rw [iter]
    revert ih
    generalize iter (law34_ChaseFirst_L5 d) f = self
    intro ih
    unfold law34_ChaseFirst_L5
    by_cases hlt : k < L.length
    · have wk : IntKind.wrap .i64 ((k : Int) - 1) = ((k - 1 : Nat) : Int) := by rw [IntWalk.i64_in _ (by omega)]; omega
      obtain ⟨x, hx⟩ : ∃ x, L[k - 1]? = some x := ⟨_, List.getElem?_eq_getElem (by omega)⟩
      obtain ⟨y, hy⟩ : ∃ y, L[k]? = some y := ⟨_, List.getElem?_eq_getElem hlt⟩
      have hxw := (hok x (List.mem_of_getElem? hx)).1.w
      have hyw := (hok y (List.mem_of_getElem? hy)).1.w
      have e2 := rCompare_eq d x.1 x.2.1 y.1 y.2.1 hxw.b1 hxw.b2 hyw.b1 hyw.b2
      have e3 := rOther_eq d x p.1
      have e4 := rOther_eq d y p.1
      have hxy : ltC p.1 x y = true := by
        obtain ⟨q1, rfl⟩ := List.getElem?_eq_some_iff.1 hx
        obtain ⟨q2, rfl⟩ := List.getElem?_eq_some_iff.1 hy
        exact (List.pairwise_iff_getElem.1 hst) (k - 1) k q1 q2 (by omega)
      have hi := (ltC_iff p.1 x y).1 hxy
      have hcm : cmpQ x.1 x.2.1 y.1 y.2.1 = -1 ∨ (cmpQ x.1 x.2.1 y.1 y.2.1 = 0 ∧ oth p.1 x < oth p.1 y) := by
        unfold cmpQ
        rcases hi with hi | ⟨h1, h2⟩
        · exact .inl (cmpZ_lt hi)
        · exact .inr ⟨cmpZ_eq h1, h2⟩
      have wi := wrap_succ (show k < 1000000 by omega)
      rcases hcm with hcm | ⟨hcm, ho⟩
      · simp only [law34_ChaseFirst_r29, law34_ChaseFirst_r30, law34_ChaseFirst_r31, law34_ChaseFirst_r32, law34_ChaseFirst_r33, law34_ChaseFirst_K, Dt.eval, dec_lt hlt, cond_true, wk, inB_of hlt, inB_of (show k - 1 < L.length by omega), elt_some hx, elt_some hy, e2, e3, e4, hcm, show decide ((-1 : Int) > 0) = false from rfl, show ((-1 : Int) == 0) = false from rfl, cond_false, wi]
        exact ih (by omega) (by omega)
      · have c1 : decide (oth p.1 x ≥ oth p.1 y) = false := decide_eq_false (by omega)
        simp only [law34_ChaseFirst_r29, law34_ChaseFirst_r30, law34_ChaseFirst_r31, law34_ChaseFirst_r32, law34_ChaseFirst_r33, law34_ChaseFirst_K, Dt.eval, dec_lt hlt, cond_true, wk, inB_of hlt, inB_of (show k - 1 < L.length by omega), elt_some hx, elt_some hy, e2, e3, e4, hcm, show decide ((0 : Int) > 0) = false from rfl, show ((0 : Int) == 0) = true from rfl, c1, cond_false, wi]
        exact ih (by omega) (by omega)
    · cases hL : L with
      | nil =>
        rw [hL] at e1
        simp only [List.getElem?_nil] at e1
        have c0 : decide ((k : Int) < ((0 : Nat) : Int)) = false := decide_eq_false (by omega)
        simp only [law34_ChaseFirst_r29, law34_ChaseFirst_r30, law34_ChaseFirst_r31, law34_ChaseFirst_r32, law34_ChaseFirst_r33, law34_ChaseFirst_r34, law34_ChaseFirst_r35, law34_ChaseFirst_r36, law34_ChaseFirst_K, Dt.eval, c0, cond_false, e1, List.length_nil, show (((0 : Nat) : Int) == 0) = true from rfl, cond_true, show ((6 : Int) == 6) = true from rfl]
      | cons x r =>
        rw [hL] at e1 hlt hfew hfl h64
        simp only [List.getElem?_cons_zero] at e1
        have c1 : (((x :: r).length : Int) == 0) = false := by rw [beq_eq_false_iff_ne, List.length_cons]; omega
        have i1 : inB (0 : Int) (x :: r).length = true := inB_of (k := 0) (by simp)
        have x1 : elt ziiii (x :: r) (0 : Int).toNat = x := rfl
        have e5 := rSame_refl d hd (L := few) (by omega)
        have ht : (decide (0 ≤ (few.length : Int)) && decide ((few.length : Int) ≤ ((x :: r).length : Int))) = true := by
          simp only [Bool.and_eq_true, decide_eq_true_eq]; omega
        simp only [law34_ChaseFirst_r29, law34_ChaseFirst_r30, law34_ChaseFirst_r31, law34_ChaseFirst_r32, law34_ChaseFirst_r33, law34_ChaseFirst_r34, law34_ChaseFirst_r35, law34_ChaseFirst_r36, law34_ChaseFirst_r37, law34_ChaseFirst_K, Dt.eval, dec_nlt hlt, cond_false, e1, c1, ht, cond_true, Int.toNat_natCast, ← hfew, e5, beq_self_eq_true, i1, x1, Bool.and_self]
theorem first1 (d : Nat) (hd : 5000 ≤ d) {l : List T3} (hs : Small l) (h : FldOk l) (h0 : fieldChk (ptsL l) = 0) {p : T3} (hp : p ∈ l) {n dd m : Int} (hn : i64B n = true) (hdd : i64B dd = true) (hr : ratioChk n dd = 0) (h64 : (chL l p n dd).length ≤ 64) (few : List M4) (hfew : few = (chL l p n dd).take few.length) (hfl : few.length ≤ (chL l p n dd).length) {A : List M4} (hA : ∀ x ∈ A, x ∈ allM l ∧ gtM n dd x = true) (hAl : A.length ≤ 4096) : ∀ (f k own : Nat), A.length - k < f → k ≤ A.length → own ≤ k → own + (A.drop k).countP (ownB p.1) = (chL l p n dd).length →
    iter (law34_ChaseFirst_L1 d) f (p.1, true, A, chL l p n dd, few, (own : Int), (k : Int), l, n, dd) = some true
  | 0, k, own, hf, _, _, _ => by omega
  | f + 1, k, own, hf, hk, ho, hc => by
    have ih := fun own => first1 d hd hs h h0 hp (m := m) hn hdd hr h64 few hfew hfl hA hAl f (k + 1) own
    rw [iter]
    revert ih
    generalize iter (law34_ChaseFirst_L1 d) f = self
    intro ih
    unfold law34_ChaseFirst_L1
    by_cases hlt : k < A.length
    · obtain ⟨x, hx⟩ : ∃ x, A[k]? = some x := ⟨_, List.getElem?_eq_getElem hlt⟩
      obtain ⟨hxa, hxg⟩ := hA x (List.mem_of_getElem? hx)
      have wi := wrap_succ (show k < 1000000 by omega)
      have wo := wrap_succ (show own < 1000000 by omega)
      rw [drop_of hx, List.countP_cons] at hc
      have hsel : selC p.1 n dd x = ownB p.1 x := by unfold selC ownB; rw [hxg, Bool.and_true]
      cases hob : ownB p.1 x with
      | false =>
        rw [hob, if_neg (by decide)] at hc
        unfold ownB at hob
        rw [Bool.or_eq_false_iff] at hob
        have b1 : (x.2.2.1 != p.1) = true := by unfold bne; rw [hob.1]; rfl
        have b2 : (x.2.2.2.1 != p.1) = true := by unfold bne; rw [hob.2]; rfl
        unfold law34_ChaseFirst_J2
        simp only [law34_ChaseFirst_r16, law34_ChaseFirst_r17, law34_ChaseFirst_r18, law34_ChaseFirst_K, Dt.eval, dec_lt hlt, cond_true, inB_of hlt, elt_some hx, b1, b2, wi]
        exact ih own (by omega) (by omega) (by omega) (by omega)
      | true =>
        rw [hob, if_pos rfl] at hc
        have hmem : x ∈ chL l p n dd := (chL_in h hp).2 ⟨hxa, hsel.trans hob⟩
        have e1 := first3 d (few := few) (L := chL l p n dd) hx h64 self (id := p.1) (own := ((own + 1 : Nat) : Int)) (n := n) (dd := dd) (l := l) d 0 0 (by omega) (by omega) (by omega) (by rw [List.drop_zero, Nat.zero_add]; exact eqM_one (chL_nodup h hp n dd) hmem)
        have g := ih (own + 1) (by omega) (by omega) (by omega) (by omega)
        unfold ownB at hob
        have e2 : law34_ChaseFirst_J2 d self (p.1, true, A, chL l p n dd, few, ((own + 1 : Nat) : Int), (k : Int), l, n, dd) = some true := by
          unfold law34_ChaseFirst_J2
          simp only [law34_ChaseFirst_r17, law34_ChaseFirst_K, Dt.eval, wi]
          exact g
        rw [e2] at e1
        have e1' : iter (law34_ChaseFirst_L3 d self) d (p.1, true, A, chL l p n dd, few, ((own + 1 : Nat) : Int), (k : Int), (0 : Int), (0 : Int), l, n, dd) = some true := e1
        cases b1 : (x.2.2.1 == p.1) with
        | true =>
          have b1' : (x.2.2.1 != p.1) = false := by unfold bne; rw [b1]; rfl
          simp only [law34_ChaseFirst_r16, law34_ChaseFirst_r18, law34_ChaseFirst_r19, law34_ChaseFirst_r20, law34_ChaseFirst_r21, law34_ChaseFirst_K, Dt.eval, dec_lt hlt, cond_true, inB_of hlt, elt_some hx, b1', cond_false, wo]
          exact e1'
        | false =>
          rw [b1, Bool.false_or] at hob
          have b1' : (x.2.2.1 != p.1) = true := by unfold bne; rw [b1]; rfl
          have b2' : (x.2.2.2.1 != p.1) = false := by unfold bne; rw [hob]; rfl
          simp only [law34_ChaseFirst_r16, law34_ChaseFirst_r18, law34_ChaseFirst_r19, law34_ChaseFirst_r20, law34_ChaseFirst_r21, law34_ChaseFirst_K, Dt.eval, dec_lt hlt, cond_true, inB_of hlt, elt_some hx, b1', b2', cond_false, wo]
          exact e1'
    · have hkl : k = A.length := by omega
      rw [hkl, List.drop_length, List.countP_nil] at hc
      have e1 := first5 d hd hs h h0 hp (m := m) hn hdd hr h64 few hfew hfl d 1 (by omega) (by omega)
      have hown : own = (chL l p n dd).length := by omega
      simp only [law34_ChaseFirst_r16, law34_ChaseFirst_r28, law34_ChaseFirst_K, Dt.eval, dec_nlt hlt, cond_false]
      rw [hown]
      exact e1
theorem cfirst_plain (d : Nat) (hd : 5000 ≤ d) (ea : F_law34_alive d () = some true) (l : List T3) (id m n dd : Int) (hn : i64B n = true) (hdd : i64B dd = true) : F_law34_ChaseFirst d ((l, ()), (id, ()), (n, dd, ()), (m, ()), ()) = some true := by
  obtain ⟨b, e0, hb⟩ := caskedz_eq d l id hn hdd
  cases b with
  | false => simp only [F_law34_ChaseFirst, law34_ChaseFirst_K, law34_ChaseFirst_r0, law34_ChaseFirst_r1, law34_ChaseFirst_r2, law34_ChaseFirst_r3, Dt.eval, ea, e0, Bool.not_false, cond_true]
  | true =>
    obtain ⟨hs, a, h0, c, hh⟩ := hb rfl
    by_cases h1 : m < 0
    · simp only [F_law34_ChaseFirst, law34_ChaseFirst_K, law34_ChaseFirst_r0, law34_ChaseFirst_r1, law34_ChaseFirst_r2, law34_ChaseFirst_r3, Dt.eval, ea, e0, Bool.not_true, cond_true, cond_false, decide_eq_true h1]
    · by_cases h2 : m > 64
      · simp only [F_law34_ChaseFirst, law34_ChaseFirst_K, law34_ChaseFirst_r0, law34_ChaseFirst_r1, law34_ChaseFirst_r2, law34_ChaseFirst_r3, Dt.eval, ea, e0, Bool.not_true, cond_true, cond_false, decide_eq_false h1, decide_eq_true h2]
      · obtain ⟨p, hp, rfl⟩ := hasL_iff.1 hh
        have d0 := (ratioChk_zero c).1
        have e1 := last_eq d hd l
        have hck : ∀ k : Int, 0 ≤ k → k ≤ 64 → chkC l p.1 n dd k = 0 := fun k k1 k2 => chkC_of h0 c k1 k2 hh
        have e2 := planF_eq d hd hs p.1 m hn hdd
        have e3 := planF_eq d hd hs p.1 64 hn hdd
        have e4 := cnextF_eq d hd hs p.1 hn hdd
        unfold planV at e2 e3
        unfold cnextV at e4
        rw [if_neg (by simpa using hck m (by omega) (by omega)), chI_eq a hp] at e2
        rw [if_neg (by simpa using hck 64 (by omega) (by omega)), chI_eq a hp] at e3
        rw [if_neg (by simpa using hck 1 (by omega) (by omega)), chI_eq a hp] at e4
        have hlen := chL_len l p n dd
        have hl64 := a.len
        have hm64 : tmin (64 : Int) ((chL l p n dd).length : Int) = ((chL l p n dd).length : Int) := by unfold tmin; split <;> omega
        rw [hm64, Int.toNat_natCast, List.take_length] at e3
        have b0 : ((0 : Int) != 0) = false := rfl
        -- nobody is met behind the time
        have hnone : Past l n dd → F_law34_ChaseFirst d ((l, ()), (p.1, ()), (n, dd, ()), (m, ()), ()) = some true ∨ chL l p n dd = [] := fun hpast => .inr (by
          refine List.eq_nil_iff_forall_not_mem.2 fun x hx => ?_
          obtain ⟨k1, k2⟩ := (chL_in a hp).1 hx
          unfold selC at k2
          rw [hpast x k1, Bool.and_false] at k2
          cases k2)
        unfold lastV at e1
        rw [if_neg (by simpa using h0)] at e1
        cases hx : (allM l)[(allM l).length - 1]? with
        | none =>
          rw [hx] at e1
          have hz : allM l = [] := by
            rcases Nat.eq_zero_or_pos (allM l).length with k | k
            · exact List.eq_nil_of_length_eq_zero k
            · rw [List.getElem?_eq_getElem (by omega)] at hx; cases hx
          rcases hnone (fun y hy => by rw [hz] at hy; cases hy) with k | hnil
          · exact k
          · rw [hnil] at e2 e4
            simp only [List.getElem?_nil] at e4
            simp only [F_law34_ChaseFirst, law34_ChaseFirst_K, law34_ChaseFirst_r0, law34_ChaseFirst_r1, law34_ChaseFirst_r2, law34_ChaseFirst_r3, law34_ChaseFirst_r4, law34_ChaseFirst_r5, law34_ChaseFirst_r6, law34_ChaseFirst_r7, law34_ChaseFirst_r8, Dt.eval, ea, e0, Bool.not_true, cond_false, decide_eq_false h1, decide_eq_false h2, e1, show ((6 : Int) != 0) = true from rfl, cond_true, e4, show ((6 : Int) == 6) = true from rfl, e2, List.take_nil, List.length_nil, beq_self_eq_true, show (((0 : Nat) : Int) == 0) = true from rfl]
        | some x =>
          rw [hx] at e1
          have hxm := List.mem_of_getElem? hx
          have hxw := allM_w a x hxm
          have hD := (ratioChk_zero hxw.ok).1
          have hpx := past_last (allM_pw a) hx
          have e5 := rChk_eq d (n := x.1) (dd := x.2.1) hxw.b1 hxw.b2
          rw [show ratioChk x.1 x.2.1 = 0 from hxw.ok] at e5
          have e6 := rCompare_eq d x.1 x.2.1 n dd hxw.b1 hxw.b2 hn hdd
          have hle := le_gt (x := x) (n := n) (dd := dd)
          cases hg : gtM n dd x with
          | false =>
            rw [hg] at hle
            rcases hnone (fun y hy => by
              cases hgy : gtM n dd y with
              | false => rfl
              | true =>
                have hle2 : leQ x.1 x.2.1 n dd := by
                  have : ¬ n * x.2.1 < x.1 * dd := fun k => by rw [(gtM_iff n dd x).2 k] at hg; cases hg
                  unfold leQ; omega
                have e := hpx y hy
                rw [gtM_le hD d0 hle2 (allM_w a y hy).ok hgy] at e
                cases e) with k | hnil
            · exact k
            · rw [hnil] at e2 e4
              simp only [List.getElem?_nil] at e4
              simp only [F_law34_ChaseFirst, law34_ChaseFirst_K, law34_ChaseFirst_r0, law34_ChaseFirst_r1, law34_ChaseFirst_r2, law34_ChaseFirst_r3, law34_ChaseFirst_r4, law34_ChaseFirst_r5, law34_ChaseFirst_r6, law34_ChaseFirst_r7, law34_ChaseFirst_r8, Dt.eval, ea, e0, Bool.not_true, Bool.not_false, cond_false, decide_eq_false h1, decide_eq_false h2, e1, e5, e6, hle, b0, cond_true, e4, show ((6 : Int) == 6) = true from rfl, e2, List.take_nil, List.length_nil, beq_self_eq_true, show (((0 : Nat) : Int) == 0) = true from rfl]
          | true =>
            rw [hg] at hle
            have hleq : leQ n dd x.1 x.2.1 := gt_leQ hg
            have e7 := mAll_eq d hd l (n := n) (dd := dd) (n' := x.1) (dd' := x.2.1) hn hdd hxw.b1 hxw.b2
            have hc2 : chk2 l n dd x.1 x.2.1 = 0 := by
              unfold chk2
              have q1 : ¬ 0 < cmpQ n dd x.1 x.2.1 := (leQ_iff ..).1 hleq
              have q2 : ratioChk x.1 x.2.1 = 0 := hxw.ok
              simp only [h0, c, q2, q1, ne_eq, not_true_eq_false, if_false]
            unfold allV at e7
            rw [if_neg (by simpa using hc2)] at e7
            have hL4 : ∀ y ∈ allM l, okM y := fun y hy => (allM_w a y hy).ok
            have hcut := cutM_eq (n := n) (dd := dd) (n' := x.1) (dd' := x.2.1) d0 hD hleq hL4 (allM_pw a)
            have hfew : ((chL l p n dd).take (tmin m ((chL l p n dd).length : Int)).toNat).length = (tmin m ((chL l p n dd).length : Int)).toNat ∧ (tmin m ((chL l p n dd).length : Int)).toNat ≤ (chL l p n dd).length ∧ (((tmin m ((chL l p n dd).length : Int)).toNat : Nat) : Int) = tmin m ((chL l p n dd).length : Int) := by
              have : tmin m ((chL l p n dd).length : Int) ≤ ((chL l p n dd).length : Int) ∧ 0 ≤ tmin m ((chL l p n dd).length : Int) := by unfold tmin; split <;> omega
              rw [List.length_take]
              omega
            have hA : ∀ y ∈ cutM (allM l) n dd x.1 x.2.1, y ∈ allM l ∧ gtM n dd y = true := fun y hy => by
              obtain ⟨q1, q2, _⟩ := cutM_mem d0 hD hleq hL4 (allM_pw a) hy
              exact ⟨q1, q2⟩
            have hAl := Nat.le_trans (cutM_len (allM l) n dd x.1 x.2.1) (allM_len a)
            have hcnt : 0 + ((cutM (allM l) n dd x.1 x.2.1).drop 0).countP (ownB p.1) = (chL l p n dd).length := by
              rw [List.drop_zero, Nat.zero_add, ← hcut, List.countP_filter, (chL_perm l p n dd).length_eq, ← (sel_perm a hp n dd).length_eq, ← List.countP_eq_length_filter]
              refine List.countP_congr fun y hy => ?_
              unfold selC inM ownB
              rw [hpx y hy, Bool.not_false, Bool.and_true]
            obtain ⟨f1, f2, f3⟩ := hfew
            have e8 := first1 d hd hs a h0 hp (m := m) hn hdd c (by omega) ((chL l p n dd).take (tmin m ((chL l p n dd).length : Int)).toNat) (by rw [f1]) (by omega) hA hAl d 0 0 (by omega) (by omega) (by omega) hcnt
            have c1 : ((((chL l p n dd).take (tmin m ((chL l p n dd).length : Int)).toNat).length : Int) != tmin m ((chL l p n dd).length : Int)) = false := by rw [f1, f3]; simp
            simp only [F_law34_ChaseFirst, law34_ChaseFirst_K, law34_ChaseFirst_r0, law34_ChaseFirst_r1, law34_ChaseFirst_r2, law34_ChaseFirst_r3, law34_ChaseFirst_r4, law34_ChaseFirst_r5, law34_ChaseFirst_r9, law34_ChaseFirst_r10, law34_ChaseFirst_r11, law34_ChaseFirst_r12, law34_ChaseFirst_r13, law34_ChaseFirst_r14, law34_ChaseFirst_r15, Dt.eval, ea, e0, Bool.not_true, cond_false, decide_eq_false h1, decide_eq_false h2, e1, e5, e6, hle, b0, e7, e3, e2, c1]
            exact e8
set_option maxRecDepth 100000 in
theorem alive34z : F_law34_alive 5001 () = some true := by kernel_rfl
end Go.Proofs.YtmagihjfbembjaaGreat

namespace Go
open Go.ChangeShapes Go.WideShapes Go.ChangeAt Go.RowKit
section
variable {H : Type} {enc : TypeId × Value → H} {P : Program} {w : World} {base : Nat} {spare : Nat → Bool} {held : Bool}
/-- a field of a struct -/
theorem field_at {t : TypeId} {fs : Array Field} {fuel : Nat} {cs : List Value} {x : DataW H × List MemPlace} (hs : P.underlying t = some (.struct fs)) (h : DataW.trod enc P w base spare held fuel t cs = some x)
    {i : Nat} {f : Field} (hf : fs[i]? = some f) {off n : Nat} {ft : TypeId} (ho : f.offset = off) (ht : f.type = ft) (hn : P.cellsOf ft = n) : ∃ m y, DataW.trod enc P w base spare held m ft ((cs.drop off).take n) = some y := by
  obtain ⟨xs, m, _, _, _, hlen, hg⟩ := DataW.trod_struct hs h
  have h1 := hg i f hf
  subst ho ht hn
  have hi : i < xs.length := by rw [hlen]; exact (Array.getElem?_eq_some_iff.1 hf).1
  exact ⟨m, xs[i], by rw [h1, List.getElem?_eq_getElem hi]⟩
theorem int_cell {t : TypeId} {k : IntKind} {fuel : Nat} {cs : List Value} {x : DataW H × List MemPlace} (ht : P.underlying t = some (.int k)) (h : DataW.trod enc P w base spare held fuel t cs = some x) : ∃ n, cs = [.int k n] ∧ (Lit.int k n).wf = true := by
  obtain ⟨n, h1, _, h2⟩ := DataW.trod_int ht h; exact ⟨n, h1, h2⟩
theorem wf_i64 {n : Int} (h : (Lit.int .i64 n).wf = true) : -9223372036854775808 ≤ n ∧ n ≤ 9223372036854775807 := bounds_i64 h
end
end Go
namespace Go.Proofs.YtmagihjfbembjaaGreat
open Go.ChangeShapes Go.WideShapes Go.ChangeAt Go.RowKit
theorem ownKnob_ : ownKnob Tryz.prog.godebug = none := by kernel_rfl
theorem laidOut_ : laidOutB Tryz.prog = true := by kernel_rfl
end Go.Proofs.YtmagihjfbembjaaGreat

namespace Go
open Go.ChangeShapes Go.WideShapes Go.ChangeAt Go.RowKit Go.Deep
theorem choose_below {α : Type} {p : Nat → α → Prop} : ∀ n : Nat, (∀ i, i < n → ∃ v, p i v) → ∃ l : List α, l.length = n ∧ ∀ (i : Nat) (x : α), l[i]? = some x → p i x
  | 0, _ => ⟨[], rfl, fun i x h => by simp at h⟩
  | n + 1, h => by
    obtain ⟨l, hl, hp⟩ := choose_below n fun i hi => h i (by omega)
    obtain ⟨v, hv⟩ := h n (by omega)
    refine ⟨l ++ [v], by simp [hl], fun i x hx => ?_⟩
    rcases Nat.lt_or_ge i n with hi | hi
    · rw [List.getElem?_append_left (by omega)] at hx; exact hp i x hx
    · rw [List.getElem?_append_right (by omega)] at hx
      have : i = n := by
        have := (List.getElem?_eq_some_iff.1 hx).1
        simp at this; omega
      subst this
      simp [hl] at hx
      subst hx; exact hv
theorem flat_get {α : Type} {cells : α → List Value} {k : Nat} (hk : ∀ a, (cells a).length = k) (h0 : 0 < k) : ∀ (l : List α) (j : Nat) (u : Value), (l.flatMap cells)[j]? = some u → ∃ x, l[j / k]? = some x ∧ (cells x)[j % k]? = some u
  | [], j, u, h => by simp at h
  | x :: l, j, u, h => by
    rw [List.flatMap_cons] at h
    rcases Nat.lt_or_ge j k with hj | hj
    · rw [List.getElem?_append_left (by rw [hk]; exact hj)] at h
      rw [Nat.div_eq_of_lt hj, Nat.mod_eq_of_lt hj]
      exact ⟨x, rfl, h⟩
    · rw [List.getElem?_append_right (by rw [hk]; exact hj), hk] at h
      obtain ⟨y, hy, hu⟩ := flat_get hk h0 l (j - k) u h
      obtain ⟨m, rfl⟩ : ∃ m, j = m + k := ⟨j - k, by omega⟩
      rw [Nat.add_sub_cancel] at hy hu
      rw [Nat.add_div_right _ h0, Nat.add_mod_right]
      exact ⟨y, by simpa using hy, hu⟩
theorem flat_len {α : Type} {cells : α → List Value} {k : Nat} (hk : ∀ a, (cells a).length = k) (l : List α) : (l.flatMap cells).length = l.length * k := by
  induction l with
  | nil => simp
  | cons x l ih => rw [List.flatMap_cons, List.length_append, ih, hk, List.length_cons, Nat.add_mul]; omega
section
variable {H : Type} {enc : TypeId × Value → H} {P : Program} {w : World} {base : Nat} {held : Bool}
theorem arg_nil {t e : TypeId} {fuel : Nat} {A : Option Addr} {n c : Nat} {x : DataW H × List MemPlace} (ht : P.underlying t = some (.slice e))
    (h : DataW.trod enc P w base (fun _ => true) held fuel t [Value.slice A n c] = some x) : A = none → c = 0 := by
  rcases open_slice ht h with ⟨hcs, _⟩ | ⟨a, len, cap, m, q, D, Pl, hcs, _⟩
  · simp only [List.cons.injEq, and_true] at hcs
    injection hcs with h1 h2 h3
    intro _; exact h3
  · simp only [List.cons.injEq, and_true] at hcs
    injection hcs with h1 h2 h3
    subst h1; intro h; cases h
/-- A slice that came in: the list of its elements. -/
theorem arg_slice {α : Type} (cells : α → List Value) (ok : α → Prop) {t e : TypeId} {k fuel : Nat} {A : Option Addr} {n c : Nat} {x : DataW H × List MemPlace}
    (ht : P.underlying t = some (.slice e)) (hC : P.cellsOf e = k) (h0 : 0 < k) (hk : ∀ a, (cells a).length = k)
    (hR : ∀ (m : Nat) (l : List Value) (y : DataW H × List MemPlace), DataW.trod enc P w base (fun _ => true) held m e l = some y → l.length = k → ∃ a, l = cells a ∧ ok a)
    (h : DataW.trod enc P w base (fun _ => true) held fuel t [Value.slice A n c] = some x) :
    ∃ l : List α, l.length = n ∧ Sl w k A l.length c (l.flatMap cells) ∧ (∀ a ∈ l, ok a) ∧ (A = none → c = 0) ∧ c ≤ maxLen := by
  rcases open_slice ht h with ⟨hcs, _⟩ | ⟨a, len, cap, m, q, D, Pl, hcs, _, hl, hmx, hm, _, hi⟩
  · simp only [List.cons.injEq, and_true] at hcs
    injection hcs with h1 h2 h3
    subst h1 h2 h3
    exact ⟨[], rfl, Sl.nil_ _ _ _ _, (fun _ h => by cases h), (fun _ => rfl), Nat.zero_le _⟩
  · simp only [List.cons.injEq, and_true] at hcs
    injection hcs with h1 h2 h3
    subst h1 h2 h3
    simp only [if_true] at hm
    subst hm
    obtain ⟨l, hll, hp⟩ := choose_below (α := α) (p := fun i v => (∀ j u, (cells v)[j]? = some u → w.cell? (a.add (i * k + j)) = some u) ∧ ok v) n (fun i hin => by
      obtain ⟨cs', hc, ht'⟩ := hi i (by omega)
      rw [hC] at hc
      obtain ⟨_, hcl, hat⟩ := World.cells?_some hc
      obtain ⟨v, rfl, hv⟩ := hR _ _ _ ht' hcl
      refine ⟨v, fun j u hu => ?_, hv⟩
      have hj : j < k := by rw [← hk v]; exact (List.getElem?_eq_some_iff.1 hu).1
      rw [← Go.Deep.add_add, hat j hj, hu])
    refine ⟨l, hll, ⟨by omega, by rw [flat_len hk, hll], fun hn => ?_⟩, fun v hv => ?_, (fun h => by cases h), hmx⟩
    · obtain ⟨v0, hv0⟩ : ∃ v, l[0]? = some v := ⟨_, List.getElem?_eq_getElem (by omega)⟩
      obtain ⟨u0, hu0⟩ : ∃ u, (cells v0)[0]? = some u := ⟨_, List.getElem?_eq_getElem (by rw [hk]; exact h0)⟩
      have hc0 := (hp 0 v0 hv0).1 0 u0 hu0
      obtain ⟨b, o, spot⟩ := a
      have hspot : spot = none := by simpa [Addr.add] using World.cell?_spot hc0
      subst hspot
      refine ⟨b, o, rfl, ?_, fun j u hu => ?_⟩
      · have hb := World.block_lt_of_cell? w _ hc0
        simpa [Addr.add] using hb
      · obtain ⟨v, hv, huv⟩ := flat_get hk h0 l j u hu
        have h1 := (hp _ v hv).1 _ u huv
        have e0 : j / k * k + j % k = j := by rw [Nat.mul_comm]; exact Nat.div_add_mod j k
        rw [e0] at h1
        have e1 : (⟨b, o, none⟩ : Addr).add j = ⟨b, o + j, none⟩ := by
          unfold Addr.add; split
          · rename_i h0; rw [h0]; rfl
          · rfl
        rw [e1] at h1; exact h1
    · obtain ⟨i, hi'⟩ := List.getElem?_of_mem hv
      exact (hp i v hi').2
end
end Go

namespace Go.Proofs.YtmagihjfbembjaaGreat
open Go.ChangeShapes Go.WideShapes Go.ChangeAt Go.RowKit Go.Pel Go.Deep
theorem list1 {α : Type} (l : List α) (h : l.length = 1) : ∃ a, l = [a] := by
  match l, h with
  | [a], _ => exact ⟨a, rfl⟩
theorem list2 {α : Type} (l : List α) (h : l.length = 2) : ∃ a b, l = [a, b] := by
  match l, h with
  | [a, b], _ => exact ⟨a, b, rfl⟩
theorem list3 {α : Type} (l : List α) (h : l.length = 3) : ∃ a b c, l = [a, b, c] := by
  match l, h with
  | [a, b, c], _ => exact ⟨a, b, c, rfl⟩
section
variable {H : Type} {enc : TypeId × Value → H} {w : World} {base : Nat} {spare : Nat → Bool} {held : Bool}
theorem cellsF_int : Tryz.prog.cellsOf 3 = 1 := by kernel_rfl
theorem cellsF_i64 : Tryz.prog.cellsOf 2 = 1 := by kernel_rfl
theorem cellsF_point : Tryz.prog.cellsOf 65 = 3 := by kernel_rfl
theorem cellsF_field : Tryz.prog.cellsOf 24 = 1 := by kernel_rfl
theorem cellsF_points : Tryz.prog.cellsOf 22 = 1 := by kernel_rfl
theorem point_cells {fuel : Nat} {l : List Value} {x : DataW H × List MemPlace} (h : DataW.trod enc Tryz.prog w base spare held fuel 65 l = some x) (hl : l.length = 3) :
    ∃ p : Pt, l = [.int .i64 p.id, .int .i64 p.a, .int .i64 p.b] ∧ p.Fits := by
  obtain ⟨c0, c1, c2, rfl⟩ := list3 l hl
  obtain ⟨m4, y4, h4⟩ := field_at Tryz.underlying65 h (i := 0) rfl rfl rfl cellsF_int
  obtain ⟨m5, y5, h5⟩ := field_at Tryz.underlying65 h (i := 1) rfl rfl rfl cellsF_i64
  obtain ⟨m6, y6, h6⟩ := field_at Tryz.underlying65 h (i := 2) rfl rfl rfl cellsF_i64
  obtain ⟨i, e4, w4⟩ := int_cell Tryz.underlying3 h4
  obtain ⟨a, e5, w5⟩ := int_cell Tryz.underlying2 h5
  obtain ⟨b, e6, w6⟩ := int_cell Tryz.underlying2 h6
  simp at e4 e5 e6
  subst e4 e5 e6
  exact ⟨⟨i, a, b⟩, rfl, ⟨wf_i64 w4, wf_i64 w5, wf_i64 w6⟩⟩
theorem point_read (fuel : Nat) (l : List Value) (x : DataW H × List MemPlace) (h : DataW.trod enc Tryz.prog w base spare held fuel 65 l = some x) (hl : l.length = 3) : ∃ p : Pt, l = p.cells ∧ p.Fits := point_cells h hl
theorem field_cells {fuel : Nat} {l : List Value} {x : DataW H × List MemPlace} (h : DataW.trod enc Tryz.prog w base (fun _ => true) held fuel 24 l = some x) (hl : l.length = 1) :
    ∃ (A : Option Addr) (c : Nat) (m : List Pt), l = [.slice A m.length c] ∧ Sl w 3 A m.length c (vp m) ∧ (A = none → c = 0) ∧ ∀ p ∈ m, p.Fits := by
  obtain ⟨c0, rfl⟩ := list1 l hl
  obtain ⟨m0, y0, h0⟩ := field_at Tryz.underlying24 h (i := 0) rfl rfl rfl cellsF_points
  have h0' : DataW.trod enc Tryz.prog w base (fun _ => true) held m0 22 [c0] = some y0 := by simpa using h0
  obtain ⟨A, n, c, rfl⟩ : ∃ A n c, c0 = Value.slice A n c := by
    rcases open_slice Tryz.underlying22 h0' with ⟨hcs, _⟩ | ⟨a, len, cap, m, q, D, Pl, hcs, _⟩
    · simp only [List.cons.injEq, and_true] at hcs; exact ⟨_, _, _, hcs⟩
    · simp only [List.cons.injEq, and_true] at hcs; exact ⟨_, _, _, hcs⟩
  have hn := arg_nil Tryz.underlying22 h0'
  obtain ⟨pts, rfl, hs, hok, _, _⟩ := arg_slice Pt.cells Pt.Fits Tryz.underlying22 cellsF_point (by decide) (fun _ => rfl) point_read h0'
  exact ⟨A, c, pts, rfl, hs, hn, hok⟩
theorem cellsF_ratio : Tryz.prog.cellsOf 26 = 2 := by kernel_rfl
theorem ratio_cells {fuel : Nat} {l : List Value} {x : DataW H × List MemPlace} (h : DataW.trod enc Tryz.prog w base spare held fuel 26 l = some x) (hl : l.length = 2) :
    ∃ n d : Int, l = [.int .i64 n, .int .i64 d] ∧ (-9223372036854775808 ≤ n ∧ n ≤ 9223372036854775807) ∧ (-9223372036854775808 ≤ d ∧ d ≤ 9223372036854775807) := by
  obtain ⟨c0, c1, rfl⟩ := list2 l hl
  obtain ⟨m4, y4, h4⟩ := field_at Tryz.underlying26 h (i := 0) rfl rfl rfl cellsF_i64
  obtain ⟨m5, y5, h5⟩ := field_at Tryz.underlying26 h (i := 1) rfl rfl rfl cellsF_i64
  obtain ⟨n, e4, w4⟩ := int_cell Tryz.underlying2 h4
  obtain ⟨d, e5, w5⟩ := int_cell Tryz.underlying2 h5
  simp at e4 e5
  subst e4 e5
  exact ⟨n, d, rfl, wf_i64 w4, wf_i64 w5⟩
end
end Go.Proofs.YtmagihjfbembjaaGreat
