/- The sorted order is the only one; fields with one point more, or less, or another one. -/
import Derived.Test.YtkcpnclgcmnlcaaRef8
set_option linter.unusedSimpArgs false
set_option linter.unusedVariables false
namespace Go.Pel
open Go Go.RowKit
theorem leads_asymm {p q : Pt} {n d : Int} (h : leads p q n d = true) (k : leads q p n d = true) : False := by
  rw [leads_iff] at h k; omega
theorem incB_pw (l : List Pt) : incB l = true ↔ l.Pairwise fun p q => p.id < q.id := by
  constructor
  · intro h; rw [List.pairwise_iff_getElem]; intro i j hi hj hij
    exact inc_lt h hij (List.getElem?_eq_getElem hi) (List.getElem?_eq_getElem hj)
  · intro h; rw [incB_iff]; intro i p q hp hq
    obtain ⟨h1, e1⟩ := List.getElem?_eq_some_iff.1 hp
    obtain ⟨h2, e2⟩ := List.getElem?_eq_some_iff.1 hq
    rw [← e1, ← e2]; exact List.pairwise_iff_getElem.1 h i (i + 1) h1 h2 (by omega)
theorem chk_ok {l : List Pt} : fieldChk l = 0 ↔ l.length ≤ 64 ∧ (∀ p ∈ l, p.chk = 0) ∧ l.Pairwise fun p q => p.id < q.id := by
  rw [← incB_pw]
  exact ⟨fieldChk_zero, fun h => fieldChk_ok h.1 h.2.1 h.2.2⟩
theorem sub_ok {l m : List Pt} (hs : m.Sublist l) (h : fieldChk l = 0) : fieldChk m = 0 := by
  rw [chk_ok] at h ⊢
  exact ⟨Nat.le_trans hs.length_le h.1, fun p hp => h.2.1 p (hs.subset hp), h.2.2.sublist hs⟩
theorem sorted_only {l s : List Pt} {n d : Int} (hinc : incB l = true) (hp : s.Perm l) (hs : s.Pairwise fun p q => leads p q n d = true) : sortP n d l = s := by
  refine List.Perm.eq_of_pairwise ?_ (sortP_pairwise (idsApart_inc hinc) (ids_nodup hinc)) hs ((sortP_perm n d l).trans hp.symm)
  intro a b _ _ h k
  exact (leads_asymm h k).elim
theorem order_ok {l : List Pt} {n d : Int} (h : timed l n d = 0) : fieldOrder l n d = ((sortP n d l).map Pt.id, 0) := by
  obtain ⟨_, _, h3⟩ := timed_zero h
  unfold fieldOrder; rw [h3]; exact if_neg (fun h => h rfl)
theorem order_only {l s : List Pt} {n d : Int} (h : timed l n d = 0) (hp : s.Perm l) (hs : s.Pairwise fun p q => leads p q n d = true) : fieldOrder l n d = (s.map Pt.id, 0) := by
  rw [order_ok h, sorted_only (fieldChk_zero (timed_zero h).1).2.2 hp hs]
theorem sorted_mem {l : List Pt} {n d : Int} {i : Nat} {p : Pt} (hp : (sortP n d l)[i]? = some p) : p ∈ l := (sortP_perm n d l).mem_iff.1 (List.mem_of_getElem? hp)
theorem rank_at {l : List Pt} {n d : Int} (h : timed l n d = 0) {i : Nat} {p : Pt} (hp : (sortP n d l)[i]? = some p) : fieldRank l p.id n d = ((i : Int), 0) := by
  have hinc := (fieldChk_zero (timed_zero h).1).2.2
  unfold fieldRank
  rw [order_ok h]
  simp only
  rw [if_neg (fun h => h rfl), ix_rank hinc (sorted_mem hp), rank_sorted hinc hp, if_neg (by omega)]
theorem rank_none {l : List Pt} {n d id : Int} (h : timed l n d = 0) (hb : hasB l id = false) : fieldRank l id n d = (0, 6) := by
  unfold fieldRank
  rw [order_ok h]
  simp only
  rw [if_neg (fun h => h rfl), ix_none hb, if_pos (by decide)]
theorem hasB_mem {l : List Pt} {p : Pt} (h : p ∈ l) : hasB l p.id = true := by
  unfold hasB; rw [List.any_eq_true]; exact ⟨p, h, by simp⟩
theorem hasB_ex {l : List Pt} {id : Int} (h : hasB l id = true) : ∃ p, p ∈ l ∧ p.id = id := by
  unfold hasB at h; rw [List.any_eq_true] at h
  obtain ⟨p, hp, he⟩ := h; exact ⟨p, hp, by simpa using he⟩
theorem low_at {l : List Pt} (h : incB l = true) {k : Nat} {p : Pt} (hk : l[k]? = some p) : lowB l p.id = k := by
  have hkl := (List.getElem?_eq_some_iff.1 hk).1
  refine lowB_of (by omega) (fun i q hi hq => inc_lt h hi hq hk) ?_
  intro q hq
  rw [hk] at hq; obtain rfl := Option.some.inj hq; exact Int.le_refl _
theorem find_at {l : List Pt} (h : fieldChk l = 0) {k : Nat} {p : Pt} (hk : l[k]? = some p) : fieldFind l p.id = (p, 0) := by
  have hinc := (fieldChk_zero h).2.2
  unfold fieldFind
  rw [if_neg (by simpa using h), if_pos (hasB_mem (List.mem_of_getElem? hk)), low_at hinc hk, List.getD_eq_getElem?_getD, hk]; rfl
theorem find_mem {l : List Pt} (h : fieldChk l = 0) {p : Pt} (hp : p ∈ l) : fieldFind l p.id = (p, 0) := by
  obtain ⟨k, hk⟩ := List.mem_iff_getElem?.1 hp
  exact find_at h hk
theorem find_none {l : List Pt} (h : fieldChk l = 0) {id : Int} (hb : hasB l id = false) : fieldFind l id = (Pt.zero, 6) := by
  unfold fieldFind; rw [if_neg (by simpa using h), hb]; rfl
theorem leader_at {l : List Pt} {n d : Int} (h : timed l n d = 0) {p : Pt} (hp : (sortP n d l)[0]? = some p) : fieldLeader l n d = (p.id, 0) := by
  obtain ⟨_, _, h3⟩ := timed_zero h
  unfold fieldLeader; rw [h3]; simp only
  rw [if_neg (fun h => h rfl)]
  cases hs : sortP n d l with
  | nil => rw [hs] at hp; simp at hp
  | cons a r => rw [hs] at hp; simp at hp; rw [hp]
theorem ahead_at {l : List Pt} {n d : Int} (h : timed l n d = 0) {i j : Nat} (hij : i < j) {p q : Pt} (hp : (sortP n d l)[i]? = some p) (hq : (sortP n d l)[j]? = some q) : aheadV p q n d = (true, 0) := by
  obtain ⟨h1, h2, h3⟩ := timed_zero h
  obtain ⟨_, hc, hinc⟩ := fieldChk_zero h1
  have hpw := sortP_pairwise (n := n) (d := d) (idsApart_inc hinc) (ids_nodup hinc)
  obtain ⟨k1, e1⟩ := List.getElem?_eq_some_iff.1 hp
  obtain ⟨k2, e2⟩ := List.getElem?_eq_some_iff.1 hq
  have hl := List.pairwise_iff_getElem.1 hpw i j k1 k2 hij
  rw [e1, e2] at hl
  have hne : p.id ≠ q.id := by
    intro e
    have := idsApart_inc hinc p (sorted_mem hp) q (sorted_mem hq) e
    subst this
    exact leads_asymm hl hl
  unfold aheadV
  rw [twoChk_ok ⟨hc p (sorted_mem hp), hc q (sorted_mem hq), h2⟩ hne, if_pos rfl, hl]
/-- without one -/
theorem take_ok {l : List Pt} (h : fieldChk l = 0) {k : Nat} {p : Pt} (hk : l[k]? = some p) : fieldTake l p.id = (l.eraseIdx k, 0) := by
  have hinc := (fieldChk_zero h).2.2
  unfold fieldTake
  rw [if_neg (by simpa using h), if_pos (hasB_mem (List.mem_of_getElem? hk)), low_at hinc hk, List.eraseIdx_eq_take_drop_succ]
theorem take_none {l : List Pt} (h : fieldChk l = 0) {id : Int} (hb : hasB l id = false) : fieldTake l id = ([], 6) := by
  unfold fieldTake; rw [if_neg (by simpa using h), hb]; rfl
theorem erase_perm {l : List Pt} {k : Nat} {p : Pt} (hk : l[k]? = some p) : (p :: l.eraseIdx k).Perm l := by
  obtain ⟨h1, e1⟩ := List.getElem?_eq_some_iff.1 hk
  rw [List.eraseIdx_eq_take_drop_succ]
  have e2 : l = l.take k ++ p :: l.drop (k + 1) := by rw [← e1, ← List.drop_eq_getElem_cons h1, List.take_append_drop]
  conv => rhs; rw [e2]
  exact List.perm_middle.symm
theorem sorted_less {l : List Pt} {n d : Int} (h : incB l = true) {k i : Nat} {p : Pt} (hk : l[k]? = some p) (hi : (sortP n d l)[i]? = some p) : sortP n d (l.eraseIdx k) = (sortP n d l).eraseIdx i := by
  have hl : incB (l.eraseIdx k) = true := by rw [incB_pw] at h ⊢; exact h.sublist (List.eraseIdx_sublist l k)
  refine sorted_only hl ?_ ((sortP_pairwise (idsApart_inc h) (ids_nodup h)).sublist (List.eraseIdx_sublist _ i))
  have h1 := (erase_perm hi).trans ((sortP_perm n d l).trans (erase_perm hk).symm)
  exact h1.cons_inv
theorem order_less {l : List Pt} {n d : Int} (h : timed l n d = 0) {k i : Nat} {p : Pt} (hk : l[k]? = some p) (hi : (sortP n d l)[i]? = some p) : fieldOrder (l.eraseIdx k) n d = (((sortP n d l).map Pt.id).eraseIdx i, 0) := by
  obtain ⟨h1, h2, _⟩ := timed_zero h
  have hinc := (fieldChk_zero h1).2.2
  have ht : timed (l.eraseIdx k) n d = 0 := by
    unfold timed; rw [sub_ok (List.eraseIdx_sublist l k) h1]; simpa using h2
  rw [order_ok ht, sorted_less hinc hk hi]
  simp [List.eraseIdx_eq_take_drop_succ]
/-- with another one in a point's place -/
theorem set_ok {l : List Pt} (h : fieldChk l = 0) {k : Nat} {p q : Pt} (hk : l[k]? = some q) (hp : p.chk = 0) (he : p.id = q.id) : fieldChk (l.set k p) = 0 := by
  have hinc := (fieldChk_zero h).2.2
  rw [chk_ok] at h ⊢
  refine ⟨by simpa using h.1, ?_, ?_⟩
  · intro x hx
    rcases List.mem_or_eq_of_mem_set hx with hx | rfl
    · exact h.2.1 x hx
    · exact hp
  · have e : (l.set k p).map Pt.id = l.map Pt.id := by
      rw [List.map_set, he]
      apply List.ext_getElem?; intro j
      rw [List.getElem?_set]
      split
      · rename_i hj; subst hj
        split
        · simp [hk]
        · rename_i hj; simp at hj; rw [List.getElem?_map, List.getElem?_eq_none hj]; rfl
      · rfl
    have := h.2.2
    rw [← List.pairwise_map (f := Pt.id) (R := fun a b => a < b)] at this ⊢
    rw [e]; exact this
theorem change_ok {l : List Pt} (h : fieldChk l = 0) {k : Nat} {p q : Pt} (hk : l[k]? = some q) (hp : p.chk = 0) (he : p.id = q.id) : fieldChange l p = (l.set k p, 0) := by
  have hinc := (fieldChk_zero h).2.2
  unfold fieldChange
  rw [if_neg (by simpa using h), if_neg (by simpa using hp), he, if_pos (hasB_mem (List.mem_of_getElem? hk)), low_at hinc hk]
theorem put_twice {l : List Pt} (h : fieldChk l = 0) {p q : Pt} (hq : q ∈ l) (hp : p.chk = 0) (he : p.id = q.id) : fieldPut l p = ([], 14) := by
  unfold fieldPut
  rw [if_neg (by simpa using h), if_neg (by simpa using hp), he, if_pos (hasB_mem hq)]
theorem set_get {l : List Pt} {k : Nat} {p q : Pt} (hk : l[k]? = some q) : (l.set k p)[k]? = some p := by
  rw [List.getElem?_set_self (List.getElem?_eq_some_iff.1 hk).1]
theorem set_back {l : List Pt} {k : Nat} {p q : Pt} (hk : l[k]? = some q) : (l.set k p).set k q = l := by
  rw [List.set_set]
  apply List.ext_getElem?; intro j
  rw [List.getElem?_set]
  split
  · rename_i hj; subst hj
    rw [if_pos (List.getElem?_eq_some_iff.1 hk).1, hk]
  · rfl
/-- with one more -/
def insP (l : List Pt) (p : Pt) : List Pt := l.take (lowB l p.id) ++ p :: l.drop (lowB l p.id)
theorem ins_len (l : List Pt) (p : Pt) : (insP l p).length = l.length + 1 := by
  have := lowB_le l p.id
  unfold insP; simp only [List.length_append, List.length_take, List.length_cons, List.length_drop]; omega
theorem ins_get (l : List Pt) (p : Pt) : (insP l p)[lowB l p.id]? = some p := by
  have := lowB_le l p.id
  unfold insP
  rw [List.getElem?_append_right (by rw [List.length_take]; omega), List.length_take, Nat.min_eq_left this, Nat.sub_self]; rfl
theorem ins_back (l : List Pt) (p : Pt) : (insP l p).eraseIdx (lowB l p.id) = l := by
  have := lowB_le l p.id
  have hl : (l.take (lowB l p.id)).length = lowB l p.id := by rw [List.length_take]; omega
  unfold insP
  rw [List.eraseIdx_append_of_length_le (by omega), hl, Nat.sub_self]
  simp
theorem ins_ok {l : List Pt} (h : fieldChk l = 0) {p : Pt} (hp : p.chk = 0) (hb : hasB l p.id = false) (hl : l.length ≠ 64) : fieldChk (insP l p) = 0 := by
  have hinc := (fieldChk_zero h).2.2
  rw [chk_ok] at h ⊢
  refine ⟨by rw [ins_len]; omega, ?_, ?_⟩
  · intro x hx
    unfold insP at hx
    rcases List.mem_append.1 hx with hx | hx
    · exact h.2.1 x (List.mem_of_mem_take hx)
    · rcases List.mem_cons.1 hx with rfl | hx
      · exact hp
      · exact h.2.1 x (List.mem_of_mem_drop hx)
  · have hne : ∀ q ∈ l, q.id ≠ p.id := by
      intro q hq e
      unfold hasB at hb; rw [List.any_eq_false] at hb
      exact hb q hq (by simpa using e)
    have h1 : ∀ a ∈ l.take (lowB l p.id), a.id < p.id := by
      intro a ha
      obtain ⟨i, hi⟩ := List.mem_iff_getElem?.1 ha
      rw [List.getElem?_take] at hi
      split at hi
      · exact lowB_lt ‹_› hi
      · cases hi
    have h2 : ∀ b ∈ l.drop (lowB l p.id), p.id < b.id := by
      intro b hb'
      have hbl := List.mem_of_mem_drop hb'
      have := hne b hbl
      obtain ⟨i, hi⟩ := List.mem_iff_getElem?.1 hb'
      rw [List.getElem?_drop] at hi
      have hk : lowB l p.id < l.length := by have := (List.getElem?_eq_some_iff.1 hi).1; omega
      have hge := lowB_ge (l := l) (id := p.id) (List.getElem?_eq_getElem hk)
      rcases Nat.eq_zero_or_pos i with rfl | hpos
      · rw [Nat.add_zero, List.getElem?_eq_getElem hk] at hi
        obtain rfl := Option.some.inj hi
        omega
      · have := inc_lt hinc (show lowB l p.id < lowB l p.id + i by omega) (List.getElem?_eq_getElem hk) hi
        omega
    unfold insP
    rw [List.pairwise_append]
    refine ⟨h.2.2.sublist (List.take_sublist _ _), ?_, ?_⟩
    · rw [List.pairwise_cons]
      exact ⟨h2, h.2.2.sublist (List.drop_sublist _ _)⟩
    · intro a ha b hb'
      have := h1 a ha
      rcases List.mem_cons.1 hb' with rfl | hb'
      · exact this
      · have := h2 b hb'; omega
theorem put_ok {l : List Pt} (h : fieldChk l = 0) {p : Pt} (hp : p.chk = 0) (hb : hasB l p.id = false) (hl : l.length ≠ 64) : fieldPut l p = (insP l p, 0) := by
  unfold fieldPut
  rw [if_neg (by simpa using h), if_neg (by simpa using hp), hb, if_neg hl]; rfl
theorem put_full {l : List Pt} (h : fieldChk l = 0) {p : Pt} (hp : p.chk = 0) (hb : hasB l p.id = false) (hl : l.length = 64) : fieldPut l p = ([], 18) := by
  unfold fieldPut
  rw [if_neg (by simpa using h), if_neg (by simpa using hp), hb, if_pos hl]; rfl
/-- the chapter's field -/
def givenF : List Pt := [⟨1, 0, 2⟩, ⟨2, 6, -1⟩, ⟨5, 0, 0⟩]
theorem given_chk : fieldChk givenF = 0 := by decide
theorem given_timed (n : Int) (h : -9223372036854775807 ≤ n) : timed givenF n 1 = 0 := by
  unfold timed; rw [given_chk, if_neg (by decide)]
  exact ratioChk_one (by decide) (by omega) (by show Nat.gcd 1 _ = 1; exact Nat.gcd_one_left _)
theorem given0 : fieldOrder givenF 0 1 = ([2, 1, 5], 0) := order_only (s := [⟨2, 6, -1⟩, ⟨1, 0, 2⟩, ⟨5, 0, 0⟩]) (given_timed 0 (by decide)) (by decide) (by decide)
theorem given2 : fieldOrder givenF 2 1 = ([1, 2, 5], 0) := order_only (s := [⟨1, 0, 2⟩, ⟨2, 6, -1⟩, ⟨5, 0, 0⟩]) (given_timed 2 (by decide)) (by decide) (by decide)
theorem given7 : fieldOrder givenF 7 1 = ([1, 5, 2], 0) := order_only (s := [⟨1, 0, 2⟩, ⟨5, 0, 0⟩, ⟨2, 6, -1⟩]) (given_timed 7 (by decide)) (by decide) (by decide)
theorem given_rank7 : fieldRank givenF 5 7 1 = (1, 0) := by
  unfold fieldRank; rw [given7]; decide
end Go.Pel
