/- Walks of the references; the orders agree; examples. -/
import Derived.Test.YtdpnndpbbdhnmaaGg
set_option linter.unusedSimpArgs false
set_option linter.unusedVariables false
namespace Go.Pel
open Go Go.RowKit
theorem ids_nodup {l : List Pt} (h : incB l = true) : (l.map Pt.id).Nodup := by
  unfold List.Nodup
  rw [List.pairwise_iff_getElem]
  intro i j hi hj hij
  simp only [List.length_map] at hi hj
  have := inc_lt h hij (List.getElem?_eq_getElem hi) (List.getElem?_eq_getElem hj)
  simp; omega
theorem rank_sorted {l : List Pt} {n d : Int} (h : incB l = true) {i : Nat} {p : Pt} (hp : (sortP n d l)[i]? = some p) : rankR l p n d = i := by
  have hi := idsApart_inc h
  have hpm := sortP_perm n d l
  have hpw := sortP_pairwise (n := n) (d := d) hi (ids_nodup h)
  have e1 : rankR l p n d = rankR (sortP n d l) p n d := ((hpm.filter _).length_eq).symm
  rw [e1]
  have hmem : ∀ a ∈ sortP n d l, a ∈ l := fun a ha => hpm.mem_iff.1 ha
  generalize sortP n d l = s at *
  obtain ⟨hlt, he⟩ := List.getElem?_eq_some_iff.1 hp
  have hsp : s = s.take i ++ p :: s.drop (i + 1) := by
    rw [← he, ← List.drop_eq_getElem_cons hlt, List.take_append_drop]
  have hpl : p ∈ l := hmem p (List.mem_of_getElem? hp)
  have hlen : (s.take i).length = i := by rw [List.length_take]; omega
  rw [hsp] at hpw hmem
  obtain ⟨_, h2, h3⟩ := List.pairwise_append.1 hpw
  rw [List.pairwise_cons] at h2
  have f1 : (s.take i).filter (fun q => (q.id != p.id) && leads q p n d) = s.take i := by
    rw [List.filter_eq_self]
    intro a ha
    have hl := h3 a ha p (by simp)
    have hne : a.id ≠ p.id := by
      intro e
      have hap : a = p := hi a (hmem a (by simp [ha])) p hpl e
      subst hap
      rw [leads_iff] at hl
      omega
    simp [hl, hne]
  have f2 : (p :: s.drop (i + 1)).filter (fun q => (q.id != p.id) && leads q p n d) = [] := by
    rw [List.filter_eq_nil_iff]
    intro a ha
    rcases List.mem_cons.1 ha with rfl | ha
    · simp
    · have hl := h2.1 a ha
      have : leads a p n d = false := by
        rw [← Bool.not_eq_true, leads_iff]
        rw [leads_iff] at hl
        omega
      simp [this]
  unfold rankR
  rw [hsp, List.filter_append, f1, f2, List.append_nil, hlen]
theorem rank_inj {l : List Pt} {n d : Int} (h : incB l = true) {p q : Pt} (hp : p ∈ l) (hq : q ∈ l) (hr : rankR l p n d = rankR l q n d) : p = q := by
  obtain ⟨i, hi⟩ := List.mem_iff_getElem?.1 ((sortP_perm n d l).mem_iff.2 hp)
  obtain ⟨j, hj⟩ := List.mem_iff_getElem?.1 ((sortP_perm n d l).mem_iff.2 hq)
  rw [rank_sorted h hi, rank_sorted h hj] at hr
  subst hr
  rw [hi] at hj; exact Option.some.inj hj
theorem ordK_at {l : List Pt} {n d : Int} (h : incB l = true) : ∀ (k : Nat), k ≤ l.length → ∀ (j : Nat) (p : Pt), j < k → l[j]? = some p → (ordK l n d k)[rankR l p n d]? = some p.id := by
  intro k
  induction k with
  | zero => intro _ j p hj; omega
  | succ k ih =>
    intro hk j p hj hp
    obtain ⟨q, hq⟩ : ∃ q, l[k]? = some q := ⟨_, List.getElem?_eq_getElem (by omega)⟩
    rw [ordK_step hq]
    have hql := rankR_lt (List.mem_of_getElem? hq) n d
    by_cases hjk : j = k
    · subst hjk
      rw [hp] at hq; obtain rfl := Option.some.inj hq
      rw [List.getElem?_set_self (by rw [ordK_len]; exact hql)]
    · have hne : rankR l q n d ≠ rankR l p n d := by
        intro e
        have e1 := rank_inj h (List.mem_of_getElem? hq) (List.mem_of_getElem? hp) e
        subst e1
        have := inc_lt h (show j < k by omega) hp hq
        omega
      rw [List.getElem?_set_ne hne]
      exact ih (by omega) j p (by omega) hp
theorem ordK_sorted {l : List Pt} {n d : Int} (h : incB l = true) : ordK l n d l.length = (sortP n d l).map Pt.id := by
  apply List.ext_getElem?
  intro i
  by_cases hi : i < l.length
  · obtain ⟨p, hp⟩ : ∃ p, (sortP n d l)[i]? = some p := ⟨_, List.getElem?_eq_getElem (by rw [sortP_length]; exact hi)⟩
    have hpl := (sortP_perm n d l).mem_iff.1 (List.mem_of_getElem? hp)
    obtain ⟨j, hj⟩ := List.mem_iff_getElem?.1 hpl
    have := ordK_at (n := n) (d := d) h l.length (Nat.le_refl _) j p (List.getElem?_eq_some_iff.1 hj).1 hj
    rw [rank_sorted h hp] at this
    rw [this]; simp [hp]
  · rw [List.getElem?_eq_none (by rw [ordK_len]; omega), List.getElem?_eq_none (by rw [List.length_map, sortP_length]; omega)]
theorem timed_sorted (l : List Pt) (n d : Int) : (fieldSorted l n d).2 = timed l n d := by
  unfold fieldSorted timed
  by_cases h : fieldChk l ≠ 0
  · rw [if_pos h, if_pos h]
  · rw [if_neg h, if_neg h]
    by_cases h2 : ratioChk n d ≠ 0
    · rw [if_pos h2]
    · rw [if_neg h2]; simp at h2; simp [h2]
theorem timed_zero {l : List Pt} {n d : Int} (h : timed l n d = 0) : fieldChk l = 0 ∧ ratioChk n d = 0 ∧ fieldSorted l n d = (sortP n d l, 0) := by
  unfold timed at h
  by_cases h1 : fieldChk l = 0
  · rw [if_neg (by simpa using h1)] at h
    refine ⟨h1, h, ?_⟩
    unfold fieldSorted; rw [if_neg (by simpa using h1), if_neg (by simpa using h)]
  · rw [if_pos h1] at h; exact absurd h h1
end Go.Pel

namespace Go.Pel
open Go Go.Tx
/-- the first meeting among the first i points -/
def NxtI (l : List T3) (p : T3) (i : Nat) (is : Bool) (n dd : Int) : Prop :=
  (is = false ∧ ∀ k q, k < i → l[k]? = some q → ¬ p.2.2.1 < q.2.2.1) ∨
  (is = true ∧ (∃ j b m, j < i ∧ l[j]? = some b ∧ p.2.2.1 < b.2.2.1 ∧ mtP (p, b) = some m ∧ m.1 = n ∧ m.2.1 = dd) ∧ ∀ k q m', k < i → l[k]? = some q → p.2.2.1 < q.2.2.1 → mtP (p, q) = some m' → ¬ m'.1 * dd < n * m'.2.1)
theorem NxtI.skip {l : List T3} {p : T3} {i : Nat} {is : Bool} {n dd : Int} (h : NxtI l p i is n dd) {q : T3} (hq : l[i]? = some q) (hs : ¬ p.2.2.1 < q.2.2.1) : NxtI l p (i + 1) is n dd := by
  rcases h with ⟨h1, h2⟩ | ⟨h1, ⟨j, b, m, h3, h4, h5⟩, h6⟩
  · refine .inl ⟨h1, fun k x hk hx => ?_⟩
    rcases (by omega : k < i ∨ k = i) with k' | rfl
    · exact h2 k x k' hx
    · rw [hq] at hx; injection hx with hx; subst hx; exact hs
  · refine .inr ⟨h1, ⟨j, b, m, by omega, h4, h5⟩, fun k x m' hk hx hf hm' => ?_⟩
    rcases (by omega : k < i ∨ k = i) with k' | rfl
    · exact h6 k x m' k' hx hf hm'
    · rw [hq] at hx; injection hx with hx; subst hx; exact absurd hf hs
theorem NxtI.take {l : List T3} (h : FldOk l) {p : T3} (hp : p ∈ l) {i : Nat} {is : Bool} {n dd : Int} (hN : NxtI l p i is n dd) {q : T3} (hq : l[i]? = some q) (hf : p.2.2.1 < q.2.2.1) {m : M4} (hm : mtP (p, q) = some m) (hR : is = false ∨ m.1 * dd < n * m.2.1) : NxtI l p (i + 1) true m.1 m.2.1 := by
  have hpo := h.ok p hp
  have g1 := (mtP_eq (x := (p, q)) hpo (h.ok q (List.mem_of_getElem? hq)) hm).2.1
  have o1 := (ratioChk_zero g1).1
  refine .inr ⟨rfl, ⟨i, q, m, by omega, hq, hf, hm, rfl, rfl⟩, fun k x m' hk hx hfx hm' => ?_⟩
  rcases (by omega : k < i ∨ k = i) with k' | rfl
  · rcases hN with ⟨_, h2⟩ | ⟨h1, ⟨j, b, mb, _, hb, _, hmb, rfl, rfl⟩, h6⟩
    · exact absurd hfx (h2 k x k' hx)
    · rcases hR with hR | hR
      · rw [h1] at hR; cases hR
      · have oX := (ratioChk_zero (mtP_eq (x := (p, x)) hpo (h.ok x (List.mem_of_getElem? hx)) hm').2.1).1
        have oB := (ratioChk_zero (mtP_eq (x := (p, b)) hpo (h.ok b (List.mem_of_getElem? hb)) hmb).2.1).1
        intro k1
        have : m'.1 * mb.2.1 < mb.1 * m'.2.1 := q_lt oX o1 oB k1 (Int.le_of_lt hR)
        exact h6 k x m' k' hx hfx hm' this
  · rw [hq] at hx; injection hx with hx; subst hx
    rw [hm] at hm'; injection hm' with hm'; subst hm'
    omega
theorem NxtI.keep {l : List T3} {p : T3} {i : Nat} {n dd : Int} (hN : NxtI l p i true n dd) {q : T3} (hq : l[i]? = some q) {m : M4} (hm : mtP (p, q) = some m) (hR : ¬ m.1 * dd < n * m.2.1) : NxtI l p (i + 1) true n dd := by
  rcases hN with ⟨h1, _⟩ | ⟨_, ⟨j, b, mb, h3, h4⟩, h6⟩
  · cases h1
  · refine .inr ⟨rfl, ⟨j, b, mb, by omega, h4⟩, fun k x m' hk hx hfx hm' => ?_⟩
    rcases (by omega : k < i ∨ k = i) with k' | rfl
    · exact h6 k x m' k' hx hfx hm'
    · rw [hq] at hx; injection hx with hx; subst hx
      rw [hm] at hm'; injection hm' with hm'; subst hm'
      exact hR
theorem NxtI.no {l : List T3} {p : T3} {n dd : Int} (h : NxtI l p l.length false n dd) : NoFast l p := by
  rcases h with ⟨_, h2⟩ | ⟨h1, _⟩
  · intro q hq
    obtain ⟨k, hk⟩ := List.mem_iff_getElem?.1 hq
    exact h2 k q (List.getElem?_eq_some_iff.1 hk).1 hk
  · cases h1
theorem NxtI.yes {l : List T3} {p : T3} {n dd : Int} (h : NxtI l p l.length true n dd) : Nxt l p n dd := by
  rcases h with ⟨h1, _⟩ | ⟨_, ⟨j, b, m, _, hb, hf, hm, e1, e2⟩, h6⟩
  · cases h1
  · refine ⟨⟨b, List.mem_of_getElem? hb, m, hf, hm, e1, e2⟩, fun q hq m' hf' hm' => ?_⟩
    obtain ⟨k, hk⟩ := List.mem_iff_getElem?.1 hq
    exact h6 k q m' (List.getElem?_eq_some_iff.1 hk).1 hk hf' hm'
end Go.Pel
namespace Go.Proofs.Ytdpnndpbbdhnmaa
open Go Go.Tx Go.Pel
theorem ordered_at (d : Nat) {l : List T3} (hl : l ≠ []) (h : FldOk l) (h0 : fieldChk (ptsL l) = 0) {n dd : Int} (hn : i64B n = true) (hd : i64B dd = true) (hr : ratioChk n dd = 0) : ∃ r, F_ref03_Ordered d ((l, ()), (n, dd, ()), ()) = some (unI ((ldT l n dd).1 :: r)) := by
  obtain ⟨r, hr0⟩ := ldT_id hl n dd
  refine ⟨r, ?_⟩
  have hl64 := h.len
  rw [F_ref03_Ordered_eq _ _ (by
    unfold ref03_Ordered_if
    simp only [Bool.and_eq_true, decide_eq_true_eq, List.all_eq_true]
    refine ⟨by rw [ptsL_len]; omega, fun P hP Q hQ => ?_⟩
    obtain ⟨p, hp, rfl⟩ := pts_mem hP
    obtain ⟨q, hq, rfl⟩ := pts_mem hQ
    exact cmpInB_of (cmpIn_of (p := ofP q) (q := ofP p) (h.ok q hq) (h.ok p hp) hr (i64B_iff hn) (i64B_iff hd)))]
  show some (unI (ordK (ptsL l) n dd (ptsL l).length)) = _
  rw [ordK_sorted (fieldChk_zero h0).2.2, ordI_eq (fieldChk_zero h0).2.2 (ratioChk_zero hr).1, hr0]
/-- a list of leads that the laws pass over -/
def greatC (n : Nat) : Bool := (decide (40 < n) && decide (n ≤ 300)) || decide (310 < n)
theorem greatC_le {n : Nat} (h : greatC n = false) : n ≤ 310 := by
  unfold greatC at h
  simp only [Bool.or_eq_false_iff, decide_eq_false_iff_not] at h
  omega
end Go.Proofs.Ytdpnndpbbdhnmaa
