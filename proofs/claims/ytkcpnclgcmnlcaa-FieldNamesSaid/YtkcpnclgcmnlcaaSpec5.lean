/- The reference's order is the sorted one. -/
import Derived.Test.YtkcpnclgcmnlcaaRef6
set_option linter.unusedSimpArgs false
set_option linter.unusedVariables false
namespace Go.Pel
open Go Go.RowKit
theorem ids_nodup {l : List Pt} (h : incB l = true) : (l.map Pt.id).Nodup := by
  unfold List.Nodup
  rw [List.pairwise_iff_getElem]
  intro i j hi hj hij
  simp only [List.length_map] at hi hj
  have := inc_lt h hij (List.getElem?_eq_getElem hi) (List.getElem?_eq_getElem hj)
  simp; omega
theorem rank_sorted {l : List Pt} {n d : Int} (h : incB l = true) {i : Nat} {p : Pt} (hp : (sortP n d l)[i]? = some p) : rankR l p n d = i := by
  have hi := idsApart_inc h
  have hpm := sortP_perm n d l
  have hpw := sortP_pairwise (n := n) (d := d) hi (ids_nodup h)
  have e1 : rankR l p n d = rankR (sortP n d l) p n d := ((hpm.filter _).length_eq).symm
  rw [e1]
  have hmem : ∀ a ∈ sortP n d l, a ∈ l := fun a ha => hpm.mem_iff.1 ha
  generalize sortP n d l = s at *
  obtain ⟨hlt, he⟩ := List.getElem?_eq_some_iff.1 hp
  have hsp : s = s.take i ++ p :: s.drop (i + 1) := by
    rw [← he, ← List.drop_eq_getElem_cons hlt, List.take_append_drop]
  have hpl : p ∈ l := hmem p (List.mem_of_getElem? hp)
  have hlen : (s.take i).length = i := by rw [List.length_take]; omega
  rw [hsp] at hpw hmem
  obtain ⟨_, h2, h3⟩ := List.pairwise_append.1 hpw
  rw [List.pairwise_cons] at h2
  have f1 : (s.take i).filter (fun q => (q.id != p.id) && leads q p n d) = s.take i := by
    rw [List.filter_eq_self]
    intro a ha
    have hl := h3 a ha p (by simp)
    have hne : a.id ≠ p.id := by
      intro e
      have hap : a = p := hi a (hmem a (by simp [ha])) p hpl e
      subst hap
      rw [leads_iff] at hl
      omega
    simp [hl, hne]
  have f2 : (p :: s.drop (i + 1)).filter (fun q => (q.id != p.id) && leads q p n d) = [] := by
    rw [List.filter_eq_nil_iff]
    intro a ha
    rcases List.mem_cons.1 ha with rfl | ha
    · simp
    · have hl := h2.1 a ha
      have : leads a p n d = false := by
        rw [← Bool.not_eq_true, leads_iff]
        rw [leads_iff] at hl
        omega
      simp [this]
  unfold rankR
  rw [hsp, List.filter_append, f1, f2, List.append_nil, hlen]
theorem rank_inj {l : List Pt} {n d : Int} (h : incB l = true) {p q : Pt} (hp : p ∈ l) (hq : q ∈ l) (hr : rankR l p n d = rankR l q n d) : p = q := by
  obtain ⟨i, hi⟩ := List.mem_iff_getElem?.1 ((sortP_perm n d l).mem_iff.2 hp)
  obtain ⟨j, hj⟩ := List.mem_iff_getElem?.1 ((sortP_perm n d l).mem_iff.2 hq)
  rw [rank_sorted h hi, rank_sorted h hj] at hr
  subst hr
  rw [hi] at hj; exact Option.some.inj hj
theorem ordK_at {l : List Pt} {n d : Int} (h : incB l = true) : ∀ (k : Nat), k ≤ l.length → ∀ (j : Nat) (p : Pt), j < k → l[j]? = some p → (ordK l n d k)[rankR l p n d]? = some p.id := by
  intro k
  induction k with
  | zero => intro _ j p hj; omega
  | succ k ih =>
    intro hk j p hj hp
    obtain ⟨q, hq⟩ : ∃ q, l[k]? = some q := ⟨_, List.getElem?_eq_getElem (by omega)⟩
    rw [ordK_step hq]
    have hql := rankR_lt (List.mem_of_getElem? hq) n d
    by_cases hjk : j = k
    · subst hjk
      rw [hp] at hq; obtain rfl := Option.some.inj hq
      rw [List.getElem?_set_self (by rw [ordK_len]; exact hql)]
    · have hne : rankR l q n d ≠ rankR l p n d := by
        intro e
        have e1 := rank_inj h (List.mem_of_getElem? hq) (List.mem_of_getElem? hp) e
        subst e1
        have := inc_lt h (show j < k by omega) hp hq
        omega
      rw [List.getElem?_set_ne hne]
      exact ih (by omega) j p (by omega) hp
theorem ordK_sorted {l : List Pt} {n d : Int} (h : incB l = true) : ordK l n d l.length = (sortP n d l).map Pt.id := by
  apply List.ext_getElem?
  intro i
  by_cases hi : i < l.length
  · obtain ⟨p, hp⟩ : ∃ p, (sortP n d l)[i]? = some p := ⟨_, List.getElem?_eq_getElem (by rw [sortP_length]; exact hi)⟩
    have hpl := (sortP_perm n d l).mem_iff.1 (List.mem_of_getElem? hp)
    obtain ⟨j, hj⟩ := List.mem_iff_getElem?.1 hpl
    have := ordK_at (n := n) (d := d) h l.length (Nat.le_refl _) j p (List.getElem?_eq_some_iff.1 hj).1 hj
    rw [rank_sorted h hp] at this
    rw [this]; simp [hp]
  · rw [List.getElem?_eq_none (by rw [ordK_len]; omega), List.getElem?_eq_none (by rw [List.length_map, sortP_length]; omega)]
theorem timed_sorted (l : List Pt) (n d : Int) : (fieldSorted l n d).2 = timed l n d := by
  unfold fieldSorted timed
  by_cases h : fieldChk l ≠ 0
  · rw [if_pos h, if_pos h]
  · rw [if_neg h, if_neg h]
    by_cases h2 : ratioChk n d ≠ 0
    · rw [if_pos h2]
    · rw [if_neg h2]; simp at h2; simp [h2]
theorem timed_zero {l : List Pt} {n d : Int} (h : timed l n d = 0) : fieldChk l = 0 ∧ ratioChk n d = 0 ∧ fieldSorted l n d = (sortP n d l, 0) := by
  unfold timed at h
  by_cases h1 : fieldChk l = 0
  · rw [if_neg (by simpa using h1)] at h
    refine ⟨h1, h, ?_⟩
    unfold fieldSorted; rw [if_neg (by simpa using h1), if_neg (by simpa using h)]
  · rw [if_pos h1] at h; exact absurd h h1
end Go.Pel
