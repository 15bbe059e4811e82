/- The order of points at a ratio: strict, total, by one number. -/
import Derived.Sort.Statements
import Derived.Shelf.SlSortCmp.Insertion
import Derived.Test.YtkcpnclgcmnlcaaSpec2
set_option linter.unusedSimpArgs false
set_option linter.unusedVariables false
namespace Go.Pel
open Go.Sort Go.Proofs
def worth (p : Pt) (n d : Int) : Int := p.a * d + p.b * n
theorem farD_worth (p q : Pt) (n d : Int) : farD p q n d = worth p n d - worth q n d := by
  unfold farD worth; rw [Int.sub_mul, Int.sub_mul]; omega
theorem leads_iff (p q : Pt) (n d : Int) : leads p q n d = true ↔ worth q n d < worth p n d ∨ (worth q n d = worth p n d ∧ (q.b < p.b ∨ (q.b = p.b ∧ p.id < q.id))) := by
  unfold leads
  rw [farD_worth]
  by_cases h : worth p n d - worth q n d ≠ 0
  · rw [if_pos h]; simp; omega
  · rw [if_neg h]
    by_cases h2 : p.b ≠ q.b
    · rw [if_pos h2]; simp; omega
    · rw [if_neg h2]; simp; omega
def cfP (n d : Int) (p q : Pt) : Int := if p.id = q.id then 0 else if leads p q n d then -1 else 1
theorem ltOf_cfP (n d : Int) (p q : Pt) : ltOf (cfP n d) p q = true ↔ p.id ≠ q.id ∧ leads p q n d = true := by
  unfold ltOf cfP
  by_cases h : p.id = q.id
  · rw [if_pos h]; simp [h]
  · rw [if_neg h]
    by_cases h2 : leads p q n d = true
    · rw [if_pos h2]; simp [h, h2]
    · rw [if_neg h2]; simp [h2]
/-- the comparator at the points of a list whose ids are apart -/
def cfL (n d : Int) (l : List Pt) (x y : {p : Pt // p ∈ l}) : Int := cfP n d x.1 y.1
theorem ltOf_cfL (n d : Int) (l : List Pt) (x y : {p : Pt // p ∈ l}) : ltOf (cfL n d l) x y = true ↔ x.1.id ≠ y.1.id ∧ leads x.1 y.1 n d = true := ltOf_cfP n d x.1 y.1
def IdsApart (l : List Pt) : Prop := ∀ p ∈ l, ∀ q ∈ l, p.id = q.id → p = q
theorem nlt {n d : Int} {p q : Pt} (h : leads p q n d = false) : ¬ (worth q n d < worth p n d ∨ (worth q n d = worth p n d ∧ (q.b < p.b ∨ (q.b = p.b ∧ p.id < q.id)))) := by
  rw [← leads_iff, h]; decide
theorem swo_cfL {n d : Int} {l : List Pt} (hi : IdsApart l) : SWO (ltOf (cfL n d l)) := by
  have F : ∀ x y, ltOf (cfL n d l) x y = false ↔ (x = y ∨ (x.1.id ≠ y.1.id ∧ leads x.1 y.1 n d = false)) := by
    intro x y
    rw [← Bool.not_eq_true, ltOf_cfL]
    constructor
    · intro h
      by_cases he : x.1.id = y.1.id
      · exact .inl (Subtype.ext (hi _ x.2 _ y.2 he))
      · exact .inr ⟨he, by simpa [he] using h⟩
    · rintro (rfl | ⟨h1, h2⟩)
      · simp
      · simp [h2]
  constructor
  · intro x; exact (F x x).2 (.inl rfl)
  · intro x y z h1 h2
    rw [ltOf_cfL, leads_iff] at h1 h2 ⊢
    refine ⟨?_, by omega⟩
    intro h
    obtain rfl : x = z := Subtype.ext (hi _ x.2 _ z.2 h)
    omega
  · intro x y z h1 h2
    rw [F] at h1 h2 ⊢
    rcases h1 with rfl | ⟨h1, k1⟩
    · exact h2
    rcases h2 with rfl | ⟨h2, k2⟩
    · exact .inr ⟨h1, k1⟩
    have k1 := nlt k1
    have k2 := nlt k2
    by_cases hne : x.1.id = z.1.id
    · exact .inl (Subtype.ext (hi _ x.2 _ z.2 hne))
    refine .inr ⟨hne, ?_⟩
    rw [← Bool.not_eq_true, leads_iff]
    omega
theorem tot_cfL {n d : Int} {l : List Pt} (hi : IdsApart l) (x y : {p : Pt // p ∈ l}) (h1 : ltOf (cfL n d l) x y = false) (h2 : ltOf (cfL n d l) y x = false) : x = y := by
  rw [← Bool.not_eq_true, ltOf_cfL] at h1 h2
  by_cases he : x.1.id = y.1.id
  · exact Subtype.ext (hi _ x.2 _ y.2 he)
  · exfalso
    have h1' : leads x.1 y.1 n d = false := by simpa [he] using h1
    have h2' : leads y.1 x.1 n d = false := by simpa [Ne.symm he] using h2
    have := nlt h1'
    have := nlt h2'
    omega
/-- the list sorted by who leads -/
def sortP (n d : Int) (l : List Pt) : List Pt := ((l.attach.mergeSort fun x y => !(ltOf (cfL n d l)) y x)).map Subtype.val
theorem sortP_perm (n d : Int) (l : List Pt) : (sortP n d l).Perm l := by
  unfold sortP
  have := (List.mergeSort_perm l.attach (fun x y => !(ltOf (cfL n d l)) y x)).map Subtype.val
  simpa [List.attach_map_subtype_val] using this
theorem sortP_length (n d : Int) (l : List Pt) : (sortP n d l).length = l.length := (sortP_perm n d l).length_eq
theorem sortP_pairwise {n d : Int} {l : List Pt} (hi : IdsApart l) (hn : (l.map Pt.id).Nodup) : (sortP n d l).Pairwise fun p q => leads p q n d = true := by
  have hO := swo_cfL (n := n) (d := d) hi
  have h1 : (l.attach.mergeSort fun x y => !(ltOf (cfL n d l)) y x).Pairwise fun x y => (!(ltOf (cfL n d l)) y x) = true := by
    apply List.pairwise_mergeSort
    · intro a b c h1 h2
      simp only [Bool.not_eq_true', ] at h1 h2 ⊢
      exact hO.ntrans _ _ _ h2 h1
    · intro a b
      simp only [Bool.or_eq_true, Bool.not_eq_true']
      by_cases h : ltOf (cfL n d l) b a = true
      · right
        rcases hq : ltOf (cfL n d l) a b with _ | _
        · rfl
        · have := hO.trans _ _ _ h hq; rw [hO.irrefl] at this; exact absurd this (by decide)
      · left; simpa using h
  have h2 : (sortP n d l).Pairwise fun p q => p.id ≠ q.id := by
    have := ((sortP_perm n d l).map Pt.id).nodup_iff.2 hn
    exact List.pairwise_map.1 this
  have h3 : (sortP n d l).Pairwise fun p q => ¬ (q.id ≠ p.id ∧ leads q p n d = true) := by
    unfold sortP
    rw [List.pairwise_map]
    refine h1.imp ?_
    intro a b h
    rw [← ltOf_cfL]
    simpa using h
  refine (h2.and h3).imp ?_
  rintro p q ⟨h, h'⟩
  have h4 : leads q p n d = false := by simpa [Ne.symm h] using h'
  have := nlt h4
  rw [leads_iff]
  omega
end Go.Pel
