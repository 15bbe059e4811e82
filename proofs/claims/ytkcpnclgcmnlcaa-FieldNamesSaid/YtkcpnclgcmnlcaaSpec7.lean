/- What is not valid gives its error, whatever is asked; the field with the IDs 0, 2, 4 .. -/
import Derived.Test.YtkcpnclgcmnlcaaSpec6
set_option linter.unusedSimpArgs false
set_option linter.unusedVariables false
namespace Go.Pel
open Go Go.RowKit
section
variable {l : List Pt} {v : Int} (h : fieldChk l = v) (hv : v ≠ 0)
include h hv
theorem bad_find (id : Int) : fieldFind l id = (Pt.zero, v) := by unfold fieldFind; rw [h, if_pos hv]
theorem bad_put (p : Pt) : fieldPut l p = ([], v) := by unfold fieldPut; rw [h, if_pos hv]
theorem bad_take (id : Int) : fieldTake l id = ([], v) := by unfold fieldTake; rw [h, if_pos hv]
theorem bad_change (p : Pt) : fieldChange l p = ([], v) := by unfold fieldChange; rw [h, if_pos hv]
theorem bad_sorted (n d : Int) : fieldSorted l n d = ([], v) := by unfold fieldSorted; rw [h, if_pos hv]
theorem bad_leader (n d : Int) : fieldLeader l n d = (0, v) := by unfold fieldLeader; rw [bad_sorted h hv]; exact if_pos hv
theorem bad_order (n d : Int) : fieldOrder l n d = ([], v) := by unfold fieldOrder; rw [bad_sorted h hv]; exact if_pos hv
theorem bad_rank (id n d : Int) : fieldRank l id n d = (0, v) := by unfold fieldRank; rw [bad_order h hv]; exact if_pos hv
end
section
variable {l : List Pt} (h : fieldChk l = 0) {n d v : Int} (hr : ratioChk n d = v) (hv : v ≠ 0)
include h hr hv
theorem badt_sorted : fieldSorted l n d = ([], v) := by unfold fieldSorted; rw [h, if_neg (fun h => h rfl), hr, if_pos hv]
theorem badt_leader : fieldLeader l n d = (0, v) := by unfold fieldLeader; rw [badt_sorted h hr hv]; exact if_pos hv
theorem badt_order : fieldOrder l n d = ([], v) := by unfold fieldOrder; rw [badt_sorted h hr hv]; exact if_pos hv
theorem badt_rank (id : Int) : fieldRank l id n d = (0, v) := by unfold fieldRank; rw [badt_order h hr hv]; exact if_pos hv
end
/-- IDs 0, 2, .. -/
def fullL (n : Nat) : List Pt := (List.range n).map fun (i : Nat) => ⟨2 * (i : Int), 0, 0⟩
theorem full_len (n : Nat) : (fullL n).length = n := by simp [fullL]
theorem full_succ (n : Nat) : fullL (n + 1) = fullL n ++ [⟨2 * n, 0, 0⟩] := by simp [fullL, List.range_succ]
theorem full65 : fieldChk (fullL 65) = 4 := by decide +kernel
theorem full64 : fieldChk (fullL 64) = 0 := by decide +kernel
theorem full_timed : timed (fullL 64) 0 1 = 0 := by unfold timed; rw [full64, if_neg (by decide)]; decide
theorem full_sorted : sortP 0 1 (fullL 64) = fullL 64 := sorted_only (fieldChk_zero full64).2.2 (List.Perm.refl _) (by
  have := (incB_pw _).1 (fieldChk_zero full64).2.2
  have h2 : ∀ p ∈ fullL 64, p.a = 0 ∧ p.b = 0 := by intro p hp; simp [fullL] at hp; obtain ⟨i, _, rfl⟩ := hp; exact ⟨rfl, rfl⟩
  refine List.Pairwise.imp_of_mem ?_ this
  intro p q hp hq hpq
  rw [leads_iff]; unfold worth
  rw [(h2 p hp).1, (h2 q hq).1, (h2 p hp).2, (h2 q hq).2]
  right; simpa using hpq)
theorem full_order : fieldOrder (fullL 64) 0 1 = ((fullL 64).map Pt.id, 0) := by rw [order_ok full_timed, full_sorted]
theorem full_rank : fieldRank (fullL 64) 126 0 1 = (63, 0) := by
  have := rank_at full_timed (i := 63) (p := ⟨126, 0, 0⟩) (by rw [full_sorted]; decide +kernel)
  simpa using this
theorem full_put1 : fieldPut (fullL 64) ⟨65536, 0, 0⟩ = ([], 8) := by unfold fieldPut; rw [full64, if_neg (fun h => h rfl)]; rfl
theorem full_put2 : fieldPut (fullL 64) ⟨2, 0, 0⟩ = ([], 14) := by unfold fieldPut; rw [full64, if_neg (fun h => h rfl)]; decide +kernel
theorem full_put3 : fieldPut (fullL 64) ⟨1, 0, 0⟩ = ([], 18) := by unfold fieldPut; rw [full64, if_neg (fun h => h rfl)]; decide +kernel
theorem full_take : fieldTake (fullL 64) 1 = ([], 6) := take_none full64 (by decide +kernel)
theorem full_change1 : fieldChange (fullL 64) ⟨1, 0, 0⟩ = ([], 6) := by unfold fieldChange; rw [full64, if_neg (fun h => h rfl)]; decide +kernel
theorem full_change2 : fieldChange (fullL 64) ⟨1, 0, -1048577⟩ = ([], 8) := by unfold fieldChange; rw [full64, if_neg (fun h => h rfl)]; decide +kernel
theorem nil_leader0 : fieldLeader [] 0 1 = (0, 42) := by decide +kernel
theorem nil_leader1 : fieldLeader [] 0 0 = (0, 8) := by decide +kernel
theorem nil_order : fieldOrder [] 0 1 = ([], 0) := order_only (s := []) (by decide) (by decide) (by decide)
theorem given_rank3 : fieldRank givenF 3 0 1 = (0, 6) := rank_none (given_timed 0 (by decide)) (by decide)
theorem given_rank4 : fieldRank givenF 3 1 (-1) = (0, 8) := badt_rank given_chk (ratioChk_low (by decide)) (by decide) 3
end Go.Pel
