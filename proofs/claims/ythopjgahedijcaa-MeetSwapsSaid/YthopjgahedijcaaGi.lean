/- Walks of the references; the orders agree; examples. -/
import Derived.Shelf.Spec.BitsCarry
import Derived.Test.YthopjgahedijcaaGh
set_option linter.unusedSimpArgs false
set_option linter.unusedVariables false
namespace Go.Pel
open Go Go.Tx
/-- a test of a value that may be missing -/
def anyO {β : Type} (P : β → Bool) : Option β → Bool
  | some m => P m
  | none => false
theorem mk_mul {n d : Int} (hd : d ≠ 0) (hn : n.natAbs ≤ 4194304) (hd2 : d.natAbs ≤ 4194304) : (mk n d).1 * d = n * (mk n d).2.1 := by
  have hg := mk_gcd_pos (n := n) hd
  rw [mk_some hd]
  have b1 : n.natAbs / Nat.gcd n.natAbs d.natAbs ≤ n.natAbs := Nat.div_le_self _ _
  have b2 : d.natAbs / Nat.gcd n.natAbs d.natAbs ≤ d.natAbs := Nat.div_le_self _ _
  have e1 : Nat.gcd n.natAbs d.natAbs * (n.natAbs / Nat.gcd n.natAbs d.natAbs) = n.natAbs := Nat.mul_div_cancel' (Nat.gcd_dvd_left _ _)
  have e2 : Nat.gcd n.natAbs d.natAbs * (d.natAbs / Nat.gcd n.natAbs d.natAbs) = d.natAbs := Nat.mul_div_cancel' (Nat.gcd_dvd_right _ _)
  have e3 := (fun (G A B N D : Nat) (k1 : G * A = N) (k2 : G * B = D) => (by subst k1 k2; rw [Nat.mul_left_comm, Nat.mul_assoc] : A * D = N * B)) _ _ _ _ _ e1 e2
  generalize n.natAbs / Nat.gcd n.natAbs d.natAbs = A at *
  generalize d.natAbs / Nat.gcd n.natAbs d.natAbs = B at *
  have e4 : (A : Int) * (d.natAbs : Int) = (n.natAbs : Int) * (B : Int) := by exact_mod_cast e3
  have hno : ¬ (0 < 0 ∨ 9223372036854775807 < A ∨ 0 < 0 ∨ 9223372036854775807 < B) := by omega
  by_cases h1 : n < 0 <;> by_cases h2 : d < 0
  · rw [show (decide (n < 0) != decide (d < 0)) = false by simp [h1, h2], bld_pos hno]
    rw [show (d.natAbs : Int) = -d by omega, show (n.natAbs : Int) = -n by omega, Int.mul_neg, Int.neg_mul] at e4
    show (A : Int) * d = n * (B : Int)
    omega
  · rw [show (decide (n < 0) != decide (d < 0)) = true by simp [h1, h2], bld_neg hno]
    rw [show (d.natAbs : Int) = d by omega, show (n.natAbs : Int) = -n by omega, Int.neg_mul] at e4
    show -(A : Int) * d = n * (B : Int)
    rw [Int.neg_mul]; omega
  · rw [show (decide (n < 0) != decide (d < 0)) = true by simp [h1, h2], bld_neg hno]
    rw [show (d.natAbs : Int) = -d by omega, show (n.natAbs : Int) = n by omega, Int.mul_neg] at e4
    show -(A : Int) * d = n * (B : Int)
    rw [Int.neg_mul]; omega
  · rw [show (decide (n < 0) != decide (d < 0)) = false by simp [h1, h2], bld_pos hno]
    rw [show (d.natAbs : Int) = d by omega, show (n.natAbs : Int) = n by omega] at e4
    exact e4
theorem sg_pos {F D B X : Int} (hD : 0 < D) (hB : 0 < B) (h : F * D = B * X) : (0 < F ↔ 0 < X) ∧ (F = 0 ↔ X = 0) := by
  have f : (0 < F ∧ 0 < F * D) ∨ (F = 0 ∧ F * D = 0) ∨ (F < 0 ∧ F * D < 0) := by
    rcases (by omega : 0 < F ∨ F = 0 ∨ F < 0) with k | k | k
    · exact .inl ⟨k, Int.mul_pos k hD⟩
    · exact .inr (.inl ⟨k, by rw [k, Int.zero_mul]⟩)
    · exact .inr (.inr ⟨k, Int.mul_neg_of_neg_of_pos k hD⟩)
  have g : (0 < X ∧ 0 < B * X) ∨ (X = 0 ∧ B * X = 0) ∨ (X < 0 ∧ B * X < 0) := by
    rcases (by omega : 0 < X ∨ X = 0 ∨ X < 0) with k | k | k
    · exact .inl ⟨k, Int.mul_pos hB k⟩
    · exact .inr (.inl ⟨k, by rw [k, Int.mul_zero]⟩)
    · exact .inr (.inr ⟨k, Int.mul_neg_of_pos_of_neg hB k⟩)
  generalize F * D = U at *
  generalize B * X = V at *
  omega
theorem sg_neg {F D B X : Int} (hD : 0 < D) (hB : B < 0) (h : F * D = B * X) : (0 < F ↔ X < 0) ∧ (F = 0 ↔ X = 0) := by
  have := sg_pos (F := F) (B := -B) (X := -X) hD (by omega) (by rw [Int.neg_mul_neg]; exact h)
  omega
theorem leads_sg {p q : Pt} {n d : Int} : leads p q n d = true ↔ 0 < farD p q n d ∨ (farD p q n d = 0 ∧ (q.b < p.b ∨ (p.b = q.b ∧ p.id < q.id))) := by
  unfold leads
  by_cases h : farD p q n d = 0
  · rw [if_neg (by omega)]
    by_cases hb : p.b = q.b
    · rw [if_neg (by omega), decide_eq_true_eq]; omega
    · rw [if_pos hb, decide_eq_true_eq]; omega
  · rw [if_pos h, decide_eq_true_eq]; omega
theorem pt_bd' {p : T3} (h : okP p) : 0 ≤ p.1 ∧ p.1 ≤ 65535 ∧ -1048576 ≤ p.2.1 ∧ p.2.1 ≤ 1048576 ∧ -1048576 ≤ p.2.2.1 ∧ p.2.2.1 ≤ 1048576 := pointChk_zero (show pointChk p.1 p.2.1 p.2.2.1 = 0 from h)
/-- a meeting is a time at which both are at the same place -/
theorem mtP_eq {x : T3 × T3} (hp : okP x.1) (hq : okP x.2) {m : M4} (h : mtP x = some m) : x.1.2.2.1 ≠ x.2.2.2.1 ∧ okM m ∧ m.1.natAbs ≤ 4194304 ∧ m.2.1 ≤ 4194304 ∧ m.2.2.1 = x.1.1 ∧ m.2.2.2.1 = x.2.1 ∧ (x.1.2.1 - x.2.2.1) * m.2.1 + (x.1.2.2.1 - x.2.2.2.1) * m.1 = 0 := by
  obtain ⟨_, _, a1, a2, a3, a4⟩ := pt_bd' hp
  obtain ⟨_, _, b1, b2, b3, b4⟩ := pt_bd' hq
  unfold mtP at h
  by_cases hb : x.1.2.2.1 = x.2.2.2.1
  · rw [if_pos hb] at h; cases h
  · rw [if_neg hb] at h
    injection h with h
    subst h
    obtain ⟨_, h2, h3, h4⟩ := mk_ok (n := x.1.2.1 - x.2.2.1) (d := x.2.2.2.1 - x.1.2.2.1) (by omega) (by omega) (by omega)
    have h5 := mk_mul (n := x.1.2.1 - x.2.2.1) (d := x.2.2.2.1 - x.1.2.2.1) (by omega) (by omega) (by omega)
    refine ⟨hb, h2, h3, h4, rfl, rfl, ?_⟩
    show (x.1.2.1 - x.2.2.1) * (mk (x.1.2.1 - x.2.2.1) (x.2.2.2.1 - x.1.2.2.1)).2.1 + (x.1.2.2.1 - x.2.2.2.1) * (mk (x.1.2.1 - x.2.2.1) (x.2.2.2.1 - x.1.2.2.1)).1 = 0
    rw [← h5, Int.mul_comm (x.1.2.2.1 - x.2.2.2.1), ← Int.mul_add, show x.2.2.2.1 - x.1.2.2.1 + (x.1.2.2.1 - x.2.2.2.1) = 0 by omega, Int.mul_zero]
theorem leads_mt {x : T3 × T3} (hp : okP x.1) (hq : okP x.2) {m : M4} (h : mtP x = some m) {n dd : Int} : leads (ofP x.1) (ofP x.2) n dd = (if x.2.2.2.1 < x.1.2.2.1 then !gtM n dd m else gtM n dd m) := by
  obtain ⟨hb, hm, _, _, _, _, e⟩ := mtP_eq hp hq h
  have hD := (ratioChk_zero hm).1
  have key : farD (ofP x.1) (ofP x.2) n dd * m.2.1 = (x.1.2.2.1 - x.2.2.2.1) * (n * m.2.1 - m.1 * dd) := by
    show ((x.1.2.1 - x.2.2.1) * dd + (x.1.2.2.1 - x.2.2.2.1) * n) * m.2.1 = _
    rw [Int.add_mul, Int.mul_sub, Int.mul_right_comm (x.1.2.1 - x.2.2.1), show (x.1.2.1 - x.2.2.1) * m.2.1 = -((x.1.2.2.1 - x.2.2.2.1) * m.1) by omega, Int.neg_mul, Int.mul_assoc, Int.mul_assoc]
    omega
  have hg := gtM_iff n dd m
  have hl := leads_sg (p := ofP x.1) (q := ofP x.2) (n := n) (d := dd)
  have hbb : (ofP x.2).b < (ofP x.1).b ↔ x.2.2.2.1 < x.1.2.2.1 := Iff.rfl
  have hbe : (ofP x.1).b = (ofP x.2).b ↔ x.1.2.2.1 = x.2.2.2.1 := Iff.rfl
  by_cases hlt : x.2.2.2.1 < x.1.2.2.1
  · obtain ⟨s1, s2⟩ := sg_pos (by omega : 0 < m.2.1) (by omega : 0 < x.1.2.2.1 - x.2.2.2.1) key
    rw [if_pos hlt]
    cases h1 : gtM n dd m with
    | true =>
      rw [h1] at hg
      have := hg.1 rfl
      cases h2 : leads (ofP x.1) (ofP x.2) n dd with
      | false => rfl
      | true => rw [h2] at hl; have := hl.1 rfl; omega
    | false =>
      rw [h1] at hg
      have : ¬ n * m.2.1 < m.1 * dd := fun k => by cases hg.2 k
      exact hl.2 (by omega)
  · obtain ⟨s1, s2⟩ := sg_neg (by omega : 0 < m.2.1) (by omega : x.1.2.2.1 - x.2.2.2.1 < 0) key
    rw [if_neg hlt]
    cases h1 : gtM n dd m with
    | true =>
      rw [h1] at hg
      have := hg.1 rfl
      exact hl.2 (by omega)
    | false =>
      rw [h1] at hg
      have : ¬ n * m.2.1 < m.1 * dd := fun k => by cases hg.2 k
      cases h2 : leads (ofP x.1) (ofP x.2) n dd with
      | false => rfl
      | true => rw [h2] at hl; have := hl.1 rfl; omega
theorem leads_same {p q : T3} (hb : p.2.2.1 = q.2.2.1) {n dd n' dd' : Int} (hd : 1 ≤ dd) (hd' : 1 ≤ dd') : leads (ofP p) (ofP q) n dd = leads (ofP p) (ofP q) n' dd' := by
  have f : ∀ {n d : Int}, 1 ≤ d → (0 < farD (ofP p) (ofP q) n d ↔ 0 < p.2.1 - q.2.1) ∧ (farD (ofP p) (ofP q) n d = 0 ↔ p.2.1 - q.2.1 = 0) := fun {n d} h => by
    have e : farD (ofP p) (ofP q) n d = (p.2.1 - q.2.1) * d := by
      show (p.2.1 - q.2.1) * d + (p.2.2.1 - q.2.2.1) * n = _
      rw [hb, Int.sub_self, Int.zero_mul, Int.add_zero]
    have := sg_pos (F := p.2.1 - q.2.1) (D := d) (B := 1) (X := farD (ofP p) (ofP q) n d) (by omega) (by omega) (by rw [e, Int.one_mul])
    omega
  obtain ⟨f1, f2⟩ := f (n := n) hd
  obtain ⟨g1, g2⟩ := f (n := n') hd'
  rw [Bool.eq_iff_iff, leads_sg, leads_sg]
  have hbb : (ofP p).b = (ofP q).b := hb
  omega
/-- a pair is swapped between two times if it meets between them -/
theorem swP_eq {x : T3 × T3} (hp : okP x.1) (hq : okP x.2) {n dd n' dd' : Int} (hd : 1 ≤ dd) (hd' : 1 ≤ dd') (hle : leQ n dd n' dd') : (!(leads (ofP x.1) (ofP x.2) n dd == leads (ofP x.1) (ofP x.2) n' dd')) = anyO (inM n dd n' dd') (mtP x) := by
  cases h : mtP x with
  | none =>
    have hb : x.1.2.2.1 = x.2.2.2.1 := by
      unfold mtP at h
      by_cases hb : x.1.2.2.1 = x.2.2.2.1
      · exact hb
      · rw [if_neg hb] at h; cases h
    rw [leads_same hb hd hd', beq_self_eq_true]; rfl
  | some m =>
    have hm := (mtP_eq hp hq h).2.1
    rw [leads_mt hp hq h, leads_mt hp hq h]
    show _ = (gtM n dd m && !gtM n' dd' m)
    have hi : gtM n' dd' m = true → gtM n dd m = true := gtM_le hd hd' hle hm
    by_cases hlt : x.2.2.2.1 < x.1.2.2.1
    · rw [if_pos hlt, if_pos hlt]
      cases h1 : gtM n dd m <;> cases h2 : gtM n' dd' m
      · rfl
      · rw [hi h2] at h1; cases h1
      · rfl
      · rfl
    · rw [if_neg hlt, if_neg hlt]
      cases h1 : gtM n dd m <;> cases h2 : gtM n' dd' m
      · rfl
      · rw [hi h2] at h1; cases h1
      · rfl
      · rfl
theorem countP_fm {α β : Type} {f : α → Option β} {P : β → Bool} : ∀ l : List α, (l.filterMap f).countP P = l.countP (fun x => anyO P (f x))
  | [] => rfl
  | a :: l => by
    rw [List.filterMap_cons, List.countP_cons, ← countP_fm l]
    cases h : f a with
    | none => simp [anyO]
    | some b => rw [List.countP_cons]; rfl
theorem pairsL_idx {α : Type} : ∀ {l : List α} {x : α × α}, x ∈ pairsL l → ∃ i j : Nat, i < j ∧ l[i]? = some x.1 ∧ l[j]? = some x.2
  | [], x, h => by cases h
  | p :: r, x, h => by
    rw [pairsL, List.mem_append, List.mem_map] at h
    rcases h with ⟨q, hq, rfl⟩ | h
    · obtain ⟨j, hj, rfl⟩ := List.mem_iff_getElem.1 hq
      exact ⟨0, j + 1, by omega, rfl, by simp⟩
    · obtain ⟨i, j, h1, h2, h3⟩ := pairsL_idx h
      exact ⟨i + 1, j + 1, by omega, by simpa using h2, by simpa using h3⟩
theorem pairsL_ids : ∀ {l : List T3}, (l.Pairwise fun p q => p.1 < q.1) → (pairsL l).Pairwise fun x y => x.1.1 ≠ y.1.1 ∨ x.2.1 ≠ y.2.1
  | [], _ => List.Pairwise.nil
  | p :: r, h => by
    obtain ⟨h1, h2⟩ := List.pairwise_cons.1 h
    rw [pairsL, List.pairwise_append]
    refine ⟨?_, pairsL_ids h2, ?_⟩
    · rw [List.pairwise_map]
      exact h2.imp fun {a b} hab => .inr (by show a.1 ≠ b.1; omega)
    · intro a ha b hb
      obtain ⟨q, hq, rfl⟩ := List.mem_map.1 ha
      have := h1 _ (pairsL_mem hb h2).1
      exact .inl (by show p.1 ≠ b.1.1; omega)
theorem allM_strict {l : List T3} (h : FldOk l) : (allM l).Pairwise fun a b => ltM a b = true := by
  have hn : (meetsL l).Pairwise fun a b => a ≠ b := by
    unfold meetsL
    rw [List.pairwise_filterMap]
    refine ((pairsL_ids h.inc).imp_of_mem fun {a b} ha hb hab => ?_)
    intro m hm m' hm' heq
    subst heq
    obtain ⟨g1, g2, _⟩ := pairsL_mem ha h.inc
    obtain ⟨k1, k2, _⟩ := pairsL_mem hb h.inc
    obtain ⟨_, _, _, _, i1, i2, _⟩ := mtP_eq (h.ok _ g1) (h.ok _ g2) hm
    obtain ⟨_, _, _, _, j1, j2, _⟩ := mtP_eq (h.ok _ k1) (h.ok _ k2) hm'
    omega
  have hn2 : (allM l).Pairwise fun a b => a ≠ b := ((allM_perm l).pairwise_iff (R := fun a b => a ≠ b) (fun {a b} h => Ne.symm h)).2 hn
  refine (List.Pairwise.and_mem.1 ((allM_pw h).and hn2)).imp fun {a b} ⟨ha, hb, h1, h2⟩ => ?_
  cases hab : ltM a b with
  | true => rfl
  | false => exact absurd (ltM_eq (allM_ok h ha).1 (allM_ok h hb).1 hab h1) h2
theorem allM_from {l : List T3} (h : FldOk l) {m : M4} (hm : m ∈ allM l) : ∃ (i j : Nat) (p q : T3), i < j ∧ l[i]? = some p ∧ l[j]? = some q ∧ mtP (p, q) = some m := by
  have := (allM_perm l).mem_iff.1 hm
  unfold meetsL at this
  obtain ⟨x, hx, hxm⟩ := List.mem_filterMap.1 this
  obtain ⟨i, j, h1, h2, h3⟩ := pairsL_idx hx
  exact ⟨i, j, x.1, x.2, h1, h2, h3, hxm⟩
theorem cutM_mem {L : List M4} {n dd n' dd' : Int} (hd : 1 ≤ dd) (hd' : 1 ≤ dd') (hle : leQ n dd n' dd') (hL : ∀ x ∈ L, okM x) (hs : L.Pairwise fun a b => ltM b a = false) {x : M4} (hx : x ∈ cutM L n dd n' dd') : x ∈ L ∧ gtM n dd x = true ∧ gtM n' dd' x = false := by
  rw [← cutM_eq hd hd' hle hL hs, List.mem_filter] at hx
  unfold inM at hx
  simpa using hx
end Go.Pel
namespace Go.Proofs.Ythopjgahedijcaa
open Go Go.Tx Go.Pel
theorem swaps_count {l : List T3} (h : FldOk l) {n dd n' dd' : Int} (hd : 1 ≤ dd) (hd' : 1 ≤ dd') (hle : leQ n dd n' dd') : (pairsL l).countP (swP n dd n' dd') = (cutM (allM l) n dd n' dd').length := by
  rw [← cutM_eq hd hd' hle (fun x hx => (allM_ok h hx).1) (allM_pw h), ← List.countP_eq_length_filter, (allM_perm l).countP_eq]
  unfold meetsL
  rw [countP_fm]
  refine List.countP_congr fun x hx => ?_
  obtain ⟨g1, g2, _⟩ := pairsL_mem hx h.inc
  exact Bool.eq_iff_iff.1 (swP_eq (h.ok _ g1) (h.ok _ g2) hd hd' hle)
end Go.Proofs.Ythopjgahedijcaa

namespace Go.Proofs.Ythopjgahedijcaa
open Go Go.Tx Go.RowKit Go.Pel
theorem vr_quad {η : Emb} {a b c d : Int} {v : Value} (hv : VR η (.agg [.int .i64 a, .int .i64 b, .int .i64 c, .int .i64 d]) v) : v = .agg #[.int .i64 a, .int .i64 b, .int .i64 c, .int .i64 d] := by
  cases hv with
  | agg hl hh =>
    obtain ⟨u1, vs, rfl, h1, h⟩ := VRs.uncons ⟨hl, hh⟩
    obtain ⟨u2, vs, rfl, h2, h⟩ := VRs.uncons h
    obtain ⟨u3, u4, rfl, h3, h4⟩ := vrs2 h
    cases h1; cases h2; cases h3; cases h4; rfl
def sumB (a b c d : Int) : Bool := decide ((-9223372036854775808 ≤ a ∧ a < 9223372036854775808) ∧ (-9223372036854775808 ≤ b ∧ b < 9223372036854775808) ∧ (-9223372036854775808 ≤ c ∧ c < 9223372036854775808) ∧ (-9223372036854775808 ≤ d ∧ d < 9223372036854775808) ∧ (-38685626227668133590597632 ≤ a * b ∧ a * b ≤ 38685626227668133590597632) ∧ (-38685626227668133590597632 ≤ c * d ∧ c * d ≤ 38685626227668133590597632))
theorem sumB_any {a b c d : Int} (h : sumB a b c d = true) (w : World) : Calls Try.prog 50 #[.agg #[.int .i64 a, .int .i64 b, .int .i64 c, .int .i64 d]] w fun e w' => e = .returned (.agg #[.int .i64 ((a * b + c * d) / 18446744073709551616), .int .u64 ((a * b + c * d) % 18446744073709551616)]) ∧ ∃ x, w' = ext w x := by
  obtain ⟨h1, h2, h3, h4, h5, h6⟩ := of_decide_eq_true h
  exact sum_any a b c d w h1 h2 h3 h4 h5 h6
end Go.Proofs.Ythopjgahedijcaa

namespace Go.Proofs.Ythopjgahedijcaa
open Go Go.Tx Go.Pel Go.Proofs.Try
set_option maxRecDepth 100000
set_option maxHeartbeats 0
abbrev course_sum_ps : List Pk := [.row Riiii true]
abbrev course_sum_X : Type := Diiii × Unit
abbrev course_sum_R : Type := Int × Int
def course_sum_enc (r : course_sum_R) : LV × List Ob := (.agg [.int .i64 r.1, .int .u64 r.2], [])
def course_sum_sp (F : course_sum_X → Option course_sum_R) : Go.Tx.Spec := ⟨50, course_sum_ps, course_sum_R, F, course_sum_enc⟩
def course_sum_if (x : course_sum_X) : Bool := sumB x.1.1 x.1.2.1 x.1.2.2.1 x.1.2.2.2.1
def F_course_sum (d : Nat) (x : course_sum_X) : Option course_sum_R := bif course_sum_if x then some ((x.1.1 * x.1.2.1 + x.1.2.2.1 * x.1.2.2.2.1) / 18446744073709551616, (x.1.1 * x.1.2.1 + x.1.2.2.1 * x.1.2.2.2.1) % 18446744073709551616) else none
theorem F_course_sum_eq (d : Nat) (x : course_sum_X) (h : course_sum_if x = true) : F_course_sum d x = some ((x.1.1 * x.1.2.1 + x.1.2.2.1 * x.1.2.2.2.1) / 18446744073709551616, (x.1.1 * x.1.2.1 + x.1.2.2.1 * x.1.2.2.2.1) % 18446744073709551616) := by unfold F_course_sum; rw [h]; rfl
theorem course_sum_cok (d : Nat) : COK prog (course_sum_sp (F_course_sum d)) := by
  refine cok_old (body_of (fn := f50) (by kernel_rfl) (by kernel_rfl) (by kernel_rfl)) fun x r hx w φ vs hφ hv => ?_
  have hx : F_course_sum d x = some r := hx
  unfold F_course_sum at hx
  obtain ⟨hc, rfl⟩ := bif_some hx
  have hv : VRs (Emb.fro φ) [.agg [.int .i64 x.1.1, .int .i64 x.1.2.1, .int .i64 x.1.2.2.1, .int .i64 x.1.2.2.2.1]] vs := hv
  obtain ⟨v0, rfl, q0⟩ := vrs1 hv
  have r0 := vr_quad q0; subst r0
  unfold course_sum_if at hc
  have h1 := hc
  refine (sumB_any h1 w).mono ?_
  rintro e w' ⟨rfl, y, rfl⟩
  exact gives_pure hφ (VR.aggL (VRs.cons (.int _ _) (VRs.cons (.int _ _) VRs.nil))) y
end Go.Proofs.Ythopjgahedijcaa

namespace Go.Tx
open Go
def add64V (x y c : Int) : Option (Int × Int) := bif decide (0 ≤ x) && decide (x < 18446744073709551616) && decide (0 ≤ y) && decide (y < 18446744073709551616) && decide (0 ≤ c) && decide (c ≤ 1) then some ((x + y + c) % 18446744073709551616, (x + y + c) / 18446744073709551616) else none
def sub64V (x y c : Int) : Option (Int × Int) := bif decide (0 ≤ x) && decide (x < 18446744073709551616) && decide (0 ≤ y) && decide (y < 18446744073709551616) && decide (0 ≤ c) && decide (c ≤ 1) then some ((x - y - c) % 18446744073709551616, bif decide (x < y + c) then 1 else 0) else none
/-- calls of the function f, which gives two numbers of 64 bits at once -/
def orcI (f : FuncId) (G : Int → Int → Int → Option (Int × Int)) (C : Orc) : Orc := fun h args H =>
  bif Nat.beq h f then (match args with
    | [.int .u64 x, .int .u64 y, .int .u64 c] => some ⟨Int × Int, G x y c, fun r => (.tup [.int .u64 r.1, .int .u64 r.2], H)⟩
    | _ => none) else C h args H
theorem orcI_ok {P : Program} {f : FuncId} {G : Int → Int → Int → Option (Int × Int)} (hG : ∀ x y c r, G x y c = some r → ∀ w, (callFunc f #[.int .u64 x, .int .u64 y, .int .u64 c]).run P w = .ok (.value (.tuple #[.int .u64 r.1, .int .u64 r.2])) w) {C : Orc} (hC : OrcOK P C) : OrcOK P (orcI f G C) := by
  refine ⟨fun h args H p x hp hx => ?_⟩
  unfold orcI at hp
  rw [Bool.cond_eq_ite] at hp
  split at hp
  · rename_i he
    have he := Nat.eq_of_beq_eq_true he
    subst he
    split at hp
    · rename_i x0 y0 c0
      injection hp with hp; subst hp
      refine .inr ⟨rfl, fun η w vs hv => ?_⟩
      obtain ⟨v0, vs', rfl, q0, hv⟩ := hv.uncons
      obtain ⟨v1, v2, rfl, q1, q2⟩ := vrs2 hv
      cases q0; cases q1; cases q2
      exact ⟨_, hG x0 y0 c0 x hx w, .tup rfl (VRs.cons (.int _ _) (VRs.cons (.int _ _) VRs.nil)).2⟩
    · cases hp
  · exact hC.call h args H p x hp hx
theorem add64_nat {x y c : Int} {r : Int × Int} (h : add64V x y c = some r) : ∃ a b d : Nat, x = a ∧ y = b ∧ c = d ∧ a < 18446744073709551616 ∧ b < 18446744073709551616 ∧ d ≤ 1 ∧ r = ((((a + b + d) % 18446744073709551616 : Nat) : Int), (((a + b + d) / 18446744073709551616 : Nat) : Int)) := by
  unfold add64V at h
  rw [Bool.cond_eq_ite] at h
  split at h
  · rename_i hc
    simp only [Bool.and_eq_true, decide_eq_true_eq] at hc
    injection h with h
    refine ⟨x.toNat, y.toNat, c.toNat, by omega, by omega, by omega, by omega, by omega, by omega, ?_⟩
    rw [← h]
    refine Prod.ext ?_ ?_ <;> simp only <;> omega
  · cases h
theorem sub64_nat {x y c : Int} {r : Int × Int} (h : sub64V x y c = some r) : ∃ a b d : Nat, x = a ∧ y = b ∧ c = d ∧ a < 18446744073709551616 ∧ b < 18446744073709551616 ∧ d ≤ 1 ∧ r = ((((a + 18446744073709551616 - b - d) % 18446744073709551616 : Nat) : Int), ((if a < b + d then 1 else 0 : Nat) : Int)) := by
  unfold sub64V at h
  rw [Bool.cond_eq_ite] at h
  split at h
  · rename_i hc
    simp only [Bool.and_eq_true, decide_eq_true_eq] at hc
    injection h with h
    refine ⟨x.toNat, y.toNat, c.toNat, by omega, by omega, by omega, by omega, by omega, by omega, ?_⟩
    rw [← h]
    refine Prod.ext ?_ ?_
    · simp only; omega
    · simp only [Bool.cond_eq_ite, decide_eq_true_eq]
      split <;> split <;> first | rfl | omega
  · cases h
end Go.Tx

namespace Go.Proofs.Ythopjgahedijcaa
open Go Go.Tx Go.Proofs.Try
theorem add64_imm : ∀ x y c r, add64V x y c = some r → ∀ w, (callFunc 73 #[.int .u64 x, .int .u64 y, .int .u64 c]).run Try.prog w = .ok (.value (.tuple #[.int .u64 r.1, .int .u64 r.2])) w := by
  intro x y c r h w
  obtain ⟨a, b, d, rfl, rfl, rfl, ha, hb, hd, rfl⟩ := add64_nat h
  rw [run_callFunc_extern Try.func73 (by kernel_rfl) (by kernel_rfl) (by kernel_rfl) (e := add64Entry) (by kernel_rfl), run_add64 a b d (by omega) (by omega) (by omega) (by omega)]
  simp only [Result.andThen]
  congr 5 <;> omega
theorem sub64_imm : ∀ x y c r, sub64V x y c = some r → ∀ w, (callFunc 51 #[.int .u64 x, .int .u64 y, .int .u64 c]).run Try.prog w = .ok (.value (.tuple #[.int .u64 r.1, .int .u64 r.2])) w := by
  intro x y c r h w
  obtain ⟨a, b, d, rfl, rfl, rfl, ha, hb, hd, rfl⟩ := sub64_nat h
  rw [run_callFunc_extern Try.func51 (by kernel_rfl) (by kernel_rfl) (by kernel_rfl) (e := sub64Entry) (by kernel_rfl), run_sub64 a b d hd]
  rfl
end Go.Proofs.Ythopjgahedijcaa

namespace Go.Proofs.Ythopjgahedijcaa
open Go Go.Tx Go.Proofs.Try
set_option maxRecDepth 100000
set_option maxHeartbeats 0
abbrev math_bits_Len64_ps : List Pk := [.row Ru false]
abbrev math_bits_Len64_X : Type := Du × Unit
abbrev math_bits_Len64_R : Type := Int
def math_bits_Len64_enc (r : math_bits_Len64_R) : LV × List Ob := (.int .i64 r, [])
def math_bits_Len64_sp (F : math_bits_Len64_X → Option math_bits_Len64_R) : Go.Tx.Spec := ⟨84, math_bits_Len64_ps, math_bits_Len64_R, F, math_bits_Len64_enc⟩
abbrev math_bits_Len64_C : Type := Unit
def math_bits_Len64_K (_d : Nat) : math_bits_Len64_C := ()
def math_bits_Len64_tab (C : math_bits_Len64_C) : List Go.Tx.Spec := []
abbrev math_bits_Len64_Y0i : Type := Int
def math_bits_Len64_S0i (v : math_bits_Len64_Y0i) : St := ⟨[(0, .int .u64 v)], []⟩
abbrev math_bits_Len64_Y0 : Type := Int × Int
def math_bits_Len64_S0 (v : math_bits_Len64_Y0) : St := ⟨[(0, .int .u64 v.1), (2, .int .i64 v.2)], []⟩
def math_bits_Len64_r0 (C : math_bits_Len64_C) (v : math_bits_Len64_Y0i) : Dt math_bits_Len64_Y0 := (Dt.ret (v, (0:Int)))
theorem math_bits_Len64_g0 (C : math_bits_Len64_C) (v : math_bits_Len64_Y0i) : treg tysT (orc (math_bits_Len64_tab C)) 25 (regO (bodyOf f84) 0) false [(0, .any), (2, .any)] (math_bits_Len64_S0i v) some = (math_bits_Len64_r0 C v).eval fun y => some (math_bits_Len64_S0 y) := by kernel_rfl
abbrev math_bits_Len64_Y1 : Type := Int × Int × Bool
def math_bits_Len64_S1 (v : math_bits_Len64_Y1) : St := ⟨[(0, .int .u64 v.1), (2, .int .i64 v.2.1), (4, .bool v.2.2)], []⟩
def math_bits_Len64_r1 (C : math_bits_Len64_C) (v : math_bits_Len64_Y0) : Dt math_bits_Len64_Y1 := (Dt.ret (v.1, v.2, (decide (v.1 ≥ (4294967296:Int)))))
theorem math_bits_Len64_g1 (C : math_bits_Len64_C) (v : math_bits_Len64_Y0) : treg tysT (orc (math_bits_Len64_tab C)) 25 (regO (bodyOf f84) 1) false [(0, .any), (2, .any), (4, .any)] (math_bits_Len64_S0 v) some = (math_bits_Len64_r1 C v).eval fun y => some (math_bits_Len64_S1 y) := by kernel_rfl
def math_bits_Len64_r2 (C : math_bits_Len64_C) (v : math_bits_Len64_Y1) : Dt math_bits_Len64_Y0i := (Dt.ret (shrI .u64 v.1 (32:Int)))
theorem math_bits_Len64_g2 (C : math_bits_Len64_C) (v : math_bits_Len64_Y1) : treg tysT (orc (math_bits_Len64_tab C)) 25 (regO (bodyOf f84) 2) false [(0, .any)] (math_bits_Len64_S1 v) some = (math_bits_Len64_r2 C v).eval fun y => some (math_bits_Len64_S0i y) := by kernel_rfl
def math_bits_Len64_r3 (C : math_bits_Len64_C) (v : math_bits_Len64_Y0i) : Dt math_bits_Len64_Y0 := (Dt.ret (v, (32:Int)))
theorem math_bits_Len64_g3 (C : math_bits_Len64_C) (v : math_bits_Len64_Y0i) : treg tysT (orc (math_bits_Len64_tab C)) 25 (regO (bodyOf f84) 3) false [(0, .any), (2, .any)] (math_bits_Len64_S0i v) some = (math_bits_Len64_r3 C v).eval fun y => some (math_bits_Len64_S0 y) := by kernel_rfl
abbrev math_bits_Len64_Y4 : Type := Int × Int × Bool
def math_bits_Len64_S4 (v : math_bits_Len64_Y4) : St := ⟨[(0, .int .u64 v.1), (2, .int .i64 v.2.1), (8, .bool v.2.2)], []⟩
def math_bits_Len64_r4 (C : math_bits_Len64_C) (v : math_bits_Len64_Y0) : Dt math_bits_Len64_Y4 := (Dt.ret (v.1, v.2, (decide (v.1 ≥ (65536:Int)))))
theorem math_bits_Len64_g4 (C : math_bits_Len64_C) (v : math_bits_Len64_Y0) : treg tysT (orc (math_bits_Len64_tab C)) 25 (regO (bodyOf f84) 4) false [(0, .any), (2, .any), (8, .any)] (math_bits_Len64_S0 v) some = (math_bits_Len64_r4 C v).eval fun y => some (math_bits_Len64_S4 y) := by kernel_rfl
def math_bits_Len64_r5 (C : math_bits_Len64_C) (v : math_bits_Len64_Y4) : Dt math_bits_Len64_Y0 := (Dt.ret ((shrI .u64 v.1 (16:Int)), v.2.1))
theorem math_bits_Len64_g5 (C : math_bits_Len64_C) (v : math_bits_Len64_Y4) : treg tysT (orc (math_bits_Len64_tab C)) 25 (regO (bodyOf f84) 5) false [(0, .any), (2, .any)] (math_bits_Len64_S4 v) some = (math_bits_Len64_r5 C v).eval fun y => some (math_bits_Len64_S0 y) := by kernel_rfl
def math_bits_Len64_r6 (C : math_bits_Len64_C) (v : math_bits_Len64_Y0) : Dt math_bits_Len64_Y0 := (Dt.ret (v.1, (IntKind.wrap .i64 (v.2 + (16:Int)))))
theorem math_bits_Len64_g6 (C : math_bits_Len64_C) (v : math_bits_Len64_Y0) : treg tysT (orc (math_bits_Len64_tab C)) 25 (regO (bodyOf f84) 6) false [(0, .any), (2, .any)] (math_bits_Len64_S0 v) some = (math_bits_Len64_r6 C v).eval fun y => some (math_bits_Len64_S0 y) := by kernel_rfl
abbrev math_bits_Len64_Y7 : Type := Int × Int × Bool
def math_bits_Len64_S7 (v : math_bits_Len64_Y7) : St := ⟨[(0, .int .u64 v.1), (2, .int .i64 v.2.1), (14, .bool v.2.2)], []⟩
def math_bits_Len64_r7 (C : math_bits_Len64_C) (v : math_bits_Len64_Y0) : Dt math_bits_Len64_Y7 := (Dt.ret (v.1, v.2, (decide (v.1 ≥ (256:Int)))))
theorem math_bits_Len64_g7 (C : math_bits_Len64_C) (v : math_bits_Len64_Y0) : treg tysT (orc (math_bits_Len64_tab C)) 25 (regO (bodyOf f84) 7) false [(0, .any), (2, .any), (14, .any)] (math_bits_Len64_S0 v) some = (math_bits_Len64_r7 C v).eval fun y => some (math_bits_Len64_S7 y) := by kernel_rfl
def math_bits_Len64_r8 (C : math_bits_Len64_C) (v : math_bits_Len64_Y7) : Dt math_bits_Len64_Y0 := (Dt.ret ((shrI .u64 v.1 (8:Int)), v.2.1))
theorem math_bits_Len64_g8 (C : math_bits_Len64_C) (v : math_bits_Len64_Y7) : treg tysT (orc (math_bits_Len64_tab C)) 25 (regO (bodyOf f84) 8) false [(0, .any), (2, .any)] (math_bits_Len64_S7 v) some = (math_bits_Len64_r8 C v).eval fun y => some (math_bits_Len64_S0 y) := by kernel_rfl
def math_bits_Len64_r9 (C : math_bits_Len64_C) (v : math_bits_Len64_Y0) : Dt math_bits_Len64_Y0 := (Dt.ret (v.1, (IntKind.wrap .i64 (v.2 + (8:Int)))))
theorem math_bits_Len64_g9 (C : math_bits_Len64_C) (v : math_bits_Len64_Y0) : treg tysT (orc (math_bits_Len64_tab C)) 25 (regO (bodyOf f84) 9) false [(0, .any), (2, .any)] (math_bits_Len64_S0 v) some = (math_bits_Len64_r9 C v).eval fun y => some (math_bits_Len64_S0 y) := by kernel_rfl
abbrev math_bits_Len64_Y10 : Type := Int
def math_bits_Len64_S10 (v : math_bits_Len64_Y10) : St := ⟨[(2, .int .i64 v)], []⟩
def math_bits_Len64_r10 (C : math_bits_Len64_C) (v : math_bits_Len64_Y0) : Dt math_bits_Len64_Y10 := (Dt.ite (strB (⟨#[0, 1, 2, 2, 3, 3, 3, 3, 4, 4, 4, 4, 4, 4, 4, 4, 5, 5, 5, 5, 5, 5, 5, 5, 5, 5, 5, 5, 5, 5, 5, 5, 6, 6, 6, 6, 6, 6, 6, 6, 6, 6, 6, 6, 6, 6, 6, 6, 6, 6, 6, 6, 6, 6, 6, 6, 6, 6, 6, 6, 6, 6, 6, 6, 7, 7, 7, 7, 7, 7, 7, 7, 7, 7, 7, 7, 7, 7, 7, 7, 7, 7, 7, 7, 7, 7, 7, 7, 7, 7, 7, 7, 7, 7, 7, 7, 7, 7, 7, 7, 7, 7, 7, 7, 7, 7, 7, 7, 7, 7, 7, 7, 7, 7, 7, 7, 7, 7, 7, 7, 7, 7, 7, 7, 7, 7, 7, 7, 8, 8, 8, 8, 8, 8, 8, 8, 8, 8, 8, 8, 8, 8, 8, 8, 8, 8, 8, 8, 8, 8, 8, 8, 8, 8, 8, 8, 8, 8, 8, 8, 8, 8, 8, 8, 8, 8, 8, 8, 8, 8, 8, 8, 8, 8, 8, 8, 8, 8, 8, 8, 8, 8, 8, 8, 8, 8, 8, 8, 8, 8, 8, 8, 8, 8, 8, 8, 8, 8, 8, 8, 8, 8, 8, 8, 8, 8, 8, 8, 8, 8, 8, 8, 8, 8, 8, 8, 8, 8, 8, 8, 8, 8, 8, 8, 8, 8, 8, 8, 8, 8, 8, 8, 8, 8, 8, 8, 8, 8, 8, 8, 8, 8, 8, 8, 8, 8, 8, 8, 8, 8, 8, 8, 8, 8, 8, 8]⟩ : ByteArray) ((IntKind.wrap .u8 v.1))) (Dt.ret (IntKind.wrap .i64 (v.2 + (IntKind.wrap .i64 (strAt (⟨#[0, 1, 2, 2, 3, 3, 3, 3, 4, 4, 4, 4, 4, 4, 4, 4, 5, 5, 5, 5, 5, 5, 5, 5, 5, 5, 5, 5, 5, 5, 5, 5, 6, 6, 6, 6, 6, 6, 6, 6, 6, 6, 6, 6, 6, 6, 6, 6, 6, 6, 6, 6, 6, 6, 6, 6, 6, 6, 6, 6, 6, 6, 6, 6, 7, 7, 7, 7, 7, 7, 7, 7, 7, 7, 7, 7, 7, 7, 7, 7, 7, 7, 7, 7, 7, 7, 7, 7, 7, 7, 7, 7, 7, 7, 7, 7, 7, 7, 7, 7, 7, 7, 7, 7, 7, 7, 7, 7, 7, 7, 7, 7, 7, 7, 7, 7, 7, 7, 7, 7, 7, 7, 7, 7, 7, 7, 7, 7, 8, 8, 8, 8, 8, 8, 8, 8, 8, 8, 8, 8, 8, 8, 8, 8, 8, 8, 8, 8, 8, 8, 8, 8, 8, 8, 8, 8, 8, 8, 8, 8, 8, 8, 8, 8, 8, 8, 8, 8, 8, 8, 8, 8, 8, 8, 8, 8, 8, 8, 8, 8, 8, 8, 8, 8, 8, 8, 8, 8, 8, 8, 8, 8, 8, 8, 8, 8, 8, 8, 8, 8, 8, 8, 8, 8, 8, 8, 8, 8, 8, 8, 8, 8, 8, 8, 8, 8, 8, 8, 8, 8, 8, 8, 8, 8, 8, 8, 8, 8, 8, 8, 8, 8, 8, 8, 8, 8, 8, 8, 8, 8, 8, 8, 8, 8, 8, 8, 8, 8, 8, 8, 8, 8, 8, 8, 8, 8]⟩ : ByteArray) ((IntKind.wrap .u8 v.1))))))) Dt.fail)
theorem math_bits_Len64_g10 (C : math_bits_Len64_C) (v : math_bits_Len64_Y0) : treg tysT (orc (math_bits_Len64_tab C)) 25 (regO (bodyOf f84) 10) false [(2, .any)] (math_bits_Len64_S0 v) some = (math_bits_Len64_r10 C v).eval fun y => some (math_bits_Len64_S10 y) := by kernel_rfl
def math_bits_Len64_J3  (d : Nat)  (z : Int × Int) : Option (math_bits_Len64_R) :=
  (math_bits_Len64_r10 (math_bits_Len64_K d) z).eval fun y10 =>
  some y10
def math_bits_Len64_J2  (d : Nat)  (z : Int × Int) : Option (math_bits_Len64_R) :=
  (math_bits_Len64_r7 (math_bits_Len64_K d) z).eval fun y7 =>
  bif y7.2.2 then ((math_bits_Len64_r8 (math_bits_Len64_K d) y7).eval fun y8 =>
  (math_bits_Len64_r9 (math_bits_Len64_K d) y8).eval fun y9 =>
  math_bits_Len64_J3 d  y9) else (math_bits_Len64_J3 d  (y7.1, y7.2.1))
def math_bits_Len64_J1  (d : Nat)  (z : Int × Int) : Option (math_bits_Len64_R) :=
  (math_bits_Len64_r4 (math_bits_Len64_K d) z).eval fun y4 =>
  bif y4.2.2 then ((math_bits_Len64_r5 (math_bits_Len64_K d) y4).eval fun y5 =>
  (math_bits_Len64_r6 (math_bits_Len64_K d) y5).eval fun y6 =>
  math_bits_Len64_J2 d  y6) else (math_bits_Len64_J2 d  (y4.1, y4.2.1))
def F_math_bits_Len64 (d : Nat) (x : math_bits_Len64_X) : Option math_bits_Len64_R :=
  (math_bits_Len64_r0 (math_bits_Len64_K d) x.1.1).eval fun y0 =>
  (math_bits_Len64_r1 (math_bits_Len64_K d) y0).eval fun y1 =>
  bif y1.2.2 then ((math_bits_Len64_r2 (math_bits_Len64_K d) y1).eval fun y2 =>
  (math_bits_Len64_r3 (math_bits_Len64_K d) y2).eval fun y3 =>
  math_bits_Len64_J1 d  y3) else (math_bits_Len64_J1 d  (y1.1, y1.2.1))
theorem math_bits_Len64_cok (d : Nat) : COK prog (math_bits_Len64_sp (F_math_bits_Len64 d)) := by
  have hm : prog.follows .mixedOrders = true := mixed
  have hT := tys
  have hC0 : OrcOK prog (orc (math_bits_Len64_tab (math_bits_Len64_K d))) := orc_ok (by
    intro S hS
    simp only [math_bits_Len64_tab, List.mem_cons, List.not_mem_nil, or_false] at hS
    all_goals first | cases hS | exact hS.elim)
  have hC : OrcOK prog (orc (math_bits_Len64_tab (math_bits_Len64_K d))) := hC0
  refine cok_of (c := bodyOf f84) (fn := f84) hT (by kernel_rfl) (by kernel_rfl) (by decide) fun x r h w0 φ0 Q hend => ?_
  replace h : F_math_bits_Len64 d x = some r := h
  unfold F_math_bits_Len64 at h
  show Run prog w0 φ0 25 (bodyOf f84) ⟨[(0, .int .u64 x.1.1)], []⟩ Q
  refine run_seq ?_
  refine run_reg hm hT hC (math_bits_Len64_g0 (math_bits_Len64_K d) x.1.1) h ?_
  intro y0 h
  refine cn_then ?_
  refine run_join (r := r) (F := math_bits_Len64_J1 d ) (S := (fun z => ⟨[(0, .int .u64 z.1), (2, .int .i64 z.2)], []⟩ : Int × Int → St)) ?_ ?_
  ·
    intro z h
    unfold math_bits_Len64_J1 at h
    refine run_join (r := r) (F := math_bits_Len64_J2 d ) (S := (fun z => ⟨[(0, .int .u64 z.1), (2, .int .i64 z.2)], []⟩ : Int × Int → St)) ?_ ?_
    ·
      intro z h
      unfold math_bits_Len64_J2 at h
      refine run_join (r := r) (F := math_bits_Len64_J3 d ) (S := (fun z => ⟨[(0, .int .u64 z.1), (2, .int .i64 z.2)], []⟩ : Int × Int → St)) ?_ ?_
      ·
        intro z h
        unfold math_bits_Len64_J3 at h
        refine run_seq ?_
        refine run_reg hm hT hC (math_bits_Len64_g10 (math_bits_Len64_K d) z) h ?_
        intro y10 h
        refine cn_then ?_
        refine run_ret ?_
        cases h
        exact (hend _ (by kernel_rfl)).2
      intro hj3
      refine run_seq ?_
      refine run_reg hm hT hC (math_bits_Len64_g7 (math_bits_Len64_K d) z) h ?_
      intro y7 h
      refine cn_then ?_
      refine run_cond (v := y7.2.2) (by kernel_rfl) h ?_ ?_
      ·
        intro h
        refine run_seq ?_
        refine run_reg hm hT hC (math_bits_Len64_g8 (math_bits_Len64_K d) y7) h ?_
        intro y8 h
        refine cn_then ?_
        refine run_reg hm hT hC (math_bits_Len64_g9 (math_bits_Len64_K d) y8) h ?_
        intro y9 h
        exact hj3 _ h
      ·
        intro h
        refine run_skip ?_
        refine cn_num (s := ⟨[(0, .int .u64 y7.1), (2, .int .i64 y7.2.1)], []⟩) [14] (by kernel_rfl) ?_
        exact hj3 _ h
    intro hj2
    refine run_seq ?_
    refine run_reg hm hT hC (math_bits_Len64_g4 (math_bits_Len64_K d) z) h ?_
    intro y4 h
    refine cn_then ?_
    refine run_cond (v := y4.2.2) (by kernel_rfl) h ?_ ?_
    ·
      intro h
      refine run_seq ?_
      refine run_reg hm hT hC (math_bits_Len64_g5 (math_bits_Len64_K d) y4) h ?_
      intro y5 h
      refine cn_then ?_
      refine run_reg hm hT hC (math_bits_Len64_g6 (math_bits_Len64_K d) y5) h ?_
      intro y6 h
      exact hj2 _ h
    ·
      intro h
      refine run_skip ?_
      refine cn_num (s := ⟨[(0, .int .u64 y4.1), (2, .int .i64 y4.2.1)], []⟩) [8] (by kernel_rfl) ?_
      exact hj2 _ h
  intro hj1
  refine run_seq ?_
  refine run_reg hm hT hC (math_bits_Len64_g1 (math_bits_Len64_K d) y0) h ?_
  intro y1 h
  refine cn_then ?_
  refine run_cond (v := y1.2.2) (by kernel_rfl) h ?_ ?_
  ·
    intro h
    refine run_seq ?_
    refine run_reg hm hT hC (math_bits_Len64_g2 (math_bits_Len64_K d) y1) h ?_
    intro y2 h
    refine cn_then ?_
    refine run_reg hm hT hC (math_bits_Len64_g3 (math_bits_Len64_K d) y2) h ?_
    intro y3 h
    exact hj1 _ h
  ·
    intro h
    refine run_skip ?_
    refine cn_num (s := ⟨[(0, .int .u64 y1.1), (2, .int .i64 y1.2.1)], []⟩) [4] (by kernel_rfl) ?_
    exact hj1 _ h
abbrev math_bits_LeadingZeros64_ps : List Pk := [.row Ru false]
abbrev math_bits_LeadingZeros64_X : Type := Du × Unit
abbrev math_bits_LeadingZeros64_R : Type := Int
def math_bits_LeadingZeros64_enc (r : math_bits_LeadingZeros64_R) : LV × List Ob := (.int .i64 r, [])
def math_bits_LeadingZeros64_sp (F : math_bits_LeadingZeros64_X → Option math_bits_LeadingZeros64_R) : Go.Tx.Spec := ⟨74, math_bits_LeadingZeros64_ps, math_bits_LeadingZeros64_R, F, math_bits_LeadingZeros64_enc⟩
abbrev math_bits_LeadingZeros64_C : Type := (math_bits_Len64_X → Option math_bits_Len64_R) × Unit
def math_bits_LeadingZeros64_K (d : Nat) : math_bits_LeadingZeros64_C := (F_math_bits_Len64 d, ())
def math_bits_LeadingZeros64_tab (C : math_bits_LeadingZeros64_C) : List Go.Tx.Spec := [math_bits_Len64_sp C.1]
abbrev math_bits_LeadingZeros64_Y0i : Type := Int
def math_bits_LeadingZeros64_S0i (v : math_bits_LeadingZeros64_Y0i) : St := ⟨[(0, .int .u64 v)], []⟩
def math_bits_LeadingZeros64_r0 (C : math_bits_LeadingZeros64_C) (v : math_bits_LeadingZeros64_Y0i) : Dt math_bits_LeadingZeros64_Y0i := (Dt.ret v)
theorem math_bits_LeadingZeros64_g0 (C : math_bits_LeadingZeros64_C) (v : math_bits_LeadingZeros64_Y0i) : treg tysT (orc (math_bits_LeadingZeros64_tab C)) 6 (regO (bodyOf f74) 0) false [(0, .any)] (math_bits_LeadingZeros64_S0i v) some = (math_bits_LeadingZeros64_r0 C v).eval fun y => some (math_bits_LeadingZeros64_S0i y) := by kernel_rfl
abbrev math_bits_LeadingZeros64_Y1 : Type := Int
def math_bits_LeadingZeros64_S1 (v : math_bits_LeadingZeros64_Y1) : St := ⟨[(2, .int .i64 v)], []⟩
def math_bits_LeadingZeros64_r1 (C : math_bits_LeadingZeros64_C) (v : math_bits_LeadingZeros64_Y0i) : Dt math_bits_LeadingZeros64_Y1 := (Dt.bnd (C.1 ((v, ()), ())) fun r1 => (Dt.ret (IntKind.wrap .i64 ((64:Int) - r1))))
theorem math_bits_LeadingZeros64_g1 (C : math_bits_LeadingZeros64_C) (v : math_bits_LeadingZeros64_Y0i) : treg tysT (orc (math_bits_LeadingZeros64_tab C)) 6 (regO (bodyOf f74) 1) false [(2, .any)] (math_bits_LeadingZeros64_S0i v) some = (math_bits_LeadingZeros64_r1 C v).eval fun y => some (math_bits_LeadingZeros64_S1 y) := by kernel_rfl
def F_math_bits_LeadingZeros64 (d : Nat) (x : math_bits_LeadingZeros64_X) : Option math_bits_LeadingZeros64_R :=
  (math_bits_LeadingZeros64_r0 (math_bits_LeadingZeros64_K d) x.1.1).eval fun y0 =>
  (math_bits_LeadingZeros64_r1 (math_bits_LeadingZeros64_K d) y0).eval fun y1 =>
  some y1
theorem math_bits_LeadingZeros64_cok (d : Nat) : COK prog (math_bits_LeadingZeros64_sp (F_math_bits_LeadingZeros64 d)) := by
  have hm : prog.follows .mixedOrders = true := mixed
  have hT := tys
  have hC0 : OrcOK prog (orc (math_bits_LeadingZeros64_tab (math_bits_LeadingZeros64_K d))) := orc_ok (by
    intro S hS
    simp only [math_bits_LeadingZeros64_tab, List.mem_cons, List.not_mem_nil, or_false] at hS
    subst hS; exact math_bits_Len64_cok d)
  have hC : OrcOK prog (orc (math_bits_LeadingZeros64_tab (math_bits_LeadingZeros64_K d))) := hC0
  refine cok_of (c := bodyOf f74) (fn := f74) hT (by kernel_rfl) (by kernel_rfl) (by decide) fun x r h w0 φ0 Q hend => ?_
  replace h : F_math_bits_LeadingZeros64 d x = some r := h
  unfold F_math_bits_LeadingZeros64 at h
  show Run prog w0 φ0 6 (bodyOf f74) ⟨[(0, .int .u64 x.1.1)], []⟩ Q
  refine run_seq ?_
  refine run_reg hm hT hC (math_bits_LeadingZeros64_g0 (math_bits_LeadingZeros64_K d) x.1.1) h ?_
  intro y0 h
  refine cn_then ?_
  refine run_seq ?_
  refine run_reg hm hT hC (math_bits_LeadingZeros64_g1 (math_bits_LeadingZeros64_K d) y0) h ?_
  intro y1 h
  refine cn_then ?_
  refine run_ret ?_
  cases h
  exact (hend _ (by kernel_rfl)).2
abbrev math_bits_Div64_ps : List Pk := [.row Ru false, .row Ru false, .row Ru false]
abbrev math_bits_Div64_X : Type := Du × Du × Du × Unit
abbrev math_bits_Div64_R : Type := Int × Int
def math_bits_Div64_enc (r : math_bits_Div64_R) : LV × List Ob := (.tup [.int .u64 r.1, .int .u64 r.2], [])
def math_bits_Div64_sp (F : math_bits_Div64_X → Option math_bits_Div64_R) : Go.Tx.Spec := ⟨53, math_bits_Div64_ps, math_bits_Div64_R, F, math_bits_Div64_enc⟩
abbrev math_bits_Div64_C : Type := (math_bits_LeadingZeros64_X → Option math_bits_LeadingZeros64_R) × Unit
def math_bits_Div64_K (d : Nat) : math_bits_Div64_C := (F_math_bits_LeadingZeros64 d, ())
def math_bits_Div64_tab (C : math_bits_Div64_C) : List Go.Tx.Spec := [math_bits_LeadingZeros64_sp C.1]
abbrev math_bits_Div64_Y0i : Type := Int × Int × Int
def math_bits_Div64_S0i (v : math_bits_Div64_Y0i) : St := ⟨[(0, .int .u64 v.1), (1, .int .u64 v.2.1), (2, .int .u64 v.2.2)], []⟩
def math_bits_Div64_r0 (C : math_bits_Div64_C) (v : math_bits_Div64_Y0i) : Dt math_bits_Div64_Y0i := (Dt.ret (v.1, v.2.1, v.2.2))
theorem math_bits_Div64_g0 (C : math_bits_Div64_C) (v : math_bits_Div64_Y0i) : treg tysT (orc (math_bits_Div64_tab C)) 135 (regO (bodyOf f53) 0) false [(0, .any), (1, .any), (2, .any)] (math_bits_Div64_S0i v) some = (math_bits_Div64_r0 C v).eval fun y => some (math_bits_Div64_S0i y) := by kernel_rfl
abbrev math_bits_Div64_Y1 : Type := Int × Int × Int × Bool
def math_bits_Div64_S1 (v : math_bits_Div64_Y1) : St := ⟨[(0, .int .u64 v.1), (1, .int .u64 v.2.1), (2, .int .u64 v.2.2.1), (20, .bool v.2.2.2)], []⟩
def math_bits_Div64_r1 (C : math_bits_Div64_C) (v : math_bits_Div64_Y0i) : Dt math_bits_Div64_Y1 := (Dt.ret (v.1, v.2.1, v.2.2, (v.2.2 == (0:Int))))
theorem math_bits_Div64_g1 (C : math_bits_Div64_C) (v : math_bits_Div64_Y0i) : treg tysT (orc (math_bits_Div64_tab C)) 135 (regO (bodyOf f53) 1) false [(0, .any), (1, .any), (2, .any), (20, .any)] (math_bits_Div64_S0i v) some = (math_bits_Div64_r1 C v).eval fun y => some (math_bits_Div64_S1 y) := by kernel_rfl
abbrev math_bits_Div64_Y3 : Type := Int × Int × Int × Bool
def math_bits_Div64_S3 (v : math_bits_Div64_Y3) : St := ⟨[(0, .int .u64 v.1), (1, .int .u64 v.2.1), (2, .int .u64 v.2.2.1), (24, .bool v.2.2.2)], []⟩
def math_bits_Div64_r3 (C : math_bits_Div64_C) (v : math_bits_Div64_Y1) : Dt math_bits_Div64_Y3 := (Dt.ret (v.1, v.2.1, v.2.2.1, (decide (v.2.2.1 ≤ v.1))))
theorem math_bits_Div64_g3 (C : math_bits_Div64_C) (v : math_bits_Div64_Y1) : treg tysT (orc (math_bits_Div64_tab C)) 135 (regO (bodyOf f53) 3) false [(0, .any), (1, .any), (2, .any), (24, .any)] (math_bits_Div64_S1 v) some = (math_bits_Div64_r3 C v).eval fun y => some (math_bits_Div64_S3 y) := by kernel_rfl
abbrev math_bits_Div64_Y5 : Type := Int × Int × Int × Bool
def math_bits_Div64_S5 (v : math_bits_Div64_Y5) : St := ⟨[(0, .int .u64 v.1), (1, .int .u64 v.2.1), (2, .int .u64 v.2.2.1), (27, .bool v.2.2.2)], []⟩
def math_bits_Div64_r5 (C : math_bits_Div64_C) (v : math_bits_Div64_Y3) : Dt math_bits_Div64_Y5 := (Dt.ret (v.1, v.2.1, v.2.2.1, (v.1 == (0:Int))))
theorem math_bits_Div64_g5 (C : math_bits_Div64_C) (v : math_bits_Div64_Y3) : treg tysT (orc (math_bits_Div64_tab C)) 135 (regO (bodyOf f53) 5) false [(0, .any), (1, .any), (2, .any), (27, .any)] (math_bits_Div64_S3 v) some = (math_bits_Div64_r5 C v).eval fun y => some (math_bits_Div64_S5 y) := by kernel_rfl
abbrev math_bits_Div64_Y6 : Type := Int × Int
def math_bits_Div64_S6 (v : math_bits_Div64_Y6) : St := ⟨[(6, .int .u64 v.1), (7, .int .u64 v.2)], []⟩
def math_bits_Div64_r6 (C : math_bits_Div64_C) (v : math_bits_Div64_Y5) : Dt math_bits_Div64_Y6 := (Dt.ite (v.2.2.1 == (0:Int)) Dt.fail (Dt.ite (v.2.2.1 == (0:Int)) Dt.fail (Dt.ret ((IntKind.wrap .u64 (Int.tdiv v.2.1 v.2.2.1)), (Int.tmod v.2.1 v.2.2.1)))))
theorem math_bits_Div64_g6 (C : math_bits_Div64_C) (v : math_bits_Div64_Y5) : treg tysT (orc (math_bits_Div64_tab C)) 135 (regO (bodyOf f53) 6) true [(6, .any), (7, .any)] (math_bits_Div64_S5 v) some = (math_bits_Div64_r6 C v).eval fun y => some (math_bits_Div64_S6 y) := by kernel_rfl
abbrev math_bits_Div64_Y7 : Type := Int × Int × Int × Int
def math_bits_Div64_S7 (v : math_bits_Div64_Y7) : St := ⟨[(0, .int .u64 v.1), (1, .int .u64 v.2.1), (2, .int .u64 v.2.2.1), (8, .int .u64 v.2.2.2)], []⟩
def math_bits_Div64_r7 (C : math_bits_Div64_C) (v : math_bits_Div64_Y5) : Dt math_bits_Div64_Y7 := (Dt.bnd (C.1 ((v.2.2.1, ()), ())) fun r1 => (Dt.ret (v.1, v.2.1, v.2.2.1, (IntKind.wrap .u64 r1))))
theorem math_bits_Div64_g7 (C : math_bits_Div64_C) (v : math_bits_Div64_Y5) : treg tysT (orc (math_bits_Div64_tab C)) 135 (regO (bodyOf f53) 7) false [(0, .any), (1, .any), (2, .any), (8, .any)] (math_bits_Div64_S5 v) some = (math_bits_Div64_r7 C v).eval fun y => some (math_bits_Div64_S7 y) := by kernel_rfl
def math_bits_Div64_r8 (C : math_bits_Div64_C) (v : math_bits_Div64_Y7) : Dt math_bits_Div64_Y7 := (Dt.ite (decide (v.2.2.2 < 0)) Dt.fail (Dt.ret (v.1, v.2.1, (shlI .u64 v.2.2.1 v.2.2.2), v.2.2.2)))
theorem math_bits_Div64_g8 (C : math_bits_Div64_C) (v : math_bits_Div64_Y7) : treg tysT (orc (math_bits_Div64_tab C)) 135 (regO (bodyOf f53) 8) false [(0, .any), (1, .any), (2, .any), (8, .any)] (math_bits_Div64_S7 v) some = (math_bits_Div64_r8 C v).eval fun y => some (math_bits_Div64_S7 y) := by kernel_rfl
abbrev math_bits_Div64_Y9 : Type := Int × Int × Int × Int × Int
def math_bits_Div64_S9 (v : math_bits_Div64_Y9) : St := ⟨[(0, .int .u64 v.1), (1, .int .u64 v.2.1), (2, .int .u64 v.2.2.1), (8, .int .u64 v.2.2.2.1), (9, .int .u64 v.2.2.2.2)], []⟩
def math_bits_Div64_r9 (C : math_bits_Div64_C) (v : math_bits_Div64_Y7) : Dt math_bits_Div64_Y9 := (Dt.ret (v.1, v.2.1, v.2.2.1, v.2.2.2, (shrI .u64 v.2.2.1 (32:Int))))
theorem math_bits_Div64_g9 (C : math_bits_Div64_C) (v : math_bits_Div64_Y7) : treg tysT (orc (math_bits_Div64_tab C)) 135 (regO (bodyOf f53) 9) false [(0, .any), (1, .any), (2, .any), (8, .any), (9, .any)] (math_bits_Div64_S7 v) some = (math_bits_Div64_r9 C v).eval fun y => some (math_bits_Div64_S9 y) := by kernel_rfl
abbrev math_bits_Div64_Y10 : Type := Int × Int × Int × Int × Int × Int
def math_bits_Div64_S10 (v : math_bits_Div64_Y10) : St := ⟨[(0, .int .u64 v.1), (1, .int .u64 v.2.1), (2, .int .u64 v.2.2.1), (8, .int .u64 v.2.2.2.1), (9, .int .u64 v.2.2.2.2.1), (10, .int .u64 v.2.2.2.2.2)], []⟩
def math_bits_Div64_r10 (C : math_bits_Div64_C) (v : math_bits_Div64_Y9) : Dt math_bits_Div64_Y10 := (Dt.ret (v.1, v.2.1, v.2.2.1, v.2.2.2.1, v.2.2.2.2, (andI .u64 v.2.2.1 (4294967295:Int))))
theorem math_bits_Div64_g10 (C : math_bits_Div64_C) (v : math_bits_Div64_Y9) : treg tysT (orc (math_bits_Div64_tab C)) 135 (regO (bodyOf f53) 10) false [(0, .any), (1, .any), (2, .any), (8, .any), (9, .any), (10, .any)] (math_bits_Div64_S9 v) some = (math_bits_Div64_r10 C v).eval fun y => some (math_bits_Div64_S10 y) := by kernel_rfl
abbrev math_bits_Div64_Y11 : Type := Int × Int × Int × Int × Int × Int
def math_bits_Div64_S11 (v : math_bits_Div64_Y11) : St := ⟨[(1, .int .u64 v.1), (2, .int .u64 v.2.1), (8, .int .u64 v.2.2.1), (9, .int .u64 v.2.2.2.1), (10, .int .u64 v.2.2.2.2.1), (11, .int .u64 v.2.2.2.2.2)], []⟩
def math_bits_Div64_r11 (C : math_bits_Div64_C) (v : math_bits_Div64_Y10) : Dt math_bits_Div64_Y11 := (Dt.ite (decide (v.2.2.2.1 < 0)) Dt.fail (Dt.ite (decide ((IntKind.wrap .u64 ((64:Int) - v.2.2.2.1)) < 0)) Dt.fail (Dt.ret (v.2.1, v.2.2.1, v.2.2.2.1, v.2.2.2.2.1, v.2.2.2.2.2, (orI .u64 (shlI .u64 v.1 v.2.2.2.1) (shrI .u64 v.2.1 (IntKind.wrap .u64 ((64:Int) - v.2.2.2.1))))))))
theorem math_bits_Div64_g11 (C : math_bits_Div64_C) (v : math_bits_Div64_Y10) : treg tysT (orc (math_bits_Div64_tab C)) 135 (regO (bodyOf f53) 11) false [(1, .any), (2, .any), (8, .any), (9, .any), (10, .any), (11, .any)] (math_bits_Div64_S10 v) some = (math_bits_Div64_r11 C v).eval fun y => some (math_bits_Div64_S11 y) := by kernel_rfl
abbrev math_bits_Div64_Y12 : Type := Int × Int × Int × Int × Int × Int
def math_bits_Div64_S12 (v : math_bits_Div64_Y12) : St := ⟨[(2, .int .u64 v.1), (8, .int .u64 v.2.1), (9, .int .u64 v.2.2.1), (10, .int .u64 v.2.2.2.1), (11, .int .u64 v.2.2.2.2.1), (12, .int .u64 v.2.2.2.2.2)], []⟩
def math_bits_Div64_r12 (C : math_bits_Div64_C) (v : math_bits_Div64_Y11) : Dt math_bits_Div64_Y12 := (Dt.ite (decide (v.2.2.1 < 0)) Dt.fail (Dt.ret (v.2.1, v.2.2.1, v.2.2.2.1, v.2.2.2.2.1, v.2.2.2.2.2, (shlI .u64 v.1 v.2.2.1))))
theorem math_bits_Div64_g12 (C : math_bits_Div64_C) (v : math_bits_Div64_Y11) : treg tysT (orc (math_bits_Div64_tab C)) 135 (regO (bodyOf f53) 12) false [(2, .any), (8, .any), (9, .any), (10, .any), (11, .any), (12, .any)] (math_bits_Div64_S11 v) some = (math_bits_Div64_r12 C v).eval fun y => some (math_bits_Div64_S12 y) := by kernel_rfl
abbrev math_bits_Div64_Y13 : Type := Int × Int × Int × Int × Int × Int × Int
def math_bits_Div64_S13 (v : math_bits_Div64_Y13) : St := ⟨[(2, .int .u64 v.1), (8, .int .u64 v.2.1), (9, .int .u64 v.2.2.1), (10, .int .u64 v.2.2.2.1), (11, .int .u64 v.2.2.2.2.1), (12, .int .u64 v.2.2.2.2.2.1), (13, .int .u64 v.2.2.2.2.2.2)], []⟩
def math_bits_Div64_r13 (C : math_bits_Div64_C) (v : math_bits_Div64_Y12) : Dt math_bits_Div64_Y13 := (Dt.ret (v.1, v.2.1, v.2.2.1, v.2.2.2.1, v.2.2.2.2.1, v.2.2.2.2.2, (shrI .u64 v.2.2.2.2.2 (32:Int))))
theorem math_bits_Div64_g13 (C : math_bits_Div64_C) (v : math_bits_Div64_Y12) : treg tysT (orc (math_bits_Div64_tab C)) 135 (regO (bodyOf f53) 13) false [(2, .any), (8, .any), (9, .any), (10, .any), (11, .any), (12, .any), (13, .any)] (math_bits_Div64_S12 v) some = (math_bits_Div64_r13 C v).eval fun y => some (math_bits_Div64_S13 y) := by kernel_rfl
abbrev math_bits_Div64_Y14 : Type := Int × Int × Int × Int × Int × Int × Int
def math_bits_Div64_S14 (v : math_bits_Div64_Y14) : St := ⟨[(2, .int .u64 v.1), (8, .int .u64 v.2.1), (9, .int .u64 v.2.2.1), (10, .int .u64 v.2.2.2.1), (11, .int .u64 v.2.2.2.2.1), (13, .int .u64 v.2.2.2.2.2.1), (14, .int .u64 v.2.2.2.2.2.2)], []⟩
def math_bits_Div64_r14 (C : math_bits_Div64_C) (v : math_bits_Div64_Y13) : Dt math_bits_Div64_Y14 := (Dt.ret (v.1, v.2.1, v.2.2.1, v.2.2.2.1, v.2.2.2.2.1, v.2.2.2.2.2.2, (andI .u64 v.2.2.2.2.2.1 (4294967295:Int))))
theorem math_bits_Div64_g14 (C : math_bits_Div64_C) (v : math_bits_Div64_Y13) : treg tysT (orc (math_bits_Div64_tab C)) 135 (regO (bodyOf f53) 14) false [(2, .any), (8, .any), (9, .any), (10, .any), (11, .any), (13, .any), (14, .any)] (math_bits_Div64_S13 v) some = (math_bits_Div64_r14 C v).eval fun y => some (math_bits_Div64_S14 y) := by kernel_rfl
abbrev math_bits_Div64_Y15 : Type := Int × Int × Int × Int × Int × Int × Int × Int
def math_bits_Div64_S15 (v : math_bits_Div64_Y15) : St := ⟨[(2, .int .u64 v.1), (8, .int .u64 v.2.1), (9, .int .u64 v.2.2.1), (10, .int .u64 v.2.2.2.1), (11, .int .u64 v.2.2.2.2.1), (13, .int .u64 v.2.2.2.2.2.1), (14, .int .u64 v.2.2.2.2.2.2.1), (15, .int .u64 v.2.2.2.2.2.2.2)], []⟩
def math_bits_Div64_r15 (C : math_bits_Div64_C) (v : math_bits_Div64_Y14) : Dt math_bits_Div64_Y15 := (Dt.ite (v.2.2.1 == (0:Int)) Dt.fail (Dt.ret (v.1, v.2.1, v.2.2.1, v.2.2.2.1, v.2.2.2.2.1, v.2.2.2.2.2.1, v.2.2.2.2.2.2, (IntKind.wrap .u64 (Int.tdiv v.2.2.2.2.1 v.2.2.1)))))
theorem math_bits_Div64_g15 (C : math_bits_Div64_C) (v : math_bits_Div64_Y14) : treg tysT (orc (math_bits_Div64_tab C)) 135 (regO (bodyOf f53) 15) false [(2, .any), (8, .any), (9, .any), (10, .any), (11, .any), (13, .any), (14, .any), (15, .any)] (math_bits_Div64_S14 v) some = (math_bits_Div64_r15 C v).eval fun y => some (math_bits_Div64_S15 y) := by kernel_rfl
abbrev math_bits_Div64_Y16 : Type := Int × Int × Int × Int × Int × Int × Int × Int × Int
def math_bits_Div64_S16 (v : math_bits_Div64_Y16) : St := ⟨[(2, .int .u64 v.1), (8, .int .u64 v.2.1), (9, .int .u64 v.2.2.1), (10, .int .u64 v.2.2.2.1), (11, .int .u64 v.2.2.2.2.1), (13, .int .u64 v.2.2.2.2.2.1), (14, .int .u64 v.2.2.2.2.2.2.1), (15, .int .u64 v.2.2.2.2.2.2.2.1), (16, .int .u64 v.2.2.2.2.2.2.2.2)], []⟩
def math_bits_Div64_r16 (C : math_bits_Div64_C) (v : math_bits_Div64_Y15) : Dt math_bits_Div64_Y16 := (Dt.ret (v.1, v.2.1, v.2.2.1, v.2.2.2.1, v.2.2.2.2.1, v.2.2.2.2.2.1, v.2.2.2.2.2.2.1, v.2.2.2.2.2.2.2, (IntKind.wrap .u64 (v.2.2.2.2.1 - (IntKind.wrap .u64 (v.2.2.2.2.2.2.2 * v.2.2.1))))))
theorem math_bits_Div64_g16 (C : math_bits_Div64_C) (v : math_bits_Div64_Y15) : treg tysT (orc (math_bits_Div64_tab C)) 135 (regO (bodyOf f53) 16) false [(2, .any), (8, .any), (9, .any), (10, .any), (11, .any), (13, .any), (14, .any), (15, .any), (16, .any)] (math_bits_Div64_S15 v) some = (math_bits_Div64_r16 C v).eval fun y => some (math_bits_Div64_S16 y) := by kernel_rfl
abbrev math_bits_Div64_Y17 : Type := Int × Int × Int × Int × Int × Int × Int × Int × Int × Bool
def math_bits_Div64_S17 (v : math_bits_Div64_Y17) : St := ⟨[(2, .int .u64 v.1), (8, .int .u64 v.2.1), (9, .int .u64 v.2.2.1), (10, .int .u64 v.2.2.2.1), (11, .int .u64 v.2.2.2.2.1), (13, .int .u64 v.2.2.2.2.2.1), (14, .int .u64 v.2.2.2.2.2.2.1), (15, .int .u64 v.2.2.2.2.2.2.2.1), (16, .int .u64 v.2.2.2.2.2.2.2.2.1), (78, .bool v.2.2.2.2.2.2.2.2.2)], []⟩
def math_bits_Div64_r17 (C : math_bits_Div64_C) (v : math_bits_Div64_Y16) : Dt math_bits_Div64_Y17 := (Dt.ite (decide (v.2.2.2.2.2.2.2.1 ≥ (4294967296:Int))) (Dt.ret (v.1, v.2.1, v.2.2.1, v.2.2.2.1, v.2.2.2.2.1, v.2.2.2.2.2.1, v.2.2.2.2.2.2.1, v.2.2.2.2.2.2.2.1, v.2.2.2.2.2.2.2.2, true)) (Dt.ret (v.1, v.2.1, v.2.2.1, v.2.2.2.1, v.2.2.2.2.1, v.2.2.2.2.2.1, v.2.2.2.2.2.2.1, v.2.2.2.2.2.2.2.1, v.2.2.2.2.2.2.2.2, (decide ((IntKind.wrap .u64 (v.2.2.2.2.2.2.2.1 * v.2.2.2.1)) > (IntKind.wrap .u64 ((IntKind.wrap .u64 ((4294967296:Int) * v.2.2.2.2.2.2.2.2)) + v.2.2.2.2.2.1)))))))
theorem math_bits_Div64_g17 (C : math_bits_Div64_C) (v : math_bits_Div64_Y16) : treg tysT (orc (math_bits_Div64_tab C)) 135 (regO (bodyOf f53) 17) false [(2, .any), (8, .any), (9, .any), (10, .any), (11, .any), (13, .any), (14, .any), (15, .any), (16, .any), (78, .any)] (math_bits_Div64_S16 v) some = (math_bits_Div64_r17 C v).eval fun y => some (math_bits_Div64_S17 y) := by kernel_rfl
def math_bits_Div64_r18 (C : math_bits_Div64_C) (v : math_bits_Div64_Y17) : Dt math_bits_Div64_Y16 := (Dt.ret (v.1, v.2.1, v.2.2.1, v.2.2.2.1, v.2.2.2.2.1, v.2.2.2.2.2.1, v.2.2.2.2.2.2.1, (IntKind.wrap .u64 (v.2.2.2.2.2.2.2.1 - (1:Int))), v.2.2.2.2.2.2.2.2.1))
theorem math_bits_Div64_g18 (C : math_bits_Div64_C) (v : math_bits_Div64_Y17) : treg tysT (orc (math_bits_Div64_tab C)) 135 (regO (bodyOf f53) 18) false [(2, .any), (8, .any), (9, .any), (10, .any), (11, .any), (13, .any), (14, .any), (15, .any), (16, .any)] (math_bits_Div64_S17 v) some = (math_bits_Div64_r18 C v).eval fun y => some (math_bits_Div64_S16 y) := by kernel_rfl
def math_bits_Div64_r19 (C : math_bits_Div64_C) (v : math_bits_Div64_Y16) : Dt math_bits_Div64_Y16 := (Dt.ret (v.1, v.2.1, v.2.2.1, v.2.2.2.1, v.2.2.2.2.1, v.2.2.2.2.2.1, v.2.2.2.2.2.2.1, v.2.2.2.2.2.2.2.1, (IntKind.wrap .u64 (v.2.2.2.2.2.2.2.2 + v.2.2.1))))
theorem math_bits_Div64_g19 (C : math_bits_Div64_C) (v : math_bits_Div64_Y16) : treg tysT (orc (math_bits_Div64_tab C)) 135 (regO (bodyOf f53) 19) false [(2, .any), (8, .any), (9, .any), (10, .any), (11, .any), (13, .any), (14, .any), (15, .any), (16, .any)] (math_bits_Div64_S16 v) some = (math_bits_Div64_r19 C v).eval fun y => some (math_bits_Div64_S16 y) := by kernel_rfl
abbrev math_bits_Div64_Y20 : Type := Int × Int × Int × Int × Int × Int × Int × Int × Int × Bool
def math_bits_Div64_S20 (v : math_bits_Div64_Y20) : St := ⟨[(2, .int .u64 v.1), (8, .int .u64 v.2.1), (9, .int .u64 v.2.2.1), (10, .int .u64 v.2.2.2.1), (11, .int .u64 v.2.2.2.2.1), (13, .int .u64 v.2.2.2.2.2.1), (14, .int .u64 v.2.2.2.2.2.2.1), (15, .int .u64 v.2.2.2.2.2.2.2.1), (16, .int .u64 v.2.2.2.2.2.2.2.2.1), (85, .bool v.2.2.2.2.2.2.2.2.2)], []⟩
def math_bits_Div64_r20 (C : math_bits_Div64_C) (v : math_bits_Div64_Y16) : Dt math_bits_Div64_Y20 := (Dt.ret (v.1, v.2.1, v.2.2.1, v.2.2.2.1, v.2.2.2.2.1, v.2.2.2.2.2.1, v.2.2.2.2.2.2.1, v.2.2.2.2.2.2.2.1, v.2.2.2.2.2.2.2.2, (decide (v.2.2.2.2.2.2.2.2 ≥ (4294967296:Int)))))
theorem math_bits_Div64_g20 (C : math_bits_Div64_C) (v : math_bits_Div64_Y16) : treg tysT (orc (math_bits_Div64_tab C)) 135 (regO (bodyOf f53) 20) false [(2, .any), (8, .any), (9, .any), (10, .any), (11, .any), (13, .any), (14, .any), (15, .any), (16, .any), (85, .any)] (math_bits_Div64_S16 v) some = (math_bits_Div64_r20 C v).eval fun y => some (math_bits_Div64_S20 y) := by kernel_rfl
abbrev math_bits_Div64_Y21 : Type := Int × Int × Int × Int × Int × Int × Int
def math_bits_Div64_S21 (v : math_bits_Div64_Y21) : St := ⟨[(2, .int .u64 v.1), (8, .int .u64 v.2.1), (9, .int .u64 v.2.2.1), (10, .int .u64 v.2.2.2.1), (14, .int .u64 v.2.2.2.2.1), (15, .int .u64 v.2.2.2.2.2.1), (17, .int .u64 v.2.2.2.2.2.2)], []⟩
def math_bits_Div64_r21 (C : math_bits_Div64_C) (v : math_bits_Div64_Y16) : Dt math_bits_Div64_Y21 := (Dt.ret (v.1, v.2.1, v.2.2.1, v.2.2.2.1, v.2.2.2.2.2.2.1, v.2.2.2.2.2.2.2.1, (IntKind.wrap .u64 ((IntKind.wrap .u64 ((IntKind.wrap .u64 (v.2.2.2.2.1 * (4294967296:Int))) + v.2.2.2.2.2.1)) - (IntKind.wrap .u64 (v.2.2.2.2.2.2.2.1 * v.1))))))
theorem math_bits_Div64_g21 (C : math_bits_Div64_C) (v : math_bits_Div64_Y16) : treg tysT (orc (math_bits_Div64_tab C)) 135 (regO (bodyOf f53) 21) false [(2, .any), (8, .any), (9, .any), (10, .any), (14, .any), (15, .any), (17, .any)] (math_bits_Div64_S16 v) some = (math_bits_Div64_r21 C v).eval fun y => some (math_bits_Div64_S21 y) := by kernel_rfl
abbrev math_bits_Div64_Y22 : Type := Int × Int × Int × Int × Int × Int × Int × Int
def math_bits_Div64_S22 (v : math_bits_Div64_Y22) : St := ⟨[(2, .int .u64 v.1), (8, .int .u64 v.2.1), (9, .int .u64 v.2.2.1), (10, .int .u64 v.2.2.2.1), (14, .int .u64 v.2.2.2.2.1), (15, .int .u64 v.2.2.2.2.2.1), (17, .int .u64 v.2.2.2.2.2.2.1), (18, .int .u64 v.2.2.2.2.2.2.2)], []⟩
def math_bits_Div64_r22 (C : math_bits_Div64_C) (v : math_bits_Div64_Y21) : Dt math_bits_Div64_Y22 := (Dt.ite (v.2.2.1 == (0:Int)) Dt.fail (Dt.ret (v.1, v.2.1, v.2.2.1, v.2.2.2.1, v.2.2.2.2.1, v.2.2.2.2.2.1, v.2.2.2.2.2.2, (IntKind.wrap .u64 (Int.tdiv v.2.2.2.2.2.2 v.2.2.1)))))
theorem math_bits_Div64_g22 (C : math_bits_Div64_C) (v : math_bits_Div64_Y21) : treg tysT (orc (math_bits_Div64_tab C)) 135 (regO (bodyOf f53) 22) false [(2, .any), (8, .any), (9, .any), (10, .any), (14, .any), (15, .any), (17, .any), (18, .any)] (math_bits_Div64_S21 v) some = (math_bits_Div64_r22 C v).eval fun y => some (math_bits_Div64_S22 y) := by kernel_rfl
abbrev math_bits_Div64_Y23 : Type := Int × Int × Int × Int × Int × Int × Int × Int × Int
def math_bits_Div64_S23 (v : math_bits_Div64_Y23) : St := ⟨[(2, .int .u64 v.1), (8, .int .u64 v.2.1), (9, .int .u64 v.2.2.1), (10, .int .u64 v.2.2.2.1), (14, .int .u64 v.2.2.2.2.1), (15, .int .u64 v.2.2.2.2.2.1), (16, .int .u64 v.2.2.2.2.2.2.1), (17, .int .u64 v.2.2.2.2.2.2.2.1), (18, .int .u64 v.2.2.2.2.2.2.2.2)], []⟩
def math_bits_Div64_r23 (C : math_bits_Div64_C) (v : math_bits_Div64_Y22) : Dt math_bits_Div64_Y23 := (Dt.ret (v.1, v.2.1, v.2.2.1, v.2.2.2.1, v.2.2.2.2.1, v.2.2.2.2.2.1, (IntKind.wrap .u64 (v.2.2.2.2.2.2.1 - (IntKind.wrap .u64 (v.2.2.2.2.2.2.2 * v.2.2.1)))), v.2.2.2.2.2.2.1, v.2.2.2.2.2.2.2))
theorem math_bits_Div64_g23 (C : math_bits_Div64_C) (v : math_bits_Div64_Y22) : treg tysT (orc (math_bits_Div64_tab C)) 135 (regO (bodyOf f53) 23) false [(2, .any), (8, .any), (9, .any), (10, .any), (14, .any), (15, .any), (16, .any), (17, .any), (18, .any)] (math_bits_Div64_S22 v) some = (math_bits_Div64_r23 C v).eval fun y => some (math_bits_Div64_S23 y) := by kernel_rfl
abbrev math_bits_Div64_Y24 : Type := Int × Int × Int × Int × Int × Int × Int × Int × Int × Bool
def math_bits_Div64_S24 (v : math_bits_Div64_Y24) : St := ⟨[(2, .int .u64 v.1), (8, .int .u64 v.2.1), (9, .int .u64 v.2.2.1), (10, .int .u64 v.2.2.2.1), (14, .int .u64 v.2.2.2.2.1), (15, .int .u64 v.2.2.2.2.2.1), (16, .int .u64 v.2.2.2.2.2.2.1), (17, .int .u64 v.2.2.2.2.2.2.2.1), (18, .int .u64 v.2.2.2.2.2.2.2.2.1), (113, .bool v.2.2.2.2.2.2.2.2.2)], []⟩
def math_bits_Div64_r24 (C : math_bits_Div64_C) (v : math_bits_Div64_Y23) : Dt math_bits_Div64_Y24 := (Dt.ite (decide (v.2.2.2.2.2.2.2.2 ≥ (4294967296:Int))) (Dt.ret (v.1, v.2.1, v.2.2.1, v.2.2.2.1, v.2.2.2.2.1, v.2.2.2.2.2.1, v.2.2.2.2.2.2.1, v.2.2.2.2.2.2.2.1, v.2.2.2.2.2.2.2.2, true)) (Dt.ret (v.1, v.2.1, v.2.2.1, v.2.2.2.1, v.2.2.2.2.1, v.2.2.2.2.2.1, v.2.2.2.2.2.2.1, v.2.2.2.2.2.2.2.1, v.2.2.2.2.2.2.2.2, (decide ((IntKind.wrap .u64 (v.2.2.2.2.2.2.2.2 * v.2.2.2.1)) > (IntKind.wrap .u64 ((IntKind.wrap .u64 ((4294967296:Int) * v.2.2.2.2.2.2.1)) + v.2.2.2.2.1)))))))
theorem math_bits_Div64_g24 (C : math_bits_Div64_C) (v : math_bits_Div64_Y23) : treg tysT (orc (math_bits_Div64_tab C)) 135 (regO (bodyOf f53) 24) false [(2, .any), (8, .any), (9, .any), (10, .any), (14, .any), (15, .any), (16, .any), (17, .any), (18, .any), (113, .any)] (math_bits_Div64_S23 v) some = (math_bits_Div64_r24 C v).eval fun y => some (math_bits_Div64_S24 y) := by kernel_rfl
def math_bits_Div64_r25 (C : math_bits_Div64_C) (v : math_bits_Div64_Y24) : Dt math_bits_Div64_Y23 := (Dt.ret (v.1, v.2.1, v.2.2.1, v.2.2.2.1, v.2.2.2.2.1, v.2.2.2.2.2.1, v.2.2.2.2.2.2.1, v.2.2.2.2.2.2.2.1, (IntKind.wrap .u64 (v.2.2.2.2.2.2.2.2.1 - (1:Int)))))
theorem math_bits_Div64_g25 (C : math_bits_Div64_C) (v : math_bits_Div64_Y24) : treg tysT (orc (math_bits_Div64_tab C)) 135 (regO (bodyOf f53) 25) false [(2, .any), (8, .any), (9, .any), (10, .any), (14, .any), (15, .any), (16, .any), (17, .any), (18, .any)] (math_bits_Div64_S24 v) some = (math_bits_Div64_r25 C v).eval fun y => some (math_bits_Div64_S23 y) := by kernel_rfl
def math_bits_Div64_r26 (C : math_bits_Div64_C) (v : math_bits_Div64_Y23) : Dt math_bits_Div64_Y23 := (Dt.ret (v.1, v.2.1, v.2.2.1, v.2.2.2.1, v.2.2.2.2.1, v.2.2.2.2.2.1, (IntKind.wrap .u64 (v.2.2.2.2.2.2.1 + v.2.2.1)), v.2.2.2.2.2.2.2.1, v.2.2.2.2.2.2.2.2))
theorem math_bits_Div64_g26 (C : math_bits_Div64_C) (v : math_bits_Div64_Y23) : treg tysT (orc (math_bits_Div64_tab C)) 135 (regO (bodyOf f53) 26) false [(2, .any), (8, .any), (9, .any), (10, .any), (14, .any), (15, .any), (16, .any), (17, .any), (18, .any)] (math_bits_Div64_S23 v) some = (math_bits_Div64_r26 C v).eval fun y => some (math_bits_Div64_S23 y) := by kernel_rfl
abbrev math_bits_Div64_Y27 : Type := Int × Int × Int × Int × Int × Int × Int × Int × Int × Bool
def math_bits_Div64_S27 (v : math_bits_Div64_Y27) : St := ⟨[(2, .int .u64 v.1), (8, .int .u64 v.2.1), (9, .int .u64 v.2.2.1), (10, .int .u64 v.2.2.2.1), (14, .int .u64 v.2.2.2.2.1), (15, .int .u64 v.2.2.2.2.2.1), (16, .int .u64 v.2.2.2.2.2.2.1), (17, .int .u64 v.2.2.2.2.2.2.2.1), (18, .int .u64 v.2.2.2.2.2.2.2.2.1), (120, .bool v.2.2.2.2.2.2.2.2.2)], []⟩
def math_bits_Div64_r27 (C : math_bits_Div64_C) (v : math_bits_Div64_Y23) : Dt math_bits_Div64_Y27 := (Dt.ret (v.1, v.2.1, v.2.2.1, v.2.2.2.1, v.2.2.2.2.1, v.2.2.2.2.2.1, v.2.2.2.2.2.2.1, v.2.2.2.2.2.2.2.1, v.2.2.2.2.2.2.2.2, (decide (v.2.2.2.2.2.2.1 ≥ (4294967296:Int)))))
theorem math_bits_Div64_g27 (C : math_bits_Div64_C) (v : math_bits_Div64_Y23) : treg tysT (orc (math_bits_Div64_tab C)) 135 (regO (bodyOf f53) 27) false [(2, .any), (8, .any), (9, .any), (10, .any), (14, .any), (15, .any), (16, .any), (17, .any), (18, .any), (120, .any)] (math_bits_Div64_S23 v) some = (math_bits_Div64_r27 C v).eval fun y => some (math_bits_Div64_S27 y) := by kernel_rfl
def math_bits_Div64_r28 (C : math_bits_Div64_C) (v : math_bits_Div64_Y23) : Dt math_bits_Div64_Y6 := (Dt.ite (decide (v.2.1 < 0)) Dt.fail (Dt.ret ((IntKind.wrap .u64 ((IntKind.wrap .u64 (v.2.2.2.2.2.1 * (4294967296:Int))) + v.2.2.2.2.2.2.2.2)), (shrI .u64 (IntKind.wrap .u64 ((IntKind.wrap .u64 ((IntKind.wrap .u64 (v.2.2.2.2.2.2.2.1 * (4294967296:Int))) + v.2.2.2.2.1)) - (IntKind.wrap .u64 (v.2.2.2.2.2.2.2.2 * v.1)))) v.2.1))))
theorem math_bits_Div64_g28 (C : math_bits_Div64_C) (v : math_bits_Div64_Y23) : treg tysT (orc (math_bits_Div64_tab C)) 135 (regO (bodyOf f53) 28) false [(6, .any), (7, .any)] (math_bits_Div64_S23 v) some = (math_bits_Div64_r28 C v).eval fun y => some (math_bits_Div64_S6 y) := by kernel_rfl
def math_bits_Div64_J5  (d : Nat)  (z : Int × Int × Int × Int × Int × Int × Int × Int × Int) : Option (math_bits_Div64_R) :=
  (math_bits_Div64_r28 (math_bits_Div64_K d) z).eval fun y28 =>
  some y28
def math_bits_Div64_L6 (d : Nat) (self6 : (Int × Int × Int × Int × Int × Int × Int × Int × Int) → Option math_bits_Div64_R) (x6 : Int × Int × Int × Int × Int × Int × Int × Int × Int) : Option math_bits_Div64_R :=
  (math_bits_Div64_r24 (math_bits_Div64_K d) x6).eval fun y24 =>
  bif y24.2.2.2.2.2.2.2.2.2 then ((math_bits_Div64_r25 (math_bits_Div64_K d) y24).eval fun y25 =>
  (math_bits_Div64_r26 (math_bits_Div64_K d) y25).eval fun y26 =>
  (math_bits_Div64_r27 (math_bits_Div64_K d) y26).eval fun y27 =>
  bif y27.2.2.2.2.2.2.2.2.2 then (math_bits_Div64_J5 d  (y27.1, y27.2.1, y27.2.2.1, y27.2.2.2.1, y27.2.2.2.2.1, y27.2.2.2.2.2.1, y27.2.2.2.2.2.2.1, y27.2.2.2.2.2.2.2.1, y27.2.2.2.2.2.2.2.2.1)) else (self6 (y27.1, y27.2.1, y27.2.2.1, y27.2.2.2.1, y27.2.2.2.2.1, y27.2.2.2.2.2.1, y27.2.2.2.2.2.2.1, y27.2.2.2.2.2.2.2.1, y27.2.2.2.2.2.2.2.2.1))) else (math_bits_Div64_J5 d  (y24.1, y24.2.1, y24.2.2.1, y24.2.2.2.1, y24.2.2.2.2.1, y24.2.2.2.2.2.1, y24.2.2.2.2.2.2.1, y24.2.2.2.2.2.2.2.1, y24.2.2.2.2.2.2.2.2.1))
def math_bits_Div64_J3  (d : Nat)  (z : Int × Int × Int × Int × Int × Int × Int × Int × Int) : Option (math_bits_Div64_R) :=
  (math_bits_Div64_r21 (math_bits_Div64_K d) z).eval fun y21 =>
  (math_bits_Div64_r22 (math_bits_Div64_K d) y21).eval fun y22 =>
  (math_bits_Div64_r23 (math_bits_Div64_K d) y22).eval fun y23 =>
  iter (math_bits_Div64_L6 d ) d y23
def math_bits_Div64_L4 (d : Nat) (self4 : (Int × Int × Int × Int × Int × Int × Int × Int × Int) → Option math_bits_Div64_R) (x4 : Int × Int × Int × Int × Int × Int × Int × Int × Int) : Option math_bits_Div64_R :=
  (math_bits_Div64_r17 (math_bits_Div64_K d) x4).eval fun y17 =>
  bif y17.2.2.2.2.2.2.2.2.2 then ((math_bits_Div64_r18 (math_bits_Div64_K d) y17).eval fun y18 =>
  (math_bits_Div64_r19 (math_bits_Div64_K d) y18).eval fun y19 =>
  (math_bits_Div64_r20 (math_bits_Div64_K d) y19).eval fun y20 =>
  bif y20.2.2.2.2.2.2.2.2.2 then (math_bits_Div64_J3 d  (y20.1, y20.2.1, y20.2.2.1, y20.2.2.2.1, y20.2.2.2.2.1, y20.2.2.2.2.2.1, y20.2.2.2.2.2.2.1, y20.2.2.2.2.2.2.2.1, y20.2.2.2.2.2.2.2.2.1)) else (self4 (y20.1, y20.2.1, y20.2.2.1, y20.2.2.2.1, y20.2.2.2.2.1, y20.2.2.2.2.2.1, y20.2.2.2.2.2.2.1, y20.2.2.2.2.2.2.2.1, y20.2.2.2.2.2.2.2.2.1))) else (math_bits_Div64_J3 d  (y17.1, y17.2.1, y17.2.2.1, y17.2.2.2.1, y17.2.2.2.2.1, y17.2.2.2.2.2.1, y17.2.2.2.2.2.2.1, y17.2.2.2.2.2.2.2.1, y17.2.2.2.2.2.2.2.2.1))
def math_bits_Div64_J2  (d : Nat)  (z : Int × Int × Int × Bool) : Option (math_bits_Div64_R) :=
  (math_bits_Div64_r5 (math_bits_Div64_K d) z).eval fun y5 =>
  bif y5.2.2.2 then ((math_bits_Div64_r6 (math_bits_Div64_K d) y5).eval fun y6 =>
  some y6) else ((math_bits_Div64_r7 (math_bits_Div64_K d) y5).eval fun y7 =>
  (math_bits_Div64_r8 (math_bits_Div64_K d) y7).eval fun y8 =>
  (math_bits_Div64_r9 (math_bits_Div64_K d) y8).eval fun y9 =>
  (math_bits_Div64_r10 (math_bits_Div64_K d) y9).eval fun y10 =>
  (math_bits_Div64_r11 (math_bits_Div64_K d) y10).eval fun y11 =>
  (math_bits_Div64_r12 (math_bits_Div64_K d) y11).eval fun y12 =>
  (math_bits_Div64_r13 (math_bits_Div64_K d) y12).eval fun y13 =>
  (math_bits_Div64_r14 (math_bits_Div64_K d) y13).eval fun y14 =>
  (math_bits_Div64_r15 (math_bits_Div64_K d) y14).eval fun y15 =>
  (math_bits_Div64_r16 (math_bits_Div64_K d) y15).eval fun y16 =>
  iter (math_bits_Div64_L4 d ) d y16)
def math_bits_Div64_J1  (d : Nat)  (z : Int × Int × Int × Bool) : Option (math_bits_Div64_R) :=
  (math_bits_Div64_r3 (math_bits_Div64_K d) z).eval fun y3 =>
  bif y3.2.2.2 then (none) else (math_bits_Div64_J2 d  y3)
def F_math_bits_Div64 (d : Nat) (x : math_bits_Div64_X) : Option math_bits_Div64_R :=
  (math_bits_Div64_r0 (math_bits_Div64_K d) (x.1.1, x.2.1.1, x.2.2.1.1)).eval fun y0 =>
  (math_bits_Div64_r1 (math_bits_Div64_K d) y0).eval fun y1 =>
  bif y1.2.2.2 then (none) else (math_bits_Div64_J1 d  y1)
theorem math_bits_Div64_cok (d : Nat) : COK prog (math_bits_Div64_sp (F_math_bits_Div64 d)) := by
  have hm : prog.follows .mixedOrders = true := mixed
  have hT := tys
  have hC0 : OrcOK prog (orc (math_bits_Div64_tab (math_bits_Div64_K d))) := orc_ok (by
    intro S hS
    simp only [math_bits_Div64_tab, List.mem_cons, List.not_mem_nil, or_false] at hS
    subst hS; exact math_bits_LeadingZeros64_cok d)
  have hC : OrcOK prog (orc (math_bits_Div64_tab (math_bits_Div64_K d))) := hC0
  refine cok_of (c := bodyOf f53) (fn := f53) hT (by kernel_rfl) (by kernel_rfl) (by decide) fun x r h w0 φ0 Q hend => ?_
  replace h : F_math_bits_Div64 d x = some r := h
  unfold F_math_bits_Div64 at h
  show Run prog w0 φ0 135 (bodyOf f53) ⟨[(0, .int .u64 x.1.1), (1, .int .u64 x.2.1.1), (2, .int .u64 x.2.2.1.1)], []⟩ Q
  refine run_seq ?_
  refine run_reg hm hT hC (math_bits_Div64_g0 (math_bits_Div64_K d) (x.1.1, x.2.1.1, x.2.2.1.1)) h ?_
  intro y0 h
  refine cn_then ?_
  refine run_join (r := r) (F := math_bits_Div64_J1 d ) (S := (fun z => ⟨[(0, .int .u64 z.1), (1, .int .u64 z.2.1), (2, .int .u64 z.2.2.1), (20, .bool z.2.2.2)], []⟩ : Int × Int × Int × Bool → St)) ?_ ?_
  ·
    intro z h
    unfold math_bits_Div64_J1 at h
    refine run_join (r := r) (F := math_bits_Div64_J2 d ) (S := (fun z => ⟨[(0, .int .u64 z.1), (1, .int .u64 z.2.1), (2, .int .u64 z.2.2.1), (24, .bool z.2.2.2)], []⟩ : Int × Int × Int × Bool → St)) ?_ ?_
    ·
      intro z h
      unfold math_bits_Div64_J2 at h
      refine run_seq ?_
      refine run_seq ?_
      refine run_reg hm hT hC (math_bits_Div64_g5 (math_bits_Div64_K d) z) h ?_
      intro y5 h
      refine cn_then ?_
      refine run_cond (v := y5.2.2.2) (by kernel_rfl) h ?_ ?_
      ·
        intro h
        refine run_seq ?_
        refine run_reg hm hT hC (math_bits_Div64_g6 (math_bits_Div64_K d) y5) h ?_
        intro y6 h
        refine cn_then ?_
        refine run_ret ?_
        refine cn_then_ret ?_
        cases h
        exact (hend _ (by kernel_rfl)).2
      ·
        intro h
        refine run_skip ?_
        refine cn_then ?_
        refine run_seq ?_
        refine run_reg hm hT hC (math_bits_Div64_g7 (math_bits_Div64_K d) y5) h ?_
        intro y7 h
        refine cn_then ?_
        refine run_seq ?_
        refine run_reg hm hT hC (math_bits_Div64_g8 (math_bits_Div64_K d) y7) h ?_
        intro y8 h
        refine cn_then ?_
        refine run_seq ?_
        refine run_reg hm hT hC (math_bits_Div64_g9 (math_bits_Div64_K d) y8) h ?_
        intro y9 h
        refine cn_then ?_
        refine run_seq ?_
        refine run_reg hm hT hC (math_bits_Div64_g10 (math_bits_Div64_K d) y9) h ?_
        intro y10 h
        refine cn_then ?_
        refine run_seq ?_
        refine run_reg hm hT hC (math_bits_Div64_g11 (math_bits_Div64_K d) y10) h ?_
        intro y11 h
        refine cn_then ?_
        refine run_seq ?_
        refine run_reg hm hT hC (math_bits_Div64_g12 (math_bits_Div64_K d) y11) h ?_
        intro y12 h
        refine cn_then ?_
        refine run_seq ?_
        refine run_reg hm hT hC (math_bits_Div64_g13 (math_bits_Div64_K d) y12) h ?_
        intro y13 h
        refine cn_then ?_
        refine run_seq ?_
        refine run_reg hm hT hC (math_bits_Div64_g14 (math_bits_Div64_K d) y13) h ?_
        intro y14 h
        refine cn_then ?_
        refine run_seq ?_
        refine run_reg hm hT hC (math_bits_Div64_g15 (math_bits_Div64_K d) y14) h ?_
        intro y15 h
        refine cn_then ?_
        refine run_seq ?_
        refine run_reg hm hT hC (math_bits_Div64_g16 (math_bits_Div64_K d) y15) h ?_
        intro y16 h
        refine cn_then ?_
        refine run_join (r := r) (F := math_bits_Div64_J3 d ) (S := (fun z => ⟨[(2, .int .u64 z.1), (8, .int .u64 z.2.1), (9, .int .u64 z.2.2.1), (10, .int .u64 z.2.2.2.1), (11, .int .u64 z.2.2.2.2.1), (13, .int .u64 z.2.2.2.2.2.1), (14, .int .u64 z.2.2.2.2.2.2.1), (15, .int .u64 z.2.2.2.2.2.2.2.1), (16, .int .u64 z.2.2.2.2.2.2.2.2)], []⟩ : Int × Int × Int × Int × Int × Int × Int × Int × Int → St)) ?_ ?_
        ·
          intro z h
          unfold math_bits_Div64_J3 at h
          refine run_seq ?_
          refine run_reg hm hT hC (math_bits_Div64_g21 (math_bits_Div64_K d) z) h ?_
          intro y21 h
          refine cn_then ?_
          refine run_seq ?_
          refine run_reg hm hT hC (math_bits_Div64_g22 (math_bits_Div64_K d) y21) h ?_
          intro y22 h
          refine cn_then ?_
          refine run_seq ?_
          refine run_reg hm hT hC (math_bits_Div64_g23 (math_bits_Div64_K d) y22) h ?_
          intro y23 h
          refine cn_then ?_
          refine run_join (r := r) (F := math_bits_Div64_J5 d ) (S := (fun z => ⟨[(2, .int .u64 z.1), (8, .int .u64 z.2.1), (9, .int .u64 z.2.2.1), (10, .int .u64 z.2.2.2.1), (14, .int .u64 z.2.2.2.2.1), (15, .int .u64 z.2.2.2.2.2.1), (16, .int .u64 z.2.2.2.2.2.2.1), (17, .int .u64 z.2.2.2.2.2.2.2.1), (18, .int .u64 z.2.2.2.2.2.2.2.2)], []⟩ : Int × Int × Int × Int × Int × Int × Int × Int × Int → St)) ?_ ?_
          ·
            intro z h
            unfold math_bits_Div64_J5 at h
            refine run_seq ?_
            refine run_reg hm hT hC (math_bits_Div64_g28 (math_bits_Div64_K d) z) h ?_
            intro y28 h
            refine cn_then ?_
            refine run_ret ?_
            cases h
            exact (hend _ (by kernel_rfl)).2
          intro hj5
          refine run_block ?_
          refine run_loop (G := iter (math_bits_Div64_L6 d )) (S := (fun x6 => ⟨[(2, .int .u64 x6.1), (8, .int .u64 x6.2.1), (9, .int .u64 x6.2.2.1), (10, .int .u64 x6.2.2.2.1), (14, .int .u64 x6.2.2.2.2.1), (15, .int .u64 x6.2.2.2.2.2.1), (16, .int .u64 x6.2.2.2.2.2.2.1), (17, .int .u64 x6.2.2.2.2.2.2.2.1), (18, .int .u64 x6.2.2.2.2.2.2.2.2)], []⟩ : Int × Int × Int × Int × Int × Int × Int × Int × Int → St)) (fun _ => rfl) ?_ d _ h
          intro n6 x6 h K6 hn6
          replace h : math_bits_Div64_L6 d  (iter (math_bits_Div64_L6 d ) n6) x6 = some r := h
          generalize iter (math_bits_Div64_L6 d ) n6 = self6 at h hn6
          unfold math_bits_Div64_L6 at h
          refine run_seq ?_
          refine run_seq ?_
          refine run_reg hm hT hC (math_bits_Div64_g24 (math_bits_Div64_K d) x6) h ?_
          intro y24 h
          refine cn_then ?_
          refine run_cond (v := y24.2.2.2.2.2.2.2.2.2) (by kernel_rfl) h ?_ ?_
          ·
            intro h
            refine run_skip ?_
            refine cn_then ?_
            refine run_block ?_
            refine run_seq ?_
            refine run_reg hm hT hC (math_bits_Div64_g25 (math_bits_Div64_K d) y24) h ?_
            intro y25 h
            refine cn_then ?_
            refine run_seq ?_
            refine run_reg hm hT hC (math_bits_Div64_g26 (math_bits_Div64_K d) y25) h ?_
            intro y26 h
            refine cn_then ?_
            refine run_seq ?_
            refine run_reg hm hT hC (math_bits_Div64_g27 (math_bits_Div64_K d) y26) h ?_
            intro y27 h
            refine cn_then ?_
            refine run_cond (v := y27.2.2.2.2.2.2.2.2.2) (by kernel_rfl) h ?_ ?_
            ·
              intro h
              refine run_exit ?_
              refine cn_blk_ne (by rfl) ?_
              refine cn_then_exit ?_
              refine cn_blk_eq ?_
              refine cn_num (s := ⟨[(2, .int .u64 y27.1), (8, .int .u64 y27.2.1), (9, .int .u64 y27.2.2.1), (10, .int .u64 y27.2.2.2.1), (14, .int .u64 y27.2.2.2.2.1), (15, .int .u64 y27.2.2.2.2.2.1), (16, .int .u64 y27.2.2.2.2.2.2.1), (17, .int .u64 y27.2.2.2.2.2.2.2.1), (18, .int .u64 y27.2.2.2.2.2.2.2.2.1)], []⟩) [120] (by kernel_rfl) ?_
              exact hj5 _ h
            ·
              intro h
              refine run_skip ?_
              refine cn_blk ?_
              refine cn_num (s := ⟨[(2, .int .u64 y27.1), (8, .int .u64 y27.2.1), (9, .int .u64 y27.2.2.1), (10, .int .u64 y27.2.2.2.1), (14, .int .u64 y27.2.2.2.2.1), (15, .int .u64 y27.2.2.2.2.2.1), (16, .int .u64 y27.2.2.2.2.2.2.1), (17, .int .u64 y27.2.2.2.2.2.2.2.1), (18, .int .u64 y27.2.2.2.2.2.2.2.2.1)], []⟩) [120] (by kernel_rfl) ?_
              exact hn6 _ h
          ·
            intro h
            refine run_exit ?_
            refine cn_then_exit ?_
            refine cn_then_exit ?_
            refine cn_blk_eq ?_
            refine cn_num (s := ⟨[(2, .int .u64 y24.1), (8, .int .u64 y24.2.1), (9, .int .u64 y24.2.2.1), (10, .int .u64 y24.2.2.2.1), (14, .int .u64 y24.2.2.2.2.1), (15, .int .u64 y24.2.2.2.2.2.1), (16, .int .u64 y24.2.2.2.2.2.2.1), (17, .int .u64 y24.2.2.2.2.2.2.2.1), (18, .int .u64 y24.2.2.2.2.2.2.2.2.1)], []⟩) [113] (by kernel_rfl) ?_
            exact hj5 _ h
        intro hj3
        refine run_block ?_
        refine run_loop (G := iter (math_bits_Div64_L4 d )) (S := (fun x4 => ⟨[(2, .int .u64 x4.1), (8, .int .u64 x4.2.1), (9, .int .u64 x4.2.2.1), (10, .int .u64 x4.2.2.2.1), (11, .int .u64 x4.2.2.2.2.1), (13, .int .u64 x4.2.2.2.2.2.1), (14, .int .u64 x4.2.2.2.2.2.2.1), (15, .int .u64 x4.2.2.2.2.2.2.2.1), (16, .int .u64 x4.2.2.2.2.2.2.2.2)], []⟩ : Int × Int × Int × Int × Int × Int × Int × Int × Int → St)) (fun _ => rfl) ?_ d _ h
        intro n4 x4 h K4 hn4
        replace h : math_bits_Div64_L4 d  (iter (math_bits_Div64_L4 d ) n4) x4 = some r := h
        generalize iter (math_bits_Div64_L4 d ) n4 = self4 at h hn4
        unfold math_bits_Div64_L4 at h
        refine run_seq ?_
        refine run_seq ?_
        refine run_reg hm hT hC (math_bits_Div64_g17 (math_bits_Div64_K d) x4) h ?_
        intro y17 h
        refine cn_then ?_
        refine run_cond (v := y17.2.2.2.2.2.2.2.2.2) (by kernel_rfl) h ?_ ?_
        ·
          intro h
          refine run_skip ?_
          refine cn_then ?_
          refine run_block ?_
          refine run_seq ?_
          refine run_reg hm hT hC (math_bits_Div64_g18 (math_bits_Div64_K d) y17) h ?_
          intro y18 h
          refine cn_then ?_
          refine run_seq ?_
          refine run_reg hm hT hC (math_bits_Div64_g19 (math_bits_Div64_K d) y18) h ?_
          intro y19 h
          refine cn_then ?_
          refine run_seq ?_
          refine run_reg hm hT hC (math_bits_Div64_g20 (math_bits_Div64_K d) y19) h ?_
          intro y20 h
          refine cn_then ?_
          refine run_cond (v := y20.2.2.2.2.2.2.2.2.2) (by kernel_rfl) h ?_ ?_
          ·
            intro h
            refine run_exit ?_
            refine cn_blk_ne (by rfl) ?_
            refine cn_then_exit ?_
            refine cn_blk_eq ?_
            refine cn_num (s := ⟨[(2, .int .u64 y20.1), (8, .int .u64 y20.2.1), (9, .int .u64 y20.2.2.1), (10, .int .u64 y20.2.2.2.1), (11, .int .u64 y20.2.2.2.2.1), (13, .int .u64 y20.2.2.2.2.2.1), (14, .int .u64 y20.2.2.2.2.2.2.1), (15, .int .u64 y20.2.2.2.2.2.2.2.1), (16, .int .u64 y20.2.2.2.2.2.2.2.2.1)], []⟩) [85] (by kernel_rfl) ?_
            exact hj3 _ h
          ·
            intro h
            refine run_skip ?_
            refine cn_blk ?_
            refine cn_num (s := ⟨[(2, .int .u64 y20.1), (8, .int .u64 y20.2.1), (9, .int .u64 y20.2.2.1), (10, .int .u64 y20.2.2.2.1), (11, .int .u64 y20.2.2.2.2.1), (13, .int .u64 y20.2.2.2.2.2.1), (14, .int .u64 y20.2.2.2.2.2.2.1), (15, .int .u64 y20.2.2.2.2.2.2.2.1), (16, .int .u64 y20.2.2.2.2.2.2.2.2.1)], []⟩) [85] (by kernel_rfl) ?_
            exact hn4 _ h
        ·
          intro h
          refine run_exit ?_
          refine cn_then_exit ?_
          refine cn_then_exit ?_
          refine cn_blk_eq ?_
          refine cn_num (s := ⟨[(2, .int .u64 y17.1), (8, .int .u64 y17.2.1), (9, .int .u64 y17.2.2.1), (10, .int .u64 y17.2.2.2.1), (11, .int .u64 y17.2.2.2.2.1), (13, .int .u64 y17.2.2.2.2.2.1), (14, .int .u64 y17.2.2.2.2.2.2.1), (15, .int .u64 y17.2.2.2.2.2.2.2.1), (16, .int .u64 y17.2.2.2.2.2.2.2.2.1)], []⟩) [78] (by kernel_rfl) ?_
          exact hj3 _ h
    intro hj2
    refine run_seq ?_
    refine run_reg hm hT hC (math_bits_Div64_g3 (math_bits_Div64_K d) z) h ?_
    intro y3 h
    refine cn_then ?_
    refine run_cond (v := y3.2.2.2) (by kernel_rfl) h ?_ ?_
    ·
      intro h
      cases h
    ·
      intro h
      refine run_skip ?_
      exact hj2 _ h
  intro hj1
  refine run_seq ?_
  refine run_reg hm hT hC (math_bits_Div64_g1 (math_bits_Div64_K d) y0) h ?_
  intro y1 h
  refine cn_then ?_
  refine run_cond (v := y1.2.2.2) (by kernel_rfl) h ?_ ?_
  ·
    intro h
    cases h
  ·
    intro h
    refine run_skip ?_
    exact hj1 _ h
abbrev math_bits_Rem64_ps : List Pk := [.row Ru false, .row Ru false, .row Ru false]
abbrev math_bits_Rem64_X : Type := Du × Du × Du × Unit
abbrev math_bits_Rem64_R : Type := Int
def math_bits_Rem64_enc (r : math_bits_Rem64_R) : LV × List Ob := (.int .u64 r, [])
def math_bits_Rem64_sp (F : math_bits_Rem64_X → Option math_bits_Rem64_R) : Go.Tx.Spec := ⟨52, math_bits_Rem64_ps, math_bits_Rem64_R, F, math_bits_Rem64_enc⟩
abbrev math_bits_Rem64_C : Type := (math_bits_Div64_X → Option math_bits_Div64_R) × Unit
def math_bits_Rem64_K (d : Nat) : math_bits_Rem64_C := (F_math_bits_Div64 d, ())
def math_bits_Rem64_tab (C : math_bits_Rem64_C) : List Go.Tx.Spec := [math_bits_Div64_sp C.1]
abbrev math_bits_Rem64_Y0i : Type := Int × Int × Int
def math_bits_Rem64_S0i (v : math_bits_Rem64_Y0i) : St := ⟨[(0, .int .u64 v.1), (1, .int .u64 v.2.1), (2, .int .u64 v.2.2)], []⟩
def math_bits_Rem64_r0 (C : math_bits_Rem64_C) (v : math_bits_Rem64_Y0i) : Dt math_bits_Rem64_Y0i := (Dt.ret (v.1, v.2.1, v.2.2))
theorem math_bits_Rem64_g0 (C : math_bits_Rem64_C) (v : math_bits_Rem64_Y0i) : treg tysT (orc (math_bits_Rem64_tab C)) 19 (regO (bodyOf f52) 0) false [(0, .any), (1, .any), (2, .any)] (math_bits_Rem64_S0i v) some = (math_bits_Rem64_r0 C v).eval fun y => some (math_bits_Rem64_S0i y) := by kernel_rfl
abbrev math_bits_Rem64_Y1 : Type := Int
def math_bits_Rem64_S1 (v : math_bits_Rem64_Y1) : St := ⟨[(8, .int .u64 v)], []⟩
def math_bits_Rem64_r1 (C : math_bits_Rem64_C) (v : math_bits_Rem64_Y0i) : Dt math_bits_Rem64_Y1 := (Dt.ite (v.2.2 == (0:Int)) Dt.fail (Dt.bnd (C.1 (((Int.tmod v.1 v.2.2), ()), (v.2.1, ()), (v.2.2, ()), ())) fun r1 => (Dt.ret r1.2)))
theorem math_bits_Rem64_g1 (C : math_bits_Rem64_C) (v : math_bits_Rem64_Y0i) : treg tysT (orc (math_bits_Rem64_tab C)) 19 (regO (bodyOf f52) 1) false [(8, .any)] (math_bits_Rem64_S0i v) some = (math_bits_Rem64_r1 C v).eval fun y => some (math_bits_Rem64_S1 y) := by kernel_rfl
abbrev math_bits_Rem64_Y2 : Type := Int
def math_bits_Rem64_S2 (v : math_bits_Rem64_Y2) : St := ⟨[(6, .int .u64 v)], []⟩
def math_bits_Rem64_r2 (C : math_bits_Rem64_C) (v : math_bits_Rem64_Y1) : Dt math_bits_Rem64_Y2 := (Dt.ret v)
theorem math_bits_Rem64_g2 (C : math_bits_Rem64_C) (v : math_bits_Rem64_Y1) : treg tysT (orc (math_bits_Rem64_tab C)) 19 (regO (bodyOf f52) 2) false [(6, .any)] (math_bits_Rem64_S1 v) some = (math_bits_Rem64_r2 C v).eval fun y => some (math_bits_Rem64_S2 y) := by kernel_rfl
def F_math_bits_Rem64 (d : Nat) (x : math_bits_Rem64_X) : Option math_bits_Rem64_R :=
  (math_bits_Rem64_r0 (math_bits_Rem64_K d) (x.1.1, x.2.1.1, x.2.2.1.1)).eval fun y0 =>
  (math_bits_Rem64_r1 (math_bits_Rem64_K d) y0).eval fun y1 =>
  (math_bits_Rem64_r2 (math_bits_Rem64_K d) y1).eval fun y2 =>
  some y2
theorem math_bits_Rem64_cok (d : Nat) : COK prog (math_bits_Rem64_sp (F_math_bits_Rem64 d)) := by
  have hm : prog.follows .mixedOrders = true := mixed
  have hT := tys
  have hC0 : OrcOK prog (orc (math_bits_Rem64_tab (math_bits_Rem64_K d))) := orc_ok (by
    intro S hS
    simp only [math_bits_Rem64_tab, List.mem_cons, List.not_mem_nil, or_false] at hS
    subst hS; exact math_bits_Div64_cok d)
  have hC : OrcOK prog (orc (math_bits_Rem64_tab (math_bits_Rem64_K d))) := hC0
  refine cok_of (c := bodyOf f52) (fn := f52) hT (by kernel_rfl) (by kernel_rfl) (by decide) fun x r h w0 φ0 Q hend => ?_
  replace h : F_math_bits_Rem64 d x = some r := h
  unfold F_math_bits_Rem64 at h
  show Run prog w0 φ0 19 (bodyOf f52) ⟨[(0, .int .u64 x.1.1), (1, .int .u64 x.2.1.1), (2, .int .u64 x.2.2.1.1)], []⟩ Q
  refine run_seq ?_
  refine run_reg hm hT hC (math_bits_Rem64_g0 (math_bits_Rem64_K d) (x.1.1, x.2.1.1, x.2.2.1.1)) h ?_
  intro y0 h
  refine cn_then ?_
  refine run_seq ?_
  refine run_reg hm hT hC (math_bits_Rem64_g1 (math_bits_Rem64_K d) y0) h ?_
  intro y1 h
  refine cn_then ?_
  refine run_seq ?_
  refine run_reg hm hT hC (math_bits_Rem64_g2 (math_bits_Rem64_K d) y1) h ?_
  intro y2 h
  refine cn_then ?_
  refine run_ret ?_
  cases h
  exact (hend _ (by kernel_rfl)).2
abbrev course_At_ps : List Pk := [.row Riii true, .row Rii true]
abbrev course_At_X : Type := Diii × Dii × Unit
abbrev course_At_R : Type := Int × Int × Int
def course_At_enc (r : course_At_R) : LV × List Ob := (.tup [.agg [.int .i64 r.1, .int .i64 r.2.1], .int .i64 r.2.2], [])
def course_At_sp (F : course_At_X → Option course_At_R) : Go.Tx.Spec := ⟨31, course_At_ps, course_At_R, F, course_At_enc⟩
abbrev course_At_C : Type := (course_Check_X → Option course_Check_R) × (ratio_Check_X → Option ratio_Check_R) × (course_sum_X → Option course_sum_R) × (math_bits_Rem64_X → Option math_bits_Rem64_R) × (math_bits_Div64_X → Option math_bits_Div64_R) × Unit
def course_At_K (d : Nat) : course_At_C := (F_course_Check d, F_ratio_Check d, F_course_sum d, F_math_bits_Rem64 d, F_math_bits_Div64 d, ())
def course_At_tab (C : course_At_C) : List Go.Tx.Spec := [course_Check_sp C.1, ratio_Check_sp C.2.1, course_sum_sp C.2.2.1, math_bits_Rem64_sp C.2.2.2.1, math_bits_Div64_sp C.2.2.2.2.1]
abbrev course_At_Y0i : Type := Int × Int × Int × Int × Int
def course_At_S0i (v : course_At_Y0i) : St := ⟨[(0, .agg [.int .i64 v.1, .int .i64 v.2.1, .int .i64 v.2.2.1]), (1, .agg [.int .i64 v.2.2.2.1, .int .i64 v.2.2.2.2])], []⟩
abbrev course_At_Y0 : Type := Int × Int × Int × Int × Int × Int × Int
def course_At_S0 (v : course_At_Y0) : St := ⟨[(2, .ptr 0 0), (3, .ptr 1 0), (4, .ptr 2 0)], [.cells [.int .i64 v.1, .int .i64 v.2.1, .int .i64 v.2.2.1], .cells [.int .i64 v.2.2.2.1, .int .i64 v.2.2.2.2.1], .cells [.int .i64 v.2.2.2.2.2.1, .int .i64 v.2.2.2.2.2.2]]⟩
def course_At_r0 (C : course_At_C) (v : course_At_Y0i) : Dt course_At_Y0 := (Dt.ret (v.1, v.2.1, v.2.2.1, v.2.2.2.1, v.2.2.2.2, (0:Int), (0:Int)))
theorem course_At_g0 (C : course_At_C) (v : course_At_Y0i) : treg tysT (orcI 51 sub64V (orc (course_At_tab C))) 111 (regO (bodyOf f31) 0) false [(2, .any), (3, .any), (4, .any)] (course_At_S0i v) some = (course_At_r0 C v).eval fun y => some (course_At_S0 y) := by kernel_rfl
abbrev course_At_Y1 : Type := Int × Int × Int × Int × Int × Int × Int × Int
def course_At_S1 (v : course_At_Y1) : St := ⟨[(2, .ptr 0 0), (3, .ptr 1 0), (4, .ptr 2 0), (6, .int .i64 v.1)], [.cells [.int .i64 v.2.1, .int .i64 v.2.2.1, .int .i64 v.2.2.2.1], .cells [.int .i64 v.2.2.2.2.1, .int .i64 v.2.2.2.2.2.1], .cells [.int .i64 v.2.2.2.2.2.2.1, .int .i64 v.2.2.2.2.2.2.2]]⟩
def course_At_r1 (C : course_At_C) (v : course_At_Y0) : Dt course_At_Y1 := (Dt.bnd (C.1 ((v.1, v.2.1, v.2.2.1, ()), ())) fun r1 => (Dt.bnd (C.2.1 ((v.2.2.2.1, v.2.2.2.2.1, ()), ())) fun r2 => (Dt.ret ((tmax r1 r2), v.1, v.2.1, v.2.2.1, v.2.2.2.1, v.2.2.2.2.1, v.2.2.2.2.2.1, v.2.2.2.2.2.2))))
theorem course_At_g1 (C : course_At_C) (v : course_At_Y0) : treg tysT (orcI 51 sub64V (orc (course_At_tab C))) 111 (regO (bodyOf f31) 1) true [(2, .any), (3, .any), (4, .any), (6, .any)] (course_At_S0 v) some = (course_At_r1 C v).eval fun y => some (course_At_S1 y) := by kernel_rfl
abbrev course_At_Y2 : Type := Int × Bool × Int × Int × Int × Int × Int × Int × Int
def course_At_S2 (v : course_At_Y2) : St := ⟨[(2, .ptr 0 0), (3, .ptr 1 0), (4, .ptr 2 0), (6, .int .i64 v.1), (24, .bool v.2.1)], [.cells [.int .i64 v.2.2.1, .int .i64 v.2.2.2.1, .int .i64 v.2.2.2.2.1], .cells [.int .i64 v.2.2.2.2.2.1, .int .i64 v.2.2.2.2.2.2.1], .cells [.int .i64 v.2.2.2.2.2.2.2.1, .int .i64 v.2.2.2.2.2.2.2.2]]⟩
def course_At_r2 (C : course_At_C) (v : course_At_Y1) : Dt course_At_Y2 := (Dt.ret (v.1, (v.1 != (0:Int)), v.2.1, v.2.2.1, v.2.2.2.1, v.2.2.2.2.1, v.2.2.2.2.2.1, v.2.2.2.2.2.2.1, v.2.2.2.2.2.2.2))
theorem course_At_g2 (C : course_At_C) (v : course_At_Y1) : treg tysT (orcI 51 sub64V (orc (course_At_tab C))) 111 (regO (bodyOf f31) 2) false [(2, .any), (3, .any), (4, .any), (6, .any), (24, .any)] (course_At_S1 v) some = (course_At_r2 C v).eval fun y => some (course_At_S2 y) := by kernel_rfl
abbrev course_At_Y3 : Type := Int × Int × Int
def course_At_S3 (v : course_At_Y3) : St := ⟨[(4, .ptr 0 0), (5, .int .i64 v.1)], [.cells [.int .i64 v.2.1, .int .i64 v.2.2]]⟩
def course_At_r3 (C : course_At_C) (v : course_At_Y2) : Dt course_At_Y3 := (Dt.ret (v.1, (0:Int), (0:Int)))
theorem course_At_g3 (C : course_At_C) (v : course_At_Y2) : treg tysT (orcI 51 sub64V (orc (course_At_tab C))) 111 (regO (bodyOf f31) 3) false [(4, .any), (5, .any)] (course_At_S2 v) some = (course_At_r3 C v).eval fun y => some (course_At_S3 y) := by kernel_rfl
abbrev course_At_Y4 : Type := Int × Int × Int × Int × Int × Int
def course_At_S4 (v : course_At_Y4) : St := ⟨[(3, .ptr 0 0), (4, .ptr 1 0), (7, .ptr 2 0)], [.cells [.int .i64 v.1, .int .i64 v.2.1], .cells [.int .i64 v.2.2.1, .int .i64 v.2.2.2.1], .cells [.int .i64 v.2.2.2.2.1, .int .u64 v.2.2.2.2.2]]⟩
def course_At_r4 (C : course_At_C) (v : course_At_Y2) : Dt course_At_Y4 := (Dt.bnd (C.2.2.1 ((v.2.2.2.1, v.2.2.2.2.2.2.1, v.2.2.2.2.1, v.2.2.2.2.2.1, ()), ())) fun r1 => (Dt.ret (v.2.2.2.2.2.1, v.2.2.2.2.2.2.1, v.2.2.2.2.2.2.2.1, v.2.2.2.2.2.2.2.2, r1.1, r1.2)))
theorem course_At_g4 (C : course_At_C) (v : course_At_Y2) : treg tysT (orcI 51 sub64V (orc (course_At_tab C))) 111 (regO (bodyOf f31) 4) false [(3, .any), (4, .any), (7, .any)] (course_At_S2 v) some = (course_At_r4 C v).eval fun y => some (course_At_S4 y) := by kernel_rfl
abbrev course_At_Y5 : Type := Bool × Int × Int × Int × Int × Int × Int
def course_At_S5 (v : course_At_Y5) : St := ⟨[(3, .ptr 0 0), (4, .ptr 1 0), (7, .ptr 2 0), (8, .bool v.1)], [.cells [.int .i64 v.2.1, .int .i64 v.2.2.1], .cells [.int .i64 v.2.2.2.1, .int .i64 v.2.2.2.2.1], .cells [.int .i64 v.2.2.2.2.2.1, .int .u64 v.2.2.2.2.2.2]]⟩
def course_At_r5 (C : course_At_C) (v : course_At_Y4) : Dt course_At_Y5 := (Dt.ret ((decide (v.2.2.2.2.1 < (0:Int))), v.1, v.2.1, v.2.2.1, v.2.2.2.1, v.2.2.2.2.1, v.2.2.2.2.2))
theorem course_At_g5 (C : course_At_C) (v : course_At_Y4) : treg tysT (orcI 51 sub64V (orc (course_At_tab C))) 111 (regO (bodyOf f31) 5) false [(3, .any), (4, .any), (7, .any), (8, .any)] (course_At_S4 v) some = (course_At_r5 C v).eval fun y => some (course_At_S5 y) := by kernel_rfl
abbrev course_At_Y6 : Type := Bool × Bool × Int × Int × Int × Int × Int × Int
def course_At_S6 (v : course_At_Y6) : St := ⟨[(3, .ptr 0 0), (4, .ptr 1 0), (7, .ptr 2 0), (8, .bool v.1), (42, .bool v.2.1)], [.cells [.int .i64 v.2.2.1, .int .i64 v.2.2.2.1], .cells [.int .i64 v.2.2.2.2.1, .int .i64 v.2.2.2.2.2.1], .cells [.int .i64 v.2.2.2.2.2.2.1, .int .u64 v.2.2.2.2.2.2.2]]⟩
def course_At_r6 (C : course_At_C) (v : course_At_Y5) : Dt course_At_Y6 := (Dt.ret (v.1, v.1, v.2.1, v.2.2.1, v.2.2.2.1, v.2.2.2.2.1, v.2.2.2.2.2.1, v.2.2.2.2.2.2))
theorem course_At_g6 (C : course_At_C) (v : course_At_Y5) : treg tysT (orcI 51 sub64V (orc (course_At_tab C))) 111 (regO (bodyOf f31) 6) false [(3, .any), (4, .any), (7, .any), (8, .any), (42, .any)] (course_At_S5 v) some = (course_At_r6 C v).eval fun y => some (course_At_S6 y) := by kernel_rfl
abbrev course_At_Y7 : Type := Bool × Int × Int × Int × Int × Int × Int × Int × Int
def course_At_S7 (v : course_At_Y7) : St := ⟨[(3, .ptr 0 0), (4, .ptr 1 0), (7, .ptr 2 0), (8, .bool v.1), (9, .int .u64 v.2.1), (10, .int .u64 v.2.2.1)], [.cells [.int .i64 v.2.2.2.1, .int .i64 v.2.2.2.2.1], .cells [.int .i64 v.2.2.2.2.2.1, .int .i64 v.2.2.2.2.2.2.1], .cells [.int .i64 v.2.2.2.2.2.2.2.1, .int .u64 v.2.2.2.2.2.2.2.2]]⟩
def course_At_r7 (C : course_At_C) (v : course_At_Y6) : Dt course_At_Y7 := (Dt.bnd (sub64V ((0:Int)) (v.2.2.2.2.2.2.2) ((0:Int))) fun r1 => (Dt.ret (v.1, r1.1, r1.2, v.2.2.1, v.2.2.2.1, v.2.2.2.2.1, v.2.2.2.2.2.1, v.2.2.2.2.2.2.1, v.2.2.2.2.2.2.2)))
theorem course_At_g7 (C : course_At_C) (v : course_At_Y6) : treg tysT (orcI 51 sub64V (orc (course_At_tab C))) 111 (regO (bodyOf f31) 7) false [(3, .any), (4, .any), (7, .any), (8, .any), (9, .any), (10, .any)] (course_At_S6 v) some = (course_At_r7 C v).eval fun y => some (course_At_S7 y) := by kernel_rfl
def course_At_r8 (C : course_At_C) (v : course_At_Y7) : Dt course_At_Y5 := (Dt.ret (v.1, v.2.2.2.1, v.2.2.2.2.1, v.2.2.2.2.2.1, v.2.2.2.2.2.2.1, (IntKind.wrap .i64 ((IntKind.wrap .i64 (0 - v.2.2.2.2.2.2.2.1)) - (IntKind.wrap .i64 v.2.2.1))), v.2.1))
theorem course_At_g8 (C : course_At_C) (v : course_At_Y7) : treg tysT (orcI 51 sub64V (orc (course_At_tab C))) 111 (regO (bodyOf f31) 8) false [(3, .any), (4, .any), (7, .any), (8, .any)] (course_At_S7 v) some = (course_At_r8 C v).eval fun y => some (course_At_S5 y) := by kernel_rfl
abbrev course_At_Y9 : Type := Bool × Int × Int × Int × Int × Int
def course_At_S9 (v : course_At_Y9) : St := ⟨[(4, .ptr 0 0), (7, .ptr 1 0), (8, .bool v.1), (11, .int .u64 v.2.1)], [.cells [.int .i64 v.2.2.1, .int .i64 v.2.2.2.1], .cells [.int .i64 v.2.2.2.2.1, .int .u64 v.2.2.2.2.2]]⟩
def course_At_r9 (C : course_At_C) (v : course_At_Y5) : Dt course_At_Y9 := (Dt.ret (v.1, (IntKind.wrap .u64 v.2.2.1), v.2.2.2.1, v.2.2.2.2.1, v.2.2.2.2.2.1, v.2.2.2.2.2.2))
theorem course_At_g9 (C : course_At_C) (v : course_At_Y5) : treg tysT (orcI 51 sub64V (orc (course_At_tab C))) 111 (regO (bodyOf f31) 9) false [(4, .any), (7, .any), (8, .any), (11, .any)] (course_At_S5 v) some = (course_At_r9 C v).eval fun y => some (course_At_S9 y) := by kernel_rfl
abbrev course_At_Y10 : Type := Bool × Int × Int × Int × Int × Int × Int
def course_At_S10 (v : course_At_Y10) : St := ⟨[(4, .ptr 0 0), (7, .ptr 1 0), (8, .bool v.1), (11, .int .u64 v.2.1), (12, .int .u64 v.2.2.1)], [.cells [.int .i64 v.2.2.2.1, .int .i64 v.2.2.2.2.1], .cells [.int .i64 v.2.2.2.2.2.1, .int .u64 v.2.2.2.2.2.2]]⟩
def course_At_r10 (C : course_At_C) (v : course_At_Y9) : Dt course_At_Y10 := (Dt.bnd (C.2.2.2.1 (((IntKind.wrap .u64 v.2.2.2.2.1), ()), (v.2.2.2.2.2, ()), (v.2.1, ()), ())) fun r1 => (Dt.ret (v.1, v.2.1, r1, v.2.2.1, v.2.2.2.1, v.2.2.2.2.1, v.2.2.2.2.2)))
theorem course_At_g10 (C : course_At_C) (v : course_At_Y9) : treg tysT (orcI 51 sub64V (orc (course_At_tab C))) 111 (regO (bodyOf f31) 10) false [(4, .any), (7, .any), (8, .any), (11, .any), (12, .any)] (course_At_S9 v) some = (course_At_r10 C v).eval fun y => some (course_At_S10 y) := by kernel_rfl
abbrev course_At_Y11 : Type := Bool × Int × Int × Int × Int × Int × Int × Int
def course_At_S11 (v : course_At_Y11) : St := ⟨[(4, .ptr 0 0), (7, .ptr 1 0), (8, .bool v.1), (11, .int .u64 v.2.1), (12, .int .u64 v.2.2.1), (13, .int .u64 v.2.2.2.1)], [.cells [.int .i64 v.2.2.2.2.1, .int .i64 v.2.2.2.2.2.1], .cells [.int .i64 v.2.2.2.2.2.2.1, .int .u64 v.2.2.2.2.2.2.2]]⟩
def course_At_r11 (C : course_At_C) (v : course_At_Y10) : Dt course_At_Y11 := (Dt.ret (v.1, v.2.1, v.2.2.1, v.2.1, v.2.2.2.1, v.2.2.2.2.1, v.2.2.2.2.2.1, v.2.2.2.2.2.2))
theorem course_At_g11 (C : course_At_C) (v : course_At_Y10) : treg tysT (orcI 51 sub64V (orc (course_At_tab C))) 111 (regO (bodyOf f31) 11) false [(4, .any), (7, .any), (8, .any), (11, .any), (12, .any), (13, .any)] (course_At_S10 v) some = (course_At_r11 C v).eval fun y => some (course_At_S11 y) := by kernel_rfl
abbrev course_At_Y12 : Type := Bool × Int × Int × Int × Bool × Int × Int × Int × Int
def course_At_S12 (v : course_At_Y12) : St := ⟨[(4, .ptr 0 0), (7, .ptr 1 0), (8, .bool v.1), (11, .int .u64 v.2.1), (12, .int .u64 v.2.2.1), (13, .int .u64 v.2.2.2.1), (69, .bool v.2.2.2.2.1)], [.cells [.int .i64 v.2.2.2.2.2.1, .int .i64 v.2.2.2.2.2.2.1], .cells [.int .i64 v.2.2.2.2.2.2.2.1, .int .u64 v.2.2.2.2.2.2.2.2]]⟩
def course_At_r12 (C : course_At_C) (v : course_At_Y11) : Dt course_At_Y12 := (Dt.ret (v.1, v.2.1, v.2.2.1, v.2.2.2.1, (decide (v.2.2.1 > (0:Int))), v.2.2.2.2.1, v.2.2.2.2.2.1, v.2.2.2.2.2.2.1, v.2.2.2.2.2.2.2))
theorem course_At_g12 (C : course_At_C) (v : course_At_Y11) : treg tysT (orcI 51 sub64V (orc (course_At_tab C))) 111 (regO (bodyOf f31) 12) false [(4, .any), (7, .any), (8, .any), (11, .any), (12, .any), (13, .any), (69, .any)] (course_At_S11 v) some = (course_At_r12 C v).eval fun y => some (course_At_S12 y) := by kernel_rfl
def course_At_r13 (C : course_At_C) (v : course_At_Y12) : Dt course_At_Y11 := (Dt.ite (v.2.2.1 == (0:Int)) Dt.fail (Dt.ret (v.1, v.2.1, (Int.tmod v.2.2.2.1 v.2.2.1), v.2.2.1, v.2.2.2.2.2.1, v.2.2.2.2.2.2.1, v.2.2.2.2.2.2.2.1, v.2.2.2.2.2.2.2.2)))
theorem course_At_g13 (C : course_At_C) (v : course_At_Y12) : treg tysT (orcI 51 sub64V (orc (course_At_tab C))) 111 (regO (bodyOf f31) 13) true [(4, .any), (7, .any), (8, .any), (11, .any), (12, .any), (13, .any)] (course_At_S12 v) some = (course_At_r13 C v).eval fun y => some (course_At_S11 y) := by kernel_rfl
abbrev course_At_Y14 : Type := Bool × Int × Int × Int × Int × Int × Int × Int
def course_At_S14 (v : course_At_Y14) : St := ⟨[(4, .ptr 0 0), (7, .ptr 1 0), (8, .bool v.1), (11, .int .u64 v.2.1), (13, .int .u64 v.2.2.1), (14, .int .u64 v.2.2.2.1)], [.cells [.int .i64 v.2.2.2.2.1, .int .i64 v.2.2.2.2.2.1], .cells [.int .i64 v.2.2.2.2.2.2.1, .int .u64 v.2.2.2.2.2.2.2]]⟩
def course_At_r14 (C : course_At_C) (v : course_At_Y12) : Dt course_At_Y14 := (Dt.ite (v.2.2.2.1 == (0:Int)) Dt.fail (Dt.ret (v.1, v.2.1, v.2.2.2.1, (IntKind.wrap .u64 (Int.tdiv (IntKind.wrap .u64 v.2.2.2.2.2.2.2.1) v.2.2.2.1)), v.2.2.2.2.2.1, v.2.2.2.2.2.2.1, v.2.2.2.2.2.2.2.1, v.2.2.2.2.2.2.2.2)))
theorem course_At_g14 (C : course_At_C) (v : course_At_Y12) : treg tysT (orcI 51 sub64V (orc (course_At_tab C))) 111 (regO (bodyOf f31) 14) false [(4, .any), (7, .any), (8, .any), (11, .any), (13, .any), (14, .any)] (course_At_S12 v) some = (course_At_r14 C v).eval fun y => some (course_At_S14 y) := by kernel_rfl
abbrev course_At_Y15 : Type := Bool × Int × Int × Int × Int × Int × Int
def course_At_S15 (v : course_At_Y15) : St := ⟨[(4, .ptr 0 0), (8, .bool v.1), (11, .int .u64 v.2.1), (13, .int .u64 v.2.2.1), (14, .int .u64 v.2.2.2.1), (15, .int .u64 v.2.2.2.2.1)], [.cells [.int .i64 v.2.2.2.2.2.1, .int .i64 v.2.2.2.2.2.2]]⟩
def course_At_r15 (C : course_At_C) (v : course_At_Y14) : Dt course_At_Y15 := (Dt.ite (v.2.2.1 == (0:Int)) Dt.fail (Dt.bnd (C.2.2.2.2.1 (((Int.tmod (IntKind.wrap .u64 v.2.2.2.2.2.2.1) v.2.2.1), ()), (v.2.2.2.2.2.2.2, ()), (v.2.2.1, ()), ())) fun r1 => (Dt.ret (v.1, v.2.1, v.2.2.1, v.2.2.2.1, r1.1, v.2.2.2.2.1, v.2.2.2.2.2.1))))
theorem course_At_g15 (C : course_At_C) (v : course_At_Y14) : treg tysT (orcI 51 sub64V (orc (course_At_tab C))) 111 (regO (bodyOf f31) 15) true [(4, .any), (8, .any), (11, .any), (13, .any), (14, .any), (15, .any)] (course_At_S14 v) some = (course_At_r15 C v).eval fun y => some (course_At_S15 y) := by kernel_rfl
abbrev course_At_Y16 : Type := Bool × Int × Int × Int × Bool × Int × Int
def course_At_S16 (v : course_At_Y16) : St := ⟨[(4, .ptr 0 0), (8, .bool v.1), (11, .int .u64 v.2.1), (13, .int .u64 v.2.2.1), (15, .int .u64 v.2.2.2.1), (96, .bool v.2.2.2.2.1)], [.cells [.int .i64 v.2.2.2.2.2.1, .int .i64 v.2.2.2.2.2.2]]⟩
def course_At_r16 (C : course_At_C) (v : course_At_Y15) : Dt course_At_Y16 := (Dt.ite (decide (v.2.2.2.1 > (0:Int))) (Dt.ret (v.1, v.2.1, v.2.2.1, v.2.2.2.2.1, true, v.2.2.2.2.2.1, v.2.2.2.2.2.2)) (Dt.ret (v.1, v.2.1, v.2.2.1, v.2.2.2.2.1, (decide (v.2.2.2.2.1 > (9223372036854775807:Int))), v.2.2.2.2.2.1, v.2.2.2.2.2.2)))
theorem course_At_g16 (C : course_At_C) (v : course_At_Y15) : treg tysT (orcI 51 sub64V (orc (course_At_tab C))) 111 (regO (bodyOf f31) 16) false [(4, .any), (8, .any), (11, .any), (13, .any), (15, .any), (96, .any)] (course_At_S15 v) some = (course_At_r16 C v).eval fun y => some (course_At_S16 y) := by kernel_rfl
def course_At_r17 (C : course_At_C) (v : course_At_Y16) : Dt course_At_Y3 := (Dt.ret ((16:Int), (0:Int), (0:Int)))
theorem course_At_g17 (C : course_At_C) (v : course_At_Y16) : treg tysT (orcI 51 sub64V (orc (course_At_tab C))) 111 (regO (bodyOf f31) 17) false [(4, .any), (5, .any)] (course_At_S16 v) some = (course_At_r17 C v).eval fun y => some (course_At_S3 y) := by kernel_rfl
abbrev course_At_Y18 : Type := Bool × Int × Int × Int × Int
def course_At_S18 (v : course_At_Y18) : St := ⟨[(4, .ptr 0 0), (8, .bool v.1), (17, .ptr 1 0)], [.cells [.int .i64 v.2.1, .int .i64 v.2.2.1], .cells [.int .i64 v.2.2.2.1, .int .i64 v.2.2.2.2]]⟩
def course_At_r18 (C : course_At_C) (v : course_At_Y16) : Dt course_At_Y18 := (Dt.ite (v.2.2.1 == (0:Int)) Dt.fail (Dt.ret (v.1, v.2.2.2.2.2.1, v.2.2.2.2.2.2, (IntKind.wrap .i64 v.2.2.2.1), (IntKind.wrap .i64 (IntKind.wrap .u64 (Int.tdiv v.2.1 v.2.2.1))))))
theorem course_At_g18 (C : course_At_C) (v : course_At_Y16) : treg tysT (orcI 51 sub64V (orc (course_At_tab C))) 111 (regO (bodyOf f31) 18) false [(4, .any), (8, .any), (17, .any)] (course_At_S16 v) some = (course_At_r18 C v).eval fun y => some (course_At_S18 y) := by kernel_rfl
abbrev course_At_Y19 : Type := Bool × Int × Int × Int × Int
def course_At_S19 (v : course_At_Y19) : St := ⟨[(4, .ptr 0 0), (17, .ptr 1 0), (105, .bool v.1)], [.cells [.int .i64 v.2.1, .int .i64 v.2.2.1], .cells [.int .i64 v.2.2.2.1, .int .i64 v.2.2.2.2]]⟩
def course_At_r19 (C : course_At_C) (v : course_At_Y18) : Dt course_At_Y19 := (Dt.ret (v.1, v.2.1, v.2.2.1, v.2.2.2.1, v.2.2.2.2))
theorem course_At_g19 (C : course_At_C) (v : course_At_Y18) : treg tysT (orcI 51 sub64V (orc (course_At_tab C))) 111 (regO (bodyOf f31) 19) false [(4, .any), (17, .any), (105, .any)] (course_At_S18 v) some = (course_At_r19 C v).eval fun y => some (course_At_S19 y) := by kernel_rfl
abbrev course_At_Y20 : Type := Int × Int × Int × Int
def course_At_S20 (v : course_At_Y20) : St := ⟨[(4, .ptr 0 0), (17, .ptr 1 0)], [.cells [.int .i64 v.1, .int .i64 v.2.1], .cells [.int .i64 v.2.2.1, .int .i64 v.2.2.2]]⟩
def course_At_r20 (C : course_At_C) (v : course_At_Y19) : Dt course_At_Y20 := (Dt.ret (v.2.1, v.2.2.1, (IntKind.wrap .i64 (0 - v.2.2.2.1)), v.2.2.2.2))
theorem course_At_g20 (C : course_At_C) (v : course_At_Y19) : treg tysT (orcI 51 sub64V (orc (course_At_tab C))) 111 (regO (bodyOf f31) 20) false [(4, .any), (17, .any)] (course_At_S19 v) some = (course_At_r20 C v).eval fun y => some (course_At_S20 y) := by kernel_rfl
def course_At_r21 (C : course_At_C) (v : course_At_Y20) : Dt course_At_Y3 := (Dt.ret ((0:Int), v.2.2.1, v.2.2.2))
theorem course_At_g21 (C : course_At_C) (v : course_At_Y20) : treg tysT (orcI 51 sub64V (orc (course_At_tab C))) 111 (regO (bodyOf f31) 21) false [(4, .any), (5, .any)] (course_At_S20 v) some = (course_At_r21 C v).eval fun y => some (course_At_S3 y) := by kernel_rfl
def course_At_J3  (d : Nat)  (z : Int × Int × Int × Int) : Option (course_At_R) :=
  (course_At_r21 (course_At_K d) z).eval fun y21 =>
  some (y21.2.1, y21.2.2, y21.1)
def course_At_L2 (d : Nat) (self2 : (Bool × Int × Int × Int × Int × Int × Int × Int) → Option course_At_R) (x2 : Bool × Int × Int × Int × Int × Int × Int × Int) : Option course_At_R :=
  (course_At_r12 (course_At_K d) x2).eval fun y12 =>
  bif y12.2.2.2.2.1 then ((course_At_r13 (course_At_K d) y12).eval fun y13 =>
  self2 y13) else ((course_At_r14 (course_At_K d) y12).eval fun y14 =>
  (course_At_r15 (course_At_K d) y14).eval fun y15 =>
  (course_At_r16 (course_At_K d) y15).eval fun y16 =>
  bif y16.2.2.2.2.1 then ((course_At_r17 (course_At_K d) y16).eval fun y17 =>
  some (y17.2.1, y17.2.2, y17.1)) else ((course_At_r18 (course_At_K d) y16).eval fun y18 =>
  (course_At_r19 (course_At_K d) y18).eval fun y19 =>
  bif y19.1 then ((course_At_r20 (course_At_K d) y19).eval fun y20 =>
  course_At_J3 d  y20) else (course_At_J3 d  y19.2)))
def course_At_J1  (d : Nat)  (z : Bool × Int × Int × Int × Int × Int × Int) : Option (course_At_R) :=
  (course_At_r9 (course_At_K d) z).eval fun y9 =>
  (course_At_r10 (course_At_K d) y9).eval fun y10 =>
  (course_At_r11 (course_At_K d) y10).eval fun y11 =>
  iter (course_At_L2 d ) d y11
def F_course_At (d : Nat) (x : course_At_X) : Option course_At_R :=
  (course_At_r0 (course_At_K d) (x.1.1, x.1.2.1, x.1.2.2.1, x.2.1.1, x.2.1.2.1)).eval fun y0 =>
  (course_At_r1 (course_At_K d) y0).eval fun y1 =>
  (course_At_r2 (course_At_K d) y1).eval fun y2 =>
  bif y2.2.1 then ((course_At_r3 (course_At_K d) y2).eval fun y3 =>
  some (y3.2.1, y3.2.2, y3.1)) else ((course_At_r4 (course_At_K d) y2).eval fun y4 =>
  (course_At_r5 (course_At_K d) y4).eval fun y5 =>
  (course_At_r6 (course_At_K d) y5).eval fun y6 =>
  bif y6.2.1 then ((course_At_r7 (course_At_K d) y6).eval fun y7 =>
  (course_At_r8 (course_At_K d) y7).eval fun y8 =>
  course_At_J1 d  y8) else (course_At_J1 d  (y6.1, y6.2.2.1, y6.2.2.2.1, y6.2.2.2.2.1, y6.2.2.2.2.2.1, y6.2.2.2.2.2.2.1, y6.2.2.2.2.2.2.2)))
theorem course_At_cok (d : Nat) : COK prog (course_At_sp (F_course_At d)) := by
  have hm : prog.follows .mixedOrders = true := mixed
  have hT := tys
  have hC0 : OrcOK prog (orc (course_At_tab (course_At_K d))) := orc_ok (by
    intro S hS
    simp only [course_At_tab, List.mem_cons, List.not_mem_nil, or_false] at hS
    rcases hS with rfl | rfl | rfl | rfl | rfl
    · exact course_Check_cok d
    · exact ratio_Check_cok d
    · exact course_sum_cok d
    · exact math_bits_Rem64_cok d
    · exact math_bits_Div64_cok d)
  have hC : OrcOK prog (orcI 51 sub64V (orc (course_At_tab (course_At_K d)))) := (orcI_ok sub64_imm hC0)
  refine cok_of (c := bodyOf f31) (fn := f31) hT (by kernel_rfl) (by kernel_rfl) (by decide) fun x r h w0 φ0 Q hend => ?_
  replace h : F_course_At d x = some r := h
  unfold F_course_At at h
  show Run prog w0 φ0 111 (bodyOf f31) ⟨[(0, .agg [.int .i64 x.1.1, .int .i64 x.1.2.1, .int .i64 x.1.2.2.1]), (1, .agg [.int .i64 x.2.1.1, .int .i64 x.2.1.2.1])], []⟩ Q
  refine run_seq ?_
  refine run_reg hm hT hC (course_At_g0 (course_At_K d) (x.1.1, x.1.2.1, x.1.2.2.1, x.2.1.1, x.2.1.2.1)) h ?_
  intro y0 h
  refine cn_then ?_
  refine run_seq ?_
  refine run_seq ?_
  refine run_reg hm hT hC (course_At_g1 (course_At_K d) y0) h ?_
  intro y1 h
  refine cn_then ?_
  refine run_seq ?_
  refine run_reg hm hT hC (course_At_g2 (course_At_K d) y1) h ?_
  intro y2 h
  refine cn_then ?_
  refine run_cond (v := y2.2.1) (by kernel_rfl) h ?_ ?_
  ·
    intro h
    refine run_seq ?_
    refine run_reg hm hT hC (course_At_g3 (course_At_K d) y2) h ?_
    intro y3 h
    refine cn_then ?_
    refine run_ret ?_
    refine cn_then_ret ?_
    cases h
    exact (hend _ (by kernel_rfl)).2
  ·
    intro h
    refine run_skip ?_
    refine cn_then ?_
    refine run_seq ?_
    refine run_reg hm hT hC (course_At_g4 (course_At_K d) y2) h ?_
    intro y4 h
    refine cn_then ?_
    refine run_seq ?_
    refine run_reg hm hT hC (course_At_g5 (course_At_K d) y4) h ?_
    intro y5 h
    refine cn_then ?_
    refine run_join (r := r) (F := course_At_J1 d ) (S := (fun z => ⟨[(3, .ptr 0 0), (4, .ptr 1 0), (7, .ptr 2 0), (8, .bool z.1)], [.cells [.int .i64 z.2.1, .int .i64 z.2.2.1], .cells [.int .i64 z.2.2.2.1, .int .i64 z.2.2.2.2.1], .cells [.int .i64 z.2.2.2.2.2.1, .int .u64 z.2.2.2.2.2.2]]⟩ : Bool × Int × Int × Int × Int × Int × Int → St)) ?_ ?_
    ·
      intro z h
      unfold course_At_J1 at h
      refine run_seq ?_
      refine run_reg hm hT hC (course_At_g9 (course_At_K d) z) h ?_
      intro y9 h
      refine cn_then ?_
      refine run_seq ?_
      refine run_reg hm hT hC (course_At_g10 (course_At_K d) y9) h ?_
      intro y10 h
      refine cn_then ?_
      refine run_seq ?_
      refine run_reg hm hT hC (course_At_g11 (course_At_K d) y10) h ?_
      intro y11 h
      refine cn_then ?_
      refine run_seq ?_
      refine run_block ?_
      refine run_loop (G := iter (course_At_L2 d )) (S := (fun x2 => ⟨[(4, .ptr 0 0), (7, .ptr 1 0), (8, .bool x2.1), (11, .int .u64 x2.2.1), (12, .int .u64 x2.2.2.1), (13, .int .u64 x2.2.2.2.1)], [.cells [.int .i64 x2.2.2.2.2.1, .int .i64 x2.2.2.2.2.2.1], .cells [.int .i64 x2.2.2.2.2.2.2.1, .int .u64 x2.2.2.2.2.2.2.2]]⟩ : Bool × Int × Int × Int × Int × Int × Int × Int → St)) (fun _ => rfl) ?_ d _ h
      intro n2 x2 h K2 hn2
      replace h : course_At_L2 d  (iter (course_At_L2 d ) n2) x2 = some r := h
      generalize iter (course_At_L2 d ) n2 = self2 at h hn2
      unfold course_At_L2 at h
      refine run_seq ?_
      refine run_seq ?_
      refine run_reg hm hT hC (course_At_g12 (course_At_K d) x2) h ?_
      intro y12 h
      refine cn_then ?_
      refine run_cond (v := y12.2.2.2.2.1) (by kernel_rfl) h ?_ ?_
      ·
        intro h
        refine run_skip ?_
        refine cn_then ?_
        refine run_block ?_
        refine run_reg hm hT hC (course_At_g13 (course_At_K d) y12) h ?_
        intro y13 h
        refine cn_blk ?_
        exact hn2 _ h
      ·
        intro h
        refine run_exit ?_
        refine cn_then_exit ?_
        refine cn_then_exit ?_
        refine cn_blk_eq ?_
        refine cn_then ?_
        refine run_seq ?_
        refine run_reg hm hT hC (course_At_g14 (course_At_K d) y12) h ?_
        intro y14 h
        refine cn_then ?_
        refine run_seq ?_
        refine run_reg hm hT hC (course_At_g15 (course_At_K d) y14) h ?_
        intro y15 h
        refine cn_then ?_
        refine run_seq ?_
        refine run_seq ?_
        refine run_reg hm hT hC (course_At_g16 (course_At_K d) y15) h ?_
        intro y16 h
        refine cn_then ?_
        refine run_cond (v := y16.2.2.2.2.1) (by kernel_rfl) h ?_ ?_
        ·
          intro h
          refine run_seq ?_
          refine run_reg hm hT hC (course_At_g17 (course_At_K d) y16) h ?_
          intro y17 h
          refine cn_then ?_
          refine run_ret ?_
          refine cn_then_ret ?_
          cases h
          exact (hend _ (by kernel_rfl)).2
        ·
          intro h
          refine run_skip ?_
          refine cn_then ?_
          refine run_seq ?_
          refine run_reg hm hT hC (course_At_g18 (course_At_K d) y16) h ?_
          intro y18 h
          refine cn_then ?_
          refine run_join (r := r) (F := course_At_J3 d ) (S := (fun z => ⟨[(4, .ptr 0 0), (17, .ptr 1 0)], [.cells [.int .i64 z.1, .int .i64 z.2.1], .cells [.int .i64 z.2.2.1, .int .i64 z.2.2.2]]⟩ : Int × Int × Int × Int → St)) ?_ ?_
          ·
            intro z h
            unfold course_At_J3 at h
            refine run_seq ?_
            refine run_reg hm hT hC (course_At_g21 (course_At_K d) z) h ?_
            intro y21 h
            refine cn_then ?_
            refine run_ret ?_
            cases h
            exact (hend _ (by kernel_rfl)).2
          intro hj3
          refine run_seq ?_
          refine run_reg hm hT hC (course_At_g19 (course_At_K d) y18) h ?_
          intro y19 h
          refine cn_then ?_
          refine run_cond (v := y19.1) (by kernel_rfl) h ?_ ?_
          ·
            intro h
            refine run_reg hm hT hC (course_At_g20 (course_At_K d) y19) h ?_
            intro y20 h
            exact hj3 _ h
          ·
            intro h
            refine run_skip ?_
            refine cn_num (s := ⟨[(4, .ptr 0 0), (17, .ptr 1 0)], [.cells [.int .i64 y19.2.1, .int .i64 y19.2.2.1], .cells [.int .i64 y19.2.2.2.1, .int .i64 y19.2.2.2.2]]⟩) [105] (by kernel_rfl) ?_
            exact hj3 _ h
    intro hj1
    refine run_seq ?_
    refine run_reg hm hT hC (course_At_g6 (course_At_K d) y5) h ?_
    intro y6 h
    refine cn_then ?_
    refine run_cond (v := y6.2.1) (by kernel_rfl) h ?_ ?_
    ·
      intro h
      refine run_seq ?_
      refine run_reg hm hT hC (course_At_g7 (course_At_K d) y6) h ?_
      intro y7 h
      refine cn_then ?_
      refine run_reg hm hT hC (course_At_g8 (course_At_K d) y7) h ?_
      intro y8 h
      exact hj1 _ h
    ·
      intro h
      refine run_skip ?_
      refine cn_num (s := ⟨[(3, .ptr 0 0), (4, .ptr 1 0), (7, .ptr 2 0), (8, .bool y6.1)], [.cells [.int .i64 y6.2.2.1, .int .i64 y6.2.2.2.1], .cells [.int .i64 y6.2.2.2.2.1, .int .i64 y6.2.2.2.2.2.1], .cells [.int .i64 y6.2.2.2.2.2.2.1, .int .u64 y6.2.2.2.2.2.2.2]]⟩) [42] (by kernel_rfl) ?_
      exact hj1 _ h
abbrev law04_MeetSwaps_ps : List Pk := [.row RLiiiE true, .row Rii true, .row Rii true]
abbrev law04_MeetSwaps_X : Type := DLiiiE × Dii × Dii × Unit
abbrev law04_MeetSwaps_R : Type := Bool
def law04_MeetSwaps_enc (r : law04_MeetSwaps_R) : LV × List Ob := (.bool r, [])
def law04_MeetSwaps_sp (F : law04_MeetSwaps_X → Option law04_MeetSwaps_R) : Go.Tx.Spec := ⟨7, law04_MeetSwaps_ps, law04_MeetSwaps_R, F, law04_MeetSwaps_enc⟩
abbrev law04_MeetSwaps_C : Type := (law04_fit_X → Option law04_fit_R) × (law04_alive_X → Option law04_alive_R) × (meet_All_X → Option meet_All_R) × (ref01_Check_X → Option ref01_Check_R) × (ref01_Compare_X → Option ref01_Compare_R) × (meet_Count_X → Option meet_Count_R) × (meet_Swaps_X → Option meet_Swaps_R) × (ref03_At_X → Option ref03_At_R) × (ref04_Before_X → Option ref04_Before_R) × (course_At_X → Option course_At_R) × (course_Ahead_X → Option course_Ahead_R) × Unit
def law04_MeetSwaps_K (d : Nat) : law04_MeetSwaps_C := (F_law04_fit d, F_law04_alive d, F_meet_All d, F_ref01_Check d, F_ref01_Compare d, F_meet_Count d, F_meet_Swaps d, F_ref03_At d, F_ref04_Before d, F_course_At d, F_course_Ahead d, ())
def law04_MeetSwaps_tab (C : law04_MeetSwaps_C) : List Go.Tx.Spec := [law04_fit_sp C.1, law04_alive_sp C.2.1, meet_All_sp C.2.2.1, ref01_Check_sp C.2.2.2.1, ref01_Compare_sp C.2.2.2.2.1, meet_Count_sp C.2.2.2.2.2.1, meet_Swaps_sp C.2.2.2.2.2.2.1, ref03_At_sp C.2.2.2.2.2.2.2.1, ref04_Before_sp C.2.2.2.2.2.2.2.2.1, course_At_sp C.2.2.2.2.2.2.2.2.2.1, course_Ahead_sp C.2.2.2.2.2.2.2.2.2.2.1]
abbrev law04_MeetSwaps_Y0i : Type := List Diii × Int × Int × Int × Int
def law04_MeetSwaps_S0i (v : law04_MeetSwaps_Y0i) : St := ⟨[(0, .agg [.fz Riii v.1]), (1, .agg [.int .i64 v.2.1, .int .i64 v.2.2.1]), (2, .agg [.int .i64 v.2.2.2.1, .int .i64 v.2.2.2.2])], []⟩
abbrev law04_MeetSwaps_Y0 : Type := List Diii × Int × Int × Int × Int
def law04_MeetSwaps_S0 (v : law04_MeetSwaps_Y0) : St := ⟨[(3, .ptr 0 0), (4, .ptr 1 0), (5, .ptr 2 0)], [.cells [.fz Riii v.1], .cells [.int .i64 v.2.1, .int .i64 v.2.2.1], .cells [.int .i64 v.2.2.2.1, .int .i64 v.2.2.2.2]]⟩
def law04_MeetSwaps_r0 (C : law04_MeetSwaps_C) (v : law04_MeetSwaps_Y0i) : Dt law04_MeetSwaps_Y0 := (Dt.ret (v.1, v.2.1, v.2.2.1, v.2.2.2.1, v.2.2.2.2))
theorem law04_MeetSwaps_g0 (C : law04_MeetSwaps_C) (v : law04_MeetSwaps_Y0i) : treg tysT (orc (law04_MeetSwaps_tab C)) 216 (regO (bodyOf f7) 0) false [(3, (.box [.val Riii])), (4, .any), (5, .any)] (law04_MeetSwaps_S0i v) some = (law04_MeetSwaps_r0 C v).eval fun y => some (law04_MeetSwaps_S0 y) := by kernel_rfl
abbrev law04_MeetSwaps_Y1 : Type := Bool × List Diii × Int × Int × Int × Int
def law04_MeetSwaps_S1 (v : law04_MeetSwaps_Y1) : St := ⟨[(3, .ptr 0 0), (4, .ptr 1 0), (5, .ptr 2 0), (30, .bool v.1)], [.cells [.fz Riii v.2.1], .cells [.int .i64 v.2.2.1, .int .i64 v.2.2.2.1], .cells [.int .i64 v.2.2.2.2.1, .int .i64 v.2.2.2.2.2]]⟩
def law04_MeetSwaps_r1 (C : law04_MeetSwaps_C) (v : law04_MeetSwaps_Y0) : Dt law04_MeetSwaps_Y1 := (Dt.bnd (C.1 ((v.1, ()), (v.2.1, v.2.2.1, ()), (v.2.2.2.1, v.2.2.2.2, ()), ())) fun r1 => (Dt.ret ((!r1), v.1, v.2.1, v.2.2.1, v.2.2.2.1, v.2.2.2.2)))
theorem law04_MeetSwaps_g1 (C : law04_MeetSwaps_C) (v : law04_MeetSwaps_Y0) : treg tysT (orc (law04_MeetSwaps_tab C)) 216 (regO (bodyOf f7) 1) false [(3, (.box [.val Riii])), (4, .any), (5, .any), (30, .any)] (law04_MeetSwaps_S0 v) some = (law04_MeetSwaps_r1 C v).eval fun y => some (law04_MeetSwaps_S1 y) := by kernel_rfl
abbrev law04_MeetSwaps_Y2 : Type := Bool
def law04_MeetSwaps_S2 (v : law04_MeetSwaps_Y2) : St := ⟨[(6, .bool v)], []⟩
def law04_MeetSwaps_r2 (C : law04_MeetSwaps_C) (v : law04_MeetSwaps_Y1) : Dt law04_MeetSwaps_Y2 := (Dt.bnd (C.2.1 (())) fun r1 => (Dt.ret r1))
theorem law04_MeetSwaps_g2 (C : law04_MeetSwaps_C) (v : law04_MeetSwaps_Y1) : treg tysT (orc (law04_MeetSwaps_tab C)) 216 (regO (bodyOf f7) 2) false [(6, .any)] (law04_MeetSwaps_S1 v) some = (law04_MeetSwaps_r2 C v).eval fun y => some (law04_MeetSwaps_S2 y) := by kernel_rfl
abbrev law04_MeetSwaps_Y3 : Type := List Diiii × Int × List Diii × Int × Int × Int × Int
def law04_MeetSwaps_S3 (v : law04_MeetSwaps_Y3) : St := ⟨[(3, .ptr 0 0), (4, .ptr 1 0), (5, .ptr 2 0), (7, .fz Riiii v.1), (8, .int .i64 v.2.1)], [.cells [.fz Riii v.2.2.1], .cells [.int .i64 v.2.2.2.1, .int .i64 v.2.2.2.2.1], .cells [.int .i64 v.2.2.2.2.2.1, .int .i64 v.2.2.2.2.2.2]]⟩
def law04_MeetSwaps_r3 (C : law04_MeetSwaps_C) (v : law04_MeetSwaps_Y1) : Dt law04_MeetSwaps_Y3 := (Dt.bnd (C.2.2.1 ((v.2.1, ()), (v.2.2.1, v.2.2.2.1, ()), (v.2.2.2.2.1, v.2.2.2.2.2, ()), ())) fun r1 => (Dt.ret (r1.1, r1.2, v.2.1, v.2.2.1, v.2.2.2.1, v.2.2.2.2.1, v.2.2.2.2.2)))
theorem law04_MeetSwaps_g3 (C : law04_MeetSwaps_C) (v : law04_MeetSwaps_Y1) : treg tysT (orc (law04_MeetSwaps_tab C)) 216 (regO (bodyOf f7) 3) false [(3, (.box [.val Riii])), (4, .any), (5, .any), (7, (.val Riiii)), (8, .any)] (law04_MeetSwaps_S1 v) some = (law04_MeetSwaps_r3 C v).eval fun y => some (law04_MeetSwaps_S3 y) := by kernel_rfl
abbrev law04_MeetSwaps_Y4 : Type := List Diiii × Int × Int × Int × List Diii × Int × Int × Int × Int
def law04_MeetSwaps_S4 (v : law04_MeetSwaps_Y4) : St := ⟨[(3, .ptr 0 0), (4, .ptr 1 0), (5, .ptr 2 0), (7, .fz Riiii v.1), (8, .int .i64 v.2.1), (9, .int .i64 v.2.2.1), (10, .int .i64 v.2.2.2.1)], [.cells [.fz Riii v.2.2.2.2.1], .cells [.int .i64 v.2.2.2.2.2.1, .int .i64 v.2.2.2.2.2.2.1], .cells [.int .i64 v.2.2.2.2.2.2.2.1, .int .i64 v.2.2.2.2.2.2.2.2]]⟩
def law04_MeetSwaps_r4 (C : law04_MeetSwaps_C) (v : law04_MeetSwaps_Y3) : Dt law04_MeetSwaps_Y4 := (Dt.bnd (C.2.2.2.2.2.1 ((v.2.2.1, ()), (v.2.2.2.1, v.2.2.2.2.1, ()), (v.2.2.2.2.2.1, v.2.2.2.2.2.2, ()), ())) fun r1 => (Dt.ret (v.1, v.2.1, r1.1, r1.2, v.2.2.1, v.2.2.2.1, v.2.2.2.2.1, v.2.2.2.2.2.1, v.2.2.2.2.2.2)))
theorem law04_MeetSwaps_g4 (C : law04_MeetSwaps_C) (v : law04_MeetSwaps_Y3) : treg tysT (orc (law04_MeetSwaps_tab C)) 216 (regO (bodyOf f7) 4) false [(3, (.box [.val Riii])), (4, .any), (5, .any), (7, (.val Riiii)), (8, .any), (9, .any), (10, .any)] (law04_MeetSwaps_S3 v) some = (law04_MeetSwaps_r4 C v).eval fun y => some (law04_MeetSwaps_S4 y) := by kernel_rfl
abbrev law04_MeetSwaps_Y5 : Type := List Diiii × Int × Int × Int × Int × Int × List Diii × Int × Int × Int × Int
def law04_MeetSwaps_S5 (v : law04_MeetSwaps_Y5) : St := ⟨[(3, .ptr 0 0), (4, .ptr 1 0), (5, .ptr 2 0), (7, .fz Riiii v.1), (8, .int .i64 v.2.1), (9, .int .i64 v.2.2.1), (10, .int .i64 v.2.2.2.1), (11, .int .i64 v.2.2.2.2.1), (12, .int .i64 v.2.2.2.2.2.1)], [.cells [.fz Riii v.2.2.2.2.2.2.1], .cells [.int .i64 v.2.2.2.2.2.2.2.1, .int .i64 v.2.2.2.2.2.2.2.2.1], .cells [.int .i64 v.2.2.2.2.2.2.2.2.2.1, .int .i64 v.2.2.2.2.2.2.2.2.2.2]]⟩
def law04_MeetSwaps_r5 (C : law04_MeetSwaps_C) (v : law04_MeetSwaps_Y4) : Dt law04_MeetSwaps_Y5 := (Dt.bnd (C.2.2.2.2.2.2.1 ((v.2.2.2.2.1, ()), (v.2.2.2.2.2.1, v.2.2.2.2.2.2.1, ()), (v.2.2.2.2.2.2.2.1, v.2.2.2.2.2.2.2.2, ()), ())) fun r1 => (Dt.ret (v.1, v.2.1, v.2.2.1, v.2.2.2.1, r1.1, r1.2, v.2.2.2.2.1, v.2.2.2.2.2.1, v.2.2.2.2.2.2.1, v.2.2.2.2.2.2.2.1, v.2.2.2.2.2.2.2.2)))
theorem law04_MeetSwaps_g5 (C : law04_MeetSwaps_C) (v : law04_MeetSwaps_Y4) : treg tysT (orc (law04_MeetSwaps_tab C)) 216 (regO (bodyOf f7) 5) false [(3, (.box [.val Riii])), (4, .any), (5, .any), (7, (.val Riiii)), (8, .any), (9, .any), (10, .any), (11, .any), (12, .any)] (law04_MeetSwaps_S4 v) some = (law04_MeetSwaps_r5 C v).eval fun y => some (law04_MeetSwaps_S5 y) := by kernel_rfl
abbrev law04_MeetSwaps_Y6 : Type := List Diiii × Bool × List Diii × Int × Int × Int × Int
def law04_MeetSwaps_S6 (v : law04_MeetSwaps_Y6) : St := ⟨[(3, .ptr 0 0), (4, .ptr 1 0), (5, .ptr 2 0), (7, .fz Riiii v.1), (73, .bool v.2.1)], [.cells [.fz Riii v.2.2.1], .cells [.int .i64 v.2.2.2.1, .int .i64 v.2.2.2.2.1], .cells [.int .i64 v.2.2.2.2.2.1, .int .i64 v.2.2.2.2.2.2]]⟩
def law04_MeetSwaps_r6 (C : law04_MeetSwaps_C) (v : law04_MeetSwaps_Y5) : Dt law04_MeetSwaps_Y6 := (Dt.ite (v.2.1 != (0:Int)) (Dt.ret (v.1, true, v.2.2.2.2.2.2.1, v.2.2.2.2.2.2.2.1, v.2.2.2.2.2.2.2.2.1, v.2.2.2.2.2.2.2.2.2.1, v.2.2.2.2.2.2.2.2.2.2)) (Dt.ite (v.2.2.2.1 != (0:Int)) (Dt.ret (v.1, true, v.2.2.2.2.2.2.1, v.2.2.2.2.2.2.2.1, v.2.2.2.2.2.2.2.2.1, v.2.2.2.2.2.2.2.2.2.1, v.2.2.2.2.2.2.2.2.2.2)) (Dt.ite (v.2.2.2.2.2.1 != (0:Int)) (Dt.ret (v.1, true, v.2.2.2.2.2.2.1, v.2.2.2.2.2.2.2.1, v.2.2.2.2.2.2.2.2.1, v.2.2.2.2.2.2.2.2.2.1, v.2.2.2.2.2.2.2.2.2.2)) (Dt.ite (v.2.2.1 != (List.length v.1 : Int)) (Dt.ret (v.1, true, v.2.2.2.2.2.2.1, v.2.2.2.2.2.2.2.1, v.2.2.2.2.2.2.2.2.1, v.2.2.2.2.2.2.2.2.2.1, v.2.2.2.2.2.2.2.2.2.2)) (Dt.ret (v.1, (v.2.2.2.2.1 != v.2.2.1), v.2.2.2.2.2.2.1, v.2.2.2.2.2.2.2.1, v.2.2.2.2.2.2.2.2.1, v.2.2.2.2.2.2.2.2.2.1, v.2.2.2.2.2.2.2.2.2.2))))))
theorem law04_MeetSwaps_g6 (C : law04_MeetSwaps_C) (v : law04_MeetSwaps_Y5) : treg tysT (orc (law04_MeetSwaps_tab C)) 216 (regO (bodyOf f7) 6) false [(3, (.box [.val Riii])), (4, .any), (5, .any), (7, (.val Riiii)), (73, .any)] (law04_MeetSwaps_S5 v) some = (law04_MeetSwaps_r6 C v).eval fun y => some (law04_MeetSwaps_S6 y) := by kernel_rfl
def law04_MeetSwaps_r7 (C : law04_MeetSwaps_C) (v : law04_MeetSwaps_Y6) : Dt law04_MeetSwaps_Y2 := (Dt.ret false)
theorem law04_MeetSwaps_g7 (C : law04_MeetSwaps_C) (v : law04_MeetSwaps_Y6) : treg tysT (orc (law04_MeetSwaps_tab C)) 216 (regO (bodyOf f7) 7) false [(6, .any)] (law04_MeetSwaps_S6 v) some = (law04_MeetSwaps_r7 C v).eval fun y => some (law04_MeetSwaps_S2 y) := by kernel_rfl
abbrev law04_MeetSwaps_Y8 : Type := List Diiii × Int × List Diii × Int × Int × Int × Int
def law04_MeetSwaps_S8 (v : law04_MeetSwaps_Y8) : St := ⟨[(3, .ptr 0 0), (4, .ptr 1 0), (5, .ptr 2 0), (7, .fz Riiii v.1), (13, .int .i64 v.2.1)], [.cells [.fz Riii v.2.2.1], .cells [.int .i64 v.2.2.2.1, .int .i64 v.2.2.2.2.1], .cells [.int .i64 v.2.2.2.2.2.1, .int .i64 v.2.2.2.2.2.2]]⟩
def law04_MeetSwaps_r8 (C : law04_MeetSwaps_C) (v : law04_MeetSwaps_Y6) : Dt law04_MeetSwaps_Y8 := (Dt.ret (v.1, (0:Int), v.2.2.1, v.2.2.2.1, v.2.2.2.2.1, v.2.2.2.2.2.1, v.2.2.2.2.2.2))
theorem law04_MeetSwaps_g8 (C : law04_MeetSwaps_C) (v : law04_MeetSwaps_Y6) : treg tysT (orc (law04_MeetSwaps_tab C)) 216 (regO (bodyOf f7) 8) false [(3, (.box [.val Riii])), (4, .any), (5, .any), (7, (.val Riiii)), (13, .any)] (law04_MeetSwaps_S6 v) some = (law04_MeetSwaps_r8 C v).eval fun y => some (law04_MeetSwaps_S8 y) := by kernel_rfl
abbrev law04_MeetSwaps_Y9 : Type := List Diiii × Int × Bool × List Diii × Int × Int × Int × Int
def law04_MeetSwaps_S9 (v : law04_MeetSwaps_Y9) : St := ⟨[(3, .ptr 0 0), (4, .ptr 1 0), (5, .ptr 2 0), (7, .fz Riiii v.1), (13, .int .i64 v.2.1), (77, .bool v.2.2.1)], [.cells [.fz Riii v.2.2.2.1], .cells [.int .i64 v.2.2.2.2.1, .int .i64 v.2.2.2.2.2.1], .cells [.int .i64 v.2.2.2.2.2.2.1, .int .i64 v.2.2.2.2.2.2.2]]⟩
def law04_MeetSwaps_r9 (C : law04_MeetSwaps_C) (v : law04_MeetSwaps_Y8) : Dt law04_MeetSwaps_Y9 := (Dt.ret (v.1, v.2.1, (decide (v.2.1 < (List.length v.1 : Int))), v.2.2.1, v.2.2.2.1, v.2.2.2.2.1, v.2.2.2.2.2.1, v.2.2.2.2.2.2))
theorem law04_MeetSwaps_g9 (C : law04_MeetSwaps_C) (v : law04_MeetSwaps_Y8) : treg tysT (orc (law04_MeetSwaps_tab C)) 216 (regO (bodyOf f7) 9) false [(3, (.box [.val Riii])), (4, .any), (5, .any), (7, (.val Riiii)), (13, .any), (77, .any)] (law04_MeetSwaps_S8 v) some = (law04_MeetSwaps_r9 C v).eval fun y => some (law04_MeetSwaps_S9 y) := by kernel_rfl
abbrev law04_MeetSwaps_Y11 : Type := List Diiii × Int × Int × Int × List Diii × Int × Int × Int × Int
def law04_MeetSwaps_S11 (v : law04_MeetSwaps_Y11) : St := ⟨[(3, .ptr 0 0), (4, .ptr 1 0), (5, .ptr 2 0), (7, .fz Riiii v.1), (13, .int .i64 v.2.1), (14, .int .i64 v.2.2.1), (15, .int .i64 v.2.2.2.1)], [.cells [.fz Riii v.2.2.2.2.1], .cells [.int .i64 v.2.2.2.2.2.1, .int .i64 v.2.2.2.2.2.2.1], .cells [.int .i64 v.2.2.2.2.2.2.2.1, .int .i64 v.2.2.2.2.2.2.2.2]]⟩
def law04_MeetSwaps_r11 (C : law04_MeetSwaps_C) (v : law04_MeetSwaps_Y9) : Dt law04_MeetSwaps_Y11 := (Dt.ite (inB v.2.1 (List.length v.1)) (Dt.bnd (C.2.2.2.2.2.2.2.1 ((v.2.2.2.1, ()), ((elt ziiii v.1 (v.2.1).toNat).2.2.1, ()), ())) fun r1 => (Dt.ite (inB v.2.1 (List.length v.1)) (Dt.bnd (C.2.2.2.2.2.2.2.1 ((v.2.2.2.1, ()), ((elt ziiii v.1 (v.2.1).toNat).2.2.2.1, ()), ())) fun r2 => (Dt.ret (v.1, v.2.1, r1, r2, v.2.2.2.1, v.2.2.2.2.1, v.2.2.2.2.2.1, v.2.2.2.2.2.2.1, v.2.2.2.2.2.2.2))) Dt.fail)) Dt.fail)
theorem law04_MeetSwaps_g11 (C : law04_MeetSwaps_C) (v : law04_MeetSwaps_Y9) : treg tysT (orc (law04_MeetSwaps_tab C)) 216 (regO (bodyOf f7) 11) true [(3, (.box [.val Riii])), (4, .any), (5, .any), (7, (.val Riiii)), (13, .any), (14, .any), (15, .any)] (law04_MeetSwaps_S9 v) some = (law04_MeetSwaps_r11 C v).eval fun y => some (law04_MeetSwaps_S11 y) := by kernel_rfl
abbrev law04_MeetSwaps_Y12 : Type := List Diiii × Int × Int × Int × Bool × List Diii × Int × Int × Int × Int
def law04_MeetSwaps_S12 (v : law04_MeetSwaps_Y12) : St := ⟨[(3, .ptr 0 0), (4, .ptr 1 0), (5, .ptr 2 0), (7, .fz Riiii v.1), (13, .int .i64 v.2.1), (14, .int .i64 v.2.2.1), (15, .int .i64 v.2.2.2.1), (146, .bool v.2.2.2.2.1)], [.cells [.fz Riii v.2.2.2.2.2.1], .cells [.int .i64 v.2.2.2.2.2.2.1, .int .i64 v.2.2.2.2.2.2.2.1], .cells [.int .i64 v.2.2.2.2.2.2.2.2.1, .int .i64 v.2.2.2.2.2.2.2.2.2]]⟩
def law04_MeetSwaps_r12 (C : law04_MeetSwaps_C) (v : law04_MeetSwaps_Y11) : Dt law04_MeetSwaps_Y12 := (Dt.ite (decide (v.2.2.1 < (0:Int))) (Dt.ret (v.1, v.2.1, v.2.2.1, v.2.2.2.1, true, v.2.2.2.2.1, v.2.2.2.2.2.1, v.2.2.2.2.2.2.1, v.2.2.2.2.2.2.2.1, v.2.2.2.2.2.2.2.2)) (Dt.ite (decide (v.2.2.2.1 ≤ v.2.2.1)) (Dt.ret (v.1, v.2.1, v.2.2.1, v.2.2.2.1, true, v.2.2.2.2.1, v.2.2.2.2.2.1, v.2.2.2.2.2.2.1, v.2.2.2.2.2.2.2.1, v.2.2.2.2.2.2.2.2)) (Dt.ite (inB v.2.1 (List.length v.1)) (Dt.bnd (C.2.2.2.1 (((elt ziiii v.1 (v.2.1).toNat).1, (elt ziiii v.1 (v.2.1).toNat).2.1, ()), ())) fun r1 => (Dt.ite (r1 != (0:Int)) (Dt.ret (v.1, v.2.1, v.2.2.1, v.2.2.2.1, true, v.2.2.2.2.1, v.2.2.2.2.2.1, v.2.2.2.2.2.2.1, v.2.2.2.2.2.2.2.1, v.2.2.2.2.2.2.2.2)) (Dt.ite (inB v.2.1 (List.length v.1)) (Dt.bnd (C.2.2.2.2.1 (((elt ziiii v.1 (v.2.1).toNat).1, (elt ziiii v.1 (v.2.1).toNat).2.1, ()), (v.2.2.2.2.2.1, v.2.2.2.2.2.2.1, ()), ())) fun r2 => (Dt.ite (decide (r2 ≤ (0:Int))) (Dt.ret (v.1, v.2.1, v.2.2.1, v.2.2.2.1, true, v.2.2.2.2.1, v.2.2.2.2.2.1, v.2.2.2.2.2.2.1, v.2.2.2.2.2.2.2.1, v.2.2.2.2.2.2.2.2)) (Dt.ite (inB v.2.1 (List.length v.1)) (Dt.bnd (C.2.2.2.2.1 (((elt ziiii v.1 (v.2.1).toNat).1, (elt ziiii v.1 (v.2.1).toNat).2.1, ()), (v.2.2.2.2.2.2.2.1, v.2.2.2.2.2.2.2.2, ()), ())) fun r3 => (Dt.ite (decide (r3 > (0:Int))) (Dt.ret (v.1, v.2.1, v.2.2.1, v.2.2.2.1, true, v.2.2.2.2.1, v.2.2.2.2.2.1, v.2.2.2.2.2.2.1, v.2.2.2.2.2.2.2.1, v.2.2.2.2.2.2.2.2)) (Dt.ite (decide (v.2.1 > (0:Int))) (Dt.ite (inB (IntKind.wrap .i64 (v.2.1 - (1:Int))) (List.length v.1)) (Dt.ite (inB v.2.1 (List.length v.1)) (Dt.bnd (C.2.2.2.2.2.2.2.2.1 (((elt ziiii v.1 ((IntKind.wrap .i64 (v.2.1 - (1:Int)))).toNat).1, (elt ziiii v.1 ((IntKind.wrap .i64 (v.2.1 - (1:Int)))).toNat).2.1, (elt ziiii v.1 ((IntKind.wrap .i64 (v.2.1 - (1:Int)))).toNat).2.2.1, (elt ziiii v.1 ((IntKind.wrap .i64 (v.2.1 - (1:Int)))).toNat).2.2.2.1, ()), ((elt ziiii v.1 (v.2.1).toNat).1, (elt ziiii v.1 (v.2.1).toNat).2.1, (elt ziiii v.1 (v.2.1).toNat).2.2.1, (elt ziiii v.1 (v.2.1).toNat).2.2.2.1, ()), ())) fun r4 => (Dt.ret (v.1, v.2.1, v.2.2.1, v.2.2.2.1, (!r4), v.2.2.2.2.1, v.2.2.2.2.2.1, v.2.2.2.2.2.2.1, v.2.2.2.2.2.2.2.1, v.2.2.2.2.2.2.2.2))) Dt.fail) Dt.fail) (Dt.ret (v.1, v.2.1, v.2.2.1, v.2.2.2.1, false, v.2.2.2.2.1, v.2.2.2.2.2.1, v.2.2.2.2.2.2.1, v.2.2.2.2.2.2.2.1, v.2.2.2.2.2.2.2.2))))) Dt.fail))) Dt.fail))) Dt.fail)))
theorem law04_MeetSwaps_g12 (C : law04_MeetSwaps_C) (v : law04_MeetSwaps_Y11) : treg tysT (orc (law04_MeetSwaps_tab C)) 216 (regO (bodyOf f7) 12) true [(3, (.box [.val Riii])), (4, .any), (5, .any), (7, (.val Riiii)), (13, .any), (14, .any), (15, .any), (146, .any)] (law04_MeetSwaps_S11 v) some = (law04_MeetSwaps_r12 C v).eval fun y => some (law04_MeetSwaps_S12 y) := by kernel_rfl
def law04_MeetSwaps_r13 (C : law04_MeetSwaps_C) (v : law04_MeetSwaps_Y12) : Dt law04_MeetSwaps_Y2 := (Dt.ret false)
theorem law04_MeetSwaps_g13 (C : law04_MeetSwaps_C) (v : law04_MeetSwaps_Y12) : treg tysT (orc (law04_MeetSwaps_tab C)) 216 (regO (bodyOf f7) 13) false [(6, .any)] (law04_MeetSwaps_S12 v) some = (law04_MeetSwaps_r13 C v).eval fun y => some (law04_MeetSwaps_S2 y) := by kernel_rfl
abbrev law04_MeetSwaps_Y14 : Type := List Diiii × Int × List Diii × Int × Int × Int × Int × Int × Int × Int × Int × Int × Int
def law04_MeetSwaps_S14 (v : law04_MeetSwaps_Y14) : St := ⟨[(3, .ptr 0 0), (4, .ptr 1 0), (5, .ptr 2 0), (7, .fz Riiii v.1), (13, .int .i64 v.2.1), (16, .ptr 3 0), (17, .ptr 4 0)], [.cells [.fz Riii v.2.2.1], .cells [.int .i64 v.2.2.2.1, .int .i64 v.2.2.2.2.1], .cells [.int .i64 v.2.2.2.2.2.1, .int .i64 v.2.2.2.2.2.2.1], .cells [.int .i64 v.2.2.2.2.2.2.2.1, .int .i64 v.2.2.2.2.2.2.2.2.1, .int .i64 v.2.2.2.2.2.2.2.2.2.1], .cells [.int .i64 v.2.2.2.2.2.2.2.2.2.2.1, .int .i64 v.2.2.2.2.2.2.2.2.2.2.2.1, .int .i64 v.2.2.2.2.2.2.2.2.2.2.2.2]]⟩
def law04_MeetSwaps_r14 (C : law04_MeetSwaps_C) (v : law04_MeetSwaps_Y12) : Dt law04_MeetSwaps_Y14 := (Dt.ite (inB v.2.2.1 (List.length v.2.2.2.2.2.1)) (Dt.ite (inB v.2.2.2.1 (List.length v.2.2.2.2.2.1)) (Dt.ret (v.1, v.2.1, v.2.2.2.2.2.1, v.2.2.2.2.2.2.1, v.2.2.2.2.2.2.2.1, v.2.2.2.2.2.2.2.2.1, v.2.2.2.2.2.2.2.2.2, (elt ziii v.2.2.2.2.2.1 (v.2.2.1).toNat).1, (elt ziii v.2.2.2.2.2.1 (v.2.2.1).toNat).2.1, (elt ziii v.2.2.2.2.2.1 (v.2.2.1).toNat).2.2.1, (elt ziii v.2.2.2.2.2.1 (v.2.2.2.1).toNat).1, (elt ziii v.2.2.2.2.2.1 (v.2.2.2.1).toNat).2.1, (elt ziii v.2.2.2.2.2.1 (v.2.2.2.1).toNat).2.2.1)) Dt.fail) Dt.fail)
theorem law04_MeetSwaps_g14 (C : law04_MeetSwaps_C) (v : law04_MeetSwaps_Y12) : treg tysT (orc (law04_MeetSwaps_tab C)) 216 (regO (bodyOf f7) 14) true [(3, (.box [.val Riii])), (4, .any), (5, .any), (7, (.val Riiii)), (13, .any), (16, .any), (17, .any)] (law04_MeetSwaps_S12 v) some = (law04_MeetSwaps_r14 C v).eval fun y => some (law04_MeetSwaps_S14 y) := by kernel_rfl
abbrev law04_MeetSwaps_Y15 : Type := List Diiii × Int × Int × List Diii × Int × Int × Int × Int × Int × Int × Int × Int × Int × Int × Int × Int
def law04_MeetSwaps_S15 (v : law04_MeetSwaps_Y15) : St := ⟨[(3, .ptr 0 0), (4, .ptr 1 0), (5, .ptr 2 0), (7, .fz Riiii v.1), (13, .int .i64 v.2.1), (16, .ptr 3 0), (17, .ptr 4 0), (18, .ptr 5 0), (19, .int .i64 v.2.2.1)], [.cells [.fz Riii v.2.2.2.1], .cells [.int .i64 v.2.2.2.2.1, .int .i64 v.2.2.2.2.2.1], .cells [.int .i64 v.2.2.2.2.2.2.1, .int .i64 v.2.2.2.2.2.2.2.1], .cells [.int .i64 v.2.2.2.2.2.2.2.2.1, .int .i64 v.2.2.2.2.2.2.2.2.2.1, .int .i64 v.2.2.2.2.2.2.2.2.2.2.1], .cells [.int .i64 v.2.2.2.2.2.2.2.2.2.2.2.1, .int .i64 v.2.2.2.2.2.2.2.2.2.2.2.2.1, .int .i64 v.2.2.2.2.2.2.2.2.2.2.2.2.2.1], .cells [.int .i64 v.2.2.2.2.2.2.2.2.2.2.2.2.2.2.1, .int .i64 v.2.2.2.2.2.2.2.2.2.2.2.2.2.2.2]]⟩
def law04_MeetSwaps_r15 (C : law04_MeetSwaps_C) (v : law04_MeetSwaps_Y14) : Dt law04_MeetSwaps_Y15 := (Dt.ite (inB v.2.1 (List.length v.1)) (Dt.bnd (C.2.2.2.2.2.2.2.2.2.1 ((v.2.2.2.2.2.2.2.1, v.2.2.2.2.2.2.2.2.1, v.2.2.2.2.2.2.2.2.2.1, ()), ((elt ziiii v.1 (v.2.1).toNat).1, (elt ziiii v.1 (v.2.1).toNat).2.1, ()), ())) fun r1 => (Dt.ret (v.1, v.2.1, r1.2.2, v.2.2.1, v.2.2.2.1, v.2.2.2.2.1, v.2.2.2.2.2.1, v.2.2.2.2.2.2.1, v.2.2.2.2.2.2.2.1, v.2.2.2.2.2.2.2.2.1, v.2.2.2.2.2.2.2.2.2.1, v.2.2.2.2.2.2.2.2.2.2.1, v.2.2.2.2.2.2.2.2.2.2.2.1, v.2.2.2.2.2.2.2.2.2.2.2.2, r1.1, r1.2.1))) Dt.fail)
theorem law04_MeetSwaps_g15 (C : law04_MeetSwaps_C) (v : law04_MeetSwaps_Y14) : treg tysT (orc (law04_MeetSwaps_tab C)) 216 (regO (bodyOf f7) 15) true [(3, (.box [.val Riii])), (4, .any), (5, .any), (7, (.val Riiii)), (13, .any), (16, .any), (17, .any), (18, .any), (19, .any)] (law04_MeetSwaps_S14 v) some = (law04_MeetSwaps_r15 C v).eval fun y => some (law04_MeetSwaps_S15 y) := by kernel_rfl
abbrev law04_MeetSwaps_Y16 : Type := List Diiii × Int × Int × Int × List Diii × Int × Int × Int × Int × Int × Int × Int × Int × Int × Int × Int × Int × Int × Int
def law04_MeetSwaps_S16 (v : law04_MeetSwaps_Y16) : St := ⟨[(3, .ptr 0 0), (4, .ptr 1 0), (5, .ptr 2 0), (7, .fz Riiii v.1), (13, .int .i64 v.2.1), (16, .ptr 3 0), (17, .ptr 4 0), (18, .ptr 5 0), (19, .int .i64 v.2.2.1), (20, .ptr 6 0), (21, .int .i64 v.2.2.2.1)], [.cells [.fz Riii v.2.2.2.2.1], .cells [.int .i64 v.2.2.2.2.2.1, .int .i64 v.2.2.2.2.2.2.1], .cells [.int .i64 v.2.2.2.2.2.2.2.1, .int .i64 v.2.2.2.2.2.2.2.2.1], .cells [.int .i64 v.2.2.2.2.2.2.2.2.2.1, .int .i64 v.2.2.2.2.2.2.2.2.2.2.1, .int .i64 v.2.2.2.2.2.2.2.2.2.2.2.1], .cells [.int .i64 v.2.2.2.2.2.2.2.2.2.2.2.2.1, .int .i64 v.2.2.2.2.2.2.2.2.2.2.2.2.2.1, .int .i64 v.2.2.2.2.2.2.2.2.2.2.2.2.2.2.1], .cells [.int .i64 v.2.2.2.2.2.2.2.2.2.2.2.2.2.2.2.1, .int .i64 v.2.2.2.2.2.2.2.2.2.2.2.2.2.2.2.2.1], .cells [.int .i64 v.2.2.2.2.2.2.2.2.2.2.2.2.2.2.2.2.2.1, .int .i64 v.2.2.2.2.2.2.2.2.2.2.2.2.2.2.2.2.2.2]]⟩
def law04_MeetSwaps_r16 (C : law04_MeetSwaps_C) (v : law04_MeetSwaps_Y15) : Dt law04_MeetSwaps_Y16 := (Dt.ite (inB v.2.1 (List.length v.1)) (Dt.bnd (C.2.2.2.2.2.2.2.2.2.1 ((v.2.2.2.2.2.2.2.2.2.2.2.1, v.2.2.2.2.2.2.2.2.2.2.2.2.1, v.2.2.2.2.2.2.2.2.2.2.2.2.2.1, ()), ((elt ziiii v.1 (v.2.1).toNat).1, (elt ziiii v.1 (v.2.1).toNat).2.1, ()), ())) fun r1 => (Dt.ret (v.1, v.2.1, v.2.2.1, r1.2.2, v.2.2.2.1, v.2.2.2.2.1, v.2.2.2.2.2.1, v.2.2.2.2.2.2.1, v.2.2.2.2.2.2.2.1, v.2.2.2.2.2.2.2.2.1, v.2.2.2.2.2.2.2.2.2.1, v.2.2.2.2.2.2.2.2.2.2.1, v.2.2.2.2.2.2.2.2.2.2.2.1, v.2.2.2.2.2.2.2.2.2.2.2.2.1, v.2.2.2.2.2.2.2.2.2.2.2.2.2.1, v.2.2.2.2.2.2.2.2.2.2.2.2.2.2.1, v.2.2.2.2.2.2.2.2.2.2.2.2.2.2.2, r1.1, r1.2.1))) Dt.fail)
theorem law04_MeetSwaps_g16 (C : law04_MeetSwaps_C) (v : law04_MeetSwaps_Y15) : treg tysT (orc (law04_MeetSwaps_tab C)) 216 (regO (bodyOf f7) 16) true [(3, (.box [.val Riii])), (4, .any), (5, .any), (7, (.val Riiii)), (13, .any), (16, .any), (17, .any), (18, .any), (19, .any), (20, .any), (21, .any)] (law04_MeetSwaps_S15 v) some = (law04_MeetSwaps_r16 C v).eval fun y => some (law04_MeetSwaps_S16 y) := by kernel_rfl
abbrev law04_MeetSwaps_Y17 : Type := List Diiii × Int × Int × Int × Bool × Int × List Diii × Int × Int × Int × Int × Int × Int × Int × Int × Int × Int × Int × Int × Int × Int
def law04_MeetSwaps_S17 (v : law04_MeetSwaps_Y17) : St := ⟨[(3, .ptr 0 0), (4, .ptr 1 0), (5, .ptr 2 0), (7, .fz Riiii v.1), (13, .int .i64 v.2.1), (16, .ptr 3 0), (17, .ptr 4 0), (18, .ptr 5 0), (19, .int .i64 v.2.2.1), (20, .ptr 6 0), (21, .int .i64 v.2.2.2.1), (22, .bool v.2.2.2.2.1), (23, .int .i64 v.2.2.2.2.2.1)], [.cells [.fz Riii v.2.2.2.2.2.2.1], .cells [.int .i64 v.2.2.2.2.2.2.2.1, .int .i64 v.2.2.2.2.2.2.2.2.1], .cells [.int .i64 v.2.2.2.2.2.2.2.2.2.1, .int .i64 v.2.2.2.2.2.2.2.2.2.2.1], .cells [.int .i64 v.2.2.2.2.2.2.2.2.2.2.2.1, .int .i64 v.2.2.2.2.2.2.2.2.2.2.2.2.1, .int .i64 v.2.2.2.2.2.2.2.2.2.2.2.2.2.1], .cells [.int .i64 v.2.2.2.2.2.2.2.2.2.2.2.2.2.2.1, .int .i64 v.2.2.2.2.2.2.2.2.2.2.2.2.2.2.2.1, .int .i64 v.2.2.2.2.2.2.2.2.2.2.2.2.2.2.2.2.1], .cells [.int .i64 v.2.2.2.2.2.2.2.2.2.2.2.2.2.2.2.2.2.1, .int .i64 v.2.2.2.2.2.2.2.2.2.2.2.2.2.2.2.2.2.2.1], .cells [.int .i64 v.2.2.2.2.2.2.2.2.2.2.2.2.2.2.2.2.2.2.2.1, .int .i64 v.2.2.2.2.2.2.2.2.2.2.2.2.2.2.2.2.2.2.2.2]]⟩
def law04_MeetSwaps_r17 (C : law04_MeetSwaps_C) (v : law04_MeetSwaps_Y16) : Dt law04_MeetSwaps_Y17 := (Dt.bnd (C.2.2.2.2.2.2.2.2.2.2.1 ((v.2.2.2.2.2.2.2.2.2.1, v.2.2.2.2.2.2.2.2.2.2.1, v.2.2.2.2.2.2.2.2.2.2.2.1, ()), (v.2.2.2.2.2.2.2.2.2.2.2.2.1, v.2.2.2.2.2.2.2.2.2.2.2.2.2.1, v.2.2.2.2.2.2.2.2.2.2.2.2.2.2.1, ()), (v.2.2.2.2.2.1, v.2.2.2.2.2.2.1, ()), ())) fun r1 => (Dt.ret (v.1, v.2.1, v.2.2.1, v.2.2.2.1, r1.1, r1.2, v.2.2.2.2.1, v.2.2.2.2.2.1, v.2.2.2.2.2.2.1, v.2.2.2.2.2.2.2.1, v.2.2.2.2.2.2.2.2.1, v.2.2.2.2.2.2.2.2.2.1, v.2.2.2.2.2.2.2.2.2.2.1, v.2.2.2.2.2.2.2.2.2.2.2.1, v.2.2.2.2.2.2.2.2.2.2.2.2.1, v.2.2.2.2.2.2.2.2.2.2.2.2.2.1, v.2.2.2.2.2.2.2.2.2.2.2.2.2.2.1, v.2.2.2.2.2.2.2.2.2.2.2.2.2.2.2.1, v.2.2.2.2.2.2.2.2.2.2.2.2.2.2.2.2.1, v.2.2.2.2.2.2.2.2.2.2.2.2.2.2.2.2.2.1, v.2.2.2.2.2.2.2.2.2.2.2.2.2.2.2.2.2.2)))
theorem law04_MeetSwaps_g17 (C : law04_MeetSwaps_C) (v : law04_MeetSwaps_Y16) : treg tysT (orc (law04_MeetSwaps_tab C)) 216 (regO (bodyOf f7) 17) false [(3, (.box [.val Riii])), (4, .any), (5, .any), (7, (.val Riiii)), (13, .any), (16, .any), (17, .any), (18, .any), (19, .any), (20, .any), (21, .any), (22, .any), (23, .any)] (law04_MeetSwaps_S16 v) some = (law04_MeetSwaps_r17 C v).eval fun y => some (law04_MeetSwaps_S17 y) := by kernel_rfl
abbrev law04_MeetSwaps_Y18 : Type := List Diiii × Int × Int × Int × Bool × Int × Bool × Int × List Diii × Int × Int × Int × Int × Int × Int × Int × Int
def law04_MeetSwaps_S18 (v : law04_MeetSwaps_Y18) : St := ⟨[(3, .ptr 0 0), (4, .ptr 1 0), (5, .ptr 2 0), (7, .fz Riiii v.1), (13, .int .i64 v.2.1), (18, .ptr 3 0), (19, .int .i64 v.2.2.1), (20, .ptr 4 0), (21, .int .i64 v.2.2.2.1), (22, .bool v.2.2.2.2.1), (23, .int .i64 v.2.2.2.2.2.1), (24, .bool v.2.2.2.2.2.2.1), (25, .int .i64 v.2.2.2.2.2.2.2.1)], [.cells [.fz Riii v.2.2.2.2.2.2.2.2.1], .cells [.int .i64 v.2.2.2.2.2.2.2.2.2.1, .int .i64 v.2.2.2.2.2.2.2.2.2.2.1], .cells [.int .i64 v.2.2.2.2.2.2.2.2.2.2.2.1, .int .i64 v.2.2.2.2.2.2.2.2.2.2.2.2.1], .cells [.int .i64 v.2.2.2.2.2.2.2.2.2.2.2.2.2.1, .int .i64 v.2.2.2.2.2.2.2.2.2.2.2.2.2.2.1], .cells [.int .i64 v.2.2.2.2.2.2.2.2.2.2.2.2.2.2.2.1, .int .i64 v.2.2.2.2.2.2.2.2.2.2.2.2.2.2.2.2]]⟩
def law04_MeetSwaps_r18 (C : law04_MeetSwaps_C) (v : law04_MeetSwaps_Y17) : Dt law04_MeetSwaps_Y18 := (Dt.bnd (C.2.2.2.2.2.2.2.2.2.2.1 ((v.2.2.2.2.2.2.2.2.2.2.2.1, v.2.2.2.2.2.2.2.2.2.2.2.2.1, v.2.2.2.2.2.2.2.2.2.2.2.2.2.1, ()), (v.2.2.2.2.2.2.2.2.2.2.2.2.2.2.1, v.2.2.2.2.2.2.2.2.2.2.2.2.2.2.2.1, v.2.2.2.2.2.2.2.2.2.2.2.2.2.2.2.2.1, ()), (v.2.2.2.2.2.2.2.2.2.1, v.2.2.2.2.2.2.2.2.2.2.1, ()), ())) fun r1 => (Dt.ret (v.1, v.2.1, v.2.2.1, v.2.2.2.1, v.2.2.2.2.1, v.2.2.2.2.2.1, r1.1, r1.2, v.2.2.2.2.2.2.1, v.2.2.2.2.2.2.2.1, v.2.2.2.2.2.2.2.2.1, v.2.2.2.2.2.2.2.2.2.1, v.2.2.2.2.2.2.2.2.2.2.1, v.2.2.2.2.2.2.2.2.2.2.2.2.2.2.2.2.2.1, v.2.2.2.2.2.2.2.2.2.2.2.2.2.2.2.2.2.2.1, v.2.2.2.2.2.2.2.2.2.2.2.2.2.2.2.2.2.2.2.1, v.2.2.2.2.2.2.2.2.2.2.2.2.2.2.2.2.2.2.2.2)))
theorem law04_MeetSwaps_g18 (C : law04_MeetSwaps_C) (v : law04_MeetSwaps_Y17) : treg tysT (orc (law04_MeetSwaps_tab C)) 216 (regO (bodyOf f7) 18) false [(3, (.box [.val Riii])), (4, .any), (5, .any), (7, (.val Riiii)), (13, .any), (18, .any), (19, .any), (20, .any), (21, .any), (22, .any), (23, .any), (24, .any), (25, .any)] (law04_MeetSwaps_S17 v) some = (law04_MeetSwaps_r18 C v).eval fun y => some (law04_MeetSwaps_S18 y) := by kernel_rfl
abbrev law04_MeetSwaps_Y19 : Type := List Diiii × Int × Bool × List Diii × Int × Int × Int × Int
def law04_MeetSwaps_S19 (v : law04_MeetSwaps_Y19) : St := ⟨[(3, .ptr 0 0), (4, .ptr 1 0), (5, .ptr 2 0), (7, .fz Riiii v.1), (13, .int .i64 v.2.1), (214, .bool v.2.2.1)], [.cells [.fz Riii v.2.2.2.1], .cells [.int .i64 v.2.2.2.2.1, .int .i64 v.2.2.2.2.2.1], .cells [.int .i64 v.2.2.2.2.2.2.1, .int .i64 v.2.2.2.2.2.2.2]]⟩
def law04_MeetSwaps_r19 (C : law04_MeetSwaps_C) (v : law04_MeetSwaps_Y18) : Dt law04_MeetSwaps_Y19 := (Dt.ite (v.2.2.1 != (0:Int)) (Dt.ret (v.1, v.2.1, true, v.2.2.2.2.2.2.2.2.1, v.2.2.2.2.2.2.2.2.2.1, v.2.2.2.2.2.2.2.2.2.2.1, v.2.2.2.2.2.2.2.2.2.2.2.1, v.2.2.2.2.2.2.2.2.2.2.2.2.1)) (Dt.ite (v.2.2.2.1 != (0:Int)) (Dt.ret (v.1, v.2.1, true, v.2.2.2.2.2.2.2.2.1, v.2.2.2.2.2.2.2.2.2.1, v.2.2.2.2.2.2.2.2.2.2.1, v.2.2.2.2.2.2.2.2.2.2.2.1, v.2.2.2.2.2.2.2.2.2.2.2.2.1)) (Dt.ite (!((v.2.2.2.2.2.2.2.2.2.2.2.2.2.1 == v.2.2.2.2.2.2.2.2.2.2.2.2.2.2.2.1) && ((v.2.2.2.2.2.2.2.2.2.2.2.2.2.2.1 == v.2.2.2.2.2.2.2.2.2.2.2.2.2.2.2.2) && true))) (Dt.ret (v.1, v.2.1, true, v.2.2.2.2.2.2.2.2.1, v.2.2.2.2.2.2.2.2.2.1, v.2.2.2.2.2.2.2.2.2.2.1, v.2.2.2.2.2.2.2.2.2.2.2.1, v.2.2.2.2.2.2.2.2.2.2.2.2.1)) (Dt.ite (v.2.2.2.2.2.1 != (0:Int)) (Dt.ret (v.1, v.2.1, true, v.2.2.2.2.2.2.2.2.1, v.2.2.2.2.2.2.2.2.2.1, v.2.2.2.2.2.2.2.2.2.2.1, v.2.2.2.2.2.2.2.2.2.2.2.1, v.2.2.2.2.2.2.2.2.2.2.2.2.1)) (Dt.ite (v.2.2.2.2.2.2.2.1 != (0:Int)) (Dt.ret (v.1, v.2.1, true, v.2.2.2.2.2.2.2.2.1, v.2.2.2.2.2.2.2.2.2.1, v.2.2.2.2.2.2.2.2.2.2.1, v.2.2.2.2.2.2.2.2.2.2.2.1, v.2.2.2.2.2.2.2.2.2.2.2.2.1)) (Dt.ret (v.1, v.2.1, (v.2.2.2.2.1 == v.2.2.2.2.2.2.1), v.2.2.2.2.2.2.2.2.1, v.2.2.2.2.2.2.2.2.2.1, v.2.2.2.2.2.2.2.2.2.2.1, v.2.2.2.2.2.2.2.2.2.2.2.1, v.2.2.2.2.2.2.2.2.2.2.2.2.1)))))))
theorem law04_MeetSwaps_g19 (C : law04_MeetSwaps_C) (v : law04_MeetSwaps_Y18) : treg tysT (orc (law04_MeetSwaps_tab C)) 216 (regO (bodyOf f7) 19) false [(3, (.box [.val Riii])), (4, .any), (5, .any), (7, (.val Riiii)), (13, .any), (214, .any)] (law04_MeetSwaps_S18 v) some = (law04_MeetSwaps_r19 C v).eval fun y => some (law04_MeetSwaps_S19 y) := by kernel_rfl
def law04_MeetSwaps_r20 (C : law04_MeetSwaps_C) (v : law04_MeetSwaps_Y19) : Dt law04_MeetSwaps_Y2 := (Dt.ret false)
theorem law04_MeetSwaps_g20 (C : law04_MeetSwaps_C) (v : law04_MeetSwaps_Y19) : treg tysT (orc (law04_MeetSwaps_tab C)) 216 (regO (bodyOf f7) 20) false [(6, .any)] (law04_MeetSwaps_S19 v) some = (law04_MeetSwaps_r20 C v).eval fun y => some (law04_MeetSwaps_S2 y) := by kernel_rfl
def law04_MeetSwaps_r10 (C : law04_MeetSwaps_C) (v : law04_MeetSwaps_Y19) : Dt law04_MeetSwaps_Y8 := (Dt.ret (v.1, (IntKind.wrap .i64 (v.2.1 + (1:Int))), v.2.2.2.1, v.2.2.2.2.1, v.2.2.2.2.2.1, v.2.2.2.2.2.2.1, v.2.2.2.2.2.2.2))
theorem law04_MeetSwaps_g10 (C : law04_MeetSwaps_C) (v : law04_MeetSwaps_Y19) : treg tysT (orc (law04_MeetSwaps_tab C)) 216 (regO (bodyOf f7) 10) false [(3, (.box [.val Riii])), (4, .any), (5, .any), (7, (.val Riiii)), (13, .any)] (law04_MeetSwaps_S19 v) some = (law04_MeetSwaps_r10 C v).eval fun y => some (law04_MeetSwaps_S8 y) := by kernel_rfl
def law04_MeetSwaps_r21 (C : law04_MeetSwaps_C) (v : law04_MeetSwaps_Y9) : Dt law04_MeetSwaps_Y2 := (Dt.bnd (C.2.1 (())) fun r1 => (Dt.ret r1))
theorem law04_MeetSwaps_g21 (C : law04_MeetSwaps_C) (v : law04_MeetSwaps_Y9) : treg tysT (orc (law04_MeetSwaps_tab C)) 216 (regO (bodyOf f7) 21) false [(6, .any)] (law04_MeetSwaps_S9 v) some = (law04_MeetSwaps_r21 C v).eval fun y => some (law04_MeetSwaps_S2 y) := by kernel_rfl
def law04_MeetSwaps_L1 (d : Nat) (self1 : (List Diiii × Int × List Diii × Int × Int × Int × Int) → Option law04_MeetSwaps_R) (x1 : List Diiii × Int × List Diii × Int × Int × Int × Int) : Option law04_MeetSwaps_R :=
  (law04_MeetSwaps_r9 (law04_MeetSwaps_K d) x1).eval fun y9 =>
  bif y9.2.2.1 then ((law04_MeetSwaps_r11 (law04_MeetSwaps_K d) y9).eval fun y11 =>
  (law04_MeetSwaps_r12 (law04_MeetSwaps_K d) y11).eval fun y12 =>
  bif y12.2.2.2.2.1 then ((law04_MeetSwaps_r13 (law04_MeetSwaps_K d) y12).eval fun y13 =>
  some y13) else ((law04_MeetSwaps_r14 (law04_MeetSwaps_K d) y12).eval fun y14 =>
  (law04_MeetSwaps_r15 (law04_MeetSwaps_K d) y14).eval fun y15 =>
  (law04_MeetSwaps_r16 (law04_MeetSwaps_K d) y15).eval fun y16 =>
  (law04_MeetSwaps_r17 (law04_MeetSwaps_K d) y16).eval fun y17 =>
  (law04_MeetSwaps_r18 (law04_MeetSwaps_K d) y17).eval fun y18 =>
  (law04_MeetSwaps_r19 (law04_MeetSwaps_K d) y18).eval fun y19 =>
  bif y19.2.2.1 then ((law04_MeetSwaps_r20 (law04_MeetSwaps_K d) y19).eval fun y20 =>
  some y20) else ((law04_MeetSwaps_r10 (law04_MeetSwaps_K d) y19).eval fun y10 =>
  self1 y10))) else ((law04_MeetSwaps_r21 (law04_MeetSwaps_K d) y9).eval fun y21 =>
  some y21)
def F_law04_MeetSwaps (d : Nat) (x : law04_MeetSwaps_X) : Option law04_MeetSwaps_R :=
  (law04_MeetSwaps_r0 (law04_MeetSwaps_K d) (x.1.1, x.2.1.1, x.2.1.2.1, x.2.2.1.1, x.2.2.1.2.1)).eval fun y0 =>
  (law04_MeetSwaps_r1 (law04_MeetSwaps_K d) y0).eval fun y1 =>
  bif y1.1 then ((law04_MeetSwaps_r2 (law04_MeetSwaps_K d) y1).eval fun y2 =>
  some y2) else ((law04_MeetSwaps_r3 (law04_MeetSwaps_K d) y1).eval fun y3 =>
  (law04_MeetSwaps_r4 (law04_MeetSwaps_K d) y3).eval fun y4 =>
  (law04_MeetSwaps_r5 (law04_MeetSwaps_K d) y4).eval fun y5 =>
  (law04_MeetSwaps_r6 (law04_MeetSwaps_K d) y5).eval fun y6 =>
  bif y6.2.1 then ((law04_MeetSwaps_r7 (law04_MeetSwaps_K d) y6).eval fun y7 =>
  some y7) else ((law04_MeetSwaps_r8 (law04_MeetSwaps_K d) y6).eval fun y8 =>
  iter (law04_MeetSwaps_L1 d ) d y8))
theorem law04_MeetSwaps_cok (d : Nat) : COK prog (law04_MeetSwaps_sp (F_law04_MeetSwaps d)) := by
  have hm : prog.follows .mixedOrders = true := mixed
  have hT := tys
  have hC0 : OrcOK prog (orc (law04_MeetSwaps_tab (law04_MeetSwaps_K d))) := orc_ok (by
    intro S hS
    simp only [law04_MeetSwaps_tab, List.mem_cons, List.not_mem_nil, or_false] at hS
    rcases hS with rfl | rfl | rfl | rfl | rfl | rfl | rfl | rfl | rfl | rfl | rfl
    · exact law04_fit_cok d
    · exact law04_alive_cok d
    · exact meet_All_cok d
    · exact ref01_Check_cok d
    · exact ref01_Compare_cok d
    · exact meet_Count_cok d
    · exact meet_Swaps_cok d
    · exact ref03_At_cok d
    · exact ref04_Before_cok d
    · exact course_At_cok d
    · exact course_Ahead_cok d)
  have hC : OrcOK prog (orc (law04_MeetSwaps_tab (law04_MeetSwaps_K d))) := hC0
  refine cok_of (c := bodyOf f7) (fn := f7) hT (by kernel_rfl) (by kernel_rfl) (by decide) fun x r h w0 φ0 Q hend => ?_
  replace h : F_law04_MeetSwaps d x = some r := h
  unfold F_law04_MeetSwaps at h
  show Run prog w0 φ0 216 (bodyOf f7) ⟨[(0, .agg [.fz Riii x.1.1]), (1, .agg [.int .i64 x.2.1.1, .int .i64 x.2.1.2.1]), (2, .agg [.int .i64 x.2.2.1.1, .int .i64 x.2.2.1.2.1])], []⟩ Q
  refine run_seq ?_
  refine run_reg hm hT hC (law04_MeetSwaps_g0 (law04_MeetSwaps_K d) (x.1.1, x.2.1.1, x.2.1.2.1, x.2.2.1.1, x.2.2.1.2.1)) h ?_
  intro y0 h
  refine cn_then ?_
  refine run_seq ?_
  refine run_seq ?_
  refine run_reg hm hT hC (law04_MeetSwaps_g1 (law04_MeetSwaps_K d) y0) h ?_
  intro y1 h
  refine cn_then ?_
  refine run_cond (v := y1.1) (by kernel_rfl) h ?_ ?_
  ·
    intro h
    refine run_seq ?_
    refine run_reg hm hT hC (law04_MeetSwaps_g2 (law04_MeetSwaps_K d) y1) h ?_
    intro y2 h
    refine cn_then ?_
    refine run_ret ?_
    refine cn_then_ret ?_
    cases h
    exact (hend _ (by kernel_rfl)).2
  ·
    intro h
    refine run_skip ?_
    refine cn_then ?_
    refine run_seq ?_
    refine run_reg hm hT hC (law04_MeetSwaps_g3 (law04_MeetSwaps_K d) y1) h ?_
    intro y3 h
    refine cn_then ?_
    refine run_seq ?_
    refine run_reg hm hT hC (law04_MeetSwaps_g4 (law04_MeetSwaps_K d) y3) h ?_
    intro y4 h
    refine cn_then ?_
    refine run_seq ?_
    refine run_reg hm hT hC (law04_MeetSwaps_g5 (law04_MeetSwaps_K d) y4) h ?_
    intro y5 h
    refine cn_then ?_
    refine run_seq ?_
    refine run_seq ?_
    refine run_reg hm hT hC (law04_MeetSwaps_g6 (law04_MeetSwaps_K d) y5) h ?_
    intro y6 h
    refine cn_then ?_
    refine run_cond (v := y6.2.1) (by kernel_rfl) h ?_ ?_
    ·
      intro h
      refine run_seq ?_
      refine run_reg hm hT hC (law04_MeetSwaps_g7 (law04_MeetSwaps_K d) y6) h ?_
      intro y7 h
      refine cn_then ?_
      refine run_ret ?_
      refine cn_then_ret ?_
      cases h
      exact (hend _ (by kernel_rfl)).2
    ·
      intro h
      refine run_skip ?_
      refine cn_then ?_
      refine run_seq ?_
      refine run_seq ?_
      refine run_reg hm hT hC (law04_MeetSwaps_g8 (law04_MeetSwaps_K d) y6) h ?_
      intro y8 h
      refine cn_then ?_
      refine run_block ?_
      refine run_loop (G := iter (law04_MeetSwaps_L1 d )) (S := (fun x1 => ⟨[(3, .ptr 0 0), (4, .ptr 1 0), (5, .ptr 2 0), (7, .fz Riiii x1.1), (13, .int .i64 x1.2.1)], [.cells [.fz Riii x1.2.2.1], .cells [.int .i64 x1.2.2.2.1, .int .i64 x1.2.2.2.2.1], .cells [.int .i64 x1.2.2.2.2.2.1, .int .i64 x1.2.2.2.2.2.2]]⟩ : List Diiii × Int × List Diii × Int × Int × Int × Int → St)) (fun _ => rfl) ?_ d _ h
      intro n1 x1 h K1 hn1
      replace h : law04_MeetSwaps_L1 d  (iter (law04_MeetSwaps_L1 d ) n1) x1 = some r := h
      generalize iter (law04_MeetSwaps_L1 d ) n1 = self1 at h hn1
      unfold law04_MeetSwaps_L1 at h
      refine run_seq ?_
      refine run_seq ?_
      refine run_reg hm hT hC (law04_MeetSwaps_g9 (law04_MeetSwaps_K d) x1) h ?_
      intro y9 h
      refine cn_then ?_
      refine run_cond (v := y9.2.2.1) (by kernel_rfl) h ?_ ?_
      ·
        intro h
        refine run_skip ?_
        refine cn_then ?_
        refine run_seq ?_
        refine run_block ?_
        refine run_seq ?_
        refine run_reg hm hT hC (law04_MeetSwaps_g11 (law04_MeetSwaps_K d) y9) h ?_
        intro y11 h
        refine cn_then ?_
        refine run_seq ?_
        refine run_seq ?_
        refine run_reg hm hT hC (law04_MeetSwaps_g12 (law04_MeetSwaps_K d) y11) h ?_
        intro y12 h
        refine cn_then ?_
        refine run_cond (v := y12.2.2.2.2.1) (by kernel_rfl) h ?_ ?_
        ·
          intro h
          refine run_seq ?_
          refine run_reg hm hT hC (law04_MeetSwaps_g13 (law04_MeetSwaps_K d) y12) h ?_
          intro y13 h
          refine cn_then ?_
          refine run_ret ?_
          refine cn_then_ret ?_
          refine cn_blk_ret ?_
          refine cn_then_ret ?_
          refine cn_then_ret ?_
          refine cn_blk_ret ?_
          refine cn_then_ret ?_
          cases h
          exact (hend _ (by kernel_rfl)).2
        ·
          intro h
          refine run_skip ?_
          refine cn_then ?_
          refine run_seq ?_
          refine run_reg hm hT hC (law04_MeetSwaps_g14 (law04_MeetSwaps_K d) y12) h ?_
          intro y14 h
          refine cn_then ?_
          refine run_seq ?_
          refine run_reg hm hT hC (law04_MeetSwaps_g15 (law04_MeetSwaps_K d) y14) h ?_
          intro y15 h
          refine cn_then ?_
          refine run_seq ?_
          refine run_reg hm hT hC (law04_MeetSwaps_g16 (law04_MeetSwaps_K d) y15) h ?_
          intro y16 h
          refine cn_then ?_
          refine run_seq ?_
          refine run_reg hm hT hC (law04_MeetSwaps_g17 (law04_MeetSwaps_K d) y16) h ?_
          intro y17 h
          refine cn_then ?_
          refine run_seq ?_
          refine run_reg hm hT hC (law04_MeetSwaps_g18 (law04_MeetSwaps_K d) y17) h ?_
          intro y18 h
          refine cn_then ?_
          refine run_seq ?_
          refine run_reg hm hT hC (law04_MeetSwaps_g19 (law04_MeetSwaps_K d) y18) h ?_
          intro y19 h
          refine cn_then ?_
          refine run_cond (v := y19.2.2.1) (by kernel_rfl) h ?_ ?_
          ·
            intro h
            refine run_seq ?_
            refine run_reg hm hT hC (law04_MeetSwaps_g20 (law04_MeetSwaps_K d) y19) h ?_
            intro y20 h
            refine cn_then ?_
            refine run_ret ?_
            refine cn_blk_ret ?_
            refine cn_then_ret ?_
            refine cn_then_ret ?_
            refine cn_blk_ret ?_
            refine cn_then_ret ?_
            cases h
            exact (hend _ (by kernel_rfl)).2
          ·
            intro h
            refine run_skip ?_
            refine cn_blk ?_
            refine cn_then ?_
            refine run_reg hm hT hC (law04_MeetSwaps_g10 (law04_MeetSwaps_K d) y19) h ?_
            intro y10 h
            exact hn1 _ h
      ·
        intro h
        refine run_exit ?_
        refine cn_then_exit ?_
        refine cn_then_exit ?_
        refine cn_blk_eq ?_
        refine cn_then ?_
        refine run_seq ?_
        refine run_reg hm hT hC (law04_MeetSwaps_g21 (law04_MeetSwaps_K d) y9) h ?_
        intro y21 h
        refine cn_then ?_
        refine run_ret ?_
        cases h
        exact (hend _ (by kernel_rfl)).2
end Go.Proofs.Ythopjgahedijcaa

namespace Go.Proofs.Ythopjgahedijcaa
open Go Go.Tx Go.Pel
theorem wrap_u64_in {a : Int} (h : 0 ≤ a ∧ a < 18446744073709551616) : IntKind.wrap .u64 a = a := by rw [IntKind.wrap_u64]; omega
theorem div64_0 (d : Nat) {Y g : Int} (hY : 0 ≤ Y) (hY2 : Y < 18446744073709551616) (hg : 1 ≤ g) : F_math_bits_Div64 d ((0, ()), (Y, ()), (g, ()), ()) = some (Y.tdiv g, Y.tmod g) := by
  have c1 : (g == 0) = false := by rw [beq_eq_false_iff_ne]; omega
  have c2 : decide (g ≤ 0) = false := by rw [decide_eq_false_iff_not]; omega
  have b := Int.ediv_le_self g hY
  have b2 := Int.ediv_nonneg hY (show (0 : Int) ≤ g by omega)
  have e : IntKind.wrap .u64 (Y.tdiv g) = Y.tdiv g := wrap_u64_in (by rw [Int.tdiv_eq_ediv_of_nonneg hY]; omega)
  simp only [F_math_bits_Div64, math_bits_Div64_K, math_bits_Div64_J1, math_bits_Div64_J2, math_bits_Div64_r0, math_bits_Div64_r1, math_bits_Div64_r3, math_bits_Div64_r5, math_bits_Div64_r6, Dt.eval, c1, c2, cond_false, beq_self_eq_true, cond_true, e]
theorem rem64_0 (d : Nat) {Y g : Int} (hY : 0 ≤ Y) (hY2 : Y < 18446744073709551616) (hg : 1 ≤ g) : F_math_bits_Rem64 d ((0, ()), (Y, ()), (g, ()), ()) = some (Y.tmod g) := by
  have c1 : (g == 0) = false := by rw [beq_eq_false_iff_ne]; omega
  simp only [F_math_bits_Rem64, math_bits_Rem64_K, math_bits_Rem64_r0, math_bits_Rem64_r1, math_bits_Rem64_r2, Dt.eval, c1, cond_false, Int.zero_tmod, div64_0 d hY hY2 hg]
theorem at_loop (d : Nat) (neg : Bool) {D Y : Int} (hD : 1 ≤ D) (hD2 : D ≤ 4194304) (hY : 0 ≤ Y) (hY2 : Y < 9223372036854775807) : ∀ (f : Nat) (rest g : Int), rest < f → 0 ≤ rest → 1 ≤ g → ∃ a b, iter (course_At_L2 d) f (neg, D, rest, g, (0 : Int), (0 : Int), (0 : Int), Y) = some (a, b, 0)
  | 0, rest, g, hf, h0, _ => by omega
  | f + 1, rest, g, hf, h0, hg => by
    have ih := at_loop d neg hD hD2 hY hY2 f
    rw [iter]
    revert ih
    generalize iter (course_At_L2 d) f = self
    intro ih
    unfold course_At_L2 course_At_J3
    simp only [course_At_r12, course_At_r13, course_At_r14, course_At_r15, course_At_r16, course_At_r17, course_At_r18, course_At_r19, course_At_r20, course_At_r21, Dt.eval, course_At_K]
    rcases (by omega : 0 < rest ∨ rest = 0) with h1 | h1
    · have c1 : decide (rest > 0) = true := decide_eq_true h1
      have c2 : (rest == 0) = false := by rw [beq_eq_false_iff_ne]; omega
      simp only [c1, cond_true, c2, cond_false]
      have m1 := Int.emod_lt_of_pos g h1
      have m2 := Int.emod_nonneg g (show rest ≠ 0 by omega)
      have e : g.tmod rest = g % rest := Int.tmod_eq_emod_of_nonneg (by omega)
      exact ih (g.tmod rest) rest (by omega) (by omega) (by omega)
    · subst h1
      have c1 : (g == 0) = false := by rw [beq_eq_false_iff_ne]; omega
      have b := Int.ediv_le_self g hY
      have e1 : Y.tdiv g = Y / g := Int.tdiv_eq_ediv_of_nonneg hY
      have c2 : decide (Y.tdiv g > 9223372036854775807) = false := by rw [decide_eq_false_iff_not]; omega
      have w0 : IntKind.wrap .u64 0 = 0 := rfl
      simp only [show decide ((0 : Int) > 0) = false from rfl, cond_false, c1, Dt.eval, w0, Int.zero_tdiv, Int.zero_tmod, div64_0 d hY (show Y < 18446744073709551616 by omega) hg, c2]
      cases neg with
      | true => simp only [cond_true]; exact ⟨_, _, rfl⟩
      | false => simp only [cond_false]; exact ⟨_, _, rfl⟩
theorem mul_nab {a b : Int} {A B : Nat} (ha : a.natAbs ≤ A) (hb : b.natAbs ≤ B) : (a * b).natAbs ≤ A * B := by rw [Int.natAbs_mul]; exact Nat.mul_le_mul ha hb
/-- the place of a point depends on one sum alone -/
theorem at_eq (d : Nat) {p : T3} (hp : okP p) {M D : Int} (hM : M.natAbs ≤ 4194304) (hD2 : D ≤ 4194304) (hr : ratioChk M D = 0) : F_course_At d ((p.1, p.2.1, p.2.2.1, ()), (M, D, ()), ()) =
    iter (course_At_L2 d) d (decide (p.2.1 * D + p.2.2.1 * M < 0), D, (((p.2.1 * D + p.2.2.1 * M).natAbs : Int)).tmod D, D, (0 : Int), (0 : Int), (0 : Int), ((p.2.1 * D + p.2.2.1 * M).natAbs : Int)) := by
  obtain ⟨_, _, a1, a2, a3, a4⟩ := pt_bd hp
  have hD := (ratioChk_zero hr).1
  have m1 : (p.2.1 * D).natAbs ≤ 1048576 * 4194304 := mul_nab (by omega) (by omega)
  have m2 : (p.2.2.1 * M).natAbs ≤ 1048576 * 4194304 := mul_nab (by omega) hM
  have e1 : F_course_Check d ((p.1, p.2.1, p.2.2.1, ()), ()) = some 0 := by rw [F_course_Check_eq _ _ rfl]; exact congrArg some hp
  have e2 : F_ratio_Check d ((M, D, ()), ()) = some 0 := by rw [F_ratio_Check_eq _ _ (by unfold ratio_Check_if; rw [i64B_of (show M.natAbs ≤ _ by omega), i64B_of (show D.natAbs ≤ _ by omega)]; rfl)]; exact congrArg some hr
  have e3 : F_course_sum d ((p.2.1, D, p.2.2.1, M, ()), ()) = some ((p.2.1 * D + p.2.2.1 * M) / 18446744073709551616, (p.2.1 * D + p.2.2.1 * M) % 18446744073709551616) := F_course_sum_eq _ _ (show sumB p.2.1 D p.2.2.1 M = true from decide_eq_true ⟨by omega, by omega, by omega, by omega, by omega, by omega⟩)
  generalize hX : p.2.1 * D + p.2.2.1 * M = X at *
  have hXb : X.natAbs ≤ 8796093022208 := by omega
  simp only [course_At_r0, course_At_r1, course_At_r2, course_At_r3, course_At_r4, course_At_r5, course_At_r6, course_At_r7, course_At_r8, course_At_r9, course_At_r10, course_At_r11, course_At_r12, course_At_r13, course_At_r14, course_At_r15, course_At_r16, course_At_r17, course_At_r18, course_At_r19, course_At_r20, course_At_r21, F_course_At, course_At_K, course_At_J1, Dt.eval, e1, e2, e3, show tmax (0 : Int) 0 = 0 from rfl, show ((0 : Int) != 0) = false from rfl, cond_false]
  rcases (by omega : 0 ≤ X ∨ X < 0) with h | h
  · have q1 : X / 18446744073709551616 = 0 := by omega
    have q2 : X % 18446744073709551616 = X := by omega
    have c1 : decide ((0 : Int) < 0) = false := rfl
    have c2 : decide (X < 0) = false := by rw [decide_eq_false_iff_not]; omega
    have w1 : IntKind.wrap .u64 D = D := wrap_u64_in (by omega)
    have w0 : IntKind.wrap .u64 0 = 0 := rfl
    have hn : (X.natAbs : Int) = X := by omega
    simp only [q1, q2, c1, c2, cond_false, w1, w0, Dt.eval, rem64_0 d h (show X < 18446744073709551616 by omega) hD, hn]
  · have q1 : X / 18446744073709551616 = -1 := by omega
    have q2 : X % 18446744073709551616 = X + 18446744073709551616 := by omega
    have c1 : decide ((-1 : Int) < 0) = true := rfl
    have c2 : decide (X < 0) = true := decide_eq_true h
    have w1 : IntKind.wrap .u64 D = D := wrap_u64_in (by omega)
    have w0 : IntKind.wrap .u64 0 = 0 := rfl
    have hn : (X.natAbs : Int) = -X := by omega
    have es : sub64V 0 (X + 18446744073709551616) 0 = some (-X, 1) := by
      unfold sub64V
      rw [show (decide ((0 : Int) ≤ 0) && decide ((0 : Int) < 18446744073709551616) && decide (0 ≤ X + 18446744073709551616) && decide (X + 18446744073709551616 < 18446744073709551616) && decide ((0 : Int) ≤ 0) && decide ((0 : Int) ≤ 1)) = true by simp only [Bool.and_eq_true, decide_eq_true_eq]; omega, cond_true,
        show decide ((0 : Int) < X + 18446744073709551616 + 0) = true by rw [decide_eq_true_eq]; omega, cond_true, show ((0 : Int) - (X + 18446744073709551616) - 0) % 18446744073709551616 = -X by omega]
    have wz : IntKind.wrap .i64 (IntKind.wrap .i64 (0 - -1) - IntKind.wrap .i64 1) = 0 := by decide
    simp only [q1, q2, c1, c2, cond_true, es, wz, w1, w0, Dt.eval, rem64_0 d (show 0 ≤ -X by omega) (show -X < 18446744073709551616 by omega) hD, hn]
theorem at_ok (d : Nat) (hf : 4194400 ≤ d) {p : T3} (hp : okP p) {M D : Int} (hM : M.natAbs ≤ 4194304) (hD2 : D ≤ 4194304) (hr : ratioChk M D = 0) : ∃ a b, F_course_At d ((p.1, p.2.1, p.2.2.1, ()), (M, D, ()), ()) = some (a, b, 0) := by
  obtain ⟨_, _, a1, a2, a3, a4⟩ := pt_bd hp
  have hD := (ratioChk_zero hr).1
  have m1 : (p.2.1 * D).natAbs ≤ 1048576 * 4194304 := mul_nab (by omega) (by omega)
  have m2 : (p.2.2.1 * M).natAbs ≤ 1048576 * 4194304 := mul_nab (by omega) hM
  rw [at_eq d hp hM hD2 hr]
  have t1 := Int.emod_lt_of_pos ((p.2.1 * D + p.2.2.1 * M).natAbs : Int) (show 0 < D by omega)
  have t2 := Int.emod_nonneg ((p.2.1 * D + p.2.2.1 * M).natAbs : Int) (show D ≠ 0 by omega)
  have t3 : (((p.2.1 * D + p.2.2.1 * M).natAbs : Int)).tmod D = ((p.2.1 * D + p.2.2.1 * M).natAbs : Int) % D := Int.tmod_eq_emod_of_nonneg (by omega)
  exact at_loop d _ hD hD2 (by omega) (by omega) d _ D (by omega) (by omega) hD
/-- two points that meet are at the same place -/
theorem at_same (d : Nat) {p q : T3} (hp : okP p) (hq : okP q) {M D : Int} (hM : M.natAbs ≤ 4194304) (hD2 : D ≤ 4194304) (hr : ratioChk M D = 0) (h : (p.2.1 - q.2.1) * D + (p.2.2.1 - q.2.2.1) * M = 0) : F_course_At d ((p.1, p.2.1, p.2.2.1, ()), (M, D, ()), ()) = F_course_At d ((q.1, q.2.1, q.2.2.1, ()), (M, D, ()), ()) := by
  rw [at_eq d hp hM hD2 hr, at_eq d hq hM hD2 hr]
  have e : p.2.1 * D + p.2.2.1 * M = q.2.1 * D + q.2.2.1 * M := by
    rw [Int.sub_mul, Int.sub_mul] at h
    omega
  rw [e]
theorem atI_idx {l : List T3} (h : FldOk l) {i : Nat} {p : T3} (hi : l[i]? = some p) : atI (ptsL l) p.1 = i := by
  refine atI_of (p := ofP p) (fun j q hj hq => ?_) (by unfold ptsL; rw [List.getElem?_map, hi]; rfl) rfl
  unfold ptsL at hq
  rw [List.getElem?_map] at hq
  obtain ⟨hil, rfl⟩ := List.getElem?_eq_some_iff.1 hi
  rw [List.getElem?_eq_getElem (by omega)] at hq
  injection hq with hq
  subst hq
  have := (List.pairwise_iff_getElem.1 h.inc) j i (by omega) hil hj
  show (l[j]).1 ≠ (l[i]).1
  omega
theorem swaps_loop (d : Nat) (hf : 4194400 ≤ d) (ea : F_law04_alive d () = some true) {l : List T3} (hok : FldOk l) {n dd n' dd' : Int} (hn : i64B n = true) (hd : i64B dd = true) (hn' : i64B n' = true) (hd' : i64B dd' = true) (h2 : ratioChk n dd = 0) (h3 : ratioChk n' dd' = 0) {L : List M4} (hL : ∀ x ∈ L, x ∈ allM l ∧ gtM n dd x = true ∧ gtM n' dd' x = false) (hs : L.Pairwise fun a b => ltM a b = true) (hlen : L.length ≤ 4096) : ∀ (f i : Nat), L.length - i < f → i ≤ L.length →
    iter (law04_MeetSwaps_L1 d) f (L, (i : Int), l, n, dd, n', dd') = some true
  | 0, i, hf, _ => by omega
  | f + 1, i, hf', hi => by
    have ih := swaps_loop d hf ea hok hn hd hn' hd' h2 h3 hL hs hlen f (i + 1)
    rw [iter]
    revert ih
    generalize iter (law04_MeetSwaps_L1 d) f = self
    intro ih
    unfold law04_MeetSwaps_L1
    by_cases hlt : i < L.length
    · obtain ⟨x, hx⟩ : ∃ x, L[i]? = some x := ⟨_, List.getElem?_eq_getElem hlt⟩
      obtain ⟨hxa, g1, g2⟩ := hL x (List.mem_of_getElem? hx)
      have hxw := allM_w hok x hxa
      obtain ⟨a, b, p, q, hab, hp, hq, hm⟩ := allM_from hok hxa
      have hpo := hok.ok p (List.mem_of_getElem? hp)
      have hqo := hok.ok q (List.mem_of_getElem? hq)
      obtain ⟨hbb, _, hM, hD2, i1, i2, hmeet⟩ := mtP_eq (x := (p, q)) hpo hqo hm
      simp only at i1 i2 hmeet
      have hbl := (List.getElem?_eq_some_iff.1 hq).1
      have hal := (List.getElem?_eq_some_iff.1 hp).1
      have hid : p.1 ≠ q.1 := by
        obtain ⟨_, rfl⟩ := List.getElem?_eq_some_iff.1 hp
        obtain ⟨_, rfl⟩ := List.getElem?_eq_some_iff.1 hq
        have := (List.pairwise_iff_getElem.1 hok.inc) a b hal hbl hab
        omega
      have hl64 := hok.len
      have e1 : F_ref03_At d ((l, ()), (x.2.2.1, ()), ()) = some (a : Int) := by
        rw [i1, F_ref03_At_eq _ _ (by unfold ref03_At_if; rw [decide_eq_true_eq]; show (ptsL l).length ≤ _; rw [ptsL_len]; omega)]
        exact congrArg some (atI_idx hok hp)
      have e2 : F_ref03_At d ((l, ()), (x.2.2.2.1, ()), ()) = some (b : Int) := by
        rw [i2, F_ref03_At_eq _ _ (by unfold ref03_At_if; rw [decide_eq_true_eq]; show (ptsL l).length ≤ _; rw [ptsL_len]; omega)]
        exact congrArg some (atI_idx hok hq)
      have c1 : decide ((a : Int) < 0) = false := by rw [decide_eq_false_iff_not]; omega
      have c2 : decide ((b : Int) ≤ (a : Int)) = false := by rw [decide_eq_false_iff_not]; omega
      have e3 := rChk_eq d (n := x.1) (dd := x.2.1) hxw.b1 hxw.b2
      rw [show ratioChk x.1 x.2.1 = 0 from hxw.ok] at e3
      have e4 := rCompare_eq d x.1 x.2.1 n dd hxw.b1 hxw.b2 hn hd
      have e5 := rCompare_eq d x.1 x.2.1 n' dd' hxw.b1 hxw.b2 hn' hd'
      have b0 : ((0 : Int) != 0) = false := rfl
      obtain ⟨u, v, e6⟩ := at_ok d hf hpo (M := x.1) (D := x.2.1) hM hD2 hxw.ok
      have e7 := (at_same d hpo hqo hM hD2 hxw.ok hmeet).symm.trans e6
      have e8 := mAhead_eq d hpo hqo hid hn hd h2
      have e9 := mAhead_eq d hpo hqo hid hn' hd' h3
      have hsw : (leads (ofP p) (ofP q) n dd == leads (ofP p) (ofP q) n' dd') = false := by
        have k1 := leads_mt (x := (p, q)) hpo hqo hm (n := n) (dd := dd)
        have k2 := leads_mt (x := (p, q)) hpo hqo hm (n := n') (dd := dd')
        rw [g1] at k1
        rw [g2] at k2
        simp only at k1 k2
        rw [k1, k2]
        by_cases hlt : q.2.2.1 < p.2.2.1
        · rw [if_pos hlt, if_pos hlt]; rfl
        · rw [if_neg hlt, if_neg hlt]; rfl
      have wi := wrap_succ (show i < 1000000 by omega)
      rcases Nat.eq_zero_or_pos i with h0 | h0
      · have c3 : decide ((i : Int) > 0) = false := by rw [decide_eq_false_iff_not]; omega
        simp only [law04_MeetSwaps_r9, law04_MeetSwaps_r10, law04_MeetSwaps_r11, law04_MeetSwaps_r12, law04_MeetSwaps_r13, law04_MeetSwaps_r14, law04_MeetSwaps_r15, law04_MeetSwaps_r16, law04_MeetSwaps_r17, law04_MeetSwaps_r18, law04_MeetSwaps_r19, law04_MeetSwaps_r20, law04_MeetSwaps_r21, Dt.eval, law04_MeetSwaps_K, dec_lt hlt, cond_true, inB_of hlt, elt_some hx, e1, e2, c1, c2, cond_false, e3, b0, e4, le_gt, g1, Bool.not_true, e5, gt_cmp, g2, c3, inB_of hal, inB_of hbl, elt_some hp, elt_some hq, e6, e7, e8, e9, beq_self_eq_true, Bool.and_self, hsw, wi]
        exact ih (by omega) (by omega)
      · have c3 : decide ((i : Int) > 0) = true := by rw [decide_eq_true_eq]; omega
        obtain ⟨y, hy⟩ : ∃ y, L[i - 1]? = some y := ⟨_, List.getElem?_eq_getElem (by omega)⟩
        have hyw := allM_w hok y (hL y (List.mem_of_getElem? hy)).1
        have wk : IntKind.wrap .i64 ((i : Int) - 1) = ((i - 1 : Nat) : Int) := by rw [IntWalk.i64_in _ (by omega)]; omega
        have e10 := before_eq d hyw hxw
        have hlt2 : ltM y x = true := by
          obtain ⟨_, rfl⟩ := List.getElem?_eq_some_iff.1 hx
          obtain ⟨_, rfl⟩ := List.getElem?_eq_some_iff.1 hy
          exact (List.pairwise_iff_getElem.1 hs) (i - 1) i (by omega) hlt (by omega)
        rw [hlt2] at e10
        simp only [law04_MeetSwaps_r9, law04_MeetSwaps_r10, law04_MeetSwaps_r11, law04_MeetSwaps_r12, law04_MeetSwaps_r13, law04_MeetSwaps_r14, law04_MeetSwaps_r15, law04_MeetSwaps_r16, law04_MeetSwaps_r17, law04_MeetSwaps_r18, law04_MeetSwaps_r19, law04_MeetSwaps_r20, law04_MeetSwaps_r21, Dt.eval, law04_MeetSwaps_K, dec_lt hlt, cond_true, inB_of hlt, elt_some hx, e1, e2, c1, c2, cond_false, e3, b0, e4, le_gt, g1, Bool.not_true, e5, gt_cmp, g2, c3, wk, inB_of (show i - 1 < L.length by omega), elt_some hy, e10, inB_of hal, inB_of hbl, elt_some hp, elt_some hq, e6, e7, e8, e9, beq_self_eq_true, Bool.and_self, hsw, wi]
        exact ih (by omega) (by omega)
    · simp only [law04_MeetSwaps_r9, law04_MeetSwaps_r21, Dt.eval, law04_MeetSwaps_K, dec_nlt hlt, cond_false, ea]
theorem alive04b : F_law04_alive 5000000 () = some true := by kernel_rfl
theorem mswaps_plain (d : Nat) (hf : 4194400 ≤ d) (ea : F_law04_alive d () = some true) (l : List T3) (n dd n' dd' : Int) (hn : i64B n = true) (hd : i64B dd = true) (hn' : i64B n' = true) (hd' : i64B dd' = true) : F_law04_MeetSwaps d ((l, ()), (n, dd, ()), (n', dd', ()), ()) = some true := by
  have f1 := fit_eq d l hn hd hn' hd'
  simp only [F_law04_MeetSwaps, law04_MeetSwaps_K, law04_MeetSwaps_r0, law04_MeetSwaps_r1, Dt.eval, f1]
  cases hf1 : fitB l n dd n' dd' with
  | false => simp only [Bool.not_false, cond_true, Dt.eval, law04_MeetSwaps_r2, ea]
  | true =>
    obtain ⟨hg, hc⟩ := fitB_iff hf1
    obtain ⟨hok, k0, k1, k01⟩ := chk2_zero hc
    have o0 := (ratioChk_zero k0).1
    have o1 := (ratioChk_zero k1).1
    have hok4 : ∀ x ∈ allM l, okM x := fun x hx => (allM_w hok x hx).ok
    have v1 : allV l n dd n' dd' = (cutM (allM l) n dd n' dd', 0) := by unfold allV; rw [if_neg (by simpa using hc)]
    have v2 : swapsV l n dd n' dd' = (((cutM (allM l) n dd n' dd').length : Int), 0) := by unfold swapsV; rw [if_neg (by simpa using hc), swaps_count hok o0 o1 k01]
    have e1 := mAll_eq d (by omega) l hn hd hn' hd'
    have e2 := mCount_eq d (by omega) l hn hd hn' hd'
    have e3 := mSwaps_eq d (by omega) l hn hd hn' hd'
    rw [v1] at e1 e2
    rw [v2] at e3
    have hlen := Nat.le_trans (cutM_len (allM l) n dd n' dd') (allM_len hok)
    have hs : (cutM (allM l) n dd n' dd').Pairwise fun a b => ltM a b = true := (allM_strict hok).sublist ((List.drop_sublist _ _).trans (List.take_sublist _ _))
    have e4 := swaps_loop d hf ea hok hn hd hn' hd' k0 k1 (L := cutM (allM l) n dd n' dd') (fun x hx => cutM_mem o0 o1 k01 hok4 (allM_pw hok) hx) hs hlen d 0 (by omega) (by omega)
    have b0 : ((0 : Int) != 0) = false := rfl
    simp only [Bool.not_true, cond_false, law04_MeetSwaps_r3, law04_MeetSwaps_r4, law04_MeetSwaps_r5, law04_MeetSwaps_r6, law04_MeetSwaps_r7, law04_MeetSwaps_r8, Dt.eval, e1, e2, e3, b0, bne_self_eq_false]
    exact e4
end Go.Proofs.Ythopjgahedijcaa
