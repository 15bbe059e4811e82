/- Walks of the references; the orders agree; examples. -/
import Derived.Test.YthopjgahedijcaaGf
set_option linter.unusedSimpArgs false
set_option linter.unusedVariables false
namespace Go.Pel
open Go Go.Tx
theorem filter_up {α : Type} {p : α → Bool} : ∀ {L : List α}, (L.Pairwise fun a b => p a = true → p b = true) → L.filter p = L.drop (L.findIdx p)
  | [], _ => rfl
  | x :: xs, h => by
    obtain ⟨h1, h2⟩ := List.pairwise_cons.1 h
    rw [List.findIdx_cons]
    cases hp : p x with
    | true =>
      rw [cond_true, List.drop_zero, List.filter_eq_self]
      intro y hy
      rcases List.mem_cons.1 hy with rfl | hy
      · exact hp
      · exact h1 y hy hp
    | false =>
      rw [cond_false, List.drop_succ_cons, List.filter_cons_of_neg (by rw [hp]; decide), filter_up h2]
theorem filter_dn {α : Type} {p : α → Bool} : ∀ {L : List α}, (L.Pairwise fun a b => p a = true → p b = true) → L.filter (fun x => !p x) = L.take (L.findIdx p)
  | [], _ => rfl
  | x :: xs, h => by
    obtain ⟨h1, h2⟩ := List.pairwise_cons.1 h
    rw [List.findIdx_cons]
    cases hp : p x with
    | true =>
      rw [cond_true, List.take_zero, List.filter_eq_nil_iff]
      intro y hy
      rcases List.mem_cons.1 hy with rfl | hy
      · rw [hp]; decide
      · rw [h1 y hy hp]; decide
    | false =>
      rw [cond_false, List.take_succ_cons, List.filter_cons_of_pos (by rw [hp]; decide), filter_dn h2]
theorem gtM_pw {n dd : Int} (hd : 1 ≤ dd) {L : List M4} (hL : ∀ x ∈ L, okM x) (hs : L.Pairwise fun a b => ltM b a = false) : L.Pairwise fun a b => gtM n dd a = true → gtM n dd b = true := by
  rw [List.pairwise_iff_getElem] at hs ⊢
  intro i j hi hj hij h
  exact gtM_mono hd hL (List.pairwise_iff_getElem.2 hs) (Nat.le_of_lt hij) (List.getElem?_eq_getElem hi) (List.getElem?_eq_getElem hj) h
/-- not before in time -/
def leQ (n dd n' dd' : Int) : Prop := n * dd' ≤ n' * dd
theorem leQ_iff (n dd n' dd' : Int) : leQ n dd n' dd' ↔ ¬ 0 < cmpQ n dd n' dd' := by
  unfold leQ cmpQ cmpZ
  repeat' split
  all_goals omega
theorem gtM_le {n dd n' dd' : Int} (hd : 1 ≤ dd) (hd' : 1 ≤ dd') (hle : leQ n dd n' dd') {x : M4} (hx : okM x) (h : gtM n' dd' x = true) : gtM n dd x = true := by
  have o1 := (ratioChk_zero hx).1
  rw [gtM_iff] at h ⊢
  exact q_lt' hd hd' o1 hle h
theorem idxM_le {n dd n' dd' : Int} (hd : 1 ≤ dd) (hd' : 1 ≤ dd') (hle : leQ n dd n' dd') {L : List M4} (hL : ∀ x ∈ L, okM x) : idxM n dd L ≤ idxM n' dd' L := by
  unfold idxM
  induction L with
  | nil => exact Nat.le_refl _
  | cons x xs ih =>
    have := ih fun y hy => hL y (List.mem_cons_of_mem _ hy)
    rw [List.findIdx_cons, List.findIdx_cons]
    cases h1 : gtM n dd x with
    | true => rw [cond_true]; omega
    | false =>
      cases h2 : gtM n' dd' x with
      | true => rw [gtM_le hd hd' hle (hL x (List.mem_cons_self ..)) h2] at h1; cases h1
      | false => rw [cond_false, cond_false]; omega
theorem idxM_len (n dd : Int) (L : List M4) : idxM n dd L ≤ L.length := List.findIdx_le_length
/-- the meetings of a list that come between two times -/
def cutM (L : List M4) (n dd n' dd' : Int) : List M4 := (L.take (idxM n' dd' L)).drop (idxM n dd L)
def inM (n dd n' dd' : Int) (x : M4) : Bool := gtM n dd x && !gtM n' dd' x
theorem cutM_eq {n dd n' dd' : Int} (hd : 1 ≤ dd) (hd' : 1 ≤ dd') (hle : leQ n dd n' dd') {L : List M4} (hL : ∀ x ∈ L, okM x) (hs : L.Pairwise fun a b => ltM b a = false) : L.filter (inM n dd n' dd') = cutM L n dd n' dd' := by
  have e1 : L.filter (inM n dd n' dd') = (L.filter fun x => !gtM n' dd' x).filter (gtM n dd) := by rw [List.filter_filter]; rfl
  have e2 := filter_dn (gtM_pw (n := n') (dd := dd') hd' hL hs)
  have hp : (L.take (idxM n' dd' L)).Pairwise fun a b => gtM n dd a = true → gtM n dd b = true := (gtM_pw hd hL hs).sublist (List.take_sublist _ _)
  have h3 := idxM_le hd hd' hle hL
  rw [e1, e2]
  unfold cutM
  rw [show L.findIdx (gtM n' dd') = idxM n' dd' L from rfl, filter_up hp, List.findIdx_take]
  congr 1
  unfold idxM at h3 ⊢
  omega
theorem cutM_len (L : List M4) (n dd n' dd' : Int) : (cutM L n dd n' dd').length ≤ L.length := by unfold cutM; rw [List.length_drop, List.length_take]; omega
end Go.Pel
namespace Go.Proofs.Ythopjgahedijcaa
open Go Go.Tx Go.Pel
theorem chk2_zero {l : List T3} {n dd n' dd' : Int} (h : chk2 l n dd n' dd' = 0) : FldOk l ∧ ratioChk n dd = 0 ∧ ratioChk n' dd' = 0 ∧ leQ n dd n' dd' := by
  unfold chk2 at h
  by_cases h1 : fieldChk (ptsL l) = 0
  · rw [if_neg (by simpa using h1)] at h
    by_cases h2 : ratioChk n dd = 0
    · rw [if_neg (by simpa using h2)] at h
      by_cases h3 : ratioChk n' dd' = 0
      · rw [if_neg (by simpa using h3)] at h
        by_cases h4 : 0 < cmpQ n dd n' dd'
        · rw [if_pos h4] at h; cases h
        · exact ⟨fldOk_of h1, h2, h3, (leQ_iff ..).2 h4⟩
      · rw [if_pos h3] at h; exact absurd h h3
    · rw [if_pos h2] at h; exact absurd h h2
  · rw [if_pos h1] at h; exact absurd h h1
/-- meet.All -/
def allV (l : List T3) (n dd n' dd' : Int) : List M4 × Int := if chk2 l n dd n' dd' ≠ 0 then ([], chk2 l n dd n' dd') else (cutM (allM l) n dd n' dd', 0)
theorem mAll_eq (d : Nat) (hf : 5000 ≤ d) (l : List T3) {n dd n' dd' : Int} (hn : i64B n = true) (hd : i64B dd = true) (hn' : i64B n' = true) (hd' : i64B dd' = true) : F_meet_All d ((l, ()), (n, dd, ()), (n', dd', ()), ()) = some (allV l n dd n' dd') := by
  have e1 := check2_eq d (by omega) l n dd n' dd' hn hd hn' hd'
  unfold allV
  simp only [F_meet_All, meet_All_K, meet_All_r0, meet_All_r1, meet_All_r2, meet_All_r3, meet_All_r4, meet_All_r5, meet_All_r6, Dt.eval, e1]
  by_cases h : chk2 l n dd n' dd' = 0
  · obtain ⟨hok, h2, h3, h4⟩ := chk2_zero h
    have e2 := all_eq d (by omega) hok
    have e3 := behind_eq d hf (allM_w hok) (allM_len hok) (allM_pw hok) hn hd h2
    have e4 := behind_eq d hf (allM_w hok) (allM_len hok) (allM_pw hok) hn' hd' h3
    have hle := idxM_le (ratioChk_zero h2).1 (ratioChk_zero h3).1 h4 fun x hx => (allM_w hok x hx).ok
    have hln := idxM_len n' dd' (allM l)
    have hc : cut3B (idxM n dd (allM l) : Int) (idxM n' dd' (allM l) : Int) (idxM n' dd' (allM l) : Int) (allM l).length = true := by
      unfold cut3B; simp only [Bool.and_eq_true, decide_eq_true_eq]; omega
    simp only [h, show ((0 : Int) != 0) = false from rfl, cond_false, Dt.eval, e2, e3, e4, ne_eq, not_true_eq_false, if_false, hc, cond_true, Int.toNat_natCast]
    rfl
  · have hb : (chk2 l n dd n' dd' != 0) = true := by simpa using h
    simp only [hb, cond_true, ne_eq, h, not_false_eq_true, if_true]
theorem mCount_eq (d : Nat) (hf : 5000 ≤ d) (l : List T3) {n dd n' dd' : Int} (hn : i64B n = true) (hd : i64B dd = true) (hn' : i64B n' = true) (hd' : i64B dd' = true) : F_meet_Count d ((l, ()), (n, dd, ()), (n', dd', ()), ()) = some (((allV l n dd n' dd').1.length : Int), (allV l n dd n' dd').2) := by
  have e1 := mAll_eq d hf l hn hd hn' hd'
  simp only [F_meet_Count, meet_Count_K, meet_Count_r0, meet_Count_r1, meet_Count_r2, Dt.eval, e1]
theorem le_gt {x : M4} {n dd : Int} : decide (cmpQ x.1 x.2.1 n dd ≤ 0) = !gtM n dd x := by
  unfold gtM
  rw [← decide_not]
  congr 1
  exact propext (by omega)
theorem same_loop (d : Nat) {L : List M4} (hlen : L.length ≤ 4096) : ∀ (f i : Nat), L.length - i < f → i ≤ L.length → iter (ref04_Same_L1 d) f (L, L, (i : Int)) = some true
  | 0, i, hf, _ => by omega
  | f + 1, i, hf, hi => by
    have ih := same_loop d hlen f (i + 1)
    rw [iter]
    revert ih
    generalize iter (ref04_Same_L1 d) f = self
    intro ih
    unfold ref04_Same_L1
    simp only [ref04_Same_r4, ref04_Same_r5, ref04_Same_r6, ref04_Same_r7, ref04_Same_r8, Dt.eval]
    by_cases hlt : i < L.length
    · simp only [dec_lt hlt, cond_true, inB_of hlt, beq_self_eq_true, Bool.and_self, Bool.not_true, cond_false, wrap_succ (show i < 1000000 by omega)]
      exact ih (by omega) (by omega)
    · simp only [dec_nlt hlt, cond_false]
theorem rSame_refl (d : Nat) (hf : 5000 ≤ d) {L : List M4} (hlen : L.length ≤ 4096) : F_ref04_Same d ((L, ()), (L, ()), ()) = some true := by
  have e := same_loop d hlen d 0 (by omega) (by omega)
  simp only [F_ref04_Same, ref04_Same_K, ref04_Same_r0, ref04_Same_r1, ref04_Same_r2, ref04_Same_r3, Dt.eval, bne_self_eq_false, cond_false]
  exact e
end Go.Proofs.Ythopjgahedijcaa

namespace Go.Tx
theorem loopF_cnt {α Z : Type} {step : α → Z → Option Z} {g : α → Bool} {P : α → Prop} {st : Nat → Z} (hs : ∀ a k, P a → k ≤ 99999 → step a (st k) = some (st (if g a = true then k + 1 else k))) : ∀ (l : List α) (k : Nat), (∀ a ∈ l, P a) → k + l.length ≤ 99999 → loopF step l (st k) = some (st (k + l.countP g))
  | [], k, _, _ => by simp [loopF]
  | a :: l, k, h, hl => by
    rw [List.length_cons] at hl
    rw [loopF, hs a k (h a (List.mem_cons_self ..)) (by omega)]
    show loopF step l (st (if g a = true then k + 1 else k)) = _
    rw [loopF_cnt hs l _ (fun b hb => h b (List.mem_cons_of_mem _ hb)) (by split <;> omega), List.countP_cons]
    refine congrArg some (congrArg st ?_)
    split <;> omega
end Go.Tx
namespace Go.Proofs.Ythopjgahedijcaa
open Go Go.Tx Go.Pel
theorem mAhead_eq (d : Nat) {p q : T3} (hp : okP p) (hq : okP q) (hi : p.1 ≠ q.1) {n dd : Int} (hn : i64B n = true) (hd : i64B dd = true) (hr : ratioChk n dd = 0) : F_course_Ahead d ((p.1, p.2.1, p.2.2.1, ()), (q.1, q.2.1, q.2.2.1, ()), (n, dd, ()), ()) = some (leads (ofP p) (ofP q) n dd, 0) := by
  rw [F_course_Ahead_eq _ _ (by unfold course_Ahead_if; simp only [hn, hd, Bool.and_self])]
  have h : twoChk (ofP p) (ofP q) n dd = 0 := twoChk_ok ⟨hp, hq, hr⟩ hi
  show some ((aheadV (ofP p) (ofP q) n dd).1, (aheadV (ofP p) (ofP q) n dd).2) = _
  unfold aheadV
  rw [if_pos h]
theorem rLeads_eq (d : Nat) {p q : T3} (hp : okP p) (hq : okP q) {n dd : Int} (hn : i64B n = true) (hd : i64B dd = true) (hr : ratioChk n dd = 0) : F_ref02_Leads d ((p.1, p.2.1, p.2.2.1, ()), (q.1, q.2.1, q.2.2.1, ()), (n, dd, ()), ()) = some (leads (ofP p) (ofP q) n dd) :=
  F_ref02_Leads_eq _ _ (cmpInB_of (cmpIn_of (p := ofP p) (q := ofP q) hp hq hr (i64B_iff hn) (i64B_iff hd)))
/-- a pair is swapped between two times -/
def swP (n dd n' dd' : Int) (x : T3 × T3) : Bool := !(leads (ofP x.1) (ofP x.2) n dd == leads (ofP x.1) (ofP x.2) n' dd')
/-- meet.Swaps -/
def swapsV (l : List T3) (n dd n' dd' : Int) : Int × Int := if chk2 l n dd n' dd' ≠ 0 then (0, chk2 l n dd n' dd') else (((pairsL l).countP (swP n dd n' dd') : Nat), 0)
theorem mSwaps_eq (d : Nat) (hf : 5000 ≤ d) (l : List T3) {n dd n' dd' : Int} (hn : i64B n = true) (hd : i64B dd = true) (hn' : i64B n' = true) (hd' : i64B dd' = true) : F_meet_Swaps d ((l, ()), (n, dd, ()), (n', dd', ()), ()) = some (swapsV l n dd n' dd') := by
  have e1 := check2_eq d (by omega) l n dd n' dd' hn hd hn' hd'
  unfold swapsV
  simp only [F_meet_Swaps, meet_Swaps_K, meet_Swaps_r0, meet_Swaps_r1, meet_Swaps_r2, meet_Swaps_r3, meet_Swaps_r4, meet_Swaps_r5, Dt.eval, e1]
  by_cases h : chk2 l n dd n' dd' = 0
  · obtain ⟨hok, h2, h3, h4⟩ := chk2_zero h
    have hlen := pairsL_len l
    have hl4 := Nat.mul_le_mul hok.len hok.len
    have e2 : F_meet_pairs d ((l, ()), ()) = some l := by simp only [F_meet_pairs, meet_pairs_K, meet_pairs_r0, meet_pairs_r1, Dt.eval]
    have hp : pairsB l = true := by unfold pairsB; rw [Nat.ble_eq]; have := hok.len; omega
    have hstep : ∀ (x : T3 × T3) (k : Nat), (okP x.1 ∧ okP x.2 ∧ x.1.1 ≠ x.2.1) → k ≤ 99999 → step2 (meet_Swaps_A1 d) (meet_Swaps_B1 d) x ((fun k : Nat => ((n, dd, n', dd', (k : Int)) : Int × Int × Int × Int × Int)) k) = some ((fun k : Nat => ((n, dd, n', dd', (k : Int)) : Int × Int × Int × Int × Int)) (if swP n dd n' dd' x = true then k + 1 else k)) := by
      rintro x k ⟨g1, g2, g3⟩ hk
      have e3 := mAhead_eq d g1 g2 g3 hn hd h2
      have e4 := mAhead_eq d g1 g2 g3 hn' hd' h3
      unfold step2 meet_Swaps_A1 meet_Swaps_B1 swP
      simp only [meet_Swaps_r6, meet_Swaps_r7, meet_Swaps_r8, meet_Swaps_r9, meet_Swaps_r10, meet_Swaps_r11, Dt.eval, meet_Swaps_K, e3, e4, Option.bind_some, wrap_succ (show k < 1000000 by omega)]
      cases (leads (ofP x.1) (ofP x.2) n dd == leads (ofP x.1) (ofP x.2) n' dd') <;> rfl
    have e5 := loopF_cnt (st := fun k : Nat => ((n, dd, n', dd', (k : Int)) : Int × Int × Int × Int × Int)) hstep (pairsL l) 0 (fun x hx => by
      obtain ⟨g1, g2, g3⟩ := pairsL_mem hx hok.inc
      exact ⟨hok.ok _ g1, hok.ok _ g2, by omega⟩) (by omega)
    simp only [Nat.zero_add] at e5
    simp only [h, show ((0 : Int) != 0) = false from rfl, cond_false, Dt.eval, e2, ne_eq, not_true_eq_false, if_false, hp, cond_true]
    have e6 : loopF (step2 (meet_Swaps_A1 d) (meet_Swaps_B1 d)) (pairsL l) ((n, dd, n', dd', 0) : Int × Int × Int × Int × Int) = some (n, dd, n', dd', (((pairsL l).countP (swP n dd n' dd') : Nat) : Int)) := e5
    rw [e6]
    simp only [Option.bind_some, meet_Swaps_r12, Dt.eval]
  · have hb : (chk2 l n dd n' dd' != 0) = true := by simpa using h
    simp only [hb, cond_true, ne_eq, h, not_false_eq_true, if_true]
theorem great_len {l : List T3} (h : greatB l = false) : l.length ≤ 70 := by
  unfold greatB great at h
  rw [ptsL_len] at h
  simp only [cond_eq_ite, Bool.or_eq_true, Bool.and_eq_true, decide_eq_true_eq] at h
  by_cases hl : l.length ≤ 70
  · exact hl
  · rw [if_pos (by omega)] at h; cases h
theorem toPs_pts (l : List T3) : toPs (ptsL l) = l := by
  unfold toPs ptsL
  rw [List.map_map]
  exact List.map_id _
end Go.Proofs.Ythopjgahedijcaa
