/- Walks of the references; the orders agree; examples. -/
import Derived.Test.YthopjgahedijcaaGg
set_option linter.unusedSimpArgs false
set_option linter.unusedVariables false
namespace Go.Pel
open Go Go.Tx
theorem idxM_gt {n dd : Int} {L : List M4} {x : M4} (h : L[idxM n dd L]? = some x) : gtM n dd x = true := by
  obtain ⟨h1, rfl⟩ := List.getElem?_eq_some_iff.1 h
  exact List.findIdx_getElem (p := gtM n dd) (w := h1)
theorem leQ_trans {a b c d1 d2 d3 : Int} (h1 : 1 ≤ d1) (h2 : 1 ≤ d2) (h3 : 1 ≤ d3) (h : leQ a d1 b d2) (k : leQ b d2 c d3) : leQ a d1 c d3 := q_le h1 h2 h3 h k
theorem cut_parts {α : Type} {L : List α} {f m t : Nat} (h1 : f ≤ m) (h2 : m ≤ t) (h3 : t ≤ L.length) : ([] ++ (L.take m).drop f) ++ (L.take t).drop m = (L.take t).drop f := by
  have e : L.take t = L.take m ++ (L.take t).drop m := by
    conv => lhs; rw [← List.take_append_drop m (L.take t)]
    rw [List.take_take, Nat.min_eq_left h2]
  rw [List.nil_append]
  conv => rhs; rw [e]
  rw [List.drop_append_of_le_length (by rw [List.length_take]; omega)]
theorem cut_get {α : Type} {L : List α} {f t : Nat} (h1 : f < t) : ((L.take t).drop f)[0]? = L[f]? := by
  rw [List.getElem?_drop, Nat.add_zero, List.getElem?_take, if_pos h1]
end Go.Pel
namespace Go.Proofs.Ythopjgahedijcaa
open Go Go.Tx Go.Pel
/-- a field and two times that the laws look at -/
def fitB (l : List T3) (n dd n' dd' : Int) : Bool := !greatB l && (chk2 l n dd n' dd' == 0)
theorem fit_eq (d : Nat) (l : List T3) {n dd n' dd' : Int} (hn : i64B n = true) (hd : i64B dd = true) (hn' : i64B n' = true) (hd' : i64B dd' = true) : F_law04_fit d ((l, ()), (n, dd, ()), (n', dd', ()), ()) = some (fitB l n dd n' dd') := by
  have e1 := great_eq d l
  have e2 := rTimes_eq d l hn hd hn' hd'
  unfold fitB
  simp only [F_law04_fit, law04_fit_K, law04_fit_r0, law04_fit_r1, Dt.eval, e1]
  cases greatB l with
  | true => rfl
  | false => simp only [Bool.not_false, cond_true, e2, Bool.true_and, Dt.eval]
theorem fitB_iff {l : List T3} {n dd n' dd' : Int} (h : fitB l n dd n' dd' = true) : greatB l = false ∧ chk2 l n dd n' dd' = 0 := by
  unfold fitB at h
  simpa using h
theorem alive04 : F_law04_alive 5000 () = some true := by kernel_rfl
theorem chk2_of {l : List T3} {n dd n' dd' : Int} (h : FldOk l) (h0 : fieldChk (ptsL l) = 0) (h1 : ratioChk n dd = 0) (h2 : ratioChk n' dd' = 0) (h3 : leQ n dd n' dd') : chk2 l n dd n' dd' = 0 := by
  unfold chk2
  rw [if_neg (by simpa using h0), if_neg (by simpa using h1), if_neg (by simpa using h2), if_neg ((leQ_iff ..).1 h3)]
theorem chk2_fld {l : List T3} {n dd n' dd' : Int} (h : chk2 l n dd n' dd' = 0) : fieldChk (ptsL l) = 0 := by
  unfold chk2 at h
  by_cases h1 : fieldChk (ptsL l) = 0
  · exact h1
  · rw [if_pos h1] at h; exact absurd h h1
theorem mparts_plain (l : List T3) (n dd n1 d1 n2 d2 : Int) (hn : i64B n = true) (hd : i64B dd = true) (hn1 : i64B n1 = true) (hd1 : i64B d1 = true) (hn2 : i64B n2 = true) (hd2 : i64B d2 = true) : F_law04_MeetParts 5000 ((l, ()), (n, dd, ()), (n1, d1, ()), (n2, d2, ()), ()) = some true := by
  have f1 := fit_eq 5000 l hn hd hn1 hd1
  have f2 := fit_eq 5000 l hn1 hd1 hn2 hd2
  have ea := alive04
  simp only [F_law04_MeetParts, law04_MeetParts_K, law04_MeetParts_r0, law04_MeetParts_r1, Dt.eval, f1]
  cases hf1 : fitB l n dd n1 d1 with
  | false => simp only [Bool.not_false, cond_true, Dt.eval, law04_MeetParts_r2, ea]
  | true =>
    simp only [Bool.not_true, cond_false, f2, Dt.eval]
    cases hf2 : fitB l n1 d1 n2 d2 with
    | false => simp only [Bool.not_false, cond_true, Dt.eval, law04_MeetParts_r2, ea]
    | true =>
      obtain ⟨hg, hc1⟩ := fitB_iff hf1
      obtain ⟨_, hc2⟩ := fitB_iff hf2
      obtain ⟨hok, k0, k1, k01⟩ := chk2_zero hc1
      obtain ⟨_, _, k2, k12⟩ := chk2_zero hc2
      have o0 := (ratioChk_zero k0).1
      have o1 := (ratioChk_zero k1).1
      have o2 := (ratioChk_zero k2).1
      have k02 := leQ_trans o0 o1 o2 k01 k12
      have hc3 := chk2_of hok (chk2_fld hc1) k0 k2 k02
      have hok4 : ∀ x ∈ allM l, okM x := fun x hx => (allM_w hok x hx).ok
      have i01 := idxM_le o0 o1 k01 hok4
      have i12 := idxM_le o1 o2 k12 hok4
      have i2 := idxM_len n2 d2 (allM l)
      have hlen := allM_len hok
      have v1 : allV l n dd n1 d1 = (cutM (allM l) n dd n1 d1, 0) := by unfold allV; rw [if_neg (by simpa using hc1)]
      have v2 : allV l n1 d1 n2 d2 = (cutM (allM l) n1 d1 n2 d2, 0) := by unfold allV; rw [if_neg (by simpa using hc2)]
      have v3 : allV l n dd n2 d2 = (cutM (allM l) n dd n2 d2, 0) := by unfold allV; rw [if_neg (by simpa using hc3)]
      have e1 := mAll_eq 5000 (by omega) l hn hd hn1 hd1
      have e2 := mAll_eq 5000 (by omega) l hn1 hd1 hn2 hd2
      have e3 := mAll_eq 5000 (by omega) l hn hd hn2 hd2
      rw [v1] at e1
      rw [v2] at e2
      rw [v3] at e3
      have hp : ([] ++ cutM (allM l) n dd n1 d1) ++ cutM (allM l) n1 d1 n2 d2 = cutM (allM l) n dd n2 d2 := cut_parts i01 i12 i2
      have e4 := rSame_refl 5000 (by omega) (L := cutM (allM l) n dd n2 d2) (Nat.le_trans (cutM_len ..) hlen)
      have a1 : apB (List.length ([] : List Diiii)) (cutM (allM l) n dd n1 d1).length = true := by
        unfold apB; rw [Nat.ble_eq]; have := cutM_len (allM l) n dd n1 d1; simp only [List.length_nil]; omega
      have a2 : apB (List.length (([] : List Diiii) ++ cutM (allM l) n dd n1 d1)) (cutM (allM l) n1 d1 n2 d2).length = true := by
        unfold apB; rw [Nat.ble_eq]; have := cutM_len (allM l) n dd n1 d1; have := cutM_len (allM l) n1 d1 n2 d2; simp only [List.nil_append]; omega
      have e5 := next_eq 5000 (by omega) l n dd hn hd
      have c1 : chk1 l n dd = 0 := by unfold chk1; rw [if_neg (by simpa using chk2_fld hc1)]; exact k0
      have b0 : ((0 : Int) != 0) = false := rfl
      simp only [Bool.not_true, cond_false, law04_MeetParts_r3, law04_MeetParts_r4, law04_MeetParts_r5, law04_MeetParts_r6, law04_MeetParts_r7, law04_MeetParts_r8, law04_MeetParts_r9, law04_MeetParts_r10, law04_MeetParts_r11, Dt.eval, e1, e2, e3, b0, a1, a2, cond_true, hp, e4, e5]
      unfold nextV
      rw [if_neg (by simpa using c1)]
      rcases Nat.lt_or_ge (idxM n dd (allM l)) (idxM n2 d2 (allM l)) with hlt | hge
      · have hl : (cutM (allM l) n dd n2 d2).length ≠ 0 := by unfold cutM; rw [List.length_drop, List.length_take]; omega
        obtain ⟨x, hx⟩ : ∃ x, (allM l)[idxM n dd (allM l)]? = some x := ⟨_, List.getElem?_eq_getElem (by omega)⟩
        have hx0 : (cutM (allM l) n dd n2 d2)[0]? = some x := (cut_get hlt).trans hx
        have c2 : (((cutM (allM l) n dd n2 d2).length : Int) == 0) = false := by rw [beq_eq_false_iff_ne]; omega
        have ie : inB 0 (cutM (allM l) n dd n2 d2).length = true := inB_of (k := 0) (by omega)
        have ee : elt ziiii (cutM (allM l) n dd n2 d2) (0 : Int).toNat = x := elt_some (k := 0) hx0
        simp only [hx, c2, cond_false, Dt.eval, beq_self_eq_true, cond_true, ie, ee, Bool.and_self, ea]
      · have hl : (cutM (allM l) n dd n2 d2).length = 0 := by unfold cutM; rw [List.length_drop, List.length_take]; omega
        have c2 : (((cutM (allM l) n dd n2 d2).length : Int) == 0) = true := by rw [beq_iff_eq]; omega
        cases hx : (allM l)[idxM n dd (allM l)]? with
        | none => simp only [c2, cond_true, Dt.eval, beq_self_eq_true, ea]
        | some x =>
          have hxw := allM_w hok x (List.mem_of_getElem? hx)
          have i02 := idxM_le o0 o2 k02 hok4
          have hg2 : gtM n2 d2 x = true := idxM_gt (by rw [show idxM n2 d2 (allM l) = idxM n dd (allM l) by omega]; exact hx)
          have e6 := rChk_eq 5000 (n := x.1) (dd := x.2.1) hxw.b1 hxw.b2
          have e7 := rCompare_eq 5000 x.1 x.2.1 n2 d2 hxw.b1 hxw.b2 hn2 hd2
          rw [show ratioChk x.1 x.2.1 = 0 from hxw.ok] at e6
          simp only [c2, cond_true, Dt.eval, show ((0 : Int) == 6) = false from rfl, cond_false, beq_self_eq_true, e6, e7, gt_cmp, hg2, ea]
end Go.Proofs.Ythopjgahedijcaa
