/- Walks of the references; the orders agree; examples. -/
import Derived.Test.YtmagihjfbembjaaRows
import Derived.ProofKit
import Derived.OpenShut
import Derived.ShutString
import Derived.ChangeOld
import Derived.Deep.Slices
import Derived.Test.YtmagihjfbembjaaGg
set_option linter.unusedSimpArgs false
set_option linter.unusedVariables false
namespace Go.Proofs.Ytmagihjfbembjaa
open Go Go.Tx Go.Pel
/-- how many points are ahead of one -/
def rkN (l : List T3) (p : T3) (n dd : Int) : Nat := l.countP fun q => leads (ofP q) (ofP p) n dd
theorem rank_pos {p : Pt} {n d : Int} : ∀ {O : List Pt} {k : Nat}, O.Pairwise (fun a b => leads b a n d = false ∧ leads a b n d = true) → O[k]? = some p → O.countP (fun q => leads q p n d) = k
  | [], k, _, h => by simp at h
  | a :: O, 0, hO, h => by
    obtain ⟨h1, _⟩ := List.pairwise_cons.1 hO
    simp only [List.getElem?_cons_zero, Option.some.injEq] at h
    subst h
    rw [List.countP_cons, leads_self]
    have : O.countP (fun q => leads q a n d) = 0 := List.countP_eq_zero.2 fun q hq => by rw [(h1 q hq).1]; decide
    rw [this]; rfl
  | a :: O, k + 1, hO, h => by
    obtain ⟨h1, h2⟩ := List.pairwise_cons.1 hO
    rw [List.getElem?_cons_succ] at h
    rw [List.countP_cons, rank_pos h2 h, (h1 p (List.mem_of_getElem? h)).2]; rfl
theorem ordI_strict {l : List T3} (h : FldOk l) (n dd : Int) : (ordI n dd (ptsL l)).Pairwise (fun a b => (leads b a n dd = false ∧ leads a b n dd = true) ∧ a.id ≠ b.id) := by
  have hp := ordI_perm n dd (ptsL l)
  have hn : (ordI n dd (ptsL l)).Pairwise fun a b => a.id ≠ b.id := by
    refine (hp.pairwise_iff (R := fun a b : Pt => a.id ≠ b.id) (fun {a b} h => Ne.symm h)).2 ?_
    unfold ptsL
    rw [List.pairwise_map]
    exact h.inc.imp fun {a b} hab => by show a.1 ≠ b.1; omega
  refine ((ordI_pw n dd (ptsL l)).and hn).imp fun {a b} ⟨h1, h2⟩ => ⟨⟨h1, ?_⟩, h2⟩
  rw [leads_asym (p := b) (q := a) (Ne.symm h2), h1]; rfl
theorem idx_loop (d : Nat) {L : List Int} {x r : Int} (hlen : L.length ≤ 1000) (hr : (∃ k : Nat, L[k]? = some x ∧ (∀ j, j < k → L[j]? ≠ some x) ∧ r = k) ∨ ((∀ j : Nat, L[j]? ≠ some x) ∧ r = -1)) : ∀ (f i : Nat), L.length - i < f → (∀ j, j < i → L[j]? ≠ some x) → iter (slices_Index_int_int_L1 d) f (unI L, x, (L.length : Int), (i : Int)) = some r
  | 0, i, hf, _ => by omega
  | f + 1, i, hf, hi => by
    have ih := idx_loop d hlen hr f (i + 1)
    rw [iter]
    revert ih
    generalize iter (slices_Index_int_int_L1 d) f = self
    intro ih
    unfold slices_Index_int_int_L1
    have hul : (unI L).length = L.length := unI_len L
    by_cases hlt : i < L.length
    · obtain ⟨y, hy⟩ : ∃ y, L[i]? = some y := ⟨_, List.getElem?_eq_getElem hlt⟩
      have hu : (unI L)[i]? = some (y, ()) := by unfold unI; rw [List.getElem?_map, hy]; rfl
      simp only [slices_Index_int_int_r2, slices_Index_int_int_r3, slices_Index_int_int_r4, slices_Index_int_int_r5, slices_Index_int_int_r6, Dt.eval, dec_lt hlt, cond_true, inB_of (show i < (unI L).length by omega), elt_some hu]
      by_cases he : x = y
      · subst he
        simp only [beq_self_eq_true, cond_true]
        rcases hr with ⟨k, k1, k2, rfl⟩ | ⟨k1, _⟩
        · have : k = i := by
            rcases (by omega : k < i ∨ k = i ∨ i < k) with h | h | h
            · exact absurd k1 (hi k h)
            · exact h
            · exact absurd hy (k2 i h)
          rw [this]
        · exact absurd hy (k1 i)
      · simp only [show (x == y) = false by simpa using he, cond_false, wrap_succ (show i < 1000000 by omega)]
        refine ih (by omega) fun j hj => ?_
        rcases (by omega : j < i ∨ j = i) with h | rfl
        · exact hi j h
        · rw [hy]; intro e; injection e with e; exact he e.symm
    · simp only [slices_Index_int_int_r2, slices_Index_int_int_r3, slices_Index_int_int_r4, slices_Index_int_int_r5, slices_Index_int_int_r6, slices_Index_int_int_r7, Dt.eval, dec_nlt hlt, cond_false]
      rcases hr with ⟨k, k1, k2, _⟩ | ⟨_, rfl⟩
      · have := (List.getElem?_eq_some_iff.1 k1).1
        exact absurd k1 (hi k (by omega))
      · rfl
theorem index_eq (d : Nat) (hd : 2000 ≤ d) {L : List Int} {x r : Int} (hlen : L.length ≤ 1000) (hr : (∃ k : Nat, L[k]? = some x ∧ (∀ j, j < k → L[j]? ≠ some x) ∧ r = k) ∨ ((∀ j : Nat, L[j]? ≠ some x) ∧ r = -1)) : F_slices_Index_int_int d ((unI L, ()), (x, ()), ()) = some r := by
  have e := idx_loop d hlen hr d 0 (by omega) (fun j hj => by omega)
  simp only [F_slices_Index_int_int, slices_Index_int_int_K, slices_Index_int_int_r0, slices_Index_int_int_r1, Dt.eval, unI_len]
  exact e
/-- a field has a point -/
def hasL (l : List T3) (id : Int) : Bool := l.any fun p => p.1 == id
theorem hasL_iff {l : List T3} {id : Int} : hasL l id = true ↔ ∃ p ∈ l, p.1 = id := by
  unfold hasL
  simp only [List.any_eq_true, beq_iff_eq]
theorem hasL_no {l : List T3} {id : Int} (h : hasL l id = false) {p : T3} (hp : p ∈ l) : p.1 ≠ id := fun e => by
  rw [hasL_iff.2 ⟨p, hp, e⟩] at h; cases h
theorem rank_has (d : Nat) (hd : 2000 ≤ d) {l : List T3} (h : FldOk l) (h0 : fieldChk (ptsL l) = 0) {p : T3} (hp : p ∈ l) {n dd : Int} (hn : i64B n = true) (hdd : i64B dd = true) (hr : ratioChk n dd = 0) : F_field_Rank d ((l, ()), (p.1, ()), (n, dd, ()), ()) = some ((rkN l p n dd : Int), 0) := by
  have e1 := order_at d h.len h0 hn hdd hr
  have hO := ordI_strict h n dd
  have hperm := ordI_perm n dd (ptsL l)
  have hlen : (ordI n dd (ptsL l)).length = l.length := by rw [hperm.length_eq, ptsL_len]
  obtain ⟨k, hk⟩ : ∃ k : Nat, (ordI n dd (ptsL l))[k]? = some (ofP p) := List.mem_iff_getElem?.1 (hperm.mem_iff.2 (List.mem_map_of_mem hp))
  have hcnt : k = rkN l p n dd := by
    rw [← rank_pos (hO.imp fun {a b} h => h.1) hk, hperm.countP_eq]
    unfold ptsL rkN
    rw [List.countP_map]; rfl
  have e2 := index_eq d hd (L := (ordI n dd (ptsL l)).map Pt.id) (x := p.1) (r := (k : Int)) (by rw [List.length_map, hlen]; have := h.len; omega) (.inl ⟨k, by rw [List.getElem?_map, hk]; rfl, fun j hj e => by
    obtain ⟨h1, _⟩ := List.getElem?_eq_some_iff.1 hk
    rw [List.getElem?_map, List.getElem?_eq_getElem (by omega)] at e
    injection e with e
    have := (List.pairwise_iff_getElem.1 hO) j k (by omega) h1 hj
    rw [(List.getElem?_eq_some_iff.1 hk).2] at this
    exact this.2 e, rfl⟩)
  have c : decide ((k : Int) < 0) = false := decide_eq_false (by omega)
  simp only [F_field_Rank, field_Rank_K, field_Rank_r0, field_Rank_r1, field_Rank_r2, field_Rank_r3, field_Rank_r4, field_Rank_r5, field_Rank_r6, field_Rank_r7, Dt.eval, e1, show ((0 : Int) != 0) = false from rfl, cond_false, e2, c]
  rw [hcnt]
theorem timed_ok {l : List T3} {n d : Int} (h : timed (ptsL l) n d = 0) : FldOk l ∧ fieldChk (ptsL l) = 0 ∧ ratioChk n d = 0 := by
  unfold timed at h
  by_cases h0 : fieldChk (ptsL l) = 0
  · rw [if_neg (by simpa using h0)] at h
    exact ⟨fldOk_of h0, h0, h⟩
  · rw [if_pos h0] at h; exact absurd h h0
theorem rTimed_eq (d : Nat) {l : List T3} (hlen : l.length ≤ 1000) {n dd : Int} (hn : i64B n = true) (hdd : i64B dd = true) : F_ref03_Timed d ((l, ()), (n, dd, ()), ()) = some (timed (ptsL l) n dd) := by
  rw [F_ref03_Timed_eq _ _ (by unfold ref03_Timed_if; simp only [hn, hdd, Bool.and_self, Bool.true_and, decide_eq_true_eq]; rw [ptsL_len]; omega)]
theorem rAt_eq (d : Nat) {l : List T3} (hlen : l.length ≤ 1000) (id : Int) : F_ref03_At d ((l, ()), (id, ()), ()) = some (atI (ptsL l) id) := by
  rw [F_ref03_At_eq _ _ (by unfold ref03_At_if; rw [decide_eq_true_eq]; show (ptsL l).length ≤ _; rw [ptsL_len]; omega)]
theorem atL_has {l : List T3} (h : FldOk l) {p : T3} (hp : p ∈ l) : ∃ k : Nat, l[k]? = some p ∧ atI (ptsL l) p.1 = k := by
  obtain ⟨k, hk⟩ := List.mem_iff_getElem?.1 hp
  refine ⟨k, hk, atI_of (p := ofP p) (fun j q hj hq => ?_) (by unfold ptsL; rw [List.getElem?_map, hk]; rfl) rfl⟩
  unfold ptsL at hq
  rw [List.getElem?_map] at hq
  obtain ⟨hil, rfl⟩ := List.getElem?_eq_some_iff.1 hk
  rw [List.getElem?_eq_getElem (by omega)] at hq
  injection hq with hq
  subst hq
  have := (List.pairwise_iff_getElem.1 h.inc) j k (by omega) hil hj
  show (l[j]).1 ≠ (l[k]).1
  omega
theorem atL_no {l : List T3} {id : Int} (h : hasL l id = false) : atI (ptsL l) id = -1 := by
  refine atI_no (hasB_no fun i P hP => ?_)
  obtain ⟨p, hp, rfl⟩ := pts_mem (List.mem_of_getElem? hP)
  exact hasL_no h hp
theorem atL_neg {l : List T3} (h : FldOk l) (id : Int) : decide (atI (ptsL l) id < 0) = !hasL l id := by
  cases hh : hasL l id with
  | true =>
    obtain ⟨p, hp, rfl⟩ := hasL_iff.1 hh
    obtain ⟨k, _, e⟩ := atL_has h hp
    rw [e]; exact decide_eq_false (by omega)
  | false => rw [atL_no hh]; rfl
theorem rOther_eq (d : Nat) (x : M4) (id : Int) : F_ref34_Other d ((x.1, x.2.1, x.2.2.1, x.2.2.2.1, ()), (id, ()), ()) = some (oth id x) := by
  unfold oth
  simp only [F_ref34_Other, ref34_Other_K, ref34_Other_r0, ref34_Other_r1, ref34_Other_r2, ref34_Other_r3, Dt.eval]
  by_cases h : x.2.2.1 = id
  · simp only [h, beq_self_eq_true, cond_true, if_true]
  · simp only [show (x.2.2.1 == id) = false by simpa using h, cond_false, h, if_false]
theorem sel_loop (d : Nat) {L : List M4} {id n dd : Int} (hL : ∀ x ∈ L, okW x) (hlen : L.length ≤ 4096) (hn : i64B n = true) (hdd : i64B dd = true) : ∀ (f i : Nat) (out : List M4), L.length - i < f → i ≤ L.length → out.length ≤ i →
    iter (ref34_behind_L1 d) f (id, (i : Int), n, dd, L, out) = iter (ref34_behind_L3 d) d (id, (1 : Int), out ++ (L.drop i).filter (selC id n dd))
  | 0, i, out, hf, _, _ => by omega
  | f + 1, i, out, hf, hi, ho => by
    have ih := sel_loop d (id := id) hL hlen hn hdd f (i + 1)
    rw [iter]
    revert ih
    generalize iter (ref34_behind_L1 d) f = self
    intro ih
    unfold ref34_behind_L1 ref34_behind_J2
    by_cases hlt : i < L.length
    · obtain ⟨x, hx⟩ : ∃ x, L[i]? = some x := ⟨_, List.getElem?_eq_getElem hlt⟩
      have hxw := hL x (List.mem_of_getElem? hx)
      have e1 := rCompare_eq d x.1 x.2.1 n dd hxw.b1 hxw.b2 hn hdd
      have wi := wrap_succ (show i < 1000000 by omega)
      rw [drop_of hx, List.filter_cons]
      have ha : apB out.length 1 = true := by unfold apB; rw [Nat.ble_eq]; omega
      have hs : selC id n dd x = (((x.2.2.1 == id) || (x.2.2.2.1 == id)) && gtM n dd x) := rfl
      simp only [ref34_behind_r4, ref34_behind_r5, ref34_behind_r6, ref34_behind_r7, Dt.eval, ref34_behind_K, dec_lt hlt, cond_true, inB_of hlt, elt_some hx, e1, gt_cmp]
      have h1 := ih out (by omega) (by omega) (by omega)
      have h2 := ih (out ++ [x]) (by omega) (by omega) (by rw [List.length_append]; simp; omega)
      rw [List.append_assoc] at h2
      cases g1 : (x.2.2.1 == id) with
      | true =>
        rw [g1, Bool.true_or, Bool.true_and] at hs
        simp only [cond_true]
        cases g3 : gtM n dd x with
        | true =>
          rw [g3] at hs
          simp only [cond_true, hs, if_true, List.length_cons, List.length_nil, Nat.zero_add, ha, wi]
          exact h2
        | false =>
          rw [g3] at hs
          simp only [cond_false, hs, Bool.false_eq_true, if_false, wi]
          exact h1
      | false =>
        simp only [cond_false]
        rw [g1, Bool.false_or] at hs
        cases g2 : (x.2.2.2.1 == id) with
        | true =>
          rw [g2, Bool.true_and] at hs
          simp only [cond_true]
          cases g3 : gtM n dd x with
          | true =>
            rw [g3] at hs
            simp only [cond_true, hs, if_true, List.length_cons, List.length_nil, Nat.zero_add, ha, wi]
            exact h2
          | false =>
            rw [g3] at hs
            simp only [cond_false, hs, Bool.false_eq_true, if_false, wi]
            exact h1
        | false =>
          rw [g2, Bool.false_and] at hs
          simp only [cond_false, hs, Bool.false_eq_true, if_false, wi]
          exact h1
    · have hkl : i = L.length := by omega
      simp only [ref34_behind_r4, ref34_behind_r5, ref34_behind_r6, ref34_behind_r7, ref34_behind_r8, Dt.eval, ref34_behind_K, dec_nlt hlt, cond_false]
      rw [hkl, List.drop_length]
      simp
/-- sorted up to a place, by time and other point -/
def SrtC (id : Int) (out : List M4) (i : Nat) : Prop := Srt (out.map (oC id)) i
def NearC (id : Int) (out : List M4) (i k : Nat) : Prop := Near (out.map (oC id)) i k
theorem insC_in (d : Nat) {M : List M4} {id : Int} (hM : ∀ x ∈ M, okW x) (hlen : M.length ≤ 4096) (hT : TimeS (atL M)) (self3 : (Int × Int × List Diiii) → Option ref34_behind_R) {i : Nat} : ∀ (f k : Nat) (out : List M4), k < f → k ≤ i → i < out.length → out.Perm M → atL out = atL M → NearC id out (i + 1) k →
    ∃ out', out'.Perm M ∧ atL out' = atL M ∧ SrtC id out' (i + 1) ∧ iter (ref34_behind_L4 d self3) f (id, (i : Int), (k : Int), out) = self3 (id, ((i + 1 : Nat) : Int), out')
  | 0, k, out, hf, _, _, _, _, _ => by omega
  | f + 1, k, out, hf, hk, hi, hp, hat, hn => by
    have hw : ∀ x ∈ out, okW x := fun x hx => hM x (hp.mem_iff.1 hx)
    have hwm : ∀ x ∈ out.map (oC id), okM x := fun x hx => by
      obtain ⟨y, hy, rfl⟩ := List.mem_map.1 hx
      exact (hw y hy).ok
    have hl : out.length ≤ 4096 := by rw [hp.length_eq]; exact hlen
    have ih := fun k out => insC_in d (id := id) hM hlen hT self3 (i := i) f k out
    rw [iter]
    revert ih
    generalize iter (ref34_behind_L4 d self3) f = self
    intro ih
    unfold ref34_behind_L4
    simp only [ref34_behind_r10, ref34_behind_r11, ref34_behind_r12, ref34_behind_r13, ref34_behind_r14, Dt.eval, ref34_behind_K]
    have wi := wrap_succ (show i < 1000000 by omega)
    rcases Nat.eq_zero_or_pos k with h0 | h0
    · subst h0
      simp only [show decide (((0 : Nat) : Int) > 0) = false from rfl, cond_false, wi]
      exact ⟨out, hp, hat, near_stop hwm hn (.inl rfl), rfl⟩
    · have c1 : decide ((k : Int) > 0) = true := by rw [decide_eq_true_eq]; omega
      have wk : IntKind.wrap .i64 ((k : Int) - 1) = ((k - 1 : Nat) : Int) := by rw [IntWalk.i64_in _ (by omega)]; omega
      obtain ⟨x, hx⟩ : ∃ x, out[k]? = some x := ⟨_, List.getElem?_eq_getElem (by omega)⟩
      obtain ⟨y, hy⟩ : ∃ y, out[k - 1]? = some y := ⟨_, List.getElem?_eq_getElem (by omega)⟩
      have hxw := hw x (List.mem_of_getElem? hx)
      have hyw := hw y (List.mem_of_getElem? hy)
      have hmx : (out.map (oC id))[k]? = some (oC id x) := by rw [List.getElem?_map, hx]; rfl
      have hmy : (out.map (oC id))[k - 1]? = some (oC id y) := by rw [List.getElem?_map, hy]; rfl
      have htime : ¬ x.1 * y.2.1 < y.1 * x.2.1 := by
        rw [← hat] at hT
        obtain ⟨q1, q2⟩ := List.getElem?_eq_some_iff.1 (atL_get hx)
        obtain ⟨q3, q4⟩ := List.getElem?_eq_some_iff.1 (atL_get hy)
        have := (List.pairwise_iff_getElem.1 hT) (k - 1) k q3 q1 (by omega)
        rw [q2, q4] at this
        exact this
      have hadj := ltC_adj (id := id) hxw.ok hyw.ok htime
      have e1 := rOther_eq d x id
      have e2 := rOther_eq d y id
      simp only [c1, cond_true, wk, inB_of (show k < out.length by omega), inB_of (show k - 1 < out.length by omega), elt_some hx, elt_some hy, e1, e2, Dt.eval]
      have stop : ltC id x y = false → ∃ out', out'.Perm M ∧ atL out' = atL M ∧ SrtC id out' (i + 1) ∧ self3 (id, ((i + 1 : Nat) : Int), out) = self3 (id, ((i + 1 : Nat) : Int), out') := fun hb => ⟨out, hp, hat, near_stop hwm hn (.inr ⟨_, _, hmx, hmy, hb⟩), rfl⟩
      by_cases a1 : x.1 = y.1
      · by_cases a2 : x.2.1 = y.2.1
        · rw [decide_eq_true a1, decide_eq_true a2, Bool.true_and, Bool.true_and] at hadj
          simp only [a1, a2, beq_self_eq_true, Bool.and_self, cond_true]
          cases hb : ltC id x y with
          | false =>
            rw [hb] at hadj
            simp only [← hadj, cond_false, wi]
            exact stop hb
          | true =>
            rw [hb] at hadj
            have hset : ((out.set k y).set (k - 1) x) = ((out.set k (y.1, y.2.1, y.2.2.1, y.2.2.2.1, ())).set (k - 1) (y.1, y.2.1, x.2.2.1, x.2.2.2.1, ())) := by rw [← a1, ← a2]; congr 2; rw [a1, a2]
            simp only [← hadj, cond_true, List.length_set, inB_of (show k < out.length by omega), inB_of (show k - 1 < out.length by omega), elt_some hx, elt_some hy, wk, Int.toNat_natCast, a1, a2]
            rw [← hset]
            refine ih (k - 1) ((out.set k y).set (k - 1) x) (by omega) (by omega) (by simp only [List.length_set]; omega) ((swap_perm h0 hx hy).trans hp) ((atL_swap h0 hx hy ⟨a1, a2⟩).trans hat) ?_
            have := near_swap (by omega) (by rw [List.length_map]; omega) h0 hmx hmy hb hn
            unfold NearC
            rw [List.map_set, List.map_set]
            exact this
        · rw [decide_eq_false a2, Bool.and_false, Bool.false_and] at hadj
          simp only [a1, show (x.2.1 == y.2.1) = false by simpa using a2, beq_self_eq_true, Bool.false_and, Bool.and_false, cond_false, wi]
          exact stop hadj
      · rw [decide_eq_false a1, Bool.false_and, Bool.false_and] at hadj
        simp only [show (x.1 == y.1) = false by simpa using a1, Bool.false_and, cond_false, wi]
        exact stop hadj
theorem insC_out (d : Nat) (hd : 5000 ≤ d) {M : List M4} {id : Int} (hM : ∀ x ∈ M, okW x) (hlen : M.length ≤ 4096) (hT : TimeS (atL M)) : ∀ (f i : Nat) (out : List M4), out.length - i < f → 0 < i → out.Perm M → atL out = atL M → SrtC id out i →
    ∃ out', out'.Perm M ∧ SrtC id out' out'.length ∧ iter (ref34_behind_L3 d) f (id, (i : Int), out) = some out'
  | 0, i, out, hf, _, _, _, _ => by omega
  | f + 1, i, out, hf, h0, hp, hat, hs => by
    have hl : out.length ≤ 4096 := by rw [hp.length_eq]; exact hlen
    have ih := fun i out => insC_out d hd (id := id) hM hlen hT f i out
    rw [iter]
    revert ih
    generalize iter (ref34_behind_L3 d) f = self
    intro ih
    unfold ref34_behind_L3
    simp only [ref34_behind_r9, ref34_behind_r11, ref34_behind_r15, Dt.eval]
    by_cases hlt : i < out.length
    · simp only [dec_lt hlt, cond_true]
      obtain ⟨out1, h1, h1a, h2, h3⟩ := insC_in d (id := id) hM hlen hT self (i := i) d i out (by omega) (Nat.le_refl _) hlt hp hat (fun a b x y hab hbi hne hx hy => hs a b x y hab (by omega) hx hy)
      rw [h3]
      have hlen1 : out1.length = out.length := (h1.trans hp.symm).length_eq
      exact ih (i + 1) out1 (by omega) (by omega) h1 h1a h2
    · simp only [dec_nlt hlt, cond_false]
      exact ⟨out, hp, fun a b x y hab hb => hs a b x y hab (by omega), rfl⟩
theorem srtC_pw {id : Int} {out : List M4} (h : SrtC id out out.length) : out.Pairwise fun a b => ltC id b a = false := by
  have := srt_pw (out := out.map (oC id)) (by rw [List.length_map]; exact h)
  rw [List.pairwise_map] at this
  exact this
theorem rbeh_eq (d : Nat) (hd : 5000 ≤ d) {l : List T3} (h : FldOk l) {p : T3} (hp : p ∈ l) {n dd : Int} (hn : i64B n = true) (hdd : i64B dd = true) : F_ref34_behind d ((l, ()), (p.1, ()), (n, dd, ()), ()) = some (chL l p n dd) := by
  have e1 := rPairs_eq d hd h
  have hlen := allM_len h
  have e2 := sel_loop d (id := p.1) (allM_w h) hlen hn hdd d 0 [] (by omega) (by omega) (by simp)
  rw [List.drop_zero, List.nil_append] at e2
  have hsub : ((allM l).filter (selC p.1 n dd)).Sublist (allM l) := List.filter_sublist
  have hfl : ((allM l).filter (selC p.1 n dd)).length ≤ 4096 := Nat.le_trans hsub.length_le hlen
  obtain ⟨out, h1, h2, h3⟩ := insC_out d hd (id := p.1) (M := (allM l).filter (selC p.1 n dd)) (fun x hx => allM_w h x (hsub.subset hx)) hfl (timeS_of ((allM_pw h).sublist hsub)) d 1 ((allM l).filter (selC p.1 n dd)) (by omega) (by omega) (List.Perm.refl _) rfl (fun a b x y hab hb => by omega)
  simp only [F_ref34_behind, ref34_behind_K, ref34_behind_r0, ref34_behind_r1, ref34_behind_r2, ref34_behind_r3, Dt.eval, e1]
  refine e2.trans (h3.trans (congrArg some ?_))
  exact chL_only h hp h1 (srtC_pw h2)
end Go.Proofs.Ytmagihjfbembjaa

namespace Go.Proofs.Ytmagihjfbembjaa
open Go Go.Tx Go.Pel
theorem find_mem {l : List T3} (h : FldOk l) {p : T3} (hp : p ∈ l) : l.find? (fun q => q.1 == p.1) = some p := by
  cases hf : l.find? (fun q => q.1 == p.1) with
  | none =>
    have := List.find?_eq_none.1 hf p hp
    simp at this
  | some q =>
    have h1 := List.find?_some hf
    rw [beq_iff_eq] at h1
    rw [ids_eq h (List.mem_of_find?_eq_some hf) hp h1]
/-- fields that the laws look at -/
def Small (l : List T3) : Prop := l.length ≤ 1000 ∧ (l.length ≤ 64 → l.length ≤ 16)
/-- the pair's meeting -/
def pairM (p q : T3) : M4 := ((mk (p.2.1 - q.2.1) (q.2.2.1 - p.2.2.1)).1, (mk (p.2.1 - q.2.1) (q.2.2.1 - p.2.2.1)).2.1, p.1, q.1, ())
theorem pairM_mt {p q : T3} (hb : p.2.2.1 ≠ q.2.2.1) : mtP (p, q) = some (pairM p q) := by unfold mtP pairM; rw [if_neg hb]
theorem find_no {l : List T3} {id : Int} (h : hasL l id = false) : l.find? (fun q => q.1 == id) = none := by
  rw [List.find?_eq_none]
  intro q hq
  have := hasL_no h hq
  simpa using this
theorem find_none (d : Nat) {l : List T3} (h0 : fieldChk (ptsL l) = 0) {id : Int} (hh : hasL l id = false) : ∃ a b c, F_field_Find d ((l, ()), (id, ()), ()) = some (a, b, c, 6) := by
  rw [F_field_Find_eq _ _ rfl]
  have hb : hasB (ptsL l) id = false := hasB_no fun i P hP => by
    obtain ⟨p, hp, rfl⟩ := pts_mem (List.mem_of_getElem? hP)
    exact hasL_no hh hp
  have e : (fieldFind (ptsL l) id).2 = 6 := by
    unfold fieldFind
    rw [if_neg (by simpa using h0), hb]; rfl
  refine ⟨(fieldFind (ptsL l) id).1.id, (fieldFind (ptsL l) id).1.a, (fieldFind (ptsL l) id).1.b, ?_⟩
  show some ((fieldFind (ptsL l) id).1.id, (fieldFind (ptsL l) id).1.a, (fieldFind (ptsL l) id).1.b, (fieldFind (ptsL l) id).2) = _
  rw [e]
/-- a point catches the other one of a meeting -/
def fastC (l : List T3) (p : T3) (x : M4) : Bool := match l.find? (fun q => q.1 == oth p.1 x) with | some q => decide (p.2.2.1 > q.2.2.1) | none => false
def othU (p : T3) (x : M4) : Di := (oth p.1 x, ())
/-- whom a point catches, and by whom it is caught, among meetings -/
def partC (l : List T3) (p : T3) (M : List M4) : List Di × List Di := ((M.filter (fastC l p)).map (othU p), (M.filter fun x => !fastC l p x).map (othU p))
theorem partC_snoc (l : List T3) (p : T3) (M : List M4) (x : M4) : partC l p (M ++ [x]) = if fastC l p x = true then ((partC l p M).1 ++ [othU p x], (partC l p M).2) else ((partC l p M).1, (partC l p M).2 ++ [othU p x]) := by
  unfold partC
  rw [List.filter_append, List.filter_append]
  cases h : fastC l p x <;> simp [h]
theorem take_snoc {α : Type} {L : List α} {i : Nat} {x : α} (h : L[i]? = some x) : L.take (i + 1) = L.take i ++ [x] := by
  obtain ⟨h1, rfl⟩ := List.getElem?_eq_some_iff.1 h
  exact List.take_succ_eq_append_getElem h1
/-- how many meetings are not behind a time -/
def cutC (n dd : Int) (L : List M4) : Nat := L.findIdx (gtM n dd)
theorem caught_loop (d : Nat) (hd : 5000 ≤ d) {l : List T3} (h : FldOk l) (h0 : fieldChk (ptsL l) = 0) {p : T3} (hp : p ∈ l) {n dd n' dd' : Int} (hn' : i64B n' = true) (hd' : i64B dd' = true) (hr' : ratioChk n' dd' = 0) {i0 : Nat} (hi0 : l[i0]? = some p) : ∀ (f i : Nat), (chL l p n dd).length - i < f → i ≤ (chL l p n dd).length → (∀ j x, j < i → (chL l p n dd)[j]? = some x → gtM n' dd' x = false) →
    iter (chase_Caught_L2 d) f (p.1, ((chL l p n dd).length : Int), (i : Int), l, n', dd', (partC l p ((chL l p n dd).take i)).1, (partC l p ((chL l p n dd).take i)).2, p.1, p.2.1, p.2.2.1, chL l p n dd) = some ((partC l p ((chL l p n dd).take (cutC n' dd' (chL l p n dd)))).1, (partC l p ((chL l p n dd).take (cutC n' dd' (chL l p n dd)))).2, 0) ∧
    iter (ref34_Caught_L1 d) f (p.1, (i0 : Int), (i : Int), l, n', dd', chL l p n dd, (partC l p ((chL l p n dd).take i)).1, (partC l p ((chL l p n dd).take i)).2) = some ((partC l p ((chL l p n dd).take (cutC n' dd' (chL l p n dd)))).1, (partC l p ((chL l p n dd).take (cutC n' dd' (chL l p n dd)))).2, 0)
  | 0, i, hf, _, _ => by omega
  | f + 1, i, hf, hi, h1 => by
    have hll := chL_len l p n dd
    have hl64 := h.len
    have ih := caught_loop d hd h h0 hp (n := n) (dd := dd) hn' hd' hr' hi0 f (i + 1)
    have hmem := fun x => @chL_mem l p n dd x
    have hok := chL_ok h (h.ok p hp) (n := n) (dd := dd)
    revert ih hmem hok
    generalize chL l p n dd = L at *
    intro ih hmem hok
    rw [iter, iter]
    revert ih
    generalize iter (chase_Caught_L2 d) f = self
    generalize iter (ref34_Caught_L1 d) f = self'
    intro ih
    unfold chase_Caught_L2 chase_Caught_J1 chase_Caught_J3 ref34_Caught_L1 ref34_Caught_J2
    have hpl : ∀ j, (partC l p (L.take j)).1.length ≤ 64 ∧ (partC l p (L.take j)).2.length ≤ 64 := fun j => by
      unfold partC
      have a1 := List.length_filter_le (fastC l p) (L.take j)
      have a2 := List.length_filter_le (fun x => !fastC l p x) (L.take j)
      have a3 : (L.take j).length ≤ 64 := by rw [List.length_take]; omega
      constructor <;> · rw [List.length_map]; omega
    by_cases hlt : i < L.length
    · obtain ⟨x, hx⟩ : ∃ x, L[i]? = some x := ⟨_, List.getElem?_eq_getElem hlt⟩
      have hxm := List.mem_of_getElem? hx
      obtain ⟨hxo, _⟩ := hok x hxm
      have hw := hxo.w
      have e1 := rCmp_eq d x.1 x.2.1 n' dd' hw.b1 hw.b2 hn' hd'
      unfold cmpR at e1
      rw [if_pos ⟨hw.ok, hr'⟩] at e1
      have e2 := rCompare_eq d x.1 x.2.1 n' dd' hw.b1 hw.b2 hn' hd'
      have hle := le_gt (x := x) (n := n') (dd := dd')
      have hgt := gt_cmp (x := x) (n := n') (dd := dd')
      cases hg : gtM n' dd' x with
      | true =>
        have hcut : cutC n' dd' L = i := idxM_only hi h1 fun y hy => by rw [hx] at hy; injection hy with hy; subst hy; exact hg
        rw [hg] at hle hgt
        simp only [chase_Caught_r13, chase_Caught_r14, chase_Caught_r15, chase_Caught_r16, chase_Caught_r17, chase_Caught_r18, chase_Caught_r19, chase_Caught_r20, chase_Caught_r21, chase_Caught_r22, chase_Caught_r23, ref34_Caught_r15, ref34_Caught_r16, ref34_Caught_r17, ref34_Caught_r18, ref34_Caught_r19, ref34_Caught_r20, ref34_Caught_r21, chase_Caught_K, ref34_Caught_K, Dt.eval, dec_lt hlt, cond_true, inB_of hlt, elt_some hx, e1, e2, hle, hgt, Bool.not_true, cond_false, hcut, and_self]
      | false =>
        rw [hg] at hle hgt
        obtain ⟨q, hq, hqx⟩ := (hmem x).1 hxm
        obtain ⟨_, _, hxe, hqi, _⟩ := chM_ok (h.ok p hp) (h.ok q hq) hqx
        have ho : oth p.1 x = q.1 := by rw [hxe]; exact oth_chV hqi
        have e3 := other_eq d x p.1
        have e4 := rOther_eq d x p.1
        rw [ho] at e3 e4
        have e5 := find_at d h h0 hq
        obtain ⟨j, hj1, hj2⟩ := atL_has h hq
        have jl := (List.getElem?_eq_some_iff.1 hj1).1
        have il := (List.getElem?_eq_some_iff.1 hi0).1
        have e6 := rAt_eq d (l := l) (by omega) q.1
        rw [hj2] at e6
        have wi := wrap_succ (show i < 1000000 by omega)
        have hf : fastC l p x = decide (p.2.2.1 > q.2.2.1) := by unfold fastC; rw [ho, find_mem h hq]
        have hu : othU p x = (q.1, ()) := by unfold othU; rw [ho]
        have hsn := partC_snoc l p (L.take i) x
        rw [← take_snoc hx, hf, hu] at hsn
        have ha1 : apB (partC l p (L.take i)).1.length 1 = true := by unfold apB; rw [Nat.ble_eq]; have := (hpl i).1; omega
        have ha2 : apB (partC l p (L.take i)).2.length 1 = true := by unfold apB; rw [Nat.ble_eq]; have := (hpl i).2; omega
        obtain ⟨g1, g2⟩ := ih (by omega) (by omega) fun j y hj hy => by
          rcases (by omega : j < i ∨ j = i) with k | rfl
          · exact h1 j y k hy
          · rw [hx] at hy; injection hy with hy; subst hy; exact hg
        rw [hsn] at g1 g2
        cases hb : decide (p.2.2.1 > q.2.2.1) with
        | true =>
          rw [hb] at g1 g2
          rw [if_pos rfl] at g1 g2
          simp only [chase_Caught_r13, chase_Caught_r14, chase_Caught_r15, chase_Caught_r16, chase_Caught_r17, chase_Caught_r18, chase_Caught_r19, chase_Caught_r20, chase_Caught_r21, chase_Caught_r22, chase_Caught_r23, ref34_Caught_r15, ref34_Caught_r16, ref34_Caught_r17, ref34_Caught_r18, ref34_Caught_r19, ref34_Caught_r20, ref34_Caught_r21, chase_Caught_K, ref34_Caught_K, Dt.eval, dec_lt hlt, cond_true, inB_of hlt, inB_of il, inB_of jl, elt_some hx, elt_some hi0, elt_some hj1, e1, e2, e3, e4, e5, e6, hle, hgt, Bool.not_false, cond_false, hb, List.length_cons, List.length_nil, Nat.zero_add, ha1, wi]
          exact ⟨g1, g2⟩
        | false =>
          rw [hb] at g1 g2
          rw [if_neg (by decide)] at g1 g2
          simp only [chase_Caught_r13, chase_Caught_r14, chase_Caught_r15, chase_Caught_r16, chase_Caught_r17, chase_Caught_r18, chase_Caught_r19, chase_Caught_r20, chase_Caught_r21, chase_Caught_r22, chase_Caught_r23, ref34_Caught_r15, ref34_Caught_r16, ref34_Caught_r17, ref34_Caught_r18, ref34_Caught_r19, ref34_Caught_r20, ref34_Caught_r21, chase_Caught_K, ref34_Caught_K, Dt.eval, dec_lt hlt, cond_true, inB_of hlt, inB_of il, inB_of jl, elt_some hx, elt_some hi0, elt_some hj1, e1, e2, e3, e4, e5, e6, hle, hgt, Bool.not_false, cond_false, hb, List.length_cons, List.length_nil, Nat.zero_add, ha2, wi]
          exact ⟨g1, g2⟩
    · have hkl : i = L.length := by omega
      have hcut : cutC n' dd' L = i := idxM_only hi h1 fun y hy => by have := (List.getElem?_eq_some_iff.1 hy).1; omega
      simp only [chase_Caught_r13, chase_Caught_r14, chase_Caught_r15, chase_Caught_r16, chase_Caught_r17, chase_Caught_r18, chase_Caught_r19, chase_Caught_r20, chase_Caught_r21, chase_Caught_r22, chase_Caught_r23, ref34_Caught_r15, ref34_Caught_r16, ref34_Caught_r17, ref34_Caught_r18, ref34_Caught_r19, ref34_Caught_r20, ref34_Caught_r21, chase_Caught_K, ref34_Caught_K, Dt.eval, dec_nlt hlt, cond_false, hcut, and_self]
def caughtV (l : List T3) (id n dd n' dd' : Int) : List Di × List Di × Int := if fieldChk (ptsL l) ≠ 0 then ([], [], fieldChk (ptsL l)) else if ratioChk n dd ≠ 0 ∨ ratioChk n' dd' ≠ 0 then ([], [], 8) else if 0 < cmpQ n dd n' dd' then ([], [], 2) else
  match l.find? (fun p => p.1 == id) with
  | some p => ((partC l p ((chL l p n dd).take (cutC n' dd' (chL l p n dd)))).1, (partC l p ((chL l p n dd).take (cutC n' dd' (chL l p n dd)))).2, 0)
  | none => ([], [], 6)
theorem caught_eq (d : Nat) (hd : 5000 ≤ d) {l : List T3} (hs : Small l) (id : Int) {n dd n' dd' : Int} (hn : i64B n = true) (hdd : i64B dd = true) (hn' : i64B n' = true) (hd' : i64B dd' = true) : F_chase_Caught d ((l, ()), (id, ()), (n, dd, ()), (n', dd', ()), ()) = some (caughtV l id n dd n' dd') ∧ F_ref34_Caught d ((l, ()), (id, ()), (n, dd, ()), (n', dd', ()), ()) = some (caughtV l id n dd n' dd') := by
  have e1 : F_field_Check d ((l, ()), ()) = some (fieldChk (ptsL l)) := F_field_Check_eq _ _ rfl
  have e2 : F_ref03_Check d ((l, ()), ()) = some (fieldChk (ptsL l)) := F_ref03_Check_eq _ _ rfl
  have e3 := rCmp_eq d n dd n' dd' hn hdd hn' hd'
  have e4 := rBoth_eq d hn hdd hn' hd'
  have e5 := rCompare_eq d n dd n' dd' hn hdd hn' hd'
  have e6 := rAt_eq d hs.1 id
  have b0 : ((0 : Int) != 0) = false := rfl
  have b8 : ((8 : Int) != 0) = true := rfl
  unfold caughtV
  by_cases h0 : fieldChk (ptsL l) = 0
  · have a := fldOk_of h0
    rw [if_neg (by simpa using h0)]
    unfold cmpR at e3
    by_cases hr : ratioChk n dd = 0 ∧ ratioChk n' dd' = 0
    · rw [if_pos hr] at e3
      rw [if_neg (by simpa using hr.1), hr.2] at e4
      rw [if_neg (by simp [hr.1, hr.2])]
      by_cases hc : 0 < cmpQ n dd n' dd'
      · rw [if_pos hc]
        have hcb : decide (cmpQ n dd n' dd' > 0) = true := decide_eq_true hc
        simp only [F_chase_Caught, chase_Caught_K, chase_Caught_r0, chase_Caught_r1, chase_Caught_r2, chase_Caught_r3, chase_Caught_r4, chase_Caught_r5, chase_Caught_r6, chase_Caught_r7, chase_Caught_r8, F_ref34_Caught, ref34_Caught_K, ref34_Caught_r0, ref34_Caught_r1, ref34_Caught_r2, ref34_Caught_r3, ref34_Caught_r4, ref34_Caught_r5, ref34_Caught_r6, ref34_Caught_r7, ref34_Caught_r8, Dt.eval, e1, e2, e3, e4, e5, h0, b0, cond_false, hcb, cond_true, and_self]
      · rw [if_neg hc]
        have hcb : decide (cmpQ n dd n' dd' > 0) = false := decide_eq_false hc
        have e7 := atL_neg a id
        cases hh : hasL l id with
        | false =>
          rw [hh] at e7
          rw [find_no hh]
          obtain ⟨x, y, z, e8⟩ := find_none d h0 hh
          simp only [F_chase_Caught, chase_Caught_K, chase_Caught_r0, chase_Caught_r1, chase_Caught_r2, chase_Caught_r3, chase_Caught_r4, chase_Caught_r5, chase_Caught_r6, chase_Caught_r7, chase_Caught_r8, chase_Caught_r9, chase_Caught_r10, chase_Caught_r11, F_ref34_Caught, ref34_Caught_K, ref34_Caught_r0, ref34_Caught_r1, ref34_Caught_r2, ref34_Caught_r3, ref34_Caught_r4, ref34_Caught_r5, ref34_Caught_r6, ref34_Caught_r7, ref34_Caught_r8, ref34_Caught_r9, ref34_Caught_r10, ref34_Caught_r11, Dt.eval, e1, e2, e3, e4, e5, e6, e7, e8, h0, b0, cond_false, hcb, show ((6 : Int) != 0) = true from rfl, cond_true, Bool.not_false, and_self]
        | true =>
          rw [hh] at e7
          obtain ⟨p, hp, rfl⟩ := hasL_iff.1 hh
          rw [find_mem a hp]
          have e8 := find_at d a h0 hp
          obtain ⟨i0, hi1, hi2⟩ := atL_has a hp
          rw [hi2] at e6 e7
          have h16 := hs.2 a.len
          have e9 := beh_eq d (by omega) a h0 (by omega) hp hn hdd hr.1
          have e10 := rbeh_eq d hd a hp hn hdd
          have hll := chL_len l p n dd
          obtain ⟨g1, g2⟩ := caught_loop d hd a h0 hp (n := n) (dd := dd) hn' hd' hr.2 hi1 d 0 (by omega) (by omega) (fun j x hj => by omega)
          simp only [F_chase_Caught, chase_Caught_K, chase_Caught_r0, chase_Caught_r1, chase_Caught_r2, chase_Caught_r3, chase_Caught_r4, chase_Caught_r5, chase_Caught_r6, chase_Caught_r7, chase_Caught_r8, chase_Caught_r9, chase_Caught_r10, chase_Caught_r11, chase_Caught_r12, F_ref34_Caught, ref34_Caught_K, ref34_Caught_r0, ref34_Caught_r1, ref34_Caught_r2, ref34_Caught_r3, ref34_Caught_r4, ref34_Caught_r5, ref34_Caught_r6, ref34_Caught_r7, ref34_Caught_r8, ref34_Caught_r9, ref34_Caught_r10, ref34_Caught_r11, ref34_Caught_r12, ref34_Caught_r13, ref34_Caught_r14, Dt.eval, e1, e2, e3, e4, e5, e6, e7, e8, e9, e10, h0, b0, cond_false, hcb, Bool.not_true]
          exact ⟨g1, g2⟩
    · rw [if_neg hr] at e3
      have h8 : (if ratioChk n dd ≠ 0 then ratioChk n dd else ratioChk n' dd') = 8 := by
        rcases ratioChk_cases n dd with q1 | q1 <;> rcases ratioChk_cases n' dd' with q2 | q2
        · exact absurd ⟨q1, q2⟩ hr
        all_goals simp [q1, q2]
      rw [h8] at e4
      rw [if_pos (by
        rcases Decidable.not_and_iff_or_not.1 hr with k | k
        · exact .inl k
        · exact .inr k)]
      simp only [F_chase_Caught, chase_Caught_K, chase_Caught_r0, chase_Caught_r1, chase_Caught_r2, chase_Caught_r3, chase_Caught_r4, chase_Caught_r5, chase_Caught_r6, F_ref34_Caught, ref34_Caught_K, ref34_Caught_r0, ref34_Caught_r1, ref34_Caught_r2, ref34_Caught_r3, ref34_Caught_r4, ref34_Caught_r5, ref34_Caught_r6, Dt.eval, e1, e2, e3, e4, h0, b0, b8, cond_false, cond_true, and_self]
  · rw [if_pos h0]
    simp only [F_chase_Caught, chase_Caught_K, chase_Caught_r0, chase_Caught_r1, chase_Caught_r2, chase_Caught_r3, F_ref34_Caught, ref34_Caught_K, ref34_Caught_r0, ref34_Caught_r1, ref34_Caught_r2, ref34_Caught_r3, Dt.eval, e1, e2, show (fieldChk (ptsL l) != 0) = true by simpa using h0, cond_true, and_self]
end Go.Proofs.Ytmagihjfbembjaa

namespace Go.Proofs.Ytmagihjfbembjaa
open Go Go.Tx Go.Pel
theorem great32 (d : Nat) (l : List T3) : ∃ g, F_ref32_Great d ((l, ()), ()) = some g ∧ (g = false → Small l) := by
  simp only [F_ref32_Great, ref32_Great_K, ref32_Great_r0, ref32_Great_r1, Dt.eval]
  by_cases h1 : (l.length : Int) > 16
  · rw [decide_eq_true h1, cond_true]
    by_cases h2 : (l.length : Int) ≤ 64
    · rw [decide_eq_true h2, cond_true]
      exact ⟨true, rfl, fun h => by cases h⟩
    · rw [decide_eq_false h2, cond_false]
      refine ⟨_, rfl, fun h => ?_⟩
      have := of_decide_eq_false h
      exact ⟨by omega, by omega⟩
  · rw [decide_eq_false h1, cond_false]
    refine ⟨_, rfl, fun h => ?_⟩
    have := of_decide_eq_false h
    exact ⟨by omega, by omega⟩
theorem caughtV_len {l : List T3} (hl : l.length ≤ 1000) (id n dd n' dd' : Int) : (caughtV l id n dd n' dd').1.length ≤ 1000 ∧ (caughtV l id n dd n' dd').2.1.length ≤ 1000 := by
  unfold caughtV
  split
  · exact ⟨Nat.zero_le _, Nat.zero_le _⟩
  · split
    · exact ⟨Nat.zero_le _, Nat.zero_le _⟩
    · split
      · exact ⟨Nat.zero_le _, Nat.zero_le _⟩
      · split
        · rename_i p _
          have h1 := chL_len l p n dd
          unfold partC
          have a1 := List.length_filter_le (fastC l p) ((chL l p n dd).take (cutC n' dd' (chL l p n dd)))
          have a2 := List.length_filter_le (fun x => !fastC l p x) ((chL l p n dd).take (cutC n' dd' (chL l p n dd)))
          have a3 : ((chL l p n dd).take (cutC n' dd' (chL l p n dd))).length ≤ 1000 := by rw [List.length_take]; omega
          constructor <;> · simp only [List.length_map]; omega
        · exact ⟨Nat.zero_le _, Nat.zero_le _⟩
theorem casked_eq (d : Nat) (l : List T3) (id : Int) {n dd : Int} (hn : i64B n = true) (hdd : i64B dd = true) : ∃ b, F_law34_asked d ((l, ()), (id, ()), (n, dd, ()), ()) = some b ∧ (b = true → Small l ∧ FldOk l ∧ fieldChk (ptsL l) = 0 ∧ ratioChk n dd = 0 ∧ hasL l id = true) := by
  obtain ⟨g, e0, hs⟩ := great32 d l
  cases g with
  | true => exact ⟨false, by simp only [F_law34_asked, law34_asked_K, law34_asked_r0, law34_asked_r1, Dt.eval, e0, Bool.not_true, cond_false], fun h => by cases h⟩
  | false =>
    replace hs := hs rfl
    have e1 := rTimed_eq d hs.1 hn hdd
    have e2 := rAt_eq d hs.1 id
    by_cases h0 : timed (ptsL l) n dd = 0
    · obtain ⟨a, b, c⟩ := timed_ok h0
      have e3 := atL_neg a id
      have e4 : decide (atI (ptsL l) id ≥ 0) = hasL l id := by
        have : decide (atI (ptsL l) id ≥ 0) = !decide (atI (ptsL l) id < 0) := by rw [← decide_not]; congr 1; exact propext (by omega)
        rw [this, e3, Bool.not_not]
      exact ⟨hasL l id, by simp only [F_law34_asked, law34_asked_K, law34_asked_r0, law34_asked_r1, Dt.eval, e0, e1, e2, h0, e4, Bool.not_false, beq_self_eq_true, cond_true], fun h => ⟨hs, a, b, c, h⟩⟩
    · exact ⟨false, by simp only [F_law34_asked, law34_asked_K, law34_asked_r0, law34_asked_r1, Dt.eval, e0, e1, Bool.not_false, cond_true, show (timed (ptsL l) n dd == 0) = false by simpa using h0, cond_false], fun h => by cases h⟩
set_option maxRecDepth 100000 in
theorem alive34 : F_law34_alive 5001 () = some true := by kernel_rfl
end Go.Proofs.Ytmagihjfbembjaa

namespace Go.Proofs.Ytmagihjfbembjaa
open Go Go.Tx Go.Proofs.Try
set_option maxRecDepth 100000
set_option maxHeartbeats 0
abbrev law34_ChaseRanks_ps : List Pk := [.row RLiiiE true, .row Ri false, .row Rii true, .row Rii true]
abbrev law34_ChaseRanks_X : Type := DLiiiE × Di × Dii × Dii × Unit
abbrev law34_ChaseRanks_R : Type := Bool
def law34_ChaseRanks_enc (r : law34_ChaseRanks_R) : LV × List Ob := (.bool r, [])
def law34_ChaseRanks_sp (F : law34_ChaseRanks_X → Option law34_ChaseRanks_R) : Go.Tx.Spec := ⟨11, law34_ChaseRanks_ps, law34_ChaseRanks_R, F, law34_ChaseRanks_enc⟩
abbrev law34_ChaseRanks_C : Type := (chase_Caught_X → Option chase_Caught_R) × (law34_alive_X → Option law34_alive_R) × (law34_asked_X → Option law34_asked_R) × (ref03_At_X → Option ref03_At_R) × (course_Ahead_X → Option course_Ahead_R) × (ref04_Times_X → Option ref04_Times_R) × (field_Rank_X → Option field_Rank_R) × Unit
def law34_ChaseRanks_K (d : Nat) : law34_ChaseRanks_C := (F_chase_Caught d, F_law34_alive d, F_law34_asked d, F_ref03_At d, F_course_Ahead d, F_ref04_Times d, F_field_Rank d, ())
def law34_ChaseRanks_tab (C : law34_ChaseRanks_C) : List Go.Tx.Spec := [chase_Caught_sp C.1, law34_alive_sp C.2.1, law34_asked_sp C.2.2.1, ref03_At_sp C.2.2.2.1, course_Ahead_sp C.2.2.2.2.1, ref04_Times_sp C.2.2.2.2.2.1, field_Rank_sp C.2.2.2.2.2.2.1]
abbrev law34_ChaseRanks_Y0i : Type := List Diii × Int × Int × Int × Int × Int
def law34_ChaseRanks_S0i (v : law34_ChaseRanks_Y0i) : St := ⟨[(0, .agg [.fz Riii v.1]), (1, .int .i64 v.2.1), (2, .agg [.int .i64 v.2.2.1, .int .i64 v.2.2.2.1]), (3, .agg [.int .i64 v.2.2.2.2.1, .int .i64 v.2.2.2.2.2])], []⟩
abbrev law34_ChaseRanks_Y0 : Type := Int × List Diii × Int × Int × Int × Int
def law34_ChaseRanks_S0 (v : law34_ChaseRanks_Y0) : St := ⟨[(1, .int .i64 v.1), (4, .ptr 0 0), (6, .ptr 1 0), (7, .ptr 2 0)], [.cells [.fz Riii v.2.1], .cells [.int .i64 v.2.2.1, .int .i64 v.2.2.2.1], .cells [.int .i64 v.2.2.2.2.1, .int .i64 v.2.2.2.2.2]]⟩
def law34_ChaseRanks_r0 (C : law34_ChaseRanks_C) (v : law34_ChaseRanks_Y0i) : Dt law34_ChaseRanks_Y0 := (Dt.ret (v.2.1, v.1, v.2.2.1, v.2.2.2.1, v.2.2.2.2.1, v.2.2.2.2.2))
theorem law34_ChaseRanks_g0 (C : law34_ChaseRanks_C) (v : law34_ChaseRanks_Y0i) : treg tysT (orc (law34_ChaseRanks_tab C)) 169 (regO (bodyOf f11) 0) false [(1, .any), (4, (.box [.val Riii])), (6, .any), (7, .any)] (law34_ChaseRanks_S0i v) some = (law34_ChaseRanks_r0 C v).eval fun y => some (law34_ChaseRanks_S0 y) := by kernel_rfl
abbrev law34_ChaseRanks_Y1 : Type := Int × Bool × List Diii × Int × Int × Int × Int
def law34_ChaseRanks_S1 (v : law34_ChaseRanks_Y1) : St := ⟨[(1, .int .i64 v.1), (4, .ptr 0 0), (6, .ptr 1 0), (7, .ptr 2 0), (9, .bool v.2.1)], [.cells [.fz Riii v.2.2.1], .cells [.int .i64 v.2.2.2.1, .int .i64 v.2.2.2.2.1], .cells [.int .i64 v.2.2.2.2.2.1, .int .i64 v.2.2.2.2.2.2]]⟩
def law34_ChaseRanks_r1 (C : law34_ChaseRanks_C) (v : law34_ChaseRanks_Y0) : Dt law34_ChaseRanks_Y1 := (Dt.bnd (C.2.1 (())) fun r1 => (Dt.ret (v.1, r1, v.2.1, v.2.2.1, v.2.2.2.1, v.2.2.2.2.1, v.2.2.2.2.2)))
theorem law34_ChaseRanks_g1 (C : law34_ChaseRanks_C) (v : law34_ChaseRanks_Y0) : treg tysT (orc (law34_ChaseRanks_tab C)) 169 (regO (bodyOf f11) 1) false [(1, .any), (4, (.box [.val Riii])), (6, .any), (7, .any), (9, .any)] (law34_ChaseRanks_S0 v) some = (law34_ChaseRanks_r1 C v).eval fun y => some (law34_ChaseRanks_S1 y) := by kernel_rfl
abbrev law34_ChaseRanks_Y2 : Type := Int × Bool × Bool × List Diii × Int × Int × Int × Int
def law34_ChaseRanks_S2 (v : law34_ChaseRanks_Y2) : St := ⟨[(1, .int .i64 v.1), (4, .ptr 0 0), (6, .ptr 1 0), (7, .ptr 2 0), (9, .bool v.2.1), (42, .bool v.2.2.1)], [.cells [.fz Riii v.2.2.2.1], .cells [.int .i64 v.2.2.2.2.1, .int .i64 v.2.2.2.2.2.1], .cells [.int .i64 v.2.2.2.2.2.2.1, .int .i64 v.2.2.2.2.2.2.2]]⟩
def law34_ChaseRanks_r2 (C : law34_ChaseRanks_C) (v : law34_ChaseRanks_Y1) : Dt law34_ChaseRanks_Y2 := (Dt.bnd (C.2.2.1 ((v.2.2.1, ()), (v.1, ()), (v.2.2.2.1, v.2.2.2.2.1, ()), ())) fun r1 => (Dt.ite (!r1) (Dt.ret (v.1, v.2.1, true, v.2.2.1, v.2.2.2.1, v.2.2.2.2.1, v.2.2.2.2.2.1, v.2.2.2.2.2.2)) (Dt.bnd (C.2.2.2.2.2.1 ((v.2.2.1, ()), (v.2.2.2.1, v.2.2.2.2.1, ()), (v.2.2.2.2.2.1, v.2.2.2.2.2.2, ()), ())) fun r2 => (Dt.ite (r2 != (0:Int)) (Dt.ret (v.1, v.2.1, true, v.2.2.1, v.2.2.2.1, v.2.2.2.2.1, v.2.2.2.2.2.1, v.2.2.2.2.2.2)) (Dt.ret (v.1, v.2.1, (!v.2.1), v.2.2.1, v.2.2.2.1, v.2.2.2.2.1, v.2.2.2.2.2.1, v.2.2.2.2.2.2))))))
theorem law34_ChaseRanks_g2 (C : law34_ChaseRanks_C) (v : law34_ChaseRanks_Y1) : treg tysT (orc (law34_ChaseRanks_tab C)) 169 (regO (bodyOf f11) 2) false [(1, .any), (4, (.box [.val Riii])), (6, .any), (7, .any), (9, .any), (42, .any)] (law34_ChaseRanks_S1 v) some = (law34_ChaseRanks_r2 C v).eval fun y => some (law34_ChaseRanks_S2 y) := by kernel_rfl
abbrev law34_ChaseRanks_Y3 : Type := Bool
def law34_ChaseRanks_S3 (v : law34_ChaseRanks_Y3) : St := ⟨[(8, .bool v)], []⟩
def law34_ChaseRanks_r3 (C : law34_ChaseRanks_C) (v : law34_ChaseRanks_Y2) : Dt law34_ChaseRanks_Y3 := (Dt.ret v.2.1)
theorem law34_ChaseRanks_g3 (C : law34_ChaseRanks_C) (v : law34_ChaseRanks_Y2) : treg tysT (orc (law34_ChaseRanks_tab C)) 169 (regO (bodyOf f11) 3) false [(8, .any)] (law34_ChaseRanks_S2 v) some = (law34_ChaseRanks_r3 C v).eval fun y => some (law34_ChaseRanks_S3 y) := by kernel_rfl
abbrev law34_ChaseRanks_Y4 : Type := Int × Bool × Int × List Diii × Int × Int × Int × Int × List Di × List Di
def law34_ChaseRanks_S4 (v : law34_ChaseRanks_Y4) : St := ⟨[(1, .int .i64 v.1), (4, .ptr 0 0), (6, .ptr 1 0), (7, .ptr 2 0), (9, .bool v.2.1), (10, .rs 3), (11, .rs 4), (12, .int .i64 v.2.2.1)], [.cells [.fz Riii v.2.2.2.1], .cells [.int .i64 v.2.2.2.2.1, .int .i64 v.2.2.2.2.2.1], .cells [.int .i64 v.2.2.2.2.2.2.1, .int .i64 v.2.2.2.2.2.2.2.1], .rows Ri v.2.2.2.2.2.2.2.2.1, .rows Ri v.2.2.2.2.2.2.2.2.2]⟩
def law34_ChaseRanks_r4 (C : law34_ChaseRanks_C) (v : law34_ChaseRanks_Y2) : Dt law34_ChaseRanks_Y4 := (Dt.bnd (C.1 ((v.2.2.2.1, ()), (v.1, ()), (v.2.2.2.2.1, v.2.2.2.2.2.1, ()), (v.2.2.2.2.2.2.1, v.2.2.2.2.2.2.2, ()), ())) fun r1 => (Dt.ret (v.1, v.2.1, r1.2.2, v.2.2.2.1, v.2.2.2.2.1, v.2.2.2.2.2.1, v.2.2.2.2.2.2.1, v.2.2.2.2.2.2.2, r1.1, r1.2.1)))
theorem law34_ChaseRanks_g4 (C : law34_ChaseRanks_C) (v : law34_ChaseRanks_Y2) : treg tysT (orc (law34_ChaseRanks_tab C)) 169 (regO (bodyOf f11) 4) false [(1, .any), (4, (.box [.val Riii])), (6, .any), (7, .any), (9, .any), (10, (.own Ri)), (11, (.own Ri)), (12, .any)] (law34_ChaseRanks_S2 v) some = (law34_ChaseRanks_r4 C v).eval fun y => some (law34_ChaseRanks_S4 y) := by kernel_rfl
abbrev law34_ChaseRanks_Y5 : Type := Int × Bool × Int × Int × Int × List Diii × Int × Int × Int × Int × List Di × List Di
def law34_ChaseRanks_S5 (v : law34_ChaseRanks_Y5) : St := ⟨[(1, .int .i64 v.1), (4, .ptr 0 0), (6, .ptr 1 0), (7, .ptr 2 0), (9, .bool v.2.1), (10, .rs 3), (11, .rs 4), (12, .int .i64 v.2.2.1), (13, .int .i64 v.2.2.2.1), (14, .int .i64 v.2.2.2.2.1)], [.cells [.fz Riii v.2.2.2.2.2.1], .cells [.int .i64 v.2.2.2.2.2.2.1, .int .i64 v.2.2.2.2.2.2.2.1], .cells [.int .i64 v.2.2.2.2.2.2.2.2.1, .int .i64 v.2.2.2.2.2.2.2.2.2.1], .rows Ri v.2.2.2.2.2.2.2.2.2.2.1, .rows Ri v.2.2.2.2.2.2.2.2.2.2.2]⟩
def law34_ChaseRanks_r5 (C : law34_ChaseRanks_C) (v : law34_ChaseRanks_Y4) : Dt law34_ChaseRanks_Y5 := (Dt.bnd (C.2.2.2.2.2.2.1 ((v.2.2.2.1, ()), (v.1, ()), (v.2.2.2.2.1, v.2.2.2.2.2.1, ()), ())) fun r1 => (Dt.ret (v.1, v.2.1, v.2.2.1, r1.1, r1.2, v.2.2.2.1, v.2.2.2.2.1, v.2.2.2.2.2.1, v.2.2.2.2.2.2.1, v.2.2.2.2.2.2.2.1, v.2.2.2.2.2.2.2.2.1, v.2.2.2.2.2.2.2.2.2)))
theorem law34_ChaseRanks_g5 (C : law34_ChaseRanks_C) (v : law34_ChaseRanks_Y4) : treg tysT (orc (law34_ChaseRanks_tab C)) 169 (regO (bodyOf f11) 5) false [(1, .any), (4, (.box [.val Riii])), (6, .any), (7, .any), (9, .any), (10, (.own Ri)), (11, (.own Ri)), (12, .any), (13, .any), (14, .any)] (law34_ChaseRanks_S4 v) some = (law34_ChaseRanks_r5 C v).eval fun y => some (law34_ChaseRanks_S5 y) := by kernel_rfl
abbrev law34_ChaseRanks_Y6 : Type := Int × Bool × Int × Int × Int × Int × Int × List Diii × Int × Int × Int × Int × List Di × List Di
def law34_ChaseRanks_S6 (v : law34_ChaseRanks_Y6) : St := ⟨[(1, .int .i64 v.1), (4, .ptr 0 0), (6, .ptr 1 0), (7, .ptr 2 0), (9, .bool v.2.1), (10, .rs 3), (11, .rs 4), (12, .int .i64 v.2.2.1), (13, .int .i64 v.2.2.2.1), (14, .int .i64 v.2.2.2.2.1), (15, .int .i64 v.2.2.2.2.2.1), (16, .int .i64 v.2.2.2.2.2.2.1)], [.cells [.fz Riii v.2.2.2.2.2.2.2.1], .cells [.int .i64 v.2.2.2.2.2.2.2.2.1, .int .i64 v.2.2.2.2.2.2.2.2.2.1], .cells [.int .i64 v.2.2.2.2.2.2.2.2.2.2.1, .int .i64 v.2.2.2.2.2.2.2.2.2.2.2.1], .rows Ri v.2.2.2.2.2.2.2.2.2.2.2.2.1, .rows Ri v.2.2.2.2.2.2.2.2.2.2.2.2.2]⟩
def law34_ChaseRanks_r6 (C : law34_ChaseRanks_C) (v : law34_ChaseRanks_Y5) : Dt law34_ChaseRanks_Y6 := (Dt.bnd (C.2.2.2.2.2.2.1 ((v.2.2.2.2.2.1, ()), (v.1, ()), (v.2.2.2.2.2.2.2.2.1, v.2.2.2.2.2.2.2.2.2.1, ()), ())) fun r1 => (Dt.ret (v.1, v.2.1, v.2.2.1, v.2.2.2.1, v.2.2.2.2.1, r1.1, r1.2, v.2.2.2.2.2.1, v.2.2.2.2.2.2.1, v.2.2.2.2.2.2.2.1, v.2.2.2.2.2.2.2.2.1, v.2.2.2.2.2.2.2.2.2.1, v.2.2.2.2.2.2.2.2.2.2.1, v.2.2.2.2.2.2.2.2.2.2.2)))
theorem law34_ChaseRanks_g6 (C : law34_ChaseRanks_C) (v : law34_ChaseRanks_Y5) : treg tysT (orc (law34_ChaseRanks_tab C)) 169 (regO (bodyOf f11) 6) false [(1, .any), (4, (.box [.val Riii])), (6, .any), (7, .any), (9, .any), (10, (.own Ri)), (11, (.own Ri)), (12, .any), (13, .any), (14, .any), (15, .any), (16, .any)] (law34_ChaseRanks_S5 v) some = (law34_ChaseRanks_r6 C v).eval fun y => some (law34_ChaseRanks_S6 y) := by kernel_rfl
abbrev law34_ChaseRanks_Y7 : Type := Int × Bool × Bool × List Diii × Int × Int × Int × Int × List Di × List Di
def law34_ChaseRanks_S7 (v : law34_ChaseRanks_Y7) : St := ⟨[(1, .int .i64 v.1), (4, .ptr 0 0), (6, .ptr 1 0), (7, .ptr 2 0), (9, .bool v.2.1), (10, .rs 3), (11, .rs 4), (87, .bool v.2.2.1)], [.cells [.fz Riii v.2.2.2.1], .cells [.int .i64 v.2.2.2.2.1, .int .i64 v.2.2.2.2.2.1], .cells [.int .i64 v.2.2.2.2.2.2.1, .int .i64 v.2.2.2.2.2.2.2.1], .rows Ri v.2.2.2.2.2.2.2.2.1, .rows Ri v.2.2.2.2.2.2.2.2.2]⟩
def law34_ChaseRanks_r7 (C : law34_ChaseRanks_C) (v : law34_ChaseRanks_Y6) : Dt law34_ChaseRanks_Y7 := (Dt.ite (v.2.2.1 != (0:Int)) (Dt.ret (v.1, v.2.1, true, v.2.2.2.2.2.2.2.1, v.2.2.2.2.2.2.2.2.1, v.2.2.2.2.2.2.2.2.2.1, v.2.2.2.2.2.2.2.2.2.2.1, v.2.2.2.2.2.2.2.2.2.2.2.1, v.2.2.2.2.2.2.2.2.2.2.2.2.1, v.2.2.2.2.2.2.2.2.2.2.2.2.2)) (Dt.ite (v.2.2.2.2.1 != (0:Int)) (Dt.ret (v.1, v.2.1, true, v.2.2.2.2.2.2.2.1, v.2.2.2.2.2.2.2.2.1, v.2.2.2.2.2.2.2.2.2.1, v.2.2.2.2.2.2.2.2.2.2.1, v.2.2.2.2.2.2.2.2.2.2.2.1, v.2.2.2.2.2.2.2.2.2.2.2.2.1, v.2.2.2.2.2.2.2.2.2.2.2.2.2)) (Dt.ite (v.2.2.2.2.2.2.1 != (0:Int)) (Dt.ret (v.1, v.2.1, true, v.2.2.2.2.2.2.2.1, v.2.2.2.2.2.2.2.2.1, v.2.2.2.2.2.2.2.2.2.1, v.2.2.2.2.2.2.2.2.2.2.1, v.2.2.2.2.2.2.2.2.2.2.2.1, v.2.2.2.2.2.2.2.2.2.2.2.2.1, v.2.2.2.2.2.2.2.2.2.2.2.2.2)) (Dt.ret (v.1, v.2.1, (v.2.2.2.2.2.1 != (IntKind.wrap .i64 ((IntKind.wrap .i64 (v.2.2.2.1 - (List.length v.2.2.2.2.2.2.2.2.2.2.2.2.1 : Int))) + (List.length v.2.2.2.2.2.2.2.2.2.2.2.2.2 : Int)))), v.2.2.2.2.2.2.2.1, v.2.2.2.2.2.2.2.2.1, v.2.2.2.2.2.2.2.2.2.1, v.2.2.2.2.2.2.2.2.2.2.1, v.2.2.2.2.2.2.2.2.2.2.2.1, v.2.2.2.2.2.2.2.2.2.2.2.2.1, v.2.2.2.2.2.2.2.2.2.2.2.2.2)))))
theorem law34_ChaseRanks_g7 (C : law34_ChaseRanks_C) (v : law34_ChaseRanks_Y6) : treg tysT (orc (law34_ChaseRanks_tab C)) 169 (regO (bodyOf f11) 7) false [(1, .any), (4, (.box [.val Riii])), (6, .any), (7, .any), (9, .any), (10, (.own Ri)), (11, (.own Ri)), (87, .any)] (law34_ChaseRanks_S6 v) some = (law34_ChaseRanks_r7 C v).eval fun y => some (law34_ChaseRanks_S7 y) := by kernel_rfl
def law34_ChaseRanks_r8 (C : law34_ChaseRanks_C) (v : law34_ChaseRanks_Y7) : Dt law34_ChaseRanks_Y3 := (Dt.ret false)
theorem law34_ChaseRanks_g8 (C : law34_ChaseRanks_C) (v : law34_ChaseRanks_Y7) : treg tysT (orc (law34_ChaseRanks_tab C)) 169 (regO (bodyOf f11) 8) false [(8, .any)] (law34_ChaseRanks_S7 v) some = (law34_ChaseRanks_r8 C v).eval fun y => some (law34_ChaseRanks_S3 y) := by kernel_rfl
abbrev law34_ChaseRanks_Y9 : Type := Int × Bool × List Diii × Int × Int × Int × Int × List Di × List Di × Int × Int × Int
def law34_ChaseRanks_S9 (v : law34_ChaseRanks_Y9) : St := ⟨[(1, .int .i64 v.1), (4, .ptr 0 0), (6, .ptr 1 0), (7, .ptr 2 0), (9, .bool v.2.1), (10, .rs 3), (11, .rs 4), (17, .ptr 5 0)], [.cells [.fz Riii v.2.2.1], .cells [.int .i64 v.2.2.2.1, .int .i64 v.2.2.2.2.1], .cells [.int .i64 v.2.2.2.2.2.1, .int .i64 v.2.2.2.2.2.2.1], .rows Ri v.2.2.2.2.2.2.2.1, .rows Ri v.2.2.2.2.2.2.2.2.1, .cells [.int .i64 v.2.2.2.2.2.2.2.2.2.1, .int .i64 v.2.2.2.2.2.2.2.2.2.2.1, .int .i64 v.2.2.2.2.2.2.2.2.2.2.2]]⟩
def law34_ChaseRanks_r9 (C : law34_ChaseRanks_C) (v : law34_ChaseRanks_Y7) : Dt law34_ChaseRanks_Y9 := (Dt.bnd (C.2.2.2.1 ((v.2.2.2.1, ()), (v.1, ()), ())) fun r1 => (Dt.ite (inB r1 (List.length v.2.2.2.1)) (Dt.ret (v.1, v.2.1, v.2.2.2.1, v.2.2.2.2.1, v.2.2.2.2.2.1, v.2.2.2.2.2.2.1, v.2.2.2.2.2.2.2.1, v.2.2.2.2.2.2.2.2.1, v.2.2.2.2.2.2.2.2.2, (elt ziii v.2.2.2.1 (r1).toNat).1, (elt ziii v.2.2.2.1 (r1).toNat).2.1, (elt ziii v.2.2.2.1 (r1).toNat).2.2.1)) Dt.fail))
theorem law34_ChaseRanks_g9 (C : law34_ChaseRanks_C) (v : law34_ChaseRanks_Y7) : treg tysT (orc (law34_ChaseRanks_tab C)) 169 (regO (bodyOf f11) 9) true [(1, .any), (4, (.box [.val Riii])), (6, .any), (7, .any), (9, .any), (10, (.own Ri)), (11, (.own Ri)), (17, .any)] (law34_ChaseRanks_S7 v) some = (law34_ChaseRanks_r9 C v).eval fun y => some (law34_ChaseRanks_S9 y) := by kernel_rfl
abbrev law34_ChaseRanks_Y10 : Type := Int × Bool × Int × List Diii × Int × Int × Int × Int × List Di × List Di × Int × Int × Int
def law34_ChaseRanks_S10 (v : law34_ChaseRanks_Y10) : St := ⟨[(1, .int .i64 v.1), (4, .ptr 0 0), (6, .ptr 1 0), (7, .ptr 2 0), (9, .bool v.2.1), (10, .rs 3), (11, .rs 4), (17, .ptr 5 0), (18, .int .i64 v.2.2.1)], [.cells [.fz Riii v.2.2.2.1], .cells [.int .i64 v.2.2.2.2.1, .int .i64 v.2.2.2.2.2.1], .cells [.int .i64 v.2.2.2.2.2.2.1, .int .i64 v.2.2.2.2.2.2.2.1], .rows Ri v.2.2.2.2.2.2.2.2.1, .rows Ri v.2.2.2.2.2.2.2.2.2.1, .cells [.int .i64 v.2.2.2.2.2.2.2.2.2.2.1, .int .i64 v.2.2.2.2.2.2.2.2.2.2.2.1, .int .i64 v.2.2.2.2.2.2.2.2.2.2.2.2]]⟩
def law34_ChaseRanks_r10 (C : law34_ChaseRanks_C) (v : law34_ChaseRanks_Y9) : Dt law34_ChaseRanks_Y10 := (Dt.ret (v.1, v.2.1, (0:Int), v.2.2.1, v.2.2.2.1, v.2.2.2.2.1, v.2.2.2.2.2.1, v.2.2.2.2.2.2.1, v.2.2.2.2.2.2.2.1, v.2.2.2.2.2.2.2.2.1, v.2.2.2.2.2.2.2.2.2.1, v.2.2.2.2.2.2.2.2.2.2.1, v.2.2.2.2.2.2.2.2.2.2.2))
theorem law34_ChaseRanks_g10 (C : law34_ChaseRanks_C) (v : law34_ChaseRanks_Y9) : treg tysT (orc (law34_ChaseRanks_tab C)) 169 (regO (bodyOf f11) 10) false [(1, .any), (4, (.box [.val Riii])), (6, .any), (7, .any), (9, .any), (10, (.own Ri)), (11, (.own Ri)), (17, .any), (18, .any)] (law34_ChaseRanks_S9 v) some = (law34_ChaseRanks_r10 C v).eval fun y => some (law34_ChaseRanks_S10 y) := by kernel_rfl
abbrev law34_ChaseRanks_Y11 : Type := Int × Bool × Int × Bool × List Diii × Int × Int × Int × Int × List Di × List Di × Int × Int × Int
def law34_ChaseRanks_S11 (v : law34_ChaseRanks_Y11) : St := ⟨[(1, .int .i64 v.1), (4, .ptr 0 0), (6, .ptr 1 0), (7, .ptr 2 0), (9, .bool v.2.1), (10, .rs 3), (11, .rs 4), (17, .ptr 5 0), (18, .int .i64 v.2.2.1), (101, .bool v.2.2.2.1)], [.cells [.fz Riii v.2.2.2.2.1], .cells [.int .i64 v.2.2.2.2.2.1, .int .i64 v.2.2.2.2.2.2.1], .cells [.int .i64 v.2.2.2.2.2.2.2.1, .int .i64 v.2.2.2.2.2.2.2.2.1], .rows Ri v.2.2.2.2.2.2.2.2.2.1, .rows Ri v.2.2.2.2.2.2.2.2.2.2.1, .cells [.int .i64 v.2.2.2.2.2.2.2.2.2.2.2.1, .int .i64 v.2.2.2.2.2.2.2.2.2.2.2.2.1, .int .i64 v.2.2.2.2.2.2.2.2.2.2.2.2.2]]⟩
def law34_ChaseRanks_r11 (C : law34_ChaseRanks_C) (v : law34_ChaseRanks_Y10) : Dt law34_ChaseRanks_Y11 := (Dt.ret (v.1, v.2.1, v.2.2.1, (decide (v.2.2.1 < (IntKind.wrap .i64 ((List.length v.2.2.2.2.2.2.2.2.1 : Int) + (List.length v.2.2.2.2.2.2.2.2.2.1 : Int))))), v.2.2.2.1, v.2.2.2.2.1, v.2.2.2.2.2.1, v.2.2.2.2.2.2.1, v.2.2.2.2.2.2.2.1, v.2.2.2.2.2.2.2.2.1, v.2.2.2.2.2.2.2.2.2.1, v.2.2.2.2.2.2.2.2.2.2.1, v.2.2.2.2.2.2.2.2.2.2.2.1, v.2.2.2.2.2.2.2.2.2.2.2.2))
theorem law34_ChaseRanks_g11 (C : law34_ChaseRanks_C) (v : law34_ChaseRanks_Y10) : treg tysT (orc (law34_ChaseRanks_tab C)) 169 (regO (bodyOf f11) 11) false [(1, .any), (4, (.box [.val Riii])), (6, .any), (7, .any), (9, .any), (10, (.own Ri)), (11, (.own Ri)), (17, .any), (18, .any), (101, .any)] (law34_ChaseRanks_S10 v) some = (law34_ChaseRanks_r11 C v).eval fun y => some (law34_ChaseRanks_S11 y) := by kernel_rfl
abbrev law34_ChaseRanks_Y13 : Type := Int × Bool × Int × Bool × List Diii × Int × Int × Int × Int × List Di × List Di × Int × Int × Int
def law34_ChaseRanks_S13 (v : law34_ChaseRanks_Y13) : St := ⟨[(1, .int .i64 v.1), (4, .ptr 0 0), (6, .ptr 1 0), (7, .ptr 2 0), (9, .bool v.2.1), (10, .rs 3), (11, .rs 4), (17, .ptr 5 0), (18, .int .i64 v.2.2.1), (20, .bool v.2.2.2.1)], [.cells [.fz Riii v.2.2.2.2.1], .cells [.int .i64 v.2.2.2.2.2.1, .int .i64 v.2.2.2.2.2.2.1], .cells [.int .i64 v.2.2.2.2.2.2.2.1, .int .i64 v.2.2.2.2.2.2.2.2.1], .rows Ri v.2.2.2.2.2.2.2.2.2.1, .rows Ri v.2.2.2.2.2.2.2.2.2.2.1, .cells [.int .i64 v.2.2.2.2.2.2.2.2.2.2.2.1, .int .i64 v.2.2.2.2.2.2.2.2.2.2.2.2.1, .int .i64 v.2.2.2.2.2.2.2.2.2.2.2.2.2]]⟩
def law34_ChaseRanks_r13 (C : law34_ChaseRanks_C) (v : law34_ChaseRanks_Y11) : Dt law34_ChaseRanks_Y13 := (Dt.ret (v.1, v.2.1, v.2.2.1, (decide (v.2.2.1 < (List.length v.2.2.2.2.2.2.2.2.2.1 : Int))), v.2.2.2.2.1, v.2.2.2.2.2.1, v.2.2.2.2.2.2.1, v.2.2.2.2.2.2.2.1, v.2.2.2.2.2.2.2.2.1, v.2.2.2.2.2.2.2.2.2.1, v.2.2.2.2.2.2.2.2.2.2.1, v.2.2.2.2.2.2.2.2.2.2.2.1, v.2.2.2.2.2.2.2.2.2.2.2.2.1, v.2.2.2.2.2.2.2.2.2.2.2.2.2))
theorem law34_ChaseRanks_g13 (C : law34_ChaseRanks_C) (v : law34_ChaseRanks_Y11) : treg tysT (orc (law34_ChaseRanks_tab C)) 169 (regO (bodyOf f11) 13) false [(1, .any), (4, (.box [.val Riii])), (6, .any), (7, .any), (9, .any), (10, (.own Ri)), (11, (.own Ri)), (17, .any), (18, .any), (20, .any)] (law34_ChaseRanks_S11 v) some = (law34_ChaseRanks_r13 C v).eval fun y => some (law34_ChaseRanks_S13 y) := by kernel_rfl
abbrev law34_ChaseRanks_Y14 : Type := Int × Bool × Int × Bool × Bool × List Diii × Int × Int × Int × Int × List Di × List Di × Int × Int × Int
def law34_ChaseRanks_S14 (v : law34_ChaseRanks_Y14) : St := ⟨[(1, .int .i64 v.1), (4, .ptr 0 0), (6, .ptr 1 0), (7, .ptr 2 0), (9, .bool v.2.1), (10, .rs 3), (11, .rs 4), (17, .ptr 5 0), (18, .int .i64 v.2.2.1), (20, .bool v.2.2.2.1), (108, .bool v.2.2.2.2.1)], [.cells [.fz Riii v.2.2.2.2.2.1], .cells [.int .i64 v.2.2.2.2.2.2.1, .int .i64 v.2.2.2.2.2.2.2.1], .cells [.int .i64 v.2.2.2.2.2.2.2.2.1, .int .i64 v.2.2.2.2.2.2.2.2.2.1], .rows Ri v.2.2.2.2.2.2.2.2.2.2.1, .rows Ri v.2.2.2.2.2.2.2.2.2.2.2.1, .cells [.int .i64 v.2.2.2.2.2.2.2.2.2.2.2.2.1, .int .i64 v.2.2.2.2.2.2.2.2.2.2.2.2.2.1, .int .i64 v.2.2.2.2.2.2.2.2.2.2.2.2.2.2]]⟩
def law34_ChaseRanks_r14 (C : law34_ChaseRanks_C) (v : law34_ChaseRanks_Y13) : Dt law34_ChaseRanks_Y14 := (Dt.ret (v.1, v.2.1, v.2.2.1, v.2.2.2.1, v.2.2.2.1, v.2.2.2.2.1, v.2.2.2.2.2.1, v.2.2.2.2.2.2.1, v.2.2.2.2.2.2.2.1, v.2.2.2.2.2.2.2.2.1, v.2.2.2.2.2.2.2.2.2.1, v.2.2.2.2.2.2.2.2.2.2.1, v.2.2.2.2.2.2.2.2.2.2.2.1, v.2.2.2.2.2.2.2.2.2.2.2.2.1, v.2.2.2.2.2.2.2.2.2.2.2.2.2))
theorem law34_ChaseRanks_g14 (C : law34_ChaseRanks_C) (v : law34_ChaseRanks_Y13) : treg tysT (orc (law34_ChaseRanks_tab C)) 169 (regO (bodyOf f11) 14) false [(1, .any), (4, (.box [.val Riii])), (6, .any), (7, .any), (9, .any), (10, (.own Ri)), (11, (.own Ri)), (17, .any), (18, .any), (20, .any), (108, .any)] (law34_ChaseRanks_S13 v) some = (law34_ChaseRanks_r14 C v).eval fun y => some (law34_ChaseRanks_S14 y) := by kernel_rfl
abbrev law34_ChaseRanks_Y15 : Type := Int × Bool × Int × Int × Bool × List Diii × Int × Int × Int × Int × List Di × List Di × Int × Int × Int
def law34_ChaseRanks_S15 (v : law34_ChaseRanks_Y15) : St := ⟨[(1, .int .i64 v.1), (4, .ptr 0 0), (6, .ptr 1 0), (7, .ptr 2 0), (9, .bool v.2.1), (10, .rs 3), (11, .rs 4), (17, .ptr 5 0), (18, .int .i64 v.2.2.1), (19, .int .i64 v.2.2.2.1), (20, .bool v.2.2.2.2.1)], [.cells [.fz Riii v.2.2.2.2.2.1], .cells [.int .i64 v.2.2.2.2.2.2.1, .int .i64 v.2.2.2.2.2.2.2.1], .cells [.int .i64 v.2.2.2.2.2.2.2.2.1, .int .i64 v.2.2.2.2.2.2.2.2.2.1], .rows Ri v.2.2.2.2.2.2.2.2.2.2.1, .rows Ri v.2.2.2.2.2.2.2.2.2.2.2.1, .cells [.int .i64 v.2.2.2.2.2.2.2.2.2.2.2.2.1, .int .i64 v.2.2.2.2.2.2.2.2.2.2.2.2.2.1, .int .i64 v.2.2.2.2.2.2.2.2.2.2.2.2.2.2]]⟩
def law34_ChaseRanks_r15 (C : law34_ChaseRanks_C) (v : law34_ChaseRanks_Y14) : Dt law34_ChaseRanks_Y15 := (Dt.ite (inB v.2.2.1 (List.length v.2.2.2.2.2.2.2.2.2.2.1)) (Dt.ret (v.1, v.2.1, v.2.2.1, (elt zi v.2.2.2.2.2.2.2.2.2.2.1 (v.2.2.1).toNat).1, v.2.2.2.1, v.2.2.2.2.2.1, v.2.2.2.2.2.2.1, v.2.2.2.2.2.2.2.1, v.2.2.2.2.2.2.2.2.1, v.2.2.2.2.2.2.2.2.2.1, v.2.2.2.2.2.2.2.2.2.2.1, v.2.2.2.2.2.2.2.2.2.2.2.1, v.2.2.2.2.2.2.2.2.2.2.2.2.1, v.2.2.2.2.2.2.2.2.2.2.2.2.2.1, v.2.2.2.2.2.2.2.2.2.2.2.2.2.2)) Dt.fail)
theorem law34_ChaseRanks_g15 (C : law34_ChaseRanks_C) (v : law34_ChaseRanks_Y14) : treg tysT (orc (law34_ChaseRanks_tab C)) 169 (regO (bodyOf f11) 15) false [(1, .any), (4, (.box [.val Riii])), (6, .any), (7, .any), (9, .any), (10, (.own Ri)), (11, (.own Ri)), (17, .any), (18, .any), (19, .any), (20, .any)] (law34_ChaseRanks_S14 v) some = (law34_ChaseRanks_r15 C v).eval fun y => some (law34_ChaseRanks_S15 y) := by kernel_rfl
abbrev law34_ChaseRanks_Y17 : Type := Int × Bool × Int × Int × Bool × Int × List Diii × Int × Int × Int × Int × List Di × List Di × Int × Int × Int
def law34_ChaseRanks_S17 (v : law34_ChaseRanks_Y17) : St := ⟨[(1, .int .i64 v.1), (4, .ptr 0 0), (6, .ptr 1 0), (7, .ptr 2 0), (9, .bool v.2.1), (10, .rs 3), (11, .rs 4), (17, .ptr 5 0), (18, .int .i64 v.2.2.1), (19, .int .i64 v.2.2.2.1), (20, .bool v.2.2.2.2.1), (21, .int .i64 v.2.2.2.2.2.1)], [.cells [.fz Riii v.2.2.2.2.2.2.1], .cells [.int .i64 v.2.2.2.2.2.2.2.1, .int .i64 v.2.2.2.2.2.2.2.2.1], .cells [.int .i64 v.2.2.2.2.2.2.2.2.2.1, .int .i64 v.2.2.2.2.2.2.2.2.2.2.1], .rows Ri v.2.2.2.2.2.2.2.2.2.2.2.1, .rows Ri v.2.2.2.2.2.2.2.2.2.2.2.2.1, .cells [.int .i64 v.2.2.2.2.2.2.2.2.2.2.2.2.2.1, .int .i64 v.2.2.2.2.2.2.2.2.2.2.2.2.2.2.1, .int .i64 v.2.2.2.2.2.2.2.2.2.2.2.2.2.2.2]]⟩
def law34_ChaseRanks_r17 (C : law34_ChaseRanks_C) (v : law34_ChaseRanks_Y15) : Dt law34_ChaseRanks_Y17 := (Dt.bnd (C.2.2.2.1 ((v.2.2.2.2.2.1, ()), (v.2.2.2.1, ()), ())) fun r1 => (Dt.ret (v.1, v.2.1, v.2.2.1, v.2.2.2.1, v.2.2.2.2.1, r1, v.2.2.2.2.2.1, v.2.2.2.2.2.2.1, v.2.2.2.2.2.2.2.1, v.2.2.2.2.2.2.2.2.1, v.2.2.2.2.2.2.2.2.2.1, v.2.2.2.2.2.2.2.2.2.2.1, v.2.2.2.2.2.2.2.2.2.2.2.1, v.2.2.2.2.2.2.2.2.2.2.2.2.1, v.2.2.2.2.2.2.2.2.2.2.2.2.2.1, v.2.2.2.2.2.2.2.2.2.2.2.2.2.2)))
theorem law34_ChaseRanks_g17 (C : law34_ChaseRanks_C) (v : law34_ChaseRanks_Y15) : treg tysT (orc (law34_ChaseRanks_tab C)) 169 (regO (bodyOf f11) 17) false [(1, .any), (4, (.box [.val Riii])), (6, .any), (7, .any), (9, .any), (10, (.own Ri)), (11, (.own Ri)), (17, .any), (18, .any), (19, .any), (20, .any), (21, .any)] (law34_ChaseRanks_S15 v) some = (law34_ChaseRanks_r17 C v).eval fun y => some (law34_ChaseRanks_S17 y) := by kernel_rfl
abbrev law34_ChaseRanks_Y18 : Type := Int × Bool × Int × Bool × Int × Bool × List Diii × Int × Int × Int × Int × List Di × List Di × Int × Int × Int
def law34_ChaseRanks_S18 (v : law34_ChaseRanks_Y18) : St := ⟨[(1, .int .i64 v.1), (4, .ptr 0 0), (6, .ptr 1 0), (7, .ptr 2 0), (9, .bool v.2.1), (10, .rs 3), (11, .rs 4), (17, .ptr 5 0), (18, .int .i64 v.2.2.1), (20, .bool v.2.2.2.1), (21, .int .i64 v.2.2.2.2.1), (129, .bool v.2.2.2.2.2.1)], [.cells [.fz Riii v.2.2.2.2.2.2.1], .cells [.int .i64 v.2.2.2.2.2.2.2.1, .int .i64 v.2.2.2.2.2.2.2.2.1], .cells [.int .i64 v.2.2.2.2.2.2.2.2.2.1, .int .i64 v.2.2.2.2.2.2.2.2.2.2.1], .rows Ri v.2.2.2.2.2.2.2.2.2.2.2.1, .rows Ri v.2.2.2.2.2.2.2.2.2.2.2.2.1, .cells [.int .i64 v.2.2.2.2.2.2.2.2.2.2.2.2.2.1, .int .i64 v.2.2.2.2.2.2.2.2.2.2.2.2.2.2.1, .int .i64 v.2.2.2.2.2.2.2.2.2.2.2.2.2.2.2]]⟩
def law34_ChaseRanks_r18 (C : law34_ChaseRanks_C) (v : law34_ChaseRanks_Y17) : Dt law34_ChaseRanks_Y18 := (Dt.ite (decide (v.2.2.2.2.2.1 < (0:Int))) (Dt.ret (v.1, v.2.1, v.2.2.1, v.2.2.2.2.1, v.2.2.2.2.2.1, true, v.2.2.2.2.2.2.1, v.2.2.2.2.2.2.2.1, v.2.2.2.2.2.2.2.2.1, v.2.2.2.2.2.2.2.2.2.1, v.2.2.2.2.2.2.2.2.2.2.1, v.2.2.2.2.2.2.2.2.2.2.2.1, v.2.2.2.2.2.2.2.2.2.2.2.2.1, v.2.2.2.2.2.2.2.2.2.2.2.2.2.1, v.2.2.2.2.2.2.2.2.2.2.2.2.2.2.1, v.2.2.2.2.2.2.2.2.2.2.2.2.2.2.2)) (Dt.ret (v.1, v.2.1, v.2.2.1, v.2.2.2.2.1, v.2.2.2.2.2.1, (v.2.2.2.1 == v.1), v.2.2.2.2.2.2.1, v.2.2.2.2.2.2.2.1, v.2.2.2.2.2.2.2.2.1, v.2.2.2.2.2.2.2.2.2.1, v.2.2.2.2.2.2.2.2.2.2.1, v.2.2.2.2.2.2.2.2.2.2.2.1, v.2.2.2.2.2.2.2.2.2.2.2.2.1, v.2.2.2.2.2.2.2.2.2.2.2.2.2.1, v.2.2.2.2.2.2.2.2.2.2.2.2.2.2.1, v.2.2.2.2.2.2.2.2.2.2.2.2.2.2.2)))
theorem law34_ChaseRanks_g18 (C : law34_ChaseRanks_C) (v : law34_ChaseRanks_Y17) : treg tysT (orc (law34_ChaseRanks_tab C)) 169 (regO (bodyOf f11) 18) false [(1, .any), (4, (.box [.val Riii])), (6, .any), (7, .any), (9, .any), (10, (.own Ri)), (11, (.own Ri)), (17, .any), (18, .any), (20, .any), (21, .any), (129, .any)] (law34_ChaseRanks_S17 v) some = (law34_ChaseRanks_r18 C v).eval fun y => some (law34_ChaseRanks_S18 y) := by kernel_rfl
def law34_ChaseRanks_r19 (C : law34_ChaseRanks_C) (v : law34_ChaseRanks_Y18) : Dt law34_ChaseRanks_Y3 := (Dt.ret false)
theorem law34_ChaseRanks_g19 (C : law34_ChaseRanks_C) (v : law34_ChaseRanks_Y18) : treg tysT (orc (law34_ChaseRanks_tab C)) 169 (regO (bodyOf f11) 19) false [(8, .any)] (law34_ChaseRanks_S18 v) some = (law34_ChaseRanks_r19 C v).eval fun y => some (law34_ChaseRanks_S3 y) := by kernel_rfl
abbrev law34_ChaseRanks_Y20 : Type := Int × Bool × Int × Bool × Int × Bool × Int × List Diii × Int × Int × Int × Int × List Di × List Di × Int × Int × Int
def law34_ChaseRanks_S20 (v : law34_ChaseRanks_Y20) : St := ⟨[(1, .int .i64 v.1), (4, .ptr 0 0), (6, .ptr 1 0), (7, .ptr 2 0), (9, .bool v.2.1), (10, .rs 3), (11, .rs 4), (17, .ptr 5 0), (18, .int .i64 v.2.2.1), (20, .bool v.2.2.2.1), (21, .int .i64 v.2.2.2.2.1), (22, .bool v.2.2.2.2.2.1), (23, .int .i64 v.2.2.2.2.2.2.1)], [.cells [.fz Riii v.2.2.2.2.2.2.2.1], .cells [.int .i64 v.2.2.2.2.2.2.2.2.1, .int .i64 v.2.2.2.2.2.2.2.2.2.1], .cells [.int .i64 v.2.2.2.2.2.2.2.2.2.2.1, .int .i64 v.2.2.2.2.2.2.2.2.2.2.2.1], .rows Ri v.2.2.2.2.2.2.2.2.2.2.2.2.1, .rows Ri v.2.2.2.2.2.2.2.2.2.2.2.2.2.1, .cells [.int .i64 v.2.2.2.2.2.2.2.2.2.2.2.2.2.2.1, .int .i64 v.2.2.2.2.2.2.2.2.2.2.2.2.2.2.2.1, .int .i64 v.2.2.2.2.2.2.2.2.2.2.2.2.2.2.2.2]]⟩
def law34_ChaseRanks_r20 (C : law34_ChaseRanks_C) (v : law34_ChaseRanks_Y18) : Dt law34_ChaseRanks_Y20 := (Dt.ite (inB v.2.2.2.2.1 (List.length v.2.2.2.2.2.2.1)) (Dt.bnd (C.2.2.2.2.1 ((v.2.2.2.2.2.2.2.2.2.2.2.2.2.1, v.2.2.2.2.2.2.2.2.2.2.2.2.2.2.1, v.2.2.2.2.2.2.2.2.2.2.2.2.2.2.2, ()), ((elt ziii v.2.2.2.2.2.2.1 (v.2.2.2.2.1).toNat).1, (elt ziii v.2.2.2.2.2.2.1 (v.2.2.2.2.1).toNat).2.1, (elt ziii v.2.2.2.2.2.2.1 (v.2.2.2.2.1).toNat).2.2.1, ()), (v.2.2.2.2.2.2.2.1, v.2.2.2.2.2.2.2.2.1, ()), ())) fun r1 => (Dt.ret (v.1, v.2.1, v.2.2.1, v.2.2.2.1, v.2.2.2.2.1, r1.1, r1.2, v.2.2.2.2.2.2.1, v.2.2.2.2.2.2.2.1, v.2.2.2.2.2.2.2.2.1, v.2.2.2.2.2.2.2.2.2.1, v.2.2.2.2.2.2.2.2.2.2.1, v.2.2.2.2.2.2.2.2.2.2.2.1, v.2.2.2.2.2.2.2.2.2.2.2.2.1, v.2.2.2.2.2.2.2.2.2.2.2.2.2.1, v.2.2.2.2.2.2.2.2.2.2.2.2.2.2.1, v.2.2.2.2.2.2.2.2.2.2.2.2.2.2.2))) Dt.fail)
theorem law34_ChaseRanks_g20 (C : law34_ChaseRanks_C) (v : law34_ChaseRanks_Y18) : treg tysT (orc (law34_ChaseRanks_tab C)) 169 (regO (bodyOf f11) 20) true [(1, .any), (4, (.box [.val Riii])), (6, .any), (7, .any), (9, .any), (10, (.own Ri)), (11, (.own Ri)), (17, .any), (18, .any), (20, .any), (21, .any), (22, .any), (23, .any)] (law34_ChaseRanks_S18 v) some = (law34_ChaseRanks_r20 C v).eval fun y => some (law34_ChaseRanks_S20 y) := by kernel_rfl
abbrev law34_ChaseRanks_Y21 : Type := Int × Bool × Int × Bool × Bool × Int × Bool × Int × List Diii × Int × Int × Int × Int × List Di × List Di × Int × Int × Int
def law34_ChaseRanks_S21 (v : law34_ChaseRanks_Y21) : St := ⟨[(1, .int .i64 v.1), (4, .ptr 0 0), (6, .ptr 1 0), (7, .ptr 2 0), (9, .bool v.2.1), (10, .rs 3), (11, .rs 4), (17, .ptr 5 0), (18, .int .i64 v.2.2.1), (20, .bool v.2.2.2.1), (22, .bool v.2.2.2.2.1), (23, .int .i64 v.2.2.2.2.2.1), (24, .bool v.2.2.2.2.2.2.1), (25, .int .i64 v.2.2.2.2.2.2.2.1)], [.cells [.fz Riii v.2.2.2.2.2.2.2.2.1], .cells [.int .i64 v.2.2.2.2.2.2.2.2.2.1, .int .i64 v.2.2.2.2.2.2.2.2.2.2.1], .cells [.int .i64 v.2.2.2.2.2.2.2.2.2.2.2.1, .int .i64 v.2.2.2.2.2.2.2.2.2.2.2.2.1], .rows Ri v.2.2.2.2.2.2.2.2.2.2.2.2.2.1, .rows Ri v.2.2.2.2.2.2.2.2.2.2.2.2.2.2.1, .cells [.int .i64 v.2.2.2.2.2.2.2.2.2.2.2.2.2.2.2.1, .int .i64 v.2.2.2.2.2.2.2.2.2.2.2.2.2.2.2.2.1, .int .i64 v.2.2.2.2.2.2.2.2.2.2.2.2.2.2.2.2.2]]⟩
def law34_ChaseRanks_r21 (C : law34_ChaseRanks_C) (v : law34_ChaseRanks_Y20) : Dt law34_ChaseRanks_Y21 := (Dt.ite (inB v.2.2.2.2.1 (List.length v.2.2.2.2.2.2.2.1)) (Dt.bnd (C.2.2.2.2.1 ((v.2.2.2.2.2.2.2.2.2.2.2.2.2.2.1, v.2.2.2.2.2.2.2.2.2.2.2.2.2.2.2.1, v.2.2.2.2.2.2.2.2.2.2.2.2.2.2.2.2, ()), ((elt ziii v.2.2.2.2.2.2.2.1 (v.2.2.2.2.1).toNat).1, (elt ziii v.2.2.2.2.2.2.2.1 (v.2.2.2.2.1).toNat).2.1, (elt ziii v.2.2.2.2.2.2.2.1 (v.2.2.2.2.1).toNat).2.2.1, ()), (v.2.2.2.2.2.2.2.2.2.2.1, v.2.2.2.2.2.2.2.2.2.2.2.1, ()), ())) fun r1 => (Dt.ret (v.1, v.2.1, v.2.2.1, v.2.2.2.1, v.2.2.2.2.2.1, v.2.2.2.2.2.2.1, r1.1, r1.2, v.2.2.2.2.2.2.2.1, v.2.2.2.2.2.2.2.2.1, v.2.2.2.2.2.2.2.2.2.1, v.2.2.2.2.2.2.2.2.2.2.1, v.2.2.2.2.2.2.2.2.2.2.2.1, v.2.2.2.2.2.2.2.2.2.2.2.2.1, v.2.2.2.2.2.2.2.2.2.2.2.2.2.1, v.2.2.2.2.2.2.2.2.2.2.2.2.2.2.1, v.2.2.2.2.2.2.2.2.2.2.2.2.2.2.2.1, v.2.2.2.2.2.2.2.2.2.2.2.2.2.2.2.2))) Dt.fail)
theorem law34_ChaseRanks_g21 (C : law34_ChaseRanks_C) (v : law34_ChaseRanks_Y20) : treg tysT (orc (law34_ChaseRanks_tab C)) 169 (regO (bodyOf f11) 21) true [(1, .any), (4, (.box [.val Riii])), (6, .any), (7, .any), (9, .any), (10, (.own Ri)), (11, (.own Ri)), (17, .any), (18, .any), (20, .any), (22, .any), (23, .any), (24, .any), (25, .any)] (law34_ChaseRanks_S20 v) some = (law34_ChaseRanks_r21 C v).eval fun y => some (law34_ChaseRanks_S21 y) := by kernel_rfl
abbrev law34_ChaseRanks_Y22 : Type := Int × Bool × Int × Bool × List Diii × Int × Int × Int × Int × List Di × List Di × Int × Int × Int
def law34_ChaseRanks_S22 (v : law34_ChaseRanks_Y22) : St := ⟨[(1, .int .i64 v.1), (4, .ptr 0 0), (6, .ptr 1 0), (7, .ptr 2 0), (9, .bool v.2.1), (10, .rs 3), (11, .rs 4), (17, .ptr 5 0), (18, .int .i64 v.2.2.1), (167, .bool v.2.2.2.1)], [.cells [.fz Riii v.2.2.2.2.1], .cells [.int .i64 v.2.2.2.2.2.1, .int .i64 v.2.2.2.2.2.2.1], .cells [.int .i64 v.2.2.2.2.2.2.2.1, .int .i64 v.2.2.2.2.2.2.2.2.1], .rows Ri v.2.2.2.2.2.2.2.2.2.1, .rows Ri v.2.2.2.2.2.2.2.2.2.2.1, .cells [.int .i64 v.2.2.2.2.2.2.2.2.2.2.2.1, .int .i64 v.2.2.2.2.2.2.2.2.2.2.2.2.1, .int .i64 v.2.2.2.2.2.2.2.2.2.2.2.2.2]]⟩
def law34_ChaseRanks_r22 (C : law34_ChaseRanks_C) (v : law34_ChaseRanks_Y21) : Dt law34_ChaseRanks_Y22 := (Dt.ite (v.2.2.2.2.2.1 != (0:Int)) (Dt.ret (v.1, v.2.1, v.2.2.1, true, v.2.2.2.2.2.2.2.2.1, v.2.2.2.2.2.2.2.2.2.1, v.2.2.2.2.2.2.2.2.2.2.1, v.2.2.2.2.2.2.2.2.2.2.2.1, v.2.2.2.2.2.2.2.2.2.2.2.2.1, v.2.2.2.2.2.2.2.2.2.2.2.2.2.1, v.2.2.2.2.2.2.2.2.2.2.2.2.2.2.1, v.2.2.2.2.2.2.2.2.2.2.2.2.2.2.2.1, v.2.2.2.2.2.2.2.2.2.2.2.2.2.2.2.2.1, v.2.2.2.2.2.2.2.2.2.2.2.2.2.2.2.2.2)) (Dt.ite (v.2.2.2.2.2.2.2.1 != (0:Int)) (Dt.ret (v.1, v.2.1, v.2.2.1, true, v.2.2.2.2.2.2.2.2.1, v.2.2.2.2.2.2.2.2.2.1, v.2.2.2.2.2.2.2.2.2.2.1, v.2.2.2.2.2.2.2.2.2.2.2.1, v.2.2.2.2.2.2.2.2.2.2.2.2.1, v.2.2.2.2.2.2.2.2.2.2.2.2.2.1, v.2.2.2.2.2.2.2.2.2.2.2.2.2.2.1, v.2.2.2.2.2.2.2.2.2.2.2.2.2.2.2.1, v.2.2.2.2.2.2.2.2.2.2.2.2.2.2.2.2.1, v.2.2.2.2.2.2.2.2.2.2.2.2.2.2.2.2.2)) (Dt.ite (!(v.2.2.2.2.2.2.1 == v.2.2.2.1)) (Dt.ret (v.1, v.2.1, v.2.2.1, true, v.2.2.2.2.2.2.2.2.1, v.2.2.2.2.2.2.2.2.2.1, v.2.2.2.2.2.2.2.2.2.2.1, v.2.2.2.2.2.2.2.2.2.2.2.1, v.2.2.2.2.2.2.2.2.2.2.2.2.1, v.2.2.2.2.2.2.2.2.2.2.2.2.2.1, v.2.2.2.2.2.2.2.2.2.2.2.2.2.2.1, v.2.2.2.2.2.2.2.2.2.2.2.2.2.2.2.1, v.2.2.2.2.2.2.2.2.2.2.2.2.2.2.2.2.1, v.2.2.2.2.2.2.2.2.2.2.2.2.2.2.2.2.2)) (Dt.ret (v.1, v.2.1, v.2.2.1, (v.2.2.2.2.1 == v.2.2.2.1), v.2.2.2.2.2.2.2.2.1, v.2.2.2.2.2.2.2.2.2.1, v.2.2.2.2.2.2.2.2.2.2.1, v.2.2.2.2.2.2.2.2.2.2.2.1, v.2.2.2.2.2.2.2.2.2.2.2.2.1, v.2.2.2.2.2.2.2.2.2.2.2.2.2.1, v.2.2.2.2.2.2.2.2.2.2.2.2.2.2.1, v.2.2.2.2.2.2.2.2.2.2.2.2.2.2.2.1, v.2.2.2.2.2.2.2.2.2.2.2.2.2.2.2.2.1, v.2.2.2.2.2.2.2.2.2.2.2.2.2.2.2.2.2)))))
theorem law34_ChaseRanks_g22 (C : law34_ChaseRanks_C) (v : law34_ChaseRanks_Y21) : treg tysT (orc (law34_ChaseRanks_tab C)) 169 (regO (bodyOf f11) 22) false [(1, .any), (4, (.box [.val Riii])), (6, .any), (7, .any), (9, .any), (10, (.own Ri)), (11, (.own Ri)), (17, .any), (18, .any), (167, .any)] (law34_ChaseRanks_S21 v) some = (law34_ChaseRanks_r22 C v).eval fun y => some (law34_ChaseRanks_S22 y) := by kernel_rfl
def law34_ChaseRanks_r23 (C : law34_ChaseRanks_C) (v : law34_ChaseRanks_Y22) : Dt law34_ChaseRanks_Y3 := (Dt.ret false)
theorem law34_ChaseRanks_g23 (C : law34_ChaseRanks_C) (v : law34_ChaseRanks_Y22) : treg tysT (orc (law34_ChaseRanks_tab C)) 169 (regO (bodyOf f11) 23) false [(8, .any)] (law34_ChaseRanks_S22 v) some = (law34_ChaseRanks_r23 C v).eval fun y => some (law34_ChaseRanks_S3 y) := by kernel_rfl
def law34_ChaseRanks_r12 (C : law34_ChaseRanks_C) (v : law34_ChaseRanks_Y22) : Dt law34_ChaseRanks_Y10 := (Dt.ret (v.1, v.2.1, (IntKind.wrap .i64 (v.2.2.1 + (1:Int))), v.2.2.2.2.1, v.2.2.2.2.2.1, v.2.2.2.2.2.2.1, v.2.2.2.2.2.2.2.1, v.2.2.2.2.2.2.2.2.1, v.2.2.2.2.2.2.2.2.2.1, v.2.2.2.2.2.2.2.2.2.2.1, v.2.2.2.2.2.2.2.2.2.2.2.1, v.2.2.2.2.2.2.2.2.2.2.2.2.1, v.2.2.2.2.2.2.2.2.2.2.2.2.2))
theorem law34_ChaseRanks_g12 (C : law34_ChaseRanks_C) (v : law34_ChaseRanks_Y22) : treg tysT (orc (law34_ChaseRanks_tab C)) 169 (regO (bodyOf f11) 12) false [(1, .any), (4, (.box [.val Riii])), (6, .any), (7, .any), (9, .any), (10, (.own Ri)), (11, (.own Ri)), (17, .any), (18, .any)] (law34_ChaseRanks_S22 v) some = (law34_ChaseRanks_r12 C v).eval fun y => some (law34_ChaseRanks_S10 y) := by kernel_rfl
def law34_ChaseRanks_J2  (d : Nat) (self1 : (Int × Bool × Int × List Diii × Int × Int × Int × Int × List Di × List Di × Int × Int × Int) → Option law34_ChaseRanks_R) (z : Int × Bool × Int × Int × Bool × List Diii × Int × Int × Int × Int × List Di × List Di × Int × Int × Int) : Option (law34_ChaseRanks_R) :=
  (law34_ChaseRanks_r17 (law34_ChaseRanks_K d) z).eval fun y17 =>
  (law34_ChaseRanks_r18 (law34_ChaseRanks_K d) y17).eval fun y18 =>
  bif y18.2.2.2.2.2.1 then ((law34_ChaseRanks_r19 (law34_ChaseRanks_K d) y18).eval fun y19 =>
  some y19) else ((law34_ChaseRanks_r20 (law34_ChaseRanks_K d) y18).eval fun y20 =>
  (law34_ChaseRanks_r21 (law34_ChaseRanks_K d) y20).eval fun y21 =>
  (law34_ChaseRanks_r22 (law34_ChaseRanks_K d) y21).eval fun y22 =>
  bif y22.2.2.2.1 then ((law34_ChaseRanks_r23 (law34_ChaseRanks_K d) y22).eval fun y23 =>
  some y23) else ((law34_ChaseRanks_r12 (law34_ChaseRanks_K d) y22).eval fun y12 =>
  self1 y12))
def law34_ChaseRanks_r16 (C : law34_ChaseRanks_C) (v : law34_ChaseRanks_Y14) : Dt law34_ChaseRanks_Y15 := (Dt.ite (inB (IntKind.wrap .i64 (v.2.2.1 - (List.length v.2.2.2.2.2.2.2.2.2.2.1 : Int))) (List.length v.2.2.2.2.2.2.2.2.2.2.2.1)) (Dt.ret (v.1, v.2.1, v.2.2.1, (elt zi v.2.2.2.2.2.2.2.2.2.2.2.1 ((IntKind.wrap .i64 (v.2.2.1 - (List.length v.2.2.2.2.2.2.2.2.2.2.1 : Int)))).toNat).1, v.2.2.2.1, v.2.2.2.2.2.1, v.2.2.2.2.2.2.1, v.2.2.2.2.2.2.2.1, v.2.2.2.2.2.2.2.2.1, v.2.2.2.2.2.2.2.2.2.1, v.2.2.2.2.2.2.2.2.2.2.1, v.2.2.2.2.2.2.2.2.2.2.2.1, v.2.2.2.2.2.2.2.2.2.2.2.2.1, v.2.2.2.2.2.2.2.2.2.2.2.2.2.1, v.2.2.2.2.2.2.2.2.2.2.2.2.2.2)) Dt.fail)
theorem law34_ChaseRanks_g16 (C : law34_ChaseRanks_C) (v : law34_ChaseRanks_Y14) : treg tysT (orc (law34_ChaseRanks_tab C)) 169 (regO (bodyOf f11) 16) false [(1, .any), (4, (.box [.val Riii])), (6, .any), (7, .any), (9, .any), (10, (.own Ri)), (11, (.own Ri)), (17, .any), (18, .any), (19, .any), (20, .any)] (law34_ChaseRanks_S14 v) some = (law34_ChaseRanks_r16 C v).eval fun y => some (law34_ChaseRanks_S15 y) := by kernel_rfl
def law34_ChaseRanks_r24 (C : law34_ChaseRanks_C) (v : law34_ChaseRanks_Y11) : Dt law34_ChaseRanks_Y3 := (Dt.ret v.2.1)
theorem law34_ChaseRanks_g24 (C : law34_ChaseRanks_C) (v : law34_ChaseRanks_Y11) : treg tysT (orc (law34_ChaseRanks_tab C)) 169 (regO (bodyOf f11) 24) false [(8, .any)] (law34_ChaseRanks_S11 v) some = (law34_ChaseRanks_r24 C v).eval fun y => some (law34_ChaseRanks_S3 y) := by kernel_rfl
def law34_ChaseRanks_L1 (d : Nat) (self1 : (Int × Bool × Int × List Diii × Int × Int × Int × Int × List Di × List Di × Int × Int × Int) → Option law34_ChaseRanks_R) (x1 : Int × Bool × Int × List Diii × Int × Int × Int × Int × List Di × List Di × Int × Int × Int) : Option law34_ChaseRanks_R :=
  (law34_ChaseRanks_r11 (law34_ChaseRanks_K d) x1).eval fun y11 =>
  bif y11.2.2.2.1 then ((law34_ChaseRanks_r13 (law34_ChaseRanks_K d) y11).eval fun y13 =>
  (law34_ChaseRanks_r14 (law34_ChaseRanks_K d) y13).eval fun y14 =>
  bif y14.2.2.2.2.1 then ((law34_ChaseRanks_r15 (law34_ChaseRanks_K d) y14).eval fun y15 =>
  law34_ChaseRanks_J2 d self1 y15) else ((law34_ChaseRanks_r16 (law34_ChaseRanks_K d) y14).eval fun y16 =>
  law34_ChaseRanks_J2 d self1 y16)) else ((law34_ChaseRanks_r24 (law34_ChaseRanks_K d) y11).eval fun y24 =>
  some y24)
def F_law34_ChaseRanks (d : Nat) (x : law34_ChaseRanks_X) : Option law34_ChaseRanks_R :=
  (law34_ChaseRanks_r0 (law34_ChaseRanks_K d) (x.1.1, x.2.1.1, x.2.2.1.1, x.2.2.1.2.1, x.2.2.2.1.1, x.2.2.2.1.2.1)).eval fun y0 =>
  (law34_ChaseRanks_r1 (law34_ChaseRanks_K d) y0).eval fun y1 =>
  (law34_ChaseRanks_r2 (law34_ChaseRanks_K d) y1).eval fun y2 =>
  bif y2.2.2.1 then ((law34_ChaseRanks_r3 (law34_ChaseRanks_K d) y2).eval fun y3 =>
  some y3) else ((law34_ChaseRanks_r4 (law34_ChaseRanks_K d) y2).eval fun y4 =>
  (law34_ChaseRanks_r5 (law34_ChaseRanks_K d) y4).eval fun y5 =>
  (law34_ChaseRanks_r6 (law34_ChaseRanks_K d) y5).eval fun y6 =>
  (law34_ChaseRanks_r7 (law34_ChaseRanks_K d) y6).eval fun y7 =>
  bif y7.2.2.1 then ((law34_ChaseRanks_r8 (law34_ChaseRanks_K d) y7).eval fun y8 =>
  some y8) else ((law34_ChaseRanks_r9 (law34_ChaseRanks_K d) y7).eval fun y9 =>
  (law34_ChaseRanks_r10 (law34_ChaseRanks_K d) y9).eval fun y10 =>
  iter (law34_ChaseRanks_L1 d ) d y10))
theorem law34_ChaseRanks_cok (d : Nat) : COK prog (law34_ChaseRanks_sp (F_law34_ChaseRanks d)) := by
  have hm : prog.follows .mixedOrders = true := mixed
  have hT := tys
  have hC0 : OrcOK prog (orc (law34_ChaseRanks_tab (law34_ChaseRanks_K d))) := orc_ok (by
    intro S hS
    simp only [law34_ChaseRanks_tab, List.mem_cons, List.not_mem_nil, or_false] at hS
    rcases hS with rfl | rfl | rfl | rfl | rfl | rfl | rfl
    · exact chase_Caught_cok d
    · exact law34_alive_cok d
    · exact law34_asked_cok d
    · exact ref03_At_cok d
    · exact course_Ahead_cok d
    · exact ref04_Times_cok d
    · exact field_Rank_cok d)
  have hC : OrcOK prog (orc (law34_ChaseRanks_tab (law34_ChaseRanks_K d))) := hC0
  refine cok_of (c := bodyOf f11) (fn := f11) hT (by kernel_rfl) (by kernel_rfl) (by decide) fun x r h w0 φ0 Q hend => ?_
  replace h : F_law34_ChaseRanks d x = some r := h
  unfold F_law34_ChaseRanks at h
  show Run prog w0 φ0 169 (bodyOf f11) ⟨[(0, .agg [.fz Riii x.1.1]), (1, .int .i64 x.2.1.1), (2, .agg [.int .i64 x.2.2.1.1, .int .i64 x.2.2.1.2.1]), (3, .agg [.int .i64 x.2.2.2.1.1, .int .i64 x.2.2.2.1.2.1])], []⟩ Q
  refine run_seq ?_
  refine run_reg hm hT hC (law34_ChaseRanks_g0 (law34_ChaseRanks_K d) (x.1.1, x.2.1.1, x.2.2.1.1, x.2.2.1.2.1, x.2.2.2.1.1, x.2.2.2.1.2.1)) h ?_
  intro y0 h
  refine cn_then ?_
  refine run_seq ?_
  refine run_reg hm hT hC (law34_ChaseRanks_g1 (law34_ChaseRanks_K d) y0) h ?_
  intro y1 h
  refine cn_then ?_
  refine run_seq ?_
  refine run_seq ?_
  refine run_reg hm hT hC (law34_ChaseRanks_g2 (law34_ChaseRanks_K d) y1) h ?_
  intro y2 h
  refine cn_then ?_
  refine run_cond (v := y2.2.2.1) (by kernel_rfl) h ?_ ?_
  ·
    intro h
    refine run_seq ?_
    refine run_reg hm hT hC (law34_ChaseRanks_g3 (law34_ChaseRanks_K d) y2) h ?_
    intro y3 h
    refine cn_then ?_
    refine run_ret ?_
    refine cn_then_ret ?_
    cases h
    exact (hend _ (by kernel_rfl)).2
  ·
    intro h
    refine run_skip ?_
    refine cn_then ?_
    refine run_seq ?_
    refine run_reg hm hT hC (law34_ChaseRanks_g4 (law34_ChaseRanks_K d) y2) h ?_
    intro y4 h
    refine cn_then ?_
    refine run_seq ?_
    refine run_reg hm hT hC (law34_ChaseRanks_g5 (law34_ChaseRanks_K d) y4) h ?_
    intro y5 h
    refine cn_then ?_
    refine run_seq ?_
    refine run_reg hm hT hC (law34_ChaseRanks_g6 (law34_ChaseRanks_K d) y5) h ?_
    intro y6 h
    refine cn_then ?_
    refine run_seq ?_
    refine run_seq ?_
    refine run_reg hm hT hC (law34_ChaseRanks_g7 (law34_ChaseRanks_K d) y6) h ?_
    intro y7 h
    refine cn_then ?_
    refine run_cond (v := y7.2.2.1) (by kernel_rfl) h ?_ ?_
    ·
      intro h
      refine run_seq ?_
      refine run_reg hm hT hC (law34_ChaseRanks_g8 (law34_ChaseRanks_K d) y7) h ?_
      intro y8 h
      refine cn_then ?_
      refine run_ret ?_
      refine cn_then_ret ?_
      cases h
      exact (hend _ (by kernel_rfl)).2
    ·
      intro h
      refine run_skip ?_
      refine cn_then ?_
      refine run_seq ?_
      refine run_reg hm hT hC (law34_ChaseRanks_g9 (law34_ChaseRanks_K d) y7) h ?_
      intro y9 h
      refine cn_then ?_
      refine run_seq ?_
      refine run_seq ?_
      refine run_reg hm hT hC (law34_ChaseRanks_g10 (law34_ChaseRanks_K d) y9) h ?_
      intro y10 h
      refine cn_then ?_
      refine run_block ?_
      refine run_loop (G := iter (law34_ChaseRanks_L1 d )) (S := (fun x1 => ⟨[(1, .int .i64 x1.1), (4, .ptr 0 0), (6, .ptr 1 0), (7, .ptr 2 0), (9, .bool x1.2.1), (10, .rs 3), (11, .rs 4), (17, .ptr 5 0), (18, .int .i64 x1.2.2.1)], [.cells [.fz Riii x1.2.2.2.1], .cells [.int .i64 x1.2.2.2.2.1, .int .i64 x1.2.2.2.2.2.1], .cells [.int .i64 x1.2.2.2.2.2.2.1, .int .i64 x1.2.2.2.2.2.2.2.1], .rows Ri x1.2.2.2.2.2.2.2.2.1, .rows Ri x1.2.2.2.2.2.2.2.2.2.1, .cells [.int .i64 x1.2.2.2.2.2.2.2.2.2.2.1, .int .i64 x1.2.2.2.2.2.2.2.2.2.2.2.1, .int .i64 x1.2.2.2.2.2.2.2.2.2.2.2.2]]⟩ : Int × Bool × Int × List Diii × Int × Int × Int × Int × List Di × List Di × Int × Int × Int → St)) (fun _ => rfl) ?_ d _ h
      intro n1 x1 h K1 hn1
      replace h : law34_ChaseRanks_L1 d  (iter (law34_ChaseRanks_L1 d ) n1) x1 = some r := h
      generalize iter (law34_ChaseRanks_L1 d ) n1 = self1 at h hn1
      unfold law34_ChaseRanks_L1 at h
      refine run_seq ?_
      refine run_seq ?_
      refine run_reg hm hT hC (law34_ChaseRanks_g11 (law34_ChaseRanks_K d) x1) h ?_
      intro y11 h
      refine cn_then ?_
      refine run_cond (v := y11.2.2.2.1) (by kernel_rfl) h ?_ ?_
      ·
        intro h
        refine run_skip ?_
        refine cn_then ?_
        refine run_seq ?_
        refine run_block ?_
        refine run_seq ?_
        refine run_reg hm hT hC (law34_ChaseRanks_g13 (law34_ChaseRanks_K d) y11) h ?_
        intro y13 h
        refine cn_then ?_
        refine run_join (r := r) (F := law34_ChaseRanks_J2 d self1) (S := (fun z => ⟨[(1, .int .i64 z.1), (4, .ptr 0 0), (6, .ptr 1 0), (7, .ptr 2 0), (9, .bool z.2.1), (10, .rs 3), (11, .rs 4), (17, .ptr 5 0), (18, .int .i64 z.2.2.1), (19, .int .i64 z.2.2.2.1), (20, .bool z.2.2.2.2.1)], [.cells [.fz Riii z.2.2.2.2.2.1], .cells [.int .i64 z.2.2.2.2.2.2.1, .int .i64 z.2.2.2.2.2.2.2.1], .cells [.int .i64 z.2.2.2.2.2.2.2.2.1, .int .i64 z.2.2.2.2.2.2.2.2.2.1], .rows Ri z.2.2.2.2.2.2.2.2.2.2.1, .rows Ri z.2.2.2.2.2.2.2.2.2.2.2.1, .cells [.int .i64 z.2.2.2.2.2.2.2.2.2.2.2.2.1, .int .i64 z.2.2.2.2.2.2.2.2.2.2.2.2.2.1, .int .i64 z.2.2.2.2.2.2.2.2.2.2.2.2.2.2]]⟩ : Int × Bool × Int × Int × Bool × List Diii × Int × Int × Int × Int × List Di × List Di × Int × Int × Int → St)) ?_ ?_
        ·
          intro z h
          unfold law34_ChaseRanks_J2 at h
          refine run_seq ?_
          refine run_reg hm hT hC (law34_ChaseRanks_g17 (law34_ChaseRanks_K d) z) h ?_
          intro y17 h
          refine cn_then ?_
          refine run_seq ?_
          refine run_seq ?_
          refine run_reg hm hT hC (law34_ChaseRanks_g18 (law34_ChaseRanks_K d) y17) h ?_
          intro y18 h
          refine cn_then ?_
          refine run_cond (v := y18.2.2.2.2.2.1) (by kernel_rfl) h ?_ ?_
          ·
            intro h
            refine run_seq ?_
            refine run_reg hm hT hC (law34_ChaseRanks_g19 (law34_ChaseRanks_K d) y18) h ?_
            intro y19 h
            refine cn_then ?_
            refine run_ret ?_
            refine cn_then_ret ?_
            refine cn_blk_ret ?_
            refine cn_then_ret ?_
            refine cn_then_ret ?_
            refine cn_blk_ret ?_
            refine cn_then_ret ?_
            cases h
            exact (hend _ (by kernel_rfl)).2
          ·
            intro h
            refine run_skip ?_
            refine cn_then ?_
            refine run_seq ?_
            refine run_reg hm hT hC (law34_ChaseRanks_g20 (law34_ChaseRanks_K d) y18) h ?_
            intro y20 h
            refine cn_then ?_
            refine run_seq ?_
            refine run_reg hm hT hC (law34_ChaseRanks_g21 (law34_ChaseRanks_K d) y20) h ?_
            intro y21 h
            refine cn_then ?_
            refine run_seq ?_
            refine run_reg hm hT hC (law34_ChaseRanks_g22 (law34_ChaseRanks_K d) y21) h ?_
            intro y22 h
            refine cn_then ?_
            refine run_cond (v := y22.2.2.2.1) (by kernel_rfl) h ?_ ?_
            ·
              intro h
              refine run_seq ?_
              refine run_reg hm hT hC (law34_ChaseRanks_g23 (law34_ChaseRanks_K d) y22) h ?_
              intro y23 h
              refine cn_then ?_
              refine run_ret ?_
              refine cn_blk_ret ?_
              refine cn_then_ret ?_
              refine cn_then_ret ?_
              refine cn_blk_ret ?_
              refine cn_then_ret ?_
              cases h
              exact (hend _ (by kernel_rfl)).2
            ·
              intro h
              refine run_skip ?_
              refine cn_blk ?_
              refine cn_then ?_
              refine run_reg hm hT hC (law34_ChaseRanks_g12 (law34_ChaseRanks_K d) y22) h ?_
              intro y12 h
              exact hn1 _ h
        intro hj2
        refine run_seq ?_
        refine run_reg hm hT hC (law34_ChaseRanks_g14 (law34_ChaseRanks_K d) y13) h ?_
        intro y14 h
        refine cn_then ?_
        refine run_cond (v := y14.2.2.2.2.1) (by kernel_rfl) h ?_ ?_
        ·
          intro h
          refine run_reg hm hT hC (law34_ChaseRanks_g15 (law34_ChaseRanks_K d) y14) h ?_
          intro y15 h
          exact hj2 _ h
        ·
          intro h
          refine run_reg hm hT hC (law34_ChaseRanks_g16 (law34_ChaseRanks_K d) y14) h ?_
          intro y16 h
          exact hj2 _ h
      ·
        intro h
        refine run_exit ?_
        refine cn_then_exit ?_
        refine cn_then_exit ?_
        refine cn_blk_eq ?_
        refine cn_then ?_
        refine run_seq ?_
        refine run_reg hm hT hC (law34_ChaseRanks_g24 (law34_ChaseRanks_K d) y11) h ?_
        intro y24 h
        refine cn_then ?_
        refine run_ret ?_
        cases h
        exact (hend _ (by kernel_rfl)).2
end Go.Proofs.Ytmagihjfbembjaa

namespace Go.Proofs.Ytmagihjfbembjaa
open Go Go.Tx Go.Pel
theorem countP_sum {α : Type} {b1 b2 b3 b4 : α → Bool} : ∀ {l : List α}, (∀ q ∈ l, (b1 q).toNat + (b2 q).toNat = (b3 q).toNat + (b4 q).toNat) → l.countP b1 + l.countP b2 = l.countP b3 + l.countP b4
  | [], _ => rfl
  | q :: l, h => by
    have h1 := h q (List.mem_cons_self ..)
    have h2 := countP_sum (l := l) fun q hq => h q (List.mem_cons_of_mem _ hq)
    rw [List.countP_cons, List.countP_cons, List.countP_cons, List.countP_cons]
    have e : ∀ b : Bool, (if b = true then 1 else 0) = b.toNat := fun b => by cases b <;> rfl
    rw [e, e, e, e]
    omega
theorem leads_chV {p q : T3} (hp : okP p) (hq : okP q) (hb : p.2.2.1 ≠ q.2.2.1) (n dd : Int) : leads (ofP p) (ofP q) n dd = (if q.2.2.1 < p.2.2.1 then !gtM n dd (chV p q) else gtM n dd (chV p q)) :=
  leads_mt (x := (p, q)) hp hq (pairM_mt hb)
theorem fast_chV {l : List T3} (h : FldOk l) {p q : T3} (hq : q ∈ l) (hi : q.1 ≠ p.1) : fastC l p (chV p q) = decide (p.2.2.1 > q.2.2.1) := by
  unfold fastC
  rw [oth_chV hi, find_mem h hq]
theorem chL_gt_pw {l : List T3} (h : FldOk l) {p : T3} (hp : okP p) {n dd n' dd' : Int} (hd' : 1 ≤ dd') : (chL l p n dd).Pairwise fun a b => gtM n' dd' a = true → gtM n' dd' b = true := by
  refine (List.Pairwise.and_mem.1 (chL_pw h hp (n := n) (dd := dd))).imp fun {a b} ⟨ha, hb, hab⟩ hg => ?_
  have o1 := (ratioChk_zero ((chL_ok h hp a ha).1.w.ok)).1
  have o2 := (ratioChk_zero ((chL_ok h hp b hb).1.w.ok)).1
  have hn : ¬ b.1 * a.2.1 < a.1 * b.2.1 := fun k => by
    have := (ltC_iff p.1 b a).2 (.inl k)
    rw [this] at hab; cases hab
  rw [gtM_iff] at hg ⊢
  exact q_lt hd' o1 o2 hg (by omega)
/-- the meetings up to a time -/
theorem cut_filter {l : List T3} (h : FldOk l) {p : T3} (hp : okP p) {n dd n' dd' : Int} (hd' : 1 ≤ dd') : (chL l p n dd).take (cutC n' dd' (chL l p n dd)) = (chL l p n dd).filter fun x => !gtM n' dd' x :=
  (filter_dn (chL_gt_pw h hp hd')).symm
theorem part_len {l : List T3} (h : FldOk l) {p : T3} (hp : okP p) {n dd n' dd' : Int} (hd' : 1 ≤ dd') : (partC l p ((chL l p n dd).take (cutC n' dd' (chL l p n dd)))).1.length = l.countP (fun q => anyO (fun x => fastC l p x && !gtM n' dd' x) (chM p n dd q)) ∧
    (partC l p ((chL l p n dd).take (cutC n' dd' (chL l p n dd)))).2.length = l.countP (fun q => anyO (fun x => !fastC l p x && !gtM n' dd' x) (chM p n dd q)) := by
  rw [cut_filter h hp hd']
  unfold partC
  simp only [List.length_map]
  rw [← List.countP_eq_length_filter, ← List.countP_eq_length_filter, List.countP_filter, List.countP_filter, (chL_perm l p n dd).countP_eq, (chL_perm l p n dd).countP_eq, countP_fm, countP_fm]
  exact ⟨rfl, rfl⟩
theorem rank_move {l : List T3} (h : FldOk l) {p : T3} (hp : p ∈ l) {n dd n' dd' : Int} (hd : 1 ≤ dd) (hd' : 1 ≤ dd') (hle : leQ n dd n' dd') : rkN l p n dd + (partC l p ((chL l p n dd).take (cutC n' dd' (chL l p n dd)))).2.length = rkN l p n' dd' + (partC l p ((chL l p n dd).take (cutC n' dd' (chL l p n dd)))).1.length := by
  have hpo := h.ok p hp
  rw [(part_len h hpo hd').1, (part_len h hpo hd').2]
  unfold rkN
  refine countP_sum fun q hq => ?_
  have hqo := h.ok q hq
  by_cases hi : q.1 = p.1
  · have e := ids_eq h hq hp hi
    subst e
    have hc : chM q n dd q = none := by unfold chM; rw [if_pos rfl]
    rw [hc, leads_self, leads_self]; rfl
  · by_cases hb : p.2.2.1 = q.2.2.1
    · have hc : chM p n dd q = none := by unfold chM; rw [if_neg hi, if_pos hb]
      rw [hc, leads_same hb.symm hd hd']; rfl
    · have hv := chV_ok hpo hqo hi hb
      have k1 := leads_chV hpo hqo hb n dd
      have k2 := leads_chV hpo hqo hb n' dd'
      have hne : (ofP p).id ≠ (ofP q).id := fun e => hi (by show q.1 = p.1; exact e.symm)
      have a1 := leads_asym (p := ofP p) (q := ofP q) (n := n) (d := dd) hne
      have a2 := leads_asym (p := ofP p) (q := ofP q) (n := n') (d := dd') hne
      rw [a1, a2, k1, k2]
      have hf := fast_chV h hq hi
      have hmono : gtM n' dd' (chV p q) = true → gtM n dd (chV p q) = true := gtM_le hd hd' hle hv.w.ok
      unfold chM
      rw [if_neg hi, if_neg hb]
      cases hg : gtM n dd (chV p q) with
      | false =>
        have hg' : gtM n' dd' (chV p q) = false := by
          cases hx : gtM n' dd' (chV p q) with
          | false => rfl
          | true => rw [hmono hx] at hg; cases hg
        rw [hg', if_neg (show ¬ (false = true) by decide)]
        rfl
      | true =>
        rw [if_pos rfl]
        show _ = _
        simp only [anyO, hf]
        by_cases hs : q.2.2.1 < p.2.2.1
        · simp only [hs, if_true, gt_iff_lt, decide_true]
          cases gtM n' dd' (chV p q) <;> rfl
        · simp only [hs, if_false, gt_iff_lt, decide_false]
          cases gtM n' dd' (chV p q) <;> rfl
/-- the other points of a part -/
theorem part_mem {l : List T3} (h : FldOk l) {p : T3} (hp : p ∈ l) {n dd n' dd' : Int} (won : Bool) {u : Di} (hu : u ∈ bif won then (partC l p ((chL l p n dd).take (cutC n' dd' (chL l p n dd)))).1 else (partC l p ((chL l p n dd).take (cutC n' dd' (chL l p n dd)))).2) :
    ∃ q ∈ l, u = (q.1, ()) ∧ q.1 ≠ p.1 ∧ leads (ofP p) (ofP q) n dd = !won ∧ leads (ofP p) (ofP q) n' dd' = won := by
  have key : ∃ x, x ∈ (chL l p n dd).take (cutC n' dd' (chL l p n dd)) ∧ fastC l p x = won ∧ u = othU p x := by
    unfold partC at hu
    cases won with
    | true =>
      obtain ⟨x, hx, e⟩ := List.mem_map.1 hu
      obtain ⟨h1, h2⟩ := List.mem_filter.1 hx
      exact ⟨x, h1, h2, e.symm⟩
    | false =>
      obtain ⟨x, hx, e⟩ := List.mem_map.1 hu
      obtain ⟨h1, h2⟩ := List.mem_filter.1 hx
      exact ⟨x, h1, by simpa using h2, e.symm⟩
  obtain ⟨x, hx, hf, hu2⟩ := key
  have hxL := List.mem_of_mem_take hx
  have hg' : gtM n' dd' x = false := by
    obtain ⟨j, hj, rfl⟩ := List.mem_iff_getElem.1 hx
    have hj2 : j < cutC n' dd' (chL l p n dd) := by rw [List.length_take] at hj; omega
    rw [List.getElem_take]
    have := List.not_of_lt_findIdx (p := gtM n' dd') (xs := chL l p n dd) hj2
    simpa using this
  obtain ⟨q, hq, hc⟩ := chL_mem.1 hxL
  obtain ⟨_, hg, rfl, hi, hb⟩ := chM_ok (h.ok p hp) (h.ok q hq) hc
  rw [fast_chV h hq hi] at hf
  refine ⟨q, hq, by rw [hu2]; unfold othU; rw [oth_chV hi], hi, ?_, ?_⟩
  · rw [leads_chV (h.ok p hp) (h.ok q hq) hb, hg, ← hf]
    by_cases hs : q.2.2.1 < p.2.2.1
    · simp [hs]
    · simp [hs]
  · rw [leads_chV (h.ok p hp) (h.ok q hq) hb, hg', ← hf]
    by_cases hs : q.2.2.1 < p.2.2.1
    · simp [hs]
    · simp [hs]
theorem lrank_loop (d : Nat) {l : List T3} (h : FldOk l) {p : T3} (hp : p ∈ l) {n dd n' dd' : Int} (hn : i64B n = true) (hdd : i64B dd = true) (hn' : i64B n' = true) (hd' : i64B dd' = true) (hr : ratioChk n dd = 0) (hr' : ratioChk n' dd' = 0) {X Y : List Di} (hX : X.length ≤ 1000) (hY : Y.length ≤ 1000)
    (h1 : ∀ u ∈ X, ∃ q ∈ l, u = (q.1, ()) ∧ q.1 ≠ p.1 ∧ leads (ofP p) (ofP q) n dd = false ∧ leads (ofP p) (ofP q) n' dd' = true) (h2 : ∀ u ∈ Y, ∃ q ∈ l, u = (q.1, ()) ∧ q.1 ≠ p.1 ∧ leads (ofP p) (ofP q) n dd = true ∧ leads (ofP p) (ofP q) n' dd' = false) : ∀ (f i : Nat), X.length + Y.length - i < f →
    iter (law34_ChaseRanks_L1 d) f (p.1, true, (i : Int), l, n, dd, n', dd', X, Y, p.1, p.2.1, p.2.2.1) = some true
  | 0, i, hf => by omega
  | f + 1, i, hf => by
    have hl64 := h.len
    have ih := lrank_loop d h hp hn hdd hn' hd' hr hr' hX hY h1 h2 f (i + 1)
    rw [iter]
    revert ih
    generalize iter (law34_ChaseRanks_L1 d) f = self
    intro ih
    unfold law34_ChaseRanks_L1 law34_ChaseRanks_J2
    have w1 : IntKind.wrap .i64 ((X.length : Int) + (Y.length : Int)) = ((X.length + Y.length : Nat) : Int) := by rw [IntWalk.i64_in _ (by omega)]; omega
    have b0 : ((0 : Int) != 0) = false := rfl
    by_cases hlt : i < X.length + Y.length
    · have wi := wrap_succ (show i < 1000000 by omega)
      have hpo := h.ok p hp
      by_cases hx : i < X.length
      · obtain ⟨u, hu⟩ : ∃ u, X[i]? = some u := ⟨_, List.getElem?_eq_getElem hx⟩
        obtain ⟨q, hq, rfl, hi, k1, k2⟩ := h1 u (List.mem_of_getElem? hu)
        obtain ⟨j, hj1, hj2⟩ := atL_has h hq
        have jl := (List.getElem?_eq_some_iff.1 hj1).1
        have e1 := rAt_eq d (l := l) (by omega) q.1
        rw [hj2] at e1
        have e2 := mAhead_eq d hpo (h.ok q hq) (Ne.symm hi) hn hdd hr
        have e3 := mAhead_eq d hpo (h.ok q hq) (Ne.symm hi) hn' hd' hr'
        rw [k1] at e2
        rw [k2] at e3
        have c1 : decide ((j : Int) < 0) = false := decide_eq_false (by omega)
        have c2 : (q.1 == p.1) = false := by simpa using hi
        simp only [law34_ChaseRanks_r11, law34_ChaseRanks_r12, law34_ChaseRanks_r13, law34_ChaseRanks_r14, law34_ChaseRanks_r15, law34_ChaseRanks_r16, law34_ChaseRanks_r17, law34_ChaseRanks_r18, law34_ChaseRanks_r19, law34_ChaseRanks_r20, law34_ChaseRanks_r21, law34_ChaseRanks_r22, law34_ChaseRanks_r23, law34_ChaseRanks_K, Dt.eval, w1, dec_lt hlt, dec_lt hx, cond_true, inB_of hx, elt_some hu, e1, c1, cond_false, c2, inB_of jl, elt_some hj1, e2, e3, b0, show (true == true) = true from rfl, show (false == true) = false from rfl, Bool.not_true, wi]
        exact ih (by omega)
      · have wk : IntKind.wrap .i64 ((i : Int) - (X.length : Int)) = ((i - X.length : Nat) : Int) := by rw [IntWalk.i64_in _ (by omega)]; omega
        have hy : i - X.length < Y.length := by omega
        obtain ⟨u, hu⟩ : ∃ u, Y[i - X.length]? = some u := ⟨_, List.getElem?_eq_getElem hy⟩
        obtain ⟨q, hq, rfl, hi, k1, k2⟩ := h2 u (List.mem_of_getElem? hu)
        obtain ⟨j, hj1, hj2⟩ := atL_has h hq
        have jl := (List.getElem?_eq_some_iff.1 hj1).1
        have e1 := rAt_eq d (l := l) (by omega) q.1
        rw [hj2] at e1
        have e2 := mAhead_eq d hpo (h.ok q hq) (Ne.symm hi) hn hdd hr
        have e3 := mAhead_eq d hpo (h.ok q hq) (Ne.symm hi) hn' hd' hr'
        rw [k1] at e2
        rw [k2] at e3
        have c1 : decide ((j : Int) < 0) = false := decide_eq_false (by omega)
        have c2 : (q.1 == p.1) = false := by simpa using hi
        simp only [law34_ChaseRanks_r11, law34_ChaseRanks_r12, law34_ChaseRanks_r13, law34_ChaseRanks_r14, law34_ChaseRanks_r15, law34_ChaseRanks_r16, law34_ChaseRanks_r17, law34_ChaseRanks_r18, law34_ChaseRanks_r19, law34_ChaseRanks_r20, law34_ChaseRanks_r21, law34_ChaseRanks_r22, law34_ChaseRanks_r23, law34_ChaseRanks_K, Dt.eval, w1, dec_lt hlt, dec_nlt hx, cond_true, wk, inB_of hy, elt_some hu, e1, c1, cond_false, c2, inB_of jl, elt_some hj1, e2, e3, b0, show (false == false) = true from rfl, show (true == false) = false from rfl, Bool.not_true, wi]
        exact ih (by omega)
    · simp only [law34_ChaseRanks_r11, law34_ChaseRanks_r12, law34_ChaseRanks_r13, law34_ChaseRanks_r14, law34_ChaseRanks_r15, law34_ChaseRanks_r16, law34_ChaseRanks_r17, law34_ChaseRanks_r18, law34_ChaseRanks_r19, law34_ChaseRanks_r20, law34_ChaseRanks_r21, law34_ChaseRanks_r22, law34_ChaseRanks_r23, law34_ChaseRanks_r24, law34_ChaseRanks_K, Dt.eval, w1, dec_nlt hlt, cond_false]
theorem cranks_plain (d : Nat) (hd : 5000 ≤ d) (ea : F_law34_alive d () = some true) (l : List T3) (id n dd n' dd' : Int) (hn : i64B n = true) (hdd : i64B dd = true) (hn' : i64B n' = true) (hd' : i64B dd' = true) : F_law34_ChaseRanks d ((l, ()), (id, ()), (n, dd, ()), (n', dd', ()), ()) = some true := by
  obtain ⟨b, e0, hb⟩ := casked_eq d l id hn hdd
  cases b with
  | false => simp only [F_law34_ChaseRanks, law34_ChaseRanks_K, law34_ChaseRanks_r0, law34_ChaseRanks_r1, law34_ChaseRanks_r2, law34_ChaseRanks_r3, Dt.eval, ea, e0, Bool.not_false, cond_true]
  | true =>
    obtain ⟨hs, a, h0, c, hh⟩ := hb rfl
    have e1 := rTimes_eq d l hn hdd hn' hd'
    by_cases hc : chk2 l n dd n' dd' = 0
    · obtain ⟨_, _, r2, hle⟩ := chk2_zero hc
      obtain ⟨p, hp, rfl⟩ := hasL_iff.1 hh
      have e2 := (caught_eq d hd hs p.1 hn hdd hn' hd').1
      have hcmp : ¬ 0 < cmpQ n dd n' dd' := (leQ_iff ..).1 hle
      have hV : caughtV l p.1 n dd n' dd' = ((partC l p ((chL l p n dd).take (cutC n' dd' (chL l p n dd)))).1, (partC l p ((chL l p n dd).take (cutC n' dd' (chL l p n dd)))).2, 0) := by
        unfold caughtV
        rw [if_neg (by simpa using h0), if_neg (by simp [c, r2]), if_neg hcmp, find_mem a hp]
      obtain ⟨k1, k2⟩ := caughtV_len hs.1 p.1 n dd n' dd'
      rw [hV] at e2 k1 k2
      have hmove := rank_move a hp (ratioChk_zero c).1 (ratioChk_zero r2).1 hle
      have m1 := fun u => part_mem a hp (n := n) (dd := dd) (n' := n') (dd' := dd') true (u := u)
      have m2 := fun u => part_mem a hp (n := n) (dd := dd) (n' := n') (dd' := dd') false (u := u)
      have e3 := rank_has d (by omega) a h0 hp hn hdd c
      have e4 := rank_has d (by omega) a h0 hp hn' hd' r2
      have q1 : rkN l p n dd ≤ 64 := Nat.le_trans List.countP_le_length a.len
      have e5 := rAt_eq d hs.1 p.1
      obtain ⟨i, hi1, hi2⟩ := atL_has a hp
      have il := (List.getElem?_eq_some_iff.1 hi1).1
      rw [hi2] at e5
      have b0 : ((0 : Int) != 0) = false := rfl
      simp only at k1 k2 hmove m1 m2
      generalize (partC l p ((chL l p n dd).take (cutC n' dd' (chL l p n dd)))).1 = X at *
      generalize (partC l p ((chL l p n dd).take (cutC n' dd' (chL l p n dd)))).2 = Y at *
      have e6 := lrank_loop d a hp hn hdd hn' hd' c r2 (X := X) (Y := Y) k1 k2 (fun u hu => m1 u hu) (fun u hu => m2 u hu) d 0 (by omega)
      have w1 : IntKind.wrap .i64 (IntKind.wrap .i64 ((rkN l p n dd : Int) - (X.length : Int)) + (Y.length : Int)) = (rkN l p n' dd' : Int) := by
        rw [IntWalk.i64_in ((rkN l p n dd : Int) - (X.length : Int)) (by omega), IntWalk.i64_in _ (by omega)]; omega
      simp only [F_law34_ChaseRanks, law34_ChaseRanks_K, law34_ChaseRanks_r0, law34_ChaseRanks_r1, law34_ChaseRanks_r2, law34_ChaseRanks_r3, law34_ChaseRanks_r4, law34_ChaseRanks_r5, law34_ChaseRanks_r6, law34_ChaseRanks_r7, law34_ChaseRanks_r8, law34_ChaseRanks_r9, law34_ChaseRanks_r10, Dt.eval, ea, e0, e1, e2, e3, e4, e5, hc, b0, cond_false, Bool.not_true, w1, bne_self_eq_false, inB_of il, elt_some hi1, cond_true]
      exact e6
    · simp only [F_law34_ChaseRanks, law34_ChaseRanks_K, law34_ChaseRanks_r0, law34_ChaseRanks_r1, law34_ChaseRanks_r2, law34_ChaseRanks_r3, Dt.eval, ea, e0, e1, Bool.not_true, cond_false, show (chk2 l n dd n' dd' != 0) = true by simpa using hc, cond_true]
end Go.Proofs.Ytmagihjfbembjaa

namespace Go
open Go.ChangeShapes Go.WideShapes Go.ChangeAt Go.RowKit
section
variable {H : Type} {enc : TypeId × Value → H} {P : Program} {w : World} {base : Nat} {spare : Nat → Bool} {held : Bool}
/-- a field of a struct -/
theorem field_at {t : TypeId} {fs : Array Field} {fuel : Nat} {cs : List Value} {x : DataW H × List MemPlace} (hs : P.underlying t = some (.struct fs)) (h : DataW.trod enc P w base spare held fuel t cs = some x)
    {i : Nat} {f : Field} (hf : fs[i]? = some f) {off n : Nat} {ft : TypeId} (ho : f.offset = off) (ht : f.type = ft) (hn : P.cellsOf ft = n) : ∃ m y, DataW.trod enc P w base spare held m ft ((cs.drop off).take n) = some y := by
  obtain ⟨xs, m, _, _, _, hlen, hg⟩ := DataW.trod_struct hs h
  have h1 := hg i f hf
  subst ho ht hn
  have hi : i < xs.length := by rw [hlen]; exact (Array.getElem?_eq_some_iff.1 hf).1
  exact ⟨m, xs[i], by rw [h1, List.getElem?_eq_getElem hi]⟩
theorem int_cell {t : TypeId} {k : IntKind} {fuel : Nat} {cs : List Value} {x : DataW H × List MemPlace} (ht : P.underlying t = some (.int k)) (h : DataW.trod enc P w base spare held fuel t cs = some x) : ∃ n, cs = [.int k n] ∧ (Lit.int k n).wf = true := by
  obtain ⟨n, h1, _, h2⟩ := DataW.trod_int ht h; exact ⟨n, h1, h2⟩
theorem wf_i64 {n : Int} (h : (Lit.int .i64 n).wf = true) : -9223372036854775808 ≤ n ∧ n ≤ 9223372036854775807 := bounds_i64 h
end
end Go
namespace Go.Proofs.Ytmagihjfbembjaa
open Go.ChangeShapes Go.WideShapes Go.ChangeAt Go.RowKit
theorem ownKnob_ : ownKnob Try.prog.godebug = none := by kernel_rfl
theorem laidOut_ : laidOutB Try.prog = true := by kernel_rfl
end Go.Proofs.Ytmagihjfbembjaa

namespace Go
open Go.ChangeShapes Go.WideShapes Go.ChangeAt Go.RowKit Go.Deep
theorem choose_below {α : Type} {p : Nat → α → Prop} : ∀ n : Nat, (∀ i, i < n → ∃ v, p i v) → ∃ l : List α, l.length = n ∧ ∀ (i : Nat) (x : α), l[i]? = some x → p i x
  | 0, _ => ⟨[], rfl, fun i x h => by simp at h⟩
  | n + 1, h => by
    obtain ⟨l, hl, hp⟩ := choose_below n fun i hi => h i (by omega)
    obtain ⟨v, hv⟩ := h n (by omega)
    refine ⟨l ++ [v], by simp [hl], fun i x hx => ?_⟩
    rcases Nat.lt_or_ge i n with hi | hi
    · rw [List.getElem?_append_left (by omega)] at hx; exact hp i x hx
    · rw [List.getElem?_append_right (by omega)] at hx
      have : i = n := by
        have := (List.getElem?_eq_some_iff.1 hx).1
        simp at this; omega
      subst this
      simp [hl] at hx
      subst hx; exact hv
theorem flat_get {α : Type} {cells : α → List Value} {k : Nat} (hk : ∀ a, (cells a).length = k) (h0 : 0 < k) : ∀ (l : List α) (j : Nat) (u : Value), (l.flatMap cells)[j]? = some u → ∃ x, l[j / k]? = some x ∧ (cells x)[j % k]? = some u
  | [], j, u, h => by simp at h
  | x :: l, j, u, h => by
    rw [List.flatMap_cons] at h
    rcases Nat.lt_or_ge j k with hj | hj
    · rw [List.getElem?_append_left (by rw [hk]; exact hj)] at h
      rw [Nat.div_eq_of_lt hj, Nat.mod_eq_of_lt hj]
      exact ⟨x, rfl, h⟩
    · rw [List.getElem?_append_right (by rw [hk]; exact hj), hk] at h
      obtain ⟨y, hy, hu⟩ := flat_get hk h0 l (j - k) u h
      obtain ⟨m, rfl⟩ : ∃ m, j = m + k := ⟨j - k, by omega⟩
      rw [Nat.add_sub_cancel] at hy hu
      rw [Nat.add_div_right _ h0, Nat.add_mod_right]
      exact ⟨y, by simpa using hy, hu⟩
theorem flat_len {α : Type} {cells : α → List Value} {k : Nat} (hk : ∀ a, (cells a).length = k) (l : List α) : (l.flatMap cells).length = l.length * k := by
  induction l with
  | nil => simp
  | cons x l ih => rw [List.flatMap_cons, List.length_append, ih, hk, List.length_cons, Nat.add_mul]; omega
section
variable {H : Type} {enc : TypeId × Value → H} {P : Program} {w : World} {base : Nat} {held : Bool}
theorem arg_nil {t e : TypeId} {fuel : Nat} {A : Option Addr} {n c : Nat} {x : DataW H × List MemPlace} (ht : P.underlying t = some (.slice e))
    (h : DataW.trod enc P w base (fun _ => true) held fuel t [Value.slice A n c] = some x) : A = none → c = 0 := by
  rcases open_slice ht h with ⟨hcs, _⟩ | ⟨a, len, cap, m, q, D, Pl, hcs, _⟩
  · simp only [List.cons.injEq, and_true] at hcs
    injection hcs with h1 h2 h3
    intro _; exact h3
  · simp only [List.cons.injEq, and_true] at hcs
    injection hcs with h1 h2 h3
    subst h1; intro h; cases h
/-- A slice that came in: the list of its elements. -/
theorem arg_slice {α : Type} (cells : α → List Value) (ok : α → Prop) {t e : TypeId} {k fuel : Nat} {A : Option Addr} {n c : Nat} {x : DataW H × List MemPlace}
    (ht : P.underlying t = some (.slice e)) (hC : P.cellsOf e = k) (h0 : 0 < k) (hk : ∀ a, (cells a).length = k)
    (hR : ∀ (m : Nat) (l : List Value) (y : DataW H × List MemPlace), DataW.trod enc P w base (fun _ => true) held m e l = some y → l.length = k → ∃ a, l = cells a ∧ ok a)
    (h : DataW.trod enc P w base (fun _ => true) held fuel t [Value.slice A n c] = some x) :
    ∃ l : List α, l.length = n ∧ Sl w k A l.length c (l.flatMap cells) ∧ (∀ a ∈ l, ok a) ∧ (A = none → c = 0) ∧ c ≤ maxLen := by
  rcases open_slice ht h with ⟨hcs, _⟩ | ⟨a, len, cap, m, q, D, Pl, hcs, _, hl, hmx, hm, _, hi⟩
  · simp only [List.cons.injEq, and_true] at hcs
    injection hcs with h1 h2 h3
    subst h1 h2 h3
    exact ⟨[], rfl, Sl.nil_ _ _ _ _, (fun _ h => by cases h), (fun _ => rfl), Nat.zero_le _⟩
  · simp only [List.cons.injEq, and_true] at hcs
    injection hcs with h1 h2 h3
    subst h1 h2 h3
    simp only [if_true] at hm
    subst hm
    obtain ⟨l, hll, hp⟩ := choose_below (α := α) (p := fun i v => (∀ j u, (cells v)[j]? = some u → w.cell? (a.add (i * k + j)) = some u) ∧ ok v) n (fun i hin => by
      obtain ⟨cs', hc, ht'⟩ := hi i (by omega)
      rw [hC] at hc
      obtain ⟨_, hcl, hat⟩ := World.cells?_some hc
      obtain ⟨v, rfl, hv⟩ := hR _ _ _ ht' hcl
      refine ⟨v, fun j u hu => ?_, hv⟩
      have hj : j < k := by rw [← hk v]; exact (List.getElem?_eq_some_iff.1 hu).1
      rw [← Go.Deep.add_add, hat j hj, hu])
    refine ⟨l, hll, ⟨by omega, by rw [flat_len hk, hll], fun hn => ?_⟩, fun v hv => ?_, (fun h => by cases h), hmx⟩
    · obtain ⟨v0, hv0⟩ : ∃ v, l[0]? = some v := ⟨_, List.getElem?_eq_getElem (by omega)⟩
      obtain ⟨u0, hu0⟩ : ∃ u, (cells v0)[0]? = some u := ⟨_, List.getElem?_eq_getElem (by rw [hk]; exact h0)⟩
      have hc0 := (hp 0 v0 hv0).1 0 u0 hu0
      obtain ⟨b, o, spot⟩ := a
      have hspot : spot = none := by simpa [Addr.add] using World.cell?_spot hc0
      subst hspot
      refine ⟨b, o, rfl, ?_, fun j u hu => ?_⟩
      · have hb := World.block_lt_of_cell? w _ hc0
        simpa [Addr.add] using hb
      · obtain ⟨v, hv, huv⟩ := flat_get hk h0 l j u hu
        have h1 := (hp _ v hv).1 _ u huv
        have e0 : j / k * k + j % k = j := by rw [Nat.mul_comm]; exact Nat.div_add_mod j k
        rw [e0] at h1
        have e1 : (⟨b, o, none⟩ : Addr).add j = ⟨b, o + j, none⟩ := by
          unfold Addr.add; split
          · rename_i h0; rw [h0]; rfl
          · rfl
        rw [e1] at h1; exact h1
    · obtain ⟨i, hi'⟩ := List.getElem?_of_mem hv
      exact (hp i v hi').2
end
end Go

namespace Go.Proofs.Ytmagihjfbembjaa
open Go.ChangeShapes Go.WideShapes Go.ChangeAt Go.RowKit Go.Pel Go.Deep
theorem list1 {α : Type} (l : List α) (h : l.length = 1) : ∃ a, l = [a] := by
  match l, h with
  | [a], _ => exact ⟨a, rfl⟩
theorem list2 {α : Type} (l : List α) (h : l.length = 2) : ∃ a b, l = [a, b] := by
  match l, h with
  | [a, b], _ => exact ⟨a, b, rfl⟩
theorem list3 {α : Type} (l : List α) (h : l.length = 3) : ∃ a b c, l = [a, b, c] := by
  match l, h with
  | [a, b, c], _ => exact ⟨a, b, c, rfl⟩
section
variable {H : Type} {enc : TypeId × Value → H} {w : World} {base : Nat} {spare : Nat → Bool} {held : Bool}
theorem cellsF_int : Try.prog.cellsOf 3 = 1 := by kernel_rfl
theorem cellsF_i64 : Try.prog.cellsOf 2 = 1 := by kernel_rfl
theorem cellsF_point : Try.prog.cellsOf 42 = 3 := by kernel_rfl
theorem cellsF_field : Try.prog.cellsOf 24 = 1 := by kernel_rfl
theorem cellsF_points : Try.prog.cellsOf 22 = 1 := by kernel_rfl
theorem point_cells {fuel : Nat} {l : List Value} {x : DataW H × List MemPlace} (h : DataW.trod enc Try.prog w base spare held fuel 42 l = some x) (hl : l.length = 3) :
    ∃ p : Pt, l = [.int .i64 p.id, .int .i64 p.a, .int .i64 p.b] ∧ p.Fits := by
  obtain ⟨c0, c1, c2, rfl⟩ := list3 l hl
  obtain ⟨m4, y4, h4⟩ := field_at Try.underlying42 h (i := 0) rfl rfl rfl cellsF_int
  obtain ⟨m5, y5, h5⟩ := field_at Try.underlying42 h (i := 1) rfl rfl rfl cellsF_i64
  obtain ⟨m6, y6, h6⟩ := field_at Try.underlying42 h (i := 2) rfl rfl rfl cellsF_i64
  obtain ⟨i, e4, w4⟩ := int_cell Try.underlying3 h4
  obtain ⟨a, e5, w5⟩ := int_cell Try.underlying2 h5
  obtain ⟨b, e6, w6⟩ := int_cell Try.underlying2 h6
  simp at e4 e5 e6
  subst e4 e5 e6
  exact ⟨⟨i, a, b⟩, rfl, ⟨wf_i64 w4, wf_i64 w5, wf_i64 w6⟩⟩
theorem point_read (fuel : Nat) (l : List Value) (x : DataW H × List MemPlace) (h : DataW.trod enc Try.prog w base spare held fuel 42 l = some x) (hl : l.length = 3) : ∃ p : Pt, l = p.cells ∧ p.Fits := point_cells h hl
theorem field_cells {fuel : Nat} {l : List Value} {x : DataW H × List MemPlace} (h : DataW.trod enc Try.prog w base (fun _ => true) held fuel 24 l = some x) (hl : l.length = 1) :
    ∃ (A : Option Addr) (c : Nat) (m : List Pt), l = [.slice A m.length c] ∧ Sl w 3 A m.length c (vp m) ∧ (A = none → c = 0) ∧ ∀ p ∈ m, p.Fits := by
  obtain ⟨c0, rfl⟩ := list1 l hl
  obtain ⟨m0, y0, h0⟩ := field_at Try.underlying24 h (i := 0) rfl rfl rfl cellsF_points
  have h0' : DataW.trod enc Try.prog w base (fun _ => true) held m0 22 [c0] = some y0 := by simpa using h0
  obtain ⟨A, n, c, rfl⟩ : ∃ A n c, c0 = Value.slice A n c := by
    rcases open_slice Try.underlying22 h0' with ⟨hcs, _⟩ | ⟨a, len, cap, m, q, D, Pl, hcs, _⟩
    · simp only [List.cons.injEq, and_true] at hcs; exact ⟨_, _, _, hcs⟩
    · simp only [List.cons.injEq, and_true] at hcs; exact ⟨_, _, _, hcs⟩
  have hn := arg_nil Try.underlying22 h0'
  obtain ⟨pts, rfl, hs, hok, _, _⟩ := arg_slice Pt.cells Pt.Fits Try.underlying22 cellsF_point (by decide) (fun _ => rfl) point_read h0'
  exact ⟨A, c, pts, rfl, hs, hn, hok⟩
theorem cellsF_ratio : Try.prog.cellsOf 36 = 2 := by kernel_rfl
theorem ratio_cells {fuel : Nat} {l : List Value} {x : DataW H × List MemPlace} (h : DataW.trod enc Try.prog w base spare held fuel 36 l = some x) (hl : l.length = 2) :
    ∃ n d : Int, l = [.int .i64 n, .int .i64 d] ∧ (-9223372036854775808 ≤ n ∧ n ≤ 9223372036854775807) ∧ (-9223372036854775808 ≤ d ∧ d ≤ 9223372036854775807) := by
  obtain ⟨c0, c1, rfl⟩ := list2 l hl
  obtain ⟨m4, y4, h4⟩ := field_at Try.underlying36 h (i := 0) rfl rfl rfl cellsF_i64
  obtain ⟨m5, y5, h5⟩ := field_at Try.underlying36 h (i := 1) rfl rfl rfl cellsF_i64
  obtain ⟨n, e4, w4⟩ := int_cell Try.underlying2 h4
  obtain ⟨d, e5, w5⟩ := int_cell Try.underlying2 h5
  simp at e4 e5
  subst e4 e5
  exact ⟨n, d, rfl, wf_i64 w4, wf_i64 w5⟩
end
end Go.Proofs.Ytmagihjfbembjaa
