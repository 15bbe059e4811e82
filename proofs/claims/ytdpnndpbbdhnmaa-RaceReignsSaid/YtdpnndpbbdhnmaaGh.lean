/- Walks of the references; the orders agree; examples. -/
import Derived.Test.YtdpnndpbbdhnmaaGg
set_option linter.unusedSimpArgs false
set_option linter.unusedVariables false
namespace Go.Pel
open Go Go.Tx
abbrev T5 : Type := Int × Int × Int × Int × Int × Unit
/-- the reigns of a list of leads until a time -/
def reiL (t u : Int) : T3 → List T3 → List T5
  | x, [] => [(x.1, x.2.1, t, u, x.2.2.1, ())]
  | x, y :: r => if y.1 * u < t * y.2.1 then (x.1, x.2.1, y.1, y.2.1, x.2.2.1, ()) :: reiL t u y r else [(x.1, x.2.1, t, u, x.2.2.1, ())]
theorem reiL_len (t u : Int) : ∀ (x : T3) (r : List T3), (reiL t u x r).length ≤ r.length + 1
  | x, [] => by simp [reiL]
  | x, y :: r => by
    unfold reiL
    have := reiL_len t u y r
    split
    · rw [List.length_cons, List.length_cons]; omega
    · simp
/-- how many leads begin until a time -/
def lapN (t u : Int) (a : List T3) : Nat := a.countP fun x => !gtL t u x
theorem lapN_none {t u : Int} (hu : 1 ≤ u) {a : List T3} (h : a.Pairwise fun x y => gtL t u x = true → gtL t u y = true) {i : Nat} {x : T3} (hx : a[i]? = some x) (hg : gtL t u x = true) : lapN t u (a.drop i) = 0 := by
  unfold lapN
  rw [List.countP_eq_zero]
  intro y hy
  obtain ⟨hi, rfl⟩ := List.getElem?_eq_some_iff.1 hx
  obtain ⟨j, hj, rfl⟩ := List.mem_iff_getElem.1 hy
  rw [List.length_drop] at hj
  rw [List.getElem_drop]
  have : gtL t u a[i + j] = true := by
    rcases Nat.eq_zero_or_pos j with k | k
    · subst k; exact hg
    · exact (List.pairwise_iff_getElem.1 h) i (i + j) hi (by omega) (by omega) hg
  rw [this]; decide
end Go.Pel
namespace Go.Proofs.Ytdpnndpbbdhnmaa
open Go Go.Tx Go.Pel
theorem fChk_eq (d : Nat) (l : List T3) : F_field_Check d ((l, ()), ()) = some (fieldChk (ptsL l)) := F_field_Check_eq _ _ rfl
theorem r3Chk_eq (d : Nat) (l : List T3) : F_ref03_Check d ((l, ()), ()) = some (fieldChk (ptsL l)) := F_ref03_Check_eq _ _ rfl
theorem rcheck_eq (d : Nat) (l : List T3) {n dd t u : Int} (hn : i64B n = true) (hd : i64B dd = true) (ht : i64B t = true) (hu : i64B u = true) : F_race_check d ((l, ()), (n, dd, ()), (t, u, ()), ()) = some (chk2 l n dd t u) := by
  have e1 := fChk_eq d l
  have e2 := pChk_eq d hn hd
  have e3 := pChk_eq d ht hu
  have e4 := rCmp_eq d n dd t u hn hd ht hu
  have b0 : ((0 : Int) != 0) = false := rfl
  have b8 : ((8 : Int) != 0) = true := rfl
  unfold chk2
  simp only [F_race_check, race_check_K, race_check_r0, race_check_r1, race_check_r2, race_check_r3, race_check_r4, race_check_r5, race_check_r6, race_check_r7, race_check_r8, race_check_r9, Dt.eval, e1]
  by_cases h : fieldChk (ptsL l) = 0
  · simp only [h, b0, cond_false, ne_eq, not_true_eq_false, if_false, e2, Dt.eval]
    rcases ratioChk_08 n dd with h1 | h1
    · simp only [h1, b0, cond_false, not_true_eq_false, if_false, e3, Dt.eval]
      rcases ratioChk_08 t u with h2 | h2
      · have e5 : (cmpR n dd t u).1 = cmpQ n dd t u := by unfold cmpR; rw [if_pos ⟨h1, h2⟩]
        simp only [h2, b0, cond_false, not_true_eq_false, if_false, e4, e5, Dt.eval]
        by_cases h3 : 0 < cmpQ n dd t u
        · simp only [gt_iff_lt, h3, decide_true, cond_true, if_true]
        · simp only [gt_iff_lt, h3, decide_false, cond_false, if_false]
      · simp only [h2, b8, cond_true, show ¬ (8 : Int) = 0 by decide, not_false_eq_true, if_true]
    · simp only [h1, b8, cond_true, show ¬ (8 : Int) = 0 by decide, not_false_eq_true, if_true, Dt.eval]
  · have hb : (fieldChk (ptsL l) != 0) = true := by simpa using h
    simp only [hb, cond_true, ne_eq, h, not_false_eq_true, if_true]
theorem asked_eq (d : Nat) (l : List T3) {n dd t u : Int} (hn : i64B n = true) (hd : i64B dd = true) (ht : i64B t = true) (hu : i64B u = true) : F_ref24_Asked d ((l, ()), (n, dd, ()), (t, u, ()), ()) = some (chk2 l n dd t u) := by
  have e1 := r3Chk_eq d l
  have e2 := rBoth_eq d hn hd ht hu
  have e4 := rCompare_eq d n dd t u hn hd ht hu
  have b0 : ((0 : Int) != 0) = false := rfl
  have b8 : ((8 : Int) != 0) = true := rfl
  unfold chk2
  simp only [F_ref24_Asked, ref24_Asked_K, ref24_Asked_r0, ref24_Asked_r1, ref24_Asked_r2, ref24_Asked_r3, ref24_Asked_r4, ref24_Asked_r5, ref24_Asked_r6, ref24_Asked_r7, Dt.eval, e1]
  by_cases h : fieldChk (ptsL l) = 0
  · simp only [h, b0, cond_false, ne_eq, not_true_eq_false, if_false, e2, Dt.eval]
    rcases ratioChk_08 n dd with h1 | h1
    · simp only [h1, ne_eq, not_true_eq_false, if_false]
      rcases ratioChk_08 t u with h2 | h2
      · simp only [h2, b0, cond_false, not_true_eq_false, if_false, e4, Dt.eval]
        by_cases h3 : 0 < cmpQ n dd t u
        · simp only [gt_iff_lt, h3, decide_true, cond_true, if_true]
        · simp only [gt_iff_lt, h3, decide_false, cond_false, if_false]
      · simp only [h2, b8, cond_true, show ¬ (8 : Int) = 0 by decide, not_false_eq_true, if_true]
    · simp only [h1, ne_eq, b8, cond_true, show ¬ (8 : Int) = 0 by decide, not_false_eq_true, if_true, Dt.eval]
  · have hb : (fieldChk (ptsL l) != 0) = true := by simpa using h
    simp only [hb, cond_true, ne_eq, h, not_false_eq_true, if_true, Dt.eval, e1]
theorem less_eq (d : Nat) {n1 d1 n2 d2 : Int} (h1 : i64B n1 = true) (h2 : i64B d1 = true) (h3 : i64B n2 = true) (h4 : i64B d2 = true) (k1 : ratioChk n1 d1 = 0) (k2 : ratioChk n2 d2 = 0) : F_race_less d ((n1, d1, ()), (n2, d2, ()), ()) = some (decide (n1 * d2 < n2 * d1)) := by
  have e := rCmp_eq d n1 d1 n2 d2 h1 h2 h3 h4
  have e5 : (cmpR n1 d1 n2 d2).1 = cmpQ n1 d1 n2 d2 := by unfold cmpR; rw [if_pos ⟨k1, k2⟩]
  simp only [F_race_less, race_less_K, race_less_r0, race_less_r1, race_less_r2, Dt.eval, e, e5]
  refine congrArg some (?_ : decide ((cmpQ n1 d1 n2 d2 : Int) < (0 : Int)) = decide (n1 * d2 < n2 * d1))
  rcases cmpQ_tri n1 d1 n2 d2 with ⟨j1, j2⟩ | ⟨j1, j2⟩ | ⟨j1, j2⟩
  · rw [j1, decide_eq_true j2]; rfl
  · rw [j1, decide_eq_false (show ¬ n1 * d2 < n2 * d1 by omega)]; rfl
  · rw [j1, decide_eq_false (show ¬ n1 * d2 < n2 * d1 by omega)]; rfl
set_option maxHeartbeats 2000000 in
theorem rei_loop (d : Nat) {a : List T3} {t u : Int} (hb : bdL a) (hc : chkR none a = true) (hlen : a.length ≤ 1000) (ht : i64B t = true) (hu : i64B u = true) (hr : ratioChk t u = 0) : ∀ (f i : Nat) (x : T3) (pre : List T5), a.length - (i + 1) < f → a[i]? = some x → pre.length = i →
    iter (race_Reigns_L2 d) f ((a.length : Int), ((i + 1 : Nat) : Int), t, u, pre ++ [(x.1, x.2.1, t, u, x.2.2.1, ())], a) = some (pre ++ reiL t u x (a.drop (i + 1)), 0)
  | 0, i, x, pre, hf, _, _ => by omega
  | f + 1, i, x, pre, hf, hx, hpre => by
    have ih := fun x pre => rei_loop d hb hc hlen ht hu hr f (i + 1) x pre
    have hil := (List.getElem?_eq_some_iff.1 hx).1
    rw [iter]
    revert ih
    generalize iter (race_Reigns_L2 d) f = self
    intro ih
    unfold race_Reigns_L2
    by_cases hlt : i + 1 < a.length
    · obtain ⟨y, hy⟩ : ∃ y, a[i + 1]? = some y := ⟨_, List.getElem?_eq_getElem hlt⟩
      have hym := List.mem_of_getElem? hy
      obtain ⟨b1, b2⟩ := hb y hym
      have hyk := (okL_iff.1 ((chkR_pw hc).1 y hym)).1
      have e1 := less_eq d b1 b2 ht hu hyk hr
      rw [drop_of hy]
      unfold reiL
      simp only [race_Reigns_r9, Dt.eval, dec_lt hlt, cond_true]
      simp only [race_Reigns_r10, Dt.eval, inB_of hlt, cond_true, elt_some hy]
      simp only [race_Reigns_r11, Dt.eval, show decide (((i + 1 : Nat) : Int) > 0) = true by rw [decide_eq_true_eq]; omega, cond_true]
      simp only [race_Reigns_r12, race_Reigns_K, Dt.eval, e1]
      by_cases hl : y.1 * u < t * y.2.1
      · have wk : IntKind.wrap .i64 (((i + 1 : Nat) : Int) - 1) = ((i : Nat) : Int) := by rw [IntWalk.i64_in _ (by omega)]; omega
        have hpl : i < (pre ++ [((x.1, x.2.1, t, u, x.2.2.1, ()) : T5)]).length := by rw [List.length_append, hpre]; simp
        have hpx : (pre ++ [((x.1, x.2.1, t, u, x.2.2.1, ()) : T5)])[i]? = some (x.1, x.2.1, t, u, x.2.2.1, ()) := by rw [List.getElem?_append_right (by omega), hpre, Nat.sub_self]; rfl
        have hset : ∀ z : T5, (pre ++ [((x.1, x.2.1, t, u, x.2.2.1, ()) : T5)]).set i z = pre ++ [z] := fun z => by
          rw [List.set_append_right _ _ (by omega), hpre, Nat.sub_self]; rfl
        simp only [decide_eq_true hl, Bool.not_true, cond_false]
        simp only [race_Reigns_r13, Dt.eval, wk, inB_of hpl, cond_true, elt_some hpx]
        simp only [Int.toNat_natCast, hset]
        have hap : apB (pre ++ [((x.1, x.2.1, y.1, y.2.1, x.2.2.1, ()) : T5)]).length 1 = true := by unfold apB; rw [Nat.ble_eq, List.length_append, hpre]; simp; omega
        simp only [race_Reigns_J3, race_Reigns_r14, Dt.eval, List.length_cons, List.length_nil, Nat.zero_add, hap, cond_true]
        simp only [race_Reigns_r15, Dt.eval, wrap_succ (show i + 1 < 1000000 by omega)]
        have := ih y (pre ++ [(x.1, x.2.1, y.1, y.2.1, x.2.2.1, ())]) (by omega) hy (by rw [List.length_append, hpre]; rfl)
        rw [if_pos hl]
        refine this.trans (congrArg (fun q : List T5 => some (q, (0 : Int))) ?_)
        rw [List.append_assoc]
        rfl
      · simp only [decide_eq_false hl, Bool.not_false, cond_true]
        simp only [race_Reigns_J1, race_Reigns_r16, Dt.eval]
        rw [if_neg hl]
    · simp only [race_Reigns_r9, Dt.eval, dec_nlt hlt, cond_false]
      simp only [race_Reigns_J1, race_Reigns_r16, Dt.eval]
      rw [List.drop_eq_nil_of_le (by omega)]
      rfl
theorem reigns_eq (d : Nat) (hf : 5000 ≤ d) {l : List T3} (hl : l ≠ []) {n dd t u : Int} (hn : i64B n = true) (hd : i64B dd = true) (ht : i64B t = true) (hu : i64B u = true) (hc : chk2 l n dd t u = 0) {a : List T3} (ha : F_crest_Of d ((l, ()), (n, dd, ()), ()) = some (a, 0)) (hb : bdL a) (hk : chkL a = 0) {x : T3} {r : List T3} (hx : a = x :: r) : F_race_Reigns d ((l, ()), (n, dd, ()), (t, u, ()), ()) = some (reiL t u x r, 0) := by
  have e1 := rcheck_eq d l hn hd ht hu
  obtain ⟨hok, h2, h3, h4⟩ := chk2_zero hc
  obtain ⟨k1, k2, k3⟩ := chkL_zero hk
  have b0 : ((0 : Int) != 0) = false := rfl
  have hx0 : a[0]? = some x := by rw [hx]; rfl
  have e2 := rei_loop d hb k3 (by omega) ht hu h3 (d - 1) 0 x [] (by omega) hx0 rfl
  obtain ⟨d', hd'⟩ : ∃ d', d = d' + 1 := ⟨d - 1, by omega⟩
  have hlt : (0 : Nat) < a.length := by omega
  simp only [F_race_Reigns, race_Reigns_K, race_Reigns_r0, race_Reigns_r1, race_Reigns_r2, race_Reigns_r3, race_Reigns_r4, race_Reigns_r5, race_Reigns_r6, race_Reigns_r7, race_Reigns_r8, Dt.eval, e1, hc, b0, cond_false, ha]
  have hit : iter (race_Reigns_L2 d) d ((a.length : Int), (0 : Int), t, u, ([] : List T5), a) = iter (race_Reigns_L2 d) (d - 1) ((a.length : Int), (((0 : Nat) + 1 : Nat) : Int), t, u, ([] : List T5) ++ [(x.1, x.2.1, t, u, x.2.2.1, ())], a) := by
    have hd2 : d = (d - 1) + 1 := by omega
    conv => lhs; arg 2; rw [hd2]
    rw [iter]
    generalize iter (race_Reigns_L2 d) (d - 1) = self
    unfold race_Reigns_L2
    simp only [race_Reigns_r9, Dt.eval, show decide ((0 : Int) < (a.length : Int)) = true by rw [decide_eq_true_eq]; omega, cond_true]
    simp only [race_Reigns_r10, Dt.eval, show inB (0 : Int) a.length = true from inB_of (k := 0) hlt, cond_true, show elt ziii a (0 : Int).toNat = x from elt_some (k := 0) hx0]
    simp only [race_Reigns_r11, Dt.eval, show decide ((0 : Int) > 0) = false from rfl, cond_false]
    simp only [race_Reigns_J3, race_Reigns_r14, Dt.eval, List.length_cons, List.length_nil, Nat.zero_add, show apB 0 1 = true from rfl, cond_true]
    simp only [race_Reigns_r15, Dt.eval, show IntKind.wrap .i64 ((0 : Int) + 1) = ((1 : Nat) : Int) by decide]
  rw [hit, e2, hx]
  rfl
theorem btw_exit (d : Nat) {a : List T3} {t u : Int} (hb : bdL a) (ht : i64B t = true) (hu : i64B u = true) (f : Nat) {i : Nat} (hi : 0 < i) (out : List T5) (h : i = a.length ∨ ∃ y, a[i]? = some y ∧ ¬ y.1 * u < t * y.2.1) : iter (ref24_Between_L1 d) (f + 1) ((i : Int), t, u, a, out) = some out := by
  rw [iter]
  generalize iter (ref24_Between_L1 d) f = self
  unfold ref24_Between_L1
  have hpos : decide ((i : Int) > 0) = true := by rw [decide_eq_true_eq]; omega
  rcases h with h | ⟨y, hy, hn⟩
  · simp only [ref24_Between_r4, Dt.eval, dec_nlt (show ¬ i < a.length by omega), cond_false]
    simp only [ref24_Between_r12, Dt.eval]
  · have hlt := (List.getElem?_eq_some_iff.1 hy).1
    obtain ⟨b1, b2⟩ := hb y (List.mem_of_getElem? hy)
    have e1 := rCompare_eq d y.1 y.2.1 t u b1 b2 ht hu
    simp only [ref24_Between_r4, Dt.eval, dec_lt hlt, cond_true]
    simp only [ref24_Between_r6, ref24_Between_K, Dt.eval, hpos, cond_true, inB_of hlt, elt_some hy, e1]
    have hge : decide (cmpQ y.1 y.2.1 t u ≥ 0) = true := by
      rw [decide_eq_true_eq]
      rcases cmpQ_tri y.1 y.2.1 t u with ⟨j1, j2⟩ | ⟨j1, j2⟩ | ⟨j1, j2⟩ <;> omega
    simp only [hge, cond_true, ref24_Between_r7, Dt.eval]
set_option maxHeartbeats 2000000 in
theorem btw_loop (d : Nat) {a : List T3} {t u : Int} (hb : bdL a) (hlen : a.length ≤ 1000) (ht : i64B t = true) (hu : i64B u = true) : ∀ (f i : Nat) (x : T3) (out : List T5), a.length - i < f → a[i]? = some x → (i = 0 ∨ x.1 * u < t * x.2.1) → out.length ≤ i →
    iter (ref24_Between_L1 d) (f + 1) ((i : Int), t, u, a, out) = some (out ++ reiL t u x (a.drop (i + 1)))
  | 0, i, x, out, hf, _, _, _ => by omega
  | f + 1, i, x, out, hf, hx, h0, hout => by
    have hlt := (List.getElem?_eq_some_iff.1 hx).1
    have ih := fun x out => btw_loop d hb hlen ht hu f (i + 1) x out
    have hex := fun out h => btw_exit d hb ht hu f (i := i + 1) (by omega) out h
    obtain ⟨b1, b2⟩ := hb x (List.mem_of_getElem? hx)
    have e0 := rCompare_eq d x.1 x.2.1 t u b1 b2 ht hu
    have wi := wrap_succ (show i < 1000000 by omega)
    rw [iter]
    revert ih hex
    generalize iter (ref24_Between_L1 d) (f + 1) = self
    intro ih hex
    unfold ref24_Between_L1
    have hap : apB out.length 1 = true := by unfold apB; rw [Nat.ble_eq]; omega
    -- the first test lets it pass
    have e6 : (ref24_Between_r6 (ref24_Between_K d) ((i : Int), true, t, u, a, out)) = (ref24_Between_r6 (ref24_Between_K d) ((i : Int), true, t, u, a, out)) := rfl
    simp only [ref24_Between_r4, Dt.eval, dec_lt hlt, cond_true]
    have step : ∀ k : ref24_Between_Y6 → Option (List T5), (ref24_Between_r6 (ref24_Between_K d) ((i : Int), true, t, u, a, out)).eval k = k ((i : Int), false, t, u, a, out) := fun k => by
      rcases h0 with h0 | h0
      · subst h0
        simp only [ref24_Between_r6, Dt.eval, show decide (((0 : Nat) : Int) > 0) = false from rfl, cond_false]
      · by_cases hi : i = 0
        · subst hi
          simp only [ref24_Between_r6, Dt.eval, show decide (((0 : Nat) : Int) > 0) = false from rfl, cond_false]
        · have hpos : decide ((i : Int) > 0) = true := by rw [decide_eq_true_eq]; omega
          have hlt2 : decide (cmpQ x.1 x.2.1 t u ≥ 0) = false := by
            rw [decide_eq_false_iff_not]
            rcases cmpQ_tri x.1 x.2.1 t u with ⟨j1, j2⟩ | ⟨j1, j2⟩ | ⟨j1, j2⟩ <;> omega
          simp only [ref24_Between_r6, ref24_Between_K, Dt.eval, hpos, cond_true, inB_of hlt, elt_some hx, e0, hlt2]
    rw [step]
    simp only [cond_false]
    simp only [ref24_Between_r8, Dt.eval]
    by_cases hlt1 : i + 1 < a.length
    · obtain ⟨y, hy⟩ : ∃ y, a[i + 1]? = some y := ⟨_, List.getElem?_eq_getElem hlt1⟩
      obtain ⟨b3, b4⟩ := hb y (List.mem_of_getElem? hy)
      have e1 := rCompare_eq d y.1 y.2.1 t u b3 b4 ht hu
      rw [drop_of hy]
      unfold reiL
      simp only [ref24_Between_r9, ref24_Between_K, Dt.eval, wi, dec_lt hlt1, cond_true, inB_of hlt1, elt_some hy, e1]
      by_cases hl : y.1 * u < t * y.2.1
      · have hc : decide (cmpQ y.1 y.2.1 t u < 0) = true := by
          rw [decide_eq_true_eq]
          rcases cmpQ_tri y.1 y.2.1 t u with ⟨j1, j2⟩ | ⟨j1, j2⟩ | ⟨j1, j2⟩ <;> omega
        simp only [hc, cond_true]
        simp only [ref24_Between_r10, Dt.eval, wi, inB_of hlt1, cond_true, elt_some hy]
        simp only [ref24_Between_J2, ref24_Between_r11, Dt.eval, inB_of hlt, cond_true, elt_some hx, List.length_cons, List.length_nil, Nat.zero_add, hap]
        simp only [ref24_Between_r5, Dt.eval, wi]
        rw [if_pos hl]
        have := ih y (out ++ [(x.1, x.2.1, y.1, y.2.1, x.2.2.1, ())]) (by omega) hy (.inr hl) (by rw [List.length_append]; simp; omega)
        rw [List.append_assoc] at this
        exact this
      · have hc : decide (cmpQ y.1 y.2.1 t u < 0) = false := by
          rw [decide_eq_false_iff_not]
          rcases cmpQ_tri y.1 y.2.1 t u with ⟨j1, j2⟩ | ⟨j1, j2⟩ | ⟨j1, j2⟩ <;> omega
        simp only [hc, cond_false]
        simp only [ref24_Between_J2, ref24_Between_r11, Dt.eval, inB_of hlt, cond_true, elt_some hx, List.length_cons, List.length_nil, Nat.zero_add, hap]
        simp only [ref24_Between_r5, Dt.eval, wi]
        rw [if_neg hl]
        exact hex _ (.inr ⟨y, hy, hl⟩)
    · simp only [ref24_Between_r9, Dt.eval, wi, dec_nlt hlt1, cond_false]
      simp only [ref24_Between_J2, ref24_Between_r11, Dt.eval, inB_of hlt, cond_true, elt_some hx, List.length_cons, List.length_nil, Nat.zero_add, hap]
      simp only [ref24_Between_r5, Dt.eval, wi]
      rw [List.drop_eq_nil_of_le (by omega)]
      exact hex _ (.inl (by omega))
theorem between24_eq (d : Nat) (hf : 5000 ≤ d) {l : List T3} {n dd t u : Int} (ht : i64B t = true) (hu : i64B u = true) {a : List T3} (ha : F_ref05_Crest d ((l, ()), (n, dd, ()), ()) = some a) (hb : bdL a) (hlen : a.length ≤ 1000) {x : T3} {r : List T3} (hx : a = x :: r) : F_ref24_Between d ((l, ()), (n, dd, ()), (t, u, ()), ()) = some (reiL t u x r) := by
  have hx0 : a[0]? = some x := by rw [hx]; rfl
  have e := btw_loop d hb hlen ht hu (d - 1) 0 x [] (by omega) hx0 (.inl rfl) (by simp)
  rw [show d - 1 + 1 = d by omega] at e
  simp only [F_ref24_Between, ref24_Between_K, ref24_Between_r0, ref24_Between_r1, ref24_Between_r2, ref24_Between_r3, Dt.eval, ha]
  refine e.trans ?_
  rw [hx]
  rfl
theorem laps_loop (d : Nat) {b : List T3} {t u : Int} (hb : bdL b) (hv : ∀ x ∈ b, ratioChk x.1 x.2.1 = 0) (hlen : b.length ≤ 1000) (ht : i64B t = true) (hu : i64B u = true) (hr : ratioChk t u = 0) : ∀ (f i c : Nat), b.length - i < f → i ≤ b.length → c ≤ i →
    iter (race_Laps_L1 d) f ((c : Int), b, (b.length : Int), (i : Int), t, u) = some (((c + lapN t u (b.drop i) : Nat) : Int), 0)
  | 0, i, c, hf, _, _ => by omega
  | f + 1, i, c, hf, hi, hc => by
    have ih := fun c => laps_loop d hb hv hlen ht hu hr f (i + 1) c
    rw [iter]
    revert ih
    generalize iter (race_Laps_L1 d) f = self
    intro ih
    unfold race_Laps_L1 race_Laps_J2
    by_cases hlt : i < b.length
    · obtain ⟨x, hx⟩ : ∃ x, b[i]? = some x := ⟨_, List.getElem?_eq_getElem hlt⟩
      have hxm := List.mem_of_getElem? hx
      obtain ⟨b1, b2⟩ := hb x hxm
      have e1 := less_eq d ht hu b1 b2 hr (hv x hxm)
      have hg : decide (t * x.2.1 < x.1 * u) = gtL t u x := by
        cases h : gtL t u x with
        | true => exact decide_eq_true ((gtL_iff ..).1 h)
        | false => exact decide_eq_false fun k => by rw [(gtL_iff ..).2 k] at h; cases h
      rw [hg] at e1
      have wi := wrap_succ (show i < 1000000 by omega)
      rw [drop_of hx]
      unfold lapN
      rw [List.countP_cons]
      simp only [race_Laps_r9, race_Laps_r10, race_Laps_r11, race_Laps_r12, race_Laps_r13, Dt.eval, race_Laps_K, dec_lt hlt, cond_true, inB_of hlt, elt_some hx, e1]
      cases gtL t u x with
      | true =>
        simp only [Bool.not_true, cond_false, Dt.eval, wi, Bool.false_eq_true, if_false, Nat.add_zero]
        exact ih c (by omega) (by omega) (by omega)
      | false =>
        simp only [Bool.not_false, cond_true, Dt.eval, wi, wrap_succ (show c < 1000000 by omega), if_true]
        have := ih (c + 1) (by omega) (by omega) (by omega)
        rw [show c + ((b.drop (i + 1)).countP (fun x => !gtL t u x) + 1) = (c + 1) + (b.drop (i + 1)).countP (fun x => !gtL t u x) by omega]
        exact this
    · have hkl : i = b.length := by omega
      simp only [race_Laps_r9, race_Laps_r14, Dt.eval, dec_nlt hlt, cond_false]
      rw [hkl, List.drop_length]
      rfl
theorem laps_eq (d : Nat) (hf : 5000 ≤ d) {l : List T3} {n dd t u : Int} (hn : i64B n = true) (hd : i64B dd = true) (ht : i64B t = true) (hu : i64B u = true) (hc : chk2 l n dd t u = 0) {a : List T3} (ha : F_crest_Of d ((l, ()), (n, dd, ()), ()) = some (a, 0)) (hb : bdL a) (hk : chkL a = 0) {x : T3} {r : List T3} (hx : a = x :: r) : F_race_Laps d ((l, ()), (n, dd, ()), (t, u, ()), ()) = some ((lapN t u r : Int), 0) := by
  have e1 := rcheck_eq d l hn hd ht hu
  obtain ⟨hok, h2, h3, h4⟩ := chk2_zero hc
  obtain ⟨k1, k2, k3⟩ := chkL_zero hk
  have b0 : ((0 : Int) != 0) = false := rfl
  have hr1 : bdL r := fun y hy => hb y (by rw [hx]; exact List.mem_cons_of_mem _ hy)
  have hr2 : ∀ y ∈ r, ratioChk y.1 y.2.1 = 0 := fun y hy => (okL_iff.1 ((chkR_pw k3).1 y (by rw [hx]; exact List.mem_cons_of_mem _ hy))).1
  have hlen : a.length = r.length + 1 := by rw [hx]; rfl
  have e2 := laps_loop d hr1 hr2 (by omega) ht hu h3 d 0 0 (by omega) (by omega) (by omega)
  rw [List.drop_zero, Nat.zero_add] at e2
  have hdr : List.drop (1 : Int).toNat a = r := by rw [hx]; rfl
  have c1 : (decide ((0 : Int) ≤ 1) && decide ((1 : Int) ≤ (a.length : Int))) = true := by simp only [Bool.and_eq_true, decide_eq_true_eq]; omega
  simp only [F_race_Laps, race_Laps_K, race_Laps_r0, race_Laps_r1, race_Laps_r2, race_Laps_r3, race_Laps_r4, race_Laps_r5, race_Laps_r6, race_Laps_r7, race_Laps_r8, Dt.eval, e1, hc, b0, cond_false, ha, c1, cond_true, hdr]
  exact e2
theorem rlaps_loop (d : Nat) {a : List T3} {t u : Int} (hb : bdL a) (hlen : a.length ≤ 1000) (ht : i64B t = true) (hu : i64B u = true) (hu1 : 1 ≤ u) (hm : a.Pairwise fun x y => gtL t u x = true → gtL t u y = true) : ∀ (f i c : Nat), a.length - i < f → i ≤ a.length → c ≤ i →
    iter (ref24_Laps_L1 d) f ((c : Int), (i : Int), t, u, a) = some (((c + lapN t u (a.drop i) : Nat) : Int), 0)
  | 0, i, c, hf, _, _ => by omega
  | f + 1, i, c, hf, hi, hc => by
    have ih := fun c => rlaps_loop d hb hlen ht hu hu1 hm f (i + 1) c
    rw [iter]
    revert ih
    generalize iter (ref24_Laps_L1 d) f = self
    intro ih
    unfold ref24_Laps_L1
    by_cases hlt : i < a.length
    · obtain ⟨x, hx⟩ : ∃ x, a[i]? = some x := ⟨_, List.getElem?_eq_getElem hlt⟩
      obtain ⟨b1, b2⟩ := hb x (List.mem_of_getElem? hx)
      have e1 := rCompare_eq d x.1 x.2.1 t u b1 b2 ht hu
      have wi := wrap_succ (show i < 1000000 by omega)
      simp only [ref24_Laps_r8, ref24_Laps_K, Dt.eval, dec_lt hlt, cond_true, inB_of hlt, elt_some hx, e1, le_gtL]
      cases hg : gtL t u x with
      | true =>
        simp only [Bool.not_true, cond_false, ref24_Laps_r11, Dt.eval]
        rw [lapN_none hu1 hm hx hg, Nat.add_zero]
      | false =>
        simp only [Bool.not_false, cond_true, ref24_Laps_r10, ref24_Laps_r9, Dt.eval, wi, wrap_succ (show c < 1000000 by omega)]
        have := ih (c + 1) (by omega) (by omega) (by omega)
        rw [drop_of hx]
        unfold lapN at this ⊢
        rw [List.countP_cons, hg, Bool.not_false, if_pos rfl, show c + ((a.drop (i + 1)).countP (fun x => !gtL t u x) + 1) = (c + 1) + (a.drop (i + 1)).countP (fun x => !gtL t u x) by omega]
        exact this
    · have hkl : i = a.length := by omega
      simp only [ref24_Laps_r8, Dt.eval, dec_nlt hlt, cond_false, ref24_Laps_r11]
      rw [hkl, List.drop_length]
      rfl
end Go.Proofs.Ytdpnndpbbdhnmaa

namespace Go.Pel
open Go Go.Tx
def ok5 (x : T5) : Bool := decide (ratioChk x.1 x.2.1 = 0) && decide (ratioChk x.2.2.1 x.2.2.2.1 = 0) && decide (0 ≤ x.2.2.2.2.1) && decide (x.2.2.2.2.1 ≤ 65535)
theorem ok5_iff {x : T5} : ok5 x = true ↔ ratioChk x.1 x.2.1 = 0 ∧ ratioChk x.2.2.1 x.2.2.2.1 = 0 ∧ 0 ≤ x.2.2.2.2.1 ∧ x.2.2.2.2.1 ≤ 65535 := by
  unfold ok5
  simp only [Bool.and_eq_true, decide_eq_true_eq, and_assoc]
theorem ok5_no {x : T5} (h : ¬ (ratioChk x.1 x.2.1 = 0 ∧ ratioChk x.2.2.1 x.2.2.2.1 = 0 ∧ 0 ≤ x.2.2.2.2.1 ∧ x.2.2.2.2.1 ≤ 65535)) : ok5 x = false := by
  cases k : ok5 x with
  | false => rfl
  | true => exact absurd (ok5_iff.1 k) h
/-- times in order: not the same, unless there is no other reign -/
def iv5 (many : Bool) (x : T5) : Bool := decide (x.1 * x.2.2.2.1 < x.2.2.1 * x.2.1) || (!many && decide (x.1 = x.2.2.1 ∧ x.2.1 = x.2.2.2.1))
def lk5 (y x : T5) : Bool := decide (y.2.2.1 = x.1 ∧ y.2.2.2.1 = x.2.1) && decide (y.2.2.2.2.1 ≠ x.2.2.2.2.1)
def chk5 (many : Bool) : Option T5 → List T5 → Bool
  | _, [] => true
  | o, x :: r => ok5 x && iv5 many x && (match o with | none => true | some y => lk5 y x) && chk5 many (some x) r
def chk5V (a : List T5) : Int := if a.length < 1 ∨ 300 < a.length then 8 else if chk5 (decide (1 < a.length)) none a = true then 0 else 8
def bd5 (a : List T5) : Prop := ∀ x ∈ a, i64B x.1 = true ∧ i64B x.2.1 = true ∧ i64B x.2.2.1 = true ∧ i64B x.2.2.2.1 = true
def prev5 (a : List T5) (i : Nat) : Option T5 := if i = 0 then none else a[i - 1]?
theorem prev5_succ (a : List T5) (i : Nat) : prev5 a (i + 1) = a[i]? := by unfold prev5; rw [if_neg (by omega)]; rfl
/-- how two valid times lie -/
theorem iv5_tri {x : T5} (h1 : ratioChk x.1 x.2.1 = 0) (h2 : ratioChk x.2.2.1 x.2.2.2.1 = 0) (many : Bool) :
    (x.2.2.1 * x.2.1 < x.1 * x.2.2.2.1 ∧ cmpQ x.1 x.2.1 x.2.2.1 x.2.2.2.1 = 1 ∧ iv5 many x = false) ∨
    (¬ x.2.2.1 * x.2.1 < x.1 * x.2.2.2.1 ∧ x.1 = x.2.2.1 ∧ x.2.1 = x.2.2.2.1 ∧ cmpQ x.1 x.2.1 x.2.2.1 x.2.2.2.1 = 0 ∧ iv5 many x = !many) ∨
    (¬ x.2.2.1 * x.2.1 < x.1 * x.2.2.2.1 ∧ ¬ (x.1 = x.2.2.1 ∧ x.2.1 = x.2.2.2.1) ∧ cmpQ x.1 x.2.1 x.2.2.1 x.2.2.2.1 = -1 ∧ iv5 many x = true) := by
  unfold iv5
  rcases cmpQ_tri x.1 x.2.1 x.2.2.1 x.2.2.2.1 with ⟨k1, k2⟩ | ⟨k1, k2⟩ | ⟨k1, k2⟩
  · refine .inr (.inr ⟨by omega, fun ⟨e1, e2⟩ => ?_, k1, by rw [decide_eq_true k2]; rfl⟩)
    rw [e1, e2] at k2; omega
  · obtain ⟨e1, e2⟩ := q_eq h1 h2 k2
    refine .inr (.inl ⟨by omega, e1, e2, k1, ?_⟩)
    rw [decide_eq_false (show ¬ x.1 * x.2.2.2.1 < x.2.2.1 * x.2.1 by omega), decide_eq_true (show x.1 = x.2.2.1 ∧ x.2.1 = x.2.2.2.1 from ⟨e1, e2⟩), Bool.false_or, Bool.and_true]
  · refine .inl ⟨k2, k1, ?_⟩
    have hne : ¬ (x.1 = x.2.2.1 ∧ x.2.1 = x.2.2.2.1) := fun ⟨e1, e2⟩ => by rw [e1, e2] at k2; omega
    rw [decide_eq_false (show ¬ x.1 * x.2.2.2.1 < x.2.2.1 * x.2.1 by omega), decide_eq_false hne, Bool.and_false]; rfl
theorem pairB (a b c e : Int) : (a == c && (b == e && true)) = decide (a = c ∧ b = e) := by
  by_cases h1 : a = c <;> by_cases h2 : b = e <;> simp [h1, h2]
end Go.Pel
namespace Go.Proofs.Ytdpnndpbbdhnmaa
open Go Go.Tx Go.Pel
theorem reSame_loop (d : Nat) {L : List T5} (hlen : L.length ≤ 4096) : ∀ (f i : Nat), L.length - i < f → i ≤ L.length → iter (ref24_Same_L1 d) f (L, L, (i : Int)) = some true
  | 0, i, hf, _ => by omega
  | f + 1, i, hf, hi => by
    have ih := reSame_loop d hlen f (i + 1)
    rw [iter]
    revert ih
    generalize iter (ref24_Same_L1 d) f = self
    intro ih
    unfold ref24_Same_L1
    simp only [ref24_Same_r4, ref24_Same_r5, ref24_Same_r6, ref24_Same_r7, ref24_Same_r8, Dt.eval]
    by_cases hlt : i < L.length
    · simp only [dec_lt hlt, cond_true, inB_of hlt, beq_self_eq_true, Bool.and_self, Bool.not_true, cond_false, wrap_succ (show i < 1000000 by omega)]
      exact ih (by omega) (by omega)
    · simp only [dec_nlt hlt, cond_false]
theorem reSame_refl (d : Nat) (hf : 5000 ≤ d) {L : List T5} (hlen : L.length ≤ 4096) : F_ref24_Same d ((L, ()), (L, ()), ()) = some true := by
  have e := reSame_loop d hlen d 0 (by omega) (by omega)
  simp only [F_ref24_Same, ref24_Same_K, ref24_Same_r0, ref24_Same_r1, ref24_Same_r2, ref24_Same_r3, Dt.eval, bne_self_eq_false, cond_false]
  exact e
set_option maxHeartbeats 4000000 in
theorem c5_loop (d : Nat) {a : List T5} (hb : bd5 a) (hlen : a.length ≤ 1000) : ∀ (f i : Nat), a.length - i < f → i ≤ a.length →
    iter (race_Check_L1 d) f (a, a, (a.length : Int), (i : Int)) = some (if chk5 (decide (1 < a.length)) (prev5 a i) (a.drop i) = true then 0 else 8)
  | 0, i, hf, _ => by omega
  | f + 1, i, hf, hi => by
    have ih := c5_loop d hb hlen f (i + 1)
    rw [iter]
    revert ih
    generalize iter (race_Check_L1 d) f = self
    intro ih
    unfold race_Check_L1
    by_cases hlt : i < a.length
    · obtain ⟨x, hx⟩ : ∃ x, a[i]? = some x := ⟨_, List.getElem?_eq_getElem hlt⟩
      obtain ⟨b1, b2, b3, b4⟩ := hb x (List.mem_of_getElem? hx)
      have e1 := pChk_eq d b1 b2
      have e2 := pChk_eq d b3 b4
      have wi := wrap_succ (show i < 1000000 by omega)
      have b0 : ((0 : Int) != 0) = false := rfl
      have b8 : ((8 : Int) != 0) = true := rfl
      have ih' := ih (by omega) (by omega)
      rw [prev5_succ, hx] at ih'
      rw [drop_of hx]
      unfold chk5
      simp only [race_Check_r4, Dt.eval, dec_lt hlt, cond_true]
      simp only [race_Check_r5, Dt.eval, inB_of hlt, cond_true, elt_some hx]
      rcases ratioChk_08 x.1 x.2.1 with h1 | h1
      · rcases ratioChk_08 x.2.2.1 x.2.2.2.1 with h2 | h2
        · by_cases h3 : x.2.2.2.2.1 < 0
          · simp only [race_Check_r6, race_Check_K, Dt.eval, e1, h1, e2, h2, b0, cond_false, decide_eq_true h3, cond_true, race_Check_r7, ok5_no (x := x) (fun k => by have := k.2.2.1; omega), Bool.false_and, Bool.false_eq_true, if_false]
          · by_cases h4 : x.2.2.2.2.1 > 65535
            · simp only [race_Check_r6, race_Check_K, Dt.eval, e1, h1, e2, h2, b0, cond_false, decide_eq_false h3, decide_eq_true h4, cond_true, race_Check_r7, ok5_no (x := x) (fun k => by have := k.2.2.2; omega), Bool.false_and, Bool.false_eq_true, if_false]
            · have hk : ok5 x = true := ok5_iff.2 ⟨h1, h2, by omega, by omega⟩
              have e3 := less_eq d b3 b4 b1 b2 h2 h1
              simp only [race_Check_r6, race_Check_K, Dt.eval, e1, h1, e2, h2, b0, cond_false, decide_eq_false h3, decide_eq_false h4, hk, Bool.true_and]
              rcases iv5_tri h1 h2 (decide (1 < a.length)) with ⟨k1, _, k3⟩ | ⟨k1, k2, k3, _, k4⟩ | ⟨k1, k2, _, k4⟩
              · simp only [race_Check_r8, race_Check_K, Dt.eval, e3, decide_eq_true k1, cond_true, race_Check_r9, k3, Bool.false_and, Bool.false_eq_true, if_false]
              · by_cases hm : 1 < a.length
                · rw [decide_eq_true hm] at k4 ⊢
                  simp only [race_Check_r8, race_Check_K, Dt.eval, e3, decide_eq_false k1, cond_false, pairB, decide_eq_true (show x.1 = x.2.2.1 ∧ x.2.1 = x.2.2.2.1 from ⟨k2, k3⟩), cond_true, show decide ((a.length : Int) > 1) = true by rw [decide_eq_true_eq]; omega, race_Check_r9, k4, Bool.not_true, Bool.false_and, Bool.false_eq_true, if_false]
                · rw [decide_eq_false hm] at k4 ih' ⊢
                  have h0 : i = 0 := by omega
                  subst h0
                  simp only [race_Check_r8, race_Check_K, Dt.eval, e3, decide_eq_false k1, cond_false, pairB, decide_eq_true (show x.1 = x.2.2.1 ∧ x.2.1 = x.2.2.2.1 from ⟨k2, k3⟩), cond_true, show decide ((a.length : Int) > 1) = false by rw [decide_eq_false_iff_not]; omega]
                  simp only [race_Check_r10, Dt.eval, show decide (((0 : Nat) : Int) > 0) = false from rfl, cond_false]
                  simp only [race_Check_r12, Dt.eval, wi, k4, Bool.not_false, Bool.true_and, show prev5 a 0 = none from rfl]
                  exact ih'
              · simp only [race_Check_r8, race_Check_K, Dt.eval, e3, decide_eq_false k1, cond_false, pairB, decide_eq_false k2, k4, Bool.true_and]
                rcases Nat.eq_zero_or_pos i with h0 | h0
                · subst h0
                  simp only [race_Check_r10, Dt.eval, show decide (((0 : Nat) : Int) > 0) = false from rfl, cond_false]
                  simp only [race_Check_r12, Dt.eval, wi, show prev5 a 0 = none from rfl, Bool.true_and]
                  exact ih'
                · have c3 : decide ((i : Int) > 0) = true := by rw [decide_eq_true_eq]; omega
                  obtain ⟨y, hy1⟩ : ∃ y, a[i - 1]? = some y := ⟨_, List.getElem?_eq_getElem (by omega)⟩
                  have hpv : prev5 a i = some y := by unfold prev5; rw [if_neg (by omega)]; exact hy1
                  have wk : IntKind.wrap .i64 ((i : Int) - 1) = ((i - 1 : Nat) : Int) := by rw [IntWalk.i64_in _ (by omega)]; omega
                  simp only [race_Check_r10, Dt.eval, c3, cond_true, wk, inB_of (show i - 1 < a.length by omega), elt_some hy1, pairB, hpv]
                  unfold lk5
                  by_cases g1 : y.2.2.1 = x.1 ∧ y.2.2.2.1 = x.2.1
                  · by_cases g2 : y.2.2.2.2.1 = x.2.2.2.2.1
                    · simp only [decide_eq_true g1, Bool.not_true, cond_false, g2, beq_self_eq_true, cond_true, race_Check_r11, Dt.eval, ne_eq, not_true_eq_false, decide_false, Bool.and_false, Bool.false_and, Bool.false_eq_true, if_false]
                    · simp only [decide_eq_true g1, Bool.not_true, cond_false, show (y.2.2.2.2.1 == x.2.2.2.2.1) = false by rw [beq_eq_false_iff_ne]; exact g2, race_Check_r12, Dt.eval, wi, ne_eq, g2, not_false_eq_true, decide_true, Bool.and_true, Bool.true_and]
                      exact ih'
                  · simp only [decide_eq_false g1, Bool.not_false, cond_true, race_Check_r11, Dt.eval, Bool.false_and, Bool.false_eq_true, if_false]
        · simp only [race_Check_r6, race_Check_K, Dt.eval, e1, h1, e2, h2, b0, b8, cond_false, cond_true, race_Check_r7, ok5_no (x := x) (fun k => by have := k.2.1; omega), Bool.false_and, Bool.false_eq_true, if_false]
      · simp only [race_Check_r6, race_Check_K, Dt.eval, e1, h1, b8, cond_true, race_Check_r7, ok5_no (x := x) (fun k => by have := k.1; omega), Bool.false_and, Bool.false_eq_true, if_false]
    · have hkl : i = a.length := by omega
      simp only [race_Check_r4, Dt.eval, dec_nlt hlt, cond_false, race_Check_r13]
      rw [hkl, List.drop_length]
      simp [chk5]
theorem c5_eq (d : Nat) (hf : 5000 ≤ d) {a : List T5} (hb : bd5 a) (hlen : a.length ≤ 1000) : F_race_Check d ((a, ()), ()) = some (chk5V a) := by
  have e := c5_loop d hb hlen d 0 (by omega) (by omega)
  unfold chk5V
  simp only [F_race_Check, race_Check_K, race_Check_r0, race_Check_r1, race_Check_r2, race_Check_r3, Dt.eval]
  by_cases h1 : a.length < 1
  · simp only [show decide ((a.length : Int) < 1) = true by rw [decide_eq_true_eq]; omega, cond_true, h1, true_or, if_true, Dt.eval]
  · by_cases h2 : 300 < a.length
    · simp only [show decide ((a.length : Int) < 1) = false by rw [decide_eq_false_iff_not]; omega, show decide ((a.length : Int) > 300) = true by rw [decide_eq_true_eq]; omega, cond_false, cond_true, h2, or_true, if_true, Dt.eval]
    · simp only [show decide ((a.length : Int) < 1) = false by rw [decide_eq_false_iff_not]; omega, show decide ((a.length : Int) > 300) = false by rw [decide_eq_false_iff_not]; omega, cond_false, h1, h2, or_self, if_false, Dt.eval]
      exact e
set_option maxHeartbeats 4000000 in
theorem rc5_loop (d : Nat) {a : List T5} (hb : bd5 a) (hlen : a.length ≤ 1000) : ∀ (f i : Nat), a.length - i < f → i ≤ a.length →
    iter (ref24_Check_L1 d) f (a, (i : Int)) = some (if chk5 (decide (1 < a.length)) (prev5 a i) (a.drop i) = true then 0 else 8)
  | 0, i, hf, _ => by omega
  | f + 1, i, hf, hi => by
    have ih := rc5_loop d hb hlen f (i + 1)
    rw [iter]
    revert ih
    generalize iter (ref24_Check_L1 d) f = self
    intro ih
    unfold ref24_Check_L1
    by_cases hlt : i < a.length
    · obtain ⟨x, hx⟩ : ∃ x, a[i]? = some x := ⟨_, List.getElem?_eq_getElem hlt⟩
      obtain ⟨b1, b2, b3, b4⟩ := hb x (List.mem_of_getElem? hx)
      have e1 := rBoth_eq d b1 b2 b3 b4
      have e3 := rCompare_eq d x.1 x.2.1 x.2.2.1 x.2.2.2.1 b1 b2 b3 b4
      have wi := wrap_succ (show i < 1000000 by omega)
      have b0 : ((0 : Int) != 0) = false := rfl
      have b8 : ((8 : Int) != 0) = true := rfl
      have ih' := ih (by omega) (by omega)
      rw [prev5_succ, hx] at ih'
      rw [drop_of hx]
      unfold chk5
      simp only [ref24_Check_r4, Dt.eval, dec_lt hlt, cond_true]
      rcases ratioChk_08 x.1 x.2.1 with h1 | h1
      · rw [if_neg (by rw [h1]; decide)] at e1
        rcases ratioChk_08 x.2.2.1 x.2.2.2.1 with h2 | h2
        · rw [h2] at e1
          by_cases h3 : x.2.2.2.2.1 < 0
          · simp only [ref24_Check_r6, ref24_Check_K, Dt.eval, inB_of hlt, elt_some hx, e1, b0, cond_false, decide_eq_true h3, cond_true, ref24_Check_r7, ok5_no (x := x) (fun k => by have := k.2.2.1; omega), Bool.false_and, Bool.false_eq_true, if_false]
          · by_cases h4 : x.2.2.2.2.1 > 65535
            · simp only [ref24_Check_r6, ref24_Check_K, Dt.eval, inB_of hlt, elt_some hx, e1, b0, cond_false, decide_eq_false h3, decide_eq_true h4, cond_true, ref24_Check_r7, ok5_no (x := x) (fun k => by have := k.2.2.2; omega), Bool.false_and, Bool.false_eq_true, if_false]
            · have hk : ok5 x = true := ok5_iff.2 ⟨h1, h2, by omega, by omega⟩
              simp only [ref24_Check_r6, ref24_Check_K, Dt.eval, inB_of hlt, elt_some hx, e1, b0, cond_true, cond_false, decide_eq_false h3, decide_eq_false h4, hk, Bool.true_and]
              simp only [ref24_Check_r8, ref24_Check_K, Dt.eval, inB_of hlt, cond_true, elt_some hx, e3]
              rcases iv5_tri h1 h2 (decide (1 < a.length)) with ⟨_, k2, k3⟩ | ⟨_, _, _, k3, k4⟩ | ⟨_, _, k3, k4⟩
              · simp only [ref24_Check_r9, Dt.eval, k2, show decide ((1 : Int) > 0) = true from rfl, cond_true, ref24_Check_r10, k3, Bool.false_and, Bool.false_eq_true, if_false]
              · by_cases hm : 1 < a.length
                · rw [decide_eq_true hm] at k4 ⊢
                  simp only [ref24_Check_r9, Dt.eval, k3, show decide ((0 : Int) > 0) = false from rfl, cond_false, show ((0 : Int) == 0) = true from rfl, cond_true, show decide ((a.length : Int) > 1) = true by rw [decide_eq_true_eq]; omega, ref24_Check_r10, k4, Bool.not_true, Bool.false_and, Bool.false_eq_true, if_false]
                · rw [decide_eq_false hm] at k4 ih' ⊢
                  have h0 : i = 0 := by omega
                  subst h0
                  simp only [ref24_Check_r9, Dt.eval, k3, show decide ((0 : Int) > 0) = false from rfl, cond_false, show ((0 : Int) == 0) = true from rfl, cond_true, show decide ((a.length : Int) > 1) = false by rw [decide_eq_false_iff_not]; omega, show decide (((0 : Nat) : Int) > 0) = false from rfl]
                  simp only [ref24_Check_r5, Dt.eval, wi, k4, Bool.not_false, Bool.true_and, show prev5 a 0 = none from rfl]
                  exact ih'
              · rcases Nat.eq_zero_or_pos i with h0 | h0
                · subst h0
                  simp only [ref24_Check_r9, Dt.eval, k3, show decide ((-1 : Int) > 0) = false from rfl, cond_false, show ((-1 : Int) == 0) = false from rfl, show decide (((0 : Nat) : Int) > 0) = false from rfl]
                  simp only [ref24_Check_r5, Dt.eval, wi, k4, Bool.true_and, show prev5 a 0 = none from rfl]
                  exact ih'
                · have c3 : decide ((i : Int) > 0) = true := by rw [decide_eq_true_eq]; omega
                  obtain ⟨y, hy1⟩ : ∃ y, a[i - 1]? = some y := ⟨_, List.getElem?_eq_getElem (by omega)⟩
                  have hpv : prev5 a i = some y := by unfold prev5; rw [if_neg (by omega)]; exact hy1
                  have wk : IntKind.wrap .i64 ((i : Int) - 1) = ((i - 1 : Nat) : Int) := by rw [IntWalk.i64_in _ (by omega)]; omega
                  simp only [ref24_Check_r9, Dt.eval, k3, show decide ((-1 : Int) > 0) = false from rfl, cond_false, show ((-1 : Int) == 0) = false from rfl, c3, cond_true, wk, inB_of (show i - 1 < a.length by omega), inB_of hlt, elt_some hy1, elt_some hx, pairB, hpv, k4, Bool.true_and]
                  unfold lk5
                  by_cases g1 : y.2.2.1 = x.1 ∧ y.2.2.2.1 = x.2.1
                  · by_cases g2 : y.2.2.2.2.1 = x.2.2.2.2.1
                    · simp only [decide_eq_true g1, Bool.not_true, cond_false, g2, beq_self_eq_true, cond_true, ref24_Check_r10, Dt.eval, ne_eq, not_true_eq_false, decide_false, Bool.and_false, Bool.false_and, Bool.false_eq_true, if_false]
                    · simp only [decide_eq_true g1, Bool.not_true, cond_false, show (y.2.2.2.2.1 == x.2.2.2.2.1) = false by rw [beq_eq_false_iff_ne]; exact g2, ref24_Check_r5, Dt.eval, wi, ne_eq, g2, not_false_eq_true, decide_true, Bool.and_true, Bool.true_and]
                      exact ih'
                  · simp only [decide_eq_false g1, Bool.not_false, cond_true, ref24_Check_r10, Dt.eval, Bool.false_and, Bool.false_eq_true, if_false]
        · rw [h2] at e1
          simp only [ref24_Check_r6, ref24_Check_K, Dt.eval, inB_of hlt, elt_some hx, e1, b8, cond_true, ref24_Check_r7, ok5_no (x := x) (fun k => by have := k.2.1; omega), Bool.false_and, Bool.false_eq_true, if_false]
      · rw [if_pos (by rw [h1]; decide), h1] at e1
        simp only [ref24_Check_r6, ref24_Check_K, Dt.eval, inB_of hlt, elt_some hx, e1, b8, cond_true, ref24_Check_r7, ok5_no (x := x) (fun k => by have := k.1; omega), Bool.false_and, Bool.false_eq_true, if_false]
    · have hkl : i = a.length := by omega
      simp only [ref24_Check_r4, Dt.eval, dec_nlt hlt, cond_false, ref24_Check_r11]
      rw [hkl, List.drop_length]
      simp [chk5]
theorem rc5_eq (d : Nat) (hf : 5000 ≤ d) {a : List T5} (hb : bd5 a) (hlen : a.length ≤ 1000) : F_ref24_Check d ((a, ()), ()) = some (chk5V a) := by
  have e := rc5_loop d hb hlen d 0 (by omega) (by omega)
  unfold chk5V
  simp only [F_ref24_Check, ref24_Check_K, ref24_Check_r0, ref24_Check_r1, ref24_Check_r2, ref24_Check_r3, Dt.eval]
  by_cases h1 : a.length < 1
  · simp only [show decide ((a.length : Int) < 1) = true by rw [decide_eq_true_eq]; omega, cond_true, h1, true_or, if_true, Dt.eval]
  · by_cases h2 : 300 < a.length
    · simp only [show decide ((a.length : Int) < 1) = false by rw [decide_eq_false_iff_not]; omega, show decide ((a.length : Int) > 300) = true by rw [decide_eq_true_eq]; omega, cond_false, cond_true, h2, or_true, if_true, Dt.eval]
    · simp only [show decide ((a.length : Int) < 1) = false by rw [decide_eq_false_iff_not]; omega, show decide ((a.length : Int) > 300) = false by rw [decide_eq_false_iff_not]; omega, cond_false, h1, h2, or_self, if_false, Dt.eval]
      exact e
/-- both programs give the same reigns and laps -/
theorem reigns_same (d : Nat) (hf : 5000 ≤ d) (l : List T3) (hg : great l.length = false) {n dd t u : Int} (hn : i64B n = true) (hd : i64B dd = true) (ht : i64B t = true) (hu : i64B u = true) : ∃ v c, F_race_Reigns d ((l, ()), (n, dd, ()), (t, u, ()), ()) = some v ∧ F_ref24_Reigns d ((l, ()), (n, dd, ()), (t, u, ()), ()) = some v ∧ v.1.length ≤ 4096 ∧ F_race_Laps d ((l, ()), (n, dd, ()), (t, u, ()), ()) = some c ∧ F_ref24_Laps d ((l, ()), (n, dd, ()), (t, u, ()), ()) = some c := by
  have e1 := rcheck_eq d l hn hd ht hu
  have e2 := asked_eq d l hn hd ht hu
  have b0 : ((0 : Int) != 0) = false := rfl
  by_cases hc : chk2 l n dd t u = 0
  · obtain ⟨hok, h2, h3, h4⟩ := chk2_zero hc
    have h0 := chk2_fld hc
    have hl64 := hok.len
    have hc1 : chk1 l n dd = 0 := by unfold chk1; rw [if_neg (by simpa using h0)]; exact h2
    by_cases hl : l = []
    · subst hl
      have e3 := of_nil d hn hd h2
      refine ⟨([], 42), (0, 42), ?_, ?_, by simp, ?_, ?_⟩
      · simp only [F_race_Reigns, race_Reigns_K, race_Reigns_r0, race_Reigns_r1, race_Reigns_r2, race_Reigns_r3, race_Reigns_r4, race_Reigns_r5, race_Reigns_r6, race_Reigns_r7, race_Reigns_r8, Dt.eval, e1, hc, b0, cond_false, e3, show ((42 : Int) != 0) = true from rfl, cond_true]
      · simp only [F_ref24_Reigns, ref24_Reigns_K, ref24_Reigns_r0, ref24_Reigns_r1, ref24_Reigns_r2, ref24_Reigns_r3, ref24_Reigns_r4, ref24_Reigns_r5, Dt.eval, e2, hc, b0, cond_false]; rfl
      · simp only [F_race_Laps, race_Laps_K, race_Laps_r0, race_Laps_r1, race_Laps_r2, race_Laps_r3, race_Laps_r4, race_Laps_r5, race_Laps_r6, race_Laps_r7, race_Laps_r8, Dt.eval, e1, hc, b0, cond_false, e3, show ((42 : Int) != 0) = true from rfl, cond_true]
      · simp only [F_ref24_Laps, ref24_Laps_K, ref24_Laps_r0, ref24_Laps_r1, ref24_Laps_r2, ref24_Laps_r3, ref24_Laps_r4, ref24_Laps_r5, ref24_Laps_r6, ref24_Laps_r7, Dt.eval, e2, hc, b0, cond_false]; rfl
    · have hL := ldT_lead hl n dd
      obtain ⟨a, ha, e3⟩ := of_eq d hf hl hn hd hc1
      obtain ⟨a', ha', e4⟩ := rcrest_eq d hf hl hn hd h0 h2
      obtain rfl := Crest.uniq hok ha hL.1 ha'
      have hb := crest_bd hok ha hn hd hL.1
      have hle := crest_le hok ha h2 hL
      have hck := crest_chk hok ha h2 hL
      obtain ⟨r, hr⟩ := ha.head
      have e5 := reigns_eq d hf hl hn hd ht hu hc e3 hb hck hr
      have e6 := between24_eq d hf (n := n) (dd := dd) ht hu e4 hb (by omega) hr
      have e7 := laps_eq d hf hn hd ht hu hc e3 hb hck hr
      have o3 := (ratioChk_zero h3).1
      have e8 := rlaps_loop d hb (by omega) ht hu o3 (gtL_pw o3 (chkL_zero hck).2.2) d 1 0 (by omega) (chkL_zero hck).1 (by omega)
      have hdr : a.drop 1 = r := by rw [hr]; rfl
      rw [hdr, Nat.zero_add] at e8
      have hlen := reiL_len t u (n, dd, (ldT l n dd).1, ()) r
      have hal : a.length = r.length + 1 := by rw [hr]; rfl
      have c1 : ((l.length : Int) == 0) = false := by
        rw [beq_eq_false_iff_ne]
        have := List.length_pos_iff.2 hl
        omega
      refine ⟨_, _, e5, ?_, by show (reiL t u _ r).length ≤ 4096; omega, e7, ?_⟩
      · simp only [F_ref24_Reigns, ref24_Reigns_K, ref24_Reigns_r0, ref24_Reigns_r1, ref24_Reigns_r2, ref24_Reigns_r3, ref24_Reigns_r4, ref24_Reigns_r5, Dt.eval, e2, hc, b0, cond_false, c1, e6]
      · simp only [F_ref24_Laps, ref24_Laps_K, ref24_Laps_r0, ref24_Laps_r1, ref24_Laps_r2, ref24_Laps_r3, ref24_Laps_r4, ref24_Laps_r5, ref24_Laps_r6, ref24_Laps_r7, Dt.eval, e2, hc, b0, cond_false, c1, e4]
        exact e8
  · have hb : (chk2 l n dd t u != 0) = true := by simpa using hc
    refine ⟨([], chk2 l n dd t u), (0, chk2 l n dd t u), ?_, ?_, by simp, ?_, ?_⟩
    · simp only [F_race_Reigns, race_Reigns_K, race_Reigns_r0, race_Reigns_r1, race_Reigns_r2, race_Reigns_r3, race_Reigns_r4, race_Reigns_r5, race_Reigns_r6, race_Reigns_r7, race_Reigns_r8, Dt.eval, e1, hb, cond_true]
    · simp only [F_ref24_Reigns, ref24_Reigns_K, ref24_Reigns_r0, ref24_Reigns_r1, ref24_Reigns_r2, ref24_Reigns_r3, ref24_Reigns_r4, ref24_Reigns_r5, Dt.eval, e2, hb, cond_true]
    · simp only [F_race_Laps, race_Laps_K, race_Laps_r0, race_Laps_r1, race_Laps_r2, race_Laps_r3, race_Laps_r4, race_Laps_r5, race_Laps_r6, race_Laps_r7, race_Laps_r8, Dt.eval, e1, hb, cond_true]
    · simp only [F_ref24_Laps, ref24_Laps_K, ref24_Laps_r0, ref24_Laps_r1, ref24_Laps_r2, ref24_Laps_r3, ref24_Laps_r4, ref24_Laps_r5, ref24_Laps_r6, ref24_Laps_r7, Dt.eval, e2, hb, cond_true]
theorem rreigns_plain (d : Nat) (hf : 5000 ≤ d) (l : List T3) (n dd t u : Int) (a : List T5) (hn : i64B n = true) (hd : i64B dd = true) (ht : i64B t = true) (hu : i64B u = true) (ha : bd5 a) : F_law24_RaceReigns d ((l, ()), (n, dd, ()), (t, u, ()), (a, ()), ()) = some true := by
  have e1 := great3_eq d l
  simp only [law24_RaceReigns_r0, law24_RaceReigns_r1, law24_RaceReigns_K, F_law24_RaceReigns, Dt.eval, e1]
  cases hg : great l.length with
  | true => simp only [cond_true, law24_RaceReigns_r2, Dt.eval]
  | false =>
    simp only [cond_false, Dt.eval]
    obtain ⟨v, c, e2, e3, hv, e4, e5⟩ := reigns_same d hf l hg hn hd ht hu
    by_cases h1 : a.length ≤ 310
    · have e6 := c5_eq d hf ha (by omega)
      have e7 := rc5_eq d hf ha (by omega)
      have e8 := reSame_refl d hf hv
      by_cases h2 : 40 < a.length
      · by_cases h3 : a.length ≤ 300
        · simp only [show decide ((a.length : Int) > 40) = true by rw [decide_eq_true_eq]; omega, cond_true, show decide ((a.length : Int) ≤ 300) = true by rw [decide_eq_true_eq]; omega, law24_RaceReigns_r2, Dt.eval]
        · simp only [show decide ((a.length : Int) > 40) = true by rw [decide_eq_true_eq]; omega, cond_true, show decide ((a.length : Int) ≤ 300) = false by rw [decide_eq_false_iff_not]; omega, cond_false, show decide ((a.length : Int) > 310) = false by rw [decide_eq_false_iff_not]; omega, law24_RaceReigns_r3, law24_RaceReigns_r4, law24_RaceReigns_r5, law24_RaceReigns_r6, law24_RaceReigns_r7, Dt.eval, law24_RaceReigns_K, e2, e3, e4, e5, e6, e7, e8, beq_self_eq_true]
      · simp only [show decide ((a.length : Int) > 40) = false by rw [decide_eq_false_iff_not]; omega, cond_false, show decide ((a.length : Int) > 310) = false by rw [decide_eq_false_iff_not]; omega, law24_RaceReigns_r3, law24_RaceReigns_r4, law24_RaceReigns_r5, law24_RaceReigns_r6, law24_RaceReigns_r7, Dt.eval, law24_RaceReigns_K, e2, e3, e4, e5, e6, e7, e8, beq_self_eq_true, cond_true]
    · simp only [show decide ((a.length : Int) > 40) = true by rw [decide_eq_true_eq]; omega, cond_true, show decide ((a.length : Int) ≤ 300) = false by rw [decide_eq_false_iff_not]; omega, cond_false, show decide ((a.length : Int) > 310) = true by rw [decide_eq_true_eq]; omega, law24_RaceReigns_r2, Dt.eval]
end Go.Proofs.Ytdpnndpbbdhnmaa

namespace Go.Proofs.Ytdpnndpbbdhnmaa
open Go Go.ChangeShapes Go.WideShapes Go.ChangeAt Go.RowKit Go.Pel Go.Deep Go.Tx
/-- the cells of a reign -/
def cells5 (x : Int × Int × Int × Int × Int × Unit) : List Value := [.int .i64 x.1, .int .i64 x.2.1, .int .i64 x.2.2.1, .int .i64 x.2.2.2.1, .int .i64 x.2.2.2.2.1]
def Fits5 (x : Int × Int × Int × Int × Int × Unit) : Prop := i64B x.1 = true ∧ i64B x.2.1 = true ∧ i64B x.2.2.1 = true ∧ i64B x.2.2.2.1 = true
theorem list5 {α : Type} (l : List α) (h : l.length = 5) : ∃ a b c d e, l = [a, b, c, d, e] := by
  match l, h with
  | [a, b, c, d, e], _ => exact ⟨a, b, c, d, e, rfl⟩
theorem i64B_in5 {a : Int} (h : -9223372036854775808 ≤ a ∧ a ≤ 9223372036854775807) : i64B a = true := by
  unfold i64B; simp only [Bool.and_eq_true, decide_eq_true_eq]; exact h
theorem valsL_5 : ∀ l : List (Int × Int × Int × Int × Int × Unit), valsL (Row.int .i64 (.int .i64 (.int .i64 (.int .i64 (.int .i64 .nil))))) l = l.flatMap cells5
  | [] => rfl
  | x :: l => by
    rw [List.flatMap_cons, ← valsL_5 l]
    rfl
section
variable {H : Type} {enc : TypeId × Value → H} {w : World} {base : Nat} {spare : Nat → Bool} {held : Bool}
theorem cellsE_reign : Try.prog.cellsOf 72 = 5 := by kernel_rfl
theorem reign_read (fuel : Nat) (l : List Value) (x : DataW H × List MemPlace) (h : DataW.trod enc Try.prog w base spare held fuel 72 l = some x) (hl : l.length = 5) : ∃ p : Int × Int × Int × Int × Int × Unit, l = cells5 p ∧ Fits5 p := by
  obtain ⟨c0, c1, c2, c3, c4, rfl⟩ := list5 l hl
  obtain ⟨m4, y4, h4⟩ := field_at Try.underlying72 h (i := 0) rfl rfl rfl cellsF_ratio
  obtain ⟨m5, y5, h5⟩ := field_at Try.underlying72 h (i := 1) rfl rfl rfl cellsF_ratio
  obtain ⟨m6, y6, h6⟩ := field_at Try.underlying72 h (i := 2) rfl rfl rfl cellsF_int
  have h4' : DataW.trod enc Try.prog w base spare held m4 26 [c0, c1] = some y4 := by simpa using h4
  have h5' : DataW.trod enc Try.prog w base spare held m5 26 [c2, c3] = some y5 := by simpa using h5
  obtain ⟨n, d, e4, w4, w5⟩ := ratio_cells h4' rfl
  obtain ⟨n', d', e5, w6, w7⟩ := ratio_cells h5' rfl
  obtain ⟨i, e6, w8⟩ := int_cell Try.underlying3 h6
  simp at e4 e5 e6
  obtain ⟨rfl, rfl⟩ := e4
  obtain ⟨rfl, rfl⟩ := e5
  subst e6
  exact ⟨(n, d, n', d', i, ()), rfl, i64B_in5 w4, i64B_in5 w5, i64B_in5 w6, i64B_in5 w7⟩
end
end Go.Proofs.Ytdpnndpbbdhnmaa
