/- Walks of the references; the orders agree; examples. -/
import Derived.Test.YtdpnndpbbdhnmaaGh
set_option linter.unusedSimpArgs false
set_option linter.unusedVariables false
namespace Go.Pel
open Go Go.Tx
abbrev T5 : Type := Int × Int × Int × Int × Int × Unit
/-- the reigns of a list of leads until a time -/
def reiL (t u : Int) : T3 → List T3 → List T5
  | x, [] => [(x.1, x.2.1, t, u, x.2.2.1, ())]
  | x, y :: r => if y.1 * u < t * y.2.1 then (x.1, x.2.1, y.1, y.2.1, x.2.2.1, ()) :: reiL t u y r else [(x.1, x.2.1, t, u, x.2.2.1, ())]
theorem reiL_len (t u : Int) : ∀ (x : T3) (r : List T3), (reiL t u x r).length ≤ r.length + 1
  | x, [] => by simp [reiL]
  | x, y :: r => by
    unfold reiL
    have := reiL_len t u y r
    split
    · rw [List.length_cons, List.length_cons]; omega
    · simp
end Go.Pel
namespace Go.Proofs.Ytdpnndpbbdhnmaa
open Go Go.Tx Go.Pel
theorem fChk_eq (d : Nat) (l : List T3) : F_field_Check d ((l, ()), ()) = some (fieldChk (ptsL l)) := F_field_Check_eq _ _ rfl
theorem r3Chk_eq (d : Nat) (l : List T3) : F_ref03_Check d ((l, ()), ()) = some (fieldChk (ptsL l)) := F_ref03_Check_eq _ _ rfl
theorem rcheck_eq (d : Nat) (l : List T3) {n dd t u : Int} (hn : i64B n = true) (hd : i64B dd = true) (ht : i64B t = true) (hu : i64B u = true) : F_race_check d ((l, ()), (n, dd, ()), (t, u, ()), ()) = some (chk2 l n dd t u) := by
  have e1 := fChk_eq d l
  have e2 := pChk_eq d hn hd
  have e3 := pChk_eq d ht hu
  have e4 := rCmp_eq d n dd t u hn hd ht hu
  have b0 : ((0 : Int) != 0) = false := rfl
  have b8 : ((8 : Int) != 0) = true := rfl
  unfold chk2
  simp only [F_race_check, race_check_K, race_check_r0, race_check_r1, race_check_r2, race_check_r3, race_check_r4, race_check_r5, race_check_r6, race_check_r7, race_check_r8, race_check_r9, Dt.eval, e1]
  by_cases h : fieldChk (ptsL l) = 0
  · simp only [h, b0, cond_false, ne_eq, not_true_eq_false, if_false, e2, Dt.eval]
    rcases ratioChk_08 n dd with h1 | h1
    · simp only [h1, b0, cond_false, not_true_eq_false, if_false, e3, Dt.eval]
      rcases ratioChk_08 t u with h2 | h2
      · have e5 : (cmpR n dd t u).1 = cmpQ n dd t u := by unfold cmpR; rw [if_pos ⟨h1, h2⟩]
        simp only [h2, b0, cond_false, not_true_eq_false, if_false, e4, e5, Dt.eval]
        by_cases h3 : 0 < cmpQ n dd t u
        · simp only [gt_iff_lt, h3, decide_true, cond_true, if_true]
        · simp only [gt_iff_lt, h3, decide_false, cond_false, if_false]
      · simp only [h2, b8, cond_true, show ¬ (8 : Int) = 0 by decide, not_false_eq_true, if_true]
    · simp only [h1, b8, cond_true, show ¬ (8 : Int) = 0 by decide, not_false_eq_true, if_true, Dt.eval]
  · have hb : (fieldChk (ptsL l) != 0) = true := by simpa using h
    simp only [hb, cond_true, ne_eq, h, not_false_eq_true, if_true]
theorem asked_eq (d : Nat) (l : List T3) {n dd t u : Int} (hn : i64B n = true) (hd : i64B dd = true) (ht : i64B t = true) (hu : i64B u = true) : F_ref24_Asked d ((l, ()), (n, dd, ()), (t, u, ()), ()) = some (chk2 l n dd t u) := by
  have e1 := r3Chk_eq d l
  have e2 := rBoth_eq d hn hd ht hu
  have e4 := rCompare_eq d n dd t u hn hd ht hu
  have b0 : ((0 : Int) != 0) = false := rfl
  have b8 : ((8 : Int) != 0) = true := rfl
  unfold chk2
  simp only [F_ref24_Asked, ref24_Asked_K, ref24_Asked_r0, ref24_Asked_r1, ref24_Asked_r2, ref24_Asked_r3, ref24_Asked_r4, ref24_Asked_r5, ref24_Asked_r6, ref24_Asked_r7, Dt.eval, e1]
  by_cases h : fieldChk (ptsL l) = 0
  · simp only [h, b0, cond_false, ne_eq, not_true_eq_false, if_false, e2, Dt.eval]
    rcases ratioChk_08 n dd with h1 | h1
    · simp only [h1, ne_eq, not_true_eq_false, if_false]
      rcases ratioChk_08 t u with h2 | h2
      · simp only [h2, b0, cond_false, not_true_eq_false, if_false, e4, Dt.eval]
        by_cases h3 : 0 < cmpQ n dd t u
        · simp only [gt_iff_lt, h3, decide_true, cond_true, if_true]
        · simp only [gt_iff_lt, h3, decide_false, cond_false, if_false]
      · simp only [h2, b8, cond_true, show ¬ (8 : Int) = 0 by decide, not_false_eq_true, if_true]
    · simp only [h1, ne_eq, b8, cond_true, show ¬ (8 : Int) = 0 by decide, not_false_eq_true, if_true, Dt.eval]
  · have hb : (fieldChk (ptsL l) != 0) = true := by simpa using h
    simp only [hb, cond_true, ne_eq, h, not_false_eq_true, if_true, Dt.eval, e1]
theorem less_eq (d : Nat) {n1 d1 n2 d2 : Int} (h1 : i64B n1 = true) (h2 : i64B d1 = true) (h3 : i64B n2 = true) (h4 : i64B d2 = true) (k1 : ratioChk n1 d1 = 0) (k2 : ratioChk n2 d2 = 0) : F_race_less d ((n1, d1, ()), (n2, d2, ()), ()) = some (decide (n1 * d2 < n2 * d1)) := by
  have e := rCmp_eq d n1 d1 n2 d2 h1 h2 h3 h4
  have e5 : (cmpR n1 d1 n2 d2).1 = cmpQ n1 d1 n2 d2 := by unfold cmpR; rw [if_pos ⟨k1, k2⟩]
  simp only [F_race_less, race_less_K, race_less_r0, race_less_r1, race_less_r2, Dt.eval, e, e5]
  refine congrArg some (?_ : decide ((cmpQ n1 d1 n2 d2 : Int) < (0 : Int)) = decide (n1 * d2 < n2 * d1))
  rcases cmpQ_tri n1 d1 n2 d2 with ⟨j1, j2⟩ | ⟨j1, j2⟩ | ⟨j1, j2⟩
  · rw [j1, decide_eq_true j2]; rfl
  · rw [j1, decide_eq_false (show ¬ n1 * d2 < n2 * d1 by omega)]; rfl
  · rw [j1, decide_eq_false (show ¬ n1 * d2 < n2 * d1 by omega)]; rfl
set_option maxHeartbeats 2000000 in
theorem rei_loop (d : Nat) {a : List T3} {t u : Int} (hb : bdL a) (hc : chkR none a = true) (hlen : a.length ≤ 1000) (ht : i64B t = true) (hu : i64B u = true) (hr : ratioChk t u = 0) : ∀ (f i : Nat) (x : T3) (pre : List T5), a.length - (i + 1) < f → a[i]? = some x → pre.length = i →
    iter (race_Reigns_L2 d) f ((a.length : Int), ((i + 1 : Nat) : Int), t, u, pre ++ [(x.1, x.2.1, t, u, x.2.2.1, ())], a) = some (pre ++ reiL t u x (a.drop (i + 1)), 0)
  | 0, i, x, pre, hf, _, _ => by omega
  | f + 1, i, x, pre, hf, hx, hpre => by
    have ih := fun x pre => rei_loop d hb hc hlen ht hu hr f (i + 1) x pre
    have hil := (List.getElem?_eq_some_iff.1 hx).1
    rw [iter]
    revert ih
    generalize iter (race_Reigns_L2 d) f = self
    intro ih
    unfold race_Reigns_L2
    by_cases hlt : i + 1 < a.length
    · obtain ⟨y, hy⟩ : ∃ y, a[i + 1]? = some y := ⟨_, List.getElem?_eq_getElem hlt⟩
      have hym := List.mem_of_getElem? hy
      obtain ⟨b1, b2⟩ := hb y hym
      have hyk := (okL_iff.1 ((chkR_pw hc).1 y hym)).1
      have e1 := less_eq d b1 b2 ht hu hyk hr
      rw [drop_of hy]
      unfold reiL
      simp only [race_Reigns_r9, Dt.eval, dec_lt hlt, cond_true]
      simp only [race_Reigns_r10, Dt.eval, inB_of hlt, cond_true, elt_some hy]
      simp only [race_Reigns_r11, Dt.eval, show decide (((i + 1 : Nat) : Int) > 0) = true by rw [decide_eq_true_eq]; omega, cond_true]
      simp only [race_Reigns_r12, race_Reigns_K, Dt.eval, e1]
      by_cases hl : y.1 * u < t * y.2.1
      · have wk : IntKind.wrap .i64 (((i + 1 : Nat) : Int) - 1) = ((i : Nat) : Int) := by rw [IntWalk.i64_in _ (by omega)]; omega
        have hpl : i < (pre ++ [((x.1, x.2.1, t, u, x.2.2.1, ()) : T5)]).length := by rw [List.length_append, hpre]; simp
        have hpx : (pre ++ [((x.1, x.2.1, t, u, x.2.2.1, ()) : T5)])[i]? = some (x.1, x.2.1, t, u, x.2.2.1, ()) := by rw [List.getElem?_append_right (by omega), hpre, Nat.sub_self]; rfl
        have hset : ∀ z : T5, (pre ++ [((x.1, x.2.1, t, u, x.2.2.1, ()) : T5)]).set i z = pre ++ [z] := fun z => by
          rw [List.set_append_right _ _ (by omega), hpre, Nat.sub_self]; rfl
        simp only [decide_eq_true hl, Bool.not_true, cond_false]
        simp only [race_Reigns_r13, Dt.eval, wk, inB_of hpl, cond_true, elt_some hpx]
        simp only [Int.toNat_natCast, hset]
        have hap : apB (pre ++ [((x.1, x.2.1, y.1, y.2.1, x.2.2.1, ()) : T5)]).length 1 = true := by unfold apB; rw [Nat.ble_eq, List.length_append, hpre]; simp; omega
        simp only [race_Reigns_J3, race_Reigns_r14, Dt.eval, List.length_cons, List.length_nil, Nat.zero_add, hap, cond_true]
        simp only [race_Reigns_r15, Dt.eval, wrap_succ (show i + 1 < 1000000 by omega)]
        have := ih y (pre ++ [(x.1, x.2.1, y.1, y.2.1, x.2.2.1, ())]) (by omega) hy (by rw [List.length_append, hpre]; rfl)
        rw [if_pos hl]
        refine this.trans (congrArg (fun q : List T5 => some (q, (0 : Int))) ?_)
        rw [List.append_assoc]
        rfl
      · simp only [decide_eq_false hl, Bool.not_false, cond_true]
        simp only [race_Reigns_J1, race_Reigns_r16, Dt.eval]
        rw [if_neg hl]
    · simp only [race_Reigns_r9, Dt.eval, dec_nlt hlt, cond_false]
      simp only [race_Reigns_J1, race_Reigns_r16, Dt.eval]
      rw [List.drop_eq_nil_of_le (by omega)]
      rfl
theorem reigns_eq (d : Nat) (hf : 5000 ≤ d) {l : List T3} (hl : l ≠ []) {n dd t u : Int} (hn : i64B n = true) (hd : i64B dd = true) (ht : i64B t = true) (hu : i64B u = true) (hc : chk2 l n dd t u = 0) {a : List T3} (ha : F_crest_Of d ((l, ()), (n, dd, ()), ()) = some (a, 0)) (hb : bdL a) (hk : chkL a = 0) {x : T3} {r : List T3} (hx : a = x :: r) : F_race_Reigns d ((l, ()), (n, dd, ()), (t, u, ()), ()) = some (reiL t u x r, 0) := by
  have e1 := rcheck_eq d l hn hd ht hu
  obtain ⟨hok, h2, h3, h4⟩ := chk2_zero hc
  obtain ⟨k1, k2, k3⟩ := chkL_zero hk
  have b0 : ((0 : Int) != 0) = false := rfl
  have hx0 : a[0]? = some x := by rw [hx]; rfl
  have e2 := rei_loop d hb k3 (by omega) ht hu h3 (d - 1) 0 x [] (by omega) hx0 rfl
  obtain ⟨d', hd'⟩ : ∃ d', d = d' + 1 := ⟨d - 1, by omega⟩
  have hlt : (0 : Nat) < a.length := by omega
  simp only [F_race_Reigns, race_Reigns_K, race_Reigns_r0, race_Reigns_r1, race_Reigns_r2, race_Reigns_r3, race_Reigns_r4, race_Reigns_r5, race_Reigns_r6, race_Reigns_r7, race_Reigns_r8, Dt.eval, e1, hc, b0, cond_false, ha]
  have hit : iter (race_Reigns_L2 d) d ((a.length : Int), (0 : Int), t, u, ([] : List T5), a) = iter (race_Reigns_L2 d) (d - 1) ((a.length : Int), (((0 : Nat) + 1 : Nat) : Int), t, u, ([] : List T5) ++ [(x.1, x.2.1, t, u, x.2.2.1, ())], a) := by
    have hd2 : d = (d - 1) + 1 := by omega
    conv => lhs; arg 2; rw [hd2]
    rw [iter]
    generalize iter (race_Reigns_L2 d) (d - 1) = self
    unfold race_Reigns_L2
    simp only [race_Reigns_r9, Dt.eval, show decide ((0 : Int) < (a.length : Int)) = true by rw [decide_eq_true_eq]; omega, cond_true]
    simp only [race_Reigns_r10, Dt.eval, show inB (0 : Int) a.length = true from inB_of (k := 0) hlt, cond_true, show elt ziii a (0 : Int).toNat = x from elt_some (k := 0) hx0]
    simp only [race_Reigns_r11, Dt.eval, show decide ((0 : Int) > 0) = false from rfl, cond_false]
    simp only [race_Reigns_J3, race_Reigns_r14, Dt.eval, List.length_cons, List.length_nil, Nat.zero_add, show apB 0 1 = true from rfl, cond_true]
    simp only [race_Reigns_r15, Dt.eval, show IntKind.wrap .i64 ((0 : Int) + 1) = ((1 : Nat) : Int) by decide]
  rw [hit, e2, hx]
  rfl
end Go.Proofs.Ytdpnndpbbdhnmaa

namespace Go.Pel
open Go Go.Tx
end Go.Pel
namespace Go.Proofs.Ytdpnndpbbdhnmaa
open Go Go.Tx Go.Pel
end Go.Proofs.Ytdpnndpbbdhnmaa
