/- Walks of the references; the orders agree; examples. -/
import Derived.Test.YtdpnndpbbdhnmaaGi
set_option linter.unusedSimpArgs false
set_option linter.unusedVariables false
namespace Go.Pel
open Go Go.Tx
/-- the leads that begin until a time are the first ones -/
theorem lapN_drop {t u : Int} (hu : 1 ≤ u) {a : List T3} (h : a.Pairwise fun x y => gtL t u x = true → gtL t u y = true) : ∀ (m k : Nat), m = idxL t u a - k → lapN t u (a.drop k) = idxL t u a - k
  | 0, k, hm => by
    rw [← hm]
    have hk : idxL t u a ≤ k := by omega
    by_cases hl : k < a.length
    · obtain ⟨z, hz⟩ : ∃ z, a[idxL t u a]? = some z := ⟨_, List.getElem?_eq_getElem (by omega)⟩
      have hg := idxL_at hz
      obtain ⟨x, hx⟩ : ∃ x, a[k]? = some x := ⟨_, List.getElem?_eq_getElem hl⟩
      refine lapN_none hu h hx ?_
      rcases (by omega : idxL t u a = k ∨ idxL t u a < k) with e | e
      · rw [e, hx] at hz; injection hz with hz; subst hz; exact hg
      · obtain ⟨h1, rfl⟩ := List.getElem?_eq_some_iff.1 hz
        obtain ⟨h2, rfl⟩ := List.getElem?_eq_some_iff.1 hx
        exact (List.pairwise_iff_getElem.1 h) _ k h1 h2 e hg
    · rw [List.drop_eq_nil_of_le (by omega)]; rfl
  | m + 1, k, hm => by
    have hk : k < idxL t u a := by omega
    have hkl := idxL_le t u a
    obtain ⟨x, hx⟩ : ∃ x, a[k]? = some x := ⟨_, List.getElem?_eq_getElem (by omega)⟩
    have hg := idxL_lt hk hx
    have ih := lapN_drop hu h m (k + 1) (by omega)
    obtain ⟨h1, rfl⟩ := List.getElem?_eq_some_iff.1 hx
    rw [List.drop_eq_getElem_cons h1]
    unfold lapN at ih ⊢
    rw [List.countP_cons, ih, hg, Bool.not_false, if_pos rfl]
    omega
/-- the last reign -/
theorem reiL_last {t u : Int} : ∀ (x : T3) (r : List T3), ∃ (k : Nat) (z : T3) (w : T5), (x :: r)[k]? = some z ∧ (reiL t u x r).length = k + 1 ∧ (reiL t u x r)[k]? = some w ∧ w.2.2.2.2.1 = z.2.2.1 ∧ (∀ j y, 1 ≤ j → j ≤ k → (x :: r)[j]? = some y → y.1 * u < t * y.2.1) ∧ (∀ y, (x :: r)[k + 1]? = some y → ¬ y.1 * u < t * y.2.1)
  | x, [] => ⟨0, x, _, rfl, rfl, rfl, rfl, fun j y h1 h2 => by omega, fun y h => by cases h⟩
  | x, y :: r => by
    unfold reiL
    by_cases hl : y.1 * u < t * y.2.1
    · rw [if_pos hl]
      obtain ⟨k, z, w, h1, h2, h3, h4, h5, h6⟩ := reiL_last (t := t) (u := u) y r
      refine ⟨k + 1, z, w, h1, by rw [List.length_cons, h2], h3, h4, fun j v hj1 hj2 hv => ?_, h6⟩
      cases j with
      | zero => omega
      | succ j =>
        rw [List.getElem?_cons_succ] at hv
        cases j with
        | zero => simp only [List.getElem?_cons_zero, Option.some.injEq] at hv; subst hv; exact hl
        | succ j => exact h5 (j + 1) v (by omega) (by omega) hv
    · rw [if_neg hl]
      refine ⟨0, x, _, rfl, rfl, rfl, rfl, fun j v h1 h2 => by omega, fun v hv => ?_⟩
      simp only [List.getElem?_cons_succ, List.getElem?_cons_zero, Option.some.injEq] at hv
      subst hv; exact hl
/-- as many reigns as leads until a time; one less if the lead changes then -/
theorem reiL_idx {t u : Int} (hu : 1 ≤ u) {x : T3} {r : List T3} (hc : chkR none (x :: r) = true) (hx : gtL t u x = false) {k : Nat} {z : T3} (hz : (x :: r)[k]? = some z) (h5 : ∀ j y, 1 ≤ j → j ≤ k → (x :: r)[j]? = some y → y.1 * u < t * y.2.1) (h6 : ∀ y, (x :: r)[k + 1]? = some y → ¬ y.1 * u < t * y.2.1) :
    (idxL t u (x :: r) = k + 1) ∨ (idxL t u (x :: r) = k + 2 ∧ ∃ y, (x :: r)[k + 1]? = some y ∧ z.2.2.1 ≠ y.2.2.1) := by
  obtain ⟨k1, k2, _⟩ := chkR_pw hc
  have hlow : ∀ j y, j < k + 1 → (x :: r)[j]? = some y → gtL t u y = false := fun j y hj hy => by
    cases j with
    | zero => simp only [List.getElem?_cons_zero, Option.some.injEq] at hy; subst hy; exact hx
    | succ j =>
      have := h5 (j + 1) y (by omega) (by omega) hy
      cases hg : gtL t u y with
      | false => rfl
      | true => have := (gtL_iff ..).1 hg; omega
  have hkl := (List.getElem?_eq_some_iff.1 hz).1
  cases hy : (x :: r)[k + 1]? with
  | none =>
    refine .inl (idxL_only (by omega) hlow fun y hy' => ?_)
    rw [hy] at hy'; cases hy'
  | some y =>
    have hyl := (List.getElem?_eq_some_iff.1 hy).1
    cases hg : gtL t u y with
    | true =>
      refine .inl (idxL_only (by omega) hlow fun y' hy' => ?_)
      rw [hy] at hy'; injection hy' with hy'; subst hy'; exact hg
    | false =>
      refine .inr ⟨idxL_only (by omega) (fun j v hj hv => ?_) (fun v hv => ?_), y, rfl, ?_⟩
      · rcases (by omega : j < k + 1 ∨ j = k + 1) with e | e
        · exact hlow j v e hv
        · subst e; rw [hy] at hv; injection hv with hv; subst hv; exact hg
      · have hn := h6 y hy
        obtain ⟨h1, e1⟩ := List.getElem?_eq_some_iff.1 hy
        obtain ⟨h2, e2⟩ := List.getElem?_eq_some_iff.1 hv
        have hlt := (List.pairwise_iff_getElem.1 k2) (k + 1) (k + 2) h1 h2 (by omega)
        rw [e1, e2] at hlt
        have hng : ¬ t * y.2.1 < y.1 * u := fun q => by rw [(gtL_iff t u y).2 q] at hg; cases hg
        have o2 := (ratioChk_zero (okL_iff.1 (k1 y (List.mem_of_getElem? hy))).1).1
        have o3 := (ratioChk_zero (okL_iff.1 (k1 v (List.mem_of_getElem? hv))).1).1
        rw [gtL_iff]
        exact q_lt' (b := y.1) hu o2 o3 (by omega) hlt
      · exact nx_at hc hz hy
where
  nx_at {x : T3} {r : List T3} (hc : chkR none (x :: r) = true) {k : Nat} {z y : T3} (hz : (x :: r)[k]? = some z) (hy : (x :: r)[k + 1]? = some y) : z.2.2.1 ≠ y.2.2.1 := by
    have gen : ∀ (o : Option T3) (l : List T3) (k : Nat), chkR o l = true → l[k]? = some z → l[k + 1]? = some y → nxB z y = true := by
      intro o l
      induction l generalizing o with
      | nil => intro k _ h; cases h
      | cons v l ih =>
        intro k h h1 h2
        unfold chkR at h
        simp only [Bool.and_eq_true] at h
        cases k with
        | zero =>
          simp only [List.getElem?_cons_zero, Option.some.injEq] at h1
          subst h1
          cases l with
          | nil => simp at h2
          | cons v' l' =>
            simp only [Nat.zero_add, List.getElem?_cons_succ, List.getElem?_cons_zero, Option.some.injEq] at h2
            subst h2
            have h3 := h.2
            unfold chkR at h3
            simp only [Bool.and_eq_true] at h3
            exact h3.1.2
        | succ k =>
          rw [List.getElem?_cons_succ] at h1 h2
          exact ih _ k h.2 h1 h2
    exact (nxB_iff.1 (gen none _ k hc hz hy)).2
end Go.Pel
namespace Go.Proofs.Ytdpnndpbbdhnmaa
open Go Go.Tx Go.Pel
/-- a valid field with points, and two valid times in order, that the laws look at -/
def fineC (l : List T3) (n dd t u : Int) : Bool := !great l.length && decide (0 < l.length) && (chk2 l n dd t u == 0)
theorem fine_eq (d : Nat) (l : List T3) {n dd t u : Int} (hn : i64B n = true) (hd : i64B dd = true) (ht : i64B t = true) (hu : i64B u = true) : F_law24_fine d ((l, ()), (n, dd, ()), (t, u, ()), ()) = some (fineC l n dd t u) := by
  have e1 := great3_eq d l
  have e2 := asked_eq d l hn hd ht hu
  unfold fineC
  simp only [F_law24_fine, law24_fine_K, law24_fine_r0, law24_fine_r1, Dt.eval, e1]
  cases hg : great l.length with
  | true => rfl
  | false =>
    by_cases h1 : 0 < l.length
    · simp only [Bool.not_false, cond_true, show decide ((l.length : Int) > 0) = true by rw [decide_eq_true_eq]; omega, e2, Dt.eval, h1, decide_true, Bool.true_and]
    · simp only [Bool.not_false, cond_true, show decide ((l.length : Int) > 0) = false by rw [decide_eq_false_iff_not]; omega, cond_false, h1, decide_false, Bool.true_and, Bool.false_and]
theorem fineC_iff {l : List T3} {n dd t u : Int} (h : fineC l n dd t u = true) : l ≠ [] ∧ chk2 l n dd t u = 0 := by
  unfold fineC at h
  simp only [Bool.and_eq_true, decide_eq_true_eq, beq_iff_eq] at h
  obtain ⟨⟨_, h1⟩, h3⟩ := h
  exact ⟨by intro e; rw [e] at h1; simp at h1, h3⟩
theorem wrap_sum {x y z : Nat} (h : x + y = z) (hz : z ≤ 100000) : IntKind.wrap .i64 ((x : Int) + (y : Int)) = ((z : Nat) : Int) := by rw [IntWalk.i64_in _ (by omega)]; omega
theorem cast_s (k : Nat) : ((k + 1 : Nat) : Int) = (k : Int) + 1 := by omega
theorem wrap_pred {k : Nat} (h : k < 1000000) : IntKind.wrap .i64 ((k : Int) + 1 - 1) = ((k : Nat) : Int) := by rw [IntWalk.i64_in _ (by omega)]; omega
theorem succ_ne0 (k : Nat) : ((k : Int) + 1 == 0) = false := by rw [beq_eq_false_iff_ne]; omega
theorem nat_beq {a b : Nat} (h : a = b) : ((a : Int) == (b : Int)) = true := by rw [h]; exact beq_self_eq_true _
theorem tmin_n3 (n : Nat) : tmin (n : Int) 3 = ((min n 3 : Nat) : Int) := by
  unfold tmin
  split <;> omega
theorem tmin_3n (n : Nat) : tmin (3 : Int) (n : Int) = ((min 3 n : Nat) : Int) := by
  unfold tmin
  split <;> omega
theorem medals_eq (d : Nat) {l : List T3} (hl : l ≠ []) (hok : FldOk l) (h0 : fieldChk (ptsL l) = 0) {n dd : Int} (hn : i64B n = true) (hd : i64B dd = true) (hr : ratioChk n dd = 0) : ∃ s, F_race_Medals d ((l, ()), (n, dd, ()), ()) = some (((ldT l n dd).1, ()) :: s, 0) ∧ s.length + 1 = min 3 l.length := by
  have hl64 := hok.len
  obtain ⟨r, hr0⟩ := ldT_id hl n dd
  have e1 := order_at d hl64 h0 hn hd hr
  have hlen : (unI ((ordI n dd (ptsL l)).map Pt.id)).length = l.length := by rw [unI_len, List.length_map, (ordI_perm n dd (ptsL l)).length_eq, ptsL_len]
  have hpos := List.length_pos_iff.2 hl
  have ht : tmin (l.length : Int) 3 = ((min l.length 3 : Nat) : Int) := tmin_n3 _
  have c1 : (decide ((0 : Int) ≤ ((min l.length 3 : Nat) : Int)) && decide (((min l.length 3 : Nat) : Int) ≤ (l.length : Int))) = true := by
    simp only [Bool.and_eq_true, decide_eq_true_eq]; omega
  have ho : unI ((ordI n dd (ptsL l)).map Pt.id) = ((ldT l n dd).1, ()) :: unI r := by rw [hr0]; rfl
  refine ⟨(unI r).take (min l.length 3 - 1), ?_, ?_⟩
  · simp only [F_race_Medals, race_Medals_K, race_Medals_r0, race_Medals_r1, race_Medals_r2, race_Medals_r3, race_Medals_r4, Dt.eval, e1, show ((0 : Int) != 0) = false from rfl, cond_false, hlen, ht, c1, cond_true, Int.toNat_natCast]
    rw [ho, show min l.length 3 = (min l.length 3 - 1) + 1 by omega, List.take_succ_cons]
    rfl
  · rw [List.length_take]
    have : (unI r).length + 1 = l.length := by rw [← hlen, ho]; rfl
    omega
theorem alive24 : F_law24_alive 5000 () = some true := by kernel_rfl
set_option maxHeartbeats 2000000 in
theorem rlaps_plain (d : Nat) (hf : 5000 ≤ d) (ea : F_law24_alive d () = some true) (l : List T3) (n dd n1 d1 t u : Int) (hn : i64B n = true) (hd : i64B dd = true) (hn1 : i64B n1 = true) (hd1 : i64B d1 = true) (ht : i64B t = true) (hu : i64B u = true) : F_law24_RaceLaps d ((l, ()), (n, dd, ()), (n1, d1, ()), (t, u, ()), ()) = some true := by
  have f1 := fine_eq d l hn hd hn1 hd1
  have f2 := fine_eq d l hn1 hd1 ht hu
  simp only [F_law24_RaceLaps, law24_RaceLaps_r0, law24_RaceLaps_r1, law24_RaceLaps_K, Dt.eval, ea]
  simp only [law24_RaceLaps_r2, law24_RaceLaps_K, Dt.eval, f1]
  cases hf1 : fineC l n dd n1 d1 with
  | false => simp only [Bool.not_false, cond_true, law24_RaceLaps_r3, Dt.eval]
  | true =>
    simp only [Bool.not_true, cond_false, f2]
    cases hf2 : fineC l n1 d1 t u with
    | false => simp only [Bool.not_false, cond_true, law24_RaceLaps_r3, Dt.eval]
    | true =>
      obtain ⟨hl, hc1⟩ := fineC_iff hf1
      obtain ⟨_, hc2⟩ := fineC_iff hf2
      obtain ⟨hok, k0, k1, k01⟩ := chk2_zero hc1
      obtain ⟨_, _, k2, k12⟩ := chk2_zero hc2
      have o0 := (ratioChk_zero k0).1
      have o1 := (ratioChk_zero k1).1
      have o2 := (ratioChk_zero k2).1
      have k02 := leQ_trans o0 o1 o2 k01 k12
      have h0 := chk2_fld hc1
      have hc3 := chk2_of hok h0 k0 k2 k02
      have hl64 := hok.len
      have g0 : chk1 l n dd = 0 := by unfold chk1; rw [if_neg (by simpa using h0)]; exact k0
      have g1 : chk1 l n1 d1 = 0 := by unfold chk1; rw [if_neg (by simpa using h0)]; exact k1
      have hL := ldT_lead hl n dd
      have hL1 := ldT_lead hl n1 d1
      obtain ⟨a, ha, e1⟩ := of_eq d hf hl hn hd g0
      obtain ⟨b, hb, e2⟩ := of_eq d hf hl hn1 hd1 g1
      have ba := crest_bd hok ha hn hd hL.1
      have bb := crest_bd hok hb hn1 hd1 hL1.1
      have ca := crest_chk hok ha k0 hL
      have cb := crest_chk hok hb k1 hL1
      have la := crest_le hok ha k0 hL
      obtain ⟨ra, hra⟩ := ha.head
      obtain ⟨q1, x1, r1, j1, j2, j3, j4, j5⟩ := crest_from hok ha k0 hL o1 k01
      obtain ⟨q2, x2, r2, i1, i2, i3, i4, _⟩ := crest_from hok ha k0 hL o2 k02
      have hq1 := j4.uniq hok hL1
      have hq2 := i4.uniq hok (ldT_lead hl t u)
      rw [hq1] at j5
      have hbe := Crest.uniq hok hb hL1.1 j5
      have e3 := reigns_eq d hf hl hn hd ht hu hc3 e1 ba ca hra
      have e4 := laps_eq d hf hn hd ht hu hc3 e1 ba ca hra
      have e5 := laps_eq d hf hn hd hn1 hd1 hc1 e1 ba ca hra
      have e6 := laps_eq d hf hn1 hd1 ht hu hc2 e2 bb cb hbe
      have e7 := leader_at d hl h0 ht hu k2
      obtain ⟨s, e8, hs⟩ := medals_eq d hl hok h0 ht hu k2
      -- the numbers of laps
      have hpwt := gtL_pw (n := t) (dd := u) o2 (chkL_zero ca).2.2
      have hpwm := gtL_pw (n := n1) (dd := d1) o1 (chkL_zero ca).2.2
      have ixt := idxL_le t u a
      have ixm := idxL_le n1 d1 a
      have hmt : idxL n1 d1 a ≤ idxL t u a := by
        rcases Nat.lt_or_ge (idxL t u a) (idxL n1 d1 a) with k | k
        · obtain ⟨z, hz⟩ : ∃ z, a[idxL t u a]? = some z := ⟨_, List.getElem?_eq_getElem (by omega)⟩
          have z1 := (gtL_iff ..).1 (idxL_at hz)
          have z2 := idxL_lt k hz
          have z3 : ¬ n1 * z.2.1 < z.1 * d1 := fun q => by rw [(gtL_iff ..).2 q] at z2; cases z2
          have oz := (ratioChk_zero (okL_iff.1 ((chkR_pw (chkL_zero ca).2.2).1 z (List.mem_of_getElem? hz))).1).1
          have : n1 * z.2.1 < z.1 * d1 := q_lt' (b := t) o1 o2 oz k12 z1
          exact absurd this z3
        · exact k
      have hdr : ∀ k, 1 ≤ k → a.drop k = ra.drop (k - 1) := fun k hk => by
        rw [hra]
        obtain ⟨k', rfl⟩ : ∃ k', k = k' + 1 := ⟨k - 1, by omega⟩
        rfl
      have n1' : lapN t u ra = idxL t u a - 1 := by
        have := lapN_drop o2 hpwt _ 1 rfl
        rw [hdr 1 (by omega)] at this
        exact this
      have n2' : lapN n1 d1 ra = idxL n1 d1 a - 1 := by
        have := lapN_drop o1 hpwm _ 1 rfl
        rw [hdr 1 (by omega)] at this
        exact this
      have n3' : lapN t u r1 = idxL t u a - idxL n1 d1 a := by
        have := lapN_drop o2 hpwt _ (idxL n1 d1 a) rfl
        have hr1 : a.drop (idxL n1 d1 a) = r1 := by
          have e : a.drop (idxL n1 d1 a) = (a.drop (idxL n1 d1 a - 1)).drop 1 := by rw [List.drop_drop]; congr 1; omega
          rw [e, j2]; rfl
        rw [hr1] at this
        exact this
      have wsum : IntKind.wrap .i64 ((lapN n1 d1 ra : Int) + (lapN t u r1 : Int)) = ((lapN t u ra : Nat) : Int) := wrap_sum (by omega) (by omega)
      have la2 : a.length < 1000000 := by omega
      -- the last reign
      obtain ⟨k, z, w, w1, w2, w3, w4, w5, w6⟩ := reiL_last (t := t) (u := u) (n, dd, (ldT l n dd).1, ()) ra
      have hgx : gtL t u (n, dd, (ldT l n dd).1, ()) = false := by
        cases hg : gtL t u (n, dd, (ldT l n dd).1, ()) with
        | false => rfl
        | true => have := (gtL_iff ..).1 hg; simp only at this; unfold leQ at k02; omega
      have hrc : chkR none ((n, dd, (ldT l n dd).1, ()) :: ra) = true := by rw [← hra]; exact (chkL_zero ca).2.2
      have hix := reiL_idx o2 hrc hgx w1 w5 w6
      rw [← hra] at hix w1
      have hlead : ((a[idxL t u a - 1]?).map fun y => y.2.2.1) = some (ldT l t u).1 := by
        have : (a.drop (idxL t u a - 1))[0]? = some x2 := by rw [i2]; rfl
        rw [List.getElem?_drop, Nat.add_zero] at this
        rw [this, ← hq2, ← i3]; rfl
      have hkl := (List.getElem?_eq_some_iff.1 w1).1
      have b0 : ((0 : Int) != 0) = false := rfl
      have hlenR : ((reiL t u (n, dd, (ldT l n dd).1, ()) ra).length : Int) = (k : Int) + 1 := by rw [w2]; exact cast_s k
      have hk6 : k < 1000000 := Nat.lt_trans hkl la2
      have wl : IntKind.wrap .i64 ((k : Int) + 1 - 1) = ((k : Nat) : Int) := wrap_pred hk6
      have c1 : ((k : Int) + 1 == 0) = false := succ_ne0 k
      have tm : tmin (3 : Int) (l.length : Int) = ((min 3 l.length : Nat) : Int) := tmin_3n _
      have hml : (((((ldT l t u).1, ()) :: s).length : Int) != tmin (3 : Int) (l.length : Int)) = false := by
        rw [tm, List.length_cons, hs, bne_self_eq_false]
      have cin : inB (0 : Int) (((ldT l t u).1, ()) :: s).length = true := inB_of (k := 0) (by simp)
      have cel : elt zi (((ldT l t u).1, ()) :: s) (0 : Int).toNat = ((ldT l t u).1, ()) := elt_some (k := 0) rfl
      try simp only [Bool.not_true, cond_false]
      simp only [law24_RaceLaps_r4, law24_RaceLaps_K, Dt.eval, e3]
      simp only [law24_RaceLaps_r5, law24_RaceLaps_K, Dt.eval, e4]
      simp only [law24_RaceLaps_r6, law24_RaceLaps_K, Dt.eval, e5]
      simp only [law24_RaceLaps_r7, law24_RaceLaps_K, Dt.eval, e6]
      simp only [law24_RaceLaps_r8, law24_RaceLaps_K, Dt.eval, e7]
      simp only [law24_RaceLaps_r9, law24_RaceLaps_K, Dt.eval, e8]
      simp only [law24_RaceLaps_r10, Dt.eval, b0, cond_false, hlenR, c1, hml]
      simp only [law24_RaceLaps_r12, Dt.eval, hlenR, wl]
      simp only [law24_RaceLaps_r13, Dt.eval, hlenR, wl, inB_of (show k < (reiL t u (n, dd, (ldT l n dd).1, ()) ra).length by rw [w2]; exact Nat.lt_succ_self k), cond_true, elt_some w3]
      rcases hix with hix | ⟨hix, y, hy, hne⟩
      · -- the lead does not change then
        have hz : z.2.2.1 = (ldT l t u).1 := by
          rw [hix, show k + 1 - 1 = k from rfl, w1] at hlead
          exact Option.some.inj hlead
        have c2 : (w.2.2.2.2.1 != (ldT l t u).1) = false := by rw [w4, hz, bne_self_eq_false]
        have c3 : ((lapN t u ra : Int) == ((k : Nat) : Int)) = true := nat_beq (by rw [n1', hix]; rfl)
        simp only [c2, cond_false]
        simp only [law24_RaceLaps_J1, law24_RaceLaps_r15, Dt.eval, cond_true, c3, wsum, beq_self_eq_true, cin, cel, Bool.not_true, cond_false]
      · have hz : y.2.2.1 = (ldT l t u).1 := by
          rw [hix, show k + 2 - 1 = k + 1 from rfl, hy] at hlead
          exact Option.some.inj hlead
        have c2 : (w.2.2.2.2.1 != (ldT l t u).1) = true := by rw [w4, bne_iff_ne, ← hz]; exact hne
        have c3 : ((lapN t u ra : Int) == ((k + 1 : Nat) : Int)) = true := nat_beq (by rw [n1', hix]; rfl)
        simp only [c2, cond_true]
        simp only [law24_RaceLaps_r14, Dt.eval, wrap_succ hk6]
        simp only [law24_RaceLaps_J1, law24_RaceLaps_r15, Dt.eval, cond_true, c3, wsum, beq_self_eq_true, cin, cel, Bool.not_true, cond_false]
end Go.Proofs.Ytdpnndpbbdhnmaa
