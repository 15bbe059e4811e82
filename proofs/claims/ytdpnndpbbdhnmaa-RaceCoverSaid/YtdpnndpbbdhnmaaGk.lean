/- Walks of the references; the orders agree; examples. -/
import Derived.Test.YtdpnndpbbdhnmaaGj
set_option linter.unusedSimpArgs false
set_option linter.unusedVariables false
namespace Go.Pel
open Go Go.Tx
/-- what stands in the reigns of a list of leads -/
theorem reiL_str {t u : Int} : ∀ (x : T3) (r : List T3) (i : Nat) (w : T5), (reiL t u x r)[i]? = some w → ∃ y, (x :: r)[i]? = some y ∧ w.1 = y.1 ∧ w.2.1 = y.2.1 ∧ w.2.2.2.2.1 = y.2.2.1 ∧
    ((i + 1 = (reiL t u x r).length ∧ w.2.2.1 = t ∧ w.2.2.2.1 = u ∧ ∀ y', (x :: r)[i + 1]? = some y' → ¬ y'.1 * u < t * y'.2.1) ∨
     (i + 1 < (reiL t u x r).length ∧ ∃ y', (x :: r)[i + 1]? = some y' ∧ w.2.2.1 = y'.1 ∧ w.2.2.2.1 = y'.2.1 ∧ y'.1 * u < t * y'.2.1))
  | x, [], i, w, h => by
    unfold reiL at h
    cases i with
    | zero =>
      simp only [List.getElem?_cons_zero, Option.some.injEq] at h
      subst h
      exact ⟨x, rfl, rfl, rfl, rfl, .inl ⟨rfl, rfl, rfl, fun y' h => by cases h⟩⟩
    | succ i => simp at h
  | x, y :: r, i, w, h => by
    unfold reiL at h ⊢
    by_cases hl : y.1 * u < t * y.2.1
    · rw [if_pos hl] at h ⊢
      cases i with
      | zero =>
        simp only [List.getElem?_cons_zero, Option.some.injEq] at h
        subst h
        have hpos : 0 < (reiL t u y r).length := by
          cases r with
          | nil => simp [reiL]
          | cons z r => unfold reiL; split <;> simp
        refine ⟨x, rfl, rfl, rfl, rfl, .inr ⟨by rw [List.length_cons]; omega, y, rfl, rfl, rfl, hl⟩⟩
      | succ i =>
        rw [List.getElem?_cons_succ] at h
        obtain ⟨z, h1, h2, h3, h4, h5⟩ := reiL_str y r i w h
        refine ⟨z, h1, h2, h3, h4, ?_⟩
        rcases h5 with ⟨k1, k2, k3, k4⟩ | ⟨k1, y', k2, k3⟩
        · exact .inl ⟨by rw [List.length_cons]; omega, k2, k3, k4⟩
        · exact .inr ⟨by rw [List.length_cons]; omega, y', k2, k3⟩
    · rw [if_neg hl] at h ⊢
      cases i with
      | zero =>
        simp only [List.getElem?_cons_zero, Option.some.injEq] at h
        subst h
        refine ⟨x, rfl, rfl, rfl, rfl, .inl ⟨rfl, rfl, rfl, fun y' h => ?_⟩⟩
        simp only [List.getElem?_cons_succ, List.getElem?_cons_zero, Option.some.injEq] at h
        subst h; exact hl
      | succ i => simp at h
theorem chk5_of {m : Bool} : ∀ (l : List T5) (o : Option T5), (∀ i w, l[i]? = some w → ok5 w = true ∧ iv5 m w = true ∧ ∀ v, 0 < i → l[i - 1]? = some v → lk5 v w = true) → (∀ v w, o = some v → l[0]? = some w → lk5 v w = true) → chk5 m o l = true
  | [], _, _, _ => rfl
  | x :: r, o, h, ho => by
    unfold chk5
    obtain ⟨h1, h2, _⟩ := h 0 x rfl
    simp only [Bool.and_eq_true]
    refine ⟨⟨⟨h1, h2⟩, ?_⟩, chk5_of r (some x) (fun i w hw => ?_) (fun v w hv hw => ?_)⟩
    · cases o with
      | none => rfl
      | some v => exact ho v x rfl rfl
    · obtain ⟨g1, g2, g3⟩ := h (i + 1) w hw
      refine ⟨g1, g2, fun v hi hv => g3 v (by omega) ?_⟩
      obtain ⟨j, rfl⟩ : ∃ j, i = j + 1 := ⟨i - 1, by omega⟩
      exact hv
    · injection hv with hv
      subst hv
      exact (h 1 w hw).2.2 x (by omega) rfl
/-- the reigns of a crest are valid -/
theorem reiL_chk {t u : Int} (hr : ratioChk t u = 0) {x : T3} {r : List T3} (hc : chkR none (x :: r) = true) (hlen : (x :: r).length ≤ 300) (hle : leQ x.1 x.2.1 t u) : chk5V (reiL t u x r) = 0 := by
  obtain ⟨k1, k2, _⟩ := chkR_pw hc
  have hl1 := reiL_len t u x r
  have hpos : 0 < (reiL t u x r).length := by
    cases r with
    | nil => simp [reiL]
    | cons z r => unfold reiL; split <;> simp
  have hv : ∀ {j : Nat} {y : T3}, (x :: r)[j]? = some y → okL y = true := fun hy => k1 _ (List.mem_of_getElem? hy)
  unfold chk5V
  rw [List.length_cons] at hlen
  rw [if_neg (by omega), if_pos]
  refine chk5_of _ _ (fun i w hw => ?_) (fun v w hv => by cases hv)
  obtain ⟨y, h1, h2, h3, h4, h5⟩ := reiL_str x r i w hw
  obtain ⟨o1, o2, o3⟩ := okL_iff.1 (hv h1)
  refine ⟨ok5_iff.2 ⟨by rw [h2, h3]; exact o1, ?_, by rw [h4]; exact o2, by rw [h4]; exact o3⟩, ?_, fun v hi hv' => ?_⟩
  · rcases h5 with ⟨_, e1, e2, _⟩ | ⟨_, y', hy', e1, e2, _⟩
    · rw [e1, e2]; exact hr
    · rw [e1, e2]; exact (okL_iff.1 (hv hy')).1
  · unfold iv5
    rcases h5 with ⟨e0, e1, e2, _⟩ | ⟨_, y', hy', e1, e2, _⟩
    · rw [h2, h3, e1, e2]
      rcases Nat.eq_zero_or_pos i with h0 | h0
      · subst h0
        simp only [List.getElem?_cons_zero, Option.some.injEq] at h1
        subst h1
        by_cases hlt : x.1 * u < t * x.2.1
        · rw [decide_eq_true hlt]; rfl
        · obtain ⟨q1, q2⟩ := q_eq o1 hr (by unfold leQ at hle; omega)
          rw [decide_eq_false hlt, decide_eq_true (show x.1 = t ∧ x.2.1 = u from ⟨q1, q2⟩), decide_eq_false (show ¬ 1 < (reiL t u x r).length by omega)]; rfl
      · obtain ⟨v, hv'⟩ : ∃ v, (reiL t u x r)[i - 1]? = some v := ⟨_, List.getElem?_eq_getElem (by omega)⟩
        obtain ⟨y2, _, _, _, _, g5⟩ := reiL_str x r (i - 1) v hv'
        rcases g5 with ⟨g0, _⟩ | ⟨_, y', hy', _, _, g⟩
        · omega
        · rw [show i - 1 + 1 = i by omega, h1] at hy'
          injection hy' with hy'
          subst hy'
          rw [decide_eq_true g]; rfl
    · obtain ⟨q1, r1⟩ := List.getElem?_eq_some_iff.1 h1
      obtain ⟨q2, r2⟩ := List.getElem?_eq_some_iff.1 hy'
      have := (List.pairwise_iff_getElem.1 k2) i (i + 1) q1 q2 (by omega)
      rw [r1, r2] at this
      rw [h2, h3, e1, e2, decide_eq_true this]; rfl
  · obtain ⟨y2, g1, _, _, g4, g5⟩ := reiL_str x r (i - 1) v hv'
    have hil := (List.getElem?_eq_some_iff.1 hw).1
    rcases g5 with ⟨g0, _⟩ | ⟨_, y', hy', e1, e2, _⟩
    · omega
    · rw [show i - 1 + 1 = i by omega, h1] at hy'
      injection hy' with hy'
      subst hy'
      unfold lk5
      have hne := reiL_idx.nx_at hc (k := i - 1) g1 (by rw [show i - 1 + 1 = i by omega]; exact h1)
      rw [h2, h3, h4, g4, decide_eq_true (show v.2.2.1 = y.1 ∧ v.2.2.2.1 = y.2.1 from ⟨e1, e2⟩), decide_eq_true (show y2.2.2.1 ≠ y.2.2.1 from hne)]; rfl
/-- a reign covers a time if its lead is the last one until then, and the time is before the end -/
theorem cover_iff {t u n1 d1 : Int} (hu : 1 ≤ u) (hd1 : 1 ≤ d1) (hle : leQ t u n1 d1) {x : T3} {r : List T3} (hc : chkR none (x :: r) = true) {i : Nat} {w : T5} (hw : (reiL n1 d1 x r)[i]? = some w) :
    (w.1 * u ≤ t * w.2.1 ∧ t * w.2.2.2.1 < w.2.2.1 * u) ↔ (t * d1 < n1 * u ∧ idxL t u (x :: r) = i + 1) := by
  obtain ⟨k1, k2, _⟩ := chkR_pw hc
  have hval : ∀ {j : Nat} {y : T3}, (x :: r)[j]? = some y → 1 ≤ y.2.1 := fun hy => (ratioChk_zero (okL_iff.1 (k1 _ (List.mem_of_getElem? hy))).1).1
  have hlt2 : ∀ {i j : Nat} {y z : T3}, i < j → (x :: r)[i]? = some y → (x :: r)[j]? = some z → y.1 * z.2.1 < z.1 * y.2.1 := fun {i j y z} hij hy hz => by
    obtain ⟨hi, rfl⟩ := List.getElem?_eq_some_iff.1 hy
    obtain ⟨hj, rfl⟩ := List.getElem?_eq_some_iff.1 hz
    exact (List.pairwise_iff_getElem.1 k2) i j hi hj hij
  obtain ⟨y, h1, h2, h3, h4, h5⟩ := reiL_str x r i w hw
  have hil := (List.getElem?_eq_some_iff.1 h1).1
  rw [h2, h3]
  constructor
  · rintro ⟨c1, c2⟩
    have hlow : ∀ j z, j < i + 1 → (x :: r)[j]? = some z → gtL t u z = false := fun j z hj hz => by
      cases hg : gtL t u z with
      | false => rfl
      | true =>
        have hg := (gtL_iff ..).1 hg
        rcases (by omega : j < i ∨ j = i) with e | e
        · have := q_lt hu (hval hz) (hval h1) hg (Int.le_of_lt (hlt2 e hz h1))
          omega
        · subst e; rw [h1] at hz; injection hz with hz; subst hz; omega
    rcases h5 with ⟨_, e1, e2, e3⟩ | ⟨_, y', hy', e1, e2, e3⟩
    · rw [e1, e2] at c2
      refine ⟨c2, idxL_only (by omega) hlow fun z hz => ?_⟩
      have := e3 z hz
      rw [gtL_iff]
      exact q_lt (b := n1) hu hd1 (hval hz) c2 (by omega)
    · rw [e1, e2] at c2
      refine ⟨q_lt (b := y'.1) hu (hval hy') hd1 c2 (Int.le_of_lt e3), idxL_only (by omega) hlow fun z hz => ?_⟩
      rw [hy'] at hz; injection hz with hz; subst hz
      rw [gtL_iff]; exact c2
  · rintro ⟨c1, c2⟩
    have hn : gtL t u y = false := idxL_lt (by omega) h1
    have hn' : ¬ t * y.2.1 < y.1 * u := fun q => by rw [(gtL_iff t u y).2 q] at hn; cases hn
    refine ⟨by omega, ?_⟩
    rcases h5 with ⟨_, e1, e2, e3⟩ | ⟨_, y', hy', e1, e2, e3⟩
    · rw [e1, e2]; exact c1
    · rw [e1, e2]
      exact (gtL_iff t u y').1 (idxL_at (by rw [c2]; exact hy'))
/-- before the end there is a reign that covers a time -/
theorem cover_in {t u n1 d1 : Int} (hu : 1 ≤ u) (hd1 : 1 ≤ d1) (hlt : t * d1 < n1 * u) {x : T3} {r : List T3} (hc : chkR none (x :: r) = true) : idxL t u (x :: r) ≤ (reiL n1 d1 x r).length := by
  obtain ⟨k1, _, _⟩ := chkR_pw hc
  obtain ⟨k, z, w, w1, w2, _, _, _, w6⟩ := reiL_last (t := n1) (u := d1) x r
  rcases Nat.lt_or_ge (reiL n1 d1 x r).length (idxL t u (x :: r)) with h | h
  · have hk := idxL_le t u (x :: r)
    obtain ⟨y, hy⟩ : ∃ y, (x :: r)[k + 1]? = some y := ⟨_, List.getElem?_eq_getElem (by omega)⟩
    have hn := idxL_lt (n := t) (dd := u) (show k + 1 < idxL t u (x :: r) by omega) hy
    have hn' : ¬ t * y.2.1 < y.1 * u := fun q => by rw [(gtL_iff t u y).2 q] at hn; cases hn
    have o := (ratioChk_zero (okL_iff.1 (k1 y (List.mem_of_getElem? hy))).1).1
    have := w6 y hy
    have : y.1 * d1 < n1 * y.2.1 := q_lt' (b := t) o hu hd1 (by omega) hlt
    contradiction
  · exact h
end Go.Pel
namespace Go.Proofs.Ytdpnndpbbdhnmaa
open Go Go.Tx Go.Pel
/-- how many reigns before a place cover a time -/
def covN (t u n1 d1 : Int) (m i : Nat) : Int := if t * d1 < n1 * u ∧ m ≤ i then 1 else 0
set_option maxHeartbeats 4000000 in
theorem cover_loop (d : Nat) {l : List T3} (hl : l ≠ []) (hok : FldOk l) (h0 : fieldChk (ptsL l) = 0) {a ps : List T3} (hal : a.length ≤ 64) {n1 d1 t u : Int} (hn1 : i64B n1 = true) (hd1 : i64B d1 = true) (ht : i64B t = true) (hu : i64B u = true) (k1 : ratioChk n1 d1 = 0) (k2 : ratioChk t u = 0) (hle : leQ t u n1 d1) {x : T3} {r : List T3} (hx : a = x :: r) (hb : bdL a) (hc : chkR none a = true) (hps : ps.length = a.length)
    (h3 : ∀ (i : Nat) (x q : T3), a[i]? = some x → ps[i]? = some q → x.2.2.1 = q.1 ∧ ratioChk x.1 x.2.1 = 0 ∧ Lead l x.1 x.2.1 q) (h4 : ∀ (i : Nat) (q q' : T3), ps[i]? = some q → ps[i + 1]? = some q' → q.2.2.1 < q'.2.2.1)
    (hld : ∀ y, a[idxL t u a - 1]? = some y → 1 ≤ idxL t u a → y.2.2.1 = (ldT l t u).1) (h1t : 1 ≤ idxL t u a) : ∀ (f i : Nat), (reiL n1 d1 x r).length - i < f → i ≤ (reiL n1 d1 x r).length →
    iter (law24_RaceCover_L1 d) f (true, (ldT l t u).1, (0 : Int), covN t u n1 d1 (idxL t u a) i, (i : Int), l, n1, d1, t, u, reiL n1 d1 x r) = some true
  | 0, i, hf, _ => by omega
  | f + 1, i, hf, hi => by
    have ih := cover_loop d hl hok h0 hal hn1 hd1 ht hu k1 k2 hle hx hb hc hps h3 h4 hld h1t f (i + 1)
    have hlen := reiL_len n1 d1 x r
    have hlen2 : a.length = r.length + 1 := by rw [hx]; rfl
    have o2 := (ratioChk_zero k2).1
    have o1 := (ratioChk_zero k1).1
    rw [iter]
    revert ih
    generalize iter (law24_RaceCover_L1 d) f = self
    intro ih
    unfold law24_RaceCover_L1
    by_cases hlt : i < (reiL n1 d1 x r).length
    · obtain ⟨w, hw⟩ : ∃ w, (reiL n1 d1 x r)[i]? = some w := ⟨_, List.getElem?_eq_getElem hlt⟩
      obtain ⟨y, s1, s2, s3, s4, s5⟩ := reiL_str x r i w hw
      rw [← hx] at s1
      obtain ⟨q, hq⟩ : ∃ q, ps[i]? = some q := ⟨_, List.getElem?_eq_getElem (by have := (List.getElem?_eq_some_iff.1 s1).1; omega)⟩
      obtain ⟨g1, g2, g3⟩ := h3 i y q s1 hq
      obtain ⟨b1, b2⟩ := hb y (List.mem_of_getElem? s1)
      have bw : i64B w.2.2.1 = true ∧ i64B w.2.2.2.1 = true := by
        rcases s5 with ⟨_, e1, e2, _⟩ | ⟨_, y', hy', e1, e2, _⟩
        · rw [e1, e2]; exact ⟨hn1, hd1⟩
        · rw [← hx] at hy'; rw [e1, e2]; exact hb y' (List.mem_of_getElem? hy')
      clear s5
      obtain ⟨j, hj, e1⟩ := at03_at d hok g3.1
      have e1' : F_ref03_At d ((l, ()), (w.2.2.2.2.1, ()), ()) = some (j : Int) := by rw [s4, g1]; exact e1
      have e2 := leader_at d hl h0 b1 b2 g2
      rw [(ldT_lead hl y.1 y.2.1).uniq hok g3, ← s2, ← s3, ← g1, ← s4] at e2
      have hjl := (List.getElem?_eq_some_iff.1 hj).1
      have b0 : ((0 : Int) != 0) = false := rfl
      have e3 := rCompare_eq d w.1 w.2.1 t u (by rw [s2]; exact b1) (by rw [s3]; exact b2) ht hu
      have e4 := rCompare_eq d t u w.2.2.1 w.2.2.2.1 ht hu bw.1 bw.2
      have hcv := cover_iff o2 o1 hle (by rw [← hx]; exact hc) hw
      rw [← hx] at hcv
      have wi := wrap_succ (show i < 1000000 by omega)
      simp only [law24_RaceCover_r10, Dt.eval, dec_lt hlt, cond_true]
      simp only [law24_RaceCover_r12, law24_RaceCover_K, Dt.eval, inB_of hlt, cond_true, elt_some hw, e1']
      simp only [law24_RaceCover_r13, Dt.eval, show decide ((j : Int) < 0) = false by rw [decide_eq_false_iff_not]; omega, cond_false]
      simp only [law24_RaceCover_r15, law24_RaceCover_K, Dt.eval, inB_of hlt, cond_true, elt_some hw, e2]
      have step : ∀ k : law24_RaceCover_Y16 → Option Bool, (law24_RaceCover_r16 (law24_RaceCover_K d) (true, (ldT l t u).1, (0 : Int), covN t u n1 d1 (idxL t u a) i, (i : Int), (j : Int), w.2.2.2.2.1, (0 : Int), l, n1, d1, t, u, reiL n1 d1 x r)).eval k = k (true, (ldT l t u).1, (0 : Int), covN t u n1 d1 (idxL t u a) i, (i : Int), false, l, n1, d1, t, u, reiL n1 d1 x r) := fun k => by
        rcases Nat.eq_zero_or_pos i with hi0 | hi0
        · subst hi0
          simp only [law24_RaceCover_r16, Dt.eval, b0, cond_false, inB_of hlt, cond_true, elt_some hw, bne_self_eq_false, show decide (((0 : Nat) : Int) > 0) = false from rfl]
        · obtain ⟨v, hv⟩ : ∃ v, (reiL n1 d1 x r)[i - 1]? = some v := ⟨_, List.getElem?_eq_getElem (by omega)⟩
          obtain ⟨y2, z1, _, _, z4, _⟩ := reiL_str x r (i - 1) v hv
          rw [← hx] at z1
          obtain ⟨q', hq'⟩ : ∃ q', ps[i - 1]? = some q' := ⟨_, List.getElem?_eq_getElem (by have := (List.getElem?_eq_some_iff.1 z1).1; omega)⟩
          obtain ⟨g1', _, g3'⟩ := h3 (i - 1) y2 q' z1 hq'
          obtain ⟨j', hj', e5⟩ := at03_at d hok g3'.1
          have e5' : F_ref03_At d ((l, ()), (v.2.2.2.2.1, ()), ()) = some (j' : Int) := by rw [z4, g1']; exact e5
          have hjl' := (List.getElem?_eq_some_iff.1 hj').1
          have hsp := h4 (i - 1) q' q hq' (by rw [show i - 1 + 1 = i by omega]; exact hq)
          have wk : IntKind.wrap .i64 ((i : Int) - 1) = ((i - 1 : Nat) : Int) := by rw [IntWalk.i64_in _ (by omega)]; omega
          simp only [law24_RaceCover_r16, law24_RaceCover_K, Dt.eval, b0, cond_false, inB_of hlt, cond_true, elt_some hw, bne_self_eq_false, show decide ((i : Int) > 0) = true by rw [decide_eq_true_eq]; omega, inB_of hjl, wk, inB_of (show i - 1 < (reiL n1 d1 x r).length by omega), elt_some hv, e5', inB_of hjl', elt_some hj, elt_some hj', show decide (q.2.2.1 ≤ q'.2.2.1) = false by rw [decide_eq_false_iff_not]; omega]
      simp only [law24_RaceCover_K] at step
      rw [step]
      simp only [cond_false]
      -- the count
      have hcn : ∀ b : Bool, (b = true ↔ (t * d1 < n1 * u ∧ idxL t u a = i + 1)) → covN t u n1 d1 (idxL t u a) (i + 1) = (if b = true then IntKind.wrap .i64 (covN t u n1 d1 (idxL t u a) i + 1) else covN t u n1 d1 (idxL t u a) i) := fun b hbb => by
        unfold covN
        cases b with
        | true =>
          obtain ⟨q1, q2⟩ := hbb.1 rfl
          rw [if_pos (show t * d1 < n1 * u ∧ idxL t u a ≤ i + 1 from ⟨q1, by omega⟩), if_pos rfl, if_neg (show ¬ (t * d1 < n1 * u ∧ idxL t u a ≤ i) from fun q => by omega)]
          decide
        | false =>
          have hnb : ¬ (t * d1 < n1 * u ∧ idxL t u a = i + 1) := fun q => by cases hbb.2 q
          rw [if_neg (show ¬ (false = true) by decide)]
          by_cases q1 : t * d1 < n1 * u
          · by_cases q2 : idxL t u a ≤ i
            · rw [if_pos ⟨q1, by omega⟩, if_pos ⟨q1, q2⟩]
            · rw [if_neg (fun q => hnb ⟨q1, by omega⟩), if_neg (fun q => q2 q.2)]
          · rw [if_neg (fun q => q1 q.1), if_neg (fun q => q1 q.1)]
      have ih' := ih (by omega) (by omega)
      by_cases c1 : w.1 * u ≤ t * w.2.1
      · have m1 : decide (cmpQ w.1 w.2.1 t u ≤ 0) = true := by
          rw [decide_eq_true_eq]
          rcases cmpQ_tri w.1 w.2.1 t u with ⟨j1, j2⟩ | ⟨j1, j2⟩ | ⟨j1, j2⟩ <;> omega
        by_cases c2 : t * w.2.2.2.1 < w.2.2.1 * u
        · have m2 : decide (cmpQ t u w.2.2.1 w.2.2.2.1 < 0) = true := by
            rw [decide_eq_true_eq]
            rcases cmpQ_tri t u w.2.2.1 w.2.2.2.1 with ⟨j1, j2⟩ | ⟨j1, j2⟩ | ⟨j1, j2⟩ <;> omega
          obtain ⟨q1, q2⟩ := hcv.1 ⟨c1, c2⟩
          have hid : (ldT l t u).1 = w.2.2.2.2.1 := by rw [s4]; exact (hld y (by rw [q2]; exact s1) h1t).symm
          rw [hcn true ⟨fun _ => ⟨q1, q2⟩, fun _ => rfl⟩, if_pos rfl] at ih'
          simp only [law24_RaceCover_r18, law24_RaceCover_K, Dt.eval, inB_of hlt, cond_true, elt_some hw, e3, m1, e4, m2]
          simp only [law24_RaceCover_r19, Dt.eval]
          simp only [law24_RaceCover_r20, Dt.eval, inB_of hlt, cond_true, elt_some hw, hid, bne_self_eq_false, cond_false]
          simp only [law24_RaceCover_J2, law24_RaceCover_r11, Dt.eval, wi]
          rw [hid] at ih'
          exact ih'
        · have m2 : decide (cmpQ t u w.2.2.1 w.2.2.2.1 < 0) = false := by
            rw [decide_eq_false_iff_not]
            rcases cmpQ_tri t u w.2.2.1 w.2.2.2.1 with ⟨j1, j2⟩ | ⟨j1, j2⟩ | ⟨j1, j2⟩ <;> omega
          rw [hcn false ⟨fun q => (by cases q), fun q => absurd (hcv.2 q).2 c2⟩, if_neg (by decide)] at ih'
          simp only [law24_RaceCover_r18, law24_RaceCover_K, Dt.eval, inB_of hlt, cond_true, elt_some hw, e3, m1, e4, m2, cond_false]
          simp only [law24_RaceCover_J2, law24_RaceCover_r11, Dt.eval, wi]
          exact ih'
      · have m1 : decide (cmpQ w.1 w.2.1 t u ≤ 0) = false := by
          rw [decide_eq_false_iff_not]
          rcases cmpQ_tri w.1 w.2.1 t u with ⟨j1, j2⟩ | ⟨j1, j2⟩ | ⟨j1, j2⟩ <;> omega
        rw [hcn false ⟨fun q => (by cases q), fun q => absurd (hcv.2 q).1 c1⟩, if_neg (by decide)] at ih'
        simp only [law24_RaceCover_r18, law24_RaceCover_K, Dt.eval, inB_of hlt, cond_true, elt_some hw, e3, m1, cond_false]
        simp only [law24_RaceCover_J2, law24_RaceCover_r11, Dt.eval, wi]
        exact ih'
    · have hil : i = (reiL n1 d1 x r).length := by omega
      simp only [law24_RaceCover_r10, Dt.eval, dec_nlt hlt, cond_false]
      by_cases q1 : t * d1 < n1 * u
      · have hin := cover_in o2 o1 q1 (by rw [← hx]; exact hc)
        rw [← hx] at hin
        have hcov : covN t u n1 d1 (idxL t u a) i = 1 := by unfold covN; rw [if_pos ⟨q1, by omega⟩]
        simp only [law24_RaceCover_r22, Dt.eval, cond_true, show ((0 : Int) == 0) = true from rfl, hcov, show ((1 : Int) == 1) = true from rfl]
      · have hcov : covN t u n1 d1 (idxL t u a) i = 0 := by unfold covN; rw [if_neg (fun q => q1 q.1)]
        have heq : t = n1 ∧ u = d1 := q_eq k2 k1 (by unfold leQ at hle; omega)
        simp only [law24_RaceCover_r22, Dt.eval, cond_true, show ((0 : Int) == 0) = true from rfl, hcov, show ((0 : Int) == 1) = false from rfl, cond_false]
        simp only [heq.1, heq.2, beq_self_eq_true, Bool.and_self]
set_option maxHeartbeats 2000000 in
theorem rcover_plain (d : Nat) (hf : 5000 ≤ d) (ea : F_law24_alive d () = some true) (l : List T3) (n dd n1 d1 t u : Int) (hn : i64B n = true) (hd : i64B dd = true) (hn1 : i64B n1 = true) (hd1 : i64B d1 = true) (ht : i64B t = true) (hu : i64B u = true) : F_law24_RaceCover d ((l, ()), (n, dd, ()), (n1, d1, ()), (t, u, ()), ()) = some true := by
  have f1 := fine_eq d l hn hd hn1 hd1
  have e0 := rChk_eq d ht hu
  have g1 := rCompare_eq d n dd t u hn hd ht hu
  have g2 := rCompare_eq d t u n1 d1 ht hu hn1 hd1
  have b0 : ((0 : Int) != 0) = false := rfl
  simp only [F_law24_RaceCover, law24_RaceCover_r0, law24_RaceCover_r1, law24_RaceCover_K, Dt.eval, ea]
  simp only [law24_RaceCover_r2, law24_RaceCover_K, Dt.eval, f1]
  cases hf1 : fineC l n dd n1 d1 with
  | false => simp only [Bool.not_false, cond_true, law24_RaceCover_r3, Dt.eval]
  | true =>
    simp only [Bool.not_true, cond_false, e0]
    rcases ratioChk_08 t u with k2 | k2
    · simp only [k2, b0, cond_false, g1, Dt.eval]
      by_cases c1 : cmpQ n dd t u > 0
      · simp only [decide_eq_true c1, cond_true, law24_RaceCover_r3, Dt.eval]
      · simp only [decide_eq_false c1, cond_false, g2, Dt.eval]
        by_cases c2 : cmpQ t u n1 d1 > 0
        · simp only [decide_eq_true c2, cond_true, law24_RaceCover_r3, Dt.eval]
        · simp only [decide_eq_false c2, cond_false, Dt.eval]
          obtain ⟨hl, hc⟩ := fineC_iff hf1
          obtain ⟨hok, k0, k1, k01⟩ := chk2_zero hc
          have o0 := (ratioChk_zero k0).1
          have o1 := (ratioChk_zero k1).1
          have o2 := (ratioChk_zero k2).1
          have kt : leQ n dd t u := (leQ_iff ..).2 (by omega)
          have kt1 : leQ t u n1 d1 := (leQ_iff ..).2 (by omega)
          have h0 := chk2_fld hc
          have hl64 := hok.len
          have g0 : chk1 l n dd = 0 := by unfold chk1; rw [if_neg (by simpa using h0)]; exact k0
          have hL := ldT_lead hl n dd
          obtain ⟨a, ha, e1⟩ := of_eq d hf hl hn hd g0
          have ba := crest_bd hok ha hn hd hL.1
          have ca := crest_chk hok ha k0 hL
          have la := crest_le hok ha k0 hL
          obtain ⟨ra, hra⟩ := ha.head
          have e3 := reigns_eq d hf hl hn hd hn1 hd1 hc e1 ba ca hra
          have e7 := leader_at d hl h0 ht hu k2
          obtain ⟨q2, x2, r2, i1, i2, i3, i4, _⟩ := crest_from hok ha k0 hL o2 kt
          have hq2 := i4.uniq hok (ldT_lead hl t u)
          obtain ⟨ps, p1, p2, p3, p4, p5⟩ := crest_pts hok ha k0 hL
          have hrc : chkR none ((n, dd, (ldT l n dd).1, ()) :: ra) = true := by rw [← hra]; exact (chkL_zero ca).2.2
          have hlenR := reiL_len n1 d1 (n, dd, (ldT l n dd).1, ()) ra
          have hal : a.length = ra.length + 1 := by rw [hra]; rfl
          have hv := reiL_chk (t := n1) (u := d1) k1 hrc (by rw [← hra]; omega) k01
          have bR : bd5 (reiL n1 d1 (n, dd, (ldT l n dd).1, ()) ra) := fun w hw => by
            obtain ⟨i, hi⟩ := List.mem_iff_getElem?.1 hw
            obtain ⟨y, s1, s2, s3, _, s5⟩ := reiL_str _ _ i w hi
            rw [← hra] at s1
            obtain ⟨b1, b2⟩ := ba y (List.mem_of_getElem? s1)
            refine ⟨by rw [s2]; exact b1, by rw [s3]; exact b2, ?_⟩
            rcases s5 with ⟨_, e1, e2, _⟩ | ⟨_, y', hy', e1, e2, _⟩
            · rw [e1, e2]; exact ⟨hn1, hd1⟩
            · rw [← hra] at hy'; rw [e1, e2]; exact ba y' (List.mem_of_getElem? hy')
          have e4 := c5_eq d hf bR (by omega)
          have e5 := rc5_eq d hf bR (by omega)
          rw [hv] at e4 e5
          have hld : ∀ y, a[idxL t u a - 1]? = some y → 1 ≤ idxL t u a → y.2.2.1 = (ldT l t u).1 := fun y hy _ => by
            have : (a.drop (idxL t u a - 1))[0]? = some x2 := by rw [i2]; rfl
            rw [List.getElem?_drop, Nat.add_zero, hy] at this
            injection this with this
            rw [this, i3, hq2]
          have hloop := cover_loop d hl hok h0 (a := a) (ps := ps) (by omega) hn1 hd1 ht hu k1 k2 kt1 hra ba (chkL_zero ca).2.2 p1 (fun i x q hx hq => ⟨(p3 i x q hx hq).1, (p3 i x q hx hq).2.1, (p3 i x q hx hq).2.2.2⟩) p4 hld i1 d 0 (by omega) (by omega)
          have hc0 : covN t u n1 d1 (idxL t u a) 0 = 0 := by unfold covN; rw [if_neg (fun q => by omega)]
          rw [hc0] at hloop
          -- the first and the last reign
          obtain ⟨k, z, w, w1, w2, w3, _, _, _⟩ := reiL_last (t := n1) (u := d1) (n, dd, (ldT l n dd).1, ()) ra
          have hkl : k < 1000000 := by rw [w2] at hlenR; exact Nat.lt_of_lt_of_le (Nat.lt_of_succ_le hlenR) (by rw [← hal]; exact Nat.le_trans la (Nat.le_trans hl64 (by decide)))
          obtain ⟨y, _, _, _, _, s5⟩ := reiL_str _ _ k w w3
          have hto : w.2.2.1 = n1 ∧ w.2.2.2.1 = d1 := by
            rcases s5 with ⟨_, e1, e2, _⟩ | ⟨e1, _⟩
            · exact ⟨e1, e2⟩
            · rw [w2] at e1; exact absurd e1 (Nat.lt_irrefl _)
          obtain ⟨w0, hw0⟩ : ∃ w0, (reiL n1 d1 (n, dd, (ldT l n dd).1, ()) ra)[0]? = some w0 := ⟨_, List.getElem?_eq_getElem (by rw [w2]; exact Nat.succ_pos k)⟩
          obtain ⟨y0, t1, t2, t3, _, _⟩ := reiL_str _ _ 0 w0 hw0
          simp only [List.getElem?_cons_zero, Option.some.injEq] at t1
          subst t1
          have hlR : ((reiL n1 d1 (n, dd, (ldT l n dd).1, ()) ra).length : Int) = (k : Int) + 1 := by rw [w2]; exact cast_s k
          have wl : IntKind.wrap .i64 ((k : Int) + 1 - 1) = ((k : Nat) : Int) := wrap_pred hkl
          have cin : inB (0 : Int) (reiL n1 d1 (n, dd, (ldT l n dd).1, ()) ra).length = true := inB_of (k := 0) (by rw [w2]; exact Nat.succ_pos k)
          have cel : elt ziiiii (reiL n1 d1 (n, dd, (ldT l n dd).1, ()) ra) (0 : Int).toNat = w0 := elt_some (k := 0) hw0
          try simp only [Bool.not_true, cond_false]
          simp only [law24_RaceCover_r4, law24_RaceCover_K, Dt.eval, e3]
          simp only [law24_RaceCover_r5, law24_RaceCover_K, Dt.eval, b0, cond_false, e4, e5, cin, cond_true, cel, t2, t3, beq_self_eq_true, Bool.and_self, Bool.not_true, hlR, wl, inB_of (show k < (reiL n1 d1 (n, dd, (ldT l n dd).1, ()) ra).length by rw [w2]; exact Nat.lt_succ_self k), elt_some w3, hto.1, hto.2]
          simp only [law24_RaceCover_r7, law24_RaceCover_K, Dt.eval, e7]
          simp only [law24_RaceCover_r8, Dt.eval]
          simp only [law24_RaceCover_r9, Dt.eval]
          exact hloop
    · simp only [k2, show ((8 : Int) != 0) = true from rfl, cond_true, law24_RaceCover_r3, Dt.eval]
end Go.Proofs.Ytdpnndpbbdhnmaa
