/- Wild asks: all valid, those of what was written are the asks, and one for each 9 bytes at least. -/
import Derived.Test.YtijinelgbiombaaSpec36f
set_option linter.unusedSimpArgs false
set_option linter.unusedVariables false
namespace Go.Pel
open Go
/-- fractions that Make gives are valid -/
theorem mk_asked {n d : Int} (hn : n.natAbs ≤ 1073741824) (hd : 1 ≤ d ∧ d ≤ 1024) : ratioAsked (mk n d).1 (mk n d).2.1 = 0 := by
  have hg := mk_gcd_pos (n := n) (d := d) (by omega)
  have hdn : d.natAbs / Nat.gcd n.natAbs d.natAbs ≤ 1024 := Nat.le_trans (Nat.div_le_self _ _) (by omega)
  have hnn : n.natAbs / Nat.gcd n.natAbs d.natAbs ≤ 1073741824 := Nat.le_trans (Nat.div_le_self _ _) hn
  have hpos : 0 < d.natAbs / Nat.gcd n.natAbs d.natAbs := Nat.div_pos (Nat.le_of_dvd (by omega) (Nat.gcd_dvd_right _ _)) hg
  have hco : Nat.gcd (n.natAbs / Nat.gcd n.natAbs d.natAbs) (d.natAbs / Nat.gcd n.natAbs d.natAbs) = 1 := Nat.coprime_div_gcd_div_gcd hg
  rw [mk_some (by omega)]
  generalize n.natAbs / Nat.gcd n.natAbs d.natAbs = a at *
  generalize d.natAbs / Nat.gcd n.natAbs d.natAbs = b at *
  have hno : ¬ (0 < 0 ∨ 9223372036854775807 < a ∨ 0 < 0 ∨ 9223372036854775807 < b) := by omega
  cases h : (decide (n < 0) != decide (d < 0))
  · rw [bld_pos hno]
    show ratioAsked (a : Int) (b : Int) = 0
    exact asked_yes (ratioChk_one (by omega) (by omega) (by simpa [Nat.gcd_comm] using hco)) (by omega) (by omega)
  · rw [bld_neg hno]
    show ratioAsked (-(a : Int)) (b : Int) = 0
    exact asked_yes (ratioChk_one (by omega) (by omega) (by simpa [Nat.gcd_comm] using hco)) (by omega) (by omega)
theorem mk_same {n d : Int} (h : ratioAsked n d = 0) : mk n d = (n, d, 0) := by
  obtain ⟨hok, hn, hd⟩ := asked_zero h
  unfold ratioOk at hok
  simp only [decide_eq_true_eq] at hok
  obtain ⟨h1, _, hg⟩ := hok
  have e : Nat.gcd n.natAbs d.natAbs = 1 := by rw [Nat.gcd_comm, show d.natAbs = d.toNat by omega]; exact hg
  rw [mk_some (by omega), e, Nat.div_one, Nat.div_one]
  have hno : ¬ (0 < 0 ∨ 9223372036854775807 < n.natAbs ∨ 0 < 0 ∨ 9223372036854775807 < d.natAbs) := by omega
  by_cases hneg : n < 0
  · have : (decide (n < 0) != decide (d < 0)) = true := by simp [hneg]; omega
    rw [this, bld_neg hno]
    congr 1
    · omega
    · congr 1; omega
  · have : (decide (n < 0) != decide (d < 0)) = false := by simp; omega
    rw [this, bld_pos hno]
    congr 1
    · omega
    · congr 1; omega
theorem wildAsk_chk (l : List UInt8) : (wildAsk l).chk = 0 := by
  unfold wildAsk
  have hk := kindV_range (l.getD 0 0).toNat
  change 1 ≤ wildK l ∧ wildK l ≤ 6 at hk
  generalize wildK l = k at hk
  have v1 := valAt_lt l 1 2
  rcases (by omega : (k = 1 ∨ k = 3) ∨ k = 2 ∨ k = 4 ∨ (k = 5 ∨ k = 6)) with h | rfl | rfl | h
  · rw [wildOf_put _ h]
    have h3 := wideV_range (valAt l 3 3)
    have h6 := wideV_range (valAt l 6 3)
    exact askChk_put h (pointChk_yes (by simp only; omega)) (by simp)
  · rw [wildOf_take]; exact askChk_take (by simp only; omega) (by simp)
  · rw [wildOf_move]
    have hn := numV_range (valAt l 1 4)
    exact askChk_move (mk_asked (by omega) (denV_range _)) (by simp)
  · rw [wildOf_bare _ h]; exact askChk_bare h (by simp)
theorem wlGo_chk (f : Nat) : ∀ (l : List UInt8) (acc : List Ask), (∀ x ∈ acc, x.chk = 0) → ∀ x ∈ (wlGo f l acc).1, x.chk = 0 := by
  induction f with
  | zero => intro l acc h; exact h
  | succ f ih =>
    intro l acc h
    unfold wlGo
    split
    · exact h
    · refine ih _ _ fun x hx => ?_
      rcases List.mem_append.1 hx with hx | hx
      · exact h x hx
      · obtain rfl := List.mem_singleton.1 hx; exact wildAsk_chk l
theorem wl_chk (l : List UInt8) : ∀ x ∈ (wl l).1, x.chk = 0 := by
  unfold wl; split
  · intro x hx; cases hx
  · exact wlGo_chk _ _ _ fun x hx => by cases hx
theorem wlGo_nine (f : Nat) : ∀ (l : List UInt8) (acc : List Ask), l.length ≤ f → (wlGo f l acc).1.length < 120 → l.length + 9 * acc.length ≤ 9 * (wlGo f l acc).1.length := by
  induction f with
  | zero => intro l acc hl _; simp only [wlGo]; omega
  | succ f ih =>
    intro l acc hl h
    by_cases hc : l = [] ∨ ¬ acc.length < 120
    · rw [wlGo_end hc] at h ⊢
      rcases hc with rfl | hc
      · simp
      · simp only at h; exact absurd h hc
    · have h1 : l ≠ [] := fun e => hc (.inl e)
      have h2 : acc.length < 120 := Decidable.byContradiction fun e => hc (.inr e)
      rw [wlGo_step h1 h2] at h ⊢
      have hp : 1 ≤ wildLen l ∧ wildLen l ≤ 9 := askLen_pos _
      have h0 : 0 < l.length := List.length_pos_iff.2 h1
      have := ih (l.drop (wildLen l)) (acc ++ [wildAsk l]) (by rw [List.length_drop]; omega) h
      rw [List.length_drop, List.length_append] at this
      simp only [List.length_cons, List.length_nil] at this
      omega
theorem wl_nine {l : List UInt8} (hl : l.length ≤ 1100) (h : (wl l).1.length < 120) : l.length ≤ 9 * (wl l).1.length := by
  rw [wl_go hl] at h ⊢
  have := wlGo_nine _ l [] (Nat.le_refl _) h
  simpa using this
theorem wlGo_zero (f : Nat) : ∀ (l : List UInt8) (acc : List Ask), (wlGo f l acc).2 = 0 := by
  induction f with
  | zero => intro l acc; rfl
  | succ f ih =>
    intro l acc
    unfold wlGo
    split
    · rfl
    · exact ih _ _
theorem wl_ok {l : List UInt8} (hl : l.length ≤ 1100) : wl l = ((wl l).1, 0) := by
  have : (wl l).2 = 0 := by rw [wl_go hl]; exact wlGo_zero _ _ _
  rw [← this]
/-- the wild ask of a valid ask's bytes -/
theorem wild_bytes {x : Ask} (h : x.chk = 0) (r : List UInt8) : wildAsk (x.bytes ++ r) = x ∧ wildLen (x.bytes ++ r) = x.bytes.length := by
  have hp := plainAsk_bytes h r
  have hb := bytes_length x
  have hk := chk_kind h
  obtain ⟨y, hy⟩ : ∃ y, (x.bytes ++ r)[0]? = some y := ⟨_, List.getElem?_eq_getElem (by have := bytes_pos x; rw [List.length_append]; omega)⟩
  have hyk := plainAsk_k hy
  rw [hp] at hyk
  have hwk : wildK (x.bytes ++ r) = x.k := by rw [wildK_of hy, ← hyk, kindV_in hk]
  refine ⟨?_, by unfold wildLen; rw [hwk, hb]⟩
  unfold wildAsk
  rw [hwk]
  generalize x.bytes ++ r = l at *
  obtain ⟨k, i, a, b, j, n, d⟩ := x
  have hc : _ := askChk_zero (k := k) (i := i) (a := a) (b := b) (j := j) (n := n) (d := d) h
  simp only at hyk hk ⊢
  rcases hc with ⟨hk', hpt, rfl, rfl, rfl⟩ | ⟨rfl, hj, rfl, rfl, rfl, rfl, rfl⟩ | ⟨rfl, hr, rfl, rfl, rfl, rfl⟩ | ⟨hk', rfl, rfl, rfl, rfl, rfl, rfl⟩
  · rw [plainAsk_put hy (by omega)] at hp
    injection hp with e1 e2 e3 e4
    rw [wildOf_put _ hk']
    unfold wideV
    congr 1 <;> omega
  · rw [plainAsk_take hy (by omega)] at hp
    injection hp with e1 e2 e3 e4 e5
    rw [wildOf_take]; congr 1
  · rw [plainAsk_move hy (by omega)] at hp
    injection hp with e1 e2 e3 e4 e5 e6 e7
    rw [wildOf_move]
    have en : numV (valAt l 1 4) = n := by unfold numV; omega
    have ed : denV (valAt l 5 2) = d := by rw [denV_in (by omega)]; omega
    rw [en, ed, mk_same hr.1]
  · rw [wildOf_bare _ hk']
theorem wlGo_cat {l : List Ask} (h : ∀ x ∈ l, x.chk = 0) : ∀ {f : Nat} {acc : List Ask}, l.length ≤ f → acc.length + l.length ≤ 120 → wlGo f (cat l) acc = (acc ++ l, 0) := by
  induction l with
  | nil => intro f acc _ _; rw [show cat [] = [] from rfl, wlGo_end (.inl rfl)]; simp
  | cons x l ih =>
    intro f acc hf hacc
    simp only [List.length_cons] at hf hacc
    obtain ⟨f, rfl⟩ : ∃ f', f = f' + 1 := ⟨f - 1, by omega⟩
    rw [cat_cons]
    obtain ⟨h2, h3⟩ := wild_bytes (h x (List.mem_cons_self ..)) (cat l)
    have hp := bytes_pos x
    rw [wlGo_step (by intro e; have := congrArg List.length e; rw [List.length_append] at this; simp only [List.length_nil] at this; omega) (by omega), h2, h3, List.drop_left, ih (fun y hy => h y (List.mem_cons_of_mem _ hy)) (by omega) (by rw [List.length_append]; simp; omega)]
    simp
theorem wl_cat {l : List Ask} (h : ∀ x ∈ l, x.chk = 0) (hl : l.length ≤ 120) (hb : (cat l).length ≤ 1100) : wl (cat l) = (l, 0) := by
  rw [wl_go hb, wlGo_cat h (cat_len l).1 (by simpa using hl)]; rfl
/-- a valid ask's point or time is valid -/
theorem chk_point {x : Ask} (h : x.chk = 0) (hk : x.k = 1 ∨ x.k = 3) : pointChk x.i x.a x.b = 0 := by
  obtain ⟨k, i, a, b, j, n, d⟩ := x
  have hc : _ := askChk_zero (k := k) (i := i) (a := a) (b := b) (j := j) (n := n) (d := d) h
  simp only at hk ⊢
  exact pointChk_yes (by omega)
theorem chk_time {x : Ask} (h : x.chk = 0) (hk : x.k = 4) : ratioAsked x.n x.d = 0 := by
  obtain ⟨k, i, a, b, j, n, d⟩ := x
  have hc : _ := askChk_zero (k := k) (i := i) (a := a) (b := b) (j := j) (n := n) (d := d) h
  simp only at hk ⊢
  omega
end Go.Pel
