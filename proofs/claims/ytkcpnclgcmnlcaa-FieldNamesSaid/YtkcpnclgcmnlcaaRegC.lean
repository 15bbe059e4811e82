/- Regions whose order is open, in a class of worlds: a head of operations each of which yields one value in every world of the class, then a tail that waits for the head and runs in order. -/
import Derived.Deep.Quiet
import Derived.Deep.QuietTactic
import Derived.StillTail
import Derived.BigQuiet
import Derived.Test.YtkcpnclgcmnlcaaExt
import Derived.ScopeJumps
set_option linter.unusedSimpArgs false
set_option linter.unusedVariables false
namespace Go
namespace RegC
section
variable {P : Program} {ops : Array Oper} {md : Region.Mode} {C : World → Prop}

/-- f operations of the head still to come, in whatever order; then L. -/
def anyC (P : Program) (md : Region.Mode) (ops : Array Oper) (C : World → Prop) (n : Nat) (L : Array Bool → Act → Prop) : Nat → Array Bool → Act → Prop
  | 0, li, a => L li a
  | f + 1, li, a => Region.ready md ops li ≠ [] ∧ ∀ i ∈ Region.ready md ops li, i < n ∧ qOp P ops C i (anyC P md ops C n L f (li.setIfInBounds i true)) a

theorem anyC_run {n g : Nat} {L : Array Bool → Act → Prop} {Q' : Exit → Act → World → Prop}
    (hL : ∀ li a w, C w → L li a → wpAny P md ops Q' g li a w) :
    ∀ (f : Nat) (li : Array Bool) (a : Act) (w : World), C w → anyC P md ops C n L f li a → wpAny P md ops Q' (f + g) li a w := by
  intro f
  induction f with
  | zero => intro li a w hw h; rw [Nat.zero_add]; exact hL _ _ _ hw h
  | succ f ih =>
    intro li a w hw h
    rw [show f + 1 + g = (f + g) + 1 from by omega]
    exact ⟨fun h0 => absurd h0 h.1, fun i hi => wpOp_of_qOp hw (fun a' w' hw' h' => ih _ a' w' hw' h') (h.2 i hi).2⟩

theorem anyC_first {n i : Nat} {oi : Oper} {v : Value} {L : Array Bool → Act → Prop} (hi : ops[i]? = some oi)
    (hsel : ∀ (j : Nat) (o : Oper) cs b, ops[j]? = some o → o.op ≠ .select cs b)
    (hs : Region.sinkB md ops n = true) (hc : Region.chainB md ops n = true) (hn : n < ops.size) (hin : i < n)
    (hdone : ∀ li a, L li a → ∀ j ∈ Region.ready md ops li, n ≤ j) :
    ∀ (f : Nat) (li : Array Bool) (a : Act), HeadInv md ops n li →
      (∀ j oj, ops[j]? = some oj → j ≠ i → li.getD j true = false → (∀ e ∈ oj.after, Region.binds md e = true → e.on ≠ i) → oi.apart ops oj = true) →
      i ∈ Region.ready md ops li → YieldsIn P ops C oi v a →
      anyC P md ops C n L f (li.setIfInBounds i true) (a.put oi.dst v) → anyC P md ops C n L (f + 1) li a := by
  intro f
  induction f with
  | zero =>
    intro li a inv _ hr hy H
    refine ⟨fun h => (by rw [h] at hr; cases hr), fun j hj => ?_⟩
    have hjn : j < n := Nat.lt_of_not_le fun h => tail_waits hs hc hn inv _ i rfl hin (mem_ready.1 hr).1 j h hj
    refine ⟨hjn, ?_⟩
    by_cases hji : j = i
    · subst hji; exact hy.qOp hi H
    · have := hdone _ _ H j (ready_mono hj hji); omega
  | succ f ih =>
    intro li a inv hfree hr hy H
    have hun := (mem_ready.1 hr).1
    refine ⟨fun h => (by rw [h] at hr; cases hr), fun j hj => ?_⟩
    have hjn : j < n := Nat.lt_of_not_le fun h => tail_waits hs hc hn inv _ i rfl hin hun j h hj
    refine ⟨hjn, ?_⟩
    by_cases hji : j = i
    · subst hji; exact hy.qOp hi H
    · have h1 := (H.2 j (ready_mono hj hji)).2
      obtain ⟨hjun, oj, hoj, hall⟩ := mem_ready.1 hj
      have hnot : ∀ e ∈ oj.after, Region.binds md e = true → e.on ≠ i := fun e he hb heq => by
        have h3 := hall e he hb
        rw [heq, getD_both hun] at h3
        cases h3
      have h2 := qOp_put hoj (hfree j oj hoj hji hjun hnot) (fun cs b => hsel i oi cs b hi) (fun cs b => hsel j oj cs b hoj) hy h1
      refine qOp_mono (fun a' h3 => ih (li.setIfInBounds j true) a' (inv.set hj hjn) (fun k ok hk hki hunk hno => ?_) (ready_mono hr (Ne.symm hji)) h3.1 ?_) h2
      · refine hfree k ok hk hki ?_ hno
        by_cases hjk : j = k
        · subst hjk; exact hjun
        · rw [getD_set_ne true hjk] at hunk; exact hunk
      · rw [Array.setIfInBounds_comm _ _ hji]
        exact h3.2

theorem anyC_lex {n g : Nat} {Lq : Act → Prop} (hsel : Region.noSelect ops = true) (hs : Region.sinkB md ops n = true) (hc : Region.chainB md ops n = true) (hn : n < ops.size) :
    ∀ (l : List Oper) (k : Nat) (li : Array Bool) (a : Act), (∀ j, j < l.length → l[j]? = ops[k + j]?) → k + l.length = n → HeadInv md ops n li →
    Region.lexHead md ops g l.length k li = true → wpQuiet P ops C Lq l a →
    anyC P md ops C n (fun li' a' => Region.seqB md ops g n li' = true ∧ Lq a') l.length li a
  | [], k, li, a, _, hk, _, hB, h => by
    obtain rfl : k = n := by simpa using hk
    exact ⟨by simpa [Region.lexHead] using hB, h⟩
  | o :: l, k, li, a, hl, hk, inv, hB, h => by
    have h0 : ops[k]? = some o := by simpa using (hl 0 (by simp)).symm
    simp only [List.length_cons, Region.lexHead, Bool.and_eq_true] at hB
    obtain ⟨⟨hr, hf⟩, hB'⟩ := hB
    have hkn : k < n := by simp only [List.length_cons] at hk; omega
    have hr' : k ∈ Region.ready md ops li := by simpa using hr
    have hst : qOp P ops C k (wpQuiet P ops C Lq l) a := by unfold qOp; simp only [h0]; exact h
    obtain ⟨v, hy, hK⟩ := yieldsIn_of_qOp h0 hst
    exact anyC_first h0 (Region.noSelect_spec hsel) hs hc hn hkn (fun li' a' hL => seqB_ready hL.1) l.length li a inv (Region.free_spec h0 hf) hr' hy
      (anyC_lex hsel hs hc hn l (k + 1) _ _ (fun j hj => by have := hl (j + 1) (by simp; omega); simpa [Nat.add_assoc, Nat.add_comm 1 j] using this)
        (by simp only [List.length_cons] at hk; omega) (inv.set hr' hkn) hB' hK)

/-- The head in any order, in the class; then the tail in order. -/
theorem wp_region_class_tail {id : Nat} {Q : Exit → Act → World → Prop} {a : Act} {w : World} {l : List Oper} (n : Nat) (hm : P.follows .mixedOrders = true) (hB : Region.lexTailB .any l.toArray n = true)
    (hC : C { w with drawn := w.drawn + 1 })
    (h : wpQuiet P l.toArray C (fun a' => ∀ w', C w' → wpList P l.toArray Q (l.drop n) a' w') (l.take n) a) : (Code.region id l.toArray true).wp P Q a w := by
  simp only [Region.lexTailB, Bool.and_eq_true, decide_eq_true_eq] at hB
  obtain ⟨⟨⟨⟨hsel, hn⟩, hs⟩, hc⟩, hlex⟩ := hB
  have hn' : n < l.length := by simpa using hn
  have htl : (l.take n).length = n := by simp; omega
  have hdl : (l.drop n).length = l.toArray.size - n := by simp
  have inv0 : HeadInv .any l.toArray n (Array.replicate l.toArray.size false) :=
    ⟨by simp, fun j oj _ hl => (by rw [getD_replicate_false] at hl; cases hl), fun t _ ht => getD_in (by simpa using ht) (getD_replicate_false _ _)⟩
  have H := anyC_lex (C := C) (md := .any) (g := l.toArray.size - n) hsel hs hc hn (l.take n) 0 _ a (fun j hj => by
    have hj' : j < n := by rw [htl] at hj; exact hj
    simp [hj']) (by simpa using htl) inv0 (by rw [htl]; exact hlex) h
  refine wp_region_any hm ?_
  have := anyC_run (Q' := Q) (g := l.toArray.size - n) (fun li a' w' hw' hL => by
    have := wpAny_of_seq (md := .any) (Q' := Q) (l.drop n) n li a' w' (fun j => by simp [List.getElem?_drop]) (by rw [hdl]; exact hL.1) (hL.2 w' hw')
    rwa [hdl] at this) _ _ _ _ hC H
  rw [htl, show n + (l.toArray.size - n) = l.toArray.size from by omega] at this
  exact this
end

/-- A guard that is not decided: both ways. -/
theorem wpQuiet_split {P : Program} {ops : Array Oper} {C : World → Prop} {Q : Act → Prop} {a : Act} {o : Oper} {rest : List Oper} {j : Nat} {want b : Bool}
    (_hg : o.guard = some (j, want)) (_hy : yielded ops a.tmps j = some b) (ht : b = true → wpQuiet P ops C Q (o :: rest) a) (hf : b = false → wpQuiet P ops C Q (o :: rest) a) : wpQuiet P ops C Q (o :: rest) a := by
  cases b
  · exact hf rfl
  · exact ht rfl

section
variable {P : Program}
/-- All in any order, over the worlds 'ext w x'. -/
theorem wp_region_ext0 {id : Nat} {Q : Exit → Act → World → Prop} {a : Act} {w : World} {l : List Oper} (hm : P.follows .mixedOrders = true) (hB : Region.lexB .any l.toArray = true)
    (h : wpQuiet P l.toArray (fun w' => ∃ x, w' = ext w x) (fun a' => ∀ w', (∃ x, w' = ext w x) → Q .normal a' w') l a) : (Code.region id l.toArray true).wp P Q a w :=
  wp_region_quiet (C := fun w' => ∃ x, w' = ext w x) hm hB (Go.ext_of ((Bel.refl w).drewN 1)) (by simpa using h)
theorem wp_region_ext1 {id : Nat} {Q : Exit → Act → World → Prop} {a : Act} {w : World} {z : Beyond} {l : List Oper} (hm : P.follows .mixedOrders = true) (hB : Region.lexB .any l.toArray = true)
    (h : wpQuiet P l.toArray (fun w' => ∃ x, w' = ext w (z.and x)) (fun a' => ∀ w', (∃ x, w' = ext w (z.and x)) → Q .normal a' w') l a) : (Code.region id l.toArray true).wp P Q a (ext w z) :=
  wp_region_quiet (C := fun w' => ∃ x, w' = ext w (z.and x)) hm hB (Go.ext_of1 ((Bel.refl (ext w z)).drewN 1)) (by simpa using h)
theorem wp_region_tail0 {id : Nat} {Q : Exit → Act → World → Prop} {a : Act} {w : World} {l : List Oper} (n : Nat) (hm : P.follows .mixedOrders = true) (hB : Region.lexTailB .any l.toArray n = true)
    (h : wpQuiet P l.toArray (fun w' => ∃ x, w' = ext w x) (fun a' => ∀ w', (∃ x, w' = ext w x) → wpList P l.toArray Q (l.drop n) a' w') (l.take n) a) : (Code.region id l.toArray true).wp P Q a w :=
  wp_region_class_tail (C := fun w' => ∃ x, w' = ext w x) n hm hB (Go.ext_of ((Bel.refl w).drewN 1)) h
theorem wp_region_tail1 {id : Nat} {Q : Exit → Act → World → Prop} {a : Act} {w : World} {z : Beyond} {l : List Oper} (n : Nat) (hm : P.follows .mixedOrders = true) (hB : Region.lexTailB .any l.toArray n = true)
    (h : wpQuiet P l.toArray (fun w' => ∃ x, w' = ext w (z.and x)) (fun a' => ∀ w', (∃ x, w' = ext w (z.and x)) → wpList P l.toArray Q (l.drop n) a' w') (l.take n) a) : (Code.region id l.toArray true).wp P Q a (ext w z) :=
  wp_region_class_tail (C := fun w' => ∃ x, w' = ext w (z.and x)) n hm hB (Go.ext_of1 ((Bel.refl (ext w z)).drewN 1)) h
end
end RegC
end Go
namespace Go
namespace RegC
/-- At most n passes from a label. -/
def passes (P : Program) (rest : Code) (l : Nat) (Q : Exit → Act → World → Prop) : Nat → Act → World → Prop
  | 0, _, _ => False
  | n + 1, a, w => rest.wp P (Exit.jump l (passes P rest l Q n) Q) a w
theorem jump_mono {l : Nat} {J J' : Act → World → Prop} {Q : Exit → Act → World → Prop} (h : ∀ a w, J a w → J' a w) : ∀ e a w, Exit.jump l J Q e a w → Exit.jump l J' Q e a w := by
  intro e a w hh
  cases e <;> first | exact hh | exact ⟨hh.1, h _ _ hh.2⟩
theorem wp_scope_passes {P : Program} {c rest : Code} {Q : Exit → Act → World → Prop} {a : Act} {w : World} (l n : Nat) (hf : findLabel c l = some rest)
    (first : c.wp P (Exit.jump l (passes P rest l Q n) Q) a w) : (Code.scope c).wp P Q a w := by
  classical
  have hfind : ∀ a w, (∃ m, passes P rest l Q m a w) → ∃ m, passes P rest l Q m a w ∧ ∀ k, passes P rest l Q k a w → m ≤ k := by
    intro a w ⟨m, hm⟩
    induction m using Nat.strongRecOn with
    | _ m ih =>
      by_cases hc : ∃ k, k < m ∧ passes P rest l Q k a w
      · obtain ⟨k, hk, hp⟩ := hc; exact ih k hk hp
      · exact ⟨m, hm, fun k hk => Nat.le_of_not_lt fun hlt => hc ⟨k, hlt, hk⟩⟩
  let μ : Act → World → Nat := fun a w => if h : ∃ m, passes P rest l Q m a w then (hfind a w h).choose else 0
  refine wp_scope_jumps l (fun a w => ∃ m, passes P rest l Q m a w) μ hf (Code.wp_mono (jump_mono fun a w h => ⟨n, h⟩) first) fun a w hJ => ?_
  have hs := (hfind a w hJ).choose_spec
  have hμ : μ a w = (hfind a w hJ).choose := by simp only [μ]; rw [dif_pos hJ]
  rw [hμ]
  generalize (hfind a w hJ).choose = m at hs ⊢
  obtain ⟨hm, _⟩ := hs
  cases m with
  | zero => exact hm.elim
  | succ k =>
    refine Code.wp_mono (jump_mono fun a' w' h => ⟨⟨k, h⟩, ?_⟩) hm
    have hJ' : ∃ m, passes P rest l Q m a' w' := ⟨k, h⟩
    have : μ a' w' ≤ k := by simp only [μ]; rw [dif_pos hJ']; exact (hfind a' w' hJ').choose_spec.2 k h
    omega
theorem passes_succ {P : Program} {rest : Code} {l n : Nat} {Q : Exit → Act → World → Prop} {a : Act} {w : World} : passes P rest l Q (n + 1) a w = rest.wp P (Exit.jump l (passes P rest l Q n) Q) a w := rfl
end RegC
end Go
