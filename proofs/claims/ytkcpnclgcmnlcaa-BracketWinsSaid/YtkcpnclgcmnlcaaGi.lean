/- Walks of the references; the orders agree; examples. -/
import Derived.Test.YtkcpnclgcmnlcaaGh
set_option linter.unusedSimpArgs false
set_option linter.unusedVariables false
namespace Go
namespace RegC
section
variable {P : Program} {ops : Array Oper} {md : Region.Mode} {Q : Exit → Act → World → Prop} {l n : Nat}
def noDefer (ops : Array Oper) : Bool := ops.all fun o => match o.op with | .defer _ => false | _ => true
theorem noDefer_at {i : Nat} {o : Oper} (h : noDefer ops = true) (ho : ops[i]? = some o) : ∀ c, o.op ≠ .defer c := by
  intro c hc
  unfold noDefer at h
  have hi := (Array.getElem?_eq_some_iff.1 ho)
  obtain ⟨hi, he⟩ := hi
  have := Array.all_eq_true.1 h i hi
  rw [he, hc] at this
  cases this
theorem oper_in {o : Oper} {a : Act} {w : World} {K : Act → World → Prop} (hd : ∀ c, o.op ≠ .defer c) (h : Oper.wp P o a w K Q) : Oper.wpIn (Fence.wide.inRound l) n P o a w K Q := by
  refine ⟨fun _ _ => trivial, ?_⟩
  rw [Oper.semAt_plain (Fence.wide.inRound l) _ _ hd]
  unfold Oper.wp at h
  cases hr : (execOp a.eval o).run P w with
  | ok x w' =>
    rw [hr] at h
    cases x with
    | value v => exact h
    | skip => exact h
    | defer d => exact h
    | enter f args => exact ⟨fun hh => by simp [Fence.wide] at hh, callsIn_round l (callsIn_wide.2 h)⟩
    | row row args => exact ⟨fun hh => by simp [Fence.wide] at hh, fun c cs _ => by obtain ⟨v, w', r, s⟩ := h c cs; exact ⟨v, w', r, stepsIn_wide.2 s⟩⟩
    | _ => exact h.elim
  | halt x w' =>
    rw [hr] at h
    cases x <;> exact h
theorem op_in (hnd : noDefer ops = true) (hL : ¬ LetsOut Q) {i : Nat} {K K' : Act → World → Prop} {a : Act} {w : World} (hK : ∀ a w, K a w → K' a w) (h : wpOp P ops Q i K a w) : wpOpIn (Fence.wide.inRound l) n P ops Q i K' a w := by
  unfold wpOp at h
  unfold wpOpIn
  cases ho : ops[i]? with
  | none => rw [ho] at h; exact hK _ _ h
  | some o =>
    rw [ho] at h
    simp only at h ⊢
    split
    · rename_i hw
      rw [if_pos hw] at h
      rcases h with h | h
      · exact Oper.wpIn_mono hK (oper_in (noDefer_at hnd ho) h)
      · exact absurd h.2 hL
    · rename_i hw
      rw [if_neg hw] at h
      exact ⟨fun _ _ => trivial, hK _ _ h⟩
theorem any_in (hnd : noDefer ops = true) (hL : ¬ LetsOut Q) : ∀ (fuel : Nat) (li : Array Bool) (a : Act) (w : World), wpAny P md ops Q fuel li a w → wpAnyIn (Fence.wide.inRound l) n P md ops Q fuel li a w := by
  intro fuel
  induction fuel with
  | zero => exact fun _ _ _ h => h
  | succ fuel ih => exact fun li a w h => ⟨h.1, fun i hi => op_in hnd hL (fun a w => ih _ a w) (h.2 i hi)⟩
end
section
variable {P : Program} {C : World → Prop} {l n : Nat}
/-- The head in any order, in the class; then the tail in order: in a round. -/
theorem wpIn_region_class_tail {id : Nat} {Q : Exit → Act → World → Prop} {a : Act} {w : World} {L : List Oper} (k : Nat) (hL : ¬ LetsOut Q) (hnd : noDefer L.toArray = true) (hm : P.follows .mixedOrders = true) (hB : Region.lexTailB .any L.toArray k = true)
    (hC : C { w with drawn := w.drawn + 1 })
    (h : wpQuiet P L.toArray C (fun a' => ∀ w', C w' → wpList P L.toArray Q (L.drop k) a' w') (L.take k) a) : (Code.region id L.toArray true).wpIn (Fence.wide.inRound l) n P Q a w := by
  simp only [Region.lexTailB, Bool.and_eq_true, decide_eq_true_eq] at hB
  obtain ⟨⟨⟨⟨hsel, hn⟩, hs⟩, hc⟩, hlex⟩ := hB
  have hn' : k < L.length := by simpa using hn
  have htl : (L.take k).length = k := by simp; omega
  have hdl : (L.drop k).length = L.toArray.size - k := by simp
  have inv0 : HeadInv .any L.toArray k (Array.replicate L.toArray.size false) :=
    ⟨by simp, fun j oj _ hl => (by rw [getD_replicate_false] at hl; cases hl), fun t _ ht => getD_in (by simpa using ht) (getD_replicate_false _ _)⟩
  have H := anyC_lex (C := C) (md := .any) (g := L.toArray.size - k) hsel hs hc hn (L.take k) 0 _ a (fun j hj => by
    have hj' : j < k := by rw [htl] at hj; exact hj
    simp [hj']) (by simpa using htl) inv0 (by rw [htl]; exact hlex) h
  refine wpIn_region_any hm (any_in hnd hL _ _ _ _ ?_)
  have := anyC_run (Q' := Q) (g := L.toArray.size - k) (fun li a' w' hw' hL => by
    have := wpAny_of_seq (md := .any) (Q' := Q) (L.drop k) k li a' w' (fun j => by simp [List.getElem?_drop]) (by rw [hdl]; exact hL.1) (hL.2 w' hw')
    rwa [hdl] at this) _ _ _ _ hC H
  rw [htl, show k + (L.toArray.size - k) = L.toArray.size from by omega] at this
  exact this
end
end RegC
end Go

namespace Go.Tx
open Go Go.RegC
/-- temporaries that keep their values -/
def KT (V : Nat → Value → Prop) (a : Act) : Prop := ∀ n v, V n v → a.tmps[n]? = some v
theorem kt_put {V : Nat → Value → Prop} {a : Act} {dst : Option Tmp} (hd : ∀ n v, V n v → dst ≠ some n) (h : KT V a) (v : Value) : KT V (a.put dst v) := fun n u hu => by
  cases dst with
  | none => exact h n u hu
  | some d =>
    have hne : d ≠ n := fun he => hd n u hu (by rw [he])
    show (a.tmps.setIfInBounds d v)[n]? = some u
    rw [Array.getElem?_setIfInBounds_ne hne]; exact h n u hu
def QK (V : Nat → Value → Prop) (Q : Exit → Act → World → Prop) (e : Exit) (a : Act) (w : World) : Prop := Q e a w ∧ (e = .normal → KT V a)
section
variable {P : Program} {V : Nat → Value → Prop} {Q : Exit → Act → World → Prop} {ops : Array Oper}
theorem oper_keep {o : Oper} {a : Act} {w : World} {K : Act → World → Prop} (hd : ∀ n v, V n v → o.dst ≠ some n) (ht : KT V a) (h : o.wp P a w K Q) : o.wp P a w (fun a w => K a w ∧ KT V a) (QK V Q) := by
  unfold Oper.wp at *
  generalize (execOp a.eval o).run P w = r at *
  cases r with
  | ok n w' =>
    cases n <;> simp only [Oper.upon] at h ⊢
    case value v => exact ⟨h, kt_put hd ht v⟩
    case skip => exact ⟨h, kt_put hd ht _⟩
    case defer d => exact ⟨h, kt_put (a := { a with defers := d :: a.defers }) hd ht _⟩
    case enter f args =>
      refine Calls.mono h fun e w'' he => ?_
      cases e with
      | returned v => exact ⟨he, kt_put hd ht v⟩
      | panicked c => exact ⟨he, fun h => by cases h⟩
      | outgrown => obtain ⟨a2, w2, h2⟩ := he; exact ⟨a2, w2, h2, fun h => by cases h⟩
    case row row args => exact Rows.mono h fun v w'' he => ⟨he, kt_put hd ht v⟩
  | halt x w' =>
    cases x <;> simp only [Oper.upon] at h ⊢
    exact ⟨h, fun h => by cases h⟩
theorem list_keep : ∀ (l : List Oper), (∀ o ∈ l, ∀ n v, V n v → o.dst ≠ some n) → ∀ (a : Act) (w : World), KT V a → wpList P ops Q l a w → wpList P ops (QK V Q) l a w
  | [], _, a, w, ht, h => ⟨h, fun _ => ht⟩
  | o :: l, hd, a, w, ht, h => by
    have ih := list_keep l fun o ho => hd o (List.mem_cons_of_mem _ ho)
    have h0 := hd o (List.mem_cons_self ..)
    change (if Region.wanted o (yielded ops a.tmps) then _ else _)
    change (if Region.wanted o (yielded ops a.tmps) then _ else _) at h
    split
    · rename_i hw
      rw [if_pos hw] at h
      rcases h with h | h
      · exact .inl (Oper.wp_mono (fun a w hk => ih a w hk.2 hk.1) (oper_keep h0 ht h))
      · obtain ⟨a2, w2, h3⟩ := h.2
        exact .inr ⟨h.1, a2, w2, h3, fun h => by cases h⟩
    · rename_i hw
      rw [if_neg hw] at h
      exact ih _ _ (kt_put h0 ht _) h
theorem any_keep {md : Region.Mode} (hd : ∀ (i : Nat) (o : Oper), ops[i]? = some o → ∀ n v, V n v → o.dst ≠ some n) : ∀ (f : Nat) (li : Array Bool) (a : Act) (w : World), KT V a → wpAny P md ops Q f li a w → wpAny P md ops (QK V Q) f li a w := by
  intro f
  induction f with
  | zero => intro li a w ht h; exact ⟨h.1, h.2, fun _ => ht⟩
  | succ f ih =>
    intro li a w ht h
    refine ⟨fun hr => ⟨h.1 hr, fun _ => ht⟩, fun i hi => ?_⟩
    have h2 := h.2 i hi
    unfold wpOp at h2 ⊢
    cases ho : ops[i]? with
    | none => rw [ho] at h2; exact ih _ _ _ ht h2
    | some o =>
      rw [ho] at h2
      simp only at h2 ⊢
      split
      · rename_i hw
        rw [if_pos hw] at h2
        rcases h2 with h2 | h2
        · exact .inl (Oper.wp_mono (fun a w hk => ih _ a w hk.2 hk.1) (oper_keep (hd i o ho) ht h2))
        · obtain ⟨a2, w2, h3⟩ := h2.2
          exact .inr ⟨h2.1, a2, w2, h3, fun h => by cases h⟩
      · rename_i hw
        rw [if_neg hw] at h2
        exact ih _ _ _ (kt_put (hd i o ho) ht _) h2
/-- no operation writes these temporaries -/
def dstB (ns : List Nat) (ops : Array Oper) : Bool := ops.toList.all fun o => match o.dst with | some d => !memB ns d | none => true
theorem dstB_at {ns : List Nat} (h : dstB ns ops = true) (hV : ∀ n v, V n v → n ∈ ns) {o : Oper} (ho : o ∈ ops.toList) : ∀ n v, V n v → o.dst ≠ some n := fun n v hn he => by
  unfold dstB at h
  have h1 := List.all_eq_true.1 h o ho
  rw [he] at h1
  simp only at h1
  rw [memB_iff.2 (hV n v hn)] at h1
  cases h1
theorem list_in {l n : Nat} (hL : ¬ LetsOut Q) : ∀ (L : List Oper), (∀ o ∈ L, ∀ c, o.op ≠ .defer c) → ∀ (a : Act) (w : World), wpList P ops Q L a w → wpListIn (Fence.wide.inRound l) n P ops Q L a w
  | [], _, a, w, h => h
  | o :: L, hd, a, w, h => by
    have ih := list_in (l := l) (n := n) hL L fun o ho => hd o (List.mem_cons_of_mem _ ho)
    change (if Region.wanted o (yielded ops a.tmps) then _ else _)
    change (if Region.wanted o (yielded ops a.tmps) then _ else _) at h
    split
    · rename_i hw
      rw [if_pos hw] at h
      rcases h with h | h
      · exact Oper.wpIn_mono (fun a w => ih a w) (oper_in (hd o (List.mem_cons_self ..)) h)
      · exact absurd h.2 hL
    · rename_i hw
      rw [if_neg hw] at h
      exact ⟨fun _ _ => trivial, ih _ _ h⟩
theorem rw_in {l n id : Nat} {draw : Bool} {a : Act} {w : World} (hm : P.follows .mixedOrders = true) (hL : ¬ LetsOut Q) (hnd : noDefer ops = true) (h : RW P ops draw Q a w) : (Code.region id ops draw).wpIn (Fence.wide.inRound l) n P Q a w := by
  cases draw with
  | true => exact wpIn_region_any hm (any_in hnd hL _ _ _ _ h)
  | false =>
    refine wpIn_region_list (list_in hL _ (fun o ho => ?_) _ _ h)
    obtain ⟨i, hi⟩ := List.getElem?_of_mem ho
    exact noDefer_at hnd (i := i) (o := o) (by rw [← hi, Array.getElem?_toList])
theorem rw_keep {draw : Bool} {a : Act} {w : World} {ns : List Nat} (hV : ∀ n v, V n v → n ∈ ns) (hd : dstB ns ops = true) (ht : KT V a) (h : RW P ops draw Q a w) : RW P ops draw (QK V Q) a w := by
  cases draw with
  | true => exact any_keep (fun i o ho => dstB_at hd hV (List.mem_of_getElem? (i := i) (by rw [Array.getElem?_toList]; exact ho))) _ _ _ _ ht h
  | false => exact list_keep _ (fun o ho => dstB_at hd hV ho) _ _ ht h
end
section
variable {P : Program} {T : Tys} {C : Orc} {N l : Nat} {V : Nat → Value → Prop} {w0 : World} {φ0 : Fz0} {Q : Exit → Act → World → Prop}
/-- code in a round -/
def RunI (l : Nat) (P : Program) (V : Nat → Value → Prop) (w0 : World) (φ0 : Fz0) (N : Nat) (c : Code) (s : St) (Q : Exit → Act → World → Prop) : Prop := ∀ a w, SS w0 φ0 N s a w → KT V a → c.wpIn (Fence.wide.inRound l) 0 P Q a w
def CnI (V : Nat → Value → Prop) (w0 : World) (φ0 : Fz0) (N : Nat) (s : St) (Q : Exit → Act → World → Prop) (e : Exit) : Prop := ∀ a w, SS w0 φ0 N s a w → KT V a → Q e a w
theorem cnI_then {c : Code} {s : St} (h : RunI l P V w0 φ0 N c s Q) : CnI V w0 φ0 N s (Exit.then (c.wpIn (Fence.wide.inRound l) 0 P Q) Q) .normal := h
theorem cnI_blk {s : St} {i : Nat} (h : CnI V w0 φ0 N s Q .normal) : CnI V w0 φ0 N s (Exit.inBlock i Q) .normal := h
theorem cnI_sco {s : St} (h : CnI V w0 φ0 N s Q .normal) : CnI V w0 φ0 N s (Exit.noGoto Q) .normal := h
theorem cnI_then_exit {s : St} {K : Act → World → Prop} {i : Nat} (h : CnI V w0 φ0 N s Q (.exit i)) : CnI V w0 φ0 N s (Exit.then K Q) (.exit i) := h
theorem cnI_blk_eq {s : St} {i : Nat} (h : CnI V w0 φ0 N s Q .normal) : CnI V w0 φ0 N s (Exit.inBlock i Q) (.exit i) := fun a w hs hv => by
  show (if i = i then Q .normal a w else Q (.exit i) a w)
  rw [if_pos rfl]; exact h a w hs hv
theorem cnI_blk_ne {s : St} {i j : Nat} (hij : Nat.beq j i = false) (h : CnI V w0 φ0 N s Q (.exit j)) : CnI V w0 φ0 N s (Exit.inBlock i Q) (.exit j) := fun a w hs hv => by
  show (if j = i then Q .normal a w else Q (.exit j) a w)
  rw [if_neg (Nat.ne_of_beq_eq_false hij)]; exact h a w hs hv
theorem cnI_sco_exit {s : St} {i : Nat} (h : CnI V w0 φ0 N s Q (.exit i)) : CnI V w0 φ0 N s (Exit.noGoto Q) (.exit i) := h
theorem runI_skip {s : St} (h : CnI V w0 φ0 N s Q .normal) : RunI l P V w0 φ0 N .skip s Q := fun a w hs hv => wpIn_skip (h a w hs hv)
theorem runI_label {s : St} {k : Nat} (h : CnI V w0 φ0 N s Q .normal) : RunI l P V w0 φ0 N (.label k) s Q := fun a w hs hv => wpIn_label (h a w hs hv)
theorem runI_exit {s : St} {i : Nat} (h : CnI V w0 φ0 N s Q (.exit i)) : RunI l P V w0 φ0 N (.exit i) s Q := fun a w hs hv => wpIn_exit (h a w hs hv)
theorem runI_seq {x y : Code} {s : St} (h : RunI l P V w0 φ0 N x s (Exit.then (y.wpIn (Fence.wide.inRound l) 0 P Q) Q)) : RunI l P V w0 φ0 N (.seq x y) s Q := fun a w hs hv => wpIn_seq (h a w hs hv)
theorem runI_block {c : Code} {s : St} {i : Nat} (h : RunI l P V w0 φ0 N c s (Exit.inBlock i Q)) : RunI l P V w0 φ0 N (.block i c) s Q := fun a w hs hv => wpIn_block (h a w hs hv)
theorem runI_join {R X : Type} {r : R} {F : X → Option R} {S : X → St} {x y : Code} {s : St} (hj : ∀ z, F z = some r → RunI l P V w0 φ0 N y (S z) Q) (h : (∀ z, F z = some r → CnI V w0 φ0 N (S z) (Exit.then (y.wpIn (Fence.wide.inRound l) 0 P Q) Q) .normal) → RunI l P V w0 φ0 N x s (Exit.then (y.wpIn (Fence.wide.inRound l) 0 P Q) Q)) : RunI l P V w0 φ0 N (.seq x y) s Q := runI_seq (h hj)
theorem runI_cond {R : Type} {r : R} {v : Bool} {A B : Option R} {c : Operand} {x y : Code} {s : St} (hc : stev s c = .bool v) (h : (bif v then A else B) = some r) (ht : A = some r → RunI l P V w0 φ0 N x s Q) (hf : B = some r → RunI l P V w0 φ0 N y s Q) : RunI l P V w0 φ0 N (.cond c x y) s Q := fun a w hs hv => by
  obtain ⟨η, h1, _⟩ := hs.sr
  have hx := xev_ok (h1 0).tr c
  rw [show xev (memOf s.tm .lf) c = .bool v from hc] at hx
  have hcv : a.eval c = .bool v := by
    generalize a.eval c = u at hx
    cases hx; rfl
  refine wpIn_cond hcv ?_
  cases v with
  | true => exact ht h a w hs hv
  | false => exact hf h a w hs hv
theorem runI_reg (hm : P.follows .mixedOrders = true) (hT : TysOK P T) (hC : OrcOK P C) {ns : List Nat} (hV : ∀ n v, V n v → n ∈ ns) {R Y : Type} {r : R} {rid : Nat} {ops : Array Oper} {draw : Bool} {keep : List (Nat × Kd)} {s : St} {t : Dt Y} {S : Y → St} {K : Y → Option R}
    (hd : dstB ns ops = true) (hnd : noDefer ops = true) (hreg : treg T C N ops draw keep s some = t.eval fun y => some (S y)) (h : t.eval K = some r) (hk : ∀ y, K y = some r → CnI V w0 φ0 N (S y) Q .normal) : RunI l P V w0 φ0 N (.region rid ops draw) s Q := by
  obtain ⟨y, h1, h2⟩ := t.one h
  rw [h2] at hreg
  obtain ⟨s', h3, h4⟩ := reg_rw (D := φ0.D) hm hT hC hreg
  injection h3 with h3; subst h3
  intro a w hs hv
  have h5 := h4 w0 φ0 a w (fun e a w => e = .normal ∧ SS w0 φ0 N (S y) a w) rfl hs fun a' w' h => ⟨rfl, h⟩
  have h6 := rw_in (l := l) (n := 0) (id := rid) hm (by rintro ⟨a2, w2, h2⟩; cases h2.1.1) hnd (rw_keep hV hd hv h5)
  refine wpIn_mono h6 fun e a' w' ⟨⟨he, h7⟩, h8⟩ => ?_
  subst he
  exact hk y h1 a' w' h7 (h8 rfl)
end
/-- another block b alone -/
structure OnlyB (b : Nat) (A B : World) : Prop where
  size : B.heap.size = A.heap.size
  same : ∀ k, k ≠ b → B.heap[k]? = A.heap[k]?
  os : B.os = A.os
  tape : B.tape = A.tape
  output : B.output = A.output
  drawn : B.drawn = A.drawn
theorem OnlyB.put (A : World) (b : Nat) (o : Obj) : OnlyB b A (A.putObj b o) := ⟨by rw [World.putObj_size], fun k hk => World.putObj_heap_other hk, rfl, rfl, rfl, rfl⟩
theorem HR.only {M : Nat} {η : Emb} {H : LH} {A B : World} {b : Nat} (h : HR M η H A) (hb : OnlyB b A B) (hl : ¬ LB H η b) (hf : η.fz b = none) : HR M η H B where
  dom := h.dom
  lt := h.lt
  live k ob hk := (h.live k ob hk).move (Emb.le_refl _) rfl (Nat.le_of_eq hb.size.symm) fun L hL => hb.same _ fun he => hl ⟨k, ob, L, hk, hL, he⟩
  inj := h.inj
  fz k ob hk := by rw [hb.same k fun he => by rw [he, hf] at hk; cases hk]; exact h.fz k ob hk
  sep := h.sep
  ok := h.ok
theorem Fr.only {w0 : World} {φ0 : Fz0} {H : LH} {η : Emb} {A B : World} {b : Nat} (h : Fr w0 φ0 H η A) (hb : OnlyB b A B) (h0 : w0.heap.size ≤ b) (hk : ∀ o, ¬ φ0.K b o) : Fr w0 φ0 H η B where
  size := by rw [hb.size]; exact h.size
  same k hlt := (hb.same k (by omega)).trans (h.same k hlt)
  lb := h.lb
  fz0 := h.fz0
  fzn := h.fzn
  os := hb.os.trans h.os
  tape := hb.tape.trans h.tape
  output := hb.output.trans h.output
  drawn := by rw [hb.drawn]; exact h.drawn
  kp k o ho := by
    obtain ⟨h1, h2, h3⟩ := h.kp k o ho
    exact ⟨(hb.same k fun he => hk o (by rw [← he]; exact ho)).trans h1, h2, h3⟩
section
open Go.RowKit
variable {F : Fence} {n : Nat} {P : Program}
/-- a range over a function, where a round keeps its record and its deferred calls -/
theorem wpIn_range_rec {α : Type} {g : Operand} {ps : Array Tmp} {assign body : Code} {Q : Exit → Act → World → Prop} {a : Act} {w : World}
    (hro : F.round = none) (h1 : 1 ≤ n) {gf : Nat} {lb : Array Value} (hg : a.eval g = .func (.func gf) #[] lb) (hFg : F.fn gf) (eg : ∀ args w, (callFunc gf args).run P w = .ok (.enter gf args) w)
    {encs : α → Array Value} {C Kp : World → World → Prop} {xs : List α} (hseq : SeqAll F (n - 1) P gf lb encs C Kp xs w)
    (hC : ∀ A B, C A B → ∀ k, w.heap.size ≤ k → B.heap[k]? = A.heap[k]?)
    (hKt : ∀ {A B D : World}, Kp A B → Kp B D → Kp A D) (hKb : ∀ (W : World) (o : Obj), Kp W (W.putObj (w.heap.size + 1) o)) (hps : ∀ x, (encs x).size = ps.size)
    (I : List α → World → Prop) (hIC : ∀ s A B, I s A → C A B → I s B)
    (hIp : ∀ s (A : World) (o : Obj), I s A → w.heap.size + 1 < A.heap.size → I s (A.putObj (w.heap.size + 1) o))
    (h0 : ∀ r, I [] ((w.alloc (.deferred (some []))).alloc (.loop r))) (a₁ : α → Act)
    (hassign : ∀ (l : Nat) (x : α) (W : World) (K : Act → World → Prop), K (a₁ x) W →
      assign.wpIn (F.inRound l) (n - 1 - 1) P (Exit.then K (fun _ _ _ => False)) { tmps := (ps.zip (encs x)).foldl (fun t (p, v) => t.setIfInBounds p v) a.tmps, defers := [] } W)
    (hbody : ∀ (l : Nat) (pre : List α) (x : α) (rest : List α) (W : World) (o o' : Obj), xs = pre ++ x :: rest → I pre W → W.heap[w.heap.size + 1]? = some o → W.heap[w.heap.size]? = some o' →
      body.wpIn (F.inRound l) (n - 1 - 1) P (fun e _ W' => e = .normal ∧ W'.heap[w.heap.size + 1]? = some o ∧ W'.heap[w.heap.size]? = some o' ∧ Kp W W' ∧ I (pre ++ [x]) W') (a₁ x) W)
    (hdone : ∀ (W : World), I xs W → W.heap[w.heap.size]? = some (.deferred (some [])) → Q .normal { a with defers := { target := .collected w.heap.size, args := #[] } :: a.defers } W) :
    (Code.rangeFunc g ps assign body).wpIn F n P Q a w := by
  refine wpIn_rangeFunc ?_
  intro fn hfn
  rw [hro]
  obtain ⟨rc, hrc⟩ : ∃ rc : LoopState → Loop, rc = fun st => { state := st, pending := none, fn, tmps := a.tmps, params := ps, assign, body, defers := w.heap.size } := ⟨_, rfl⟩
  obtain ⟨V, hV⟩ : ∃ V, (w.alloc (.deferred (some []))).alloc (.loop (rc .ready)) = V := ⟨_, rfl⟩
  have vl : V.heap[w.heap.size + 1]? = some (.loop (rc .ready)) := by
    have := World.alloc_heap_new (w.alloc (.deferred (some []))) (.loop (rc .ready))
    rw [World.size_alloc] at this
    rw [← hV]; exact this
  have vd : V.heap[w.heap.size]? = some (.deferred (some [])) := by
    rw [← hV]; exact (Below.heap_alloc _ _ _ (by simp)).trans (World.alloc_heap_new w _)
  have vb : Below w.heap.size w V := by rw [← hV]; exact ((Below.refl _ w).alloc (Nat.le_refl _) _).alloc (by simp) _
  have vI : I [] V := by rw [← hV]; exact h0 _
  refine ⟨w.heap.size + 1, [{ target := .collected w.heap.size, args := #[] }], V, { target := .fn (.func gf) lb, args := #[.func (.yield (w.heap.size + 1)) #[] #[]] }, V, gf,
    #[.func (.yield (w.heap.size + 1)) #[] #[]] ++ lb, V, ?_, ?_, ?_, ?_, fun _ => h1, ?_⟩
  · rw [← hV, hrc]; exact run_enterLoop_outer _ _ _ _ _
  · simp only [resolve, hg]
    simp [go_sem]
  · intro f hf; simp [Target.leads] at hf; rw [← hf]; exact hFg
  · simp [invoke, go_sem, eg]
  · refine (hseq (w.heap.size + 1) (fun pre W => I pre W ∧ W.heap[w.heap.size + 1]? = some (.loop (rc .ready)) ∧ W.heap[w.heap.size]? = some (.deferred (some []))) V vb
      (fun s A B h hAB => ⟨hIC s A B h.1 hAB, (hC A B hAB _ (by omega)).trans h.2.1, (hC A B hAB _ (Nat.le_refl _)).trans h.2.2⟩) ?_ ⟨vI, vl, vd⟩).mono ?_
    · rintro pre x rest W hxs ⟨hi, hl, hk⟩
      have hlt : w.heap.size + 1 < W.heap.size := (Array.getElem?_eq_some_iff.1 hl).1
      have hy := run_yield (P := P) (args := encs x) hl (by rw [hrc]; exact hps x)
      rw [hrc] at hy
      refine ⟨fn, _, assign, body, hy, roundIn_of_wpIn hfn (hassign _ x W _ ⟨_, run_beginRound hl (by rw [hrc]), ?_⟩)⟩
      obtain ⟨U, hU⟩ : ∃ U, W.putObj (w.heap.size + 1) (.loop { rc .ready with state := .busy }) = U := ⟨_, rfl⟩
      rw [hU]
      have ul : U.heap[w.heap.size + 1]? = some (.loop { rc .ready with state := .busy }) := by rw [← hU]; exact World.putObj_heap_same hlt
      have ud : U.heap[w.heap.size]? = some (.deferred (some [])) := by rw [← hU]; exact (World.putObj_heap_other (by omega)).trans hk
      have uK : Kp W U := by rw [← hU]; exact hKb _ _
      have uI : I pre U := by rw [← hU]; exact hIp _ _ _ hi hlt
      refine wpIn_mono (hbody _ pre x rest U _ _ hxs uI ul ud) ?_
      rintro e a3 Z ⟨rfl, zl, zd, zK, zI⟩
      have hr := run_endRound (P := P) none zl
      rw [hrc] at hr
      have zlt : w.heap.size + 1 < Z.heap.size := (Array.getElem?_eq_some_iff.1 zl).1
      refine ⟨_, _, hr, rfl, ⟨hIp _ _ _ zI zlt, ?_, ?_⟩, hKt (hKt uK zK) (hKb _ _)⟩
      · rw [hrc]; exact World.putObj_heap_same zlt
      · exact (World.putObj_heap_other (by omega)).trans zd
    · rintro e Z ⟨⟨v, rfl⟩, zI, zl, zd⟩
      have he := run_endLoop (P := P) zl (by rw [hrc]; simp)
      rw [hrc] at he
      exact ⟨none, _, he, hdone _ (hIp _ _ _ zI (Array.getElem?_eq_some_iff.1 zl).1) ((World.putObj_heap_other (by omega)).trans zd)⟩
end
end Go.Tx

namespace Go.Tx
open Go
/-- rounds over a list -/
def loopF {α X : Type} (step : α → X → Option X) : List α → X → Option X
  | [], x => some x
  | a :: l, x => match step a x with | some y => loopF step l y | none => none
theorem loopF_append {α X : Type} (step : α → X → Option X) : ∀ (l : List α) (a : α) (m : List α) (x z : X), loopF step (l ++ a :: m) x = some z → ∃ y y', loopF step l x = some y ∧ step a y = some y' ∧ loopF step (l ++ [a]) x = some y'
  | [], a, m, x, z, h => by
    rw [List.nil_append, loopF] at h
    cases hs : step a x with
    | none => rw [hs] at h; cases h
    | some y' => exact ⟨x, y', rfl, hs, by rw [List.nil_append, loopF, hs]; rfl⟩
  | b :: l, a, m, x, z, h => by
    rw [List.cons_append, loopF] at h
    cases hs : step b x with
    | none => rw [hs] at h; cases h
    | some x1 =>
      rw [hs] at h
      obtain ⟨y, y', h1, h2, h3⟩ := loopF_append step l a m x1 z h
      exact ⟨y, y', by rw [loopF, hs]; exact h1, h2, by rw [List.cons_append, loopF, hs]; exact h3⟩
/-- a state between two rounds; blocks kb, r, r + 1 are none of its -/
def SX (w0 : World) (φ0 : Fz0) (tm : List (Nat × LV)) (ob : List Ob) (a : Act) (kb r : Nat) (W : World) : Prop :=
  ∃ η, (∀ M, HR M η (heapOf ob) W) ∧ (∀ n l, (n, l) ∈ tm → ∃ v, a.tmps[n]? = some v ∧ VR η l v) ∧ Fr w0 φ0 (heapOf ob) η W ∧ (∀ k, k = kb ∨ k = r ∨ k = r + 1 → ¬ LB (heapOf ob) η k ∧ η.fz k = none) ∧ r + 1 < W.heap.size
theorem SX.only {w0 : World} {φ0 : Fz0} {tm : List (Nat × LV)} {ob : List Ob} {a : Act} {kb r b : Nat} {A B : World} (h : SX w0 φ0 tm ob a kb r A) (hb : OnlyB b A B) (hbb : b = kb ∨ b = r ∨ b = r + 1) (h0 : w0.heap.size ≤ b) (hk : ∀ o, ¬ φ0.K b o) : SX w0 φ0 tm ob a kb r B := by
  obtain ⟨η, h1, h2, h3, h4, h5⟩ := h
  obtain ⟨g1, g2⟩ := h4 b hbb
  exact ⟨η, fun M => (h1 M).only hb g1 g2, h2, h3.only hb h0 hk, h4, by rw [hb.size]; exact h5⟩
theorem HR.grow {M : Nat} {η : Emb} {H : LH} {A B : World} (h : HR M η H A) (hb : Bel A B) : HR M η H B where
  dom := h.dom
  lt := h.lt
  live k ob hk := (h.live k ob hk).move (Emb.le_refl _) rfl hb.size fun L hL => hb.block _ ((h.live k ob hk).lt hL)
  inj := h.inj
  fz k ob hk := by rw [hb.block k (Array.getElem?_eq_some_iff.1 (h.fz k ob hk)).1]; exact h.fz k ob hk
  sep := h.sep
  ok := h.ok
theorem Fr.grow {w0 : World} {φ0 : Fz0} {H : LH} {η : Emb} {A B : World} (h : Fr w0 φ0 H η A) (hb : Bel A B) : Fr w0 φ0 H η B where
  size := Nat.le_trans h.size hb.size
  same k hlt := (hb.block k (Nat.lt_of_lt_of_le hlt h.size)).trans (h.same k hlt)
  lb := h.lb
  fz0 := h.fz0
  fzn := h.fzn
  os := hb.os.trans h.os
  tape := hb.tape.trans h.tape
  output := hb.output.trans h.output
  drawn := Nat.le_trans h.drawn hb.mono
  kp k o ho := by
    obtain ⟨h1, h2, h3⟩ := h.kp k o ho
    exact ⟨(hb.block k (Array.getElem?_eq_some_iff.1 h1).1).trans h1, h2, h3⟩
theorem wpIn_n {F : Fence} {P : Program} {c : Code} {Q : Exit → Act → World → Prop} {a : Act} {w : World} (hd : F.depth = none) {n m : Nat} (h : c.wpIn F n P Q a w) : c.wpIn F m P Q a w := fun b k cs hro hb _ => h b k cs hro hb fun d hd' => by rw [hd] at hd'; cases hd'
section
variable {P : Program} {N : Nat} {w0 : World} {φ0 : Fz0} {Q : Exit → Act → World → Prop}
theorem range_core {α X : Type} {g : Operand} {ps : Array Tmp} {assign body : Code} {a : Act} {w : World} {gf kb : Nat} {lb : Array Value} {encs : α → Array Value} {xs : List α} {step : α → X → Option X} {x0 z : X} {tmE : X → List (Nat × LV)} {keys : List Nat} {obs : X → List Ob} {xt : α → List (Nat × LV)} {ψ : Nat → Option Obj}
    (hkeys : ∀ y n l, (n, l) ∈ tmE y → n ∈ keys) (hg : a.eval g = .func (.func gf) #[] lb) (eg : ∀ args w, (callFunc gf args).run P w = .ok (.enter gf args) w)
    (hseq : SeqAll Fence.wide 3 P gf lb encs (OnlyB kb) (fun A B => B.heap[kb]? = A.heap[kb]? ∧ ∀ k ob, ψ k = some ob → A.heap[k]? = some ob → B.heap[k]? = some ob) xs w) (hkb : kb < w.heap.size) (hkb0 : w0.heap.size ≤ kb) (hkK : ∀ o, ¬ φ0.K kb o) (hps : ∀ x, (encs x).size = ps.size)
    (hD : φ0.D = a.defers)
    (hE : ∃ η, (∀ M, HR M η (heapOf (obs x0)) w) ∧ (∀ n l, (n, l) ∈ tmE x0 → ∃ v, a.tmps[n]? = some v ∧ VR η l v) ∧ Fr w0 φ0 (heapOf (obs x0)) η w ∧ ¬ LB (heapOf (obs x0)) η kb ∧ η.fz kb = none ∧ ∀ k ob, ψ k = some ob → η.fz k = some ob)
    (a₁ : α → Act) (ha1 : ∀ x, N ≤ (a₁ x).tmps.size ∧ (a₁ x).defers = [] ∧ (∀ n l, (n, l) ∈ xt x → ∃ v, (a₁ x).tmps[n]? = some v ∧ ∀ η, VR η l v) ∧ ∀ n, n ∈ keys → (a₁ x).tmps[n]? = a.tmps[n]?)
    (hassign : ∀ (l : Nat) (x : α) (W : World) (K : Act → World → Prop), K (a₁ x) W →
      assign.wpIn (Fence.wide.inRound l) 2 P (Exit.then K (fun _ _ _ => False)) { tmps := (ps.zip (encs x)).foldl (fun t (p, v) => t.setIfInBounds p v) a.tmps, defers := [] } W)
    (hbody : ∀ (l : Nat) (V : Nat → Value → Prop) (φ' : Fz0) (Q : Exit → Act → World → Prop) x y y', step x y = some y' → φ'.D = [] → (∀ n v, V n v → n ∈ keys) → CnI V w0 φ' N ⟨tmE y', obs y'⟩ Q .normal → RunI l P V w0 φ' N body ⟨xt x ++ tmE y, obs y⟩ Q)
    (hz : loopF step xs x0 = some z)
    (hN : N ≤ a.tmps.size) (hkv : ∀ n, n ∈ keys → ∃ v, a.tmps[n]? = some v)
    (hk : ∀ a' W, SS w0 ⟨φ0.φ, fun k o => φ0.K k o ∨ (k = w.heap.size ∧ o = .deferred (some [])), ⟨.collected w.heap.size, #[]⟩ :: φ0.D⟩ N ⟨tmE z, obs z⟩ a' W → Q .normal a' W) :
    (Code.rangeFunc g ps assign body).wp P Q a w := by
  obtain ⟨η0, e1, e2, e3, e4, e5, e6⟩ := hE
  have e7 : Fr w0 ⟨η0.fz, φ0.K, φ0.D⟩ (heapOf (obs x0)) η0 w := ⟨e3.size, e3.same, e3.lb, fun _ _ h => h, fun _ _ h => .inl h, e3.os, e3.tape, e3.output, e3.drawn, e3.kp⟩
  have hKlt : ∀ k o, φ0.K k o → k < w.heap.size := fun k o h => (Array.getElem?_eq_some_iff.1 (e3.kp k o h).1).1
  have hsz := e3.size
  have hLlt : ∀ k, LB (heapOf (obs x0)) η0 k → k < w.heap.size := fun k ⟨b, ob, L, h1, h2, h3⟩ => by rw [← h3]; exact ((e1 0).live b ob h1).lt h2
  have hflt : ∀ k ob, η0.fz k = some ob → k < w.heap.size := fun k ob h => (Array.getElem?_eq_some_iff.1 ((e1 0).fz k ob h)).1
  have hnone : ∀ k, w.heap.size ≤ k → η0.fz k = none := fun k hk => by
    cases h : η0.fz k with
    | none => rfl
    | some ob => have := hflt k ob h; omega
  refine wpIn_wide.1 (wpIn_range_rec (F := Fence.wide) (n := 4) rfl (by decide) hg trivial eg hseq (fun A B h k hk => h.same k (by omega)) (fun h k => ⟨k.1.trans h.1, fun j ob hj hA => k.2 j ob hj (h.2 j ob hj hA)⟩) (fun W o => ⟨World.putObj_heap_other (by omega), fun j ob hj hA => (World.putObj_heap_other (by have := hflt j ob (e6 j ob hj); omega)).trans hA⟩) hps
    (fun pre W => ∃ y, loopF step pre x0 = some y ∧ SX w0 ⟨η0.fz, φ0.K, φ0.D⟩ (tmE y) (obs y) a kb w.heap.size W)
    (fun s A B ⟨y, h1, h2⟩ h => ⟨y, h1, h2.only h (.inl rfl) hkb0 hkK⟩)
    (fun s A o ⟨y, h1, h2⟩ hl => ⟨y, h1, h2.only (OnlyB.put A _ o) (.inr (.inr rfl)) (by omega) fun o h => by have := hKlt _ _ h; omega⟩)
    ?_ a₁ hassign ?_ ?_)
  · intro r
    refine ⟨x0, rfl, η0, fun M => ?_, e2, ?_, fun k hk => ?_, by simp⟩
    · exact (e1 M).grow (((Bel.refl w).alloc _).alloc _)
    · exact e7.grow (((Bel.refl w).alloc _).alloc _)
    · rcases hk with rfl | rfl | rfl
      · exact ⟨e4, e5⟩
      · exact ⟨fun h => by have := hLlt _ h; omega, hnone _ (Nat.le_refl _)⟩
      · exact ⟨fun h => by have := hLlt _ h; omega, hnone _ (by omega)⟩
  · rintro l pre x rest W o o' hxs ⟨y, hy, η, f1, f2, f3, f4, f5⟩ hl hd
    obtain ⟨y1, y', g1, g2, g3⟩ := loopF_append step pre x rest x0 z (by rw [← hxs]; exact hz)
    rw [hy] at g1; injection g1 with g1; subst g1
    have hkW : kb < W.heap.size := by omega
    obtain ⟨q, hq⟩ : ∃ q, W.heap[kb]? = some q := ⟨_, Array.getElem?_eq_getElem hkW⟩
    obtain ⟨c1, c2, c3, c4⟩ := ha1 x
    refine wpIn_n rfl (hbody l (fun n v => n ∈ keys ∧ a.tmps[n]? = some v) ⟨η0.fz, fun k u => φ0.K k u ∨ (k = kb ∧ u = q) ∨ (k = w.heap.size ∧ u = o') ∨ (k = w.heap.size + 1 ∧ u = o), []⟩ _ x y y' g2 rfl (fun n v h => h.1) (fun a' W' hs hv => ?_) (a₁ x) W ?_ ?_)
    · obtain ⟨⟨η', r1, r2, r3⟩, _, _⟩ := hs
      obtain ⟨k1, k2, k3⟩ := r3.kp kb q (.inr (.inl ⟨rfl, rfl⟩))
      obtain ⟨k4, k5, k6⟩ := r3.kp w.heap.size o' (.inr (.inr (.inl ⟨rfl, rfl⟩)))
      obtain ⟨k7, k8, k9⟩ := r3.kp (w.heap.size + 1) o (.inr (.inr (.inr ⟨rfl, rfl⟩)))
      refine ⟨rfl, k7, k4, ⟨k1.trans hq.symm, fun k ob hψ _ => (r1 0).fz k ob (r3.fz0 k ob (e6 k ob hψ))⟩, y', g3, η', r1, fun n lv hn => ?_, ⟨r3.size, r3.same, r3.lb, r3.fz0, r3.fzn, r3.os, r3.tape, r3.output, r3.drawn, fun k u hu => r3.kp k u (.inl hu)⟩, fun k hk => ?_, (Array.getElem?_eq_some_iff.1 k7).1⟩
      · obtain ⟨v, v1, v2⟩ := r2 n lv hn
        have hkn := hkeys y' n lv hn
        obtain ⟨u, u1⟩ := hkv n hkn
        have := hv n u ⟨hkn, u1⟩
        rw [v1] at this; injection this with this; subst this
        exact ⟨v, u1, v2⟩
      · rcases hk with rfl | rfl | rfl
        · exact ⟨k2, k3⟩
        · exact ⟨k5, k6⟩
        · exact ⟨k8, k9⟩
    · refine ⟨⟨η, f1, fun n lv hn => ?_, ⟨f3.size, f3.same, f3.lb, f3.fz0, f3.fzn, f3.os, f3.tape, f3.output, f3.drawn, fun k u hu => ?_⟩⟩, c1, c2⟩
      · rcases List.mem_append.1 hn with hn | hn
        · obtain ⟨v, v1, v2⟩ := c3 n lv hn
          exact ⟨v, v1, v2 η⟩
        · obtain ⟨u, u1, u2⟩ := f2 n lv hn
          exact ⟨u, (c4 n (hkeys y n lv hn)).trans u1, u2⟩
      · rcases hu with hu | ⟨rfl, rfl⟩ | ⟨rfl, rfl⟩ | ⟨rfl, rfl⟩
        · exact f3.kp k u hu
        · exact ⟨hq, f4 k (.inl rfl)⟩
        · exact ⟨hd, f4 _ (.inr (.inl rfl))⟩
        · exact ⟨hl, f4 _ (.inr (.inr rfl))⟩
    · rintro n v ⟨hn, hv⟩
      exact (c4 n hn).trans hv
  · rintro W ⟨y, hy, η, f1, f2, f3, f4, f5⟩ hd
    rw [hz] at hy; injection hy with hy; subst hy
    refine hk _ W ⟨⟨η, f1, f2, ⟨f3.size, f3.same, f3.lb, fun k ob h => f3.fz0 k ob (e3.fz0 k ob h), fun k ob h => (f3.fzn k ob h).elim (e3.fzn k ob) .inr, f3.os, f3.tape, f3.output, f3.drawn, fun k o h => ?_⟩⟩, hN, by rw [hD]⟩
    rcases h with h | ⟨rfl, rfl⟩
    · exact f3.kp k o h
    · obtain ⟨h1, h2⟩ := f4 w.heap.size (.inr (.inl rfl))
      exact ⟨hd, h1, h2⟩
/-- an iterator over one variable of its own -/
def IterOK (P : Program) {α : Type} (gf : Nat) (cs0 : List LV) (encs : α → Array Value) (xs : List α) : Prop :=
  ∀ (w : World) (η : Emb) (L : Loc), At η w cs0 L → (∀ k ob, η.fz k = some ob → w.heap[k]? = some ob) → SeqAll Fence.wide 3 P gf #[.pointer (some ⟨L.block, L.base + 0, none⟩)] encs (OnlyB L.block) (fun A B => B.heap[L.block]? = A.heap[L.block]? ∧ ∀ k ob, η.fz k = some ob → A.heap[k]? = some ob → B.heap[k]? = some ob) xs w
/-- what is frozen, kept, deferred after a range -/
def Later (w0 : World) (φ0 φ' : Fz0) : Prop := ∃ d, w0.heap.size ≤ d ∧ φ' = ⟨φ0.φ, fun k o => φ0.K k o ∨ (k = d ∧ o = .deferred (some [])), ⟨.collected d, #[]⟩ :: φ0.D⟩
theorem run_range {α X : Type} {g : Operand} {ps : Array Tmp} {assign body : Code} {gf b0 : Nat} {cs0 : List LV} {encs : α → Array Value} {xs : List α} {step : α → X → Option X} {x0 z : X} {tm : List (Nat × LV)} {tmE : X → List (Nat × LV)} {keys : List Nat} {ob : List Ob} {obs : X → List Ob} {xt : α → List (Nat × LV)} {ks : List Nat}
    (hkeys : ∀ y n l, (n, l) ∈ tmE y → n ∈ keys) (hkeys0 : keys.all (fun n => (tmE x0).any fun p => Nat.beq n p.1) = true) (hgx : stev ⟨tm, ob⟩ g = .fn gf [.ptr b0 0]) (hob : ob[b0]? = some (.cells cs0)) (hnum : tnum (dropTm ks tm) (heapOf ob) some = some ⟨tmE x0, obs x0⟩)
    (hb0 : memB (reach (heapOf ob) 1000 ((dropTm ks tm).flatMap fun p => refs1 p.2) []) b0 = false)
    (eg : ∀ args w, (callFunc gf args).run P w = .ok (.enter gf args) w) (hit : IterOK P gf cs0 encs xs) (hps : ∀ x, (encs x).size = ps.size)
    (a₁ : Act → α → Act) (ha1 : ∀ a x, N ≤ a.tmps.size → N ≤ (a₁ a x).tmps.size ∧ (a₁ a x).defers = [] ∧ (∀ n l, (n, l) ∈ xt x → ∃ v, (a₁ a x).tmps[n]? = some v ∧ ∀ η, VR η l v) ∧ ∀ n, n ∈ keys → (a₁ a x).tmps[n]? = a.tmps[n]?)
    (hassign : ∀ (a : Act) (l : Nat) (x : α) (W : World) (K : Act → World → Prop), N ≤ a.tmps.size → K (a₁ a x) W →
      assign.wpIn (Fence.wide.inRound l) 2 P (Exit.then K (fun _ _ _ => False)) { tmps := (ps.zip (encs x)).foldl (fun t (p, v) => t.setIfInBounds p v) a.tmps, defers := [] } W)
    (hbody : ∀ (l : Nat) (V : Nat → Value → Prop) (φ' : Fz0) (Q : Exit → Act → World → Prop) x y y', step x y = some y' → φ'.D = [] → (∀ n v, V n v → n ∈ keys) → CnI V w0 φ' N ⟨tmE y', obs y'⟩ Q .normal → RunI l P V w0 φ' N body ⟨xt x ++ tmE y, obs y⟩ Q)
    (hz : loopF step xs x0 = some z)
    (hk : ∀ φ', Later w0 φ0 φ' → Cn w0 φ' N ⟨tmE z, obs z⟩ Q .normal) : Run P w0 φ0 N (.rangeFunc g ps assign body) ⟨tm, ob⟩ Q := by
  intro a w hs
  have hs0 := hs
  obtain ⟨⟨η, h1, h2, h3⟩, h4, h5⟩ := hs
  have hv : VR η (.fn gf [.ptr b0 0]) (a.eval g) := by
    have hx := xev_ok (η := η) (t := memOf tm .lf) (a := a) (fun n l hl => by
      rcases get_memOf tm .lf n l hl with h6 | h6
      · exact h2 n l h6
      · rw [Tr.get_lf] at h6; cases h6) g
    rwa [show xev (memOf tm .lf) g = .fn gf [.ptr b0 0] from hgx] at hx
  generalize hge : a.eval g = gv at hv
  cases hv with
  | fn hl hh =>
    obtain ⟨v, rfl, hp⟩ := vrs1 ⟨hl, hh⟩
    cases hp with
    | ptr hL =>
      rename_i L
      have hget : (heapOf ob).get b0 = some (.cells cs0) := by rw [get_heapOf]; exact hob
      have hat := ((h1 0).live b0 _ hget).at hL
      have hlb : LB (heapOf ob) η L.block := ⟨b0, _, L, hget, hL, rfl⟩
      unfold tnum at hnum
      generalize hρ : reach (heapOf ob) 1000 ((dropTm ks tm).flatMap fun p => refs1 p.2) [] = ρ at hnum hb0
      simp only at hnum
      rw [Bool.cond_eq_ite] at hnum
      split at hnum
      · rename_i hn
        split at hnum
        · rename_i tm' obs' g1 g2
          injection hnum with hnum
          injection hnum with q1 q2
          subst q1; subst q2
          obtain ⟨_, e2⟩ := renObs_get ρ g2
          have hE2 : ∀ n l', (n, l') ∈ tmE x0 → ∃ v, a.tmps[n]? = some v ∧ VR (η.sub ρ) l' v := fun n l' hl' => by
            obtain ⟨l, m1, m2⟩ := renTm_mem _ g1 n l' hl'
            obtain ⟨u, u1, u2⟩ := h2 n l (dropTm_mem ks tm _ m1)
            exact ⟨u, u1, ren_ok ρ m2 u2⟩
          refine range_core (ψ := η.fz) hkeys hge eg (hit w η L hat (h1 0).fz) hat.lt (h3.lb _ hlb) (fun o ho => (h3.kp _ o ho).2.1 hlb) hps h5.symm
            ⟨η.sub ρ, hr_sub hn g2 (h1 0), hE2, fr_sub g2 h3, fun ⟨j, ob', L', hj, hL', hk'⟩ => ?_, (h1 0).sep _ hlb, fun k ob h => h⟩ (a₁ a) (fun x => ha1 a x h4) (fun l x W K hK => hassign a l x W K h4 hK) hbody hz h4 (fun n hn => by
              have := List.all_eq_true.1 hkeys0 n hn
              obtain ⟨⟨n', l⟩, m1, m2⟩ := List.any_eq_true.1 this
              obtain rfl := Nat.eq_of_beq_eq_true m2
              obtain ⟨v, v1, _⟩ := hE2 _ l m1
              exact ⟨v, v1⟩) (fun a' W hss => hk _ ⟨_, h3.size, rfl⟩ a' W hss)
          · rw [get_heapOf] at hj
            obtain ⟨n, ob1, m1, m2, m3⟩ := e2 j ob' hj
            have hLn : η.loc n = some L' := by unfold Emb.sub at hL'; simpa only [m1, Option.bind_some] using hL'
            have : n = b0 := (h1 0).inj n b0 _ _ _ _ m2 hget hLn hL hk'
            subst this
            rw [memB_iff.2 (List.mem_of_getElem? m1)] at hb0
            cases hb0
        · cases hnum
      · cases hnum
/-- what holds where a body that has a range ends -/
def EndM (T : Tys) (w0 : World) (φ0 : Fz0) (N : Nat) (rs : List ResultVar) (out : LV × List Ob) (Q : Exit → Act → World → Prop) : Prop :=
  End T w0 φ0 N rs out Q ∧ ∀ φ', Later w0 φ0 φ' → End T w0 φ' N rs out Q
theorem cok_marks {T : Tys} (hT : TysOK P T) {S : Spec} {fn : Func} {c : Code} (hfn : P.funcs[S.g]? = some fn) (hc : fn.body = some c) (hname : ¬ fn.name = "runtime.NumGoroutine")
    (h : ∀ x r, S.F x = some r → ∀ w0 φ0 Q, EndM T w0 φ0 fn.ntmps fn.results.toList (S.enc r) Q → Run P w0 φ0 fn.ntmps c ⟨nums 0 (argsOf S.τs x), []⟩ Q) : COK P S := by
  refine ⟨fun x r hx w φ vs hφ hv => ?_, fn, c, hfn, hc, hname⟩
  refine callsIn_wide.1 (callsIn_of_wp_marks (n := 0) hfn hc trivial (wpIn_wide.2 ?_) rfl)
  have plain : ∀ s, tfin T fn.results.toList s = some (S.enc r) → ∀ a w', SS w (noK φ) fn.ntmps s a w' → LeavesInM Fence.wide 0 P fn a.tmps (fun e w' => ∃ v' η', e = .returned v' ∧ VR η' (S.enc r).1 v' ∧ (∀ M, HR M η' (heapOf (S.enc r).2) w') ∧ Fr w (noK φ) (heapOf (S.enc r).2) η' w') [] .returning w' := fun s hs a w' hss =>
    (fin_ok (S := S) (r := r) hT hs a w' hss).2
  have e1 : ∀ s, tfin T fn.results.toList s = some (S.enc r) → ∀ a w', SS w (noK φ) fn.ntmps s a w' → LeavesInM Fence.wide 0 P fn a.tmps (fun e w' => ∃ v' η', e = .returned v' ∧ VR η' (S.enc r).1 v' ∧ (∀ M, HR M η' (heapOf (S.enc r).2) w') ∧ Fr w (noK φ) (heapOf (S.enc r).2) η' w') a.defers .returning w' := fun s hs a w' hss => by
    rw [hss.defers]; exact plain s hs a w' hss
  have e2 : ∀ φ', Later w (noK φ) φ' → ∀ s, tfin T fn.results.toList s = some (S.enc r) → ∀ a w', SS w φ' fn.ntmps s a w' → LeavesInM Fence.wide 0 P fn a.tmps (fun e w' => ∃ v' η', e = .returned v' ∧ VR η' (S.enc r).1 v' ∧ (∀ M, HR M η' (heapOf (S.enc r).2) w') ∧ Fr w (noK φ) (heapOf (S.enc r).2) η' w') a.defers .returning w' := by
    rintro φ' ⟨d, hd, rfl⟩ s hs a w' hss
    rw [hss.defers]
    obtain ⟨η, h1, h2, h3⟩ := hss.emb
    obtain ⟨k1, k2, k3⟩ := h3.kp d _ (.inr ⟨rfl, rfl⟩)
    have hb := OnlyB.put w' d (.deferred none)
    have h3' : Fr w (noK φ) (heapOf s.ob) η w' := ⟨h3.size, h3.same, h3.lb, h3.fz0, h3.fzn, h3.os, h3.tape, h3.output, h3.drawn, fun k o h => h.elim⟩
    refine ⟨by simp, .inl ⟨d, _, rfl, run_takeDeferred k1, ?_⟩⟩
    exact plain s hs { a with defers := [] } _ ⟨⟨η, fun M => (h1 M).only hb k2 k3, h2, h3'.only hb hd fun o h => h⟩, hss.size, rfl⟩
  refine h x r hx w (noK φ) _ ⟨fun s hs => ⟨fun a w' hss => e1 s hs a w' hss, fun a w' hss => e1 s hs a w' hss⟩, fun φ' hl s hs => ⟨fun a w' hss => e2 φ' hl s hs a w' hss, fun a w' hss => e2 φ' hl s hs a w' hss⟩⟩ _ w ⟨⟨Emb.fro φ, hr_nil hφ, fun n l hl => ?_, fr_nil w φ⟩, ?_, rfl⟩
  · obtain ⟨_, h2⟩ := nums_mem _ 0 n l hl
    rw [Nat.sub_zero] at h2
    obtain ⟨v, e1, e2⟩ := hv.get h2
    refine ⟨v, ?_, e2⟩
    have hlt := (List.getElem?_eq_some_iff.1 e1).1
    rw [Array.getElem?_append_left (by simpa using hlt)]
    simpa using e1
  · simp; omega
end
end Go.Tx

namespace Go.Tx
open Go Go.RegC
theorem bif_none {α : Type} {c : Bool} {A : Option α} {r : α} (h : (bif c then A else none) = some r) : c = true ∧ A = some r := by
  cases c with
  | true => exact ⟨rfl, h⟩
  | false => cases h
theorem keys_at {k : List Nat} {tm : List (Nat × LV)} (hk : k = tm.map Prod.fst) {n : Nat} {l : LV} (h : (n, l) ∈ tm) : n ∈ k := by
  rw [hk]; exact List.mem_map.2 ⟨(n, l), h, rfl⟩
theorem sib_self {a : Array Value} {i : Nat} {v : Value} (h : i < a.size) : (a.setIfInBounds i v)[i]? = some v := by
  simp [Array.getElem?_setIfInBounds, h]
theorem sib_ne {a : Array Value} {i j : Nat} {v : Value} (h : Nat.beq i j = false) : (a.setIfInBounds i v)[j]? = a[j]? :=
  Array.getElem?_setIfInBounds_ne (Nat.ne_of_beq_eq_false h)
theorem cnI_num {V : Nat → Value → Prop} {w0 : World} {φ0 : Fz0} {N : Nat} {tm : List (Nat × LV)} {ob : List Ob} {s : St} {Q : Exit → Act → World → Prop} {e : Exit} (ks : List Nat) (hs : tnum (dropTm ks tm) (heapOf ob) some = some s) (h : CnI V w0 φ0 N s Q e) : CnI V w0 φ0 N ⟨tm, ob⟩ Q e := fun a w hss hv => by
  obtain ⟨s', h1, h2⟩ := num_ok hs
  injection h1 with h1; subst h1
  obtain ⟨⟨η, g1, g2, g3⟩, g4, g5⟩ := hss
  exact h a w (h2 w0 φ0 0 η w a N (g1 0) (fun n l hl => g2 n l (dropTm_mem ks tm _ hl)) g3 g4 g5) hv
section
variable {F : Fence} {n : Nat} {P : Program} {ops : Array Oper} {Q : Exit → Act → World → Prop} {a : Act} {w : World}
theorem asgIn {o : Oper} {rest : List Oper} {p : Nat} {v : Value} (hg : o.guard = none) (hop : o.op = .assign (.tmp p)) (hv : a.tmps[p]? = some v) (h : wpListIn F n P ops Q rest (a.put o.dst v) w) : wpListIn F n P ops Q (o :: rest) a w := by
  have he : a.eval (.tmp p) = v := by simp [Act.eval, hv]
  unfold wpListIn
  rw [if_pos (by simp [Region.wanted, hg])]
  refine ⟨fun f hf => ?_, ?_⟩
  · simp [Oper.about, hop] at hf
  · have e : o.semAt F.round a.eval = execOp a.eval o := by
      unfold Oper.semAt
      rw [hop]
      cases F.round <;> rfl
    rw [e]
    have e2 : (execOp a.eval o).run P w = .ok (.value v) w := by
      unfold execOp
      rw [hop]
      simp [go_sem, hv]
    rw [e2]
    exact h
theorem assign1 {id p s : Nat} {v : Value} {t : Array Value} {o : Oper} {K : Act → World → Prop} (hg : o.guard = none) (hop : o.op = .assign (.tmp p)) (hd : o.dst = some s) (hp : p < t.size) (h : K { tmps := (t.setIfInBounds p v).setIfInBounds s v, defers := [] } w) :
    (Code.region id #[o] false).wpIn F n P (Exit.then K (fun _ _ _ => False)) { tmps := ((#[p] : Array Tmp).zip #[v]).foldl (fun t (p, v) => t.setIfInBounds p v) t, defers := [] } w := by
  refine wpIn_region_list ?_
  rw [show ((#[p] : Array Tmp).zip #[v]).foldl (fun t (p, v) => t.setIfInBounds p v) t = t.setIfInBounds p v by simp]
  refine asgIn hg hop (sib_self hp) ?_
  rw [hd]
  exact h
theorem assign2 {id p q s u : Nat} {v x : Value} {t : Array Value} {o r : Oper} {K : Act → World → Prop} (hg : o.guard = none) (hop : o.op = .assign (.tmp p)) (hd : o.dst = some s) (hg2 : r.guard = none) (hop2 : r.op = .assign (.tmp q)) (hd2 : r.dst = some u) (hp : p < t.size) (hq : q < t.size) (hpq : Nat.beq q p = false) (hsq : Nat.beq s q = false) (h : K { tmps := (((t.setIfInBounds p v).setIfInBounds q x).setIfInBounds s v).setIfInBounds u x, defers := [] } w) :
    (Code.region id #[o, r] false).wpIn F n P (Exit.then K (fun _ _ _ => False)) { tmps := ((#[p, q] : Array Tmp).zip #[v, x]).foldl (fun t (p, v) => t.setIfInBounds p v) t, defers := [] } w := by
  refine wpIn_region_list ?_
  rw [show ((#[p, q] : Array Tmp).zip #[v, x]).foldl (fun t (p, v) => t.setIfInBounds p v) t = (t.setIfInBounds p v).setIfInBounds q x by simp]
  refine asgIn hg hop ((sib_ne hpq).trans (sib_self hp)) ?_
  rw [hd]
  refine asgIn hg2 hop2 ((sib_ne hsq).trans (sib_self (by simpa using hq))) ?_
  rw [hd2]
  exact h
end
end Go.Tx

namespace Go.Tx
open Go Go.Pel
/-- a variable of one number as a result -/
theorem gives_cell {w : World} {φ : Nat → Option Obj} (hφ : ∀ k ob, φ k = some ob → w.heap[k]? = some ob) {κ : IntKind} {n : Int} {e : TypeId} {l : LV} {v : Value} (hv : ∀ η : Emb, η.loc 0 = some ⟨w.heap.size, 0, 1⟩ → VR η l v) : Gives w φ (l, [.cells [.int κ n]]) (.returned v) (w.alloc (.cells #[.int κ n] e)) := by
  have hb : Bel w (w.alloc (.cells #[.int κ n] e)) := (Bel.refl w).alloc _
  have h2 : ∀ k ob, φ k = some ob → (w.alloc (.cells #[.int κ n] e)).heap[k]? = some ob := fun k ob hk => by rw [hb.block k (Array.getElem?_eq_some_iff.1 (hφ k ob hk)).1]; exact hφ k ob hk
  have hlt : ∀ k ob, φ k = some ob → k < w.heap.size := fun k ob hk => (Array.getElem?_eq_some_iff.1 (hφ k ob hk)).1
  have get0 : ∀ (b : Nat) ob, (heapOf [Ob.cells [.int κ n]]).get b = some ob → b = 0 ∧ ob = .cells [.int κ n] := fun b ob h => by
    rw [get_heapOf] at h
    cases b with
    | zero => simp at h; exact ⟨rfl, h.symm⟩
    | succ b => simp at h
  let η : Emb := ⟨fun b => if b = 0 then some ⟨w.heap.size, 0, 1⟩ else none, fun _ => none, φ⟩
  have hL : ∀ (b : Nat) L, η.loc b = some L → L = ⟨w.heap.size, 0, 1⟩ := fun b L h => by
    have h' : (if b = 0 then some (⟨w.heap.size, 0, 1⟩ : Loc) else none) = some L := h
    split at h'
    · injection h' with h'; exact h'.symm
    · cases h'
  have hat : At η (w.alloc (.cells #[.int κ n] e)) [.int κ n] ⟨w.heap.size, 0, 1⟩ := by
    refine ⟨by simp, by simp, fun j h1 h3 => ?_, fun j c hc => ?_⟩
    · obtain rfl : j = 0 := by have : j < 1 := h3; omega
      simp [go_sem]
    · cases j with
      | zero =>
        simp only [List.getElem?_cons_zero, Option.some.injEq] at hc; subst hc
        exact ⟨.int κ n, by simp [go_sem], .int _ _⟩
      | succ j => simp at hc
  refine ⟨v, η, rfl, hv η rfl, fun M => ⟨fun b hb1 _ => ?_, fun b ob h => ?_, fun b ob h => ?_, fun p q o1 o2 l1 l2 h1 h3 _ _ _ => ?_, h2, fun k ⟨b, ob, L, h1, h3, hk⟩ => ?_, fun b v h => by cases h⟩,
    hb.size, fun k hk => hb.block k hk, fun k ⟨b, ob, L, h1, h3, hk⟩ => ?_, fun _ _ h => h, fun _ _ h => .inl h, hb.os, hb.tape, hb.output, hb.mono, fun _ _ h => h.elim⟩
  · have hb1' : 1 ≤ b := hb1
    exact ⟨if_neg (by omega), rfl⟩
  · obtain ⟨rfl, _⟩ := get0 b ob h; exact Nat.zero_lt_one
  · obtain ⟨rfl, rfl⟩ := get0 b ob h; exact .cells (L := ⟨w.heap.size, 0, 1⟩) rfl hat
  · obtain ⟨rfl, _⟩ := get0 p o1 h1; obtain ⟨rfl, _⟩ := get0 q o2 h3; rfl
  · have := hL b L h3; subst this
    show φ k = none
    cases hf : φ k with
    | none => rfl
    | some ob => have := hlt k ob hf; have hk' : w.heap.size = k := hk; omega
  · have := hL b L h3; subst this
    exact Nat.le_of_eq hk
end Go.Tx
namespace Go.Proofs.Ytkcpnclgcmnlcaa
open Go.RowKit Go.Pel Go.Shelf
attribute [local go_sem] Oper.semAt_some
def upCo (b o : Nat) (A B : World) : Prop := ∃ u, B = A.setCell ⟨b, o, none⟩ u
set_option maxRecDepth 100000 in
set_option maxHeartbeats 1000000 in
theorem up1o_seq (b o i0 : Nat) (w : World) (hi : i0 ≤ 1000000) (hb : b < w.heap.size) (hc : w.cell? ⟨b, o, none⟩ = some (.int .i64 i0)) (hf : w.frozen? ⟨b, o, none⟩ = false) :
    SeqAll Fence.wide 3 Try.prog 106 #[.pointer (some ⟨b, o, none⟩)] (fun x : Int => #[.int .i64 x]) (upCo b o) (upK b) (wayI i0) w := by
  intro l J W hW hJ hY h0
  have hc0 : W.cell? ⟨b, o, none⟩ = some (.int .i64 i0) := (hW.cell (p := ⟨b, o, none⟩) hb).trans hc
  have hf0 : W.frozen? ⟨b, o, none⟩ = false := by
    rw [← hf]; exact World.frozen?_of_block (hW.block _ hb)
  clear hc hf hb
  refine callsIn_of_wp Try.func106 rfl trivial ?_ rfl
  simp only [Try.ntmps106, List.size_toArray, List.length_cons, List.length_nil, Nat.reduceAdd, Nat.reduceSub, Array.replicate_succ, Array.replicate_zero, List.push_toArray, List.append_toArray, List.nil_append, List.cons_append]
  gi_wp2
  have HI := Lib.hid hi
  clear hi
  gi_loopw [] (fun wr => ∃ (q : Nat) (pre : List Int), wr.cell? ⟨b, o, none⟩ = some (.int .i64 q) ∧ wr.frozen? ⟨b, o, none⟩ = false ∧ pre ++ wayI q = wayI i0 ∧ J pre wr ∧ q ≤ 1000000) (fun wr => match wr.cell? ⟨b, o, none⟩ with | some v => (intOf v).toNat | none => 0)
  case atStart => exact ⟨i0, [], hc0, hf0, rfl, h0, HI.out⟩
  case round =>
    obtain ⟨q, pre, hc, hf, hx, hj, hq⟩ := hrel
    clear hc0 hf0 h0 hW
    cases q with
    | zero =>
      obtain rfl : pre = wayI i0 := by rw [wayI_zero, List.append_nil] at hx; exact hx
      have z1 : decide ((0 : Int) < ((0 : Nat) : Int)) = false := by decide
      clear hx hY hJ
      gi_wp2
      go_end0
      exact ⟨⟨_, rfl⟩, hj⟩
    | succ j =>
      have z1 : decide ((0 : Int) < ((j + 1 : Nat) : Int)) = true := by rw [decide_eq_true_eq]; omega
      have e2 : IntKind.i64.wrap (((j + 1 : Nat) : Int) - 1) = (j : Int) := by rw [IntWalk.i64_in _ (by omega)]; omega
      obtain ⟨x, hxe⟩ : ∃ x : Int, (j : Int) / 2 = x := ⟨_, rfl⟩
      have hx2 : ((j / 2 : Nat) : Int) = x := by omega
      have hxs : wayI i0 = pre ++ x :: wayI (j / 2) := by rw [← hx, wayI_succ, hx2]
      have hJ2 := hJ pre wr (wr.setCell ⟨b, o, none⟩ (.int .i64 x)) hj ⟨_, rfl⟩
      have hc2 : (wr.setCell ⟨b, o, none⟩ (.int .i64 x)).cell? ⟨b, o, none⟩ = some (.int .i64 x) := by simp [go_sem, hc]
      have hf2 : (wr.setCell ⟨b, o, none⟩ (.int .i64 x)).frozen? ⟨b, o, none⟩ = false := by simp [go_sem, hf]
      obtain ⟨fn, tmps, assign, body, hy, hR⟩ := hY pre x (wayI (j / 2)) _ hxs hJ2
      have HX := Lib.hid hx
      have HX2 := Lib.hid hx2
      have HXS := Lib.hid hxs
      have HY := Lib.hid hY
      have HJ := Lib.hid hJ
      have HQ := Lib.hid hq
      have w1 : wrap64 (j : Int) = (j : Int) := IntWalk.wrap64_in _ (by omega)
      have w2 : (j : Int).tdiv 2 = x := by rw [← hxe]; exact Int.tdiv_eq_ediv_of_nonneg (by omega)
      have w3 : wrap64 x = x := IntWalk.wrap64_in _ (by omega)
      clear hx hx2 hxs hq hY hJ hxe
      gi_wp2
      refine hR.mono ?_
      rintro e W3 ⟨rfl, hJ3, hk3⟩
      have hc3 : W3.cell? ⟨b, o, none⟩ = some (.int .i64 x) := (World.cell?_of_block (a := ⟨b, o, none⟩) hk3).trans hc2
      have hf3 : W3.frozen? ⟨b, o, none⟩ = false := (World.frozen?_of_block (a := ⟨b, o, none⟩) hk3).trans hf2
      gi_wp2
      go_roundw
      case rel => exact ⟨j / 2, pre ++ [x], by rw [HX2.out]; exact hc3, hf3, by rw [HXS.out, List.append_assoc]; rfl, hJ3, by have := HQ.out; omega⟩
      case measure => rw [hc3, hc]; have := HX2.out; simp [intOf]; omega
end Go.Proofs.Ytkcpnclgcmnlcaa

namespace Go.Proofs.Ytkcpnclgcmnlcaa
open Go Go.Tx Go.Pel Go.Proofs.Try
theorem onlyB_setCell (A : World) (b o : Nat) (u : Value) : OnlyB b A (A.setCell ⟨b, o, none⟩ u) := by
  refine ⟨by simp, fun k hk => ?_, ?_, ?_, ?_, ?_⟩
  · exact heap_other (by omega)
  all_goals first | rfl | simp
theorem up1_iter (i0 : Nat) (hi : i0 ≤ 1000000) : IterOK prog 106 [.int .i64 (i0 : Int)] (fun x : Int => #[.int .i64 x]) (wayI i0) := by
  intro w η L hat _
  obtain ⟨v, h1, h2⟩ := hat.cell 0 _ rfl
  cases h2
  have hf := hat.fits
  have h3 := hat.there L.base (Nat.le_refl _) (by simp at hf; omega)
  intro l J W hW hJ hY h0
  exact up1o_seq L.block (L.base + 0) i0 w hi hat.lt h1 h3.2 l J W hW (fun s A B hs ⟨u, hu⟩ => hJ s A B hs (by rw [hu]; exact onlyB_setCell A _ _ u)) (fun pre x rest A hxs hj => by
    obtain ⟨fn, tmps, assign, body, hy, hR⟩ := hY pre x rest A hxs hj
    exact ⟨fn, tmps, assign, body, hy, hR.mono fun e B h => ⟨h.1, h.2.1, h.2.2.1⟩⟩) h0
def upB (n : Int) : Bool := decide (0 ≤ n) && decide (n ≤ 1000000)
theorem up1_iterI {n : Int} (h : upB n = true) : IterOK prog 106 [.int .i64 n] (fun x : Int => #[.int .i64 x]) (wayI n.toNat) := by
  unfold upB at h
  simp only [Bool.and_eq_true, decide_eq_true_eq] at h
  have := up1_iter n.toNat (by omega)
  rwa [show ((n.toNat : Nat) : Int) = n by omega] at this
abbrev bracket_up_ps : List Pk := [.row Ri false]
abbrev bracket_up_X : Type := Di × Unit
abbrev bracket_up_R : Type := Int
def bracket_up_enc (r : bracket_up_R) : LV × List Ob := (.fn 106 [.ptr 0 0], [.cells [.int .i64 r]])
def bracket_up_sp (F : bracket_up_X → Option bracket_up_R) : Go.Tx.Spec := ⟨78, bracket_up_ps, bracket_up_R, F, bracket_up_enc⟩
def bracket_up_if (x : bracket_up_X) : Bool := decide (0 ≤ x.1.1)
def F_bracket_up (d : Nat) (x : bracket_up_X) : Option bracket_up_R := bif bracket_up_if x then some (x.1.1) else none
theorem F_bracket_up_eq (d : Nat) (x : bracket_up_X) (h : bracket_up_if x = true) : F_bracket_up d x = some (x.1.1) := by unfold F_bracket_up; rw [h]; rfl
theorem bracket_up_cok (d : Nat) : COK prog (bracket_up_sp (F_bracket_up d)) := by
  refine cok_old (body_of (fn := f78) (by kernel_rfl) (by kernel_rfl) (by kernel_rfl)) fun x r hx w φ vs hφ hv => ?_
  have hx : F_bracket_up d x = some r := hx
  unfold F_bracket_up at hx
  obtain ⟨hc, rfl⟩ := bif_some hx
  have hv : VRs (Emb.fro φ) [.int .i64 x.1.1] vs := hv
  obtain ⟨v0, rfl, q0⟩ := vrs1 hv
  have r0 := vr_int q0; subst r0
  have h1 : 0 ≤ x.1.1 := of_decide_eq_true hc
  obtain ⟨n, hn⟩ : ∃ n : Nat, x.1.1 = n := ⟨x.1.1.toNat, by omega⟩
  rw [hn]
  refine (up_any n w).mono ?_
  rintro e w' ⟨rfl, rfl⟩
  refine gives_cell hφ fun η e0 => ?_
  exact .fn (vs := [.pointer (some ⟨w.heap.size, 0, none⟩)]) rfl fun i c v h1 h2 => by
    cases i with
    | zero => simp at h1 h2; subst h1 h2; exact .ptr (L := ⟨w.heap.size, 0, 1⟩) e0
    | succ i => simp at h1
end Go.Proofs.Ytkcpnclgcmnlcaa

namespace Go.Pel
open Go Go.RowKit
theorem wayI_lt : ∀ (i : Nat) (x : Int), x ∈ wayI i → 0 ≤ x ∧ x < i := by
  intro i
  induction i using Nat.strongRecOn with
  | _ i ih =>
    intro x hx
    cases i with
    | zero => rw [wayI_zero] at hx; cases hx
    | succ i =>
      rw [wayI_succ] at hx
      rcases List.mem_cons.1 hx with rfl | hx
      · omega
      · have := ih (i / 2) (by omega) x hx; omega
theorem wayI_head (i : Nat) : ((i / 2 : Nat) : Int) ∈ wayI (i + 1) := by rw [wayI_succ]; exact List.mem_cons_self ..
theorem wayI_up : ∀ (i c : Nat), ((c + 1 : Nat) : Int) ∈ wayI i → ((c / 2 : Nat) : Int) ∈ wayI i := by
  intro i
  induction i using Nat.strongRecOn with
  | _ i ih =>
    intro c hc
    cases i with
    | zero => rw [wayI_zero] at hc; cases hc
    | succ i =>
      rw [wayI_succ] at hc ⊢
      rcases List.mem_cons.1 hc with h | h
      · have h2 : i / 2 = c + 1 := by omega
        rw [h2]; exact List.mem_cons_of_mem _ (wayI_head c)
      · exact List.mem_cons_of_mem _ (ih (i / 2) (by omega) c h)
theorem wayI_small (i : Nat) (hi : i ≤ 140) : (wayI i).length ≤ 140 := Nat.le_trans (wayI_len i) hi
theorem getD_set {l : List Int} {k j : Nat} {v : Int} (hk : k < l.length) : (l.set k v).getD j 0 = if j = k then v else l.getD j 0 := by
  rw [List.getD_eq_getElem?_getD, List.getD_eq_getElem?_getD, List.getElem?_set]
  by_cases h : k = j
  · subst h; rw [if_pos rfl, if_pos rfl, if_pos hk]; rfl
  · rw [if_neg h, if_neg (Ne.symm h)]
theorem nodeV_setW {P W : List Int} {k j : Nat} {v : Int} (hk : k < W.length) : nodeV P (W.set k v) j = if j = k then v else nodeV P W j := by
  unfold nodeV
  rw [List.length_set]
  by_cases h : j < W.length
  · rw [if_pos h, if_pos h, getD_set hk]
  · rw [if_neg h, if_neg h, if_neg (by omega)]
theorem nodeV_setP {P W : List Int} {p j : Nat} {v : Int} (hp : p < P.length) : nodeV (P.set p v) W j = if j = W.length + p then v else nodeV P W j := by
  unfold nodeV
  by_cases h : j < W.length
  · rw [if_pos h, if_pos h, if_neg (by omega)]
  · rw [if_neg h, if_neg h, getD_set hp]
    by_cases h2 : j - W.length = p
    · rw [if_pos h2, if_pos (by omega)]
    · rw [if_neg h2, if_neg (by omega)]
/-- the winner at a node, out of those below it -/
def downV (l : List Pt) (n d : Int) (P W : List Int) (k : Nat) : Int := wonV l n d (nodeV P W (2 * k + 1)) (nodeV P W (2 * k + 2))
def setStep (l : List Pt) (n d : Int) (P W0 : List Int) (s : List Int × List Int) (k : Int) : List Int × List Int :=
  (s.1.set k.toNat (downV l n d P s.1 k.toNat), if downV l n d P s.1 k.toNat = W0.getD k.toNat 0 then s.2 else s.2 ++ [k])
def setR (l : List Pt) (n d : Int) (P W0 : List Int) (i : Nat) (s : List Int × List Int) : List Int × List Int := (wayI i).foldl (setStep l n d P W0) s
theorem setR_zero (l : List Pt) (n d : Int) (P W0 : List Int) (s : List Int × List Int) : setR l n d P W0 0 s = s := by unfold setR; rw [wayI_zero]; rfl
theorem setR_succ (l : List Pt) (n d : Int) (P W0 : List Int) (i : Nat) (s : List Int × List Int) : setR l n d P W0 (i + 1) s = setR l n d P W0 (i / 2) (setStep l n d P W0 s ((i / 2 : Nat) : Int)) := by unfold setR; rw [wayI_succ]; rfl
theorem setR_len (l : List Pt) (n d : Int) (P W0 : List Int) : ∀ (i : Nat) (s : List Int × List Int), (setR l n d P W0 i s).1.length = s.1.length := by
  intro i
  induction i using Nat.strongRecOn with
  | _ i ih =>
    intro s
    cases i with
    | zero => rw [setR_zero]
    | succ i => rw [setR_succ, ih (i / 2) (by omega)]; simp [setStep]
theorem setR_len2 (l : List Pt) (n d : Int) (P W0 : List Int) : ∀ (i : Nat) (s : List Int × List Int), (setR l n d P W0 i s).2.length ≤ s.2.length + i := by
  intro i
  induction i using Nat.strongRecOn with
  | _ i ih =>
    intro s
    cases i with
    | zero => rw [setR_zero]; exact Nat.le_refl _
    | succ i =>
      rw [setR_succ]
      have := ih (i / 2) (by omega) (setStep l n d P W0 s ((i / 2 : Nat) : Int))
      have h2 : (setStep l n d P W0 s ((i / 2 : Nat) : Int)).2.length ≤ s.2.length + 1 := by
        unfold setStep; simp only; split <;> simp
      omega
/-- P10.3 -/
def brSet (l : List Pt) (n d : Int) (P W : List Int) (k id : Int) : List Int × List Int × List Int × Int :=
  if brChk P W ≠ 0 then ([], [], [], 8) else if timed l n d ≠ 0 then ([], [], [], timed l n d) else if k < 0 ∨ (P.length : Int) ≤ k then ([], [], [], 2) else
  if knownB l (P.set k.toNat id) = true then (if onceB (P.set k.toNat id) = true then (P.set k.toNat id, (setR l n d (P.set k.toNat id) W (W.length + k.toNat) (W, [])).1, (setR l n d (P.set k.toNat id) W (W.length + k.toNat) (W, [])).2, 0) else ([], [], [], 14)) else ([], [], [], 6)
/-- all nodes but those above a node have an ID of the field, or none -/
def OkBut (l : List Pt) (P W : List Int) (i : Nat) : Prop := ∀ j, j < W.length + P.length → (j : Int) ∉ wayI i → Ok l (nodeV P W j)
theorem okBut_start {l : List Pt} {P W : List Int} {p : Nat} {id : Int} (hl : W.length + 1 = P.length) (hW : ∀ i, i < W.length → winOk P W i = true) (hp : p < P.length) (hk : knownB l (P.set p id) = true) : OkBut l (P.set p id) W (W.length + p) := by
  have key : ∀ (m j : Nat), j + m = W.length + P.length → 0 < m → (j : Int) ∉ wayI (W.length + p) → Ok l (nodeV (P.set p id) W j) := by
    intro m
    induction m using Nat.strongRecOn with
    | _ m ih =>
      intro j hj hm hn
      by_cases h : j < W.length
      · have e : nodeV (P.set p id) W j = W.getD j 0 := by unfold nodeV; rw [if_pos h]
        have h3 := hW j h
        unfold winOk at h3
        simp only [Bool.and_eq_true, Bool.or_eq_true, beq_iff_eq] at h3
        have child : ∀ c, (c = 2 * j + 1 ∨ c = 2 * j + 2) → nodeV P W c = nodeV (P.set p id) W c ∧ Ok l (nodeV (P.set p id) W c) := by
          intro c hc
          have hn2 : ((c : Nat) : Int) ∉ wayI (W.length + p) := by
            intro hm2
            obtain ⟨c', rfl⟩ : ∃ c', c = c' + 1 := ⟨c - 1, by omega⟩
            have := wayI_up _ c' hm2
            rw [show c' / 2 = j by omega] at this
            exact hn this
          have hne : c ≠ W.length + p := by
            intro he
            obtain ⟨c', rfl⟩ : ∃ c', c = c' + 1 := ⟨c - 1, by omega⟩
            have := wayI_head c'
            rw [he, show c' / 2 = j by omega] at this
            exact hn this
          refine ⟨by rw [nodeV_setP hp, if_neg hne], ih (m - (c - j)) (by omega) c (by omega) (by omega) hn2⟩
        rw [e]
        rcases h3.1 with h4 | h4
        · obtain ⟨c1, c2⟩ := child (2 * j + 1) (.inl rfl)
          rw [h4, c1]; exact c2
        · obtain ⟨c1, c2⟩ := child (2 * j + 2) (.inr rfl)
          rw [h4, c1]; exact c2
      · have e : nodeV (P.set p id) W j = (P.set p id).getD (j - W.length) 0 := by unfold nodeV; rw [if_neg h]
        rw [e]
        have hlt : j - W.length < (P.set p id).length := by rw [List.length_set]; omega
        have : (P.set p id).getD (j - W.length) 0 ∈ P.set p id := by
          rw [List.getD_eq_getElem?_getD, List.getElem?_eq_getElem hlt]; exact List.getElem_mem hlt
        exact known_ok hk this
  intro j hj hn
  rw [List.length_set] at hj
  exact key (W.length + P.length - j) j (by omega) (by omega) hn
theorem okBut_step {l : List Pt} {n d : Int} {P W : List Int} {i : Nat} (hl : W.length + 1 = P.length) (hi : i / 2 < W.length) (h : OkBut l P W (i + 1)) :
    Ok l (nodeV P W (2 * (i / 2) + 1)) ∧ Ok l (nodeV P W (2 * (i / 2) + 2)) ∧ OkBut l P (W.set (i / 2) (downV l n d P W (i / 2))) (i / 2) := by
  have nin : ∀ c, i / 2 < c → ((c : Nat) : Int) ∉ wayI (i + 1) := by
    intro c hc hm
    rw [wayI_succ] at hm
    rcases List.mem_cons.1 hm with h | h
    · omega
    · have := wayI_lt _ _ h; omega
  have h1 := h (2 * (i / 2) + 1) (by omega) (nin _ (by omega))
  have h2 := h (2 * (i / 2) + 2) (by omega) (nin _ (by omega))
  refine ⟨h1, h2, fun j hj hn => ?_⟩
  rw [List.length_set] at hj
  rw [nodeV_setW hi]
  split
  · exact won_ok h1 h2
  · rename_i hne
    refine h j hj fun hm => ?_
    rw [wayI_succ] at hm
    rcases List.mem_cons.1 hm with h | h
    · omega
    · exact hn h
/-- nodes that are not above a node keep their winners -/
theorem setR_keep (l : List Pt) (n d : Int) (P W0 : List Int) : ∀ (i : Nat) (s : List Int × List Int) (j : Nat), (j : Int) ∉ wayI i → i ≤ 2 * s.1.length → (setR l n d P W0 i s).1.getD j 0 = s.1.getD j 0 := by
  intro i
  induction i using Nat.strongRecOn with
  | _ i ih =>
    intro s j hj hi
    cases i with
    | zero => rw [setR_zero]
    | succ i =>
      rw [wayI_succ] at hj
      have hj2 : (j : Int) ≠ ((i / 2 : Nat) : Int) ∧ (j : Int) ∉ wayI (i / 2) := by simpa using hj
      rw [setR_succ, ih (i / 2) (by omega) _ j hj2.2 (by simp [setStep]; omega)]
      unfold setStep
      simp only [Int.toNat_natCast]
      rw [getD_set (by omega), if_neg (by omega)]
/-- all nodes but those above a node are as they should be -/
def FineBut (l : List Pt) (n d : Int) (P W : List Int) (i : Nat) : Prop := ∀ j, j < W.length → (j : Int) ∉ wayI i → W.getD j 0 = downV l n d P W j
theorem fineBut_start {l : List Pt} {n d : Int} {P W : List Int} {p : Nat} {id : Int} (hp : p < P.length) (h : ∀ j, j < W.length → W.getD j 0 = downV l n d P W j) : FineBut l n d (P.set p id) W (W.length + p) := by
  intro j hj hn
  have ne : ∀ c, c = 2 * j + 1 ∨ c = 2 * j + 2 → c ≠ W.length + p := by
    intro c hc he
    obtain ⟨c', rfl⟩ : ∃ c', c = c' + 1 := ⟨c - 1, by omega⟩
    have := wayI_head c'
    rw [he, show c' / 2 = j by omega] at this
    exact hn this
  rw [h j hj]
  unfold downV
  rw [nodeV_setP hp, nodeV_setP hp, if_neg (ne _ (.inl rfl)), if_neg (ne _ (.inr rfl))]
theorem setR_fine (l : List Pt) (n d : Int) (P W0 : List Int) : ∀ (i : Nat) (s : List Int × List Int), FineBut l n d P s.1 i → i ≤ 2 * s.1.length → ∀ j, j < s.1.length → (setR l n d P W0 i s).1.getD j 0 = downV l n d P (setR l n d P W0 i s).1 j := by
  intro i
  induction i using Nat.strongRecOn with
  | _ i ih =>
    intro s h hi j hj
    cases i with
    | zero => rw [setR_zero]; exact h j hj (by rw [wayI_zero]; exact List.not_mem_nil)
    | succ i =>
      have hk : i / 2 < s.1.length := by omega
      have hl : (setStep l n d P W0 s ((i / 2 : Nat) : Int)).1.length = s.1.length := by simp [setStep]
      rw [setR_succ]
      refine ih (i / 2) (by omega) _ (fun q hq hn => ?_) (by omega) j (by omega)
      have e : (setStep l n d P W0 s ((i / 2 : Nat) : Int)).1 = s.1.set (i / 2) (downV l n d P s.1 (i / 2)) := by unfold setStep; simp only [Int.toNat_natCast]
      rw [hl] at hq
      rw [e]
      have hd : ∀ c, c ≠ i / 2 → nodeV P (s.1.set (i / 2) (downV l n d P s.1 (i / 2))) c = nodeV P s.1 c := fun c hc => by rw [nodeV_setW hk, if_neg hc]
      by_cases hqk : q = i / 2
      · subst hqk
        rw [getD_set hk, if_pos rfl]
        show _ = wonV _ _ _ _ _
        rw [hd _ (by omega), hd _ (by omega)]; rfl
      · rw [getD_set hk, if_neg hqk, h q hq (by rw [wayI_succ]; simp; exact ⟨by omega, hn⟩)]
        show wonV _ _ _ _ _ = wonV _ _ _ _ _
        have nk : ∀ c, c = 2 * q + 1 ∨ c = 2 * q + 2 → c ≠ i / 2 := by
          intro c hc he
          obtain ⟨c', rfl⟩ : ∃ c', c = c' + 1 := ⟨c - 1, by omega⟩
          have := wayI_head c'
          rw [he, show c' / 2 = q by omega] at this
          exact hn this
        rw [hd _ (nk _ (.inl rfl)), hd _ (nk _ (.inr rfl))]
/-- the nodes that are told are those with other winners -/
theorem setR_told (l : List Pt) (n d : Int) (P W0 : List Int) : ∀ (i : Nat) (s : List Int × List Int), i ≤ 2 * s.1.length → (setR l n d P W0 i s).2 = s.2 ++ (wayI i).filter fun k => !decide ((setR l n d P W0 i s).1.getD k.toNat 0 = W0.getD k.toNat 0) := by
  intro i
  induction i using Nat.strongRecOn with
  | _ i ih =>
    intro s hi
    cases i with
    | zero => rw [setR_zero, wayI_zero]; simp
    | succ i =>
      have hk : i / 2 < s.1.length := by omega
      have hl : (setStep l n d P W0 s ((i / 2 : Nat) : Int)).1.length = s.1.length := by simp [setStep]
      have e : (setStep l n d P W0 s ((i / 2 : Nat) : Int)).1 = s.1.set (i / 2) (downV l n d P s.1 (i / 2)) := by unfold setStep; simp only [Int.toNat_natCast]
      have hv : (setR l n d P W0 (i / 2) (setStep l n d P W0 s ((i / 2 : Nat) : Int))).1.getD (i / 2) 0 = downV l n d P s.1 (i / 2) := by
        rw [setR_keep l n d P W0 (i / 2) _ (i / 2) (fun hm => by have := wayI_lt _ _ hm; omega) (by omega), e, getD_set hk, if_pos rfl]
      rw [setR_succ, ih (i / 2) (by omega) _ (by omega)]
      rw [wayI_succ, List.filter_cons]
      simp only [Int.toNat_natCast, hv]
      show (if downV l n d P s.1 (((i / 2 : Nat) : Int)).toNat = W0.getD (((i / 2 : Nat) : Int)).toNat 0 then s.2 else s.2 ++ [((i / 2 : Nat) : Int)]) ++ _ = _
      simp only [Int.toNat_natCast]
      by_cases hc : downV l n d P s.1 (i / 2) = W0.getD (i / 2) 0
      · rw [if_pos hc, decide_eq_true hc]; simp
      · rw [if_neg hc, decide_eq_false hc]; simp
end Go.Pel

namespace Go.Pel
open Go Go.RowKit
theorem winOk_val {P W : List Int} {i : Nat} {x y v : Int} (hx : nodeV P W (2 * i + 1) = x) (hy : nodeV P W (2 * i + 2) = y) (hv : W.getD i 0 = v) (h1 : v = x ∨ v = y) (h2 : v < 0 → x < 0 ∧ y < 0) : winOk P W i = true := by
  unfold winOk
  rw [hx, hy, hv]
  have e1 : (v == x || v == y) = true := by rw [Bool.or_eq_true, beq_iff_eq, beq_iff_eq]; exact h1
  have e2 : (decide (v < 0) && decide (0 ≤ max x y)) = false := by
    by_cases hn : v < 0
    · obtain ⟨a, b⟩ := h2 hn
      rw [Bool.and_eq_false_iff]; right
      exact decide_eq_false (by omega)
    · rw [decide_eq_false hn]; rfl
  rw [e1, e2]; rfl
theorem won_val (l : List Pt) (n d x y : Int) : (wonV l n d x y = x ∨ wonV l n d x y = y) ∧ (wonV l n d x y < 0 → x < 0 ∧ y < 0) := by
  unfold wonV
  split
  · split
    · exact ⟨.inr rfl, fun h => by omega⟩
    · exact ⟨.inl rfl, fun h => by omega⟩
  · split
    · exact ⟨.inl rfl, fun h => by omega⟩
    · exact ⟨.inr rfl, fun h => by omega⟩
theorem winOk_fine {l : List Pt} {n d : Int} {P W : List Int} {i : Nat} (h : W.getD i 0 = downV l n d P W i) : winOk P W i = true := by
  obtain ⟨h1, h2⟩ := won_val l n d (nodeV P W (2 * i + 1)) (nodeV P W (2 * i + 2))
  exact winOk_val rfl rfl h h1 h2
theorem ok_ids {l : List Pt} (hf : fieldChk l = 0) {x : Int} (h : Ok l x) : inIds x = true := by
  unfold inIds
  rcases h with rfl | h
  · rfl
  · have := has_nonneg hf h; simp; omega
theorem getD_mem {l : List Int} {k : Nat} (h : k < l.length) : l.getD k 0 ∈ l := by
  rw [List.getD_eq_getElem?_getD, List.getElem?_eq_getElem h]; exact List.getElem_mem h
/-- all winners are as they should be -/
def Fine (l : List Pt) (n d : Int) (P W : List Int) : Prop := ∀ j, j < W.length → W.getD j 0 = downV l n d P W j
theorem fineB_iff {l : List Pt} {n d : Int} {P W : List Int} : fineB l n d P W = true ↔ Fine l n d P W := by
  unfold fineB
  rw [allB_iff]
  exact ⟨fun h j hj => beq_iff_eq.1 (h j hj), fun h j hj => beq_iff_eq.2 (h j hj)⟩
theorem valid_of {l : List Pt} {P W : List Int} (hf : fieldChk l = 0) (h1 : 1 ≤ P.length) (h2 : P.length ≤ 64) (h3 : W.length + 1 = P.length) (h4 : onceB P = true) (h5 : knownB l P = true) (h6 : ∀ j, j < W.length → winOk P W j = true) : brChk P W = 0 := by
  refine brChk_ok ?_ (allB_iff.2 fun k hk => ok_ids hf (known_ok h5 (getD_mem hk))) (allB_iff.2 h6)
  unfold shapeOk; simp [h1, h2, h3, h4]
theorem setR_node (l : List Pt) (n d : Int) (P W0 : List Int) {i c : Nat} {s : List Int × List Int} (hc : (c : Int) ∉ wayI i) (hi : i ≤ 2 * s.1.length) : nodeV P (setR l n d P W0 i s).1 c = nodeV P s.1 c := by
  unfold nodeV
  rw [setR_len, setR_keep l n d P W0 i s c hc hi]
/-- the nodes above a node are as they should be -/
theorem setR_on (l : List Pt) (n d : Int) (P W0 : List Int) : ∀ (i : Nat) (s : List Int × List Int), i ≤ 2 * s.1.length → ∀ j : Nat, (j : Int) ∈ wayI i → (setR l n d P W0 i s).1.getD j 0 = downV l n d P (setR l n d P W0 i s).1 j := by
  intro i
  induction i using Nat.strongRecOn with
  | _ i ih =>
    intro s hi j hj
    cases i with
    | zero => rw [wayI_zero] at hj; cases hj
    | succ i =>
      have hk : i / 2 < s.1.length := by omega
      have hl : (setStep l n d P W0 s ((i / 2 : Nat) : Int)).1.length = s.1.length := by simp [setStep]
      have e : (setStep l n d P W0 s ((i / 2 : Nat) : Int)).1 = s.1.set (i / 2) (downV l n d P s.1 (i / 2)) := by unfold setStep; simp only [Int.toNat_natCast]
      rw [setR_succ]
      rw [wayI_succ] at hj
      rcases List.mem_cons.1 hj with hj | hj
      · have hj' : j = i / 2 := by omega
        subst hj'
        have nin : ∀ c, i / 2 ≤ c → ((c : Nat) : Int) ∉ wayI (i / 2) := fun c hc hm => by have := wayI_lt _ _ hm; omega
        rw [setR_keep l n d P W0 (i / 2) _ (i / 2) (nin _ (Nat.le_refl _)) (by omega), e, getD_set hk, if_pos rfl]
        show wonV _ _ _ _ _ = wonV _ _ _ _ _
        rw [setR_node l n d P W0 (nin _ (by omega)) (by omega), setR_node l n d P W0 (nin _ (by omega)) (by omega), e, nodeV_setW hk, nodeV_setW hk, if_neg (by omega), if_neg (by omega)]
      · exact ih (i / 2) (by omega) _ (by omega) j hj
theorem not_way {i j c : Nat} (hc : c = 2 * j + 1 ∨ c = 2 * j + 2) (hn : (j : Int) ∉ wayI i) : (c : Int) ∉ wayI i ∧ c ≠ i := by
  obtain ⟨c', rfl⟩ : ∃ c', c = c' + 1 := ⟨c - 1, by omega⟩
  refine ⟨fun hm => ?_, fun he => ?_⟩
  · have := wayI_up _ c' hm
    rw [show c' / 2 = j by omega] at this
    exact hn this
  · have := wayI_head c'
    rw [he, show c' / 2 = j by omega] at this
    exact hn this
theorem setR_winOk {l : List Pt} {n d : Int} {P W : List Int} {p : Nat} {id : Int} (hl : W.length + 1 = P.length) (hW : ∀ i, i < W.length → winOk P W i = true) (hp : p < P.length) : ∀ j, j < W.length → winOk (P.set p id) (setR l n d (P.set p id) W (W.length + p) (W, [])).1 j = true := by
  intro j hj
  have hi : W.length + p ≤ 2 * W.length := by omega
  by_cases hm : (j : Int) ∈ wayI (W.length + p)
  · exact winOk_fine (setR_on l n d _ W (W.length + p) (W, []) hi j hm)
  · have c1 := not_way (.inl rfl) hm
    have c2 := not_way (.inr rfl) hm
    have h := hW j hj
    unfold winOk at h ⊢
    rw [setR_keep l n d _ W (W.length + p) (W, []) j hm hi, setR_node l n d _ W c1.1 hi, setR_node l n d _ W c2.1 hi, nodeV_setP hp, nodeV_setP hp, if_neg c1.2, if_neg c2.2]
    exact h
theorem fillB_fine (l : List Pt) (n d : Int) (P : List Int) : ∀ (m : Nat) (W : List Int), m ≤ W.length → (∀ j, m ≤ j → j < W.length → W.getD j 0 = downV l n d P W j) → Fine l n d P (fillB l n d P m W)
  | 0, W, _, h => fun j hj => h j (Nat.zero_le _) hj
  | m + 1, W, hm, h => by
    unfold fillB
    refine fillB_fine l n d P m _ (by rw [List.length_set]; omega) fun j h1 h2 => ?_
    rw [List.length_set] at h2
    have hd : ∀ v c, m < c → nodeV P (W.set m v) c = nodeV P W c := fun v c hc => by rw [nodeV_setW (by omega), if_neg (by omega)]
    show _ = wonV _ _ _ _ _
    rw [hd _ _ (by omega), hd _ _ (by omega), getD_set (by omega)]
    by_cases he : j = m
    · subst he; rw [if_pos rfl]
    · rw [if_neg he]; exact h j (by omega) h2
theorem builtB_fine (l : List Pt) (n d : Int) (P : List Int) : Fine l n d P (builtB l n d P) :=
  fillB_fine l n d P _ _ (by simp) fun j h1 h2 => by simp at h2; omega
theorem fine_only {l : List Pt} {n d : Int} {P V W : List Int} (hl : V.length = W.length) (hP : W.length + 1 = P.length) (hV : Fine l n d P V) (hW : Fine l n d P W) : V = W := by
  have key : ∀ (m j : Nat), j + m = W.length + P.length → nodeV P V j = nodeV P W j := by
    intro m
    induction m using Nat.strongRecOn with
    | _ m ih =>
      intro j hj
      by_cases h : j < W.length
      · have a := hV j (by omega)
        have b := hW j h
        unfold nodeV
        rw [if_pos (by omega), if_pos h, a, b]
        unfold downV
        rw [ih (m - (j + 1)) (by omega) (2 * j + 1) (by omega), ih (m - (j + 2)) (by omega) (2 * j + 2) (by omega)]
      · unfold nodeV; rw [if_neg (by omega), if_neg h, hl]
  refine List.ext_getElem? fun j => ?_
  by_cases h : j < W.length
  · have := key (W.length + P.length - j) j (by omega)
    unfold nodeV at this
    rw [if_pos (by omega), if_pos h, List.getD_eq_getElem?_getD, List.getD_eq_getElem?_getD, List.getElem?_eq_getElem h, List.getElem?_eq_getElem (show j < V.length by omega)] at this
    rw [List.getElem?_eq_getElem h, List.getElem?_eq_getElem (show j < V.length by omega)]
    exact congrArg some this
  · rw [List.getElem?_eq_none (by omega), List.getElem?_eq_none (by omega)]
theorem wayI_deep : ∀ (k i : Nat), i + 1 < 2 ^ (k + 1) → (wayI i).length ≤ k
  | k, 0, _ => by rw [wayI_zero]; exact Nat.zero_le _
  | 0, i + 1, h => by rw [Nat.zero_add, Nat.pow_one] at h; omega
  | k + 1, i + 1, h => by
    rw [wayI_succ, List.length_cons]
    have := wayI_deep k (i / 2) (by rw [Nat.pow_succ] at h; omega)
    omega
end Go.Pel

namespace Go.Proofs.Ytkcpnclgcmnlcaa
open Go Go.Tx Go.Pel Go.Proofs.Try
theorem wr64 {x : Int} (h1 : -9223372036854775808 ≤ x) (h2 : x ≤ 9223372036854775807) : IntKind.wrap .i64 x = x := IntWalk.i64_in _ (by omega)
theorem inB_t {i : Int} {n : Nat} (h0 : 0 ≤ i) (h : i < n) : inB i n = true := inB_iff.2 ⟨h0, h⟩
theorem apB_t {m n : Nat} (h : m + n ≤ 100000) : apB m n = true := by unfold apB; exact Nat.ble_eq_true_of_le h
theorem elt_unI (l : List Int) (k : Nat) : (elt zi (unI l) k).1 = l.getD k 0 := by
  unfold elt unI
  rw [List.getElem?_map, List.getD_eq_getElem?_getD]
  cases l[k]? <;> rfl
theorem set_unI (l : List Int) (k : Nat) (v : Int) : List.set (unI l) k (v, ()) = unI (l.set k v) := by
  unfold unI; rw [List.map_set]; rfl
theorem app_unI (l : List Int) (v : Int) : unI l ++ [(v, ())] = unI (l ++ [v]) := by
  unfold unI; rw [List.map_append]; rfl
end Go.Proofs.Ytkcpnclgcmnlcaa

namespace Go.Proofs.Ytkcpnclgcmnlcaa
open Go Go.Tx Go.Pel Go.Proofs.Try Go.ChangeShapes Go.WideShapes Go.ChangeAt Go.RowKit
theorem great_le {n : Nat} (h : great n = false) : n ≤ 70 := by
  unfold great at h; simp only [Bool.or_eq_false_iff, decide_eq_false_iff_not] at h; omega
theorem greatB_le {m n : Nat} (h : greatB m n = false) : m ≤ 70 ∧ n ≤ 70 := by
  unfold greatB at h; simp only [Bool.or_eq_false_iff, decide_eq_false_iff_not] at h; omega
theorem all64B_of {l : List Int} (h : ∀ i ∈ l, wf64 i) : all64B l = true := List.all_eq_true.2 fun x hx => by have := h x hx; unfold wf64 at this; unfold i64B; simp; omega
theorem i64B_of {n : Int} (h : -9223372036854775808 ≤ n ∧ n ≤ 9223372036854775807) : i64B n = true := by unfold i64B; simp; omega
theorem okWide_rng {P : Program} {w : World} {r : Reach} {base : Nat} {t : TypeId} {n : Int} (ht : P.underlying t = some (.int .i64)) (h : Value.okWide P w r base t (.int .i64 n)) : -9223372036854775808 ≤ n ∧ n ≤ 9223372036854775807 := by
  simp only [Value.okWide, ht, Cell.okWide] at h
  simp [Cell.ok, ht, IntKind.has, IntKind.min, IntKind.max] at h
  exact h
end Go.Proofs.Ytkcpnclgcmnlcaa
