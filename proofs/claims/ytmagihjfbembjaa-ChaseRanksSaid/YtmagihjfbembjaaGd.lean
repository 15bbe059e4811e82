/- Walks of the references; the orders agree; examples. -/
import Derived.Shelf.SlSortCmp.NoneTotal
import Derived.Test.YtmagihjfbembjaaProg
import Derived.Test.YtmagihjfbembjaaGc
set_option linter.unusedSimpArgs false
set_option linter.unusedVariables false
namespace Go.Tx
open Go Go.RegC
section
variable {P : Program} {V : Nat → Value → Prop} {Q : Exit → Act → World → Prop} {ops : Array Oper}
end
section
variable {P : Program} {T : Tys} {C : Orc} {N l : Nat} {V : Nat → Value → Prop} {w0 : World} {φ0 : Fz0} {Q : Exit → Act → World → Prop}
end
/-- another block b alone -/
structure OnlyB (b : Nat) (A B : World) : Prop where
  size : B.heap.size = A.heap.size
  same : ∀ k, k ≠ b → B.heap[k]? = A.heap[k]?
  os : B.os = A.os
  tape : B.tape = A.tape
  output : B.output = A.output
  drawn : B.drawn = A.drawn
theorem OnlyB.put (A : World) (b : Nat) (o : Obj) : OnlyB b A (A.putObj b o) := ⟨by rw [World.putObj_size], fun k hk => World.putObj_heap_other hk, rfl, rfl, rfl, rfl⟩
theorem HR.only {M : Nat} {η : Emb} {H : LH} {A B : World} {b : Nat} (h : HR M η H A) (hb : OnlyB b A B) (hl : ¬ LB H η b) (hf : η.fz b = none) : HR M η H B where
  dom := h.dom
  lt := h.lt
  live k ob hk := (h.live k ob hk).move (Emb.le_refl _) rfl (Nat.le_of_eq hb.size.symm) fun L hL => hb.same _ fun he => hl ⟨k, ob, L, hk, hL, he⟩
  inj := h.inj
  fz k ob hk := by rw [hb.same k fun he => by rw [he, hf] at hk; cases hk]; exact h.fz k ob hk
  sep := h.sep
  ok := h.ok
theorem Fr.only {w0 : World} {φ0 : Fz0} {H : LH} {η : Emb} {A B : World} {b : Nat} (h : Fr w0 φ0 H η A) (hb : OnlyB b A B) (h0 : w0.heap.size ≤ b) (hk : ∀ o, ¬ φ0.K b o) : Fr w0 φ0 H η B where
  size := by rw [hb.size]; exact h.size
  same k hlt := (hb.same k (by omega)).trans (h.same k hlt)
  lb := h.lb
  fz0 := h.fz0
  fzn := h.fzn
  os := hb.os.trans h.os
  tape := hb.tape.trans h.tape
  output := hb.output.trans h.output
  drawn := by rw [hb.drawn]; exact h.drawn
  kp k o ho := by
    obtain ⟨h1, h2, h3⟩ := h.kp k o ho
    exact ⟨(hb.same k fun he => hk o (by rw [← he]; exact ho)).trans h1, h2, h3⟩
section
open Go.RowKit
variable {F : Fence} {n : Nat} {P : Program}
end
end Go.Tx

namespace Go.Tx
open Go
/-- a state between two rounds; blocks kb, r, r + 1 and those of T are none of its -/
def SX (w0 : World) (φ0 : Fz0) (tm : List (Nat × LV)) (ob : List Ob) (a : Act) (kb r : Nat) (T : Nat → Prop) (W : World) : Prop :=
  ∃ η, (∀ M, HR M η (heapOf ob) W) ∧ (∀ n l, (n, l) ∈ tm → ∃ v, a.tmps[n]? = some v ∧ VR η l v) ∧ Fr w0 φ0 (heapOf ob) η W ∧ (∀ k, k = kb ∨ k = r ∨ k = r + 1 ∨ T k → ¬ LB (heapOf ob) η k ∧ η.fz k = none) ∧ r + 1 < W.heap.size ∧ ∀ k, T k → r + 1 < k ∧ k < W.heap.size
theorem SX.only {w0 : World} {φ0 : Fz0} {tm : List (Nat × LV)} {ob : List Ob} {a : Act} {kb r b : Nat} {T : Nat → Prop} {A B : World} (h : SX w0 φ0 tm ob a kb r T A) (hb : OnlyB b A B) (hbb : b = kb ∨ b = r ∨ b = r + 1) (h0 : w0.heap.size ≤ b) (hk : ∀ o, ¬ φ0.K b o) : SX w0 φ0 tm ob a kb r T B := by
  obtain ⟨η, h1, h2, h3, h4, h5, h6⟩ := h
  obtain ⟨g1, g2⟩ := h4 b (hbb.imp id (Or.imp id .inl))
  exact ⟨η, fun M => (h1 M).only hb g1 g2, h2, h3.only hb h0 hk, h4, by rw [hb.size]; exact h5, fun k hk => by rw [hb.size]; exact h6 k hk⟩
theorem HR.grow {M : Nat} {η : Emb} {H : LH} {A B : World} (h : HR M η H A) (hb : Bel A B) : HR M η H B where
  dom := h.dom
  lt := h.lt
  live k ob hk := (h.live k ob hk).move (Emb.le_refl _) rfl hb.size fun L hL => hb.block _ ((h.live k ob hk).lt hL)
  inj := h.inj
  fz k ob hk := by rw [hb.block k (Array.getElem?_eq_some_iff.1 (h.fz k ob hk)).1]; exact h.fz k ob hk
  sep := h.sep
  ok := h.ok
theorem Fr.grow {w0 : World} {φ0 : Fz0} {H : LH} {η : Emb} {A B : World} (h : Fr w0 φ0 H η A) (hb : Bel A B) : Fr w0 φ0 H η B where
  size := Nat.le_trans h.size hb.size
  same k hlt := (hb.block k (Nat.lt_of_lt_of_le hlt h.size)).trans (h.same k hlt)
  lb := h.lb
  fz0 := h.fz0
  fzn := h.fzn
  os := hb.os.trans h.os
  tape := hb.tape.trans h.tape
  output := hb.output.trans h.output
  drawn := Nat.le_trans h.drawn hb.mono
  kp k o ho := by
    obtain ⟨h1, h2, h3⟩ := h.kp k o ho
    exact ⟨(hb.block k (Array.getElem?_eq_some_iff.1 h1).1).trans h1, h2, h3⟩
theorem SX.grow {w0 : World} {φ0 : Fz0} {tm : List (Nat × LV)} {ob : List Ob} {a : Act} {kb r : Nat} {T : Nat → Prop} {A B : World} (h : SX w0 φ0 tm ob a kb r T A) (hb : Bel A B) : SX w0 φ0 tm ob a kb r (fun k => T k ∨ (A.heap.size ≤ k ∧ k < B.heap.size)) B := by
  obtain ⟨η, h1, h2, h3, h4, h5, h6⟩ := h
  refine ⟨η, fun M => (h1 M).grow hb, h2, h3.grow hb, fun k hk => ?_, Nat.lt_of_lt_of_le h5 hb.size, fun k hk => ?_⟩
  · rcases hk with hk | hk | hk | hk | ⟨hk, _⟩
    · exact h4 k (.inl hk)
    · exact h4 k (.inr (.inl hk))
    · exact h4 k (.inr (.inr (.inl hk)))
    · exact h4 k (.inr (.inr (.inr hk)))
    · refine ⟨fun ⟨j, ob', L, hj, hL, he⟩ => ?_, ?_⟩
      · have := ((h1 0).live j ob' hj).lt hL; omega
      · cases hf : η.fz k with
        | none => rfl
        | some o => have := (Array.getElem?_eq_some_iff.1 ((h1 0).fz k o hf)).1; omega
  · rcases hk with hk | ⟨hk, hk2⟩
    · obtain ⟨g1, g2⟩ := h6 k hk
      exact ⟨g1, Nat.lt_of_lt_of_le g2 hb.size⟩
    · exact ⟨by omega, hk2⟩
section
variable {P : Program} {N : Nat} {w0 : World} {φ0 : Fz0} {Q : Exit → Act → World → Prop}
end
end Go.Tx

namespace Go.Tx
open Go Go.RegC
theorem bif_none {α : Type} {c : Bool} {A : Option α} {r : α} (h : (bif c then A else none) = some r) : c = true ∧ A = some r := by
  cases c with
  | true => exact ⟨rfl, h⟩
  | false => cases h
end Go.Tx

namespace Go.Tx
open Go Go.Sort Go.RowKit Go.Proofs Go.Shelf
theorem flatK_list2 {α : Type} [Inhabited α] (enc : α → List Value) (k : Nat) (hk : ∀ x, (enc x).length = k) : ∀ (l : List α), (flatK enc k l.toArray).toList = l.flatMap enc := by
  intro l
  have key : ∀ (l : List α) (t : Nat), t < l.length * k → (l.flatMap enc)[t]? = some ((enc l[t / k]!)[t % k]!) := by
    intro l
    induction l with
    | nil => intro t ht; simp at ht
    | cons a r ih =>
      intro t ht
      have k0 : 0 < k := by
        rcases Nat.eq_zero_or_pos k with h | h
        · subst h; simp at ht
        · exact h
      rw [List.flatMap_cons]
      by_cases hlt : t < k
      · rw [List.getElem?_append_left (by rw [hk]; exact hlt), Nat.div_eq_of_lt hlt, Nat.mod_eq_of_lt hlt]
        have : t < (enc a).length := by rw [hk]; exact hlt
        simp [this]
      · rw [List.getElem?_append_right (by rw [hk]; omega), hk]
        have h2 : t - k < r.length * k := by
          rw [List.length_cons, Nat.add_mul, Nat.one_mul] at ht; omega
        rw [ih (t - k) h2]
        have e1 : t / k = (t - k) / k + 1 := by
          have := Nat.div_eq_sub_div k0 (by omega : k ≤ t)
          omega
        have e2 : t % k = (t - k) % k := Nat.mod_eq_sub_mod (by omega)
        rw [e1, e2]
        simp
  have hlen : (l.flatMap enc).length = l.length * k := by
    induction l with
    | nil => simp
    | cons a r ih => rw [List.flatMap_cons, List.length_append, ih, hk, List.length_cons, Nat.add_mul, Nat.one_mul]; omega
  apply List.ext_getElem?
  intro t
  by_cases ht : t < l.length * k
  · rw [key l t ht]
    simp [flatK, ht]
  · rw [List.getElem?_eq_none (by simp [flatK]; omega), List.getElem?_eq_none (by rw [hlen]; omega)]
/-- equality of plain elements -/
def eqR : (τ : Row) → den τ → den τ → Bool
  | .nil, _, _ => true
  | .int _ r, x, y => x.1 == y.1 && eqR r x.2 y.2
  | .bool r, x, y => x.1 == y.1 && eqR r x.2 y.2
  | .sl _ _, _, _ => false
theorem eqR_eq : ∀ (τ : Row) (x y : den τ), eqR τ x y = true → x = y
  | .nil, _, _, _ => rfl
  | .int k r, x, y, h => by
    rw [eqR, Bool.and_eq_true, beq_iff_eq] at h
    exact Prod.ext h.1 (eqR_eq r x.2 y.2 h.2)
  | .bool r, x, y, h => by
    rw [eqR, Bool.and_eq_true, beq_iff_eq] at h
    exact Prod.ext h.1 (eqR_eq r x.2 y.2 h.2)
  | .sl _ _, _, _, h => by cases h
section
variable {τ : Row} (F : den τ × den τ × Unit → Option Int)
def cmpV (x y : den τ) : Int := match F (x, y, ()) with | some n => n | none => 0
def ltV (x y : den τ) : Bool := decide (cmpV F x y < 0)
/-- is the comparator a strict order on these? -/
def sortB (xs : List (den τ)) : Bool :=
  xs.all (fun x => xs.all fun y => (F (x, y, ())).isSome) && xs.all (fun x => !(ltV F x x)) &&
  xs.all (fun x => xs.all fun y => !(ltV F x y) || xs.all fun z => !(ltV F y z) || ltV F x z) &&
  xs.all (fun x => xs.all fun y => ltV F x y || xs.all fun z => ltV F y z || !(ltV F x z)) &&
  xs.all (fun x => xs.all fun y => ltV F x y || ltV F y x || eqR τ x y)
end
/-- sorted by putting in -/
def insL {α : Type} (lt : α → α → Bool) (x : α) : List α → List α
  | [] => [x]
  | y :: ys => bif lt x y then x :: y :: ys else y :: insL lt x ys
def sortL {α : Type} (lt : α → α → Bool) : List α → List α
  | [] => []
  | x :: xs => insL lt x (sortL lt xs)
def sortV {τ : Row} (F : den τ × den τ × Unit → Option Int) (xs : List (den τ)) : Option (List (den τ)) := bif Nat.ble xs.length 1000000 && sortB F xs then some (sortL (ltV F) xs) else none
theorem insL_perm {α : Type} (lt : α → α → Bool) (x : α) : ∀ l : List α, (insL lt x l).Perm (x :: l)
  | [] => .refl _
  | y :: ys => by
    rw [insL]
    cases lt x y with
    | true => exact .refl _
    | false => exact ((insL_perm lt x ys).cons y).trans (.swap x y ys)
theorem sortL_perm {α : Type} (lt : α → α → Bool) : ∀ l : List α, (sortL lt l).Perm l
  | [] => .refl _
  | x :: xs => by rw [sortL]; exact (insL_perm lt x _).trans ((sortL_perm lt xs).cons x)
theorem insL_pw {α : Type} {lt : α → α → Bool} {S : α → Prop} (has : ∀ a b, S a → S b → lt a b = true → lt b a = false) (hn : ∀ a b c, S a → S b → S c → lt a b = false → lt b c = false → lt a c = false) {x : α} (hx : S x) : ∀ l : List α, (∀ a ∈ l, S a) → l.Pairwise (fun a b => lt b a = false) → (insL lt x l).Pairwise (fun a b => lt b a = false)
  | [], _, _ => List.pairwise_singleton _ _
  | y :: ys, hS, hp => by
    obtain ⟨h1, h2⟩ := List.pairwise_cons.1 hp
    have hy := hS y (List.mem_cons_self ..)
    rw [insL]
    cases hl : lt x y with
    | true =>
      refine List.pairwise_cons.2 ⟨fun b hb => ?_, hp⟩
      have hyx := has x y hx hy hl
      rcases List.mem_cons.1 hb with rfl | hb
      · exact hyx
      · exact hn b y x (hS b (List.mem_cons_of_mem _ hb)) hy hx (h1 b hb) hyx
    | false =>
      refine List.pairwise_cons.2 ⟨fun b hb => ?_, insL_pw has hn hx ys (fun a ha => hS a (List.mem_cons_of_mem _ ha)) h2⟩
      rcases List.mem_cons.1 ((insL_perm lt x ys).mem_iff.1 hb) with rfl | hb
      · exact hl
      · exact h1 b hb
theorem sortL_pw {α : Type} {lt : α → α → Bool} {S : α → Prop} (has : ∀ a b, S a → S b → lt a b = true → lt b a = false) (hn : ∀ a b c, S a → S b → S c → lt a b = false → lt b c = false → lt a c = false) : ∀ l : List α, (∀ a ∈ l, S a) → (sortL lt l).Pairwise (fun a b => lt b a = false)
  | [], _ => .nil
  | x :: xs, hS => by
    rw [sortL]
    exact insL_pw has hn (hS x (List.mem_cons_self ..)) _ (fun a ha => hS a (List.mem_cons_of_mem _ ((sortL_perm lt xs).mem_iff.1 ha))) (sortL_pw has hn xs fun a ha => hS a (List.mem_cons_of_mem _ ha))
theorem plain_vrs {η : Emb} : ∀ (τ : Row) (x : den τ), plainR τ = true → VRs η (split τ x) (valsR τ x)
  | .nil, _, _ => VRs.nil
  | .int k r, x, hp => VRs.cons (.int _ _) (plain_vrs r x.2 hp)
  | .bool r, x, hp => VRs.cons (.bool _) (plain_vrs r x.2 hp)
  | .sl e r, _, hp => by cases hp
theorem plain_one : ∀ (τ : Row) (x : den τ), plainR τ = true → ∀ v ∈ valsR τ x, v.oneCell' = true
  | .nil, _, _, v, hv => by simp [valsR] at hv
  | .int k r, x, hp, v, hv => by
    rw [valsR] at hv
    rcases List.mem_cons.1 hv with rfl | hv
    · rfl
    · exact plain_one r x.2 hp v hv
  | .bool r, x, hp, v, hv => by
    rw [valsR] at hv
    rcases List.mem_cons.1 hv with rfl | hv
    · rfl
    · exact plain_one r x.2 hp v hv
  | .sl e r, _, hp, _, _ => by cases hp
theorem plain_vrsL {η : Emb} {τ : Row} (hp : plainR τ = true) : ∀ xs : List (den τ), VRs η (flat τ xs) (valsL τ xs)
  | [] => VRs.nil
  | x :: xs => by rw [flat, valsL]; exact (plain_vrs τ x hp).append (plain_vrsL hp xs)
theorem plain_valL {η : Emb} {τ : Row} (hp : plainR τ = true) (xs : List (den τ)) (j : Nat) (c : LV) (hc : (flat τ xs)[j]? = some c) (v : Value) (hv : VR η c v) : (valsL τ xs)[j]? = some v := by
  have hl := (plain_vrsL (η := η) hp xs).1
  have hj : j < (valsL τ xs).length := by rw [← hl]; exact (List.getElem?_eq_some_iff.1 hc).1
  obtain ⟨u, hu⟩ : ∃ u, (valsL τ xs)[j]? = some u := ⟨_, List.getElem?_eq_getElem hj⟩
  have h2 := (plain_vrsL (η := η) hp xs).2 j c u hc hu
  obtain ⟨x, hx⟩ := mem_flat τ xs (List.mem_of_getElem? hc)
  have : u = v := by
    have hp2 : ∀ (σ : Row) (y : den σ), plainR σ = true → ∀ d ∈ split σ y, (∃ k n, d = .int k n) ∨ ∃ b, d = .bool b := by
      intro σ
      induction σ with
      | nil => intro y _ d hd; simp [split] at hd
      | int k r ih =>
        intro y hpp d hd
        rw [split] at hd
        rcases List.mem_cons.1 hd with rfl | hd
        · exact .inl ⟨_, _, rfl⟩
        · exact ih y.2 hpp d hd
      | bool r ih =>
        intro y hpp d hd
        rw [split] at hd
        rcases List.mem_cons.1 hd with rfl | hd
        · exact .inr ⟨_, rfl⟩
        · exact ih y.2 hpp d hd
      | sl e r _ _ => intro y hpp; cases hpp
    rcases hp2 τ x hp c hx with ⟨k, n, rfl⟩ | ⟨b, rfl⟩
    · cases h2; cases hv; rfl
    · cases h2; cases hv; rfl
  rw [hu, this]
theorem valsL_flatMap {τ : Row} : ∀ xs : List (den τ), valsL τ xs = xs.flatMap (valsR τ)
  | [] => rfl
  | x :: xs => by rw [valsL, List.flatMap_cons, valsL_flatMap xs]
/-- a live row is changed in place; behind the world there may be more -/
theorem adv_change {M : Nat} {H : LH} {η : Emb} {w w' : World} (h : HR M η H w) {b : Nat} {τ : Row} {xs ys : List (den τ)} (hg : H.get b = some (.rows τ xs)) (hlv : Lv η w' b (.rows τ ys)) (hs : w.heap.size ≤ w'.heap.size)
    (hother : ∀ k, k < w.heap.size → (∀ L, η.loc b = some L → k ≠ L.block) → w'.heap[k]? = w.heap[k]?) (e1 : w'.os = w.os) (e2 : w'.tape = w.tape) (e3 : w'.output = w.output) (e4 : w.drawn ≤ w'.drawn) :
    Adv M H η w (H.put b (some (.rows τ ys))) η w' := by
  have hget : ∀ x ob2, (H.put b (some (.rows τ ys))).get x = some ob2 → (x = b ∧ ob2 = .rows τ ys) ∨ (x ≠ b ∧ H.get x = some ob2) := fun x ob2 hx => by
    rw [LH.get_put] at hx
    split at hx
    · rename_i he; injection hx with hx; exact .inl ⟨he, hx.symm⟩
    · rename_i he; exact .inr ⟨he, hx⟩
  have hg0 : ∀ x ob2, (H.put b (some (.rows τ ys))).get x = some ob2 → ∃ ob0, H.get x = some ob0 := fun x ob2 hx => by
    rcases hget x ob2 hx with ⟨rfl, _⟩ | ⟨_, hg'⟩
    · exact ⟨_, hg⟩
    · exact ⟨_, hg'⟩
  have hlb : ∀ k, LB (H.put b (some (.rows τ ys))) η k → LB H η k := fun k ⟨x, ob2, L', hx, hL', hk⟩ => let ⟨ob0, hg'⟩ := hg0 _ _ hx; ⟨x, ob0, L', hg', hL', hk⟩
  refine ⟨Emb.le_refl _, fun _ _ => ⟨rfl, rfl⟩, Nat.le_refl _, ⟨h.dom, fun x ob2 hx => let ⟨_, hg'⟩ := hg0 x ob2 hx; h.lt x _ hg', fun x ob2 hx => ?_, fun b1 b2 c1 c2 L1 L2 h1 h2 f1 f2 he => ?_, fun k o2 hk => ?_, fun k hk => h.sep k (hlb k hk), h.ok⟩, hs, fun k hk hn => hother k hk fun L hL he => hn ⟨b, _, L, hg, hL, he.symm⟩,
    fun k hk => .inl (hlb k hk), fun _ _ hk => .inl hk, e1, e2, e3, e4⟩
  · rcases hget x ob2 hx with ⟨rfl, rfl⟩ | ⟨hne, hg'⟩
    · exact hlv
    · have hl := h.live x ob2 hg'
      exact hl.move (Emb.le_refl _) rfl hs fun L' hL' => hother _ (hl.lt hL') fun L hL he => hne (h.inj _ _ _ _ _ _ hg' hg hL' hL he)
  · obtain ⟨d1, g1⟩ := hg0 _ _ h1
    obtain ⟨d2, g2⟩ := hg0 _ _ h2
    exact h.inj _ _ _ _ _ _ g1 g2 f1 f2 he
  · have hk0 := h.fz k o2 hk
    rw [hother k (Array.getElem?_eq_some_iff.1 hk0).1 fun L hL he => by
      have := h.sep L.block ⟨b, _, L, hg, hL, rfl⟩
      rw [← he, hk] at this; cases this]
    exact hk0
section
variable {P : Program} {ρ : Ren}
theorem sort_swo {τ : Row} {F : den τ × den τ × Unit → Option Int} {xs : List (den τ)} (h : sortB F xs = true) :
    (∀ x ∈ xs, ∀ y ∈ xs, F (x, y, ()) = some (cmpV F x y)) ∧ SWO (ltOf fun (x y : {x : den τ // x ∈ xs}) => cmpV F x.1 y.1) ∧ ∀ x y : {x : den τ // x ∈ xs}, (ltOf fun (x y : {x : den τ // x ∈ xs}) => cmpV F x.1 y.1) x y = false → (ltOf fun (x y : {x : den τ // x ∈ xs}) => cmpV F x.1 y.1) y x = false → x = y := by
  unfold sortB at h
  simp only [Bool.and_eq_true, List.all_eq_true] at h
  obtain ⟨⟨⟨⟨h1, h2⟩, h3⟩, h4⟩, h5⟩ := h
  have e : ∀ x y : {x : den τ // x ∈ xs}, (ltOf fun (x y : {x : den τ // x ∈ xs}) => cmpV F x.1 y.1) x y = ltV F x.1 y.1 := fun _ _ => rfl
  refine ⟨fun x hx y hy => ?_, ⟨fun x => ?_, fun x y z a b => ?_, fun x y z a b => ?_⟩, fun x y a b => ?_⟩
  · have := h1 x hx y hy
    unfold cmpV
    cases hF : F (x, y, ()) with
    | none => rw [hF] at this; cases this
    | some n => rfl
  · have := h2 x.1 x.2
    rw [e]; simpa using this
  · rw [e] at a b ⊢
    have := h3 x.1 x.2 y.1 y.2
    rw [a] at this
    simp only [Bool.not_true, Bool.false_or, List.all_eq_true] at this
    have := this z.1 z.2
    rw [b] at this
    simpa using this
  · rw [e] at a b ⊢
    have := h4 x.1 x.2 y.1 y.2
    rw [a] at this
    simp only [Bool.false_or, List.all_eq_true] at this
    have := this z.1 z.2
    rw [b] at this
    simpa using this
  · rw [e] at a b
    have := h5 x.1 x.2 y.1 y.2
    rw [a, b] at this
    simp only [Bool.false_or] at this
    exact Subtype.ext (eqR_eq τ _ _ this)
theorem sort_attach {τ : Row} {F : den τ × den τ × Unit → Option Int} {xs : List (den τ)} (h : sortB F xs = true) : (xs.attach.mergeSort fun x y => !(ltOf fun (x y : {x : den τ // x ∈ xs}) => cmpV F x.1 y.1) y x).map Subtype.val = sortL (ltV F) xs := by
  obtain ⟨_, hO, hT⟩ := sort_swo h
  have e : ∀ x y : {x : den τ // x ∈ xs}, (ltOf fun (x y : {x : den τ // x ∈ xs}) => cmpV F x.1 y.1) x y = ltV F x.1 y.1 := fun _ _ => rfl
  have has : ∀ a b, a ∈ xs → b ∈ xs → ltV F a b = true → ltV F b a = false := fun a b ha hb h1 => by
    cases h2 : ltV F b a with
    | false => rfl
    | true =>
      have h3 := hO.trans ⟨a, ha⟩ ⟨b, hb⟩ ⟨a, ha⟩ h1 h2
      rw [hO.irrefl] at h3; cases h3
  have hn : ∀ a b c, a ∈ xs → b ∈ xs → c ∈ xs → ltV F a b = false → ltV F b c = false → ltV F a c = false := fun a b c ha hb hc h1 h2 => hO.ntrans ⟨a, ha⟩ ⟨b, hb⟩ ⟨c, hc⟩ h1 h2
  refine List.Perm.eq_of_pairwise (le := fun a b => ltV F b a = false) ?_ ?_ (sortL_pw (S := fun a => a ∈ xs) has hn xs fun _ h => h) ?_
  · intro a b ha hb h1 h2
    have ha' : a ∈ xs := by
      obtain ⟨c, _, rfl⟩ := List.mem_map.1 ha
      exact c.2
    have hb' : b ∈ xs := (sortL_perm (ltV F) xs).mem_iff.1 hb
    exact congrArg Subtype.val (hT ⟨a, ha'⟩ ⟨b, hb'⟩ h2 h1)
  · have hp := List.pairwise_mergeSort (le := fun x y => !(ltOf fun (x y : {x : den τ // x ∈ xs}) => cmpV F x.1 y.1) y x) (fun x y z h1 h2 => by
      simp only [Bool.not_eq_true'] at h1 h2 ⊢
      exact hO.ntrans z y x h2 h1) (fun x y => by
      simp only [Bool.or_eq_true, Bool.not_eq_true']
      cases h1 : (ltOf fun (x y : {x : den τ // x ∈ xs}) => cmpV F x.1 y.1) y x with
      | false => exact .inl rfl
      | true => exact .inr (has _ _ y.2 x.2 h1)) xs.attach
    rw [List.pairwise_map]
    exact hp.imp fun h => by simpa [e] using h
  · have h1 := ((List.mergeSort_perm xs.attach fun x y => !(ltOf fun (x y : {x : den τ // x ∈ xs}) => cmpV F x.1 y.1) y x).map Subtype.val)
    rw [List.attach_map_subtype_val] at h1
    exact h1.trans (sortL_perm (ltV F) xs).symm
theorem bel_ext' {w w' : World} (h : Bel w w') : ∃ q os', w' = grow (w.drewN q) os' := by
  obtain ⟨x, rfl⟩ := ext_of h
  exact ⟨x.drawn, x.objs, by unfold ext grow World.drewN; rfl⟩
theorem putRow_size (w : World) (m blk off : Nat) (Fv : Array Value) (os : Array Obj) : w.heap.size ≤ (grow (putRow id (Sort.ahead w m) blk off Fv) os).heap.size := by
  simp [grow, putRow, mapBlock, Sort.ahead]
theorem putRow_other (w : World) (m blk off : Nat) (Fv : Array Value) (os : Array Obj) (k : Nat) (hk : k < w.heap.size) (hne : k ≠ blk) : (grow (putRow id (Sort.ahead w m) blk off Fv) os).heap[k]? = w.heap[k]? := by
  simp only [grow]
  rw [Array.getElem?_append_left (by simpa [putRow, mapBlock, Sort.ahead] using hk)]
  simp [putRow, mapBlock, Sort.ahead, Array.getElem?_modify, Ne.symm hne]
end
end Go.Tx

namespace Go.Proofs.Ytmagihjfbembjaa
open Go Go.Tx Go.RowKit Go.Pel
end Go.Proofs.Ytmagihjfbembjaa

namespace Go.Pel
open Go Go.Tx
theorem ids_nodupI {l : List Pt} (h : incB l = true) : (l.map Pt.id).Nodup := by
  unfold List.Nodup
  rw [List.pairwise_iff_getElem]
  intro i j hi hj hij
  simp only [List.length_map] at hi hj
  have := inc_lt h hij (List.getElem?_eq_getElem hi) (List.getElem?_eq_getElem hj)
  simp; omega
theorem leads_key (p q : Pt) (n d : Int) : leads p q n d = true ↔ (q.a * d + q.b * n < p.a * d + p.b * n) ∨ (q.a * d + q.b * n = p.a * d + p.b * n ∧ (q.b < p.b ∨ (q.b = p.b ∧ p.id < q.id))) := by
  have e : farD p q n d = (p.a * d + p.b * n) - (q.a * d + q.b * n) := by unfold farD; rw [Int.sub_mul, Int.sub_mul]; omega
  unfold leads
  rw [e]
  generalize p.a * d + p.b * n = P
  generalize q.a * d + q.b * n = Q
  repeat' split
  all_goals simp only [decide_eq_true_eq]
  all_goals omega
def ordI (n d : Int) (l : List Pt) : List Pt := sortL (fun p q => leads p q n d) l
def fieldOrderI (l : List Pt) (n d : Int) : List Int × Int := if fieldChk l ≠ 0 then ([], fieldChk l) else if ratioChk n d ≠ 0 then ([], ratioChk n d) else ((ordI n d l).map Pt.id, 0)
theorem ordI_perm (n d : Int) (l : List Pt) : (ordI n d l).Perm l := sortL_perm _ l
theorem leads_f {p q : Pt} {n d : Int} (h : leads p q n d = false) : ¬ ((q.a * d + q.b * n < p.a * d + p.b * n) ∨ (q.a * d + q.b * n = p.a * d + p.b * n ∧ (q.b < p.b ∨ (q.b = p.b ∧ p.id < q.id)))) := by
  intro k; rw [(leads_key p q n d).2 k] at h; cases h
theorem ordI_pw (n d : Int) (l : List Pt) : (ordI n d l).Pairwise fun p q => leads q p n d = false := by
  refine sortL_pw (S := fun _ => True) (fun a b _ _ h => ?_) (fun a b c _ _ _ h1 h2 => ?_) l (fun _ _ => trivial)
  · rw [leads_key] at h
    rw [← Bool.not_eq_true, leads_key]; omega
  · have h1 := leads_f h1
    have h2 := leads_f h2
    rw [← Bool.not_eq_true, leads_key]; omega
theorem ordI_eq {n d : Int} {l : List Pt} (hinc : incB l = true) (hd : 1 ≤ d) : sortP n d l = ordI n d l := by
  refine List.Perm.eq_of_pairwise (le := fun p q => leads q p n d = false) ?_ ((sortP_pairwise (idsApart_inc hinc) (ids_nodupI hinc)).imp fun {a b} h => ?_) (ordI_pw n d l) ((sortP_perm n d l).trans (ordI_perm n d l).symm)
  · intro a b _ _ h k
    have h1 := leads_f h
    have h2 := leads_f k
    have e1 : a.b = b.b := by omega
    have e2 : a.id = b.id := by omega
    have e3 : a.a * d + a.b * n = b.a * d + b.b * n := by omega
    rw [e1] at e3
    have e4 : a.a * d = b.a * d := by omega
    have e5 := Int.eq_of_mul_eq_mul_right (by omega) e4
    obtain ⟨x, y, z⟩ := a
    obtain ⟨x', y', z'⟩ := b
    simp only at e1 e2 e5
    subst e1 e2 e5
    rfl
  · rw [leads_key] at h
    rw [← Bool.not_eq_true, leads_key]; omega
theorem order_I (l : List Pt) (n d : Int) : fieldOrder l n d = fieldOrderI l n d := by
  unfold fieldOrder fieldSorted fieldOrderI
  by_cases h1 : fieldChk l = 0
  · simp only [h1, ne_eq, not_true_eq_false, if_false]
    by_cases h2 : ratioChk n d = 0
    · simp only [h2, ne_eq, not_true_eq_false, if_false]
      rw [ordI_eq (fieldChk_zero h1).2.2 (ratioChk_zero h2).1]
    · simp only [h2, ne_eq, not_false_eq_true, if_true]
  · simp only [h1, ne_eq, not_false_eq_true, if_true]
end Go.Pel

namespace Go.Proofs.Ytmagihjfbembjaa
open Go Go.Tx Go.Pel Go.Proofs.Try
set_option maxRecDepth 100000
set_option maxHeartbeats 0
abbrev field_Find_ps : List Pk := [.row RLiiiE true, .row Ri false]
abbrev field_Find_X : Type := DLiiiE × Di × Unit
abbrev field_Find_R : Type := Int × Int × Int × Int
def field_Find_enc (r : field_Find_R) : LV × List Ob := (.tup [.agg [.int .i64 r.1, .int .i64 r.2.1, .int .i64 r.2.2.1], .int .i64 r.2.2.2], [])
def field_Find_sp (F : field_Find_X → Option field_Find_R) : Go.Tx.Spec := ⟨68, field_Find_ps, field_Find_R, F, field_Find_enc⟩
def field_Find_if (x : field_Find_X) : Bool := true
def F_field_Find (d : Nat) (x : field_Find_X) : Option field_Find_R := bif field_Find_if x then some ((fieldFind (ptsL x.1.1) x.2.1.1).1.id, (fieldFind (ptsL x.1.1) x.2.1.1).1.a, (fieldFind (ptsL x.1.1) x.2.1.1).1.b, (fieldFind (ptsL x.1.1) x.2.1.1).2) else none
theorem F_field_Find_eq (d : Nat) (x : field_Find_X) (h : field_Find_if x = true) : F_field_Find d x = some ((fieldFind (ptsL x.1.1) x.2.1.1).1.id, (fieldFind (ptsL x.1.1) x.2.1.1).1.a, (fieldFind (ptsL x.1.1) x.2.1.1).1.b, (fieldFind (ptsL x.1.1) x.2.1.1).2) := by unfold F_field_Find; rw [h]; rfl
theorem field_Find_cok (d : Nat) : COK prog (field_Find_sp (F_field_Find d)) := by
  refine cok_old (body_of (fn := f68) (by kernel_rfl) (by kernel_rfl) (by kernel_rfl)) fun x r hx w φ vs hφ hv => ?_
  have hx : F_field_Find d x = some r := hx
  unfold F_field_Find at hx
  obtain ⟨hc, rfl⟩ := bif_some hx
  have hv : VRs (Emb.fro φ) [.agg [.fz RP x.1.1], .int .i64 x.2.1.1] vs := hv
  obtain ⟨v0, vs, rfl, q0, hv⟩ := VRs.uncons hv
  obtain ⟨v1, rfl, q1⟩ := vrs1 hv
  obtain ⟨A0, c0, rfl, s0, z0⟩ := vr_fld hφ q0
  have r1 := vr_int q1; subst r1
  refine (fieldFind_any A0 c0 (ptsL x.1.1) x.2.1.1 w s0).mono ?_
  rintro e w' ⟨rfl, y, rfl⟩
  exact gives_pure hφ (VR.tupL (VRs.cons (VR.aggL (VRs.cons (.int _ _) (VRs.cons (.int _ _) (VRs.cons (.int _ _) VRs.nil)))) (VRs.cons (.int _ _) VRs.nil))) y
abbrev ref03_Timed_ps : List Pk := [.row RLiiiE true, .row Rii true]
abbrev ref03_Timed_X : Type := DLiiiE × Dii × Unit
abbrev ref03_Timed_R : Type := Int
def ref03_Timed_enc (r : ref03_Timed_R) : LV × List Ob := (.int .i64 r, [])
def ref03_Timed_sp (F : ref03_Timed_X → Option ref03_Timed_R) : Go.Tx.Spec := ⟨66, ref03_Timed_ps, ref03_Timed_R, F, ref03_Timed_enc⟩
def ref03_Timed_if (x : ref03_Timed_X) : Bool := i64B x.2.1.1 && i64B x.2.1.2.1 && decide ((ptsL x.1.1).length ≤ 1000000)
def F_ref03_Timed (d : Nat) (x : ref03_Timed_X) : Option ref03_Timed_R := bif ref03_Timed_if x then some (timed (ptsL x.1.1) x.2.1.1 x.2.1.2.1) else none
theorem F_ref03_Timed_eq (d : Nat) (x : ref03_Timed_X) (h : ref03_Timed_if x = true) : F_ref03_Timed d x = some (timed (ptsL x.1.1) x.2.1.1 x.2.1.2.1) := by unfold F_ref03_Timed; rw [h]; rfl
theorem ref03_Timed_cok (d : Nat) : COK prog (ref03_Timed_sp (F_ref03_Timed d)) := by
  refine cok_old (body_of (fn := f66) (by kernel_rfl) (by kernel_rfl) (by kernel_rfl)) fun x r hx w φ vs hφ hv => ?_
  have hx : F_ref03_Timed d x = some r := hx
  unfold F_ref03_Timed at hx
  obtain ⟨hc, rfl⟩ := bif_some hx
  have hv : VRs (Emb.fro φ) [.agg [.fz RP x.1.1], .agg [.int .i64 x.2.1.1, .int .i64 x.2.1.2.1]] vs := hv
  obtain ⟨v0, vs, rfl, q0, hv⟩ := VRs.uncons hv
  obtain ⟨v1, rfl, q1⟩ := vrs1 hv
  obtain ⟨A0, c0, rfl, s0, z0⟩ := vr_fld hφ q0
  have r1 := vr_ratio q1; subst r1
  unfold ref03_Timed_if at hc
  simp only [Bool.and_eq_true] at hc
  obtain ⟨⟨h1, h2⟩, h3⟩ := hc
  replace h3 := of_decide_eq_true h3
  refine (timed_any A0 c0 (ptsL x.1.1) x.2.1.1 x.2.1.2.1 w (i64B_iff h1) (i64B_iff h2) s0 h3).mono ?_
  rintro e w' ⟨rfl, y, rfl⟩
  exact gives_pure hφ (.int _ _) y
abbrev field_Order_ps : List Pk := [.row RLiiiE true, .row Rii true]
abbrev field_Order_X : Type := DLiiiE × Dii × Unit
abbrev field_Order_R : Type := List Di × Int
def field_Order_enc (r : field_Order_R) : LV × List Ob := (.tup [.rs 0, .int .i64 r.2], [.rows Ri r.1])
def field_Order_sp (F : field_Order_X → Option field_Order_R) : Go.Tx.Spec := ⟨67, field_Order_ps, field_Order_R, F, field_Order_enc⟩
def field_Order_if (x : field_Order_X) : Bool := i64B x.2.1.1 && i64B x.2.1.2.1 && decide ((ptsL x.1.1).length ≤ 1000000)
def F_field_Order (d : Nat) (x : field_Order_X) : Option field_Order_R := bif field_Order_if x then some (unI (fieldOrderI (ptsL x.1.1) x.2.1.1 x.2.1.2.1).1, (fieldOrderI (ptsL x.1.1) x.2.1.1 x.2.1.2.1).2) else none
theorem F_field_Order_eq (d : Nat) (x : field_Order_X) (h : field_Order_if x = true) : F_field_Order d x = some (unI (fieldOrderI (ptsL x.1.1) x.2.1.1 x.2.1.2.1).1, (fieldOrderI (ptsL x.1.1) x.2.1.1 x.2.1.2.1).2) := by unfold F_field_Order; rw [h]; rfl
theorem field_Order_cok (d : Nat) : COK prog (field_Order_sp (F_field_Order d)) := by
  refine cok_old (body_of (fn := f67) (by kernel_rfl) (by kernel_rfl) (by kernel_rfl)) fun x r hx w φ vs hφ hv => ?_
  have hx : F_field_Order d x = some r := hx
  unfold F_field_Order at hx
  obtain ⟨hc, rfl⟩ := bif_some hx
  have hv : VRs (Emb.fro φ) [.agg [.fz RP x.1.1], .agg [.int .i64 x.2.1.1, .int .i64 x.2.1.2.1]] vs := hv
  obtain ⟨v0, vs, rfl, q0, hv⟩ := VRs.uncons hv
  obtain ⟨v1, rfl, q1⟩ := vrs1 hv
  obtain ⟨A0, c0, rfl, s0, z0⟩ := vr_fld hφ q0
  have r1 := vr_ratio q1; subst r1
  unfold field_Order_if at hc
  simp only [Bool.and_eq_true] at hc
  obtain ⟨⟨h1, h2⟩, h3⟩ := hc
  replace h3 := of_decide_eq_true h3
  refine ((order_I (ptsL x.1.1) x.2.1.1 x.2.1.2.1) ▸ order_any A0 c0 (ptsL x.1.1) x.2.1.1 x.2.1.2.1 w (i64B_iff h1) (i64B_iff h2) s0 z0 h3).mono ?_
  rintro e w' ⟨A', c', rfl, y, rfl, ho⟩
  exact gives_own hφ (τ := Ri) rfl (unI_len _) ho (valsL_unI _) fun η e0 => VR.tupL (VRs.cons (.rs e0) (VRs.cons (.int _ _) VRs.nil))
end Go.Proofs.Ytmagihjfbembjaa

namespace Go.Proofs.Ytmagihjfbembjaa
open Go Go.Tx Go.Proofs.Try
set_option maxRecDepth 100000
set_option maxHeartbeats 0
abbrev course_Meet_ps : List Pk := [.row Riii true, .row Riii true]
abbrev course_Meet_X : Type := Diii × Diii × Unit
abbrev course_Meet_R : Type := Int × Int × Int
def course_Meet_enc (r : course_Meet_R) : LV × List Ob := (.tup [.agg [.int .i64 r.1, .int .i64 r.2.1], .int .i64 r.2.2], [])
def course_Meet_sp (F : course_Meet_X → Option course_Meet_R) : Go.Tx.Spec := ⟨45, course_Meet_ps, course_Meet_R, F, course_Meet_enc⟩
abbrev course_Meet_C : Type := (course_two_X → Option course_two_R) × (ratio_Make_X → Option ratio_Make_R) × Unit
def course_Meet_K (d : Nat) : course_Meet_C := (F_course_two d, F_ratio_Make d, ())
def course_Meet_tab (C : course_Meet_C) : List Go.Tx.Spec := [course_two_sp C.1, ratio_Make_sp C.2.1]
abbrev course_Meet_Y0i : Type := Int × Int × Int × Int × Int × Int
def course_Meet_S0i (v : course_Meet_Y0i) : St := ⟨[(0, .agg [.int .i64 v.1, .int .i64 v.2.1, .int .i64 v.2.2.1]), (1, .agg [.int .i64 v.2.2.2.1, .int .i64 v.2.2.2.2.1, .int .i64 v.2.2.2.2.2])], []⟩
abbrev course_Meet_Y0 : Type := Int × Int × Int × Int × Int × Int × Int × Int
def course_Meet_S0 (v : course_Meet_Y0) : St := ⟨[(2, .ptr 0 0), (3, .ptr 1 0), (4, .ptr 2 0)], [.cells [.int .i64 v.1, .int .i64 v.2.1, .int .i64 v.2.2.1], .cells [.int .i64 v.2.2.2.1, .int .i64 v.2.2.2.2.1, .int .i64 v.2.2.2.2.2.1], .cells [.int .i64 v.2.2.2.2.2.2.1, .int .i64 v.2.2.2.2.2.2.2]]⟩
def course_Meet_r0 (C : course_Meet_C) (v : course_Meet_Y0i) : Dt course_Meet_Y0 := (Dt.ret (v.1, v.2.1, v.2.2.1, v.2.2.2.1, v.2.2.2.2.1, v.2.2.2.2.2, (0:Int), (0:Int)))
theorem course_Meet_g0 (C : course_Meet_C) (v : course_Meet_Y0i) : treg tysT (orc (course_Meet_tab C)) 34 (regO (bodyOf f45) 0) false [(2, .any), (3, .any), (4, .any)] (course_Meet_S0i v) some = (course_Meet_r0 C v).eval fun y => some (course_Meet_S0 y) := by kernel_rfl
abbrev course_Meet_Y1 : Type := Int × Int × Int × Int × Int × Int × Int × Int × Int
def course_Meet_S1 (v : course_Meet_Y1) : St := ⟨[(2, .ptr 0 0), (3, .ptr 1 0), (4, .ptr 2 0), (6, .int .i64 v.1)], [.cells [.int .i64 v.2.1, .int .i64 v.2.2.1, .int .i64 v.2.2.2.1], .cells [.int .i64 v.2.2.2.2.1, .int .i64 v.2.2.2.2.2.1, .int .i64 v.2.2.2.2.2.2.1], .cells [.int .i64 v.2.2.2.2.2.2.2.1, .int .i64 v.2.2.2.2.2.2.2.2]]⟩
def course_Meet_r1 (C : course_Meet_C) (v : course_Meet_Y0) : Dt course_Meet_Y1 := (Dt.bnd (C.1 ((v.1, v.2.1, v.2.2.1, ()), (v.2.2.2.1, v.2.2.2.2.1, v.2.2.2.2.2.1, ()), ((0:Int), (1:Int), ()), ())) fun r1 => (Dt.ret (r1, v.1, v.2.1, v.2.2.1, v.2.2.2.1, v.2.2.2.2.1, v.2.2.2.2.2.1, v.2.2.2.2.2.2.1, v.2.2.2.2.2.2.2)))
theorem course_Meet_g1 (C : course_Meet_C) (v : course_Meet_Y0) : treg tysT (orc (course_Meet_tab C)) 34 (regO (bodyOf f45) 1) false [(2, .any), (3, .any), (4, .any), (6, .any)] (course_Meet_S0 v) some = (course_Meet_r1 C v).eval fun y => some (course_Meet_S1 y) := by kernel_rfl
abbrev course_Meet_Y2 : Type := Int × Bool × Int × Int × Int × Int × Int × Int × Int × Int
def course_Meet_S2 (v : course_Meet_Y2) : St := ⟨[(2, .ptr 0 0), (3, .ptr 1 0), (4, .ptr 2 0), (6, .int .i64 v.1), (12, .bool v.2.1)], [.cells [.int .i64 v.2.2.1, .int .i64 v.2.2.2.1, .int .i64 v.2.2.2.2.1], .cells [.int .i64 v.2.2.2.2.2.1, .int .i64 v.2.2.2.2.2.2.1, .int .i64 v.2.2.2.2.2.2.2.1], .cells [.int .i64 v.2.2.2.2.2.2.2.2.1, .int .i64 v.2.2.2.2.2.2.2.2.2]]⟩
def course_Meet_r2 (C : course_Meet_C) (v : course_Meet_Y1) : Dt course_Meet_Y2 := (Dt.ret (v.1, (v.1 != (0:Int)), v.2.1, v.2.2.1, v.2.2.2.1, v.2.2.2.2.1, v.2.2.2.2.2.1, v.2.2.2.2.2.2.1, v.2.2.2.2.2.2.2.1, v.2.2.2.2.2.2.2.2))
theorem course_Meet_g2 (C : course_Meet_C) (v : course_Meet_Y1) : treg tysT (orc (course_Meet_tab C)) 34 (regO (bodyOf f45) 2) false [(2, .any), (3, .any), (4, .any), (6, .any), (12, .any)] (course_Meet_S1 v) some = (course_Meet_r2 C v).eval fun y => some (course_Meet_S2 y) := by kernel_rfl
abbrev course_Meet_Y3 : Type := Int × Int × Int
def course_Meet_S3 (v : course_Meet_Y3) : St := ⟨[(4, .ptr 0 0), (5, .int .i64 v.1)], [.cells [.int .i64 v.2.1, .int .i64 v.2.2]]⟩
def course_Meet_r3 (C : course_Meet_C) (v : course_Meet_Y2) : Dt course_Meet_Y3 := (Dt.ret (v.1, (0:Int), (0:Int)))
theorem course_Meet_g3 (C : course_Meet_C) (v : course_Meet_Y2) : treg tysT (orc (course_Meet_tab C)) 34 (regO (bodyOf f45) 3) false [(4, .any), (5, .any)] (course_Meet_S2 v) some = (course_Meet_r3 C v).eval fun y => some (course_Meet_S3 y) := by kernel_rfl
abbrev course_Meet_Y4 : Type := Bool × Int × Int × Int × Int × Int × Int × Int × Int
def course_Meet_S4 (v : course_Meet_Y4) : St := ⟨[(2, .ptr 0 0), (3, .ptr 1 0), (4, .ptr 2 0), (19, .bool v.1)], [.cells [.int .i64 v.2.1, .int .i64 v.2.2.1, .int .i64 v.2.2.2.1], .cells [.int .i64 v.2.2.2.2.1, .int .i64 v.2.2.2.2.2.1, .int .i64 v.2.2.2.2.2.2.1], .cells [.int .i64 v.2.2.2.2.2.2.2.1, .int .i64 v.2.2.2.2.2.2.2.2]]⟩
def course_Meet_r4 (C : course_Meet_C) (v : course_Meet_Y2) : Dt course_Meet_Y4 := (Dt.ret ((v.2.2.2.2.1 == v.2.2.2.2.2.2.2.1), v.2.2.1, v.2.2.2.1, v.2.2.2.2.1, v.2.2.2.2.2.1, v.2.2.2.2.2.2.1, v.2.2.2.2.2.2.2.1, v.2.2.2.2.2.2.2.2.1, v.2.2.2.2.2.2.2.2.2))
theorem course_Meet_g4 (C : course_Meet_C) (v : course_Meet_Y2) : treg tysT (orc (course_Meet_tab C)) 34 (regO (bodyOf f45) 4) false [(2, .any), (3, .any), (4, .any), (19, .any)] (course_Meet_S2 v) some = (course_Meet_r4 C v).eval fun y => some (course_Meet_S4 y) := by kernel_rfl
def course_Meet_r5 (C : course_Meet_C) (v : course_Meet_Y4) : Dt course_Meet_Y3 := (Dt.ret ((6:Int), (0:Int), (0:Int)))
theorem course_Meet_g5 (C : course_Meet_C) (v : course_Meet_Y4) : treg tysT (orc (course_Meet_tab C)) 34 (regO (bodyOf f45) 5) false [(4, .any), (5, .any)] (course_Meet_S4 v) some = (course_Meet_r5 C v).eval fun y => some (course_Meet_S3 y) := by kernel_rfl
def course_Meet_r6 (C : course_Meet_C) (v : course_Meet_Y4) : Dt course_Meet_Y3 := (Dt.bnd (C.2.1 (((IntKind.wrap .i64 (v.2.2.1 - v.2.2.2.2.2.1)), ()), ((IntKind.wrap .i64 (v.2.2.2.2.2.2.1 - v.2.2.2.1)), ()), ())) fun r1 => (Dt.ret (r1.2.2, r1.1, r1.2.1)))
theorem course_Meet_g6 (C : course_Meet_C) (v : course_Meet_Y4) : treg tysT (orc (course_Meet_tab C)) 34 (regO (bodyOf f45) 6) false [(4, .any), (5, .any)] (course_Meet_S4 v) some = (course_Meet_r6 C v).eval fun y => some (course_Meet_S3 y) := by kernel_rfl
def F_course_Meet (d : Nat) (x : course_Meet_X) : Option course_Meet_R :=
  (course_Meet_r0 (course_Meet_K d) (x.1.1, x.1.2.1, x.1.2.2.1, x.2.1.1, x.2.1.2.1, x.2.1.2.2.1)).eval fun y0 =>
  (course_Meet_r1 (course_Meet_K d) y0).eval fun y1 =>
  (course_Meet_r2 (course_Meet_K d) y1).eval fun y2 =>
  bif y2.2.1 then ((course_Meet_r3 (course_Meet_K d) y2).eval fun y3 =>
  some (y3.2.1, y3.2.2, y3.1)) else ((course_Meet_r4 (course_Meet_K d) y2).eval fun y4 =>
  bif y4.1 then ((course_Meet_r5 (course_Meet_K d) y4).eval fun y5 =>
  some (y5.2.1, y5.2.2, y5.1)) else ((course_Meet_r6 (course_Meet_K d) y4).eval fun y6 =>
  some (y6.2.1, y6.2.2, y6.1)))
theorem course_Meet_cok (d : Nat) : COK prog (course_Meet_sp (F_course_Meet d)) := by
  have hm : prog.follows .mixedOrders = true := mixed
  have hT := tys
  have hC0 : OrcOK prog (orc (course_Meet_tab (course_Meet_K d))) := orc_ok (by
    intro S hS
    simp only [course_Meet_tab, List.mem_cons, List.not_mem_nil, or_false] at hS
    rcases hS with rfl | rfl
    · exact course_two_cok d
    · exact ratio_Make_cok d)
  have hC : OrcOK prog (orc (course_Meet_tab (course_Meet_K d))) := hC0
  refine cok_of (c := bodyOf f45) (fn := f45) hT (by kernel_rfl) (by kernel_rfl) (by decide) fun x r h w0 φ0 Q hend => ?_
  replace h : F_course_Meet d x = some r := h
  unfold F_course_Meet at h
  show Run prog w0 φ0 34 (bodyOf f45) ⟨[(0, .agg [.int .i64 x.1.1, .int .i64 x.1.2.1, .int .i64 x.1.2.2.1]), (1, .agg [.int .i64 x.2.1.1, .int .i64 x.2.1.2.1, .int .i64 x.2.1.2.2.1])], []⟩ Q
  refine run_seq ?_
  refine run_reg hm hT hC (course_Meet_g0 (course_Meet_K d) (x.1.1, x.1.2.1, x.1.2.2.1, x.2.1.1, x.2.1.2.1, x.2.1.2.2.1)) h ?_
  intro y0 h
  refine cn_then ?_
  refine run_seq ?_
  refine run_seq ?_
  refine run_reg hm hT hC (course_Meet_g1 (course_Meet_K d) y0) h ?_
  intro y1 h
  refine cn_then ?_
  refine run_seq ?_
  refine run_reg hm hT hC (course_Meet_g2 (course_Meet_K d) y1) h ?_
  intro y2 h
  refine cn_then ?_
  refine run_cond (v := y2.2.1) (by kernel_rfl) h ?_ ?_
  ·
    intro h
    refine run_seq ?_
    refine run_reg hm hT hC (course_Meet_g3 (course_Meet_K d) y2) h ?_
    intro y3 h
    refine cn_then ?_
    refine run_ret ?_
    refine cn_then_ret ?_
    cases h
    exact (hend _ (by kernel_rfl)).2
  ·
    intro h
    refine run_skip ?_
    refine cn_then ?_
    refine run_seq ?_
    refine run_seq ?_
    refine run_reg hm hT hC (course_Meet_g4 (course_Meet_K d) y2) h ?_
    intro y4 h
    refine cn_then ?_
    refine run_cond (v := y4.1) (by kernel_rfl) h ?_ ?_
    ·
      intro h
      refine run_seq ?_
      refine run_reg hm hT hC (course_Meet_g5 (course_Meet_K d) y4) h ?_
      intro y5 h
      refine cn_then ?_
      refine run_ret ?_
      refine cn_then_ret ?_
      cases h
      exact (hend _ (by kernel_rfl)).2
    ·
      intro h
      refine run_skip ?_
      refine cn_then ?_
      refine run_seq ?_
      refine run_reg hm hT hC (course_Meet_g6 (course_Meet_K d) y4) h ?_
      intro y6 h
      refine cn_then ?_
      refine run_ret ?_
      cases h
      exact (hend _ (by kernel_rfl)).2
abbrev ratio_both_ps : List Pk := [.row Rii true, .row Rii true]
abbrev ratio_both_X : Type := Dii × Dii × Unit
abbrev ratio_both_R : Type := Int
def ratio_both_enc (r : ratio_both_R) : LV × List Ob := (.int .i64 r, [])
def ratio_both_sp (F : ratio_both_X → Option ratio_both_R) : Go.Tx.Spec := ⟨110, ratio_both_ps, ratio_both_R, F, ratio_both_enc⟩
abbrev ratio_both_C : Type := (ratio_Check_X → Option ratio_Check_R) × Unit
def ratio_both_K (d : Nat) : ratio_both_C := (F_ratio_Check d, ())
def ratio_both_tab (C : ratio_both_C) : List Go.Tx.Spec := [ratio_Check_sp C.1]
abbrev ratio_both_Y0i : Type := Int × Int × Int × Int
def ratio_both_S0i (v : ratio_both_Y0i) : St := ⟨[(0, .agg [.int .i64 v.1, .int .i64 v.2.1]), (1, .agg [.int .i64 v.2.2.1, .int .i64 v.2.2.2])], []⟩
abbrev ratio_both_Y0 : Type := Int × Int × Int × Int
def ratio_both_S0 (v : ratio_both_Y0) : St := ⟨[(2, .ptr 0 0), (3, .ptr 1 0)], [.cells [.int .i64 v.1, .int .i64 v.2.1], .cells [.int .i64 v.2.2.1, .int .i64 v.2.2.2]]⟩
def ratio_both_r0 (C : ratio_both_C) (v : ratio_both_Y0i) : Dt ratio_both_Y0 := (Dt.ret (v.1, v.2.1, v.2.2.1, v.2.2.2))
theorem ratio_both_g0 (C : ratio_both_C) (v : ratio_both_Y0i) : treg tysT (orc (ratio_both_tab C)) 10 (regO (bodyOf f110) 0) false [(2, .any), (3, .any)] (ratio_both_S0i v) some = (ratio_both_r0 C v).eval fun y => some (ratio_both_S0 y) := by kernel_rfl
abbrev ratio_both_Y1 : Type := Int
def ratio_both_S1 (v : ratio_both_Y1) : St := ⟨[(4, .int .i64 v)], []⟩
def ratio_both_r1 (C : ratio_both_C) (v : ratio_both_Y0) : Dt ratio_both_Y1 := (Dt.bnd (C.1 ((v.1, v.2.1, ()), ())) fun r1 => (Dt.bnd (C.1 ((v.2.2.1, v.2.2.2, ()), ())) fun r2 => (Dt.ret (tmax r1 r2))))
theorem ratio_both_g1 (C : ratio_both_C) (v : ratio_both_Y0) : treg tysT (orc (ratio_both_tab C)) 10 (regO (bodyOf f110) 1) true [(4, .any)] (ratio_both_S0 v) some = (ratio_both_r1 C v).eval fun y => some (ratio_both_S1 y) := by kernel_rfl
def F_ratio_both (d : Nat) (x : ratio_both_X) : Option ratio_both_R :=
  (ratio_both_r0 (ratio_both_K d) (x.1.1, x.1.2.1, x.2.1.1, x.2.1.2.1)).eval fun y0 =>
  (ratio_both_r1 (ratio_both_K d) y0).eval fun y1 =>
  some y1
theorem ratio_both_cok (d : Nat) : COK prog (ratio_both_sp (F_ratio_both d)) := by
  have hm : prog.follows .mixedOrders = true := mixed
  have hT := tys
  have hC0 : OrcOK prog (orc (ratio_both_tab (ratio_both_K d))) := orc_ok (by
    intro S hS
    simp only [ratio_both_tab, List.mem_cons, List.not_mem_nil, or_false] at hS
    subst hS; exact ratio_Check_cok d)
  have hC : OrcOK prog (orc (ratio_both_tab (ratio_both_K d))) := hC0
  refine cok_of (c := bodyOf f110) (fn := f110) hT (by kernel_rfl) (by kernel_rfl) (by decide) fun x r h w0 φ0 Q hend => ?_
  replace h : F_ratio_both d x = some r := h
  unfold F_ratio_both at h
  show Run prog w0 φ0 10 (bodyOf f110) ⟨[(0, .agg [.int .i64 x.1.1, .int .i64 x.1.2.1]), (1, .agg [.int .i64 x.2.1.1, .int .i64 x.2.1.2.1])], []⟩ Q
  refine run_seq ?_
  refine run_reg hm hT hC (ratio_both_g0 (ratio_both_K d) (x.1.1, x.1.2.1, x.2.1.1, x.2.1.2.1)) h ?_
  intro y0 h
  refine cn_then ?_
  refine run_seq ?_
  refine run_reg hm hT hC (ratio_both_g1 (ratio_both_K d) y0) h ?_
  intro y1 h
  refine cn_then ?_
  refine run_ret ?_
  cases h
  exact (hend _ (by kernel_rfl)).2
abbrev cmp_isNaN_int64_ps : List Pk := [.row Ri false]
abbrev cmp_isNaN_int64_X : Type := Di × Unit
abbrev cmp_isNaN_int64_R : Type := Bool
def cmp_isNaN_int64_enc (r : cmp_isNaN_int64_R) : LV × List Ob := (.bool r, [])
def cmp_isNaN_int64_sp (F : cmp_isNaN_int64_X → Option cmp_isNaN_int64_R) : Go.Tx.Spec := ⟨137, cmp_isNaN_int64_ps, cmp_isNaN_int64_R, F, cmp_isNaN_int64_enc⟩
abbrev cmp_isNaN_int64_C : Type := Unit
def cmp_isNaN_int64_K (_d : Nat) : cmp_isNaN_int64_C := ()
def cmp_isNaN_int64_tab (C : cmp_isNaN_int64_C) : List Go.Tx.Spec := []
abbrev cmp_isNaN_int64_Y0i : Type := Int
def cmp_isNaN_int64_S0i (v : cmp_isNaN_int64_Y0i) : St := ⟨[(0, .int .i64 v)], []⟩
def cmp_isNaN_int64_r0 (C : cmp_isNaN_int64_C) (v : cmp_isNaN_int64_Y0i) : Dt cmp_isNaN_int64_Y0i := (Dt.ret v)
theorem cmp_isNaN_int64_g0 (C : cmp_isNaN_int64_C) (v : cmp_isNaN_int64_Y0i) : treg tysT (orc (cmp_isNaN_int64_tab C)) 6 (regO (bodyOf f137) 0) false [(0, .any)] (cmp_isNaN_int64_S0i v) some = (cmp_isNaN_int64_r0 C v).eval fun y => some (cmp_isNaN_int64_S0i y) := by kernel_rfl
abbrev cmp_isNaN_int64_Y1 : Type := Bool
def cmp_isNaN_int64_S1 (v : cmp_isNaN_int64_Y1) : St := ⟨[(2, .bool v)], []⟩
def cmp_isNaN_int64_r1 (C : cmp_isNaN_int64_C) (v : cmp_isNaN_int64_Y0i) : Dt cmp_isNaN_int64_Y1 := (Dt.ret (v != v))
theorem cmp_isNaN_int64_g1 (C : cmp_isNaN_int64_C) (v : cmp_isNaN_int64_Y0i) : treg tysT (orc (cmp_isNaN_int64_tab C)) 6 (regO (bodyOf f137) 1) false [(2, .any)] (cmp_isNaN_int64_S0i v) some = (cmp_isNaN_int64_r1 C v).eval fun y => some (cmp_isNaN_int64_S1 y) := by kernel_rfl
def F_cmp_isNaN_int64 (d : Nat) (x : cmp_isNaN_int64_X) : Option cmp_isNaN_int64_R :=
  (cmp_isNaN_int64_r0 (cmp_isNaN_int64_K d) x.1.1).eval fun y0 =>
  (cmp_isNaN_int64_r1 (cmp_isNaN_int64_K d) y0).eval fun y1 =>
  some y1
theorem cmp_isNaN_int64_cok (d : Nat) : COK prog (cmp_isNaN_int64_sp (F_cmp_isNaN_int64 d)) := by
  have hm : prog.follows .mixedOrders = true := mixed
  have hT := tys
  have hC0 : OrcOK prog (orc (cmp_isNaN_int64_tab (cmp_isNaN_int64_K d))) := orc_ok (by
    intro S hS
    simp only [cmp_isNaN_int64_tab, List.mem_cons, List.not_mem_nil, or_false] at hS
    all_goals first | cases hS | exact hS.elim)
  have hC : OrcOK prog (orc (cmp_isNaN_int64_tab (cmp_isNaN_int64_K d))) := hC0
  refine cok_of (c := bodyOf f137) (fn := f137) hT (by kernel_rfl) (by kernel_rfl) (by decide) fun x r h w0 φ0 Q hend => ?_
  replace h : F_cmp_isNaN_int64 d x = some r := h
  unfold F_cmp_isNaN_int64 at h
  show Run prog w0 φ0 6 (bodyOf f137) ⟨[(0, .int .i64 x.1.1)], []⟩ Q
  refine run_seq ?_
  refine run_reg hm hT hC (cmp_isNaN_int64_g0 (cmp_isNaN_int64_K d) x.1.1) h ?_
  intro y0 h
  refine cn_then ?_
  refine run_seq ?_
  refine run_reg hm hT hC (cmp_isNaN_int64_g1 (cmp_isNaN_int64_K d) y0) h ?_
  intro y1 h
  refine cn_then ?_
  refine run_ret ?_
  cases h
  exact (hend _ (by kernel_rfl)).2
abbrev cmp_Compare_int64_ps : List Pk := [.row Ri false, .row Ri false]
abbrev cmp_Compare_int64_X : Type := Di × Di × Unit
abbrev cmp_Compare_int64_R : Type := Int
def cmp_Compare_int64_enc (r : cmp_Compare_int64_R) : LV × List Ob := (.int .i64 r, [])
def cmp_Compare_int64_sp (F : cmp_Compare_int64_X → Option cmp_Compare_int64_R) : Go.Tx.Spec := ⟨111, cmp_Compare_int64_ps, cmp_Compare_int64_R, F, cmp_Compare_int64_enc⟩
abbrev cmp_Compare_int64_C : Type := (cmp_isNaN_int64_X → Option cmp_isNaN_int64_R) × Unit
def cmp_Compare_int64_K (d : Nat) : cmp_Compare_int64_C := (F_cmp_isNaN_int64 d, ())
def cmp_Compare_int64_tab (C : cmp_Compare_int64_C) : List Go.Tx.Spec := [cmp_isNaN_int64_sp C.1]
abbrev cmp_Compare_int64_Y0i : Type := Int × Int
def cmp_Compare_int64_S0i (v : cmp_Compare_int64_Y0i) : St := ⟨[(0, .int .i64 v.1), (1, .int .i64 v.2)], []⟩
def cmp_Compare_int64_r0 (C : cmp_Compare_int64_C) (v : cmp_Compare_int64_Y0i) : Dt cmp_Compare_int64_Y0i := (Dt.ret (v.1, v.2))
theorem cmp_Compare_int64_g0 (C : cmp_Compare_int64_C) (v : cmp_Compare_int64_Y0i) : treg tysT (orc (cmp_Compare_int64_tab C)) 20 (regO (bodyOf f111) 0) false [(0, .any), (1, .any)] (cmp_Compare_int64_S0i v) some = (cmp_Compare_int64_r0 C v).eval fun y => some (cmp_Compare_int64_S0i y) := by kernel_rfl
abbrev cmp_Compare_int64_Y1 : Type := Int × Int × Bool
def cmp_Compare_int64_S1 (v : cmp_Compare_int64_Y1) : St := ⟨[(0, .int .i64 v.1), (1, .int .i64 v.2.1), (5, .bool v.2.2)], []⟩
def cmp_Compare_int64_r1 (C : cmp_Compare_int64_C) (v : cmp_Compare_int64_Y0i) : Dt cmp_Compare_int64_Y1 := (Dt.bnd (C.1 ((v.1, ()), ())) fun r1 => (Dt.ret (v.1, v.2, r1)))
theorem cmp_Compare_int64_g1 (C : cmp_Compare_int64_C) (v : cmp_Compare_int64_Y0i) : treg tysT (orc (cmp_Compare_int64_tab C)) 20 (regO (bodyOf f111) 1) false [(0, .any), (1, .any), (5, .any)] (cmp_Compare_int64_S0i v) some = (cmp_Compare_int64_r1 C v).eval fun y => some (cmp_Compare_int64_S1 y) := by kernel_rfl
abbrev cmp_Compare_int64_Y2 : Type := Int × Int × Bool × Bool
def cmp_Compare_int64_S2 (v : cmp_Compare_int64_Y2) : St := ⟨[(0, .int .i64 v.1), (1, .int .i64 v.2.1), (5, .bool v.2.2.1), (6, .bool v.2.2.2)], []⟩
def cmp_Compare_int64_r2 (C : cmp_Compare_int64_C) (v : cmp_Compare_int64_Y1) : Dt cmp_Compare_int64_Y2 := (Dt.bnd (C.1 ((v.2.1, ()), ())) fun r1 => (Dt.ret (v.1, v.2.1, v.2.2, r1)))
theorem cmp_Compare_int64_g2 (C : cmp_Compare_int64_C) (v : cmp_Compare_int64_Y1) : treg tysT (orc (cmp_Compare_int64_tab C)) 20 (regO (bodyOf f111) 2) false [(0, .any), (1, .any), (5, .any), (6, .any)] (cmp_Compare_int64_S1 v) some = (cmp_Compare_int64_r2 C v).eval fun y => some (cmp_Compare_int64_S2 y) := by kernel_rfl
abbrev cmp_Compare_int64_Y3 : Type := Int × Int × Bool × Bool
def cmp_Compare_int64_S3 (v : cmp_Compare_int64_Y3) : St := ⟨[(0, .int .i64 v.1), (1, .int .i64 v.2.1), (6, .bool v.2.2.1), (11, .bool v.2.2.2)], []⟩
def cmp_Compare_int64_r3 (C : cmp_Compare_int64_C) (v : cmp_Compare_int64_Y2) : Dt cmp_Compare_int64_Y3 := (Dt.ret (v.1, v.2.1, v.2.2.2, v.2.2.1))
theorem cmp_Compare_int64_g3 (C : cmp_Compare_int64_C) (v : cmp_Compare_int64_Y2) : treg tysT (orc (cmp_Compare_int64_tab C)) 20 (regO (bodyOf f111) 3) false [(0, .any), (1, .any), (6, .any), (11, .any)] (cmp_Compare_int64_S2 v) some = (cmp_Compare_int64_r3 C v).eval fun y => some (cmp_Compare_int64_S3 y) := by kernel_rfl
abbrev cmp_Compare_int64_Y4 : Type := Bool
def cmp_Compare_int64_S4 (v : cmp_Compare_int64_Y4) : St := ⟨[(12, .bool v)], []⟩
def cmp_Compare_int64_r4 (C : cmp_Compare_int64_C) (v : cmp_Compare_int64_Y3) : Dt cmp_Compare_int64_Y4 := (Dt.ret v.2.2.1)
theorem cmp_Compare_int64_g4 (C : cmp_Compare_int64_C) (v : cmp_Compare_int64_Y3) : treg tysT (orc (cmp_Compare_int64_tab C)) 20 (regO (bodyOf f111) 4) false [(12, .any)] (cmp_Compare_int64_S3 v) some = (cmp_Compare_int64_r4 C v).eval fun y => some (cmp_Compare_int64_S4 y) := by kernel_rfl
abbrev cmp_Compare_int64_Y5 : Type := Int
def cmp_Compare_int64_S5 (v : cmp_Compare_int64_Y5) : St := ⟨[(4, .int .i64 v)], []⟩
def cmp_Compare_int64_r5 (C : cmp_Compare_int64_C) (v : cmp_Compare_int64_Y4) : Dt cmp_Compare_int64_Y5 := (Dt.ret (0:Int))
theorem cmp_Compare_int64_g5 (C : cmp_Compare_int64_C) (v : cmp_Compare_int64_Y4) : treg tysT (orc (cmp_Compare_int64_tab C)) 20 (regO (bodyOf f111) 5) false [(4, .any)] (cmp_Compare_int64_S4 v) some = (cmp_Compare_int64_r5 C v).eval fun y => some (cmp_Compare_int64_S5 y) := by kernel_rfl
def cmp_Compare_int64_r6 (C : cmp_Compare_int64_C) (v : cmp_Compare_int64_Y4) : Dt cmp_Compare_int64_Y5 := (Dt.ret (-1:Int))
theorem cmp_Compare_int64_g6 (C : cmp_Compare_int64_C) (v : cmp_Compare_int64_Y4) : treg tysT (orc (cmp_Compare_int64_tab C)) 20 (regO (bodyOf f111) 6) false [(4, .any)] (cmp_Compare_int64_S4 v) some = (cmp_Compare_int64_r6 C v).eval fun y => some (cmp_Compare_int64_S5 y) := by kernel_rfl
abbrev cmp_Compare_int64_Y7 : Type := Int × Int × Bool
def cmp_Compare_int64_S7 (v : cmp_Compare_int64_Y7) : St := ⟨[(0, .int .i64 v.1), (1, .int .i64 v.2.1), (13, .bool v.2.2)], []⟩
def cmp_Compare_int64_r7 (C : cmp_Compare_int64_C) (v : cmp_Compare_int64_Y3) : Dt cmp_Compare_int64_Y7 := (Dt.ret (v.1, v.2.1, v.2.2.1))
theorem cmp_Compare_int64_g7 (C : cmp_Compare_int64_C) (v : cmp_Compare_int64_Y3) : treg tysT (orc (cmp_Compare_int64_tab C)) 20 (regO (bodyOf f111) 7) false [(0, .any), (1, .any), (13, .any)] (cmp_Compare_int64_S3 v) some = (cmp_Compare_int64_r7 C v).eval fun y => some (cmp_Compare_int64_S7 y) := by kernel_rfl
def cmp_Compare_int64_r8 (C : cmp_Compare_int64_C) (v : cmp_Compare_int64_Y7) : Dt cmp_Compare_int64_Y5 := (Dt.ret (1:Int))
theorem cmp_Compare_int64_g8 (C : cmp_Compare_int64_C) (v : cmp_Compare_int64_Y7) : treg tysT (orc (cmp_Compare_int64_tab C)) 20 (regO (bodyOf f111) 8) false [(4, .any)] (cmp_Compare_int64_S7 v) some = (cmp_Compare_int64_r8 C v).eval fun y => some (cmp_Compare_int64_S5 y) := by kernel_rfl
abbrev cmp_Compare_int64_Y9 : Type := Int × Int × Bool
def cmp_Compare_int64_S9 (v : cmp_Compare_int64_Y9) : St := ⟨[(0, .int .i64 v.1), (1, .int .i64 v.2.1), (16, .bool v.2.2)], []⟩
def cmp_Compare_int64_r9 (C : cmp_Compare_int64_C) (v : cmp_Compare_int64_Y7) : Dt cmp_Compare_int64_Y9 := (Dt.ret (v.1, v.2.1, (decide (v.1 < v.2.1))))
theorem cmp_Compare_int64_g9 (C : cmp_Compare_int64_C) (v : cmp_Compare_int64_Y7) : treg tysT (orc (cmp_Compare_int64_tab C)) 20 (regO (bodyOf f111) 9) false [(0, .any), (1, .any), (16, .any)] (cmp_Compare_int64_S7 v) some = (cmp_Compare_int64_r9 C v).eval fun y => some (cmp_Compare_int64_S9 y) := by kernel_rfl
def cmp_Compare_int64_r10 (C : cmp_Compare_int64_C) (v : cmp_Compare_int64_Y9) : Dt cmp_Compare_int64_Y5 := (Dt.ret (-1:Int))
theorem cmp_Compare_int64_g10 (C : cmp_Compare_int64_C) (v : cmp_Compare_int64_Y9) : treg tysT (orc (cmp_Compare_int64_tab C)) 20 (regO (bodyOf f111) 10) false [(4, .any)] (cmp_Compare_int64_S9 v) some = (cmp_Compare_int64_r10 C v).eval fun y => some (cmp_Compare_int64_S5 y) := by kernel_rfl
abbrev cmp_Compare_int64_Y11 : Type := Bool
def cmp_Compare_int64_S11 (v : cmp_Compare_int64_Y11) : St := ⟨[(19, .bool v)], []⟩
def cmp_Compare_int64_r11 (C : cmp_Compare_int64_C) (v : cmp_Compare_int64_Y9) : Dt cmp_Compare_int64_Y11 := (Dt.ret (decide (v.1 > v.2.1)))
theorem cmp_Compare_int64_g11 (C : cmp_Compare_int64_C) (v : cmp_Compare_int64_Y9) : treg tysT (orc (cmp_Compare_int64_tab C)) 20 (regO (bodyOf f111) 11) false [(19, .any)] (cmp_Compare_int64_S9 v) some = (cmp_Compare_int64_r11 C v).eval fun y => some (cmp_Compare_int64_S11 y) := by kernel_rfl
def cmp_Compare_int64_r12 (C : cmp_Compare_int64_C) (v : cmp_Compare_int64_Y11) : Dt cmp_Compare_int64_Y5 := (Dt.ret (1:Int))
theorem cmp_Compare_int64_g12 (C : cmp_Compare_int64_C) (v : cmp_Compare_int64_Y11) : treg tysT (orc (cmp_Compare_int64_tab C)) 20 (regO (bodyOf f111) 12) false [(4, .any)] (cmp_Compare_int64_S11 v) some = (cmp_Compare_int64_r12 C v).eval fun y => some (cmp_Compare_int64_S5 y) := by kernel_rfl
def cmp_Compare_int64_r13 (C : cmp_Compare_int64_C) (v : cmp_Compare_int64_Y11) : Dt cmp_Compare_int64_Y5 := (Dt.ret (0:Int))
theorem cmp_Compare_int64_g13 (C : cmp_Compare_int64_C) (v : cmp_Compare_int64_Y11) : treg tysT (orc (cmp_Compare_int64_tab C)) 20 (regO (bodyOf f111) 13) false [(4, .any)] (cmp_Compare_int64_S11 v) some = (cmp_Compare_int64_r13 C v).eval fun y => some (cmp_Compare_int64_S5 y) := by kernel_rfl
def F_cmp_Compare_int64 (d : Nat) (x : cmp_Compare_int64_X) : Option cmp_Compare_int64_R :=
  (cmp_Compare_int64_r0 (cmp_Compare_int64_K d) (x.1.1, x.2.1.1)).eval fun y0 =>
  (cmp_Compare_int64_r1 (cmp_Compare_int64_K d) y0).eval fun y1 =>
  (cmp_Compare_int64_r2 (cmp_Compare_int64_K d) y1).eval fun y2 =>
  (cmp_Compare_int64_r3 (cmp_Compare_int64_K d) y2).eval fun y3 =>
  bif y3.2.2.2 then ((cmp_Compare_int64_r4 (cmp_Compare_int64_K d) y3).eval fun y4 =>
  bif y4 then ((cmp_Compare_int64_r5 (cmp_Compare_int64_K d) y4).eval fun y5 =>
  some y5) else ((cmp_Compare_int64_r6 (cmp_Compare_int64_K d) y4).eval fun y6 =>
  some y6)) else ((cmp_Compare_int64_r7 (cmp_Compare_int64_K d) y3).eval fun y7 =>
  bif y7.2.2 then ((cmp_Compare_int64_r8 (cmp_Compare_int64_K d) y7).eval fun y8 =>
  some y8) else ((cmp_Compare_int64_r9 (cmp_Compare_int64_K d) y7).eval fun y9 =>
  bif y9.2.2 then ((cmp_Compare_int64_r10 (cmp_Compare_int64_K d) y9).eval fun y10 =>
  some y10) else ((cmp_Compare_int64_r11 (cmp_Compare_int64_K d) y9).eval fun y11 =>
  bif y11 then ((cmp_Compare_int64_r12 (cmp_Compare_int64_K d) y11).eval fun y12 =>
  some y12) else ((cmp_Compare_int64_r13 (cmp_Compare_int64_K d) y11).eval fun y13 =>
  some y13))))
theorem cmp_Compare_int64_cok (d : Nat) : COK prog (cmp_Compare_int64_sp (F_cmp_Compare_int64 d)) := by
  have hm : prog.follows .mixedOrders = true := mixed
  have hT := tys
  have hC0 : OrcOK prog (orc (cmp_Compare_int64_tab (cmp_Compare_int64_K d))) := orc_ok (by
    intro S hS
    simp only [cmp_Compare_int64_tab, List.mem_cons, List.not_mem_nil, or_false] at hS
    subst hS; exact cmp_isNaN_int64_cok d)
  have hC : OrcOK prog (orc (cmp_Compare_int64_tab (cmp_Compare_int64_K d))) := hC0
  refine cok_of (c := bodyOf f111) (fn := f111) hT (by kernel_rfl) (by kernel_rfl) (by decide) fun x r h w0 φ0 Q hend => ?_
  replace h : F_cmp_Compare_int64 d x = some r := h
  unfold F_cmp_Compare_int64 at h
  show Run prog w0 φ0 20 (bodyOf f111) ⟨[(0, .int .i64 x.1.1), (1, .int .i64 x.2.1.1)], []⟩ Q
  refine run_seq ?_
  refine run_reg hm hT hC (cmp_Compare_int64_g0 (cmp_Compare_int64_K d) (x.1.1, x.2.1.1)) h ?_
  intro y0 h
  refine cn_then ?_
  refine run_seq ?_
  refine run_reg hm hT hC (cmp_Compare_int64_g1 (cmp_Compare_int64_K d) y0) h ?_
  intro y1 h
  refine cn_then ?_
  refine run_seq ?_
  refine run_reg hm hT hC (cmp_Compare_int64_g2 (cmp_Compare_int64_K d) y1) h ?_
  intro y2 h
  refine cn_then ?_
  refine run_seq ?_
  refine run_seq ?_
  refine run_reg hm hT hC (cmp_Compare_int64_g3 (cmp_Compare_int64_K d) y2) h ?_
  intro y3 h
  refine cn_then ?_
  refine run_cond (v := y3.2.2.2) (by kernel_rfl) h ?_ ?_
  ·
    intro h
    refine run_seq ?_
    refine run_seq ?_
    refine run_reg hm hT hC (cmp_Compare_int64_g4 (cmp_Compare_int64_K d) y3) h ?_
    intro y4 h
    refine cn_then ?_
    refine run_cond (v := y4) (by kernel_rfl) h ?_ ?_
    ·
      intro h
      refine run_seq ?_
      refine run_reg hm hT hC (cmp_Compare_int64_g5 (cmp_Compare_int64_K d) y4) h ?_
      intro y5 h
      refine cn_then ?_
      refine run_ret ?_
      refine cn_then_ret ?_
      refine cn_then_ret ?_
      cases h
      exact (hend _ (by kernel_rfl)).2
    ·
      intro h
      refine run_skip ?_
      refine cn_then ?_
      refine run_seq ?_
      refine run_reg hm hT hC (cmp_Compare_int64_g6 (cmp_Compare_int64_K d) y4) h ?_
      intro y6 h
      refine cn_then ?_
      refine run_ret ?_
      refine cn_then_ret ?_
      cases h
      exact (hend _ (by kernel_rfl)).2
  ·
    intro h
    refine run_skip ?_
    refine cn_then ?_
    refine run_seq ?_
    refine run_seq ?_
    refine run_reg hm hT hC (cmp_Compare_int64_g7 (cmp_Compare_int64_K d) y3) h ?_
    intro y7 h
    refine cn_then ?_
    refine run_cond (v := y7.2.2) (by kernel_rfl) h ?_ ?_
    ·
      intro h
      refine run_seq ?_
      refine run_reg hm hT hC (cmp_Compare_int64_g8 (cmp_Compare_int64_K d) y7) h ?_
      intro y8 h
      refine cn_then ?_
      refine run_ret ?_
      refine cn_then_ret ?_
      cases h
      exact (hend _ (by kernel_rfl)).2
    ·
      intro h
      refine run_skip ?_
      refine cn_then ?_
      refine run_seq ?_
      refine run_seq ?_
      refine run_reg hm hT hC (cmp_Compare_int64_g9 (cmp_Compare_int64_K d) y7) h ?_
      intro y9 h
      refine cn_then ?_
      refine run_cond (v := y9.2.2) (by kernel_rfl) h ?_ ?_
      ·
        intro h
        refine run_seq ?_
        refine run_reg hm hT hC (cmp_Compare_int64_g10 (cmp_Compare_int64_K d) y9) h ?_
        intro y10 h
        refine cn_then ?_
        refine run_ret ?_
        refine cn_then_ret ?_
        cases h
        exact (hend _ (by kernel_rfl)).2
      ·
        intro h
        refine run_skip ?_
        refine cn_then ?_
        refine run_seq ?_
        refine run_seq ?_
        refine run_reg hm hT hC (cmp_Compare_int64_g11 (cmp_Compare_int64_K d) y9) h ?_
        intro y11 h
        refine cn_then ?_
        refine run_cond (v := y11) (by kernel_rfl) h ?_ ?_
        ·
          intro h
          refine run_seq ?_
          refine run_reg hm hT hC (cmp_Compare_int64_g12 (cmp_Compare_int64_K d) y11) h ?_
          intro y12 h
          refine cn_then ?_
          refine run_ret ?_
          refine cn_then_ret ?_
          cases h
          exact (hend _ (by kernel_rfl)).2
        ·
          intro h
          refine run_skip ?_
          refine cn_then ?_
          refine run_seq ?_
          refine run_reg hm hT hC (cmp_Compare_int64_g13 (cmp_Compare_int64_K d) y11) h ?_
          intro y13 h
          refine cn_then ?_
          refine run_ret ?_
          cases h
          exact (hend _ (by kernel_rfl)).2
abbrev ratio_abs_ps : List Pk := [.row Ri false]
abbrev ratio_abs_X : Type := Di × Unit
abbrev ratio_abs_R : Type := Int
def ratio_abs_enc (r : ratio_abs_R) : LV × List Ob := (.int .u64 r, [])
def ratio_abs_sp (F : ratio_abs_X → Option ratio_abs_R) : Go.Tx.Spec := ⟨104, ratio_abs_ps, ratio_abs_R, F, ratio_abs_enc⟩
abbrev ratio_abs_C : Type := Unit
def ratio_abs_K (_d : Nat) : ratio_abs_C := ()
def ratio_abs_tab (C : ratio_abs_C) : List Go.Tx.Spec := []
abbrev ratio_abs_Y0i : Type := Int
def ratio_abs_S0i (v : ratio_abs_Y0i) : St := ⟨[(0, .int .i64 v)], []⟩
def ratio_abs_r0 (C : ratio_abs_C) (v : ratio_abs_Y0i) : Dt ratio_abs_Y0i := (Dt.ret v)
theorem ratio_abs_g0 (C : ratio_abs_C) (v : ratio_abs_Y0i) : treg tysT (orc (ratio_abs_tab C)) 10 (regO (bodyOf f104) 0) false [(0, .any)] (ratio_abs_S0i v) some = (ratio_abs_r0 C v).eval fun y => some (ratio_abs_S0i y) := by kernel_rfl
abbrev ratio_abs_Y1 : Type := Int × Bool
def ratio_abs_S1 (v : ratio_abs_Y1) : St := ⟨[(0, .int .i64 v.1), (4, .bool v.2)], []⟩
def ratio_abs_r1 (C : ratio_abs_C) (v : ratio_abs_Y0i) : Dt ratio_abs_Y1 := (Dt.ret (v, (decide (v < (0:Int)))))
theorem ratio_abs_g1 (C : ratio_abs_C) (v : ratio_abs_Y0i) : treg tysT (orc (ratio_abs_tab C)) 10 (regO (bodyOf f104) 1) false [(0, .any), (4, .any)] (ratio_abs_S0i v) some = (ratio_abs_r1 C v).eval fun y => some (ratio_abs_S1 y) := by kernel_rfl
abbrev ratio_abs_Y2 : Type := Int
def ratio_abs_S2 (v : ratio_abs_Y2) : St := ⟨[(2, .int .u64 v)], []⟩
def ratio_abs_r2 (C : ratio_abs_C) (v : ratio_abs_Y1) : Dt ratio_abs_Y2 := (Dt.ret (IntKind.wrap .u64 (0 - (IntKind.wrap .u64 v.1))))
theorem ratio_abs_g2 (C : ratio_abs_C) (v : ratio_abs_Y1) : treg tysT (orc (ratio_abs_tab C)) 10 (regO (bodyOf f104) 2) false [(2, .any)] (ratio_abs_S1 v) some = (ratio_abs_r2 C v).eval fun y => some (ratio_abs_S2 y) := by kernel_rfl
def ratio_abs_r3 (C : ratio_abs_C) (v : ratio_abs_Y1) : Dt ratio_abs_Y2 := (Dt.ret (IntKind.wrap .u64 v.1))
theorem ratio_abs_g3 (C : ratio_abs_C) (v : ratio_abs_Y1) : treg tysT (orc (ratio_abs_tab C)) 10 (regO (bodyOf f104) 3) false [(2, .any)] (ratio_abs_S1 v) some = (ratio_abs_r3 C v).eval fun y => some (ratio_abs_S2 y) := by kernel_rfl
def F_ratio_abs (d : Nat) (x : ratio_abs_X) : Option ratio_abs_R :=
  (ratio_abs_r0 (ratio_abs_K d) x.1.1).eval fun y0 =>
  (ratio_abs_r1 (ratio_abs_K d) y0).eval fun y1 =>
  bif y1.2 then ((ratio_abs_r2 (ratio_abs_K d) y1).eval fun y2 =>
  some y2) else ((ratio_abs_r3 (ratio_abs_K d) y1).eval fun y3 =>
  some y3)
theorem ratio_abs_cok (d : Nat) : COK prog (ratio_abs_sp (F_ratio_abs d)) := by
  have hm : prog.follows .mixedOrders = true := mixed
  have hT := tys
  have hC0 : OrcOK prog (orc (ratio_abs_tab (ratio_abs_K d))) := orc_ok (by
    intro S hS
    simp only [ratio_abs_tab, List.mem_cons, List.not_mem_nil, or_false] at hS
    all_goals first | cases hS | exact hS.elim)
  have hC : OrcOK prog (orc (ratio_abs_tab (ratio_abs_K d))) := hC0
  refine cok_of (c := bodyOf f104) (fn := f104) hT (by kernel_rfl) (by kernel_rfl) (by decide) fun x r h w0 φ0 Q hend => ?_
  replace h : F_ratio_abs d x = some r := h
  unfold F_ratio_abs at h
  show Run prog w0 φ0 10 (bodyOf f104) ⟨[(0, .int .i64 x.1.1)], []⟩ Q
  refine run_seq ?_
  refine run_reg hm hT hC (ratio_abs_g0 (ratio_abs_K d) x.1.1) h ?_
  intro y0 h
  refine cn_then ?_
  refine run_seq ?_
  refine run_seq ?_
  refine run_reg hm hT hC (ratio_abs_g1 (ratio_abs_K d) y0) h ?_
  intro y1 h
  refine cn_then ?_
  refine run_cond (v := y1.2) (by kernel_rfl) h ?_ ?_
  ·
    intro h
    refine run_seq ?_
    refine run_reg hm hT hC (ratio_abs_g2 (ratio_abs_K d) y1) h ?_
    intro y2 h
    refine cn_then ?_
    refine run_ret ?_
    refine cn_then_ret ?_
    cases h
    exact (hend _ (by kernel_rfl)).2
  ·
    intro h
    refine run_skip ?_
    refine cn_then ?_
    refine run_seq ?_
    refine run_reg hm hT hC (ratio_abs_g3 (ratio_abs_K d) y1) h ?_
    intro y3 h
    refine cn_then ?_
    refine run_ret ?_
    cases h
    exact (hend _ (by kernel_rfl)).2
abbrev ratio_times_ps : List Pk := [.row Ri false, .row Ri false]
abbrev ratio_times_X : Type := Di × Di × Unit
abbrev ratio_times_R : Type := Bool × Int × Int
def ratio_times_enc (r : ratio_times_R) : LV × List Ob := (.agg [.bool r.1, .int .u64 r.2.1, .int .u64 r.2.2], [])
def ratio_times_sp (F : ratio_times_X → Option ratio_times_R) : Go.Tx.Spec := ⟨113, ratio_times_ps, ratio_times_R, F, ratio_times_enc⟩
abbrev ratio_times_C : Type := (ratio_abs_X → Option ratio_abs_R) × (math_bits_Mul64_X → Option math_bits_Mul64_R) × Unit
def ratio_times_K (d : Nat) : ratio_times_C := (F_ratio_abs d, F_math_bits_Mul64 d, ())
def ratio_times_tab (C : ratio_times_C) : List Go.Tx.Spec := [ratio_abs_sp C.1, math_bits_Mul64_sp C.2.1]
abbrev ratio_times_Y0i : Type := Int × Int
def ratio_times_S0i (v : ratio_times_Y0i) : St := ⟨[(0, .int .i64 v.1), (1, .int .i64 v.2)], []⟩
abbrev ratio_times_Y0 : Type := Int × Int × Bool × Int × Int
def ratio_times_S0 (v : ratio_times_Y0) : St := ⟨[(0, .int .i64 v.1), (1, .int .i64 v.2.1), (4, .ptr 0 0)], [.cells [.bool v.2.2.1, .int .u64 v.2.2.2.1, .int .u64 v.2.2.2.2]]⟩
def ratio_times_r0 (C : ratio_times_C) (v : ratio_times_Y0i) : Dt ratio_times_Y0 := (Dt.ret (v.1, v.2, false, (0:Int), (0:Int)))
theorem ratio_times_g0 (C : ratio_times_C) (v : ratio_times_Y0i) : treg tysT (orc (ratio_times_tab C)) 23 (regO (bodyOf f113) 0) false [(0, .any), (1, .any), (4, .any)] (ratio_times_S0i v) some = (ratio_times_r0 C v).eval fun y => some (ratio_times_S0 y) := by kernel_rfl
abbrev ratio_times_Y1 : Type := Int × Int × Int × Int × Bool × Int × Int
def ratio_times_S1 (v : ratio_times_Y1) : St := ⟨[(0, .int .i64 v.1), (1, .int .i64 v.2.1), (4, .ptr 0 0), (5, .int .u64 v.2.2.1), (6, .int .u64 v.2.2.2.1)], [.cells [.bool v.2.2.2.2.1, .int .u64 v.2.2.2.2.2.1, .int .u64 v.2.2.2.2.2.2]]⟩
def ratio_times_r1 (C : ratio_times_C) (v : ratio_times_Y0) : Dt ratio_times_Y1 := (Dt.bnd (C.1 ((v.1, ()), ())) fun r1 => (Dt.bnd (C.1 ((v.2.1, ()), ())) fun r2 => (Dt.bnd (C.2.1 ((r1, ()), (r2, ()), ())) fun r3 => (Dt.ret (v.1, v.2.1, r3.1, r3.2, v.2.2.1, v.2.2.2.1, v.2.2.2.2)))))
theorem ratio_times_g1 (C : ratio_times_C) (v : ratio_times_Y0) : treg tysT (orc (ratio_times_tab C)) 23 (regO (bodyOf f113) 1) false [(0, .any), (1, .any), (4, .any), (5, .any), (6, .any)] (ratio_times_S0 v) some = (ratio_times_r1 C v).eval fun y => some (ratio_times_S1 y) := by kernel_rfl
abbrev ratio_times_Y2 : Type := Bool × Int × Int
def ratio_times_S2 (v : ratio_times_Y2) : St := ⟨[(4, .ptr 0 0)], [.cells [.bool v.1, .int .u64 v.2.1, .int .u64 v.2.2]]⟩
def ratio_times_r2 (C : ratio_times_C) (v : ratio_times_Y1) : Dt ratio_times_Y2 := (Dt.ret ((!((decide (v.1 < (0:Int))) == (decide (v.2.1 < (0:Int))))), v.2.2.1, v.2.2.2.1))
theorem ratio_times_g2 (C : ratio_times_C) (v : ratio_times_Y1) : treg tysT (orc (ratio_times_tab C)) 23 (regO (bodyOf f113) 2) false [(4, .any)] (ratio_times_S1 v) some = (ratio_times_r2 C v).eval fun y => some (ratio_times_S2 y) := by kernel_rfl
def F_ratio_times (d : Nat) (x : ratio_times_X) : Option ratio_times_R :=
  (ratio_times_r0 (ratio_times_K d) (x.1.1, x.2.1.1)).eval fun y0 =>
  (ratio_times_r1 (ratio_times_K d) y0).eval fun y1 =>
  (ratio_times_r2 (ratio_times_K d) y1).eval fun y2 =>
  some y2
theorem ratio_times_cok (d : Nat) : COK prog (ratio_times_sp (F_ratio_times d)) := by
  have hm : prog.follows .mixedOrders = true := mixed
  have hT := tys
  have hC0 : OrcOK prog (orc (ratio_times_tab (ratio_times_K d))) := orc_ok (by
    intro S hS
    simp only [ratio_times_tab, List.mem_cons, List.not_mem_nil, or_false] at hS
    rcases hS with rfl | rfl
    · exact ratio_abs_cok d
    · exact math_bits_Mul64_cok d)
  have hC : OrcOK prog (orc (ratio_times_tab (ratio_times_K d))) := hC0
  refine cok_of (c := bodyOf f113) (fn := f113) hT (by kernel_rfl) (by kernel_rfl) (by decide) fun x r h w0 φ0 Q hend => ?_
  replace h : F_ratio_times d x = some r := h
  unfold F_ratio_times at h
  show Run prog w0 φ0 23 (bodyOf f113) ⟨[(0, .int .i64 x.1.1), (1, .int .i64 x.2.1.1)], []⟩ Q
  refine run_seq ?_
  refine run_reg hm hT hC (ratio_times_g0 (ratio_times_K d) (x.1.1, x.2.1.1)) h ?_
  intro y0 h
  refine cn_then ?_
  refine run_seq ?_
  refine run_reg hm hT hC (ratio_times_g1 (ratio_times_K d) y0) h ?_
  intro y1 h
  refine cn_then ?_
  refine run_seq ?_
  refine run_reg hm hT hC (ratio_times_g2 (ratio_times_K d) y1) h ?_
  intro y2 h
  refine cn_then ?_
  refine run_ret ?_
  cases h
  exact (hend _ (by kernel_rfl)).2
abbrev cmp_isNaN_uint64_ps : List Pk := [.row Ru false]
abbrev cmp_isNaN_uint64_X : Type := Du × Unit
abbrev cmp_isNaN_uint64_R : Type := Bool
def cmp_isNaN_uint64_enc (r : cmp_isNaN_uint64_R) : LV × List Ob := (.bool r, [])
def cmp_isNaN_uint64_sp (F : cmp_isNaN_uint64_X → Option cmp_isNaN_uint64_R) : Go.Tx.Spec := ⟨152, cmp_isNaN_uint64_ps, cmp_isNaN_uint64_R, F, cmp_isNaN_uint64_enc⟩
abbrev cmp_isNaN_uint64_C : Type := Unit
def cmp_isNaN_uint64_K (_d : Nat) : cmp_isNaN_uint64_C := ()
def cmp_isNaN_uint64_tab (C : cmp_isNaN_uint64_C) : List Go.Tx.Spec := []
abbrev cmp_isNaN_uint64_Y0i : Type := Int
def cmp_isNaN_uint64_S0i (v : cmp_isNaN_uint64_Y0i) : St := ⟨[(0, .int .u64 v)], []⟩
def cmp_isNaN_uint64_r0 (C : cmp_isNaN_uint64_C) (v : cmp_isNaN_uint64_Y0i) : Dt cmp_isNaN_uint64_Y0i := (Dt.ret v)
theorem cmp_isNaN_uint64_g0 (C : cmp_isNaN_uint64_C) (v : cmp_isNaN_uint64_Y0i) : treg tysT (orc (cmp_isNaN_uint64_tab C)) 6 (regO (bodyOf f152) 0) false [(0, .any)] (cmp_isNaN_uint64_S0i v) some = (cmp_isNaN_uint64_r0 C v).eval fun y => some (cmp_isNaN_uint64_S0i y) := by kernel_rfl
abbrev cmp_isNaN_uint64_Y1 : Type := Bool
def cmp_isNaN_uint64_S1 (v : cmp_isNaN_uint64_Y1) : St := ⟨[(2, .bool v)], []⟩
def cmp_isNaN_uint64_r1 (C : cmp_isNaN_uint64_C) (v : cmp_isNaN_uint64_Y0i) : Dt cmp_isNaN_uint64_Y1 := (Dt.ret (v != v))
theorem cmp_isNaN_uint64_g1 (C : cmp_isNaN_uint64_C) (v : cmp_isNaN_uint64_Y0i) : treg tysT (orc (cmp_isNaN_uint64_tab C)) 6 (regO (bodyOf f152) 1) false [(2, .any)] (cmp_isNaN_uint64_S0i v) some = (cmp_isNaN_uint64_r1 C v).eval fun y => some (cmp_isNaN_uint64_S1 y) := by kernel_rfl
def F_cmp_isNaN_uint64 (d : Nat) (x : cmp_isNaN_uint64_X) : Option cmp_isNaN_uint64_R :=
  (cmp_isNaN_uint64_r0 (cmp_isNaN_uint64_K d) x.1.1).eval fun y0 =>
  (cmp_isNaN_uint64_r1 (cmp_isNaN_uint64_K d) y0).eval fun y1 =>
  some y1
theorem cmp_isNaN_uint64_cok (d : Nat) : COK prog (cmp_isNaN_uint64_sp (F_cmp_isNaN_uint64 d)) := by
  have hm : prog.follows .mixedOrders = true := mixed
  have hT := tys
  have hC0 : OrcOK prog (orc (cmp_isNaN_uint64_tab (cmp_isNaN_uint64_K d))) := orc_ok (by
    intro S hS
    simp only [cmp_isNaN_uint64_tab, List.mem_cons, List.not_mem_nil, or_false] at hS
    all_goals first | cases hS | exact hS.elim)
  have hC : OrcOK prog (orc (cmp_isNaN_uint64_tab (cmp_isNaN_uint64_K d))) := hC0
  refine cok_of (c := bodyOf f152) (fn := f152) hT (by kernel_rfl) (by kernel_rfl) (by decide) fun x r h w0 φ0 Q hend => ?_
  replace h : F_cmp_isNaN_uint64 d x = some r := h
  unfold F_cmp_isNaN_uint64 at h
  show Run prog w0 φ0 6 (bodyOf f152) ⟨[(0, .int .u64 x.1.1)], []⟩ Q
  refine run_seq ?_
  refine run_reg hm hT hC (cmp_isNaN_uint64_g0 (cmp_isNaN_uint64_K d) x.1.1) h ?_
  intro y0 h
  refine cn_then ?_
  refine run_seq ?_
  refine run_reg hm hT hC (cmp_isNaN_uint64_g1 (cmp_isNaN_uint64_K d) y0) h ?_
  intro y1 h
  refine cn_then ?_
  refine run_ret ?_
  cases h
  exact (hend _ (by kernel_rfl)).2
abbrev cmp_Compare_uint64_ps : List Pk := [.row Ru false, .row Ru false]
abbrev cmp_Compare_uint64_X : Type := Du × Du × Unit
abbrev cmp_Compare_uint64_R : Type := Int
def cmp_Compare_uint64_enc (r : cmp_Compare_uint64_R) : LV × List Ob := (.int .i64 r, [])
def cmp_Compare_uint64_sp (F : cmp_Compare_uint64_X → Option cmp_Compare_uint64_R) : Go.Tx.Spec := ⟨138, cmp_Compare_uint64_ps, cmp_Compare_uint64_R, F, cmp_Compare_uint64_enc⟩
abbrev cmp_Compare_uint64_C : Type := (cmp_isNaN_uint64_X → Option cmp_isNaN_uint64_R) × Unit
def cmp_Compare_uint64_K (d : Nat) : cmp_Compare_uint64_C := (F_cmp_isNaN_uint64 d, ())
def cmp_Compare_uint64_tab (C : cmp_Compare_uint64_C) : List Go.Tx.Spec := [cmp_isNaN_uint64_sp C.1]
abbrev cmp_Compare_uint64_Y0i : Type := Int × Int
def cmp_Compare_uint64_S0i (v : cmp_Compare_uint64_Y0i) : St := ⟨[(0, .int .u64 v.1), (1, .int .u64 v.2)], []⟩
def cmp_Compare_uint64_r0 (C : cmp_Compare_uint64_C) (v : cmp_Compare_uint64_Y0i) : Dt cmp_Compare_uint64_Y0i := (Dt.ret (v.1, v.2))
theorem cmp_Compare_uint64_g0 (C : cmp_Compare_uint64_C) (v : cmp_Compare_uint64_Y0i) : treg tysT (orc (cmp_Compare_uint64_tab C)) 20 (regO (bodyOf f138) 0) false [(0, .any), (1, .any)] (cmp_Compare_uint64_S0i v) some = (cmp_Compare_uint64_r0 C v).eval fun y => some (cmp_Compare_uint64_S0i y) := by kernel_rfl
abbrev cmp_Compare_uint64_Y1 : Type := Int × Int × Bool
def cmp_Compare_uint64_S1 (v : cmp_Compare_uint64_Y1) : St := ⟨[(0, .int .u64 v.1), (1, .int .u64 v.2.1), (5, .bool v.2.2)], []⟩
def cmp_Compare_uint64_r1 (C : cmp_Compare_uint64_C) (v : cmp_Compare_uint64_Y0i) : Dt cmp_Compare_uint64_Y1 := (Dt.bnd (C.1 ((v.1, ()), ())) fun r1 => (Dt.ret (v.1, v.2, r1)))
theorem cmp_Compare_uint64_g1 (C : cmp_Compare_uint64_C) (v : cmp_Compare_uint64_Y0i) : treg tysT (orc (cmp_Compare_uint64_tab C)) 20 (regO (bodyOf f138) 1) false [(0, .any), (1, .any), (5, .any)] (cmp_Compare_uint64_S0i v) some = (cmp_Compare_uint64_r1 C v).eval fun y => some (cmp_Compare_uint64_S1 y) := by kernel_rfl
abbrev cmp_Compare_uint64_Y2 : Type := Int × Int × Bool × Bool
def cmp_Compare_uint64_S2 (v : cmp_Compare_uint64_Y2) : St := ⟨[(0, .int .u64 v.1), (1, .int .u64 v.2.1), (5, .bool v.2.2.1), (6, .bool v.2.2.2)], []⟩
def cmp_Compare_uint64_r2 (C : cmp_Compare_uint64_C) (v : cmp_Compare_uint64_Y1) : Dt cmp_Compare_uint64_Y2 := (Dt.bnd (C.1 ((v.2.1, ()), ())) fun r1 => (Dt.ret (v.1, v.2.1, v.2.2, r1)))
theorem cmp_Compare_uint64_g2 (C : cmp_Compare_uint64_C) (v : cmp_Compare_uint64_Y1) : treg tysT (orc (cmp_Compare_uint64_tab C)) 20 (regO (bodyOf f138) 2) false [(0, .any), (1, .any), (5, .any), (6, .any)] (cmp_Compare_uint64_S1 v) some = (cmp_Compare_uint64_r2 C v).eval fun y => some (cmp_Compare_uint64_S2 y) := by kernel_rfl
abbrev cmp_Compare_uint64_Y3 : Type := Int × Int × Bool × Bool
def cmp_Compare_uint64_S3 (v : cmp_Compare_uint64_Y3) : St := ⟨[(0, .int .u64 v.1), (1, .int .u64 v.2.1), (6, .bool v.2.2.1), (11, .bool v.2.2.2)], []⟩
def cmp_Compare_uint64_r3 (C : cmp_Compare_uint64_C) (v : cmp_Compare_uint64_Y2) : Dt cmp_Compare_uint64_Y3 := (Dt.ret (v.1, v.2.1, v.2.2.2, v.2.2.1))
theorem cmp_Compare_uint64_g3 (C : cmp_Compare_uint64_C) (v : cmp_Compare_uint64_Y2) : treg tysT (orc (cmp_Compare_uint64_tab C)) 20 (regO (bodyOf f138) 3) false [(0, .any), (1, .any), (6, .any), (11, .any)] (cmp_Compare_uint64_S2 v) some = (cmp_Compare_uint64_r3 C v).eval fun y => some (cmp_Compare_uint64_S3 y) := by kernel_rfl
abbrev cmp_Compare_uint64_Y4 : Type := Bool
def cmp_Compare_uint64_S4 (v : cmp_Compare_uint64_Y4) : St := ⟨[(12, .bool v)], []⟩
def cmp_Compare_uint64_r4 (C : cmp_Compare_uint64_C) (v : cmp_Compare_uint64_Y3) : Dt cmp_Compare_uint64_Y4 := (Dt.ret v.2.2.1)
theorem cmp_Compare_uint64_g4 (C : cmp_Compare_uint64_C) (v : cmp_Compare_uint64_Y3) : treg tysT (orc (cmp_Compare_uint64_tab C)) 20 (regO (bodyOf f138) 4) false [(12, .any)] (cmp_Compare_uint64_S3 v) some = (cmp_Compare_uint64_r4 C v).eval fun y => some (cmp_Compare_uint64_S4 y) := by kernel_rfl
abbrev cmp_Compare_uint64_Y5 : Type := Int
def cmp_Compare_uint64_S5 (v : cmp_Compare_uint64_Y5) : St := ⟨[(4, .int .i64 v)], []⟩
def cmp_Compare_uint64_r5 (C : cmp_Compare_uint64_C) (v : cmp_Compare_uint64_Y4) : Dt cmp_Compare_uint64_Y5 := (Dt.ret (0:Int))
theorem cmp_Compare_uint64_g5 (C : cmp_Compare_uint64_C) (v : cmp_Compare_uint64_Y4) : treg tysT (orc (cmp_Compare_uint64_tab C)) 20 (regO (bodyOf f138) 5) false [(4, .any)] (cmp_Compare_uint64_S4 v) some = (cmp_Compare_uint64_r5 C v).eval fun y => some (cmp_Compare_uint64_S5 y) := by kernel_rfl
def cmp_Compare_uint64_r6 (C : cmp_Compare_uint64_C) (v : cmp_Compare_uint64_Y4) : Dt cmp_Compare_uint64_Y5 := (Dt.ret (-1:Int))
theorem cmp_Compare_uint64_g6 (C : cmp_Compare_uint64_C) (v : cmp_Compare_uint64_Y4) : treg tysT (orc (cmp_Compare_uint64_tab C)) 20 (regO (bodyOf f138) 6) false [(4, .any)] (cmp_Compare_uint64_S4 v) some = (cmp_Compare_uint64_r6 C v).eval fun y => some (cmp_Compare_uint64_S5 y) := by kernel_rfl
abbrev cmp_Compare_uint64_Y7 : Type := Int × Int × Bool
def cmp_Compare_uint64_S7 (v : cmp_Compare_uint64_Y7) : St := ⟨[(0, .int .u64 v.1), (1, .int .u64 v.2.1), (13, .bool v.2.2)], []⟩
def cmp_Compare_uint64_r7 (C : cmp_Compare_uint64_C) (v : cmp_Compare_uint64_Y3) : Dt cmp_Compare_uint64_Y7 := (Dt.ret (v.1, v.2.1, v.2.2.1))
theorem cmp_Compare_uint64_g7 (C : cmp_Compare_uint64_C) (v : cmp_Compare_uint64_Y3) : treg tysT (orc (cmp_Compare_uint64_tab C)) 20 (regO (bodyOf f138) 7) false [(0, .any), (1, .any), (13, .any)] (cmp_Compare_uint64_S3 v) some = (cmp_Compare_uint64_r7 C v).eval fun y => some (cmp_Compare_uint64_S7 y) := by kernel_rfl
def cmp_Compare_uint64_r8 (C : cmp_Compare_uint64_C) (v : cmp_Compare_uint64_Y7) : Dt cmp_Compare_uint64_Y5 := (Dt.ret (1:Int))
theorem cmp_Compare_uint64_g8 (C : cmp_Compare_uint64_C) (v : cmp_Compare_uint64_Y7) : treg tysT (orc (cmp_Compare_uint64_tab C)) 20 (regO (bodyOf f138) 8) false [(4, .any)] (cmp_Compare_uint64_S7 v) some = (cmp_Compare_uint64_r8 C v).eval fun y => some (cmp_Compare_uint64_S5 y) := by kernel_rfl
abbrev cmp_Compare_uint64_Y9 : Type := Int × Int × Bool
def cmp_Compare_uint64_S9 (v : cmp_Compare_uint64_Y9) : St := ⟨[(0, .int .u64 v.1), (1, .int .u64 v.2.1), (16, .bool v.2.2)], []⟩
def cmp_Compare_uint64_r9 (C : cmp_Compare_uint64_C) (v : cmp_Compare_uint64_Y7) : Dt cmp_Compare_uint64_Y9 := (Dt.ret (v.1, v.2.1, (decide (v.1 < v.2.1))))
theorem cmp_Compare_uint64_g9 (C : cmp_Compare_uint64_C) (v : cmp_Compare_uint64_Y7) : treg tysT (orc (cmp_Compare_uint64_tab C)) 20 (regO (bodyOf f138) 9) false [(0, .any), (1, .any), (16, .any)] (cmp_Compare_uint64_S7 v) some = (cmp_Compare_uint64_r9 C v).eval fun y => some (cmp_Compare_uint64_S9 y) := by kernel_rfl
def cmp_Compare_uint64_r10 (C : cmp_Compare_uint64_C) (v : cmp_Compare_uint64_Y9) : Dt cmp_Compare_uint64_Y5 := (Dt.ret (-1:Int))
theorem cmp_Compare_uint64_g10 (C : cmp_Compare_uint64_C) (v : cmp_Compare_uint64_Y9) : treg tysT (orc (cmp_Compare_uint64_tab C)) 20 (regO (bodyOf f138) 10) false [(4, .any)] (cmp_Compare_uint64_S9 v) some = (cmp_Compare_uint64_r10 C v).eval fun y => some (cmp_Compare_uint64_S5 y) := by kernel_rfl
abbrev cmp_Compare_uint64_Y11 : Type := Bool
def cmp_Compare_uint64_S11 (v : cmp_Compare_uint64_Y11) : St := ⟨[(19, .bool v)], []⟩
def cmp_Compare_uint64_r11 (C : cmp_Compare_uint64_C) (v : cmp_Compare_uint64_Y9) : Dt cmp_Compare_uint64_Y11 := (Dt.ret (decide (v.1 > v.2.1)))
theorem cmp_Compare_uint64_g11 (C : cmp_Compare_uint64_C) (v : cmp_Compare_uint64_Y9) : treg tysT (orc (cmp_Compare_uint64_tab C)) 20 (regO (bodyOf f138) 11) false [(19, .any)] (cmp_Compare_uint64_S9 v) some = (cmp_Compare_uint64_r11 C v).eval fun y => some (cmp_Compare_uint64_S11 y) := by kernel_rfl
def cmp_Compare_uint64_r12 (C : cmp_Compare_uint64_C) (v : cmp_Compare_uint64_Y11) : Dt cmp_Compare_uint64_Y5 := (Dt.ret (1:Int))
theorem cmp_Compare_uint64_g12 (C : cmp_Compare_uint64_C) (v : cmp_Compare_uint64_Y11) : treg tysT (orc (cmp_Compare_uint64_tab C)) 20 (regO (bodyOf f138) 12) false [(4, .any)] (cmp_Compare_uint64_S11 v) some = (cmp_Compare_uint64_r12 C v).eval fun y => some (cmp_Compare_uint64_S5 y) := by kernel_rfl
def cmp_Compare_uint64_r13 (C : cmp_Compare_uint64_C) (v : cmp_Compare_uint64_Y11) : Dt cmp_Compare_uint64_Y5 := (Dt.ret (0:Int))
theorem cmp_Compare_uint64_g13 (C : cmp_Compare_uint64_C) (v : cmp_Compare_uint64_Y11) : treg tysT (orc (cmp_Compare_uint64_tab C)) 20 (regO (bodyOf f138) 13) false [(4, .any)] (cmp_Compare_uint64_S11 v) some = (cmp_Compare_uint64_r13 C v).eval fun y => some (cmp_Compare_uint64_S5 y) := by kernel_rfl
def F_cmp_Compare_uint64 (d : Nat) (x : cmp_Compare_uint64_X) : Option cmp_Compare_uint64_R :=
  (cmp_Compare_uint64_r0 (cmp_Compare_uint64_K d) (x.1.1, x.2.1.1)).eval fun y0 =>
  (cmp_Compare_uint64_r1 (cmp_Compare_uint64_K d) y0).eval fun y1 =>
  (cmp_Compare_uint64_r2 (cmp_Compare_uint64_K d) y1).eval fun y2 =>
  (cmp_Compare_uint64_r3 (cmp_Compare_uint64_K d) y2).eval fun y3 =>
  bif y3.2.2.2 then ((cmp_Compare_uint64_r4 (cmp_Compare_uint64_K d) y3).eval fun y4 =>
  bif y4 then ((cmp_Compare_uint64_r5 (cmp_Compare_uint64_K d) y4).eval fun y5 =>
  some y5) else ((cmp_Compare_uint64_r6 (cmp_Compare_uint64_K d) y4).eval fun y6 =>
  some y6)) else ((cmp_Compare_uint64_r7 (cmp_Compare_uint64_K d) y3).eval fun y7 =>
  bif y7.2.2 then ((cmp_Compare_uint64_r8 (cmp_Compare_uint64_K d) y7).eval fun y8 =>
  some y8) else ((cmp_Compare_uint64_r9 (cmp_Compare_uint64_K d) y7).eval fun y9 =>
  bif y9.2.2 then ((cmp_Compare_uint64_r10 (cmp_Compare_uint64_K d) y9).eval fun y10 =>
  some y10) else ((cmp_Compare_uint64_r11 (cmp_Compare_uint64_K d) y9).eval fun y11 =>
  bif y11 then ((cmp_Compare_uint64_r12 (cmp_Compare_uint64_K d) y11).eval fun y12 =>
  some y12) else ((cmp_Compare_uint64_r13 (cmp_Compare_uint64_K d) y11).eval fun y13 =>
  some y13))))
theorem cmp_Compare_uint64_cok (d : Nat) : COK prog (cmp_Compare_uint64_sp (F_cmp_Compare_uint64 d)) := by
  have hm : prog.follows .mixedOrders = true := mixed
  have hT := tys
  have hC0 : OrcOK prog (orc (cmp_Compare_uint64_tab (cmp_Compare_uint64_K d))) := orc_ok (by
    intro S hS
    simp only [cmp_Compare_uint64_tab, List.mem_cons, List.not_mem_nil, or_false] at hS
    subst hS; exact cmp_isNaN_uint64_cok d)
  have hC : OrcOK prog (orc (cmp_Compare_uint64_tab (cmp_Compare_uint64_K d))) := hC0
  refine cok_of (c := bodyOf f138) (fn := f138) hT (by kernel_rfl) (by kernel_rfl) (by decide) fun x r h w0 φ0 Q hend => ?_
  replace h : F_cmp_Compare_uint64 d x = some r := h
  unfold F_cmp_Compare_uint64 at h
  show Run prog w0 φ0 20 (bodyOf f138) ⟨[(0, .int .u64 x.1.1), (1, .int .u64 x.2.1.1)], []⟩ Q
  refine run_seq ?_
  refine run_reg hm hT hC (cmp_Compare_uint64_g0 (cmp_Compare_uint64_K d) (x.1.1, x.2.1.1)) h ?_
  intro y0 h
  refine cn_then ?_
  refine run_seq ?_
  refine run_reg hm hT hC (cmp_Compare_uint64_g1 (cmp_Compare_uint64_K d) y0) h ?_
  intro y1 h
  refine cn_then ?_
  refine run_seq ?_
  refine run_reg hm hT hC (cmp_Compare_uint64_g2 (cmp_Compare_uint64_K d) y1) h ?_
  intro y2 h
  refine cn_then ?_
  refine run_seq ?_
  refine run_seq ?_
  refine run_reg hm hT hC (cmp_Compare_uint64_g3 (cmp_Compare_uint64_K d) y2) h ?_
  intro y3 h
  refine cn_then ?_
  refine run_cond (v := y3.2.2.2) (by kernel_rfl) h ?_ ?_
  ·
    intro h
    refine run_seq ?_
    refine run_seq ?_
    refine run_reg hm hT hC (cmp_Compare_uint64_g4 (cmp_Compare_uint64_K d) y3) h ?_
    intro y4 h
    refine cn_then ?_
    refine run_cond (v := y4) (by kernel_rfl) h ?_ ?_
    ·
      intro h
      refine run_seq ?_
      refine run_reg hm hT hC (cmp_Compare_uint64_g5 (cmp_Compare_uint64_K d) y4) h ?_
      intro y5 h
      refine cn_then ?_
      refine run_ret ?_
      refine cn_then_ret ?_
      refine cn_then_ret ?_
      cases h
      exact (hend _ (by kernel_rfl)).2
    ·
      intro h
      refine run_skip ?_
      refine cn_then ?_
      refine run_seq ?_
      refine run_reg hm hT hC (cmp_Compare_uint64_g6 (cmp_Compare_uint64_K d) y4) h ?_
      intro y6 h
      refine cn_then ?_
      refine run_ret ?_
      refine cn_then_ret ?_
      cases h
      exact (hend _ (by kernel_rfl)).2
  ·
    intro h
    refine run_skip ?_
    refine cn_then ?_
    refine run_seq ?_
    refine run_seq ?_
    refine run_reg hm hT hC (cmp_Compare_uint64_g7 (cmp_Compare_uint64_K d) y3) h ?_
    intro y7 h
    refine cn_then ?_
    refine run_cond (v := y7.2.2) (by kernel_rfl) h ?_ ?_
    ·
      intro h
      refine run_seq ?_
      refine run_reg hm hT hC (cmp_Compare_uint64_g8 (cmp_Compare_uint64_K d) y7) h ?_
      intro y8 h
      refine cn_then ?_
      refine run_ret ?_
      refine cn_then_ret ?_
      cases h
      exact (hend _ (by kernel_rfl)).2
    ·
      intro h
      refine run_skip ?_
      refine cn_then ?_
      refine run_seq ?_
      refine run_seq ?_
      refine run_reg hm hT hC (cmp_Compare_uint64_g9 (cmp_Compare_uint64_K d) y7) h ?_
      intro y9 h
      refine cn_then ?_
      refine run_cond (v := y9.2.2) (by kernel_rfl) h ?_ ?_
      ·
        intro h
        refine run_seq ?_
        refine run_reg hm hT hC (cmp_Compare_uint64_g10 (cmp_Compare_uint64_K d) y9) h ?_
        intro y10 h
        refine cn_then ?_
        refine run_ret ?_
        refine cn_then_ret ?_
        cases h
        exact (hend _ (by kernel_rfl)).2
      ·
        intro h
        refine run_skip ?_
        refine cn_then ?_
        refine run_seq ?_
        refine run_seq ?_
        refine run_reg hm hT hC (cmp_Compare_uint64_g11 (cmp_Compare_uint64_K d) y9) h ?_
        intro y11 h
        refine cn_then ?_
        refine run_cond (v := y11) (by kernel_rfl) h ?_ ?_
        ·
          intro h
          refine run_seq ?_
          refine run_reg hm hT hC (cmp_Compare_uint64_g12 (cmp_Compare_uint64_K d) y11) h ?_
          intro y12 h
          refine cn_then ?_
          refine run_ret ?_
          refine cn_then_ret ?_
          cases h
          exact (hend _ (by kernel_rfl)).2
        ·
          intro h
          refine run_skip ?_
          refine cn_then ?_
          refine run_seq ?_
          refine run_reg hm hT hC (cmp_Compare_uint64_g13 (cmp_Compare_uint64_K d) y11) h ?_
          intro y13 h
          refine cn_then ?_
          refine run_ret ?_
          cases h
          exact (hend _ (by kernel_rfl)).2
abbrev ratio_compare_ps : List Pk := [.row Rbuu true, .row Rbuu true]
abbrev ratio_compare_X : Type := Dbuu × Dbuu × Unit
abbrev ratio_compare_R : Type := Int
def ratio_compare_enc (r : ratio_compare_R) : LV × List Ob := (.int .i64 r, [])
def ratio_compare_sp (F : ratio_compare_X → Option ratio_compare_R) : Go.Tx.Spec := ⟨112, ratio_compare_ps, ratio_compare_R, F, ratio_compare_enc⟩
abbrev ratio_compare_C : Type := (cmp_Compare_uint64_X → Option cmp_Compare_uint64_R) × Unit
def ratio_compare_K (d : Nat) : ratio_compare_C := (F_cmp_Compare_uint64 d, ())
def ratio_compare_tab (C : ratio_compare_C) : List Go.Tx.Spec := [cmp_Compare_uint64_sp C.1]
abbrev ratio_compare_Y0i : Type := Bool × Int × Int × Bool × Int × Int
def ratio_compare_S0i (v : ratio_compare_Y0i) : St := ⟨[(0, .agg [.bool v.1, .int .u64 v.2.1, .int .u64 v.2.2.1]), (1, .agg [.bool v.2.2.2.1, .int .u64 v.2.2.2.2.1, .int .u64 v.2.2.2.2.2])], []⟩
abbrev ratio_compare_Y0 : Type := Bool × Int × Int × Bool × Int × Int
def ratio_compare_S0 (v : ratio_compare_Y0) : St := ⟨[(2, .ptr 0 0), (3, .ptr 1 0)], [.cells [.bool v.1, .int .u64 v.2.1, .int .u64 v.2.2.1], .cells [.bool v.2.2.2.1, .int .u64 v.2.2.2.2.1, .int .u64 v.2.2.2.2.2]]⟩
def ratio_compare_r0 (C : ratio_compare_C) (v : ratio_compare_Y0i) : Dt ratio_compare_Y0 := (Dt.ret (v.1, v.2.1, v.2.2.1, v.2.2.2.1, v.2.2.2.2.1, v.2.2.2.2.2))
theorem ratio_compare_g0 (C : ratio_compare_C) (v : ratio_compare_Y0i) : treg tysT (orc (ratio_compare_tab C)) 19 (regO (bodyOf f112) 0) false [(2, .any), (3, .any)] (ratio_compare_S0i v) some = (ratio_compare_r0 C v).eval fun y => some (ratio_compare_S0 y) := by kernel_rfl
abbrev ratio_compare_Y1 : Type := Int × Bool × Int × Int × Bool × Int × Int
def ratio_compare_S1 (v : ratio_compare_Y1) : St := ⟨[(2, .ptr 0 0), (3, .ptr 1 0), (5, .int .i64 v.1)], [.cells [.bool v.2.1, .int .u64 v.2.2.1, .int .u64 v.2.2.2.1], .cells [.bool v.2.2.2.2.1, .int .u64 v.2.2.2.2.2.1, .int .u64 v.2.2.2.2.2.2]]⟩
def ratio_compare_r1 (C : ratio_compare_C) (v : ratio_compare_Y0) : Dt ratio_compare_Y1 := (Dt.bnd (C.1 ((v.2.1, ()), (v.2.2.2.2.1, ()), ())) fun r1 => (Dt.ret (r1, v.1, v.2.1, v.2.2.1, v.2.2.2.1, v.2.2.2.2.1, v.2.2.2.2.2)))
theorem ratio_compare_g1 (C : ratio_compare_C) (v : ratio_compare_Y0) : treg tysT (orc (ratio_compare_tab C)) 19 (regO (bodyOf f112) 1) false [(2, .any), (3, .any), (5, .any)] (ratio_compare_S0 v) some = (ratio_compare_r1 C v).eval fun y => some (ratio_compare_S1 y) := by kernel_rfl
abbrev ratio_compare_Y2 : Type := Int × Bool × Bool × Int × Int × Bool × Int × Int
def ratio_compare_S2 (v : ratio_compare_Y2) : St := ⟨[(2, .ptr 0 0), (3, .ptr 1 0), (5, .int .i64 v.1), (12, .bool v.2.1)], [.cells [.bool v.2.2.1, .int .u64 v.2.2.2.1, .int .u64 v.2.2.2.2.1], .cells [.bool v.2.2.2.2.2.1, .int .u64 v.2.2.2.2.2.2.1, .int .u64 v.2.2.2.2.2.2.2]]⟩
def ratio_compare_r2 (C : ratio_compare_C) (v : ratio_compare_Y1) : Dt ratio_compare_Y2 := (Dt.ret (v.1, (v.1 != (0:Int)), v.2.1, v.2.2.1, v.2.2.2.1, v.2.2.2.2.1, v.2.2.2.2.2.1, v.2.2.2.2.2.2))
theorem ratio_compare_g2 (C : ratio_compare_C) (v : ratio_compare_Y1) : treg tysT (orc (ratio_compare_tab C)) 19 (regO (bodyOf f112) 2) false [(2, .any), (3, .any), (5, .any), (12, .any)] (ratio_compare_S1 v) some = (ratio_compare_r2 C v).eval fun y => some (ratio_compare_S2 y) := by kernel_rfl
abbrev ratio_compare_Y3 : Type := Int
def ratio_compare_S3 (v : ratio_compare_Y3) : St := ⟨[(4, .int .i64 v)], []⟩
def ratio_compare_r3 (C : ratio_compare_C) (v : ratio_compare_Y2) : Dt ratio_compare_Y3 := (Dt.ret v.1)
theorem ratio_compare_g3 (C : ratio_compare_C) (v : ratio_compare_Y2) : treg tysT (orc (ratio_compare_tab C)) 19 (regO (bodyOf f112) 3) false [(4, .any)] (ratio_compare_S2 v) some = (ratio_compare_r3 C v).eval fun y => some (ratio_compare_S3 y) := by kernel_rfl
def ratio_compare_r4 (C : ratio_compare_C) (v : ratio_compare_Y2) : Dt ratio_compare_Y3 := (Dt.bnd (C.1 ((v.2.2.2.2.1, ()), (v.2.2.2.2.2.2.2, ()), ())) fun r1 => (Dt.ret r1))
theorem ratio_compare_g4 (C : ratio_compare_C) (v : ratio_compare_Y2) : treg tysT (orc (ratio_compare_tab C)) 19 (regO (bodyOf f112) 4) false [(4, .any)] (ratio_compare_S2 v) some = (ratio_compare_r4 C v).eval fun y => some (ratio_compare_S3 y) := by kernel_rfl
def F_ratio_compare (d : Nat) (x : ratio_compare_X) : Option ratio_compare_R :=
  (ratio_compare_r0 (ratio_compare_K d) (x.1.1, x.1.2.1, x.1.2.2.1, x.2.1.1, x.2.1.2.1, x.2.1.2.2.1)).eval fun y0 =>
  (ratio_compare_r1 (ratio_compare_K d) y0).eval fun y1 =>
  (ratio_compare_r2 (ratio_compare_K d) y1).eval fun y2 =>
  bif y2.2.1 then ((ratio_compare_r3 (ratio_compare_K d) y2).eval fun y3 =>
  some y3) else ((ratio_compare_r4 (ratio_compare_K d) y2).eval fun y4 =>
  some y4)
theorem ratio_compare_cok (d : Nat) : COK prog (ratio_compare_sp (F_ratio_compare d)) := by
  have hm : prog.follows .mixedOrders = true := mixed
  have hT := tys
  have hC0 : OrcOK prog (orc (ratio_compare_tab (ratio_compare_K d))) := orc_ok (by
    intro S hS
    simp only [ratio_compare_tab, List.mem_cons, List.not_mem_nil, or_false] at hS
    subst hS; exact cmp_Compare_uint64_cok d)
  have hC : OrcOK prog (orc (ratio_compare_tab (ratio_compare_K d))) := hC0
  refine cok_of (c := bodyOf f112) (fn := f112) hT (by kernel_rfl) (by kernel_rfl) (by decide) fun x r h w0 φ0 Q hend => ?_
  replace h : F_ratio_compare d x = some r := h
  unfold F_ratio_compare at h
  show Run prog w0 φ0 19 (bodyOf f112) ⟨[(0, .agg [.bool x.1.1, .int .u64 x.1.2.1, .int .u64 x.1.2.2.1]), (1, .agg [.bool x.2.1.1, .int .u64 x.2.1.2.1, .int .u64 x.2.1.2.2.1])], []⟩ Q
  refine run_seq ?_
  refine run_reg hm hT hC (ratio_compare_g0 (ratio_compare_K d) (x.1.1, x.1.2.1, x.1.2.2.1, x.2.1.1, x.2.1.2.1, x.2.1.2.2.1)) h ?_
  intro y0 h
  refine cn_then ?_
  refine run_seq ?_
  refine run_seq ?_
  refine run_reg hm hT hC (ratio_compare_g1 (ratio_compare_K d) y0) h ?_
  intro y1 h
  refine cn_then ?_
  refine run_seq ?_
  refine run_reg hm hT hC (ratio_compare_g2 (ratio_compare_K d) y1) h ?_
  intro y2 h
  refine cn_then ?_
  refine run_cond (v := y2.2.1) (by kernel_rfl) h ?_ ?_
  ·
    intro h
    refine run_seq ?_
    refine run_reg hm hT hC (ratio_compare_g3 (ratio_compare_K d) y2) h ?_
    intro y3 h
    refine cn_then ?_
    refine run_ret ?_
    refine cn_then_ret ?_
    cases h
    exact (hend _ (by kernel_rfl)).2
  ·
    intro h
    refine run_skip ?_
    refine cn_then ?_
    refine run_seq ?_
    refine run_reg hm hT hC (ratio_compare_g4 (ratio_compare_K d) y2) h ?_
    intro y4 h
    refine cn_then ?_
    refine run_ret ?_
    cases h
    exact (hend _ (by kernel_rfl)).2
abbrev ratio_Cmp_ps : List Pk := [.row Rii true, .row Rii true]
abbrev ratio_Cmp_X : Type := Dii × Dii × Unit
abbrev ratio_Cmp_R : Type := Int × Int
def ratio_Cmp_enc (r : ratio_Cmp_R) : LV × List Ob := (.tup [.int .i64 r.1, .int .i64 r.2], [])
def ratio_Cmp_sp (F : ratio_Cmp_X → Option ratio_Cmp_R) : Go.Tx.Spec := ⟨75, ratio_Cmp_ps, ratio_Cmp_R, F, ratio_Cmp_enc⟩
abbrev ratio_Cmp_C : Type := (ratio_both_X → Option ratio_both_R) × (cmp_Compare_int64_X → Option cmp_Compare_int64_R) × (ratio_compare_X → Option ratio_compare_R) × (ratio_times_X → Option ratio_times_R) × Unit
def ratio_Cmp_K (d : Nat) : ratio_Cmp_C := (F_ratio_both d, F_cmp_Compare_int64 d, F_ratio_compare d, F_ratio_times d, ())
def ratio_Cmp_tab (C : ratio_Cmp_C) : List Go.Tx.Spec := [ratio_both_sp C.1, cmp_Compare_int64_sp C.2.1, ratio_compare_sp C.2.2.1, ratio_times_sp C.2.2.2.1]
abbrev ratio_Cmp_Y0i : Type := Int × Int × Int × Int
def ratio_Cmp_S0i (v : ratio_Cmp_Y0i) : St := ⟨[(0, .agg [.int .i64 v.1, .int .i64 v.2.1]), (1, .agg [.int .i64 v.2.2.1, .int .i64 v.2.2.2])], []⟩
abbrev ratio_Cmp_Y0 : Type := Int × Int × Int × Int
def ratio_Cmp_S0 (v : ratio_Cmp_Y0) : St := ⟨[(2, .ptr 0 0), (3, .ptr 1 0)], [.cells [.int .i64 v.1, .int .i64 v.2.1], .cells [.int .i64 v.2.2.1, .int .i64 v.2.2.2]]⟩
def ratio_Cmp_r0 (C : ratio_Cmp_C) (v : ratio_Cmp_Y0i) : Dt ratio_Cmp_Y0 := (Dt.ret (v.1, v.2.1, v.2.2.1, v.2.2.2))
theorem ratio_Cmp_g0 (C : ratio_Cmp_C) (v : ratio_Cmp_Y0i) : treg tysT (orc (ratio_Cmp_tab C)) 43 (regO (bodyOf f75) 0) false [(2, .any), (3, .any)] (ratio_Cmp_S0i v) some = (ratio_Cmp_r0 C v).eval fun y => some (ratio_Cmp_S0 y) := by kernel_rfl
abbrev ratio_Cmp_Y1 : Type := Int × Int × Int × Int × Int
def ratio_Cmp_S1 (v : ratio_Cmp_Y1) : St := ⟨[(2, .ptr 0 0), (3, .ptr 1 0), (6, .int .i64 v.1)], [.cells [.int .i64 v.2.1, .int .i64 v.2.2.1], .cells [.int .i64 v.2.2.2.1, .int .i64 v.2.2.2.2]]⟩
def ratio_Cmp_r1 (C : ratio_Cmp_C) (v : ratio_Cmp_Y0) : Dt ratio_Cmp_Y1 := (Dt.bnd (C.1 ((v.1, v.2.1, ()), (v.2.2.1, v.2.2.2, ()), ())) fun r1 => (Dt.ret (r1, v.1, v.2.1, v.2.2.1, v.2.2.2)))
theorem ratio_Cmp_g1 (C : ratio_Cmp_C) (v : ratio_Cmp_Y0) : treg tysT (orc (ratio_Cmp_tab C)) 43 (regO (bodyOf f75) 1) false [(2, .any), (3, .any), (6, .any)] (ratio_Cmp_S0 v) some = (ratio_Cmp_r1 C v).eval fun y => some (ratio_Cmp_S1 y) := by kernel_rfl
abbrev ratio_Cmp_Y2 : Type := Int × Bool × Int × Int × Int × Int
def ratio_Cmp_S2 (v : ratio_Cmp_Y2) : St := ⟨[(2, .ptr 0 0), (3, .ptr 1 0), (6, .int .i64 v.1), (12, .bool v.2.1)], [.cells [.int .i64 v.2.2.1, .int .i64 v.2.2.2.1], .cells [.int .i64 v.2.2.2.2.1, .int .i64 v.2.2.2.2.2]]⟩
def ratio_Cmp_r2 (C : ratio_Cmp_C) (v : ratio_Cmp_Y1) : Dt ratio_Cmp_Y2 := (Dt.ret (v.1, (v.1 != (0:Int)), v.2.1, v.2.2.1, v.2.2.2.1, v.2.2.2.2))
theorem ratio_Cmp_g2 (C : ratio_Cmp_C) (v : ratio_Cmp_Y1) : treg tysT (orc (ratio_Cmp_tab C)) 43 (regO (bodyOf f75) 2) false [(2, .any), (3, .any), (6, .any), (12, .any)] (ratio_Cmp_S1 v) some = (ratio_Cmp_r2 C v).eval fun y => some (ratio_Cmp_S2 y) := by kernel_rfl
abbrev ratio_Cmp_Y3 : Type := Int × Int
def ratio_Cmp_S3 (v : ratio_Cmp_Y3) : St := ⟨[(4, .int .i64 v.1), (5, .int .i64 v.2)], []⟩
def ratio_Cmp_r3 (C : ratio_Cmp_C) (v : ratio_Cmp_Y2) : Dt ratio_Cmp_Y3 := (Dt.ret ((0:Int), v.1))
theorem ratio_Cmp_g3 (C : ratio_Cmp_C) (v : ratio_Cmp_Y2) : treg tysT (orc (ratio_Cmp_tab C)) 43 (regO (bodyOf f75) 3) false [(4, .any), (5, .any)] (ratio_Cmp_S2 v) some = (ratio_Cmp_r3 C v).eval fun y => some (ratio_Cmp_S3 y) := by kernel_rfl
abbrev ratio_Cmp_Y4 : Type := Bool × Int × Int × Int × Int
def ratio_Cmp_S4 (v : ratio_Cmp_Y4) : St := ⟨[(2, .ptr 0 0), (3, .ptr 1 0), (20, .bool v.1)], [.cells [.int .i64 v.2.1, .int .i64 v.2.2.1], .cells [.int .i64 v.2.2.2.1, .int .i64 v.2.2.2.2]]⟩
def ratio_Cmp_r4 (C : ratio_Cmp_C) (v : ratio_Cmp_Y2) : Dt ratio_Cmp_Y4 := (Dt.ret ((!((decide (v.2.2.1 < (0:Int))) == (decide (v.2.2.2.2.1 < (0:Int))))), v.2.2.1, v.2.2.2.1, v.2.2.2.2.1, v.2.2.2.2.2))
theorem ratio_Cmp_g4 (C : ratio_Cmp_C) (v : ratio_Cmp_Y2) : treg tysT (orc (ratio_Cmp_tab C)) 43 (regO (bodyOf f75) 4) false [(2, .any), (3, .any), (20, .any)] (ratio_Cmp_S2 v) some = (ratio_Cmp_r4 C v).eval fun y => some (ratio_Cmp_S4 y) := by kernel_rfl
def ratio_Cmp_r5 (C : ratio_Cmp_C) (v : ratio_Cmp_Y4) : Dt ratio_Cmp_Y3 := (Dt.bnd (C.2.1 ((v.2.1, ()), (v.2.2.2.1, ()), ())) fun r1 => (Dt.ret (r1, (0:Int))))
theorem ratio_Cmp_g5 (C : ratio_Cmp_C) (v : ratio_Cmp_Y4) : treg tysT (orc (ratio_Cmp_tab C)) 43 (regO (bodyOf f75) 5) false [(4, .any), (5, .any)] (ratio_Cmp_S4 v) some = (ratio_Cmp_r5 C v).eval fun y => some (ratio_Cmp_S3 y) := by kernel_rfl
abbrev ratio_Cmp_Y6 : Type := Int × Int × Int
def ratio_Cmp_S6 (v : ratio_Cmp_Y6) : St := ⟨[(2, .ptr 0 0), (7, .int .i64 v.1)], [.cells [.int .i64 v.2.1, .int .i64 v.2.2]]⟩
def ratio_Cmp_r6 (C : ratio_Cmp_C) (v : ratio_Cmp_Y4) : Dt ratio_Cmp_Y6 := (Dt.bnd (C.2.2.2.1 ((v.2.1, ()), (v.2.2.2.2, ()), ())) fun r1 => (Dt.bnd (C.2.2.2.1 ((v.2.2.2.1, ()), (v.2.2.1, ()), ())) fun r2 => (Dt.bnd (C.2.2.1 ((r1.1, r1.2.1, r1.2.2, ()), (r2.1, r2.2.1, r2.2.2, ()), ())) fun r3 => (Dt.ret (r3, v.2.1, v.2.2.1)))))
theorem ratio_Cmp_g6 (C : ratio_Cmp_C) (v : ratio_Cmp_Y4) : treg tysT (orc (ratio_Cmp_tab C)) 43 (regO (bodyOf f75) 6) true [(2, .any), (7, .any)] (ratio_Cmp_S4 v) some = (ratio_Cmp_r6 C v).eval fun y => some (ratio_Cmp_S6 y) := by kernel_rfl
abbrev ratio_Cmp_Y7 : Type := Int × Bool
def ratio_Cmp_S7 (v : ratio_Cmp_Y7) : St := ⟨[(7, .int .i64 v.1), (39, .bool v.2)], []⟩
def ratio_Cmp_r7 (C : ratio_Cmp_C) (v : ratio_Cmp_Y6) : Dt ratio_Cmp_Y7 := (Dt.ret (v.1, (decide (v.2.1 < (0:Int)))))
theorem ratio_Cmp_g7 (C : ratio_Cmp_C) (v : ratio_Cmp_Y6) : treg tysT (orc (ratio_Cmp_tab C)) 43 (regO (bodyOf f75) 7) false [(7, .any), (39, .any)] (ratio_Cmp_S6 v) some = (ratio_Cmp_r7 C v).eval fun y => some (ratio_Cmp_S7 y) := by kernel_rfl
abbrev ratio_Cmp_Y8 : Type := Int
def ratio_Cmp_S8 (v : ratio_Cmp_Y8) : St := ⟨[(7, .int .i64 v)], []⟩
def ratio_Cmp_r8 (C : ratio_Cmp_C) (v : ratio_Cmp_Y7) : Dt ratio_Cmp_Y8 := (Dt.ret (IntKind.wrap .i64 (0 - v.1)))
theorem ratio_Cmp_g8 (C : ratio_Cmp_C) (v : ratio_Cmp_Y7) : treg tysT (orc (ratio_Cmp_tab C)) 43 (regO (bodyOf f75) 8) false [(7, .any)] (ratio_Cmp_S7 v) some = (ratio_Cmp_r8 C v).eval fun y => some (ratio_Cmp_S8 y) := by kernel_rfl
def ratio_Cmp_r9 (C : ratio_Cmp_C) (v : ratio_Cmp_Y8) : Dt ratio_Cmp_Y3 := (Dt.ret (v, (0:Int)))
theorem ratio_Cmp_g9 (C : ratio_Cmp_C) (v : ratio_Cmp_Y8) : treg tysT (orc (ratio_Cmp_tab C)) 43 (regO (bodyOf f75) 9) false [(4, .any), (5, .any)] (ratio_Cmp_S8 v) some = (ratio_Cmp_r9 C v).eval fun y => some (ratio_Cmp_S3 y) := by kernel_rfl
def ratio_Cmp_J1  (d : Nat)  (z : Int) : Option (ratio_Cmp_R) :=
  (ratio_Cmp_r9 (ratio_Cmp_K d) z).eval fun y9 =>
  some y9
def F_ratio_Cmp (d : Nat) (x : ratio_Cmp_X) : Option ratio_Cmp_R :=
  (ratio_Cmp_r0 (ratio_Cmp_K d) (x.1.1, x.1.2.1, x.2.1.1, x.2.1.2.1)).eval fun y0 =>
  (ratio_Cmp_r1 (ratio_Cmp_K d) y0).eval fun y1 =>
  (ratio_Cmp_r2 (ratio_Cmp_K d) y1).eval fun y2 =>
  bif y2.2.1 then ((ratio_Cmp_r3 (ratio_Cmp_K d) y2).eval fun y3 =>
  some y3) else ((ratio_Cmp_r4 (ratio_Cmp_K d) y2).eval fun y4 =>
  bif y4.1 then ((ratio_Cmp_r5 (ratio_Cmp_K d) y4).eval fun y5 =>
  some y5) else ((ratio_Cmp_r6 (ratio_Cmp_K d) y4).eval fun y6 =>
  (ratio_Cmp_r7 (ratio_Cmp_K d) y6).eval fun y7 =>
  bif y7.2 then ((ratio_Cmp_r8 (ratio_Cmp_K d) y7).eval fun y8 =>
  ratio_Cmp_J1 d  y8) else (ratio_Cmp_J1 d  y7.1)))
theorem ratio_Cmp_cok (d : Nat) : COK prog (ratio_Cmp_sp (F_ratio_Cmp d)) := by
  have hm : prog.follows .mixedOrders = true := mixed
  have hT := tys
  have hC0 : OrcOK prog (orc (ratio_Cmp_tab (ratio_Cmp_K d))) := orc_ok (by
    intro S hS
    simp only [ratio_Cmp_tab, List.mem_cons, List.not_mem_nil, or_false] at hS
    rcases hS with rfl | rfl | rfl | rfl
    · exact ratio_both_cok d
    · exact cmp_Compare_int64_cok d
    · exact ratio_compare_cok d
    · exact ratio_times_cok d)
  have hC : OrcOK prog (orc (ratio_Cmp_tab (ratio_Cmp_K d))) := hC0
  refine cok_of (c := bodyOf f75) (fn := f75) hT (by kernel_rfl) (by kernel_rfl) (by decide) fun x r h w0 φ0 Q hend => ?_
  replace h : F_ratio_Cmp d x = some r := h
  unfold F_ratio_Cmp at h
  show Run prog w0 φ0 43 (bodyOf f75) ⟨[(0, .agg [.int .i64 x.1.1, .int .i64 x.1.2.1]), (1, .agg [.int .i64 x.2.1.1, .int .i64 x.2.1.2.1])], []⟩ Q
  refine run_seq ?_
  refine run_reg hm hT hC (ratio_Cmp_g0 (ratio_Cmp_K d) (x.1.1, x.1.2.1, x.2.1.1, x.2.1.2.1)) h ?_
  intro y0 h
  refine cn_then ?_
  refine run_seq ?_
  refine run_seq ?_
  refine run_reg hm hT hC (ratio_Cmp_g1 (ratio_Cmp_K d) y0) h ?_
  intro y1 h
  refine cn_then ?_
  refine run_seq ?_
  refine run_reg hm hT hC (ratio_Cmp_g2 (ratio_Cmp_K d) y1) h ?_
  intro y2 h
  refine cn_then ?_
  refine run_cond (v := y2.2.1) (by kernel_rfl) h ?_ ?_
  ·
    intro h
    refine run_seq ?_
    refine run_reg hm hT hC (ratio_Cmp_g3 (ratio_Cmp_K d) y2) h ?_
    intro y3 h
    refine cn_then ?_
    refine run_ret ?_
    refine cn_then_ret ?_
    cases h
    exact (hend _ (by kernel_rfl)).2
  ·
    intro h
    refine run_skip ?_
    refine cn_then ?_
    refine run_seq ?_
    refine run_seq ?_
    refine run_reg hm hT hC (ratio_Cmp_g4 (ratio_Cmp_K d) y2) h ?_
    intro y4 h
    refine cn_then ?_
    refine run_cond (v := y4.1) (by kernel_rfl) h ?_ ?_
    ·
      intro h
      refine run_seq ?_
      refine run_reg hm hT hC (ratio_Cmp_g5 (ratio_Cmp_K d) y4) h ?_
      intro y5 h
      refine cn_then ?_
      refine run_ret ?_
      refine cn_then_ret ?_
      cases h
      exact (hend _ (by kernel_rfl)).2
    ·
      intro h
      refine run_skip ?_
      refine cn_then ?_
      refine run_seq ?_
      refine run_reg hm hT hC (ratio_Cmp_g6 (ratio_Cmp_K d) y4) h ?_
      intro y6 h
      refine cn_then ?_
      refine run_join (r := r) (F := ratio_Cmp_J1 d ) (S := (fun z => ⟨[(7, .int .i64 z)], []⟩ : Int → St)) ?_ ?_
      ·
        intro z h
        unfold ratio_Cmp_J1 at h
        refine run_seq ?_
        refine run_reg hm hT hC (ratio_Cmp_g9 (ratio_Cmp_K d) z) h ?_
        intro y9 h
        refine cn_then ?_
        refine run_ret ?_
        cases h
        exact (hend _ (by kernel_rfl)).2
      intro hj1
      refine run_seq ?_
      refine run_reg hm hT hC (ratio_Cmp_g7 (ratio_Cmp_K d) y6) h ?_
      intro y7 h
      refine cn_then ?_
      refine run_cond (v := y7.2) (by kernel_rfl) h ?_ ?_
      ·
        intro h
        refine run_reg hm hT hC (ratio_Cmp_g8 (ratio_Cmp_K d) y7) h ?_
        intro y8 h
        exact hj1 _ h
      ·
        intro h
        refine run_skip ?_
        refine cn_num (s := ⟨[(7, .int .i64 y7.1)], []⟩) [39] (by kernel_rfl) ?_
        exact hj1 _ h
end Go.Proofs.Ytmagihjfbembjaa

namespace Go.Tx
open Go
/-- a closure that changes a captured slice -/
structure WSpec where
  g : FuncId
  τ1 : List Pk
  τ2 : List Pk
  σ : Row
  F : dens τ1 → dens τ2 → List (den σ) → Option (List (den σ))
/-- the memory at the call: the variable, the row -/
def wmem {σ : Row} (xs : List (den σ)) : LH := heapOf [.cells [.rs 1], .rows σ xs]
structure COKW (P : Program) (S : WSpec) : Prop where
  ok : ∀ x1 x2 xs ys, S.F x1 x2 xs = some ys → ∀ (w : World) (η : Emb) (vs : List Value), (∀ M, HR M η (wmem xs) w) → VRs η (argsOf S.τ1 x1 ++ .ptr 0 0 :: argsOf S.τ2 x2) vs →
    Calls P S.g vs.toArray w fun e w' => ∃ η' H' m, e = .returned (.tuple #[]) ∧ Adv 1000 (wmem xs) η w H' η' w' ∧ H'.get 0 = some (.cells [.rs m]) ∧ H'.get m = some (.rows S.σ ys) ∧ m ≠ 0
  body : HasBody P S.g
section
variable {P : Program} {M : Nat} {H : LH} {η : Emb} {w : World}
theorem wmem_obs {σ : Row} {xs : List (den σ)} {b n : Nat} (hb : H.get b = some (.cells [.rs n])) (hn : H.get n = some (.rows σ xs)) (hne : b ≠ n) : renObs H [b, n] [b, n] = some [.cells [.rs 1], .rows σ xs] := by
  have i0 : idx [b, n] 0 n = some 1 := by
    unfold idx
    have : Nat.beq b n = false := by cases h : Nat.beq b n with | false => rfl | true => exact (hne (Nat.eq_of_beq_eq_true h)).elim
    simp [idx, this]
  simp [renObs, hb, hn, renOb, rens, ren, i0]
theorem wplace_get {σ : Row} {ys : List (den σ)} {b n k : Nat} {ob : Ob} (h : (((H.put n none).put b (some (.cells [.rs H.next]))).alloc (.rows σ ys)).get k = some ob) : (k = H.next ∧ ob = .rows σ ys) ∨ (k ≠ H.next ∧ k = b ∧ ob = .cells [.rs H.next]) ∨ (k ≠ H.next ∧ k ≠ b ∧ k ≠ n ∧ H.get k = some ob) := by
  rw [LH.get_alloc] at h
  have e : ((H.put n none).put b (some (.cells [.rs H.next]))).next = H.next := rfl
  rw [e] at h
  split at h
  · rename_i h1; injection h with h; exact .inl ⟨h1, h.symm⟩
  · rename_i h1
    rw [LH.get_put] at h
    split at h
    · rename_i h2; injection h with h; exact .inr (.inl ⟨h1, h2, h.symm⟩)
    · rename_i h2
      rw [LH.get_put] at h
      split at h
      · cases h
      · rename_i h3; exact .inr (.inr ⟨h1, h2, h3, h⟩)
theorem clo_sound {S : WSpec} (hS : COKW P S) (hp : plainR S.σ = true) {a1 a2 : List LV} {b n : Nat} {xs ys : List (den S.σ)} {x1 : dens S.τ1} {x2 : dens S.τ2} (h1 : decs H S.τ1 a1 = some x1) (h2 : decs H S.τ2 a2 = some x2)
    (hb : H.get b = some (.cells [.rs n])) (hn : H.get n = some (.rows S.σ xs)) (hne : b ≠ n) (hA : b ∉ deep H ((a1 ++ a2).flatMap refs1) ∧ n ∉ deep H ((a1 ++ a2).flatMap refs1)) (hF : S.F x1 x2 xs = some ys) :
    CallSound P S.g (a1 ++ .ptr b 0 :: a2) H (.tup [], ((H.put n none).put b (some (.cells [.rs H.next]))).alloc (.rows S.σ ys)) := by
  generalize hAe : deep H ((a1 ++ a2).flatMap refs1) = A at hA
  have hAm : ∀ l ∈ a1 ++ a2, ∀ k ∈ deep H (refs1 l), k ∈ A := fun l hl k hk => by rw [← hAe]; exact deep_sub (fun m hm => List.mem_flatMap.2 ⟨l, hl, hm⟩) hk
  refine ⟨((Logged.put H hn none).trans (Logged.put _ (cs0 := .cells [.rs n]) (by rw [LH.get_put, if_neg hne]; exact hb) _)).trans (Logged.alloc _ _), fun M η w vs h hM hv => ?_⟩
  have hM' : H.next < M := hM
  obtain ⟨φ, hph⟩ := phi_ex H η w A
  have hphi : ∀ k ob, φ k = some ob → w.heap[k]? = some ob := fun k ob hk => by
    rcases hph.cases k ob hk with h1 | ⟨_, _, h1⟩
    · exact h.fz k ob h1
    · exact h1
  have hnd : nodupB [b, n] = true := by
    have : Nat.beq b n = false := by cases h : Nat.beq b n with | false => rfl | true => exact (hne (Nat.eq_of_beq_eq_true h)).elim
    simp [nodupB, memB, this]
  have hsub := hr_sub hnd (wmem_obs hb hn hne) h
  -- where the variable lies
  obtain ⟨L, hL, hatL⟩ : ∃ L, η.loc b = some L ∧ At η w [.rs n] L := by
    cases h.live b _ hb with
    | cells hL ha => exact ⟨_, hL, ha⟩
  let η0 : Emb := ⟨(η.sub [b, n]).loc, (η.sub [b, n]).hdr, φ⟩
  have l0 : η0.loc 0 = η.loc b := rfl
  have l1 : η0.loc 1 = η.loc n := rfl
  have lx : ∀ k, 2 ≤ k → η0.loc k = none := fun k hk => by
    show ([b, n][k]?).bind η.loc = none
    rw [List.getElem?_eq_none (by simpa using hk)]; rfl
  have hle0 : (η.sub [b, n]).le η0 := ⟨fun _ _ h => h, fun _ _ h => h, fun k ob hk => hph.fz k ob hk⟩
  have hlb0 : ∀ k, LB (wmem xs) η0 k → ∃ j ob L', (j = b ∨ j = n) ∧ H.get j = some ob ∧ η.loc j = some L' ∧ L'.block = k := fun k ⟨j, ob, L', hj, hL', hk⟩ => by
    match j with
    | 0 => exact ⟨b, _, L', .inl rfl, hb, hL', hk⟩
    | 1 => exact ⟨n, _, L', .inr rfl, hn, hL', hk⟩
    | j + 2 => rw [lx _ (by omega)] at hL'; cases hL'
  have hlbH : ∀ k, LB (wmem xs) η0 k → LB H η k := fun k hk => let ⟨j, ob, L', _, g1, g2, g3⟩ := hlb0 k hk; ⟨j, ob, L', g1, g2, g3⟩
  have hsep0 : ∀ k, LB (wmem xs) η0 k → φ k = none := fun k hk => by
    cases hf : φ k with
    | none => rfl
    | some o =>
      exfalso
      obtain ⟨j, ob, L', hj, g1, g2, g3⟩ := hlb0 k hk
      rcases hph.cases k o hf with h3 | ⟨_, ⟨m, hm, ob', L2, m1, m2, m3⟩, _⟩
      · rw [h.sep k (hlbH k hk)] at h3; cases h3
      · have := h.inj j m _ _ _ _ g1 m1 g2 m2 (by rw [g3, m3])
        subst this
        rcases hj with rfl | rfl
        · exact hA.1 hm
        · exact hA.2 hm
  have hr0 : ∀ M, HR M η0 (wmem xs) w := fun M => ⟨(hsub M).dom, (hsub M).lt, fun j ob hj => ((hsub M).live j ob hj).move hle0 rfl (Nat.le_refl _) fun _ _ => rfl, (hsub M).inj, hphi, hsep0, (hsub M).ok⟩
  have hfro : (Emb.fro φ).le η0 := ⟨fun _ _ h => (by cases h), fun _ _ h => (by cases h), fun _ _ h => h⟩
  obtain ⟨us, v0, us2, rfl, q1, q0, q2⟩ : ∃ us v0 us2, vs = us ++ v0 :: us2 ∧ VRs η a1 us ∧ VR η (.ptr b 0) v0 ∧ VRs η a2 us2 := by
    have t1 := hv.take a1.length
    have t2 := hv.drop a1.length
    rw [List.take_left] at t1
    rw [List.drop_left] at t2
    obtain ⟨v0, us2, e, g1, g2⟩ := t2.uncons
    exact ⟨vs.take a1.length, v0, us2, by rw [← e, List.take_append_drop], t1, g1, g2⟩
  have r1 := (decs_ok h hph h1 (fun l hl => hAm l (List.mem_append_left _ hl)) q1).mono hfro
  have r2 := (decs_ok h hph h2 (fun l hl => hAm l (List.mem_append_right _ hl)) q2).mono hfro
  have r0 : VR η0 (.ptr 0 0) v0 := by
    cases q0 with
    | ptr hq => exact .ptr (by rw [l0]; exact hq)
  refine Calls.mono (hS.ok x1 x2 xs ys hF w η0 _ hr0 (r1.append (VRs.cons r0 r2))) fun e w' ⟨η', H', m, e1, adv, g0, gm, hm0⟩ => ?_
  have hld : η'.loc 0 = some L := adv.le.loc 0 L (by rw [l0]; exact hL)
  have hle := h.le_put hM' (η'.loc m) (η'.hdr m)
  have hL0 : ∀ j ob L', H.get j = some ob → η.loc j = some L' → L'.block < w.heap.size := fun j ob L' g1 g2 => (h.live j ob g1).lt g2
  have hkeep : ∀ j ob, H.get j = some ob → j ≠ b → j ≠ n → ∀ L', η.loc j = some L' → ¬ LB (wmem xs) η0 L'.block := fun j ob g1 n1 n2 L' g2 hl => by
    obtain ⟨i, ob2, L2, hi, k1, k2, k3⟩ := hlb0 _ hl
    have := h.inj i j _ _ _ _ k1 g1 k2 g2 k3
    subst this
    rcases hi with hi | hi
    · exact n1 hi
    · exact n2 hi
  have hmblk : ∀ L', η'.loc m = some L' → LB (wmem xs) η0 L'.block ∨ w.heap.size ≤ L'.block := fun L' hl => adv.lb _ ⟨m, _, L', gm, hl, rfl⟩
  have hlb2 : ∀ k, LB (((H.put n none).put b (some (.cells [.rs H.next]))).alloc (.rows S.σ ys)) (η.put H.next (η'.loc m) (η'.hdr m)) k → LB H η k ∨ w.heap.size ≤ k := fun k ⟨j, ob, L', hj, hL', hk⟩ => by
    rcases wplace_get hj with ⟨rfl, _⟩ | ⟨d1, rfl, _⟩ | ⟨d1, _, _, d4⟩
    · rw [Emb.put_loc] at hL'
      rcases hmblk _ hL' with t | t
      · exact .inl (hk ▸ hlbH _ t)
      · exact .inr (hk ▸ t)
    · rw [(η.put_ne _ _ d1).1] at hL'; exact .inl ⟨j, _, L', hb, hL', hk⟩
    · rw [(η.put_ne _ _ d1).1] at hL'; exact .inl ⟨j, _, L', d4, hL', hk⟩
  refine ⟨.tuple #[], η.put H.next (η'.loc m) (η'.hdr m), e1, .tup (cs := []) (vs := []) rfl (fun i c v hc => by simp at hc), hle, fun j hj => η.put_ne _ _ (by
      have hnx : (((H.put n none).put b (some (.cells [.rs H.next]))).alloc (.rows S.σ ys)).next = H.next + 1 := rfl
      rw [hnx] at hj; omega), Nat.le_succ _, ⟨fun j hj hjM => ?_, fun j ob hj => ?_, fun j ob hj => ?_, fun j1 j2 o1 o2 L1 L2 k1 k2 t1 t2 he => ?_, fun k ob hk => ?_, fun k hk => ?_, fun j v hj => ?_⟩, adv.size, fun k hk hl => adv.same k hk fun hl0 => hl (hlbH k hl0), hlb2, fun k ob hk => .inl hk, adv.os, adv.tape, adv.output, adv.drawn⟩
  · have hj' : H.next + 1 ≤ j := hj
    have := η.put_ne (η'.loc m) (η'.hdr m) (show j ≠ H.next by omega)
    rw [this.1, this.2]; exact h.dom j (by omega) hjM
  · show j < H.next + 1
    rcases wplace_get hj with ⟨rfl, _⟩ | ⟨_, rfl, _⟩ | ⟨_, _, _, d4⟩
    · omega
    · have := h.lt j _ hb; omega
    · have := h.lt j _ d4; omega
  · rcases wplace_get hj with ⟨rfl, rfl⟩ | ⟨d1, rfl, rfl⟩ | ⟨d1, d2, d3, d4⟩
    · cases adv.hr.live m _ gm with
      | rows k1 k2 k3 k4 k5 => exact .rows (by rw [Emb.put_loc]; exact k1) (at_any hp k2) (by rw [Emb.put_hdr]; exact k3) k4 k5
      | none k1 k2 => exact .none (by rw [Emb.put_loc]; exact k1) (by rw [Emb.put_hdr]; exact k2)
    · cases adv.hr.live 0 _ g0 with
      | cells k1 k2 =>
        rw [hld] at k1; injection k1 with k1; subst k1
        refine .cells (by rw [(η.put_ne _ _ d1).1]; exact hL) ⟨k2.lt, k2.fits, k2.there, fun i c hc => ?_⟩
        cases i with
        | zero =>
          simp only [List.getElem?_cons_zero, Option.some.injEq] at hc; subst hc
          obtain ⟨v, s1, s2⟩ := k2.cell 0 _ rfl
          cases s2 with
          | rs s3 => exact ⟨v, s1, .rs (by rw [Emb.put_hdr]; exact s3)⟩
        | succ i => simp at hc
    · exact (h.live j ob d4).move hle (η.put_ne _ _ d1).1 adv.size fun L' hL' => adv.same _ (hL0 _ _ _ d4 hL') (hkeep _ _ d4 d2 d3 L' hL')
  · have other : ∀ j ob L', j ≠ H.next → (j = b ∨ (j ≠ b ∧ j ≠ n ∧ H.get j = some ob)) → η.loc j = some L' → ∀ L2, η'.loc m = some L2 → L'.block ≠ L2.block := fun j ob L' _ hj t L2 hm2 he => by
      rcases hj with rfl | ⟨c1, c2, c3⟩
      · rw [hL] at t; injection t with t; subst t
        have := adv.hr.inj 0 m _ _ _ _ g0 gm hld hm2 he
        exact hm0 this.symm
      · rcases hmblk _ hm2 with t2 | t2
        · rw [← he] at t2; exact hkeep j ob c3 c1 c2 L' t t2
        · have := hL0 _ _ _ c3 t; omega
    rcases wplace_get k1 with ⟨rfl, _⟩ | ⟨d1, d2, _⟩ | ⟨d1, d2, d3, d4⟩ <;> rcases wplace_get k2 with ⟨rfl, _⟩ | ⟨c1, c2, _⟩ | ⟨c1, c2, c3, c4⟩
    · rfl
    · rw [Emb.put_loc] at t1; rw [(η.put_ne _ _ c1).1] at t2
      exact absurd he.symm (other j2 o2 L2 c1 (.inl c2) t2 L1 t1)
    · rw [Emb.put_loc] at t1; rw [(η.put_ne _ _ c1).1] at t2
      exact absurd he.symm (other j2 o2 L2 c1 (.inr ⟨c2, c3, c4⟩) t2 L1 t1)
    · rw [Emb.put_loc] at t2; rw [(η.put_ne _ _ d1).1] at t1
      exact absurd he (other j1 o1 L1 d1 (.inl d2) t1 L2 t2)
    · rw [d2, c2]
    · subst d2
      rw [(η.put_ne _ _ d1).1] at t1; rw [(η.put_ne _ _ c1).1] at t2
      exact h.inj _ _ _ _ _ _ hb c4 t1 t2 he
    · rw [Emb.put_loc] at t2; rw [(η.put_ne _ _ d1).1] at t1
      exact absurd he (other j1 o1 L1 d1 (.inr ⟨d2, d3, d4⟩) t1 L2 t2)
    · subst c2
      rw [(η.put_ne _ _ d1).1] at t1; rw [(η.put_ne _ _ c1).1] at t2
      exact h.inj _ _ _ _ _ _ d4 hb t1 t2 he
    · rw [(η.put_ne _ _ d1).1] at t1; rw [(η.put_ne _ _ c1).1] at t2
      exact h.inj _ _ _ _ _ _ d4 c4 t1 t2 he
  · exact adv.hr.fz k ob (adv.le.fz k ob (hph.fz k ob hk))
  · show η.fz k = none
    rcases hlb2 k hk with t | t
    · exact h.sep k t
    · cases hf : η.fz k with
      | none => rfl
      | some o => have := (Array.getElem?_eq_some_iff.1 (h.fz k o hf)).1; omega
  · by_cases he : j = H.next
    · subst he; rw [Emb.put_hdr] at hj; exact adv.hr.ok m v hj
    · rw [(η.put_ne _ _ he).2] at hj; exact h.ok j v hj
/-- calls of such a closure, told ahead -/
def orcW (S : WSpec) (C : Orc) : Orc := fun h args H =>
  bif Nat.beq h S.g then (match args.drop S.τ1.length with
    | .ptr b 0 :: a2 => (match H.get b with
      | some (.cells [.rs n]) => (match H.get n with
        | some (.rows σ xs) => if e : σ = S.σ then (match decs H S.τ1 (args.take S.τ1.length), decs H S.τ2 a2 with
          | some x1, some x2 => bif Nat.beq b n || memB (deep H ((args.take S.τ1.length ++ a2).flatMap refs1)) b || memB (deep H ((args.take S.τ1.length ++ a2).flatMap refs1)) n then none else
            some ⟨List (den S.σ), S.F x1 x2 (e ▸ xs), fun ys => (.tup [], ((H.put n none).put b (some (.cells [.rs H.next]))).alloc (.rows S.σ ys))⟩
          | _, _ => none) else none
        | _ => none)
      | _ => none)
    | _ => none) else C h args H
theorem orcW_ok {S : WSpec} (hS : COKW P S) (hp : plainR S.σ = true) {C : Orc} (hC : OrcOK P C) : OrcOK P (orcW S C) := by
  refine ⟨fun h args H p x hp' hx => ?_⟩
  unfold orcW at hp'
  rw [Bool.cond_eq_ite] at hp'
  split at hp'
  · rename_i he
    have he := Nat.eq_of_beq_eq_true he
    subst he
    split at hp'
    · rename_i b a2 hdr
      split at hp'
      · rename_i n hb
        split at hp'
        · rename_i σ xs hn
          split at hp'
          · rename_i e
            subst e
            split at hp'
            · rename_i x1 x2 d1 d2
              rw [Bool.cond_eq_ite] at hp'
              split at hp'
              · cases hp'
              · rename_i hc
                injection hp' with hp'
                subst hp'
                simp only [Bool.or_eq_true, not_or] at hc
                obtain ⟨⟨c1, c2⟩, c3⟩ := hc
                have hargs : args = args.take S.τ1.length ++ .ptr b 0 :: a2 := by rw [← hdr, List.take_append_drop]
                refine .inl ⟨?_, hS.body⟩
                have := clo_sound hS hp d1 d2 hb hn (fun hbn => c1 (by rw [hbn]; simp)) ⟨fun hm => c2 (memB_iff.2 hm), fun hm => c3 (memB_iff.2 hm)⟩ hx
                rw [← hargs] at this
                exact this
            · cases hp'
          · cases hp'
        · cases hp'
      · cases hp'
    · cases hp'
  · exact hC.call h args H p x hp' hx
end
/-- runs of a body without loops, on one memory -/
def RunA (P : Program) (N M : Nat) (H0 : LH) (η0 : Emb) (w0 : World) (c : Code) (t : Mem) (H : LH) (Q : Exit → Act → World → Prop) : Prop := ∀ a w η, SR M N [] η t H a w → Adv M H0 η0 w0 H η w → c.wp P Q a w
def CnA (N M : Nat) (H0 : LH) (η0 : Emb) (w0 : World) (t : Mem) (H : LH) (Q : Exit → Act → World → Prop) (e : Exit) : Prop := ∀ a w η, SR M N [] η t H a w → Adv M H0 η0 w0 H η w → Q e a w
section
variable {P : Program} {T : Tys} {C : Orc} {M N : Nat} {H0 : LH} {η0 : Emb} {w0 : World} {Q : Exit → Act → World → Prop} {t : Mem} {H : LH}
theorem cnA_then {c : Code} (h : RunA P N M H0 η0 w0 c t H Q) : CnA N M H0 η0 w0 t H (Exit.then (c.wp P Q) Q) .normal := h
theorem cnA_then_ret {K : Act → World → Prop} (h : CnA N M H0 η0 w0 t H Q .ret) : CnA N M H0 η0 w0 t H (Exit.then K Q) .ret := h
theorem cnA_sco (h : CnA N M H0 η0 w0 t H Q .normal) : CnA N M H0 η0 w0 t H (Exit.noGoto Q) .normal := h
theorem cnA_sco_ret (h : CnA N M H0 η0 w0 t H Q .ret) : CnA N M H0 η0 w0 t H (Exit.noGoto Q) .ret := h
theorem runA_skip (h : CnA N M H0 η0 w0 t H Q .normal) : RunA P N M H0 η0 w0 .skip t H Q := fun a w η hs ha => wp_skip (h a w η hs ha)
theorem runA_label {l : Nat} (h : CnA N M H0 η0 w0 t H Q .normal) : RunA P N M H0 η0 w0 (.label l) t H Q := fun a w η hs ha => wp_label (h a w η hs ha)
theorem runA_ret (h : CnA N M H0 η0 w0 t H Q .ret) : RunA P N M H0 η0 w0 .ret t H Q := fun a w η hs ha => wp_ret (h a w η hs ha)
theorem runA_seq {x y : Code} (h : RunA P N M H0 η0 w0 x t H (Exit.then (y.wp P Q) Q)) : RunA P N M H0 η0 w0 (.seq x y) t H Q := fun a w η hs ha => wp_seq (h a w η hs ha)
theorem runA_scope {c : Code} (h : RunA P N M H0 η0 w0 c t H (Exit.noGoto Q)) : RunA P N M H0 η0 w0 (.scope c) t H Q := fun a w η hs ha => wp_scope_straight (h a w η hs ha)
theorem runA_cond {v : Bool} {c : Operand} {x y : Code} (hc : xev t c = .bool v) (ht : v = true → RunA P N M H0 η0 w0 x t H Q) (hf : v = false → RunA P N M H0 η0 w0 y t H Q) : RunA P N M H0 η0 w0 (.cond c x y) t H Q := fun a w η hs ha => by
  have hv := xev_ok hs.tr c
  rw [hc] at hv
  have hcv : a.eval c = .bool v := by
    generalize a.eval c = u at hv
    cases hv; rfl
  refine wp_cond hcv ?_
  cases v with
  | true => exact ht rfl a w η hs ha
  | false => exact hf rfl a w η hs ha
/-- what holds where a closure's body ends -/
def EndA (N : Nat) {σ : Row} (xs ys : List (den σ)) (η0 : Emb) (w0 : World) (Q : Exit → Act → World → Prop) : Prop :=
  ∀ t H m, H.get 0 = some (.cells [.rs m]) → H.get m = some (.rows σ ys) → m ≠ 0 → CnA N 1000 (wmem xs) η0 w0 t H Q .normal ∧ CnA N 1000 (wmem xs) η0 w0 t H Q .ret
theorem cokw_of {S : WSpec} {fn : Func} {c : Code} (hfn : P.funcs[S.g]? = some fn) (hc : fn.body = some c) (hname : ¬ fn.name = "runtime.NumGoroutine") (hres : fn.results = #[])
    (h : ∀ x1 x2 xs ys, S.F x1 x2 xs = some ys → ∀ η0 w0 Q, EndA fn.ntmps xs ys η0 w0 Q → RunA P fn.ntmps 1000 (wmem xs) η0 w0 c (memOf (nums 0 (argsOf S.τ1 x1 ++ .ptr 0 0 :: argsOf S.τ2 x2)) .lf) (wmem xs) Q) : COKW P S := by
  refine ⟨fun x1 x2 xs ys hx w η vs hr hv => ?_, fn, c, hfn, hc, hname⟩
  refine calls_of_wp hfn hc ?_
  refine h x1 x2 xs ys hx η w _ (fun t H m g0 gm hm => ?_) _ w η ⟨hr 1000, fun n l hl => ?_, ?_, rfl⟩ (Adv.refl (hr 1000))
  · have fin : ∀ a w', (∃ η', SR 1000 fn.ntmps [] η' t H a w' ∧ Adv 1000 (wmem xs) η w H η' w') → a.defers = [] ∧ ∃ v, (results fn a.tmps).run P w' = .ok v w' ∧ ∃ η' H' m, (Ending.returned v) = .returned (.tuple #[]) ∧ Adv 1000 (wmem xs) η w H' η' w' ∧ H'.get 0 = some (.cells [.rs m]) ∧ H'.get m = some (.rows S.σ ys) ∧ m ≠ 0 := fun a w' ⟨η', hs, ha⟩ => by
      refine ⟨hs.defers, .tuple #[], ?_, η', H, m, rfl, ha, g0, gm, hm⟩
      unfold results
      rw [hres]
      simp
    exact ⟨fun a w' η' hs ha => fin a w' ⟨η', hs, ha⟩, fun a w' η' hs ha => fin a w' ⟨η', hs, ha⟩⟩
  · rcases get_memOf _ .lf n l hl with h4 | h4
    · obtain ⟨_, h2⟩ := nums_mem _ 0 n l h4
      rw [Nat.sub_zero] at h2
      obtain ⟨v, e1, e2⟩ := hv.get h2
      refine ⟨v, ?_, e2⟩
      have hlt := (List.getElem?_eq_some_iff.1 e1).1
      rw [Array.getElem?_append_left (by simpa using hlt)]
      simpa using e1
    · rw [Tr.get_lf] at h4; cases h4
  · simp; omega
/-- the whole of a body without loops, evaluated -/
def evalA {β : Type} (T : Tys) (C : Orc) (N : Nat) : Code → Mem → LH → (Mem → LH → Option β) → (Mem → LH → Option β) → Option β
  | .skip, t, H, kn, _ => kn t H
  | .label _, t, H, kn, _ => kn t H
  | .ret, t, H, _, kr => kr t H
  | .seq x y, t, H, kn, kr => evalA T C N x t H (fun t H => evalA T C N y t H kn kr) kr
  | .scope x, t, H, kn, kr => evalA T C N x t H kn kr
  | .cond c x y, t, H, kn, kr => match xev t c with
    | .bool v => bif v then evalA T C N x t H kn kr else evalA T C N y t H kn kr
    | _ => none
  | .region _ ops true, t, H, kn, _ => tdraw T C N ops t H fun t H => bif Nat.ble H.next 1000 then kn t H else none
  | .region _ ops false, t, H, kn, _ => tops T C N ops ops.toList t H fun t H => bif Nat.ble H.next 1000 then kn t H else none
  | _, _, _, _, _ => none
theorem evalA_ok {β : Type} {b : β} (hm : P.follows .mixedOrders = true) (hT : TysOK P T) (hC : OrcOK P C) : ∀ (c : Code) (t : Mem) (H : LH) (kn kr : Mem → LH → Option β) (Q : Exit → Act → World → Prop), evalA T C N c t H kn kr = some b →
    (∀ t' H', kn t' H' = some b → CnA N 1000 H0 η0 w0 t' H' Q .normal) → (∀ t' H', kr t' H' = some b → CnA N 1000 H0 η0 w0 t' H' Q .ret) → RunA P N 1000 H0 η0 w0 c t H Q := by
  intro c
  induction c with
  | skip => intro t H kn kr Q h h1 h2; exact runA_skip (h1 t H h)
  | label l => intro t H kn kr Q h h1 h2; exact runA_label (h1 t H h)
  | ret => intro t H kn kr Q h h1 h2; exact runA_ret (h2 t H h)
  | seq x y ihx ihy =>
    intro t H kn kr Q h h1 h2
    exact runA_seq (ihx t H _ kr _ h (fun t' H' h' => cnA_then (ihy t' H' kn kr Q h' h1 h2)) fun t' H' h' => cnA_then_ret (h2 t' H' h'))
  | scope x ih =>
    intro t H kn kr Q h h1 h2
    exact runA_scope (ih t H kn kr _ h (fun t' H' h' => cnA_sco (h1 t' H' h')) fun t' H' h' => cnA_sco_ret (h2 t' H' h'))
  | cond c x y ihx ihy =>
    intro t H kn kr Q h h1 h2
    rw [evalA] at h
    split at h
    · rename_i v hv
      refine runA_cond hv (fun he => ?_) (fun he => ?_)
      · subst he; exact ihx t H kn kr Q h h1 h2
      · subst he; exact ihy t H kn kr Q h h1 h2
    · cases h
  | region id ops draw =>
    intro t H kn kr Q h h1 h2
    intro a w η hs ha
    have low : ∀ t' (H' : LH), (bif Nat.ble H'.next 1000 then kn t' H' else none) = some b → H'.next ≤ 1000 ∧ kn t' H' = some b := fun t' H' h => by
      obtain ⟨e1, e2⟩ := bif_none (A := kn t' H') h
      exact ⟨Nat.le_of_ble_eq_true e1, e2⟩
    cases draw with
    | true =>
      obtain ⟨t', H', e1, _, e3⟩ := tdraw_ok (D := []) hm hT hC h
      obtain ⟨l1, l2⟩ := low t' H' e1
      exact wp_region_any hm (e3 1000 η a w Q l1 hs fun a' w' η' hs' hadv => h1 t' H' l2 a' w' η' hs' (ha.trans hadv))
    | false =>
      obtain ⟨t', H', e1, _, e3⟩ := tops_ok (D := []) hT hC _ h
      obtain ⟨l1, l2⟩ := low t' H' e1
      exact wp_region_list (e3 1000 η a w Q l1 hs fun a' w' η' hs' hadv => h1 t' H' l2 a' w' η' hs' (ha.trans hadv))
  | _ => intro t H kn kr Q h; cases h
/-- the row at the end -/
def finA (σ : Row) (_ : Mem) (H : LH) : Option (List (den σ)) :=
  match H.get 0 with
  | some (.cells [.rs m]) => match H.get m with
    | some (.rows σ' ys) => if e : σ' = σ then (bif Nat.beq m 0 then none else some (e ▸ ys)) else none
    | _ => none
  | _ => none
theorem cokw_ev (hm : P.follows .mixedOrders = true) (hT : TysOK P T) (hC : OrcOK P C) {S : WSpec} {fn : Func} {c : Code} (hfn : P.funcs[S.g]? = some fn) (hc : fn.body = some c) (hname : ¬ fn.name = "runtime.NumGoroutine") (hres : fn.results = #[])
    (h : ∀ x1 x2 xs, evalA T C fn.ntmps c (memOf (nums 0 (argsOf S.τ1 x1 ++ .ptr 0 0 :: argsOf S.τ2 x2)) .lf) (wmem xs) (finA S.σ) (finA S.σ) = S.F x1 x2 xs) : COKW P S := by
  refine cokw_of hfn hc hname hres fun x1 x2 xs ys hx η0 w0 Q hend => ?_
  have key : ∀ t' H', finA S.σ t' H' = some ys → ∃ m, H'.get 0 = some (.cells [.rs m]) ∧ H'.get m = some (.rows S.σ ys) ∧ m ≠ 0 := fun t' H' hf => by
    unfold finA at hf
    split at hf
    · rename_i m h0
      split at hf
      · rename_i σ' zs hm'
        split at hf
        · rename_i e
          subst e
          obtain ⟨e1, e2⟩ : Nat.beq m 0 = false ∧ zs = ys := by
            cases hb : Nat.beq m 0 with
            | true => rw [hb] at hf; cases hf
            | false => rw [hb] at hf; exact ⟨rfl, Option.some.inj hf⟩
          subst e2
          exact ⟨m, h0, hm', Nat.ne_of_beq_eq_false e1⟩
        · cases hf
      · cases hf
    · cases hf
  refine evalA_ok hm hT hC c _ _ _ _ Q ((h x1 x2 xs).trans hx) (fun t' H' hf => ?_) fun t' H' hf => ?_
  · obtain ⟨m, g0, gm, gn⟩ := key t' H' hf; exact (hend t' H' m g0 gm gn).1
  · obtain ⟨m, g0, gm, gn⟩ := key t' H' hf; exact (hend t' H' m g0 gm gn).2
end
end Go.Tx

namespace Go.Proofs.Ytmagihjfbembjaa
open Go Go.Tx Go.Proofs.Try
set_option maxRecDepth 100000
set_option maxHeartbeats 0
abbrev chase_behind_1_p1 : List Pk := [.row Riii true, .ref Riii, .ref Rii]
abbrev chase_behind_1_p2 : List Pk := [.ref Ri]
abbrev chase_behind_1_X : Type := (Diii × Diii × Dii × Unit) × (Di × Unit) × List Diiii
abbrev chase_behind_1_R : Type := List Diiii
def chase_behind_1_wsp (F : chase_behind_1_X → Option chase_behind_1_R) : WSpec := ⟨106, chase_behind_1_p1, chase_behind_1_p2, Riiii, fun a b c => F (a, b, c)⟩
abbrev chase_behind_1_C : Type := (course_Meet_X → Option course_Meet_R) × (ratio_Cmp_X → Option ratio_Cmp_R) × Unit
def chase_behind_1_K (d : Nat) : chase_behind_1_C := (F_course_Meet d, F_ratio_Cmp d, ())
def chase_behind_1_tab (C : chase_behind_1_C) : List Go.Tx.Spec := [course_Meet_sp C.1, ratio_Cmp_sp C.2.1]
def chase_behind_1_f (C : chase_behind_1_C) (x : chase_behind_1_X) : Option chase_behind_1_R :=
  match C.1 (x.1.2.1, x.1.1, ()) with
  | none => none
  | some r => bif !(r.2.2 == 0) then some x.2.2 else
    match C.2.1 ((r.1, r.2.1, ()), (x.1.2.2.1.1, x.1.2.2.1.2.1, ()), ()) with
    | none => none
    | some c => bif decide (c.1 > 0) then bif apB (List.length x.2.2) 1 then some (x.2.2 ++ [(r.1, r.2.1, tmin x.2.1.1.1 x.1.1.1, tmax x.2.1.1.1 x.1.1.1, ())]) else none else some x.2.2
theorem chase_behind_1_eq (C : chase_behind_1_C) (x1 : dens chase_behind_1_p1) (x2 : dens chase_behind_1_p2) (xs : List (den Riiii)) :
    evalA tysT (orc (chase_behind_1_tab C)) (f106).ntmps (bodyOf f106) (memOf (nums 0 (argsOf chase_behind_1_p1 x1 ++ .ptr 0 0 :: argsOf chase_behind_1_p2 x2)) .lf) (wmem xs) (finA Riiii) (finA Riiii) = chase_behind_1_f C (x1, x2, xs) := by kernel_rfl
def F_chase_behind_1 (d : Nat) (x : chase_behind_1_X) : Option chase_behind_1_R := chase_behind_1_f (chase_behind_1_K d) x
theorem chase_behind_1_cokw (d : Nat) : COKW prog (chase_behind_1_wsp (F_chase_behind_1 d)) := by
  have hC0 : OrcOK prog (orc (chase_behind_1_tab (chase_behind_1_K d))) := orc_ok (by
    intro S hS
    simp only [chase_behind_1_tab, List.mem_cons, List.not_mem_nil, or_false] at hS
    rcases hS with rfl | rfl
    · exact course_Meet_cok d
    · exact ratio_Cmp_cok d)
  exact cokw_ev (c := bodyOf f106) (fn := f106) mixed tys hC0 (by kernel_rfl) (by kernel_rfl) (by decide) (by kernel_rfl) fun x1 x2 xs => chase_behind_1_eq (chase_behind_1_K d) x1 x2 xs
end Go.Proofs.Ytmagihjfbembjaa

namespace Go.Tx
open Go Go.Sort Go.RowKit Go.Proofs Go.Shelf
/-- a stable sort of short rows -/
structure StabOK (P : Program) (f k : Nat) : Prop where
  some : ∀ {α : Type} [Inhabited α] (enc : α → List Value), (∀ x, (enc x).length = k) → (∀ x, ∀ v ∈ enc x, v.oneCell' = true) → ∀ (cf : α → α → Int), SWO (ltOf cf) → ∀ (g : Nat) (cb : Array Value) (blk off cap : Nat) (d : Array α) (w : World),
    (∀ args w, (callFunc g args).run P w = .ok (.enter g args) w) → CmpLays P g cb enc k cf blk off d.size w → HoldsK enc k w blk off d → blk < w.heap.size → d.size ≤ 19 → (∀ x y, (ltOf cf) x y = false → (ltOf cf) y x = false → x = y) →
    Calls P f #[.slice (some ⟨blk, off, none⟩) d.size cap, .func (.func g) #[] cb] w fun e w' =>
      e = .returned (.tuple #[]) ∧ ∃ n os, w' = sortWorldK enc k w blk off n (d.toList.mergeSort fun x y => !(ltOf cf) y x).toArray os
  none : ∀ (A : Option Addr) (cap : Nat) (fv : Value) (w : World), Calls P f #[.slice A 0 cap, fv] w fun e w' => e = .returned (.tuple #[]) ∧ w' = w
/-- sorted, if short -/
def stabV {τ : Row} (F : den τ × den τ × Unit → Option Int) (xs : List (den τ)) : Option (List (den τ)) := bif Nat.ble xs.length 19 then sortV F xs else none
section
variable {P : Program}
theorem stab_sound {f : Nat} {τ ρc : Row} (hp : plainR τ = true) (hst : StabOK P f τ.size) {g : FuncId} {F : den τ × den τ × den ρc × Unit → Option Int}
    (hS : COK P ⟨g, [.row τ true, .row τ true, .ref ρc], Int, F, fun r => (.int .i64 r, [])⟩) {H : LH} {n : Nat} {c : LV} {xc : den ρc} {xs ys : List (den τ)} (hg : H.get n = some (.rows τ xs)) (hcx : byRef H ρc c = some xc) (hnA : n ∉ deep H (refs1 c)) (hy : stabV (fun p => F (p.1, p.2.1, xc, ())) xs = some ys) :
    CallSound P f [.rs n, .fn g [c]] H (.tup [], H.put n (some (.rows τ ys))) := by
  obtain ⟨h19, hb, rfl⟩ : xs.length ≤ 19 ∧ (Nat.ble xs.length 1000000 && sortB (fun p => F (p.1, p.2.1, xc, ())) xs) = true ∧ sortL (ltV (fun p => F (p.1, p.2.1, xc, ()))) xs = ys := by
    unfold stabV at hy
    obtain ⟨hb19, hz⟩ := bif_none (A := sortV (fun p => F (p.1, p.2.1, xc, ())) xs) hy
    unfold sortV at hz
    obtain ⟨hb, hz2⟩ := bif_none (A := some (sortL (ltV (fun p => F (p.1, p.2.1, xc, ()))) xs)) hz
    exact ⟨Nat.le_of_ble_eq_true hb19, hb, Option.some.inj hz2⟩
  clear hy
  rw [Bool.and_eq_true] at hb
  obtain ⟨hc, hO, hT⟩ := sort_swo hb.2
  refine ⟨Logged.put _ hg _, fun M η w vs h hM hv => ?_⟩
  obtain ⟨v1, vs, rfl, q1, hv⟩ := hv.uncons
  obtain ⟨v2, vs, rfl, q2, hv⟩ := hv.uncons
  obtain rfl : vs = [] := by have := hv.1; simpa using this.symm
  cases q1 with
  | rs hh1 =>
  obtain ⟨vc, rfl, hvc⟩ : ∃ vc, v2 = .func (.func g) #[] #[vc] ∧ VR η c vc := by
    cases q2 with
    | fn hl hh =>
      obtain ⟨vc, rfl, hvc⟩ := vrs1 ⟨hl, hh⟩
      exact ⟨vc, rfl, hvc⟩
  obtain ⟨φ, hph⟩ := phi_ex H η w (deep H (refs1 c))
  have hphi : ∀ k ob, φ k = some ob → w.heap[k]? = some ob := fun k ob hk => by
    rcases hph.cases k ob hk with h1 | ⟨_, _, h1⟩
    · exact h.fz k ob h1
    · exact h1
  have hrefs : ∀ m ∈ deep H (refs c), m ∈ deep H (refs1 c) := fun m hm => deep_sub (fun k hk => refs_sub hk) hm
  have hcap : VR (Emb.fro φ) (.fp ρc xc 0) vc := byRef_ok h hph hcx hrefs hvc
  have hlen : ∀ l : List (den τ), (sortL (ltV (fun p => F (p.1, p.2.1, xc, ()))) l).length = l.length := fun l => (sortL_perm _ l).length_eq
  cases h.live _ _ hg with
  | none hL hh =>
    rename_i A
    rw [hh1] at hh; injection hh with hh; subst hh
    refine Calls.mono (hst.none A 0 (.func (.func g) #[] #[vc]) w) ?_
    rintro e w' ⟨rfl, rfl⟩
    refine ⟨_, η, rfl, vr_tup0, adv_change h hg ?_ (Nat.le_refl _) (fun _ _ _ => rfl) rfl rfl rfl (Nat.le_refl _)⟩
    have e0 : sortL (ltV (fun p => F (p.1, p.2.1, xc, ()))) ([] : List (den τ)) = [] := rfl
    rw [e0]
    exact .none hL hh1
  | rows hL ha hh hcap2 hr =>
    rename_i L0 cp
    rw [hh1] at hh; injection hh with hh; subst hh
    have hfL : φ L0.block = none := by
      cases hf : φ L0.block with
      | none => rfl
      | some o =>
        exfalso
        rcases hph.cases _ o hf with h3 | ⟨_, ⟨m, hm, ob', L2, m1, m2, m3⟩, _⟩
        · rw [h.sep L0.block ⟨n, _, L0, hg, hL, rfl⟩] at h3; cases h3
        · have := h.inj n m _ _ _ _ hg m1 hL m2 m3.symm
          subst this
          exact hnA hm
    by_cases h0 : xs = []
    · subst h0
      refine Calls.mono (hst.none (some ⟨L0.block, L0.base, none⟩) cp (.func (.func g) #[] #[vc]) w) ?_
      rintro e w' ⟨rfl, rfl⟩
      refine ⟨_, η, rfl, vr_tup0, adv_change h hg ?_ (Nat.le_refl _) (fun _ _ _ => rfl) rfl rfl rfl (Nat.le_refl _)⟩
      have e0 : sortL (ltV (fun p => F (p.1, p.2.1, xc, ()))) ([] : List (den τ)) = [] := rfl
      rw [e0]
      exact .rows hL ha hh1 hcap2 hr
    · haveI : Inhabited {x : den τ // x ∈ xs} := ⟨⟨xs.head h0, List.head_mem h0⟩⟩
      have eg : ∀ args w, (callFunc g args).run P w = .ok (.enter g args) w := by
        obtain ⟨fn, bd, b1, b2, b3⟩ := hS.body
        intro args w
        have b4 : ¬ fn.body = none := by rw [b2]; simp
        have b1' : P.funcs[g]? = some fn := b1
        simp [callFunc, b1', b3, b4]
      have hk : ∀ x : {x : den τ // x ∈ xs}, (valsR τ x.1).length = τ.size := fun x => valsR_len τ hp x.1
      have hflat : ∀ m : List {x : den τ // x ∈ xs}, (flatK (fun x : {x : den τ // x ∈ xs} => valsR τ x.1) τ.size m.toArray).toList = valsL τ (m.map Subtype.val) := fun m => by
        rw [flatK_list2 _ _ hk, valsL_flatMap, List.flatMap_map]
      have hcmp : CmpLays P g #[vc] (fun x : {x : den τ // x ∈ xs} => valsR τ x.1) τ.size (fun x y => cmpV (fun p => F (p.1, p.2.1, xc, ())) x.1 y.1) L0.block L0.base xs.attach.toArray.size w := by
        intro m os dk _ x y
        have hF := hc x.1 x.2 y.1 y.2
        have hφ2 : ∀ k ob, φ k = some ob → (sortWorldK (fun x : {x : den τ // x ∈ xs} => valsR τ x.1) τ.size w L0.block L0.base m dk os).heap[k]? = some ob := fun k ob hk2 => by
          have h1 := hphi k ob hk2
          have hne : k ≠ L0.block := fun he => by rw [he, hfL] at hk2; cases hk2
          have hlt := (Array.getElem?_eq_some_iff.1 h1).1
          unfold sortWorldK putRowK
          rw [putRow_other _ _ _ _ _ _ k hlt hne]
          exact h1
        have h2 := hS.ok (x.1, y.1, xc, ()) (cmpV (fun p => F (p.1, p.2.1, xc, ())) x.1 y.1) hF (sortWorldK (fun x : {x : den τ // x ∈ xs} => valsR τ x.1) τ.size w L0.block L0.base m dk os) φ [.agg (valsR τ x.1).toArray, .agg (valsR τ y.1).toArray, vc] hφ2
          (VRs.cons (VR.aggL (plain_vrs τ x.1 hp)) (VRs.cons (VR.aggL (plain_vrs τ y.1 hp)) (VRs.cons hcap VRs.nil)))
        refine Calls.mono h2 ?_
        rintro e w' ⟨v', η', rfl, hvr, _, hfr⟩
        have hv' : v' = .int .i64 (cmpV (fun p => F (p.1, p.2.1, xc, ())) x.1 y.1) := by
          have hvr : VR η' (.int .i64 (cmpV (fun p => F (p.1, p.2.1, xc, ())) x.1 y.1)) v' := hvr
          cases hvr; rfl
        rw [hv']
        exact ⟨rfl, bel_ext' ⟨⟨hfr.os, hfr.tape, hfr.output, hfr.size, fun k hk => hfr.same k hk⟩, hfr.drawn⟩⟩
      have hfl : flatK (fun x : {x : den τ // x ∈ xs} => valsR τ x.1) τ.size xs.attach.toArray = (valsL τ xs).toArray := by
        apply Array.toList_inj.1
        rw [hflat, List.attach_map_subtype_val]
      have hfl2 : ∀ l : List (den τ), (flat τ l).length = (valsL τ l).length := fun l => (plain_vrsL (η := η) hp l).1
      have hH : HoldsK (fun x : {x : den τ // x ∈ xs} => valsR τ x.1) τ.size w L0.block L0.base xs.attach.toArray := by
        unfold HoldsK
        rw [hfl]
        intro j hj
        have hj' : j < (valsL τ xs).length := by simpa using hj
        obtain ⟨cl, hcl⟩ : ∃ cl, (flat τ xs)[j]? = some cl := ⟨_, List.getElem?_eq_getElem (by rw [hfl2]; exact hj')⟩
        obtain ⟨v, g1, g2⟩ := ha.cell j cl hcl
        have g3 := plain_valL hp xs j cl hcl v g2
        have hf := ha.fits
        refine ⟨?_, (ha.there (L0.base + j) (by omega) (by have := hfl2 xs; omega)).2⟩
        rw [g1]
        congr 1
        rw [getElem!_pos _ _ (by simpa using hj')]
        have := (List.getElem?_eq_some_iff.1 g3).2
        simp [this]
      have hcon := hst.some (fun x : {x : den τ // x ∈ xs} => valsR τ x.1) hk (fun x v hv => plain_one τ x.1 hp v hv) (fun x y => cmpV (fun p => F (p.1, p.2.1, xc, ())) x.1 y.1) hO g #[vc] L0.block L0.base cp xs.attach.toArray w eg hcmp hH ha.lt (by simp; omega) hT
      have hats : xs.attach.toArray.size = xs.length := by simp
      rw [hats] at hcon
      refine Calls.mono hcon ?_
      rintro e w' ⟨rfl, m, os, rfl⟩
      have hF : flatK (fun x : {x : den τ // x ∈ xs} => valsR τ x.1) τ.size (xs.attach.toArray.toList.mergeSort fun x y => !(ltOf fun (x y : {x : den τ // x ∈ xs}) => cmpV (fun p => F (p.1, p.2.1, xc, ())) x.1 y.1) y x).toArray = (valsL τ (sortL (ltV (fun p => F (p.1, p.2.1, xc, ()))) xs)).toArray := by
        apply Array.toList_inj.1
        rw [hflat]
        congr 1
        have := sort_attach hb.2
        simpa using this
      unfold sortWorldK putRowK
      rw [hF]
      have hvl : (valsL τ (sortL (ltV (fun p => F (p.1, p.2.1, xc, ()))) xs)).length = (valsL τ xs).length := by rw [valsL_len hp, valsL_len hp, hlen]
      have hyl := hlen xs
      unfold HoldsK at hH
      rw [hfl] at hH
      generalize sortL (ltV (fun p => F (p.1, p.2.1, xc, ()))) xs = ys at hvl hyl ⊢
      have hfit := ha.fits
      have hfx := hfl2 xs
      have hfy := hfl2 ys
      obtain ⟨W1, hW1⟩ : ∃ W1, putRow id (Sort.ahead w m) L0.block L0.base (valsL τ ys).toArray = W1 := ⟨_, rfl⟩
      have hsz1 : W1.heap.size = w.heap.size := by rw [← hW1]; simp [putRow, mapBlock, Sort.ahead]
      have hblk : (grow W1 os).heap[L0.block]? = W1.heap[L0.block]? := by
        simp only [grow]
        rw [Array.getElem?_append_left (by rw [hsz1]; exact ha.lt)]
      have hfr : ∀ j, W1.frozen? ⟨L0.block, j, none⟩ = w.frozen? ⟨L0.block, j, none⟩ := fun j => by rw [← hW1, frozen?_putRow]; rfl
      have hin : ∀ j, j < (valsL τ ys).length → W1.cell? ⟨L0.block, L0.base + j, none⟩ = some ((valsL τ ys).toArray[j]!) := fun j hj => by
        rw [← hW1]
        exact cell?_putRow id (Sort.ahead w m) L0.block L0.base (valsL τ xs).toArray (valsL τ ys).toArray hH (by simp [hvl]) j (by simpa using hj)
      have hout : ∀ j, L0.base + (valsL τ ys).length ≤ j → W1.cell? ⟨L0.block, j, none⟩ = w.cell? ⟨L0.block, j, none⟩ := fun j hj => by
        rw [← hW1, cell?_putRow_other id (Sort.ahead w m) L0.block L0.base (valsL τ ys).toArray ⟨L0.block, j, none⟩ (.inr (.inr (by simpa using hj)))]; rfl
      have hat2 : At η (grow W1 os) (flat τ ys) L0 := by
        refine ⟨?_, by omega, fun j h1 h2 => ⟨?_, ?_⟩, fun j c hcj => ?_⟩
        · have := ha.lt
          simp only [grow, Array.size_append]; omega
        · rw [cell_same hblk]
          by_cases hj : j < L0.base + (valsL τ ys).length
          · have := hin (j - L0.base) (by omega)
            rw [show L0.base + (j - L0.base) = j by omega] at this
            rw [this]; rfl
          · rw [hout j (by omega)]; exact (ha.there j h1 h2).1
        · rw [frozen_same hblk, hfr]; exact (ha.there j h1 h2).2
        · have hj : j < (valsL τ ys).length := by rw [← hfy]; exact (List.getElem?_eq_some_iff.1 hcj).1
          refine ⟨(valsL τ ys)[j], ?_, (plain_vrsL hp ys).2 j c _ hcj (List.getElem?_eq_getElem hj)⟩
          rw [cell_same hblk, hin j hj]
          congr 1
          rw [getElem!_pos _ _ (by simpa using hj)]
          simp
      subst hW1
      refine ⟨_, η, rfl, vr_tup0, adv_change h hg (.rows hL hat2 (by rw [hyl]; exact hh1) (by rw [hyl]; exact hcap2) hr) ?_ (fun k hk hne => ?_) ?_ ?_ ?_ ?_⟩
      · exact putRow_size ..
      · exact putRow_other _ _ _ _ _ _ k hk (hne L0 hL)
      · rfl
      · rfl
      · rfl
      · simp [grow, putRow, mapBlock, Sort.ahead]
/-- calls of the stable sort (function f) with a comparator (function g) over a captured variable, told ahead -/
def orcSt (f g : FuncId) (τ ρc : Row) (F : den τ × den τ × den ρc × Unit → Option Int) (C : Orc) : Orc := fun h args H =>
  bif Nat.beq h f then (match args with
    | [.rs n, .fn g' [c]] => bif Nat.beq g' g then (match H.get n, byRef H ρc c with
      | some (.rows σ xs), some xc => bif memB (deep H (refs1 c)) n then none else if e : σ = τ then some ⟨List (den τ), stabV (fun p => F (p.1, p.2.1, xc, ())) (e ▸ xs), fun r => (.tup [], H.put n (some (.rows τ r)))⟩ else none
      | _, _ => none) else none
    | _ => none) else C h args H
theorem orcSt_ok {f : Nat} {τ ρc : Row} (hp : plainR τ = true) (hst : StabOK P f τ.size) {g : FuncId} {F : den τ × den τ × den ρc × Unit → Option Int}
    (hS : COK P ⟨g, [.row τ true, .row τ true, .ref ρc], Int, F, fun r => (.int .i64 r, [])⟩) (hbody : ∃ fn c, P.funcs[f]? = some fn ∧ fn.body = some c ∧ ¬ fn.name = "runtime.NumGoroutine") {C : Orc} (hC : OrcOK P C) : OrcOK P (orcSt f g τ ρc F C) := by
  refine ⟨fun h args H p x hp' hx => ?_⟩
  unfold orcSt at hp'
  rw [Bool.cond_eq_ite] at hp'
  split at hp'
  · rename_i he
    have he := Nat.eq_of_beq_eq_true he
    subst he
    split at hp'
    · rename_i n g' c
      rw [Bool.cond_eq_ite] at hp'
      split at hp'
      · rename_i hg
        have hg := Nat.eq_of_beq_eq_true hg
        subst hg
        split at hp'
        · rename_i σ xs xc hn hcx
          rw [Bool.cond_eq_ite] at hp'
          split at hp'
          · cases hp'
          · rename_i hm
            split at hp'
            · rename_i e
              subst e
              injection hp' with hp'
              subst hp'
              exact .inl ⟨stab_sound hp hst hS hn hcx (fun h => hm (memB_iff.2 h)) hx, hbody⟩
            · cases hp'
        · cases hp'
      · cases hp'
    · cases hp'
  · exact hC.call h args H p x hp' hx
end
end Go.Tx

namespace Go.Proofs
open Go.Shelf
def Try.laysInsM_ren : Go.Shelf.Ren := ⟨fun | 20 => 150 | n => n, fun | 0 => 0 | 3 => 3 | 4 => 4 | 22 => 60 | 25 => 151 | 24 => 55 | n => n, fun | n => n⟩
theorem Try.laysInsM : Go.Proofs.SlLaysF0.n20 Try.prog Try.laysInsM_ren := {
  mixed := by kernel_rfl
  f20 := ⟨Try.f150.name, by decide, Try.func150.trans (congrArg some (by kernel_rfl))⟩
  t0 := Try.underlying0
  a0 := Try.isAgg0
  z0 := Try.sizeOf0
  v0 := Try.zeroValue0
  t3 := Try.underlying3
  a3 := Try.isAgg3
  z3 := Try.sizeOf3
  v3 := Try.zeroValue3
  t4 := Try.underlying4
  a4 := Try.isAgg4
  z4 := Try.sizeOf4
  v4 := Try.zeroValue4
  t22 := Try.underlying60
  a22 := Try.isAgg60
  z22 := Try.sizeOf60
  v22 := Try.zeroValue60
  t25 := Try.underlying151
  a25 := Try.isAgg151
  z25 := Try.sizeOf151
  v25 := Try.zeroValue151 }
end Go.Proofs

namespace Go.Proofs.Ytmagihjfbembjaa
open Go Go.Sort Go.RowKit Go.Shelf Go.Pel
set_option maxRecDepth 100000 in
set_option maxHeartbeats 2000000 in
theorem stable_some {α : Type} [Inhabited α] (enc : α → List Value) (hk : ∀ x, (enc x).length = 4) (h1 : ∀ x, ∀ v ∈ enc x, v.oneCell' = true) (cf : α → α → Int) (g : Nat) (cb : Array Value) (blk off cap : Nat) (d : Array α) (w : World)
    (eg : ∀ args w, (callFunc g args).run Try.prog w = .ok (.enter g args) w) (hcmp : CmpLays Try.prog g cb enc 4 cf blk off d.size w) (hH : HoldsK enc 4 w blk off d) (hblk : blk < w.heap.size) (h19 : d.size ≤ 19) :
    Calls Try.prog 136 #[.slice (some ⟨blk, off, none⟩) d.size cap, .int .i64 d.size, .func (.func g) #[] cb] w fun e w' =>
      e = .returned (.tuple #[]) ∧ ∃ n os, w' = sortWorldK enc 4 w blk off n (Sort.insertionSort (ltOf cf) d 0 d.size) os := by
  have hi := AnyQ.insertionSortCmpFunc (P := Try.prog) (ρ := Try.laysInsM_ren) Try.laysInsM 4 Try.isAgg55 Try.sizeOf55 enc hk h1 cf g cb blk off cap 0 d.size d w eg hcmp hH hblk (Nat.zero_le _) (Nat.le_refl _) (by omega)
  clear hcmp hH hk h1 eg
  have z1 : decide ((20 : Int) ≤ (d.size : Int)) = false := by rw [decide_eq_false_iff_not]; omega
  have z2 : decide ((20 : Int) < (d.size : Int)) = false := by rw [decide_eq_false_iff_not]; omega
  go_enter Try.func136, Try.ntmps136
  go_wp2
  refine wp_loop_rounds 1 ?_
  rw [rounds_succ]
  go_wp2_with (go_at_call 150; refine hi.mono ?_; rintro e _ ⟨rfl, n, os, rfl⟩)
  refine wp_loop_rounds 1 ?_
  rw [rounds_succ]
  go_wp2
  go_end0
  exact ⟨rfl, n, os, rfl⟩
set_option maxHeartbeats 2000000 in
theorem stable_none (A : Option Addr) (cap : Nat) (fv : Value) (w : World) :
    Calls Try.prog 136 #[.slice A 0 cap, .int .i64 0, fv] w fun e w' => e = .returned (.tuple #[]) ∧ w' = w := by
  have hi := AnyF.insertionSortCmpFunc_none (P := Try.prog) (ρ := Try.laysInsM_ren) Try.laysInsM A cap fv w
  go_enter Try.func136, Try.ntmps136
  go_wp2
  refine wp_loop_rounds 1 ?_
  rw [rounds_succ]
  go_wp2_with (go_at_call 150; refine hi.mono ?_; rintro e _ ⟨rfl, rfl⟩)
  refine wp_loop_rounds 1 ?_
  rw [rounds_succ]
  go_wp2
  go_end0
  exact ⟨rfl, rfl⟩
set_option maxRecDepth 100000 in
set_option maxHeartbeats 2000000 in
theorem stab_meeting : Go.Tx.StabOK Try.prog 107 4 := by
  refine ⟨fun {α} _ enc hk h1 cf hO g cb blk off cap d w eg hcmp hH hblk h19 hT => ?_, fun A cap fv w => ?_⟩
  · have hi := stable_some enc hk h1 cf g cb blk off cap d w eg hcmp hH hblk h19
    have hs := insertionSort_holds (lt := ltOf cf) hO d 0 d.size (Nat.zero_le _) (Nat.le_refl _)
    have hu := sorted_unique_holds hO hT d _ hs.1 hs.2
    refine Calls.mono (R := fun e w' => e = .returned (.tuple #[]) ∧ ∃ n os, w' = sortWorldK enc 4 w blk off n (Sort.insertionSort (ltOf cf) d 0 d.size) os) ?_ (fun e w' ⟨he, n, os, hw⟩ => ⟨he, n, os, by rw [hw, ← hu]⟩)
    clear hs hu hT hO hcmp hH hk h1 eg
    go_enter Try.func107, Try.ntmps107
    go_wp2_with (go_at_call 136; refine hi.mono ?_; rintro e _ ⟨rfl, n, os, rfl⟩)
    go_end0
    exact ⟨rfl, n, os, rfl⟩
  · have hi := stable_none A cap fv w
    go_enter Try.func107, Try.ntmps107
    go_wp2_with (go_at_call 136; refine hi.mono ?_; rintro e _ ⟨rfl, rfl⟩)
    go_end0
    exact ⟨rfl, rfl⟩
end Go.Proofs.Ytmagihjfbembjaa

namespace Go.Proofs.Ytmagihjfbembjaa
open Go Go.Tx Go.Proofs.Try
theorem stab_api_Meeting_ok {g : FuncId} {F : den Riiii × den Riiii × den Ri × Unit → Option Int} (hS : COK prog ⟨g, [.row Riiii true, .row Riiii true, .ref Ri], Int, F, fun r => (.int .i64 r, [])⟩) {C : Orc} (hC : OrcOK prog C) : OrcOK prog (orcSt 107 g Riiii Ri F C) :=
  orcSt_ok (τ := Riiii) rfl stab_meeting hS (body_of (fn := f107) (by kernel_rfl) (by kernel_rfl) (by kernel_rfl)) hC
end Go.Proofs.Ytmagihjfbembjaa
