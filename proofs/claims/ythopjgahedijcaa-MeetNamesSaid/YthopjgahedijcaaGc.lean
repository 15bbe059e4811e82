/- Walks of courses and of the sorts; the order as plain mathematics. -/
import Derived.LoopN
import Derived.Scope
import Derived.RangeFuncRecord
import Derived.RangeFuncSeq
import Derived.RangeFuncBound
import Derived.Shelf.Abstract
import Derived.Shelf.RegionOpen
import Derived.WalkKit
import Derived.OwnWalkIn
import Derived.TacticsInMore
import Derived.LoopNIn
import Derived.LoopIn
import Derived.Shelf.SlSortCmp.NoneTotal
import Derived.Test.YthopjgahedijcaaGb
set_option linter.unusedSimpArgs false
set_option linter.unusedVariables false
namespace Go.Tx
open Go
/-- is an operation carried out? -/
def xguard (ops : Array Oper) (t : Mem) (o : Oper) : Option Bool :=
  match o.guard with
  | none => some true
  | some (j, want) => match ((ops[j]?).bind (·.dst)).bind t.get with
    | some (.bool b) => some (b == want)
    | some (.tup []) => some false
    | _ => none
theorem vr_tup0 {η : Emb} : VR η (.tup []) undef := .tup rfl fun i c v h _ => by simp at h
theorem guard_ok {η : Emb} {ops : Array Oper} {t : Mem} {a : Act} {o : Oper} {g : Bool} (ht : ∀ j want d, o.guard = some (j, want) → (ops[j]?).bind (·.dst) = some d → ∀ l, t.get d = some l → ∃ v, a.tmps[d]? = some v ∧ VR η l v) (hx : xguard ops t o = some g) : Region.wanted o (yielded ops a.tmps) = g := by
  unfold xguard at hx
  unfold Region.wanted
  cases hg : o.guard with
  | none => rw [hg] at hx; simpa using hx
  | some p =>
    obtain ⟨j, want⟩ := p
    rw [hg] at hx
    simp only at hx ⊢
    cases hd : (ops[j]?).bind (·.dst) with
    | none => rw [hd] at hx; simp at hx
    | some d =>
      rw [hd] at hx
      simp only [Option.bind_some] at hx
      cases hl : t.get d with
      | none => rw [hl] at hx; simp at hx
      | some l =>
        rw [hl] at hx
        obtain ⟨v, h1, h2⟩ := ht j want d hg hd l hl
        cases l <;> (try simp only at hx) <;> first | (cases hx; done) | skip
        case bool b =>
          injection hx with hx; subst hx
          cases h2
          unfold yielded
          rw [hd]
          simp only [Option.bind_some, h1]
          cases b <;> cases want <;> rfl
        case tup cs =>
          cases cs with
          | cons c cs => cases hx
          | nil =>
            injection hx with hx; subst hx
            cases h2 with
            | tup hl hh =>
              unfold yielded
              rw [hd]
              simp only [Option.bind_some, h1]
              rfl
theorem Tr.setP_same {α : Type} (v : α) : ∀ (p : List D8) (t : Tr α), Tr.at p t = some v → Tr.setP p t (some v) = t
  | [], .lf, h => by cases h
  | [], .nd u _ _ _ _ _ _ _ _, h => by simp only [Tr.at, Tr.val] at h; subst h; rfl
  | x :: p, .lf, h => by rw [Tr.at] at h; cases x <;> (rw [show Tr.kid (.lf : Tr α) _ = .lf from rfl, Tr.at_lf] at h; cases h)
  | x :: p, .nd u a b c d e f g k, h => by
    rw [Tr.at] at h
    rw [Tr.setP, Tr.setP_same v p _ h]
    cases x <;> rfl
theorem Tr.set_same {α : Type} {t : Tr α} {n : Nat} {v : α} (h : t.get n = some v) : t.set n (some v) = t := Tr.setP_same v _ t h
section
variable {β : Type} {b : β}
/-- is an operation carried out? what it hangs on is known from there on -/
def tguard (ops : Array Oper) (t : Mem) (o : Oper) (k : Mem → Bool → Option β) : Option β :=
  match o.guard with
  | none => k t true
  | some (j, want) => match (ops[j]?).bind (·.dst) with
    | some d => match t.get d with
      | some (.bool v) => bif v then k (t.set d (some (.bool true))) want else k (t.set d (some (.bool false))) (!want)
      | some (.tup []) => k t false
      | _ => none
    | none => none
theorem tguard_ok {ops : Array Oper} {t : Mem} {o : Oper} {k : Mem → Bool → Option β} (hx : tguard ops t o k = some b) : ∃ g, xguard ops t o = some g ∧ k t g = some b := by
  unfold tguard at hx
  unfold xguard
  cases hg : o.guard with
  | none => rw [hg] at hx; exact ⟨true, rfl, hx⟩
  | some p =>
    obtain ⟨j, want⟩ := p
    rw [hg] at hx
    simp only at hx ⊢
    cases hd : (ops[j]?).bind (·.dst) with
    | none => rw [hd] at hx; cases hx
    | some d =>
      rw [hd] at hx
      simp only [Option.bind_some] at hx ⊢
      cases hl : t.get d with
      | none => rw [hl] at hx; cases hx
      | some l =>
        rw [hl] at hx
        cases l <;> (try simp only at hx) <;> first | (cases hx; done) | skip
        case bool v =>
          cases v with
          | true =>
            rw [cond_true, Tr.set_same hl] at hx
            exact ⟨_, rfl, by cases want <;> exact hx⟩
          | false =>
            rw [cond_false, Tr.set_same hl] at hx
            exact ⟨_, rfl, by cases want <;> exact hx⟩
        case tup cs =>
          cases cs with
          | cons c cs => cases hx
          | nil => exact ⟨_, rfl, hx⟩
end
/-- a state of the machine against a state of a function -/
structure SR (M N : Nat) (D : List Deferred) (η : Emb) (t : Mem) (H : LH) (a : Act) (w : World) : Prop where
  hr : HR M η H w
  tr : TR η t a
  size : N ≤ a.tmps.size
  defers : a.defers = D
section
variable {P : Program} {T : Tys} {C : Orc} {M N : Nat} {D : List Deferred} {β : Type} {b : β}
/-- operations in order -/
def tops (T : Tys) (C : Orc) (N : Nat) (ops : Array Oper) : List Oper → Mem → LH → (Mem → LH → Option β) → Option β
  | [], t, H, k => k t H
  | o :: l, t, H, k => tguard ops t o fun t g => bif g then topK T C o (xev t) H fun v H => tput N t o.dst v fun t => tops T C N ops l t H k else tput N t o.dst (.tup []) fun t => tops T C N ops l t H k
theorem tops_ok (hT : TysOK P T) (hC : OrcOK P C) {ops : Array Oper} : ∀ (l : List Oper) {t : Mem} {H : LH} {k : Mem → LH → Option β}, tops T C N ops l t H k = some b → ∃ t' H', k t' H' = some b ∧ Logged H H' ∧
    ∀ M η a w Q, H'.next ≤ M → SR M N D η t H a w → (∀ a' w' η', SR M N D η' t' H' a' w' → Adv M H η w H' η' w' → Q .normal a' w') → wpList P ops Q l a w
  | [], t, H, k, hx => ⟨t, H, hx, Logged.refl _, fun M η a w Q hM hs hQ => hQ a w η hs (Adv.refl hs.hr)⟩
  | o :: l, t, H, k, hx => by
    rw [tops] at hx
    obtain ⟨g, hg, hx⟩ := tguard_ok hx
    cases g with
    | true =>
      rw [cond_true] at hx
      obtain ⟨r, hr, h1, h2⟩ := top_ok hT hC hx
      obtain ⟨t1, hx, ht1⟩ := put_ok hr
      obtain ⟨t', H', e1, e2, e3⟩ := tops_ok hT hC l hx
      refine ⟨t', H', e1, h1.trans e2, fun M η a w Q hM hs hQ => ?_⟩
      have hw := guard_ok (a := a) (η := η) (fun j want d _ _ l hl => hs.tr d l hl) hg
      unfold wpList
      rw [hw, if_pos rfl]
      refine .inl (h2 M η w a hs.hr (Nat.le_trans e2.next hM) (fun x => xev_ok hs.tr x) _ _ fun v' w' η' hv hadv => ?_)
      exact e3 M η' _ w' Q hM ⟨hadv.hr, (hs.tr.mono hadv.le).put hs.size hv ht1, by rw [put_size]; exact hs.size, by rw [put_defers]; exact hs.defers⟩ fun a2 w2 η2 h2 hadv2 => hQ a2 w2 η2 h2 (hadv.trans hadv2)
    | false =>
      rw [cond_false] at hx
      obtain ⟨t1, hx, ht1⟩ := put_ok hx
      obtain ⟨t', H', e1, e2, e3⟩ := tops_ok hT hC l hx
      refine ⟨t', H', e1, e2, fun M η a w Q hM hs hQ => ?_⟩
      have hw := guard_ok (a := a) (η := η) (fun j want d _ _ l hl => hs.tr d l hl) hg
      unfold wpList
      rw [hw, if_neg (by simp)]
      exact e3 M η _ w Q hM ⟨hs.hr, hs.tr.put hs.size vr_tup0 ht1, by rw [put_size]; exact hs.size, by rw [put_defers]; exact hs.defers⟩ hQ
end
/-- what an operation of a region saw and left -/
structure Rec where
  K : LH
  R : LH
  l : LV
  d : Option Tmp
  us : List Tmp
def memB (l : List Nat) (b : Nat) : Bool := l.any (Nat.beq b)
theorem memB_iff {l : List Nat} {b : Nat} : memB l b = true ↔ b ∈ l := by
  unfold memB
  rw [List.any_eq_true]
  constructor
  · rintro ⟨x, hx, he⟩; rw [Nat.beq_eq] at he; subst he; exact hx
  · intro h; exact ⟨b, h, Nat.beq_refl b⟩
def Rec.ids (s : Rec) : List Nat := s.R.log ++ List.range' s.K.next (s.R.next - s.K.next)
def Rec.dom (s : Rec) (b : Nat) : Prop := b ∈ s.R.log ∨ (s.K.next ≤ b ∧ b < s.R.next)
theorem Rec.mem_ids {s : Rec} {b : Nat} : b ∈ s.ids ↔ s.dom b := by
  unfold Rec.ids Rec.dom
  rw [List.mem_append, List.mem_range'_1]
  constructor
  · rintro (h | h)
    · exact .inl h
    · exact .inr ⟨h.1, by omega⟩
  · rintro (h | h)
    · exact .inl h
    · exact .inr ⟨h.1, by omega⟩
def setAll (f : Nat → Option Ob) : List Nat → Tr Ob → Tr Ob
  | [], t => t
  | b :: l, t => setAll f l (t.set b (f b))
theorem get_setAll (f : Nat → Option Ob) : ∀ (l : List Nat) (t : Tr Ob) (b : Nat), (setAll f l t).get b = if b ∈ l then f b else t.get b
  | [], t, b => by simp [setAll]
  | x :: l, t, b => by
    rw [setAll, get_setAll f l]
    simp only [List.mem_cons]
    rw [Tr.get_set]
    by_cases h1 : b ∈ l
    · rw [if_pos h1, if_pos (.inr h1)]
    · rw [if_neg h1]
      by_cases h2 : b = x
      · subst h2; rw [if_pos rfl, if_pos (.inl rfl)]
      · rw [if_neg h2, if_neg]
        rintro (h3 | h3)
        · exact h2 h3
        · exact h1 h3
def merge (H : LH) (s : Rec) : LH := ⟨setAll s.R.get s.ids H.t, s.R.next, s.R.log ++ H.log⟩
theorem merge_get {H : LH} {s : Rec} (b : Nat) [Decidable (s.dom b)] : (merge H s).get b = if s.dom b then s.R.get b else H.get b := by
  show (setAll s.R.get s.ids H.t).get b = _
  rw [get_setAll]
  by_cases h : s.dom b
  · rw [if_pos h, if_pos (Rec.mem_ids.2 h)]
  · rw [if_neg h, if_neg (fun h' => h (Rec.mem_ids.1 h'))]; rfl
def evR (us : List Tmp) (t : Mem) : Operand → LV
  | .tmp n => bif memB us n then xev t (.tmp n) else .undef
  | x => xev t x
/-- an operation that has nothing to do with memory -/
def quietB (o : Oper) : Bool :=
  match o.op with
  | .move _ | .assign _ | .pick .. | .build .. | .nilCheck _ | .binOp .. | .unOp .. | .convert .. | .makeFunc .. | .fieldAddr .. | .field .. | .index .. | .extract .. => true
  | .call c => match c.callee with | .builtin .max => true | .builtin .min => true | _ => false
  | _ => false
/-- the objects that a value names -/
def refs : LV → List Nat
  | .ptr b _ => [b]
  | .rp b _ _ _ => [b]
  | .rs b => [b]
  | _ => []
def refs1 : LV → List Nat
  | .agg cs => cs.flatMap refs
  | .fn _ cs => cs.flatMap refs
  | l => refs l
def obRefs : Ob → List Nat
  | .cells cs => cs.flatMap refs1
  | .rows _ _ => []
/-- all that can be come to -/
def reach (H : LH) : Nat → List Nat → List Nat → List Nat
  | 0, _, acc => acc
  | _ + 1, [], acc => acc
  | f + 1, b :: l, acc => bif memB acc b then reach H f l acc else match H.get b with
    | some ob => reach H f (obRefs ob ++ l) (acc ++ [b])
    | none => reach H f l acc
def isFn (o : Oper) : Bool :=
  match o.op with
  | .call c => match c.callee with | .value _ => true | _ => false
  | _ => false
def small (H : LH) (ids : List Nat) : LH := ⟨setAll H.get ids .lf, H.next, []⟩
theorem small_get {H : LH} {ids : List Nat} {b : Nat} {cs : Ob} (h : (small H ids).get b = some cs) : H.get b = some cs := by
  have h' : (setAll H.get ids .lf).get b = some cs := h
  rw [get_setAll] at h'
  split at h'
  · exact h'
  · rw [Tr.get_lf] at h'; cases h'
/-- what an operation sees -/
def sees (o : Oper) (us : List Tmp) (t : Mem) (H : LH) : LH :=
  bif quietB o then ⟨.lf, H.next, []⟩
  else bif isFn o then small H (reach H 1000 (us.flatMap fun d => refs1 (xev t (.tmp d))) [])
  else small H (us.flatMap fun d => refs1 (xev t (.tmp d)))
theorem sees_get {o : Oper} {us : List Tmp} {t : Mem} {H : LH} {b : Nat} {cs : Ob} (h : (sees o us t H).get b = some cs) : H.get b = some cs := by
  unfold sees at h
  cases hq : quietB o with
  | false =>
    rw [hq, cond_false] at h
    cases hf : isFn o <;> rw [hf] at h <;> exact small_get h
  | true => rw [hq, cond_true] at h; exact (LH.no h).elim
theorem sees_next (o : Oper) (us : List Tmp) (t : Mem) (H : LH) : (sees o us t H).next = H.next := by unfold sees; cases quietB o <;> cases isFn o <;> rfl
theorem sees_log (o : Oper) (us : List Tmp) (t : Mem) (H : LH) : (sees o us t H).log = [] := by unfold sees; cases quietB o <;> cases isFn o <;> rfl
/-- place, numbers changed, record -/
abbrev Wr := Nat × List Nat × Rec
/-- a later operation and an earlier one do not meddle with each other: memory -/
def dynB (s : Rec) (ids : List Nat) (e : Rec) : Bool := ids.all (fun b => (s.K.get b).isNone) && s.R.log.all (fun b => (e.K.get b).isNone && !memB ids b) && e.R.log.all (fun b => !memB s.ids b)
/-- temporaries -/
def statB (us : List Tmp) (d : Option Tmp) (us' : List Tmp) (d' : Option Tmp) : Bool :=
  (match d' with | some d' => !memB us d' | none => true) &&
  (match d with | some d => !memB us' d && (match d' with | some d' => !Nat.beq d d' | none => true) | none => true)
structure Apart2 (s e : Rec) : Prop where
  unseen : ∀ b, e.dom b → s.K.get b = none
  kept : ∀ b, b ∈ s.R.log → e.K.get b = none ∧ ¬ e.dom b
  other : ∀ b, b ∈ e.R.log → ¬ s.dom b
  us : ∀ d, e.d = some d → d ∉ s.us
  us' : ∀ d, s.d = some d → d ∉ e.us
  dd : ∀ d, s.d = some d → e.d ≠ some d
/-- memory: they do not meddle -/
structure Dyn (s e : Rec) : Prop where
  unseen : ∀ b, e.dom b → s.K.get b = none
  kept : ∀ b, b ∈ s.R.log → e.K.get b = none ∧ ¬ e.dom b
  other : ∀ b, b ∈ e.R.log → ¬ s.dom b
/-- an operation that has nothing to do with memory -/
structure Quiet (e : Rec) : Prop where
  none : ∀ b, e.K.get b = none
  dom : ∀ b, ¬ e.dom b
  log : e.R.log = []
/-- an operation that changes nothing -/
structure Still (e : Rec) : Prop where
  dom : ∀ b, ¬ e.dom b
  log : e.R.log = []
theorem Quiet.still {e : Rec} (h : Quiet e) : Still e := ⟨h.dom, h.log⟩
theorem dyn_quiet1 {s e : Rec} (h : Quiet s) : Dyn s e := ⟨fun b _ => h.none b, fun b hb => by rw [h.log] at hb; simp at hb, fun b _ => h.dom b⟩
theorem dyn_quiet2 {s e : Rec} (h : Quiet e) : Dyn s e := ⟨fun b hb => absurd hb (h.dom b), fun b _ => ⟨h.none b, h.dom b⟩, fun b hb => by rw [h.log] at hb; simp at hb⟩
theorem dyn_still {s e : Rec} (hs : s.R.log = []) (h : Still e) : Dyn s e := ⟨fun b hb => absurd hb (h.dom b), fun b hb => by rw [hs] at hb; simp at hb, fun b hb => by rw [h.log] at hb; simp at hb⟩
theorem dyn_of {s e : Rec} (hd : dynB s e.ids e = true) : Dyn s e := by
  unfold dynB at hd
  simp only [Bool.and_eq_true, List.all_eq_true] at hd
  obtain ⟨⟨h1, h2⟩, h3⟩ := hd
  refine ⟨fun b hb => by simpa using h1 b (Rec.mem_ids.2 hb), fun b hb => ?_, fun b hb hd => ?_⟩
  · have := h2 b hb
    simp only [Bool.not_eq_true'] at this
    refine ⟨by simpa using this.1, fun hd => ?_⟩
    rw [memB_iff.2 (Rec.mem_ids.2 hd)] at this; cases this.2
  · have := h3 b hb
    rw [memB_iff.2 (Rec.mem_ids.2 hd)] at this; cases this
theorem apart_of {s e : Rec} (hs : statB s.us s.d e.us e.d = true) (hd : Dyn s e) : Apart2 s e := by
  unfold statB at hs
  simp only [Bool.and_eq_true] at hs
  obtain ⟨h4, h5⟩ := hs
  have f1 : ∀ d, e.d = some d → d ∉ s.us := fun d hd hm => by
    rw [hd] at h4; simp only at h4; rw [memB_iff.2 hm] at h4; cases h4
  have f2 : ∀ d, s.d = some d → d ∉ e.us := fun d hd hm => by
    rw [hd] at h5; simp only at h5; rw [memB_iff.2 hm] at h5; cases h5
  have f3 : ∀ d, s.d = some d → e.d ≠ some d := fun d hd he => by rw [hd, he] at h5; simp at h5
  exact ⟨hd.unseen, hd.kept, hd.other, f1, f2, f3⟩
def chk (m : Nat) (s : Rec) : List Rec → Prop
  | [] => True
  | e :: tr => (m.testBit tr.length = true ∨ Apart2 s e) ∧ chk m s tr
def stat1 (m : Nat) (us : List Tmp) (d : Option Tmp) : List (List Tmp × Option Tmp) → Bool
  | [] => true
  | e :: tr => (m.testBit tr.length || statB us d e.1 e.2) && stat1 m us d tr
def statL (ops : Array Oper) (ms : List Nat) : List Oper → List (List Tmp × Option Tmp) → Bool
  | [], _ => true
  | o :: l, tr => stat1 (ms.getD tr.length 0) (o.looksAt ops) o.dst tr && statL ops ms l ((o.looksAt ops, o.dst) :: tr)
def dynAll (m : Nat) (s : Rec) : List Wr → Bool
  | [] => true
  | p :: l => (m.testBit p.1 || dynB s p.2.1 p.2.2) && dynAll m s l
theorem dynAll_mem {m : Nat} {s : Rec} : ∀ {wr : List Wr}, dynAll m s wr = true → ∀ p ∈ wr, m.testBit p.1 = true ∨ dynB s p.2.1 p.2.2 = true
  | [], _, p, hp => by simp at hp
  | q :: l, h, p, hp => by
    simp only [dynAll, Bool.and_eq_true, Bool.or_eq_true] at h
    rcases List.mem_cons.1 hp with rfl | hp
    · exact h.1
    · exact dynAll_mem h.2 p hp
/-- those that look at memory, or change it, are all listed -/
def Cov (rd : List (Nat × Rec)) (wr : List Wr) : List Rec → Prop
  | [] => True
  | e :: tr => (Quiet e ∨ (Still e ∧ (tr.length, e) ∈ rd) ∨ (tr.length, e.ids, e) ∈ wr) ∧ Cov rd wr tr
theorem Cov.rd {rd : List (Nat × Rec)} {wr : List Wr} (p : Nat × Rec) : ∀ {tr : List Rec}, Cov rd wr tr → Cov (p :: rd) wr tr
  | [], _ => trivial
  | _ :: _, h => ⟨h.1.imp id (.imp (fun h => ⟨h.1, List.mem_cons_of_mem _ h.2⟩) id), Cov.rd p h.2⟩
theorem Cov.wr {rd : List (Nat × Rec)} {wr : List Wr} (p : Wr) : ∀ {tr : List Rec}, Cov rd wr tr → Cov rd (p :: wr) tr
  | [], _ => trivial
  | _ :: _, h => ⟨h.1.imp id (.imp id fun h => List.mem_cons_of_mem _ h), Cov.wr p h.2⟩
theorem chk_of {m : Nat} {s : Rec} {rd : List (Nat × Rec)} {wr : List Wr} (h1 : Quiet s ∨ ((∀ k e, Still e → (k, e) ∈ rd → m.testBit k = true ∨ Dyn s e) ∧ ∀ k e, (k, Rec.ids e, e) ∈ wr → m.testBit k = true ∨ Dyn s e)) : ∀ tr : List Rec, Cov rd wr tr → stat1 m s.us s.d (tr.map fun e => (e.us, e.d)) = true → chk m s tr
  | [], _, _ => trivial
  | e :: tr, hc, hs => by
    simp only [List.map_cons, stat1, Bool.and_eq_true, Bool.or_eq_true, List.length_map] at hs
    refine ⟨?_, chk_of h1 tr hc.2 hs.2⟩
    rcases hs.1 with h2 | h2
    · exact .inl h2
    · rcases h1 with hq | hd
      · exact .inr (apart_of h2 (dyn_quiet1 hq))
      · rcases hc.1 with hq | hm | hm
        · exact .inr (apart_of h2 (dyn_quiet2 hq))
        · exact (hd.1 _ _ hm.1 hm.2).imp id (apart_of h2)
        · exact (hd.2 _ _ hm).imp id (apart_of h2)
def ancOf (ms : List Nat) (o : Oper) : Nat := o.after.toList.foldl (fun s e => bif Region.binds .any e then s ||| 2 ^ e.on ||| ms.getD e.on 0 else s) 0
def ancs : List Oper → List Nat → List Nat
  | [], ms => ms
  | o :: l, ms => ancs l (ms ++ [ancOf ms o])
def edgesOk : List Oper → Nat → Bool
  | [], _ => true
  | o :: l, i => o.after.toList.all (fun e => !Region.binds .any e || Nat.blt e.on i) && edgesOk l (i + 1)
def noLog : List Nat → Bool
  | [] => true
  | _ :: _ => false
/-- is all well with an operation's record? -/
def recOk (m : Nat) (s : Rec) (rd : List (Nat × Rec)) (wr : List Wr) : Bool :=
  dynAll m s wr && (noLog s.R.log || rd.all fun p => m.testBit p.1 || dynB s (Rec.ids p.2) p.2)
section
variable {β : Type}
/-- operations in any order -/
def tdr (T : Tys) (C : Orc) (N : Nat) (ops : Array Oper) (ms : List Nat) : List Oper → Nat → List (Nat × Rec) → List Wr → Mem → LH → (Mem → LH → Option β) → Option β
  | [], _, _, _, t, H, k => k t H
  | o :: l, i, rd, wr, t, H, k => tguard ops t o fun t g =>
    bif g then
      bif quietB o then topK T C o (xev t) ⟨.lf, H.next, []⟩ fun v R => bif Nat.beq R.next H.next && noLog R.log then tput N t o.dst v fun t => tdr T C N ops ms l (i + 1) rd wr t H k else none
      else topK T C o (xev t) (sees o (o.looksAt ops) t H) fun v R =>
        bif recOk (ms.getD i 0) ⟨sees o (o.looksAt ops) t H, R, v, o.dst, o.looksAt ops⟩ rd wr then tput N t o.dst v fun t' => match Rec.ids ⟨sees o (o.looksAt ops) t H, R, v, o.dst, o.looksAt ops⟩ with
          | [] => tdr T C N ops ms l (i + 1) ((i, ⟨sees o (o.looksAt ops) t H, R, v, o.dst, o.looksAt ops⟩) :: rd) wr t' ⟨H.t, R.next, R.log ++ H.log⟩ k
          | x :: ids => tdr T C N ops ms l (i + 1) rd ((i, x :: ids, ⟨sees o (o.looksAt ops) t H, R, v, o.dst, o.looksAt ops⟩) :: wr) t' ⟨setAll R.get (x :: ids) H.t, R.next, R.log ++ H.log⟩ k
        else none
    else tput N t o.dst (.tup []) fun t => tdr T C N ops ms l (i + 1) rd wr t H k
end
def regionOk (ops : Array Oper) : Bool := edgesOk ops.toList 0 && statL ops (ancs ops.toList []) ops.toList []
def tdraw {β : Type} (T : Tys) (C : Orc) (N : Nat) (ops : Array Oper) (t : Mem) (H : LH) (k : Mem → LH → Option β) : Option β :=
  bif regionOk ops then tdr T C N ops (ancs ops.toList []) ops.toList 0 [] [] t H k else none
/-- the facts of one operation's record -/
structure RecOK (P : Program) (ops : Array Oper) (ms : List Nat) (N i : Nat) (s : Rec) (tr : List Rec) (t : Mem) (H : LH) : Prop where
  oper : ∃ o g, ops[i]? = some o ∧ xguard ops t o = some g ∧ s.us = o.looksAt ops ∧ s.d = o.dst ∧ (g = true → OpOK P o (evR s.us t) s.K (s.l, s.R)) ∧ (g = false → s.l = .tup [] ∧ s.R = s.K)
  next : s.K.next = H.next
  log : s.K.log = []
  get : ∀ b cs, s.K.get b = some cs → H.get b = some cs
  chk : chk (ms.getD i 0) s tr
  dst : ∀ d, s.d = some d → d < N
inductive Tc (P : Program) (ops : Array Oper) (ms : List Nat) (N : Nat) (t0 : Mem) (H0 : LH) : List Rec → Mem → LH → Prop
  | nil : Tc P ops ms N t0 H0 [] t0 H0
  | cons {tr : List Rec} {t t' : Mem} {H : LH} {s : Rec} (h : Tc P ops ms N t0 H0 tr t H) (hs : RecOK P ops ms N tr.length s tr t H) (ht : xput N t s.d s.l = some t') : Tc P ops ms N t0 H0 (s :: tr) t' (merge H s)
section
variable {P : Program} {T : Tys} {C : Orc} {ops : Array Oper} {ms : List Nat} {N : Nat} {t0 : Mem} {H0 : LH} {β : Type} {b : β}
theorem evR_xev {us : List Tmp} {t : Mem} {x : Operand} (h : ∀ d, x = .tmp d → d ∈ us) : evR us t x = xev t x := by
  cases x with
  | tmp d => simp only [evR, memB_iff.2 (h d rfl), cond_true]
  | _ => rfl
theorem top_evR {o : Oper} {ops : Array Oper} {t : Mem} (K : LH) (k : LV → LH → Option β) : topK T C o (evR (o.looksAt ops) t) K k = topK T C o (xev t) K k :=
  top_congr (fun x hx => evR_xev fun d hd => by
    subst hd
    unfold Oper.looksAt
    exact List.mem_append_left _ (List.mem_filterMap.2 ⟨_, hx, rfl⟩)) K k
theorem merge_still {s : Rec} {H : LH} (h : Rec.ids s = []) : merge H s = ⟨H.t, s.R.next, s.R.log ++ H.log⟩ := by
  unfold merge; rw [h]; rfl
theorem quiet_rec {n : Nat} {R : LH} {v : LV} {d : Option Tmp} {us : List Tmp} (h1 : Nat.beq R.next n = true) (h2 : noLog R.log = true) : Quiet ⟨⟨.lf, n, []⟩, R, v, d, us⟩ := by
  rw [Nat.beq_eq] at h1
  have h2' : R.log = [] := by
    cases hl : R.log with
    | nil => rfl
    | cons x xs => rw [hl] at h2; cases h2
  refine ⟨fun b => LH.get_lf _ _ b, fun b hb => ?_, h2'⟩
  rcases hb with h3 | ⟨h3, h4⟩
  · simp only [h2'] at h3; simp at h3
  · simp only at h3 h4; omega
theorem tdr_tc (hT : TysOK P T) (hC : OrcOK P C) : ∀ (l : List Oper) {i : Nat} {rd : List (Nat × Rec)} {wr : List Wr} {tr : List Rec} {t : Mem} {H : LH} {k : Mem → LH → Option β}, tdr T C N ops ms l i rd wr t H k = some b → Tc P ops ms N t0 H0 tr t H → tr.length = i → Cov rd wr tr → statL ops ms l (tr.map fun e => (e.us, e.d)) = true →
    (∀ j, l[j]? = ops[i + j]?) → ∃ tr' t' H', k t' H' = some b ∧ Tc P ops ms N t0 H0 tr' t' H' ∧ tr'.length = i + l.length
  | [], i, rd, wr, tr, t, H, k, hx, htc, hi, _, _, _ => ⟨tr, t, H, hx, htc, hi⟩
  | o :: l, i, rd, wr, tr, t, H, k, hx, htc, hi, hcov, hst, hl => by
    have h0 : ops[i]? = some o := by have := hl 0; simpa using this.symm
    simp only [statL, Bool.and_eq_true, List.length_map, hi] at hst
    obtain ⟨hst1, hst2⟩ := hst
    have hnext : ∀ j, l[j]? = ops[(i + 1) + j]? := fun j => by
      have := hl (j + 1)
      simp only [List.getElem?_cons_succ] at this
      rw [this]; congr 1; omega
    have hdst : ∀ {v : LV} {t1 : Mem}, xput N t o.dst v = some t1 → ∀ d, o.dst = some d → d < N := fun {v t1} ht1 d hd => by
      rw [hd] at ht1
      simp only [xput] at ht1
      rw [Bool.cond_eq_ite] at ht1
      split at ht1
      · rename_i hcc; simpa [Nat.blt_eq] using hcc
      · cases ht1
    -- what is left, for any record of this operation
    have go : ∀ {s : Rec} {rd' : List (Nat × Rec)} {wr' : List Wr} {t1 : Mem} {H1 : LH} {g : Bool}, s.us = o.looksAt ops → s.d = o.dst → xguard ops t o = some g → (g = true → OpOK P o (evR (o.looksAt ops) t) s.K (s.l, s.R)) → (g = false → s.l = .tup [] ∧ s.R = s.K) →
        s.K.next = H.next → s.K.log = [] → (∀ b cs, s.K.get b = some cs → H.get b = some cs) → (Quiet s ∨ ((∀ k e, Still e → (k, e) ∈ rd → (ms.getD i 0).testBit k = true ∨ Dyn s e) ∧ ∀ k e, (k, Rec.ids e, e) ∈ wr → (ms.getD i 0).testBit k = true ∨ Dyn s e)) →
        xput N t o.dst s.l = some t1 → merge H s = H1 → Cov rd' wr' (s :: tr) → tdr T C N ops ms l (i + 1) rd' wr' t1 H1 k = some b → ∃ tr' t' H', k t' H' = some b ∧ Tc P ops ms N t0 H0 tr' t' H' ∧ tr'.length = i + (o :: l).length := by
      intro s rd' wr' t1 H1 g hu hd hg ht hf hn hlog hget hch hput hmer hcv hx
      have hchk : chk (ms.getD i 0) s tr := chk_of hch tr hcov (by rw [hu, hd]; exact hst1)
      have hok : RecOK P ops ms N tr.length s tr t H := by
        rw [hi]
        exact ⟨⟨o, g, h0, hg, hu, hd, fun hgt => by rw [hu]; exact ht hgt, hf⟩, hn, hlog, hget, hchk, by rw [hd]; exact hdst hput⟩
      obtain ⟨tr', t', H', e1, e2, e3⟩ := tdr_tc hT hC l (tr := s :: tr) hx (hmer ▸ Tc.cons htc hok (by rw [hd]; exact hput)) (by simp [hi]) hcv (by rw [List.map_cons, hu, hd]; exact hst2) hnext
      exact ⟨tr', t', H', e1, e2, by rw [e3]; simp; omega⟩
    -- a quiet record
    have goQ : ∀ {v : LV} {t1 : Mem} {R : LH} {g : Bool}, xguard ops t o = some g → (g = true → OpOK P o (evR (o.looksAt ops) t) ⟨.lf, H.next, []⟩ (v, R)) → (g = false → v = .tup [] ∧ R = ⟨.lf, H.next, []⟩) → Nat.beq R.next H.next = true → noLog R.log = true → xput N t o.dst v = some t1 → tdr T C N ops ms l (i + 1) rd wr t1 H k = some b →
        ∃ tr' t' H', k t' H' = some b ∧ Tc P ops ms N t0 H0 tr' t' H' ∧ tr'.length = i + (o :: l).length := by
      intro v t1 R g hg ht hf hR1 hR2 hput hx
      have hq : Quiet ⟨⟨.lf, H.next, []⟩, R, v, o.dst, o.looksAt ops⟩ := quiet_rec hR1 hR2
      refine go (s := ⟨⟨.lf, H.next, []⟩, R, v, o.dst, o.looksAt ops⟩) (rd' := rd) (wr' := wr) (H1 := H) rfl rfl hg ht hf rfl rfl (fun b cs hb => (LH.no hb).elim) (.inl hq) hput ?_ ⟨.inl hq, hcov⟩ hx
      have hids : Rec.ids ⟨⟨.lf, H.next, []⟩, R, v, o.dst, o.looksAt ops⟩ = [] := by
        cases hid : Rec.ids ⟨⟨.lf, H.next, []⟩, R, v, o.dst, o.looksAt ops⟩ with
        | nil => rfl
        | cons x xs => exact absurd (Rec.mem_ids.1 (by rw [hid]; exact List.mem_cons_self ..)) (hq.dom x)
      rw [merge_still hids]
      have e1 : R.log = [] := hq.log
      have e2 : R.next = H.next := Nat.eq_of_beq_eq_true hR1
      simp only [e1, e2, List.nil_append]
    rw [tdr] at hx
    obtain ⟨g, hg, hx⟩ := tguard_ok hx
    cases g with
    | false =>
      rw [cond_false] at hx
      obtain ⟨t1, hx, ht1⟩ := put_ok hx
      exact goQ hg (fun h => by cases h) (fun _ => ⟨rfl, rfl⟩) (Nat.beq_refl _) rfl ht1 hx
    | true =>
      rw [cond_true] at hx
      cases hq : quietB o with
      | true =>
        rw [hq, cond_true, ← top_evR (ops := ops)] at hx
        obtain ⟨r, hx, hop⟩ := top_ok hT hC hx
        rw [Bool.cond_eq_ite] at hx
        split at hx
        · rename_i hc
          rw [Bool.and_eq_true] at hc
          obtain ⟨t1, hx, ht1⟩ := put_ok hx
          exact goQ hg (fun _ => hop) (fun h => by cases h) hc.1 hc.2 ht1 hx
        · cases hx
      | false =>
        rw [hq, cond_false, ← top_evR (ops := ops)] at hx
        obtain ⟨r, hx, hop⟩ := top_ok hT hC hx
        generalize hK : sees o (o.looksAt ops) t H = K at hx hop
        generalize hS : (⟨K, r.2, r.1, o.dst, o.looksAt ops⟩ : Rec) = s at hx
        rw [Bool.cond_eq_ite] at hx
        split at hx
        · rename_i hc
          obtain ⟨t1, hx, ht1⟩ := put_ok hx
          unfold recOk at hc
          simp only [Bool.and_eq_true, Bool.or_eq_true] at hc
          obtain ⟨hc1, hc2⟩ := hc
          have hsd : s.d = o.dst := by rw [← hS]
          have hsu : s.us = o.looksAt ops := by rw [← hS]
          have hsl : s.l = r.1 := by rw [← hS]
          have hsK : s.K = K := by rw [← hS]
          have hsR : s.R = r.2 := by rw [← hS]
          have hdy : (∀ k e, Still e → (k, e) ∈ rd → (ms.getD i 0).testBit k = true ∨ Dyn s e) ∧ ∀ k e, (k, Rec.ids e, e) ∈ wr → (ms.getD i 0).testBit k = true ∨ Dyn s e := by
            refine ⟨fun k e he hm => ?_, fun k e hm => (dynAll_mem hc1 _ hm).imp id fun h => dyn_of h⟩
            rcases hc2 with hc2 | hc2
            · refine .inr (dyn_still ?_ he)
              cases hlg : s.R.log with
              | nil => rfl
              | cons x xs => rw [hlg] at hc2; cases hc2
            · rw [List.all_eq_true] at hc2
              have := hc2 _ hm
              rw [Bool.or_eq_true] at this
              exact this.imp id fun h => dyn_of h
          have hn : s.K.next = H.next := by rw [hsK, ← hK]; exact sees_next ..
          have hlg : s.K.log = [] := by rw [hsK, ← hK]; exact sees_log ..
          have hgt : ∀ b cs, s.K.get b = some cs → H.get b = some cs := fun b cs hb => by rw [hsK, ← hK] at hb; exact sees_get hb
          have hop' : OpOK P o (evR (o.looksAt ops) t) s.K (s.l, s.R) := by rw [hsK, hsl, hsR]; exact hop
          have hput : xput N t o.dst s.l = some t1 := by rw [hsl]; exact ht1
          cases hid : Rec.ids s with
          | nil =>
            rw [hid] at hx
            have hst : Still s := by
              have hdom : ∀ b, ¬ s.dom b := fun b hb => by have := Rec.mem_ids.2 hb; rw [hid] at this; simp at this
              refine ⟨hdom, ?_⟩
              cases hl2 : s.R.log with
              | nil => rfl
              | cons x xs => exact absurd (.inl (by rw [hl2]; exact List.mem_cons_self ..)) (hdom x)
            exact go hsu hsd hg (fun _ => hop') (fun h => by cases h) hn hlg hgt (.inr hdy) hput (merge_still hid) ⟨.inr (.inl ⟨hst, by rw [hi]; exact List.mem_cons_self ..⟩), hcov.rd _⟩ (by rw [← hsR] at hx; exact hx)
          | cons x ids =>
            rw [hid] at hx
            exact go hsu hsd hg (fun _ => hop') (fun h => by cases h) hn hlg hgt (.inr hdy) hput (by unfold merge; rw [hid]) ⟨.inr (.inr (by rw [hi, hid]; exact List.mem_cons_self ..)), hcov.wr _⟩ (by rw [← hsR] at hx; exact hx)
        · cases hx
end
end Go.Tx

namespace Go.Tx
open Go
section
variable {P : Program} {ops : Array Oper} {ms : List Nat} {N : Nat} {t0 : Mem} {H0 : LH} {M : Nat}
/-- the memory behind some of the operations -/
def Gt (H0 : LH) : List Rec → (Nat → Bool) → Nat → Option Ob
  | [], _, b => H0.get b
  | s :: tr, L, b => bif L tr.length && memB s.ids b then s.R.get b else Gt H0 tr L b
def Tt (t0 : Mem) : List Rec → (Nat → Bool) → Nat → Option LV
  | [], _, d => t0.get d
  | s :: tr, L, d => if L tr.length = true ∧ s.d = some d then some s.l else Tt t0 tr L d
def Wn : List Rec → Nat → Nat → Prop
  | [], _, _ => False
  | s :: tr, j, b => (j = tr.length ∧ s.K.next ≤ b ∧ b < s.R.next) ∨ Wn tr j b
theorem memB_ids {s : Rec} {b : Nat} (h : s.dom b) : memB s.ids b = true := memB_iff.2 (Rec.mem_ids.2 h)
theorem memB_ids_not {s : Rec} {b : Nat} (h : ¬ s.dom b) : memB s.ids b = false := by
  cases hm : memB s.ids b with
  | false => rfl
  | true => exact absurd (Rec.mem_ids.1 (memB_iff.1 hm)) h
theorem xput_get {t t' : Mem} {d : Option Tmp} {l : LV} (h : xput N t d l = some t') (x : Nat) : t'.get x = if d = some x then some l else t.get x := by
  cases d with
  | none => simp only [xput, Option.some.injEq] at h; subst h; simp
  | some d =>
    simp only [xput] at h
    rw [Bool.cond_eq_ite] at h
    split at h
    · injection h with h; subst h
      rw [Tr.get_set]
      by_cases he : x = d
      · subst he; simp
      · rw [if_neg he, if_neg (by simpa using Ne.symm he)]
    · cases h
theorem RecOK.logged {i : Nat} {s : Rec} {tr : List Rec} {t : Mem} {H : LH} (h : RecOK P ops ms N i s tr t H) : Logged s.K s.R := by
  obtain ⟨o, g, _, _, _, _, h1, h2⟩ := h.oper
  cases g with
  | true => exact (h1 rfl).1
  | false => rw [(h2 rfl).2]; exact Logged.refl _
theorem Tc.full {tr : List Rec} {t : Mem} {H : LH} (h : Tc P ops ms N t0 H0 tr t H) : (∀ b, H.get b = Gt H0 tr (fun _ => true) b) ∧ (∀ d, t.get d = Tt t0 tr (fun _ => true) d) := by
  induction h with
  | nil => exact ⟨fun _ => rfl, fun _ => rfl⟩
  | cons h hs ht ih =>
    rename_i tr t t' H s
    refine ⟨fun b => ?_, fun d => ?_⟩
    · classical
      rw [merge_get]
      simp only [Gt, Bool.true_and]
      by_cases hd : s.dom b
      · rw [if_pos hd, memB_ids hd]; rfl
      · rw [if_neg hd, memB_ids_not hd]; exact ih.1 b
    · rw [xput_get ht]
      simp only [Tt, true_and]
      rw [ih.2 d]
theorem Tc.next {tr : List Rec} {t : Mem} {H : LH} (h : Tc P ops ms N t0 H0 tr t H) : H0.next ≤ H.next := by
  induction h with
  | nil => exact Nat.le_refl _
  | cons h hs ht ih =>
    rename_i tr t t' H s
    have := (hs.logged).next
    show H0.next ≤ s.R.next
    rw [hs.next] at this; omega
theorem Tc.bnd (h0 : ∀ b cs, H0.get b = some cs → b < H0.next) {tr : List Rec} {t : Mem} {H : LH} (h : Tc P ops ms N t0 H0 tr t H) : ∀ b cs, H.get b = some cs → b < H.next := by
  induction h with
  | nil => exact h0
  | cons h hs ht ih =>
    rename_i tr t t' H s
    intro b cs hb
    classical
    rw [merge_get] at hb
    have hl := hs.logged
    show b < s.R.next
    split at hb
    · exact hl.bnd (fun x c hx => by rw [hs.next]; exact ih x c (hs.get x c hx)) b cs hb
    · have := ih b cs hb
      have h2 := hl.next
      rw [hs.next] at h2; omega
theorem Tc.wn {tr : List Rec} {t : Mem} {H : LH} (h : Tc P ops ms N t0 H0 tr t H) : ∀ j b, Wn tr j b → H0.next ≤ b ∧ b < H.next := by
  induction h with
  | nil => intro j b hw; exact hw.elim
  | cons h hs ht ih =>
    rename_i tr t t' H s
    intro j b hw
    have h2 := (hs.logged).next
    have h3 := h.next
    have h4 := hs.next
    show H0.next ≤ b ∧ b < s.R.next
    rcases hw with ⟨_, h5, h6⟩ | hw
    · omega
    · have := ih j b hw; omega
theorem Tc.wn_one {tr : List Rec} {t : Mem} {H : LH} (h : Tc P ops ms N t0 H0 tr t H) : ∀ j k b, Wn tr j b → Wn tr k b → j = k := by
  induction h with
  | nil => intro j k b hw; exact hw.elim
  | cons h hs ht ih =>
    rename_i tr t t' H s
    intro j k b h1 h2
    have h4 := hs.next
    rcases h1 with ⟨e1, a1, a2⟩ | h1 <;> rcases h2 with ⟨e2, c1, c2⟩ | h2
    · rw [e1, e2]
    · have := h.wn k b h2; omega
    · have := h.wn j b h1; omega
    · exact ih j k b h1 h2
theorem wn_split {s : Rec} {tr : List Rec} {b : Nat} (hb : s.K.next ≤ b ∧ b < s.R.next) : ∀ pre : List Rec, Wn (pre ++ s :: tr) tr.length b
  | [] => .inl ⟨rfl, hb⟩
  | _ :: p => .inr (wn_split hb p)
def Aft (ms : List Nat) (s : Rec) (i : Nat) : List Rec → Prop
  | [] => True
  | e :: p => ((ms.getD (i + 1 + p.length) 0).testBit i = true ∨ Apart2 e s) ∧ s.R.next ≤ e.K.next ∧ Aft ms s i p
theorem chk_at {m : Nat} {s e : Rec} {tr : List Rec} : ∀ pre : List Rec, chk m s (pre ++ e :: tr) → m.testBit tr.length = true ∨ Apart2 s e
  | [], h => h.1
  | _ :: p, h => chk_at p h.2
/-- the record of an operation, those before it and those behind it -/
structure Spl (P : Program) (ops : Array Oper) (ms : List Nat) (N : Nat) (t0 : Mem) (H0 : LH) (tr : List Rec) (H : LH) (i : Nat) (pre : List Rec) (s : Rec) (tr' : List Rec) (t' : Mem) (H' : LH) : Prop where
  eq : tr = pre ++ s :: tr'
  len : tr'.length = i
  tc : Tc P ops ms N t0 H0 tr' t' H'
  ok : RecOK P ops ms N i s tr' t' H'
  aft : Aft ms s i pre
  le : s.R.next ≤ H.next
theorem Tc.at {tr : List Rec} {t : Mem} {H : LH} (h : Tc P ops ms N t0 H0 tr t H) : ∀ i, i < tr.length → ∃ pre s tr' t' H', Spl P ops ms N t0 H0 tr H i pre s tr' t' H' := by
  induction h with
  | nil => intro i hi; simp at hi
  | cons h hs ht ih =>
    rename_i tr t t' H s
    intro i hi
    rcases Nat.lt_or_ge i tr.length with hlt | hge
    · obtain ⟨pre, e, tr', t2, H2, sp⟩ := ih i hlt
      have hlen : tr.length = i + 1 + pre.length := by rw [sp.eq, List.length_append, List.length_cons, sp.len]; omega
      refine ⟨s :: pre, e, tr', t2, H2, by rw [sp.eq]; rfl, sp.len, sp.tc, sp.ok, ⟨?_, ?_, sp.aft⟩, ?_⟩
      · have hc := hs.chk
        rw [sp.eq] at hc
        have := chk_at pre hc
        rw [sp.len] at this
        rw [← sp.eq, hlen] at this
        exact this
      · rw [hs.next]; exact sp.le
      · have := (hs.logged).next
        show e.R.next ≤ s.R.next
        rw [hs.next] at this; have := sp.le; omega
    · simp only [List.length_cons] at hi
      have he : i = tr.length := by omega
      subst he
      exact ⟨[], s, tr, t, H, rfl, rfl, h, hs, trivial, Nat.le_refl _⟩
section split
variable {tr' pre : List Rec} {s : Rec} {i : Nat} {L : Nat → Bool}
theorem Gt_skip (hlen : tr'.length = i) (hn : s.K.next ≤ s.R.next) (hno : ∀ j, i < j → L j = true → (ms.getD j 0).testBit i = false) {b : Nat} (hb : ((s.K.get b).isSome = true ∧ b < s.K.next) ∨ s.dom b) :
    ∀ pre, Aft ms s i pre → Gt H0 (pre ++ s :: tr') L b = Gt H0 (s :: tr') L b
  | [], _ => rfl
  | e :: p, ha => by
    rw [List.cons_append, Gt]
    have hidx : (p ++ s :: tr').length = i + 1 + p.length := by rw [List.length_append, List.length_cons, hlen]; omega
    rw [hidx]
    cases hL : L (i + 1 + p.length) with
    | false => exact Gt_skip hlen hn hno hb p ha.2.2
    | true =>
      have hm := hno _ (by omega) hL
      have hap : Apart2 e s := ha.1.resolve_left (by rw [hm]; simp)
      have hnd : ¬ e.dom b := by
        intro hd
        have hlow := ha.2.1
        rcases hd with hl | ⟨h1, h2⟩
        · have := hap.kept b hl
          rcases hb with ⟨hk, _⟩ | hk
          · rw [this.1] at hk; simp at hk
          · exact this.2 hk
        · rcases hb with ⟨_, hk⟩ | hk
          · omega
          · rcases hk with hk | hk
            · exact hap.other b hk (.inr ⟨h1, h2⟩)
            · omega
      rw [memB_ids_not hnd]
      exact Gt_skip hlen hn hno hb p ha.2.2
theorem Tt_skip (hlen : tr'.length = i) (hno : ∀ j, i < j → L j = true → (ms.getD j 0).testBit i = false) {d : Nat} (hd : d ∈ s.us ∨ s.d = some d) :
    ∀ pre, Aft ms s i pre → Tt t0 (pre ++ s :: tr') L d = Tt t0 (s :: tr') L d
  | [], _ => rfl
  | e :: p, ha => by
    rw [List.cons_append, Tt]
    have hidx : (p ++ s :: tr').length = i + 1 + p.length := by rw [List.length_append, List.length_cons, hlen]; omega
    rw [hidx, if_neg]
    · exact Tt_skip hlen hno hd p ha.2.2
    · rintro ⟨hL, he⟩
      have hm := hno _ (by omega) hL
      have hap : Apart2 e s := ha.1.resolve_left (by rw [hm]; simp)
      rcases hd with hd | hd
      · exact hap.us' d he hd
      · exact hap.dd d he hd
theorem Gt_all {m : Nat} (hL : ∀ j, m.testBit j = true → L j = true) {b : Nat} (hb : (s.K.get b).isSome = true) : ∀ tr : List Rec, chk m s tr → Gt H0 tr L b = Gt H0 tr (fun _ => true) b
  | [], _ => rfl
  | e :: p, h => by
    rw [Gt, Gt, Gt_all hL hb p h.2]
    rcases h.1 with h1 | h1
    · rw [hL _ h1]
    · have hnd : ¬ e.dom b := fun hd => by rw [h1.unseen b hd] at hb; simp at hb
      rw [memB_ids_not hnd]; simp
theorem Tt_all {m : Nat} (hL : ∀ j, m.testBit j = true → L j = true) {d : Nat} (hd : d ∈ s.us) : ∀ tr : List Rec, chk m s tr → Tt t0 tr L d = Tt t0 tr (fun _ => true) d
  | [], _ => rfl
  | e :: p, h => by
    rw [Tt, Tt, Tt_all hL hd p h.2]
    rcases h.1 with h1 | h1
    · rw [hL _ h1]
    · have hne : e.d ≠ some d := fun he => h1.us d he hd
      rw [if_neg (fun h => hne h.2), if_neg (fun h => hne h.2)]
theorem Gt_ext {L' : Nat → Bool} {b : Nat} : ∀ tr : List Rec, (∀ j, j < tr.length → L j = L' j) → Gt H0 tr L b = Gt H0 tr L' b
  | [], _ => rfl
  | e :: p, h => by rw [Gt, Gt, h p.length (by simp), Gt_ext p (fun j hj => h j (by simp; omega))]
theorem Tt_ext {L' : Nat → Bool} {b : Nat} : ∀ tr : List Rec, (∀ j, j < tr.length → L j = L' j) → Tt t0 tr L b = Tt t0 tr L' b
  | [], _ => rfl
  | e :: p, h => by rw [Tt, Tt, h p.length (by simp), Tt_ext p (fun j hj => h j (by simp; omega))]
theorem Gt_set {L' : Nat → Bool} (hlen : tr'.length = i) (hLL : ∀ j, j ≠ i → L' j = L j) {b : Nat} (hb : ¬ s.dom b) : ∀ pre : List Rec, Gt H0 (pre ++ s :: tr') L' b = Gt H0 (pre ++ s :: tr') L b
  | [] => by
    rw [List.nil_append, Gt, Gt, memB_ids_not hb, Bool.and_false, Bool.and_false]
    exact Gt_ext tr' (fun j hj => hLL j (by omega))
  | e :: p => by
    rw [List.cons_append, Gt, Gt, hLL _ (by rw [List.length_append, List.length_cons, hlen]; omega), Gt_set hlen hLL hb p]
theorem Tt_set {L' : Nat → Bool} (hlen : tr'.length = i) (hLL : ∀ j, j ≠ i → L' j = L j) {b : Nat} (hb : s.d ≠ some b) : ∀ pre : List Rec, Tt t0 (pre ++ s :: tr') L' b = Tt t0 (pre ++ s :: tr') L b
  | [] => by
    rw [List.nil_append, Tt, Tt, if_neg (fun h => hb h.2), if_neg (fun h => hb h.2)]
    exact Tt_ext tr' (fun j hj => hLL j (by omega))
  | e :: p => by
    rw [List.cons_append, Tt, Tt, hLL _ (by rw [List.length_append, List.length_cons, hlen]; omega), Tt_set hlen hLL hb p]
end split
/-- where some operations of a region have been carried out -/
structure Inv (D : List Deferred) (M N : Nat) (ms : List Nat) (t0 : Mem) (H0 : LH) (η0 : Emb) (w0 : World) (tr : List Rec) (Hn : LH) (L : Nat → Bool) (η : Emb) (a : Act) (w : World) : Prop where
  cl : ∀ j k, L j = true → (ms.getD j 0).testBit k = true → L k = true
  live : ∀ b cs, Gt H0 tr L b = some cs → Lv η w b cs
  inj : ∀ b1 b2 cs1 cs2 L1 L2, Gt H0 tr L b1 = some cs1 → Gt H0 tr L b2 = some cs2 → η.loc b1 = some L1 → η.loc b2 = some L2 → L1.block = L2.block → b1 = b2
  lt : ∀ b cs, Gt H0 tr L b = some cs → b < Hn.next
  dom : ∀ b, H0.next ≤ b → b < M → (∀ j, L j = true → ¬ Wn tr j b) → η.loc b = none ∧ η.hdr b = none
  le : η0.le η
  win : ∀ b, (b < H0.next ∨ Hn.next ≤ b) → η.loc b = η0.loc b ∧ η.hdr b = η0.hdr b
  tmp : ∀ d l, Tt t0 tr L d = some l → ∃ v, a.tmps[d]? = some v ∧ VR η l v
  size : N ≤ a.tmps.size
  defers : a.defers = D
  wsize : w0.heap.size ≤ w.heap.size
  same : ∀ k, k < w0.heap.size → ¬ LB H0 η0 k → w.heap[k]? = w0.heap[k]?
  lb : ∀ b cs Lc, Gt H0 tr L b = some cs → η.loc b = some Lc → LB H0 η0 Lc.block ∨ w0.heap.size ≤ Lc.block
  fz : ∀ k ob, η.fz k = some ob → w.heap[k]? = some ob
  sep : ∀ b cs Lc, Gt H0 tr L b = some cs → η.loc b = some Lc → η.fz Lc.block = none
  ok : η.ok
  fzn : ∀ k ob, η.fz k = some ob → η0.fz k = some ob ∨ LB H0 η0 k ∨ w0.heap.size ≤ k
  os : w.os = w0.os
  tape : w.tape = w0.tape
  output : w.output = w0.output
  drawn : w0.drawn ≤ w.drawn
variable {D : List Deferred} {η0 : Emb} {w0 : World}
theorem inv_step (hb0 : ∀ b cs, H0.get b = some cs → b < H0.next) {tr : List Rec} {tn : Mem} {Hn : LH} (htc : Tc P ops ms N t0 H0 tr tn Hn) (hM : Hn.next ≤ M)
    {i : Nat} (hi : i < tr.length) {L L' : Nat → Bool} (hLi : L i = false) (hL' : L' i = true) (hLL : ∀ j, j ≠ i → L' j = L j) (hanc : ∀ k, (ms.getD i 0).testBit k = true → L k = true)
    {η : Emb} {a : Act} {w : World} (inv : Inv D M N ms t0 H0 η0 w0 tr Hn L η a w) {Q : Exit → Act → World → Prop} {K : Act → World → Prop}
    (hK : ∀ a' w' η', Inv D M N ms t0 H0 η0 w0 tr Hn L' η' a' w' → K a' w') : wpOp P ops Q i K a w := by
  obtain ⟨pre, s, tr', t', H', sp⟩ := htc.at i hi
  have heq := sp.eq
  have hlog := sp.ok.logged
  have hKR := hlog.next
  have hbH := sp.tc.bnd hb0
  have hno : ∀ j, i < j → L j = true → (ms.getD j 0).testBit i = false := fun j hj hLj => by
    cases hm : (ms.getD j 0).testBit i with
    | false => rfl
    | true => have := inv.cl j i hLj hm; rw [hLi] at this; cases this
  have hno' : ∀ j, i < j → L' j = true → (ms.getD j 0).testBit i = false := fun j hj hLj => hno j hj (by rw [hLL j (by omega)] at hLj; exact hLj)
  have hKH : ∀ b cs, s.K.get b = some cs → Gt H0 tr L b = some cs := fun b cs hb => by
    have h1 := sp.ok.get b cs hb
    have hlt : b < s.K.next := by rw [sp.ok.next]; exact hbH b cs h1
    rw [heq, Gt_skip sp.len hKR hno (.inl ⟨by rw [hb]; rfl, hlt⟩) pre sp.aft, Gt, sp.len, hLi, Bool.false_and, cond_false, Gt_all hanc (by rw [hb]; rfl) tr' sp.ok.chk, ← sp.tc.full.1 b]
    exact h1
  have hTd : ∀ d, d ∈ s.us → Tt t0 tr L d = t'.get d := fun d hd => by
    rw [heq, Tt_skip sp.len hno (.inl hd) pre sp.aft, Tt, sp.len, if_neg (by rw [hLi]; simp), Tt_all hanc hd tr' sp.ok.chk, ← sp.tc.full.2 d]
  have hKlt : ∀ b cs, s.K.get b = some cs → b < s.K.next := fun b cs hb => by rw [sp.ok.next]; exact hbH b cs (sp.ok.get b cs hb)
  have hnx := sp.tc.next
  have hle := sp.le
  have hkn := sp.ok.next
  have hr : HR s.R.next η s.K w := by
    refine ⟨fun b h1 h2 => ?_, hKlt, fun b cs hb => inv.live b cs (hKH b cs hb), fun b1 b2 c1 c2 L1 L2 g1 g2 => inv.inj b1 b2 c1 c2 L1 L2 (hKH _ _ g1) (hKH _ _ g2), inv.fz, fun k ⟨b, cs, Lc, hb, hL, hk⟩ => hk ▸ inv.sep b cs Lc (hKH b cs hb) hL, inv.ok⟩
    refine inv.dom b (by omega) (by omega) fun j hLj hw => ?_
    have hwi : Wn tr i b := by rw [heq, ← sp.len]; exact wn_split ⟨h1, h2⟩ pre
    have := htc.wn_one j i b hw hwi
    rw [this, hLi] at hLj; cases hLj
  -- what comes behind the operation
  have main : ∀ v' w' η', VR η' s.l v' → Adv s.R.next s.K η w s.R η' w' → Inv D M N ms t0 H0 η0 w0 tr Hn L' η' (a.put s.d v') w' := by
    intro v' w' η' hv hadv
    have hG1 : ∀ b, s.dom b → Gt H0 tr L' b = s.R.get b := fun b hb => by
      rw [heq, Gt_skip sp.len hKR hno' (.inr hb) pre sp.aft, Gt, sp.len, hL', memB_ids hb]; rfl
    have hG2 : ∀ b, ¬ s.dom b → Gt H0 tr L' b = Gt H0 tr L b := fun b hb => by rw [heq]; exact Gt_set sp.len hLL hb pre
    have hkeep : ∀ b cs, ¬ s.dom b → s.K.get b = some cs → s.R.get b = some cs := fun b cs hb hk => by
      obtain ⟨l, hl, hs⟩ := hlog.log
      rw [hs b (hKlt b cs hk) (fun hm => hb (.inl (by rw [hl]; exact List.mem_append_left _ hm)))]; exact hk
    have hcase : ∀ b cs, Gt H0 tr L' b = some cs → (s.dom b ∧ s.R.get b = some cs) ∨ (¬ s.dom b ∧ Gt H0 tr L b = some cs) := fun b cs hb => by
      by_cases hd : s.dom b
      · rw [hG1 b hd] at hb; exact .inl ⟨hd, hb⟩
      · rw [hG2 b hd] at hb; exact .inr ⟨hd, hb⟩
    have hmid : ∀ b cs Lc, ¬ s.dom b → Gt H0 tr L b = some cs → η.loc b = some Lc → LB s.K η Lc.block → s.K.get b = some cs := fun b cs Lc hd hg hL ⟨b3, c3, L3, g3, e3, hb3⟩ => by
      have := inv.inj b3 b c3 cs L3 Lc (hKH b3 c3 g3) hg e3 hL hb3
      subst this
      rw [hKH _ _ g3] at hg; injection hg with hg; rw [← hg]; exact g3
    have hwin : ∀ b, ¬ s.dom b → η'.loc b = η.loc b ∧ η'.hdr b = η.hdr b := fun b hd => hadv.win b (by
      rcases Nat.lt_or_ge b s.K.next with h1 | h1
      · exact .inl h1
      · rcases Nat.lt_or_ge b s.R.next with h2 | h2
        · exact absurd (.inr ⟨h1, h2⟩) hd
        · exact .inr h2)
    refine ⟨fun j k hj hk => ?_, fun b cs hb => ?_, fun b1 b2 c1 c2 L1 L2 g1 g2 e1 e2 he => ?_, fun b cs hb => ?_, fun b h1 h2 hnw => ?_, Emb.le_trans inv.le hadv.le, fun b hb => ?_, fun d l hl => ?_, by rw [put_size]; exact inv.size, by rw [put_defers]; exact inv.defers,
      Nat.le_trans inv.wsize hadv.size, fun k hk hn => ?_, fun b cs Lc hb hL => ?_, hadv.hr.fz, fun b cs Lc hb hL => ?_, hadv.hr.ok, fun k ob hk => ?_, hadv.os.trans inv.os, hadv.tape.trans inv.tape, hadv.output.trans inv.output, Nat.le_trans inv.drawn hadv.drawn⟩
    · by_cases hji : j = i
      · subst hji
        have h1 := hanc k hk
        by_cases hki : k = j
        · subst hki; exact hL'
        · rw [hLL k hki]; exact h1
      · rw [hLL j hji] at hj
        have h1 := inv.cl j k hj hk
        by_cases hki : k = i
        · subst hki; exact hL'
        · rw [hLL k hki]; exact h1
    · rcases hcase b cs hb with ⟨hd, hR⟩ | ⟨hd, hg⟩
      · exact hadv.hr.live b cs hR
      · by_cases hex : ∃ Lc, η.loc b = some Lc ∧ LB s.K η Lc.block
        · obtain ⟨Lc, hL, hlb⟩ := hex
          exact hadv.hr.live b cs (hkeep b cs hd (hmid b cs Lc hd hg hL hlb))
        · exact (inv.live b cs hg).move hadv.le (hwin b hd).1 hadv.size fun Lc hL => hadv.same _ ((inv.live b cs hg).lt hL) fun hlb => hex ⟨Lc, hL, hlb⟩
    · have mixed : ∀ b1 b2 c1 c2 L1 L2, s.R.get b1 = some c1 → η'.loc b1 = some L1 → ¬ s.dom b2 → Gt H0 tr L b2 = some c2 → η'.loc b2 = some L2 → L1.block = L2.block → b1 = b2 := by
        intro b1 b2 c1 c2 L1 L2 hR1 e1 hd2 hg2 e2 he
        have e2' := e2
        rw [(hwin b2 hd2).1] at e2'
        rcases hadv.lb L1.block ⟨b1, c1, L1, hR1, e1, rfl⟩ with hlb | hlb
        · rw [he] at hlb
          exact hadv.hr.inj b1 b2 c1 c2 L1 L2 hR1 (hkeep b2 c2 hd2 (hmid b2 c2 L2 hd2 hg2 e2' hlb)) e1 e2 he
        · have := (inv.live b2 c2 hg2).lt e2'; omega
      rcases hcase b1 c1 g1 with ⟨hd1, hR1⟩ | ⟨hd1, hg1⟩ <;> rcases hcase b2 c2 g2 with ⟨hd2, hR2⟩ | ⟨hd2, hg2⟩
      · exact hadv.hr.inj _ _ _ _ _ _ hR1 hR2 e1 e2 he
      · exact mixed b1 b2 c1 c2 L1 L2 hR1 e1 hd2 hg2 e2 he
      · exact (mixed b2 b1 c2 c1 L2 L1 hR2 e2 hd1 hg1 e1 he.symm).symm
      · rw [(hwin b1 hd1).1] at e1; rw [(hwin b2 hd2).1] at e2
        exact inv.inj _ _ _ _ _ _ hg1 hg2 e1 e2 he
    · rcases hcase b cs hb with ⟨hd, hR⟩ | ⟨hd, hg⟩
      · have := hadv.hr.lt b cs hR; omega
      · exact inv.lt b cs hg
    · have hwi : ¬ (s.K.next ≤ b ∧ b < s.R.next) := fun hw => hnw i hL' (by rw [heq, ← sp.len]; exact wn_split hw pre)
      have hw2 := hadv.win b (by omega)
      rw [hw2.1, hw2.2]
      refine inv.dom b h1 h2 fun j hLj => hnw j ?_
      by_cases hji : j = i
      · subst hji; exact hL'
      · rw [hLL j hji]; exact hLj
    · have hw2 := hadv.win b (by omega)
      rw [hw2.1, hw2.2]; exact inv.win b hb
    · by_cases hd : s.d = some d
      · rw [heq, Tt_skip sp.len hno' (.inr hd) pre sp.aft, Tt, sp.len, if_pos ⟨hL', hd⟩] at hl
        injection hl with hl; subst hl
        have hdN : Nat.lt d N := sp.ok.dst d hd
        have hdS : Nat.lt d a.tmps.size := Nat.lt_of_lt_of_le hdN inv.size
        rw [hd]
        exact ⟨v', by simp only [Act.put]; rw [Array.getElem?_setIfInBounds, if_pos rfl]; exact if_pos hdS, hv⟩
      · rw [heq, Tt_set sp.len hLL hd pre, ← heq] at hl
        obtain ⟨v, h1, h2⟩ := inv.tmp d l hl
        refine ⟨v, ?_, h2.mono hadv.le⟩
        cases hsd : s.d with
        | none => exact h1
        | some e =>
          simp only [Act.put]
          rw [Array.getElem?_setIfInBounds, if_neg (fun he => hd (by rw [hsd, he]))]; exact h1
    · rw [← inv.same k hk hn]
      refine hadv.same k (Nat.lt_of_lt_of_le hk inv.wsize) fun ⟨b3, c3, L3, g3, e3, hb3⟩ => ?_
      rcases inv.lb b3 c3 L3 (hKH b3 c3 g3) e3 with h1 | h1
      · rw [hb3] at h1; exact hn h1
      · omega
    · rcases hcase b cs hb with ⟨hd, hR⟩ | ⟨hd, hg⟩
      · rcases hadv.lb Lc.block ⟨b, cs, Lc, hR, hL, rfl⟩ with ⟨b3, c3, L3, g3, e3, hb3⟩ | h1
        · rw [← hb3]; exact inv.lb b3 c3 L3 (hKH b3 c3 g3) e3
        · exact .inr (Nat.le_trans inv.wsize h1)
      · rw [(hwin b hd).1] at hL
        exact inv.lb b cs Lc hg hL
    · rcases hcase b cs hb with ⟨hd, hR⟩ | ⟨hd, hg⟩
      · exact hadv.hr.sep _ ⟨b, cs, Lc, hR, hL, rfl⟩
      · have hL2 := hL
        rw [(hwin b hd).1] at hL2
        cases hf : η'.fz Lc.block with
        | none => rfl
        | some ob =>
          exfalso
          rcases hadv.fzn _ _ hf with h1 | h1 | h1
          · rw [inv.sep b cs Lc hg hL2] at h1; cases h1
          · have := hadv.hr.sep _ ⟨b, cs, Lc, hkeep b cs hd (hmid b cs Lc hd hg hL2 h1), hL, rfl⟩
            rw [hf] at this; cases this
          · have := (inv.live b cs hg).lt hL2; omega
    · rcases hadv.fzn k ob hk with h1 | ⟨b3, c3, L3, g3, e3, hb3⟩ | h1
      · exact inv.fzn k ob h1
      · rcases inv.lb b3 c3 L3 (hKH b3 c3 g3) e3 with h2 | h2
        · rw [hb3] at h2; exact .inr (.inl h2)
        · rw [hb3] at h2; exact .inr (.inr h2)
      · exact .inr (.inr (Nat.le_trans inv.wsize h1))
  obtain ⟨o, g, ho, hg, hus, hd, h1, h2⟩ := sp.ok.oper
  have hwant := guard_ok (a := a) (η := η) (ops := ops) (o := o) (t := t') (g := g) (fun j want d hgj hdj l hl => by
    have hmem : d ∈ s.us := by
      rw [hus]; unfold Oper.looksAt; rw [hgj]
      refine List.mem_append_right _ ?_
      show d ∈ ((ops[j]?).bind (·.dst)).toList
      rw [hdj]; simp
    exact inv.tmp d l (by rw [hTd d hmem]; exact hl)) hg
  unfold wpOp
  rw [ho]
  simp only []
  rw [hwant]
  cases g with
  | true =>
    rw [if_pos rfl]
    have hE : ∀ x, VR η (evR s.us t' x) (a.eval x) := by
      intro x
      cases x with
      | tmp n =>
        simp only [evR]
        cases hm : memB s.us n with
        | false => exact .undef _
        | true =>
          rw [cond_true]
          simp only [xev, Act.eval]
          cases hl : t'.get n with
          | none => exact .undef _
          | some l =>
            obtain ⟨v, e1, e2⟩ := inv.tmp n l (by rw [hTd n (memB_iff.1 hm)]; exact hl)
            simp [Array.getD_eq_getD_getElem?, e1]; exact e2
      | const v => exact vr_ofV η v
      | global g => exact .undef _
      | func f =>
        have := VR.fn (η := η) (f := f) (cs := []) (vs := []) rfl (fun i c v hc => by simp at hc)
        exact this
    refine .inl ((h1 rfl).2 s.R.next η w a hr (Nat.le_refl _) hE _ _ fun v' w' η' hv hadv => ?_)
    rw [← hd]
    exact hK _ _ _ (main v' w' η' hv hadv)
  | false =>
    rw [if_neg (by simp)]
    obtain ⟨e1, e2⟩ := h2 rfl
    rw [← hd]
    refine hK _ _ _ (main undef w η (by rw [e1]; exact vr_tup0) ?_)
    have hrr := hr
    rw [e2] at hrr ⊢
    exact Adv.refl hrr
end
end Go.Tx

namespace Go.Tx
open Go
section
variable {D : List Deferred} {P : Program} {T : Tys} {C : Orc} {M N : Nat} {β : Type} {b : β}
theorem anc_mem {ms : List Nat} {o : Oper} {k : Nat} (h : (ancOf ms o).testBit k = true) : ∃ e ∈ o.after, Region.binds .any e = true ∧ (k = e.on ∨ (ms.getD e.on 0).testBit k = true) := by
  have key : ∀ (l : List Edge) (s : Nat), (l.foldl (fun s e => bif Region.binds .any e then s ||| 2 ^ e.on ||| ms.getD e.on 0 else s) s).testBit k = true → s.testBit k = true ∨ ∃ e ∈ l, Region.binds .any e = true ∧ (k = e.on ∨ (ms.getD e.on 0).testBit k = true) := by
    intro l
    induction l with
    | nil => intro s h; exact .inl h
    | cons e l ih =>
      intro s h
      rw [List.foldl_cons] at h
      rcases ih _ h with h1 | ⟨e', h1, h2⟩
      · cases hb : Region.binds .any e with
        | false => rw [hb, cond_false] at h1; exact .inl h1
        | true =>
          rw [hb, cond_true, Nat.testBit_or, Nat.testBit_or, Bool.or_eq_true, Bool.or_eq_true] at h1
          rcases h1 with (h1 | h1) | h1
          · exact .inl h1
          · rw [Nat.testBit_two_pow, decide_eq_true_eq] at h1
            exact .inr ⟨e, List.mem_cons_self .., hb, .inl h1.symm⟩
          · exact .inr ⟨e, List.mem_cons_self .., hb, .inr h1⟩
      · exact .inr ⟨e', List.mem_cons_of_mem _ h1, h2⟩
  rcases key o.after.toList 0 h with h1 | ⟨e, h1, h2⟩
  · simp at h1
  · exact ⟨e, by simpa using h1, h2⟩
theorem ancs_spec : ∀ (l : List Oper) (ms : List Nat), (ancs l ms).length = ms.length + l.length ∧ (∀ j, j < ms.length → (ancs l ms).getD j 0 = ms.getD j 0) ∧
    ∀ j o, l[j]? = some o → ∃ ms', (ancs l ms).getD (ms.length + j) 0 = ancOf ms' o ∧ ∀ k, k < ms.length + j → ms'.getD k 0 = (ancs l ms).getD k 0
  | [], ms => ⟨rfl, fun _ _ => rfl, fun j o h => by simp at h⟩
  | o :: l, ms => by
    obtain ⟨h1, h2, h3⟩ := ancs_spec l (ms ++ [ancOf ms o])
    simp only [List.length_append, List.length_cons, List.length_nil, Nat.zero_add] at h1 h2 h3
    rw [ancs]
    have hpre : ∀ j, j < ms.length → (ancs l (ms ++ [ancOf ms o])).getD j 0 = ms.getD j 0 := fun j hj => by
      rw [h2 j (by omega)]; simp [List.getElem?_append_left hj]
    refine ⟨by rw [h1, List.length_cons]; omega, hpre, fun j o' hj => ?_⟩
    cases j with
    | zero =>
      simp only [List.getElem?_cons_zero, Option.some.injEq] at hj; subst hj
      refine ⟨ms, ?_, fun k hk => (hpre k hk).symm⟩
      rw [Nat.add_zero, h2 ms.length (by omega)]; simp
    | succ j =>
      simp only [List.getElem?_cons_succ] at hj
      obtain ⟨ms', e1, e2⟩ := h3 j o' hj
      refine ⟨ms', ?_, fun k hk => e2 k (by omega)⟩
      rw [← e1]; congr 1; omega
theorem edges_ok : ∀ (l : List Oper) (i : Nat), edgesOk l i = true → ∀ j o, l[j]? = some o → ∀ e ∈ o.after, Region.binds .any e = true → e.on < i + j
  | [], _, _, j, o, h => by simp at h
  | o :: l, i, h, j, o', hj => by
    simp only [edgesOk, Bool.and_eq_true, List.all_eq_true] at h
    cases j with
    | zero =>
      simp only [List.getElem?_cons_zero, Option.some.injEq] at hj; subst hj
      intro e he hb
      have := h.1 e (by simpa using he)
      rw [hb] at this
      simpa [Nat.blt_eq] using this
    | succ j =>
      simp only [List.getElem?_cons_succ] at hj
      intro e he hb
      have := edges_ok l (i + 1) h.2 j o' hj e he hb
      omega
theorem nodup_le : ∀ (n : Nat) (c : List Nat), c.Nodup → (∀ j ∈ c, j < n) → c.length ≤ n
  | 0, c, _, h => by
    cases c with
    | nil => exact Nat.le_refl _
    | cons x c => exact absurd (h x (List.mem_cons_self ..)) (Nat.not_lt_zero _)
  | n + 1, c, hc, h => by
    by_cases hn : n ∈ c
    · have h1 := nodup_le n (c.erase n) (hc.erase n) (fun j hj => by
        have := (List.Nodup.mem_erase_iff hc).1 hj
        have h2 := h j this.2
        have h3 := this.1
        omega)
      rw [List.length_erase_of_mem hn] at h1
      omega
    · have := nodup_le n c hc (fun j hj => by
        have h2 := h j hj
        have h3 : j ≠ n := fun he => hn (he ▸ hj)
        omega)
      omega
/-- a region in whatever order -/
theorem tdraw_ok (hm : P.follows .mixedOrders = true) (hT : TysOK P T) (hC : OrcOK P C) {ops : Array Oper} {t : Mem} {H : LH} {k : Mem → LH → Option β} (hx0 : tdraw T C N ops t H k = some b) : ∃ t' H', k t' H' = some b ∧ Logged H H' ∧
    ∀ M η a w Q, H'.next ≤ M → SR M N D η t H a w → (∀ a' w' η', SR M N D η' t' H' a' w' → Adv M H η w H' η' w' → Q .normal a' w') → wpAny P .any ops Q ops.size (Array.replicate ops.size false) a { w with drawn := w.drawn + 1 } := by
  unfold tdraw at hx0
  cases hro : regionOk ops with
  | false => rw [hro] at hx0; cases hx0
  | true =>
    rw [hro, cond_true] at hx0
    unfold regionOk at hro
    rw [Bool.and_eq_true] at hro
    have hed := hro.1
    obtain ⟨tr, t', H', hk, htc, hlen⟩ := tdr_tc (t0 := t) (H0 := H) hT hC ops.toList (tr := []) hx0 .nil rfl trivial hro.2 (fun j => by simp)
    refine ⟨t', H', hk, ?_, fun M η a w Q hM hs hQ => ?_⟩
    · clear hlen hk hx0
      induction htc with
      | nil => exact Logged.refl _
      | cons h hs ht ih =>
        rename_i tr t1 t2 H1 s
        refine ih.trans ?_
        have hl := hs.logged
        refine ⟨by show H1.next ≤ s.R.next; have := hl.next; rw [hs.next] at this; exact this, ⟨s.R.log, rfl, fun b hb hn => ?_⟩, fun hb b cs hg => ?_⟩
        · classical
          rw [merge_get, if_neg]
          rintro (h1 | h1)
          · exact hn h1
          · have := hs.next; omega
        · classical
          rw [merge_get] at hg
          show b < s.R.next
          split at hg
          · exact hl.bnd (fun x c hx => by rw [hs.next]; exact hb x c (hs.get x c hx)) b cs hg
          · have := hb b cs hg; have h2 := hl.next; rw [hs.next] at h2; omega
    simp only [Nat.zero_add, Array.length_toList] at hlen
    generalize hms : ancs ops.toList [] = ms at htc
    obtain ⟨a1, a2, a3⟩ := ancs_spec ops.toList []
    rw [hms] at a1 a2 a3
    have hedges := edges_ok ops.toList 0 hed
    have hanc : ∀ i o, ops[i]? = some o → ∀ k, (ms.getD i 0).testBit k = true → ∃ e ∈ o.after, Region.binds .any e = true ∧ (k = e.on ∨ (ms.getD e.on 0).testBit k = true) := by
      intro i o ho k hk
      obtain ⟨ms', e1, e2⟩ := a3 i o (by simpa using ho)
      simp only [List.length_nil, Nat.zero_add] at e1 e2
      rw [e1] at hk
      obtain ⟨e, he, hb, h⟩ := anc_mem hk
      have hlt := hedges i o (by simpa using ho) e he hb
      refine ⟨e, he, hb, h.imp id fun h => ?_⟩
      rw [← e2 e.on (by omega)]; exact h
    have hfar : ∀ i, ops.size ≤ i → ms.getD i 0 = 0 := fun i hi => by
      rw [List.getD_eq_getElem?_getD, List.getElem?_eq_none (by rw [a1]; simpa using hi)]; rfl
    -- the invariant gives the end
    have fin : ∀ (L : Nat → Bool) η' a' w', (∀ j, j < tr.length → L j = true) → Inv D M N ms t H η w tr H' L η' a' w' → Q .normal a' w' := by
      intro L η' a' w' hL inv
      have hG : ∀ b, Gt H tr L b = H'.get b := fun b => by rw [htc.full.1 b]; exact Gt_ext tr (fun j hj => hL j hj)
      have hT : ∀ d, Tt t tr L d = t'.get d := fun d => by rw [htc.full.2 d]; exact Tt_ext tr (fun j hj => hL j hj)
      have hr : HR M η' H' w' := by
        refine ⟨fun b h1 h2 => ?_, fun b cs hb => inv.lt b cs (by rw [hG]; exact hb), fun b cs hb => inv.live b cs (by rw [hG]; exact hb), fun b1 b2 c1 c2 L1 L2 g1 g2 => inv.inj b1 b2 c1 c2 L1 L2 (by rw [hG]; exact g1) (by rw [hG]; exact g2), inv.fz, fun k ⟨b, cs, Lc, hb, hL, hk⟩ => hk ▸ inv.sep b cs Lc (by rw [hG]; exact hb) hL, inv.ok⟩
        have hw2 := inv.win b (.inr h1)
        rw [hw2.1, hw2.2]
        exact hs.hr.dom b (Nat.le_trans htc.next h1) h2
      refine hQ a' w' η' ⟨hr, fun d l hl => inv.tmp d l (by rw [hT]; exact hl), inv.size, inv.defers⟩ ⟨inv.le, inv.win, htc.next, hr, inv.wsize, inv.same, fun k ⟨b, cs, Lc, hb, hL2, hk⟩ => ?_, inv.fzn, inv.os, inv.tape, inv.output, inv.drawn⟩
      rw [← hk]
      exact inv.lb b cs Lc (by rw [hG]; exact hb) hL2
    have run : ∀ (f : Nat) (li : Array Bool) η' a' w', li.size = ops.size → (∀ (c : List Nat), c.Nodup → (∀ j ∈ c, li.getD j true = false) → c.length ≤ f) → Inv D M N ms t H η w tr H' (fun j => li.getD j false) η' a' w' → wpAny P .any ops Q f li a' w' := by
      have hready : ∀ (li : Array Bool), li.size = ops.size → Region.ready .any ops li = [] → ∀ j, j < tr.length → li.getD j false = true := by
        intro li hsz hr j hj
        have hall : ∀ n j, j < n → j < ops.size → li.getD j false = true := by
          intro n
          induction n with
          | zero => intro j hj; omega
          | succ n ih =>
            intro j hj hjs
            by_cases hjn : j < n
            · exact ih j hjn hjs
            · cases hlj : li.getD j false with
              | true => rfl
              | false =>
                exfalso
                have hmem : j ∈ Region.ready .any ops li := by
                  refine mem_ready.2 ⟨getD_in (by omega) hlj, ops[j], Array.getElem?_eq_getElem hjs, fun e he hb => ?_⟩
                  have := hedges j ops[j] (by simp [hjs]) e he hb
                  exact ih e.on (by omega) (by omega)
                rw [hr] at hmem; cases hmem
        exact hall (j + 1) j (by omega) (by omega)
      intro f
      induction f with
      | zero =>
        intro li η' a' w' hsz hcnt inv
        have hr : Region.ready .any ops li = [] := by
          cases hr : Region.ready .any ops li with
          | nil => rfl
          | cons x xs =>
            have hmem : x ∈ Region.ready .any ops li := by rw [hr]; exact List.mem_cons_self ..
            have := hcnt [x] (by simp) (fun j hj => by simp at hj; subst hj; exact (mem_ready.1 hmem).1)
            simp at this
        exact ⟨hr, fin _ η' a' w' (hready li hsz hr) inv⟩
      | succ f ih =>
        intro li η' a' w' hsz hcnt inv
        refine ⟨fun hr => fin _ η' a' w' (hready li hsz hr) inv, fun i hi => ?_⟩
        obtain ⟨hli, o, ho, hall⟩ := mem_ready.1 hi
        have his : i < ops.size := (Array.getElem?_eq_some_iff.1 ho).1
        refine inv_step hs.hr.lt htc hM (i := i) (by omega) (L := fun j => li.getD j false) (L' := fun j => (li.setIfInBounds i true).getD j false) (getD_both hli) ?_ (fun j hj => getD_set_ne false (Ne.symm hj)) (fun k hk => ?_) inv fun a2 w2 η2 inv2 => ?_
        · simp [hsz, his]
        · obtain ⟨e, he, hb, h⟩ := hanc i o ho k hk
          have h1 := hall e he hb
          rcases h with rfl | h
          · exact h1
          · exact inv.cl e.on k h1 h
        · refine ih _ η2 a2 w2 (by simp [hsz]) (fun c hc hcl2 => ?_) inv2
          have hnot : i ∉ c := fun hm => by
            have := hcl2 i hm
            simp [hsz, his] at this
          have := hcnt (i :: c) (List.nodup_cons.2 ⟨hnot, hc⟩) (fun j hj => by
            rcases List.mem_cons.1 hj with rfl | hj
            · exact hli
            · have h2 := hcl2 j hj
              rwa [getD_set_ne true (fun he => hnot (by rw [he]; exact hj))] at h2)
          simp at this; omega
    refine run ops.size _ η a _ (by simp) (fun c hc hcf => ?_) ?_
    · have hlt : ∀ j ∈ c, j < ops.size := fun j hj => by
        have := hcf j hj
        rcases Nat.lt_or_ge j ops.size with h | h
        · exact h
        · simp [h] at this
      exact nodup_le ops.size c hc hlt
    · have hL0 : ∀ j, (Array.replicate ops.size false).getD j false = false := fun j => getD_replicate_false _ _
      have hG0 : ∀ b, Gt H tr (fun j => (Array.replicate ops.size false).getD j false) b = H.get b := fun b => by
        clear hlen htc fin run
        induction tr with
        | nil => rfl
        | cons s tr ih => rw [Gt, hL0, Bool.false_and, cond_false]; exact ih
      have hT0 : ∀ d, Tt t tr (fun j => (Array.replicate ops.size false).getD j false) d = t.get d := fun d => by
        clear hlen htc hG0 fin run
        induction tr with
        | nil => rfl
        | cons s tr ih => rw [Tt, if_neg (by rw [hL0]; simp)]; exact ih
      have hnx := htc.next
      exact ⟨(fun j k hj => by rw [hL0] at hj; cases hj), (fun b cs hb => by rw [hG0] at hb; exact (hs.hr.live b cs hb).move (Emb.le_refl _) rfl (Nat.le_refl _) fun _ _ => rfl), (fun b1 b2 c1 c2 L1 L2 g1 g2 => by rw [hG0] at g1 g2; exact hs.hr.inj b1 b2 c1 c2 L1 L2 g1 g2),
        (fun b cs hb => by rw [hG0] at hb; exact Nat.lt_of_lt_of_le (hs.hr.lt b cs hb) hnx), fun b h1 h2 _ => hs.hr.dom b h1 h2, Emb.le_refl _, fun _ _ => ⟨rfl, rfl⟩, (fun d l hl => by rw [hT0] at hl; exact hs.tr d l hl), hs.size, hs.defers,
        Nat.le_refl _, fun _ _ _ => rfl, (fun b cs Lc hb hL => by rw [hG0] at hb; exact .inl ⟨b, cs, Lc, hb, hL, rfl⟩), hs.hr.fz, (fun b cs Lc hb hL => by rw [hG0] at hb; exact hs.hr.sep _ ⟨b, cs, Lc, hb, hL, rfl⟩), hs.hr.ok, fun _ _ h => .inl h, rfl, rfl, rfl, Nat.le_succ _⟩
end
end Go.Tx

namespace Go.Tx
open Go
/-- temporaries; objects, numbered from 0 -/
structure St where
  tm : List (Nat × LV)
  ob : List Ob
def memOf : List (Nat × LV) → Mem → Mem
  | [], t => t
  | p :: l, t => memOf l (t.set p.1 (some p.2))
def heapT : List Ob → Nat → Tr Ob → Tr Ob
  | [], _, t => t
  | ob :: l, i, t => heapT l (i + 1) (t.set i (some ob))
def heapOf (l : List Ob) : LH := ⟨heapT l 0 .lf, l.length, []⟩
theorem get_memOf : ∀ (l : List (Nat × LV)) (t : Mem) (n : Nat) (v : LV), (memOf l t).get n = some v → (n, v) ∈ l ∨ t.get n = some v
  | [], t, n, v, h => .inr h
  | p :: l, t, n, v, h => by
    rcases get_memOf l _ n v h with h1 | h1
    · exact .inl (List.mem_cons_of_mem _ h1)
    · rw [Tr.get_set] at h1
      split at h1
      · rename_i he
        injection h1 with h1
        exact .inl (List.mem_cons.2 (.inl (by rw [he, ← h1])))
      · exact .inr h1
theorem get_heapT : ∀ (l : List Ob) (i : Nat) (t : Tr Ob) (b : Nat), (heapT l i t).get b = if i ≤ b ∧ b < i + l.length then l[b - i]? else t.get b
  | [], i, t, b => by rw [heapT, if_neg]; simp
  | ob :: l, i, t, b => by
    rw [heapT, get_heapT l (i + 1), Tr.get_set]
    simp only [List.length_cons]
    by_cases h1 : i + 1 ≤ b ∧ b < i + 1 + l.length
    · rw [if_pos h1, if_pos (by omega), show b - i = (b - (i + 1)) + 1 by omega, List.getElem?_cons_succ]
    · rw [if_neg h1]
      by_cases h2 : b = i
      · subst h2; rw [if_pos rfl, if_pos (by omega), Nat.sub_self]; rfl
      · rw [if_neg h2, if_neg (by omega)]
theorem get_heapOf (l : List Ob) (b : Nat) : (heapOf l).get b = l[b]? := by
  show (heapT l 0 .lf).get b = _
  rw [get_heapT]
  split
  · rfl
  · rename_i h
    rw [Tr.get_lf, List.getElem?_eq_none (by omega)]
/-- what is frozen at the start; blocks that nobody touches -/
structure Fz0 where
  φ : Nat → Option Obj
  K : Nat → Obj → Prop
  D : List Deferred
abbrev noK (φ : Nat → Option Obj) : Fz0 := ⟨φ, fun _ _ => False, []⟩
/-- since a world w0, with φ0 frozen -/
structure Fr (w0 : World) (φ0 : Fz0) (H : LH) (η : Emb) (w : World) : Prop where
  size : w0.heap.size ≤ w.heap.size
  same : ∀ k, k < w0.heap.size → w.heap[k]? = w0.heap[k]?
  lb : ∀ k, LB H η k → w0.heap.size ≤ k
  fz0 : ∀ k ob, φ0.φ k = some ob → η.fz k = some ob
  fzn : ∀ k ob, η.fz k = some ob → φ0.φ k = some ob ∨ w0.heap.size ≤ k
  os : w.os = w0.os
  tape : w.tape = w0.tape
  output : w.output = w0.output
  drawn : w0.drawn ≤ w.drawn
  kp : ∀ k o, φ0.K k o → w.heap[k]? = some o ∧ ¬ LB H η k ∧ η.fz k = none
theorem Fr.adv {w0 : World} {φ0 : Fz0} {M : Nat} {H H' : LH} {η η' : Emb} {w w' : World} (h : Fr w0 φ0 H η w) (k : Adv M H η w H' η' w') : Fr w0 φ0 H' η' w' where
  size := Nat.le_trans h.size k.size
  same j hj := (k.same j (Nat.lt_of_lt_of_le hj h.size) fun hl => by have := h.lb j hl; omega).trans (h.same j hj)
  lb j hj := (k.lb j hj).elim (h.lb j) fun h1 => Nat.le_trans h.size h1
  fz0 j ob hj := k.le.fz j ob (h.fz0 j ob hj)
  fzn j ob hj := (k.fzn j ob hj).elim (h.fzn j ob) fun h1 => .inr (h1.elim (h.lb j) fun h2 => Nat.le_trans h.size h2)
  os := k.os.trans h.os
  tape := k.tape.trans h.tape
  output := k.output.trans h.output
  drawn := Nat.le_trans h.drawn k.drawn
  kp j o hj := by
    obtain ⟨h1, h2, h3⟩ := h.kp j o hj
    have hlt : j < w.heap.size := (Array.getElem?_eq_some_iff.1 h1).1
    refine ⟨(k.same j hlt h2).trans h1, fun hl => (k.lb j hl).elim h2 (fun h4 => by omega), ?_⟩
    cases hf : η'.fz j with
    | none => rfl
    | some ob => rcases k.fzn j ob hf with h4 | h4 | h4
                 · rw [h3] at h4; cases h4
                 · exact (h2 h4).elim
                 · omega
/-- a state against a state of a function -/
structure SS (w0 : World) (φ0 : Fz0) (N : Nat) (s : St) (a : Act) (w : World) : Prop where
  emb : ∃ η, (∀ M, HR M η (heapOf s.ob) w) ∧ (∀ n l, (n, l) ∈ s.tm → ∃ v, a.tmps[n]? = some v ∧ VR η l v) ∧ Fr w0 φ0 (heapOf s.ob) η w
  size : N ≤ a.tmps.size
  defers : a.defers = φ0.D
/-- what becomes of a value between two regions -/
inductive Kd where
  | any
  /-- a row of the machine's own -/
  | own (τ : Row)
  /-- a slice that is written no more -/
  | val (τ : Row)
  /-- a variable with such cells -/
  | box (ks : List Kd)
section
variable {D : List Deferred} {P : Program} {T : Tys} {C : Orc} {M N : Nat} {H : LH} {η : Emb} {w : World} {β : Type} {b : β}
def tcoe (kd : Kd) (l : LV) (H : LH) (k : LV → LH → Option β) : Option β :=
  match kd, l with
  | .any, l => k l H
  | .own τ, .nils => k (.rs H.next) (H.alloc (.rows τ []))
  | .own _, .rs m => k (.rs m) H
  | .val τ, .nils => k (.fz τ []) H
  | .val _, .rs m => match H.get m with | some (.rows σ xs) => k (.fz σ xs) (H.put m none) | _ => none
  | .val _, .fz σ xs => k (.fz σ xs) H
  | _, _ => none
theorem coe_ok {kd : Kd} {l : LV} {k : LV → LH → Option β} (hx : tcoe kd l H k = some b) : ∃ l' H', k l' H' = some b ∧ Logged H H' ∧ (l.cellB = true → l'.cellB = true) ∧ ∀ M η w v, HR M η H w → H'.next ≤ M → VR η l v → ∃ η', Adv M H η w H' η' w ∧ VR η' l' v := by
  unfold tcoe at hx
  split at hx
  · exact ⟨_, _, hx, Logged.refl _, id, fun M η w v h hM hv => ⟨η, Adv.refl h, hv⟩⟩
  · rename_i τ
    refine ⟨_, _, hx, Logged.alloc _ _, fun _ => rfl, fun M η w v h hM hv => ?_⟩
    cases hv
    exact ⟨_, adv_nil h hM τ none, .rs (Emb.put_hdr ..)⟩
  · exact ⟨_, _, hx, Logged.refl _, fun _ => rfl, fun M η w v h hM hv => ⟨η, Adv.refl h, hv⟩⟩
  · refine ⟨_, _, hx, Logged.refl _, fun _ => rfl, fun M η w v h hM hv => ?_⟩
    cases hv
    exact ⟨η, Adv.refl h, .fz ⟨none, 0, rfl, Nat.le_refl _, fun _ => rfl, fun i x hx => by simp at hx⟩⟩
  · split at hx
    · rename_i hg
      refine ⟨_, _, hx, Logged.put _ hg _, fun _ => rfl, fun M η w v h hM hv => ?_⟩
      cases hv with
      | rs hh => exact adv_freeze h hg hh
    · cases hx
  · exact ⟨_, _, hx, Logged.refl _, fun _ => rfl, fun M η w v h hM hv => ⟨η, Adv.refl h, hv⟩⟩
  · cases hx
/-- the cells of a variable -/
def tcoes : List Kd → List LV → LH → (List LV → LH → Option β) → Option β
  | [], cs, H, k => k cs H
  | kd :: ks, c :: cs, H, k => tcoe kd c H fun c H => tcoes ks cs H fun cs H => k (c :: cs) H
  | _ :: _, [], _, _ => none
theorem coes_ok : ∀ (ks : List Kd) {cs : List LV} {H : LH} {k : List LV → LH → Option β}, tcoes ks cs H k = some b → ∃ ds H', k ds H' = some b ∧ Logged H H' ∧ ds.length = cs.length ∧ ∀ M η w vs, HR M η H w → H'.next ≤ M → VRs η cs vs → ∃ η', Adv M H η w H' η' w ∧ VRs η' ds vs
  | [], cs, H, k, hx => ⟨cs, H, hx, Logged.refl _, rfl, fun M η w vs h hM hv => ⟨η, Adv.refl h, hv⟩⟩
  | kd :: ks, [], H, k, hx => by cases hx
  | kd :: ks, c :: cs, H, k, hx => by
    rw [tcoes] at hx
    obtain ⟨c', H1, h1, h2, _, h3⟩ := coe_ok hx
    obtain ⟨ds, H2, g1, g2, g3, g4⟩ := coes_ok ks h1
    refine ⟨_, H2, g1, h2.trans g2, by simp [g3], fun M η w vs h hM hv => ?_⟩
    obtain ⟨v, vs, rfl, a1, a2⟩ := hv.uncons
    obtain ⟨η1, e1, e2⟩ := h3 M η w v h (Nat.le_trans g2.next hM) a1
    obtain ⟨η2, e3, e4⟩ := g4 M η1 w vs e1.hr hM (a2.mono e1.le)
    exact ⟨η2, e1.trans e3, VRs.cons (e2.mono e3.le) e4⟩
def tcoeV (kd : Kd) (l : LV) (H : LH) (k : LV → LH → Option β) : Option β :=
  match kd, l with
  | .box ks, .ptr n 0 => match H.get n with
    | some (.cells cs) => tcoes ks cs H fun ds H => match H.get n with
      | some (.cells _) => k (.ptr n 0) (H.put n (some (.cells ds)))
      | _ => none
    | _ => none
  | kd, l => tcoe kd l H k
theorem coeV_ok {kd : Kd} {l : LV} {k : LV → LH → Option β} (hx : tcoeV kd l H k = some b) : ∃ l' H', k l' H' = some b ∧ Logged H H' ∧ ∀ M η w v, HR M η H w → H'.next ≤ M → VR η l v → ∃ η', Adv M H η w H' η' w ∧ VR η' l' v := by
  unfold tcoeV at hx
  split at hx
  · rename_i ks n
    split at hx
    · rename_i cs hg
      obtain ⟨ds, H1, g1, g2, g3, g4⟩ := coes_ok ks hx
      split at g1
      · rename_i cs1 hg1
        refine ⟨_, _, g1, g2.trans (Logged.put _ hg1 _), fun M η w v h hM hv => ?_⟩
        cases hv with
        | ptr hL =>
          rename_i L
          have ha := (h.live _ _ hg).at hL
          have hcut : cut cs 0 cs.length = some cs := by unfold cut; rw [Nat.zero_add, Nat.ble_eq_true_of_le (Nat.le_refl _), List.drop_zero, List.take_length]; rfl
          obtain ⟨vs, o1, o2⟩ := Lie.cut ha.cell hcut
          obtain ⟨η1, e1, e2⟩ := g4 M η w vs h hM o1
          have hL1 := e1.le.loc _ _ hL
          have ha1 := (e1.hr.live _ _ hg1).at hL1
          have hat : At η1 w ds L := by
            refine ⟨ha.lt, by rw [g3]; exact ha.fits, ha.there, fun j c hc => ?_⟩
            obtain ⟨v, f1, f2⟩ := e2.get hc
            exact ⟨v, by have := o2 j v f1; rwa [Nat.add_zero] at this, f2⟩
          exact ⟨η1, e1.trans (adv_store (o := 0) (vs := []) e1.hr hg1 hL1 hat (.inl ⟨_, _, rfl, rfl⟩)), .ptr hL1⟩
      · cases g1
    · cases hx
  · obtain ⟨l', H', h1, h2, _, h3⟩ := coe_ok hx
    exact ⟨l', H', h1, h2, h3⟩
/-- what is kept -/
def tkeep : List (Nat × Kd) → Mem → LH → (List (Nat × LV) → LH → Option β) → Option β
  | [], _, H, k => k [] H
  | p :: ps, t, H, k => match t.get p.1 with
    | some l => tcoeV p.2 l H fun l H => tkeep ps t H fun ls H => k ((p.1, l) :: ls) H
    | none => none
theorem keep_ok : ∀ (ps : List (Nat × Kd)) {t : Mem} {H : LH} {k : List (Nat × LV) → LH → Option β}, tkeep ps t H k = some b → ∃ ls H', k ls H' = some b ∧ Logged H H' ∧ ∀ M η w (a : Act), HR M η H w → H'.next ≤ M → TR η t a → ∃ η', Adv M H η w H' η' w ∧ ∀ n l, (n, l) ∈ ls → ∃ v, a.tmps[n]? = some v ∧ VR η' l v
  | [], t, H, k, hx => ⟨[], H, hx, Logged.refl _, fun M η w a h hM ht => ⟨η, Adv.refl h, fun n l hl => by simp at hl⟩⟩
  | p :: ps, t, H, k, hx => by
    rw [tkeep] at hx
    split at hx
    · rename_i l hl
      obtain ⟨l', H1, h1, h2, h3⟩ := coeV_ok hx
      obtain ⟨ls, H2, g1, g2, g3⟩ := keep_ok ps h1
      refine ⟨_, H2, g1, h2.trans g2, fun M η w a h hM ht => ?_⟩
      obtain ⟨v, a1, a2⟩ := ht _ _ hl
      obtain ⟨η1, e1, e2⟩ := h3 M η w v h (Nat.le_trans g2.next hM) a2
      obtain ⟨η2, e3, e4⟩ := g3 M η1 w a e1.hr hM (ht.mono e1.le)
      refine ⟨η2, e1.trans e3, fun n x hx => ?_⟩
      rcases List.mem_cons.1 hx with hx | hx
      · injection hx with hn hx2; rw [hn, hx2]; exact ⟨v, a1, e2.mono e3.le⟩
      · exact e4 n x hx
    · cases hx
/-- its number in a list -/
def idx : List Nat → Nat → Nat → Option Nat
  | [], _, _ => none
  | x :: l, i, n => bif Nat.beq x n then some i else idx l (i + 1) n
theorem idx_get : ∀ (l : List Nat) (i n j : Nat), idx l i n = some j → i ≤ j ∧ l[j - i]? = some n
  | [], _, _, _, h => by cases h
  | x :: l, i, n, j, h => by
    rw [idx, Bool.cond_eq_ite] at h
    split at h
    · rename_i he
      rw [Nat.beq_eq] at he
      injection h with h; subst h
      exact ⟨Nat.le_refl _, by rw [Nat.sub_self, List.getElem?_cons_zero, he]⟩
    · obtain ⟨h1, h2⟩ := idx_get l (i + 1) n j h
      exact ⟨by omega, by rw [show j - i = (j - (i + 1)) + 1 by omega, List.getElem?_cons_succ]; exact h2⟩
mutual
def ren (ρ : List Nat) : LV → Option LV
  | .ptr n o => match idx ρ 0 n with | some j => some (.ptr j o) | none => none
  | .rp n i sz j => match idx ρ 0 n with | some m => some (.rp m i sz j) | none => none
  | .rs n => match idx ρ 0 n with | some j => some (.rs j) | none => none
  | .fn f cs => match rens ρ cs with | some cs => some (.fn f cs) | none => none
  | .agg cs => match rens ρ cs with | some cs => some (.agg cs) | none => none
  | .tup cs => match rens ρ cs with | some cs => some (.tup cs) | none => none
  | .undef => some .undef
  | .int k n => some (.int k n)
  | .bool v => some (.bool v)
  | .nilp => some .nilp
  | .str s => some (.str s)
  | .nils => some .nils
  | .fz τ xs => some (.fz τ xs)
  | .fp τ x j => some (.fp τ x j)
def rens (ρ : List Nat) : List LV → Option (List LV)
  | [] => some []
  | c :: cs => match ren ρ c with
    | some c => match rens ρ cs with | some cs => some (c :: cs) | none => none
    | none => none
end
/-- numbers of a list stand for those in it -/
def Emb.sub (η : Emb) (ρ : List Nat) : Emb := ⟨fun j => (ρ[j]?).bind η.loc, fun j => (ρ[j]?).bind η.hdr, η.fz⟩
theorem sub_loc {ρ : List Nat} {n j : Nat} (h : idx ρ 0 n = some j) : (η.sub ρ).loc j = η.loc n ∧ (η.sub ρ).hdr j = η.hdr n := by
  have := (idx_get ρ 0 n j h).2
  rw [Nat.sub_zero] at this
  unfold Emb.sub
  simp only [this, Option.bind_some, and_self]
mutual
theorem ren_ok (ρ : List Nat) : ∀ {l l' : LV} {v : Value}, ren ρ l = some l' → VR η l v → VR (η.sub ρ) l' v
  | .ptr n o, l', v, h, hv => by
    rw [ren] at h
    split at h
    · rename_i j hj; injection h with h; subst h
      cases hv with
      | ptr hL => exact .ptr (by rw [(sub_loc hj).1]; exact hL)
    · cases h
  | .rp n i sz c, l', v, h, hv => by
    rw [ren] at h
    split at h
    · rename_i j hj; injection h with h; subst h
      cases hv with
      | rp hL hh hi => exact .rp (by rw [(sub_loc hj).1]; exact hL) (by rw [(sub_loc hj).2]; exact hh) hi
    · cases h
  | .rs n, l', v, h, hv => by
    rw [ren] at h
    split at h
    · rename_i j hj; injection h with h; subst h
      cases hv with
      | rs hh => exact .rs (by rw [(sub_loc hj).2]; exact hh)
    · cases h
  | .fn f cs, l', v, h, hv => by
    rw [ren] at h
    split at h
    · rename_i ds hd; injection h with h; subst h
      cases hv with
      | fn hl hh => have := rens_ok ρ hd ⟨hl, hh⟩; exact .fn this.1 this.2
    · cases h
  | .agg cs, l', v, h, hv => by
    rw [ren] at h
    split at h
    · rename_i ds hd; injection h with h; subst h
      cases hv with
      | agg hl hh => have := rens_ok ρ hd ⟨hl, hh⟩; exact .agg this.1 this.2
    · cases h
  | .tup cs, l', v, h, hv => by
    rw [ren] at h
    split at h
    · rename_i ds hd; injection h with h; subst h
      cases hv with
      | tup hl hh => have := rens_ok ρ hd ⟨hl, hh⟩; exact .tup this.1 this.2
    · cases h
  | .undef, l', v, h, hv => by rw [ren] at h; injection h with h; subst h; exact .undef _
  | .int k n, l', v, h, hv => by rw [ren] at h; injection h with h; subst h; cases hv; exact .int _ _
  | .bool k, l', v, h, hv => by rw [ren] at h; injection h with h; subst h; cases hv; exact .bool _
  | .nilp, l', v, h, hv => by rw [ren] at h; injection h with h; subst h; cases hv; exact .nilp
  | .str s, l', v, h, hv => by rw [ren] at h; injection h with h; subst h; cases hv; exact .str _
  | .nils, l', v, h, hv => by rw [ren] at h; injection h with h; subst h; cases hv; exact .nils
  | .fz τ xs, l', v, h, hv => by rw [ren] at h; injection h with h; subst h; cases hv with | fz hf => exact .fz hf
  | .fp τ x j, l', v, h, hv => by rw [ren] at h; injection h with h; subst h; cases hv with | fp hf => exact .fp hf
theorem rens_ok (ρ : List Nat) : ∀ {cs ds : List LV} {vs : List Value}, rens ρ cs = some ds → VRs η cs vs → VRs (η.sub ρ) ds vs
  | [], ds, vs, h, hv => by
    rw [rens] at h; injection h with h; subst h
    have : vs = [] := by have := hv.1; simpa using this.symm
    subst this; exact VRs.nil
  | c :: cs, ds, vs, h, hv => by
    obtain ⟨v, vs, rfl, h1, h2⟩ := hv.uncons
    rw [rens] at h
    split at h
    · rename_i d hd
      split at h
      · rename_i ds' hds
        injection h with h; subst h
        exact VRs.cons (ren_ok ρ hd h1) (rens_ok ρ hds h2)
      · cases h
    · cases h
end
theorem vr_flat {η' : Emb} (hfz : ∀ k ob, η.fz k = some ob → η'.fz k = some ob) : ∀ (τ : Row) (x : den τ) {c : LV}, c ∈ split τ x → ∀ {v : Value}, VR η c v → VR η' c v
  | .nil, _, c, hc, _, _ => by simp [split] at hc
  | .int k r, x, c, hc, v, hv => by
    rcases List.mem_cons.1 hc with rfl | hc
    · cases hv; exact .int _ _
    · exact vr_flat hfz r x.2 hc hv
  | .bool r, x, c, hc, v, hv => by
    rcases List.mem_cons.1 hc with rfl | hc
    · cases hv; exact .bool _
    · exact vr_flat hfz r x.2 hc hv
  | .sl e r, x, c, hc, v, hv => by
    rcases List.mem_cons.1 hc with rfl | hc
    · cases hv with | fz hf => exact .fz (hf.mono (RowF.mono hfz e))
    · exact vr_flat hfz r x.2 hc hv
theorem mem_flat (τ : Row) {c : LV} : ∀ xs : List (den τ), c ∈ flat τ xs → ∃ x, c ∈ split τ x
  | [], h => by simp [flat] at h
  | x :: xs, h => by
    rw [flat, List.mem_append] at h
    exact h.elim (fun h => ⟨x, h⟩) (mem_flat τ xs)
theorem at_flat {η' : Emb} (hfz : ∀ k ob, η.fz k = some ob → η'.fz k = some ob) {τ : Row} {xs : List (den τ)} {L : Loc} (h : At η w (flat τ xs) L) : At η' w (flat τ xs) L :=
  ⟨h.lt, h.fits, h.there, fun j c hc => by
    obtain ⟨v, h1, h2⟩ := h.cell j c hc
    obtain ⟨x, hx⟩ := mem_flat τ xs (List.mem_of_getElem? hc)
    exact ⟨v, h1, vr_flat hfz τ x hx h2⟩⟩
def renOb (ρ : List Nat) : Ob → Option Ob
  | .cells cs => match rens ρ cs with | some cs => some (.cells cs) | none => none
  | .rows τ xs => some (.rows τ xs)
theorem rens_len (ρ : List Nat) : ∀ {cs ds : List LV}, rens ρ cs = some ds → ds.length = cs.length
  | [], ds, h => by rw [rens] at h; injection h with h; subst h; rfl
  | c :: cs, ds, h => by
    rw [rens] at h
    split at h
    · split at h
      · rename_i ds' hds; injection h with h; subst h; simp [rens_len ρ hds]
      · cases h
    · cases h
theorem renOb_ok {ρ : List Nat} {n j : Nat} (hj : ρ[j]? = some n) {ob ob' : Ob} (h : renOb ρ ob = some ob') (hl : Lv η w n ob) : Lv (η.sub ρ) w j ob' := by
  have e1 : (η.sub ρ).loc j = η.loc n := by unfold Emb.sub; simp only [hj, Option.bind_some]
  have e2 : (η.sub ρ).hdr j = η.hdr n := by unfold Emb.sub; simp only [hj, Option.bind_some]
  cases hl with
  | cells hL ha =>
    rw [renOb] at h
    rename_i cs L
    split at h
    · rename_i ds hds
      injection h with h; subst h
      refine .cells (by rw [e1]; exact hL) ⟨ha.lt, by rw [rens_len ρ hds]; exact ha.fits, ha.there, fun i c hc => ?_⟩
      have hcut : cut cs 0 cs.length = some cs := by unfold cut; rw [Nat.zero_add, Nat.ble_eq_true_of_le (Nat.le_refl _), List.drop_zero, List.take_length]; rfl
      obtain ⟨vs, o1, o2⟩ := Lie.cut ha.cell hcut
      obtain ⟨v, f1, f2⟩ := (rens_ok ρ hds o1).get hc
      exact ⟨v, by have := o2 i v f1; rwa [Nat.add_zero] at this, f2⟩
    · cases h
  | rows hL ha hh hc hr =>
    rw [renOb] at h; injection h with h; subst h
    exact .rows (by rw [e1]; exact hL) (at_flat (η := η) (η' := η.sub ρ) (fun _ _ h => h) ha) (by rw [e2]; exact hh) hc hr
  | none hL hh =>
    rw [renOb] at h; injection h with h; subst h
    exact .none (by rw [e1]; exact hL) (by rw [e2]; exact hh)
def renObs (H : LH) (ρ : List Nat) : List Nat → Option (List Ob)
  | [] => some []
  | n :: l => match H.get n with
    | some ob => match renOb ρ ob with
      | some ob => match renObs H ρ l with | some obs => some (ob :: obs) | none => none
      | none => none
    | none => none
theorem renObs_get {ρ : List Nat} : ∀ (l : List Nat) {obs : List Ob}, renObs H ρ l = some obs → obs.length = l.length ∧ ∀ (j : Nat) ob', obs[j]? = some ob' → ∃ n ob, l[j]? = some n ∧ H.get n = some ob ∧ renOb ρ ob = some ob'
  | [], obs, h => by rw [renObs] at h; injection h with h; subst h; exact ⟨rfl, fun j ob' hj => by simp at hj⟩
  | n :: l, obs, h => by
    rw [renObs] at h
    split at h
    · rename_i ob hob
      split at h
      · rename_i ob1 h1
        split at h
        · rename_i obs1 h2
          injection h with h; subst h
          obtain ⟨e1, e2⟩ := renObs_get l h2
          refine ⟨by simp [e1], fun j ob' hj => ?_⟩
          cases j with
          | zero => simp only [List.getElem?_cons_zero, Option.some.injEq] at hj; subst hj; exact ⟨n, ob, rfl, hob, h1⟩
          | succ j => simp only [List.getElem?_cons_succ] at hj ⊢; exact e2 j ob' hj
        · cases h
      · cases h
    · cases h
def renTm (ρ : List Nat) : List (Nat × LV) → Option (List (Nat × LV))
  | [] => some []
  | p :: l => match ren ρ p.2 with
    | some v => match renTm ρ l with | some l => some ((p.1, v) :: l) | none => none
    | none => none
theorem renTm_mem {ρ : List Nat} : ∀ (l : List (Nat × LV)) {l' : List (Nat × LV)}, renTm ρ l = some l' → ∀ n x', (n, x') ∈ l' → ∃ x, (n, x) ∈ l ∧ ren ρ x = some x'
  | [], l', h, n, x', hx => by rw [renTm] at h; injection h with h; subst h; simp at hx
  | p :: l, l', h, n, x', hx => by
    rw [renTm] at h
    split at h
    · rename_i v hv
      split at h
      · rename_i l1 hl
        injection h with h; subst h
        rcases List.mem_cons.1 hx with hx | hx
        · injection hx with h1 h2; subst h1 h2; exact ⟨p.2, List.mem_cons_self .., hv⟩
        · obtain ⟨x, h1, h2⟩ := renTm_mem l hl n x' hx
          exact ⟨x, List.mem_cons_of_mem _ h1, h2⟩
      · cases h
    · cases h
def nodupB : List Nat → Bool
  | [] => true
  | x :: l => !memB l x && nodupB l
theorem nodupB_inj : ∀ {l : List Nat}, nodupB l = true → ∀ (i j n : Nat), l[i]? = some n → l[j]? = some n → i = j
  | [], _, i, j, n, h, _ => by simp at h
  | x :: l, hn, i, j, n, h1, h2 => by
    rw [nodupB, Bool.and_eq_true] at hn
    have hx : ∀ k, l[k]? = some x → False := fun k hk => by
      have := memB_iff.2 (List.mem_of_getElem? hk)
      rw [this] at hn; simp at hn
    cases i with
    | zero =>
      cases j with
      | zero => rfl
      | succ j => simp only [List.getElem?_cons_zero, Option.some.injEq, List.getElem?_cons_succ] at h1 h2; subst h1; exact (hx _ h2).elim
    | succ i =>
      cases j with
      | zero => simp only [List.getElem?_cons_zero, Option.some.injEq, List.getElem?_cons_succ] at h1 h2; subst h2; exact (hx _ h1).elim
      | succ j => simp only [List.getElem?_cons_succ] at h1 h2; rw [nodupB_inj hn.2 i j n h1 h2]
/-- a memory renumbered -/
theorem hr_sub {ρ : List Nat} (hn : nodupB ρ = true) {obs : List Ob} (ho : renObs H ρ ρ = some obs) (h : HR M η H w) : ∀ M, HR M (η.sub ρ) (heapOf obs) w := by
  obtain ⟨e1, e2⟩ := renObs_get ρ ho
  have hlb : ∀ k, LB (heapOf obs) (η.sub ρ) k → LB H η k := fun k ⟨j, ob', L, hj, hL, hk⟩ => by
    rw [get_heapOf] at hj
    obtain ⟨n, ob, g1, g2, g3⟩ := e2 j ob' hj
    exact ⟨n, ob, L, g2, by unfold Emb.sub at hL; simpa only [g1, Option.bind_some] using hL, hk⟩
  intro M
  refine ⟨fun j hj _ => ?_, fun j ob' hj => ?_, fun j ob' hj => ?_, fun j1 j2 o1 o2 L1 L2 h1 h2 l1 l2 he => ?_, h.fz, fun k hk => h.sep k (hlb k hk), fun j v hv => ?_⟩
  · have hj' : obs.length ≤ j := hj
    have : ρ[j]? = none := List.getElem?_eq_none (by omega)
    unfold Emb.sub; simp only [this]; exact ⟨rfl, rfl⟩
  · rw [get_heapOf] at hj
    exact (List.getElem?_eq_some_iff.1 hj).1
  · rw [get_heapOf] at hj
    obtain ⟨n, ob, g1, g2, g3⟩ := e2 j ob' hj
    exact renOb_ok g1 g3 (h.live n ob g2)
  · rw [get_heapOf] at h1 h2
    obtain ⟨n1, ob1, g1, g2, _⟩ := e2 j1 o1 h1
    obtain ⟨n2, ob2, k1, k2, _⟩ := e2 j2 o2 h2
    unfold Emb.sub at l1 l2
    simp only [g1, k1, Option.bind_some] at l1 l2
    have := h.inj _ _ _ _ _ _ g2 k2 l1 l2 he
    subst this
    exact nodupB_inj hn j1 j2 n1 g1 k1
  · unfold Emb.sub at hv
    simp only at hv
    cases hn2 : ρ[j]? with
    | none => rw [hn2] at hv; cases hv
    | some n => rw [hn2] at hv; exact h.ok n v hv
theorem fr_sub {w0 : World} {φ0 : Fz0} {ρ : List Nat} {obs : List Ob} (ho : renObs H ρ ρ = some obs) (h : Fr w0 φ0 H η w) : Fr w0 φ0 (heapOf obs) (η.sub ρ) w := by
  obtain ⟨e1, e2⟩ := renObs_get ρ ho
  have hlb : ∀ k, LB (heapOf obs) (η.sub ρ) k → LB H η k := fun k ⟨j, ob', L, hj, hL, hk⟩ => by
    rw [get_heapOf] at hj
    obtain ⟨n, ob, g1, g2, g3⟩ := e2 j ob' hj
    exact ⟨n, ob, L, g2, by unfold Emb.sub at hL; simpa only [g1, Option.bind_some] using hL, hk⟩
  exact ⟨h.size, h.same, fun k hk => h.lb k (hlb k hk), h.fz0, h.fzn, h.os, h.tape, h.output, h.drawn, fun k o hk => ⟨(h.kp k o hk).1, fun hl => (h.kp k o hk).2.1 (hlb k hl), (h.kp k o hk).2.2⟩⟩
/-- a state renumbered -/
def tnum (ls : List (Nat × LV)) (H : LH) (k : St → Option β) : Option β :=
  match reach H 1000 (ls.flatMap fun p => refs1 p.2) [] with
  | ρ => bif nodupB ρ then (match renTm ρ ls, renObs H ρ ρ with
    | some tm, some obs => k ⟨tm, obs⟩
    | _, _ => none) else none
theorem num_ok {ls : List (Nat × LV)} {k : St → Option β} (hx : tnum ls H k = some b) : ∃ s, k s = some b ∧ ∀ w0 (φ0 : Fz0) M η w (a : Act) N, HR M η H w → (∀ n l, (n, l) ∈ ls → ∃ v, a.tmps[n]? = some v ∧ VR η l v) → Fr w0 φ0 H η w → N ≤ a.tmps.size → a.defers = φ0.D → SS w0 φ0 N s a w := by
  unfold tnum at hx
  generalize reach H 1000 (ls.flatMap fun p => refs1 p.2) [] = ρ at hx
  simp only at hx
  rw [Bool.cond_eq_ite] at hx
  split at hx
  · rename_i hn
    split at hx
    · rename_i tm obs h1 h2
      refine ⟨_, hx, fun w0 φ0 M η w a N h ht hf hN hd => ⟨⟨η.sub ρ, hr_sub hn h2 h, fun n l' hl => ?_, fr_sub h2 hf⟩, hN, hd⟩⟩
      obtain ⟨l, g1, g2⟩ := renTm_mem ls h1 n l' hl
      obtain ⟨v, e1, e2⟩ := ht n l g1
      exact ⟨v, e1, ren_ok ρ g2 e2⟩
    · cases hx
  · cases hx
/-- a region, from state to state -/
def treg (T : Tys) (C : Orc) (N : Nat) (ops : Array Oper) (draw : Bool) (keep : List (Nat × Kd)) (s : St) (k : St → Option β) : Option β :=
  match draw with
  | true => tdraw T C N ops (memOf s.tm .lf) (heapOf s.ob) fun t H => tkeep keep t H fun ls H => tnum ls H k
  | false => tops T C N ops ops.toList (memOf s.tm .lf) (heapOf s.ob) fun t H => tkeep keep t H fun ls H => tnum ls H k
theorem SS.sr {w0 : World} {φ0 : Fz0} {s : St} {a : Act} (h : SS w0 φ0 N s a w) : ∃ η, (∀ M, SR M N φ0.D η (memOf s.tm .lf) (heapOf s.ob) a w) ∧ Fr w0 φ0 (heapOf s.ob) η w := by
  obtain ⟨η, h1, h2, h3⟩ := h.emb
  refine ⟨η, fun M => ⟨h1 M, fun n l hl => ?_, h.size, h.defers⟩, h3⟩
  rcases get_memOf s.tm .lf n l hl with h4 | h4
  · exact h2 n l h4
  · rw [Tr.get_lf] at h4; cases h4
/-- a region's operations -/
def RW (P : Program) (ops : Array Oper) (draw : Bool) (Q : Exit → Act → World → Prop) (a : Act) (w : World) : Prop :=
  match draw with
  | true => wpAny P .any ops Q ops.size (Array.replicate ops.size false) a { w with drawn := w.drawn + 1 }
  | false => wpList P ops Q ops.toList a w
theorem reg_rw (hm : P.follows .mixedOrders = true) (hT : TysOK P T) (hC : OrcOK P C) {ops : Array Oper} {draw : Bool} {keep : List (Nat × Kd)} {s : St} {k : St → Option β} (hx : treg T C N ops draw keep s k = some b) : ∃ s', k s' = some b ∧
    ∀ w0 (φ0 : Fz0) a w Q, φ0.D = D → SS w0 φ0 N s a w → (∀ a' w', SS w0 φ0 N s' a' w' → Q .normal a' w') → RW P ops draw Q a w := by
  have fin : ∀ {t' : Mem} {H' : LH}, (tkeep keep t' H' fun ls H => tnum ls H k) = some b → ∃ s' H2, k s' = some b ∧ Logged H' H2 ∧ ∀ w0 (φ0 : Fz0) M η a w, φ0.D = D → H2.next ≤ M → SR M N D η t' H' a w → Fr w0 φ0 H' η w → SS w0 φ0 N s' a w := by
    intro t' H' hx
    obtain ⟨ls, H2, h1, h2, h3⟩ := keep_ok keep hx
    obtain ⟨s', g1, g2⟩ := num_ok h1
    refine ⟨s', H2, g1, h2, fun w0 φ0 M η a w hD hM hs hf => ?_⟩
    obtain ⟨η1, e1, e2⟩ := h3 M η w a hs.hr hM hs.tr
    exact g2 w0 φ0 M η1 w a N e1.hr e2 (hf.adv e1) hs.size (hs.defers.trans hD.symm)
  unfold treg at hx
  cases draw with
  | true =>
    simp only at hx
    obtain ⟨t', H', h1, h2, h3⟩ := tdraw_ok hm hT hC hx
    obtain ⟨s', H2, g1, g2, g3⟩ := fin h1
    refine ⟨s', g1, fun w0 φ0 a w Q hD hs hQ => ?_⟩
    obtain ⟨η, hsr, hf⟩ := hs.sr
    rw [hD] at hsr
    exact h3 H2.next η a w Q g2.next (hsr _) fun a' w' η' hs' hadv => hQ a' w' (g3 w0 φ0 H2.next η' a' w' hD (Nat.le_refl _) hs' (hf.adv hadv))
  | false =>
    simp only at hx
    obtain ⟨t', H', h1, h2, h3⟩ := tops_ok hT hC _ hx
    obtain ⟨s', H2, g1, g2, g3⟩ := fin h1
    refine ⟨s', g1, fun w0 φ0 a w Q hD hs hQ => ?_⟩
    obtain ⟨η, hsr, hf⟩ := hs.sr
    rw [hD] at hsr
    exact h3 H2.next η a w Q g2.next (hsr _) fun a' w' η' hs' hadv => hQ a' w' (g3 w0 φ0 H2.next η' a' w' hD (Nat.le_refl _) hs' (hf.adv hadv))
theorem reg_ok (hm : P.follows .mixedOrders = true) (hT : TysOK P T) (hC : OrcOK P C) {ops : Array Oper} {draw : Bool} {keep : List (Nat × Kd)} {s : St} {k : St → Option β} (hx : treg T C N ops draw keep s k = some b) : ∃ s', k s' = some b ∧
    ∀ w0 (φ0 : Fz0) rid a w Q, φ0.D = D → SS w0 φ0 N s a w → (∀ a' w', SS w0 φ0 N s' a' w' → Q .normal a' w') → (Code.region rid ops draw).wp P Q a w := by
  obtain ⟨s', h1, h2⟩ := reg_rw (D := D) hm hT hC hx
  refine ⟨s', h1, fun w0 φ0 rid a w Q hD hs hQ => ?_⟩
  have h3 := h2 w0 φ0 a w Q hD hs hQ
  cases draw with
  | true => exact wp_region_any hm h3
  | false => exact wp_region_list h3
end
end Go.Tx

namespace Go.Tx
open Go
/-- what a region does with its variables: tests, calls, checks; one end is reached -/
inductive Dt (Y : Type) : Type 1 where
  | ret (y : Y)
  | ite (c : Bool) (t e : Dt Y)
  | bnd {R : Type} (o : Option R) (f : R → Dt Y)
  | fail
def Dt.eval {Y β : Type} : Dt Y → (Y → Option β) → Option β
  | .ret y, k => k y
  | .ite c t e, k => bif c then t.eval k else e.eval k
  | .bnd o f, k => match o with
    | some x => (f x).eval k
    | none => none
  | .fail, _ => none
theorem Dt.one {Y β : Type} : ∀ (t : Dt Y) {K : Y → Option β} {r : β}, t.eval K = some r → ∃ y, K y = some r ∧ ∀ {γ : Type} (k : Y → Option γ), t.eval k = k y
  | .ret y, K, r, h => ⟨y, h, fun _ => rfl⟩
  | .ite c t e, K, r, h => by
    cases c with
    | true => exact Dt.one t h
    | false => exact Dt.one e h
  | .bnd o f, K, r, h => by
    cases o with
    | some x => exact Dt.one (f x) h
    | none => cases h
  | .fail, K, r, h => by cases h
section
variable {P : Program} {T : Tys} {C : Orc} {M N : Nat} {w0 : World} {φ0 : Fz0} {Q : Exit → Act → World → Prop}
def Run (P : Program) (w0 : World) (φ0 : Fz0) (N : Nat) (c : Code) (s : St) (Q : Exit → Act → World → Prop) : Prop := ∀ a w, SS w0 φ0 N s a w → c.wp P Q a w
def Cn (w0 : World) (φ0 : Fz0) (N : Nat) (s : St) (Q : Exit → Act → World → Prop) (e : Exit) : Prop := ∀ a w, SS w0 φ0 N s a w → Q e a w
theorem cn_then {c : Code} {s : St} (h : Run P w0 φ0 N c s Q) : Cn w0 φ0 N s (Exit.then (c.wp P Q) Q) .normal := h
theorem cn_then_exit {s : St} {K : Act → World → Prop} {i : Nat} (h : Cn w0 φ0 N s Q (.exit i)) : Cn w0 φ0 N s (Exit.then K Q) (.exit i) := h
theorem cn_then_ret {s : St} {K : Act → World → Prop} (h : Cn w0 φ0 N s Q .ret) : Cn w0 φ0 N s (Exit.then K Q) .ret := h
theorem cn_blk {s : St} {i : Nat} (h : Cn w0 φ0 N s Q .normal) : Cn w0 φ0 N s (Exit.inBlock i Q) .normal := h
theorem cn_blk_ret {s : St} {i : Nat} (h : Cn w0 φ0 N s Q .ret) : Cn w0 φ0 N s (Exit.inBlock i Q) .ret := h
theorem cn_blk_eq {s : St} {i : Nat} (h : Cn w0 φ0 N s Q .normal) : Cn w0 φ0 N s (Exit.inBlock i Q) (.exit i) := fun a w hs => by
  show (if i = i then Q .normal a w else Q (.exit i) a w)
  rw [if_pos rfl]; exact h a w hs
theorem cn_blk_ne {s : St} {i j : Nat} (hij : Nat.beq j i = false) (h : Cn w0 φ0 N s Q (.exit j)) : Cn w0 φ0 N s (Exit.inBlock i Q) (.exit j) := fun a w hs => by
  show (if j = i then Q .normal a w else Q (.exit j) a w)
  rw [if_neg (Nat.ne_of_beq_eq_false hij)]; exact h a w hs
theorem cn_sco {s : St} (h : Cn w0 φ0 N s Q .normal) : Cn w0 φ0 N s (Exit.noGoto Q) .normal := h
theorem cn_sco_exit {s : St} {i : Nat} (h : Cn w0 φ0 N s Q (.exit i)) : Cn w0 φ0 N s (Exit.noGoto Q) (.exit i) := h
theorem cn_sco_ret {s : St} (h : Cn w0 φ0 N s Q .ret) : Cn w0 φ0 N s (Exit.noGoto Q) .ret := h
theorem run_skip {s : St} (h : Cn w0 φ0 N s Q .normal) : Run P w0 φ0 N .skip s Q := fun a w hs => wp_skip (h a w hs)
theorem run_label {s : St} {l : Nat} (h : Cn w0 φ0 N s Q .normal) : Run P w0 φ0 N (.label l) s Q := fun a w hs => wp_label (h a w hs)
theorem run_exit {s : St} {i : Nat} (h : Cn w0 φ0 N s Q (.exit i)) : Run P w0 φ0 N (.exit i) s Q := fun a w hs => wp_exit (h a w hs)
theorem run_ret {s : St} (h : Cn w0 φ0 N s Q .ret) : Run P w0 φ0 N .ret s Q := fun a w hs => wp_ret (h a w hs)
theorem run_seq {x y : Code} {s : St} (h : Run P w0 φ0 N x s (Exit.then (y.wp P Q) Q)) : Run P w0 φ0 N (.seq x y) s Q := fun a w hs => wp_seq (h a w hs)
theorem run_block {c : Code} {s : St} {i : Nat} (h : Run P w0 φ0 N c s (Exit.inBlock i Q)) : Run P w0 φ0 N (.block i c) s Q := fun a w hs => wp_block (h a w hs)
theorem run_scope {c : Code} {s : St} (h : Run P w0 φ0 N c s (Exit.noGoto Q)) : Run P w0 φ0 N (.scope c) s Q := fun a w hs => wp_scope_straight (h a w hs)
/-- where several ways meet -/
theorem run_join {R X : Type} {r : R} {F : X → Option R} {S : X → St} {x y : Code} {s : St} (hj : ∀ z, F z = some r → Run P w0 φ0 N y (S z) Q) (h : (∀ z, F z = some r → Cn w0 φ0 N (S z) (Exit.then (y.wp P Q) Q) .normal) → Run P w0 φ0 N x s (Exit.then (y.wp P Q) Q)) : Run P w0 φ0 N (.seq x y) s Q := run_seq (h hj)
def stev (s : St) (c : Operand) : LV := xev (memOf s.tm .lf) c
theorem run_cond {R : Type} {r : R} {v : Bool} {A B : Option R} {c : Operand} {x y : Code} {s : St} (hc : stev s c = .bool v) (h : (bif v then A else B) = some r) (ht : A = some r → Run P w0 φ0 N x s Q) (hf : B = some r → Run P w0 φ0 N y s Q) : Run P w0 φ0 N (.cond c x y) s Q := fun a w hs => by
  obtain ⟨η, h1, _⟩ := hs.sr
  have hv := xev_ok (h1 0).tr c
  rw [show xev (memOf s.tm .lf) c = .bool v from hc] at hv
  have hcv : a.eval c = .bool v := by
    generalize a.eval c = u at hv
    cases hv; rfl
  refine wp_cond hcv ?_
  cases v with
  | true => exact ht h a w hs
  | false => exact hf h a w hs
theorem run_reg (hm : P.follows .mixedOrders = true) (hT : TysOK P T) (hC : OrcOK P C) {R Y : Type} {r : R} {rid : Nat} {ops : Array Oper} {draw : Bool} {keep : List (Nat × Kd)} {s : St} {t : Dt Y} {S : Y → St} {K : Y → Option R}
    (hreg : treg T C N ops draw keep s some = t.eval fun y => some (S y)) (h : t.eval K = some r) (hk : ∀ y, K y = some r → Cn w0 φ0 N (S y) Q .normal) : Run P w0 φ0 N (.region rid ops draw) s Q := by
  obtain ⟨y, h1, h2⟩ := t.one h
  rw [h2] at hreg
  obtain ⟨s', h3, h4⟩ := reg_ok (D := φ0.D) hm hT hC hreg
  injection h3 with h3; subst h3
  exact fun a w hs => h4 w0 φ0 rid a w Q rfl hs (hk y h1)
theorem run_loop {R X : Type} {r : R} {G : Nat → X → Option R} {S : X → St} {c : Code} (h0 : ∀ x, G 0 x = none)
    (hs : ∀ n x, G (n + 1) x = some r → ∀ K : Act → World → Prop, (∀ y, G n y = some r → Cn w0 φ0 N (S y) (Exit.then K Q) .normal) → Run P w0 φ0 N c (S x) (Exit.then K Q)) (n : Nat) (x : X) (h : G n x = some r) : Run P w0 φ0 N (.loop c) (S x) Q := by
  have key : ∀ n x, G n x = some r → ∀ a w, SS w0 φ0 N (S x) a w → Code.rounds P c Q n a w := by
    intro n
    induction n with
    | zero => intro x hx; rw [h0] at hx; cases hx
    | succ n ih =>
      intro x hx a w hss
      rw [rounds_succ]
      exact hs n x hx _ (fun y hy => ih y hy) a w hss
  exact fun a w hss => wp_loop_rounds n (key n x h a w hss)
/-- results -/
def tres (T : Tys) (s : St) : List ResultVar → Option (List LV)
  | [] => some []
  | .tmp d :: rs => match tres T s rs with | some ls => some (stev s (.tmp d) :: ls) | none => none
  | .cell d ty :: rs => match tload T ty (stev s (.tmp d)) (heapOf s.ob) (fun l _ => some l) with
    | some l => match tres T s rs with | some ls => some (l :: ls) | none => none
    | none => none
def xone : List LV → LV
  | [l] => l
  | ls => .tup ls
def tfin (T : Tys) (rs : List ResultVar) (s : St) : Option (LV × List Ob) :=
  match tres T s rs with
  | some ls => match reach (heapOf s.ob) 1000 (ls.flatMap refs1) [] with
    | ρ => bif nodupB ρ then (match rens ρ ls, renObs (heapOf s.ob) ρ ρ with
      | some ls, some obs => some (xone ls, obs)
      | _, _ => none) else none
  | none => none
def resultOf (tmps : Array Value) : ResultVar → Sem Value
  | .tmp t => pure (tmps.getD t undef)
  | .cell a t => do loadVar t (← asAddr (tmps.getD a undef))
theorem res_ok (hT : TysOK P T) {D : List Deferred} {s : St} {η : Emb} {a : Act} {w : World} (hs : SR M N D η (memOf s.tm .lf) (heapOf s.ob) a w) : ∀ (rs : List ResultVar) {ls : List LV}, tres T s rs = some ls → ∃ vs, (rs.mapM (resultOf a.tmps)).run P w = .ok vs w ∧ VRs η ls vs
  | [], ls, hx => by rw [tres] at hx; injection hx with hx; subst hx; exact ⟨[], by simp, VRs.nil⟩
  | .tmp d :: rs, ls, hx => by
    rw [tres] at hx
    split at hx
    · rename_i ls' hls
      injection hx with hx; subst hx
      obtain ⟨vs, h1, h2⟩ := res_ok hT hs rs hls
      exact ⟨a.tmps.getD d undef :: vs, by simp [List.mapM_cons, resultOf, h1], VRs.cons (xev_ok hs.tr (.tmp d)) h2⟩
    · cases hx
  | .cell d ty :: rs, ls, hx => by
    rw [tres] at hx
    split at hx
    · rename_i l hl
      split at hx
      · rename_i ls' hls
        injection hx with hx; subst hx
        obtain ⟨vs, h1, h2⟩ := res_ok hT hs rs hls
        obtain ⟨u, g1, g2⟩ := load_var hT hl
        injection g1 with g1; subst g1
        obtain ⟨ad, v', e1, e2, e3⟩ := g2 M η w _ hs.hr (xev_ok hs.tr (.tmp d))
        refine ⟨v' :: vs, ?_, VRs.cons e3 h2⟩
        have e1' : a.tmps.getD d undef = .pointer (some ad) := e1
        simp only [List.mapM_cons, resultOf, e1', asAddr]
        simp [e2, h1]
      · cases hx
    · cases hx
/-- a value of cells -/
def argOf (τ : Row) (agg : Bool) (x : den τ) : LV :=
  match agg with
  | true => .agg (split τ x)
  | false => match split τ x with
    | [l] => l
    | _ => .undef
/-- a parameter: a value of cells; a closure over variables; a captured variable -/
inductive Pk where
  | row (τ : Row) (agg : Bool)
  | fn (f : FuncId) (τs : List Row)
  | ref (τ : Row)
def denR : List Row → Type
  | [] => Unit
  | τ :: r => den τ × denR r
def Pk.den : Pk → Type
  | .row τ _ => Tx.den τ
  | .fn _ τs => denR τs
  | .ref τ => Tx.den τ
def fpsOf : (τs : List Row) → denR τs → List LV
  | [], _ => []
  | τ :: r, x => .fp τ x.1 0 :: fpsOf r x.2
def Pk.arg : (p : Pk) → p.den → LV
  | .row τ agg, x => argOf τ agg x
  | .fn f τs, x => .fn f (fpsOf τs x)
  | .ref τ, x => .fp τ x 0
def dens : List Pk → Type
  | [] => Unit
  | p :: r => p.den × dens r
def argsOf : (τs : List Pk) → dens τs → List LV
  | [], _ => []
  | p :: r, x => p.arg x.1 :: argsOf r x.2
def nums : Nat → List LV → List (Nat × LV)
  | _, [] => []
  | i, l :: ls => (i, l) :: nums (i + 1) ls
/-- a contract: what a function gives -/
structure Spec where
  g : FuncId
  τs : List Pk
  R : Type
  F : dens τs → Option R
  enc : R → LV × List Ob
def Emb.fro (φ : Nat → Option Obj) : Emb := ⟨fun _ => none, fun _ => none, φ⟩
structure COK (P : Program) (S : Spec) : Prop where
  ok : ∀ x r, S.F x = some r → ∀ (w : World) (φ : Nat → Option Obj) (vs : List Value), (∀ k ob, φ k = some ob → w.heap[k]? = some ob) → VRs (Emb.fro φ) (argsOf S.τs x) vs →
    Calls P S.g vs.toArray w fun e w' => ∃ v' η', e = .returned v' ∧ VR η' (S.enc r).1 v' ∧ (∀ M, HR M η' (heapOf (S.enc r).2) w') ∧ Fr w (noK φ) (heapOf (S.enc r).2) η' w'
  body : ∃ fn c, P.funcs[S.g]? = some fn ∧ fn.body = some c ∧ ¬ fn.name = "runtime.NumGoroutine"
theorem nums_mem : ∀ (ls : List LV) (i n : Nat) (l : LV), (n, l) ∈ nums i ls → i ≤ n ∧ ls[n - i]? = some l
  | [], i, n, l, h => by simp [nums] at h
  | x :: ls, i, n, l, h => by
    rcases List.mem_cons.1 h with h | h
    · injection h with h1 h2; subst h1 h2; exact ⟨Nat.le_refl _, by simp⟩
    · obtain ⟨h1, h2⟩ := nums_mem ls (i + 1) n l h
      exact ⟨by omega, by rw [show n - i = (n - (i + 1)) + 1 by omega, List.getElem?_cons_succ]; exact h2⟩
theorem hr_nil {w : World} {φ : Nat → Option Obj} (hφ : ∀ k ob, φ k = some ob → w.heap[k]? = some ob) (M : Nat) : HR M (Emb.fro φ) (heapOf []) w :=
  ⟨fun _ _ _ => ⟨rfl, rfl⟩, (fun b cs h => by rw [get_heapOf] at h; simp at h), (fun b cs h => by rw [get_heapOf] at h; simp at h), (fun b1 b2 c1 c2 L1 L2 h => by rw [get_heapOf] at h; simp at h), hφ, (fun k ⟨b, ob, L, h, _⟩ => by rw [get_heapOf] at h; simp at h), fun b v h => by cases h⟩
theorem fr_nil (w : World) (φ : Nat → Option Obj) : Fr w (noK φ) (heapOf []) (Emb.fro φ) w :=
  ⟨Nat.le_refl _, fun _ _ => rfl, (fun k ⟨b, ob, L, h, _⟩ => by rw [get_heapOf] at h; simp at h), fun _ _ h => h, fun _ _ h => .inl h, rfl, rfl, rfl, Nat.le_refl _, fun _ _ h => h.elim⟩
/-- what holds where a body ends -/
def End (T : Tys) (w0 : World) (φ0 : Fz0) (N : Nat) (rs : List ResultVar) (out : LV × List Ob) (Q : Exit → Act → World → Prop) : Prop :=
  ∀ s, tfin T rs s = some out → Cn w0 φ0 N s Q .normal ∧ Cn w0 φ0 N s Q .ret
theorem fin_ok (hT : TysOK P T) {S : Spec} {r : S.R} {fn : Func} {s : St} {w : World} {ψ : Fz0} (hs : tfin T fn.results.toList s = some (S.enc r)) : ∀ a w', SS w ψ fn.ntmps s a w' → a.defers = ψ.D ∧ ∃ v, (results fn a.tmps).run P w' = .ok v w' ∧ ∃ v' η', (Ending.returned v) = .returned v' ∧ VR η' (S.enc r).1 v' ∧ (∀ M, HR M η' (heapOf (S.enc r).2) w') ∧ Fr w ψ (heapOf (S.enc r).2) η' w' := by
  intro a w' hss
  obtain ⟨η, hsr, hfr⟩ := hss.sr
  refine ⟨hss.defers, ?_⟩
  unfold tfin at hs
  split at hs
  · rename_i ls hls
    generalize reach (heapOf s.ob) 1000 (ls.flatMap refs1) [] = ρ at hs
    simp only at hs
    rw [Bool.cond_eq_ite] at hs
    split at hs
    · rename_i hn
      split at hs
      · rename_i ls' obs h1 h2
        injection hs with hs
        obtain ⟨us, r1, r2⟩ := res_ok hT (hsr 0) fn.results.toList hls
        have hlen2 := r2.1
        have hrun : (results fn a.tmps).run P w' = .ok (if h : us.length = 1 then us[0] else .tuple us.toArray) w' := by
          have e5 : results fn a.tmps = (do let vs ← fn.results.mapM (resultOf a.tmps); pure (if h : vs.size = 1 then vs[0] else .tuple vs)) := by
            unfold results
            refine congrArg (fun f : ResultVar → Sem Value => (do let vs ← fn.results.mapM f; pure (if h : vs.size = 1 then vs[0] else .tuple vs) : Sem Value)) ?_
            funext x; cases x <;> rfl
          rw [e5, Array.mapM_eq_mapM_toList]
          simp [r1]
        have r3 := rens_ok ρ h1 r2
        have hlen3 := r3.1
        have hval : VR (η.sub ρ) (xone ls') (if h : us.length = 1 then us[0] else .tuple us.toArray) := by
          cases ls' with
          | nil =>
            have : us = [] := by simpa using hlen3.symm
            subst this; exact .tup r3.1 r3.2
          | cons l ls' =>
            cases ls' with
            | nil =>
              obtain ⟨u, rfl, hu⟩ := vrs1 r3
              exact hu
            | cons l2 ls' =>
              have : ¬ us.length = 1 := by simp at hlen3; omega
              rw [dif_neg this]; exact .tup r3.1 r3.2
        have o1 : xone ls' = (S.enc r).1 := congrArg Prod.fst hs
        have o2 : obs = (S.enc r).2 := congrArg Prod.snd hs
        rw [o1] at hval
        rw [o2] at h2
        exact ⟨_, hrun, _, _, rfl, hval, hr_sub hn h2 (hsr 0).hr, fr_sub h2 hfr⟩
      · cases hs
    · cases hs
  · cases hs
theorem cok_of (hT : TysOK P T) {S : Spec} {fn : Func} {c : Code} (hfn : P.funcs[S.g]? = some fn) (hc : fn.body = some c) (hname : ¬ fn.name = "runtime.NumGoroutine")
    (h : ∀ x r, S.F x = some r → ∀ w0 φ0 Q, End T w0 φ0 fn.ntmps fn.results.toList (S.enc r) Q → Run P w0 φ0 fn.ntmps c ⟨nums 0 (argsOf S.τs x), []⟩ Q) : COK P S := by
  refine ⟨fun x r hx w φ vs hφ hv => ?_, fn, c, hfn, hc, hname⟩
  refine calls_of_wp hfn hc ?_
  refine h x r hx w (noK φ) _ (fun s hs => ?_) _ w ⟨⟨Emb.fro φ, hr_nil hφ, fun n l hl => ?_, fr_nil w φ⟩, ?_, rfl⟩
  · have fin : ∀ a w', SS w (noK φ) fn.ntmps s a w' → _ := fin_ok (S := S) (r := r) hT hs
    exact ⟨fun a w' hss => fin a w' hss, fun a w' hss => fin a w' hss⟩
  · obtain ⟨_, h2⟩ := nums_mem _ 0 n l hl
    rw [Nat.sub_zero] at h2
    obtain ⟨v, e1, e2⟩ := hv.get h2
    refine ⟨v, ?_, e2⟩
    have hlt := (List.getElem?_eq_some_iff.1 e1).1
    rw [Array.getElem?_append_left (by simpa using hlt)]
    simpa using e1
  · simp; omega
end
end Go.Tx

namespace Go.Tx
open Go
/-- no slices in a row -/
def plainR : Row → Bool
  | .nil => true
  | .int _ r => plainR r
  | .bool r => plainR r
  | .sl _ _ => false
theorem vr_plain {η η' : Emb} : ∀ (τ : Row) (x : den τ), plainR τ = true → ∀ {c : LV}, c ∈ split τ x → ∀ {v : Value}, VR η c v → VR η' c v
  | .nil, _, _, c, hc, _, _ => by simp [split] at hc
  | .int k r, x, hp, c, hc, v, hv => by
    rcases List.mem_cons.1 hc with rfl | hc
    · cases hv; exact .int _ _
    · exact vr_plain r x.2 hp hc hv
  | .bool r, x, hp, c, hc, v, hv => by
    rcases List.mem_cons.1 hc with rfl | hc
    · cases hv; exact .bool _
    · exact vr_plain r x.2 hp hc hv
  | .sl e r, _, hp, _, _, _, _ => by cases hp
mutual
def shift (n : Nat) : LV → LV
  | .ptr b o => .ptr (n + b) o
  | .rp b i sz j => .rp (n + b) i sz j
  | .rs b => .rs (n + b)
  | .fn f cs => .fn f (shifts n cs)
  | .agg cs => .agg (shifts n cs)
  | .tup cs => .tup (shifts n cs)
  | .undef => .undef
  | .int k m => .int k m
  | .bool v => .bool v
  | .nilp => .nilp
  | .str s => .str s
  | .nils => .nils
  | .fz τ xs => .fz τ xs
  | .fp τ x j => .fp τ x j
def shifts (n : Nat) : List LV → List LV
  | [] => []
  | c :: cs => shift n c :: shifts n cs
end
mutual
/-- is a frozen part in it? -/
def hasF : LV → Bool
  | .fz _ _ => true
  | .fp _ _ _ => true
  | .fn _ cs => hasFs cs
  | .agg cs => hasFs cs
  | .tup cs => hasFs cs
  | _ => false
def hasFs : List LV → Bool
  | [] => false
  | c :: cs => hasF c || hasFs cs
end
theorem shifts_len (n : Nat) : ∀ cs : List LV, (shifts n cs).length = cs.length
  | [] => rfl
  | c :: cs => by rw [shifts, List.length_cons, List.length_cons, shifts_len n cs]
/-- numbers of one embedding, moved into another one -/
structure Moved (n : Nat) (η η' : Emb) (fr : Bool) : Prop where
  loc : ∀ b L, η.loc b = some L → η'.loc (n + b) = some L
  hdr : ∀ b v, η.hdr b = some v → η'.hdr (n + b) = some v
  fz : fr = true → ∀ k ob, η.fz k = some ob → η'.fz k = some ob
mutual
theorem shift_ok {n : Nat} {η η' : Emb} {fr : Bool} (hm : Moved n η η' fr) : ∀ {l : LV} {v : Value}, (fr = true ∨ hasF l = false) → VR η l v → VR η' (shift n l) v
  | .ptr b o, v, hf, hv => by rw [shift]; cases hv with | ptr h => exact .ptr (hm.loc _ _ h)
  | .rp b i sz j, v, hf, hv => by rw [shift]; cases hv with | rp h hh hi => exact .rp (hm.loc _ _ h) (hm.hdr _ _ hh) hi
  | .rs b, v, hf, hv => by rw [shift]; cases hv with | rs h => exact .rs (hm.hdr _ _ h)
  | .fn f cs, v, hf, hv => by
    rw [shift]
    cases hv with
    | fn hl hh => have := shifts_ok hm (hf.imp id fun h => by rw [hasF] at h; exact h) ⟨hl, hh⟩; exact .fn this.1 this.2
  | .agg cs, v, hf, hv => by
    rw [shift]
    cases hv with
    | agg hl hh => have := shifts_ok hm (hf.imp id fun h => by rw [hasF] at h; exact h) ⟨hl, hh⟩; exact .agg this.1 this.2
  | .tup cs, v, hf, hv => by
    rw [shift]
    cases hv with
    | tup hl hh => have := shifts_ok hm (hf.imp id fun h => by rw [hasF] at h; exact h) ⟨hl, hh⟩; exact .tup this.1 this.2
  | .undef, v, _, hv => by rw [shift]; exact .undef _
  | .int k m, v, _, hv => by rw [shift]; cases hv; exact .int _ _
  | .bool m, v, _, hv => by rw [shift]; cases hv; exact .bool _
  | .nilp, v, _, hv => by rw [shift]; cases hv; exact .nilp
  | .str s, v, _, hv => by rw [shift]; cases hv; exact .str _
  | .nils, v, _, hv => by rw [shift]; cases hv; exact .nils
  | .fz τ xs, v, hf, hv => by
    rw [shift]
    cases hv with
    | fz h => exact .fz (h.mono (RowF.mono (hm.fz (hf.resolve_right (by rw [hasF]; simp))) τ))
  | .fp τ x j, v, hf, hv => by
    rw [shift]
    cases hv with
    | fp h => exact .fp (h.mono (hm.fz (hf.resolve_right (by rw [hasF]; simp))))
theorem shifts_ok {n : Nat} {η η' : Emb} {fr : Bool} (hm : Moved n η η' fr) : ∀ {cs : List LV} {vs : List Value}, (fr = true ∨ hasFs cs = false) → VRs η cs vs → VRs η' (shifts n cs) vs
  | [], vs, _, hv => by
    rw [shifts]
    have : vs = [] := by have := hv.1; simpa using this.symm
    subst this; exact VRs.nil
  | c :: cs, vs, hf, hv => by
    obtain ⟨v, vs, rfl, h1, h2⟩ := hv.uncons
    rw [shifts]
    have hf' : fr = true ∨ (hasF c = false ∧ hasFs cs = false) := hf.imp id fun h => by rw [hasFs, Bool.or_eq_false_iff] at h; exact h
    exact VRs.cons (shift_ok hm (hf'.imp id And.left) h1) (shifts_ok hm (hf'.imp id And.right) h2)
end
def numL : LV → Bool
  | .int _ _ => true
  | .bool _ => true
  | _ => false
def flatL : LV → Bool
  | .int _ _ => true
  | .bool _ => true
  | .fz _ _ => true
  | _ => false
def Ob.plainB : Ob → Bool
  | .cells cs => cs.all numL
  | .rows τ _ => plainR τ
def Ob.rowsB : Ob → Bool
  | .cells cs => cs.all flatL
  | .rows _ _ => true
theorem at_cells {n : Nat} {η η' : Emb} {fr : Bool} {w : World} {cs : List LV} {L : Loc} (hm : Moved n η η' fr) (h1 : cs.all flatL = true) (h2 : fr = true ∨ cs.all numL = true) (h : At η w cs L) : At η' w cs L :=
  ⟨h.lt, h.fits, h.there, fun j c hc => by
    obtain ⟨v, a, b⟩ := h.cell j c hc
    have hmem := List.mem_of_getElem? hc
    have e1 := (List.all_eq_true.1 h1) c hmem
    refine ⟨v, a, ?_⟩
    cases b with
    | int => exact .int _ _
    | bool => exact .bool _
    | fz hf =>
      refine .fz (hf.mono (RowF.mono (hm.fz (h2.resolve_right fun h3 => ?_)) _))
      have := (List.all_eq_true.1 h3) _ hmem
      cases this
    | _ => cases e1⟩
def addObs (H : LH) : List Ob → LH
  | [] => H
  | ob :: l => addObs (H.alloc ob) l
theorem addObs_ok : ∀ (l : List Ob) (H : LH), (addObs H l).next = H.next + l.length ∧ (addObs H l).log = H.log ∧ ∀ b, (addObs H l).get b = if H.next ≤ b ∧ b < H.next + l.length then l[b - H.next]? else H.get b
  | [], H => ⟨rfl, rfl, fun b => by rw [addObs, if_neg]; simp⟩
  | ob :: l, H => by
    obtain ⟨h1, h2, h3⟩ := addObs_ok l (H.alloc ob)
    have hn : (H.alloc ob).next = H.next + 1 := rfl
    refine ⟨by rw [addObs, h1, hn, List.length_cons]; omega, by rw [addObs, h2]; rfl, fun b => ?_⟩
    rw [addObs, h3, hn, LH.get_alloc, List.length_cons]
    by_cases e1 : H.next + 1 ≤ b ∧ b < H.next + 1 + l.length
    · rw [if_pos e1, if_pos (by omega), show b - H.next = (b - (H.next + 1)) + 1 by omega, List.getElem?_cons_succ]
    · rw [if_neg e1]
      by_cases e2 : b = H.next
      · subst e2; rw [if_pos rfl, if_pos (by omega), Nat.sub_self]; rfl
      · rw [if_neg e2, if_neg (by omega)]
def killAll (H : LH) : List Nat → LH
  | [] => H
  | n :: l => killAll (H.put n none) l
theorem killAll_ok : ∀ (l : List Nat) (H : LH), (killAll H l).next = H.next ∧ (∃ m, (killAll H l).log = m ++ H.log ∧ ∀ b, b ∉ m → b ∉ l) ∧ ∀ b, (killAll H l).get b = if b ∈ l then none else H.get b
  | [], H => ⟨rfl, ⟨[], rfl, fun b h => by simp⟩, fun b => by simp [killAll]⟩
  | n :: l, H => by
    obtain ⟨h1, ⟨m, h2, h4⟩, h3⟩ := killAll_ok l (H.put n none)
    refine ⟨h1, ⟨m ++ [n], by rw [killAll, h2]; simp [LH.put], fun b hb => ?_⟩, fun b => ?_⟩
    · simp only [List.mem_append, List.mem_singleton, not_or] at hb
      simp only [List.mem_cons, not_or]
      exact ⟨hb.2, h4 b hb.1⟩
    · rw [killAll, h3, LH.get_put]
      simp only [List.mem_cons]
      by_cases e1 : b ∈ l
      · rw [if_pos e1, if_pos (.inr e1)]
      · rw [if_neg e1]
        by_cases e2 : b = n
        · rw [if_pos e2, if_pos (.inl e2)]
        · rw [if_neg e2, if_neg (fun h => h.elim e2 e1)]
/-- a result is laid -/
def place (H : LH) (A : List Nat) (r : LV × List Ob) : LV × LH :=
  (shift H.next r.1, addObs (bif hasF r.1 || !(r.2.all Ob.plainB) then killAll H A else H) r.2)
/-- a value, not its number -/
def byVal1 (H : LH) (l : LV) : Option LV :=
  match l with
  | .rs m => match H.get m with | some (.rows τ xs) => some (.fz τ xs) | _ => none
  | .int k n => some (.int k n)
  | .bool v => some (.bool v)
  | .nils => some .nils
  | .fz τ xs => some (.fz τ xs)
  | _ => none
def byVals (H : LH) : List LV → Option (List LV)
  | [] => some []
  | c :: cs => match byVal1 H c with
    | some c => match byVals H cs with | some cs => some (c :: cs) | none => none
    | none => none
/-- a captured variable -/
def byRef (H : LH) (τ : Row) (l : LV) : Option (den τ) :=
  match l with
  | .ptr n 0 => match H.get n with
    | some (.cells cs) => match byVals H cs with
      | some ds => join τ ds
      | none => none
    | _ => none
  | .fp σ x 0 => if h : σ = τ then some (h ▸ x) else none
  | _ => none
def decR (H : LH) : (τs : List Row) → List LV → Option (denR τs)
  | [], [] => some ()
  | τ :: r, l :: ls => match byRef H τ l with
    | some x => match decR H r ls with | some y => some (x, y) | none => none
    | none => none
  | _, _ => none
/-- arguments of a contract -/
def decF (H : LH) (f : FuncId) (τs : List Row) (g : FuncId) (cs : List LV) : Option (denR τs) := bif Nat.beq g f then decR H τs cs else none
def decP (H : LH) : (p : Pk) → LV → Option p.den
  | .row τ true, .agg cs => match byVals H cs with
    | some cs => join τ cs
    | none => none
  | .row τ false, l => match byVal1 H l with
    | some l => join τ [l]
    | none => none
  | .fn f τs, .fn g cs => decF H f τs g cs
  | .ref τ, l => byRef H τ l
  | _, _ => none
def decs (H : LH) : (τs : List Pk) → List LV → Option (dens τs)
  | [], [] => some ()
  | p :: r, l :: ls => match decP H p l with
    | some x => match decs H r ls with | some y => some (x, y) | none => none
    | none => none
  | _, _ => none
/-- the objects behind arguments -/
def deep (H : LH) (l : List Nat) : List Nat := l.flatMap fun n => n :: match H.get n with | some ob => obRefs ob | none => []
def findS (H : LH) (args : List LV) : List Spec → FuncId → Option ((S : Spec) × dens S.τs)
  | [], _ => none
  | S :: l, g => bif Nat.beq S.g g then (match decs H S.τs args with
    | some x => some ⟨S, x⟩
    | none => findS H args l g) else findS H args l g
def orc (l : List Spec) : Orc := fun g args H => match findS H args l g with
  | some p => some ⟨p.1.R, p.1.F p.2, fun r => bif (p.1.enc r).2.all Ob.rowsB then place H (deep H (args.flatMap refs1)) (p.1.enc r) else (.undef, H)⟩
  | none => none
theorem findS_mem {H : LH} {args : List LV} : ∀ {l : List Spec} {g : FuncId} {p : (S : Spec) × dens S.τs}, findS H args l g = some p → p.1 ∈ l ∧ p.1.g = g ∧ decs H p.1.τs args = some p.2
  | [], _, _, h => by cases h
  | S0 :: l, g, p, h => by
    have rest : findS H args l g = some p → p.1 ∈ S0 :: l ∧ p.1.g = g ∧ decs H p.1.τs args = some p.2 := fun h =>
      let ⟨h1, h2⟩ := findS_mem h; ⟨List.mem_cons_of_mem _ h1, h2⟩
    rw [findS, Bool.cond_eq_ite] at h
    split at h
    · rename_i he
      split at h
      · rename_i x hx
        injection h with h; subst h
        exact ⟨List.mem_cons_self .., Nat.eq_of_beq_eq_true he, hx⟩
      · exact rest h
    · exact rest h
section
variable {P : Program} {M : Nat} {H : LH} {η : Emb} {w : World}
/-- what is frozen while a call runs -/
structure Phi (H : LH) (η : Emb) (w : World) (A : List Nat) (φ : Nat → Option Obj) : Prop where
  fz : ∀ k ob, η.fz k = some ob → φ k = some ob
  at_ : ∀ k n ob L, η.fz k = none → n ∈ A → H.get n = some ob → η.loc n = some L → L.block = k → φ k = w.heap[k]?
  cases : ∀ k ob, φ k = some ob → η.fz k = some ob ∨ (η.fz k = none ∧ (∃ n ∈ A, ∃ ob L, H.get n = some ob ∧ η.loc n = some L ∧ L.block = k) ∧ w.heap[k]? = some ob)
theorem phi_ex (H : LH) (η : Emb) (w : World) (A : List Nat) : ∃ φ, Phi H η w A φ := by
  classical
  refine ⟨fun k => if (η.fz k).isSome = true then η.fz k else if ∃ n ∈ A, ∃ ob L, H.get n = some ob ∧ η.loc n = some L ∧ L.block = k then w.heap[k]? else none, fun k ob h => ?_, fun k n ob L h hn hg hL hk => ?_, fun k ob h => ?_⟩
  · rw [if_pos (by rw [h]; rfl)]; exact h
  · rw [if_neg (by rw [h]; simp), if_pos ⟨n, hn, ob, L, hg, hL, hk⟩]
  · split at h
    · exact .inl h
    · rename_i h1
      split at h
      · rename_i h2
        exact .inr ⟨by cases hf : η.fz k with | none => rfl | some x => rw [hf] at h1; simp at h1, h2, h⟩
      · cases h
variable {φ : Nat → Option Obj}
theorem byVal1_ok (h : HR M η H w) {A : List Nat} (hp : Phi H η w A φ) {l l' : LV} {v : Value} (hx : byVal1 H l = some l') (hA : ∀ n ∈ refs l, n ∈ A) (hv : VR η l v) : VR (Emb.fro φ) l' v := by
  unfold byVal1 at hx
  split at hx
  · rename_i m
    split at hx
    · rename_i τ xs hg
      injection hx with hx; subst hx
      cases hv with
      | rs hh =>
        cases h.live _ _ hg with
        | none hL hh' =>
          rw [hh] at hh'; injection hh' with hh'; subst hh'
          exact .fz ⟨_, _, rfl, Nat.le_refl _, fun _ => rfl, fun i x hx => by simp at hx⟩
        | rows hL ha hh' hc hr =>
          rename_i L c
          rw [hh] at hh'; injection hh' with hh'; subst hh'
          have hsep := h.sep _ ⟨m, _, L, hg, hL, rfl⟩
          refine .fz ⟨_, _, rfl, hc, (fun h => by cases h), fun i x hx => ⟨_, _, rfl, rowF_of (η := η) (w := w) (fun k ob hk => hp.fz k ob hk) (hp.at_ _ m _ L hsep (hA m (by simp [refs])) hg hL rfl) τ x _ fun j cc hcc => ?_⟩⟩
          have hj : j < τ.size := by rw [← split_len τ x]; exact (List.getElem?_eq_some_iff.1 hcc).1
          obtain ⟨v, h1, h2⟩ := ha.cell (i * τ.size + j) cc (by rw [flat_get τ xs i x j hx hj]; exact hcc)
          exact ⟨v, by rw [Nat.add_assoc]; exact h1, h2⟩
    · cases hx
  · injection hx with hx; subst hx; cases hv; exact .int _ _
  · injection hx with hx; subst hx; cases hv; exact .bool _
  · injection hx with hx; subst hx; cases hv; exact .nils
  · injection hx with hx; subst hx
    cases hv with
    | fz hf => exact .fz (hf.mono (RowF.mono (fun k ob hk => hp.fz k ob hk) _))
  · cases hx
theorem byVals_ok (h : HR M η H w) {A : List Nat} (hp : Phi H η w A φ) : ∀ {cs ds : List LV} {vs : List Value}, byVals H cs = some ds → (∀ c ∈ cs, ∀ n ∈ refs c, n ∈ A) → VRs η cs vs → VRs (Emb.fro φ) ds vs
  | [], ds, vs, hx, _, hv => by
    rw [byVals] at hx; injection hx with hx; subst hx
    have : vs = [] := by have := hv.1; simpa using this.symm
    subst this; exact VRs.nil
  | c :: cs, ds, vs, hx, hA, hv => by
    obtain ⟨v, vs, rfl, h1, h2⟩ := hv.uncons
    rw [byVals] at hx
    split at hx
    · rename_i d hd
      split at hx
      · rename_i ds' hds
        injection hx with hx; subst hx
        exact VRs.cons (byVal1_ok h hp hd (hA c (List.mem_cons_self ..)) h1) (byVals_ok h hp hds (fun c hc => hA c (List.mem_cons_of_mem _ hc)) h2)
      · cases hx
    · cases hx
theorem byRef_ok (h : HR M η H w) {A : List Nat} (hp : Phi H η w A φ) {τ : Row} {l : LV} {x : den τ} {v : Value} (hx : byRef H τ l = some x) (hA : ∀ n ∈ deep H (refs l), n ∈ A) (hv : VR η l v) : VR (Emb.fro φ) (.fp τ x 0) v := by
  unfold byRef at hx
  split at hx
  · rename_i n
    split at hx
    · rename_i cs hg
      split at hx
      · rename_i ds hds
        have hdeep : ∀ m, (m = n ∨ m ∈ obRefs (.cells cs)) → m ∈ A := fun m hm => hA m (by
          unfold deep; simp only [refs, List.flatMap_cons, List.flatMap_nil, List.append_nil, hg, List.mem_cons]; exact hm)
        cases hv with
        | ptr hL =>
          rename_i L
          have ha := (h.live _ _ hg).at hL
          have hcut : cut cs 0 cs.length = some cs := by unfold cut; rw [Nat.zero_add, Nat.ble_eq_true_of_le (Nat.le_refl _), List.drop_zero, List.take_length]; rfl
          obtain ⟨vs, o1, o2⟩ := Lie.cut ha.cell hcut
          have e1 := byVals_ok h hp hds (fun c hc m hm => hdeep m (.inr (List.mem_flatMap.2 ⟨c, hc, by cases c <;> first | exact hm | (simp [refs] at hm)⟩))) o1
          have e2 := join_ok τ hx e1
          have hsep := h.sep _ ⟨n, _, L, hg, hL, rfl⟩
          refine .fp (rowF_of (η := Emb.fro φ) (w := w) (fun _ _ h => h) (hp.at_ _ n _ L hsep (hdeep n (.inl rfl)) hg hL rfl) τ x _ fun j c hc => ?_)
          obtain ⟨v, f1, f2⟩ := e2.get hc
          exact ⟨v, by have := o2 j v f1; rwa [Nat.add_zero] at this, f2⟩
      · cases hx
    · cases hx
  · rename_i σ y
    split at hx
    · rename_i he
      subst he
      injection hx with hx; subst hx
      cases hv with
      | fp hr => exact .fp (hr.mono fun k ob hk => hp.fz k ob hk)
    · cases hx
  · cases hx
theorem decR_ok (h : HR M η H w) {A : List Nat} (hp : Phi H η w A φ) : ∀ {τs : List Row} {ls : List LV} {x : denR τs} {vs : List Value}, decR H τs ls = some x → (∀ l ∈ ls, ∀ n ∈ deep H (refs l), n ∈ A) → VRs η ls vs → VRs (Emb.fro φ) (fpsOf τs x) vs
  | [], ls, x, vs, hx, _, hv => by
    cases ls with
    | nil => exact ⟨hv.1, fun i c v hc _ => by simp [fpsOf] at hc⟩
    | cons l ls => cases hx
  | τ :: r, ls, x, vs, hx, hA, hv => by
    cases ls with
    | nil => cases hx
    | cons l ls =>
      obtain ⟨v, vs, rfl, h1, h2⟩ := hv.uncons
      rw [decR] at hx
      split at hx
      · rename_i y hy
        split at hx
        · rename_i z hz
          injection hx with hx; subst hx
          exact VRs.cons (byRef_ok h hp hy (hA l (List.mem_cons_self ..)) h1) (decR_ok h hp hz (fun l hl => hA l (List.mem_cons_of_mem _ hl)) h2)
        · cases hx
      · cases hx
theorem deep_self {l : List Nat} {n : Nat} (h : n ∈ l) : n ∈ deep H l := List.mem_flatMap.2 ⟨n, h, List.mem_cons_self ..⟩
theorem deep_sub {l m : List Nat} (h : ∀ n ∈ l, n ∈ m) {n : Nat} (hn : n ∈ deep H l) : n ∈ deep H m := by
  obtain ⟨x, h1, h2⟩ := List.mem_flatMap.1 hn
  exact List.mem_flatMap.2 ⟨x, h x h1, h2⟩
theorem refs_sub {l : LV} {n : Nat} (h : n ∈ refs l) : n ∈ refs1 l := by cases l <;> first | exact h | (simp [refs] at h)
theorem decP_ok (h : HR M η H w) {A : List Nat} (hp : Phi H η w A φ) {p : Pk} {l : LV} {x : p.den} {v : Value} (hx : decP H p l = some x) (hA : ∀ n ∈ deep H (refs1 l), n ∈ A) (hv : VR η l v) : VR (Emb.fro φ) (p.arg x) v := by
  cases p with
  | row τ agg =>
    cases agg with
    | true =>
      cases l with
      | agg cs =>
        replace hx : (match byVals H cs with | some cs => join τ cs | none => none) = some x := hx
        split at hx
        · rename_i ds hds
          cases hv with
          | agg hl hh =>
            have e1 := byVals_ok h hp hds (fun c hc n hn => hA n (deep_self (List.mem_flatMap.2 ⟨c, hc, hn⟩))) ⟨hl, hh⟩
            have e2 := join_ok τ hx e1
            exact .agg e2.1 e2.2
        · cases hx
      | _ => cases hx
    | false =>
      replace hx : (match byVal1 H l with | some l => join τ [l] | none => none) = some x := by cases l <;> exact hx
      split at hx
      · rename_i d hd
        have e1 := byVal1_ok h hp hd (fun n hn => hA n (deep_self (refs_sub hn))) hv
        have e2 := join_ok τ hx (VRs.cons e1 VRs.nil)
        have hlen := e2.1
        show VR (Emb.fro φ) (argOf τ false x) v
        unfold argOf
        cases hsp : split τ x with
        | nil => rw [hsp] at hlen; simp at hlen
        | cons c cs =>
          cases cs with
          | nil => rw [hsp] at e2; obtain ⟨u, hu, e3⟩ := vrs1 e2; injection hu with hu; subst hu; simp only [hsp]; exact e3
          | cons c2 cs => rw [hsp] at hlen; simp at hlen
      · cases hx
  | fn f τs =>
    cases l with
    | fn g cs =>
      have hx2 : decF H f τs g cs = some x := hx
      unfold decF at hx2
      rw [Bool.cond_eq_ite] at hx2
      split at hx2
      · rename_i hg
        have := Nat.eq_of_beq_eq_true hg
        subst this
        cases hv with
        | fn hl hh =>
          have e1 := decR_ok h hp hx2 (fun c hc n hn => hA n (deep_sub (fun m hm => List.mem_flatMap.2 ⟨c, hc, hm⟩) hn)) ⟨hl, hh⟩
          exact .fn e1.1 e1.2
      · cases hx2
    | _ => cases hx
  | ref τ =>
    have hx2 : byRef H τ l = some x := by cases l <;> exact hx
    exact byRef_ok h hp hx2 (fun n hn => hA n (deep_sub (fun m hm => refs_sub hm) hn)) hv
theorem decs_ok (h : HR M η H w) {A : List Nat} (hp : Phi H η w A φ) : ∀ {τs : List Pk} {ls : List LV} {x : dens τs} {vs : List Value}, decs H τs ls = some x → (∀ l ∈ ls, ∀ n ∈ deep H (refs1 l), n ∈ A) → VRs η ls vs → VRs (Emb.fro φ) (argsOf τs x) vs
  | [], ls, x, vs, hx, _, hv => by
    cases ls with
    | nil => exact ⟨hv.1, fun i c v hc _ => by simp [argsOf] at hc⟩
    | cons l ls => cases hx
  | p :: r, ls, x, vs, hx, hA, hv => by
    cases ls with
    | nil => cases hx
    | cons l ls =>
      obtain ⟨v, vs, rfl, h1, h2⟩ := hv.uncons
      rw [decs] at hx
      split at hx
      · rename_i y hy
        split at hx
        · rename_i z hz
          injection hx with hx; subst hx
          exact VRs.cons (decP_ok h hp hy (hA l (List.mem_cons_self ..)) h1) (decs_ok h hp hz (fun l hl => hA l (List.mem_cons_of_mem _ hl)) h2)
        · cases hx
      · cases hx
theorem logged_kill (H : LH) (A : List Nat) : Logged H (killAll H A) := by
  obtain ⟨h1, ⟨m, h2, h4⟩, h3⟩ := killAll_ok A H
  refine ⟨by omega, ⟨m, h2, fun b _ hb => by rw [h3, if_neg (h4 b hb)]⟩, fun hb b cs hg => ?_⟩
  rw [h3] at hg
  rw [h1]
  split at hg
  · cases hg
  · exact hb b cs hg
theorem logged_add (H : LH) (l : List Ob) : Logged H (addObs H l) := by
  obtain ⟨h1, h2, h3⟩ := addObs_ok l H
  refine ⟨by omega, ⟨[], h2, fun b hb _ => by rw [h3, if_neg (by omega)]⟩, fun hb b cs hg => ?_⟩
  rw [h3] at hg
  rw [h1]
  split at hg
  · rename_i h; exact h.2
  · have := hb b cs hg; omega
theorem at_any {η η' : Emb} {τ : Row} {xs : List (den τ)} {L : Loc} (hp : plainR τ = true) (h : At η w (flat τ xs) L) : At η' w (flat τ xs) L :=
  ⟨h.lt, h.fits, h.there, fun j c hc => by
    obtain ⟨v, h1, h2⟩ := h.cell j c hc
    obtain ⟨x, hx⟩ := mem_flat τ xs (List.mem_of_getElem? hc)
    exact ⟨v, h1, vr_plain τ x hp hx h2⟩⟩
/-- a call by a contract -/
theorem spec_sound {S : Spec} (hS : COK P S) {args : List LV} {x : dens S.τs} (hd : decs H S.τs args = some x) {r : S.R} (hr : S.F x = some r) (hrows : (S.enc r).2.all Ob.rowsB = true) : CallSound P S.g args H (place H (deep H (args.flatMap refs1)) (S.enc r)) := by
  generalize hA : deep H (args.flatMap refs1) = A
  have hAm : ∀ l ∈ args, ∀ n ∈ deep H (refs1 l), n ∈ A := fun l hl n hn => by rw [← hA]; exact deep_sub (fun m hm => List.mem_flatMap.2 ⟨l, hl, hm⟩) hn
  generalize he : S.enc r = er
  obtain ⟨l0, obs⟩ := er
  rw [he] at hrows
  unfold place
  simp only
  generalize hal : (hasF l0 || !(obs.all Ob.plainB)) = al
  generalize hH1 : (bif al then killAll H A else H) = H1
  have hlog1 : Logged H H1 := by rw [← hH1]; cases al; exact Logged.refl _; exact logged_kill H A
  have hnext1 : H1.next = H.next := by rw [← hH1]; cases al; rfl; exact (killAll_ok A H).1
  have hsub : ∀ b cs, H1.get b = some cs → H.get b = some cs ∧ (al = true → b ∉ A) := fun b cs hb => by
    rw [← hH1] at hb
    cases al with
    | false => exact ⟨hb, fun h => by cases h⟩
    | true =>
      rw [cond_true, (killAll_ok A H).2.2] at hb
      split at hb
      · cases hb
      · rename_i hn; exact ⟨hb, fun _ => hn⟩
  obtain ⟨a1, _, a3⟩ := addObs_ok obs H1
  refine ⟨hlog1.trans (logged_add H1 obs), fun M η w vs h hM hv => ?_⟩
  have hM' : H.next + obs.length ≤ M := by rw [← hnext1, ← a1]; exact hM
  obtain ⟨φ, hp⟩ := phi_ex H η w A
  have hphi : ∀ k ob, φ k = some ob → w.heap[k]? = some ob := fun k ob hk => by
    rcases hp.cases k ob hk with h1 | ⟨_, _, h1⟩
    · exact h.fz k ob h1
    · exact h1
  refine Calls.mono (hS.ok x r hr w φ vs hphi (decs_ok h hp hd hAm hv)) fun e w' ⟨v', η', e1, e2, e3, e4⟩ => ?_
  rw [he] at e2 e3 e4
  simp only at e2 e3 e4
  have hdom : ∀ b, obs.length ≤ b → η'.loc b = none ∧ η'.hdr b = none := fun b hb => (e3 (b + 1)).dom b hb (by omega)
  let η2 : Emb := ⟨fun n => if H.next ≤ n ∧ n < H.next + obs.length then η'.loc (n - H.next) else η.loc n, fun n => if H.next ≤ n ∧ n < H.next + obs.length then η'.hdr (n - H.next) else η.hdr n, fun k => if k < w.heap.size then (bif al then φ k else η.fz k) else η'.fz k⟩
  have hout : ∀ b, ¬ (H.next ≤ b ∧ b < H.next + obs.length) → η2.loc b = η.loc b ∧ η2.hdr b = η.hdr b := fun b hb => ⟨if_neg hb, if_neg hb⟩
  have hin : ∀ j, j < obs.length → η2.loc (H.next + j) = η'.loc j ∧ η2.hdr (H.next + j) = η'.hdr j := fun j hj => by
    constructor
    · show (if H.next ≤ H.next + j ∧ H.next + j < H.next + obs.length then η'.loc (H.next + j - H.next) else η.loc (H.next + j)) = _
      rw [if_pos (by omega), Nat.add_sub_cancel_left]
    · show (if H.next ≤ H.next + j ∧ H.next + j < H.next + obs.length then η'.hdr (H.next + j - H.next) else η.hdr (H.next + j)) = _
      rw [if_pos (by omega), Nat.add_sub_cancel_left]
  have hfree : ∀ b, H.next ≤ b → b < H.next + obs.length → η.loc b = none ∧ η.hdr b = none := fun b h1 h2 => h.dom b h1 (by omega)
  have hfzlt : ∀ k ob, η.fz k = some ob → k < w.heap.size := fun k ob hk => (Array.getElem?_eq_some_iff.1 (h.fz k ob hk)).1
  have hle : η.le η2 := by
    refine ⟨fun b L hb => ?_, fun b v hb => ?_, fun k ob hk => ?_⟩
    · by_cases hc : H.next ≤ b ∧ b < H.next + obs.length
      · rw [(hfree b hc.1 hc.2).1] at hb; cases hb
      · rw [(hout b hc).1]; exact hb
    · by_cases hc : H.next ≤ b ∧ b < H.next + obs.length
      · rw [(hfree b hc.1 hc.2).2] at hb; cases hb
      · rw [(hout b hc).2]; exact hb
    · show (if k < w.heap.size then (bif al then φ k else η.fz k) else η'.fz k) = some ob
      rw [if_pos (hfzlt k ob hk)]
      cases al
      · exact hk
      · exact hp.fz _ _ hk
  have hmoved : Moved H.next η' η2 al := by
    refine ⟨fun b L hb => ?_, fun b v hb => ?_, fun hal2 k ob hk => ?_⟩
    · have hlt : b < obs.length := Nat.lt_of_not_le fun hn => by rw [(hdom b hn).1] at hb; cases hb
      rw [(hin b hlt).1]; exact hb
    · have hlt : b < obs.length := Nat.lt_of_not_le fun hn => by rw [(hdom b hn).2] at hb; cases hb
      rw [(hin b hlt).2]; exact hb
    · show (if k < w.heap.size then (bif al then φ k else η.fz k) else η'.fz k) = some ob
      rw [hal2, cond_true]
      split
      · rename_i hlt
        exact (e4.fzn k ob hk).resolve_right (by omega)
      · exact hk
  have hval : VR η2 (shift H.next l0) v' := shift_ok hmoved (by
    cases al with
    | true => exact .inl rfl
    | false => rw [Bool.or_eq_false_iff] at hal; exact .inr hal.1) e2
  have hget : ∀ b ob, (addObs H1 obs).get b = some ob → (¬ (H.next ≤ b ∧ b < H.next + obs.length) ∧ H1.get b = some ob) ∨ ∃ j, b = H.next + j ∧ j < obs.length ∧ obs[j]? = some ob := fun b ob hb => by
    rw [a3, hnext1] at hb
    split at hb
    · rename_i hc; exact .inr ⟨b - H.next, by omega, by omega, hb⟩
    · rename_i hc; exact .inl ⟨hc, hb⟩
  have hnewlb : ∀ j ob L, obs[j]? = some ob → η'.loc j = some L → w.heap.size ≤ L.block := fun j ob L hj hL => e4.lb _ ⟨j, ob, L, by rw [get_heapOf]; exact hj, hL, rfl⟩
  have hlb : ∀ k, LB (addObs H1 obs) η2 k → (∃ b ob L, H1.get b = some ob ∧ η.loc b = some L ∧ L.block = k) ∨ (∃ j ob L, obs[j]? = some ob ∧ η'.loc j = some L ∧ L.block = k) := fun k ⟨b, ob, L, hb, hL, hk⟩ => by
    rcases hget b ob hb with ⟨hc, hg⟩ | ⟨j, rfl, hj, hg⟩
    · rw [(hout b hc).1] at hL; exact .inl ⟨b, ob, L, hg, hL, hk⟩
    · rw [(hin j hj).1] at hL; exact .inr ⟨j, ob, L, hg, hL, hk⟩
  have hr2 : HR M η2 (addObs H1 obs) w' := by
    refine ⟨fun b h1 h2 => ?_, fun b ob hb => ?_, fun b ob hb => ?_, fun b1 b2 o1 o2 L1 L2 g1 g2 l1 l2 hbe => ?_, fun k ob hk => ?_, fun k hk => ?_, fun b v hb => ?_⟩
    · rw [a1, hnext1] at h1
      have := hout b (by omega)
      rw [this.1, this.2]; exact h.dom b (by omega) h2
    · rw [a1, hnext1]
      rcases hget b ob hb with ⟨hc, hg⟩ | ⟨j, rfl, hj, hg⟩
      · have := h.lt b ob (hsub b ob hg).1; omega
      · omega
    · rcases hget b ob hb with ⟨hc, hg⟩ | ⟨j, rfl, hj, hg⟩
      · have hl := h.live b ob (hsub b ob hg).1
        exact hl.move hle (hout b hc).1 e4.size fun L hL => e4.same _ (hl.lt hL)
      · have hl := (e3 0).live j ob (by rw [get_heapOf]; exact hg)
        have hro : ob.rowsB = true := (List.all_eq_true.1 hrows) ob (List.mem_of_getElem? hg)
        have hpl : al = true ∨ ob.plainB = true := by
          cases al with
          | true => exact .inl rfl
          | false =>
            rw [Bool.or_eq_false_iff, Bool.not_eq_false'] at hal
            exact .inr ((List.all_eq_true.1 hal.2) ob (List.mem_of_getElem? hg))
        cases hl with
        | cells hL ha => exact .cells (by rw [(hin j hj).1]; exact hL) (at_cells hmoved hro hpl ha)
        | rows hL ha hh hc hr =>
          refine .rows (by rw [(hin j hj).1]; exact hL) ?_ (by rw [(hin j hj).2]; exact hh) hc hr
          rcases hpl with h1 | h1
          · exact at_flat (hmoved.fz h1) ha
          · exact at_any h1 ha
        | none hL hh => exact .none (by rw [(hin j hj).1]; exact hL) (by rw [(hin j hj).2]; exact hh)
    · rcases hget b1 o1 g1 with ⟨c1, k1⟩ | ⟨j1, rfl, j1l, k1⟩ <;> rcases hget b2 o2 g2 with ⟨c2, k2⟩ | ⟨j2, rfl, j2l, k2⟩
      · rw [(hout b1 c1).1] at l1; rw [(hout b2 c2).1] at l2
        exact h.inj _ _ _ _ _ _ (hsub _ _ k1).1 (hsub _ _ k2).1 l1 l2 hbe
      · rw [(hout b1 c1).1] at l1; rw [(hin j2 j2l).1] at l2
        have := (h.live _ _ (hsub _ _ k1).1).lt l1
        have := hnewlb _ _ _ k2 l2; omega
      · rw [(hin j1 j1l).1] at l1; rw [(hout b2 c2).1] at l2
        have := (h.live _ _ (hsub _ _ k2).1).lt l2
        have := hnewlb _ _ _ k1 l1; omega
      · rw [(hin j1 j1l).1] at l1; rw [(hin j2 j2l).1] at l2
        have := (e3 0).inj j1 j2 _ _ _ _ (by rw [get_heapOf]; exact k1) (by rw [get_heapOf]; exact k2) l1 l2 hbe
        omega
    · have hk' : (if k < w.heap.size then (bif al then φ k else η.fz k) else η'.fz k) = some ob := hk
      split at hk'
      · rename_i hlt
        rw [e4.same k hlt]
        cases al with
        | true => exact hphi k ob hk'
        | false => exact h.fz k ob hk'
      · exact (e3 0).fz k ob hk'
    · show (if k < w.heap.size then (bif al then φ k else η.fz k) else η'.fz k) = none
      rcases hlb k hk with ⟨b, ob, L, g1, g2, g3⟩ | ⟨j, ob, L, g1, g2, g3⟩
      · have hg := hsub b ob g1
        have hlt := (h.live _ _ hg.1).lt g2
        have hs := h.sep k ⟨b, ob, L, hg.1, g2, g3⟩
        rw [if_pos (by omega)]
        cases al with
        | false => exact hs
        | true =>
          rw [cond_true]
          cases hpk : φ k with
          | none => rfl
          | some o =>
            exfalso
            rcases hp.cases _ _ hpk with h1 | ⟨_, ⟨n, hn, ob', L', hgn, hL', hk'⟩, _⟩
            · rw [hs] at h1; cases h1
            · have := h.inj _ _ _ _ _ _ hg.1 hgn g2 hL' (by omega)
              exact hg.2 rfl (this ▸ hn)
      · have := hnewlb _ _ _ g1 g2
        rw [if_neg (by omega)]
        exact (e3 0).sep k ⟨j, ob, L, by rw [get_heapOf]; exact g1, g2, g3⟩
    · by_cases hc : H.next ≤ b ∧ b < H.next + obs.length
      · have hb' : η'.hdr (b - H.next) = some v := by
          have : η2.hdr b = η'.hdr (b - H.next) := if_pos hc
          rw [← this]; exact hb
        exact (e3 0).ok _ v hb'
      · rw [(hout b hc).2] at hb; exact h.ok b v hb
  refine ⟨v', η2, e1, hval, hle, fun b hb => hout b (by rw [a1, hnext1] at hb; omega), by rw [a1, hnext1]; omega, hr2, e4.size, fun k hk _ => e4.same k hk, fun k hk => ?_, fun k ob hk => ?_, e4.os, e4.tape, e4.output, e4.drawn⟩
  · rcases hlb k hk with ⟨b, ob, L, g1, g2, g3⟩ | ⟨j, ob, L, g1, g2, g3⟩
    · exact .inl ⟨b, ob, L, (hsub b ob g1).1, g2, g3⟩
    · have := hnewlb _ _ _ g1 g2; exact .inr (by omega)
  · have hk' : (if k < w.heap.size then (bif al then φ k else η.fz k) else η'.fz k) = some ob := hk
    split at hk'
    · cases al with
      | false => exact .inl hk'
      | true =>
        rw [cond_true] at hk'
        rcases hp.cases _ _ hk' with h1 | ⟨_, ⟨n, hn, ob', L', hgn, hL', hkk⟩, _⟩
        · exact .inl h1
        · exact .inr (.inl ⟨n, ob', L', hgn, hL', hkk⟩)
    · rename_i hlt; exact .inr (.inr (by omega))
theorem spec_sound_undef {S : Spec} (hS : COK P S) {args : List LV} {x : dens S.τs} (hd : decs H S.τs args = some x) {r : S.R} (hr : S.F x = some r) : CallSound P S.g args H (.undef, H) := by
  generalize hA : deep H (args.flatMap refs1) = A
  have hAm : ∀ l ∈ args, ∀ n ∈ deep H (refs1 l), n ∈ A := fun l hl n hn => by rw [← hA]; exact deep_sub (fun m hm => List.mem_flatMap.2 ⟨l, hl, hm⟩) hn
  refine ⟨Logged.refl _, fun M η w vs h hM hv => ?_⟩
  obtain ⟨φ, hp⟩ := phi_ex H η w A
  have hphi : ∀ k ob, φ k = some ob → w.heap[k]? = some ob := fun k ob hk => by
    rcases hp.cases k ob hk with h1 | ⟨_, _, h1⟩
    · exact h.fz k ob h1
    · exact h1
  refine Calls.mono (hS.ok x r hr w φ vs hphi (decs_ok h hp hd hAm hv)) fun e w' ⟨v', η', e1, e2, e3, e4⟩ => ?_
  refine ⟨v', η, e1, .undef _, Emb.le_refl _, fun _ _ => ⟨rfl, rfl⟩, Nat.le_refl _, ⟨h.dom, h.lt, fun b ob hb => (h.live b ob hb).move (Emb.le_refl _) rfl e4.size fun L hL => e4.same _ ((h.live b ob hb).lt hL), h.inj, fun k ob hk => ?_, h.sep, h.ok⟩, e4.size, fun k hk _ => e4.same k hk, fun k hk => .inl hk, fun k ob hk => .inl hk, e4.os, e4.tape, e4.output, e4.drawn⟩
  have hk1 := h.fz k ob hk
  rw [e4.same k (Array.getElem?_eq_some_iff.1 hk1).1]; exact hk1
theorem orc_ok {l : List Spec} (h : ∀ S ∈ l, COK P S) : OrcOK P (orc l) := by
  refine ⟨fun g args H p x hp hx => ?_, fun g args H p hp => ?_⟩
  · unfold orc at hp
    split at hp
    · rename_i q hq
      obtain ⟨h1, rfl, hy⟩ := findS_mem hq
      injection hp with hp; subst hp
      simp only at hx x ⊢
      rw [Bool.cond_eq_ite]
      split
      · rename_i hrows
        exact spec_sound (h _ h1) hy hx hrows
      · exact spec_sound_undef (h _ h1) hy hx
    · cases hp
  · unfold orc at hp
    split at hp
    · rename_i q hq
      obtain ⟨h1, rfl, _⟩ := findS_mem hq
      exact (h _ h1).body
    · cases hp
/-- a law's contract, said of the program -/
theorem law_of {S : Spec} (h : COK P S) {x : dens S.τs} {r : S.R} {v : Bool} (hx : S.F x = some r) (he : S.enc r = (.bool v, [])) (w : World) {vs : List Value} (hv : VRs (Emb.fro fun k => w.heap[k]?) (argsOf S.τs x) vs) :
    Calls P S.g vs.toArray w fun e w' => e = .returned (.bool v) ∧ ∃ y, w' = ext w y := by
  refine Calls.mono (h.ok x r hx w _ vs (fun _ _ h => h) hv) fun e w' ⟨v', η', h1, h2, _, h4⟩ => ?_
  rw [he] at h2
  cases h2
  exact ⟨h1, ext_of ⟨⟨h4.os, h4.tape, h4.output, h4.size, fun k hk => h4.same k hk⟩, h4.drawn⟩⟩
end
end Go.Tx

namespace Go.Tx
open Go
/-- rounds -/
def iter {X R : Type} (body : (X → Option R) → X → Option R) : Nat → X → Option R
  | 0, _ => none
  | n + 1, x => body (iter body n) x
def regL : Code → Nat → Option (Array Oper)
  | .region i ops _, k => bif Nat.beq i k then some ops else none
  | .seq a b, k => match regL a k with | some x => some x | none => regL b k
  | .cond _ a b, k => match regL a k with | some x => some x | none => regL b k
  | .block _ a, k => regL a k
  | .loop a, k => regL a k
  | .scope a, k => regL a k
  | .rangeFunc _ _ a b, k => match regL a k with | some x => some x | none => regL b k
  | _, _ => none
def dropTm (ks : List Nat) : List (Nat × LV) → List (Nat × LV)
  | [] => []
  | p :: l => bif memB ks p.1 then dropTm ks l else p :: dropTm ks l
theorem dropTm_mem (ks : List Nat) : ∀ (l : List (Nat × LV)) (p : Nat × LV), p ∈ dropTm ks l → p ∈ l
  | [], _, h => h
  | q :: l, p, h => by
    rw [dropTm, Bool.cond_eq_ite] at h
    split at h
    · exact List.mem_cons_of_mem _ (dropTm_mem ks l p h)
    · rcases List.mem_cons.1 h with h | h
      · exact List.mem_cons.2 (.inl h)
      · exact List.mem_cons_of_mem _ (dropTm_mem ks l p h)
theorem cn_drop {w0 : World} {φ0 : Fz0} {N : Nat} {tm : List (Nat × LV)} {ob : List Ob} {Q : Exit → Act → World → Prop} {e : Exit} (ks : List Nat) (h : Cn w0 φ0 N ⟨dropTm ks tm, ob⟩ Q e) : Cn w0 φ0 N ⟨tm, ob⟩ Q e := fun a w hs => by
  obtain ⟨⟨η, h1, h2, h3⟩, h4, h5⟩ := hs
  exact h a w ⟨⟨η, h1, fun n l hl => h2 n l (dropTm_mem ks tm _ hl), h3⟩, h4, h5⟩
theorem cn_num {w0 : World} {φ0 : Fz0} {N : Nat} {tm : List (Nat × LV)} {ob : List Ob} {s : St} {Q : Exit → Act → World → Prop} {e : Exit} (ks : List Nat) (hs : tnum (dropTm ks tm) (heapOf ob) some = some s) (h : Cn w0 φ0 N s Q e) : Cn w0 φ0 N ⟨tm, ob⟩ Q e := fun a w hss => by
  obtain ⟨s', h1, h2⟩ := num_ok hs
  injection h1 with h1; subst h1
  obtain ⟨⟨η, g1, g2, g3⟩, g4, g5⟩ := hss
  exact h a w (h2 w0 φ0 0 η w a N (g1 0) (fun n l hl => g2 n l (dropTm_mem ks tm _ hl)) g3 g4 g5)
def bodyOf (f : Func) : Code := match f.body with | some c => c | none => .skip
def regO (c : Code) (k : Nat) : Array Oper := match regL c k with | some x => x | none => #[]
/-- the element at a place; z where there is none -/
def elt {α : Type} (z : α) (xs : List α) (i : Nat) : α := (xs[i]?).getD z
end Go.Tx

namespace Go.Tx
open Go Go.Pel
def ofP (p : Int × Int × Int × Unit) : Pt := ⟨p.1, p.2.1, p.2.2.1⟩
def toP (p : Pt) : Int × Int × Int × Unit := (p.id, p.a, p.b, ())
theorem ofP_toP (p : Pt) : ofP (toP p) = p := rfl
theorem toP_ofP (p : Int × Int × Int × Unit) : toP (ofP p) = p := rfl
def toI (n : Int) : Int × Unit := (n, ())
abbrev RP : Row := .int .i64 (.int .i64 (.int .i64 .nil))
abbrev RI : Row := .int .i64 .nil
/-- the cells of plain elements -/
def valsR : (τ : Row) → den τ → List Value
  | .nil, _ => []
  | .int k r, x => .int k x.1 :: valsR r x.2
  | .bool r, x => .bool x.1 :: valsR r x.2
  | .sl _ r, x => valsR r x.2
def valsL (τ : Row) : List (den τ) → List Value
  | [] => []
  | x :: xs => valsR τ x ++ valsL τ xs
abbrev TP : Type := Int × Int × Int × Unit
abbrev TI1 : Type := Int × Unit
theorem valsL_pt (l : List TP) : valsL RP l = vp (l.map ofP) := by
  induction l with
  | nil => rfl
  | cons p l ih => show valsR RP p ++ valsL RP l = vp (ofP p :: l.map ofP); rw [ih]; rfl
theorem valsL_int (l : List TI1) : valsL RI l = vi (l.map fun x => x.1) := by
  induction l with
  | nil => rfl
  | cons p l ih => show valsR RI p ++ valsL RI l = vi (p.1 :: l.map fun x => x.1); rw [ih]; rfl
theorem valsR_len : ∀ (τ : Row), plainR τ = true → ∀ x : den τ, (valsR τ x).length = τ.size
  | .nil, _, _ => rfl
  | .int _ r, h, x => by rw [valsR, List.length_cons, valsR_len r h, Row.size]
  | .bool r, h, x => by rw [valsR, List.length_cons, valsR_len r h, Row.size]
  | .sl _ r, h, _ => by cases h
theorem valsL_len {τ : Row} (h : plainR τ = true) : ∀ xs : List (den τ), (valsL τ xs).length = xs.length * τ.size
  | [] => by simp [valsL]
  | x :: xs => by rw [valsL, List.length_append, valsR_len τ h, valsL_len h xs, List.length_cons, Nat.succ_mul]; omega
theorem vrs_vals {η : Emb} : ∀ (τ : Row), plainR τ = true → ∀ x : den τ, VRs η (split τ x) (valsR τ x)
  | .nil, _, _ => VRs.nil
  | .int _ r, h, x => VRs.cons (.int _ _) (vrs_vals r h x.2)
  | .bool r, h, x => VRs.cons (.bool _) (vrs_vals r h x.2)
  | .sl _ r, h, _ => by cases h
theorem vrs_valsL {η : Emb} {τ : Row} (h : plainR τ = true) : ∀ xs : List (den τ), VRs η (flat τ xs) (valsL τ xs)
  | [] => VRs.nil
  | x :: xs => (vrs_vals τ h x).append (vrs_valsL h xs)
/-- an element's cells -/
theorem rowF_cell {φ : Nat → Option Obj} {w : World} (hφ : ∀ k ob, φ k = some ob → w.heap[k]? = some ob) {b : Nat} : ∀ (τ : Row), plainR τ = true → ∀ (x : den τ) (o : Nat), RowF φ τ x b o → ∀ (j : Nat) u, (valsR τ x)[j]? = some u → w.cell? ⟨b, o + j, none⟩ = some u
  | .nil, _, _, _, _, j, u, hu => by simp [valsR] at hu
  | .int k r, h, x, o, hr, j, u, hu => by
    cases j with
    | zero =>
      simp only [valsR, List.getElem?_cons_zero, Option.some.injEq] at hu; subst hu
      obtain ⟨ob, h1, h2⟩ := hr.1
      rw [Nat.add_zero, cell_ob, hφ b ob h1]; exact h2
    | succ j => have := rowF_cell hφ r h x.2 (o + 1) hr.2 j u (by simpa [valsR] using hu); rwa [show o + 1 + j = o + (j + 1) by omega] at this
  | .bool r, h, x, o, hr, j, u, hu => by
    cases j with
    | zero =>
      simp only [valsR, List.getElem?_cons_zero, Option.some.injEq] at hu; subst hu
      obtain ⟨ob, h1, h2⟩ := hr.1
      rw [Nat.add_zero, cell_ob, hφ b ob h1]; exact h2
    | succ j => have := rowF_cell hφ r h x.2 (o + 1) hr.2 j u (by simpa [valsR] using hu); rwa [show o + 1 + j = o + (j + 1) by omega] at this
  | .sl _ r, h, _, _, _, _, _, _ => by cases h
theorem valsL_get {τ : Row} (h : plainR τ = true) (hs : 0 < τ.size) (xs : List (den τ)) (j : Nat) (hj : j < xs.length * τ.size) : ∃ x, xs[j / τ.size]? = some x ∧ (valsL τ xs)[j]? = (valsR τ x)[j % τ.size]? := by
  induction xs generalizing j with
  | nil => simp at hj
  | cons y ys ih =>
    rw [valsL]
    have hl := valsR_len τ h y
    rcases Nat.lt_or_ge j τ.size with hlt | hge
    · refine ⟨y, by rw [Nat.div_eq_of_lt hlt]; rfl, ?_⟩
      rw [List.getElem?_append_left (by omega), Nat.mod_eq_of_lt hlt]
    · rw [List.length_cons, Nat.succ_mul] at hj
      obtain ⟨x, h1, h2⟩ := ih (j - τ.size) (by omega)
      have e1 : j / τ.size = (j - τ.size) / τ.size + 1 := by
        conv => lhs; rw [show j = (j - τ.size) + τ.size by omega, Nat.add_div_right _ hs]
      have e2 : j % τ.size = (j - τ.size) % τ.size := by
        conv => lhs; rw [show j = (j - τ.size) + τ.size by omega, Nat.add_mod_right]
      exact ⟨x, by rw [e1, List.getElem?_cons_succ]; exact h1, by rw [List.getElem?_append_right (by omega), hl, h2, e2]⟩
/-- a slice that is written no more, as cells -/
theorem fz_sl {φ : Nat → Option Obj} {w : World} (hφ : ∀ k ob, φ k = some ob → w.heap[k]? = some ob) {τ : Row} (h : plainR τ = true) (hs : 0 < τ.size) {xs : List (den τ)} {v : Value} (hv : VR (Emb.fro φ) (.fz τ xs) v) : ∃ A c, v = .slice A xs.length c ∧ Sl w τ.size A xs.length c (valsL τ xs) ∧ (A = none → c = 0) := by
  cases hv with
  | fz hf =>
    obtain ⟨A, c, rfl, h1, h0, h2⟩ := hf
    refine ⟨A, c, rfl, ⟨h1, valsL_len h xs, fun hn => ?_⟩, h0⟩
    obtain ⟨b, o, rfl, hr0⟩ := h2 0 _ (rowAt_get hn)
    refine ⟨b, o, rfl, ?_, fun j u hu => ?_⟩
    · have hlen := valsR_len τ h (rowAt τ xs 0)
      obtain ⟨u, hu⟩ : ∃ u, (valsR τ (rowAt τ xs 0))[0]? = some u := ⟨_, List.getElem?_eq_getElem (by omega)⟩
      have := rowF_cell hφ τ h _ _ hr0 0 u hu
      unfold World.cell? at this
      cases hb : w.heap[b]? with
      | none => rw [show w.heap[(⟨b, o + 0 * τ.size + 0, none⟩ : Addr).block]? = w.heap[b]? from rfl, hb] at this; cases this
      | some ob => exact (Array.getElem?_eq_some_iff.1 hb).1
    · have hj : j < xs.length * τ.size := by rw [← valsL_len h xs]; exact (List.getElem?_eq_some_iff.1 hu).1
      obtain ⟨x, h3, h4⟩ := valsL_get h hs xs j hj
      obtain ⟨b', o', e1, e2⟩ := h2 _ x h3
      injection e1 with e1; injection e1 with e3 e4; subst e3 e4
      have := rowF_cell hφ τ h x _ e2 (j % τ.size) u (by rw [← h4]; exact hu)
      rwa [Nat.add_assoc, Nat.mul_comm, Nat.div_add_mod] at this
theorem vr_field {φ : Nat → Option Obj} {w : World} (hφ : ∀ k ob, φ k = some ob → w.heap[k]? = some ob) {l : List TP} {v : Value} (hv : VR (Emb.fro φ) (.agg [.fz RP l]) v) : ∃ A c, v = .agg #[.slice A (l.map ofP).length c] ∧ Sl w 3 A (l.map ofP).length c (vp (l.map ofP)) ∧ (A = none → c = 0) := by
  cases hv with
  | agg hl hh =>
    obtain ⟨u, rfl, hu⟩ := vrs1 ⟨hl, hh⟩
    obtain ⟨A, c, rfl, h1, h2⟩ := fz_sl hφ (τ := RP) rfl (by decide) hu
    have e1 : (l.map ofP).length = l.length := List.length_map ofP
    have h3 : Sl w 3 A l.length c (vp (l.map ofP)) := by rw [← valsL_pt l]; exact h1
    exact ⟨A, c, by rw [e1]; rfl, by rw [e1]; exact h3, h2⟩
theorem vr_ints {φ : Nat → Option Obj} {w : World} (hφ : ∀ k ob, φ k = some ob → w.heap[k]? = some ob) {l : List TI1} {v : Value} (hv : VR (Emb.fro φ) (.fz RI l) v) : ∃ A c, v = .slice A (l.map fun x => x.1).length c ∧ Sl w 1 A (l.map fun x => x.1).length c (vi (l.map fun x => x.1)) ∧ (A = none → c = 0) := by
  obtain ⟨A, c, rfl, h1, h2⟩ := fz_sl hφ (τ := RI) rfl (by decide) hv
  have e1 : (l.map fun x => x.1).length = l.length := List.length_map _
  have h3 : Sl w 1 A l.length c (vi (l.map fun x => x.1)) := by rw [← valsL_int l]; exact h1
  exact ⟨A, c, by rw [e1]; rfl, by rw [e1]; exact h3, h2⟩
theorem vr_point {η : Emb} {p : den RP} {v : Value} (hv : VR η (.agg (split RP p)) v) : v = .agg #[.int .i64 (ofP p).id, .int .i64 (ofP p).a, .int .i64 (ofP p).b] := by
  cases hv with
  | agg hl hh =>
    obtain ⟨u1, vs, rfl, h1, h2⟩ := VRs.uncons (c := .int .i64 p.1) ⟨hl, hh⟩
    obtain ⟨u2, vs, rfl, h3, h4⟩ := VRs.uncons (c := .int .i64 p.2.1) h2
    obtain ⟨u3, rfl, h5⟩ := vrs1 (c := .int .i64 p.2.2.1) h4
    cases h1; cases h3; cases h5; rfl
theorem vr_ratio {η : Emb} {a b : Int} {v : Value} (hv : VR η (.agg [.int .i64 a, .int .i64 b]) v) : v = .agg #[.int .i64 a, .int .i64 b] := by
  cases hv with
  | agg hl hh =>
    obtain ⟨u1, u2, rfl, h1, h2⟩ := vrs2 ⟨hl, hh⟩
    cases h1; cases h2; rfl
theorem vr_int {η : Emb} {k : IntKind} {a : Int} {v : Value} (hv : VR η (.int k a) v) : v = .int k a := by cases hv; rfl
theorem vr_bool {η : Emb} {a : Bool} {v : Value} (hv : VR η (.bool a) v) : v = .bool a := by cases hv; rfl
theorem VR.tupL {η : Emb} {cs : List LV} {vs : List Value} (h : VRs η cs vs) : VR η (.tup cs) (.tuple vs.toArray) := .tup h.1 h.2
theorem VR.aggL {η : Emb} {cs : List LV} {vs : List Value} (h : VRs η cs vs) : VR η (.agg cs) (.agg vs.toArray) := .agg h.1 h.2
/-- what a contract gives at the end -/
def Gives (w : World) (φ : Nat → Option Obj) (er : LV × List Ob) (e : Ending) (w' : World) : Prop := ∃ v' η', e = .returned v' ∧ VR η' er.1 v' ∧ (∀ M, HR M η' (heapOf er.2) w') ∧ Fr w (noK φ) (heapOf er.2) η' w'
theorem gives_pure {w : World} {φ : Nat → Option Obj} (hφ : ∀ k ob, φ k = some ob → w.heap[k]? = some ob) {l : LV} {v : Value} (hv : VR (Emb.fro φ) l v) (y : Beyond) : Gives w φ (l, []) (.returned v) (ext w y) := by
  have hb := bel_ext w y
  have h2 : ∀ k ob, φ k = some ob → (ext w y).heap[k]? = some ob := fun k ob hk => by rw [hb.block k (Array.getElem?_eq_some_iff.1 (hφ k ob hk)).1]; exact hφ k ob hk
  exact ⟨v, _, rfl, hv, hr_nil h2, hb.size, fun k hk => hb.block k hk, (fun k ⟨b, ob, L, h, _⟩ => by rw [get_heapOf] at h; simp at h), fun _ _ h => h, fun _ _ h => .inl h, hb.os, hb.tape, hb.output, hb.mono, fun _ _ h => h.elim⟩
/-- one row of one's own -/
theorem gives_own {w : World} {φ : Nat → Option Obj} (hφ : ∀ k ob, φ k = some ob → w.heap[k]? = some ob) {τ : Row} (hp : plainR τ = true) {xs : List (den τ)} {n : Nat} (hn : xs.length = n) {A : Option Addr} {c : Nat} {e : TypeId} {y : Beyond} {vals : List Value} (ho : Own (ext w y) w.heap.size e τ.size A n c vals) (hvals : valsL τ xs = vals)
    {l : LV} {v : Value} (hv : ∀ η : Emb, η.hdr 0 = some (.slice A n c) → VR η l v) : Gives w φ (l, [.rows τ xs]) (.returned v) (ext w y) := by
  subst hn
  have hb := bel_ext w y
  have h2 : ∀ k ob, φ k = some ob → (ext w y).heap[k]? = some ob := fun k ob hk => by rw [hb.block k (Array.getElem?_eq_some_iff.1 (hφ k ob hk)).1]; exact hφ k ob hk
  have hlt : ∀ k ob, φ k = some ob → k < w.heap.size := fun k ob hk => (Array.getElem?_eq_some_iff.1 (hφ k ob hk)).1
  have get0 : ∀ (b : Nat) ob, (heapOf [Ob.rows τ xs]).get b = some ob → b = 0 ∧ ob = .rows τ xs := fun b ob h => by
    rw [get_heapOf] at h
    cases b with
    | zero => simp at h; exact ⟨rfl, h.symm⟩
    | succ b => simp at h
  rcases Own.row ho with ⟨rfl, hn, rfl, hx⟩ | ⟨g, cur, rfl, hrow, hnc, htake⟩
  · have hxs : xs = [] := List.eq_nil_of_length_eq_zero hn
    subst hxs
    refine ⟨v, ⟨fun _ => none, fun b => if b = 0 then some (.slice none 0 0) else none, φ⟩, rfl, hv _ rfl, fun M => ⟨fun b hb1 _ => ?_, fun b ob h => ?_, fun b ob h => ?_, fun b1 b2 o1 o2 L1 L2 _ _ h => (by cases h), h2, fun k ⟨b, ob, L, _, h, _⟩ => (by cases h), fun b v h => ?_⟩,
      hb.size, fun k hk => hb.block k hk, fun k ⟨b, ob, L, _, h, _⟩ => (by cases h), fun _ _ h => h, fun _ _ h => .inl h, hb.os, hb.tape, hb.output, hb.mono, fun _ _ h => h.elim⟩
    · have hb1' : 1 ≤ b := hb1
      exact ⟨rfl, if_neg (by omega)⟩
    · obtain ⟨rfl, _⟩ := get0 b ob h; exact Nat.zero_lt_one
    · obtain ⟨rfl, rfl⟩ := get0 b ob h
      exact .none (A := none) rfl rfl
    · simp only at h
      split at h
      · injection h with h; exact ⟨_, _, _, h.symm⟩
      · cases h
  · have hg : (ext w y).heap[g]? = some (.cells cur.toArray e (0, 0)) := hrow.2.1
    have hlen := hrow.len
    have hlb : ∀ (k : Nat), LB (heapOf [Ob.rows τ xs]) ⟨fun b => if b = 0 then some ⟨g, 0, c * τ.size⟩ else none, fun b => if b = 0 then some (.slice (some ⟨g, 0, none⟩) xs.length c) else none, φ⟩ k → k = g := fun k ⟨b, ob, L, hb1, h, hk⟩ => by
      obtain ⟨rfl, _⟩ := get0 b ob hb1
      simp only [if_pos] at h
      injection h with h; subst h; exact hk.symm
    refine ⟨v, ⟨fun b => if b = 0 then some ⟨g, 0, c * τ.size⟩ else none, fun b => if b = 0 then some (.slice (some ⟨g, 0, none⟩) xs.length c) else none, φ⟩, rfl, hv _ rfl, fun M => ⟨fun b hb1 _ => ?_, fun b ob h => ?_, fun b ob h => ?_, fun b1 b2 o1 o2 L1 L2 h1 h2 _ _ _ => ?_, h2, fun k hk => ?_, fun b v h => ?_⟩,
      hb.size, fun k hk => hb.block k hk, fun k hk => ?_, fun _ _ h => h, fun _ _ h => .inl h, hb.os, hb.tape, hb.output, hb.mono, fun _ _ h => h.elim⟩
    · have hb1' : 1 ≤ b := hb1
      exact ⟨if_neg (by omega), if_neg (by omega)⟩
    · obtain ⟨rfl, _⟩ := get0 b ob h; exact Nat.zero_lt_one
    · obtain ⟨rfl, rfl⟩ := get0 b ob h
      refine .rows (L := ⟨g, 0, c * τ.size⟩) (c := c) rfl ⟨hrow.lt, ?_, fun j _ hj => ⟨?_, hrow.frozen j⟩, fun j cc hc => ?_⟩ rfl hnc (by simp)
      · rw [flat_len]; show 0 + _ ≤ c * τ.size; have := Nat.mul_le_mul_right τ.size hnc; omega
      · have hj' : j < cur.length := by rw [hlen]; exact hj
        have := hrow.cell (List.getElem?_eq_getElem hj')
        rw [this]; rfl
      · obtain ⟨u, h3, h4⟩ := (vrs_valsL (η := ⟨fun b => if b = 0 then some ⟨g, 0, c * τ.size⟩ else none, fun b => if b = 0 then some (.slice (some ⟨g, 0, none⟩) xs.length c) else none, φ⟩) hp xs).get hc
        refine ⟨u, ?_, h4⟩
        rw [hvals, ← htake, List.getElem?_take] at h3
        split at h3
        · have := hrow.cell h3; simpa using this
        · cases h3
    · obtain ⟨rfl, _⟩ := get0 b1 o1 h1
      obtain ⟨rfl, _⟩ := get0 b2 o2 h2
      rfl
    · have hk := hlb k hk
      subst hk
      show φ k = none
      cases hf : φ k with
      | none => rfl
      | some ob => have := hlt k ob hf; have := hrow.1; omega
    · simp only at h
      split at h
      · injection h with h; exact ⟨_, _, _, h.symm⟩
      · cases h
    · have hk := hlb k hk; subst hk; exact hrow.1
/-- a contract out of a walked one -/
theorem cok_old {P : Program} {S : Spec} (hb : ∃ fn c, P.funcs[S.g]? = some fn ∧ fn.body = some c ∧ ¬ fn.name = "runtime.NumGoroutine")
    (h : ∀ x r, S.F x = some r → ∀ (w : World) (φ : Nat → Option Obj) (vs : List Value), (∀ k ob, φ k = some ob → w.heap[k]? = some ob) → VRs (Emb.fro φ) (argsOf S.τs x) vs → Calls P S.g vs.toArray w (Gives w φ (S.enc r))) : COK P S := ⟨h, hb⟩
theorem body_of {P : Program} {g : Nat} {fn : Func} (h1 : P.funcs[g]? = some fn) (h2 : fn.body.isSome = true) (h3 : (fn.name == "runtime.NumGoroutine") = false) : ∃ fn c, P.funcs[g]? = some fn ∧ fn.body = some c ∧ ¬ fn.name = "runtime.NumGoroutine" := by
  obtain ⟨c, hc⟩ := Option.isSome_iff_exists.1 h2
  exact ⟨fn, c, h1, hc, by simpa using h3⟩
end Go.Tx

namespace Go.Tx
open Go Go.Pel
theorem own_at {w1 : World} {base : Nat} {e : TypeId} {τ : Row} (hp : plainR τ = true) {xs : List (den τ)} {A : Option Addr} {c : Nat} {vals : List Value} (ho : Own w1 base e τ.size A xs.length c vals) (hvals : valsL τ xs = vals) :
    ∃ L : Option Loc, (L = none → A = none ∧ c = 0 ∧ xs = []) ∧ ∀ l, L = some l → A = some ⟨l.block, l.base, none⟩ ∧ xs.length ≤ c ∧ l.base + c * τ.size ≤ l.lim ∧ l.base = 0 ∧ base ≤ l.block ∧ ∀ η, At η w1 (flat τ xs) l := by
  rcases Own.row ho with ⟨rfl, hn, rfl, hx⟩ | ⟨g, cur, rfl, hrow, hnc, htake⟩
  · exact ⟨none, fun _ => ⟨rfl, rfl, List.eq_nil_of_length_eq_zero hn⟩, fun l h => by cases h⟩
  · refine ⟨some ⟨g, 0, c * τ.size⟩, (fun h => by cases h), fun l h => ?_⟩
    injection h with h; subst h
    have hlen := hrow.len
    refine ⟨rfl, hnc, by simp, rfl, hrow.1, fun η => ⟨hrow.lt, ?_, fun j _ hj => ⟨?_, hrow.frozen j⟩, fun j cc hc => ?_⟩⟩
    · rw [flat_len]; show 0 + _ ≤ c * τ.size; have := Nat.mul_le_mul_right τ.size hnc; omega
    · have hj' : j < cur.length := by rw [hlen]; exact hj
      have := hrow.cell (List.getElem?_eq_getElem hj')
      rw [this]; rfl
    · obtain ⟨u, h3, h4⟩ := (vrs_valsL (η := η) hp xs).get hc
      refine ⟨u, ?_, h4⟩
      rw [hvals, ← htake, List.getElem?_take] at h3
      split at h3
      · have := hrow.cell h3; simpa using this
      · cases h3
/-- two rows of one's own -/
theorem gives_own2 {w : World} {φ : Nat → Option Obj} (hφ : ∀ k ob, φ k = some ob → w.heap[k]? = some ob) {τ σ : Row} (hp : plainR τ = true) (hq : plainR σ = true) {xs : List (den τ)} {ys : List (den σ)} {n m : Nat} (hn : xs.length = n) (hm : ys.length = m) {A B : Option Addr} {c d : Nat} {e f : TypeId} {y : Beyond} {vals vals' : List Value}
    (ho : Own (ext w y) w.heap.size e τ.size A n c vals) (ho' : Own (ext w y) w.heap.size f σ.size B m d vals') (hra : RowsApart A B) (hvals : valsL τ xs = vals) (hvals' : valsL σ ys = vals')
    {l : LV} {v : Value} (hv : ∀ η : Emb, η.hdr 0 = some (.slice A n c) → η.hdr 1 = some (.slice B m d) → VR η l v) : Gives w φ (l, [.rows τ xs, .rows σ ys]) (.returned v) (ext w y) := by
  subst hn; subst hm
  have hb := bel_ext w y
  have h2 : ∀ k ob, φ k = some ob → (ext w y).heap[k]? = some ob := fun k ob hk => by rw [hb.block k (Array.getElem?_eq_some_iff.1 (hφ k ob hk)).1]; exact hφ k ob hk
  have hlt : ∀ k ob, φ k = some ob → k < w.heap.size := fun k ob hk => (Array.getElem?_eq_some_iff.1 (hφ k ob hk)).1
  obtain ⟨L0, a0, b0⟩ := own_at hp ho hvals
  obtain ⟨L1, a1, b1⟩ := own_at hq ho' hvals'
  have get0 : ∀ (b : Nat) ob, (heapOf [Ob.rows τ xs, Ob.rows σ ys]).get b = some ob → (b = 0 ∧ ob = .rows τ xs) ∨ (b = 1 ∧ ob = .rows σ ys) := fun b ob h => by
    rw [get_heapOf] at h
    match b, h with
    | 0, h => simp at h; exact .inl ⟨rfl, h.symm⟩
    | 1, h => simp at h; exact .inr ⟨rfl, h.symm⟩
    | b + 2, h => simp at h
  let η : Emb := ⟨fun b => if b = 0 then L0 else if b = 1 then L1 else none, fun b => if b = 0 then some (.slice A xs.length c) else if b = 1 then some (.slice B ys.length d) else none, φ⟩
  have e0 : η.loc 0 = L0 := rfl
  have e1 : η.loc 1 = L1 := rfl
  have lv0 : Lv η (ext w y) 0 (.rows τ xs) := by
    cases hL : L0 with
    | none => obtain ⟨rfl, rfl, rfl⟩ := a0 hL; exact .none (A := none) (e0.trans hL) rfl
    | some l => obtain ⟨h1, h3, h4, _, _, h5⟩ := b0 l hL; exact .rows (e0.trans hL) (h5 η) (by subst h1; rfl) h3 h4
  have lv1 : Lv η (ext w y) 1 (.rows σ ys) := by
    cases hL : L1 with
    | none => obtain ⟨rfl, rfl, rfl⟩ := a1 hL; exact .none (A := none) (e1.trans hL) rfl
    | some l => obtain ⟨h1, h3, h4, _, _, h5⟩ := b1 l hL; exact .rows (e1.trans hL) (h5 η) (by subst h1; rfl) h3 h4
  have apart : ∀ l l', L0 = some l → L1 = some l' → l.block = l'.block → False := fun l l' h h' he => by
    obtain ⟨g1, _, _, g2, _⟩ := b0 l h
    obtain ⟨g3, _, _, g4, _⟩ := b1 l' h'
    refine hra l.block (by rw [g1, g2]) (by rw [g3, g4, he])
  have hlb : ∀ k, LB (heapOf [Ob.rows τ xs, Ob.rows σ ys]) η k → w.heap.size ≤ k := fun k ⟨b, ob, L, hb1, h, hk⟩ => by
    rcases get0 b ob hb1 with ⟨rfl, _⟩ | ⟨rfl, _⟩
    · rw [e0] at h; rw [← hk]; exact (b0 L h).2.2.2.2.1
    · rw [e1] at h; rw [← hk]; exact (b1 L h).2.2.2.2.1
  have hsep : ∀ k, LB (heapOf [Ob.rows τ xs, Ob.rows σ ys]) η k → φ k = none := fun k hk => by
    cases hf : φ k with
    | none => rfl
    | some ob => have := hlt k ob hf; have := hlb k hk; omega
  refine ⟨v, η, rfl, hv η rfl rfl, fun M => ⟨fun b hb1 _ => ?_, fun b ob h => ?_, fun b ob h => ?_, fun p q o1 o2 l1 l2 h1 h2 h3 h4 h5 => ?_, h2, hsep, fun b v h => ?_⟩,
    hb.size, fun k hk => hb.block k hk, hlb, fun _ _ h => h, fun _ _ h => .inl h, hb.os, hb.tape, hb.output, hb.mono, fun _ _ h => h.elim⟩
  · have hb1' : 2 ≤ b := hb1
    exact ⟨by show (if b = 0 then L0 else if b = 1 then L1 else none) = none; rw [if_neg (by omega), if_neg (by omega)], by show (if b = 0 then some (Value.slice A xs.length c) else if b = 1 then some (.slice B ys.length d) else none) = none; rw [if_neg (by omega), if_neg (by omega)]⟩
  · rcases get0 b ob h with ⟨rfl, _⟩ | ⟨rfl, _⟩
    · exact Nat.zero_lt_two
    · exact Nat.one_lt_two
  · rcases get0 b ob h with ⟨rfl, rfl⟩ | ⟨rfl, rfl⟩
    · exact lv0
    · exact lv1
  · rcases get0 p o1 h1 with ⟨rfl, _⟩ | ⟨rfl, _⟩ <;> rcases get0 q o2 h2 with ⟨rfl, _⟩ | ⟨rfl, _⟩
    · rfl
    · exact (apart l1 l2 h3 h4 h5).elim
    · exact (apart l2 l1 h4 h3 h5.symm).elim
    · rfl
  · show ∃ a n c, v = .slice a n c
    have h' : (if b = 0 then some (Value.slice A xs.length c) else if b = 1 then some (.slice B ys.length d) else none) = some v := h
    split at h'
    · injection h' with h'; exact ⟨_, _, _, h'.symm⟩
    · split at h'
      · injection h' with h'; exact ⟨_, _, _, h'.symm⟩
      · cases h'
/-- lists of numbers and rows -/
def unI (l : List Int) : List TI1 := l.map toI
def idsI (l : List TI1) : List Int := l.map fun x => x.1
def ptsL (l : List TP) : List Pt := l.map ofP
theorem idsI_unI (l : List Int) : idsI (unI l) = l := by
  unfold idsI unI; rw [List.map_map]; exact List.map_id _
theorem unI_idsI (l : List TI1) : unI (idsI l) = l := by
  unfold idsI unI; rw [List.map_map]; exact List.map_id _
theorem unI_len (l : List Int) : (unI l).length = l.length := List.length_map _
theorem idsI_len (l : List TI1) : (idsI l).length = l.length := List.length_map _
theorem ptsL_len (l : List TP) : (ptsL l).length = l.length := List.length_map _
theorem valsL_unI (l : List Int) : valsL RI (unI l) = vi l := by rw [valsL_int]; exact congrArg vi (idsI_unI l)
theorem vr_idsI {φ : Nat → Option Obj} {w : World} (hφ : ∀ k ob, φ k = some ob → w.heap[k]? = some ob) {l : List TI1} {v : Value} (hv : VR (Emb.fro φ) (.fz RI l) v) : ∃ A c, v = .slice A (idsI l).length c ∧ Sl w 1 A (idsI l).length c (vi (idsI l)) ∧ (A = none → c = 0) := vr_ints hφ hv
theorem vr_fld {φ : Nat → Option Obj} {w : World} (hφ : ∀ k ob, φ k = some ob → w.heap[k]? = some ob) {l : List TP} {v : Value} (hv : VR (Emb.fro φ) (.agg [.fz RP l]) v) : ∃ A c, v = .agg #[.slice A (ptsL l).length c] ∧ Sl w 3 A (ptsL l).length c (vp (ptsL l)) ∧ (A = none → c = 0) := vr_field hφ hv
theorem vr_bracket {φ : Nat → Option Obj} {w : World} (hφ : ∀ k ob, φ k = some ob → w.heap[k]? = some ob) {p q : List TI1} {v : Value} (hv : VR (Emb.fro φ) (.agg [.fz RI p, .fz RI q]) v) : ∃ A c B d, v = .agg #[.slice A (idsI p).length c, .slice B (idsI q).length d] ∧ Sl w 1 A (idsI p).length c (vi (idsI p)) ∧ Sl w 1 B (idsI q).length d (vi (idsI q)) ∧ (A = none → c = 0) ∧ (B = none → d = 0) := by
  cases hv with
  | agg hl hh =>
    obtain ⟨u1, u2, rfl, h1, h2⟩ := vrs2 ⟨hl, hh⟩
    obtain ⟨A, c, rfl, a1, a2⟩ := vr_idsI hφ h1
    obtain ⟨B, d, rfl, b1, b2⟩ := vr_idsI hφ h2
    exact ⟨A, c, B, d, rfl, a1, b1, a2, b2⟩
def i64B (n : Int) : Bool := decide (-9223372036854775808 ≤ n) && decide (n ≤ 9223372036854775807)
theorem i64B_iff {n : Int} (h : i64B n = true) : -9223372036854775808 ≤ n ∧ n ≤ 9223372036854775807 := by
  unfold i64B at h; simpa using h
def all64B (l : List Int) : Bool := l.all i64B
theorem all64B_iff {l : List Int} (h : all64B l = true) : ∀ x ∈ l, -9223372036854775808 ≤ x ∧ x ≤ 9223372036854775807 := fun x hx => i64B_iff (List.all_eq_true.1 h x hx)
theorem bif_some {α : Type} {c : Bool} {a r : α} (h : (bif c then some a else none) = some r) : c = true ∧ a = r := by
  cases c with
  | true => injection h with h; exact ⟨rfl, h⟩
  | false => cases h
theorem VR.rsI {η : Emb} {n : Nat} {v : Value} (h : η.hdr n = some v) : VR η (.rs n) v := by
  exact .rs h
theorem rowF_here {w : World} {b : Nat} : ∀ (τ : Row), plainR τ = true → ∀ (x : den τ) (o : Nat), (∀ (j : Nat) u, (valsR τ x)[j]? = some u → w.cell? ⟨b, o + j, none⟩ = some u) → RowF (fun k => w.heap[k]?) τ x b o
  | .nil, _, _, _, _ => trivial
  | .int k r, h, x, o, hc => ⟨by
      have := hc 0 _ (by rw [valsR]; rfl)
      rw [Nat.add_zero, cell_ob] at this
      cases hb : w.heap[b]? with
      | none => rw [hb] at this; cases this
      | some ob => rw [hb] at this; exact ⟨ob, hb, this⟩, rowF_here r h x.2 (o + 1) fun j u hu => by rw [show o + 1 + j = o + (j + 1) by omega]; exact hc (j + 1) u (by rw [valsR]; simpa using hu)⟩
  | .bool r, h, x, o, hc => ⟨by
      have := hc 0 _ (by rw [valsR]; rfl)
      rw [Nat.add_zero, cell_ob] at this
      cases hb : w.heap[b]? with
      | none => rw [hb] at this; cases this
      | some ob => rw [hb] at this; exact ⟨ob, hb, this⟩, rowF_here r h x.2 (o + 1) fun j u hu => by rw [show o + 1 + j = o + (j + 1) by omega]; exact hc (j + 1) u (by rw [valsR]; simpa using hu)⟩
  | .sl _ r, h, _, _, _ => by cases h
theorem valsL_at {τ : Row} (h : plainR τ = true) : ∀ (xs : List (den τ)) (i : Nat) x, xs[i]? = some x → ∀ (j : Nat) u, (valsR τ x)[j]? = some u → (valsL τ xs)[i * τ.size + j]? = some u
  | [], i, x, hx, j, u, hu => by simp at hx
  | y :: ys, 0, x, hx, j, u, hu => by
    simp only [List.getElem?_cons_zero, Option.some.injEq] at hx; subst hx
    rw [valsL, Nat.zero_mul, Nat.zero_add]
    have hj := (List.getElem?_eq_some_iff.1 hu).1
    rw [List.getElem?_append_left hj]; exact hu
  | y :: ys, i + 1, x, hx, j, u, hu => by
    rw [valsL]
    have hl := valsR_len τ h y
    rw [List.getElem?_append_right (by rw [hl, Nat.succ_mul]; omega), hl, show (i + 1) * τ.size + j - τ.size = i * τ.size + j by rw [Nat.succ_mul]; omega]
    exact valsL_at h ys i x (by simpa using hx) j u hu
/-- an argument's slice -/
theorem sl_fz {w : World} {τ : Row} (h : plainR τ = true) {xs : List (den τ)} {A : Option Addr} {n c : Nat} {vals : List Value} (hn : xs.length = n) (hv : valsL τ xs = vals) (hs : Sl w τ.size A n c vals) (h0 : A = none → c = 0) : VR (Emb.fro fun k => w.heap[k]?) (.fz τ xs) (.slice A n c) := by
  subst hn; subst hv
  refine .fz ⟨A, c, rfl, hs.1, h0, fun i x hx => ?_⟩
  have hi := (List.getElem?_eq_some_iff.1 hx).1
  obtain ⟨b, o, hA, _, hc⟩ := hs.2.2 (by omega)
  refine ⟨b, o, hA, rowF_here τ h x _ fun j u hu => ?_⟩
  rw [Nat.add_assoc]
  exact hc _ u (valsL_at h xs i x hx j u hu)
def toPs (l : List Pt) : List TP := l.map toP
theorem toPs_len (l : List Pt) : (toPs l).length = l.length := List.length_map _
theorem ptsL_toP (l : List Pt) : ptsL (toPs l) = l := by unfold ptsL toPs; rw [List.map_map]; exact List.map_id _
theorem valsL_toP (l : List Pt) : valsL RP (toPs l) = vp l := (valsL_pt (toPs l)).trans (congrArg vp (ptsL_toP l))
theorem sl_ints {w : World} {A : Option Addr} {c : Nat} {l : List Int} (hs : Sl w 1 A l.length c (vi l)) (h0 : A = none → c = 0) : VR (Emb.fro fun k => w.heap[k]?) (.fz RI (unI l)) (.slice A l.length c) := sl_fz (τ := RI) rfl (unI_len l) (valsL_unI l) hs h0
theorem sl_fld {w : World} {A : Option Addr} {c : Nat} {l : List Pt} (hs : Sl w 3 A l.length c (vp l)) (h0 : A = none → c = 0) : VR (Emb.fro fun k => w.heap[k]?) (.agg [.fz RP (toPs l)]) (.agg #[.slice A l.length c]) := VR.aggL (VRs.cons (sl_fz (τ := RP) rfl (toPs_len l) (valsL_toP l) hs h0) VRs.nil)
theorem sl_brk {w : World} {A B : Option Addr} {c d : Nat} {P W : List Int} (hs : Sl w 1 A P.length c (vi P)) (ht : Sl w 1 B W.length d (vi W)) (h0 : A = none → c = 0) (h1 : B = none → d = 0) : VR (Emb.fro fun k => w.heap[k]?) (.agg [.fz RI (unI P), .fz RI (unI W)]) (.agg #[.slice A P.length c, .slice B W.length d]) := VR.aggL (VRs.cons (sl_ints hs h0) (VRs.cons (sl_ints ht h1) VRs.nil))
theorem sl_rat {w : World} (n d : Int) : VR (Emb.fro fun k => w.heap[k]?) (.agg [.int .i64 n, .int .i64 d]) (.agg #[.int .i64 n, .int .i64 d]) := VR.aggL (VRs.cons (.int _ _) (VRs.cons (.int _ _) VRs.nil))
theorem vr_pts {φ : Nat → Option Obj} {w : World} (hφ : ∀ k ob, φ k = some ob → w.heap[k]? = some ob) {l : List TP} {v : Value} (hv : VR (Emb.fro φ) (.fz RP l) v) : ∃ A c, v = .slice A (ptsL l).length c ∧ Sl w 3 A (ptsL l).length c (vp (ptsL l)) ∧ (A = none → c = 0) := by
  obtain ⟨A, c, rfl, h1, h2⟩ := fz_sl hφ (τ := RP) rfl (by decide) hv
  have e1 : (ptsL l).length = l.length := ptsL_len l
  have h3 : Sl w 3 A l.length c (vp (ptsL l)) := by unfold ptsL; rw [← valsL_pt l]; exact h1
  exact ⟨A, c, by rw [e1]; rfl, by rw [e1]; exact h3, h2⟩
end Go.Tx

namespace Go
open RowKit
/-- a loop's record, or its deferred calls: no cells -/
def NoCells (o : Obj) : Prop := ∀ cs e f, o ≠ .cells cs e f
theorem noCells_loop (r : Loop) : NoCells (.loop r) := fun _ _ _ h => by cases h
theorem noCells_deferred (r : Option (List Deferred)) : NoCells (.deferred r) := fun _ _ _ h => by cases h
/-- blocks that are no cells, from b on, lie as they lay -/
structure Records (b : Nat) (W W' : World) : Prop where
  keep : ∀ (k : Nat) (o : Obj), b ≤ k → W.heap[k]? = some o → NoCells o → W'.heap[k]? = some o
theorem Records.refl (b : Nat) (W : World) : Records b W W := ⟨fun _ _ _ h _ => h⟩
theorem Records.trans {b : Nat} {A B D : World} (h : Records b A B) (k : Records b B D) : Records b A D := ⟨fun i o hb h1 h2 => k.keep i o hb (h.keep i o hb h1 h2) h2⟩
theorem Records.bel {b : Nat} {A B : World} (h : Bel A B) : Records b A B := ⟨fun k o _ h1 _ => by
  have hl : k < A.heap.size := (Array.getElem?_eq_some_iff.1 h1).1
  rw [h.block k hl]; exact h1⟩
section
variable {F : Fence} {n : Nat} {P : Program}
theorem callsIn_round {f : Nat} {args : Array Value} {w : World} {R : Ending → World → Prop} (l : Nat) (h : CallsIn F n P f args w R) : CallsIn (F.inRound l) n P f args w R := h
theorem calls_round {f : Nat} {args : Array Value} {w : World} {R : Ending → World → Prop} (l m : Nat) (h : Calls P f args w R) : CallsIn (Fence.wide.inRound l) m P f args w R := callsIn_round l (callsIn_wide.2 h)
/-- an iterator's value that gives the elements of xs; between two rounds it takes the world along C (its own cells); a round keeps Kp. -/
def SeqAll {α : Type} (F : Fence) (n : Nat) (P : Program) (g : Nat) (lb : Array Value) (encs : α → Array Value) (C Kp : World → World → Prop) (xs : List α) (w : World) : Prop :=
  ∀ (l : Nat) (J : List α → World → Prop) (W : World), Below w.heap.size w W → (∀ s A B, J s A → C A B → J s B) →
    (∀ pre x rest A, xs = pre ++ x :: rest → J pre A → YieldAt F (n - 1) P l (encs x) A fun e B => e = .returned (.bool true) ∧ J (pre ++ [x]) B ∧ Kp A B) →
    J [] W → CallsIn F n P g (#[.func (.yield l) #[] #[]] ++ lb) W fun e B => (∃ v, e = .returned v) ∧ J xs B
theorem wpIn_range_all {α : Type} {g : Operand} {ps : Array Tmp} {assign body : Code} {Q : Exit → Act → World → Prop} {a : Act} {w : World}
    (hro : F.round = none) (h1 : 1 ≤ n) {gf : Nat} {lb : Array Value} (hg : a.eval g = .func (.func gf) #[] lb) (hFg : F.fn gf) (eg : ∀ args w, (callFunc gf args).run P w = .ok (.enter gf args) w)
    {encs : α → Array Value} {C Kp : World → World → Prop} {xs : List α} (hseq : SeqAll F (n - 1) P gf lb encs C Kp xs w)
    (hC : ∀ A B, C A B → ∀ k, w.heap.size ≤ k → B.heap[k]? = A.heap[k]?)
    (hKt : ∀ {A B D : World}, Kp A B → Kp B D → Kp A D) (hKb : ∀ (W : World) (l : Nat) (o : Obj), w.heap.size ≤ l → Kp W (W.putObj l o)) (hps : ∀ x, (encs x).size = ps.size)
    (I : List α → World → Prop) (hIC : ∀ s A B, I s A → C A B → I s B)
    (hIp : ∀ s (A : World) (l : Nat) (o o' : Obj), I s A → w.heap.size ≤ l → A.heap[l]? = some o → NoCells o → I s (A.putObj l o'))
    (hIa : ∀ s (A : World) (o : Obj), I s A → I s (A.alloc o)) (h0 : I [] w) (a₁ : α → Act)
    (hassign : ∀ (l : Nat) (x : α) (W : World) (K : Act → World → Prop), K (a₁ x) W →
      assign.wpIn (F.inRound l) (n - 1 - 1) P (Exit.then K (fun _ _ _ => False)) { tmps := (ps.zip (encs x)).foldl (fun t (p, v) => t.setIfInBounds p v) a.tmps, defers := [] } W)
    (hbody : ∀ (l : Nat) (pre : List α) (x : α) (rest : List α) (W : World), xs = pre ++ x :: rest → I pre W →
      body.wpIn (F.inRound l) (n - 1 - 1) P (fun e _ W' => e = .normal ∧ Records w.heap.size W W' ∧ Kp W W' ∧ I (pre ++ [x]) W') (a₁ x) W)
    (hdone : ∀ (D : Nat) (W : World), w.heap.size ≤ D → I xs W → W.heap[D]? = some (.deferred (some [])) → Q .normal { a with defers := { target := .collected D, args := #[] } :: a.defers } W) :
    (Code.rangeFunc g ps assign body).wpIn F n P Q a w := by
  refine wpIn_rangeFunc ?_
  intro fn hfn
  rw [hro]
  -- the record in each of its states, and the world in which it has just been laid
  obtain ⟨rc, hrc⟩ : ∃ rc : LoopState → Loop, rc = fun st => { state := st, pending := none, fn, tmps := a.tmps, params := ps, assign, body, defers := w.heap.size } := ⟨_, rfl⟩
  obtain ⟨V, hV⟩ : ∃ V, (w.alloc (.deferred (some []))).alloc (.loop (rc .ready)) = V := ⟨_, rfl⟩
  have vl : V.heap[w.heap.size + 1]? = some (.loop (rc .ready)) := by
    have := World.alloc_heap_new (w.alloc (.deferred (some []))) (.loop (rc .ready))
    rw [World.size_alloc] at this
    rw [← hV]; exact this
  have vd : V.heap[w.heap.size]? = some (.deferred (some [])) := by
    rw [← hV]; exact (Below.heap_alloc _ _ _ (by simp)).trans (World.alloc_heap_new w _)
  have vb : Below w.heap.size w V := by rw [← hV]; exact ((Below.refl _ w).alloc (Nat.le_refl _) _).alloc (by simp) _
  have vI : I [] V := by rw [← hV]; exact hIa _ _ _ (hIa _ _ _ h0)
  refine ⟨w.heap.size + 1, [{ target := .collected w.heap.size, args := #[] }], V, { target := .fn (.func gf) lb, args := #[.func (.yield (w.heap.size + 1)) #[] #[]] }, V, gf,
    #[.func (.yield (w.heap.size + 1)) #[] #[]] ++ lb, V, ?_, ?_, ?_, ?_, fun _ => h1, ?_⟩
  · rw [← hV, hrc]; exact run_enterLoop_outer _ _ _ _ _
  · simp only [resolve, hg]
    simp [go_sem]
  · intro f hf; simp [Target.leads] at hf; rw [← hf]; exact hFg
  · simp [invoke, go_sem, eg]
  · refine (hseq (w.heap.size + 1) (fun pre W => I pre W ∧ W.heap[w.heap.size + 1]? = some (.loop (rc .ready)) ∧ W.heap[w.heap.size]? = some (.deferred (some []))) V vb
      (fun s A B h hAB => ⟨hIC s A B h.1 hAB, (hC A B hAB _ (by omega)).trans h.2.1, (hC A B hAB _ (Nat.le_refl _)).trans h.2.2⟩) ?_ ⟨vI, vl, vd⟩).mono ?_
    · rintro pre x rest W hxs ⟨hi, hl, hk⟩
      have hlt : w.heap.size + 1 < W.heap.size := (Array.getElem?_eq_some_iff.1 hl).1
      have hy := run_yield (P := P) (args := encs x) hl (by rw [hrc]; exact hps x)
      rw [hrc] at hy
      refine ⟨fn, _, assign, body, hy, roundIn_of_wpIn hfn (hassign _ x W _ ⟨_, run_beginRound hl (by rw [hrc]), ?_⟩)⟩
      obtain ⟨U, hU⟩ : ∃ U, W.putObj (w.heap.size + 1) (.loop { rc .ready with state := .busy }) = U := ⟨_, rfl⟩
      rw [hU]
      have ul : U.heap[w.heap.size + 1]? = some (.loop { rc .ready with state := .busy }) := by rw [← hU]; exact World.putObj_heap_same hlt
      have ud : U.heap[w.heap.size]? = some (.deferred (some [])) := by rw [← hU]; exact (World.putObj_heap_other (by omega)).trans hk
      have uK : Kp W U := by rw [← hU]; exact hKb _ _ _ (by omega)
      have uI : I pre U := by rw [← hU]; exact hIp _ _ _ _ _ hi (by omega) hl (noCells_loop _)
      refine wpIn_mono (hbody _ pre x rest U hxs uI) ?_
      rintro e a3 Z ⟨rfl, zk, zK, zI⟩
      have zl := zk.keep _ _ (by omega) ul (noCells_loop _)
      have zd := zk.keep _ _ (Nat.le_refl _) ud (noCells_deferred _)
      have hr := run_endRound (P := P) none zl
      rw [hrc] at hr
      refine ⟨_, _, hr, rfl, ⟨hIp _ _ _ _ _ zI (by omega) zl (noCells_loop _), ?_, ?_⟩, hKt (hKt uK zK) (hKb _ _ _ (by omega))⟩
      · rw [hrc]; exact World.putObj_heap_same (Array.getElem?_eq_some_iff.1 zl).1
      · exact (World.putObj_heap_other (by omega)).trans zd
    · rintro e Z ⟨⟨v, rfl⟩, zI, zl, zd⟩
      have he := run_endLoop (P := P) zl (by rw [hrc]; simp)
      rw [hrc] at he
      exact ⟨none, _, he, hdone _ _ (Nat.le_refl _) (hIp _ _ _ _ _ zI (by omega) zl (noCells_loop _)) ((World.putObj_heap_other (by omega)).trans zd)⟩
end
end Go

namespace Go
namespace RegC
section
variable {P : Program} {ops : Array Oper} {md : Region.Mode} {Q : Exit → Act → World → Prop} {l n : Nat}
def noDefer (ops : Array Oper) : Bool := ops.all fun o => match o.op with | .defer _ => false | _ => true
theorem noDefer_at {i : Nat} {o : Oper} (h : noDefer ops = true) (ho : ops[i]? = some o) : ∀ c, o.op ≠ .defer c := by
  intro c hc
  unfold noDefer at h
  have hi := (Array.getElem?_eq_some_iff.1 ho)
  obtain ⟨hi, he⟩ := hi
  have := Array.all_eq_true.1 h i hi
  rw [he, hc] at this
  cases this
theorem oper_in {o : Oper} {a : Act} {w : World} {K : Act → World → Prop} (hd : ∀ c, o.op ≠ .defer c) (h : Oper.wp P o a w K Q) : Oper.wpIn (Fence.wide.inRound l) n P o a w K Q := by
  refine ⟨fun _ _ => trivial, ?_⟩
  rw [Oper.semAt_plain (Fence.wide.inRound l) _ _ hd]
  unfold Oper.wp at h
  cases hr : (execOp a.eval o).run P w with
  | ok x w' =>
    rw [hr] at h
    cases x with
    | value v => exact h
    | skip => exact h
    | defer d => exact h
    | enter f args => exact ⟨fun hh => by simp [Fence.wide] at hh, callsIn_round l (callsIn_wide.2 h)⟩
    | row row args => exact ⟨fun hh => by simp [Fence.wide] at hh, fun c cs _ => by obtain ⟨v, w', r, s⟩ := h c cs; exact ⟨v, w', r, stepsIn_wide.2 s⟩⟩
    | _ => exact h.elim
  | halt x w' =>
    rw [hr] at h
    cases x <;> exact h
theorem op_in (hnd : noDefer ops = true) (hL : ¬ LetsOut Q) {i : Nat} {K K' : Act → World → Prop} {a : Act} {w : World} (hK : ∀ a w, K a w → K' a w) (h : wpOp P ops Q i K a w) : wpOpIn (Fence.wide.inRound l) n P ops Q i K' a w := by
  unfold wpOp at h
  unfold wpOpIn
  cases ho : ops[i]? with
  | none => rw [ho] at h; exact hK _ _ h
  | some o =>
    rw [ho] at h
    simp only at h ⊢
    split
    · rename_i hw
      rw [if_pos hw] at h
      rcases h with h | h
      · exact Oper.wpIn_mono hK (oper_in (noDefer_at hnd ho) h)
      · exact absurd h.2 hL
    · rename_i hw
      rw [if_neg hw] at h
      exact ⟨fun _ _ => trivial, hK _ _ h⟩
theorem any_in (hnd : noDefer ops = true) (hL : ¬ LetsOut Q) : ∀ (fuel : Nat) (li : Array Bool) (a : Act) (w : World), wpAny P md ops Q fuel li a w → wpAnyIn (Fence.wide.inRound l) n P md ops Q fuel li a w := by
  intro fuel
  induction fuel with
  | zero => exact fun _ _ _ h => h
  | succ fuel ih => exact fun li a w h => ⟨h.1, fun i hi => op_in hnd hL (fun a w => ih _ a w) (h.2 i hi)⟩
end
section
variable {P : Program} {C : World → Prop} {l n : Nat}
/-- The head in any order, in the class; then the tail in order: in a round. -/
theorem wpIn_region_class_tail {id : Nat} {Q : Exit → Act → World → Prop} {a : Act} {w : World} {L : List Oper} (k : Nat) (hL : ¬ LetsOut Q) (hnd : noDefer L.toArray = true) (hm : P.follows .mixedOrders = true) (hB : Region.lexTailB .any L.toArray k = true)
    (hC : C { w with drawn := w.drawn + 1 })
    (h : wpQuiet P L.toArray C (fun a' => ∀ w', C w' → wpList P L.toArray Q (L.drop k) a' w') (L.take k) a) : (Code.region id L.toArray true).wpIn (Fence.wide.inRound l) n P Q a w := by
  simp only [Region.lexTailB, Bool.and_eq_true, decide_eq_true_eq] at hB
  obtain ⟨⟨⟨⟨hsel, hn⟩, hs⟩, hc⟩, hlex⟩ := hB
  have hn' : k < L.length := by simpa using hn
  have htl : (L.take k).length = k := by simp; omega
  have hdl : (L.drop k).length = L.toArray.size - k := by simp
  have inv0 : HeadInv .any L.toArray k (Array.replicate L.toArray.size false) :=
    ⟨by simp, fun j oj _ hl => (by rw [getD_replicate_false] at hl; cases hl), fun t _ ht => getD_in (by simpa using ht) (getD_replicate_false _ _)⟩
  have H := anyC_lex (C := C) (md := .any) (g := L.toArray.size - k) hsel hs hc hn (L.take k) 0 _ a (fun j hj => by
    have hj' : j < k := by rw [htl] at hj; exact hj
    simp [hj']) (by simpa using htl) inv0 (by rw [htl]; exact hlex) h
  refine wpIn_region_any hm (any_in hnd hL _ _ _ _ ?_)
  have := anyC_run (Q' := Q) (g := L.toArray.size - k) (fun li a' w' hw' hL => by
    have := wpAny_of_seq (md := .any) (Q' := Q) (L.drop k) k li a' w' (fun j => by simp [List.getElem?_drop]) (by rw [hdl]; exact hL.1) (hL.2 w' hw')
    rwa [hdl] at this) _ _ _ _ hC H
  rw [htl, show k + (L.toArray.size - k) = L.toArray.size from by omega] at this
  exact this
end
end RegC
end Go

namespace Go.Tx
open Go Go.RegC
/-- temporaries that keep their values -/
def KT (V : Nat → Value → Prop) (a : Act) : Prop := ∀ n v, V n v → a.tmps[n]? = some v
theorem kt_put {V : Nat → Value → Prop} {a : Act} {dst : Option Tmp} (hd : ∀ n v, V n v → dst ≠ some n) (h : KT V a) (v : Value) : KT V (a.put dst v) := fun n u hu => by
  cases dst with
  | none => exact h n u hu
  | some d =>
    have hne : d ≠ n := fun he => hd n u hu (by rw [he])
    show (a.tmps.setIfInBounds d v)[n]? = some u
    rw [Array.getElem?_setIfInBounds_ne hne]; exact h n u hu
def QK (V : Nat → Value → Prop) (Q : Exit → Act → World → Prop) (e : Exit) (a : Act) (w : World) : Prop := Q e a w ∧ (e = .normal → KT V a)
section
variable {P : Program} {V : Nat → Value → Prop} {Q : Exit → Act → World → Prop} {ops : Array Oper}
theorem oper_keep {o : Oper} {a : Act} {w : World} {K : Act → World → Prop} (hd : ∀ n v, V n v → o.dst ≠ some n) (ht : KT V a) (h : o.wp P a w K Q) : o.wp P a w (fun a w => K a w ∧ KT V a) (QK V Q) := by
  unfold Oper.wp at *
  generalize (execOp a.eval o).run P w = r at *
  cases r with
  | ok n w' =>
    cases n <;> simp only [Oper.upon] at h ⊢
    case value v => exact ⟨h, kt_put hd ht v⟩
    case skip => exact ⟨h, kt_put hd ht _⟩
    case defer d => exact ⟨h, kt_put (a := { a with defers := d :: a.defers }) hd ht _⟩
    case enter f args =>
      refine Calls.mono h fun e w'' he => ?_
      cases e with
      | returned v => exact ⟨he, kt_put hd ht v⟩
      | panicked c => exact ⟨he, fun h => by cases h⟩
      | outgrown => obtain ⟨a2, w2, h2⟩ := he; exact ⟨a2, w2, h2, fun h => by cases h⟩
    case row row args => exact Rows.mono h fun v w'' he => ⟨he, kt_put hd ht v⟩
  | halt x w' =>
    cases x <;> simp only [Oper.upon] at h ⊢
    exact ⟨h, fun h => by cases h⟩
theorem list_keep : ∀ (l : List Oper), (∀ o ∈ l, ∀ n v, V n v → o.dst ≠ some n) → ∀ (a : Act) (w : World), KT V a → wpList P ops Q l a w → wpList P ops (QK V Q) l a w
  | [], _, a, w, ht, h => ⟨h, fun _ => ht⟩
  | o :: l, hd, a, w, ht, h => by
    have ih := list_keep l fun o ho => hd o (List.mem_cons_of_mem _ ho)
    have h0 := hd o (List.mem_cons_self ..)
    change (if Region.wanted o (yielded ops a.tmps) then _ else _)
    change (if Region.wanted o (yielded ops a.tmps) then _ else _) at h
    split
    · rename_i hw
      rw [if_pos hw] at h
      rcases h with h | h
      · exact .inl (Oper.wp_mono (fun a w hk => ih a w hk.2 hk.1) (oper_keep h0 ht h))
      · obtain ⟨a2, w2, h3⟩ := h.2
        exact .inr ⟨h.1, a2, w2, h3, fun h => by cases h⟩
    · rename_i hw
      rw [if_neg hw] at h
      exact ih _ _ (kt_put h0 ht _) h
theorem any_keep {md : Region.Mode} (hd : ∀ (i : Nat) (o : Oper), ops[i]? = some o → ∀ n v, V n v → o.dst ≠ some n) : ∀ (f : Nat) (li : Array Bool) (a : Act) (w : World), KT V a → wpAny P md ops Q f li a w → wpAny P md ops (QK V Q) f li a w := by
  intro f
  induction f with
  | zero => intro li a w ht h; exact ⟨h.1, h.2, fun _ => ht⟩
  | succ f ih =>
    intro li a w ht h
    refine ⟨fun hr => ⟨h.1 hr, fun _ => ht⟩, fun i hi => ?_⟩
    have h2 := h.2 i hi
    unfold wpOp at h2 ⊢
    cases ho : ops[i]? with
    | none => rw [ho] at h2; exact ih _ _ _ ht h2
    | some o =>
      rw [ho] at h2
      simp only at h2 ⊢
      split
      · rename_i hw
        rw [if_pos hw] at h2
        rcases h2 with h2 | h2
        · exact .inl (Oper.wp_mono (fun a w hk => ih _ a w hk.2 hk.1) (oper_keep (hd i o ho) ht h2))
        · obtain ⟨a2, w2, h3⟩ := h2.2
          exact .inr ⟨h2.1, a2, w2, h3, fun h => by cases h⟩
      · rename_i hw
        rw [if_neg hw] at h2
        exact ih _ _ _ (kt_put (hd i o ho) ht _) h2
/-- no operation writes these temporaries -/
def dstB (ns : List Nat) (ops : Array Oper) : Bool := ops.toList.all fun o => match o.dst with | some d => !memB ns d | none => true
theorem dstB_at {ns : List Nat} (h : dstB ns ops = true) (hV : ∀ n v, V n v → n ∈ ns) {o : Oper} (ho : o ∈ ops.toList) : ∀ n v, V n v → o.dst ≠ some n := fun n v hn he => by
  unfold dstB at h
  have h1 := List.all_eq_true.1 h o ho
  rw [he] at h1
  simp only at h1
  rw [memB_iff.2 (hV n v hn)] at h1
  cases h1
theorem list_in {l n : Nat} (hL : ¬ LetsOut Q) : ∀ (L : List Oper), (∀ o ∈ L, ∀ c, o.op ≠ .defer c) → ∀ (a : Act) (w : World), wpList P ops Q L a w → wpListIn (Fence.wide.inRound l) n P ops Q L a w
  | [], _, a, w, h => h
  | o :: L, hd, a, w, h => by
    have ih := list_in (l := l) (n := n) hL L fun o ho => hd o (List.mem_cons_of_mem _ ho)
    change (if Region.wanted o (yielded ops a.tmps) then _ else _)
    change (if Region.wanted o (yielded ops a.tmps) then _ else _) at h
    split
    · rename_i hw
      rw [if_pos hw] at h
      rcases h with h | h
      · exact Oper.wpIn_mono (fun a w => ih a w) (oper_in (hd o (List.mem_cons_self ..)) h)
      · exact absurd h.2 hL
    · rename_i hw
      rw [if_neg hw] at h
      exact ⟨fun _ _ => trivial, ih _ _ h⟩
theorem rw_in {l n id : Nat} {draw : Bool} {a : Act} {w : World} (hm : P.follows .mixedOrders = true) (hL : ¬ LetsOut Q) (hnd : noDefer ops = true) (h : RW P ops draw Q a w) : (Code.region id ops draw).wpIn (Fence.wide.inRound l) n P Q a w := by
  cases draw with
  | true => exact wpIn_region_any hm (any_in hnd hL _ _ _ _ h)
  | false =>
    refine wpIn_region_list (list_in hL _ (fun o ho => ?_) _ _ h)
    obtain ⟨i, hi⟩ := List.getElem?_of_mem ho
    exact noDefer_at hnd (i := i) (o := o) (by rw [← hi, Array.getElem?_toList])
theorem rw_keep {draw : Bool} {a : Act} {w : World} {ns : List Nat} (hV : ∀ n v, V n v → n ∈ ns) (hd : dstB ns ops = true) (ht : KT V a) (h : RW P ops draw Q a w) : RW P ops draw (QK V Q) a w := by
  cases draw with
  | true => exact any_keep (fun i o ho => dstB_at hd hV (List.mem_of_getElem? (i := i) (by rw [Array.getElem?_toList]; exact ho))) _ _ _ _ ht h
  | false => exact list_keep _ (fun o ho => dstB_at hd hV ho) _ _ ht h
end
section
variable {P : Program} {T : Tys} {C : Orc} {N l : Nat} {V : Nat → Value → Prop} {w0 : World} {φ0 : Fz0} {Q : Exit → Act → World → Prop}
/-- code in a round -/
def RunI (l : Nat) (P : Program) (V : Nat → Value → Prop) (w0 : World) (φ0 : Fz0) (N : Nat) (c : Code) (s : St) (Q : Exit → Act → World → Prop) : Prop := ∀ a w, SS w0 φ0 N s a w → KT V a → c.wpIn (Fence.wide.inRound l) 0 P Q a w
def CnI (V : Nat → Value → Prop) (w0 : World) (φ0 : Fz0) (N : Nat) (s : St) (Q : Exit → Act → World → Prop) (e : Exit) : Prop := ∀ a w, SS w0 φ0 N s a w → KT V a → Q e a w
theorem cnI_then {c : Code} {s : St} (h : RunI l P V w0 φ0 N c s Q) : CnI V w0 φ0 N s (Exit.then (c.wpIn (Fence.wide.inRound l) 0 P Q) Q) .normal := h
theorem cnI_blk {s : St} {i : Nat} (h : CnI V w0 φ0 N s Q .normal) : CnI V w0 φ0 N s (Exit.inBlock i Q) .normal := h
theorem cnI_sco {s : St} (h : CnI V w0 φ0 N s Q .normal) : CnI V w0 φ0 N s (Exit.noGoto Q) .normal := h
theorem cnI_then_exit {s : St} {K : Act → World → Prop} {i : Nat} (h : CnI V w0 φ0 N s Q (.exit i)) : CnI V w0 φ0 N s (Exit.then K Q) (.exit i) := h
theorem cnI_blk_eq {s : St} {i : Nat} (h : CnI V w0 φ0 N s Q .normal) : CnI V w0 φ0 N s (Exit.inBlock i Q) (.exit i) := fun a w hs hv => by
  show (if i = i then Q .normal a w else Q (.exit i) a w)
  rw [if_pos rfl]; exact h a w hs hv
theorem cnI_blk_ne {s : St} {i j : Nat} (hij : Nat.beq j i = false) (h : CnI V w0 φ0 N s Q (.exit j)) : CnI V w0 φ0 N s (Exit.inBlock i Q) (.exit j) := fun a w hs hv => by
  show (if j = i then Q .normal a w else Q (.exit j) a w)
  rw [if_neg (Nat.ne_of_beq_eq_false hij)]; exact h a w hs hv
theorem cnI_sco_exit {s : St} {i : Nat} (h : CnI V w0 φ0 N s Q (.exit i)) : CnI V w0 φ0 N s (Exit.noGoto Q) (.exit i) := h
theorem runI_skip {s : St} (h : CnI V w0 φ0 N s Q .normal) : RunI l P V w0 φ0 N .skip s Q := fun a w hs hv => wpIn_skip (h a w hs hv)
theorem runI_label {s : St} {k : Nat} (h : CnI V w0 φ0 N s Q .normal) : RunI l P V w0 φ0 N (.label k) s Q := fun a w hs hv => wpIn_label (h a w hs hv)
theorem runI_exit {s : St} {i : Nat} (h : CnI V w0 φ0 N s Q (.exit i)) : RunI l P V w0 φ0 N (.exit i) s Q := fun a w hs hv => wpIn_exit (h a w hs hv)
theorem runI_seq {x y : Code} {s : St} (h : RunI l P V w0 φ0 N x s (Exit.then (y.wpIn (Fence.wide.inRound l) 0 P Q) Q)) : RunI l P V w0 φ0 N (.seq x y) s Q := fun a w hs hv => wpIn_seq (h a w hs hv)
theorem runI_block {c : Code} {s : St} {i : Nat} (h : RunI l P V w0 φ0 N c s (Exit.inBlock i Q)) : RunI l P V w0 φ0 N (.block i c) s Q := fun a w hs hv => wpIn_block (h a w hs hv)
theorem runI_join {R X : Type} {r : R} {F : X → Option R} {S : X → St} {x y : Code} {s : St} (hj : ∀ z, F z = some r → RunI l P V w0 φ0 N y (S z) Q) (h : (∀ z, F z = some r → CnI V w0 φ0 N (S z) (Exit.then (y.wpIn (Fence.wide.inRound l) 0 P Q) Q) .normal) → RunI l P V w0 φ0 N x s (Exit.then (y.wpIn (Fence.wide.inRound l) 0 P Q) Q)) : RunI l P V w0 φ0 N (.seq x y) s Q := runI_seq (h hj)
theorem runI_cond {R : Type} {r : R} {v : Bool} {A B : Option R} {c : Operand} {x y : Code} {s : St} (hc : stev s c = .bool v) (h : (bif v then A else B) = some r) (ht : A = some r → RunI l P V w0 φ0 N x s Q) (hf : B = some r → RunI l P V w0 φ0 N y s Q) : RunI l P V w0 φ0 N (.cond c x y) s Q := fun a w hs hv => by
  obtain ⟨η, h1, _⟩ := hs.sr
  have hx := xev_ok (h1 0).tr c
  rw [show xev (memOf s.tm .lf) c = .bool v from hc] at hx
  have hcv : a.eval c = .bool v := by
    generalize a.eval c = u at hx
    cases hx; rfl
  refine wpIn_cond hcv ?_
  cases v with
  | true => exact ht h a w hs hv
  | false => exact hf h a w hs hv
theorem runI_reg (hm : P.follows .mixedOrders = true) (hT : TysOK P T) (hC : OrcOK P C) {ns : List Nat} (hV : ∀ n v, V n v → n ∈ ns) {R Y : Type} {r : R} {rid : Nat} {ops : Array Oper} {draw : Bool} {keep : List (Nat × Kd)} {s : St} {t : Dt Y} {S : Y → St} {K : Y → Option R}
    (hd : dstB ns ops = true) (hnd : noDefer ops = true) (hreg : treg T C N ops draw keep s some = t.eval fun y => some (S y)) (h : t.eval K = some r) (hk : ∀ y, K y = some r → CnI V w0 φ0 N (S y) Q .normal) : RunI l P V w0 φ0 N (.region rid ops draw) s Q := by
  obtain ⟨y, h1, h2⟩ := t.one h
  rw [h2] at hreg
  obtain ⟨s', h3, h4⟩ := reg_rw (D := φ0.D) hm hT hC hreg
  injection h3 with h3; subst h3
  intro a w hs hv
  have h5 := h4 w0 φ0 a w (fun e a w => e = .normal ∧ SS w0 φ0 N (S y) a w) rfl hs fun a' w' h => ⟨rfl, h⟩
  have h6 := rw_in (l := l) (n := 0) (id := rid) hm (by rintro ⟨a2, w2, h2⟩; cases h2.1.1) hnd (rw_keep hV hd hv h5)
  refine wpIn_mono h6 fun e a' w' ⟨⟨he, h7⟩, h8⟩ => ?_
  subst he
  exact hk y h1 a' w' h7 (h8 rfl)
end
/-- another block b alone -/
structure OnlyB (b : Nat) (A B : World) : Prop where
  size : B.heap.size = A.heap.size
  same : ∀ k, k ≠ b → B.heap[k]? = A.heap[k]?
  os : B.os = A.os
  tape : B.tape = A.tape
  output : B.output = A.output
  drawn : B.drawn = A.drawn
theorem OnlyB.put (A : World) (b : Nat) (o : Obj) : OnlyB b A (A.putObj b o) := ⟨by rw [World.putObj_size], fun k hk => World.putObj_heap_other hk, rfl, rfl, rfl, rfl⟩
theorem HR.only {M : Nat} {η : Emb} {H : LH} {A B : World} {b : Nat} (h : HR M η H A) (hb : OnlyB b A B) (hl : ¬ LB H η b) (hf : η.fz b = none) : HR M η H B where
  dom := h.dom
  lt := h.lt
  live k ob hk := (h.live k ob hk).move (Emb.le_refl _) rfl (Nat.le_of_eq hb.size.symm) fun L hL => hb.same _ fun he => hl ⟨k, ob, L, hk, hL, he⟩
  inj := h.inj
  fz k ob hk := by rw [hb.same k fun he => by rw [he, hf] at hk; cases hk]; exact h.fz k ob hk
  sep := h.sep
  ok := h.ok
theorem Fr.only {w0 : World} {φ0 : Fz0} {H : LH} {η : Emb} {A B : World} {b : Nat} (h : Fr w0 φ0 H η A) (hb : OnlyB b A B) (h0 : w0.heap.size ≤ b) (hk : ∀ o, ¬ φ0.K b o) : Fr w0 φ0 H η B where
  size := by rw [hb.size]; exact h.size
  same k hlt := (hb.same k (by omega)).trans (h.same k hlt)
  lb := h.lb
  fz0 := h.fz0
  fzn := h.fzn
  os := hb.os.trans h.os
  tape := hb.tape.trans h.tape
  output := hb.output.trans h.output
  drawn := by rw [hb.drawn]; exact h.drawn
  kp k o ho := by
    obtain ⟨h1, h2, h3⟩ := h.kp k o ho
    exact ⟨(hb.same k fun he => hk o (by rw [← he]; exact ho)).trans h1, h2, h3⟩
section
open Go.RowKit
variable {F : Fence} {n : Nat} {P : Program}
/-- what an iterator does: it writes the block b, and lays new ones, that nobody else touches -/
def SeqT {α : Type} (F : Fence) (n : Nat) (P : Program) (g : Nat) (lb : Array Value) (encs : α → Array Value) (b : Nat) (Kp : World → World → Prop) (xs : List α) (w : World) : Prop :=
  ∀ (l : Nat) (J : (Nat → Prop) → List α → World → Prop) (W : World), Below w.heap.size w W → (∀ T s A B, J T s A → OnlyB b A B → J T s B) →
    (∀ T s A B, J T s A → Bel A B → J (fun k => T k ∨ (A.heap.size ≤ k ∧ k < B.heap.size)) s B) →
    (∀ T pre x rest A, xs = pre ++ x :: rest → J T pre A → YieldAt F (n - 1) P l (encs x) A fun e B => e = .returned (.bool true) ∧ J T (pre ++ [x]) B ∧ Kp A B ∧ ∀ k, T k → B.heap[k]? = A.heap[k]?) →
    J (fun _ => False) [] W → CallsIn F n P g (#[.func (.yield l) #[] #[]] ++ lb) W fun e B => (∃ v, e = .returned v) ∧ ∃ T, J T xs B
/-- a range over a function, where a round keeps its record and its deferred calls -/
theorem wpIn_range_rec {α : Type} {g : Operand} {ps : Array Tmp} {assign body : Code} {Q : Exit → Act → World → Prop} {a : Act} {w : World}
    (hro : F.round = none) (h1 : 1 ≤ n) {gf : Nat} {lb : Array Value} (hg : a.eval g = .func (.func gf) #[] lb) (hFg : F.fn gf) (eg : ∀ args w, (callFunc gf args).run P w = .ok (.enter gf args) w)
    {encs : α → Array Value} {kb : Nat} {Kp : World → World → Prop} {xs : List α} (hseq : SeqT F (n - 1) P gf lb encs kb Kp xs w) (hkb : kb < w.heap.size)
    (hKt : ∀ {A B D : World}, Kp A B → Kp B D → Kp A D) (hKb : ∀ (W : World) (o : Obj), Kp W (W.putObj (w.heap.size + 1) o)) (hps : ∀ x, (encs x).size = ps.size)
    (I : (Nat → Prop) → List α → World → Prop) (hIC : ∀ T s A B, I T s A → OnlyB kb A B → I T s B) (hIB : ∀ T s A B, I T s A → Bel A B → I (fun k => T k ∨ (A.heap.size ≤ k ∧ k < B.heap.size)) s B)
    (hIp : ∀ T s (A : World) (o : Obj), I T s A → w.heap.size + 1 < A.heap.size → I T s (A.putObj (w.heap.size + 1) o)) (hT : ∀ T s A k, I T s A → T k → k ≠ w.heap.size + 1)
    (h0 : ∀ r, I (fun _ => False) [] ((w.alloc (.deferred (some []))).alloc (.loop r)))
    (hround : ∀ (l : Nat) (T : Nat → Prop) (pre : List α) (x : α) (rest : List α) (W : World) (o o' : Obj), xs = pre ++ x :: rest → I T pre W → W.heap[w.heap.size + 1]? = some o → W.heap[w.heap.size]? = some o' →
      assign.wpIn (F.inRound l) (n - 1 - 1) P (Exit.then (fun a1 W1 => W1.heap[w.heap.size + 1]? = some o ∧ Kp W W1 ∧ (∀ k, T k → W1.heap[k]? = W.heap[k]?) ∧ ∀ o2,
        body.wpIn (F.inRound l) (n - 1 - 1) P (fun e _ W' => e = .normal ∧ W'.heap[w.heap.size + 1]? = some o2 ∧ W'.heap[w.heap.size]? = some o' ∧ Kp (W1.putObj (w.heap.size + 1) o2) W' ∧ (∀ k, T k → W'.heap[k]? = W1.heap[k]?) ∧ I T (pre ++ [x]) W') a1 (W1.putObj (w.heap.size + 1) o2)) (fun _ _ _ => False))
        { tmps := (ps.zip (encs x)).foldl (fun t (p, v) => t.setIfInBounds p v) a.tmps, defers := [] } W)
    (hdone : ∀ (T : Nat → Prop) (W : World), I T xs W → W.heap[w.heap.size]? = some (.deferred (some [])) → Q .normal { a with defers := { target := .collected w.heap.size, args := #[] } :: a.defers } W) :
    (Code.rangeFunc g ps assign body).wpIn F n P Q a w := by
  refine wpIn_rangeFunc ?_
  intro fn hfn
  rw [hro]
  obtain ⟨rc, hrc⟩ : ∃ rc : LoopState → Loop, rc = fun st => { state := st, pending := none, fn, tmps := a.tmps, params := ps, assign, body, defers := w.heap.size } := ⟨_, rfl⟩
  obtain ⟨V, hV⟩ : ∃ V, (w.alloc (.deferred (some []))).alloc (.loop (rc .ready)) = V := ⟨_, rfl⟩
  have vl : V.heap[w.heap.size + 1]? = some (.loop (rc .ready)) := by
    have := World.alloc_heap_new (w.alloc (.deferred (some []))) (.loop (rc .ready))
    rw [World.size_alloc] at this
    rw [← hV]; exact this
  have vd : V.heap[w.heap.size]? = some (.deferred (some [])) := by
    rw [← hV]; exact (Below.heap_alloc _ _ _ (by simp)).trans (World.alloc_heap_new w _)
  have vb : Below w.heap.size w V := by rw [← hV]; exact ((Below.refl _ w).alloc (Nat.le_refl _) _).alloc (by simp) _
  have vI : I (fun _ => False) [] V := by rw [← hV]; exact h0 _
  refine ⟨w.heap.size + 1, [{ target := .collected w.heap.size, args := #[] }], V, { target := .fn (.func gf) lb, args := #[.func (.yield (w.heap.size + 1)) #[] #[]] }, V, gf,
    #[.func (.yield (w.heap.size + 1)) #[] #[]] ++ lb, V, ?_, ?_, ?_, ?_, fun _ => h1, ?_⟩
  · rw [← hV, hrc]; exact run_enterLoop_outer _ _ _ _ _
  · simp only [resolve, hg]
    simp [go_sem]
  · intro f hf; simp [Target.leads] at hf; rw [← hf]; exact hFg
  · simp [invoke, go_sem, eg]
  · refine (hseq (w.heap.size + 1) (fun T pre W => I T pre W ∧ W.heap[w.heap.size + 1]? = some (.loop (rc .ready)) ∧ W.heap[w.heap.size]? = some (.deferred (some []))) V vb
      (fun T s A B h hAB => ⟨hIC T s A B h.1 hAB, (hAB.same _ (by omega)).trans h.2.1, (hAB.same _ (by omega)).trans h.2.2⟩)
      (fun T s A B h hAB => ⟨hIB T s A B h.1 hAB, (hAB.block _ (Array.getElem?_eq_some_iff.1 h.2.1).1).trans h.2.1, (hAB.block _ (Array.getElem?_eq_some_iff.1 h.2.2).1).trans h.2.2⟩) ?_ ⟨vI, vl, vd⟩).mono ?_
    · rintro T pre x rest W hxs ⟨hi, hl, hk⟩
      have hlt : w.heap.size + 1 < W.heap.size := (Array.getElem?_eq_some_iff.1 hl).1
      have hy := run_yield (P := P) (args := encs x) hl (by rw [hrc]; exact hps x)
      rw [hrc] at hy
      refine ⟨fn, _, assign, body, hy, roundIn_of_wpIn hfn (wpIn_mono (hround _ T pre x rest W _ _ hxs hi hl hk) ?_)⟩
      intro e a1 W1 hK
      have hn : e = .normal := by cases e <;> first | rfl | exact (show False from hK).elim
      subst hn
      obtain ⟨hl1, hK1, hT1, hb⟩ := hK
      refine ⟨_, run_beginRound hl1 (by rw [hrc]), ?_⟩
      refine wpIn_mono (hb _) ?_
      rintro e a3 Z ⟨rfl, zl, zd, zK, zT, zI⟩
      have hr := run_endRound (P := P) none zl
      rw [hrc] at hr
      have zlt : w.heap.size + 1 < Z.heap.size := (Array.getElem?_eq_some_iff.1 zl).1
      refine ⟨_, _, hr, rfl, ⟨hIp _ _ _ _ zI zlt, ?_, ?_⟩, hKt (hKt (hKt hK1 (hKb _ _)) zK) (hKb _ _), fun k hk => (World.putObj_heap_other (hT _ _ _ k hi hk)).trans ((zT k hk).trans (hT1 k hk))⟩
      · rw [hrc]; exact World.putObj_heap_same zlt
      · exact (World.putObj_heap_other (by omega)).trans zd
    · rintro e Z ⟨⟨v, rfl⟩, T, zI, zl, zd⟩
      have he := run_endLoop (P := P) zl (by rw [hrc]; simp)
      rw [hrc] at he
      exact ⟨none, _, he, hdone T _ (hIp _ _ _ _ zI (Array.getElem?_eq_some_iff.1 zl).1) ((World.putObj_heap_other (by omega)).trans zd)⟩
end
end Go.Tx

namespace Go.Tx
open Go
/-- rounds over a list -/
def loopF {α X : Type} (step : α → X → Option X) : List α → X → Option X
  | [], x => some x
  | a :: l, x => match step a x with | some y => loopF step l y | none => none
theorem loopF_append {α X : Type} (step : α → X → Option X) : ∀ (l : List α) (a : α) (m : List α) (x z : X), loopF step (l ++ a :: m) x = some z → ∃ y y', loopF step l x = some y ∧ step a y = some y' ∧ loopF step (l ++ [a]) x = some y'
  | [], a, m, x, z, h => by
    rw [List.nil_append, loopF] at h
    cases hs : step a x with
    | none => rw [hs] at h; cases h
    | some y' => exact ⟨x, y', rfl, hs, by rw [List.nil_append, loopF, hs]; rfl⟩
  | b :: l, a, m, x, z, h => by
    rw [List.cons_append, loopF] at h
    cases hs : step b x with
    | none => rw [hs] at h; cases h
    | some x1 =>
      rw [hs] at h
      obtain ⟨y, y', h1, h2, h3⟩ := loopF_append step l a m x1 z h
      exact ⟨y, y', by rw [loopF, hs]; exact h1, h2, by rw [List.cons_append, loopF, hs]; exact h3⟩
/-- a state between two rounds; blocks kb, r, r + 1 and those of T are none of its -/
def SX (w0 : World) (φ0 : Fz0) (tm : List (Nat × LV)) (ob : List Ob) (a : Act) (kb r : Nat) (T : Nat → Prop) (W : World) : Prop :=
  ∃ η, (∀ M, HR M η (heapOf ob) W) ∧ (∀ n l, (n, l) ∈ tm → ∃ v, a.tmps[n]? = some v ∧ VR η l v) ∧ Fr w0 φ0 (heapOf ob) η W ∧ (∀ k, k = kb ∨ k = r ∨ k = r + 1 ∨ T k → ¬ LB (heapOf ob) η k ∧ η.fz k = none) ∧ r + 1 < W.heap.size ∧ ∀ k, T k → r + 1 < k ∧ k < W.heap.size
theorem SX.only {w0 : World} {φ0 : Fz0} {tm : List (Nat × LV)} {ob : List Ob} {a : Act} {kb r b : Nat} {T : Nat → Prop} {A B : World} (h : SX w0 φ0 tm ob a kb r T A) (hb : OnlyB b A B) (hbb : b = kb ∨ b = r ∨ b = r + 1) (h0 : w0.heap.size ≤ b) (hk : ∀ o, ¬ φ0.K b o) : SX w0 φ0 tm ob a kb r T B := by
  obtain ⟨η, h1, h2, h3, h4, h5, h6⟩ := h
  obtain ⟨g1, g2⟩ := h4 b (hbb.imp id (Or.imp id .inl))
  exact ⟨η, fun M => (h1 M).only hb g1 g2, h2, h3.only hb h0 hk, h4, by rw [hb.size]; exact h5, fun k hk => by rw [hb.size]; exact h6 k hk⟩
theorem HR.grow {M : Nat} {η : Emb} {H : LH} {A B : World} (h : HR M η H A) (hb : Bel A B) : HR M η H B where
  dom := h.dom
  lt := h.lt
  live k ob hk := (h.live k ob hk).move (Emb.le_refl _) rfl hb.size fun L hL => hb.block _ ((h.live k ob hk).lt hL)
  inj := h.inj
  fz k ob hk := by rw [hb.block k (Array.getElem?_eq_some_iff.1 (h.fz k ob hk)).1]; exact h.fz k ob hk
  sep := h.sep
  ok := h.ok
theorem Fr.grow {w0 : World} {φ0 : Fz0} {H : LH} {η : Emb} {A B : World} (h : Fr w0 φ0 H η A) (hb : Bel A B) : Fr w0 φ0 H η B where
  size := Nat.le_trans h.size hb.size
  same k hlt := (hb.block k (Nat.lt_of_lt_of_le hlt h.size)).trans (h.same k hlt)
  lb := h.lb
  fz0 := h.fz0
  fzn := h.fzn
  os := hb.os.trans h.os
  tape := hb.tape.trans h.tape
  output := hb.output.trans h.output
  drawn := Nat.le_trans h.drawn hb.mono
  kp k o ho := by
    obtain ⟨h1, h2, h3⟩ := h.kp k o ho
    exact ⟨(hb.block k (Array.getElem?_eq_some_iff.1 h1).1).trans h1, h2, h3⟩
theorem SX.grow {w0 : World} {φ0 : Fz0} {tm : List (Nat × LV)} {ob : List Ob} {a : Act} {kb r : Nat} {T : Nat → Prop} {A B : World} (h : SX w0 φ0 tm ob a kb r T A) (hb : Bel A B) : SX w0 φ0 tm ob a kb r (fun k => T k ∨ (A.heap.size ≤ k ∧ k < B.heap.size)) B := by
  obtain ⟨η, h1, h2, h3, h4, h5, h6⟩ := h
  refine ⟨η, fun M => (h1 M).grow hb, h2, h3.grow hb, fun k hk => ?_, Nat.lt_of_lt_of_le h5 hb.size, fun k hk => ?_⟩
  · rcases hk with hk | hk | hk | hk | ⟨hk, _⟩
    · exact h4 k (.inl hk)
    · exact h4 k (.inr (.inl hk))
    · exact h4 k (.inr (.inr (.inl hk)))
    · exact h4 k (.inr (.inr (.inr hk)))
    · refine ⟨fun ⟨j, ob', L, hj, hL, he⟩ => ?_, ?_⟩
      · have := ((h1 0).live j ob' hj).lt hL; omega
      · cases hf : η.fz k with
        | none => rfl
        | some o => have := (Array.getElem?_eq_some_iff.1 ((h1 0).fz k o hf)).1; omega
  · rcases hk with hk | ⟨hk, hk2⟩
    · obtain ⟨g1, g2⟩ := h6 k hk
      exact ⟨g1, Nat.lt_of_lt_of_le g2 hb.size⟩
    · exact ⟨by omega, hk2⟩
theorem wpIn_n {F : Fence} {P : Program} {c : Code} {Q : Exit → Act → World → Prop} {a : Act} {w : World} (hd : F.depth = none) {n m : Nat} (h : c.wpIn F n P Q a w) : c.wpIn F m P Q a w := fun b k cs hro hb _ => h b k cs hro hb fun d hd' => by rw [hd] at hd'; cases hd'
section
variable {P : Program} {N : Nat} {w0 : World} {φ0 : Fz0} {Q : Exit → Act → World → Prop}
/-- a round: what the assignments make of an element and a state, and the body of that -/
def step2 {α X Z : Type} (A : α → X → Option Z) (B : Z → Option X) (x : α) (y : X) : Option X := Option.bind (A x y) B
theorem range_core {α X Z : Type} {g : Operand} {ps : Array Tmp} {assign body : Code} {a : Act} {w : World} {gf kb : Nat} {lb : Array Value} {encs : α → Array Value} {xs : List α} {A : α → X → Option Z} {B : Z → Option X} {S1 : Z → St} {x0 z : X} {tmE : X → List (Nat × LV)} {keys : List Nat} {obs : X → List Ob} {xp : α → List (Nat × LV)} {ψ : Nat → Option Obj}
    (hkeys : ∀ y n l, (n, l) ∈ tmE y → n ∈ keys) (hg : a.eval g = .func (.func gf) #[] lb) (eg : ∀ args w, (callFunc gf args).run P w = .ok (.enter gf args) w)
    (hseq : SeqT Fence.wide 3 P gf lb encs kb (fun A B => B.heap[kb]? = A.heap[kb]? ∧ ∀ k ob, ψ k = some ob → A.heap[k]? = some ob → B.heap[k]? = some ob) xs w) (hkb : kb < w.heap.size) (hkb0 : w0.heap.size ≤ kb) (hkK : ∀ o, ¬ φ0.K kb o) (hps : ∀ x, (encs x).size = ps.size)
    (hD : φ0.D = a.defers)
    (hE : ∃ η, (∀ M, HR M η (heapOf (obs x0)) w) ∧ (∀ n l, (n, l) ∈ tmE x0 → ∃ v, a.tmps[n]? = some v ∧ VR η l v) ∧ Fr w0 φ0 (heapOf (obs x0)) η w ∧ ¬ LB (heapOf (obs x0)) η kb ∧ η.fz kb = none ∧ ∀ k ob, ψ k = some ob → η.fz k = some ob)
    (hxp : ∀ (x : α) (t : Array Value), N ≤ t.size → N ≤ ((ps.zip (encs x)).foldl (fun t (p, v) => t.setIfInBounds p v) t).size ∧ (∀ n l, (n, l) ∈ xp x → ∃ v, ((ps.zip (encs x)).foldl (fun t (p, v) => t.setIfInBounds p v) t)[n]? = some v ∧ ∀ η, VR η l v) ∧ ∀ n, n ∈ keys → ((ps.zip (encs x)).foldl (fun t (p, v) => t.setIfInBounds p v) t)[n]? = t[n]?)
    (hassign : ∀ (l : Nat) (V : Nat → Value → Prop) (φ' : Fz0) (Q : Exit → Act → World → Prop) x y z, A x y = some z → φ'.D = [] → (∀ n v, V n v → n ∈ keys) → CnI V w0 φ' N (S1 z) Q .normal → RunI l P V w0 φ' N assign ⟨xp x ++ tmE y, obs y⟩ Q)
    (hbody : ∀ (l : Nat) (V : Nat → Value → Prop) (φ' : Fz0) (Q : Exit → Act → World → Prop) z y', B z = some y' → φ'.D = [] → (∀ n v, V n v → n ∈ keys) → CnI V w0 φ' N ⟨tmE y', obs y'⟩ Q .normal → RunI l P V w0 φ' N body (S1 z) Q)
    (hz : loopF (step2 A B) xs x0 = some z)
    (hN : N ≤ a.tmps.size) (hkv : ∀ n, n ∈ keys → ∃ v, a.tmps[n]? = some v)
    (hk : ∀ a' W, SS w0 ⟨φ0.φ, fun k o => φ0.K k o ∨ (k = w.heap.size ∧ o = .deferred (some [])), ⟨.collected w.heap.size, #[]⟩ :: φ0.D⟩ N ⟨tmE z, obs z⟩ a' W → Q .normal a' W) :
    (Code.rangeFunc g ps assign body).wp P Q a w := by
  obtain ⟨η0, e1, e2, e3, e4, e5, e6⟩ := hE
  have e7 : Fr w0 ⟨η0.fz, φ0.K, φ0.D⟩ (heapOf (obs x0)) η0 w := ⟨e3.size, e3.same, e3.lb, fun _ _ h => h, fun _ _ h => .inl h, e3.os, e3.tape, e3.output, e3.drawn, e3.kp⟩
  have hKlt : ∀ k o, φ0.K k o → k < w.heap.size := fun k o h => (Array.getElem?_eq_some_iff.1 (e3.kp k o h).1).1
  have hsz := e3.size
  have hLlt : ∀ k, LB (heapOf (obs x0)) η0 k → k < w.heap.size := fun k ⟨b, ob, L, h1, h2, h3⟩ => by rw [← h3]; exact ((e1 0).live b ob h1).lt h2
  have hflt : ∀ k ob, η0.fz k = some ob → k < w.heap.size := fun k ob h => (Array.getElem?_eq_some_iff.1 ((e1 0).fz k ob h)).1
  have hnone : ∀ k, w.heap.size ≤ k → η0.fz k = none := fun k hk => by
    cases h : η0.fz k with
    | none => rfl
    | some ob => have := hflt k ob h; omega
  refine wpIn_wide.1 (wpIn_range_rec (F := Fence.wide) (n := 4) rfl (by decide) hg trivial eg hseq hkb (fun h k => ⟨k.1.trans h.1, fun j ob hj hA => k.2 j ob hj (h.2 j ob hj hA)⟩) (fun W o => ⟨World.putObj_heap_other (by omega), fun j ob hj hA => (World.putObj_heap_other (by have := hflt j ob (e6 j ob hj); omega)).trans hA⟩) hps
    (fun T pre W => ∃ y, loopF (step2 A B) pre x0 = some y ∧ SX w0 ⟨η0.fz, φ0.K, φ0.D⟩ (tmE y) (obs y) a kb w.heap.size T W)
    (fun T s A B ⟨y, h1, h2⟩ h => ⟨y, h1, h2.only h (.inl rfl) hkb0 hkK⟩) (fun T s A B ⟨y, h1, h2⟩ h => ⟨y, h1, h2.grow h⟩)
    (fun T s A o ⟨y, h1, h2⟩ hl => ⟨y, h1, h2.only (OnlyB.put A _ o) (.inr (.inr rfl)) (by omega) fun o h => by have := hKlt _ _ h; omega⟩)
    (fun T s A k ⟨y, h1, η, _, _, _, _, _, h6⟩ hk => by have := (h6 k hk).1; omega)
    ?_ ?_ ?_)
  · intro r
    refine ⟨x0, rfl, η0, fun M => ?_, e2, ?_, fun k hk => ?_, by simp, fun k hk => hk.elim⟩
    · exact (e1 M).grow (((Bel.refl w).alloc _).alloc _)
    · exact e7.grow (((Bel.refl w).alloc _).alloc _)
    · rcases hk with rfl | rfl | rfl | hk
      · exact ⟨e4, e5⟩
      · exact ⟨fun h => by have := hLlt _ h; omega, hnone _ (Nat.le_refl _)⟩
      · exact ⟨fun h => by have := hLlt _ h; omega, hnone _ (by omega)⟩
      · exact hk.elim
  · rintro l T pre x rest W o o' hxs ⟨y, hy, η, f1, f2, f3, f4, f5, f6⟩ hl hd
    obtain ⟨y1, y', g1, g2, g3⟩ := loopF_append (step2 A B) pre x rest x0 z (by rw [← hxs]; exact hz)
    rw [hy] at g1; injection g1 with g1; subst g1
    obtain ⟨z1, hA, hB⟩ := Option.bind_eq_some_iff.1 g2
    have hkW : kb < W.heap.size := by omega
    obtain ⟨q, hq⟩ : ∃ q, W.heap[kb]? = some q := ⟨_, Array.getElem?_eq_getElem hkW⟩
    obtain ⟨c1, c2, c3⟩ := hxp x a.tmps hN
    let φA : Obj → Fz0 := fun o => ⟨η0.fz, fun k u => φ0.K k u ∨ (k = kb ∧ u = q) ∨ (k = w.heap.size ∧ u = o') ∨ (k = w.heap.size + 1 ∧ u = o) ∨ (T k ∧ W.heap[k]? = some u), []⟩
    have hSS : SS w0 (φA o) N ⟨xp x ++ tmE y, obs y⟩ { tmps := (ps.zip (encs x)).foldl (fun t (p, v) => t.setIfInBounds p v) a.tmps, defers := [] } W := by
      refine ⟨⟨η, f1, fun n lv hn => ?_, ⟨f3.size, f3.same, f3.lb, f3.fz0, f3.fzn, f3.os, f3.tape, f3.output, f3.drawn, fun k u hu => ?_⟩⟩, c1, rfl⟩
      · rcases List.mem_append.1 hn with hn | hn
        · obtain ⟨v, v1, v2⟩ := c2 n lv hn
          exact ⟨v, v1, v2 η⟩
        · obtain ⟨u, u1, u2⟩ := f2 n lv hn
          exact ⟨u, (c3 n (hkeys y n lv hn)).trans u1, u2⟩
      · rcases hu with hu | ⟨rfl, rfl⟩ | ⟨rfl, rfl⟩ | ⟨rfl, rfl⟩ | ⟨hu, hu2⟩
        · exact f3.kp k u hu
        · exact ⟨hq, f4 k (.inl rfl)⟩
        · exact ⟨hd, f4 _ (.inr (.inl rfl))⟩
        · exact ⟨hl, f4 _ (.inr (.inr (.inl rfl)))⟩
        · exact ⟨hu2, f4 k (.inr (.inr (.inr hu)))⟩
    have hKT : KT (fun n v => n ∈ keys ∧ a.tmps[n]? = some v) { tmps := (ps.zip (encs x)).foldl (fun t (p, v) => t.setIfInBounds p v) a.tmps, defers := [] } := by
      rintro n v ⟨hn, hv⟩
      exact (c3 n hn).trans hv
    refine wpIn_n rfl (wpIn_mono (hassign l (fun n v => n ∈ keys ∧ a.tmps[n]? = some v) (φA o) (Exit.then (fun a1 W1 => SS w0 (φA o) N (S1 z1) a1 W1 ∧ KT (fun n v => n ∈ keys ∧ a.tmps[n]? = some v) a1) (fun _ _ _ => False)) x y z1 hA rfl (fun n v h => h.1) (fun a' W' hs hv => ⟨hs, hv⟩) _ W hSS hKT) ?_)
    intro e a1 W1 hK
    have hn : e = .normal := by cases e <;> first | rfl | exact (show False from hK).elim
    subst hn
    obtain ⟨hs1, hk1⟩ := hK
    obtain ⟨⟨η1, r1, r2, r3⟩, r4, r5⟩ := hs1
    obtain ⟨k1, k2, k3⟩ := r3.kp kb q (.inr (.inl ⟨rfl, rfl⟩))
    obtain ⟨k4, k5, k6⟩ := r3.kp w.heap.size o' (.inr (.inr (.inl ⟨rfl, rfl⟩)))
    obtain ⟨k7, k8, k9⟩ := r3.kp (w.heap.size + 1) o (.inr (.inr (.inr (.inl ⟨rfl, rfl⟩))))
    have kT : ∀ k, T k → W1.heap[k]? = W.heap[k]? ∧ ¬ LB (heapOf (S1 z1).ob) η1 k ∧ η1.fz k = none := fun k hk => by
      obtain ⟨u, hu⟩ : ∃ u, W.heap[k]? = some u := ⟨_, Array.getElem?_eq_getElem (f6 k hk).2⟩
      obtain ⟨s1, s2, s3⟩ := r3.kp k u (.inr (.inr (.inr (.inr ⟨hk, hu⟩))))
      exact ⟨s1.trans hu.symm, s2, s3⟩
    refine ⟨k7, ⟨k1.trans hq.symm, fun k ob hψ _ => (r1 0).fz k ob (r3.fz0 k ob (e6 k ob hψ))⟩, fun k hk => (kT k hk).1, fun o2 => ?_⟩
    have hlt1 : w.heap.size + 1 < W1.heap.size := (Array.getElem?_eq_some_iff.1 k7).1
    have hob := OnlyB.put W1 (w.heap.size + 1) o2
    have hSS2 : SS w0 (φA o2) N (S1 z1) a1 (W1.putObj (w.heap.size + 1) o2) := by
      refine ⟨⟨η1, fun M => (r1 M).only hob k8 k9, r2, ⟨by rw [hob.size]; exact r3.size, fun k hk => (hob.same k (by omega)).trans (r3.same k hk), r3.lb, r3.fz0, r3.fzn, hob.os.trans r3.os, hob.tape.trans r3.tape, hob.output.trans r3.output, by rw [hob.drawn]; exact r3.drawn, fun k u hu => ?_⟩⟩, r4, r5⟩
      rcases hu with hu | ⟨rfl, rfl⟩ | ⟨rfl, rfl⟩ | ⟨rfl, rfl⟩ | ⟨hu, hu2⟩
      · obtain ⟨s1, s2, s3⟩ := r3.kp k u (.inl hu)
        exact ⟨(hob.same k (by have := hKlt _ _ hu; omega)).trans s1, s2, s3⟩
      · exact ⟨(hob.same k (by omega)).trans k1, k2, k3⟩
      · exact ⟨(hob.same _ (by omega)).trans k4, k5, k6⟩
      · exact ⟨World.putObj_heap_same hlt1, k8, k9⟩
      · obtain ⟨s1, s2, s3⟩ := kT k hu
        exact ⟨(hob.same k (by have := (f6 k hu).1; omega)).trans (s1.trans hu2), s2, s3⟩
    refine wpIn_n rfl (hbody l (fun n v => n ∈ keys ∧ a.tmps[n]? = some v) (φA o2) _ z1 y' hB rfl (fun n v h => h.1) (fun a' W' hs hv => ?_) a1 _ hSS2 hk1)
    obtain ⟨⟨η', t1, t2, t3⟩, _, _⟩ := hs
    obtain ⟨m1, m2, m3⟩ := t3.kp kb q (.inr (.inl ⟨rfl, rfl⟩))
    obtain ⟨m4, m5, m6⟩ := t3.kp w.heap.size o' (.inr (.inr (.inl ⟨rfl, rfl⟩)))
    obtain ⟨m7, m8, m9⟩ := t3.kp (w.heap.size + 1) o2 (.inr (.inr (.inr (.inl ⟨rfl, rfl⟩))))
    have mT : ∀ k, T k → W'.heap[k]? = W1.heap[k]? ∧ ¬ LB (heapOf (obs y')) η' k ∧ η'.fz k = none := fun k hk => by
      obtain ⟨u, hu⟩ : ∃ u, W.heap[k]? = some u := ⟨_, Array.getElem?_eq_getElem (f6 k hk).2⟩
      obtain ⟨s1, s2, s3⟩ := t3.kp k u (.inr (.inr (.inr (.inr ⟨hk, hu⟩))))
      exact ⟨s1.trans (hu.symm.trans (kT k hk).1.symm), s2, s3⟩
    refine ⟨rfl, m7, m4, ⟨m1.trans ((hob.same kb (by omega)).trans k1).symm, fun k ob hψ _ => (t1 0).fz k ob (t3.fz0 k ob (e6 k ob hψ))⟩, fun k hk => (mT k hk).1, y', g3, η', t1, fun n lv hn => ?_, ⟨t3.size, t3.same, t3.lb, t3.fz0, t3.fzn, t3.os, t3.tape, t3.output, t3.drawn, fun k u hu => t3.kp k u (.inl hu)⟩, fun k hk => ?_, (Array.getElem?_eq_some_iff.1 m7).1, fun k hk => ⟨(f6 k hk).1, by
      obtain ⟨u, hu⟩ : ∃ u, W.heap[k]? = some u := ⟨_, Array.getElem?_eq_getElem (f6 k hk).2⟩
      exact (Array.getElem?_eq_some_iff.1 ((mT k hk).1.trans ((kT k hk).1.trans hu))).1⟩⟩
    · obtain ⟨v, v1, v2⟩ := t2 n lv hn
      have hkn := hkeys y' n lv hn
      obtain ⟨u, u1⟩ := hkv n hkn
      have := hv n u ⟨hkn, u1⟩
      rw [v1] at this; injection this with this; subst this
      exact ⟨v, u1, v2⟩
    · rcases hk with rfl | rfl | rfl | hk
      · exact ⟨m2, m3⟩
      · exact ⟨m5, m6⟩
      · exact ⟨m8, m9⟩
      · exact (mT k hk).2
  · rintro T W ⟨y, hy, η, f1, f2, f3, f4, f5, f6⟩ hd
    rw [hz] at hy; injection hy with hy; subst hy
    refine hk _ W ⟨⟨η, f1, f2, ⟨f3.size, f3.same, f3.lb, fun k ob h => f3.fz0 k ob (e3.fz0 k ob h), fun k ob h => (f3.fzn k ob h).elim (e3.fzn k ob) .inr, f3.os, f3.tape, f3.output, f3.drawn, fun k o h => ?_⟩⟩, hN, by rw [hD]⟩
    rcases h with h | ⟨rfl, rfl⟩
    · exact f3.kp k o h
    · obtain ⟨h1, h2⟩ := f4 w.heap.size (.inr (.inl rfl))
      exact ⟨hd, h1, h2⟩
/-- an iterator over one variable of its own -/
def IterOK (P : Program) {α : Type} (gf : Nat) (cs0 : List LV) (encs : α → Array Value) (xs : List α) : Prop :=
  ∀ (w : World) (η : Emb) (L : Loc), At η w cs0 L → (∀ k ob, η.fz k = some ob → w.heap[k]? = some ob) → SeqT Fence.wide 3 P gf #[.pointer (some ⟨L.block, L.base + 0, none⟩)] encs L.block (fun A B => B.heap[L.block]? = A.heap[L.block]? ∧ ∀ k ob, η.fz k = some ob → A.heap[k]? = some ob → B.heap[k]? = some ob) xs w
/-- what is frozen, kept, deferred after a range -/
def Later (w0 : World) (φ0 φ' : Fz0) : Prop := ∃ d, w0.heap.size ≤ d ∧ φ' = ⟨φ0.φ, fun k o => φ0.K k o ∨ (k = d ∧ o = .deferred (some [])), ⟨.collected d, #[]⟩ :: φ0.D⟩
theorem run_range {α X Z : Type} {g : Operand} {ps : Array Tmp} {assign body : Code} {gf b0 : Nat} {cs0 : List LV} {encs : α → Array Value} {xs : List α} {A : α → X → Option Z} {B : Z → Option X} {S1 : Z → St} {x0 z : X} {tm : List (Nat × LV)} {tmE : X → List (Nat × LV)} {keys : List Nat} {ob : List Ob} {obs : X → List Ob} {xp : α → List (Nat × LV)} {ks : List Nat}
    (hkeys : ∀ y n l, (n, l) ∈ tmE y → n ∈ keys) (hkeys0 : keys.all (fun n => (tmE x0).any fun p => Nat.beq n p.1) = true) (hgx : stev ⟨tm, ob⟩ g = .fn gf [.ptr b0 0]) (hob : ob[b0]? = some (.cells cs0)) (hnum : tnum (dropTm ks tm) (heapOf ob) some = some ⟨tmE x0, obs x0⟩)
    (hb0 : memB (reach (heapOf ob) 1000 ((dropTm ks tm).flatMap fun p => refs1 p.2) []) b0 = false)
    (eg : ∀ args w, (callFunc gf args).run P w = .ok (.enter gf args) w) (hit : IterOK P gf cs0 encs xs) (hps : ∀ x, (encs x).size = ps.size)
    (hxp : ∀ (x : α) (t : Array Value), N ≤ t.size → N ≤ ((ps.zip (encs x)).foldl (fun t (p, v) => t.setIfInBounds p v) t).size ∧ (∀ n l, (n, l) ∈ xp x → ∃ v, ((ps.zip (encs x)).foldl (fun t (p, v) => t.setIfInBounds p v) t)[n]? = some v ∧ ∀ η, VR η l v) ∧ ∀ n, n ∈ keys → ((ps.zip (encs x)).foldl (fun t (p, v) => t.setIfInBounds p v) t)[n]? = t[n]?)
    (hassign : ∀ (l : Nat) (V : Nat → Value → Prop) (φ' : Fz0) (Q : Exit → Act → World → Prop) x y z, A x y = some z → φ'.D = [] → (∀ n v, V n v → n ∈ keys) → CnI V w0 φ' N (S1 z) Q .normal → RunI l P V w0 φ' N assign ⟨xp x ++ tmE y, obs y⟩ Q)
    (hbody : ∀ (l : Nat) (V : Nat → Value → Prop) (φ' : Fz0) (Q : Exit → Act → World → Prop) z y', B z = some y' → φ'.D = [] → (∀ n v, V n v → n ∈ keys) → CnI V w0 φ' N ⟨tmE y', obs y'⟩ Q .normal → RunI l P V w0 φ' N body (S1 z) Q)
    (hz : loopF (step2 A B) xs x0 = some z)
    (hk : ∀ φ', Later w0 φ0 φ' → Cn w0 φ' N ⟨tmE z, obs z⟩ Q .normal) : Run P w0 φ0 N (.rangeFunc g ps assign body) ⟨tm, ob⟩ Q := by
  intro a w hs
  have hs0 := hs
  obtain ⟨⟨η, h1, h2, h3⟩, h4, h5⟩ := hs
  have hv : VR η (.fn gf [.ptr b0 0]) (a.eval g) := by
    have hx := xev_ok (η := η) (t := memOf tm .lf) (a := a) (fun n l hl => by
      rcases get_memOf tm .lf n l hl with h6 | h6
      · exact h2 n l h6
      · rw [Tr.get_lf] at h6; cases h6) g
    rwa [show xev (memOf tm .lf) g = .fn gf [.ptr b0 0] from hgx] at hx
  generalize hge : a.eval g = gv at hv
  cases hv with
  | fn hl hh =>
    obtain ⟨v, rfl, hp⟩ := vrs1 ⟨hl, hh⟩
    cases hp with
    | ptr hL =>
      rename_i L
      have hget : (heapOf ob).get b0 = some (.cells cs0) := by rw [get_heapOf]; exact hob
      have hat := ((h1 0).live b0 _ hget).at hL
      have hlb : LB (heapOf ob) η L.block := ⟨b0, _, L, hget, hL, rfl⟩
      unfold tnum at hnum
      generalize hρ : reach (heapOf ob) 1000 ((dropTm ks tm).flatMap fun p => refs1 p.2) [] = ρ at hnum hb0
      simp only at hnum
      rw [Bool.cond_eq_ite] at hnum
      split at hnum
      · rename_i hn
        split at hnum
        · rename_i tm' obs' g1 g2
          injection hnum with hnum
          injection hnum with q1 q2
          subst q1; subst q2
          obtain ⟨_, e2⟩ := renObs_get ρ g2
          have hE2 : ∀ n l', (n, l') ∈ tmE x0 → ∃ v, a.tmps[n]? = some v ∧ VR (η.sub ρ) l' v := fun n l' hl' => by
            obtain ⟨l, m1, m2⟩ := renTm_mem _ g1 n l' hl'
            obtain ⟨u, u1, u2⟩ := h2 n l (dropTm_mem ks tm _ m1)
            exact ⟨u, u1, ren_ok ρ m2 u2⟩
          refine range_core (ψ := η.fz) hkeys hge eg (hit w η L hat (h1 0).fz) hat.lt (h3.lb _ hlb) (fun o ho => (h3.kp _ o ho).2.1 hlb) hps h5.symm
            ⟨η.sub ρ, hr_sub hn g2 (h1 0), hE2, fr_sub g2 h3, fun ⟨j, ob', L', hj, hL', hk'⟩ => ?_, (h1 0).sep _ hlb, fun k ob h => h⟩ hxp hassign hbody hz h4 (fun n hn => by
              have := List.all_eq_true.1 hkeys0 n hn
              obtain ⟨⟨n', l⟩, m1, m2⟩ := List.any_eq_true.1 this
              obtain rfl := Nat.eq_of_beq_eq_true m2
              obtain ⟨v, v1, _⟩ := hE2 _ l m1
              exact ⟨v, v1⟩) (fun a' W hss => hk _ ⟨_, h3.size, rfl⟩ a' W hss)
          · rw [get_heapOf] at hj
            obtain ⟨n, ob1, m1, m2, m3⟩ := e2 j ob' hj
            have hLn : η.loc n = some L' := by unfold Emb.sub at hL'; simpa only [m1, Option.bind_some] using hL'
            have : n = b0 := (h1 0).inj n b0 _ _ _ _ m2 hget hLn hL hk'
            subst this
            rw [memB_iff.2 (List.mem_of_getElem? m1)] at hb0
            cases hb0
        · cases hnum
      · cases hnum
/-- what holds where a body that has a range ends -/
def EndM (T : Tys) (w0 : World) (φ0 : Fz0) (N : Nat) (rs : List ResultVar) (out : LV × List Ob) (Q : Exit → Act → World → Prop) : Prop :=
  End T w0 φ0 N rs out Q ∧ ∀ φ', Later w0 φ0 φ' → End T w0 φ' N rs out Q
theorem cok_marks {T : Tys} (hT : TysOK P T) {S : Spec} {fn : Func} {c : Code} (hfn : P.funcs[S.g]? = some fn) (hc : fn.body = some c) (hname : ¬ fn.name = "runtime.NumGoroutine")
    (h : ∀ x r, S.F x = some r → ∀ w0 φ0 Q, EndM T w0 φ0 fn.ntmps fn.results.toList (S.enc r) Q → Run P w0 φ0 fn.ntmps c ⟨nums 0 (argsOf S.τs x), []⟩ Q) : COK P S := by
  refine ⟨fun x r hx w φ vs hφ hv => ?_, fn, c, hfn, hc, hname⟩
  refine callsIn_wide.1 (callsIn_of_wp_marks (n := 0) hfn hc trivial (wpIn_wide.2 ?_) rfl)
  have plain : ∀ s, tfin T fn.results.toList s = some (S.enc r) → ∀ a w', SS w (noK φ) fn.ntmps s a w' → LeavesInM Fence.wide 0 P fn a.tmps (fun e w' => ∃ v' η', e = .returned v' ∧ VR η' (S.enc r).1 v' ∧ (∀ M, HR M η' (heapOf (S.enc r).2) w') ∧ Fr w (noK φ) (heapOf (S.enc r).2) η' w') [] .returning w' := fun s hs a w' hss =>
    (fin_ok (S := S) (r := r) hT hs a w' hss).2
  have e1 : ∀ s, tfin T fn.results.toList s = some (S.enc r) → ∀ a w', SS w (noK φ) fn.ntmps s a w' → LeavesInM Fence.wide 0 P fn a.tmps (fun e w' => ∃ v' η', e = .returned v' ∧ VR η' (S.enc r).1 v' ∧ (∀ M, HR M η' (heapOf (S.enc r).2) w') ∧ Fr w (noK φ) (heapOf (S.enc r).2) η' w') a.defers .returning w' := fun s hs a w' hss => by
    rw [hss.defers]; exact plain s hs a w' hss
  have e2 : ∀ φ', Later w (noK φ) φ' → ∀ s, tfin T fn.results.toList s = some (S.enc r) → ∀ a w', SS w φ' fn.ntmps s a w' → LeavesInM Fence.wide 0 P fn a.tmps (fun e w' => ∃ v' η', e = .returned v' ∧ VR η' (S.enc r).1 v' ∧ (∀ M, HR M η' (heapOf (S.enc r).2) w') ∧ Fr w (noK φ) (heapOf (S.enc r).2) η' w') a.defers .returning w' := by
    rintro φ' ⟨d, hd, rfl⟩ s hs a w' hss
    rw [hss.defers]
    obtain ⟨η, h1, h2, h3⟩ := hss.emb
    obtain ⟨k1, k2, k3⟩ := h3.kp d _ (.inr ⟨rfl, rfl⟩)
    have hb := OnlyB.put w' d (.deferred none)
    have h3' : Fr w (noK φ) (heapOf s.ob) η w' := ⟨h3.size, h3.same, h3.lb, h3.fz0, h3.fzn, h3.os, h3.tape, h3.output, h3.drawn, fun k o h => h.elim⟩
    refine ⟨by simp, .inl ⟨d, _, rfl, run_takeDeferred k1, ?_⟩⟩
    exact plain s hs { a with defers := [] } _ ⟨⟨η, fun M => (h1 M).only hb k2 k3, h2, h3'.only hb hd fun o h => h⟩, hss.size, rfl⟩
  refine h x r hx w (noK φ) _ ⟨fun s hs => ⟨fun a w' hss => e1 s hs a w' hss, fun a w' hss => e1 s hs a w' hss⟩, fun φ' hl s hs => ⟨fun a w' hss => e2 φ' hl s hs a w' hss, fun a w' hss => e2 φ' hl s hs a w' hss⟩⟩ _ w ⟨⟨Emb.fro φ, hr_nil hφ, fun n l hl => ?_, fr_nil w φ⟩, ?_, rfl⟩
  · obtain ⟨_, h2⟩ := nums_mem _ 0 n l hl
    rw [Nat.sub_zero] at h2
    obtain ⟨v, e1, e2⟩ := hv.get h2
    refine ⟨v, ?_, e2⟩
    have hlt := (List.getElem?_eq_some_iff.1 e1).1
    rw [Array.getElem?_append_left (by simpa using hlt)]
    simpa using e1
  · simp; omega
end
end Go.Tx

namespace Go.Tx
open Go Go.RegC
theorem bif_none {α : Type} {c : Bool} {A : Option α} {r : α} (h : (bif c then A else none) = some r) : c = true ∧ A = some r := by
  cases c with
  | true => exact ⟨rfl, h⟩
  | false => cases h
theorem keys_at {k : List Nat} {tm : List (Nat × LV)} (hk : k = tm.map Prod.fst) {n : Nat} {l : LV} (h : (n, l) ∈ tm) : n ∈ k := by
  rw [hk]; exact List.mem_map.2 ⟨(n, l), h, rfl⟩
theorem sib_self {a : Array Value} {i : Nat} {v : Value} (h : i < a.size) : (a.setIfInBounds i v)[i]? = some v := by
  simp [Array.getElem?_setIfInBounds, h]
theorem sib_ne {a : Array Value} {i j : Nat} {v : Value} (h : Nat.beq i j = false) : (a.setIfInBounds i v)[j]? = a[j]? :=
  Array.getElem?_setIfInBounds_ne (Nat.ne_of_beq_eq_false h)
theorem cnI_num {V : Nat → Value → Prop} {w0 : World} {φ0 : Fz0} {N : Nat} {tm : List (Nat × LV)} {ob : List Ob} {s : St} {Q : Exit → Act → World → Prop} {e : Exit} (ks : List Nat) (hs : tnum (dropTm ks tm) (heapOf ob) some = some s) (h : CnI V w0 φ0 N s Q e) : CnI V w0 φ0 N ⟨tm, ob⟩ Q e := fun a w hss hv => by
  obtain ⟨s', h1, h2⟩ := num_ok hs
  injection h1 with h1; subst h1
  obtain ⟨⟨η, g1, g2, g3⟩, g4, g5⟩ := hss
  exact h a w (h2 w0 φ0 0 η w a N (g1 0) (fun n l hl => g2 n l (dropTm_mem ks tm _ hl)) g3 g4 g5) hv
theorem fold1 {p : Nat} {v : Value} {t : Array Value} : ((#[p] : Array Tmp).zip #[v]).foldl (fun t (p, v) => t.setIfInBounds p v) t = t.setIfInBounds p v := by simp
theorem fold2 {p q : Nat} {v u : Value} {t : Array Value} : ((#[p, q] : Array Tmp).zip #[v, u]).foldl (fun t (p, v) => t.setIfInBounds p v) t = (t.setIfInBounds p v).setIfInBounds q u := by simp
end Go.Tx

namespace Go.Tx
open Go Go.Sort Go.RowKit Go.Proofs Go.Shelf
theorem flatK_list2 {α : Type} [Inhabited α] (enc : α → List Value) (k : Nat) (hk : ∀ x, (enc x).length = k) : ∀ (l : List α), (flatK enc k l.toArray).toList = l.flatMap enc := by
  intro l
  have key : ∀ (l : List α) (t : Nat), t < l.length * k → (l.flatMap enc)[t]? = some ((enc l[t / k]!)[t % k]!) := by
    intro l
    induction l with
    | nil => intro t ht; simp at ht
    | cons a r ih =>
      intro t ht
      have k0 : 0 < k := by
        rcases Nat.eq_zero_or_pos k with h | h
        · subst h; simp at ht
        · exact h
      rw [List.flatMap_cons]
      by_cases hlt : t < k
      · rw [List.getElem?_append_left (by rw [hk]; exact hlt), Nat.div_eq_of_lt hlt, Nat.mod_eq_of_lt hlt]
        have : t < (enc a).length := by rw [hk]; exact hlt
        simp [this]
      · rw [List.getElem?_append_right (by rw [hk]; omega), hk]
        have h2 : t - k < r.length * k := by
          rw [List.length_cons, Nat.add_mul, Nat.one_mul] at ht; omega
        rw [ih (t - k) h2]
        have e1 : t / k = (t - k) / k + 1 := by
          have := Nat.div_eq_sub_div k0 (by omega : k ≤ t)
          omega
        have e2 : t % k = (t - k) % k := Nat.mod_eq_sub_mod (by omega)
        rw [e1, e2]
        simp
  have hlen : (l.flatMap enc).length = l.length * k := by
    induction l with
    | nil => simp
    | cons a r ih => rw [List.flatMap_cons, List.length_append, ih, hk, List.length_cons, Nat.add_mul, Nat.one_mul]; omega
  apply List.ext_getElem?
  intro t
  by_cases ht : t < l.length * k
  · rw [key l t ht]
    simp [flatK, ht]
  · rw [List.getElem?_eq_none (by simp [flatK]; omega), List.getElem?_eq_none (by rw [hlen]; omega)]
/-- equality of plain elements -/
def eqR : (τ : Row) → den τ → den τ → Bool
  | .nil, _, _ => true
  | .int _ r, x, y => x.1 == y.1 && eqR r x.2 y.2
  | .bool r, x, y => x.1 == y.1 && eqR r x.2 y.2
  | .sl _ _, _, _ => false
theorem eqR_eq : ∀ (τ : Row) (x y : den τ), eqR τ x y = true → x = y
  | .nil, _, _, _ => rfl
  | .int k r, x, y, h => by
    rw [eqR, Bool.and_eq_true, beq_iff_eq] at h
    exact Prod.ext h.1 (eqR_eq r x.2 y.2 h.2)
  | .bool r, x, y, h => by
    rw [eqR, Bool.and_eq_true, beq_iff_eq] at h
    exact Prod.ext h.1 (eqR_eq r x.2 y.2 h.2)
  | .sl _ _, _, _, h => by cases h
section
variable {τ : Row} (F : den τ × den τ × Unit → Option Int)
def cmpV (x y : den τ) : Int := match F (x, y, ()) with | some n => n | none => 0
def ltV (x y : den τ) : Bool := decide (cmpV F x y < 0)
/-- is the comparator a strict order on these? -/
def sortB (xs : List (den τ)) : Bool :=
  xs.all (fun x => xs.all fun y => (F (x, y, ())).isSome) && xs.all (fun x => !(ltV F x x)) &&
  xs.all (fun x => xs.all fun y => !(ltV F x y) || xs.all fun z => !(ltV F y z) || ltV F x z) &&
  xs.all (fun x => xs.all fun y => ltV F x y || xs.all fun z => ltV F y z || !(ltV F x z)) &&
  xs.all (fun x => xs.all fun y => ltV F x y || ltV F y x || eqR τ x y)
end
/-- sorted by putting in -/
def insL {α : Type} (lt : α → α → Bool) (x : α) : List α → List α
  | [] => [x]
  | y :: ys => bif lt x y then x :: y :: ys else y :: insL lt x ys
def sortL {α : Type} (lt : α → α → Bool) : List α → List α
  | [] => []
  | x :: xs => insL lt x (sortL lt xs)
def sortV {τ : Row} (F : den τ × den τ × Unit → Option Int) (xs : List (den τ)) : Option (List (den τ)) := bif Nat.ble xs.length 1000000 && sortB F xs then some (sortL (ltV F) xs) else none
theorem insL_perm {α : Type} (lt : α → α → Bool) (x : α) : ∀ l : List α, (insL lt x l).Perm (x :: l)
  | [] => .refl _
  | y :: ys => by
    rw [insL]
    cases lt x y with
    | true => exact .refl _
    | false => exact ((insL_perm lt x ys).cons y).trans (.swap x y ys)
theorem sortL_perm {α : Type} (lt : α → α → Bool) : ∀ l : List α, (sortL lt l).Perm l
  | [] => .refl _
  | x :: xs => by rw [sortL]; exact (insL_perm lt x _).trans ((sortL_perm lt xs).cons x)
theorem insL_pw {α : Type} {lt : α → α → Bool} {S : α → Prop} (has : ∀ a b, S a → S b → lt a b = true → lt b a = false) (hn : ∀ a b c, S a → S b → S c → lt a b = false → lt b c = false → lt a c = false) {x : α} (hx : S x) : ∀ l : List α, (∀ a ∈ l, S a) → l.Pairwise (fun a b => lt b a = false) → (insL lt x l).Pairwise (fun a b => lt b a = false)
  | [], _, _ => List.pairwise_singleton _ _
  | y :: ys, hS, hp => by
    obtain ⟨h1, h2⟩ := List.pairwise_cons.1 hp
    have hy := hS y (List.mem_cons_self ..)
    rw [insL]
    cases hl : lt x y with
    | true =>
      refine List.pairwise_cons.2 ⟨fun b hb => ?_, hp⟩
      have hyx := has x y hx hy hl
      rcases List.mem_cons.1 hb with rfl | hb
      · exact hyx
      · exact hn b y x (hS b (List.mem_cons_of_mem _ hb)) hy hx (h1 b hb) hyx
    | false =>
      refine List.pairwise_cons.2 ⟨fun b hb => ?_, insL_pw has hn hx ys (fun a ha => hS a (List.mem_cons_of_mem _ ha)) h2⟩
      rcases List.mem_cons.1 ((insL_perm lt x ys).mem_iff.1 hb) with rfl | hb
      · exact hl
      · exact h1 b hb
theorem sortL_pw {α : Type} {lt : α → α → Bool} {S : α → Prop} (has : ∀ a b, S a → S b → lt a b = true → lt b a = false) (hn : ∀ a b c, S a → S b → S c → lt a b = false → lt b c = false → lt a c = false) : ∀ l : List α, (∀ a ∈ l, S a) → (sortL lt l).Pairwise (fun a b => lt b a = false)
  | [], _ => .nil
  | x :: xs, hS => by
    rw [sortL]
    exact insL_pw has hn (hS x (List.mem_cons_self ..)) _ (fun a ha => hS a (List.mem_cons_of_mem _ ((sortL_perm lt xs).mem_iff.1 ha))) (sortL_pw has hn xs fun a ha => hS a (List.mem_cons_of_mem _ ha))
/-- plain cells and their values -/
theorem plain_val {η : Emb} : ∀ (τ : Row) (x : den τ), plainR τ = true → ∀ (j : Nat) c, (split τ x)[j]? = some c → ∀ v, VR η c v → (valsR τ x)[j]? = some v
  | .nil, _, _, j, c, hc, _, _ => by simp [split] at hc
  | .int k r, x, hp, j, c, hc, v, hv => by
    cases j with
    | zero => simp [split] at hc; subst hc; cases hv; simp [valsR]
    | succ j => rw [split, List.getElem?_cons_succ] at hc; rw [valsR, List.getElem?_cons_succ]; exact plain_val r x.2 hp j c hc v hv
  | .bool r, x, hp, j, c, hc, v, hv => by
    cases j with
    | zero => simp [split] at hc; subst hc; cases hv; simp [valsR]
    | succ j => rw [split, List.getElem?_cons_succ] at hc; rw [valsR, List.getElem?_cons_succ]; exact plain_val r x.2 hp j c hc v hv
  | .sl e r, _, hp, _, _, _, _, _ => by cases hp
theorem plain_vrs {η : Emb} : ∀ (τ : Row) (x : den τ), plainR τ = true → VRs η (split τ x) (valsR τ x)
  | .nil, _, _ => VRs.nil
  | .int k r, x, hp => VRs.cons (.int _ _) (plain_vrs r x.2 hp)
  | .bool r, x, hp => VRs.cons (.bool _) (plain_vrs r x.2 hp)
  | .sl e r, _, hp => by cases hp
theorem plain_one : ∀ (τ : Row) (x : den τ), plainR τ = true → ∀ v ∈ valsR τ x, v.oneCell' = true
  | .nil, _, _, v, hv => by simp [valsR] at hv
  | .int k r, x, hp, v, hv => by
    rw [valsR] at hv
    rcases List.mem_cons.1 hv with rfl | hv
    · rfl
    · exact plain_one r x.2 hp v hv
  | .bool r, x, hp, v, hv => by
    rw [valsR] at hv
    rcases List.mem_cons.1 hv with rfl | hv
    · rfl
    · exact plain_one r x.2 hp v hv
  | .sl e r, _, hp, _, _ => by cases hp
theorem plain_vrsL {η : Emb} {τ : Row} (hp : plainR τ = true) : ∀ xs : List (den τ), VRs η (flat τ xs) (valsL τ xs)
  | [] => VRs.nil
  | x :: xs => by rw [flat, valsL]; exact (plain_vrs τ x hp).append (plain_vrsL hp xs)
theorem plain_valL {η : Emb} {τ : Row} (hp : plainR τ = true) (xs : List (den τ)) (j : Nat) (c : LV) (hc : (flat τ xs)[j]? = some c) (v : Value) (hv : VR η c v) : (valsL τ xs)[j]? = some v := by
  have hl := (plain_vrsL (η := η) hp xs).1
  have hj : j < (valsL τ xs).length := by rw [← hl]; exact (List.getElem?_eq_some_iff.1 hc).1
  obtain ⟨u, hu⟩ : ∃ u, (valsL τ xs)[j]? = some u := ⟨_, List.getElem?_eq_getElem hj⟩
  have h2 := (plain_vrsL (η := η) hp xs).2 j c u hc hu
  obtain ⟨x, hx⟩ := mem_flat τ xs (List.mem_of_getElem? hc)
  have : u = v := by
    have hp2 : ∀ (σ : Row) (y : den σ), plainR σ = true → ∀ d ∈ split σ y, (∃ k n, d = .int k n) ∨ ∃ b, d = .bool b := by
      intro σ
      induction σ with
      | nil => intro y _ d hd; simp [split] at hd
      | int k r ih =>
        intro y hpp d hd
        rw [split] at hd
        rcases List.mem_cons.1 hd with rfl | hd
        · exact .inl ⟨_, _, rfl⟩
        · exact ih y.2 hpp d hd
      | bool r ih =>
        intro y hpp d hd
        rw [split] at hd
        rcases List.mem_cons.1 hd with rfl | hd
        · exact .inr ⟨_, rfl⟩
        · exact ih y.2 hpp d hd
      | sl e r _ _ => intro y hpp; cases hpp
    rcases hp2 τ x hp c hx with ⟨k, n, rfl⟩ | ⟨b, rfl⟩
    · cases h2; cases hv; rfl
    · cases h2; cases hv; rfl
  rw [hu, this]
theorem valsL_flatMap {τ : Row} : ∀ xs : List (den τ), valsL τ xs = xs.flatMap (valsR τ)
  | [] => rfl
  | x :: xs => by rw [valsL, List.flatMap_cons, valsL_flatMap xs]
/-- a live row is changed in place; behind the world there may be more -/
theorem adv_change {M : Nat} {H : LH} {η : Emb} {w w' : World} (h : HR M η H w) {b : Nat} {τ : Row} {xs ys : List (den τ)} (hg : H.get b = some (.rows τ xs)) (hlv : Lv η w' b (.rows τ ys)) (hs : w.heap.size ≤ w'.heap.size)
    (hother : ∀ k, k < w.heap.size → (∀ L, η.loc b = some L → k ≠ L.block) → w'.heap[k]? = w.heap[k]?) (e1 : w'.os = w.os) (e2 : w'.tape = w.tape) (e3 : w'.output = w.output) (e4 : w.drawn ≤ w'.drawn) :
    Adv M H η w (H.put b (some (.rows τ ys))) η w' := by
  have hget : ∀ x ob2, (H.put b (some (.rows τ ys))).get x = some ob2 → (x = b ∧ ob2 = .rows τ ys) ∨ (x ≠ b ∧ H.get x = some ob2) := fun x ob2 hx => by
    rw [LH.get_put] at hx
    split at hx
    · rename_i he; injection hx with hx; exact .inl ⟨he, hx.symm⟩
    · rename_i he; exact .inr ⟨he, hx⟩
  have hg0 : ∀ x ob2, (H.put b (some (.rows τ ys))).get x = some ob2 → ∃ ob0, H.get x = some ob0 := fun x ob2 hx => by
    rcases hget x ob2 hx with ⟨rfl, _⟩ | ⟨_, hg'⟩
    · exact ⟨_, hg⟩
    · exact ⟨_, hg'⟩
  have hlb : ∀ k, LB (H.put b (some (.rows τ ys))) η k → LB H η k := fun k ⟨x, ob2, L', hx, hL', hk⟩ => let ⟨ob0, hg'⟩ := hg0 _ _ hx; ⟨x, ob0, L', hg', hL', hk⟩
  refine ⟨Emb.le_refl _, fun _ _ => ⟨rfl, rfl⟩, Nat.le_refl _, ⟨h.dom, fun x ob2 hx => let ⟨_, hg'⟩ := hg0 x ob2 hx; h.lt x _ hg', fun x ob2 hx => ?_, fun b1 b2 c1 c2 L1 L2 h1 h2 f1 f2 he => ?_, fun k o2 hk => ?_, fun k hk => h.sep k (hlb k hk), h.ok⟩, hs, fun k hk hn => hother k hk fun L hL he => hn ⟨b, _, L, hg, hL, he.symm⟩,
    fun k hk => .inl (hlb k hk), fun _ _ hk => .inl hk, e1, e2, e3, e4⟩
  · rcases hget x ob2 hx with ⟨rfl, rfl⟩ | ⟨hne, hg'⟩
    · exact hlv
    · have hl := h.live x ob2 hg'
      exact hl.move (Emb.le_refl _) rfl hs fun L' hL' => hother _ (hl.lt hL') fun L hL he => hne (h.inj _ _ _ _ _ _ hg' hg hL' hL he)
  · obtain ⟨d1, g1⟩ := hg0 _ _ h1
    obtain ⟨d2, g2⟩ := hg0 _ _ h2
    exact h.inj _ _ _ _ _ _ g1 g2 f1 f2 he
  · have hk0 := h.fz k o2 hk
    rw [hother k (Array.getElem?_eq_some_iff.1 hk0).1 fun L hL he => by
      have := h.sep L.block ⟨b, _, L, hg, hL, rfl⟩
      rw [← he, hk] at this; cases this]
    exact hk0
section
variable {P : Program} {ρ : Ren}
theorem sort_swo {τ : Row} {F : den τ × den τ × Unit → Option Int} {xs : List (den τ)} (h : sortB F xs = true) :
    (∀ x ∈ xs, ∀ y ∈ xs, F (x, y, ()) = some (cmpV F x y)) ∧ SWO (ltOf fun (x y : {x : den τ // x ∈ xs}) => cmpV F x.1 y.1) ∧ ∀ x y : {x : den τ // x ∈ xs}, (ltOf fun (x y : {x : den τ // x ∈ xs}) => cmpV F x.1 y.1) x y = false → (ltOf fun (x y : {x : den τ // x ∈ xs}) => cmpV F x.1 y.1) y x = false → x = y := by
  unfold sortB at h
  simp only [Bool.and_eq_true, List.all_eq_true] at h
  obtain ⟨⟨⟨⟨h1, h2⟩, h3⟩, h4⟩, h5⟩ := h
  have e : ∀ x y : {x : den τ // x ∈ xs}, (ltOf fun (x y : {x : den τ // x ∈ xs}) => cmpV F x.1 y.1) x y = ltV F x.1 y.1 := fun _ _ => rfl
  refine ⟨fun x hx y hy => ?_, ⟨fun x => ?_, fun x y z a b => ?_, fun x y z a b => ?_⟩, fun x y a b => ?_⟩
  · have := h1 x hx y hy
    unfold cmpV
    cases hF : F (x, y, ()) with
    | none => rw [hF] at this; cases this
    | some n => rfl
  · have := h2 x.1 x.2
    rw [e]; simpa using this
  · rw [e] at a b ⊢
    have := h3 x.1 x.2 y.1 y.2
    rw [a] at this
    simp only [Bool.not_true, Bool.false_or, List.all_eq_true] at this
    have := this z.1 z.2
    rw [b] at this
    simpa using this
  · rw [e] at a b ⊢
    have := h4 x.1 x.2 y.1 y.2
    rw [a] at this
    simp only [Bool.false_or, List.all_eq_true] at this
    have := this z.1 z.2
    rw [b] at this
    simpa using this
  · rw [e] at a b
    have := h5 x.1 x.2 y.1 y.2
    rw [a, b] at this
    simp only [Bool.false_or] at this
    exact Subtype.ext (eqR_eq τ _ _ this)
theorem sort_attach {τ : Row} {F : den τ × den τ × Unit → Option Int} {xs : List (den τ)} (h : sortB F xs = true) : (xs.attach.mergeSort fun x y => !(ltOf fun (x y : {x : den τ // x ∈ xs}) => cmpV F x.1 y.1) y x).map Subtype.val = sortL (ltV F) xs := by
  obtain ⟨_, hO, hT⟩ := sort_swo h
  have e : ∀ x y : {x : den τ // x ∈ xs}, (ltOf fun (x y : {x : den τ // x ∈ xs}) => cmpV F x.1 y.1) x y = ltV F x.1 y.1 := fun _ _ => rfl
  have has : ∀ a b, a ∈ xs → b ∈ xs → ltV F a b = true → ltV F b a = false := fun a b ha hb h1 => by
    cases h2 : ltV F b a with
    | false => rfl
    | true =>
      have h3 := hO.trans ⟨a, ha⟩ ⟨b, hb⟩ ⟨a, ha⟩ h1 h2
      rw [hO.irrefl] at h3; cases h3
  have hn : ∀ a b c, a ∈ xs → b ∈ xs → c ∈ xs → ltV F a b = false → ltV F b c = false → ltV F a c = false := fun a b c ha hb hc h1 h2 => hO.ntrans ⟨a, ha⟩ ⟨b, hb⟩ ⟨c, hc⟩ h1 h2
  refine List.Perm.eq_of_pairwise (le := fun a b => ltV F b a = false) ?_ ?_ (sortL_pw (S := fun a => a ∈ xs) has hn xs fun _ h => h) ?_
  · intro a b ha hb h1 h2
    have ha' : a ∈ xs := by
      obtain ⟨c, _, rfl⟩ := List.mem_map.1 ha
      exact c.2
    have hb' : b ∈ xs := (sortL_perm (ltV F) xs).mem_iff.1 hb
    exact congrArg Subtype.val (hT ⟨a, ha'⟩ ⟨b, hb'⟩ h2 h1)
  · have hp := List.pairwise_mergeSort (le := fun x y => !(ltOf fun (x y : {x : den τ // x ∈ xs}) => cmpV F x.1 y.1) y x) (fun x y z h1 h2 => by
      simp only [Bool.not_eq_true'] at h1 h2 ⊢
      exact hO.ntrans z y x h2 h1) (fun x y => by
      simp only [Bool.or_eq_true, Bool.not_eq_true']
      cases h1 : (ltOf fun (x y : {x : den τ // x ∈ xs}) => cmpV F x.1 y.1) y x with
      | false => exact .inl rfl
      | true => exact .inr (has _ _ y.2 x.2 h1)) xs.attach
    rw [List.pairwise_map]
    exact hp.imp fun h => by simpa [e] using h
  · have h1 := ((List.mergeSort_perm xs.attach fun x y => !(ltOf fun (x y : {x : den τ // x ∈ xs}) => cmpV F x.1 y.1) y x).map Subtype.val)
    rw [List.attach_map_subtype_val] at h1
    exact h1.trans (sortL_perm (ltV F) xs).symm
theorem bel_ext' {w w' : World} (h : Bel w w') : ∃ q os', w' = grow (w.drewN q) os' := by
  obtain ⟨x, rfl⟩ := ext_of h
  exact ⟨x.drawn, x.objs, by unfold ext grow World.drewN; rfl⟩
theorem putRow_size (w : World) (m blk off : Nat) (Fv : Array Value) (os : Array Obj) : w.heap.size ≤ (grow (putRow id (Sort.ahead w m) blk off Fv) os).heap.size := by
  simp [grow, putRow, mapBlock, Sort.ahead]
theorem putRow_other (w : World) (m blk off : Nat) (Fv : Array Value) (os : Array Obj) (k : Nat) (hk : k < w.heap.size) (hne : k ≠ blk) : (grow (putRow id (Sort.ahead w m) blk off Fv) os).heap[k]? = w.heap[k]? := by
  simp only [grow]
  rw [Array.getElem?_append_left (by simpa [putRow, mapBlock, Sort.ahead] using hk)]
  simp [putRow, mapBlock, Sort.ahead, Array.getElem?_modify, Ne.symm hne]
theorem sort_sound (L : SlLaysF0.n6 P ρ) {τ : Row} (hp : plainR τ = true) (aE : ∀ w, (isAgg (ρ.t 24)).run P w = .ok true w) (zE : ∀ w, (Go.sizeOf (ρ.t 24)).run P w = .ok τ.size w) {g : FuncId} {F : den τ × den τ × Unit → Option Int}
    (hS : COK P ⟨g, [.row τ true, .row τ true], Int, F, fun r => (.int .i64 r, [])⟩) {H : LH} {n : Nat} {xs ys : List (den τ)} (hg : H.get n = some (.rows τ xs)) (hy : sortV F xs = some ys) :
    CallSound P (ρ.f 6) [.rs n, .fn g []] H (.tup [], H.put n (some (.rows τ ys))) := by
  unfold sortV at hy
  obtain ⟨hb, rfl⟩ := bif_none (A := some (sortL (ltV F) xs)) hy |>.imp id fun h => Option.some.inj h
  rw [Bool.and_eq_true] at hb
  have hsz := Nat.le_of_ble_eq_true hb.1
  obtain ⟨hc, hO, hT⟩ := sort_swo hb.2
  refine ⟨Logged.put _ hg _, fun M η w vs h hM hv => ?_⟩
  obtain ⟨v1, vs, rfl, q1, hv⟩ := hv.uncons
  obtain ⟨v2, vs, rfl, q2, hv⟩ := hv.uncons
  obtain rfl : vs = [] := by have := hv.1; simpa using this.symm
  cases q1 with
  | rs hh1 =>
  have hv2 : v2 = .func (.func g) #[] #[] := by
    cases q2 with
    | fn hl _ => rw [List.eq_nil_of_length_eq_zero hl.symm]
  subst hv2
  have hlen : ∀ l : List (den τ), (sortL (ltV F) l).length = l.length := fun l => (sortL_perm (ltV F) l).length_eq
  cases h.live _ _ hg with
  | none hL hh =>
    rename_i A
    rw [hh1] at hh; injection hh with hh; subst hh
    refine Calls.mono (AnyF.slices_SortFunc_none L A 0 (.func (.func g) #[] #[]) w) ?_
    rintro e w' ⟨rfl, rfl⟩
    refine ⟨_, η, rfl, vr_tup0, adv_change h hg ?_ (Nat.le_refl _) (fun _ _ _ => rfl) rfl rfl rfl (Nat.le_refl _)⟩
    have e0 : sortL (ltV F) ([] : List (den τ)) = [] := rfl
    rw [e0]
    exact .none hL hh1
  | rows hL ha hh hcap hr =>
    rename_i L0 c
    rw [hh1] at hh; injection hh with hh; subst hh
    by_cases h0 : xs = []
    · subst h0
      refine Calls.mono (AnyF.slices_SortFunc_none L (some ⟨L0.block, L0.base, none⟩) c (.func (.func g) #[] #[]) w) ?_
      rintro e w' ⟨rfl, rfl⟩
      refine ⟨_, η, rfl, vr_tup0, adv_change h hg ?_ (Nat.le_refl _) (fun _ _ _ => rfl) rfl rfl rfl (Nat.le_refl _)⟩
      have e0 : sortL (ltV F) ([] : List (den τ)) = [] := rfl
      rw [e0]
      exact .rows hL ha hh1 hcap hr
    · haveI : Inhabited {x : den τ // x ∈ xs} := ⟨⟨xs.head h0, List.head_mem h0⟩⟩
      have eg : ∀ args w, (callFunc g args).run P w = .ok (.enter g args) w := by
        obtain ⟨fn, bd, b1, b2, b3⟩ := hS.body
        intro args w
        have b4 : ¬ fn.body = none := by rw [b2]; simp
        have b1' : P.funcs[g]? = some fn := b1
        simp [callFunc, b1', b3, b4]
      have hk : ∀ x : {x : den τ // x ∈ xs}, (valsR τ x.1).length = τ.size := fun x => valsR_len τ hp x.1
      have hflat : ∀ m : List {x : den τ // x ∈ xs}, (flatK (fun x : {x : den τ // x ∈ xs} => valsR τ x.1) τ.size m.toArray).toList = valsL τ (m.map Subtype.val) := fun m => by
        rw [flatK_list2 _ _ hk, valsL_flatMap, List.flatMap_map]
      have hcmp : CmpLays P g #[] (fun x : {x : den τ // x ∈ xs} => valsR τ x.1) τ.size (fun x y => cmpV F x.1 y.1) L0.block L0.base xs.attach.toArray.size w := by
        intro m os dk _ x y
        have hF := hc x.1 x.2 y.1 y.2
        have h2 := hS.ok (x.1, y.1, ()) (cmpV F x.1 y.1) hF (sortWorldK (fun x : {x : den τ // x ∈ xs} => valsR τ x.1) τ.size w L0.block L0.base m dk os) (fun _ => none) [.agg (valsR τ x.1).toArray, .agg (valsR τ y.1).toArray] (fun k ob hk => by cases hk)
          (VRs.cons (VR.aggL (plain_vrs τ x.1 hp)) (VRs.cons (VR.aggL (plain_vrs τ y.1 hp)) VRs.nil))
        refine Calls.mono h2 ?_
        rintro e w' ⟨v', η', rfl, hvr, _, hfr⟩
        have hv' : v' = .int .i64 (cmpV F x.1 y.1) := by
          have hvr : VR η' (.int .i64 (cmpV F x.1 y.1)) v' := hvr
          cases hvr; rfl
        rw [hv']
        exact ⟨rfl, bel_ext' ⟨⟨hfr.os, hfr.tape, hfr.output, hfr.size, fun k hk => hfr.same k hk⟩, hfr.drawn⟩⟩
      have hfl : flatK (fun x : {x : den τ // x ∈ xs} => valsR τ x.1) τ.size xs.attach.toArray = (valsL τ xs).toArray := by
        apply Array.toList_inj.1
        rw [hflat, List.attach_map_subtype_val]
      have hfl2 : ∀ l : List (den τ), (flat τ l).length = (valsL τ l).length := fun l => (plain_vrsL (η := η) hp l).1
      have hH : HoldsK (fun x : {x : den τ // x ∈ xs} => valsR τ x.1) τ.size w L0.block L0.base xs.attach.toArray := by
        unfold HoldsK
        rw [hfl]
        intro j hj
        have hj' : j < (valsL τ xs).length := by simpa using hj
        obtain ⟨cl, hcl⟩ : ∃ cl, (flat τ xs)[j]? = some cl := ⟨_, List.getElem?_eq_getElem (by rw [hfl2]; exact hj')⟩
        obtain ⟨v, g1, g2⟩ := ha.cell j cl hcl
        have g3 := plain_valL hp xs j cl hcl v g2
        have hf := ha.fits
        refine ⟨?_, (ha.there (L0.base + j) (by omega) (by have := hfl2 xs; omega)).2⟩
        rw [g1]
        congr 1
        rw [getElem!_pos _ _ (by simpa using hj')]
        have := (List.getElem?_eq_some_iff.1 g3).2
        simp [this]
      have hcon := AnyQ.slices_SortFunc_total L τ.size aE zE (fun x : {x : den τ // x ∈ xs} => valsR τ x.1) hk (fun x v hv => plain_one τ x.1 hp v hv) (fun x y => cmpV F x.1 y.1) hO g #[] L0.block L0.base c xs.attach.toArray w eg hcmp hH ha.lt (by simp; omega) hT
      have hats : xs.attach.toArray.size = xs.length := by simp
      rw [hats] at hcon
      refine Calls.mono hcon ?_
      rintro e w' ⟨rfl, m, os, rfl⟩
      have hF : flatK (fun x : {x : den τ // x ∈ xs} => valsR τ x.1) τ.size (xs.attach.toArray.toList.mergeSort fun x y => !(ltOf fun (x y : {x : den τ // x ∈ xs}) => cmpV F x.1 y.1) y x).toArray = (valsL τ (sortL (ltV F) xs)).toArray := by
        apply Array.toList_inj.1
        rw [hflat]
        congr 1
        have := sort_attach hb.2
        simpa using this
      unfold sortWorldK putRowK
      rw [hF]
      have hvl : (valsL τ (sortL (ltV F) xs)).length = (valsL τ xs).length := by rw [valsL_len hp, valsL_len hp, hlen]
      have hyl := hlen xs
      unfold HoldsK at hH
      rw [hfl] at hH
      generalize sortL (ltV F) xs = ys at hvl hyl ⊢
      have hfit := ha.fits
      have hfx := hfl2 xs
      have hfy := hfl2 ys
      obtain ⟨W1, hW1⟩ : ∃ W1, putRow id (Sort.ahead w m) L0.block L0.base (valsL τ ys).toArray = W1 := ⟨_, rfl⟩
      have hsz1 : W1.heap.size = w.heap.size := by rw [← hW1]; simp [putRow, mapBlock, Sort.ahead]
      have hblk : (grow W1 os).heap[L0.block]? = W1.heap[L0.block]? := by
        simp only [grow]
        rw [Array.getElem?_append_left (by rw [hsz1]; exact ha.lt)]
      have hfr : ∀ j, W1.frozen? ⟨L0.block, j, none⟩ = w.frozen? ⟨L0.block, j, none⟩ := fun j => by rw [← hW1, frozen?_putRow]; rfl
      have hin : ∀ j, j < (valsL τ ys).length → W1.cell? ⟨L0.block, L0.base + j, none⟩ = some ((valsL τ ys).toArray[j]!) := fun j hj => by
        rw [← hW1]
        exact cell?_putRow id (Sort.ahead w m) L0.block L0.base (valsL τ xs).toArray (valsL τ ys).toArray hH (by simp [hvl]) j (by simpa using hj)
      have hout : ∀ j, L0.base + (valsL τ ys).length ≤ j → W1.cell? ⟨L0.block, j, none⟩ = w.cell? ⟨L0.block, j, none⟩ := fun j hj => by
        rw [← hW1, cell?_putRow_other id (Sort.ahead w m) L0.block L0.base (valsL τ ys).toArray ⟨L0.block, j, none⟩ (.inr (.inr (by simpa using hj)))]; rfl
      have hat2 : At η (grow W1 os) (flat τ ys) L0 := by
        refine ⟨?_, by omega, fun j h1 h2 => ⟨?_, ?_⟩, fun j c hcj => ?_⟩
        · have := ha.lt
          simp only [grow, Array.size_append]; omega
        · rw [cell_same hblk]
          by_cases hj : j < L0.base + (valsL τ ys).length
          · have := hin (j - L0.base) (by omega)
            rw [show L0.base + (j - L0.base) = j by omega] at this
            rw [this]; rfl
          · rw [hout j (by omega)]; exact (ha.there j h1 h2).1
        · rw [frozen_same hblk, hfr]; exact (ha.there j h1 h2).2
        · have hj : j < (valsL τ ys).length := by rw [← hfy]; exact (List.getElem?_eq_some_iff.1 hcj).1
          refine ⟨(valsL τ ys)[j], ?_, (plain_vrsL hp ys).2 j c _ hcj (List.getElem?_eq_getElem hj)⟩
          rw [cell_same hblk, hin j hj]
          congr 1
          rw [getElem!_pos _ _ (by simpa using hj)]
          simp
      subst hW1
      refine ⟨_, η, rfl, vr_tup0, adv_change h hg (.rows hL hat2 (by rw [hyl]; exact hh1) (by rw [hyl]; exact hcap) hr) ?_ (fun k hk hne => ?_) ?_ ?_ ?_ ?_⟩
      · exact putRow_size ..
      · exact putRow_other _ _ _ _ _ _ k hk (hne L0 hL)
      · rfl
      · rfl
      · rfl
      · simp [grow, putRow, mapBlock, Sort.ahead]
/-- calls of the sort (function f) with a comparator (function g), told ahead -/
def orcS (f g : FuncId) (τ : Row) (F : den τ × den τ × Unit → Option Int) (C : Orc) : Orc := fun h args H =>
  bif Nat.beq h f then (match args with
    | [.rs n, .fn g' []] => bif Nat.beq g' g then (match H.get n with
      | some (.rows σ xs) => if e : σ = τ then some ⟨List (den τ), sortV F (e ▸ xs), fun r => (.tup [], H.put n (some (.rows τ r)))⟩ else none
      | _ => none) else none
    | _ => none) else C h args H
theorem orcS_ok (L : SlLaysF0.n6 P ρ) {τ : Row} (hp : plainR τ = true) (aE : ∀ w, (isAgg (ρ.t 24)).run P w = .ok true w) (zE : ∀ w, (Go.sizeOf (ρ.t 24)).run P w = .ok τ.size w) {g : FuncId} {F : den τ × den τ × Unit → Option Int}
    (hS : COK P ⟨g, [.row τ true, .row τ true], Int, F, fun r => (.int .i64 r, [])⟩) (hbody : ∃ fn c, P.funcs[ρ.f 6]? = some fn ∧ fn.body = some c ∧ ¬ fn.name = "runtime.NumGoroutine") {C : Orc} (hC : OrcOK P C) : OrcOK P (orcS (ρ.f 6) g τ F C) := by
  have key : ∀ h args H p, orcS (ρ.f 6) g τ F C h args H = some p → (C h args H = some p) ∨ (h = ρ.f 6 ∧ ∃ n xs, args = [.rs n, .fn g []] ∧ H.get n = some (.rows τ xs) ∧ p = ⟨List (den τ), sortV F xs, fun r => (.tup [], H.put n (some (.rows τ r)))⟩) := by
    intro h args H p hp
    unfold orcS at hp
    rw [Bool.cond_eq_ite] at hp
    split at hp
    · rename_i he
      have he := Nat.eq_of_beq_eq_true he
      split at hp
      · rename_i n g'
        rw [Bool.cond_eq_ite] at hp
        split at hp
        · rename_i hg
          have hg := Nat.eq_of_beq_eq_true hg
          subst hg
          split at hp
          · rename_i σ xs hn
            split at hp
            · rename_i e
              subst e
              injection hp with hp
              exact .inr ⟨he, n, xs, rfl, hn, hp.symm⟩
            · cases hp
          · cases hp
        · cases hp
      · cases hp
    · exact .inl hp
  refine ⟨fun h args H p x hp' hx => ?_, fun h args H p hp' => ?_⟩
  · rcases key h args H p hp' with h1 | ⟨rfl, n, xs, rfl, hn, rfl⟩
    · exact hC.call h args H p x h1 hx
    · exact sort_sound L hp aE zE hS hn hx
  · rcases key h args H p hp' with h1 | ⟨rfl, n, xs, rfl, hn, rfl⟩
    · exact hC.body h args H p h1
    · exact hbody
end
end Go.Tx
