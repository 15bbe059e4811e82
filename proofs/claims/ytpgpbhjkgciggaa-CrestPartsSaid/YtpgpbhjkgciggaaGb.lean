/- Walks of the functions of fields, fractions and points. -/
import Derived.LoopN
import Derived.Scope
import Derived.Below
import Derived.Lib.Hide
import Derived.WalkKit
import Derived.WalkSpells
import Derived.WalkLawsBesides
import Derived.Deep.Quiet
import Derived.Deep.QuietTactic
import Derived.StillTail
import Derived.BigQuiet
import Derived.ScopeJumps
import Derived.Laws.AppendOwn
import Derived.Laws.AppendOwnNone
import Derived.ArgAppend
import Derived.Deep.AppendLies
import Derived.Test.YtpgpbhjkgciggaaGa
set_option linter.unusedSimpArgs false
set_option linter.unusedVariables false
namespace Go.Tx
open Go
def q5x (ops:Array Oper) (t:Mem) (o:Oper):Option Bool :=
  match o.guard with
  | none=>some true
  | some (j, want) => match ((ops[j]?).bind (·.dst)).bind t.get with
    | some (.bool b)=>some (b == want)
    | some (.tup [])=>some false
    | _=>none
theorem q5y {η:Emb}:VR η (.tup []) undef:=.tup rfl fun i c v h _=>by simp at h
theorem q5z {η:Emb} {ops:Array Oper} {t:Mem} {a:Act} {o:Oper} {g:Bool} (ht:∀ j want d,o.guard=some (j,want)→(ops[j]?).bind (·.dst)=some d→∀ l,t.get d=some l→∃ v,a.tmps[d]?=some v∧VR η l v) (hx:q5x ops t o=some g):Region.wanted o (yielded ops a.tmps)=g:=by
  unfold q5x at hx
  unfold Region.wanted
  cases hg:o.guard with
  | none=>rw [hg] at hx;simpa using hx
  | some p =>
    obtain ⟨j,want⟩:=p
    rw [hg] at hx
    simp only at hx ⊢
    cases hd:(ops[j]?).bind (·.dst) with
    | none=>rw [hd] at hx;simp at hx
    | some d =>
      rw [hd] at hx
      simp only [Option.bind_some] at hx
      cases hl:t.get d with
      | none=>rw [hl] at hx;simp at hx
      | some l =>
        rw [hl] at hx
        obtain ⟨v,h1,h2⟩:=ht j want d hg hd l hl
        cases l<;>(try simp only at hx)<;>first | (cases hx;done) | skip
        case bool b =>
          injection hx with hx;subst hx
          cases h2
          unfold yielded
          rw [hd]
          simp only [Option.bind_some,h1]
          cases b<;>cases want<;>rfl
        case tup cs =>
          cases cs with
          | cons c cs=>cases hx
          | nil =>
            injection hx with hx;subst hx
            cases h2 with
            | tup hl hh =>
              unfold yielded
              rw [hd]
              simp only [Option.bind_some,h1]
              rfl
theorem Tr.setP_same {α:Type} (v:α):∀ (p:List D8) (t:Tr α),Tr.at p t=some v→Tr.setP p t (some v)=t
  | [],.lf,h=>by cases h
  | [],.nd u _ _ _ _ _ _ _ _,h=>by simp only [Tr.at,Tr.val] at h;subst h;rfl
  | x :: p,.lf,h=>by rw [Tr.at] at h;cases x<;>(rw [show Tr.kid (.lf:Tr α) _=.lf from rfl,Tr.at_lf] at h;cases h)
  | x :: p, .nd u a b c d e f g k, h => by
    rw [Tr.at] at h
    rw [Tr.setP,Tr.setP_same v p _ h]
    cases x<;>rfl
theorem Tr.set_same {α:Type} {t:Tr α} {n:Nat} {v:α} (h:t.get n=some v):t.set n (some v)=t:=Tr.setP_same v _ t h
section
variable {β:Type} {b:β}
def q60 (ops:Array Oper) (t:Mem) (o:Oper) (k:Mem→Bool→Option β):Option β :=
  match o.guard with
  | none=>k t true
  | some (j, want) => match (ops[j]?).bind (·.dst) with
    | some d => match t.get d with
      | some (.bool v)=>bif v then k (t.set d (some (.bool true))) want else k (t.set d (some (.bool false))) (!want)
      | some (.tup [])=>k t false
      | _=>none
    | none=>none
theorem q61 {ops:Array Oper} {t:Mem} {o:Oper} {k:Mem→Bool→Option β} (hx:q60 ops t o k=some b):∃ g,q5x ops t o=some g∧k t g=some b:=by
  unfold q60 at hx
  unfold q5x
  cases hg:o.guard with
  | none=>rw [hg] at hx;exact ⟨true,rfl,hx⟩
  | some p =>
    obtain ⟨j,want⟩:=p
    rw [hg] at hx
    simp only at hx ⊢
    cases hd:(ops[j]?).bind (·.dst) with
    | none=>rw [hd] at hx;cases hx
    | some d =>
      rw [hd] at hx
      simp only [Option.bind_some] at hx ⊢
      cases hl:t.get d with
      | none=>rw [hl] at hx;cases hx
      | some l =>
        rw [hl] at hx
        cases l<;>(try simp only at hx)<;>first | (cases hx;done) | skip
        case bool v =>
          cases v with
          | true =>
            rw [cond_true,Tr.set_same hl] at hx
            exact ⟨_,rfl,by cases want<;>exact hx⟩
          | false =>
            rw [cond_false,Tr.set_same hl] at hx
            exact ⟨_,rfl,by cases want<;>exact hx⟩
        case tup cs =>
          cases cs with
          | cons c cs=>cases hx
          | nil=>exact ⟨_,rfl,hx⟩
end
structure SR (M N:Nat) (D:List Deferred) (η:Emb) (t:Mem) (H:LH) (a:Act) (w:World):Prop where
  hr:HR M η H w
  tr:TR η t a
  size:N≤a.tmps.size
  defers:a.defers=D
section
variable {P:Program} {T:Tys} {C:Orc} {M N:Nat} {D:List Deferred} {β:Type} {b:β}
def tops (T:Tys) (C:Orc) (N:Nat) (ops:Array Oper):List Oper→Mem→LH→(Mem→LH→Option β)→Option β
  | [],t,H,k=>k t H
  | o :: l,t,H,k=>q60 ops t o fun t g=>bif g then topK T C o (xev t) H fun v H=>tput N t o.dst v fun t=>tops T C N ops l t H k else tput N t o.dst (.tup []) fun t=>tops T C N ops l t H k
theorem q62 (hT:TysOK P T) (hC:OrcOK P C) {ops:Array Oper}:∀ (l:List Oper) {t:Mem} {H:LH} {k:Mem→LH→Option β},tops T C N ops l t H k=some b→∃ t' H',k t' H'=some b∧Logged H H' ∧
    ∀ M η a w Q,H'.next≤M→SR M N D η t H a w→(∀ a' w' η',SR M N D η' t' H' a' w'→Adv M H η w H' η' w'→Q .normal a' w')→wpList P ops Q l a w
  | [],t,H,k,hx=>⟨t,H,hx,Logged.refl _,fun M η a w Q hM hs hQ=>hQ a w η hs (Adv.refl hs.hr)⟩
  | o :: l, t, H, k, hx => by
    rw [tops] at hx
    obtain ⟨g,hg,hx⟩:=q61 hx
    cases g with
    | true =>
      rw [cond_true] at hx
      obtain ⟨r,hr,h1,h2⟩:=q5w hT hC hx
      obtain ⟨t1,hx,ht1⟩:=q5k hr
      obtain ⟨t',H',e1,e2,e3⟩:=q62 hT hC l hx
      refine ⟨t',H',e1,h1.trans e2,fun M η a w Q hM hs hQ=>?_⟩
      have hw:=q5z (a:=a) (η:=η) (fun j want d _ _ l hl=>hs.tr d l hl) hg
      unfold wpList
      rw [hw,if_pos rfl]
      refine .inl (h2 M η w a hs.hr (Nat.le_trans e2.next hM) (fun x=>q5i hs.tr x) _ _ fun v' w' η' hv hadv=>?_)
      exact e3 M η' _ w' Q hM ⟨hadv.hr,(hs.tr.mono hadv.le).put hs.size hv ht1,by rw [q5l];exact hs.size,by rw [q5m];exact hs.defers⟩ fun a2 w2 η2 h2 hadv2=>hQ a2 w2 η2 h2 (hadv.trans hadv2)
    | false =>
      rw [cond_false] at hx
      obtain ⟨t1,hx,ht1⟩:=q5k hx
      obtain ⟨t',H',e1,e2,e3⟩:=q62 hT hC l hx
      refine ⟨t',H',e1,e2,fun M η a w Q hM hs hQ=>?_⟩
      have hw:=q5z (a:=a) (η:=η) (fun j want d _ _ l hl=>hs.tr d l hl) hg
      unfold wpList
      rw [hw,if_neg (by simp)]
      exact e3 M η _ w Q hM ⟨hs.hr,hs.tr.put hs.size q5y ht1,by rw [q5l];exact hs.size,by rw [q5m];exact hs.defers⟩ hQ
end
structure Rec where
  K:LH
  R:LH
  l:LV
  d:Option Tmp
  us:List Tmp
def memB (l:List Nat) (b:Nat):Bool:=l.any (Nat.beq b)
theorem q63 {l:List Nat} {b:Nat}:memB l b=true↔b∈l:=by
  unfold memB
  rw [List.any_eq_true]
  constructor
  · rintro ⟨x,hx,he⟩;rw [Nat.beq_eq] at he;subst he;exact hx
  · intro h;exact ⟨b,h,Nat.beq_refl b⟩
def Rec.ids (s:Rec):List Nat:=s.R.log++List.range' s.K.next (s.R.next - s.K.next)
def Rec.dom (s:Rec) (b:Nat):Prop:=b∈s.R.log∨(s.K.next≤b∧b<s.R.next)
theorem Rec.mem_ids {s:Rec} {b:Nat}:b∈s.ids↔s.dom b:=by
  unfold Rec.ids Rec.dom
  rw [List.mem_append,List.mem_range'_1]
  constructor
  · rintro (h | h)
    · exact .inl h
    · exact .inr ⟨h.1,by omega⟩
  · rintro (h | h)
    · exact .inl h
    · exact .inr ⟨h.1,by omega⟩
def q64 (f:Nat→Option Ob):List Nat→Tr Ob→Tr Ob
  | [],t=>t
  | b :: l,t=>q64 f l (t.set b (f b))
theorem q65 (f:Nat→Option Ob):∀ (l:List Nat) (t:Tr Ob) (b:Nat),(q64 f l t).get b=if b∈l then f b else t.get b
  | [],t,b=>by simp [q64]
  | x :: l, t, b => by
    rw [q64,q65 f l]
    simp only [List.mem_cons]
    rw [Tr.get_set]
    by_cases h1:b∈l
    · rw [if_pos h1,if_pos (.inr h1)]
    · rw [if_neg h1]
      by_cases h2:b=x
      · subst h2;rw [if_pos rfl,if_pos (.inl rfl)]
      · rw [if_neg h2, if_neg]
        rintro (h3 | h3)
        · exact h2 h3
        · exact h1 h3
def q66 (H:LH) (s:Rec):LH:=⟨q64 s.R.get s.ids H.t,s.R.next,s.R.log++H.log⟩
theorem q67 {H:LH} {s:Rec} (b:Nat) [Decidable (s.dom b)]:(q66 H s).get b=if s.dom b then s.R.get b else H.get b:=by
  show (q64 s.R.get s.ids H.t).get b=_
  rw [q65]
  by_cases h:s.dom b
  · rw [if_pos h,if_pos (Rec.mem_ids.2 h)]
  · rw [if_neg h,if_neg (fun h'=>h (Rec.mem_ids.1 h'))];rfl
def evR (us:List Tmp) (t:Mem):Operand→LV
  | .tmp n=>bif memB us n then xev t (.tmp n) else .undef
  | x=>xev t x
def q68 (o:Oper):Bool :=
  match o.op with
  | .move _ | .assign _ | .pick .. | .build .. | .nilCheck _ | .binOp .. | .unOp .. | .convert .. | .makeFunc .. | .fieldAddr .. | .field .. | .index .. | .extract ..=>true
  | .call c=>match c.callee with | .builtin .max=>true | .builtin .min=>true | _=>false
  | _=>false
def refs:LV→List Nat
  | .ptr b _=>[b]
  | .rp b _ _ _=>[b]
  | .rs b=>[b]
  | _=>[]
def q69:LV→List Nat
  | .agg cs=>cs.flatMap refs
  | .fn _ cs=>cs.flatMap refs
  | l=>refs l
def q6a:Ob→List Nat
  | .cells cs=>cs.flatMap q69
  | .rows _ _=>[]
  | .rowl _ _ r=>q69 (qk r)
  | .view b _ _=>[b]
def q6b (H:LH):Nat→List Nat→List Nat→List Nat
  | 0,_,acc=>acc
  | _+1,[],acc=>acc
  | f + 1, b :: l, acc => bif memB acc b then q6b H f l acc else match H.get b with
    | some ob=>q6b H f (q6a ob++l) (acc ++ [b])
    | none=>q6b H f l acc
def isFn (o:Oper):Bool :=
  match o.op with
  | .call c=>match c.callee with | .value _=>true | _=>false
  | .indexAddr _ _ _=>true
  | _=>false
def small (H:LH) (ids:List Nat):LH:=⟨q64 H.get ids .lf,H.next,[]⟩
theorem q6c {H:LH} {ids:List Nat} {b:Nat} {cs:Ob} (h:(small H ids).get b=some cs):H.get b=some cs:=by
  have h':(q64 H.get ids .lf).get b=some cs:=h
  rw [q65] at h'
  split at h'
  · exact h'
  · rw [Tr.get_lf] at h';cases h'
def sees (o:Oper) (us:List Tmp) (t:Mem) (H:LH):LH :=
  bif q68 o then ⟨.lf,H.next,[]⟩
  else bif isFn o then small H (q6b H 1000 (us.flatMap fun d=>q69 (xev t (.tmp d))) [])
  else small H (us.flatMap fun d=>q69 (xev t (.tmp d)))
theorem q6d {o:Oper} {us:List Tmp} {t:Mem} {H:LH} {b:Nat} {cs:Ob} (h:(sees o us t H).get b=some cs):H.get b=some cs:=by
  unfold sees at h
  cases hq:q68 o with
  | false =>
    rw [hq,cond_false] at h
    cases hf:isFn o<;>rw [hf] at h<;>exact q6c h
  | true=>rw [hq,cond_true] at h;exact (LH.no h).elim
theorem q6e (o:Oper) (us:List Tmp) (t:Mem) (H:LH):(sees o us t H).next=H.next:=by unfold sees;cases q68 o<;>cases isFn o<;>rfl
theorem q6f (o:Oper) (us:List Tmp) (t:Mem) (H:LH):(sees o us t H).log=[]:=by unfold sees;cases q68 o<;>cases isFn o<;>rfl
abbrev Wr:=Nat×List Nat×Rec
def dynB (s:Rec) (ids:List Nat) (e:Rec):Bool:=ids.all (fun b=>(s.K.get b).isNone)&&s.R.log.all (fun b=>(e.K.get b).isNone && !memB ids b)&&e.R.log.all (fun b=>!memB s.ids b)
def q6g (us:List Tmp) (d:Option Tmp) (us':List Tmp) (d':Option Tmp):Bool :=
  (match d' with | some d'=>!memB us d' | none=>true) &&
  (match d with | some d=>!memB us' d&&(match d' with | some d'=>!Nat.beq d d' | none=>true) | none=>true)
structure Apart2 (s e:Rec):Prop where
  unseen:∀ b,e.dom b→s.K.get b=none
  kept:∀ b,b∈s.R.log→e.K.get b=none∧¬ e.dom b
  other:∀ b,b∈e.R.log→¬ s.dom b
  us:∀ d,e.d=some d→d ∉ s.us
  us':∀ d,s.d=some d→d ∉ e.us
  dd:∀ d,s.d=some d→e.d≠some d
structure Dyn (s e:Rec):Prop where
  unseen:∀ b,e.dom b→s.K.get b=none
  kept:∀ b,b∈s.R.log→e.K.get b=none∧¬ e.dom b
  other:∀ b,b∈e.R.log→¬ s.dom b
structure Quiet (e:Rec):Prop where
  none:∀ b,e.K.get b=none
  dom:∀ b,¬ e.dom b
  log:e.R.log=[]
structure Still (e:Rec):Prop where
  dom:∀ b,¬ e.dom b
  log:e.R.log=[]
theorem Quiet.still {e:Rec} (h:Quiet e):Still e:=⟨h.dom,h.log⟩
theorem q6h {s e:Rec} (h:Quiet s):Dyn s e:=⟨fun b _=>h.none b,fun b hb=>by rw [h.log] at hb;simp at hb,fun b _=>h.dom b⟩
theorem q6i {s e:Rec} (h:Quiet e):Dyn s e:=⟨fun b hb=>absurd hb (h.dom b),fun b _=>⟨h.none b,h.dom b⟩,fun b hb=>by rw [h.log] at hb;simp at hb⟩
theorem q6j {s e:Rec} (hs:s.R.log=[]) (h:Still e):Dyn s e:=⟨fun b hb=>absurd hb (h.dom b),fun b hb=>by rw [hs] at hb;simp at hb,fun b hb=>by rw [h.log] at hb;simp at hb⟩
theorem q6k {s e:Rec} (hd:dynB s e.ids e=true):Dyn s e:=by
  unfold dynB at hd
  simp only [Bool.and_eq_true,List.all_eq_true] at hd
  obtain ⟨⟨h1,h2⟩,h3⟩:=hd
  refine ⟨fun b hb=>by simpa using h1 b (Rec.mem_ids.2 hb),fun b hb=>?_,fun b hb hd=>?_⟩
  · have := h2 b hb
    simp only [Bool.not_eq_true'] at this
    refine ⟨by simpa using this.1,fun hd=>?_⟩
    rw [q63.2 (Rec.mem_ids.2 hd)] at this;cases this.2
  · have := h3 b hb
    rw [q63.2 (Rec.mem_ids.2 hd)] at this;cases this
theorem q6l {s e:Rec} (hs:q6g s.us s.d e.us e.d=true) (hd:Dyn s e):Apart2 s e:=by
  unfold q6g at hs
  simp only [Bool.and_eq_true] at hs
  obtain ⟨h4,h5⟩:=hs
  have f1:∀ d,e.d=some d→d ∉ s.us:=fun d hd hm=>by
    rw [hd] at h4;simp only at h4;rw [q63.2 hm] at h4;cases h4
  have f2:∀ d,s.d=some d→d ∉ e.us:=fun d hd hm=>by
    rw [hd] at h5;simp only at h5;rw [q63.2 hm] at h5;cases h5
  have f3:∀ d,s.d=some d→e.d≠some d:=fun d hd he=>by rw [hd,he] at h5;simp at h5
  exact ⟨hd.unseen,hd.kept,hd.other,f1,f2,f3⟩
def chk (m:Nat) (s:Rec):List Rec→Prop
  | []=>True
  | e :: tr=>(m.testBit tr.length=true∨Apart2 s e)∧chk m s tr
def q6m (m:Nat) (us:List Tmp) (d:Option Tmp):List (List Tmp×Option Tmp)→Bool
  | []=>true
  | e :: tr=>(m.testBit tr.length || q6g us d e.1 e.2)&&q6m m us d tr
def q6n (ops:Array Oper) (ms:List Nat):List Oper→List (List Tmp×Option Tmp)→Bool
  | [],_=>true
  | o :: l,tr=>q6m (ms.getD tr.length 0) (o.looksAt ops) o.dst tr&&q6n ops ms l ((o.looksAt ops,o.dst) :: tr)
def q6o (m:Nat) (s:Rec):List Wr→Bool
  | []=>true
  | p :: l=>(m.testBit p.1 || dynB s p.2.1 p.2.2)&&q6o m s l
theorem q6p {m:Nat} {s:Rec}:∀ {wr:List Wr},q6o m s wr=true→∀ p∈wr,m.testBit p.1=true∨dynB s p.2.1 p.2.2=true
  | [],_,p,hp=>by simp at hp
  | q :: l, h, p, hp => by
    simp only [q6o,Bool.and_eq_true,Bool.or_eq_true] at h
    rcases List.mem_cons.1 hp with rfl | hp
    · exact h.1
    · exact q6p h.2 p hp
def Cov (rd:List (Nat×Rec)) (wr:List Wr):List Rec→Prop
  | []=>True
  | e :: tr=>(Quiet e∨(Still e∧(tr.length,e)∈rd)∨(tr.length,e.ids,e)∈wr)∧Cov rd wr tr
theorem Cov.rd {rd:List (Nat×Rec)} {wr:List Wr} (p:Nat×Rec):∀ {tr:List Rec},Cov rd wr tr→Cov (p :: rd) wr tr
  | [],_=>trivial
  | _ :: _,h=>⟨h.1.imp id (.imp (fun h=>⟨h.1,List.mem_cons_of_mem _ h.2⟩) id),Cov.rd p h.2⟩
theorem Cov.wr {rd:List (Nat×Rec)} {wr:List Wr} (p:Wr):∀ {tr:List Rec},Cov rd wr tr→Cov rd (p :: wr) tr
  | [],_=>trivial
  | _ :: _,h=>⟨h.1.imp id (.imp id fun h=>List.mem_cons_of_mem _ h),Cov.wr p h.2⟩
theorem q6q {m:Nat} {s:Rec} {rd:List (Nat×Rec)} {wr:List Wr} (h1:Quiet s∨((∀ k e,Still e→(k,e)∈rd→m.testBit k=true∨Dyn s e)∧∀ k e,(k,Rec.ids e,e)∈wr→m.testBit k=true∨Dyn s e)):∀ tr:List Rec,Cov rd wr tr→q6m m s.us s.d (tr.map fun e=>(e.us,e.d))=true→chk m s tr
  | [],_,_=>trivial
  | e :: tr, hc, hs => by
    simp only [List.map_cons,q6m,Bool.and_eq_true,Bool.or_eq_true,List.length_map] at hs
    refine ⟨?_,q6q h1 tr hc.2 hs.2⟩
    rcases hs.1 with h2 | h2
    · exact .inl h2
    · rcases h1 with hq | hd
      · exact .inr (q6l h2 (q6h hq))
      · rcases hc.1 with hq | hm | hm
        · exact .inr (q6l h2 (q6i hq))
        · exact (hd.1 _ _ hm.1 hm.2).imp id (q6l h2)
        · exact (hd.2 _ _ hm).imp id (q6l h2)
def q6r (ms:List Nat) (o:Oper):Nat:=o.after.toList.foldl (fun s e=>bif Region.binds .any e then s ||| 2 ^ e.on ||| ms.getD e.on 0 else s) 0
def ancs:List Oper→List Nat→List Nat
  | [],ms=>ms
  | o :: l,ms=>ancs l (ms ++ [q6r ms o])
def q6s:List Oper→Nat→Bool
  | [],_=>true
  | o :: l,i=>o.after.toList.all (fun e=>!Region.binds .any e || Nat.blt e.on i)&&q6s l (i+1)
def q6t:List Nat→Bool
  | []=>true
  | _ :: _=>false
def q6u (m:Nat) (s:Rec) (rd:List (Nat×Rec)) (wr:List Wr):Bool :=
  q6o m s wr&&(q6t s.R.log || rd.all fun p=>m.testBit p.1 || dynB s (Rec.ids p.2) p.2)
section
variable {β:Type}
def tdr (T:Tys) (C:Orc) (N:Nat) (ops:Array Oper) (ms:List Nat):List Oper→Nat→List (Nat×Rec)→List Wr→Mem→LH→(Mem→LH→Option β)→Option β
  | [],_,_,_,t,H,k=>k t H
  | o :: l, i, rd, wr, t, H, k => q60 ops t o fun t g =>
    bif g then
      bif q68 o then topK T C o (xev t) ⟨.lf,H.next,[]⟩ fun v R=>bif Nat.beq R.next H.next&&q6t R.log then tput N t o.dst v fun t=>tdr T C N ops ms l (i+1) rd wr t H k else none
      else topK T C o (xev t) (sees o (o.looksAt ops) t H) fun v R =>
        bif q6u (ms.getD i 0) ⟨sees o (o.looksAt ops) t H,R,v,o.dst,o.looksAt ops⟩ rd wr then tput N t o.dst v fun t'=>match Rec.ids ⟨sees o (o.looksAt ops) t H,R,v,o.dst,o.looksAt ops⟩ with
          | []=>tdr T C N ops ms l (i+1) ((i,⟨sees o (o.looksAt ops) t H,R,v,o.dst,o.looksAt ops⟩) :: rd) wr t' ⟨H.t,R.next,R.log++H.log⟩ k
          | x :: ids=>tdr T C N ops ms l (i+1) rd ((i,x :: ids,⟨sees o (o.looksAt ops) t H,R,v,o.dst,o.looksAt ops⟩) :: wr) t' ⟨q64 R.get (x :: ids) H.t,R.next,R.log++H.log⟩ k
        else none
    else tput N t o.dst (.tup []) fun t=>tdr T C N ops ms l (i+1) rd wr t H k
end
def q6v (ops:Array Oper):Bool:=q6s ops.toList 0&&q6n ops (ancs ops.toList []) ops.toList []
def q6w {β:Type} (T:Tys) (C:Orc) (N:Nat) (ops:Array Oper) (t:Mem) (H:LH) (k:Mem→LH→Option β):Option β :=
  bif q6v ops then tdr T C N ops (ancs ops.toList []) ops.toList 0 [] [] t H k else none
structure RecOK (P:Program) (ops:Array Oper) (ms:List Nat) (N i:Nat) (s:Rec) (tr:List Rec) (t:Mem) (H:LH):Prop where
  oper:∃ o g,ops[i]?=some o∧q5x ops t o=some g∧s.us=o.looksAt ops∧s.d=o.dst∧(g=true→OpOK P o (evR s.us t) s.K (s.l,s.R))∧(g=false→s.l=.tup []∧s.R=s.K)
  next:s.K.next=H.next
  log:s.K.log=[]
  get:∀ b cs,s.K.get b=some cs→H.get b=some cs
  chk:chk (ms.getD i 0) s tr
  dst:∀ d,s.d=some d→d<N
inductive Tc (P:Program) (ops:Array Oper) (ms:List Nat) (N:Nat) (t0:Mem) (H0:LH):List Rec→Mem→LH→Prop
  | nil:Tc P ops ms N t0 H0 [] t0 H0
  | cons {tr:List Rec} {t t':Mem} {H:LH} {s:Rec} (h:Tc P ops ms N t0 H0 tr t H) (hs:RecOK P ops ms N tr.length s tr t H) (ht:xput N t s.d s.l=some t'):Tc P ops ms N t0 H0 (s :: tr) t' (q66 H s)
section
variable {P:Program} {T:Tys} {C:Orc} {ops:Array Oper} {ms:List Nat} {N:Nat} {t0:Mem} {H0:LH} {β:Type} {b:β}
theorem q6x {us:List Tmp} {t:Mem} {x:Operand} (h:∀ d,x=.tmp d→d∈us):evR us t x=xev t x:=by
  cases x with
  | tmp d=>simp only [evR,q63.2 (h d rfl),cond_true]
  | _=>rfl
theorem q6y {o:Oper} {ops:Array Oper} {t:Mem} (K:LH) (k:LV→LH→Option β):topK T C o (evR (o.looksAt ops) t) K k=topK T C o (xev t) K k :=
  q5r (fun x hx=>q6x fun d hd=>by
    subst hd
    unfold Oper.looksAt
    exact List.mem_append_left _ (List.mem_filterMap.2 ⟨_,hx,rfl⟩)) K k
theorem q6z {s:Rec} {H:LH} (h:Rec.ids s=[]):q66 H s=⟨H.t,s.R.next,s.R.log++H.log⟩:=by
  unfold q66;rw [h];rfl
theorem q70 {n:Nat} {R:LH} {v:LV} {d:Option Tmp} {us:List Tmp} (h1:Nat.beq R.next n=true) (h2:q6t R.log=true):Quiet ⟨⟨.lf,n,[]⟩,R,v,d,us⟩:=by
  rw [Nat.beq_eq] at h1
  have h2':R.log=[]:=by
    cases hl:R.log with
    | nil=>rfl
    | cons x xs=>rw [hl] at h2;cases h2
  refine ⟨fun b=>LH.get_lf _ _ b,fun b hb=>?_,h2'⟩
  rcases hb with h3 | ⟨h3,h4⟩
  · simp only [h2'] at h3;simp at h3
  · simp only at h3 h4;omega
theorem q71 (hT:TysOK P T) (hC:OrcOK P C):∀ (l:List Oper) {i:Nat} {rd:List (Nat×Rec)} {wr:List Wr} {tr:List Rec} {t:Mem} {H:LH} {k:Mem→LH→Option β},tdr T C N ops ms l i rd wr t H k=some b→Tc P ops ms N t0 H0 tr t H→tr.length=i→Cov rd wr tr→q6n ops ms l (tr.map fun e=>(e.us,e.d))=true →
    (∀ j,l[j]?=ops[i+j]?)→∃ tr' t' H',k t' H'=some b∧Tc P ops ms N t0 H0 tr' t' H'∧tr'.length=i+l.length
  | [],i,rd,wr,tr,t,H,k,hx,htc,hi,_,_,_=>⟨tr,t,H,hx,htc,hi⟩
  | o :: l, i, rd, wr, tr, t, H, k, hx, htc, hi, hcov, hst, hl => by
    have h0:ops[i]?=some o:=by have:=hl 0;simpa using this.symm
    simp only [q6n,Bool.and_eq_true,List.length_map,hi] at hst
    obtain ⟨hst1,hst2⟩:=hst
    have hnext:∀ j,l[j]?=ops[(i+1)+j]?:=fun j=>by
      have:=hl (j+1)
      simp only [List.getElem?_cons_succ] at this
      rw [this];congr 1;omega
    have hdst:∀ {v:LV} {t1:Mem},xput N t o.dst v=some t1→∀ d,o.dst=some d→d<N:=fun {v t1} ht1 d hd=>by
      rw [hd] at ht1
      simp only [xput] at ht1
      rw [Bool.cond_eq_ite] at ht1
      split at ht1
      · rename_i hcc;simpa [Nat.blt_eq] using hcc
      · cases ht1
    -- what is left,for any record of this operation
    have go:∀ {s:Rec} {rd':List (Nat×Rec)} {wr':List Wr} {t1:Mem} {H1:LH} {g:Bool},s.us=o.looksAt ops→s.d=o.dst→q5x ops t o=some g→(g=true→OpOK P o (evR (o.looksAt ops) t) s.K (s.l,s.R))→(g=false→s.l=.tup []∧s.R=s.K) →
        s.K.next=H.next→s.K.log=[]→(∀ b cs,s.K.get b=some cs→H.get b=some cs)→(Quiet s∨((∀ k e,Still e→(k,e)∈rd→(ms.getD i 0).testBit k=true∨Dyn s e)∧∀ k e,(k,Rec.ids e,e)∈wr→(ms.getD i 0).testBit k=true∨Dyn s e)) →
        xput N t o.dst s.l=some t1→q66 H s=H1→Cov rd' wr' (s :: tr)→tdr T C N ops ms l (i+1) rd' wr' t1 H1 k=some b→∃ tr' t' H',k t' H'=some b∧Tc P ops ms N t0 H0 tr' t' H'∧tr'.length=i+(o :: l).length:=by
      intro s rd' wr' t1 H1 g hu hd hg ht hf hn hlog hget hch hput hmer hcv hx
      have hchk:chk (ms.getD i 0) s tr:=q6q hch tr hcov (by rw [hu,hd];exact hst1)
      have hok:RecOK P ops ms N tr.length s tr t H:=by
        rw [hi]
        exact ⟨⟨o,g,h0,hg,hu,hd,fun hgt=>by rw [hu];exact ht hgt,hf⟩,hn,hlog,hget,hchk,by rw [hd];exact hdst hput⟩
      obtain ⟨tr',t',H',e1,e2,e3⟩:=q71 hT hC l (tr:=s :: tr) hx (hmer ▸ Tc.cons htc hok (by rw [hd];exact hput)) (by simp [hi]) hcv (by rw [List.map_cons,hu,hd];exact hst2) hnext
      exact ⟨tr',t',H',e1,e2,by rw [e3];simp;omega⟩
    -- a quiet record
    have goQ:∀ {v:LV} {t1:Mem} {R:LH} {g:Bool},q5x ops t o=some g→(g=true→OpOK P o (evR (o.looksAt ops) t) ⟨.lf,H.next,[]⟩ (v,R))→(g=false→v=.tup []∧R=⟨.lf,H.next,[]⟩)→Nat.beq R.next H.next=true→q6t R.log=true→xput N t o.dst v=some t1→tdr T C N ops ms l (i+1) rd wr t1 H k=some b →
        ∃ tr' t' H',k t' H'=some b∧Tc P ops ms N t0 H0 tr' t' H'∧tr'.length=i+(o :: l).length:=by
      intro v t1 R g hg ht hf hR1 hR2 hput hx
      have hq:Quiet ⟨⟨.lf,H.next,[]⟩,R,v,o.dst,o.looksAt ops⟩:=q70 hR1 hR2
      refine go (s:=⟨⟨.lf,H.next,[]⟩,R,v,o.dst,o.looksAt ops⟩) (rd':=rd) (wr':=wr) (H1:=H) rfl rfl hg ht hf rfl rfl (fun b cs hb=>(LH.no hb).elim) (.inl hq) hput ?_ ⟨.inl hq,hcov⟩ hx
      have hids:Rec.ids ⟨⟨.lf,H.next,[]⟩,R,v,o.dst,o.looksAt ops⟩=[]:=by
        cases hid:Rec.ids ⟨⟨.lf,H.next,[]⟩,R,v,o.dst,o.looksAt ops⟩ with
        | nil=>rfl
        | cons x xs=>exact absurd (Rec.mem_ids.1 (by rw [hid];exact List.mem_cons_self ..)) (hq.dom x)
      rw [q6z hids]
      have e1:R.log=[]:=hq.log
      have e2:R.next=H.next:=Nat.eq_of_beq_eq_true hR1
      simp only [e1,e2,List.nil_append]
    rw [tdr] at hx
    obtain ⟨g,hg,hx⟩:=q61 hx
    cases g with
    | false =>
      rw [cond_false] at hx
      obtain ⟨t1,hx,ht1⟩:=q5k hx
      exact goQ hg (fun h=>by cases h) (fun _=>⟨rfl,rfl⟩) (Nat.beq_refl _) rfl ht1 hx
    | true =>
      rw [cond_true] at hx
      cases hq:q68 o with
      | true =>
        rw [hq,cond_true,← q6y (ops:=ops)] at hx
        obtain ⟨r,hx,hop⟩:=q5w hT hC hx
        rw [Bool.cond_eq_ite] at hx
        split at hx
        · rename_i hc
          rw [Bool.and_eq_true] at hc
          obtain ⟨t1,hx,ht1⟩:=q5k hx
          exact goQ hg (fun _=>hop) (fun h=>by cases h) hc.1 hc.2 ht1 hx
        · cases hx
      | false =>
        rw [hq,cond_false,← q6y (ops:=ops)] at hx
        obtain ⟨r,hx,hop⟩:=q5w hT hC hx
        generalize hK:sees o (o.looksAt ops) t H=K at hx hop
        generalize hS:(⟨K,r.2,r.1,o.dst,o.looksAt ops⟩:Rec)=s at hx
        rw [Bool.cond_eq_ite] at hx
        split at hx
        · rename_i hc
          obtain ⟨t1,hx,ht1⟩:=q5k hx
          unfold q6u at hc
          simp only [Bool.and_eq_true,Bool.or_eq_true] at hc
          obtain ⟨hc1,hc2⟩:=hc
          have hsd:s.d=o.dst:=by rw [← hS]
          have hsu:s.us=o.looksAt ops:=by rw [← hS]
          have hsl:s.l=r.1:=by rw [← hS]
          have hsK:s.K=K:=by rw [← hS]
          have hsR:s.R=r.2:=by rw [← hS]
          have hdy:(∀ k e,Still e→(k,e)∈rd→(ms.getD i 0).testBit k=true∨Dyn s e)∧∀ k e,(k,Rec.ids e,e)∈wr→(ms.getD i 0).testBit k=true∨Dyn s e:=by
            refine ⟨fun k e he hm=>?_,fun k e hm=>(q6p hc1 _ hm).imp id fun h=>q6k h⟩
            rcases hc2 with hc2 | hc2
            · refine .inr (q6j ?_ he)
              cases hlg:s.R.log with
              | nil=>rfl
              | cons x xs=>rw [hlg] at hc2;cases hc2
            · rw [List.all_eq_true] at hc2
              have:=hc2 _ hm
              rw [Bool.or_eq_true] at this
              exact this.imp id fun h=>q6k h
          have hn:s.K.next=H.next:=by rw [hsK,← hK];exact q6e ..
          have hlg:s.K.log=[]:=by rw [hsK,← hK];exact q6f ..
          have hgt:∀ b cs,s.K.get b=some cs→H.get b=some cs:=fun b cs hb=>by rw [hsK,← hK] at hb;exact q6d hb
          have hop':OpOK P o (evR (o.looksAt ops) t) s.K (s.l,s.R):=by rw [hsK,hsl,hsR];exact hop
          have hput:xput N t o.dst s.l=some t1:=by rw [hsl];exact ht1
          cases hid:Rec.ids s with
          | nil =>
            rw [hid] at hx
            have hst:Still s:=by
              have hdom:∀ b,¬ s.dom b:=fun b hb=>by have:=Rec.mem_ids.2 hb;rw [hid] at this;simp at this
              refine ⟨hdom,?_⟩
              cases hl2:s.R.log with
              | nil=>rfl
              | cons x xs=>exact absurd (.inl (by rw [hl2];exact List.mem_cons_self ..)) (hdom x)
            exact go hsu hsd hg (fun _=>hop') (fun h=>by cases h) hn hlg hgt (.inr hdy) hput (q6z hid) ⟨.inr (.inl ⟨hst,by rw [hi];exact List.mem_cons_self ..⟩),hcov.rd _⟩ (by rw [← hsR] at hx;exact hx)
          | cons x ids =>
            rw [hid] at hx
            exact go hsu hsd hg (fun _=>hop') (fun h=>by cases h) hn hlg hgt (.inr hdy) hput (by unfold q66;rw [hid]) ⟨.inr (.inr (by rw [hi,hid];exact List.mem_cons_self ..)),hcov.wr _⟩ (by rw [← hsR] at hx;exact hx)
        · cases hx
end
end Go.Tx

namespace Go.Tx
open Go
section
variable {P:Program} {ops:Array Oper} {ms:List Nat} {N:Nat} {t0:Mem} {H0:LH} {M:Nat}
def Gt (H0:LH):List Rec→(Nat→Bool)→Nat→Option Ob
  | [],_,b=>H0.get b
  | s :: tr,L,b=>bif L tr.length&&memB s.ids b then s.R.get b else Gt H0 tr L b
def Tt (t0:Mem):List Rec→(Nat→Bool)→Nat→Option LV
  | [],_,d=>t0.get d
  | s :: tr,L,d=>if L tr.length=true∧s.d=some d then some s.l else Tt t0 tr L d
def Wn:List Rec→Nat→Nat→Prop
  | [],_,_=>False
  | s :: tr,j,b=>(j=tr.length∧s.K.next≤b∧b<s.R.next)∨Wn tr j b
theorem q72 {s:Rec} {b:Nat} (h:s.dom b):memB s.ids b=true:=q63.2 (Rec.mem_ids.2 h)
theorem q73 {s:Rec} {b:Nat} (h:¬ s.dom b):memB s.ids b=false:=by
  cases hm:memB s.ids b with
  | false=>rfl
  | true=>exact absurd (Rec.mem_ids.1 (q63.1 hm)) h
theorem q74 {t t':Mem} {d:Option Tmp} {l:LV} (h:xput N t d l=some t') (x:Nat):t'.get x=if d=some x then some l else t.get x:=by
  cases d with
  | none=>simp only [xput,Option.some.injEq] at h;subst h;simp
  | some d =>
    simp only [xput] at h
    rw [Bool.cond_eq_ite] at h
    split at h
    · injection h with h; subst h
      rw [Tr.get_set]
      by_cases he:x=d
      · subst he;simp
      · rw [if_neg he,if_neg (by simpa using Ne.symm he)]
    · cases h
theorem RecOK.logged {i:Nat} {s:Rec} {tr:List Rec} {t:Mem} {H:LH} (h:RecOK P ops ms N i s tr t H):Logged s.K s.R:=by
  obtain ⟨o,g,_,_,_,_,h1,h2⟩:=h.oper
  cases g with
  | true=>exact (h1 rfl).1
  | false=>rw [(h2 rfl).2];exact Logged.refl _
theorem Tc.full {tr:List Rec} {t:Mem} {H:LH} (h:Tc P ops ms N t0 H0 tr t H):(∀ b,H.get b=Gt H0 tr (fun _=>true) b)∧(∀ d,t.get d=Tt t0 tr (fun _=>true) d):=by
  induction h with
  | nil=>exact ⟨fun _=>rfl,fun _=>rfl⟩
  | cons h hs ht ih =>
    rename_i tr t t' H s
    refine ⟨fun b=>?_,fun d=>?_⟩
    · classical
      rw [q67]
      simp only [Gt,Bool.true_and]
      by_cases hd:s.dom b
      · rw [if_pos hd,q72 hd];rfl
      · rw [if_neg hd,q73 hd];exact ih.1 b
    · rw [q74 ht]
      simp only [Tt,true_and]
      rw [ih.2 d]
theorem Tc.next {tr:List Rec} {t:Mem} {H:LH} (h:Tc P ops ms N t0 H0 tr t H):H0.next≤H.next:=by
  induction h with
  | nil=>exact Nat.le_refl _
  | cons h hs ht ih =>
    rename_i tr t t' H s
    have:=(hs.logged).next
    show H0.next≤s.R.next
    rw [hs.next] at this;omega
theorem Tc.bnd (h0:∀ b cs,H0.get b=some cs→b<H0.next) {tr:List Rec} {t:Mem} {H:LH} (h:Tc P ops ms N t0 H0 tr t H):∀ b cs,H.get b=some cs→b<H.next:=by
  induction h with
  | nil=>exact h0
  | cons h hs ht ih =>
    rename_i tr t t' H s
    intro b cs hb
    classical
    rw [q67] at hb
    have hl:=hs.logged
    show b<s.R.next
    split at hb
    · exact hl.bnd (fun x c hx=>by rw [hs.next];exact ih x c (hs.get x c hx)) b cs hb
    · have := ih b cs hb
      have h2:=hl.next
      rw [hs.next] at h2;omega
theorem Tc.wn {tr:List Rec} {t:Mem} {H:LH} (h:Tc P ops ms N t0 H0 tr t H):∀ j b,Wn tr j b→H0.next≤b∧b<H.next:=by
  induction h with
  | nil=>intro j b hw;exact hw.elim
  | cons h hs ht ih =>
    rename_i tr t t' H s
    intro j b hw
    have h2:=(hs.logged).next
    have h3:=h.next
    have h4:=hs.next
    show H0.next≤b∧b<s.R.next
    rcases hw with ⟨_,h5,h6⟩ | hw
    · omega
    · have:=ih j b hw;omega
theorem Tc.wn_one {tr:List Rec} {t:Mem} {H:LH} (h:Tc P ops ms N t0 H0 tr t H):∀ j k b,Wn tr j b→Wn tr k b→j=k:=by
  induction h with
  | nil=>intro j k b hw;exact hw.elim
  | cons h hs ht ih =>
    rename_i tr t t' H s
    intro j k b h1 h2
    have h4:=hs.next
    rcases h1 with ⟨e1,a1,a2⟩ | h1<;>rcases h2 with ⟨e2,c1,c2⟩ | h2
    · rw [e1,e2]
    · have:=h.wn k b h2;omega
    · have:=h.wn j b h1;omega
    · exact ih j k b h1 h2
theorem q75 {s:Rec} {tr:List Rec} {b:Nat} (hb:s.K.next≤b∧b<s.R.next):∀ pre:List Rec,Wn (pre++s :: tr) tr.length b
  | []=>.inl ⟨rfl,hb⟩
  | _ :: p=>.inr (q75 hb p)
def Aft (ms:List Nat) (s:Rec) (i:Nat):List Rec→Prop
  | []=>True
  | e :: p=>((ms.getD (i+1+p.length) 0).testBit i=true∨Apart2 e s)∧s.R.next≤e.K.next∧Aft ms s i p
theorem q76 {m:Nat} {s e:Rec} {tr:List Rec}:∀ pre:List Rec,chk m s (pre++e :: tr)→m.testBit tr.length=true∨Apart2 s e
  | [],h=>h.1
  | _ :: p,h=>q76 p h.2
structure Spl (P:Program) (ops:Array Oper) (ms:List Nat) (N:Nat) (t0:Mem) (H0:LH) (tr:List Rec) (H:LH) (i:Nat) (pre:List Rec) (s:Rec) (tr':List Rec) (t':Mem) (H':LH):Prop where
  eq:tr=pre++s :: tr'
  len:tr'.length=i
  tc:Tc P ops ms N t0 H0 tr' t' H'
  ok:RecOK P ops ms N i s tr' t' H'
  aft:Aft ms s i pre
  le:s.R.next≤H.next
theorem Tc.at {tr:List Rec} {t:Mem} {H:LH} (h:Tc P ops ms N t0 H0 tr t H):∀ i,i<tr.length→∃ pre s tr' t' H',Spl P ops ms N t0 H0 tr H i pre s tr' t' H':=by
  induction h with
  | nil=>intro i hi;simp at hi
  | cons h hs ht ih =>
    rename_i tr t t' H s
    intro i hi
    rcases Nat.lt_or_ge i tr.length with hlt | hge
    · obtain ⟨pre, e, tr', t2, H2, sp⟩ := ih i hlt
      have hlen:tr.length=i+1+pre.length:=by rw [sp.eq,List.length_append,List.length_cons,sp.len];omega
      refine ⟨s :: pre,e,tr',t2,H2,by rw [sp.eq];rfl,sp.len,sp.tc,sp.ok,⟨?_,?_,sp.aft⟩,?_⟩
      · have hc := hs.chk
        rw [sp.eq] at hc
        have:=q76 pre hc
        rw [sp.len] at this
        rw [← sp.eq,hlen] at this
        exact this
      · rw [hs.next];exact sp.le
      · have := (hs.logged).next
        show e.R.next≤s.R.next
        rw [hs.next] at this;have:=sp.le;omega
    · simp only [List.length_cons] at hi
      have he:i=tr.length:=by omega
      subst he
      exact ⟨[],s,tr,t,H,rfl,rfl,h,hs,trivial,Nat.le_refl _⟩
section split
variable {tr' pre:List Rec} {s:Rec} {i:Nat} {L:Nat→Bool}
theorem q77 (hlen:tr'.length=i) (hn:s.K.next≤s.R.next) (hno:∀ j,i<j→L j=true→(ms.getD j 0).testBit i=false) {b:Nat} (hb:((s.K.get b).isSome=true∧b<s.K.next)∨s.dom b) :
    ∀ pre,Aft ms s i pre→Gt H0 (pre++s :: tr') L b=Gt H0 (s :: tr') L b
  | [],_=>rfl
  | e :: p, ha => by
    rw [List.cons_append,Gt]
    have hidx:(p++s :: tr').length=i+1+p.length:=by rw [List.length_append,List.length_cons,hlen];omega
    rw [hidx]
    cases hL:L (i+1+p.length) with
    | false=>exact q77 hlen hn hno hb p ha.2.2
    | true =>
      have hm:=hno _ (by omega) hL
      have hap:Apart2 e s:=ha.1.resolve_left (by rw [hm];simp)
      have hnd:¬ e.dom b:=by
        intro hd
        have hlow:=ha.2.1
        rcases hd with hl | ⟨h1,h2⟩
        · have := hap.kept b hl
          rcases hb with ⟨hk,_⟩ | hk
          · rw [this.1] at hk;simp at hk
          · exact this.2 hk
        · rcases hb with ⟨_, hk⟩ | hk
          · omega
          · rcases hk with hk | hk
            · exact hap.other b hk (.inr ⟨h1,h2⟩)
            · omega
      rw [q73 hnd]
      exact q77 hlen hn hno hb p ha.2.2
theorem q78 (hlen:tr'.length=i) (hno:∀ j,i<j→L j=true→(ms.getD j 0).testBit i=false) {d:Nat} (hd:d∈s.us∨s.d=some d) :
    ∀ pre,Aft ms s i pre→Tt t0 (pre++s :: tr') L d=Tt t0 (s :: tr') L d
  | [],_=>rfl
  | e :: p, ha => by
    rw [List.cons_append,Tt]
    have hidx:(p++s :: tr').length=i+1+p.length:=by rw [List.length_append,List.length_cons,hlen];omega
    rw [hidx,if_neg]
    · exact q78 hlen hno hd p ha.2.2
    · rintro ⟨hL, he⟩
      have hm:=hno _ (by omega) hL
      have hap:Apart2 e s:=ha.1.resolve_left (by rw [hm];simp)
      rcases hd with hd | hd
      · exact hap.us' d he hd
      · exact hap.dd d he hd
theorem q79 {m:Nat} (hL:∀ j,m.testBit j=true→L j=true) {b:Nat} (hb:(s.K.get b).isSome=true):∀ tr:List Rec,chk m s tr→Gt H0 tr L b=Gt H0 tr (fun _=>true) b
  | [],_=>rfl
  | e :: p, h => by
    rw [Gt,Gt,q79 hL hb p h.2]
    rcases h.1 with h1 | h1
    · rw [hL _ h1]
    · have hnd : ¬ e.dom b := fun hd => by rw [h1.unseen b hd] at hb; simp at hb
      rw [q73 hnd];simp
theorem q7a {m:Nat} (hL:∀ j,m.testBit j=true→L j=true) {d:Nat} (hd:d∈s.us):∀ tr:List Rec,chk m s tr→Tt t0 tr L d=Tt t0 tr (fun _=>true) d
  | [],_=>rfl
  | e :: p, h => by
    rw [Tt,Tt,q7a hL hd p h.2]
    rcases h.1 with h1 | h1
    · rw [hL _ h1]
    · have hne : e.d ≠ some d := fun he => h1.us d he hd
      rw [if_neg (fun h=>hne h.2),if_neg (fun h=>hne h.2)]
theorem q7b {L':Nat→Bool} {b:Nat}:∀ tr:List Rec,(∀ j,j<tr.length→L j=L' j)→Gt H0 tr L b=Gt H0 tr L' b
  | [],_=>rfl
  | e :: p,h=>by rw [Gt,Gt,h p.length (by simp),q7b p (fun j hj=>h j (by simp;omega))]
theorem q7c {L':Nat→Bool} {b:Nat}:∀ tr:List Rec,(∀ j,j<tr.length→L j=L' j)→Tt t0 tr L b=Tt t0 tr L' b
  | [],_=>rfl
  | e :: p,h=>by rw [Tt,Tt,h p.length (by simp),q7c p (fun j hj=>h j (by simp;omega))]
theorem q7d {L':Nat→Bool} (hlen:tr'.length=i) (hLL:∀ j,j≠i→L' j=L j) {b:Nat} (hb:¬ s.dom b):∀ pre:List Rec,Gt H0 (pre++s :: tr') L' b=Gt H0 (pre++s :: tr') L b
  | [] => by
    rw [List.nil_append,Gt,Gt,q73 hb,Bool.and_false,Bool.and_false]
    exact q7b tr' (fun j hj=>hLL j (by omega))
  | e :: p => by
    rw [List.cons_append,Gt,Gt,hLL _ (by rw [List.length_append,List.length_cons,hlen];omega),q7d hlen hLL hb p]
theorem q7e {L':Nat→Bool} (hlen:tr'.length=i) (hLL:∀ j,j≠i→L' j=L j) {b:Nat} (hb:s.d≠some b):∀ pre:List Rec,Tt t0 (pre++s :: tr') L' b=Tt t0 (pre++s :: tr') L b
  | [] => by
    rw [List.nil_append,Tt,Tt,if_neg (fun h=>hb h.2),if_neg (fun h=>hb h.2)]
    exact q7c tr' (fun j hj=>hLL j (by omega))
  | e :: p => by
    rw [List.cons_append,Tt,Tt,hLL _ (by rw [List.length_append,List.length_cons,hlen];omega),q7e hlen hLL hb p]
end split
structure Inv (D:List Deferred) (M N:Nat) (ms:List Nat) (t0:Mem) (H0:LH) (η0:Emb) (w0:World) (tr:List Rec) (Hn:LH) (L:Nat→Bool) (η:Emb) (a:Act) (w:World):Prop where
  cl:∀ j k,L j=true→(ms.getD j 0).testBit k=true→L k=true
  live:∀ b cs,Gt H0 tr L b=some cs→Lv η w b cs
  inj:∀ b1 b2 cs1 cs2 L1 L2,Gt H0 tr L b1=some cs1→Gt H0 tr L b2=some cs2→η.loc b1=some L1→η.loc b2=some L2→L1.block=L2.block→b1=b2
  lt:∀ b cs,Gt H0 tr L b=some cs→b<Hn.next
  dom:∀ b,H0.next≤b→b<M→(∀ j,L j=true→¬ Wn tr j b)→η.loc b=none∧η.hdr b=none
  le:η0.le η
  win:∀ b,(b<H0.next∨Hn.next≤b)→η.loc b=η0.loc b∧η.hdr b=η0.hdr b
  tmp:∀ d l,Tt t0 tr L d=some l→∃ v,a.tmps[d]?=some v∧VR η l v
  size:N≤a.tmps.size
  defers:a.defers=D
  wsize:w0.heap.size≤w.heap.size
  same:∀ k,k<w0.heap.size→¬ LB H0 η0 k→w.heap[k]?=w0.heap[k]?
  lb:∀ b cs Lc,Gt H0 tr L b=some cs→η.loc b=some Lc→LB H0 η0 Lc.block∨w0.heap.size≤Lc.block
  fz:∀ k ob,η.fz k=some ob→w.heap[k]?=some ob
  sep:∀ b cs Lc,Gt H0 tr L b=some cs→η.loc b=some Lc→η.fz Lc.block=none
  ok:η.ok
  fzn:∀ k ob,η.fz k=some ob→η0.fz k=some ob∨LB H0 η0 k∨w0.heap.size≤k
  os:w.os=w0.os
  tape:w.tape=w0.tape
  output:w.output=w0.output
  drawn:w0.drawn≤w.drawn
variable {D:List Deferred} {η0:Emb} {w0:World}
theorem q7f (hb0:∀ b cs,H0.get b=some cs→b<H0.next) {tr:List Rec} {tn:Mem} {Hn:LH} (htc:Tc P ops ms N t0 H0 tr tn Hn) (hM:Hn.next≤M)
    {i:Nat} (hi:i<tr.length) {L L':Nat→Bool} (hLi:L i=false) (hL':L' i=true) (hLL:∀ j,j≠i→L' j=L j) (hanc:∀ k,(ms.getD i 0).testBit k=true→L k=true)
    {η:Emb} {a:Act} {w:World} (inv:Inv D M N ms t0 H0 η0 w0 tr Hn L η a w) {Q:Exit→Act→World→Prop} {K:Act→World→Prop}
    (hK:∀ a' w' η',Inv D M N ms t0 H0 η0 w0 tr Hn L' η' a' w'→K a' w'):wpOp P ops Q i K a w:=by
  obtain ⟨pre,s,tr',t',H',sp⟩:=htc.at i hi
  have heq:=sp.eq
  have hlog:=sp.ok.logged
  have hKR:=hlog.next
  have hbH:=sp.tc.bnd hb0
  have hno:∀ j,i<j→L j=true→(ms.getD j 0).testBit i=false:=fun j hj hLj=>by
    cases hm:(ms.getD j 0).testBit i with
    | false=>rfl
    | true=>have:=inv.cl j i hLj hm;rw [hLi] at this;cases this
  have hno':∀ j,i<j→L' j=true→(ms.getD j 0).testBit i=false:=fun j hj hLj=>hno j hj (by rw [hLL j (by omega)] at hLj;exact hLj)
  have hKH:∀ b cs,s.K.get b=some cs→Gt H0 tr L b=some cs:=fun b cs hb=>by
    have h1:=sp.ok.get b cs hb
    have hlt:b<s.K.next:=by rw [sp.ok.next];exact hbH b cs h1
    rw [heq,q77 sp.len hKR hno (.inl ⟨by rw [hb];rfl,hlt⟩) pre sp.aft,Gt,sp.len,hLi,Bool.false_and,cond_false,q79 hanc (by rw [hb];rfl) tr' sp.ok.chk,← sp.tc.full.1 b]
    exact h1
  have hTd:∀ d,d∈s.us→Tt t0 tr L d=t'.get d:=fun d hd=>by
    rw [heq,q78 sp.len hno (.inl hd) pre sp.aft,Tt,sp.len,if_neg (by rw [hLi];simp),q7a hanc hd tr' sp.ok.chk,← sp.tc.full.2 d]
  have hKlt:∀ b cs,s.K.get b=some cs→b<s.K.next:=fun b cs hb=>by rw [sp.ok.next];exact hbH b cs (sp.ok.get b cs hb)
  have hnx:=sp.tc.next
  have hle:=sp.le
  have hkn:=sp.ok.next
  have hr:HR s.R.next η s.K w:=by
    refine ⟨fun b h1 h2=>?_,hKlt,fun b cs hb=>inv.live b cs (hKH b cs hb),fun b1 b2 c1 c2 L1 L2 g1 g2=>inv.inj b1 b2 c1 c2 L1 L2 (hKH _ _ g1) (hKH _ _ g2),inv.fz,fun k ⟨b,cs,Lc,hb,hL,hk⟩=>hk ▸ inv.sep b cs Lc (hKH b cs hb) hL,inv.ok⟩
    refine inv.dom b (by omega) (by omega) fun j hLj hw=>?_
    have hwi:Wn tr i b:=by rw [heq,← sp.len];exact q75 ⟨h1,h2⟩ pre
    have:=htc.wn_one j i b hw hwi
    rw [this,hLi] at hLj;cases hLj
  -- what comes behind the operation
  have main:∀ v' w' η',VR η' s.l v'→Adv s.R.next s.K η w s.R η' w'→Inv D M N ms t0 H0 η0 w0 tr Hn L' η' (a.put s.d v') w':=by
    intro v' w' η' hv hadv
    have hG1:∀ b,s.dom b→Gt H0 tr L' b=s.R.get b:=fun b hb=>by
      rw [heq,q77 sp.len hKR hno' (.inr hb) pre sp.aft,Gt,sp.len,hL',q72 hb];rfl
    have hG2:∀ b,¬ s.dom b→Gt H0 tr L' b=Gt H0 tr L b:=fun b hb=>by rw [heq];exact q7d sp.len hLL hb pre
    have hkeep:∀ b cs,¬ s.dom b→s.K.get b=some cs→s.R.get b=some cs:=fun b cs hb hk=>by
      obtain ⟨l,hl,hs⟩:=hlog.log
      rw [hs b (hKlt b cs hk) (fun hm=>hb (.inl (by rw [hl];exact List.mem_append_left _ hm)))];exact hk
    have hcase:∀ b cs,Gt H0 tr L' b=some cs→(s.dom b∧s.R.get b=some cs)∨(¬ s.dom b∧Gt H0 tr L b=some cs):=fun b cs hb=>by
      by_cases hd:s.dom b
      · rw [hG1 b hd] at hb;exact .inl ⟨hd,hb⟩
      · rw [hG2 b hd] at hb;exact .inr ⟨hd,hb⟩
    have hmid:∀ b cs Lc,¬ s.dom b→Gt H0 tr L b=some cs→η.loc b=some Lc→LB s.K η Lc.block→s.K.get b=some cs:=fun b cs Lc hd hg hL ⟨b3,c3,L3,g3,e3,hb3⟩=>by
      have:=inv.inj b3 b c3 cs L3 Lc (hKH b3 c3 g3) hg e3 hL hb3
      subst this
      rw [hKH _ _ g3] at hg;injection hg with hg;rw [← hg];exact g3
    have hwin:∀ b,¬ s.dom b→η'.loc b=η.loc b∧η'.hdr b=η.hdr b:=fun b hd=>hadv.win b (by
      rcases Nat.lt_or_ge b s.K.next with h1 | h1
      · exact .inl h1
      · rcases Nat.lt_or_ge b s.R.next with h2 | h2
        · exact absurd (.inr ⟨h1,h2⟩) hd
        · exact .inr h2)
    refine ⟨fun j k hj hk=>?_,fun b cs hb=>?_,fun b1 b2 c1 c2 L1 L2 g1 g2 e1 e2 he=>?_,fun b cs hb=>?_,fun b h1 h2 hnw=>?_,Emb.le_trans inv.le hadv.le,fun b hb=>?_,fun d l hl=>?_,by rw [q5l];exact inv.size,by rw [q5m];exact inv.defers,
      Nat.le_trans inv.wsize hadv.size,fun k hk hn=>?_,fun b cs Lc hb hL=>?_,hadv.hr.fz,fun b cs Lc hb hL=>?_,hadv.hr.ok,fun k ob hk=>?_,hadv.os.trans inv.os,hadv.tape.trans inv.tape,hadv.output.trans inv.output,Nat.le_trans inv.drawn hadv.drawn⟩
    · by_cases hji : j = i
      · subst hji
        have h1:=hanc k hk
        by_cases hki:k=j
        · subst hki;exact hL'
        · rw [hLL k hki];exact h1
      · rw [hLL j hji] at hj
        have h1:=inv.cl j k hj hk
        by_cases hki:k=i
        · subst hki;exact hL'
        · rw [hLL k hki];exact h1
    · rcases hcase b cs hb with ⟨hd, hR⟩ | ⟨hd, hg⟩
      · exact hadv.hr.live b cs hR
      · by_cases hex : ∃ Lc, η.loc b = some Lc ∧ LB s.K η Lc.block
        · obtain ⟨Lc, hL, hlb⟩ := hex
          exact hadv.hr.live b cs (hkeep b cs hd (hmid b cs Lc hd hg hL hlb))
        · exact (inv.live b cs hg).move hadv.le (hwin b hd).1 hadv.size fun Lc hL=>hadv.same _ ((inv.live b cs hg).lt hL) fun hlb=>hex ⟨Lc,hL,hlb⟩
    · have mixed:∀ b1 b2 c1 c2 L1 L2,s.R.get b1=some c1→η'.loc b1=some L1→¬ s.dom b2→Gt H0 tr L b2=some c2→η'.loc b2=some L2→L1.block=L2.block→b1=b2:=by
        intro b1 b2 c1 c2 L1 L2 hR1 e1 hd2 hg2 e2 he
        have e2':=e2
        rw [(hwin b2 hd2).1] at e2'
        rcases hadv.lb L1.block ⟨b1,c1,L1,hR1,e1,rfl⟩ with hlb | hlb
        · rw [he] at hlb
          exact hadv.hr.inj b1 b2 c1 c2 L1 L2 hR1 (hkeep b2 c2 hd2 (hmid b2 c2 L2 hd2 hg2 e2' hlb)) e1 e2 he
        · have:=(inv.live b2 c2 hg2).lt e2';omega
      rcases hcase b1 c1 g1 with ⟨hd1,hR1⟩ | ⟨hd1,hg1⟩<;>rcases hcase b2 c2 g2 with ⟨hd2,hR2⟩ | ⟨hd2,hg2⟩
      · exact hadv.hr.inj _ _ _ _ _ _ hR1 hR2 e1 e2 he
      · exact mixed b1 b2 c1 c2 L1 L2 hR1 e1 hd2 hg2 e2 he
      · exact (mixed b2 b1 c2 c1 L2 L1 hR2 e2 hd1 hg1 e1 he.symm).symm
      · rw [(hwin b1 hd1).1] at e1; rw [(hwin b2 hd2).1] at e2
        exact inv.inj _ _ _ _ _ _ hg1 hg2 e1 e2 he
    · rcases hcase b cs hb with ⟨hd, hR⟩ | ⟨hd, hg⟩
      · have:=hadv.hr.lt b cs hR;omega
      · exact inv.lt b cs hg
    · have hwi : ¬ (s.K.next ≤ b ∧ b < s.R.next) := fun hw => hnw i hL' (by rw [heq, ← sp.len]; exact q75 hw pre)
      have hw2:=hadv.win b (by omega)
      rw [hw2.1,hw2.2]
      refine inv.dom b h1 h2 fun j hLj=>hnw j ?_
      by_cases hji:j=i
      · subst hji;exact hL'
      · rw [hLL j hji];exact hLj
    · have hw2 := hadv.win b (by omega)
      rw [hw2.1,hw2.2];exact inv.win b hb
    · by_cases hd : s.d = some d
      · rw [heq, q78 sp.len hno' (.inr hd) pre sp.aft, Tt, sp.len, if_pos ⟨hL', hd⟩] at hl
        injection hl with hl;subst hl
        have hdN:Nat.lt d N:=sp.ok.dst d hd
        have hdS:Nat.lt d a.tmps.size:=Nat.lt_of_lt_of_le hdN inv.size
        rw [hd]
        exact ⟨v',by simp only [Act.put];rw [Array.getElem?_setIfInBounds,if_pos rfl];exact if_pos hdS,hv⟩
      · rw [heq, q7e sp.len hLL hd pre, ← heq] at hl
        obtain ⟨v,h1,h2⟩:=inv.tmp d l hl
        refine ⟨v,?_,h2.mono hadv.le⟩
        cases hsd:s.d with
        | none=>exact h1
        | some e =>
          simp only [Act.put]
          rw [Array.getElem?_setIfInBounds,if_neg (fun he=>hd (by rw [hsd,he]))];exact h1
    · rw [← inv.same k hk hn]
      refine hadv.same k (Nat.lt_of_lt_of_le hk inv.wsize) fun ⟨b3,c3,L3,g3,e3,hb3⟩=>?_
      rcases inv.lb b3 c3 L3 (hKH b3 c3 g3) e3 with h1 | h1
      · rw [hb3] at h1;exact hn h1
      · omega
    · rcases hcase b cs hb with ⟨hd, hR⟩ | ⟨hd, hg⟩
      · rcases hadv.lb Lc.block ⟨b, cs, Lc, hR, hL, rfl⟩ with ⟨b3, c3, L3, g3, e3, hb3⟩ | h1
        · rw [← hb3];exact inv.lb b3 c3 L3 (hKH b3 c3 g3) e3
        · exact .inr (Nat.le_trans inv.wsize h1)
      · rw [(hwin b hd).1] at hL
        exact inv.lb b cs Lc hg hL
    · rcases hcase b cs hb with ⟨hd, hR⟩ | ⟨hd, hg⟩
      · exact hadv.hr.sep _ ⟨b,cs,Lc,hR,hL,rfl⟩
      · have hL2 := hL
        rw [(hwin b hd).1] at hL2
        cases hf:η'.fz Lc.block with
        | none=>rfl
        | some ob =>
          exfalso
          rcases hadv.fzn _ _ hf with h1 | h1 | h1
          · rw [inv.sep b cs Lc hg hL2] at h1;cases h1
          · have := hadv.hr.sep _ ⟨b, cs, Lc, hkeep b cs hd (hmid b cs Lc hd hg hL2 h1), hL, rfl⟩
            rw [hf] at this;cases this
          · have:=(inv.live b cs hg).lt hL2;omega
    · rcases hadv.fzn k ob hk with h1 | ⟨b3, c3, L3, g3, e3, hb3⟩ | h1
      · exact inv.fzn k ob h1
      · rcases inv.lb b3 c3 L3 (hKH b3 c3 g3) e3 with h2 | h2
        · rw [hb3] at h2;exact .inr (.inl h2)
        · rw [hb3] at h2;exact .inr (.inr h2)
      · exact .inr (.inr (Nat.le_trans inv.wsize h1))
  obtain ⟨o,g,ho,hg,hus,hd,h1,h2⟩:=sp.ok.oper
  have hwant:=q5z (a:=a) (η:=η) (ops:=ops) (o:=o) (t:=t') (g:=g) (fun j want d hgj hdj l hl=>by
    have hmem:d∈s.us:=by
      rw [hus];unfold Oper.looksAt;rw [hgj]
      refine List.mem_append_right _ ?_
      show d∈((ops[j]?).bind (·.dst)).toList
      rw [hdj];simp
    exact inv.tmp d l (by rw [hTd d hmem];exact hl)) hg
  unfold wpOp
  rw [ho]
  simp only []
  rw [hwant]
  cases g with
  | true =>
    rw [if_pos rfl]
    have hE:∀ x,VR η (evR s.us t' x) (a.eval x):=by
      intro x
      cases x with
      | tmp n =>
        simp only [evR]
        cases hm:memB s.us n with
        | false=>exact .undef _
        | true =>
          rw [cond_true]
          simp only [xev,Act.eval]
          cases hl:t'.get n with
          | none=>exact .undef _
          | some l =>
            obtain ⟨v,e1,e2⟩:=inv.tmp n l (by rw [hTd n (q63.1 hm)];exact hl)
            simp [Array.getD_eq_getD_getElem?,e1];exact e2
      | const v=>exact qj η v
      | global g=>exact .undef _
      | func f =>
        have:=VR.fn (η:=η) (f:=f) (cs:=[]) (vs:=[]) rfl (fun i c v hc=>by simp at hc)
        exact this
    refine .inl ((h1 rfl).2 s.R.next η w a hr (Nat.le_refl _) hE _ _ fun v' w' η' hv hadv=>?_)
    rw [← hd]
    exact hK _ _ _ (main v' w' η' hv hadv)
  | false =>
    rw [if_neg (by simp)]
    obtain ⟨e1,e2⟩:=h2 rfl
    rw [← hd]
    refine hK _ _ _ (main undef w η (by rw [e1];exact q5y) ?_)
    have hrr:=hr
    rw [e2] at hrr ⊢
    exact Adv.refl hrr
end
end Go.Tx

namespace Go.Tx
open Go
section
variable {D:List Deferred} {P:Program} {T:Tys} {C:Orc} {M N:Nat} {β:Type} {b:β}
theorem q7g {ms:List Nat} {o:Oper} {k:Nat} (h:(q6r ms o).testBit k=true):∃ e∈o.after,Region.binds .any e=true∧(k=e.on∨(ms.getD e.on 0).testBit k=true):=by
  have key:∀ (l:List Edge) (s:Nat),(l.foldl (fun s e=>bif Region.binds .any e then s ||| 2 ^ e.on ||| ms.getD e.on 0 else s) s).testBit k=true→s.testBit k=true ∨ ∃ e∈l,Region.binds .any e=true∧(k=e.on∨(ms.getD e.on 0).testBit k=true):=by
    intro l
    induction l with
    | nil=>intro s h;exact .inl h
    | cons e l ih =>
      intro s h
      rw [List.foldl_cons] at h
      rcases ih _ h with h1 | ⟨e',h1,h2⟩
      · cases hb : Region.binds .any e with
        | false=>rw [hb,cond_false] at h1;exact .inl h1
        | true =>
          rw [hb,cond_true,Nat.testBit_or,Nat.testBit_or,Bool.or_eq_true,Bool.or_eq_true] at h1
          rcases h1 with (h1 | h1) | h1
          · exact .inl h1
          · rw [Nat.testBit_two_pow, decide_eq_true_eq] at h1
            exact .inr ⟨e,List.mem_cons_self ..,hb,.inl h1.symm⟩
          · exact .inr ⟨e,List.mem_cons_self ..,hb,.inr h1⟩
      · exact .inr ⟨e',List.mem_cons_of_mem _ h1,h2⟩
  rcases key o.after.toList 0 h with h1 | ⟨e,h1,h2⟩
  · simp at h1
  · exact ⟨e,by simpa using h1,h2⟩
theorem q7h:∀ (l:List Oper) (ms:List Nat),(ancs l ms).length=ms.length+l.length∧(∀ j,j<ms.length→(ancs l ms).getD j 0=ms.getD j 0) ∧
    ∀ j o,l[j]?=some o→∃ ms',(ancs l ms).getD (ms.length+j) 0=q6r ms' o∧∀ k,k<ms.length+j→ms'.getD k 0=(ancs l ms).getD k 0
  | [],ms=>⟨rfl,fun _ _=>rfl,fun j o h=>by simp at h⟩
  | o :: l, ms => by
    obtain ⟨h1,h2,h3⟩:=q7h l (ms ++ [q6r ms o])
    simp only [List.length_append,List.length_cons,List.length_nil,Nat.zero_add] at h1 h2 h3
    rw [ancs]
    have hpre:∀ j,j<ms.length→(ancs l (ms ++ [q6r ms o])).getD j 0=ms.getD j 0:=fun j hj=>by
      rw [h2 j (by omega)];simp [List.getElem?_append_left hj]
    refine ⟨by rw [h1,List.length_cons];omega,hpre,fun j o' hj=>?_⟩
    cases j with
    | zero =>
      simp only [List.getElem?_cons_zero,Option.some.injEq] at hj;subst hj
      refine ⟨ms,?_,fun k hk=>(hpre k hk).symm⟩
      rw [Nat.add_zero,h2 ms.length (by omega)];simp
    | succ j =>
      simp only [List.getElem?_cons_succ] at hj
      obtain ⟨ms',e1,e2⟩:=h3 j o' hj
      refine ⟨ms',?_,fun k hk=>e2 k (by omega)⟩
      rw [← e1];congr 1;omega
theorem q7i:∀ (l:List Oper) (i:Nat),q6s l i=true→∀ j o,l[j]?=some o→∀ e∈o.after,Region.binds .any e=true→e.on<i+j
  | [],_,_,j,o,h=>by simp at h
  | o :: l, i, h, j, o', hj => by
    simp only [q6s,Bool.and_eq_true,List.all_eq_true] at h
    cases j with
    | zero =>
      simp only [List.getElem?_cons_zero,Option.some.injEq] at hj;subst hj
      intro e he hb
      have:=h.1 e (by simpa using he)
      rw [hb] at this
      simpa [Nat.blt_eq] using this
    | succ j =>
      simp only [List.getElem?_cons_succ] at hj
      intro e he hb
      have:=q7i l (i+1) h.2 j o' hj e he hb
      omega
theorem q7j:∀ (n:Nat) (c:List Nat),c.Nodup→(∀ j∈c,j<n)→c.length≤n
  | 0, c, _, h => by
    cases c with
    | nil=>exact Nat.le_refl _
    | cons x c=>exact absurd (h x (List.mem_cons_self ..)) (Nat.not_lt_zero _)
  | n + 1, c, hc, h => by
    by_cases hn:n∈c
    · have h1:=q7j n (c.erase n) (hc.erase n) (fun j hj=>by
        have:=(List.Nodup.mem_erase_iff hc).1 hj
        have h2:=h j this.2
        have h3:=this.1
        omega)
      rw [List.length_erase_of_mem hn] at h1
      omega
    · have:=q7j n c hc (fun j hj=>by
        have h2:=h j hj
        have h3:j≠n:=fun he=>hn (he ▸ hj)
        omega)
      omega
theorem q7k (hm:P.follows .mixedOrders=true) (hT:TysOK P T) (hC:OrcOK P C) {ops:Array Oper} {t:Mem} {H:LH} {k:Mem→LH→Option β} (hx0:q6w T C N ops t H k=some b):∃ t' H',k t' H'=some b∧Logged H H' ∧
    ∀ M η a w Q,H'.next≤M→SR M N D η t H a w→(∀ a' w' η',SR M N D η' t' H' a' w'→Adv M H η w H' η' w'→Q .normal a' w')→wpAny P .any ops Q ops.size (Array.replicate ops.size false) a { w with drawn:=w.drawn+1 }:=by
  unfold q6w at hx0
  cases hro:q6v ops with
  | false=>rw [hro] at hx0;cases hx0
  | true =>
    rw [hro,cond_true] at hx0
    unfold q6v at hro
    rw [Bool.and_eq_true] at hro
    have hed:=hro.1
    obtain ⟨tr,t',H',hk,htc,hlen⟩:=q71 (t0:=t) (H0:=H) hT hC ops.toList (tr:=[]) hx0 .nil rfl trivial hro.2 (fun j=>by simp)
    refine ⟨t',H',hk,?_,fun M η a w Q hM hs hQ=>?_⟩
    · clear hlen hk hx0
      induction htc with
      | nil=>exact Logged.refl _
      | cons h hs ht ih =>
        rename_i tr t1 t2 H1 s
        refine ih.trans ?_
        have hl:=hs.logged
        refine ⟨by show H1.next≤s.R.next;have:=hl.next;rw [hs.next] at this;exact this,⟨s.R.log,rfl,fun b hb hn=>?_⟩,fun hb b cs hg=>?_⟩
        · classical
          rw [q67,if_neg]
          rintro (h1 | h1)
          · exact hn h1
          · have:=hs.next;omega
        · classical
          rw [q67] at hg
          show b<s.R.next
          split at hg
          · exact hl.bnd (fun x c hx=>by rw [hs.next];exact hb x c (hs.get x c hx)) b cs hg
          · have:=hb b cs hg;have h2:=hl.next;rw [hs.next] at h2;omega
    simp only [Nat.zero_add,Array.length_toList] at hlen
    generalize hms:ancs ops.toList []=ms at htc
    obtain ⟨a1,a2,a3⟩:=q7h ops.toList []
    rw [hms] at a1 a2 a3
    have hedges:=q7i ops.toList 0 hed
    have hanc:∀ i o,ops[i]?=some o→∀ k,(ms.getD i 0).testBit k=true→∃ e∈o.after,Region.binds .any e=true∧(k=e.on∨(ms.getD e.on 0).testBit k=true):=by
      intro i o ho k hk
      obtain ⟨ms',e1,e2⟩:=a3 i o (by simpa using ho)
      simp only [List.length_nil,Nat.zero_add] at e1 e2
      rw [e1] at hk
      obtain ⟨e,he,hb,h⟩:=q7g hk
      have hlt:=hedges i o (by simpa using ho) e he hb
      refine ⟨e,he,hb,h.imp id fun h=>?_⟩
      rw [← e2 e.on (by omega)];exact h
    have hfar:∀ i,ops.size≤i→ms.getD i 0=0:=fun i hi=>by
      rw [List.getD_eq_getElem?_getD,List.getElem?_eq_none (by rw [a1];simpa using hi)];rfl
    -- the invariant gives the end
    have fin:∀ (L:Nat→Bool) η' a' w',(∀ j,j<tr.length→L j=true)→Inv D M N ms t H η w tr H' L η' a' w'→Q .normal a' w':=by
      intro L η' a' w' hL inv
      have hG:∀ b,Gt H tr L b=H'.get b:=fun b=>by rw [htc.full.1 b];exact q7b tr (fun j hj=>hL j hj)
      have hT:∀ d,Tt t tr L d=t'.get d:=fun d=>by rw [htc.full.2 d];exact q7c tr (fun j hj=>hL j hj)
      have hr:HR M η' H' w':=by
        refine ⟨fun b h1 h2=>?_,fun b cs hb=>inv.lt b cs (by rw [hG];exact hb),fun b cs hb=>inv.live b cs (by rw [hG];exact hb),fun b1 b2 c1 c2 L1 L2 g1 g2=>inv.inj b1 b2 c1 c2 L1 L2 (by rw [hG];exact g1) (by rw [hG];exact g2),inv.fz,fun k ⟨b,cs,Lc,hb,hL,hk⟩=>hk ▸ inv.sep b cs Lc (by rw [hG];exact hb) hL,inv.ok⟩
        have hw2:=inv.win b (.inr h1)
        rw [hw2.1,hw2.2]
        exact hs.hr.dom b (Nat.le_trans htc.next h1) h2
      refine hQ a' w' η' ⟨hr,fun d l hl=>inv.tmp d l (by rw [hT];exact hl),inv.size,inv.defers⟩ ⟨inv.le,inv.win,htc.next,hr,inv.wsize,inv.same,fun k ⟨b,cs,Lc,hb,hL2,hk⟩=>?_,inv.fzn,inv.os,inv.tape,inv.output,inv.drawn⟩
      rw [← hk]
      exact inv.lb b cs Lc (by rw [hG];exact hb) hL2
    have run:∀ (f:Nat) (li:Array Bool) η' a' w',li.size=ops.size→(∀ (c:List Nat),c.Nodup→(∀ j∈c,li.getD j true=false)→c.length≤f)→Inv D M N ms t H η w tr H' (fun j=>li.getD j false) η' a' w'→wpAny P .any ops Q f li a' w':=by
      have hready:∀ (li:Array Bool),li.size=ops.size→Region.ready .any ops li=[]→∀ j,j<tr.length→li.getD j false=true:=by
        intro li hsz hr j hj
        have hall:∀ n j,j<n→j<ops.size→li.getD j false=true:=by
          intro n
          induction n with
          | zero=>intro j hj;omega
          | succ n ih =>
            intro j hj hjs
            by_cases hjn:j<n
            · exact ih j hjn hjs
            · cases hlj : li.getD j false with
              | true=>rfl
              | false =>
                exfalso
                have hmem:j∈Region.ready .any ops li:=by
                  refine mem_ready.2 ⟨getD_in (by omega) hlj,ops[j],Array.getElem?_eq_getElem hjs,fun e he hb=>?_⟩
                  have:=hedges j ops[j] (by simp [hjs]) e he hb
                  exact ih e.on (by omega) (by omega)
                rw [hr] at hmem;cases hmem
        exact hall (j+1) j (by omega) (by omega)
      intro f
      induction f with
      | zero =>
        intro li η' a' w' hsz hcnt inv
        have hr:Region.ready .any ops li=[]:=by
          cases hr:Region.ready .any ops li with
          | nil=>rfl
          | cons x xs =>
            have hmem:x∈Region.ready .any ops li:=by rw [hr];exact List.mem_cons_self ..
            have:=hcnt [x] (by simp) (fun j hj=>by simp at hj;subst hj;exact (mem_ready.1 hmem).1)
            simp at this
        exact ⟨hr,fin _ η' a' w' (hready li hsz hr) inv⟩
      | succ f ih =>
        intro li η' a' w' hsz hcnt inv
        refine ⟨fun hr=>fin _ η' a' w' (hready li hsz hr) inv,fun i hi=>?_⟩
        obtain ⟨hli,o,ho,hall⟩:=mem_ready.1 hi
        have his:i<ops.size:=(Array.getElem?_eq_some_iff.1 ho).1
        refine q7f hs.hr.lt htc hM (i:=i) (by omega) (L:=fun j=>li.getD j false) (L':=fun j=>(li.setIfInBounds i true).getD j false) (getD_both hli) ?_ (fun j hj=>getD_set_ne false (Ne.symm hj)) (fun k hk=>?_) inv fun a2 w2 η2 inv2=>?_
        · simp [hsz,his]
        · obtain ⟨e, he, hb, h⟩ := hanc i o ho k hk
          have h1:=hall e he hb
          rcases h with rfl | h
          · exact h1
          · exact inv.cl e.on k h1 h
        · refine ih _ η2 a2 w2 (by simp [hsz]) (fun c hc hcl2 => ?_) inv2
          have hnot:i ∉ c:=fun hm=>by
            have:=hcl2 i hm
            simp [hsz,his] at this
          have:=hcnt (i :: c) (List.nodup_cons.2 ⟨hnot,hc⟩) (fun j hj=>by
            rcases List.mem_cons.1 hj with rfl | hj
            · exact hli
            · have h2 := hcl2 j hj
              rwa [getD_set_ne true (fun he=>hnot (by rw [he];exact hj))] at h2)
          simp at this;omega
    refine run ops.size _ η a _ (by simp) (fun c hc hcf=>?_) ?_
    · have hlt:∀ j∈c,j<ops.size:=fun j hj=>by
        have:=hcf j hj
        rcases Nat.lt_or_ge j ops.size with h | h
        · exact h
        · simp [h] at this
      exact q7j ops.size c hc hlt
    · have hL0 : ∀ j, (Array.replicate ops.size false).getD j false = false := fun j => getD_replicate_false _ _
      have hG0:∀ b,Gt H tr (fun j=>(Array.replicate ops.size false).getD j false) b=H.get b:=fun b=>by
        clear hlen htc fin run
        induction tr with
        | nil=>rfl
        | cons s tr ih=>rw [Gt,hL0,Bool.false_and,cond_false];exact ih
      have hT0:∀ d,Tt t tr (fun j=>(Array.replicate ops.size false).getD j false) d=t.get d:=fun d=>by
        clear hlen htc hG0 fin run
        induction tr with
        | nil=>rfl
        | cons s tr ih=>rw [Tt,if_neg (by rw [hL0];simp)];exact ih
      have hnx:=htc.next
      exact ⟨(fun j k hj=>by rw [hL0] at hj;cases hj),(fun b cs hb=>by rw [hG0] at hb;exact (hs.hr.live b cs hb).move (Emb.le_refl _) rfl (Nat.le_refl _) fun _ _=>rfl),(fun b1 b2 c1 c2 L1 L2 g1 g2=>by rw [hG0] at g1 g2;exact hs.hr.inj b1 b2 c1 c2 L1 L2 g1 g2),
        (fun b cs hb=>by rw [hG0] at hb;exact Nat.lt_of_lt_of_le (hs.hr.lt b cs hb) hnx),fun b h1 h2 _=>hs.hr.dom b h1 h2,Emb.le_refl _,fun _ _=>⟨rfl,rfl⟩,(fun d l hl=>by rw [hT0] at hl;exact hs.tr d l hl),hs.size,hs.defers,
        Nat.le_refl _,fun _ _ _=>rfl,(fun b cs Lc hb hL=>by rw [hG0] at hb;exact .inl ⟨b,cs,Lc,hb,hL,rfl⟩),hs.hr.fz,(fun b cs Lc hb hL=>by rw [hG0] at hb;exact hs.hr.sep _ ⟨b,cs,Lc,hb,hL,rfl⟩),hs.hr.ok,fun _ _ h=>.inl h,rfl,rfl,rfl,Nat.le_succ _⟩
end
end Go.Tx

namespace Go.Tx
open Go
structure St where
  tm:List (Nat×LV)
  ob:List Ob
def q7l:List (Nat×LV)→Mem→Mem
  | [],t=>t
  | p :: l,t=>q7l l (t.set p.1 (some p.2))
def q7m:List Ob→Nat→Tr Ob→Tr Ob
  | [],_,t=>t
  | ob :: l,i,t=>q7m l (i+1) (t.set i (some ob))
def q7n (l:List Ob):LH:=⟨q7m l 0 .lf,l.length,[]⟩
theorem q7o:∀ (l:List (Nat×LV)) (t:Mem) (n:Nat) (v:LV),(q7l l t).get n=some v→(n,v)∈l∨t.get n=some v
  | [],t,n,v,h=>.inr h
  | p :: l, t, n, v, h => by
    rcases q7o l _ n v h with h1 | h1
    · exact .inl (List.mem_cons_of_mem _ h1)
    · rw [Tr.get_set] at h1
      split at h1
      · rename_i he
        injection h1 with h1
        exact .inl (List.mem_cons.2 (.inl (by rw [he,← h1])))
      · exact .inr h1
theorem q7p:∀ (l:List Ob) (i:Nat) (t:Tr Ob) (b:Nat),(q7m l i t).get b=if i≤b∧b<i+l.length then l[b - i]? else t.get b
  | [],i,t,b=>by rw [q7m,if_neg];simp
  | ob :: l, i, t, b => by
    rw [q7m,q7p l (i+1),Tr.get_set]
    simp only [List.length_cons]
    by_cases h1:i+1≤b∧b<i+1+l.length
    · rw [if_pos h1,if_pos (by omega),show b - i=(b - (i+1))+1 by omega,List.getElem?_cons_succ]
    · rw [if_neg h1]
      by_cases h2:b=i
      · subst h2;rw [if_pos rfl,if_pos (by omega),Nat.sub_self];rfl
      · rw [if_neg h2,if_neg (by omega)]
theorem q7q (l:List Ob) (b:Nat):(q7n l).get b=l[b]?:=by
  show (q7m l 0 .lf).get b=_
  rw [q7p]
  split
  · rfl
  · rename_i h
    rw [Tr.get_lf,List.getElem?_eq_none (by omega)]
structure Fz0 where
  φ:Nat→Option Obj
  K:Nat→Obj→Prop
  D:List Deferred
  X:Nat→Prop
abbrev noK (φ:Nat→Option Obj):Fz0:=⟨φ,fun _ _=>False,[],fun _=>False⟩
structure Fr (w0:World) (φ0:Fz0) (H:LH) (η:Emb) (w:World):Prop where
  size:w0.heap.size≤w.heap.size
  same:∀ k,k<w0.heap.size→¬ φ0.X k→w.heap[k]?=w0.heap[k]?
  lb:∀ k,LB H η k→w0.heap.size≤k∨φ0.X k
  fz0:∀ k ob,φ0.φ k=some ob→η.fz k=some ob
  fzn:∀ k ob,η.fz k=some ob→φ0.φ k=some ob∨w0.heap.size≤k∨φ0.X k
  os:w.os=w0.os
  tape:w.tape=w0.tape
  output:w.output=w0.output
  drawn:w0.drawn≤w.drawn
  kp:∀ k o,φ0.K k o→w.heap[k]?=some o∧¬ LB H η k∧η.fz k=none
theorem Fr.adv {w0:World} {φ0:Fz0} {M:Nat} {H H':LH} {η η':Emb} {w w':World} (h:Fr w0 φ0 H η w) (k:Adv M H η w H' η' w'):Fr w0 φ0 H' η' w' where
  size:=Nat.le_trans h.size k.size
  same j hj hx:=(k.same j (Nat.lt_of_lt_of_le hj h.size) fun hl=>(h.lb j hl).elim (fun h1=>by omega) hx).trans (h.same j hj hx)
  lb j hj:=(k.lb j hj).elim (h.lb j) fun h1=>.inl (Nat.le_trans h.size h1)
  fz0 j ob hj:=k.le.fz j ob (h.fz0 j ob hj)
  fzn j ob hj:=(k.fzn j ob hj).elim (h.fzn j ob) fun h1=>.inr (h1.elim (h.lb j) fun h2=>.inl (Nat.le_trans h.size h2))
  os:=k.os.trans h.os
  tape:=k.tape.trans h.tape
  output:=k.output.trans h.output
  drawn:=Nat.le_trans h.drawn k.drawn
  kp j o hj:=by
    obtain ⟨h1,h2,h3⟩:=h.kp j o hj
    have hlt:j<w.heap.size:=(Array.getElem?_eq_some_iff.1 h1).1
    refine ⟨(k.same j hlt h2).trans h1,fun hl=>(k.lb j hl).elim h2 (fun h4=>by omega),?_⟩
    cases hf:η'.fz j with
    | none=>rfl
    | some ob => rcases k.fzn j ob hf with h4 | h4 | h4
                 · rw [h3] at h4;cases h4
                 · exact (h2 h4).elim
                 · omega
structure SS (w0:World) (φ0:Fz0) (N:Nat) (s:St) (a:Act) (w:World):Prop where
  emb:∃ η,(∀ M,HR M η (q7n s.ob) w)∧(∀ n l,(n,l)∈s.tm→∃ v,a.tmps[n]?=some v∧VR η l v)∧Fr w0 φ0 (q7n s.ob) η w
  size:N≤a.tmps.size
  defers:a.defers=φ0.D
inductive Kd where
  | any
  | own (τ:Row)
  | val (τ:Row)
  | box (ks:List Kd)
section
variable {D:List Deferred} {P:Program} {T:Tys} {C:Orc} {M N:Nat} {H:LH} {η:Emb} {w:World} {β:Type} {b:β}
theorem Logged.trans' {e:Row} {xs:List (List (den e))} {r:Option Nat} {ob:Ob} {H:LH} {m:Nat} (h:Logged H (H.alloc ob)) (hg:H.get m=some (.rowl e xs none)):Logged H ((H.alloc ob).put m (some (.rowl e xs r))):=by
  by_cases hm:m=H.next
  · refine ⟨h.next, ⟨[m], rfl, fun b hb hn => ?_⟩, fun hb b cs hx => ?_⟩
    · rw [LH.get_put,if_neg (by simpa using hn),LH.get_alloc,if_neg (by omega)]
    · have:=hb m _ hg;omega
  · exact h.trans (Logged.put (H.alloc ob) (by rw [LH.get_alloc,if_neg hm];exact hg) _)
theorem q7r {e:Row} {xs:List (List (den e))} {m:Nat} (h:HR M η H w) (hM:((H.alloc (.rows e [])).put m (some (.rowl e xs (some H.next)))).next≤M) (hg:H.get m=some (.rowl e xs none)) :
    Adv M H η w ((H.alloc (.rows e [])).put m (some (.rowl e xs (some H.next)))) (η.put H.next none (some (.slice none 0 0))) w:=by
  have h1:=q12 h hM e none
  have hm:m≠H.next:=by have:=h.lt _ _ hg;omega
  have hg1:(H.alloc (.rows e [])).get m=some (.rowl e xs none):=by rw [LH.get_alloc,if_neg hm];exact hg
  refine h1.trans (q1g h1.hr hg1 ?_)
  cases h1.hr.live _ _ hg1 with
  | rowl hL ha hh hc hr =>
    refine .rowl hL ⟨ha.lt,by have:=ha.fits;simpa [Ob.list] using this,ha.there,fun j c hc=>?_⟩ hh hc hr
    rename_i L c0
    rcases Nat.lt_or_ge j (flat (.sl e .nil) (ql xs)).length with hj | hj
    · rw [Ob.list, List.getElem?_append_left hj] at hc
      exact ha.cell j c (by rw [Ob.list,List.getElem?_append_left hj];exact hc)
    · rw [Ob.list, List.getElem?_append_right hj] at hc
      have hj0:j - (flat (.sl e .nil) (ql xs)).length=0:=by
        have:=(List.getElem?_eq_some_iff.1 hc).1;simpa using this
      rw [hj0] at hc
      injection hc with hc;subst hc
      obtain ⟨v,e1,e2⟩:=ha.cell j .nils (by rw [Ob.list,List.getElem?_append_right hj,hj0];rfl)
      refine ⟨v,e1,?_⟩
      cases e2
      exact .rs (Emb.put_hdr ..)
def tcoe (kd:Kd) (l:LV) (H:LH) (k:LV→LH→Option β):Option β :=
  match kd,l with
  | .any,l=>k l H
  | .own τ,.nils=>k (.rs H.next) (H.alloc (.rows τ []))
  | .own _,.rs m=>match H.get m with | some (.rowl e xs none)=>k (.rs m) ((H.alloc (.rows e [])).put m (some (.rowl e xs (some H.next)))) | _=>k (.rs m) H
  | .val τ,.nils=>k (.fz τ []) H
  | .val _,.rs m=>match H.get m with | some (.rows σ xs)=>k (.fz σ xs) (H.put m none) | some (.rowl _ _ _)=>q4q m H fun e zs H1=>k (.fz (.sl e .nil) (ql zs)) (H1.put m none) | _=>none
  | .val _,.fz σ xs=>k (.fz σ xs) H
  | _,_=>none
theorem q7s {kd:Kd} {l:LV} {k:LV→LH→Option β} (hx:tcoe kd l H k=some b):∃ l' H',k l' H'=some b∧Logged H H'∧(l.cellB=true→l'.cellB=true)∧∀ M η w v,HR M η H w→H'.next≤M→VR η l v→∃ η',Adv M H η w H' η' w∧VR η' l' v:=by
  unfold tcoe at hx
  split at hx
  · exact ⟨_,_,hx,Logged.refl _,id,fun M η w v h hM hv=>⟨η,Adv.refl h,hv⟩⟩
  · rename_i τ
    refine ⟨_,_,hx,Logged.alloc _ _,fun _=>rfl,fun M η w v h hM hv=>?_⟩
    cases hv
    exact ⟨_,q12 h hM τ none,.rs (Emb.put_hdr ..)⟩
  · split at hx
    · rename_i m e xs hg
      refine ⟨_,_,hx,(Logged.alloc H (.rows e [])).trans' hg,fun _=>rfl,fun M η w v h hM hv=>?_⟩
      exact ⟨_,q7r h hM hg,hv.mono (h.le_put hM _ _)⟩
    · exact ⟨_,_,hx,Logged.refl _,fun _=>rfl,fun M η w v h hM hv=>⟨η,Adv.refl h,hv⟩⟩
  · refine ⟨_, _, hx, Logged.refl _, fun _ => rfl, fun M η w v h hM hv => ?_⟩
    cases hv
    exact ⟨η,Adv.refl h,.fz ⟨none,0,rfl,Nat.le_refl _,fun _=>rfl,fun i x hx=>by simp at hx⟩⟩
  · split at hx
    · rename_i hg
      refine ⟨_,_,hx,Logged.put _ hg _,fun _=>rfl,fun M η w v h hM hv=>?_⟩
      cases hv with
      | rs hh=>exact q18 h hg hh
    · obtain ⟨e, zs, H1, h1, h2, h3, h4, h5⟩ := q4r hx
      refine ⟨_,_,h1,h2.trans (Logged.put _ h4 _),fun _=>rfl,fun M η w v h hM hv=>?_⟩
      obtain ⟨η1,a1⟩:=h5 M η w h
      cases hv with
      | rs hh =>
        obtain ⟨η2,b1,b2⟩:=q18 a1.hr h4 (a1.le.hdr _ _ hh)
        exact ⟨η2,a1.trans b1,b2⟩
    · cases hx
  · exact ⟨_,_,hx,Logged.refl _,fun _=>rfl,fun M η w v h hM hv=>⟨η,Adv.refl h,hv⟩⟩
  · cases hx
def q7t:List Kd→List LV→LH→(List LV→LH→Option β)→Option β
  | [],cs,H,k=>k cs H
  | kd :: ks,c :: cs,H,k=>tcoe kd c H fun c H=>q7t ks cs H fun cs H=>k (c :: cs) H
  | _ :: _,[],_,_=>none
theorem q7u:∀ (ks:List Kd) {cs:List LV} {H:LH} {k:List LV→LH→Option β},q7t ks cs H k=some b→∃ ds H',k ds H'=some b∧Logged H H'∧ds.length=cs.length∧∀ M η w vs,HR M η H w→H'.next≤M→VRs η cs vs→∃ η',Adv M H η w H' η' w∧VRs η' ds vs
  | [],cs,H,k,hx=>⟨cs,H,hx,Logged.refl _,rfl,fun M η w vs h hM hv=>⟨η,Adv.refl h,hv⟩⟩
  | kd :: ks,[],H,k,hx=>by cases hx
  | kd :: ks, c :: cs, H, k, hx => by
    rw [q7t] at hx
    obtain ⟨c',H1,h1,h2,_,h3⟩:=q7s hx
    obtain ⟨ds,H2,g1,g2,g3,g4⟩:=q7u ks h1
    refine ⟨_,H2,g1,h2.trans g2,by simp [g3],fun M η w vs h hM hv=>?_⟩
    obtain ⟨v,vs,rfl,a1,a2⟩:=hv.uncons
    obtain ⟨η1,e1,e2⟩:=h3 M η w v h (Nat.le_trans g2.next hM) a1
    obtain ⟨η2,e3,e4⟩:=g4 M η1 w vs e1.hr hM (a2.mono e1.le)
    exact ⟨η2,e1.trans e3,VRs.cons (e2.mono e3.le) e4⟩
def q7v (kd:Kd) (l:LV) (H:LH) (k:LV→LH→Option β):Option β :=
  match kd,l with
  | .box ks, .ptr n 0 => match H.get n with
    | some (.cells cs) => q7t ks cs H fun ds H => match H.get n with
      | some (.cells _)=>k (.ptr n 0) (H.put n (some (.cells ds)))
      | _=>none
    | _=>none
  | kd,l=>tcoe kd l H k
theorem q7w {kd:Kd} {l:LV} {k:LV→LH→Option β} (hx:q7v kd l H k=some b):∃ l' H',k l' H'=some b∧Logged H H'∧∀ M η w v,HR M η H w→H'.next≤M→VR η l v→∃ η',Adv M H η w H' η' w∧VR η' l' v:=by
  unfold q7v at hx
  split at hx
  · rename_i ks n
    split at hx
    · rename_i cs hg
      obtain ⟨ds,H1,g1,g2,g3,g4⟩:=q7u ks hx
      split at g1
      · rename_i cs1 hg1
        refine ⟨_,_,g1,g2.trans (Logged.put _ hg1 _),fun M η w v h hM hv=>?_⟩
        cases hv with
        | ptr hL =>
          rename_i L
          have ha:=(h.live _ _ hg).at hL
          have hcut:cut cs 0 cs.length=some cs:=by unfold cut;rw [Nat.zero_add,Nat.ble_eq_true_of_le (Nat.le_refl _),List.drop_zero,List.take_length];rfl
          obtain ⟨vs,o1,o2⟩:=Lie.cut ha.cell hcut
          obtain ⟨η1,e1,e2⟩:=g4 M η w vs h hM o1
          have hL1:=e1.le.loc _ _ hL
          have ha1:=(e1.hr.live _ _ hg1).at hL1
          have hat:At η1 w ds L:=by
            refine ⟨ha.lt,by rw [g3];exact ha.fits,ha.there,fun j c hc=>?_⟩
            obtain ⟨v,f1,f2⟩:=e2.get hc
            exact ⟨v,by have:=o2 j v f1;rwa [Nat.add_zero] at this,f2⟩
          exact ⟨η1,e1.trans (q1d (o:=0) (vs:=[]) e1.hr hg1 hL1 hat (.inl ⟨_,_,rfl,rfl⟩)),.ptr hL1⟩
      · cases g1
    · cases hx
  · obtain ⟨l', H', h1, h2, _, h3⟩ := q7s hx
    exact ⟨l',H',h1,h2,h3⟩
def q7x:List (Nat×Kd)→Mem→LH→(List (Nat×LV)→LH→Option β)→Option β
  | [],_,H,k=>k [] H
  | p :: ps, t, H, k => match t.get p.1 with
    | some l=>q7v p.2 l H fun l H=>q7x ps t H fun ls H=>k ((p.1,l) :: ls) H
    | none=>none
theorem q7y:∀ (ps:List (Nat×Kd)) {t:Mem} {H:LH} {k:List (Nat×LV)→LH→Option β},q7x ps t H k=some b→∃ ls H',k ls H'=some b∧Logged H H'∧∀ M η w (a:Act),HR M η H w→H'.next≤M→TR η t a→∃ η',Adv M H η w H' η' w∧∀ n l,(n,l)∈ls→∃ v,a.tmps[n]?=some v∧VR η' l v
  | [],t,H,k,hx=>⟨[],H,hx,Logged.refl _,fun M η w a h hM ht=>⟨η,Adv.refl h,fun n l hl=>by simp at hl⟩⟩
  | p :: ps, t, H, k, hx => by
    rw [q7x] at hx
    split at hx
    · rename_i l hl
      obtain ⟨l',H1,h1,h2,h3⟩:=q7w hx
      obtain ⟨ls,H2,g1,g2,g3⟩:=q7y ps h1
      refine ⟨_,H2,g1,h2.trans g2,fun M η w a h hM ht=>?_⟩
      obtain ⟨v,a1,a2⟩:=ht _ _ hl
      obtain ⟨η1,e1,e2⟩:=h3 M η w v h (Nat.le_trans g2.next hM) a2
      obtain ⟨η2,e3,e4⟩:=g3 M η1 w a e1.hr hM (ht.mono e1.le)
      refine ⟨η2,e1.trans e3,fun n x hx=>?_⟩
      rcases List.mem_cons.1 hx with hx | hx
      · injection hx with hn hx2;rw [hn,hx2];exact ⟨v,a1,e2.mono e3.le⟩
      · exact e4 n x hx
    · cases hx
def idx:List Nat→Nat→Nat→Option Nat
  | [],_,_=>none
  | x :: l,i,n=>bif Nat.beq x n then some i else idx l (i+1) n
theorem q7z:∀ (l:List Nat) (i n j:Nat),idx l i n=some j→i≤j∧l[j - i]?=some n
  | [],_,_,_,h=>by cases h
  | x :: l, i, n, j, h => by
    rw [idx,Bool.cond_eq_ite] at h
    split at h
    · rename_i he
      rw [Nat.beq_eq] at he
      injection h with h;subst h
      exact ⟨Nat.le_refl _,by rw [Nat.sub_self,List.getElem?_cons_zero,he]⟩
    · obtain ⟨h1, h2⟩ := q7z l (i + 1) n j h
      exact ⟨by omega,by rw [show j - i=(j - (i+1))+1 by omega,List.getElem?_cons_succ];exact h2⟩
mutual
def ren (ρ:List Nat):LV→Option LV
  | .ptr n o=>match idx ρ 0 n with | some j=>some (.ptr j o) | none=>none
  | .rp n i sz j=>match idx ρ 0 n with | some m=>some (.rp m i sz j) | none=>none
  | .rs n=>match idx ρ 0 n with | some j=>some (.rs j) | none=>none
  | .fn f cs=>match rens ρ cs with | some cs=>some (.fn f cs) | none=>none
  | .agg cs=>match rens ρ cs with | some cs=>some (.agg cs) | none=>none
  | .tup cs=>match rens ρ cs with | some cs=>some (.tup cs) | none=>none
  | .undef=>some .undef
  | .int k n=>some (.int k n)
  | .bool v=>some (.bool v)
  | .nilp=>some .nilp
  | .str s=>some (.str s)
  | .nils=>some .nils
  | .fz τ xs=>some (.fz τ xs)
  | .fp τ x j=>some (.fp τ x j)
def rens (ρ:List Nat):List LV→Option (List LV)
  | []=>some []
  | c :: cs => match ren ρ c with
    | some c=>match rens ρ cs with | some cs=>some (c :: cs) | none=>none
    | none=>none
end
def Emb.sub (η:Emb) (ρ:List Nat):Emb:=⟨fun j=>(ρ[j]?).bind η.loc,fun j=>(ρ[j]?).bind η.hdr,η.fz⟩
theorem q80 {ρ:List Nat} {n j:Nat} (h:idx ρ 0 n=some j):(η.sub ρ).loc j=η.loc n∧(η.sub ρ).hdr j=η.hdr n:=by
  have:=(q7z ρ 0 n j h).2
  rw [Nat.sub_zero] at this
  unfold Emb.sub
  simp only [this,Option.bind_some,and_self]
mutual
theorem q81 (ρ:List Nat):∀ {l l':LV} {v:Value},ren ρ l=some l'→VR η l v→VR (η.sub ρ) l' v
  | .ptr n o, l', v, h, hv => by
    rw [ren] at h
    split at h
    · rename_i j hj; injection h with h; subst h
      cases hv with
      | ptr hL=>exact .ptr (by rw [(q80 hj).1];exact hL)
    · cases h
  | .rp n i sz c, l', v, h, hv => by
    rw [ren] at h
    split at h
    · rename_i j hj; injection h with h; subst h
      cases hv with
      | rp hL hh hi=>exact .rp (by rw [(q80 hj).1];exact hL) (by rw [(q80 hj).2];exact hh) hi
    · cases h
  | .rs n, l', v, h, hv => by
    rw [ren] at h
    split at h
    · rename_i j hj; injection h with h; subst h
      cases hv with
      | rs hh=>exact .rs (by rw [(q80 hj).2];exact hh)
    · cases h
  | .fn f cs, l', v, h, hv => by
    rw [ren] at h
    split at h
    · rename_i ds hd; injection h with h; subst h
      cases hv with
      | fn hl hh=>have:=rens_ok ρ hd ⟨hl,hh⟩;exact .fn this.1 this.2
    · cases h
  | .agg cs, l', v, h, hv => by
    rw [ren] at h
    split at h
    · rename_i ds hd; injection h with h; subst h
      cases hv with
      | agg hl hh=>have:=rens_ok ρ hd ⟨hl,hh⟩;exact .agg this.1 this.2
    · cases h
  | .tup cs, l', v, h, hv => by
    rw [ren] at h
    split at h
    · rename_i ds hd; injection h with h; subst h
      cases hv with
      | tup hl hh=>have:=rens_ok ρ hd ⟨hl,hh⟩;exact .tup this.1 this.2
    · cases h
  | .undef,l',v,h,hv=>by rw [ren] at h;injection h with h;subst h;exact .undef _
  | .int k n,l',v,h,hv=>by rw [ren] at h;injection h with h;subst h;cases hv;exact .int _ _
  | .bool k,l',v,h,hv=>by rw [ren] at h;injection h with h;subst h;cases hv;exact .bool _
  | .nilp,l',v,h,hv=>by rw [ren] at h;injection h with h;subst h;cases hv;exact .nilp
  | .str s,l',v,h,hv=>by rw [ren] at h;injection h with h;subst h;cases hv;exact .str _
  | .nils,l',v,h,hv=>by rw [ren] at h;injection h with h;subst h;cases hv;exact .nils
  | .fz τ xs,l',v,h,hv=>by rw [ren] at h;injection h with h;subst h;cases hv with | fz hf=>exact .fz hf
  | .fp τ x j,l',v,h,hv=>by rw [ren] at h;injection h with h;subst h;cases hv with | fp hf=>exact .fp hf
theorem rens_ok (ρ:List Nat):∀ {cs ds:List LV} {vs:List Value},rens ρ cs=some ds→VRs η cs vs→VRs (η.sub ρ) ds vs
  | [], ds, vs, h, hv => by
    rw [rens] at h;injection h with h;subst h
    have:vs=[]:=by have:=hv.1;simpa using this.symm
    subst this;exact VRs.nil
  | c :: cs, ds, vs, h, hv => by
    obtain ⟨v,vs,rfl,h1,h2⟩:=hv.uncons
    rw [rens] at h
    split at h
    · rename_i d hd
      split at h
      · rename_i ds' hds
        injection h with h;subst h
        exact VRs.cons (q81 ρ hd h1) (rens_ok ρ hds h2)
      · cases h
    · cases h
end
theorem q82 {η':Emb} (hfz:∀ k ob,η.fz k=some ob→η'.fz k=some ob):∀ (τ:Row) (x:den τ) {c:LV},c∈split τ x→∀ {v:Value},VR η c v→VR η' c v
  | .nil,_,c,hc,_,_=>by simp [split] at hc
  | .int k r, x, c, hc, v, hv => by
    rcases List.mem_cons.1 hc with rfl | hc
    · cases hv;exact .int _ _
    · exact q82 hfz r x.2 hc hv
  | .bool r, x, c, hc, v, hv => by
    rcases List.mem_cons.1 hc with rfl | hc
    · cases hv;exact .bool _
    · exact q82 hfz r x.2 hc hv
  | .sl e r, x, c, hc, v, hv => by
    rcases List.mem_cons.1 hc with rfl | hc
    · cases hv with | fz hf=>exact .fz (hf.mono (RowF.mono hfz e))
    · exact q82 hfz r x.2 hc hv
theorem q83 (τ:Row) {c:LV}:∀ xs:List (den τ),c∈flat τ xs→∃ x,c∈split τ x
  | [],h=>by simp [flat] at h
  | x :: xs, h => by
    rw [flat,List.mem_append] at h
    exact h.elim (fun h=>⟨x,h⟩) (q83 τ xs)
theorem q84 {η':Emb} (hfz:∀ k ob,η.fz k=some ob→η'.fz k=some ob) {τ:Row} {xs:List (den τ)} {L:Loc} (h:At η w (flat τ xs) L):At η' w (flat τ xs) L :=
  ⟨h.lt,h.fits,h.there,fun j c hc=>by
    obtain ⟨v,h1,h2⟩:=h.cell j c hc
    obtain ⟨x,hx⟩:=q83 τ xs (List.mem_of_getElem? hc)
    exact ⟨v,h1,q82 hfz τ x hx h2⟩⟩
def q85 (ρ:List Nat):Ob→Option Ob
  | .cells cs=>match rens ρ cs with | some cs=>some (.cells cs) | none=>none
  | .rows τ xs=>some (.rows τ xs)
  | .rowl e xs r => match ren ρ (qk r) with
    | some (.rs n)=>some (.rowl e xs (some n))
    | some .nils=>some (.rowl e xs none)
    | _=>none
  | .view b k sz=>match idx ρ 0 b with | some j=>some (.view j k sz) | none=>none
theorem q86 (ρ:List Nat):∀ {cs ds:List LV},rens ρ cs=some ds→ds.length=cs.length
  | [],ds,h=>by rw [rens] at h;injection h with h;subst h;rfl
  | c :: cs, ds, h => by
    rw [rens] at h
    split at h
    · split at h
      · rename_i ds' hds;injection h with h;subst h;simp [q86 ρ hds]
      · cases h
    · cases h
theorem q87 {ρ:List Nat} {n j:Nat} (hj:ρ[j]?=some n) {ob ob':Ob} (h:q85 ρ ob=some ob') (hl:Lv η w n ob):Lv (η.sub ρ) w j ob':=by
  have e1:(η.sub ρ).loc j=η.loc n:=by unfold Emb.sub;simp only [hj,Option.bind_some]
  have e2:(η.sub ρ).hdr j=η.hdr n:=by unfold Emb.sub;simp only [hj,Option.bind_some]
  cases hl with
  | cells hL ha =>
    rw [q85] at h
    rename_i cs L
    split at h
    · rename_i ds hds
      injection h with h;subst h
      refine .cells (by rw [e1];exact hL) ⟨ha.lt,by rw [q86 ρ hds];exact ha.fits,ha.there,fun i c hc=>?_⟩
      have hcut:cut cs 0 cs.length=some cs:=by unfold cut;rw [Nat.zero_add,Nat.ble_eq_true_of_le (Nat.le_refl _),List.drop_zero,List.take_length];rfl
      obtain ⟨vs,o1,o2⟩:=Lie.cut ha.cell hcut
      obtain ⟨v,f1,f2⟩:=(rens_ok ρ hds o1).get hc
      exact ⟨v,by have:=o2 i v f1;rwa [Nat.add_zero] at this,f2⟩
    · cases h
  | rows hL ha hh hc hr =>
    rw [q85] at h;injection h with h;subst h
    exact .rows (by rw [e1];exact hL) (q84 (η:=η) (η':=η.sub ρ) (fun _ _ h=>h) ha) (by rw [e2];exact hh) hc hr
  | view hL hb hh hk hm =>
    rw [q85] at h
    split at h
    · rename_i j2 hj2; injection h with h; subst h
      exact .view (by rw [e1];exact hL) (by rw [(q80 hj2).1];exact hb) (by rw [(q80 hj2).2];exact hh) hk (by rw [e2];exact hm)
    · cases h
  | rowl hL ha hh hc hr =>
    rename_i e xs r L c
    obtain ⟨r',hr',rfl⟩:∃ r',ren ρ (qk r)=some (qk r')∧ob'=.rowl e xs r':=by
      rw [q85] at h
      split at h
      · rename_i n hn
        injection h with h
        exact ⟨some n,hn,h.symm⟩
      · rename_i hn
        injection h with h
        exact ⟨Option.none,hn,h.symm⟩
      · cases h
    refine .rowl (by rw [e1];exact hL) ⟨ha.lt,?_,ha.there,fun i c hc=>?_⟩ (by rw [e2];exact hh) hc hr
    · have := ha.fits
      rw [Ob.list,List.length_append,List.length_singleton] at this ⊢
      exact this
    · rw [Ob.list] at hc
      rcases Nat.lt_or_ge i (flat (.sl e .nil) (ql xs)).length with k | k
      · rw [List.getElem?_append_left k] at hc
        obtain ⟨v,h1,h2⟩:=ha.cell i c (by rw [Ob.list,List.getElem?_append_left k];exact hc)
        obtain ⟨x,hx⟩:=q83 _ _ (List.mem_of_getElem? hc)
        exact ⟨v,h1,q82 (η:=η) (η':=η.sub ρ) (fun _ _ h=>h) _ x hx h2⟩
      · rw [List.getElem?_append_right k] at hc
        have h0:i - (flat (.sl e .nil) (ql xs)).length=0:=by
          have:=(List.getElem?_eq_some_iff.1 hc).1
          rw [List.length_singleton] at this;omega
        rw [h0] at hc
        injection hc with hc
        subst hc
        obtain ⟨v,h1,h2⟩:=ha.cell i (qk r) (by rw [Ob.list,List.getElem?_append_right k,h0];rfl)
        exact ⟨v,h1,q81 ρ hr' h2⟩
  | none hL hh =>
    rw [q85] at h;injection h with h;subst h
    exact .none (by rw [e1];exact hL) (by rw [e2];exact hh)
def q88 (H:LH) (ρ:List Nat):List Nat→Option (List Ob)
  | []=>some []
  | n :: l => match H.get n with
    | some ob => match q85 ρ ob with
      | some ob=>match q88 H ρ l with | some obs=>some (ob :: obs) | none=>none
      | none=>none
    | none=>none
theorem q89 {ρ:List Nat}:∀ (l:List Nat) {obs:List Ob},q88 H ρ l=some obs→obs.length=l.length∧∀ (j:Nat) ob',obs[j]?=some ob'→∃ n ob,l[j]?=some n∧H.get n=some ob∧q85 ρ ob=some ob'
  | [],obs,h=>by rw [q88] at h;injection h with h;subst h;exact ⟨rfl,fun j ob' hj=>by simp at hj⟩
  | n :: l, obs, h => by
    rw [q88] at h
    split at h
    · rename_i ob hob
      split at h
      · rename_i ob1 h1
        split at h
        · rename_i obs1 h2
          injection h with h;subst h
          obtain ⟨e1,e2⟩:=q89 l h2
          refine ⟨by simp [e1],fun j ob' hj=>?_⟩
          cases j with
          | zero=>simp only [List.getElem?_cons_zero,Option.some.injEq] at hj;subst hj;exact ⟨n,ob,rfl,hob,h1⟩
          | succ j=>simp only [List.getElem?_cons_succ] at hj ⊢;exact e2 j ob' hj
        · cases h
      · cases h
    · cases h
def q8a (ρ:List Nat):List (Nat×LV)→Option (List (Nat×LV))
  | []=>some []
  | p :: l => match ren ρ p.2 with
    | some v=>match q8a ρ l with | some l=>some ((p.1,v) :: l) | none=>none
    | none=>none
theorem q8b {ρ:List Nat}:∀ (l:List (Nat×LV)) {l':List (Nat×LV)},q8a ρ l=some l'→∀ n x',(n,x')∈l'→∃ x,(n,x)∈l∧ren ρ x=some x'
  | [],l',h,n,x',hx=>by rw [q8a] at h;injection h with h;subst h;simp at hx
  | p :: l, l', h, n, x', hx => by
    rw [q8a] at h
    split at h
    · rename_i v hv
      split at h
      · rename_i l1 hl
        injection h with h;subst h
        rcases List.mem_cons.1 hx with hx | hx
        · injection hx with h1 h2;subst h1 h2;exact ⟨p.2,List.mem_cons_self ..,hv⟩
        · obtain ⟨x, h1, h2⟩ := q8b l hl n x' hx
          exact ⟨x,List.mem_cons_of_mem _ h1,h2⟩
      · cases h
    · cases h
def q8c:List Nat→Bool
  | []=>true
  | x :: l=>!memB l x&&q8c l
theorem q8d:∀ {l:List Nat},q8c l=true→∀ (i j n:Nat),l[i]?=some n→l[j]?=some n→i=j
  | [],_,i,j,n,h,_=>by simp at h
  | x :: l, hn, i, j, n, h1, h2 => by
    rw [q8c,Bool.and_eq_true] at hn
    have hx:∀ k,l[k]?=some x→False:=fun k hk=>by
      have:=q63.2 (List.mem_of_getElem? hk)
      rw [this] at hn;simp at hn
    cases i with
    | zero =>
      cases j with
      | zero=>rfl
      | succ j=>simp only [List.getElem?_cons_zero,Option.some.injEq,List.getElem?_cons_succ] at h1 h2;subst h1;exact (hx _ h2).elim
    | succ i =>
      cases j with
      | zero=>simp only [List.getElem?_cons_zero,Option.some.injEq,List.getElem?_cons_succ] at h1 h2;subst h2;exact (hx _ h1).elim
      | succ j=>simp only [List.getElem?_cons_succ] at h1 h2;rw [q8d hn.2 i j n h1 h2]
theorem q8e {ρ:List Nat} (hn:q8c ρ=true) {obs:List Ob} (ho:q88 H ρ ρ=some obs) (h:HR M η H w):∀ M,HR M (η.sub ρ) (q7n obs) w:=by
  obtain ⟨e1,e2⟩:=q89 ρ ho
  have hlb:∀ k,LB (q7n obs) (η.sub ρ) k→LB H η k:=fun k ⟨j,ob',L,hj,hL,hk⟩=>by
    rw [q7q] at hj
    obtain ⟨n,ob,g1,g2,g3⟩:=e2 j ob' hj
    exact ⟨n,ob,L,g2,by unfold Emb.sub at hL;simpa only [g1,Option.bind_some] using hL,hk⟩
  intro M
  refine ⟨fun j hj _=>?_,fun j ob' hj=>?_,fun j ob' hj=>?_,fun j1 j2 o1 o2 L1 L2 h1 h2 l1 l2 he=>?_,h.fz,fun k hk=>h.sep k (hlb k hk),fun j v hv=>?_⟩
  · have hj' : obs.length ≤ j := hj
    have:ρ[j]?=none:=List.getElem?_eq_none (by omega)
    unfold Emb.sub;simp only [this];exact ⟨rfl,rfl⟩
  · rw [q7q] at hj
    exact (List.getElem?_eq_some_iff.1 hj).1
  · rw [q7q] at hj
    obtain ⟨n,ob,g1,g2,g3⟩:=e2 j ob' hj
    exact q87 g1 g3 (h.live n ob g2)
  · rw [q7q] at h1 h2
    obtain ⟨n1,ob1,g1,g2,_⟩:=e2 j1 o1 h1
    obtain ⟨n2,ob2,k1,k2,_⟩:=e2 j2 o2 h2
    unfold Emb.sub at l1 l2
    simp only [g1,k1,Option.bind_some] at l1 l2
    have:=h.inj _ _ _ _ _ _ g2 k2 l1 l2 he
    subst this
    exact q8d hn j1 j2 n1 g1 k1
  · unfold Emb.sub at hv
    simp only at hv
    cases hn2:ρ[j]? with
    | none=>rw [hn2] at hv;cases hv
    | some n=>rw [hn2] at hv;exact h.ok n v hv
theorem q8f {w0:World} {φ0:Fz0} {ρ:List Nat} {obs:List Ob} (ho:q88 H ρ ρ=some obs) (h:Fr w0 φ0 H η w):Fr w0 φ0 (q7n obs) (η.sub ρ) w:=by
  obtain ⟨e1,e2⟩:=q89 ρ ho
  have hlb:∀ k,LB (q7n obs) (η.sub ρ) k→LB H η k:=fun k ⟨j,ob',L,hj,hL,hk⟩=>by
    rw [q7q] at hj
    obtain ⟨n,ob,g1,g2,g3⟩:=e2 j ob' hj
    exact ⟨n,ob,L,g2,by unfold Emb.sub at hL;simpa only [g1,Option.bind_some] using hL,hk⟩
  exact ⟨h.size,h.same,fun k hk=>h.lb k (hlb k hk),h.fz0,h.fzn,h.os,h.tape,h.output,h.drawn,fun k o hk=>⟨(h.kp k o hk).1,fun hl=>(h.kp k o hk).2.1 (hlb k hl),(h.kp k o hk).2.2⟩⟩
def tnum (ls:List (Nat×LV)) (H:LH) (k:St→Option β):Option β :=
  match q6b H 1000 (ls.flatMap fun p=>q69 p.2) [] with
  | ρ => bif q8c ρ then (match q8a ρ ls, q88 H ρ ρ with
    | some tm,some obs=>k ⟨tm,obs⟩
    | _,_=>none) else none
theorem q8g {ls:List (Nat×LV)} {k:St→Option β} (hx:tnum ls H k=some b):∃ s,k s=some b∧∀ w0 (φ0:Fz0) M η w (a:Act) N,HR M η H w→(∀ n l,(n,l)∈ls→∃ v,a.tmps[n]?=some v∧VR η l v)→Fr w0 φ0 H η w→N≤a.tmps.size→a.defers=φ0.D→SS w0 φ0 N s a w:=by
  unfold tnum at hx
  generalize q6b H 1000 (ls.flatMap fun p=>q69 p.2) []=ρ at hx
  simp only at hx
  rw [Bool.cond_eq_ite] at hx
  split at hx
  · rename_i hn
    split at hx
    · rename_i tm obs h1 h2
      refine ⟨_,hx,fun w0 φ0 M η w a N h ht hf hN hd=>⟨⟨η.sub ρ,q8e hn h2 h,fun n l' hl=>?_,q8f h2 hf⟩,hN,hd⟩⟩
      obtain ⟨l,g1,g2⟩:=q8b ls h1 n l' hl
      obtain ⟨v,e1,e2⟩:=ht n l g1
      exact ⟨v,e1,q81 ρ g2 e2⟩
    · cases hx
  · cases hx
def treg (T:Tys) (C:Orc) (N:Nat) (ops:Array Oper) (draw:Bool) (keep:List (Nat×Kd)) (s:St) (k:St→Option β):Option β :=
  match draw with
  | true=>q6w T C N ops (q7l s.tm .lf) (q7n s.ob) fun t H=>q7x keep t H fun ls H=>tnum ls H k
  | false=>tops T C N ops ops.toList (q7l s.tm .lf) (q7n s.ob) fun t H=>q7x keep t H fun ls H=>tnum ls H k
theorem SS.sr {w0:World} {φ0:Fz0} {s:St} {a:Act} (h:SS w0 φ0 N s a w):∃ η,(∀ M,SR M N φ0.D η (q7l s.tm .lf) (q7n s.ob) a w)∧Fr w0 φ0 (q7n s.ob) η w:=by
  obtain ⟨η,h1,h2,h3⟩:=h.emb
  refine ⟨η,fun M=>⟨h1 M,fun n l hl=>?_,h.size,h.defers⟩,h3⟩
  rcases q7o s.tm .lf n l hl with h4 | h4
  · exact h2 n l h4
  · rw [Tr.get_lf] at h4;cases h4
def RW (P:Program) (ops:Array Oper) (draw:Bool) (Q:Exit→Act→World→Prop) (a:Act) (w:World):Prop :=
  match draw with
  | true=>wpAny P .any ops Q ops.size (Array.replicate ops.size false) a { w with drawn:=w.drawn+1 }
  | false=>wpList P ops Q ops.toList a w
theorem q8h (hm:P.follows .mixedOrders=true) (hT:TysOK P T) (hC:OrcOK P C) {ops:Array Oper} {draw:Bool} {keep:List (Nat×Kd)} {s:St} {k:St→Option β} (hx:treg T C N ops draw keep s k=some b):∃ s',k s'=some b ∧
    ∀ w0 (φ0:Fz0) a w Q,φ0.D=D→SS w0 φ0 N s a w→(∀ a' w',SS w0 φ0 N s' a' w'→Q .normal a' w')→RW P ops draw Q a w:=by
  have fin:∀ {t':Mem} {H':LH},(q7x keep t' H' fun ls H=>tnum ls H k)=some b→∃ s' H2,k s'=some b∧Logged H' H2∧∀ w0 (φ0:Fz0) M η a w,φ0.D=D→H2.next≤M→SR M N D η t' H' a w→Fr w0 φ0 H' η w→SS w0 φ0 N s' a w:=by
    intro t' H' hx
    obtain ⟨ls,H2,h1,h2,h3⟩:=q7y keep hx
    obtain ⟨s',g1,g2⟩:=q8g h1
    refine ⟨s',H2,g1,h2,fun w0 φ0 M η a w hD hM hs hf=>?_⟩
    obtain ⟨η1,e1,e2⟩:=h3 M η w a hs.hr hM hs.tr
    exact g2 w0 φ0 M η1 w a N e1.hr e2 (hf.adv e1) hs.size (hs.defers.trans hD.symm)
  unfold treg at hx
  cases draw with
  | true =>
    simp only at hx
    obtain ⟨t',H',h1,h2,h3⟩:=q7k hm hT hC hx
    obtain ⟨s',H2,g1,g2,g3⟩:=fin h1
    refine ⟨s',g1,fun w0 φ0 a w Q hD hs hQ=>?_⟩
    obtain ⟨η,hsr,hf⟩:=hs.sr
    rw [hD] at hsr
    exact h3 H2.next η a w Q g2.next (hsr _) fun a' w' η' hs' hadv=>hQ a' w' (g3 w0 φ0 H2.next η' a' w' hD (Nat.le_refl _) hs' (hf.adv hadv))
  | false =>
    simp only at hx
    obtain ⟨t',H',h1,h2,h3⟩:=q62 hT hC _ hx
    obtain ⟨s',H2,g1,g2,g3⟩:=fin h1
    refine ⟨s',g1,fun w0 φ0 a w Q hD hs hQ=>?_⟩
    obtain ⟨η,hsr,hf⟩:=hs.sr
    rw [hD] at hsr
    exact h3 H2.next η a w Q g2.next (hsr _) fun a' w' η' hs' hadv=>hQ a' w' (g3 w0 φ0 H2.next η' a' w' hD (Nat.le_refl _) hs' (hf.adv hadv))
theorem q8i (hm:P.follows .mixedOrders=true) (hT:TysOK P T) (hC:OrcOK P C) {ops:Array Oper} {draw:Bool} {keep:List (Nat×Kd)} {s:St} {k:St→Option β} (hx:treg T C N ops draw keep s k=some b):∃ s',k s'=some b ∧
    ∀ w0 (φ0:Fz0) rid a w Q,φ0.D=D→SS w0 φ0 N s a w→(∀ a' w',SS w0 φ0 N s' a' w'→Q .normal a' w')→(Code.region rid ops draw).wp P Q a w:=by
  obtain ⟨s',h1,h2⟩:=q8h (D:=D) hm hT hC hx
  refine ⟨s',h1,fun w0 φ0 rid a w Q hD hs hQ=>?_⟩
  have h3:=h2 w0 φ0 a w Q hD hs hQ
  cases draw with
  | true=>exact wp_region_any hm h3
  | false=>exact wp_region_list h3
end
end Go.Tx

namespace Go.Tx
open Go
inductive Dt (Y:Type):Type 1 where
  | ret (y:Y)
  | ite (c:Bool) (t e:Dt Y)
  | bnd {R:Type} (o:Option R) (f:R→Dt Y)
  | fail
def Dt.eval {Y β:Type}:Dt Y→(Y→Option β)→Option β
  | .ret y,k=>k y
  | .ite c t e,k=>bif c then t.eval k else e.eval k
  | .bnd o f, k => match o with
    | some x=>(f x).eval k
    | none=>none
  | .fail,_=>none
theorem Dt.one {Y β:Type}:∀ (t:Dt Y) {K:Y→Option β} {r:β},t.eval K=some r→∃ y,K y=some r∧∀ {γ:Type} (k:Y→Option γ),t.eval k=k y
  | .ret y,K,r,h=>⟨y,h,fun _=>rfl⟩
  | .ite c t e, K, r, h => by
    cases c with
    | true=>exact Dt.one t h
    | false=>exact Dt.one e h
  | .bnd o f, K, r, h => by
    cases o with
    | some x=>exact Dt.one (f x) h
    | none=>cases h
  | .fail,K,r,h=>by cases h
section
variable {P:Program} {T:Tys} {C:Orc} {M N:Nat} {w0:World} {φ0:Fz0} {Q:Exit→Act→World→Prop}
def Run (P:Program) (w0:World) (φ0:Fz0) (N:Nat) (c:Code) (s:St) (Q:Exit→Act→World→Prop):Prop:=∀ a w,SS w0 φ0 N s a w→c.wp P Q a w
def Cn (w0:World) (φ0:Fz0) (N:Nat) (s:St) (Q:Exit→Act→World→Prop) (e:Exit):Prop:=∀ a w,SS w0 φ0 N s a w→Q e a w
theorem q8j {c:Code} {s:St} (h:Run P w0 φ0 N c s Q):Cn w0 φ0 N s (Exit.then (c.wp P Q) Q) .normal:=h
theorem q8k {s:St} {K:Act→World→Prop} {i:Nat} (h:Cn w0 φ0 N s Q (.exit i)):Cn w0 φ0 N s (Exit.then K Q) (.exit i):=h
theorem q8l {s:St} {K:Act→World→Prop} (h:Cn w0 φ0 N s Q .ret):Cn w0 φ0 N s (Exit.then K Q) .ret:=h
theorem q8m {s:St} {i:Nat} (h:Cn w0 φ0 N s Q .normal):Cn w0 φ0 N s (Exit.inBlock i Q) .normal:=h
theorem q8n {s:St} {i:Nat} (h:Cn w0 φ0 N s Q .ret):Cn w0 φ0 N s (Exit.inBlock i Q) .ret:=h
theorem q8o {s:St} {i:Nat} (h:Cn w0 φ0 N s Q .normal):Cn w0 φ0 N s (Exit.inBlock i Q) (.exit i):=fun a w hs=>by
  show (if i=i then Q .normal a w else Q (.exit i) a w)
  rw [if_pos rfl];exact h a w hs
theorem q8t {s:St} (h:Cn w0 φ0 N s Q .normal):Run P w0 φ0 N .skip s Q:=fun a w hs=>wp_skip (h a w hs)
theorem q8v {s:St} {i:Nat} (h:Cn w0 φ0 N s Q (.exit i)):Run P w0 φ0 N (.exit i) s Q:=fun a w hs=>wp_exit (h a w hs)
theorem q8w {s:St} (h:Cn w0 φ0 N s Q .ret):Run P w0 φ0 N .ret s Q:=fun a w hs=>wp_ret (h a w hs)
theorem q8x {x y:Code} {s:St} (h:Run P w0 φ0 N x s (Exit.then (y.wp P Q) Q)):Run P w0 φ0 N (.seq x y) s Q:=fun a w hs=>wp_seq (h a w hs)
theorem q8y {c:Code} {s:St} {i:Nat} (h:Run P w0 φ0 N c s (Exit.inBlock i Q)):Run P w0 φ0 N (.block i c) s Q:=fun a w hs=>wp_block (h a w hs)
theorem q90 {R X:Type} {r:R} {F:X→Option R} {S:X→St} {x y:Code} {s:St} (hj:∀ z,F z=some r→Run P w0 φ0 N y (S z) Q) (h:(∀ z,F z=some r→Cn w0 φ0 N (S z) (Exit.then (y.wp P Q) Q) .normal)→Run P w0 φ0 N x s (Exit.then (y.wp P Q) Q)):Run P w0 φ0 N (.seq x y) s Q:=q8x (h hj)
def stev (s:St) (c:Operand):LV:=xev (q7l s.tm .lf) c
theorem q91 {R:Type} {r:R} {v:Bool} {A B:Option R} {c:Operand} {x y:Code} {s:St} (hc:stev s c=.bool v) (h:(bif v then A else B)=some r) (ht:A=some r→Run P w0 φ0 N x s Q) (hf:B=some r→Run P w0 φ0 N y s Q):Run P w0 φ0 N (.cond c x y) s Q:=fun a w hs=>by
  obtain ⟨η,h1,_⟩:=hs.sr
  have hv:=q5i (h1 0).tr c
  rw [show xev (q7l s.tm .lf) c=.bool v from hc] at hv
  have hcv:a.eval c=.bool v:=by
    generalize a.eval c=u at hv
    cases hv;rfl
  refine wp_cond hcv ?_
  cases v with
  | true=>exact ht h a w hs
  | false=>exact hf h a w hs
theorem q92 (hm:P.follows .mixedOrders=true) (hT:TysOK P T) (hC:OrcOK P C) {R Y:Type} {r:R} {rid:Nat} {ops:Array Oper} {draw:Bool} {keep:List (Nat×Kd)} {s:St} {t:Dt Y} {S:Y→St} {K:Y→Option R}
    (hreg:treg T C N ops draw keep s some=t.eval fun y=>some (S y)) (h:t.eval K=some r) (hk:∀ y,K y=some r→Cn w0 φ0 N (S y) Q .normal):Run P w0 φ0 N (.region rid ops draw) s Q:=by
  obtain ⟨y,h1,h2⟩:=t.one h
  rw [h2] at hreg
  obtain ⟨s',h3,h4⟩:=q8i (D:=φ0.D) hm hT hC hreg
  injection h3 with h3;subst h3
  exact fun a w hs=>h4 w0 φ0 rid a w Q rfl hs (hk y h1)
abbrev i6 (x:Int):LV:=.int .i64 x
abbrev u6 (x:Int):LV:=.int .u64 x
def an (l:List Nat):List (Nat×Kd):=l.map fun n=>(n,.any)
abbrev rg {A V Y:Type} (T:Tys) (O:A→Orc) (N:Nat) (ops:Array Oper) (draw:Bool) (keep:List (Nat×Kd)) (S:V→St) (r:A→V→Dt Y) (S':Y→St) (c:A) (v:V):Prop:=treg T (O c) N ops draw keep (S v) some=(r c v).eval fun y=>some (S' y)
theorem rgI {A V Y:Type} {T:Tys} {O:A→Orc} {N:Nat} {ops:Array Oper} {draw:Bool} {keep:List (Nat×Kd)} {S:V→St} {r:A→V→Dt Y} {S':Y→St} {c:A} {v:V} (h:treg T (O c) N ops draw keep (S v) some=(r c v).eval fun y=>some (S' y)):rg T O N ops draw keep S r S' c v:=h
theorem q2jr (hm:P.follows .mixedOrders=true) (hT:TysOK P T) (hC:OrcOK P C) {R Y:Type} {r:R} {rid:Nat} {ops:Array Oper} {draw:Bool} {keep:List (Nat×Kd)} {s:St} {t:Dt Y} {S:Y→St} {K:Y→Option R} {c:Code} (hreg:treg T C N ops draw keep s some=t.eval fun y=>some (S y)) (h:t.eval K=some r) (hk:∀ y,K y=some r→Run P w0 φ0 N c (S y) Q):Run P w0 φ0 N (.seq (.region rid ops draw) c) s Q:=q8x (q92 hm hT hC hreg h fun y hy=>q8j (hk y hy))
theorem q93 {R X:Type} {r:R} {G:Nat→X→Option R} {S:X→St} {c:Code} (h0:∀ x,G 0 x=none)
    (hs:∀ n x,G (n+1) x=some r→∀ K:Act→World→Prop,(∀ y,G n y=some r→Cn w0 φ0 N (S y) (Exit.then K Q) .normal)→Run P w0 φ0 N c (S x) (Exit.then K Q)) (n:Nat) (x:X) (h:G n x=some r):Run P w0 φ0 N (.loop c) (S x) Q:=by
  have key:∀ n x,G n x=some r→∀ a w,SS w0 φ0 N (S x) a w→Code.rounds P c Q n a w:=by
    intro n
    induction n with
    | zero=>intro x hx;rw [h0] at hx;cases hx
    | succ n ih =>
      intro x hx a w hss
      rw [rounds_succ]
      exact hs n x hx _ (fun y hy=>ih y hy) a w hss
  exact fun a w hss=>wp_loop_rounds n (key n x h a w hss)
def tres (T:Tys) (s:St):List ResultVar→Option (List LV)
  | []=>some []
  | .tmp d :: rs=>match tres T s rs with | some ls=>some (stev s (.tmp d) :: ls) | none=>none
  | .cell d ty :: rs => match q2x T ty (stev s (.tmp d)) (q7n s.ob) (fun l _ => some l) with
    | some l=>match tres T s rs with | some ls=>some (l :: ls) | none=>none
    | none=>none
def xone:List LV→LV
  | [l]=>l
  | ls=>.tup ls
def tfin (T:Tys) (rs:List ResultVar) (s:St):Option (LV×List Ob) :=
  match tres T s rs with
  | some ls => match q6b (q7n s.ob) 1000 (ls.flatMap q69) [] with
    | ρ => bif q8c ρ then (match rens ρ ls, q88 (q7n s.ob) ρ ρ with
      | some ls,some obs=>some (xone ls,obs)
      | _,_=>none) else none
  | none=>none
def q95 (tmps:Array Value):ResultVar→Sem Value
  | .tmp t=>pure (tmps.getD t undef)
  | .cell a t=>do loadVar t (← asAddr (tmps.getD a undef))
theorem q96 (hT:TysOK P T) {D:List Deferred} {s:St} {η:Emb} {a:Act} {w:World} (hs:SR M N D η (q7l s.tm .lf) (q7n s.ob) a w):∀ (rs:List ResultVar) {ls:List LV},tres T s rs=some ls→∃ vs,(rs.mapM (q95 a.tmps)).run P w=.ok vs w∧VRs η ls vs
  | [],ls,hx=>by rw [tres] at hx;injection hx with hx;subst hx;exact ⟨[],by simp,VRs.nil⟩
  | .tmp d :: rs, ls, hx => by
    rw [tres] at hx
    split at hx
    · rename_i ls' hls
      injection hx with hx;subst hx
      obtain ⟨vs,h1,h2⟩:=q96 hT hs rs hls
      exact ⟨a.tmps.getD d undef :: vs,by simp [List.mapM_cons,q95,h1],VRs.cons (q5i hs.tr (.tmp d)) h2⟩
    · cases hx
  | .cell d ty :: rs, ls, hx => by
    rw [tres] at hx
    split at hx
    · rename_i l hl
      split at hx
      · rename_i ls' hls
        injection hx with hx;subst hx
        obtain ⟨vs,h1,h2⟩:=q96 hT hs rs hls
        obtain ⟨u,g1,g2⟩:=q2y hT hl
        injection g1 with g1;subst g1
        obtain ⟨ad,v',e1,e2,e3⟩:=g2 M η w _ hs.hr (q5i hs.tr (.tmp d))
        refine ⟨v' :: vs,?_,VRs.cons e3 h2⟩
        have e1':a.tmps.getD d undef=.pointer (some ad):=e1
        simp only [List.mapM_cons,q95,e1',asAddr]
        simp [e2,h1]
      · cases hx
    · cases hx
def q97 (τ:Row) (agg:Bool) (x:den τ):LV :=
  match agg with
  | true=>.agg (split τ x)
  | false => match split τ x with
    | [l]=>l
    | _=>.undef
inductive Pk where
  | row (τ:Row) (agg:Bool)
  | fn (f:FuncId) (τs:List Row)
  | ref (τ:Row)
  | nil
def denR:List Row→Type
  | []=>Unit
  | τ :: r=>den τ×denR r
def Pk.den:Pk→Type
  | .row τ _=>Tx.den τ
  | .fn _ τs=>denR τs
  | .ref τ=>Tx.den τ
  | .nil=>Unit
def q98:(τs:List Row)→denR τs→List LV
  | [],_=>[]
  | τ :: r,x=>.fp τ x.1 0 :: q98 r x.2
def Pk.arg:(p:Pk)→p.den→LV
  | .row τ agg,x=>q97 τ agg x
  | .fn f τs,x=>.fn f (q98 τs x)
  | .ref τ,x=>.fp τ x 0
  | .nil,_=>.nils
def dens:List Pk→Type
  | []=>Unit
  | p :: r=>p.den×dens r
def q99:(τs:List Pk)→dens τs→List LV
  | [],_=>[]
  | p :: r,x=>p.arg x.1 :: q99 r x.2
def nums:Nat→List LV→List (Nat×LV)
  | _,[]=>[]
  | i,l :: ls=>(i,l) :: nums (i+1) ls
structure Spec where
  g:FuncId
  τs:List Pk
  R:Type
  F:dens τs→Option R
  enc:R→LV×List Ob
def Emb.fro (φ:Nat→Option Obj):Emb:=⟨fun _=>none,fun _=>none,φ⟩
structure COK (P:Program) (S:Spec):Prop where
  ok:∀ x r,S.F x=some r→∀ (w:World) (φ:Nat→Option Obj) (vs:List Value),(∀ k ob,φ k=some ob→w.heap[k]?=some ob)→VRs (Emb.fro φ) (q99 S.τs x) vs →
    Calls P S.g vs.toArray w fun e w'=>∃ v' η',e=.returned v'∧VR η' (S.enc r).1 v'∧(∀ M,HR M η' (q7n (S.enc r).2) w')∧Fr w (noK φ) (q7n (S.enc r).2) η' w'
  body : ∃ fn c, P.funcs[S.g]? = some fn ∧ fn.body = some c ∧ ¬ fn.name = "runtime.NumGoroutine"
theorem q9a:∀ (ls:List LV) (i n:Nat) (l:LV),(n,l)∈nums i ls→i≤n∧ls[n - i]?=some l
  | [],i,n,l,h=>by simp [nums] at h
  | x :: ls, i, n, l, h => by
    rcases List.mem_cons.1 h with h | h
    · injection h with h1 h2;subst h1 h2;exact ⟨Nat.le_refl _,by simp⟩
    · obtain ⟨h1, h2⟩ := q9a ls (i + 1) n l h
      exact ⟨by omega,by rw [show n - i=(n - (i+1))+1 by omega,List.getElem?_cons_succ];exact h2⟩
theorem q9b {w:World} {φ:Nat→Option Obj} (hφ:∀ k ob,φ k=some ob→w.heap[k]?=some ob) (M:Nat):HR M (Emb.fro φ) (q7n []) w :=
  ⟨fun _ _ _=>⟨rfl,rfl⟩,(fun b cs h=>by rw [q7q] at h;simp at h),(fun b cs h=>by rw [q7q] at h;simp at h),(fun b1 b2 c1 c2 L1 L2 h=>by rw [q7q] at h;simp at h),hφ,(fun k ⟨b,ob,L,h,_⟩=>by rw [q7q] at h;simp at h),fun b v h=>by cases h⟩
theorem q9c (w:World) (φ:Nat→Option Obj):Fr w (noK φ) (q7n []) (Emb.fro φ) w :=
  ⟨Nat.le_refl _,fun _ _ _=>rfl,(fun k ⟨b,ob,L,h,_⟩=>by rw [q7q] at h;simp at h),fun _ _ h=>h,fun _ _ h=>.inl h,rfl,rfl,rfl,Nat.le_refl _,fun _ _ h=>h.elim⟩
theorem Fr.same0 {w0 w:World} {φ:Nat→Option Obj} {H:LH} {η:Emb} (h:Fr w0 (noK φ) H η w) (k:Nat) (hk:k<w0.heap.size):w.heap[k]?=w0.heap[k]?:=h.same k hk fun h=>h
theorem Fr.lb0 {w0 w:World} {φ:Nat→Option Obj} {H:LH} {η:Emb} (h:Fr w0 (noK φ) H η w) (k:Nat) (hk:LB H η k):w0.heap.size≤k:=(h.lb k hk).elim (fun h=>h) fun h=>h.elim
theorem Fr.fzn0 {w0 w:World} {φ:Nat→Option Obj} {H:LH} {η:Emb} (h:Fr w0 (noK φ) H η w) (k:Nat) (ob:Obj) (hk:η.fz k=some ob):φ k=some ob∨w0.heap.size≤k:=(h.fzn k ob hk).elim .inl fun h=>h.elim .inr fun h=>h.elim
def End (T:Tys) (w0:World) (φ0:Fz0) (N:Nat) (rs:List ResultVar) (out:LV×List Ob) (Q:Exit→Act→World→Prop):Prop :=
  ∀ s,tfin T rs s=some out→Cn w0 φ0 N s Q .normal∧Cn w0 φ0 N s Q .ret
theorem q9d (hT:TysOK P T) {S:Spec} {r:S.R} {fn:Func} {s:St} {w:World} {ψ:Fz0} (hs:tfin T fn.results.toList s=some (S.enc r)):∀ a w',SS w ψ fn.ntmps s a w'→a.defers=ψ.D∧∃ v,(results fn a.tmps).run P w'=.ok v w'∧∃ v' η',(Ending.returned v)=.returned v'∧VR η' (S.enc r).1 v'∧(∀ M,HR M η' (q7n (S.enc r).2) w')∧Fr w ψ (q7n (S.enc r).2) η' w':=by
  intro a w' hss
  obtain ⟨η,hsr,hfr⟩:=hss.sr
  refine ⟨hss.defers,?_⟩
  unfold tfin at hs
  split at hs
  · rename_i ls hls
    generalize q6b (q7n s.ob) 1000 (ls.flatMap q69) []=ρ at hs
    simp only at hs
    rw [Bool.cond_eq_ite] at hs
    split at hs
    · rename_i hn
      split at hs
      · rename_i ls' obs h1 h2
        injection hs with hs
        obtain ⟨us,r1,r2⟩:=q96 hT (hsr 0) fn.results.toList hls
        have hlen2:=r2.1
        have hrun:(results fn a.tmps).run P w'=.ok (if h:us.length=1 then us[0] else .tuple us.toArray) w':=by
          have e5:results fn a.tmps=(do let vs ← fn.results.mapM (q95 a.tmps);pure (if h:vs.size=1 then vs[0] else .tuple vs)):=by
            unfold results
            refine congrArg (fun f:ResultVar→Sem Value=>(do let vs ← fn.results.mapM f;pure (if h:vs.size=1 then vs[0] else .tuple vs):Sem Value)) ?_
            funext x;cases x<;>rfl
          rw [e5,Array.mapM_eq_mapM_toList]
          simp [r1]
        have r3:=rens_ok ρ h1 r2
        have hlen3:=r3.1
        have hval:VR (η.sub ρ) (xone ls') (if h:us.length=1 then us[0] else .tuple us.toArray):=by
          cases ls' with
          | nil =>
            have:us=[]:=by simpa using hlen3.symm
            subst this;exact .tup r3.1 r3.2
          | cons l ls' =>
            cases ls' with
            | nil =>
              obtain ⟨u,rfl,hu⟩:=vrs1 r3
              exact hu
            | cons l2 ls' =>
              have:¬ us.length=1:=by simp at hlen3;omega
              rw [dif_neg this];exact .tup r3.1 r3.2
        have o1:xone ls'=(S.enc r).1:=congrArg Prod.fst hs
        have o2:obs=(S.enc r).2:=congrArg Prod.snd hs
        rw [o1] at hval
        rw [o2] at h2
        exact ⟨_,hrun,_,_,rfl,hval,q8e hn h2 (hsr 0).hr,q8f h2 hfr⟩
      · cases hs
    · cases hs
  · cases hs
theorem q9e (hT : TysOK P T) {S : Spec} {fn : Func} {c : Code} (hfn : P.funcs[S.g]? = some fn) (hc : fn.body = some c) (hname : ¬ fn.name = "runtime.NumGoroutine")
    (h:∀ x r,S.F x=some r→∀ w0 φ0 Q,End T w0 φ0 fn.ntmps fn.results.toList (S.enc r) Q→Run P w0 φ0 fn.ntmps c ⟨nums 0 (q99 S.τs x),[]⟩ Q):COK P S:=by
  refine ⟨fun x r hx w φ vs hφ hv=>?_,fn,c,hfn,hc,hname⟩
  refine calls_of_wp hfn hc ?_
  refine h x r hx w (noK φ) _ (fun s hs=>?_) _ w ⟨⟨Emb.fro φ,q9b hφ,fun n l hl=>?_,q9c w φ⟩,?_,rfl⟩
  · have fin : ∀ a w', SS w (noK φ) fn.ntmps s a w' → _ := q9d (S := S) (r := r) hT hs
    exact ⟨fun a w' hss=>fin a w' hss,fun a w' hss=>fin a w' hss⟩
  · obtain ⟨_, h2⟩ := q9a _ 0 n l hl
    rw [Nat.sub_zero] at h2
    obtain ⟨v,e1,e2⟩:=hv.get h2
    refine ⟨v,?_,e2⟩
    have hlt:=(List.getElem?_eq_some_iff.1 e1).1
    rw [Array.getElem?_append_left (by simpa using hlt)]
    simpa using e1
  · simp;omega
end
end Go.Tx

namespace Go
open RowKit
structure Bel (w w':World):Prop where
  toBelow:Below w.heap.size w w'
  mono:w.drawn≤w'.drawn
theorem Bel.os {w w':World} (h:Bel w w'):w'.os=w.os:=h.toBelow.os
theorem Bel.tape {w w':World} (h:Bel w w'):w'.tape=w.tape:=h.toBelow.tape
theorem Bel.output {w w':World} (h:Bel w w'):w'.output=w.output:=h.toBelow.output
theorem Bel.size {w w':World} (h:Bel w w'):w.heap.size≤w'.heap.size:=h.toBelow.size
theorem Bel.block {w w':World} (h:Bel w w') (k:Nat) (hk:k<w.heap.size):w'.heap[k]?=w.heap[k]?:=h.toBelow.block k hk
structure Beyond where
  objs:Array Obj
  drawn:Nat
instance:Inhabited Beyond:=⟨⟨#[],0⟩⟩
def Beyond.and (x y:Beyond):Beyond:=⟨x.objs++y.objs,x.drawn+y.drawn⟩
def Beyond.drewN (x:Beyond) (n:Nat):Beyond:=⟨x.objs,x.drawn+n⟩
def ext (w:World) (x:Beyond):World:={ w with heap:=w.heap++x.objs,drawn:=w.drawn+x.drawn }
def Beyond.len (x:Beyond):Nat:=x.objs.size

theorem Bel.refl (w:World):Bel w w:=⟨Below.refl _ _,Nat.le_refl _⟩
theorem Bel.trans {a b c:World} (h:Bel a b) (k:Bel b c):Bel a c:=⟨Below.trans h.toBelow (Below.mono k.toBelow h.size),Nat.le_trans h.mono k.mono⟩
@[simp,go_sem] theorem q9f (w:World) (x:Beyond):(ext w x).heap.size=w.heap.size+x.len:=by simp [ext,Beyond.len]
theorem q9g (x y:Beyond):(x.and y).len=x.len+y.len:=by simp [Beyond.and,Beyond.len]
@[simp,go_sem] theorem q9h (m:Nat) (x y:Beyond):m+(x.and y).len=m+x.len+y.len:=by rw [q9g,Nat.add_assoc]
@[simp,go_sem] theorem q9i (x:Beyond) (n:Nat):(x.drewN n).len=x.len:=rfl
theorem q9j (w:World) (x:Beyond):Bel w (ext w x) :=
  ⟨⟨rfl,rfl,rfl,by simp,fun k hk=>by simp only [ext];rw [Array.getElem?_append_left hk]⟩,by simp [ext]⟩
theorem ext_of {w w':World} (h:Bel w w'):∃ x,w'=ext w x:=by
  refine ⟨⟨(w'.heap.toList.drop w.heap.size).toArray,w'.drawn - w.drawn⟩,?_⟩
  have hdr:w.drawn+(w'.drawn - w.drawn)=w'.drawn:=by have:=h.mono;omega
  have hh:w'.heap=w.heap++(w'.heap.toList.drop w.heap.size).toArray:=by
    apply Array.ext_getElem?
    intro k
    rcases Nat.lt_or_ge k w.heap.size with hk | hk
    · rw [Array.getElem?_append_left hk,h.block k hk]
    · rw [Array.getElem?_append_right hk]
      simp only [List.getElem?_toArray,List.getElem?_drop]
      rw [show w.heap.size+(k - w.heap.size)=k from by omega];simp
  cases w' with | mk hp tp dr o ou =>
  cases w with | mk hp2 tp2 dr2 o2 ou2 =>
  have h1:=h.os;have h2:=h.tape;have h3:=h.output
  simp only at h1 h2 h3 hh hdr
  subst h1 h2 h3
  simp only [ext]
  rw [← hh,hdr]
theorem q9k {w w':World} (h:∃ x,w'=ext w x):Bel w w':=by obtain ⟨x,rfl⟩:=h;exact q9j w x
theorem Bel.alloc {a w:World} (h:Bel a w) (o:Obj):Bel a (w.alloc o):=⟨Below.alloc h.toBelow h.size o,h.mono⟩
theorem Bel.drew {a w:World} (h:Bel a w):Bel a w.drew:=⟨Below.drew h.toBelow,Nat.le_trans h.mono (Nat.le_succ _)⟩
theorem Bel.drewN {a w:World} (h:Bel a w) (n:Nat):Bel a (w.drewN n):=⟨⟨h.os,h.tape,h.output,h.size,h.block⟩,Nat.le_trans h.mono (Nat.le_add_right _ _)⟩
theorem Bel.ext {a w:World} (h:Bel a w) (x:Beyond):Bel a (ext w x):=h.trans (q9j w x)
theorem Bel.setCell {a w:World} (h:Bel a w) {p:Addr} (hp:a.heap.size≤p.block) (u:Value):Bel a (w.setCell p u):=⟨Below.setCell h.toBelow hp u,h.mono⟩
theorem Bel.grown {a w w':World} {row:Option Nat} (h:Bel a w) (hg:w.grownBy w' row) (hr:∀ k,row=some k→a.heap.size≤k) (hm:w.drawn≤w'.drawn):Bel a w':=⟨Below.grown h.toBelow hg h.size hr,Nat.le_trans h.mono hm⟩
theorem Bel.le {a w:World} (h:Bel a w):a.heap.size≤w.heap.size:=h.size

@[go_sem] theorem q9l (n m k1:Nat) (h:n<m):n<m+k1:=by omega
@[go_sem] theorem q9m (n m k1:Nat) (h:n≤m):n≤m+k1:=by omega
@[go_sem] theorem q9n (n m k1:Nat) (h:n<m):n≤m+k1:=by omega
@[go_sem] theorem q9o (n m k1:Nat) (h:n<m):(n=m+k1)=False:=eq_false (by omega)
@[go_sem] theorem q9p (n m k1:Nat) (h:n<m):(m+k1=n)=False:=eq_false (by omega)
@[go_sem] theorem q9q (n m k1 k2:Nat) (h:n<m):n<m+k1+k2:=by omega
@[go_sem] theorem q9r (n m k1 k2:Nat) (h:n≤m):n≤m+k1+k2:=by omega
@[go_sem] theorem q9s (n m k1 k2:Nat) (h:n<m):n≤m+k1+k2:=by omega
@[go_sem] theorem q9t (n m k1 k2:Nat) (h:n<m):(n=m+k1+k2)=False:=eq_false (by omega)
@[go_sem] theorem q9u (n m k1 k2:Nat) (h:n<m):(m+k1+k2=n)=False:=eq_false (by omega)
@[go_sem] theorem q9v (n m k1 k2 k3:Nat) (h:n<m):n<m+k1+k2+k3:=by omega
@[go_sem] theorem q9w (n m k1 k2 k3:Nat) (h:n≤m):n≤m+k1+k2+k3:=by omega
@[go_sem] theorem q9x (n m k1 k2 k3:Nat) (h:n<m):n≤m+k1+k2+k3:=by omega
@[go_sem] theorem q9y (n m k1 k2 k3:Nat) (h:n<m):(n=m+k1+k2+k3)=False:=eq_false (by omega)
@[go_sem] theorem q9z (n m k1 k2 k3:Nat) (h:n<m):(m+k1+k2+k3=n)=False:=eq_false (by omega)
@[go_sem] theorem qa0 (n m k1 k2 k3 k4:Nat) (h:n<m):n<m+k1+k2+k3+k4:=by omega
@[go_sem] theorem qa1 (n m k1 k2 k3 k4:Nat) (h:n≤m):n≤m+k1+k2+k3+k4:=by omega
@[go_sem] theorem qa2 (n m k1 k2 k3 k4:Nat) (h:n<m):n≤m+k1+k2+k3+k4:=by omega
@[go_sem] theorem qa3 (n m k1 k2 k3 k4:Nat) (h:n<m):(n=m+k1+k2+k3+k4)=False:=eq_false (by omega)
@[go_sem] theorem qa4 (n m k1 k2 k3 k4:Nat) (h:n<m):(m+k1+k2+k3+k4=n)=False:=eq_false (by omega)
@[go_sem] theorem qa5 (n m k1 k2 k3 k4 k5:Nat) (h:n<m):n<m+k1+k2+k3+k4+k5:=by omega
@[go_sem] theorem qa6 (n m k1 k2 k3 k4 k5:Nat) (h:n≤m):n≤m+k1+k2+k3+k4+k5:=by omega
@[go_sem] theorem qa7 (n m k1 k2 k3 k4 k5:Nat) (h:n<m):n≤m+k1+k2+k3+k4+k5:=by omega
@[go_sem] theorem qa8 (n m k1 k2 k3 k4 k5:Nat) (h:n<m):(n=m+k1+k2+k3+k4+k5)=False:=eq_false (by omega)
@[go_sem] theorem qa9 (n m k1 k2 k3 k4 k5:Nat) (h:n<m):(m+k1+k2+k3+k4+k5=n)=False:=eq_false (by omega)
@[go_sem] theorem qaa (n m k1 k2 k3 k4 k5 k6:Nat) (h:n<m):n<m+k1+k2+k3+k4+k5+k6:=by omega
@[go_sem] theorem qab (n m k1 k2 k3 k4 k5 k6:Nat) (h:n≤m):n≤m+k1+k2+k3+k4+k5+k6:=by omega
@[go_sem] theorem qac (n m k1 k2 k3 k4 k5 k6:Nat) (h:n<m):n≤m+k1+k2+k3+k4+k5+k6:=by omega
@[go_sem] theorem qad (n m k1 k2 k3 k4 k5 k6:Nat) (h:n<m):(n=m+k1+k2+k3+k4+k5+k6)=False:=eq_false (by omega)
@[go_sem] theorem qae (n m k1 k2 k3 k4 k5 k6:Nat) (h:n<m):(m+k1+k2+k3+k4+k5+k6=n)=False:=eq_false (by omega)
@[go_sem] theorem qaf (n m k1 k2 k3 k4 k5 k6 k7:Nat) (h:n<m):n<m+k1+k2+k3+k4+k5+k6+k7:=by omega
@[go_sem] theorem qag (n m k1 k2 k3 k4 k5 k6 k7:Nat) (h:n≤m):n≤m+k1+k2+k3+k4+k5+k6+k7:=by omega
@[go_sem] theorem qah (n m k1 k2 k3 k4 k5 k6 k7:Nat) (h:n<m):n≤m+k1+k2+k3+k4+k5+k6+k7:=by omega
@[go_sem] theorem qai (n m k1 k2 k3 k4 k5 k6 k7:Nat) (h:n<m):(n=m+k1+k2+k3+k4+k5+k6+k7)=False:=eq_false (by omega)
@[go_sem] theorem qaj (n m k1 k2 k3 k4 k5 k6 k7:Nat) (h:n<m):(m+k1+k2+k3+k4+k5+k6+k7=n)=False:=eq_false (by omega)
@[go_sem] theorem qak (n m k1 k2 k3 k4 k5 k6 k7 k8:Nat) (h:n<m):n<m+k1+k2+k3+k4+k5+k6+k7+k8:=by omega
@[go_sem] theorem qal (n m k1 k2 k3 k4 k5 k6 k7 k8:Nat) (h:n≤m):n≤m+k1+k2+k3+k4+k5+k6+k7+k8:=by omega
@[go_sem] theorem qam (n m k1 k2 k3 k4 k5 k6 k7 k8:Nat) (h:n<m):n≤m+k1+k2+k3+k4+k5+k6+k7+k8:=by omega
@[go_sem] theorem qan (n m k1 k2 k3 k4 k5 k6 k7 k8:Nat) (h:n<m):(n=m+k1+k2+k3+k4+k5+k6+k7+k8)=False:=eq_false (by omega)
@[go_sem] theorem qao (n m k1 k2 k3 k4 k5 k6 k7 k8:Nat) (h:n<m):(m+k1+k2+k3+k4+k5+k6+k7+k8=n)=False:=eq_false (by omega)
@[go_sem] theorem qap (n m k1 k2 k3 k4 k5 k6 k7 k8 k9:Nat) (h:n<m):n<m+k1+k2+k3+k4+k5+k6+k7+k8+k9:=by omega
@[go_sem] theorem qaq (n m k1 k2 k3 k4 k5 k6 k7 k8 k9:Nat) (h:n≤m):n≤m+k1+k2+k3+k4+k5+k6+k7+k8+k9:=by omega
@[go_sem] theorem qar (n m k1 k2 k3 k4 k5 k6 k7 k8 k9:Nat) (h:n<m):n≤m+k1+k2+k3+k4+k5+k6+k7+k8+k9:=by omega
@[go_sem] theorem qas (n m k1 k2 k3 k4 k5 k6 k7 k8 k9:Nat) (h:n<m):(n=m+k1+k2+k3+k4+k5+k6+k7+k8+k9)=False:=eq_false (by omega)
@[go_sem] theorem qat (n m k1 k2 k3 k4 k5 k6 k7 k8 k9:Nat) (h:n<m):(m+k1+k2+k3+k4+k5+k6+k7+k8+k9=n)=False:=eq_false (by omega)
@[go_sem] theorem qau (n m k1 k2 k3 k4 k5 k6 k7 k8 k9 k10:Nat) (h:n<m):n<m+k1+k2+k3+k4+k5+k6+k7+k8+k9+k10:=by omega
@[go_sem] theorem qav (n m k1 k2 k3 k4 k5 k6 k7 k8 k9 k10:Nat) (h:n≤m):n≤m+k1+k2+k3+k4+k5+k6+k7+k8+k9+k10:=by omega
@[go_sem] theorem qaw (n m k1 k2 k3 k4 k5 k6 k7 k8 k9 k10:Nat) (h:n<m):n≤m+k1+k2+k3+k4+k5+k6+k7+k8+k9+k10:=by omega
@[go_sem] theorem qax (n m k1 k2 k3 k4 k5 k6 k7 k8 k9 k10:Nat) (h:n<m):(n=m+k1+k2+k3+k4+k5+k6+k7+k8+k9+k10)=False:=eq_false (by omega)
@[go_sem] theorem qay (n m k1 k2 k3 k4 k5 k6 k7 k8 k9 k10:Nat) (h:n<m):(m+k1+k2+k3+k4+k5+k6+k7+k8+k9+k10=n)=False:=eq_false (by omega)
@[go_sem] theorem qaz (n m k1 k2 k3 k4 k5 k6 k7 k8 k9 k10 k11:Nat) (h:n<m):n<m+k1+k2+k3+k4+k5+k6+k7+k8+k9+k10+k11:=by omega
@[go_sem] theorem qb0 (n m k1 k2 k3 k4 k5 k6 k7 k8 k9 k10 k11:Nat) (h:n≤m):n≤m+k1+k2+k3+k4+k5+k6+k7+k8+k9+k10+k11:=by omega
@[go_sem] theorem qb1 (n m k1 k2 k3 k4 k5 k6 k7 k8 k9 k10 k11:Nat) (h:n<m):n≤m+k1+k2+k3+k4+k5+k6+k7+k8+k9+k10+k11:=by omega
@[go_sem] theorem qb2 (n m k1 k2 k3 k4 k5 k6 k7 k8 k9 k10 k11:Nat) (h:n<m):(n=m+k1+k2+k3+k4+k5+k6+k7+k8+k9+k10+k11)=False:=eq_false (by omega)
@[go_sem] theorem qb3 (n m k1 k2 k3 k4 k5 k6 k7 k8 k9 k10 k11:Nat) (h:n<m):(m+k1+k2+k3+k4+k5+k6+k7+k8+k9+k10+k11=n)=False:=eq_false (by omega)
@[go_sem] theorem qb4 (n m k1 k2 k3 k4 k5 k6 k7 k8 k9 k10 k11 k12:Nat) (h:n<m):n<m+k1+k2+k3+k4+k5+k6+k7+k8+k9+k10+k11+k12:=by omega
@[go_sem] theorem qb5 (n m k1 k2 k3 k4 k5 k6 k7 k8 k9 k10 k11 k12:Nat) (h:n≤m):n≤m+k1+k2+k3+k4+k5+k6+k7+k8+k9+k10+k11+k12:=by omega
@[go_sem] theorem qb6 (n m k1 k2 k3 k4 k5 k6 k7 k8 k9 k10 k11 k12:Nat) (h:n<m):n≤m+k1+k2+k3+k4+k5+k6+k7+k8+k9+k10+k11+k12:=by omega
@[go_sem] theorem qb7 (n m k1 k2 k3 k4 k5 k6 k7 k8 k9 k10 k11 k12:Nat) (h:n<m):(n=m+k1+k2+k3+k4+k5+k6+k7+k8+k9+k10+k11+k12)=False:=eq_false (by omega)
@[go_sem] theorem qb8 (n m k1 k2 k3 k4 k5 k6 k7 k8 k9 k10 k11 k12:Nat) (h:n<m):(m+k1+k2+k3+k4+k5+k6+k7+k8+k9+k10+k11+k12=n)=False:=eq_false (by omega)
@[go_sem] theorem qb9 (n m k1 k2 k3 k4 k5 k6 k7 k8 k9 k10 k11 k12 k13:Nat) (h:n<m):n<m+k1+k2+k3+k4+k5+k6+k7+k8+k9+k10+k11+k12+k13:=by omega
@[go_sem] theorem qba (n m k1 k2 k3 k4 k5 k6 k7 k8 k9 k10 k11 k12 k13:Nat) (h:n≤m):n≤m+k1+k2+k3+k4+k5+k6+k7+k8+k9+k10+k11+k12+k13:=by omega
@[go_sem] theorem qbb (n m k1 k2 k3 k4 k5 k6 k7 k8 k9 k10 k11 k12 k13:Nat) (h:n<m):n≤m+k1+k2+k3+k4+k5+k6+k7+k8+k9+k10+k11+k12+k13:=by omega
@[go_sem] theorem qbc (n m k1 k2 k3 k4 k5 k6 k7 k8 k9 k10 k11 k12 k13:Nat) (h:n<m):(n=m+k1+k2+k3+k4+k5+k6+k7+k8+k9+k10+k11+k12+k13)=False:=eq_false (by omega)
@[go_sem] theorem qbd (n m k1 k2 k3 k4 k5 k6 k7 k8 k9 k10 k11 k12 k13:Nat) (h:n<m):(m+k1+k2+k3+k4+k5+k6+k7+k8+k9+k10+k11+k12+k13=n)=False:=eq_false (by omega)
@[go_sem] theorem qbe (n m k1 k2 k3 k4 k5 k6 k7 k8 k9 k10 k11 k12 k13 k14:Nat) (h:n<m):n<m+k1+k2+k3+k4+k5+k6+k7+k8+k9+k10+k11+k12+k13+k14:=by omega
@[go_sem] theorem qbf (n m k1 k2 k3 k4 k5 k6 k7 k8 k9 k10 k11 k12 k13 k14:Nat) (h:n≤m):n≤m+k1+k2+k3+k4+k5+k6+k7+k8+k9+k10+k11+k12+k13+k14:=by omega
@[go_sem] theorem qbg (n m k1 k2 k3 k4 k5 k6 k7 k8 k9 k10 k11 k12 k13 k14:Nat) (h:n<m):n≤m+k1+k2+k3+k4+k5+k6+k7+k8+k9+k10+k11+k12+k13+k14:=by omega
@[go_sem] theorem qbh (n m k1 k2 k3 k4 k5 k6 k7 k8 k9 k10 k11 k12 k13 k14:Nat) (h:n<m):(n=m+k1+k2+k3+k4+k5+k6+k7+k8+k9+k10+k11+k12+k13+k14)=False:=eq_false (by omega)
@[go_sem] theorem qbi (n m k1 k2 k3 k4 k5 k6 k7 k8 k9 k10 k11 k12 k13 k14:Nat) (h:n<m):(m+k1+k2+k3+k4+k5+k6+k7+k8+k9+k10+k11+k12+k13+k14=n)=False:=eq_false (by omega)
@[go_sem] theorem qbj (n m k1 k2 k3 k4 k5 k6 k7 k8 k9 k10 k11 k12 k13 k14 k15:Nat) (h:n<m):n<m+k1+k2+k3+k4+k5+k6+k7+k8+k9+k10+k11+k12+k13+k14+k15:=by omega
@[go_sem] theorem qbk (n m k1 k2 k3 k4 k5 k6 k7 k8 k9 k10 k11 k12 k13 k14 k15:Nat) (h:n≤m):n≤m+k1+k2+k3+k4+k5+k6+k7+k8+k9+k10+k11+k12+k13+k14+k15:=by omega
@[go_sem] theorem qbl (n m k1 k2 k3 k4 k5 k6 k7 k8 k9 k10 k11 k12 k13 k14 k15:Nat) (h:n<m):n≤m+k1+k2+k3+k4+k5+k6+k7+k8+k9+k10+k11+k12+k13+k14+k15:=by omega
@[go_sem] theorem qbm (n m k1 k2 k3 k4 k5 k6 k7 k8 k9 k10 k11 k12 k13 k14 k15:Nat) (h:n<m):(n=m+k1+k2+k3+k4+k5+k6+k7+k8+k9+k10+k11+k12+k13+k14+k15)=False:=eq_false (by omega)
@[go_sem] theorem qbn (n m k1 k2 k3 k4 k5 k6 k7 k8 k9 k10 k11 k12 k13 k14 k15:Nat) (h:n<m):(m+k1+k2+k3+k4+k5+k6+k7+k8+k9+k10+k11+k12+k13+k14+k15=n)=False:=eq_false (by omega)
@[go_sem] theorem qbo (n m k1 k2 k3 k4 k5 k6 k7 k8 k9 k10 k11 k12 k13 k14 k15 k16:Nat) (h:n<m):n<m+k1+k2+k3+k4+k5+k6+k7+k8+k9+k10+k11+k12+k13+k14+k15+k16:=by omega
@[go_sem] theorem qbp (n m k1 k2 k3 k4 k5 k6 k7 k8 k9 k10 k11 k12 k13 k14 k15 k16:Nat) (h:n≤m):n≤m+k1+k2+k3+k4+k5+k6+k7+k8+k9+k10+k11+k12+k13+k14+k15+k16:=by omega
@[go_sem] theorem qbq (n m k1 k2 k3 k4 k5 k6 k7 k8 k9 k10 k11 k12 k13 k14 k15 k16:Nat) (h:n<m):n≤m+k1+k2+k3+k4+k5+k6+k7+k8+k9+k10+k11+k12+k13+k14+k15+k16:=by omega
@[go_sem] theorem qbr (n m k1 k2 k3 k4 k5 k6 k7 k8 k9 k10 k11 k12 k13 k14 k15 k16:Nat) (h:n<m):(n=m+k1+k2+k3+k4+k5+k6+k7+k8+k9+k10+k11+k12+k13+k14+k15+k16)=False:=eq_false (by omega)
@[go_sem] theorem qbs (n m k1 k2 k3 k4 k5 k6 k7 k8 k9 k10 k11 k12 k13 k14 k15 k16:Nat) (h:n<m):(m+k1+k2+k3+k4+k5+k6+k7+k8+k9+k10+k11+k12+k13+k14+k15+k16=n)=False:=eq_false (by omega)
@[go_sem] theorem qbt (n m k1 k2 k3 k4 k5 k6 k7 k8 k9 k10 k11 k12 k13 k14 k15 k16 k17:Nat) (h:n<m):n<m+k1+k2+k3+k4+k5+k6+k7+k8+k9+k10+k11+k12+k13+k14+k15+k16+k17:=by omega
@[go_sem] theorem qbu (n m k1 k2 k3 k4 k5 k6 k7 k8 k9 k10 k11 k12 k13 k14 k15 k16 k17:Nat) (h:n≤m):n≤m+k1+k2+k3+k4+k5+k6+k7+k8+k9+k10+k11+k12+k13+k14+k15+k16+k17:=by omega
@[go_sem] theorem qbv (n m k1 k2 k3 k4 k5 k6 k7 k8 k9 k10 k11 k12 k13 k14 k15 k16 k17:Nat) (h:n<m):n≤m+k1+k2+k3+k4+k5+k6+k7+k8+k9+k10+k11+k12+k13+k14+k15+k16+k17:=by omega
@[go_sem] theorem qbw (n m k1 k2 k3 k4 k5 k6 k7 k8 k9 k10 k11 k12 k13 k14 k15 k16 k17:Nat) (h:n<m):(n=m+k1+k2+k3+k4+k5+k6+k7+k8+k9+k10+k11+k12+k13+k14+k15+k16+k17)=False:=eq_false (by omega)
@[go_sem] theorem qbx (n m k1 k2 k3 k4 k5 k6 k7 k8 k9 k10 k11 k12 k13 k14 k15 k16 k17:Nat) (h:n<m):(m+k1+k2+k3+k4+k5+k6+k7+k8+k9+k10+k11+k12+k13+k14+k15+k16+k17=n)=False:=eq_false (by omega)
@[go_sem] theorem qby (n m k1 k2 k3 k4 k5 k6 k7 k8 k9 k10 k11 k12 k13 k14 k15 k16 k17 k18:Nat) (h:n<m):n<m+k1+k2+k3+k4+k5+k6+k7+k8+k9+k10+k11+k12+k13+k14+k15+k16+k17+k18:=by omega
@[go_sem] theorem qbz (n m k1 k2 k3 k4 k5 k6 k7 k8 k9 k10 k11 k12 k13 k14 k15 k16 k17 k18:Nat) (h:n≤m):n≤m+k1+k2+k3+k4+k5+k6+k7+k8+k9+k10+k11+k12+k13+k14+k15+k16+k17+k18:=by omega
@[go_sem] theorem qc0 (n m k1 k2 k3 k4 k5 k6 k7 k8 k9 k10 k11 k12 k13 k14 k15 k16 k17 k18:Nat) (h:n<m):n≤m+k1+k2+k3+k4+k5+k6+k7+k8+k9+k10+k11+k12+k13+k14+k15+k16+k17+k18:=by omega
@[go_sem] theorem qc1 (n m k1 k2 k3 k4 k5 k6 k7 k8 k9 k10 k11 k12 k13 k14 k15 k16 k17 k18:Nat) (h:n<m):(n=m+k1+k2+k3+k4+k5+k6+k7+k8+k9+k10+k11+k12+k13+k14+k15+k16+k17+k18)=False:=eq_false (by omega)
@[go_sem] theorem qc2 (n m k1 k2 k3 k4 k5 k6 k7 k8 k9 k10 k11 k12 k13 k14 k15 k16 k17 k18:Nat) (h:n<m):(m+k1+k2+k3+k4+k5+k6+k7+k8+k9+k10+k11+k12+k13+k14+k15+k16+k17+k18=n)=False:=eq_false (by omega)
@[go_sem] theorem qc3 (n m k1 k2 k3 k4 k5 k6 k7 k8 k9 k10 k11 k12 k13 k14 k15 k16 k17 k18 k19:Nat) (h:n<m):n<m+k1+k2+k3+k4+k5+k6+k7+k8+k9+k10+k11+k12+k13+k14+k15+k16+k17+k18+k19:=by omega
@[go_sem] theorem qc4 (n m k1 k2 k3 k4 k5 k6 k7 k8 k9 k10 k11 k12 k13 k14 k15 k16 k17 k18 k19:Nat) (h:n≤m):n≤m+k1+k2+k3+k4+k5+k6+k7+k8+k9+k10+k11+k12+k13+k14+k15+k16+k17+k18+k19:=by omega
@[go_sem] theorem qc5 (n m k1 k2 k3 k4 k5 k6 k7 k8 k9 k10 k11 k12 k13 k14 k15 k16 k17 k18 k19:Nat) (h:n<m):n≤m+k1+k2+k3+k4+k5+k6+k7+k8+k9+k10+k11+k12+k13+k14+k15+k16+k17+k18+k19:=by omega
@[go_sem] theorem qc6 (n m k1 k2 k3 k4 k5 k6 k7 k8 k9 k10 k11 k12 k13 k14 k15 k16 k17 k18 k19:Nat) (h:n<m):(n=m+k1+k2+k3+k4+k5+k6+k7+k8+k9+k10+k11+k12+k13+k14+k15+k16+k17+k18+k19)=False:=eq_false (by omega)
@[go_sem] theorem qc7 (n m k1 k2 k3 k4 k5 k6 k7 k8 k9 k10 k11 k12 k13 k14 k15 k16 k17 k18 k19:Nat) (h:n<m):(m+k1+k2+k3+k4+k5+k6+k7+k8+k9+k10+k11+k12+k13+k14+k15+k16+k17+k18+k19=n)=False:=eq_false (by omega)
@[go_sem] theorem qc8 (n m k1 k2 k3 k4 k5 k6 k7 k8 k9 k10 k11 k12 k13 k14 k15 k16 k17 k18 k19 k20:Nat) (h:n<m):n<m+k1+k2+k3+k4+k5+k6+k7+k8+k9+k10+k11+k12+k13+k14+k15+k16+k17+k18+k19+k20:=by omega
@[go_sem] theorem qc9 (n m k1 k2 k3 k4 k5 k6 k7 k8 k9 k10 k11 k12 k13 k14 k15 k16 k17 k18 k19 k20:Nat) (h:n≤m):n≤m+k1+k2+k3+k4+k5+k6+k7+k8+k9+k10+k11+k12+k13+k14+k15+k16+k17+k18+k19+k20:=by omega
@[go_sem] theorem qca (n m k1 k2 k3 k4 k5 k6 k7 k8 k9 k10 k11 k12 k13 k14 k15 k16 k17 k18 k19 k20:Nat) (h:n<m):n≤m+k1+k2+k3+k4+k5+k6+k7+k8+k9+k10+k11+k12+k13+k14+k15+k16+k17+k18+k19+k20:=by omega
@[go_sem] theorem qcb (n m k1 k2 k3 k4 k5 k6 k7 k8 k9 k10 k11 k12 k13 k14 k15 k16 k17 k18 k19 k20:Nat) (h:n<m):(n=m+k1+k2+k3+k4+k5+k6+k7+k8+k9+k10+k11+k12+k13+k14+k15+k16+k17+k18+k19+k20)=False:=eq_false (by omega)
@[go_sem] theorem qcc (n m k1 k2 k3 k4 k5 k6 k7 k8 k9 k10 k11 k12 k13 k14 k15 k16 k17 k18 k19 k20:Nat) (h:n<m):(m+k1+k2+k3+k4+k5+k6+k7+k8+k9+k10+k11+k12+k13+k14+k15+k16+k17+k18+k19+k20=n)=False:=eq_false (by omega)
@[go_sem] theorem qcd (w:World) (x:Beyond) (n i:Nat) (h:n<w.heap.size):(ext w x).cell? ⟨n,i,none⟩=w.cell? ⟨n,i,none⟩:=Below.cell (p:=⟨n,i,none⟩) (q9j w x).toBelow h
@[go_sem] theorem qce (w:World) (x:Beyond) (n i:Nat) (h:n<w.heap.size):(ext w x).frozen? ⟨n,i,none⟩=w.frozen? ⟨n,i,none⟩:=Below.frozen (p:=⟨n,i,none⟩) (q9j w x).toBelow h
theorem qcf (w:World) (x:Beyond) (n:Nat) (h:n<w.heap.size):(ext w x).heap[n]?=w.heap[n]?:=(q9j w x).block n h
@[go_sem] theorem qcg (w:World) (x:Beyond) (n:Nat) (h:n<w.heap.size):(ext w x).shape? n=w.shape? n:=by
  unfold World.shape?;rw [qcf w x n h]

@[go_sem] theorem qch (w:World) (x:Beyond):(ext w x).drew=ext w (x.drewN 1):=rfl
@[go_sem] theorem qci (w:World) (x:Beyond) (n:Nat):(ext w x).drewN n=ext w (x.drewN n):=by simp [ext,Beyond.drewN,World.drewN,Nat.add_assoc]
@[go_sem] theorem qcj (w:World) (x y:Beyond):ext (ext w x) y=ext w (x.and y):=by simp [ext,Beyond.and,Array.append_assoc,Nat.add_assoc]
@[go_sem] theorem qck (w:World) (x:Beyond) (n:Nat):ext (w.drewN n) x=ext w (x.drewN n):=by
  have h:w.drawn+n+x.drawn=w.drawn+(x.drawn+n):=by omega
  show ({ w with heap:=w.heap++x.objs,drawn:=w.drawn+n+x.drawn }:World)=_
  rw [h];rfl
@[go_sem] theorem qcl (w:World) (x:Beyond):ext w.drew x=ext w (x.drewN 1):=by
  have h:w.drawn+1+x.drawn=w.drawn+(x.drawn+1):=by omega
  show ({ w with heap:=w.heap++x.objs,drawn:=w.drawn+1+x.drawn }:World)=_
  rw [h];rfl
theorem qcm {α:Type} (xs ys:Array α) (n:Nat) (f:α→α) (h:n<xs.size):(xs++ys).modify n f=xs.modify n f++ys:=by
  apply Array.ext_getElem?
  intro k
  rw [Array.getElem?_modify]
  rcases Nat.lt_or_ge k xs.size with hk | hk
  · rw [Array.getElem?_append_left hk,Array.getElem?_append_left (by simpa using hk),Array.getElem?_modify]
  · rw [if_neg (by omega),Array.getElem?_append_right hk,Array.getElem?_append_right (by simpa using hk)];simp
@[go_sem] theorem qcn (w:World) (x:Beyond) (n i:Nat) (u:Value) (h:n<w.heap.size):(ext w x).setCell ⟨n,i,none⟩ u=ext (w.setCell ⟨n,i,none⟩ u) x:=by
  simp only [World.setCell,ext];rw [qcm _ _ _ _ h]

@[go_sem] theorem qco (w:World) (x y:Beyond) (n i:Nat) (h:n<w.heap.size+x.len):(ext w (x.and y)).cell? ⟨n,i,none⟩=(ext w x).cell? ⟨n,i,none⟩:=by
  rw [← qcj];exact qcd _ _ _ _ (by rw [q9f];exact h)
@[go_sem] theorem qcp (w:World) (x y:Beyond) (n i:Nat) (h:n<w.heap.size+x.len):(ext w (x.and y)).frozen? ⟨n,i,none⟩=(ext w x).frozen? ⟨n,i,none⟩:=by
  rw [← qcj];exact qce _ _ _ _ (by rw [q9f];exact h)
@[go_sem] theorem qcq (w:World) (x:Beyond) (n:Nat) (a:Addr):(ext w (x.drewN n)).cell? a=(ext w x).cell? a:=rfl
@[go_sem] theorem qcr (w:World) (x:Beyond) (n:Nat) (a:Addr):(ext w (x.drewN n)).frozen? a=(ext w x).frozen? a:=rfl
theorem qcs {a w:World} {x:Beyond} (h:Bel a (Go.ext w x)) (y:Beyond):Bel a (Go.ext w (x.and y)):=by rw [← qcj];exact h.ext y
theorem qct {a w:World} {x:Beyond} (h:Bel a (Go.ext w x)) (n:Nat):Bel a (Go.ext w (x.drewN n)):=by rw [← qci];exact h.drewN n
theorem ext_of1 {w w':World} {x:Beyond} (h:Bel (Go.ext w x) w'):∃ y,w'=Go.ext w (x.and y):=by
  obtain ⟨y,rfl⟩:=Go.ext_of h;exact ⟨y,qcj w x y⟩
theorem Calls.ext_of {P:Program} {f:FuncId} {args:Array Value} {w:World} {x:Beyond} {v:Value}
    (h:Calls P f args (ext w x) fun e w'=>e=.returned v∧∃ y,w'=ext (ext w x) y):Calls P f args (ext w x) fun e w''=>e=.returned v∧∃ y,w''=ext w y :=
  h.mono fun _ _ ⟨he,y,hy⟩=>⟨he,x.and y,by rw [hy,qcj]⟩
theorem Calls.ext_of1 {P:Program} {f:FuncId} {args:Array Value} {w:World} {z x:Beyond} {v:Value}
    (h:Calls P f args (ext w (z.and x)) fun e w'=>e=.returned v∧∃ y,w'=ext (ext w (z.and x)) y):Calls P f args (ext w (z.and x)) fun e w''=>e=.returned v∧∃ y,w''=ext w (z.and y) :=
  h.mono fun _ _ ⟨he,y,hy⟩=>⟨he,Go.ext_of1 (by rw [hy];exact (qcs (Bel.refl _) x).ext y)⟩
attribute [irreducible] ext Beyond.len
end Go

namespace Go.Tx
open Go
def qcv:Row→Bool
  | .nil=>true
  | .int _ r=>qcv r
  | .bool r=>qcv r
  | .sl _ _=>false
theorem qcw {η η':Emb}:∀ (τ:Row) (x:den τ),qcv τ=true→∀ {c:LV},c∈split τ x→∀ {v:Value},VR η c v→VR η' c v
  | .nil,_,_,c,hc,_,_=>by simp [split] at hc
  | .int k r, x, hp, c, hc, v, hv => by
    rcases List.mem_cons.1 hc with rfl | hc
    · cases hv;exact .int _ _
    · exact qcw r x.2 hp hc hv
  | .bool r, x, hp, c, hc, v, hv => by
    rcases List.mem_cons.1 hc with rfl | hc
    · cases hv;exact .bool _
    · exact qcw r x.2 hp hc hv
  | .sl e r,_,hp,_,_,_,_=>by cases hp
mutual
def shift (n:Nat):LV→LV
  | .ptr b o=>.ptr (n+b) o
  | .rp b i sz j=>.rp (n+b) i sz j
  | .rs b=>.rs (n+b)
  | .fn f cs=>.fn f (shifts n cs)
  | .agg cs=>.agg (shifts n cs)
  | .tup cs=>.tup (shifts n cs)
  | .undef=>.undef
  | .int k m=>.int k m
  | .bool v=>.bool v
  | .nilp=>.nilp
  | .str s=>.str s
  | .nils=>.nils
  | .fz τ xs=>.fz τ xs
  | .fp τ x j=>.fp τ x j
def shifts (n:Nat):List LV→List LV
  | []=>[]
  | c :: cs=>shift n c :: shifts n cs
end
mutual
def hasF:LV→Bool
  | .fz _ _=>true
  | .fp _ _ _=>true
  | .fn _ cs=>hasFs cs
  | .agg cs=>hasFs cs
  | .tup cs=>hasFs cs
  | _=>false
def hasFs:List LV→Bool
  | []=>false
  | c :: cs=>hasF c || hasFs cs
end
structure Moved (n:Nat) (η η':Emb) (fr:Bool):Prop where
  loc:∀ b L,η.loc b=some L→η'.loc (n+b)=some L
  hdr:∀ b v,η.hdr b=some v→η'.hdr (n+b)=some v
  fz:fr=true→∀ k ob,η.fz k=some ob→η'.fz k=some ob
mutual
theorem qcy {n:Nat} {η η':Emb} {fr:Bool} (hm:Moved n η η' fr):∀ {l:LV} {v:Value},(fr=true∨hasF l=false)→VR η l v→VR η' (shift n l) v
  | .ptr b o,v,hf,hv=>by rw [shift];cases hv with | ptr h=>exact .ptr (hm.loc _ _ h)
  | .rp b i sz j,v,hf,hv=>by rw [shift];cases hv with | rp h hh hi=>exact .rp (hm.loc _ _ h) (hm.hdr _ _ hh) hi
  | .rs b,v,hf,hv=>by rw [shift];cases hv with | rs h=>exact .rs (hm.hdr _ _ h)
  | .fn f cs, v, hf, hv => by
    rw [shift]
    cases hv with
    | fn hl hh=>have:=shifts_ok hm (hf.imp id fun h=>by rw [hasF] at h;exact h) ⟨hl,hh⟩;exact .fn this.1 this.2
  | .agg cs, v, hf, hv => by
    rw [shift]
    cases hv with
    | agg hl hh=>have:=shifts_ok hm (hf.imp id fun h=>by rw [hasF] at h;exact h) ⟨hl,hh⟩;exact .agg this.1 this.2
  | .tup cs, v, hf, hv => by
    rw [shift]
    cases hv with
    | tup hl hh=>have:=shifts_ok hm (hf.imp id fun h=>by rw [hasF] at h;exact h) ⟨hl,hh⟩;exact .tup this.1 this.2
  | .undef,v,_,hv=>by rw [shift];exact .undef _
  | .int k m,v,_,hv=>by rw [shift];cases hv;exact .int _ _
  | .bool m,v,_,hv=>by rw [shift];cases hv;exact .bool _
  | .nilp,v,_,hv=>by rw [shift];cases hv;exact .nilp
  | .str s,v,_,hv=>by rw [shift];cases hv;exact .str _
  | .nils,v,_,hv=>by rw [shift];cases hv;exact .nils
  | .fz τ xs, v, hf, hv => by
    rw [shift]
    cases hv with
    | fz h=>exact .fz (h.mono (RowF.mono (hm.fz (hf.resolve_right (by rw [hasF];simp))) τ))
  | .fp τ x j, v, hf, hv => by
    rw [shift]
    cases hv with
    | fp h=>exact .fp (h.mono (hm.fz (hf.resolve_right (by rw [hasF];simp))))
theorem shifts_ok {n:Nat} {η η':Emb} {fr:Bool} (hm:Moved n η η' fr):∀ {cs:List LV} {vs:List Value},(fr=true∨hasFs cs=false)→VRs η cs vs→VRs η' (shifts n cs) vs
  | [], vs, _, hv => by
    rw [shifts]
    have:vs=[]:=by have:=hv.1;simpa using this.symm
    subst this;exact VRs.nil
  | c :: cs, vs, hf, hv => by
    obtain ⟨v,vs,rfl,h1,h2⟩:=hv.uncons
    rw [shifts]
    have hf':fr=true∨(hasF c=false∧hasFs cs=false):=hf.imp id fun h=>by rw [hasFs,Bool.or_eq_false_iff] at h;exact h
    exact VRs.cons (qcy hm (hf'.imp id And.left) h1) (shifts_ok hm (hf'.imp id And.right) h2)
end
def numL:LV→Bool
  | .int _ _=>true
  | .bool _=>true
  | _=>false
def qcz:LV→Bool
  | .int _ _=>true
  | .bool _=>true
  | .fz _ _=>true
  | _=>false
def Ob.plainB:Ob→Bool
  | .cells cs=>cs.all numL
  | .rows τ _=>qcv τ
  | .rowl _ _ _=>false
  | .view _ _ _=>false
def Ob.rowsB:Ob→Bool
  | .cells cs=>cs.all qcz
  | .rows _ _=>true
  | .rowl _ _ _=>false
  | .view _ _ _=>false
theorem qd0 {n:Nat} {η η':Emb} {fr:Bool} {w:World} {cs:List LV} {L:Loc} (hm:Moved n η η' fr) (h1:cs.all qcz=true) (h2:fr=true∨cs.all numL=true) (h:At η w cs L):At η' w cs L :=
  ⟨h.lt,h.fits,h.there,fun j c hc=>by
    obtain ⟨v,a,b⟩:=h.cell j c hc
    have hmem:=List.mem_of_getElem? hc
    have e1:=(List.all_eq_true.1 h1) c hmem
    refine ⟨v,a,?_⟩
    cases b with
    | int=>exact .int _ _
    | bool=>exact .bool _
    | fz hf =>
      refine .fz (hf.mono (RowF.mono (hm.fz (h2.resolve_right fun h3=>?_)) _))
      have:=(List.all_eq_true.1 h3) _ hmem
      cases this
    | _=>cases e1⟩
def qd1 (H:LH):List Ob→LH
  | []=>H
  | ob :: l=>qd1 (H.alloc ob) l
theorem qd2:∀ (l:List Ob) (H:LH),(qd1 H l).next=H.next+l.length∧(qd1 H l).log=H.log∧∀ b,(qd1 H l).get b=if H.next≤b∧b<H.next+l.length then l[b - H.next]? else H.get b
  | [],H=>⟨rfl,rfl,fun b=>by rw [qd1,if_neg];simp⟩
  | ob :: l, H => by
    obtain ⟨h1,h2,h3⟩:=qd2 l (H.alloc ob)
    have hn:(H.alloc ob).next=H.next+1:=rfl
    refine ⟨by rw [qd1,h1,hn,List.length_cons];omega,by rw [qd1,h2];rfl,fun b=>?_⟩
    rw [qd1,h3,hn,LH.get_alloc,List.length_cons]
    by_cases e1:H.next+1≤b∧b<H.next+1+l.length
    · rw [if_pos e1,if_pos (by omega),show b - H.next=(b - (H.next+1))+1 by omega,List.getElem?_cons_succ]
    · rw [if_neg e1]
      by_cases e2:b=H.next
      · subst e2;rw [if_pos rfl,if_pos (by omega),Nat.sub_self];rfl
      · rw [if_neg e2,if_neg (by omega)]
def qd3 (H:LH):List Nat→LH
  | []=>H
  | n :: l=>qd3 (H.put n none) l
theorem qd4:∀ (l:List Nat) (H:LH),(qd3 H l).next=H.next∧(∃ m,(qd3 H l).log=m++H.log∧∀ b,b ∉ m→b ∉ l)∧∀ b,(qd3 H l).get b=if b∈l then none else H.get b
  | [],H=>⟨rfl,⟨[],rfl,fun b h=>by simp⟩,fun b=>by simp [qd3]⟩
  | n :: l, H => by
    obtain ⟨h1,⟨m,h2,h4⟩,h3⟩:=qd4 l (H.put n none)
    refine ⟨h1,⟨m ++ [n],by rw [qd3,h2];simp [LH.put],fun b hb=>?_⟩,fun b=>?_⟩
    · simp only [List.mem_append, List.mem_singleton, not_or] at hb
      simp only [List.mem_cons,not_or]
      exact ⟨hb.2,h4 b hb.1⟩
    · rw [qd3, h3, LH.get_put]
      simp only [List.mem_cons]
      by_cases e1:b∈l
      · rw [if_pos e1,if_pos (.inr e1)]
      · rw [if_neg e1]
        by_cases e2:b=n
        · rw [if_pos e2,if_pos (.inl e2)]
        · rw [if_neg e2,if_neg (fun h=>h.elim e2 e1)]
def place (H:LH) (A:List Nat) (r:LV×List Ob):LV×LH :=
  (shift H.next r.1,qd1 (bif hasF r.1 || !(r.2.all Ob.plainB) then qd3 H A else H) r.2)
def qd5 (H:LH) (l:LV):Option LV :=
  match l with
  | .rs m=>match H.get m with | some (.rows τ xs)=>some (.fz τ xs) | _=>none
  | .int k n=>some (.int k n)
  | .bool v=>some (.bool v)
  | .nils=>some .nils
  | .fz τ xs=>some (.fz τ xs)
  | _=>none
def qd6 (H:LH):List LV→Option (List LV)
  | []=>some []
  | c :: cs => match qd5 H c with
    | some c=>match qd6 H cs with | some cs=>some (c :: cs) | none=>none
    | none=>none
def qd7 (H:LH) (τ:Row) (l:LV):Option (den τ) :=
  match l with
  | .ptr n 0 => match H.get n with
    | some (.cells cs) => match qd6 H cs with
      | some ds=>join τ ds
      | none=>none
    | _=>none
  | .fp σ x 0=>if h:σ=τ then some (h ▸ x) else none
  | _=>none
def decR (H:LH):(τs:List Row)→List LV→Option (denR τs)
  | [],[]=>some ()
  | τ :: r, l :: ls => match qd7 H τ l with
    | some x=>match decR H r ls with | some y=>some (x,y) | none=>none
    | none=>none
  | _,_=>none
def decF (H:LH) (f:FuncId) (τs:List Row) (g:FuncId) (cs:List LV):Option (denR τs):=bif Nat.beq g f then decR H τs cs else none
def decP (H:LH):(p:Pk)→LV→Option p.den
  | .row τ true, .agg cs => match qd6 H cs with
    | some cs=>join τ cs
    | none=>none
  | .row τ false, l => match qd5 H l with
    | some l=>join τ [l]
    | none=>none
  | .fn f τs,.fn g cs=>decF H f τs g cs
  | .ref τ,l=>qd7 H τ l
  | .nil,.nils=>some ()
  | _,_=>none
def decs (H:LH):(τs:List Pk)→List LV→Option (dens τs)
  | [],[]=>some ()
  | p :: r, l :: ls => match decP H p l with
    | some x=>match decs H r ls with | some y=>some (x,y) | none=>none
    | none=>none
  | _,_=>none
def deep (H:LH) (l:List Nat):List Nat:=l.flatMap fun n=>n :: match H.get n with | some ob=>q6a ob | none=>[]
def qd8 (H:LH) (args:List LV):List Spec→FuncId→Option ((S:Spec)×dens S.τs)
  | [],_=>none
  | S :: l, g => bif Nat.beq S.g g then (match decs H S.τs args with
    | some x=>some ⟨S,x⟩
    | none=>qd8 H args l g) else qd8 H args l g
def orc (l:List Spec):Orc:=fun g args H=>match qd8 H args l g with
  | some p=>some ⟨p.1.R,p.1.F p.2,fun r=>bif (p.1.enc r).2.all Ob.rowsB then place H (deep H (args.flatMap q69)) (p.1.enc r) else (.undef,H)⟩
  | none=>none
theorem qd9 {H:LH} {args:List LV}:∀ {l:List Spec} {g:FuncId} {p:(S:Spec)×dens S.τs},qd8 H args l g=some p→p.1∈l∧p.1.g=g∧decs H p.1.τs args=some p.2
  | [],_,_,h=>by cases h
  | S0 :: l, g, p, h => by
    have rest:qd8 H args l g=some p→p.1∈S0 :: l∧p.1.g=g∧decs H p.1.τs args=some p.2:=fun h =>
      let ⟨h1,h2⟩:=qd9 h;⟨List.mem_cons_of_mem _ h1,h2⟩
    rw [qd8,Bool.cond_eq_ite] at h
    split at h
    · rename_i he
      split at h
      · rename_i x hx
        injection h with h;subst h
        exact ⟨List.mem_cons_self ..,Nat.eq_of_beq_eq_true he,hx⟩
      · exact rest h
    · exact rest h
section
variable {P:Program} {M:Nat} {H:LH} {η:Emb} {w:World}
structure Phi (H:LH) (η:Emb) (w:World) (A:List Nat) (φ:Nat→Option Obj):Prop where
  fz:∀ k ob,η.fz k=some ob→φ k=some ob
  at_:∀ k n ob L,η.fz k=none→n∈A→H.get n=some ob→η.loc n=some L→L.block=k→φ k=w.heap[k]?
  cases:∀ k ob,φ k=some ob→η.fz k=some ob∨(η.fz k=none∧(∃ n∈A,∃ ob L,H.get n=some ob∧η.loc n=some L∧L.block=k)∧w.heap[k]?=some ob)
theorem qda (H:LH) (η:Emb) (w:World) (A:List Nat):∃ φ,Phi H η w A φ:=by
  classical
  refine ⟨fun k=>if (η.fz k).isSome=true then η.fz k else if ∃ n∈A,∃ ob L,H.get n=some ob∧η.loc n=some L∧L.block=k then w.heap[k]? else none,fun k ob h=>?_,fun k n ob L h hn hg hL hk=>?_,fun k ob h=>?_⟩
  · rw [if_pos (by rw [h];rfl)];exact h
  · rw [if_neg (by rw [h];simp),if_pos ⟨n,hn,ob,L,hg,hL,hk⟩]
  · split at h
    · exact .inl h
    · rename_i h1
      split at h
      · rename_i h2
        exact .inr ⟨by cases hf:η.fz k with | none=>rfl | some x=>rw [hf] at h1;simp at h1,h2,h⟩
      · cases h
variable {φ:Nat→Option Obj}
theorem qdb (h:HR M η H w) {A:List Nat} (hp:Phi H η w A φ) {l l':LV} {v:Value} (hx:qd5 H l=some l') (hA:∀ n∈refs l,n∈A) (hv:VR η l v):VR (Emb.fro φ) l' v:=by
  unfold qd5 at hx
  split at hx
  · rename_i m
    split at hx
    · rename_i τ xs hg
      injection hx with hx;subst hx
      cases hv with
      | rs hh =>
        cases h.live _ _ hg with
        | none hL hh' =>
          rw [hh] at hh';injection hh' with hh';subst hh'
          exact .fz ⟨_,_,rfl,Nat.le_refl _,fun _=>rfl,fun i x hx=>by simp at hx⟩
        | rows hL ha hh' hc hr =>
          rename_i L c
          rw [hh] at hh';injection hh' with hh';subst hh'
          have hsep:=h.sep _ ⟨m,_,L,hg,hL,rfl⟩
          refine .fz ⟨_,_,rfl,hc,(fun h=>by cases h),fun i x hx=>⟨_,_,rfl,q17 (η:=η) (w:=w) (fun k ob hk=>hp.fz k ob hk) (hp.at_ _ m _ L hsep (hA m (by simp [refs])) hg hL rfl) τ x _ fun j cc hcc=>?_⟩⟩
          have hj:j<τ.size:=by rw [← q8 τ x];exact (List.getElem?_eq_some_iff.1 hcc).1
          obtain ⟨v,h1,h2⟩:=ha.cell (i*τ.size+j) cc (by rw [qd τ xs i x j hx hj];exact hcc)
          exact ⟨v,by rw [Nat.add_assoc];exact h1,h2⟩
    · cases hx
  · injection hx with hx;subst hx;cases hv;exact .int _ _
  · injection hx with hx;subst hx;cases hv;exact .bool _
  · injection hx with hx;subst hx;cases hv;exact .nils
  · injection hx with hx; subst hx
    cases hv with
    | fz hf=>exact .fz (hf.mono (RowF.mono (fun k ob hk=>hp.fz k ob hk) _))
  · cases hx
theorem qdc (h:HR M η H w) {A:List Nat} (hp:Phi H η w A φ):∀ {cs ds:List LV} {vs:List Value},qd6 H cs=some ds→(∀ c∈cs,∀ n∈refs c,n∈A)→VRs η cs vs→VRs (Emb.fro φ) ds vs
  | [], ds, vs, hx, _, hv => by
    rw [qd6] at hx;injection hx with hx;subst hx
    have:vs=[]:=by have:=hv.1;simpa using this.symm
    subst this;exact VRs.nil
  | c :: cs, ds, vs, hx, hA, hv => by
    obtain ⟨v,vs,rfl,h1,h2⟩:=hv.uncons
    rw [qd6] at hx
    split at hx
    · rename_i d hd
      split at hx
      · rename_i ds' hds
        injection hx with hx;subst hx
        exact VRs.cons (qdb h hp hd (hA c (List.mem_cons_self ..)) h1) (qdc h hp hds (fun c hc=>hA c (List.mem_cons_of_mem _ hc)) h2)
      · cases hx
    · cases hx
theorem qdd (h:HR M η H w) {A:List Nat} (hp:Phi H η w A φ) {τ:Row} {l:LV} {x:den τ} {v:Value} (hx:qd7 H τ l=some x) (hA:∀ n∈deep H (refs l),n∈A) (hv:VR η l v):VR (Emb.fro φ) (.fp τ x 0) v:=by
  unfold qd7 at hx
  split at hx
  · rename_i n
    split at hx
    · rename_i cs hg
      split at hx
      · rename_i ds hds
        have hdeep:∀ m,(m=n∨m∈q6a (.cells cs))→m∈A:=fun m hm=>hA m (by
          unfold deep;simp only [refs,List.flatMap_cons,List.flatMap_nil,List.append_nil,hg,List.mem_cons];exact hm)
        cases hv with
        | ptr hL =>
          rename_i L
          have ha:=(h.live _ _ hg).at hL
          have hcut:cut cs 0 cs.length=some cs:=by unfold cut;rw [Nat.zero_add,Nat.ble_eq_true_of_le (Nat.le_refl _),List.drop_zero,List.take_length];rfl
          obtain ⟨vs,o1,o2⟩:=Lie.cut ha.cell hcut
          have e1:=qdc h hp hds (fun c hc m hm=>hdeep m (.inr (List.mem_flatMap.2 ⟨c,hc,by cases c<;>first | exact hm | (simp [refs] at hm)⟩))) o1
          have e2:=q2c τ hx e1
          have hsep:=h.sep _ ⟨n,_,L,hg,hL,rfl⟩
          refine .fp (q17 (η:=Emb.fro φ) (w:=w) (fun _ _ h=>h) (hp.at_ _ n _ L hsep (hdeep n (.inl rfl)) hg hL rfl) τ x _ fun j c hc=>?_)
          obtain ⟨v,f1,f2⟩:=e2.get hc
          exact ⟨v,by have:=o2 j v f1;rwa [Nat.add_zero] at this,f2⟩
      · cases hx
    · cases hx
  · rename_i σ y
    split at hx
    · rename_i he
      subst he
      injection hx with hx;subst hx
      cases hv with
      | fp hr=>exact .fp (hr.mono fun k ob hk=>hp.fz k ob hk)
    · cases hx
  · cases hx
theorem qde (h:HR M η H w) {A:List Nat} (hp:Phi H η w A φ):∀ {τs:List Row} {ls:List LV} {x:denR τs} {vs:List Value},decR H τs ls=some x→(∀ l∈ls,∀ n∈deep H (refs l),n∈A)→VRs η ls vs→VRs (Emb.fro φ) (q98 τs x) vs
  | [], ls, x, vs, hx, _, hv => by
    cases ls with
    | nil=>exact ⟨hv.1,fun i c v hc _=>by simp [q98] at hc⟩
    | cons l ls=>cases hx
  | τ :: r, ls, x, vs, hx, hA, hv => by
    cases ls with
    | nil=>cases hx
    | cons l ls =>
      obtain ⟨v,vs,rfl,h1,h2⟩:=hv.uncons
      rw [decR] at hx
      split at hx
      · rename_i y hy
        split at hx
        · rename_i z hz
          injection hx with hx;subst hx
          exact VRs.cons (qdd h hp hy (hA l (List.mem_cons_self ..)) h1) (qde h hp hz (fun l hl=>hA l (List.mem_cons_of_mem _ hl)) h2)
        · cases hx
      · cases hx
theorem qdf {l:List Nat} {n:Nat} (h:n∈l):n∈deep H l:=List.mem_flatMap.2 ⟨n,h,List.mem_cons_self ..⟩
theorem qdg {l m:List Nat} (h:∀ n∈l,n∈m) {n:Nat} (hn:n∈deep H l):n∈deep H m:=by
  obtain ⟨x,h1,h2⟩:=List.mem_flatMap.1 hn
  exact List.mem_flatMap.2 ⟨x,h x h1,h2⟩
theorem qdh {l:LV} {n:Nat} (h:n∈refs l):n∈q69 l:=by cases l<;>first | exact h | (simp [refs] at h)
theorem qdi (h:HR M η H w) {A:List Nat} (hp:Phi H η w A φ) {p:Pk} {l:LV} {x:p.den} {v:Value} (hx:decP H p l=some x) (hA:∀ n∈deep H (q69 l),n∈A) (hv:VR η l v):VR (Emb.fro φ) (p.arg x) v:=by
  cases p with
  | row τ agg =>
    cases agg with
    | true =>
      cases l with
      | agg cs =>
        replace hx:(match qd6 H cs with | some cs=>join τ cs | none=>none)=some x:=hx
        split at hx
        · rename_i ds hds
          cases hv with
          | agg hl hh =>
            have e1:=qdc h hp hds (fun c hc n hn=>hA n (qdf (List.mem_flatMap.2 ⟨c,hc,hn⟩))) ⟨hl,hh⟩
            have e2:=q2c τ hx e1
            exact .agg e2.1 e2.2
        · cases hx
      | _=>cases hx
    | false =>
      replace hx:(match qd5 H l with | some l=>join τ [l] | none=>none)=some x:=by cases l<;>exact hx
      split at hx
      · rename_i d hd
        have e1:=qdb h hp hd (fun n hn=>hA n (qdf (qdh hn))) hv
        have e2:=q2c τ hx (VRs.cons e1 VRs.nil)
        have hlen:=e2.1
        show VR (Emb.fro φ) (q97 τ false x) v
        unfold q97
        cases hsp:split τ x with
        | nil=>rw [hsp] at hlen;simp at hlen
        | cons c cs =>
          cases cs with
          | nil=>rw [hsp] at e2;obtain ⟨u,hu,e3⟩:=vrs1 e2;injection hu with hu;subst hu;simp only [hsp];exact e3
          | cons c2 cs=>rw [hsp] at hlen;simp at hlen
      · cases hx
  | nil =>
    cases l with
    | nils=>cases hv;exact .nils
    | _=>cases hx
  | fn f τs =>
    cases l with
    | fn g cs =>
      have hx2:decF H f τs g cs=some x:=hx
      unfold decF at hx2
      rw [Bool.cond_eq_ite] at hx2
      split at hx2
      · rename_i hg
        have:=Nat.eq_of_beq_eq_true hg
        subst this
        cases hv with
        | fn hl hh =>
          have e1:=qde h hp hx2 (fun c hc n hn=>hA n (qdg (fun m hm=>List.mem_flatMap.2 ⟨c,hc,hm⟩) hn)) ⟨hl,hh⟩
          exact .fn e1.1 e1.2
      · cases hx2
    | _=>cases hx
  | ref τ =>
    have hx2:qd7 H τ l=some x:=by cases l<;>exact hx
    exact qdd h hp hx2 (fun n hn=>hA n (qdg (fun m hm=>qdh hm) hn)) hv
theorem qdj (h:HR M η H w) {A:List Nat} (hp:Phi H η w A φ):∀ {τs:List Pk} {ls:List LV} {x:dens τs} {vs:List Value},decs H τs ls=some x→(∀ l∈ls,∀ n∈deep H (q69 l),n∈A)→VRs η ls vs→VRs (Emb.fro φ) (q99 τs x) vs
  | [], ls, x, vs, hx, _, hv => by
    cases ls with
    | nil=>exact ⟨hv.1,fun i c v hc _=>by simp [q99] at hc⟩
    | cons l ls=>cases hx
  | p :: r, ls, x, vs, hx, hA, hv => by
    cases ls with
    | nil=>cases hx
    | cons l ls =>
      obtain ⟨v,vs,rfl,h1,h2⟩:=hv.uncons
      rw [decs] at hx
      split at hx
      · rename_i y hy
        split at hx
        · rename_i z hz
          injection hx with hx;subst hx
          exact VRs.cons (qdi h hp hy (hA l (List.mem_cons_self ..)) h1) (qdj h hp hz (fun l hl=>hA l (List.mem_cons_of_mem _ hl)) h2)
        · cases hx
      · cases hx
theorem qdk (H:LH) (A:List Nat):Logged H (qd3 H A):=by
  obtain ⟨h1,⟨m,h2,h4⟩,h3⟩:=qd4 A H
  refine ⟨by omega,⟨m,h2,fun b _ hb=>by rw [h3,if_neg (h4 b hb)]⟩,fun hb b cs hg=>?_⟩
  rw [h3] at hg
  rw [h1]
  split at hg
  · cases hg
  · exact hb b cs hg
theorem qdl (H:LH) (l:List Ob):Logged H (qd1 H l):=by
  obtain ⟨h1,h2,h3⟩:=qd2 l H
  refine ⟨by omega,⟨[],h2,fun b hb _=>by rw [h3,if_neg (by omega)]⟩,fun hb b cs hg=>?_⟩
  rw [h3] at hg
  rw [h1]
  split at hg
  · rename_i h;exact h.2
  · have:=hb b cs hg;omega
theorem qdm {η η':Emb} {τ:Row} {xs:List (den τ)} {L:Loc} (hp:qcv τ=true) (h:At η w (flat τ xs) L):At η' w (flat τ xs) L :=
  ⟨h.lt,h.fits,h.there,fun j c hc=>by
    obtain ⟨v,h1,h2⟩:=h.cell j c hc
    obtain ⟨x,hx⟩:=q83 τ xs (List.mem_of_getElem? hc)
    exact ⟨v,h1,qcw τ x hp hx h2⟩⟩
theorem qdn {S:Spec} (hS:COK P S) {args:List LV} {x:dens S.τs} (hd:decs H S.τs args=some x) {r:S.R} (hr:S.F x=some r) (hrows:(S.enc r).2.all Ob.rowsB=true):q5d P S.g args H (place H (deep H (args.flatMap q69)) (S.enc r)):=by
  generalize hA:deep H (args.flatMap q69)=A
  have hAm:∀ l∈args,∀ n∈deep H (q69 l),n∈A:=fun l hl n hn=>by rw [← hA];exact qdg (fun m hm=>List.mem_flatMap.2 ⟨l,hl,hm⟩) hn
  generalize he:S.enc r=er
  obtain ⟨l0,obs⟩:=er
  rw [he] at hrows
  unfold place
  simp only
  generalize hal:(hasF l0 || !(obs.all Ob.plainB))=al
  generalize hH1:(bif al then qd3 H A else H)=H1
  have hlog1:Logged H H1:=by rw [← hH1];cases al;exact Logged.refl _;exact qdk H A
  have hnext1:H1.next=H.next:=by rw [← hH1];cases al;rfl;exact (qd4 A H).1
  have hsub:∀ b cs,H1.get b=some cs→H.get b=some cs∧(al=true→b ∉ A):=fun b cs hb=>by
    rw [← hH1] at hb
    cases al with
    | false=>exact ⟨hb,fun h=>by cases h⟩
    | true =>
      rw [cond_true,(qd4 A H).2.2] at hb
      split at hb
      · cases hb
      · rename_i hn;exact ⟨hb,fun _=>hn⟩
  obtain ⟨a1,_,a3⟩:=qd2 obs H1
  refine ⟨hlog1.trans (qdl H1 obs),fun M η w vs h hM hv=>?_⟩
  have hM':H.next+obs.length≤M:=by rw [← hnext1,← a1];exact hM
  obtain ⟨φ,hp⟩:=qda H η w A
  have hphi:∀ k ob,φ k=some ob→w.heap[k]?=some ob:=fun k ob hk=>by
    rcases hp.cases k ob hk with h1 | ⟨_,_,h1⟩
    · exact h.fz k ob h1
    · exact h1
  refine Calls.mono (hS.ok x r hr w φ vs hphi (qdj h hp hd hAm hv)) fun e w' ⟨v',η',e1,e2,e3,e4⟩=>?_
  rw [he] at e2 e3 e4
  simp only at e2 e3 e4
  have hdom:∀ b,obs.length≤b→η'.loc b=none∧η'.hdr b=none:=fun b hb=>(e3 (b+1)).dom b hb (by omega)
  let η2:Emb:=⟨fun n=>if H.next≤n∧n<H.next+obs.length then η'.loc (n - H.next) else η.loc n,fun n=>if H.next≤n∧n<H.next+obs.length then η'.hdr (n - H.next) else η.hdr n,fun k=>if k<w.heap.size then (bif al then φ k else η.fz k) else η'.fz k⟩
  have hout:∀ b,¬ (H.next≤b∧b<H.next+obs.length)→η2.loc b=η.loc b∧η2.hdr b=η.hdr b:=fun b hb=>⟨if_neg hb,if_neg hb⟩
  have hin:∀ j,j<obs.length→η2.loc (H.next+j)=η'.loc j∧η2.hdr (H.next+j)=η'.hdr j:=fun j hj=>by
    constructor
    · show (if H.next ≤ H.next + j ∧ H.next + j < H.next + obs.length then η'.loc (H.next + j - H.next) else η.loc (H.next + j)) = _
      rw [if_pos (by omega),Nat.add_sub_cancel_left]
    · show (if H.next ≤ H.next + j ∧ H.next + j < H.next + obs.length then η'.hdr (H.next + j - H.next) else η.hdr (H.next + j)) = _
      rw [if_pos (by omega),Nat.add_sub_cancel_left]
  have hfree:∀ b,H.next≤b→b<H.next+obs.length→η.loc b=none∧η.hdr b=none:=fun b h1 h2=>h.dom b h1 (by omega)
  have hfzlt:∀ k ob,η.fz k=some ob→k<w.heap.size:=fun k ob hk=>(Array.getElem?_eq_some_iff.1 (h.fz k ob hk)).1
  have hle:η.le η2:=by
    refine ⟨fun b L hb=>?_,fun b v hb=>?_,fun k ob hk=>?_⟩
    · by_cases hc : H.next ≤ b ∧ b < H.next + obs.length
      · rw [(hfree b hc.1 hc.2).1] at hb;cases hb
      · rw [(hout b hc).1];exact hb
    · by_cases hc : H.next ≤ b ∧ b < H.next + obs.length
      · rw [(hfree b hc.1 hc.2).2] at hb;cases hb
      · rw [(hout b hc).2];exact hb
    · show (if k < w.heap.size then (bif al then φ k else η.fz k) else η'.fz k) = some ob
      rw [if_pos (hfzlt k ob hk)]
      cases al
      · exact hk
      · exact hp.fz _ _ hk
  have hmoved:Moved H.next η' η2 al:=by
    refine ⟨fun b L hb=>?_,fun b v hb=>?_,fun hal2 k ob hk=>?_⟩
    · have hlt : b < obs.length := Nat.lt_of_not_le fun hn => by rw [(hdom b hn).1] at hb; cases hb
      rw [(hin b hlt).1];exact hb
    · have hlt : b < obs.length := Nat.lt_of_not_le fun hn => by rw [(hdom b hn).2] at hb; cases hb
      rw [(hin b hlt).2];exact hb
    · show (if k < w.heap.size then (bif al then φ k else η.fz k) else η'.fz k) = some ob
      rw [hal2,cond_true]
      split
      · rename_i hlt
        exact (e4.fzn0 k ob hk).resolve_right (by omega)
      · exact hk
  have hval:VR η2 (shift H.next l0) v':=qcy hmoved (by
    cases al with
    | true=>exact .inl rfl
    | false=>rw [Bool.or_eq_false_iff] at hal;exact .inr hal.1) e2
  have hget:∀ b ob,(qd1 H1 obs).get b=some ob→(¬ (H.next≤b∧b<H.next+obs.length)∧H1.get b=some ob) ∨ ∃ j,b=H.next+j∧j<obs.length∧obs[j]?=some ob:=fun b ob hb=>by
    rw [a3,hnext1] at hb
    split at hb
    · rename_i hc;exact .inr ⟨b - H.next,by omega,by omega,hb⟩
    · rename_i hc;exact .inl ⟨hc,hb⟩
  have hnewlb:∀ j ob L,obs[j]?=some ob→η'.loc j=some L→w.heap.size≤L.block:=fun j ob L hj hL=>e4.lb0 _ ⟨j,ob,L,by rw [q7q];exact hj,hL,rfl⟩
  have hlb:∀ k,LB (qd1 H1 obs) η2 k→(∃ b ob L,H1.get b=some ob∧η.loc b=some L∧L.block=k)∨(∃ j ob L,obs[j]?=some ob∧η'.loc j=some L∧L.block=k):=fun k ⟨b,ob,L,hb,hL,hk⟩=>by
    rcases hget b ob hb with ⟨hc,hg⟩ | ⟨j,rfl,hj,hg⟩
    · rw [(hout b hc).1] at hL;exact .inl ⟨b,ob,L,hg,hL,hk⟩
    · rw [(hin j hj).1] at hL;exact .inr ⟨j,ob,L,hg,hL,hk⟩
  have hr2:HR M η2 (qd1 H1 obs) w':=by
    refine ⟨fun b h1 h2=>?_,fun b ob hb=>?_,fun b ob hb=>?_,fun b1 b2 o1 o2 L1 L2 g1 g2 l1 l2 hbe=>?_,fun k ob hk=>?_,fun k hk=>?_,fun b v hb=>?_⟩
    · rw [a1, hnext1] at h1
      have:=hout b (by omega)
      rw [this.1,this.2];exact h.dom b (by omega) h2
    · rw [a1, hnext1]
      rcases hget b ob hb with ⟨hc,hg⟩ | ⟨j,rfl,hj,hg⟩
      · have:=h.lt b ob (hsub b ob hg).1;omega
      · omega
    · rcases hget b ob hb with ⟨hc, hg⟩ | ⟨j, rfl, hj, hg⟩
      · have hl := h.live b ob (hsub b ob hg).1
        exact hl.move hle (hout b hc).1 e4.size fun L hL=>e4.same0 _ (hl.lt hL)
      · have hl := (e3 0).live j ob (by rw [q7q]; exact hg)
        have hro:ob.rowsB=true:=(List.all_eq_true.1 hrows) ob (List.mem_of_getElem? hg)
        have hpl:al=true∨ob.plainB=true:=by
          cases al with
          | true=>exact .inl rfl
          | false =>
            rw [Bool.or_eq_false_iff,Bool.not_eq_false'] at hal
            exact .inr ((List.all_eq_true.1 hal.2) ob (List.mem_of_getElem? hg))
        cases hl with
        | cells hL ha=>exact .cells (by rw [(hin j hj).1];exact hL) (qd0 hmoved hro hpl ha)
        | rows hL ha hh hc hr =>
          refine .rows (by rw [(hin j hj).1];exact hL) ?_ (by rw [(hin j hj).2];exact hh) hc hr
          rcases hpl with h1 | h1
          · exact q84 (hmoved.fz h1) ha
          · exact qdm h1 ha
        | rowl=>cases hro
        | view=>cases hro
        | none hL hh=>exact .none (by rw [(hin j hj).1];exact hL) (by rw [(hin j hj).2];exact hh)
    · rcases hget b1 o1 g1 with ⟨c1, k1⟩ | ⟨j1, rfl, j1l, k1⟩ <;> rcases hget b2 o2 g2 with ⟨c2, k2⟩ | ⟨j2, rfl, j2l, k2⟩
      · rw [(hout b1 c1).1] at l1; rw [(hout b2 c2).1] at l2
        exact h.inj _ _ _ _ _ _ (hsub _ _ k1).1 (hsub _ _ k2).1 l1 l2 hbe
      · rw [(hout b1 c1).1] at l1; rw [(hin j2 j2l).1] at l2
        have:=(h.live _ _ (hsub _ _ k1).1).lt l1
        have:=hnewlb _ _ _ k2 l2;omega
      · rw [(hin j1 j1l).1] at l1; rw [(hout b2 c2).1] at l2
        have:=(h.live _ _ (hsub _ _ k2).1).lt l2
        have:=hnewlb _ _ _ k1 l1;omega
      · rw [(hin j1 j1l).1] at l1; rw [(hin j2 j2l).1] at l2
        have:=(e3 0).inj j1 j2 _ _ _ _ (by rw [q7q];exact k1) (by rw [q7q];exact k2) l1 l2 hbe
        omega
    · have hk' : (if k < w.heap.size then (bif al then φ k else η.fz k) else η'.fz k) = some ob := hk
      split at hk'
      · rename_i hlt
        rw [e4.same0 k hlt]
        cases al with
        | true=>exact hphi k ob hk'
        | false=>exact h.fz k ob hk'
      · exact (e3 0).fz k ob hk'
    · show (if k < w.heap.size then (bif al then φ k else η.fz k) else η'.fz k) = none
      rcases hlb k hk with ⟨b,ob,L,g1,g2,g3⟩ | ⟨j,ob,L,g1,g2,g3⟩
      · have hg := hsub b ob g1
        have hlt:=(h.live _ _ hg.1).lt g2
        have hs:=h.sep k ⟨b,ob,L,hg.1,g2,g3⟩
        rw [if_pos (by omega)]
        cases al with
        | false=>exact hs
        | true =>
          rw [cond_true]
          cases hpk:φ k with
          | none=>rfl
          | some o =>
            exfalso
            rcases hp.cases _ _ hpk with h1 | ⟨_,⟨n,hn,ob',L',hgn,hL',hk'⟩,_⟩
            · rw [hs] at h1;cases h1
            · have := h.inj _ _ _ _ _ _ hg.1 hgn g2 hL' (by omega)
              exact hg.2 rfl (this ▸ hn)
      · have := hnewlb _ _ _ g1 g2
        rw [if_neg (by omega)]
        exact (e3 0).sep k ⟨j,ob,L,by rw [q7q];exact g1,g2,g3⟩
    · by_cases hc : H.next ≤ b ∧ b < H.next + obs.length
      · have hb':η'.hdr (b - H.next)=some v:=by
          have:η2.hdr b=η'.hdr (b - H.next):=if_pos hc
          rw [← this];exact hb
        exact (e3 0).ok _ v hb'
      · rw [(hout b hc).2] at hb;exact h.ok b v hb
  refine ⟨v',η2,e1,hval,hle,fun b hb=>hout b (by rw [a1,hnext1] at hb;omega),by rw [a1,hnext1];omega,hr2,e4.size,fun k hk _=>e4.same0 k hk,fun k hk=>?_,fun k ob hk=>?_,e4.os,e4.tape,e4.output,e4.drawn⟩
  · rcases hlb k hk with ⟨b, ob, L, g1, g2, g3⟩ | ⟨j, ob, L, g1, g2, g3⟩
    · exact .inl ⟨b,ob,L,(hsub b ob g1).1,g2,g3⟩
    · have:=hnewlb _ _ _ g1 g2;exact .inr (by omega)
  · have hk' : (if k < w.heap.size then (bif al then φ k else η.fz k) else η'.fz k) = some ob := hk
    split at hk'
    · cases al with
      | false=>exact .inl hk'
      | true =>
        rw [cond_true] at hk'
        rcases hp.cases _ _ hk' with h1 | ⟨_,⟨n,hn,ob',L',hgn,hL',hkk⟩,_⟩
        · exact .inl h1
        · exact .inr (.inl ⟨n,ob',L',hgn,hL',hkk⟩)
    · rename_i hlt;exact .inr (.inr (by omega))
theorem qdo {S:Spec} (hS:COK P S) {args:List LV} {x:dens S.τs} (hd:decs H S.τs args=some x) {r:S.R} (hr:S.F x=some r):q5d P S.g args H (.undef,H):=by
  generalize hA:deep H (args.flatMap q69)=A
  have hAm:∀ l∈args,∀ n∈deep H (q69 l),n∈A:=fun l hl n hn=>by rw [← hA];exact qdg (fun m hm=>List.mem_flatMap.2 ⟨l,hl,hm⟩) hn
  refine ⟨Logged.refl _,fun M η w vs h hM hv=>?_⟩
  obtain ⟨φ,hp⟩:=qda H η w A
  have hphi:∀ k ob,φ k=some ob→w.heap[k]?=some ob:=fun k ob hk=>by
    rcases hp.cases k ob hk with h1 | ⟨_,_,h1⟩
    · exact h.fz k ob h1
    · exact h1
  refine Calls.mono (hS.ok x r hr w φ vs hphi (qdj h hp hd hAm hv)) fun e w' ⟨v',η',e1,e2,e3,e4⟩=>?_
  refine ⟨v',η,e1,.undef _,Emb.le_refl _,fun _ _=>⟨rfl,rfl⟩,Nat.le_refl _,⟨h.dom,h.lt,fun b ob hb=>(h.live b ob hb).move (Emb.le_refl _) rfl e4.size fun L hL=>e4.same0 _ ((h.live b ob hb).lt hL),h.inj,fun k ob hk=>?_,h.sep,h.ok⟩,e4.size,fun k hk _=>e4.same0 k hk,fun k hk=>.inl hk,fun k ob hk=>.inl hk,e4.os,e4.tape,e4.output,e4.drawn⟩
  have hk1:=h.fz k ob hk
  rw [e4.same0 k (Array.getElem?_eq_some_iff.1 hk1).1];exact hk1
theorem qdp {l:List Spec} (h:∀ S∈l,COK P S):OrcOK P (orc l):=by
  refine ⟨fun g args H p x hp hx=>?_⟩
  unfold orc at hp
  split at hp
  · rename_i q hq
    obtain ⟨h1,rfl,hy⟩:=qd9 hq
    injection hp with hp;subst hp
    simp only at hx x ⊢
    refine .inl ⟨?_,(h _ h1).body⟩
    rw [Bool.cond_eq_ite]
    split
    · rename_i hrows
      exact qdn (h _ h1) hy hx hrows
    · exact qdo (h _ h1) hy hx
  · cases hp
theorem qdq {S:Spec} (h:COK P S) {x:dens S.τs} {r:S.R} {v:Bool} (hx:S.F x=some r) (he:S.enc r=(.bool v,[])) (w:World) {vs:List Value} (hv:VRs (Emb.fro fun k=>w.heap[k]?) (q99 S.τs x) vs) :
    Calls P S.g vs.toArray w fun e w'=>e=.returned (.bool v)∧∃ y,w'=ext w y:=by
  refine Calls.mono (h.ok x r hx w _ vs (fun _ _ h=>h) hv) fun e w' ⟨v',η',h1,h2,_,h4⟩=>?_
  rw [he] at h2
  cases h2
  exact ⟨h1,ext_of ⟨⟨h4.os,h4.tape,h4.output,h4.size,fun k hk=>h4.same0 k hk⟩,h4.drawn⟩⟩
end
end Go.Tx

namespace Go.Tx
open Go
def iter {X R:Type} (body:(X→Option R)→X→Option R):Nat→X→Option R
  | 0,_=>none
  | n+1,x=>body (iter body n) x
def regL:Code→Nat→Option (Array Oper)
  | .region i ops _,k=>bif Nat.beq i k then some ops else none
  | .seq a b,k=>match regL a k with | some x=>some x | none=>regL b k
  | .cond _ a b,k=>match regL a k with | some x=>some x | none=>regL b k
  | .block _ a,k=>regL a k
  | .loop a,k=>regL a k
  | .scope a,k=>regL a k
  | .rangeFunc _ _ a b,k=>match regL a k with | some x=>some x | none=>regL b k
  | _,_=>none
def qdr (ks:List Nat):List (Nat×LV)→List (Nat×LV)
  | []=>[]
  | p :: l=>bif memB ks p.1 then qdr ks l else p :: qdr ks l
theorem qds (ks:List Nat):∀ (l:List (Nat×LV)) (p:Nat×LV),p∈qdr ks l→p∈l
  | [],_,h=>h
  | q :: l, p, h => by
    rw [qdr,Bool.cond_eq_ite] at h
    split at h
    · exact List.mem_cons_of_mem _ (qds ks l p h)
    · rcases List.mem_cons.1 h with h | h
      · exact List.mem_cons.2 (.inl h)
      · exact List.mem_cons_of_mem _ (qds ks l p h)
theorem qdu {w0:World} {φ0:Fz0} {N:Nat} {tm:List (Nat×LV)} {ob:List Ob} {s:St} {Q:Exit→Act→World→Prop} {e:Exit} (ks:List Nat) (hs:tnum (qdr ks tm) (q7n ob) some=some s) (h:Cn w0 φ0 N s Q e):Cn w0 φ0 N ⟨tm,ob⟩ Q e:=fun a w hss=>by
  obtain ⟨s',h1,h2⟩:=q8g hs
  injection h1 with h1;subst h1
  obtain ⟨⟨η,g1,g2,g3⟩,g4,g5⟩:=hss
  exact h a w (h2 w0 φ0 0 η w a N (g1 0) (fun n l hl=>g2 n l (qds ks tm _ hl)) g3 g4 g5)
def qdv (f:Func):Code:=match f.body with | some c=>c | none=>.skip
def regO (c:Code) (k:Nat):Array Oper:=match regL c k with | some x=>x | none=>#[]
def elt {α:Type} (z:α) (xs:List α) (i:Nat):α:=(xs[i]?).getD z
theorem qdw {α:Type} {c:Bool} {A:Option α} {r:α} (h:(bif c then A else none)=some r):c=true∧A=some r:=by
  cases c with
  | true=>exact ⟨rfl,h⟩
  | false=>cases h
theorem qdx {w0:World} {φ0:Fz0} {N:Nat} {tm:List (Nat×LV)} {ob:List Ob} {s:St} {Q:Exit→Act→World→Prop} {e:Exit} (kinds:List (Nat×Kd)) (hs:(q7x kinds (q7l tm .lf) (q7n ob) fun ls H=>tnum ls H some)=some s) (h:Cn w0 φ0 N s Q e):Cn w0 φ0 N ⟨tm,ob⟩ Q e:=fun a w hss=>by
  obtain ⟨η,hsr,hfr⟩:=hss.sr
  obtain ⟨ls,H2,h1,h2,h3⟩:=q7y kinds hs
  obtain ⟨s',g1,g2⟩:=q8g h1
  injection g1 with g1;subst g1
  obtain ⟨η1,e1,e2⟩:=h3 H2.next η w a (hsr H2.next).hr (Nat.le_refl _) (hsr H2.next).tr
  exact h a w (g2 w0 φ0 H2.next η1 w a N e1.hr e2 (hfr.adv e1) hss.size hss.defers)
end Go.Tx

namespace Go.Pel
def qdz (n d:Int):Bool:=decide (1≤d∧n ≠ -9223372036854775808∧Nat.gcd d.toNat n.natAbs=1)
def qe0 (n d:Int):Int:=if qdz n d then 0 else 8
theorem qe1 {n d:Int} (h:d<1):qe0 n d=8:=by unfold qe0 qdz;rw [if_neg];simp;omega
theorem qe2 {d:Int}:qe0 (-9223372036854775808) d=8:=by unfold qe0 qdz;rw [if_neg];simp
theorem qe3 {n d:Int} (h1:1≤d) (h2:n ≠ -9223372036854775808) (h3:Nat.gcd d.toNat n.natAbs=1):qe0 n d=0:=by unfold qe0 qdz;rw [if_pos];simp;exact ⟨h1,h2,h3⟩
theorem qe4 {n d:Int} (h3:Nat.gcd d.toNat n.natAbs≠1):qe0 n d=8:=by unfold qe0 qdz;rw [if_neg];simp;intro _ _;exact h3
theorem qe5 {n d:Int} (h:1≤d) (k:¬ 1<Nat.gcd d.toNat n.natAbs):Nat.gcd d.toNat n.natAbs=1:=by
  have:0<Nat.gcd d.toNat n.natAbs:=Nat.gcd_pos_of_pos_left _ (by omega)
  omega
theorem qe6 (n d:Int):qe0 n d=0∨qe0 n d=8:=by unfold qe0;split<;>simp
theorem qe7 {n d:Int} (h:qe0 n d=0):1≤d∧n ≠ -9223372036854775808∧Nat.gcd d.toNat n.natAbs=1:=by
  unfold qe0 qdz at h;split at h
  · rename_i h';simpa using h'
  · omega
def qed (i a b:Int):Bool:=decide (0≤i∧i≤65535∧-1048576≤a∧a≤1048576∧-1048576≤b∧b≤1048576)
def qee (i a b:Int):Int:=if qed i a b then 0 else 8
theorem qef {i a b:Int} (h:0≤i∧i≤65535∧-1048576≤a∧a≤1048576∧-1048576≤b∧b≤1048576):qee i a b=0:=by unfold qee qed;rw [if_pos];simpa using h
theorem qeg {i a b:Int} (h:¬ (0≤i∧i≤65535∧-1048576≤a∧a≤1048576∧-1048576≤b∧b≤1048576)):qee i a b=8:=by unfold qee qed;rw [if_neg];simpa using h
theorem qeh (i a b:Int):qee i a b=0∨qee i a b=8:=by unfold qee;split<;>simp
theorem qei {i a b:Int} (h:qee i a b=0):0≤i∧i≤65535∧-1048576≤a∧a≤1048576∧-1048576≤b∧b≤1048576:=by
  unfold qee qed at h;split at h
  · rename_i h';simpa using h'
  · omega
def far (n:Int):Bool:=decide (n < -1048576∨1048576<n)
theorem qel (n:Int):far n=(decide (n < -1048576) || decide (1048576<n)):=by unfold far;rw [Bool.eq_iff_iff];simp
theorem qeo (n:Int):(far n=true)↔(n < -1048576∨1048576<n):=by unfold far;simp
theorem qep (n:Int):(far n=false)↔(-1048576≤n∧n≤1048576):=by unfold far;simp
def bld (neg:Bool) (hi lo dhi dlo:Nat):Int×Int×Int :=
  if 0<hi∨9223372036854775807<lo∨0<dhi∨9223372036854775807<dlo then (0,0,16) else (if neg then -(lo:Int) else lo,dlo,0)
theorem qeq {neg:Bool} {hi lo dhi dlo:Nat} (h:0<hi∨9223372036854775807<lo∨0<dhi∨9223372036854775807<dlo):bld neg hi lo dhi dlo=(0,0,16):=by unfold bld;rw [if_pos h]
theorem qer {hi lo dhi dlo:Nat} (h:¬ (0<hi∨9223372036854775807<lo∨0<dhi∨9223372036854775807<dlo)):bld true hi lo dhi dlo=(-(lo:Int),(dlo:Int),0):=by unfold bld;rw [if_neg h];rfl
theorem qes {hi lo dhi dlo:Nat} (h:¬ (0<hi∨9223372036854775807<lo∨0<dhi∨9223372036854775807<dlo)):bld false hi lo dhi dlo=((lo:Int),(dlo:Int),0):=by unfold bld;rw [if_neg h];rfl
def mk (n d:Int):Int×Int×Int :=
  if d=0 then (0,0,26) else bld (decide (n<0) != decide (d<0)) 0 (n.natAbs / Nat.gcd n.natAbs d.natAbs) 0 (d.natAbs / Nat.gcd n.natAbs d.natAbs)
theorem qeu (n:Int):mk n 0=(0,0,26):=by unfold mk;rw [if_pos rfl]
theorem qev {n d:Int} (h:d≠0):mk n d=bld (decide (n<0) != decide (d<0)) 0 (n.natAbs / Nat.gcd n.natAbs d.natAbs) 0 (d.natAbs / Nat.gcd n.natAbs d.natAbs):=by unfold mk;rw [if_neg h]
theorem qew {n d:Int} (h:d≠0):1≤Nat.gcd n.natAbs d.natAbs:=Nat.gcd_pos_of_pos_right _ (by omega)
theorem qex {a g B:Nat} (h:a<B):a / g<B:=Nat.lt_of_le_of_lt (Nat.div_le_self _ _) h
theorem qey {n d:Int} (h:d≠0):mk n d=bld (!(decide (n<0) == decide (d<0))) 0 (n.natAbs / Nat.gcd n.natAbs d.natAbs) 0 (d.natAbs / Nat.gcd n.natAbs d.natAbs):=qev h
end Go.Pel

namespace Go
namespace RegC
section
variable {P:Program} {ops:Array Oper} {md:Region.Mode} {C:World→Prop}

def anyC (P:Program) (md:Region.Mode) (ops:Array Oper) (C:World→Prop) (n:Nat) (L:Array Bool→Act→Prop):Nat→Array Bool→Act→Prop
  | 0,li,a=>L li a
  | f+1,li,a=>Region.ready md ops li ≠ []∧∀ i∈Region.ready md ops li,i<n∧qOp P ops C i (anyC P md ops C n L f (li.setIfInBounds i true)) a

theorem qf1 {n g:Nat} {L:Array Bool→Act→Prop} {Q':Exit→Act→World→Prop}
    (hL:∀ li a w,C w→L li a→wpAny P md ops Q' g li a w) :
    ∀ (f:Nat) (li:Array Bool) (a:Act) (w:World),C w→anyC P md ops C n L f li a→wpAny P md ops Q' (f+g) li a w:=by
  intro f
  induction f with
  | zero=>intro li a w hw h;rw [Nat.zero_add];exact hL _ _ _ hw h
  | succ f ih =>
    intro li a w hw h
    rw [show f+1+g=(f+g)+1 from by omega]
    exact ⟨fun h0=>absurd h0 h.1,fun i hi=>wpOp_of_qOp hw (fun a' w' hw' h'=>ih _ a' w' hw' h') (h.2 i hi).2⟩

theorem qf2 {n i:Nat} {oi:Oper} {v:Value} {L:Array Bool→Act→Prop} (hi:ops[i]?=some oi)
    (hsel:∀ (j:Nat) (o:Oper) cs b,ops[j]?=some o→o.op ≠ .select cs b)
    (hs:Region.sinkB md ops n=true) (hc:Region.chainB md ops n=true) (hn:n<ops.size) (hin:i<n)
    (hdone:∀ li a,L li a→∀ j∈Region.ready md ops li,n≤j) :
    ∀ (f:Nat) (li:Array Bool) (a:Act),HeadInv md ops n li →
      (∀ j oj,ops[j]?=some oj→j≠i→li.getD j true=false→(∀ e∈oj.after,Region.binds md e=true→e.on≠i)→oi.apart ops oj=true) →
      i∈Region.ready md ops li→YieldsIn P ops C oi v a →
      anyC P md ops C n L f (li.setIfInBounds i true) (a.put oi.dst v)→anyC P md ops C n L (f+1) li a:=by
  intro f
  induction f with
  | zero =>
    intro li a inv _ hr hy H
    refine ⟨fun h=>(by rw [h] at hr;cases hr),fun j hj=>?_⟩
    have hjn:j<n:=Nat.lt_of_not_le fun h=>tail_waits hs hc hn inv _ i rfl hin (mem_ready.1 hr).1 j h hj
    refine ⟨hjn,?_⟩
    by_cases hji:j=i
    · subst hji;exact hy.qOp hi H
    · have:=hdone _ _ H j (ready_mono hj hji);omega
  | succ f ih =>
    intro li a inv hfree hr hy H
    have hun:=(mem_ready.1 hr).1
    refine ⟨fun h=>(by rw [h] at hr;cases hr),fun j hj=>?_⟩
    have hjn:j<n:=Nat.lt_of_not_le fun h=>tail_waits hs hc hn inv _ i rfl hin hun j h hj
    refine ⟨hjn,?_⟩
    by_cases hji:j=i
    · subst hji;exact hy.qOp hi H
    · have h1 := (H.2 j (ready_mono hj hji)).2
      obtain ⟨hjun,oj,hoj,hall⟩:=mem_ready.1 hj
      have hnot:∀ e∈oj.after,Region.binds md e=true→e.on≠i:=fun e he hb heq=>by
        have h3:=hall e he hb
        rw [heq,getD_both hun] at h3
        cases h3
      have h2:=qOp_put hoj (hfree j oj hoj hji hjun hnot) (fun cs b=>hsel i oi cs b hi) (fun cs b=>hsel j oj cs b hoj) hy h1
      refine qOp_mono (fun a' h3=>ih (li.setIfInBounds j true) a' (inv.set hj hjn) (fun k ok hk hki hunk hno=>?_) (ready_mono hr (Ne.symm hji)) h3.1 ?_) h2
      · refine hfree k ok hk hki ?_ hno
        by_cases hjk:j=k
        · subst hjk;exact hjun
        · rw [getD_set_ne true hjk] at hunk;exact hunk
      · rw [Array.setIfInBounds_comm _ _ hji]
        exact h3.2

theorem qf3 {n g:Nat} {Lq:Act→Prop} (hsel:Region.noSelect ops=true) (hs:Region.sinkB md ops n=true) (hc:Region.chainB md ops n=true) (hn:n<ops.size) :
    ∀ (l:List Oper) (k:Nat) (li:Array Bool) (a:Act),(∀ j,j<l.length→l[j]?=ops[k+j]?)→k+l.length=n→HeadInv md ops n li →
    Region.lexHead md ops g l.length k li=true→wpQuiet P ops C Lq l a →
    anyC P md ops C n (fun li' a'=>Region.seqB md ops g n li'=true∧Lq a') l.length li a
  | [], k, li, a, _, hk, _, hB, h => by
    obtain rfl:k=n:=by simpa using hk
    exact ⟨by simpa [Region.lexHead] using hB,h⟩
  | o :: l, k, li, a, hl, hk, inv, hB, h => by
    have h0:ops[k]?=some o:=by simpa using (hl 0 (by simp)).symm
    simp only [List.length_cons,Region.lexHead,Bool.and_eq_true] at hB
    obtain ⟨⟨hr,hf⟩,hB'⟩:=hB
    have hkn:k<n:=by simp only [List.length_cons] at hk;omega
    have hr':k∈Region.ready md ops li:=by simpa using hr
    have hst:qOp P ops C k (wpQuiet P ops C Lq l) a:=by unfold qOp;simp only [h0];exact h
    obtain ⟨v,hy,hK⟩:=yieldsIn_of_qOp h0 hst
    exact qf2 h0 (Region.noSelect_spec hsel) hs hc hn hkn (fun li' a' hL=>seqB_ready hL.1) l.length li a inv (Region.free_spec h0 hf) hr' hy
      (qf3 hsel hs hc hn l (k+1) _ _ (fun j hj=>by have:=hl (j+1) (by simp;omega);simpa [Nat.add_assoc,Nat.add_comm 1 j] using this)
        (by simp only [List.length_cons] at hk;omega) (inv.set hr' hkn) hB' hK)

theorem qf4 {id:Nat} {Q:Exit→Act→World→Prop} {a:Act} {w:World} {l:List Oper} (n:Nat) (hm:P.follows .mixedOrders=true) (hB:Region.lexTailB .any l.toArray n=true)
    (hC:C { w with drawn:=w.drawn+1 })
    (h:wpQuiet P l.toArray C (fun a'=>∀ w',C w'→wpList P l.toArray Q (l.drop n) a' w') (l.take n) a):(Code.region id l.toArray true).wp P Q a w:=by
  simp only [Region.lexTailB,Bool.and_eq_true,decide_eq_true_eq] at hB
  obtain ⟨⟨⟨⟨hsel,hn⟩,hs⟩,hc⟩,hlex⟩:=hB
  have hn':n<l.length:=by simpa using hn
  have htl:(l.take n).length=n:=by simp;omega
  have hdl:(l.drop n).length=l.toArray.size - n:=by simp
  have inv0:HeadInv .any l.toArray n (Array.replicate l.toArray.size false) :=
    ⟨by simp,fun j oj _ hl=>(by rw [getD_replicate_false] at hl;cases hl),fun t _ ht=>getD_in (by simpa using ht) (getD_replicate_false _ _)⟩
  have H:=qf3 (C:=C) (md:=.any) (g:=l.toArray.size - n) hsel hs hc hn (l.take n) 0 _ a (fun j hj=>by
    have hj':j<n:=by rw [htl] at hj;exact hj
    simp [hj']) (by simpa using htl) inv0 (by rw [htl];exact hlex) h
  refine wp_region_any hm ?_
  have:=qf1 (Q':=Q) (g:=l.toArray.size - n) (fun li a' w' hw' hL=>by
    have:=wpAny_of_seq (md:=.any) (Q':=Q) (l.drop n) n li a' w' (fun j=>by simp [List.getElem?_drop]) (by rw [hdl];exact hL.1) (hL.2 w' hw')
    rwa [hdl] at this) _ _ _ _ hC H
  rw [htl,show n+(l.toArray.size - n)=l.toArray.size from by omega] at this
  exact this
end

theorem wpQuiet_split {P:Program} {ops:Array Oper} {C:World→Prop} {Q:Act→Prop} {a:Act} {o:Oper} {rest:List Oper} {j:Nat} {want b:Bool}
    (_hg:o.guard=some (j,want)) (_hy:yielded ops a.tmps j=some b) (ht:b=true→wpQuiet P ops C Q (o :: rest) a) (hf:b=false→wpQuiet P ops C Q (o :: rest) a):wpQuiet P ops C Q (o :: rest) a:=by
  cases b
  · exact hf rfl
  · exact ht rfl

section
variable {P:Program}
theorem wp_region_ext0 {id:Nat} {Q:Exit→Act→World→Prop} {a:Act} {w:World} {l:List Oper} (hm:P.follows .mixedOrders=true) (hB:Region.lexB .any l.toArray=true)
    (h:wpQuiet P l.toArray (fun w'=>∃ x,w'=ext w x) (fun a'=>∀ w',(∃ x,w'=ext w x)→Q .normal a' w') l a):(Code.region id l.toArray true).wp P Q a w :=
  wp_region_quiet (C:=fun w'=>∃ x,w'=ext w x) hm hB (Go.ext_of ((Bel.refl w).drewN 1)) (by simpa using h)
theorem wp_region_ext1 {id:Nat} {Q:Exit→Act→World→Prop} {a:Act} {w:World} {z:Beyond} {l:List Oper} (hm:P.follows .mixedOrders=true) (hB:Region.lexB .any l.toArray=true)
    (h:wpQuiet P l.toArray (fun w'=>∃ x,w'=ext w (z.and x)) (fun a'=>∀ w',(∃ x,w'=ext w (z.and x))→Q .normal a' w') l a):(Code.region id l.toArray true).wp P Q a (ext w z) :=
  wp_region_quiet (C:=fun w'=>∃ x,w'=ext w (z.and x)) hm hB (Go.ext_of1 ((Bel.refl (ext w z)).drewN 1)) (by simpa using h)
theorem wp_region_tail0 {id:Nat} {Q:Exit→Act→World→Prop} {a:Act} {w:World} {l:List Oper} (n:Nat) (hm:P.follows .mixedOrders=true) (hB:Region.lexTailB .any l.toArray n=true)
    (h:wpQuiet P l.toArray (fun w'=>∃ x,w'=ext w x) (fun a'=>∀ w',(∃ x,w'=ext w x)→wpList P l.toArray Q (l.drop n) a' w') (l.take n) a):(Code.region id l.toArray true).wp P Q a w :=
  qf4 (C:=fun w'=>∃ x,w'=ext w x) n hm hB (Go.ext_of ((Bel.refl w).drewN 1)) h
theorem wp_region_tail1 {id:Nat} {Q:Exit→Act→World→Prop} {a:Act} {w:World} {z:Beyond} {l:List Oper} (n:Nat) (hm:P.follows .mixedOrders=true) (hB:Region.lexTailB .any l.toArray n=true)
    (h:wpQuiet P l.toArray (fun w'=>∃ x,w'=ext w (z.and x)) (fun a'=>∀ w',(∃ x,w'=ext w (z.and x))→wpList P l.toArray Q (l.drop n) a' w') (l.take n) a):(Code.region id l.toArray true).wp P Q a (ext w z) :=
  qf4 (C:=fun w'=>∃ x,w'=ext w (z.and x)) n hm hB (Go.ext_of1 ((Bel.refl (ext w z)).drewN 1)) h
end
end RegC
end Go
namespace Go
namespace RegC
def passes (P:Program) (rest:Code) (l:Nat) (Q:Exit→Act→World→Prop):Nat→Act→World→Prop
  | 0,_,_=>False
  | n+1,a,w=>rest.wp P (Exit.jump l (passes P rest l Q n) Q) a w
end RegC
end Go

namespace Go
theorem qf8 {p:Program} {w w':World} {a:Addr} {u:TypeId} {k:Addr} {v:Value} {b:Bool} {l:List Addr} (h:w.viewStore p a u k v b=.ok (w',l)):w'.drawn=w.drawn:=by
  unfold World.viewStore at h
  simp only [bind,Except.bind,pure,Except.pure,throw,throwThe,MonadExceptOf.throw] at h
  repeat' (split at h<;>try (cases h;done))
  all_goals (try (cases h;rfl))
theorem qf9 {p:Program} {w w':World} {a:Addr} {v:Value} {b:Bool} {l:List Addr} (h:w.farStore p a v b=.ok (w',l)):w'.drawn=w.drawn:=by
  unfold World.farStore at h
  split at h
  · split at h
    · cases h;exact qf8 ‹_›
    · cases h
  · cases h
theorem qfa {α:Type}:∀ (x:Ask α) (w:World),w.drawn≤(w.ask x).2.drawn
  | .done _,_=>Nat.le_refl _
  | .ask what range k, w => by
    unfold World.ask
    dsimp only
    split
    · exact qfa (k 0) w
    · exact Nat.le_trans (Nat.le_succ _) (qfa (k _) { w with drawn:=w.drawn+1 })
theorem qfb (w:World) (c:Sys):w.drawn≤(w.sys c).2.drawn:=by
  have h:=qfa (Kernel.perform c w.os) w
  unfold World.sys
  split
  · exact Nat.le_refl _
  · rename_i heq;rw [heq] at h;exact h
theorem qfc (w:World) (a:Addr) (n:Nat):(w.freeze a n).drawn=w.drawn:=by unfold World.freeze;split<;>rfl
theorem qfd {α:Type} {P:Program}:∀ (s:Sem α) (w w':World) (v:α),s.run P w=.ok v w'→w.drawn≤w'.drawn:=by
  intro s
  induction s with
  | pure a=>intro w w' v h;unfold Sem.run at h;cases h;exact Nat.le_refl _
  | load m a k ih =>
    intro w w' v h;unfold Sem.run at h
    split at h
    · exact ih _ _ _ _ h
    · split at h
      · exact ih _ _ _ _ h
      · cases h
  | store m a u k ih =>
    intro w w' v h
    cases u<;>simp only [Sem.run] at h
    all_goals first
      | (cases h;done)
      | (split at h
         · split at h
           · cases h
           · have:=ih _ _ _ h;exact this
         · split at h
           · have := ih _ _ _ h
             rw [qf9 ‹_›] at this;exact this
           · cases h)
  | new o k ih=>intro w w' v h;unfold Sem.run at h;have:=ih _ _ _ _ h;exact this
  | shape r k ih=>intro w w' v h;unfold Sem.run at h;have:=ih _ _ _ _ h;exact this
  | freeze a n k ih=>intro w w' v h;unfold Sem.run at h;have:=ih _ _ _ h;rwa [qfc] at this
  | frozen a k ih=>intro w w' v h;unfold Sem.run at h;have:=ih _ _ _ _ h;exact this
  | getObj r k ih =>
    intro w w' v h;unfold Sem.run at h
    split at h
    · cases h
    · exact ih _ _ _ _ h
    · cases h
  | setObj r o k ih =>
    intro w w' v h;unfold Sem.run at h
    split at h
    · cases h
    · have:=ih _ _ _ h;exact this
    · cases h
  | choose q k ih =>
    intro w w' v h;unfold Sem.run at h
    split at h
    · exact ih _ _ _ _ h
    · exact Nat.le_trans (Nat.le_succ _) (ih _ _ _ _ h)
  | sys c k ih=>intro w w' v h;unfold Sem.run at h;exact Nat.le_trans (qfb w c) (ih _ _ _ _ h)
  | program k ih=>intro w w' v h;unfold Sem.run at h;have:=ih _ _ _ _ h;exact this
  | mark m k ih=>intro w w' v h;unfold Sem.run at h;exact ih _ _ _ h
  | halt h0=>intro w w' v h;unfold Sem.run at h;cases h
section
variable {P:Program}
theorem qfe {w:World} {o:Oper} {a:Act} {K:Act→World→Prop} {Q:Exit→Act→World→Prop} (s x:Operand) (t:TypeId)
    (ho:o.op=.call { callee:=.builtin .append,args:=#[s,x],argTypes:=#[t,t] })
    (base:Nat) (e:TypeId) (i:TypeInfo) (z:Value) (size bytes:Nat) (ht:P.underlying t=some (.slice e)) (hi:P.info? e=some i) (hz:i.zero=some z)
    (hsize:i.size=size) (hby:i.bytes=bytes) (hzs:z.cells.size=size) (hsz:0<size)
    (v:Value) (n:Nat) (xs:List Value) (hs:a.eval s=v) (hown:w.ownsRow base e size v n xs)
    (ad:Addr) (m c:Nat) (news:List Value) (hx:a.eval x=.slice (some ad) m c) (hl:news.length=m*size) (hnews:∀ j u,news[j]?=some u→w.cell? (ad.add j)=some u) (h1:∀ u∈news,u.oneCell'=true)
    (h63:n+m≤maxLen) (hbytes:(n+m)*bytes≤140737488355328) (hbase:base≤w.heap.size)
    (h:∀ v' w',w'.ownsRow base e size v' (n+m) (xs++news)→w.grownBy w' v.ownBlock→w.drawn≤w'.drawn→K (a.put o.dst v') w'):o.wp P a w K Q:=by
  obtain ⟨v',w',hr,h2,h3,h4⟩:=run_append_own (P:=P) w base t o.type e i z size bytes ht hi hz hsize hby hzs hsz v n xs hown ad m c news hl hnews h1 h63 hbytes hbase
  unfold Oper.wp execOp
  simp only [ho,resolve,invoke,builtin,Sem.run_bind,Sem.run_pure,Result.andThen_ok,List.map_toArray,List.map_cons,List.map_nil,hs,hx,hr]
  exact h v' w' h2 h3 (qfd _ _ _ _ hr)
theorem qff {w:World} {ops:Array Oper} {rest:List Oper} {o:Oper} {a:Act} {Q:Exit→Act→World→Prop} (hgd:o.guard=none) (s x:Operand) (t:TypeId)
    (ho:o.op=.call { callee:=.builtin .append,args:=#[s,x],argTypes:=#[t,t] })
    (base:Nat) (e:TypeId) (i:TypeInfo) (z:Value) (size bytes:Nat) (ht:P.underlying t=some (.slice e)) (hi:P.info? e=some i) (hz:i.zero=some z)
    (hsize:i.size=size) (hby:i.bytes=bytes) (hzs:z.cells.size=size) (hsz:0<size)
    (v:Value) (n:Nat) (xs:List Value) (hs:a.eval s=v) (hown:w.ownsRow base e size v n xs)
    (ad:Addr) (m c:Nat) (news:List Value) (hx:a.eval x=.slice (some ad) m c) (hl:news.length=m*size) (hnews:∀ j u,news[j]?=some u→w.cell? (ad.add j)=some u) (h1:∀ u∈news,u.oneCell'=true)
    (h63:n+m≤maxLen) (hbytes:(n+m)*bytes≤140737488355328) (hbase:base≤w.heap.size)
    (h:∀ v' w',w'.ownsRow base e size v' (n+m) (xs++news)→w.grownBy w' v.ownBlock→w.drawn≤w'.drawn→wpList P ops Q rest (a.put o.dst v') w'):wpList P ops Q (o :: rest) a w :=
  wpList_plain hgd fun _ hK=>qfe s x t ho base e i z size bytes ht hi hz hsize hby hzs hsz v n xs hs hown ad m c news hx hl hnews h1 h63 hbytes hbase fun v' w' h2 h3 h4=>hK _ _ (h v' w' h2 h3 h4)
end
end Go

namespace Go
open RowKit
def Sl (w:World) (size:Nat) (A:Option Addr) (n c:Nat) (xs:List Value):Prop :=
  n≤c∧xs.length=n*size∧(0<n→∃ b o,A=some ⟨b,o,none⟩∧b<w.heap.size∧∀ j u,xs[j]?=some u→w.cell? ⟨b,o+j,none⟩=some u)
def Own (w:World) (base:Nat) (e:TypeId) (size:Nat) (A:Option Addr) (n c:Nat) (xs:List Value):Prop:=w.ownsRow base e size (.slice A n c) n xs
structure SlT (P:Program) (t e:TypeId) (z:Value) (size bytes:Nat):Prop where
  und:P.underlying t=some (.slice e)
  info:(P.info? e).map (fun i=>(i.zero,i.size,i.bytes))=some (some z,size,bytes)
  zs:z.cells.size=size
  pos:0<size
  small:bytes≤1024

section
variable {w:World} {size n c:Nat} {A:Option Addr} {xs:List Value}
theorem Sl.len (h:Sl w size A n c xs):xs.length=n*size:=h.2.1
theorem Sl.cap (h:Sl w size A n c xs):n≤c:=h.1
theorem Sl.ext (h:Sl w size A n c xs) (x:Beyond):Sl (ext w x) size A n c xs :=
  ⟨h.1,h.2.1,fun hn=>by
    obtain ⟨b,o,rfl,hb,hc⟩:=h.2.2 hn
    exact ⟨b,o,rfl,by rw [q9f];omega,fun j u hu=>by rw [qcd w x b _ hb];exact hc j u hu⟩⟩
theorem Sl.bel {w':World} (h:Sl w size A n c xs) (hb:Bel w w'):Sl w' size A n c xs:=by
  obtain ⟨x,rfl⟩:=ext_of hb;exact h.ext x
theorem Sl.nil_ (w:World) (size c:Nat) (A:Option Addr):Sl w size A 0 c []:=⟨Nat.zero_le _,by simp,fun h=>absurd h (by omega)⟩
theorem Sl.take (h:Sl w size A n c xs) {k:Nat} (hk:k≤n):Sl w size A k c (xs.take (k*size)) :=
  ⟨Nat.le_trans hk h.1,by rw [List.length_take,h.2.1];exact Nat.min_eq_left (Nat.mul_le_mul_right _ hk),fun hn=>by
    obtain ⟨b,o,rfl,hb,hc⟩:=h.2.2 (by omega)
    refine ⟨b,o,rfl,hb,fun j u hu=>hc j u ?_⟩
    rw [List.getElem?_take] at hu
    split at hu
    · exact hu
    · cases hu⟩
theorem Sl.cell {b o:Nat} (h:Sl w size (some ⟨b,o,none⟩) n c xs) {j:Nat} {u:Value} (hu:xs[j]?=some u):w.cell? ⟨b,o+j,none⟩=some u:=by
  have hl:j<xs.length:=(List.getElem?_eq_some_iff.1 hu).1
  have hn:0<n:=Nat.pos_of_ne_zero fun h0=>by rw [h.2.1,h0,Nat.zero_mul] at hl;omega
  obtain ⟨b',o',hA,_,hc⟩:=h.2.2 hn
  injection hA with hA
  injection hA with h1 h2
  subst h1 h2
  exact hc j u hu
theorem Sl.at_ (h:Sl w size A n c xs) (hn:0<n):∃ b o,A=some ⟨b,o,none⟩∧b<w.heap.size:=by
  obtain ⟨b,o,hA,hb,_⟩:=h.2.2 hn;exact ⟨b,o,hA,hb⟩
theorem Own.nil_ (w:World) (base:Nat) (e:TypeId) (size:Nat):Own w base e size none 0 0 []:=World.ownsRow_nil w base e size
theorem Own.len {base:Nat} {e:TypeId} (h:Own w base e size A n c xs):xs.length=n*size:=h.1
theorem Own.cap {base:Nat} {e:TypeId} (h:Own w base e size A n c xs):n≤c:=by
  rcases h.2 with ⟨h1,h2⟩ | ⟨g,cap,cur,hv,_,_,hnc,_⟩
  · omega
  · injection hv with _ _ h3;omega
theorem Own.at_ {base:Nat} {e:TypeId} (h:Own w base e size A n c xs) (hn:0<n):∃ g,A=some ⟨g,0,none⟩∧base≤g∧g<w.heap.size:=by
  rcases h.2 with ⟨h1,h2⟩ | ⟨g,cap,cur,hv,hg,hh,_⟩
  · omega
  · injection hv with h1
    refine ⟨g,h1,hg,Nat.lt_of_not_le fun hle=>?_⟩
    rw [Array.getElem?_eq_none hle] at hh;cases hh
theorem Own.block {base:Nat} {e:TypeId} (h:Own w base e size A n c xs):(Value.slice A n c).ownBlock=none ∨ ∃ g,(Value.slice A n c).ownBlock=some g∧base≤g∧g<w.heap.size:=by
  cases hA:(Value.slice A n c).ownBlock with
  | none=>exact .inl rfl
  | some g=>exact .inr ⟨g,rfl,World.ownsRow.lt h g hA⟩
theorem Own.sl {base:Nat} {e:TypeId} (h:Own w base e size A n c xs):Sl w size A n c xs :=
  ⟨h.cap,h.len,fun hn=>by
    obtain ⟨g,rfl,_,hlt⟩:=h.at_ hn
    refine ⟨g,0,rfl,hlt,fun j u hu=>?_⟩
    have hj:j<n*size:=by rw [← h.len];exact (List.getElem?_eq_some_iff.1 hu).1
    rw [Nat.zero_add,World.ownsRow.cellAt h j hj,hu]⟩
theorem Own.bel {base:Nat} {e:TypeId} {w':World} (h:Own w base e size A n c xs) (hb:Bel w w'):Own w' base e size A n c xs:=by
  refine World.ownsRow.kept (row:=none) h ⟨hb.os,hb.tape,hb.output,hb.size,fun k hk _=>hb.block k hk⟩ ?_
  rcases h.block with h0 | ⟨g,h0,_⟩
  · exact .inl h0
  · exact .inr (by rw [h0];exact fun e=>by cases e)
theorem Own.ext {base:Nat} {e:TypeId} (h:Own w base e size A n c xs) (x:Beyond):Own (ext w x) base e size A n c xs:=h.bel (q9j w x)
theorem Own.alloc {base:Nat} {e:TypeId} (h:Own w base e size A n c xs) (ob:Obj):Own (w.alloc ob) base e size A n c xs:=h.bel ((Bel.refl w).alloc ob)
theorem Own.base_le {base base':Nat} {e:TypeId} (h:Own w base e size A n c xs) (hb:base'≤base):Own w base' e size A n c xs:=by
  obtain ⟨h1,h2⟩:=h
  refine ⟨h1,?_⟩
  rcases h2 with h2 | ⟨g,cap,cur,hv,hg,r⟩
  · exact .inl h2
  · exact .inr ⟨g,cap,cur,hv,Nat.le_trans hb hg,r⟩
end

section
variable {P:Program} {ops:Array Oper} {rest:List Oper} {o:Oper} {a:Act} {Q:Exit→Act→World→Prop}
theorem qfh {t e:TypeId} {z:Value} {size bytes:Nat} (hT:SlT P t e z size bytes) {wB W:World} (hb:Bel wB W)
    {kl kc:IntKind} {n:Nat} (hlen:n≤4294967296)
    (hgd:o.guard=none) (l c:Operand) (ho:o.op=.makeSlice t l c) (hl:a.eval l=.int kl n) (hc:a.eval c=.int kc n)
    (h:∀ g y,wB.heap.size≤g→Own (ext wB y) wB.heap.size e size (some ⟨g,0,none⟩) n n (madeCells z.cells (n*size)).toList→wpList P ops Q rest (a.put o.dst (.slice (some ⟨g,0,none⟩) n n)) (ext wB y)):wpList P ops Q (o :: rest) a W:=by
  obtain ⟨i,hi,hz0,hz1,hz2⟩:=info_parts hT.info
  have hby:i.bytes*n≤281474976710656:=by rw [hz2,Nat.mul_comm];exact Nat.le_trans (Nat.mul_le_mul hlen hT.small) (by decide)
  obtain ⟨w',hrun,hown,hg⟩:=run_make_full (P:=P) W wB.heap.size t e i z size hT.und hi hz0 hz1 kl kc n hby (Nat.le_trans hlen (by unfold maxLen;decide)) hb.size
  have hbel:Bel wB w':=hb.grown hg (fun k hk=>by cases hk) (qfd _ _ _ _ hrun)
  refine wpList_plain hgd fun K hK=>?_
  unfold Oper.wp
  simp [execOp,ho,hl,hc,hrun,Result.andThen]
  obtain ⟨y,rfl⟩:=ext_of hbel
  exact hK _ _ (h _ y hb.size hown)
end
end Go
namespace Go
open RowKit
theorem qfj {w:World} {base:Nat} {e:TypeId} {size g n c:Nat} {xs:List Value} (h:Own w base e size (some ⟨g,0,none⟩) n c xs) {j:Nat} {u:Value} (hu:xs[j]?=some u):w.cell? ⟨g,j,none⟩=some u:=by
  rw [World.ownsRow.cellAt h j (by rw [← h.len];exact (List.getElem?_eq_some_iff.1 hu).1),hu]
theorem qfk {w:World} {base:Nat} {e:TypeId} {size g n c:Nat} {xs:List Value} (h:Own w base e size (some ⟨g,0,none⟩) n c xs) (j:Nat):w.frozen? ⟨g,j,none⟩=false:=World.ownsRow.frozenAt h j
end Go

namespace Go
open RowKit
section
variable {P:Program}
end
end Go

namespace Go
open RowKit
theorem qfw {w W0 W:World} {base:Nat} {e:TypeId} {size n c:Nat} {A:Option Addr} {xs:List Value} (hb:Bel w W) (h:Own W0 base e size A n c xs) (h0:Bel W0 W) (hbase:w.heap.size≤base):∃ x,W=ext w x∧Own (ext w x) w.heap.size e size A n c xs:=by
  obtain ⟨x,hx⟩:=ext_of hb
  exact ⟨x,hx,by rw [← hx];exact (h.bel h0).base_le hbase⟩
end Go

namespace Go
end Go

namespace Go
open RowKit
section
variable {P:Program} {ops:Array Oper} {rest:List Oper} {o:Oper} {a:Act} {Q:Exit→Act→World→Prop}
end
end Go

namespace Go
open RowKit
section
variable {P:Program}
end
end Go

namespace Go
open RowKit
section
variable {P:Program} {ops:Array Oper} {rest:List Oper} {o:Oper} {a:Act} {Q:Exit→Act→World→Prop}
theorem qg7 {t e:TypeId} {z:Value} {size bytes:Nat} (hT:SlT P t e z size bytes) {wB W0 W1 W:World} (hb:Bel wB W)
    {A:Option Addr} {n c:Nat} {xs:List Value} (hown:Own W0 wB.heap.size e size A n c xs) (hb0:Bel W0 W)
    {A1:Option Addr} {m c':Nat} {news:List Value} (hsrc:Sl W1 size A1 m c' news) (hb1:Bel W1 W) (h1:∀ u∈news,u.oneCell'=true) (hnil:A1=none→c'=0) (hlen:n+m≤4294967296)
    (hgd:o.guard=none) (s x:Operand) (ho:o.op=.call { callee:=.builtin .append,args:=#[s,x],argTypes:=#[t,t] })
    (hs:a.eval s=.slice A n c) (hx:a.eval x=.slice A1 m c')
    (h:∀ A' c'' y,Own (ext wB y) wB.heap.size e size A' (n+m) c'' (xs++news)→wpList P ops Q rest (a.put o.dst (.slice A' (n+m) c'')) (ext wB y)):wpList P ops Q (o :: rest) a W:=by
  obtain ⟨i,hi,hz0,hz1,hz2⟩:=info_parts hT.info
  have hown':=hown.bel hb0
  cases A1 with
  | none =>
    have hm:m=0:=Nat.eq_zero_of_not_pos fun hp=>by obtain ⟨b,o',hA,_⟩:=hsrc.at_ hp;cases hA
    subst hm
    obtain rfl:=hnil rfl
    have hn:news=[]:=List.eq_nil_of_length_eq_zero (by simpa using hsrc.len)
    subst hn
    obtain ⟨y,rfl⟩:=ext_of hb
    have hrun:=run_append_owned_none (P:=P) (w:=ext wB y) wB.heap.size t o.type e i size hT.und hi _ n xs hown'
    refine wpList_plain hgd fun K hK=>?_
    unfold Oper.wp execOp
    simp only [ho,resolve,invoke,builtin,Sem.run_bind,Sem.run_pure,Result.andThen_ok,List.map_toArray,List.map_cons,List.map_nil,hs,hx,hrun]
    exact hK _ _ (h A c y (by simpa using hown'))
  | some ad =>
    have hby:(n+m)*bytes≤140737488355328:=Nat.le_trans (Nat.mul_le_mul hlen hT.small) (by decide)
    have hsrc':=hsrc.bel hb1
    refine qff hgd s x t ho wB.heap.size e i z size bytes hT.und hi hz0 hz1 hz2 hT.zs hT.pos _ n xs hs hown' ad m c' news hx hsrc'.len
      (fun j u hu=>?_) h1 (Nat.le_trans hlen (by unfold maxLen;decide)) hby hb.size fun v' w' hown2 hg hmono=>?_
    · have hl : j < news.length := (List.getElem?_eq_some_iff.1 hu).1
      have hp:0<m:=Nat.pos_of_ne_zero fun h0=>by rw [hsrc'.len,h0,Nat.zero_mul] at hl;omega
      obtain ⟨b,o',hA,_⟩:=hsrc'.at_ hp
      injection hA with hA
      subst hA
      have hj:=hsrc'.cell hu
      unfold Addr.add
      split
      · rename_i h0;rw [h0] at hj;exact hj
      · exact hj
    · have hbel:Bel wB w':=hb.grown hg (fun k hk=>by
        rcases hown'.block with h0 | ⟨g,h0,hge,_⟩
        · rw [h0] at hk;cases hk
        · rw [h0] at hk;injection hk with hk;omega) hmono
      obtain ⟨y,rfl⟩:=ext_of hbel
      have hv:∃ A' c'',v'=.slice A' (n+m) c'':=by
        rcases hown2.2 with ⟨hv,hn⟩ | ⟨g,cap,cur,hv,_⟩
        · exact ⟨none,0,by rw [hv,hn]⟩
        · exact ⟨_,_,hv⟩
      obtain ⟨A',c'',rfl⟩:=hv
      exact h A' c'' y hown2
end
end Go

namespace Go
theorem qg8 {w W0 W:World} {base:Nat} {e:TypeId} {size n c:Nat} {A:Option Addr} {xs:List Value} (hb:Bel w W) (h:Own W0 base e size A n c xs) (h0:Bel W0 W):∃ y,W=ext w y∧Own (ext w y) base e size A n c xs:=by
  obtain ⟨y,hy⟩:=ext_of hb
  exact ⟨y,hy,by rw [← hy];exact h.bel h0⟩
end Go

namespace Go
open RowKit
section
variable {P:Program} {ops:Array Oper} {rest:List Oper} {o:Oper} {a:Act} {Q:Exit→Act→World→Prop}
end
end Go

namespace Go
open RowKit
theorem qga {wB W:World} (hb:Bel wB W) (cs:Array Value) (e:TypeId) (size n g:Nat) (hg:g=W.heap.size) (hn:n≤maxLen) (hs:cs.size=n*size):Own (W.alloc (.cells cs e)) wB.heap.size e size (some ⟨g,0,none⟩) n n cs.toList:=by
  subst hg
  exact World.ownsRow_lit W cs n hb.size hn hs
theorem qge {V V':World} {y:Beyond} {base:Nat} {e:TypeId} {size n c:Nat} {A:Option Addr} {xs:List Value} (hs:V.heap.size=V'.heap.size) (h:Own (ext V y) base e size A n c xs) (hb:V.heap.size≤base):Own (ext V' y) base e size A n c xs:=by
  obtain ⟨h1,h2⟩:=h
  refine ⟨h1,?_⟩
  rcases h2 with h2 | ⟨g,cap,cur,hv,hg,hh,r⟩
  · exact .inl h2
  · refine .inr ⟨g, cap, cur, hv, hg, ?_, r⟩
    have e1:(ext V y).heap=V.heap++y.objs:=by unfold ext;rfl
    have e2:(ext V' y).heap=V'.heap++y.objs:=by unfold ext;rfl
    rw [e1,Array.getElem?_append_right (by omega)] at hh
    rw [e2,Array.getElem?_append_right (by omega),← hs]
    exact hh
section
variable {P:Program} {ops:Array Oper} {rest:List Oper} {o:Oper} {a:Act} {Q:Exit→Act→World→Prop}
theorem qgf {w:World} {j:Nat} {want:Bool} (hg:o.guard=some (j,want)) (hy:yielded ops a.tmps j=some want) (h:wpList P ops Q ({ o with guard:=none } :: rest) a w):wpList P ops Q (o :: rest) a w:=by
  have h1:Region.wanted o (yielded ops a.tmps)=true:=by simp [Region.wanted,hg,hy]
  unfold wpList at h ⊢
  rw [if_pos h1]
  exact h
theorem qgh {t e:TypeId} {z:Value} {size bytes:Nat} (hT:SlT P t e z size bytes) {wB W1 W:World} (hb:Bel wB W)
    {A1:Option Addr} {m c':Nat} {news:List Value} (hsrc:Sl W1 size A1 m c' news) (hb1:Bel W1 W) (h1:∀ u∈news,u.oneCell'=true) (hnil:A1=none→c'=0) (hlen:m≤4294967296)
    (hgd:o.guard=none) (s x:Operand) (ho:o.op=.call { callee:=.builtin .append,args:=#[s,x],argTypes:=#[t,t] }) {g:Nat}
    (hs:a.eval s=.slice (some ⟨g,0,none⟩) 0 0) (hx:a.eval x=.slice A1 m c') (hg:g=W.heap.size)
    (h:∀ A' c'' y,Own (ext wB y) wB.heap.size e size A' m c'' news→wpList P ops Q rest (a.put o.dst (.slice A' m c'')) (ext wB y)):wpList P ops Q (o :: rest) a (W.alloc (.cells #[] e)):=by
  refine qg7 hT (hb.alloc _) (qga hb #[] e size 0 g hg (Nat.zero_le _) (by simp)) (Bel.refl _) hsrc (hb1.alloc _) h1 hnil (by omega) hgd s x ho hs hx fun A' c'' y hown=>?_
  rw [Nat.zero_add] at hown ⊢
  exact h A' c'' y hown
end
end Go

namespace Go
open RowKit
section
variable {α:Type} {cells:α→List Value} {k:Nat}
theorem qgi (hk:∀ a,(cells a).length=k) (l:List α):(l.flatMap cells).length=l.length*k:=by
  induction l with
  | nil=>simp
  | cons x l ih=>rw [List.flatMap_cons,List.length_append,ih,hk,List.length_cons,Nat.add_mul];omega
theorem qgj (hk:∀ a,(cells a).length=k) {l:List α} {i:Nat} {x:α} (h:l[i]?=some x) (j:Nat) (hj:j<k):(l.flatMap cells)[i*k+j]?=(cells x)[j]?:=by
  induction l generalizing i with
  | nil=>simp at h
  | cons y l ih =>
    rw [List.flatMap_cons]
    cases i with
    | zero =>
      simp only [List.getElem?_cons_zero,Option.some.injEq] at h
      subst h
      rw [Nat.zero_mul,Nat.zero_add,List.getElem?_append_left (by rw [hk];exact hj)]
    | succ i =>
      rw [List.getElem?_append_right (by rw [hk,Nat.add_mul];omega),hk]
      have e:(i+1)*k+j - k=i*k+j:=by rw [Nat.add_mul];omega
      rw [e];exact ih (by simpa using h)
theorem qgn (h:∀ a,∀ u∈cells a,u.oneCell'=true) (l:List α):∀ u∈l.flatMap cells,u.oneCell'=true:=by
  intro u hu
  obtain ⟨x,_,hx⟩:=List.mem_flatMap.1 hu
  exact h x u hx
theorem qgo {w:World} {b o n c i:Nat} {l:List α} {x:α} (hk:∀ a,(cells a).length=k) (h:Sl w k (some ⟨b,o,none⟩) n c (l.flatMap cells)) (hx:l[i]?=some x) {j:Nat} {u:Value} (hj:(cells x)[j]?=some u):w.cell? ⟨b,o+i*k+j,none⟩=some u:=by
  have hjk:j<k:=by rw [← hk x];exact (List.getElem?_eq_some_iff.1 hj).1
  have:=h.cell (j:=i*k+j) (u:=u) (by rw [qgj hk hx j hjk];exact hj)
  rwa [← Nat.add_assoc] at this
end
end Go
namespace Go
section
variable {α:Type} {cells:α→List Value} {k:Nat}
end
end Go
namespace Go
theorem qgs (w:World) (e:TypeId) (size:Nat) (B:Nat):∃ x,w=ext w x∧Own (ext w x) B e size none 0 0 []:=by
  obtain ⟨x,hx⟩:=ext_of (Bel.refl w)
  exact ⟨x,hx,Own.nil_ _ _ _ _⟩
end Go

namespace Go.Pel
open Go
structure Pt where
  id:Int
  a:Int
  b:Int
  deriving DecidableEq
def Pt.zero:Pt:=⟨0,0,0⟩
def Pt.cells (p:Pt):List Value:=[.int .i64 p.id,.int .i64 p.a,.int .i64 p.b]
def Pt.chk (p:Pt):Int:=qee p.id p.a p.b
structure Pt.Fits (p:Pt):Prop where
  id:-9223372036854775808≤p.id∧p.id≤9223372036854775807
  a:-9223372036854775808≤p.a∧p.a≤9223372036854775807
  b:-9223372036854775808≤p.b∧p.b≤9223372036854775807
def vp (l:List Pt):List Value:=l.flatMap Pt.cells
theorem qgt (p:Pt):p.cells.length=3:=rfl
theorem qgu (p:Pt):∀ u∈p.cells,u.oneCell'=true:=by
  intro u hu
  simp only [Pt.cells,List.mem_cons,List.not_mem_nil,or_false] at hu
  rcases hu with rfl | rfl | rfl<;>rfl
theorem qgv (l:List Pt):∀ u∈vp l,u.oneCell'=true:=qgn qgu l
theorem qgw (l:List Pt):(vp l).length=l.length*3:=qgi qgt l
theorem qgz {w:World} {b o n c i:Nat} {l:List Pt} {p:Pt} (h:Sl w 3 (some ⟨b,o,none⟩) n c (vp l)) (hx:l[i]?=some p) :
    w.cell? ⟨b,o+i*3,none⟩=some (.int .i64 p.id)∧w.cell? ⟨b,o+i*3+1,none⟩=some (.int .i64 p.a)∧w.cell? ⟨b,o+i*3+2,none⟩=some (.int .i64 p.b) :=
  ⟨qgo qgt h hx (j:=0) rfl,qgo qgt h hx (j:=1) rfl,qgo qgt h hx (j:=2) rfl⟩
def incB:List Pt→Bool
  | []=>true
  | [_]=>true
  | p :: q :: r=>decide (p.id<q.id)&&incB (q :: r)
theorem qh0 (l:List Pt):incB l=true ↔ ∀ (i:Nat) (p q:Pt),l[i]?=some p→l[i+1]?=some q→p.id<q.id:=by
  induction l with
  | nil=>simp [incB]
  | cons x l ih =>
    cases l with
    | nil=>simp [incB]
    | cons y r =>
      simp only [incB,Bool.and_eq_true,decide_eq_true_eq,ih]
      constructor
      · rintro ⟨h0, h⟩ i p q hp hq
        cases i with
        | zero=>simp at hp hq;rw [← hp,← hq];exact h0
        | succ i=>exact h i p q (by simpa using hp) (by simpa using hq)
      · intro h
        exact ⟨h 0 x y rfl rfl,fun i p q hp hq=>h (i+1) p q (by simpa using hp) (by simpa using hq)⟩
theorem qh1 {l:List Pt} (h:incB l=true) {i j:Nat} (hij:i<j) {p q:Pt} (hp:l[i]?=some p) (hq:l[j]?=some q):p.id<q.id:=by
  induction j generalizing q with
  | zero=>omega
  | succ j ih =>
    rcases Nat.lt_or_ge i j with hlt | hge
    · have hjl : j < l.length := by have := (List.getElem?_eq_some_iff.1 hq).1; omega
      obtain ⟨m,hm⟩:∃ m,l[j]?=some m:=⟨_,List.getElem?_eq_getElem hjl⟩
      have h1:=ih hlt hm
      have h2:=(qh0 l).1 h j m q hm hq
      omega
    · obtain rfl : i = j := by omega
      exact (qh0 l).1 h i p q hp hq
def qh2 (l:List Pt):Int:=if 64<l.length then 4 else if ∀ p∈l,p.chk=0 then (if incB l then 0 else 32) else 8
theorem qh3 {l:List Pt} (h:64<l.length):qh2 l=4:=if_pos h
theorem qh4 {l:List Pt} (h:l.length≤64) {p:Pt} (hp:p∈l) (hc:p.chk≠0):qh2 l=8:=by
  unfold qh2;rw [if_neg (by omega),if_neg];intro h';exact hc (h' p hp)
theorem qh5 {l:List Pt} (h:l.length≤64) (hc:∀ p∈l,p.chk=0) (hi:incB l=false):qh2 l=32:=by
  unfold qh2;rw [if_neg (by omega),if_pos hc,hi];rfl
theorem qh6 {l:List Pt} (h:l.length≤64) (hc:∀ p∈l,p.chk=0) (hi:incB l=true):qh2 l=0:=by
  unfold qh2;rw [if_neg (by omega),if_pos hc,hi];rfl
theorem qh7 {l:List Pt} (h:qh2 l=0):l.length≤64∧(∀ p∈l,p.chk=0)∧incB l=true:=by
  unfold qh2 at h
  split at h
  · omega
  · split at h
    · rename_i h1 h2
      refine ⟨by omega,h2,?_⟩
      split at h
      · assumption
      · omega
    · omega
theorem qh9 {p:Pt} (h:p.chk=0):0≤p.id∧p.id≤65535∧-1048576≤p.a∧p.a≤1048576∧-1048576≤p.b∧p.b≤1048576:=qei h
theorem qha (p:Pt):p.chk=0∨p.chk=8:=qeh _ _ _
def lowB (l:List Pt) (id:Int):Nat:=(l.takeWhile fun p=>decide (p.id<id)).length
theorem qhc {l:List Pt} {id:Int} {k:Nat} (hk:k≤l.length) (h1:∀ (i:Nat) (p:Pt),i<k→l[i]?=some p→p.id<id) (h2:∀ p,l[k]?=some p→id≤p.id):lowB l id=k:=by
  unfold lowB
  induction l generalizing k with
  | nil=>simp at hk;simp [hk]
  | cons x l ih =>
    cases k with
    | zero =>
      have:=h2 x rfl
      rw [List.takeWhile_cons_of_neg (by simp;omega)];rfl
    | succ k =>
      have:=h1 0 x (by omega) rfl
      rw [List.takeWhile_cons_of_pos (by simpa using this),List.length_cons,ih (by simpa using hk) (fun i p hi hp=>h1 (i+1) p (by omega) (by simpa using hp)) (fun p hp=>h2 p (by simpa using hp))]
theorem qhd {l:List Pt} {id:Int} {i:Nat} {p:Pt} (hi:i<lowB l id) (hp:l[i]?=some p):p.id<id:=by
  induction l generalizing i with
  | nil=>simp at hp
  | cons x l ih =>
    unfold lowB at hi
    by_cases hx:x.id<id
    · rw [List.takeWhile_cons_of_pos (by simpa using hx), List.length_cons] at hi
      cases i with
      | zero=>simp at hp;subst hp;exact hx
      | succ i=>exact ih (i:=i) (by unfold lowB;omega) (by simpa using hp)
    · rw [List.takeWhile_cons_of_neg (by simpa using hx)] at hi
      simp at hi
theorem qhe {l:List Pt} {id:Int} {p:Pt} (hp:l[lowB l id]?=some p):id≤p.id:=by
  unfold lowB at hp
  induction l with
  | nil=>simp at hp
  | cons x l ih =>
    by_cases hx:x.id<id
    · rw [List.takeWhile_cons_of_pos (by simpa using hx), List.length_cons] at hp
      exact ih (by simpa using hp)
    · rw [List.takeWhile_cons_of_neg (by simpa using hx)] at hp
      simp at hp
      subst hp;omega
def hasB (l:List Pt) (id:Int):Bool:=l.any fun p=>decide (p.id=id)
theorem qhf {l:List Pt} (h:incB l=true) (id:Int):hasB l id=(match l[lowB l id]? with | some p=>decide (p.id=id) | none=>false):=by
  cases hb:l[lowB l id]? with
  | none =>
    have hlen:l.length≤lowB l id:=by simpa using hb
    unfold hasB
    rw [List.any_eq_false]
    intro p hp
    obtain ⟨i,hi⟩:=List.getElem?_of_mem hp
    have:i<l.length:=(List.getElem?_eq_some_iff.1 hi).1
    have:=qhd (id:=id) (by omega) hi
    simp;omega
  | some q =>
    have hge:=qhe hb
    simp only
    by_cases hq:q.id=id
    · rw [decide_eq_true hq]
      unfold hasB
      rw [List.any_eq_true]
      exact ⟨q,List.mem_of_getElem? hb,by simpa using hq⟩
    · rw [decide_eq_false hq]
      unfold hasB
      rw [List.any_eq_false]
      intro p hp
      obtain ⟨i,hi⟩:=List.getElem?_of_mem hp
      rcases Nat.lt_trichotomy i (lowB l id) with hlt | rfl | hgt
      · have:=qhd hlt hi;simp;omega
      · rw [hb] at hi;obtain rfl:=Option.some.inj hi;simpa using hq
      · have:=qh1 h hgt hb hi;simp;omega
def atI (l:List Pt) (id:Int):Int:=if hasB l id then ((l.takeWhile fun p=>decide (p.id≠id)).length:Int) else -1
theorem qhh {l:List Pt} {id:Int} {k:Nat} {p:Pt} (h1:∀ (i:Nat) (p:Pt),i<k→l[i]?=some p→p.id≠id) (hk:l[k]?=some p) (hp:p.id=id):atI l id=k:=by
  have hb:hasB l id=true:=by
    unfold hasB;rw [List.any_eq_true];exact ⟨p,List.mem_of_getElem? hk,by simpa using hp⟩
  unfold atI;rw [hb,if_pos rfl]
  congr 1
  clear hb
  induction l generalizing k with
  | nil=>simp at hk
  | cons x l ih =>
    cases k with
    | zero =>
      simp at hk;subst hk
      rw [List.takeWhile_cons_of_neg (by simpa using hp)];rfl
    | succ k =>
      have:=h1 0 x (by omega) rfl
      rw [List.takeWhile_cons_of_pos (by simpa using this),List.length_cons,ih (k:=k) (fun i p hi hp=>h1 (i+1) p (by omega) (by simpa using hp)) (by simpa using hk)]
theorem qhj {l:List Pt} (h:incB l=true) {id:Int} (hb:hasB l id=true):atI l id=lowB l id∧∃ p,l[lowB l id]?=some p∧p.id=id:=by
  rw [qhf h] at hb
  cases hq:l[lowB l id]? with
  | none=>rw [hq] at hb;cases hb
  | some q =>
    rw [hq] at hb
    simp only [decide_eq_true_eq] at hb
    exact ⟨qhh (fun i p hi hp=>by have:=qhd (l:=l) (id:=id) hi hp;omega) hq hb,q,rfl,hb⟩
def qhk (l:List Pt) (id:Int):Pt×Int:=if qh2 l≠0 then (Pt.zero,qh2 l) else if hasB l id then (l.getD (lowB l id) Pt.zero,0) else (Pt.zero,6)
def vi (l:List Int):List Value:=l.map (Value.int .i64)
end Go.Pel
