/- Walks of the functions of fields, fractions and points. -/
import Derived.LoopN
import Derived.Scope
import Derived.Below
import Derived.Lib.Hide
import Derived.WalkKit
import Derived.WalkSpells
import Derived.WalkLawsBesides
import Derived.Deep.Quiet
import Derived.Deep.QuietTactic
import Derived.StillTail
import Derived.BigQuiet
import Derived.ScopeJumps
import Derived.Laws.AppendOwn
import Derived.Laws.AppendOwnNone
import Derived.ArgAppend
import Derived.Deep.AppendLies
import Derived.Laws.CopyRow
import Derived.Lib.SliceRun
import Derived.Lib.AppendZerosOnto
import Derived.Lib.AppendZeros
import Derived.Lib.Overlaps
import Derived.Deep.DeepAppendRoom
import Derived.Deep.RegionHeld3
import Derived.Deep.RegionLaw
import Derived.Deep.MidRow
import Derived.Deep.DeepCutAuto
import Derived.Deep.LoopGhost
import Derived.Laws.MakeOwn
import Derived.Test.YtpfhgnccpiildaaGreatGa
set_option linter.unusedSimpArgs false
set_option linter.unusedVariables false
namespace Go.Tx
open Go
structure St where
  tm:List (Nat×LV)
  ob:List Ob
def q6l:List (Nat×LV)→Mem→Mem
  | [],t=>t
  | p :: l,t=>q6l l (t.set p.1 (some p.2))
def q6m:List Ob→Nat→Tr Ob→Tr Ob
  | [],_,t=>t
  | ob :: l,i,t=>q6m l (i+1) (t.set i (some ob))
def q6n (l:List Ob):LH:=⟨q6m l 0 .lf,l.length,[]⟩
theorem q6o:∀ (l:List (Nat×LV)) (t:Mem) (n:Nat) (v:LV),(q6l l t).get n=some v→(n,v)∈l∨t.get n=some v
  | [],t,n,v,h=>.inr h
  | p :: l, t, n, v, h => by
    rcases q6o l _ n v h with h1 | h1
    · exact .inl (List.mem_cons_of_mem _ h1)
    · rw [Tr.get_set] at h1
      split at h1
      · rename_i he
        injection h1 with h1
        exact .inl (List.mem_cons.2 (.inl (by rw [he,← h1])))
      · exact .inr h1
theorem q6p:∀ (l:List Ob) (i:Nat) (t:Tr Ob) (b:Nat),(q6m l i t).get b=if i≤b∧b<i+l.length then l[b - i]? else t.get b
  | [],i,t,b=>by rw [q6m,if_neg];simp
  | ob :: l, i, t, b => by
    rw [q6m,q6p l (i+1),Tr.get_set]
    simp only [List.length_cons]
    by_cases h1:i+1≤b∧b<i+1+l.length
    · rw [if_pos h1,if_pos (by omega),show b - i=(b - (i+1))+1 by omega,List.getElem?_cons_succ]
    · rw [if_neg h1]
      by_cases h2:b=i
      · subst h2;rw [if_pos rfl,if_pos (by omega),Nat.sub_self];rfl
      · rw [if_neg h2,if_neg (by omega)]
theorem q6q (l:List Ob) (b:Nat):(q6n l).get b=l[b]?:=by
  show (q6m l 0 .lf).get b=_
  rw [q6p]
  split
  · rfl
  · rename_i h
    rw [Tr.get_lf,List.getElem?_eq_none (by omega)]
structure Fz0 where
  φ:Nat→Option Obj
  K:Nat→Obj→Prop
  D:List Deferred
abbrev noK (φ:Nat→Option Obj):Fz0:=⟨φ,fun _ _=>False,[]⟩
structure Fr (w0:World) (φ0:Fz0) (H:LH) (η:Emb) (w:World):Prop where
  size:w0.heap.size≤w.heap.size
  same:∀ k,k<w0.heap.size→w.heap[k]?=w0.heap[k]?
  lb:∀ k,LB H η k→w0.heap.size≤k
  fz0:∀ k ob,φ0.φ k=some ob→η.fz k=some ob
  fzn:∀ k ob,η.fz k=some ob→φ0.φ k=some ob∨w0.heap.size≤k
  os:w.os=w0.os
  tape:w.tape=w0.tape
  output:w.output=w0.output
  drawn:w0.drawn≤w.drawn
  kp:∀ k o,φ0.K k o→w.heap[k]?=some o∧¬ LB H η k∧η.fz k=none
theorem Fr.adv {w0:World} {φ0:Fz0} {M:Nat} {H H':LH} {η η':Emb} {w w':World} (h:Fr w0 φ0 H η w) (k:Adv M H η w H' η' w'):Fr w0 φ0 H' η' w' where
  size:=Nat.le_trans h.size k.size
  same j hj:=(k.same j (Nat.lt_of_lt_of_le hj h.size) fun hl=>by have:=h.lb j hl;omega).trans (h.same j hj)
  lb j hj:=(k.lb j hj).elim (h.lb j) fun h1=>Nat.le_trans h.size h1
  fz0 j ob hj:=k.le.fz j ob (h.fz0 j ob hj)
  fzn j ob hj:=(k.fzn j ob hj).elim (h.fzn j ob) fun h1=>.inr (h1.elim (h.lb j) fun h2=>Nat.le_trans h.size h2)
  os:=k.os.trans h.os
  tape:=k.tape.trans h.tape
  output:=k.output.trans h.output
  drawn:=Nat.le_trans h.drawn k.drawn
  kp j o hj:=by
    obtain ⟨h1,h2,h3⟩:=h.kp j o hj
    have hlt:j<w.heap.size:=(Array.getElem?_eq_some_iff.1 h1).1
    refine ⟨(k.same j hlt h2).trans h1,fun hl=>(k.lb j hl).elim h2 (fun h4=>by omega),?_⟩
    cases hf:η'.fz j with
    | none=>rfl
    | some ob => rcases k.fzn j ob hf with h4 | h4 | h4
                 · rw [h3] at h4;cases h4
                 · exact (h2 h4).elim
                 · omega
structure SS (w0:World) (φ0:Fz0) (N:Nat) (s:St) (a:Act) (w:World):Prop where
  emb:∃ η,(∀ M,HR M η (q6n s.ob) w)∧(∀ n l,(n,l)∈s.tm→∃ v,a.tmps[n]?=some v∧VR η l v)∧Fr w0 φ0 (q6n s.ob) η w
  size:N≤a.tmps.size
  defers:a.defers=φ0.D
inductive Kd where
  | any
  | own (τ:Row)
  | val (τ:Row)
  | box (ks:List Kd)
section
variable {D:List Deferred} {P:Program} {T:Tys} {C:Orc} {M N:Nat} {H:LH} {η:Emb} {w:World} {β:Type} {b:β}
def tcoe (kd:Kd) (l:LV) (H:LH) (k:LV→LH→Option β):Option β :=
  match kd,l with
  | .any,l=>k l H
  | .own τ,.nils=>k (.rs H.next) (H.alloc (.rows τ []))
  | .own _,.rs m=>k (.rs m) H
  | .val τ,.nils=>k (.fz τ []) H
  | .val _,.rs m=>match H.get m with | some (.rows σ xs)=>k (.fz σ xs) (H.put m none) | _=>none
  | .val _,.fz σ xs=>k (.fz σ xs) H
  | _,_=>none
theorem q6r {kd:Kd} {l:LV} {k:LV→LH→Option β} (hx:tcoe kd l H k=some b):∃ l' H',k l' H'=some b∧Logged H H'∧(l.cellB=true→l'.cellB=true)∧∀ M η w v,HR M η H w→H'.next≤M→VR η l v→∃ η',Adv M H η w H' η' w∧VR η' l' v:=by
  unfold tcoe at hx
  split at hx
  · exact ⟨_,_,hx,Logged.refl _,id,fun M η w v h hM hv=>⟨η,Adv.refl h,hv⟩⟩
  · rename_i τ
    refine ⟨_,_,hx,Logged.alloc _ _,fun _=>rfl,fun M η w v h hM hv=>?_⟩
    cases hv
    exact ⟨_,qy h hM τ none,.rs (Emb.put_hdr ..)⟩
  · exact ⟨_,_,hx,Logged.refl _,fun _=>rfl,fun M η w v h hM hv=>⟨η,Adv.refl h,hv⟩⟩
  · refine ⟨_, _, hx, Logged.refl _, fun _ => rfl, fun M η w v h hM hv => ?_⟩
    cases hv
    exact ⟨η,Adv.refl h,.fz ⟨none,0,rfl,Nat.le_refl _,fun _=>rfl,fun i x hx=>by simp at hx⟩⟩
  · split at hx
    · rename_i hg
      refine ⟨_,_,hx,Logged.put _ hg _,fun _=>rfl,fun M η w v h hM hv=>?_⟩
      cases hv with
      | rs hh=>exact q14 h hg hh
    · cases hx
  · exact ⟨_,_,hx,Logged.refl _,fun _=>rfl,fun M η w v h hM hv=>⟨η,Adv.refl h,hv⟩⟩
  · cases hx
def q6s:List Kd→List LV→LH→(List LV→LH→Option β)→Option β
  | [],cs,H,k=>k cs H
  | kd :: ks,c :: cs,H,k=>tcoe kd c H fun c H=>q6s ks cs H fun cs H=>k (c :: cs) H
  | _ :: _,[],_,_=>none
theorem q6t:∀ (ks:List Kd) {cs:List LV} {H:LH} {k:List LV→LH→Option β},q6s ks cs H k=some b→∃ ds H',k ds H'=some b∧Logged H H'∧ds.length=cs.length∧∀ M η w vs,HR M η H w→H'.next≤M→VRs η cs vs→∃ η',Adv M H η w H' η' w∧VRs η' ds vs
  | [],cs,H,k,hx=>⟨cs,H,hx,Logged.refl _,rfl,fun M η w vs h hM hv=>⟨η,Adv.refl h,hv⟩⟩
  | kd :: ks,[],H,k,hx=>by cases hx
  | kd :: ks, c :: cs, H, k, hx => by
    rw [q6s] at hx
    obtain ⟨c',H1,h1,h2,_,h3⟩:=q6r hx
    obtain ⟨ds,H2,g1,g2,g3,g4⟩:=q6t ks h1
    refine ⟨_,H2,g1,h2.trans g2,by simp [g3],fun M η w vs h hM hv=>?_⟩
    obtain ⟨v,vs,rfl,a1,a2⟩:=hv.uncons
    obtain ⟨η1,e1,e2⟩:=h3 M η w v h (Nat.le_trans g2.next hM) a1
    obtain ⟨η2,e3,e4⟩:=g4 M η1 w vs e1.hr hM (a2.mono e1.le)
    exact ⟨η2,e1.trans e3,VRs.cons (e2.mono e3.le) e4⟩
def q6u (kd:Kd) (l:LV) (H:LH) (k:LV→LH→Option β):Option β :=
  match kd,l with
  | .box ks, .ptr n 0 => match H.get n with
    | some (.cells cs) => q6s ks cs H fun ds H => match H.get n with
      | some (.cells _)=>k (.ptr n 0) (H.put n (some (.cells ds)))
      | _=>none
    | _=>none
  | kd,l=>tcoe kd l H k
theorem q6v {kd:Kd} {l:LV} {k:LV→LH→Option β} (hx:q6u kd l H k=some b):∃ l' H',k l' H'=some b∧Logged H H'∧∀ M η w v,HR M η H w→H'.next≤M→VR η l v→∃ η',Adv M H η w H' η' w∧VR η' l' v:=by
  unfold q6u at hx
  split at hx
  · rename_i ks n
    split at hx
    · rename_i cs hg
      obtain ⟨ds,H1,g1,g2,g3,g4⟩:=q6t ks hx
      split at g1
      · rename_i cs1 hg1
        refine ⟨_,_,g1,g2.trans (Logged.put _ hg1 _),fun M η w v h hM hv=>?_⟩
        cases hv with
        | ptr hL =>
          rename_i L
          have ha:=(h.live _ _ hg).at hL
          have hcut:cut cs 0 cs.length=some cs:=by unfold cut;rw [Nat.zero_add,Nat.ble_eq_true_of_le (Nat.le_refl _),List.drop_zero,List.take_length];rfl
          obtain ⟨vs,o1,o2⟩:=Lie.cut ha.cell hcut
          obtain ⟨η1,e1,e2⟩:=g4 M η w vs h hM o1
          have hL1:=e1.le.loc _ _ hL
          have ha1:=(e1.hr.live _ _ hg1).at hL1
          have hat:At η1 w ds L:=by
            refine ⟨ha.lt,by rw [g3];exact ha.fits,ha.there,fun j c hc=>?_⟩
            obtain ⟨v,f1,f2⟩:=e2.get hc
            exact ⟨v,by have:=o2 j v f1;rwa [Nat.add_zero] at this,f2⟩
          exact ⟨η1,e1.trans (q19 (o:=0) (vs:=[]) e1.hr hg1 hL1 hat (.inl ⟨_,_,rfl,rfl⟩)),.ptr hL1⟩
      · cases g1
    · cases hx
  · obtain ⟨l', H', h1, h2, _, h3⟩ := q6r hx
    exact ⟨l',H',h1,h2,h3⟩
def q6w:List (Nat×Kd)→Mem→LH→(List (Nat×LV)→LH→Option β)→Option β
  | [],_,H,k=>k [] H
  | p :: ps, t, H, k => match t.get p.1 with
    | some l=>q6u p.2 l H fun l H=>q6w ps t H fun ls H=>k ((p.1,l) :: ls) H
    | none=>none
theorem q6x:∀ (ps:List (Nat×Kd)) {t:Mem} {H:LH} {k:List (Nat×LV)→LH→Option β},q6w ps t H k=some b→∃ ls H',k ls H'=some b∧Logged H H'∧∀ M η w (a:Act),HR M η H w→H'.next≤M→TR η t a→∃ η',Adv M H η w H' η' w∧∀ n l,(n,l)∈ls→∃ v,a.tmps[n]?=some v∧VR η' l v
  | [],t,H,k,hx=>⟨[],H,hx,Logged.refl _,fun M η w a h hM ht=>⟨η,Adv.refl h,fun n l hl=>by simp at hl⟩⟩
  | p :: ps, t, H, k, hx => by
    rw [q6w] at hx
    split at hx
    · rename_i l hl
      obtain ⟨l',H1,h1,h2,h3⟩:=q6v hx
      obtain ⟨ls,H2,g1,g2,g3⟩:=q6x ps h1
      refine ⟨_,H2,g1,h2.trans g2,fun M η w a h hM ht=>?_⟩
      obtain ⟨v,a1,a2⟩:=ht _ _ hl
      obtain ⟨η1,e1,e2⟩:=h3 M η w v h (Nat.le_trans g2.next hM) a2
      obtain ⟨η2,e3,e4⟩:=g3 M η1 w a e1.hr hM (ht.mono e1.le)
      refine ⟨η2,e1.trans e3,fun n x hx=>?_⟩
      rcases List.mem_cons.1 hx with hx | hx
      · injection hx with hn hx2;rw [hn,hx2];exact ⟨v,a1,e2.mono e3.le⟩
      · exact e4 n x hx
    · cases hx
def idx:List Nat→Nat→Nat→Option Nat
  | [],_,_=>none
  | x :: l,i,n=>bif Nat.beq x n then some i else idx l (i+1) n
theorem q6y:∀ (l:List Nat) (i n j:Nat),idx l i n=some j→i≤j∧l[j - i]?=some n
  | [],_,_,_,h=>by cases h
  | x :: l, i, n, j, h => by
    rw [idx,Bool.cond_eq_ite] at h
    split at h
    · rename_i he
      rw [Nat.beq_eq] at he
      injection h with h;subst h
      exact ⟨Nat.le_refl _,by rw [Nat.sub_self,List.getElem?_cons_zero,he]⟩
    · obtain ⟨h1, h2⟩ := q6y l (i + 1) n j h
      exact ⟨by omega,by rw [show j - i=(j - (i+1))+1 by omega,List.getElem?_cons_succ];exact h2⟩
mutual
def ren (ρ:List Nat):LV→Option LV
  | .ptr n o=>match idx ρ 0 n with | some j=>some (.ptr j o) | none=>none
  | .rp n i sz j=>match idx ρ 0 n with | some m=>some (.rp m i sz j) | none=>none
  | .rs n=>match idx ρ 0 n with | some j=>some (.rs j) | none=>none
  | .fn f cs=>match rens ρ cs with | some cs=>some (.fn f cs) | none=>none
  | .agg cs=>match rens ρ cs with | some cs=>some (.agg cs) | none=>none
  | .tup cs=>match rens ρ cs with | some cs=>some (.tup cs) | none=>none
  | .undef=>some .undef
  | .int k n=>some (.int k n)
  | .bool v=>some (.bool v)
  | .nilp=>some .nilp
  | .str s=>some (.str s)
  | .nils=>some .nils
  | .fz τ xs=>some (.fz τ xs)
  | .fp τ x j=>some (.fp τ x j)
def rens (ρ:List Nat):List LV→Option (List LV)
  | []=>some []
  | c :: cs => match ren ρ c with
    | some c=>match rens ρ cs with | some cs=>some (c :: cs) | none=>none
    | none=>none
end
def Emb.sub (η:Emb) (ρ:List Nat):Emb:=⟨fun j=>(ρ[j]?).bind η.loc,fun j=>(ρ[j]?).bind η.hdr,η.fz⟩
theorem q6z {ρ:List Nat} {n j:Nat} (h:idx ρ 0 n=some j):(η.sub ρ).loc j=η.loc n∧(η.sub ρ).hdr j=η.hdr n:=by
  have:=(q6y ρ 0 n j h).2
  rw [Nat.sub_zero] at this
  unfold Emb.sub
  simp only [this,Option.bind_some,and_self]
mutual
theorem q70 (ρ:List Nat):∀ {l l':LV} {v:Value},ren ρ l=some l'→VR η l v→VR (η.sub ρ) l' v
  | .ptr n o, l', v, h, hv => by
    rw [ren] at h
    split at h
    · rename_i j hj; injection h with h; subst h
      cases hv with
      | ptr hL=>exact .ptr (by rw [(q6z hj).1];exact hL)
    · cases h
  | .rp n i sz c, l', v, h, hv => by
    rw [ren] at h
    split at h
    · rename_i j hj; injection h with h; subst h
      cases hv with
      | rp hL hh hi=>exact .rp (by rw [(q6z hj).1];exact hL) (by rw [(q6z hj).2];exact hh) hi
    · cases h
  | .rs n, l', v, h, hv => by
    rw [ren] at h
    split at h
    · rename_i j hj; injection h with h; subst h
      cases hv with
      | rs hh=>exact .rs (by rw [(q6z hj).2];exact hh)
    · cases h
  | .fn f cs, l', v, h, hv => by
    rw [ren] at h
    split at h
    · rename_i ds hd; injection h with h; subst h
      cases hv with
      | fn hl hh=>have:=rens_ok ρ hd ⟨hl,hh⟩;exact .fn this.1 this.2
    · cases h
  | .agg cs, l', v, h, hv => by
    rw [ren] at h
    split at h
    · rename_i ds hd; injection h with h; subst h
      cases hv with
      | agg hl hh=>have:=rens_ok ρ hd ⟨hl,hh⟩;exact .agg this.1 this.2
    · cases h
  | .tup cs, l', v, h, hv => by
    rw [ren] at h
    split at h
    · rename_i ds hd; injection h with h; subst h
      cases hv with
      | tup hl hh=>have:=rens_ok ρ hd ⟨hl,hh⟩;exact .tup this.1 this.2
    · cases h
  | .undef,l',v,h,hv=>by rw [ren] at h;injection h with h;subst h;exact .undef _
  | .int k n,l',v,h,hv=>by rw [ren] at h;injection h with h;subst h;cases hv;exact .int _ _
  | .bool k,l',v,h,hv=>by rw [ren] at h;injection h with h;subst h;cases hv;exact .bool _
  | .nilp,l',v,h,hv=>by rw [ren] at h;injection h with h;subst h;cases hv;exact .nilp
  | .str s,l',v,h,hv=>by rw [ren] at h;injection h with h;subst h;cases hv;exact .str _
  | .nils,l',v,h,hv=>by rw [ren] at h;injection h with h;subst h;cases hv;exact .nils
  | .fz τ xs,l',v,h,hv=>by rw [ren] at h;injection h with h;subst h;cases hv with | fz hf=>exact .fz hf
  | .fp τ x j,l',v,h,hv=>by rw [ren] at h;injection h with h;subst h;cases hv with | fp hf=>exact .fp hf
theorem rens_ok (ρ:List Nat):∀ {cs ds:List LV} {vs:List Value},rens ρ cs=some ds→VRs η cs vs→VRs (η.sub ρ) ds vs
  | [], ds, vs, h, hv => by
    rw [rens] at h;injection h with h;subst h
    have:vs=[]:=by have:=hv.1;simpa using this.symm
    subst this;exact VRs.nil
  | c :: cs, ds, vs, h, hv => by
    obtain ⟨v,vs,rfl,h1,h2⟩:=hv.uncons
    rw [rens] at h
    split at h
    · rename_i d hd
      split at h
      · rename_i ds' hds
        injection h with h;subst h
        exact VRs.cons (q70 ρ hd h1) (rens_ok ρ hds h2)
      · cases h
    · cases h
end
theorem q71 {η':Emb} (hfz:∀ k ob,η.fz k=some ob→η'.fz k=some ob):∀ (τ:Row) (x:den τ) {c:LV},c∈split τ x→∀ {v:Value},VR η c v→VR η' c v
  | .nil,_,c,hc,_,_=>by simp [split] at hc
  | .int k r, x, c, hc, v, hv => by
    rcases List.mem_cons.1 hc with rfl | hc
    · cases hv;exact .int _ _
    · exact q71 hfz r x.2 hc hv
  | .bool r, x, c, hc, v, hv => by
    rcases List.mem_cons.1 hc with rfl | hc
    · cases hv;exact .bool _
    · exact q71 hfz r x.2 hc hv
  | .sl e r, x, c, hc, v, hv => by
    rcases List.mem_cons.1 hc with rfl | hc
    · cases hv with | fz hf=>exact .fz (hf.mono (RowF.mono hfz e))
    · exact q71 hfz r x.2 hc hv
theorem q72 (τ:Row) {c:LV}:∀ xs:List (den τ),c∈flat τ xs→∃ x,c∈split τ x
  | [],h=>by simp [flat] at h
  | x :: xs, h => by
    rw [flat,List.mem_append] at h
    exact h.elim (fun h=>⟨x,h⟩) (q72 τ xs)
theorem q73 {η':Emb} (hfz:∀ k ob,η.fz k=some ob→η'.fz k=some ob) {τ:Row} {xs:List (den τ)} {L:Loc} (h:At η w (flat τ xs) L):At η' w (flat τ xs) L :=
  ⟨h.lt,h.fits,h.there,fun j c hc=>by
    obtain ⟨v,h1,h2⟩:=h.cell j c hc
    obtain ⟨x,hx⟩:=q72 τ xs (List.mem_of_getElem? hc)
    exact ⟨v,h1,q71 hfz τ x hx h2⟩⟩
def q74 (ρ:List Nat):Ob→Option Ob
  | .cells cs=>match rens ρ cs with | some cs=>some (.cells cs) | none=>none
  | .rows τ xs=>some (.rows τ xs)
theorem q75 (ρ:List Nat):∀ {cs ds:List LV},rens ρ cs=some ds→ds.length=cs.length
  | [],ds,h=>by rw [rens] at h;injection h with h;subst h;rfl
  | c :: cs, ds, h => by
    rw [rens] at h
    split at h
    · split at h
      · rename_i ds' hds;injection h with h;subst h;simp [q75 ρ hds]
      · cases h
    · cases h
theorem q76 {ρ:List Nat} {n j:Nat} (hj:ρ[j]?=some n) {ob ob':Ob} (h:q74 ρ ob=some ob') (hl:Lv η w n ob):Lv (η.sub ρ) w j ob':=by
  have e1:(η.sub ρ).loc j=η.loc n:=by unfold Emb.sub;simp only [hj,Option.bind_some]
  have e2:(η.sub ρ).hdr j=η.hdr n:=by unfold Emb.sub;simp only [hj,Option.bind_some]
  cases hl with
  | cells hL ha =>
    rw [q74] at h
    rename_i cs L
    split at h
    · rename_i ds hds
      injection h with h;subst h
      refine .cells (by rw [e1];exact hL) ⟨ha.lt,by rw [q75 ρ hds];exact ha.fits,ha.there,fun i c hc=>?_⟩
      have hcut:cut cs 0 cs.length=some cs:=by unfold cut;rw [Nat.zero_add,Nat.ble_eq_true_of_le (Nat.le_refl _),List.drop_zero,List.take_length];rfl
      obtain ⟨vs,o1,o2⟩:=Lie.cut ha.cell hcut
      obtain ⟨v,f1,f2⟩:=(rens_ok ρ hds o1).get hc
      exact ⟨v,by have:=o2 i v f1;rwa [Nat.add_zero] at this,f2⟩
    · cases h
  | rows hL ha hh hc hr =>
    rw [q74] at h;injection h with h;subst h
    exact .rows (by rw [e1];exact hL) (q73 (η:=η) (η':=η.sub ρ) (fun _ _ h=>h) ha) (by rw [e2];exact hh) hc hr
  | none hL hh =>
    rw [q74] at h;injection h with h;subst h
    exact .none (by rw [e1];exact hL) (by rw [e2];exact hh)
def q77 (H:LH) (ρ:List Nat):List Nat→Option (List Ob)
  | []=>some []
  | n :: l => match H.get n with
    | some ob => match q74 ρ ob with
      | some ob=>match q77 H ρ l with | some obs=>some (ob :: obs) | none=>none
      | none=>none
    | none=>none
theorem q78 {ρ:List Nat}:∀ (l:List Nat) {obs:List Ob},q77 H ρ l=some obs→obs.length=l.length∧∀ (j:Nat) ob',obs[j]?=some ob'→∃ n ob,l[j]?=some n∧H.get n=some ob∧q74 ρ ob=some ob'
  | [],obs,h=>by rw [q77] at h;injection h with h;subst h;exact ⟨rfl,fun j ob' hj=>by simp at hj⟩
  | n :: l, obs, h => by
    rw [q77] at h
    split at h
    · rename_i ob hob
      split at h
      · rename_i ob1 h1
        split at h
        · rename_i obs1 h2
          injection h with h;subst h
          obtain ⟨e1,e2⟩:=q78 l h2
          refine ⟨by simp [e1],fun j ob' hj=>?_⟩
          cases j with
          | zero=>simp only [List.getElem?_cons_zero,Option.some.injEq] at hj;subst hj;exact ⟨n,ob,rfl,hob,h1⟩
          | succ j=>simp only [List.getElem?_cons_succ] at hj ⊢;exact e2 j ob' hj
        · cases h
      · cases h
    · cases h
def q79 (ρ:List Nat):List (Nat×LV)→Option (List (Nat×LV))
  | []=>some []
  | p :: l => match ren ρ p.2 with
    | some v=>match q79 ρ l with | some l=>some ((p.1,v) :: l) | none=>none
    | none=>none
theorem q7a {ρ:List Nat}:∀ (l:List (Nat×LV)) {l':List (Nat×LV)},q79 ρ l=some l'→∀ n x',(n,x')∈l'→∃ x,(n,x)∈l∧ren ρ x=some x'
  | [],l',h,n,x',hx=>by rw [q79] at h;injection h with h;subst h;simp at hx
  | p :: l, l', h, n, x', hx => by
    rw [q79] at h
    split at h
    · rename_i v hv
      split at h
      · rename_i l1 hl
        injection h with h;subst h
        rcases List.mem_cons.1 hx with hx | hx
        · injection hx with h1 h2;subst h1 h2;exact ⟨p.2,List.mem_cons_self ..,hv⟩
        · obtain ⟨x, h1, h2⟩ := q7a l hl n x' hx
          exact ⟨x,List.mem_cons_of_mem _ h1,h2⟩
      · cases h
    · cases h
def q7b:List Nat→Bool
  | []=>true
  | x :: l=>!memB l x&&q7b l
theorem q7c:∀ {l:List Nat},q7b l=true→∀ (i j n:Nat),l[i]?=some n→l[j]?=some n→i=j
  | [],_,i,j,n,h,_=>by simp at h
  | x :: l, hn, i, j, n, h1, h2 => by
    rw [q7b,Bool.and_eq_true] at hn
    have hx:∀ k,l[k]?=some x→False:=fun k hk=>by
      have:=q53.2 (List.mem_of_getElem? hk)
      rw [this] at hn;simp at hn
    cases i with
    | zero =>
      cases j with
      | zero=>rfl
      | succ j=>simp only [List.getElem?_cons_zero,Option.some.injEq,List.getElem?_cons_succ] at h1 h2;subst h1;exact (hx _ h2).elim
    | succ i =>
      cases j with
      | zero=>simp only [List.getElem?_cons_zero,Option.some.injEq,List.getElem?_cons_succ] at h1 h2;subst h2;exact (hx _ h1).elim
      | succ j=>simp only [List.getElem?_cons_succ] at h1 h2;rw [q7c hn.2 i j n h1 h2]
theorem q7d {ρ:List Nat} (hn:q7b ρ=true) {obs:List Ob} (ho:q77 H ρ ρ=some obs) (h:HR M η H w):∀ M,HR M (η.sub ρ) (q6n obs) w:=by
  obtain ⟨e1,e2⟩:=q78 ρ ho
  have hlb:∀ k,LB (q6n obs) (η.sub ρ) k→LB H η k:=fun k ⟨j,ob',L,hj,hL,hk⟩=>by
    rw [q6q] at hj
    obtain ⟨n,ob,g1,g2,g3⟩:=e2 j ob' hj
    exact ⟨n,ob,L,g2,by unfold Emb.sub at hL;simpa only [g1,Option.bind_some] using hL,hk⟩
  intro M
  refine ⟨fun j hj _=>?_,fun j ob' hj=>?_,fun j ob' hj=>?_,fun j1 j2 o1 o2 L1 L2 h1 h2 l1 l2 he=>?_,h.fz,fun k hk=>h.sep k (hlb k hk),fun j v hv=>?_⟩
  · have hj' : obs.length ≤ j := hj
    have:ρ[j]?=none:=List.getElem?_eq_none (by omega)
    unfold Emb.sub;simp only [this];exact ⟨rfl,rfl⟩
  · rw [q6q] at hj
    exact (List.getElem?_eq_some_iff.1 hj).1
  · rw [q6q] at hj
    obtain ⟨n,ob,g1,g2,g3⟩:=e2 j ob' hj
    exact q76 g1 g3 (h.live n ob g2)
  · rw [q6q] at h1 h2
    obtain ⟨n1,ob1,g1,g2,_⟩:=e2 j1 o1 h1
    obtain ⟨n2,ob2,k1,k2,_⟩:=e2 j2 o2 h2
    unfold Emb.sub at l1 l2
    simp only [g1,k1,Option.bind_some] at l1 l2
    have:=h.inj _ _ _ _ _ _ g2 k2 l1 l2 he
    subst this
    exact q7c hn j1 j2 n1 g1 k1
  · unfold Emb.sub at hv
    simp only at hv
    cases hn2:ρ[j]? with
    | none=>rw [hn2] at hv;cases hv
    | some n=>rw [hn2] at hv;exact h.ok n v hv
theorem q7e {w0:World} {φ0:Fz0} {ρ:List Nat} {obs:List Ob} (ho:q77 H ρ ρ=some obs) (h:Fr w0 φ0 H η w):Fr w0 φ0 (q6n obs) (η.sub ρ) w:=by
  obtain ⟨e1,e2⟩:=q78 ρ ho
  have hlb:∀ k,LB (q6n obs) (η.sub ρ) k→LB H η k:=fun k ⟨j,ob',L,hj,hL,hk⟩=>by
    rw [q6q] at hj
    obtain ⟨n,ob,g1,g2,g3⟩:=e2 j ob' hj
    exact ⟨n,ob,L,g2,by unfold Emb.sub at hL;simpa only [g1,Option.bind_some] using hL,hk⟩
  exact ⟨h.size,h.same,fun k hk=>h.lb k (hlb k hk),h.fz0,h.fzn,h.os,h.tape,h.output,h.drawn,fun k o hk=>⟨(h.kp k o hk).1,fun hl=>(h.kp k o hk).2.1 (hlb k hl),(h.kp k o hk).2.2⟩⟩
def tnum (ls:List (Nat×LV)) (H:LH) (k:St→Option β):Option β :=
  match q5b H 1000 (ls.flatMap fun p=>q59 p.2) [] with
  | ρ => bif q7b ρ then (match q79 ρ ls, q77 H ρ ρ with
    | some tm,some obs=>k ⟨tm,obs⟩
    | _,_=>none) else none
theorem q7f {ls:List (Nat×LV)} {k:St→Option β} (hx:tnum ls H k=some b):∃ s,k s=some b∧∀ w0 (φ0:Fz0) M η w (a:Act) N,HR M η H w→(∀ n l,(n,l)∈ls→∃ v,a.tmps[n]?=some v∧VR η l v)→Fr w0 φ0 H η w→N≤a.tmps.size→a.defers=φ0.D→SS w0 φ0 N s a w:=by
  unfold tnum at hx
  generalize q5b H 1000 (ls.flatMap fun p=>q59 p.2) []=ρ at hx
  simp only at hx
  rw [Bool.cond_eq_ite] at hx
  split at hx
  · rename_i hn
    split at hx
    · rename_i tm obs h1 h2
      refine ⟨_,hx,fun w0 φ0 M η w a N h ht hf hN hd=>⟨⟨η.sub ρ,q7d hn h2 h,fun n l' hl=>?_,q7e h2 hf⟩,hN,hd⟩⟩
      obtain ⟨l,g1,g2⟩:=q7a ls h1 n l' hl
      obtain ⟨v,e1,e2⟩:=ht n l g1
      exact ⟨v,e1,q70 ρ g2 e2⟩
    · cases hx
  · cases hx
def treg (T:Tys) (C:Orc) (N:Nat) (ops:Array Oper) (draw:Bool) (keep:List (Nat×Kd)) (s:St) (k:St→Option β):Option β :=
  match draw with
  | true=>q5w T C N ops (q6l s.tm .lf) (q6n s.ob) fun t H=>q6w keep t H fun ls H=>tnum ls H k
  | false=>tops T C N ops ops.toList (q6l s.tm .lf) (q6n s.ob) fun t H=>q6w keep t H fun ls H=>tnum ls H k
theorem SS.sr {w0:World} {φ0:Fz0} {s:St} {a:Act} (h:SS w0 φ0 N s a w):∃ η,(∀ M,SR M N φ0.D η (q6l s.tm .lf) (q6n s.ob) a w)∧Fr w0 φ0 (q6n s.ob) η w:=by
  obtain ⟨η,h1,h2,h3⟩:=h.emb
  refine ⟨η,fun M=>⟨h1 M,fun n l hl=>?_,h.size,h.defers⟩,h3⟩
  rcases q6o s.tm .lf n l hl with h4 | h4
  · exact h2 n l h4
  · rw [Tr.get_lf] at h4;cases h4
def RW (P:Program) (ops:Array Oper) (draw:Bool) (Q:Exit→Act→World→Prop) (a:Act) (w:World):Prop :=
  match draw with
  | true=>wpAny P .any ops Q ops.size (Array.replicate ops.size false) a { w with drawn:=w.drawn+1 }
  | false=>wpList P ops Q ops.toList a w
theorem q7g (hm:P.follows .mixedOrders=true) (hT:TysOK P T) (hC:OrcOK P C) {ops:Array Oper} {draw:Bool} {keep:List (Nat×Kd)} {s:St} {k:St→Option β} (hx:treg T C N ops draw keep s k=some b):∃ s',k s'=some b ∧
    ∀ w0 (φ0:Fz0) a w Q,φ0.D=D→SS w0 φ0 N s a w→(∀ a' w',SS w0 φ0 N s' a' w'→Q .normal a' w')→RW P ops draw Q a w:=by
  have fin:∀ {t':Mem} {H':LH},(q6w keep t' H' fun ls H=>tnum ls H k)=some b→∃ s' H2,k s'=some b∧Logged H' H2∧∀ w0 (φ0:Fz0) M η a w,φ0.D=D→H2.next≤M→SR M N D η t' H' a w→Fr w0 φ0 H' η w→SS w0 φ0 N s' a w:=by
    intro t' H' hx
    obtain ⟨ls,H2,h1,h2,h3⟩:=q6x keep hx
    obtain ⟨s',g1,g2⟩:=q7f h1
    refine ⟨s',H2,g1,h2,fun w0 φ0 M η a w hD hM hs hf=>?_⟩
    obtain ⟨η1,e1,e2⟩:=h3 M η w a hs.hr hM hs.tr
    exact g2 w0 φ0 M η1 w a N e1.hr e2 (hf.adv e1) hs.size (hs.defers.trans hD.symm)
  unfold treg at hx
  cases draw with
  | true =>
    simp only at hx
    obtain ⟨t',H',h1,h2,h3⟩:=q6k hm hT hC hx
    obtain ⟨s',H2,g1,g2,g3⟩:=fin h1
    refine ⟨s',g1,fun w0 φ0 a w Q hD hs hQ=>?_⟩
    obtain ⟨η,hsr,hf⟩:=hs.sr
    rw [hD] at hsr
    exact h3 H2.next η a w Q g2.next (hsr _) fun a' w' η' hs' hadv=>hQ a' w' (g3 w0 φ0 H2.next η' a' w' hD (Nat.le_refl _) hs' (hf.adv hadv))
  | false =>
    simp only at hx
    obtain ⟨t',H',h1,h2,h3⟩:=q52 hT hC _ hx
    obtain ⟨s',H2,g1,g2,g3⟩:=fin h1
    refine ⟨s',g1,fun w0 φ0 a w Q hD hs hQ=>?_⟩
    obtain ⟨η,hsr,hf⟩:=hs.sr
    rw [hD] at hsr
    exact h3 H2.next η a w Q g2.next (hsr _) fun a' w' η' hs' hadv=>hQ a' w' (g3 w0 φ0 H2.next η' a' w' hD (Nat.le_refl _) hs' (hf.adv hadv))
theorem q7h (hm:P.follows .mixedOrders=true) (hT:TysOK P T) (hC:OrcOK P C) {ops:Array Oper} {draw:Bool} {keep:List (Nat×Kd)} {s:St} {k:St→Option β} (hx:treg T C N ops draw keep s k=some b):∃ s',k s'=some b ∧
    ∀ w0 (φ0:Fz0) rid a w Q,φ0.D=D→SS w0 φ0 N s a w→(∀ a' w',SS w0 φ0 N s' a' w'→Q .normal a' w')→(Code.region rid ops draw).wp P Q a w:=by
  obtain ⟨s',h1,h2⟩:=q7g (D:=D) hm hT hC hx
  refine ⟨s',h1,fun w0 φ0 rid a w Q hD hs hQ=>?_⟩
  have h3:=h2 w0 φ0 a w Q hD hs hQ
  cases draw with
  | true=>exact wp_region_any hm h3
  | false=>exact wp_region_list h3
end
end Go.Tx

namespace Go.Tx
open Go
inductive Dt (Y:Type):Type 1 where
  | ret (y:Y)
  | ite (c:Bool) (t e:Dt Y)
  | bnd {R:Type} (o:Option R) (f:R→Dt Y)
  | fail
def Dt.eval {Y β:Type}:Dt Y→(Y→Option β)→Option β
  | .ret y,k=>k y
  | .ite c t e,k=>bif c then t.eval k else e.eval k
  | .bnd o f, k => match o with
    | some x=>(f x).eval k
    | none=>none
  | .fail,_=>none
theorem Dt.one {Y β:Type}:∀ (t:Dt Y) {K:Y→Option β} {r:β},t.eval K=some r→∃ y,K y=some r∧∀ {γ:Type} (k:Y→Option γ),t.eval k=k y
  | .ret y,K,r,h=>⟨y,h,fun _=>rfl⟩
  | .ite c t e, K, r, h => by
    cases c with
    | true=>exact Dt.one t h
    | false=>exact Dt.one e h
  | .bnd o f, K, r, h => by
    cases o with
    | some x=>exact Dt.one (f x) h
    | none=>cases h
  | .fail,K,r,h=>by cases h
section
variable {P:Program} {T:Tys} {C:Orc} {M N:Nat} {w0:World} {φ0:Fz0} {Q:Exit→Act→World→Prop}
def Run (P:Program) (w0:World) (φ0:Fz0) (N:Nat) (c:Code) (s:St) (Q:Exit→Act→World→Prop):Prop:=∀ a w,SS w0 φ0 N s a w→c.wp P Q a w
def Cn (w0:World) (φ0:Fz0) (N:Nat) (s:St) (Q:Exit→Act→World→Prop) (e:Exit):Prop:=∀ a w,SS w0 φ0 N s a w→Q e a w
theorem q7i {c:Code} {s:St} (h:Run P w0 φ0 N c s Q):Cn w0 φ0 N s (Exit.then (c.wp P Q) Q) .normal:=h
theorem q7j {s:St} {K:Act→World→Prop} {i:Nat} (h:Cn w0 φ0 N s Q (.exit i)):Cn w0 φ0 N s (Exit.then K Q) (.exit i):=h
theorem q7k {s:St} {K:Act→World→Prop} (h:Cn w0 φ0 N s Q .ret):Cn w0 φ0 N s (Exit.then K Q) .ret:=h
theorem q7l {s:St} {i:Nat} (h:Cn w0 φ0 N s Q .normal):Cn w0 φ0 N s (Exit.inBlock i Q) .normal:=h
theorem q7m {s:St} {i:Nat} (h:Cn w0 φ0 N s Q .ret):Cn w0 φ0 N s (Exit.inBlock i Q) .ret:=h
theorem q7n {s:St} {i:Nat} (h:Cn w0 φ0 N s Q .normal):Cn w0 φ0 N s (Exit.inBlock i Q) (.exit i):=fun a w hs=>by
  show (if i=i then Q .normal a w else Q (.exit i) a w)
  rw [if_pos rfl];exact h a w hs
theorem q7o {s:St} {i j:Nat} (hij:Nat.beq j i=false) (h:Cn w0 φ0 N s Q (.exit j)):Cn w0 φ0 N s (Exit.inBlock i Q) (.exit j):=fun a w hs=>by
  show (if j=i then Q .normal a w else Q (.exit j) a w)
  rw [if_neg (Nat.ne_of_beq_eq_false hij)];exact h a w hs
theorem q7s {s:St} (h:Cn w0 φ0 N s Q .normal):Run P w0 φ0 N .skip s Q:=fun a w hs=>wp_skip (h a w hs)
theorem q7u {s:St} {i:Nat} (h:Cn w0 φ0 N s Q (.exit i)):Run P w0 φ0 N (.exit i) s Q:=fun a w hs=>wp_exit (h a w hs)
theorem q7v {s:St} (h:Cn w0 φ0 N s Q .ret):Run P w0 φ0 N .ret s Q:=fun a w hs=>wp_ret (h a w hs)
theorem q7w {x y:Code} {s:St} (h:Run P w0 φ0 N x s (Exit.then (y.wp P Q) Q)):Run P w0 φ0 N (.seq x y) s Q:=fun a w hs=>wp_seq (h a w hs)
theorem q7x {c:Code} {s:St} {i:Nat} (h:Run P w0 φ0 N c s (Exit.inBlock i Q)):Run P w0 φ0 N (.block i c) s Q:=fun a w hs=>wp_block (h a w hs)
theorem q7z {R X:Type} {r:R} {F:X→Option R} {S:X→St} {x y:Code} {s:St} (hj:∀ z,F z=some r→Run P w0 φ0 N y (S z) Q) (h:(∀ z,F z=some r→Cn w0 φ0 N (S z) (Exit.then (y.wp P Q) Q) .normal)→Run P w0 φ0 N x s (Exit.then (y.wp P Q) Q)):Run P w0 φ0 N (.seq x y) s Q:=q7w (h hj)
def stev (s:St) (c:Operand):LV:=xev (q6l s.tm .lf) c
theorem q80 {R:Type} {r:R} {v:Bool} {A B:Option R} {c:Operand} {x y:Code} {s:St} (hc:stev s c=.bool v) (h:(bif v then A else B)=some r) (ht:A=some r→Run P w0 φ0 N x s Q) (hf:B=some r→Run P w0 φ0 N y s Q):Run P w0 φ0 N (.cond c x y) s Q:=fun a w hs=>by
  obtain ⟨η,h1,_⟩:=hs.sr
  have hv:=q4l (h1 0).tr c
  rw [show xev (q6l s.tm .lf) c=.bool v from hc] at hv
  have hcv:a.eval c=.bool v:=by
    generalize a.eval c=u at hv
    cases hv;rfl
  refine wp_cond hcv ?_
  cases v with
  | true=>exact ht h a w hs
  | false=>exact hf h a w hs
theorem q81 (hm:P.follows .mixedOrders=true) (hT:TysOK P T) (hC:OrcOK P C) {R Y:Type} {r:R} {rid:Nat} {ops:Array Oper} {draw:Bool} {keep:List (Nat×Kd)} {s:St} {t:Dt Y} {S:Y→St} {K:Y→Option R}
    (hreg:treg T C N ops draw keep s some=t.eval fun y=>some (S y)) (h:t.eval K=some r) (hk:∀ y,K y=some r→Cn w0 φ0 N (S y) Q .normal):Run P w0 φ0 N (.region rid ops draw) s Q:=by
  obtain ⟨y,h1,h2⟩:=t.one h
  rw [h2] at hreg
  obtain ⟨s',h3,h4⟩:=q7h (D:=φ0.D) hm hT hC hreg
  injection h3 with h3;subst h3
  exact fun a w hs=>h4 w0 φ0 rid a w Q rfl hs (hk y h1)
abbrev i6 (x:Int):LV:=.int .i64 x
abbrev u6 (x:Int):LV:=.int .u64 x
def an (l:List Nat):List (Nat×Kd):=l.map fun n=>(n,.any)
abbrev rg {A V Y:Type} (T:Tys) (O:A→Orc) (N:Nat) (ops:Array Oper) (draw:Bool) (keep:List (Nat×Kd)) (S:V→St) (r:A→V→Dt Y) (S':Y→St) (c:A) (v:V):Prop:=treg T (O c) N ops draw keep (S v) some=(r c v).eval fun y=>some (S' y)
theorem rgI {A V Y:Type} {T:Tys} {O:A→Orc} {N:Nat} {ops:Array Oper} {draw:Bool} {keep:List (Nat×Kd)} {S:V→St} {r:A→V→Dt Y} {S':Y→St} {c:A} {v:V} (h:treg T (O c) N ops draw keep (S v) some=(r c v).eval fun y=>some (S' y)):rg T O N ops draw keep S r S' c v:=h
theorem q3f2 (hm:P.follows .mixedOrders=true) (hT:TysOK P T) (hC:OrcOK P C) {R Y:Type} {r:R} {rid:Nat} {ops:Array Oper} {draw:Bool} {keep:List (Nat×Kd)} {s:St} {t:Dt Y} {S:Y→St} {K:Y→Option R} {c:Code} (hreg:treg T C N ops draw keep s some=t.eval fun y=>some (S y)) (h:t.eval K=some r) (hk:∀ y,K y=some r→Run P w0 φ0 N c (S y) Q):Run P w0 φ0 N (.seq (.region rid ops draw) c) s Q:=q7w (q81 hm hT hC hreg h fun y hy=>q7i (hk y hy))
theorem q82 {R X:Type} {r:R} {G:Nat→X→Option R} {S:X→St} {c:Code} (h0:∀ x,G 0 x=none)
    (hs:∀ n x,G (n+1) x=some r→∀ K:Act→World→Prop,(∀ y,G n y=some r→Cn w0 φ0 N (S y) (Exit.then K Q) .normal)→Run P w0 φ0 N c (S x) (Exit.then K Q)) (n:Nat) (x:X) (h:G n x=some r):Run P w0 φ0 N (.loop c) (S x) Q:=by
  have key:∀ n x,G n x=some r→∀ a w,SS w0 φ0 N (S x) a w→Code.rounds P c Q n a w:=by
    intro n
    induction n with
    | zero=>intro x hx;rw [h0] at hx;cases hx
    | succ n ih =>
      intro x hx a w hss
      rw [rounds_succ]
      exact hs n x hx _ (fun y hy=>ih y hy) a w hss
  exact fun a w hss=>wp_loop_rounds n (key n x h a w hss)
def tres (T:Tys) (s:St):List ResultVar→Option (List LV)
  | []=>some []
  | .tmp d :: rs=>match tres T s rs with | some ls=>some (stev s (.tmp d) :: ls) | none=>none
  | .cell d ty :: rs => match q2l T ty (stev s (.tmp d)) (q6n s.ob) (fun l _ => some l) with
    | some l=>match tres T s rs with | some ls=>some (l :: ls) | none=>none
    | none=>none
def xone:List LV→LV
  | [l]=>l
  | ls=>.tup ls
def tfin (T:Tys) (rs:List ResultVar) (s:St):Option (LV×List Ob) :=
  match tres T s rs with
  | some ls => match q5b (q6n s.ob) 1000 (ls.flatMap q59) [] with
    | ρ => bif q7b ρ then (match rens ρ ls, q77 (q6n s.ob) ρ ρ with
      | some ls,some obs=>some (xone ls,obs)
      | _,_=>none) else none
  | none=>none
def q83 (tmps:Array Value):ResultVar→Sem Value
  | .tmp t=>pure (tmps.getD t undef)
  | .cell a t=>do loadVar t (← asAddr (tmps.getD a undef))
theorem q84 (hT:TysOK P T) {D:List Deferred} {s:St} {η:Emb} {a:Act} {w:World} (hs:SR M N D η (q6l s.tm .lf) (q6n s.ob) a w):∀ (rs:List ResultVar) {ls:List LV},tres T s rs=some ls→∃ vs,(rs.mapM (q83 a.tmps)).run P w=.ok vs w∧VRs η ls vs
  | [],ls,hx=>by rw [tres] at hx;injection hx with hx;subst hx;exact ⟨[],by simp,VRs.nil⟩
  | .tmp d :: rs, ls, hx => by
    rw [tres] at hx
    split at hx
    · rename_i ls' hls
      injection hx with hx;subst hx
      obtain ⟨vs,h1,h2⟩:=q84 hT hs rs hls
      exact ⟨a.tmps.getD d undef :: vs,by simp [List.mapM_cons,q83,h1],VRs.cons (q4l hs.tr (.tmp d)) h2⟩
    · cases hx
  | .cell d ty :: rs, ls, hx => by
    rw [tres] at hx
    split at hx
    · rename_i l hl
      split at hx
      · rename_i ls' hls
        injection hx with hx;subst hx
        obtain ⟨vs,h1,h2⟩:=q84 hT hs rs hls
        obtain ⟨u,g1,g2⟩:=q2m hT hl
        injection g1 with g1;subst g1
        obtain ⟨ad,v',e1,e2,e3⟩:=g2 M η w _ hs.hr (q4l hs.tr (.tmp d))
        refine ⟨v' :: vs,?_,VRs.cons e3 h2⟩
        have e1':a.tmps.getD d undef=.pointer (some ad):=e1
        simp only [List.mapM_cons,q83,e1',asAddr]
        simp [e2,h1]
      · cases hx
    · cases hx
def q85 (τ:Row) (agg:Bool) (x:den τ):LV :=
  match agg with
  | true=>.agg (split τ x)
  | false => match split τ x with
    | [l]=>l
    | _=>.undef
inductive Pk where
  | row (τ:Row) (agg:Bool)
  | fn (f:FuncId) (τs:List Row)
  | ref (τ:Row)
def denR:List Row→Type
  | []=>Unit
  | τ :: r=>den τ×denR r
def Pk.den:Pk→Type
  | .row τ _=>Tx.den τ
  | .fn _ τs=>denR τs
  | .ref τ=>Tx.den τ
def q86:(τs:List Row)→denR τs→List LV
  | [],_=>[]
  | τ :: r,x=>.fp τ x.1 0 :: q86 r x.2
def Pk.arg:(p:Pk)→p.den→LV
  | .row τ agg,x=>q85 τ agg x
  | .fn f τs,x=>.fn f (q86 τs x)
  | .ref τ,x=>.fp τ x 0
def dens:List Pk→Type
  | []=>Unit
  | p :: r=>p.den×dens r
def q87:(τs:List Pk)→dens τs→List LV
  | [],_=>[]
  | p :: r,x=>p.arg x.1 :: q87 r x.2
def nums:Nat→List LV→List (Nat×LV)
  | _,[]=>[]
  | i,l :: ls=>(i,l) :: nums (i+1) ls
structure Spec where
  g:FuncId
  τs:List Pk
  R:Type
  F:dens τs→Option R
  enc:R→LV×List Ob
def Emb.fro (φ:Nat→Option Obj):Emb:=⟨fun _=>none,fun _=>none,φ⟩
structure COK (P:Program) (S:Spec):Prop where
  ok:∀ x r,S.F x=some r→∀ (w:World) (φ:Nat→Option Obj) (vs:List Value),(∀ k ob,φ k=some ob→w.heap[k]?=some ob)→VRs (Emb.fro φ) (q87 S.τs x) vs →
    Calls P S.g vs.toArray w fun e w'=>∃ v' η',e=.returned v'∧VR η' (S.enc r).1 v'∧(∀ M,HR M η' (q6n (S.enc r).2) w')∧Fr w (noK φ) (q6n (S.enc r).2) η' w'
  body : ∃ fn c, P.funcs[S.g]? = some fn ∧ fn.body = some c ∧ ¬ fn.name = "runtime.NumGoroutine"
theorem q88:∀ (ls:List LV) (i n:Nat) (l:LV),(n,l)∈nums i ls→i≤n∧ls[n - i]?=some l
  | [],i,n,l,h=>by simp [nums] at h
  | x :: ls, i, n, l, h => by
    rcases List.mem_cons.1 h with h | h
    · injection h with h1 h2;subst h1 h2;exact ⟨Nat.le_refl _,by simp⟩
    · obtain ⟨h1, h2⟩ := q88 ls (i + 1) n l h
      exact ⟨by omega,by rw [show n - i=(n - (i+1))+1 by omega,List.getElem?_cons_succ];exact h2⟩
theorem q89 {w:World} {φ:Nat→Option Obj} (hφ:∀ k ob,φ k=some ob→w.heap[k]?=some ob) (M:Nat):HR M (Emb.fro φ) (q6n []) w :=
  ⟨fun _ _ _=>⟨rfl,rfl⟩,(fun b cs h=>by rw [q6q] at h;simp at h),(fun b cs h=>by rw [q6q] at h;simp at h),(fun b1 b2 c1 c2 L1 L2 h=>by rw [q6q] at h;simp at h),hφ,(fun k ⟨b,ob,L,h,_⟩=>by rw [q6q] at h;simp at h),fun b v h=>by cases h⟩
theorem q8a (w:World) (φ:Nat→Option Obj):Fr w (noK φ) (q6n []) (Emb.fro φ) w :=
  ⟨Nat.le_refl _,fun _ _=>rfl,(fun k ⟨b,ob,L,h,_⟩=>by rw [q6q] at h;simp at h),fun _ _ h=>h,fun _ _ h=>.inl h,rfl,rfl,rfl,Nat.le_refl _,fun _ _ h=>h.elim⟩
def End (T:Tys) (w0:World) (φ0:Fz0) (N:Nat) (rs:List ResultVar) (out:LV×List Ob) (Q:Exit→Act→World→Prop):Prop :=
  ∀ s,tfin T rs s=some out→Cn w0 φ0 N s Q .normal∧Cn w0 φ0 N s Q .ret
theorem q8b (hT:TysOK P T) {S:Spec} {r:S.R} {fn:Func} {s:St} {w:World} {ψ:Fz0} (hs:tfin T fn.results.toList s=some (S.enc r)):∀ a w',SS w ψ fn.ntmps s a w'→a.defers=ψ.D∧∃ v,(results fn a.tmps).run P w'=.ok v w'∧∃ v' η',(Ending.returned v)=.returned v'∧VR η' (S.enc r).1 v'∧(∀ M,HR M η' (q6n (S.enc r).2) w')∧Fr w ψ (q6n (S.enc r).2) η' w':=by
  intro a w' hss
  obtain ⟨η,hsr,hfr⟩:=hss.sr
  refine ⟨hss.defers,?_⟩
  unfold tfin at hs
  split at hs
  · rename_i ls hls
    generalize q5b (q6n s.ob) 1000 (ls.flatMap q59) []=ρ at hs
    simp only at hs
    rw [Bool.cond_eq_ite] at hs
    split at hs
    · rename_i hn
      split at hs
      · rename_i ls' obs h1 h2
        injection hs with hs
        obtain ⟨us,r1,r2⟩:=q84 hT (hsr 0) fn.results.toList hls
        have hlen2:=r2.1
        have hrun:(results fn a.tmps).run P w'=.ok (if h:us.length=1 then us[0] else .tuple us.toArray) w':=by
          have e5:results fn a.tmps=(do let vs ← fn.results.mapM (q83 a.tmps);pure (if h:vs.size=1 then vs[0] else .tuple vs)):=by
            unfold results
            refine congrArg (fun f:ResultVar→Sem Value=>(do let vs ← fn.results.mapM f;pure (if h:vs.size=1 then vs[0] else .tuple vs):Sem Value)) ?_
            funext x;cases x<;>rfl
          rw [e5,Array.mapM_eq_mapM_toList]
          simp [r1]
        have r3:=rens_ok ρ h1 r2
        have hlen3:=r3.1
        have hval:VR (η.sub ρ) (xone ls') (if h:us.length=1 then us[0] else .tuple us.toArray):=by
          cases ls' with
          | nil =>
            have:us=[]:=by simpa using hlen3.symm
            subst this;exact .tup r3.1 r3.2
          | cons l ls' =>
            cases ls' with
            | nil =>
              obtain ⟨u,rfl,hu⟩:=vrs1 r3
              exact hu
            | cons l2 ls' =>
              have:¬ us.length=1:=by simp at hlen3;omega
              rw [dif_neg this];exact .tup r3.1 r3.2
        have o1:xone ls'=(S.enc r).1:=congrArg Prod.fst hs
        have o2:obs=(S.enc r).2:=congrArg Prod.snd hs
        rw [o1] at hval
        rw [o2] at h2
        exact ⟨_,hrun,_,_,rfl,hval,q7d hn h2 (hsr 0).hr,q7e h2 hfr⟩
      · cases hs
    · cases hs
  · cases hs
theorem q8c (hT : TysOK P T) {S : Spec} {fn : Func} {c : Code} (hfn : P.funcs[S.g]? = some fn) (hc : fn.body = some c) (hname : ¬ fn.name = "runtime.NumGoroutine")
    (h:∀ x r,S.F x=some r→∀ w0 φ0 Q,End T w0 φ0 fn.ntmps fn.results.toList (S.enc r) Q→Run P w0 φ0 fn.ntmps c ⟨nums 0 (q87 S.τs x),[]⟩ Q):COK P S:=by
  refine ⟨fun x r hx w φ vs hφ hv=>?_,fn,c,hfn,hc,hname⟩
  refine calls_of_wp hfn hc ?_
  refine h x r hx w (noK φ) _ (fun s hs=>?_) _ w ⟨⟨Emb.fro φ,q89 hφ,fun n l hl=>?_,q8a w φ⟩,?_,rfl⟩
  · have fin : ∀ a w', SS w (noK φ) fn.ntmps s a w' → _ := q8b (S := S) (r := r) hT hs
    exact ⟨fun a w' hss=>fin a w' hss,fun a w' hss=>fin a w' hss⟩
  · obtain ⟨_, h2⟩ := q88 _ 0 n l hl
    rw [Nat.sub_zero] at h2
    obtain ⟨v,e1,e2⟩:=hv.get h2
    refine ⟨v,?_,e2⟩
    have hlt:=(List.getElem?_eq_some_iff.1 e1).1
    rw [Array.getElem?_append_left (by simpa using hlt)]
    simpa using e1
  · simp;omega
end
end Go.Tx

namespace Go
open RowKit
structure Bel (w w':World):Prop where
  toBelow:Below w.heap.size w w'
  mono:w.drawn≤w'.drawn
theorem Bel.os {w w':World} (h:Bel w w'):w'.os=w.os:=h.toBelow.os
theorem Bel.tape {w w':World} (h:Bel w w'):w'.tape=w.tape:=h.toBelow.tape
theorem Bel.output {w w':World} (h:Bel w w'):w'.output=w.output:=h.toBelow.output
theorem Bel.size {w w':World} (h:Bel w w'):w.heap.size≤w'.heap.size:=h.toBelow.size
theorem Bel.block {w w':World} (h:Bel w w') (k:Nat) (hk:k<w.heap.size):w'.heap[k]?=w.heap[k]?:=h.toBelow.block k hk
structure Beyond where
  objs:Array Obj
  drawn:Nat
instance:Inhabited Beyond:=⟨⟨#[],0⟩⟩
def Beyond.and (x y:Beyond):Beyond:=⟨x.objs++y.objs,x.drawn+y.drawn⟩
def Beyond.drewN (x:Beyond) (n:Nat):Beyond:=⟨x.objs,x.drawn+n⟩
def ext (w:World) (x:Beyond):World:={ w with heap:=w.heap++x.objs,drawn:=w.drawn+x.drawn }
def Beyond.len (x:Beyond):Nat:=x.objs.size

theorem Bel.refl (w:World):Bel w w:=⟨Below.refl _ _,Nat.le_refl _⟩
theorem Bel.trans {a b c:World} (h:Bel a b) (k:Bel b c):Bel a c:=⟨Below.trans h.toBelow (Below.mono k.toBelow h.size),Nat.le_trans h.mono k.mono⟩
@[simp,go_sem] theorem q8d (w:World) (x:Beyond):(ext w x).heap.size=w.heap.size+x.len:=by simp [ext,Beyond.len]
theorem q8e (x y:Beyond):(x.and y).len=x.len+y.len:=by simp [Beyond.and,Beyond.len]
@[simp,go_sem] theorem q8f (m:Nat) (x y:Beyond):m+(x.and y).len=m+x.len+y.len:=by rw [q8e,Nat.add_assoc]
@[simp,go_sem] theorem q8g (x:Beyond) (n:Nat):(x.drewN n).len=x.len:=rfl
theorem q8h (w:World) (x:Beyond):Bel w (ext w x) :=
  ⟨⟨rfl,rfl,rfl,by simp,fun k hk=>by simp only [ext];rw [Array.getElem?_append_left hk]⟩,by simp [ext]⟩
theorem ext_of {w w':World} (h:Bel w w'):∃ x,w'=ext w x:=by
  refine ⟨⟨(w'.heap.toList.drop w.heap.size).toArray,w'.drawn - w.drawn⟩,?_⟩
  have hdr:w.drawn+(w'.drawn - w.drawn)=w'.drawn:=by have:=h.mono;omega
  have hh:w'.heap=w.heap++(w'.heap.toList.drop w.heap.size).toArray:=by
    apply Array.ext_getElem?
    intro k
    rcases Nat.lt_or_ge k w.heap.size with hk | hk
    · rw [Array.getElem?_append_left hk,h.block k hk]
    · rw [Array.getElem?_append_right hk]
      simp only [List.getElem?_toArray,List.getElem?_drop]
      rw [show w.heap.size+(k - w.heap.size)=k from by omega];simp
  cases w' with | mk hp tp dr o ou =>
  cases w with | mk hp2 tp2 dr2 o2 ou2 =>
  have h1:=h.os;have h2:=h.tape;have h3:=h.output
  simp only at h1 h2 h3 hh hdr
  subst h1 h2 h3
  simp only [ext]
  rw [← hh,hdr]
theorem q8i {w w':World} (h:∃ x,w'=ext w x):Bel w w':=by obtain ⟨x,rfl⟩:=h;exact q8h w x
theorem Bel.alloc {a w:World} (h:Bel a w) (o:Obj):Bel a (w.alloc o):=⟨Below.alloc h.toBelow h.size o,h.mono⟩
theorem Bel.drew {a w:World} (h:Bel a w):Bel a w.drew:=⟨Below.drew h.toBelow,Nat.le_trans h.mono (Nat.le_succ _)⟩
theorem Bel.drewN {a w:World} (h:Bel a w) (n:Nat):Bel a (w.drewN n):=⟨⟨h.os,h.tape,h.output,h.size,h.block⟩,Nat.le_trans h.mono (Nat.le_add_right _ _)⟩
theorem Bel.ext {a w:World} (h:Bel a w) (x:Beyond):Bel a (ext w x):=h.trans (q8h w x)
theorem Bel.setCell {a w:World} (h:Bel a w) {p:Addr} (hp:a.heap.size≤p.block) (u:Value):Bel a (w.setCell p u):=⟨Below.setCell h.toBelow hp u,h.mono⟩
theorem Bel.grown {a w w':World} {row:Option Nat} (h:Bel a w) (hg:w.grownBy w' row) (hr:∀ k,row=some k→a.heap.size≤k) (hm:w.drawn≤w'.drawn):Bel a w':=⟨Below.grown h.toBelow hg h.size hr,Nat.le_trans h.mono hm⟩
theorem Bel.le {a w:World} (h:Bel a w):a.heap.size≤w.heap.size:=h.size

@[go_sem] theorem q8j (n m k1:Nat) (h:n<m):n<m+k1:=by omega
@[go_sem] theorem q8k (n m k1:Nat) (h:n≤m):n≤m+k1:=by omega
@[go_sem] theorem q8l (n m k1:Nat) (h:n<m):n≤m+k1:=by omega
@[go_sem] theorem q8m (n m k1:Nat) (h:n<m):(n=m+k1)=False:=eq_false (by omega)
@[go_sem] theorem q8n (n m k1:Nat) (h:n<m):(m+k1=n)=False:=eq_false (by omega)
@[go_sem] theorem q8o (n m k1 k2:Nat) (h:n<m):n<m+k1+k2:=by omega
@[go_sem] theorem q8p (n m k1 k2:Nat) (h:n≤m):n≤m+k1+k2:=by omega
@[go_sem] theorem q8q (n m k1 k2:Nat) (h:n<m):n≤m+k1+k2:=by omega
@[go_sem] theorem q8r (n m k1 k2:Nat) (h:n<m):(n=m+k1+k2)=False:=eq_false (by omega)
@[go_sem] theorem q8s (n m k1 k2:Nat) (h:n<m):(m+k1+k2=n)=False:=eq_false (by omega)
@[go_sem] theorem q8t (n m k1 k2 k3:Nat) (h:n<m):n<m+k1+k2+k3:=by omega
@[go_sem] theorem q8u (n m k1 k2 k3:Nat) (h:n≤m):n≤m+k1+k2+k3:=by omega
@[go_sem] theorem q8v (n m k1 k2 k3:Nat) (h:n<m):n≤m+k1+k2+k3:=by omega
@[go_sem] theorem q8w (n m k1 k2 k3:Nat) (h:n<m):(n=m+k1+k2+k3)=False:=eq_false (by omega)
@[go_sem] theorem q8x (n m k1 k2 k3:Nat) (h:n<m):(m+k1+k2+k3=n)=False:=eq_false (by omega)
@[go_sem] theorem q8y (n m k1 k2 k3 k4:Nat) (h:n<m):n<m+k1+k2+k3+k4:=by omega
@[go_sem] theorem q8z (n m k1 k2 k3 k4:Nat) (h:n≤m):n≤m+k1+k2+k3+k4:=by omega
@[go_sem] theorem q90 (n m k1 k2 k3 k4:Nat) (h:n<m):n≤m+k1+k2+k3+k4:=by omega
@[go_sem] theorem q91 (n m k1 k2 k3 k4:Nat) (h:n<m):(n=m+k1+k2+k3+k4)=False:=eq_false (by omega)
@[go_sem] theorem q92 (n m k1 k2 k3 k4:Nat) (h:n<m):(m+k1+k2+k3+k4=n)=False:=eq_false (by omega)
@[go_sem] theorem q93 (n m k1 k2 k3 k4 k5:Nat) (h:n<m):n<m+k1+k2+k3+k4+k5:=by omega
@[go_sem] theorem q94 (n m k1 k2 k3 k4 k5:Nat) (h:n≤m):n≤m+k1+k2+k3+k4+k5:=by omega
@[go_sem] theorem q95 (n m k1 k2 k3 k4 k5:Nat) (h:n<m):n≤m+k1+k2+k3+k4+k5:=by omega
@[go_sem] theorem q96 (n m k1 k2 k3 k4 k5:Nat) (h:n<m):(n=m+k1+k2+k3+k4+k5)=False:=eq_false (by omega)
@[go_sem] theorem q97 (n m k1 k2 k3 k4 k5:Nat) (h:n<m):(m+k1+k2+k3+k4+k5=n)=False:=eq_false (by omega)
@[go_sem] theorem q98 (n m k1 k2 k3 k4 k5 k6:Nat) (h:n<m):n<m+k1+k2+k3+k4+k5+k6:=by omega
@[go_sem] theorem q99 (n m k1 k2 k3 k4 k5 k6:Nat) (h:n≤m):n≤m+k1+k2+k3+k4+k5+k6:=by omega
@[go_sem] theorem q9a (n m k1 k2 k3 k4 k5 k6:Nat) (h:n<m):n≤m+k1+k2+k3+k4+k5+k6:=by omega
@[go_sem] theorem q9b (n m k1 k2 k3 k4 k5 k6:Nat) (h:n<m):(n=m+k1+k2+k3+k4+k5+k6)=False:=eq_false (by omega)
@[go_sem] theorem q9c (n m k1 k2 k3 k4 k5 k6:Nat) (h:n<m):(m+k1+k2+k3+k4+k5+k6=n)=False:=eq_false (by omega)
@[go_sem] theorem q9d (n m k1 k2 k3 k4 k5 k6 k7:Nat) (h:n<m):n<m+k1+k2+k3+k4+k5+k6+k7:=by omega
@[go_sem] theorem q9e (n m k1 k2 k3 k4 k5 k6 k7:Nat) (h:n≤m):n≤m+k1+k2+k3+k4+k5+k6+k7:=by omega
@[go_sem] theorem q9f (n m k1 k2 k3 k4 k5 k6 k7:Nat) (h:n<m):n≤m+k1+k2+k3+k4+k5+k6+k7:=by omega
@[go_sem] theorem q9g (n m k1 k2 k3 k4 k5 k6 k7:Nat) (h:n<m):(n=m+k1+k2+k3+k4+k5+k6+k7)=False:=eq_false (by omega)
@[go_sem] theorem q9h (n m k1 k2 k3 k4 k5 k6 k7:Nat) (h:n<m):(m+k1+k2+k3+k4+k5+k6+k7=n)=False:=eq_false (by omega)
@[go_sem] theorem q9i (n m k1 k2 k3 k4 k5 k6 k7 k8:Nat) (h:n<m):n<m+k1+k2+k3+k4+k5+k6+k7+k8:=by omega
@[go_sem] theorem q9j (n m k1 k2 k3 k4 k5 k6 k7 k8:Nat) (h:n≤m):n≤m+k1+k2+k3+k4+k5+k6+k7+k8:=by omega
@[go_sem] theorem q9k (n m k1 k2 k3 k4 k5 k6 k7 k8:Nat) (h:n<m):n≤m+k1+k2+k3+k4+k5+k6+k7+k8:=by omega
@[go_sem] theorem q9l (n m k1 k2 k3 k4 k5 k6 k7 k8:Nat) (h:n<m):(n=m+k1+k2+k3+k4+k5+k6+k7+k8)=False:=eq_false (by omega)
@[go_sem] theorem q9m (n m k1 k2 k3 k4 k5 k6 k7 k8:Nat) (h:n<m):(m+k1+k2+k3+k4+k5+k6+k7+k8=n)=False:=eq_false (by omega)
@[go_sem] theorem q9n (n m k1 k2 k3 k4 k5 k6 k7 k8 k9:Nat) (h:n<m):n<m+k1+k2+k3+k4+k5+k6+k7+k8+k9:=by omega
@[go_sem] theorem q9o (n m k1 k2 k3 k4 k5 k6 k7 k8 k9:Nat) (h:n≤m):n≤m+k1+k2+k3+k4+k5+k6+k7+k8+k9:=by omega
@[go_sem] theorem q9p (n m k1 k2 k3 k4 k5 k6 k7 k8 k9:Nat) (h:n<m):n≤m+k1+k2+k3+k4+k5+k6+k7+k8+k9:=by omega
@[go_sem] theorem q9q (n m k1 k2 k3 k4 k5 k6 k7 k8 k9:Nat) (h:n<m):(n=m+k1+k2+k3+k4+k5+k6+k7+k8+k9)=False:=eq_false (by omega)
@[go_sem] theorem q9r (n m k1 k2 k3 k4 k5 k6 k7 k8 k9:Nat) (h:n<m):(m+k1+k2+k3+k4+k5+k6+k7+k8+k9=n)=False:=eq_false (by omega)
@[go_sem] theorem q9s (n m k1 k2 k3 k4 k5 k6 k7 k8 k9 k10:Nat) (h:n<m):n<m+k1+k2+k3+k4+k5+k6+k7+k8+k9+k10:=by omega
@[go_sem] theorem q9t (n m k1 k2 k3 k4 k5 k6 k7 k8 k9 k10:Nat) (h:n≤m):n≤m+k1+k2+k3+k4+k5+k6+k7+k8+k9+k10:=by omega
@[go_sem] theorem q9u (n m k1 k2 k3 k4 k5 k6 k7 k8 k9 k10:Nat) (h:n<m):n≤m+k1+k2+k3+k4+k5+k6+k7+k8+k9+k10:=by omega
@[go_sem] theorem q9v (n m k1 k2 k3 k4 k5 k6 k7 k8 k9 k10:Nat) (h:n<m):(n=m+k1+k2+k3+k4+k5+k6+k7+k8+k9+k10)=False:=eq_false (by omega)
@[go_sem] theorem q9w (n m k1 k2 k3 k4 k5 k6 k7 k8 k9 k10:Nat) (h:n<m):(m+k1+k2+k3+k4+k5+k6+k7+k8+k9+k10=n)=False:=eq_false (by omega)
@[go_sem] theorem q9x (n m k1 k2 k3 k4 k5 k6 k7 k8 k9 k10 k11:Nat) (h:n<m):n<m+k1+k2+k3+k4+k5+k6+k7+k8+k9+k10+k11:=by omega
@[go_sem] theorem q9y (n m k1 k2 k3 k4 k5 k6 k7 k8 k9 k10 k11:Nat) (h:n≤m):n≤m+k1+k2+k3+k4+k5+k6+k7+k8+k9+k10+k11:=by omega
@[go_sem] theorem q9z (n m k1 k2 k3 k4 k5 k6 k7 k8 k9 k10 k11:Nat) (h:n<m):n≤m+k1+k2+k3+k4+k5+k6+k7+k8+k9+k10+k11:=by omega
@[go_sem] theorem qa0 (n m k1 k2 k3 k4 k5 k6 k7 k8 k9 k10 k11:Nat) (h:n<m):(n=m+k1+k2+k3+k4+k5+k6+k7+k8+k9+k10+k11)=False:=eq_false (by omega)
@[go_sem] theorem qa1 (n m k1 k2 k3 k4 k5 k6 k7 k8 k9 k10 k11:Nat) (h:n<m):(m+k1+k2+k3+k4+k5+k6+k7+k8+k9+k10+k11=n)=False:=eq_false (by omega)
@[go_sem] theorem qa2 (n m k1 k2 k3 k4 k5 k6 k7 k8 k9 k10 k11 k12:Nat) (h:n<m):n<m+k1+k2+k3+k4+k5+k6+k7+k8+k9+k10+k11+k12:=by omega
@[go_sem] theorem qa3 (n m k1 k2 k3 k4 k5 k6 k7 k8 k9 k10 k11 k12:Nat) (h:n≤m):n≤m+k1+k2+k3+k4+k5+k6+k7+k8+k9+k10+k11+k12:=by omega
@[go_sem] theorem qa4 (n m k1 k2 k3 k4 k5 k6 k7 k8 k9 k10 k11 k12:Nat) (h:n<m):n≤m+k1+k2+k3+k4+k5+k6+k7+k8+k9+k10+k11+k12:=by omega
@[go_sem] theorem qa5 (n m k1 k2 k3 k4 k5 k6 k7 k8 k9 k10 k11 k12:Nat) (h:n<m):(n=m+k1+k2+k3+k4+k5+k6+k7+k8+k9+k10+k11+k12)=False:=eq_false (by omega)
@[go_sem] theorem qa6 (n m k1 k2 k3 k4 k5 k6 k7 k8 k9 k10 k11 k12:Nat) (h:n<m):(m+k1+k2+k3+k4+k5+k6+k7+k8+k9+k10+k11+k12=n)=False:=eq_false (by omega)
@[go_sem] theorem qa7 (n m k1 k2 k3 k4 k5 k6 k7 k8 k9 k10 k11 k12 k13:Nat) (h:n<m):n<m+k1+k2+k3+k4+k5+k6+k7+k8+k9+k10+k11+k12+k13:=by omega
@[go_sem] theorem qa8 (n m k1 k2 k3 k4 k5 k6 k7 k8 k9 k10 k11 k12 k13:Nat) (h:n≤m):n≤m+k1+k2+k3+k4+k5+k6+k7+k8+k9+k10+k11+k12+k13:=by omega
@[go_sem] theorem qa9 (n m k1 k2 k3 k4 k5 k6 k7 k8 k9 k10 k11 k12 k13:Nat) (h:n<m):n≤m+k1+k2+k3+k4+k5+k6+k7+k8+k9+k10+k11+k12+k13:=by omega
@[go_sem] theorem qaa (n m k1 k2 k3 k4 k5 k6 k7 k8 k9 k10 k11 k12 k13:Nat) (h:n<m):(n=m+k1+k2+k3+k4+k5+k6+k7+k8+k9+k10+k11+k12+k13)=False:=eq_false (by omega)
@[go_sem] theorem qab (n m k1 k2 k3 k4 k5 k6 k7 k8 k9 k10 k11 k12 k13:Nat) (h:n<m):(m+k1+k2+k3+k4+k5+k6+k7+k8+k9+k10+k11+k12+k13=n)=False:=eq_false (by omega)
@[go_sem] theorem qac (n m k1 k2 k3 k4 k5 k6 k7 k8 k9 k10 k11 k12 k13 k14:Nat) (h:n<m):n<m+k1+k2+k3+k4+k5+k6+k7+k8+k9+k10+k11+k12+k13+k14:=by omega
@[go_sem] theorem qad (n m k1 k2 k3 k4 k5 k6 k7 k8 k9 k10 k11 k12 k13 k14:Nat) (h:n≤m):n≤m+k1+k2+k3+k4+k5+k6+k7+k8+k9+k10+k11+k12+k13+k14:=by omega
@[go_sem] theorem qae (n m k1 k2 k3 k4 k5 k6 k7 k8 k9 k10 k11 k12 k13 k14:Nat) (h:n<m):n≤m+k1+k2+k3+k4+k5+k6+k7+k8+k9+k10+k11+k12+k13+k14:=by omega
@[go_sem] theorem qaf (n m k1 k2 k3 k4 k5 k6 k7 k8 k9 k10 k11 k12 k13 k14:Nat) (h:n<m):(n=m+k1+k2+k3+k4+k5+k6+k7+k8+k9+k10+k11+k12+k13+k14)=False:=eq_false (by omega)
@[go_sem] theorem qag (n m k1 k2 k3 k4 k5 k6 k7 k8 k9 k10 k11 k12 k13 k14:Nat) (h:n<m):(m+k1+k2+k3+k4+k5+k6+k7+k8+k9+k10+k11+k12+k13+k14=n)=False:=eq_false (by omega)
@[go_sem] theorem qah (n m k1 k2 k3 k4 k5 k6 k7 k8 k9 k10 k11 k12 k13 k14 k15:Nat) (h:n<m):n<m+k1+k2+k3+k4+k5+k6+k7+k8+k9+k10+k11+k12+k13+k14+k15:=by omega
@[go_sem] theorem qai (n m k1 k2 k3 k4 k5 k6 k7 k8 k9 k10 k11 k12 k13 k14 k15:Nat) (h:n≤m):n≤m+k1+k2+k3+k4+k5+k6+k7+k8+k9+k10+k11+k12+k13+k14+k15:=by omega
@[go_sem] theorem qaj (n m k1 k2 k3 k4 k5 k6 k7 k8 k9 k10 k11 k12 k13 k14 k15:Nat) (h:n<m):n≤m+k1+k2+k3+k4+k5+k6+k7+k8+k9+k10+k11+k12+k13+k14+k15:=by omega
@[go_sem] theorem qak (n m k1 k2 k3 k4 k5 k6 k7 k8 k9 k10 k11 k12 k13 k14 k15:Nat) (h:n<m):(n=m+k1+k2+k3+k4+k5+k6+k7+k8+k9+k10+k11+k12+k13+k14+k15)=False:=eq_false (by omega)
@[go_sem] theorem qal (n m k1 k2 k3 k4 k5 k6 k7 k8 k9 k10 k11 k12 k13 k14 k15:Nat) (h:n<m):(m+k1+k2+k3+k4+k5+k6+k7+k8+k9+k10+k11+k12+k13+k14+k15=n)=False:=eq_false (by omega)
@[go_sem] theorem qam (n m k1 k2 k3 k4 k5 k6 k7 k8 k9 k10 k11 k12 k13 k14 k15 k16:Nat) (h:n<m):n<m+k1+k2+k3+k4+k5+k6+k7+k8+k9+k10+k11+k12+k13+k14+k15+k16:=by omega
@[go_sem] theorem qan (n m k1 k2 k3 k4 k5 k6 k7 k8 k9 k10 k11 k12 k13 k14 k15 k16:Nat) (h:n≤m):n≤m+k1+k2+k3+k4+k5+k6+k7+k8+k9+k10+k11+k12+k13+k14+k15+k16:=by omega
@[go_sem] theorem qao (n m k1 k2 k3 k4 k5 k6 k7 k8 k9 k10 k11 k12 k13 k14 k15 k16:Nat) (h:n<m):n≤m+k1+k2+k3+k4+k5+k6+k7+k8+k9+k10+k11+k12+k13+k14+k15+k16:=by omega
@[go_sem] theorem qap (n m k1 k2 k3 k4 k5 k6 k7 k8 k9 k10 k11 k12 k13 k14 k15 k16:Nat) (h:n<m):(n=m+k1+k2+k3+k4+k5+k6+k7+k8+k9+k10+k11+k12+k13+k14+k15+k16)=False:=eq_false (by omega)
@[go_sem] theorem qaq (n m k1 k2 k3 k4 k5 k6 k7 k8 k9 k10 k11 k12 k13 k14 k15 k16:Nat) (h:n<m):(m+k1+k2+k3+k4+k5+k6+k7+k8+k9+k10+k11+k12+k13+k14+k15+k16=n)=False:=eq_false (by omega)
@[go_sem] theorem qar (n m k1 k2 k3 k4 k5 k6 k7 k8 k9 k10 k11 k12 k13 k14 k15 k16 k17:Nat) (h:n<m):n<m+k1+k2+k3+k4+k5+k6+k7+k8+k9+k10+k11+k12+k13+k14+k15+k16+k17:=by omega
@[go_sem] theorem qas (n m k1 k2 k3 k4 k5 k6 k7 k8 k9 k10 k11 k12 k13 k14 k15 k16 k17:Nat) (h:n≤m):n≤m+k1+k2+k3+k4+k5+k6+k7+k8+k9+k10+k11+k12+k13+k14+k15+k16+k17:=by omega
@[go_sem] theorem qat (n m k1 k2 k3 k4 k5 k6 k7 k8 k9 k10 k11 k12 k13 k14 k15 k16 k17:Nat) (h:n<m):n≤m+k1+k2+k3+k4+k5+k6+k7+k8+k9+k10+k11+k12+k13+k14+k15+k16+k17:=by omega
@[go_sem] theorem qau (n m k1 k2 k3 k4 k5 k6 k7 k8 k9 k10 k11 k12 k13 k14 k15 k16 k17:Nat) (h:n<m):(n=m+k1+k2+k3+k4+k5+k6+k7+k8+k9+k10+k11+k12+k13+k14+k15+k16+k17)=False:=eq_false (by omega)
@[go_sem] theorem qav (n m k1 k2 k3 k4 k5 k6 k7 k8 k9 k10 k11 k12 k13 k14 k15 k16 k17:Nat) (h:n<m):(m+k1+k2+k3+k4+k5+k6+k7+k8+k9+k10+k11+k12+k13+k14+k15+k16+k17=n)=False:=eq_false (by omega)
@[go_sem] theorem qaw (n m k1 k2 k3 k4 k5 k6 k7 k8 k9 k10 k11 k12 k13 k14 k15 k16 k17 k18:Nat) (h:n<m):n<m+k1+k2+k3+k4+k5+k6+k7+k8+k9+k10+k11+k12+k13+k14+k15+k16+k17+k18:=by omega
@[go_sem] theorem qax (n m k1 k2 k3 k4 k5 k6 k7 k8 k9 k10 k11 k12 k13 k14 k15 k16 k17 k18:Nat) (h:n≤m):n≤m+k1+k2+k3+k4+k5+k6+k7+k8+k9+k10+k11+k12+k13+k14+k15+k16+k17+k18:=by omega
@[go_sem] theorem qay (n m k1 k2 k3 k4 k5 k6 k7 k8 k9 k10 k11 k12 k13 k14 k15 k16 k17 k18:Nat) (h:n<m):n≤m+k1+k2+k3+k4+k5+k6+k7+k8+k9+k10+k11+k12+k13+k14+k15+k16+k17+k18:=by omega
@[go_sem] theorem qaz (n m k1 k2 k3 k4 k5 k6 k7 k8 k9 k10 k11 k12 k13 k14 k15 k16 k17 k18:Nat) (h:n<m):(n=m+k1+k2+k3+k4+k5+k6+k7+k8+k9+k10+k11+k12+k13+k14+k15+k16+k17+k18)=False:=eq_false (by omega)
@[go_sem] theorem qb0 (n m k1 k2 k3 k4 k5 k6 k7 k8 k9 k10 k11 k12 k13 k14 k15 k16 k17 k18:Nat) (h:n<m):(m+k1+k2+k3+k4+k5+k6+k7+k8+k9+k10+k11+k12+k13+k14+k15+k16+k17+k18=n)=False:=eq_false (by omega)
@[go_sem] theorem qb1 (n m k1 k2 k3 k4 k5 k6 k7 k8 k9 k10 k11 k12 k13 k14 k15 k16 k17 k18 k19:Nat) (h:n<m):n<m+k1+k2+k3+k4+k5+k6+k7+k8+k9+k10+k11+k12+k13+k14+k15+k16+k17+k18+k19:=by omega
@[go_sem] theorem qb2 (n m k1 k2 k3 k4 k5 k6 k7 k8 k9 k10 k11 k12 k13 k14 k15 k16 k17 k18 k19:Nat) (h:n≤m):n≤m+k1+k2+k3+k4+k5+k6+k7+k8+k9+k10+k11+k12+k13+k14+k15+k16+k17+k18+k19:=by omega
@[go_sem] theorem qb3 (n m k1 k2 k3 k4 k5 k6 k7 k8 k9 k10 k11 k12 k13 k14 k15 k16 k17 k18 k19:Nat) (h:n<m):n≤m+k1+k2+k3+k4+k5+k6+k7+k8+k9+k10+k11+k12+k13+k14+k15+k16+k17+k18+k19:=by omega
@[go_sem] theorem qb4 (n m k1 k2 k3 k4 k5 k6 k7 k8 k9 k10 k11 k12 k13 k14 k15 k16 k17 k18 k19:Nat) (h:n<m):(n=m+k1+k2+k3+k4+k5+k6+k7+k8+k9+k10+k11+k12+k13+k14+k15+k16+k17+k18+k19)=False:=eq_false (by omega)
@[go_sem] theorem qb5 (n m k1 k2 k3 k4 k5 k6 k7 k8 k9 k10 k11 k12 k13 k14 k15 k16 k17 k18 k19:Nat) (h:n<m):(m+k1+k2+k3+k4+k5+k6+k7+k8+k9+k10+k11+k12+k13+k14+k15+k16+k17+k18+k19=n)=False:=eq_false (by omega)
@[go_sem] theorem qb6 (n m k1 k2 k3 k4 k5 k6 k7 k8 k9 k10 k11 k12 k13 k14 k15 k16 k17 k18 k19 k20:Nat) (h:n<m):n<m+k1+k2+k3+k4+k5+k6+k7+k8+k9+k10+k11+k12+k13+k14+k15+k16+k17+k18+k19+k20:=by omega
@[go_sem] theorem qb7 (n m k1 k2 k3 k4 k5 k6 k7 k8 k9 k10 k11 k12 k13 k14 k15 k16 k17 k18 k19 k20:Nat) (h:n≤m):n≤m+k1+k2+k3+k4+k5+k6+k7+k8+k9+k10+k11+k12+k13+k14+k15+k16+k17+k18+k19+k20:=by omega
@[go_sem] theorem qb8 (n m k1 k2 k3 k4 k5 k6 k7 k8 k9 k10 k11 k12 k13 k14 k15 k16 k17 k18 k19 k20:Nat) (h:n<m):n≤m+k1+k2+k3+k4+k5+k6+k7+k8+k9+k10+k11+k12+k13+k14+k15+k16+k17+k18+k19+k20:=by omega
@[go_sem] theorem qb9 (n m k1 k2 k3 k4 k5 k6 k7 k8 k9 k10 k11 k12 k13 k14 k15 k16 k17 k18 k19 k20:Nat) (h:n<m):(n=m+k1+k2+k3+k4+k5+k6+k7+k8+k9+k10+k11+k12+k13+k14+k15+k16+k17+k18+k19+k20)=False:=eq_false (by omega)
@[go_sem] theorem qba (n m k1 k2 k3 k4 k5 k6 k7 k8 k9 k10 k11 k12 k13 k14 k15 k16 k17 k18 k19 k20:Nat) (h:n<m):(m+k1+k2+k3+k4+k5+k6+k7+k8+k9+k10+k11+k12+k13+k14+k15+k16+k17+k18+k19+k20=n)=False:=eq_false (by omega)
@[go_sem] theorem qbb (w:World) (x:Beyond) (n i:Nat) (h:n<w.heap.size):(ext w x).cell? ⟨n,i,none⟩=w.cell? ⟨n,i,none⟩:=Below.cell (p:=⟨n,i,none⟩) (q8h w x).toBelow h
@[go_sem] theorem qbc (w:World) (x:Beyond) (n i:Nat) (h:n<w.heap.size):(ext w x).frozen? ⟨n,i,none⟩=w.frozen? ⟨n,i,none⟩:=Below.frozen (p:=⟨n,i,none⟩) (q8h w x).toBelow h
theorem qbd (w:World) (x:Beyond) (n:Nat) (h:n<w.heap.size):(ext w x).heap[n]?=w.heap[n]?:=(q8h w x).block n h
@[go_sem] theorem qbe (w:World) (x:Beyond) (n:Nat) (h:n<w.heap.size):(ext w x).shape? n=w.shape? n:=by
  unfold World.shape?;rw [qbd w x n h]

@[go_sem] theorem qbf (w:World) (x:Beyond):(ext w x).drew=ext w (x.drewN 1):=rfl
@[go_sem] theorem qbg (w:World) (x:Beyond) (n:Nat):(ext w x).drewN n=ext w (x.drewN n):=by simp [ext,Beyond.drewN,World.drewN,Nat.add_assoc]
@[go_sem] theorem qbh (w:World) (x y:Beyond):ext (ext w x) y=ext w (x.and y):=by simp [ext,Beyond.and,Array.append_assoc,Nat.add_assoc]
@[go_sem] theorem qbi (w:World) (x:Beyond) (n:Nat):ext (w.drewN n) x=ext w (x.drewN n):=by
  have h:w.drawn+n+x.drawn=w.drawn+(x.drawn+n):=by omega
  show ({ w with heap:=w.heap++x.objs,drawn:=w.drawn+n+x.drawn }:World)=_
  rw [h];rfl
@[go_sem] theorem qbj (w:World) (x:Beyond):ext w.drew x=ext w (x.drewN 1):=by
  have h:w.drawn+1+x.drawn=w.drawn+(x.drawn+1):=by omega
  show ({ w with heap:=w.heap++x.objs,drawn:=w.drawn+1+x.drawn }:World)=_
  rw [h];rfl
theorem qbk {α:Type} (xs ys:Array α) (n:Nat) (f:α→α) (h:n<xs.size):(xs++ys).modify n f=xs.modify n f++ys:=by
  apply Array.ext_getElem?
  intro k
  rw [Array.getElem?_modify]
  rcases Nat.lt_or_ge k xs.size with hk | hk
  · rw [Array.getElem?_append_left hk,Array.getElem?_append_left (by simpa using hk),Array.getElem?_modify]
  · rw [if_neg (by omega),Array.getElem?_append_right hk,Array.getElem?_append_right (by simpa using hk)];simp
@[go_sem] theorem qbl (w:World) (x:Beyond) (n i:Nat) (u:Value) (h:n<w.heap.size):(ext w x).setCell ⟨n,i,none⟩ u=ext (w.setCell ⟨n,i,none⟩ u) x:=by
  simp only [World.setCell,ext];rw [qbk _ _ _ _ h]

@[go_sem] theorem qbm (w:World) (x y:Beyond) (n i:Nat) (h:n<w.heap.size+x.len):(ext w (x.and y)).cell? ⟨n,i,none⟩=(ext w x).cell? ⟨n,i,none⟩:=by
  rw [← qbh];exact qbb _ _ _ _ (by rw [q8d];exact h)
@[go_sem] theorem qbn (w:World) (x y:Beyond) (n i:Nat) (h:n<w.heap.size+x.len):(ext w (x.and y)).frozen? ⟨n,i,none⟩=(ext w x).frozen? ⟨n,i,none⟩:=by
  rw [← qbh];exact qbc _ _ _ _ (by rw [q8d];exact h)
@[go_sem] theorem qbo (w:World) (x:Beyond) (n:Nat) (a:Addr):(ext w (x.drewN n)).cell? a=(ext w x).cell? a:=rfl
@[go_sem] theorem qbp (w:World) (x:Beyond) (n:Nat) (a:Addr):(ext w (x.drewN n)).frozen? a=(ext w x).frozen? a:=rfl
theorem qbq {a w:World} {x:Beyond} (h:Bel a (Go.ext w x)) (y:Beyond):Bel a (Go.ext w (x.and y)):=by rw [← qbh];exact h.ext y
theorem qbr {a w:World} {x:Beyond} (h:Bel a (Go.ext w x)) (n:Nat):Bel a (Go.ext w (x.drewN n)):=by rw [← qbg];exact h.drewN n
theorem ext_of1 {w w':World} {x:Beyond} (h:Bel (Go.ext w x) w'):∃ y,w'=Go.ext w (x.and y):=by
  obtain ⟨y,rfl⟩:=Go.ext_of h;exact ⟨y,qbh w x y⟩
theorem Calls.ext_of {P:Program} {f:FuncId} {args:Array Value} {w:World} {x:Beyond} {v:Value}
    (h:Calls P f args (ext w x) fun e w'=>e=.returned v∧∃ y,w'=ext (ext w x) y):Calls P f args (ext w x) fun e w''=>e=.returned v∧∃ y,w''=ext w y :=
  h.mono fun _ _ ⟨he,y,hy⟩=>⟨he,x.and y,by rw [hy,qbh]⟩
theorem Calls.ext_of1 {P:Program} {f:FuncId} {args:Array Value} {w:World} {z x:Beyond} {v:Value}
    (h:Calls P f args (ext w (z.and x)) fun e w'=>e=.returned v∧∃ y,w'=ext (ext w (z.and x)) y):Calls P f args (ext w (z.and x)) fun e w''=>e=.returned v∧∃ y,w''=ext w (z.and y) :=
  h.mono fun _ _ ⟨he,y,hy⟩=>⟨he,Go.ext_of1 (by rw [hy];exact (qbq (Bel.refl _) x).ext y)⟩
attribute [irreducible] ext Beyond.len
end Go

namespace Go.Tx
open Go
def qbt:Row→Bool
  | .nil=>true
  | .int _ r=>qbt r
  | .bool r=>qbt r
  | .sl _ _=>false
theorem qbu {η η':Emb}:∀ (τ:Row) (x:den τ),qbt τ=true→∀ {c:LV},c∈split τ x→∀ {v:Value},VR η c v→VR η' c v
  | .nil,_,_,c,hc,_,_=>by simp [split] at hc
  | .int k r, x, hp, c, hc, v, hv => by
    rcases List.mem_cons.1 hc with rfl | hc
    · cases hv;exact .int _ _
    · exact qbu r x.2 hp hc hv
  | .bool r, x, hp, c, hc, v, hv => by
    rcases List.mem_cons.1 hc with rfl | hc
    · cases hv;exact .bool _
    · exact qbu r x.2 hp hc hv
  | .sl e r,_,hp,_,_,_,_=>by cases hp
mutual
def shift (n:Nat):LV→LV
  | .ptr b o=>.ptr (n+b) o
  | .rp b i sz j=>.rp (n+b) i sz j
  | .rs b=>.rs (n+b)
  | .fn f cs=>.fn f (shifts n cs)
  | .agg cs=>.agg (shifts n cs)
  | .tup cs=>.tup (shifts n cs)
  | .undef=>.undef
  | .int k m=>.int k m
  | .bool v=>.bool v
  | .nilp=>.nilp
  | .str s=>.str s
  | .nils=>.nils
  | .fz τ xs=>.fz τ xs
  | .fp τ x j=>.fp τ x j
def shifts (n:Nat):List LV→List LV
  | []=>[]
  | c :: cs=>shift n c :: shifts n cs
end
mutual
def hasF:LV→Bool
  | .fz _ _=>true
  | .fp _ _ _=>true
  | .fn _ cs=>hasFs cs
  | .agg cs=>hasFs cs
  | .tup cs=>hasFs cs
  | _=>false
def hasFs:List LV→Bool
  | []=>false
  | c :: cs=>hasF c || hasFs cs
end
structure Moved (n:Nat) (η η':Emb) (fr:Bool):Prop where
  loc:∀ b L,η.loc b=some L→η'.loc (n+b)=some L
  hdr:∀ b v,η.hdr b=some v→η'.hdr (n+b)=some v
  fz:fr=true→∀ k ob,η.fz k=some ob→η'.fz k=some ob
mutual
theorem qbw {n:Nat} {η η':Emb} {fr:Bool} (hm:Moved n η η' fr):∀ {l:LV} {v:Value},(fr=true∨hasF l=false)→VR η l v→VR η' (shift n l) v
  | .ptr b o,v,hf,hv=>by rw [shift];cases hv with | ptr h=>exact .ptr (hm.loc _ _ h)
  | .rp b i sz j,v,hf,hv=>by rw [shift];cases hv with | rp h hh hi=>exact .rp (hm.loc _ _ h) (hm.hdr _ _ hh) hi
  | .rs b,v,hf,hv=>by rw [shift];cases hv with | rs h=>exact .rs (hm.hdr _ _ h)
  | .fn f cs, v, hf, hv => by
    rw [shift]
    cases hv with
    | fn hl hh=>have:=shifts_ok hm (hf.imp id fun h=>by rw [hasF] at h;exact h) ⟨hl,hh⟩;exact .fn this.1 this.2
  | .agg cs, v, hf, hv => by
    rw [shift]
    cases hv with
    | agg hl hh=>have:=shifts_ok hm (hf.imp id fun h=>by rw [hasF] at h;exact h) ⟨hl,hh⟩;exact .agg this.1 this.2
  | .tup cs, v, hf, hv => by
    rw [shift]
    cases hv with
    | tup hl hh=>have:=shifts_ok hm (hf.imp id fun h=>by rw [hasF] at h;exact h) ⟨hl,hh⟩;exact .tup this.1 this.2
  | .undef,v,_,hv=>by rw [shift];exact .undef _
  | .int k m,v,_,hv=>by rw [shift];cases hv;exact .int _ _
  | .bool m,v,_,hv=>by rw [shift];cases hv;exact .bool _
  | .nilp,v,_,hv=>by rw [shift];cases hv;exact .nilp
  | .str s,v,_,hv=>by rw [shift];cases hv;exact .str _
  | .nils,v,_,hv=>by rw [shift];cases hv;exact .nils
  | .fz τ xs, v, hf, hv => by
    rw [shift]
    cases hv with
    | fz h=>exact .fz (h.mono (RowF.mono (hm.fz (hf.resolve_right (by rw [hasF];simp))) τ))
  | .fp τ x j, v, hf, hv => by
    rw [shift]
    cases hv with
    | fp h=>exact .fp (h.mono (hm.fz (hf.resolve_right (by rw [hasF];simp))))
theorem shifts_ok {n:Nat} {η η':Emb} {fr:Bool} (hm:Moved n η η' fr):∀ {cs:List LV} {vs:List Value},(fr=true∨hasFs cs=false)→VRs η cs vs→VRs η' (shifts n cs) vs
  | [], vs, _, hv => by
    rw [shifts]
    have:vs=[]:=by have:=hv.1;simpa using this.symm
    subst this;exact VRs.nil
  | c :: cs, vs, hf, hv => by
    obtain ⟨v,vs,rfl,h1,h2⟩:=hv.uncons
    rw [shifts]
    have hf':fr=true∨(hasF c=false∧hasFs cs=false):=hf.imp id fun h=>by rw [hasFs,Bool.or_eq_false_iff] at h;exact h
    exact VRs.cons (qbw hm (hf'.imp id And.left) h1) (shifts_ok hm (hf'.imp id And.right) h2)
end
def numL:LV→Bool
  | .int _ _=>true
  | .bool _=>true
  | _=>false
def qbx:LV→Bool
  | .int _ _=>true
  | .bool _=>true
  | .fz _ _=>true
  | _=>false
def Ob.plainB:Ob→Bool
  | .cells cs=>cs.all numL
  | .rows τ _=>qbt τ
def Ob.rowsB:Ob→Bool
  | .cells cs=>cs.all qbx
  | .rows _ _=>true
theorem qby {n:Nat} {η η':Emb} {fr:Bool} {w:World} {cs:List LV} {L:Loc} (hm:Moved n η η' fr) (h1:cs.all qbx=true) (h2:fr=true∨cs.all numL=true) (h:At η w cs L):At η' w cs L :=
  ⟨h.lt,h.fits,h.there,fun j c hc=>by
    obtain ⟨v,a,b⟩:=h.cell j c hc
    have hmem:=List.mem_of_getElem? hc
    have e1:=(List.all_eq_true.1 h1) c hmem
    refine ⟨v,a,?_⟩
    cases b with
    | int=>exact .int _ _
    | bool=>exact .bool _
    | fz hf =>
      refine .fz (hf.mono (RowF.mono (hm.fz (h2.resolve_right fun h3=>?_)) _))
      have:=(List.all_eq_true.1 h3) _ hmem
      cases this
    | _=>cases e1⟩
def qbz (H:LH):List Ob→LH
  | []=>H
  | ob :: l=>qbz (H.alloc ob) l
theorem qc0:∀ (l:List Ob) (H:LH),(qbz H l).next=H.next+l.length∧(qbz H l).log=H.log∧∀ b,(qbz H l).get b=if H.next≤b∧b<H.next+l.length then l[b - H.next]? else H.get b
  | [],H=>⟨rfl,rfl,fun b=>by rw [qbz,if_neg];simp⟩
  | ob :: l, H => by
    obtain ⟨h1,h2,h3⟩:=qc0 l (H.alloc ob)
    have hn:(H.alloc ob).next=H.next+1:=rfl
    refine ⟨by rw [qbz,h1,hn,List.length_cons];omega,by rw [qbz,h2];rfl,fun b=>?_⟩
    rw [qbz,h3,hn,LH.get_alloc,List.length_cons]
    by_cases e1:H.next+1≤b∧b<H.next+1+l.length
    · rw [if_pos e1,if_pos (by omega),show b - H.next=(b - (H.next+1))+1 by omega,List.getElem?_cons_succ]
    · rw [if_neg e1]
      by_cases e2:b=H.next
      · subst e2;rw [if_pos rfl,if_pos (by omega),Nat.sub_self];rfl
      · rw [if_neg e2,if_neg (by omega)]
def qc1 (H:LH):List Nat→LH
  | []=>H
  | n :: l=>qc1 (H.put n none) l
theorem qc2:∀ (l:List Nat) (H:LH),(qc1 H l).next=H.next∧(∃ m,(qc1 H l).log=m++H.log∧∀ b,b ∉ m→b ∉ l)∧∀ b,(qc1 H l).get b=if b∈l then none else H.get b
  | [],H=>⟨rfl,⟨[],rfl,fun b h=>by simp⟩,fun b=>by simp [qc1]⟩
  | n :: l, H => by
    obtain ⟨h1,⟨m,h2,h4⟩,h3⟩:=qc2 l (H.put n none)
    refine ⟨h1,⟨m ++ [n],by rw [qc1,h2];simp [LH.put],fun b hb=>?_⟩,fun b=>?_⟩
    · simp only [List.mem_append, List.mem_singleton, not_or] at hb
      simp only [List.mem_cons,not_or]
      exact ⟨hb.2,h4 b hb.1⟩
    · rw [qc1, h3, LH.get_put]
      simp only [List.mem_cons]
      by_cases e1:b∈l
      · rw [if_pos e1,if_pos (.inr e1)]
      · rw [if_neg e1]
        by_cases e2:b=n
        · rw [if_pos e2,if_pos (.inl e2)]
        · rw [if_neg e2,if_neg (fun h=>h.elim e2 e1)]
def place (H:LH) (A:List Nat) (r:LV×List Ob):LV×LH :=
  (shift H.next r.1,qbz (bif hasF r.1 || !(r.2.all Ob.plainB) then qc1 H A else H) r.2)
def qc3 (H:LH) (l:LV):Option LV :=
  match l with
  | .rs m=>match H.get m with | some (.rows τ xs)=>some (.fz τ xs) | _=>none
  | .int k n=>some (.int k n)
  | .bool v=>some (.bool v)
  | .nils=>some .nils
  | .fz τ xs=>some (.fz τ xs)
  | _=>none
def qc4 (H:LH):List LV→Option (List LV)
  | []=>some []
  | c :: cs => match qc3 H c with
    | some c=>match qc4 H cs with | some cs=>some (c :: cs) | none=>none
    | none=>none
def qc5 (H:LH) (τ:Row) (l:LV):Option (den τ) :=
  match l with
  | .ptr n 0 => match H.get n with
    | some (.cells cs) => match qc4 H cs with
      | some ds=>join τ ds
      | none=>none
    | _=>none
  | .fp σ x 0=>if h:σ=τ then some (h ▸ x) else none
  | _=>none
def decR (H:LH):(τs:List Row)→List LV→Option (denR τs)
  | [],[]=>some ()
  | τ :: r, l :: ls => match qc5 H τ l with
    | some x=>match decR H r ls with | some y=>some (x,y) | none=>none
    | none=>none
  | _,_=>none
def decF (H:LH) (f:FuncId) (τs:List Row) (g:FuncId) (cs:List LV):Option (denR τs):=bif Nat.beq g f then decR H τs cs else none
def decP (H:LH):(p:Pk)→LV→Option p.den
  | .row τ true, .agg cs => match qc4 H cs with
    | some cs=>join τ cs
    | none=>none
  | .row τ false, l => match qc3 H l with
    | some l=>join τ [l]
    | none=>none
  | .fn f τs,.fn g cs=>decF H f τs g cs
  | .ref τ,l=>qc5 H τ l
  | _,_=>none
def decs (H:LH):(τs:List Pk)→List LV→Option (dens τs)
  | [],[]=>some ()
  | p :: r, l :: ls => match decP H p l with
    | some x=>match decs H r ls with | some y=>some (x,y) | none=>none
    | none=>none
  | _,_=>none
def deep (H:LH) (l:List Nat):List Nat:=l.flatMap fun n=>n :: match H.get n with | some ob=>q5a ob | none=>[]
def qc6 (H:LH) (args:List LV):List Spec→FuncId→Option ((S:Spec)×dens S.τs)
  | [],_=>none
  | S :: l, g => bif Nat.beq S.g g then (match decs H S.τs args with
    | some x=>some ⟨S,x⟩
    | none=>qc6 H args l g) else qc6 H args l g
def orc (l:List Spec):Orc:=fun g args H=>match qc6 H args l g with
  | some p=>some ⟨p.1.R,p.1.F p.2,fun r=>bif (p.1.enc r).2.all Ob.rowsB then place H (deep H (args.flatMap q59)) (p.1.enc r) else (.undef,H)⟩
  | none=>none
theorem qc7 {H:LH} {args:List LV}:∀ {l:List Spec} {g:FuncId} {p:(S:Spec)×dens S.τs},qc6 H args l g=some p→p.1∈l∧p.1.g=g∧decs H p.1.τs args=some p.2
  | [],_,_,h=>by cases h
  | S0 :: l, g, p, h => by
    have rest:qc6 H args l g=some p→p.1∈S0 :: l∧p.1.g=g∧decs H p.1.τs args=some p.2:=fun h =>
      let ⟨h1,h2⟩:=qc7 h;⟨List.mem_cons_of_mem _ h1,h2⟩
    rw [qc6,Bool.cond_eq_ite] at h
    split at h
    · rename_i he
      split at h
      · rename_i x hx
        injection h with h;subst h
        exact ⟨List.mem_cons_self ..,Nat.eq_of_beq_eq_true he,hx⟩
      · exact rest h
    · exact rest h
section
variable {P:Program} {M:Nat} {H:LH} {η:Emb} {w:World}
structure Phi (H:LH) (η:Emb) (w:World) (A:List Nat) (φ:Nat→Option Obj):Prop where
  fz:∀ k ob,η.fz k=some ob→φ k=some ob
  at_:∀ k n ob L,η.fz k=none→n∈A→H.get n=some ob→η.loc n=some L→L.block=k→φ k=w.heap[k]?
  cases:∀ k ob,φ k=some ob→η.fz k=some ob∨(η.fz k=none∧(∃ n∈A,∃ ob L,H.get n=some ob∧η.loc n=some L∧L.block=k)∧w.heap[k]?=some ob)
theorem qc8 (H:LH) (η:Emb) (w:World) (A:List Nat):∃ φ,Phi H η w A φ:=by
  classical
  refine ⟨fun k=>if (η.fz k).isSome=true then η.fz k else if ∃ n∈A,∃ ob L,H.get n=some ob∧η.loc n=some L∧L.block=k then w.heap[k]? else none,fun k ob h=>?_,fun k n ob L h hn hg hL hk=>?_,fun k ob h=>?_⟩
  · rw [if_pos (by rw [h];rfl)];exact h
  · rw [if_neg (by rw [h];simp),if_pos ⟨n,hn,ob,L,hg,hL,hk⟩]
  · split at h
    · exact .inl h
    · rename_i h1
      split at h
      · rename_i h2
        exact .inr ⟨by cases hf:η.fz k with | none=>rfl | some x=>rw [hf] at h1;simp at h1,h2,h⟩
      · cases h
variable {φ:Nat→Option Obj}
theorem qc9 (h:HR M η H w) {A:List Nat} (hp:Phi H η w A φ) {l l':LV} {v:Value} (hx:qc3 H l=some l') (hA:∀ n∈refs l,n∈A) (hv:VR η l v):VR (Emb.fro φ) l' v:=by
  unfold qc3 at hx
  split at hx
  · rename_i m
    split at hx
    · rename_i τ xs hg
      injection hx with hx;subst hx
      cases hv with
      | rs hh =>
        cases h.live _ _ hg with
        | none hL hh' =>
          rw [hh] at hh';injection hh' with hh';subst hh'
          exact .fz ⟨_,_,rfl,Nat.le_refl _,fun _=>rfl,fun i x hx=>by simp at hx⟩
        | rows hL ha hh' hc hr =>
          rename_i L c
          rw [hh] at hh';injection hh' with hh';subst hh'
          have hsep:=h.sep _ ⟨m,_,L,hg,hL,rfl⟩
          refine .fz ⟨_,_,rfl,hc,(fun h=>by cases h),fun i x hx=>⟨_,_,rfl,q13 (η:=η) (w:=w) (fun k ob hk=>hp.fz k ob hk) (hp.at_ _ m _ L hsep (hA m (by simp [refs])) hg hL rfl) τ x _ fun j cc hcc=>?_⟩⟩
          have hj:j<τ.size:=by rw [← q8 τ x];exact (List.getElem?_eq_some_iff.1 hcc).1
          obtain ⟨v,h1,h2⟩:=ha.cell (i*τ.size+j) cc (by rw [qd τ xs i x j hx hj];exact hcc)
          exact ⟨v,by rw [Nat.add_assoc];exact h1,h2⟩
    · cases hx
  · injection hx with hx;subst hx;cases hv;exact .int _ _
  · injection hx with hx;subst hx;cases hv;exact .bool _
  · injection hx with hx;subst hx;cases hv;exact .nils
  · injection hx with hx; subst hx
    cases hv with
    | fz hf=>exact .fz (hf.mono (RowF.mono (fun k ob hk=>hp.fz k ob hk) _))
  · cases hx
theorem qca (h:HR M η H w) {A:List Nat} (hp:Phi H η w A φ):∀ {cs ds:List LV} {vs:List Value},qc4 H cs=some ds→(∀ c∈cs,∀ n∈refs c,n∈A)→VRs η cs vs→VRs (Emb.fro φ) ds vs
  | [], ds, vs, hx, _, hv => by
    rw [qc4] at hx;injection hx with hx;subst hx
    have:vs=[]:=by have:=hv.1;simpa using this.symm
    subst this;exact VRs.nil
  | c :: cs, ds, vs, hx, hA, hv => by
    obtain ⟨v,vs,rfl,h1,h2⟩:=hv.uncons
    rw [qc4] at hx
    split at hx
    · rename_i d hd
      split at hx
      · rename_i ds' hds
        injection hx with hx;subst hx
        exact VRs.cons (qc9 h hp hd (hA c (List.mem_cons_self ..)) h1) (qca h hp hds (fun c hc=>hA c (List.mem_cons_of_mem _ hc)) h2)
      · cases hx
    · cases hx
theorem qcb (h:HR M η H w) {A:List Nat} (hp:Phi H η w A φ) {τ:Row} {l:LV} {x:den τ} {v:Value} (hx:qc5 H τ l=some x) (hA:∀ n∈deep H (refs l),n∈A) (hv:VR η l v):VR (Emb.fro φ) (.fp τ x 0) v:=by
  unfold qc5 at hx
  split at hx
  · rename_i n
    split at hx
    · rename_i cs hg
      split at hx
      · rename_i ds hds
        have hdeep:∀ m,(m=n∨m∈q5a (.cells cs))→m∈A:=fun m hm=>hA m (by
          unfold deep;simp only [refs,List.flatMap_cons,List.flatMap_nil,List.append_nil,hg,List.mem_cons];exact hm)
        cases hv with
        | ptr hL =>
          rename_i L
          have ha:=(h.live _ _ hg).at hL
          have hcut:cut cs 0 cs.length=some cs:=by unfold cut;rw [Nat.zero_add,Nat.ble_eq_true_of_le (Nat.le_refl _),List.drop_zero,List.take_length];rfl
          obtain ⟨vs,o1,o2⟩:=Lie.cut ha.cell hcut
          have e1:=qca h hp hds (fun c hc m hm=>hdeep m (.inr (List.mem_flatMap.2 ⟨c,hc,by cases c<;>first | exact hm | (simp [refs] at hm)⟩))) o1
          have e2:=q21 τ hx e1
          have hsep:=h.sep _ ⟨n,_,L,hg,hL,rfl⟩
          refine .fp (q13 (η:=Emb.fro φ) (w:=w) (fun _ _ h=>h) (hp.at_ _ n _ L hsep (hdeep n (.inl rfl)) hg hL rfl) τ x _ fun j c hc=>?_)
          obtain ⟨v,f1,f2⟩:=e2.get hc
          exact ⟨v,by have:=o2 j v f1;rwa [Nat.add_zero] at this,f2⟩
      · cases hx
    · cases hx
  · rename_i σ y
    split at hx
    · rename_i he
      subst he
      injection hx with hx;subst hx
      cases hv with
      | fp hr=>exact .fp (hr.mono fun k ob hk=>hp.fz k ob hk)
    · cases hx
  · cases hx
theorem qcc (h:HR M η H w) {A:List Nat} (hp:Phi H η w A φ):∀ {τs:List Row} {ls:List LV} {x:denR τs} {vs:List Value},decR H τs ls=some x→(∀ l∈ls,∀ n∈deep H (refs l),n∈A)→VRs η ls vs→VRs (Emb.fro φ) (q86 τs x) vs
  | [], ls, x, vs, hx, _, hv => by
    cases ls with
    | nil=>exact ⟨hv.1,fun i c v hc _=>by simp [q86] at hc⟩
    | cons l ls=>cases hx
  | τ :: r, ls, x, vs, hx, hA, hv => by
    cases ls with
    | nil=>cases hx
    | cons l ls =>
      obtain ⟨v,vs,rfl,h1,h2⟩:=hv.uncons
      rw [decR] at hx
      split at hx
      · rename_i y hy
        split at hx
        · rename_i z hz
          injection hx with hx;subst hx
          exact VRs.cons (qcb h hp hy (hA l (List.mem_cons_self ..)) h1) (qcc h hp hz (fun l hl=>hA l (List.mem_cons_of_mem _ hl)) h2)
        · cases hx
      · cases hx
theorem qcd {l:List Nat} {n:Nat} (h:n∈l):n∈deep H l:=List.mem_flatMap.2 ⟨n,h,List.mem_cons_self ..⟩
theorem qce {l m:List Nat} (h:∀ n∈l,n∈m) {n:Nat} (hn:n∈deep H l):n∈deep H m:=by
  obtain ⟨x,h1,h2⟩:=List.mem_flatMap.1 hn
  exact List.mem_flatMap.2 ⟨x,h x h1,h2⟩
theorem qcf {l:LV} {n:Nat} (h:n∈refs l):n∈q59 l:=by cases l<;>first | exact h | (simp [refs] at h)
theorem qcg (h:HR M η H w) {A:List Nat} (hp:Phi H η w A φ) {p:Pk} {l:LV} {x:p.den} {v:Value} (hx:decP H p l=some x) (hA:∀ n∈deep H (q59 l),n∈A) (hv:VR η l v):VR (Emb.fro φ) (p.arg x) v:=by
  cases p with
  | row τ agg =>
    cases agg with
    | true =>
      cases l with
      | agg cs =>
        replace hx:(match qc4 H cs with | some cs=>join τ cs | none=>none)=some x:=hx
        split at hx
        · rename_i ds hds
          cases hv with
          | agg hl hh =>
            have e1:=qca h hp hds (fun c hc n hn=>hA n (qcd (List.mem_flatMap.2 ⟨c,hc,hn⟩))) ⟨hl,hh⟩
            have e2:=q21 τ hx e1
            exact .agg e2.1 e2.2
        · cases hx
      | _=>cases hx
    | false =>
      replace hx:(match qc3 H l with | some l=>join τ [l] | none=>none)=some x:=by cases l<;>exact hx
      split at hx
      · rename_i d hd
        have e1:=qc9 h hp hd (fun n hn=>hA n (qcd (qcf hn))) hv
        have e2:=q21 τ hx (VRs.cons e1 VRs.nil)
        have hlen:=e2.1
        show VR (Emb.fro φ) (q85 τ false x) v
        unfold q85
        cases hsp:split τ x with
        | nil=>rw [hsp] at hlen;simp at hlen
        | cons c cs =>
          cases cs with
          | nil=>rw [hsp] at e2;obtain ⟨u,hu,e3⟩:=vrs1 e2;injection hu with hu;subst hu;simp only [hsp];exact e3
          | cons c2 cs=>rw [hsp] at hlen;simp at hlen
      · cases hx
  | fn f τs =>
    cases l with
    | fn g cs =>
      have hx2:decF H f τs g cs=some x:=hx
      unfold decF at hx2
      rw [Bool.cond_eq_ite] at hx2
      split at hx2
      · rename_i hg
        have:=Nat.eq_of_beq_eq_true hg
        subst this
        cases hv with
        | fn hl hh =>
          have e1:=qcc h hp hx2 (fun c hc n hn=>hA n (qce (fun m hm=>List.mem_flatMap.2 ⟨c,hc,hm⟩) hn)) ⟨hl,hh⟩
          exact .fn e1.1 e1.2
      · cases hx2
    | _=>cases hx
  | ref τ =>
    have hx2:qc5 H τ l=some x:=by cases l<;>exact hx
    exact qcb h hp hx2 (fun n hn=>hA n (qce (fun m hm=>qcf hm) hn)) hv
theorem qch (h:HR M η H w) {A:List Nat} (hp:Phi H η w A φ):∀ {τs:List Pk} {ls:List LV} {x:dens τs} {vs:List Value},decs H τs ls=some x→(∀ l∈ls,∀ n∈deep H (q59 l),n∈A)→VRs η ls vs→VRs (Emb.fro φ) (q87 τs x) vs
  | [], ls, x, vs, hx, _, hv => by
    cases ls with
    | nil=>exact ⟨hv.1,fun i c v hc _=>by simp [q87] at hc⟩
    | cons l ls=>cases hx
  | p :: r, ls, x, vs, hx, hA, hv => by
    cases ls with
    | nil=>cases hx
    | cons l ls =>
      obtain ⟨v,vs,rfl,h1,h2⟩:=hv.uncons
      rw [decs] at hx
      split at hx
      · rename_i y hy
        split at hx
        · rename_i z hz
          injection hx with hx;subst hx
          exact VRs.cons (qcg h hp hy (hA l (List.mem_cons_self ..)) h1) (qch h hp hz (fun l hl=>hA l (List.mem_cons_of_mem _ hl)) h2)
        · cases hx
      · cases hx
theorem qci (H:LH) (A:List Nat):Logged H (qc1 H A):=by
  obtain ⟨h1,⟨m,h2,h4⟩,h3⟩:=qc2 A H
  refine ⟨by omega,⟨m,h2,fun b _ hb=>by rw [h3,if_neg (h4 b hb)]⟩,fun hb b cs hg=>?_⟩
  rw [h3] at hg
  rw [h1]
  split at hg
  · cases hg
  · exact hb b cs hg
theorem qcj (H:LH) (l:List Ob):Logged H (qbz H l):=by
  obtain ⟨h1,h2,h3⟩:=qc0 l H
  refine ⟨by omega,⟨[],h2,fun b hb _=>by rw [h3,if_neg (by omega)]⟩,fun hb b cs hg=>?_⟩
  rw [h3] at hg
  rw [h1]
  split at hg
  · rename_i h;exact h.2
  · have:=hb b cs hg;omega
theorem qck {η η':Emb} {τ:Row} {xs:List (den τ)} {L:Loc} (hp:qbt τ=true) (h:At η w (flat τ xs) L):At η' w (flat τ xs) L :=
  ⟨h.lt,h.fits,h.there,fun j c hc=>by
    obtain ⟨v,h1,h2⟩:=h.cell j c hc
    obtain ⟨x,hx⟩:=q72 τ xs (List.mem_of_getElem? hc)
    exact ⟨v,h1,qbu τ x hp hx h2⟩⟩
theorem qcl {S:Spec} (hS:COK P S) {args:List LV} {x:dens S.τs} (hd:decs H S.τs args=some x) {r:S.R} (hr:S.F x=some r) (hrows:(S.enc r).2.all Ob.rowsB=true):q4g P S.g args H (place H (deep H (args.flatMap q59)) (S.enc r)):=by
  generalize hA:deep H (args.flatMap q59)=A
  have hAm:∀ l∈args,∀ n∈deep H (q59 l),n∈A:=fun l hl n hn=>by rw [← hA];exact qce (fun m hm=>List.mem_flatMap.2 ⟨l,hl,hm⟩) hn
  generalize he:S.enc r=er
  obtain ⟨l0,obs⟩:=er
  rw [he] at hrows
  unfold place
  simp only
  generalize hal:(hasF l0 || !(obs.all Ob.plainB))=al
  generalize hH1:(bif al then qc1 H A else H)=H1
  have hlog1:Logged H H1:=by rw [← hH1];cases al;exact Logged.refl _;exact qci H A
  have hnext1:H1.next=H.next:=by rw [← hH1];cases al;rfl;exact (qc2 A H).1
  have hsub:∀ b cs,H1.get b=some cs→H.get b=some cs∧(al=true→b ∉ A):=fun b cs hb=>by
    rw [← hH1] at hb
    cases al with
    | false=>exact ⟨hb,fun h=>by cases h⟩
    | true =>
      rw [cond_true,(qc2 A H).2.2] at hb
      split at hb
      · cases hb
      · rename_i hn;exact ⟨hb,fun _=>hn⟩
  obtain ⟨a1,_,a3⟩:=qc0 obs H1
  refine ⟨hlog1.trans (qcj H1 obs),fun M η w vs h hM hv=>?_⟩
  have hM':H.next+obs.length≤M:=by rw [← hnext1,← a1];exact hM
  obtain ⟨φ,hp⟩:=qc8 H η w A
  have hphi:∀ k ob,φ k=some ob→w.heap[k]?=some ob:=fun k ob hk=>by
    rcases hp.cases k ob hk with h1 | ⟨_,_,h1⟩
    · exact h.fz k ob h1
    · exact h1
  refine Calls.mono (hS.ok x r hr w φ vs hphi (qch h hp hd hAm hv)) fun e w' ⟨v',η',e1,e2,e3,e4⟩=>?_
  rw [he] at e2 e3 e4
  simp only at e2 e3 e4
  have hdom:∀ b,obs.length≤b→η'.loc b=none∧η'.hdr b=none:=fun b hb=>(e3 (b+1)).dom b hb (by omega)
  let η2:Emb:=⟨fun n=>if H.next≤n∧n<H.next+obs.length then η'.loc (n - H.next) else η.loc n,fun n=>if H.next≤n∧n<H.next+obs.length then η'.hdr (n - H.next) else η.hdr n,fun k=>if k<w.heap.size then (bif al then φ k else η.fz k) else η'.fz k⟩
  have hout:∀ b,¬ (H.next≤b∧b<H.next+obs.length)→η2.loc b=η.loc b∧η2.hdr b=η.hdr b:=fun b hb=>⟨if_neg hb,if_neg hb⟩
  have hin:∀ j,j<obs.length→η2.loc (H.next+j)=η'.loc j∧η2.hdr (H.next+j)=η'.hdr j:=fun j hj=>by
    constructor
    · show (if H.next ≤ H.next + j ∧ H.next + j < H.next + obs.length then η'.loc (H.next + j - H.next) else η.loc (H.next + j)) = _
      rw [if_pos (by omega),Nat.add_sub_cancel_left]
    · show (if H.next ≤ H.next + j ∧ H.next + j < H.next + obs.length then η'.hdr (H.next + j - H.next) else η.hdr (H.next + j)) = _
      rw [if_pos (by omega),Nat.add_sub_cancel_left]
  have hfree:∀ b,H.next≤b→b<H.next+obs.length→η.loc b=none∧η.hdr b=none:=fun b h1 h2=>h.dom b h1 (by omega)
  have hfzlt:∀ k ob,η.fz k=some ob→k<w.heap.size:=fun k ob hk=>(Array.getElem?_eq_some_iff.1 (h.fz k ob hk)).1
  have hle:η.le η2:=by
    refine ⟨fun b L hb=>?_,fun b v hb=>?_,fun k ob hk=>?_⟩
    · by_cases hc : H.next ≤ b ∧ b < H.next + obs.length
      · rw [(hfree b hc.1 hc.2).1] at hb;cases hb
      · rw [(hout b hc).1];exact hb
    · by_cases hc : H.next ≤ b ∧ b < H.next + obs.length
      · rw [(hfree b hc.1 hc.2).2] at hb;cases hb
      · rw [(hout b hc).2];exact hb
    · show (if k < w.heap.size then (bif al then φ k else η.fz k) else η'.fz k) = some ob
      rw [if_pos (hfzlt k ob hk)]
      cases al
      · exact hk
      · exact hp.fz _ _ hk
  have hmoved:Moved H.next η' η2 al:=by
    refine ⟨fun b L hb=>?_,fun b v hb=>?_,fun hal2 k ob hk=>?_⟩
    · have hlt : b < obs.length := Nat.lt_of_not_le fun hn => by rw [(hdom b hn).1] at hb; cases hb
      rw [(hin b hlt).1];exact hb
    · have hlt : b < obs.length := Nat.lt_of_not_le fun hn => by rw [(hdom b hn).2] at hb; cases hb
      rw [(hin b hlt).2];exact hb
    · show (if k < w.heap.size then (bif al then φ k else η.fz k) else η'.fz k) = some ob
      rw [hal2,cond_true]
      split
      · rename_i hlt
        exact (e4.fzn k ob hk).resolve_right (by omega)
      · exact hk
  have hval:VR η2 (shift H.next l0) v':=qbw hmoved (by
    cases al with
    | true=>exact .inl rfl
    | false=>rw [Bool.or_eq_false_iff] at hal;exact .inr hal.1) e2
  have hget:∀ b ob,(qbz H1 obs).get b=some ob→(¬ (H.next≤b∧b<H.next+obs.length)∧H1.get b=some ob) ∨ ∃ j,b=H.next+j∧j<obs.length∧obs[j]?=some ob:=fun b ob hb=>by
    rw [a3,hnext1] at hb
    split at hb
    · rename_i hc;exact .inr ⟨b - H.next,by omega,by omega,hb⟩
    · rename_i hc;exact .inl ⟨hc,hb⟩
  have hnewlb:∀ j ob L,obs[j]?=some ob→η'.loc j=some L→w.heap.size≤L.block:=fun j ob L hj hL=>e4.lb _ ⟨j,ob,L,by rw [q6q];exact hj,hL,rfl⟩
  have hlb:∀ k,LB (qbz H1 obs) η2 k→(∃ b ob L,H1.get b=some ob∧η.loc b=some L∧L.block=k)∨(∃ j ob L,obs[j]?=some ob∧η'.loc j=some L∧L.block=k):=fun k ⟨b,ob,L,hb,hL,hk⟩=>by
    rcases hget b ob hb with ⟨hc,hg⟩ | ⟨j,rfl,hj,hg⟩
    · rw [(hout b hc).1] at hL;exact .inl ⟨b,ob,L,hg,hL,hk⟩
    · rw [(hin j hj).1] at hL;exact .inr ⟨j,ob,L,hg,hL,hk⟩
  have hr2:HR M η2 (qbz H1 obs) w':=by
    refine ⟨fun b h1 h2=>?_,fun b ob hb=>?_,fun b ob hb=>?_,fun b1 b2 o1 o2 L1 L2 g1 g2 l1 l2 hbe=>?_,fun k ob hk=>?_,fun k hk=>?_,fun b v hb=>?_⟩
    · rw [a1, hnext1] at h1
      have:=hout b (by omega)
      rw [this.1,this.2];exact h.dom b (by omega) h2
    · rw [a1, hnext1]
      rcases hget b ob hb with ⟨hc,hg⟩ | ⟨j,rfl,hj,hg⟩
      · have:=h.lt b ob (hsub b ob hg).1;omega
      · omega
    · rcases hget b ob hb with ⟨hc, hg⟩ | ⟨j, rfl, hj, hg⟩
      · have hl := h.live b ob (hsub b ob hg).1
        exact hl.move hle (hout b hc).1 e4.size fun L hL=>e4.same _ (hl.lt hL)
      · have hl := (e3 0).live j ob (by rw [q6q]; exact hg)
        have hro:ob.rowsB=true:=(List.all_eq_true.1 hrows) ob (List.mem_of_getElem? hg)
        have hpl:al=true∨ob.plainB=true:=by
          cases al with
          | true=>exact .inl rfl
          | false =>
            rw [Bool.or_eq_false_iff,Bool.not_eq_false'] at hal
            exact .inr ((List.all_eq_true.1 hal.2) ob (List.mem_of_getElem? hg))
        cases hl with
        | cells hL ha=>exact .cells (by rw [(hin j hj).1];exact hL) (qby hmoved hro hpl ha)
        | rows hL ha hh hc hr =>
          refine .rows (by rw [(hin j hj).1];exact hL) ?_ (by rw [(hin j hj).2];exact hh) hc hr
          rcases hpl with h1 | h1
          · exact q73 (hmoved.fz h1) ha
          · exact qck h1 ha
        | none hL hh=>exact .none (by rw [(hin j hj).1];exact hL) (by rw [(hin j hj).2];exact hh)
    · rcases hget b1 o1 g1 with ⟨c1, k1⟩ | ⟨j1, rfl, j1l, k1⟩ <;> rcases hget b2 o2 g2 with ⟨c2, k2⟩ | ⟨j2, rfl, j2l, k2⟩
      · rw [(hout b1 c1).1] at l1; rw [(hout b2 c2).1] at l2
        exact h.inj _ _ _ _ _ _ (hsub _ _ k1).1 (hsub _ _ k2).1 l1 l2 hbe
      · rw [(hout b1 c1).1] at l1; rw [(hin j2 j2l).1] at l2
        have:=(h.live _ _ (hsub _ _ k1).1).lt l1
        have:=hnewlb _ _ _ k2 l2;omega
      · rw [(hin j1 j1l).1] at l1; rw [(hout b2 c2).1] at l2
        have:=(h.live _ _ (hsub _ _ k2).1).lt l2
        have:=hnewlb _ _ _ k1 l1;omega
      · rw [(hin j1 j1l).1] at l1; rw [(hin j2 j2l).1] at l2
        have:=(e3 0).inj j1 j2 _ _ _ _ (by rw [q6q];exact k1) (by rw [q6q];exact k2) l1 l2 hbe
        omega
    · have hk' : (if k < w.heap.size then (bif al then φ k else η.fz k) else η'.fz k) = some ob := hk
      split at hk'
      · rename_i hlt
        rw [e4.same k hlt]
        cases al with
        | true=>exact hphi k ob hk'
        | false=>exact h.fz k ob hk'
      · exact (e3 0).fz k ob hk'
    · show (if k < w.heap.size then (bif al then φ k else η.fz k) else η'.fz k) = none
      rcases hlb k hk with ⟨b,ob,L,g1,g2,g3⟩ | ⟨j,ob,L,g1,g2,g3⟩
      · have hg := hsub b ob g1
        have hlt:=(h.live _ _ hg.1).lt g2
        have hs:=h.sep k ⟨b,ob,L,hg.1,g2,g3⟩
        rw [if_pos (by omega)]
        cases al with
        | false=>exact hs
        | true =>
          rw [cond_true]
          cases hpk:φ k with
          | none=>rfl
          | some o =>
            exfalso
            rcases hp.cases _ _ hpk with h1 | ⟨_,⟨n,hn,ob',L',hgn,hL',hk'⟩,_⟩
            · rw [hs] at h1;cases h1
            · have := h.inj _ _ _ _ _ _ hg.1 hgn g2 hL' (by omega)
              exact hg.2 rfl (this ▸ hn)
      · have := hnewlb _ _ _ g1 g2
        rw [if_neg (by omega)]
        exact (e3 0).sep k ⟨j,ob,L,by rw [q6q];exact g1,g2,g3⟩
    · by_cases hc : H.next ≤ b ∧ b < H.next + obs.length
      · have hb':η'.hdr (b - H.next)=some v:=by
          have:η2.hdr b=η'.hdr (b - H.next):=if_pos hc
          rw [← this];exact hb
        exact (e3 0).ok _ v hb'
      · rw [(hout b hc).2] at hb;exact h.ok b v hb
  refine ⟨v',η2,e1,hval,hle,fun b hb=>hout b (by rw [a1,hnext1] at hb;omega),by rw [a1,hnext1];omega,hr2,e4.size,fun k hk _=>e4.same k hk,fun k hk=>?_,fun k ob hk=>?_,e4.os,e4.tape,e4.output,e4.drawn⟩
  · rcases hlb k hk with ⟨b, ob, L, g1, g2, g3⟩ | ⟨j, ob, L, g1, g2, g3⟩
    · exact .inl ⟨b,ob,L,(hsub b ob g1).1,g2,g3⟩
    · have:=hnewlb _ _ _ g1 g2;exact .inr (by omega)
  · have hk' : (if k < w.heap.size then (bif al then φ k else η.fz k) else η'.fz k) = some ob := hk
    split at hk'
    · cases al with
      | false=>exact .inl hk'
      | true =>
        rw [cond_true] at hk'
        rcases hp.cases _ _ hk' with h1 | ⟨_,⟨n,hn,ob',L',hgn,hL',hkk⟩,_⟩
        · exact .inl h1
        · exact .inr (.inl ⟨n,ob',L',hgn,hL',hkk⟩)
    · rename_i hlt;exact .inr (.inr (by omega))
theorem qcm {S:Spec} (hS:COK P S) {args:List LV} {x:dens S.τs} (hd:decs H S.τs args=some x) {r:S.R} (hr:S.F x=some r):q4g P S.g args H (.undef,H):=by
  generalize hA:deep H (args.flatMap q59)=A
  have hAm:∀ l∈args,∀ n∈deep H (q59 l),n∈A:=fun l hl n hn=>by rw [← hA];exact qce (fun m hm=>List.mem_flatMap.2 ⟨l,hl,hm⟩) hn
  refine ⟨Logged.refl _,fun M η w vs h hM hv=>?_⟩
  obtain ⟨φ,hp⟩:=qc8 H η w A
  have hphi:∀ k ob,φ k=some ob→w.heap[k]?=some ob:=fun k ob hk=>by
    rcases hp.cases k ob hk with h1 | ⟨_,_,h1⟩
    · exact h.fz k ob h1
    · exact h1
  refine Calls.mono (hS.ok x r hr w φ vs hphi (qch h hp hd hAm hv)) fun e w' ⟨v',η',e1,e2,e3,e4⟩=>?_
  refine ⟨v',η,e1,.undef _,Emb.le_refl _,fun _ _=>⟨rfl,rfl⟩,Nat.le_refl _,⟨h.dom,h.lt,fun b ob hb=>(h.live b ob hb).move (Emb.le_refl _) rfl e4.size fun L hL=>e4.same _ ((h.live b ob hb).lt hL),h.inj,fun k ob hk=>?_,h.sep,h.ok⟩,e4.size,fun k hk _=>e4.same k hk,fun k hk=>.inl hk,fun k ob hk=>.inl hk,e4.os,e4.tape,e4.output,e4.drawn⟩
  have hk1:=h.fz k ob hk
  rw [e4.same k (Array.getElem?_eq_some_iff.1 hk1).1];exact hk1
theorem qcn {l:List Spec} (h:∀ S∈l,COK P S):OrcOK P (orc l):=by
  refine ⟨fun g args H p x hp hx=>?_⟩
  unfold orc at hp
  split at hp
  · rename_i q hq
    obtain ⟨h1,rfl,hy⟩:=qc7 hq
    injection hp with hp;subst hp
    simp only at hx x ⊢
    refine .inl ⟨?_,(h _ h1).body⟩
    rw [Bool.cond_eq_ite]
    split
    · rename_i hrows
      exact qcl (h _ h1) hy hx hrows
    · exact qcm (h _ h1) hy hx
  · cases hp
theorem qco {S:Spec} (h:COK P S) {x:dens S.τs} {r:S.R} {v:Bool} (hx:S.F x=some r) (he:S.enc r=(.bool v,[])) (w:World) {vs:List Value} (hv:VRs (Emb.fro fun k=>w.heap[k]?) (q87 S.τs x) vs) :
    Calls P S.g vs.toArray w fun e w'=>e=.returned (.bool v)∧∃ y,w'=ext w y:=by
  refine Calls.mono (h.ok x r hx w _ vs (fun _ _ h=>h) hv) fun e w' ⟨v',η',h1,h2,_,h4⟩=>?_
  rw [he] at h2
  cases h2
  exact ⟨h1,ext_of ⟨⟨h4.os,h4.tape,h4.output,h4.size,fun k hk=>h4.same k hk⟩,h4.drawn⟩⟩
end
end Go.Tx

namespace Go.Tx
open Go
def iter {X R:Type} (body:(X→Option R)→X→Option R):Nat→X→Option R
  | 0,_=>none
  | n+1,x=>body (iter body n) x
def regL:Code→Nat→Option (Array Oper)
  | .region i ops _,k=>bif Nat.beq i k then some ops else none
  | .seq a b,k=>match regL a k with | some x=>some x | none=>regL b k
  | .cond _ a b,k=>match regL a k with | some x=>some x | none=>regL b k
  | .block _ a,k=>regL a k
  | .loop a,k=>regL a k
  | .scope a,k=>regL a k
  | .rangeFunc _ _ a b,k=>match regL a k with | some x=>some x | none=>regL b k
  | _,_=>none
def qcp (ks:List Nat):List (Nat×LV)→List (Nat×LV)
  | []=>[]
  | p :: l=>bif memB ks p.1 then qcp ks l else p :: qcp ks l
theorem qcq (ks:List Nat):∀ (l:List (Nat×LV)) (p:Nat×LV),p∈qcp ks l→p∈l
  | [],_,h=>h
  | q :: l, p, h => by
    rw [qcp,Bool.cond_eq_ite] at h
    split at h
    · exact List.mem_cons_of_mem _ (qcq ks l p h)
    · rcases List.mem_cons.1 h with h | h
      · exact List.mem_cons.2 (.inl h)
      · exact List.mem_cons_of_mem _ (qcq ks l p h)
theorem qcs {w0:World} {φ0:Fz0} {N:Nat} {tm:List (Nat×LV)} {ob:List Ob} {s:St} {Q:Exit→Act→World→Prop} {e:Exit} (ks:List Nat) (hs:tnum (qcp ks tm) (q6n ob) some=some s) (h:Cn w0 φ0 N s Q e):Cn w0 φ0 N ⟨tm,ob⟩ Q e:=fun a w hss=>by
  obtain ⟨s',h1,h2⟩:=q7f hs
  injection h1 with h1;subst h1
  obtain ⟨⟨η,g1,g2,g3⟩,g4,g5⟩:=hss
  exact h a w (h2 w0 φ0 0 η w a N (g1 0) (fun n l hl=>g2 n l (qcq ks tm _ hl)) g3 g4 g5)
def qct (f:Func):Code:=match f.body with | some c=>c | none=>.skip
def regO (c:Code) (k:Nat):Array Oper:=match regL c k with | some x=>x | none=>#[]
def elt {α:Type} (z:α) (xs:List α) (i:Nat):α:=(xs[i]?).getD z
end Go.Tx

namespace Go.Pel
def qcu (n d:Int):Bool:=decide (1≤d∧n ≠ -9223372036854775808∧Nat.gcd d.toNat n.natAbs=1)
def qcv (n d:Int):Int:=if qcu n d then 0 else 8
theorem qcw {n d:Int} (h:d<1):qcv n d=8:=by unfold qcv qcu;rw [if_neg];simp;omega
theorem qcx {d:Int}:qcv (-9223372036854775808) d=8:=by unfold qcv qcu;rw [if_neg];simp
theorem qcy {n d:Int} (h1:1≤d) (h2:n ≠ -9223372036854775808) (h3:Nat.gcd d.toNat n.natAbs=1):qcv n d=0:=by unfold qcv qcu;rw [if_pos];simp;exact ⟨h1,h2,h3⟩
theorem qcz {n d:Int} (h3:Nat.gcd d.toNat n.natAbs≠1):qcv n d=8:=by unfold qcv qcu;rw [if_neg];simp;intro _ _;exact h3
theorem qd0 {n d:Int} (h:1≤d) (k:¬ 1<Nat.gcd d.toNat n.natAbs):Nat.gcd d.toNat n.natAbs=1:=by
  have:0<Nat.gcd d.toNat n.natAbs:=Nat.gcd_pos_of_pos_left _ (by omega)
  omega
theorem qd1 (n d:Int):qcv n d=0∨qcv n d=8:=by unfold qcv;split<;>simp
theorem qd2 {n d:Int} (h:qcv n d=0):1≤d∧n ≠ -9223372036854775808∧Nat.gcd d.toNat n.natAbs=1:=by
  unfold qcv qcu at h;split at h
  · rename_i h';simpa using h'
  · omega
def qd8 (i a b:Int):Bool:=decide (0≤i∧i≤65535∧-1048576≤a∧a≤1048576∧-1048576≤b∧b≤1048576)
def qd9 (i a b:Int):Int:=if qd8 i a b then 0 else 8
theorem qda {i a b:Int} (h:0≤i∧i≤65535∧-1048576≤a∧a≤1048576∧-1048576≤b∧b≤1048576):qd9 i a b=0:=by unfold qd9 qd8;rw [if_pos];simpa using h
theorem qdb {i a b:Int} (h:¬ (0≤i∧i≤65535∧-1048576≤a∧a≤1048576∧-1048576≤b∧b≤1048576)):qd9 i a b=8:=by unfold qd9 qd8;rw [if_neg];simpa using h
theorem qdc (i a b:Int):qd9 i a b=0∨qd9 i a b=8:=by unfold qd9;split<;>simp
theorem qdd {i a b:Int} (h:qd9 i a b=0):0≤i∧i≤65535∧-1048576≤a∧a≤1048576∧-1048576≤b∧b≤1048576:=by
  unfold qd9 qd8 at h;split at h
  · rename_i h';simpa using h'
  · omega
def far (n:Int):Bool:=decide (n < -1048576∨1048576<n)
theorem qdg (n:Int):far n=(decide (n < -1048576) || decide (1048576<n)):=by unfold far;rw [Bool.eq_iff_iff];simp
theorem qdj (n:Int):(far n=true)↔(n < -1048576∨1048576<n):=by unfold far;simp
theorem qdk (n:Int):(far n=false)↔(-1048576≤n∧n≤1048576):=by unfold far;simp
def bld (neg:Bool) (hi lo dhi dlo:Nat):Int×Int×Int :=
  if 0<hi∨9223372036854775807<lo∨0<dhi∨9223372036854775807<dlo then (0,0,16) else (if neg then -(lo:Int) else lo,dlo,0)
theorem qdl {neg:Bool} {hi lo dhi dlo:Nat} (h:0<hi∨9223372036854775807<lo∨0<dhi∨9223372036854775807<dlo):bld neg hi lo dhi dlo=(0,0,16):=by unfold bld;rw [if_pos h]
theorem qdm {hi lo dhi dlo:Nat} (h:¬ (0<hi∨9223372036854775807<lo∨0<dhi∨9223372036854775807<dlo)):bld true hi lo dhi dlo=(-(lo:Int),(dlo:Int),0):=by unfold bld;rw [if_neg h];rfl
theorem qdn {hi lo dhi dlo:Nat} (h:¬ (0<hi∨9223372036854775807<lo∨0<dhi∨9223372036854775807<dlo)):bld false hi lo dhi dlo=((lo:Int),(dlo:Int),0):=by unfold bld;rw [if_neg h];rfl
def mk (n d:Int):Int×Int×Int :=
  if d=0 then (0,0,26) else bld (decide (n<0) != decide (d<0)) 0 (n.natAbs / Nat.gcd n.natAbs d.natAbs) 0 (d.natAbs / Nat.gcd n.natAbs d.natAbs)
theorem qdp (n:Int):mk n 0=(0,0,26):=by unfold mk;rw [if_pos rfl]
theorem qdq {n d:Int} (h:d≠0):mk n d=bld (decide (n<0) != decide (d<0)) 0 (n.natAbs / Nat.gcd n.natAbs d.natAbs) 0 (d.natAbs / Nat.gcd n.natAbs d.natAbs):=by unfold mk;rw [if_neg h]
theorem qdr {n d:Int} (h:d≠0):1≤Nat.gcd n.natAbs d.natAbs:=Nat.gcd_pos_of_pos_right _ (by omega)
theorem qds {a g B:Nat} (h:a<B):a / g<B:=Nat.lt_of_le_of_lt (Nat.div_le_self _ _) h
theorem qdt {n d:Int} (h:d≠0):mk n d=bld (!(decide (n<0) == decide (d<0))) 0 (n.natAbs / Nat.gcd n.natAbs d.natAbs) 0 (d.natAbs / Nat.gcd n.natAbs d.natAbs):=qdq h
end Go.Pel

namespace Go
namespace RegC
section
variable {P:Program} {ops:Array Oper} {md:Region.Mode} {C:World→Prop}

def anyC (P:Program) (md:Region.Mode) (ops:Array Oper) (C:World→Prop) (n:Nat) (L:Array Bool→Act→Prop):Nat→Array Bool→Act→Prop
  | 0,li,a=>L li a
  | f+1,li,a=>Region.ready md ops li ≠ []∧∀ i∈Region.ready md ops li,i<n∧qOp P ops C i (anyC P md ops C n L f (li.setIfInBounds i true)) a

theorem qdw {n g:Nat} {L:Array Bool→Act→Prop} {Q':Exit→Act→World→Prop}
    (hL:∀ li a w,C w→L li a→wpAny P md ops Q' g li a w) :
    ∀ (f:Nat) (li:Array Bool) (a:Act) (w:World),C w→anyC P md ops C n L f li a→wpAny P md ops Q' (f+g) li a w:=by
  intro f
  induction f with
  | zero=>intro li a w hw h;rw [Nat.zero_add];exact hL _ _ _ hw h
  | succ f ih =>
    intro li a w hw h
    rw [show f+1+g=(f+g)+1 from by omega]
    exact ⟨fun h0=>absurd h0 h.1,fun i hi=>wpOp_of_qOp hw (fun a' w' hw' h'=>ih _ a' w' hw' h') (h.2 i hi).2⟩

theorem qdx {n i:Nat} {oi:Oper} {v:Value} {L:Array Bool→Act→Prop} (hi:ops[i]?=some oi)
    (hsel:∀ (j:Nat) (o:Oper) cs b,ops[j]?=some o→o.op ≠ .select cs b)
    (hs:Region.sinkB md ops n=true) (hc:Region.chainB md ops n=true) (hn:n<ops.size) (hin:i<n)
    (hdone:∀ li a,L li a→∀ j∈Region.ready md ops li,n≤j) :
    ∀ (f:Nat) (li:Array Bool) (a:Act),HeadInv md ops n li →
      (∀ j oj,ops[j]?=some oj→j≠i→li.getD j true=false→(∀ e∈oj.after,Region.binds md e=true→e.on≠i)→oi.apart ops oj=true) →
      i∈Region.ready md ops li→YieldsIn P ops C oi v a →
      anyC P md ops C n L f (li.setIfInBounds i true) (a.put oi.dst v)→anyC P md ops C n L (f+1) li a:=by
  intro f
  induction f with
  | zero =>
    intro li a inv _ hr hy H
    refine ⟨fun h=>(by rw [h] at hr;cases hr),fun j hj=>?_⟩
    have hjn:j<n:=Nat.lt_of_not_le fun h=>tail_waits hs hc hn inv _ i rfl hin (mem_ready.1 hr).1 j h hj
    refine ⟨hjn,?_⟩
    by_cases hji:j=i
    · subst hji;exact hy.qOp hi H
    · have:=hdone _ _ H j (ready_mono hj hji);omega
  | succ f ih =>
    intro li a inv hfree hr hy H
    have hun:=(mem_ready.1 hr).1
    refine ⟨fun h=>(by rw [h] at hr;cases hr),fun j hj=>?_⟩
    have hjn:j<n:=Nat.lt_of_not_le fun h=>tail_waits hs hc hn inv _ i rfl hin hun j h hj
    refine ⟨hjn,?_⟩
    by_cases hji:j=i
    · subst hji;exact hy.qOp hi H
    · have h1 := (H.2 j (ready_mono hj hji)).2
      obtain ⟨hjun,oj,hoj,hall⟩:=mem_ready.1 hj
      have hnot:∀ e∈oj.after,Region.binds md e=true→e.on≠i:=fun e he hb heq=>by
        have h3:=hall e he hb
        rw [heq,getD_both hun] at h3
        cases h3
      have h2:=qOp_put hoj (hfree j oj hoj hji hjun hnot) (fun cs b=>hsel i oi cs b hi) (fun cs b=>hsel j oj cs b hoj) hy h1
      refine qOp_mono (fun a' h3=>ih (li.setIfInBounds j true) a' (inv.set hj hjn) (fun k ok hk hki hunk hno=>?_) (ready_mono hr (Ne.symm hji)) h3.1 ?_) h2
      · refine hfree k ok hk hki ?_ hno
        by_cases hjk:j=k
        · subst hjk;exact hjun
        · rw [getD_set_ne true hjk] at hunk;exact hunk
      · rw [Array.setIfInBounds_comm _ _ hji]
        exact h3.2

theorem qdy {n g:Nat} {Lq:Act→Prop} (hsel:Region.noSelect ops=true) (hs:Region.sinkB md ops n=true) (hc:Region.chainB md ops n=true) (hn:n<ops.size) :
    ∀ (l:List Oper) (k:Nat) (li:Array Bool) (a:Act),(∀ j,j<l.length→l[j]?=ops[k+j]?)→k+l.length=n→HeadInv md ops n li →
    Region.lexHead md ops g l.length k li=true→wpQuiet P ops C Lq l a →
    anyC P md ops C n (fun li' a'=>Region.seqB md ops g n li'=true∧Lq a') l.length li a
  | [], k, li, a, _, hk, _, hB, h => by
    obtain rfl:k=n:=by simpa using hk
    exact ⟨by simpa [Region.lexHead] using hB,h⟩
  | o :: l, k, li, a, hl, hk, inv, hB, h => by
    have h0:ops[k]?=some o:=by simpa using (hl 0 (by simp)).symm
    simp only [List.length_cons,Region.lexHead,Bool.and_eq_true] at hB
    obtain ⟨⟨hr,hf⟩,hB'⟩:=hB
    have hkn:k<n:=by simp only [List.length_cons] at hk;omega
    have hr':k∈Region.ready md ops li:=by simpa using hr
    have hst:qOp P ops C k (wpQuiet P ops C Lq l) a:=by unfold qOp;simp only [h0];exact h
    obtain ⟨v,hy,hK⟩:=yieldsIn_of_qOp h0 hst
    exact qdx h0 (Region.noSelect_spec hsel) hs hc hn hkn (fun li' a' hL=>seqB_ready hL.1) l.length li a inv (Region.free_spec h0 hf) hr' hy
      (qdy hsel hs hc hn l (k+1) _ _ (fun j hj=>by have:=hl (j+1) (by simp;omega);simpa [Nat.add_assoc,Nat.add_comm 1 j] using this)
        (by simp only [List.length_cons] at hk;omega) (inv.set hr' hkn) hB' hK)

theorem qdz {id:Nat} {Q:Exit→Act→World→Prop} {a:Act} {w:World} {l:List Oper} (n:Nat) (hm:P.follows .mixedOrders=true) (hB:Region.lexTailB .any l.toArray n=true)
    (hC:C { w with drawn:=w.drawn+1 })
    (h:wpQuiet P l.toArray C (fun a'=>∀ w',C w'→wpList P l.toArray Q (l.drop n) a' w') (l.take n) a):(Code.region id l.toArray true).wp P Q a w:=by
  simp only [Region.lexTailB,Bool.and_eq_true,decide_eq_true_eq] at hB
  obtain ⟨⟨⟨⟨hsel,hn⟩,hs⟩,hc⟩,hlex⟩:=hB
  have hn':n<l.length:=by simpa using hn
  have htl:(l.take n).length=n:=by simp;omega
  have hdl:(l.drop n).length=l.toArray.size - n:=by simp
  have inv0:HeadInv .any l.toArray n (Array.replicate l.toArray.size false) :=
    ⟨by simp,fun j oj _ hl=>(by rw [getD_replicate_false] at hl;cases hl),fun t _ ht=>getD_in (by simpa using ht) (getD_replicate_false _ _)⟩
  have H:=qdy (C:=C) (md:=.any) (g:=l.toArray.size - n) hsel hs hc hn (l.take n) 0 _ a (fun j hj=>by
    have hj':j<n:=by rw [htl] at hj;exact hj
    simp [hj']) (by simpa using htl) inv0 (by rw [htl];exact hlex) h
  refine wp_region_any hm ?_
  have:=qdw (Q':=Q) (g:=l.toArray.size - n) (fun li a' w' hw' hL=>by
    have:=wpAny_of_seq (md:=.any) (Q':=Q) (l.drop n) n li a' w' (fun j=>by simp [List.getElem?_drop]) (by rw [hdl];exact hL.1) (hL.2 w' hw')
    rwa [hdl] at this) _ _ _ _ hC H
  rw [htl,show n+(l.toArray.size - n)=l.toArray.size from by omega] at this
  exact this
end

theorem wpQuiet_split {P:Program} {ops:Array Oper} {C:World→Prop} {Q:Act→Prop} {a:Act} {o:Oper} {rest:List Oper} {j:Nat} {want b:Bool}
    (_hg:o.guard=some (j,want)) (_hy:yielded ops a.tmps j=some b) (ht:b=true→wpQuiet P ops C Q (o :: rest) a) (hf:b=false→wpQuiet P ops C Q (o :: rest) a):wpQuiet P ops C Q (o :: rest) a:=by
  cases b
  · exact hf rfl
  · exact ht rfl

section
variable {P:Program}
theorem wp_region_ext0 {id:Nat} {Q:Exit→Act→World→Prop} {a:Act} {w:World} {l:List Oper} (hm:P.follows .mixedOrders=true) (hB:Region.lexB .any l.toArray=true)
    (h:wpQuiet P l.toArray (fun w'=>∃ x,w'=ext w x) (fun a'=>∀ w',(∃ x,w'=ext w x)→Q .normal a' w') l a):(Code.region id l.toArray true).wp P Q a w :=
  wp_region_quiet (C:=fun w'=>∃ x,w'=ext w x) hm hB (Go.ext_of ((Bel.refl w).drewN 1)) (by simpa using h)
theorem wp_region_ext1 {id:Nat} {Q:Exit→Act→World→Prop} {a:Act} {w:World} {z:Beyond} {l:List Oper} (hm:P.follows .mixedOrders=true) (hB:Region.lexB .any l.toArray=true)
    (h:wpQuiet P l.toArray (fun w'=>∃ x,w'=ext w (z.and x)) (fun a'=>∀ w',(∃ x,w'=ext w (z.and x))→Q .normal a' w') l a):(Code.region id l.toArray true).wp P Q a (ext w z) :=
  wp_region_quiet (C:=fun w'=>∃ x,w'=ext w (z.and x)) hm hB (Go.ext_of1 ((Bel.refl (ext w z)).drewN 1)) (by simpa using h)
theorem wp_region_tail0 {id:Nat} {Q:Exit→Act→World→Prop} {a:Act} {w:World} {l:List Oper} (n:Nat) (hm:P.follows .mixedOrders=true) (hB:Region.lexTailB .any l.toArray n=true)
    (h:wpQuiet P l.toArray (fun w'=>∃ x,w'=ext w x) (fun a'=>∀ w',(∃ x,w'=ext w x)→wpList P l.toArray Q (l.drop n) a' w') (l.take n) a):(Code.region id l.toArray true).wp P Q a w :=
  qdz (C:=fun w'=>∃ x,w'=ext w x) n hm hB (Go.ext_of ((Bel.refl w).drewN 1)) h
theorem wp_region_tail1 {id:Nat} {Q:Exit→Act→World→Prop} {a:Act} {w:World} {z:Beyond} {l:List Oper} (n:Nat) (hm:P.follows .mixedOrders=true) (hB:Region.lexTailB .any l.toArray n=true)
    (h:wpQuiet P l.toArray (fun w'=>∃ x,w'=ext w (z.and x)) (fun a'=>∀ w',(∃ x,w'=ext w (z.and x))→wpList P l.toArray Q (l.drop n) a' w') (l.take n) a):(Code.region id l.toArray true).wp P Q a (ext w z) :=
  qdz (C:=fun w'=>∃ x,w'=ext w (z.and x)) n hm hB (Go.ext_of1 ((Bel.refl (ext w z)).drewN 1)) h
end
end RegC
end Go
namespace Go
namespace RegC
def passes (P:Program) (rest:Code) (l:Nat) (Q:Exit→Act→World→Prop):Nat→Act→World→Prop
  | 0,_,_=>False
  | n+1,a,w=>rest.wp P (Exit.jump l (passes P rest l Q n) Q) a w
end RegC
end Go

namespace Go
theorem qe3 {p:Program} {w w':World} {a:Addr} {u:TypeId} {k:Addr} {v:Value} {b:Bool} {l:List Addr} (h:w.viewStore p a u k v b=.ok (w',l)):w'.drawn=w.drawn:=by
  unfold World.viewStore at h
  simp only [bind,Except.bind,pure,Except.pure,throw,throwThe,MonadExceptOf.throw] at h
  repeat' (split at h<;>try (cases h;done))
  all_goals (try (cases h;rfl))
theorem qe4 {p:Program} {w w':World} {a:Addr} {v:Value} {b:Bool} {l:List Addr} (h:w.farStore p a v b=.ok (w',l)):w'.drawn=w.drawn:=by
  unfold World.farStore at h
  split at h
  · split at h
    · cases h;exact qe3 ‹_›
    · cases h
  · cases h
theorem qe5 {α:Type}:∀ (x:Ask α) (w:World),w.drawn≤(w.ask x).2.drawn
  | .done _,_=>Nat.le_refl _
  | .ask what range k, w => by
    unfold World.ask
    dsimp only
    split
    · exact qe5 (k 0) w
    · exact Nat.le_trans (Nat.le_succ _) (qe5 (k _) { w with drawn:=w.drawn+1 })
theorem qe6 (w:World) (c:Sys):w.drawn≤(w.sys c).2.drawn:=by
  have h:=qe5 (Kernel.perform c w.os) w
  unfold World.sys
  split
  · exact Nat.le_refl _
  · rename_i heq;rw [heq] at h;exact h
theorem qe7 (w:World) (a:Addr) (n:Nat):(w.freeze a n).drawn=w.drawn:=by unfold World.freeze;split<;>rfl
theorem qe8 {α:Type} {P:Program}:∀ (s:Sem α) (w w':World) (v:α),s.run P w=.ok v w'→w.drawn≤w'.drawn:=by
  intro s
  induction s with
  | pure a=>intro w w' v h;unfold Sem.run at h;cases h;exact Nat.le_refl _
  | load m a k ih =>
    intro w w' v h;unfold Sem.run at h
    split at h
    · exact ih _ _ _ _ h
    · split at h
      · exact ih _ _ _ _ h
      · cases h
  | store m a u k ih =>
    intro w w' v h
    cases u<;>simp only [Sem.run] at h
    all_goals first
      | (cases h;done)
      | (split at h
         · split at h
           · cases h
           · have:=ih _ _ _ h;exact this
         · split at h
           · have := ih _ _ _ h
             rw [qe4 ‹_›] at this;exact this
           · cases h)
  | new o k ih=>intro w w' v h;unfold Sem.run at h;have:=ih _ _ _ _ h;exact this
  | shape r k ih=>intro w w' v h;unfold Sem.run at h;have:=ih _ _ _ _ h;exact this
  | freeze a n k ih=>intro w w' v h;unfold Sem.run at h;have:=ih _ _ _ h;rwa [qe7] at this
  | frozen a k ih=>intro w w' v h;unfold Sem.run at h;have:=ih _ _ _ _ h;exact this
  | getObj r k ih =>
    intro w w' v h;unfold Sem.run at h
    split at h
    · cases h
    · exact ih _ _ _ _ h
    · cases h
  | setObj r o k ih =>
    intro w w' v h;unfold Sem.run at h
    split at h
    · cases h
    · have:=ih _ _ _ h;exact this
    · cases h
  | choose q k ih =>
    intro w w' v h;unfold Sem.run at h
    split at h
    · exact ih _ _ _ _ h
    · exact Nat.le_trans (Nat.le_succ _) (ih _ _ _ _ h)
  | sys c k ih=>intro w w' v h;unfold Sem.run at h;exact Nat.le_trans (qe6 w c) (ih _ _ _ _ h)
  | program k ih=>intro w w' v h;unfold Sem.run at h;have:=ih _ _ _ _ h;exact this
  | mark m k ih=>intro w w' v h;unfold Sem.run at h;exact ih _ _ _ h
  | halt h0=>intro w w' v h;unfold Sem.run at h;cases h
section
variable {P:Program}
theorem qe9 {w:World} {o:Oper} {a:Act} {K:Act→World→Prop} {Q:Exit→Act→World→Prop} (s x:Operand) (t:TypeId)
    (ho:o.op=.call { callee:=.builtin .append,args:=#[s,x],argTypes:=#[t,t] })
    (base:Nat) (e:TypeId) (i:TypeInfo) (z:Value) (size bytes:Nat) (ht:P.underlying t=some (.slice e)) (hi:P.info? e=some i) (hz:i.zero=some z)
    (hsize:i.size=size) (hby:i.bytes=bytes) (hzs:z.cells.size=size) (hsz:0<size)
    (v:Value) (n:Nat) (xs:List Value) (hs:a.eval s=v) (hown:w.ownsRow base e size v n xs)
    (ad:Addr) (m c:Nat) (news:List Value) (hx:a.eval x=.slice (some ad) m c) (hl:news.length=m*size) (hnews:∀ j u,news[j]?=some u→w.cell? (ad.add j)=some u) (h1:∀ u∈news,u.oneCell'=true)
    (h63:n+m≤maxLen) (hbytes:(n+m)*bytes≤140737488355328) (hbase:base≤w.heap.size)
    (h:∀ v' w',w'.ownsRow base e size v' (n+m) (xs++news)→w.grownBy w' v.ownBlock→w.drawn≤w'.drawn→K (a.put o.dst v') w'):o.wp P a w K Q:=by
  obtain ⟨v',w',hr,h2,h3,h4⟩:=run_append_own (P:=P) w base t o.type e i z size bytes ht hi hz hsize hby hzs hsz v n xs hown ad m c news hl hnews h1 h63 hbytes hbase
  unfold Oper.wp execOp
  simp only [ho,resolve,invoke,builtin,Sem.run_bind,Sem.run_pure,Result.andThen_ok,List.map_toArray,List.map_cons,List.map_nil,hs,hx,hr]
  exact h v' w' h2 h3 (qe8 _ _ _ _ hr)
theorem qea {w:World} {ops:Array Oper} {rest:List Oper} {o:Oper} {a:Act} {Q:Exit→Act→World→Prop} (hgd:o.guard=none) (s x:Operand) (t:TypeId)
    (ho:o.op=.call { callee:=.builtin .append,args:=#[s,x],argTypes:=#[t,t] })
    (base:Nat) (e:TypeId) (i:TypeInfo) (z:Value) (size bytes:Nat) (ht:P.underlying t=some (.slice e)) (hi:P.info? e=some i) (hz:i.zero=some z)
    (hsize:i.size=size) (hby:i.bytes=bytes) (hzs:z.cells.size=size) (hsz:0<size)
    (v:Value) (n:Nat) (xs:List Value) (hs:a.eval s=v) (hown:w.ownsRow base e size v n xs)
    (ad:Addr) (m c:Nat) (news:List Value) (hx:a.eval x=.slice (some ad) m c) (hl:news.length=m*size) (hnews:∀ j u,news[j]?=some u→w.cell? (ad.add j)=some u) (h1:∀ u∈news,u.oneCell'=true)
    (h63:n+m≤maxLen) (hbytes:(n+m)*bytes≤140737488355328) (hbase:base≤w.heap.size)
    (h:∀ v' w',w'.ownsRow base e size v' (n+m) (xs++news)→w.grownBy w' v.ownBlock→w.drawn≤w'.drawn→wpList P ops Q rest (a.put o.dst v') w'):wpList P ops Q (o :: rest) a w :=
  wpList_plain hgd fun _ hK=>qe9 s x t ho base e i z size bytes ht hi hz hsize hby hzs hsz v n xs hs hown ad m c news hx hl hnews h1 h63 hbytes hbase fun v' w' h2 h3 h4=>hK _ _ (h v' w' h2 h3 h4)
end
end Go

namespace Go
open RowKit
def Sl (w:World) (size:Nat) (A:Option Addr) (n c:Nat) (xs:List Value):Prop :=
  n≤c∧xs.length=n*size∧(0<n→∃ b o,A=some ⟨b,o,none⟩∧b<w.heap.size∧∀ j u,xs[j]?=some u→w.cell? ⟨b,o+j,none⟩=some u)
def Own (w:World) (base:Nat) (e:TypeId) (size:Nat) (A:Option Addr) (n c:Nat) (xs:List Value):Prop:=w.ownsRow base e size (.slice A n c) n xs
structure SlT (P:Program) (t e:TypeId) (z:Value) (size bytes:Nat):Prop where
  und:P.underlying t=some (.slice e)
  info:(P.info? e).map (fun i=>(i.zero,i.size,i.bytes))=some (some z,size,bytes)
  zs:z.cells.size=size
  pos:0<size
  small:bytes≤1024

section
variable {w:World} {size n c:Nat} {A:Option Addr} {xs:List Value}
theorem Sl.len (h:Sl w size A n c xs):xs.length=n*size:=h.2.1
theorem Sl.cap (h:Sl w size A n c xs):n≤c:=h.1
theorem Sl.ext (h:Sl w size A n c xs) (x:Beyond):Sl (ext w x) size A n c xs :=
  ⟨h.1,h.2.1,fun hn=>by
    obtain ⟨b,o,rfl,hb,hc⟩:=h.2.2 hn
    exact ⟨b,o,rfl,by rw [q8d];omega,fun j u hu=>by rw [qbb w x b _ hb];exact hc j u hu⟩⟩
theorem Sl.bel {w':World} (h:Sl w size A n c xs) (hb:Bel w w'):Sl w' size A n c xs:=by
  obtain ⟨x,rfl⟩:=ext_of hb;exact h.ext x
theorem Sl.nil_ (w:World) (size c:Nat) (A:Option Addr):Sl w size A 0 c []:=⟨Nat.zero_le _,by simp,fun h=>absurd h (by omega)⟩
theorem Sl.take (h:Sl w size A n c xs) {k:Nat} (hk:k≤n):Sl w size A k c (xs.take (k*size)) :=
  ⟨Nat.le_trans hk h.1,by rw [List.length_take,h.2.1];exact Nat.min_eq_left (Nat.mul_le_mul_right _ hk),fun hn=>by
    obtain ⟨b,o,rfl,hb,hc⟩:=h.2.2 (by omega)
    refine ⟨b,o,rfl,hb,fun j u hu=>hc j u ?_⟩
    rw [List.getElem?_take] at hu
    split at hu
    · exact hu
    · cases hu⟩
theorem Sl.cell {b o:Nat} (h:Sl w size (some ⟨b,o,none⟩) n c xs) {j:Nat} {u:Value} (hu:xs[j]?=some u):w.cell? ⟨b,o+j,none⟩=some u:=by
  have hl:j<xs.length:=(List.getElem?_eq_some_iff.1 hu).1
  have hn:0<n:=Nat.pos_of_ne_zero fun h0=>by rw [h.2.1,h0,Nat.zero_mul] at hl;omega
  obtain ⟨b',o',hA,_,hc⟩:=h.2.2 hn
  injection hA with hA
  injection hA with h1 h2
  subst h1 h2
  exact hc j u hu
theorem Sl.at_ (h:Sl w size A n c xs) (hn:0<n):∃ b o,A=some ⟨b,o,none⟩∧b<w.heap.size:=by
  obtain ⟨b,o,hA,hb,_⟩:=h.2.2 hn;exact ⟨b,o,hA,hb⟩
theorem Own.nil_ (w:World) (base:Nat) (e:TypeId) (size:Nat):Own w base e size none 0 0 []:=World.ownsRow_nil w base e size
theorem Own.len {base:Nat} {e:TypeId} (h:Own w base e size A n c xs):xs.length=n*size:=h.1
theorem Own.cap {base:Nat} {e:TypeId} (h:Own w base e size A n c xs):n≤c:=by
  rcases h.2 with ⟨h1,h2⟩ | ⟨g,cap,cur,hv,_,_,hnc,_⟩
  · omega
  · injection hv with _ _ h3;omega
theorem Own.at_ {base:Nat} {e:TypeId} (h:Own w base e size A n c xs) (hn:0<n):∃ g,A=some ⟨g,0,none⟩∧base≤g∧g<w.heap.size:=by
  rcases h.2 with ⟨h1,h2⟩ | ⟨g,cap,cur,hv,hg,hh,_⟩
  · omega
  · injection hv with h1
    refine ⟨g,h1,hg,Nat.lt_of_not_le fun hle=>?_⟩
    rw [Array.getElem?_eq_none hle] at hh;cases hh
theorem Own.block {base:Nat} {e:TypeId} (h:Own w base e size A n c xs):(Value.slice A n c).ownBlock=none ∨ ∃ g,(Value.slice A n c).ownBlock=some g∧base≤g∧g<w.heap.size:=by
  cases hA:(Value.slice A n c).ownBlock with
  | none=>exact .inl rfl
  | some g=>exact .inr ⟨g,rfl,World.ownsRow.lt h g hA⟩
theorem Own.sl {base:Nat} {e:TypeId} (h:Own w base e size A n c xs):Sl w size A n c xs :=
  ⟨h.cap,h.len,fun hn=>by
    obtain ⟨g,rfl,_,hlt⟩:=h.at_ hn
    refine ⟨g,0,rfl,hlt,fun j u hu=>?_⟩
    have hj:j<n*size:=by rw [← h.len];exact (List.getElem?_eq_some_iff.1 hu).1
    rw [Nat.zero_add,World.ownsRow.cellAt h j hj,hu]⟩
theorem Own.bel {base:Nat} {e:TypeId} {w':World} (h:Own w base e size A n c xs) (hb:Bel w w'):Own w' base e size A n c xs:=by
  refine World.ownsRow.kept (row:=none) h ⟨hb.os,hb.tape,hb.output,hb.size,fun k hk _=>hb.block k hk⟩ ?_
  rcases h.block with h0 | ⟨g,h0,_⟩
  · exact .inl h0
  · exact .inr (by rw [h0];exact fun e=>by cases e)
theorem Own.ext {base:Nat} {e:TypeId} (h:Own w base e size A n c xs) (x:Beyond):Own (ext w x) base e size A n c xs:=h.bel (q8h w x)
theorem Own.alloc {base:Nat} {e:TypeId} (h:Own w base e size A n c xs) (ob:Obj):Own (w.alloc ob) base e size A n c xs:=h.bel ((Bel.refl w).alloc ob)
theorem Own.base_le {base base':Nat} {e:TypeId} (h:Own w base e size A n c xs) (hb:base'≤base):Own w base' e size A n c xs:=by
  obtain ⟨h1,h2⟩:=h
  refine ⟨h1,?_⟩
  rcases h2 with h2 | ⟨g,cap,cur,hv,hg,r⟩
  · exact .inl h2
  · exact .inr ⟨g,cap,cur,hv,Nat.le_trans hb hg,r⟩
end

section
variable {P:Program} {ops:Array Oper} {rest:List Oper} {o:Oper} {a:Act} {Q:Exit→Act→World→Prop}
theorem qec {t e:TypeId} {z:Value} {size bytes:Nat} (hT:SlT P t e z size bytes) {wB W:World} (hb:Bel wB W)
    {kl kc:IntKind} {n:Nat} (hlen:n≤4294967296)
    (hgd:o.guard=none) (l c:Operand) (ho:o.op=.makeSlice t l c) (hl:a.eval l=.int kl n) (hc:a.eval c=.int kc n)
    (h:∀ g y,wB.heap.size≤g→Own (ext wB y) wB.heap.size e size (some ⟨g,0,none⟩) n n (madeCells z.cells (n*size)).toList→wpList P ops Q rest (a.put o.dst (.slice (some ⟨g,0,none⟩) n n)) (ext wB y)):wpList P ops Q (o :: rest) a W:=by
  obtain ⟨i,hi,hz0,hz1,hz2⟩:=info_parts hT.info
  have hby:i.bytes*n≤281474976710656:=by rw [hz2,Nat.mul_comm];exact Nat.le_trans (Nat.mul_le_mul hlen hT.small) (by decide)
  obtain ⟨w',hrun,hown,hg⟩:=run_make_full (P:=P) W wB.heap.size t e i z size hT.und hi hz0 hz1 kl kc n hby (Nat.le_trans hlen (by unfold maxLen;decide)) hb.size
  have hbel:Bel wB w':=hb.grown hg (fun k hk=>by cases hk) (qe8 _ _ _ _ hrun)
  refine wpList_plain hgd fun K hK=>?_
  unfold Oper.wp
  simp [execOp,ho,hl,hc,hrun,Result.andThen]
  obtain ⟨y,rfl⟩:=ext_of hbel
  exact hK _ _ (h _ y hb.size hown)
end
end Go
namespace Go
open RowKit
theorem qee {w:World} {base:Nat} {e:TypeId} {size g n c:Nat} {xs:List Value} (h:Own w base e size (some ⟨g,0,none⟩) n c xs) {j:Nat} {u:Value} (hu:xs[j]?=some u):w.cell? ⟨g,j,none⟩=some u:=by
  rw [World.ownsRow.cellAt h j (by rw [← h.len];exact (List.getElem?_eq_some_iff.1 hu).1),hu]
theorem qef {w:World} {base:Nat} {e:TypeId} {size g n c:Nat} {xs:List Value} (h:Own w base e size (some ⟨g,0,none⟩) n c xs) (j:Nat):w.frozen? ⟨g,j,none⟩=false:=World.ownsRow.frozenAt h j
def vb (l:List UInt8):List Value:=l.map fun x=>.int .u8 (x.toNat:Int)
end Go

namespace Go
open RowKit
section
variable {P:Program}
end
end Go

namespace Go
open RowKit
theorem qer {w W0 W:World} {base:Nat} {e:TypeId} {size n c:Nat} {A:Option Addr} {xs:List Value} (hb:Bel w W) (h:Own W0 base e size A n c xs) (h0:Bel W0 W) (hbase:w.heap.size≤base):∃ x,W=ext w x∧Own (ext w x) w.heap.size e size A n c xs:=by
  obtain ⟨x,hx⟩:=ext_of hb
  exact ⟨x,hx,by rw [← hx];exact (h.bel h0).base_le hbase⟩
end Go

namespace Go
theorem qet {W:World} {g n size:Nat} {cs:Array Value} (hg:g<W.heap.size) (hs:cs.size=n*size) (h:∀ j:Nat,W.cell? ⟨g,j,none⟩=cs[j]?):Sl W size (some ⟨g,0,none⟩) n n cs.toList :=
  ⟨Nat.le_refl _,by simpa using hs,fun _=>⟨g,0,rfl,hg,fun j u hu=>by rw [Nat.zero_add,h];simpa using hu⟩⟩
end Go

namespace Go
open RowKit
theorem qeu (W:World) (cs:Array Value) (e:TypeId) (size g:Nat) (hg:g=W.heap.size) (hs:cs.size=size):Sl (W.alloc (.cells cs e)) size (some ⟨g,0,none⟩) 1 1 cs.toList:=by
  subst hg
  exact qet (by simp) (by simpa using hs) (fun j=>by simp [go_sem])
section
variable {P:Program} {ops:Array Oper} {rest:List Oper} {o:Oper} {a:Act} {Q:Exit→Act→World→Prop}
end
end Go

namespace Go
open RowKit
section
variable {P:Program}
end
end Go

namespace Go
open RowKit
section
variable {P:Program} {ops:Array Oper} {rest:List Oper} {o:Oper} {a:Act} {Q:Exit→Act→World→Prop}
theorem qf2 {t e:TypeId} {z:Value} {size bytes:Nat} (hT:SlT P t e z size bytes) {wB W0 W1 W:World} (hb:Bel wB W)
    {A:Option Addr} {n c:Nat} {xs:List Value} (hown:Own W0 wB.heap.size e size A n c xs) (hb0:Bel W0 W)
    {A1:Option Addr} {m c':Nat} {news:List Value} (hsrc:Sl W1 size A1 m c' news) (hb1:Bel W1 W) (h1:∀ u∈news,u.oneCell'=true) (hnil:A1=none→c'=0) (hlen:n+m≤4294967296)
    (hgd:o.guard=none) (s x:Operand) (ho:o.op=.call { callee:=.builtin .append,args:=#[s,x],argTypes:=#[t,t] })
    (hs:a.eval s=.slice A n c) (hx:a.eval x=.slice A1 m c')
    (h:∀ A' c'' y,Own (ext wB y) wB.heap.size e size A' (n+m) c'' (xs++news)→wpList P ops Q rest (a.put o.dst (.slice A' (n+m) c'')) (ext wB y)):wpList P ops Q (o :: rest) a W:=by
  obtain ⟨i,hi,hz0,hz1,hz2⟩:=info_parts hT.info
  have hown':=hown.bel hb0
  cases A1 with
  | none =>
    have hm:m=0:=Nat.eq_zero_of_not_pos fun hp=>by obtain ⟨b,o',hA,_⟩:=hsrc.at_ hp;cases hA
    subst hm
    obtain rfl:=hnil rfl
    have hn:news=[]:=List.eq_nil_of_length_eq_zero (by simpa using hsrc.len)
    subst hn
    obtain ⟨y,rfl⟩:=ext_of hb
    have hrun:=run_append_owned_none (P:=P) (w:=ext wB y) wB.heap.size t o.type e i size hT.und hi _ n xs hown'
    refine wpList_plain hgd fun K hK=>?_
    unfold Oper.wp execOp
    simp only [ho,resolve,invoke,builtin,Sem.run_bind,Sem.run_pure,Result.andThen_ok,List.map_toArray,List.map_cons,List.map_nil,hs,hx,hrun]
    exact hK _ _ (h A c y (by simpa using hown'))
  | some ad =>
    have hby:(n+m)*bytes≤140737488355328:=Nat.le_trans (Nat.mul_le_mul hlen hT.small) (by decide)
    have hsrc':=hsrc.bel hb1
    refine qea hgd s x t ho wB.heap.size e i z size bytes hT.und hi hz0 hz1 hz2 hT.zs hT.pos _ n xs hs hown' ad m c' news hx hsrc'.len
      (fun j u hu=>?_) h1 (Nat.le_trans hlen (by unfold maxLen;decide)) hby hb.size fun v' w' hown2 hg hmono=>?_
    · have hl : j < news.length := (List.getElem?_eq_some_iff.1 hu).1
      have hp:0<m:=Nat.pos_of_ne_zero fun h0=>by rw [hsrc'.len,h0,Nat.zero_mul] at hl;omega
      obtain ⟨b,o',hA,_⟩:=hsrc'.at_ hp
      injection hA with hA
      subst hA
      have hj:=hsrc'.cell hu
      unfold Addr.add
      split
      · rename_i h0;rw [h0] at hj;exact hj
      · exact hj
    · have hbel:Bel wB w':=hb.grown hg (fun k hk=>by
        rcases hown'.block with h0 | ⟨g,h0,hge,_⟩
        · rw [h0] at hk;cases hk
        · rw [h0] at hk;injection hk with hk;omega) hmono
      obtain ⟨y,rfl⟩:=ext_of hbel
      have hv:∃ A' c'',v'=.slice A' (n+m) c'':=by
        rcases hown2.2 with ⟨hv,hn⟩ | ⟨g,cap,cur,hv,_⟩
        · exact ⟨none,0,by rw [hv,hn]⟩
        · exact ⟨_,_,hv⟩
      obtain ⟨A',c'',rfl⟩:=hv
      exact h A' c'' y hown2
end
end Go

namespace Go
theorem qf3 {w W0 W:World} {base:Nat} {e:TypeId} {size n c:Nat} {A:Option Addr} {xs:List Value} (hb:Bel w W) (h:Own W0 base e size A n c xs) (h0:Bel W0 W):∃ y,W=ext w y∧Own (ext w y) base e size A n c xs:=by
  obtain ⟨y,hy⟩:=ext_of hb
  exact ⟨y,hy,by rw [← hy];exact h.bel h0⟩
end Go

namespace Go
open RowKit
section
variable {P:Program} {ops:Array Oper} {rest:List Oper} {o:Oper} {a:Act} {Q:Exit→Act→World→Prop}
end
end Go

namespace Go
open RowKit
theorem qf5 {wB W:World} (hb:Bel wB W) (cs:Array Value) (e:TypeId) (size n g:Nat) (hg:g=W.heap.size) (hn:n≤maxLen) (hs:cs.size=n*size):Own (W.alloc (.cells cs e)) wB.heap.size e size (some ⟨g,0,none⟩) n n cs.toList:=by
  subst hg
  exact World.ownsRow_lit W cs n hb.size hn hs
theorem qf9 {V V':World} {y:Beyond} {base:Nat} {e:TypeId} {size n c:Nat} {A:Option Addr} {xs:List Value} (hs:V.heap.size=V'.heap.size) (h:Own (ext V y) base e size A n c xs) (hb:V.heap.size≤base):Own (ext V' y) base e size A n c xs:=by
  obtain ⟨h1,h2⟩:=h
  refine ⟨h1,?_⟩
  rcases h2 with h2 | ⟨g,cap,cur,hv,hg,hh,r⟩
  · exact .inl h2
  · refine .inr ⟨g, cap, cur, hv, hg, ?_, r⟩
    have e1:(ext V y).heap=V.heap++y.objs:=by unfold ext;rfl
    have e2:(ext V' y).heap=V'.heap++y.objs:=by unfold ext;rfl
    rw [e1,Array.getElem?_append_right (by omega)] at hh
    rw [e2,Array.getElem?_append_right (by omega),← hs]
    exact hh
section
variable {P:Program} {ops:Array Oper} {rest:List Oper} {o:Oper} {a:Act} {Q:Exit→Act→World→Prop}
theorem qfa {w:World} {j:Nat} {want:Bool} (hg:o.guard=some (j,want)) (hy:yielded ops a.tmps j=some want) (h:wpList P ops Q ({ o with guard:=none } :: rest) a w):wpList P ops Q (o :: rest) a w:=by
  have h1:Region.wanted o (yielded ops a.tmps)=true:=by simp [Region.wanted,hg,hy]
  unfold wpList at h ⊢
  rw [if_pos h1]
  exact h
theorem qfc {t e:TypeId} {z:Value} {size bytes:Nat} (hT:SlT P t e z size bytes) {wB W1 W:World} (hb:Bel wB W)
    {A1:Option Addr} {m c':Nat} {news:List Value} (hsrc:Sl W1 size A1 m c' news) (hb1:Bel W1 W) (h1:∀ u∈news,u.oneCell'=true) (hnil:A1=none→c'=0) (hlen:m≤4294967296)
    (hgd:o.guard=none) (s x:Operand) (ho:o.op=.call { callee:=.builtin .append,args:=#[s,x],argTypes:=#[t,t] }) {g:Nat}
    (hs:a.eval s=.slice (some ⟨g,0,none⟩) 0 0) (hx:a.eval x=.slice A1 m c') (hg:g=W.heap.size)
    (h:∀ A' c'' y,Own (ext wB y) wB.heap.size e size A' m c'' news→wpList P ops Q rest (a.put o.dst (.slice A' m c'')) (ext wB y)):wpList P ops Q (o :: rest) a (W.alloc (.cells #[] e)):=by
  refine qf2 hT (hb.alloc _) (qf5 hb #[] e size 0 g hg (Nat.zero_le _) (by simp)) (Bel.refl _) hsrc (hb1.alloc _) h1 hnil (by omega) hgd s x ho hs hx fun A' c'' y hown=>?_
  rw [Nat.zero_add] at hown ⊢
  exact h A' c'' y hown
end
end Go

namespace Go
open RowKit
section
variable {α:Type} {cells:α→List Value} {k:Nat}
theorem qfd (hk:∀ a,(cells a).length=k) (l:List α):(l.flatMap cells).length=l.length*k:=by
  induction l with
  | nil=>simp
  | cons x l ih=>rw [List.flatMap_cons,List.length_append,ih,hk,List.length_cons,Nat.add_mul];omega
theorem qfe (hk:∀ a,(cells a).length=k) {l:List α} {i:Nat} {x:α} (h:l[i]?=some x) (j:Nat) (hj:j<k):(l.flatMap cells)[i*k+j]?=(cells x)[j]?:=by
  induction l generalizing i with
  | nil=>simp at h
  | cons y l ih =>
    rw [List.flatMap_cons]
    cases i with
    | zero =>
      simp only [List.getElem?_cons_zero,Option.some.injEq] at h
      subst h
      rw [Nat.zero_mul,Nat.zero_add,List.getElem?_append_left (by rw [hk];exact hj)]
    | succ i =>
      rw [List.getElem?_append_right (by rw [hk,Nat.add_mul];omega),hk]
      have e:(i+1)*k+j - k=i*k+j:=by rw [Nat.add_mul];omega
      rw [e];exact ih (by simpa using h)
theorem qff (hk:∀ a,(cells a).length=k) (l:List α) (n:Nat):(l.flatMap cells).take (n*k)=(l.take n).flatMap cells:=by
  induction l generalizing n with
  | nil=>simp
  | cons x l ih =>
    cases n with
    | zero=>simp
    | succ n =>
      rw [List.flatMap_cons,List.take_succ_cons,List.flatMap_cons,List.take_append]
      rw [hk,List.take_of_length_le (by rw [hk,Nat.add_mul];omega),show (n+1)*k - k=n*k by rw [Nat.add_mul];omega,ih]
theorem qfg (hk:∀ a,(cells a).length=k) (l:List α) (n:Nat):(l.flatMap cells).drop (n*k)=(l.drop n).flatMap cells:=by
  induction l generalizing n with
  | nil=>simp
  | cons x l ih =>
    cases n with
    | zero=>simp
    | succ n =>
      rw [List.flatMap_cons,List.drop_succ_cons,List.drop_append,hk,List.drop_of_length_le (by rw [hk,Nat.add_mul];omega),show (n+1)*k - k=n*k by rw [Nat.add_mul];omega,ih]
      simp
theorem qfh (l:List α) (x:α):(l ++ [x]).flatMap cells=l.flatMap cells++cells x:=by simp
theorem qfi (h:∀ a,∀ u∈cells a,u.oneCell'=true) (l:List α):∀ u∈l.flatMap cells,u.oneCell'=true:=by
  intro u hu
  obtain ⟨x,_,hx⟩:=List.mem_flatMap.1 hu
  exact h x u hx
theorem qfj {w:World} {b o n c i:Nat} {l:List α} {x:α} (hk:∀ a,(cells a).length=k) (h:Sl w k (some ⟨b,o,none⟩) n c (l.flatMap cells)) (hx:l[i]?=some x) {j:Nat} {u:Value} (hj:(cells x)[j]?=some u):w.cell? ⟨b,o+i*k+j,none⟩=some u:=by
  have hjk:j<k:=by rw [← hk x];exact (List.getElem?_eq_some_iff.1 hj).1
  have:=h.cell (j:=i*k+j) (u:=u) (by rw [qfe hk hx j hjk];exact hj)
  rwa [← Nat.add_assoc] at this
theorem qfk {w:World} {A:Option Addr} {n c i:Nat} {l:List α} (hk:∀ a,(cells a).length=k) (h:Sl w k A n c (l.flatMap cells)) (hi:i≤n):Sl w k A i c ((l.take i).flatMap cells):=by
  rw [← qff hk];exact h.take hi
end
end Go
namespace Go
section
variable {α:Type} {cells:α→List Value} {k:Nat}
theorem qfl {w:World} {b o n c i:Nat} {l:List α} (hk:∀ a,(cells a).length=k) (h:Sl w k (some ⟨b,o,none⟩) n c (l.flatMap cells)) (hi:i≤n):Sl w k (some ⟨b,o+i*k,none⟩) (n - i) (c - i) ((l.drop i).flatMap cells):=by
  rw [← qfg hk]
  exact ⟨by have:=h.1;omega,by rw [List.length_drop,h.2.1,Nat.sub_mul],fun hn=>by
    obtain ⟨b',o',hA,hb,hc⟩:=h.2.2 (by omega)
    injection hA with hA
    injection hA with e1 e2
    subst e1 e2
    refine ⟨b,_,rfl,hb,fun j u hu=>?_⟩
    rw [List.getElem?_drop] at hu
    rw [Nat.add_assoc]
    exact hc _ u hu⟩
end
end Go
namespace Go
theorem qfm {w W:World} (hb:Bel w W) {e:TypeId} {size B:Nat}:∃ x,W=ext w x∧Own (ext w x) B e size none 0 0 []:=by
  obtain ⟨x,hx⟩:=ext_of hb
  exact ⟨x,hx,Own.nil_ _ _ _ _⟩
theorem qfn (w:World) (e:TypeId) (size:Nat) (B:Nat):∃ x,w=ext w x∧Own (ext w x) B e size none 0 0 []:=by
  obtain ⟨x,hx⟩:=ext_of (Bel.refl w)
  exact ⟨x,hx,Own.nil_ _ _ _ _⟩
end Go

namespace Go.Pel
open Go
structure Pt where
  id:Int
  a:Int
  b:Int
  deriving DecidableEq
def Pt.zero:Pt:=⟨0,0,0⟩
def Pt.cells (p:Pt):List Value:=[.int .i64 p.id,.int .i64 p.a,.int .i64 p.b]
def Pt.chk (p:Pt):Int:=qd9 p.id p.a p.b
structure Pt.Fits (p:Pt):Prop where
  id:-9223372036854775808≤p.id∧p.id≤9223372036854775807
  a:-9223372036854775808≤p.a∧p.a≤9223372036854775807
  b:-9223372036854775808≤p.b∧p.b≤9223372036854775807
def vp (l:List Pt):List Value:=l.flatMap Pt.cells
theorem qfo (p:Pt):p.cells.length=3:=rfl
theorem qfp (p:Pt):∀ u∈p.cells,u.oneCell'=true:=by
  intro u hu
  simp only [Pt.cells,List.mem_cons,List.not_mem_nil,or_false] at hu
  rcases hu with rfl | rfl | rfl<;>rfl
theorem qfq (l:List Pt):∀ u∈vp l,u.oneCell'=true:=qfi qfp l
theorem qfr (l:List Pt):(vp l).length=l.length*3:=qfd qfo l
theorem qfs (l:List Pt) (p:Pt):vp (l ++ [p])=vp l++p.cells:=qfh l p
theorem qft (l m:List Pt):vp (l++m)=vp l++vp m:=by simp [vp]
theorem qfu {w:World} {b o n c i:Nat} {l:List Pt} {p:Pt} (h:Sl w 3 (some ⟨b,o,none⟩) n c (vp l)) (hx:l[i]?=some p) :
    w.cell? ⟨b,o+i*3,none⟩=some (.int .i64 p.id)∧w.cell? ⟨b,o+i*3+1,none⟩=some (.int .i64 p.a)∧w.cell? ⟨b,o+i*3+2,none⟩=some (.int .i64 p.b) :=
  ⟨qfj qfo h hx (j:=0) rfl,qfj qfo h hx (j:=1) rfl,qfj qfo h hx (j:=2) rfl⟩
def incB:List Pt→Bool
  | []=>true
  | [_]=>true
  | p :: q :: r=>decide (p.id<q.id)&&incB (q :: r)
theorem qfv (l:List Pt):incB l=true ↔ ∀ (i:Nat) (p q:Pt),l[i]?=some p→l[i+1]?=some q→p.id<q.id:=by
  induction l with
  | nil=>simp [incB]
  | cons x l ih =>
    cases l with
    | nil=>simp [incB]
    | cons y r =>
      simp only [incB,Bool.and_eq_true,decide_eq_true_eq,ih]
      constructor
      · rintro ⟨h0, h⟩ i p q hp hq
        cases i with
        | zero=>simp at hp hq;rw [← hp,← hq];exact h0
        | succ i=>exact h i p q (by simpa using hp) (by simpa using hq)
      · intro h
        exact ⟨h 0 x y rfl rfl,fun i p q hp hq=>h (i+1) p q (by simpa using hp) (by simpa using hq)⟩
theorem qfw {l:List Pt} (h:incB l=true) {i j:Nat} (hij:i<j) {p q:Pt} (hp:l[i]?=some p) (hq:l[j]?=some q):p.id<q.id:=by
  induction j generalizing q with
  | zero=>omega
  | succ j ih =>
    rcases Nat.lt_or_ge i j with hlt | hge
    · have hjl : j < l.length := by have := (List.getElem?_eq_some_iff.1 hq).1; omega
      obtain ⟨m,hm⟩:∃ m,l[j]?=some m:=⟨_,List.getElem?_eq_getElem hjl⟩
      have h1:=ih hlt hm
      have h2:=(qfv l).1 h j m q hm hq
      omega
    · obtain rfl : i = j := by omega
      exact (qfv l).1 h i p q hp hq
def qfx (l:List Pt):Int:=if 64<l.length then 4 else if ∀ p∈l,p.chk=0 then (if incB l then 0 else 32) else 8
theorem qfy {l:List Pt} (h:64<l.length):qfx l=4:=if_pos h
theorem qfz {l:List Pt} (h:l.length≤64) {p:Pt} (hp:p∈l) (hc:p.chk≠0):qfx l=8:=by
  unfold qfx;rw [if_neg (by omega),if_neg];intro h';exact hc (h' p hp)
theorem qg0 {l:List Pt} (h:l.length≤64) (hc:∀ p∈l,p.chk=0) (hi:incB l=false):qfx l=32:=by
  unfold qfx;rw [if_neg (by omega),if_pos hc,hi];rfl
theorem qg1 {l:List Pt} (h:l.length≤64) (hc:∀ p∈l,p.chk=0) (hi:incB l=true):qfx l=0:=by
  unfold qfx;rw [if_neg (by omega),if_pos hc,hi];rfl
theorem qg2 {l:List Pt} (h:qfx l=0):l.length≤64∧(∀ p∈l,p.chk=0)∧incB l=true:=by
  unfold qfx at h
  split at h
  · omega
  · split at h
    · rename_i h1 h2
      refine ⟨by omega,h2,?_⟩
      split at h
      · assumption
      · omega
    · omega
theorem qg4 {p:Pt} (h:p.chk=0):0≤p.id∧p.id≤65535∧-1048576≤p.a∧p.a≤1048576∧-1048576≤p.b∧p.b≤1048576:=qdd h
theorem qg5 (p:Pt):p.chk=0∨p.chk=8:=qdc _ _ _
def lowB (l:List Pt) (id:Int):Nat:=(l.takeWhile fun p=>decide (p.id<id)).length
theorem qg6 (l:List Pt) (id:Int):lowB l id≤l.length:=by unfold lowB;exact (List.takeWhile_prefix _).length_le
theorem qg7 {l:List Pt} {id:Int} {k:Nat} (hk:k≤l.length) (h1:∀ (i:Nat) (p:Pt),i<k→l[i]?=some p→p.id<id) (h2:∀ p,l[k]?=some p→id≤p.id):lowB l id=k:=by
  unfold lowB
  induction l generalizing k with
  | nil=>simp at hk;simp [hk]
  | cons x l ih =>
    cases k with
    | zero =>
      have:=h2 x rfl
      rw [List.takeWhile_cons_of_neg (by simp;omega)];rfl
    | succ k =>
      have:=h1 0 x (by omega) rfl
      rw [List.takeWhile_cons_of_pos (by simpa using this),List.length_cons,ih (by simpa using hk) (fun i p hi hp=>h1 (i+1) p (by omega) (by simpa using hp)) (fun p hp=>h2 p (by simpa using hp))]
theorem qg8 {l:List Pt} {id:Int} {i:Nat} {p:Pt} (hi:i<lowB l id) (hp:l[i]?=some p):p.id<id:=by
  induction l generalizing i with
  | nil=>simp at hp
  | cons x l ih =>
    unfold lowB at hi
    by_cases hx:x.id<id
    · rw [List.takeWhile_cons_of_pos (by simpa using hx), List.length_cons] at hi
      cases i with
      | zero=>simp at hp;subst hp;exact hx
      | succ i=>exact ih (i:=i) (by unfold lowB;omega) (by simpa using hp)
    · rw [List.takeWhile_cons_of_neg (by simpa using hx)] at hi
      simp at hi
theorem qg9 {l:List Pt} {id:Int} {p:Pt} (hp:l[lowB l id]?=some p):id≤p.id:=by
  unfold lowB at hp
  induction l with
  | nil=>simp at hp
  | cons x l ih =>
    by_cases hx:x.id<id
    · rw [List.takeWhile_cons_of_pos (by simpa using hx), List.length_cons] at hp
      exact ih (by simpa using hp)
    · rw [List.takeWhile_cons_of_neg (by simpa using hx)] at hp
      simp at hp
      subst hp;omega
def hasB (l:List Pt) (id:Int):Bool:=l.any fun p=>decide (p.id=id)
theorem qga {l:List Pt} (h:incB l=true) (id:Int):hasB l id=(match l[lowB l id]? with | some p=>decide (p.id=id) | none=>false):=by
  cases hb:l[lowB l id]? with
  | none =>
    have hlen:l.length≤lowB l id:=by simpa using hb
    unfold hasB
    rw [List.any_eq_false]
    intro p hp
    obtain ⟨i,hi⟩:=List.getElem?_of_mem hp
    have:i<l.length:=(List.getElem?_eq_some_iff.1 hi).1
    have:=qg8 (id:=id) (by omega) hi
    simp;omega
  | some q =>
    have hge:=qg9 hb
    simp only
    by_cases hq:q.id=id
    · rw [decide_eq_true hq]
      unfold hasB
      rw [List.any_eq_true]
      exact ⟨q,List.mem_of_getElem? hb,by simpa using hq⟩
    · rw [decide_eq_false hq]
      unfold hasB
      rw [List.any_eq_false]
      intro p hp
      obtain ⟨i,hi⟩:=List.getElem?_of_mem hp
      rcases Nat.lt_trichotomy i (lowB l id) with hlt | rfl | hgt
      · have:=qg8 hlt hi;simp;omega
      · rw [hb] at hi;obtain rfl:=Option.some.inj hi;simpa using hq
      · have:=qfw h hgt hb hi;simp;omega
def atI (l:List Pt) (id:Int):Int:=if hasB l id then ((l.takeWhile fun p=>decide (p.id≠id)).length:Int) else -1
theorem qgc {l:List Pt} {id:Int} {k:Nat} {p:Pt} (h1:∀ (i:Nat) (p:Pt),i<k→l[i]?=some p→p.id≠id) (hk:l[k]?=some p) (hp:p.id=id):atI l id=k:=by
  have hb:hasB l id=true:=by
    unfold hasB;rw [List.any_eq_true];exact ⟨p,List.mem_of_getElem? hk,by simpa using hp⟩
  unfold atI;rw [hb,if_pos rfl]
  congr 1
  clear hb
  induction l generalizing k with
  | nil=>simp at hk
  | cons x l ih =>
    cases k with
    | zero =>
      simp at hk;subst hk
      rw [List.takeWhile_cons_of_neg (by simpa using hp)];rfl
    | succ k =>
      have:=h1 0 x (by omega) rfl
      rw [List.takeWhile_cons_of_pos (by simpa using this),List.length_cons,ih (k:=k) (fun i p hi hp=>h1 (i+1) p (by omega) (by simpa using hp)) (by simpa using hk)]
theorem qge {l:List Pt} (h:incB l=true) {id:Int} (hb:hasB l id=true):atI l id=lowB l id∧∃ p,l[lowB l id]?=some p∧p.id=id:=by
  rw [qga h] at hb
  cases hq:l[lowB l id]? with
  | none=>rw [hq] at hb;cases hb
  | some q =>
    rw [hq] at hb
    simp only [decide_eq_true_eq] at hb
    exact ⟨qgc (fun i p hi hp=>by have:=qg8 (l:=l) (id:=id) hi hp;omega) hq hb,q,rfl,hb⟩
def qgf (l:List Pt) (id:Int):Pt×Int:=if qfx l≠0 then (Pt.zero,qfx l) else if hasB l id then (l.getD (lowB l id) Pt.zero,0) else (Pt.zero,6)
def qgg (l:List Pt) (p:Pt):List Pt×Int :=
  if qfx l≠0 then ([],qfx l) else if p.chk≠0 then ([],8) else if hasB l p.id then ([],14) else if l.length=64 then ([],18) else (l.take (lowB l p.id)++p :: l.drop (lowB l p.id),0)
def vi (l:List Int):List Value:=l.map (Value.int .i64)
end Go.Pel

namespace Go
open RowKit
def Row (w:World) (base:Nat) (e:TypeId) (size g cap:Nat) (cur:List Value):Prop :=
  base≤g∧w.heap[g]?=some (.cells cur.toArray e (0,0))∧cap≤maxLen∧cur.length=cap*size
section
variable {w:World} {base:Nat} {e:TypeId} {size g cap:Nat} {cur:List Value}
theorem Row.lt (h:Row w base e size g cap cur):g<w.heap.size:=(Array.getElem?_eq_some_iff.1 h.2.1).1
theorem Row.len (h:Row w base e size g cap cur):cur.length=cap*size:=h.2.2.2
theorem Row.own (h:Row w base e size g cap cur) {n:Nat} (hn:n≤cap):Own w base e size (some ⟨g,0,none⟩) n cap (cur.take (n*size)) :=
  ⟨by rw [List.length_take,h.len];exact Nat.min_eq_left (Nat.mul_le_mul_right _ hn),.inr ⟨g,cap,cur.toArray,rfl,h.1,h.2.1,hn,h.2.2.1,by simpa using h.len,by simp⟩⟩
theorem Own.row {A:Option Addr} {n c:Nat} {xs:List Value} (h:Own w base e size A n c xs):(A=none∧n=0∧c=0∧xs=[]) ∨ ∃ g cur,A=some ⟨g,0,none⟩∧Row w base e size g c cur∧n≤c∧cur.take (n*size)=xs:=by
  rcases h.2 with ⟨hv,hn⟩ | ⟨g,cap,cur,hv,hb,hg,hnc,hm,hs,ht⟩
  · injection hv with h1 h2 h3
    refine .inl ⟨h1,hn,h3,List.eq_nil_of_length_eq_zero ?_⟩
    rw [h.1,hn,Nat.zero_mul]
  · injection hv with h1 h2 h3
    subst h1 h3
    exact .inr ⟨g,cur.toList,rfl,⟨hb,by simpa using hg,hm,by simpa using hs⟩,hnc,ht⟩
theorem Row.cell (h:Row w base e size g cap cur) {j:Nat} {u:Value} (hu:cur[j]?=some u):w.cell? ⟨g,j,none⟩=some u:=by
  simp [World.cell?,h.2.1,hu]
theorem Row.frozen (h:Row w base e size g cap cur) (j:Nat):w.frozen? ⟨g,j,none⟩=false:=by
  simp [World.frozen?,h.2.1]
theorem Row.sl (h:Row w base e size g cap cur) {i n c:Nat} {xs:List Value} (hi:i+n≤cap) (hnc:n≤c) (hx:(cur.drop (i*size)).take (n*size)=xs):Sl w size (some ⟨g,i*size,none⟩) n c xs:=by
  have hle:i*size+n*size≤cap*size:=by rw [← Nat.add_mul];exact Nat.mul_le_mul_right _ hi
  refine ⟨hnc,by rw [← hx,List.length_take,List.length_drop,h.len];omega,fun _=>⟨g,_,rfl,h.lt,fun j u hu=>h.cell ?_⟩⟩
  rw [← hx,List.getElem?_take] at hu
  split at hu
  · rwa [List.getElem?_drop] at hu
  · cases hu
theorem Row.set (h:Row w base e size g cap cur) {cur':List Value} (hs:cur'.length=cur.length):Row (w.setRow g cur'.toArray) base e size g cap cur' :=
  ⟨h.1,setRow_heap w g _ _ e _ h.2.1,h.2.2.1,by rw [hs];exact h.len⟩
theorem Row.bel_set (h:Row w base e size g cap cur) {wB:World} (hb:Bel wB w) (hB:wB.heap.size≤g) (cur':Array Value):Bel wB (w.setRow g cur') :=
  ⟨⟨hb.os,hb.tape,hb.output,by unfold World.setRow;simpa using hb.size,fun k hk=>by rw [setRow_other w g k cur' (by omega)];exact hb.block k hk⟩,hb.mono⟩
theorem Row.bel {w':World} (h:Row w base e size g cap cur) (hb:Bel w w'):Row w' base e size g cap cur:=⟨h.1,by rw [hb.block g h.lt];exact h.2.1,h.2.2⟩
theorem Row.base_le {base':Nat} (h:Row w base e size g cap cur) (hb:base'≤base):Row w base' e size g cap cur:=⟨Nat.le_trans hb h.1,h.2⟩
theorem Row.alloc_new (W:World) {base cap:Nat} (cs:Array Value) (e:TypeId) {size:Nat} (hB:base≤W.heap.size) (hm:cap≤maxLen) (hs:cs.size=cap*size):Row (W.alloc (.cells cs e)) base e size W.heap.size cap cs.toList :=
  ⟨hB,by unfold World.alloc;simp,hm,by simpa using hs⟩
end
section
variable {P:Program} {ops:Array Oper} {rest:List Oper} {o:Oper} {a:Act} {Q:Exit→Act→World→Prop}
theorem qgj {t e:TypeId} {z:Value} {size bytes:Nat} (hT:SlT P t e z size bytes) {W:World} {base g cap:Nat} {cur:List Value} (hg:Row W base e size g cap cur) (off dLen dCap:Nat) {ad:Addr} {sLen sCap:Nat} {cs:List Value} (ty:TypeId)
    (hn:cs.length=Nat.min sLen dLen*size) (hsrc:∀ j v,cs[j]?=some v→W.cell? (ad.add j)=some v) (hfit:off+cs.length≤cur.length) (h1:∀ v∈cs,v.oneCell'=true) :
    (Builtin.copy_ #[t,t] ty #[.slice (some ⟨g,off,none⟩) dLen dCap,.slice (some ad) sLen sCap]).run P W=.ok (goInt (Nat.min sLen dLen)) (W.setRow g (cur.take off++cs++cur.drop (off+cs.length)).toArray):=by
  obtain ⟨i,hi,hz0,hz1,hz2⟩:=info_parts hT.info
  have hl:=run_loadCells_list (P:=P) W ad cs hsrc
  have hst:=run_storeCells_at P g off e cs 0 cur.toArray W hg.2.1 (by simpa using hfit) h1
  simp only [Nat.add_zero] at hst
  have hcnt:Nat.min sLen dLen*i.size=cs.length:=by rw [hz1,hn]
  simp [Builtin.copy_,run_underlying hT.und,Builtin.lenOf,Builtin.firstCells,sizeOf,typeInfo,hi,hcnt,hl,hst]
theorem qgk {t e:TypeId} {z:Value} {size bytes:Nat} (hT:SlT P t e z size bytes) {W:World} {base g cap:Nat} {cur:List Value} (hg:Row W base e size g cap cur) (off dLen dCap:Nat) {b so sLen sCap:Nat} (cs:List Value)
    (hn:cs.length=Nat.min sLen dLen*size) (hsrc:∀ j v,cs[j]?=some v→W.cell? ⟨b,so+j,none⟩=some v) (hfit:off+cs.length≤cur.length) (h1:∀ v∈cs,v.oneCell'=true)
    (hgd:o.guard=none) (d s:Operand) (ho:o.op=.call { callee:=.builtin .copy,args:=#[d,s],argTypes:=#[t,t] })
    (hd:a.eval d=.slice (some ⟨g,off,none⟩) dLen dCap) (hs:a.eval s=.slice (some ⟨b,so,none⟩) sLen sCap)
    (h:wpList P ops Q rest (a.put o.dst (goInt (Nat.min sLen dLen))) (W.setRow g (cur.take off++cs++cur.drop (off+cs.length)).toArray)):wpList P ops Q (o :: rest) a W:=by
  have hr:=qgj (P:=P) hT hg off dLen dCap (ad:=⟨b,so,none⟩) (sLen:=sLen) (sCap:=sCap) (cs:=cs) o.type hn (fun j v hj=>by
    have e1:(⟨b,so,none⟩:Addr).add j=⟨b,so+j,none⟩:=by
      unfold Addr.add;split
      · rename_i h0;rw [h0];rfl
      · rfl
    rw [e1];exact hsrc j v hj) hfit h1
  refine wpList_plain hgd fun K hK=>?_
  unfold Oper.wp execOp
  simp only [ho,resolve,invoke,builtin,Sem.run_bind,Sem.run_pure,Result.andThen_ok,List.map_toArray,List.map_cons,List.map_nil,hd,hs,hr]
  exact hK _ _ h
theorem Row.oth {W:World} {base g cap:Nat} {e:TypeId} {size:Nat} {cur cur':List Value} (hg:Row W base e size g cap cur) {s b so n c:Nat} {xs:List Value} (hne:b≠g) (h:Sl W s (some ⟨b,so,none⟩) n c xs):Sl (W.setRow g cur'.toArray) s (some ⟨b,so,none⟩) n c xs :=
  ⟨h.1,h.2.1,fun hn=>by
    obtain ⟨b',o',hA,hb,hc⟩:=h.2.2 hn
    injection hA with hA
    injection hA with e1 e2
    subst e1 e2
    refine ⟨b,so,rfl,by unfold World.setRow;simpa using hb,fun j u hu=>?_⟩
    have h1:=hc j u hu
    unfold World.cell? at h1 ⊢
    rw [setRow_other W g b _ hne];exact h1⟩
theorem qgl {t e:TypeId} {z:Value} {size bytes:Nat} (hT:SlT P t e z size bytes) {wB W:World} (hb:Bel wB W) {g cap:Nat} {cur:List Value} (hg:Row W wB.heap.size e size g cap cur) (off dLen dCap:Nat) {b so sLen sCap:Nat} (cs:List Value)
    (hn:cs.length=Nat.min sLen dLen*size) (hsrc:∀ j v,cs[j]?=some v→W.cell? ⟨b,so+j,none⟩=some v) (hfit:off+cs.length≤cur.length) (h1:∀ v∈cs,v.oneCell'=true)
    (hgd:o.guard=none) (d s:Operand) (ho:o.op=.call { callee:=.builtin .copy,args:=#[d,s],argTypes:=#[t,t] })
    (hd:a.eval d=.slice (some ⟨g,off,none⟩) dLen dCap) (hs:a.eval s=.slice (some ⟨b,so,none⟩) sLen sCap)
    (h:∀ W2 C,Hid (C=cur.take off++(cs++cur.drop (off+cs.length)))→Row W2 wB.heap.size e size g cap C→Bel wB W2→(∀ s b so n c xs,b≠g→Sl W s (some ⟨b,so,none⟩) n c xs→Sl W2 s (some ⟨b,so,none⟩) n c xs)→wpList P ops Q rest (a.put o.dst (goInt (Nat.min sLen dLen))) W2):wpList P ops Q (o :: rest) a W:=by
  refine qgk hT hg off dLen dCap cs hn hsrc hfit h1 hgd d s ho hd hs ?_
  rw [List.append_assoc]
  refine h _ _ (Lib.hid rfl) (hg.set ?_) (hg.bel_set hb hg.1 _) (fun s b so n c xs hne hS=>hg.oth hne hS)
  simp only [List.length_append,List.length_take,List.length_drop];omega
theorem qgn {t tn e:TypeId} {z:Value} {size bytes:Nat} (hT:SlT P t e z size bytes) (htn:P.underlying tn=some (.int .i64)) {wB W:World} (hb:Bel wB W) {b so n c k:Nat} {xs:List Value} (hsl:Sl W size (some ⟨b,so,none⟩) n c xs) (h0:0<k) (hg:c<n+k) (hlen:n+k≤4294967296) (hc:c≤4294967296)
    (hgd:o.guard=none) (s x:Operand) (ho:o.op=.call { callee:=.builtin .append,args:=#[s,x],argTypes:=#[t,tn] })
    (hs:a.eval s=.slice (some ⟨b,so,none⟩) n c) (hx:a.eval x=.int .i64 k)
    (h:∀ G W' cur,Bel wB W'→Bel W W'→Row W' wB.heap.size e size W.heap.size G cur→n+k≤G→cur.take (n*size)=xs→wpList P ops Q rest (a.put o.dst (.slice (some ⟨W.heap.size,0,none⟩) (n+k) G)) W'):wpList P ops Q (o :: rest) a W:=by
  obtain ⟨i,hi,hz0,hz1,hz2⟩:=info_parts hT.info
  have add0:∀ (b off j:Nat),(⟨b,off,none⟩:Addr).add j=⟨b,off+j,none⟩:=fun b off j=>by
    unfold Addr.add;split
    · rename_i h0;rw [h0];rfl
    · rfl
  have hold:(Builtin.firstCells i.size n (.slice (some ⟨b,so,none⟩) n c)).run P W.drew=.ok xs.toArray W.drew:=by
    have hl:=run_loadCells_list (P:=P) W.drew ⟨b,so,none⟩ xs (fun j v hj=>by rw [add0];exact (hsl.bel (Bel.refl W).drew).cell hj)
    have e1:n*i.size=xs.length:=by rw [hz1,hsl.len]
    simp [Builtin.firstCells,e1,hl]
  have hby:∀ m:Nat,m≤4294967296→m*i.bytes≤140737488355328:=fun m hm=>by rw [hz2];exact Nat.le_trans (Nat.mul_le_mul hm hT.small) (by decide)
  have hr:=Lib.run_append_grow_zeros (P:=P) W t tn o.type e i z .i64 .i64 hT.und htn hi hz0 (some ⟨b,so,none⟩) n c xs hold k h0 (by rw [hz1];exact hT.pos) hg (by omega) (Nat.le_trans (hby k (by omega)) (by decide))
    (growslice_fits (by omega) (hby _ hlen))
  have hGn:n+k≤grownCap W (n+k) c e:=grownCap_ge W _ _ _
  have hG2:=grownCap_le_maxLen W (n+k) c e (by unfold maxLen;omega)
  have hzc:∀ m,(Builtin.zeroCells z.cells m).size=m*size:=fun m=>by rw [size_zeroCells,hT.zs,Nat.mul_comm]
  refine wpList_plain hgd fun K hK=>?_
  unfold Oper.wp execOp
  simp only [ho,resolve,invoke,builtin,Sem.run_bind,Sem.run_pure,Result.andThen_ok,List.map_toArray,List.map_cons,List.map_nil,hs,hx,hr]
  refine hK _ _ (h _ _ _ ((hb.drew).alloc _) (((Bel.refl W).drew).alloc _) (Row.alloc_new W.drew _ e hb.size hG2 ?_) hGn ?_)
  · simp only [Array.size_append, hzc, List.size_toArray, hsl.len]
    rw [← Nat.add_mul,← Nat.add_mul]
    congr 1;omega
  · simp only [Array.toList_append, List.append_assoc]
    rw [← hsl.len,List.take_left]
end
end Go

namespace Go.Tx
open Go Go.Pel
def ofP (p:Int×Int×Int×Unit):Pt:=⟨p.1,p.2.1,p.2.2.1⟩
def toP (p:Pt):Int×Int×Int×Unit:=(p.id,p.a,p.b,())
def toI (n:Int):Int×Unit:=(n,())
abbrev RP:Row:=.int .i64 (.int .i64 (.int .i64 .nil))
abbrev RI:Row:=.int .i64 .nil
def qgt:(τ:Row)→den τ→List Value
  | .nil,_=>[]
  | .int k r,x=>.int k x.1 :: qgt r x.2
  | .bool r,x=>.bool x.1 :: qgt r x.2
  | .sl _ r,x=>qgt r x.2
def qgu (τ:Row):List (den τ)→List Value
  | []=>[]
  | x :: xs=>qgt τ x++qgu τ xs
abbrev TP:Type:=Int×Int×Int×Unit
abbrev TI1:Type:=Int×Unit
theorem qgv (l:List TP):qgu RP l=vp (l.map ofP):=by
  induction l with
  | nil=>rfl
  | cons p l ih=>show qgt RP p++qgu RP l=vp (ofP p :: l.map ofP);rw [ih];rfl
theorem qgw (l:List TI1):qgu RI l=vi (l.map fun x=>x.1):=by
  induction l with
  | nil=>rfl
  | cons p l ih=>show qgt RI p++qgu RI l=vi (p.1 :: l.map fun x=>x.1);rw [ih];rfl
theorem qgx:∀ (τ:Row),qbt τ=true→∀ x:den τ,(qgt τ x).length=τ.size
  | .nil,_,_=>rfl
  | .int _ r,h,x=>by rw [qgt,List.length_cons,qgx r h,Row.size]
  | .bool r,h,x=>by rw [qgt,List.length_cons,qgx r h,Row.size]
  | .sl _ r,h,_=>by cases h
theorem qgy {τ:Row} (h:qbt τ=true):∀ xs:List (den τ),(qgu τ xs).length=xs.length*τ.size
  | []=>by simp [qgu]
  | x :: xs=>by rw [qgu,List.length_append,qgx τ h,qgy h xs,List.length_cons,Nat.succ_mul];omega
theorem qgz {η:Emb}:∀ (τ:Row),qbt τ=true→∀ x:den τ,VRs η (split τ x) (qgt τ x)
  | .nil,_,_=>VRs.nil
  | .int _ r,h,x=>VRs.cons (.int _ _) (qgz r h x.2)
  | .bool r,h,x=>VRs.cons (.bool _) (qgz r h x.2)
  | .sl _ r,h,_=>by cases h
theorem qh0 {η:Emb} {τ:Row} (h:qbt τ=true):∀ xs:List (den τ),VRs η (flat τ xs) (qgu τ xs)
  | []=>VRs.nil
  | x :: xs=>(qgz τ h x).append (qh0 h xs)
theorem qh1 {φ:Nat→Option Obj} {w:World} (hφ:∀ k ob,φ k=some ob→w.heap[k]?=some ob) {b:Nat}:∀ (τ:Row),qbt τ=true→∀ (x:den τ) (o:Nat),RowF φ τ x b o→∀ (j:Nat) u,(qgt τ x)[j]?=some u→w.cell? ⟨b,o+j,none⟩=some u
  | .nil,_,_,_,_,j,u,hu=>by simp [qgt] at hu
  | .int k r, h, x, o, hr, j, u, hu => by
    cases j with
    | zero =>
      simp only [qgt,List.getElem?_cons_zero,Option.some.injEq] at hu;subst hu
      obtain ⟨ob,h1,h2⟩:=hr.1
      rw [Nat.add_zero,qf,hφ b ob h1];exact h2
    | succ j=>have:=qh1 hφ r h x.2 (o+1) hr.2 j u (by simpa [qgt] using hu);rwa [show o+1+j=o+(j+1) by omega] at this
  | .bool r, h, x, o, hr, j, u, hu => by
    cases j with
    | zero =>
      simp only [qgt,List.getElem?_cons_zero,Option.some.injEq] at hu;subst hu
      obtain ⟨ob,h1,h2⟩:=hr.1
      rw [Nat.add_zero,qf,hφ b ob h1];exact h2
    | succ j=>have:=qh1 hφ r h x.2 (o+1) hr.2 j u (by simpa [qgt] using hu);rwa [show o+1+j=o+(j+1) by omega] at this
  | .sl _ r,h,_,_,_,_,_,_=>by cases h
theorem qh2 {τ:Row} (h:qbt τ=true) (hs:0<τ.size) (xs:List (den τ)) (j:Nat) (hj:j<xs.length*τ.size):∃ x,xs[j / τ.size]?=some x∧(qgu τ xs)[j]?=(qgt τ x)[j % τ.size]?:=by
  induction xs generalizing j with
  | nil=>simp at hj
  | cons y ys ih =>
    rw [qgu]
    have hl:=qgx τ h y
    rcases Nat.lt_or_ge j τ.size with hlt | hge
    · refine ⟨y, by rw [Nat.div_eq_of_lt hlt]; rfl, ?_⟩
      rw [List.getElem?_append_left (by omega),Nat.mod_eq_of_lt hlt]
    · rw [List.length_cons, Nat.succ_mul] at hj
      obtain ⟨x,h1,h2⟩:=ih (j - τ.size) (by omega)
      have e1:j / τ.size=(j - τ.size) / τ.size+1:=by
        conv=>lhs;rw [show j=(j - τ.size)+τ.size by omega,Nat.add_div_right _ hs]
      have e2:j % τ.size=(j - τ.size) % τ.size:=by
        conv=>lhs;rw [show j=(j - τ.size)+τ.size by omega,Nat.add_mod_right]
      exact ⟨x,by rw [e1,List.getElem?_cons_succ];exact h1,by rw [List.getElem?_append_right (by omega),hl,h2,e2]⟩
theorem qh3 {φ:Nat→Option Obj} {w:World} (hφ:∀ k ob,φ k=some ob→w.heap[k]?=some ob) {τ:Row} (h:qbt τ=true) (hs:0<τ.size) {xs:List (den τ)} {v:Value} (hv:VR (Emb.fro φ) (.fz τ xs) v):∃ A c,v=.slice A xs.length c∧Sl w τ.size A xs.length c (qgu τ xs)∧(A=none→c=0):=by
  cases hv with
  | fz hf =>
    obtain ⟨A,c,rfl,h1,h0,h2⟩:=hf
    refine ⟨A,c,rfl,⟨h1,qgy h xs,fun hn=>?_⟩,h0⟩
    obtain ⟨b,o,rfl,hr0⟩:=h2 0 _ (q2f hn)
    refine ⟨b,o,rfl,?_,fun j u hu=>?_⟩
    · have hlen := qgx τ h (q2e τ xs 0)
      obtain ⟨u,hu⟩:∃ u,(qgt τ (q2e τ xs 0))[0]?=some u:=⟨_,List.getElem?_eq_getElem (by omega)⟩
      have:=qh1 hφ τ h _ _ hr0 0 u hu
      unfold World.cell? at this
      cases hb:w.heap[b]? with
      | none=>rw [show w.heap[(⟨b,o+0*τ.size+0,none⟩:Addr).block]?=w.heap[b]? from rfl,hb] at this;cases this
      | some ob=>exact (Array.getElem?_eq_some_iff.1 hb).1
    · have hj : j < xs.length * τ.size := by rw [← qgy h xs]; exact (List.getElem?_eq_some_iff.1 hu).1
      obtain ⟨x,h3,h4⟩:=qh2 h hs xs j hj
      obtain ⟨b',o',e1,e2⟩:=h2 _ x h3
      injection e1 with e1;injection e1 with e3 e4;subst e3 e4
      have:=qh1 hφ τ h x _ e2 (j % τ.size) u (by rw [← h4];exact hu)
      rwa [Nat.add_assoc,Nat.mul_comm,Nat.div_add_mod] at this
theorem qh4 {φ:Nat→Option Obj} {w:World} (hφ:∀ k ob,φ k=some ob→w.heap[k]?=some ob) {l:List TP} {v:Value} (hv:VR (Emb.fro φ) (.agg [.fz RP l]) v):∃ A c,v=.agg #[.slice A (l.map ofP).length c]∧Sl w 3 A (l.map ofP).length c (vp (l.map ofP))∧(A=none→c=0):=by
  cases hv with
  | agg hl hh =>
    obtain ⟨u,rfl,hu⟩:=vrs1 ⟨hl,hh⟩
    obtain ⟨A,c,rfl,h1,h2⟩:=qh3 hφ (τ:=RP) rfl (by decide) hu
    have e1:(l.map ofP).length=l.length:=List.length_map ofP
    have h3:Sl w 3 A l.length c (vp (l.map ofP)):=by rw [← qgv l];exact h1
    exact ⟨A,c,by rw [e1];rfl,by rw [e1];exact h3,h2⟩
theorem qh5 {φ:Nat→Option Obj} {w:World} (hφ:∀ k ob,φ k=some ob→w.heap[k]?=some ob) {l:List TI1} {v:Value} (hv:VR (Emb.fro φ) (.fz RI l) v):∃ A c,v=.slice A (l.map fun x=>x.1).length c∧Sl w 1 A (l.map fun x=>x.1).length c (vi (l.map fun x=>x.1))∧(A=none→c=0):=by
  obtain ⟨A,c,rfl,h1,h2⟩:=qh3 hφ (τ:=RI) rfl (by decide) hv
  have e1:(l.map fun x=>x.1).length=l.length:=List.length_map _
  have h3:Sl w 1 A l.length c (vi (l.map fun x=>x.1)):=by rw [← qgw l];exact h1
  exact ⟨A,c,by rw [e1];rfl,by rw [e1];exact h3,h2⟩
theorem qh6 {η:Emb} {p:den RP} {v:Value} (hv:VR η (.agg (split RP p)) v):v=.agg #[.int .i64 (ofP p).id,.int .i64 (ofP p).a,.int .i64 (ofP p).b]:=by
  cases hv with
  | agg hl hh =>
    obtain ⟨u1,vs,rfl,h1,h2⟩:=VRs.uncons (c:=.int .i64 p.1) ⟨hl,hh⟩
    obtain ⟨u2,vs,rfl,h3,h4⟩:=VRs.uncons (c:=.int .i64 p.2.1) h2
    obtain ⟨u3,rfl,h5⟩:=vrs1 (c:=.int .i64 p.2.2.1) h4
    cases h1;cases h3;cases h5;rfl
theorem qh7 {η:Emb} {a b:Int} {v:Value} (hv:VR η (.agg [.int .i64 a,.int .i64 b]) v):v=.agg #[.int .i64 a,.int .i64 b]:=by
  cases hv with
  | agg hl hh =>
    obtain ⟨u1,u2,rfl,h1,h2⟩:=vrs2 ⟨hl,hh⟩
    cases h1;cases h2;rfl
theorem qh8 {η:Emb} {k:IntKind} {a:Int} {v:Value} (hv:VR η (.int k a) v):v=.int k a:=by cases hv;rfl
theorem VR.tupL {η:Emb} {cs:List LV} {vs:List Value} (h:VRs η cs vs):VR η (.tup cs) (.tuple vs.toArray):=.tup h.1 h.2
theorem VR.aggL {η:Emb} {cs:List LV} {vs:List Value} (h:VRs η cs vs):VR η (.agg cs) (.agg vs.toArray):=.agg h.1 h.2
def qha (w:World) (φ:Nat→Option Obj) (er:LV×List Ob) (e:Ending) (w':World):Prop:=∃ v' η',e=.returned v'∧VR η' er.1 v'∧(∀ M,HR M η' (q6n er.2) w')∧Fr w (noK φ) (q6n er.2) η' w'
theorem qhb {w:World} {φ:Nat→Option Obj} (hφ:∀ k ob,φ k=some ob→w.heap[k]?=some ob) {l:LV} {v:Value} (hv:VR (Emb.fro φ) l v) (y:Beyond):qha w φ (l,[]) (.returned v) (ext w y):=by
  have hb:=q8h w y
  have h2:∀ k ob,φ k=some ob→(ext w y).heap[k]?=some ob:=fun k ob hk=>by rw [hb.block k (Array.getElem?_eq_some_iff.1 (hφ k ob hk)).1];exact hφ k ob hk
  exact ⟨v,_,rfl,hv,q89 h2,hb.size,fun k hk=>hb.block k hk,(fun k ⟨b,ob,L,h,_⟩=>by rw [q6q] at h;simp at h),fun _ _ h=>h,fun _ _ h=>.inl h,hb.os,hb.tape,hb.output,hb.mono,fun _ _ h=>h.elim⟩
theorem qhc {w:World} {φ:Nat→Option Obj} (hφ:∀ k ob,φ k=some ob→w.heap[k]?=some ob) {τ:Row} (hp:qbt τ=true) {xs:List (den τ)} {n:Nat} (hn:xs.length=n) {A:Option Addr} {c:Nat} {e:TypeId} {y:Beyond} {vals:List Value} (ho:Own (ext w y) w.heap.size e τ.size A n c vals) (hvals:qgu τ xs=vals)
    {l:LV} {v:Value} (hv:∀ η:Emb,η.hdr 0=some (.slice A n c)→VR η l v):qha w φ (l,[.rows τ xs]) (.returned v) (ext w y):=by
  subst hn
  have hb:=q8h w y
  have h2:∀ k ob,φ k=some ob→(ext w y).heap[k]?=some ob:=fun k ob hk=>by rw [hb.block k (Array.getElem?_eq_some_iff.1 (hφ k ob hk)).1];exact hφ k ob hk
  have hlt:∀ k ob,φ k=some ob→k<w.heap.size:=fun k ob hk=>(Array.getElem?_eq_some_iff.1 (hφ k ob hk)).1
  have get0:∀ (b:Nat) ob,(q6n [Ob.rows τ xs]).get b=some ob→b=0∧ob=.rows τ xs:=fun b ob h=>by
    rw [q6q] at h
    cases b with
    | zero=>simp at h;exact ⟨rfl,h.symm⟩
    | succ b=>simp at h
  rcases Own.row ho with ⟨rfl,hn,rfl,hx⟩ | ⟨g,cur,rfl,hrow,hnc,htake⟩
  · have hxs : xs = [] := List.eq_nil_of_length_eq_zero hn
    subst hxs
    refine ⟨v,⟨fun _=>none,fun b=>if b=0 then some (.slice none 0 0) else none,φ⟩,rfl,hv _ rfl,fun M=>⟨fun b hb1 _=>?_,fun b ob h=>?_,fun b ob h=>?_,fun b1 b2 o1 o2 L1 L2 _ _ h=>(by cases h),h2,fun k ⟨b,ob,L,_,h,_⟩=>(by cases h),fun b v h=>?_⟩,
      hb.size,fun k hk=>hb.block k hk,fun k ⟨b,ob,L,_,h,_⟩=>(by cases h),fun _ _ h=>h,fun _ _ h=>.inl h,hb.os,hb.tape,hb.output,hb.mono,fun _ _ h=>h.elim⟩
    · have hb1' : 1 ≤ b := hb1
      exact ⟨rfl,if_neg (by omega)⟩
    · obtain ⟨rfl,_⟩:=get0 b ob h;exact Nat.zero_lt_one
    · obtain ⟨rfl, rfl⟩ := get0 b ob h
      exact .none (A:=none) rfl rfl
    · simp only at h
      split at h
      · injection h with h;exact ⟨_,_,_,h.symm⟩
      · cases h
  · have hg : (ext w y).heap[g]? = some (.cells cur.toArray e (0, 0)) := hrow.2.1
    have hlen:=hrow.len
    have hlb:∀ (k:Nat),LB (q6n [Ob.rows τ xs]) ⟨fun b=>if b=0 then some ⟨g,0,c*τ.size⟩ else none,fun b=>if b=0 then some (.slice (some ⟨g,0,none⟩) xs.length c) else none,φ⟩ k→k=g:=fun k ⟨b,ob,L,hb1,h,hk⟩=>by
      obtain ⟨rfl,_⟩:=get0 b ob hb1
      simp only [if_pos] at h
      injection h with h;subst h;exact hk.symm
    refine ⟨v,⟨fun b=>if b=0 then some ⟨g,0,c*τ.size⟩ else none,fun b=>if b=0 then some (.slice (some ⟨g,0,none⟩) xs.length c) else none,φ⟩,rfl,hv _ rfl,fun M=>⟨fun b hb1 _=>?_,fun b ob h=>?_,fun b ob h=>?_,fun b1 b2 o1 o2 L1 L2 h1 h2 _ _ _=>?_,h2,fun k hk=>?_,fun b v h=>?_⟩,
      hb.size,fun k hk=>hb.block k hk,fun k hk=>?_,fun _ _ h=>h,fun _ _ h=>.inl h,hb.os,hb.tape,hb.output,hb.mono,fun _ _ h=>h.elim⟩
    · have hb1' : 1 ≤ b := hb1
      exact ⟨if_neg (by omega),if_neg (by omega)⟩
    · obtain ⟨rfl,_⟩:=get0 b ob h;exact Nat.zero_lt_one
    · obtain ⟨rfl, rfl⟩ := get0 b ob h
      refine .rows (L:=⟨g,0,c*τ.size⟩) (c:=c) rfl ⟨hrow.lt,?_,fun j _ hj=>⟨?_,hrow.frozen j⟩,fun j cc hc=>?_⟩ rfl hnc (by simp)
      · rw [q9];show 0+_≤c*τ.size;have:=Nat.mul_le_mul_right τ.size hnc;omega
      · have hj' : j < cur.length := by rw [hlen]; exact hj
        have:=hrow.cell (List.getElem?_eq_getElem hj')
        rw [this];rfl
      · obtain ⟨u, h3, h4⟩ := (qh0 (η := ⟨fun b => if b = 0 then some ⟨g, 0, c * τ.size⟩ else none, fun b => if b = 0 then some (.slice (some ⟨g, 0, none⟩) xs.length c) else none, φ⟩) hp xs).get hc
        refine ⟨u,?_,h4⟩
        rw [hvals,← htake,List.getElem?_take] at h3
        split at h3
        · have:=hrow.cell h3;simpa using this
        · cases h3
    · obtain ⟨rfl, _⟩ := get0 b1 o1 h1
      obtain ⟨rfl,_⟩:=get0 b2 o2 h2
      rfl
    · have hk := hlb k hk
      subst hk
      show φ k=none
      cases hf:φ k with
      | none=>rfl
      | some ob=>have:=hlt k ob hf;have:=hrow.1;omega
    · simp only at h
      split at h
      · injection h with h;exact ⟨_,_,_,h.symm⟩
      · cases h
    · have hk:=hlb k hk;subst hk;exact hrow.1
theorem qhd {P : Program} {S : Spec} (hb : ∃ fn c, P.funcs[S.g]? = some fn ∧ fn.body = some c ∧ ¬ fn.name = "runtime.NumGoroutine")
    (h:∀ x r,S.F x=some r→∀ (w:World) (φ:Nat→Option Obj) (vs:List Value),(∀ k ob,φ k=some ob→w.heap[k]?=some ob)→VRs (Emb.fro φ) (q87 S.τs x) vs→Calls P S.g vs.toArray w (qha w φ (S.enc r))):COK P S:=⟨h,hb⟩
theorem qhe {P : Program} {g : Nat} {fn : Func} (h1 : P.funcs[g]? = some fn) (h2 : fn.body.isSome = true) (h3 : (fn.name == "runtime.NumGoroutine") = false) : ∃ fn c, P.funcs[g]? = some fn ∧ fn.body = some c ∧ ¬ fn.name = "runtime.NumGoroutine" := by
  obtain ⟨c,hc⟩:=Option.isSome_iff_exists.1 h2
  exact ⟨fn,c,h1,hc,by simpa using h3⟩
end Go.Tx

namespace Go
open RowKit
section
variable {P:Program} {ops:Array Oper} {o:Oper} {a:Act} {K:Act→World→Prop} {Q:Exit→Act→World→Prop} {E:Prop}
end
end Go
namespace Go
open RowKit
section
variable {P:Program} {ops:Array Oper} {rest:List Oper} {o:Oper} {a:Act} {Q:Exit→Act→World→Prop}
end
end Go
namespace Go
open RowKit
end Go

namespace Go
open RowKit
section
variable {P:Program} {ops:Array Oper} {o:Oper} {a:Act} {K:Act→World→Prop} {Q:Exit→Act→World→Prop} {E:Prop}
end
end Go

namespace Go
open RowKit
structure Held (W:World) (b o:Nat) (v:Value):Prop where
  lt:b<W.heap.size
  eq:W.cell? ⟨b,o,none⟩=some v
  fr:W.frozen? ⟨b,o,none⟩=false
theorem Held.bel {W W':World} {b o:Nat} {v:Value} (h:Held W b o v) (hb:Bel W W'):Held W' b o v:=by
  obtain ⟨x,rfl⟩:=ext_of hb
  exact ⟨by rw [q8d];have:=h.lt;omega,by rw [qbb _ _ _ _ h.lt];exact h.eq,by rw [qbc _ _ _ _ h.lt];exact h.fr⟩
theorem Held.new {W W':World} {cs:Array Value} {e:TypeId} {j:Nat} {v:Value} (hb:Bel (W.alloc (.cells cs e)) W') (hv:cs[j]?=some v):Held W' W.heap.size j v:=by
  have h:Held (W.alloc (.cells cs e)) W.heap.size j v:=⟨by simp,by simp [go_sem,hv],by simp [go_sem]⟩
  exact h.bel hb
theorem qhp {w W':World} {B:Nat} {e:TypeId} {size n c:Nat} {A:Option Addr} {xs:List Value} (h:∃ y,W'=ext w y∧Own (ext w y) B e size A n c xs):∃ y,W'=ext w y:=let ⟨y,hy,_⟩:=h;⟨y,hy⟩
theorem qhq {w W':World} {B:Nat} {e:TypeId} {size n c:Nat} {A:Option Addr} {xs:List Value} (h:∃ y,W'=ext w y∧Own (ext w y) B e size A n c xs):Own W' B e size A n c xs:=by
  obtain ⟨y,rfl,h⟩:=h;exact h
structure Apart (g:Nat) (W W':World):Prop where
  os:W'.os=W.os
  tape:W'.tape=W.tape
  output:W'.output=W.output
  size:W'.heap.size=W.heap.size
  drawn:W.drawn≤W'.drawn
  block:∀ b,b≠g→W'.heap[b]?=W.heap[b]?
theorem Apart.refl (g:Nat) (W:World):Apart g W W:=⟨rfl,rfl,rfl,rfl,Nat.le_refl _,fun _ _=>rfl⟩
theorem Apart.trans {g:Nat} {W W1 W2:World} (h:Apart g W W1) (k:Apart g W1 W2):Apart g W W2 :=
  ⟨k.os.trans h.os,k.tape.trans h.tape,k.output.trans h.output,k.size.trans h.size,Nat.le_trans h.drawn k.drawn,fun b hb=>(k.block b hb).trans (h.block b hb)⟩
theorem Apart.setCell {g:Nat} {W W1:World} (h:Apart g W W1) (o:Nat) (u:Value):Apart g W (W1.setCell ⟨g,o,none⟩ u) :=
  h.trans ⟨rfl,rfl,rfl,by simp [World.setCell],Nat.le_refl _,fun b hb=>by unfold World.setCell;simp only [Array.getElem?_modify,if_neg (Ne.symm hb)]⟩
theorem Apart.bel {g:Nat} {w W W1:World} (h:Apart g W W1) (hb:Bel w W) (hg:w.heap.size≤g):Bel w W1 :=
  ⟨⟨h.os.trans hb.os,h.tape.trans hb.tape,h.output.trans hb.output,by rw [h.size];exact hb.size,fun k hk=>(h.block k (by omega)).trans (hb.block k hk)⟩,Nat.le_trans hb.mono h.drawn⟩
theorem Held.apart {g:Nat} {W W':World} {b o:Nat} {v:Value} (h:Held W b o v) (ha:Apart g W W') (hne:b≠g):Held W' b o v :=
  ⟨by rw [ha.size];exact h.lt,by have:=h.eq;unfold World.cell? at this ⊢;rw [ha.block b hne];exact this,by have:=h.fr;unfold World.frozen? at this ⊢;rw [ha.block b hne];exact this⟩
theorem Sl.apart {g:Nat} {W W':World} {size n c:Nat} {A:Option Addr} {xs:List Value} (h:Sl W size A n c xs) (ha:Apart g W W') (hne:∀ b o,A=some ⟨b,o,none⟩→b≠g):Sl W' size A n c xs :=
  ⟨h.1,h.2.1,fun hn=>by
    obtain ⟨b,o,hA,hb,hc⟩:=h.2.2 hn
    refine ⟨b,o,hA,by rw [ha.size];exact hb,fun j u hu=>?_⟩
    have h1:=hc j u hu
    unfold World.cell? at h1 ⊢
    rw [ha.block b (hne b o hA)];exact h1⟩
end Go
namespace Go
open RowKit
theorem Own.ats {W:World} {B:Nat} {e:TypeId} {size n c g:Nat} {xs:List Value} (h:Own W B e size (some ⟨g,0,none⟩) n c xs):B≤g∧g<W.heap.size:=by
  rcases h.row with ⟨h0,_⟩ | ⟨g',cur,h0,hr,_⟩
  · cases h0
  · have e1 : g = g' := by injection h0 with h0; injection h0
    subst e1
    exact ⟨hr.1,hr.lt⟩
theorem Own.shape {W:World} {B:Nat} {e:TypeId} {size n c:Nat} {A:Option Addr} {xs:List Value} (h:Own W B e size A n c xs):(A=none∧n=0) ∨ ∃ g,A=some ⟨g,0,none⟩∧B≤g∧g<W.heap.size:=by
  rcases h.row with ⟨h0,h1,_⟩ | ⟨g',cur,h0,hr,_⟩
  · exact .inl ⟨h0,h1⟩
  · exact .inr ⟨g',h0,hr.1,hr.lt⟩
end Go

namespace Go
open RowKit
structure Box (W:World) (b:Nat) (cs:Array Value):Prop where
  lt:b<W.heap.size
  eq:∀ (j:Nat) (v:Value),cs[j]?=some v→W.cell? ⟨b,j,none⟩=some v
  fr:∀ (j:Nat),W.frozen? ⟨b,j,none⟩=false
theorem Box.bel {W W':World} {b:Nat} {cs:Array Value} (h:Box W b cs) (hb:Bel W W'):Box W' b cs:=by
  obtain ⟨x,rfl⟩:=ext_of hb
  exact ⟨by rw [q8d];have:=h.lt;omega,fun j v hv=>by rw [qbb _ _ _ _ h.lt];exact h.eq j v hv,fun j=>by rw [qbc _ _ _ _ h.lt];exact h.fr j⟩
theorem Box.new {W W':World} {cs:Array Value} {e:TypeId} (hb:Bel (W.alloc (.cells cs e)) W') {b:Nat} (hbk:b=W.heap.size):Box W' b cs:=by
  subst hbk
  have h:Box (W.alloc (.cells cs e)) W.heap.size cs:=⟨by simp,fun j v hv=>by simp [go_sem,hv],fun j=>by simp [go_sem]⟩
  exact h.bel hb
end Go

namespace Go
end Go

namespace Go
open RowKit
def qhs (V:World) (e:TypeId) (g:Nat):Prop:=∃ W:World,Bel (W.alloc (.cells #[] e)) V∧g=W.heap.size
theorem qhs.here {W:World} {e:TypeId} {g:Nat} (h:g=W.heap.size):qhs (W.alloc (.cells #[] e)) e g:=⟨W,Bel.refl _,h⟩
theorem qhs.alloc {W:World} {e:TypeId} {g:Nat} {o:Obj} (h:qhs W e g):qhs (W.alloc o) e g:=by obtain ⟨W0,h1,h2⟩:=h;exact ⟨W0,h1.alloc _,h2⟩
theorem qhs.ext {W:World} {e:TypeId} {g:Nat} {x:Beyond} (h:qhs W e g):qhs (ext W x) e g:=by obtain ⟨W0,h1,h2⟩:=h;exact ⟨W0,h1.ext _,h2⟩
theorem qhs.drew {W:World} {e:TypeId} {g:Nat} (h:qhs W e g):qhs W.drew e g:=by obtain ⟨W0,h1,h2⟩:=h;exact ⟨W0,h1.drew,h2⟩
def qht (A B:Option Addr):Prop:=∀ k,A=some ⟨k,0,none⟩→B=some ⟨k,0,none⟩→False
theorem qht.symm {A B:Option Addr} (h:qht A B):qht B A:=fun k h1 h2=>h k h2 h1
structure Swp (V V' W W':World):Prop where
  base:V.heap.size=V'.heap.size
  size:W.heap.size=W'.heap.size
  hi:∀ k,V.heap.size≤k→W'.heap[k]?=W.heap[k]?
theorem Swp.refl {V V':World} (h:V.heap.size=V'.heap.size):Swp V V' V V':=⟨h,h,fun k hk=>by rw [Array.getElem?_eq_none hk,Array.getElem?_eq_none (by omega)]⟩
theorem Swp.ext {V V' W W':World} (h:Swp V V' W W') (x:Beyond):Swp V V' (ext W x) (ext W' x):=by
  refine ⟨h.base,by simp [h.size],fun k hk=>?_⟩
  have e1:(Go.ext W x).heap=W.heap++x.objs:=by unfold Go.ext;rfl
  have e2:(Go.ext W' x).heap=W'.heap++x.objs:=by unfold Go.ext;rfl
  rw [e1,e2]
  rcases Nat.lt_or_ge k W.heap.size with hl | hl
  · rw [Array.getElem?_append_left hl,Array.getElem?_append_left (by have:=h.size;omega)];exact h.hi k hk
  · rw [Array.getElem?_append_right hl,Array.getElem?_append_right (by have:=h.size;omega),h.size]
theorem Swp.alloc {V V' W W':World} (h:Swp V V' W W') (o:Obj):Swp V V' (W.alloc o) (W'.alloc o):=by
  refine ⟨h.base,by simp [h.size],fun k hk=>?_⟩
  have e1:(W.alloc o).heap=W.heap.push o:=by unfold World.alloc;rfl
  have e2:(W'.alloc o).heap=W'.heap.push o:=by unfold World.alloc;rfl
  rw [e1,e2,Array.getElem?_push,Array.getElem?_push,h.hi k hk,h.size]
theorem Swp.drew {V V' W W':World} (h:Swp V V' W W'):Swp V V' W.drew W'.drew:=⟨h.base,h.size,h.hi⟩
theorem Box.here {W:World} {cs:Array Value} {e:TypeId} {b:Nat} (hb:b=W.heap.size):Box (W.alloc (.cells cs e)) b cs:=Box.new (Bel.refl _) hb
theorem Box.alloc {W:World} {cs:Array Value} {b:Nat} {o:Obj} (h:Box W b cs):Box (W.alloc o) b cs:=h.bel ((Bel.refl _).alloc _)
theorem Box.ext {W:World} {cs:Array Value} {b:Nat} {x:Beyond} (h:Box W b cs):Box (ext W x) b cs:=h.bel (q8h _ _)
theorem Box.drew {W:World} {cs:Array Value} {b:Nat} (h:Box W b cs):Box W.drew b cs:=h.bel (Bel.refl _).drew
theorem Own.here {W:World} {base:Nat} {cs:Array Value} {e:TypeId} {size n b:Nat} (hbk:b=W.heap.size) (hb:base≤b) (hn:n≤1000000) (hs:cs.size=n*size):Own (W.alloc (.cells cs e)) base e size (some ⟨b,0,none⟩) n n cs.toList:=by
  subst hbk
  exact World.ownsRow_lit W cs n hb (Nat.le_trans hn (by unfold maxLen;decide)) hs
theorem Own.ext' {W:World} {base:Nat} {xs:List Value} {e:TypeId} {size n c:Nat} {A:Option Addr} {x:Beyond} (h:Own W base e size A n c xs):Own (Go.ext W x) base e size A n c xs:=h.ext x
def PBut (g:Nat) (a b:Array Obj):Prop:=∀ k,k≠g→k<a.size→b[k]?=a[k]?
def qi6 (g:Nat) (a b:Array Obj):Prop:=a.size=b.size∧∀ k,k≠g→b[k]?=a[k]?
theorem qi6.refl (g:Nat) (a:Array Obj):qi6 g a a:=⟨rfl,fun _ _=>rfl⟩
theorem qi6.both {g:Nat} {a b:Array Obj} (h:qi6 g a b) (c:Array Obj):qi6 g (a++c) (b++c):=by
  refine ⟨by simp [h.1],fun k hk=>?_⟩
  rcases Nat.lt_or_ge k a.size with hl | hl
  · rw [Array.getElem?_append_left hl,Array.getElem?_append_left (by have:=h.1;omega)];exact h.2 k hk
  · rw [Array.getElem?_append_right hl,Array.getElem?_append_right (by have:=h.1;omega),h.1]
theorem qi6.swap {g:Nat} {a b:Array Obj} {o o':Obj} (h:qi6 g a b) (hg:g=a.size):qi6 g (a ++ #[o]) (b ++ #[o']):=by
  refine ⟨by simp [h.1],fun k hk=>?_⟩
  rcases Nat.lt_or_ge k a.size with hl | hl
  · rw [Array.getElem?_append_left hl,Array.getElem?_append_left (by have:=h.1;omega)];exact h.2 k hk
  · have hs := h.1
    have h1:a.size+1≤k:=by omega
    rw [Array.getElem?_eq_none (by first | simpa using h1 | (rw [hs] at h1;simpa using h1)),Array.getElem?_eq_none (by first | simpa using h1 | (rw [hs] at h1;simpa using h1))]
theorem PBut.same {g:Nat} {a b:Array Obj} (h:qi6 g a b):PBut g a b:=fun k hk _=>h.2 k hk
theorem PBut.le {g:Nat} {a b:Array Obj} (h:PBut g a b) {k:Nat} (hk:k≠g) (hl:k<a.size):k<b.size:=by
  have h1:=h k hk hl
  rcases Nat.lt_or_ge k b.size with h2 | h2
  · exact h2
  · rw [Array.getElem?_eq_none h2,Array.getElem?_eq_getElem hl] at h1;cases h1
theorem PBut.right {g:Nat} {a b:Array Obj} (h:PBut g a b) (c:Array Obj):PBut g a (b++c):=fun k hk hl=>by
  rw [Array.getElem?_append_left (h.le hk hl)];exact h k hk hl
theorem qi9 {W:World} {b g o:Nat} {u:Value} (hne:b≠g):(W.setCell ⟨b,o,none⟩ u).heap[g]?=W.heap[g]?:=by
  unfold World.setCell
  simp only [Array.getElem?_modify,if_neg hne]
theorem Box.other {W:World} {b g:Nat} {cs:Array Value} (h:Box W g cs) (o:Nat) (u:Value) (hne:b≠g):Box (W.setCell ⟨b,o,none⟩ u) g cs:=by
  refine ⟨by have:=h.lt;simpa using this,fun j v hv=>?_,fun j=>?_⟩
  · rw [← h.eq j v hv];exact World.cell?_of_block (qi9 hne)
  · rw [← h.fr j];exact World.frozen?_of_block (qi9 hne)
section
variable {P:Program} {ops:Array Oper} {o:Oper} {a:Act} {K:Act→World→Prop} {Q:Exit→Act→World→Prop} {E:Prop}
end
end Go

namespace Go.Tx
open Go Go.Pel
def unI (l:List Int):List TI1:=l.map toI
def idsI (l:List TI1):List Int:=l.map fun x=>x.1
def ptsL (l:List TP):List Pt:=l.map ofP
theorem qih (l:List Int):idsI (unI l)=l:=by
  unfold idsI unI;rw [List.map_map];exact List.map_id _
theorem qij (l:List Int):(unI l).length=l.length:=List.length_map _
theorem qik (l:List TI1):(idsI l).length=l.length:=List.length_map _
theorem qil (l:List TP):(ptsL l).length=l.length:=List.length_map _
theorem qim (l:List Int):qgu RI (unI l)=vi l:=by rw [qgw];exact congrArg vi (qih l)
theorem qin {φ:Nat→Option Obj} {w:World} (hφ:∀ k ob,φ k=some ob→w.heap[k]?=some ob) {l:List TI1} {v:Value} (hv:VR (Emb.fro φ) (.fz RI l) v):∃ A c,v=.slice A (idsI l).length c∧Sl w 1 A (idsI l).length c (vi (idsI l))∧(A=none→c=0):=qh5 hφ hv
theorem qio {φ:Nat→Option Obj} {w:World} (hφ:∀ k ob,φ k=some ob→w.heap[k]?=some ob) {l:List TP} {v:Value} (hv:VR (Emb.fro φ) (.agg [.fz RP l]) v):∃ A c,v=.agg #[.slice A (ptsL l).length c]∧Sl w 3 A (ptsL l).length c (vp (ptsL l))∧(A=none→c=0):=qh4 hφ hv
def i64B (n:Int):Bool:=decide (-9223372036854775808≤n)&&decide (n≤9223372036854775807)
theorem qiq {n:Int} (h:i64B n=true):-9223372036854775808≤n∧n≤9223372036854775807:=by
  unfold i64B at h;simpa using h
theorem qit {α:Type} {c:Bool} {a r:α} (h:(bif c then some a else none)=some r):c=true∧a=r:=by
  cases c with
  | true=>injection h with h;exact ⟨rfl,h⟩
  | false=>cases h
theorem qiu {w:World} {b:Nat}:∀ (τ:Row),qbt τ=true→∀ (x:den τ) (o:Nat),(∀ (j:Nat) u,(qgt τ x)[j]?=some u→w.cell? ⟨b,o+j,none⟩=some u)→RowF (fun k=>w.heap[k]?) τ x b o
  | .nil,_,_,_,_=>trivial
  | .int k r,h,x,o,hc=>⟨by
      have:=hc 0 _ (by rw [qgt];rfl)
      rw [Nat.add_zero,qf] at this
      cases hb:w.heap[b]? with
      | none=>rw [hb] at this;cases this
      | some ob=>rw [hb] at this;exact ⟨ob,hb,this⟩,qiu r h x.2 (o+1) fun j u hu=>by rw [show o+1+j=o+(j+1) by omega];exact hc (j+1) u (by rw [qgt];simpa using hu)⟩
  | .bool r,h,x,o,hc=>⟨by
      have:=hc 0 _ (by rw [qgt];rfl)
      rw [Nat.add_zero,qf] at this
      cases hb:w.heap[b]? with
      | none=>rw [hb] at this;cases this
      | some ob=>rw [hb] at this;exact ⟨ob,hb,this⟩,qiu r h x.2 (o+1) fun j u hu=>by rw [show o+1+j=o+(j+1) by omega];exact hc (j+1) u (by rw [qgt];simpa using hu)⟩
  | .sl _ r,h,_,_,_=>by cases h
theorem qiv {τ:Row} (h:qbt τ=true):∀ (xs:List (den τ)) (i:Nat) x,xs[i]?=some x→∀ (j:Nat) u,(qgt τ x)[j]?=some u→(qgu τ xs)[i*τ.size+j]?=some u
  | [],i,x,hx,j,u,hu=>by simp at hx
  | y :: ys, 0, x, hx, j, u, hu => by
    simp only [List.getElem?_cons_zero,Option.some.injEq] at hx;subst hx
    rw [qgu,Nat.zero_mul,Nat.zero_add]
    have hj:=(List.getElem?_eq_some_iff.1 hu).1
    rw [List.getElem?_append_left hj];exact hu
  | y :: ys, i + 1, x, hx, j, u, hu => by
    rw [qgu]
    have hl:=qgx τ h y
    rw [List.getElem?_append_right (by rw [hl,Nat.succ_mul];omega),hl,show (i+1)*τ.size+j - τ.size=i*τ.size+j by rw [Nat.succ_mul];omega]
    exact qiv h ys i x (by simpa using hx) j u hu
theorem qiw {w:World} {τ:Row} (h:qbt τ=true) {xs:List (den τ)} {A:Option Addr} {n c:Nat} {vals:List Value} (hn:xs.length=n) (hv:qgu τ xs=vals) (hs:Sl w τ.size A n c vals) (h0:A=none→c=0):VR (Emb.fro fun k=>w.heap[k]?) (.fz τ xs) (.slice A n c):=by
  subst hn;subst hv
  refine .fz ⟨A,c,rfl,hs.1,h0,fun i x hx=>?_⟩
  have hi:=(List.getElem?_eq_some_iff.1 hx).1
  obtain ⟨b,o,hA,_,hc⟩:=hs.2.2 (by omega)
  refine ⟨b,o,hA,qiu τ h x _ fun j u hu=>?_⟩
  rw [Nat.add_assoc]
  exact hc _ u (qiv h xs i x hx j u hu)
def toPs (l:List Pt):List TP:=l.map toP
theorem qix (l:List Pt):(toPs l).length=l.length:=List.length_map _
theorem qiy (l:List Pt):ptsL (toPs l)=l:=by unfold ptsL toPs;rw [List.map_map];exact List.map_id _
theorem qiz (l:List Pt):qgu RP (toPs l)=vp l:=(qgv (toPs l)).trans (congrArg vp (qiy l))
theorem qj1 {w:World} {A:Option Addr} {c:Nat} {l:List Pt} (hs:Sl w 3 A l.length c (vp l)) (h0:A=none→c=0):VR (Emb.fro fun k=>w.heap[k]?) (.agg [.fz RP (toPs l)]) (.agg #[.slice A l.length c]):=VR.aggL (VRs.cons (qiw (τ:=RP) rfl (qix l) (qiz l) hs h0) VRs.nil)
theorem qj3 {w:World} (n d:Int):VR (Emb.fro fun k=>w.heap[k]?) (.agg [.int .i64 n,.int .i64 d]) (.agg #[.int .i64 n,.int .i64 d]):=VR.aggL (VRs.cons (.int _ _) (VRs.cons (.int _ _) VRs.nil))
end Go.Tx
