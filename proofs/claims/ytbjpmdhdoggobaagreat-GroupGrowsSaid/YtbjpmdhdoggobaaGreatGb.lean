/- Walks of the functions of fields, fractions and points. -/
import Derived.LoopN
import Derived.Scope
import Derived.Below
import Derived.Lib.Hide
import Derived.WalkKit
import Derived.WalkSpells
import Derived.WalkLawsBesides
import Derived.Deep.Quiet
import Derived.Deep.QuietTactic
import Derived.StillTail
import Derived.BigQuiet
import Derived.ScopeJumps
import Derived.Laws.AppendOwn
import Derived.Laws.AppendOwnNone
import Derived.ArgAppend
import Derived.Deep.AppendLies
import Derived.Laws.CopyRow
import Derived.Lib.SliceRun
import Derived.Lib.AppendZerosOnto
import Derived.Lib.AppendZeros
import Derived.Lib.Overlaps
import Derived.Deep.DeepAppendRoom
import Derived.Deep.RegionHeld3
import Derived.Deep.RegionLaw
import Derived.Deep.MidRow
import Derived.Test.YtbjpmdhdoggobaaGreatGa
set_option linter.unusedSimpArgs false
set_option linter.unusedVariables false
namespace Go.Tx
open Go
section
variable {P:Program} {ops:Array Oper} {ms:List Nat} {N:Nat} {t0:Mem} {H0:LH} {M:Nat}
def Gt (H0:LH):List Rec→(Nat→Bool)→Nat→Option Ob
  | [],_,b=>H0.get b
  | s :: tr,L,b=>bif L tr.length&&memB s.ids b then s.R.get b else Gt H0 tr L b
def Tt (t0:Mem):List Rec→(Nat→Bool)→Nat→Option LV
  | [],_,d=>t0.get d
  | s :: tr,L,d=>if L tr.length=true∧s.d=some d then some s.l else Tt t0 tr L d
def Wn:List Rec→Nat→Nat→Prop
  | [],_,_=>False
  | s :: tr,j,b=>(j=tr.length∧s.K.next≤b∧b<s.R.next)∨Wn tr j b
theorem q6r {s:Rec} {b:Nat} (h:s.dom b):memB s.ids b=true:=q5s.2 (Rec.mem_ids.2 h)
theorem q6s {s:Rec} {b:Nat} (h:¬ s.dom b):memB s.ids b=false:=by
  cases hm:memB s.ids b with
  | false=>rfl
  | true=>exact absurd (Rec.mem_ids.1 (q5s.1 hm)) h
theorem q6t {t t':Mem} {d:Option Tmp} {l:LV} (h:xput N t d l=some t') (x:Nat):t'.get x=if d=some x then some l else t.get x:=by
  cases d with
  | none=>simp only [xput,Option.some.injEq] at h;subst h;simp
  | some d =>
    simp only [xput] at h
    rw [Bool.cond_eq_ite] at h
    split at h
    · injection h with h; subst h
      rw [Tr.get_set]
      by_cases he:x=d
      · subst he;simp
      · rw [if_neg he,if_neg (by simpa using Ne.symm he)]
    · cases h
theorem RecOK.logged {i:Nat} {s:Rec} {tr:List Rec} {t:Mem} {H:LH} (h:RecOK P ops ms N i s tr t H):Logged s.K s.R:=by
  obtain ⟨o,g,_,_,_,_,h1,h2⟩:=h.oper
  cases g with
  | true=>exact (h1 rfl).1
  | false=>rw [(h2 rfl).2];exact Logged.refl _
theorem Tc.full {tr:List Rec} {t:Mem} {H:LH} (h:Tc P ops ms N t0 H0 tr t H):(∀ b,H.get b=Gt H0 tr (fun _=>true) b)∧(∀ d,t.get d=Tt t0 tr (fun _=>true) d):=by
  induction h with
  | nil=>exact ⟨fun _=>rfl,fun _=>rfl⟩
  | cons h hs ht ih =>
    rename_i tr t t' H s
    refine ⟨fun b=>?_,fun d=>?_⟩
    · classical
      rw [q5w]
      simp only [Gt,Bool.true_and]
      by_cases hd:s.dom b
      · rw [if_pos hd,q6r hd];rfl
      · rw [if_neg hd,q6s hd];exact ih.1 b
    · rw [q6t ht]
      simp only [Tt,true_and]
      rw [ih.2 d]
theorem Tc.next {tr:List Rec} {t:Mem} {H:LH} (h:Tc P ops ms N t0 H0 tr t H):H0.next≤H.next:=by
  induction h with
  | nil=>exact Nat.le_refl _
  | cons h hs ht ih =>
    rename_i tr t t' H s
    have:=(hs.logged).next
    show H0.next≤s.R.next
    rw [hs.next] at this;omega
theorem Tc.bnd (h0:∀ b cs,H0.get b=some cs→b<H0.next) {tr:List Rec} {t:Mem} {H:LH} (h:Tc P ops ms N t0 H0 tr t H):∀ b cs,H.get b=some cs→b<H.next:=by
  induction h with
  | nil=>exact h0
  | cons h hs ht ih =>
    rename_i tr t t' H s
    intro b cs hb
    classical
    rw [q5w] at hb
    have hl:=hs.logged
    show b<s.R.next
    split at hb
    · exact hl.bnd (fun x c hx=>by rw [hs.next];exact ih x c (hs.get x c hx)) b cs hb
    · have := ih b cs hb
      have h2:=hl.next
      rw [hs.next] at h2;omega
theorem Tc.wn {tr:List Rec} {t:Mem} {H:LH} (h:Tc P ops ms N t0 H0 tr t H):∀ j b,Wn tr j b→H0.next≤b∧b<H.next:=by
  induction h with
  | nil=>intro j b hw;exact hw.elim
  | cons h hs ht ih =>
    rename_i tr t t' H s
    intro j b hw
    have h2:=(hs.logged).next
    have h3:=h.next
    have h4:=hs.next
    show H0.next≤b∧b<s.R.next
    rcases hw with ⟨_,h5,h6⟩ | hw
    · omega
    · have:=ih j b hw;omega
theorem Tc.wn_one {tr:List Rec} {t:Mem} {H:LH} (h:Tc P ops ms N t0 H0 tr t H):∀ j k b,Wn tr j b→Wn tr k b→j=k:=by
  induction h with
  | nil=>intro j k b hw;exact hw.elim
  | cons h hs ht ih =>
    rename_i tr t t' H s
    intro j k b h1 h2
    have h4:=hs.next
    rcases h1 with ⟨e1,a1,a2⟩ | h1<;>rcases h2 with ⟨e2,c1,c2⟩ | h2
    · rw [e1,e2]
    · have:=h.wn k b h2;omega
    · have:=h.wn j b h1;omega
    · exact ih j k b h1 h2
theorem q6u {s:Rec} {tr:List Rec} {b:Nat} (hb:s.K.next≤b∧b<s.R.next):∀ pre:List Rec,Wn (pre++s :: tr) tr.length b
  | []=>.inl ⟨rfl,hb⟩
  | _ :: p=>.inr (q6u hb p)
def Aft (ms:List Nat) (s:Rec) (i:Nat):List Rec→Prop
  | []=>True
  | e :: p=>((ms.getD (i+1+p.length) 0).testBit i=true∨Apart2 e s)∧s.R.next≤e.K.next∧Aft ms s i p
theorem q6v {m:Nat} {s e:Rec} {tr:List Rec}:∀ pre:List Rec,chk m s (pre++e :: tr)→m.testBit tr.length=true∨Apart2 s e
  | [],h=>h.1
  | _ :: p,h=>q6v p h.2
structure Spl (P:Program) (ops:Array Oper) (ms:List Nat) (N:Nat) (t0:Mem) (H0:LH) (tr:List Rec) (H:LH) (i:Nat) (pre:List Rec) (s:Rec) (tr':List Rec) (t':Mem) (H':LH):Prop where
  eq:tr=pre++s :: tr'
  len:tr'.length=i
  tc:Tc P ops ms N t0 H0 tr' t' H'
  ok:RecOK P ops ms N i s tr' t' H'
  aft:Aft ms s i pre
  le:s.R.next≤H.next
theorem Tc.at {tr:List Rec} {t:Mem} {H:LH} (h:Tc P ops ms N t0 H0 tr t H):∀ i,i<tr.length→∃ pre s tr' t' H',Spl P ops ms N t0 H0 tr H i pre s tr' t' H':=by
  induction h with
  | nil=>intro i hi;simp at hi
  | cons h hs ht ih =>
    rename_i tr t t' H s
    intro i hi
    rcases Nat.lt_or_ge i tr.length with hlt | hge
    · obtain ⟨pre, e, tr', t2, H2, sp⟩ := ih i hlt
      have hlen:tr.length=i+1+pre.length:=by rw [sp.eq,List.length_append,List.length_cons,sp.len];omega
      refine ⟨s :: pre,e,tr',t2,H2,by rw [sp.eq];rfl,sp.len,sp.tc,sp.ok,⟨?_,?_,sp.aft⟩,?_⟩
      · have hc := hs.chk
        rw [sp.eq] at hc
        have:=q6v pre hc
        rw [sp.len] at this
        rw [← sp.eq,hlen] at this
        exact this
      · rw [hs.next];exact sp.le
      · have := (hs.logged).next
        show e.R.next≤s.R.next
        rw [hs.next] at this;have:=sp.le;omega
    · simp only [List.length_cons] at hi
      have he:i=tr.length:=by omega
      subst he
      exact ⟨[],s,tr,t,H,rfl,rfl,h,hs,trivial,Nat.le_refl _⟩
section split
variable {tr' pre:List Rec} {s:Rec} {i:Nat} {L:Nat→Bool}
theorem q6w (hlen:tr'.length=i) (hn:s.K.next≤s.R.next) (hno:∀ j,i<j→L j=true→(ms.getD j 0).testBit i=false) {b:Nat} (hb:((s.K.get b).isSome=true∧b<s.K.next)∨s.dom b) :
    ∀ pre,Aft ms s i pre→Gt H0 (pre++s :: tr') L b=Gt H0 (s :: tr') L b
  | [],_=>rfl
  | e :: p, ha => by
    rw [List.cons_append,Gt]
    have hidx:(p++s :: tr').length=i+1+p.length:=by rw [List.length_append,List.length_cons,hlen];omega
    rw [hidx]
    cases hL:L (i+1+p.length) with
    | false=>exact q6w hlen hn hno hb p ha.2.2
    | true =>
      have hm:=hno _ (by omega) hL
      have hap:Apart2 e s:=ha.1.resolve_left (by rw [hm];simp)
      have hnd:¬ e.dom b:=by
        intro hd
        have hlow:=ha.2.1
        rcases hd with hl | ⟨h1,h2⟩
        · have := hap.kept b hl
          rcases hb with ⟨hk,_⟩ | hk
          · rw [this.1] at hk;simp at hk
          · exact this.2 hk
        · rcases hb with ⟨_, hk⟩ | hk
          · omega
          · rcases hk with hk | hk
            · exact hap.other b hk (.inr ⟨h1,h2⟩)
            · omega
      rw [q6s hnd]
      exact q6w hlen hn hno hb p ha.2.2
theorem q6x (hlen:tr'.length=i) (hno:∀ j,i<j→L j=true→(ms.getD j 0).testBit i=false) {d:Nat} (hd:d∈s.us∨s.d=some d) :
    ∀ pre,Aft ms s i pre→Tt t0 (pre++s :: tr') L d=Tt t0 (s :: tr') L d
  | [],_=>rfl
  | e :: p, ha => by
    rw [List.cons_append,Tt]
    have hidx:(p++s :: tr').length=i+1+p.length:=by rw [List.length_append,List.length_cons,hlen];omega
    rw [hidx,if_neg]
    · exact q6x hlen hno hd p ha.2.2
    · rintro ⟨hL, he⟩
      have hm:=hno _ (by omega) hL
      have hap:Apart2 e s:=ha.1.resolve_left (by rw [hm];simp)
      rcases hd with hd | hd
      · exact hap.us' d he hd
      · exact hap.dd d he hd
theorem q6y {m:Nat} (hL:∀ j,m.testBit j=true→L j=true) {b:Nat} (hb:(s.K.get b).isSome=true):∀ tr:List Rec,chk m s tr→Gt H0 tr L b=Gt H0 tr (fun _=>true) b
  | [],_=>rfl
  | e :: p, h => by
    rw [Gt,Gt,q6y hL hb p h.2]
    rcases h.1 with h1 | h1
    · rw [hL _ h1]
    · have hnd : ¬ e.dom b := fun hd => by rw [h1.unseen b hd] at hb; simp at hb
      rw [q6s hnd];simp
theorem q6z {m:Nat} (hL:∀ j,m.testBit j=true→L j=true) {d:Nat} (hd:d∈s.us):∀ tr:List Rec,chk m s tr→Tt t0 tr L d=Tt t0 tr (fun _=>true) d
  | [],_=>rfl
  | e :: p, h => by
    rw [Tt,Tt,q6z hL hd p h.2]
    rcases h.1 with h1 | h1
    · rw [hL _ h1]
    · have hne : e.d ≠ some d := fun he => h1.us d he hd
      rw [if_neg (fun h=>hne h.2),if_neg (fun h=>hne h.2)]
theorem q70 {L':Nat→Bool} {b:Nat}:∀ tr:List Rec,(∀ j,j<tr.length→L j=L' j)→Gt H0 tr L b=Gt H0 tr L' b
  | [],_=>rfl
  | e :: p,h=>by rw [Gt,Gt,h p.length (by simp),q70 p (fun j hj=>h j (by simp;omega))]
theorem q71 {L':Nat→Bool} {b:Nat}:∀ tr:List Rec,(∀ j,j<tr.length→L j=L' j)→Tt t0 tr L b=Tt t0 tr L' b
  | [],_=>rfl
  | e :: p,h=>by rw [Tt,Tt,h p.length (by simp),q71 p (fun j hj=>h j (by simp;omega))]
theorem q72 {L':Nat→Bool} (hlen:tr'.length=i) (hLL:∀ j,j≠i→L' j=L j) {b:Nat} (hb:¬ s.dom b):∀ pre:List Rec,Gt H0 (pre++s :: tr') L' b=Gt H0 (pre++s :: tr') L b
  | [] => by
    rw [List.nil_append,Gt,Gt,q6s hb,Bool.and_false,Bool.and_false]
    exact q70 tr' (fun j hj=>hLL j (by omega))
  | e :: p => by
    rw [List.cons_append,Gt,Gt,hLL _ (by rw [List.length_append,List.length_cons,hlen];omega),q72 hlen hLL hb p]
theorem q73 {L':Nat→Bool} (hlen:tr'.length=i) (hLL:∀ j,j≠i→L' j=L j) {b:Nat} (hb:s.d≠some b):∀ pre:List Rec,Tt t0 (pre++s :: tr') L' b=Tt t0 (pre++s :: tr') L b
  | [] => by
    rw [List.nil_append,Tt,Tt,if_neg (fun h=>hb h.2),if_neg (fun h=>hb h.2)]
    exact q71 tr' (fun j hj=>hLL j (by omega))
  | e :: p => by
    rw [List.cons_append,Tt,Tt,hLL _ (by rw [List.length_append,List.length_cons,hlen];omega),q73 hlen hLL hb p]
end split
structure Inv (D:List Deferred) (M N:Nat) (ms:List Nat) (t0:Mem) (H0:LH) (η0:Emb) (w0:World) (tr:List Rec) (Hn:LH) (L:Nat→Bool) (η:Emb) (a:Act) (w:World):Prop where
  cl:∀ j k,L j=true→(ms.getD j 0).testBit k=true→L k=true
  live:∀ b cs,Gt H0 tr L b=some cs→Lv η w b cs
  inj:∀ b1 b2 cs1 cs2 L1 L2,Gt H0 tr L b1=some cs1→Gt H0 tr L b2=some cs2→η.loc b1=some L1→η.loc b2=some L2→L1.block=L2.block→b1=b2
  lt:∀ b cs,Gt H0 tr L b=some cs→b<Hn.next
  dom:∀ b,H0.next≤b→b<M→(∀ j,L j=true→¬ Wn tr j b)→η.loc b=none∧η.hdr b=none
  le:η0.le η
  win:∀ b,(b<H0.next∨Hn.next≤b)→η.loc b=η0.loc b∧η.hdr b=η0.hdr b
  tmp:∀ d l,Tt t0 tr L d=some l→∃ v,a.tmps[d]?=some v∧VR η l v
  size:N≤a.tmps.size
  defers:a.defers=D
  wsize:w0.heap.size≤w.heap.size
  same:∀ k,k<w0.heap.size→¬ LB H0 η0 k→w.heap[k]?=w0.heap[k]?
  lb:∀ b cs Lc,Gt H0 tr L b=some cs→η.loc b=some Lc→LB H0 η0 Lc.block∨w0.heap.size≤Lc.block
  fz:∀ k ob,η.fz k=some ob→w.heap[k]?=some ob
  sep:∀ b cs Lc,Gt H0 tr L b=some cs→η.loc b=some Lc→η.fz Lc.block=none
  ok:η.ok
  fzn:∀ k ob,η.fz k=some ob→η0.fz k=some ob∨LB H0 η0 k∨w0.heap.size≤k
  os:w.os=w0.os
  tape:w.tape=w0.tape
  output:w.output=w0.output
  drawn:w0.drawn≤w.drawn
variable {D:List Deferred} {η0:Emb} {w0:World}
theorem q74 (hb0:∀ b cs,H0.get b=some cs→b<H0.next) {tr:List Rec} {tn:Mem} {Hn:LH} (htc:Tc P ops ms N t0 H0 tr tn Hn) (hM:Hn.next≤M)
    {i:Nat} (hi:i<tr.length) {L L':Nat→Bool} (hLi:L i=false) (hL':L' i=true) (hLL:∀ j,j≠i→L' j=L j) (hanc:∀ k,(ms.getD i 0).testBit k=true→L k=true)
    {η:Emb} {a:Act} {w:World} (inv:Inv D M N ms t0 H0 η0 w0 tr Hn L η a w) {Q:Exit→Act→World→Prop} {K:Act→World→Prop}
    (hK:∀ a' w' η',Inv D M N ms t0 H0 η0 w0 tr Hn L' η' a' w'→K a' w'):wpOp P ops Q i K a w:=by
  obtain ⟨pre,s,tr',t',H',sp⟩:=htc.at i hi
  have heq:=sp.eq
  have hlog:=sp.ok.logged
  have hKR:=hlog.next
  have hbH:=sp.tc.bnd hb0
  have hno:∀ j,i<j→L j=true→(ms.getD j 0).testBit i=false:=fun j hj hLj=>by
    cases hm:(ms.getD j 0).testBit i with
    | false=>rfl
    | true=>have:=inv.cl j i hLj hm;rw [hLi] at this;cases this
  have hno':∀ j,i<j→L' j=true→(ms.getD j 0).testBit i=false:=fun j hj hLj=>hno j hj (by rw [hLL j (by omega)] at hLj;exact hLj)
  have hKH:∀ b cs,s.K.get b=some cs→Gt H0 tr L b=some cs:=fun b cs hb=>by
    have h1:=sp.ok.get b cs hb
    have hlt:b<s.K.next:=by rw [sp.ok.next];exact hbH b cs h1
    rw [heq,q6w sp.len hKR hno (.inl ⟨by rw [hb];rfl,hlt⟩) pre sp.aft,Gt,sp.len,hLi,Bool.false_and,cond_false,q6y hanc (by rw [hb];rfl) tr' sp.ok.chk,← sp.tc.full.1 b]
    exact h1
  have hTd:∀ d,d∈s.us→Tt t0 tr L d=t'.get d:=fun d hd=>by
    rw [heq,q6x sp.len hno (.inl hd) pre sp.aft,Tt,sp.len,if_neg (by rw [hLi];simp),q6z hanc hd tr' sp.ok.chk,← sp.tc.full.2 d]
  have hKlt:∀ b cs,s.K.get b=some cs→b<s.K.next:=fun b cs hb=>by rw [sp.ok.next];exact hbH b cs (sp.ok.get b cs hb)
  have hnx:=sp.tc.next
  have hle:=sp.le
  have hkn:=sp.ok.next
  have hr:HR s.R.next η s.K w:=by
    refine ⟨fun b h1 h2=>?_,hKlt,fun b cs hb=>inv.live b cs (hKH b cs hb),fun b1 b2 c1 c2 L1 L2 g1 g2=>inv.inj b1 b2 c1 c2 L1 L2 (hKH _ _ g1) (hKH _ _ g2),inv.fz,fun k ⟨b,cs,Lc,hb,hL,hk⟩=>hk ▸ inv.sep b cs Lc (hKH b cs hb) hL,inv.ok⟩
    refine inv.dom b (by omega) (by omega) fun j hLj hw=>?_
    have hwi:Wn tr i b:=by rw [heq,← sp.len];exact q6u ⟨h1,h2⟩ pre
    have:=htc.wn_one j i b hw hwi
    rw [this,hLi] at hLj;cases hLj
  -- what comes behind the operation
  have main:∀ v' w' η',VR η' s.l v'→Adv s.R.next s.K η w s.R η' w'→Inv D M N ms t0 H0 η0 w0 tr Hn L' η' (a.put s.d v') w':=by
    intro v' w' η' hv hadv
    have hG1:∀ b,s.dom b→Gt H0 tr L' b=s.R.get b:=fun b hb=>by
      rw [heq,q6w sp.len hKR hno' (.inr hb) pre sp.aft,Gt,sp.len,hL',q6r hb];rfl
    have hG2:∀ b,¬ s.dom b→Gt H0 tr L' b=Gt H0 tr L b:=fun b hb=>by rw [heq];exact q72 sp.len hLL hb pre
    have hkeep:∀ b cs,¬ s.dom b→s.K.get b=some cs→s.R.get b=some cs:=fun b cs hb hk=>by
      obtain ⟨l,hl,hs⟩:=hlog.log
      rw [hs b (hKlt b cs hk) (fun hm=>hb (.inl (by rw [hl];exact List.mem_append_left _ hm)))];exact hk
    have hcase:∀ b cs,Gt H0 tr L' b=some cs→(s.dom b∧s.R.get b=some cs)∨(¬ s.dom b∧Gt H0 tr L b=some cs):=fun b cs hb=>by
      by_cases hd:s.dom b
      · rw [hG1 b hd] at hb;exact .inl ⟨hd,hb⟩
      · rw [hG2 b hd] at hb;exact .inr ⟨hd,hb⟩
    have hmid:∀ b cs Lc,¬ s.dom b→Gt H0 tr L b=some cs→η.loc b=some Lc→LB s.K η Lc.block→s.K.get b=some cs:=fun b cs Lc hd hg hL ⟨b3,c3,L3,g3,e3,hb3⟩=>by
      have:=inv.inj b3 b c3 cs L3 Lc (hKH b3 c3 g3) hg e3 hL hb3
      subst this
      rw [hKH _ _ g3] at hg;injection hg with hg;rw [← hg];exact g3
    have hwin:∀ b,¬ s.dom b→η'.loc b=η.loc b∧η'.hdr b=η.hdr b:=fun b hd=>hadv.win b (by
      rcases Nat.lt_or_ge b s.K.next with h1 | h1
      · exact .inl h1
      · rcases Nat.lt_or_ge b s.R.next with h2 | h2
        · exact absurd (.inr ⟨h1,h2⟩) hd
        · exact .inr h2)
    refine ⟨fun j k hj hk=>?_,fun b cs hb=>?_,fun b1 b2 c1 c2 L1 L2 g1 g2 e1 e2 he=>?_,fun b cs hb=>?_,fun b h1 h2 hnw=>?_,Emb.le_trans inv.le hadv.le,fun b hb=>?_,fun d l hl=>?_,by rw [q5d];exact inv.size,by rw [q5e];exact inv.defers,
      Nat.le_trans inv.wsize hadv.size,fun k hk hn=>?_,fun b cs Lc hb hL=>?_,hadv.hr.fz,fun b cs Lc hb hL=>?_,hadv.hr.ok,fun k ob hk=>?_,hadv.os.trans inv.os,hadv.tape.trans inv.tape,hadv.output.trans inv.output,Nat.le_trans inv.drawn hadv.drawn⟩
    · by_cases hji : j = i
      · subst hji
        have h1:=hanc k hk
        by_cases hki:k=j
        · subst hki;exact hL'
        · rw [hLL k hki];exact h1
      · rw [hLL j hji] at hj
        have h1:=inv.cl j k hj hk
        by_cases hki:k=i
        · subst hki;exact hL'
        · rw [hLL k hki];exact h1
    · rcases hcase b cs hb with ⟨hd, hR⟩ | ⟨hd, hg⟩
      · exact hadv.hr.live b cs hR
      · by_cases hex : ∃ Lc, η.loc b = some Lc ∧ LB s.K η Lc.block
        · obtain ⟨Lc, hL, hlb⟩ := hex
          exact hadv.hr.live b cs (hkeep b cs hd (hmid b cs Lc hd hg hL hlb))
        · exact (inv.live b cs hg).move hadv.le (hwin b hd).1 hadv.size fun Lc hL=>hadv.same _ ((inv.live b cs hg).lt hL) fun hlb=>hex ⟨Lc,hL,hlb⟩
    · have mixed:∀ b1 b2 c1 c2 L1 L2,s.R.get b1=some c1→η'.loc b1=some L1→¬ s.dom b2→Gt H0 tr L b2=some c2→η'.loc b2=some L2→L1.block=L2.block→b1=b2:=by
        intro b1 b2 c1 c2 L1 L2 hR1 e1 hd2 hg2 e2 he
        have e2':=e2
        rw [(hwin b2 hd2).1] at e2'
        rcases hadv.lb L1.block ⟨b1,c1,L1,hR1,e1,rfl⟩ with hlb | hlb
        · rw [he] at hlb
          exact hadv.hr.inj b1 b2 c1 c2 L1 L2 hR1 (hkeep b2 c2 hd2 (hmid b2 c2 L2 hd2 hg2 e2' hlb)) e1 e2 he
        · have:=(inv.live b2 c2 hg2).lt e2';omega
      rcases hcase b1 c1 g1 with ⟨hd1,hR1⟩ | ⟨hd1,hg1⟩<;>rcases hcase b2 c2 g2 with ⟨hd2,hR2⟩ | ⟨hd2,hg2⟩
      · exact hadv.hr.inj _ _ _ _ _ _ hR1 hR2 e1 e2 he
      · exact mixed b1 b2 c1 c2 L1 L2 hR1 e1 hd2 hg2 e2 he
      · exact (mixed b2 b1 c2 c1 L2 L1 hR2 e2 hd1 hg1 e1 he.symm).symm
      · rw [(hwin b1 hd1).1] at e1; rw [(hwin b2 hd2).1] at e2
        exact inv.inj _ _ _ _ _ _ hg1 hg2 e1 e2 he
    · rcases hcase b cs hb with ⟨hd, hR⟩ | ⟨hd, hg⟩
      · have:=hadv.hr.lt b cs hR;omega
      · exact inv.lt b cs hg
    · have hwi : ¬ (s.K.next ≤ b ∧ b < s.R.next) := fun hw => hnw i hL' (by rw [heq, ← sp.len]; exact q6u hw pre)
      have hw2:=hadv.win b (by omega)
      rw [hw2.1,hw2.2]
      refine inv.dom b h1 h2 fun j hLj=>hnw j ?_
      by_cases hji:j=i
      · subst hji;exact hL'
      · rw [hLL j hji];exact hLj
    · have hw2 := hadv.win b (by omega)
      rw [hw2.1,hw2.2];exact inv.win b hb
    · by_cases hd : s.d = some d
      · rw [heq, q6x sp.len hno' (.inr hd) pre sp.aft, Tt, sp.len, if_pos ⟨hL', hd⟩] at hl
        injection hl with hl;subst hl
        have hdN:Nat.lt d N:=sp.ok.dst d hd
        have hdS:Nat.lt d a.tmps.size:=Nat.lt_of_lt_of_le hdN inv.size
        rw [hd]
        exact ⟨v',by simp only [Act.put];rw [Array.getElem?_setIfInBounds,if_pos rfl];exact if_pos hdS,hv⟩
      · rw [heq, q73 sp.len hLL hd pre, ← heq] at hl
        obtain ⟨v,h1,h2⟩:=inv.tmp d l hl
        refine ⟨v,?_,h2.mono hadv.le⟩
        cases hsd:s.d with
        | none=>exact h1
        | some e =>
          simp only [Act.put]
          rw [Array.getElem?_setIfInBounds,if_neg (fun he=>hd (by rw [hsd,he]))];exact h1
    · rw [← inv.same k hk hn]
      refine hadv.same k (Nat.lt_of_lt_of_le hk inv.wsize) fun ⟨b3,c3,L3,g3,e3,hb3⟩=>?_
      rcases inv.lb b3 c3 L3 (hKH b3 c3 g3) e3 with h1 | h1
      · rw [hb3] at h1;exact hn h1
      · omega
    · rcases hcase b cs hb with ⟨hd, hR⟩ | ⟨hd, hg⟩
      · rcases hadv.lb Lc.block ⟨b, cs, Lc, hR, hL, rfl⟩ with ⟨b3, c3, L3, g3, e3, hb3⟩ | h1
        · rw [← hb3];exact inv.lb b3 c3 L3 (hKH b3 c3 g3) e3
        · exact .inr (Nat.le_trans inv.wsize h1)
      · rw [(hwin b hd).1] at hL
        exact inv.lb b cs Lc hg hL
    · rcases hcase b cs hb with ⟨hd, hR⟩ | ⟨hd, hg⟩
      · exact hadv.hr.sep _ ⟨b,cs,Lc,hR,hL,rfl⟩
      · have hL2 := hL
        rw [(hwin b hd).1] at hL2
        cases hf:η'.fz Lc.block with
        | none=>rfl
        | some ob =>
          exfalso
          rcases hadv.fzn _ _ hf with h1 | h1 | h1
          · rw [inv.sep b cs Lc hg hL2] at h1;cases h1
          · have := hadv.hr.sep _ ⟨b, cs, Lc, hkeep b cs hd (hmid b cs Lc hd hg hL2 h1), hL, rfl⟩
            rw [hf] at this;cases this
          · have:=(inv.live b cs hg).lt hL2;omega
    · rcases hadv.fzn k ob hk with h1 | ⟨b3, c3, L3, g3, e3, hb3⟩ | h1
      · exact inv.fzn k ob h1
      · rcases inv.lb b3 c3 L3 (hKH b3 c3 g3) e3 with h2 | h2
        · rw [hb3] at h2;exact .inr (.inl h2)
        · rw [hb3] at h2;exact .inr (.inr h2)
      · exact .inr (.inr (Nat.le_trans inv.wsize h1))
  obtain ⟨o,g,ho,hg,hus,hd,h1,h2⟩:=sp.ok.oper
  have hwant:=q5o (a:=a) (η:=η) (ops:=ops) (o:=o) (t:=t') (g:=g) (fun j want d hgj hdj l hl=>by
    have hmem:d∈s.us:=by
      rw [hus];unfold Oper.looksAt;rw [hgj]
      refine List.mem_append_right _ ?_
      show d∈((ops[j]?).bind (·.dst)).toList
      rw [hdj];simp
    exact inv.tmp d l (by rw [hTd d hmem];exact hl)) hg
  unfold wpOp
  rw [ho]
  simp only []
  rw [hwant]
  cases g with
  | true =>
    rw [if_pos rfl]
    have hE:∀ x,VR η (evR s.us t' x) (a.eval x):=by
      intro x
      cases x with
      | tmp n =>
        simp only [evR]
        cases hm:memB s.us n with
        | false=>exact .undef _
        | true =>
          rw [cond_true]
          simp only [xev,Act.eval]
          cases hl:t'.get n with
          | none=>exact .undef _
          | some l =>
            obtain ⟨v,e1,e2⟩:=inv.tmp n l (by rw [hTd n (q5s.1 hm)];exact hl)
            simp [Array.getD_eq_getD_getElem?,e1];exact e2
      | const v=>exact qj η v
      | global g=>exact .undef _
      | func f =>
        have:=VR.fn (η:=η) (f:=f) (cs:=[]) (vs:=[]) rfl (fun i c v hc=>by simp at hc)
        exact this
    refine .inl ((h1 rfl).2 s.R.next η w a hr (Nat.le_refl _) hE _ _ fun v' w' η' hv hadv=>?_)
    rw [← hd]
    exact hK _ _ _ (main v' w' η' hv hadv)
  | false =>
    rw [if_neg (by simp)]
    obtain ⟨e1,e2⟩:=h2 rfl
    rw [← hd]
    refine hK _ _ _ (main undef w η (by rw [e1];exact q5n) ?_)
    have hrr:=hr
    rw [e2] at hrr ⊢
    exact Adv.refl hrr
end
end Go.Tx

namespace Go.Tx
open Go
section
variable {D:List Deferred} {P:Program} {T:Tys} {C:Orc} {M N:Nat} {β:Type} {b:β}
theorem q75 {ms:List Nat} {o:Oper} {k:Nat} (h:(q6g ms o).testBit k=true):∃ e∈o.after,Region.binds .any e=true∧(k=e.on∨(ms.getD e.on 0).testBit k=true):=by
  have key:∀ (l:List Edge) (s:Nat),(l.foldl (fun s e=>bif Region.binds .any e then s ||| 2 ^ e.on ||| ms.getD e.on 0 else s) s).testBit k=true→s.testBit k=true ∨ ∃ e∈l,Region.binds .any e=true∧(k=e.on∨(ms.getD e.on 0).testBit k=true):=by
    intro l
    induction l with
    | nil=>intro s h;exact .inl h
    | cons e l ih =>
      intro s h
      rw [List.foldl_cons] at h
      rcases ih _ h with h1 | ⟨e',h1,h2⟩
      · cases hb : Region.binds .any e with
        | false=>rw [hb,cond_false] at h1;exact .inl h1
        | true =>
          rw [hb,cond_true,Nat.testBit_or,Nat.testBit_or,Bool.or_eq_true,Bool.or_eq_true] at h1
          rcases h1 with (h1 | h1) | h1
          · exact .inl h1
          · rw [Nat.testBit_two_pow, decide_eq_true_eq] at h1
            exact .inr ⟨e,List.mem_cons_self ..,hb,.inl h1.symm⟩
          · exact .inr ⟨e,List.mem_cons_self ..,hb,.inr h1⟩
      · exact .inr ⟨e',List.mem_cons_of_mem _ h1,h2⟩
  rcases key o.after.toList 0 h with h1 | ⟨e,h1,h2⟩
  · simp at h1
  · exact ⟨e,by simpa using h1,h2⟩
theorem q76:∀ (l:List Oper) (ms:List Nat),(ancs l ms).length=ms.length+l.length∧(∀ j,j<ms.length→(ancs l ms).getD j 0=ms.getD j 0) ∧
    ∀ j o,l[j]?=some o→∃ ms',(ancs l ms).getD (ms.length+j) 0=q6g ms' o∧∀ k,k<ms.length+j→ms'.getD k 0=(ancs l ms).getD k 0
  | [],ms=>⟨rfl,fun _ _=>rfl,fun j o h=>by simp at h⟩
  | o :: l, ms => by
    obtain ⟨h1,h2,h3⟩:=q76 l (ms ++ [q6g ms o])
    simp only [List.length_append,List.length_cons,List.length_nil,Nat.zero_add] at h1 h2 h3
    rw [ancs]
    have hpre:∀ j,j<ms.length→(ancs l (ms ++ [q6g ms o])).getD j 0=ms.getD j 0:=fun j hj=>by
      rw [h2 j (by omega)];simp [List.getElem?_append_left hj]
    refine ⟨by rw [h1,List.length_cons];omega,hpre,fun j o' hj=>?_⟩
    cases j with
    | zero =>
      simp only [List.getElem?_cons_zero,Option.some.injEq] at hj;subst hj
      refine ⟨ms,?_,fun k hk=>(hpre k hk).symm⟩
      rw [Nat.add_zero,h2 ms.length (by omega)];simp
    | succ j =>
      simp only [List.getElem?_cons_succ] at hj
      obtain ⟨ms',e1,e2⟩:=h3 j o' hj
      refine ⟨ms',?_,fun k hk=>e2 k (by omega)⟩
      rw [← e1];congr 1;omega
theorem q77:∀ (l:List Oper) (i:Nat),q6h l i=true→∀ j o,l[j]?=some o→∀ e∈o.after,Region.binds .any e=true→e.on<i+j
  | [],_,_,j,o,h=>by simp at h
  | o :: l, i, h, j, o', hj => by
    simp only [q6h,Bool.and_eq_true,List.all_eq_true] at h
    cases j with
    | zero =>
      simp only [List.getElem?_cons_zero,Option.some.injEq] at hj;subst hj
      intro e he hb
      have:=h.1 e (by simpa using he)
      rw [hb] at this
      simpa [Nat.blt_eq] using this
    | succ j =>
      simp only [List.getElem?_cons_succ] at hj
      intro e he hb
      have:=q77 l (i+1) h.2 j o' hj e he hb
      omega
theorem q78:∀ (n:Nat) (c:List Nat),c.Nodup→(∀ j∈c,j<n)→c.length≤n
  | 0, c, _, h => by
    cases c with
    | nil=>exact Nat.le_refl _
    | cons x c=>exact absurd (h x (List.mem_cons_self ..)) (Nat.not_lt_zero _)
  | n + 1, c, hc, h => by
    by_cases hn:n∈c
    · have h1:=q78 n (c.erase n) (hc.erase n) (fun j hj=>by
        have:=(List.Nodup.mem_erase_iff hc).1 hj
        have h2:=h j this.2
        have h3:=this.1
        omega)
      rw [List.length_erase_of_mem hn] at h1
      omega
    · have:=q78 n c hc (fun j hj=>by
        have h2:=h j hj
        have h3:j≠n:=fun he=>hn (he ▸ hj)
        omega)
      omega
theorem q79 (hm:P.follows .mixedOrders=true) (hT:TysOK P T) (hC:OrcOK P C) {ops:Array Oper} {t:Mem} {H:LH} {k:Mem→LH→Option β} (hx0:q6l T C N ops t H k=some b):∃ t' H',k t' H'=some b∧Logged H H' ∧
    ∀ M η a w Q,H'.next≤M→SR M N D η t H a w→(∀ a' w' η',SR M N D η' t' H' a' w'→Adv M H η w H' η' w'→Q .normal a' w')→wpAny P .any ops Q ops.size (Array.replicate ops.size false) a { w with drawn:=w.drawn+1 }:=by
  unfold q6l at hx0
  cases hro:q6k ops with
  | false=>rw [hro] at hx0;cases hx0
  | true =>
    rw [hro,cond_true] at hx0
    unfold q6k at hro
    rw [Bool.and_eq_true] at hro
    have hed:=hro.1
    obtain ⟨tr,t',H',hk,htc,hlen⟩:=q6q (t0:=t) (H0:=H) hT hC ops.toList (tr:=[]) hx0 .nil rfl trivial hro.2 (fun j=>by simp)
    refine ⟨t',H',hk,?_,fun M η a w Q hM hs hQ=>?_⟩
    · clear hlen hk hx0
      induction htc with
      | nil=>exact Logged.refl _
      | cons h hs ht ih =>
        rename_i tr t1 t2 H1 s
        refine ih.trans ?_
        have hl:=hs.logged
        refine ⟨by show H1.next≤s.R.next;have:=hl.next;rw [hs.next] at this;exact this,⟨s.R.log,rfl,fun b hb hn=>?_⟩,fun hb b cs hg=>?_⟩
        · classical
          rw [q5w,if_neg]
          rintro (h1 | h1)
          · exact hn h1
          · have:=hs.next;omega
        · classical
          rw [q5w] at hg
          show b<s.R.next
          split at hg
          · exact hl.bnd (fun x c hx=>by rw [hs.next];exact hb x c (hs.get x c hx)) b cs hg
          · have:=hb b cs hg;have h2:=hl.next;rw [hs.next] at h2;omega
    simp only [Nat.zero_add,Array.length_toList] at hlen
    generalize hms:ancs ops.toList []=ms at htc
    obtain ⟨a1,a2,a3⟩:=q76 ops.toList []
    rw [hms] at a1 a2 a3
    have hedges:=q77 ops.toList 0 hed
    have hanc:∀ i o,ops[i]?=some o→∀ k,(ms.getD i 0).testBit k=true→∃ e∈o.after,Region.binds .any e=true∧(k=e.on∨(ms.getD e.on 0).testBit k=true):=by
      intro i o ho k hk
      obtain ⟨ms',e1,e2⟩:=a3 i o (by simpa using ho)
      simp only [List.length_nil,Nat.zero_add] at e1 e2
      rw [e1] at hk
      obtain ⟨e,he,hb,h⟩:=q75 hk
      have hlt:=hedges i o (by simpa using ho) e he hb
      refine ⟨e,he,hb,h.imp id fun h=>?_⟩
      rw [← e2 e.on (by omega)];exact h
    have hfar:∀ i,ops.size≤i→ms.getD i 0=0:=fun i hi=>by
      rw [List.getD_eq_getElem?_getD,List.getElem?_eq_none (by rw [a1];simpa using hi)];rfl
    -- the invariant gives the end
    have fin:∀ (L:Nat→Bool) η' a' w',(∀ j,j<tr.length→L j=true)→Inv D M N ms t H η w tr H' L η' a' w'→Q .normal a' w':=by
      intro L η' a' w' hL inv
      have hG:∀ b,Gt H tr L b=H'.get b:=fun b=>by rw [htc.full.1 b];exact q70 tr (fun j hj=>hL j hj)
      have hT:∀ d,Tt t tr L d=t'.get d:=fun d=>by rw [htc.full.2 d];exact q71 tr (fun j hj=>hL j hj)
      have hr:HR M η' H' w':=by
        refine ⟨fun b h1 h2=>?_,fun b cs hb=>inv.lt b cs (by rw [hG];exact hb),fun b cs hb=>inv.live b cs (by rw [hG];exact hb),fun b1 b2 c1 c2 L1 L2 g1 g2=>inv.inj b1 b2 c1 c2 L1 L2 (by rw [hG];exact g1) (by rw [hG];exact g2),inv.fz,fun k ⟨b,cs,Lc,hb,hL,hk⟩=>hk ▸ inv.sep b cs Lc (by rw [hG];exact hb) hL,inv.ok⟩
        have hw2:=inv.win b (.inr h1)
        rw [hw2.1,hw2.2]
        exact hs.hr.dom b (Nat.le_trans htc.next h1) h2
      refine hQ a' w' η' ⟨hr,fun d l hl=>inv.tmp d l (by rw [hT];exact hl),inv.size,inv.defers⟩ ⟨inv.le,inv.win,htc.next,hr,inv.wsize,inv.same,fun k ⟨b,cs,Lc,hb,hL2,hk⟩=>?_,inv.fzn,inv.os,inv.tape,inv.output,inv.drawn⟩
      rw [← hk]
      exact inv.lb b cs Lc (by rw [hG];exact hb) hL2
    have run:∀ (f:Nat) (li:Array Bool) η' a' w',li.size=ops.size→(∀ (c:List Nat),c.Nodup→(∀ j∈c,li.getD j true=false)→c.length≤f)→Inv D M N ms t H η w tr H' (fun j=>li.getD j false) η' a' w'→wpAny P .any ops Q f li a' w':=by
      have hready:∀ (li:Array Bool),li.size=ops.size→Region.ready .any ops li=[]→∀ j,j<tr.length→li.getD j false=true:=by
        intro li hsz hr j hj
        have hall:∀ n j,j<n→j<ops.size→li.getD j false=true:=by
          intro n
          induction n with
          | zero=>intro j hj;omega
          | succ n ih =>
            intro j hj hjs
            by_cases hjn:j<n
            · exact ih j hjn hjs
            · cases hlj : li.getD j false with
              | true=>rfl
              | false =>
                exfalso
                have hmem:j∈Region.ready .any ops li:=by
                  refine mem_ready.2 ⟨getD_in (by omega) hlj,ops[j],Array.getElem?_eq_getElem hjs,fun e he hb=>?_⟩
                  have:=hedges j ops[j] (by simp [hjs]) e he hb
                  exact ih e.on (by omega) (by omega)
                rw [hr] at hmem;cases hmem
        exact hall (j+1) j (by omega) (by omega)
      intro f
      induction f with
      | zero =>
        intro li η' a' w' hsz hcnt inv
        have hr:Region.ready .any ops li=[]:=by
          cases hr:Region.ready .any ops li with
          | nil=>rfl
          | cons x xs =>
            have hmem:x∈Region.ready .any ops li:=by rw [hr];exact List.mem_cons_self ..
            have:=hcnt [x] (by simp) (fun j hj=>by simp at hj;subst hj;exact (mem_ready.1 hmem).1)
            simp at this
        exact ⟨hr,fin _ η' a' w' (hready li hsz hr) inv⟩
      | succ f ih =>
        intro li η' a' w' hsz hcnt inv
        refine ⟨fun hr=>fin _ η' a' w' (hready li hsz hr) inv,fun i hi=>?_⟩
        obtain ⟨hli,o,ho,hall⟩:=mem_ready.1 hi
        have his:i<ops.size:=(Array.getElem?_eq_some_iff.1 ho).1
        refine q74 hs.hr.lt htc hM (i:=i) (by omega) (L:=fun j=>li.getD j false) (L':=fun j=>(li.setIfInBounds i true).getD j false) (getD_both hli) ?_ (fun j hj=>getD_set_ne false (Ne.symm hj)) (fun k hk=>?_) inv fun a2 w2 η2 inv2=>?_
        · simp [hsz,his]
        · obtain ⟨e, he, hb, h⟩ := hanc i o ho k hk
          have h1:=hall e he hb
          rcases h with rfl | h
          · exact h1
          · exact inv.cl e.on k h1 h
        · refine ih _ η2 a2 w2 (by simp [hsz]) (fun c hc hcl2 => ?_) inv2
          have hnot:i ∉ c:=fun hm=>by
            have:=hcl2 i hm
            simp [hsz,his] at this
          have:=hcnt (i :: c) (List.nodup_cons.2 ⟨hnot,hc⟩) (fun j hj=>by
            rcases List.mem_cons.1 hj with rfl | hj
            · exact hli
            · have h2 := hcl2 j hj
              rwa [getD_set_ne true (fun he=>hnot (by rw [he];exact hj))] at h2)
          simp at this;omega
    refine run ops.size _ η a _ (by simp) (fun c hc hcf=>?_) ?_
    · have hlt:∀ j∈c,j<ops.size:=fun j hj=>by
        have:=hcf j hj
        rcases Nat.lt_or_ge j ops.size with h | h
        · exact h
        · simp [h] at this
      exact q78 ops.size c hc hlt
    · have hL0 : ∀ j, (Array.replicate ops.size false).getD j false = false := fun j => getD_replicate_false _ _
      have hG0:∀ b,Gt H tr (fun j=>(Array.replicate ops.size false).getD j false) b=H.get b:=fun b=>by
        clear hlen htc fin run
        induction tr with
        | nil=>rfl
        | cons s tr ih=>rw [Gt,hL0,Bool.false_and,cond_false];exact ih
      have hT0:∀ d,Tt t tr (fun j=>(Array.replicate ops.size false).getD j false) d=t.get d:=fun d=>by
        clear hlen htc hG0 fin run
        induction tr with
        | nil=>rfl
        | cons s tr ih=>rw [Tt,if_neg (by rw [hL0];simp)];exact ih
      have hnx:=htc.next
      exact ⟨(fun j k hj=>by rw [hL0] at hj;cases hj),(fun b cs hb=>by rw [hG0] at hb;exact (hs.hr.live b cs hb).move (Emb.le_refl _) rfl (Nat.le_refl _) fun _ _=>rfl),(fun b1 b2 c1 c2 L1 L2 g1 g2=>by rw [hG0] at g1 g2;exact hs.hr.inj b1 b2 c1 c2 L1 L2 g1 g2),
        (fun b cs hb=>by rw [hG0] at hb;exact Nat.lt_of_lt_of_le (hs.hr.lt b cs hb) hnx),fun b h1 h2 _=>hs.hr.dom b h1 h2,Emb.le_refl _,fun _ _=>⟨rfl,rfl⟩,(fun d l hl=>by rw [hT0] at hl;exact hs.tr d l hl),hs.size,hs.defers,
        Nat.le_refl _,fun _ _ _=>rfl,(fun b cs Lc hb hL=>by rw [hG0] at hb;exact .inl ⟨b,cs,Lc,hb,hL,rfl⟩),hs.hr.fz,(fun b cs Lc hb hL=>by rw [hG0] at hb;exact hs.hr.sep _ ⟨b,cs,Lc,hb,hL,rfl⟩),hs.hr.ok,fun _ _ h=>.inl h,rfl,rfl,rfl,Nat.le_succ _⟩
end
end Go.Tx

namespace Go.Tx
open Go
structure St where
  tm:List (Nat×LV)
  ob:List Ob
def q7a:List (Nat×LV)→Mem→Mem
  | [],t=>t
  | p :: l,t=>q7a l (t.set p.1 (some p.2))
def q7b:List Ob→Nat→Tr Ob→Tr Ob
  | [],_,t=>t
  | ob :: l,i,t=>q7b l (i+1) (t.set i (some ob))
def q7c (l:List Ob):LH:=⟨q7b l 0 .lf,l.length,[]⟩
theorem q7d:∀ (l:List (Nat×LV)) (t:Mem) (n:Nat) (v:LV),(q7a l t).get n=some v→(n,v)∈l∨t.get n=some v
  | [],t,n,v,h=>.inr h
  | p :: l, t, n, v, h => by
    rcases q7d l _ n v h with h1 | h1
    · exact .inl (List.mem_cons_of_mem _ h1)
    · rw [Tr.get_set] at h1
      split at h1
      · rename_i he
        injection h1 with h1
        exact .inl (List.mem_cons.2 (.inl (by rw [he,← h1])))
      · exact .inr h1
theorem q7e:∀ (l:List Ob) (i:Nat) (t:Tr Ob) (b:Nat),(q7b l i t).get b=if i≤b∧b<i+l.length then l[b - i]? else t.get b
  | [],i,t,b=>by rw [q7b,if_neg];simp
  | ob :: l, i, t, b => by
    rw [q7b,q7e l (i+1),Tr.get_set]
    simp only [List.length_cons]
    by_cases h1:i+1≤b∧b<i+1+l.length
    · rw [if_pos h1,if_pos (by omega),show b - i=(b - (i+1))+1 by omega,List.getElem?_cons_succ]
    · rw [if_neg h1]
      by_cases h2:b=i
      · subst h2;rw [if_pos rfl,if_pos (by omega),Nat.sub_self];rfl
      · rw [if_neg h2,if_neg (by omega)]
theorem q7f (l:List Ob) (b:Nat):(q7c l).get b=l[b]?:=by
  show (q7b l 0 .lf).get b=_
  rw [q7e]
  split
  · rfl
  · rename_i h
    rw [Tr.get_lf,List.getElem?_eq_none (by omega)]
structure Fz0 where
  φ:Nat→Option Obj
  K:Nat→Obj→Prop
  D:List Deferred
abbrev noK (φ:Nat→Option Obj):Fz0:=⟨φ,fun _ _=>False,[]⟩
structure Fr (w0:World) (φ0:Fz0) (H:LH) (η:Emb) (w:World):Prop where
  size:w0.heap.size≤w.heap.size
  same:∀ k,k<w0.heap.size→w.heap[k]?=w0.heap[k]?
  lb:∀ k,LB H η k→w0.heap.size≤k
  fz0:∀ k ob,φ0.φ k=some ob→η.fz k=some ob
  fzn:∀ k ob,η.fz k=some ob→φ0.φ k=some ob∨w0.heap.size≤k
  os:w.os=w0.os
  tape:w.tape=w0.tape
  output:w.output=w0.output
  drawn:w0.drawn≤w.drawn
  kp:∀ k o,φ0.K k o→w.heap[k]?=some o∧¬ LB H η k∧η.fz k=none
theorem Fr.adv {w0:World} {φ0:Fz0} {M:Nat} {H H':LH} {η η':Emb} {w w':World} (h:Fr w0 φ0 H η w) (k:Adv M H η w H' η' w'):Fr w0 φ0 H' η' w' where
  size:=Nat.le_trans h.size k.size
  same j hj:=(k.same j (Nat.lt_of_lt_of_le hj h.size) fun hl=>by have:=h.lb j hl;omega).trans (h.same j hj)
  lb j hj:=(k.lb j hj).elim (h.lb j) fun h1=>Nat.le_trans h.size h1
  fz0 j ob hj:=k.le.fz j ob (h.fz0 j ob hj)
  fzn j ob hj:=(k.fzn j ob hj).elim (h.fzn j ob) fun h1=>.inr (h1.elim (h.lb j) fun h2=>Nat.le_trans h.size h2)
  os:=k.os.trans h.os
  tape:=k.tape.trans h.tape
  output:=k.output.trans h.output
  drawn:=Nat.le_trans h.drawn k.drawn
  kp j o hj:=by
    obtain ⟨h1,h2,h3⟩:=h.kp j o hj
    have hlt:j<w.heap.size:=(Array.getElem?_eq_some_iff.1 h1).1
    refine ⟨(k.same j hlt h2).trans h1,fun hl=>(k.lb j hl).elim h2 (fun h4=>by omega),?_⟩
    cases hf:η'.fz j with
    | none=>rfl
    | some ob => rcases k.fzn j ob hf with h4 | h4 | h4
                 · rw [h3] at h4;cases h4
                 · exact (h2 h4).elim
                 · omega
structure SS (w0:World) (φ0:Fz0) (N:Nat) (s:St) (a:Act) (w:World):Prop where
  emb:∃ η,(∀ M,HR M η (q7c s.ob) w)∧(∀ n l,(n,l)∈s.tm→∃ v,a.tmps[n]?=some v∧VR η l v)∧Fr w0 φ0 (q7c s.ob) η w
  size:N≤a.tmps.size
  defers:a.defers=φ0.D
inductive Kd where
  | any
  | own (τ:Row)
  | val (τ:Row)
  | box (ks:List Kd)
section
variable {D:List Deferred} {P:Program} {T:Tys} {C:Orc} {M N:Nat} {H:LH} {η:Emb} {w:World} {β:Type} {b:β}
theorem Logged.trans' {e:Row} {xs:List (List (den e))} {r:Option Nat} {ob:Ob} {H:LH} {m:Nat} (h:Logged H (H.alloc ob)) (hg:H.get m=some (.rowl e xs none)):Logged H ((H.alloc ob).put m (some (.rowl e xs r))):=by
  by_cases hm:m=H.next
  · refine ⟨h.next, ⟨[m], rfl, fun b hb hn => ?_⟩, fun hb b cs hx => ?_⟩
    · rw [LH.get_put,if_neg (by simpa using hn),LH.get_alloc,if_neg (by omega)]
    · have:=hb m _ hg;omega
  · exact h.trans (Logged.put (H.alloc ob) (by rw [LH.get_alloc,if_neg hm];exact hg) _)
theorem q7g {e:Row} {xs:List (List (den e))} {m:Nat} (h:HR M η H w) (hM:((H.alloc (.rows e [])).put m (some (.rowl e xs (some H.next)))).next≤M) (hg:H.get m=some (.rowl e xs none)) :
    Adv M H η w ((H.alloc (.rows e [])).put m (some (.rowl e xs (some H.next)))) (η.put H.next none (some (.slice none 0 0))) w:=by
  have h1:=q12 h hM e none
  have hm:m≠H.next:=by have:=h.lt _ _ hg;omega
  have hg1:(H.alloc (.rows e [])).get m=some (.rowl e xs none):=by rw [LH.get_alloc,if_neg hm];exact hg
  refine h1.trans (q1g h1.hr hg1 ?_)
  cases h1.hr.live _ _ hg1 with
  | rowl hL ha hh hc hr =>
    refine .rowl hL ⟨ha.lt,by have:=ha.fits;simpa [Ob.list] using this,ha.there,fun j c hc=>?_⟩ hh hc hr
    rename_i L c0
    rcases Nat.lt_or_ge j (flat (.sl e .nil) (ql xs)).length with hj | hj
    · rw [Ob.list, List.getElem?_append_left hj] at hc
      exact ha.cell j c (by rw [Ob.list,List.getElem?_append_left hj];exact hc)
    · rw [Ob.list, List.getElem?_append_right hj] at hc
      have hj0:j - (flat (.sl e .nil) (ql xs)).length=0:=by
        have:=(List.getElem?_eq_some_iff.1 hc).1;simpa using this
      rw [hj0] at hc
      injection hc with hc;subst hc
      obtain ⟨v,e1,e2⟩:=ha.cell j .nils (by rw [Ob.list,List.getElem?_append_right hj,hj0];rfl)
      refine ⟨v,e1,?_⟩
      cases e2
      exact .rs (Emb.put_hdr ..)
def tcoe (kd:Kd) (l:LV) (H:LH) (k:LV→LH→Option β):Option β :=
  match kd,l with
  | .any,l=>k l H
  | .own τ,.nils=>k (.rs H.next) (H.alloc (.rows τ []))
  | .own _,.rs m=>match H.get m with | some (.rowl e xs none)=>k (.rs m) ((H.alloc (.rows e [])).put m (some (.rowl e xs (some H.next)))) | _=>k (.rs m) H
  | .val τ,.nils=>k (.fz τ []) H
  | .val _,.rs m=>match H.get m with | some (.rows σ xs)=>k (.fz σ xs) (H.put m none) | some (.rowl _ _ _)=>q4m m H fun e zs H1=>k (.fz (.sl e .nil) (ql zs)) (H1.put m none) | _=>none
  | .val _,.fz σ xs=>k (.fz σ xs) H
  | _,_=>none
theorem q7h {kd:Kd} {l:LV} {k:LV→LH→Option β} (hx:tcoe kd l H k=some b):∃ l' H',k l' H'=some b∧Logged H H'∧(l.cellB=true→l'.cellB=true)∧∀ M η w v,HR M η H w→H'.next≤M→VR η l v→∃ η',Adv M H η w H' η' w∧VR η' l' v:=by
  unfold tcoe at hx
  split at hx
  · exact ⟨_,_,hx,Logged.refl _,id,fun M η w v h hM hv=>⟨η,Adv.refl h,hv⟩⟩
  · rename_i τ
    refine ⟨_,_,hx,Logged.alloc _ _,fun _=>rfl,fun M η w v h hM hv=>?_⟩
    cases hv
    exact ⟨_,q12 h hM τ none,.rs (Emb.put_hdr ..)⟩
  · split at hx
    · rename_i m e xs hg
      refine ⟨_,_,hx,(Logged.alloc H (.rows e [])).trans' hg,fun _=>rfl,fun M η w v h hM hv=>?_⟩
      exact ⟨_,q7g h hM hg,hv.mono (h.le_put hM _ _)⟩
    · exact ⟨_,_,hx,Logged.refl _,fun _=>rfl,fun M η w v h hM hv=>⟨η,Adv.refl h,hv⟩⟩
  · refine ⟨_, _, hx, Logged.refl _, fun _ => rfl, fun M η w v h hM hv => ?_⟩
    cases hv
    exact ⟨η,Adv.refl h,.fz ⟨none,0,rfl,Nat.le_refl _,fun _=>rfl,fun i x hx=>by simp at hx⟩⟩
  · split at hx
    · rename_i hg
      refine ⟨_,_,hx,Logged.put _ hg _,fun _=>rfl,fun M η w v h hM hv=>?_⟩
      cases hv with
      | rs hh=>exact q18 h hg hh
    · obtain ⟨e, zs, H1, h1, h2, h3, h4, h5⟩ := q4n hx
      refine ⟨_,_,h1,h2.trans (Logged.put _ h4 _),fun _=>rfl,fun M η w v h hM hv=>?_⟩
      obtain ⟨η1,a1⟩:=h5 M η w h
      cases hv with
      | rs hh =>
        obtain ⟨η2,b1,b2⟩:=q18 a1.hr h4 (a1.le.hdr _ _ hh)
        exact ⟨η2,a1.trans b1,b2⟩
    · cases hx
  · exact ⟨_,_,hx,Logged.refl _,fun _=>rfl,fun M η w v h hM hv=>⟨η,Adv.refl h,hv⟩⟩
  · cases hx
def q7i:List Kd→List LV→LH→(List LV→LH→Option β)→Option β
  | [],cs,H,k=>k cs H
  | kd :: ks,c :: cs,H,k=>tcoe kd c H fun c H=>q7i ks cs H fun cs H=>k (c :: cs) H
  | _ :: _,[],_,_=>none
theorem q7j:∀ (ks:List Kd) {cs:List LV} {H:LH} {k:List LV→LH→Option β},q7i ks cs H k=some b→∃ ds H',k ds H'=some b∧Logged H H'∧ds.length=cs.length∧∀ M η w vs,HR M η H w→H'.next≤M→VRs η cs vs→∃ η',Adv M H η w H' η' w∧VRs η' ds vs
  | [],cs,H,k,hx=>⟨cs,H,hx,Logged.refl _,rfl,fun M η w vs h hM hv=>⟨η,Adv.refl h,hv⟩⟩
  | kd :: ks,[],H,k,hx=>by cases hx
  | kd :: ks, c :: cs, H, k, hx => by
    rw [q7i] at hx
    obtain ⟨c',H1,h1,h2,_,h3⟩:=q7h hx
    obtain ⟨ds,H2,g1,g2,g3,g4⟩:=q7j ks h1
    refine ⟨_,H2,g1,h2.trans g2,by simp [g3],fun M η w vs h hM hv=>?_⟩
    obtain ⟨v,vs,rfl,a1,a2⟩:=hv.uncons
    obtain ⟨η1,e1,e2⟩:=h3 M η w v h (Nat.le_trans g2.next hM) a1
    obtain ⟨η2,e3,e4⟩:=g4 M η1 w vs e1.hr hM (a2.mono e1.le)
    exact ⟨η2,e1.trans e3,VRs.cons (e2.mono e3.le) e4⟩
def q7k (kd:Kd) (l:LV) (H:LH) (k:LV→LH→Option β):Option β :=
  match kd,l with
  | .box ks, .ptr n 0 => match H.get n with
    | some (.cells cs) => q7i ks cs H fun ds H => match H.get n with
      | some (.cells _)=>k (.ptr n 0) (H.put n (some (.cells ds)))
      | _=>none
    | _=>none
  | kd,l=>tcoe kd l H k
theorem q7l {kd:Kd} {l:LV} {k:LV→LH→Option β} (hx:q7k kd l H k=some b):∃ l' H',k l' H'=some b∧Logged H H'∧∀ M η w v,HR M η H w→H'.next≤M→VR η l v→∃ η',Adv M H η w H' η' w∧VR η' l' v:=by
  unfold q7k at hx
  split at hx
  · rename_i ks n
    split at hx
    · rename_i cs hg
      obtain ⟨ds,H1,g1,g2,g3,g4⟩:=q7j ks hx
      split at g1
      · rename_i cs1 hg1
        refine ⟨_,_,g1,g2.trans (Logged.put _ hg1 _),fun M η w v h hM hv=>?_⟩
        cases hv with
        | ptr hL =>
          rename_i L
          have ha:=(h.live _ _ hg).at hL
          have hcut:cut cs 0 cs.length=some cs:=by unfold cut;rw [Nat.zero_add,Nat.ble_eq_true_of_le (Nat.le_refl _),List.drop_zero,List.take_length];rfl
          obtain ⟨vs,o1,o2⟩:=Lie.cut ha.cell hcut
          obtain ⟨η1,e1,e2⟩:=g4 M η w vs h hM o1
          have hL1:=e1.le.loc _ _ hL
          have ha1:=(e1.hr.live _ _ hg1).at hL1
          have hat:At η1 w ds L:=by
            refine ⟨ha.lt,by rw [g3];exact ha.fits,ha.there,fun j c hc=>?_⟩
            obtain ⟨v,f1,f2⟩:=e2.get hc
            exact ⟨v,by have:=o2 j v f1;rwa [Nat.add_zero] at this,f2⟩
          exact ⟨η1,e1.trans (q1d (o:=0) (vs:=[]) e1.hr hg1 hL1 hat (.inl ⟨_,_,rfl,rfl⟩)),.ptr hL1⟩
      · cases g1
    · cases hx
  · obtain ⟨l', H', h1, h2, _, h3⟩ := q7h hx
    exact ⟨l',H',h1,h2,h3⟩
def q7m:List (Nat×Kd)→Mem→LH→(List (Nat×LV)→LH→Option β)→Option β
  | [],_,H,k=>k [] H
  | p :: ps, t, H, k => match t.get p.1 with
    | some l=>q7k p.2 l H fun l H=>q7m ps t H fun ls H=>k ((p.1,l) :: ls) H
    | none=>none
theorem q7n:∀ (ps:List (Nat×Kd)) {t:Mem} {H:LH} {k:List (Nat×LV)→LH→Option β},q7m ps t H k=some b→∃ ls H',k ls H'=some b∧Logged H H'∧∀ M η w (a:Act),HR M η H w→H'.next≤M→TR η t a→∃ η',Adv M H η w H' η' w∧∀ n l,(n,l)∈ls→∃ v,a.tmps[n]?=some v∧VR η' l v
  | [],t,H,k,hx=>⟨[],H,hx,Logged.refl _,fun M η w a h hM ht=>⟨η,Adv.refl h,fun n l hl=>by simp at hl⟩⟩
  | p :: ps, t, H, k, hx => by
    rw [q7m] at hx
    split at hx
    · rename_i l hl
      obtain ⟨l',H1,h1,h2,h3⟩:=q7l hx
      obtain ⟨ls,H2,g1,g2,g3⟩:=q7n ps h1
      refine ⟨_,H2,g1,h2.trans g2,fun M η w a h hM ht=>?_⟩
      obtain ⟨v,a1,a2⟩:=ht _ _ hl
      obtain ⟨η1,e1,e2⟩:=h3 M η w v h (Nat.le_trans g2.next hM) a2
      obtain ⟨η2,e3,e4⟩:=g3 M η1 w a e1.hr hM (ht.mono e1.le)
      refine ⟨η2,e1.trans e3,fun n x hx=>?_⟩
      rcases List.mem_cons.1 hx with hx | hx
      · injection hx with hn hx2;rw [hn,hx2];exact ⟨v,a1,e2.mono e3.le⟩
      · exact e4 n x hx
    · cases hx
def idx:List Nat→Nat→Nat→Option Nat
  | [],_,_=>none
  | x :: l,i,n=>bif Nat.beq x n then some i else idx l (i+1) n
theorem q7o:∀ (l:List Nat) (i n j:Nat),idx l i n=some j→i≤j∧l[j - i]?=some n
  | [],_,_,_,h=>by cases h
  | x :: l, i, n, j, h => by
    rw [idx,Bool.cond_eq_ite] at h
    split at h
    · rename_i he
      rw [Nat.beq_eq] at he
      injection h with h;subst h
      exact ⟨Nat.le_refl _,by rw [Nat.sub_self,List.getElem?_cons_zero,he]⟩
    · obtain ⟨h1, h2⟩ := q7o l (i + 1) n j h
      exact ⟨by omega,by rw [show j - i=(j - (i+1))+1 by omega,List.getElem?_cons_succ];exact h2⟩
mutual
def ren (ρ:List Nat):LV→Option LV
  | .ptr n o=>match idx ρ 0 n with | some j=>some (.ptr j o) | none=>none
  | .rp n i sz j=>match idx ρ 0 n with | some m=>some (.rp m i sz j) | none=>none
  | .rs n=>match idx ρ 0 n with | some j=>some (.rs j) | none=>none
  | .fn f cs=>match rens ρ cs with | some cs=>some (.fn f cs) | none=>none
  | .agg cs=>match rens ρ cs with | some cs=>some (.agg cs) | none=>none
  | .tup cs=>match rens ρ cs with | some cs=>some (.tup cs) | none=>none
  | .undef=>some .undef
  | .int k n=>some (.int k n)
  | .bool v=>some (.bool v)
  | .nilp=>some .nilp
  | .str s=>some (.str s)
  | .nils=>some .nils
  | .fz τ xs=>some (.fz τ xs)
  | .fp τ x j=>some (.fp τ x j)
def rens (ρ:List Nat):List LV→Option (List LV)
  | []=>some []
  | c :: cs => match ren ρ c with
    | some c=>match rens ρ cs with | some cs=>some (c :: cs) | none=>none
    | none=>none
end
def Emb.sub (η:Emb) (ρ:List Nat):Emb:=⟨fun j=>(ρ[j]?).bind η.loc,fun j=>(ρ[j]?).bind η.hdr,η.fz⟩
theorem q7p {ρ:List Nat} {n j:Nat} (h:idx ρ 0 n=some j):(η.sub ρ).loc j=η.loc n∧(η.sub ρ).hdr j=η.hdr n:=by
  have:=(q7o ρ 0 n j h).2
  rw [Nat.sub_zero] at this
  unfold Emb.sub
  simp only [this,Option.bind_some,and_self]
mutual
theorem q7q (ρ:List Nat):∀ {l l':LV} {v:Value},ren ρ l=some l'→VR η l v→VR (η.sub ρ) l' v
  | .ptr n o, l', v, h, hv => by
    rw [ren] at h
    split at h
    · rename_i j hj; injection h with h; subst h
      cases hv with
      | ptr hL=>exact .ptr (by rw [(q7p hj).1];exact hL)
    · cases h
  | .rp n i sz c, l', v, h, hv => by
    rw [ren] at h
    split at h
    · rename_i j hj; injection h with h; subst h
      cases hv with
      | rp hL hh hi=>exact .rp (by rw [(q7p hj).1];exact hL) (by rw [(q7p hj).2];exact hh) hi
    · cases h
  | .rs n, l', v, h, hv => by
    rw [ren] at h
    split at h
    · rename_i j hj; injection h with h; subst h
      cases hv with
      | rs hh=>exact .rs (by rw [(q7p hj).2];exact hh)
    · cases h
  | .fn f cs, l', v, h, hv => by
    rw [ren] at h
    split at h
    · rename_i ds hd; injection h with h; subst h
      cases hv with
      | fn hl hh=>have:=rens_ok ρ hd ⟨hl,hh⟩;exact .fn this.1 this.2
    · cases h
  | .agg cs, l', v, h, hv => by
    rw [ren] at h
    split at h
    · rename_i ds hd; injection h with h; subst h
      cases hv with
      | agg hl hh=>have:=rens_ok ρ hd ⟨hl,hh⟩;exact .agg this.1 this.2
    · cases h
  | .tup cs, l', v, h, hv => by
    rw [ren] at h
    split at h
    · rename_i ds hd; injection h with h; subst h
      cases hv with
      | tup hl hh=>have:=rens_ok ρ hd ⟨hl,hh⟩;exact .tup this.1 this.2
    · cases h
  | .undef,l',v,h,hv=>by rw [ren] at h;injection h with h;subst h;exact .undef _
  | .int k n,l',v,h,hv=>by rw [ren] at h;injection h with h;subst h;cases hv;exact .int _ _
  | .bool k,l',v,h,hv=>by rw [ren] at h;injection h with h;subst h;cases hv;exact .bool _
  | .nilp,l',v,h,hv=>by rw [ren] at h;injection h with h;subst h;cases hv;exact .nilp
  | .str s,l',v,h,hv=>by rw [ren] at h;injection h with h;subst h;cases hv;exact .str _
  | .nils,l',v,h,hv=>by rw [ren] at h;injection h with h;subst h;cases hv;exact .nils
  | .fz τ xs,l',v,h,hv=>by rw [ren] at h;injection h with h;subst h;cases hv with | fz hf=>exact .fz hf
  | .fp τ x j,l',v,h,hv=>by rw [ren] at h;injection h with h;subst h;cases hv with | fp hf=>exact .fp hf
theorem rens_ok (ρ:List Nat):∀ {cs ds:List LV} {vs:List Value},rens ρ cs=some ds→VRs η cs vs→VRs (η.sub ρ) ds vs
  | [], ds, vs, h, hv => by
    rw [rens] at h;injection h with h;subst h
    have:vs=[]:=by have:=hv.1;simpa using this.symm
    subst this;exact VRs.nil
  | c :: cs, ds, vs, h, hv => by
    obtain ⟨v,vs,rfl,h1,h2⟩:=hv.uncons
    rw [rens] at h
    split at h
    · rename_i d hd
      split at h
      · rename_i ds' hds
        injection h with h;subst h
        exact VRs.cons (q7q ρ hd h1) (rens_ok ρ hds h2)
      · cases h
    · cases h
end
theorem q7r {η':Emb} (hfz:∀ k ob,η.fz k=some ob→η'.fz k=some ob):∀ (τ:Row) (x:den τ) {c:LV},c∈split τ x→∀ {v:Value},VR η c v→VR η' c v
  | .nil,_,c,hc,_,_=>by simp [split] at hc
  | .int k r, x, c, hc, v, hv => by
    rcases List.mem_cons.1 hc with rfl | hc
    · cases hv;exact .int _ _
    · exact q7r hfz r x.2 hc hv
  | .bool r, x, c, hc, v, hv => by
    rcases List.mem_cons.1 hc with rfl | hc
    · cases hv;exact .bool _
    · exact q7r hfz r x.2 hc hv
  | .sl e r, x, c, hc, v, hv => by
    rcases List.mem_cons.1 hc with rfl | hc
    · cases hv with | fz hf=>exact .fz (hf.mono (RowF.mono hfz e))
    · exact q7r hfz r x.2 hc hv
theorem q7s (τ:Row) {c:LV}:∀ xs:List (den τ),c∈flat τ xs→∃ x,c∈split τ x
  | [],h=>by simp [flat] at h
  | x :: xs, h => by
    rw [flat,List.mem_append] at h
    exact h.elim (fun h=>⟨x,h⟩) (q7s τ xs)
theorem q7t {η':Emb} (hfz:∀ k ob,η.fz k=some ob→η'.fz k=some ob) {τ:Row} {xs:List (den τ)} {L:Loc} (h:At η w (flat τ xs) L):At η' w (flat τ xs) L :=
  ⟨h.lt,h.fits,h.there,fun j c hc=>by
    obtain ⟨v,h1,h2⟩:=h.cell j c hc
    obtain ⟨x,hx⟩:=q7s τ xs (List.mem_of_getElem? hc)
    exact ⟨v,h1,q7r hfz τ x hx h2⟩⟩
def q7u (ρ:List Nat):Ob→Option Ob
  | .cells cs=>match rens ρ cs with | some cs=>some (.cells cs) | none=>none
  | .rows τ xs=>some (.rows τ xs)
  | .rowl e xs r => match ren ρ (qk r) with
    | some (.rs n)=>some (.rowl e xs (some n))
    | some .nils=>some (.rowl e xs none)
    | _=>none
theorem q7v (ρ:List Nat):∀ {cs ds:List LV},rens ρ cs=some ds→ds.length=cs.length
  | [],ds,h=>by rw [rens] at h;injection h with h;subst h;rfl
  | c :: cs, ds, h => by
    rw [rens] at h
    split at h
    · split at h
      · rename_i ds' hds;injection h with h;subst h;simp [q7v ρ hds]
      · cases h
    · cases h
theorem q7w {ρ:List Nat} {n j:Nat} (hj:ρ[j]?=some n) {ob ob':Ob} (h:q7u ρ ob=some ob') (hl:Lv η w n ob):Lv (η.sub ρ) w j ob':=by
  have e1:(η.sub ρ).loc j=η.loc n:=by unfold Emb.sub;simp only [hj,Option.bind_some]
  have e2:(η.sub ρ).hdr j=η.hdr n:=by unfold Emb.sub;simp only [hj,Option.bind_some]
  cases hl with
  | cells hL ha =>
    rw [q7u] at h
    rename_i cs L
    split at h
    · rename_i ds hds
      injection h with h;subst h
      refine .cells (by rw [e1];exact hL) ⟨ha.lt,by rw [q7v ρ hds];exact ha.fits,ha.there,fun i c hc=>?_⟩
      have hcut:cut cs 0 cs.length=some cs:=by unfold cut;rw [Nat.zero_add,Nat.ble_eq_true_of_le (Nat.le_refl _),List.drop_zero,List.take_length];rfl
      obtain ⟨vs,o1,o2⟩:=Lie.cut ha.cell hcut
      obtain ⟨v,f1,f2⟩:=(rens_ok ρ hds o1).get hc
      exact ⟨v,by have:=o2 i v f1;rwa [Nat.add_zero] at this,f2⟩
    · cases h
  | rows hL ha hh hc hr =>
    rw [q7u] at h;injection h with h;subst h
    exact .rows (by rw [e1];exact hL) (q7t (η:=η) (η':=η.sub ρ) (fun _ _ h=>h) ha) (by rw [e2];exact hh) hc hr
  | rowl hL ha hh hc hr =>
    rename_i e xs r L c
    obtain ⟨r',hr',rfl⟩:∃ r',ren ρ (qk r)=some (qk r')∧ob'=.rowl e xs r':=by
      rw [q7u] at h
      split at h
      · rename_i n hn
        injection h with h
        exact ⟨some n,hn,h.symm⟩
      · rename_i hn
        injection h with h
        exact ⟨Option.none,hn,h.symm⟩
      · cases h
    refine .rowl (by rw [e1];exact hL) ⟨ha.lt,?_,ha.there,fun i c hc=>?_⟩ (by rw [e2];exact hh) hc hr
    · have := ha.fits
      rw [Ob.list,List.length_append,List.length_singleton] at this ⊢
      exact this
    · rw [Ob.list] at hc
      rcases Nat.lt_or_ge i (flat (.sl e .nil) (ql xs)).length with k | k
      · rw [List.getElem?_append_left k] at hc
        obtain ⟨v,h1,h2⟩:=ha.cell i c (by rw [Ob.list,List.getElem?_append_left k];exact hc)
        obtain ⟨x,hx⟩:=q7s _ _ (List.mem_of_getElem? hc)
        exact ⟨v,h1,q7r (η:=η) (η':=η.sub ρ) (fun _ _ h=>h) _ x hx h2⟩
      · rw [List.getElem?_append_right k] at hc
        have h0:i - (flat (.sl e .nil) (ql xs)).length=0:=by
          have:=(List.getElem?_eq_some_iff.1 hc).1
          rw [List.length_singleton] at this;omega
        rw [h0] at hc
        injection hc with hc
        subst hc
        obtain ⟨v,h1,h2⟩:=ha.cell i (qk r) (by rw [Ob.list,List.getElem?_append_right k,h0];rfl)
        exact ⟨v,h1,q7q ρ hr' h2⟩
  | none hL hh =>
    rw [q7u] at h;injection h with h;subst h
    exact .none (by rw [e1];exact hL) (by rw [e2];exact hh)
def q7x (H:LH) (ρ:List Nat):List Nat→Option (List Ob)
  | []=>some []
  | n :: l => match H.get n with
    | some ob => match q7u ρ ob with
      | some ob=>match q7x H ρ l with | some obs=>some (ob :: obs) | none=>none
      | none=>none
    | none=>none
theorem q7y {ρ:List Nat}:∀ (l:List Nat) {obs:List Ob},q7x H ρ l=some obs→obs.length=l.length∧∀ (j:Nat) ob',obs[j]?=some ob'→∃ n ob,l[j]?=some n∧H.get n=some ob∧q7u ρ ob=some ob'
  | [],obs,h=>by rw [q7x] at h;injection h with h;subst h;exact ⟨rfl,fun j ob' hj=>by simp at hj⟩
  | n :: l, obs, h => by
    rw [q7x] at h
    split at h
    · rename_i ob hob
      split at h
      · rename_i ob1 h1
        split at h
        · rename_i obs1 h2
          injection h with h;subst h
          obtain ⟨e1,e2⟩:=q7y l h2
          refine ⟨by simp [e1],fun j ob' hj=>?_⟩
          cases j with
          | zero=>simp only [List.getElem?_cons_zero,Option.some.injEq] at hj;subst hj;exact ⟨n,ob,rfl,hob,h1⟩
          | succ j=>simp only [List.getElem?_cons_succ] at hj ⊢;exact e2 j ob' hj
        · cases h
      · cases h
    · cases h
def q7z (ρ:List Nat):List (Nat×LV)→Option (List (Nat×LV))
  | []=>some []
  | p :: l => match ren ρ p.2 with
    | some v=>match q7z ρ l with | some l=>some ((p.1,v) :: l) | none=>none
    | none=>none
theorem q80 {ρ:List Nat}:∀ (l:List (Nat×LV)) {l':List (Nat×LV)},q7z ρ l=some l'→∀ n x',(n,x')∈l'→∃ x,(n,x)∈l∧ren ρ x=some x'
  | [],l',h,n,x',hx=>by rw [q7z] at h;injection h with h;subst h;simp at hx
  | p :: l, l', h, n, x', hx => by
    rw [q7z] at h
    split at h
    · rename_i v hv
      split at h
      · rename_i l1 hl
        injection h with h;subst h
        rcases List.mem_cons.1 hx with hx | hx
        · injection hx with h1 h2;subst h1 h2;exact ⟨p.2,List.mem_cons_self ..,hv⟩
        · obtain ⟨x, h1, h2⟩ := q80 l hl n x' hx
          exact ⟨x,List.mem_cons_of_mem _ h1,h2⟩
      · cases h
    · cases h
def q81:List Nat→Bool
  | []=>true
  | x :: l=>!memB l x&&q81 l
theorem q82:∀ {l:List Nat},q81 l=true→∀ (i j n:Nat),l[i]?=some n→l[j]?=some n→i=j
  | [],_,i,j,n,h,_=>by simp at h
  | x :: l, hn, i, j, n, h1, h2 => by
    rw [q81,Bool.and_eq_true] at hn
    have hx:∀ k,l[k]?=some x→False:=fun k hk=>by
      have:=q5s.2 (List.mem_of_getElem? hk)
      rw [this] at hn;simp at hn
    cases i with
    | zero =>
      cases j with
      | zero=>rfl
      | succ j=>simp only [List.getElem?_cons_zero,Option.some.injEq,List.getElem?_cons_succ] at h1 h2;subst h1;exact (hx _ h2).elim
    | succ i =>
      cases j with
      | zero=>simp only [List.getElem?_cons_zero,Option.some.injEq,List.getElem?_cons_succ] at h1 h2;subst h2;exact (hx _ h1).elim
      | succ j=>simp only [List.getElem?_cons_succ] at h1 h2;rw [q82 hn.2 i j n h1 h2]
theorem q83 {ρ:List Nat} (hn:q81 ρ=true) {obs:List Ob} (ho:q7x H ρ ρ=some obs) (h:HR M η H w):∀ M,HR M (η.sub ρ) (q7c obs) w:=by
  obtain ⟨e1,e2⟩:=q7y ρ ho
  have hlb:∀ k,LB (q7c obs) (η.sub ρ) k→LB H η k:=fun k ⟨j,ob',L,hj,hL,hk⟩=>by
    rw [q7f] at hj
    obtain ⟨n,ob,g1,g2,g3⟩:=e2 j ob' hj
    exact ⟨n,ob,L,g2,by unfold Emb.sub at hL;simpa only [g1,Option.bind_some] using hL,hk⟩
  intro M
  refine ⟨fun j hj _=>?_,fun j ob' hj=>?_,fun j ob' hj=>?_,fun j1 j2 o1 o2 L1 L2 h1 h2 l1 l2 he=>?_,h.fz,fun k hk=>h.sep k (hlb k hk),fun j v hv=>?_⟩
  · have hj' : obs.length ≤ j := hj
    have:ρ[j]?=none:=List.getElem?_eq_none (by omega)
    unfold Emb.sub;simp only [this];exact ⟨rfl,rfl⟩
  · rw [q7f] at hj
    exact (List.getElem?_eq_some_iff.1 hj).1
  · rw [q7f] at hj
    obtain ⟨n,ob,g1,g2,g3⟩:=e2 j ob' hj
    exact q7w g1 g3 (h.live n ob g2)
  · rw [q7f] at h1 h2
    obtain ⟨n1,ob1,g1,g2,_⟩:=e2 j1 o1 h1
    obtain ⟨n2,ob2,k1,k2,_⟩:=e2 j2 o2 h2
    unfold Emb.sub at l1 l2
    simp only [g1,k1,Option.bind_some] at l1 l2
    have:=h.inj _ _ _ _ _ _ g2 k2 l1 l2 he
    subst this
    exact q82 hn j1 j2 n1 g1 k1
  · unfold Emb.sub at hv
    simp only at hv
    cases hn2:ρ[j]? with
    | none=>rw [hn2] at hv;cases hv
    | some n=>rw [hn2] at hv;exact h.ok n v hv
theorem q84 {w0:World} {φ0:Fz0} {ρ:List Nat} {obs:List Ob} (ho:q7x H ρ ρ=some obs) (h:Fr w0 φ0 H η w):Fr w0 φ0 (q7c obs) (η.sub ρ) w:=by
  obtain ⟨e1,e2⟩:=q7y ρ ho
  have hlb:∀ k,LB (q7c obs) (η.sub ρ) k→LB H η k:=fun k ⟨j,ob',L,hj,hL,hk⟩=>by
    rw [q7f] at hj
    obtain ⟨n,ob,g1,g2,g3⟩:=e2 j ob' hj
    exact ⟨n,ob,L,g2,by unfold Emb.sub at hL;simpa only [g1,Option.bind_some] using hL,hk⟩
  exact ⟨h.size,h.same,fun k hk=>h.lb k (hlb k hk),h.fz0,h.fzn,h.os,h.tape,h.output,h.drawn,fun k o hk=>⟨(h.kp k o hk).1,fun hl=>(h.kp k o hk).2.1 (hlb k hl),(h.kp k o hk).2.2⟩⟩
def tnum (ls:List (Nat×LV)) (H:LH) (k:St→Option β):Option β :=
  match q60 H 1000 (ls.flatMap fun p=>q5y p.2) [] with
  | ρ => bif q81 ρ then (match q7z ρ ls, q7x H ρ ρ with
    | some tm,some obs=>k ⟨tm,obs⟩
    | _,_=>none) else none
theorem q85 {ls:List (Nat×LV)} {k:St→Option β} (hx:tnum ls H k=some b):∃ s,k s=some b∧∀ w0 (φ0:Fz0) M η w (a:Act) N,HR M η H w→(∀ n l,(n,l)∈ls→∃ v,a.tmps[n]?=some v∧VR η l v)→Fr w0 φ0 H η w→N≤a.tmps.size→a.defers=φ0.D→SS w0 φ0 N s a w:=by
  unfold tnum at hx
  generalize q60 H 1000 (ls.flatMap fun p=>q5y p.2) []=ρ at hx
  simp only at hx
  rw [Bool.cond_eq_ite] at hx
  split at hx
  · rename_i hn
    split at hx
    · rename_i tm obs h1 h2
      refine ⟨_,hx,fun w0 φ0 M η w a N h ht hf hN hd=>⟨⟨η.sub ρ,q83 hn h2 h,fun n l' hl=>?_,q84 h2 hf⟩,hN,hd⟩⟩
      obtain ⟨l,g1,g2⟩:=q80 ls h1 n l' hl
      obtain ⟨v,e1,e2⟩:=ht n l g1
      exact ⟨v,e1,q7q ρ g2 e2⟩
    · cases hx
  · cases hx
def treg (T:Tys) (C:Orc) (N:Nat) (ops:Array Oper) (draw:Bool) (keep:List (Nat×Kd)) (s:St) (k:St→Option β):Option β :=
  match draw with
  | true=>q6l T C N ops (q7a s.tm .lf) (q7c s.ob) fun t H=>q7m keep t H fun ls H=>tnum ls H k
  | false=>tops T C N ops ops.toList (q7a s.tm .lf) (q7c s.ob) fun t H=>q7m keep t H fun ls H=>tnum ls H k
theorem SS.sr {w0:World} {φ0:Fz0} {s:St} {a:Act} (h:SS w0 φ0 N s a w):∃ η,(∀ M,SR M N φ0.D η (q7a s.tm .lf) (q7c s.ob) a w)∧Fr w0 φ0 (q7c s.ob) η w:=by
  obtain ⟨η,h1,h2,h3⟩:=h.emb
  refine ⟨η,fun M=>⟨h1 M,fun n l hl=>?_,h.size,h.defers⟩,h3⟩
  rcases q7d s.tm .lf n l hl with h4 | h4
  · exact h2 n l h4
  · rw [Tr.get_lf] at h4;cases h4
def RW (P:Program) (ops:Array Oper) (draw:Bool) (Q:Exit→Act→World→Prop) (a:Act) (w:World):Prop :=
  match draw with
  | true=>wpAny P .any ops Q ops.size (Array.replicate ops.size false) a { w with drawn:=w.drawn+1 }
  | false=>wpList P ops Q ops.toList a w
theorem q86 (hm:P.follows .mixedOrders=true) (hT:TysOK P T) (hC:OrcOK P C) {ops:Array Oper} {draw:Bool} {keep:List (Nat×Kd)} {s:St} {k:St→Option β} (hx:treg T C N ops draw keep s k=some b):∃ s',k s'=some b ∧
    ∀ w0 (φ0:Fz0) a w Q,φ0.D=D→SS w0 φ0 N s a w→(∀ a' w',SS w0 φ0 N s' a' w'→Q .normal a' w')→RW P ops draw Q a w:=by
  have fin:∀ {t':Mem} {H':LH},(q7m keep t' H' fun ls H=>tnum ls H k)=some b→∃ s' H2,k s'=some b∧Logged H' H2∧∀ w0 (φ0:Fz0) M η a w,φ0.D=D→H2.next≤M→SR M N D η t' H' a w→Fr w0 φ0 H' η w→SS w0 φ0 N s' a w:=by
    intro t' H' hx
    obtain ⟨ls,H2,h1,h2,h3⟩:=q7n keep hx
    obtain ⟨s',g1,g2⟩:=q85 h1
    refine ⟨s',H2,g1,h2,fun w0 φ0 M η a w hD hM hs hf=>?_⟩
    obtain ⟨η1,e1,e2⟩:=h3 M η w a hs.hr hM hs.tr
    exact g2 w0 φ0 M η1 w a N e1.hr e2 (hf.adv e1) hs.size (hs.defers.trans hD.symm)
  unfold treg at hx
  cases draw with
  | true =>
    simp only at hx
    obtain ⟨t',H',h1,h2,h3⟩:=q79 hm hT hC hx
    obtain ⟨s',H2,g1,g2,g3⟩:=fin h1
    refine ⟨s',g1,fun w0 φ0 a w Q hD hs hQ=>?_⟩
    obtain ⟨η,hsr,hf⟩:=hs.sr
    rw [hD] at hsr
    exact h3 H2.next η a w Q g2.next (hsr _) fun a' w' η' hs' hadv=>hQ a' w' (g3 w0 φ0 H2.next η' a' w' hD (Nat.le_refl _) hs' (hf.adv hadv))
  | false =>
    simp only at hx
    obtain ⟨t',H',h1,h2,h3⟩:=q5r hT hC _ hx
    obtain ⟨s',H2,g1,g2,g3⟩:=fin h1
    refine ⟨s',g1,fun w0 φ0 a w Q hD hs hQ=>?_⟩
    obtain ⟨η,hsr,hf⟩:=hs.sr
    rw [hD] at hsr
    exact h3 H2.next η a w Q g2.next (hsr _) fun a' w' η' hs' hadv=>hQ a' w' (g3 w0 φ0 H2.next η' a' w' hD (Nat.le_refl _) hs' (hf.adv hadv))
theorem q87 (hm:P.follows .mixedOrders=true) (hT:TysOK P T) (hC:OrcOK P C) {ops:Array Oper} {draw:Bool} {keep:List (Nat×Kd)} {s:St} {k:St→Option β} (hx:treg T C N ops draw keep s k=some b):∃ s',k s'=some b ∧
    ∀ w0 (φ0:Fz0) rid a w Q,φ0.D=D→SS w0 φ0 N s a w→(∀ a' w',SS w0 φ0 N s' a' w'→Q .normal a' w')→(Code.region rid ops draw).wp P Q a w:=by
  obtain ⟨s',h1,h2⟩:=q86 (D:=D) hm hT hC hx
  refine ⟨s',h1,fun w0 φ0 rid a w Q hD hs hQ=>?_⟩
  have h3:=h2 w0 φ0 a w Q hD hs hQ
  cases draw with
  | true=>exact wp_region_any hm h3
  | false=>exact wp_region_list h3
end
end Go.Tx

namespace Go.Tx
open Go
inductive Dt (Y:Type):Type 1 where
  | ret (y:Y)
  | ite (c:Bool) (t e:Dt Y)
  | bnd {R:Type} (o:Option R) (f:R→Dt Y)
  | fail
def Dt.eval {Y β:Type}:Dt Y→(Y→Option β)→Option β
  | .ret y,k=>k y
  | .ite c t e,k=>bif c then t.eval k else e.eval k
  | .bnd o f, k => match o with
    | some x=>(f x).eval k
    | none=>none
  | .fail,_=>none
theorem Dt.one {Y β:Type}:∀ (t:Dt Y) {K:Y→Option β} {r:β},t.eval K=some r→∃ y,K y=some r∧∀ {γ:Type} (k:Y→Option γ),t.eval k=k y
  | .ret y,K,r,h=>⟨y,h,fun _=>rfl⟩
  | .ite c t e, K, r, h => by
    cases c with
    | true=>exact Dt.one t h
    | false=>exact Dt.one e h
  | .bnd o f, K, r, h => by
    cases o with
    | some x=>exact Dt.one (f x) h
    | none=>cases h
  | .fail,K,r,h=>by cases h
section
variable {P:Program} {T:Tys} {C:Orc} {M N:Nat} {w0:World} {φ0:Fz0} {Q:Exit→Act→World→Prop}
def Run (P:Program) (w0:World) (φ0:Fz0) (N:Nat) (c:Code) (s:St) (Q:Exit→Act→World→Prop):Prop:=∀ a w,SS w0 φ0 N s a w→c.wp P Q a w
def Cn (w0:World) (φ0:Fz0) (N:Nat) (s:St) (Q:Exit→Act→World→Prop) (e:Exit):Prop:=∀ a w,SS w0 φ0 N s a w→Q e a w
theorem q88 {c:Code} {s:St} (h:Run P w0 φ0 N c s Q):Cn w0 φ0 N s (Exit.then (c.wp P Q) Q) .normal:=h
theorem q89 {s:St} {K:Act→World→Prop} {i:Nat} (h:Cn w0 φ0 N s Q (.exit i)):Cn w0 φ0 N s (Exit.then K Q) (.exit i):=h
theorem q8a {s:St} {K:Act→World→Prop} (h:Cn w0 φ0 N s Q .ret):Cn w0 φ0 N s (Exit.then K Q) .ret:=h
theorem q8b {s:St} {i:Nat} (h:Cn w0 φ0 N s Q .normal):Cn w0 φ0 N s (Exit.inBlock i Q) .normal:=h
theorem q8c {s:St} {i:Nat} (h:Cn w0 φ0 N s Q .ret):Cn w0 φ0 N s (Exit.inBlock i Q) .ret:=h
theorem q8d {s:St} {i:Nat} (h:Cn w0 φ0 N s Q .normal):Cn w0 φ0 N s (Exit.inBlock i Q) (.exit i):=fun a w hs=>by
  show (if i=i then Q .normal a w else Q (.exit i) a w)
  rw [if_pos rfl];exact h a w hs
theorem q8e {s:St} {i j:Nat} (hij:Nat.beq j i=false) (h:Cn w0 φ0 N s Q (.exit j)):Cn w0 φ0 N s (Exit.inBlock i Q) (.exit j):=fun a w hs=>by
  show (if j=i then Q .normal a w else Q (.exit j) a w)
  rw [if_neg (Nat.ne_of_beq_eq_false hij)];exact h a w hs
theorem q8i {s:St} (h:Cn w0 φ0 N s Q .normal):Run P w0 φ0 N .skip s Q:=fun a w hs=>wp_skip (h a w hs)
theorem q8k {s:St} {i:Nat} (h:Cn w0 φ0 N s Q (.exit i)):Run P w0 φ0 N (.exit i) s Q:=fun a w hs=>wp_exit (h a w hs)
theorem q8l {s:St} (h:Cn w0 φ0 N s Q .ret):Run P w0 φ0 N .ret s Q:=fun a w hs=>wp_ret (h a w hs)
theorem q8m {x y:Code} {s:St} (h:Run P w0 φ0 N x s (Exit.then (y.wp P Q) Q)):Run P w0 φ0 N (.seq x y) s Q:=fun a w hs=>wp_seq (h a w hs)
theorem q8n {c:Code} {s:St} {i:Nat} (h:Run P w0 φ0 N c s (Exit.inBlock i Q)):Run P w0 φ0 N (.block i c) s Q:=fun a w hs=>wp_block (h a w hs)
theorem q8p {R X:Type} {r:R} {F:X→Option R} {S:X→St} {x y:Code} {s:St} (hj:∀ z,F z=some r→Run P w0 φ0 N y (S z) Q) (h:(∀ z,F z=some r→Cn w0 φ0 N (S z) (Exit.then (y.wp P Q) Q) .normal)→Run P w0 φ0 N x s (Exit.then (y.wp P Q) Q)):Run P w0 φ0 N (.seq x y) s Q:=q8m (h hj)
def stev (s:St) (c:Operand):LV:=xev (q7a s.tm .lf) c
theorem q8q {R:Type} {r:R} {v:Bool} {A B:Option R} {c:Operand} {x y:Code} {s:St} (hc:stev s c=.bool v) (h:(bif v then A else B)=some r) (ht:A=some r→Run P w0 φ0 N x s Q) (hf:B=some r→Run P w0 φ0 N y s Q):Run P w0 φ0 N (.cond c x y) s Q:=fun a w hs=>by
  obtain ⟨η,h1,_⟩:=hs.sr
  have hv:=q5a (h1 0).tr c
  rw [show xev (q7a s.tm .lf) c=.bool v from hc] at hv
  have hcv:a.eval c=.bool v:=by
    generalize a.eval c=u at hv
    cases hv;rfl
  refine wp_cond hcv ?_
  cases v with
  | true=>exact ht h a w hs
  | false=>exact hf h a w hs
theorem q8r (hm:P.follows .mixedOrders=true) (hT:TysOK P T) (hC:OrcOK P C) {R Y:Type} {r:R} {rid:Nat} {ops:Array Oper} {draw:Bool} {keep:List (Nat×Kd)} {s:St} {t:Dt Y} {S:Y→St} {K:Y→Option R}
    (hreg:treg T C N ops draw keep s some=t.eval fun y=>some (S y)) (h:t.eval K=some r) (hk:∀ y,K y=some r→Cn w0 φ0 N (S y) Q .normal):Run P w0 φ0 N (.region rid ops draw) s Q:=by
  obtain ⟨y,h1,h2⟩:=t.one h
  rw [h2] at hreg
  obtain ⟨s',h3,h4⟩:=q87 (D:=φ0.D) hm hT hC hreg
  injection h3 with h3;subst h3
  exact fun a w hs=>h4 w0 φ0 rid a w Q rfl hs (hk y h1)
abbrev i6 (x:Int):LV:=.int .i64 x
abbrev u6 (x:Int):LV:=.int .u64 x
def an (l:List Nat):List (Nat×Kd):=l.map fun n=>(n,.any)
abbrev rg {A V Y:Type} (T:Tys) (O:A→Orc) (N:Nat) (ops:Array Oper) (draw:Bool) (keep:List (Nat×Kd)) (S:V→St) (r:A→V→Dt Y) (S':Y→St) (c:A) (v:V):Prop:=treg T (O c) N ops draw keep (S v) some=(r c v).eval fun y=>some (S' y)
theorem rgI {A V Y:Type} {T:Tys} {O:A→Orc} {N:Nat} {ops:Array Oper} {draw:Bool} {keep:List (Nat×Kd)} {S:V→St} {r:A→V→Dt Y} {S':Y→St} {c:A} {v:V} (h:treg T (O c) N ops draw keep (S v) some=(r c v).eval fun y=>some (S' y)):rg T O N ops draw keep S r S' c v:=h
theorem q3pf (hm:P.follows .mixedOrders=true) (hT:TysOK P T) (hC:OrcOK P C) {R Y:Type} {r:R} {rid:Nat} {ops:Array Oper} {draw:Bool} {keep:List (Nat×Kd)} {s:St} {t:Dt Y} {S:Y→St} {K:Y→Option R} {c:Code} (hreg:treg T C N ops draw keep s some=t.eval fun y=>some (S y)) (h:t.eval K=some r) (hk:∀ y,K y=some r→Run P w0 φ0 N c (S y) Q):Run P w0 φ0 N (.seq (.region rid ops draw) c) s Q:=q8m (q8r hm hT hC hreg h fun y hy=>q88 (hk y hy))
theorem q8s {R X:Type} {r:R} {G:Nat→X→Option R} {S:X→St} {c:Code} (h0:∀ x,G 0 x=none)
    (hs:∀ n x,G (n+1) x=some r→∀ K:Act→World→Prop,(∀ y,G n y=some r→Cn w0 φ0 N (S y) (Exit.then K Q) .normal)→Run P w0 φ0 N c (S x) (Exit.then K Q)) (n:Nat) (x:X) (h:G n x=some r):Run P w0 φ0 N (.loop c) (S x) Q:=by
  have key:∀ n x,G n x=some r→∀ a w,SS w0 φ0 N (S x) a w→Code.rounds P c Q n a w:=by
    intro n
    induction n with
    | zero=>intro x hx;rw [h0] at hx;cases hx
    | succ n ih =>
      intro x hx a w hss
      rw [rounds_succ]
      exact hs n x hx _ (fun y hy=>ih y hy) a w hss
  exact fun a w hss=>wp_loop_rounds n (key n x h a w hss)
theorem q8t {R X:Type} {r:R} {G:Nat→X→Option R} {S:X→St} {c:Code} {s:St} (n:Nat) (h0:∀ x,G 0 x=none)
    (hs:∀ n x,G (n+1) x=some r→∀ K:Act→World→Prop,(∀ y,G n y=some r→Cn w0 φ0 N (S y) (Exit.then K Q) .normal)→Run P w0 φ0 N c (S x) (Exit.then K Q))
    (hf:∀ K:Act→World→Prop,(∀ y,G n y=some r→Cn w0 φ0 N (S y) (Exit.then K Q) .normal)→Run P w0 φ0 N c s (Exit.then K Q)):Run P w0 φ0 N (.loop c) s Q:=by
  have key:∀ n x,G n x=some r→∀ a w,SS w0 φ0 N (S x) a w→Code.rounds P c Q n a w:=by
    intro n
    induction n with
    | zero=>intro x hx;rw [h0] at hx;cases hx
    | succ n ih =>
      intro x hx a w hss
      rw [rounds_succ]
      exact hs n x hx _ (fun y hy=>ih y hy) a w hss
  exact fun a w hss=>wp_loop_rounds (n+1) (by rw [rounds_succ];exact hf _ (fun y hy=>key n y hy) a w hss)
def tres (T:Tys) (s:St):List ResultVar→Option (List LV)
  | []=>some []
  | .tmp d :: rs=>match tres T s rs with | some ls=>some (stev s (.tmp d) :: ls) | none=>none
  | .cell d ty :: rs => match q2x T ty (stev s (.tmp d)) (q7c s.ob) (fun l _ => some l) with
    | some l=>match tres T s rs with | some ls=>some (l :: ls) | none=>none
    | none=>none
def xone:List LV→LV
  | [l]=>l
  | ls=>.tup ls
def tfin (T:Tys) (rs:List ResultVar) (s:St):Option (LV×List Ob) :=
  match tres T s rs with
  | some ls => match q60 (q7c s.ob) 1000 (ls.flatMap q5y) [] with
    | ρ => bif q81 ρ then (match rens ρ ls, q7x (q7c s.ob) ρ ρ with
      | some ls,some obs=>some (xone ls,obs)
      | _,_=>none) else none
  | none=>none
def q8u (tmps:Array Value):ResultVar→Sem Value
  | .tmp t=>pure (tmps.getD t undef)
  | .cell a t=>do loadVar t (← asAddr (tmps.getD a undef))
theorem q8v (hT:TysOK P T) {D:List Deferred} {s:St} {η:Emb} {a:Act} {w:World} (hs:SR M N D η (q7a s.tm .lf) (q7c s.ob) a w):∀ (rs:List ResultVar) {ls:List LV},tres T s rs=some ls→∃ vs,(rs.mapM (q8u a.tmps)).run P w=.ok vs w∧VRs η ls vs
  | [],ls,hx=>by rw [tres] at hx;injection hx with hx;subst hx;exact ⟨[],by simp,VRs.nil⟩
  | .tmp d :: rs, ls, hx => by
    rw [tres] at hx
    split at hx
    · rename_i ls' hls
      injection hx with hx;subst hx
      obtain ⟨vs,h1,h2⟩:=q8v hT hs rs hls
      exact ⟨a.tmps.getD d undef :: vs,by simp [List.mapM_cons,q8u,h1],VRs.cons (q5a hs.tr (.tmp d)) h2⟩
    · cases hx
  | .cell d ty :: rs, ls, hx => by
    rw [tres] at hx
    split at hx
    · rename_i l hl
      split at hx
      · rename_i ls' hls
        injection hx with hx;subst hx
        obtain ⟨vs,h1,h2⟩:=q8v hT hs rs hls
        obtain ⟨u,g1,g2⟩:=q2y hT hl
        injection g1 with g1;subst g1
        obtain ⟨ad,v',e1,e2,e3⟩:=g2 M η w _ hs.hr (q5a hs.tr (.tmp d))
        refine ⟨v' :: vs,?_,VRs.cons e3 h2⟩
        have e1':a.tmps.getD d undef=.pointer (some ad):=e1
        simp only [List.mapM_cons,q8u,e1',asAddr]
        simp [e2,h1]
      · cases hx
    · cases hx
def q8w (τ:Row) (agg:Bool) (x:den τ):LV :=
  match agg with
  | true=>.agg (split τ x)
  | false => match split τ x with
    | [l]=>l
    | _=>.undef
inductive Pk where
  | row (τ:Row) (agg:Bool)
  | fn (f:FuncId) (τs:List Row)
  | ref (τ:Row)
def denR:List Row→Type
  | []=>Unit
  | τ :: r=>den τ×denR r
def Pk.den:Pk→Type
  | .row τ _=>Tx.den τ
  | .fn _ τs=>denR τs
  | .ref τ=>Tx.den τ
def q8x:(τs:List Row)→denR τs→List LV
  | [],_=>[]
  | τ :: r,x=>.fp τ x.1 0 :: q8x r x.2
def Pk.arg:(p:Pk)→p.den→LV
  | .row τ agg,x=>q8w τ agg x
  | .fn f τs,x=>.fn f (q8x τs x)
  | .ref τ,x=>.fp τ x 0
def dens:List Pk→Type
  | []=>Unit
  | p :: r=>p.den×dens r
def q8y:(τs:List Pk)→dens τs→List LV
  | [],_=>[]
  | p :: r,x=>p.arg x.1 :: q8y r x.2
def nums:Nat→List LV→List (Nat×LV)
  | _,[]=>[]
  | i,l :: ls=>(i,l) :: nums (i+1) ls
structure Spec where
  g:FuncId
  τs:List Pk
  R:Type
  F:dens τs→Option R
  enc:R→LV×List Ob
def Emb.fro (φ:Nat→Option Obj):Emb:=⟨fun _=>none,fun _=>none,φ⟩
structure COK (P:Program) (S:Spec):Prop where
  ok:∀ x r,S.F x=some r→∀ (w:World) (φ:Nat→Option Obj) (vs:List Value),(∀ k ob,φ k=some ob→w.heap[k]?=some ob)→VRs (Emb.fro φ) (q8y S.τs x) vs →
    Calls P S.g vs.toArray w fun e w'=>∃ v' η',e=.returned v'∧VR η' (S.enc r).1 v'∧(∀ M,HR M η' (q7c (S.enc r).2) w')∧Fr w (noK φ) (q7c (S.enc r).2) η' w'
  body : ∃ fn c, P.funcs[S.g]? = some fn ∧ fn.body = some c ∧ ¬ fn.name = "runtime.NumGoroutine"
theorem q8z:∀ (ls:List LV) (i n:Nat) (l:LV),(n,l)∈nums i ls→i≤n∧ls[n - i]?=some l
  | [],i,n,l,h=>by simp [nums] at h
  | x :: ls, i, n, l, h => by
    rcases List.mem_cons.1 h with h | h
    · injection h with h1 h2;subst h1 h2;exact ⟨Nat.le_refl _,by simp⟩
    · obtain ⟨h1, h2⟩ := q8z ls (i + 1) n l h
      exact ⟨by omega,by rw [show n - i=(n - (i+1))+1 by omega,List.getElem?_cons_succ];exact h2⟩
theorem q90 {w:World} {φ:Nat→Option Obj} (hφ:∀ k ob,φ k=some ob→w.heap[k]?=some ob) (M:Nat):HR M (Emb.fro φ) (q7c []) w :=
  ⟨fun _ _ _=>⟨rfl,rfl⟩,(fun b cs h=>by rw [q7f] at h;simp at h),(fun b cs h=>by rw [q7f] at h;simp at h),(fun b1 b2 c1 c2 L1 L2 h=>by rw [q7f] at h;simp at h),hφ,(fun k ⟨b,ob,L,h,_⟩=>by rw [q7f] at h;simp at h),fun b v h=>by cases h⟩
theorem q91 (w:World) (φ:Nat→Option Obj):Fr w (noK φ) (q7c []) (Emb.fro φ) w :=
  ⟨Nat.le_refl _,fun _ _=>rfl,(fun k ⟨b,ob,L,h,_⟩=>by rw [q7f] at h;simp at h),fun _ _ h=>h,fun _ _ h=>.inl h,rfl,rfl,rfl,Nat.le_refl _,fun _ _ h=>h.elim⟩
def End (T:Tys) (w0:World) (φ0:Fz0) (N:Nat) (rs:List ResultVar) (out:LV×List Ob) (Q:Exit→Act→World→Prop):Prop :=
  ∀ s,tfin T rs s=some out→Cn w0 φ0 N s Q .normal∧Cn w0 φ0 N s Q .ret
theorem q92 (hT:TysOK P T) {S:Spec} {r:S.R} {fn:Func} {s:St} {w:World} {ψ:Fz0} (hs:tfin T fn.results.toList s=some (S.enc r)):∀ a w',SS w ψ fn.ntmps s a w'→a.defers=ψ.D∧∃ v,(results fn a.tmps).run P w'=.ok v w'∧∃ v' η',(Ending.returned v)=.returned v'∧VR η' (S.enc r).1 v'∧(∀ M,HR M η' (q7c (S.enc r).2) w')∧Fr w ψ (q7c (S.enc r).2) η' w':=by
  intro a w' hss
  obtain ⟨η,hsr,hfr⟩:=hss.sr
  refine ⟨hss.defers,?_⟩
  unfold tfin at hs
  split at hs
  · rename_i ls hls
    generalize q60 (q7c s.ob) 1000 (ls.flatMap q5y) []=ρ at hs
    simp only at hs
    rw [Bool.cond_eq_ite] at hs
    split at hs
    · rename_i hn
      split at hs
      · rename_i ls' obs h1 h2
        injection hs with hs
        obtain ⟨us,r1,r2⟩:=q8v hT (hsr 0) fn.results.toList hls
        have hlen2:=r2.1
        have hrun:(results fn a.tmps).run P w'=.ok (if h:us.length=1 then us[0] else .tuple us.toArray) w':=by
          have e5:results fn a.tmps=(do let vs ← fn.results.mapM (q8u a.tmps);pure (if h:vs.size=1 then vs[0] else .tuple vs)):=by
            unfold results
            refine congrArg (fun f:ResultVar→Sem Value=>(do let vs ← fn.results.mapM f;pure (if h:vs.size=1 then vs[0] else .tuple vs):Sem Value)) ?_
            funext x;cases x<;>rfl
          rw [e5,Array.mapM_eq_mapM_toList]
          simp [r1]
        have r3:=rens_ok ρ h1 r2
        have hlen3:=r3.1
        have hval:VR (η.sub ρ) (xone ls') (if h:us.length=1 then us[0] else .tuple us.toArray):=by
          cases ls' with
          | nil =>
            have:us=[]:=by simpa using hlen3.symm
            subst this;exact .tup r3.1 r3.2
          | cons l ls' =>
            cases ls' with
            | nil =>
              obtain ⟨u,rfl,hu⟩:=vrs1 r3
              exact hu
            | cons l2 ls' =>
              have:¬ us.length=1:=by simp at hlen3;omega
              rw [dif_neg this];exact .tup r3.1 r3.2
        have o1:xone ls'=(S.enc r).1:=congrArg Prod.fst hs
        have o2:obs=(S.enc r).2:=congrArg Prod.snd hs
        rw [o1] at hval
        rw [o2] at h2
        exact ⟨_,hrun,_,_,rfl,hval,q83 hn h2 (hsr 0).hr,q84 h2 hfr⟩
      · cases hs
    · cases hs
  · cases hs
theorem q93 (hT : TysOK P T) {S : Spec} {fn : Func} {c : Code} (hfn : P.funcs[S.g]? = some fn) (hc : fn.body = some c) (hname : ¬ fn.name = "runtime.NumGoroutine")
    (h:∀ x r,S.F x=some r→∀ w0 φ0 Q,End T w0 φ0 fn.ntmps fn.results.toList (S.enc r) Q→Run P w0 φ0 fn.ntmps c ⟨nums 0 (q8y S.τs x),[]⟩ Q):COK P S:=by
  refine ⟨fun x r hx w φ vs hφ hv=>?_,fn,c,hfn,hc,hname⟩
  refine calls_of_wp hfn hc ?_
  refine h x r hx w (noK φ) _ (fun s hs=>?_) _ w ⟨⟨Emb.fro φ,q90 hφ,fun n l hl=>?_,q91 w φ⟩,?_,rfl⟩
  · have fin : ∀ a w', SS w (noK φ) fn.ntmps s a w' → _ := q92 (S := S) (r := r) hT hs
    exact ⟨fun a w' hss=>fin a w' hss,fun a w' hss=>fin a w' hss⟩
  · obtain ⟨_, h2⟩ := q8z _ 0 n l hl
    rw [Nat.sub_zero] at h2
    obtain ⟨v,e1,e2⟩:=hv.get h2
    refine ⟨v,?_,e2⟩
    have hlt:=(List.getElem?_eq_some_iff.1 e1).1
    rw [Array.getElem?_append_left (by simpa using hlt)]
    simpa using e1
  · simp;omega
end
end Go.Tx

namespace Go
open RowKit
structure Bel (w w':World):Prop where
  toBelow:Below w.heap.size w w'
  mono:w.drawn≤w'.drawn
theorem Bel.os {w w':World} (h:Bel w w'):w'.os=w.os:=h.toBelow.os
theorem Bel.tape {w w':World} (h:Bel w w'):w'.tape=w.tape:=h.toBelow.tape
theorem Bel.output {w w':World} (h:Bel w w'):w'.output=w.output:=h.toBelow.output
theorem Bel.size {w w':World} (h:Bel w w'):w.heap.size≤w'.heap.size:=h.toBelow.size
theorem Bel.block {w w':World} (h:Bel w w') (k:Nat) (hk:k<w.heap.size):w'.heap[k]?=w.heap[k]?:=h.toBelow.block k hk
structure Beyond where
  objs:Array Obj
  drawn:Nat
instance:Inhabited Beyond:=⟨⟨#[],0⟩⟩
def Beyond.and (x y:Beyond):Beyond:=⟨x.objs++y.objs,x.drawn+y.drawn⟩
def Beyond.drewN (x:Beyond) (n:Nat):Beyond:=⟨x.objs,x.drawn+n⟩
def ext (w:World) (x:Beyond):World:={ w with heap:=w.heap++x.objs,drawn:=w.drawn+x.drawn }
def Beyond.len (x:Beyond):Nat:=x.objs.size

theorem Bel.refl (w:World):Bel w w:=⟨Below.refl _ _,Nat.le_refl _⟩
theorem Bel.trans {a b c:World} (h:Bel a b) (k:Bel b c):Bel a c:=⟨Below.trans h.toBelow (Below.mono k.toBelow h.size),Nat.le_trans h.mono k.mono⟩
@[simp,go_sem] theorem q94 (w:World) (x:Beyond):(ext w x).heap.size=w.heap.size+x.len:=by simp [ext,Beyond.len]
theorem q95 (x y:Beyond):(x.and y).len=x.len+y.len:=by simp [Beyond.and,Beyond.len]
@[simp,go_sem] theorem q96 (m:Nat) (x y:Beyond):m+(x.and y).len=m+x.len+y.len:=by rw [q95,Nat.add_assoc]
@[simp,go_sem] theorem q97 (x:Beyond) (n:Nat):(x.drewN n).len=x.len:=rfl
theorem q98 (w:World) (x:Beyond):Bel w (ext w x) :=
  ⟨⟨rfl,rfl,rfl,by simp,fun k hk=>by simp only [ext];rw [Array.getElem?_append_left hk]⟩,by simp [ext]⟩
theorem ext_of {w w':World} (h:Bel w w'):∃ x,w'=ext w x:=by
  refine ⟨⟨(w'.heap.toList.drop w.heap.size).toArray,w'.drawn - w.drawn⟩,?_⟩
  have hdr:w.drawn+(w'.drawn - w.drawn)=w'.drawn:=by have:=h.mono;omega
  have hh:w'.heap=w.heap++(w'.heap.toList.drop w.heap.size).toArray:=by
    apply Array.ext_getElem?
    intro k
    rcases Nat.lt_or_ge k w.heap.size with hk | hk
    · rw [Array.getElem?_append_left hk,h.block k hk]
    · rw [Array.getElem?_append_right hk]
      simp only [List.getElem?_toArray,List.getElem?_drop]
      rw [show w.heap.size+(k - w.heap.size)=k from by omega];simp
  cases w' with | mk hp tp dr o ou =>
  cases w with | mk hp2 tp2 dr2 o2 ou2 =>
  have h1:=h.os;have h2:=h.tape;have h3:=h.output
  simp only at h1 h2 h3 hh hdr
  subst h1 h2 h3
  simp only [ext]
  rw [← hh,hdr]
theorem q99 {w w':World} (h:∃ x,w'=ext w x):Bel w w':=by obtain ⟨x,rfl⟩:=h;exact q98 w x
theorem Bel.alloc {a w:World} (h:Bel a w) (o:Obj):Bel a (w.alloc o):=⟨Below.alloc h.toBelow h.size o,h.mono⟩
theorem Bel.drew {a w:World} (h:Bel a w):Bel a w.drew:=⟨Below.drew h.toBelow,Nat.le_trans h.mono (Nat.le_succ _)⟩
theorem Bel.drewN {a w:World} (h:Bel a w) (n:Nat):Bel a (w.drewN n):=⟨⟨h.os,h.tape,h.output,h.size,h.block⟩,Nat.le_trans h.mono (Nat.le_add_right _ _)⟩
theorem Bel.ext {a w:World} (h:Bel a w) (x:Beyond):Bel a (ext w x):=h.trans (q98 w x)
theorem Bel.setCell {a w:World} (h:Bel a w) {p:Addr} (hp:a.heap.size≤p.block) (u:Value):Bel a (w.setCell p u):=⟨Below.setCell h.toBelow hp u,h.mono⟩
theorem Bel.grown {a w w':World} {row:Option Nat} (h:Bel a w) (hg:w.grownBy w' row) (hr:∀ k,row=some k→a.heap.size≤k) (hm:w.drawn≤w'.drawn):Bel a w':=⟨Below.grown h.toBelow hg h.size hr,Nat.le_trans h.mono hm⟩
theorem Bel.le {a w:World} (h:Bel a w):a.heap.size≤w.heap.size:=h.size

@[go_sem] theorem q9a (n m k1:Nat) (h:n<m):n<m+k1:=by omega
@[go_sem] theorem q9b (n m k1:Nat) (h:n≤m):n≤m+k1:=by omega
@[go_sem] theorem q9c (n m k1:Nat) (h:n<m):n≤m+k1:=by omega
@[go_sem] theorem q9d (n m k1:Nat) (h:n<m):(n=m+k1)=False:=eq_false (by omega)
@[go_sem] theorem q9e (n m k1:Nat) (h:n<m):(m+k1=n)=False:=eq_false (by omega)
@[go_sem] theorem q9f (n m k1 k2:Nat) (h:n<m):n<m+k1+k2:=by omega
@[go_sem] theorem q9g (n m k1 k2:Nat) (h:n≤m):n≤m+k1+k2:=by omega
@[go_sem] theorem q9h (n m k1 k2:Nat) (h:n<m):n≤m+k1+k2:=by omega
@[go_sem] theorem q9i (n m k1 k2:Nat) (h:n<m):(n=m+k1+k2)=False:=eq_false (by omega)
@[go_sem] theorem q9j (n m k1 k2:Nat) (h:n<m):(m+k1+k2=n)=False:=eq_false (by omega)
@[go_sem] theorem q9k (n m k1 k2 k3:Nat) (h:n<m):n<m+k1+k2+k3:=by omega
@[go_sem] theorem q9l (n m k1 k2 k3:Nat) (h:n≤m):n≤m+k1+k2+k3:=by omega
@[go_sem] theorem q9m (n m k1 k2 k3:Nat) (h:n<m):n≤m+k1+k2+k3:=by omega
@[go_sem] theorem q9n (n m k1 k2 k3:Nat) (h:n<m):(n=m+k1+k2+k3)=False:=eq_false (by omega)
@[go_sem] theorem q9o (n m k1 k2 k3:Nat) (h:n<m):(m+k1+k2+k3=n)=False:=eq_false (by omega)
@[go_sem] theorem q9p (n m k1 k2 k3 k4:Nat) (h:n<m):n<m+k1+k2+k3+k4:=by omega
@[go_sem] theorem q9q (n m k1 k2 k3 k4:Nat) (h:n≤m):n≤m+k1+k2+k3+k4:=by omega
@[go_sem] theorem q9r (n m k1 k2 k3 k4:Nat) (h:n<m):n≤m+k1+k2+k3+k4:=by omega
@[go_sem] theorem q9s (n m k1 k2 k3 k4:Nat) (h:n<m):(n=m+k1+k2+k3+k4)=False:=eq_false (by omega)
@[go_sem] theorem q9t (n m k1 k2 k3 k4:Nat) (h:n<m):(m+k1+k2+k3+k4=n)=False:=eq_false (by omega)
@[go_sem] theorem q9u (n m k1 k2 k3 k4 k5:Nat) (h:n<m):n<m+k1+k2+k3+k4+k5:=by omega
@[go_sem] theorem q9v (n m k1 k2 k3 k4 k5:Nat) (h:n≤m):n≤m+k1+k2+k3+k4+k5:=by omega
@[go_sem] theorem q9w (n m k1 k2 k3 k4 k5:Nat) (h:n<m):n≤m+k1+k2+k3+k4+k5:=by omega
@[go_sem] theorem q9x (n m k1 k2 k3 k4 k5:Nat) (h:n<m):(n=m+k1+k2+k3+k4+k5)=False:=eq_false (by omega)
@[go_sem] theorem q9y (n m k1 k2 k3 k4 k5:Nat) (h:n<m):(m+k1+k2+k3+k4+k5=n)=False:=eq_false (by omega)
@[go_sem] theorem q9z (n m k1 k2 k3 k4 k5 k6:Nat) (h:n<m):n<m+k1+k2+k3+k4+k5+k6:=by omega
@[go_sem] theorem qa0 (n m k1 k2 k3 k4 k5 k6:Nat) (h:n≤m):n≤m+k1+k2+k3+k4+k5+k6:=by omega
@[go_sem] theorem qa1 (n m k1 k2 k3 k4 k5 k6:Nat) (h:n<m):n≤m+k1+k2+k3+k4+k5+k6:=by omega
@[go_sem] theorem qa2 (n m k1 k2 k3 k4 k5 k6:Nat) (h:n<m):(n=m+k1+k2+k3+k4+k5+k6)=False:=eq_false (by omega)
@[go_sem] theorem qa3 (n m k1 k2 k3 k4 k5 k6:Nat) (h:n<m):(m+k1+k2+k3+k4+k5+k6=n)=False:=eq_false (by omega)
@[go_sem] theorem qa4 (n m k1 k2 k3 k4 k5 k6 k7:Nat) (h:n<m):n<m+k1+k2+k3+k4+k5+k6+k7:=by omega
@[go_sem] theorem qa5 (n m k1 k2 k3 k4 k5 k6 k7:Nat) (h:n≤m):n≤m+k1+k2+k3+k4+k5+k6+k7:=by omega
@[go_sem] theorem qa6 (n m k1 k2 k3 k4 k5 k6 k7:Nat) (h:n<m):n≤m+k1+k2+k3+k4+k5+k6+k7:=by omega
@[go_sem] theorem qa7 (n m k1 k2 k3 k4 k5 k6 k7:Nat) (h:n<m):(n=m+k1+k2+k3+k4+k5+k6+k7)=False:=eq_false (by omega)
@[go_sem] theorem qa8 (n m k1 k2 k3 k4 k5 k6 k7:Nat) (h:n<m):(m+k1+k2+k3+k4+k5+k6+k7=n)=False:=eq_false (by omega)
@[go_sem] theorem qa9 (n m k1 k2 k3 k4 k5 k6 k7 k8:Nat) (h:n<m):n<m+k1+k2+k3+k4+k5+k6+k7+k8:=by omega
@[go_sem] theorem qaa (n m k1 k2 k3 k4 k5 k6 k7 k8:Nat) (h:n≤m):n≤m+k1+k2+k3+k4+k5+k6+k7+k8:=by omega
@[go_sem] theorem qab (n m k1 k2 k3 k4 k5 k6 k7 k8:Nat) (h:n<m):n≤m+k1+k2+k3+k4+k5+k6+k7+k8:=by omega
@[go_sem] theorem qac (n m k1 k2 k3 k4 k5 k6 k7 k8:Nat) (h:n<m):(n=m+k1+k2+k3+k4+k5+k6+k7+k8)=False:=eq_false (by omega)
@[go_sem] theorem qad (n m k1 k2 k3 k4 k5 k6 k7 k8:Nat) (h:n<m):(m+k1+k2+k3+k4+k5+k6+k7+k8=n)=False:=eq_false (by omega)
@[go_sem] theorem qae (n m k1 k2 k3 k4 k5 k6 k7 k8 k9:Nat) (h:n<m):n<m+k1+k2+k3+k4+k5+k6+k7+k8+k9:=by omega
@[go_sem] theorem qaf (n m k1 k2 k3 k4 k5 k6 k7 k8 k9:Nat) (h:n≤m):n≤m+k1+k2+k3+k4+k5+k6+k7+k8+k9:=by omega
@[go_sem] theorem qag (n m k1 k2 k3 k4 k5 k6 k7 k8 k9:Nat) (h:n<m):n≤m+k1+k2+k3+k4+k5+k6+k7+k8+k9:=by omega
@[go_sem] theorem qah (n m k1 k2 k3 k4 k5 k6 k7 k8 k9:Nat) (h:n<m):(n=m+k1+k2+k3+k4+k5+k6+k7+k8+k9)=False:=eq_false (by omega)
@[go_sem] theorem qai (n m k1 k2 k3 k4 k5 k6 k7 k8 k9:Nat) (h:n<m):(m+k1+k2+k3+k4+k5+k6+k7+k8+k9=n)=False:=eq_false (by omega)
@[go_sem] theorem qaj (n m k1 k2 k3 k4 k5 k6 k7 k8 k9 k10:Nat) (h:n<m):n<m+k1+k2+k3+k4+k5+k6+k7+k8+k9+k10:=by omega
@[go_sem] theorem qak (n m k1 k2 k3 k4 k5 k6 k7 k8 k9 k10:Nat) (h:n≤m):n≤m+k1+k2+k3+k4+k5+k6+k7+k8+k9+k10:=by omega
@[go_sem] theorem qal (n m k1 k2 k3 k4 k5 k6 k7 k8 k9 k10:Nat) (h:n<m):n≤m+k1+k2+k3+k4+k5+k6+k7+k8+k9+k10:=by omega
@[go_sem] theorem qam (n m k1 k2 k3 k4 k5 k6 k7 k8 k9 k10:Nat) (h:n<m):(n=m+k1+k2+k3+k4+k5+k6+k7+k8+k9+k10)=False:=eq_false (by omega)
@[go_sem] theorem qan (n m k1 k2 k3 k4 k5 k6 k7 k8 k9 k10:Nat) (h:n<m):(m+k1+k2+k3+k4+k5+k6+k7+k8+k9+k10=n)=False:=eq_false (by omega)
@[go_sem] theorem qao (n m k1 k2 k3 k4 k5 k6 k7 k8 k9 k10 k11:Nat) (h:n<m):n<m+k1+k2+k3+k4+k5+k6+k7+k8+k9+k10+k11:=by omega
@[go_sem] theorem qap (n m k1 k2 k3 k4 k5 k6 k7 k8 k9 k10 k11:Nat) (h:n≤m):n≤m+k1+k2+k3+k4+k5+k6+k7+k8+k9+k10+k11:=by omega
@[go_sem] theorem qaq (n m k1 k2 k3 k4 k5 k6 k7 k8 k9 k10 k11:Nat) (h:n<m):n≤m+k1+k2+k3+k4+k5+k6+k7+k8+k9+k10+k11:=by omega
@[go_sem] theorem qar (n m k1 k2 k3 k4 k5 k6 k7 k8 k9 k10 k11:Nat) (h:n<m):(n=m+k1+k2+k3+k4+k5+k6+k7+k8+k9+k10+k11)=False:=eq_false (by omega)
@[go_sem] theorem qas (n m k1 k2 k3 k4 k5 k6 k7 k8 k9 k10 k11:Nat) (h:n<m):(m+k1+k2+k3+k4+k5+k6+k7+k8+k9+k10+k11=n)=False:=eq_false (by omega)
@[go_sem] theorem qat (n m k1 k2 k3 k4 k5 k6 k7 k8 k9 k10 k11 k12:Nat) (h:n<m):n<m+k1+k2+k3+k4+k5+k6+k7+k8+k9+k10+k11+k12:=by omega
@[go_sem] theorem qau (n m k1 k2 k3 k4 k5 k6 k7 k8 k9 k10 k11 k12:Nat) (h:n≤m):n≤m+k1+k2+k3+k4+k5+k6+k7+k8+k9+k10+k11+k12:=by omega
@[go_sem] theorem qav (n m k1 k2 k3 k4 k5 k6 k7 k8 k9 k10 k11 k12:Nat) (h:n<m):n≤m+k1+k2+k3+k4+k5+k6+k7+k8+k9+k10+k11+k12:=by omega
@[go_sem] theorem qaw (n m k1 k2 k3 k4 k5 k6 k7 k8 k9 k10 k11 k12:Nat) (h:n<m):(n=m+k1+k2+k3+k4+k5+k6+k7+k8+k9+k10+k11+k12)=False:=eq_false (by omega)
@[go_sem] theorem qax (n m k1 k2 k3 k4 k5 k6 k7 k8 k9 k10 k11 k12:Nat) (h:n<m):(m+k1+k2+k3+k4+k5+k6+k7+k8+k9+k10+k11+k12=n)=False:=eq_false (by omega)
@[go_sem] theorem qay (n m k1 k2 k3 k4 k5 k6 k7 k8 k9 k10 k11 k12 k13:Nat) (h:n<m):n<m+k1+k2+k3+k4+k5+k6+k7+k8+k9+k10+k11+k12+k13:=by omega
@[go_sem] theorem qaz (n m k1 k2 k3 k4 k5 k6 k7 k8 k9 k10 k11 k12 k13:Nat) (h:n≤m):n≤m+k1+k2+k3+k4+k5+k6+k7+k8+k9+k10+k11+k12+k13:=by omega
@[go_sem] theorem qb0 (n m k1 k2 k3 k4 k5 k6 k7 k8 k9 k10 k11 k12 k13:Nat) (h:n<m):n≤m+k1+k2+k3+k4+k5+k6+k7+k8+k9+k10+k11+k12+k13:=by omega
@[go_sem] theorem qb1 (n m k1 k2 k3 k4 k5 k6 k7 k8 k9 k10 k11 k12 k13:Nat) (h:n<m):(n=m+k1+k2+k3+k4+k5+k6+k7+k8+k9+k10+k11+k12+k13)=False:=eq_false (by omega)
@[go_sem] theorem qb2 (n m k1 k2 k3 k4 k5 k6 k7 k8 k9 k10 k11 k12 k13:Nat) (h:n<m):(m+k1+k2+k3+k4+k5+k6+k7+k8+k9+k10+k11+k12+k13=n)=False:=eq_false (by omega)
@[go_sem] theorem qb3 (n m k1 k2 k3 k4 k5 k6 k7 k8 k9 k10 k11 k12 k13 k14:Nat) (h:n<m):n<m+k1+k2+k3+k4+k5+k6+k7+k8+k9+k10+k11+k12+k13+k14:=by omega
@[go_sem] theorem qb4 (n m k1 k2 k3 k4 k5 k6 k7 k8 k9 k10 k11 k12 k13 k14:Nat) (h:n≤m):n≤m+k1+k2+k3+k4+k5+k6+k7+k8+k9+k10+k11+k12+k13+k14:=by omega
@[go_sem] theorem qb5 (n m k1 k2 k3 k4 k5 k6 k7 k8 k9 k10 k11 k12 k13 k14:Nat) (h:n<m):n≤m+k1+k2+k3+k4+k5+k6+k7+k8+k9+k10+k11+k12+k13+k14:=by omega
@[go_sem] theorem qb6 (n m k1 k2 k3 k4 k5 k6 k7 k8 k9 k10 k11 k12 k13 k14:Nat) (h:n<m):(n=m+k1+k2+k3+k4+k5+k6+k7+k8+k9+k10+k11+k12+k13+k14)=False:=eq_false (by omega)
@[go_sem] theorem qb7 (n m k1 k2 k3 k4 k5 k6 k7 k8 k9 k10 k11 k12 k13 k14:Nat) (h:n<m):(m+k1+k2+k3+k4+k5+k6+k7+k8+k9+k10+k11+k12+k13+k14=n)=False:=eq_false (by omega)
@[go_sem] theorem qb8 (n m k1 k2 k3 k4 k5 k6 k7 k8 k9 k10 k11 k12 k13 k14 k15:Nat) (h:n<m):n<m+k1+k2+k3+k4+k5+k6+k7+k8+k9+k10+k11+k12+k13+k14+k15:=by omega
@[go_sem] theorem qb9 (n m k1 k2 k3 k4 k5 k6 k7 k8 k9 k10 k11 k12 k13 k14 k15:Nat) (h:n≤m):n≤m+k1+k2+k3+k4+k5+k6+k7+k8+k9+k10+k11+k12+k13+k14+k15:=by omega
@[go_sem] theorem qba (n m k1 k2 k3 k4 k5 k6 k7 k8 k9 k10 k11 k12 k13 k14 k15:Nat) (h:n<m):n≤m+k1+k2+k3+k4+k5+k6+k7+k8+k9+k10+k11+k12+k13+k14+k15:=by omega
@[go_sem] theorem qbb (n m k1 k2 k3 k4 k5 k6 k7 k8 k9 k10 k11 k12 k13 k14 k15:Nat) (h:n<m):(n=m+k1+k2+k3+k4+k5+k6+k7+k8+k9+k10+k11+k12+k13+k14+k15)=False:=eq_false (by omega)
@[go_sem] theorem qbc (n m k1 k2 k3 k4 k5 k6 k7 k8 k9 k10 k11 k12 k13 k14 k15:Nat) (h:n<m):(m+k1+k2+k3+k4+k5+k6+k7+k8+k9+k10+k11+k12+k13+k14+k15=n)=False:=eq_false (by omega)
@[go_sem] theorem qbd (n m k1 k2 k3 k4 k5 k6 k7 k8 k9 k10 k11 k12 k13 k14 k15 k16:Nat) (h:n<m):n<m+k1+k2+k3+k4+k5+k6+k7+k8+k9+k10+k11+k12+k13+k14+k15+k16:=by omega
@[go_sem] theorem qbe (n m k1 k2 k3 k4 k5 k6 k7 k8 k9 k10 k11 k12 k13 k14 k15 k16:Nat) (h:n≤m):n≤m+k1+k2+k3+k4+k5+k6+k7+k8+k9+k10+k11+k12+k13+k14+k15+k16:=by omega
@[go_sem] theorem qbf (n m k1 k2 k3 k4 k5 k6 k7 k8 k9 k10 k11 k12 k13 k14 k15 k16:Nat) (h:n<m):n≤m+k1+k2+k3+k4+k5+k6+k7+k8+k9+k10+k11+k12+k13+k14+k15+k16:=by omega
@[go_sem] theorem qbg (n m k1 k2 k3 k4 k5 k6 k7 k8 k9 k10 k11 k12 k13 k14 k15 k16:Nat) (h:n<m):(n=m+k1+k2+k3+k4+k5+k6+k7+k8+k9+k10+k11+k12+k13+k14+k15+k16)=False:=eq_false (by omega)
@[go_sem] theorem qbh (n m k1 k2 k3 k4 k5 k6 k7 k8 k9 k10 k11 k12 k13 k14 k15 k16:Nat) (h:n<m):(m+k1+k2+k3+k4+k5+k6+k7+k8+k9+k10+k11+k12+k13+k14+k15+k16=n)=False:=eq_false (by omega)
@[go_sem] theorem qbi (n m k1 k2 k3 k4 k5 k6 k7 k8 k9 k10 k11 k12 k13 k14 k15 k16 k17:Nat) (h:n<m):n<m+k1+k2+k3+k4+k5+k6+k7+k8+k9+k10+k11+k12+k13+k14+k15+k16+k17:=by omega
@[go_sem] theorem qbj (n m k1 k2 k3 k4 k5 k6 k7 k8 k9 k10 k11 k12 k13 k14 k15 k16 k17:Nat) (h:n≤m):n≤m+k1+k2+k3+k4+k5+k6+k7+k8+k9+k10+k11+k12+k13+k14+k15+k16+k17:=by omega
@[go_sem] theorem qbk (n m k1 k2 k3 k4 k5 k6 k7 k8 k9 k10 k11 k12 k13 k14 k15 k16 k17:Nat) (h:n<m):n≤m+k1+k2+k3+k4+k5+k6+k7+k8+k9+k10+k11+k12+k13+k14+k15+k16+k17:=by omega
@[go_sem] theorem qbl (n m k1 k2 k3 k4 k5 k6 k7 k8 k9 k10 k11 k12 k13 k14 k15 k16 k17:Nat) (h:n<m):(n=m+k1+k2+k3+k4+k5+k6+k7+k8+k9+k10+k11+k12+k13+k14+k15+k16+k17)=False:=eq_false (by omega)
@[go_sem] theorem qbm (n m k1 k2 k3 k4 k5 k6 k7 k8 k9 k10 k11 k12 k13 k14 k15 k16 k17:Nat) (h:n<m):(m+k1+k2+k3+k4+k5+k6+k7+k8+k9+k10+k11+k12+k13+k14+k15+k16+k17=n)=False:=eq_false (by omega)
@[go_sem] theorem qbn (n m k1 k2 k3 k4 k5 k6 k7 k8 k9 k10 k11 k12 k13 k14 k15 k16 k17 k18:Nat) (h:n<m):n<m+k1+k2+k3+k4+k5+k6+k7+k8+k9+k10+k11+k12+k13+k14+k15+k16+k17+k18:=by omega
@[go_sem] theorem qbo (n m k1 k2 k3 k4 k5 k6 k7 k8 k9 k10 k11 k12 k13 k14 k15 k16 k17 k18:Nat) (h:n≤m):n≤m+k1+k2+k3+k4+k5+k6+k7+k8+k9+k10+k11+k12+k13+k14+k15+k16+k17+k18:=by omega
@[go_sem] theorem qbp (n m k1 k2 k3 k4 k5 k6 k7 k8 k9 k10 k11 k12 k13 k14 k15 k16 k17 k18:Nat) (h:n<m):n≤m+k1+k2+k3+k4+k5+k6+k7+k8+k9+k10+k11+k12+k13+k14+k15+k16+k17+k18:=by omega
@[go_sem] theorem qbq (n m k1 k2 k3 k4 k5 k6 k7 k8 k9 k10 k11 k12 k13 k14 k15 k16 k17 k18:Nat) (h:n<m):(n=m+k1+k2+k3+k4+k5+k6+k7+k8+k9+k10+k11+k12+k13+k14+k15+k16+k17+k18)=False:=eq_false (by omega)
@[go_sem] theorem qbr (n m k1 k2 k3 k4 k5 k6 k7 k8 k9 k10 k11 k12 k13 k14 k15 k16 k17 k18:Nat) (h:n<m):(m+k1+k2+k3+k4+k5+k6+k7+k8+k9+k10+k11+k12+k13+k14+k15+k16+k17+k18=n)=False:=eq_false (by omega)
@[go_sem] theorem qbs (n m k1 k2 k3 k4 k5 k6 k7 k8 k9 k10 k11 k12 k13 k14 k15 k16 k17 k18 k19:Nat) (h:n<m):n<m+k1+k2+k3+k4+k5+k6+k7+k8+k9+k10+k11+k12+k13+k14+k15+k16+k17+k18+k19:=by omega
@[go_sem] theorem qbt (n m k1 k2 k3 k4 k5 k6 k7 k8 k9 k10 k11 k12 k13 k14 k15 k16 k17 k18 k19:Nat) (h:n≤m):n≤m+k1+k2+k3+k4+k5+k6+k7+k8+k9+k10+k11+k12+k13+k14+k15+k16+k17+k18+k19:=by omega
@[go_sem] theorem qbu (n m k1 k2 k3 k4 k5 k6 k7 k8 k9 k10 k11 k12 k13 k14 k15 k16 k17 k18 k19:Nat) (h:n<m):n≤m+k1+k2+k3+k4+k5+k6+k7+k8+k9+k10+k11+k12+k13+k14+k15+k16+k17+k18+k19:=by omega
@[go_sem] theorem qbv (n m k1 k2 k3 k4 k5 k6 k7 k8 k9 k10 k11 k12 k13 k14 k15 k16 k17 k18 k19:Nat) (h:n<m):(n=m+k1+k2+k3+k4+k5+k6+k7+k8+k9+k10+k11+k12+k13+k14+k15+k16+k17+k18+k19)=False:=eq_false (by omega)
@[go_sem] theorem qbw (n m k1 k2 k3 k4 k5 k6 k7 k8 k9 k10 k11 k12 k13 k14 k15 k16 k17 k18 k19:Nat) (h:n<m):(m+k1+k2+k3+k4+k5+k6+k7+k8+k9+k10+k11+k12+k13+k14+k15+k16+k17+k18+k19=n)=False:=eq_false (by omega)
@[go_sem] theorem qbx (n m k1 k2 k3 k4 k5 k6 k7 k8 k9 k10 k11 k12 k13 k14 k15 k16 k17 k18 k19 k20:Nat) (h:n<m):n<m+k1+k2+k3+k4+k5+k6+k7+k8+k9+k10+k11+k12+k13+k14+k15+k16+k17+k18+k19+k20:=by omega
@[go_sem] theorem qby (n m k1 k2 k3 k4 k5 k6 k7 k8 k9 k10 k11 k12 k13 k14 k15 k16 k17 k18 k19 k20:Nat) (h:n≤m):n≤m+k1+k2+k3+k4+k5+k6+k7+k8+k9+k10+k11+k12+k13+k14+k15+k16+k17+k18+k19+k20:=by omega
@[go_sem] theorem qbz (n m k1 k2 k3 k4 k5 k6 k7 k8 k9 k10 k11 k12 k13 k14 k15 k16 k17 k18 k19 k20:Nat) (h:n<m):n≤m+k1+k2+k3+k4+k5+k6+k7+k8+k9+k10+k11+k12+k13+k14+k15+k16+k17+k18+k19+k20:=by omega
@[go_sem] theorem qc0 (n m k1 k2 k3 k4 k5 k6 k7 k8 k9 k10 k11 k12 k13 k14 k15 k16 k17 k18 k19 k20:Nat) (h:n<m):(n=m+k1+k2+k3+k4+k5+k6+k7+k8+k9+k10+k11+k12+k13+k14+k15+k16+k17+k18+k19+k20)=False:=eq_false (by omega)
@[go_sem] theorem qc1 (n m k1 k2 k3 k4 k5 k6 k7 k8 k9 k10 k11 k12 k13 k14 k15 k16 k17 k18 k19 k20:Nat) (h:n<m):(m+k1+k2+k3+k4+k5+k6+k7+k8+k9+k10+k11+k12+k13+k14+k15+k16+k17+k18+k19+k20=n)=False:=eq_false (by omega)
@[go_sem] theorem qc2 (w:World) (x:Beyond) (n i:Nat) (h:n<w.heap.size):(ext w x).cell? ⟨n,i,none⟩=w.cell? ⟨n,i,none⟩:=Below.cell (p:=⟨n,i,none⟩) (q98 w x).toBelow h
@[go_sem] theorem qc3 (w:World) (x:Beyond) (n i:Nat) (h:n<w.heap.size):(ext w x).frozen? ⟨n,i,none⟩=w.frozen? ⟨n,i,none⟩:=Below.frozen (p:=⟨n,i,none⟩) (q98 w x).toBelow h
theorem qc4 (w:World) (x:Beyond) (n:Nat) (h:n<w.heap.size):(ext w x).heap[n]?=w.heap[n]?:=(q98 w x).block n h
@[go_sem] theorem qc5 (w:World) (x:Beyond) (n:Nat) (h:n<w.heap.size):(ext w x).shape? n=w.shape? n:=by
  unfold World.shape?;rw [qc4 w x n h]

@[go_sem] theorem qc6 (w:World) (x:Beyond):(ext w x).drew=ext w (x.drewN 1):=rfl
@[go_sem] theorem qc7 (w:World) (x:Beyond) (n:Nat):(ext w x).drewN n=ext w (x.drewN n):=by simp [ext,Beyond.drewN,World.drewN,Nat.add_assoc]
@[go_sem] theorem qc8 (w:World) (x y:Beyond):ext (ext w x) y=ext w (x.and y):=by simp [ext,Beyond.and,Array.append_assoc,Nat.add_assoc]
@[go_sem] theorem qc9 (w:World) (x:Beyond) (n:Nat):ext (w.drewN n) x=ext w (x.drewN n):=by
  have h:w.drawn+n+x.drawn=w.drawn+(x.drawn+n):=by omega
  show ({ w with heap:=w.heap++x.objs,drawn:=w.drawn+n+x.drawn }:World)=_
  rw [h];rfl
@[go_sem] theorem qca (w:World) (x:Beyond):ext w.drew x=ext w (x.drewN 1):=by
  have h:w.drawn+1+x.drawn=w.drawn+(x.drawn+1):=by omega
  show ({ w with heap:=w.heap++x.objs,drawn:=w.drawn+1+x.drawn }:World)=_
  rw [h];rfl
theorem qcb {α:Type} (xs ys:Array α) (n:Nat) (f:α→α) (h:n<xs.size):(xs++ys).modify n f=xs.modify n f++ys:=by
  apply Array.ext_getElem?
  intro k
  rw [Array.getElem?_modify]
  rcases Nat.lt_or_ge k xs.size with hk | hk
  · rw [Array.getElem?_append_left hk,Array.getElem?_append_left (by simpa using hk),Array.getElem?_modify]
  · rw [if_neg (by omega),Array.getElem?_append_right hk,Array.getElem?_append_right (by simpa using hk)];simp
@[go_sem] theorem qcc (w:World) (x:Beyond) (n i:Nat) (u:Value) (h:n<w.heap.size):(ext w x).setCell ⟨n,i,none⟩ u=ext (w.setCell ⟨n,i,none⟩ u) x:=by
  simp only [World.setCell,ext];rw [qcb _ _ _ _ h]

@[go_sem] theorem qcd (w:World) (x y:Beyond) (n i:Nat) (h:n<w.heap.size+x.len):(ext w (x.and y)).cell? ⟨n,i,none⟩=(ext w x).cell? ⟨n,i,none⟩:=by
  rw [← qc8];exact qc2 _ _ _ _ (by rw [q94];exact h)
@[go_sem] theorem qce (w:World) (x y:Beyond) (n i:Nat) (h:n<w.heap.size+x.len):(ext w (x.and y)).frozen? ⟨n,i,none⟩=(ext w x).frozen? ⟨n,i,none⟩:=by
  rw [← qc8];exact qc3 _ _ _ _ (by rw [q94];exact h)
@[go_sem] theorem qcf (w:World) (x:Beyond) (n:Nat) (a:Addr):(ext w (x.drewN n)).cell? a=(ext w x).cell? a:=rfl
@[go_sem] theorem qcg (w:World) (x:Beyond) (n:Nat) (a:Addr):(ext w (x.drewN n)).frozen? a=(ext w x).frozen? a:=rfl
theorem qch {a w:World} {x:Beyond} (h:Bel a (Go.ext w x)) (y:Beyond):Bel a (Go.ext w (x.and y)):=by rw [← qc8];exact h.ext y
theorem qci {a w:World} {x:Beyond} (h:Bel a (Go.ext w x)) (n:Nat):Bel a (Go.ext w (x.drewN n)):=by rw [← qc7];exact h.drewN n
theorem ext_of1 {w w':World} {x:Beyond} (h:Bel (Go.ext w x) w'):∃ y,w'=Go.ext w (x.and y):=by
  obtain ⟨y,rfl⟩:=Go.ext_of h;exact ⟨y,qc8 w x y⟩
theorem Calls.ext_of {P:Program} {f:FuncId} {args:Array Value} {w:World} {x:Beyond} {v:Value}
    (h:Calls P f args (ext w x) fun e w'=>e=.returned v∧∃ y,w'=ext (ext w x) y):Calls P f args (ext w x) fun e w''=>e=.returned v∧∃ y,w''=ext w y :=
  h.mono fun _ _ ⟨he,y,hy⟩=>⟨he,x.and y,by rw [hy,qc8]⟩
theorem Calls.ext_of1 {P:Program} {f:FuncId} {args:Array Value} {w:World} {z x:Beyond} {v:Value}
    (h:Calls P f args (ext w (z.and x)) fun e w'=>e=.returned v∧∃ y,w'=ext (ext w (z.and x)) y):Calls P f args (ext w (z.and x)) fun e w''=>e=.returned v∧∃ y,w''=ext w (z.and y) :=
  h.mono fun _ _ ⟨he,y,hy⟩=>⟨he,Go.ext_of1 (by rw [hy];exact (qch (Bel.refl _) x).ext y)⟩
attribute [irreducible] ext Beyond.len
end Go

namespace Go.Tx
open Go
def qck:Row→Bool
  | .nil=>true
  | .int _ r=>qck r
  | .bool r=>qck r
  | .sl _ _=>false
theorem qcl {η η':Emb}:∀ (τ:Row) (x:den τ),qck τ=true→∀ {c:LV},c∈split τ x→∀ {v:Value},VR η c v→VR η' c v
  | .nil,_,_,c,hc,_,_=>by simp [split] at hc
  | .int k r, x, hp, c, hc, v, hv => by
    rcases List.mem_cons.1 hc with rfl | hc
    · cases hv;exact .int _ _
    · exact qcl r x.2 hp hc hv
  | .bool r, x, hp, c, hc, v, hv => by
    rcases List.mem_cons.1 hc with rfl | hc
    · cases hv;exact .bool _
    · exact qcl r x.2 hp hc hv
  | .sl e r,_,hp,_,_,_,_=>by cases hp
mutual
def shift (n:Nat):LV→LV
  | .ptr b o=>.ptr (n+b) o
  | .rp b i sz j=>.rp (n+b) i sz j
  | .rs b=>.rs (n+b)
  | .fn f cs=>.fn f (shifts n cs)
  | .agg cs=>.agg (shifts n cs)
  | .tup cs=>.tup (shifts n cs)
  | .undef=>.undef
  | .int k m=>.int k m
  | .bool v=>.bool v
  | .nilp=>.nilp
  | .str s=>.str s
  | .nils=>.nils
  | .fz τ xs=>.fz τ xs
  | .fp τ x j=>.fp τ x j
def shifts (n:Nat):List LV→List LV
  | []=>[]
  | c :: cs=>shift n c :: shifts n cs
end
mutual
def hasF:LV→Bool
  | .fz _ _=>true
  | .fp _ _ _=>true
  | .fn _ cs=>hasFs cs
  | .agg cs=>hasFs cs
  | .tup cs=>hasFs cs
  | _=>false
def hasFs:List LV→Bool
  | []=>false
  | c :: cs=>hasF c || hasFs cs
end
structure Moved (n:Nat) (η η':Emb) (fr:Bool):Prop where
  loc:∀ b L,η.loc b=some L→η'.loc (n+b)=some L
  hdr:∀ b v,η.hdr b=some v→η'.hdr (n+b)=some v
  fz:fr=true→∀ k ob,η.fz k=some ob→η'.fz k=some ob
mutual
theorem qcn {n:Nat} {η η':Emb} {fr:Bool} (hm:Moved n η η' fr):∀ {l:LV} {v:Value},(fr=true∨hasF l=false)→VR η l v→VR η' (shift n l) v
  | .ptr b o,v,hf,hv=>by rw [shift];cases hv with | ptr h=>exact .ptr (hm.loc _ _ h)
  | .rp b i sz j,v,hf,hv=>by rw [shift];cases hv with | rp h hh hi=>exact .rp (hm.loc _ _ h) (hm.hdr _ _ hh) hi
  | .rs b,v,hf,hv=>by rw [shift];cases hv with | rs h=>exact .rs (hm.hdr _ _ h)
  | .fn f cs, v, hf, hv => by
    rw [shift]
    cases hv with
    | fn hl hh=>have:=shifts_ok hm (hf.imp id fun h=>by rw [hasF] at h;exact h) ⟨hl,hh⟩;exact .fn this.1 this.2
  | .agg cs, v, hf, hv => by
    rw [shift]
    cases hv with
    | agg hl hh=>have:=shifts_ok hm (hf.imp id fun h=>by rw [hasF] at h;exact h) ⟨hl,hh⟩;exact .agg this.1 this.2
  | .tup cs, v, hf, hv => by
    rw [shift]
    cases hv with
    | tup hl hh=>have:=shifts_ok hm (hf.imp id fun h=>by rw [hasF] at h;exact h) ⟨hl,hh⟩;exact .tup this.1 this.2
  | .undef,v,_,hv=>by rw [shift];exact .undef _
  | .int k m,v,_,hv=>by rw [shift];cases hv;exact .int _ _
  | .bool m,v,_,hv=>by rw [shift];cases hv;exact .bool _
  | .nilp,v,_,hv=>by rw [shift];cases hv;exact .nilp
  | .str s,v,_,hv=>by rw [shift];cases hv;exact .str _
  | .nils,v,_,hv=>by rw [shift];cases hv;exact .nils
  | .fz τ xs, v, hf, hv => by
    rw [shift]
    cases hv with
    | fz h=>exact .fz (h.mono (RowF.mono (hm.fz (hf.resolve_right (by rw [hasF];simp))) τ))
  | .fp τ x j, v, hf, hv => by
    rw [shift]
    cases hv with
    | fp h=>exact .fp (h.mono (hm.fz (hf.resolve_right (by rw [hasF];simp))))
theorem shifts_ok {n:Nat} {η η':Emb} {fr:Bool} (hm:Moved n η η' fr):∀ {cs:List LV} {vs:List Value},(fr=true∨hasFs cs=false)→VRs η cs vs→VRs η' (shifts n cs) vs
  | [], vs, _, hv => by
    rw [shifts]
    have:vs=[]:=by have:=hv.1;simpa using this.symm
    subst this;exact VRs.nil
  | c :: cs, vs, hf, hv => by
    obtain ⟨v,vs,rfl,h1,h2⟩:=hv.uncons
    rw [shifts]
    have hf':fr=true∨(hasF c=false∧hasFs cs=false):=hf.imp id fun h=>by rw [hasFs,Bool.or_eq_false_iff] at h;exact h
    exact VRs.cons (qcn hm (hf'.imp id And.left) h1) (shifts_ok hm (hf'.imp id And.right) h2)
end
def numL:LV→Bool
  | .int _ _=>true
  | .bool _=>true
  | _=>false
def qco:LV→Bool
  | .int _ _=>true
  | .bool _=>true
  | .fz _ _=>true
  | _=>false
def Ob.plainB:Ob→Bool
  | .cells cs=>cs.all numL
  | .rows τ _=>qck τ
  | .rowl _ _ _=>false
def Ob.rowsB:Ob→Bool
  | .cells cs=>cs.all qco
  | .rows _ _=>true
  | .rowl _ _ _=>false
theorem qcp {n:Nat} {η η':Emb} {fr:Bool} {w:World} {cs:List LV} {L:Loc} (hm:Moved n η η' fr) (h1:cs.all qco=true) (h2:fr=true∨cs.all numL=true) (h:At η w cs L):At η' w cs L :=
  ⟨h.lt,h.fits,h.there,fun j c hc=>by
    obtain ⟨v,a,b⟩:=h.cell j c hc
    have hmem:=List.mem_of_getElem? hc
    have e1:=(List.all_eq_true.1 h1) c hmem
    refine ⟨v,a,?_⟩
    cases b with
    | int=>exact .int _ _
    | bool=>exact .bool _
    | fz hf =>
      refine .fz (hf.mono (RowF.mono (hm.fz (h2.resolve_right fun h3=>?_)) _))
      have:=(List.all_eq_true.1 h3) _ hmem
      cases this
    | _=>cases e1⟩
def qcq (H:LH):List Ob→LH
  | []=>H
  | ob :: l=>qcq (H.alloc ob) l
theorem qcr:∀ (l:List Ob) (H:LH),(qcq H l).next=H.next+l.length∧(qcq H l).log=H.log∧∀ b,(qcq H l).get b=if H.next≤b∧b<H.next+l.length then l[b - H.next]? else H.get b
  | [],H=>⟨rfl,rfl,fun b=>by rw [qcq,if_neg];simp⟩
  | ob :: l, H => by
    obtain ⟨h1,h2,h3⟩:=qcr l (H.alloc ob)
    have hn:(H.alloc ob).next=H.next+1:=rfl
    refine ⟨by rw [qcq,h1,hn,List.length_cons];omega,by rw [qcq,h2];rfl,fun b=>?_⟩
    rw [qcq,h3,hn,LH.get_alloc,List.length_cons]
    by_cases e1:H.next+1≤b∧b<H.next+1+l.length
    · rw [if_pos e1,if_pos (by omega),show b - H.next=(b - (H.next+1))+1 by omega,List.getElem?_cons_succ]
    · rw [if_neg e1]
      by_cases e2:b=H.next
      · subst e2;rw [if_pos rfl,if_pos (by omega),Nat.sub_self];rfl
      · rw [if_neg e2,if_neg (by omega)]
def qcs (H:LH):List Nat→LH
  | []=>H
  | n :: l=>qcs (H.put n none) l
theorem qct:∀ (l:List Nat) (H:LH),(qcs H l).next=H.next∧(∃ m,(qcs H l).log=m++H.log∧∀ b,b ∉ m→b ∉ l)∧∀ b,(qcs H l).get b=if b∈l then none else H.get b
  | [],H=>⟨rfl,⟨[],rfl,fun b h=>by simp⟩,fun b=>by simp [qcs]⟩
  | n :: l, H => by
    obtain ⟨h1,⟨m,h2,h4⟩,h3⟩:=qct l (H.put n none)
    refine ⟨h1,⟨m ++ [n],by rw [qcs,h2];simp [LH.put],fun b hb=>?_⟩,fun b=>?_⟩
    · simp only [List.mem_append, List.mem_singleton, not_or] at hb
      simp only [List.mem_cons,not_or]
      exact ⟨hb.2,h4 b hb.1⟩
    · rw [qcs, h3, LH.get_put]
      simp only [List.mem_cons]
      by_cases e1:b∈l
      · rw [if_pos e1,if_pos (.inr e1)]
      · rw [if_neg e1]
        by_cases e2:b=n
        · rw [if_pos e2,if_pos (.inl e2)]
        · rw [if_neg e2,if_neg (fun h=>h.elim e2 e1)]
def place (H:LH) (A:List Nat) (r:LV×List Ob):LV×LH :=
  (shift H.next r.1,qcq (bif hasF r.1 || !(r.2.all Ob.plainB) then qcs H A else H) r.2)
def qcu (H:LH) (l:LV):Option LV :=
  match l with
  | .rs m=>match H.get m with | some (.rows τ xs)=>some (.fz τ xs) | _=>none
  | .int k n=>some (.int k n)
  | .bool v=>some (.bool v)
  | .nils=>some .nils
  | .fz τ xs=>some (.fz τ xs)
  | _=>none
def qcv (H:LH):List LV→Option (List LV)
  | []=>some []
  | c :: cs => match qcu H c with
    | some c=>match qcv H cs with | some cs=>some (c :: cs) | none=>none
    | none=>none
def qcw (H:LH) (τ:Row) (l:LV):Option (den τ) :=
  match l with
  | .ptr n 0 => match H.get n with
    | some (.cells cs) => match qcv H cs with
      | some ds=>join τ ds
      | none=>none
    | _=>none
  | .fp σ x 0=>if h:σ=τ then some (h ▸ x) else none
  | _=>none
def decR (H:LH):(τs:List Row)→List LV→Option (denR τs)
  | [],[]=>some ()
  | τ :: r, l :: ls => match qcw H τ l with
    | some x=>match decR H r ls with | some y=>some (x,y) | none=>none
    | none=>none
  | _,_=>none
def decF (H:LH) (f:FuncId) (τs:List Row) (g:FuncId) (cs:List LV):Option (denR τs):=bif Nat.beq g f then decR H τs cs else none
def decP (H:LH):(p:Pk)→LV→Option p.den
  | .row τ true, .agg cs => match qcv H cs with
    | some cs=>join τ cs
    | none=>none
  | .row τ false, l => match qcu H l with
    | some l=>join τ [l]
    | none=>none
  | .fn f τs,.fn g cs=>decF H f τs g cs
  | .ref τ,l=>qcw H τ l
  | _,_=>none
def decs (H:LH):(τs:List Pk)→List LV→Option (dens τs)
  | [],[]=>some ()
  | p :: r, l :: ls => match decP H p l with
    | some x=>match decs H r ls with | some y=>some (x,y) | none=>none
    | none=>none
  | _,_=>none
def deep (H:LH) (l:List Nat):List Nat:=l.flatMap fun n=>n :: match H.get n with | some ob=>q5z ob | none=>[]
def qcx (H:LH) (args:List LV):List Spec→FuncId→Option ((S:Spec)×dens S.τs)
  | [],_=>none
  | S :: l, g => bif Nat.beq S.g g then (match decs H S.τs args with
    | some x=>some ⟨S,x⟩
    | none=>qcx H args l g) else qcx H args l g
def orc (l:List Spec):Orc:=fun g args H=>match qcx H args l g with
  | some p=>some ⟨p.1.R,p.1.F p.2,fun r=>bif (p.1.enc r).2.all Ob.rowsB then place H (deep H (args.flatMap q5y)) (p.1.enc r) else (.undef,H)⟩
  | none=>none
theorem qcy {H:LH} {args:List LV}:∀ {l:List Spec} {g:FuncId} {p:(S:Spec)×dens S.τs},qcx H args l g=some p→p.1∈l∧p.1.g=g∧decs H p.1.τs args=some p.2
  | [],_,_,h=>by cases h
  | S0 :: l, g, p, h => by
    have rest:qcx H args l g=some p→p.1∈S0 :: l∧p.1.g=g∧decs H p.1.τs args=some p.2:=fun h =>
      let ⟨h1,h2⟩:=qcy h;⟨List.mem_cons_of_mem _ h1,h2⟩
    rw [qcx,Bool.cond_eq_ite] at h
    split at h
    · rename_i he
      split at h
      · rename_i x hx
        injection h with h;subst h
        exact ⟨List.mem_cons_self ..,Nat.eq_of_beq_eq_true he,hx⟩
      · exact rest h
    · exact rest h
section
variable {P:Program} {M:Nat} {H:LH} {η:Emb} {w:World}
structure Phi (H:LH) (η:Emb) (w:World) (A:List Nat) (φ:Nat→Option Obj):Prop where
  fz:∀ k ob,η.fz k=some ob→φ k=some ob
  at_:∀ k n ob L,η.fz k=none→n∈A→H.get n=some ob→η.loc n=some L→L.block=k→φ k=w.heap[k]?
  cases:∀ k ob,φ k=some ob→η.fz k=some ob∨(η.fz k=none∧(∃ n∈A,∃ ob L,H.get n=some ob∧η.loc n=some L∧L.block=k)∧w.heap[k]?=some ob)
theorem qcz (H:LH) (η:Emb) (w:World) (A:List Nat):∃ φ,Phi H η w A φ:=by
  classical
  refine ⟨fun k=>if (η.fz k).isSome=true then η.fz k else if ∃ n∈A,∃ ob L,H.get n=some ob∧η.loc n=some L∧L.block=k then w.heap[k]? else none,fun k ob h=>?_,fun k n ob L h hn hg hL hk=>?_,fun k ob h=>?_⟩
  · rw [if_pos (by rw [h];rfl)];exact h
  · rw [if_neg (by rw [h];simp),if_pos ⟨n,hn,ob,L,hg,hL,hk⟩]
  · split at h
    · exact .inl h
    · rename_i h1
      split at h
      · rename_i h2
        exact .inr ⟨by cases hf:η.fz k with | none=>rfl | some x=>rw [hf] at h1;simp at h1,h2,h⟩
      · cases h
variable {φ:Nat→Option Obj}
theorem qd0 (h:HR M η H w) {A:List Nat} (hp:Phi H η w A φ) {l l':LV} {v:Value} (hx:qcu H l=some l') (hA:∀ n∈refs l,n∈A) (hv:VR η l v):VR (Emb.fro φ) l' v:=by
  unfold qcu at hx
  split at hx
  · rename_i m
    split at hx
    · rename_i τ xs hg
      injection hx with hx;subst hx
      cases hv with
      | rs hh =>
        cases h.live _ _ hg with
        | none hL hh' =>
          rw [hh] at hh';injection hh' with hh';subst hh'
          exact .fz ⟨_,_,rfl,Nat.le_refl _,fun _=>rfl,fun i x hx=>by simp at hx⟩
        | rows hL ha hh' hc hr =>
          rename_i L c
          rw [hh] at hh';injection hh' with hh';subst hh'
          have hsep:=h.sep _ ⟨m,_,L,hg,hL,rfl⟩
          refine .fz ⟨_,_,rfl,hc,(fun h=>by cases h),fun i x hx=>⟨_,_,rfl,q17 (η:=η) (w:=w) (fun k ob hk=>hp.fz k ob hk) (hp.at_ _ m _ L hsep (hA m (by simp [refs])) hg hL rfl) τ x _ fun j cc hcc=>?_⟩⟩
          have hj:j<τ.size:=by rw [← q8 τ x];exact (List.getElem?_eq_some_iff.1 hcc).1
          obtain ⟨v,h1,h2⟩:=ha.cell (i*τ.size+j) cc (by rw [qd τ xs i x j hx hj];exact hcc)
          exact ⟨v,by rw [Nat.add_assoc];exact h1,h2⟩
    · cases hx
  · injection hx with hx;subst hx;cases hv;exact .int _ _
  · injection hx with hx;subst hx;cases hv;exact .bool _
  · injection hx with hx;subst hx;cases hv;exact .nils
  · injection hx with hx; subst hx
    cases hv with
    | fz hf=>exact .fz (hf.mono (RowF.mono (fun k ob hk=>hp.fz k ob hk) _))
  · cases hx
theorem qd1 (h:HR M η H w) {A:List Nat} (hp:Phi H η w A φ):∀ {cs ds:List LV} {vs:List Value},qcv H cs=some ds→(∀ c∈cs,∀ n∈refs c,n∈A)→VRs η cs vs→VRs (Emb.fro φ) ds vs
  | [], ds, vs, hx, _, hv => by
    rw [qcv] at hx;injection hx with hx;subst hx
    have:vs=[]:=by have:=hv.1;simpa using this.symm
    subst this;exact VRs.nil
  | c :: cs, ds, vs, hx, hA, hv => by
    obtain ⟨v,vs,rfl,h1,h2⟩:=hv.uncons
    rw [qcv] at hx
    split at hx
    · rename_i d hd
      split at hx
      · rename_i ds' hds
        injection hx with hx;subst hx
        exact VRs.cons (qd0 h hp hd (hA c (List.mem_cons_self ..)) h1) (qd1 h hp hds (fun c hc=>hA c (List.mem_cons_of_mem _ hc)) h2)
      · cases hx
    · cases hx
theorem qd2 (h:HR M η H w) {A:List Nat} (hp:Phi H η w A φ) {τ:Row} {l:LV} {x:den τ} {v:Value} (hx:qcw H τ l=some x) (hA:∀ n∈deep H (refs l),n∈A) (hv:VR η l v):VR (Emb.fro φ) (.fp τ x 0) v:=by
  unfold qcw at hx
  split at hx
  · rename_i n
    split at hx
    · rename_i cs hg
      split at hx
      · rename_i ds hds
        have hdeep:∀ m,(m=n∨m∈q5z (.cells cs))→m∈A:=fun m hm=>hA m (by
          unfold deep;simp only [refs,List.flatMap_cons,List.flatMap_nil,List.append_nil,hg,List.mem_cons];exact hm)
        cases hv with
        | ptr hL =>
          rename_i L
          have ha:=(h.live _ _ hg).at hL
          have hcut:cut cs 0 cs.length=some cs:=by unfold cut;rw [Nat.zero_add,Nat.ble_eq_true_of_le (Nat.le_refl _),List.drop_zero,List.take_length];rfl
          obtain ⟨vs,o1,o2⟩:=Lie.cut ha.cell hcut
          have e1:=qd1 h hp hds (fun c hc m hm=>hdeep m (.inr (List.mem_flatMap.2 ⟨c,hc,by cases c<;>first | exact hm | (simp [refs] at hm)⟩))) o1
          have e2:=q2c τ hx e1
          have hsep:=h.sep _ ⟨n,_,L,hg,hL,rfl⟩
          refine .fp (q17 (η:=Emb.fro φ) (w:=w) (fun _ _ h=>h) (hp.at_ _ n _ L hsep (hdeep n (.inl rfl)) hg hL rfl) τ x _ fun j c hc=>?_)
          obtain ⟨v,f1,f2⟩:=e2.get hc
          exact ⟨v,by have:=o2 j v f1;rwa [Nat.add_zero] at this,f2⟩
      · cases hx
    · cases hx
  · rename_i σ y
    split at hx
    · rename_i he
      subst he
      injection hx with hx;subst hx
      cases hv with
      | fp hr=>exact .fp (hr.mono fun k ob hk=>hp.fz k ob hk)
    · cases hx
  · cases hx
theorem qd3 (h:HR M η H w) {A:List Nat} (hp:Phi H η w A φ):∀ {τs:List Row} {ls:List LV} {x:denR τs} {vs:List Value},decR H τs ls=some x→(∀ l∈ls,∀ n∈deep H (refs l),n∈A)→VRs η ls vs→VRs (Emb.fro φ) (q8x τs x) vs
  | [], ls, x, vs, hx, _, hv => by
    cases ls with
    | nil=>exact ⟨hv.1,fun i c v hc _=>by simp [q8x] at hc⟩
    | cons l ls=>cases hx
  | τ :: r, ls, x, vs, hx, hA, hv => by
    cases ls with
    | nil=>cases hx
    | cons l ls =>
      obtain ⟨v,vs,rfl,h1,h2⟩:=hv.uncons
      rw [decR] at hx
      split at hx
      · rename_i y hy
        split at hx
        · rename_i z hz
          injection hx with hx;subst hx
          exact VRs.cons (qd2 h hp hy (hA l (List.mem_cons_self ..)) h1) (qd3 h hp hz (fun l hl=>hA l (List.mem_cons_of_mem _ hl)) h2)
        · cases hx
      · cases hx
theorem qd4 {l:List Nat} {n:Nat} (h:n∈l):n∈deep H l:=List.mem_flatMap.2 ⟨n,h,List.mem_cons_self ..⟩
theorem qd5 {l m:List Nat} (h:∀ n∈l,n∈m) {n:Nat} (hn:n∈deep H l):n∈deep H m:=by
  obtain ⟨x,h1,h2⟩:=List.mem_flatMap.1 hn
  exact List.mem_flatMap.2 ⟨x,h x h1,h2⟩
theorem qd6 {l:LV} {n:Nat} (h:n∈refs l):n∈q5y l:=by cases l<;>first | exact h | (simp [refs] at h)
theorem qd7 (h:HR M η H w) {A:List Nat} (hp:Phi H η w A φ) {p:Pk} {l:LV} {x:p.den} {v:Value} (hx:decP H p l=some x) (hA:∀ n∈deep H (q5y l),n∈A) (hv:VR η l v):VR (Emb.fro φ) (p.arg x) v:=by
  cases p with
  | row τ agg =>
    cases agg with
    | true =>
      cases l with
      | agg cs =>
        replace hx:(match qcv H cs with | some cs=>join τ cs | none=>none)=some x:=hx
        split at hx
        · rename_i ds hds
          cases hv with
          | agg hl hh =>
            have e1:=qd1 h hp hds (fun c hc n hn=>hA n (qd4 (List.mem_flatMap.2 ⟨c,hc,hn⟩))) ⟨hl,hh⟩
            have e2:=q2c τ hx e1
            exact .agg e2.1 e2.2
        · cases hx
      | _=>cases hx
    | false =>
      replace hx:(match qcu H l with | some l=>join τ [l] | none=>none)=some x:=by cases l<;>exact hx
      split at hx
      · rename_i d hd
        have e1:=qd0 h hp hd (fun n hn=>hA n (qd4 (qd6 hn))) hv
        have e2:=q2c τ hx (VRs.cons e1 VRs.nil)
        have hlen:=e2.1
        show VR (Emb.fro φ) (q8w τ false x) v
        unfold q8w
        cases hsp:split τ x with
        | nil=>rw [hsp] at hlen;simp at hlen
        | cons c cs =>
          cases cs with
          | nil=>rw [hsp] at e2;obtain ⟨u,hu,e3⟩:=vrs1 e2;injection hu with hu;subst hu;simp only [hsp];exact e3
          | cons c2 cs=>rw [hsp] at hlen;simp at hlen
      · cases hx
  | fn f τs =>
    cases l with
    | fn g cs =>
      have hx2:decF H f τs g cs=some x:=hx
      unfold decF at hx2
      rw [Bool.cond_eq_ite] at hx2
      split at hx2
      · rename_i hg
        have:=Nat.eq_of_beq_eq_true hg
        subst this
        cases hv with
        | fn hl hh =>
          have e1:=qd3 h hp hx2 (fun c hc n hn=>hA n (qd5 (fun m hm=>List.mem_flatMap.2 ⟨c,hc,hm⟩) hn)) ⟨hl,hh⟩
          exact .fn e1.1 e1.2
      · cases hx2
    | _=>cases hx
  | ref τ =>
    have hx2:qcw H τ l=some x:=by cases l<;>exact hx
    exact qd2 h hp hx2 (fun n hn=>hA n (qd5 (fun m hm=>qd6 hm) hn)) hv
theorem qd8 (h:HR M η H w) {A:List Nat} (hp:Phi H η w A φ):∀ {τs:List Pk} {ls:List LV} {x:dens τs} {vs:List Value},decs H τs ls=some x→(∀ l∈ls,∀ n∈deep H (q5y l),n∈A)→VRs η ls vs→VRs (Emb.fro φ) (q8y τs x) vs
  | [], ls, x, vs, hx, _, hv => by
    cases ls with
    | nil=>exact ⟨hv.1,fun i c v hc _=>by simp [q8y] at hc⟩
    | cons l ls=>cases hx
  | p :: r, ls, x, vs, hx, hA, hv => by
    cases ls with
    | nil=>cases hx
    | cons l ls =>
      obtain ⟨v,vs,rfl,h1,h2⟩:=hv.uncons
      rw [decs] at hx
      split at hx
      · rename_i y hy
        split at hx
        · rename_i z hz
          injection hx with hx;subst hx
          exact VRs.cons (qd7 h hp hy (hA l (List.mem_cons_self ..)) h1) (qd8 h hp hz (fun l hl=>hA l (List.mem_cons_of_mem _ hl)) h2)
        · cases hx
      · cases hx
theorem qd9 (H:LH) (A:List Nat):Logged H (qcs H A):=by
  obtain ⟨h1,⟨m,h2,h4⟩,h3⟩:=qct A H
  refine ⟨by omega,⟨m,h2,fun b _ hb=>by rw [h3,if_neg (h4 b hb)]⟩,fun hb b cs hg=>?_⟩
  rw [h3] at hg
  rw [h1]
  split at hg
  · cases hg
  · exact hb b cs hg
theorem qda (H:LH) (l:List Ob):Logged H (qcq H l):=by
  obtain ⟨h1,h2,h3⟩:=qcr l H
  refine ⟨by omega,⟨[],h2,fun b hb _=>by rw [h3,if_neg (by omega)]⟩,fun hb b cs hg=>?_⟩
  rw [h3] at hg
  rw [h1]
  split at hg
  · rename_i h;exact h.2
  · have:=hb b cs hg;omega
theorem qdb {η η':Emb} {τ:Row} {xs:List (den τ)} {L:Loc} (hp:qck τ=true) (h:At η w (flat τ xs) L):At η' w (flat τ xs) L :=
  ⟨h.lt,h.fits,h.there,fun j c hc=>by
    obtain ⟨v,h1,h2⟩:=h.cell j c hc
    obtain ⟨x,hx⟩:=q7s τ xs (List.mem_of_getElem? hc)
    exact ⟨v,h1,qcl τ x hp hx h2⟩⟩
theorem qdc {S:Spec} (hS:COK P S) {args:List LV} {x:dens S.τs} (hd:decs H S.τs args=some x) {r:S.R} (hr:S.F x=some r) (hrows:(S.enc r).2.all Ob.rowsB=true):q55 P S.g args H (place H (deep H (args.flatMap q5y)) (S.enc r)):=by
  generalize hA:deep H (args.flatMap q5y)=A
  have hAm:∀ l∈args,∀ n∈deep H (q5y l),n∈A:=fun l hl n hn=>by rw [← hA];exact qd5 (fun m hm=>List.mem_flatMap.2 ⟨l,hl,hm⟩) hn
  generalize he:S.enc r=er
  obtain ⟨l0,obs⟩:=er
  rw [he] at hrows
  unfold place
  simp only
  generalize hal:(hasF l0 || !(obs.all Ob.plainB))=al
  generalize hH1:(bif al then qcs H A else H)=H1
  have hlog1:Logged H H1:=by rw [← hH1];cases al;exact Logged.refl _;exact qd9 H A
  have hnext1:H1.next=H.next:=by rw [← hH1];cases al;rfl;exact (qct A H).1
  have hsub:∀ b cs,H1.get b=some cs→H.get b=some cs∧(al=true→b ∉ A):=fun b cs hb=>by
    rw [← hH1] at hb
    cases al with
    | false=>exact ⟨hb,fun h=>by cases h⟩
    | true =>
      rw [cond_true,(qct A H).2.2] at hb
      split at hb
      · cases hb
      · rename_i hn;exact ⟨hb,fun _=>hn⟩
  obtain ⟨a1,_,a3⟩:=qcr obs H1
  refine ⟨hlog1.trans (qda H1 obs),fun M η w vs h hM hv=>?_⟩
  have hM':H.next+obs.length≤M:=by rw [← hnext1,← a1];exact hM
  obtain ⟨φ,hp⟩:=qcz H η w A
  have hphi:∀ k ob,φ k=some ob→w.heap[k]?=some ob:=fun k ob hk=>by
    rcases hp.cases k ob hk with h1 | ⟨_,_,h1⟩
    · exact h.fz k ob h1
    · exact h1
  refine Calls.mono (hS.ok x r hr w φ vs hphi (qd8 h hp hd hAm hv)) fun e w' ⟨v',η',e1,e2,e3,e4⟩=>?_
  rw [he] at e2 e3 e4
  simp only at e2 e3 e4
  have hdom:∀ b,obs.length≤b→η'.loc b=none∧η'.hdr b=none:=fun b hb=>(e3 (b+1)).dom b hb (by omega)
  let η2:Emb:=⟨fun n=>if H.next≤n∧n<H.next+obs.length then η'.loc (n - H.next) else η.loc n,fun n=>if H.next≤n∧n<H.next+obs.length then η'.hdr (n - H.next) else η.hdr n,fun k=>if k<w.heap.size then (bif al then φ k else η.fz k) else η'.fz k⟩
  have hout:∀ b,¬ (H.next≤b∧b<H.next+obs.length)→η2.loc b=η.loc b∧η2.hdr b=η.hdr b:=fun b hb=>⟨if_neg hb,if_neg hb⟩
  have hin:∀ j,j<obs.length→η2.loc (H.next+j)=η'.loc j∧η2.hdr (H.next+j)=η'.hdr j:=fun j hj=>by
    constructor
    · show (if H.next ≤ H.next + j ∧ H.next + j < H.next + obs.length then η'.loc (H.next + j - H.next) else η.loc (H.next + j)) = _
      rw [if_pos (by omega),Nat.add_sub_cancel_left]
    · show (if H.next ≤ H.next + j ∧ H.next + j < H.next + obs.length then η'.hdr (H.next + j - H.next) else η.hdr (H.next + j)) = _
      rw [if_pos (by omega),Nat.add_sub_cancel_left]
  have hfree:∀ b,H.next≤b→b<H.next+obs.length→η.loc b=none∧η.hdr b=none:=fun b h1 h2=>h.dom b h1 (by omega)
  have hfzlt:∀ k ob,η.fz k=some ob→k<w.heap.size:=fun k ob hk=>(Array.getElem?_eq_some_iff.1 (h.fz k ob hk)).1
  have hle:η.le η2:=by
    refine ⟨fun b L hb=>?_,fun b v hb=>?_,fun k ob hk=>?_⟩
    · by_cases hc : H.next ≤ b ∧ b < H.next + obs.length
      · rw [(hfree b hc.1 hc.2).1] at hb;cases hb
      · rw [(hout b hc).1];exact hb
    · by_cases hc : H.next ≤ b ∧ b < H.next + obs.length
      · rw [(hfree b hc.1 hc.2).2] at hb;cases hb
      · rw [(hout b hc).2];exact hb
    · show (if k < w.heap.size then (bif al then φ k else η.fz k) else η'.fz k) = some ob
      rw [if_pos (hfzlt k ob hk)]
      cases al
      · exact hk
      · exact hp.fz _ _ hk
  have hmoved:Moved H.next η' η2 al:=by
    refine ⟨fun b L hb=>?_,fun b v hb=>?_,fun hal2 k ob hk=>?_⟩
    · have hlt : b < obs.length := Nat.lt_of_not_le fun hn => by rw [(hdom b hn).1] at hb; cases hb
      rw [(hin b hlt).1];exact hb
    · have hlt : b < obs.length := Nat.lt_of_not_le fun hn => by rw [(hdom b hn).2] at hb; cases hb
      rw [(hin b hlt).2];exact hb
    · show (if k < w.heap.size then (bif al then φ k else η.fz k) else η'.fz k) = some ob
      rw [hal2,cond_true]
      split
      · rename_i hlt
        exact (e4.fzn k ob hk).resolve_right (by omega)
      · exact hk
  have hval:VR η2 (shift H.next l0) v':=qcn hmoved (by
    cases al with
    | true=>exact .inl rfl
    | false=>rw [Bool.or_eq_false_iff] at hal;exact .inr hal.1) e2
  have hget:∀ b ob,(qcq H1 obs).get b=some ob→(¬ (H.next≤b∧b<H.next+obs.length)∧H1.get b=some ob) ∨ ∃ j,b=H.next+j∧j<obs.length∧obs[j]?=some ob:=fun b ob hb=>by
    rw [a3,hnext1] at hb
    split at hb
    · rename_i hc;exact .inr ⟨b - H.next,by omega,by omega,hb⟩
    · rename_i hc;exact .inl ⟨hc,hb⟩
  have hnewlb:∀ j ob L,obs[j]?=some ob→η'.loc j=some L→w.heap.size≤L.block:=fun j ob L hj hL=>e4.lb _ ⟨j,ob,L,by rw [q7f];exact hj,hL,rfl⟩
  have hlb:∀ k,LB (qcq H1 obs) η2 k→(∃ b ob L,H1.get b=some ob∧η.loc b=some L∧L.block=k)∨(∃ j ob L,obs[j]?=some ob∧η'.loc j=some L∧L.block=k):=fun k ⟨b,ob,L,hb,hL,hk⟩=>by
    rcases hget b ob hb with ⟨hc,hg⟩ | ⟨j,rfl,hj,hg⟩
    · rw [(hout b hc).1] at hL;exact .inl ⟨b,ob,L,hg,hL,hk⟩
    · rw [(hin j hj).1] at hL;exact .inr ⟨j,ob,L,hg,hL,hk⟩
  have hr2:HR M η2 (qcq H1 obs) w':=by
    refine ⟨fun b h1 h2=>?_,fun b ob hb=>?_,fun b ob hb=>?_,fun b1 b2 o1 o2 L1 L2 g1 g2 l1 l2 hbe=>?_,fun k ob hk=>?_,fun k hk=>?_,fun b v hb=>?_⟩
    · rw [a1, hnext1] at h1
      have:=hout b (by omega)
      rw [this.1,this.2];exact h.dom b (by omega) h2
    · rw [a1, hnext1]
      rcases hget b ob hb with ⟨hc,hg⟩ | ⟨j,rfl,hj,hg⟩
      · have:=h.lt b ob (hsub b ob hg).1;omega
      · omega
    · rcases hget b ob hb with ⟨hc, hg⟩ | ⟨j, rfl, hj, hg⟩
      · have hl := h.live b ob (hsub b ob hg).1
        exact hl.move hle (hout b hc).1 e4.size fun L hL=>e4.same _ (hl.lt hL)
      · have hl := (e3 0).live j ob (by rw [q7f]; exact hg)
        have hro:ob.rowsB=true:=(List.all_eq_true.1 hrows) ob (List.mem_of_getElem? hg)
        have hpl:al=true∨ob.plainB=true:=by
          cases al with
          | true=>exact .inl rfl
          | false =>
            rw [Bool.or_eq_false_iff,Bool.not_eq_false'] at hal
            exact .inr ((List.all_eq_true.1 hal.2) ob (List.mem_of_getElem? hg))
        cases hl with
        | cells hL ha=>exact .cells (by rw [(hin j hj).1];exact hL) (qcp hmoved hro hpl ha)
        | rows hL ha hh hc hr =>
          refine .rows (by rw [(hin j hj).1];exact hL) ?_ (by rw [(hin j hj).2];exact hh) hc hr
          rcases hpl with h1 | h1
          · exact q7t (hmoved.fz h1) ha
          · exact qdb h1 ha
        | rowl=>cases hro
        | none hL hh=>exact .none (by rw [(hin j hj).1];exact hL) (by rw [(hin j hj).2];exact hh)
    · rcases hget b1 o1 g1 with ⟨c1, k1⟩ | ⟨j1, rfl, j1l, k1⟩ <;> rcases hget b2 o2 g2 with ⟨c2, k2⟩ | ⟨j2, rfl, j2l, k2⟩
      · rw [(hout b1 c1).1] at l1; rw [(hout b2 c2).1] at l2
        exact h.inj _ _ _ _ _ _ (hsub _ _ k1).1 (hsub _ _ k2).1 l1 l2 hbe
      · rw [(hout b1 c1).1] at l1; rw [(hin j2 j2l).1] at l2
        have:=(h.live _ _ (hsub _ _ k1).1).lt l1
        have:=hnewlb _ _ _ k2 l2;omega
      · rw [(hin j1 j1l).1] at l1; rw [(hout b2 c2).1] at l2
        have:=(h.live _ _ (hsub _ _ k2).1).lt l2
        have:=hnewlb _ _ _ k1 l1;omega
      · rw [(hin j1 j1l).1] at l1; rw [(hin j2 j2l).1] at l2
        have:=(e3 0).inj j1 j2 _ _ _ _ (by rw [q7f];exact k1) (by rw [q7f];exact k2) l1 l2 hbe
        omega
    · have hk' : (if k < w.heap.size then (bif al then φ k else η.fz k) else η'.fz k) = some ob := hk
      split at hk'
      · rename_i hlt
        rw [e4.same k hlt]
        cases al with
        | true=>exact hphi k ob hk'
        | false=>exact h.fz k ob hk'
      · exact (e3 0).fz k ob hk'
    · show (if k < w.heap.size then (bif al then φ k else η.fz k) else η'.fz k) = none
      rcases hlb k hk with ⟨b,ob,L,g1,g2,g3⟩ | ⟨j,ob,L,g1,g2,g3⟩
      · have hg := hsub b ob g1
        have hlt:=(h.live _ _ hg.1).lt g2
        have hs:=h.sep k ⟨b,ob,L,hg.1,g2,g3⟩
        rw [if_pos (by omega)]
        cases al with
        | false=>exact hs
        | true =>
          rw [cond_true]
          cases hpk:φ k with
          | none=>rfl
          | some o =>
            exfalso
            rcases hp.cases _ _ hpk with h1 | ⟨_,⟨n,hn,ob',L',hgn,hL',hk'⟩,_⟩
            · rw [hs] at h1;cases h1
            · have := h.inj _ _ _ _ _ _ hg.1 hgn g2 hL' (by omega)
              exact hg.2 rfl (this ▸ hn)
      · have := hnewlb _ _ _ g1 g2
        rw [if_neg (by omega)]
        exact (e3 0).sep k ⟨j,ob,L,by rw [q7f];exact g1,g2,g3⟩
    · by_cases hc : H.next ≤ b ∧ b < H.next + obs.length
      · have hb':η'.hdr (b - H.next)=some v:=by
          have:η2.hdr b=η'.hdr (b - H.next):=if_pos hc
          rw [← this];exact hb
        exact (e3 0).ok _ v hb'
      · rw [(hout b hc).2] at hb;exact h.ok b v hb
  refine ⟨v',η2,e1,hval,hle,fun b hb=>hout b (by rw [a1,hnext1] at hb;omega),by rw [a1,hnext1];omega,hr2,e4.size,fun k hk _=>e4.same k hk,fun k hk=>?_,fun k ob hk=>?_,e4.os,e4.tape,e4.output,e4.drawn⟩
  · rcases hlb k hk with ⟨b, ob, L, g1, g2, g3⟩ | ⟨j, ob, L, g1, g2, g3⟩
    · exact .inl ⟨b,ob,L,(hsub b ob g1).1,g2,g3⟩
    · have:=hnewlb _ _ _ g1 g2;exact .inr (by omega)
  · have hk' : (if k < w.heap.size then (bif al then φ k else η.fz k) else η'.fz k) = some ob := hk
    split at hk'
    · cases al with
      | false=>exact .inl hk'
      | true =>
        rw [cond_true] at hk'
        rcases hp.cases _ _ hk' with h1 | ⟨_,⟨n,hn,ob',L',hgn,hL',hkk⟩,_⟩
        · exact .inl h1
        · exact .inr (.inl ⟨n,ob',L',hgn,hL',hkk⟩)
    · rename_i hlt;exact .inr (.inr (by omega))
theorem qdd {S:Spec} (hS:COK P S) {args:List LV} {x:dens S.τs} (hd:decs H S.τs args=some x) {r:S.R} (hr:S.F x=some r):q55 P S.g args H (.undef,H):=by
  generalize hA:deep H (args.flatMap q5y)=A
  have hAm:∀ l∈args,∀ n∈deep H (q5y l),n∈A:=fun l hl n hn=>by rw [← hA];exact qd5 (fun m hm=>List.mem_flatMap.2 ⟨l,hl,hm⟩) hn
  refine ⟨Logged.refl _,fun M η w vs h hM hv=>?_⟩
  obtain ⟨φ,hp⟩:=qcz H η w A
  have hphi:∀ k ob,φ k=some ob→w.heap[k]?=some ob:=fun k ob hk=>by
    rcases hp.cases k ob hk with h1 | ⟨_,_,h1⟩
    · exact h.fz k ob h1
    · exact h1
  refine Calls.mono (hS.ok x r hr w φ vs hphi (qd8 h hp hd hAm hv)) fun e w' ⟨v',η',e1,e2,e3,e4⟩=>?_
  refine ⟨v',η,e1,.undef _,Emb.le_refl _,fun _ _=>⟨rfl,rfl⟩,Nat.le_refl _,⟨h.dom,h.lt,fun b ob hb=>(h.live b ob hb).move (Emb.le_refl _) rfl e4.size fun L hL=>e4.same _ ((h.live b ob hb).lt hL),h.inj,fun k ob hk=>?_,h.sep,h.ok⟩,e4.size,fun k hk _=>e4.same k hk,fun k hk=>.inl hk,fun k ob hk=>.inl hk,e4.os,e4.tape,e4.output,e4.drawn⟩
  have hk1:=h.fz k ob hk
  rw [e4.same k (Array.getElem?_eq_some_iff.1 hk1).1];exact hk1
theorem qde {l:List Spec} (h:∀ S∈l,COK P S):OrcOK P (orc l):=by
  refine ⟨fun g args H p x hp hx=>?_⟩
  unfold orc at hp
  split at hp
  · rename_i q hq
    obtain ⟨h1,rfl,hy⟩:=qcy hq
    injection hp with hp;subst hp
    simp only at hx x ⊢
    refine .inl ⟨?_,(h _ h1).body⟩
    rw [Bool.cond_eq_ite]
    split
    · rename_i hrows
      exact qdc (h _ h1) hy hx hrows
    · exact qdd (h _ h1) hy hx
  · cases hp
theorem qdf {S:Spec} (h:COK P S) {x:dens S.τs} {r:S.R} {v:Bool} (hx:S.F x=some r) (he:S.enc r=(.bool v,[])) (w:World) {vs:List Value} (hv:VRs (Emb.fro fun k=>w.heap[k]?) (q8y S.τs x) vs) :
    Calls P S.g vs.toArray w fun e w'=>e=.returned (.bool v)∧∃ y,w'=ext w y:=by
  refine Calls.mono (h.ok x r hx w _ vs (fun _ _ h=>h) hv) fun e w' ⟨v',η',h1,h2,_,h4⟩=>?_
  rw [he] at h2
  cases h2
  exact ⟨h1,ext_of ⟨⟨h4.os,h4.tape,h4.output,h4.size,fun k hk=>h4.same k hk⟩,h4.drawn⟩⟩
end
end Go.Tx

namespace Go.Tx
open Go
def iter {X R:Type} (body:(X→Option R)→X→Option R):Nat→X→Option R
  | 0,_=>none
  | n+1,x=>body (iter body n) x
def regL:Code→Nat→Option (Array Oper)
  | .region i ops _,k=>bif Nat.beq i k then some ops else none
  | .seq a b,k=>match regL a k with | some x=>some x | none=>regL b k
  | .cond _ a b,k=>match regL a k with | some x=>some x | none=>regL b k
  | .block _ a,k=>regL a k
  | .loop a,k=>regL a k
  | .scope a,k=>regL a k
  | .rangeFunc _ _ a b,k=>match regL a k with | some x=>some x | none=>regL b k
  | _,_=>none
def qdg (ks:List Nat):List (Nat×LV)→List (Nat×LV)
  | []=>[]
  | p :: l=>bif memB ks p.1 then qdg ks l else p :: qdg ks l
theorem qdh (ks:List Nat):∀ (l:List (Nat×LV)) (p:Nat×LV),p∈qdg ks l→p∈l
  | [],_,h=>h
  | q :: l, p, h => by
    rw [qdg,Bool.cond_eq_ite] at h
    split at h
    · exact List.mem_cons_of_mem _ (qdh ks l p h)
    · rcases List.mem_cons.1 h with h | h
      · exact List.mem_cons.2 (.inl h)
      · exact List.mem_cons_of_mem _ (qdh ks l p h)
theorem qdj {w0:World} {φ0:Fz0} {N:Nat} {tm:List (Nat×LV)} {ob:List Ob} {s:St} {Q:Exit→Act→World→Prop} {e:Exit} (ks:List Nat) (hs:tnum (qdg ks tm) (q7c ob) some=some s) (h:Cn w0 φ0 N s Q e):Cn w0 φ0 N ⟨tm,ob⟩ Q e:=fun a w hss=>by
  obtain ⟨s',h1,h2⟩:=q85 hs
  injection h1 with h1;subst h1
  obtain ⟨⟨η,g1,g2,g3⟩,g4,g5⟩:=hss
  exact h a w (h2 w0 φ0 0 η w a N (g1 0) (fun n l hl=>g2 n l (qdh ks tm _ hl)) g3 g4 g5)
def qdk (f:Func):Code:=match f.body with | some c=>c | none=>.skip
def regO (c:Code) (k:Nat):Array Oper:=match regL c k with | some x=>x | none=>#[]
def elt {α:Type} (z:α) (xs:List α) (i:Nat):α:=(xs[i]?).getD z
end Go.Tx

namespace Go.Pel
def qdl (n d:Int):Bool:=decide (1≤d∧n ≠ -9223372036854775808∧Nat.gcd d.toNat n.natAbs=1)
def qdm (n d:Int):Int:=if qdl n d then 0 else 8
theorem qdn {n d:Int} (h:d<1):qdm n d=8:=by unfold qdm qdl;rw [if_neg];simp;omega
theorem qdo {d:Int}:qdm (-9223372036854775808) d=8:=by unfold qdm qdl;rw [if_neg];simp
theorem qdp {n d:Int} (h1:1≤d) (h2:n ≠ -9223372036854775808) (h3:Nat.gcd d.toNat n.natAbs=1):qdm n d=0:=by unfold qdm qdl;rw [if_pos];simp;exact ⟨h1,h2,h3⟩
theorem qdq {n d:Int} (h3:Nat.gcd d.toNat n.natAbs≠1):qdm n d=8:=by unfold qdm qdl;rw [if_neg];simp;intro _ _;exact h3
theorem qdr {n d:Int} (h:1≤d) (k:¬ 1<Nat.gcd d.toNat n.natAbs):Nat.gcd d.toNat n.natAbs=1:=by
  have:0<Nat.gcd d.toNat n.natAbs:=Nat.gcd_pos_of_pos_left _ (by omega)
  omega
theorem qds (n d:Int):qdm n d=0∨qdm n d=8:=by unfold qdm;split<;>simp
theorem qdt {n d:Int} (h:qdm n d=0):1≤d∧n ≠ -9223372036854775808∧Nat.gcd d.toNat n.natAbs=1:=by
  unfold qdm qdl at h;split at h
  · rename_i h';simpa using h'
  · omega
def qdz (i a b:Int):Bool:=decide (0≤i∧i≤65535∧-1048576≤a∧a≤1048576∧-1048576≤b∧b≤1048576)
def qe0 (i a b:Int):Int:=if qdz i a b then 0 else 8
theorem qe1 {i a b:Int} (h:0≤i∧i≤65535∧-1048576≤a∧a≤1048576∧-1048576≤b∧b≤1048576):qe0 i a b=0:=by unfold qe0 qdz;rw [if_pos];simpa using h
theorem qe2 {i a b:Int} (h:¬ (0≤i∧i≤65535∧-1048576≤a∧a≤1048576∧-1048576≤b∧b≤1048576)):qe0 i a b=8:=by unfold qe0 qdz;rw [if_neg];simpa using h
theorem qe3 (i a b:Int):qe0 i a b=0∨qe0 i a b=8:=by unfold qe0;split<;>simp
theorem qe4 {i a b:Int} (h:qe0 i a b=0):0≤i∧i≤65535∧-1048576≤a∧a≤1048576∧-1048576≤b∧b≤1048576:=by
  unfold qe0 qdz at h;split at h
  · rename_i h';simpa using h'
  · omega
def far (n:Int):Bool:=decide (n < -1048576∨1048576<n)
theorem qe7 (n:Int):far n=(decide (n < -1048576) || decide (1048576<n)):=by unfold far;rw [Bool.eq_iff_iff];simp
theorem qea (n:Int):(far n=true)↔(n < -1048576∨1048576<n):=by unfold far;simp
theorem qeb (n:Int):(far n=false)↔(-1048576≤n∧n≤1048576):=by unfold far;simp
def bld (neg:Bool) (hi lo dhi dlo:Nat):Int×Int×Int :=
  if 0<hi∨9223372036854775807<lo∨0<dhi∨9223372036854775807<dlo then (0,0,16) else (if neg then -(lo:Int) else lo,dlo,0)
theorem qed {hi lo dhi dlo:Nat} (h:¬ (0<hi∨9223372036854775807<lo∨0<dhi∨9223372036854775807<dlo)):bld true hi lo dhi dlo=(-(lo:Int),(dlo:Int),0):=by unfold bld;rw [if_neg h];rfl
theorem qee {hi lo dhi dlo:Nat} (h:¬ (0<hi∨9223372036854775807<lo∨0<dhi∨9223372036854775807<dlo)):bld false hi lo dhi dlo=((lo:Int),(dlo:Int),0):=by unfold bld;rw [if_neg h];rfl
def mk (n d:Int):Int×Int×Int :=
  if d=0 then (0,0,26) else bld (decide (n<0) != decide (d<0)) 0 (n.natAbs / Nat.gcd n.natAbs d.natAbs) 0 (d.natAbs / Nat.gcd n.natAbs d.natAbs)
theorem qeh {n d:Int} (h:d≠0):mk n d=bld (decide (n<0) != decide (d<0)) 0 (n.natAbs / Nat.gcd n.natAbs d.natAbs) 0 (d.natAbs / Nat.gcd n.natAbs d.natAbs):=by unfold mk;rw [if_neg h]
theorem qei {n d:Int} (h:d≠0):1≤Nat.gcd n.natAbs d.natAbs:=Nat.gcd_pos_of_pos_right _ (by omega)
end Go.Pel

namespace Go
namespace RegC
section
variable {P:Program} {ops:Array Oper} {md:Region.Mode} {C:World→Prop}

end

theorem wpQuiet_split {P:Program} {ops:Array Oper} {C:World→Prop} {Q:Act→Prop} {a:Act} {o:Oper} {rest:List Oper} {j:Nat} {want b:Bool}
    (_hg:o.guard=some (j,want)) (_hy:yielded ops a.tmps j=some b) (ht:b=true→wpQuiet P ops C Q (o :: rest) a) (hf:b=false→wpQuiet P ops C Q (o :: rest) a):wpQuiet P ops C Q (o :: rest) a:=by
  cases b
  · exact hf rfl
  · exact ht rfl

section
variable {P:Program}
theorem wp_region_ext0 {id:Nat} {Q:Exit→Act→World→Prop} {a:Act} {w:World} {l:List Oper} (hm:P.follows .mixedOrders=true) (hB:Region.lexB .any l.toArray=true)
    (h:wpQuiet P l.toArray (fun w'=>∃ x,w'=ext w x) (fun a'=>∀ w',(∃ x,w'=ext w x)→Q .normal a' w') l a):(Code.region id l.toArray true).wp P Q a w :=
  wp_region_quiet (C:=fun w'=>∃ x,w'=ext w x) hm hB (Go.ext_of ((Bel.refl w).drewN 1)) (by simpa using h)
theorem wp_region_ext1 {id:Nat} {Q:Exit→Act→World→Prop} {a:Act} {w:World} {z:Beyond} {l:List Oper} (hm:P.follows .mixedOrders=true) (hB:Region.lexB .any l.toArray=true)
    (h:wpQuiet P l.toArray (fun w'=>∃ x,w'=ext w (z.and x)) (fun a'=>∀ w',(∃ x,w'=ext w (z.and x))→Q .normal a' w') l a):(Code.region id l.toArray true).wp P Q a (ext w z) :=
  wp_region_quiet (C:=fun w'=>∃ x,w'=ext w (z.and x)) hm hB (Go.ext_of1 ((Bel.refl (ext w z)).drewN 1)) (by simpa using h)
end
end RegC
end Go
namespace Go
namespace RegC
def passes (P:Program) (rest:Code) (l:Nat) (Q:Exit→Act→World→Prop):Nat→Act→World→Prop
  | 0,_,_=>False
  | n+1,a,w=>rest.wp P (Exit.jump l (passes P rest l Q n) Q) a w
end RegC
end Go

namespace Go
theorem qeu {p:Program} {w w':World} {a:Addr} {u:TypeId} {k:Addr} {v:Value} {b:Bool} {l:List Addr} (h:w.viewStore p a u k v b=.ok (w',l)):w'.drawn=w.drawn:=by
  unfold World.viewStore at h
  simp only [bind,Except.bind,pure,Except.pure,throw,throwThe,MonadExceptOf.throw] at h
  repeat' (split at h<;>try (cases h;done))
  all_goals (try (cases h;rfl))
theorem qev {p:Program} {w w':World} {a:Addr} {v:Value} {b:Bool} {l:List Addr} (h:w.farStore p a v b=.ok (w',l)):w'.drawn=w.drawn:=by
  unfold World.farStore at h
  split at h
  · split at h
    · cases h;exact qeu ‹_›
    · cases h
  · cases h
theorem qew {α:Type}:∀ (x:Ask α) (w:World),w.drawn≤(w.ask x).2.drawn
  | .done _,_=>Nat.le_refl _
  | .ask what range k, w => by
    unfold World.ask
    dsimp only
    split
    · exact qew (k 0) w
    · exact Nat.le_trans (Nat.le_succ _) (qew (k _) { w with drawn:=w.drawn+1 })
theorem qex (w:World) (c:Sys):w.drawn≤(w.sys c).2.drawn:=by
  have h:=qew (Kernel.perform c w.os) w
  unfold World.sys
  split
  · exact Nat.le_refl _
  · rename_i heq;rw [heq] at h;exact h
theorem qey (w:World) (a:Addr) (n:Nat):(w.freeze a n).drawn=w.drawn:=by unfold World.freeze;split<;>rfl
theorem qez {α:Type} {P:Program}:∀ (s:Sem α) (w w':World) (v:α),s.run P w=.ok v w'→w.drawn≤w'.drawn:=by
  intro s
  induction s with
  | pure a=>intro w w' v h;unfold Sem.run at h;cases h;exact Nat.le_refl _
  | load m a k ih =>
    intro w w' v h;unfold Sem.run at h
    split at h
    · exact ih _ _ _ _ h
    · split at h
      · exact ih _ _ _ _ h
      · cases h
  | store m a u k ih =>
    intro w w' v h
    cases u<;>simp only [Sem.run] at h
    all_goals first
      | (cases h;done)
      | (split at h
         · split at h
           · cases h
           · have:=ih _ _ _ h;exact this
         · split at h
           · have := ih _ _ _ h
             rw [qev ‹_›] at this;exact this
           · cases h)
  | new o k ih=>intro w w' v h;unfold Sem.run at h;have:=ih _ _ _ _ h;exact this
  | shape r k ih=>intro w w' v h;unfold Sem.run at h;have:=ih _ _ _ _ h;exact this
  | freeze a n k ih=>intro w w' v h;unfold Sem.run at h;have:=ih _ _ _ h;rwa [qey] at this
  | frozen a k ih=>intro w w' v h;unfold Sem.run at h;have:=ih _ _ _ _ h;exact this
  | getObj r k ih =>
    intro w w' v h;unfold Sem.run at h
    split at h
    · cases h
    · exact ih _ _ _ _ h
    · cases h
  | setObj r o k ih =>
    intro w w' v h;unfold Sem.run at h
    split at h
    · cases h
    · have:=ih _ _ _ h;exact this
    · cases h
  | choose q k ih =>
    intro w w' v h;unfold Sem.run at h
    split at h
    · exact ih _ _ _ _ h
    · exact Nat.le_trans (Nat.le_succ _) (ih _ _ _ _ h)
  | sys c k ih=>intro w w' v h;unfold Sem.run at h;exact Nat.le_trans (qex w c) (ih _ _ _ _ h)
  | program k ih=>intro w w' v h;unfold Sem.run at h;have:=ih _ _ _ _ h;exact this
  | mark m k ih=>intro w w' v h;unfold Sem.run at h;exact ih _ _ _ h
  | halt h0=>intro w w' v h;unfold Sem.run at h;cases h
section
variable {P:Program}
theorem qf0 {w:World} {o:Oper} {a:Act} {K:Act→World→Prop} {Q:Exit→Act→World→Prop} (s x:Operand) (t:TypeId)
    (ho:o.op=.call { callee:=.builtin .append,args:=#[s,x],argTypes:=#[t,t] })
    (base:Nat) (e:TypeId) (i:TypeInfo) (z:Value) (size bytes:Nat) (ht:P.underlying t=some (.slice e)) (hi:P.info? e=some i) (hz:i.zero=some z)
    (hsize:i.size=size) (hby:i.bytes=bytes) (hzs:z.cells.size=size) (hsz:0<size)
    (v:Value) (n:Nat) (xs:List Value) (hs:a.eval s=v) (hown:w.ownsRow base e size v n xs)
    (ad:Addr) (m c:Nat) (news:List Value) (hx:a.eval x=.slice (some ad) m c) (hl:news.length=m*size) (hnews:∀ j u,news[j]?=some u→w.cell? (ad.add j)=some u) (h1:∀ u∈news,u.oneCell'=true)
    (h63:n+m≤maxLen) (hbytes:(n+m)*bytes≤140737488355328) (hbase:base≤w.heap.size)
    (h:∀ v' w',w'.ownsRow base e size v' (n+m) (xs++news)→w.grownBy w' v.ownBlock→w.drawn≤w'.drawn→K (a.put o.dst v') w'):o.wp P a w K Q:=by
  obtain ⟨v',w',hr,h2,h3,h4⟩:=run_append_own (P:=P) w base t o.type e i z size bytes ht hi hz hsize hby hzs hsz v n xs hown ad m c news hl hnews h1 h63 hbytes hbase
  unfold Oper.wp execOp
  simp only [ho,resolve,invoke,builtin,Sem.run_bind,Sem.run_pure,Result.andThen_ok,List.map_toArray,List.map_cons,List.map_nil,hs,hx,hr]
  exact h v' w' h2 h3 (qez _ _ _ _ hr)
theorem qf1 {w:World} {ops:Array Oper} {rest:List Oper} {o:Oper} {a:Act} {Q:Exit→Act→World→Prop} (hgd:o.guard=none) (s x:Operand) (t:TypeId)
    (ho:o.op=.call { callee:=.builtin .append,args:=#[s,x],argTypes:=#[t,t] })
    (base:Nat) (e:TypeId) (i:TypeInfo) (z:Value) (size bytes:Nat) (ht:P.underlying t=some (.slice e)) (hi:P.info? e=some i) (hz:i.zero=some z)
    (hsize:i.size=size) (hby:i.bytes=bytes) (hzs:z.cells.size=size) (hsz:0<size)
    (v:Value) (n:Nat) (xs:List Value) (hs:a.eval s=v) (hown:w.ownsRow base e size v n xs)
    (ad:Addr) (m c:Nat) (news:List Value) (hx:a.eval x=.slice (some ad) m c) (hl:news.length=m*size) (hnews:∀ j u,news[j]?=some u→w.cell? (ad.add j)=some u) (h1:∀ u∈news,u.oneCell'=true)
    (h63:n+m≤maxLen) (hbytes:(n+m)*bytes≤140737488355328) (hbase:base≤w.heap.size)
    (h:∀ v' w',w'.ownsRow base e size v' (n+m) (xs++news)→w.grownBy w' v.ownBlock→w.drawn≤w'.drawn→wpList P ops Q rest (a.put o.dst v') w'):wpList P ops Q (o :: rest) a w :=
  wpList_plain hgd fun _ hK=>qf0 s x t ho base e i z size bytes ht hi hz hsize hby hzs hsz v n xs hs hown ad m c news hx hl hnews h1 h63 hbytes hbase fun v' w' h2 h3 h4=>hK _ _ (h v' w' h2 h3 h4)
end
end Go

namespace Go
open RowKit
def Sl (w:World) (size:Nat) (A:Option Addr) (n c:Nat) (xs:List Value):Prop :=
  n≤c∧xs.length=n*size∧(0<n→∃ b o,A=some ⟨b,o,none⟩∧b<w.heap.size∧∀ j u,xs[j]?=some u→w.cell? ⟨b,o+j,none⟩=some u)
def Own (w:World) (base:Nat) (e:TypeId) (size:Nat) (A:Option Addr) (n c:Nat) (xs:List Value):Prop:=w.ownsRow base e size (.slice A n c) n xs
structure SlT (P:Program) (t e:TypeId) (z:Value) (size bytes:Nat):Prop where
  und:P.underlying t=some (.slice e)
  info:(P.info? e).map (fun i=>(i.zero,i.size,i.bytes))=some (some z,size,bytes)
  zs:z.cells.size=size
  pos:0<size
  small:bytes≤1024

section
variable {w:World} {size n c:Nat} {A:Option Addr} {xs:List Value}
theorem Sl.len (h:Sl w size A n c xs):xs.length=n*size:=h.2.1
theorem Sl.cap (h:Sl w size A n c xs):n≤c:=h.1
theorem Sl.ext (h:Sl w size A n c xs) (x:Beyond):Sl (ext w x) size A n c xs :=
  ⟨h.1,h.2.1,fun hn=>by
    obtain ⟨b,o,rfl,hb,hc⟩:=h.2.2 hn
    exact ⟨b,o,rfl,by rw [q94];omega,fun j u hu=>by rw [qc2 w x b _ hb];exact hc j u hu⟩⟩
theorem Sl.bel {w':World} (h:Sl w size A n c xs) (hb:Bel w w'):Sl w' size A n c xs:=by
  obtain ⟨x,rfl⟩:=ext_of hb;exact h.ext x
theorem Sl.nil_ (w:World) (size c:Nat) (A:Option Addr):Sl w size A 0 c []:=⟨Nat.zero_le _,by simp,fun h=>absurd h (by omega)⟩
theorem Sl.take (h:Sl w size A n c xs) {k:Nat} (hk:k≤n):Sl w size A k c (xs.take (k*size)) :=
  ⟨Nat.le_trans hk h.1,by rw [List.length_take,h.2.1];exact Nat.min_eq_left (Nat.mul_le_mul_right _ hk),fun hn=>by
    obtain ⟨b,o,rfl,hb,hc⟩:=h.2.2 (by omega)
    refine ⟨b,o,rfl,hb,fun j u hu=>hc j u ?_⟩
    rw [List.getElem?_take] at hu
    split at hu
    · exact hu
    · cases hu⟩
theorem Sl.cell {b o:Nat} (h:Sl w size (some ⟨b,o,none⟩) n c xs) {j:Nat} {u:Value} (hu:xs[j]?=some u):w.cell? ⟨b,o+j,none⟩=some u:=by
  have hl:j<xs.length:=(List.getElem?_eq_some_iff.1 hu).1
  have hn:0<n:=Nat.pos_of_ne_zero fun h0=>by rw [h.2.1,h0,Nat.zero_mul] at hl;omega
  obtain ⟨b',o',hA,_,hc⟩:=h.2.2 hn
  injection hA with hA
  injection hA with h1 h2
  subst h1 h2
  exact hc j u hu
theorem Sl.at_ (h:Sl w size A n c xs) (hn:0<n):∃ b o,A=some ⟨b,o,none⟩∧b<w.heap.size:=by
  obtain ⟨b,o,hA,hb,_⟩:=h.2.2 hn;exact ⟨b,o,hA,hb⟩
theorem Own.nil_ (w:World) (base:Nat) (e:TypeId) (size:Nat):Own w base e size none 0 0 []:=World.ownsRow_nil w base e size
theorem Own.len {base:Nat} {e:TypeId} (h:Own w base e size A n c xs):xs.length=n*size:=h.1
theorem Own.cap {base:Nat} {e:TypeId} (h:Own w base e size A n c xs):n≤c:=by
  rcases h.2 with ⟨h1,h2⟩ | ⟨g,cap,cur,hv,_,_,hnc,_⟩
  · omega
  · injection hv with _ _ h3;omega
theorem Own.at_ {base:Nat} {e:TypeId} (h:Own w base e size A n c xs) (hn:0<n):∃ g,A=some ⟨g,0,none⟩∧base≤g∧g<w.heap.size:=by
  rcases h.2 with ⟨h1,h2⟩ | ⟨g,cap,cur,hv,hg,hh,_⟩
  · omega
  · injection hv with h1
    refine ⟨g,h1,hg,Nat.lt_of_not_le fun hle=>?_⟩
    rw [Array.getElem?_eq_none hle] at hh;cases hh
theorem Own.block {base:Nat} {e:TypeId} (h:Own w base e size A n c xs):(Value.slice A n c).ownBlock=none ∨ ∃ g,(Value.slice A n c).ownBlock=some g∧base≤g∧g<w.heap.size:=by
  cases hA:(Value.slice A n c).ownBlock with
  | none=>exact .inl rfl
  | some g=>exact .inr ⟨g,rfl,World.ownsRow.lt h g hA⟩
theorem Own.sl {base:Nat} {e:TypeId} (h:Own w base e size A n c xs):Sl w size A n c xs :=
  ⟨h.cap,h.len,fun hn=>by
    obtain ⟨g,rfl,_,hlt⟩:=h.at_ hn
    refine ⟨g,0,rfl,hlt,fun j u hu=>?_⟩
    have hj:j<n*size:=by rw [← h.len];exact (List.getElem?_eq_some_iff.1 hu).1
    rw [Nat.zero_add,World.ownsRow.cellAt h j hj,hu]⟩
theorem Own.bel {base:Nat} {e:TypeId} {w':World} (h:Own w base e size A n c xs) (hb:Bel w w'):Own w' base e size A n c xs:=by
  refine World.ownsRow.kept (row:=none) h ⟨hb.os,hb.tape,hb.output,hb.size,fun k hk _=>hb.block k hk⟩ ?_
  rcases h.block with h0 | ⟨g,h0,_⟩
  · exact .inl h0
  · exact .inr (by rw [h0];exact fun e=>by cases e)
theorem Own.ext {base:Nat} {e:TypeId} (h:Own w base e size A n c xs) (x:Beyond):Own (ext w x) base e size A n c xs:=h.bel (q98 w x)
theorem Own.alloc {base:Nat} {e:TypeId} (h:Own w base e size A n c xs) (ob:Obj):Own (w.alloc ob) base e size A n c xs:=h.bel ((Bel.refl w).alloc ob)
theorem Own.base_le {base base':Nat} {e:TypeId} (h:Own w base e size A n c xs) (hb:base'≤base):Own w base' e size A n c xs:=by
  obtain ⟨h1,h2⟩:=h
  refine ⟨h1,?_⟩
  rcases h2 with h2 | ⟨g,cap,cur,hv,hg,r⟩
  · exact .inl h2
  · exact .inr ⟨g,cap,cur,hv,Nat.le_trans hb hg,r⟩
end

section
variable {P:Program} {ops:Array Oper} {rest:List Oper} {o:Oper} {a:Act} {Q:Exit→Act→World→Prop}
theorem qf3 {t e:TypeId} {z:Value} {size bytes:Nat} (hT:SlT P t e z size bytes) {wB W:World} (hb:Bel wB W)
    {kl kc:IntKind} {n:Nat} (hlen:n≤4294967296)
    (hgd:o.guard=none) (l c:Operand) (ho:o.op=.makeSlice t l c) (hl:a.eval l=.int kl n) (hc:a.eval c=.int kc n)
    (h:∀ g y,wB.heap.size≤g→Own (ext wB y) wB.heap.size e size (some ⟨g,0,none⟩) n n (madeCells z.cells (n*size)).toList→wpList P ops Q rest (a.put o.dst (.slice (some ⟨g,0,none⟩) n n)) (ext wB y)):wpList P ops Q (o :: rest) a W:=by
  obtain ⟨i,hi,hz0,hz1,hz2⟩:=info_parts hT.info
  have hby:i.bytes*n≤281474976710656:=by rw [hz2,Nat.mul_comm];exact Nat.le_trans (Nat.mul_le_mul hlen hT.small) (by decide)
  obtain ⟨w',hrun,hown,hg⟩:=run_make_full (P:=P) W wB.heap.size t e i z size hT.und hi hz0 hz1 kl kc n hby (Nat.le_trans hlen (by unfold maxLen;decide)) hb.size
  have hbel:Bel wB w':=hb.grown hg (fun k hk=>by cases hk) (qez _ _ _ _ hrun)
  refine wpList_plain hgd fun K hK=>?_
  unfold Oper.wp
  simp [execOp,ho,hl,hc,hrun,Result.andThen]
  obtain ⟨y,rfl⟩:=ext_of hbel
  exact hK _ _ (h _ y hb.size hown)
end
end Go
namespace Go
open RowKit
theorem qf5 {w:World} {base:Nat} {e:TypeId} {size g n c:Nat} {xs:List Value} (h:Own w base e size (some ⟨g,0,none⟩) n c xs) {j:Nat} {u:Value} (hu:xs[j]?=some u):w.cell? ⟨g,j,none⟩=some u:=by
  rw [World.ownsRow.cellAt h j (by rw [← h.len];exact (List.getElem?_eq_some_iff.1 hu).1),hu]
theorem qf6 {w:World} {base:Nat} {e:TypeId} {size g n c:Nat} {xs:List Value} (h:Own w base e size (some ⟨g,0,none⟩) n c xs) (j:Nat):w.frozen? ⟨g,j,none⟩=false:=World.ownsRow.frozenAt h j
end Go

namespace Go
open RowKit
section
variable {P:Program}
end
end Go

namespace Go
open RowKit
theorem qfi {w W0 W:World} {base:Nat} {e:TypeId} {size n c:Nat} {A:Option Addr} {xs:List Value} (hb:Bel w W) (h:Own W0 base e size A n c xs) (h0:Bel W0 W) (hbase:w.heap.size≤base):∃ x,W=ext w x∧Own (ext w x) w.heap.size e size A n c xs:=by
  obtain ⟨x,hx⟩:=ext_of hb
  exact ⟨x,hx,by rw [← hx];exact (h.bel h0).base_le hbase⟩
end Go

namespace Go
end Go

namespace Go
open RowKit
section
variable {P:Program} {ops:Array Oper} {rest:List Oper} {o:Oper} {a:Act} {Q:Exit→Act→World→Prop}
end
end Go

namespace Go
open RowKit
section
variable {P:Program}
end
end Go

namespace Go
open RowKit
section
variable {P:Program} {ops:Array Oper} {rest:List Oper} {o:Oper} {a:Act} {Q:Exit→Act→World→Prop}
theorem qft {t e:TypeId} {z:Value} {size bytes:Nat} (hT:SlT P t e z size bytes) {wB W0 W1 W:World} (hb:Bel wB W)
    {A:Option Addr} {n c:Nat} {xs:List Value} (hown:Own W0 wB.heap.size e size A n c xs) (hb0:Bel W0 W)
    {A1:Option Addr} {m c':Nat} {news:List Value} (hsrc:Sl W1 size A1 m c' news) (hb1:Bel W1 W) (h1:∀ u∈news,u.oneCell'=true) (hnil:A1=none→c'=0) (hlen:n+m≤4294967296)
    (hgd:o.guard=none) (s x:Operand) (ho:o.op=.call { callee:=.builtin .append,args:=#[s,x],argTypes:=#[t,t] })
    (hs:a.eval s=.slice A n c) (hx:a.eval x=.slice A1 m c')
    (h:∀ A' c'' y,Own (ext wB y) wB.heap.size e size A' (n+m) c'' (xs++news)→wpList P ops Q rest (a.put o.dst (.slice A' (n+m) c'')) (ext wB y)):wpList P ops Q (o :: rest) a W:=by
  obtain ⟨i,hi,hz0,hz1,hz2⟩:=info_parts hT.info
  have hown':=hown.bel hb0
  cases A1 with
  | none =>
    have hm:m=0:=Nat.eq_zero_of_not_pos fun hp=>by obtain ⟨b,o',hA,_⟩:=hsrc.at_ hp;cases hA
    subst hm
    obtain rfl:=hnil rfl
    have hn:news=[]:=List.eq_nil_of_length_eq_zero (by simpa using hsrc.len)
    subst hn
    obtain ⟨y,rfl⟩:=ext_of hb
    have hrun:=run_append_owned_none (P:=P) (w:=ext wB y) wB.heap.size t o.type e i size hT.und hi _ n xs hown'
    refine wpList_plain hgd fun K hK=>?_
    unfold Oper.wp execOp
    simp only [ho,resolve,invoke,builtin,Sem.run_bind,Sem.run_pure,Result.andThen_ok,List.map_toArray,List.map_cons,List.map_nil,hs,hx,hrun]
    exact hK _ _ (h A c y (by simpa using hown'))
  | some ad =>
    have hby:(n+m)*bytes≤140737488355328:=Nat.le_trans (Nat.mul_le_mul hlen hT.small) (by decide)
    have hsrc':=hsrc.bel hb1
    refine qf1 hgd s x t ho wB.heap.size e i z size bytes hT.und hi hz0 hz1 hz2 hT.zs hT.pos _ n xs hs hown' ad m c' news hx hsrc'.len
      (fun j u hu=>?_) h1 (Nat.le_trans hlen (by unfold maxLen;decide)) hby hb.size fun v' w' hown2 hg hmono=>?_
    · have hl : j < news.length := (List.getElem?_eq_some_iff.1 hu).1
      have hp:0<m:=Nat.pos_of_ne_zero fun h0=>by rw [hsrc'.len,h0,Nat.zero_mul] at hl;omega
      obtain ⟨b,o',hA,_⟩:=hsrc'.at_ hp
      injection hA with hA
      subst hA
      have hj:=hsrc'.cell hu
      unfold Addr.add
      split
      · rename_i h0;rw [h0] at hj;exact hj
      · exact hj
    · have hbel:Bel wB w':=hb.grown hg (fun k hk=>by
        rcases hown'.block with h0 | ⟨g,h0,hge,_⟩
        · rw [h0] at hk;cases hk
        · rw [h0] at hk;injection hk with hk;omega) hmono
      obtain ⟨y,rfl⟩:=ext_of hbel
      have hv:∃ A' c'',v'=.slice A' (n+m) c'':=by
        rcases hown2.2 with ⟨hv,hn⟩ | ⟨g,cap,cur,hv,_⟩
        · exact ⟨none,0,by rw [hv,hn]⟩
        · exact ⟨_,_,hv⟩
      obtain ⟨A',c'',rfl⟩:=hv
      exact h A' c'' y hown2
end
end Go

namespace Go
theorem qfu {w W0 W:World} {base:Nat} {e:TypeId} {size n c:Nat} {A:Option Addr} {xs:List Value} (hb:Bel w W) (h:Own W0 base e size A n c xs) (h0:Bel W0 W):∃ y,W=ext w y∧Own (ext w y) base e size A n c xs:=by
  obtain ⟨y,hy⟩:=ext_of hb
  exact ⟨y,hy,by rw [← hy];exact h.bel h0⟩
end Go

namespace Go
open RowKit
section
variable {P:Program} {ops:Array Oper} {rest:List Oper} {o:Oper} {a:Act} {Q:Exit→Act→World→Prop}
end
end Go

namespace Go
open RowKit
theorem qfw {wB W:World} (hb:Bel wB W) (cs:Array Value) (e:TypeId) (size n g:Nat) (hg:g=W.heap.size) (hn:n≤maxLen) (hs:cs.size=n*size):Own (W.alloc (.cells cs e)) wB.heap.size e size (some ⟨g,0,none⟩) n n cs.toList:=by
  subst hg
  exact World.ownsRow_lit W cs n hb.size hn hs
theorem qg0 {V V':World} {y:Beyond} {base:Nat} {e:TypeId} {size n c:Nat} {A:Option Addr} {xs:List Value} (hs:V.heap.size=V'.heap.size) (h:Own (ext V y) base e size A n c xs) (hb:V.heap.size≤base):Own (ext V' y) base e size A n c xs:=by
  obtain ⟨h1,h2⟩:=h
  refine ⟨h1,?_⟩
  rcases h2 with h2 | ⟨g,cap,cur,hv,hg,hh,r⟩
  · exact .inl h2
  · refine .inr ⟨g, cap, cur, hv, hg, ?_, r⟩
    have e1:(ext V y).heap=V.heap++y.objs:=by unfold ext;rfl
    have e2:(ext V' y).heap=V'.heap++y.objs:=by unfold ext;rfl
    rw [e1,Array.getElem?_append_right (by omega)] at hh
    rw [e2,Array.getElem?_append_right (by omega),← hs]
    exact hh
section
variable {P:Program} {ops:Array Oper} {rest:List Oper} {o:Oper} {a:Act} {Q:Exit→Act→World→Prop}
theorem qg1 {w:World} {j:Nat} {want:Bool} (hg:o.guard=some (j,want)) (hy:yielded ops a.tmps j=some want) (h:wpList P ops Q ({ o with guard:=none } :: rest) a w):wpList P ops Q (o :: rest) a w:=by
  have h1:Region.wanted o (yielded ops a.tmps)=true:=by simp [Region.wanted,hg,hy]
  unfold wpList at h ⊢
  rw [if_pos h1]
  exact h
theorem qg3 {t e:TypeId} {z:Value} {size bytes:Nat} (hT:SlT P t e z size bytes) {wB W1 W:World} (hb:Bel wB W)
    {A1:Option Addr} {m c':Nat} {news:List Value} (hsrc:Sl W1 size A1 m c' news) (hb1:Bel W1 W) (h1:∀ u∈news,u.oneCell'=true) (hnil:A1=none→c'=0) (hlen:m≤4294967296)
    (hgd:o.guard=none) (s x:Operand) (ho:o.op=.call { callee:=.builtin .append,args:=#[s,x],argTypes:=#[t,t] }) {g:Nat}
    (hs:a.eval s=.slice (some ⟨g,0,none⟩) 0 0) (hx:a.eval x=.slice A1 m c') (hg:g=W.heap.size)
    (h:∀ A' c'' y,Own (ext wB y) wB.heap.size e size A' m c'' news→wpList P ops Q rest (a.put o.dst (.slice A' m c'')) (ext wB y)):wpList P ops Q (o :: rest) a (W.alloc (.cells #[] e)):=by
  refine qft hT (hb.alloc _) (qfw hb #[] e size 0 g hg (Nat.zero_le _) (by simp)) (Bel.refl _) hsrc (hb1.alloc _) h1 hnil (by omega) hgd s x ho hs hx fun A' c'' y hown=>?_
  rw [Nat.zero_add] at hown ⊢
  exact h A' c'' y hown
end
end Go

namespace Go
open RowKit
section
variable {α:Type} {cells:α→List Value} {k:Nat}
theorem qg4 (hk:∀ a,(cells a).length=k) (l:List α):(l.flatMap cells).length=l.length*k:=by
  induction l with
  | nil=>simp
  | cons x l ih=>rw [List.flatMap_cons,List.length_append,ih,hk,List.length_cons,Nat.add_mul];omega
theorem qg5 (hk:∀ a,(cells a).length=k) {l:List α} {i:Nat} {x:α} (h:l[i]?=some x) (j:Nat) (hj:j<k):(l.flatMap cells)[i*k+j]?=(cells x)[j]?:=by
  induction l generalizing i with
  | nil=>simp at h
  | cons y l ih =>
    rw [List.flatMap_cons]
    cases i with
    | zero =>
      simp only [List.getElem?_cons_zero,Option.some.injEq] at h
      subst h
      rw [Nat.zero_mul,Nat.zero_add,List.getElem?_append_left (by rw [hk];exact hj)]
    | succ i =>
      rw [List.getElem?_append_right (by rw [hk,Nat.add_mul];omega),hk]
      have e:(i+1)*k+j - k=i*k+j:=by rw [Nat.add_mul];omega
      rw [e];exact ih (by simpa using h)
theorem qg9 (h:∀ a,∀ u∈cells a,u.oneCell'=true) (l:List α):∀ u∈l.flatMap cells,u.oneCell'=true:=by
  intro u hu
  obtain ⟨x,_,hx⟩:=List.mem_flatMap.1 hu
  exact h x u hx
theorem qga {w:World} {b o n c i:Nat} {l:List α} {x:α} (hk:∀ a,(cells a).length=k) (h:Sl w k (some ⟨b,o,none⟩) n c (l.flatMap cells)) (hx:l[i]?=some x) {j:Nat} {u:Value} (hj:(cells x)[j]?=some u):w.cell? ⟨b,o+i*k+j,none⟩=some u:=by
  have hjk:j<k:=by rw [← hk x];exact (List.getElem?_eq_some_iff.1 hj).1
  have:=h.cell (j:=i*k+j) (u:=u) (by rw [qg5 hk hx j hjk];exact hj)
  rwa [← Nat.add_assoc] at this
end
end Go
namespace Go
section
variable {α:Type} {cells:α→List Value} {k:Nat}
end
end Go
namespace Go
theorem qge (w:World) (e:TypeId) (size:Nat) (B:Nat):∃ x,w=ext w x∧Own (ext w x) B e size none 0 0 []:=by
  obtain ⟨x,hx⟩:=ext_of (Bel.refl w)
  exact ⟨x,hx,Own.nil_ _ _ _ _⟩
end Go

namespace Go.Pel
open Go
structure Pt where
  id:Int
  a:Int
  b:Int
  deriving DecidableEq
def Pt.zero:Pt:=⟨0,0,0⟩
def Pt.cells (p:Pt):List Value:=[.int .i64 p.id,.int .i64 p.a,.int .i64 p.b]
def Pt.chk (p:Pt):Int:=qe0 p.id p.a p.b
structure Pt.Fits (p:Pt):Prop where
  id:-9223372036854775808≤p.id∧p.id≤9223372036854775807
  a:-9223372036854775808≤p.a∧p.a≤9223372036854775807
  b:-9223372036854775808≤p.b∧p.b≤9223372036854775807
def vp (l:List Pt):List Value:=l.flatMap Pt.cells
theorem qgf (p:Pt):p.cells.length=3:=rfl
theorem qgg (p:Pt):∀ u∈p.cells,u.oneCell'=true:=by
  intro u hu
  simp only [Pt.cells,List.mem_cons,List.not_mem_nil,or_false] at hu
  rcases hu with rfl | rfl | rfl<;>rfl
theorem qgh (l:List Pt):∀ u∈vp l,u.oneCell'=true:=qg9 qgg l
theorem qgi (l:List Pt):(vp l).length=l.length*3:=qg4 qgf l
theorem qgl {w:World} {b o n c i:Nat} {l:List Pt} {p:Pt} (h:Sl w 3 (some ⟨b,o,none⟩) n c (vp l)) (hx:l[i]?=some p) :
    w.cell? ⟨b,o+i*3,none⟩=some (.int .i64 p.id)∧w.cell? ⟨b,o+i*3+1,none⟩=some (.int .i64 p.a)∧w.cell? ⟨b,o+i*3+2,none⟩=some (.int .i64 p.b) :=
  ⟨qga qgf h hx (j:=0) rfl,qga qgf h hx (j:=1) rfl,qga qgf h hx (j:=2) rfl⟩
def incB:List Pt→Bool
  | []=>true
  | [_]=>true
  | p :: q :: r=>decide (p.id<q.id)&&incB (q :: r)
theorem qgm (l:List Pt):incB l=true ↔ ∀ (i:Nat) (p q:Pt),l[i]?=some p→l[i+1]?=some q→p.id<q.id:=by
  induction l with
  | nil=>simp [incB]
  | cons x l ih =>
    cases l with
    | nil=>simp [incB]
    | cons y r =>
      simp only [incB,Bool.and_eq_true,decide_eq_true_eq,ih]
      constructor
      · rintro ⟨h0, h⟩ i p q hp hq
        cases i with
        | zero=>simp at hp hq;rw [← hp,← hq];exact h0
        | succ i=>exact h i p q (by simpa using hp) (by simpa using hq)
      · intro h
        exact ⟨h 0 x y rfl rfl,fun i p q hp hq=>h (i+1) p q (by simpa using hp) (by simpa using hq)⟩
theorem qgn {l:List Pt} (h:incB l=true) {i j:Nat} (hij:i<j) {p q:Pt} (hp:l[i]?=some p) (hq:l[j]?=some q):p.id<q.id:=by
  induction j generalizing q with
  | zero=>omega
  | succ j ih =>
    rcases Nat.lt_or_ge i j with hlt | hge
    · have hjl : j < l.length := by have := (List.getElem?_eq_some_iff.1 hq).1; omega
      obtain ⟨m,hm⟩:∃ m,l[j]?=some m:=⟨_,List.getElem?_eq_getElem hjl⟩
      have h1:=ih hlt hm
      have h2:=(qgm l).1 h j m q hm hq
      omega
    · obtain rfl : i = j := by omega
      exact (qgm l).1 h i p q hp hq
def qgo (l:List Pt):Int:=if 64<l.length then 4 else if ∀ p∈l,p.chk=0 then (if incB l then 0 else 32) else 8
theorem qgp {l:List Pt} (h:64<l.length):qgo l=4:=if_pos h
theorem qgq {l:List Pt} (h:l.length≤64) {p:Pt} (hp:p∈l) (hc:p.chk≠0):qgo l=8:=by
  unfold qgo;rw [if_neg (by omega),if_neg];intro h';exact hc (h' p hp)
theorem qgr {l:List Pt} (h:l.length≤64) (hc:∀ p∈l,p.chk=0) (hi:incB l=false):qgo l=32:=by
  unfold qgo;rw [if_neg (by omega),if_pos hc,hi];rfl
theorem qgs {l:List Pt} (h:l.length≤64) (hc:∀ p∈l,p.chk=0) (hi:incB l=true):qgo l=0:=by
  unfold qgo;rw [if_neg (by omega),if_pos hc,hi];rfl
theorem qgt {l:List Pt} (h:qgo l=0):l.length≤64∧(∀ p∈l,p.chk=0)∧incB l=true:=by
  unfold qgo at h
  split at h
  · omega
  · split at h
    · rename_i h1 h2
      refine ⟨by omega,h2,?_⟩
      split at h
      · assumption
      · omega
    · omega
theorem qgv {p:Pt} (h:p.chk=0):0≤p.id∧p.id≤65535∧-1048576≤p.a∧p.a≤1048576∧-1048576≤p.b∧p.b≤1048576:=qe4 h
theorem qgw (p:Pt):p.chk=0∨p.chk=8:=qe3 _ _ _
def lowB (l:List Pt) (id:Int):Nat:=(l.takeWhile fun p=>decide (p.id<id)).length
theorem qgy {l:List Pt} {id:Int} {k:Nat} (hk:k≤l.length) (h1:∀ (i:Nat) (p:Pt),i<k→l[i]?=some p→p.id<id) (h2:∀ p,l[k]?=some p→id≤p.id):lowB l id=k:=by
  unfold lowB
  induction l generalizing k with
  | nil=>simp at hk;simp [hk]
  | cons x l ih =>
    cases k with
    | zero =>
      have:=h2 x rfl
      rw [List.takeWhile_cons_of_neg (by simp;omega)];rfl
    | succ k =>
      have:=h1 0 x (by omega) rfl
      rw [List.takeWhile_cons_of_pos (by simpa using this),List.length_cons,ih (by simpa using hk) (fun i p hi hp=>h1 (i+1) p (by omega) (by simpa using hp)) (fun p hp=>h2 p (by simpa using hp))]
theorem qgz {l:List Pt} {id:Int} {i:Nat} {p:Pt} (hi:i<lowB l id) (hp:l[i]?=some p):p.id<id:=by
  induction l generalizing i with
  | nil=>simp at hp
  | cons x l ih =>
    unfold lowB at hi
    by_cases hx:x.id<id
    · rw [List.takeWhile_cons_of_pos (by simpa using hx), List.length_cons] at hi
      cases i with
      | zero=>simp at hp;subst hp;exact hx
      | succ i=>exact ih (i:=i) (by unfold lowB;omega) (by simpa using hp)
    · rw [List.takeWhile_cons_of_neg (by simpa using hx)] at hi
      simp at hi
theorem qh0 {l:List Pt} {id:Int} {p:Pt} (hp:l[lowB l id]?=some p):id≤p.id:=by
  unfold lowB at hp
  induction l with
  | nil=>simp at hp
  | cons x l ih =>
    by_cases hx:x.id<id
    · rw [List.takeWhile_cons_of_pos (by simpa using hx), List.length_cons] at hp
      exact ih (by simpa using hp)
    · rw [List.takeWhile_cons_of_neg (by simpa using hx)] at hp
      simp at hp
      subst hp;omega
def hasB (l:List Pt) (id:Int):Bool:=l.any fun p=>decide (p.id=id)
theorem qh1 {l:List Pt} (h:incB l=true) (id:Int):hasB l id=(match l[lowB l id]? with | some p=>decide (p.id=id) | none=>false):=by
  cases hb:l[lowB l id]? with
  | none =>
    have hlen:l.length≤lowB l id:=by simpa using hb
    unfold hasB
    rw [List.any_eq_false]
    intro p hp
    obtain ⟨i,hi⟩:=List.getElem?_of_mem hp
    have:i<l.length:=(List.getElem?_eq_some_iff.1 hi).1
    have:=qgz (id:=id) (by omega) hi
    simp;omega
  | some q =>
    have hge:=qh0 hb
    simp only
    by_cases hq:q.id=id
    · rw [decide_eq_true hq]
      unfold hasB
      rw [List.any_eq_true]
      exact ⟨q,List.mem_of_getElem? hb,by simpa using hq⟩
    · rw [decide_eq_false hq]
      unfold hasB
      rw [List.any_eq_false]
      intro p hp
      obtain ⟨i,hi⟩:=List.getElem?_of_mem hp
      rcases Nat.lt_trichotomy i (lowB l id) with hlt | rfl | hgt
      · have:=qgz hlt hi;simp;omega
      · rw [hb] at hi;obtain rfl:=Option.some.inj hi;simpa using hq
      · have:=qgn h hgt hb hi;simp;omega
def atI (l:List Pt) (id:Int):Int:=if hasB l id then ((l.takeWhile fun p=>decide (p.id≠id)).length:Int) else -1
theorem qh2 {l:List Pt} {id:Int} (h:hasB l id=false):atI l id=-1:=by unfold atI;rw [h];rfl
theorem qh3 {l:List Pt} {id:Int} {k:Nat} {p:Pt} (h1:∀ (i:Nat) (p:Pt),i<k→l[i]?=some p→p.id≠id) (hk:l[k]?=some p) (hp:p.id=id):atI l id=k:=by
  have hb:hasB l id=true:=by
    unfold hasB;rw [List.any_eq_true];exact ⟨p,List.mem_of_getElem? hk,by simpa using hp⟩
  unfold atI;rw [hb,if_pos rfl]
  congr 1
  clear hb
  induction l generalizing k with
  | nil=>simp at hk
  | cons x l ih =>
    cases k with
    | zero =>
      simp at hk;subst hk
      rw [List.takeWhile_cons_of_neg (by simpa using hp)];rfl
    | succ k =>
      have:=h1 0 x (by omega) rfl
      rw [List.takeWhile_cons_of_pos (by simpa using this),List.length_cons,ih (k:=k) (fun i p hi hp=>h1 (i+1) p (by omega) (by simpa using hp)) (by simpa using hk)]
theorem qh4 {l:List Pt} {id:Int} (h:∀ (i:Nat) (p:Pt),l[i]?=some p→p.id≠id):hasB l id=false:=by
  unfold hasB;rw [List.any_eq_false];intro p hp
  obtain ⟨i,hi⟩:=List.getElem?_of_mem hp
  simpa using h i p hi
theorem qh5 {l:List Pt} (h:incB l=true) {id:Int} (hb:hasB l id=true):atI l id=lowB l id∧∃ p,l[lowB l id]?=some p∧p.id=id:=by
  rw [qh1 h] at hb
  cases hq:l[lowB l id]? with
  | none=>rw [hq] at hb;cases hb
  | some q =>
    rw [hq] at hb
    simp only [decide_eq_true_eq] at hb
    exact ⟨qh3 (fun i p hi hp=>by have:=qgz (l:=l) (id:=id) hi hp;omega) hq hb,q,rfl,hb⟩
def qh6 (l:List Pt) (id:Int):Pt×Int:=if qgo l≠0 then (Pt.zero,qgo l) else if hasB l id then (l.getD (lowB l id) Pt.zero,0) else (Pt.zero,6)
def vi (l:List Int):List Value:=l.map (Value.int .i64)
end Go.Pel

namespace Go
open RowKit
def Row (w:World) (base:Nat) (e:TypeId) (size g cap:Nat) (cur:List Value):Prop :=
  base≤g∧w.heap[g]?=some (.cells cur.toArray e (0,0))∧cap≤maxLen∧cur.length=cap*size
section
variable {w:World} {base:Nat} {e:TypeId} {size g cap:Nat} {cur:List Value}
theorem Row.lt (h:Row w base e size g cap cur):g<w.heap.size:=(Array.getElem?_eq_some_iff.1 h.2.1).1
theorem Row.len (h:Row w base e size g cap cur):cur.length=cap*size:=h.2.2.2
theorem Row.own (h:Row w base e size g cap cur) {n:Nat} (hn:n≤cap):Own w base e size (some ⟨g,0,none⟩) n cap (cur.take (n*size)) :=
  ⟨by rw [List.length_take,h.len];exact Nat.min_eq_left (Nat.mul_le_mul_right _ hn),.inr ⟨g,cap,cur.toArray,rfl,h.1,h.2.1,hn,h.2.2.1,by simpa using h.len,by simp⟩⟩
theorem Own.row {A:Option Addr} {n c:Nat} {xs:List Value} (h:Own w base e size A n c xs):(A=none∧n=0∧c=0∧xs=[]) ∨ ∃ g cur,A=some ⟨g,0,none⟩∧Row w base e size g c cur∧n≤c∧cur.take (n*size)=xs:=by
  rcases h.2 with ⟨hv,hn⟩ | ⟨g,cap,cur,hv,hb,hg,hnc,hm,hs,ht⟩
  · injection hv with h1 h2 h3
    refine .inl ⟨h1,hn,h3,List.eq_nil_of_length_eq_zero ?_⟩
    rw [h.1,hn,Nat.zero_mul]
  · injection hv with h1 h2 h3
    subst h1 h3
    exact .inr ⟨g,cur.toList,rfl,⟨hb,by simpa using hg,hm,by simpa using hs⟩,hnc,ht⟩
theorem Row.cell (h:Row w base e size g cap cur) {j:Nat} {u:Value} (hu:cur[j]?=some u):w.cell? ⟨g,j,none⟩=some u:=by
  simp [World.cell?,h.2.1,hu]
theorem Row.frozen (h:Row w base e size g cap cur) (j:Nat):w.frozen? ⟨g,j,none⟩=false:=by
  simp [World.frozen?,h.2.1]
theorem Row.sl (h:Row w base e size g cap cur) {i n c:Nat} {xs:List Value} (hi:i+n≤cap) (hnc:n≤c) (hx:(cur.drop (i*size)).take (n*size)=xs):Sl w size (some ⟨g,i*size,none⟩) n c xs:=by
  have hle:i*size+n*size≤cap*size:=by rw [← Nat.add_mul];exact Nat.mul_le_mul_right _ hi
  refine ⟨hnc,by rw [← hx,List.length_take,List.length_drop,h.len];omega,fun _=>⟨g,_,rfl,h.lt,fun j u hu=>h.cell ?_⟩⟩
  rw [← hx,List.getElem?_take] at hu
  split at hu
  · rwa [List.getElem?_drop] at hu
  · cases hu
theorem Row.set (h:Row w base e size g cap cur) {cur':List Value} (hs:cur'.length=cur.length):Row (w.setRow g cur'.toArray) base e size g cap cur' :=
  ⟨h.1,setRow_heap w g _ _ e _ h.2.1,h.2.2.1,by rw [hs];exact h.len⟩
theorem Row.bel {w':World} (h:Row w base e size g cap cur) (hb:Bel w w'):Row w' base e size g cap cur:=⟨h.1,by rw [hb.block g h.lt];exact h.2.1,h.2.2⟩
theorem Row.base_le {base':Nat} (h:Row w base e size g cap cur) (hb:base'≤base):Row w base' e size g cap cur:=⟨Nat.le_trans hb h.1,h.2⟩
end
section
variable {P:Program} {ops:Array Oper} {rest:List Oper} {o:Oper} {a:Act} {Q:Exit→Act→World→Prop}
end
end Go

namespace Go.Tx
open Go Go.Pel
def ofP (p:Int×Int×Int×Unit):Pt:=⟨p.1,p.2.1,p.2.2.1⟩
def toP (p:Pt):Int×Int×Int×Unit:=(p.id,p.a,p.b,())
def toI (n:Int):Int×Unit:=(n,())
abbrev RP:Row:=.int .i64 (.int .i64 (.int .i64 .nil))
abbrev RI:Row:=.int .i64 .nil
def qhk:(τ:Row)→den τ→List Value
  | .nil,_=>[]
  | .int k r,x=>.int k x.1 :: qhk r x.2
  | .bool r,x=>.bool x.1 :: qhk r x.2
  | .sl _ r,x=>qhk r x.2
def qhl (τ:Row):List (den τ)→List Value
  | []=>[]
  | x :: xs=>qhk τ x++qhl τ xs
abbrev TP:Type:=Int×Int×Int×Unit
abbrev TI1:Type:=Int×Unit
theorem qhm (l:List TP):qhl RP l=vp (l.map ofP):=by
  induction l with
  | nil=>rfl
  | cons p l ih=>show qhk RP p++qhl RP l=vp (ofP p :: l.map ofP);rw [ih];rfl
theorem qhn (l:List TI1):qhl RI l=vi (l.map fun x=>x.1):=by
  induction l with
  | nil=>rfl
  | cons p l ih=>show qhk RI p++qhl RI l=vi (p.1 :: l.map fun x=>x.1);rw [ih];rfl
theorem qho:∀ (τ:Row),qck τ=true→∀ x:den τ,(qhk τ x).length=τ.size
  | .nil,_,_=>rfl
  | .int _ r,h,x=>by rw [qhk,List.length_cons,qho r h,Row.size]
  | .bool r,h,x=>by rw [qhk,List.length_cons,qho r h,Row.size]
  | .sl _ r,h,_=>by cases h
theorem qhp {τ:Row} (h:qck τ=true):∀ xs:List (den τ),(qhl τ xs).length=xs.length*τ.size
  | []=>by simp [qhl]
  | x :: xs=>by rw [qhl,List.length_append,qho τ h,qhp h xs,List.length_cons,Nat.succ_mul];omega
theorem qhq {η:Emb}:∀ (τ:Row),qck τ=true→∀ x:den τ,VRs η (split τ x) (qhk τ x)
  | .nil,_,_=>VRs.nil
  | .int _ r,h,x=>VRs.cons (.int _ _) (qhq r h x.2)
  | .bool r,h,x=>VRs.cons (.bool _) (qhq r h x.2)
  | .sl _ r,h,_=>by cases h
theorem qhr {η:Emb} {τ:Row} (h:qck τ=true):∀ xs:List (den τ),VRs η (flat τ xs) (qhl τ xs)
  | []=>VRs.nil
  | x :: xs=>(qhq τ h x).append (qhr h xs)
theorem qhs {φ:Nat→Option Obj} {w:World} (hφ:∀ k ob,φ k=some ob→w.heap[k]?=some ob) {b:Nat}:∀ (τ:Row),qck τ=true→∀ (x:den τ) (o:Nat),RowF φ τ x b o→∀ (j:Nat) u,(qhk τ x)[j]?=some u→w.cell? ⟨b,o+j,none⟩=some u
  | .nil,_,_,_,_,j,u,hu=>by simp [qhk] at hu
  | .int k r, h, x, o, hr, j, u, hu => by
    cases j with
    | zero =>
      simp only [qhk,List.getElem?_cons_zero,Option.some.injEq] at hu;subst hu
      obtain ⟨ob,h1,h2⟩:=hr.1
      rw [Nat.add_zero,qf,hφ b ob h1];exact h2
    | succ j=>have:=qhs hφ r h x.2 (o+1) hr.2 j u (by simpa [qhk] using hu);rwa [show o+1+j=o+(j+1) by omega] at this
  | .bool r, h, x, o, hr, j, u, hu => by
    cases j with
    | zero =>
      simp only [qhk,List.getElem?_cons_zero,Option.some.injEq] at hu;subst hu
      obtain ⟨ob,h1,h2⟩:=hr.1
      rw [Nat.add_zero,qf,hφ b ob h1];exact h2
    | succ j=>have:=qhs hφ r h x.2 (o+1) hr.2 j u (by simpa [qhk] using hu);rwa [show o+1+j=o+(j+1) by omega] at this
  | .sl _ r,h,_,_,_,_,_,_=>by cases h
theorem qht {τ:Row} (h:qck τ=true) (hs:0<τ.size) (xs:List (den τ)) (j:Nat) (hj:j<xs.length*τ.size):∃ x,xs[j / τ.size]?=some x∧(qhl τ xs)[j]?=(qhk τ x)[j % τ.size]?:=by
  induction xs generalizing j with
  | nil=>simp at hj
  | cons y ys ih =>
    rw [qhl]
    have hl:=qho τ h y
    rcases Nat.lt_or_ge j τ.size with hlt | hge
    · refine ⟨y, by rw [Nat.div_eq_of_lt hlt]; rfl, ?_⟩
      rw [List.getElem?_append_left (by omega),Nat.mod_eq_of_lt hlt]
    · rw [List.length_cons, Nat.succ_mul] at hj
      obtain ⟨x,h1,h2⟩:=ih (j - τ.size) (by omega)
      have e1:j / τ.size=(j - τ.size) / τ.size+1:=by
        conv=>lhs;rw [show j=(j - τ.size)+τ.size by omega,Nat.add_div_right _ hs]
      have e2:j % τ.size=(j - τ.size) % τ.size:=by
        conv=>lhs;rw [show j=(j - τ.size)+τ.size by omega,Nat.add_mod_right]
      exact ⟨x,by rw [e1,List.getElem?_cons_succ];exact h1,by rw [List.getElem?_append_right (by omega),hl,h2,e2]⟩
theorem qhu {φ:Nat→Option Obj} {w:World} (hφ:∀ k ob,φ k=some ob→w.heap[k]?=some ob) {τ:Row} (h:qck τ=true) (hs:0<τ.size) {xs:List (den τ)} {v:Value} (hv:VR (Emb.fro φ) (.fz τ xs) v):∃ A c,v=.slice A xs.length c∧Sl w τ.size A xs.length c (qhl τ xs)∧(A=none→c=0):=by
  cases hv with
  | fz hf =>
    obtain ⟨A,c,rfl,h1,h0,h2⟩:=hf
    refine ⟨A,c,rfl,⟨h1,qhp h xs,fun hn=>?_⟩,h0⟩
    obtain ⟨b,o,rfl,hr0⟩:=h2 0 _ (q2r hn)
    refine ⟨b,o,rfl,?_,fun j u hu=>?_⟩
    · have hlen := qho τ h (q2q τ xs 0)
      obtain ⟨u,hu⟩:∃ u,(qhk τ (q2q τ xs 0))[0]?=some u:=⟨_,List.getElem?_eq_getElem (by omega)⟩
      have:=qhs hφ τ h _ _ hr0 0 u hu
      unfold World.cell? at this
      cases hb:w.heap[b]? with
      | none=>rw [show w.heap[(⟨b,o+0*τ.size+0,none⟩:Addr).block]?=w.heap[b]? from rfl,hb] at this;cases this
      | some ob=>exact (Array.getElem?_eq_some_iff.1 hb).1
    · have hj : j < xs.length * τ.size := by rw [← qhp h xs]; exact (List.getElem?_eq_some_iff.1 hu).1
      obtain ⟨x,h3,h4⟩:=qht h hs xs j hj
      obtain ⟨b',o',e1,e2⟩:=h2 _ x h3
      injection e1 with e1;injection e1 with e3 e4;subst e3 e4
      have:=qhs hφ τ h x _ e2 (j % τ.size) u (by rw [← h4];exact hu)
      rwa [Nat.add_assoc,Nat.mul_comm,Nat.div_add_mod] at this
theorem qhv {φ:Nat→Option Obj} {w:World} (hφ:∀ k ob,φ k=some ob→w.heap[k]?=some ob) {l:List TP} {v:Value} (hv:VR (Emb.fro φ) (.agg [.fz RP l]) v):∃ A c,v=.agg #[.slice A (l.map ofP).length c]∧Sl w 3 A (l.map ofP).length c (vp (l.map ofP))∧(A=none→c=0):=by
  cases hv with
  | agg hl hh =>
    obtain ⟨u,rfl,hu⟩:=vrs1 ⟨hl,hh⟩
    obtain ⟨A,c,rfl,h1,h2⟩:=qhu hφ (τ:=RP) rfl (by decide) hu
    have e1:(l.map ofP).length=l.length:=List.length_map ofP
    have h3:Sl w 3 A l.length c (vp (l.map ofP)):=by rw [← qhm l];exact h1
    exact ⟨A,c,by rw [e1];rfl,by rw [e1];exact h3,h2⟩
theorem qhw {φ:Nat→Option Obj} {w:World} (hφ:∀ k ob,φ k=some ob→w.heap[k]?=some ob) {l:List TI1} {v:Value} (hv:VR (Emb.fro φ) (.fz RI l) v):∃ A c,v=.slice A (l.map fun x=>x.1).length c∧Sl w 1 A (l.map fun x=>x.1).length c (vi (l.map fun x=>x.1))∧(A=none→c=0):=by
  obtain ⟨A,c,rfl,h1,h2⟩:=qhu hφ (τ:=RI) rfl (by decide) hv
  have e1:(l.map fun x=>x.1).length=l.length:=List.length_map _
  have h3:Sl w 1 A l.length c (vi (l.map fun x=>x.1)):=by rw [← qhn l];exact h1
  exact ⟨A,c,by rw [e1];rfl,by rw [e1];exact h3,h2⟩
theorem qhx {η:Emb} {p:den RP} {v:Value} (hv:VR η (.agg (split RP p)) v):v=.agg #[.int .i64 (ofP p).id,.int .i64 (ofP p).a,.int .i64 (ofP p).b]:=by
  cases hv with
  | agg hl hh =>
    obtain ⟨u1,vs,rfl,h1,h2⟩:=VRs.uncons (c:=.int .i64 p.1) ⟨hl,hh⟩
    obtain ⟨u2,vs,rfl,h3,h4⟩:=VRs.uncons (c:=.int .i64 p.2.1) h2
    obtain ⟨u3,rfl,h5⟩:=vrs1 (c:=.int .i64 p.2.2.1) h4
    cases h1;cases h3;cases h5;rfl
theorem qhy {η:Emb} {a b:Int} {v:Value} (hv:VR η (.agg [.int .i64 a,.int .i64 b]) v):v=.agg #[.int .i64 a,.int .i64 b]:=by
  cases hv with
  | agg hl hh =>
    obtain ⟨u1,u2,rfl,h1,h2⟩:=vrs2 ⟨hl,hh⟩
    cases h1;cases h2;rfl
theorem qhz {η:Emb} {k:IntKind} {a:Int} {v:Value} (hv:VR η (.int k a) v):v=.int k a:=by cases hv;rfl
theorem VR.tupL {η:Emb} {cs:List LV} {vs:List Value} (h:VRs η cs vs):VR η (.tup cs) (.tuple vs.toArray):=.tup h.1 h.2
theorem VR.aggL {η:Emb} {cs:List LV} {vs:List Value} (h:VRs η cs vs):VR η (.agg cs) (.agg vs.toArray):=.agg h.1 h.2
def qi1 (w:World) (φ:Nat→Option Obj) (er:LV×List Ob) (e:Ending) (w':World):Prop:=∃ v' η',e=.returned v'∧VR η' er.1 v'∧(∀ M,HR M η' (q7c er.2) w')∧Fr w (noK φ) (q7c er.2) η' w'
theorem qi2 {w:World} {φ:Nat→Option Obj} (hφ:∀ k ob,φ k=some ob→w.heap[k]?=some ob) {l:LV} {v:Value} (hv:VR (Emb.fro φ) l v) (y:Beyond):qi1 w φ (l,[]) (.returned v) (ext w y):=by
  have hb:=q98 w y
  have h2:∀ k ob,φ k=some ob→(ext w y).heap[k]?=some ob:=fun k ob hk=>by rw [hb.block k (Array.getElem?_eq_some_iff.1 (hφ k ob hk)).1];exact hφ k ob hk
  exact ⟨v,_,rfl,hv,q90 h2,hb.size,fun k hk=>hb.block k hk,(fun k ⟨b,ob,L,h,_⟩=>by rw [q7f] at h;simp at h),fun _ _ h=>h,fun _ _ h=>.inl h,hb.os,hb.tape,hb.output,hb.mono,fun _ _ h=>h.elim⟩
theorem qi3 {w:World} {φ:Nat→Option Obj} (hφ:∀ k ob,φ k=some ob→w.heap[k]?=some ob) {τ:Row} (hp:qck τ=true) {xs:List (den τ)} {n:Nat} (hn:xs.length=n) {A:Option Addr} {c:Nat} {e:TypeId} {y:Beyond} {vals:List Value} (ho:Own (ext w y) w.heap.size e τ.size A n c vals) (hvals:qhl τ xs=vals)
    {l:LV} {v:Value} (hv:∀ η:Emb,η.hdr 0=some (.slice A n c)→VR η l v):qi1 w φ (l,[.rows τ xs]) (.returned v) (ext w y):=by
  subst hn
  have hb:=q98 w y
  have h2:∀ k ob,φ k=some ob→(ext w y).heap[k]?=some ob:=fun k ob hk=>by rw [hb.block k (Array.getElem?_eq_some_iff.1 (hφ k ob hk)).1];exact hφ k ob hk
  have hlt:∀ k ob,φ k=some ob→k<w.heap.size:=fun k ob hk=>(Array.getElem?_eq_some_iff.1 (hφ k ob hk)).1
  have get0:∀ (b:Nat) ob,(q7c [Ob.rows τ xs]).get b=some ob→b=0∧ob=.rows τ xs:=fun b ob h=>by
    rw [q7f] at h
    cases b with
    | zero=>simp at h;exact ⟨rfl,h.symm⟩
    | succ b=>simp at h
  rcases Own.row ho with ⟨rfl,hn,rfl,hx⟩ | ⟨g,cur,rfl,hrow,hnc,htake⟩
  · have hxs : xs = [] := List.eq_nil_of_length_eq_zero hn
    subst hxs
    refine ⟨v,⟨fun _=>none,fun b=>if b=0 then some (.slice none 0 0) else none,φ⟩,rfl,hv _ rfl,fun M=>⟨fun b hb1 _=>?_,fun b ob h=>?_,fun b ob h=>?_,fun b1 b2 o1 o2 L1 L2 _ _ h=>(by cases h),h2,fun k ⟨b,ob,L,_,h,_⟩=>(by cases h),fun b v h=>?_⟩,
      hb.size,fun k hk=>hb.block k hk,fun k ⟨b,ob,L,_,h,_⟩=>(by cases h),fun _ _ h=>h,fun _ _ h=>.inl h,hb.os,hb.tape,hb.output,hb.mono,fun _ _ h=>h.elim⟩
    · have hb1' : 1 ≤ b := hb1
      exact ⟨rfl,if_neg (by omega)⟩
    · obtain ⟨rfl,_⟩:=get0 b ob h;exact Nat.zero_lt_one
    · obtain ⟨rfl, rfl⟩ := get0 b ob h
      exact .none (A:=none) rfl rfl
    · simp only at h
      split at h
      · injection h with h;exact ⟨_,_,_,h.symm⟩
      · cases h
  · have hg : (ext w y).heap[g]? = some (.cells cur.toArray e (0, 0)) := hrow.2.1
    have hlen:=hrow.len
    have hlb:∀ (k:Nat),LB (q7c [Ob.rows τ xs]) ⟨fun b=>if b=0 then some ⟨g,0,c*τ.size⟩ else none,fun b=>if b=0 then some (.slice (some ⟨g,0,none⟩) xs.length c) else none,φ⟩ k→k=g:=fun k ⟨b,ob,L,hb1,h,hk⟩=>by
      obtain ⟨rfl,_⟩:=get0 b ob hb1
      simp only [if_pos] at h
      injection h with h;subst h;exact hk.symm
    refine ⟨v,⟨fun b=>if b=0 then some ⟨g,0,c*τ.size⟩ else none,fun b=>if b=0 then some (.slice (some ⟨g,0,none⟩) xs.length c) else none,φ⟩,rfl,hv _ rfl,fun M=>⟨fun b hb1 _=>?_,fun b ob h=>?_,fun b ob h=>?_,fun b1 b2 o1 o2 L1 L2 h1 h2 _ _ _=>?_,h2,fun k hk=>?_,fun b v h=>?_⟩,
      hb.size,fun k hk=>hb.block k hk,fun k hk=>?_,fun _ _ h=>h,fun _ _ h=>.inl h,hb.os,hb.tape,hb.output,hb.mono,fun _ _ h=>h.elim⟩
    · have hb1' : 1 ≤ b := hb1
      exact ⟨if_neg (by omega),if_neg (by omega)⟩
    · obtain ⟨rfl,_⟩:=get0 b ob h;exact Nat.zero_lt_one
    · obtain ⟨rfl, rfl⟩ := get0 b ob h
      refine .rows (L:=⟨g,0,c*τ.size⟩) (c:=c) rfl ⟨hrow.lt,?_,fun j _ hj=>⟨?_,hrow.frozen j⟩,fun j cc hc=>?_⟩ rfl hnc (by simp)
      · rw [q9];show 0+_≤c*τ.size;have:=Nat.mul_le_mul_right τ.size hnc;omega
      · have hj' : j < cur.length := by rw [hlen]; exact hj
        have:=hrow.cell (List.getElem?_eq_getElem hj')
        rw [this];rfl
      · obtain ⟨u, h3, h4⟩ := (qhr (η := ⟨fun b => if b = 0 then some ⟨g, 0, c * τ.size⟩ else none, fun b => if b = 0 then some (.slice (some ⟨g, 0, none⟩) xs.length c) else none, φ⟩) hp xs).get hc
        refine ⟨u,?_,h4⟩
        rw [hvals,← htake,List.getElem?_take] at h3
        split at h3
        · have:=hrow.cell h3;simpa using this
        · cases h3
    · obtain ⟨rfl, _⟩ := get0 b1 o1 h1
      obtain ⟨rfl,_⟩:=get0 b2 o2 h2
      rfl
    · have hk := hlb k hk
      subst hk
      show φ k=none
      cases hf:φ k with
      | none=>rfl
      | some ob=>have:=hlt k ob hf;have:=hrow.1;omega
    · simp only at h
      split at h
      · injection h with h;exact ⟨_,_,_,h.symm⟩
      · cases h
    · have hk:=hlb k hk;subst hk;exact hrow.1
theorem qi4 {P : Program} {S : Spec} (hb : ∃ fn c, P.funcs[S.g]? = some fn ∧ fn.body = some c ∧ ¬ fn.name = "runtime.NumGoroutine")
    (h:∀ x r,S.F x=some r→∀ (w:World) (φ:Nat→Option Obj) (vs:List Value),(∀ k ob,φ k=some ob→w.heap[k]?=some ob)→VRs (Emb.fro φ) (q8y S.τs x) vs→Calls P S.g vs.toArray w (qi1 w φ (S.enc r))):COK P S:=⟨h,hb⟩
theorem qi5 {P : Program} {g : Nat} {fn : Func} (h1 : P.funcs[g]? = some fn) (h2 : fn.body.isSome = true) (h3 : (fn.name == "runtime.NumGoroutine") = false) : ∃ fn c, P.funcs[g]? = some fn ∧ fn.body = some c ∧ ¬ fn.name = "runtime.NumGoroutine" := by
  obtain ⟨c,hc⟩:=Option.isSome_iff_exists.1 h2
  exact ⟨fn,c,h1,hc,by simpa using h3⟩
end Go.Tx

namespace Go
open RowKit
section
variable {P:Program} {ops:Array Oper} {o:Oper} {a:Act} {K:Act→World→Prop} {Q:Exit→Act→World→Prop} {E:Prop}
end
end Go
namespace Go
open RowKit
section
variable {P:Program} {ops:Array Oper} {rest:List Oper} {o:Oper} {a:Act} {Q:Exit→Act→World→Prop}
end
end Go
namespace Go
open RowKit
end Go

namespace Go
open RowKit
section
variable {P:Program} {ops:Array Oper} {o:Oper} {a:Act} {K:Act→World→Prop} {Q:Exit→Act→World→Prop} {E:Prop}
end
end Go
