/- Walks of the references; the orders agree; examples. -/
import Derived.TacticsInMore
import Derived.LoopIn
import Derived.LoopNIn
import Derived.Shelf.SlSortCmp.NoneTotal
import Derived.Test.YtfjjdnaggblaaaaGreatProg
import Derived.Shelf.Spec.BitsCarry
import Derived.Test.YtfjjdnaggblaaaaGreatGf
set_option linter.unusedSimpArgs false
set_option linter.unusedVariables false
namespace Go.Tx
open Go
def q1z6 {α X:Type} (step:α->X->Option X):List α->X->Option X
 | [],x=>some x
 | a::l,x=>match step a x with | some y=>q1z6 step l y | none=>none
theorem q1z7 {α X:Type} (step:α->X->Option X):∀ (l:List α) (a:α) (m:List α) (x z:X),q1z6 step (l++a::m) x=some z->∃ y y',q1z6 step l x=some y/\step a y=some y'/\q1z6 step (l ++ [a]) x=some y'
 | [], a, m, x, z, h => by
  rw[List.nil_append,q1z6]at h
  cases hs:step a x with
  | none=>rw[hs]at h;cases h
  | some y'=>exact⟨x,y',rfl,hs,by rw[List.nil_append,q1z6,hs];rfl⟩
 | b::l, a, m, x, z, h => by
  rw[List.cons_append,q1z6]at h
  cases hs:step b x with
  | none=>rw[hs]at h;cases h
  | some x1 =>
   rw[hs]at h
   obtain⟨y,y',h1,h2,h3⟩:=q1z7 step l a m x1 z h
   exact⟨y,y',by rw[q1z6,hs];exact h1,h2,by rw[List.cons_append,q1z6,hs];exact h3⟩
def SX (w0:World) (φ0:Fz0) (tm:List (Nat×LV)) (ob:List Ob) (a:Act) (kb r:Nat) (T:Nat->Prop) (W:World):Prop :=
 ∃ η,(∀ M,HR M η (q8m ob) W)/\(∀ n l,(n,l)∈tm->∃ v,a.tmps[n]?=some v/\VR η l v)/\Fr w0 φ0 (q8m ob) η W/\(∀ k,k=kb∨k=r∨k=r+1∨T k->¬ LB (q8m ob) η k/\η.fz k=none)/\r+1<W.heap.size/\∀ k,T k->r+1<k/\k<W.heap.size
theorem SX.only {w0:World} {φ0:Fz0} {tm:List (Nat×LV)} {ob:List Ob} {a:Act} {kb r b:Nat} {T:Nat->Prop} {A B:World} (h:SX w0 φ0 tm ob a kb r T A) (hb:OnlyB b A B) (hbb:b=kb∨b=r∨b=r+1) (h0:w0.heap.size<=b∨φ0.X b) (hk:∀ o,¬ φ0.K b o):SX w0 φ0 tm ob a kb r T B:=by
 obtain⟨η,h1,h2,h3,h4,h5,h6⟩:=h
 obtain⟨g1,g2⟩:=h4 b (hbb.imp id (Or.imp id .inl))
 exact⟨η,fun M=>(h1 M).only hb g1 g2,h2,h3.only hb h0 hk,h4,by rw[hb.size];exact h5,fun k hk=>by rw[hb.size];exact h6 k hk⟩
theorem HR.grow {M:Nat} {η:Emb} {H:LH} {A B:World} (h:HR M η H A) (hb:Bel A B):HR M η H B where
 dom:=h.dom
 lt:=h.lt
 live k ob hk:=(h.live k ob hk).move (Emb.le_refl _) rfl hb.size fun L hL=>hb.block _ ((h.live k ob hk).lt hL)
 inj:=h.inj
 fz k ob hk:=by rw[hb.block k (Array.getElem?_eq_some_iff.1 (h.fz k ob hk)).1];exact h.fz k ob hk
 sep:=h.sep
 ok:=h.ok
theorem Fr.grow {w0:World} {φ0:Fz0} {H:LH} {η:Emb} {A B:World} (h:Fr w0 φ0 H η A) (hb:Bel A B):Fr w0 φ0 H η B where
 size:=Nat.le_trans h.size hb.size
 same k hlt hx:=(hb.block k (Nat.lt_of_lt_of_le hlt h.size)).trans (h.same k hlt hx)
 lb:=h.lb
 fz0:=h.fz0
 fzn:=h.fzn
 os:=hb.os.trans h.os
 tape:=hb.tape.trans h.tape
 output:=hb.output.trans h.output
 drawn:=Nat.le_trans h.drawn hb.mono
 kp k o ho:=by
  obtain⟨h1,h2,h3⟩:=h.kp k o ho
  exact⟨(hb.block k (Array.getElem?_eq_some_iff.1 h1).1).trans h1,h2,h3⟩
theorem SX.grow {w0:World} {φ0:Fz0} {tm:List (Nat×LV)} {ob:List Ob} {a:Act} {kb r:Nat} {T:Nat->Prop} {A B:World} (h:SX w0 φ0 tm ob a kb r T A) (hb:Bel A B):SX w0 φ0 tm ob a kb r (fun k=>T k∨(A.heap.size<=k/\k<B.heap.size)) B:=by
 obtain⟨η,h1,h2,h3,h4,h5,h6⟩:=h
 refine⟨η,fun M=>(h1 M).grow hb,h2,h3.grow hb,fun k hk=>?_,Nat.lt_of_lt_of_le h5 hb.size,fun k hk=>?_⟩
 ·rcases hk with hk | hk | hk | hk | ⟨hk,_⟩
  ·exact h4 k (.inl hk)
  ·exact h4 k (.inr (.inl hk))
  ·exact h4 k (.inr (.inr (.inl hk)))
  ·exact h4 k (.inr (.inr (.inr hk)))
  ·refine⟨fun⟨j,ob',L,hj,hL,he⟩=>?_,?_⟩
   ·have:=((h1 0).live j ob' hj).lt hL;omega
   ·cases hf:η.fz k with
    | none=>rfl
    | some o=>have:=(Array.getElem?_eq_some_iff.1 ((h1 0).fz k o hf)).1;omega
 ·rcases hk with hk | ⟨hk,hk2⟩
  ·obtain⟨g1,g2⟩:=h6 k hk
   exact⟨g1,Nat.lt_of_lt_of_le g2 hb.size⟩
  ·exact⟨by omega,hk2⟩
theorem q1z8 {F:Fence} {P:Program} {c:Code} {Q:Exit->Act->World->Prop} {a:Act} {w:World} (hd:F.depth=none) {n m:Nat} (h:c.wpIn F n P Q a w):c.wpIn F m P Q a w:=fun b k cs hro hb _=>h b k cs hro hb fun d hd'=>by rw[hd]at hd';cases hd'
section
variable {P:Program} {N:Nat} {w0:World} {φ0:Fz0} {Q:Exit->Act->World->Prop}
def q1z9 {α X Z:Type} (A:α->X->Option Z) (B:Z->Option X) (x:α) (y:X):Option X:=Option.bind (A x y) B
theorem q1za {α X Z:Type} {g:Operand} {ps:Array Tmp} {assign body:Code} {a:Act} {w:World} {gf kb:Nat} {lb:Array Value} {encs:α->Array Value} {xs:List α} {A:α->X->Option Z} {B:Z->Option X} {S1:Z->St} {x0 z:X} {tmE:X->List (Nat×LV)} {keys:List Nat} {obs:X->List Ob} {xp:α->List (Nat×LV)} {ψ:Nat->Option Obj}
    (hkeys:∀ y n l,(n,l)∈tmE y->n∈keys) (hg:a.eval g=.func (.func gf) #[] lb) (eg:∀ args w,(callFunc gf args).run P w=.ok (.enter gf args) w)
    (hseq:SeqT Fence.wide 3 P gf lb encs kb (fun A B=>B.heap[kb]?=A.heap[kb]?/\∀ k ob,ψ k=some ob->A.heap[k]?=some ob->B.heap[k]?=some ob) xs w) (hkb:kb<w.heap.size) (hkb0:w0.heap.size<=kb∨φ0.X kb) (hkK:∀ o,¬ φ0.K kb o) (hps:∀ x,(encs x).size=ps.size)
    (hD:φ0.D=a.defers)
    (hE:∃ η,(∀ M,HR M η (q8m (obs x0)) w)/\(∀ n l,(n,l)∈tmE x0->∃ v,a.tmps[n]?=some v/\VR η l v)/\Fr w0 φ0 (q8m (obs x0)) η w/\¬ LB (q8m (obs x0)) η kb/\η.fz kb=none/\∀ k ob,ψ k=some ob->η.fz k=some ob)
    (hxp:∀ (x:α) (t:Array Value),N<=t.size->N<=((ps.zip (encs x)).foldl (fun t (p,v)=>t.setIfInBounds p v) t).size/\(∀ n l,(n,l)∈xp x->∃ v,((ps.zip (encs x)).foldl (fun t (p,v)=>t.setIfInBounds p v) t)[n]?=some v/\∀ η,VR η l v)/\∀ n,n∈keys->((ps.zip (encs x)).foldl (fun t (p,v)=>t.setIfInBounds p v) t)[n]?=t[n]?)
    (hassign:∀ (l:Nat) (V:Nat->Value->Prop) (φ':Fz0) (Q:Exit->Act->World->Prop) x y z,A x y=some z->φ'.D=[]->(∀ n v,V n v->n∈keys)->CnI V w0 φ' N (S1 z) Q .normal->RunI l P V w0 φ' N assign ⟨xp x++tmE y,obs y⟩ Q)
    (hbody:∀ (l:Nat) (V:Nat->Value->Prop) (φ':Fz0) (Q:Exit->Act->World->Prop) z y',B z=some y'->φ'.D=[]->(∀ n v,V n v->n∈keys)->CnI V w0 φ' N ⟨tmE y',obs y'⟩ Q .normal->RunI l P V w0 φ' N body (S1 z) Q)
    (hz:q1z6 (q1z9 A B) xs x0=some z)
    (hN:N<=a.tmps.size) (hkv:∀ n,n∈keys->∃ v,a.tmps[n]?=some v)
    (hk:∀ a' W,SS w0 ⟨φ0.φ,fun k o=>φ0.K k o∨(k=w.heap.size/\o=.deferred (some [])),⟨.collected w.heap.size,#[]⟩::φ0.D,φ0.X⟩ N ⟨tmE z,obs z⟩ a' W->Q .normal a' W) :
    (Code.rangeFunc g ps assign body).wp P Q a w:=by
  obtain⟨η0,e1,e2,e3,e4,e5,e6⟩:=hE
  have e7:Fr w0 ⟨η0.fz,φ0.K,φ0.D,φ0.X⟩ (q8m (obs x0)) η0 w:=⟨e3.size,e3.same,e3.lb,fun _ _ h=>h,fun _ _ h=>.inl h,e3.os,e3.tape,e3.output,e3.drawn,e3.kp⟩
  have hKlt:∀ k o,φ0.K k o->k<w.heap.size:=fun k o h=>(Array.getElem?_eq_some_iff.1 (e3.kp k o h).1).1
  have hsz:=e3.size
  have hLlt:∀ k,LB (q8m (obs x0)) η0 k->k<w.heap.size:=fun k ⟨b,ob,L,h1,h2,h3⟩=>by rw[← h3];exact ((e1 0).live b ob h1).lt h2
  have hflt:∀ k ob,η0.fz k=some ob->k<w.heap.size:=fun k ob h=>(Array.getElem?_eq_some_iff.1 ((e1 0).fz k ob h)).1
  have hnone:∀ k,w.heap.size<=k->η0.fz k=none:=fun k hk=>by
    cases h:η0.fz k with
    | none=>rfl
    | some ob=>have:=hflt k ob h;omega
  refine wpIn_wide.1 (q1z5 (F:=Fence.wide) (n:=4) rfl (by decide) hg trivial eg hseq hkb (fun h k=>⟨k.1.trans h.1,fun j ob hj hA=>k.2 j ob hj (h.2 j ob hj hA)⟩) (fun W o=>⟨World.putObj_heap_other (by omega),fun j ob hj hA=>(World.putObj_heap_other (by have:=hflt j ob (e6 j ob hj);omega)).trans hA⟩) hps
    (fun T pre W=>∃ y,q1z6 (q1z9 A B) pre x0=some y/\SX w0 ⟨η0.fz,φ0.K,φ0.D,φ0.X⟩ (tmE y) (obs y) a kb w.heap.size T W)
    (fun T s A B ⟨y,h1,h2⟩ h=>⟨y,h1,h2.only h (.inl rfl) hkb0 hkK⟩) (fun T s A B ⟨y,h1,h2⟩ h=>⟨y,h1,h2.grow h⟩)
    (fun T s A o ⟨y,h1,h2⟩ hl=>⟨y,h1,h2.only (OnlyB.put A _ o) (.inr (.inr rfl)) (.inl (by omega)) fun o h=>by have:=hKlt _ _ h;omega⟩)
    (fun T s A k ⟨y,h1,η,_,_,_,_,_,h6⟩ hk=>by have:=(h6 k hk).1;omega)
    ?_ ?_ ?_)
  · intro r
    refine⟨x0,rfl,η0,fun M=>?_,e2,?_,fun k hk=>?_,by simp,fun k hk=>hk.elim⟩
    · exact (e1 M).grow (((Bel.refl w).alloc _).alloc _)
    · exact e7.grow (((Bel.refl w).alloc _).alloc _)
    · rcases hk with rfl | rfl | rfl | hk
      · exact⟨e4,e5⟩
      · exact⟨fun h=>by have:=hLlt _ h;omega,hnone _ (Nat.le_refl _)⟩
      · exact⟨fun h=>by have:=hLlt _ h;omega,hnone _ (by omega)⟩
      · exact hk.elim
  · rintro l T pre x rest W o o' hxs ⟨y,hy,η,f1,f2,f3,f4,f5,f6⟩ hl hd
    obtain⟨y1,y',g1,g2,g3⟩:=q1z7 (q1z9 A B) pre x rest x0 z (by rw[← hxs];exact hz)
    rw[hy]at g1;injection g1 with g1;subst g1
    obtain⟨z1,hA,hB⟩:=Option.bind_eq_some_iff.1 g2
    have hkW:kb<W.heap.size:=by omega
    obtain⟨q,hq⟩:∃ q,W.heap[kb]?=some q:=⟨_,Array.getElem?_eq_getElem hkW⟩
    obtain⟨c1,c2,c3⟩:=hxp x a.tmps hN
    let φA:Obj->Fz0:=fun o=>⟨η0.fz,fun k u=>φ0.K k u∨(k=kb/\u=q)∨(k=w.heap.size/\u=o')∨(k=w.heap.size+1/\u=o)∨(T k/\W.heap[k]?=some u),[],φ0.X⟩
    have hSS:SS w0 (φA o) N ⟨xp x++tmE y,obs y⟩ { tmps:=(ps.zip (encs x)).foldl (fun t (p,v)=>t.setIfInBounds p v) a.tmps,defers:=[] } W:=by
      refine⟨⟨η,f1,fun n lv hn=>?_,⟨f3.size,f3.same,f3.lb,f3.fz0,f3.fzn,f3.os,f3.tape,f3.output,f3.drawn,fun k u hu=>?_⟩⟩,c1,rfl⟩
      · rcases List.mem_append.1 hn with hn | hn
        · obtain⟨v,v1,v2⟩:=c2 n lv hn
          exact⟨v,v1,v2 η⟩
        · obtain⟨u,u1,u2⟩:=f2 n lv hn
          exact⟨u,(c3 n (hkeys y n lv hn)).trans u1,u2⟩
      · rcases hu with hu | ⟨rfl,rfl⟩ | ⟨rfl,rfl⟩ | ⟨rfl,rfl⟩ | ⟨hu,hu2⟩
        · exact f3.kp k u hu
        · exact⟨hq,f4 k (.inl rfl)⟩
        · exact⟨hd,f4 _ (.inr (.inl rfl))⟩
        · exact⟨hl,f4 _ (.inr (.inr (.inl rfl)))⟩
        · exact⟨hu2,f4 k (.inr (.inr (.inr hu)))⟩
    have hKT:KT (fun n v=>n∈keys/\a.tmps[n]?=some v) { tmps:=(ps.zip (encs x)).foldl (fun t (p,v)=>t.setIfInBounds p v) a.tmps,defers:=[] }:=by
      rintro n v ⟨hn,hv⟩
      exact (c3 n hn).trans hv
    refine q1z8 rfl (wpIn_mono (hassign l (fun n v=>n∈keys/\a.tmps[n]?=some v) (φA o) (Exit.then (fun a1 W1=>SS w0 (φA o) N (S1 z1) a1 W1/\KT (fun n v=>n∈keys/\a.tmps[n]?=some v) a1) (fun _ _ _=>False)) x y z1 hA rfl (fun n v h=>h.1) (fun a' W' hs hv=>⟨hs,hv⟩) _ W hSS hKT) ?_)
    intro e a1 W1 hK
    have hn:e=.normal:=by cases e<;>first | rfl | exact (show False from hK).elim
    subst hn
    obtain⟨hs1,hk1⟩:=hK
    obtain⟨⟨η1,r1,r2,r3⟩,r4,r5⟩:=hs1
    obtain⟨k1,k2,k3⟩:=r3.kp kb q (.inr (.inl ⟨rfl,rfl⟩))
    obtain⟨k4,k5,k6⟩:=r3.kp w.heap.size o' (.inr (.inr (.inl ⟨rfl,rfl⟩)))
    obtain⟨k7,k8,k9⟩:=r3.kp (w.heap.size+1) o (.inr (.inr (.inr (.inl ⟨rfl,rfl⟩))))
    have kT:∀ k,T k->W1.heap[k]?=W.heap[k]?/\¬ LB (q8m (S1 z1).ob) η1 k/\η1.fz k=none:=fun k hk=>by
      obtain⟨u,hu⟩:∃ u,W.heap[k]?=some u:=⟨_,Array.getElem?_eq_getElem (f6 k hk).2⟩
      obtain⟨s1,s2,s3⟩:=r3.kp k u (.inr (.inr (.inr (.inr ⟨hk,hu⟩))))
      exact⟨s1.trans hu.symm,s2,s3⟩
    refine⟨k7,⟨k1.trans hq.symm,fun k ob hψ _=>(r1 0).fz k ob (r3.fz0 k ob (e6 k ob hψ))⟩,fun k hk=>(kT k hk).1,fun o2=>?_⟩
    have hlt1:w.heap.size+1<W1.heap.size:=(Array.getElem?_eq_some_iff.1 k7).1
    have hob:=OnlyB.put W1 (w.heap.size+1) o2
    have hSS2:SS w0 (φA o2) N (S1 z1) a1 (W1.putObj (w.heap.size+1) o2):=by
      refine⟨⟨η1,fun M=>(r1 M).only hob k8 k9,r2,⟨by rw[hob.size];exact r3.size,fun k hk hx=>(hob.same k (by omega)).trans (r3.same k hk hx),r3.lb,r3.fz0,r3.fzn,hob.os.trans r3.os,hob.tape.trans r3.tape,hob.output.trans r3.output,by rw[hob.drawn];exact r3.drawn,fun k u hu=>?_⟩⟩,r4,r5⟩
      rcases hu with hu | ⟨rfl,rfl⟩ | ⟨rfl,rfl⟩ | ⟨rfl,rfl⟩ | ⟨hu,hu2⟩
      · obtain⟨s1,s2,s3⟩:=r3.kp k u (.inl hu)
        exact⟨(hob.same k (by have:=hKlt _ _ hu;omega)).trans s1,s2,s3⟩
      · exact⟨(hob.same k (by omega)).trans k1,k2,k3⟩
      · exact⟨(hob.same _ (by omega)).trans k4,k5,k6⟩
      · exact⟨World.putObj_heap_same hlt1,k8,k9⟩
      · obtain⟨s1,s2,s3⟩:=kT k hu
        exact⟨(hob.same k (by have:=(f6 k hu).1;omega)).trans (s1.trans hu2),s2,s3⟩
    refine q1z8 rfl (hbody l (fun n v=>n∈keys/\a.tmps[n]?=some v) (φA o2) _ z1 y' hB rfl (fun n v h=>h.1) (fun a' W' hs hv=>?_) a1 _ hSS2 hk1)
    obtain⟨⟨η',t1,t2,t3⟩,_,_⟩:=hs
    obtain⟨m1,m2,m3⟩:=t3.kp kb q (.inr (.inl ⟨rfl,rfl⟩))
    obtain⟨m4,m5,m6⟩:=t3.kp w.heap.size o' (.inr (.inr (.inl ⟨rfl,rfl⟩)))
    obtain⟨m7,m8,m9⟩:=t3.kp (w.heap.size+1) o2 (.inr (.inr (.inr (.inl ⟨rfl,rfl⟩))))
    have mT:∀ k,T k->W'.heap[k]?=W1.heap[k]?/\¬ LB (q8m (obs y')) η' k/\η'.fz k=none:=fun k hk=>by
      obtain⟨u,hu⟩:∃ u,W.heap[k]?=some u:=⟨_,Array.getElem?_eq_getElem (f6 k hk).2⟩
      obtain⟨s1,s2,s3⟩:=t3.kp k u (.inr (.inr (.inr (.inr ⟨hk,hu⟩))))
      exact⟨s1.trans (hu.symm.trans (kT k hk).1.symm),s2,s3⟩
    refine⟨rfl,m7,m4,⟨m1.trans ((hob.same kb (by omega)).trans k1).symm,fun k ob hψ _=>(t1 0).fz k ob (t3.fz0 k ob (e6 k ob hψ))⟩,fun k hk=>(mT k hk).1,y',g3,η',t1,fun n lv hn=>?_,⟨t3.size,t3.same,t3.lb,t3.fz0,t3.fzn,t3.os,t3.tape,t3.output,t3.drawn,fun k u hu=>t3.kp k u (.inl hu)⟩,fun k hk=>?_,(Array.getElem?_eq_some_iff.1 m7).1,fun k hk=>⟨(f6 k hk).1,by
      obtain⟨u,hu⟩:∃ u,W.heap[k]?=some u:=⟨_,Array.getElem?_eq_getElem (f6 k hk).2⟩
      exact (Array.getElem?_eq_some_iff.1 ((mT k hk).1.trans ((kT k hk).1.trans hu))).1⟩⟩
    · obtain⟨v,v1,v2⟩:=t2 n lv hn
      have hkn:=hkeys y' n lv hn
      obtain⟨u,u1⟩:=hkv n hkn
      have:=hv n u ⟨hkn,u1⟩
      rw[v1]at this;injection this with this;subst this
      exact⟨v,u1,v2⟩
    · rcases hk with rfl | rfl | rfl | hk
      · exact⟨m2,m3⟩
      · exact⟨m5,m6⟩
      · exact⟨m8,m9⟩
      · exact (mT k hk).2
  · rintro T W ⟨y,hy,η,f1,f2,f3,f4,f5,f6⟩ hd
    rw[hz]at hy;injection hy with hy;subst hy
    refine hk _ W ⟨⟨η,f1,f2,⟨f3.size,f3.same,f3.lb,fun k ob h=>f3.fz0 k ob (e3.fz0 k ob h),fun k ob h=>(f3.fzn k ob h).elim (e3.fzn k ob) .inr,f3.os,f3.tape,f3.output,f3.drawn,fun k o h=>?_⟩⟩,hN,by rw[hD]⟩
    rcases h with h | ⟨rfl,rfl⟩
    · exact f3.kp k o h
    · obtain⟨h1,h2⟩:=f4 w.heap.size (.inr (.inl rfl))
      exact⟨hd,h1,h2⟩
def q1zb (P:Program) {α:Type} (gf:Nat) (cs0:List LV) (encs:α->Array Value) (xs:List α):Prop :=
 ∀ (w:World) (η:Emb) (L:Loc),At η w cs0 L->(∀ k ob,η.fz k=some ob->w.heap[k]?=some ob)->SeqT Fence.wide 3 P gf #[.pointer (some ⟨L.block,L.base+0,none⟩)] encs L.block (fun A B=>B.heap[L.block]?=A.heap[L.block]?/\∀ k ob,η.fz k=some ob->A.heap[k]?=some ob->B.heap[k]?=some ob) xs w
def q1zc (w0:World) (φ0 φ':Fz0):Prop:=∃ d,w0.heap.size<=d/\φ'=⟨φ0.φ,fun k o=>φ0.K k o∨(k=d/\o=.deferred (some [])),⟨.collected d,#[]⟩::φ0.D,φ0.X⟩
theorem q1zd {α X Z:Type} {g:Operand} {ps:Array Tmp} {assign body:Code} {gf b0:Nat} {cs0:List LV} {encs:α->Array Value} {xs:List α} {A:α->X->Option Z} {B:Z->Option X} {S1:Z->St} {x0 z:X} {tm:List (Nat×LV)} {tmE:X->List (Nat×LV)} {keys:List Nat} {ob:List Ob} {obs:X->List Ob} {xp:α->List (Nat×LV)} {ks:List Nat}
 (hkeys:∀ y n l,(n,l)∈tmE y->n∈keys) (hkeys0:keys.all (fun n=>(tmE x0).any fun p=>Nat.beq n p.1)=true) (hgx:stev ⟨tm,ob⟩ g=.fn gf [.ptr b0 0]) (hob:ob[b0]?=some (.cells cs0)) (hnum:tnum (qeq ks tm) (q8m ob) some=some ⟨tmE x0,obs x0⟩)
 (hb0:memB (q77 (q8m ob) 1000 ((qeq ks tm).flatMap fun p=>q75 p.2) []) b0=false)
 (eg:∀ args w,(callFunc gf args).run P w=.ok (.enter gf args) w) (hit:q1zb P gf cs0 encs xs) (hps:∀ x,(encs x).size=ps.size)
 (hxp:∀ (x:α) (t:Array Value),N<=t.size->N<=((ps.zip (encs x)).foldl (fun t (p,v)=>t.setIfInBounds p v) t).size/\(∀ n l,(n,l)∈xp x->∃ v,((ps.zip (encs x)).foldl (fun t (p,v)=>t.setIfInBounds p v) t)[n]?=some v/\∀ η,VR η l v)/\∀ n,n∈keys->((ps.zip (encs x)).foldl (fun t (p,v)=>t.setIfInBounds p v) t)[n]?=t[n]?)
 (hassign:∀ (l:Nat) (V:Nat->Value->Prop) (φ':Fz0) (Q:Exit->Act->World->Prop) x y z,A x y=some z->φ'.D=[]->(∀ n v,V n v->n∈keys)->CnI V w0 φ' N (S1 z) Q .normal->RunI l P V w0 φ' N assign ⟨xp x++tmE y,obs y⟩ Q)
 (hbody:∀ (l:Nat) (V:Nat->Value->Prop) (φ':Fz0) (Q:Exit->Act->World->Prop) z y',B z=some y'->φ'.D=[]->(∀ n v,V n v->n∈keys)->CnI V w0 φ' N ⟨tmE y',obs y'⟩ Q .normal->RunI l P V w0 φ' N body (S1 z) Q)
 (hz:q1z6 (q1z9 A B) xs x0=some z)
 (hk:∀ φ',q1zc w0 φ0 φ'->Cn w0 φ' N ⟨tmE z,obs z⟩ Q .normal):Run P w0 φ0 N (.rangeFunc g ps assign body) ⟨tm,ob⟩ Q:=by
 intro a w hs
 have hs0:=hs
 obtain⟨⟨η,h1,h2,h3⟩,h4,h5⟩:=hs
 have hv:VR η (.fn gf [.ptr b0 0]) (a.eval g):=by
  have hx:=q63 (η:=η) (t:=q8k tm .lf) (a:=a) (fun n l hl=>by
   rcases q8n tm .lf n l hl with h6 | h6
   ·exact h2 n l h6
   ·rw[Tr.get_lf]at h6;cases h6) g
  rwa[show xev (q8k tm .lf) g=.fn gf [.ptr b0 0] from hgx]at hx
 generalize hge:a.eval g=gv at hv
 cases hv with
 | fn hl hh =>
  obtain⟨v,rfl,hp⟩:=vrs1 ⟨hl,hh⟩
  cases hp with
  | ptr hL =>
   rename_i L
   have hget:(q8m ob).get b0=some (.cells cs0):=by rw[q8p];exact hob
   have hat:=((h1 0).live b0 _ hget).at hL
   have hlb:LB (q8m ob) η L.block:=⟨b0,_,L,hget,hL,rfl⟩
   unfold tnum at hnum
   generalize hρ:q77 (q8m ob) 1000 ((qeq ks tm).flatMap fun p=>q75 p.2) []=ρ at hnum hb0
   simp only at hnum
   rw[Bool.cond_eq_ite]at hnum
   split at hnum
   ·rename_i hn
    split at hnum
    ·rename_i tm' obs' g1 g2
     injection hnum with hnum
     injection hnum with q1 q2
     subst q1;subst q2
     obtain⟨_,e2⟩:=q99 ρ g2
     have hE2:∀ n l',(n,l')∈tmE x0->∃ v,a.tmps[n]?=some v/\VR (η.sub ρ) l' v:=fun n l' hl'=>by
      obtain⟨l,m1,m2⟩:=q9b _ g1 n l' hl'
      obtain⟨u,u1,u2⟩:=h2 n l (qer ks tm _ m1)
      exact⟨u,u1,q90 ρ m2 u2⟩
     refine q1za (ψ:=η.fz) hkeys hge eg (hit w η L hat (h1 0).fz) hat.lt (h3.lb _ hlb) (fun o ho=>(h3.kp _ o ho).2.1 hlb) hps h5.symm
      ⟨η.sub ρ,q9e hn g2 (h1 0),hE2,q9f g2 h3,fun⟨j,ob',L',hj,hL',hk'⟩=>?_,(h1 0).sep _ hlb,fun k ob h=>h⟩ hxp hassign hbody hz h4 (fun n hn=>by
       have:=List.all_eq_true.1 hkeys0 n hn
       obtain⟨⟨n',l⟩,m1,m2⟩:=List.any_eq_true.1 this
       obtain rfl:=Nat.eq_of_beq_eq_true m2
       obtain⟨v,v1,_⟩:=hE2 _ l m1
       exact⟨v,v1⟩) (fun a' W hss=>hk _ ⟨_,h3.size,rfl⟩ a' W hss)
     ·rw[q8p]at hj
      obtain⟨n,ob1,m1,m2,m3⟩:=e2 j ob' hj
      have hLn:η.loc n=some L':=by unfold Emb.sub at hL';simpa only[m1,Option.bind_some] using hL'
      have:n=b0:=(h1 0).inj n b0 _ _ _ _ m2 hget hLn hL hk'
      subst this
      rw[q6z.2 (List.mem_of_getElem? m1)]at hb0
      cases hb0
    ·cases hnum
   ·cases hnum
def EndM (T:Tys) (w0:World) (φ0:Fz0) (N:Nat) (rs:List ResultVar) (out:LV×List Ob) (Q:Exit->Act->World->Prop):Prop :=
 End T w0 φ0 N rs out Q/\∀ φ',q1zc w0 φ0 φ'->End T w0 φ' N rs out Q
theorem q1ze {T : Tys} (hT : TysOK P T) {S : Spec} {fn : Func} {c : Code} (hfn : P.funcs[S.g]? = some fn) (hc : fn.body = some c) (hname : ¬ fn.name = "runtime.NumGoroutine")
 (h:∀ x r,S.F x=some r->∀ w0 φ0 Q,EndM T w0 φ0 fn.ntmps fn.results.toList (S.enc r) Q->Run P w0 φ0 fn.ntmps c ⟨nums 0 (qa8 S.τs x),[]⟩ Q):COK P S:=by
 refine⟨fun x r hx w φ vs hφ hv=>?_,fn,c,hfn,hc,hname⟩
 refine callsIn_wide.1 (callsIn_of_wp_marks (n:=0) hfn hc trivial (wpIn_wide.2 ?_) rfl)
 have plain:∀ s,tfin T fn.results.toList s=some (S.enc r)->∀ a w',SS w (noK φ) fn.ntmps s a w'->LeavesInM Fence.wide 0 P fn a.tmps (fun e w'=>∃ v' η',e=.returned v'/\VR η' (S.enc r).1 v'/\(∀ M,HR M η' (q8m (S.enc r).2) w')/\Fr w (noK φ) (q8m (S.enc r).2) η' w') [] .returning w':=fun s hs a w' hss =>
  (qac (S:=S) (r:=r) hT hs a w' hss).2
 have e1:∀ s,tfin T fn.results.toList s=some (S.enc r)->∀ a w',SS w (noK φ) fn.ntmps s a w'->LeavesInM Fence.wide 0 P fn a.tmps (fun e w'=>∃ v' η',e=.returned v'/\VR η' (S.enc r).1 v'/\(∀ M,HR M η' (q8m (S.enc r).2) w')/\Fr w (noK φ) (q8m (S.enc r).2) η' w') a.defers .returning w':=fun s hs a w' hss=>by
  rw[hss.defers];exact plain s hs a w' hss
 have e2:∀ φ',q1zc w (noK φ) φ'->∀ s,tfin T fn.results.toList s=some (S.enc r)->∀ a w',SS w φ' fn.ntmps s a w'->LeavesInM Fence.wide 0 P fn a.tmps (fun e w'=>∃ v' η',e=.returned v'/\VR η' (S.enc r).1 v'/\(∀ M,HR M η' (q8m (S.enc r).2) w')/\Fr w (noK φ) (q8m (S.enc r).2) η' w') a.defers .returning w':=by
  rintro φ' ⟨d,hd,rfl⟩ s hs a w' hss
  rw[hss.defers]
  obtain⟨η,h1,h2,h3⟩:=hss.emb
  obtain⟨k1,k2,k3⟩:=h3.kp d _ (.inr ⟨rfl,rfl⟩)
  have hb:=OnlyB.put w' d (.deferred none)
  have h3':Fr w (noK φ) (q8m s.ob) η w':=⟨h3.size,h3.same,h3.lb,h3.fz0,h3.fzn,h3.os,h3.tape,h3.output,h3.drawn,fun k o h=>h.elim⟩
  refine⟨by simp,.inl ⟨d,_,rfl,run_takeDeferred k1,?_⟩⟩
  exact plain s hs { a with defers:=[] } _ ⟨⟨η,fun M=>(h1 M).only hb k2 k3,h2,h3'.only hb (.inl hd) fun o h=>h⟩,hss.size,rfl⟩
 refine h x r hx w (noK φ) _ ⟨fun s hs=>⟨fun a w' hss=>e1 s hs a w' hss,fun a w' hss=>e1 s hs a w' hss⟩,fun φ' hl s hs=>⟨fun a w' hss=>e2 φ' hl s hs a w' hss,fun a w' hss=>e2 φ' hl s hs a w' hss⟩⟩ _ w ⟨⟨Emb.fro φ,qaa hφ,fun n l hl=>?_,qab w φ⟩,?_,rfl⟩
 ·obtain⟨_,h2⟩:=qa9 _ 0 n l hl
  rw[Nat.sub_zero]at h2
  obtain⟨v,e1,e2⟩:=hv.get h2
  refine⟨v,?_,e2⟩
  have hlt:=(List.getElem?_eq_some_iff.1 e1).1
  rw[Array.getElem?_append_left (by simpa using hlt)]
  simpa using e1
 ·simp;omega
end
end Go.Tx
namespace Go.Tx
open Go Go.RegC
theorem q1zf {k:List Nat} {tm:List (Nat×LV)} (hk:k=tm.map Prod.fst) {n:Nat} {l:LV} (h:(n,l)∈tm):n∈k:=by
 rw[hk];exact List.mem_map.2 ⟨(n,l),h,rfl⟩
theorem q1zg {a:Array Value} {i:Nat} {v:Value} (h:i<a.size):(a.setIfInBounds i v)[i]?=some v:=by
 simp[Array.getElem?_setIfInBounds,h]
theorem q1zh {a:Array Value} {i j:Nat} {v:Value} (h:Nat.beq i j=false):(a.setIfInBounds i v)[j]?=a[j]? :=
 Array.getElem?_setIfInBounds_ne (Nat.ne_of_beq_eq_false h)
theorem q1zi {V:Nat->Value->Prop} {w0:World} {φ0:Fz0} {N:Nat} {tm:List (Nat×LV)} {ob:List Ob} {s:St} {Q:Exit->Act->World->Prop} {e:Exit} (ks:List Nat) (hs:tnum (qeq ks tm) (q8m ob) some=some s) (h:CnI V w0 φ0 N s Q e):CnI V w0 φ0 N ⟨tm,ob⟩ Q e:=fun a w hss hv=>by
 obtain⟨s',h1,h2⟩:=q9g hs
 injection h1 with h1;subst h1
 obtain⟨⟨η,g1,g2,g3⟩,g4,g5⟩:=hss
 exact h a w (h2 w0 φ0 0 η w a N (g1 0) (fun n l hl=>g2 n l (qer ks tm _ hl)) g3 g4 g5) hv
theorem q1zk {p q:Nat} {v u:Value} {t:Array Value}:((#[p,q]:Array Tmp).zip #[v,u]).foldl (fun t (p,v)=>t.setIfInBounds p v) t=(t.setIfInBounds p v).setIfInBounds q u:=by simp
end Go.Tx
namespace Go.Tx
open Go Go.Pel
def q1zl {α:Type}:List α->List (α×α)
 | []=>[]
 | p::r=>r.map (fun q=>(p,q))++q1zl r
def q1zm {α:Type} (l:List α):Bool:=Nat.ble l.length 1000
theorem q1zn {α:Type} {l:List α} {k:Nat} {p:α} (h:l[k]?=some p):q1zl (l.drop k)=((l.drop (k+1)).drop 0).map (fun q=>(p,q))++q1zl (l.drop (k+1)):=by
 have hk:=(List.getElem?_eq_some_iff.1 h).1
 have hp:l[k]=p:=by rw[List.getElem?_eq_getElem hk]at h;exact Option.some.inj h
 rw[List.drop_eq_getElem_cons hk,q1zl,hp,List.drop_zero]
theorem q1zo {α:Type} {l:List α} {k m:Nat} {p q:α} (h:l[k+1+m]?=some q):((l.drop (k+1)).drop m).map (fun q=>(p,q))=(p,q)::((l.drop (k+1)).drop (m+1)).map (fun q=>(p,q)):=by
 have hk:=(List.getElem?_eq_some_iff.1 h).1
 have hp:l[k+1+m]=q:=by rw[List.getElem?_eq_getElem hk]at h;exact Option.some.inj h
 rw[List.drop_drop,List.drop_drop,List.drop_eq_getElem_cons hk,hp,List.map_cons,Nat.add_assoc (k+1) m 1]
theorem q1zp {η:Emb} {τ:Row} (h:qdu τ=true) (hs:0<τ.size) {xs:List (den τ)} {v:Value} {w:World} (hw:∀ k ob,η.fz k=some ob->w.heap[k]?=some ob) (hv:VR η (.fz τ xs) v):∃ A c,v=.slice A xs.length c/\∀ w:World,(∀ k ob,η.fz k=some ob->w.heap[k]?=some ob)->Sl w τ.size A xs.length c (qnn τ xs):=by
 have hv':VR (Emb.fro η.fz) (.fz τ xs) v:=by
  cases hv with
  | fz hf=>exact .fz hf
 obtain⟨A,c,rfl,_,_⟩:=qnw hw h hs hv'
 refine⟨A,c,rfl,fun w' hw'=>?_⟩
 obtain⟨A',c',e,h1,_⟩:=qnw hw' h hs hv'
 injection e with e1 e2 e3
 subst e1 e3
 exact h1
theorem el3 {w:World} {b o n c k:Nat} {l:List (Int×Int×Int×Unit)} {x:Int×Int×Int×Unit} (h:Sl w 3 (some ⟨b,o,none⟩) n c (qnn (.int .i64 (.int .i64 (.int .i64 .nil))) l)) (hx:l[k]?=some x):w.cell? ⟨b,o+k*3,none⟩=some (.int .i64 x.1)/\w.cell? ⟨b,o+k*3+1,none⟩=some (.int .i64 x.2.1)/\w.cell? ⟨b,o+k*3+2,none⟩=some (.int .i64 x.2.2.1):=by
 have e:qnn (.int .i64 (.int .i64 (.int .i64 .nil))) l=vp (ptsL l):=qno l
 rw[e]at h
 have hx':(ptsL l)[k]?=some (ofP x):=by unfold ptsL;rw[List.getElem?_map,hx];rfl
 exact qmn h hx'
theorem q1zq {w:World} {b o:Nat} {v:Value} (h:w.cell? ⟨b,o,none⟩=some v):b<w.heap.size:=by
 unfold World.cell? at h
 cases hb:w.heap[b]? with
 | none=>rw[show w.heap[(⟨b,o,none⟩:Addr).block]?=w.heap[b]? from rfl,hb]at h;cases h
 | some ob=>exact (Array.getElem?_eq_some_iff.1 hb).1
theorem q1zr {w:World} {b:Nat} {cs:Array Value} {e:TypeId} {f:Nat×Nat} (h:w.heap[b]?=some (.cells cs e f)) (j:Nat):w.cell? ⟨b,j,none⟩=cs[j]?:=by
 unfold World.cell?
 rw[show w.heap[(⟨b,j,none⟩:Addr).block]?=w.heap[b]? from rfl,h]
 rfl
end Go.Tx
namespace Go.Proofs.YtfjjdnaggblaaaaGreat
open Go Go.Tx Go.Pel Go.RowKit Go.Shelf Go.Proofs.Tryz
attribute [local go_sem] Oper.semAt_some
set_option maxRecDepth 100000 in
set_option maxHeartbeats 1000000 in
theorem q1zs {l:List Diii} (h:q1zm l=true):q1zb prog 213 [.fz Riii l] (fun x:Diii×Diii=>#[.agg #[.int .i64 x.1.1,.int .i64 x.1.2.1,.int .i64 x.1.2.2.1],.agg #[.int .i64 x.2.1,.int .i64 x.2.2.1,.int .i64 x.2.2.2.1]]) (q1zl l):=by
 have hl:l.length<=1000:=Nat.le_of_ble_eq_true h
 intro w η ⟨B,Bo,Bl⟩ hat hw
 obtain⟨v,h1,h2⟩:=hat.cell 0 _ rfl
 have hlt:B<w.heap.size:=hat.lt
 obtain⟨A,c,rfl,hS⟩:=q1zp (τ:=Riii) rfl (by decide) hw h2
 clear h2 hat h
 intro l0 J W hW hJ1 hJ2 hY h0
 have hB0:W.heap[B]?=w.heap[B]?:=hW.block _ hlt
 have hc0:W.cell? ⟨B,Bo,none⟩=some (.slice A l.length c):=(hW.cell (p:=⟨B,Bo+0,none⟩) hlt).trans h1
 have hF0:∀ k ob,η.fz k=some ob->W.heap[k]?=some ob:=fun k ob hk=>(hW.block _ (Array.getElem?_eq_some_iff.1 (hw k ob hk)).1).trans (hw k ob hk)
 have HS:=Lib.hid hS
 have HF0:=Lib.hid hF0
 have HW:=Lib.hid hw
 have HY:=Lib.hid hY
 have HJ1:=Lib.hid hJ1
 have HJ2:=Lib.hid hJ2
 have H0:=Lib.hid h0
 clear h1 hS hF0 hw hY hJ1 hJ2 hW hB0 hlt h0
 dsimp only
 refine callsIn_of_wp Tryz.func213 rfl trivial ?_ rfl
 simp only[Tryz.ntmps213,List.size_toArray,List.length_cons,List.length_nil,Nat.reduceAdd,Nat.reduceSub,Array.replicate_succ,Array.replicate_zero,List.push_toArray,List.append_toArray,List.nil_append,List.cons_append]
 gi_wp2
 gi_loopw [10] (fun i wr=>∃ (k:Nat) (T:Nat->Prop) (pre:List (Diii×Diii)),i=.int .i64 k/\k<=l.length/\wr.cell? ⟨B,Bo,none⟩=some (.slice A l.length c)/\(∀ j ob,η.fz j=some ob->wr.heap[j]?=some ob)/\pre++q1zl (l.drop k)=q1zl l/\J T pre wr) (fun i _=>l.length-(intOf i).toNat)
 case atStart=>exact⟨0,_,[],rfl,Nat.zero_le _,hc0,HF0.out,rfl,H0.out⟩
 case round =>
  obtain⟨k,T,pre,rfl,hk,hc,hF,hx,hj⟩:=hrel
  clear hc0 HF0 H0
  by_cases hlt:k<l.length
  ·obtain⟨wo,rfl⟩:∃ wo:World,wo=wr:=⟨_,rfl⟩
   obtain⟨x,hxk⟩:∃ x,l[k]?=some x:=⟨_,List.getElem?_eq_getElem hlt⟩
   have hsl:=HS.out wo hF
   have hpos:0<l.length:=by omega
   obtain⟨b,o,rfl,hb⟩:=hsl.at_ hpos
   obtain⟨d0,d1,d2⟩:=el3 hsl hxk
   have hBl:B<wo.heap.size:=q1zq hc
   have hcV:(wo.alloc (.cells #[.int .i64 x.1,.int .i64 x.2.1,.int .i64 x.2.2.1] 39)).cell? ⟨B,Bo,none⟩=some (.slice (some ⟨b,o,none⟩) l.length c):=(World.cell?_of_block (a:=⟨B,Bo,none⟩) (((Bel.refl wo).alloc _).block _ hBl)).trans hc
   have hcap:l.length<=c:=hsl.1
   have hlt':(k:Int)<(l.length:Int):=by omega
   have e1:IntKind.i64.wrap ((k:Int)+1)=((k+1:Nat):Int):=by rw[IntWalk.i64_in _ (by omega)];omega
   have hV:Bel wo (wo.alloc (.cells #[.int .i64 x.1,.int .i64 x.2.1,.int .i64 x.2.2.1] 39)):=(Bel.refl wo).alloc _
   have hVs:(wo.alloc (.cells #[.int .i64 x.1,.int .i64 x.2.1,.int .i64 x.2.2.1] 39)).heap.size=wo.heap.size+1:=by simp
   have hVn:(wo.alloc (.cells #[.int .i64 x.1,.int .i64 x.2.1,.int .i64 x.2.2.1] 39)).heap[wo.heap.size]?=some (.cells #[.int .i64 x.1,.int .i64 x.2.1,.int .i64 x.2.2.1] 39):=World.alloc_heap_new _ _
   have hJV:=HJ2.out T pre wo _ hj hV
   have hFV:∀ j ob,η.fz j=some ob->(wo.alloc (.cells #[.int .i64 x.1,.int .i64 x.2.1,.int .i64 x.2.2.1] 39)).heap[j]?=some ob:=fun j ob hj=>by rw[hV.block j (Array.getElem?_eq_some_iff.1 (hF j ob hj)).1];exact hF j ob hj
   have hx0:pre++(((l.drop (k+1)).drop 0).map (fun q=>(x,q))++q1zl (l.drop (k+1)))=q1zl l:=by rw[← q1zn hxk];exact hx
   have HX:=Lib.hid hx0
   have HFV:=Lib.hid hFV
   have HJV:=Lib.hid hJV
   have HXK:=Lib.hid hxk
   have HVN:=Lib.hid hVn
   have HVS:=Lib.hid hVs
   clear hx hF hj hsl hxk hx0 hFV hJV hV hVn hVs
   by_cases hck:c=k+1
   ·have hn0:l.length=k+1:=by omega
    have hn0':=Lib.hid (show l.drop (k+1)=[] from List.drop_eq_nil_of_le (by omega))
    subst hck
    have z0:l.length-(k+1)=0:=by omega
    gi_wp2
    gi_loopw [21] (fun i wr=>i=.int .i64 0/\wr=wo.alloc (.cells #[.int .i64 x.1,.int .i64 x.2.1,.int .i64 x.2.2.1] 39)) (fun _ _=>0)
    case atStart=>exact⟨rfl,rfl⟩
    case round =>
     obtain⟨rfl,rfl⟩:=hrel
     gi_wp2
     go_roundw
     case rel=>exact⟨k+1,_,pre,by go_num,by omega,hcV,HFV.out,by have:=HX.out;rw[List.drop_zero,hn0'.out]at this;rw[hn0'.out];exact this,HJV.out⟩
     case measure=>(first | (simp[intOf];done) | (simp[intOf];omega))
   ·gi_wp2
    gi_loopw [21] (fun i wr2=>∃ (m:Nat) (T2:Nat->Prop) (pre2:List (Diii×Diii)),i=.int .i64 m/\m<=l.length-(k+1)/\wr2.cell? ⟨B,Bo,none⟩=some (.slice (some ⟨b,o,none⟩) l.length c)/\(∀ j ob,η.fz j=some ob->wr2.heap[j]?=some ob)/\pre2++(((l.drop (k+1)).drop m).map (fun q=>(x,q))++q1zl (l.drop (k+1)))=q1zl l/\J T2 pre2 wr2/\T2 wo.heap.size/\wr2.heap[wo.heap.size]?=some (.cells #[.int .i64 x.1,.int .i64 x.2.1,.int .i64 x.2.2.1] 39)) (fun i _=>(l.length-(k+1))-(intOf i).toNat)
    case atStart=>exact⟨0,_,pre,rfl,Nat.zero_le _,hcV,HFV.out,HX.out,HJV.out,.inr ⟨Nat.le_refl _,by rw[HVS.out];omega⟩,HVN.out⟩
    case round =>
     obtain⟨m,T2,pre2,rfl,hm,hc2,hF2,hx2,hj2,hT2,hp2⟩:=hrel
     clear hcV HX HFV HJV HVN HVS
     by_cases hlm:m<l.length-(k+1)
     ·obtain⟨q,hqk⟩:∃ q,l[k+1+m]?=some q:=⟨_,List.getElem?_eq_getElem (by omega)⟩
      obtain⟨d0',d1',d2'⟩:=el3 (HS.out _ hF2) hqk
      have a0:o+(k+1+m)*3=o+(k+1)*3+m*3:=by omega
      rw[a0]at d0' d1' d2'
      have hb2:b<wr.heap.size:=q1zq d0'
      have hBl2:B<wr.heap.size:=q1zq hc2
      have hPl2:wo.heap.size<wr.heap.size:=(Array.getElem?_eq_some_iff.1 hp2).1
      have hV:Bel wr (wr.alloc (.cells #[.int .i64 q.1,.int .i64 q.2.1,.int .i64 q.2.2.1] 39)):=(Bel.refl wr).alloc _
      have hcV2:(wr.alloc (.cells #[.int .i64 q.1,.int .i64 q.2.1,.int .i64 q.2.2.1] 39)).cell? ⟨B,Bo,none⟩=some (.slice (some ⟨b,o,none⟩) l.length c):=(World.cell?_of_block (a:=⟨B,Bo,none⟩) (hV.block _ hBl2)).trans hc2
      have hpV:(wr.alloc (.cells #[.int .i64 q.1,.int .i64 q.2.1,.int .i64 q.2.2.1] 39)).heap[wo.heap.size]?=some (.cells #[.int .i64 x.1,.int .i64 x.2.1,.int .i64 x.2.2.1] 39):=(hV.block _ hPl2).trans hp2
      have p0:(wr.alloc (.cells #[.int .i64 q.1,.int .i64 q.2.1,.int .i64 q.2.2.1] 39)).cell? ⟨wo.heap.size,0,none⟩=some (.int .i64 x.1):=by rw[q1zr hpV];rfl
      have p1:(wr.alloc (.cells #[.int .i64 q.1,.int .i64 q.2.1,.int .i64 q.2.2.1] 39)).cell? ⟨wo.heap.size,1,none⟩=some (.int .i64 x.2.1):=by rw[q1zr hpV];rfl
      have p2:(wr.alloc (.cells #[.int .i64 q.1,.int .i64 q.2.1,.int .i64 q.2.2.1] 39)).cell? ⟨wo.heap.size,2,none⟩=some (.int .i64 x.2.2.1):=by rw[q1zr hpV];rfl
      have hJV:=HJ2.out T2 pre2 wr _ hj2 hV
      rw[q1zo hqk]at hx2
      obtain⟨fn,tmps,assign,body,hy,hR⟩:=HY.out _ pre2 (x,q) _ _ hx2.symm hJV
      have hlm':(m:Int)<((l.length-(k+1):Nat):Int):=by omega
      have HX2:=Lib.hid hx2
      have HF2:=Lib.hid hF2
      have HT2:=Lib.hid hT2
      have HV2:=Lib.hid hV
      have HPV:=Lib.hid hpV
      have HCV2:=Lib.hid hcV2
      clear hx2 hF2 hT2 hV hpV hJV hj2 hqk
      gi_wp2
      refine hR.mono ?_
      rintro e W3 ⟨rfl,hJ3,⟨hk3,hf3⟩,ht3⟩
      have hF3:∀ j ob,η.fz j=some ob->W3.heap[j]?=some ob:=fun j ob hj=>hf3 j ob hj (((HV2.out).block j (Array.getElem?_eq_some_iff.1 (HF2.out j ob hj)).1).trans (HF2.out j ob hj))
      have hc3:W3.cell? ⟨B,Bo,none⟩=some (.slice (some ⟨b,o,none⟩) l.length c):=(World.cell?_of_block (a:=⟨B,Bo,none⟩) hk3).trans HCV2.out
      have hp3:W3.heap[wo.heap.size]?=some (.cells #[.int .i64 x.1,.int .i64 x.2.1,.int .i64 x.2.2.1] 39):=(ht3 _ (.inl HT2.out)).trans HPV.out
      have HF3:=Lib.hid hF3
      have HP3:=Lib.hid hp3
      have HJ3:=Lib.hid hJ3
      clear hF3 hp3 hJ3 hf3 ht3 hk3
      gi_wp2
      go_roundw
      case rel=>exact⟨m+1,_,pre2 ++ [(x,q)],by go_num,by omega,hc3,HF3.out,by rw[List.append_assoc];exact HX2.out,HJ3.out,.inl HT2.out,HP3.out⟩
      case measure=>(first | (simp[intOf];done) | (simp[intOf];omega))
     ·obtain rfl:m=l.length-(k+1):=by omega
      have HX2:=Lib.hid hx2
      have HF2:=Lib.hid hF2
      have HJ2':=Lib.hid hj2
      clear hx2 hF2 hj2 hlm
      gi_wp2
      go_roundw
      case rel=>exact⟨k+1,T2,pre2,by go_num,by omega,hc2,HF2.out,by have:=HX2.out;rw[List.drop_drop,show k+1+(l.length-(k+1))=l.length by omega,List.drop_length]at this;exact this,HJ2'.out⟩
      case measure=>(first | (simp[intOf];done) | (simp[intOf];omega))
  ·obtain rfl:k=l.length:=by omega
   have HX:=Lib.hid hx
   have HF:=Lib.hid hF
   have HJ:=Lib.hid hj
   clear hx hF hj hlt
   gi_wp2
   go_end0
   exact⟨⟨_,rfl⟩,_,by have:=HX.out;rw[List.drop_length,q1zl,List.append_nil]at this;rw[← this];exact HJ.out⟩
end Go.Proofs.YtfjjdnaggblaaaaGreat
namespace Go.Proofs
open Go.Shelf
def Tryz.laysSortM_ren:Go.Shelf.Ren:=⟨fun | 6=>178 | 15=>142 | 14=>214 | 28=>193 | 29=>194 | 20=>230 | 21=>231 | 22=>232 | 23=>233 | 24=>234 | 25=>235 | 26=>236 | 27=>237 | 46=>241 | 47=>219 | 48=>220 | 49=>242 | 50=>243 | 57=>244 | n=>n,fun | 22=>33 | 24=>276 | 25=>278 | 3=>3 | 39=>240 | 0=>0 | 53=>292 | 55=>80 | 4=>4 | 46=>286 | 45=>285 | 50=>175 | 5=>5 | 9=>9 | 66=>315 | 70=>319 | 76=>333 | 77=>334 | n=>n,fun | n=>n⟩
theorem Tryz.laysSortM:Go.Proofs.SlLaysF0.n6 Tryz.prog Tryz.laysSortM_ren:={
 mixed:=by kernel_rfl
 f6:=⟨Tryz.f178.name,by decide,Tryz.func178.trans (congrArg some (by kernel_rfl))⟩
 f14:=⟨Tryz.f214.name,by decide,Tryz.func214.trans (congrArg some (by kernel_rfl))⟩
 f15:=Tryz.func142.trans (congrArg some (by kernel_rfl))
 f20:=⟨Tryz.f230.name,by decide,Tryz.func230.trans (congrArg some (by kernel_rfl))⟩
 f21:=⟨Tryz.f231.name,by decide,Tryz.func231.trans (congrArg some (by kernel_rfl))⟩
 f22:=⟨Tryz.f232.name,by decide,Tryz.func232.trans (congrArg some (by kernel_rfl))⟩
 f23:=⟨Tryz.f233.name,by decide,Tryz.func233.trans (congrArg some (by kernel_rfl))⟩
 f24:=⟨Tryz.f234.name,by decide,Tryz.func234.trans (congrArg some (by kernel_rfl))⟩
 f25:=⟨Tryz.f235.name,by decide,Tryz.func235.trans (congrArg some (by kernel_rfl))⟩
 f26:=⟨Tryz.f236.name,by decide,Tryz.func236.trans (congrArg some (by kernel_rfl))⟩
 f27:=⟨Tryz.f237.name,by decide,Tryz.func237.trans (congrArg some (by kernel_rfl))⟩
 f28:=Tryz.func193.trans (congrArg some (by kernel_rfl))
 f29:=Tryz.func194.trans (congrArg some (by kernel_rfl))
 f46:=⟨Tryz.f241.name,by decide,Tryz.func241.trans (congrArg some (by kernel_rfl))⟩
 f47:=Tryz.func219.trans (congrArg some (by kernel_rfl))
 f48:=Tryz.func220.trans (congrArg some (by kernel_rfl))
 f49:=⟨Tryz.f242.name,by decide,Tryz.func242.trans (congrArg some (by kernel_rfl))⟩
 f50:=⟨Tryz.f243.name,by decide,Tryz.func243.trans (congrArg some (by kernel_rfl))⟩
 f57:=⟨Tryz.f244.name,by decide,Tryz.func244.trans (congrArg some (by kernel_rfl))⟩
 t0:=Tryz.underlying0
 a0:=Tryz.isAgg0
 z0:=Tryz.sizeOf0
 v0:=Tryz.zeroValue0
 t3:=Tryz.underlying3
 a3:=Tryz.isAgg3
 z3:=Tryz.sizeOf3
 v3:=Tryz.zeroValue3
 t4:=Tryz.underlying4
 a4:=Tryz.isAgg4
 z4:=Tryz.sizeOf4
 v4:=Tryz.zeroValue4
 t5:=Tryz.underlying5
 a5:=Tryz.isAgg5
 z5:=Tryz.sizeOf5
 v5:=Tryz.zeroValue5
 t9:=Tryz.underlying9
 a9:=Tryz.isAgg9
 z9:=Tryz.sizeOf9
 v9:=Tryz.zeroValue9
 t22:=Tryz.underlying33
 a22:=Tryz.isAgg33
 z22:=Tryz.sizeOf33
 v22:=Tryz.zeroValue33
 t25:=Tryz.underlying278
 a25:=Tryz.isAgg278
 z25:=Tryz.sizeOf278
 v25:=Tryz.zeroValue278
 t39:=Tryz.underlying240
 a39:=Tryz.isAgg240
 z39:=Tryz.sizeOf240
 v39:=Tryz.zeroValue240
 t45:=Tryz.underlying285
 a45:=Tryz.isAgg285
 z45:=Tryz.sizeOf285
 v45:=Tryz.zeroValue285
 t46:=Tryz.underlying286
 a46:=Tryz.isAgg286
 z46:=Tryz.sizeOf286
 v46:=Tryz.zeroValue286
 t50:=Tryz.underlying175
 a50:=Tryz.isAgg175
 z50:=Tryz.sizeOf175
 v50:=Tryz.zeroValue175
 t53:=Tryz.underlying292
 a53:=Tryz.isAgg292
 z53:=Tryz.sizeOf292
 v53:=Tryz.zeroValue292
 t55:=Tryz.underlying80
 a55:=Tryz.isAgg80
 z55:=Tryz.sizeOf80
 v55:=Tryz.zeroValue80
 t66:=Tryz.underlying315
 a66:=Tryz.isAgg315
 z66:=Tryz.sizeOf315
 v66:=Tryz.zeroValue315
 t70:=Tryz.underlying319
 a70:=Tryz.isAgg319
 z70:=Tryz.sizeOf319
 v70:=Tryz.zeroValue319
 t76:=Tryz.underlying333
 a76:=Tryz.isAgg333
 z76:=Tryz.sizeOf333
 v76:=Tryz.zeroValue333
 t77:=Tryz.underlying334
 a77:=Tryz.isAgg334
 z77:=Tryz.sizeOf334
 v77:=Tryz.zeroValue334 }
end Go.Proofs
namespace Go.Proofs.YtfjjdnaggblaaaaGreat
open Go Go.Tx Go.Proofs.Tryz
theorem q1zt {g:FuncId} {F:den qi3×den qi3×Unit->Option Int} (hS:COK prog ⟨g,[.row qi3 true,.row qi3 true],Int,F,fun r=>(.int .i64 r,[])⟩) {C:Orc} (hC:OrcOK prog C):OrcOK prog (orcS 178 g qi3 F C) :=
 qym (τ:=qi3) (ρ:=laysSortM_ren) laysSortM rfl isAgg276 sizeOf276 hS (qo7 (fn:=f178) (by kernel_rfl) (by kernel_rfl) (by kernel_rfl)) hC
end Go.Proofs.YtfjjdnaggblaaaaGreat
namespace Go.Proofs.YtfjjdnaggblaaaaGreat
open Go Go.Tx Go.Pel Go.Proofs.Tryz
set_option maxRecDepth 100000
set_option maxHeartbeats 0
abbrev q1zu:List Pk:=[.row qi3 true]
abbrev q1zv:Type:=qi4×Unit
abbrev q1zw:Type:=Int×Int
def q1zx (r:q1zw):LV×List Ob:=(.agg [.int .i64 r.1,.int .u64 r.2],[])
def q1zy (F:q1zv->Option q1zw):Go.Tx.Spec:=⟨136,q1zu,q1zw,F,q1zx⟩
def q1zz (x:q1zv):Bool:=sumB x.1.1 x.1.2.1 x.1.2.2.1 x.1.2.2.2.1
def q200 (d:Nat) (x:q1zv):Option q1zw:=bif q1zz x then some ((x.1.1*x.1.2.1+x.1.2.2.1*x.1.2.2.2.1)/18446744073709551616,(x.1.1*x.1.2.1+x.1.2.2.1*x.1.2.2.2.1)%18446744073709551616) else none
theorem q201 (d:Nat) (x:q1zv) (h:q1zz x=true):q200 d x=some ((x.1.1*x.1.2.1+x.1.2.2.1*x.1.2.2.2.1)/18446744073709551616,(x.1.1*x.1.2.1+x.1.2.2.1*x.1.2.2.2.1)%18446744073709551616):=by unfold q200;rw[h];rfl
theorem q202 (d:Nat):COK prog (q1zy (q200 d)):=by
 refine qo6 (qo7 (fn:=f136) (by kernel_rfl) (by kernel_rfl) (by kernel_rfl)) fun x r hx w φ vs hφ hv=>?_
 have hx:q200 d x=some r:=hx
 unfold q200 at hx
 obtain⟨hc,rfl⟩:=qpm hx
 have hv:VRs (Emb.fro φ) [.agg [.int .i64 x.1.1,.int .i64 x.1.2.1,.int .i64 x.1.2.2.1,.int .i64 x.1.2.2.2.1]] vs:=hv
 obtain⟨v0,rfl,q0⟩:=vrs1 hv
 have r0:=qyn q0;subst r0
 unfold q1zz at hc
 have h1:=hc
 refine (qyo h1 w).mono ?_
 rintro e w' ⟨rfl,y,rfl⟩
 exact qo4 hφ (VR.aggL (VRs.cons (.int _ _) (VRs.cons (.int _ _) VRs.nil))) y
end Go.Proofs.YtfjjdnaggblaaaaGreat
namespace Go.Tx
open Go
def q204 (x y c:Int):Option (Int×Int):=bif decide (0<=x)&&decide (x<18446744073709551616)&&decide (0<=y)&&decide (y<18446744073709551616)&&decide (0<=c)&&decide (c<=1) then some ((x-y-c)%18446744073709551616,bif decide (x<y+c) then 1 else 0) else none
def orcI (f:FuncId) (G:Int->Int->Int->Option (Int×Int)) (C:Orc):Orc:=fun h args H =>
 bif Nat.beq h f then (match args with
  | [.int .u64 x,.int .u64 y,.int .u64 c]=>some ⟨Int×Int,G x y c,fun r=>(.tup [.int .u64 r.1,.int .u64 r.2],H)⟩
  | _=>none) else C h args H
theorem q205 {P:Program} {f:FuncId} {G:Int->Int->Int->Option (Int×Int)} (hG:∀ x y c r,G x y c=some r->∀ w,(callFunc f #[.int .u64 x,.int .u64 y,.int .u64 c]).run P w=.ok (.value (.tuple #[.int .u64 r.1,.int .u64 r.2])) w) {C:Orc} (hC:OrcOK P C):OrcOK P (orcI f G C):=by
 refine⟨fun h args H p x hp hx=>?_⟩
 unfold orcI at hp
 rw[Bool.cond_eq_ite]at hp
 split at hp
 ·rename_i he
  have he:=Nat.eq_of_beq_eq_true he
  subst he
  split at hp
  ·rename_i x0 y0 c0
   injection hp with hp;subst hp
   refine .inr ⟨rfl,fun η w vs hv=>?_⟩
   obtain⟨v0,vs',rfl,q0,hv⟩:=hv.uncons
   obtain⟨v1,v2,rfl,q1,q2⟩:=vrs2 hv
   cases q0;cases q1;cases q2
   exact⟨_,hG x0 y0 c0 x hx w,.tup rfl (VRs.cons (.int _ _) (VRs.cons (.int _ _) VRs.nil)).2⟩
  ·cases hp
 ·exact hC.call h args H p x hp hx
theorem q207 {x y c:Int} {r:Int×Int} (h:q204 x y c=some r):∃ a b d:Nat,x=a/\y=b/\c=d/\a<18446744073709551616/\b<18446744073709551616/\d<=1/\r=((((a+18446744073709551616-b-d)%18446744073709551616:Nat):Int),((if a<b+d then 1 else 0:Nat):Int)):=by
 unfold q204 at h
 rw[Bool.cond_eq_ite]at h
 split at h
 ·rename_i hc
  simp only[Bool.and_eq_true,decide_eq_true_eq]at hc
  injection h with h
  refine⟨x.toNat,y.toNat,c.toNat,by omega,by omega,by omega,by omega,by omega,by omega,?_⟩
  rw[← h]
  refine Prod.ext ?_ ?_
  ·simp only;omega
  ·simp only[Bool.cond_eq_ite,decide_eq_true_eq]
   split<;>split<;>first | rfl | omega
 ·cases h
end Go.Tx
namespace Go.Proofs.YtfjjdnaggblaaaaGreat
open Go Go.Tx Go.Proofs.Tryz
theorem q209:∀ x y c r,q204 x y c=some r->∀ w,(callFunc 137 #[.int .u64 x,.int .u64 y,.int .u64 c]).run Tryz.prog w=.ok (.value (.tuple #[.int .u64 r.1,.int .u64 r.2])) w:=by
 intro x y c r h w
 obtain⟨a,b,d,rfl,rfl,rfl,ha,hb,hd,rfl⟩:=q207 h
 rw[run_callFunc_extern Tryz.func137 (by kernel_rfl) (by kernel_rfl) (by kernel_rfl) (e:=sub64Entry) (by kernel_rfl),run_sub64 a b d hd]
 rfl
set_option maxRecDepth 100000
set_option maxHeartbeats 0
noncomputable section
abbrev q20a:Type:=Dii×Unit
abbrev q20b:Type:=Int
noncomputable def q20c (d:Nat):Ent:=⟨tysT,(orc [qsy (qt0 d),(q16l d).s]),f59,mkPl [] [([0],[1]),([1],[1,3]),([2],[1,3,7]),([3,5,6],[2]),([4],[17])] [] [],d,59,[.row Rii true],.undef,[.i .i64]⟩
theorem q20d (d:Nat):COK prog (q20c d).s:=Ent.k mixed tys (qeo (ac1 (qt2 d) (ac1 (q16m d) ac0))) ⟨by kernel_rfl,by kernel_rfl,by kernel_rfl⟩
noncomputable def q20e (d:Nat) (x:q20a):Option q20b:=(q20c d).F x
def q20f (d:Nat):q20a->Option q20b:=fun ((xAa,xAb,_),_) =>
 (obnd (qt0 d ((xAa,xAb,()),())) fun r1=>(bif (r1 != 0) then some r1 else (obnd (q16n d ((xAa,()),())) fun r2=>(obif (decide (r2>1073741824)) (some 2) (bif (decide (xAb>1024)) then some 2 else some 0)))))
theorem q20g (d:Nat) (x:q20a):q20e d x=q20f d x:=by kernel_rfl
abbrev q20h:Type:=DLiE×Unit
abbrev q20i:Type:=Int
noncomputable def q20j (d:Nat):Ent:=⟨tysT,(orc []),f58,mkPl [(0,(.val Ri)),(5,(.val Ri))] [([0],[0]),([1,6],[5,6,7]),([2],[5,6,7,8]),([3],[4,5,6,7]),([4],[4,5,6,7,12]),([5,7],[2])] [] [(2,[5,6,7])],d,58,[.row RLiE false],.undef,[.i .i64]⟩
theorem q20k (d:Nat):COK prog (q20j d).s:=Ent.k mixed tys (qeo ac0) ⟨by kernel_rfl,by kernel_rfl,by kernel_rfl⟩
noncomputable def q20l (d:Nat) (x:q20h):Option q20i:=(q20j d).F x
abbrev q20m:Type:=List Di×Int×Int
def q20n (d:Nat) (self1:q20m->Option q20i):q20m->Option q20i:=fun (x1a,x1b,x1c) =>
 (bif (decide (x1c<x1b)) then (obif (inB x1c x1a.length) (let e1:=(elt zi x1a x1c.toNat);(bif (e1.1 != 0) then some e1.1 else (self1 (x1a,x1b,(wi (x1c+1)))))) none) else some 0)
def q20o:q20m->St:=fun (x1a,x1b,x1c)=>⟨[(5,.fz Ri x1a),(6,i6 x1b),(7,i6 x1c)],[]⟩
theorem q20p (d:Nat) (self1:St->Option q20i) (x:q20m):(q20j d).b 2 [] self1 (q20o x)=q20n d (fun y=>self1 (q20o y)) x:=by kernel_rfl
def q20q (d:Nat) (L1_g:q20m->Option q20i):q20h->Option q20i:=fun ((xAa,_),_) =>
 (L1_g (xAa,(xAa.length:Int),0))
theorem q20r (d:Nat) (x:q20h):q20l d x=q20q d (iter (q20n d) d) x:=by
 have h:q20l d x=q20q d (fun y=>iter ((q20j d).b 2 []) d (q20o y)) x:=by kernel_rfl
 rw[h];congr 1<;>(funext y;first | rfl | exact qfi (q20p d) d y)
abbrev q20s:Type:=qi1×Unit
abbrev q20t:Type:=Int
noncomputable def q20u (d:Nat):Ent:=⟨tysT,(orc [qv8 (qva d),(q20j d).s,(q20c d).s]),f19,mkPl [(1,(.box [.any,.any,.val Riii]))] [([0],[1]),([1],[11]),([3],[2])] [] [],d,19,[.row qi0 true],.undef,[.i .i64]⟩
theorem q20v (d:Nat):COK prog (q20u d).s:=Ent.k mixed tys (qeo (ac1 (qvc d) (ac1 (q20k d) (ac1 (q20d d) ac0)))) ⟨by kernel_rfl,by kernel_rfl,by kernel_rfl⟩
noncomputable def q20w (d:Nat) (x:q20s):Option q20t:=(q20u d).F x
def q20x (d:Nat):q20s->Option q20t:=fun ((xAa,xAb,xAc,_),_) =>
 (obnd (q20e d ((xAa,xAb,()),())) fun r1=>(obnd (qva d ((xAc,()),())) fun r2=>(obnd (q20l d ((([(r1,()),(r2,())]:List Di),()),())) fun r3=>(bif (r3 != 0) then none else some 0))))
theorem q20y (d:Nat) (x:q20s):q20w d x=q20x d x:=by kernel_rfl
abbrev q20z:Type:=qid×Unit
abbrev q210:Type:=Bool
noncomputable def q211 (d:Nat):Ent:=⟨tysT,(orc []),f61,mkPl [] [([0,5,7,9],[1]),([1],[1,4]),([2,12],[2]),([3,4],[1,4,5]),([6],[1,4,10]),([8],[1,4,13]),([10],[1,4,17]),([11],[1,17])] [] [],d,61,[.row qic true],.undef,[.bo]⟩
theorem q212 (d:Nat):COK prog (q211 d).s:=Ent.k mixed tys (qeo ac0) ⟨by kernel_rfl,by kernel_rfl,by kernel_rfl⟩
noncomputable def q213 (d:Nat) (x:q20z):Option q210:=(q211 d).F x
def q214 (d:Nat):(Int×Int×Int×Int×Int×Int×Int)->Option q210:=fun (ya,yb,yc,yd,ye,yf,yg) =>
 (some ((ya==ya)&&((yb==0)&&((yc==0)&&((yd==0)&&((ye==0)&&((yf==0)&&((yg==0)&&true))))))))
def q215 (d:Nat):(Bool×Int×Int×Int×Int×Int×Int×Int)->Option q210:=fun (ya,yb,yc,yd,ye,yf,yg,yh) =>
 (bif ya then (q214 d (yb,yc,yd,ye,yf,yg,yh)) else some false)
def q216 (d:Nat):(Int×Bool×Int×Int×Int×Int×Int×Int×Int)->Option q210:=fun (ya,yb,yc,yd,ye,yf,yg,yh,yi) =>
 (bif yb then (q214 d (yc,0,0,0,yg,yh,yi)) else (bif (ya==2) then (q214 d (yc,yd,ye,yf,0,yh,yi)) else (bif (ya==4) then (q214 d (yc,yd,ye,yf,yg,0,0)) else (let a5:=(ya==5);(bif a5 then (q215 d (a5,yc,yd,ye,yf,yg,yh,yi)) else (q215 d ((ya==6),yc,yd,ye,yf,yg,yh,yi)))))))
def q217 (d:Nat):q20z->Option q210:=fun ((xAa,xAb,xAc,xAd,xAe,xAf,xAg,_),_) =>
 (let a1:=(xAa==1);(bif a1 then (q216 d (xAa,a1,xAa,xAb,xAc,xAd,xAe,xAf,xAg)) else (q216 d (xAa,(xAa==3),xAa,xAb,xAc,xAd,xAe,xAf,xAg))))
theorem q218 (d:Nat) (x:q20z):q213 d x=q217 d x:=by kernel_rfl
abbrev q219:Type:=Dii×Dii×Unit
abbrev q21a:Type:=Int
noncomputable def q21b (d:Nat):Ent:=⟨tysT,(orc [(q17k d).s]),f176,mkPl [] [([0],[2,3]),([1],[5]),([2],[4])] [] [],d,176,[.row Rii true,.row Rii true],.undef,[.i .i64]⟩
theorem q21c (d:Nat):COK prog (q21b d).s:=Ent.k mixed tys (qeo (ac1 (q17l d) ac0)) ⟨by kernel_rfl,by kernel_rfl,by kernel_rfl⟩
noncomputable def q21d (d:Nat) (x:q219):Option q21a:=(q21b d).F x
def q21e (d:Nat):q219->Option q21a:=fun ((xAa,xAb,_),(xBa,xBb,_),_) =>
 (obnd (q17m d ((xAa,xAb,()),(xBa,xBb,()),())) fun (r1a,_)=>some r1a)
theorem q21f (d:Nat) (x:q219):q21d d x=q21e d x:=by kernel_rfl
abbrev q21g:Type:=qhy×qj1×Unit
abbrev q21h:Type:=Int
noncomputable def q21i (d:Nat):Ent:=⟨tysT,(orc [qv8 (qva d),qsy (qt0 d),(q21b d).s]),f133,mkPl [(1,(.val Rii)),(2,(.box [.val Riii])),(14,(.val Rii))] [([0],[1,2]),([1],[1,5]),([2],[1,12]),([4,10],[1,14,15,16]),([5],[1,14,15,16,17]),([6],[1,7,14,15,16]),([7],[1,8,14,15,16]),([8],[1,14,15,16,23]),([11],[38]),([13],[4])] [] [(5,[1,14,15,16])],d,133,[.row qhx true,.row qj0 false],.undef,[.i .i64]⟩
theorem q21j (d:Nat):COK prog (q21i d).s:=Ent.k mixed tys (qeo (ac1 (qvc d) (ac1 (qt2 d) (ac1 (q21c d) ac0)))) ⟨by kernel_rfl,by kernel_rfl,by kernel_rfl⟩
noncomputable def q21k (d:Nat) (x:q21g):Option q21h:=(q21i d).F x
abbrev q21l:Type:=List Dii×List Dii×Int×Int
def q21m (d:Nat) (self1:q21l->Option q21h):q21l->Option q21h:=fun (x1a,x1b,x1c,x1d) =>
 (bif (decide (x1d<x1c)) then (obif (inB x1d x1b.length) (let e2:=(elt zii x1b x1d.toNat);(obnd (qt0 d ((e2.1,e2.2.1,()),())) fun r3=>(bif (r3 != 0) then none else (self1 (x1a,x1b,x1c,(wi (x1d+1))))))) none) else (obif ((x1a.length:Int)==2) (obif (inB 0 x1a.length) (let e2:=(elt zii x1a 0);(obif (inB 1 x1a.length) (let e3:=(elt zii x1a 1);(obnd (q21d d ((e2.1,e2.2.1,()),(e3.1,e3.2.1,()),())) fun r4=>(bif (decide (r4>0)) then none else some 0))) none)) none) (some 0)))
def q21n:q21l->St:=fun (x1a,x1b,x1c,x1d)=>⟨[(1,.fz Rii x1a),(14,.fz Rii x1b),(15,i6 x1c),(16,i6 x1d)],[]⟩
theorem q21o (d:Nat) (self1:St->Option q21h) (x:q21l):(q21i d).b 5 [] self1 (q21n x)=q21m d (fun y=>self1 (q21n y)) x:=by kernel_rfl
def q21p (d:Nat) (L1_g:q21l->Option q21h):q21g->Option q21h:=fun ((xAa,_),(xBa,_),_) =>
 (obnd (qva d ((xAa,()),())) fun r1=>(bif (r1 != 0) then none else (L1_g (xBa,xBa,(xBa.length:Int),0))))
theorem q21q (d:Nat) (x:q21g):q21k d x=q21p d (iter (q21m d) d) x:=by
 have h:q21k d x=q21p d (fun y=>iter ((q21i d).b 5 []) d (q21n y)) x:=by kernel_rfl
 rw[h];congr 1<;>(funext y;first | rfl | exact qfi (q21o d) d y)
abbrev q21r:List Pk:=[.row qhx true]
abbrev q21s:Type:=qhy×Unit
abbrev q21t:Type:=List Diii
def q21u (r:q21t):LV×List Ob:=(.fn 213 [.ptr 0 0],[.cells [.fz Riii r]])
def q21v (F:q21s->Option q21t):Go.Tx.Spec:=⟨177,q21r,q21t,F,q21u⟩
abbrev q21w:Type:=Unit
def q21x (_d:Nat):q21w:=()
def q21y (C:q21w):List Go.Tx.Spec:=[]
abbrev q21z:Type:=List Diii
def q220 (v:q21z):St:=⟨[(0,.agg [.fz Riii v])],[]⟩
abbrev q221:Type:=List Diii
def q222 (v:q221):St:=⟨[(1,.ptr 0 0)],[.cells [.fz Riii v]]⟩
def q223 (C:q21w) (v:q21z):Dt q221:=(Dt.ret v)
abbrev q2n3 {V Y:Type}:=@rg q21w V Y tysT (fun C=>(orc (q21y C))) 4
theorem q224 C v:q2n3 (regO (qeu f177) 0) false [(1,(.box [.val Riii]))] q220 q223 q222 C v:=rgI (by kernel_rfl)
abbrev q225:Type:=List Diii
def q226 (v:q225):St:=⟨[(2,.fn 213 [.ptr 0 0])],[.cells [.fz Riii v]]⟩
def q227 (C:q21w) (v:q221):Dt q225:=(Dt.ret v)
theorem q228 C v:q2n3 (regO (qeu f177) 1) false [(2,.any)] q222 q227 q226 C v:=rgI (by kernel_rfl)
def q229 (d:Nat) (x:q21s):Option q21t :=
 (q223 (q21x d) x.1.1).eval fun y0 =>
 (q227 (q21x d) y0).eval fun y1 =>
 some y1
theorem q22a (d:Nat):COK prog (q21v (q229 d)):=by
 have hm:prog.follows .mixedOrders=true:=mixed
 have hT:=tys
 have hC0:OrcOK prog (orc (q21y (q21x d))):=qeo (by
  intro S hS
  simp only[q21y,List.mem_cons,List.not_mem_nil,or_false]at hS
  all_goals first | cases hS | exact hS.elim)
 have hC:OrcOK prog (orc (q21y (q21x d))):=hC0
 refine qad (c:=qeu f177) (fn:=f177) hT (by kernel_rfl) (by kernel_rfl) (by decide) fun x r h w0 φ0 Q hend=>?_
 replace h:q229 d x=some r:=h
 unfold q229 at h
 show Run prog w0 φ0 4 (qeu f177) ⟨[(0,.agg [.fz Riii x.1.1])],[]⟩ Q
 refine q2n0 hm hT hC (q224 (q21x d) x.1.1) h fun y0 h=>?_
 refine q2n0 hm hT hC (q228 (q21x d) y0) h fun y1 h=>?_
 refine q9w ?_
 cases h
 exact (hend _ (by kernel_rfl)).2
abbrev q22b:Type:=qi4×qi4×Unit
abbrev q22c:Type:=Int
noncomputable def q22d (d:Nat):Ent:=⟨tysT,(orc [(q17z d).s,(q21b d).s,(q186 d).s]),f179,mkPl [] [([0],[2,3]),([1],[4])] [] [],d,179,[.row qi3 true,.row qi3 true],.undef,[.i .i64]⟩
theorem q22e (d:Nat):COK prog (q22d d).s:=Ent.k mixed tys (qeo (ac1 (q180 d) (ac1 (q21c d) (ac1 (q187 d) ac0)))) ⟨by kernel_rfl,by kernel_rfl,by kernel_rfl⟩
noncomputable def q22f (d:Nat) (x:q22b):Option q22c:=(q22d d).F x
def q22g (d:Nat):q22b->Option q22c:=fun ((xAa,xAb,xAc,xAd,_),(xBa,xBb,xBc,xBd,_),_) =>
 (obnd (q21d d ((xAa,xAb,()),(xBa,xBb,()),())) fun r1=>(obnd (q181 d ((xAc,()),(xBc,()),())) fun r2=>(obnd (q181 d ((xAd,()),(xBd,()),())) fun r3=>(obnd (q188 d ((([(r1,()),(r2,()),(r3,())]:List Di),()),())) fun r4=>some r4))))
theorem q22h (d:Nat) (x:q22b):q22f d x=q22g d x:=by kernel_rfl
def q22i (F:q22b->Option q22c):Go.Tx.Spec:=⟨179,[.row qi3 true,.row qi3 true],q22c,F,encF .undef [.i .i64]⟩
theorem q22j (d:Nat):COK prog (q22i (q22f d)):=q22e d
def q22k (F:q1ip->Option q1iq):Go.Tx.Spec:=⟨150,[.row Riii true,.row Riii true],q1iq,F,encF (.tup [(.agg [.undef,.undef]),.undef]) [.i .i64,.i .i64,.i .i64]⟩
theorem q22l (d:Nat):COK prog (q22k (q1it d)):=q1is d
abbrev q22m:List Pk:=[.row qhx true]
abbrev q22n:Type:=qhy×Unit
abbrev q22o:Type:=List qi4
def q22p (r:q22o):LV×List Ob:=(.rs 0,[.rows qi3 r])
def q22q (F:q22n->Option q22o):Go.Tx.Spec:=⟨134,q22m,q22o,F,q22p⟩
abbrev q22r:Type:=(q1ip->Option q1iq)×(q21s->Option q21t)×(q22b->Option q22c)×Unit
def q22s (d:Nat):q22r:=(q1it d,q229 d,q22f d,())
def q22t (C:q22r):List Go.Tx.Spec:=[q22k C.1,q21v C.2.1,q22i C.2.2.1]
abbrev q22u:Type:=List Diii
def q22v (v:q22u):St:=⟨[(0,.agg [.fz Riii v])],[]⟩
abbrev q22w:Type:=List Diii
def q22x (v:q22w):St:=⟨[(1,.ptr 0 0)],[.cells [.fz Riii v]]⟩
def q22y (C:q22r) (v:q22u):Dt q22w:=(Dt.ret v)
abbrev q2n4 {V Y:Type}:=@rg q22r V Y tysT (fun C=>(orcS 178 179 qi3 C.2.2.1 (orc (q22t C)))) 32
theorem q22z C v:q2n4 (regO (qeu f134) 0) false [(1,(.box [.val Riii]))] q22v q22y q22x C v:=rgI (by kernel_rfl)
abbrev q230:Type:=List Diii×List qi4
def q231 (v:q230):St:=⟨[(1,.ptr 0 0),(3,.ptr 1 0)],[.cells [.fz Riii v.1],.cells [.rs 2],.rows qi3 v.2]⟩
def q232 (C:q22r) (v:q22w):Dt q230:=(Dt.ret (v,([]:List qi4)))
theorem q233 C v:q2n4 (regO (qeu f134) 1) false [(1,(.box [.val Riii])),(3,(.box [.own qi3]))] q22x q232 q231 C v:=rgI (by kernel_rfl)
abbrev q234:Type:=List qi4×List Diii
def q235 (v:q234):St:=⟨[(3,.ptr 0 0),(9,.fn 213 [.ptr 2 0])],[.cells [.rs 1],.rows qi3 v.1,.cells [.fz Riii v.2]]⟩
def q236 (C:q22r) (v:q230):Dt q234:=(Dt.bnd (C.2.1 ((v.1,()),())) fun r1=>(Dt.ret (v.2,r1)))
theorem q237 C v:q2n4 (regO (qeu f134) 2) false [(3,(.box [.own qi3])),(9,.any)] q231 q236 q235 C v:=rgI (by kernel_rfl)
abbrev q238:Type:=Int×Int×Int×Int×Int×Int×List qi4
def q239 (v:q238):St:=⟨[(10,.agg [i6 v.1,i6 v.2.1,i6 v.2.2.1]),(11,.agg [i6 v.2.2.2.1,i6 v.2.2.2.2.1,i6 v.2.2.2.2.2.1]),(3,.ptr 0 0)],[.cells [.rs 1],.rows qi3 v.2.2.2.2.2.2]⟩
abbrev q23a:Type:=Int×Int×Int×List qi4×Int×Int×Int
def q23b (v:q23a):St:=⟨[(3,.ptr 0 0),(4,.ptr 2 0),(11,.agg [i6 v.1,i6 v.2.1,i6 v.2.2.1])],[.cells [.rs 1],.rows qi3 v.2.2.2.1,.cells [i6 v.2.2.2.2.1,i6 v.2.2.2.2.2.1,i6 v.2.2.2.2.2.2]]⟩
def q23c (C:q22r) (v:q238):Dt q23a:=(Dt.ret (v.2.2.2.1,v.2.2.2.2.1,v.2.2.2.2.2.1,v.2.2.2.2.2.2,v.1,v.2.1,v.2.2.1))
theorem q23d C v:q2n4 (regO (qeu f134) 3) false [(3,(.box [.own qi3])),(4,.any),(11,.any)] q239 q23c q23b C v:=rgI (by kernel_rfl)
abbrev q23e:Type:=List qi4×Int×Int×Int×Int×Int×Int
def q23f (v:q23e):St:=⟨[(3,.ptr 0 0),(4,.ptr 2 0),(5,.ptr 3 0)],[.cells [.rs 1],.rows qi3 v.1,.cells [i6 v.2.1,i6 v.2.2.1,i6 v.2.2.2.1],.cells [i6 v.2.2.2.2.1,i6 v.2.2.2.2.2.1,i6 v.2.2.2.2.2.2]]⟩
def q23g (C:q22r) (v:q23a):Dt q23e:=(Dt.ret (v.2.2.2.1,v.2.2.2.2.1,v.2.2.2.2.2.1,v.2.2.2.2.2.2,v.1,v.2.1,v.2.2.1))
theorem q23h C v:q2n4 (regO (qeu f134) 4) false [(3,(.box [.own qi3])),(4,.any),(5,.any)] q23b q23g q23f C v:=rgI (by kernel_rfl)
abbrev q23i:Type:=Int×List qi4×Int×Int×Int×Int×Int×Int×Int×Int
def q23j (v:q23i):St:=⟨[(3,.ptr 0 0),(4,.ptr 2 0),(5,.ptr 3 0),(6,.ptr 4 0),(7,i6 v.1)],[.cells [.rs 1],.rows qi3 v.2.1,.cells [i6 v.2.2.1,i6 v.2.2.2.1,i6 v.2.2.2.2.1],.cells [i6 v.2.2.2.2.2.1,i6 v.2.2.2.2.2.2.1,i6 v.2.2.2.2.2.2.2.1],.cells [i6 v.2.2.2.2.2.2.2.2.1,i6 v.2.2.2.2.2.2.2.2.2]]⟩
def q23k (C:q22r) (v:q23e):Dt q23i:=(Dt.bnd (C.1 ((v.2.1,v.2.2.1,v.2.2.2.1,()),(v.2.2.2.2.1,v.2.2.2.2.2.1,v.2.2.2.2.2.2,()),())) fun r1=>(Dt.ret (r1.2.2,v.1,v.2.1,v.2.2.1,v.2.2.2.1,v.2.2.2.2.1,v.2.2.2.2.2.1,v.2.2.2.2.2.2,r1.1,r1.2.1)))
theorem q23l C v:q2n4 (regO (qeu f134) 5) false [(3,(.box [.own qi3])),(4,.any),(5,.any),(6,.any),(7,.any)] q23f q23k q23j C v:=rgI (by kernel_rfl)
abbrev q23m:Type:=Bool×List qi4×Int×Int×Int×Int×Int×Int×Int×Int
def q23n (v:q23m):St:=⟨[(3,.ptr 0 0),(4,.ptr 2 0),(5,.ptr 3 0),(6,.ptr 4 0),(19,.bool v.1)],[.cells [.rs 1],.rows qi3 v.2.1,.cells [i6 v.2.2.1,i6 v.2.2.2.1,i6 v.2.2.2.2.1],.cells [i6 v.2.2.2.2.2.1,i6 v.2.2.2.2.2.2.1,i6 v.2.2.2.2.2.2.2.1],.cells [i6 v.2.2.2.2.2.2.2.2.1,i6 v.2.2.2.2.2.2.2.2.2]]⟩
def q23o (C:q22r) (v:q23i):Dt q23m:=(Dt.ret ((v.1==(0:Int)),v.2.1,v.2.2.1,v.2.2.2.1,v.2.2.2.2.1,v.2.2.2.2.2.1,v.2.2.2.2.2.2.1,v.2.2.2.2.2.2.2.1,v.2.2.2.2.2.2.2.2.1,v.2.2.2.2.2.2.2.2.2))
theorem q23p C v:q2n4 (regO (qeu f134) 6) false [(3,(.box [.own qi3])),(4,.any),(5,.any),(6,.any),(19,.any)] q23j q23o q23n C v:=rgI (by kernel_rfl)
abbrev q23q:Type:=List qi4
def q23r (v:q23q):St:=⟨[(3,.ptr 0 0)],[.cells [.rs 1],.rows qi3 v]⟩
def q23s (C:q22r) (v:q23m):Dt q23q:=(Dt.ite (apB (List.length v.2.1) (List.length ([(v.2.2.2.2.2.2.2.2.1,v.2.2.2.2.2.2.2.2.2,v.2.2.1,v.2.2.2.2.2.1,())]:List qi4))) (Dt.ret (v.2.1++([(v.2.2.2.2.2.2.2.2.1,v.2.2.2.2.2.2.2.2.2,v.2.2.1,v.2.2.2.2.2.1,())]:List qi4))) Dt.fail)
theorem q23t C v:q2n4 (regO (qeu f134) 7) false [(3,(.box [.own qi3]))] q23n q23s q23r C v:=rgI (by kernel_rfl)
def q23u (d:Nat) (x:Diii×Diii) (y:List qi4):Option (List qi4×Int×Int×Int×Int×Int×Int) :=
 (q23c (q22s d) (x.1.1,x.1.2.1,x.1.2.2.1,x.2.1,x.2.2.1,x.2.2.2.1,y)).eval fun y3 =>
 (q23g (q22s d) y3).eval fun y4 =>
 some y4
def q23v (d:Nat) (w:List qi4×Int×Int×Int×Int×Int×Int):Option (List qi4) :=
 (q23k (q22s d) w).eval fun y5 =>
 (q23o (q22s d) y5).eval fun y6 =>
 bif y6.1 then ((q23s (q22s d) y6).eval fun y7 =>
 some y7) else (some y6.2.1)
def q23w (C:q22r) (v:q23q):Dt q23q:=(Dt.bnd (qy4 (τ:=qi3) C.2.2.1 v) fun r1=>(Dt.ret r1))
theorem q23x C v:q2n4 (regO (qeu f134) 8) false [(3,(.box [.own qi3]))] q23r q23w q23r C v:=rgI (by kernel_rfl)
abbrev q23y:Type:=List qi4
def q23z (v:q23y):St:=⟨[(2,.rs 0)],[.rows qi3 v]⟩
def q240 (C:q22r) (v:q23q):Dt q23y:=(Dt.ret v)
theorem q241 C v:q2n4 (regO (qeu f134) 9) false [(2,(.own qi3))] q23r q240 q23z C v:=rgI (by kernel_rfl)
def q242 (d:Nat) (x:q22n):Option q22o :=
 (q22y (q22s d) x.1.1).eval fun y0 =>
 (q232 (q22s d) y0).eval fun y1 =>
 (q236 (q22s d) y1).eval fun y2 =>
 bif q1zm y2.2 then Option.bind (q1z6 (q1z9 (q23u d) (q23v d)) (q1zl y2.2) y2.1) fun z1 =>
 ((q23w (q22s d) z1).eval fun y8 =>
 (q240 (q22s d) y8).eval fun y9 =>
 some y9) else none
theorem q243 (d:Nat):COK prog (q22q (q242 d)):=by
 have hm:prog.follows .mixedOrders=true:=mixed
 have hT:=tys
 have hC0:OrcOK prog (orc (q22t (q22s d))):=qeo (by
  intro S hS
  simp only[q22t,List.mem_cons,List.not_mem_nil,or_false]at hS
  rcases hS with rfl | rfl | rfl
  · exact q22l d
  · exact q22a d
  · exact q22j d)
 have hC:OrcOK prog (orcS 178 179 qi3 (q22s d).2.2.1 (orc (q22t (q22s d)))):=(q1zt (q22j d) hC0)
 refine q1ze (c:=qeu f134) (fn:=f134) hT (by kernel_rfl) (by kernel_rfl) (by decide) fun x r h w0 φ0 Q hend=>?_
 replace h:q242 d x=some r:=h
 unfold q242 at h
 show Run prog w0 φ0 32 (qeu f134) ⟨[(0,.agg [.fz Riii x.1.1])],[]⟩ Q
 refine q2n0 hm hT hC (q22z (q22s d) x.1.1) h fun y0 h=>?_
 refine q2n0 hm hT hC (q233 (q22s d) y0) h fun y1 h=>?_
 refine q9x ?_
 refine q2n0 hm hT hC (q237 (q22s d) y1) h fun y2 h=>?_
 refine q9y ?_
 obtain⟨hg1,h⟩:=qev h
 obtain⟨z1,hz1,h⟩:=Option.bind_eq_some_iff.1 h
 refine q1zd (b0:=2) (α:=Diii×Diii) (X:=List qi4) (Z:=List qi4×Int×Int×Int×Int×Int×Int) (encs:=fun x=>#[.agg #[.int .i64 x.1.1,.int .i64 x.1.2.1,.int .i64 x.1.2.2.1],.agg #[.int .i64 x.2.1,.int .i64 x.2.2.1,.int .i64 x.2.2.2.1]]) (xs:=(q1zl y2.2)) (A:=q23u d) (B:=q23v d) (S1:=fun w=>⟨[(3,.ptr 0 0),(4,.ptr 2 0),(5,.ptr 3 0)],[.cells [.rs 1],.rows qi3 w.1,.cells [.int .i64 w.2.1,.int .i64 w.2.2.1,.int .i64 w.2.2.2.1],.cells [.int .i64 w.2.2.2.2.1,.int .i64 w.2.2.2.2.2.1,.int .i64 w.2.2.2.2.2.2]]⟩) (x0:=y2.1) (z:=z1) (tmE:=fun y=>[(3,.ptr 0 0)]) (keys:=[3]) (obs:=fun y=>[.cells [.rs 1],.rows qi3 y]) (xp:=fun x=>[(10,.agg [.int .i64 x.1.1,.int .i64 x.1.2.1,.int .i64 x.1.2.2.1]),(11,.agg [.int .i64 x.2.1,.int .i64 x.2.2.1,.int .i64 x.2.2.2.1])]) (ks:=[9]) (fun y n l h=>q1zf (k:=[3]) (tm:=[(3,.ptr 0 0)]) rfl h) (by kernel_rfl) (by kernel_rfl) rfl (by kernel_rfl) (by kernel_rfl) (enters_of Tryz.func213 (by kernel_rfl) rfl) (q1zs hg1) (fun _=>rfl) (fun x t hN=>?xp1) (fun l V φ2 Q2 x y y2 h hD hV hend=>?as1) (fun l V φ2 Q2 w y2 h hD hV hend=>?bd1) hz1 (fun φ1 hl1=>?rs1)
 case xp1 =>
  rw[q1zk]
  refine⟨by simpa using hN,fun n l hn=>?_,fun n hn=>?_⟩
  ·
   simp only[List.mem_cons,List.not_mem_nil,or_false,Prod.mk.injEq]at hn
   rcases hn with⟨rfl,rfl⟩ | ⟨rfl,rfl⟩
   ·
    exact⟨_,(q1zh rfl).trans (q1zg (by (try simp only[Array.size_setIfInBounds]);omega)),fun η=>VR.aggL (VRs.cons (.int _ _) (VRs.cons (.int _ _) (VRs.cons (.int _ _) (VRs.nil))))⟩
   ·
    exact⟨_,q1zg (by (try simp only[Array.size_setIfInBounds]);omega),fun η=>VR.aggL (VRs.cons (.int _ _) (VRs.cons (.int _ _) (VRs.cons (.int _ _) (VRs.nil))))⟩
  ·
   simp only[List.mem_cons,List.not_mem_nil,or_false]at hn
   rcases hn with rfl
   all_goals exact (q1zh rfl).trans ((q1zh rfl))
 case as1 =>
  unfold q23u at h
  show RunI l prog V w0 φ2 32 _ ⟨[(10,.agg [.int .i64 x.1.1,.int .i64 x.1.2.1,.int .i64 x.1.2.2.1]),(11,.agg [.int .i64 x.2.1,.int .i64 x.2.2.1,.int .i64 x.2.2.2.1]),(3,.ptr 0 0)],[.cells [.rs 1],.rows qi3 y]⟩ Q2
  refine q1z0 ?_
  refine q1z4 hm hT hC hV (by kernel_rfl) (by kernel_rfl) (q23d (q22s d) (x.1.1,x.1.2.1,x.1.2.2.1,x.2.1,x.2.2.1,x.2.2.2.1,y)) h ?_
  intro y3 h
  refine q1yq ?_
  refine q1z4 hm hT hC hV (by kernel_rfl) (by kernel_rfl) (q23h (q22s d) y3) h ?_
  intro y4 h
  cases h
  exact hend
 case bd1 =>
  unfold q23v at h
  show RunI l prog V w0 φ2 32 _ ⟨[(3,.ptr 0 0),(4,.ptr 2 0),(5,.ptr 3 0)],[.cells [.rs 1],.rows qi3 w.1,.cells [.int .i64 w.2.1,.int .i64 w.2.2.1,.int .i64 w.2.2.2.1],.cells [.int .i64 w.2.2.2.2.1,.int .i64 w.2.2.2.2.2.1,.int .i64 w.2.2.2.2.2.2]]⟩ Q2
  refine q1z1 (q1z0 ?_)
  refine q1z4 hm hT hC hV (by kernel_rfl) (by kernel_rfl) (q23l (q22s d) w) h ?_
  intro y5 h
  refine q1yq (q1z0 ?_)
  refine q1z4 hm hT hC hV (by kernel_rfl) (by kernel_rfl) (q23p (q22s d) y5) h ?_
  intro y6 h
  refine q1yq ?_
  refine q1z3 (v:=y6.1) (by kernel_rfl) h ?_ ?_
  ·
   intro h
   refine q1z4 hm hT hC hV (by kernel_rfl) (by kernel_rfl) (q23t (q22s d) y6) h ?_
   intro y7 h
   refine q1yr ?_
   cases h
   exact hend
  ·
   intro h
   refine q1yx (q1yr ?_)
   refine q1zi (s:=⟨[(3,.ptr 0 0)],[.cells [.rs 1],.rows qi3 y6.2.1]⟩) [4,5,6,19] (by kernel_rfl) ?_
   cases h
   exact hend
 case rs1 =>
  refine q9m (q9j ?_)
  refine q2n0 hm hT hC (q23x (q22s d) z1) h fun y8 h=>?_
  refine q2n0 hm hT hC (q241 (q22s d) y8) h fun y9 h=>?_
  refine q9w ?_
  cases h
  exact (hend.2 _ hl1 _ (by kernel_rfl)).2
abbrev q244:Type:=qi4×Dii×Unit
abbrev q245:Type:=Int
noncomputable def q246 (d:Nat):Ent:=⟨tysT,(orc [(q21b d).s]),f181,mkPl [] [([0],[2,3]),([1],[9]),([2,3],[4])] [] [],d,181,[.row qi3 true,.row Rii true],.undef,[.i .i64]⟩
theorem q247 (d:Nat):COK prog (q246 d).s:=Ent.k mixed tys (qeo (ac1 (q21c d) ac0)) ⟨by kernel_rfl,by kernel_rfl,by kernel_rfl⟩
noncomputable def q248 (d:Nat) (x:q244):Option q245:=(q246 d).F x
def q249 (d:Nat):q244->Option q245:=fun ((xAa,xAb,_,_,_),(xBa,xBb,_),_) =>
 (obnd (q21d d ((xAa,xAb,()),(xBa,xBb,()),())) fun r1=>(bif (decide (r1>0)) then some 1 else some (-1:Int)))
theorem q24a (d:Nat) (x:q244):q248 d x=q249 d x:=by kernel_rfl
abbrev q24b:Type:=qi7×Dii×(Unit)×Unit
abbrev q24c:Type:=Int×Bool
noncomputable def q24d (d:Nat):Ent:=⟨tysT,(orc [(q246 d).s]),f180,mkPl [(0,(.val qi3))] [([0],[0,2,4]),([1],[0,2,4,8]),([2,6,7],[0,2,4,8,9,10]),([3],[0,2,4,8,9,10,17]),([4],[0,2,4,8,9,10,11]),([5],[0,2,4,8,9,10,11,31]),([8],[6,7])] [] [(3,[0,2,4,8,9,10])],d,180,[.row qi6 false,.row Rii true,.fn 181 []],(.tup [.undef,.undef]),[.i .i64,.bo]⟩
theorem q24e (d:Nat):COK prog (q24d d).s:=Ent.k mixed tys (qeo (ac1 (q247 d) ac0)) ⟨by kernel_rfl,by kernel_rfl,by kernel_rfl⟩
noncomputable def q24f (d:Nat) (x:q24b):Option q24c:=(q24d d).F x
abbrev q24g:Type:=List qi4×Int×Int×Int×Int×Int
def q24h (d:Nat) (self1:q24g->Option q24c):q24g->Option q24c:=fun (x1a,x1b,x1c,x1d,x1e,x1f) =>
 (bif (decide (x1c<x1d)) then (let a3:=(wi (shrI .u64 (IntKind.wrap .u64 (wi (x1c+x1d))) 1));(obif (inB a3 x1a.length) (let e2:=(elt qi5 x1a a3.toNat);(obnd (q248 d ((e2.1,e2.2.1,e2.2.2.1,e2.2.2.2.1,()),(x1e,x1f,()),())) fun r3=>(bif (decide (r3<0)) then (self1 (x1a,x1b,(wi (a3+1)),x1d,x1e,x1f)) else (self1 (x1a,x1b,x1c,a3,x1e,x1f))))) none)) else (obif (decide (x1c<x1b)) (obif (inB x1c x1a.length) (let e1:=(elt qi5 x1a x1c.toNat);(obnd (q248 d ((e1.1,e1.2.1,e1.2.2.1,e1.2.2.2.1,()),(x1e,x1f,()),())) fun r2=>(some (x1c,(r2==0))))) none) (some (x1c,false))))
def q24i:q24g->St:=fun (x1a,x1b,x1c,x1d,x1e,x1f)=>⟨[(0,.fz qi3 x1a),(2,.fn 181 []),(4,.ptr 0 0),(8,i6 x1b),(9,i6 x1c),(10,i6 x1d)],[.cells [i6 x1e,i6 x1f]]⟩
theorem q24j (d:Nat) (self1:St->Option q24c) (x:q24g):(q24d d).b 3 [] self1 (q24i x)=q24h d (fun y=>self1 (q24i y)) x:=by kernel_rfl
def q24k (d:Nat) (L1_g:q24g->Option q24c):q24b->Option q24c:=fun ((xAa,_),(xBa,xBb,_),_) =>
 (let a1:=(xAa.length:Int);(L1_g (xAa,a1,0,a1,xBa,xBb)))
theorem q24l (d:Nat) (x:q24b):q24f d x=q24k d (iter (q24h d) d) x:=by
 have h:q24f d x=q24k d (fun y=>iter ((q24d d).b 3 []) d (q24i y)) x:=by kernel_rfl
 rw[h];congr 1<;>(funext y;first | rfl | exact qfi (q24j d) d y)
abbrev q24m:Type:=qi7×Dii×Unit
abbrev q24n:Type:=Int
noncomputable def q24o (d:Nat):Ent:=⟨tysT,(orc [(q24d d).s]),f135,mkPl [(0,(.val qi3))] [([0],[0,3]),([1],[5]),([2],[4])] [] [],d,135,[.row qi6 false,.row Rii true],.undef,[.i .i64]⟩
theorem q24p (d:Nat):COK prog (q24o d).s:=Ent.k mixed tys (qeo (ac1 (q24e d) ac0)) ⟨by kernel_rfl,by kernel_rfl,by kernel_rfl⟩
noncomputable def q24q (d:Nat) (x:q24m):Option q24n:=(q24o d).F x
def q24r (d:Nat):q24m->Option q24n:=fun ((xAa,_),(xBa,xBb,_),_) =>
 (obnd (q24f d ((xAa,()),(xBa,xBb,()),(),())) fun (r1a,_)=>some r1a)
theorem q24s (d:Nat) (x:q24m):q24q d x=q24r d x:=by kernel_rfl
abbrev q24t:Type:=qhy×Dii×Dii×Unit
abbrev q24u:Type:=List qi4×Int
noncomputable def q24v (d:Nat):Ent:=⟨tysT,(orc [(q21i d).s,q22q (q242 d),(q24o d).s]),f66,mkPl [(3,(.box [.val Riii])),(6,(.val qi3)),(9,(.own qi3))] [([0],[3,4,5]),([1],[3,4,5,8]),([2],[3,4,5,18]),([4],[4,5,9]),([5],[9,10,11]),([6],[6,7])] [] [],d,66,[.row qhx true,.row Rii true,.row Rii true],(.tup [.undef,.undef]),[.z qi3,.i .i64]⟩
theorem q24w (d:Nat):COK prog (q24v d).s:=Ent.k mixed tys (qeo (ac1 (q21j d) (ac1 (q243 d) (ac1 (q24p d) ac0)))) ⟨by kernel_rfl,by kernel_rfl,by kernel_rfl⟩
noncomputable def q24x (d:Nat) (x:q24t):Option q24u:=(q24v d).F x
def q24y (d:Nat):q24t->Option q24u:=fun ((xAa,_),(xBa,xBb,_),(xCa,xCb,_),_) =>
 (obnd (q21k d ((xAa,()),(([(xBa,xBb,()),(xCa,xCb,())]:List Dii),()),())) fun r1=>(bif (r1 != 0) then none else (obnd (q242 d ((xAa,()),())) fun r2=>(obnd (q24q d ((r2,()),(xBa,xBb,()),())) fun r3=>(obnd (q24q d ((r2,()),(xCa,xCb,()),())) fun r4=>(obif (q42 r3 r4 r4 r2.length) (some ((List.drop r3.toNat (List.take r4.toNat r2)),0)) none))))))
theorem q24z (d:Nat) (x:q24t):q24x d x=q24y d x:=by kernel_rfl
abbrev q250:Type:=Du×Du×Du×Unit
abbrev q251:Type:=Int×Int
noncomputable def q252 (d:Nat):Ent:=⟨tysT,(orc []),f139,mkPl [] [([0],[0,1,2]),([1],[0,1,2,20]),([3],[0,1,2,24]),([5],[1,2,27]),([6],[6,7])] [] [],d,139,[.row Ru false,.row Ru false,.row Ru false],(.tup [.undef,.undef]),[.i .u64,.i .u64]⟩
theorem q253 (d:Nat):COK prog (q252 d).s:=Ent.k mixed tys (qeo ac0) ⟨by kernel_rfl,by kernel_rfl,by kernel_rfl⟩
noncomputable def q254 (d:Nat) (x:q250):Option q251:=(q252 d).F x
def q255 (d:Nat):(Int×Int×Int×Bool)->Option q251:=fun (ya,yb,yc,_) =>
 (bif (ya==0) then (obif (yc==0) none (obif (yc==0) none (some ((IntKind.wrap .u64 (Int.tdiv yb yc)),(Int.tmod yb yc))))) else none)
def q256 (d:Nat):(Int×Int×Int×Bool)->Option q251:=fun (ya,yb,yc,_) =>
 (let a2:=(decide (yc<=ya));(bif a2 then none else (q255 d (ya,yb,yc,a2))))
def q257 (d:Nat):q250->Option q251:=fun ((xAa,_),(xBa,_),(xCa,_),_) =>
 (let a1:=(xCa==0);(bif a1 then none else (q256 d (xAa,xBa,xCa,a1))))
theorem q258 (d:Nat) (x:q250):q254 d x=q257 d x:=by kernel_rfl
abbrev q259:Type:=Du×Du×Du×Unit
abbrev q25a:Type:=Int
noncomputable def q25b (d:Nat):Ent:=⟨tysT,(orc [(q252 d).s]),f138,mkPl [] [([0],[0,1,2]),([1],[8]),([2],[6])] [] [],d,138,[.row Ru false,.row Ru false,.row Ru false],.undef,[.i .u64]⟩
theorem q25c (d:Nat):COK prog (q25b d).s:=Ent.k mixed tys (qeo (ac1 (q253 d) ac0)) ⟨by kernel_rfl,by kernel_rfl,by kernel_rfl⟩
noncomputable def q25d (d:Nat) (x:q259):Option q25a:=(q25b d).F x
def q25e (d:Nat):q259->Option q25a:=fun ((xAa,_),(xBa,_),(xCa,_),_) =>
 (obif (xCa==0) none (obnd (q254 d (((Int.tmod xAa xCa),()),(xBa,()),(xCa,()),())) fun (_,r1b)=>some r1b))
theorem q25f (d:Nat) (x:q259):q25d d x=q25e d x:=by kernel_rfl
abbrev q25g:Type:=Diii×Dii×Unit
abbrev q25h:Type:=Int×Int×Int
noncomputable def q25i (d:Nat):Ent:=⟨tysT,(orcI 137 q204 (orc [qsy (qt0 d),qty (qu0 d),q1zy (q200 d),(q25b d).s,(q252 d).s])),f69,mkPl [] [([0],[2,3,4]),([1],[2,3,4,6]),([2],[2,3,4,24]),([4],[3,4,7]),([5,8],[3,4,7,8]),([6],[3,4,7,8,42]),([7],[3,4,7,8,9,10]),([9],[4,7,8,11]),([10],[4,7,8,11,12]),([11,13],[4,7,8,11,12,13]),([12],[4,7,8,11,12,13,69]),([14],[4,7,8,11,13,14]),([15],[4,8,11,13,14,15]),([16],[4,8,11,13,15,96]),([18],[4,8,17]),([19],[4,17,105]),([20],[4,17]),([21],[4,5])] [] [(12,[4,7,8,11,12,13])],d,69,[.row Riii true,.row Rii true],(.tup [(.agg [.undef,.undef]),.undef]),[.i .i64,.i .i64,.i .i64]⟩
theorem q25j (d:Nat):COK prog (q25i d).s:=Ent.k mixed tys (q205 q209 (qeo (ac1 (qt2 d) (ac1 (qu2 d) (ac1 (q202 d) (ac1 (q25c d) (ac1 (q253 d) ac0))))))) ⟨by kernel_rfl,by kernel_rfl,by kernel_rfl⟩
noncomputable def q25k (d:Nat) (x:q25g):Option q25h:=(q25i d).F x
abbrev q25l:Type:=Bool×Int×Int×Int×Int×Int×Int×Int
def q25m (d:Nat):(Int×Int×Int×Int)->Option q25h:=fun (_,_,yc,yd) =>
 some (yc,yd,0)
def q25n (d:Nat):(Bool×Int×Int×Int×Bool×Int×Int)->Option q25h:=fun (ya,yb,yc,yd,ye,yf,yg) =>
 (bif ye then none else (obif (yc==0) none (let a8:=(IntKind.wrap .i64 yd);(let a9:=(wi (IntKind.wrap .u64 (Int.tdiv yb yc)));(bif ya then (q25m d (yf,yg,(wi (0-a8)),a9)) else (q25m d (yf,yg,a8,a9)))))))
def q25o (d:Nat) (self1:q25l->Option q25h):q25l->Option q25h:=fun (x1a,x1b,x1c,x1d,x1e,x1f,x1g,x1h) =>
 (bif (decide (x1c>0)) then (obif (x1c==0) none (self1 (x1a,x1b,(Int.tmod x1d x1c),x1c,x1e,x1f,x1g,x1h))) else (obif (x1d==0) none (obif (x1d==0) none (obnd (q254 d (((Int.tmod (IntKind.wrap .u64 x1g) x1d),()),(x1h,()),(x1d,()),())) fun (r7a,_)=>(obif (decide ((IntKind.wrap .u64 (Int.tdiv (IntKind.wrap .u64 x1g) x1d))>0)) (q25n d (x1a,x1b,x1d,r7a,true,x1e,x1f)) (q25n d (x1a,x1b,x1d,r7a,(decide (r7a>9223372036854775807)),x1e,x1f)))))))
def q25p:q25l->St:=fun (x1a,x1b,x1c,x1d,x1e,x1f,x1g,x1h)=>⟨[(4,.ptr 0 0),(7,.ptr 1 0),(8,.bool x1a),(11,u6 x1b),(12,u6 x1c),(13,u6 x1d)],[.cells [i6 x1e,i6 x1f],.cells [i6 x1g,u6 x1h]]⟩
def q25q (d:Nat) (L1_g:q25l->Option q25h):(Bool×Int×Int×Int×Int×Int×Int)->Option q25h:=fun (ya,_,yc,yd,ye,yf,yg) =>
 (let a4:=(IntKind.wrap .u64 yc);(obnd (q25d d (((IntKind.wrap .u64 yf),()),(yg,()),(a4,()),())) fun r6=>(L1_g (ya,a4,r6,a4,yd,ye,yf,yg))))
theorem q25r (d:Nat) (self1:St->Option q25h) (x:q25l):(q25i d).b 12 [] self1 (q25p x)=q25o d (fun y=>self1 (q25p y)) x:=by kernel_rfl
def q25s (d:Nat) (L1_g:q25l->Option q25h):q25g->Option q25h:=fun ((xAa,xAb,xAc,_),(xBa,xBb,_),_) =>
 (obnd (qu0 d ((xAa,xAb,xAc,()),())) fun r1=>(obnd (qt0 d ((xBa,xBb,()),())) fun r2=>(bif ((tmax r1 r2) != 0) then none else (obnd (q200 d ((xAb,xBb,xAc,xBa,()),())) fun (r3a,r3b)=>(let a3:=(decide (r3a<0));(bif a3 then (obnd (q204 0 (r3b) 0) fun (r4a,r4b)=>(q25q d L1_g (a3,xBa,xBb,0,0,(wi ((wi (0-r3a))-(IntKind.wrap .i64 r4b))),r4a))) else (q25q d L1_g (a3,xBa,xBb,0,0,r3a,r3b))))))))
theorem q25t (d:Nat) (x:q25g):q25k d x=q25s d (iter (q25o d) d) x:=by
 have h:q25k d x=q25s d (fun y=>iter ((q25i d).b 12 []) d (q25p y)) x:=by kernel_rfl
 rw[h];congr 1<;>(funext y;first | rfl | exact qfi (q25r d) d y)
abbrev q25u:Type:=qi1×qid×Unit
abbrev q25v:Type:=Int×Int×List Diii×Int×Int×Int×Int×Int×List qi4
noncomputable def q25w (d:Nat):Ent:=⟨tysT,(orc [q12b (q12c d),(q20c d).s,(q211 d).s,(q17k d).s,(q24v d).s,qzs (qzu d),qzj (qzl d),(q25i d).s]),f20,mkPl [(2,(.box [.any,.any,.val Riii])),(4,(.box [.any,.any,.own Riii])),(5,(.box [.any,.any,.any,.any,.any,.val qi3]))] [([0,1,2,13],[2,3,4,5]),([3],[2,3,4,5,24]),([5],[2,3,4,5,28]),([6],[2,3,4,5,28,29]),([8],[2,3,4,5,28,40]),([10],[2,3,4,5,28,51]),([12],[2,3,4,5,28,62]),([14],[2,3,4,5,70]),([16],[2,3,4,5,7]),([17],[2,3,4,5,82]),([18,20,27,30],[4,5]),([19],[3,4,5]),([21],[2,4,5,28,100]),([22],[2,4,5,9,10]),([23],[2,4,5,9,111]),([25],[2,4,5,9,11]),([26],[2,4,5,11]),([28],[4,5,133])] [] [],d,20,[.row qi0 true,.row qic true],(.tup [(.agg [.undef,.undef,.undef]),(.agg [.undef,.undef,.undef,.undef,.undef,.undef])]),[.i .i64,.i .i64,.o Riii,.i .i64,.i .i64,.i .i64,.i .i64,.i .i64,.z qi3]⟩
theorem q25x (d:Nat):COK prog (q25w d).s:=Ent.k mixed tys (qeo (ac1 (q12d d) (ac1 (q20d d) (ac1 (q212 d) (ac1 (q17l d) (ac1 (q24w d) (ac1 (qzw d) (ac1 (qzn d) (ac1 (q25j d) ac0))))))))) ⟨by kernel_rfl,by kernel_rfl,by kernel_rfl⟩
noncomputable def q25y (d:Nat) (x:q25u):Option q25v:=(q25w d).F x
def q25z (d:Nat):(Int×Int×List Diii×Int×Int×Int×Int×Int×List qi4)->Option q25v:=fun (ya,yb,yc,yd,ye,yf,yg,yh,yi) =>
 some (ya,yb,yc,yd,ye,yf,yg,yh,yi)
def q260 (d:Nat):q25u->Option q25v:=fun ((xAa,xAb,xAc,_),(xBa,xBb,xBc,xBd,xBe,xBf,xBg,_),_) =>
 (let a2:=([]:List qi4);(obnd (q12c d ((xAc,()),())) fun r1=>(obnd (q213 d ((xBa,xBb,xBc,xBd,xBe,xBf,xBg,()),())) fun r2=>(bif (!r2) then none else (bif (xBa==1) then none else (bif (xBa==2) then none else (bif (xBa==3) then none else (bif (xBa==4) then (obnd (q20e d ((xBf,xBg,()),())) fun r3=>(bif (r3 != 0) then none else (obnd (q17m d ((xBf,xBg,()),(xAa,xAb,()),())) fun (r4a,_)=>(bif (decide (r4a<=0)) then (some (xAa,xAb,r1,44,0,0,0,0,([]:List qi4))) else (obnd (q24x d ((xAc,()),(xAa,xAb,()),(xBf,xBg,()),())) fun (r5a,r5b)=>(q25z d (xBf,xBg,r1,r5b,0,0,0,0,r5a))))))) else (bif (xBa==5) then (obnd (qzu d ((xAc,()),(xAa,xAb,()),())) fun (r3a,r3b)=>(bif (r3b != 0) then none else (obnd (qzl d ((xAc,()),(r3a,()),())) fun (r4a,r4b,r4c,_)=>(obnd (q25k d ((r4a,r4b,r4c,()),(xAa,xAb,()),())) fun (r5a,r5b,r5c)=>(q25z d (xAa,xAb,r1,r5c,r3a,0,r5a,r5b,a2)))))) else (bif (xBa==6) then none else (q25z d (xAa,xAb,r1,0,0,0,0,0,a2))))))))))))
theorem q261 (d:Nat) (x:q25u):q25y d x=q260 d x:=by kernel_rfl
abbrev q262:Type:=qi1×qid×Unit
abbrev q263:Type:=Int×Int×List Diii×Int×Int×Int×Int×Int×List qi4×Int
noncomputable def q264 (d:Nat):Ent:=⟨tysT,(orc [(q20u d).s,(q25w d).s]),f7,mkPl [(2,(.box [.any,.any,.val Riii])),(4,(.box [.any,.any,.own Riii])),(5,(.box [.any,.any,.any,.any,.any,.val qi3])),(8,(.box [.any,.any,.own Riii])),(9,(.box [.any,.any,.any,.any,.any,.val qi3]))] [([0],[2,3,4,5]),([1],[2,3,4,5,7]),([2],[2,3,4,5,13]),([4],[4,5,8,9]),([5],[4,5,6])] [] [],d,7,[.row qi0 true,.row qic true],(.tup [(.agg [.undef,.undef,.undef]),(.agg [.undef,.undef,.undef,.undef,.undef,.undef]),.undef]),[.i .i64,.i .i64,.o Riii,.i .i64,.i .i64,.i .i64,.i .i64,.i .i64,.z qi3,.i .i64]⟩
theorem q265 (d:Nat):COK prog (q264 d).s:=Ent.k mixed tys (qeo (ac1 (q20v d) (ac1 (q25x d) ac0))) ⟨by kernel_rfl,by kernel_rfl,by kernel_rfl⟩
noncomputable def q266 (d:Nat) (x:q262):Option q263:=(q264 d).F x
def q267 (d:Nat):q262->Option q263:=fun ((xAa,xAb,xAc,_),(xBa,xBb,xBc,xBd,xBe,xBf,xBg,_),_) =>
 (obnd (q20w d ((xAa,xAb,xAc,()),())) fun r1=>(bif (r1 != 0) then none else (obnd (q25y d ((xAa,xAb,xAc,()),(xBa,xBb,xBc,xBd,xBe,xBf,xBg,()),())) fun (r2a,r2b,r2c,r2d,r2e,r2f,r2g,r2h,r2i)=>some (r2a,r2b,r2c,r2d,r2e,r2f,r2g,r2h,r2i,0))))
theorem q268 (d:Nat) (x:q262):q266 d x=q267 d x:=by kernel_rfl
end
end Go.Proofs.YtfjjdnaggblaaaaGreat
namespace Go.Tx
open Go
theorem q269 {n:Int} (h:-9223372036854775808<=n/\n<=9223372036854775807):wi n=n:=IntWalk.i64_in _ h
theorem wiN {n:Nat} (h:n<=9223372036854775807):wi (n:Int)=(n:Int):=q269 (by omega)
theorem wiS {n:Nat} (h:n<9223372036854775807):wi ((n:Int)+1)=((n+1:Nat):Int):=by rw[q269 (by omega)];rfl
theorem eltI {α:Type} {z:α} {l:List α} {n:Nat} {x:α} (h:l[n]?=some x):elt z l n=x:=by unfold elt;rw[h];rfl
theorem inN {k n:Nat} (h:k<n):inB (k:Int) n=true:=q3m.2 ⟨by omega,by omega⟩
theorem inI {i:Int} {n:Nat} (h0:0<=i) (h:i<n):inB i n=true:=q3m.2 ⟨h0,h⟩
theorem q26a {S R:Type} {L:(S->Option R)->S->Option R} (st:Nat->S) (r:R) (n:Nat) (hs:∀ i self,i<n->L self (st i)=self (st (i+1))) (he:∀ self,L self (st n)=some r):∀ d i,i<=n->n-i<d->iter L d (st i)=some r:=by
 intro d
 induction d with
 | zero=>intro i _ h;omega
 | succ d ih =>
  intro i hi h
  rw[iter]
  by_cases hn:i=n
  ·subst hn;exact he _
  ·rw[hs i _ (by omega)]
   exact ih (i+1) (by omega) (by omega)
theorem q26b {S R:Type} {L:(S->Option R)->S->Option R} (st:Nat->S) (r:R) (n:Nat) (hs:∀ i self,i<n->L self (st i)=self (st (i+1))) (he:∀ self,L self (st n)=some r) {d:Nat} (hd:n<d) {x:S} (hx:x=st 0):iter L d x=some r:=by
 rw[hx];exact q26a st r n hs he d 0 (Nat.zero_le _) (by omega)
theorem q26c {S R:Type} {L:(S->Option R)->S->Option R} (st:Nat->S) (r:R) (k:Nat) (hs:∀ i self,i<k->L self (st i)=self (st (i+1))) (he:∀ self,L self (st k)=some r) {d:Nat} (hd:k<d) {x:S} (hx:x=st 0):iter L d x=some r :=
 q26b st r k hs he hd hx
theorem q26d {S:Type} {L:(S->Option (Int×Bool))->S->Option (Int×Bool)} (st:Nat->Nat->S) (n m:Nat) (b:Bool) (hm:m<=n)
 (h1:∀ self lo hi,lo<hi->hi<=n->(lo+hi)/2<m->L self (st lo hi)=self (st ((lo+hi)/2+1) hi))
 (h2:∀ self lo hi,lo<hi->hi<=n->m<=(lo+hi)/2->L self (st lo hi)=self (st lo ((lo+hi)/2)))
 (h3:∀ self,L self (st m m)=some ((m:Int),b)):∀ d lo hi,lo<=m->m<=hi->hi<=n->hi-lo<d->iter L d (st lo hi)=some ((m:Int),b):=by
 intro d
 induction d with
 | zero=>intro lo hi _ _ _ h;omega
 | succ d ih =>
  intro lo hi hl hh hn h
  rw[iter]
  by_cases he:lo=hi
  ·have h4:lo=m:=by omega
   subst h4;subst he;exact h3 _
  ·by_cases hk:(lo+hi)/2<m
   ·rw[h1 _ _ _ (by omega) hn hk];exact ih _ _ (by omega) hh hn (by omega)
   ·rw[h2 _ _ _ (by omega) hn (by omega)];exact ih _ _ hl (by omega) (by omega) (by omega)
theorem q26e {lo hi:Nat} (h:lo+hi<=1000000):wi (shrI .u64 (IntKind.wrap .u64 (wi ((lo:Int)+(hi:Int)))) 1)=(((lo+hi)/2:Nat):Int):=by
 rw[q269 (n:=(lo:Int)+(hi:Int)) (by omega),IntKind.wrap_u64,show ((lo:Int)+(hi:Int))%18446744073709551616=((lo+hi:Nat):Int) by omega]
 have:shrI .u64 ((lo+hi:Nat):Int) 1=(((lo+hi)/2:Nat):Int):=by
  unfold shrI
  rw[show min (1:Int).toNat IntKind.u64.bits=1 from rfl,Int.fdiv_eq_ediv_of_nonneg _ (by decide)]
  omega
 rw[this,q269 (by omega)]
end Go.Tx
namespace Go.Proofs.YtfjjdnaggblaaaaGreat
open Go Go.Tx Go.Pel
theorem q26f (d:Nat) (a b:Int):q16g d ((a,()),(b,()),())=some (cmpZ a b):=by
 simp only[q16i,q16h,q16b,q16a,obnd,bne_self_eq_false,cond_false]
 unfold cmpZ
 by_cases h1:a<b
 ·simp only[h1,decide_true,cond_true,if_true]
 ·by_cases h2:b<a
  ·simp only[h1,h2,gt_iff_lt,decide_true,decide_false,cond_true,cond_false,if_true,if_false]
  ·simp only[h1,h2,gt_iff_lt,decide_false,cond_false,if_false]
theorem q26g (d:Nat) (a b:Int):q178 d ((a,()),(b,()),())=some (cmpZ a b):=by
 simp only[q17a,q179,q173,q172,obnd,bne_self_eq_false,cond_false]
 unfold cmpZ
 by_cases h1:a<b
 ·simp only[h1,decide_true,cond_true,if_true]
 ·by_cases h2:b<a
  ·simp only[h1,h2,gt_iff_lt,decide_true,decide_false,cond_true,cond_false,if_true,if_false]
  ·simp only[h1,h2,gt_iff_lt,decide_false,cond_false,if_false]
theorem q26h (d:Nat) (a b:Int):q181 d ((a,()),(b,()),())=some (cmpZ a b):=by
 simp only[q183,q182,q17w,q17v,obnd,bne_self_eq_false,cond_false]
 unfold cmpZ
 by_cases h1:a<b
 ·simp only[h1,decide_true,cond_true,if_true]
 ·by_cases h2:b<a
  ·simp only[h1,h2,gt_iff_lt,decide_true,decide_false,cond_true,cond_false,if_true,if_false]
  ·simp only[h1,h2,gt_iff_lt,decide_false,cond_false,if_false]
theorem q26i (d:Nat) (a:Int) (h:i64B a=true):q16n d ((a,()),())=some (a.natAbs:Int):=by
 have h:=qpj h
 simp only[q16p,q16o,obnd]
 by_cases h1:a<0
 ·simp only[h1,decide_true,cond_true,IntKind.wrap_u64]
  exact congrArg some (by omega:((0:Int)-a%18446744073709551616)%18446744073709551616=(a.natAbs:Int))
 ·simp only[h1,decide_false,cond_false,IntKind.wrap_u64]
  exact congrArg some (by omega:(a%18446744073709551616:Int)=(a.natAbs:Int))
theorem q26k (d:Nat) (a b:Int) (ha:i64B a=true) (hb:i64B b=true):q16u d ((a,()),(b,()),())=some (!((decide (a<0))==(decide (b<0))),(((a*b).natAbs/18446744073709551616:Nat):Int),(((a*b).natAbs%18446744073709551616:Nat):Int)):=by
 have e1:=q26i d a ha
 have e2:=q26i d b hb
 have ha':=qpj ha
 have hb':=qpj hb
 have e3:qsi d (((a.natAbs:Int),()),((b.natAbs:Int),()),())=some (((a.natAbs:Int)*(b.natAbs:Int))/18446744073709551616,((a.natAbs:Int)*(b.natAbs:Int))%18446744073709551616):=by
  rw[qsj _ _ (by unfold qsh u64B;simp only[Bool.and_eq_true,decide_eq_true_eq];omega)]
 simp only[q16w,q16v,obnd,e1,e2,e3]
 rw[Int.natAbs_mul]
 simp
theorem ltZ (a b:Int):cmpZ a b=-1/\a<b∨cmpZ a b=0/\a=b∨cmpZ a b=1/\b<a:=by
 unfold cmpZ
 repeat' split
 all_goals omega
theorem q26l (d:Nat) (n1 n2:Bool) (P Q:Nat):q17f d ((n1,((P/18446744073709551616:Nat):Int),((P%18446744073709551616:Nat):Int),()),(n2,((Q/18446744073709551616:Nat):Int),((Q%18446744073709551616:Nat):Int),()),())=some (cmpZ (P:Int) (Q:Int)):=by
 simp only[q17h,q17g,obnd,q26g]
 rcases ltZ ((P/18446744073709551616:Nat):Int) ((Q/18446744073709551616:Nat):Int) with⟨h1,h2⟩ | ⟨h1,h2⟩ | ⟨h1,h2⟩
 ·simp only[h1,show ((-1:Int) != 0)=true from rfl,cond_true]
  rw[qqk (by omega)]
 ·simp only[h1,show ((0:Int) != 0)=false from rfl,cond_false]
  rcases ltZ (P:Int) (Q:Int) with⟨k1,k2⟩ | ⟨k1,k2⟩ | ⟨k1,k2⟩
  ·rw[k1,qqk (by omega)]
  ·rw[k1,qqm (by omega)]
  ·rw[k1,qql (by omega)]
 ·simp only[h1,show ((1:Int) != 0)=true from rfl,cond_true]
  rw[qql (by omega)]
theorem q26m (d:Nat) (n1 d1 n2 d2:Int) (h1:i64B n1=true) (h2:i64B d1=true) (h3:i64B n2=true) (h4:i64B d2=true):q162 d ((n1,d1,()),(n2,d2,()),())=some (tmax (qjo n1 d1) (qjo n2 d2)):=by
 have e1:qt0 d ((n1,d1,()),())=some (qjo n1 d1):=qt1 _ _ (by unfold qsz;simp only[h1,h2,Bool.and_self])
 have e2:qt0 d ((n2,d2,()),())=some (qjo n2 d2):=qt1 _ _ (by unfold qsz;simp only[h3,h4,Bool.and_self])
 simp only[q164,q163,obnd,e1,e2]
theorem q26n (d:Nat) {n1 d1 n2 d2:Int} (h1:i64B n1=true) (h2:i64B d1=true) (h3:i64B n2=true) (h4:i64B d2=true) (c1:qjo n1 d1=0) (c2:qjo n2 d2=0):q17m d ((n1,d1,()),(n2,d2,()),())=some (cmpQ n1 d1 n2 d2,0):=by
 have e0:=q26m d n1 d1 n2 d2 h1 h2 h3 h4
 rw[c1,c2]at e0
 obtain⟨g1,_,_⟩:=qjv c1
 obtain⟨g2,_,_⟩:=qjv c2
 have e1:=q26k d n1 d2 h1 h4
 have e2:=q26k d n2 d1 h3 h2
 have e3:=q26f d n1 n2
 simp only[q17p,q17o,q17n,obnd,e0,e1,e2,e3,q26l,show tmax 0 0=0 from rfl,show ((0:Int) != 0)=false from rfl,cond_false]
 unfold cmpQ
 have p1:0<d1:=by omega
 have p2:0<d2:=by omega
 have s1:(n1<0->n1*d2<0)/\(0<=n1->0<=n1*d2):=⟨fun h=>Int.mul_neg_of_neg_of_pos h p2,fun h=>Int.mul_nonneg h (by omega)⟩
 have s2:(n2<0->n2*d1<0)/\(0<=n2->0<=n2*d1):=⟨fun h=>Int.mul_neg_of_neg_of_pos h p1,fun h=>Int.mul_nonneg h (by omega)⟩
 generalize n1*d2=P at *
 generalize n2*d1=Q at *
 by_cases k1:n1<0<;>by_cases k2:n2<0<;>simp only[k1,k2,decide_true,decide_false,beq_self_eq_true,Bool.not_true,Bool.not_false,cond_true,cond_false,Bool.false_beq,Bool.true_beq]
 ·have:=s1.1 k1
  have:=s2.1 k2
  rcases ltZ (P.natAbs:Int) (Q.natAbs:Int) with⟨g1,g2⟩ | ⟨g1,g2⟩ | ⟨g1,g2⟩
  ·rw[g1,qql (a:=P) (b:=Q) (by omega)];rfl
  ·rw[g1,qqm (a:=P) (b:=Q) (by omega)];rfl
  ·rw[g1,qqk (a:=P) (b:=Q) (by omega)];rfl
 ·have:=s1.1 k1
  have:=s2.2 (by omega)
  rw[qqk (by omega),qqk (by omega)]
 ·have:=s1.2 (by omega)
  have:=s2.1 k2
  rw[qql (by omega),qql (by omega)]
 ·have:=s1.2 (by omega)
  have:=s2.2 (by omega)
  rw[show (P.natAbs:Int)=P by omega,show (Q.natAbs:Int)=Q by omega]
theorem q26o (d:Nat) (P:Int):q1ml d ((decide (P<0),((P.natAbs/18446744073709551616:Nat):Int),((P.natAbs%18446744073709551616:Nat):Int),()),())=some (cmpZ P 0):=by
 simp only[q1mo,q1mn,obnd]
 by_cases h0:P=0
 ·subst h0;rfl
 ·have hne:¬ (((P.natAbs/18446744073709551616:Nat):Int)=0/\((P.natAbs%18446744073709551616:Nat):Int)=0):=by omega
  have hh:(bif (((P.natAbs/18446744073709551616:Nat):Int)==0) then (((P.natAbs%18446744073709551616:Nat):Int)==0) else false)=false:=by
   cases h1:(((P.natAbs/18446744073709551616:Nat):Int)==0) with
   | false=>rfl
   | true=>rw[cond_true,beq_eq_false_iff_ne];rw[beq_iff_eq]at h1;intro h2;exact hne ⟨h1,h2⟩
  cases h1:(((P.natAbs/18446744073709551616:Nat):Int)==0) with
  | false =>
   simp only[cond_false]
   rcases ltZ P 0 with⟨k1,k2⟩ | ⟨k1,k2⟩ | ⟨k1,k2⟩
   ·simp only[q1mm,k1,k2,decide_true,cond_true,cond_false]
   ·exact absurd k2 h0
   ·simp only[q1mm,k1,show ¬ P<0 by omega,decide_false,cond_false]
  | true =>
   rw[h1,cond_true]at hh
   simp only[cond_true,hh,cond_false]
   rcases ltZ P 0 with⟨k1,k2⟩ | ⟨k1,k2⟩ | ⟨k1,k2⟩
   ·simp only[q1mm,k1,k2,decide_true,cond_true,cond_false]
   ·exact absurd k2 h0
   ·simp only[q1mm,k1,show ¬ P<0 by omega,decide_false,cond_false]
theorem q26p (d:Nat) (n1 n2:Bool) (P Q:Nat):q1mt d ((n1,((P/18446744073709551616:Nat):Int),((P%18446744073709551616:Nat):Int),()),(n2,((Q/18446744073709551616:Nat):Int),((Q%18446744073709551616:Nat):Int),()),())=some (cmpZ (P:Int) (Q:Int)):=by
 simp only[q1mv,q1mu,obnd]
 obtain⟨a,ha⟩:∃ a:Int,((P/18446744073709551616:Nat):Int)=a:=⟨_,rfl⟩
 obtain⟨b,hb⟩:∃ a:Int,((P%18446744073709551616:Nat):Int)=a:=⟨_,rfl⟩
 obtain⟨c,hc⟩:∃ a:Int,((Q/18446744073709551616:Nat):Int)=a:=⟨_,rfl⟩
 obtain⟨e,he⟩:∃ a:Int,((Q%18446744073709551616:Nat):Int)=a:=⟨_,rfl⟩
 rw[ha,hb,hc,he]
 rcases ltZ a c with⟨_,k2⟩ | ⟨_,k2⟩ | ⟨_,k2⟩
 ·have e1:(a != c)=true:=by simp;omega
  simp only[e1,k2,decide_true,cond_true]
  rw[qqk (by omega)]
 ·have e1:(a != c)=false:=by simp;omega
  simp only[e1,cond_false]
  rcases ltZ b e with⟨_,g2⟩ | ⟨_,g2⟩ | ⟨_,g2⟩
  ·have e2:(b != e)=true:=by simp;omega
   simp only[e2,g2,decide_true,cond_true]
   rw[qqk (by omega)]
  ·have e2:(b != e)=false:=by simp;omega
   simp only[e2,cond_false]
   rw[qqm (by omega)]
  ·have e2:(b != e)=true:=by simp;omega
   simp only[e2,show ¬ b<e by omega,decide_false,cond_true,cond_false]
   rw[qql (by omega)]
 ·have e1:(a != c)=true:=by simp;omega
  simp only[e1,show ¬ a<c by omega,decide_false,cond_true,cond_false]
  rw[qql (by omega)]
theorem q26q (d:Nat) (n1 d1 n2 d2:Int) (h1:i64B n1=true) (h2:i64B d1=true) (h3:i64B n2=true) (h4:i64B d2=true):q1n0 d ((n1,d1,()),(n2,d2,()),())=some (cmpQ n1 d1 n2 d2):=by
 have e1:qsr d ((n1,()),(d2,()),())=some (decide (n1*d2<0),(((n1*d2).natAbs/18446744073709551616:Nat):Int),(((n1*d2).natAbs%18446744073709551616:Nat):Int)):=qss _ _ (by unfold qsq;simp only[h1,h4,Bool.and_self])
 have e2:qsr d ((n2,()),(d1,()),())=some (decide (n2*d1<0),(((n2*d1).natAbs/18446744073709551616:Nat):Int),(((n2*d1).natAbs%18446744073709551616:Nat):Int)):=qss _ _ (by unfold qsq;simp only[h3,h2,Bool.and_self])
 unfold cmpQ
 generalize n1*d2=P at *
 generalize n2*d1=Q at *
 have hs:=@qs5 P Q
 have hn:=@qs6 P Q
 have hp:=@qs7 P Q
 simp only[q1n2,q1n1,obnd,e1,e2,q26o,q26p]
 by_cases hg:cmpZ P 0=cmpZ Q 0
 ·have g1:(cmpZ P 0 != cmpZ Q 0)=false:=by simp[hg]
  simp only[g1,cond_false]
  by_cases h0:cmpZ P 0<0
  ·simp only[h0,decide_true,cond_true];rw[hn hg h0]
  ·simp only[h0,decide_false,cond_false];rw[hp hg h0]
 ·have g1:(cmpZ P 0 != cmpZ Q 0)=true:=by simp[hg]
  simp only[g1,cond_true]
  have:=hs hg
  by_cases h0:cmpZ P 0<cmpZ Q 0
  ·rw[if_pos h0]at this;simp only[h0,decide_true,cond_true];rw[this]
  ·rw[if_neg h0]at this;simp only[h0,decide_false,cond_false];rw[this]
end Go.Proofs.YtfjjdnaggblaaaaGreat
namespace Go.Pel
open Go Go.Tx
abbrev T3:Type:=Int×Int×Int×Unit
abbrev M4:Type:=Int×Int×Int×Int×Unit
theorem q_le {a b c d1 d2 d3:Int} (h1:1<=d1) (h2:1<=d2) (h3:1<=d3) (h:a*d2<=b*d1) (k:b*d3<=c*d2):a*d3<=c*d1:=by
 have e1:a*d3*d2<=c*d1*d2:=by
  have:=Int.mul_le_mul_of_nonneg_right h (show (0:Int)<=d3 by omega)
  have:=Int.mul_le_mul_of_nonneg_right k (show (0:Int)<=d1 by omega)
  rw[Int.mul_right_comm a d3 d2,Int.mul_right_comm c d1 d2]
  have e:b*d1*d3=b*d3*d1:=Int.mul_right_comm b d1 d3
  omega
 exact Int.le_of_mul_le_mul_right e1 (by omega)
theorem q_lt {a b c d1 d2 d3:Int} (h1:1<=d1) (h2:1<=d2) (h3:1<=d3) (h:a*d2<b*d1) (k:b*d3<=c*d2):a*d3<c*d1:=by
 have e1:a*d3*d2<c*d1*d2:=by
  have:=Int.mul_lt_mul_of_pos_right h (show (0:Int)<d3 by omega)
  have:=Int.mul_le_mul_of_nonneg_right k (show (0:Int)<=d1 by omega)
  rw[Int.mul_right_comm a d3 d2,Int.mul_right_comm c d1 d2]
  have e:b*d1*d3=b*d3*d1:=Int.mul_right_comm b d1 d3
  omega
 exact Int.lt_of_mul_lt_mul_right e1 (by omega)
theorem q26r {a b c d1 d2 d3:Int} (h1:1<=d1) (h2:1<=d2) (h3:1<=d3) (h:a*d2<=b*d1) (k:b*d3<c*d2):a*d3<c*d1:=by
 have e1:a*d3*d2<c*d1*d2:=by
  have:=Int.mul_le_mul_of_nonneg_right h (show (0:Int)<=d3 by omega)
  have:=Int.mul_lt_mul_of_pos_right k (show (0:Int)<d1 by omega)
  rw[Int.mul_right_comm a d3 d2,Int.mul_right_comm c d1 d2]
  have e:b*d1*d3=b*d3*d1:=Int.mul_right_comm b d1 d3
  omega
 exact Int.lt_of_mul_lt_mul_right e1 (by omega)
theorem q_eq {a b d1 d2:Int} (h1:qjo a d1=0) (h2:qjo b d2=0) (h:a*d2=b*d1):a=b/\d1=d2:=by
 obtain⟨p1,_,g1⟩:=qjv h1
 obtain⟨p2,_,g2⟩:=qjv h2
 have hn:a.natAbs*d2.toNat=b.natAbs*d1.toNat:=by
  have:=congrArg Int.natAbs h
  rw[Int.natAbs_mul,Int.natAbs_mul]at this
  rwa[show d2.natAbs=d2.toNat by omega,show d1.natAbs=d1.toNat by omega]at this
 have k1:d1.toNat∣d2.toNat:=Nat.Coprime.dvd_of_dvd_mul_left (k:=d1.toNat) (m:=a.natAbs) (n:=d2.toNat) g1 ⟨b.natAbs,by rw[hn,Nat.mul_comm]⟩
 have k2:d2.toNat∣d1.toNat:=Nat.Coprime.dvd_of_dvd_mul_left (k:=d2.toNat) (m:=b.natAbs) (n:=d1.toNat) g2 ⟨a.natAbs,by rw[← hn,Nat.mul_comm]⟩
 have e:d1.toNat=d2.toNat:=Nat.dvd_antisymm k1 k2
 have e':d1=d2:=by omega
 subst e'
 exact⟨Int.eq_of_mul_eq_mul_right (by omega) h,rfl⟩
def okM (x:M4):Prop:=qjo x.1 x.2.1=0
def cmpM (x y:M4):Int:=orZ (cmpQ x.1 x.2.1 y.1 y.2.1) (orZ (cmpZ x.2.2.1 y.2.2.1) (cmpZ x.2.2.2.1 y.2.2.2.1))
def ltM (x y:M4):Bool:=decide (cmpM x y<0)
theorem q26s (x y:M4):ltM x y=true↔x.1*y.2.1<y.1*x.2.1∨(x.1*y.2.1=y.1*x.2.1/\(x.2.2.1<y.2.2.1∨(x.2.2.1=y.2.2.1/\x.2.2.2.1<y.2.2.2.1))):=by
 unfold ltM cmpM cmpQ orZ cmpZ
 rw[decide_eq_true_eq]
 generalize x.1*y.2.1=P
 generalize y.1*x.2.1=Q
 repeat' split
 all_goals omega
theorem q26t (x y:M4) (h:ltM x y=false):¬ (x.1*y.2.1<y.1*x.2.1∨(x.1*y.2.1=y.1*x.2.1/\(x.2.2.1<y.2.2.1∨(x.2.2.1=y.2.2.1/\x.2.2.2.1<y.2.2.2.1)))):=by
 intro k;rw[(q26s x y).2 k]at h;cases h
theorem q26u (x:M4):ltM x x=false:=by
 rw[← Bool.not_eq_true,q26s];omega
theorem q26v {x y:M4} (h:ltM x y=true):ltM y x=false:=by
 rw[q26s]at h
 rw[← Bool.not_eq_true,q26s];omega
theorem q26w {x y z:M4} (hx:okM x) (hy:okM y) (hz:okM z) (h:ltM x y=true) (k:ltM y z=true):ltM x z=true:=by
 obtain⟨p1,_,_⟩:=qjv hx
 obtain⟨p2,_,_⟩:=qjv hy
 obtain⟨p3,_,_⟩:=qjv hz
 rw[q26s]at h k ⊢
 have a1:=@q_lt x.1 y.1 z.1 x.2.1 y.2.1 z.2.1 p1 p2 p3
 have a2:=@q26r x.1 y.1 z.1 x.2.1 y.2.1 z.2.1 p1 p2 p3
 have a3:=@q_le x.1 y.1 z.1 x.2.1 y.2.1 z.2.1 p1 p2 p3
 have a4:=@q_le z.1 y.1 x.1 z.2.1 y.2.1 x.2.1 p3 p2 p1
 generalize x.1*y.2.1=A at *
 generalize y.1*x.2.1=B at *
 generalize y.1*z.2.1=C at *
 generalize z.1*y.2.1=D at *
 generalize x.1*z.2.1=E at *
 generalize z.1*x.2.1=G at *
 rcases h with h | ⟨h,h'⟩
 ·left
  refine a1 h ?_
  rcases k with k | ⟨k,_⟩<;>omega
 ·rcases k with k | ⟨k,k'⟩
  ·left;exact a2 (by omega) k
  ·right
   refine⟨Int.le_antisymm (a3 (by omega) (by omega)) (a4 (by omega) (by omega)),by omega⟩
theorem q26x {x y z:M4} (hx:okM x) (hy:okM y) (hz:okM z) (h:ltM x y=false) (k:ltM y z=false):ltM x z=false:=by
 obtain⟨p1,_,_⟩:=qjv hx
 obtain⟨p2,_,_⟩:=qjv hy
 obtain⟨p3,_,_⟩:=qjv hz
 have h:=q26t _ _ h
 have k:=q26t _ _ k
 rw[← Bool.not_eq_true,q26s]
 have a1:=@q_lt z.1 y.1 x.1 z.2.1 y.2.1 x.2.1 p3 p2 p1
 have a2:=@q26r z.1 y.1 x.1 z.2.1 y.2.1 x.2.1 p3 p2 p1
 have a3:=@q_le x.1 y.1 z.1 x.2.1 y.2.1 z.2.1 p1 p2 p3
 have a4:=@q_le z.1 y.1 x.1 z.2.1 y.2.1 x.2.1 p3 p2 p1
 generalize x.1*y.2.1=A at *
 generalize y.1*x.2.1=B at *
 generalize y.1*z.2.1=C at *
 generalize z.1*y.2.1=D at *
 generalize x.1*z.2.1=E at *
 generalize z.1*x.2.1=G at *
 have f4:=a4 (by omega) (by omega)
 intro q
 have hE:E=G:=by omega
 have hAB:A=B:=by
  rcases Int.lt_or_eq_of_le (show B<=A by omega) with h5 | h5
  ·have:=a2 (by omega) h5;omega
  ·omega
 have hCD:C=D:=by
  rcases Int.lt_or_eq_of_le (show D<=C by omega) with h5 | h5
  ·have:=a1 h5 (by omega);omega
  ·omega
 omega
theorem q26y {x y:M4} (hx:okM x) (hy:okM y) (h:ltM x y=false) (k:ltM y x=false):x=y:=by
 have h:=q26t _ _ h
 have k:=q26t _ _ k
 obtain⟨e1,e2⟩:=q_eq hx hy (by omega)
 obtain⟨a,b,c,e,⟨⟩⟩:=x
 obtain⟨a',b',c',e',⟨⟩⟩:=y
 simp only at e1 e2 h k
 subst e1 e2
 have:c=c':=by omega
 have:e=e':=by omega
 subst_vars;rfl
theorem q270 {n d:Int} (hd:d≠0) (hn:n.natAbs<=4194304) (hd2:d.natAbs<=4194304):(mk n d).2.2=0/\qjo (mk n d).1 (mk n d).2.1=0/\(mk n d).1.natAbs<=4194304/\(mk n d).2.1<=4194304:=by
 have hg:=qkk (n:=n) hd
 rw[qkj hd]
 have b1:n.natAbs/Nat.gcd n.natAbs d.natAbs<=n.natAbs:=Nat.div_le_self _ _
 have b2:d.natAbs/Nat.gcd n.natAbs d.natAbs<=d.natAbs:=Nat.div_le_self _ _
 have b3:1<=d.natAbs/Nat.gcd n.natAbs d.natAbs:=Nat.div_pos (Nat.gcd_le_right _ (by omega)) hg
 have hc:Nat.gcd (d.natAbs/Nat.gcd n.natAbs d.natAbs) (n.natAbs/Nat.gcd n.natAbs d.natAbs)=1:=by
  rw[Nat.gcd_comm];exact Nat.coprime_div_gcd_div_gcd hg
 generalize n.natAbs/Nat.gcd n.natAbs d.natAbs=A at *
 generalize d.natAbs/Nat.gcd n.natAbs d.natAbs=B at *
 have hno:¬ (0<0∨9223372036854775807<A∨0<0∨9223372036854775807<B):=by omega
 cases (decide (n<0) != decide (d<0)) with
 | true =>
  rw[qkf hno]
  refine⟨rfl,qjr (by simp only;omega) (by simp only;omega) ?_,by simp only;omega,by simp only;omega⟩
  simp only[Int.toNat_natCast,Int.natAbs_neg,Int.natAbs_natCast];exact hc
 | false =>
  rw[qkg hno]
  refine⟨rfl,qjr (by simp only;omega) (by simp only;omega) ?_,by simp only;omega,by simp only;omega⟩
  simp only[Int.toNat_natCast,Int.natAbs_natCast];exact hc
def mtP (x:T3×T3):Option M4:=if x.1.2.2.1=x.2.2.2.1 then none else some ((mk (x.1.2.1-x.2.2.1) (x.2.2.2.1-x.1.2.2.1)).1,(mk (x.1.2.1-x.2.2.1) (x.2.2.2.1-x.1.2.2.1)).2.1,x.1.1,x.2.1,())
def q271 (l:List T3):List M4:=(q1zl l).filterMap mtP
def allM (l:List T3):List M4:=qy3 ltM (q271 l)
def okP (p:T3):Prop:=(ofP p).chk=0
theorem q272 {α:Type} {R:α->α->Prop}:∀ {l:List α} {x:α×α},x∈q1zl l->l.Pairwise R->x.1∈l/\x.2∈l/\R x.1 x.2
 | [],x,h,_=>by cases h
 | p::r, x, h, hR => by
  obtain⟨h1,h2⟩:=List.pairwise_cons.1 hR
  rw[q1zl]at h
  rcases List.mem_append.1 h with h | h
  ·obtain⟨q,hq,rfl⟩:=List.mem_map.1 h
   exact⟨List.mem_cons_self ..,List.mem_cons_of_mem _ hq,h1 q hq⟩
  ·obtain⟨a,b,c⟩:=q272 h h2
   exact⟨List.mem_cons_of_mem _ a,List.mem_cons_of_mem _ b,c⟩
theorem q273 {α:Type}:∀ l:List α,(q1zl l).length<=l.length*l.length
 | []=>Nat.le_refl _
 | p::r => by
  have:=q273 r
  rw[q1zl,List.length_append,List.length_map,List.length_cons]
  have e:(r.length+1)*(r.length+1)=r.length*r.length+2*r.length+1:=by
   rw[Nat.mul_add,Nat.add_mul];omega
  omega
theorem q274 {x:T3×T3} {y:M4} (h1:okP x.1) (h2:okP x.2) (h:mtP x=some y):okM y/\y.1.natAbs<=4194304/\y.2.1<=4194304:=by
 unfold mtP at h
 split at h
 ·cases h
 ·rename_i hb
  injection h with h;subst h
  obtain⟨_,_,a1,a2,a3,a4⟩:=qk6 (show qk2 x.1.1 x.1.2.1 x.1.2.2.1=0 from h1)
  obtain⟨_,_,b1,b2,b3,b4⟩:=qk6 (show qk2 x.2.1 x.2.2.1 x.2.2.2.1=0 from h2)
  obtain⟨_,k1,k2,k3⟩:=q270 (n:=x.1.2.1-x.2.2.1) (d:=x.2.2.2.1-x.1.2.2.1) (by omega) (by omega) (by omega)
  exact⟨k1,k2,k3⟩
structure FldOk (l:List T3):Prop where
 len:l.length<=64
 ok:∀ p∈l,okP p
 inc:l.Pairwise fun p q=>p.1<q.1
theorem q275 {l:List T3} (h:FldOk l) {y:M4} (hy:y∈q271 l):okM y/\y.1.natAbs<=4194304/\y.2.1<=4194304:=by
 obtain⟨x,hx,he⟩:=List.mem_filterMap.1 hy
 obtain⟨h1,h2,_⟩:=q272 hx h.inc
 exact q274 (h.ok _ h1) (h.ok _ h2) he
theorem q276 {l:List T3} (h:FldOk l):(q271 l).length<=4096:=by
 have h1:=List.length_filterMap_le mtP (q1zl l)
 have h2:=q273 l
 have h3:=Nat.mul_le_mul h.len h.len
 unfold q271;omega
theorem q277 (l:List T3):(allM l).Perm (q271 l):=qy6 _ _
theorem q278 {l:List T3} (h:FldOk l) {y:M4} (hy:y∈allM l):okM y/\y.1.natAbs<=4194304/\y.2.1<=4194304:=q275 h ((q277 l).mem_iff.1 hy)
theorem q279 {l:List T3} (h:FldOk l):(allM l).length<=4096:=by rw[(q277 l).length_eq];exact q276 h
theorem q27a {l:List T3} (h:FldOk l):(allM l).Pairwise fun a b=>ltM b a=false :=
 qy8 (S:=okM) (fun a b _ _ h=>q26v h) (fun a b c ha hb hc h k=>q26x ha hb hc h k) _ fun a ha=>(q275 h ha).1
end Go.Pel
namespace Go.Tx
theorem q27c {α:Type} {f g:α->α->Bool} {x:α}:∀ {l:List α},(∀ a∈l,f x a=g x a)->insL f x l=insL g x l
 | [],_=>rfl
 | y::ys, h => by
  rw[insL,insL,h y (List.mem_cons_self ..),q27c fun a ha=>h a (List.mem_cons_of_mem _ ha)]
theorem q27d {α:Type} {f g:α->α->Bool}:∀ {l:List α},(∀ a∈l,∀ b∈l,f a b=g a b)->qy3 f l=qy3 g l
 | [],_=>rfl
 | x::xs, h => by
  rw[qy3,qy3,q27d fun a ha b hb=>h a (List.mem_cons_of_mem _ ha) b (List.mem_cons_of_mem _ hb)]
  exact q27c fun a ha=>h x (List.mem_cons_self ..) a (List.mem_cons_of_mem _ ((qy6 g xs).mem_iff.1 ha))
theorem q27e {α β:Type} {step:α->List β->Option (List β)} {g:α->Option β} {P:α->Prop} (hs:∀ a acc,P a->acc.length<=99999->step a acc=some (acc++(g a).toList)):∀ (l:List α) (acc:List β),(∀ a∈l,P a)->acc.length+l.length<=99999->q1z6 step l acc=some (acc++l.filterMap g)
 | [],acc,_,_=>by simp[q1z6]
 | a::l, acc, h, hl => by
  rw[List.length_cons]at hl
  have h1:(g a).toList.length<=1:=by cases g a<;>simp
  rw[q1z6,hs a acc (h a (List.mem_cons_self ..)) (by omega)]
  show q1z6 step l (acc++(g a).toList)=_
  rw[q27e hs l _ (fun b hb=>h b (List.mem_cons_of_mem _ hb)) (by rw[List.length_append];omega)]
  cases hg:g a<;>simp[hg]
theorem q27f {τ:Row} {F:den τ×den τ×Unit->Option Int} {S:den τ->Prop} {lt:den τ->den τ->Bool} {c:den τ->den τ->Int} {xs:List (den τ)} (hS:∀ x∈xs,S x) (hF:∀ x y,S x->S y->F (x,y,())=some (c x y)) (hc:∀ x y,lt x y=decide (c x y<0)) (hi:∀ x,lt x x=false)
 (ht:∀ x y z,S x->S y->S z->lt x y=true->lt y z=true->lt x z=true) (hn:∀ x y z,S x->S y->S z->lt x y=false->lt y z=false->lt x z=false) (he:∀ x y,S x->S y->lt x y=false->lt y x=false->eqR τ x y=true) (hl:xs.length<=1000000):qy4 F xs=some (qy3 lt xs):=by
 have hlt:∀ x y,S x->S y->ltV F x y=lt x y:=fun x y hx hy=>by unfold ltV cmpV;rw[hF x y hx hy,hc]
 have hB:qy2 F xs=true:=by
  unfold qy2
  simp only[Bool.and_eq_true,List.all_eq_true,Bool.or_eq_true,Bool.not_eq_true']
  refine⟨⟨⟨⟨fun x hx y hy=>?_,fun x hx=>?_⟩,fun x hx y hy=>?_⟩,fun x hx y hy=>?_⟩,fun x hx y hy=>?_⟩
  ·rw[hF x y (hS x hx) (hS y hy)];rfl
  ·rw[hlt x x (hS x hx) (hS x hx)];exact hi x
  ·rw[hlt x y (hS x hx) (hS y hy)]
   cases hxy:lt x y with
   | false=>exact .inl rfl
   | true =>
    refine .inr fun z hz=>?_
    rw[hlt y z (hS y hy) (hS z hz),hlt x z (hS x hx) (hS z hz)]
    cases hyz:lt y z with
    | false=>exact .inl rfl
    | true=>exact .inr (ht x y z (hS x hx) (hS y hy) (hS z hz) hxy hyz)
  ·rw[hlt x y (hS x hx) (hS y hy)]
   cases hxy:lt x y with
   | true=>exact .inl rfl
   | false =>
    refine .inr fun z hz=>?_
    rw[hlt y z (hS y hy) (hS z hz),hlt x z (hS x hx) (hS z hz)]
    cases hyz:lt y z with
    | true=>exact .inl rfl
    | false=>exact .inr (hn x y z (hS x hx) (hS y hy) (hS z hz) hxy hyz)
  ·rw[hlt x y (hS x hx) (hS y hy),hlt y x (hS y hy) (hS x hx)]
   cases hxy:lt x y with
   | true=>exact .inl (.inl rfl)
   | false =>
    cases hyx:lt y x with
    | true=>exact .inl (.inr rfl)
    | false=>exact .inr (he x y (hS x hx) (hS y hy) hxy hyx)
 unfold qy4
 rw[hB,show Nat.ble xs.length 1000000=true by rw[Nat.ble_eq];exact hl]
 exact congrArg some (q27d fun a ha b hb=>hlt a b (hS a ha) (hS b hb))
end Go.Tx
namespace Go.Proofs.YtfjjdnaggblaaaaGreat
open Go Go.Tx Go.Pel
theorem q27g {a:Int} (h:a.natAbs<=9223372036854775807):i64B a=true:=by
 unfold i64B;simp only[Bool.and_eq_true,decide_eq_true_eq];omega
theorem q27h (d:Nat) (hd:5<=d) (a b c:Int):q188 d (([(a,()),(b,()),(c,())],()),())=some (orZ a (orZ b c)):=by
 obtain⟨n,rfl⟩:∃ n,d=n+5:=⟨d-5,by omega⟩
 have w1:IntKind.wrap .i64 ((0:Int)+1)=1:=by decide
 have w2:IntKind.wrap .i64 ((1:Int)+1)=2:=by decide
 have w3:IntKind.wrap .i64 ((2:Int)+1)=3:=by decide
 have w4:IntKind.wrap .i64 (1:Int)=1:=by decide
 have w5:IntKind.wrap .i64 (2:Int)=2:=by decide
 have w6:IntKind.wrap .i64 (3:Int)=3:=by decide
 have b0:inB 0 3=true:=by decide
 have b1:inB 1 3=true:=by decide
 have b2:inB 2 3=true:=by decide
 unfold orZ
 by_cases ha:a=0
 ·by_cases hb:b=0
  ·by_cases hc:c=0
   ·subst ha hb hc
    simp[q18e,q18d,q18e,q18d,q18a,iter,Dt.eval,obnd,w1,w2,w3,w4,w5,w6,b0,b1,b2,elt]
   ·subst ha hb
    simp[q18e,q18d,q18e,q18d,q18a,iter,Dt.eval,obnd,w1,w2,w3,w4,w5,w6,b0,b1,b2,elt,show (c != 0)=true by simpa using hc]
  ·subst ha
   simp[q18e,q18d,q18e,q18d,q18a,iter,Dt.eval,obnd,w1,w2,w3,w4,w5,w6,b0,b1,b2,elt,show (b != 0)=true by simpa using hb]
   intro h;exact absurd h hb
 ·simp[q18e,q18d,q18e,q18d,q18a,iter,Dt.eval,obnd,w1,w2,w3,w4,w5,w6,b0,b1,b2,elt,show (a != 0)=true by simpa using ha]
  intro h;exact absurd h ha
structure okW (x:M4):Prop where
 ok:okM x
 n:x.1.natAbs<=4194304
 d:x.2.1<=4194304
theorem okW.b1 {x:M4} (h:okW x):i64B x.1=true:=q27g (by have:=h.n;omega)
theorem okW.b2 {x:M4} (h:okW x):i64B x.2.1=true:=q27g (by have:=h.d;have:=(qjv h.ok).1;omega)
theorem q27i (d:Nat) {n1 d1 n2 d2:Int} (h1:i64B n1=true) (h2:i64B d1=true) (h3:i64B n2=true) (h4:i64B d2=true) (c1:qjo n1 d1=0) (c2:qjo n2 d2=0):q21d d ((n1,d1,()),(n2,d2,()),())=some (cmpQ n1 d1 n2 d2):=by
 rw[q21f];simp only[q21e,q26n d h1 h2 h3 h4 c1 c2,obnd]
theorem q27j (d:Nat) (hd:5<=d) {x y:M4} (hx:okW x) (hy:okW y):q22f d (x,y,())=some (cmpM x y):=by
 have e1:q21d d ((x.1,x.2.1,()),(y.1,y.2.1,()),())=some (cmpQ x.1 x.2.1 y.1 y.2.1) :=
  q27i d hx.b1 hx.b2 hy.b1 hy.b2 hx.ok hy.ok
 have e2:=q26h d x.2.2.1 y.2.2.1
 have e3:=q26h d x.2.2.2.1 y.2.2.2.1
 simp only[q22h,q22g,Dt.eval,obnd,e1,e2,e3,q27h d hd]
 rfl
theorem q27k (d:Nat) (hd:5<=d) {xs:List M4} (h:∀ x∈xs,okW x) (hl:xs.length<=1000000):qy4 (τ:=qi3) (q22f d) xs=some (qy3 ltM xs) :=
 q27f (τ:=qi3) (S:=okW) (lt:=ltM) (c:=cmpM) h (fun x y hx hy=>q27j d hd hx hy) (fun _ _=>rfl) q26u (fun x y z hx hy hz=>q26w hx.ok hy.ok hz.ok) (fun x y z hx hy hz=>q26x hx.ok hy.ok hz.ok) (fun x y hx hy h1 h2=>by
  have:=q26y hx.ok hy.ok h1 h2
  subst this
  show (x.1==x.1&&(x.2.1==x.2.1&&(x.2.2.1==x.2.2.1&&(x.2.2.2.1==x.2.2.2.1&&true))))=true
  simp only[beq_self_eq_true,Bool.and_self]) hl
theorem q27l {p:T3} (h:okP p):0<=p.1/\p.1<=65535/\-1048576<=p.2.1/\p.2.1<=1048576/\-1048576<=p.2.2.1/\p.2.2.1<=1048576:=qk6 (show qk2 p.1 p.2.1 p.2.2.1=0 from h)
theorem q27m (d:Nat) {p q:T3} (hp:okP p) (hq:okP q) (hi:p.1≠q.1):q1it d ((p.1,p.2.1,p.2.2.1,()),(q.1,q.2.1,q.2.2.1,()),()) =
 some (if p.2.2.1=q.2.2.1 then (0,0,6) else ((mk (p.2.1-q.2.1) (q.2.2.1-p.2.2.1)).1,(mk (p.2.1-q.2.1) (q.2.2.1-p.2.2.1)).2.1,0)):=by
 obtain⟨_,_,a1,a2,a3,a4⟩:=q27l hp
 obtain⟨_,_,b1,b2,b3,b4⟩:=q27l hq
 have e1:qus d ((p.1,p.2.1,p.2.2.1,()),(q.1,q.2.1,q.2.2.1,()),((0:Int),(1:Int),()),())=some 0:=by
  rw[qut _ _ (by rfl)]
  exact congrArg some (qqx ⟨hp,hq,show qjo 0 1=0 by decide⟩ hi)
 have w1:IntKind.wrap .i64 (p.2.1-q.2.1)=p.2.1-q.2.1:=IntWalk.i64_in _ (by omega)
 have w2:IntKind.wrap .i64 (q.2.2.1-p.2.2.1)=q.2.2.1-p.2.2.1:=IntWalk.i64_in _ (by omega)
 have e2:qti d ((p.2.1-q.2.1,()),(q.2.2.1-p.2.2.1,()),())=some ((mk (p.2.1-q.2.1) (q.2.2.1-p.2.2.1)).1,(mk (p.2.1-q.2.1) (q.2.2.1-p.2.2.1)).2.1,(mk (p.2.1-q.2.1) (q.2.2.1-p.2.2.1)).2.2) :=
  qtj _ _ (by unfold qth;simp only;rw[q27g (by omega),q27g (by omega)];rfl)
 simp only[q1iv,q1iu,Dt.eval,obnd,e1,show ((0:Int) != 0)=false from rfl,cond_false]
 by_cases hb:p.2.2.1=q.2.2.1
 ·simp only[hb,beq_self_eq_true,cond_true,if_true]
 ·have hb':(p.2.2.1==q.2.2.1)=false:=by simpa using hb
  have h0:=(q270 (n:=p.2.1-q.2.1) (d:=q.2.2.1-p.2.2.1) (by omega) (by omega) (by omega)).1
  simp only[hb',cond_false,hb,if_false,w1,w2,e2,h0]
theorem q27n (d:Nat) (hd:5<=d) {l:List T3} (h:FldOk l):q242 d ((l,()),())=some (allM l):=by
 have hlen:=q273 l
 have hl4:=Nat.mul_le_mul h.len h.len
 have e1:q229 d ((l,()),())=some l:=by simp only[q229,q21x,q223,q227,Dt.eval,obnd]
 have hp:q1zm l=true:=by unfold q1zm;rw[Nat.ble_eq];have:=h.len;omega
 have hstep:∀ (x:T3×T3) (acc:List M4),(okP x.1/\okP x.2/\x.1.1≠x.2.1)->acc.length<=99999->q1z9 (q23u d) (q23v d) x acc=some (acc++(mtP x).toList):=by
  rintro x acc ⟨h1,h2,h3⟩ hacc
  have e2:=q27m d h1 h2 h3
  have ha:apB acc.length 1=true:=by unfold apB;rw[Nat.ble_eq];omega
  unfold q1z9 q23u q23v mtP
  simp only[q23c,q23g,q23k,q23o,q23s,Dt.eval,obnd,q22s,e2,Option.bind_some]
  by_cases hb:x.1.2.2.1=x.2.2.2.1
  ·simp only[hb,if_true,show ((6:Int)==0)=false from rfl,cond_false]
   simp
  ·simp only[hb,if_false,show ((0:Int)==0)=true from rfl,cond_true,List.length_cons,List.length_nil,Nat.zero_add,ha]
   simp
 have e3:=q27e hstep (q1zl l) [] (fun x hx=>by
  obtain⟨g1,g2,g3⟩:=q272 hx h.inc
  exact⟨h.ok _ g1,h.ok _ g2,by omega⟩) (by simp;omega)
 have e4:=q27k d hd (xs:=q271 l) (fun x hx=>⟨(q275 h hx).1,(q275 h hx).2.1,(q275 h hx).2.2⟩) (by have:=q276 h;omega)
 simp only[q242,q22s,q22y,q232,q236,q23w,q240,Dt.eval,obnd,e1,hp,cond_true]
 rw[e3]
 simp only[Option.bind_some,List.nil_append]
 rw[show (q1zl l).filterMap mtP=q271 l from rfl,e4]
 rfl
def gtM (n dd:Int) (x:M4):Bool:=decide (0<cmpQ x.1 x.2.1 n dd)
theorem q27o (n dd:Int) (x:M4):gtM n dd x=true↔n*x.2.1<x.1*dd:=by
 unfold gtM cmpQ cmpZ
 rw[decide_eq_true_eq]
 repeat' split
 all_goals omega
theorem q27p {n dd:Int} (hd:1<=dd) {L:List M4} (hL:∀ x∈L,okM x) (hs:L.Pairwise fun a b=>ltM b a=false) {i j:Nat} {x y:M4} (hij:i<=j) (hx:L[i]?=some x) (hy:L[j]?=some y) (h:gtM n dd x=true):gtM n dd y=true:=by
 rcases Nat.lt_or_eq_of_le hij with hlt | rfl
 ·obtain⟨hi,rfl⟩:=List.getElem?_eq_some_iff.1 hx
  obtain⟨hj,rfl⟩:=List.getElem?_eq_some_iff.1 hy
  have hp:=q26t _ _ ((List.pairwise_iff_getElem.1 hs) i j hi hj hlt)
  have o1:=(qjv (hL _ (List.getElem_mem hi))).1
  have o2:=(qjv (hL _ (List.getElem_mem hj))).1
  rw[q27o]at h ⊢
  exact q_lt hd o1 o2 h (by omega)
 ·rw[hx]at hy;injection hy with hy;subst hy;exact h
def idxM (n dd:Int) (L:List M4):Nat:=L.findIdx (gtM n dd)
theorem q27r {l:List T3} (h:qmq (ptsL l)=0):FldOk l:=by
 obtain⟨h1,h2,h3⟩:=qmv h
 rw[qpe]at h1
 refine⟨h1,fun p hp=>h2 _ (List.mem_map_of_mem hp),?_⟩
 rw[List.pairwise_iff_getElem]
 intro i j hi hj hij
 have hg:∀ k (hk:k<l.length),(ptsL l)[k]?=some (ofP l[k]):=fun k hk=>by unfold ptsL;rw[List.getElem?_map,List.getElem?_eq_getElem hk];rfl
 exact qmp h3 hij (hg i hi) (hg j hj)
theorem q27s {l:List T3} (h:FldOk l):∀ x∈allM l,okW x:=fun x hx=>⟨(q278 h hx).1,(q278 h hx).2.1,(q278 h hx).2.2⟩
theorem q27t {α:Type} {p:α->Bool}:∀ {L:List α},(L.Pairwise fun a b=>p a=true->p b=true)->L.filter p=L.drop (L.findIdx p)
 | [],_=>rfl
 | x::xs, h => by
  obtain⟨h1,h2⟩:=List.pairwise_cons.1 h
  rw[List.findIdx_cons]
  cases hp:p x with
  | true =>
   rw[cond_true,List.drop_zero,List.filter_eq_self]
   intro y hy
   rcases List.mem_cons.1 hy with rfl | hy
   ·exact hp
   ·exact h1 y hy hp
  | false =>
   rw[cond_false,List.drop_succ_cons,List.filter_cons_of_neg (by rw[hp];decide),q27t h2]
theorem q27u {α:Type} {p:α->Bool}:∀ {L:List α},(L.Pairwise fun a b=>p a=true->p b=true)->L.filter (fun x=>!p x)=L.take (L.findIdx p)
 | [],_=>rfl
 | x::xs, h => by
  obtain⟨h1,h2⟩:=List.pairwise_cons.1 h
  rw[List.findIdx_cons]
  cases hp:p x with
  | true =>
   rw[cond_true,List.take_zero,List.filter_eq_nil_iff]
   intro y hy
   rcases List.mem_cons.1 hy with rfl | hy
   ·rw[hp];decide
   ·rw[h1 y hy hp];decide
  | false =>
   rw[cond_false,List.take_succ_cons,List.filter_cons_of_pos (by rw[hp];decide),q27u h2]
theorem q27v {n dd:Int} (hd:1<=dd) {L:List M4} (hL:∀ x∈L,okM x) (hs:L.Pairwise fun a b=>ltM b a=false):L.Pairwise fun a b=>gtM n dd a=true->gtM n dd b=true:=by
 rw[List.pairwise_iff_getElem]at hs ⊢
 intro i j hi hj hij h
 exact q27p hd hL (List.pairwise_iff_getElem.2 hs) (Nat.le_of_lt hij) (List.getElem?_eq_getElem hi) (List.getElem?_eq_getElem hj) h
def leQ (n dd n' dd':Int):Prop:=n*dd'<=n'*dd
theorem q27w (n dd n' dd':Int):leQ n dd n' dd' ↔ ¬ 0<cmpQ n dd n' dd':=by
 unfold leQ cmpQ cmpZ
 repeat' split
 all_goals omega
theorem q27x {n dd n' dd':Int} (hd:1<=dd) (hd':1<=dd') (hle:leQ n dd n' dd') {x:M4} (hx:okM x) (h:gtM n' dd' x=true):gtM n dd x=true:=by
 have o1:=(qjv hx).1
 rw[q27o]at h ⊢
 exact q26r hd hd' o1 hle h
theorem q27y {n dd n' dd':Int} (hd:1<=dd) (hd':1<=dd') (hle:leQ n dd n' dd') {L:List M4} (hL:∀ x∈L,okM x):idxM n dd L<=idxM n' dd' L:=by
 unfold idxM
 induction L with
 | nil=>exact Nat.le_refl _
 | cons x xs ih =>
  have:=ih fun y hy=>hL y (List.mem_cons_of_mem _ hy)
  rw[List.findIdx_cons,List.findIdx_cons]
  cases h1:gtM n dd x with
  | true=>rw[cond_true];omega
  | false =>
   cases h2:gtM n' dd' x with
   | true=>rw[q27x hd hd' hle (hL x (List.mem_cons_self ..)) h2]at h1;cases h1
   | false=>rw[cond_false,cond_false];omega
theorem q27z (n dd:Int) (L:List M4):idxM n dd L<=L.length:=List.findIdx_le_length
def cutM (L:List M4) (n dd n' dd':Int):List M4:=(L.take (idxM n' dd' L)).drop (idxM n dd L)
def inM (n dd n' dd':Int) (x:M4):Bool:=gtM n dd x && !gtM n' dd' x
theorem q280 {n dd n' dd':Int} (hd:1<=dd) (hd':1<=dd') (hle:leQ n dd n' dd') {L:List M4} (hL:∀ x∈L,okM x) (hs:L.Pairwise fun a b=>ltM b a=false):L.filter (inM n dd n' dd')=cutM L n dd n' dd':=by
 have e1:L.filter (inM n dd n' dd')=(L.filter fun x=>!gtM n' dd' x).filter (gtM n dd):=by rw[List.filter_filter];rfl
 have e2:=q27u (q27v (n:=n') (dd:=dd') hd' hL hs)
 have hp:(L.take (idxM n' dd' L)).Pairwise fun a b=>gtM n dd a=true->gtM n dd b=true:=(q27v hd hL hs).sublist (List.take_sublist _ _)
 have h3:=q27y hd hd' hle hL
 rw[e1,e2]
 unfold cutM
 rw[show L.findIdx (gtM n' dd')=idxM n' dd' L from rfl,q27t hp,List.findIdx_take]
 congr 1
 unfold idxM at h3 ⊢
 omega
theorem q281 (L:List M4) (n dd n' dd':Int):(cutM L n dd n' dd').length<=L.length:=by unfold cutM;rw[List.length_drop,List.length_take];omega
def swP (n dd n' dd':Int) (x:T3×T3):Bool:=!(leads (ofP x.1) (ofP x.2) n dd==leads (ofP x.1) (ofP x.2) n' dd')
theorem q282 (l:List T3):toPs (ptsL l)=l:=by
 unfold toPs ptsL
 rw[List.map_map]
 exact List.map_id _
def anyO {β:Type} (P:β->Bool):Option β->Bool
 | some m=>P m
 | none=>false
theorem q283 {n d:Int} (hd:d≠0) (hn:n.natAbs<=4194304) (hd2:d.natAbs<=4194304):(mk n d).1*d=n*(mk n d).2.1:=by
 have hg:=qkk (n:=n) hd
 rw[qkj hd]
 have b1:n.natAbs/Nat.gcd n.natAbs d.natAbs<=n.natAbs:=Nat.div_le_self _ _
 have b2:d.natAbs/Nat.gcd n.natAbs d.natAbs<=d.natAbs:=Nat.div_le_self _ _
 have e1:Nat.gcd n.natAbs d.natAbs*(n.natAbs/Nat.gcd n.natAbs d.natAbs)=n.natAbs:=Nat.mul_div_cancel' (Nat.gcd_dvd_left _ _)
 have e2:Nat.gcd n.natAbs d.natAbs*(d.natAbs/Nat.gcd n.natAbs d.natAbs)=d.natAbs:=Nat.mul_div_cancel' (Nat.gcd_dvd_right _ _)
 have e3:=(fun (G A B N D:Nat) (k1:G*A=N) (k2:G*B=D)=>(by subst k1 k2;rw[Nat.mul_left_comm,Nat.mul_assoc]:A*D=N*B)) _ _ _ _ _ e1 e2
 generalize n.natAbs/Nat.gcd n.natAbs d.natAbs=A at *
 generalize d.natAbs/Nat.gcd n.natAbs d.natAbs=B at *
 have e4:(A:Int)*(d.natAbs:Int)=(n.natAbs:Int)*(B:Int):=by exact_mod_cast e3
 have hno:¬ (0<0∨9223372036854775807<A∨0<0∨9223372036854775807<B):=by omega
 by_cases h1:n<0<;>by_cases h2:d<0
 ·rw[show (decide (n<0) != decide (d<0))=false by simp[h1,h2],qkg hno]
  rw[show (d.natAbs:Int)=-d by omega,show (n.natAbs:Int)=-n by omega,Int.mul_neg,Int.neg_mul]at e4
  show (A:Int)*d=n*(B:Int)
  omega
 ·rw[show (decide (n<0) != decide (d<0))=true by simp[h1,h2],qkf hno]
  rw[show (d.natAbs:Int)=d by omega,show (n.natAbs:Int)=-n by omega,Int.neg_mul]at e4
  show -(A:Int)*d=n*(B:Int)
  rw[Int.neg_mul];omega
 ·rw[show (decide (n<0) != decide (d<0))=true by simp[h1,h2],qkf hno]
  rw[show (d.natAbs:Int)=-d by omega,show (n.natAbs:Int)=n by omega,Int.mul_neg]at e4
  show -(A:Int)*d=n*(B:Int)
  rw[Int.neg_mul];omega
 ·rw[show (decide (n<0) != decide (d<0))=false by simp[h1,h2],qkg hno]
  rw[show (d.natAbs:Int)=d by omega,show (n.natAbs:Int)=n by omega]at e4
  exact e4
theorem q284 {F D B X:Int} (hD:0<D) (hB:0<B) (h:F*D=B*X):(0<F↔0<X)/\(F=0↔X=0):=by
 have f:(0<F/\0<F*D)∨(F=0/\F*D=0)∨(F<0/\F*D<0):=by
  rcases (by omega:0<F∨F=0∨F<0) with k | k | k
  ·exact .inl ⟨k,Int.mul_pos k hD⟩
  ·exact .inr (.inl ⟨k,by rw[k,Int.zero_mul]⟩)
  ·exact .inr (.inr ⟨k,Int.mul_neg_of_neg_of_pos k hD⟩)
 have g:(0<X/\0<B*X)∨(X=0/\B*X=0)∨(X<0/\B*X<0):=by
  rcases (by omega:0<X∨X=0∨X<0) with k | k | k
  ·exact .inl ⟨k,Int.mul_pos hB k⟩
  ·exact .inr (.inl ⟨k,by rw[k,Int.mul_zero]⟩)
  ·exact .inr (.inr ⟨k,Int.mul_neg_of_pos_of_neg hB k⟩)
 generalize F*D=U at *
 generalize B*X=V at *
 omega
theorem q285 {F D B X:Int} (hD:0<D) (hB:B<0) (h:F*D=B*X):(0<F↔X<0)/\(F=0↔X=0):=by
 have:=q284 (F:=F) (B:=-B) (X:=-X) hD (by omega) (by rw[Int.neg_mul_neg];exact h)
 omega
theorem q286 {p q:Pt} {n d:Int}:leads p q n d=true↔0<farD p q n d∨(farD p q n d=0/\(q.b<p.b∨(p.b=q.b/\p.id<q.id))):=by
 unfold leads
 by_cases h:farD p q n d=0
 ·rw[if_neg (by omega)]
  by_cases hb:p.b=q.b
  ·rw[if_neg (by omega),decide_eq_true_eq];omega
  ·rw[if_pos hb,decide_eq_true_eq];omega
 ·rw[if_pos h,decide_eq_true_eq];omega
theorem q287 {p:T3} (h:okP p):0<=p.1/\p.1<=65535/\-1048576<=p.2.1/\p.2.1<=1048576/\-1048576<=p.2.2.1/\p.2.2.1<=1048576:=qk6 (show qk2 p.1 p.2.1 p.2.2.1=0 from h)
theorem q288 {x:T3×T3} (hp:okP x.1) (hq:okP x.2) {m:M4} (h:mtP x=some m):x.1.2.2.1≠x.2.2.2.1/\okM m/\m.1.natAbs<=4194304/\m.2.1<=4194304/\m.2.2.1=x.1.1/\m.2.2.2.1=x.2.1/\(x.1.2.1-x.2.2.1)*m.2.1+(x.1.2.2.1-x.2.2.2.1)*m.1=0:=by
 obtain⟨_,_,a1,a2,a3,a4⟩:=q287 hp
 obtain⟨_,_,b1,b2,b3,b4⟩:=q287 hq
 unfold mtP at h
 by_cases hb:x.1.2.2.1=x.2.2.2.1
 ·rw[if_pos hb]at h;cases h
 ·rw[if_neg hb]at h
  injection h with h
  subst h
  obtain⟨_,h2,h3,h4⟩:=q270 (n:=x.1.2.1-x.2.2.1) (d:=x.2.2.2.1-x.1.2.2.1) (by omega) (by omega) (by omega)
  have h5:=q283 (n:=x.1.2.1-x.2.2.1) (d:=x.2.2.2.1-x.1.2.2.1) (by omega) (by omega) (by omega)
  refine⟨hb,h2,h3,h4,rfl,rfl,?_⟩
  show (x.1.2.1-x.2.2.1)*(mk (x.1.2.1-x.2.2.1) (x.2.2.2.1-x.1.2.2.1)).2.1+(x.1.2.2.1-x.2.2.2.1)*(mk (x.1.2.1-x.2.2.1) (x.2.2.2.1-x.1.2.2.1)).1=0
  rw[← h5,Int.mul_comm (x.1.2.2.1-x.2.2.2.1),← Int.mul_add,show x.2.2.2.1-x.1.2.2.1+(x.1.2.2.1-x.2.2.2.1)=0 by omega,Int.mul_zero]
theorem q289 {x:T3×T3} (hp:okP x.1) (hq:okP x.2) {m:M4} (h:mtP x=some m) {n dd:Int}:leads (ofP x.1) (ofP x.2) n dd=(if x.2.2.2.1<x.1.2.2.1 then !gtM n dd m else gtM n dd m):=by
 obtain⟨hb,hm,_,_,_,_,e⟩:=q288 hp hq h
 have hD:=(qjv hm).1
 have key:farD (ofP x.1) (ofP x.2) n dd*m.2.1=(x.1.2.2.1-x.2.2.2.1)*(n*m.2.1-m.1*dd):=by
  show ((x.1.2.1-x.2.2.1)*dd+(x.1.2.2.1-x.2.2.2.1)*n)*m.2.1=_
  rw[Int.add_mul,Int.mul_sub,Int.mul_right_comm (x.1.2.1-x.2.2.1),show (x.1.2.1-x.2.2.1)*m.2.1=-((x.1.2.2.1-x.2.2.2.1)*m.1) by omega,Int.neg_mul,Int.mul_assoc,Int.mul_assoc]
  omega
 have hg:=q27o n dd m
 have hl:=q286 (p:=ofP x.1) (q:=ofP x.2) (n:=n) (d:=dd)
 have hbb:(ofP x.2).b<(ofP x.1).b↔x.2.2.2.1<x.1.2.2.1:=Iff.rfl
 have hbe:(ofP x.1).b=(ofP x.2).b↔x.1.2.2.1=x.2.2.2.1:=Iff.rfl
 by_cases hlt:x.2.2.2.1<x.1.2.2.1
 ·obtain⟨s1,s2⟩:=q284 (by omega:0<m.2.1) (by omega:0<x.1.2.2.1-x.2.2.2.1) key
  rw[if_pos hlt]
  cases h1:gtM n dd m with
  | true =>
   rw[h1]at hg
   have:=hg.1 rfl
   cases h2:leads (ofP x.1) (ofP x.2) n dd with
   | false=>rfl
   | true=>rw[h2]at hl;have:=hl.1 rfl;omega
  | false =>
   rw[h1]at hg
   have:¬ n*m.2.1<m.1*dd:=fun k=>by cases hg.2 k
   exact hl.2 (by omega)
 ·obtain⟨s1,s2⟩:=q285 (by omega:0<m.2.1) (by omega:x.1.2.2.1-x.2.2.2.1<0) key
  rw[if_neg hlt]
  cases h1:gtM n dd m with
  | true =>
   rw[h1]at hg
   have:=hg.1 rfl
   exact hl.2 (by omega)
  | false =>
   rw[h1]at hg
   have:¬ n*m.2.1<m.1*dd:=fun k=>by cases hg.2 k
   cases h2:leads (ofP x.1) (ofP x.2) n dd with
   | false=>rfl
   | true=>rw[h2]at hl;have:=hl.1 rfl;omega
theorem q28a {p q:T3} (hb:p.2.2.1=q.2.2.1) {n dd n' dd':Int} (hd:1<=dd) (hd':1<=dd'):leads (ofP p) (ofP q) n dd=leads (ofP p) (ofP q) n' dd':=by
 have f:∀ {n d:Int},1<=d->(0<farD (ofP p) (ofP q) n d↔0<p.2.1-q.2.1)/\(farD (ofP p) (ofP q) n d=0↔p.2.1-q.2.1=0):=fun {n d} h=>by
  have e:farD (ofP p) (ofP q) n d=(p.2.1-q.2.1)*d:=by
   show (p.2.1-q.2.1)*d+(p.2.2.1-q.2.2.1)*n=_
   rw[hb,Int.sub_self,Int.zero_mul,Int.add_zero]
  have:=q284 (F:=p.2.1-q.2.1) (D:=d) (B:=1) (X:=farD (ofP p) (ofP q) n d) (by omega) (by omega) (by rw[e,Int.one_mul])
  omega
 obtain⟨f1,f2⟩:=f (n:=n) hd
 obtain⟨g1,g2⟩:=f (n:=n') hd'
 rw[Bool.eq_iff_iff,q286,q286]
 have hbb:(ofP p).b=(ofP q).b:=hb
 omega
theorem q28b {x:T3×T3} (hp:okP x.1) (hq:okP x.2) {n dd n' dd':Int} (hd:1<=dd) (hd':1<=dd') (hle:leQ n dd n' dd'):(!(leads (ofP x.1) (ofP x.2) n dd==leads (ofP x.1) (ofP x.2) n' dd'))=anyO (inM n dd n' dd') (mtP x):=by
 cases h:mtP x with
 | none =>
  have hb:x.1.2.2.1=x.2.2.2.1:=by
   unfold mtP at h
   by_cases hb:x.1.2.2.1=x.2.2.2.1
   ·exact hb
   ·rw[if_neg hb]at h;cases h
  rw[q28a hb hd hd',beq_self_eq_true];rfl
 | some m =>
  have hm:=(q288 hp hq h).2.1
  rw[q289 hp hq h,q289 hp hq h]
  show _=(gtM n dd m && !gtM n' dd' m)
  have hi:gtM n' dd' m=true->gtM n dd m=true:=q27x hd hd' hle hm
  by_cases hlt:x.2.2.2.1<x.1.2.2.1
  ·rw[if_pos hlt,if_pos hlt]
   cases h1:gtM n dd m<;>cases h2:gtM n' dd' m
   ·rfl
   ·rw[hi h2]at h1;cases h1
   ·rfl
   ·rfl
  ·rw[if_neg hlt,if_neg hlt]
   cases h1:gtM n dd m<;>cases h2:gtM n' dd' m
   ·rfl
   ·rw[hi h2]at h1;cases h1
   ·rfl
   ·rfl
theorem q28c {α β:Type} {f:α->Option β} {P:β->Bool}:∀ l:List α,(l.filterMap f).countP P=l.countP (fun x=>anyO P (f x))
 | []=>rfl
 | a::l => by
  rw[List.filterMap_cons,List.countP_cons,← q28c l]
  cases h:f a with
  | none=>simp[anyO]
  | some b=>rw[List.countP_cons];rfl
theorem q28i {l:List T3} (h:FldOk l) {n dd n' dd':Int} (hd:1<=dd) (hd':1<=dd') (hle:leQ n dd n' dd'):(q1zl l).countP (swP n dd n' dd')=(cutM (allM l) n dd n' dd').length:=by
 rw[← q280 hd hd' hle (fun x hx=>(q278 h hx).1) (q27a h),← List.countP_eq_length_filter,(q277 l).countP_eq]
 unfold q271
 rw[q28c]
 refine List.countP_congr fun x hx=>?_
 obtain⟨g1,g2,_⟩:=q272 hx h.inc
 exact Bool.eq_iff_iff.1 (q28b (h.ok _ g1) (h.ok _ g2) hd hd' hle)
theorem q28j {l:List T3} (h:FldOk l) {i j:Nat} {p q:T3} (hij:i<j) (hp:l[i]?=some p) (hq:l[j]?=some q):p.1<q.1:=by
 obtain⟨h1,rfl⟩:=List.getElem?_eq_some_iff.1 hp
 obtain⟨h2,rfl⟩:=List.getElem?_eq_some_iff.1 hq
 exact (List.pairwise_iff_getElem.1 h.inc) i j h1 h2 hij
theorem q28k (p:Pt) (n d:Int):leads p p n d=false:=by
 cases h:leads p p n d with
 | false=>rfl
 | true =>
  have:=q286.1 h
  have e:farD p p n d=0:=by unfold farD;rw[Int.sub_self,Int.sub_self,Int.zero_mul,Int.zero_mul];rfl
  omega
theorem q28l {p q:Pt} {n d:Int} (hi:p.id≠q.id):leads q p n d=!leads p q n d:=by
 have e:farD q p n d=-farD p q n d:=by
  unfold farD
  rw[show q.a-p.a=-(p.a-q.a) by omega,show q.b-p.b=-(p.b-q.b) by omega,Int.neg_mul,Int.neg_mul]
  omega
 have h1:=q286 (p:=p) (q:=q) (n:=n) (d:=d)
 have h2:=q286 (p:=q) (q:=p) (n:=n) (d:=d)
 cases k1:leads p q n d<;>cases k2:leads q p n d
 ·rw[k1]at h1;rw[k2]at h2
  have a1:¬ (0<farD p q n d∨(farD p q n d=0/\(q.b<p.b∨(p.b=q.b/\p.id<q.id)))):=fun k=>by cases h1.2 k
  have a2:¬ (0<farD q p n d∨(farD q p n d=0/\(p.b<q.b∨(q.b=p.b/\q.id<p.id)))):=fun k=>by cases h2.2 k
  omega
 ·rfl
 ·rfl
 ·have a1:=h1.1 k1
  have a2:=h2.1 k2
  omega
theorem q28m {l:List T3} (h:FldOk l) {p q:T3} (hp:p∈l) (hq:q∈l) (hi:p.1=q.1):p=q:=by
 obtain⟨i,hi'⟩:=List.mem_iff_getElem?.1 hp
 obtain⟨j,hj⟩:=List.mem_iff_getElem?.1 hq
 rcases (by omega:i<j∨i=j∨j<i) with k | k | k
 ·have:=q28j h k hi' hj;omega
 ·subst k;rw[hi']at hj;exact Option.some.inj hj
 ·have:=q28j h k hj hi';omega
theorem q28n {p q:T3} (hb:p.2.2.1≠q.2.2.1):∃ m,mtP (p,q)=some m:=by
 unfold mtP
 simp only[hb,if_false]
 exact⟨_,rfl⟩
theorem q28o {α:Type} {S:α×α->Bool}:∀ {L L':List α},L.Perm L'->(∀ a∈L,∀ b∈L,S (a,b)=S (b,a))->(q1zl L).countP S=(q1zl L').countP S:=by
 intro L L' h
 induction h with
 | nil=>intro _;rfl
 | @cons x l l' hp ih =>
  intro hs
  show ((l.map fun q=>(x,q))++q1zl l).countP S=((l'.map fun q=>(x,q))++q1zl l').countP S
  rw[List.countP_append,List.countP_append,ih (fun a ha b hb=>hs a (List.mem_cons_of_mem _ ha) b (List.mem_cons_of_mem _ hb)),(hp.map _).countP_eq]
 | @swap x y l =>
  intro hs
  show (((x::l).map fun q=>(y,q))++((l.map fun q=>(x,q))++q1zl l)).countP S=(((y::l).map fun q=>(x,q))++((l.map fun q=>(y,q))++q1zl l)).countP S
  rw[List.countP_append,List.countP_append,List.countP_append,List.countP_append,List.map_cons,List.map_cons,List.countP_cons,List.countP_cons,hs y (List.mem_cons_self ..) x (List.mem_cons_of_mem _ (List.mem_cons_self ..))]
  omega
 | @trans a b c h1 h2 ih1 ih2 =>
  intro hs
  rw[ih1 hs,ih2 fun u hu v hv=>hs u (h1.mem_iff.2 hu) v (h1.mem_iff.2 hv)]
def ordT (l:List T3) (n dd:Int):List T3:=(ordI n dd (ptsL l)).map toP
def idU (p:T3):Di:=(p.1,())
theorem q28p (l:List T3) (n dd:Int):(ordT l n dd).Perm l:=by
 have h:(ordT l n dd).Perm (toPs (ptsL l)):=(qys n dd (ptsL l)).map toP
 rwa[q282]at h
theorem q28q (l:List T3) (n dd:Int):unI ((ordI n dd (ptsL l)).map Pt.id)=(ordT l n dd).map idU:=by
 unfold ordT unI
 rw[List.map_map,List.map_map]
 rfl
theorem q28r {l:List T3} (h:FldOk l) (n dd:Int):(ordT l n dd).Pairwise fun a b=>a.1≠b.1/\leads (ofP a) (ofP b) n dd=true:=by
 unfold ordT
 rw[List.pairwise_map]
 have hp:=qys n dd (ptsL l)
 have hn:(ordI n dd (ptsL l)).Pairwise fun a b=>a.id≠b.id:=by
  refine (hp.pairwise_iff (R:=fun a b:Pt=>a.id≠b.id) (fun {a b} h=>Ne.symm h)).2 ?_
  unfold ptsL
  rw[List.pairwise_map]
  exact h.inc.imp fun {a b} hab=>by show a.1≠b.1;omega
 refine ((qyu n dd (ptsL l)).and hn).imp fun {a b} ⟨h1,h2⟩=>⟨h2,?_⟩
 show leads a b n dd=true
 rw[q28l (p:=b) (q:=a) (Ne.symm h2),h1];rfl
theorem q28s (l:List T3) (n dd:Int):(ordT l n dd).length=l.length:=(q28p l n dd).length_eq
theorem q28t {l:List T3} (h:FldOk l) {n dd:Int} {i j:Nat} {p q:T3} (hi:(ordT l n dd)[i]?=some p) (hj:(ordT l n dd)[j]?=some q):decide (i<j)=leads (ofP p) (ofP q) n dd:=by
 have hpw:=List.pairwise_iff_getElem.1 (q28r h n dd)
 obtain⟨i1,i2⟩:=List.getElem?_eq_some_iff.1 hi
 obtain⟨j1,j2⟩:=List.getElem?_eq_some_iff.1 hj
 rcases Nat.lt_trichotomy i j with k | k | k
 ·have:=(hpw i j i1 j1 k).2
  rw[i2,j2]at this
  rw[decide_eq_true k,this]
 ·subst k
  rw[i2]at j2
  rw[decide_eq_false (Nat.lt_irrefl _),← j2,q28k]
 ·have:=hpw j i j1 i1 k
  rw[i2,j2]at this
  rw[decide_eq_false (by omega),q28l (p:=ofP q) (q:=ofP p) this.1,this.2];rfl
theorem q28u {l:List T3} (h:FldOk l) {n dd n' dd':Int} (hd:1<=dd) (hd':1<=dd') (hle:leQ n dd n' dd'):(q1zl (ordT l n dd)).countP (fun x=>leads (ofP x.2) (ofP x.1) n' dd')=((allM l).filter (inM n dd n' dd')).length:=by
 have e1:=q28i h hd hd' hle
 rw[← q280 hd hd' hle (fun x hx=>(q27s h x hx).ok) (q27a h)]at e1
 rw[← e1,← q28o (q28p l n dd) ?_]
 ·refine List.countP_congr fun x hx=>?_
  obtain⟨_,_,g1,g2⟩:=q272 hx (q28r h n dd)
  unfold swP
  rw[g2,q28l (p:=ofP x.1) (q:=ofP x.2) g1]
  cases leads (ofP x.1) (ofP x.2) n' dd'<;>simp
 ·intro a ha b hb
  by_cases hab:a.1=b.1
  ·have:a=b:=q28m h ((q28p l n dd).mem_iff.1 ha) ((q28p l n dd).mem_iff.1 hb) hab
   rw[this]
  ·unfold swP
   rw[q28l (p:=ofP a) (q:=ofP b) hab,q28l (p:=ofP a) (q:=ofP b) hab]
   cases leads (ofP a) (ofP b) n dd<;>cases leads (ofP a) (ofP b) n' dd'<;>rfl
theorem q28v (d:Nat) {x:M4} {n dd:Int} (hx:okW x) (hn:i64B n=true) (hd:i64B dd=true) (hr:qjo n dd=0):q248 d ((x.1,x.2.1,x.2.2.1,x.2.2.2.1,()),(n,dd,()),())=some (if gtM n dd x=true then 1 else -1):=by
 have e1:=q27i d hx.b1 hx.b2 hn hd hx.ok hr
 rw[q24a];simp only[q249,obnd,e1]
 unfold gtM
 by_cases h:0<cmpQ x.1 x.2.1 n dd
 ·simp only[h,gt_iff_lt,decide_true,cond_true,if_true]
 ·simp only[h,gt_iff_lt,decide_false,cond_false]
  rfl
theorem q28w (d:Nat) (hf:5000<=d) {L:List M4} {n dd:Int} (hL:∀ x∈L,okW x) (hlen:L.length<=4096) (hs:L.Pairwise fun a b=>ltM b a=false) (hn:i64B n=true) (hd:i64B dd=true) (hr:qjo n dd=0):q24q d ((L,()),(n,dd,()),())=some (idxM n dd L:Int):=by
 have hm:idxM n dd L<=L.length:=q27z n dd L
 have lo_f:∀ (j:Nat) x,j<idxM n dd L->L[j]?=some x->gtM n dd x=false:=fun j x hj hx=>by
  have:=List.not_of_lt_findIdx hj
  rw[List.getElem?_eq_getElem (by omega)]at hx
  injection hx with hx;subst hx;simpa using this
 have hi_t:∀ (j:Nat) x,idxM n dd L<=j->L[j]?=some x->gtM n dd x=true:=fun j x hj hx=>by
  have hjl:=(List.getElem?_eq_some_iff.1 hx).1
  have hml:idxM n dd L<L.length:=by omega
  exact q27p (qjv hr).1 (fun x hx=>(hL x hx).ok) hs hj (List.getElem?_eq_getElem hml) hx (List.findIdx_getElem (w:=hml))
 have body:∀ (self:q24g->Option (Int×Bool)) (lo hi:Nat),lo<hi->hi<=L.length->∀ x,L[(lo+hi)/2]?=some x ->
   q24h d self (L,(L.length:Int),(lo:Int),(hi:Int),n,dd)=if gtM n dd x=true then self (L,(L.length:Int),(lo:Int),(((lo+hi)/2:Nat):Int),n,dd) else self (L,(L.length:Int),(((lo+hi)/2+1:Nat):Int),(hi:Int),n,dd):=fun self lo hi h1 h2 x hx=>by
  have hxw:=hL x (List.mem_of_getElem? hx)
  have e1:=q28v d hxw hn hd hr
  have c1:decide ((lo:Int)<(hi:Int))=true:=by rw[decide_eq_true_eq];omega
  simp only[q24h,c1,cond_true,q26e (show lo+hi<=1000000 by omega),inN (show (lo+hi)/2<L.length by omega),eltI (z:=qi5) hx,Int.toNat_natCast,e1,obnd]
  cases hg:gtM n dd x with
  | true=>simp only[if_true];rfl
  | false =>
   simp only[Bool.false_eq_true,if_false,show decide ((-1:Int)<0)=true from rfl,cond_true]
   rw[wiS (by omega)]
 have hb:=q26d (L:=q24h d) (fun lo hi=>(L,(L.length:Int),(lo:Int),(hi:Int),n,dd)) L.length (idxM n dd L) false hm
  (fun self lo hi h1 h2 h3=>by
   obtain⟨x,hx⟩:∃ x,L[(lo+hi)/2]?=some x:=⟨_,List.getElem?_eq_getElem (by omega)⟩
   rw[body self lo hi h1 h2 x hx,lo_f _ x h3 hx];rfl)
  (fun self lo hi h1 h2 h3=>by
   obtain⟨x,hx⟩:∃ x,L[(lo+hi)/2]?=some x:=⟨_,List.getElem?_eq_getElem (by omega)⟩
   rw[body self lo hi h1 h2 x hx,hi_t _ x h3 hx];rfl)
  (fun self=>by
   have c1:decide (((idxM n dd L:Nat):Int)<((idxM n dd L:Nat):Int))=false:=by simp
   simp only[q24h,c1,cond_false]
   by_cases hl:idxM n dd L<L.length
   ·obtain⟨x,hx⟩:∃ x,L[idxM n dd L]?=some x:=⟨_,List.getElem?_eq_getElem hl⟩
    have e1:=q28v d (hL x (List.mem_of_getElem? hx)) hn hd hr
    have c2:decide (((idxM n dd L:Nat):Int)<(L.length:Int))=true:=by rw[decide_eq_true_eq];omega
    simp only[c2,obif,cond_true,inN hl,eltI (z:=qi5) hx,Int.toNat_natCast,e1,obnd,hi_t _ x (Nat.le_refl _) hx,if_true]
    rfl
   ·have c2:decide (((idxM n dd L:Nat):Int)<(L.length:Int))=false:=by rw[decide_eq_false_iff_not];omega
    simp only[c2,obif,cond_false]) d 0 L.length (Nat.zero_le _) hm (Nat.le_refl _) (by omega)
 have e1:q24f d ((L,()),(n,dd,()),(),())=some ((idxM n dd L:Int),false):=by
  rw[q24l]
  exact hb
 rw[q24s];simp only[q24r,e1,obnd]
theorem q28x (d:Nat) (hf:5<=d) {l:List T3} {n dd n' dd':Int} (h0:qmq (ptsL l)=0) (hn:i64B n=true) (hd:i64B dd=true) (hn':i64B n'=true) (hd':i64B dd'=true) (h2:qjo n dd=0) (h3:qjo n' dd'=0) (hle:leQ n dd n' dd'):q21k d ((l,()),([(n,dd,()),(n',dd',())],()),())=some 0:=by
 have e1:qva d ((l,()),())=some (qmq (ptsL l)):=qvb _ _ rfl
 have e2:qt0 d ((n,dd,()),())=some (qjo n dd):=qt1 _ _ (by unfold qsz;simp only[hn,hd,Bool.and_self])
 have e3:qt0 d ((n',dd',()),())=some (qjo n' dd'):=qt1 _ _ (by unfold qsz;simp only[hn',hd',Bool.and_self])
 have e4:=q27i d hn hd hn' hd' h2 h3
 have hq:=(q27w ..).1 hle
 rw[h0]at e1;rw[h2]at e2;rw[h3]at e3
 rw[q21q]
 simp only[q21p,e1,obnd,show ((0:Int) != 0)=false from rfl,cond_false]
 refine q26b (fun i=>([(n,dd,()),(n',dd',())],[(n,dd,()),(n',dd',())],(2:Int),(i:Int))) 0 2 (fun i self hi=>?_) (fun self=>?_) (by omega) rfl
 ·match i,hi with
  | 0, _ =>
   simp only[q21m,show decide (((0:Nat):Int)<2)=true from rfl,cond_true,inN (show 0 < [(n,dd,()),(n',dd',())].length from Nat.zero_lt_succ _),obif,eltI (z:=zii) (show [(n,dd,()),(n',dd',())][0]?=some (n,dd,()) from rfl),Int.toNat_natCast,e2,obnd,show ((0:Int) != 0)=false from rfl,cond_false,wiS (show 0<9223372036854775807 by omega)]
  | 1, _ =>
   simp only[q21m,show decide (((1:Nat):Int)<2)=true from rfl,cond_true,inN (show 1 < [(n,dd,()),(n',dd',())].length from Nat.lt_succ_self _),obif,eltI (z:=zii) (show [(n,dd,()),(n',dd',())][1]?=some (n',dd',()) from rfl),Int.toNat_natCast,e3,obnd,show ((0:Int) != 0)=false from rfl,cond_false,wiS (show 1<9223372036854775807 by omega)]
 ·have hq':decide (cmpQ n dd n' dd'>0)=false:=by simpa using hq
  simp only[q21m,show decide (((2:Nat):Int)<2)=false from rfl,cond_false,obif,show ((([(n,dd,()),(n',dd',())]:List (Int×Int×Unit)).length:Int)==2)=true from rfl,show inB 0 [(n,dd,()),(n',dd',())].length=true from rfl,show inB 1 [(n,dd,()),(n',dd',())].length=true from rfl,cond_true,show elt zii [(n,dd,()),(n',dd',())] 0=(n,dd,()) from rfl,show elt zii [(n,dd,()),(n',dd',())] 1=(n',dd',()) from rfl,e4,obnd,hq']
theorem q28y (d:Nat) (hf:5000<=d) {l:List T3} {n dd n' dd':Int} (h0:qmq (ptsL l)=0) (hn:i64B n=true) (hd:i64B dd=true) (hn':i64B n'=true) (hd':i64B dd'=true) (h2:qjo n dd=0) (h3:qjo n' dd'=0) (hle:leQ n dd n' dd'):q24x d ((l,()),(n,dd,()),(n',dd',()),())=some (cutM (allM l) n dd n' dd',0):=by
 have e1:=q28x d (by omega) h0 hn hd hn' hd' h2 h3 hle
 have hok:=q27r h0
 have e2:=q27n d (by omega) hok
 have e3:=q28w d hf (q27s hok) (q279 hok) (q27a hok) hn hd h2
 have e4:=q28w d hf (q27s hok) (q279 hok) (q27a hok) hn' hd' h3
 have hle':=q27y (qjv h2).1 (qjv h3).1 hle fun x hx=>(q27s hok x hx).ok
 have hln:=q27z n' dd' (allM l)
 have hc:q42 (idxM n dd (allM l):Int) (idxM n' dd' (allM l):Int) (idxM n' dd' (allM l):Int) (allM l).length=true:=by
  unfold q42;simp only[Bool.and_eq_true,decide_eq_true_eq];omega
 rw[q24z]
 simp only[q24y,e1,obnd,show ((0:Int) != 0)=false from rfl,cond_false,e2,e3,e4,obif,hc,cond_true,Int.toNat_natCast]
 rfl
theorem q28z {α:Type} (z:α) {l:List α} {i:Nat} (x:α) (j:Nat) (hi:i<l.length):elt z (l.set i x) j=if i=j then x else elt z l j:=by
 unfold elt
 rw[List.getElem?_set]
 by_cases h:i=j
 ·subst h;simp only[if_true,hi];rfl
 ·simp only[h,if_false]
theorem q290 {α:Type} (z:α) {l:List α} {i:Nat} (hi:i<l.length):elt z l i∈l:=by
 unfold elt;rw[List.getElem?_eq_getElem hi];exact List.getElem_mem _
theorem q291 {α:Type} (z:α) {l:List α} {i:Nat} (hi:i<l.length):l[i]?=some (elt z l i):=by
 unfold elt;rw[List.getElem?_eq_getElem hi];rfl
theorem q293 {α:Type} {l:List α} {i:Nat} {x:α} (h:l[i]?=some x):l.take (i+1)=l.take i ++ [x]:=by
 rw[List.take_add_one,h];rfl
theorem q294 {α:Type} {l:List α} {i:Nat} {x:α} (h:l[i]?=some x):i<l.length:=(List.getElem?_eq_some_iff.1 h).1
theorem q295 {α:Type} {l:List α} (hn:l.Nodup) {i:Nat} {x:α} (h:l[i]?=some x):x∉l.take i:=by
 intro hm
 obtain⟨j,hj,he⟩:=List.mem_iff_getElem.1 hm
 rw[List.length_take]at hj
 rw[List.getElem_take]at he
 have:=(List.getElem?_inj (i:=j) (j:=i) (by omega) hn).1 (by rw[h,List.getElem?_eq_getElem (by omega),he])
 omega
def mkS (B:List Db) (R:List Di):List Db:=R.foldl (fun b x=>b.set x.1.toNat (true,())) B
theorem q296:∀ (R:List Di) (B:List Db),(mkS B R).length=B.length
 | [],_=>rfl
 | x::R,B=>by show (mkS (B.set x.1.toNat (true,())) R).length=_;rw[q296 R,List.length_set]
theorem q297:∀ (R:List Di) (B:List Db),(∀ x∈R,0<=x.1/\x.1<B.length)->∀ s:Nat,(elt zb (mkS B R) s).1=((elt zb B s).1 || decide (((s:Int),())∈R))
 | [],B,_,s=>by simp[mkS]
 | x::R, B, h, s => by
  show (elt zb (mkS (B.set x.1.toNat (true,())) R) s).1=_
  rw[q297 R _ (fun y hy=>by rw[List.length_set];exact h y (List.mem_cons_of_mem _ hy)),q28z zb _ _ (by have:=h x (List.mem_cons_self ..);omega)]
  have hx:=h x (List.mem_cons_self ..)
  by_cases he:x.1.toNat=s
  ·have:x=((s:Int),()):=Prod.ext (show x.1=(s:Int) by omega) rfl
   subst this;simp
  ·have:((s:Int),())≠x:=fun e=>he (by rw[← e];simp)
   simp[he,this]
theorem q298 {R:List Di} {i:Nat} {x:Di} (B:List Db) (h:R[i]?=some x):mkS B (R.take (i+1))=(mkS B (R.take i)).set x.1.toNat (true,()):=by
 rw[q293 h];unfold mkS;rw[List.foldl_append];rfl
structure SlotOk (M:Int) (U:List Di) (B:List Db) (R:List Di):Prop where
 lU:U.length=200
 lB:B.length=200
 nd:R.Nodup
 rg:∀ x∈R,0<=x.1/\x.1<200
 fr:∀ s:Nat,s<200->(elt zb B s).1=!decide (((s:Int),())∈R)
 us:∀ s:Nat,s<200->0<=(elt zi U s).1/\(elt zi U s).1<=M/\((elt zb B s).1=true->1<=(elt zi U s).1)
theorem SlotOk.free {M:Int} {U:List Di} {B:List Db} {R:List Di} (h:SlotOk M U B R) {x:Di} (hx:x∈R):(elt zb B x.1.toNat).1=false:=by
 have:=h.rg x hx
 rw[h.fr _ (by omega),show ((x.1.toNat:Int),())=x from Prod.ext (by show (x.1.toNat:Int)=x.1;omega) rfl]
 simp[hx]
theorem q299 (d:Nat) {a:Int} {L:List Db} (h0:0<=a) (h1:a<200) (hl:L.length=200) (hf:(elt zb L a.toNat).1=false):q133 d (a,200,L)=some (false,200,L.set a.toNat (true,())):=by
 rw[q136]
 simp only[q135,q134,obif,Bool.and_self,cond_true,show decide (a<0)=false by rw[decide_eq_false_iff_not];omega,show decide (a≥200)=false by rw[decide_eq_false_iff_not];omega,cond_false,inI h0 (show a<L.length by omega),hf]
theorem q29a (d:Nat) (hd:5000<=d) {M:Int} {U:List Di} {B:List Db} {R:List Di} (h:SlotOk M U B R) (hR:R.length<=200):q13b d (R,200,B)=some (-1,200,mkS B R):=by
 rw[q13h]
 simp only[q13g,obif,Bool.and_self,cond_true]
 refine q26b (fun i=>(R,(R.length:Int),(i:Int),200,mkS B (R.take i))) _ R.length (fun i self hi=>?_) (fun self=>?_) (by omega) rfl
 ·have hx:=q291 zi hi
  have hr:=h.rg _ (q290 zi hi)
  have hf:(elt zb (mkS B (R.take i)) (elt zi R i).1.toNat).1=false:=by
   rw[q297 _ _ (fun x hx=>by rw[h.lB];exact h.rg x (List.mem_of_mem_take hx)),h.free (q290 zi hi),show (((elt zi R i).1.toNat:Int),())=elt zi R i from Prod.ext (by show ((elt zi R i).1.toNat:Int)=(elt zi R i).1;omega) rfl]
   simp[q295 h.nd hx]
  simp only[q13d,show decide ((i:Int)<(R.length:Int))=true by rw[decide_eq_true_eq];omega,cond_true,inN hi,obif,Int.toNat_natCast,q299 d hr.1 hr.2 (by rw[q296,h.lB]) hf,obnd,cond_false,wiS (show i<9223372036854775807 by omega),q298 B hx]
 ·simp only[q13d,show decide ((R.length:Int)<(R.length:Int))=false by rw[decide_eq_false_iff_not];omega,cond_false,List.take_length]
theorem q29b (d:Nat) (hd:5000<=d) {L:List Db} (hl:L.length<=200) (h:∀ s,s<L.length->(elt zb L s).1=true):q144 d ((L,()),(false,()),())=some false:=by
 have e:q13t d ((L,()),(false,()),())=some (-1):=by
  rw[q13z]
  simp only[q13y]
  refine q26b (fun i=>(L,false,(L.length:Int),(i:Int))) _ L.length (fun i self hi=>?_) (fun self=>?_) (by omega) rfl
  ·simp only[q13v,show decide ((i:Int)<(L.length:Int))=true by rw[decide_eq_true_eq];omega,cond_true,inN hi,obif,Int.toNat_natCast,h i hi,show (false==true)=false from rfl,cond_false,wiS (show i<9223372036854775807 by omega)]
  ·simp only[q13v,show decide ((L.length:Int)<(L.length:Int))=false by rw[decide_eq_false_iff_not];omega,cond_false]
 rw[q146];simp only[q145,e,obnd]
 rfl
theorem q29c (d:Nat) {L:List Db} (hl:L.length<=1000):q11y d ((L,()),())=some L:=by
 unfold q11y apB;rw[show Nat.ble (0+L.length) 100000=true from Nat.ble_eq_true_of_le (by omega)];rfl
theorem q29d (d:Nat) {L:List Di} (hl:L.length<=1000):q11k d ((L,()),())=some L:=by
 unfold q11k apB;rw[show Nat.ble (0+L.length) 100000=true from Nat.ble_eq_true_of_le (by omega)];rfl
theorem q29e (d:Nat) {L:List Di} (hl:L.length<=1000):q14q d ((L,()),())=some L:=by
 unfold q14q apB;rw[show Nat.ble (0+L.length) 100000=true from Nat.ble_eq_true_of_le (by omega)];rfl
theorem q29f (d:Nat) (hd:5000<=d) {M:Int} (hM:M<=1000) {U:List Di} {B:List Db} {R:List Di} (h:SlotOk M U B R) (hR:R.length<=200):q14b d ((U,B,R,()),())=some 0:=by
 have e1:q13m d (R,200,B)=some (false,200,mkS B R):=by
  rw[q13o];simp only[q13n,obif,Bool.and_self,cond_true,q29a d hd h hR,obnd];rfl
 have e2:=q29b d hd (L:=mkS B R) (by rw[q296,h.lB];omega) (fun s hs=>by
  rw[q296,h.lB]at hs
  rw[q297 _ _ (fun x hx=>by rw[h.lB];exact h.rg x hx),h.fr s hs];simp)
 rw[q14k]
 simp only[q14j,h.lU,h.lB,q14h,q14g,obif,show decide (((200:Nat):Int)<1)=false from rfl,show decide (((200:Nat):Int)>200)=false from rfl,cond_false,show ((((200:Nat):Int)) != ((200:Nat):Int))=false from rfl,q29c d (show B.length<=1000 by rw[h.lB];omega),obnd,show q13m d (R,((200:Nat):Int),B)=_ from e1,e2]
 refine q26b (fun i=>(U,((200:Nat):Int),(i:Int),U,B,R)) _ 200 (fun i self hi=>?_) (fun self=>?_) (by omega) rfl
 ·have hu:=h.us i hi
  simp only[q14e,show decide ((i:Int)<((200:Nat):Int))=true by rw[decide_eq_true_eq];omega,cond_true,inN (show i<U.length by rw[h.lU];exact hi),inN (show i<B.length by rw[h.lB];exact hi),obif,Int.toNat_natCast,q14d,show decide ((elt zi U i).1<0)=false by rw[decide_eq_false_iff_not];omega,show decide ((elt zi U i).1>1000000)=false by rw[decide_eq_false_iff_not];omega,cond_false,wiS (show i<9223372036854775807 by omega)]
  cases hc:(elt zi U i).1==0 with
  | false=>rfl
  | true =>
   have:(elt zb B i).1=false:=by
    cases hb:(elt zb B i).1 with
    | false=>rfl
    | true=>have:=hu.2.2 hb;rw[beq_iff_eq]at hc;omega
   rw[this];rfl
 ·simp only[q14e,show decide ((((200:Nat):Int))<((200:Nat):Int))=false from rfl,cond_false]
theorem q29g (d:Nat) (hd:5000<=d) {M:Int} (hM:M<=1000) {U:List Di} {B:List Db} {R:List Di} (h:SlotOk M U B R) (hR:R.length<=200):q10m d ((U,B,R,()),())=some 0:=by
 have hz:(List.replicate 200 zb:List Db).length=200:=List.length_replicate ..
 have hz0:∀ s:Nat,(elt zb (List.replicate 200 zb) s).1=false:=fun s=>by
  unfold elt;rw[List.getElem?_replicate];split<;>rfl
 have l2:iter (q10r d) d (((200:Nat):Int),0,U,B,R,mkS (List.replicate 200 zb) R)=some 0:=by
  refine q26b (fun i=>(((200:Nat):Int),(i:Int),U,B,R,mkS (List.replicate 200 zb) R)) _ 200 (fun i self hi=>?_) (fun self=>?_) (by omega) rfl
  ·have hu:=h.us i hi
   have hm:(elt zb (mkS (List.replicate 200 zb) R) i).1=decide (((i:Int),())∈R):=by
    rw[q297 _ _ (fun x hx=>by rw[hz];exact h.rg x hx),hz0,Bool.false_or]
   have hb:=h.fr i hi
   simp only[q10r,show decide ((i:Int)<((200:Nat):Int))=true by rw[decide_eq_true_eq];omega,cond_true,inN (show i<U.length by rw[h.lU];exact hi),inN (show i<B.length by rw[h.lB];exact hi),inN (show i<(mkS (List.replicate 200 zb) R).length by rw[q296,hz];exact hi),obif,Int.toNat_natCast,q10q,show decide ((elt zi U i).1<0)=false by rw[decide_eq_false_iff_not];omega,show decide ((elt zi U i).1>1000000)=false by rw[decide_eq_false_iff_not];omega,cond_false,wiS (show i<9223372036854775807 by omega),hm,hb,show ∀ b:Bool,((!b)==b)=false by decide]
   cases hc:decide (((i:Int),())∈R) with
   | true=>rfl
   | false =>
    rw[hc]at hb
    have:=hu.2.2 hb
    simp only[Bool.not_false,cond_true,show decide ((elt zi U i).1<1)=false by rw[decide_eq_false_iff_not];omega,cond_false]
  ·simp only[q10r,show decide ((((200:Nat):Int))<((200:Nat):Int))=false from rfl,cond_false]
 rw[q110]
 simp only[q10z,h.lU,h.lB,q10v,obif,show decide (((200:Nat):Int)<1)=false from rfl,show decide (((200:Nat):Int)>200)=false from rfl,cond_false,show ((((200:Nat):Int)) != ((200:Nat):Int))=false from rfl,show decide ((R.length:Int)>((200:Nat):Int))=false by rw[decide_eq_false_iff_not];omega,show mkB ((200:Nat):Int) ((200:Nat):Int)=true from rfl,cond_true]
 refine q26b (fun i=>(((200:Nat):Int),(i:Int),U,B,R,mkS (List.replicate 200 zb) (R.take i))) _ R.length (fun i self hi=>?_) (fun self=>?_) (by omega) rfl
 ·have hx:=q291 zi hi
  have hr:=h.rg _ (q290 zi hi)
  have hf:(elt zb (mkS (List.replicate 200 zb) (R.take i)) (elt zi R i).1.toNat).1=false:=by
   rw[q297 _ _ (fun x hx=>by rw[hz];exact h.rg x (List.mem_of_mem_take hx)),hz0,show (((elt zi R i).1.toNat:Int),())=elt zi R i from Prod.ext (by show ((elt zi R i).1.toNat:Int)=(elt zi R i).1;omega) rfl]
   simp[q295 h.nd hx]
  have hl:(mkS (List.replicate 200 zb) (R.take i)).length=200:=by rw[q296,hz]
  simp only[q10x,q10t,show decide ((i:Int)<(R.length:Int))=true by rw[decide_eq_true_eq];omega,cond_true,inN hi,obif,Int.toNat_natCast,q10p,show decide ((elt zi R i).1<0)=false by rw[decide_eq_false_iff_not];omega,show decide ((elt zi R i).1≥((200:Nat):Int))=false by rw[decide_eq_false_iff_not];omega,inI hr.1 (show (elt zi R i).1<(mkS (List.replicate 200 zb) (R.take i)).length by rw[hl];exact hr.2),hf,cond_false,wiS (show i<9223372036854775807 by omega),q298 _ hx]
 ·simp only[q10x,q10t,show decide ((R.length:Int)<(R.length:Int))=false by rw[decide_eq_false_iff_not];omega,cond_false,List.take_length]
  exact l2
theorem q29h (d:Nat) {R:List Di} {x:Di} (hR:R.length<=200):q14w d ((R ++ [x],()),())=some (R,x.1):=by
 have e:(R ++ [x]).length=R.length+1:=by simp
 have w:wi (((R ++ [x]).length:Int)-1)=(R.length:Int):=by rw[q269 (by omega)];omega
 rw[q14y]
 simp only[q14x,w,obif,show (decide (0<=(R.length:Int))&&decide ((R.length:Int)<=((R ++ [x]).length:Int)))=true by rw[e];simp only[Bool.and_eq_true,decide_eq_true_eq];omega,cond_true,Int.toNat_natCast,List.take_left,q29e d (show R.length<=1000 by omega),obnd,inN (show R.length<(R ++ [x]).length by omega),eltI (z:=zi) (show (R ++ [x])[R.length]?=some x by simp)]
theorem q29i (d:Nat) {R:List Di} {x:Int} (hR:R.length<=200):q15h d ((R,()),(x,()),())=some (R ++ [(x,())]):=by
 rw[q15j]
 simp only[q15i,q29e d (show R.length<=1000 by omega),obnd,apB,obif,show Nat.ble (R.length + [(x,())].length) 100000=true from Nat.ble_eq_true_of_le (show R.length+1<=100000 by omega),cond_true]
theorem q29j (d:Nat) {M:Int} {U:List Di} {B:List Db} {R:List Di} (h:SlotOk M U B R):q124 d ((U,B,R,()),())=some (U,B,R):=by
 rw[q126]
 simp only[q125,q29d d (show U.length<=1000 by rw[h.lU];omega),q29c d (show B.length<=1000 by rw[h.lB];omega),obnd]
theorem q29k (d:Nat) (hd:5000<=d) {M:Int} (hM:M<=1000) {U:List Di} {B:List Db} {R:List Di} {x:Di} (h:SlotOk M U B (R ++ [x])) (hR:R.length<200) :
 q153 d ((U,B,R ++ [x],()),())=some (U.set x.1.toNat ((elt zi U x.1.toNat).1+1,()),B.set x.1.toNat (true,()),R,x.1,(elt zi U x.1.toNat).1+1,0):=by
 have hx:=h.rg x (by simp)
 have hu:=h.us x.1.toNat (by omega)
 have e1:=q29f d hd hM h (by simp;omega)
 have lU:=h.lU;have lB:=h.lB
 have e3:elt zi (U.set x.1.toNat ((elt zi U x.1.toNat).1+1,())) x.1.toNat=((elt zi U x.1.toNat).1+1,()):=by
  rw[q28z zi _ _ (by omega),if_pos rfl]
 rw[q155]
 simp only[q154,e1,obnd,show ((0:Int) != 0)=false from rfl,cond_false,show (((R ++ [x]).length:Int)==0)=false by simp;omega,q29h d (show R.length<=200 by omega),obif,inI hx.1 (show x.1<(U.length:Int) by omega),inI hx.1 (show x.1<(B.length:Int) by omega),cond_true,show ((elt zi U x.1.toNat).1==1000000)=false by rw[beq_eq_false_iff_ne];omega,q29j d h,q269 (n:=(elt zi U x.1.toNat).1+1) (by omega),e3,List.length_set]
theorem q1r1 {M:Int} {U:List Di} {B:List Db} {R:List Di} {x:Di} (h:SlotOk M U B (R ++ [x])):SlotOk (M+1) (U.set x.1.toNat ((elt zi U x.1.toNat).1+1,())) (B.set x.1.toNat (true,())) R:=by
 have hx:=h.rg x (by simp)
 have lU:=h.lU;have lB:=h.lB
 have hxR:x∉R:=by have:=h.nd;rw[List.nodup_append]at this;exact fun hm=>this.2.2 x hm x (List.mem_singleton.2 rfl) rfl
 refine⟨by rw[List.length_set,lU],by rw[List.length_set,lB],(List.nodup_append.1 h.nd).1,fun y hy=>h.rg y (List.mem_append_left _ hy),fun s hs=>?_,fun s hs=>?_⟩
 ·rw[q28z zb _ _ (by omega)]
  by_cases he:x.1.toNat=s
  ·have:x=((s:Int),()):=Prod.ext (show x.1=(s:Int) by omega) rfl
   rw[this]at hxR
   simp[he,hxR]
  ·have:((s:Int),())≠x:=fun e=>he (by rw[← e];simp)
   rw[if_neg he,h.fr s hs];simp[this]
 ·have hu:=h.us s hs
  rw[q28z zi _ _ (by omega),q28z zb _ _ (by omega)]
  by_cases he:x.1.toNat=s
  ·subst he;simp only[if_true];refine⟨by omega,by omega,fun _=>by omega⟩
  ·simp only[he,if_false];exact⟨hu.1,by omega,hu.2.2⟩
theorem q29l (d:Nat) (hd:5000<=d) {M:Int} (hM:M<=1000) {U:List Di} {B:List Db} {R:List Di} (h:SlotOk M U B R) (hR:R.length<=200) {i u:Int} (h0:0<=i) (h1:i<200) (hb:(elt zb B i.toNat).1=true) (hu:(elt zi U i.toNat).1=u):q15a d ((U,B,R,()),(i,u,()),())=some (true,0):=by
 have e1:=q29f d hd hM h hR
 have lU:=h.lU;have lB:=h.lB
 rw[q15c]
 simp only[q15b,e1,obnd,show ((0:Int) != 0)=false from rfl,cond_false,obif,show decide (i≥0)=true by rw[decide_eq_true_eq];omega,show decide (i<(B.length:Int))=true by rw[decide_eq_true_eq];omega,cond_true,inI h0 (show i<(U.length:Int) by omega),inI h0 (show i<(B.length:Int) by omega),hb,hu,beq_self_eq_true]
theorem q29m (d:Nat) (hd:5000<=d) {M:Int} (hM:M<=1000) {U:List Di} {B:List Db} {R:List Di} (h:SlotOk M U B R) (hR:R.length<=200) {i u:Int} (h0:0<=i) (h1:i<200) (hb:(elt zb B i.toNat).1=true) (hu:(elt zi U i.toNat).1=u):q15o d ((U,B,R,()),(i,u,()),())=some (U,B.set i.toNat (false,()),R ++ [(i,())],0):=by
 have e1:=q29l d hd hM h hR h0 h1 hb hu
 have lB:=h.lB
 rw[q15q]
 simp only[q15p,e1,obnd,show ((0:Int) != 0)=false from rfl,cond_false,Bool.not_true,q29j d h,q29i d hR,obif,inI h0 (show i<(B.length:Int) by omega),cond_true]
theorem q29n {M:Int} {U:List Di} {B:List Db} {R:List Di} (h:SlotOk M U B R) {i:Int} (h0:0<=i) (h1:i<200) (hb:(elt zb B i.toNat).1=true):SlotOk M U (B.set i.toNat (false,())) (R ++ [(i,())]):=by
 have lB:=h.lB
 have hR:(i,())∉R:=fun hm=>by have:=h.free hm;rw[hb]at this;exact Bool.noConfusion this
 refine⟨h.lU,by rw[List.length_set,lB],?_,?_,fun s hs=>?_,fun s hs=>?_⟩
 ·rw[List.nodup_append]
  exact⟨h.nd,List.nodup_cons.2 ⟨List.not_mem_nil,List.nodup_nil⟩,fun a ha b hb e=>by rw[List.mem_singleton]at hb;subst hb;subst e;exact hR ha⟩
 ·intro y hy
  rw[List.mem_append,List.mem_singleton]at hy
  rcases hy with hy | hy
  ·exact h.rg y hy
  ·subst hy;exact⟨h0,h1⟩
 ·rw[q28z zb _ _ (by omega)]
  by_cases he:i.toNat=s
  ·have:(s:Int)=i:=by omega
   simp[he,this]
  ·have:(s:Int)≠i:=by omega
   rw[if_neg he,h.fr s hs];simp[this]
 ·have hu:=h.us s hs
  rw[q28z zb _ _ (by omega)]
  by_cases he:i.toNat=s
  ·simp only[he,if_true];exact⟨hu.1,hu.2.1,fun e=>Bool.noConfusion e⟩
  ·simp only[he,if_false];exact hu
theorem q29o (d:Nat) (hd:5000<=d) {M:Int} (hM:M<=1000) {U:List Di} {B:List Db} {R:List Di} (h:SlotOk M U B R) (hR:R.length<=200):q15v d ((U,B,R,()),())=some ((R.length:Int),0):=by
 have e1:=q29f d hd hM h hR
 rw[q15x]
 simp only[q15w,e1,obnd,show ((0:Int) != 0)=false from rfl,cond_false]
theorem SlotOk.mono {M N:Int} {U:List Di} {B:List Db} {R:List Di} (h:SlotOk M U B R) (hn:M<=N):SlotOk N U B R:=⟨h.lU,h.lB,h.nd,h.rg,h.fr,fun s hs=>⟨(h.us s hs).1,by have:=(h.us s hs).2.1;omega,(h.us s hs).2.2⟩⟩
theorem q29p (d:Nat) {M:Int} {U:List Di} {B:List Db} {R:List Di} (h:SlotOk M U B R) {i u:Int} (h0:0<=i) (h1:i<200) (hb:(elt zb B i.toNat).1=true) (hu:(elt zi U i.toNat).1=u):q115 d ((U,B,R,()),(i,u,()),())=some true:=by
 have lU:=h.lU;have lB:=h.lB
 rw[q117]
 simp only[q116,obif,show decide (i≥0)=true by rw[decide_eq_true_eq];omega,show decide (i<(U.length:Int))=true by rw[decide_eq_true_eq];omega,cond_true,inI h0 (show i<(U.length:Int) by omega),inI h0 (show i<(B.length:Int) by omega),hb,hu,beq_self_eq_true]
theorem q29q (d:Nat) (hd:5<=d) (a b:Int):q188 d (([(a,()),(b,())],()),())=some (orZ a b):=by
 obtain⟨n,rfl⟩:∃ n,d=n+5:=⟨d-5,by omega⟩
 have w1:IntKind.wrap .i64 ((0:Int)+1)=1:=by decide
 have w2:IntKind.wrap .i64 ((1:Int)+1)=2:=by decide
 have w4:IntKind.wrap .i64 (1:Int)=1:=by decide
 have w5:IntKind.wrap .i64 (2:Int)=2:=by decide
 have b0:inB 0 2=true:=by decide
 have b1:inB 1 2=true:=by decide
 unfold orZ
 by_cases ha:a=0
 ·by_cases hb:b=0
  ·subst ha hb
   simp[q18e,q18d,q18a,iter,obnd,w1,w2,w4,w5,b0,b1,elt]
  ·subst ha
   simp[q18e,q18d,q18a,iter,obnd,w1,w2,w4,w5,b0,b1,elt,show (b != 0)=true by simpa using hb]
 ·simp[q18e,q18d,q18a,iter,obnd,w1,w2,w4,w5,b0,b1,elt,show (a != 0)=true by simpa using ha]
  intro h;exact absurd h ha
theorem q29r (a:Int):orZ a 0=a:=by unfold orZ;split<;>omega
def evM (e:qim):M4:=(e.1,e.2.1,e.2.2.1,0,())
structure EvOk (e:qim):Prop where
 b1:i64B e.1=true
 b2:i64B e.2.1=true
 ok:qjo e.1 e.2.1=0
 n0:0<=e.2.2.1
 n1:e.2.2.1<=1000000
 i0:0<=e.2.2.2.1
 i1:e.2.2.2.1<200
theorem q29s (d:Nat) (hd:5<=d) {x y:qim} (hx:EvOk x) (hy:EvOk y):q18j d ((x.1,x.2.1,x.2.2.1,x.2.2.2.1,x.2.2.2.2.1,()),(y.1,y.2.1,y.2.2.1,y.2.2.2.1,y.2.2.2.2.1,()),())=some (cmpM (evM x) (evM y)):=by
 rw[q18l]
 simp only[q18k,q26n d hx.b1 hx.b2 hy.b1 hy.b2 hx.ok hy.ok,obnd,q26h,q29q d hd]
 refine congrArg some ?_
 show orZ (cmpQ x.1 x.2.1 y.1 y.2.1) (cmpZ x.2.2.1 y.2.2.1)=orZ (cmpQ x.1 x.2.1 y.1 y.2.1) (orZ (cmpZ x.2.2.1 y.2.2.1) (cmpZ 0 0))
 rw[show cmpZ 0 0=0 from rfl,q29r]
def eLe (x y:qim):Prop:=ltM (evM y) (evM x)=false
theorem q29t {x y z:qim} (hx:EvOk x) (hy:EvOk y) (hz:EvOk z) (h:eLe x y) (k:eLe y z):eLe x z:=q26x (x:=evM z) (y:=evM y) (z:=evM x) hz.ok hy.ok hx.ok k h
theorem q29u {x y:qim} (h:ltM (evM x) (evM y)=true):eLe x y:=q26v h
theorem q29v {x y:qim}:eLe x y ↔ ¬ cmpM (evM y) (evM x)<0:=by unfold eLe ltM;rw[decide_eq_false_iff_not]
structure KOk (K:List qim):Prop where
 ev:∀ e∈K,EvOk e
 nd:(K.map fun e=>e.2.2.2.1).Nodup
theorem KOk.perm {K K':List qim} (h:KOk K) (hp:K'.Perm K):KOk K':=⟨fun e he=>h.ev e (hp.mem_iff.1 he),(hp.map _).nodup_iff.2 h.nd⟩
theorem KOk.ne {K:List qim} (h:KOk K) {i j:Nat} (hi:i<K.length) (hj:j<K.length) (hij:i≠j):(elt qin K i).2.2.2.1≠(elt qin K j).2.2.2.1:=by
 intro e
 have:=(List.getElem?_inj (i:=i) (j:=j) (by rw[List.length_map];exact hi) h.nd).1 (by rw[List.getElem?_map,List.getElem?_map,q291 qin hi,q291 qin hj];simp[e])
 exact hij this
structure Hole (K0:List qim) (W0:List Di) (i:Nat) (x:qim) (H:List qim) (W:List Di):Prop where
 hi:i<H.length
 pm:(H.set i x).Perm K0
 lW:W.length=200
 pl:∀ j,j<H.length->j≠i->(elt zi W (elt qin H j).2.2.2.1.toNat).1=(j:Int)
 un:∀ s:Nat,(∀ e∈K0,e.2.2.2.1≠(s:Int))->elt zi W s=elt zi W0 s
 ord:∀ c,1<=c->c<H.length->c≠i->(c-1)/2≠i->eLe (elt qin H ((c-1)/2)) (elt qin H c)
 grd:∀ c,1<=c->c<H.length->(c-1)/2=i->1<=i->eLe (elt qin H ((i-1)/2)) (elt qin H c)
structure HeapAt (K0:List qim) (W0:List Di) (H:List qim) (W:List Di):Prop where
 pm:H.Perm K0
 lW:W.length=200
 pl:∀ j,j<H.length->(elt zi W (elt qin H j).2.2.2.1.toNat).1=(j:Int)
 un:∀ s:Nat,(∀ e∈K0,e.2.2.2.1≠(s:Int))->elt zi W s=elt zi W0 s
 ord:∀ c,1<=c->c<H.length->eLe (elt qin H ((c-1)/2)) (elt qin H c)
variable {K0:List qim} {W0:List Di} {x:qim} {H:List qim} {W:List Di} {i:Nat}
theorem Hole.ev (h:Hole K0 W0 i x H W) (hK:KOk K0) {j:Nat} (hj:j<H.length) (hn:j≠i):EvOk (elt qin H j):=by
 have h1:=hK.perm h.pm
 have:=h1.ev (elt qin (H.set i x) j) (q290 _ (by rw[List.length_set];exact hj))
 rwa[q28z _ _ _ h.hi,if_neg (Ne.symm hn)]at this
theorem Hole.evx (h:Hole K0 W0 i x H W) (hK:KOk K0):EvOk x:=by
 have h1:=hK.perm h.pm
 have:=h1.ev (elt qin (H.set i x) i) (q290 _ (by rw[List.length_set];exact h.hi))
 rwa[q28z _ _ _ h.hi,if_pos rfl]at this
theorem Hole.ne (h:Hole K0 W0 i x H W) (hK:KOk K0) {j k:Nat} (hj:j<H.length) (hk:k<H.length) (hjk:j≠k) (hn:j≠i) (hn':k≠i):(elt qin H j).2.2.2.1.toNat≠(elt qin H k).2.2.2.1.toNat:=by
 have h1:=(hK.perm h.pm).ne (i:=j) (j:=k) (by rw[List.length_set];exact hj) (by rw[List.length_set];exact hk) hjk
 rw[q28z _ _ _ h.hi,q28z _ _ _ h.hi,if_neg (Ne.symm hn),if_neg (Ne.symm hn')]at h1
 have a:=(h.ev hK hj hn).i0;have b:=(h.ev hK hk hn').i0
 omega
theorem Hole.nex (h:Hole K0 W0 i x H W) (hK:KOk K0) {j:Nat} (hj:j<H.length) (hn:j≠i):(elt qin H j).2.2.2.1.toNat≠x.2.2.2.1.toNat:=by
 have h1:=(hK.perm h.pm).ne (i:=j) (j:=i) (by rw[List.length_set];exact hj) (by rw[List.length_set];exact h.hi) hn
 rw[q28z _ _ _ h.hi,q28z _ _ _ h.hi,if_neg (Ne.symm hn),if_pos rfl]at h1
 have a:=(h.ev hK hj hn).i0;have b:=(h.evx hK).i0
 omega
theorem q29w {H:List qim} {i q:Nat} {x:qim} (hi:i<H.length) (hq:q<H.length) (hn:q≠i):((H.set i (elt qin H q)).set q x).Perm (H.set i x):=by
 have e:=@List.set_set_perm _ (H.set i x) i q (by rw[List.length_set];exact hi) (by rw[List.length_set];exact hq)
 refine (List.Perm.of_eq ?_).trans e
 rw[List.set_set,List.getElem_set_self,List.getElem_set_ne (Ne.symm hn)]
 unfold elt;rw[List.getElem?_eq_getElem hq];rfl
theorem Hole.move (h:Hole K0 W0 i x H W) (hK:KOk K0) {q:Nat} (hq:q<H.length) (hn:q≠i)
 (ho:∀ c,1<=c->c<H.length->c≠q->(c-1)/2≠q->eLe (elt qin (H.set i (elt qin H q)) ((c-1)/2)) (elt qin (H.set i (elt qin H q)) c))
 (hg:∀ c,1<=c->c<H.length->(c-1)/2=q->1<=q->eLe (elt qin (H.set i (elt qin H q)) ((q-1)/2)) (elt qin (H.set i (elt qin H q)) c)) :
 Hole K0 W0 q x (H.set i (elt qin H q)) (W.set (elt qin H q).2.2.2.1.toNat ((i:Int),())):=by
 have hl:(H.set i (elt qin H q)).length=H.length:=List.length_set
 have e:=h.ev hK hq hn
 have w:(elt qin H q).2.2.2.1.toNat<W.length:=by rw[h.lW];have:=e.i0;have:=e.i1;omega
 refine⟨by rw[hl];exact hq,(q29w h.hi hq hn).trans h.pm,by rw[List.length_set,h.lW],fun j hj hjq=>?_,fun s hs=>?_,fun c h1 h2=>by rw[hl]at h2;exact ho c h1 h2,fun c h1 h2=>by rw[hl]at h2;exact hg c h1 h2⟩
 ·rw[hl]at hj
  rw[q28z _ _ _ h.hi,q28z _ _ _ w]
  by_cases hji:i=j
  ·subst hji;rw[if_pos rfl,if_pos rfl]
  ·rw[if_neg hji,if_neg (h.ne hK hq hj (Ne.symm hjq) hn (fun e=>hji e.symm))]
   exact h.pl j hj (fun e=>hji e.symm)
 ·have hm:elt qin H q∈K0:=by
   refine h.pm.mem_iff.1 ?_
   have:=q290 qin (l:=H.set i x) (i:=q) (by rw[List.length_set];exact hq)
   rwa[q28z _ _ _ h.hi,if_neg (Ne.symm hn)]at this
  have:=hs _ hm
  have:=e.i0
  rw[q28z _ _ _ w,if_neg (by omega)]
  exact h.un s hs
theorem Hole.up (h:Hole K0 W0 i x H W) (hK:KOk K0) (h1:1<=i) :
 Hole K0 W0 ((i-1)/2) x (H.set i (elt qin H ((i-1)/2))) (W.set (elt qin H ((i-1)/2)).2.2.2.1.toNat ((i:Int),())):=by
 have hp:(i-1)/2<H.length:=by have:=h.hi;omega
 have hn:(i-1)/2≠i:=by omega
 refine h.move hK hp hn (fun c c1 c2 c3 c4=>?_) (fun c c1 c2 c3 c4=>?_)
 ·rw[q28z _ _ _ h.hi,q28z _ _ _ h.hi]
  by_cases hci:i=c
  ·exact absurd (by rw[hci]) c4
  ·rw[if_neg hci]
   by_cases hpi:i=(c-1)/2
   ·rw[if_pos hpi];exact h.grd c c1 c2 hpi.symm h1
   ·rw[if_neg hpi];exact h.ord c c1 c2 (fun e=>hci e.symm) (fun e=>hpi e.symm)
 ·have hpp:=h.ord ((i-1)/2) c4 hp hn (by omega)
  rw[q28z _ _ _ h.hi,q28z _ _ _ h.hi,if_neg (show i≠((i-1)/2-1)/2 by omega)]
  by_cases hci:i=c
  ·rw[if_pos hci];exact hpp
  ·rw[if_neg hci]
   have h3:=h.ord c c1 c2 (fun e=>hci e.symm) (by omega)
   rw[c3]at h3
   exact q29t (h.ev hK (by omega) (by omega)) (h.ev hK hp hn) (h.ev hK c2 (fun e=>hci e.symm)) hpp h3
theorem Hole.down (h:Hole K0 W0 i x H W) (hK:KOk K0) {c:Nat} (c1:1<=c) (c2:c<H.length) (c3:(c-1)/2=i) (hm:∀ c',1<=c'->c'<H.length->(c'-1)/2=i->c'≠c->eLe (elt qin H c) (elt qin H c')) :
 Hole K0 W0 c x (H.set i (elt qin H c)) (W.set (elt qin H c).2.2.2.1.toNat ((i:Int),())):=by
 have hn:c≠i:=by omega
 refine h.move hK c2 hn (fun b b1 b2 b3 b4=>?_) (fun b b1 b2 b3 b4=>?_)
 ·rw[q28z _ _ _ h.hi,q28z _ _ _ h.hi]
  by_cases hbi:i=b
  ·rw[if_pos hbi,if_neg (by omega),← hbi]
   exact h.grd c c1 c2 c3 (by omega)
  ·rw[if_neg hbi]
   by_cases hpi:i=(b-1)/2
   ·rw[if_pos hpi];exact hm b b1 b2 hpi.symm b3
   ·rw[if_neg hpi];exact h.ord b b1 b2 (fun e=>hbi e.symm) (fun e=>hpi e.symm)
 ·have:=h.ord b b1 b2 (by omega) (by omega)
  rw[q28z _ _ _ h.hi,q28z _ _ _ h.hi,if_pos c3.symm,if_neg (by omega)]
  rwa[b3]at this
theorem Hole.fill (h:Hole K0 W0 i x H W) (hK:KOk K0) (hp:1<=i->eLe (elt qin H ((i-1)/2)) x) (hc:∀ c,1<=c->c<H.length->(c-1)/2=i->eLe x (elt qin H c)) :
 HeapAt K0 W0 (H.set i x) (W.set x.2.2.2.1.toNat ((i:Int),())):=by
 have hl:(H.set i x).length=H.length:=List.length_set
 have e:=h.evx hK
 have w:x.2.2.2.1.toNat<W.length:=by rw[h.lW];have:=e.i0;have:=e.i1;omega
 refine⟨h.pm,by rw[List.length_set,h.lW],fun j hj=>?_,fun s hs=>?_,fun c c1 c2=>?_⟩
 ·rw[hl]at hj
  rw[q28z _ _ _ h.hi,q28z _ _ _ w]
  by_cases hji:i=j
  ·subst hji;rw[if_pos rfl,if_pos rfl]
  ·rw[if_neg hji,if_neg (Ne.symm (h.nex hK hj (fun e=>hji e.symm)))]
   exact h.pl j hj (fun e=>hji e.symm)
 ·have hm:x∈K0:=by
   refine h.pm.mem_iff.1 ?_
   have:=q290 qin (l:=H.set i x) (i:=i) (by rw[List.length_set];exact h.hi)
   rwa[q28z _ _ _ h.hi,if_pos rfl]at this
  have:=hs _ hm
  have:=e.i0
  rw[q28z _ _ _ w,if_neg (by omega)]
  exact h.un s hs
 ·rw[hl]at c2
  rw[q28z _ _ _ h.hi,q28z _ _ _ h.hi]
  by_cases hci:i=c
  ·rw[if_pos hci,if_neg (by omega),← hci];exact hp (by omega)
  ·rw[if_neg hci]
   by_cases hpi:i=(c-1)/2
   ·rw[if_pos hpi];exact hc c c1 c2 hpi.symm
   ·rw[if_neg hpi];exact h.ord c c1 c2 (fun e=>hci e.symm) (fun e=>hpi e.symm)
theorem q29x (d:Nat) {U:List Di} {B:List Db} {R:List Di} (hi:i<H.length) (hw:W.length=200) (hx:EvOk x) :
 q1a0 d (U,B,R,(i:Int),x.1,x.2.1,x.2.2.1,x.2.2.2.1,x.2.2.2.2.1,H,W)=some (H.set i x,W.set x.2.2.2.1.toNat ((i:Int),())):=by
 have i0:=hx.i0;have i1:=hx.i1
 rw[q1a2]
 simp only[q1a1,obif,show Nat.blt 0 H.length=true from Nat.ble_eq_true_of_le (by omega),show Nat.blt 0 W.length=true from Nat.ble_eq_true_of_le (by omega),Bool.and_self,cond_true,inN hi,inI i0 (show x.2.2.2.1<(W.length:Int) by omega),Int.toNat_natCast]
theorem q29y {i:Nat} (h1:1<=i) (h2:i<1000):wi (Int.tdiv (wi ((i:Int)-1)) 2)=(((i-1)/2:Nat):Int):=by
 rw[q269 (n:=(i:Int)-1) (by omega),Int.tdiv_eq_ediv_of_nonneg (by omega),q269 (by omega)]
 omega
theorem q29z {i:Nat} (h2:i<1000):wi (wi (2*(i:Int))+1)=((2*i+1:Nat):Int):=by
 rw[q269 (n:=2*(i:Int)) (by omega),q269 (by omega)]
 omega
theorem q2a0 (d:Nat) (hd:5<=d) (hK:KOk K0) {U:List Di} {B:List Db} {R:List Di}:∀ (n i:Nat) (H:List qim) (W:List Di),H.length-i<=n->H.length<=200->Hole K0 W0 i x H W->(1<=i->eLe (elt qin H ((i-1)/2)) x)->∀ k,n<k ->
 ∃ H' W',iter (q1ad d) k (U,B,R,(i:Int),((2*i+1:Nat):Int),H,W,U,B,R,x.1,x.2.1,x.2.2.1,x.2.2.2.1,x.2.2.2.2.1)=some (H',W')/\HeapAt K0 W0 H' W':=by
 intro n
 induction n with
 | zero=>intro i H W h1 _ h;have:=h.hi;omega
 | succ n ih =>
  intro i H W hn hl h hp k hk
  obtain⟨k,rfl⟩:∃ m,k=m+1:=⟨k-1,by omega⟩
  have hi:=h.hi
  have ex:=h.evx hK
  have fin:(∀ c,1<=c->c<H.length->(c-1)/2=i->eLe x (elt qin H c))->∃ H' W',q1aa d (U,B,R,(i:Int),((2*i+1:Nat):Int),H,W,U,B,R,x.1,x.2.1,x.2.2.1,x.2.2.2.1,x.2.2.2.2.1)=some (H',W')/\HeapAt K0 W0 H' W':=fun hc =>
   ⟨_,_,by simp only[q1aa,q29x d hi h.lW ex,obnd],h.fill hK hp hc⟩
  have stp:∀ c:Nat,1<=c->c<H.length->(c-1)/2=i->(∀ c',1<=c'->c'<H.length->(c'-1)/2=i->c'≠c->eLe (elt qin H c) (elt qin H c')) ->
    ∃ H' W',q1ab d (iter (q1ad d) k) (U,B,R,(i:Int),(c:Int),H,W,U,B,R,x.1,x.2.1,x.2.2.1,x.2.2.2.1,x.2.2.2.2.1)=some (H',W')/\HeapAt K0 W0 H' W':=fun c c1 c2 c3 hm=>by
   have ec:=h.ev hK c2 (show c≠i by omega)
   simp only[q1ab,obif,inN c2,cond_true,Int.toNat_natCast,q29s d hd ec ex,obnd]
   by_cases hlt:cmpM (evM (elt qin H c)) (evM x)<0
   ·have hle:eLe (elt qin H c) x:=q29u (by unfold ltM;rw[decide_eq_true_eq];exact hlt)
    simp only[show decide (cmpM (evM (elt qin H c)) (evM x)≥0)=false by rw[decide_eq_false_iff_not];omega,cond_false,q29x d hi h.lW ec,q29z (show c<1000 by omega)]
    exact ih c _ _ (by rw[List.length_set];omega) (by rw[List.length_set];exact hl) (h.down hK c1 c2 c3 hm) (fun _=>by rw[c3,q28z _ _ _ hi,if_pos rfl];exact hle) k (by omega)
   ·simp only[show decide (cmpM (evM (elt qin H c)) (evM x)≥0)=true by rw[decide_eq_true_eq];omega,cond_true]
    refine fin fun c' b1 b2 b3=>?_
    by_cases hcc:c'=c
    ·subst hcc;exact q29v.2 hlt
    ·exact q29t ex ec (h.ev hK b2 (by omega)) (q29v.2 hlt) (hm c' b1 b2 b3 hcc)
  rw[iter]
  by_cases hc:2*i+1<H.length
  ·by_cases hc2:2*i+2<H.length
   ·have e1:=h.ev hK hc (show 2*i+1≠i by omega)
    have e2:=h.ev hK hc2 (show 2*i+2≠i by omega)
    have w2:wi (((2*i+1:Nat):Int)+1)=((2*i+2:Nat):Int):=by rw[wiS (by omega)]
    simp only[q1ad,show decide (((2*i+1:Nat):Int)<(H.length:Int))=true by rw[decide_eq_true_eq];omega,cond_true,w2,obif,show decide (((2*i+2:Nat):Int)<(H.length:Int))=true by rw[decide_eq_true_eq];omega,inN hc,inN hc2,Int.toNat_natCast,q29s d hd e2 e1,obnd,q1ac]
    by_cases hlt:cmpM (evM (elt qin H (2*i+2))) (evM (elt qin H (2*i+1)))<0
    ·simp only[hlt,decide_true,cond_true]
     refine stp (2*i+2) (by omega) hc2 (by omega) fun c' b1 b2 b3 b4=>?_
     have:c'=2*i+1:=by omega
     subst this
     exact q29u (by unfold ltM;rw[decide_eq_true_eq];exact hlt)
    ·simp only[hlt,decide_false,cond_false]
     refine stp (2*i+1) (by omega) hc (by omega) fun c' b1 b2 b3 b4=>?_
     have:c'=2*i+2:=by omega
     subst this
     exact q29v.2 hlt
   ·simp only[q1ad,show decide (((2*i+1:Nat):Int)<(H.length:Int))=true by rw[decide_eq_true_eq];omega,cond_true,wiS (show 2*i+1<9223372036854775807 by omega),obif,show decide (((2*i+1+1:Nat):Int)<(H.length:Int))=false by rw[decide_eq_false_iff_not];omega,cond_false,q1ac]
    refine stp (2*i+1) (by omega) hc (by omega) fun c' b1 b2 b3 b4=>?_
    omega
  ·simp only[q1ad,show decide (((2*i+1:Nat):Int)<(H.length:Int))=false by rw[decide_eq_false_iff_not];omega,cond_false]
   exact fin fun c b1 b2 b3=>by omega
theorem q2a1 (d:Nat) (hd:5000<=d) (hK:KOk K0) {U:List Di} {B:List Db} {R:List Di}:∀ (n i:Nat) (H:List qim) (W:List Di),i<=n->H.length<=200->Hole K0 W0 i x H W->∀ k,n<k ->
 ∃ H' W',iter (q1aj d) k (U,B,R,(i:Int),H,W,U,B,R,x.1,x.2.1,x.2.2.1,x.2.2.2.1,x.2.2.2.2.1)=some (H',W')/\HeapAt K0 W0 H' W':=by
 intro n
 induction n with
 | zero =>
  intro i H W hn hl h k hk
  obtain⟨k,rfl⟩:∃ m,k=m+1:=⟨k-1,by omega⟩
  have h0:i=0:=by omega
  subst h0
  rw[iter]
  simp only[q1aj,q1ag,show decide (((0:Nat):Int)>0)=false from rfl,obif,cond_false,q1af,q29z (show 0<1000 by omega)]
  exact q2a0 d (by omega) hK (H.length) 0 H W (by omega) hl h (fun h=>by omega) d (by omega)
 | succ n ih =>
  intro i H W hn hl h k hk
  obtain⟨k,rfl⟩:∃ m,k=m+1:=⟨k-1,by omega⟩
  have hi:=h.hi
  have ex:=h.evx hK
  have dn:(1<=i->eLe (elt qin H ((i-1)/2)) x)->∃ H' W',iter (q1ad d) d (U,B,R,(i:Int),((2*i+1:Nat):Int),H,W,U,B,R,x.1,x.2.1,x.2.2.1,x.2.2.2.1,x.2.2.2.2.1)=some (H',W')/\HeapAt K0 W0 H' W':=fun hp =>
   q2a0 d (by omega) hK (H.length) i H W (by omega) hl h hp d (by omega)
  rw[iter]
  by_cases h1:1<=i
  ·have hp:(i-1)/2<H.length:=by omega
   have ep:=h.ev hK hp (show (i-1)/2≠i by omega)
   simp only[q1aj,q1ag,show decide ((i:Int)>0)=true by rw[decide_eq_true_eq];omega,obif,cond_true,show ((2:Int)==0)=false from rfl,cond_false,q29y h1 (show i<1000 by omega),inN hp,Int.toNat_natCast,q29s d (show 5<=d by omega) ex ep,obnd,q1af]
   by_cases hlt:cmpM (evM x) (evM (elt qin H ((i-1)/2)))<0
   ·simp only[hlt,decide_true,cond_true,q29x d hi h.lW ep]
    exact ih ((i-1)/2) _ _ (by omega) (by rw[List.length_set];exact hl) (h.up hK h1) k (by omega)
   ·simp only[hlt,decide_false,cond_false,q29z (show i<1000 by omega)]
    exact dn fun _=>q29v.2 hlt
  ·have h0:i=0:=by omega
   subst h0
   simp only[q1aj,q1ag,show decide (((0:Nat):Int)>0)=false from rfl,obif,cond_false,q1af,q29z (show 0<1000 by omega)]
   exact dn fun h=>by omega
theorem q2a2 (d:Nat) (hd:5000<=d) (hK:KOk K0) {U:List Di} {B:List Db} {R:List Di} (hl:H.length<=200) (h:Hole K0 W0 i x H W) :
 ∃ H' W',q1a7 d (U,B,R,(i:Int),x.1,x.2.1,x.2.2.1,x.2.2.2.1,x.2.2.2.2.1,H,W)=some (H',W')/\HeapAt K0 W0 H' W':=by
 have hi:=h.hi
 have lW:=h.lW
 rw[q1am]
 simp only[q1al,obif,show Nat.blt 0 H.length=true from Nat.ble_eq_true_of_le (by omega),show Nat.blt 0 W.length=true from Nat.ble_eq_true_of_le (by omega),Bool.and_self,cond_true]
 exact q2a1 d hd hK i i H W (Nat.le_refl _) hl h d (by omega)
end Go.Proofs.YtfjjdnaggblaaaaGreat
namespace Go.Tx
open Go
theorem q2a3 {S R:Type} {L:(S->Option R)->S->Option R} (st:Nat->S) (v:Option R) (n:Nat) (hs:∀ i self,i<n->L self (st i)=self (st (i+1))) (he:∀ self,L self (st n)=v):∀ d i,i<=n->n-i<d->iter L d (st i)=v:=by
 intro d
 induction d with
 | zero=>intro i _ h;omega
 | succ d ih =>
  intro i hi h
  rw[iter]
  by_cases hn:i=n
  ·subst hn;exact he _
  ·rw[hs i _ (by omega)]
   exact ih (i+1) (by omega) (by omega)
theorem q2a4 {κ:MK} {τ:Row} {x k:κ.T} {y:den τ}:∀ m:List (κ.T×den τ),mget κ τ (mput κ τ m x y) k=bif κ.eq k x then y else mget κ τ m k
 | []=>rfl
 | p::r => by
  unfold mput
  cases hx:κ.eq x p.1 with
  | true =>
   have e:=MK.eq_iff.1 hx
   simp only[cond_true,mget]
   rw[← e]
   cases κ.eq k x<;>rfl
  | false =>
   simp only[cond_false,mget,q2a4 r]
   cases hk:κ.eq k p.1 with
   | false=>rfl
   | true =>
    have e:=MK.eq_iff.1 hk
    cases hkx:κ.eq k x with
    | false=>rfl
    | true =>
     have e2:=MK.eq_iff.1 hkx
     rw[← e2,e,MK.eq_iff.2 rfl]at hx;cases hx
end Go.Tx
namespace Go.Proofs.YtfjjdnaggblaaaaGreat
open Go Go.Tx Go.Pel
def q2a5 (κ:MK) (l:List κ.T):List (κ.T×Db):=l.foldl (fun m k=>mput κ Rb m k (true,())) []
theorem q2a6 {κ:MK} (l:List κ.T) (k:κ.T):q2a5 κ (l ++ [k])=mput κ Rb (q2a5 κ l) k (true,()):=List.foldl_append
theorem q2a7 {κ:MK} {x k:κ.T} (m:List (κ.T×Db)):(mget κ Rb (mput κ Rb m x (true,())) k).1=bif κ.eq k x then true else (mget κ Rb m k).1 :=
 (congrArg Prod.fst (q2a4 (κ:=κ) (τ:=Rb) (x:=x) (k:=k) (y:=((true,()):Db)) m)).trans (by cases κ.eq k x<;>rfl)
theorem q2a8 {κ:MK} {k:κ.T}:∀ (l:List κ.T) (m:List (κ.T×Db)),(mget κ Rb m k).1=false->k∉l->(mget κ Rb (l.foldl (fun m k=>mput κ Rb m k (true,())) m) k).1=false
 | [],_,h,_=>h
 | a::l, m, h, hk => by
  refine q2a8 l _ ?_ (fun hm=>hk (List.mem_cons_of_mem _ hm))
  refine (q2a7 m).trans ?_
  cases he:κ.eq k a with
  | false=>exact h
  | true=>exact absurd (by rw[MK.eq_iff.1 he];exact List.mem_cons_self ..) hk
theorem q2a9 {κ:MK} {k:κ.T} {l:List κ.T} (h:k∉l):(mget κ Rb (q2a5 κ l) k).1=false:=q2a8 l [] rfl h
structure AgOk (M:Int) (U:List Di) (B:List Db) (R:List Di) (H:List qim) (W:List Di):Prop where
 sl:SlotOk M U B R
 lh:H.length+R.length=200
 lW:W.length=200
 ks:KOk H
 us:∀ e∈H,(elt zb B e.2.2.2.1.toNat).1=true/\(elt zi U e.2.2.2.1.toNat).1=e.2.2.2.2.1
 pl:∀ j,j<H.length->(elt zi W (elt qin H j).2.2.2.1.toNat).1=(j:Int)
 fr:∀ s:Nat,s<200->(elt zb B s).1=false->(elt zi W s).1=-1
 tk:∀ s:Nat,s<200->(elt zb B s).1=true->∃ e∈H,e.2.2.2.1=(s:Int)
 nn:(H.map fun e=>e.2.2.1).Nodup
 ord:∀ c,1<=c->c<H.length->eLe (elt qin H ((c-1)/2)) (elt qin H c)
variable {M:Int} {U:List Di} {B:List Db} {R:List Di} {H:List qim} {W:List Di}
theorem AgOk.lR (h:AgOk M U B R H W):R.length<=200:=by have:=h.lh;omega
theorem AgOk.lH (h:AgOk M U B R H W):H.length<=200:=by have:=h.lh;omega
theorem AgOk.ev (h:AgOk M U B R H W) {j:Nat} (hj:j<H.length):EvOk (elt qin H j):=h.ks.ev _ (q290 _ hj)
theorem AgOk.at (h:AgOk M U B R H W) {s:Nat} (hs:s<200) (hb:(elt zb B s).1=true):∃ j,j<H.length/\(elt zi W s).1=(j:Int)/\(elt qin H j).2.2.2.1=(s:Int)/\(elt qin H j).2.2.2.2.1=(elt zi U s).1:=by
 obtain⟨e,he,hi⟩:=h.tk s hs hb
 obtain⟨j,hj,rfl⟩:=List.mem_iff_getElem.1 he
 have e1:elt qin H j=H[j]:=by unfold elt;rw[List.getElem?_eq_getElem hj];rfl
 have hp:=h.pl j hj
 rw[e1,hi,Int.toNat_natCast]at hp
 have hu:=(h.us _ he).2
 rw[hi,Int.toNat_natCast]at hu
 exact⟨j,hj,hp,by rw[e1];exact hi,by rw[e1];exact hu.symm⟩
theorem AgOk.mem (h:AgOk M U B R H W) {e:qim} (he:e∈H):∃ j,j<H.length/\(elt zi W e.2.2.2.1.toNat).1=(j:Int)/\elt qin H j=e:=by
 obtain⟨j,hj,rfl⟩:=List.mem_iff_getElem.1 he
 have e1:elt qin H j=H[j]:=by unfold elt;rw[List.getElem?_eq_getElem hj];rfl
 exact⟨j,hj,by rw[← e1];exact h.pl j hj,e1⟩
theorem AgOk.new (h:AgOk M U B R H W) {i:Nat} (hi:i<H.length):(elt qin H i).2.2.1∉(H.take i).map fun e=>e.2.2.1:=by
 rw[List.map_take]
 exact q295 h.nn (by rw[List.getElem?_map,q291 qin hi];rfl)
theorem q2aa (d:Nat) {e:qim} (h:EvOk e):qt0 d ((e.1,e.2.1,()),())=some 0:=by
 rw[← h.ok];exact qt1 _ _ (by unfold qsz;simp only[h.b1,h.b2,Bool.and_self])
theorem q2ab (d:Nat) {e:qim} (h:EvOk e):qt9 d ((e.1,e.2.1,()),())=some 0:=by
 rw[← h.ok];exact qta _ _ (by unfold qt8;simp only[h.b1,h.b2,Bool.and_self])
theorem q2ac (d:Nat) (hd:5000<=d) (hM:M<=1000) (h:AgOk M U B R H W):q18q d ((U,B,R,H,W,()),())=some 0:=by
 have e1:=q29f d hd hM h.sl h.lR
 have lB:=h.sl.lB;have lW:=h.lW;have lU:=h.sl.lU;have lh:=h.lh
 have l2:iter (q18x d) d (H,(H.length:Int),0,U,B,R,H,W,[])=some 0:=by
  refine q26b (fun i=>(H,(H.length:Int),(i:Int),U,B,R,H,W,q2a5 (.int .i64) ((H.take i).map fun e=>e.2.2.1))) _ H.length (fun i self hi=>?_) (fun self=>?_) (by omega) rfl
  ·have ei:=h.ev hi
   have hn:(mget (.int .i64) Rb (q2a5 (.int .i64) ((H.take i).map fun e=>e.2.2.1)) (elt qin H i).2.2.1).1=false:=q2a9 (κ:=.int .i64) (h.new hi)
   have hs:q2a5 (.int .i64) ((H.take (i+1)).map fun e=>e.2.2.1)=mput (.int .i64) Rb (q2a5 (.int .i64) ((H.take i).map fun e=>e.2.2.1)) (elt qin H i).2.2.1 (true,()):=by
    rw[q293 (q291 qin hi),List.map_append];exact q2a6 (κ:=.int .i64) _ _
   have n0:=ei.n0;have n1:=ei.n1
   simp only[q18x,show decide ((i:Int)<(H.length:Int))=true by rw[decide_eq_true_eq];omega,cond_true,inN hi,obif,Int.toNat_natCast,q2aa d ei,obnd,show ((0:Int) != 0)=false from rfl,show decide ((elt qin H i).2.2.1<0)=false by rw[decide_eq_false_iff_not];omega,show decide ((elt qin H i).2.2.1>1000000)=false by rw[decide_eq_false_iff_not];omega,cond_false,hn,q18w,show ((2:Nat)==0)=false from rfl,hs,wiS (show i<9223372036854775807 by omega),q18v]
   by_cases h1:1<=i
   ·have hp:(i-1)/2<H.length:=by omega
    have:=q29v.1 (h.ord i h1 hi)
    simp only[show decide ((i:Int)>0)=true by rw[decide_eq_true_eq];omega,cond_true,q29y h1 (show i<1000 by omega),inN hp,Int.toNat_natCast,q29s d (show 5<=d by omega) ei (h.ev hp),this,decide_false,cond_false]
   ·simp only[show decide ((i:Int)>0)=false by rw[decide_eq_false_iff_not];omega,cond_false]
  ·simp only[q18x,show decide ((H.length:Int)<(H.length:Int))=false by rw[decide_eq_false_iff_not];omega,cond_false]
 rw[q196]
 simp only[q195,e1,obnd,show ((0:Int) != 0)=false from rfl,obif,cond_false,lB,lW,show ((((200:Nat):Int)) != ((200:Nat):Int))=false from rfl,show ((H.length:Int) != wi (((200:Nat):Int)-(R.length:Int)))=false by rw[q269 (by omega),bne_eq_false_iff_eq];omega,q191]
 refine q26b (fun i=>(W,((200:Nat):Int),(i:Int),U,B,R,H,W)) _ 200 (fun i self hi=>?_) (fun self=>?_) (by omega) rfl
 ·simp only[q193,q18z,q18u,q18t,show decide ((i:Int)<((200:Nat):Int))=true by rw[decide_eq_true_eq];omega,cond_true,inN (show i<W.length by omega),inN (show i<U.length by omega),inN (show i<B.length by omega),obif,Int.toNat_natCast,wiS (show i<9223372036854775807 by omega)]
  cases hb:(elt zb B i).1 with
  | false =>
   simp only[h.fr i hi hb,Bool.not_false,cond_true,show ((-1:Int) != -1)=false from rfl,cond_false]
  | true =>
   obtain⟨j,hj,e2,e3,e4⟩:=h.at hi hb
   simp only[e2,Bool.not_true,cond_false,show decide ((j:Int)<0)=false by rw[decide_eq_false_iff_not];omega,show decide ((j:Int)≥(H.length:Int))=false by rw[decide_eq_false_iff_not];omega,inN hj,cond_true,Int.toNat_natCast,e3,e4,beq_self_eq_true,Bool.and_self]
 ·simp only[q193,q18z,show decide ((((200:Nat):Int))<((200:Nat):Int))=false from rfl,cond_false]
  exact l2
theorem q2ad (d:Nat) (hd:5000<=d) (h:AgOk M U B R H W):q1m7 d ((U,B,R,H,W,()),())=some true:=by
 have lB:=h.sl.lB;have lW:=h.lW;have lU:=h.sl.lU;have lh:=h.lh
 rw[q1mg]
 simp only[q1mf,obif,lU,lW,show ((((200:Nat):Int)) != ((200:Nat):Int))=false from rfl,cond_false,show ((H.length:Int) != wi (((200:Nat):Int)-(R.length:Int)))=false by rw[q269 (by omega),bne_eq_false_iff_eq];omega,q1md]
 refine q26b (fun i=>(((200:Nat):Int),(i:Int),U,B,R,H,W)) _ 200 (fun i self hi=>?_) (fun self=>?_) (by omega) rfl
 ·simp only[q1mb,q1ma,q1m9,show decide ((i:Int)<((200:Nat):Int))=true by rw[decide_eq_true_eq];omega,cond_true,inN (show i<W.length by omega),inN (show i<B.length by omega),obif,Int.toNat_natCast,wiS (show i<9223372036854775807 by omega)]
  cases hb:(elt zb B i).1 with
  | false =>
   simp only[h.fr i hi hb,Bool.not_false,cond_true,show ((-1:Int) != -1)=false from rfl,cond_false]
  | true =>
   obtain⟨j,hj,e2,e3,e4⟩:=h.at hi hb
   have el:=q29p d h.sl (i:=(i:Int)) (u:=(elt zi U i).1) (by omega) (by omega) (by rw[Int.toNat_natCast];exact hb) rfl
   simp only[e2,Bool.not_true,cond_false,show decide ((j:Int)<0)=false by rw[decide_eq_false_iff_not];omega,show decide ((j:Int)≥(H.length:Int))=false by rw[decide_eq_false_iff_not];omega,inN hj,cond_true,Int.toNat_natCast,e3,e4,show ((i:Int) != (i:Int))=false by simp,el,obnd]
 ·simp only[q1mb,show decide ((((200:Nat):Int))<((200:Nat):Int))=false from rfl,cond_false]
theorem q2ae (d:Nat) {x y:qim} (hx:EvOk x) (hy:EvOk y):q1n7 d ((x.1,x.2.1,x.2.2.1,x.2.2.2.1,x.2.2.2.2.1,()),(y.1,y.2.1,y.2.2.1,y.2.2.2.1,y.2.2.2.2.1,()),())=some (ltM (evM x) (evM y)):=by
 rw[q1n9]
 simp only[q1n8,q26q d _ _ _ _ hx.b1 hx.b2 hy.b1 hy.b2,obnd,obif]
 unfold ltM cmpM
 show _=some (decide (orZ (cmpQ x.1 x.2.1 y.1 y.2.1) (orZ (cmpZ x.2.2.1 y.2.2.1) (cmpZ 0 0))<0))
 rw[show cmpZ 0 0=0 from rfl,q29r]
 by_cases h1:cmpQ x.1 x.2.1 y.1 y.2.1<0
 ·simp only[h1,decide_true,cond_true]
  unfold orZ;rw[if_pos (by omega)];simp[h1]
 ·simp only[h1,decide_false,cond_false]
  by_cases h2:cmpQ x.1 x.2.1 y.1 y.2.1=0
  ·simp only[h2,beq_self_eq_true,cond_true]
   unfold orZ cmpZ
   rw[if_neg (by simp)]
   refine congrArg some ?_
   rw[decide_eq_decide]
   repeat' split
   all_goals omega
  ·simp only[show (cmpQ x.1 x.2.1 y.1 y.2.1==0)=false by rw[beq_eq_false_iff_ne];exact h2,cond_false]
   unfold orZ;rw[if_pos (by omega)];simp[h1]
theorem q2af (d:Nat) (hd:5000<=d) (hM:M<=1000) (h:AgOk M U B R H W):q1ne d ((U,B,R,H,W,()),())=some 0:=by
 have e1:=q29g d hd hM h.sl h.lR
 have e2:=q2ad d hd h
 have lh:=h.lh
 have l3:iter (q1nl d) d (1,U,B,R,H,W)=some 0:=by
  by_cases h0:H.length<=1
  ·obtain⟨k,rfl⟩:∃ k,d=k+1:=⟨d-1,by omega⟩
   rw[iter];simp only[q1nl,show decide ((1:Int)<(H.length:Int))=false by rw[decide_eq_false_iff_not];omega,cond_false]
  ·refine q2a3 (fun i=>(((i+1:Nat):Int),U,B,R,H,W)) _ (H.length-1) (fun i self hi=>?_) (fun self=>?_) d 0 (by omega) (by omega)
   ·have hp:(i+1-1)/2<H.length:=by omega
    have hi1:i+1<H.length:=by omega
    have hl:ltM (evM (elt qin H (i+1))) (evM (elt qin H ((i+1-1)/2)))=false:=h.ord (i+1) (by omega) hi1
    simp only[q1nl,show decide (((i+1:Nat):Int)<(H.length:Int))=true by rw[decide_eq_true_eq];omega,cond_true,inN hi1,obif,Int.toNat_natCast,show ((2:Nat)==0)=false from rfl,cond_false,q29y (show 1<=i+1 by omega) (show i+1<1000 by omega),inN hp,q2ae d (h.ev hi1) (h.ev hp),hl,obnd,wiS (show i+1<9223372036854775807 by omega)]
   ·simp only[q1nl,show decide (((H.length-1+1:Nat):Int)<(H.length:Int))=false by rw[decide_eq_false_iff_not];omega,cond_false]
 rw[q1nu]
 simp only[q1nt,e1,obnd,show ((0:Int) != 0)=false from rfl,obif,cond_false,e2,Bool.not_true]
 refine q26b (fun i=>((i:Int),U,B,R,H,W)) _ H.length (fun i self hi=>?_) (fun self=>?_) (by omega) rfl
 ·have ei:=h.ev hi
  have n0:=ei.n0;have n1:=ei.n1
  simp only[q1nr,q1nn,show decide ((i:Int)<(H.length:Int))=true by rw[decide_eq_true_eq];omega,cond_true,inN hi,obif,Int.toNat_natCast,q2ab d ei,obnd,show ((0:Int) != 0)=false from rfl,show decide ((elt qin H i).2.2.1<0)=false by rw[decide_eq_false_iff_not];omega,show decide ((elt qin H i).2.2.1>1000000)=false by rw[decide_eq_false_iff_not];omega,cond_false,q1nk]
  refine q2a3 (fun j=>((i:Int),(j:Int),U,B,R,H,W,(elt qin H i).1,(elt qin H i).2.1,(elt qin H i).2.2.1,(elt qin H i).2.2.2.1,(elt qin H i).2.2.2.2.1)) _ i (fun j self' hj=>?_) (fun self'=>?_) d 0 (by omega) (by omega)
  ·have hne:(elt qin H j).2.2.1≠(elt qin H i).2.2.1:=fun e=>h.new hi (by
    rw[← e];refine List.mem_map.2 ⟨elt qin H j,?_,rfl⟩
    have:=q290 qin (l:=H.take i) (i:=j) (by rw[List.length_take];omega)
    rwa[show elt qin (H.take i) j=elt qin H j by unfold elt;rw[List.getElem?_take_of_lt hj]]at this)
   simp only[q1ni,show decide ((j:Int)<(i:Int))=true by rw[decide_eq_true_eq];omega,cond_true,inN (show j<H.length by omega),obif,Int.toNat_natCast,show ((elt qin H j).2.2.1==(elt qin H i).2.2.1)=false by rw[beq_eq_false_iff_ne];exact hne,cond_false,wiS (show j<9223372036854775807 by omega)]
  ·simp only[q1ni,show decide ((i:Int)<(i:Int))=false by simp,cond_false,wiS (show i<9223372036854775807 by omega)]
 ·simp only[q1nr,q1nn,show decide ((H.length:Int)<(H.length:Int))=false by simp,cond_false]
  exact l3
end Go.Proofs.YtfjjdnaggblaaaaGreat
namespace Go.Proofs.YtfjjdnaggblaaaaGreat
open Go Go.Tx Go.Pel
variable {M:Int} {U:List Di} {B:List Db} {R:List Di} {H:List qim} {W:List Di}
theorem q2ag (d:Nat) {L:List qim} (hl:L.length<=1000):q11d d ((L,()),())=some L:=by
 unfold q11d apB;rw[show Nat.ble (0+L.length) 100000=true from Nat.ble_eq_true_of_le (by omega)];rfl
theorem q2ah (d:Nat) (h:AgOk M U B R H W):q11q d ((U,B,R,H,W,()),())=some (U,B,R,H,W):=by
 have:=h.lh;have:=h.lW
 rw[q11s]
 simp only[q11r,q2ag d (show H.length<=1000 by omega),q29d d (show W.length<=1000 by omega),obnd]
theorem q2ai (d:Nat) (hd:5000<=d) {num:Int} (hl:H.length<=200) (hn:∀ e∈H,e.2.2.1≠num):q19t d ((H,()),((num,()),()),())=some false:=by
 have e:q19i d ((H,()),((num,()),()),())=some (-1):=by
  rw[q19o]
  simp only[q19n]
  refine q26b (fun i=>(H,(num,()),(H.length:Int),(i:Int))) _ H.length (fun i self hi=>?_) (fun self=>?_) (by omega) rfl
  ·simp only[q19k,show decide ((i:Int)<(H.length:Int))=true by rw[decide_eq_true_eq];omega,cond_true,inN hi,obif,Int.toNat_natCast,q19d,q19c,obnd,show ((elt qin H i).2.2.1==num)=false by rw[beq_eq_false_iff_ne];exact hn _ (q290 _ hi),cond_false,wiS (show i<9223372036854775807 by omega)]
  ·simp only[q19k,show decide ((H.length:Int)<(H.length:Int))=false by simp,cond_false]
 rw[q19v];simp only[q19u,e,obnd]
 rfl
theorem q2aj {α:Type} (z:α) {l:List α} {x:α} {j:Nat} (h:j<l.length):elt z (l ++ [x]) j=elt z l j:=by
 unfold elt;rw[List.getElem?_append_left h]
theorem q2ak {α:Type} (z:α) {l:List α} {x:α}:elt z (l ++ [x]) l.length=x:=by
 unfold elt;rw[List.getElem?_append_right (Nat.le_refl _),Nat.sub_self];rfl
theorem AgOk.busy (h:AgOk M U B R H W) {e:qim} (he:e∈H) {x:Di} (hx:x∈R):e.2.2.2.1.toNat≠x.1.toNat:=by
 intro k
 have h1:=(h.us e he).1
 rw[k,h.sl.free hx]at h1;cases h1
theorem q2al {x:Di} (h:AgOk M U B (R ++ [x]) H W) {n dd num:Int} {H':List qim} {W':List Di}
 (he:EvOk (n,dd,num,x.1,(elt zi U x.1.toNat).1+1,())) (hn:∀ e∈H,e.2.2.1≠num)
 (hh:HeapAt (H ++ [(n,dd,num,x.1,(elt zi U x.1.toNat).1+1,())]) W H' W') :
 AgOk (M+1) (U.set x.1.toNat ((elt zi U x.1.toNat).1+1,())) (B.set x.1.toNat (true,())) R H' W':=by
 have hx:x∈R ++ [x]:=by simp
 have hr:=h.sl.rg x hx
 have lU:=h.sl.lU;have lB:=h.sl.lB;have lh:=h.lh
 have hm:∀ e',e'∈H'↔e'∈H∨e'=(n,dd,num,x.1,(elt zi U x.1.toNat).1+1,()):=fun e'=>by
  rw[hh.pm.mem_iff,List.mem_append,List.mem_singleton]
 have ks:KOk (H ++ [(n,dd,num,x.1,(elt zi U x.1.toNat).1+1,())]):=by
  refine⟨fun e' he'=>?_,?_⟩
  ·rw[List.mem_append,List.mem_singleton]at he'
   rcases he' with he' | he'
   ·exact h.ks.ev e' he'
   ·subst he';exact he
  ·rw[List.map_append,List.nodup_append]
   refine⟨h.ks.nd,List.nodup_cons.2 ⟨List.not_mem_nil,List.nodup_nil⟩,fun a ha b hb k=>?_⟩
   obtain⟨e',he',rfl⟩:=List.mem_map.1 ha
   rw[List.map_singleton,List.mem_singleton]at hb
   subst hb
   exact h.busy he' hx (by rw[k])
 have ll:H'.length=H.length+1:=by rw[hh.pm.length_eq];simp
 refine⟨q1r1 h.sl,by rw[List.length_append,List.length_singleton]at lh;omega,hh.lW,ks.perm hh.pm,fun e' he'=>?_,hh.pl,fun s hs hb=>?_,fun s hs hb=>?_,?_,hh.ord⟩
 ·rw[q28z zb _ _ (by omega),q28z zi _ _ (by omega)]
  rcases (hm e').1 he' with k | k
  ·rw[if_neg (Ne.symm (h.busy k hx)),if_neg (Ne.symm (h.busy k hx))];exact h.us e' k
  ·subst k;simp
 ·rw[q28z zb _ _ (by omega)]at hb
  by_cases hsx:x.1.toNat=s
  ·rw[if_pos hsx]at hb;cases hb
  ·rw[if_neg hsx]at hb
   rw[hh.un s fun e' he' k=>?_]
   ·exact h.fr s hs hb
   ·rw[List.mem_append,List.mem_singleton]at he'
    rcases he' with he' | he'
    ·have:=(h.us e' he').1
     rw[k,Int.toNat_natCast,hb]at this;cases this
    ·subst he';exact hsx (by rw[show x.1=(s:Int) from k];simp)
 ·rw[q28z zb _ _ (by omega)]at hb
  by_cases hsx:x.1.toNat=s
  ·exact⟨_,(hm _).2 (Or.inr rfl),show x.1=(s:Int) by omega⟩
  ·rw[if_neg hsx]at hb
   obtain⟨e',h1,h2⟩:=h.tk s hs hb
   exact⟨e',(hm _).2 (Or.inl h1),h2⟩
 ·rw[(hh.pm.map fun e=>e.2.2.1).nodup_iff,List.map_append,List.nodup_append]
  refine⟨h.nn,List.nodup_cons.2 ⟨List.not_mem_nil,List.nodup_nil⟩,fun a ha b hb k=>?_⟩
  obtain⟨e',he',rfl⟩:=List.mem_map.1 ha
  rw[List.map_singleton,List.mem_singleton]at hb
  subst hb
  exact hn e' he' k
theorem q2am (d:Nat) (hd:5000<=d) (hM:M<=999) {x:Di} (h:AgOk M U B (R ++ [x]) H W) {n dd num:Int}
 (hb1:i64B n=true) (hb2:i64B dd=true) (hok:qjo n dd=0) (n0:0<=num) (n1:num<=1000000) (hn:∀ e∈H,e.2.2.1≠num) :
 ∃ H' W' U' B' u,q1ar d ((U,B,R ++ [x],H,W,()),(n,dd,()),(num,()),())=some (U',B',R,H',W',x.1,u,0)/\AgOk (M+1) U' B' R H' W'/\H'.Perm (H ++ [(n,dd,num,x.1,u,())]):=by
 have hx:x∈R ++ [x]:=by simp
 have hr:=h.sl.rg x hx
 have lU:=h.sl.lU;have lB:=h.sl.lB;have lh:=h.lh;have lW:=h.lW
 rw[List.length_append,List.length_singleton]at lh
 have he:EvOk (n,dd,num,x.1,(elt zi U x.1.toNat).1+1,()):=⟨hb1,hb2,hok,n0,n1,hr.1,hr.2⟩
 have ks:KOk (H ++ [(n,dd,num,x.1,(elt zi U x.1.toNat).1+1,())]):=by
  refine⟨fun e' he'=>?_,?_⟩
  ·rw[List.mem_append,List.mem_singleton]at he'
   rcases he' with he' | he'
   ·exact h.ks.ev e' he'
   ·subst he';exact he
  ·rw[List.map_append,List.nodup_append]
   refine⟨h.ks.nd,List.nodup_cons.2 ⟨List.not_mem_nil,List.nodup_nil⟩,fun a ha b hb k=>?_⟩
   obtain⟨e',he',rfl⟩:=List.mem_map.1 ha
   rw[List.map_singleton,List.mem_singleton]at hb
   subst hb
   exact h.busy he' hx (by rw[k])
 have hl:(H ++ [(n,dd,num,x.1,(elt zi U x.1.toNat).1+1,())]).length=H.length+1:=by simp
 have ho:Hole (H ++ [(n,dd,num,x.1,(elt zi U x.1.toNat).1+1,())]) W H.length (n,dd,num,x.1,(elt zi U x.1.toNat).1+1,()) (H ++ [(n,dd,num,x.1,(elt zi U x.1.toNat).1+1,())]) W:=by
  refine⟨by omega,?_,lW,fun j hj hji=>?_,fun _ _=>rfl,fun c c1 c2 c3 c4=>?_,fun c c1 c2 c3 c4=>by omega⟩
  ·rw[List.set_append_right _ _ (Nat.le_refl _),Nat.sub_self];exact List.Perm.refl _
  ·rw[q2aj _ (by omega)];exact h.pl j (by omega)
  ·rw[q2aj _ (by omega),q2aj _ (by omega)];exact h.ord c c1 (by omega)
 obtain⟨H',W',e1,hh⟩:=q2a2 d hd ks (U:=U.set x.1.toNat ((elt zi U x.1.toNat).1+1,())) (B:=B.set x.1.toNat (true,())) (R:=R) (by omega) ho
 refine⟨H',W',_,_,_,?_,q2al h he hn hh,hh.pm⟩
 have w:wi (((H ++ [(n,dd,num,x.1,(elt zi U x.1.toNat).1+1,())]).length:Int)-1)=(H.length:Int):=by rw[q269 (by omega)];omega
 rw[q1au]
 simp only[q1at,q2ac d hd (show M<=1000 by omega) h,obnd,q2aa d he,show tmax 0 0=0 from rfl,show ((0:Int) != 0)=false from rfl,cond_false,obif,show decide (num<0)=false by rw[decide_eq_false_iff_not];omega,show decide (num>1000000)=false by rw[decide_eq_false_iff_not];omega,q1as,q2ai d hd (show H.length<=200 by omega) hn,q29k d hd (show M<=1000 by omega) h.sl (show R.length<200 by omega),q2ah d h,apB,show Nat.ble (H.length + [(n,dd,num,x.1,(elt zi U x.1.toNat).1+1,())].length) 100000=true from Nat.ble_eq_true_of_le (show H.length+1<=100000 by omega),cond_true,w,e1]
theorem q2an {e:qim} {K0:List qim} (hp:(e::K0).Perm H) (h:KOk H):∀ e'∈K0,e'.2.2.2.1≠e.2.2.2.1:=fun e' he' k=>by
 have:=((hp.map fun e=>e.2.2.2.1).nodup_iff).2 h.nd
 rw[List.map_cons,List.nodup_cons]at this
 exact this.1 (List.mem_map.2 ⟨e',he',k⟩)
theorem q2ao (h:AgOk M U B R H W) {e:qim} {K0 H':List qim} {W':List Di} (hp:(e::K0).Perm H)
 (hh:HeapAt K0 (W.set e.2.2.2.1.toNat (-1,())) H' W'):AgOk M U (B.set e.2.2.2.1.toNat (false,())) (R ++ [(e.2.2.2.1,())]) H' W':=by
 have he:e∈H:=hp.mem_iff.1 (List.mem_cons_self ..)
 have hev:=h.ks.ev e he
 have i0:=hev.i0;have i1:=hev.i1
 have lU:=h.sl.lU;have lB:=h.sl.lB;have lh:=h.lh;have lW:=h.lW
 have hbe:=(h.us e he).1
 have hK:∀ e'∈K0,e'∈H:=fun e' k=>hp.mem_iff.1 (List.mem_cons_of_mem _ k)
 have hne:=q2an hp h.ks
 have hn2:∀ e'∈K0,e'.2.2.2.1.toNat≠e.2.2.2.1.toNat:=fun e' k k2=>by
  have:=(h.ks.ev e' (hK e' k)).i0
  exact hne e' k (by omega)
 have ks:KOk K0:=⟨fun e' k=>h.ks.ev e' (hK e' k),by
  have:=((hp.map fun e=>e.2.2.2.1).nodup_iff).2 h.ks.nd
  rw[List.map_cons,List.nodup_cons]at this;exact this.2⟩
 have ll:H'.length+1=H.length:=by rw[hh.pm.length_eq,← hp.length_eq];rfl
 refine⟨q29n h.sl i0 i1 hbe,by rw[List.length_append,List.length_singleton];omega,hh.lW,ks.perm hh.pm,fun e' he'=>?_,hh.pl,fun s hs hb=>?_,fun s hs hb=>?_,?_,hh.ord⟩
 ·have k:=hh.pm.mem_iff.1 he'
  rw[q28z zb _ _ (by omega),if_neg (Ne.symm (hn2 e' k))]
  exact h.us e' (hK e' k)
 ·rw[q28z zb _ _ (by omega)]at hb
  by_cases hsx:e.2.2.2.1.toNat=s
  ·rw[hh.un s fun e' he' k=>hn2 e' he' (by rw[k];omega),q28z zi _ _ (by omega),if_pos hsx]
  ·rw[if_neg hsx]at hb
   rw[hh.un s fun e' he' k=>?_,q28z zi _ _ (by omega),if_neg hsx]
   ·exact h.fr s hs hb
   ·have:=(h.us e' (hK e' he')).1
    rw[k,Int.toNat_natCast,hb]at this;cases this
 ·rw[q28z zb _ _ (by omega)]at hb
  by_cases hsx:e.2.2.2.1.toNat=s
  ·rw[if_pos hsx]at hb;cases hb
  ·rw[if_neg hsx]at hb
   obtain⟨e',h1,h2⟩:=h.tk s hs hb
   rcases List.mem_cons.1 (hp.mem_iff.2 h1) with k | k
   ·subst k;exact absurd (by omega) hsx
   ·exact⟨e',hh.pm.mem_iff.2 k,h2⟩
 ·rw[(hh.pm.map fun e=>e.2.2.1).nodup_iff]
  have:=((hp.map fun e=>e.2.2.1).nodup_iff).2 h.nn
  rw[List.map_cons,List.nodup_cons]at this;exact this.2
theorem q2ap {α:Type} (z:α) {l:List α} {j k:Nat} (h:j<k):elt z (l.take k) j=elt z l j:=by
 unfold elt;rw[List.getElem?_take_of_lt h]
theorem q2aq {l:List qim} {k:Nat} (hk:l.length=k+1):l=l.take k ++ [elt qin l k]:=by
 have:l.take (k+1)=l:=List.take_of_length_le (by omega)
 rw[← q293 (q291 qin (by omega)),this]
theorem q2ar (d:Nat) (hd:5000<=d) (hM:M<=1000) (h:AgOk M U B R H W) {e:qim} (he:e∈H):q1az d ((U,B,R,H,W,()),(e.2.2.2.1,e.2.2.2.2.1,()),())=some ((elt zi W e.2.2.2.1.toNat).1,0):=by
 have hev:=h.ks.ev e he
 have i0:=hev.i0;have i1:=hev.i1;have lW:=h.lW
 have hu:=h.us e he
 rw[q1b2]
 simp only[q1b1,q2ac d hd hM h,obnd,show ((0:Int) != 0)=false from rfl,cond_false,q29l d hd hM h.sl h.lR i0 i1 hu.1 hu.2,obif,Bool.not_true,q1b0,inI i0 (show e.2.2.2.1<(W.length:Int) by omega),cond_true]
theorem q2as (d:Nat) (hd:5000<=d) (hM:M<=1000) (h:AgOk M U B R H W) {e:qim} (he:e∈H) :
 ∃ H' W' B' R',q1bf d ((U,B,R,H,W,()),(e.2.2.2.1,e.2.2.2.2.1,()),())=some (U,B',R',H',W',e.1,e.2.1,e.2.2.1,e.2.2.2.1,e.2.2.2.2.1,0)/\AgOk M U B' R' H' W'/\(e::H').Perm H:=by
 obtain⟨w,hw,hp,hat⟩:=h.mem he
 have hev:=h.ks.ev e he
 have i0:=hev.i0;have i1:=hev.i1;have lW:=h.lW;have lh:=h.lh
 have hu:=h.us e he
 obtain⟨l,hl⟩:∃ l,H.length=l+1:=⟨H.length-1,by omega⟩
 have hsp:=q2aq hl
 have hlt:(H.take l).length=l:=by rw[List.length_take];omega
 have w4:wi ((H.length:Int)-1)=(l:Int):=by rw[q269 (by omega)];omega
 have pre:∀ (H':List qim) (W':List Di),
   (bif decide ((w:Int)<(l:Int)) then obnd (q1a7 d (U,B.set e.2.2.2.1.toNat (false,()),R ++ [(e.2.2.2.1,())],(w:Int),(elt qin H l).1,(elt qin H l).2.1,(elt qin H l).2.2.1,(elt qin H l).2.2.2.1,(elt qin H l).2.2.2.2.1,H.take l,W.set e.2.2.2.1.toNat (-1,()))) (fun r=>some r) else some (H.take l,W.set e.2.2.2.1.toNat (-1,())))=some (H',W') ->
   q1bf d ((U,B,R,H,W,()),(e.2.2.2.1,e.2.2.2.2.1,()),())=some (U,B.set e.2.2.2.1.toNat (false,()),R ++ [(e.2.2.2.1,())],H',W',e.1,e.2.1,e.2.2.1,e.2.2.2.1,e.2.2.2.2.1,0):=fun H' W' hs=>by
  have er:q1b7 d ((U,B,R,H,W,()),((w:Int),()),())=some (U,B.set e.2.2.2.1.toNat (false,()),R ++ [(e.2.2.2.1,())],H',W',e.1,e.2.1,e.2.2.1,e.2.2.2.1,e.2.2.2.2.1,0):=by
   rw[q1ba]
   simp only[q1b9,obif,inN hw,cond_true,Int.toNat_natCast,hat,q29m d hd hM h.sl h.lR i0 i1 hu.1 hu.2,obnd,show ((0:Int) != 0)=false from rfl,cond_false,q2ah d h,w4,inN (show l<H.length by omega),show (decide (0<=(l:Int))&&decide ((l:Int)<=(H.length:Int)))=true by simp only[Bool.and_eq_true,decide_eq_true_eq];omega,inI i0 (show e.2.2.2.1<(W.length:Int) by omega),q1b8]
   cases hc:decide ((w:Int)<(l:Int)) with
   | true =>
    rw[hc,cond_true]at hs
    simp only[cond_true]
    revert hs
    cases q1a7 d (U,B.set e.2.2.2.1.toNat (false,()),R ++ [(e.2.2.2.1,())],(w:Int),(elt qin H l).1,(elt qin H l).2.1,(elt qin H l).2.2.1,(elt qin H l).2.2.2.1,(elt qin H l).2.2.2.2.1,H.take l,W.set e.2.2.2.1.toNat (-1,())) with
    | none=>intro hs;cases hs
    | some r=>intro hs;injection hs with hs;subst hs;rfl
   | false =>
    rw[hc,cond_false]at hs
    injection hs with hs;injection hs with h1 h2;subst h1 h2
    rfl
  rw[q1bh]
  simp only[q1bg,q2ar d hd hM h he,hp,obnd,show ((0:Int) != 0)=false from rfl,cond_false,er]
 by_cases hwl:w<l
 ·have pm:(e::(H.take l).set w (elt qin H l)).Perm H:=by
   have s:=q29w (H:=H) (i:=w) (q:=l) (x:=e) hw (by omega) (by omega)
   have e1:H.set w e=H:=by
    conv=>lhs;rw[← hat]
    unfold elt;rw[List.getElem?_eq_getElem hw]
    exact List.set_getElem_self ..
   rw[e1]at s
   refine List.Perm.trans ?_ s
   have e2:(H.set w (elt qin H l)).set l e=(H.take l).set w (elt qin H l) ++ [e]:=by
    conv=>lhs;rw[hsp]
    have ha:elt qin (H.take l ++ [elt qin H l]) l=elt qin H l:=by rw[← hsp]
    rw[ha,List.set_append_left _ _ (by omega),List.set_append_right _ _ (by rw[List.length_set];omega)]
    rw[List.length_set,hlt,Nat.sub_self];rfl
   rw[e2]
   exact (List.perm_append_singleton _ _).symm
  have hne:=q2an pm h.ks
  have ks:KOk ((H.take l).set w (elt qin H l)):=⟨fun e' k=>h.ks.ev e' (pm.mem_iff.1 (List.mem_cons_of_mem _ k)),by
   have:=((pm.map fun e=>e.2.2.2.1).nodup_iff).2 h.ks.nd
   rw[List.map_cons,List.nodup_cons]at this;exact this.2⟩
  have ho:Hole ((H.take l).set w (elt qin H l)) (W.set e.2.2.2.1.toNat (-1,())) w (elt qin H l) (H.take l) (W.set e.2.2.2.1.toNat (-1,())):=by
   refine⟨by omega,List.Perm.refl _,by rw[List.length_set,lW],fun j hj hji=>?_,fun _ _=>rfl,fun c c1 c2 c3 c4=>?_,fun c c1 c2 c3 c4=>?_⟩
   ·rw[hlt]at hj
    rw[q2ap _ hj,q28z zi _ _ (by omega),if_neg ?_]
    ·exact h.pl j (by omega)
    ·have:=h.ks.ne hw (show j<H.length by omega) (Ne.symm hji)
     rw[hat]at this
     have:=(h.ev (show j<H.length by omega)).i0
     omega
   ·rw[hlt]at c2
    rw[q2ap _ (by omega),q2ap _ (by omega)];exact h.ord c c1 (by omega)
   ·rw[hlt]at c2
    rw[q2ap _ (by omega),q2ap _ (by omega)]
    have h1:=h.ord w c4 hw
    have h2:=h.ord c c1 (by omega)
    rw[c3]at h2
    exact q29t (h.ev (by omega)) (h.ev hw) (h.ev (by omega)) h1 h2
  obtain⟨H',W',e1,hh⟩:=q2a2 d hd ks (U:=U) (B:=B.set e.2.2.2.1.toNat (false,())) (R:=R ++ [(e.2.2.2.1,())]) (by omega) ho
  refine⟨H',W',_,_,pre H' W' ?_,q2ao h pm hh,(hh.pm.cons e).trans pm⟩
  rw[show decide ((w:Int)<(l:Int))=true by rw[decide_eq_true_eq];omega,cond_true,e1]
  rfl
 ·have hwl:w=l:=by omega
  subst hwl
  rw[hat]at hsp
  have pm:(e::H.take w).Perm H:=by
   conv=>rhs;rw[hsp]
   exact (List.perm_append_singleton _ _).symm
  have hh:HeapAt (H.take w) (W.set e.2.2.2.1.toNat (-1,())) (H.take w) (W.set e.2.2.2.1.toNat (-1,())):=by
   refine⟨List.Perm.refl _,by rw[List.length_set,lW],fun j hj=>?_,fun _ _=>rfl,fun c c1 c2=>?_⟩
   ·rw[hlt]at hj
    rw[q2ap _ hj,q28z zi _ _ (by omega),if_neg ?_]
    ·exact h.pl j (by omega)
    ·have:=h.ks.ne hw (show j<H.length by omega) (by omega)
     rw[hat]at this
     have:=(h.ev (show j<H.length by omega)).i0
     omega
   ·rw[hlt]at c2
    rw[q2ap _ (by omega),q2ap _ (by omega)];exact h.ord c c1 (by omega)
  refine⟨H.take w,_,_,_,pre _ _ ?_,q2ao h pm hh,pm⟩
  rw[show decide ((w:Int)<(w:Int))=false by simp,cond_false]
theorem q2at (d:Nat) (hd:5000<=d) (hM:M<=1000) (h:AgOk M U B R [] W):q1bm d ((U,B,R,[],W,()),())=some (0,0,0,0,0,42):=by
 rw[q1bo]
 simp only[q1bn,q2ac d hd hM h,obnd,show ((0:Int) != 0)=false from rfl,cond_false,List.length_nil,show (((0:Nat):Int)==0)=true from rfl,cond_true]
theorem q2au (d:Nat) (hd:5000<=d) (hM:M<=1000) {e:qim} (h:AgOk M U B R (e::H) W):q1bm d ((U,B,R,e::H,W,()),())=some (e.1,e.2.1,e.2.2.1,e.2.2.2.1,e.2.2.2.2.1,0):=by
 rw[q1bo]
 simp only[q1bn,q2ac d hd hM h,obnd,show ((0:Int) != 0)=false from rfl,cond_false,show (((e::H).length:Int)==0)=false by rw[List.length_cons,beq_eq_false_iff_ne];omega,obif,show inB 0 (e::H).length=true from inN (show 0<(e::H).length by simp),cond_true]
 rfl
theorem AgOk.top {e:qim} (h:AgOk M U B R (e::H) W):∀ e'∈e::H,eLe e e':=by
 have:∀ n j,j<=n->j<(e::H).length->eLe e (elt qin (e::H) j):=by
  intro n
  induction n with
  | zero =>
   intro j hj hl
   have:j=0:=by omega
   subst this
   exact q26u _
  | succ n ih =>
   intro j hj hl
   by_cases h0:j=0
   ·subst h0;exact q26u _
   ·have h1:=ih ((j-1)/2) (by omega) (by omega)
    exact q29t (h.ks.ev e (List.mem_cons_self ..)) (h.ev (by omega)) (h.ev hl) h1 (h.ord j (by omega) hl)
 intro e' he'
 obtain⟨j,hj,_,rfl⟩:=h.mem he'
 exact this j j (Nat.le_refl _) hj
end Go.Proofs.YtfjjdnaggblaaaaGreat