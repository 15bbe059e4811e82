/- Walks of the references; the orders agree; examples. -/
import Derived.RangeFuncRecord
import Derived.RangeFuncSeq
import Derived.RangeFuncBound
import Derived.Shelf.Abstract
import Derived.Shelf.RegionOpen
import Derived.WalkKit
import Derived.OwnWalkIn
import Derived.TacticsInMore
import Derived.LoopNIn
import Derived.LoopIn
import Derived.Shelf.SlSortCmp.NoneTotal
import Derived.Test.YtbjpmdhdoggobaaGreatProg
import Derived.Shelf.Spec.BitsCarry
import Derived.Test.YtbjpmdhdoggobaaGreatGc
set_option linter.unusedSimpArgs false
set_option linter.unusedVariables false
namespace Go.Pel
open Go Go.RowKit
end Go.Pel
namespace Go.Proofs.YtbjpmdhdoggobaaGreat
open Go.RowKit Go.Pel
end Go.Proofs.YtbjpmdhdoggobaaGreat

namespace Go
open RowKit
def qs2 (o:Obj):Prop:=∀ cs e f,o ≠ .cells cs e f
structure Records (b:Nat) (W W':World):Prop where
  keep:∀ (k:Nat) (o:Obj),b≤k→W.heap[k]?=some o→qs2 o→W'.heap[k]?=some o
theorem Records.refl (b:Nat) (W:World):Records b W W:=⟨fun _ _ _ h _=>h⟩
theorem Records.trans {b:Nat} {A B D:World} (h:Records b A B) (k:Records b B D):Records b A D:=⟨fun i o hb h1 h2=>k.keep i o hb (h.keep i o hb h1 h2) h2⟩
theorem Records.bel {b:Nat} {A B:World} (h:Bel A B):Records b A B:=⟨fun k o _ h1 _=>by
  have hl:k<A.heap.size:=(Array.getElem?_eq_some_iff.1 h1).1
  rw [h.block k hl];exact h1⟩
section
variable {F:Fence} {n:Nat} {P:Program}
end
end Go

namespace Go
namespace RegC
section
variable {P:Program} {ops:Array Oper} {md:Region.Mode} {Q:Exit→Act→World→Prop} {l n:Nat}
end
section
variable {P:Program} {C:World→Prop} {l n:Nat}
end
end RegC
end Go

namespace Go.Tx
open Go Go.RegC
section
variable {P:Program} {V:Nat→Value→Prop} {Q:Exit→Act→World→Prop} {ops:Array Oper}
end
section
variable {P:Program} {T:Tys} {C:Orc} {N l:Nat} {V:Nat→Value→Prop} {w0:World} {φ0:Fz0} {Q:Exit→Act→World→Prop}
end
structure OnlyB (b:Nat) (A B:World):Prop where
  size:B.heap.size=A.heap.size
  same:∀ k,k≠b→B.heap[k]?=A.heap[k]?
  os:B.os=A.os
  tape:B.tape=A.tape
  output:B.output=A.output
  drawn:B.drawn=A.drawn
theorem OnlyB.put (A:World) (b:Nat) (o:Obj):OnlyB b A (A.putObj b o):=⟨by rw [World.putObj_size],fun k hk=>World.putObj_heap_other hk,rfl,rfl,rfl,rfl⟩
theorem HR.only {M:Nat} {η:Emb} {H:LH} {A B:World} {b:Nat} (h:HR M η H A) (hb:OnlyB b A B) (hl:¬ LB H η b) (hf:η.fz b=none):HR M η H B where
  dom:=h.dom
  lt:=h.lt
  live k ob hk:=(h.live k ob hk).move (Emb.le_refl _) rfl (Nat.le_of_eq hb.size.symm) fun L hL=>hb.same _ fun he=>hl ⟨k,ob,L,hk,hL,he⟩
  inj:=h.inj
  fz k ob hk:=by rw [hb.same k fun he=>by rw [he,hf] at hk;cases hk];exact h.fz k ob hk
  sep:=h.sep
  ok:=h.ok
theorem Fr.only {w0:World} {φ0:Fz0} {H:LH} {η:Emb} {A B:World} {b:Nat} (h:Fr w0 φ0 H η A) (hb:OnlyB b A B) (h0:w0.heap.size≤b) (hk:∀ o,¬ φ0.K b o):Fr w0 φ0 H η B where
  size:=by rw [hb.size];exact h.size
  same k hlt:=(hb.same k (by omega)).trans (h.same k hlt)
  lb:=h.lb
  fz0:=h.fz0
  fzn:=h.fzn
  os:=hb.os.trans h.os
  tape:=hb.tape.trans h.tape
  output:=hb.output.trans h.output
  drawn:=by rw [hb.drawn];exact h.drawn
  kp k o ho:=by
    obtain ⟨h1,h2,h3⟩:=h.kp k o ho
    exact ⟨(hb.same k fun he=>hk o (by rw [← he];exact ho)).trans h1,h2,h3⟩
section
open Go.RowKit
variable {F:Fence} {n:Nat} {P:Program}
end
end Go.Tx

namespace Go.Tx
open Go
def SX (w0:World) (φ0:Fz0) (tm:List (Nat×LV)) (ob:List Ob) (a:Act) (kb r:Nat) (T:Nat→Prop) (W:World):Prop :=
  ∃ η,(∀ M,HR M η (q7c ob) W)∧(∀ n l,(n,l)∈tm→∃ v,a.tmps[n]?=some v∧VR η l v)∧Fr w0 φ0 (q7c ob) η W∧(∀ k,k=kb∨k=r∨k=r+1∨T k→¬ LB (q7c ob) η k∧η.fz k=none)∧r+1<W.heap.size∧∀ k,T k→r+1<k∧k<W.heap.size
theorem SX.only {w0:World} {φ0:Fz0} {tm:List (Nat×LV)} {ob:List Ob} {a:Act} {kb r b:Nat} {T:Nat→Prop} {A B:World} (h:SX w0 φ0 tm ob a kb r T A) (hb:OnlyB b A B) (hbb:b=kb∨b=r∨b=r+1) (h0:w0.heap.size≤b) (hk:∀ o,¬ φ0.K b o):SX w0 φ0 tm ob a kb r T B:=by
  obtain ⟨η,h1,h2,h3,h4,h5,h6⟩:=h
  obtain ⟨g1,g2⟩:=h4 b (hbb.imp id (Or.imp id .inl))
  exact ⟨η,fun M=>(h1 M).only hb g1 g2,h2,h3.only hb h0 hk,h4,by rw [hb.size];exact h5,fun k hk=>by rw [hb.size];exact h6 k hk⟩
theorem HR.grow {M:Nat} {η:Emb} {H:LH} {A B:World} (h:HR M η H A) (hb:Bel A B):HR M η H B where
  dom:=h.dom
  lt:=h.lt
  live k ob hk:=(h.live k ob hk).move (Emb.le_refl _) rfl hb.size fun L hL=>hb.block _ ((h.live k ob hk).lt hL)
  inj:=h.inj
  fz k ob hk:=by rw [hb.block k (Array.getElem?_eq_some_iff.1 (h.fz k ob hk)).1];exact h.fz k ob hk
  sep:=h.sep
  ok:=h.ok
theorem Fr.grow {w0:World} {φ0:Fz0} {H:LH} {η:Emb} {A B:World} (h:Fr w0 φ0 H η A) (hb:Bel A B):Fr w0 φ0 H η B where
  size:=Nat.le_trans h.size hb.size
  same k hlt:=(hb.block k (Nat.lt_of_lt_of_le hlt h.size)).trans (h.same k hlt)
  lb:=h.lb
  fz0:=h.fz0
  fzn:=h.fzn
  os:=hb.os.trans h.os
  tape:=hb.tape.trans h.tape
  output:=hb.output.trans h.output
  drawn:=Nat.le_trans h.drawn hb.mono
  kp k o ho:=by
    obtain ⟨h1,h2,h3⟩:=h.kp k o ho
    exact ⟨(hb.block k (Array.getElem?_eq_some_iff.1 h1).1).trans h1,h2,h3⟩
theorem SX.grow {w0:World} {φ0:Fz0} {tm:List (Nat×LV)} {ob:List Ob} {a:Act} {kb r:Nat} {T:Nat→Prop} {A B:World} (h:SX w0 φ0 tm ob a kb r T A) (hb:Bel A B):SX w0 φ0 tm ob a kb r (fun k=>T k∨(A.heap.size≤k∧k<B.heap.size)) B:=by
  obtain ⟨η,h1,h2,h3,h4,h5,h6⟩:=h
  refine ⟨η,fun M=>(h1 M).grow hb,h2,h3.grow hb,fun k hk=>?_,Nat.lt_of_lt_of_le h5 hb.size,fun k hk=>?_⟩
  · rcases hk with hk | hk | hk | hk | ⟨hk, _⟩
    · exact h4 k (.inl hk)
    · exact h4 k (.inr (.inl hk))
    · exact h4 k (.inr (.inr (.inl hk)))
    · exact h4 k (.inr (.inr (.inr hk)))
    · refine ⟨fun ⟨j, ob', L, hj, hL, he⟩ => ?_, ?_⟩
      · have:=((h1 0).live j ob' hj).lt hL;omega
      · cases hf : η.fz k with
        | none=>rfl
        | some o=>have:=(Array.getElem?_eq_some_iff.1 ((h1 0).fz k o hf)).1;omega
  · rcases hk with hk | ⟨hk, hk2⟩
    · obtain ⟨g1, g2⟩ := h6 k hk
      exact ⟨g1,Nat.lt_of_lt_of_le g2 hb.size⟩
    · exact ⟨by omega,hk2⟩
section
variable {P:Program} {N:Nat} {w0:World} {φ0:Fz0} {Q:Exit→Act→World→Prop}
end
end Go.Tx

namespace Go.Tx
open Go Go.RegC
theorem qtc {α:Type} {c:Bool} {A:Option α} {r:α} (h:(bif c then A else none)=some r):c=true∧A=some r:=by
  cases c with
  | true=>exact ⟨rfl,h⟩
  | false=>cases h
end Go.Tx

namespace Go.Tx
open Go Go.Sort Go.RowKit Go.Proofs Go.Shelf
theorem qtj {α:Type} [Inhabited α] (enc:α→List Value) (k:Nat) (hk:∀ x,(enc x).length=k):∀ (l:List α),(flatK enc k l.toArray).toList=l.flatMap enc:=by
  intro l
  have key:∀ (l:List α) (t:Nat),t<l.length*k→(l.flatMap enc)[t]?=some ((enc l[t / k]!)[t % k]!):=by
    intro l
    induction l with
    | nil=>intro t ht;simp at ht
    | cons a r ih =>
      intro t ht
      have k0:0<k:=by
        rcases Nat.eq_zero_or_pos k with h | h
        · subst h;simp at ht
        · exact h
      rw [List.flatMap_cons]
      by_cases hlt:t<k
      · rw [List.getElem?_append_left (by rw [hk]; exact hlt), Nat.div_eq_of_lt hlt, Nat.mod_eq_of_lt hlt]
        have:t<(enc a).length:=by rw [hk];exact hlt
        simp [this]
      · rw [List.getElem?_append_right (by rw [hk]; omega), hk]
        have h2:t - k<r.length*k:=by
          rw [List.length_cons,Nat.add_mul,Nat.one_mul] at ht;omega
        rw [ih (t - k) h2]
        have e1:t / k=(t - k) / k+1:=by
          have:=Nat.div_eq_sub_div k0 (by omega:k≤t)
          omega
        have e2:t % k=(t - k) % k:=Nat.mod_eq_sub_mod (by omega)
        rw [e1,e2]
        simp
  have hlen:(l.flatMap enc).length=l.length*k:=by
    induction l with
    | nil=>simp
    | cons a r ih=>rw [List.flatMap_cons,List.length_append,ih,hk,List.length_cons,Nat.add_mul,Nat.one_mul];omega
  apply List.ext_getElem?
  intro t
  by_cases ht:t<l.length*k
  · rw [key l t ht]
    simp [flatK,ht]
  · rw [List.getElem?_eq_none (by simp [flatK];omega),List.getElem?_eq_none (by rw [hlen];omega)]
def eqR:(τ:Row)→den τ→den τ→Bool
  | .nil,_,_=>true
  | .int _ r,x,y=>x.1 == y.1&&eqR r x.2 y.2
  | .bool r,x,y=>x.1 == y.1&&eqR r x.2 y.2
  | .sl _ _,_,_=>false
theorem qtk:∀ (τ:Row) (x y:den τ),eqR τ x y=true→x=y
  | .nil,_,_,_=>rfl
  | .int k r, x, y, h => by
    rw [eqR,Bool.and_eq_true,beq_iff_eq] at h
    exact Prod.ext h.1 (qtk r x.2 y.2 h.2)
  | .bool r, x, y, h => by
    rw [eqR,Bool.and_eq_true,beq_iff_eq] at h
    exact Prod.ext h.1 (qtk r x.2 y.2 h.2)
  | .sl _ _,_,_,h=>by cases h
section
variable {τ:Row} (F:den τ×den τ×Unit→Option Int)
def cmpV (x y:den τ):Int:=match F (x,y,()) with | some n=>n | none=>0
def ltV (x y:den τ):Bool:=decide (cmpV F x y<0)
def qtl (xs:List (den τ)):Bool :=
  xs.all (fun x=>xs.all fun y=>(F (x,y,())).isSome)&&xs.all (fun x=>!(ltV F x x)) &&
  xs.all (fun x=>xs.all fun y=>!(ltV F x y) || xs.all fun z=>!(ltV F y z) || ltV F x z) &&
  xs.all (fun x=>xs.all fun y=>ltV F x y || xs.all fun z=>ltV F y z || !(ltV F x z)) &&
  xs.all (fun x=>xs.all fun y=>ltV F x y || ltV F y x || eqR τ x y)
end
def insL {α:Type} (lt:α→α→Bool) (x:α):List α→List α
  | []=>[x]
  | y :: ys=>bif lt x y then x :: y :: ys else y :: insL lt x ys
def qtm {α:Type} (lt:α→α→Bool):List α→List α
  | []=>[]
  | x :: xs=>insL lt x (qtm lt xs)
def qtn {τ:Row} (F:den τ×den τ×Unit→Option Int) (xs:List (den τ)):Option (List (den τ)):=bif Nat.ble xs.length 1000000&&qtl F xs then some (qtm (ltV F) xs) else none
theorem qto {α:Type} (lt:α→α→Bool) (x:α):∀ l:List α,(insL lt x l).Perm (x :: l)
  | []=>.refl _
  | y :: ys => by
    rw [insL]
    cases lt x y with
    | true=>exact .refl _
    | false=>exact ((qto lt x ys).cons y).trans (.swap x y ys)
theorem qtp {α:Type} (lt:α→α→Bool):∀ l:List α,(qtm lt l).Perm l
  | []=>.refl _
  | x :: xs=>by rw [qtm];exact (qto lt x _).trans ((qtp lt xs).cons x)
theorem qtq {α:Type} {lt:α→α→Bool} {S:α→Prop} (has:∀ a b,S a→S b→lt a b=true→lt b a=false) (hn:∀ a b c,S a→S b→S c→lt a b=false→lt b c=false→lt a c=false) {x:α} (hx:S x):∀ l:List α,(∀ a∈l,S a)→l.Pairwise (fun a b=>lt b a=false)→(insL lt x l).Pairwise (fun a b=>lt b a=false)
  | [],_,_=>List.pairwise_singleton _ _
  | y :: ys, hS, hp => by
    obtain ⟨h1,h2⟩:=List.pairwise_cons.1 hp
    have hy:=hS y (List.mem_cons_self ..)
    rw [insL]
    cases hl:lt x y with
    | true =>
      refine List.pairwise_cons.2 ⟨fun b hb=>?_,hp⟩
      have hyx:=has x y hx hy hl
      rcases List.mem_cons.1 hb with rfl | hb
      · exact hyx
      · exact hn b y x (hS b (List.mem_cons_of_mem _ hb)) hy hx (h1 b hb) hyx
    | false =>
      refine List.pairwise_cons.2 ⟨fun b hb=>?_,qtq has hn hx ys (fun a ha=>hS a (List.mem_cons_of_mem _ ha)) h2⟩
      rcases List.mem_cons.1 ((qto lt x ys).mem_iff.1 hb) with rfl | hb
      · exact hl
      · exact h1 b hb
theorem qtr {α:Type} {lt:α→α→Bool} {S:α→Prop} (has:∀ a b,S a→S b→lt a b=true→lt b a=false) (hn:∀ a b c,S a→S b→S c→lt a b=false→lt b c=false→lt a c=false):∀ l:List α,(∀ a∈l,S a)→(qtm lt l).Pairwise (fun a b=>lt b a=false)
  | [],_=>.nil
  | x :: xs, hS => by
    rw [qtm]
    exact qtq has hn (hS x (List.mem_cons_self ..)) _ (fun a ha=>hS a (List.mem_cons_of_mem _ ((qtp lt xs).mem_iff.1 ha))) (qtr has hn xs fun a ha=>hS a (List.mem_cons_of_mem _ ha))
theorem qtt {η:Emb}:∀ (τ:Row) (x:den τ),qck τ=true→VRs η (split τ x) (qhk τ x)
  | .nil,_,_=>VRs.nil
  | .int k r,x,hp=>VRs.cons (.int _ _) (qtt r x.2 hp)
  | .bool r,x,hp=>VRs.cons (.bool _) (qtt r x.2 hp)
  | .sl e r,_,hp=>by cases hp
theorem qtu:∀ (τ:Row) (x:den τ),qck τ=true→∀ v∈qhk τ x,v.oneCell'=true
  | .nil,_,_,v,hv=>by simp [qhk] at hv
  | .int k r, x, hp, v, hv => by
    rw [qhk] at hv
    rcases List.mem_cons.1 hv with rfl | hv
    · rfl
    · exact qtu r x.2 hp v hv
  | .bool r, x, hp, v, hv => by
    rw [qhk] at hv
    rcases List.mem_cons.1 hv with rfl | hv
    · rfl
    · exact qtu r x.2 hp v hv
  | .sl e r,_,hp,_,_=>by cases hp
theorem qtv {η:Emb} {τ:Row} (hp:qck τ=true):∀ xs:List (den τ),VRs η (flat τ xs) (qhl τ xs)
  | []=>VRs.nil
  | x :: xs=>by rw [flat,qhl];exact (qtt τ x hp).append (qtv hp xs)
theorem qtw {η:Emb} {τ:Row} (hp:qck τ=true) (xs:List (den τ)) (j:Nat) (c:LV) (hc:(flat τ xs)[j]?=some c) (v:Value) (hv:VR η c v):(qhl τ xs)[j]?=some v:=by
  have hl:=(qtv (η:=η) hp xs).1
  have hj:j<(qhl τ xs).length:=by rw [← hl];exact (List.getElem?_eq_some_iff.1 hc).1
  obtain ⟨u,hu⟩:∃ u,(qhl τ xs)[j]?=some u:=⟨_,List.getElem?_eq_getElem hj⟩
  have h2:=(qtv (η:=η) hp xs).2 j c u hc hu
  obtain ⟨x,hx⟩:=q7s τ xs (List.mem_of_getElem? hc)
  have:u=v:=by
    have hp2:∀ (σ:Row) (y:den σ),qck σ=true→∀ d∈split σ y,(∃ k n,d=.int k n) ∨ ∃ b,d=.bool b:=by
      intro σ
      induction σ with
      | nil=>intro y _ d hd;simp [split] at hd
      | int k r ih =>
        intro y hpp d hd
        rw [split] at hd
        rcases List.mem_cons.1 hd with rfl | hd
        · exact .inl ⟨_,_,rfl⟩
        · exact ih y.2 hpp d hd
      | bool r ih =>
        intro y hpp d hd
        rw [split] at hd
        rcases List.mem_cons.1 hd with rfl | hd
        · exact .inr ⟨_,rfl⟩
        · exact ih y.2 hpp d hd
      | sl e r _ _=>intro y hpp;cases hpp
    rcases hp2 τ x hp c hx with ⟨k,n,rfl⟩ | ⟨b,rfl⟩
    · cases h2;cases hv;rfl
    · cases h2;cases hv;rfl
  rw [hu,this]
theorem qtx {τ:Row}:∀ xs:List (den τ),qhl τ xs=xs.flatMap (qhk τ)
  | []=>rfl
  | x :: xs=>by rw [qhl,List.flatMap_cons,qtx xs]
theorem qty {M:Nat} {H:LH} {η:Emb} {w w':World} (h:HR M η H w) {b:Nat} {τ:Row} {xs ys:List (den τ)} (hg:H.get b=some (.rows τ xs)) (hlv:Lv η w' b (.rows τ ys)) (hs:w.heap.size≤w'.heap.size)
    (hother:∀ k,k<w.heap.size→(∀ L,η.loc b=some L→k≠L.block)→w'.heap[k]?=w.heap[k]?) (e1:w'.os=w.os) (e2:w'.tape=w.tape) (e3:w'.output=w.output) (e4:w.drawn≤w'.drawn) :
    Adv M H η w (H.put b (some (.rows τ ys))) η w':=by
  have hget:∀ x ob2,(H.put b (some (.rows τ ys))).get x=some ob2→(x=b∧ob2=.rows τ ys)∨(x≠b∧H.get x=some ob2):=fun x ob2 hx=>by
    rw [LH.get_put] at hx
    split at hx
    · rename_i he;injection hx with hx;exact .inl ⟨he,hx.symm⟩
    · rename_i he;exact .inr ⟨he,hx⟩
  have hg0:∀ x ob2,(H.put b (some (.rows τ ys))).get x=some ob2→∃ ob0,H.get x=some ob0:=fun x ob2 hx=>by
    rcases hget x ob2 hx with ⟨rfl,_⟩ | ⟨_,hg'⟩
    · exact ⟨_,hg⟩
    · exact ⟨_,hg'⟩
  have hlb:∀ k,LB (H.put b (some (.rows τ ys))) η k→LB H η k:=fun k ⟨x,ob2,L',hx,hL',hk⟩=>let ⟨ob0,hg'⟩:=hg0 _ _ hx;⟨x,ob0,L',hg',hL',hk⟩
  refine ⟨Emb.le_refl _,fun _ _=>⟨rfl,rfl⟩,Nat.le_refl _,⟨h.dom,fun x ob2 hx=>let ⟨_,hg'⟩:=hg0 x ob2 hx;h.lt x _ hg',fun x ob2 hx=>?_,fun b1 b2 c1 c2 L1 L2 h1 h2 f1 f2 he=>?_,fun k o2 hk=>?_,fun k hk=>h.sep k (hlb k hk),h.ok⟩,hs,fun k hk hn=>hother k hk fun L hL he=>hn ⟨b,_,L,hg,hL,he.symm⟩,
    fun k hk=>.inl (hlb k hk),fun _ _ hk=>.inl hk,e1,e2,e3,e4⟩
  · rcases hget x ob2 hx with ⟨rfl, rfl⟩ | ⟨hne, hg'⟩
    · exact hlv
    · have hl := h.live x ob2 hg'
      exact hl.move (Emb.le_refl _) rfl hs fun L' hL'=>hother _ (hl.lt hL') fun L hL he=>hne (h.inj _ _ _ _ _ _ hg' hg hL' hL he)
  · obtain ⟨d1, g1⟩ := hg0 _ _ h1
    obtain ⟨d2,g2⟩:=hg0 _ _ h2
    exact h.inj _ _ _ _ _ _ g1 g2 f1 f2 he
  · have hk0 := h.fz k o2 hk
    rw [hother k (Array.getElem?_eq_some_iff.1 hk0).1 fun L hL he=>by
      have:=h.sep L.block ⟨b,_,L,hg,hL,rfl⟩
      rw [← he,hk] at this;cases this]
    exact hk0
section
variable {P:Program} {ρ:Ren}
theorem qtz {τ:Row} {F:den τ×den τ×Unit→Option Int} {xs:List (den τ)} (h:qtl F xs=true) :
    (∀ x∈xs,∀ y∈xs,F (x,y,())=some (cmpV F x y))∧SWO (ltOf fun (x y:{x:den τ // x∈xs})=>cmpV F x.1 y.1)∧∀ x y:{x:den τ // x∈xs},(ltOf fun (x y:{x:den τ // x∈xs})=>cmpV F x.1 y.1) x y=false→(ltOf fun (x y:{x:den τ // x∈xs})=>cmpV F x.1 y.1) y x=false→x=y:=by
  unfold qtl at h
  simp only [Bool.and_eq_true,List.all_eq_true] at h
  obtain ⟨⟨⟨⟨h1,h2⟩,h3⟩,h4⟩,h5⟩:=h
  have e:∀ x y:{x:den τ // x∈xs},(ltOf fun (x y:{x:den τ // x∈xs})=>cmpV F x.1 y.1) x y=ltV F x.1 y.1:=fun _ _=>rfl
  refine ⟨fun x hx y hy=>?_,⟨fun x=>?_,fun x y z a b=>?_,fun x y z a b=>?_⟩,fun x y a b=>?_⟩
  · have := h1 x hx y hy
    unfold cmpV
    cases hF:F (x,y,()) with
    | none=>rw [hF] at this;cases this
    | some n=>rfl
  · have := h2 x.1 x.2
    rw [e];simpa using this
  · rw [e] at a b ⊢
    have:=h3 x.1 x.2 y.1 y.2
    rw [a] at this
    simp only [Bool.not_true,Bool.false_or,List.all_eq_true] at this
    have:=this z.1 z.2
    rw [b] at this
    simpa using this
  · rw [e] at a b ⊢
    have:=h4 x.1 x.2 y.1 y.2
    rw [a] at this
    simp only [Bool.false_or,List.all_eq_true] at this
    have:=this z.1 z.2
    rw [b] at this
    simpa using this
  · rw [e] at a b
    have:=h5 x.1 x.2 y.1 y.2
    rw [a,b] at this
    simp only [Bool.false_or] at this
    exact Subtype.ext (qtk τ _ _ this)
theorem qu0 {τ:Row} {F:den τ×den τ×Unit→Option Int} {xs:List (den τ)} (h:qtl F xs=true):(xs.attach.mergeSort fun x y=>!(ltOf fun (x y:{x:den τ // x∈xs})=>cmpV F x.1 y.1) y x).map Subtype.val=qtm (ltV F) xs:=by
  obtain ⟨_,hO,hT⟩:=qtz h
  have e:∀ x y:{x:den τ // x∈xs},(ltOf fun (x y:{x:den τ // x∈xs})=>cmpV F x.1 y.1) x y=ltV F x.1 y.1:=fun _ _=>rfl
  have has:∀ a b,a∈xs→b∈xs→ltV F a b=true→ltV F b a=false:=fun a b ha hb h1=>by
    cases h2:ltV F b a with
    | false=>rfl
    | true =>
      have h3:=hO.trans ⟨a,ha⟩ ⟨b,hb⟩ ⟨a,ha⟩ h1 h2
      rw [hO.irrefl] at h3;cases h3
  have hn:∀ a b c,a∈xs→b∈xs→c∈xs→ltV F a b=false→ltV F b c=false→ltV F a c=false:=fun a b c ha hb hc h1 h2=>hO.ntrans ⟨a,ha⟩ ⟨b,hb⟩ ⟨c,hc⟩ h1 h2
  refine List.Perm.eq_of_pairwise (le:=fun a b=>ltV F b a=false) ?_ ?_ (qtr (S:=fun a=>a∈xs) has hn xs fun _ h=>h) ?_
  · intro a b ha hb h1 h2
    have ha':a∈xs:=by
      obtain ⟨c,_,rfl⟩:=List.mem_map.1 ha
      exact c.2
    have hb':b∈xs:=(qtp (ltV F) xs).mem_iff.1 hb
    exact congrArg Subtype.val (hT ⟨a,ha'⟩ ⟨b,hb'⟩ h2 h1)
  · have hp:=List.pairwise_mergeSort (le:=fun x y=>!(ltOf fun (x y:{x:den τ // x∈xs})=>cmpV F x.1 y.1) y x) (fun x y z h1 h2=>by
      simp only [Bool.not_eq_true'] at h1 h2 ⊢
      exact hO.ntrans z y x h2 h1) (fun x y=>by
      simp only [Bool.or_eq_true,Bool.not_eq_true']
      cases h1:(ltOf fun (x y:{x:den τ // x∈xs})=>cmpV F x.1 y.1) y x with
      | false=>exact .inl rfl
      | true=>exact .inr (has _ _ y.2 x.2 h1)) xs.attach
    rw [List.pairwise_map]
    exact hp.imp fun h=>by simpa [e] using h
  · have h1 := ((List.mergeSort_perm xs.attach fun x y => !(ltOf fun (x y : {x : den τ // x ∈ xs}) => cmpV F x.1 y.1) y x).map Subtype.val)
    rw [List.attach_map_subtype_val] at h1
    exact h1.trans (qtp (ltV F) xs).symm
theorem qu1 {w w':World} (h:Bel w w'):∃ q os',w'=grow (w.drewN q) os':=by
  obtain ⟨x,rfl⟩:=ext_of h
  exact ⟨x.drawn,x.objs,by unfold ext grow World.drewN;rfl⟩
theorem qu2 (w:World) (m blk off:Nat) (Fv:Array Value) (os:Array Obj):w.heap.size≤(grow (putRow id (Sort.ahead w m) blk off Fv) os).heap.size:=by
  simp [grow,putRow,mapBlock,Sort.ahead]
theorem qu3 (w:World) (m blk off:Nat) (Fv:Array Value) (os:Array Obj) (k:Nat) (hk:k<w.heap.size) (hne:k≠blk):(grow (putRow id (Sort.ahead w m) blk off Fv) os).heap[k]?=w.heap[k]?:=by
  simp only [grow]
  rw [Array.getElem?_append_left (by simpa [putRow,mapBlock,Sort.ahead] using hk)]
  simp [putRow,mapBlock,Sort.ahead,Array.getElem?_modify,Ne.symm hne]
theorem qu4 (L:SlLaysF0.n6 P ρ) {τ:Row} (hp:qck τ=true) (aE:∀ w,(isAgg (ρ.t 24)).run P w=.ok true w) (zE:∀ w,(Go.sizeOf (ρ.t 24)).run P w=.ok τ.size w) {g:FuncId} {F:den τ×den τ×Unit→Option Int}
    (hS:COK P ⟨g,[.row τ true,.row τ true],Int,F,fun r=>(.int .i64 r,[])⟩) {H:LH} {n:Nat} {xs ys:List (den τ)} (hg:H.get n=some (.rows τ xs)) (hy:qtn F xs=some ys) :
    q55 P (ρ.f 6) [.rs n,.fn g []] H (.tup [],H.put n (some (.rows τ ys))):=by
  unfold qtn at hy
  obtain ⟨hb,rfl⟩:=qtc (A:=some (qtm (ltV F) xs)) hy |>.imp id fun h=>Option.some.inj h
  rw [Bool.and_eq_true] at hb
  have hsz:=Nat.le_of_ble_eq_true hb.1
  obtain ⟨hc,hO,hT⟩:=qtz hb.2
  refine ⟨Logged.put _ hg _,fun M η w vs h hM hv=>?_⟩
  obtain ⟨v1,vs,rfl,q1,hv⟩:=hv.uncons
  obtain ⟨v2,vs,rfl,q2,hv⟩:=hv.uncons
  obtain rfl:vs=[]:=by have:=hv.1;simpa using this.symm
  cases q1 with
  | rs hh1 =>
  have hv2:v2=.func (.func g) #[] #[]:=by
    cases q2 with
    | fn hl _=>rw [List.eq_nil_of_length_eq_zero hl.symm]
  subst hv2
  have hlen:∀ l:List (den τ),(qtm (ltV F) l).length=l.length:=fun l=>(qtp (ltV F) l).length_eq
  cases h.live _ _ hg with
  | none hL hh =>
    rename_i A
    rw [hh1] at hh;injection hh with hh;subst hh
    refine Calls.mono (AnyF.slices_SortFunc_none L A 0 (.func (.func g) #[] #[]) w) ?_
    rintro e w' ⟨rfl,rfl⟩
    refine ⟨_,η,rfl,q5n,qty h hg ?_ (Nat.le_refl _) (fun _ _ _=>rfl) rfl rfl rfl (Nat.le_refl _)⟩
    have e0:qtm (ltV F) ([]:List (den τ))=[]:=rfl
    rw [e0]
    exact .none hL hh1
  | rows hL ha hh hcap hr =>
    rename_i L0 c
    rw [hh1] at hh;injection hh with hh;subst hh
    by_cases h0:xs=[]
    · subst h0
      refine Calls.mono (AnyF.slices_SortFunc_none L (some ⟨L0.block,L0.base,none⟩) c (.func (.func g) #[] #[]) w) ?_
      rintro e w' ⟨rfl,rfl⟩
      refine ⟨_,η,rfl,q5n,qty h hg ?_ (Nat.le_refl _) (fun _ _ _=>rfl) rfl rfl rfl (Nat.le_refl _)⟩
      have e0:qtm (ltV F) ([]:List (den τ))=[]:=rfl
      rw [e0]
      exact .rows hL ha hh1 hcap hr
    · haveI : Inhabited {x : den τ // x ∈ xs} := ⟨⟨xs.head h0, List.head_mem h0⟩⟩
      have eg:∀ args w,(callFunc g args).run P w=.ok (.enter g args) w:=by
        obtain ⟨fn,bd,b1,b2,b3⟩:=hS.body
        intro args w
        have b4:¬ fn.body=none:=by rw [b2];simp
        have b1':P.funcs[g]?=some fn:=b1
        simp [callFunc,b1',b3,b4]
      have hk:∀ x:{x:den τ // x∈xs},(qhk τ x.1).length=τ.size:=fun x=>qho τ hp x.1
      have hflat:∀ m:List {x:den τ // x∈xs},(flatK (fun x:{x:den τ // x∈xs}=>qhk τ x.1) τ.size m.toArray).toList=qhl τ (m.map Subtype.val):=fun m=>by
        rw [qtj _ _ hk,qtx,List.flatMap_map]
      have hcmp:CmpLays P g #[] (fun x:{x:den τ // x∈xs}=>qhk τ x.1) τ.size (fun x y=>cmpV F x.1 y.1) L0.block L0.base xs.attach.toArray.size w:=by
        intro m os dk _ x y
        have hF:=hc x.1 x.2 y.1 y.2
        have h2:=hS.ok (x.1,y.1,()) (cmpV F x.1 y.1) hF (sortWorldK (fun x:{x:den τ // x∈xs}=>qhk τ x.1) τ.size w L0.block L0.base m dk os) (fun _=>none) [.agg (qhk τ x.1).toArray,.agg (qhk τ y.1).toArray] (fun k ob hk=>by cases hk)
          (VRs.cons (VR.aggL (qtt τ x.1 hp)) (VRs.cons (VR.aggL (qtt τ y.1 hp)) VRs.nil))
        refine Calls.mono h2 ?_
        rintro e w' ⟨v',η',rfl,hvr,_,hfr⟩
        have hv':v'=.int .i64 (cmpV F x.1 y.1):=by
          have hvr:VR η' (.int .i64 (cmpV F x.1 y.1)) v':=hvr
          cases hvr;rfl
        rw [hv']
        exact ⟨rfl,qu1 ⟨⟨hfr.os,hfr.tape,hfr.output,hfr.size,fun k hk=>hfr.same k hk⟩,hfr.drawn⟩⟩
      have hfl:flatK (fun x:{x:den τ // x∈xs}=>qhk τ x.1) τ.size xs.attach.toArray=(qhl τ xs).toArray:=by
        apply Array.toList_inj.1
        rw [hflat,List.attach_map_subtype_val]
      have hfl2:∀ l:List (den τ),(flat τ l).length=(qhl τ l).length:=fun l=>(qtv (η:=η) hp l).1
      have hH:HoldsK (fun x:{x:den τ // x∈xs}=>qhk τ x.1) τ.size w L0.block L0.base xs.attach.toArray:=by
        unfold HoldsK
        rw [hfl]
        intro j hj
        have hj':j<(qhl τ xs).length:=by simpa using hj
        obtain ⟨cl,hcl⟩:∃ cl,(flat τ xs)[j]?=some cl:=⟨_,List.getElem?_eq_getElem (by rw [hfl2];exact hj')⟩
        obtain ⟨v,g1,g2⟩:=ha.cell j cl hcl
        have g3:=qtw hp xs j cl hcl v g2
        have hf:=ha.fits
        refine ⟨?_,(ha.there (L0.base+j) (by omega) (by have:=hfl2 xs;omega)).2⟩
        rw [g1]
        congr 1
        rw [getElem!_pos _ _ (by simpa using hj')]
        have:=(List.getElem?_eq_some_iff.1 g3).2
        simp [this]
      have hcon:=AnyQ.slices_SortFunc_total L τ.size aE zE (fun x:{x:den τ // x∈xs}=>qhk τ x.1) hk (fun x v hv=>qtu τ x.1 hp v hv) (fun x y=>cmpV F x.1 y.1) hO g #[] L0.block L0.base c xs.attach.toArray w eg hcmp hH ha.lt (by simp;omega) hT
      have hats:xs.attach.toArray.size=xs.length:=by simp
      rw [hats] at hcon
      refine Calls.mono hcon ?_
      rintro e w' ⟨rfl,m,os,rfl⟩
      have hF:flatK (fun x:{x:den τ // x∈xs}=>qhk τ x.1) τ.size (xs.attach.toArray.toList.mergeSort fun x y=>!(ltOf fun (x y:{x:den τ // x∈xs})=>cmpV F x.1 y.1) y x).toArray=(qhl τ (qtm (ltV F) xs)).toArray:=by
        apply Array.toList_inj.1
        rw [hflat]
        congr 1
        have:=qu0 hb.2
        simpa using this
      unfold sortWorldK putRowK
      rw [hF]
      have hvl:(qhl τ (qtm (ltV F) xs)).length=(qhl τ xs).length:=by rw [qhp hp,qhp hp,hlen]
      have hyl:=hlen xs
      unfold HoldsK at hH
      rw [hfl] at hH
      generalize qtm (ltV F) xs=ys at hvl hyl ⊢
      have hfit:=ha.fits
      have hfx:=hfl2 xs
      have hfy:=hfl2 ys
      obtain ⟨W1,hW1⟩:∃ W1,putRow id (Sort.ahead w m) L0.block L0.base (qhl τ ys).toArray=W1:=⟨_,rfl⟩
      have hsz1:W1.heap.size=w.heap.size:=by rw [← hW1];simp [putRow,mapBlock,Sort.ahead]
      have hblk:(grow W1 os).heap[L0.block]?=W1.heap[L0.block]?:=by
        simp only [grow]
        rw [Array.getElem?_append_left (by rw [hsz1];exact ha.lt)]
      have hfr:∀ j,W1.frozen? ⟨L0.block,j,none⟩=w.frozen? ⟨L0.block,j,none⟩:=fun j=>by rw [← hW1,frozen?_putRow];rfl
      have hin:∀ j,j<(qhl τ ys).length→W1.cell? ⟨L0.block,L0.base+j,none⟩=some ((qhl τ ys).toArray[j]!):=fun j hj=>by
        rw [← hW1]
        exact cell?_putRow id (Sort.ahead w m) L0.block L0.base (qhl τ xs).toArray (qhl τ ys).toArray hH (by simp [hvl]) j (by simpa using hj)
      have hout:∀ j,L0.base+(qhl τ ys).length≤j→W1.cell? ⟨L0.block,j,none⟩=w.cell? ⟨L0.block,j,none⟩:=fun j hj=>by
        rw [← hW1,cell?_putRow_other id (Sort.ahead w m) L0.block L0.base (qhl τ ys).toArray ⟨L0.block,j,none⟩ (.inr (.inr (by simpa using hj)))];rfl
      have hat2:At η (grow W1 os) (flat τ ys) L0:=by
        refine ⟨?_,by omega,fun j h1 h2=>⟨?_,?_⟩,fun j c hcj=>?_⟩
        · have := ha.lt
          simp only [grow,Array.size_append];omega
        · rw [qv hblk]
          by_cases hj:j<L0.base+(qhl τ ys).length
          · have := hin (j - L0.base) (by omega)
            rw [show L0.base+(j - L0.base)=j by omega] at this
            rw [this];rfl
          · rw [hout j (by omega)];exact (ha.there j h1 h2).1
        · rw [qw hblk,hfr];exact (ha.there j h1 h2).2
        · have hj : j < (qhl τ ys).length := by rw [← hfy]; exact (List.getElem?_eq_some_iff.1 hcj).1
          refine ⟨(qhl τ ys)[j],?_,(qtv hp ys).2 j c _ hcj (List.getElem?_eq_getElem hj)⟩
          rw [qv hblk,hin j hj]
          congr 1
          rw [getElem!_pos _ _ (by simpa using hj)]
          simp
      subst hW1
      refine ⟨_,η,rfl,q5n,qty h hg (.rows hL hat2 (by rw [hyl];exact hh1) (by rw [hyl];exact hcap) hr) ?_ (fun k hk hne=>?_) ?_ ?_ ?_ ?_⟩
      · exact qu2 ..
      · exact qu3 _ _ _ _ _ _ k hk (hne L0 hL)
      · rfl
      · rfl
      · rfl
      · simp [grow,putRow,mapBlock,Sort.ahead]
def orcS (f g:FuncId) (τ:Row) (F:den τ×den τ×Unit→Option Int) (C:Orc):Orc:=fun h args H =>
  bif Nat.beq h f then (match args with
    | [.rs n, .fn g' []] => bif Nat.beq g' g then (match H.get n with
      | some (.rows σ xs)=>if e:σ=τ then some ⟨List (den τ),qtn F (e ▸ xs),fun r=>(.tup [],H.put n (some (.rows τ r)))⟩ else none
      | _=>none) else none
    | _=>none) else C h args H
theorem qu5 (L:SlLaysF0.n6 P ρ) {τ:Row} (hp:qck τ=true) (aE:∀ w,(isAgg (ρ.t 24)).run P w=.ok true w) (zE:∀ w,(Go.sizeOf (ρ.t 24)).run P w=.ok τ.size w) {g:FuncId} {F:den τ×den τ×Unit→Option Int}
    (hS : COK P ⟨g, [.row τ true, .row τ true], Int, F, fun r => (.int .i64 r, [])⟩) (hbody : ∃ fn c, P.funcs[ρ.f 6]? = some fn ∧ fn.body = some c ∧ ¬ fn.name = "runtime.NumGoroutine") {C : Orc} (hC : OrcOK P C) : OrcOK P (orcS (ρ.f 6) g τ F C) := by
  have key:∀ h args H p,orcS (ρ.f 6) g τ F C h args H=some p→(C h args H=some p)∨(h=ρ.f 6∧∃ n xs,args=[.rs n,.fn g []]∧H.get n=some (.rows τ xs)∧p=⟨List (den τ),qtn F xs,fun r=>(.tup [],H.put n (some (.rows τ r)))⟩):=by
    intro h args H p hp
    unfold orcS at hp
    rw [Bool.cond_eq_ite] at hp
    split at hp
    · rename_i he
      have he:=Nat.eq_of_beq_eq_true he
      split at hp
      · rename_i n g'
        rw [Bool.cond_eq_ite] at hp
        split at hp
        · rename_i hg
          have hg:=Nat.eq_of_beq_eq_true hg
          subst hg
          split at hp
          · rename_i σ xs hn
            split at hp
            · rename_i e
              subst e
              injection hp with hp
              exact .inr ⟨he,n,xs,rfl,hn,hp.symm⟩
            · cases hp
          · cases hp
        · cases hp
      · cases hp
    · exact .inl hp
  refine ⟨fun h args H p x hp' hx=>?_⟩
  rcases key h args H p hp' with h1 | ⟨rfl,n,xs,rfl,hn,rfl⟩
  · exact hC.call h args H p x h1 hx
  · exact .inl ⟨qu4 L hp aE zE hS hn hx,hbody⟩
end
end Go.Tx

namespace Go.Proofs.YtbjpmdhdoggobaaGreat
open Go Go.Tx Go.RowKit Go.Pel
theorem qu6 {η:Emb} {a b c d:Int} {v:Value} (hv:VR η (.agg [.int .i64 a,.int .i64 b,.int .i64 c,.int .i64 d]) v):v=.agg #[.int .i64 a,.int .i64 b,.int .i64 c,.int .i64 d]:=by
  cases hv with
  | agg hl hh =>
    obtain ⟨u1,vs,rfl,h1,h⟩:=VRs.uncons ⟨hl,hh⟩
    obtain ⟨u2,vs,rfl,h2,h⟩:=VRs.uncons h
    obtain ⟨u3,u4,rfl,h3,h4⟩:=vrs2 h
    cases h1;cases h2;cases h3;cases h4;rfl
def sumB (a b c d:Int):Bool:=decide ((-9223372036854775808≤a∧a<9223372036854775808)∧(-9223372036854775808≤b∧b<9223372036854775808)∧(-9223372036854775808≤c∧c<9223372036854775808)∧(-9223372036854775808≤d∧d<9223372036854775808)∧(-38685626227668133590597632≤a*b∧a*b≤38685626227668133590597632)∧(-38685626227668133590597632≤c*d∧c*d≤38685626227668133590597632))
theorem qu7 {a b c d:Int} (h:sumB a b c d=true) (w:World):Calls Tryz.prog 86 #[.agg #[.int .i64 a,.int .i64 b,.int .i64 c,.int .i64 d]] w fun e w'=>e=.returned (.agg #[.int .i64 ((a*b+c*d) / 18446744073709551616),.int .u64 ((a*b+c*d) % 18446744073709551616)])∧∃ x,w'=ext w x:=by
  obtain ⟨h1,h2,h3,h4,h5,h6⟩:=of_decide_eq_true h
  exact qlg a b c d w h1 h2 h3 h4 h5 h6
end Go.Proofs.YtbjpmdhdoggobaaGreat

namespace Go.Pel
open Go Go.Tx
theorem qu8 {l:List Pt} (h:incB l=true):(l.map Pt.id).Nodup:=by
  unfold List.Nodup
  rw [List.pairwise_iff_getElem]
  intro i j hi hj hij
  simp only [List.length_map] at hi hj
  have:=qgn h hij (List.getElem?_eq_getElem hi) (List.getElem?_eq_getElem hj)
  simp;omega
theorem qu9 (p q:Pt) (n d:Int):leads p q n d=true↔(q.a*d+q.b*n<p.a*d+p.b*n)∨(q.a*d+q.b*n=p.a*d+p.b*n∧(q.b<p.b∨(q.b=p.b∧p.id<q.id))):=by
  have e:farD p q n d=(p.a*d+p.b*n) - (q.a*d+q.b*n):=by unfold farD;rw [Int.sub_mul,Int.sub_mul];omega
  unfold leads
  rw [e]
  generalize p.a*d+p.b*n=P
  generalize q.a*d+q.b*n=Q
  repeat' split
  all_goals simp only [decide_eq_true_eq]
  all_goals omega
def ordI (n d:Int) (l:List Pt):List Pt:=qtm (fun p q=>leads p q n d) l
def qua (l:List Pt) (n d:Int):List Int×Int:=if qgo l≠0 then ([],qgo l) else if qdm n d≠0 then ([],qdm n d) else ((ordI n d l).map Pt.id,0)
theorem qub (n d:Int) (l:List Pt):(ordI n d l).Perm l:=qtp _ l
theorem quc {p q:Pt} {n d:Int} (h:leads p q n d=false):¬ ((q.a*d+q.b*n<p.a*d+p.b*n)∨(q.a*d+q.b*n=p.a*d+p.b*n∧(q.b<p.b∨(q.b=p.b∧p.id<q.id)))):=by
  intro k;rw [(qu9 p q n d).2 k] at h;cases h
theorem qud (n d:Int) (l:List Pt):(ordI n d l).Pairwise fun p q=>leads q p n d=false:=by
  refine qtr (S:=fun _=>True) (fun a b _ _ h=>?_) (fun a b c _ _ _ h1 h2=>?_) l (fun _ _=>trivial)
  · rw [qu9] at h
    rw [← Bool.not_eq_true,qu9];omega
  · have h1 := quc h1
    have h2:=quc h2
    rw [← Bool.not_eq_true,qu9];omega
theorem que {n d:Int} {l:List Pt} (hinc:incB l=true) (hd:1≤d):qqt n d l=ordI n d l:=by
  refine List.Perm.eq_of_pairwise (le:=fun p q=>leads q p n d=false) ?_ ((qqw (qr6 hinc) (qu8 hinc)).imp fun {a b} h=>?_) (qud n d l) ((qqu n d l).trans (qub n d l).symm)
  · intro a b _ _ h k
    have h1:=quc h
    have h2:=quc k
    have e1:a.b=b.b:=by omega
    have e2:a.id=b.id:=by omega
    have e3:a.a*d+a.b*n=b.a*d+b.b*n:=by omega
    rw [e1] at e3
    have e4:a.a*d=b.a*d:=by omega
    have e5:=Int.eq_of_mul_eq_mul_right (by omega) e4
    obtain ⟨x,y,z⟩:=a
    obtain ⟨x',y',z'⟩:=b
    simp only at e1 e2 e5
    subst e1 e2 e5
    rfl
  · rw [qu9] at h
    rw [← Bool.not_eq_true,qu9];omega
theorem quf (l:List Pt) (n d:Int):qr9 l n d=qua l n d:=by
  unfold qr9 qr5 qua
  by_cases h1:qgo l=0
  · simp only [h1, ne_eq, not_true_eq_false, if_false]
    by_cases h2:qdm n d=0
    · simp only [h2, ne_eq, not_true_eq_false, if_false]
      rw [que (qgt h1).2.2 (qdt h2).1]
    · simp only [h2,ne_eq,not_false_eq_true,if_true]
  · simp only [h1,ne_eq,not_false_eq_true,if_true]
end Go.Pel

namespace Go.Proofs.YtbjpmdhdoggobaaGreat
open Go Go.Tx Go.Pel Go.Proofs.Tryz
set_option maxRecDepth 100000
set_option maxHeartbeats 0
abbrev quq:List Pk:=[.row RLiE false,.row RLiE false]
abbrev qur:Type:=DLiE×DLiE×Unit
abbrev qus:Type:=Bool
def qut (r:qus):LV×List Ob:=(.bool r,[])
def quu (F:qur→Option qus):Go.Tx.Spec:=⟨21,quq,qus,F,qut⟩
def quv (x:qur):Bool:=decide ((idsI x.1.1).length≤1000000)&&decide ((idsI x.2.1.1).length≤1000000)
def quw (d:Nat) (x:qur):Option qus:=bif quv x then some (decide ((idsI x.1.1)=(idsI x.2.1.1))) else none
theorem quy (d:Nat):COK prog (quu (quw d)):=by
 refine qi4 (qi5 (fn:=f21) (by kernel_rfl) (by kernel_rfl) (by kernel_rfl)) fun x r hx w φ vs hφ hv=>?_
 have hx:quw d x=some r:=hx
 unfold quw at hx
 obtain ⟨hc,rfl⟩:=qjk hx
 have hv:VRs (Emb.fro φ) [.fz RI x.1.1,.fz RI x.2.1.1] vs:=hv
 obtain ⟨v0,vs,rfl,q0,hv⟩:=VRs.uncons hv
 obtain ⟨v1,rfl,q1⟩:=vrs1 hv
 obtain ⟨A0,c0,rfl,s0,z0⟩:=qje hφ q0
 obtain ⟨A1,c1,rfl,s1,z1⟩:=qje hφ q1
 unfold quv at hc
 simp only [Bool.and_eq_true] at hc
 obtain ⟨h1,h2⟩:=hc
 replace h1:=of_decide_eq_true h1
 replace h2:=of_decide_eq_true h2
 refine (qrr A0 A1 c0 c1 (idsI x.1.1) (idsI x.2.1.1) w s0 s1 h1 h2).mono ?_
 rintro e w' ⟨rfl,y,rfl⟩
 exact qi2 hφ (.bool _) y
abbrev quz:List Pk:=[.row qjw true,.row Ri false]
abbrev qv0:Type:=qjx×Di×Unit
abbrev qv1:Type:=Int×Int×Int×Int
def qv2 (r:qv1):LV×List Ob:=(.tup [.agg [.int .i64 r.1,.int .i64 r.2.1,.int .i64 r.2.2.1],.int .i64 r.2.2.2],[])
def qv3 (F:qv0→Option qv1):Go.Tx.Spec:=⟨58,quz,qv1,F,qv2⟩
def qv4 (x:qv0):Bool:=true
def qv5 (d:Nat) (x:qv0):Option qv1:=bif qv4 x then some ((qh6 (ptsL x.1.1) x.2.1.1).1.id,(qh6 (ptsL x.1.1) x.2.1.1).1.a,(qh6 (ptsL x.1.1) x.2.1.1).1.b,(qh6 (ptsL x.1.1) x.2.1.1).2) else none
theorem qv6 (d:Nat) (x:qv0) (h:qv4 x=true):qv5 d x=some ((qh6 (ptsL x.1.1) x.2.1.1).1.id,(qh6 (ptsL x.1.1) x.2.1.1).1.a,(qh6 (ptsL x.1.1) x.2.1.1).1.b,(qh6 (ptsL x.1.1) x.2.1.1).2):=by unfold qv5;rw [h];rfl
theorem qv7 (d:Nat):COK prog (qv3 (qv5 d)):=by
 refine qi4 (qi5 (fn:=f58) (by kernel_rfl) (by kernel_rfl) (by kernel_rfl)) fun x r hx w φ vs hφ hv=>?_
 have hx:qv5 d x=some r:=hx
 unfold qv5 at hx
 obtain ⟨hc,rfl⟩:=qjk hx
 have hv:VRs (Emb.fro φ) [.agg [.fz RP x.1.1],.int .i64 x.2.1.1] vs:=hv
 obtain ⟨v0,vs,rfl,q0,hv⟩:=VRs.uncons hv
 obtain ⟨v1,rfl,q1⟩:=vrs1 hv
 obtain ⟨A0,c0,rfl,s0,z0⟩:=qjf hφ q0
 have r1:=qhz q1;subst r1
 refine (qqk A0 c0 (ptsL x.1.1) x.2.1.1 w s0).mono ?_
 rintro e w' ⟨rfl,y,rfl⟩
 exact qi2 hφ (VR.tupL (VRs.cons (VR.aggL (VRs.cons (.int _ _) (VRs.cons (.int _ _) (VRs.cons (.int _ _) VRs.nil)))) (VRs.cons (.int _ _) VRs.nil))) y
abbrev qv8:List Pk:=[.row qjw true,.row Rii true]
abbrev qv9:Type:=qjx×Dii×Unit
abbrev qva:Type:=Int
def qvb (r:qva):LV×List Ob:=(.int .i64 r,[])
def qvc (F:qv9→Option qva):Go.Tx.Spec:=⟨36,qv8,qva,F,qvb⟩
def qvd (x:qv9):Bool:=i64B x.2.1.1&&i64B x.2.1.2.1&&decide ((ptsL x.1.1).length≤1000000)
def qve (d:Nat) (x:qv9):Option qva:=bif qvd x then some (qrq (ptsL x.1.1) x.2.1.1 x.2.1.2.1) else none
theorem qvf (d:Nat) (x:qv9) (h:qvd x=true):qve d x=some (qrq (ptsL x.1.1) x.2.1.1 x.2.1.2.1):=by unfold qve;rw [h];rfl
theorem qvg (d:Nat):COK prog (qvc (qve d)):=by
 refine qi4 (qi5 (fn:=f36) (by kernel_rfl) (by kernel_rfl) (by kernel_rfl)) fun x r hx w φ vs hφ hv=>?_
 have hx:qve d x=some r:=hx
 unfold qve at hx
 obtain ⟨hc,rfl⟩:=qjk hx
 have hv:VRs (Emb.fro φ) [.agg [.fz RP x.1.1],.agg [.int .i64 x.2.1.1,.int .i64 x.2.1.2.1]] vs:=hv
 obtain ⟨v0,vs,rfl,q0,hv⟩:=VRs.uncons hv
 obtain ⟨v1,rfl,q1⟩:=vrs1 hv
 obtain ⟨A0,c0,rfl,s0,z0⟩:=qjf hφ q0
 have r1:=qhy q1;subst r1
 unfold qvd at hc
 simp only [Bool.and_eq_true] at hc
 obtain ⟨⟨h1,h2⟩,h3⟩:=hc
 replace h3:=of_decide_eq_true h3
 refine (qrs A0 c0 (ptsL x.1.1) x.2.1.1 x.2.1.2.1 w (qjh h1) (qjh h2) s0 h3).mono ?_
 rintro e w' ⟨rfl,y,rfl⟩
 exact qi2 hφ (.int _ _) y
abbrev qvh:List Pk:=[.row qjw true,.row Rii true]
abbrev qvi:Type:=qjx×Dii×Unit
abbrev qvj:Type:=List Di×Int
def qvk (r:qvj):LV×List Ob:=(.tup [.rs 0,.int .i64 r.2],[.rows Ri r.1])
def qvl (F:qvi→Option qvj):Go.Tx.Spec:=⟨32,qvh,qvj,F,qvk⟩
def qvm (x:qvi):Bool:=i64B x.2.1.1&&i64B x.2.1.2.1&&decide ((ptsL x.1.1).length≤1000000)
def qvn (d:Nat) (x:qvi):Option qvj:=bif qvm x then some (unI (qua (ptsL x.1.1) x.2.1.1 x.2.1.2.1).1,(qua (ptsL x.1.1) x.2.1.1 x.2.1.2.1).2) else none
theorem qvo (d:Nat) (x:qvi) (h:qvm x=true):qvn d x=some (unI (qua (ptsL x.1.1) x.2.1.1 x.2.1.2.1).1,(qua (ptsL x.1.1) x.2.1.1 x.2.1.2.1).2):=by unfold qvn;rw [h];rfl
theorem qvp (d:Nat):COK prog (qvl (qvn d)):=by
 refine qi4 (qi5 (fn:=f32) (by kernel_rfl) (by kernel_rfl) (by kernel_rfl)) fun x r hx w φ vs hφ hv=>?_
 have hx:qvn d x=some r:=hx
 unfold qvn at hx
 obtain ⟨hc,rfl⟩:=qjk hx
 have hv:VRs (Emb.fro φ) [.agg [.fz RP x.1.1],.agg [.int .i64 x.2.1.1,.int .i64 x.2.1.2.1]] vs:=hv
 obtain ⟨v0,vs,rfl,q0,hv⟩:=VRs.uncons hv
 obtain ⟨v1,rfl,q1⟩:=vrs1 hv
 obtain ⟨A0,c0,rfl,s0,z0⟩:=qjf hφ q0
 have r1:=qhy q1;subst r1
 unfold qvm at hc
 simp only [Bool.and_eq_true] at hc
 obtain ⟨⟨h1,h2⟩,h3⟩:=hc
 replace h3:=of_decide_eq_true h3
 refine ((quf (ptsL x.1.1) x.2.1.1 x.2.1.2.1) ▸ qrg A0 c0 (ptsL x.1.1) x.2.1.1 x.2.1.2.1 w (qjh h1) (qjh h2) s0 z0 h3).mono ?_
 rintro e w' ⟨A',c',rfl,y,rfl,ho⟩
 exact qi3 hφ (τ:=Ri) rfl (qja _) ho (qjd _) fun η e0=>VR.tupL (VRs.cons (.rs e0) (VRs.cons (.int _ _) VRs.nil))
end Go.Proofs.YtbjpmdhdoggobaaGreat

namespace Go.Proofs
open Go.Shelf
def Tryz.laysSortR_ren:Go.Shelf.Ren:=⟨fun | 6=>42 | 15=>66 | 14=>65 | 28=>100 | 29=>101 | 20=>92 | 21=>93 | 22=>94 | 23=>95 | 24=>96 | 25=>97 | 26=>98 | 27=>99 | 46=>119 | 47=>120 | 48=>121 | 49=>122 | 50=>123 | 57=>138 | n=>n,fun | 22=>29 | 24=>26 | 25=>59 | 3=>3 | 39=>108 | 0=>0 | 53=>145 | 55=>84 | 4=>4 | 46=>138 | 45=>137 | 50=>142 | 5=>5 | 9=>9 | 66=>164 | 70=>168 | 76=>180 | 77=>42 | n=>n,fun | n=>n⟩
theorem Tryz.laysSortR:Go.Proofs.SlLaysF0.n6 Tryz.prog Tryz.laysSortR_ren:={
  mixed:=by kernel_rfl
  f6:=⟨Tryz.f42.name,by decide,Tryz.func42.trans (congrArg some (by kernel_rfl))⟩
  f14:=⟨Tryz.f65.name,by decide,Tryz.func65.trans (congrArg some (by kernel_rfl))⟩
  f15:=Tryz.func66.trans (congrArg some (by kernel_rfl))
  f20:=⟨Tryz.f92.name,by decide,Tryz.func92.trans (congrArg some (by kernel_rfl))⟩
  f21:=⟨Tryz.f93.name,by decide,Tryz.func93.trans (congrArg some (by kernel_rfl))⟩
  f22:=⟨Tryz.f94.name,by decide,Tryz.func94.trans (congrArg some (by kernel_rfl))⟩
  f23:=⟨Tryz.f95.name,by decide,Tryz.func95.trans (congrArg some (by kernel_rfl))⟩
  f24:=⟨Tryz.f96.name,by decide,Tryz.func96.trans (congrArg some (by kernel_rfl))⟩
  f25:=⟨Tryz.f97.name,by decide,Tryz.func97.trans (congrArg some (by kernel_rfl))⟩
  f26:=⟨Tryz.f98.name,by decide,Tryz.func98.trans (congrArg some (by kernel_rfl))⟩
  f27:=⟨Tryz.f99.name,by decide,Tryz.func99.trans (congrArg some (by kernel_rfl))⟩
  f28:=Tryz.func100.trans (congrArg some (by kernel_rfl))
  f29:=Tryz.func101.trans (congrArg some (by kernel_rfl))
  f46:=⟨Tryz.f119.name,by decide,Tryz.func119.trans (congrArg some (by kernel_rfl))⟩
  f47:=Tryz.func120.trans (congrArg some (by kernel_rfl))
  f48:=Tryz.func121.trans (congrArg some (by kernel_rfl))
  f49:=⟨Tryz.f122.name,by decide,Tryz.func122.trans (congrArg some (by kernel_rfl))⟩
  f50:=⟨Tryz.f123.name,by decide,Tryz.func123.trans (congrArg some (by kernel_rfl))⟩
  f57:=⟨Tryz.f138.name,by decide,Tryz.func138.trans (congrArg some (by kernel_rfl))⟩
  t0:=Tryz.underlying0
  a0:=Tryz.isAgg0
  z0:=Tryz.sizeOf0
  v0:=Tryz.zeroValue0
  t3:=Tryz.underlying3
  a3:=Tryz.isAgg3
  z3:=Tryz.sizeOf3
  v3:=Tryz.zeroValue3
  t4:=Tryz.underlying4
  a4:=Tryz.isAgg4
  z4:=Tryz.sizeOf4
  v4:=Tryz.zeroValue4
  t5:=Tryz.underlying5
  a5:=Tryz.isAgg5
  z5:=Tryz.sizeOf5
  v5:=Tryz.zeroValue5
  t9:=Tryz.underlying9
  a9:=Tryz.isAgg9
  z9:=Tryz.sizeOf9
  v9:=Tryz.zeroValue9
  t22:=Tryz.underlying29
  a22:=Tryz.isAgg29
  z22:=Tryz.sizeOf29
  v22:=Tryz.zeroValue29
  t25:=Tryz.underlying59
  a25:=Tryz.isAgg59
  z25:=Tryz.sizeOf59
  v25:=Tryz.zeroValue59
  t39:=Tryz.underlying108
  a39:=Tryz.isAgg108
  z39:=Tryz.sizeOf108
  v39:=Tryz.zeroValue108
  t45:=Tryz.underlying137
  a45:=Tryz.isAgg137
  z45:=Tryz.sizeOf137
  v45:=Tryz.zeroValue137
  t46:=Tryz.underlying138
  a46:=Tryz.isAgg138
  z46:=Tryz.sizeOf138
  v46:=Tryz.zeroValue138
  t50:=Tryz.underlying142
  a50:=Tryz.isAgg142
  z50:=Tryz.sizeOf142
  v50:=Tryz.zeroValue142
  t53:=Tryz.underlying145
  a53:=Tryz.isAgg145
  z53:=Tryz.sizeOf145
  v53:=Tryz.zeroValue145
  t55:=Tryz.underlying84
  a55:=Tryz.isAgg84
  z55:=Tryz.sizeOf84
  v55:=Tryz.zeroValue84
  t66:=Tryz.underlying164
  a66:=Tryz.isAgg164
  z66:=Tryz.sizeOf164
  v66:=Tryz.zeroValue164
  t70:=Tryz.underlying168
  a70:=Tryz.isAgg168
  z70:=Tryz.sizeOf168
  v70:=Tryz.zeroValue168
  t76:=Tryz.underlying180
  a76:=Tryz.isAgg180
  z76:=Tryz.sizeOf180
  v76:=Tryz.zeroValue180
  t77:=Tryz.underlying42
  a77:=Tryz.isAgg42
  z77:=Tryz.sizeOf42
  v77:=Tryz.zeroValue42 }
end Go.Proofs

namespace Go.Proofs.YtbjpmdhdoggobaaGreat
open Go Go.Tx Go.Proofs.Tryz
theorem qvz {g:FuncId} {F:den Rii×den Rii×Unit→Option Int} (hS:COK prog ⟨g,[.row Rii true,.row Rii true],Int,F,fun r=>(.int .i64 r,[])⟩) {C:Orc} (hC:OrcOK prog C):OrcOK prog (orcS 42 g Rii F C) :=
  qu5 (τ:=Rii) (ρ:=laysSortR_ren) laysSortR rfl isAgg26 sizeOf26 hS (qi5 (fn:=f42) (by kernel_rfl) (by kernel_rfl) (by kernel_rfl)) hC
end Go.Proofs.YtbjpmdhdoggobaaGreat

namespace Go.Proofs.YtbjpmdhdoggobaaGreat
open Go Go.Tx Go.Proofs.Tryz
set_option maxRecDepth 100000
set_option maxHeartbeats 0
abbrev qw0:List Pk:=[.row Rii true,.row Rii true]
abbrev qw1:Type:=Dii×Dii×Unit
abbrev qw2:Type:=Int
def qw3 (r:qw2):LV×List Ob:=(.int .i64 r,[])
def qw4 (F:qw1→Option qw2):Go.Tx.Spec:=⟨67,qw0,qw2,F,qw3⟩
abbrev qw5:Type:=(qn8→Option qn9)×Unit
def qw6 (d:Nat):qw5:=(qnd d,())
def qw7 (C:qw5):List Go.Tx.Spec:=[qnb C.1]
abbrev qw8:Type:=Int×Int×Int×Int
def qw9 (v:qw8):St:=⟨[(0,.agg [i6 v.1,i6 v.2.1]),(1,.agg [i6 v.2.2.1,i6 v.2.2.2])],[]⟩
abbrev qwa:Type:=Int×Int×Int×Int
def qwb (v:qwa):St:=⟨[(2,.ptr 0 0),(3,.ptr 1 0)],[.cells [i6 v.1,i6 v.2.1],.cells [i6 v.2.2.1,i6 v.2.2.2]]⟩
def qwc (C:qw5) (v:qw8):Dt qwa:=(Dt.ret (v.1,v.2.1,v.2.2.1,v.2.2.2))
abbrev q3pg {V Y:Type}:=@rg qw5 V Y tysT (fun C=>(orc (qw7 C))) 10
theorem qwd C v:q3pg (regO (qdk f67) 0) false (an [2,3]) qw9 qwc qwb C v:=rgI (by kernel_rfl)
abbrev qwe:Type:=Int
def qwf (v:qwe):St:=⟨[(4,i6 v)],[]⟩
def qwg (C:qw5) (v:qwa):Dt qwe:=(Dt.bnd (C.1 ((v.1,v.2.1,()),())) fun r1=>(Dt.bnd (C.1 ((v.2.2.1,v.2.2.2,()),())) fun r2=>(Dt.ret (tmax r1 r2))))
theorem qwh C v:q3pg (regO (qdk f67) 1) true [(4,.any)] qwb qwg qwf C v:=rgI (by kernel_rfl)
def qwi (d:Nat) (x:qw1):Option qw2 :=
 (qwc (qw6 d) (x.1.1,x.1.2.1,x.2.1.1,x.2.1.2.1)).eval fun y0 =>
 (qwg (qw6 d) y0).eval fun y1 =>
 some y1
theorem qwj (d:Nat):COK prog (qw4 (qwi d)):=by
 have hm:prog.follows .mixedOrders=true:=mixed
 have hT:=tys
 have hC0:OrcOK prog (orc (qw7 (qw6 d))):=qde (by
  intro S hS
  simp only [qw7,List.mem_cons,List.not_mem_nil,or_false] at hS
  subst hS;exact qnf d)
 have hC:OrcOK prog (orc (qw7 (qw6 d))):=hC0
 refine q93 (c:=qdk f67) (fn:=f67) hT (by kernel_rfl) (by kernel_rfl) (by decide) fun x r h w0 φ0 Q hend=>?_
 replace h:qwi d x=some r:=h
 unfold qwi at h
 show Run prog w0 φ0 10 (qdk f67) ⟨[(0,.agg [.int .i64 x.1.1,.int .i64 x.1.2.1]),(1,.agg [.int .i64 x.2.1.1,.int .i64 x.2.1.2.1])],[]⟩ Q
 refine q3pf hm hT hC (qwd (qw6 d) (x.1.1,x.1.2.1,x.2.1.1,x.2.1.2.1)) h fun y0 h=>?_
 refine q3pf hm hT hC (qwh (qw6 d) y0) h fun y1 h=>?_
 refine q8l ?_
 cases h
 exact (hend _ (by kernel_rfl)).2
abbrev qwk:List Pk:=[.row Ri false]
abbrev qwl:Type:=Di×Unit
abbrev qwm:Type:=Bool
def qwn (r:qwm):LV×List Ob:=(.bool r,[])
def qwo (F:qwl→Option qwm):Go.Tx.Spec:=⟨102,qwk,qwm,F,qwn⟩
abbrev qwp:Type:=Unit
def qwq (_d:Nat):qwp:=()
def qwr (C:qwp):List Go.Tx.Spec:=[]
abbrev qws:Type:=Int
def qwt (v:qws):St:=⟨[(0,i6 v)],[]⟩
def qwu (C:qwp) (v:qws):Dt qws:=(Dt.ret v)
abbrev q3ph {V Y:Type}:=@rg qwp V Y tysT (fun C=>(orc (qwr C))) 6
theorem qwv C v:q3ph (regO (qdk f102) 0) false [(0,.any)] qwt qwu qwt C v:=rgI (by kernel_rfl)
abbrev qww:Type:=Bool
def qwx (v:qww):St:=⟨[(2,.bool v)],[]⟩
def qwy (C:qwp) (v:qws):Dt qww:=(Dt.ret (v != v))
theorem qwz C v:q3ph (regO (qdk f102) 1) false [(2,.any)] qwt qwy qwx C v:=rgI (by kernel_rfl)
def qx0 (d:Nat) (x:qwl):Option qwm :=
 (qwu (qwq d) x.1.1).eval fun y0 =>
 (qwy (qwq d) y0).eval fun y1 =>
 some y1
theorem qx1 (d:Nat):COK prog (qwo (qx0 d)):=by
 have hm:prog.follows .mixedOrders=true:=mixed
 have hT:=tys
 have hC0:OrcOK prog (orc (qwr (qwq d))):=qde (by
  intro S hS
  simp only [qwr,List.mem_cons,List.not_mem_nil,or_false] at hS
  all_goals first | cases hS | exact hS.elim)
 have hC:OrcOK prog (orc (qwr (qwq d))):=hC0
 refine q93 (c:=qdk f102) (fn:=f102) hT (by kernel_rfl) (by kernel_rfl) (by decide) fun x r h w0 φ0 Q hend=>?_
 replace h:qx0 d x=some r:=h
 unfold qx0 at h
 show Run prog w0 φ0 6 (qdk f102) ⟨[(0,.int .i64 x.1.1)],[]⟩ Q
 refine q3pf hm hT hC (qwv (qwq d) x.1.1) h fun y0 h=>?_
 refine q3pf hm hT hC (qwz (qwq d) y0) h fun y1 h=>?_
 refine q8l ?_
 cases h
 exact (hend _ (by kernel_rfl)).2
abbrev qx2:List Pk:=[.row Ri false,.row Ri false]
abbrev qx3:Type:=Di×Di×Unit
abbrev qx4:Type:=Int
def qx5 (r:qx4):LV×List Ob:=(.int .i64 r,[])
def qx6 (F:qx3→Option qx4):Go.Tx.Spec:=⟨68,qx2,qx4,F,qx5⟩
abbrev qx7:Type:=(qwl→Option qwm)×Unit
def qx8 (d:Nat):qx7:=(qx0 d,())
def qx9 (C:qx7):List Go.Tx.Spec:=[qwo C.1]
abbrev qxa:Type:=Int×Int
def qxb (v:qxa):St:=⟨[(0,i6 v.1),(1,i6 v.2)],[]⟩
def qxc (C:qx7) (v:qxa):Dt qxa:=(Dt.ret (v.1,v.2))
abbrev q3pi {V Y:Type}:=@rg qx7 V Y tysT (fun C=>(orc (qx9 C))) 20
theorem qxd C v:q3pi (regO (qdk f68) 0) false (an [0,1]) qxb qxc qxb C v:=rgI (by kernel_rfl)
abbrev qxe:Type:=Int×Int×Bool
def qxf (v:qxe):St:=⟨[(0,i6 v.1),(1,i6 v.2.1),(5,.bool v.2.2)],[]⟩
def qxg (C:qx7) (v:qxa):Dt qxe:=(Dt.bnd (C.1 ((v.1,()),())) fun r1=>(Dt.ret (v.1,v.2,r1)))
theorem qxh C v:q3pi (regO (qdk f68) 1) false (an [0,1,5]) qxb qxg qxf C v:=rgI (by kernel_rfl)
abbrev qxi:Type:=Int×Int×Bool×Bool
def qxj (v:qxi):St:=⟨[(0,i6 v.1),(1,i6 v.2.1),(5,.bool v.2.2.1),(6,.bool v.2.2.2)],[]⟩
def qxk (C:qx7) (v:qxe):Dt qxi:=(Dt.bnd (C.1 ((v.2.1,()),())) fun r1=>(Dt.ret (v.1,v.2.1,v.2.2,r1)))
theorem qxl C v:q3pi (regO (qdk f68) 2) false (an [0,1,5,6]) qxf qxk qxj C v:=rgI (by kernel_rfl)
abbrev qxm:Type:=Int×Int×Bool×Bool
def qxn (v:qxm):St:=⟨[(0,i6 v.1),(1,i6 v.2.1),(6,.bool v.2.2.1),(11,.bool v.2.2.2)],[]⟩
def qxo (C:qx7) (v:qxi):Dt qxm:=(Dt.ret (v.1,v.2.1,v.2.2.2,v.2.2.1))
theorem qxp C v:q3pi (regO (qdk f68) 3) false (an [0,1,6,11]) qxj qxo qxn C v:=rgI (by kernel_rfl)
abbrev qxq:Type:=Bool
def qxr (v:qxq):St:=⟨[(12,.bool v)],[]⟩
def qxs (C:qx7) (v:qxm):Dt qxq:=(Dt.ret v.2.2.1)
theorem qxt C v:q3pi (regO (qdk f68) 4) false [(12,.any)] qxn qxs qxr C v:=rgI (by kernel_rfl)
abbrev qxu:Type:=Int
def qxv (v:qxu):St:=⟨[(4,i6 v)],[]⟩
def qxw (C:qx7) (v:qxq):Dt qxu:=(Dt.ret (0:Int))
theorem qxx C v:q3pi (regO (qdk f68) 5) false [(4,.any)] qxr qxw qxv C v:=rgI (by kernel_rfl)
def qxy (C:qx7) (v:qxq):Dt qxu:=(Dt.ret (-1:Int))
theorem qxz C v:q3pi (regO (qdk f68) 6) false [(4,.any)] qxr qxy qxv C v:=rgI (by kernel_rfl)
abbrev qy0:Type:=Int×Int×Bool
def qy1 (v:qy0):St:=⟨[(0,i6 v.1),(1,i6 v.2.1),(13,.bool v.2.2)],[]⟩
def qy2 (C:qx7) (v:qxm):Dt qy0:=(Dt.ret (v.1,v.2.1,v.2.2.1))
theorem qy3 C v:q3pi (regO (qdk f68) 7) false (an [0,1,13]) qxn qy2 qy1 C v:=rgI (by kernel_rfl)
def qy4 (C:qx7) (v:qy0):Dt qxu:=(Dt.ret (1:Int))
theorem qy5 C v:q3pi (regO (qdk f68) 8) false [(4,.any)] qy1 qy4 qxv C v:=rgI (by kernel_rfl)
abbrev qy6:Type:=Int×Int×Bool
def qy7 (v:qy6):St:=⟨[(0,i6 v.1),(1,i6 v.2.1),(16,.bool v.2.2)],[]⟩
def qy8 (C:qx7) (v:qy0):Dt qy6:=(Dt.ret (v.1,v.2.1,(decide (v.1<v.2.1))))
theorem qy9 C v:q3pi (regO (qdk f68) 9) false (an [0,1,16]) qy1 qy8 qy7 C v:=rgI (by kernel_rfl)
def qya (C:qx7) (v:qy6):Dt qxu:=(Dt.ret (-1:Int))
theorem qyb C v:q3pi (regO (qdk f68) 10) false [(4,.any)] qy7 qya qxv C v:=rgI (by kernel_rfl)
abbrev qyc:Type:=Bool
def qyd (v:qyc):St:=⟨[(19,.bool v)],[]⟩
def qye (C:qx7) (v:qy6):Dt qyc:=(Dt.ret (decide (v.1 > v.2.1)))
theorem qyf C v:q3pi (regO (qdk f68) 11) false [(19,.any)] qy7 qye qyd C v:=rgI (by kernel_rfl)
def qyg (C:qx7) (v:qyc):Dt qxu:=(Dt.ret (1:Int))
theorem qyh C v:q3pi (regO (qdk f68) 12) false [(4,.any)] qyd qyg qxv C v:=rgI (by kernel_rfl)
def qyi (C:qx7) (v:qyc):Dt qxu:=(Dt.ret (0:Int))
theorem qyj C v:q3pi (regO (qdk f68) 13) false [(4,.any)] qyd qyi qxv C v:=rgI (by kernel_rfl)
def qyk (d:Nat) (x:qx3):Option qx4 :=
 (qxc (qx8 d) (x.1.1,x.2.1.1)).eval fun y0 =>
 (qxg (qx8 d) y0).eval fun y1 =>
 (qxk (qx8 d) y1).eval fun y2 =>
 (qxo (qx8 d) y2).eval fun y3 =>
 bif y3.2.2.2 then ((qxs (qx8 d) y3).eval fun y4 =>
 bif y4 then ((qxw (qx8 d) y4).eval fun y5 =>
 some y5) else ((qxy (qx8 d) y4).eval fun y6 =>
 some y6)) else ((qy2 (qx8 d) y3).eval fun y7 =>
 bif y7.2.2 then ((qy4 (qx8 d) y7).eval fun y8 =>
 some y8) else ((qy8 (qx8 d) y7).eval fun y9 =>
 bif y9.2.2 then ((qya (qx8 d) y9).eval fun y10 =>
 some y10) else ((qye (qx8 d) y9).eval fun y11 =>
 bif y11 then ((qyg (qx8 d) y11).eval fun y12 =>
 some y12) else ((qyi (qx8 d) y11).eval fun y13 =>
 some y13))))
theorem qyl (d:Nat):COK prog (qx6 (qyk d)):=by
 have hm:prog.follows .mixedOrders=true:=mixed
 have hT:=tys
 have hC0:OrcOK prog (orc (qx9 (qx8 d))):=qde (by
  intro S hS
  simp only [qx9,List.mem_cons,List.not_mem_nil,or_false] at hS
  subst hS;exact qx1 d)
 have hC:OrcOK prog (orc (qx9 (qx8 d))):=hC0
 refine q93 (c:=qdk f68) (fn:=f68) hT (by kernel_rfl) (by kernel_rfl) (by decide) fun x r h w0 φ0 Q hend=>?_
 replace h:qyk d x=some r:=h
 unfold qyk at h
 show Run prog w0 φ0 20 (qdk f68) ⟨[(0,.int .i64 x.1.1),(1,.int .i64 x.2.1.1)],[]⟩ Q
 refine q3pf hm hT hC (qxd (qx8 d) (x.1.1,x.2.1.1)) h fun y0 h=>?_
 refine q3pf hm hT hC (qxh (qx8 d) y0) h fun y1 h=>?_
 refine q3pf hm hT hC (qxl (qx8 d) y1) h fun y2 h=>?_
 refine q8m ?_
 refine q3pf hm hT hC (qxp (qx8 d) y2) h fun y3 h=>?_
 refine q8q (v:=y3.2.2.2) (by kernel_rfl) h ?_ ?_
 ·
  intro h
  refine q8m ?_
  refine q3pf hm hT hC (qxt (qx8 d) y3) h fun y4 h=>?_
  refine q8q (v:=y4) (by kernel_rfl) h ?_ ?_
  ·
   intro h
   refine q3pf hm hT hC (qxx (qx8 d) y4) h fun y5 h=>?_
   refine q8l (q8a (q8a ?_))
   cases h
   exact (hend _ (by kernel_rfl)).2
  ·
   intro h
   refine q8i (q88 ?_)
   refine q3pf hm hT hC (qxz (qx8 d) y4) h fun y6 h=>?_
   refine q8l (q8a ?_)
   cases h
   exact (hend _ (by kernel_rfl)).2
 ·
  intro h
  refine q8i (q88 (q8m ?_))
  refine q3pf hm hT hC (qy3 (qx8 d) y3) h fun y7 h=>?_
  refine q8q (v:=y7.2.2) (by kernel_rfl) h ?_ ?_
  ·
   intro h
   refine q3pf hm hT hC (qy5 (qx8 d) y7) h fun y8 h=>?_
   refine q8l (q8a ?_)
   cases h
   exact (hend _ (by kernel_rfl)).2
  ·
   intro h
   refine q8i (q88 (q8m ?_))
   refine q3pf hm hT hC (qy9 (qx8 d) y7) h fun y9 h=>?_
   refine q8q (v:=y9.2.2) (by kernel_rfl) h ?_ ?_
   ·
    intro h
    refine q3pf hm hT hC (qyb (qx8 d) y9) h fun y10 h=>?_
    refine q8l (q8a ?_)
    cases h
    exact (hend _ (by kernel_rfl)).2
   ·
    intro h
    refine q8i (q88 (q8m ?_))
    refine q3pf hm hT hC (qyf (qx8 d) y9) h fun y11 h=>?_
    refine q8q (v:=y11) (by kernel_rfl) h ?_ ?_
    ·
     intro h
     refine q3pf hm hT hC (qyh (qx8 d) y11) h fun y12 h=>?_
     refine q8l (q8a ?_)
     cases h
     exact (hend _ (by kernel_rfl)).2
    ·
     intro h
     refine q8i (q88 ?_)
     refine q3pf hm hT hC (qyj (qx8 d) y11) h fun y13 h=>?_
     refine q8l ?_
     cases h
     exact (hend _ (by kernel_rfl)).2
abbrev qym:List Pk:=[.row Ri false]
abbrev qyn:Type:=Di×Unit
abbrev qyo:Type:=Int
def qyp (r:qyo):LV×List Ob:=(.int .u64 r,[])
def qyq (F:qyn→Option qyo):Go.Tx.Spec:=⟨64,qym,qyo,F,qyp⟩
abbrev qyr:Type:=Unit
def qys (_d:Nat):qyr:=()
def qyt (C:qyr):List Go.Tx.Spec:=[]
abbrev qyu:Type:=Int
def qyv (v:qyu):St:=⟨[(0,i6 v)],[]⟩
def qyw (C:qyr) (v:qyu):Dt qyu:=(Dt.ret v)
abbrev q3pj {V Y:Type}:=@rg qyr V Y tysT (fun C=>(orc (qyt C))) 10
theorem qyx C v:q3pj (regO (qdk f64) 0) false [(0,.any)] qyv qyw qyv C v:=rgI (by kernel_rfl)
abbrev qyy:Type:=Int×Bool
def qyz (v:qyy):St:=⟨[(0,i6 v.1),(4,.bool v.2)],[]⟩
def qz0 (C:qyr) (v:qyu):Dt qyy:=(Dt.ret (v,(decide (v<(0:Int)))))
theorem qz1 C v:q3pj (regO (qdk f64) 1) false (an [0,4]) qyv qz0 qyz C v:=rgI (by kernel_rfl)
abbrev qz2:Type:=Int
def qz3 (v:qz2):St:=⟨[(2,u6 v)],[]⟩
def qz4 (C:qyr) (v:qyy):Dt qz2:=(Dt.ret (IntKind.wrap .u64 (0 - (IntKind.wrap .u64 v.1))))
theorem qz5 C v:q3pj (regO (qdk f64) 2) false [(2,.any)] qyz qz4 qz3 C v:=rgI (by kernel_rfl)
def qz6 (C:qyr) (v:qyy):Dt qz2:=(Dt.ret (IntKind.wrap .u64 v.1))
theorem qz7 C v:q3pj (regO (qdk f64) 3) false [(2,.any)] qyz qz6 qz3 C v:=rgI (by kernel_rfl)
def qz8 (d:Nat) (x:qyn):Option qyo :=
 (qyw (qys d) x.1.1).eval fun y0 =>
 (qz0 (qys d) y0).eval fun y1 =>
 bif y1.2 then ((qz4 (qys d) y1).eval fun y2 =>
 some y2) else ((qz6 (qys d) y1).eval fun y3 =>
 some y3)
theorem qz9 (d:Nat):COK prog (qyq (qz8 d)):=by
 have hm:prog.follows .mixedOrders=true:=mixed
 have hT:=tys
 have hC0:OrcOK prog (orc (qyt (qys d))):=qde (by
  intro S hS
  simp only [qyt,List.mem_cons,List.not_mem_nil,or_false] at hS
  all_goals first | cases hS | exact hS.elim)
 have hC:OrcOK prog (orc (qyt (qys d))):=hC0
 refine q93 (c:=qdk f64) (fn:=f64) hT (by kernel_rfl) (by kernel_rfl) (by decide) fun x r h w0 φ0 Q hend=>?_
 replace h:qz8 d x=some r:=h
 unfold qz8 at h
 show Run prog w0 φ0 10 (qdk f64) ⟨[(0,.int .i64 x.1.1)],[]⟩ Q
 refine q3pf hm hT hC (qyx (qys d) x.1.1) h fun y0 h=>?_
 refine q8m ?_
 refine q3pf hm hT hC (qz1 (qys d) y0) h fun y1 h=>?_
 refine q8q (v:=y1.2) (by kernel_rfl) h ?_ ?_
 ·
  intro h
  refine q3pf hm hT hC (qz5 (qys d) y1) h fun y2 h=>?_
  refine q8l (q8a ?_)
  cases h
  exact (hend _ (by kernel_rfl)).2
 ·
  intro h
  refine q8i (q88 ?_)
  refine q3pf hm hT hC (qz7 (qys d) y1) h fun y3 h=>?_
  refine q8l ?_
  cases h
  exact (hend _ (by kernel_rfl)).2
abbrev qza:List Pk:=[.row Ri false,.row Ri false]
abbrev qzb:Type:=Di×Di×Unit
abbrev qzc:Type:=Bool×Int×Int
def qzd (r:qzc):LV×List Ob:=(.agg [.bool r.1,.int .u64 r.2.1,.int .u64 r.2.2],[])
def qze (F:qzb→Option qzc):Go.Tx.Spec:=⟨70,qza,qzc,F,qzd⟩
abbrev qzf:Type:=(qyn→Option qyo)×(qmq→Option qmr)×Unit
def qzg (d:Nat):qzf:=(qz8 d,qmv d,())
def qzh (C:qzf):List Go.Tx.Spec:=[qyq C.1,qmt C.2.1]
abbrev qzi:Type:=Int×Int
def qzj (v:qzi):St:=⟨[(0,i6 v.1),(1,i6 v.2)],[]⟩
abbrev qzk:Type:=Int×Int×Bool×Int×Int
def qzl (v:qzk):St:=⟨[(0,i6 v.1),(1,i6 v.2.1),(4,.ptr 0 0)],[.cells [.bool v.2.2.1,u6 v.2.2.2.1,u6 v.2.2.2.2]]⟩
def qzm (C:qzf) (v:qzi):Dt qzk:=(Dt.ret (v.1,v.2,false,(0:Int),(0:Int)))
abbrev q3pk {V Y:Type}:=@rg qzf V Y tysT (fun C=>(orc (qzh C))) 23
theorem qzn C v:q3pk (regO (qdk f70) 0) false (an [0,1,4]) qzj qzm qzl C v:=rgI (by kernel_rfl)
abbrev qzo:Type:=Int×Int×Int×Int×Bool×Int×Int
def qzp (v:qzo):St:=⟨[(0,i6 v.1),(1,i6 v.2.1),(4,.ptr 0 0),(5,u6 v.2.2.1),(6,u6 v.2.2.2.1)],[.cells [.bool v.2.2.2.2.1,u6 v.2.2.2.2.2.1,u6 v.2.2.2.2.2.2]]⟩
def qzq (C:qzf) (v:qzk):Dt qzo:=(Dt.bnd (C.1 ((v.1,()),())) fun r1=>(Dt.bnd (C.1 ((v.2.1,()),())) fun r2=>(Dt.bnd (C.2.1 ((r1,()),(r2,()),())) fun r3=>(Dt.ret (v.1,v.2.1,r3.1,r3.2,v.2.2.1,v.2.2.2.1,v.2.2.2.2)))))
theorem qzr C v:q3pk (regO (qdk f70) 1) false (an [0,1,4,5,6]) qzl qzq qzp C v:=rgI (by kernel_rfl)
abbrev qzs:Type:=Bool×Int×Int
def qzt (v:qzs):St:=⟨[(4,.ptr 0 0)],[.cells [.bool v.1,u6 v.2.1,u6 v.2.2]]⟩
def qzu (C:qzf) (v:qzo):Dt qzs:=(Dt.ret ((!((decide (v.1<(0:Int))) == (decide (v.2.1<(0:Int))))),v.2.2.1,v.2.2.2.1))
theorem qzv C v:q3pk (regO (qdk f70) 2) false [(4,.any)] qzp qzu qzt C v:=rgI (by kernel_rfl)
def qzw (d:Nat) (x:qzb):Option qzc :=
 (qzm (qzg d) (x.1.1,x.2.1.1)).eval fun y0 =>
 (qzq (qzg d) y0).eval fun y1 =>
 (qzu (qzg d) y1).eval fun y2 =>
 some y2
theorem qzx (d:Nat):COK prog (qze (qzw d)):=by
 have hm:prog.follows .mixedOrders=true:=mixed
 have hT:=tys
 have hC0:OrcOK prog (orc (qzh (qzg d))):=qde (by
  intro S hS
  simp only [qzh,List.mem_cons,List.not_mem_nil,or_false] at hS
  rcases hS with rfl | rfl
  · exact qz9 d
  · exact qmx d)
 have hC:OrcOK prog (orc (qzh (qzg d))):=hC0
 refine q93 (c:=qdk f70) (fn:=f70) hT (by kernel_rfl) (by kernel_rfl) (by decide) fun x r h w0 φ0 Q hend=>?_
 replace h:qzw d x=some r:=h
 unfold qzw at h
 show Run prog w0 φ0 23 (qdk f70) ⟨[(0,.int .i64 x.1.1),(1,.int .i64 x.2.1.1)],[]⟩ Q
 refine q3pf hm hT hC (qzn (qzg d) (x.1.1,x.2.1.1)) h fun y0 h=>?_
 refine q3pf hm hT hC (qzr (qzg d) y0) h fun y1 h=>?_
 refine q3pf hm hT hC (qzv (qzg d) y1) h fun y2 h=>?_
 refine q8l ?_
 cases h
 exact (hend _ (by kernel_rfl)).2
abbrev qzy:List Pk:=[.row Ru false]
abbrev qzz:Type:=Du×Unit
abbrev q100:Type:=Bool
def q101 (r:q100):LV×List Ob:=(.bool r,[])
def q102 (F:qzz→Option q100):Go.Tx.Spec:=⟨124,qzy,q100,F,q101⟩
abbrev q103:Type:=Unit
def q104 (_d:Nat):q103:=()
def q105 (C:q103):List Go.Tx.Spec:=[]
abbrev q106:Type:=Int
def q107 (v:q106):St:=⟨[(0,u6 v)],[]⟩
def q108 (C:q103) (v:q106):Dt q106:=(Dt.ret v)
abbrev q3pl {V Y:Type}:=@rg q103 V Y tysT (fun C=>(orc (q105 C))) 6
theorem q109 C v:q3pl (regO (qdk f124) 0) false [(0,.any)] q107 q108 q107 C v:=rgI (by kernel_rfl)
abbrev q10a:Type:=Bool
def q10b (v:q10a):St:=⟨[(2,.bool v)],[]⟩
def q10c (C:q103) (v:q106):Dt q10a:=(Dt.ret (v != v))
theorem q10d C v:q3pl (regO (qdk f124) 1) false [(2,.any)] q107 q10c q10b C v:=rgI (by kernel_rfl)
def q10e (d:Nat) (x:qzz):Option q100 :=
 (q108 (q104 d) x.1.1).eval fun y0 =>
 (q10c (q104 d) y0).eval fun y1 =>
 some y1
theorem q10f (d:Nat):COK prog (q102 (q10e d)):=by
 have hm:prog.follows .mixedOrders=true:=mixed
 have hT:=tys
 have hC0:OrcOK prog (orc (q105 (q104 d))):=qde (by
  intro S hS
  simp only [q105,List.mem_cons,List.not_mem_nil,or_false] at hS
  all_goals first | cases hS | exact hS.elim)
 have hC:OrcOK prog (orc (q105 (q104 d))):=hC0
 refine q93 (c:=qdk f124) (fn:=f124) hT (by kernel_rfl) (by kernel_rfl) (by decide) fun x r h w0 φ0 Q hend=>?_
 replace h:q10e d x=some r:=h
 unfold q10e at h
 show Run prog w0 φ0 6 (qdk f124) ⟨[(0,.int .u64 x.1.1)],[]⟩ Q
 refine q3pf hm hT hC (q109 (q104 d) x.1.1) h fun y0 h=>?_
 refine q3pf hm hT hC (q10d (q104 d) y0) h fun y1 h=>?_
 refine q8l ?_
 cases h
 exact (hend _ (by kernel_rfl)).2
abbrev q10g:List Pk:=[.row Ru false,.row Ru false]
abbrev q10h:Type:=Du×Du×Unit
abbrev q10i:Type:=Int
def q10j (r:q10i):LV×List Ob:=(.int .i64 r,[])
def q10k (F:q10h→Option q10i):Go.Tx.Spec:=⟨103,q10g,q10i,F,q10j⟩
abbrev q10l:Type:=(qzz→Option q100)×Unit
def q10m (d:Nat):q10l:=(q10e d,())
def q10n (C:q10l):List Go.Tx.Spec:=[q102 C.1]
abbrev q10o:Type:=Int×Int
def q10p (v:q10o):St:=⟨[(0,u6 v.1),(1,u6 v.2)],[]⟩
def q10q (C:q10l) (v:q10o):Dt q10o:=(Dt.ret (v.1,v.2))
abbrev q3pm {V Y:Type}:=@rg q10l V Y tysT (fun C=>(orc (q10n C))) 20
theorem q10r C v:q3pm (regO (qdk f103) 0) false (an [0,1]) q10p q10q q10p C v:=rgI (by kernel_rfl)
abbrev q10s:Type:=Int×Int×Bool
def q10t (v:q10s):St:=⟨[(0,u6 v.1),(1,u6 v.2.1),(5,.bool v.2.2)],[]⟩
def q10u (C:q10l) (v:q10o):Dt q10s:=(Dt.bnd (C.1 ((v.1,()),())) fun r1=>(Dt.ret (v.1,v.2,r1)))
theorem q10v C v:q3pm (regO (qdk f103) 1) false (an [0,1,5]) q10p q10u q10t C v:=rgI (by kernel_rfl)
abbrev q10w:Type:=Int×Int×Bool×Bool
def q10x (v:q10w):St:=⟨[(0,u6 v.1),(1,u6 v.2.1),(5,.bool v.2.2.1),(6,.bool v.2.2.2)],[]⟩
def q10y (C:q10l) (v:q10s):Dt q10w:=(Dt.bnd (C.1 ((v.2.1,()),())) fun r1=>(Dt.ret (v.1,v.2.1,v.2.2,r1)))
theorem q10z C v:q3pm (regO (qdk f103) 2) false (an [0,1,5,6]) q10t q10y q10x C v:=rgI (by kernel_rfl)
abbrev q110:Type:=Int×Int×Bool×Bool
def q111 (v:q110):St:=⟨[(0,u6 v.1),(1,u6 v.2.1),(6,.bool v.2.2.1),(11,.bool v.2.2.2)],[]⟩
def q112 (C:q10l) (v:q10w):Dt q110:=(Dt.ret (v.1,v.2.1,v.2.2.2,v.2.2.1))
theorem q113 C v:q3pm (regO (qdk f103) 3) false (an [0,1,6,11]) q10x q112 q111 C v:=rgI (by kernel_rfl)
abbrev q114:Type:=Bool
def q115 (v:q114):St:=⟨[(12,.bool v)],[]⟩
def q116 (C:q10l) (v:q110):Dt q114:=(Dt.ret v.2.2.1)
theorem q117 C v:q3pm (regO (qdk f103) 4) false [(12,.any)] q111 q116 q115 C v:=rgI (by kernel_rfl)
abbrev q118:Type:=Int
def q119 (v:q118):St:=⟨[(4,i6 v)],[]⟩
def q11a (C:q10l) (v:q114):Dt q118:=(Dt.ret (0:Int))
theorem q11b C v:q3pm (regO (qdk f103) 5) false [(4,.any)] q115 q11a q119 C v:=rgI (by kernel_rfl)
def q11c (C:q10l) (v:q114):Dt q118:=(Dt.ret (-1:Int))
theorem q11d C v:q3pm (regO (qdk f103) 6) false [(4,.any)] q115 q11c q119 C v:=rgI (by kernel_rfl)
abbrev q11e:Type:=Int×Int×Bool
def q11f (v:q11e):St:=⟨[(0,u6 v.1),(1,u6 v.2.1),(13,.bool v.2.2)],[]⟩
def q11g (C:q10l) (v:q110):Dt q11e:=(Dt.ret (v.1,v.2.1,v.2.2.1))
theorem q11h C v:q3pm (regO (qdk f103) 7) false (an [0,1,13]) q111 q11g q11f C v:=rgI (by kernel_rfl)
def q11i (C:q10l) (v:q11e):Dt q118:=(Dt.ret (1:Int))
theorem q11j C v:q3pm (regO (qdk f103) 8) false [(4,.any)] q11f q11i q119 C v:=rgI (by kernel_rfl)
abbrev q11k:Type:=Int×Int×Bool
def q11l (v:q11k):St:=⟨[(0,u6 v.1),(1,u6 v.2.1),(16,.bool v.2.2)],[]⟩
def q11m (C:q10l) (v:q11e):Dt q11k:=(Dt.ret (v.1,v.2.1,(decide (v.1<v.2.1))))
theorem q11n C v:q3pm (regO (qdk f103) 9) false (an [0,1,16]) q11f q11m q11l C v:=rgI (by kernel_rfl)
def q11o (C:q10l) (v:q11k):Dt q118:=(Dt.ret (-1:Int))
theorem q11p C v:q3pm (regO (qdk f103) 10) false [(4,.any)] q11l q11o q119 C v:=rgI (by kernel_rfl)
abbrev q11q:Type:=Bool
def q11r (v:q11q):St:=⟨[(19,.bool v)],[]⟩
def q11s (C:q10l) (v:q11k):Dt q11q:=(Dt.ret (decide (v.1 > v.2.1)))
theorem q11t C v:q3pm (regO (qdk f103) 11) false [(19,.any)] q11l q11s q11r C v:=rgI (by kernel_rfl)
def q11u (C:q10l) (v:q11q):Dt q118:=(Dt.ret (1:Int))
theorem q11v C v:q3pm (regO (qdk f103) 12) false [(4,.any)] q11r q11u q119 C v:=rgI (by kernel_rfl)
def q11w (C:q10l) (v:q11q):Dt q118:=(Dt.ret (0:Int))
theorem q11x C v:q3pm (regO (qdk f103) 13) false [(4,.any)] q11r q11w q119 C v:=rgI (by kernel_rfl)
def q11y (d:Nat) (x:q10h):Option q10i :=
 (q10q (q10m d) (x.1.1,x.2.1.1)).eval fun y0 =>
 (q10u (q10m d) y0).eval fun y1 =>
 (q10y (q10m d) y1).eval fun y2 =>
 (q112 (q10m d) y2).eval fun y3 =>
 bif y3.2.2.2 then ((q116 (q10m d) y3).eval fun y4 =>
 bif y4 then ((q11a (q10m d) y4).eval fun y5 =>
 some y5) else ((q11c (q10m d) y4).eval fun y6 =>
 some y6)) else ((q11g (q10m d) y3).eval fun y7 =>
 bif y7.2.2 then ((q11i (q10m d) y7).eval fun y8 =>
 some y8) else ((q11m (q10m d) y7).eval fun y9 =>
 bif y9.2.2 then ((q11o (q10m d) y9).eval fun y10 =>
 some y10) else ((q11s (q10m d) y9).eval fun y11 =>
 bif y11 then ((q11u (q10m d) y11).eval fun y12 =>
 some y12) else ((q11w (q10m d) y11).eval fun y13 =>
 some y13))))
theorem q11z (d:Nat):COK prog (q10k (q11y d)):=by
 have hm:prog.follows .mixedOrders=true:=mixed
 have hT:=tys
 have hC0:OrcOK prog (orc (q10n (q10m d))):=qde (by
  intro S hS
  simp only [q10n,List.mem_cons,List.not_mem_nil,or_false] at hS
  subst hS;exact q10f d)
 have hC:OrcOK prog (orc (q10n (q10m d))):=hC0
 refine q93 (c:=qdk f103) (fn:=f103) hT (by kernel_rfl) (by kernel_rfl) (by decide) fun x r h w0 φ0 Q hend=>?_
 replace h:q11y d x=some r:=h
 unfold q11y at h
 show Run prog w0 φ0 20 (qdk f103) ⟨[(0,.int .u64 x.1.1),(1,.int .u64 x.2.1.1)],[]⟩ Q
 refine q3pf hm hT hC (q10r (q10m d) (x.1.1,x.2.1.1)) h fun y0 h=>?_
 refine q3pf hm hT hC (q10v (q10m d) y0) h fun y1 h=>?_
 refine q3pf hm hT hC (q10z (q10m d) y1) h fun y2 h=>?_
 refine q8m ?_
 refine q3pf hm hT hC (q113 (q10m d) y2) h fun y3 h=>?_
 refine q8q (v:=y3.2.2.2) (by kernel_rfl) h ?_ ?_
 ·
  intro h
  refine q8m ?_
  refine q3pf hm hT hC (q117 (q10m d) y3) h fun y4 h=>?_
  refine q8q (v:=y4) (by kernel_rfl) h ?_ ?_
  ·
   intro h
   refine q3pf hm hT hC (q11b (q10m d) y4) h fun y5 h=>?_
   refine q8l (q8a (q8a ?_))
   cases h
   exact (hend _ (by kernel_rfl)).2
  ·
   intro h
   refine q8i (q88 ?_)
   refine q3pf hm hT hC (q11d (q10m d) y4) h fun y6 h=>?_
   refine q8l (q8a ?_)
   cases h
   exact (hend _ (by kernel_rfl)).2
 ·
  intro h
  refine q8i (q88 (q8m ?_))
  refine q3pf hm hT hC (q11h (q10m d) y3) h fun y7 h=>?_
  refine q8q (v:=y7.2.2) (by kernel_rfl) h ?_ ?_
  ·
   intro h
   refine q3pf hm hT hC (q11j (q10m d) y7) h fun y8 h=>?_
   refine q8l (q8a ?_)
   cases h
   exact (hend _ (by kernel_rfl)).2
  ·
   intro h
   refine q8i (q88 (q8m ?_))
   refine q3pf hm hT hC (q11n (q10m d) y7) h fun y9 h=>?_
   refine q8q (v:=y9.2.2) (by kernel_rfl) h ?_ ?_
   ·
    intro h
    refine q3pf hm hT hC (q11p (q10m d) y9) h fun y10 h=>?_
    refine q8l (q8a ?_)
    cases h
    exact (hend _ (by kernel_rfl)).2
   ·
    intro h
    refine q8i (q88 (q8m ?_))
    refine q3pf hm hT hC (q11t (q10m d) y9) h fun y11 h=>?_
    refine q8q (v:=y11) (by kernel_rfl) h ?_ ?_
    ·
     intro h
     refine q3pf hm hT hC (q11v (q10m d) y11) h fun y12 h=>?_
     refine q8l (q8a ?_)
     cases h
     exact (hend _ (by kernel_rfl)).2
    ·
     intro h
     refine q8i (q88 ?_)
     refine q3pf hm hT hC (q11x (q10m d) y11) h fun y13 h=>?_
     refine q8l ?_
     cases h
     exact (hend _ (by kernel_rfl)).2
abbrev q120:List Pk:=[.row Rbuu true,.row Rbuu true]
abbrev q121:Type:=Dbuu×Dbuu×Unit
abbrev q122:Type:=Int
def q123 (r:q122):LV×List Ob:=(.int .i64 r,[])
def q124 (F:q121→Option q122):Go.Tx.Spec:=⟨69,q120,q122,F,q123⟩
abbrev q125:Type:=(q10h→Option q10i)×Unit
def q126 (d:Nat):q125:=(q11y d,())
def q127 (C:q125):List Go.Tx.Spec:=[q10k C.1]
abbrev q128:Type:=Bool×Int×Int×Bool×Int×Int
def q129 (v:q128):St:=⟨[(0,.agg [.bool v.1,u6 v.2.1,u6 v.2.2.1]),(1,.agg [.bool v.2.2.2.1,u6 v.2.2.2.2.1,u6 v.2.2.2.2.2])],[]⟩
abbrev q12a:Type:=Bool×Int×Int×Bool×Int×Int
def q12b (v:q12a):St:=⟨[(2,.ptr 0 0),(3,.ptr 1 0)],[.cells [.bool v.1,u6 v.2.1,u6 v.2.2.1],.cells [.bool v.2.2.2.1,u6 v.2.2.2.2.1,u6 v.2.2.2.2.2]]⟩
def q12c (C:q125) (v:q128):Dt q12a:=(Dt.ret (v.1,v.2.1,v.2.2.1,v.2.2.2.1,v.2.2.2.2.1,v.2.2.2.2.2))
abbrev q3pn {V Y:Type}:=@rg q125 V Y tysT (fun C=>(orc (q127 C))) 19
theorem q12d C v:q3pn (regO (qdk f69) 0) false (an [2,3]) q129 q12c q12b C v:=rgI (by kernel_rfl)
abbrev q12e:Type:=Int×Bool×Int×Int×Bool×Int×Int
def q12f (v:q12e):St:=⟨[(2,.ptr 0 0),(3,.ptr 1 0),(5,i6 v.1)],[.cells [.bool v.2.1,u6 v.2.2.1,u6 v.2.2.2.1],.cells [.bool v.2.2.2.2.1,u6 v.2.2.2.2.2.1,u6 v.2.2.2.2.2.2]]⟩
def q12g (C:q125) (v:q12a):Dt q12e:=(Dt.bnd (C.1 ((v.2.1,()),(v.2.2.2.2.1,()),())) fun r1=>(Dt.ret (r1,v.1,v.2.1,v.2.2.1,v.2.2.2.1,v.2.2.2.2.1,v.2.2.2.2.2)))
theorem q12h C v:q3pn (regO (qdk f69) 1) false (an [2,3,5]) q12b q12g q12f C v:=rgI (by kernel_rfl)
abbrev q12i:Type:=Int×Bool×Bool×Int×Int×Bool×Int×Int
def q12j (v:q12i):St:=⟨[(2,.ptr 0 0),(3,.ptr 1 0),(5,i6 v.1),(12,.bool v.2.1)],[.cells [.bool v.2.2.1,u6 v.2.2.2.1,u6 v.2.2.2.2.1],.cells [.bool v.2.2.2.2.2.1,u6 v.2.2.2.2.2.2.1,u6 v.2.2.2.2.2.2.2]]⟩
def q12k (C:q125) (v:q12e):Dt q12i:=(Dt.ret (v.1,(v.1 != (0:Int)),v.2.1,v.2.2.1,v.2.2.2.1,v.2.2.2.2.1,v.2.2.2.2.2.1,v.2.2.2.2.2.2))
theorem q12l C v:q3pn (regO (qdk f69) 2) false (an [2,3,5,12]) q12f q12k q12j C v:=rgI (by kernel_rfl)
abbrev q12m:Type:=Int
def q12n (v:q12m):St:=⟨[(4,i6 v)],[]⟩
def q12o (C:q125) (v:q12i):Dt q12m:=(Dt.ret v.1)
theorem q12p C v:q3pn (regO (qdk f69) 3) false [(4,.any)] q12j q12o q12n C v:=rgI (by kernel_rfl)
def q12q (C:q125) (v:q12i):Dt q12m:=(Dt.bnd (C.1 ((v.2.2.2.2.1,()),(v.2.2.2.2.2.2.2,()),())) fun r1=>(Dt.ret r1))
theorem q12r C v:q3pn (regO (qdk f69) 4) false [(4,.any)] q12j q12q q12n C v:=rgI (by kernel_rfl)
def q12s (d:Nat) (x:q121):Option q122 :=
 (q12c (q126 d) (x.1.1,x.1.2.1,x.1.2.2.1,x.2.1.1,x.2.1.2.1,x.2.1.2.2.1)).eval fun y0 =>
 (q12g (q126 d) y0).eval fun y1 =>
 (q12k (q126 d) y1).eval fun y2 =>
 bif y2.2.1 then ((q12o (q126 d) y2).eval fun y3 =>
 some y3) else ((q12q (q126 d) y2).eval fun y4 =>
 some y4)
theorem q12t (d:Nat):COK prog (q124 (q12s d)):=by
 have hm:prog.follows .mixedOrders=true:=mixed
 have hT:=tys
 have hC0:OrcOK prog (orc (q127 (q126 d))):=qde (by
  intro S hS
  simp only [q127,List.mem_cons,List.not_mem_nil,or_false] at hS
  subst hS;exact q11z d)
 have hC:OrcOK prog (orc (q127 (q126 d))):=hC0
 refine q93 (c:=qdk f69) (fn:=f69) hT (by kernel_rfl) (by kernel_rfl) (by decide) fun x r h w0 φ0 Q hend=>?_
 replace h:q12s d x=some r:=h
 unfold q12s at h
 show Run prog w0 φ0 19 (qdk f69) ⟨[(0,.agg [.bool x.1.1,.int .u64 x.1.2.1,.int .u64 x.1.2.2.1]),(1,.agg [.bool x.2.1.1,.int .u64 x.2.1.2.1,.int .u64 x.2.1.2.2.1])],[]⟩ Q
 refine q3pf hm hT hC (q12d (q126 d) (x.1.1,x.1.2.1,x.1.2.2.1,x.2.1.1,x.2.1.2.1,x.2.1.2.2.1)) h fun y0 h=>?_
 refine q8m ?_
 refine q3pf hm hT hC (q12h (q126 d) y0) h fun y1 h=>?_
 refine q3pf hm hT hC (q12l (q126 d) y1) h fun y2 h=>?_
 refine q8q (v:=y2.2.1) (by kernel_rfl) h ?_ ?_
 ·
  intro h
  refine q3pf hm hT hC (q12p (q126 d) y2) h fun y3 h=>?_
  refine q8l (q8a ?_)
  cases h
  exact (hend _ (by kernel_rfl)).2
 ·
  intro h
  refine q8i (q88 ?_)
  refine q3pf hm hT hC (q12r (q126 d) y2) h fun y4 h=>?_
  refine q8l ?_
  cases h
  exact (hend _ (by kernel_rfl)).2
abbrev q12u:List Pk:=[.row Rii true,.row Rii true]
abbrev q12v:Type:=Dii×Dii×Unit
abbrev q12w:Type:=Int×Int
def q12x (r:q12w):LV×List Ob:=(.tup [.int .i64 r.1,.int .i64 r.2],[])
def q12y (F:q12v→Option q12w):Go.Tx.Spec:=⟨44,q12u,q12w,F,q12x⟩
abbrev q12z:Type:=(qw1→Option qw2)×(qx3→Option qx4)×(q121→Option q122)×(qzb→Option qzc)×Unit
def q130 (d:Nat):q12z:=(qwi d,qyk d,q12s d,qzw d,())
def q131 (C:q12z):List Go.Tx.Spec:=[qw4 C.1,qx6 C.2.1,q124 C.2.2.1,qze C.2.2.2.1]
abbrev q132:Type:=Int×Int×Int×Int
def q133 (v:q132):St:=⟨[(0,.agg [i6 v.1,i6 v.2.1]),(1,.agg [i6 v.2.2.1,i6 v.2.2.2])],[]⟩
abbrev q134:Type:=Int×Int×Int×Int
def q135 (v:q134):St:=⟨[(2,.ptr 0 0),(3,.ptr 1 0)],[.cells [i6 v.1,i6 v.2.1],.cells [i6 v.2.2.1,i6 v.2.2.2]]⟩
def q136 (C:q12z) (v:q132):Dt q134:=(Dt.ret (v.1,v.2.1,v.2.2.1,v.2.2.2))
abbrev q3po {V Y:Type}:=@rg q12z V Y tysT (fun C=>(orc (q131 C))) 43
theorem q137 C v:q3po (regO (qdk f44) 0) false (an [2,3]) q133 q136 q135 C v:=rgI (by kernel_rfl)
abbrev q138:Type:=Int×Int×Int×Int×Int
def q139 (v:q138):St:=⟨[(2,.ptr 0 0),(3,.ptr 1 0),(6,i6 v.1)],[.cells [i6 v.2.1,i6 v.2.2.1],.cells [i6 v.2.2.2.1,i6 v.2.2.2.2]]⟩
def q13a (C:q12z) (v:q134):Dt q138:=(Dt.bnd (C.1 ((v.1,v.2.1,()),(v.2.2.1,v.2.2.2,()),())) fun r1=>(Dt.ret (r1,v.1,v.2.1,v.2.2.1,v.2.2.2)))
theorem q13b C v:q3po (regO (qdk f44) 1) false (an [2,3,6]) q135 q13a q139 C v:=rgI (by kernel_rfl)
abbrev q13c:Type:=Int×Bool×Int×Int×Int×Int
def q13d (v:q13c):St:=⟨[(2,.ptr 0 0),(3,.ptr 1 0),(6,i6 v.1),(12,.bool v.2.1)],[.cells [i6 v.2.2.1,i6 v.2.2.2.1],.cells [i6 v.2.2.2.2.1,i6 v.2.2.2.2.2]]⟩
def q13e (C:q12z) (v:q138):Dt q13c:=(Dt.ret (v.1,(v.1 != (0:Int)),v.2.1,v.2.2.1,v.2.2.2.1,v.2.2.2.2))
theorem q13f C v:q3po (regO (qdk f44) 2) false (an [2,3,6,12]) q139 q13e q13d C v:=rgI (by kernel_rfl)
abbrev q13g:Type:=Int×Int
def q13h (v:q13g):St:=⟨[(4,i6 v.1),(5,i6 v.2)],[]⟩
def q13i (C:q12z) (v:q13c):Dt q13g:=(Dt.ret ((0:Int),v.1))
theorem q13j C v:q3po (regO (qdk f44) 3) false (an [4,5]) q13d q13i q13h C v:=rgI (by kernel_rfl)
abbrev q13k:Type:=Bool×Int×Int×Int×Int
def q13l (v:q13k):St:=⟨[(2,.ptr 0 0),(3,.ptr 1 0),(20,.bool v.1)],[.cells [i6 v.2.1,i6 v.2.2.1],.cells [i6 v.2.2.2.1,i6 v.2.2.2.2]]⟩
def q13m (C:q12z) (v:q13c):Dt q13k:=(Dt.ret ((!((decide (v.2.2.1<(0:Int))) == (decide (v.2.2.2.2.1<(0:Int))))),v.2.2.1,v.2.2.2.1,v.2.2.2.2.1,v.2.2.2.2.2))
theorem q13n C v:q3po (regO (qdk f44) 4) false (an [2,3,20]) q13d q13m q13l C v:=rgI (by kernel_rfl)
def q13o (C:q12z) (v:q13k):Dt q13g:=(Dt.bnd (C.2.1 ((v.2.1,()),(v.2.2.2.1,()),())) fun r1=>(Dt.ret (r1,(0:Int))))
theorem q13p C v:q3po (regO (qdk f44) 5) false (an [4,5]) q13l q13o q13h C v:=rgI (by kernel_rfl)
abbrev q13q:Type:=Int×Int×Int
def q13r (v:q13q):St:=⟨[(2,.ptr 0 0),(7,i6 v.1)],[.cells [i6 v.2.1,i6 v.2.2]]⟩
def q13s (C:q12z) (v:q13k):Dt q13q:=(Dt.bnd (C.2.2.2.1 ((v.2.1,()),(v.2.2.2.2,()),())) fun r1=>(Dt.bnd (C.2.2.2.1 ((v.2.2.2.1,()),(v.2.2.1,()),())) fun r2=>(Dt.bnd (C.2.2.1 ((r1.1,r1.2.1,r1.2.2,()),(r2.1,r2.2.1,r2.2.2,()),())) fun r3=>(Dt.ret (r3,v.2.1,v.2.2.1)))))
theorem q13t C v:q3po (regO (qdk f44) 6) true (an [2,7]) q13l q13s q13r C v:=rgI (by kernel_rfl)
abbrev q13u:Type:=Int×Bool
def q13v (v:q13u):St:=⟨[(7,i6 v.1),(39,.bool v.2)],[]⟩
def q13w (C:q12z) (v:q13q):Dt q13u:=(Dt.ret (v.1,(decide (v.2.1<(0:Int)))))
theorem q13x C v:q3po (regO (qdk f44) 7) false (an [7,39]) q13r q13w q13v C v:=rgI (by kernel_rfl)
abbrev q13y:Type:=Int
def q13z (v:q13y):St:=⟨[(7,i6 v)],[]⟩
def q140 (C:q12z) (v:q13u):Dt q13y:=(Dt.ret (IntKind.wrap .i64 (0 - v.1)))
theorem q141 C v:q3po (regO (qdk f44) 8) false [(7,.any)] q13v q140 q13z C v:=rgI (by kernel_rfl)
def q142 (C:q12z) (v:q13y):Dt q13g:=(Dt.ret (v,(0:Int)))
theorem q143 C v:q3po (regO (qdk f44) 9) false (an [4,5]) q13z q142 q13h C v:=rgI (by kernel_rfl)
def q144  (d:Nat)  (z:Int):Option (q12w) :=
 (q142 (q130 d) z).eval fun y9 =>
 some y9
def q145 (d:Nat) (x:q12v):Option q12w :=
 (q136 (q130 d) (x.1.1,x.1.2.1,x.2.1.1,x.2.1.2.1)).eval fun y0 =>
 (q13a (q130 d) y0).eval fun y1 =>
 (q13e (q130 d) y1).eval fun y2 =>
 bif y2.2.1 then ((q13i (q130 d) y2).eval fun y3 =>
 some y3) else ((q13m (q130 d) y2).eval fun y4 =>
 bif y4.1 then ((q13o (q130 d) y4).eval fun y5 =>
 some y5) else ((q13s (q130 d) y4).eval fun y6 =>
 (q13w (q130 d) y6).eval fun y7 =>
 bif y7.2 then ((q140 (q130 d) y7).eval fun y8 =>
 q144 d  y8) else (q144 d  y7.1)))
theorem q146 (d:Nat):COK prog (q12y (q145 d)):=by
 have hm:prog.follows .mixedOrders=true:=mixed
 have hT:=tys
 have hC0:OrcOK prog (orc (q131 (q130 d))):=qde (by
  intro S hS
  simp only [q131,List.mem_cons,List.not_mem_nil,or_false] at hS
  rcases hS with rfl | rfl | rfl | rfl
  · exact qwj d
  · exact qyl d
  · exact q12t d
  · exact qzx d)
 have hC:OrcOK prog (orc (q131 (q130 d))):=hC0
 refine q93 (c:=qdk f44) (fn:=f44) hT (by kernel_rfl) (by kernel_rfl) (by decide) fun x r h w0 φ0 Q hend=>?_
 replace h:q145 d x=some r:=h
 unfold q145 at h
 show Run prog w0 φ0 43 (qdk f44) ⟨[(0,.agg [.int .i64 x.1.1,.int .i64 x.1.2.1]),(1,.agg [.int .i64 x.2.1.1,.int .i64 x.2.1.2.1])],[]⟩ Q
 refine q3pf hm hT hC (q137 (q130 d) (x.1.1,x.1.2.1,x.2.1.1,x.2.1.2.1)) h fun y0 h=>?_
 refine q8m ?_
 refine q3pf hm hT hC (q13b (q130 d) y0) h fun y1 h=>?_
 refine q3pf hm hT hC (q13f (q130 d) y1) h fun y2 h=>?_
 refine q8q (v:=y2.2.1) (by kernel_rfl) h ?_ ?_
 ·
  intro h
  refine q3pf hm hT hC (q13j (q130 d) y2) h fun y3 h=>?_
  refine q8l (q8a ?_)
  cases h
  exact (hend _ (by kernel_rfl)).2
 ·
  intro h
  refine q8i (q88 (q8m ?_))
  refine q3pf hm hT hC (q13n (q130 d) y2) h fun y4 h=>?_
  refine q8q (v:=y4.1) (by kernel_rfl) h ?_ ?_
  ·
   intro h
   refine q3pf hm hT hC (q13p (q130 d) y4) h fun y5 h=>?_
   refine q8l (q8a ?_)
   cases h
   exact (hend _ (by kernel_rfl)).2
  ·
   intro h
   refine q8i (q88 ?_)
   refine q3pf hm hT hC (q13t (q130 d) y4) h fun y6 h=>?_
   refine q8p (r:=r) (F:=q144 d ) (S:=(fun z=>⟨[(7,i6 z)],[]⟩:Int→St)) ?_ ?_
   ·
    intro z h
    unfold q144 at h
    refine q3pf hm hT hC (q143 (q130 d) z) h fun y9 h=>?_
    refine q8l ?_
    cases h
    exact (hend _ (by kernel_rfl)).2
   intro hj1
   refine q3pf hm hT hC (q13x (q130 d) y6) h fun y7 h=>?_
   refine q8q (v:=y7.2) (by kernel_rfl) h ?_ ?_
   ·
    intro h
    refine q8r hm hT hC (q141 (q130 d) y7) h ?_
    intro y8 h
    exact hj1 _ h
   ·
    intro h
    refine q8i ?_
    refine qdj (s:=⟨[(7,.int .i64 y7.1)],[]⟩) [39] (by kernel_rfl) ?_
    exact hj1 _ h
end Go.Proofs.YtbjpmdhdoggobaaGreat

namespace Go.Tx
open Go
def q147 (x y c:Int):Option (Int×Int):=bif decide (0≤x)&&decide (x<18446744073709551616)&&decide (0≤y)&&decide (y<18446744073709551616)&&decide (0≤c)&&decide (c≤1) then some ((x+y+c) % 18446744073709551616,(x+y+c) / 18446744073709551616) else none
def q148 (x y c:Int):Option (Int×Int):=bif decide (0≤x)&&decide (x<18446744073709551616)&&decide (0≤y)&&decide (y<18446744073709551616)&&decide (0≤c)&&decide (c≤1) then some ((x - y - c) % 18446744073709551616,bif decide (x<y+c) then 1 else 0) else none
def orcI (f:FuncId) (G:Int→Int→Int→Option (Int×Int)) (C:Orc):Orc:=fun h args H =>
  bif Nat.beq h f then (match args with
    | [.int .u64 x,.int .u64 y,.int .u64 c]=>some ⟨Int×Int,G x y c,fun r=>(.tup [.int .u64 r.1,.int .u64 r.2],H)⟩
    | _=>none) else C h args H
theorem q149 {P:Program} {f:FuncId} {G:Int→Int→Int→Option (Int×Int)} (hG:∀ x y c r,G x y c=some r→∀ w,(callFunc f #[.int .u64 x,.int .u64 y,.int .u64 c]).run P w=.ok (.value (.tuple #[.int .u64 r.1,.int .u64 r.2])) w) {C:Orc} (hC:OrcOK P C):OrcOK P (orcI f G C):=by
  refine ⟨fun h args H p x hp hx=>?_⟩
  unfold orcI at hp
  rw [Bool.cond_eq_ite] at hp
  split at hp
  · rename_i he
    have he:=Nat.eq_of_beq_eq_true he
    subst he
    split at hp
    · rename_i x0 y0 c0
      injection hp with hp;subst hp
      refine .inr ⟨rfl,fun η w vs hv=>?_⟩
      obtain ⟨v0,vs',rfl,q0,hv⟩:=hv.uncons
      obtain ⟨v1,v2,rfl,q1,q2⟩:=vrs2 hv
      cases q0;cases q1;cases q2
      exact ⟨_,hG x0 y0 c0 x hx w,.tup rfl (VRs.cons (.int _ _) (VRs.cons (.int _ _) VRs.nil)).2⟩
    · cases hp
  · exact hC.call h args H p x hp hx
theorem q14a {x y c:Int} {r:Int×Int} (h:q147 x y c=some r):∃ a b d:Nat,x=a∧y=b∧c=d∧a<18446744073709551616∧b<18446744073709551616∧d≤1∧r=((((a+b+d) % 18446744073709551616:Nat):Int),(((a+b+d) / 18446744073709551616:Nat):Int)):=by
  unfold q147 at h
  rw [Bool.cond_eq_ite] at h
  split at h
  · rename_i hc
    simp only [Bool.and_eq_true,decide_eq_true_eq] at hc
    injection h with h
    refine ⟨x.toNat,y.toNat,c.toNat,by omega,by omega,by omega,by omega,by omega,by omega,?_⟩
    rw [← h]
    refine Prod.ext ?_ ?_<;>simp only<;>omega
  · cases h
theorem q14b {x y c:Int} {r:Int×Int} (h:q148 x y c=some r):∃ a b d:Nat,x=a∧y=b∧c=d∧a<18446744073709551616∧b<18446744073709551616∧d≤1∧r=((((a+18446744073709551616 - b - d) % 18446744073709551616:Nat):Int),((if a<b+d then 1 else 0:Nat):Int)):=by
  unfold q148 at h
  rw [Bool.cond_eq_ite] at h
  split at h
  · rename_i hc
    simp only [Bool.and_eq_true,decide_eq_true_eq] at hc
    injection h with h
    refine ⟨x.toNat,y.toNat,c.toNat,by omega,by omega,by omega,by omega,by omega,by omega,?_⟩
    rw [← h]
    refine Prod.ext ?_ ?_
    · simp only;omega
    · simp only [Bool.cond_eq_ite, decide_eq_true_eq]
      split<;>split<;>first | rfl | omega
  · cases h
end Go.Tx

namespace Go.Proofs.YtbjpmdhdoggobaaGreat
open Go Go.Tx Go.Proofs.Tryz
theorem q14c:∀ x y c r,q147 x y c=some r→∀ w,(callFunc 113 #[.int .u64 x,.int .u64 y,.int .u64 c]).run Tryz.prog w=.ok (.value (.tuple #[.int .u64 r.1,.int .u64 r.2])) w:=by
  intro x y c r h w
  obtain ⟨a,b,d,rfl,rfl,rfl,ha,hb,hd,rfl⟩:=q14a h
  rw [run_callFunc_extern Tryz.func113 (by kernel_rfl) (by kernel_rfl) (by kernel_rfl) (e:=add64Entry) (by kernel_rfl),run_add64 a b d (by omega) (by omega) (by omega) (by omega)]
  simp only [Result.andThen]
  congr 5<;>omega
theorem q14d:∀ x y c r,q148 x y c=some r→∀ w,(callFunc 87 #[.int .u64 x,.int .u64 y,.int .u64 c]).run Tryz.prog w=.ok (.value (.tuple #[.int .u64 r.1,.int .u64 r.2])) w:=by
  intro x y c r h w
  obtain ⟨a,b,d,rfl,rfl,rfl,ha,hb,hd,rfl⟩:=q14b h
  rw [run_callFunc_extern Tryz.func87 (by kernel_rfl) (by kernel_rfl) (by kernel_rfl) (e:=sub64Entry) (by kernel_rfl),run_sub64 a b d hd]
  rfl
end Go.Proofs.YtbjpmdhdoggobaaGreat

namespace Go.Proofs.YtbjpmdhdoggobaaGreat
open Go Go.Tx Go.Proofs.Tryz
set_option maxRecDepth 100000
set_option maxHeartbeats 0
abbrev q14e:List Pk:=[.row Ru false]
abbrev q14f:Type:=Du×Unit
abbrev q14g:Type:=Int
def q14h (r:q14g):LV×List Ob:=(.int .i64 r,[])
def q14i (F:q14f→Option q14g):Go.Tx.Spec:=⟨101,q14e,q14g,F,q14h⟩
abbrev q14j:Type:=Unit
def q14k (_d:Nat):q14j:=()
def q14l (C:q14j):List Go.Tx.Spec:=[]
abbrev q14m:Type:=Int
def q14n (v:q14m):St:=⟨[(0,u6 v)],[]⟩
abbrev q14o:Type:=Int×Int
def q14p (v:q14o):St:=⟨[(0,u6 v.1),(2,i6 v.2)],[]⟩
def q14q (C:q14j) (v:q14m):Dt q14o:=(Dt.ret (v,(0:Int)))
abbrev q3pp {V Y:Type}:=@rg q14j V Y tysT (fun C=>(orc (q14l C))) 25
theorem q14r C v:q3pp (regO (qdk f101) 0) false (an [0,2]) q14n q14q q14p C v:=rgI (by kernel_rfl)
abbrev q14s:Type:=Int×Int×Bool
def q14t (v:q14s):St:=⟨[(0,u6 v.1),(2,i6 v.2.1),(4,.bool v.2.2)],[]⟩
def q14u (C:q14j) (v:q14o):Dt q14s:=(Dt.ret (v.1,v.2,(decide (v.1≥(4294967296:Int)))))
theorem q14v C v:q3pp (regO (qdk f101) 1) false (an [0,2,4]) q14p q14u q14t C v:=rgI (by kernel_rfl)
def q14w (C:q14j) (v:q14s):Dt q14m:=(Dt.ret (shrI .u64 v.1 (32:Int)))
theorem q14x C v:q3pp (regO (qdk f101) 2) false [(0,.any)] q14t q14w q14n C v:=rgI (by kernel_rfl)
def q14y (C:q14j) (v:q14m):Dt q14o:=(Dt.ret (v,(32:Int)))
theorem q14z C v:q3pp (regO (qdk f101) 3) false (an [0,2]) q14n q14y q14p C v:=rgI (by kernel_rfl)
abbrev q150:Type:=Int×Int×Bool
def q151 (v:q150):St:=⟨[(0,u6 v.1),(2,i6 v.2.1),(8,.bool v.2.2)],[]⟩
def q152 (C:q14j) (v:q14o):Dt q150:=(Dt.ret (v.1,v.2,(decide (v.1≥(65536:Int)))))
theorem q153 C v:q3pp (regO (qdk f101) 4) false (an [0,2,8]) q14p q152 q151 C v:=rgI (by kernel_rfl)
def q154 (C:q14j) (v:q150):Dt q14o:=(Dt.ret ((shrI .u64 v.1 (16:Int)),v.2.1))
theorem q155 C v:q3pp (regO (qdk f101) 5) false (an [0,2]) q151 q154 q14p C v:=rgI (by kernel_rfl)
def q156 (C:q14j) (v:q14o):Dt q14o:=(Dt.ret (v.1,(IntKind.wrap .i64 (v.2+(16:Int)))))
theorem q157 C v:q3pp (regO (qdk f101) 6) false (an [0,2]) q14p q156 q14p C v:=rgI (by kernel_rfl)
abbrev q158:Type:=Int×Int×Bool
def q159 (v:q158):St:=⟨[(0,u6 v.1),(2,i6 v.2.1),(14,.bool v.2.2)],[]⟩
def q15a (C:q14j) (v:q14o):Dt q158:=(Dt.ret (v.1,v.2,(decide (v.1≥(256:Int)))))
theorem q15b C v:q3pp (regO (qdk f101) 7) false (an [0,2,14]) q14p q15a q159 C v:=rgI (by kernel_rfl)
def q15c (C:q14j) (v:q158):Dt q14o:=(Dt.ret ((shrI .u64 v.1 (8:Int)),v.2.1))
theorem q15d C v:q3pp (regO (qdk f101) 8) false (an [0,2]) q159 q15c q14p C v:=rgI (by kernel_rfl)
def q15e (C:q14j) (v:q14o):Dt q14o:=(Dt.ret (v.1,(IntKind.wrap .i64 (v.2+(8:Int)))))
theorem q15f C v:q3pp (regO (qdk f101) 9) false (an [0,2]) q14p q15e q14p C v:=rgI (by kernel_rfl)
abbrev q15g:Type:=Int
def q15h (v:q15g):St:=⟨[(2,i6 v)],[]⟩
def q15i (C:q14j) (v:q14o):Dt q15g:=(Dt.ite (strB (⟨#[0,1,2,2,3,3,3,3,4,4,4,4,4,4,4,4,5,5,5,5,5,5,5,5,5,5,5,5,5,5,5,5,6,6,6,6,6,6,6,6,6,6,6,6,6,6,6,6,6,6,6,6,6,6,6,6,6,6,6,6,6,6,6,6,7,7,7,7,7,7,7,7,7,7,7,7,7,7,7,7,7,7,7,7,7,7,7,7,7,7,7,7,7,7,7,7,7,7,7,7,7,7,7,7,7,7,7,7,7,7,7,7,7,7,7,7,7,7,7,7,7,7,7,7,7,7,7,7,8,8,8,8,8,8,8,8,8,8,8,8,8,8,8,8,8,8,8,8,8,8,8,8,8,8,8,8,8,8,8,8,8,8,8,8,8,8,8,8,8,8,8,8,8,8,8,8,8,8,8,8,8,8,8,8,8,8,8,8,8,8,8,8,8,8,8,8,8,8,8,8,8,8,8,8,8,8,8,8,8,8,8,8,8,8,8,8,8,8,8,8,8,8,8,8,8,8,8,8,8,8,8,8,8,8,8,8,8,8,8,8,8,8,8,8,8,8,8,8,8,8,8,8,8,8,8,8]⟩:ByteArray) ((IntKind.wrap .u8 v.1))) (Dt.ret (IntKind.wrap .i64 (v.2+(IntKind.wrap .i64 (q3k (⟨#[0,1,2,2,3,3,3,3,4,4,4,4,4,4,4,4,5,5,5,5,5,5,5,5,5,5,5,5,5,5,5,5,6,6,6,6,6,6,6,6,6,6,6,6,6,6,6,6,6,6,6,6,6,6,6,6,6,6,6,6,6,6,6,6,7,7,7,7,7,7,7,7,7,7,7,7,7,7,7,7,7,7,7,7,7,7,7,7,7,7,7,7,7,7,7,7,7,7,7,7,7,7,7,7,7,7,7,7,7,7,7,7,7,7,7,7,7,7,7,7,7,7,7,7,7,7,7,7,8,8,8,8,8,8,8,8,8,8,8,8,8,8,8,8,8,8,8,8,8,8,8,8,8,8,8,8,8,8,8,8,8,8,8,8,8,8,8,8,8,8,8,8,8,8,8,8,8,8,8,8,8,8,8,8,8,8,8,8,8,8,8,8,8,8,8,8,8,8,8,8,8,8,8,8,8,8,8,8,8,8,8,8,8,8,8,8,8,8,8,8,8,8,8,8,8,8,8,8,8,8,8,8,8,8,8,8,8,8,8,8,8,8,8,8,8,8,8,8,8,8,8,8,8,8,8,8]⟩:ByteArray) ((IntKind.wrap .u8 v.1))))))) Dt.fail)
theorem q15j C v:q3pp (regO (qdk f101) 10) false [(2,.any)] q14p q15i q15h C v:=rgI (by kernel_rfl)
def q15k  (d:Nat)  (z:Int×Int):Option (q14g) :=
 (q15i (q14k d) z).eval fun y10 =>
 some y10
def q15l  (d:Nat)  (z:Int×Int):Option (q14g) :=
 (q15a (q14k d) z).eval fun y7 =>
 bif y7.2.2 then ((q15c (q14k d) y7).eval fun y8 =>
 (q15e (q14k d) y8).eval fun y9 =>
 q15k d  y9) else (q15k d  (y7.1,y7.2.1))
def q15m  (d:Nat)  (z:Int×Int):Option (q14g) :=
 (q152 (q14k d) z).eval fun y4 =>
 bif y4.2.2 then ((q154 (q14k d) y4).eval fun y5 =>
 (q156 (q14k d) y5).eval fun y6 =>
 q15l d  y6) else (q15l d  (y4.1,y4.2.1))
def q15n (d:Nat) (x:q14f):Option q14g :=
 (q14q (q14k d) x.1.1).eval fun y0 =>
 (q14u (q14k d) y0).eval fun y1 =>
 bif y1.2.2 then ((q14w (q14k d) y1).eval fun y2 =>
 (q14y (q14k d) y2).eval fun y3 =>
 q15m d  y3) else (q15m d  (y1.1,y1.2.1))
theorem q15o (d:Nat):COK prog (q14i (q15n d)):=by
 have hm:prog.follows .mixedOrders=true:=mixed
 have hT:=tys
 have hC0:OrcOK prog (orc (q14l (q14k d))):=qde (by
  intro S hS
  simp only [q14l,List.mem_cons,List.not_mem_nil,or_false] at hS
  all_goals first | cases hS | exact hS.elim)
 have hC:OrcOK prog (orc (q14l (q14k d))):=hC0
 refine q93 (c:=qdk f101) (fn:=f101) hT (by kernel_rfl) (by kernel_rfl) (by decide) fun x r h w0 φ0 Q hend=>?_
 replace h:q15n d x=some r:=h
 unfold q15n at h
 show Run prog w0 φ0 25 (qdk f101) ⟨[(0,.int .u64 x.1.1)],[]⟩ Q
 refine q3pf hm hT hC (q14r (q14k d) x.1.1) h fun y0 h=>?_
 refine q8p (r:=r) (F:=q15m d ) (S:=(fun z=>⟨[(0,u6 z.1),(2,i6 z.2)],[]⟩:Int×Int→St)) ?_ ?_
 ·
  intro z h
  unfold q15m at h
  refine q8p (r:=r) (F:=q15l d ) (S:=(fun z=>⟨[(0,u6 z.1),(2,i6 z.2)],[]⟩:Int×Int→St)) ?_ ?_
  ·
   intro z h
   unfold q15l at h
   refine q8p (r:=r) (F:=q15k d ) (S:=(fun z=>⟨[(0,u6 z.1),(2,i6 z.2)],[]⟩:Int×Int→St)) ?_ ?_
   ·
    intro z h
    unfold q15k at h
    refine q3pf hm hT hC (q15j (q14k d) z) h fun y10 h=>?_
    refine q8l ?_
    cases h
    exact (hend _ (by kernel_rfl)).2
   intro hj3
   refine q3pf hm hT hC (q15b (q14k d) z) h fun y7 h=>?_
   refine q8q (v:=y7.2.2) (by kernel_rfl) h ?_ ?_
   ·
    intro h
    refine q3pf hm hT hC (q15d (q14k d) y7) h fun y8 h=>?_
    refine q8r hm hT hC (q15f (q14k d) y8) h ?_
    intro y9 h
    exact hj3 _ h
   ·
    intro h
    refine q8i ?_
    refine qdj (s:=⟨[(0,.int .u64 y7.1),(2,.int .i64 y7.2.1)],[]⟩) [14] (by kernel_rfl) ?_
    exact hj3 _ h
  intro hj2
  refine q3pf hm hT hC (q153 (q14k d) z) h fun y4 h=>?_
  refine q8q (v:=y4.2.2) (by kernel_rfl) h ?_ ?_
  ·
   intro h
   refine q3pf hm hT hC (q155 (q14k d) y4) h fun y5 h=>?_
   refine q8r hm hT hC (q157 (q14k d) y5) h ?_
   intro y6 h
   exact hj2 _ h
  ·
   intro h
   refine q8i ?_
   refine qdj (s:=⟨[(0,.int .u64 y4.1),(2,.int .i64 y4.2.1)],[]⟩) [8] (by kernel_rfl) ?_
   exact hj2 _ h
 intro hj1
 refine q3pf hm hT hC (q14v (q14k d) y0) h fun y1 h=>?_
 refine q8q (v:=y1.2.2) (by kernel_rfl) h ?_ ?_
 ·
  intro h
  refine q3pf hm hT hC (q14x (q14k d) y1) h fun y2 h=>?_
  refine q8r hm hT hC (q14z (q14k d) y2) h ?_
  intro y3 h
  exact hj1 _ h
 ·
  intro h
  refine q8i ?_
  refine qdj (s:=⟨[(0,.int .u64 y1.1),(2,.int .i64 y1.2.1)],[]⟩) [4] (by kernel_rfl) ?_
  exact hj1 _ h
abbrev q15p:List Pk:=[.row Ru false]
abbrev q15q:Type:=Du×Unit
abbrev q15r:Type:=Int
def q15s (r:q15r):LV×List Ob:=(.int .i64 r,[])
def q15t (F:q15q→Option q15r):Go.Tx.Spec:=⟨114,q15p,q15r,F,q15s⟩
abbrev q15u:Type:=(q14f→Option q14g)×Unit
def q15v (d:Nat):q15u:=(q15n d,())
def q15w (C:q15u):List Go.Tx.Spec:=[q14i C.1]
abbrev q15x:Type:=Int
def q15y (v:q15x):St:=⟨[(0,u6 v)],[]⟩
def q15z (C:q15u) (v:q15x):Dt q15x:=(Dt.ret v)
abbrev q3pq {V Y:Type}:=@rg q15u V Y tysT (fun C=>(orc (q15w C))) 6
theorem q160 C v:q3pq (regO (qdk f114) 0) false [(0,.any)] q15y q15z q15y C v:=rgI (by kernel_rfl)
abbrev q161:Type:=Int
def q162 (v:q161):St:=⟨[(2,i6 v)],[]⟩
def q163 (C:q15u) (v:q15x):Dt q161:=(Dt.bnd (C.1 ((v,()),())) fun r1=>(Dt.ret (IntKind.wrap .i64 ((64:Int) - r1))))
theorem q164 C v:q3pq (regO (qdk f114) 1) false [(2,.any)] q15y q163 q162 C v:=rgI (by kernel_rfl)
def q165 (d:Nat) (x:q15q):Option q15r :=
 (q15z (q15v d) x.1.1).eval fun y0 =>
 (q163 (q15v d) y0).eval fun y1 =>
 some y1
theorem q166 (d:Nat):COK prog (q15t (q165 d)):=by
 have hm:prog.follows .mixedOrders=true:=mixed
 have hT:=tys
 have hC0:OrcOK prog (orc (q15w (q15v d))):=qde (by
  intro S hS
  simp only [q15w,List.mem_cons,List.not_mem_nil,or_false] at hS
  subst hS;exact q15o d)
 have hC:OrcOK prog (orc (q15w (q15v d))):=hC0
 refine q93 (c:=qdk f114) (fn:=f114) hT (by kernel_rfl) (by kernel_rfl) (by decide) fun x r h w0 φ0 Q hend=>?_
 replace h:q165 d x=some r:=h
 unfold q165 at h
 show Run prog w0 φ0 6 (qdk f114) ⟨[(0,.int .u64 x.1.1)],[]⟩ Q
 refine q3pf hm hT hC (q160 (q15v d) x.1.1) h fun y0 h=>?_
 refine q3pf hm hT hC (q164 (q15v d) y0) h fun y1 h=>?_
 refine q8l ?_
 cases h
 exact (hend _ (by kernel_rfl)).2
abbrev q167:List Pk:=[.row Ru false,.row Ru false,.row Ru false]
abbrev q168:Type:=Du×Du×Du×Unit
abbrev q169:Type:=Int×Int
def q16a (r:q169):LV×List Ob:=(.tup [.int .u64 r.1,.int .u64 r.2],[])
def q16b (F:q168→Option q169):Go.Tx.Spec:=⟨89,q167,q169,F,q16a⟩
abbrev q16c:Type:=(q15q→Option q15r)×Unit
def q16d (d:Nat):q16c:=(q165 d,())
def q16e (C:q16c):List Go.Tx.Spec:=[q15t C.1]
abbrev q16f:Type:=Int×Int×Int
def q16g (v:q16f):St:=⟨[(0,u6 v.1),(1,u6 v.2.1),(2,u6 v.2.2)],[]⟩
def q16h (C:q16c) (v:q16f):Dt q16f:=(Dt.ret (v.1,v.2.1,v.2.2))
abbrev q3pr {V Y:Type}:=@rg q16c V Y tysT (fun C=>(orc (q16e C))) 135
theorem q16i C v:q3pr (regO (qdk f89) 0) false (an [0,1,2]) q16g q16h q16g C v:=rgI (by kernel_rfl)
abbrev q16j:Type:=Int×Int×Int×Bool
def q16k (v:q16j):St:=⟨[(0,u6 v.1),(1,u6 v.2.1),(2,u6 v.2.2.1),(20,.bool v.2.2.2)],[]⟩
def q16l (C:q16c) (v:q16f):Dt q16j:=(Dt.ret (v.1,v.2.1,v.2.2,(v.2.2 == (0:Int))))
theorem q16m C v:q3pr (regO (qdk f89) 1) false (an [0,1,2,20]) q16g q16l q16k C v:=rgI (by kernel_rfl)
abbrev q16n:Type:=Int×Int×Int×Bool
def q16o (v:q16n):St:=⟨[(0,u6 v.1),(1,u6 v.2.1),(2,u6 v.2.2.1),(24,.bool v.2.2.2)],[]⟩
def q16p (C:q16c) (v:q16j):Dt q16n:=(Dt.ret (v.1,v.2.1,v.2.2.1,(decide (v.2.2.1≤v.1))))
theorem q16q C v:q3pr (regO (qdk f89) 3) false (an [0,1,2,24]) q16k q16p q16o C v:=rgI (by kernel_rfl)
abbrev q16r:Type:=Int×Int×Int×Bool
def q16s (v:q16r):St:=⟨[(0,u6 v.1),(1,u6 v.2.1),(2,u6 v.2.2.1),(27,.bool v.2.2.2)],[]⟩
def q16t (C:q16c) (v:q16n):Dt q16r:=(Dt.ret (v.1,v.2.1,v.2.2.1,(v.1 == (0:Int))))
theorem q16u C v:q3pr (regO (qdk f89) 5) false (an [0,1,2,27]) q16o q16t q16s C v:=rgI (by kernel_rfl)
abbrev q16v:Type:=Int×Int
def q16w (v:q16v):St:=⟨[(6,u6 v.1),(7,u6 v.2)],[]⟩
def q16x (C:q16c) (v:q16r):Dt q16v:=(Dt.ite (v.2.2.1 == (0:Int)) Dt.fail (Dt.ite (v.2.2.1 == (0:Int)) Dt.fail (Dt.ret ((IntKind.wrap .u64 (Int.tdiv v.2.1 v.2.2.1)),(Int.tmod v.2.1 v.2.2.1)))))
theorem q16y C v:q3pr (regO (qdk f89) 6) true (an [6,7]) q16s q16x q16w C v:=rgI (by kernel_rfl)
abbrev q16z:Type:=Int×Int×Int×Int
def q170 (v:q16z):St:=⟨[(0,u6 v.1),(1,u6 v.2.1),(2,u6 v.2.2.1),(8,u6 v.2.2.2)],[]⟩
def q171 (C:q16c) (v:q16r):Dt q16z:=(Dt.bnd (C.1 ((v.2.2.1,()),())) fun r1=>(Dt.ret (v.1,v.2.1,v.2.2.1,(IntKind.wrap .u64 r1))))
theorem q172 C v:q3pr (regO (qdk f89) 7) false (an [0,1,2,8]) q16s q171 q170 C v:=rgI (by kernel_rfl)
def q173 (C:q16c) (v:q16z):Dt q16z:=(Dt.ite (decide (v.2.2.2<0)) Dt.fail (Dt.ret (v.1,v.2.1,(shlI .u64 v.2.2.1 v.2.2.2),v.2.2.2)))
theorem q174 C v:q3pr (regO (qdk f89) 8) false (an [0,1,2,8]) q170 q173 q170 C v:=rgI (by kernel_rfl)
abbrev q175:Type:=Int×Int×Int×Int×Int
def q176 (v:q175):St:=⟨[(0,u6 v.1),(1,u6 v.2.1),(2,u6 v.2.2.1),(8,u6 v.2.2.2.1),(9,u6 v.2.2.2.2)],[]⟩
def q177 (C:q16c) (v:q16z):Dt q175:=(Dt.ret (v.1,v.2.1,v.2.2.1,v.2.2.2,(shrI .u64 v.2.2.1 (32:Int))))
theorem q178 C v:q3pr (regO (qdk f89) 9) false (an [0,1,2,8,9]) q170 q177 q176 C v:=rgI (by kernel_rfl)
abbrev q179:Type:=Int×Int×Int×Int×Int×Int
def q17a (v:q179):St:=⟨[(0,u6 v.1),(1,u6 v.2.1),(2,u6 v.2.2.1),(8,u6 v.2.2.2.1),(9,u6 v.2.2.2.2.1),(10,u6 v.2.2.2.2.2)],[]⟩
def q17b (C:q16c) (v:q175):Dt q179:=(Dt.ret (v.1,v.2.1,v.2.2.1,v.2.2.2.1,v.2.2.2.2,(andI .u64 v.2.2.1 (4294967295:Int))))
theorem q17c C v:q3pr (regO (qdk f89) 10) false (an [0,1,2,8,9,10]) q176 q17b q17a C v:=rgI (by kernel_rfl)
abbrev q17d:Type:=Int×Int×Int×Int×Int×Int
def q17e (v:q17d):St:=⟨[(1,u6 v.1),(2,u6 v.2.1),(8,u6 v.2.2.1),(9,u6 v.2.2.2.1),(10,u6 v.2.2.2.2.1),(11,u6 v.2.2.2.2.2)],[]⟩
def q17f (C:q16c) (v:q179):Dt q17d:=(Dt.ite (decide (v.2.2.2.1<0)) Dt.fail (Dt.ite (decide ((IntKind.wrap .u64 ((64:Int) - v.2.2.2.1))<0)) Dt.fail (Dt.ret (v.2.1,v.2.2.1,v.2.2.2.1,v.2.2.2.2.1,v.2.2.2.2.2,(orI .u64 (shlI .u64 v.1 v.2.2.2.1) (shrI .u64 v.2.1 (IntKind.wrap .u64 ((64:Int) - v.2.2.2.1))))))))
theorem q17g C v:q3pr (regO (qdk f89) 11) false (an [1,2,8,9,10,11]) q17a q17f q17e C v:=rgI (by kernel_rfl)
abbrev q17h:Type:=Int×Int×Int×Int×Int×Int
def q17i (v:q17h):St:=⟨[(2,u6 v.1),(8,u6 v.2.1),(9,u6 v.2.2.1),(10,u6 v.2.2.2.1),(11,u6 v.2.2.2.2.1),(12,u6 v.2.2.2.2.2)],[]⟩
def q17j (C:q16c) (v:q17d):Dt q17h:=(Dt.ite (decide (v.2.2.1<0)) Dt.fail (Dt.ret (v.2.1,v.2.2.1,v.2.2.2.1,v.2.2.2.2.1,v.2.2.2.2.2,(shlI .u64 v.1 v.2.2.1))))
theorem q17k C v:q3pr (regO (qdk f89) 12) false (an [2,8,9,10,11,12]) q17e q17j q17i C v:=rgI (by kernel_rfl)
abbrev q17l:Type:=Int×Int×Int×Int×Int×Int×Int
def q17m (v:q17l):St:=⟨[(2,u6 v.1),(8,u6 v.2.1),(9,u6 v.2.2.1),(10,u6 v.2.2.2.1),(11,u6 v.2.2.2.2.1),(12,u6 v.2.2.2.2.2.1),(13,u6 v.2.2.2.2.2.2)],[]⟩
def q17n (C:q16c) (v:q17h):Dt q17l:=(Dt.ret (v.1,v.2.1,v.2.2.1,v.2.2.2.1,v.2.2.2.2.1,v.2.2.2.2.2,(shrI .u64 v.2.2.2.2.2 (32:Int))))
theorem q17o C v:q3pr (regO (qdk f89) 13) false (an [2,8,9,10,11,12,13]) q17i q17n q17m C v:=rgI (by kernel_rfl)
abbrev q17p:Type:=Int×Int×Int×Int×Int×Int×Int
def q17q (v:q17p):St:=⟨[(2,u6 v.1),(8,u6 v.2.1),(9,u6 v.2.2.1),(10,u6 v.2.2.2.1),(11,u6 v.2.2.2.2.1),(13,u6 v.2.2.2.2.2.1),(14,u6 v.2.2.2.2.2.2)],[]⟩
def q17r (C:q16c) (v:q17l):Dt q17p:=(Dt.ret (v.1,v.2.1,v.2.2.1,v.2.2.2.1,v.2.2.2.2.1,v.2.2.2.2.2.2,(andI .u64 v.2.2.2.2.2.1 (4294967295:Int))))
theorem q17s C v:q3pr (regO (qdk f89) 14) false (an [2,8,9,10,11,13,14]) q17m q17r q17q C v:=rgI (by kernel_rfl)
abbrev q17t:Type:=Int×Int×Int×Int×Int×Int×Int×Int
def q17u (v:q17t):St:=⟨[(2,u6 v.1),(8,u6 v.2.1),(9,u6 v.2.2.1),(10,u6 v.2.2.2.1),(11,u6 v.2.2.2.2.1),(13,u6 v.2.2.2.2.2.1),(14,u6 v.2.2.2.2.2.2.1),(15,u6 v.2.2.2.2.2.2.2)],[]⟩
def q17v (C:q16c) (v:q17p):Dt q17t:=(Dt.ite (v.2.2.1 == (0:Int)) Dt.fail (Dt.ret (v.1,v.2.1,v.2.2.1,v.2.2.2.1,v.2.2.2.2.1,v.2.2.2.2.2.1,v.2.2.2.2.2.2,(IntKind.wrap .u64 (Int.tdiv v.2.2.2.2.1 v.2.2.1)))))
theorem q17w C v:q3pr (regO (qdk f89) 15) false (an [2,8,9,10,11,13,14,15]) q17q q17v q17u C v:=rgI (by kernel_rfl)
abbrev q17x:Type:=Int×Int×Int×Int×Int×Int×Int×Int×Int
def q17y (v:q17x):St:=⟨[(2,u6 v.1),(8,u6 v.2.1),(9,u6 v.2.2.1),(10,u6 v.2.2.2.1),(11,u6 v.2.2.2.2.1),(13,u6 v.2.2.2.2.2.1),(14,u6 v.2.2.2.2.2.2.1),(15,u6 v.2.2.2.2.2.2.2.1),(16,u6 v.2.2.2.2.2.2.2.2)],[]⟩
def q17z (C:q16c) (v:q17t):Dt q17x:=(Dt.ret (v.1,v.2.1,v.2.2.1,v.2.2.2.1,v.2.2.2.2.1,v.2.2.2.2.2.1,v.2.2.2.2.2.2.1,v.2.2.2.2.2.2.2,(IntKind.wrap .u64 (v.2.2.2.2.1 - (IntKind.wrap .u64 (v.2.2.2.2.2.2.2*v.2.2.1))))))
theorem q180 C v:q3pr (regO (qdk f89) 16) false (an [2,8,9,10,11,13,14,15,16]) q17u q17z q17y C v:=rgI (by kernel_rfl)
abbrev q181:Type:=Int×Int×Int×Int×Int×Int×Int×Int×Int×Bool
def q182 (v:q181):St:=⟨[(2,u6 v.1),(8,u6 v.2.1),(9,u6 v.2.2.1),(10,u6 v.2.2.2.1),(11,u6 v.2.2.2.2.1),(13,u6 v.2.2.2.2.2.1),(14,u6 v.2.2.2.2.2.2.1),(15,u6 v.2.2.2.2.2.2.2.1),(16,u6 v.2.2.2.2.2.2.2.2.1),(78,.bool v.2.2.2.2.2.2.2.2.2)],[]⟩
def q183 (C:q16c) (v:q17x):Dt q181:=(Dt.ite (decide (v.2.2.2.2.2.2.2.1≥(4294967296:Int))) (Dt.ret (v.1,v.2.1,v.2.2.1,v.2.2.2.1,v.2.2.2.2.1,v.2.2.2.2.2.1,v.2.2.2.2.2.2.1,v.2.2.2.2.2.2.2.1,v.2.2.2.2.2.2.2.2,true)) (Dt.ret (v.1,v.2.1,v.2.2.1,v.2.2.2.1,v.2.2.2.2.1,v.2.2.2.2.2.1,v.2.2.2.2.2.2.1,v.2.2.2.2.2.2.2.1,v.2.2.2.2.2.2.2.2,(decide ((IntKind.wrap .u64 (v.2.2.2.2.2.2.2.1*v.2.2.2.1)) > (IntKind.wrap .u64 ((IntKind.wrap .u64 ((4294967296:Int)*v.2.2.2.2.2.2.2.2))+v.2.2.2.2.2.1)))))))
theorem q184 C v:q3pr (regO (qdk f89) 17) false (an [2,8,9,10,11,13,14,15,16,78]) q17y q183 q182 C v:=rgI (by kernel_rfl)
def q185 (C:q16c) (v:q181):Dt q17x:=(Dt.ret (v.1,v.2.1,v.2.2.1,v.2.2.2.1,v.2.2.2.2.1,v.2.2.2.2.2.1,v.2.2.2.2.2.2.1,(IntKind.wrap .u64 (v.2.2.2.2.2.2.2.1 - (1:Int))),v.2.2.2.2.2.2.2.2.1))
theorem q186 C v:q3pr (regO (qdk f89) 18) false (an [2,8,9,10,11,13,14,15,16]) q182 q185 q17y C v:=rgI (by kernel_rfl)
def q187 (C:q16c) (v:q17x):Dt q17x:=(Dt.ret (v.1,v.2.1,v.2.2.1,v.2.2.2.1,v.2.2.2.2.1,v.2.2.2.2.2.1,v.2.2.2.2.2.2.1,v.2.2.2.2.2.2.2.1,(IntKind.wrap .u64 (v.2.2.2.2.2.2.2.2+v.2.2.1))))
theorem q188 C v:q3pr (regO (qdk f89) 19) false (an [2,8,9,10,11,13,14,15,16]) q17y q187 q17y C v:=rgI (by kernel_rfl)
abbrev q189:Type:=Int×Int×Int×Int×Int×Int×Int×Int×Int×Bool
def q18a (v:q189):St:=⟨[(2,u6 v.1),(8,u6 v.2.1),(9,u6 v.2.2.1),(10,u6 v.2.2.2.1),(11,u6 v.2.2.2.2.1),(13,u6 v.2.2.2.2.2.1),(14,u6 v.2.2.2.2.2.2.1),(15,u6 v.2.2.2.2.2.2.2.1),(16,u6 v.2.2.2.2.2.2.2.2.1),(85,.bool v.2.2.2.2.2.2.2.2.2)],[]⟩
def q18b (C:q16c) (v:q17x):Dt q189:=(Dt.ret (v.1,v.2.1,v.2.2.1,v.2.2.2.1,v.2.2.2.2.1,v.2.2.2.2.2.1,v.2.2.2.2.2.2.1,v.2.2.2.2.2.2.2.1,v.2.2.2.2.2.2.2.2,(decide (v.2.2.2.2.2.2.2.2≥(4294967296:Int)))))
theorem q18c C v:q3pr (regO (qdk f89) 20) false (an [2,8,9,10,11,13,14,15,16,85]) q17y q18b q18a C v:=rgI (by kernel_rfl)
abbrev q18d:Type:=Int×Int×Int×Int×Int×Int×Int
def q18e (v:q18d):St:=⟨[(2,u6 v.1),(8,u6 v.2.1),(9,u6 v.2.2.1),(10,u6 v.2.2.2.1),(14,u6 v.2.2.2.2.1),(15,u6 v.2.2.2.2.2.1),(17,u6 v.2.2.2.2.2.2)],[]⟩
def q18f (C:q16c) (v:q17x):Dt q18d:=(Dt.ret (v.1,v.2.1,v.2.2.1,v.2.2.2.1,v.2.2.2.2.2.2.1,v.2.2.2.2.2.2.2.1,(IntKind.wrap .u64 ((IntKind.wrap .u64 ((IntKind.wrap .u64 (v.2.2.2.2.1*(4294967296:Int)))+v.2.2.2.2.2.1)) - (IntKind.wrap .u64 (v.2.2.2.2.2.2.2.1*v.1))))))
theorem q18g C v:q3pr (regO (qdk f89) 21) false (an [2,8,9,10,14,15,17]) q17y q18f q18e C v:=rgI (by kernel_rfl)
abbrev q18h:Type:=Int×Int×Int×Int×Int×Int×Int×Int
def q18i (v:q18h):St:=⟨[(2,u6 v.1),(8,u6 v.2.1),(9,u6 v.2.2.1),(10,u6 v.2.2.2.1),(14,u6 v.2.2.2.2.1),(15,u6 v.2.2.2.2.2.1),(17,u6 v.2.2.2.2.2.2.1),(18,u6 v.2.2.2.2.2.2.2)],[]⟩
def q18j (C:q16c) (v:q18d):Dt q18h:=(Dt.ite (v.2.2.1 == (0:Int)) Dt.fail (Dt.ret (v.1,v.2.1,v.2.2.1,v.2.2.2.1,v.2.2.2.2.1,v.2.2.2.2.2.1,v.2.2.2.2.2.2,(IntKind.wrap .u64 (Int.tdiv v.2.2.2.2.2.2 v.2.2.1)))))
theorem q18k C v:q3pr (regO (qdk f89) 22) false (an [2,8,9,10,14,15,17,18]) q18e q18j q18i C v:=rgI (by kernel_rfl)
abbrev q18l:Type:=Int×Int×Int×Int×Int×Int×Int×Int×Int
def q18m (v:q18l):St:=⟨[(2,u6 v.1),(8,u6 v.2.1),(9,u6 v.2.2.1),(10,u6 v.2.2.2.1),(14,u6 v.2.2.2.2.1),(15,u6 v.2.2.2.2.2.1),(16,u6 v.2.2.2.2.2.2.1),(17,u6 v.2.2.2.2.2.2.2.1),(18,u6 v.2.2.2.2.2.2.2.2)],[]⟩
def q18n (C:q16c) (v:q18h):Dt q18l:=(Dt.ret (v.1,v.2.1,v.2.2.1,v.2.2.2.1,v.2.2.2.2.1,v.2.2.2.2.2.1,(IntKind.wrap .u64 (v.2.2.2.2.2.2.1 - (IntKind.wrap .u64 (v.2.2.2.2.2.2.2*v.2.2.1)))),v.2.2.2.2.2.2.1,v.2.2.2.2.2.2.2))
theorem q18o C v:q3pr (regO (qdk f89) 23) false (an [2,8,9,10,14,15,16,17,18]) q18i q18n q18m C v:=rgI (by kernel_rfl)
abbrev q18p:Type:=Int×Int×Int×Int×Int×Int×Int×Int×Int×Bool
def q18q (v:q18p):St:=⟨[(2,u6 v.1),(8,u6 v.2.1),(9,u6 v.2.2.1),(10,u6 v.2.2.2.1),(14,u6 v.2.2.2.2.1),(15,u6 v.2.2.2.2.2.1),(16,u6 v.2.2.2.2.2.2.1),(17,u6 v.2.2.2.2.2.2.2.1),(18,u6 v.2.2.2.2.2.2.2.2.1),(113,.bool v.2.2.2.2.2.2.2.2.2)],[]⟩
def q18r (C:q16c) (v:q18l):Dt q18p:=(Dt.ite (decide (v.2.2.2.2.2.2.2.2≥(4294967296:Int))) (Dt.ret (v.1,v.2.1,v.2.2.1,v.2.2.2.1,v.2.2.2.2.1,v.2.2.2.2.2.1,v.2.2.2.2.2.2.1,v.2.2.2.2.2.2.2.1,v.2.2.2.2.2.2.2.2,true)) (Dt.ret (v.1,v.2.1,v.2.2.1,v.2.2.2.1,v.2.2.2.2.1,v.2.2.2.2.2.1,v.2.2.2.2.2.2.1,v.2.2.2.2.2.2.2.1,v.2.2.2.2.2.2.2.2,(decide ((IntKind.wrap .u64 (v.2.2.2.2.2.2.2.2*v.2.2.2.1)) > (IntKind.wrap .u64 ((IntKind.wrap .u64 ((4294967296:Int)*v.2.2.2.2.2.2.1))+v.2.2.2.2.1)))))))
theorem q18s C v:q3pr (regO (qdk f89) 24) false (an [2,8,9,10,14,15,16,17,18,113]) q18m q18r q18q C v:=rgI (by kernel_rfl)
def q18t (C:q16c) (v:q18p):Dt q18l:=(Dt.ret (v.1,v.2.1,v.2.2.1,v.2.2.2.1,v.2.2.2.2.1,v.2.2.2.2.2.1,v.2.2.2.2.2.2.1,v.2.2.2.2.2.2.2.1,(IntKind.wrap .u64 (v.2.2.2.2.2.2.2.2.1 - (1:Int)))))
theorem q18u C v:q3pr (regO (qdk f89) 25) false (an [2,8,9,10,14,15,16,17,18]) q18q q18t q18m C v:=rgI (by kernel_rfl)
def q18v (C:q16c) (v:q18l):Dt q18l:=(Dt.ret (v.1,v.2.1,v.2.2.1,v.2.2.2.1,v.2.2.2.2.1,v.2.2.2.2.2.1,(IntKind.wrap .u64 (v.2.2.2.2.2.2.1+v.2.2.1)),v.2.2.2.2.2.2.2.1,v.2.2.2.2.2.2.2.2))
theorem q18w C v:q3pr (regO (qdk f89) 26) false (an [2,8,9,10,14,15,16,17,18]) q18m q18v q18m C v:=rgI (by kernel_rfl)
abbrev q18x:Type:=Int×Int×Int×Int×Int×Int×Int×Int×Int×Bool
def q18y (v:q18x):St:=⟨[(2,u6 v.1),(8,u6 v.2.1),(9,u6 v.2.2.1),(10,u6 v.2.2.2.1),(14,u6 v.2.2.2.2.1),(15,u6 v.2.2.2.2.2.1),(16,u6 v.2.2.2.2.2.2.1),(17,u6 v.2.2.2.2.2.2.2.1),(18,u6 v.2.2.2.2.2.2.2.2.1),(120,.bool v.2.2.2.2.2.2.2.2.2)],[]⟩
def q18z (C:q16c) (v:q18l):Dt q18x:=(Dt.ret (v.1,v.2.1,v.2.2.1,v.2.2.2.1,v.2.2.2.2.1,v.2.2.2.2.2.1,v.2.2.2.2.2.2.1,v.2.2.2.2.2.2.2.1,v.2.2.2.2.2.2.2.2,(decide (v.2.2.2.2.2.2.1≥(4294967296:Int)))))
theorem q190 C v:q3pr (regO (qdk f89) 27) false (an [2,8,9,10,14,15,16,17,18,120]) q18m q18z q18y C v:=rgI (by kernel_rfl)
def q191 (C:q16c) (v:q18l):Dt q16v:=(Dt.ite (decide (v.2.1<0)) Dt.fail (Dt.ret ((IntKind.wrap .u64 ((IntKind.wrap .u64 (v.2.2.2.2.2.1*(4294967296:Int)))+v.2.2.2.2.2.2.2.2)),(shrI .u64 (IntKind.wrap .u64 ((IntKind.wrap .u64 ((IntKind.wrap .u64 (v.2.2.2.2.2.2.2.1*(4294967296:Int)))+v.2.2.2.2.1)) - (IntKind.wrap .u64 (v.2.2.2.2.2.2.2.2*v.1)))) v.2.1))))
theorem q192 C v:q3pr (regO (qdk f89) 28) false (an [6,7]) q18m q191 q16w C v:=rgI (by kernel_rfl)
def q193  (d:Nat)  (z:Int×Int×Int×Int×Int×Int×Int×Int×Int):Option (q169) :=
 (q191 (q16d d) z).eval fun y28 =>
 some y28
def q194 (d:Nat) (self6:(Int×Int×Int×Int×Int×Int×Int×Int×Int)→Option q169) (x6:Int×Int×Int×Int×Int×Int×Int×Int×Int):Option q169 :=
 (q18r (q16d d) x6).eval fun y24 =>
 bif y24.2.2.2.2.2.2.2.2.2 then ((q18t (q16d d) y24).eval fun y25 =>
 (q18v (q16d d) y25).eval fun y26 =>
 (q18z (q16d d) y26).eval fun y27 =>
 bif y27.2.2.2.2.2.2.2.2.2 then (q193 d  (y27.1,y27.2.1,y27.2.2.1,y27.2.2.2.1,y27.2.2.2.2.1,y27.2.2.2.2.2.1,y27.2.2.2.2.2.2.1,y27.2.2.2.2.2.2.2.1,y27.2.2.2.2.2.2.2.2.1)) else (self6 (y27.1,y27.2.1,y27.2.2.1,y27.2.2.2.1,y27.2.2.2.2.1,y27.2.2.2.2.2.1,y27.2.2.2.2.2.2.1,y27.2.2.2.2.2.2.2.1,y27.2.2.2.2.2.2.2.2.1))) else (q193 d  (y24.1,y24.2.1,y24.2.2.1,y24.2.2.2.1,y24.2.2.2.2.1,y24.2.2.2.2.2.1,y24.2.2.2.2.2.2.1,y24.2.2.2.2.2.2.2.1,y24.2.2.2.2.2.2.2.2.1))
def q195  (d:Nat)  (z:Int×Int×Int×Int×Int×Int×Int×Int×Int):Option (q169) :=
 (q18f (q16d d) z).eval fun y21 =>
 (q18j (q16d d) y21).eval fun y22 =>
 (q18n (q16d d) y22).eval fun y23 =>
 iter (q194 d ) d y23
def q196 (d:Nat) (self4:(Int×Int×Int×Int×Int×Int×Int×Int×Int)→Option q169) (x4:Int×Int×Int×Int×Int×Int×Int×Int×Int):Option q169 :=
 (q183 (q16d d) x4).eval fun y17 =>
 bif y17.2.2.2.2.2.2.2.2.2 then ((q185 (q16d d) y17).eval fun y18 =>
 (q187 (q16d d) y18).eval fun y19 =>
 (q18b (q16d d) y19).eval fun y20 =>
 bif y20.2.2.2.2.2.2.2.2.2 then (q195 d  (y20.1,y20.2.1,y20.2.2.1,y20.2.2.2.1,y20.2.2.2.2.1,y20.2.2.2.2.2.1,y20.2.2.2.2.2.2.1,y20.2.2.2.2.2.2.2.1,y20.2.2.2.2.2.2.2.2.1)) else (self4 (y20.1,y20.2.1,y20.2.2.1,y20.2.2.2.1,y20.2.2.2.2.1,y20.2.2.2.2.2.1,y20.2.2.2.2.2.2.1,y20.2.2.2.2.2.2.2.1,y20.2.2.2.2.2.2.2.2.1))) else (q195 d  (y17.1,y17.2.1,y17.2.2.1,y17.2.2.2.1,y17.2.2.2.2.1,y17.2.2.2.2.2.1,y17.2.2.2.2.2.2.1,y17.2.2.2.2.2.2.2.1,y17.2.2.2.2.2.2.2.2.1))
def q197  (d:Nat)  (z:Int×Int×Int×Bool):Option (q169) :=
 (q16t (q16d d) z).eval fun y5 =>
 bif y5.2.2.2 then ((q16x (q16d d) y5).eval fun y6 =>
 some y6) else ((q171 (q16d d) y5).eval fun y7 =>
 (q173 (q16d d) y7).eval fun y8 =>
 (q177 (q16d d) y8).eval fun y9 =>
 (q17b (q16d d) y9).eval fun y10 =>
 (q17f (q16d d) y10).eval fun y11 =>
 (q17j (q16d d) y11).eval fun y12 =>
 (q17n (q16d d) y12).eval fun y13 =>
 (q17r (q16d d) y13).eval fun y14 =>
 (q17v (q16d d) y14).eval fun y15 =>
 (q17z (q16d d) y15).eval fun y16 =>
 iter (q196 d ) d y16)
def q198  (d:Nat)  (z:Int×Int×Int×Bool):Option (q169) :=
 (q16p (q16d d) z).eval fun y3 =>
 bif y3.2.2.2 then (none) else (q197 d  y3)
def q199 (d:Nat) (x:q168):Option q169 :=
 (q16h (q16d d) (x.1.1,x.2.1.1,x.2.2.1.1)).eval fun y0 =>
 (q16l (q16d d) y0).eval fun y1 =>
 bif y1.2.2.2 then (none) else (q198 d  y1)
theorem q19a (d:Nat):COK prog (q16b (q199 d)):=by
 have hm:prog.follows .mixedOrders=true:=mixed
 have hT:=tys
 have hC0:OrcOK prog (orc (q16e (q16d d))):=qde (by
  intro S hS
  simp only [q16e,List.mem_cons,List.not_mem_nil,or_false] at hS
  subst hS;exact q166 d)
 have hC:OrcOK prog (orc (q16e (q16d d))):=hC0
 refine q93 (c:=qdk f89) (fn:=f89) hT (by kernel_rfl) (by kernel_rfl) (by decide) fun x r h w0 φ0 Q hend=>?_
 replace h:q199 d x=some r:=h
 unfold q199 at h
 show Run prog w0 φ0 135 (qdk f89) ⟨[(0,.int .u64 x.1.1),(1,.int .u64 x.2.1.1),(2,.int .u64 x.2.2.1.1)],[]⟩ Q
 refine q3pf hm hT hC (q16i (q16d d) (x.1.1,x.2.1.1,x.2.2.1.1)) h fun y0 h=>?_
 refine q8p (r:=r) (F:=q198 d ) (S:=(fun z=>⟨[(0,u6 z.1),(1,u6 z.2.1),(2,u6 z.2.2.1),(20,.bool z.2.2.2)],[]⟩:q16j→St)) ?_ ?_
 ·
  intro z h
  unfold q198 at h
  refine q8p (r:=r) (F:=q197 d ) (S:=(fun z=>⟨[(0,u6 z.1),(1,u6 z.2.1),(2,u6 z.2.2.1),(24,.bool z.2.2.2)],[]⟩:q16j→St)) ?_ ?_
  ·
   intro z h
   unfold q197 at h
   refine q8m ?_
   refine q3pf hm hT hC (q16u (q16d d) z) h fun y5 h=>?_
   refine q8q (v:=y5.2.2.2) (by kernel_rfl) h ?_ ?_
   ·
    intro h
    refine q3pf hm hT hC (q16y (q16d d) y5) h fun y6 h=>?_
    refine q8l (q8a ?_)
    cases h
    exact (hend _ (by kernel_rfl)).2
   ·
    intro h
    refine q8i (q88 ?_)
    refine q3pf hm hT hC (q172 (q16d d) y5) h fun y7 h=>?_
    refine q3pf hm hT hC (q174 (q16d d) y7) h fun y8 h=>?_
    refine q3pf hm hT hC (q178 (q16d d) y8) h fun y9 h=>?_
    refine q3pf hm hT hC (q17c (q16d d) y9) h fun y10 h=>?_
    refine q3pf hm hT hC (q17g (q16d d) y10) h fun y11 h=>?_
    refine q3pf hm hT hC (q17k (q16d d) y11) h fun y12 h=>?_
    refine q3pf hm hT hC (q17o (q16d d) y12) h fun y13 h=>?_
    refine q3pf hm hT hC (q17s (q16d d) y13) h fun y14 h=>?_
    refine q3pf hm hT hC (q17w (q16d d) y14) h fun y15 h=>?_
    refine q3pf hm hT hC (q180 (q16d d) y15) h fun y16 h=>?_
    refine q8p (r:=r) (F:=q195 d ) (S:=(fun z=>⟨[(2,u6 z.1),(8,u6 z.2.1),(9,u6 z.2.2.1),(10,u6 z.2.2.2.1),(11,u6 z.2.2.2.2.1),(13,u6 z.2.2.2.2.2.1),(14,u6 z.2.2.2.2.2.2.1),(15,u6 z.2.2.2.2.2.2.2.1),(16,u6 z.2.2.2.2.2.2.2.2)],[]⟩:q17x→St)) ?_ ?_
    ·
     intro z h
     unfold q195 at h
     refine q3pf hm hT hC (q18g (q16d d) z) h fun y21 h=>?_
     refine q3pf hm hT hC (q18k (q16d d) y21) h fun y22 h=>?_
     refine q3pf hm hT hC (q18o (q16d d) y22) h fun y23 h=>?_
     refine q8p (r:=r) (F:=q193 d ) (S:=(fun z=>⟨[(2,u6 z.1),(8,u6 z.2.1),(9,u6 z.2.2.1),(10,u6 z.2.2.2.1),(14,u6 z.2.2.2.2.1),(15,u6 z.2.2.2.2.2.1),(16,u6 z.2.2.2.2.2.2.1),(17,u6 z.2.2.2.2.2.2.2.1),(18,u6 z.2.2.2.2.2.2.2.2)],[]⟩:q17x→St)) ?_ ?_
     ·
      intro z h
      unfold q193 at h
      refine q3pf hm hT hC (q192 (q16d d) z) h fun y28 h=>?_
      refine q8l ?_
      cases h
      exact (hend _ (by kernel_rfl)).2
     intro hj5
     refine q8n ?_
     refine q8s (G:=iter (q194 d )) (S:=(fun x6=>⟨[(2,u6 x6.1),(8,u6 x6.2.1),(9,u6 x6.2.2.1),(10,u6 x6.2.2.2.1),(14,u6 x6.2.2.2.2.1),(15,u6 x6.2.2.2.2.2.1),(16,u6 x6.2.2.2.2.2.2.1),(17,u6 x6.2.2.2.2.2.2.2.1),(18,u6 x6.2.2.2.2.2.2.2.2)],[]⟩:q17x→St)) (fun _=>rfl) ?_ d _ h
     intro n6 x6 h K6 hn6
     replace h:q194 d  (iter (q194 d ) n6) x6=some r:=h
     generalize iter (q194 d ) n6=self6 at h hn6
     unfold q194 at h
     refine q8m ?_
     refine q3pf hm hT hC (q18s (q16d d) x6) h fun y24 h=>?_
     refine q8q (v:=y24.2.2.2.2.2.2.2.2.2) (by kernel_rfl) h ?_ ?_
     ·
      intro h
      refine q8i (q88 (q8n ?_))
      refine q3pf hm hT hC (q18u (q16d d) y24) h fun y25 h=>?_
      refine q3pf hm hT hC (q18w (q16d d) y25) h fun y26 h=>?_
      refine q3pf hm hT hC (q190 (q16d d) y26) h fun y27 h=>?_
      refine q8q (v:=y27.2.2.2.2.2.2.2.2.2) (by kernel_rfl) h ?_ ?_
      ·
       intro h
       refine q8k ?_
       refine q8e (by rfl) ?_
       refine q89 (q8d ?_)
       refine qdj (s:=⟨[(2,.int .u64 y27.1),(8,.int .u64 y27.2.1),(9,.int .u64 y27.2.2.1),(10,.int .u64 y27.2.2.2.1),(14,.int .u64 y27.2.2.2.2.1),(15,.int .u64 y27.2.2.2.2.2.1),(16,.int .u64 y27.2.2.2.2.2.2.1),(17,.int .u64 y27.2.2.2.2.2.2.2.1),(18,.int .u64 y27.2.2.2.2.2.2.2.2.1)],[]⟩) [120] (by kernel_rfl) ?_
       exact hj5 _ h
      ·
       intro h
       refine q8i (q8b ?_)
       refine qdj (s:=⟨[(2,.int .u64 y27.1),(8,.int .u64 y27.2.1),(9,.int .u64 y27.2.2.1),(10,.int .u64 y27.2.2.2.1),(14,.int .u64 y27.2.2.2.2.1),(15,.int .u64 y27.2.2.2.2.2.1),(16,.int .u64 y27.2.2.2.2.2.2.1),(17,.int .u64 y27.2.2.2.2.2.2.2.1),(18,.int .u64 y27.2.2.2.2.2.2.2.2.1)],[]⟩) [120] (by kernel_rfl) ?_
       exact hn6 _ h
     ·
      intro h
      refine q8k (q89 (q89 (q8d ?_)))
      refine qdj (s:=⟨[(2,.int .u64 y24.1),(8,.int .u64 y24.2.1),(9,.int .u64 y24.2.2.1),(10,.int .u64 y24.2.2.2.1),(14,.int .u64 y24.2.2.2.2.1),(15,.int .u64 y24.2.2.2.2.2.1),(16,.int .u64 y24.2.2.2.2.2.2.1),(17,.int .u64 y24.2.2.2.2.2.2.2.1),(18,.int .u64 y24.2.2.2.2.2.2.2.2.1)],[]⟩) [113] (by kernel_rfl) ?_
      exact hj5 _ h
    intro hj3
    refine q8n ?_
    refine q8s (G:=iter (q196 d )) (S:=(fun x4=>⟨[(2,u6 x4.1),(8,u6 x4.2.1),(9,u6 x4.2.2.1),(10,u6 x4.2.2.2.1),(11,u6 x4.2.2.2.2.1),(13,u6 x4.2.2.2.2.2.1),(14,u6 x4.2.2.2.2.2.2.1),(15,u6 x4.2.2.2.2.2.2.2.1),(16,u6 x4.2.2.2.2.2.2.2.2)],[]⟩:q17x→St)) (fun _=>rfl) ?_ d _ h
    intro n4 x4 h K4 hn4
    replace h:q196 d  (iter (q196 d ) n4) x4=some r:=h
    generalize iter (q196 d ) n4=self4 at h hn4
    unfold q196 at h
    refine q8m ?_
    refine q3pf hm hT hC (q184 (q16d d) x4) h fun y17 h=>?_
    refine q8q (v:=y17.2.2.2.2.2.2.2.2.2) (by kernel_rfl) h ?_ ?_
    ·
     intro h
     refine q8i (q88 (q8n ?_))
     refine q3pf hm hT hC (q186 (q16d d) y17) h fun y18 h=>?_
     refine q3pf hm hT hC (q188 (q16d d) y18) h fun y19 h=>?_
     refine q3pf hm hT hC (q18c (q16d d) y19) h fun y20 h=>?_
     refine q8q (v:=y20.2.2.2.2.2.2.2.2.2) (by kernel_rfl) h ?_ ?_
     ·
      intro h
      refine q8k ?_
      refine q8e (by rfl) ?_
      refine q89 (q8d ?_)
      refine qdj (s:=⟨[(2,.int .u64 y20.1),(8,.int .u64 y20.2.1),(9,.int .u64 y20.2.2.1),(10,.int .u64 y20.2.2.2.1),(11,.int .u64 y20.2.2.2.2.1),(13,.int .u64 y20.2.2.2.2.2.1),(14,.int .u64 y20.2.2.2.2.2.2.1),(15,.int .u64 y20.2.2.2.2.2.2.2.1),(16,.int .u64 y20.2.2.2.2.2.2.2.2.1)],[]⟩) [85] (by kernel_rfl) ?_
      exact hj3 _ h
     ·
      intro h
      refine q8i (q8b ?_)
      refine qdj (s:=⟨[(2,.int .u64 y20.1),(8,.int .u64 y20.2.1),(9,.int .u64 y20.2.2.1),(10,.int .u64 y20.2.2.2.1),(11,.int .u64 y20.2.2.2.2.1),(13,.int .u64 y20.2.2.2.2.2.1),(14,.int .u64 y20.2.2.2.2.2.2.1),(15,.int .u64 y20.2.2.2.2.2.2.2.1),(16,.int .u64 y20.2.2.2.2.2.2.2.2.1)],[]⟩) [85] (by kernel_rfl) ?_
      exact hn4 _ h
    ·
     intro h
     refine q8k (q89 (q89 (q8d ?_)))
     refine qdj (s:=⟨[(2,.int .u64 y17.1),(8,.int .u64 y17.2.1),(9,.int .u64 y17.2.2.1),(10,.int .u64 y17.2.2.2.1),(11,.int .u64 y17.2.2.2.2.1),(13,.int .u64 y17.2.2.2.2.2.1),(14,.int .u64 y17.2.2.2.2.2.2.1),(15,.int .u64 y17.2.2.2.2.2.2.2.1),(16,.int .u64 y17.2.2.2.2.2.2.2.2.1)],[]⟩) [78] (by kernel_rfl) ?_
     exact hj3 _ h
  intro hj2
  refine q3pf hm hT hC (q16q (q16d d) z) h fun y3 h=>?_
  refine q8q (v:=y3.2.2.2) (by kernel_rfl) h ?_ ?_
  ·
   intro h
   cases h
  ·
   intro h
   refine q8i ?_
   exact hj2 _ h
 intro hj1
 refine q3pf hm hT hC (q16m (q16d d) y0) h fun y1 h=>?_
 refine q8q (v:=y1.2.2.2) (by kernel_rfl) h ?_ ?_
 ·
  intro h
  cases h
 ·
  intro h
  refine q8i ?_
  exact hj1 _ h
abbrev q19b:List Pk:=[.row Ru false,.row Ru false,.row Ru false]
abbrev q19c:Type:=Du×Du×Du×Unit
abbrev q19d:Type:=Int
def q19e (r:q19d):LV×List Ob:=(.int .u64 r,[])
def q19f (F:q19c→Option q19d):Go.Tx.Spec:=⟨88,q19b,q19d,F,q19e⟩
abbrev q19g:Type:=(q168→Option q169)×Unit
def q19h (d:Nat):q19g:=(q199 d,())
def q19i (C:q19g):List Go.Tx.Spec:=[q16b C.1]
abbrev q19j:Type:=Int×Int×Int
def q19k (v:q19j):St:=⟨[(0,u6 v.1),(1,u6 v.2.1),(2,u6 v.2.2)],[]⟩
def q19l (C:q19g) (v:q19j):Dt q19j:=(Dt.ret (v.1,v.2.1,v.2.2))
abbrev q3ps {V Y:Type}:=@rg q19g V Y tysT (fun C=>(orc (q19i C))) 19
theorem q19m C v:q3ps (regO (qdk f88) 0) false (an [0,1,2]) q19k q19l q19k C v:=rgI (by kernel_rfl)
abbrev q19n:Type:=Int
def q19o (v:q19n):St:=⟨[(8,u6 v)],[]⟩
def q19p (C:q19g) (v:q19j):Dt q19n:=(Dt.ite (v.2.2 == (0:Int)) Dt.fail (Dt.bnd (C.1 (((Int.tmod v.1 v.2.2),()),(v.2.1,()),(v.2.2,()),())) fun r1=>(Dt.ret r1.2)))
theorem q19q C v:q3ps (regO (qdk f88) 1) false [(8,.any)] q19k q19p q19o C v:=rgI (by kernel_rfl)
abbrev q19r:Type:=Int
def q19s (v:q19r):St:=⟨[(6,u6 v)],[]⟩
def q19t (C:q19g) (v:q19n):Dt q19r:=(Dt.ret v)
theorem q19u C v:q3ps (regO (qdk f88) 2) false [(6,.any)] q19o q19t q19s C v:=rgI (by kernel_rfl)
def q19v (d:Nat) (x:q19c):Option q19d :=
 (q19l (q19h d) (x.1.1,x.2.1.1,x.2.2.1.1)).eval fun y0 =>
 (q19p (q19h d) y0).eval fun y1 =>
 (q19t (q19h d) y1).eval fun y2 =>
 some y2
theorem q19w (d:Nat):COK prog (q19f (q19v d)):=by
 have hm:prog.follows .mixedOrders=true:=mixed
 have hT:=tys
 have hC0:OrcOK prog (orc (q19i (q19h d))):=qde (by
  intro S hS
  simp only [q19i,List.mem_cons,List.not_mem_nil,or_false] at hS
  subst hS;exact q19a d)
 have hC:OrcOK prog (orc (q19i (q19h d))):=hC0
 refine q93 (c:=qdk f88) (fn:=f88) hT (by kernel_rfl) (by kernel_rfl) (by decide) fun x r h w0 φ0 Q hend=>?_
 replace h:q19v d x=some r:=h
 unfold q19v at h
 show Run prog w0 φ0 19 (qdk f88) ⟨[(0,.int .u64 x.1.1),(1,.int .u64 x.2.1.1),(2,.int .u64 x.2.2.1.1)],[]⟩ Q
 refine q3pf hm hT hC (q19m (q19h d) (x.1.1,x.2.1.1,x.2.2.1.1)) h fun y0 h=>?_
 refine q3pf hm hT hC (q19q (q19h d) y0) h fun y1 h=>?_
 refine q3pf hm hT hC (q19u (q19h d) y1) h fun y2 h=>?_
 refine q8l ?_
 cases h
 exact (hend _ (by kernel_rfl)).2
end Go.Proofs.YtbjpmdhdoggobaaGreat

namespace Go.Proofs.YtbjpmdhdoggobaaGreat
open Go Go.Tx Go.Pel Go.Proofs.Tryz
set_option maxRecDepth 100000
set_option maxHeartbeats 0
abbrev q19x:List Pk:=[.row qk5 true]
abbrev q19y:Type:=qk6×Unit
abbrev q19z:Type:=Int×Int
def q1a0 (r:q19z):LV×List Ob:=(.agg [.int .i64 r.1,.int .u64 r.2],[])
def q1a1 (F:q19y→Option q19z):Go.Tx.Spec:=⟨86,q19x,q19z,F,q1a0⟩
def q1a2 (x:q19y):Bool:=sumB x.1.1 x.1.2.1 x.1.2.2.1 x.1.2.2.2.1
def q1a3 (d:Nat) (x:q19y):Option q19z:=bif q1a2 x then some ((x.1.1*x.1.2.1+x.1.2.2.1*x.1.2.2.2.1) / 18446744073709551616,(x.1.1*x.1.2.1+x.1.2.2.1*x.1.2.2.2.1) % 18446744073709551616) else none
theorem q1a4 (d:Nat) (x:q19y) (h:q1a2 x=true):q1a3 d x=some ((x.1.1*x.1.2.1+x.1.2.2.1*x.1.2.2.2.1) / 18446744073709551616,(x.1.1*x.1.2.1+x.1.2.2.1*x.1.2.2.2.1) % 18446744073709551616):=by unfold q1a3;rw [h];rfl
theorem q1a5 (d:Nat):COK prog (q1a1 (q1a3 d)):=by
 refine qi4 (qi5 (fn:=f86) (by kernel_rfl) (by kernel_rfl) (by kernel_rfl)) fun x r hx w φ vs hφ hv=>?_
 have hx:q1a3 d x=some r:=hx
 unfold q1a3 at hx
 obtain ⟨hc,rfl⟩:=qjk hx
 have hv:VRs (Emb.fro φ) [.agg [.int .i64 x.1.1,.int .i64 x.1.2.1,.int .i64 x.1.2.2.1,.int .i64 x.1.2.2.2.1]] vs:=hv
 obtain ⟨v0,rfl,q0⟩:=vrs1 hv
 have r0:=qu6 q0;subst r0
 unfold q1a2 at hc
 have h1:=hc
 refine (qu7 h1 w).mono ?_
 rintro e w' ⟨rfl,y,rfl⟩
 exact qi2 hφ (VR.aggL (VRs.cons (.int _ _) (VRs.cons (.int _ _) VRs.nil))) y
end Go.Proofs.YtbjpmdhdoggobaaGreat
