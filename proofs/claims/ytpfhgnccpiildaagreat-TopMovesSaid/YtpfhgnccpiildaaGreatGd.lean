/- Walks of the references; the orders agree; examples. -/
import Derived.RangeFuncRecord
import Derived.RangeFuncSeq
import Derived.RangeFuncBound
import Derived.Shelf.Abstract
import Derived.Shelf.RegionOpen
import Derived.WalkKit
import Derived.OwnWalkIn
import Derived.TacticsInMore
import Derived.LoopNIn
import Derived.LoopIn
import Derived.Shelf.SlSortCmp.NoneTotal
import Derived.Test.YtpfhgnccpiildaaGreatProg
import Derived.Shelf.Spec.BitsCarry
import Derived.Test.YtpfhgnccpiildaaGreatGc
set_option linter.unusedSimpArgs false
set_option linter.unusedVariables false
namespace Go.Pel
open Go Go.RowKit
end Go.Pel
namespace Go.Proofs.YtpfhgnccpiildaaGreat
open Go.RowKit Go.Pel
end Go.Proofs.YtpfhgnccpiildaaGreat

namespace Go
open RowKit
def qsh (o:Obj):Prop:=∀ cs e f,o ≠ .cells cs e f
structure Records (b:Nat) (W W':World):Prop where
  keep:∀ (k:Nat) (o:Obj),b≤k→W.heap[k]?=some o→qsh o→W'.heap[k]?=some o
theorem Records.refl (b:Nat) (W:World):Records b W W:=⟨fun _ _ _ h _=>h⟩
theorem Records.trans {b:Nat} {A B D:World} (h:Records b A B) (k:Records b B D):Records b A D:=⟨fun i o hb h1 h2=>k.keep i o hb (h.keep i o hb h1 h2) h2⟩
theorem Records.bel {b:Nat} {A B:World} (h:Bel A B):Records b A B:=⟨fun k o _ h1 _=>by
  have hl:k<A.heap.size:=(Array.getElem?_eq_some_iff.1 h1).1
  rw [h.block k hl];exact h1⟩
section
variable {F:Fence} {n:Nat} {P:Program}
theorem qsk {f:Nat} {args:Array Value} {w:World} {R:Ending→World→Prop} (l:Nat) (h:CallsIn F n P f args w R):CallsIn (F.inRound l) n P f args w R:=h
end
end Go

namespace Go
namespace RegC
section
variable {P:Program} {ops:Array Oper} {md:Region.Mode} {Q:Exit→Act→World→Prop} {l n:Nat}
def qso (ops:Array Oper):Bool:=ops.all fun o=>match o.op with | .defer _=>false | _=>true
theorem qsp {i:Nat} {o:Oper} (h:qso ops=true) (ho:ops[i]?=some o):∀ c,o.op ≠ .defer c:=by
  intro c hc
  unfold qso at h
  have hi:=(Array.getElem?_eq_some_iff.1 ho)
  obtain ⟨hi,he⟩:=hi
  have:=Array.all_eq_true.1 h i hi
  rw [he,hc] at this
  cases this
theorem qsq {o:Oper} {a:Act} {w:World} {K:Act→World→Prop} (hd:∀ c,o.op ≠ .defer c) (h:Oper.wp P o a w K Q):Oper.wpIn (Fence.wide.inRound l) n P o a w K Q:=by
  refine ⟨fun _ _=>trivial,?_⟩
  rw [Oper.semAt_plain (Fence.wide.inRound l) _ _ hd]
  unfold Oper.wp at h
  cases hr:(execOp a.eval o).run P w with
  | ok x w' =>
    rw [hr] at h
    cases x with
    | value v=>exact h
    | skip=>exact h
    | defer d=>exact h
    | enter f args=>exact ⟨fun hh=>by simp [Fence.wide] at hh,qsk l (callsIn_wide.2 h)⟩
    | row row args=>exact ⟨fun hh=>by simp [Fence.wide] at hh,fun c cs _=>by obtain ⟨v,w',r,s⟩:=h c cs;exact ⟨v,w',r,stepsIn_wide.2 s⟩⟩
    | _=>exact h.elim
  | halt x w' =>
    rw [hr] at h
    cases x<;>exact h
theorem qsr (hnd:qso ops=true) (hL:¬ LetsOut Q) {i:Nat} {K K':Act→World→Prop} {a:Act} {w:World} (hK:∀ a w,K a w→K' a w) (h:wpOp P ops Q i K a w):wpOpIn (Fence.wide.inRound l) n P ops Q i K' a w:=by
  unfold wpOp at h
  unfold wpOpIn
  cases ho:ops[i]? with
  | none=>rw [ho] at h;exact hK _ _ h
  | some o =>
    rw [ho] at h
    simp only at h ⊢
    split
    · rename_i hw
      rw [if_pos hw] at h
      rcases h with h | h
      · exact Oper.wpIn_mono hK (qsq (qsp hnd ho) h)
      · exact absurd h.2 hL
    · rename_i hw
      rw [if_neg hw] at h
      exact ⟨fun _ _=>trivial,hK _ _ h⟩
theorem qss (hnd:qso ops=true) (hL:¬ LetsOut Q):∀ (fuel:Nat) (li:Array Bool) (a:Act) (w:World),wpAny P md ops Q fuel li a w→wpAnyIn (Fence.wide.inRound l) n P md ops Q fuel li a w:=by
  intro fuel
  induction fuel with
  | zero=>exact fun _ _ _ h=>h
  | succ fuel ih=>exact fun li a w h=>⟨h.1,fun i hi=>qsr hnd hL (fun a w=>ih _ a w) (h.2 i hi)⟩
end
section
variable {P:Program} {C:World→Prop} {l n:Nat}
end
end RegC
end Go

namespace Go.Tx
open Go Go.RegC
def KT (V:Nat→Value→Prop) (a:Act):Prop:=∀ n v,V n v→a.tmps[n]?=some v
theorem qsu {V:Nat→Value→Prop} {a:Act} {dst:Option Tmp} (hd:∀ n v,V n v→dst≠some n) (h:KT V a) (v:Value):KT V (a.put dst v):=fun n u hu=>by
  cases dst with
  | none=>exact h n u hu
  | some d =>
    have hne:d≠n:=fun he=>hd n u hu (by rw [he])
    show (a.tmps.setIfInBounds d v)[n]?=some u
    rw [Array.getElem?_setIfInBounds_ne hne];exact h n u hu
def QK (V:Nat→Value→Prop) (Q:Exit→Act→World→Prop) (e:Exit) (a:Act) (w:World):Prop:=Q e a w∧(e=.normal→KT V a)
section
variable {P:Program} {V:Nat→Value→Prop} {Q:Exit→Act→World→Prop} {ops:Array Oper}
theorem qsv {o:Oper} {a:Act} {w:World} {K:Act→World→Prop} (hd:∀ n v,V n v→o.dst≠some n) (ht:KT V a) (h:o.wp P a w K Q):o.wp P a w (fun a w=>K a w∧KT V a) (QK V Q):=by
  unfold Oper.wp at *
  generalize (execOp a.eval o).run P w=r at *
  cases r with
  | ok n w' =>
    cases n<;>simp only [Oper.upon] at h ⊢
    case value v=>exact ⟨h,qsu hd ht v⟩
    case skip=>exact ⟨h,qsu hd ht _⟩
    case defer d=>exact ⟨h,qsu (a:={ a with defers:=d :: a.defers }) hd ht _⟩
    case enter f args =>
      refine Calls.mono h fun e w'' he=>?_
      cases e with
      | returned v=>exact ⟨he,qsu hd ht v⟩
      | panicked c=>exact ⟨he,fun h=>by cases h⟩
      | outgrown=>obtain ⟨a2,w2,h2⟩:=he;exact ⟨a2,w2,h2,fun h=>by cases h⟩
    case row row args=>exact Rows.mono h fun v w'' he=>⟨he,qsu hd ht v⟩
  | halt x w' =>
    cases x<;>simp only [Oper.upon] at h ⊢
    exact ⟨h,fun h=>by cases h⟩
theorem qsw:∀ (l:List Oper),(∀ o∈l,∀ n v,V n v→o.dst≠some n)→∀ (a:Act) (w:World),KT V a→wpList P ops Q l a w→wpList P ops (QK V Q) l a w
  | [],_,a,w,ht,h=>⟨h,fun _=>ht⟩
  | o :: l, hd, a, w, ht, h => by
    have ih:=qsw l fun o ho=>hd o (List.mem_cons_of_mem _ ho)
    have h0:=hd o (List.mem_cons_self ..)
    change (if Region.wanted o (yielded ops a.tmps) then _ else _)
    change (if Region.wanted o (yielded ops a.tmps) then _ else _) at h
    split
    · rename_i hw
      rw [if_pos hw] at h
      rcases h with h | h
      · exact .inl (Oper.wp_mono (fun a w hk=>ih a w hk.2 hk.1) (qsv h0 ht h))
      · obtain ⟨a2, w2, h3⟩ := h.2
        exact .inr ⟨h.1,a2,w2,h3,fun h=>by cases h⟩
    · rename_i hw
      rw [if_neg hw] at h
      exact ih _ _ (qsu h0 ht _) h
theorem qsx {md:Region.Mode} (hd:∀ (i:Nat) (o:Oper),ops[i]?=some o→∀ n v,V n v→o.dst≠some n):∀ (f:Nat) (li:Array Bool) (a:Act) (w:World),KT V a→wpAny P md ops Q f li a w→wpAny P md ops (QK V Q) f li a w:=by
  intro f
  induction f with
  | zero=>intro li a w ht h;exact ⟨h.1,h.2,fun _=>ht⟩
  | succ f ih =>
    intro li a w ht h
    refine ⟨fun hr=>⟨h.1 hr,fun _=>ht⟩,fun i hi=>?_⟩
    have h2:=h.2 i hi
    unfold wpOp at h2 ⊢
    cases ho:ops[i]? with
    | none=>rw [ho] at h2;exact ih _ _ _ ht h2
    | some o =>
      rw [ho] at h2
      simp only at h2 ⊢
      split
      · rename_i hw
        rw [if_pos hw] at h2
        rcases h2 with h2 | h2
        · exact .inl (Oper.wp_mono (fun a w hk=>ih _ a w hk.2 hk.1) (qsv (hd i o ho) ht h2))
        · obtain ⟨a2, w2, h3⟩ := h2.2
          exact .inr ⟨h2.1,a2,w2,h3,fun h=>by cases h⟩
      · rename_i hw
        rw [if_neg hw] at h2
        exact ih _ _ _ (qsu (hd i o ho) ht _) h2
def dstB (ns:List Nat) (ops:Array Oper):Bool:=ops.toList.all fun o=>match o.dst with | some d=>!memB ns d | none=>true
theorem qsy {ns:List Nat} (h:dstB ns ops=true) (hV:∀ n v,V n v→n∈ns) {o:Oper} (ho:o∈ops.toList):∀ n v,V n v→o.dst≠some n:=fun n v hn he=>by
  unfold dstB at h
  have h1:=List.all_eq_true.1 h o ho
  rw [he] at h1
  simp only at h1
  rw [q53.2 (hV n v hn)] at h1
  cases h1
theorem qsz {l n:Nat} (hL:¬ LetsOut Q):∀ (L:List Oper),(∀ o∈L,∀ c,o.op ≠ .defer c)→∀ (a:Act) (w:World),wpList P ops Q L a w→wpListIn (Fence.wide.inRound l) n P ops Q L a w
  | [],_,a,w,h=>h
  | o :: L, hd, a, w, h => by
    have ih:=qsz (l:=l) (n:=n) hL L fun o ho=>hd o (List.mem_cons_of_mem _ ho)
    change (if Region.wanted o (yielded ops a.tmps) then _ else _)
    change (if Region.wanted o (yielded ops a.tmps) then _ else _) at h
    split
    · rename_i hw
      rw [if_pos hw] at h
      rcases h with h | h
      · exact Oper.wpIn_mono (fun a w=>ih a w) (qsq (hd o (List.mem_cons_self ..)) h)
      · exact absurd h.2 hL
    · rename_i hw
      rw [if_neg hw] at h
      exact ⟨fun _ _=>trivial,ih _ _ h⟩
theorem qt0 {l n id:Nat} {draw:Bool} {a:Act} {w:World} (hm:P.follows .mixedOrders=true) (hL:¬ LetsOut Q) (hnd:qso ops=true) (h:RW P ops draw Q a w):(Code.region id ops draw).wpIn (Fence.wide.inRound l) n P Q a w:=by
  cases draw with
  | true=>exact wpIn_region_any hm (qss hnd hL _ _ _ _ h)
  | false =>
    refine wpIn_region_list (qsz hL _ (fun o ho=>?_) _ _ h)
    obtain ⟨i,hi⟩:=List.getElem?_of_mem ho
    exact qsp hnd (i:=i) (o:=o) (by rw [← hi,Array.getElem?_toList])
theorem qt1 {draw:Bool} {a:Act} {w:World} {ns:List Nat} (hV:∀ n v,V n v→n∈ns) (hd:dstB ns ops=true) (ht:KT V a) (h:RW P ops draw Q a w):RW P ops draw (QK V Q) a w:=by
  cases draw with
  | true=>exact qsx (fun i o ho=>qsy hd hV (List.mem_of_getElem? (i:=i) (by rw [Array.getElem?_toList];exact ho))) _ _ _ _ ht h
  | false=>exact qsw _ (fun o ho=>qsy hd hV ho) _ _ ht h
end
section
variable {P:Program} {T:Tys} {C:Orc} {N l:Nat} {V:Nat→Value→Prop} {w0:World} {φ0:Fz0} {Q:Exit→Act→World→Prop}
def RunI (l:Nat) (P:Program) (V:Nat→Value→Prop) (w0:World) (φ0:Fz0) (N:Nat) (c:Code) (s:St) (Q:Exit→Act→World→Prop):Prop:=∀ a w,SS w0 φ0 N s a w→KT V a→c.wpIn (Fence.wide.inRound l) 0 P Q a w
def CnI (V:Nat→Value→Prop) (w0:World) (φ0:Fz0) (N:Nat) (s:St) (Q:Exit→Act→World→Prop) (e:Exit):Prop:=∀ a w,SS w0 φ0 N s a w→KT V a→Q e a w
theorem qt2 {c:Code} {s:St} (h:RunI l P V w0 φ0 N c s Q):CnI V w0 φ0 N s (Exit.then (c.wpIn (Fence.wide.inRound l) 0 P Q) Q) .normal:=h
theorem qt3 {s:St} {i:Nat} (h:CnI V w0 φ0 N s Q .normal):CnI V w0 φ0 N s (Exit.inBlock i Q) .normal:=h
theorem qt9 {s:St} (h:CnI V w0 φ0 N s Q .normal):RunI l P V w0 φ0 N .skip s Q:=fun a w hs hv=>wpIn_skip (h a w hs hv)
theorem qtc {x y:Code} {s:St} (h:RunI l P V w0 φ0 N x s (Exit.then (y.wpIn (Fence.wide.inRound l) 0 P Q) Q)):RunI l P V w0 φ0 N (.seq x y) s Q:=fun a w hs hv=>wpIn_seq (h a w hs hv)
theorem qtd {c:Code} {s:St} {i:Nat} (h:RunI l P V w0 φ0 N c s (Exit.inBlock i Q)):RunI l P V w0 φ0 N (.block i c) s Q:=fun a w hs hv=>wpIn_block (h a w hs hv)
theorem qtf {R:Type} {r:R} {v:Bool} {A B:Option R} {c:Operand} {x y:Code} {s:St} (hc:stev s c=.bool v) (h:(bif v then A else B)=some r) (ht:A=some r→RunI l P V w0 φ0 N x s Q) (hf:B=some r→RunI l P V w0 φ0 N y s Q):RunI l P V w0 φ0 N (.cond c x y) s Q:=fun a w hs hv=>by
  obtain ⟨η,h1,_⟩:=hs.sr
  have hx:=q4l (h1 0).tr c
  rw [show xev (q6l s.tm .lf) c=.bool v from hc] at hx
  have hcv:a.eval c=.bool v:=by
    generalize a.eval c=u at hx
    cases hx;rfl
  refine wpIn_cond hcv ?_
  cases v with
  | true=>exact ht h a w hs hv
  | false=>exact hf h a w hs hv
theorem qtg (hm:P.follows .mixedOrders=true) (hT:TysOK P T) (hC:OrcOK P C) {ns:List Nat} (hV:∀ n v,V n v→n∈ns) {R Y:Type} {r:R} {rid:Nat} {ops:Array Oper} {draw:Bool} {keep:List (Nat×Kd)} {s:St} {t:Dt Y} {S:Y→St} {K:Y→Option R}
    (hd:dstB ns ops=true) (hnd:qso ops=true) (hreg:treg T C N ops draw keep s some=t.eval fun y=>some (S y)) (h:t.eval K=some r) (hk:∀ y,K y=some r→CnI V w0 φ0 N (S y) Q .normal):RunI l P V w0 φ0 N (.region rid ops draw) s Q:=by
  obtain ⟨y,h1,h2⟩:=t.one h
  rw [h2] at hreg
  obtain ⟨s',h3,h4⟩:=q7g (D:=φ0.D) hm hT hC hreg
  injection h3 with h3;subst h3
  intro a w hs hv
  have h5:=h4 w0 φ0 a w (fun e a w=>e=.normal∧SS w0 φ0 N (S y) a w) rfl hs fun a' w' h=>⟨rfl,h⟩
  have h6:=qt0 (l:=l) (n:=0) (id:=rid) hm (by rintro ⟨a2,w2,h2⟩;cases h2.1.1) hnd (qt1 hV hd hv h5)
  refine wpIn_mono h6 fun e a' w' ⟨⟨he,h7⟩,h8⟩=>?_
  subst he
  exact hk y h1 a' w' h7 (h8 rfl)
end
structure OnlyB (b:Nat) (A B:World):Prop where
  size:B.heap.size=A.heap.size
  same:∀ k,k≠b→B.heap[k]?=A.heap[k]?
  os:B.os=A.os
  tape:B.tape=A.tape
  output:B.output=A.output
  drawn:B.drawn=A.drawn
theorem OnlyB.put (A:World) (b:Nat) (o:Obj):OnlyB b A (A.putObj b o):=⟨by rw [World.putObj_size],fun k hk=>World.putObj_heap_other hk,rfl,rfl,rfl,rfl⟩
theorem HR.only {M:Nat} {η:Emb} {H:LH} {A B:World} {b:Nat} (h:HR M η H A) (hb:OnlyB b A B) (hl:¬ LB H η b) (hf:η.fz b=none):HR M η H B where
  dom:=h.dom
  lt:=h.lt
  live k ob hk:=(h.live k ob hk).move (Emb.le_refl _) rfl (Nat.le_of_eq hb.size.symm) fun L hL=>hb.same _ fun he=>hl ⟨k,ob,L,hk,hL,he⟩
  inj:=h.inj
  fz k ob hk:=by rw [hb.same k fun he=>by rw [he,hf] at hk;cases hk];exact h.fz k ob hk
  sep:=h.sep
  ok:=h.ok
theorem Fr.only {w0:World} {φ0:Fz0} {H:LH} {η:Emb} {A B:World} {b:Nat} (h:Fr w0 φ0 H η A) (hb:OnlyB b A B) (h0:w0.heap.size≤b) (hk:∀ o,¬ φ0.K b o):Fr w0 φ0 H η B where
  size:=by rw [hb.size];exact h.size
  same k hlt:=(hb.same k (by omega)).trans (h.same k hlt)
  lb:=h.lb
  fz0:=h.fz0
  fzn:=h.fzn
  os:=hb.os.trans h.os
  tape:=hb.tape.trans h.tape
  output:=hb.output.trans h.output
  drawn:=by rw [hb.drawn];exact h.drawn
  kp k o ho:=by
    obtain ⟨h1,h2,h3⟩:=h.kp k o ho
    exact ⟨(hb.same k fun he=>hk o (by rw [← he];exact ho)).trans h1,h2,h3⟩
section
open Go.RowKit
variable {F:Fence} {n:Nat} {P:Program}
def SeqT {α:Type} (F:Fence) (n:Nat) (P:Program) (g:Nat) (lb:Array Value) (encs:α→Array Value) (b:Nat) (Kp:World→World→Prop) (xs:List α) (w:World):Prop :=
  ∀ (l:Nat) (J:(Nat→Prop)→List α→World→Prop) (W:World),Below w.heap.size w W→(∀ T s A B,J T s A→OnlyB b A B→J T s B) →
    (∀ T s A B,J T s A→Bel A B→J (fun k=>T k∨(A.heap.size≤k∧k<B.heap.size)) s B) →
    (∀ T pre x rest A,xs=pre++x :: rest→J T pre A→YieldAt F (n - 1) P l (encs x) A fun e B=>e=.returned (.bool true)∧J T (pre ++ [x]) B∧Kp A B∧∀ k,T k→B.heap[k]?=A.heap[k]?) →
    J (fun _=>False) [] W→CallsIn F n P g (#[.func (.yield l) #[] #[]] ++ lb) W fun e B=>(∃ v,e=.returned v)∧∃ T,J T xs B
theorem qth {α:Type} {g:Operand} {ps:Array Tmp} {assign body:Code} {Q:Exit→Act→World→Prop} {a:Act} {w:World}
    (hro:F.round=none) (h1:1≤n) {gf:Nat} {lb:Array Value} (hg:a.eval g=.func (.func gf) #[] lb) (hFg:F.fn gf) (eg:∀ args w,(callFunc gf args).run P w=.ok (.enter gf args) w)
    {encs:α→Array Value} {kb:Nat} {Kp:World→World→Prop} {xs:List α} (hseq:SeqT F (n - 1) P gf lb encs kb Kp xs w) (hkb:kb<w.heap.size)
    (hKt:∀ {A B D:World},Kp A B→Kp B D→Kp A D) (hKb:∀ (W:World) (o:Obj),Kp W (W.putObj (w.heap.size+1) o)) (hps:∀ x,(encs x).size=ps.size)
    (I:(Nat→Prop)→List α→World→Prop) (hIC:∀ T s A B,I T s A→OnlyB kb A B→I T s B) (hIB:∀ T s A B,I T s A→Bel A B→I (fun k=>T k∨(A.heap.size≤k∧k<B.heap.size)) s B)
    (hIp:∀ T s (A:World) (o:Obj),I T s A→w.heap.size+1<A.heap.size→I T s (A.putObj (w.heap.size+1) o)) (hT:∀ T s A k,I T s A→T k→k≠w.heap.size+1)
    (h0:∀ r,I (fun _=>False) [] ((w.alloc (.deferred (some []))).alloc (.loop r)))
    (hround:∀ (l:Nat) (T:Nat→Prop) (pre:List α) (x:α) (rest:List α) (W:World) (o o':Obj),xs=pre++x :: rest→I T pre W→W.heap[w.heap.size+1]?=some o→W.heap[w.heap.size]?=some o' →
      assign.wpIn (F.inRound l) (n - 1 - 1) P (Exit.then (fun a1 W1=>W1.heap[w.heap.size+1]?=some o∧Kp W W1∧(∀ k,T k→W1.heap[k]?=W.heap[k]?)∧∀ o2,
        body.wpIn (F.inRound l) (n - 1 - 1) P (fun e _ W'=>e=.normal∧W'.heap[w.heap.size+1]?=some o2∧W'.heap[w.heap.size]?=some o'∧Kp (W1.putObj (w.heap.size+1) o2) W'∧(∀ k,T k→W'.heap[k]?=W1.heap[k]?)∧I T (pre ++ [x]) W') a1 (W1.putObj (w.heap.size+1) o2)) (fun _ _ _=>False))
        { tmps:=(ps.zip (encs x)).foldl (fun t (p,v)=>t.setIfInBounds p v) a.tmps,defers:=[] } W)
    (hdone:∀ (T:Nat→Prop) (W:World),I T xs W→W.heap[w.heap.size]?=some (.deferred (some []))→Q .normal { a with defers:={ target:=.collected w.heap.size,args:=#[] } :: a.defers } W) :
    (Code.rangeFunc g ps assign body).wpIn F n P Q a w:=by
  refine wpIn_rangeFunc ?_
  intro fn hfn
  rw [hro]
  obtain ⟨rc,hrc⟩:∃ rc:LoopState→Loop,rc=fun st=>{ state:=st,pending:=none,fn,tmps:=a.tmps,params:=ps,assign,body,defers:=w.heap.size }:=⟨_,rfl⟩
  obtain ⟨V,hV⟩:∃ V,(w.alloc (.deferred (some []))).alloc (.loop (rc .ready))=V:=⟨_,rfl⟩
  have vl:V.heap[w.heap.size+1]?=some (.loop (rc .ready)):=by
    have:=World.alloc_heap_new (w.alloc (.deferred (some []))) (.loop (rc .ready))
    rw [World.size_alloc] at this
    rw [← hV];exact this
  have vd:V.heap[w.heap.size]?=some (.deferred (some [])):=by
    rw [← hV];exact (Below.heap_alloc _ _ _ (by simp)).trans (World.alloc_heap_new w _)
  have vb:Below w.heap.size w V:=by rw [← hV];exact ((Below.refl _ w).alloc (Nat.le_refl _) _).alloc (by simp) _
  have vI:I (fun _=>False) [] V:=by rw [← hV];exact h0 _
  refine ⟨w.heap.size+1,[{ target:=.collected w.heap.size,args:=#[] }],V,{ target:=.fn (.func gf) lb,args:=#[.func (.yield (w.heap.size+1)) #[] #[]] },V,gf,
    #[.func (.yield (w.heap.size+1)) #[] #[]] ++ lb,V,?_,?_,?_,?_,fun _=>h1,?_⟩
  · rw [← hV,hrc];exact run_enterLoop_outer _ _ _ _ _
  · simp only [resolve, hg]
    simp [go_sem]
  · intro f hf;simp [Target.leads] at hf;rw [← hf];exact hFg
  · simp [invoke,go_sem,eg]
  · refine (hseq (w.heap.size+1) (fun T pre W=>I T pre W∧W.heap[w.heap.size+1]?=some (.loop (rc .ready))∧W.heap[w.heap.size]?=some (.deferred (some []))) V vb
      (fun T s A B h hAB=>⟨hIC T s A B h.1 hAB,(hAB.same _ (by omega)).trans h.2.1,(hAB.same _ (by omega)).trans h.2.2⟩)
      (fun T s A B h hAB=>⟨hIB T s A B h.1 hAB,(hAB.block _ (Array.getElem?_eq_some_iff.1 h.2.1).1).trans h.2.1,(hAB.block _ (Array.getElem?_eq_some_iff.1 h.2.2).1).trans h.2.2⟩) ?_ ⟨vI,vl,vd⟩).mono ?_
    · rintro T pre x rest W hxs ⟨hi, hl, hk⟩
      have hlt:w.heap.size+1<W.heap.size:=(Array.getElem?_eq_some_iff.1 hl).1
      have hy:=run_yield (P:=P) (args:=encs x) hl (by rw [hrc];exact hps x)
      rw [hrc] at hy
      refine ⟨fn,_,assign,body,hy,roundIn_of_wpIn hfn (wpIn_mono (hround _ T pre x rest W _ _ hxs hi hl hk) ?_)⟩
      intro e a1 W1 hK
      have hn:e=.normal:=by cases e<;>first | rfl | exact (show False from hK).elim
      subst hn
      obtain ⟨hl1,hK1,hT1,hb⟩:=hK
      refine ⟨_,run_beginRound hl1 (by rw [hrc]),?_⟩
      refine wpIn_mono (hb _) ?_
      rintro e a3 Z ⟨rfl,zl,zd,zK,zT,zI⟩
      have hr:=run_endRound (P:=P) none zl
      rw [hrc] at hr
      have zlt:w.heap.size+1<Z.heap.size:=(Array.getElem?_eq_some_iff.1 zl).1
      refine ⟨_,_,hr,rfl,⟨hIp _ _ _ _ zI zlt,?_,?_⟩,hKt (hKt (hKt hK1 (hKb _ _)) zK) (hKb _ _),fun k hk=>(World.putObj_heap_other (hT _ _ _ k hi hk)).trans ((zT k hk).trans (hT1 k hk))⟩
      · rw [hrc];exact World.putObj_heap_same zlt
      · exact (World.putObj_heap_other (by omega)).trans zd
    · rintro e Z ⟨⟨v, rfl⟩, T, zI, zl, zd⟩
      have he:=run_endLoop (P:=P) zl (by rw [hrc];simp)
      rw [hrc] at he
      exact ⟨none,_,he,hdone T _ (hIp _ _ _ _ zI (Array.getElem?_eq_some_iff.1 zl).1) ((World.putObj_heap_other (by omega)).trans zd)⟩
end
end Go.Tx

namespace Go.Tx
open Go
def qti {α X:Type} (step:α→X→Option X):List α→X→Option X
  | [],x=>some x
  | a :: l,x=>match step a x with | some y=>qti step l y | none=>none
theorem qtj {α X:Type} (step:α→X→Option X):∀ (l:List α) (a:α) (m:List α) (x z:X),qti step (l++a :: m) x=some z→∃ y y',qti step l x=some y∧step a y=some y'∧qti step (l ++ [a]) x=some y'
  | [], a, m, x, z, h => by
    rw [List.nil_append,qti] at h
    cases hs:step a x with
    | none=>rw [hs] at h;cases h
    | some y'=>exact ⟨x,y',rfl,hs,by rw [List.nil_append,qti,hs];rfl⟩
  | b :: l, a, m, x, z, h => by
    rw [List.cons_append,qti] at h
    cases hs:step b x with
    | none=>rw [hs] at h;cases h
    | some x1 =>
      rw [hs] at h
      obtain ⟨y,y',h1,h2,h3⟩:=qtj step l a m x1 z h
      exact ⟨y,y',by rw [qti,hs];exact h1,h2,by rw [List.cons_append,qti,hs];exact h3⟩
def SX (w0:World) (φ0:Fz0) (tm:List (Nat×LV)) (ob:List Ob) (a:Act) (kb r:Nat) (T:Nat→Prop) (W:World):Prop :=
  ∃ η,(∀ M,HR M η (q6n ob) W)∧(∀ n l,(n,l)∈tm→∃ v,a.tmps[n]?=some v∧VR η l v)∧Fr w0 φ0 (q6n ob) η W∧(∀ k,k=kb∨k=r∨k=r+1∨T k→¬ LB (q6n ob) η k∧η.fz k=none)∧r+1<W.heap.size∧∀ k,T k→r+1<k∧k<W.heap.size
theorem SX.only {w0:World} {φ0:Fz0} {tm:List (Nat×LV)} {ob:List Ob} {a:Act} {kb r b:Nat} {T:Nat→Prop} {A B:World} (h:SX w0 φ0 tm ob a kb r T A) (hb:OnlyB b A B) (hbb:b=kb∨b=r∨b=r+1) (h0:w0.heap.size≤b) (hk:∀ o,¬ φ0.K b o):SX w0 φ0 tm ob a kb r T B:=by
  obtain ⟨η,h1,h2,h3,h4,h5,h6⟩:=h
  obtain ⟨g1,g2⟩:=h4 b (hbb.imp id (Or.imp id .inl))
  exact ⟨η,fun M=>(h1 M).only hb g1 g2,h2,h3.only hb h0 hk,h4,by rw [hb.size];exact h5,fun k hk=>by rw [hb.size];exact h6 k hk⟩
theorem HR.grow {M:Nat} {η:Emb} {H:LH} {A B:World} (h:HR M η H A) (hb:Bel A B):HR M η H B where
  dom:=h.dom
  lt:=h.lt
  live k ob hk:=(h.live k ob hk).move (Emb.le_refl _) rfl hb.size fun L hL=>hb.block _ ((h.live k ob hk).lt hL)
  inj:=h.inj
  fz k ob hk:=by rw [hb.block k (Array.getElem?_eq_some_iff.1 (h.fz k ob hk)).1];exact h.fz k ob hk
  sep:=h.sep
  ok:=h.ok
theorem Fr.grow {w0:World} {φ0:Fz0} {H:LH} {η:Emb} {A B:World} (h:Fr w0 φ0 H η A) (hb:Bel A B):Fr w0 φ0 H η B where
  size:=Nat.le_trans h.size hb.size
  same k hlt:=(hb.block k (Nat.lt_of_lt_of_le hlt h.size)).trans (h.same k hlt)
  lb:=h.lb
  fz0:=h.fz0
  fzn:=h.fzn
  os:=hb.os.trans h.os
  tape:=hb.tape.trans h.tape
  output:=hb.output.trans h.output
  drawn:=Nat.le_trans h.drawn hb.mono
  kp k o ho:=by
    obtain ⟨h1,h2,h3⟩:=h.kp k o ho
    exact ⟨(hb.block k (Array.getElem?_eq_some_iff.1 h1).1).trans h1,h2,h3⟩
theorem SX.grow {w0:World} {φ0:Fz0} {tm:List (Nat×LV)} {ob:List Ob} {a:Act} {kb r:Nat} {T:Nat→Prop} {A B:World} (h:SX w0 φ0 tm ob a kb r T A) (hb:Bel A B):SX w0 φ0 tm ob a kb r (fun k=>T k∨(A.heap.size≤k∧k<B.heap.size)) B:=by
  obtain ⟨η,h1,h2,h3,h4,h5,h6⟩:=h
  refine ⟨η,fun M=>(h1 M).grow hb,h2,h3.grow hb,fun k hk=>?_,Nat.lt_of_lt_of_le h5 hb.size,fun k hk=>?_⟩
  · rcases hk with hk | hk | hk | hk | ⟨hk, _⟩
    · exact h4 k (.inl hk)
    · exact h4 k (.inr (.inl hk))
    · exact h4 k (.inr (.inr (.inl hk)))
    · exact h4 k (.inr (.inr (.inr hk)))
    · refine ⟨fun ⟨j, ob', L, hj, hL, he⟩ => ?_, ?_⟩
      · have:=((h1 0).live j ob' hj).lt hL;omega
      · cases hf : η.fz k with
        | none=>rfl
        | some o=>have:=(Array.getElem?_eq_some_iff.1 ((h1 0).fz k o hf)).1;omega
  · rcases hk with hk | ⟨hk, hk2⟩
    · obtain ⟨g1, g2⟩ := h6 k hk
      exact ⟨g1,Nat.lt_of_lt_of_le g2 hb.size⟩
    · exact ⟨by omega,hk2⟩
theorem qtk {F:Fence} {P:Program} {c:Code} {Q:Exit→Act→World→Prop} {a:Act} {w:World} (hd:F.depth=none) {n m:Nat} (h:c.wpIn F n P Q a w):c.wpIn F m P Q a w:=fun b k cs hro hb _=>h b k cs hro hb fun d hd'=>by rw [hd] at hd';cases hd'
section
variable {P:Program} {N:Nat} {w0:World} {φ0:Fz0} {Q:Exit→Act→World→Prop}
def qtl {α X Z:Type} (A:α→X→Option Z) (B:Z→Option X) (x:α) (y:X):Option X:=Option.bind (A x y) B
theorem qtm {α X Z:Type} {g:Operand} {ps:Array Tmp} {assign body:Code} {a:Act} {w:World} {gf kb:Nat} {lb:Array Value} {encs:α→Array Value} {xs:List α} {A:α→X→Option Z} {B:Z→Option X} {S1:Z→St} {x0 z:X} {tmE:X→List (Nat×LV)} {keys:List Nat} {obs:X→List Ob} {xp:α→List (Nat×LV)} {ψ:Nat→Option Obj}
    (hkeys:∀ y n l,(n,l)∈tmE y→n∈keys) (hg:a.eval g=.func (.func gf) #[] lb) (eg:∀ args w,(callFunc gf args).run P w=.ok (.enter gf args) w)
    (hseq:SeqT Fence.wide 3 P gf lb encs kb (fun A B=>B.heap[kb]?=A.heap[kb]?∧∀ k ob,ψ k=some ob→A.heap[k]?=some ob→B.heap[k]?=some ob) xs w) (hkb:kb<w.heap.size) (hkb0:w0.heap.size≤kb) (hkK:∀ o,¬ φ0.K kb o) (hps:∀ x,(encs x).size=ps.size)
    (hD:φ0.D=a.defers)
    (hE:∃ η,(∀ M,HR M η (q6n (obs x0)) w)∧(∀ n l,(n,l)∈tmE x0→∃ v,a.tmps[n]?=some v∧VR η l v)∧Fr w0 φ0 (q6n (obs x0)) η w∧¬ LB (q6n (obs x0)) η kb∧η.fz kb=none∧∀ k ob,ψ k=some ob→η.fz k=some ob)
    (hxp:∀ (x:α) (t:Array Value),N≤t.size→N≤((ps.zip (encs x)).foldl (fun t (p,v)=>t.setIfInBounds p v) t).size∧(∀ n l,(n,l)∈xp x→∃ v,((ps.zip (encs x)).foldl (fun t (p,v)=>t.setIfInBounds p v) t)[n]?=some v∧∀ η,VR η l v)∧∀ n,n∈keys→((ps.zip (encs x)).foldl (fun t (p,v)=>t.setIfInBounds p v) t)[n]?=t[n]?)
    (hassign:∀ (l:Nat) (V:Nat→Value→Prop) (φ':Fz0) (Q:Exit→Act→World→Prop) x y z,A x y=some z→φ'.D=[]→(∀ n v,V n v→n∈keys)→CnI V w0 φ' N (S1 z) Q .normal→RunI l P V w0 φ' N assign ⟨xp x++tmE y,obs y⟩ Q)
    (hbody:∀ (l:Nat) (V:Nat→Value→Prop) (φ':Fz0) (Q:Exit→Act→World→Prop) z y',B z=some y'→φ'.D=[]→(∀ n v,V n v→n∈keys)→CnI V w0 φ' N ⟨tmE y',obs y'⟩ Q .normal→RunI l P V w0 φ' N body (S1 z) Q)
    (hz:qti (qtl A B) xs x0=some z)
    (hN:N≤a.tmps.size) (hkv:∀ n,n∈keys→∃ v,a.tmps[n]?=some v)
    (hk:∀ a' W,SS w0 ⟨φ0.φ,fun k o=>φ0.K k o∨(k=w.heap.size∧o=.deferred (some [])),⟨.collected w.heap.size,#[]⟩ :: φ0.D⟩ N ⟨tmE z,obs z⟩ a' W→Q .normal a' W) :
    (Code.rangeFunc g ps assign body).wp P Q a w:=by
  obtain ⟨η0,e1,e2,e3,e4,e5,e6⟩:=hE
  have e7:Fr w0 ⟨η0.fz,φ0.K,φ0.D⟩ (q6n (obs x0)) η0 w:=⟨e3.size,e3.same,e3.lb,fun _ _ h=>h,fun _ _ h=>.inl h,e3.os,e3.tape,e3.output,e3.drawn,e3.kp⟩
  have hKlt:∀ k o,φ0.K k o→k<w.heap.size:=fun k o h=>(Array.getElem?_eq_some_iff.1 (e3.kp k o h).1).1
  have hsz:=e3.size
  have hLlt:∀ k,LB (q6n (obs x0)) η0 k→k<w.heap.size:=fun k ⟨b,ob,L,h1,h2,h3⟩=>by rw [← h3];exact ((e1 0).live b ob h1).lt h2
  have hflt:∀ k ob,η0.fz k=some ob→k<w.heap.size:=fun k ob h=>(Array.getElem?_eq_some_iff.1 ((e1 0).fz k ob h)).1
  have hnone:∀ k,w.heap.size≤k→η0.fz k=none:=fun k hk=>by
    cases h:η0.fz k with
    | none=>rfl
    | some ob=>have:=hflt k ob h;omega
  refine wpIn_wide.1 (qth (F:=Fence.wide) (n:=4) rfl (by decide) hg trivial eg hseq hkb (fun h k=>⟨k.1.trans h.1,fun j ob hj hA=>k.2 j ob hj (h.2 j ob hj hA)⟩) (fun W o=>⟨World.putObj_heap_other (by omega),fun j ob hj hA=>(World.putObj_heap_other (by have:=hflt j ob (e6 j ob hj);omega)).trans hA⟩) hps
    (fun T pre W=>∃ y,qti (qtl A B) pre x0=some y∧SX w0 ⟨η0.fz,φ0.K,φ0.D⟩ (tmE y) (obs y) a kb w.heap.size T W)
    (fun T s A B ⟨y,h1,h2⟩ h=>⟨y,h1,h2.only h (.inl rfl) hkb0 hkK⟩) (fun T s A B ⟨y,h1,h2⟩ h=>⟨y,h1,h2.grow h⟩)
    (fun T s A o ⟨y,h1,h2⟩ hl=>⟨y,h1,h2.only (OnlyB.put A _ o) (.inr (.inr rfl)) (by omega) fun o h=>by have:=hKlt _ _ h;omega⟩)
    (fun T s A k ⟨y,h1,η,_,_,_,_,_,h6⟩ hk=>by have:=(h6 k hk).1;omega)
    ?_ ?_ ?_)
  · intro r
    refine ⟨x0,rfl,η0,fun M=>?_,e2,?_,fun k hk=>?_,by simp,fun k hk=>hk.elim⟩
    · exact (e1 M).grow (((Bel.refl w).alloc _).alloc _)
    · exact e7.grow (((Bel.refl w).alloc _).alloc _)
    · rcases hk with rfl | rfl | rfl | hk
      · exact ⟨e4,e5⟩
      · exact ⟨fun h=>by have:=hLlt _ h;omega,hnone _ (Nat.le_refl _)⟩
      · exact ⟨fun h=>by have:=hLlt _ h;omega,hnone _ (by omega)⟩
      · exact hk.elim
  · rintro l T pre x rest W o o' hxs ⟨y, hy, η, f1, f2, f3, f4, f5, f6⟩ hl hd
    obtain ⟨y1,y',g1,g2,g3⟩:=qtj (qtl A B) pre x rest x0 z (by rw [← hxs];exact hz)
    rw [hy] at g1;injection g1 with g1;subst g1
    obtain ⟨z1,hA,hB⟩:=Option.bind_eq_some_iff.1 g2
    have hkW:kb<W.heap.size:=by omega
    obtain ⟨q,hq⟩:∃ q,W.heap[kb]?=some q:=⟨_,Array.getElem?_eq_getElem hkW⟩
    obtain ⟨c1,c2,c3⟩:=hxp x a.tmps hN
    let φA:Obj→Fz0:=fun o=>⟨η0.fz,fun k u=>φ0.K k u∨(k=kb∧u=q)∨(k=w.heap.size∧u=o')∨(k=w.heap.size+1∧u=o)∨(T k∧W.heap[k]?=some u),[]⟩
    have hSS:SS w0 (φA o) N ⟨xp x++tmE y,obs y⟩ { tmps:=(ps.zip (encs x)).foldl (fun t (p,v)=>t.setIfInBounds p v) a.tmps,defers:=[] } W:=by
      refine ⟨⟨η,f1,fun n lv hn=>?_,⟨f3.size,f3.same,f3.lb,f3.fz0,f3.fzn,f3.os,f3.tape,f3.output,f3.drawn,fun k u hu=>?_⟩⟩,c1,rfl⟩
      · rcases List.mem_append.1 hn with hn | hn
        · obtain ⟨v, v1, v2⟩ := c2 n lv hn
          exact ⟨v,v1,v2 η⟩
        · obtain ⟨u, u1, u2⟩ := f2 n lv hn
          exact ⟨u,(c3 n (hkeys y n lv hn)).trans u1,u2⟩
      · rcases hu with hu | ⟨rfl, rfl⟩ | ⟨rfl, rfl⟩ | ⟨rfl, rfl⟩ | ⟨hu, hu2⟩
        · exact f3.kp k u hu
        · exact ⟨hq,f4 k (.inl rfl)⟩
        · exact ⟨hd,f4 _ (.inr (.inl rfl))⟩
        · exact ⟨hl,f4 _ (.inr (.inr (.inl rfl)))⟩
        · exact ⟨hu2,f4 k (.inr (.inr (.inr hu)))⟩
    have hKT:KT (fun n v=>n∈keys∧a.tmps[n]?=some v) { tmps:=(ps.zip (encs x)).foldl (fun t (p,v)=>t.setIfInBounds p v) a.tmps,defers:=[] }:=by
      rintro n v ⟨hn,hv⟩
      exact (c3 n hn).trans hv
    refine qtk rfl (wpIn_mono (hassign l (fun n v=>n∈keys∧a.tmps[n]?=some v) (φA o) (Exit.then (fun a1 W1=>SS w0 (φA o) N (S1 z1) a1 W1∧KT (fun n v=>n∈keys∧a.tmps[n]?=some v) a1) (fun _ _ _=>False)) x y z1 hA rfl (fun n v h=>h.1) (fun a' W' hs hv=>⟨hs,hv⟩) _ W hSS hKT) ?_)
    intro e a1 W1 hK
    have hn:e=.normal:=by cases e<;>first | rfl | exact (show False from hK).elim
    subst hn
    obtain ⟨hs1,hk1⟩:=hK
    obtain ⟨⟨η1,r1,r2,r3⟩,r4,r5⟩:=hs1
    obtain ⟨k1,k2,k3⟩:=r3.kp kb q (.inr (.inl ⟨rfl,rfl⟩))
    obtain ⟨k4,k5,k6⟩:=r3.kp w.heap.size o' (.inr (.inr (.inl ⟨rfl,rfl⟩)))
    obtain ⟨k7,k8,k9⟩:=r3.kp (w.heap.size+1) o (.inr (.inr (.inr (.inl ⟨rfl,rfl⟩))))
    have kT:∀ k,T k→W1.heap[k]?=W.heap[k]?∧¬ LB (q6n (S1 z1).ob) η1 k∧η1.fz k=none:=fun k hk=>by
      obtain ⟨u,hu⟩:∃ u,W.heap[k]?=some u:=⟨_,Array.getElem?_eq_getElem (f6 k hk).2⟩
      obtain ⟨s1,s2,s3⟩:=r3.kp k u (.inr (.inr (.inr (.inr ⟨hk,hu⟩))))
      exact ⟨s1.trans hu.symm,s2,s3⟩
    refine ⟨k7,⟨k1.trans hq.symm,fun k ob hψ _=>(r1 0).fz k ob (r3.fz0 k ob (e6 k ob hψ))⟩,fun k hk=>(kT k hk).1,fun o2=>?_⟩
    have hlt1:w.heap.size+1<W1.heap.size:=(Array.getElem?_eq_some_iff.1 k7).1
    have hob:=OnlyB.put W1 (w.heap.size+1) o2
    have hSS2:SS w0 (φA o2) N (S1 z1) a1 (W1.putObj (w.heap.size+1) o2):=by
      refine ⟨⟨η1,fun M=>(r1 M).only hob k8 k9,r2,⟨by rw [hob.size];exact r3.size,fun k hk=>(hob.same k (by omega)).trans (r3.same k hk),r3.lb,r3.fz0,r3.fzn,hob.os.trans r3.os,hob.tape.trans r3.tape,hob.output.trans r3.output,by rw [hob.drawn];exact r3.drawn,fun k u hu=>?_⟩⟩,r4,r5⟩
      rcases hu with hu | ⟨rfl,rfl⟩ | ⟨rfl,rfl⟩ | ⟨rfl,rfl⟩ | ⟨hu,hu2⟩
      · obtain ⟨s1, s2, s3⟩ := r3.kp k u (.inl hu)
        exact ⟨(hob.same k (by have:=hKlt _ _ hu;omega)).trans s1,s2,s3⟩
      · exact ⟨(hob.same k (by omega)).trans k1,k2,k3⟩
      · exact ⟨(hob.same _ (by omega)).trans k4,k5,k6⟩
      · exact ⟨World.putObj_heap_same hlt1,k8,k9⟩
      · obtain ⟨s1, s2, s3⟩ := kT k hu
        exact ⟨(hob.same k (by have:=(f6 k hu).1;omega)).trans (s1.trans hu2),s2,s3⟩
    refine qtk rfl (hbody l (fun n v=>n∈keys∧a.tmps[n]?=some v) (φA o2) _ z1 y' hB rfl (fun n v h=>h.1) (fun a' W' hs hv=>?_) a1 _ hSS2 hk1)
    obtain ⟨⟨η',t1,t2,t3⟩,_,_⟩:=hs
    obtain ⟨m1,m2,m3⟩:=t3.kp kb q (.inr (.inl ⟨rfl,rfl⟩))
    obtain ⟨m4,m5,m6⟩:=t3.kp w.heap.size o' (.inr (.inr (.inl ⟨rfl,rfl⟩)))
    obtain ⟨m7,m8,m9⟩:=t3.kp (w.heap.size+1) o2 (.inr (.inr (.inr (.inl ⟨rfl,rfl⟩))))
    have mT:∀ k,T k→W'.heap[k]?=W1.heap[k]?∧¬ LB (q6n (obs y')) η' k∧η'.fz k=none:=fun k hk=>by
      obtain ⟨u,hu⟩:∃ u,W.heap[k]?=some u:=⟨_,Array.getElem?_eq_getElem (f6 k hk).2⟩
      obtain ⟨s1,s2,s3⟩:=t3.kp k u (.inr (.inr (.inr (.inr ⟨hk,hu⟩))))
      exact ⟨s1.trans (hu.symm.trans (kT k hk).1.symm),s2,s3⟩
    refine ⟨rfl,m7,m4,⟨m1.trans ((hob.same kb (by omega)).trans k1).symm,fun k ob hψ _=>(t1 0).fz k ob (t3.fz0 k ob (e6 k ob hψ))⟩,fun k hk=>(mT k hk).1,y',g3,η',t1,fun n lv hn=>?_,⟨t3.size,t3.same,t3.lb,t3.fz0,t3.fzn,t3.os,t3.tape,t3.output,t3.drawn,fun k u hu=>t3.kp k u (.inl hu)⟩,fun k hk=>?_,(Array.getElem?_eq_some_iff.1 m7).1,fun k hk=>⟨(f6 k hk).1,by
      obtain ⟨u,hu⟩:∃ u,W.heap[k]?=some u:=⟨_,Array.getElem?_eq_getElem (f6 k hk).2⟩
      exact (Array.getElem?_eq_some_iff.1 ((mT k hk).1.trans ((kT k hk).1.trans hu))).1⟩⟩
    · obtain ⟨v, v1, v2⟩ := t2 n lv hn
      have hkn:=hkeys y' n lv hn
      obtain ⟨u,u1⟩:=hkv n hkn
      have:=hv n u ⟨hkn,u1⟩
      rw [v1] at this;injection this with this;subst this
      exact ⟨v,u1,v2⟩
    · rcases hk with rfl | rfl | rfl | hk
      · exact ⟨m2,m3⟩
      · exact ⟨m5,m6⟩
      · exact ⟨m8,m9⟩
      · exact (mT k hk).2
  · rintro T W ⟨y, hy, η, f1, f2, f3, f4, f5, f6⟩ hd
    rw [hz] at hy;injection hy with hy;subst hy
    refine hk _ W ⟨⟨η,f1,f2,⟨f3.size,f3.same,f3.lb,fun k ob h=>f3.fz0 k ob (e3.fz0 k ob h),fun k ob h=>(f3.fzn k ob h).elim (e3.fzn k ob) .inr,f3.os,f3.tape,f3.output,f3.drawn,fun k o h=>?_⟩⟩,hN,by rw [hD]⟩
    rcases h with h | ⟨rfl,rfl⟩
    · exact f3.kp k o h
    · obtain ⟨h1, h2⟩ := f4 w.heap.size (.inr (.inl rfl))
      exact ⟨hd,h1,h2⟩
def qtn (P:Program) {α:Type} (gf:Nat) (cs0:List LV) (encs:α→Array Value) (xs:List α):Prop :=
  ∀ (w:World) (η:Emb) (L:Loc),At η w cs0 L→(∀ k ob,η.fz k=some ob→w.heap[k]?=some ob)→SeqT Fence.wide 3 P gf #[.pointer (some ⟨L.block,L.base+0,none⟩)] encs L.block (fun A B=>B.heap[L.block]?=A.heap[L.block]?∧∀ k ob,η.fz k=some ob→A.heap[k]?=some ob→B.heap[k]?=some ob) xs w
def qto (w0:World) (φ0 φ':Fz0):Prop:=∃ d,w0.heap.size≤d∧φ'=⟨φ0.φ,fun k o=>φ0.K k o∨(k=d∧o=.deferred (some [])),⟨.collected d,#[]⟩ :: φ0.D⟩
theorem qtp {α X Z:Type} {g:Operand} {ps:Array Tmp} {assign body:Code} {gf b0:Nat} {cs0:List LV} {encs:α→Array Value} {xs:List α} {A:α→X→Option Z} {B:Z→Option X} {S1:Z→St} {x0 z:X} {tm:List (Nat×LV)} {tmE:X→List (Nat×LV)} {keys:List Nat} {ob:List Ob} {obs:X→List Ob} {xp:α→List (Nat×LV)} {ks:List Nat}
    (hkeys:∀ y n l,(n,l)∈tmE y→n∈keys) (hkeys0:keys.all (fun n=>(tmE x0).any fun p=>Nat.beq n p.1)=true) (hgx:stev ⟨tm,ob⟩ g=.fn gf [.ptr b0 0]) (hob:ob[b0]?=some (.cells cs0)) (hnum:tnum (qcp ks tm) (q6n ob) some=some ⟨tmE x0,obs x0⟩)
    (hb0:memB (q5b (q6n ob) 1000 ((qcp ks tm).flatMap fun p=>q59 p.2) []) b0=false)
    (eg:∀ args w,(callFunc gf args).run P w=.ok (.enter gf args) w) (hit:qtn P gf cs0 encs xs) (hps:∀ x,(encs x).size=ps.size)
    (hxp:∀ (x:α) (t:Array Value),N≤t.size→N≤((ps.zip (encs x)).foldl (fun t (p,v)=>t.setIfInBounds p v) t).size∧(∀ n l,(n,l)∈xp x→∃ v,((ps.zip (encs x)).foldl (fun t (p,v)=>t.setIfInBounds p v) t)[n]?=some v∧∀ η,VR η l v)∧∀ n,n∈keys→((ps.zip (encs x)).foldl (fun t (p,v)=>t.setIfInBounds p v) t)[n]?=t[n]?)
    (hassign:∀ (l:Nat) (V:Nat→Value→Prop) (φ':Fz0) (Q:Exit→Act→World→Prop) x y z,A x y=some z→φ'.D=[]→(∀ n v,V n v→n∈keys)→CnI V w0 φ' N (S1 z) Q .normal→RunI l P V w0 φ' N assign ⟨xp x++tmE y,obs y⟩ Q)
    (hbody:∀ (l:Nat) (V:Nat→Value→Prop) (φ':Fz0) (Q:Exit→Act→World→Prop) z y',B z=some y'→φ'.D=[]→(∀ n v,V n v→n∈keys)→CnI V w0 φ' N ⟨tmE y',obs y'⟩ Q .normal→RunI l P V w0 φ' N body (S1 z) Q)
    (hz:qti (qtl A B) xs x0=some z)
    (hk:∀ φ',qto w0 φ0 φ'→Cn w0 φ' N ⟨tmE z,obs z⟩ Q .normal):Run P w0 φ0 N (.rangeFunc g ps assign body) ⟨tm,ob⟩ Q:=by
  intro a w hs
  have hs0:=hs
  obtain ⟨⟨η,h1,h2,h3⟩,h4,h5⟩:=hs
  have hv:VR η (.fn gf [.ptr b0 0]) (a.eval g):=by
    have hx:=q4l (η:=η) (t:=q6l tm .lf) (a:=a) (fun n l hl=>by
      rcases q6o tm .lf n l hl with h6 | h6
      · exact h2 n l h6
      · rw [Tr.get_lf] at h6;cases h6) g
    rwa [show xev (q6l tm .lf) g=.fn gf [.ptr b0 0] from hgx] at hx
  generalize hge:a.eval g=gv at hv
  cases hv with
  | fn hl hh =>
    obtain ⟨v,rfl,hp⟩:=vrs1 ⟨hl,hh⟩
    cases hp with
    | ptr hL =>
      rename_i L
      have hget:(q6n ob).get b0=some (.cells cs0):=by rw [q6q];exact hob
      have hat:=((h1 0).live b0 _ hget).at hL
      have hlb:LB (q6n ob) η L.block:=⟨b0,_,L,hget,hL,rfl⟩
      unfold tnum at hnum
      generalize hρ:q5b (q6n ob) 1000 ((qcp ks tm).flatMap fun p=>q59 p.2) []=ρ at hnum hb0
      simp only at hnum
      rw [Bool.cond_eq_ite] at hnum
      split at hnum
      · rename_i hn
        split at hnum
        · rename_i tm' obs' g1 g2
          injection hnum with hnum
          injection hnum with q1 q2
          subst q1;subst q2
          obtain ⟨_,e2⟩:=q78 ρ g2
          have hE2:∀ n l',(n,l')∈tmE x0→∃ v,a.tmps[n]?=some v∧VR (η.sub ρ) l' v:=fun n l' hl'=>by
            obtain ⟨l,m1,m2⟩:=q7a _ g1 n l' hl'
            obtain ⟨u,u1,u2⟩:=h2 n l (qcq ks tm _ m1)
            exact ⟨u,u1,q70 ρ m2 u2⟩
          refine qtm (ψ:=η.fz) hkeys hge eg (hit w η L hat (h1 0).fz) hat.lt (h3.lb _ hlb) (fun o ho=>(h3.kp _ o ho).2.1 hlb) hps h5.symm
            ⟨η.sub ρ,q7d hn g2 (h1 0),hE2,q7e g2 h3,fun ⟨j,ob',L',hj,hL',hk'⟩=>?_,(h1 0).sep _ hlb,fun k ob h=>h⟩ hxp hassign hbody hz h4 (fun n hn=>by
              have:=List.all_eq_true.1 hkeys0 n hn
              obtain ⟨⟨n',l⟩,m1,m2⟩:=List.any_eq_true.1 this
              obtain rfl:=Nat.eq_of_beq_eq_true m2
              obtain ⟨v,v1,_⟩:=hE2 _ l m1
              exact ⟨v,v1⟩) (fun a' W hss=>hk _ ⟨_,h3.size,rfl⟩ a' W hss)
          · rw [q6q] at hj
            obtain ⟨n,ob1,m1,m2,m3⟩:=e2 j ob' hj
            have hLn:η.loc n=some L':=by unfold Emb.sub at hL';simpa only [m1,Option.bind_some] using hL'
            have:n=b0:=(h1 0).inj n b0 _ _ _ _ m2 hget hLn hL hk'
            subst this
            rw [q53.2 (List.mem_of_getElem? m1)] at hb0
            cases hb0
        · cases hnum
      · cases hnum
def EndM (T:Tys) (w0:World) (φ0:Fz0) (N:Nat) (rs:List ResultVar) (out:LV×List Ob) (Q:Exit→Act→World→Prop):Prop :=
  End T w0 φ0 N rs out Q∧∀ φ',qto w0 φ0 φ'→End T w0 φ' N rs out Q
theorem qtq {T : Tys} (hT : TysOK P T) {S : Spec} {fn : Func} {c : Code} (hfn : P.funcs[S.g]? = some fn) (hc : fn.body = some c) (hname : ¬ fn.name = "runtime.NumGoroutine")
    (h:∀ x r,S.F x=some r→∀ w0 φ0 Q,EndM T w0 φ0 fn.ntmps fn.results.toList (S.enc r) Q→Run P w0 φ0 fn.ntmps c ⟨nums 0 (q87 S.τs x),[]⟩ Q):COK P S:=by
  refine ⟨fun x r hx w φ vs hφ hv=>?_,fn,c,hfn,hc,hname⟩
  refine callsIn_wide.1 (callsIn_of_wp_marks (n:=0) hfn hc trivial (wpIn_wide.2 ?_) rfl)
  have plain:∀ s,tfin T fn.results.toList s=some (S.enc r)→∀ a w',SS w (noK φ) fn.ntmps s a w'→LeavesInM Fence.wide 0 P fn a.tmps (fun e w'=>∃ v' η',e=.returned v'∧VR η' (S.enc r).1 v'∧(∀ M,HR M η' (q6n (S.enc r).2) w')∧Fr w (noK φ) (q6n (S.enc r).2) η' w') [] .returning w':=fun s hs a w' hss =>
    (q8b (S:=S) (r:=r) hT hs a w' hss).2
  have e1:∀ s,tfin T fn.results.toList s=some (S.enc r)→∀ a w',SS w (noK φ) fn.ntmps s a w'→LeavesInM Fence.wide 0 P fn a.tmps (fun e w'=>∃ v' η',e=.returned v'∧VR η' (S.enc r).1 v'∧(∀ M,HR M η' (q6n (S.enc r).2) w')∧Fr w (noK φ) (q6n (S.enc r).2) η' w') a.defers .returning w':=fun s hs a w' hss=>by
    rw [hss.defers];exact plain s hs a w' hss
  have e2:∀ φ',qto w (noK φ) φ'→∀ s,tfin T fn.results.toList s=some (S.enc r)→∀ a w',SS w φ' fn.ntmps s a w'→LeavesInM Fence.wide 0 P fn a.tmps (fun e w'=>∃ v' η',e=.returned v'∧VR η' (S.enc r).1 v'∧(∀ M,HR M η' (q6n (S.enc r).2) w')∧Fr w (noK φ) (q6n (S.enc r).2) η' w') a.defers .returning w':=by
    rintro φ' ⟨d,hd,rfl⟩ s hs a w' hss
    rw [hss.defers]
    obtain ⟨η,h1,h2,h3⟩:=hss.emb
    obtain ⟨k1,k2,k3⟩:=h3.kp d _ (.inr ⟨rfl,rfl⟩)
    have hb:=OnlyB.put w' d (.deferred none)
    have h3':Fr w (noK φ) (q6n s.ob) η w':=⟨h3.size,h3.same,h3.lb,h3.fz0,h3.fzn,h3.os,h3.tape,h3.output,h3.drawn,fun k o h=>h.elim⟩
    refine ⟨by simp,.inl ⟨d,_,rfl,run_takeDeferred k1,?_⟩⟩
    exact plain s hs { a with defers:=[] } _ ⟨⟨η,fun M=>(h1 M).only hb k2 k3,h2,h3'.only hb hd fun o h=>h⟩,hss.size,rfl⟩
  refine h x r hx w (noK φ) _ ⟨fun s hs=>⟨fun a w' hss=>e1 s hs a w' hss,fun a w' hss=>e1 s hs a w' hss⟩,fun φ' hl s hs=>⟨fun a w' hss=>e2 φ' hl s hs a w' hss,fun a w' hss=>e2 φ' hl s hs a w' hss⟩⟩ _ w ⟨⟨Emb.fro φ,q89 hφ,fun n l hl=>?_,q8a w φ⟩,?_,rfl⟩
  · obtain ⟨_, h2⟩ := q88 _ 0 n l hl
    rw [Nat.sub_zero] at h2
    obtain ⟨v,e1,e2⟩:=hv.get h2
    refine ⟨v,?_,e2⟩
    have hlt:=(List.getElem?_eq_some_iff.1 e1).1
    rw [Array.getElem?_append_left (by simpa using hlt)]
    simpa using e1
  · simp;omega
end
end Go.Tx

namespace Go.Tx
open Go Go.RegC
theorem qtr {α:Type} {c:Bool} {A:Option α} {r:α} (h:(bif c then A else none)=some r):c=true∧A=some r:=by
  cases c with
  | true=>exact ⟨rfl,h⟩
  | false=>cases h
theorem qts {k:List Nat} {tm:List (Nat×LV)} (hk:k=tm.map Prod.fst) {n:Nat} {l:LV} (h:(n,l)∈tm):n∈k:=by
  rw [hk];exact List.mem_map.2 ⟨(n,l),h,rfl⟩
theorem qtt {a:Array Value} {i:Nat} {v:Value} (h:i<a.size):(a.setIfInBounds i v)[i]?=some v:=by
  simp [Array.getElem?_setIfInBounds,h]
theorem qtu {a:Array Value} {i j:Nat} {v:Value} (h:Nat.beq i j=false):(a.setIfInBounds i v)[j]?=a[j]? :=
  Array.getElem?_setIfInBounds_ne (Nat.ne_of_beq_eq_false h)
theorem qtv {V:Nat→Value→Prop} {w0:World} {φ0:Fz0} {N:Nat} {tm:List (Nat×LV)} {ob:List Ob} {s:St} {Q:Exit→Act→World→Prop} {e:Exit} (ks:List Nat) (hs:tnum (qcp ks tm) (q6n ob) some=some s) (h:CnI V w0 φ0 N s Q e):CnI V w0 φ0 N ⟨tm,ob⟩ Q e:=fun a w hss hv=>by
  obtain ⟨s',h1,h2⟩:=q7f hs
  injection h1 with h1;subst h1
  obtain ⟨⟨η,g1,g2,g3⟩,g4,g5⟩:=hss
  exact h a w (h2 w0 φ0 0 η w a N (g1 0) (fun n l hl=>g2 n l (qcq ks tm _ hl)) g3 g4 g5) hv
theorem qtx {p q:Nat} {v u:Value} {t:Array Value}:((#[p,q]:Array Tmp).zip #[v,u]).foldl (fun t (p,v)=>t.setIfInBounds p v) t=(t.setIfInBounds p v).setIfInBounds q u:=by simp
end Go.Tx

namespace Go.Tx
open Go Go.Sort Go.RowKit Go.Proofs Go.Shelf
theorem qty {α:Type} [Inhabited α] (enc:α→List Value) (k:Nat) (hk:∀ x,(enc x).length=k):∀ (l:List α),(flatK enc k l.toArray).toList=l.flatMap enc:=by
  intro l
  have key:∀ (l:List α) (t:Nat),t<l.length*k→(l.flatMap enc)[t]?=some ((enc l[t / k]!)[t % k]!):=by
    intro l
    induction l with
    | nil=>intro t ht;simp at ht
    | cons a r ih =>
      intro t ht
      have k0:0<k:=by
        rcases Nat.eq_zero_or_pos k with h | h
        · subst h;simp at ht
        · exact h
      rw [List.flatMap_cons]
      by_cases hlt:t<k
      · rw [List.getElem?_append_left (by rw [hk]; exact hlt), Nat.div_eq_of_lt hlt, Nat.mod_eq_of_lt hlt]
        have:t<(enc a).length:=by rw [hk];exact hlt
        simp [this]
      · rw [List.getElem?_append_right (by rw [hk]; omega), hk]
        have h2:t - k<r.length*k:=by
          rw [List.length_cons,Nat.add_mul,Nat.one_mul] at ht;omega
        rw [ih (t - k) h2]
        have e1:t / k=(t - k) / k+1:=by
          have:=Nat.div_eq_sub_div k0 (by omega:k≤t)
          omega
        have e2:t % k=(t - k) % k:=Nat.mod_eq_sub_mod (by omega)
        rw [e1,e2]
        simp
  have hlen:(l.flatMap enc).length=l.length*k:=by
    induction l with
    | nil=>simp
    | cons a r ih=>rw [List.flatMap_cons,List.length_append,ih,hk,List.length_cons,Nat.add_mul,Nat.one_mul];omega
  apply List.ext_getElem?
  intro t
  by_cases ht:t<l.length*k
  · rw [key l t ht]
    simp [flatK,ht]
  · rw [List.getElem?_eq_none (by simp [flatK];omega),List.getElem?_eq_none (by rw [hlen];omega)]
def eqR:(τ:Row)→den τ→den τ→Bool
  | .nil,_,_=>true
  | .int _ r,x,y=>x.1 == y.1&&eqR r x.2 y.2
  | .bool r,x,y=>x.1 == y.1&&eqR r x.2 y.2
  | .sl _ _,_,_=>false
theorem qtz:∀ (τ:Row) (x y:den τ),eqR τ x y=true→x=y
  | .nil,_,_,_=>rfl
  | .int k r, x, y, h => by
    rw [eqR,Bool.and_eq_true,beq_iff_eq] at h
    exact Prod.ext h.1 (qtz r x.2 y.2 h.2)
  | .bool r, x, y, h => by
    rw [eqR,Bool.and_eq_true,beq_iff_eq] at h
    exact Prod.ext h.1 (qtz r x.2 y.2 h.2)
  | .sl _ _,_,_,h=>by cases h
section
variable {τ:Row} (F:den τ×den τ×Unit→Option Int)
def cmpV (x y:den τ):Int:=match F (x,y,()) with | some n=>n | none=>0
def ltV (x y:den τ):Bool:=decide (cmpV F x y<0)
def qu0 (xs:List (den τ)):Bool :=
  xs.all (fun x=>xs.all fun y=>(F (x,y,())).isSome)&&xs.all (fun x=>!(ltV F x x)) &&
  xs.all (fun x=>xs.all fun y=>!(ltV F x y) || xs.all fun z=>!(ltV F y z) || ltV F x z) &&
  xs.all (fun x=>xs.all fun y=>ltV F x y || xs.all fun z=>ltV F y z || !(ltV F x z)) &&
  xs.all (fun x=>xs.all fun y=>ltV F x y || ltV F y x || eqR τ x y)
end
def insL {α:Type} (lt:α→α→Bool) (x:α):List α→List α
  | []=>[x]
  | y :: ys=>bif lt x y then x :: y :: ys else y :: insL lt x ys
def qu1 {α:Type} (lt:α→α→Bool):List α→List α
  | []=>[]
  | x :: xs=>insL lt x (qu1 lt xs)
def qu2 {τ:Row} (F:den τ×den τ×Unit→Option Int) (xs:List (den τ)):Option (List (den τ)):=bif Nat.ble xs.length 1000000&&qu0 F xs then some (qu1 (ltV F) xs) else none
theorem qu3 {α:Type} (lt:α→α→Bool) (x:α):∀ l:List α,(insL lt x l).Perm (x :: l)
  | []=>.refl _
  | y :: ys => by
    rw [insL]
    cases lt x y with
    | true=>exact .refl _
    | false=>exact ((qu3 lt x ys).cons y).trans (.swap x y ys)
theorem qu4 {α:Type} (lt:α→α→Bool):∀ l:List α,(qu1 lt l).Perm l
  | []=>.refl _
  | x :: xs=>by rw [qu1];exact (qu3 lt x _).trans ((qu4 lt xs).cons x)
theorem qu5 {α:Type} {lt:α→α→Bool} {S:α→Prop} (has:∀ a b,S a→S b→lt a b=true→lt b a=false) (hn:∀ a b c,S a→S b→S c→lt a b=false→lt b c=false→lt a c=false) {x:α} (hx:S x):∀ l:List α,(∀ a∈l,S a)→l.Pairwise (fun a b=>lt b a=false)→(insL lt x l).Pairwise (fun a b=>lt b a=false)
  | [],_,_=>List.pairwise_singleton _ _
  | y :: ys, hS, hp => by
    obtain ⟨h1,h2⟩:=List.pairwise_cons.1 hp
    have hy:=hS y (List.mem_cons_self ..)
    rw [insL]
    cases hl:lt x y with
    | true =>
      refine List.pairwise_cons.2 ⟨fun b hb=>?_,hp⟩
      have hyx:=has x y hx hy hl
      rcases List.mem_cons.1 hb with rfl | hb
      · exact hyx
      · exact hn b y x (hS b (List.mem_cons_of_mem _ hb)) hy hx (h1 b hb) hyx
    | false =>
      refine List.pairwise_cons.2 ⟨fun b hb=>?_,qu5 has hn hx ys (fun a ha=>hS a (List.mem_cons_of_mem _ ha)) h2⟩
      rcases List.mem_cons.1 ((qu3 lt x ys).mem_iff.1 hb) with rfl | hb
      · exact hl
      · exact h1 b hb
theorem qu6 {α:Type} {lt:α→α→Bool} {S:α→Prop} (has:∀ a b,S a→S b→lt a b=true→lt b a=false) (hn:∀ a b c,S a→S b→S c→lt a b=false→lt b c=false→lt a c=false):∀ l:List α,(∀ a∈l,S a)→(qu1 lt l).Pairwise (fun a b=>lt b a=false)
  | [],_=>.nil
  | x :: xs, hS => by
    rw [qu1]
    exact qu5 has hn (hS x (List.mem_cons_self ..)) _ (fun a ha=>hS a (List.mem_cons_of_mem _ ((qu4 lt xs).mem_iff.1 ha))) (qu6 has hn xs fun a ha=>hS a (List.mem_cons_of_mem _ ha))
theorem qu8 {η:Emb}:∀ (τ:Row) (x:den τ),qbt τ=true→VRs η (split τ x) (qgt τ x)
  | .nil,_,_=>VRs.nil
  | .int k r,x,hp=>VRs.cons (.int _ _) (qu8 r x.2 hp)
  | .bool r,x,hp=>VRs.cons (.bool _) (qu8 r x.2 hp)
  | .sl e r,_,hp=>by cases hp
theorem qu9:∀ (τ:Row) (x:den τ),qbt τ=true→∀ v∈qgt τ x,v.oneCell'=true
  | .nil,_,_,v,hv=>by simp [qgt] at hv
  | .int k r, x, hp, v, hv => by
    rw [qgt] at hv
    rcases List.mem_cons.1 hv with rfl | hv
    · rfl
    · exact qu9 r x.2 hp v hv
  | .bool r, x, hp, v, hv => by
    rw [qgt] at hv
    rcases List.mem_cons.1 hv with rfl | hv
    · rfl
    · exact qu9 r x.2 hp v hv
  | .sl e r,_,hp,_,_=>by cases hp
theorem qua {η:Emb} {τ:Row} (hp:qbt τ=true):∀ xs:List (den τ),VRs η (flat τ xs) (qgu τ xs)
  | []=>VRs.nil
  | x :: xs=>by rw [flat,qgu];exact (qu8 τ x hp).append (qua hp xs)
theorem qub {η:Emb} {τ:Row} (hp:qbt τ=true) (xs:List (den τ)) (j:Nat) (c:LV) (hc:(flat τ xs)[j]?=some c) (v:Value) (hv:VR η c v):(qgu τ xs)[j]?=some v:=by
  have hl:=(qua (η:=η) hp xs).1
  have hj:j<(qgu τ xs).length:=by rw [← hl];exact (List.getElem?_eq_some_iff.1 hc).1
  obtain ⟨u,hu⟩:∃ u,(qgu τ xs)[j]?=some u:=⟨_,List.getElem?_eq_getElem hj⟩
  have h2:=(qua (η:=η) hp xs).2 j c u hc hu
  obtain ⟨x,hx⟩:=q72 τ xs (List.mem_of_getElem? hc)
  have:u=v:=by
    have hp2:∀ (σ:Row) (y:den σ),qbt σ=true→∀ d∈split σ y,(∃ k n,d=.int k n) ∨ ∃ b,d=.bool b:=by
      intro σ
      induction σ with
      | nil=>intro y _ d hd;simp [split] at hd
      | int k r ih =>
        intro y hpp d hd
        rw [split] at hd
        rcases List.mem_cons.1 hd with rfl | hd
        · exact .inl ⟨_,_,rfl⟩
        · exact ih y.2 hpp d hd
      | bool r ih =>
        intro y hpp d hd
        rw [split] at hd
        rcases List.mem_cons.1 hd with rfl | hd
        · exact .inr ⟨_,rfl⟩
        · exact ih y.2 hpp d hd
      | sl e r _ _=>intro y hpp;cases hpp
    rcases hp2 τ x hp c hx with ⟨k,n,rfl⟩ | ⟨b,rfl⟩
    · cases h2;cases hv;rfl
    · cases h2;cases hv;rfl
  rw [hu,this]
theorem quc {τ:Row}:∀ xs:List (den τ),qgu τ xs=xs.flatMap (qgt τ)
  | []=>rfl
  | x :: xs=>by rw [qgu,List.flatMap_cons,quc xs]
theorem qud {M:Nat} {H:LH} {η:Emb} {w w':World} (h:HR M η H w) {b:Nat} {τ:Row} {xs ys:List (den τ)} (hg:H.get b=some (.rows τ xs)) (hlv:Lv η w' b (.rows τ ys)) (hs:w.heap.size≤w'.heap.size)
    (hother:∀ k,k<w.heap.size→(∀ L,η.loc b=some L→k≠L.block)→w'.heap[k]?=w.heap[k]?) (e1:w'.os=w.os) (e2:w'.tape=w.tape) (e3:w'.output=w.output) (e4:w.drawn≤w'.drawn) :
    Adv M H η w (H.put b (some (.rows τ ys))) η w':=by
  have hget:∀ x ob2,(H.put b (some (.rows τ ys))).get x=some ob2→(x=b∧ob2=.rows τ ys)∨(x≠b∧H.get x=some ob2):=fun x ob2 hx=>by
    rw [LH.get_put] at hx
    split at hx
    · rename_i he;injection hx with hx;exact .inl ⟨he,hx.symm⟩
    · rename_i he;exact .inr ⟨he,hx⟩
  have hg0:∀ x ob2,(H.put b (some (.rows τ ys))).get x=some ob2→∃ ob0,H.get x=some ob0:=fun x ob2 hx=>by
    rcases hget x ob2 hx with ⟨rfl,_⟩ | ⟨_,hg'⟩
    · exact ⟨_,hg⟩
    · exact ⟨_,hg'⟩
  have hlb:∀ k,LB (H.put b (some (.rows τ ys))) η k→LB H η k:=fun k ⟨x,ob2,L',hx,hL',hk⟩=>let ⟨ob0,hg'⟩:=hg0 _ _ hx;⟨x,ob0,L',hg',hL',hk⟩
  refine ⟨Emb.le_refl _,fun _ _=>⟨rfl,rfl⟩,Nat.le_refl _,⟨h.dom,fun x ob2 hx=>let ⟨_,hg'⟩:=hg0 x ob2 hx;h.lt x _ hg',fun x ob2 hx=>?_,fun b1 b2 c1 c2 L1 L2 h1 h2 f1 f2 he=>?_,fun k o2 hk=>?_,fun k hk=>h.sep k (hlb k hk),h.ok⟩,hs,fun k hk hn=>hother k hk fun L hL he=>hn ⟨b,_,L,hg,hL,he.symm⟩,
    fun k hk=>.inl (hlb k hk),fun _ _ hk=>.inl hk,e1,e2,e3,e4⟩
  · rcases hget x ob2 hx with ⟨rfl, rfl⟩ | ⟨hne, hg'⟩
    · exact hlv
    · have hl := h.live x ob2 hg'
      exact hl.move (Emb.le_refl _) rfl hs fun L' hL'=>hother _ (hl.lt hL') fun L hL he=>hne (h.inj _ _ _ _ _ _ hg' hg hL' hL he)
  · obtain ⟨d1, g1⟩ := hg0 _ _ h1
    obtain ⟨d2,g2⟩:=hg0 _ _ h2
    exact h.inj _ _ _ _ _ _ g1 g2 f1 f2 he
  · have hk0 := h.fz k o2 hk
    rw [hother k (Array.getElem?_eq_some_iff.1 hk0).1 fun L hL he=>by
      have:=h.sep L.block ⟨b,_,L,hg,hL,rfl⟩
      rw [← he,hk] at this;cases this]
    exact hk0
section
variable {P:Program} {ρ:Ren}
theorem que {τ:Row} {F:den τ×den τ×Unit→Option Int} {xs:List (den τ)} (h:qu0 F xs=true) :
    (∀ x∈xs,∀ y∈xs,F (x,y,())=some (cmpV F x y))∧SWO (ltOf fun (x y:{x:den τ // x∈xs})=>cmpV F x.1 y.1)∧∀ x y:{x:den τ // x∈xs},(ltOf fun (x y:{x:den τ // x∈xs})=>cmpV F x.1 y.1) x y=false→(ltOf fun (x y:{x:den τ // x∈xs})=>cmpV F x.1 y.1) y x=false→x=y:=by
  unfold qu0 at h
  simp only [Bool.and_eq_true,List.all_eq_true] at h
  obtain ⟨⟨⟨⟨h1,h2⟩,h3⟩,h4⟩,h5⟩:=h
  have e:∀ x y:{x:den τ // x∈xs},(ltOf fun (x y:{x:den τ // x∈xs})=>cmpV F x.1 y.1) x y=ltV F x.1 y.1:=fun _ _=>rfl
  refine ⟨fun x hx y hy=>?_,⟨fun x=>?_,fun x y z a b=>?_,fun x y z a b=>?_⟩,fun x y a b=>?_⟩
  · have := h1 x hx y hy
    unfold cmpV
    cases hF:F (x,y,()) with
    | none=>rw [hF] at this;cases this
    | some n=>rfl
  · have := h2 x.1 x.2
    rw [e];simpa using this
  · rw [e] at a b ⊢
    have:=h3 x.1 x.2 y.1 y.2
    rw [a] at this
    simp only [Bool.not_true,Bool.false_or,List.all_eq_true] at this
    have:=this z.1 z.2
    rw [b] at this
    simpa using this
  · rw [e] at a b ⊢
    have:=h4 x.1 x.2 y.1 y.2
    rw [a] at this
    simp only [Bool.false_or,List.all_eq_true] at this
    have:=this z.1 z.2
    rw [b] at this
    simpa using this
  · rw [e] at a b
    have:=h5 x.1 x.2 y.1 y.2
    rw [a,b] at this
    simp only [Bool.false_or] at this
    exact Subtype.ext (qtz τ _ _ this)
theorem quf {τ:Row} {F:den τ×den τ×Unit→Option Int} {xs:List (den τ)} (h:qu0 F xs=true):(xs.attach.mergeSort fun x y=>!(ltOf fun (x y:{x:den τ // x∈xs})=>cmpV F x.1 y.1) y x).map Subtype.val=qu1 (ltV F) xs:=by
  obtain ⟨_,hO,hT⟩:=que h
  have e:∀ x y:{x:den τ // x∈xs},(ltOf fun (x y:{x:den τ // x∈xs})=>cmpV F x.1 y.1) x y=ltV F x.1 y.1:=fun _ _=>rfl
  have has:∀ a b,a∈xs→b∈xs→ltV F a b=true→ltV F b a=false:=fun a b ha hb h1=>by
    cases h2:ltV F b a with
    | false=>rfl
    | true =>
      have h3:=hO.trans ⟨a,ha⟩ ⟨b,hb⟩ ⟨a,ha⟩ h1 h2
      rw [hO.irrefl] at h3;cases h3
  have hn:∀ a b c,a∈xs→b∈xs→c∈xs→ltV F a b=false→ltV F b c=false→ltV F a c=false:=fun a b c ha hb hc h1 h2=>hO.ntrans ⟨a,ha⟩ ⟨b,hb⟩ ⟨c,hc⟩ h1 h2
  refine List.Perm.eq_of_pairwise (le:=fun a b=>ltV F b a=false) ?_ ?_ (qu6 (S:=fun a=>a∈xs) has hn xs fun _ h=>h) ?_
  · intro a b ha hb h1 h2
    have ha':a∈xs:=by
      obtain ⟨c,_,rfl⟩:=List.mem_map.1 ha
      exact c.2
    have hb':b∈xs:=(qu4 (ltV F) xs).mem_iff.1 hb
    exact congrArg Subtype.val (hT ⟨a,ha'⟩ ⟨b,hb'⟩ h2 h1)
  · have hp:=List.pairwise_mergeSort (le:=fun x y=>!(ltOf fun (x y:{x:den τ // x∈xs})=>cmpV F x.1 y.1) y x) (fun x y z h1 h2=>by
      simp only [Bool.not_eq_true'] at h1 h2 ⊢
      exact hO.ntrans z y x h2 h1) (fun x y=>by
      simp only [Bool.or_eq_true,Bool.not_eq_true']
      cases h1:(ltOf fun (x y:{x:den τ // x∈xs})=>cmpV F x.1 y.1) y x with
      | false=>exact .inl rfl
      | true=>exact .inr (has _ _ y.2 x.2 h1)) xs.attach
    rw [List.pairwise_map]
    exact hp.imp fun h=>by simpa [e] using h
  · have h1 := ((List.mergeSort_perm xs.attach fun x y => !(ltOf fun (x y : {x : den τ // x ∈ xs}) => cmpV F x.1 y.1) y x).map Subtype.val)
    rw [List.attach_map_subtype_val] at h1
    exact h1.trans (qu4 (ltV F) xs).symm
theorem qug {w w':World} (h:Bel w w'):∃ q os',w'=grow (w.drewN q) os':=by
  obtain ⟨x,rfl⟩:=ext_of h
  exact ⟨x.drawn,x.objs,by unfold ext grow World.drewN;rfl⟩
theorem quh (w:World) (m blk off:Nat) (Fv:Array Value) (os:Array Obj):w.heap.size≤(grow (putRow id (Sort.ahead w m) blk off Fv) os).heap.size:=by
  simp [grow,putRow,mapBlock,Sort.ahead]
theorem qui (w:World) (m blk off:Nat) (Fv:Array Value) (os:Array Obj) (k:Nat) (hk:k<w.heap.size) (hne:k≠blk):(grow (putRow id (Sort.ahead w m) blk off Fv) os).heap[k]?=w.heap[k]?:=by
  simp only [grow]
  rw [Array.getElem?_append_left (by simpa [putRow,mapBlock,Sort.ahead] using hk)]
  simp [putRow,mapBlock,Sort.ahead,Array.getElem?_modify,Ne.symm hne]
theorem quj (L:SlLaysF0.n6 P ρ) {τ:Row} (hp:qbt τ=true) (aE:∀ w,(isAgg (ρ.t 24)).run P w=.ok true w) (zE:∀ w,(Go.sizeOf (ρ.t 24)).run P w=.ok τ.size w) {g:FuncId} {F:den τ×den τ×Unit→Option Int}
    (hS:COK P ⟨g,[.row τ true,.row τ true],Int,F,fun r=>(.int .i64 r,[])⟩) {H:LH} {n:Nat} {xs ys:List (den τ)} (hg:H.get n=some (.rows τ xs)) (hy:qu2 F xs=some ys) :
    q4g P (ρ.f 6) [.rs n,.fn g []] H (.tup [],H.put n (some (.rows τ ys))):=by
  unfold qu2 at hy
  obtain ⟨hb,rfl⟩:=qtr (A:=some (qu1 (ltV F) xs)) hy |>.imp id fun h=>Option.some.inj h
  rw [Bool.and_eq_true] at hb
  have hsz:=Nat.le_of_ble_eq_true hb.1
  obtain ⟨hc,hO,hT⟩:=que hb.2
  refine ⟨Logged.put _ hg _,fun M η w vs h hM hv=>?_⟩
  obtain ⟨v1,vs,rfl,q1,hv⟩:=hv.uncons
  obtain ⟨v2,vs,rfl,q2,hv⟩:=hv.uncons
  obtain rfl:vs=[]:=by have:=hv.1;simpa using this.symm
  cases q1 with
  | rs hh1 =>
  have hv2:v2=.func (.func g) #[] #[]:=by
    cases q2 with
    | fn hl _=>rw [List.eq_nil_of_length_eq_zero hl.symm]
  subst hv2
  have hlen:∀ l:List (den τ),(qu1 (ltV F) l).length=l.length:=fun l=>(qu4 (ltV F) l).length_eq
  cases h.live _ _ hg with
  | none hL hh =>
    rename_i A
    rw [hh1] at hh;injection hh with hh;subst hh
    refine Calls.mono (AnyF.slices_SortFunc_none L A 0 (.func (.func g) #[] #[]) w) ?_
    rintro e w' ⟨rfl,rfl⟩
    refine ⟨_,η,rfl,q4y,qud h hg ?_ (Nat.le_refl _) (fun _ _ _=>rfl) rfl rfl rfl (Nat.le_refl _)⟩
    have e0:qu1 (ltV F) ([]:List (den τ))=[]:=rfl
    rw [e0]
    exact .none hL hh1
  | rows hL ha hh hcap hr =>
    rename_i L0 c
    rw [hh1] at hh;injection hh with hh;subst hh
    by_cases h0:xs=[]
    · subst h0
      refine Calls.mono (AnyF.slices_SortFunc_none L (some ⟨L0.block,L0.base,none⟩) c (.func (.func g) #[] #[]) w) ?_
      rintro e w' ⟨rfl,rfl⟩
      refine ⟨_,η,rfl,q4y,qud h hg ?_ (Nat.le_refl _) (fun _ _ _=>rfl) rfl rfl rfl (Nat.le_refl _)⟩
      have e0:qu1 (ltV F) ([]:List (den τ))=[]:=rfl
      rw [e0]
      exact .rows hL ha hh1 hcap hr
    · haveI : Inhabited {x : den τ // x ∈ xs} := ⟨⟨xs.head h0, List.head_mem h0⟩⟩
      have eg:∀ args w,(callFunc g args).run P w=.ok (.enter g args) w:=by
        obtain ⟨fn,bd,b1,b2,b3⟩:=hS.body
        intro args w
        have b4:¬ fn.body=none:=by rw [b2];simp
        have b1':P.funcs[g]?=some fn:=b1
        simp [callFunc,b1',b3,b4]
      have hk:∀ x:{x:den τ // x∈xs},(qgt τ x.1).length=τ.size:=fun x=>qgx τ hp x.1
      have hflat:∀ m:List {x:den τ // x∈xs},(flatK (fun x:{x:den τ // x∈xs}=>qgt τ x.1) τ.size m.toArray).toList=qgu τ (m.map Subtype.val):=fun m=>by
        rw [qty _ _ hk,quc,List.flatMap_map]
      have hcmp:CmpLays P g #[] (fun x:{x:den τ // x∈xs}=>qgt τ x.1) τ.size (fun x y=>cmpV F x.1 y.1) L0.block L0.base xs.attach.toArray.size w:=by
        intro m os dk _ x y
        have hF:=hc x.1 x.2 y.1 y.2
        have h2:=hS.ok (x.1,y.1,()) (cmpV F x.1 y.1) hF (sortWorldK (fun x:{x:den τ // x∈xs}=>qgt τ x.1) τ.size w L0.block L0.base m dk os) (fun _=>none) [.agg (qgt τ x.1).toArray,.agg (qgt τ y.1).toArray] (fun k ob hk=>by cases hk)
          (VRs.cons (VR.aggL (qu8 τ x.1 hp)) (VRs.cons (VR.aggL (qu8 τ y.1 hp)) VRs.nil))
        refine Calls.mono h2 ?_
        rintro e w' ⟨v',η',rfl,hvr,_,hfr⟩
        have hv':v'=.int .i64 (cmpV F x.1 y.1):=by
          have hvr:VR η' (.int .i64 (cmpV F x.1 y.1)) v':=hvr
          cases hvr;rfl
        rw [hv']
        exact ⟨rfl,qug ⟨⟨hfr.os,hfr.tape,hfr.output,hfr.size,fun k hk=>hfr.same k hk⟩,hfr.drawn⟩⟩
      have hfl:flatK (fun x:{x:den τ // x∈xs}=>qgt τ x.1) τ.size xs.attach.toArray=(qgu τ xs).toArray:=by
        apply Array.toList_inj.1
        rw [hflat,List.attach_map_subtype_val]
      have hfl2:∀ l:List (den τ),(flat τ l).length=(qgu τ l).length:=fun l=>(qua (η:=η) hp l).1
      have hH:HoldsK (fun x:{x:den τ // x∈xs}=>qgt τ x.1) τ.size w L0.block L0.base xs.attach.toArray:=by
        unfold HoldsK
        rw [hfl]
        intro j hj
        have hj':j<(qgu τ xs).length:=by simpa using hj
        obtain ⟨cl,hcl⟩:∃ cl,(flat τ xs)[j]?=some cl:=⟨_,List.getElem?_eq_getElem (by rw [hfl2];exact hj')⟩
        obtain ⟨v,g1,g2⟩:=ha.cell j cl hcl
        have g3:=qub hp xs j cl hcl v g2
        have hf:=ha.fits
        refine ⟨?_,(ha.there (L0.base+j) (by omega) (by have:=hfl2 xs;omega)).2⟩
        rw [g1]
        congr 1
        rw [getElem!_pos _ _ (by simpa using hj')]
        have:=(List.getElem?_eq_some_iff.1 g3).2
        simp [this]
      have hcon:=AnyQ.slices_SortFunc_total L τ.size aE zE (fun x:{x:den τ // x∈xs}=>qgt τ x.1) hk (fun x v hv=>qu9 τ x.1 hp v hv) (fun x y=>cmpV F x.1 y.1) hO g #[] L0.block L0.base c xs.attach.toArray w eg hcmp hH ha.lt (by simp;omega) hT
      have hats:xs.attach.toArray.size=xs.length:=by simp
      rw [hats] at hcon
      refine Calls.mono hcon ?_
      rintro e w' ⟨rfl,m,os,rfl⟩
      have hF:flatK (fun x:{x:den τ // x∈xs}=>qgt τ x.1) τ.size (xs.attach.toArray.toList.mergeSort fun x y=>!(ltOf fun (x y:{x:den τ // x∈xs})=>cmpV F x.1 y.1) y x).toArray=(qgu τ (qu1 (ltV F) xs)).toArray:=by
        apply Array.toList_inj.1
        rw [hflat]
        congr 1
        have:=quf hb.2
        simpa using this
      unfold sortWorldK putRowK
      rw [hF]
      have hvl:(qgu τ (qu1 (ltV F) xs)).length=(qgu τ xs).length:=by rw [qgy hp,qgy hp,hlen]
      have hyl:=hlen xs
      unfold HoldsK at hH
      rw [hfl] at hH
      generalize qu1 (ltV F) xs=ys at hvl hyl ⊢
      have hfit:=ha.fits
      have hfx:=hfl2 xs
      have hfy:=hfl2 ys
      obtain ⟨W1,hW1⟩:∃ W1,putRow id (Sort.ahead w m) L0.block L0.base (qgu τ ys).toArray=W1:=⟨_,rfl⟩
      have hsz1:W1.heap.size=w.heap.size:=by rw [← hW1];simp [putRow,mapBlock,Sort.ahead]
      have hblk:(grow W1 os).heap[L0.block]?=W1.heap[L0.block]?:=by
        simp only [grow]
        rw [Array.getElem?_append_left (by rw [hsz1];exact ha.lt)]
      have hfr:∀ j,W1.frozen? ⟨L0.block,j,none⟩=w.frozen? ⟨L0.block,j,none⟩:=fun j=>by rw [← hW1,frozen?_putRow];rfl
      have hin:∀ j,j<(qgu τ ys).length→W1.cell? ⟨L0.block,L0.base+j,none⟩=some ((qgu τ ys).toArray[j]!):=fun j hj=>by
        rw [← hW1]
        exact cell?_putRow id (Sort.ahead w m) L0.block L0.base (qgu τ xs).toArray (qgu τ ys).toArray hH (by simp [hvl]) j (by simpa using hj)
      have hout:∀ j,L0.base+(qgu τ ys).length≤j→W1.cell? ⟨L0.block,j,none⟩=w.cell? ⟨L0.block,j,none⟩:=fun j hj=>by
        rw [← hW1,cell?_putRow_other id (Sort.ahead w m) L0.block L0.base (qgu τ ys).toArray ⟨L0.block,j,none⟩ (.inr (.inr (by simpa using hj)))];rfl
      have hat2:At η (grow W1 os) (flat τ ys) L0:=by
        refine ⟨?_,by omega,fun j h1 h2=>⟨?_,?_⟩,fun j c hcj=>?_⟩
        · have := ha.lt
          simp only [grow,Array.size_append];omega
        · rw [qq hblk]
          by_cases hj:j<L0.base+(qgu τ ys).length
          · have := hin (j - L0.base) (by omega)
            rw [show L0.base+(j - L0.base)=j by omega] at this
            rw [this];rfl
          · rw [hout j (by omega)];exact (ha.there j h1 h2).1
        · rw [qr hblk,hfr];exact (ha.there j h1 h2).2
        · have hj : j < (qgu τ ys).length := by rw [← hfy]; exact (List.getElem?_eq_some_iff.1 hcj).1
          refine ⟨(qgu τ ys)[j],?_,(qua hp ys).2 j c _ hcj (List.getElem?_eq_getElem hj)⟩
          rw [qq hblk,hin j hj]
          congr 1
          rw [getElem!_pos _ _ (by simpa using hj)]
          simp
      subst hW1
      refine ⟨_,η,rfl,q4y,qud h hg (.rows hL hat2 (by rw [hyl];exact hh1) (by rw [hyl];exact hcap) hr) ?_ (fun k hk hne=>?_) ?_ ?_ ?_ ?_⟩
      · exact quh ..
      · exact qui _ _ _ _ _ _ k hk (hne L0 hL)
      · rfl
      · rfl
      · rfl
      · simp [grow,putRow,mapBlock,Sort.ahead]
def orcS (f g:FuncId) (τ:Row) (F:den τ×den τ×Unit→Option Int) (C:Orc):Orc:=fun h args H =>
  bif Nat.beq h f then (match args with
    | [.rs n, .fn g' []] => bif Nat.beq g' g then (match H.get n with
      | some (.rows σ xs)=>if e:σ=τ then some ⟨List (den τ),qu2 F (e ▸ xs),fun r=>(.tup [],H.put n (some (.rows τ r)))⟩ else none
      | _=>none) else none
    | _=>none) else C h args H
theorem quk (L:SlLaysF0.n6 P ρ) {τ:Row} (hp:qbt τ=true) (aE:∀ w,(isAgg (ρ.t 24)).run P w=.ok true w) (zE:∀ w,(Go.sizeOf (ρ.t 24)).run P w=.ok τ.size w) {g:FuncId} {F:den τ×den τ×Unit→Option Int}
    (hS : COK P ⟨g, [.row τ true, .row τ true], Int, F, fun r => (.int .i64 r, [])⟩) (hbody : ∃ fn c, P.funcs[ρ.f 6]? = some fn ∧ fn.body = some c ∧ ¬ fn.name = "runtime.NumGoroutine") {C : Orc} (hC : OrcOK P C) : OrcOK P (orcS (ρ.f 6) g τ F C) := by
  have key:∀ h args H p,orcS (ρ.f 6) g τ F C h args H=some p→(C h args H=some p)∨(h=ρ.f 6∧∃ n xs,args=[.rs n,.fn g []]∧H.get n=some (.rows τ xs)∧p=⟨List (den τ),qu2 F xs,fun r=>(.tup [],H.put n (some (.rows τ r)))⟩):=by
    intro h args H p hp
    unfold orcS at hp
    rw [Bool.cond_eq_ite] at hp
    split at hp
    · rename_i he
      have he:=Nat.eq_of_beq_eq_true he
      split at hp
      · rename_i n g'
        rw [Bool.cond_eq_ite] at hp
        split at hp
        · rename_i hg
          have hg:=Nat.eq_of_beq_eq_true hg
          subst hg
          split at hp
          · rename_i σ xs hn
            split at hp
            · rename_i e
              subst e
              injection hp with hp
              exact .inr ⟨he,n,xs,rfl,hn,hp.symm⟩
            · cases hp
          · cases hp
        · cases hp
      · cases hp
    · exact .inl hp
  refine ⟨fun h args H p x hp' hx=>?_⟩
  rcases key h args H p hp' with h1 | ⟨rfl,n,xs,rfl,hn,rfl⟩
  · exact hC.call h args H p x h1 hx
  · exact .inl ⟨quj L hp aE zE hS hn hx,hbody⟩
end
end Go.Tx

namespace Go.Proofs.YtpfhgnccpiildaaGreat
open Go Go.Tx Go.RowKit Go.Pel
theorem qul {η:Emb} {a b c d:Int} {v:Value} (hv:VR η (.agg [.int .i64 a,.int .i64 b,.int .i64 c,.int .i64 d]) v):v=.agg #[.int .i64 a,.int .i64 b,.int .i64 c,.int .i64 d]:=by
  cases hv with
  | agg hl hh =>
    obtain ⟨u1,vs,rfl,h1,h⟩:=VRs.uncons ⟨hl,hh⟩
    obtain ⟨u2,vs,rfl,h2,h⟩:=VRs.uncons h
    obtain ⟨u3,u4,rfl,h3,h4⟩:=vrs2 h
    cases h1;cases h2;cases h3;cases h4;rfl
def sumB (a b c d:Int):Bool:=decide ((-9223372036854775808≤a∧a<9223372036854775808)∧(-9223372036854775808≤b∧b<9223372036854775808)∧(-9223372036854775808≤c∧c<9223372036854775808)∧(-9223372036854775808≤d∧d<9223372036854775808)∧(-38685626227668133590597632≤a*b∧a*b≤38685626227668133590597632)∧(-38685626227668133590597632≤c*d∧c*d≤38685626227668133590597632))
theorem qum {a b c d:Int} (h:sumB a b c d=true) (w:World):Calls Tryz.prog 105 #[.agg #[.int .i64 a,.int .i64 b,.int .i64 c,.int .i64 d]] w fun e w'=>e=.returned (.agg #[.int .i64 ((a*b+c*d) / 18446744073709551616),.int .u64 ((a*b+c*d) % 18446744073709551616)])∧∃ x,w'=ext w x:=by
  obtain ⟨h1,h2,h3,h4,h5,h6⟩:=of_decide_eq_true h
  exact qkx a b c d w h1 h2 h3 h4 h5 h6
end Go.Proofs.YtpfhgnccpiildaaGreat

namespace Go.Pel
open Go Go.Tx
theorem qun {l:List Pt} (h:incB l=true):(l.map Pt.id).Nodup:=by
  unfold List.Nodup
  rw [List.pairwise_iff_getElem]
  intro i j hi hj hij
  simp only [List.length_map] at hi hj
  have:=qfw h hij (List.getElem?_eq_getElem hi) (List.getElem?_eq_getElem hj)
  simp;omega
theorem qup (p q:Pt) (n d:Int):leads p q n d=true↔(q.a*d+q.b*n<p.a*d+p.b*n)∨(q.a*d+q.b*n=p.a*d+p.b*n∧(q.b<p.b∨(q.b=p.b∧p.id<q.id))):=by
  have e:farD p q n d=(p.a*d+p.b*n) - (q.a*d+q.b*n):=by unfold farD;rw [Int.sub_mul,Int.sub_mul];omega
  unfold leads
  rw [e]
  generalize p.a*d+p.b*n=P
  generalize q.a*d+q.b*n=Q
  repeat' split
  all_goals simp only [decide_eq_true_eq]
  all_goals omega
def ordI (n d:Int) (l:List Pt):List Pt:=qu1 (fun p q=>leads p q n d) l
def quq (l:List Pt) (n d:Int):List Int×Int:=if qfx l≠0 then ([],qfx l) else if qcv n d≠0 then ([],qcv n d) else ((ordI n d l).map Pt.id,0)
theorem qur (n d:Int) (l:List Pt):(ordI n d l).Perm l:=qu4 _ l
theorem qus {p q:Pt} {n d:Int} (h:leads p q n d=false):¬ ((q.a*d+q.b*n<p.a*d+p.b*n)∨(q.a*d+q.b*n=p.a*d+p.b*n∧(q.b<p.b∨(q.b=p.b∧p.id<q.id)))):=by
  intro k;rw [(qup p q n d).2 k] at h;cases h
theorem qut (n d:Int) (l:List Pt):(ordI n d l).Pairwise fun p q=>leads q p n d=false:=by
  refine qu6 (S:=fun _=>True) (fun a b _ _ h=>?_) (fun a b c _ _ _ h1 h2=>?_) l (fun _ _=>trivial)
  · rw [qup] at h
    rw [← Bool.not_eq_true,qup];omega
  · have h1 := qus h1
    have h2:=qus h2
    rw [← Bool.not_eq_true,qup];omega
theorem quu {n d:Int} {l:List Pt} (hinc:incB l=true) (hd:1≤d):qr8 n d l=ordI n d l:=by
  refine List.Perm.eq_of_pairwise (le:=fun p q=>leads q p n d=false) ?_ ((qrb (qrl hinc) (qun hinc)).imp fun {a b} h=>?_) (qut n d l) ((qr9 n d l).trans (qur n d l).symm)
  · intro a b _ _ h k
    have h1:=qus h
    have h2:=qus k
    have e1:a.b=b.b:=by omega
    have e2:a.id=b.id:=by omega
    have e3:a.a*d+a.b*n=b.a*d+b.b*n:=by omega
    rw [e1] at e3
    have e4:a.a*d=b.a*d:=by omega
    have e5:=Int.eq_of_mul_eq_mul_right (by omega) e4
    obtain ⟨x,y,z⟩:=a
    obtain ⟨x',y',z'⟩:=b
    simp only at e1 e2 e5
    subst e1 e2 e5
    rfl
  · rw [qup] at h
    rw [← Bool.not_eq_true,qup];omega
theorem quv (l:List Pt) (n d:Int):qrp l n d=quq l n d:=by
  unfold qrp qrk quq
  by_cases h1:qfx l=0
  · simp only [h1, ne_eq, not_true_eq_false, if_false]
    by_cases h2:qcv n d=0
    · simp only [h2, ne_eq, not_true_eq_false, if_false]
      rw [quu (qg2 h1).2.2 (qd2 h2).1]
    · simp only [h2,ne_eq,not_false_eq_true,if_true]
  · simp only [h1,ne_eq,not_false_eq_true,if_true]
end Go.Pel

namespace Go.Proofs.YtpfhgnccpiildaaGreat
open Go Go.Tx Go.Pel Go.Proofs.Tryz
set_option maxRecDepth 100000
set_option maxHeartbeats 0
abbrev quw:List Pk:=[.row Riii true,.row Riii true,.row Rii true]
abbrev qux:Type:=Diii×Diii×Dii×Unit
abbrev quy:Type:=Int
def quz (r:quy):LV×List Ob:=(.int .i64 r,[])
def qv0 (F:qux→Option quy):Go.Tx.Spec:=⟨144,quw,quy,F,quz⟩
def qv1 (x:qux):Bool:=qm4 (ofP x.1) (ofP x.2.1) x.2.2.1.1 x.2.2.1.2.1
def qv2 (d:Nat) (x:qux):Option quy:=bif qv1 x then some (cmpC (ofP x.1) (ofP x.2.1) x.2.2.1.1 x.2.2.1.2.1) else none
theorem qv3 (d:Nat) (x:qux) (h:qv1 x=true):qv2 d x=some (cmpC (ofP x.1) (ofP x.2.1) x.2.2.1.1 x.2.2.1.2.1):=by unfold qv2;rw [h];rfl
theorem qv4 (d:Nat):COK prog (qv0 (qv2 d)):=by
 refine qhd (qhe (fn:=f144) (by kernel_rfl) (by kernel_rfl) (by kernel_rfl)) fun x r hx w φ vs hφ hv=>?_
 have hx:qv2 d x=some r:=hx
 unfold qv2 at hx
 obtain ⟨hc,rfl⟩:=qit hx
 have hv:VRs (Emb.fro φ) [.agg [.int .i64 x.1.1,.int .i64 x.1.2.1,.int .i64 x.1.2.2.1],.agg [.int .i64 x.2.1.1,.int .i64 x.2.1.2.1,.int .i64 x.2.1.2.2.1],.agg [.int .i64 x.2.2.1.1,.int .i64 x.2.2.1.2.1]] vs:=hv
 obtain ⟨v0,vs,rfl,q0,hv⟩:=VRs.uncons hv
 obtain ⟨v1,vs,rfl,q1,hv⟩:=VRs.uncons hv
 obtain ⟨v2,rfl,q2⟩:=vrs1 hv
 have r0:=qh6 (p:=x.1) q0;subst r0
 have r1:=qh6 (p:=x.2.1) q1;subst r1
 have r2:=qh7 q2;subst r2
 unfold qv1 at hc
 have h1:=hc
 refine (ql8 (ofP x.1) (ofP x.2.1) x.2.2.1.1 x.2.2.1.2.1 w (qm5 h1)).mono ?_
 rintro e w' ⟨rfl,y,rfl⟩
 exact qhb hφ (.int _ _) y
abbrev qv5:List Pk:=[.row RLiE false,.row RLiE false]
abbrev qv6:Type:=DLiE×DLiE×Unit
abbrev qv7:Type:=Bool
def qv8 (r:qv7):LV×List Ob:=(.bool r,[])
def qv9 (F:qv6→Option qv7):Go.Tx.Spec:=⟨18,qv5,qv7,F,qv8⟩
def qva (x:qv6):Bool:=decide ((idsI x.1.1).length≤1000000)&&decide ((idsI x.2.1.1).length≤1000000)
def qvb (d:Nat) (x:qv6):Option qv7:=bif qva x then some (decide ((idsI x.1.1)=(idsI x.2.1.1))) else none
theorem qvc (d:Nat) (x:qv6) (h:qva x=true):qvb d x=some (decide ((idsI x.1.1)=(idsI x.2.1.1))):=by unfold qvb;rw [h];rfl
theorem qvd (d:Nat):COK prog (qv9 (qvb d)):=by
 refine qhd (qhe (fn:=f18) (by kernel_rfl) (by kernel_rfl) (by kernel_rfl)) fun x r hx w φ vs hφ hv=>?_
 have hx:qvb d x=some r:=hx
 unfold qvb at hx
 obtain ⟨hc,rfl⟩:=qit hx
 have hv:VRs (Emb.fro φ) [.fz RI x.1.1,.fz RI x.2.1.1] vs:=hv
 obtain ⟨v0,vs,rfl,q0,hv⟩:=VRs.uncons hv
 obtain ⟨v1,rfl,q1⟩:=vrs1 hv
 obtain ⟨A0,c0,rfl,s0,z0⟩:=qin hφ q0
 obtain ⟨A1,c1,rfl,s1,z1⟩:=qin hφ q1
 unfold qva at hc
 simp only [Bool.and_eq_true] at hc
 obtain ⟨h1,h2⟩:=hc
 replace h1:=of_decide_eq_true h1
 replace h2:=of_decide_eq_true h2
 refine (qs6 A0 A1 c0 c1 (idsI x.1.1) (idsI x.2.1.1) w s0 s1 h1 h2).mono ?_
 rintro e w' ⟨rfl,y,rfl⟩
 exact qhb hφ (.bool _) y
abbrev qve:List Pk:=[.row qj5 true,.row Ri false]
abbrev qvf:Type:=qj6×Di×Unit
abbrev qvg:Type:=Int×Int×Int×Int
def qvh (r:qvg):LV×List Ob:=(.tup [.agg [.int .i64 r.1,.int .i64 r.2.1,.int .i64 r.2.2.1],.int .i64 r.2.2.2],[])
def qvi (F:qvf→Option qvg):Go.Tx.Spec:=⟨60,qve,qvg,F,qvh⟩
def qvj (x:qvf):Bool:=true
def qvk (d:Nat) (x:qvf):Option qvg:=bif qvj x then some ((qgf (ptsL x.1.1) x.2.1.1).1.id,(qgf (ptsL x.1.1) x.2.1.1).1.a,(qgf (ptsL x.1.1) x.2.1.1).1.b,(qgf (ptsL x.1.1) x.2.1.1).2) else none
theorem qvl (d:Nat) (x:qvf) (h:qvj x=true):qvk d x=some ((qgf (ptsL x.1.1) x.2.1.1).1.id,(qgf (ptsL x.1.1) x.2.1.1).1.a,(qgf (ptsL x.1.1) x.2.1.1).1.b,(qgf (ptsL x.1.1) x.2.1.1).2):=by unfold qvk;rw [h];rfl
theorem qvm (d:Nat):COK prog (qvi (qvk d)):=by
 refine qhd (qhe (fn:=f60) (by kernel_rfl) (by kernel_rfl) (by kernel_rfl)) fun x r hx w φ vs hφ hv=>?_
 have hx:qvk d x=some r:=hx
 unfold qvk at hx
 obtain ⟨hc,rfl⟩:=qit hx
 have hv:VRs (Emb.fro φ) [.agg [.fz RP x.1.1],.int .i64 x.2.1.1] vs:=hv
 obtain ⟨v0,vs,rfl,q0,hv⟩:=VRs.uncons hv
 obtain ⟨v1,rfl,q1⟩:=vrs1 hv
 obtain ⟨A0,c0,rfl,s0,z0⟩:=qio hφ q0
 have r1:=qh8 q1;subst r1
 refine (qqy A0 c0 (ptsL x.1.1) x.2.1.1 w s0).mono ?_
 rintro e w' ⟨rfl,y,rfl⟩
 exact qhb hφ (VR.tupL (VRs.cons (VR.aggL (VRs.cons (.int _ _) (VRs.cons (.int _ _) (VRs.cons (.int _ _) VRs.nil)))) (VRs.cons (.int _ _) VRs.nil))) y
abbrev qvw:List Pk:=[.row qj5 true,.row Rii true]
abbrev qvx:Type:=qj6×Dii×Unit
abbrev qvy:Type:=Int×Int
def qvz (r:qvy):LV×List Ob:=(.tup [.int .i64 r.1,.int .i64 r.2],[])
def qw0 (F:qvx→Option qvy):Go.Tx.Spec:=⟨67,qvw,qvy,F,qvz⟩
def qw1 (x:qvx):Bool:=i64B x.2.1.1&&i64B x.2.1.2.1
def qw2 (d:Nat) (x:qvx):Option qvy:=bif qw1 x then some ((qrn (ptsL x.1.1) x.2.1.1 x.2.1.2.1).1,(qrn (ptsL x.1.1) x.2.1.1 x.2.1.2.1).2) else none
theorem qw3 (d:Nat) (x:qvx) (h:qw1 x=true):qw2 d x=some ((qrn (ptsL x.1.1) x.2.1.1 x.2.1.2.1).1,(qrn (ptsL x.1.1) x.2.1.1 x.2.1.2.1).2):=by unfold qw2;rw [h];rfl
theorem qw4 (d:Nat):COK prog (qw0 (qw2 d)):=by
 refine qhd (qhe (fn:=f67) (by kernel_rfl) (by kernel_rfl) (by kernel_rfl)) fun x r hx w φ vs hφ hv=>?_
 have hx:qw2 d x=some r:=hx
 unfold qw2 at hx
 obtain ⟨hc,rfl⟩:=qit hx
 have hv:VRs (Emb.fro φ) [.agg [.fz RP x.1.1],.agg [.int .i64 x.2.1.1,.int .i64 x.2.1.2.1]] vs:=hv
 obtain ⟨v0,vs,rfl,q0,hv⟩:=VRs.uncons hv
 obtain ⟨v1,rfl,q1⟩:=vrs1 hv
 obtain ⟨A0,c0,rfl,s0,z0⟩:=qio hφ q0
 have r1:=qh7 q1;subst r1
 unfold qw1 at hc
 simp only [Bool.and_eq_true] at hc
 obtain ⟨h1,h2⟩:=hc
 refine (qro A0 c0 (ptsL x.1.1) x.2.1.1 x.2.1.2.1 w (qiq h1) (qiq h2) s0 z0).mono ?_
 rintro e w' ⟨rfl,y,rfl⟩
 exact qhb hφ (VR.tupL (VRs.cons (.int _ _) (VRs.cons (.int _ _) VRs.nil))) y
abbrev qw5:List Pk:=[.row qj5 true,.row Rii true]
abbrev qw6:Type:=qj6×Dii×Unit
abbrev qw7:Type:=List Di×Int
def qw8 (r:qw7):LV×List Ob:=(.tup [.rs 0,.int .i64 r.2],[.rows Ri r.1])
def qw9 (F:qw6→Option qw7):Go.Tx.Spec:=⟨14,qw5,qw7,F,qw8⟩
def qwa (x:qw6):Bool:=i64B x.2.1.1&&i64B x.2.1.2.1&&decide ((ptsL x.1.1).length≤1000000)
def qwb (d:Nat) (x:qw6):Option qw7:=bif qwa x then some (unI (quq (ptsL x.1.1) x.2.1.1 x.2.1.2.1).1,(quq (ptsL x.1.1) x.2.1.1 x.2.1.2.1).2) else none
theorem qwc (d:Nat) (x:qw6) (h:qwa x=true):qwb d x=some (unI (quq (ptsL x.1.1) x.2.1.1 x.2.1.2.1).1,(quq (ptsL x.1.1) x.2.1.1 x.2.1.2.1).2):=by unfold qwb;rw [h];rfl
theorem qwd (d:Nat):COK prog (qw9 (qwb d)):=by
 refine qhd (qhe (fn:=f14) (by kernel_rfl) (by kernel_rfl) (by kernel_rfl)) fun x r hx w φ vs hφ hv=>?_
 have hx:qwb d x=some r:=hx
 unfold qwb at hx
 obtain ⟨hc,rfl⟩:=qit hx
 have hv:VRs (Emb.fro φ) [.agg [.fz RP x.1.1],.agg [.int .i64 x.2.1.1,.int .i64 x.2.1.2.1]] vs:=hv
 obtain ⟨v0,vs,rfl,q0,hv⟩:=VRs.uncons hv
 obtain ⟨v1,rfl,q1⟩:=vrs1 hv
 obtain ⟨A0,c0,rfl,s0,z0⟩:=qio hφ q0
 have r1:=qh7 q1;subst r1
 unfold qwa at hc
 simp only [Bool.and_eq_true] at hc
 obtain ⟨⟨h1,h2⟩,h3⟩:=hc
 replace h3:=of_decide_eq_true h3
 refine ((quv (ptsL x.1.1) x.2.1.1 x.2.1.2.1) ▸ qrw A0 c0 (ptsL x.1.1) x.2.1.1 x.2.1.2.1 w (qiq h1) (qiq h2) s0 z0 h3).mono ?_
 rintro e w' ⟨A',c',rfl,y,rfl,ho⟩
 exact qhc hφ (τ:=Ri) rfl (qij _) ho (qim _) fun η e0=>VR.tupL (VRs.cons (.rs e0) (VRs.cons (.int _ _) VRs.nil))
end Go.Proofs.YtpfhgnccpiildaaGreat

namespace Go.Proofs
open Go.Shelf
def Tryz.laysSortM_ren:Go.Shelf.Ren:=⟨fun | 6=>112 | 15=>150 | 14=>149 | 28=>171 | 29=>162 | 20=>163 | 21=>164 | 22=>165 | 23=>166 | 24=>167 | 25=>168 | 26=>169 | 27=>170 | 46=>185 | 47=>186 | 48=>187 | 49=>188 | 50=>189 | 57=>194 | n=>n,fun | 22=>30 | 24=>39 | 25=>168 | 3=>3 | 39=>202 | 0=>0 | 53=>224 | 55=>98 | 4=>4 | 46=>218 | 45=>217 | 50=>147 | 5=>5 | 9=>9 | 66=>235 | 70=>239 | 76=>243 | 77=>244 | n=>n,fun | n=>n⟩
theorem Tryz.laysSortM:Go.Proofs.SlLaysF0.n6 Tryz.prog Tryz.laysSortM_ren:={
  mixed:=by kernel_rfl
  f6:=⟨Tryz.f112.name,by decide,Tryz.func112.trans (congrArg some (by kernel_rfl))⟩
  f14:=⟨Tryz.f149.name,by decide,Tryz.func149.trans (congrArg some (by kernel_rfl))⟩
  f15:=Tryz.func150.trans (congrArg some (by kernel_rfl))
  f20:=⟨Tryz.f163.name,by decide,Tryz.func163.trans (congrArg some (by kernel_rfl))⟩
  f21:=⟨Tryz.f164.name,by decide,Tryz.func164.trans (congrArg some (by kernel_rfl))⟩
  f22:=⟨Tryz.f165.name,by decide,Tryz.func165.trans (congrArg some (by kernel_rfl))⟩
  f23:=⟨Tryz.f166.name,by decide,Tryz.func166.trans (congrArg some (by kernel_rfl))⟩
  f24:=⟨Tryz.f167.name,by decide,Tryz.func167.trans (congrArg some (by kernel_rfl))⟩
  f25:=⟨Tryz.f168.name,by decide,Tryz.func168.trans (congrArg some (by kernel_rfl))⟩
  f26:=⟨Tryz.f169.name,by decide,Tryz.func169.trans (congrArg some (by kernel_rfl))⟩
  f27:=⟨Tryz.f170.name,by decide,Tryz.func170.trans (congrArg some (by kernel_rfl))⟩
  f28:=Tryz.func171.trans (congrArg some (by kernel_rfl))
  f29:=Tryz.func162.trans (congrArg some (by kernel_rfl))
  f46:=⟨Tryz.f185.name,by decide,Tryz.func185.trans (congrArg some (by kernel_rfl))⟩
  f47:=Tryz.func186.trans (congrArg some (by kernel_rfl))
  f48:=Tryz.func187.trans (congrArg some (by kernel_rfl))
  f49:=⟨Tryz.f188.name,by decide,Tryz.func188.trans (congrArg some (by kernel_rfl))⟩
  f50:=⟨Tryz.f189.name,by decide,Tryz.func189.trans (congrArg some (by kernel_rfl))⟩
  f57:=⟨Tryz.f194.name,by decide,Tryz.func194.trans (congrArg some (by kernel_rfl))⟩
  t0:=Tryz.underlying0
  a0:=Tryz.isAgg0
  z0:=Tryz.sizeOf0
  v0:=Tryz.zeroValue0
  t3:=Tryz.underlying3
  a3:=Tryz.isAgg3
  z3:=Tryz.sizeOf3
  v3:=Tryz.zeroValue3
  t4:=Tryz.underlying4
  a4:=Tryz.isAgg4
  z4:=Tryz.sizeOf4
  v4:=Tryz.zeroValue4
  t5:=Tryz.underlying5
  a5:=Tryz.isAgg5
  z5:=Tryz.sizeOf5
  v5:=Tryz.zeroValue5
  t9:=Tryz.underlying9
  a9:=Tryz.isAgg9
  z9:=Tryz.sizeOf9
  v9:=Tryz.zeroValue9
  t22:=Tryz.underlying30
  a22:=Tryz.isAgg30
  z22:=Tryz.sizeOf30
  v22:=Tryz.zeroValue30
  t25:=Tryz.underlying168
  a25:=Tryz.isAgg168
  z25:=Tryz.sizeOf168
  v25:=Tryz.zeroValue168
  t39:=Tryz.underlying202
  a39:=Tryz.isAgg202
  z39:=Tryz.sizeOf202
  v39:=Tryz.zeroValue202
  t45:=Tryz.underlying217
  a45:=Tryz.isAgg217
  z45:=Tryz.sizeOf217
  v45:=Tryz.zeroValue217
  t46:=Tryz.underlying218
  a46:=Tryz.isAgg218
  z46:=Tryz.sizeOf218
  v46:=Tryz.zeroValue218
  t50:=Tryz.underlying147
  a50:=Tryz.isAgg147
  z50:=Tryz.sizeOf147
  v50:=Tryz.zeroValue147
  t53:=Tryz.underlying224
  a53:=Tryz.isAgg224
  z53:=Tryz.sizeOf224
  v53:=Tryz.zeroValue224
  t55:=Tryz.underlying98
  a55:=Tryz.isAgg98
  z55:=Tryz.sizeOf98
  v55:=Tryz.zeroValue98
  t66:=Tryz.underlying235
  a66:=Tryz.isAgg235
  z66:=Tryz.sizeOf235
  v66:=Tryz.zeroValue235
  t70:=Tryz.underlying239
  a70:=Tryz.isAgg239
  z70:=Tryz.sizeOf239
  v70:=Tryz.zeroValue239
  t76:=Tryz.underlying243
  a76:=Tryz.isAgg243
  z76:=Tryz.sizeOf243
  v76:=Tryz.zeroValue243
  t77:=Tryz.underlying244
  a77:=Tryz.isAgg244
  z77:=Tryz.sizeOf244
  v77:=Tryz.zeroValue244 }
end Go.Proofs

namespace Go.Proofs.YtpfhgnccpiildaaGreat
open Go Go.Tx Go.Proofs.Tryz
theorem qwn {g:FuncId} {F:den qj8×den qj8×Unit→Option Int} (hS:COK prog ⟨g,[.row qj8 true,.row qj8 true],Int,F,fun r=>(.int .i64 r,[])⟩) {C:Orc} (hC:OrcOK prog C):OrcOK prog (orcS 112 g qj8 F C) :=
  quk (τ:=qj8) (ρ:=laysSortM_ren) laysSortM rfl isAgg39 sizeOf39 hS (qhe (fn:=f112) (by kernel_rfl) (by kernel_rfl) (by kernel_rfl)) hC
end Go.Proofs.YtpfhgnccpiildaaGreat

namespace Go.Tx
open Go Go.Pel
def qwo {α:Type}:List α→List (α×α)
  | []=>[]
  | p :: r=>r.map (fun q=>(p,q))++qwo r
def qwp {α:Type} (l:List α):Bool:=Nat.ble l.length 1000
theorem qwq {α:Type} {l:List α} {k:Nat} {p:α} (h:l[k]?=some p):qwo (l.drop k)=((l.drop (k+1)).drop 0).map (fun q=>(p,q))++qwo (l.drop (k+1)):=by
  have hk:=(List.getElem?_eq_some_iff.1 h).1
  have hp:l[k]=p:=by rw [List.getElem?_eq_getElem hk] at h;exact Option.some.inj h
  rw [List.drop_eq_getElem_cons hk,qwo,hp,List.drop_zero]
theorem qwr {α:Type} {l:List α} {k m:Nat} {p q:α} (h:l[k+1+m]?=some q):((l.drop (k+1)).drop m).map (fun q=>(p,q))=(p,q) :: ((l.drop (k+1)).drop (m+1)).map (fun q=>(p,q)):=by
  have hk:=(List.getElem?_eq_some_iff.1 h).1
  have hp:l[k+1+m]=q:=by rw [List.getElem?_eq_getElem hk] at h;exact Option.some.inj h
  rw [List.drop_drop,List.drop_drop,List.drop_eq_getElem_cons hk,hp,List.map_cons,Nat.add_assoc (k+1) m 1]
theorem qws {η:Emb} {τ:Row} (h:qbt τ=true) (hs:0<τ.size) {xs:List (den τ)} {v:Value} {w:World} (hw:∀ k ob,η.fz k=some ob→w.heap[k]?=some ob) (hv:VR η (.fz τ xs) v):∃ A c,v=.slice A xs.length c∧∀ w:World,(∀ k ob,η.fz k=some ob→w.heap[k]?=some ob)→Sl w τ.size A xs.length c (qgu τ xs):=by
  have hv':VR (Emb.fro η.fz) (.fz τ xs) v:=by
    cases hv with
    | fz hf=>exact .fz hf
  obtain ⟨A,c,rfl,_,_⟩:=qh3 hw h hs hv'
  refine ⟨A,c,rfl,fun w' hw'=>?_⟩
  obtain ⟨A',c',e,h1,_⟩:=qh3 hw' h hs hv'
  injection e with e1 e2 e3
  subst e1 e3
  exact h1
theorem el3 {w:World} {b o n c k:Nat} {l:List (Int×Int×Int×Unit)} {x:Int×Int×Int×Unit} (h:Sl w 3 (some ⟨b,o,none⟩) n c (qgu (.int .i64 (.int .i64 (.int .i64 .nil))) l)) (hx:l[k]?=some x):w.cell? ⟨b,o+k*3,none⟩=some (.int .i64 x.1)∧w.cell? ⟨b,o+k*3+1,none⟩=some (.int .i64 x.2.1)∧w.cell? ⟨b,o+k*3+2,none⟩=some (.int .i64 x.2.2.1):=by
  have e:qgu (.int .i64 (.int .i64 (.int .i64 .nil))) l=vp (ptsL l):=qgv l
  rw [e] at h
  have hx':(ptsL l)[k]?=some (ofP x):=by unfold ptsL;rw [List.getElem?_map,hx];rfl
  exact qfu h hx'
theorem qwt {w:World} {b o:Nat} {v:Value} (h:w.cell? ⟨b,o,none⟩=some v):b<w.heap.size:=by
  unfold World.cell? at h
  cases hb:w.heap[b]? with
  | none=>rw [show w.heap[(⟨b,o,none⟩:Addr).block]?=w.heap[b]? from rfl,hb] at h;cases h
  | some ob=>exact (Array.getElem?_eq_some_iff.1 hb).1
theorem qwu {w:World} {b:Nat} {cs:Array Value} {e:TypeId} {f:Nat×Nat} (h:w.heap[b]?=some (.cells cs e f)) (j:Nat):w.cell? ⟨b,j,none⟩=cs[j]?:=by
  unfold World.cell?
  rw [show w.heap[(⟨b,j,none⟩:Addr).block]?=w.heap[b]? from rfl,h]
  rfl
end Go.Tx
namespace Go.Proofs.YtpfhgnccpiildaaGreat
open Go Go.Tx Go.Pel Go.RowKit Go.Shelf Go.Proofs.Tryz
attribute [local go_sem] Oper.semAt_some
set_option maxRecDepth 100000 in
set_option maxHeartbeats 1000000 in
theorem qwv {l:List Diii} (h:qwp l=true):qtn prog 147 [.fz Riii l] (fun x:Diii×Diii=>#[.agg #[.int .i64 x.1.1,.int .i64 x.1.2.1,.int .i64 x.1.2.2.1],.agg #[.int .i64 x.2.1,.int .i64 x.2.2.1,.int .i64 x.2.2.2.1]]) (qwo l):=by
  have hl:l.length≤1000:=Nat.le_of_ble_eq_true h
  intro w η ⟨B,Bo,Bl⟩ hat hw
  obtain ⟨v,h1,h2⟩:=hat.cell 0 _ rfl
  have hlt:B<w.heap.size:=hat.lt
  obtain ⟨A,c,rfl,hS⟩:=qws (τ:=Riii) rfl (by decide) hw h2
  clear h2 hat h
  intro l0 J W hW hJ1 hJ2 hY h0
  have hB0:W.heap[B]?=w.heap[B]?:=hW.block _ hlt
  have hc0:W.cell? ⟨B,Bo,none⟩=some (.slice A l.length c):=(hW.cell (p:=⟨B,Bo+0,none⟩) hlt).trans h1
  have hF0:∀ k ob,η.fz k=some ob→W.heap[k]?=some ob:=fun k ob hk=>(hW.block _ (Array.getElem?_eq_some_iff.1 (hw k ob hk)).1).trans (hw k ob hk)
  have HS:=Lib.hid hS
  have HF0:=Lib.hid hF0
  have HW:=Lib.hid hw
  have HY:=Lib.hid hY
  have HJ1:=Lib.hid hJ1
  have HJ2:=Lib.hid hJ2
  have H0:=Lib.hid h0
  clear h1 hS hF0 hw hY hJ1 hJ2 hW hB0 hlt h0
  dsimp only
  refine callsIn_of_wp Tryz.func147 rfl trivial ?_ rfl
  simp only [Tryz.ntmps147,List.size_toArray,List.length_cons,List.length_nil,Nat.reduceAdd,Nat.reduceSub,Array.replicate_succ,Array.replicate_zero,List.push_toArray,List.append_toArray,List.nil_append,List.cons_append]
  gi_wp2
  gi_loopw [10] (fun i wr=>∃ (k:Nat) (T:Nat→Prop) (pre:List (Diii×Diii)),i=.int .i64 k∧k≤l.length∧wr.cell? ⟨B,Bo,none⟩=some (.slice A l.length c)∧(∀ j ob,η.fz j=some ob→wr.heap[j]?=some ob)∧pre++qwo (l.drop k)=qwo l∧J T pre wr) (fun i _=>l.length - (intOf i).toNat)
  case atStart=>exact ⟨0,_,[],rfl,Nat.zero_le _,hc0,HF0.out,rfl,H0.out⟩
  case round =>
    obtain ⟨k,T,pre,rfl,hk,hc,hF,hx,hj⟩:=hrel
    clear hc0 HF0 H0
    by_cases hlt:k<l.length
    · obtain ⟨wo, rfl⟩ : ∃ wo : World, wo = wr := ⟨_, rfl⟩
      obtain ⟨x,hxk⟩:∃ x,l[k]?=some x:=⟨_,List.getElem?_eq_getElem hlt⟩
      have hsl:=HS.out wo hF
      have hpos:0<l.length:=by omega
      obtain ⟨b,o,rfl,hb⟩:=hsl.at_ hpos
      obtain ⟨d0,d1,d2⟩:=el3 hsl hxk
      have hBl:B<wo.heap.size:=qwt hc
      have hcV:(wo.alloc (.cells #[.int .i64 x.1,.int .i64 x.2.1,.int .i64 x.2.2.1] 79)).cell? ⟨B,Bo,none⟩=some (.slice (some ⟨b,o,none⟩) l.length c):=(World.cell?_of_block (a:=⟨B,Bo,none⟩) (((Bel.refl wo).alloc _).block _ hBl)).trans hc
      have hcap:l.length≤c:=hsl.1
      have hlt':(k:Int)<(l.length:Int):=by omega
      have e1:IntKind.i64.wrap ((k:Int)+1)=((k+1:Nat):Int):=by rw [IntWalk.i64_in _ (by omega)];omega
      have hV:Bel wo (wo.alloc (.cells #[.int .i64 x.1,.int .i64 x.2.1,.int .i64 x.2.2.1] 79)):=(Bel.refl wo).alloc _
      have hVs:(wo.alloc (.cells #[.int .i64 x.1,.int .i64 x.2.1,.int .i64 x.2.2.1] 79)).heap.size=wo.heap.size+1:=by simp
      have hVn:(wo.alloc (.cells #[.int .i64 x.1,.int .i64 x.2.1,.int .i64 x.2.2.1] 79)).heap[wo.heap.size]?=some (.cells #[.int .i64 x.1,.int .i64 x.2.1,.int .i64 x.2.2.1] 79):=World.alloc_heap_new _ _
      have hJV:=HJ2.out T pre wo _ hj hV
      have hFV:∀ j ob,η.fz j=some ob→(wo.alloc (.cells #[.int .i64 x.1,.int .i64 x.2.1,.int .i64 x.2.2.1] 79)).heap[j]?=some ob:=fun j ob hj=>by rw [hV.block j (Array.getElem?_eq_some_iff.1 (hF j ob hj)).1];exact hF j ob hj
      have hx0:pre++(((l.drop (k+1)).drop 0).map (fun q=>(x,q))++qwo (l.drop (k+1)))=qwo l:=by rw [← qwq hxk];exact hx
      have HX:=Lib.hid hx0
      have HFV:=Lib.hid hFV
      have HJV:=Lib.hid hJV
      have HXK:=Lib.hid hxk
      have HVN:=Lib.hid hVn
      have HVS:=Lib.hid hVs
      clear hx hF hj hsl hxk hx0 hFV hJV hV hVn hVs
      by_cases hck:c=k+1
      · have hn0 : l.length = k + 1 := by omega
        have hn0':=Lib.hid (show l.drop (k+1)=[] from List.drop_eq_nil_of_le (by omega))
        subst hck
        have z0:l.length - (k+1)=0:=by omega
        gi_wp2
        gi_loopw [21] (fun i wr=>i=.int .i64 0∧wr=wo.alloc (.cells #[.int .i64 x.1,.int .i64 x.2.1,.int .i64 x.2.2.1] 79)) (fun _ _=>0)
        case atStart=>exact ⟨rfl,rfl⟩
        case round =>
          obtain ⟨rfl,rfl⟩:=hrel
          gi_wp2
          go_roundw
          case rel=>exact ⟨k+1,_,pre,by go_num,by omega,hcV,HFV.out,by have:=HX.out;rw [List.drop_zero,hn0'.out] at this;rw [hn0'.out];exact this,HJV.out⟩
          case measure=>(first | (simp [intOf];done) | (simp [intOf];omega))
      · gi_wp2
        gi_loopw [21] (fun i wr2=>∃ (m:Nat) (T2:Nat→Prop) (pre2:List (Diii×Diii)),i=.int .i64 m∧m≤l.length - (k+1)∧wr2.cell? ⟨B,Bo,none⟩=some (.slice (some ⟨b,o,none⟩) l.length c)∧(∀ j ob,η.fz j=some ob→wr2.heap[j]?=some ob)∧pre2++(((l.drop (k+1)).drop m).map (fun q=>(x,q))++qwo (l.drop (k+1)))=qwo l∧J T2 pre2 wr2∧T2 wo.heap.size∧wr2.heap[wo.heap.size]?=some (.cells #[.int .i64 x.1,.int .i64 x.2.1,.int .i64 x.2.2.1] 79)) (fun i _=>(l.length - (k+1)) - (intOf i).toNat)
        case atStart=>exact ⟨0,_,pre,rfl,Nat.zero_le _,hcV,HFV.out,HX.out,HJV.out,.inr ⟨Nat.le_refl _,by rw [HVS.out];omega⟩,HVN.out⟩
        case round =>
          obtain ⟨m,T2,pre2,rfl,hm,hc2,hF2,hx2,hj2,hT2,hp2⟩:=hrel
          clear hcV HX HFV HJV HVN HVS
          by_cases hlm:m<l.length - (k+1)
          · obtain ⟨q, hqk⟩ : ∃ q, l[k + 1 + m]? = some q := ⟨_, List.getElem?_eq_getElem (by omega)⟩
            obtain ⟨d0',d1',d2'⟩:=el3 (HS.out _ hF2) hqk
            have a0:o+(k+1+m)*3=o+(k+1)*3+m*3:=by omega
            rw [a0] at d0' d1' d2'
            have hb2:b<wr.heap.size:=qwt d0'
            have hBl2:B<wr.heap.size:=qwt hc2
            have hPl2:wo.heap.size<wr.heap.size:=(Array.getElem?_eq_some_iff.1 hp2).1
            have hV:Bel wr (wr.alloc (.cells #[.int .i64 q.1,.int .i64 q.2.1,.int .i64 q.2.2.1] 79)):=(Bel.refl wr).alloc _
            have hcV2:(wr.alloc (.cells #[.int .i64 q.1,.int .i64 q.2.1,.int .i64 q.2.2.1] 79)).cell? ⟨B,Bo,none⟩=some (.slice (some ⟨b,o,none⟩) l.length c):=(World.cell?_of_block (a:=⟨B,Bo,none⟩) (hV.block _ hBl2)).trans hc2
            have hpV:(wr.alloc (.cells #[.int .i64 q.1,.int .i64 q.2.1,.int .i64 q.2.2.1] 79)).heap[wo.heap.size]?=some (.cells #[.int .i64 x.1,.int .i64 x.2.1,.int .i64 x.2.2.1] 79):=(hV.block _ hPl2).trans hp2
            have p0:(wr.alloc (.cells #[.int .i64 q.1,.int .i64 q.2.1,.int .i64 q.2.2.1] 79)).cell? ⟨wo.heap.size,0,none⟩=some (.int .i64 x.1):=by rw [qwu hpV];rfl
            have p1:(wr.alloc (.cells #[.int .i64 q.1,.int .i64 q.2.1,.int .i64 q.2.2.1] 79)).cell? ⟨wo.heap.size,1,none⟩=some (.int .i64 x.2.1):=by rw [qwu hpV];rfl
            have p2:(wr.alloc (.cells #[.int .i64 q.1,.int .i64 q.2.1,.int .i64 q.2.2.1] 79)).cell? ⟨wo.heap.size,2,none⟩=some (.int .i64 x.2.2.1):=by rw [qwu hpV];rfl
            have hJV:=HJ2.out T2 pre2 wr _ hj2 hV
            rw [qwr hqk] at hx2
            obtain ⟨fn,tmps,assign,body,hy,hR⟩:=HY.out _ pre2 (x,q) _ _ hx2.symm hJV
            have hlm':(m:Int)<((l.length - (k+1):Nat):Int):=by omega
            have HX2:=Lib.hid hx2
            have HF2:=Lib.hid hF2
            have HT2:=Lib.hid hT2
            have HV2:=Lib.hid hV
            have HPV:=Lib.hid hpV
            have HCV2:=Lib.hid hcV2
            clear hx2 hF2 hT2 hV hpV hJV hj2 hqk
            gi_wp2
            refine hR.mono ?_
            rintro e W3 ⟨rfl,hJ3,⟨hk3,hf3⟩,ht3⟩
            have hF3:∀ j ob,η.fz j=some ob→W3.heap[j]?=some ob:=fun j ob hj=>hf3 j ob hj (((HV2.out).block j (Array.getElem?_eq_some_iff.1 (HF2.out j ob hj)).1).trans (HF2.out j ob hj))
            have hc3:W3.cell? ⟨B,Bo,none⟩=some (.slice (some ⟨b,o,none⟩) l.length c):=(World.cell?_of_block (a:=⟨B,Bo,none⟩) hk3).trans HCV2.out
            have hp3:W3.heap[wo.heap.size]?=some (.cells #[.int .i64 x.1,.int .i64 x.2.1,.int .i64 x.2.2.1] 79):=(ht3 _ (.inl HT2.out)).trans HPV.out
            have HF3:=Lib.hid hF3
            have HP3:=Lib.hid hp3
            have HJ3:=Lib.hid hJ3
            clear hF3 hp3 hJ3 hf3 ht3 hk3
            gi_wp2
            go_roundw
            case rel=>exact ⟨m+1,_,pre2 ++ [(x,q)],by go_num,by omega,hc3,HF3.out,by rw [List.append_assoc];exact HX2.out,HJ3.out,.inl HT2.out,HP3.out⟩
            case measure=>(first | (simp [intOf];done) | (simp [intOf];omega))
          · obtain rfl : m = l.length - (k + 1) := by omega
            have HX2:=Lib.hid hx2
            have HF2:=Lib.hid hF2
            have HJ2':=Lib.hid hj2
            clear hx2 hF2 hj2 hlm
            gi_wp2
            go_roundw
            case rel=>exact ⟨k+1,T2,pre2,by go_num,by omega,hc2,HF2.out,by have:=HX2.out;rw [List.drop_drop,show k+1+(l.length - (k+1))=l.length by omega,List.drop_length] at this;exact this,HJ2'.out⟩
            case measure=>(first | (simp [intOf];done) | (simp [intOf];omega))
    · obtain rfl : k = l.length := by omega
      have HX:=Lib.hid hx
      have HF:=Lib.hid hF
      have HJ:=Lib.hid hj
      clear hx hF hj hlt
      gi_wp2
      go_end0
      exact ⟨⟨_,rfl⟩,_,by have:=HX.out;rw [List.drop_length,qwo,List.append_nil] at this;rw [← this];exact HJ.out⟩
end Go.Proofs.YtpfhgnccpiildaaGreat

namespace Go.Proofs.YtpfhgnccpiildaaGreat
open Go Go.Tx Go.Proofs.Tryz
set_option maxRecDepth 100000
set_option maxHeartbeats 0
abbrev qww:List Pk:=[.row Riii true,.row Riii true]
abbrev qwx:Type:=Diii×Diii×Unit
abbrev qwy:Type:=Int×Int×Int
def qwz (r:qwy):LV×List Ob:=(.tup [.agg [.int .i64 r.1,.int .i64 r.2.1],.int .i64 r.2.2],[])
def qx0 (F:qwx→Option qwy):Go.Tx.Spec:=⟨111,qww,qwy,F,qwz⟩
abbrev qx1:Type:=(qoh→Option qoi)×(qn8→Option qn9)×Unit
def qx2 (d:Nat):qx1:=(qom d,qnd d,())
def qx3 (C:qx1):List Go.Tx.Spec:=[qok C.1,qnb C.2.1]
abbrev qx4:Type:=Int×Int×Int×Int×Int×Int
def qx5 (v:qx4):St:=⟨[(0,.agg [i6 v.1,i6 v.2.1,i6 v.2.2.1]),(1,.agg [i6 v.2.2.2.1,i6 v.2.2.2.2.1,i6 v.2.2.2.2.2])],[]⟩
abbrev qx6:Type:=Int×Int×Int×Int×Int×Int×Int×Int
def qx7 (v:qx6):St:=⟨[(2,.ptr 0 0),(3,.ptr 1 0),(4,.ptr 2 0)],[.cells [i6 v.1,i6 v.2.1,i6 v.2.2.1],.cells [i6 v.2.2.2.1,i6 v.2.2.2.2.1,i6 v.2.2.2.2.2.1],.cells [i6 v.2.2.2.2.2.2.1,i6 v.2.2.2.2.2.2.2]]⟩
def qx8 (C:qx1) (v:qx4):Dt qx6:=(Dt.ret (v.1,v.2.1,v.2.2.1,v.2.2.2.1,v.2.2.2.2.1,v.2.2.2.2.2,(0:Int),(0:Int)))
abbrev q3f3 {V Y:Type}:=@rg qx1 V Y tysT (fun C=>(orc (qx3 C))) 34
theorem qx9 C v:q3f3 (regO (qct f111) 0) false (an [2,3,4]) qx5 qx8 qx7 C v:=rgI (by kernel_rfl)
abbrev qxa:Type:=Int×Int×Int×Int×Int×Int×Int×Int×Int
def qxb (v:qxa):St:=⟨[(2,.ptr 0 0),(3,.ptr 1 0),(4,.ptr 2 0),(6,i6 v.1)],[.cells [i6 v.2.1,i6 v.2.2.1,i6 v.2.2.2.1],.cells [i6 v.2.2.2.2.1,i6 v.2.2.2.2.2.1,i6 v.2.2.2.2.2.2.1],.cells [i6 v.2.2.2.2.2.2.2.1,i6 v.2.2.2.2.2.2.2.2]]⟩
def qxc (C:qx1) (v:qx6):Dt qxa:=(Dt.bnd (C.1 ((v.1,v.2.1,v.2.2.1,()),(v.2.2.2.1,v.2.2.2.2.1,v.2.2.2.2.2.1,()),((0:Int),(1:Int),()),())) fun r1=>(Dt.ret (r1,v.1,v.2.1,v.2.2.1,v.2.2.2.1,v.2.2.2.2.1,v.2.2.2.2.2.1,v.2.2.2.2.2.2.1,v.2.2.2.2.2.2.2)))
theorem qxd C v:q3f3 (regO (qct f111) 1) false (an [2,3,4,6]) qx7 qxc qxb C v:=rgI (by kernel_rfl)
abbrev qxe:Type:=Int×Bool×Int×Int×Int×Int×Int×Int×Int×Int
def qxf (v:qxe):St:=⟨[(2,.ptr 0 0),(3,.ptr 1 0),(4,.ptr 2 0),(6,i6 v.1),(12,.bool v.2.1)],[.cells [i6 v.2.2.1,i6 v.2.2.2.1,i6 v.2.2.2.2.1],.cells [i6 v.2.2.2.2.2.1,i6 v.2.2.2.2.2.2.1,i6 v.2.2.2.2.2.2.2.1],.cells [i6 v.2.2.2.2.2.2.2.2.1,i6 v.2.2.2.2.2.2.2.2.2]]⟩
def qxg (C:qx1) (v:qxa):Dt qxe:=(Dt.ret (v.1,(v.1 != (0:Int)),v.2.1,v.2.2.1,v.2.2.2.1,v.2.2.2.2.1,v.2.2.2.2.2.1,v.2.2.2.2.2.2.1,v.2.2.2.2.2.2.2.1,v.2.2.2.2.2.2.2.2))
theorem qxh C v:q3f3 (regO (qct f111) 2) false (an [2,3,4,6,12]) qxb qxg qxf C v:=rgI (by kernel_rfl)
abbrev qxi:Type:=Int×Int×Int
def qxj (v:qxi):St:=⟨[(4,.ptr 0 0),(5,i6 v.1)],[.cells [i6 v.2.1,i6 v.2.2]]⟩
def qxk (C:qx1) (v:qxe):Dt qxi:=(Dt.ret (v.1,(0:Int),(0:Int)))
theorem qxl C v:q3f3 (regO (qct f111) 3) false (an [4,5]) qxf qxk qxj C v:=rgI (by kernel_rfl)
abbrev qxm:Type:=Bool×Int×Int×Int×Int×Int×Int×Int×Int
def qxn (v:qxm):St:=⟨[(2,.ptr 0 0),(3,.ptr 1 0),(4,.ptr 2 0),(19,.bool v.1)],[.cells [i6 v.2.1,i6 v.2.2.1,i6 v.2.2.2.1],.cells [i6 v.2.2.2.2.1,i6 v.2.2.2.2.2.1,i6 v.2.2.2.2.2.2.1],.cells [i6 v.2.2.2.2.2.2.2.1,i6 v.2.2.2.2.2.2.2.2]]⟩
def qxo (C:qx1) (v:qxe):Dt qxm:=(Dt.ret ((v.2.2.2.2.1 == v.2.2.2.2.2.2.2.1),v.2.2.1,v.2.2.2.1,v.2.2.2.2.1,v.2.2.2.2.2.1,v.2.2.2.2.2.2.1,v.2.2.2.2.2.2.2.1,v.2.2.2.2.2.2.2.2.1,v.2.2.2.2.2.2.2.2.2))
theorem qxp C v:q3f3 (regO (qct f111) 4) false (an [2,3,4,19]) qxf qxo qxn C v:=rgI (by kernel_rfl)
def qxq (C:qx1) (v:qxm):Dt qxi:=(Dt.ret ((6:Int),(0:Int),(0:Int)))
theorem qxr C v:q3f3 (regO (qct f111) 5) false (an [4,5]) qxn qxq qxj C v:=rgI (by kernel_rfl)
def qxs (C:qx1) (v:qxm):Dt qxi:=(Dt.bnd (C.2.1 (((IntKind.wrap .i64 (v.2.2.1 - v.2.2.2.2.2.1)),()),((IntKind.wrap .i64 (v.2.2.2.2.2.2.1 - v.2.2.2.1)),()),())) fun r1=>(Dt.ret (r1.2.2,r1.1,r1.2.1)))
theorem qxt C v:q3f3 (regO (qct f111) 6) false (an [4,5]) qxn qxs qxj C v:=rgI (by kernel_rfl)
def qxu (d:Nat) (x:qwx):Option qwy :=
 (qx8 (qx2 d) (x.1.1,x.1.2.1,x.1.2.2.1,x.2.1.1,x.2.1.2.1,x.2.1.2.2.1)).eval fun y0 =>
 (qxc (qx2 d) y0).eval fun y1 =>
 (qxg (qx2 d) y1).eval fun y2 =>
 bif y2.2.1 then ((qxk (qx2 d) y2).eval fun y3 =>
 some (y3.2.1,y3.2.2,y3.1)) else ((qxo (qx2 d) y2).eval fun y4 =>
 bif y4.1 then ((qxq (qx2 d) y4).eval fun y5 =>
 some (y5.2.1,y5.2.2,y5.1)) else ((qxs (qx2 d) y4).eval fun y6 =>
 some (y6.2.1,y6.2.2,y6.1)))
theorem qxv (d:Nat):COK prog (qx0 (qxu d)):=by
 have hm:prog.follows .mixedOrders=true:=mixed
 have hT:=tys
 have hC0:OrcOK prog (orc (qx3 (qx2 d))):=qcn (by
  intro S hS
  simp only [qx3,List.mem_cons,List.not_mem_nil,or_false] at hS
  rcases hS with rfl | rfl
  · exact qoo d
  · exact qnf d)
 have hC:OrcOK prog (orc (qx3 (qx2 d))):=hC0
 refine q8c (c:=qct f111) (fn:=f111) hT (by kernel_rfl) (by kernel_rfl) (by decide) fun x r h w0 φ0 Q hend=>?_
 replace h:qxu d x=some r:=h
 unfold qxu at h
 show Run prog w0 φ0 34 (qct f111) ⟨[(0,.agg [.int .i64 x.1.1,.int .i64 x.1.2.1,.int .i64 x.1.2.2.1]),(1,.agg [.int .i64 x.2.1.1,.int .i64 x.2.1.2.1,.int .i64 x.2.1.2.2.1])],[]⟩ Q
 refine q3f2 hm hT hC (qx9 (qx2 d) (x.1.1,x.1.2.1,x.1.2.2.1,x.2.1.1,x.2.1.2.1,x.2.1.2.2.1)) h fun y0 h=>?_
 refine q7w ?_
 refine q3f2 hm hT hC (qxd (qx2 d) y0) h fun y1 h=>?_
 refine q3f2 hm hT hC (qxh (qx2 d) y1) h fun y2 h=>?_
 refine q80 (v:=y2.2.1) (by kernel_rfl) h ?_ ?_
 ·
  intro h
  refine q3f2 hm hT hC (qxl (qx2 d) y2) h fun y3 h=>?_
  refine q7v (q7k ?_)
  cases h
  exact (hend _ (by kernel_rfl)).2
 ·
  intro h
  refine q7s (q7i (q7w ?_))
  refine q3f2 hm hT hC (qxp (qx2 d) y2) h fun y4 h=>?_
  refine q80 (v:=y4.1) (by kernel_rfl) h ?_ ?_
  ·
   intro h
   refine q3f2 hm hT hC (qxr (qx2 d) y4) h fun y5 h=>?_
   refine q7v (q7k ?_)
   cases h
   exact (hend _ (by kernel_rfl)).2
  ·
   intro h
   refine q7s (q7i ?_)
   refine q3f2 hm hT hC (qxt (qx2 d) y4) h fun y6 h=>?_
   refine q7v ?_
   cases h
   exact (hend _ (by kernel_rfl)).2
abbrev qxw:List Pk:=[.row Rii true,.row Rii true]
abbrev qxx:Type:=Dii×Dii×Unit
abbrev qxy:Type:=Int
def qxz (r:qxy):LV×List Ob:=(.int .i64 r,[])
def qy0 (F:qxx→Option qxy):Go.Tx.Spec:=⟨118,qxw,qxy,F,qxz⟩
abbrev qy1:Type:=(qmq→Option qmr)×Unit
def qy2 (d:Nat):qy1:=(qmv d,())
def qy3 (C:qy1):List Go.Tx.Spec:=[qmt C.1]
abbrev qy4:Type:=Int×Int×Int×Int
def qy5 (v:qy4):St:=⟨[(0,.agg [i6 v.1,i6 v.2.1]),(1,.agg [i6 v.2.2.1,i6 v.2.2.2])],[]⟩
abbrev qy6:Type:=Int×Int×Int×Int
def qy7 (v:qy6):St:=⟨[(2,.ptr 0 0),(3,.ptr 1 0)],[.cells [i6 v.1,i6 v.2.1],.cells [i6 v.2.2.1,i6 v.2.2.2]]⟩
def qy8 (C:qy1) (v:qy4):Dt qy6:=(Dt.ret (v.1,v.2.1,v.2.2.1,v.2.2.2))
abbrev q3f4 {V Y:Type}:=@rg qy1 V Y tysT (fun C=>(orc (qy3 C))) 10
theorem qy9 C v:q3f4 (regO (qct f118) 0) false (an [2,3]) qy5 qy8 qy7 C v:=rgI (by kernel_rfl)
abbrev qya:Type:=Int
def qyb (v:qya):St:=⟨[(4,i6 v)],[]⟩
def qyc (C:qy1) (v:qy6):Dt qya:=(Dt.bnd (C.1 ((v.1,v.2.1,()),())) fun r1=>(Dt.bnd (C.1 ((v.2.2.1,v.2.2.2,()),())) fun r2=>(Dt.ret (tmax r1 r2))))
theorem qyd C v:q3f4 (regO (qct f118) 1) true [(4,.any)] qy7 qyc qyb C v:=rgI (by kernel_rfl)
def qye (d:Nat) (x:qxx):Option qxy :=
 (qy8 (qy2 d) (x.1.1,x.1.2.1,x.2.1.1,x.2.1.2.1)).eval fun y0 =>
 (qyc (qy2 d) y0).eval fun y1 =>
 some y1
theorem qyf (d:Nat):COK prog (qy0 (qye d)):=by
 have hm:prog.follows .mixedOrders=true:=mixed
 have hT:=tys
 have hC0:OrcOK prog (orc (qy3 (qy2 d))):=qcn (by
  intro S hS
  simp only [qy3,List.mem_cons,List.not_mem_nil,or_false] at hS
  subst hS;exact qmx d)
 have hC:OrcOK prog (orc (qy3 (qy2 d))):=hC0
 refine q8c (c:=qct f118) (fn:=f118) hT (by kernel_rfl) (by kernel_rfl) (by decide) fun x r h w0 φ0 Q hend=>?_
 replace h:qye d x=some r:=h
 unfold qye at h
 show Run prog w0 φ0 10 (qct f118) ⟨[(0,.agg [.int .i64 x.1.1,.int .i64 x.1.2.1]),(1,.agg [.int .i64 x.2.1.1,.int .i64 x.2.1.2.1])],[]⟩ Q
 refine q3f2 hm hT hC (qy9 (qy2 d) (x.1.1,x.1.2.1,x.2.1.1,x.2.1.2.1)) h fun y0 h=>?_
 refine q3f2 hm hT hC (qyd (qy2 d) y0) h fun y1 h=>?_
 refine q7v ?_
 cases h
 exact (hend _ (by kernel_rfl)).2
abbrev qyg:List Pk:=[.row Ri false]
abbrev qyh:Type:=Di×Unit
abbrev qyi:Type:=Bool
def qyj (r:qyi):LV×List Ob:=(.bool r,[])
def qyk (F:qyh→Option qyi):Go.Tx.Spec:=⟨153,qyg,qyi,F,qyj⟩
abbrev qyl:Type:=Unit
def qym (_d:Nat):qyl:=()
def qyn (C:qyl):List Go.Tx.Spec:=[]
abbrev qyo:Type:=Int
def qyp (v:qyo):St:=⟨[(0,i6 v)],[]⟩
def qyq (C:qyl) (v:qyo):Dt qyo:=(Dt.ret v)
abbrev q3f5 {V Y:Type}:=@rg qyl V Y tysT (fun C=>(orc (qyn C))) 6
theorem qyr C v:q3f5 (regO (qct f153) 0) false [(0,.any)] qyp qyq qyp C v:=rgI (by kernel_rfl)
abbrev qys:Type:=Bool
def qyt (v:qys):St:=⟨[(2,.bool v)],[]⟩
def qyu (C:qyl) (v:qyo):Dt qys:=(Dt.ret (v != v))
theorem qyv C v:q3f5 (regO (qct f153) 1) false [(2,.any)] qyp qyu qyt C v:=rgI (by kernel_rfl)
def qyw (d:Nat) (x:qyh):Option qyi :=
 (qyq (qym d) x.1.1).eval fun y0 =>
 (qyu (qym d) y0).eval fun y1 =>
 some y1
theorem qyx (d:Nat):COK prog (qyk (qyw d)):=by
 have hm:prog.follows .mixedOrders=true:=mixed
 have hT:=tys
 have hC0:OrcOK prog (orc (qyn (qym d))):=qcn (by
  intro S hS
  simp only [qyn,List.mem_cons,List.not_mem_nil,or_false] at hS
  all_goals first | cases hS | exact hS.elim)
 have hC:OrcOK prog (orc (qyn (qym d))):=hC0
 refine q8c (c:=qct f153) (fn:=f153) hT (by kernel_rfl) (by kernel_rfl) (by decide) fun x r h w0 φ0 Q hend=>?_
 replace h:qyw d x=some r:=h
 unfold qyw at h
 show Run prog w0 φ0 6 (qct f153) ⟨[(0,.int .i64 x.1.1)],[]⟩ Q
 refine q3f2 hm hT hC (qyr (qym d) x.1.1) h fun y0 h=>?_
 refine q3f2 hm hT hC (qyv (qym d) y0) h fun y1 h=>?_
 refine q7v ?_
 cases h
 exact (hend _ (by kernel_rfl)).2
abbrev qyy:List Pk:=[.row Ri false,.row Ri false]
abbrev qyz:Type:=Di×Di×Unit
abbrev qz0:Type:=Int
def qz1 (r:qz0):LV×List Ob:=(.int .i64 r,[])
def qz2 (F:qyz→Option qz0):Go.Tx.Spec:=⟨126,qyy,qz0,F,qz1⟩
abbrev qz3:Type:=(qyh→Option qyi)×Unit
def qz4 (d:Nat):qz3:=(qyw d,())
def qz5 (C:qz3):List Go.Tx.Spec:=[qyk C.1]
abbrev qz6:Type:=Int×Int
def qz7 (v:qz6):St:=⟨[(0,i6 v.1),(1,i6 v.2)],[]⟩
def qz8 (C:qz3) (v:qz6):Dt qz6:=(Dt.ret (v.1,v.2))
abbrev q3f6 {V Y:Type}:=@rg qz3 V Y tysT (fun C=>(orc (qz5 C))) 20
theorem qz9 C v:q3f6 (regO (qct f126) 0) false (an [0,1]) qz7 qz8 qz7 C v:=rgI (by kernel_rfl)
abbrev qza:Type:=Int×Int×Bool
def qzb (v:qza):St:=⟨[(0,i6 v.1),(1,i6 v.2.1),(5,.bool v.2.2)],[]⟩
def qzc (C:qz3) (v:qz6):Dt qza:=(Dt.bnd (C.1 ((v.1,()),())) fun r1=>(Dt.ret (v.1,v.2,r1)))
theorem qzd C v:q3f6 (regO (qct f126) 1) false (an [0,1,5]) qz7 qzc qzb C v:=rgI (by kernel_rfl)
abbrev qze:Type:=Int×Int×Bool×Bool
def qzf (v:qze):St:=⟨[(0,i6 v.1),(1,i6 v.2.1),(5,.bool v.2.2.1),(6,.bool v.2.2.2)],[]⟩
def qzg (C:qz3) (v:qza):Dt qze:=(Dt.bnd (C.1 ((v.2.1,()),())) fun r1=>(Dt.ret (v.1,v.2.1,v.2.2,r1)))
theorem qzh C v:q3f6 (regO (qct f126) 2) false (an [0,1,5,6]) qzb qzg qzf C v:=rgI (by kernel_rfl)
abbrev qzi:Type:=Int×Int×Bool×Bool
def qzj (v:qzi):St:=⟨[(0,i6 v.1),(1,i6 v.2.1),(6,.bool v.2.2.1),(11,.bool v.2.2.2)],[]⟩
def qzk (C:qz3) (v:qze):Dt qzi:=(Dt.ret (v.1,v.2.1,v.2.2.2,v.2.2.1))
theorem qzl C v:q3f6 (regO (qct f126) 3) false (an [0,1,6,11]) qzf qzk qzj C v:=rgI (by kernel_rfl)
abbrev qzm:Type:=Bool
def qzn (v:qzm):St:=⟨[(12,.bool v)],[]⟩
def qzo (C:qz3) (v:qzi):Dt qzm:=(Dt.ret v.2.2.1)
theorem qzp C v:q3f6 (regO (qct f126) 4) false [(12,.any)] qzj qzo qzn C v:=rgI (by kernel_rfl)
abbrev qzq:Type:=Int
def qzr (v:qzq):St:=⟨[(4,i6 v)],[]⟩
def qzs (C:qz3) (v:qzm):Dt qzq:=(Dt.ret (0:Int))
theorem qzt C v:q3f6 (regO (qct f126) 5) false [(4,.any)] qzn qzs qzr C v:=rgI (by kernel_rfl)
def qzu (C:qz3) (v:qzm):Dt qzq:=(Dt.ret (-1:Int))
theorem qzv C v:q3f6 (regO (qct f126) 6) false [(4,.any)] qzn qzu qzr C v:=rgI (by kernel_rfl)
abbrev qzw:Type:=Int×Int×Bool
def qzx (v:qzw):St:=⟨[(0,i6 v.1),(1,i6 v.2.1),(13,.bool v.2.2)],[]⟩
def qzy (C:qz3) (v:qzi):Dt qzw:=(Dt.ret (v.1,v.2.1,v.2.2.1))
theorem qzz C v:q3f6 (regO (qct f126) 7) false (an [0,1,13]) qzj qzy qzx C v:=rgI (by kernel_rfl)
def q100 (C:qz3) (v:qzw):Dt qzq:=(Dt.ret (1:Int))
theorem q101 C v:q3f6 (regO (qct f126) 8) false [(4,.any)] qzx q100 qzr C v:=rgI (by kernel_rfl)
abbrev q102:Type:=Int×Int×Bool
def q103 (v:q102):St:=⟨[(0,i6 v.1),(1,i6 v.2.1),(16,.bool v.2.2)],[]⟩
def q104 (C:qz3) (v:qzw):Dt q102:=(Dt.ret (v.1,v.2.1,(decide (v.1<v.2.1))))
theorem q105 C v:q3f6 (regO (qct f126) 9) false (an [0,1,16]) qzx q104 q103 C v:=rgI (by kernel_rfl)
def q106 (C:qz3) (v:q102):Dt qzq:=(Dt.ret (-1:Int))
theorem q107 C v:q3f6 (regO (qct f126) 10) false [(4,.any)] q103 q106 qzr C v:=rgI (by kernel_rfl)
abbrev q108:Type:=Bool
def q109 (v:q108):St:=⟨[(19,.bool v)],[]⟩
def q10a (C:qz3) (v:q102):Dt q108:=(Dt.ret (decide (v.1 > v.2.1)))
theorem q10b C v:q3f6 (regO (qct f126) 11) false [(19,.any)] q103 q10a q109 C v:=rgI (by kernel_rfl)
def q10c (C:qz3) (v:q108):Dt qzq:=(Dt.ret (1:Int))
theorem q10d C v:q3f6 (regO (qct f126) 12) false [(4,.any)] q109 q10c qzr C v:=rgI (by kernel_rfl)
def q10e (C:qz3) (v:q108):Dt qzq:=(Dt.ret (0:Int))
theorem q10f C v:q3f6 (regO (qct f126) 13) false [(4,.any)] q109 q10e qzr C v:=rgI (by kernel_rfl)
def q10g (d:Nat) (x:qyz):Option qz0 :=
 (qz8 (qz4 d) (x.1.1,x.2.1.1)).eval fun y0 =>
 (qzc (qz4 d) y0).eval fun y1 =>
 (qzg (qz4 d) y1).eval fun y2 =>
 (qzk (qz4 d) y2).eval fun y3 =>
 bif y3.2.2.2 then ((qzo (qz4 d) y3).eval fun y4 =>
 bif y4 then ((qzs (qz4 d) y4).eval fun y5 =>
 some y5) else ((qzu (qz4 d) y4).eval fun y6 =>
 some y6)) else ((qzy (qz4 d) y3).eval fun y7 =>
 bif y7.2.2 then ((q100 (qz4 d) y7).eval fun y8 =>
 some y8) else ((q104 (qz4 d) y7).eval fun y9 =>
 bif y9.2.2 then ((q106 (qz4 d) y9).eval fun y10 =>
 some y10) else ((q10a (qz4 d) y9).eval fun y11 =>
 bif y11 then ((q10c (qz4 d) y11).eval fun y12 =>
 some y12) else ((q10e (qz4 d) y11).eval fun y13 =>
 some y13))))
theorem q10h (d:Nat):COK prog (qz2 (q10g d)):=by
 have hm:prog.follows .mixedOrders=true:=mixed
 have hT:=tys
 have hC0:OrcOK prog (orc (qz5 (qz4 d))):=qcn (by
  intro S hS
  simp only [qz5,List.mem_cons,List.not_mem_nil,or_false] at hS
  subst hS;exact qyx d)
 have hC:OrcOK prog (orc (qz5 (qz4 d))):=hC0
 refine q8c (c:=qct f126) (fn:=f126) hT (by kernel_rfl) (by kernel_rfl) (by decide) fun x r h w0 φ0 Q hend=>?_
 replace h:q10g d x=some r:=h
 unfold q10g at h
 show Run prog w0 φ0 20 (qct f126) ⟨[(0,.int .i64 x.1.1),(1,.int .i64 x.2.1.1)],[]⟩ Q
 refine q3f2 hm hT hC (qz9 (qz4 d) (x.1.1,x.2.1.1)) h fun y0 h=>?_
 refine q3f2 hm hT hC (qzd (qz4 d) y0) h fun y1 h=>?_
 refine q3f2 hm hT hC (qzh (qz4 d) y1) h fun y2 h=>?_
 refine q7w ?_
 refine q3f2 hm hT hC (qzl (qz4 d) y2) h fun y3 h=>?_
 refine q80 (v:=y3.2.2.2) (by kernel_rfl) h ?_ ?_
 ·
  intro h
  refine q7w ?_
  refine q3f2 hm hT hC (qzp (qz4 d) y3) h fun y4 h=>?_
  refine q80 (v:=y4) (by kernel_rfl) h ?_ ?_
  ·
   intro h
   refine q3f2 hm hT hC (qzt (qz4 d) y4) h fun y5 h=>?_
   refine q7v (q7k (q7k ?_))
   cases h
   exact (hend _ (by kernel_rfl)).2
  ·
   intro h
   refine q7s (q7i ?_)
   refine q3f2 hm hT hC (qzv (qz4 d) y4) h fun y6 h=>?_
   refine q7v (q7k ?_)
   cases h
   exact (hend _ (by kernel_rfl)).2
 ·
  intro h
  refine q7s (q7i (q7w ?_))
  refine q3f2 hm hT hC (qzz (qz4 d) y3) h fun y7 h=>?_
  refine q80 (v:=y7.2.2) (by kernel_rfl) h ?_ ?_
  ·
   intro h
   refine q3f2 hm hT hC (q101 (qz4 d) y7) h fun y8 h=>?_
   refine q7v (q7k ?_)
   cases h
   exact (hend _ (by kernel_rfl)).2
  ·
   intro h
   refine q7s (q7i (q7w ?_))
   refine q3f2 hm hT hC (q105 (qz4 d) y7) h fun y9 h=>?_
   refine q80 (v:=y9.2.2) (by kernel_rfl) h ?_ ?_
   ·
    intro h
    refine q3f2 hm hT hC (q107 (qz4 d) y9) h fun y10 h=>?_
    refine q7v (q7k ?_)
    cases h
    exact (hend _ (by kernel_rfl)).2
   ·
    intro h
    refine q7s (q7i (q7w ?_))
    refine q3f2 hm hT hC (q10b (qz4 d) y9) h fun y11 h=>?_
    refine q80 (v:=y11) (by kernel_rfl) h ?_ ?_
    ·
     intro h
     refine q3f2 hm hT hC (q10d (qz4 d) y11) h fun y12 h=>?_
     refine q7v (q7k ?_)
     cases h
     exact (hend _ (by kernel_rfl)).2
    ·
     intro h
     refine q7s (q7i ?_)
     refine q3f2 hm hT hC (q10f (qz4 d) y11) h fun y13 h=>?_
     refine q7v ?_
     cases h
     exact (hend _ (by kernel_rfl)).2
abbrev q10i:List Pk:=[.row Ri false]
abbrev q10j:Type:=Di×Unit
abbrev q10k:Type:=Int
def q10l (r:q10k):LV×List Ob:=(.int .u64 r,[])
def q10m (F:q10j→Option q10k):Go.Tx.Spec:=⟨125,q10i,q10k,F,q10l⟩
abbrev q10n:Type:=Unit
def q10o (_d:Nat):q10n:=()
def q10p (C:q10n):List Go.Tx.Spec:=[]
abbrev q10q:Type:=Int
def q10r (v:q10q):St:=⟨[(0,i6 v)],[]⟩
def q10s (C:q10n) (v:q10q):Dt q10q:=(Dt.ret v)
abbrev q3f7 {V Y:Type}:=@rg q10n V Y tysT (fun C=>(orc (q10p C))) 10
theorem q10t C v:q3f7 (regO (qct f125) 0) false [(0,.any)] q10r q10s q10r C v:=rgI (by kernel_rfl)
abbrev q10u:Type:=Int×Bool
def q10v (v:q10u):St:=⟨[(0,i6 v.1),(4,.bool v.2)],[]⟩
def q10w (C:q10n) (v:q10q):Dt q10u:=(Dt.ret (v,(decide (v<(0:Int)))))
theorem q10x C v:q3f7 (regO (qct f125) 1) false (an [0,4]) q10r q10w q10v C v:=rgI (by kernel_rfl)
abbrev q10y:Type:=Int
def q10z (v:q10y):St:=⟨[(2,u6 v)],[]⟩
def q110 (C:q10n) (v:q10u):Dt q10y:=(Dt.ret (IntKind.wrap .u64 (0 - (IntKind.wrap .u64 v.1))))
theorem q111 C v:q3f7 (regO (qct f125) 2) false [(2,.any)] q10v q110 q10z C v:=rgI (by kernel_rfl)
def q112 (C:q10n) (v:q10u):Dt q10y:=(Dt.ret (IntKind.wrap .u64 v.1))
theorem q113 C v:q3f7 (regO (qct f125) 3) false [(2,.any)] q10v q112 q10z C v:=rgI (by kernel_rfl)
def q114 (d:Nat) (x:q10j):Option q10k :=
 (q10s (q10o d) x.1.1).eval fun y0 =>
 (q10w (q10o d) y0).eval fun y1 =>
 bif y1.2 then ((q110 (q10o d) y1).eval fun y2 =>
 some y2) else ((q112 (q10o d) y1).eval fun y3 =>
 some y3)
theorem q115 (d:Nat):COK prog (q10m (q114 d)):=by
 have hm:prog.follows .mixedOrders=true:=mixed
 have hT:=tys
 have hC0:OrcOK prog (orc (q10p (q10o d))):=qcn (by
  intro S hS
  simp only [q10p,List.mem_cons,List.not_mem_nil,or_false] at hS
  all_goals first | cases hS | exact hS.elim)
 have hC:OrcOK prog (orc (q10p (q10o d))):=hC0
 refine q8c (c:=qct f125) (fn:=f125) hT (by kernel_rfl) (by kernel_rfl) (by decide) fun x r h w0 φ0 Q hend=>?_
 replace h:q114 d x=some r:=h
 unfold q114 at h
 show Run prog w0 φ0 10 (qct f125) ⟨[(0,.int .i64 x.1.1)],[]⟩ Q
 refine q3f2 hm hT hC (q10t (q10o d) x.1.1) h fun y0 h=>?_
 refine q7w ?_
 refine q3f2 hm hT hC (q10x (q10o d) y0) h fun y1 h=>?_
 refine q80 (v:=y1.2) (by kernel_rfl) h ?_ ?_
 ·
  intro h
  refine q3f2 hm hT hC (q111 (q10o d) y1) h fun y2 h=>?_
  refine q7v (q7k ?_)
  cases h
  exact (hend _ (by kernel_rfl)).2
 ·
  intro h
  refine q7s (q7i ?_)
  refine q3f2 hm hT hC (q113 (q10o d) y1) h fun y3 h=>?_
  refine q7v ?_
  cases h
  exact (hend _ (by kernel_rfl)).2
abbrev q116:List Pk:=[.row Ri false,.row Ri false]
abbrev q117:Type:=Di×Di×Unit
abbrev q118:Type:=Bool×Int×Int
def q119 (r:q118):LV×List Ob:=(.agg [.bool r.1,.int .u64 r.2.1,.int .u64 r.2.2],[])
def q11a (F:q117→Option q118):Go.Tx.Spec:=⟨121,q116,q118,F,q119⟩
abbrev q11b:Type:=(qm8→Option qm9)×(q10j→Option q10k)×Unit
def q11c (d:Nat):q11b:=(qmd d,q114 d,())
def q11d (C:q11b):List Go.Tx.Spec:=[qmb C.1,q10m C.2.1]
abbrev q11e:Type:=Int×Int
def q11f (v:q11e):St:=⟨[(0,i6 v.1),(1,i6 v.2)],[]⟩
abbrev q11g:Type:=Int×Int×Bool×Int×Int
def q11h (v:q11g):St:=⟨[(0,i6 v.1),(1,i6 v.2.1),(4,.ptr 0 0)],[.cells [.bool v.2.2.1,u6 v.2.2.2.1,u6 v.2.2.2.2]]⟩
def q11i (C:q11b) (v:q11e):Dt q11g:=(Dt.ret (v.1,v.2,false,(0:Int),(0:Int)))
abbrev q3f8 {V Y:Type}:=@rg q11b V Y tysT (fun C=>(orc (q11d C))) 23
theorem q11j C v:q3f8 (regO (qct f121) 0) false (an [0,1,4]) q11f q11i q11h C v:=rgI (by kernel_rfl)
abbrev q11k:Type:=Int×Int×Int×Int×Bool×Int×Int
def q11l (v:q11k):St:=⟨[(0,i6 v.1),(1,i6 v.2.1),(4,.ptr 0 0),(5,u6 v.2.2.1),(6,u6 v.2.2.2.1)],[.cells [.bool v.2.2.2.2.1,u6 v.2.2.2.2.2.1,u6 v.2.2.2.2.2.2]]⟩
def q11m (C:q11b) (v:q11g):Dt q11k:=(Dt.bnd (C.2.1 ((v.1,()),())) fun r1=>(Dt.bnd (C.2.1 ((v.2.1,()),())) fun r2=>(Dt.bnd (C.1 ((r1,()),(r2,()),())) fun r3=>(Dt.ret (v.1,v.2.1,r3.1,r3.2,v.2.2.1,v.2.2.2.1,v.2.2.2.2)))))
theorem q11n C v:q3f8 (regO (qct f121) 1) false (an [0,1,4,5,6]) q11h q11m q11l C v:=rgI (by kernel_rfl)
abbrev q11o:Type:=Bool×Int×Int
def q11p (v:q11o):St:=⟨[(4,.ptr 0 0)],[.cells [.bool v.1,u6 v.2.1,u6 v.2.2]]⟩
def q11q (C:q11b) (v:q11k):Dt q11o:=(Dt.ret ((!((decide (v.1<(0:Int))) == (decide (v.2.1<(0:Int))))),v.2.2.1,v.2.2.2.1))
theorem q11r C v:q3f8 (regO (qct f121) 2) false [(4,.any)] q11l q11q q11p C v:=rgI (by kernel_rfl)
def q11s (d:Nat) (x:q117):Option q118 :=
 (q11i (q11c d) (x.1.1,x.2.1.1)).eval fun y0 =>
 (q11m (q11c d) y0).eval fun y1 =>
 (q11q (q11c d) y1).eval fun y2 =>
 some y2
theorem q11t (d:Nat):COK prog (q11a (q11s d)):=by
 have hm:prog.follows .mixedOrders=true:=mixed
 have hT:=tys
 have hC0:OrcOK prog (orc (q11d (q11c d))):=qcn (by
  intro S hS
  simp only [q11d,List.mem_cons,List.not_mem_nil,or_false] at hS
  rcases hS with rfl | rfl
  · exact qmf d
  · exact q115 d)
 have hC:OrcOK prog (orc (q11d (q11c d))):=hC0
 refine q8c (c:=qct f121) (fn:=f121) hT (by kernel_rfl) (by kernel_rfl) (by decide) fun x r h w0 φ0 Q hend=>?_
 replace h:q11s d x=some r:=h
 unfold q11s at h
 show Run prog w0 φ0 23 (qct f121) ⟨[(0,.int .i64 x.1.1),(1,.int .i64 x.2.1.1)],[]⟩ Q
 refine q3f2 hm hT hC (q11j (q11c d) (x.1.1,x.2.1.1)) h fun y0 h=>?_
 refine q3f2 hm hT hC (q11n (q11c d) y0) h fun y1 h=>?_
 refine q3f2 hm hT hC (q11r (q11c d) y1) h fun y2 h=>?_
 refine q7v ?_
 cases h
 exact (hend _ (by kernel_rfl)).2
abbrev q11u:List Pk:=[.row Ru false]
abbrev q11v:Type:=Du×Unit
abbrev q11w:Type:=Bool
def q11x (r:q11w):LV×List Ob:=(.bool r,[])
def q11y (F:q11v→Option q11w):Go.Tx.Spec:=⟨180,q11u,q11w,F,q11x⟩
abbrev q11z:Type:=Unit
def q120 (_d:Nat):q11z:=()
def q121 (C:q11z):List Go.Tx.Spec:=[]
abbrev q122:Type:=Int
def q123 (v:q122):St:=⟨[(0,u6 v)],[]⟩
def q124 (C:q11z) (v:q122):Dt q122:=(Dt.ret v)
abbrev q3f9 {V Y:Type}:=@rg q11z V Y tysT (fun C=>(orc (q121 C))) 6
theorem q125 C v:q3f9 (regO (qct f180) 0) false [(0,.any)] q123 q124 q123 C v:=rgI (by kernel_rfl)
abbrev q126:Type:=Bool
def q127 (v:q126):St:=⟨[(2,.bool v)],[]⟩
def q128 (C:q11z) (v:q122):Dt q126:=(Dt.ret (v != v))
theorem q129 C v:q3f9 (regO (qct f180) 1) false [(2,.any)] q123 q128 q127 C v:=rgI (by kernel_rfl)
def q12a (d:Nat) (x:q11v):Option q11w :=
 (q124 (q120 d) x.1.1).eval fun y0 =>
 (q128 (q120 d) y0).eval fun y1 =>
 some y1
theorem q12b (d:Nat):COK prog (q11y (q12a d)):=by
 have hm:prog.follows .mixedOrders=true:=mixed
 have hT:=tys
 have hC0:OrcOK prog (orc (q121 (q120 d))):=qcn (by
  intro S hS
  simp only [q121,List.mem_cons,List.not_mem_nil,or_false] at hS
  all_goals first | cases hS | exact hS.elim)
 have hC:OrcOK prog (orc (q121 (q120 d))):=hC0
 refine q8c (c:=qct f180) (fn:=f180) hT (by kernel_rfl) (by kernel_rfl) (by decide) fun x r h w0 φ0 Q hend=>?_
 replace h:q12a d x=some r:=h
 unfold q12a at h
 show Run prog w0 φ0 6 (qct f180) ⟨[(0,.int .u64 x.1.1)],[]⟩ Q
 refine q3f2 hm hT hC (q125 (q120 d) x.1.1) h fun y0 h=>?_
 refine q3f2 hm hT hC (q129 (q120 d) y0) h fun y1 h=>?_
 refine q7v ?_
 cases h
 exact (hend _ (by kernel_rfl)).2
abbrev q12c:List Pk:=[.row Ru false,.row Ru false]
abbrev q12d:Type:=Du×Du×Unit
abbrev q12e:Type:=Int
def q12f (r:q12e):LV×List Ob:=(.int .i64 r,[])
def q12g (F:q12d→Option q12e):Go.Tx.Spec:=⟨154,q12c,q12e,F,q12f⟩
abbrev q12h:Type:=(q11v→Option q11w)×Unit
def q12i (d:Nat):q12h:=(q12a d,())
def q12j (C:q12h):List Go.Tx.Spec:=[q11y C.1]
abbrev q12k:Type:=Int×Int
def q12l (v:q12k):St:=⟨[(0,u6 v.1),(1,u6 v.2)],[]⟩
def q12m (C:q12h) (v:q12k):Dt q12k:=(Dt.ret (v.1,v.2))
abbrev q3fa {V Y:Type}:=@rg q12h V Y tysT (fun C=>(orc (q12j C))) 20
theorem q12n C v:q3fa (regO (qct f154) 0) false (an [0,1]) q12l q12m q12l C v:=rgI (by kernel_rfl)
abbrev q12o:Type:=Int×Int×Bool
def q12p (v:q12o):St:=⟨[(0,u6 v.1),(1,u6 v.2.1),(5,.bool v.2.2)],[]⟩
def q12q (C:q12h) (v:q12k):Dt q12o:=(Dt.bnd (C.1 ((v.1,()),())) fun r1=>(Dt.ret (v.1,v.2,r1)))
theorem q12r C v:q3fa (regO (qct f154) 1) false (an [0,1,5]) q12l q12q q12p C v:=rgI (by kernel_rfl)
abbrev q12s:Type:=Int×Int×Bool×Bool
def q12t (v:q12s):St:=⟨[(0,u6 v.1),(1,u6 v.2.1),(5,.bool v.2.2.1),(6,.bool v.2.2.2)],[]⟩
def q12u (C:q12h) (v:q12o):Dt q12s:=(Dt.bnd (C.1 ((v.2.1,()),())) fun r1=>(Dt.ret (v.1,v.2.1,v.2.2,r1)))
theorem q12v C v:q3fa (regO (qct f154) 2) false (an [0,1,5,6]) q12p q12u q12t C v:=rgI (by kernel_rfl)
abbrev q12w:Type:=Int×Int×Bool×Bool
def q12x (v:q12w):St:=⟨[(0,u6 v.1),(1,u6 v.2.1),(6,.bool v.2.2.1),(11,.bool v.2.2.2)],[]⟩
def q12y (C:q12h) (v:q12s):Dt q12w:=(Dt.ret (v.1,v.2.1,v.2.2.2,v.2.2.1))
theorem q12z C v:q3fa (regO (qct f154) 3) false (an [0,1,6,11]) q12t q12y q12x C v:=rgI (by kernel_rfl)
abbrev q130:Type:=Bool
def q131 (v:q130):St:=⟨[(12,.bool v)],[]⟩
def q132 (C:q12h) (v:q12w):Dt q130:=(Dt.ret v.2.2.1)
theorem q133 C v:q3fa (regO (qct f154) 4) false [(12,.any)] q12x q132 q131 C v:=rgI (by kernel_rfl)
abbrev q134:Type:=Int
def q135 (v:q134):St:=⟨[(4,i6 v)],[]⟩
def q136 (C:q12h) (v:q130):Dt q134:=(Dt.ret (0:Int))
theorem q137 C v:q3fa (regO (qct f154) 5) false [(4,.any)] q131 q136 q135 C v:=rgI (by kernel_rfl)
def q138 (C:q12h) (v:q130):Dt q134:=(Dt.ret (-1:Int))
theorem q139 C v:q3fa (regO (qct f154) 6) false [(4,.any)] q131 q138 q135 C v:=rgI (by kernel_rfl)
abbrev q13a:Type:=Int×Int×Bool
def q13b (v:q13a):St:=⟨[(0,u6 v.1),(1,u6 v.2.1),(13,.bool v.2.2)],[]⟩
def q13c (C:q12h) (v:q12w):Dt q13a:=(Dt.ret (v.1,v.2.1,v.2.2.1))
theorem q13d C v:q3fa (regO (qct f154) 7) false (an [0,1,13]) q12x q13c q13b C v:=rgI (by kernel_rfl)
def q13e (C:q12h) (v:q13a):Dt q134:=(Dt.ret (1:Int))
theorem q13f C v:q3fa (regO (qct f154) 8) false [(4,.any)] q13b q13e q135 C v:=rgI (by kernel_rfl)
abbrev q13g:Type:=Int×Int×Bool
def q13h (v:q13g):St:=⟨[(0,u6 v.1),(1,u6 v.2.1),(16,.bool v.2.2)],[]⟩
def q13i (C:q12h) (v:q13a):Dt q13g:=(Dt.ret (v.1,v.2.1,(decide (v.1<v.2.1))))
theorem q13j C v:q3fa (regO (qct f154) 9) false (an [0,1,16]) q13b q13i q13h C v:=rgI (by kernel_rfl)
def q13k (C:q12h) (v:q13g):Dt q134:=(Dt.ret (-1:Int))
theorem q13l C v:q3fa (regO (qct f154) 10) false [(4,.any)] q13h q13k q135 C v:=rgI (by kernel_rfl)
abbrev q13m:Type:=Bool
def q13n (v:q13m):St:=⟨[(19,.bool v)],[]⟩
def q13o (C:q12h) (v:q13g):Dt q13m:=(Dt.ret (decide (v.1 > v.2.1)))
theorem q13p C v:q3fa (regO (qct f154) 11) false [(19,.any)] q13h q13o q13n C v:=rgI (by kernel_rfl)
def q13q (C:q12h) (v:q13m):Dt q134:=(Dt.ret (1:Int))
theorem q13r C v:q3fa (regO (qct f154) 12) false [(4,.any)] q13n q13q q135 C v:=rgI (by kernel_rfl)
def q13s (C:q12h) (v:q13m):Dt q134:=(Dt.ret (0:Int))
theorem q13t C v:q3fa (regO (qct f154) 13) false [(4,.any)] q13n q13s q135 C v:=rgI (by kernel_rfl)
def q13u (d:Nat) (x:q12d):Option q12e :=
 (q12m (q12i d) (x.1.1,x.2.1.1)).eval fun y0 =>
 (q12q (q12i d) y0).eval fun y1 =>
 (q12u (q12i d) y1).eval fun y2 =>
 (q12y (q12i d) y2).eval fun y3 =>
 bif y3.2.2.2 then ((q132 (q12i d) y3).eval fun y4 =>
 bif y4 then ((q136 (q12i d) y4).eval fun y5 =>
 some y5) else ((q138 (q12i d) y4).eval fun y6 =>
 some y6)) else ((q13c (q12i d) y3).eval fun y7 =>
 bif y7.2.2 then ((q13e (q12i d) y7).eval fun y8 =>
 some y8) else ((q13i (q12i d) y7).eval fun y9 =>
 bif y9.2.2 then ((q13k (q12i d) y9).eval fun y10 =>
 some y10) else ((q13o (q12i d) y9).eval fun y11 =>
 bif y11 then ((q13q (q12i d) y11).eval fun y12 =>
 some y12) else ((q13s (q12i d) y11).eval fun y13 =>
 some y13))))
theorem q13v (d:Nat):COK prog (q12g (q13u d)):=by
 have hm:prog.follows .mixedOrders=true:=mixed
 have hT:=tys
 have hC0:OrcOK prog (orc (q12j (q12i d))):=qcn (by
  intro S hS
  simp only [q12j,List.mem_cons,List.not_mem_nil,or_false] at hS
  subst hS;exact q12b d)
 have hC:OrcOK prog (orc (q12j (q12i d))):=hC0
 refine q8c (c:=qct f154) (fn:=f154) hT (by kernel_rfl) (by kernel_rfl) (by decide) fun x r h w0 φ0 Q hend=>?_
 replace h:q13u d x=some r:=h
 unfold q13u at h
 show Run prog w0 φ0 20 (qct f154) ⟨[(0,.int .u64 x.1.1),(1,.int .u64 x.2.1.1)],[]⟩ Q
 refine q3f2 hm hT hC (q12n (q12i d) (x.1.1,x.2.1.1)) h fun y0 h=>?_
 refine q3f2 hm hT hC (q12r (q12i d) y0) h fun y1 h=>?_
 refine q3f2 hm hT hC (q12v (q12i d) y1) h fun y2 h=>?_
 refine q7w ?_
 refine q3f2 hm hT hC (q12z (q12i d) y2) h fun y3 h=>?_
 refine q80 (v:=y3.2.2.2) (by kernel_rfl) h ?_ ?_
 ·
  intro h
  refine q7w ?_
  refine q3f2 hm hT hC (q133 (q12i d) y3) h fun y4 h=>?_
  refine q80 (v:=y4) (by kernel_rfl) h ?_ ?_
  ·
   intro h
   refine q3f2 hm hT hC (q137 (q12i d) y4) h fun y5 h=>?_
   refine q7v (q7k (q7k ?_))
   cases h
   exact (hend _ (by kernel_rfl)).2
  ·
   intro h
   refine q7s (q7i ?_)
   refine q3f2 hm hT hC (q139 (q12i d) y4) h fun y6 h=>?_
   refine q7v (q7k ?_)
   cases h
   exact (hend _ (by kernel_rfl)).2
 ·
  intro h
  refine q7s (q7i (q7w ?_))
  refine q3f2 hm hT hC (q13d (q12i d) y3) h fun y7 h=>?_
  refine q80 (v:=y7.2.2) (by kernel_rfl) h ?_ ?_
  ·
   intro h
   refine q3f2 hm hT hC (q13f (q12i d) y7) h fun y8 h=>?_
   refine q7v (q7k ?_)
   cases h
   exact (hend _ (by kernel_rfl)).2
  ·
   intro h
   refine q7s (q7i (q7w ?_))
   refine q3f2 hm hT hC (q13j (q12i d) y7) h fun y9 h=>?_
   refine q80 (v:=y9.2.2) (by kernel_rfl) h ?_ ?_
   ·
    intro h
    refine q3f2 hm hT hC (q13l (q12i d) y9) h fun y10 h=>?_
    refine q7v (q7k ?_)
    cases h
    exact (hend _ (by kernel_rfl)).2
   ·
    intro h
    refine q7s (q7i (q7w ?_))
    refine q3f2 hm hT hC (q13p (q12i d) y9) h fun y11 h=>?_
    refine q80 (v:=y11) (by kernel_rfl) h ?_ ?_
    ·
     intro h
     refine q3f2 hm hT hC (q13r (q12i d) y11) h fun y12 h=>?_
     refine q7v (q7k ?_)
     cases h
     exact (hend _ (by kernel_rfl)).2
    ·
     intro h
     refine q7s (q7i ?_)
     refine q3f2 hm hT hC (q13t (q12i d) y11) h fun y13 h=>?_
     refine q7v ?_
     cases h
     exact (hend _ (by kernel_rfl)).2
abbrev q13w:List Pk:=[.row Rbuu true,.row Rbuu true]
abbrev q13x:Type:=Dbuu×Dbuu×Unit
abbrev q13y:Type:=Int
def q13z (r:q13y):LV×List Ob:=(.int .i64 r,[])
def q140 (F:q13x→Option q13y):Go.Tx.Spec:=⟨127,q13w,q13y,F,q13z⟩
abbrev q141:Type:=(q12d→Option q12e)×Unit
def q142 (d:Nat):q141:=(q13u d,())
def q143 (C:q141):List Go.Tx.Spec:=[q12g C.1]
abbrev q144:Type:=Bool×Int×Int×Bool×Int×Int
def q145 (v:q144):St:=⟨[(0,.agg [.bool v.1,u6 v.2.1,u6 v.2.2.1]),(1,.agg [.bool v.2.2.2.1,u6 v.2.2.2.2.1,u6 v.2.2.2.2.2])],[]⟩
abbrev q146:Type:=Bool×Int×Int×Bool×Int×Int
def q147 (v:q146):St:=⟨[(2,.ptr 0 0),(3,.ptr 1 0)],[.cells [.bool v.1,u6 v.2.1,u6 v.2.2.1],.cells [.bool v.2.2.2.1,u6 v.2.2.2.2.1,u6 v.2.2.2.2.2]]⟩
def q148 (C:q141) (v:q144):Dt q146:=(Dt.ret (v.1,v.2.1,v.2.2.1,v.2.2.2.1,v.2.2.2.2.1,v.2.2.2.2.2))
abbrev q3fb {V Y:Type}:=@rg q141 V Y tysT (fun C=>(orc (q143 C))) 19
theorem q149 C v:q3fb (regO (qct f127) 0) false (an [2,3]) q145 q148 q147 C v:=rgI (by kernel_rfl)
abbrev q14a:Type:=Int×Bool×Int×Int×Bool×Int×Int
def q14b (v:q14a):St:=⟨[(2,.ptr 0 0),(3,.ptr 1 0),(5,i6 v.1)],[.cells [.bool v.2.1,u6 v.2.2.1,u6 v.2.2.2.1],.cells [.bool v.2.2.2.2.1,u6 v.2.2.2.2.2.1,u6 v.2.2.2.2.2.2]]⟩
def q14c (C:q141) (v:q146):Dt q14a:=(Dt.bnd (C.1 ((v.2.1,()),(v.2.2.2.2.1,()),())) fun r1=>(Dt.ret (r1,v.1,v.2.1,v.2.2.1,v.2.2.2.1,v.2.2.2.2.1,v.2.2.2.2.2)))
theorem q14d C v:q3fb (regO (qct f127) 1) false (an [2,3,5]) q147 q14c q14b C v:=rgI (by kernel_rfl)
abbrev q14e:Type:=Int×Bool×Bool×Int×Int×Bool×Int×Int
def q14f (v:q14e):St:=⟨[(2,.ptr 0 0),(3,.ptr 1 0),(5,i6 v.1),(12,.bool v.2.1)],[.cells [.bool v.2.2.1,u6 v.2.2.2.1,u6 v.2.2.2.2.1],.cells [.bool v.2.2.2.2.2.1,u6 v.2.2.2.2.2.2.1,u6 v.2.2.2.2.2.2.2]]⟩
def q14g (C:q141) (v:q14a):Dt q14e:=(Dt.ret (v.1,(v.1 != (0:Int)),v.2.1,v.2.2.1,v.2.2.2.1,v.2.2.2.2.1,v.2.2.2.2.2.1,v.2.2.2.2.2.2))
theorem q14h C v:q3fb (regO (qct f127) 2) false (an [2,3,5,12]) q14b q14g q14f C v:=rgI (by kernel_rfl)
abbrev q14i:Type:=Int
def q14j (v:q14i):St:=⟨[(4,i6 v)],[]⟩
def q14k (C:q141) (v:q14e):Dt q14i:=(Dt.ret v.1)
theorem q14l C v:q3fb (regO (qct f127) 3) false [(4,.any)] q14f q14k q14j C v:=rgI (by kernel_rfl)
def q14m (C:q141) (v:q14e):Dt q14i:=(Dt.bnd (C.1 ((v.2.2.2.2.1,()),(v.2.2.2.2.2.2.2,()),())) fun r1=>(Dt.ret r1))
theorem q14n C v:q3fb (regO (qct f127) 4) false [(4,.any)] q14f q14m q14j C v:=rgI (by kernel_rfl)
def q14o (d:Nat) (x:q13x):Option q13y :=
 (q148 (q142 d) (x.1.1,x.1.2.1,x.1.2.2.1,x.2.1.1,x.2.1.2.1,x.2.1.2.2.1)).eval fun y0 =>
 (q14c (q142 d) y0).eval fun y1 =>
 (q14g (q142 d) y1).eval fun y2 =>
 bif y2.2.1 then ((q14k (q142 d) y2).eval fun y3 =>
 some y3) else ((q14m (q142 d) y2).eval fun y4 =>
 some y4)
theorem q14p (d:Nat):COK prog (q140 (q14o d)):=by
 have hm:prog.follows .mixedOrders=true:=mixed
 have hT:=tys
 have hC0:OrcOK prog (orc (q143 (q142 d))):=qcn (by
  intro S hS
  simp only [q143,List.mem_cons,List.not_mem_nil,or_false] at hS
  subst hS;exact q13v d)
 have hC:OrcOK prog (orc (q143 (q142 d))):=hC0
 refine q8c (c:=qct f127) (fn:=f127) hT (by kernel_rfl) (by kernel_rfl) (by decide) fun x r h w0 φ0 Q hend=>?_
 replace h:q14o d x=some r:=h
 unfold q14o at h
 show Run prog w0 φ0 19 (qct f127) ⟨[(0,.agg [.bool x.1.1,.int .u64 x.1.2.1,.int .u64 x.1.2.2.1]),(1,.agg [.bool x.2.1.1,.int .u64 x.2.1.2.1,.int .u64 x.2.1.2.2.1])],[]⟩ Q
 refine q3f2 hm hT hC (q149 (q142 d) (x.1.1,x.1.2.1,x.1.2.2.1,x.2.1.1,x.2.1.2.1,x.2.1.2.2.1)) h fun y0 h=>?_
 refine q7w ?_
 refine q3f2 hm hT hC (q14d (q142 d) y0) h fun y1 h=>?_
 refine q3f2 hm hT hC (q14h (q142 d) y1) h fun y2 h=>?_
 refine q80 (v:=y2.2.1) (by kernel_rfl) h ?_ ?_
 ·
  intro h
  refine q3f2 hm hT hC (q14l (q142 d) y2) h fun y3 h=>?_
  refine q7v (q7k ?_)
  cases h
  exact (hend _ (by kernel_rfl)).2
 ·
  intro h
  refine q7s (q7i ?_)
  refine q3f2 hm hT hC (q14n (q142 d) y2) h fun y4 h=>?_
  refine q7v ?_
  cases h
  exact (hend _ (by kernel_rfl)).2
abbrev q14q:List Pk:=[.row Rii true,.row Rii true]
abbrev q14r:Type:=Dii×Dii×Unit
abbrev q14s:Type:=Int×Int
def q14t (r:q14s):LV×List Ob:=(.tup [.int .i64 r.1,.int .i64 r.2],[])
def q14u (F:q14r→Option q14s):Go.Tx.Spec:=⟨64,q14q,q14s,F,q14t⟩
abbrev q14v:Type:=(qxx→Option qxy)×(q117→Option q118)×(qyz→Option qz0)×(q13x→Option q13y)×Unit
def q14w (d:Nat):q14v:=(qye d,q11s d,q10g d,q14o d,())
def q14x (C:q14v):List Go.Tx.Spec:=[qy0 C.1,q11a C.2.1,qz2 C.2.2.1,q140 C.2.2.2.1]
abbrev q14y:Type:=Int×Int×Int×Int
def q14z (v:q14y):St:=⟨[(0,.agg [i6 v.1,i6 v.2.1]),(1,.agg [i6 v.2.2.1,i6 v.2.2.2])],[]⟩
abbrev q150:Type:=Int×Int×Int×Int
def q151 (v:q150):St:=⟨[(2,.ptr 0 0),(3,.ptr 1 0)],[.cells [i6 v.1,i6 v.2.1],.cells [i6 v.2.2.1,i6 v.2.2.2]]⟩
def q152 (C:q14v) (v:q14y):Dt q150:=(Dt.ret (v.1,v.2.1,v.2.2.1,v.2.2.2))
abbrev q3fc {V Y:Type}:=@rg q14v V Y tysT (fun C=>(orc (q14x C))) 43
theorem q153 C v:q3fc (regO (qct f64) 0) false (an [2,3]) q14z q152 q151 C v:=rgI (by kernel_rfl)
abbrev q154:Type:=Int×Int×Int×Int×Int
def q155 (v:q154):St:=⟨[(2,.ptr 0 0),(3,.ptr 1 0),(6,i6 v.1)],[.cells [i6 v.2.1,i6 v.2.2.1],.cells [i6 v.2.2.2.1,i6 v.2.2.2.2]]⟩
def q156 (C:q14v) (v:q150):Dt q154:=(Dt.bnd (C.1 ((v.1,v.2.1,()),(v.2.2.1,v.2.2.2,()),())) fun r1=>(Dt.ret (r1,v.1,v.2.1,v.2.2.1,v.2.2.2)))
theorem q157 C v:q3fc (regO (qct f64) 1) false (an [2,3,6]) q151 q156 q155 C v:=rgI (by kernel_rfl)
abbrev q158:Type:=Int×Bool×Int×Int×Int×Int
def q159 (v:q158):St:=⟨[(2,.ptr 0 0),(3,.ptr 1 0),(6,i6 v.1),(12,.bool v.2.1)],[.cells [i6 v.2.2.1,i6 v.2.2.2.1],.cells [i6 v.2.2.2.2.1,i6 v.2.2.2.2.2]]⟩
def q15a (C:q14v) (v:q154):Dt q158:=(Dt.ret (v.1,(v.1 != (0:Int)),v.2.1,v.2.2.1,v.2.2.2.1,v.2.2.2.2))
theorem q15b C v:q3fc (regO (qct f64) 2) false (an [2,3,6,12]) q155 q15a q159 C v:=rgI (by kernel_rfl)
abbrev q15c:Type:=Int×Int
def q15d (v:q15c):St:=⟨[(4,i6 v.1),(5,i6 v.2)],[]⟩
def q15e (C:q14v) (v:q158):Dt q15c:=(Dt.ret ((0:Int),v.1))
theorem q15f C v:q3fc (regO (qct f64) 3) false (an [4,5]) q159 q15e q15d C v:=rgI (by kernel_rfl)
abbrev q15g:Type:=Bool×Int×Int×Int×Int
def q15h (v:q15g):St:=⟨[(2,.ptr 0 0),(3,.ptr 1 0),(20,.bool v.1)],[.cells [i6 v.2.1,i6 v.2.2.1],.cells [i6 v.2.2.2.1,i6 v.2.2.2.2]]⟩
def q15i (C:q14v) (v:q158):Dt q15g:=(Dt.ret ((!((decide (v.2.2.1<(0:Int))) == (decide (v.2.2.2.2.1<(0:Int))))),v.2.2.1,v.2.2.2.1,v.2.2.2.2.1,v.2.2.2.2.2))
theorem q15j C v:q3fc (regO (qct f64) 4) false (an [2,3,20]) q159 q15i q15h C v:=rgI (by kernel_rfl)
def q15k (C:q14v) (v:q15g):Dt q15c:=(Dt.bnd (C.2.2.1 ((v.2.1,()),(v.2.2.2.1,()),())) fun r1=>(Dt.ret (r1,(0:Int))))
theorem q15l C v:q3fc (regO (qct f64) 5) false (an [4,5]) q15h q15k q15d C v:=rgI (by kernel_rfl)
abbrev q15m:Type:=Int×Int×Int
def q15n (v:q15m):St:=⟨[(2,.ptr 0 0),(7,i6 v.1)],[.cells [i6 v.2.1,i6 v.2.2]]⟩
def q15o (C:q14v) (v:q15g):Dt q15m:=(Dt.bnd (C.2.1 ((v.2.1,()),(v.2.2.2.2,()),())) fun r1=>(Dt.bnd (C.2.1 ((v.2.2.2.1,()),(v.2.2.1,()),())) fun r2=>(Dt.bnd (C.2.2.2.1 ((r1.1,r1.2.1,r1.2.2,()),(r2.1,r2.2.1,r2.2.2,()),())) fun r3=>(Dt.ret (r3,v.2.1,v.2.2.1)))))
theorem q15p C v:q3fc (regO (qct f64) 6) true (an [2,7]) q15h q15o q15n C v:=rgI (by kernel_rfl)
abbrev q15q:Type:=Int×Bool
def q15r (v:q15q):St:=⟨[(7,i6 v.1),(39,.bool v.2)],[]⟩
def q15s (C:q14v) (v:q15m):Dt q15q:=(Dt.ret (v.1,(decide (v.2.1<(0:Int)))))
theorem q15t C v:q3fc (regO (qct f64) 7) false (an [7,39]) q15n q15s q15r C v:=rgI (by kernel_rfl)
abbrev q15u:Type:=Int
def q15v (v:q15u):St:=⟨[(7,i6 v)],[]⟩
def q15w (C:q14v) (v:q15q):Dt q15u:=(Dt.ret (IntKind.wrap .i64 (0 - v.1)))
theorem q15x C v:q3fc (regO (qct f64) 8) false [(7,.any)] q15r q15w q15v C v:=rgI (by kernel_rfl)
def q15y (C:q14v) (v:q15u):Dt q15c:=(Dt.ret (v,(0:Int)))
theorem q15z C v:q3fc (regO (qct f64) 9) false (an [4,5]) q15v q15y q15d C v:=rgI (by kernel_rfl)
def q160  (d:Nat)  (z:Int):Option (q14s) :=
 (q15y (q14w d) z).eval fun y9 =>
 some y9
def q161 (d:Nat) (x:q14r):Option q14s :=
 (q152 (q14w d) (x.1.1,x.1.2.1,x.2.1.1,x.2.1.2.1)).eval fun y0 =>
 (q156 (q14w d) y0).eval fun y1 =>
 (q15a (q14w d) y1).eval fun y2 =>
 bif y2.2.1 then ((q15e (q14w d) y2).eval fun y3 =>
 some y3) else ((q15i (q14w d) y2).eval fun y4 =>
 bif y4.1 then ((q15k (q14w d) y4).eval fun y5 =>
 some y5) else ((q15o (q14w d) y4).eval fun y6 =>
 (q15s (q14w d) y6).eval fun y7 =>
 bif y7.2 then ((q15w (q14w d) y7).eval fun y8 =>
 q160 d  y8) else (q160 d  y7.1)))
theorem q162 (d:Nat):COK prog (q14u (q161 d)):=by
 have hm:prog.follows .mixedOrders=true:=mixed
 have hT:=tys
 have hC0:OrcOK prog (orc (q14x (q14w d))):=qcn (by
  intro S hS
  simp only [q14x,List.mem_cons,List.not_mem_nil,or_false] at hS
  rcases hS with rfl | rfl | rfl | rfl
  · exact qyf d
  · exact q11t d
  · exact q10h d
  · exact q14p d)
 have hC:OrcOK prog (orc (q14x (q14w d))):=hC0
 refine q8c (c:=qct f64) (fn:=f64) hT (by kernel_rfl) (by kernel_rfl) (by decide) fun x r h w0 φ0 Q hend=>?_
 replace h:q161 d x=some r:=h
 unfold q161 at h
 show Run prog w0 φ0 43 (qct f64) ⟨[(0,.agg [.int .i64 x.1.1,.int .i64 x.1.2.1]),(1,.agg [.int .i64 x.2.1.1,.int .i64 x.2.1.2.1])],[]⟩ Q
 refine q3f2 hm hT hC (q153 (q14w d) (x.1.1,x.1.2.1,x.2.1.1,x.2.1.2.1)) h fun y0 h=>?_
 refine q7w ?_
 refine q3f2 hm hT hC (q157 (q14w d) y0) h fun y1 h=>?_
 refine q3f2 hm hT hC (q15b (q14w d) y1) h fun y2 h=>?_
 refine q80 (v:=y2.2.1) (by kernel_rfl) h ?_ ?_
 ·
  intro h
  refine q3f2 hm hT hC (q15f (q14w d) y2) h fun y3 h=>?_
  refine q7v (q7k ?_)
  cases h
  exact (hend _ (by kernel_rfl)).2
 ·
  intro h
  refine q7s (q7i (q7w ?_))
  refine q3f2 hm hT hC (q15j (q14w d) y2) h fun y4 h=>?_
  refine q80 (v:=y4.1) (by kernel_rfl) h ?_ ?_
  ·
   intro h
   refine q3f2 hm hT hC (q15l (q14w d) y4) h fun y5 h=>?_
   refine q7v (q7k ?_)
   cases h
   exact (hend _ (by kernel_rfl)).2
  ·
   intro h
   refine q7s (q7i ?_)
   refine q3f2 hm hT hC (q15p (q14w d) y4) h fun y6 h=>?_
   refine q7z (r:=r) (F:=q160 d ) (S:=(fun z=>⟨[(7,i6 z)],[]⟩:Int→St)) ?_ ?_
   ·
    intro z h
    unfold q160 at h
    refine q3f2 hm hT hC (q15z (q14w d) z) h fun y9 h=>?_
    refine q7v ?_
    cases h
    exact (hend _ (by kernel_rfl)).2
   intro hj1
   refine q3f2 hm hT hC (q15t (q14w d) y6) h fun y7 h=>?_
   refine q80 (v:=y7.2) (by kernel_rfl) h ?_ ?_
   ·
    intro h
    refine q81 hm hT hC (q15x (q14w d) y7) h ?_
    intro y8 h
    exact hj1 _ h
   ·
    intro h
    refine q7s ?_
    refine qcs (s:=⟨[(7,.int .i64 y7.1)],[]⟩) [39] (by kernel_rfl) ?_
    exact hj1 _ h
abbrev q163:List Pk:=[.row Rii true,.row Rii true]
abbrev q164:Type:=Dii×Dii×Unit
abbrev q165:Type:=Int
def q166 (r:q165):LV×List Ob:=(.int .i64 r,[])
def q167 (F:q164→Option q165):Go.Tx.Spec:=⟨109,q163,q165,F,q166⟩
abbrev q168:Type:=(q14r→Option q14s)×Unit
def q169 (d:Nat):q168:=(q161 d,())
def q16a (C:q168):List Go.Tx.Spec:=[q14u C.1]
abbrev q16b:Type:=Int×Int×Int×Int
def q16c (v:q16b):St:=⟨[(0,.agg [i6 v.1,i6 v.2.1]),(1,.agg [i6 v.2.2.1,i6 v.2.2.2])],[]⟩
abbrev q16d:Type:=Int×Int×Int×Int
def q16e (v:q16d):St:=⟨[(2,.ptr 0 0),(3,.ptr 1 0)],[.cells [i6 v.1,i6 v.2.1],.cells [i6 v.2.2.1,i6 v.2.2.2]]⟩
def q16f (C:q168) (v:q16b):Dt q16d:=(Dt.ret (v.1,v.2.1,v.2.2.1,v.2.2.2))
abbrev q3fd {V Y:Type}:=@rg q168 V Y tysT (fun C=>(orc (q16a C))) 14
theorem q16g C v:q3fd (regO (qct f109) 0) false (an [2,3]) q16c q16f q16e C v:=rgI (by kernel_rfl)
abbrev q16h:Type:=Int
def q16i (v:q16h):St:=⟨[(5,i6 v)],[]⟩
def q16j (C:q168) (v:q16d):Dt q16h:=(Dt.bnd (C.1 ((v.1,v.2.1,()),(v.2.2.1,v.2.2.2,()),())) fun r1=>(Dt.ret r1.1))
theorem q16k C v:q3fd (regO (qct f109) 1) false [(5,.any)] q16e q16j q16i C v:=rgI (by kernel_rfl)
abbrev q16l:Type:=Int
def q16m (v:q16l):St:=⟨[(4,i6 v)],[]⟩
def q16n (C:q168) (v:q16h):Dt q16l:=(Dt.ret v)
theorem q16o C v:q3fd (regO (qct f109) 2) false [(4,.any)] q16i q16n q16m C v:=rgI (by kernel_rfl)
def q16p (d:Nat) (x:q164):Option q165 :=
 (q16f (q169 d) (x.1.1,x.1.2.1,x.2.1.1,x.2.1.2.1)).eval fun y0 =>
 (q16j (q169 d) y0).eval fun y1 =>
 (q16n (q169 d) y1).eval fun y2 =>
 some y2
theorem q16q (d:Nat):COK prog (q167 (q16p d)):=by
 have hm:prog.follows .mixedOrders=true:=mixed
 have hT:=tys
 have hC0:OrcOK prog (orc (q16a (q169 d))):=qcn (by
  intro S hS
  simp only [q16a,List.mem_cons,List.not_mem_nil,or_false] at hS
  subst hS;exact q162 d)
 have hC:OrcOK prog (orc (q16a (q169 d))):=hC0
 refine q8c (c:=qct f109) (fn:=f109) hT (by kernel_rfl) (by kernel_rfl) (by decide) fun x r h w0 φ0 Q hend=>?_
 replace h:q16p d x=some r:=h
 unfold q16p at h
 show Run prog w0 φ0 14 (qct f109) ⟨[(0,.agg [.int .i64 x.1.1,.int .i64 x.1.2.1]),(1,.agg [.int .i64 x.2.1.1,.int .i64 x.2.1.2.1])],[]⟩ Q
 refine q3f2 hm hT hC (q16g (q169 d) (x.1.1,x.1.2.1,x.2.1.1,x.2.1.2.1)) h fun y0 h=>?_
 refine q3f2 hm hT hC (q16k (q169 d) y0) h fun y1 h=>?_
 refine q3f2 hm hT hC (q16o (q169 d) y1) h fun y2 h=>?_
 refine q7v ?_
 cases h
 exact (hend _ (by kernel_rfl)).2
abbrev q16r:List Pk:=[.row qj5 true,.row qje false]
abbrev q16s:Type:=qj6×qjf×Unit
abbrev q16t:Type:=Int
def q16u (r:q16t):LV×List Ob:=(.int .i64 r,[])
def q16v (F:q16s→Option q16t):Go.Tx.Spec:=⟨53,q16r,q16t,F,q16u⟩
abbrev q16w:Type:=(qp8→Option qp9)×(qmq→Option qmr)×(q164→Option q165)×Unit
def q16x (d:Nat):q16w:=(qpd d,qmv d,q16p d,())
def q16y (C:q16w):List Go.Tx.Spec:=[qpb C.1,qmt C.2.1,q167 C.2.2.1]
abbrev q16z:Type:=List Diii×List Dii
def q170 (v:q16z):St:=⟨[(0,.agg [.fz Riii v.1]),(1,.fz Rii v.2)],[]⟩
abbrev q171:Type:=List Dii×List Diii
def q172 (v:q171):St:=⟨[(1,.fz Rii v.1),(2,.ptr 0 0)],[.cells [.fz Riii v.2]]⟩
def q173 (C:q16w) (v:q16z):Dt q171:=(Dt.ret (v.2,v.1))
abbrev q3fe {V Y:Type}:=@rg q16w V Y tysT (fun C=>(orc (q16y C))) 39
theorem q174 C v:q3fe (regO (qct f53) 0) false [(1,(.val Rii)),(2,(.box [.val Riii]))] q170 q173 q172 C v:=rgI (by kernel_rfl)
abbrev q175:Type:=List Dii×Int
def q176 (v:q175):St:=⟨[(1,.fz Rii v.1),(5,i6 v.2)],[]⟩
def q177 (C:q16w) (v:q171):Dt q175:=(Dt.bnd (C.1 ((v.2,()),())) fun r1=>(Dt.ret (v.1,r1)))
theorem q178 C v:q3fe (regO (qct f53) 1) false [(1,(.val Rii)),(5,.any)] q172 q177 q176 C v:=rgI (by kernel_rfl)
abbrev q179:Type:=List Dii×Int×Bool
def q17a (v:q179):St:=⟨[(1,.fz Rii v.1),(5,i6 v.2.1),(12,.bool v.2.2)],[]⟩
def q17b (C:q16w) (v:q175):Dt q179:=(Dt.ret (v.1,v.2,(v.2 != (0:Int))))
theorem q17c C v:q3fe (regO (qct f53) 2) false [(1,(.val Rii)),(5,.any),(12,.any)] q176 q17b q17a C v:=rgI (by kernel_rfl)
abbrev q17d:Type:=Int
def q17e (v:q17d):St:=⟨[(4,i6 v)],[]⟩
def q17f (C:q16w) (v:q179):Dt q17d:=(Dt.ret v.2.1)
theorem q17g C v:q3fe (regO (qct f53) 3) false [(4,.any)] q17a q17f q17e C v:=rgI (by kernel_rfl)
abbrev q17h:Type:=List Dii×List Dii×Int×Int
def q17i (v:q17h):St:=⟨[(1,.fz Rii v.1),(14,.fz Rii v.2.1),(15,i6 v.2.2.1),(16,i6 v.2.2.2)],[]⟩
def q17j (C:q16w) (v:q179):Dt q17h:=(Dt.ret (v.1,v.1,(List.length v.1:Int),(0:Int)))
theorem q17k C v:q3fe (regO (qct f53) 4) false [(1,(.val Rii)),(14,(.val Rii)),(15,.any),(16,.any)] q17a q17j q17i C v:=rgI (by kernel_rfl)
abbrev q17l:Type:=List Dii×List Dii×Int×Int×Bool
def q17m (v:q17l):St:=⟨[(1,.fz Rii v.1),(14,.fz Rii v.2.1),(15,i6 v.2.2.1),(16,i6 v.2.2.2.1),(17,.bool v.2.2.2.2)],[]⟩
def q17n (C:q16w) (v:q17h):Dt q17l:=(Dt.ret (v.1,v.2.1,v.2.2.1,v.2.2.2,(decide (v.2.2.2<v.2.2.1))))
theorem q17o C v:q3fe (regO (qct f53) 5) false [(1,(.val Rii)),(14,(.val Rii)),(15,.any),(16,.any),(17,.any)] q17i q17n q17m C v:=rgI (by kernel_rfl)
abbrev q17p:Type:=List Dii×List Dii×Int×Int×Int×Int
def q17q (v:q17p):St:=⟨[(1,.fz Rii v.1),(7,.ptr 0 0),(14,.fz Rii v.2.1),(15,i6 v.2.2.1),(16,i6 v.2.2.2.1)],[.cells [i6 v.2.2.2.2.1,i6 v.2.2.2.2.2]]⟩
def q17r (C:q16w) (v:q17l):Dt q17p:=(Dt.ite (inB v.2.2.2.1 (List.length v.2.1)) (Dt.ret (v.1,v.2.1,v.2.2.1,v.2.2.2.1,(elt zii v.2.1 (v.2.2.2.1).toNat).1,(elt zii v.2.1 (v.2.2.2.1).toNat).2.1)) Dt.fail)
theorem q17s C v:q3fe (regO (qct f53) 6) false [(1,(.val Rii)),(7,.any),(14,(.val Rii)),(15,.any),(16,.any)] q17m q17r q17q C v:=rgI (by kernel_rfl)
abbrev q17t:Type:=List Dii×Int×List Dii×Int×Int
def q17u (v:q17t):St:=⟨[(1,.fz Rii v.1),(8,i6 v.2.1),(14,.fz Rii v.2.2.1),(15,i6 v.2.2.2.1),(16,i6 v.2.2.2.2)],[]⟩
def q17v (C:q16w) (v:q17p):Dt q17t:=(Dt.bnd (C.2.1 ((v.2.2.2.2.1,v.2.2.2.2.2,()),())) fun r1=>(Dt.ret (v.1,r1,v.2.1,v.2.2.1,v.2.2.2.1)))
theorem q17w C v:q3fe (regO (qct f53) 7) false [(1,(.val Rii)),(8,.any),(14,(.val Rii)),(15,.any),(16,.any)] q17q q17v q17u C v:=rgI (by kernel_rfl)
abbrev q17x:Type:=List Dii×Int×List Dii×Int×Int×Bool
def q17y (v:q17x):St:=⟨[(1,.fz Rii v.1),(8,i6 v.2.1),(14,.fz Rii v.2.2.1),(15,i6 v.2.2.2.1),(16,i6 v.2.2.2.2.1),(23,.bool v.2.2.2.2.2)],[]⟩
def q17z (C:q16w) (v:q17t):Dt q17x:=(Dt.ret (v.1,v.2.1,v.2.2.1,v.2.2.2.1,v.2.2.2.2,(v.2.1 != (0:Int))))
theorem q180 C v:q3fe (regO (qct f53) 8) false [(1,(.val Rii)),(8,.any),(14,(.val Rii)),(15,.any),(16,.any),(23,.any)] q17u q17z q17y C v:=rgI (by kernel_rfl)
def q181 (C:q16w) (v:q17x):Dt q17d:=(Dt.ret v.2.1)
theorem q182 C v:q3fe (regO (qct f53) 9) false [(4,.any)] q17y q181 q17e C v:=rgI (by kernel_rfl)
def q183 (C:q16w) (v:q17x):Dt q17h:=(Dt.ret (v.1,v.2.2.1,v.2.2.2.1,(IntKind.wrap .i64 (v.2.2.2.2.1+(1:Int)))))
theorem q184 C v:q3fe (regO (qct f53) 10) false [(1,(.val Rii)),(14,(.val Rii)),(15,.any),(16,.any)] q17y q183 q17i C v:=rgI (by kernel_rfl)
abbrev q185:Type:=Bool
def q186 (v:q185):St:=⟨[(38,.bool v)],[]⟩
def q187 (C:q16w) (v:q17l):Dt q185:=(Dt.ite ((List.length v.1:Int) == (2:Int)) (Dt.ite (inB (0:Int) (List.length v.1)) (Dt.ite (inB (1:Int) (List.length v.1)) (Dt.bnd (C.2.2.1 (((elt zii v.1 ((0:Int)).toNat).1,(elt zii v.1 ((0:Int)).toNat).2.1,()),((elt zii v.1 ((1:Int)).toNat).1,(elt zii v.1 ((1:Int)).toNat).2.1,()),())) fun r1=>(Dt.ret (decide (r1 > (0:Int))))) Dt.fail) Dt.fail) (Dt.ret false))
theorem q188 C v:q3fe (regO (qct f53) 11) true [(38,.any)] q17m q187 q186 C v:=rgI (by kernel_rfl)
def q189 (C:q16w) (v:q185):Dt q17d:=(Dt.ret (2:Int))
theorem q18a C v:q3fe (regO (qct f53) 12) false [(4,.any)] q186 q189 q17e C v:=rgI (by kernel_rfl)
def q18b (C:q16w) (v:q185):Dt q17d:=(Dt.ret (0:Int))
theorem q18c C v:q3fe (regO (qct f53) 13) false [(4,.any)] q186 q18b q17e C v:=rgI (by kernel_rfl)
def q18d (d:Nat) (self1:(List Dii×List Dii×Int×Int)→Option q16t) (x1:List Dii×List Dii×Int×Int):Option q16t :=
 (q17n (q16x d) x1).eval fun y5 =>
 bif y5.2.2.2.2 then ((q17r (q16x d) y5).eval fun y6 =>
 (q17v (q16x d) y6).eval fun y7 =>
 (q17z (q16x d) y7).eval fun y8 =>
 bif y8.2.2.2.2.2 then ((q181 (q16x d) y8).eval fun y9 =>
 some y9) else ((q183 (q16x d) y8).eval fun y10 =>
 self1 y10)) else ((q187 (q16x d) y5).eval fun y11 =>
 bif y11 then ((q189 (q16x d) y11).eval fun y12 =>
 some y12) else ((q18b (q16x d) y11).eval fun y13 =>
 some y13))
def q18e (d:Nat) (x:q16s):Option q16t :=
 (q173 (q16x d) (x.1.1,x.2.1.1)).eval fun y0 =>
 (q177 (q16x d) y0).eval fun y1 =>
 (q17b (q16x d) y1).eval fun y2 =>
 bif y2.2.2 then ((q17f (q16x d) y2).eval fun y3 =>
 some y3) else ((q17j (q16x d) y2).eval fun y4 =>
 iter (q18d d ) d y4)
theorem q18f (d:Nat):COK prog (q16v (q18e d)):=by
 have hm:prog.follows .mixedOrders=true:=mixed
 have hT:=tys
 have hC0:OrcOK prog (orc (q16y (q16x d))):=qcn (by
  intro S hS
  simp only [q16y,List.mem_cons,List.not_mem_nil,or_false] at hS
  rcases hS with rfl | rfl | rfl
  · exact qpf d
  · exact qmx d
  · exact q16q d)
 have hC:OrcOK prog (orc (q16y (q16x d))):=hC0
 refine q8c (c:=qct f53) (fn:=f53) hT (by kernel_rfl) (by kernel_rfl) (by decide) fun x r h w0 φ0 Q hend=>?_
 replace h:q18e d x=some r:=h
 unfold q18e at h
 show Run prog w0 φ0 39 (qct f53) ⟨[(0,.agg [.fz Riii x.1.1]),(1,.fz Rii x.2.1.1)],[]⟩ Q
 refine q3f2 hm hT hC (q174 (q16x d) (x.1.1,x.2.1.1)) h fun y0 h=>?_
 refine q7w ?_
 refine q3f2 hm hT hC (q178 (q16x d) y0) h fun y1 h=>?_
 refine q3f2 hm hT hC (q17c (q16x d) y1) h fun y2 h=>?_
 refine q80 (v:=y2.2.2) (by kernel_rfl) h ?_ ?_
 ·
  intro h
  refine q3f2 hm hT hC (q17g (q16x d) y2) h fun y3 h=>?_
  refine q7v (q7k ?_)
  cases h
  exact (hend _ (by kernel_rfl)).2
 ·
  intro h
  refine q7s (q7i (q7w ?_))
  refine q3f2 hm hT hC (q17k (q16x d) y2) h fun y4 h=>?_
  refine q7x ?_
  refine q82 (G:=iter (q18d d )) (S:=(fun x1=>⟨[(1,.fz Rii x1.1),(14,.fz Rii x1.2.1),(15,i6 x1.2.2.1),(16,i6 x1.2.2.2)],[]⟩:List Dii×List Dii×Int×Int→St)) (fun _=>rfl) ?_ d _ h
  intro n1 x1 h K1 hn1
  replace h:q18d d  (iter (q18d d ) n1) x1=some r:=h
  generalize iter (q18d d ) n1=self1 at h hn1
  unfold q18d at h
  refine q3f2 hm hT hC (q17o (q16x d) x1) h fun y5 h=>?_
  refine q7w ?_
  refine q80 (v:=y5.2.2.2.2) (by kernel_rfl) h ?_ ?_
  ·
   intro h
   refine q7s (q7i (q7w (q7x ?_)))
   refine q3f2 hm hT hC (q17s (q16x d) y5) h fun y6 h=>?_
   refine q3f2 hm hT hC (q17w (q16x d) y6) h fun y7 h=>?_
   refine q3f2 hm hT hC (q180 (q16x d) y7) h fun y8 h=>?_
   refine q80 (v:=y8.2.2.2.2.2) (by kernel_rfl) h ?_ ?_
   ·
    intro h
    refine q3f2 hm hT hC (q182 (q16x d) y8) h fun y9 h=>?_
    refine q7v (q7m (q7k (q7k (q7m (q7k ?_)))))
    cases h
    exact (hend _ (by kernel_rfl)).2
   ·
    intro h
    refine q7s (q7l (q7i ?_))
    refine q81 hm hT hC (q184 (q16x d) y8) h ?_
    intro y10 h
    exact hn1 _ h
  ·
   intro h
   refine q7u (q7j (q7j (q7n (q7i (q7w ?_)))))
   refine q3f2 hm hT hC (q188 (q16x d) y5) h fun y11 h=>?_
   refine q80 (v:=y11) (by kernel_rfl) h ?_ ?_
   ·
    intro h
    refine q3f2 hm hT hC (q18a (q16x d) y11) h fun y12 h=>?_
    refine q7v (q7k ?_)
    cases h
    exact (hend _ (by kernel_rfl)).2
   ·
    intro h
    refine q7s (q7i ?_)
    refine q3f2 hm hT hC (q18c (q16x d) y11) h fun y13 h=>?_
    refine q7v ?_
    cases h
    exact (hend _ (by kernel_rfl)).2
abbrev q18g:List Pk:=[.row qj5 true]
abbrev q18h:Type:=qj6×Unit
abbrev q18i:Type:=List Diii
def q18j (r:q18i):LV×List Ob:=(.fn 147 [.ptr 0 0],[.cells [.fz Riii r]])
def q18k (F:q18h→Option q18i):Go.Tx.Spec:=⟨110,q18g,q18i,F,q18j⟩
abbrev q18l:Type:=Unit
def q18m (_d:Nat):q18l:=()
def q18n (C:q18l):List Go.Tx.Spec:=[]
abbrev q18o:Type:=List Diii
def q18p (v:q18o):St:=⟨[(0,.agg [.fz Riii v])],[]⟩
abbrev q18q:Type:=List Diii
def q18r (v:q18q):St:=⟨[(1,.ptr 0 0)],[.cells [.fz Riii v]]⟩
def q18s (C:q18l) (v:q18o):Dt q18q:=(Dt.ret v)
abbrev q3ff {V Y:Type}:=@rg q18l V Y tysT (fun C=>(orc (q18n C))) 4
theorem q18t C v:q3ff (regO (qct f110) 0) false [(1,(.box [.val Riii]))] q18p q18s q18r C v:=rgI (by kernel_rfl)
abbrev q18u:Type:=List Diii
def q18v (v:q18u):St:=⟨[(2,.fn 147 [.ptr 0 0])],[.cells [.fz Riii v]]⟩
def q18w (C:q18l) (v:q18q):Dt q18u:=(Dt.ret v)
theorem q18x C v:q3ff (regO (qct f110) 1) false [(2,.any)] q18r q18w q18v C v:=rgI (by kernel_rfl)
def q18y (d:Nat) (x:q18h):Option q18i :=
 (q18s (q18m d) x.1.1).eval fun y0 =>
 (q18w (q18m d) y0).eval fun y1 =>
 some y1
theorem q18z (d:Nat):COK prog (q18k (q18y d)):=by
 have hm:prog.follows .mixedOrders=true:=mixed
 have hT:=tys
 have hC0:OrcOK prog (orc (q18n (q18m d))):=qcn (by
  intro S hS
  simp only [q18n,List.mem_cons,List.not_mem_nil,or_false] at hS
  all_goals first | cases hS | exact hS.elim)
 have hC:OrcOK prog (orc (q18n (q18m d))):=hC0
 refine q8c (c:=qct f110) (fn:=f110) hT (by kernel_rfl) (by kernel_rfl) (by decide) fun x r h w0 φ0 Q hend=>?_
 replace h:q18y d x=some r:=h
 unfold q18y at h
 show Run prog w0 φ0 4 (qct f110) ⟨[(0,.agg [.fz Riii x.1.1])],[]⟩ Q
 refine q3f2 hm hT hC (q18t (q18m d) x.1.1) h fun y0 h=>?_
 refine q3f2 hm hT hC (q18x (q18m d) y0) h fun y1 h=>?_
 refine q7v ?_
 cases h
 exact (hend _ (by kernel_rfl)).2
abbrev q190:List Pk:=[.row Ri false]
abbrev q191:Type:=Di×Unit
abbrev q192:Type:=Bool
def q193 (r:q192):LV×List Ob:=(.bool r,[])
def q194 (F:q191→Option q192):Go.Tx.Spec:=⟨160,q190,q192,F,q193⟩
abbrev q195:Type:=Unit
def q196 (_d:Nat):q195:=()
def q197 (C:q195):List Go.Tx.Spec:=[]
abbrev q198:Type:=Int
def q199 (v:q198):St:=⟨[(0,i6 v)],[]⟩
def q19a (C:q195) (v:q198):Dt q198:=(Dt.ret v)
abbrev q3fg {V Y:Type}:=@rg q195 V Y tysT (fun C=>(orc (q197 C))) 6
theorem q19b C v:q3fg (regO (qct f160) 0) false [(0,.any)] q199 q19a q199 C v:=rgI (by kernel_rfl)
abbrev q19c:Type:=Bool
def q19d (v:q19c):St:=⟨[(2,.bool v)],[]⟩
def q19e (C:q195) (v:q198):Dt q19c:=(Dt.ret (v != v))
theorem q19f C v:q3fg (regO (qct f160) 1) false [(2,.any)] q199 q19e q19d C v:=rgI (by kernel_rfl)
def q19g (d:Nat) (x:q191):Option q192 :=
 (q19a (q196 d) x.1.1).eval fun y0 =>
 (q19e (q196 d) y0).eval fun y1 =>
 some y1
theorem q19h (d:Nat):COK prog (q194 (q19g d)):=by
 have hm:prog.follows .mixedOrders=true:=mixed
 have hT:=tys
 have hC0:OrcOK prog (orc (q197 (q196 d))):=qcn (by
  intro S hS
  simp only [q197,List.mem_cons,List.not_mem_nil,or_false] at hS
  all_goals first | cases hS | exact hS.elim)
 have hC:OrcOK prog (orc (q197 (q196 d))):=hC0
 refine q8c (c:=qct f160) (fn:=f160) hT (by kernel_rfl) (by kernel_rfl) (by decide) fun x r h w0 φ0 Q hend=>?_
 replace h:q19g d x=some r:=h
 unfold q19g at h
 show Run prog w0 φ0 6 (qct f160) ⟨[(0,.int .i64 x.1.1)],[]⟩ Q
 refine q3f2 hm hT hC (q19b (q196 d) x.1.1) h fun y0 h=>?_
 refine q3f2 hm hT hC (q19f (q196 d) y0) h fun y1 h=>?_
 refine q7v ?_
 cases h
 exact (hend _ (by kernel_rfl)).2
abbrev q19i:List Pk:=[.row Ri false,.row Ri false]
abbrev q19j:Type:=Di×Di×Unit
abbrev q19k:Type:=Int
def q19l (r:q19k):LV×List Ob:=(.int .i64 r,[])
def q19m (F:q19j→Option q19k):Go.Tx.Spec:=⟨140,q19i,q19k,F,q19l⟩
abbrev q19n:Type:=(q191→Option q192)×Unit
def q19o (d:Nat):q19n:=(q19g d,())
def q19p (C:q19n):List Go.Tx.Spec:=[q194 C.1]
abbrev q19q:Type:=Int×Int
def q19r (v:q19q):St:=⟨[(0,i6 v.1),(1,i6 v.2)],[]⟩
def q19s (C:q19n) (v:q19q):Dt q19q:=(Dt.ret (v.1,v.2))
abbrev q3fh {V Y:Type}:=@rg q19n V Y tysT (fun C=>(orc (q19p C))) 20
theorem q19t C v:q3fh (regO (qct f140) 0) false (an [0,1]) q19r q19s q19r C v:=rgI (by kernel_rfl)
abbrev q19u:Type:=Int×Int×Bool
def q19v (v:q19u):St:=⟨[(0,i6 v.1),(1,i6 v.2.1),(5,.bool v.2.2)],[]⟩
def q19w (C:q19n) (v:q19q):Dt q19u:=(Dt.bnd (C.1 ((v.1,()),())) fun r1=>(Dt.ret (v.1,v.2,r1)))
theorem q19x C v:q3fh (regO (qct f140) 1) false (an [0,1,5]) q19r q19w q19v C v:=rgI (by kernel_rfl)
abbrev q19y:Type:=Int×Int×Bool×Bool
def q19z (v:q19y):St:=⟨[(0,i6 v.1),(1,i6 v.2.1),(5,.bool v.2.2.1),(6,.bool v.2.2.2)],[]⟩
def q1a0 (C:q19n) (v:q19u):Dt q19y:=(Dt.bnd (C.1 ((v.2.1,()),())) fun r1=>(Dt.ret (v.1,v.2.1,v.2.2,r1)))
theorem q1a1 C v:q3fh (regO (qct f140) 2) false (an [0,1,5,6]) q19v q1a0 q19z C v:=rgI (by kernel_rfl)
abbrev q1a2:Type:=Int×Int×Bool×Bool
def q1a3 (v:q1a2):St:=⟨[(0,i6 v.1),(1,i6 v.2.1),(6,.bool v.2.2.1),(11,.bool v.2.2.2)],[]⟩
def q1a4 (C:q19n) (v:q19y):Dt q1a2:=(Dt.ret (v.1,v.2.1,v.2.2.2,v.2.2.1))
theorem q1a5 C v:q3fh (regO (qct f140) 3) false (an [0,1,6,11]) q19z q1a4 q1a3 C v:=rgI (by kernel_rfl)
abbrev q1a6:Type:=Bool
def q1a7 (v:q1a6):St:=⟨[(12,.bool v)],[]⟩
def q1a8 (C:q19n) (v:q1a2):Dt q1a6:=(Dt.ret v.2.2.1)
theorem q1a9 C v:q3fh (regO (qct f140) 4) false [(12,.any)] q1a3 q1a8 q1a7 C v:=rgI (by kernel_rfl)
abbrev q1aa:Type:=Int
def q1ab (v:q1aa):St:=⟨[(4,i6 v)],[]⟩
def q1ac (C:q19n) (v:q1a6):Dt q1aa:=(Dt.ret (0:Int))
theorem q1ad C v:q3fh (regO (qct f140) 5) false [(4,.any)] q1a7 q1ac q1ab C v:=rgI (by kernel_rfl)
def q1ae (C:q19n) (v:q1a6):Dt q1aa:=(Dt.ret (-1:Int))
theorem q1af C v:q3fh (regO (qct f140) 6) false [(4,.any)] q1a7 q1ae q1ab C v:=rgI (by kernel_rfl)
abbrev q1ag:Type:=Int×Int×Bool
def q1ah (v:q1ag):St:=⟨[(0,i6 v.1),(1,i6 v.2.1),(13,.bool v.2.2)],[]⟩
def q1ai (C:q19n) (v:q1a2):Dt q1ag:=(Dt.ret (v.1,v.2.1,v.2.2.1))
theorem q1aj C v:q3fh (regO (qct f140) 7) false (an [0,1,13]) q1a3 q1ai q1ah C v:=rgI (by kernel_rfl)
def q1ak (C:q19n) (v:q1ag):Dt q1aa:=(Dt.ret (1:Int))
theorem q1al C v:q3fh (regO (qct f140) 8) false [(4,.any)] q1ah q1ak q1ab C v:=rgI (by kernel_rfl)
abbrev q1am:Type:=Int×Int×Bool
def q1an (v:q1am):St:=⟨[(0,i6 v.1),(1,i6 v.2.1),(16,.bool v.2.2)],[]⟩
def q1ao (C:q19n) (v:q1ag):Dt q1am:=(Dt.ret (v.1,v.2.1,(decide (v.1<v.2.1))))
theorem q1ap C v:q3fh (regO (qct f140) 9) false (an [0,1,16]) q1ah q1ao q1an C v:=rgI (by kernel_rfl)
def q1aq (C:q19n) (v:q1am):Dt q1aa:=(Dt.ret (-1:Int))
theorem q1ar C v:q3fh (regO (qct f140) 10) false [(4,.any)] q1an q1aq q1ab C v:=rgI (by kernel_rfl)
abbrev q1as:Type:=Bool
def q1at (v:q1as):St:=⟨[(19,.bool v)],[]⟩
def q1au (C:q19n) (v:q1am):Dt q1as:=(Dt.ret (decide (v.1 > v.2.1)))
theorem q1av C v:q3fh (regO (qct f140) 11) false [(19,.any)] q1an q1au q1at C v:=rgI (by kernel_rfl)
def q1aw (C:q19n) (v:q1as):Dt q1aa:=(Dt.ret (1:Int))
theorem q1ax C v:q3fh (regO (qct f140) 12) false [(4,.any)] q1at q1aw q1ab C v:=rgI (by kernel_rfl)
def q1ay (C:q19n) (v:q1as):Dt q1aa:=(Dt.ret (0:Int))
theorem q1az C v:q3fh (regO (qct f140) 13) false [(4,.any)] q1at q1ay q1ab C v:=rgI (by kernel_rfl)
def q1b0 (d:Nat) (x:q19j):Option q19k :=
 (q19s (q19o d) (x.1.1,x.2.1.1)).eval fun y0 =>
 (q19w (q19o d) y0).eval fun y1 =>
 (q1a0 (q19o d) y1).eval fun y2 =>
 (q1a4 (q19o d) y2).eval fun y3 =>
 bif y3.2.2.2 then ((q1a8 (q19o d) y3).eval fun y4 =>
 bif y4 then ((q1ac (q19o d) y4).eval fun y5 =>
 some y5) else ((q1ae (q19o d) y4).eval fun y6 =>
 some y6)) else ((q1ai (q19o d) y3).eval fun y7 =>
 bif y7.2.2 then ((q1ak (q19o d) y7).eval fun y8 =>
 some y8) else ((q1ao (q19o d) y7).eval fun y9 =>
 bif y9.2.2 then ((q1aq (q19o d) y9).eval fun y10 =>
 some y10) else ((q1au (q19o d) y9).eval fun y11 =>
 bif y11 then ((q1aw (q19o d) y11).eval fun y12 =>
 some y12) else ((q1ay (q19o d) y11).eval fun y13 =>
 some y13))))
theorem q1b1 (d:Nat):COK prog (q19m (q1b0 d)):=by
 have hm:prog.follows .mixedOrders=true:=mixed
 have hT:=tys
 have hC0:OrcOK prog (orc (q19p (q19o d))):=qcn (by
  intro S hS
  simp only [q19p,List.mem_cons,List.not_mem_nil,or_false] at hS
  subst hS;exact q19h d)
 have hC:OrcOK prog (orc (q19p (q19o d))):=hC0
 refine q8c (c:=qct f140) (fn:=f140) hT (by kernel_rfl) (by kernel_rfl) (by decide) fun x r h w0 φ0 Q hend=>?_
 replace h:q1b0 d x=some r:=h
 unfold q1b0 at h
 show Run prog w0 φ0 20 (qct f140) ⟨[(0,.int .i64 x.1.1),(1,.int .i64 x.2.1.1)],[]⟩ Q
 refine q3f2 hm hT hC (q19t (q19o d) (x.1.1,x.2.1.1)) h fun y0 h=>?_
 refine q3f2 hm hT hC (q19x (q19o d) y0) h fun y1 h=>?_
 refine q3f2 hm hT hC (q1a1 (q19o d) y1) h fun y2 h=>?_
 refine q7w ?_
 refine q3f2 hm hT hC (q1a5 (q19o d) y2) h fun y3 h=>?_
 refine q80 (v:=y3.2.2.2) (by kernel_rfl) h ?_ ?_
 ·
  intro h
  refine q7w ?_
  refine q3f2 hm hT hC (q1a9 (q19o d) y3) h fun y4 h=>?_
  refine q80 (v:=y4) (by kernel_rfl) h ?_ ?_
  ·
   intro h
   refine q3f2 hm hT hC (q1ad (q19o d) y4) h fun y5 h=>?_
   refine q7v (q7k (q7k ?_))
   cases h
   exact (hend _ (by kernel_rfl)).2
  ·
   intro h
   refine q7s (q7i ?_)
   refine q3f2 hm hT hC (q1af (q19o d) y4) h fun y6 h=>?_
   refine q7v (q7k ?_)
   cases h
   exact (hend _ (by kernel_rfl)).2
 ·
  intro h
  refine q7s (q7i (q7w ?_))
  refine q3f2 hm hT hC (q1aj (q19o d) y3) h fun y7 h=>?_
  refine q80 (v:=y7.2.2) (by kernel_rfl) h ?_ ?_
  ·
   intro h
   refine q3f2 hm hT hC (q1al (q19o d) y7) h fun y8 h=>?_
   refine q7v (q7k ?_)
   cases h
   exact (hend _ (by kernel_rfl)).2
  ·
   intro h
   refine q7s (q7i (q7w ?_))
   refine q3f2 hm hT hC (q1ap (q19o d) y7) h fun y9 h=>?_
   refine q80 (v:=y9.2.2) (by kernel_rfl) h ?_ ?_
   ·
    intro h
    refine q3f2 hm hT hC (q1ar (q19o d) y9) h fun y10 h=>?_
    refine q7v (q7k ?_)
    cases h
    exact (hend _ (by kernel_rfl)).2
   ·
    intro h
    refine q7s (q7i (q7w ?_))
    refine q3f2 hm hT hC (q1av (q19o d) y9) h fun y11 h=>?_
    refine q80 (v:=y11) (by kernel_rfl) h ?_ ?_
    ·
     intro h
     refine q3f2 hm hT hC (q1ax (q19o d) y11) h fun y12 h=>?_
     refine q7v (q7k ?_)
     cases h
     exact (hend _ (by kernel_rfl)).2
    ·
     intro h
     refine q7s (q7i ?_)
     refine q3f2 hm hT hC (q1az (q19o d) y11) h fun y13 h=>?_
     refine q7v ?_
     cases h
     exact (hend _ (by kernel_rfl)).2
abbrev q1b2:List Pk:=[.row RLiE false]
abbrev q1b3:Type:=DLiE×Unit
abbrev q1b4:Type:=Int
def q1b5 (r:q1b4):LV×List Ob:=(.int .i64 r,[])
def q1b6 (F:q1b3→Option q1b4):Go.Tx.Spec:=⟨151,q1b2,q1b4,F,q1b5⟩
abbrev q1b7:Type:=Unit
def q1b8 (_d:Nat):q1b7:=()
def q1b9 (C:q1b7):List Go.Tx.Spec:=[]
abbrev q1ba:Type:=List Di
def q1bb (v:q1ba):St:=⟨[(0,.fz Ri v)],[]⟩
def q1bc (C:q1b7) (v:q1ba):Dt q1ba:=(Dt.ret v)
abbrev q3fi {V Y:Type}:=@rg q1b7 V Y tysT (fun C=>(orc (q1b9 C))) 18
theorem q1bd C v:q3fi (regO (qct f151) 0) false [(0,(.val Ri))] q1bb q1bc q1bb C v:=rgI (by kernel_rfl)
abbrev q1be:Type:=List Di×Int
def q1bf (v:q1be):St:=⟨[(0,.fz Ri v.1),(3,i6 v.2)],[]⟩
def q1bg (C:q1b7) (v:q1ba):Dt q1be:=(Dt.ret (v,(0:Int)))
theorem q1bh C v:q3fi (regO (qct f151) 1) false [(0,(.val Ri)),(3,.any)] q1bb q1bg q1bf C v:=rgI (by kernel_rfl)
abbrev q1bi:Type:=Int×List Di×Int×Int
def q1bj (v:q1bi):St:=⟨[(3,i6 v.1),(6,.fz Ri v.2.1),(7,i6 v.2.2.1),(8,i6 v.2.2.2)],[]⟩
def q1bk (C:q1b7) (v:q1be):Dt q1bi:=(Dt.ret (v.2,v.1,(List.length v.1:Int),(0:Int)))
theorem q1bl C v:q3fi (regO (qct f151) 2) false [(3,.any),(6,(.val Ri)),(7,.any),(8,.any)] q1bf q1bk q1bj C v:=rgI (by kernel_rfl)
abbrev q1bm:Type:=Int×List Di×Int×Int×Bool
def q1bn (v:q1bm):St:=⟨[(3,i6 v.1),(6,.fz Ri v.2.1),(7,i6 v.2.2.1),(8,i6 v.2.2.2.1),(9,.bool v.2.2.2.2)],[]⟩
def q1bo (C:q1b7) (v:q1bi):Dt q1bm:=(Dt.ret (v.1,v.2.1,v.2.2.1,v.2.2.2,(decide (v.2.2.2<v.2.2.1))))
theorem q1bp C v:q3fi (regO (qct f151) 3) false [(3,.any),(6,(.val Ri)),(7,.any),(8,.any),(9,.any)] q1bj q1bo q1bn C v:=rgI (by kernel_rfl)
abbrev q1bq:Type:=Int×Int×List Di×Int×Int
def q1br (v:q1bq):St:=⟨[(3,i6 v.1),(5,i6 v.2.1),(6,.fz Ri v.2.2.1),(7,i6 v.2.2.2.1),(8,i6 v.2.2.2.2)],[]⟩
def q1bs (C:q1b7) (v:q1bm):Dt q1bq:=(Dt.ite (inB v.2.2.2.1 (List.length v.2.1)) (Dt.ret (v.1,(elt zi v.2.1 (v.2.2.2.1).toNat).1,v.2.1,v.2.2.1,v.2.2.2.1)) Dt.fail)
theorem q1bt C v:q3fi (regO (qct f151) 4) false [(3,.any),(5,.any),(6,(.val Ri)),(7,.any),(8,.any)] q1bn q1bs q1br C v:=rgI (by kernel_rfl)
abbrev q1bu:Type:=Int×Int×List Di×Int×Int×Bool
def q1bv (v:q1bu):St:=⟨[(3,i6 v.1),(5,i6 v.2.1),(6,.fz Ri v.2.2.1),(7,i6 v.2.2.2.1),(8,i6 v.2.2.2.2.1),(14,.bool v.2.2.2.2.2)],[]⟩
def q1bw (C:q1b7) (v:q1bq):Dt q1bu:=(Dt.ret (v.1,v.2.1,v.2.2.1,v.2.2.2.1,v.2.2.2.2,(v.2.1 != v.1)))
theorem q1bx C v:q3fi (regO (qct f151) 5) false [(3,.any),(5,.any),(6,(.val Ri)),(7,.any),(8,.any),(14,.any)] q1br q1bw q1bv C v:=rgI (by kernel_rfl)
abbrev q1by:Type:=Int
def q1bz (v:q1by):St:=⟨[(2,i6 v)],[]⟩
def q1c0 (C:q1b7) (v:q1bu):Dt q1by:=(Dt.ret v.2.1)
theorem q1c1 C v:q3fi (regO (qct f151) 6) false [(2,.any)] q1bv q1c0 q1bz C v:=rgI (by kernel_rfl)
def q1c2 (C:q1b7) (v:q1bu):Dt q1bi:=(Dt.ret (v.1,v.2.2.1,v.2.2.2.1,(IntKind.wrap .i64 (v.2.2.2.2.1+(1:Int)))))
theorem q1c3 C v:q3fi (regO (qct f151) 7) false [(3,.any),(6,(.val Ri)),(7,.any),(8,.any)] q1bv q1c2 q1bj C v:=rgI (by kernel_rfl)
def q1c4 (C:q1b7) (v:q1bm):Dt q1by:=(Dt.ret v.1)
theorem q1c5 C v:q3fi (regO (qct f151) 8) false [(2,.any)] q1bn q1c4 q1bz C v:=rgI (by kernel_rfl)
def q1c6 (d:Nat) (self1:(Int×List Di×Int×Int)→Option q1b4) (x1:Int×List Di×Int×Int):Option q1b4 :=
 (q1bo (q1b8 d) x1).eval fun y3 =>
 bif y3.2.2.2.2 then ((q1bs (q1b8 d) y3).eval fun y4 =>
 (q1bw (q1b8 d) y4).eval fun y5 =>
 bif y5.2.2.2.2.2 then ((q1c0 (q1b8 d) y5).eval fun y6 =>
 some y6) else ((q1c2 (q1b8 d) y5).eval fun y7 =>
 self1 y7)) else ((q1c4 (q1b8 d) y3).eval fun y8 =>
 some y8)
def q1c7 (d:Nat) (x:q1b3):Option q1b4 :=
 (q1bc (q1b8 d) x.1.1).eval fun y0 =>
 (q1bg (q1b8 d) y0).eval fun y1 =>
 (q1bk (q1b8 d) y1).eval fun y2 =>
 iter (q1c6 d ) d y2
theorem q1c8 (d:Nat):COK prog (q1b6 (q1c7 d)):=by
 have hm:prog.follows .mixedOrders=true:=mixed
 have hT:=tys
 have hC0:OrcOK prog (orc (q1b9 (q1b8 d))):=qcn (by
  intro S hS
  simp only [q1b9,List.mem_cons,List.not_mem_nil,or_false] at hS
  all_goals first | cases hS | exact hS.elim)
 have hC:OrcOK prog (orc (q1b9 (q1b8 d))):=hC0
 refine q8c (c:=qct f151) (fn:=f151) hT (by kernel_rfl) (by kernel_rfl) (by decide) fun x r h w0 φ0 Q hend=>?_
 replace h:q1c7 d x=some r:=h
 unfold q1c7 at h
 show Run prog w0 φ0 18 (qct f151) ⟨[(0,.fz Ri x.1.1)],[]⟩ Q
 refine q3f2 hm hT hC (q1bd (q1b8 d) x.1.1) h fun y0 h=>?_
 refine q3f2 hm hT hC (q1bh (q1b8 d) y0) h fun y1 h=>?_
 refine q7w ?_
 refine q3f2 hm hT hC (q1bl (q1b8 d) y1) h fun y2 h=>?_
 refine q7x ?_
 refine q82 (G:=iter (q1c6 d )) (S:=(fun x1=>⟨[(3,i6 x1.1),(6,.fz Ri x1.2.1),(7,i6 x1.2.2.1),(8,i6 x1.2.2.2)],[]⟩:Int×List Di×Int×Int→St)) (fun _=>rfl) ?_ d _ h
 intro n1 x1 h K1 hn1
 replace h:q1c6 d  (iter (q1c6 d ) n1) x1=some r:=h
 generalize iter (q1c6 d ) n1=self1 at h hn1
 unfold q1c6 at h
 refine q3f2 hm hT hC (q1bp (q1b8 d) x1) h fun y3 h=>?_
 refine q7w ?_
 refine q80 (v:=y3.2.2.2.2) (by kernel_rfl) h ?_ ?_
 ·
  intro h
  refine q7s (q7i (q7w (q7x ?_)))
  refine q3f2 hm hT hC (q1bt (q1b8 d) y3) h fun y4 h=>?_
  refine q3f2 hm hT hC (q1bx (q1b8 d) y4) h fun y5 h=>?_
  refine q80 (v:=y5.2.2.2.2.2) (by kernel_rfl) h ?_ ?_
  ·
   intro h
   refine q3f2 hm hT hC (q1c1 (q1b8 d) y5) h fun y6 h=>?_
   refine q7v (q7m (q7k (q7k (q7m (q7k ?_)))))
   cases h
   exact (hend _ (by kernel_rfl)).2
  ·
   intro h
   refine q7s (q7l (q7i ?_))
   refine q81 hm hT hC (q1c3 (q1b8 d) y5) h ?_
   intro y7 h
   exact hn1 _ h
 ·
  intro h
  refine q7u (q7j (q7j (q7n (q7i ?_))))
  refine q3f2 hm hT hC (q1c5 (q1b8 d) y3) h fun y8 h=>?_
  refine q7v ?_
  cases h
  exact (hend _ (by kernel_rfl)).2
abbrev q1c9:List Pk:=[.row qj8 true,.row qj8 true]
abbrev q1ca:Type:=qj9×qj9×Unit
abbrev q1cb:Type:=Int
def q1cc (r:q1cb):LV×List Ob:=(.int .i64 r,[])
def q1cd (F:q1ca→Option q1cb):Go.Tx.Spec:=⟨113,q1c9,q1cb,F,q1cc⟩
abbrev q1ce:Type:=(q164→Option q165)×(q19j→Option q19k)×(q1b3→Option q1b4)×Unit
def q1cf (d:Nat):q1ce:=(q16p d,q1b0 d,q1c7 d,())
def q1cg (C:q1ce):List Go.Tx.Spec:=[q167 C.1,q19m C.2.1,q1b6 C.2.2.1]
abbrev q1ch:Type:=Int×Int×Int×Int×Int×Int×Int×Int
def q1ci (v:q1ch):St:=⟨[(0,.agg [i6 v.1,i6 v.2.1,i6 v.2.2.1,i6 v.2.2.2.1]),(1,.agg [i6 v.2.2.2.2.1,i6 v.2.2.2.2.2.1,i6 v.2.2.2.2.2.2.1,i6 v.2.2.2.2.2.2.2])],[]⟩
abbrev q1cj:Type:=Int×Int×Int×Int×Int×Int×Int×Int
def q1ck (v:q1cj):St:=⟨[(2,.ptr 0 0),(3,.ptr 1 0)],[.cells [i6 v.1,i6 v.2.1,i6 v.2.2.1,i6 v.2.2.2.1],.cells [i6 v.2.2.2.2.1,i6 v.2.2.2.2.2.1,i6 v.2.2.2.2.2.2.1,i6 v.2.2.2.2.2.2.2]]⟩
def q1cl (C:q1ce) (v:q1ch):Dt q1cj:=(Dt.ret (v.1,v.2.1,v.2.2.1,v.2.2.2.1,v.2.2.2.2.1,v.2.2.2.2.2.1,v.2.2.2.2.2.2.1,v.2.2.2.2.2.2.2))
abbrev q3fj {V Y:Type}:=@rg q1ce V Y tysT (fun C=>(orc (q1cg C))) 22
theorem q1cm C v:q3fj (regO (qct f113) 0) false (an [2,3]) q1ci q1cl q1ck C v:=rgI (by kernel_rfl)
abbrev q1cn:Type:=Int
def q1co (v:q1cn):St:=⟨[(4,i6 v)],[]⟩
def q1cp (C:q1ce) (v:q1cj):Dt q1cn:=(Dt.bnd (C.1 ((v.1,v.2.1,()),(v.2.2.2.2.1,v.2.2.2.2.2.1,()),())) fun r1=>(Dt.bnd (C.2.1 ((v.2.2.1,()),(v.2.2.2.2.2.2.1,()),())) fun r2=>(Dt.bnd (C.2.1 ((v.2.2.2.1,()),(v.2.2.2.2.2.2.2,()),())) fun r3=>(Dt.bnd (C.2.2.1 ((([(r1,()),(r2,()),(r3,())]:List Di),()),())) fun r4=>(Dt.ret r4)))))
theorem q1cq C v:q3fj (regO (qct f113) 1) true [(4,.any)] q1ck q1cp q1co C v:=rgI (by kernel_rfl)
def q1cr (d:Nat) (x:q1ca):Option q1cb :=
 (q1cl (q1cf d) (x.1.1,x.1.2.1,x.1.2.2.1,x.1.2.2.2.1,x.2.1.1,x.2.1.2.1,x.2.1.2.2.1,x.2.1.2.2.2.1)).eval fun y0 =>
 (q1cp (q1cf d) y0).eval fun y1 =>
 some y1
theorem q1cs (d:Nat):COK prog (q1cd (q1cr d)):=by
 have hm:prog.follows .mixedOrders=true:=mixed
 have hT:=tys
 have hC0:OrcOK prog (orc (q1cg (q1cf d))):=qcn (by
  intro S hS
  simp only [q1cg,List.mem_cons,List.not_mem_nil,or_false] at hS
  rcases hS with rfl | rfl | rfl
  · exact q16q d
  · exact q1b1 d
  · exact q1c8 d)
 have hC:OrcOK prog (orc (q1cg (q1cf d))):=hC0
 refine q8c (c:=qct f113) (fn:=f113) hT (by kernel_rfl) (by kernel_rfl) (by decide) fun x r h w0 φ0 Q hend=>?_
 replace h:q1cr d x=some r:=h
 unfold q1cr at h
 show Run prog w0 φ0 22 (qct f113) ⟨[(0,.agg [.int .i64 x.1.1,.int .i64 x.1.2.1,.int .i64 x.1.2.2.1,.int .i64 x.1.2.2.2.1]),(1,.agg [.int .i64 x.2.1.1,.int .i64 x.2.1.2.1,.int .i64 x.2.1.2.2.1,.int .i64 x.2.1.2.2.2.1])],[]⟩ Q
 refine q3f2 hm hT hC (q1cm (q1cf d) (x.1.1,x.1.2.1,x.1.2.2.1,x.1.2.2.2.1,x.2.1.1,x.2.1.2.1,x.2.1.2.2.1,x.2.1.2.2.2.1)) h fun y0 h=>?_
 refine q3f2 hm hT hC (q1cq (q1cf d) y0) h fun y1 h=>?_
 refine q7v ?_
 cases h
 exact (hend _ (by kernel_rfl)).2
end Go.Proofs.YtpfhgnccpiildaaGreat

namespace Go.Tx
open Go
def q1ct (x y c:Int):Option (Int×Int):=bif decide (0≤x)&&decide (x<18446744073709551616)&&decide (0≤y)&&decide (y<18446744073709551616)&&decide (0≤c)&&decide (c≤1) then some ((x+y+c) % 18446744073709551616,(x+y+c) / 18446744073709551616) else none
def q1cu (x y c:Int):Option (Int×Int):=bif decide (0≤x)&&decide (x<18446744073709551616)&&decide (0≤y)&&decide (y<18446744073709551616)&&decide (0≤c)&&decide (c≤1) then some ((x - y - c) % 18446744073709551616,bif decide (x<y+c) then 1 else 0) else none
def orcI (f:FuncId) (G:Int→Int→Int→Option (Int×Int)) (C:Orc):Orc:=fun h args H =>
  bif Nat.beq h f then (match args with
    | [.int .u64 x,.int .u64 y,.int .u64 c]=>some ⟨Int×Int,G x y c,fun r=>(.tup [.int .u64 r.1,.int .u64 r.2],H)⟩
    | _=>none) else C h args H
theorem q1cv {P:Program} {f:FuncId} {G:Int→Int→Int→Option (Int×Int)} (hG:∀ x y c r,G x y c=some r→∀ w,(callFunc f #[.int .u64 x,.int .u64 y,.int .u64 c]).run P w=.ok (.value (.tuple #[.int .u64 r.1,.int .u64 r.2])) w) {C:Orc} (hC:OrcOK P C):OrcOK P (orcI f G C):=by
  refine ⟨fun h args H p x hp hx=>?_⟩
  unfold orcI at hp
  rw [Bool.cond_eq_ite] at hp
  split at hp
  · rename_i he
    have he:=Nat.eq_of_beq_eq_true he
    subst he
    split at hp
    · rename_i x0 y0 c0
      injection hp with hp;subst hp
      refine .inr ⟨rfl,fun η w vs hv=>?_⟩
      obtain ⟨v0,vs',rfl,q0,hv⟩:=hv.uncons
      obtain ⟨v1,v2,rfl,q1,q2⟩:=vrs2 hv
      cases q0;cases q1;cases q2
      exact ⟨_,hG x0 y0 c0 x hx w,.tup rfl (VRs.cons (.int _ _) (VRs.cons (.int _ _) VRs.nil)).2⟩
    · cases hp
  · exact hC.call h args H p x hp hx
theorem q1cw {x y c:Int} {r:Int×Int} (h:q1ct x y c=some r):∃ a b d:Nat,x=a∧y=b∧c=d∧a<18446744073709551616∧b<18446744073709551616∧d≤1∧r=((((a+b+d) % 18446744073709551616:Nat):Int),(((a+b+d) / 18446744073709551616:Nat):Int)):=by
  unfold q1ct at h
  rw [Bool.cond_eq_ite] at h
  split at h
  · rename_i hc
    simp only [Bool.and_eq_true,decide_eq_true_eq] at hc
    injection h with h
    refine ⟨x.toNat,y.toNat,c.toNat,by omega,by omega,by omega,by omega,by omega,by omega,?_⟩
    rw [← h]
    refine Prod.ext ?_ ?_<;>simp only<;>omega
  · cases h
theorem q1cx {x y c:Int} {r:Int×Int} (h:q1cu x y c=some r):∃ a b d:Nat,x=a∧y=b∧c=d∧a<18446744073709551616∧b<18446744073709551616∧d≤1∧r=((((a+18446744073709551616 - b - d) % 18446744073709551616:Nat):Int),((if a<b+d then 1 else 0:Nat):Int)):=by
  unfold q1cu at h
  rw [Bool.cond_eq_ite] at h
  split at h
  · rename_i hc
    simp only [Bool.and_eq_true,decide_eq_true_eq] at hc
    injection h with h
    refine ⟨x.toNat,y.toNat,c.toNat,by omega,by omega,by omega,by omega,by omega,by omega,?_⟩
    rw [← h]
    refine Prod.ext ?_ ?_
    · simp only;omega
    · simp only [Bool.cond_eq_ite, decide_eq_true_eq]
      split<;>split<;>first | rfl | omega
  · cases h
end Go.Tx

namespace Go.Proofs.YtpfhgnccpiildaaGreat
open Go Go.Tx Go.Proofs.Tryz
theorem q1cy:∀ x y c r,q1ct x y c=some r→∀ w,(callFunc 145 #[.int .u64 x,.int .u64 y,.int .u64 c]).run Tryz.prog w=.ok (.value (.tuple #[.int .u64 r.1,.int .u64 r.2])) w:=by
  intro x y c r h w
  obtain ⟨a,b,d,rfl,rfl,rfl,ha,hb,hd,rfl⟩:=q1cw h
  rw [run_callFunc_extern Tryz.func145 (by kernel_rfl) (by kernel_rfl) (by kernel_rfl) (e:=add64Entry) (by kernel_rfl),run_add64 a b d (by omega) (by omega) (by omega) (by omega)]
  simp only [Result.andThen]
  congr 5<;>omega
theorem q1cz:∀ x y c r,q1cu x y c=some r→∀ w,(callFunc 106 #[.int .u64 x,.int .u64 y,.int .u64 c]).run Tryz.prog w=.ok (.value (.tuple #[.int .u64 r.1,.int .u64 r.2])) w:=by
  intro x y c r h w
  obtain ⟨a,b,d,rfl,rfl,rfl,ha,hb,hd,rfl⟩:=q1cx h
  rw [run_callFunc_extern Tryz.func106 (by kernel_rfl) (by kernel_rfl) (by kernel_rfl) (e:=sub64Entry) (by kernel_rfl),run_sub64 a b d hd]
  rfl
end Go.Proofs.YtpfhgnccpiildaaGreat
