/- Walks of courses and of the sorts; the order as plain mathematics. -/
import Derived.Deep.DeepCutAuto
import Derived.Deep.LoopGhost
import Derived.Deep.RegionHeld3
import Derived.Laws.MakeOwn
import Derived.Test.YtbjpmdhdoggobaaGreatProg
import Derived.ChangeKeysEq
import Derived.Test.YtbjpmdhdoggobaaGreatRows
import Derived.IntWalk
import Derived.Shelf.Bits.Mul64
import Derived.Shelf.Spec.BitsCarry
import Derived.Outline
import Derived.Shelf.SlSortCmp.NoneTotal
import Derived.Sort.Statements
import Derived.Shelf.SlSortCmp.Insertion
import Derived.Test.YtbjpmdhdoggobaaGreatGb
set_option linter.unusedSimpArgs false
set_option linter.unusedVariables false
namespace Go
open RowKit
structure Held (W:World) (b o:Nat) (v:Value):Prop where
  lt:b<W.heap.size
  eq:W.cell? ⟨b,o,none⟩=some v
  fr:W.frozen? ⟨b,o,none⟩=false
theorem Held.bel {W W':World} {b o:Nat} {v:Value} (h:Held W b o v) (hb:Bel W W'):Held W' b o v:=by
  obtain ⟨x,rfl⟩:=ext_of hb
  exact ⟨by rw [q94];have:=h.lt;omega,by rw [qc2 _ _ _ _ h.lt];exact h.eq,by rw [qc3 _ _ _ _ h.lt];exact h.fr⟩
theorem Held.new {W W':World} {cs:Array Value} {e:TypeId} {j:Nat} {v:Value} (hb:Bel (W.alloc (.cells cs e)) W') (hv:cs[j]?=some v):Held W' W.heap.size j v:=by
  have h:Held (W.alloc (.cells cs e)) W.heap.size j v:=⟨by simp,by simp [go_sem,hv],by simp [go_sem]⟩
  exact h.bel hb
theorem qig {w W':World} {B:Nat} {e:TypeId} {size n c:Nat} {A:Option Addr} {xs:List Value} (h:∃ y,W'=ext w y∧Own (ext w y) B e size A n c xs):∃ y,W'=ext w y:=let ⟨y,hy,_⟩:=h;⟨y,hy⟩
theorem qih {w W':World} {B:Nat} {e:TypeId} {size n c:Nat} {A:Option Addr} {xs:List Value} (h:∃ y,W'=ext w y∧Own (ext w y) B e size A n c xs):Own W' B e size A n c xs:=by
  obtain ⟨y,rfl,h⟩:=h;exact h
structure Apart (g:Nat) (W W':World):Prop where
  os:W'.os=W.os
  tape:W'.tape=W.tape
  output:W'.output=W.output
  size:W'.heap.size=W.heap.size
  drawn:W.drawn≤W'.drawn
  block:∀ b,b≠g→W'.heap[b]?=W.heap[b]?
theorem Apart.refl (g:Nat) (W:World):Apart g W W:=⟨rfl,rfl,rfl,rfl,Nat.le_refl _,fun _ _=>rfl⟩
theorem Apart.trans {g:Nat} {W W1 W2:World} (h:Apart g W W1) (k:Apart g W1 W2):Apart g W W2 :=
  ⟨k.os.trans h.os,k.tape.trans h.tape,k.output.trans h.output,k.size.trans h.size,Nat.le_trans h.drawn k.drawn,fun b hb=>(k.block b hb).trans (h.block b hb)⟩
theorem Apart.setCell {g:Nat} {W W1:World} (h:Apart g W W1) (o:Nat) (u:Value):Apart g W (W1.setCell ⟨g,o,none⟩ u) :=
  h.trans ⟨rfl,rfl,rfl,by simp [World.setCell],Nat.le_refl _,fun b hb=>by unfold World.setCell;simp only [Array.getElem?_modify,if_neg (Ne.symm hb)]⟩
theorem Apart.bel {g:Nat} {w W W1:World} (h:Apart g W W1) (hb:Bel w W) (hg:w.heap.size≤g):Bel w W1 :=
  ⟨⟨h.os.trans hb.os,h.tape.trans hb.tape,h.output.trans hb.output,by rw [h.size];exact hb.size,fun k hk=>(h.block k (by omega)).trans (hb.block k hk)⟩,Nat.le_trans hb.mono h.drawn⟩
theorem Held.apart {g:Nat} {W W':World} {b o:Nat} {v:Value} (h:Held W b o v) (ha:Apart g W W') (hne:b≠g):Held W' b o v :=
  ⟨by rw [ha.size];exact h.lt,by have:=h.eq;unfold World.cell? at this ⊢;rw [ha.block b hne];exact this,by have:=h.fr;unfold World.frozen? at this ⊢;rw [ha.block b hne];exact this⟩
theorem Sl.apart {g:Nat} {W W':World} {size n c:Nat} {A:Option Addr} {xs:List Value} (h:Sl W size A n c xs) (ha:Apart g W W') (hne:∀ b o,A=some ⟨b,o,none⟩→b≠g):Sl W' size A n c xs :=
  ⟨h.1,h.2.1,fun hn=>by
    obtain ⟨b,o,hA,hb,hc⟩:=h.2.2 hn
    refine ⟨b,o,hA,by rw [ha.size];exact hb,fun j u hu=>?_⟩
    have h1:=hc j u hu
    unfold World.cell? at h1 ⊢
    rw [ha.block b (hne b o hA)];exact h1⟩
end Go
namespace Go
open RowKit
theorem Own.ats {W:World} {B:Nat} {e:TypeId} {size n c g:Nat} {xs:List Value} (h:Own W B e size (some ⟨g,0,none⟩) n c xs):B≤g∧g<W.heap.size:=by
  rcases h.row with ⟨h0,_⟩ | ⟨g',cur,h0,hr,_⟩
  · cases h0
  · have e1 : g = g' := by injection h0 with h0; injection h0
    subst e1
    exact ⟨hr.1,hr.lt⟩
theorem Own.shape {W:World} {B:Nat} {e:TypeId} {size n c:Nat} {A:Option Addr} {xs:List Value} (h:Own W B e size A n c xs):(A=none∧n=0) ∨ ∃ g,A=some ⟨g,0,none⟩∧B≤g∧g<W.heap.size:=by
  rcases h.row with ⟨h0,h1,_⟩ | ⟨g',cur,h0,hr,_⟩
  · exact .inl ⟨h0,h1⟩
  · exact .inr ⟨g',h0,hr.1,hr.lt⟩
end Go

namespace Go
open RowKit
structure Box (W:World) (b:Nat) (cs:Array Value):Prop where
  lt:b<W.heap.size
  eq:∀ (j:Nat) (v:Value),cs[j]?=some v→W.cell? ⟨b,j,none⟩=some v
  fr:∀ (j:Nat),W.frozen? ⟨b,j,none⟩=false
theorem Box.bel {W W':World} {b:Nat} {cs:Array Value} (h:Box W b cs) (hb:Bel W W'):Box W' b cs:=by
  obtain ⟨x,rfl⟩:=ext_of hb
  exact ⟨by rw [q94];have:=h.lt;omega,fun j v hv=>by rw [qc2 _ _ _ _ h.lt];exact h.eq j v hv,fun j=>by rw [qc3 _ _ _ _ h.lt];exact h.fr j⟩
theorem Box.new {W W':World} {cs:Array Value} {e:TypeId} (hb:Bel (W.alloc (.cells cs e)) W') {b:Nat} (hbk:b=W.heap.size):Box W' b cs:=by
  subst hbk
  have h:Box (W.alloc (.cells cs e)) W.heap.size cs:=⟨by simp,fun j v hv=>by simp [go_sem,hv],fun j=>by simp [go_sem]⟩
  exact h.bel hb
end Go

namespace Go
end Go

namespace Go
open RowKit
def qij (V:World) (e:TypeId) (g:Nat):Prop:=∃ W:World,Bel (W.alloc (.cells #[] e)) V∧g=W.heap.size
theorem qij.here {W:World} {e:TypeId} {g:Nat} (h:g=W.heap.size):qij (W.alloc (.cells #[] e)) e g:=⟨W,Bel.refl _,h⟩
theorem qij.alloc {W:World} {e:TypeId} {g:Nat} {o:Obj} (h:qij W e g):qij (W.alloc o) e g:=by obtain ⟨W0,h1,h2⟩:=h;exact ⟨W0,h1.alloc _,h2⟩
theorem qij.ext {W:World} {e:TypeId} {g:Nat} {x:Beyond} (h:qij W e g):qij (ext W x) e g:=by obtain ⟨W0,h1,h2⟩:=h;exact ⟨W0,h1.ext _,h2⟩
theorem qij.drew {W:World} {e:TypeId} {g:Nat} (h:qij W e g):qij W.drew e g:=by obtain ⟨W0,h1,h2⟩:=h;exact ⟨W0,h1.drew,h2⟩
def qik (A B:Option Addr):Prop:=∀ k,A=some ⟨k,0,none⟩→B=some ⟨k,0,none⟩→False
theorem qik.symm {A B:Option Addr} (h:qik A B):qik B A:=fun k h1 h2=>h k h2 h1
structure Swp (V V' W W':World):Prop where
  base:V.heap.size=V'.heap.size
  size:W.heap.size=W'.heap.size
  hi:∀ k,V.heap.size≤k→W'.heap[k]?=W.heap[k]?
theorem Swp.refl {V V':World} (h:V.heap.size=V'.heap.size):Swp V V' V V':=⟨h,h,fun k hk=>by rw [Array.getElem?_eq_none hk,Array.getElem?_eq_none (by omega)]⟩
theorem Swp.ext {V V' W W':World} (h:Swp V V' W W') (x:Beyond):Swp V V' (ext W x) (ext W' x):=by
  refine ⟨h.base,by simp [h.size],fun k hk=>?_⟩
  have e1:(Go.ext W x).heap=W.heap++x.objs:=by unfold Go.ext;rfl
  have e2:(Go.ext W' x).heap=W'.heap++x.objs:=by unfold Go.ext;rfl
  rw [e1,e2]
  rcases Nat.lt_or_ge k W.heap.size with hl | hl
  · rw [Array.getElem?_append_left hl,Array.getElem?_append_left (by have:=h.size;omega)];exact h.hi k hk
  · rw [Array.getElem?_append_right hl,Array.getElem?_append_right (by have:=h.size;omega),h.size]
theorem Swp.alloc {V V' W W':World} (h:Swp V V' W W') (o:Obj):Swp V V' (W.alloc o) (W'.alloc o):=by
  refine ⟨h.base,by simp [h.size],fun k hk=>?_⟩
  have e1:(W.alloc o).heap=W.heap.push o:=by unfold World.alloc;rfl
  have e2:(W'.alloc o).heap=W'.heap.push o:=by unfold World.alloc;rfl
  rw [e1,e2,Array.getElem?_push,Array.getElem?_push,h.hi k hk,h.size]
theorem Swp.drew {V V' W W':World} (h:Swp V V' W W'):Swp V V' W.drew W'.drew:=⟨h.base,h.size,h.hi⟩
theorem Box.here {W:World} {cs:Array Value} {e:TypeId} {b:Nat} (hb:b=W.heap.size):Box (W.alloc (.cells cs e)) b cs:=Box.new (Bel.refl _) hb
theorem Box.alloc {W:World} {cs:Array Value} {b:Nat} {o:Obj} (h:Box W b cs):Box (W.alloc o) b cs:=h.bel ((Bel.refl _).alloc _)
theorem Box.ext {W:World} {cs:Array Value} {b:Nat} {x:Beyond} (h:Box W b cs):Box (ext W x) b cs:=h.bel (q98 _ _)
theorem Box.drew {W:World} {cs:Array Value} {b:Nat} (h:Box W b cs):Box W.drew b cs:=h.bel (Bel.refl _).drew
theorem Own.here {W:World} {base:Nat} {cs:Array Value} {e:TypeId} {size n b:Nat} (hbk:b=W.heap.size) (hb:base≤b) (hn:n≤1000000) (hs:cs.size=n*size):Own (W.alloc (.cells cs e)) base e size (some ⟨b,0,none⟩) n n cs.toList:=by
  subst hbk
  exact World.ownsRow_lit W cs n hb (Nat.le_trans hn (by unfold maxLen;decide)) hs
theorem Own.ext' {W:World} {base:Nat} {xs:List Value} {e:TypeId} {size n c:Nat} {A:Option Addr} {x:Beyond} (h:Own W base e size A n c xs):Own (Go.ext W x) base e size A n c xs:=h.ext x
def PBut (g:Nat) (a b:Array Obj):Prop:=∀ k,k≠g→k<a.size→b[k]?=a[k]?
def qix (g:Nat) (a b:Array Obj):Prop:=a.size=b.size∧∀ k,k≠g→b[k]?=a[k]?
theorem qix.refl (g:Nat) (a:Array Obj):qix g a a:=⟨rfl,fun _ _=>rfl⟩
theorem qix.both {g:Nat} {a b:Array Obj} (h:qix g a b) (c:Array Obj):qix g (a++c) (b++c):=by
  refine ⟨by simp [h.1],fun k hk=>?_⟩
  rcases Nat.lt_or_ge k a.size with hl | hl
  · rw [Array.getElem?_append_left hl,Array.getElem?_append_left (by have:=h.1;omega)];exact h.2 k hk
  · rw [Array.getElem?_append_right hl,Array.getElem?_append_right (by have:=h.1;omega),h.1]
theorem qix.swap {g:Nat} {a b:Array Obj} {o o':Obj} (h:qix g a b) (hg:g=a.size):qix g (a ++ #[o]) (b ++ #[o']):=by
  refine ⟨by simp [h.1],fun k hk=>?_⟩
  rcases Nat.lt_or_ge k a.size with hl | hl
  · rw [Array.getElem?_append_left hl,Array.getElem?_append_left (by have:=h.1;omega)];exact h.2 k hk
  · have hs := h.1
    have h1:a.size+1≤k:=by omega
    rw [Array.getElem?_eq_none (by first | simpa using h1 | (rw [hs] at h1;simpa using h1)),Array.getElem?_eq_none (by first | simpa using h1 | (rw [hs] at h1;simpa using h1))]
theorem PBut.same {g:Nat} {a b:Array Obj} (h:qix g a b):PBut g a b:=fun k hk _=>h.2 k hk
theorem PBut.le {g:Nat} {a b:Array Obj} (h:PBut g a b) {k:Nat} (hk:k≠g) (hl:k<a.size):k<b.size:=by
  have h1:=h k hk hl
  rcases Nat.lt_or_ge k b.size with h2 | h2
  · exact h2
  · rw [Array.getElem?_eq_none h2,Array.getElem?_eq_getElem hl] at h1;cases h1
theorem PBut.right {g:Nat} {a b:Array Obj} (h:PBut g a b) (c:Array Obj):PBut g a (b++c):=fun k hk hl=>by
  rw [Array.getElem?_append_left (h.le hk hl)];exact h k hk hl
theorem qj0 {W:World} {b g o:Nat} {u:Value} (hne:b≠g):(W.setCell ⟨b,o,none⟩ u).heap[g]?=W.heap[g]?:=by
  unfold World.setCell
  simp only [Array.getElem?_modify,if_neg hne]
theorem Box.other {W:World} {b g:Nat} {cs:Array Value} (h:Box W g cs) (o:Nat) (u:Value) (hne:b≠g):Box (W.setCell ⟨b,o,none⟩ u) g cs:=by
  refine ⟨by have:=h.lt;simpa using this,fun j v hv=>?_,fun j=>?_⟩
  · rw [← h.eq j v hv];exact World.cell?_of_block (qj0 hne)
  · rw [← h.fr j];exact World.frozen?_of_block (qj0 hne)
section
variable {P:Program} {ops:Array Oper} {o:Oper} {a:Act} {K:Act→World→Prop} {Q:Exit→Act→World→Prop} {E:Prop}
end
end Go

namespace Go.Tx
open Go Go.Pel
def unI (l:List Int):List TI1:=l.map toI
def idsI (l:List TI1):List Int:=l.map fun x=>x.1
def ptsL (l:List TP):List Pt:=l.map ofP
theorem qj8 (l:List Int):idsI (unI l)=l:=by
  unfold idsI unI;rw [List.map_map];exact List.map_id _
theorem qja (l:List Int):(unI l).length=l.length:=List.length_map _
theorem qjc (l:List TP):(ptsL l).length=l.length:=List.length_map _
theorem qjd (l:List Int):qhl RI (unI l)=vi l:=by rw [qhn];exact congrArg vi (qj8 l)
theorem qje {φ:Nat→Option Obj} {w:World} (hφ:∀ k ob,φ k=some ob→w.heap[k]?=some ob) {l:List TI1} {v:Value} (hv:VR (Emb.fro φ) (.fz RI l) v):∃ A c,v=.slice A (idsI l).length c∧Sl w 1 A (idsI l).length c (vi (idsI l))∧(A=none→c=0):=qhw hφ hv
theorem qjf {φ:Nat→Option Obj} {w:World} (hφ:∀ k ob,φ k=some ob→w.heap[k]?=some ob) {l:List TP} {v:Value} (hv:VR (Emb.fro φ) (.agg [.fz RP l]) v):∃ A c,v=.agg #[.slice A (ptsL l).length c]∧Sl w 3 A (ptsL l).length c (vp (ptsL l))∧(A=none→c=0):=qhv hφ hv
def i64B (n:Int):Bool:=decide (-9223372036854775808≤n)&&decide (n≤9223372036854775807)
theorem qjh {n:Int} (h:i64B n=true):-9223372036854775808≤n∧n≤9223372036854775807:=by
  unfold i64B at h;simpa using h
theorem qjk {α:Type} {c:Bool} {a r:α} (h:(bif c then some a else none)=some r):c=true∧a=r:=by
  cases c with
  | true=>injection h with h;exact ⟨rfl,h⟩
  | false=>cases h
theorem qjl {w:World} {b:Nat}:∀ (τ:Row),qck τ=true→∀ (x:den τ) (o:Nat),(∀ (j:Nat) u,(qhk τ x)[j]?=some u→w.cell? ⟨b,o+j,none⟩=some u)→RowF (fun k=>w.heap[k]?) τ x b o
  | .nil,_,_,_,_=>trivial
  | .int k r,h,x,o,hc=>⟨by
      have:=hc 0 _ (by rw [qhk];rfl)
      rw [Nat.add_zero,qf] at this
      cases hb:w.heap[b]? with
      | none=>rw [hb] at this;cases this
      | some ob=>rw [hb] at this;exact ⟨ob,hb,this⟩,qjl r h x.2 (o+1) fun j u hu=>by rw [show o+1+j=o+(j+1) by omega];exact hc (j+1) u (by rw [qhk];simpa using hu)⟩
  | .bool r,h,x,o,hc=>⟨by
      have:=hc 0 _ (by rw [qhk];rfl)
      rw [Nat.add_zero,qf] at this
      cases hb:w.heap[b]? with
      | none=>rw [hb] at this;cases this
      | some ob=>rw [hb] at this;exact ⟨ob,hb,this⟩,qjl r h x.2 (o+1) fun j u hu=>by rw [show o+1+j=o+(j+1) by omega];exact hc (j+1) u (by rw [qhk];simpa using hu)⟩
  | .sl _ r,h,_,_,_=>by cases h
theorem qjm {τ:Row} (h:qck τ=true):∀ (xs:List (den τ)) (i:Nat) x,xs[i]?=some x→∀ (j:Nat) u,(qhk τ x)[j]?=some u→(qhl τ xs)[i*τ.size+j]?=some u
  | [],i,x,hx,j,u,hu=>by simp at hx
  | y :: ys, 0, x, hx, j, u, hu => by
    simp only [List.getElem?_cons_zero,Option.some.injEq] at hx;subst hx
    rw [qhl,Nat.zero_mul,Nat.zero_add]
    have hj:=(List.getElem?_eq_some_iff.1 hu).1
    rw [List.getElem?_append_left hj];exact hu
  | y :: ys, i + 1, x, hx, j, u, hu => by
    rw [qhl]
    have hl:=qho τ h y
    rw [List.getElem?_append_right (by rw [hl,Nat.succ_mul];omega),hl,show (i+1)*τ.size+j - τ.size=i*τ.size+j by rw [Nat.succ_mul];omega]
    exact qjm h ys i x (by simpa using hx) j u hu
theorem qjn {w:World} {τ:Row} (h:qck τ=true) {xs:List (den τ)} {A:Option Addr} {n c:Nat} {vals:List Value} (hn:xs.length=n) (hv:qhl τ xs=vals) (hs:Sl w τ.size A n c vals) (h0:A=none→c=0):VR (Emb.fro fun k=>w.heap[k]?) (.fz τ xs) (.slice A n c):=by
  subst hn;subst hv
  refine .fz ⟨A,c,rfl,hs.1,h0,fun i x hx=>?_⟩
  have hi:=(List.getElem?_eq_some_iff.1 hx).1
  obtain ⟨b,o,hA,_,hc⟩:=hs.2.2 (by omega)
  refine ⟨b,o,hA,qjl τ h x _ fun j u hu=>?_⟩
  rw [Nat.add_assoc]
  exact hc _ u (qjm h xs i x hx j u hu)
def toPs (l:List Pt):List TP:=l.map toP
theorem qjo (l:List Pt):(toPs l).length=l.length:=List.length_map _
theorem qjp (l:List Pt):ptsL (toPs l)=l:=by unfold ptsL toPs;rw [List.map_map];exact List.map_id _
theorem qjq (l:List Pt):qhl RP (toPs l)=vp l:=(qhm (toPs l)).trans (congrArg vp (qjp l))
theorem qjs {w:World} {A:Option Addr} {c:Nat} {l:List Pt} (hs:Sl w 3 A l.length c (vp l)) (h0:A=none→c=0):VR (Emb.fro fun k=>w.heap[k]?) (.agg [.fz RP (toPs l)]) (.agg #[.slice A l.length c]):=VR.aggL (VRs.cons (qjn (τ:=RP) rfl (qjo l) (qjq l) hs h0) VRs.nil)
theorem qju {w:World} (n d:Int):VR (Emb.fro fun k=>w.heap[k]?) (.agg [.int .i64 n,.int .i64 d]) (.agg #[.int .i64 n,.int .i64 d]):=VR.aggL (VRs.cons (.int _ _) (VRs.cons (.int _ _) VRs.nil))
end Go.Tx

namespace Go.Proofs.YtbjpmdhdoggobaaGreat
open Go Go.Tx Go.Proofs.Tryz
abbrev Ri:Go.Tx.Row:=(.int .i64 .nil)
abbrev Di:Type:=(Int×Unit)
abbrev zi:Di:=(0,())
abbrev Rb:Go.Tx.Row:=(.bool .nil)
abbrev Db:Type:=(Bool×Unit)
abbrev Ru:Go.Tx.Row:=(.int .u64 .nil)
abbrev Du:Type:=(Int×Unit)
abbrev Riii:Go.Tx.Row:=(.int .i64 (.int .i64 (.int .i64 .nil)))
abbrev Diii:Type:=(Int×(Int×(Int×Unit)))
abbrev ziii:Diii:=(0,0,0,())
abbrev qjw:Go.Tx.Row:=(.sl Riii .nil)
abbrev qjx:Type:=(List Diii×Unit)
abbrev Rii:Go.Tx.Row:=(.int .i64 (.int .i64 .nil))
abbrev Dii:Type:=(Int×(Int×Unit))
abbrev zii:Dii:=(0,0,())
abbrev qjz:Go.Tx.Row:=(.sl Rii .nil)
abbrev qk0:Type:=(List Dii×Unit)
abbrev RLiE:Go.Tx.Row:=(.sl Ri .nil)
abbrev DLiE:Type:=(List Di×Unit)
abbrev zLiE:DLiE:=([],())
abbrev qk2:Go.Tx.Row:=(.sl RLiE .nil)
abbrev qk3:Type:=(List DLiE×Unit)
abbrev Rbuu:Go.Tx.Row:=(.bool (.int .u64 (.int .u64 .nil)))
abbrev Dbuu:Type:=(Bool×(Int×(Int×Unit)))
abbrev qk5:Go.Tx.Row:=(.int .i64 (.int .i64 (.int .i64 (.int .i64 .nil))))
abbrev qk6:Type:=(Int×(Int×(Int×(Int×Unit))))
theorem mixed:prog.follows .mixedOrders=true:=by kernel_rfl
def tysT:Tys:=[(2,⟨.int .i64,1,false,[.int .i64 0],false,false⟩),
  (3,⟨.int .i64,1,false,[.int .i64 0],false,false⟩),
  (4,⟨.bool,1,false,[.bool false],false,false⟩),
  (5,⟨.int .u8,1,false,[.int .u8 0],false,false⟩),
  (6,⟨.int .u8,1,false,[.int .u8 0],false,false⟩),
  (9,⟨.str,1,false,[.undef],false,false⟩),
  (10,⟨.str,1,false,[.undef],false,false⟩),
  (11,⟨.str,1,false,[.undef],false,false⟩),
  (12,⟨.int .u64,1,false,[.int .u64 0],false,false⟩),
  (21,⟨.int .i32,1,false,[.int .i32 0],false,false⟩),
  (22,⟨.slice 72 Riii,1,false,[.nils],false,false⟩),
  (24,⟨.struct [(0,22)],1,true,[.nils],false,false⟩),
  (26,⟨.struct [(0,2),(1,2)],2,true,[.int .i64 0,.int .i64 0],true,false⟩),
  (29,⟨.slice 26 Rii,1,false,[.nils],false,false⟩),
  (30,⟨.int .i64,1,false,[.int .i64 0],false,false⟩),
  (35,⟨.slice 44 RLiE,1,false,[.nils],false,false⟩),
  (44,⟨.slice 3 Ri,1,false,[.nils],false,false⟩),
  (59,⟨.other,1,false,[.undef],false,false⟩),
  (72,⟨.struct [(0,3),(1,2),(2,2)],3,true,[.int .i64 0,.int .i64 0,.int .i64 0],false,false⟩),
  (84,⟨.int .u64,1,false,[.int .u64 0],false,false⟩),
  (88,⟨.struct [(0,4),(1,84),(2,84)],3,true,[.bool false,.int .u64 0,.int .u64 0],false,false⟩),
  (94,⟨.other,1,false,[.undef],false,false⟩),
  (108,⟨.int .u64,1,false,[.int .u64 0],false,false⟩),
  (113,⟨.struct [(0,4),(1,84),(2,84)],3,true,[.bool false,.int .u64 0,.int .u64 0],false,false⟩),
  (121,⟨.other,1,false,[.undef],false,false⟩),
  (128,⟨.struct [(0,2),(1,84)],2,true,[.int .i64 0,.int .u64 0],false,false⟩),
  (130,⟨.array 2 2,2,true,[.int .i64 0,.int .i64 0],false,false⟩),
  (131,⟨.array 2 130,4,true,[.int .i64 0,.int .i64 0,.int .i64 0,.int .i64 0],false,false⟩),
  (137,⟨.int .i64,1,false,[.int .i64 0],false,false⟩),
  (145,⟨.int .u32,1,false,[.int .u32 0],false,false⟩),
  (164,⟨.int .u64,1,false,[.int .u64 0],false,false⟩),
  (179,⟨.other,1,false,[.undef],false,false⟩),
  (180,⟨.other,1,false,[.nilp],false,false⟩),
  (193,⟨.int .u8,1,false,[.int .u8 0],false,false⟩),
  (194,⟨.int .u8,1,false,[.int .u8 0],false,false⟩),
  (197,⟨.int .i32,1,false,[.int .i32 0],false,false⟩),
  (198,⟨.int .i32,1,false,[.int .i32 0],false,false⟩)]
set_option maxRecDepth 20000 in
set_option maxHeartbeats 4000000 in
theorem qk8 (n:Nat) (k0 k1:IntKind) (a0 a1 b0 b1:Int) (w:World):(Op.equalIn (n+2) 26 (.agg #[.int k0 a0,.int k1 a1]) (.agg #[.int k0 b0,.int k1 b1])).run prog w=.ok ((a0 == b0)&&(a1 == b1)) w:=by
  have hst:prog.stoodInHeld 26=false:=by kernel_rfl
  have hu:prog.underlying 26=some (.struct (prog.fieldsOf 26)):=by kernel_rfl
  have hf:=Tryz.underlying26
  rw [hu] at hf
  injection hf with hf
  injection hf with hf
  have e2:=fun (k:IntKind) (x y:Int)=>run_equalIn_int (P:=prog) w (n+0) 2 k .i64 x y Tryz.underlying2
  rw [run_equalIn_struct w (n+1) 26 _ _ hu hst,hf]
  simp [Op.eqFields,part,Sem.run_bind,Result.andThen_ok,e2,Tryz.isAgg2]
  cases h0:(a0 == b0)<;>cases h1:(a1 == b1)<;>simp_all
theorem qk9:EqT prog 26 2:=by
  refine ⟨fun vs us b w h1 h2 h=>?_,by kernel_rfl⟩
  obtain ⟨a0,a1,rfl⟩:∃ a0 a1,vs=[a0,a1]:=by
    match vs,h1 with
    | [a0,a1],_=>exact ⟨a0,a1,rfl⟩
  obtain ⟨b0,b1,rfl⟩:∃ b0 b1,us=[b0,b1]:=by
    match us,h2 with
    | [b0,b1],_=>exact ⟨b0,b1,rfl⟩
  obtain ⟨k0,x0,y0,c0,rfl,rfl,g0,rfl⟩:=q1p h
  obtain ⟨k1,x1,y1,c1,rfl,rfl,g1,rfl⟩:=q1p g0
  obtain rfl:=q1o g1
  refine (qk8 9998 k0 k1 x0 x1 y0 y1 w).trans ?_
  simp [Bool.and_assoc]
theorem tys:TysOK prog tysT:=q1u (by kernel_rfl) (by
  intro p hp he
  simp only [tysT,List.mem_cons,List.not_mem_nil,or_false] at hp
  rcases hp with rfl | rfl | rfl | rfl | rfl | rfl | rfl | rfl | rfl | rfl | rfl | rfl | rfl | rfl | rfl | rfl | rfl | rfl | rfl | rfl | rfl | rfl | rfl | rfl | rfl | rfl | rfl | rfl | rfl | rfl | rfl | rfl | rfl | rfl | rfl | rfl | rfl
  all_goals first | exact qk9 | (cases he;done))
end Go.Proofs.YtbjpmdhdoggobaaGreat

namespace Go.Proofs.YtbjpmdhdoggobaaGreat
open Go.RowKit Go.Pel
theorem qka {k:IntKind} {a b:Int} (h:a=b):Ending.returned (.int k a)=.returned (.int k b):=by rw [h]
theorem qkb {a b:Bool} (h:a=b):Ending.returned (.bool a)=.returned (.bool b):=by rw [h]

set_option maxHeartbeats 400000 in
theorem qkc (n:Int) (w:World) (h:-9223372036854775808≤n∧n≤9223372036854775807) :
    Calls Tryz.prog 64 #[.int .i64 n] w fun e w'=>e=.returned (.int .u64 n.natAbs)∧∃ x,w'=ext w x:=by
  obtain ⟨h1,h2⟩:=h
  go_enter Tryz.func64,Tryz.ntmps64
  go_wp2
  all_goals (go_ret;exact ⟨qka (by first | (simp only [IntKind.wrap_u64];omega) | omega),ext_of (Bel.refl _)⟩)

set_option maxHeartbeats 400000 in
theorem qkd (n:Int) (w:World) (h:-9223372036854775808≤n∧n≤9223372036854775807) :
    Calls Tryz.prog 46 #[.int .i64 n] w fun e w'=>e=.returned (.int .u64 n.natAbs)∧∃ x,w'=ext w x:=by
  obtain ⟨h1,h2⟩:=h
  go_enter Tryz.func46,Tryz.ntmps46
  go_wp2
  all_goals (go_ret;exact ⟨qka (by first | (simp only [IntKind.wrap_u64];omega) | omega),ext_of (Bel.refl _)⟩)

set_option maxHeartbeats 400000 in
theorem qke (a b:Nat) (w:World) (ha:a<18446744073709551616) (hb:b<18446744073709551616) :
    Calls Tryz.prog 63 #[.int .u64 a,.int .u64 b] w fun e w'=>e=.returned (.int .u64 (Nat.gcd a b))∧∃ x,w'=ext w x:=by
  go_enter Tryz.func63,Tryz.ntmps63
  go_wp2
  go_loopw [0,1] (fun x y wr=>∃ x0 y0:Nat,x=.int .u64 x0∧y=.int .u64 y0∧x0<18446744073709551616∧y0<18446744073709551616∧Nat.gcd x0 y0=Nat.gcd a b∧∃ x,wr=ext w x) (fun _ y _=>(intOf y).toNat)
  case atStart=>exact ⟨a,b,rfl,rfl,ha,hb,rfl,ext_of (Bel.refl _)⟩
  case round =>
    obtain ⟨x0,y0,rfl,rfl,hx,hy,hg,x,rfl⟩:=hrel
    have HG:=Lib.hid hg;clear hg
    by_cases hlt:0<y0
    · go_wp2
      ((first | refine RegC.wp_region_ext1 (by kernel_rfl) (by kernel_rfl) ?_ | refine RegC.wp_region_ext0 (by kernel_rfl) (by kernel_rfl) ?_);(repeat (any_goals (first | go_big_quiet_step (fail) | (refine RegC.wpQuiet_split rfl rfl (fun hb=>?_) (fun hb=>?_)<;>simp only [hb]))));all_goals (refine wpQuiet_nil ?_;rintro _ ⟨nq,rfl⟩))
      go_wp2
      go_roundw
      case rel=>exact ⟨y0,x0 % y0,rfl,by simp,hy,Nat.lt_of_lt_of_le (Nat.mod_lt _ hlt) (by omega),by rw [← HG.out,Nat.gcd_comm x0 y0,Nat.gcd_rec y0 x0,Nat.gcd_comm],_,rfl⟩
      case measure=>simp [intOf];exact Nat.mod_lt _ hlt
    · go_wp2
      go_ret
      obtain rfl:y0=0:=by omega
      exact ⟨qka (by rw [← HG.out];simp),_,rfl⟩

set_option maxHeartbeats 400000 in
theorem qkf (a b:Nat) (w:World) (ha:a<18446744073709551616) (hb:b<18446744073709551616) :
    Calls Tryz.prog 45 #[.int .u64 a,.int .u64 b] w fun e w'=>e=.returned (.int .u64 (Nat.gcd a b))∧∃ x,w'=ext w x:=by
  go_enter Tryz.func45,Tryz.ntmps45
  go_wp2
  go_loopw [0,1] (fun x y wr=>∃ x0 y0:Nat,x=.int .u64 x0∧y=.int .u64 y0∧x0<18446744073709551616∧y0<18446744073709551616∧Nat.gcd x0 y0=Nat.gcd a b∧∃ x,wr=ext w x) (fun _ y _=>(intOf y).toNat)
  case atStart=>exact ⟨a,b,rfl,rfl,ha,hb,rfl,ext_of (Bel.refl _)⟩
  case round =>
    obtain ⟨x0,y0,rfl,rfl,hx,hy,hg,x,rfl⟩:=hrel
    have HG:=Lib.hid hg;clear hg
    by_cases hlt:0<y0
    · have hn : ((y0 : Int) != 0) = true := by rw [bne_iff_ne]; omega
      go_wp2
      ((first | refine RegC.wp_region_ext1 (by kernel_rfl) (by kernel_rfl) ?_ | refine RegC.wp_region_ext0 (by kernel_rfl) (by kernel_rfl) ?_);(repeat (any_goals (first | go_big_quiet_step (fail) | (refine RegC.wpQuiet_split rfl rfl (fun hb=>?_) (fun hb=>?_)<;>simp only [hb]))));all_goals (refine wpQuiet_nil ?_;rintro _ ⟨nq,rfl⟩))
      go_wp2
      go_roundw
      case rel=>exact ⟨y0,x0 % y0,rfl,by simp,hy,Nat.lt_of_lt_of_le (Nat.mod_lt _ hlt) (by omega),by rw [← HG.out,Nat.gcd_comm x0 y0,Nat.gcd_rec y0 x0,Nat.gcd_comm],_,rfl⟩
      case measure=>simp [intOf];exact Nat.mod_lt _ hlt
    · obtain rfl : y0 = 0 := by omega
      go_wp2
      go_ret
      exact ⟨qka (by rw [← HG.out];simp),_,rfl⟩

set_option maxHeartbeats 400000 in
theorem qkg (n d:Int) (w:World) (h:-9223372036854775808≤n∧n≤9223372036854775807) (h':-9223372036854775808≤d∧d≤9223372036854775807) :
    Calls Tryz.prog 38 #[.agg #[.int .i64 n,.int .i64 d]] w fun e w'=>e=.returned (.int .i64 (qdm n d))∧∃ x,w'=ext w x:=by
  obtain ⟨h1,h2⟩:=h
  obtain ⟨h3,h4⟩:=h'
  by_cases c1:d<1
  · have e1 := Lib.hid (qdn (n := n) c1)
    go_enter Tryz.func38,Tryz.ntmps38
    go_wp2
    ((first | refine RegC.wp_region_ext1 (by kernel_rfl) (by kernel_rfl) ?_ | refine RegC.wp_region_ext0 (by kernel_rfl) (by kernel_rfl) ?_);(repeat (any_goals (first | go_big_quiet_step (fail) | (refine RegC.wpQuiet_split rfl rfl (fun hb=>?_) (fun hb=>?_)<;>simp only [hb]))));all_goals (refine wpQuiet_nil ?_;rintro _ ⟨nq,rfl⟩))
    go_wp2
    go_ret
    exact ⟨qka e1.out.symm,ext_of (((Bel.refl _).alloc _).ext _)⟩
  · have c1' : decide (d < 1) = false := by simpa using c1
    by_cases c2:n=-9223372036854775808
    · subst c2
      go_enter Tryz.func38,Tryz.ntmps38
      go_wp2
      ((first | refine RegC.wp_region_ext1 (by kernel_rfl) (by kernel_rfl) ?_ | refine RegC.wp_region_ext0 (by kernel_rfl) (by kernel_rfl) ?_);(repeat (any_goals (first | go_big_quiet_step (fail) | (refine RegC.wpQuiet_split rfl rfl (fun hb=>?_) (fun hb=>?_)<;>simp only [hb]))));all_goals (refine wpQuiet_nil ?_;rintro _ ⟨nq,rfl⟩))
      go_wp2
      go_ret
      exact ⟨qka qdo.symm,ext_of (((Bel.refl _).alloc _).ext _)⟩
    · have c2' : (n == -9223372036854775808) = false := by simpa using c2
      have E1:=Lib.hid (qdp (n:=n) (d:=d) (by omega) c2)
      have E2:=Lib.hid (qdq (n:=n) (d:=d))
      have E3:=Lib.hid (qdr (n:=n) (d:=d) (by omega))
      obtain ⟨dn,rfl⟩:∃ dn:Nat,d=dn:=⟨d.toNat,by omega⟩
      go_enter Tryz.func38,Tryz.ntmps38
      go_wp2
      ((first | refine RegC.wp_region_ext1 (by kernel_rfl) (by kernel_rfl) ?_ | refine RegC.wp_region_ext0 (by kernel_rfl) (by kernel_rfl) ?_);(repeat (any_goals (first | go_big_quiet_step (first | (go_at_call 64;first | exact Calls.ext_of1 (qkc _ _ (by omega)) | exact Calls.ext_of (qkc _ _ (by omega))) | (go_at_call 63;first | exact Calls.ext_of1 (qke _ _ _ (by omega) (by omega)) | exact Calls.ext_of (qke _ _ _ (by omega) (by omega)))) | (refine RegC.wpQuiet_split rfl rfl (fun hb=>?_) (fun hb=>?_)<;>simp only [hb]))));all_goals (refine wpQuiet_nil ?_;rintro _ ⟨nq,rfl⟩))
      go_wp2
      · have hg : 1 < Nat.gcd dn n.natAbs := by omega
        go_ret
        exact ⟨qka (E2.out (by simp only [Int.toNat_natCast];omega)).symm,ext_of (((Bel.refl _).alloc _).ext _)⟩
      · have hg : ¬ 1 < Nat.gcd dn n.natAbs := by omega
        go_ret
        exact ⟨qka (E1.out (E3.out (by simpa using hg))).symm,ext_of (((Bel.refl _).alloc _).ext _)⟩


end Go.Proofs.YtbjpmdhdoggobaaGreat

namespace Go.Proofs.YtbjpmdhdoggobaaGreat
open Go.RowKit Go.Pel
set_option maxHeartbeats 400000 in
theorem qkh (n d:Int) (w:World) (hn:-9223372036854775808≤n∧n≤9223372036854775807) (hd:-9223372036854775808≤d∧d≤9223372036854775807) :
    Calls Tryz.prog 27 #[.agg #[.int .i64 n,.int .i64 d]] w fun e w'=>e=.returned (.int .i64 (qdm n d))∧∃ x,w'=ext w x:=by
  obtain ⟨hn1,hn2⟩:=hn;obtain ⟨hd1,hd2⟩:=hd
  by_cases c1:d<1
  · have e1 := Lib.hid (qdn (n := n) c1)
    go_enter Tryz.func27,Tryz.ntmps27
    go_wp2
    ((first | refine RegC.wp_region_ext1 (by kernel_rfl) (by kernel_rfl) ?_ | refine RegC.wp_region_ext0 (by kernel_rfl) (by kernel_rfl) ?_);(repeat (any_goals (first | go_big_quiet_step (fail) | (refine RegC.wpQuiet_split rfl rfl (fun hb=>?_) (fun hb=>?_)<;>simp only [hb]))));all_goals (refine wpQuiet_nil ?_;rintro _ ⟨nq,rfl⟩))
    go_wp2
    (go_ret;exact ⟨qka (by exact e1.out.symm),ext_of (by (try simp only [qc8]);repeat (first | exact Bel.refl _ | assumption | refine qch ?_ _ | refine qci ?_ _ | refine Bel.ext ?_ _ | refine Bel.alloc ?_ _ | refine Bel.drewN ?_ _))⟩)
  · have c1' : decide (d < 1) = false := by simpa using c1
    by_cases c2:n=-9223372036854775808
    · subst c2
      go_enter Tryz.func27,Tryz.ntmps27
      go_wp2
      ((first | refine RegC.wp_region_ext1 (by kernel_rfl) (by kernel_rfl) ?_ | refine RegC.wp_region_ext0 (by kernel_rfl) (by kernel_rfl) ?_);(repeat (any_goals (first | go_big_quiet_step (fail) | (refine RegC.wpQuiet_split rfl rfl (fun hb=>?_) (fun hb=>?_)<;>simp only [hb]))));all_goals (refine wpQuiet_nil ?_;rintro _ ⟨nq,rfl⟩))
      go_wp2
      (go_ret;exact ⟨qka (by exact qdo.symm),ext_of (by (try simp only [qc8]);repeat (first | exact Bel.refl _ | assumption | refine qch ?_ _ | refine qci ?_ _ | refine Bel.ext ?_ _ | refine Bel.alloc ?_ _ | refine Bel.drewN ?_ _))⟩)
    · have c2' : (n == -9223372036854775808) = false := by simpa using c2
      have E1:=Lib.hid (qdp (n:=n) (d:=d) (by omega) c2)
      have E2:=Lib.hid (qdq (n:=n) (d:=d))
      obtain ⟨dn,rfl⟩:∃ dn:Nat,d=dn:=⟨d.toNat,by omega⟩
      go_enter Tryz.func27,Tryz.ntmps27
      go_wp2
      ((first | refine RegC.wp_region_ext1 (by kernel_rfl) (by kernel_rfl) ?_ | refine RegC.wp_region_ext0 (by kernel_rfl) (by kernel_rfl) ?_);(repeat (any_goals (first | go_big_quiet_step (first | (go_at_call 46;first | exact Calls.ext_of1 (qkd _ _ (by omega)) | exact Calls.ext_of (qkd _ _ (by omega))) | (go_at_call 45;first | exact Calls.ext_of1 (qkf _ _ _ (by omega) (by omega)) | exact Calls.ext_of (qkf _ _ _ (by omega) (by omega)))) | (refine RegC.wpQuiet_split rfl rfl (fun hb=>?_) (fun hb=>?_)<;>simp only [hb]))));all_goals (refine wpQuiet_nil ?_;rintro _ ⟨nq,rfl⟩))
      go_wp2
      all_goals (go_ret;exact ⟨qka (by first | exact (E2.out (by rw [Int.toNat_natCast,Nat.gcd_comm];(first | omega | (simp only [bne_iff_ne,ne_eq,bne_eq_false_iff_eq,beq_iff_eq,beq_eq_false_iff_ne,decide_eq_true_eq,decide_eq_false_iff_not,Bool.or_eq_true,Bool.and_eq_true,Bool.not_eq_true,Bool.not_eq_true',Bool.not_eq_false'] at *;omega)))).symm | exact (E1.out (by rw [Int.toNat_natCast,Nat.gcd_comm];(first | omega | (simp only [bne_iff_ne,ne_eq,bne_eq_false_iff_eq,beq_iff_eq,beq_eq_false_iff_ne,decide_eq_true_eq,decide_eq_false_iff_not,Bool.or_eq_true,Bool.and_eq_true,Bool.not_eq_true,Bool.not_eq_true',Bool.not_eq_false'] at *;omega)))).symm),ext_of (by (try simp only [qc8]);repeat (first | exact Bel.refl _ | assumption | refine qch ?_ _ | refine qci ?_ _ | refine Bel.ext ?_ _ | refine Bel.alloc ?_ _ | refine Bel.drewN ?_ _))⟩)

set_option maxHeartbeats 400000 in
theorem qkj (n:Int) (w:World):Calls Tryz.prog 112 #[.int .i64 n] w fun e w'=>e=.returned (.bool (far n))∧∃ x,w'=ext w x:=by
  go_enter Tryz.func112,Tryz.ntmps112
  go_wp2
  all_goals (go_ret;exact ⟨qkb (by first | exact (qe7 _).symm | (rw [qe7];simp [*];done) | (rw [qe7];simp;omega)),ext_of (by (try simp only [qc8]);repeat (first | exact Bel.refl _ | assumption | refine qch ?_ _ | refine qci ?_ _ | refine Bel.ext ?_ _ | refine Bel.alloc ?_ _ | refine Bel.drewN ?_ _))⟩)

set_option maxHeartbeats 400000 in
theorem qkk (i a b:Int) (w:World) :
    Calls Tryz.prog 85 #[.agg #[.int .i64 i,.int .i64 a,.int .i64 b]] w fun e w'=>e=.returned (.int .i64 (qe0 i a b))∧∃ x,w'=ext w x:=by
  have E1:=Lib.hid (qe1 (i:=i) (a:=a) (b:=b))
  have E2:=Lib.hid (qe2 (i:=i) (a:=a) (b:=b))
  go_enter Tryz.func85,Tryz.ntmps85
  go_wp2_with (first | (go_at_call 112;refine (qkj _ _).mono ?_;rintro e _ ⟨rfl,nx,rfl⟩))
  all_goals (go_ret;exact ⟨qka (by (try simp only [qea,qeb] at *);first | exact (E2.out (by omega)).symm | exact (E1.out (by omega)).symm),ext_of (by (try simp only [qc8]);repeat (first | exact Bel.refl _ | assumption | refine qch ?_ _ | refine qci ?_ _ | refine Bel.ext ?_ _ | refine Bel.alloc ?_ _ | refine Bel.drewN ?_ _))⟩)

set_option maxHeartbeats 400000 in
theorem qkl (i a b:Int) (w:World) :
    Calls Tryz.prog 78 #[.agg #[.int .i64 i,.int .i64 a,.int .i64 b]] w fun e w'=>e=.returned (.int .i64 (qe0 i a b))∧∃ x,w'=ext w x:=by
  have E1:=Lib.hid (qe1 (i:=i) (a:=a) (b:=b))
  have E2:=Lib.hid (qe2 (i:=i) (a:=a) (b:=b))
  go_enter Tryz.func78,Tryz.ntmps78
  go_wp2
  all_goals (go_ret;exact ⟨qka (by first | exact (E1.out (by omega)).symm | exact (E2.out (by omega)).symm),ext_of (by (try simp only [qc8]);repeat (first | exact Bel.refl _ | assumption | refine qch ?_ _ | refine qci ?_ _ | refine Bel.ext ?_ _ | refine Bel.alloc ?_ _ | refine Bel.drewN ?_ _))⟩)
end Go.Proofs.YtbjpmdhdoggobaaGreat

namespace Go.Proofs.YtbjpmdhdoggobaaGreat
open Go.RowKit Go.Pel

end Go.Proofs.YtbjpmdhdoggobaaGreat

namespace Go.Proofs.YtbjpmdhdoggobaaGreat
open Go.RowKit Go.Pel
end Go.Proofs.YtbjpmdhdoggobaaGreat

namespace Go.Pel
open Go Go.RowKit
def un (a:Int):Nat:=(a % 18446744073709551616).toNat
theorem qkp (a:Int):un a<18446744073709551616:=by unfold un;omega
theorem qkq (a:Int):((un a:Nat):Int)=a % 18446744073709551616:=by unfold un;omega
theorem qkr {a:Int} (h:0≤a) (h2:a<9223372036854775808):((un a:Nat):Int)=a:=by rw [qkq];omega
theorem qks {a:Int} (h:a<0) (h2:-9223372036854775808≤a):((un a:Nat):Int)=a+18446744073709551616:=by rw [qkq];omega
theorem qkt (a b:Int) (ha:-9223372036854775808≤a∧a<9223372036854775808) (hb:-9223372036854775808≤b∧b<9223372036854775808) :
    ((un a*un b:Nat):Int)=a*b+18446744073709551616*((if a<0 then b else 0)+(if b<0 then a else 0))+(if a<0∧b<0 then 340282366920938463463374607431768211456 else 0):=by
  have e:((un a*un b:Nat):Int)=(un a:Int)*(un b:Int):=by simp
  rw [e]
  by_cases h1:a<0<;>by_cases h2:b<0
  · rw [qks h1 ha.1, qks h2 hb.1]
    simp only [h1,h2,if_true,and_self,Int.add_mul,Int.mul_add]
    have:b*18446744073709551616=18446744073709551616*b:=Int.mul_comm _ _
    omega
  · rw [qks h1 ha.1, qkr (by omega) hb.2]
    simp only [h1,h2,if_true,if_false,and_false,Int.add_mul,Int.mul_add]
    omega
  · rw [qkr (by omega) ha.2, qks h2 hb.1]
    simp only [h1,h2,if_true,if_false,false_and,Int.add_mul,Int.mul_add]
    omega
  · rw [qkr (by omega) ha.2, qkr (by omega) hb.2]
    simp only [h1,h2,if_false,false_and]
    omega
def hiOf (a b:Int):Int:=wrap64 (wrap64 (wrap64 ((un a*un b / 18446744073709551616:Nat):Int) - (if a<0 then b else 0)) - (if b<0 then a else 0))
theorem qku (a b:Int) (ha:-9223372036854775808≤a∧a<9223372036854775808) (hb:-9223372036854775808≤b∧b<9223372036854775808) (hP:-77371252455336267181195264≤a*b∧a*b≤77371252455336267181195264):hiOf a b=a*b / 18446744073709551616:=by
  have h:=qkt a b ha hb
  unfold hiOf
  generalize un a*un b=U at h
  generalize a*b=P at h hP ⊢
  unfold wrap64
  by_cases h1:a<0<;>by_cases h2:b<0<;>simp only [h1,h2,if_true,if_false,and_true,and_false,and_self,Int.sub_zero,Int.add_zero,Int.zero_add,Int.mul_zero] at h ⊢ <;> omega
theorem qkv (a b:Int) (ha:-9223372036854775808≤a∧a<9223372036854775808) (hb:-9223372036854775808≤b∧b<9223372036854775808):((un a*un b % 18446744073709551616:Nat):Int)=a*b % 18446744073709551616:=by
  have h:=qkt a b ha hb
  generalize un a*un b=U at h ⊢
  generalize a*b=P at h ⊢
  by_cases h1:a<0<;>by_cases h2:b<0<;>simp only [h1,h2,if_true,if_false,and_true,and_false,and_self,Int.add_zero,Int.zero_add,Int.mul_zero] at h<;>omega
def farD (p q:Pt) (n d:Int):Int:=(p.a - q.a)*d+(p.b - q.b)*n
def leads (p q:Pt) (n d:Int):Bool:=if farD p q n d≠0 then decide (0<farD p q n d) else if p.b≠q.b then decide (q.b<p.b) else decide (p.id<q.id)
def cmpZ (a b:Int):Int:=if a<b then -1 else if b<a then 1 else 0
theorem qkw {a b:Int} (h:a<b):cmpZ a b=-1:=if_pos h
theorem qkx {a b:Int} (h:b<a):cmpZ a b=1:=by unfold cmpZ;rw [if_neg (by omega),if_pos h]
theorem qky {a b:Int} (h:a=b):cmpZ a b=0:=by unfold cmpZ;rw [if_neg (by omega),if_neg (by omega)]
def orZ (x y:Int):Int:=if x≠0 then x else y
theorem qkz {x y:Int} (h:x=0):orZ x y=y:=if_neg (by simpa using h)
theorem ql0 {x y:Int} (h:x≠0):orZ x y=x:=if_pos h
def cmpC (p q:Pt) (n d:Int):Int:=if farD p q n d<0 then -1 else if 0<farD p q n d then 1 else if cmpZ p.b q.b≠0 then cmpZ p.b q.b else cmpZ q.id p.id
theorem ql1 {p q:Pt} {n d:Int} (h:farD p q n d<0):cmpC p q n d=-1:=if_pos h
theorem ql2 {p q:Pt} {n d:Int} (h:0<farD p q n d):cmpC p q n d=1:=by unfold cmpC;rw [if_neg (by omega),if_pos h]
theorem ql3 {p q:Pt} {n d:Int} (h:farD p q n d=0) (hb:p.b≠q.b):cmpC p q n d=cmpZ p.b q.b:=by
  unfold cmpC;rw [if_neg (by omega),if_neg (by omega),if_pos]
  rcases Int.lt_or_gt_of_ne hb with h1 | h1
  · rw [qkw h1];decide
  · rw [qkx h1];decide
theorem ql4 {p q:Pt} {n d:Int} (h:farD p q n d=0) (hb:p.b=q.b):cmpC p q n d=cmpZ q.id p.id:=by
  unfold cmpC;rw [if_neg (by omega),if_neg (by omega),if_neg (by rw [qky hb];decide)]
theorem ql5 (p q:Pt) (n d:Int):decide (0<cmpC p q n d)=leads p q n d:=by
  unfold leads
  rcases (by omega:farD p q n d<0∨farD p q n d=0∨0<farD p q n d) with h | h | h
  · rw [ql1 h,if_pos (by omega)];simp;omega
  · rw [if_neg (by omega)]
    by_cases hb:p.b=q.b
    · rw [ql4 h hb, if_neg (by omega)]
      rcases (by omega:p.id<q.id∨q.id<p.id∨p.id=q.id) with h2 | h2 | h2
      · rw [qkx h2];simp;omega
      · rw [qkw h2];simp;omega
      · rw [qky h2.symm];simp;omega
    · rw [ql3 h hb, if_pos hb]
      rcases (by omega:p.b<q.b∨q.b<p.b) with h1 | h1
      · rw [qkw h1];simp;omega
      · rw [qkx h1];simp;omega
  · rw [ql2 h,if_pos (by omega)];simp;omega
def ql6 (p q:Pt) (n d:Int):Int:=if p.chk=0∧q.chk=0∧qdm n d=0 then (if p.id=q.id then 2 else 0) else 8
theorem ql7 {p q:Pt} {n d:Int} (h:¬ (p.chk=0∧q.chk=0∧qdm n d=0)):ql6 p q n d=8:=if_neg h
theorem ql8 {p q:Pt} {n d:Int} (h:p.chk=0∧q.chk=0∧qdm n d=0) (hi:p.id=q.id):ql6 p q n d=2:=by unfold ql6;rw [if_pos h,if_pos hi]
theorem ql9 {p q:Pt} {n d:Int} (h:p.chk=0∧q.chk=0∧qdm n d=0) (hi:p.id≠q.id):ql6 p q n d=0:=by unfold ql6;rw [if_pos h,if_neg hi]
theorem qla {p q:Pt} {n d:Int} (h:ql6 p q n d=0):p.chk=0∧q.chk=0∧qdm n d=0∧p.id≠q.id:=by
  unfold ql6 at h
  split at h
  · rename_i h1
    split at h
    · omega
    · exact ⟨h1.1,h1.2.1,h1.2.2,‹_›⟩
  · omega
def qlb (p q:Pt) (n d:Int):Bool×Int:=if ql6 p q n d=0 then (leads p q n d,0) else (false,ql6 p q n d)
end Go.Pel

namespace Go.Proofs
open Go.Shelf
def Tryz.lays264_ren:Go.Shelf.Ren:=⟨fun | 264=>104 | n=>n,fun | 53=>84 | 46=>108 | n=>n,fun | n=>n⟩
theorem Tryz.lays264:Go.Proofs.Lays.n264 Tryz.prog Tryz.lays264_ren:={
  mixed:=by kernel_rfl
  f264:=Tryz.func104.trans (congrArg some (by kernel_rfl))
  t46:=Tryz.underlying108
  a46:=Tryz.isAgg108
  z46:=Tryz.sizeOf108
  v46:=Tryz.zeroValue108
  t53:=Tryz.underlying84
  a53:=Tryz.isAgg84
  z53:=Tryz.sizeOf84
  v53:=Tryz.zeroValue84 }
open Go.RowKit Go.Lib in
theorem Tryz.bits_Mul64 (x y:Nat) (hx:x<18446744073709551616) (hy:y<18446744073709551616) (w:World) :
    Calls Tryz.prog 104 #[.int .u64 x,.int .u64 y] w fun e w'=>e=.returned (.tuple #[.int .u64 ((x*y / 18446744073709551616:Nat):Int),.int .u64 ((x*y % 18446744073709551616:Nat):Int)])∧w'=w:=Any.bits_Mul64 Tryz.lays264 x y hx hy w
end Go.Proofs

namespace Go.Proofs.YtbjpmdhdoggobaaGreat
open Go.RowKit Go.Pel
theorem qlc (x y c:Nat) (hx:x<18446744073709551616) (hy:y<18446744073709551616) (hc:c≤1) (w:World) :
    (callFunc 113 #[.int .u64 x,.int .u64 y,.int .u64 c]).run Tryz.prog w =
      .ok (.value (.tuple #[.int .u64 (((x+y+c) % 18446744073709551616:Nat):Int),.int .u64 (((x+y+c) / 18446744073709551616:Nat):Int)])) w:=by
  rw [run_callFunc_extern Tryz.func113 (by kernel_rfl) (by kernel_rfl) (by kernel_rfl) (e:=add64Entry) (by kernel_rfl),run_add64 x y c (by omega) (by omega) (by omega) (by omega)]
  simp only [Result.andThen]
  congr 5<;>omega
theorem qld {a b Z:Int} {H:Nat} (hH:un a*un b / 18446744073709551616=H) (hZ:hiOf a b=Z):(decide (a<0)=true∧decide (b<0)=true∧wrap64 (wrap64 (wrap64 (H:Int) - b) - a)=Z)∨(decide (a<0)=true∧decide (b<0)=false∧wrap64 (wrap64 (H:Int) - b)=Z)∨(decide (a<0)=false∧decide (b<0)=true∧wrap64 (wrap64 (H:Int) - a)=Z)∨(decide (a<0)=false∧decide (b<0)=false∧wrap64 (H:Int)=Z):=by
  have w2:∀ x,wrap64 (wrap64 x)=wrap64 x:=fun x=>by unfold wrap64;omega
  unfold hiOf at hZ
  rw [hH] at hZ
  by_cases h1:a<0<;>by_cases h2:b<0<;>simp only [h1,h2,if_true,if_false,Int.sub_zero,w2] at hZ<;>simp [h1,h2,hZ]
theorem qle (a b:Int) (H L:Nat) (hH:un a*un b / 18446744073709551616=H) (hL:un a*un b % 18446744073709551616=L) (w:World) :
    Calls Tryz.prog 104 #[.int .u64 (IntKind.u64.wrap a),.int .u64 (IntKind.u64.wrap b)] w fun e w'=>e=.returned (.tuple #[.int .u64 (H:Int),.int .u64 (L:Int)])∧∃ x,w'=ext w x:=by
  have h:=Tryz.bits_Mul64 (un a) (un b) (qkp a) (qkp b) w
  rw [hH,hL] at h
  have e1:((un a:Nat):Int)=IntKind.u64.wrap a:=by rw [qkq,IntKind.wrap_u64]
  have e2:((un b:Nat):Int)=IntKind.u64.wrap b:=by rw [qkq,IntKind.wrap_u64]
  rw [e1,e2] at h
  exact h.mono fun _ _ ⟨he,hw⟩=>⟨he,ext_of (hw ▸ Bel.refl _)⟩
theorem qlf (L:Nat) (hL:L<18446744073709551616) (w:World):(callFunc 113 #[.int .u64 0,.int .u64 (L:Int),.int .u64 0]).run Tryz.prog w=.ok (.value (.tuple #[.int .u64 (L:Int),.int .u64 0])) w:=by
  have h:=qlc 0 L 0 (by omega) hL (by omega) w
  have e1:(0+L+0) % 18446744073709551616=L:=by omega
  have e2:(0+L+0) / 18446744073709551616=0:=by omega
  rw [e1,e2] at h
  exact h
set_option maxRecDepth 10000 in
set_option maxHeartbeats 8000000 in
theorem qlg (a b c d:Int) (w:World) (ha:-9223372036854775808≤a∧a<9223372036854775808) (hb:-9223372036854775808≤b∧b<9223372036854775808) (hc:-9223372036854775808≤c∧c<9223372036854775808) (hd:-9223372036854775808≤d∧d<9223372036854775808)
    (hab:-38685626227668133590597632≤a*b∧a*b≤38685626227668133590597632) (hcd:-38685626227668133590597632≤c*d∧c*d≤38685626227668133590597632) :
    Calls Tryz.prog 86 #[.agg #[.int .i64 a,.int .i64 b,.int .i64 c,.int .i64 d]] w fun e w'=>e=.returned (.agg #[.int .i64 ((a*b+c*d) / 18446744073709551616),.int .u64 ((a*b+c*d) % 18446744073709551616)])∧∃ x,w'=ext w x:=by
  have i0:∀ w,(Instr.index 131 (.agg #[.int .i64 a,.int .i64 b,.int .i64 c,.int .i64 d]) (.int .i64 0)).run Tryz.prog w=.ok (.agg #[.int .i64 a,.int .i64 b]) w:=fun _=>by kernel_rfl
  have i1:∀ w,(Instr.index 131 (.agg #[.int .i64 a,.int .i64 b,.int .i64 c,.int .i64 d]) (.int .i64 1)).run Tryz.prog w=.ok (.agg #[.int .i64 c,.int .i64 d]) w:=fun _=>by kernel_rfl
  obtain ⟨H1,hH1⟩:∃ H,un a*un b / 18446744073709551616=H:=⟨_,rfl⟩
  obtain ⟨L1,hL1⟩:∃ L,un a*un b % 18446744073709551616=L:=⟨_,rfl⟩
  obtain ⟨H2,hH2⟩:∃ H,un c*un d / 18446744073709551616=H:=⟨_,rfl⟩
  obtain ⟨L2,hL2⟩:∃ L,un c*un d % 18446744073709551616=L:=⟨_,rfl⟩
  have q1:=Lib.hid (qle a b H1 L1 hH1 hL1)
  have q2:=Lib.hid (qle c d H2 L2 hH2 hL2)
  have a1:=qlf L1 (by omega)
  have L1b:L1<18446744073709551616:=by omega
  have L2b:L2<18446744073709551616:=by omega
  obtain ⟨S,hS⟩:∃ S,(L1+L2+0) % 18446744073709551616=S:=⟨_,rfl⟩
  obtain ⟨C,hC⟩:∃ C,(L1+L2+0) / 18446744073709551616=C:=⟨_,rfl⟩
  have a2:∀ w,(callFunc 113 #[.int .u64 (L1:Int),.int .u64 (L2:Int),.int .u64 0]).run Tryz.prog w=.ok (.value (.tuple #[.int .u64 (S:Int),.int .u64 (C:Int)])) w:=fun w=>by
    have h:=qlc L1 L2 0 L1b L2b (by omega) w
    rw [hS,hC] at h;exact h
  obtain ⟨Z1,hZ1⟩:∃ Z,hiOf a b=Z:=⟨_,rfl⟩
  obtain ⟨Z2,hZ2⟩:∃ Z,hiOf c d=Z:=⟨_,rfl⟩
  have z1:Z1=a*b / 18446744073709551616:=by rw [← hZ1];exact qku a b ha hb (by omega)
  have z2:Z2=c*d / 18446744073709551616:=by rw [← hZ2];exact qku c d hc hd (by omega)
  have l1:=qkv a b ha hb
  have l2:=qkv c d hc hd
  rw [hL1] at l1
  rw [hL2] at l2
  have k1:=qld hH1 hZ1
  have k2:=qld hH2 hZ2
  have w1:wrap64 Z1=Z1:=by unfold wrap64;omega
  have hfin:Hid (wrap64 (wrap64 (Z1+Z2)+wrap64 (C:Int))=(a*b+c*d) / 18446744073709551616∧(S:Int)=(a*b+c*d) % 18446744073709551616):=Lib.hid (by
    have hs:(S:Int)=((L1:Int)+L2) % 18446744073709551616:=by omega
    have hcc:(C:Int)=((L1:Int)+L2) / 18446744073709551616:=by omega
    generalize a*b=P1 at *
    generalize c*d=P2 at *
    unfold wrap64
    constructor<;>omega)
  have HF:=hfin
  clear hH1 hL1 hH2 hL2 hS hC hZ1 hZ2 z1 z2 l1 l2 hab hcd hfin L1b L2b
  obtain ⟨ha1,ha2⟩:=ha;obtain ⟨hb1,hb2⟩:=hb;obtain ⟨hc1,hc2⟩:=hc;obtain ⟨hd1,hd2⟩:=hd
  rcases k1 with ⟨sa,sb,e1⟩ | ⟨sa,sb,e1⟩ | ⟨sa,sb,e1⟩ | ⟨sa,sb,e1⟩
  all_goals
    rcases k2 with ⟨sc,sd,e2⟩ | ⟨sc,sd,e2⟩ | ⟨sc,sd,e2⟩ | ⟨sc,sd,e2⟩
  all_goals
    go_enter Tryz.func86,Tryz.ntmps86
    go_wp2
    refine wp_loop_rounds 3 ?_
    rw [rounds_succ]
    go_wp2_with ((go_at_call 104;refine (q1.out _).mono ?_;rintro e _ ⟨rfl,y1,rfl⟩))
    rw [rounds_succ]
    go_wp2_with ((go_at_call 104;refine (q2.out _).mono ?_;rintro e _ ⟨rfl,y2,rfl⟩))
    rw [rounds_succ]
    go_wp2
    exact bodyPost_ret (v:=.agg #[.int .i64 (wrap64 (wrap64 (Z1+Z2)+wrap64 (C:Int))),.int .u64 (S:Int)]) (by simp [results,Tryz.results86,go_sem]) rfl ⟨by rw [HF.out.1,HF.out.2],ext_of (by (try simp only [qc8]);repeat (first | exact Bel.refl _ | assumption | refine qch ?_ _ | refine qci ?_ _ | refine Bel.ext ?_ _ | refine Bel.alloc ?_ _ | refine Bel.drewN ?_ _))⟩
end Go.Proofs.YtbjpmdhdoggobaaGreat

namespace Go.Proofs.YtbjpmdhdoggobaaGreat
open Go.RowKit Go.Pel
def cmpI (a b:Int):Int:=if a<b then -1 else if b<a then 1 else 0
theorem qlh {a b:Int} (h:a<b):cmpI a b=-1:=if_pos h
theorem qli {a b:Int} (h:b<a):cmpI a b=1:=by unfold cmpI;rw [if_neg (by omega),if_pos h]
theorem qlj {a b:Int} (h:a=b):cmpI a b=0:=by unfold cmpI;rw [if_neg (by omega),if_neg (by omega)]
set_option maxHeartbeats 400000 in
theorem qlk (a b:Int) (w:World):Calls Tryz.prog 134 #[.int .i64 a,.int .i64 b] w fun e w'=>e=.returned (.int .i64 (cmpI a b))∧∃ x,w'=ext w x:=by
  rcases (by omega:a<b∨b<a∨a=b) with h | h | h
  · have H := Lib.hid (qlh h)
    have h2:¬ b<a:=by omega
    go_enter Tryz.func134,Tryz.ntmps134
    go_wp2
    (go_ret;exact ⟨qka (by exact H.out.symm),ext_of (by (try simp only [qc8]);repeat (first | exact Bel.refl _ | assumption | refine qch ?_ _ | refine qci ?_ _ | refine Bel.ext ?_ _ | refine Bel.alloc ?_ _ | refine Bel.drewN ?_ _))⟩)
  · have H := Lib.hid (qli h)
    have h2:¬ a<b:=by omega
    go_enter Tryz.func134,Tryz.ntmps134
    go_wp2
    (go_ret;exact ⟨qka (by exact H.out.symm),ext_of (by (try simp only [qc8]);repeat (first | exact Bel.refl _ | assumption | refine qch ?_ _ | refine qci ?_ _ | refine Bel.ext ?_ _ | refine Bel.alloc ?_ _ | refine Bel.drewN ?_ _))⟩)
  · have H := Lib.hid (qlj h)
    have h2:¬ a<b:=by omega
    have h3:¬ b<a:=by omega
    clear h
    go_enter Tryz.func134,Tryz.ntmps134
    go_wp2
    (go_ret;exact ⟨qka (by exact H.out.symm),ext_of (by (try simp only [qc8]);repeat (first | exact Bel.refl _ | assumption | refine qch ?_ _ | refine qci ?_ _ | refine Bel.ext ?_ _ | refine Bel.alloc ?_ _ | refine Bel.drewN ?_ _))⟩)
end Go.Proofs.YtbjpmdhdoggobaaGreat

namespace Go.Proofs.YtbjpmdhdoggobaaGreat
open Go.RowKit Go.Pel
set_option maxHeartbeats 400000 in
theorem qll (a b:Int) (w:World):Calls Tryz.prog 134 #[.int .i64 a,.int .i64 b] w fun e w'=>e=.returned (.int .i64 (cmpZ a b))∧∃ x,w'=ext w x:=qlk a b w
set_option maxHeartbeats 400000 in
theorem qlm (a b:Int) (w:World):Calls Tryz.prog 68 #[.int .i64 a,.int .i64 b] w fun e w'=>e=.returned (.int .i64 (cmpZ a b))∧∃ x,w'=ext w x:=by
  rcases (by omega:a<b∨b<a∨a=b) with h | h | h
  · have H := Lib.hid (qkw h)
    have h2:¬ b<a:=by omega
    go_enter Tryz.func68,Tryz.ntmps68
    go_wp2
    (go_ret;exact ⟨qka (by exact H.out.symm),ext_of (by (try simp only [qc8]);repeat (first | exact Bel.refl _ | assumption | refine qch ?_ _ | refine qci ?_ _ | refine Bel.ext ?_ _ | refine Bel.alloc ?_ _ | refine Bel.drewN ?_ _))⟩)
  · have H := Lib.hid (qkx h)
    have h2:¬ a<b:=by omega
    go_enter Tryz.func68,Tryz.ntmps68
    go_wp2
    (go_ret;exact ⟨qka (by exact H.out.symm),ext_of (by (try simp only [qc8]);repeat (first | exact Bel.refl _ | assumption | refine qch ?_ _ | refine qci ?_ _ | refine Bel.ext ?_ _ | refine Bel.alloc ?_ _ | refine Bel.drewN ?_ _))⟩)
  · have H := Lib.hid (qky h)
    have h2:¬ a<b:=by omega
    have h3:¬ b<a:=by omega
    clear h
    go_enter Tryz.func68,Tryz.ntmps68
    go_wp2
    (go_ret;exact ⟨qka (by exact H.out.symm),ext_of (by (try simp only [qc8]);repeat (first | exact Bel.refl _ | assumption | refine qch ?_ _ | refine qci ?_ _ | refine Bel.ext ?_ _ | refine Bel.alloc ?_ _ | refine Bel.drewN ?_ _))⟩)
set_option maxHeartbeats 1000000 in
theorem qln (x y:Int) (g:Nat) (w:World) (hg:g<w.heap.size) (h0:w.cell? ⟨g,0,none⟩=some (.int .i64 x)) (h1:w.cell? ⟨g,1,none⟩=some (.int .i64 y)) :
    Calls Tryz.prog 133 #[.slice (some ⟨g,0,none⟩) 2 2] w fun e w'=>e=.returned (.int .i64 (orZ x y))∧∃ x,w'=ext w x:=by
  by_cases hx:x=0
  · have HR : Hid (orZ x y = y) := Lib.hid (qkz hx)
    have hx1:(x == 0)=true:=by simpa using hx
    have hx2:(x != 0)=false:=by simpa using hx
    clear hx
    by_cases hy:y=0
    · have HY := Lib.hid hy
      have hy1:(y == 0)=true:=by simpa using hy
      have hy2:(y != 0)=false:=by simpa using hy
      clear hy
      go_enter Tryz.func133,Tryz.ntmps133
      go_wp2
      refine wp_loop_rounds 3 ?_
      rw [rounds_succ]
      go_wp2
      rw [rounds_succ]
      go_wp2
      rw [rounds_succ]
      go_wp2
      (go_ret;exact ⟨qka (by rw [HR.out,HY.out]),ext_of (by (try simp only [qc8]);repeat (first | exact Bel.refl _ | assumption | refine qch ?_ _ | refine qci ?_ _ | refine Bel.ext ?_ _ | refine Bel.alloc ?_ _ | refine Bel.drewN ?_ _))⟩)
    · have hy1 : (y == 0) = false := by simpa using hy
      have hy2:(y != 0)=true:=by simpa using hy
      clear hy
      go_enter Tryz.func133,Tryz.ntmps133
      go_wp2
      refine wp_loop_rounds 3 ?_
      rw [rounds_succ]
      go_wp2
      rw [rounds_succ]
      go_wp2
      (go_ret;exact ⟨qka (by exact HR.out.symm),ext_of (by (try simp only [qc8]);repeat (first | exact Bel.refl _ | assumption | refine qch ?_ _ | refine qci ?_ _ | refine Bel.ext ?_ _ | refine Bel.alloc ?_ _ | refine Bel.drewN ?_ _))⟩)
  · have HR : Hid (orZ x y = x) := Lib.hid (ql0 hx)
    have hx1:(x == 0)=false:=by simpa using hx
    have hx2:(x != 0)=true:=by simpa using hx
    clear hx
    go_enter Tryz.func133,Tryz.ntmps133
    go_wp2
    refine wp_loop_rounds 3 ?_
    rw [rounds_succ]
    go_wp2
    (go_ret;exact ⟨qka (by exact HR.out.symm),ext_of (by (try simp only [qc8]);repeat (first | exact Bel.refl _ | assumption | refine qch ?_ _ | refine qci ?_ _ | refine Bel.ext ?_ _ | refine Bel.alloc ?_ _ | refine Bel.drewN ?_ _))⟩)
structure CmpIn (p q:Pt) (n d:Int):Prop where
  pa:-1048576≤p.a∧p.a≤1048576
  pb:-1048576≤p.b∧p.b≤1048576
  qa:-1048576≤q.a∧q.a≤1048576
  qb:-1048576≤q.b∧q.b≤1048576
  n:-9223372036854775807≤n∧n≤9223372036854775807
  d:1≤d∧d≤9223372036854775807
theorem qlo (a b A B:Int) (ha:-A≤a∧a≤A) (hb:-B≤b∧b≤B):-(A*B)≤a*b∧a*b≤A*B:=by
  have hA:0≤A:=by omega
  have hB:0≤B:=by omega
  have h1:0≤(A - a)*(B+b):=Int.mul_nonneg (by omega) (by omega)
  have h2:0≤(A+a)*(B - b):=Int.mul_nonneg (by omega) (by omega)
  have h3:0≤(A - a)*(B - b):=Int.mul_nonneg (by omega) (by omega)
  have h4:0≤(A+a)*(B+b):=Int.mul_nonneg (by omega) (by omega)
  simp only [Int.sub_mul,Int.add_mul,Int.mul_sub,Int.mul_add] at h1 h2 h3 h4
  omega
theorem qlp {p q:Pt} {n d:Int} (h:CmpIn p q n d):(-38685626227668133590597632≤(p.a - q.a)*d∧(p.a - q.a)*d≤38685626227668133590597632)∧(-38685626227668133590597632≤(p.b - q.b)*n∧(p.b - q.b)*n≤38685626227668133590597632):=by
  obtain ⟨h1,h2,h3,h4,h5,h6⟩:=h
  have k1:=qlo (p.a - q.a) d 2097152 9223372036854775807 (by omega) (by omega)
  have k2:=qlo (p.b - q.b) n 2097152 9223372036854775807 (by omega) (by omega)
  omega
theorem qlq (h l h' l':Int) (w:World):(Op.equalIn 10000 128 (.agg #[.int .i64 h,.int .u64 l]) (.agg #[.int .i64 h',.int .u64 l'])).run Tryz.prog w=.ok (decide (h=h'∧l=l')) w:=by
  simp [go_sem]
  by_cases h1:h=h'<;>by_cases h2:l=l'<;>simp [h1,h2]
attribute [local go_sem ↓] qlq
set_option maxRecDepth 10000 in
set_option maxHeartbeats 2000000 in
theorem qlr (p q:Pt) (n d:Int) (w:World) (h:CmpIn p q n d) :
    Calls Tryz.prog 107 #[.agg #[.int .i64 p.id,.int .i64 p.a,.int .i64 p.b],.agg #[.int .i64 q.id,.int .i64 q.a,.int .i64 q.b],.agg #[.int .i64 n,.int .i64 d]] w fun e w'=>e=.returned (.int .i64 (cmpC p q n d))∧∃ x,w'=ext w x:=by
  obtain ⟨k1,k2⟩:=qlp h
  obtain ⟨h1,h2,h3,h4,h5,h6⟩:=h
  have hs:=qlg (p.a - q.a) d (p.b - q.b) n
  have hs':=fun w=>hs w (by omega) (by omega) (by omega) (by omega) k1 k2
  obtain ⟨D,hD⟩:∃ D,farD p q n d=D:=⟨_,rfl⟩
  have hD':(p.a - q.a)*d+(p.b - q.b)*n=D:=hD
  rw [hD'] at hs'
  obtain ⟨hi,hhi⟩:∃ x,D / 18446744073709551616=x:=⟨_,rfl⟩
  obtain ⟨lo,hlo⟩:∃ x,D % 18446744073709551616=x:=⟨_,rfl⟩
  rw [hhi,hlo] at hs'
  have q1:=Lib.hid hs'
  have HD:=Lib.hid hD
  obtain ⟨a1,a2⟩:=h1;obtain ⟨a3,a4⟩:=h2;obtain ⟨a5,a6⟩:=h3;obtain ⟨a7,a8⟩:=h4
  rcases (by omega:D<0∨0<D∨D=0) with hd0 | hd0 | hd0
  · have hne : decide (hi = 0 ∧ lo = 0) = false := by rw [decide_eq_false_iff_not]; omega
    have hlt:hi<0:=by omega
    have HR:=Lib.hid (ql1 (p:=p) (q:=q) (n:=n) (d:=d) (by omega))
    clear hs hs' hD hD' hhi hlo k1 k2 h5 h6 hd0
    go_enter Tryz.func107,Tryz.ntmps107
    go_wp2_with ((go_at_call 86;refine (q1.out _).mono ?_;rintro e _ ⟨rfl,nx,rfl⟩))
    (go_ret;exact ⟨qka (by exact HR.out.symm),ext_of (by (try simp only [qc8]);repeat (first | exact Bel.refl _ | assumption | refine qch ?_ _ | refine qci ?_ _ | refine Bel.ext ?_ _ | refine Bel.alloc ?_ _ | refine Bel.drewN ?_ _))⟩)
  · have hne : decide (hi = 0 ∧ lo = 0) = false := by rw [decide_eq_false_iff_not]; omega
    have hlt:¬ hi<0:=by omega
    have HR:=Lib.hid (ql2 (p:=p) (q:=q) (n:=n) (d:=d) (by omega))
    clear hs hs' hD hD' hhi hlo k1 k2 h5 h6 hd0
    go_enter Tryz.func107,Tryz.ntmps107
    go_wp2_with ((go_at_call 86;refine (q1.out _).mono ?_;rintro e _ ⟨rfl,nx,rfl⟩))
    (go_ret;exact ⟨qka (by exact HR.out.symm),ext_of (by (try simp only [qc8]);repeat (first | exact Bel.refl _ | assumption | refine qch ?_ _ | refine qci ?_ _ | refine Bel.ext ?_ _ | refine Bel.alloc ?_ _ | refine Bel.drewN ?_ _))⟩)
  · have hne : decide (hi = 0 ∧ lo = 0) = true := by rw [decide_eq_true_eq]; omega
    have HR:Hid (orZ (cmpZ p.b q.b) (cmpZ q.id p.id)=cmpC p q n d):=Lib.hid (by unfold cmpC;rw [if_neg (by omega),if_neg (by omega)];rfl)
    clear hs hs' hD hD' hhi hlo k1 k2 h5 h6 hd0
    go_enter Tryz.func107,Tryz.ntmps107
    go_wp2_with ((go_at_call 86;refine (q1.out _).mono ?_;rintro e _ ⟨rfl,y1,rfl⟩))
    go_region_held3 (fun w'=>w'.cell? ⟨w.heap.size,0,none⟩=some (.int .i64 p.id)∧w'.cell? ⟨w.heap.size,1,none⟩=some (.int .i64 p.a)∧w'.cell? ⟨w.heap.size,2,none⟩=some (.int .i64 p.b)∧w'.cell? ⟨w.heap.size+1,0,none⟩=some (.int .i64 q.id)∧w'.cell? ⟨w.heap.size+1,1,none⟩=some (.int .i64 q.a)∧w'.cell? ⟨w.heap.size+1,2,none⟩=some (.int .i64 q.b)) (simp [go_sem]) ((first | (go_at_call 134;refine (qll _ _ _).mono ?_;rintro e _ ⟨rfl,nx,rfl⟩) | (go_at_call 68;refine (qlm _ _ _).mono ?_;rintro e _ ⟨rfl,nx,rfl⟩) | (go_at_call 133;refine (qln (cmpZ p.b q.b) (cmpZ q.id p.id) _ _ (by simp [go_sem]) (by simp [go_sem]) (by simp [go_sem])).mono ?_;rintro e _ ⟨rfl,nx,rfl⟩)))
    all_goals
      go_wp2
      (go_ret;exact ⟨qka (by exact HR.out),ext_of (by (try simp only [qc8]);repeat (first | exact Bel.refl _ | assumption | refine qch ?_ _ | refine qci ?_ _ | refine Bel.ext ?_ _ | refine Bel.alloc ?_ _ | refine Bel.drewN ?_ _))⟩)
end Go.Proofs.YtbjpmdhdoggobaaGreat

namespace Go.Proofs.YtbjpmdhdoggobaaGreat
open Go.RowKit Go.Pel
theorem qls (p:Pt) (v:Int) (h:p.chk=v) (W:World):Calls Tryz.prog 85 #[.agg #[.int .i64 p.id,.int .i64 p.a,.int .i64 p.b]] W fun e w'=>e=.returned (.int .i64 v)∧∃ y,w'=ext W y:=by
  subst h;exact qkk p.id p.a p.b W
theorem qlt (p:Pt) (v:Int) (h:p.chk=v) (W:World):Calls Tryz.prog 78 #[.agg #[.int .i64 p.id,.int .i64 p.a,.int .i64 p.b]] W fun e w'=>e=.returned (.int .i64 v)∧∃ y,w'=ext W y:=by
  subst h;exact qkl p.id p.a p.b W
set_option maxRecDepth 10000 in
set_option maxHeartbeats 2000000 in
theorem qlu (A:Option Addr) (c:Nat) (l:List Pt) (w:World) (hs:Sl w 3 A l.length c (vp l)) :
    Calls Tryz.prog 73 #[.agg #[.slice A l.length c]] w fun e w'=>e=.returned (.int .i64 (qgo l))∧∃ x,w'=ext w x:=by
  by_cases hm:64<l.length
  · have E1 := Lib.hid (qgp hm)
    go_enter Tryz.func73,Tryz.ntmps73
    go_wp2
    (go_ret;exact ⟨qka (by exact E1.out.symm),ext_of (by (try simp only [qc8]);repeat (first | exact Bel.refl _ | assumption | refine qch ?_ _ | refine qci ?_ _ | refine Bel.ext ?_ _ | refine Bel.alloc ?_ _ | refine Bel.drewN ?_ _))⟩)
  · have E1 := Lib.hid (fun p (hp : p ∈ l) hc => qgq (l := l) (by omega) hp hc)
    have E2:=Lib.hid (qgr (l:=l) (by omega))
    have E3:=Lib.hid (qgs (l:=l) (by omega))
    go_enter Tryz.func73,Tryz.ntmps73
    go_wp2
    go_loopw [15] (fun i wr=>∃ (k:Nat),k≤l.length∧i=.int .i64 k∧(∀ p∈l.take k,p.chk=0)∧∃ y,wr=ext (w.alloc (.cells #[.slice A l.length c] 24)) y) (fun i _=>l.length - (intOf i).toNat)
    case atStart=>exact ⟨0,Nat.zero_le _,rfl,by simp,ext_of (Bel.refl _)⟩
    case round =>
      obtain ⟨k,hk,rfl,hall,y,rfl⟩:=hrel
      have HA:=Lib.hid hall;clear hall
      by_cases hlt:k<l.length
      · obtain ⟨p, hp⟩ : ∃ p, l[k]? = some p := ⟨_, List.getElem?_eq_getElem hlt⟩
        obtain ⟨b,o,rfl,hb⟩:=hs.at_ (by omega)
        obtain ⟨r0,r1,r2⟩:=qgl hs hp
        have HP:=Lib.hid hp;clear hp
        rcases qgw p with h | h
        · have e1 := Lib.hid (qls p 0 h)
          have HC:=Lib.hid h;clear h
          go_wp2_with ((go_at_call 85;refine (e1.out _).mono ?_;rintro e _ ⟨rfl,nx,rfl⟩))
          go_roundw
          case rel =>
            refine ⟨k+1,by omega,by go_num,?_,ext_of (by (try simp only [qc8]);repeat (first | exact Bel.refl _ | assumption | refine qch ?_ _ | refine qci ?_ _ | refine Bel.ext ?_ _ | refine Bel.alloc ?_ _ | refine Bel.drewN ?_ _))⟩
            intro q hq
            rw [List.take_add_one,HP.out] at hq
            rcases List.mem_append.1 hq with hq | hq
            · exact HA.out q hq
            · simp at hq;subst hq;exact HC.out
          case measure=>(first | (simp [intOf];done) | (simp [intOf];omega))
        · have e1 := Lib.hid (qls p 8 h)
          have HC:=Lib.hid (E1.out p (List.mem_of_getElem? HP.out) (by rw [h];decide));clear h
          go_wp2_with ((go_at_call 85;refine (e1.out _).mono ?_;rintro e _ ⟨rfl,nx,rfl⟩))
          (go_ret;exact ⟨qka (by exact HC.out.symm),ext_of (by (try simp only [qc8]);repeat (first | exact Bel.refl _ | assumption | refine qch ?_ _ | refine qci ?_ _ | refine Bel.ext ?_ _ | refine Bel.alloc ?_ _ | refine Bel.drewN ?_ _))⟩)
      · obtain rfl : k = l.length := by omega
        have hc0:=HA.out
        rw [List.take_length] at hc0
        have HC:=Lib.hid hc0;clear hc0
        go_wp2
        go_loopw [28] (fun i wr=>∃ (k:Nat),k≤l.length∧i=.int .i64 k∧(∀ (i:Nat) (p q:Pt),i+1<k→l[i]?=some p→l[i+1]?=some q→p.id<q.id)∧∃ y,wr=ext (w.alloc (.cells #[.slice A l.length c] 24)) y) (fun i _=>l.length - (intOf i).toNat)
        case atStart=>exact ⟨0,Nat.zero_le _,rfl,(by intro i p q h;omega),y,rfl⟩
        case round =>
          clear hk hlt HA
          obtain ⟨k,hk,rfl,hall,y2,rfl⟩:=hrel
          have HA:=Lib.hid hall;clear hall
          by_cases hlt:k<l.length
          · obtain ⟨p, hp⟩ : ∃ p, l[k]? = some p := ⟨_, List.getElem?_eq_getElem hlt⟩
            obtain ⟨b,o,rfl,hb⟩:=hs.at_ (by omega)
            obtain ⟨r0,r1,r2⟩:=qgl hs hp
            have HP:=Lib.hid hp;clear hp
            by_cases hk0:0<k
            · obtain ⟨m, rfl⟩ : ∃ m, k = m + 1 := ⟨k - 1, by omega⟩
              have hmlt:m<l.length:=by omega
              obtain ⟨q,hq⟩:∃ q,l[m]?=some q:=⟨_,List.getElem?_eq_getElem (by omega)⟩
              obtain ⟨q0,q1,q2⟩:=qgl hs hq
              have HQ:=Lib.hid hq;clear hq
              have hi0:(0:Int)≤(m:Int):=by omega
              have hi1:(m:Int)<(l.length:Int):=by omega
              by_cases hid:q.id<p.id
              · have hd : ¬ p.id ≤ q.id := by omega
                go_wp2
                ((first | refine RegC.wp_region_ext1 (by kernel_rfl) (by kernel_rfl) ?_ | refine RegC.wp_region_ext0 (by kernel_rfl) (by kernel_rfl) ?_);(repeat (any_goals (first | go_big_quiet_step (fail) | (refine RegC.wpQuiet_split rfl rfl (fun hb=>?_) (fun hb=>?_)<;>simp only [hb]))));all_goals (refine wpQuiet_nil ?_;rintro _ ⟨nq,rfl⟩))
                go_wp2
                go_roundw
                case rel =>
                  refine ⟨m+2,by omega,by go_num,?_,ext_of (by (try simp only [qc8]);repeat (first | exact Bel.refl _ | assumption | refine qch ?_ _ | refine qci ?_ _ | refine Bel.ext ?_ _ | refine Bel.alloc ?_ _ | refine Bel.drewN ?_ _))⟩
                  intro i p' q' hi hp' hq'
                  rcases Nat.lt_or_ge (i+1) (m+1) with h | h
                  · exact HA.out i p' q' h hp' hq'
                  · obtain rfl : i = m := by omega
                    rw [HQ.out] at hp'
                    rw [HP.out] at hq'
                    obtain rfl:=Option.some.inj hp'
                    obtain rfl:=Option.some.inj hq'
                    exact hid
                case measure=>(first | (simp [intOf];done) | (simp [intOf];omega))
              · have hd : p.id ≤ q.id := by omega
                have hbad:incB l=false:=by
                  rw [← Bool.not_eq_true,qgm];intro h;exact hid (h m q p HQ.out HP.out)
                have HB:=Lib.hid (E2.out HC.out hbad);clear hbad
                go_wp2
                ((first | refine RegC.wp_region_ext1 (by kernel_rfl) (by kernel_rfl) ?_ | refine RegC.wp_region_ext0 (by kernel_rfl) (by kernel_rfl) ?_);(repeat (any_goals (first | go_big_quiet_step (fail) | (refine RegC.wpQuiet_split rfl rfl (fun hb=>?_) (fun hb=>?_)<;>simp only [hb]))));all_goals (refine wpQuiet_nil ?_;rintro _ ⟨nq,rfl⟩))
                go_wp2
                (go_ret;exact ⟨qka (by exact HB.out.symm),ext_of (by (try simp only [qc8]);repeat (first | exact Bel.refl _ | assumption | refine qch ?_ _ | refine qci ?_ _ | refine Bel.ext ?_ _ | refine Bel.alloc ?_ _ | refine Bel.drewN ?_ _))⟩)
            · obtain rfl : k = 0 := by omega
              simp only [Nat.zero_mul,Nat.add_zero] at r0 r1 r2
              go_wp2
              ((first | refine RegC.wp_region_ext1 (by kernel_rfl) (by kernel_rfl) ?_ | refine RegC.wp_region_ext0 (by kernel_rfl) (by kernel_rfl) ?_);(repeat (any_goals (first | go_big_quiet_step (fail) | (refine RegC.wpQuiet_split rfl rfl (fun hb=>?_) (fun hb=>?_)<;>simp only [hb]))));all_goals (refine wpQuiet_nil ?_;rintro _ ⟨nq,rfl⟩))
              go_wp2
              go_roundw
              case rel=>exact ⟨1,by omega,by go_num,(by intro i p q h;omega),ext_of (by (try simp only [qc8]);repeat (first | exact Bel.refl _ | assumption | refine qch ?_ _ | refine qci ?_ _ | refine Bel.ext ?_ _ | refine Bel.alloc ?_ _ | refine Bel.drewN ?_ _))⟩
              case measure=>(first | (simp [intOf];done) | (simp [intOf];omega))
          · obtain rfl : k = l.length := by omega
            have hinc:incB l=true:=(qgm l).2 fun i p q hp hq=>HA.out i p q (by have:=(List.getElem?_eq_some_iff.1 hq).1;omega) hp hq
            have HB:=Lib.hid (E3.out HC.out hinc);clear hinc
            go_wp2
            (go_ret;exact ⟨qka (by exact HB.out.symm),ext_of (by (try simp only [qc8]);repeat (first | exact Bel.refl _ | assumption | refine qch ?_ _ | refine qci ?_ _ | refine Bel.ext ?_ _ | refine Bel.alloc ?_ _ | refine Bel.drewN ?_ _))⟩)
end Go.Proofs.YtbjpmdhdoggobaaGreat

namespace Go.Proofs.YtbjpmdhdoggobaaGreat
open Go.RowKit Go.Pel
theorem qlv (n d v:Int) (h:qdm n d=v) (hn:-9223372036854775808≤n∧n≤9223372036854775807) (hd:-9223372036854775808≤d∧d≤9223372036854775807) (W:World):Calls Tryz.prog 38 #[.agg #[.int .i64 n,.int .i64 d]] W fun e w'=>e=.returned (.int .i64 v)∧∃ y,w'=ext W y:=by
  subst h;exact qkg n d W hn hd
set_option maxRecDepth 10000 in
set_option maxHeartbeats 2000000 in
theorem qlw (p q:Pt) (n d:Int) (w:World) (hn:-9223372036854775808≤n∧n≤9223372036854775807) (hd:-9223372036854775808≤d∧d≤9223372036854775807) :
    Calls Tryz.prog 106 #[.agg #[.int .i64 p.id,.int .i64 p.a,.int .i64 p.b],.agg #[.int .i64 q.id,.int .i64 q.a,.int .i64 q.b],.agg #[.int .i64 n,.int .i64 d]] w fun e w'=>e=.returned (.int .i64 (ql6 p q n d))∧∃ x,w'=ext w x:=by
  rcases qgw p with h1 | h1<;>rcases qgw q with h2 | h2<;>rcases qds n d with h3 | h3
  · have q1 := Lib.hid (qls p _ h1); have q2 := Lib.hid (qls q _ h2); have q3 := Lib.hid (qlv n d _ h3 hn hd)
    by_cases hi:p.id=q.id
    · have HR := Lib.hid (ql8 (p := p) (q := q) ⟨h1, h2, h3⟩ hi)
      have hi':(p.id == q.id)=true:=by simpa using hi
      clear h1 h2 h3 hn hd hi
      go_enter Tryz.func106,Tryz.ntmps106
      go_wp2
      ((first | refine RegC.wp_region_ext1 (by kernel_rfl) (by kernel_rfl) ?_ | refine RegC.wp_region_ext0 (by kernel_rfl) (by kernel_rfl) ?_);(repeat (any_goals (first | go_big_quiet_step (first | (go_at_call 85;with_reducible exact Calls.ext_of (q1.out _)) | (go_at_call 85;with_reducible exact Calls.ext_of (q2.out _)) | (go_at_call 38;with_reducible exact Calls.ext_of (q3.out _))) | (refine RegC.wpQuiet_split rfl rfl (fun hb=>?_) (fun hb=>?_)<;>simp only [hb]))));all_goals (refine wpQuiet_nil ?_;rintro _ ⟨nq,rfl⟩))
      go_wp2
      (go_ret;exact ⟨qka (by exact HR.out.symm),ext_of (by (try simp only [qc8]);repeat (first | exact Bel.refl _ | assumption | refine qch ?_ _ | refine qci ?_ _ | refine Bel.ext ?_ _ | refine Bel.alloc ?_ _ | refine Bel.drewN ?_ _))⟩)
    · have HR := Lib.hid (ql9 (p := p) (q := q) ⟨h1, h2, h3⟩ hi)
      have hi':(p.id == q.id)=false:=by simpa using hi
      clear h1 h2 h3 hn hd hi
      go_enter Tryz.func106,Tryz.ntmps106
      go_wp2
      ((first | refine RegC.wp_region_ext1 (by kernel_rfl) (by kernel_rfl) ?_ | refine RegC.wp_region_ext0 (by kernel_rfl) (by kernel_rfl) ?_);(repeat (any_goals (first | go_big_quiet_step (first | (go_at_call 85;with_reducible exact Calls.ext_of (q1.out _)) | (go_at_call 85;with_reducible exact Calls.ext_of (q2.out _)) | (go_at_call 38;with_reducible exact Calls.ext_of (q3.out _))) | (refine RegC.wpQuiet_split rfl rfl (fun hb=>?_) (fun hb=>?_)<;>simp only [hb]))));all_goals (refine wpQuiet_nil ?_;rintro _ ⟨nq,rfl⟩))
      go_wp2
      (go_ret;exact ⟨qka (by exact HR.out.symm),ext_of (by (try simp only [qc8]);repeat (first | exact Bel.refl _ | assumption | refine qch ?_ _ | refine qci ?_ _ | refine Bel.ext ?_ _ | refine Bel.alloc ?_ _ | refine Bel.drewN ?_ _))⟩)
  all_goals
    have q1:=Lib.hid (qls p _ h1)
    have q2:=Lib.hid (qls q _ h2)
    have q3:=Lib.hid (qlv n d _ h3 hn hd)
    have HR:=Lib.hid (ql7 (p:=p) (q:=q) (n:=n) (d:=d) (by rw [h1,h2,h3];decide))
    clear h1 h2 h3 hn hd
    go_enter Tryz.func106,Tryz.ntmps106
    go_wp2
    ((first | refine RegC.wp_region_ext1 (by kernel_rfl) (by kernel_rfl) ?_ | refine RegC.wp_region_ext0 (by kernel_rfl) (by kernel_rfl) ?_);(repeat (any_goals (first | go_big_quiet_step (first | (go_at_call 85;with_reducible exact Calls.ext_of (q1.out _)) | (go_at_call 85;with_reducible exact Calls.ext_of (q2.out _)) | (go_at_call 38;with_reducible exact Calls.ext_of (q3.out _))) | (refine RegC.wpQuiet_split rfl rfl (fun hb=>?_) (fun hb=>?_)<;>simp only [hb]))));all_goals (refine wpQuiet_nil ?_;rintro _ ⟨nq,rfl⟩))
    go_wp2
    (go_ret;exact ⟨qka (by exact HR.out.symm),ext_of (by (try simp only [qc8]);repeat (first | exact Bel.refl _ | assumption | refine qch ?_ _ | refine qci ?_ _ | refine Bel.ext ?_ _ | refine Bel.alloc ?_ _ | refine Bel.drewN ?_ _))⟩)
theorem qlx {p q:Pt} {n d:Int} (hp:p.chk=0) (hq:q.chk=0) (hr:qdm n d=0) (hn:-9223372036854775808≤n∧n≤9223372036854775807) (hd:-9223372036854775808≤d∧d≤9223372036854775807):CmpIn p q n d:=by
  have h1:=qgv hp
  have h2:=qgv hq
  have h3:=qdt hr
  exact ⟨by omega,by omega,by omega,by omega,by omega,by omega⟩
set_option maxRecDepth 10000 in
set_option maxHeartbeats 2000000 in
theorem qly (p q:Pt) (n d:Int) (w:World) (hn:-9223372036854775808≤n∧n≤9223372036854775807) (hd:-9223372036854775808≤d∧d≤9223372036854775807) :
    Calls Tryz.prog 77 #[.agg #[.int .i64 p.id,.int .i64 p.a,.int .i64 p.b],.agg #[.int .i64 q.id,.int .i64 q.a,.int .i64 q.b],.agg #[.int .i64 n,.int .i64 d]] w fun e w'=>e=.returned (.tuple #[.bool (qlb p q n d).1,.int .i64 (qlb p q n d).2])∧∃ x,w'=ext w x:=by
  have q1:=Lib.hid (fun W=>qlw p q n d W hn hd)
  by_cases h:ql6 p q n d=0
  · have HV : Hid (qlb p q n d = (leads p q n d, 0)) := Lib.hid (by unfold qlb; rw [if_pos h])
    obtain ⟨h1,h2,h3,_⟩:=qla h
    have q2:=Lib.hid (fun W=>qlr p q n d W (qlx h1 h2 h3 hn hd))
    rw [h] at q1
    have HL:=Lib.hid (ql5 p q n d)
    obtain ⟨C,hC⟩:∃ C,cmpC p q n d=C:=⟨_,rfl⟩
    rw [hC] at q2 HL
    clear h h1 h2 h3 hn hd hC
    go_enter Tryz.func77,Tryz.ntmps77
    go_wp2_with (first | (go_at_call 106;refine (q1.out _).mono ?_;rintro e _ ⟨rfl,nx,rfl⟩) | (go_at_call 107;refine (q2.out _).mono ?_;rintro e _ ⟨rfl,nx,rfl⟩))
    go_ret2
    exact ⟨by rw [HV.out,← HL.out];rfl,ext_of (by (try simp only [qc8]);repeat (first | exact Bel.refl _ | assumption | refine qch ?_ _ | refine qci ?_ _ | refine Bel.ext ?_ _ | refine Bel.alloc ?_ _ | refine Bel.drewN ?_ _))⟩
  · have HV : Hid (qlb p q n d = (false, ql6 p q n d)) := Lib.hid (by unfold qlb; rw [if_neg h])
    have hz:(ql6 p q n d == 0)=false:=by simpa using h
    have hz':(ql6 p q n d != 0)=true:=by simpa using h
    clear h hn hd
    go_enter Tryz.func77,Tryz.ntmps77
    go_wp2_with ((go_at_call 106;refine (q1.out _).mono ?_;rintro e _ ⟨rfl,nx,rfl⟩))
    go_ret2
    exact ⟨by rw [HV.out];rfl,ext_of (by (try simp only [qc8]);repeat (first | exact Bel.refl _ | assumption | refine qch ?_ _ | refine qci ?_ _ | refine Bel.ext ?_ _ | refine Bel.alloc ?_ _ | refine Bel.drewN ?_ _))⟩
end Go.Proofs.YtbjpmdhdoggobaaGreat

namespace Go.Proofs.YtbjpmdhdoggobaaGreat
open Go.RowKit Go.Pel
theorem wu (x:Int) (y:Nat) (h:x=y) (hy:y<18446744073709551616):IntKind.u64.wrap x=(y:Int):=by rw [IntKind.wrap_u64,h];omega
set_option maxRecDepth 10000 in
set_option maxHeartbeats 2000000 in
theorem qlz (a b:Nat) (w:World) (ha:a<18446744073709551616) (hb:b<18446744073709551616) :
    Calls Tryz.prog 71 #[.int .u64 a,.int .u64 b] w fun e w'=>e=.returned (.agg #[.bool false,.int .u64 ((a*b / 18446744073709551616:Nat):Int),.int .u64 ((a*b % 18446744073709551616:Nat):Int)])∧∃ x,w'=ext w x:=by
  obtain ⟨ah,hah⟩:∃ x:Nat,a / 4294967296=x:=⟨_,rfl⟩
  obtain ⟨al,hal⟩:∃ x:Nat,a % 4294967296=x:=⟨_,rfl⟩
  obtain ⟨bh,hbh⟩:∃ x:Nat,b / 4294967296=x:=⟨_,rfl⟩
  obtain ⟨bl,hbl⟩:∃ x:Nat,b % 4294967296=x:=⟨_,rfl⟩
  obtain ⟨m0,hm0⟩:∃ x:Nat,al*bl=x:=⟨_,rfl⟩
  obtain ⟨x1,hx1⟩:∃ x:Nat,ah*bl=x:=⟨_,rfl⟩
  obtain ⟨y1,hy1⟩:∃ x:Nat,al*bh=x:=⟨_,rfl⟩
  obtain ⟨z1,hz1⟩:∃ x:Nat,ah*bh=x:=⟨_,rfl⟩
  have b0:m0≤4294967295*4294967295:=by rw [← hm0];exact Nat.mul_le_mul (by omega) (by omega)
  have b1:x1≤4294967295*4294967295:=by rw [← hx1];exact Nat.mul_le_mul (by omega) (by omega)
  have b2:y1≤4294967295*4294967295:=by rw [← hy1];exact Nat.mul_le_mul (by omega) (by omega)
  have b3:z1≤4294967295*4294967295:=by rw [← hz1];exact Nat.mul_le_mul (by omega) (by omega)
  have hab:a*b=z1*18446744073709551616+(x1+y1)*4294967296+m0:=by
    have e1:a=ah*4294967296+al:=by omega
    have e2:b=bh*4294967296+bl:=by omega
    rw [e1,e2,Nat.add_mul,Nat.mul_add,Nat.mul_add]
    have f1:ah*4294967296*(bh*4294967296)=z1*18446744073709551616:=by rw [← hz1,Nat.mul_mul_mul_comm]
    have f2:ah*4294967296*bl=x1*4294967296:=by rw [← hx1,Nat.mul_right_comm]
    have f3:al*(bh*4294967296)=y1*4294967296:=by rw [← hy1,Nat.mul_assoc]
    rw [f1,f2,f3,hm0,Nat.add_mul];omega
  obtain ⟨m0h,hm0h⟩:∃ x:Nat,m0 / 4294967296=x:=⟨_,rfl⟩
  obtain ⟨lr,hlr⟩:∃ x:Nat,m0 % 4294967296=x:=⟨_,rfl⟩
  obtain ⟨m,hm⟩:∃ x:Nat,x1+m0h=x:=⟨_,rfl⟩
  obtain ⟨mr,hmr⟩:∃ x:Nat,m % 4294967296=x:=⟨_,rfl⟩
  obtain ⟨mq,hmq⟩:∃ x:Nat,m / 4294967296=x:=⟨_,rfl⟩
  obtain ⟨n,hn⟩:∃ x:Nat,y1+mr=x:=⟨_,rfl⟩
  obtain ⟨nr,hnr⟩:∃ x:Nat,n % 4294967296=x:=⟨_,rfl⟩
  obtain ⟨nq,hnq⟩:∃ x:Nat,n / 4294967296=x:=⟨_,rfl⟩
  obtain ⟨z2,hz2⟩:∃ x:Nat,z1+mq=x:=⟨_,rfl⟩
  obtain ⟨nn,hnn⟩:∃ x:Nat,nr*4294967296=x:=⟨_,rfl⟩
  have HF:Hid (((a*b / 18446744073709551616:Nat):Int)=((z2+nq:Nat):Int)∧((a*b % 18446744073709551616:Nat):Int)=((nn+lr:Nat):Int)):=Lib.hid (by rw [hab];omega)
  obtain ⟨hi,hhi⟩:∃ x:Nat,z2+nq=x:=⟨_,rfl⟩
  obtain ⟨lo,hlo⟩:∃ x:Nat,nn+lr=x:=⟨_,rfl⟩
  rw [hhi,hlo] at HF
  have e1:IntKind.u64.wrap ((al:Int)*bl)=(m0:Int):=wu _ _ (by rw [← hm0];simp) (by omega)
  have e3:IntKind.u64.wrap ((ah:Int)*bl)=(x1:Int):=wu _ _ (by rw [← hx1];simp) (by omega)
  have e6:IntKind.u64.wrap ((al:Int)*bh)=(y1:Int):=wu _ _ (by rw [← hy1];simp) (by omega)
  have e9:IntKind.u64.wrap ((ah:Int)*bh)=(z1:Int):=wu _ _ (by rw [← hz1];simp) (by omega)
  have e4:IntKind.u64.wrap ((x1:Int)+m0h)=(m:Int):=wu _ _ (by omega) (by omega)
  have e7:IntKind.u64.wrap ((y1:Int)+mr)=(n:Int):=wu _ _ (by omega) (by omega)
  have e10:IntKind.u64.wrap ((z1:Int)+mq)=(z2:Int):=wu _ _ (by omega) (by omega)
  have e12:IntKind.u64.wrap ((z2:Int)+nq)=(hi:Int):=wu _ _ (by omega) (by omega)
  have e14:IntKind.u64.wrap ((nr:Int)*4294967296)=(nn:Int):=wu _ _ (by omega) (by omega)
  have e16:IntKind.u64.wrap ((nn:Int)+lr)=(lo:Int):=wu _ _ (by omega) (by omega)
  have d1:(a:Int) / 4294967296=(ah:Int):=by omega
  have d2:(a:Int) % 4294967296=(al:Int):=by omega
  have d3:(b:Int) / 4294967296=(bh:Int):=by omega
  have d4:(b:Int) % 4294967296=(bl:Int):=by omega
  have d5:(m0:Int) / 4294967296=(m0h:Int):=by omega
  have d6:(m0:Int) % 4294967296=(lr:Int):=by omega
  have d7:(m:Int) / 4294967296=(mq:Int):=by omega
  have d8:(m:Int) % 4294967296=(mr:Int):=by omega
  have d9:(n:Int) / 4294967296=(nq:Int):=by omega
  have d10:(n:Int) % 4294967296=(nr:Int):=by omega
  have g0:m0<18446744073709551616:=by omega
  have g1:m<18446744073709551616:=by omega
  have g2:n<18446744073709551616:=by omega
  clear hah hal hbh hbl hm0 hx1 hy1 hz1 b0 b1 b2 b3 hab hm0h hlr hm hmr hmq hn hnr hnq hz2 hnn hhi hlo
  go_enter Tryz.func71,Tryz.ntmps71
  go_wp2
  exact bodyPost_ret (v:=.agg #[.bool false,.int .u64 (hi:Int),.int .u64 (lo:Int)]) (by simp [results,Tryz.results71,go_sem]) rfl ⟨by rw [HF.out.1,HF.out.2],ext_of (by (try simp only [qc8]);repeat (first | exact Bel.refl _ | assumption | refine qch ?_ _ | refine qci ?_ _ | refine Bel.ext ?_ _ | refine Bel.alloc ?_ _ | refine Bel.drewN ?_ _))⟩
set_option maxRecDepth 10000 in
set_option maxHeartbeats 2000000 in
theorem qm0 (a b:Int) (w:World) (ha:-9223372036854775808≤a∧a≤9223372036854775807) (hb:-9223372036854775808≤b∧b≤9223372036854775807) :
    Calls Tryz.prog 47 #[.int .i64 a,.int .i64 b] w fun e w'=>e=.returned (.agg #[.bool (decide (a*b<0)),.int .u64 (((a*b).natAbs / 18446744073709551616:Nat):Int),.int .u64 (((a*b).natAbs % 18446744073709551616:Nat):Int)])∧∃ x,w'=ext w x:=by
  have q1:=Lib.hid (fun W=>qkd a W ha)
  have q2:=Lib.hid (fun W=>qkd b W hb)
  have q3:=Lib.hid (fun W=>qlz a.natAbs b.natAbs W (by omega) (by omega))
  rw [← Int.natAbs_mul] at q3
  obtain ⟨H,hH⟩:∃ H:Nat,(a*b).natAbs / 18446744073709551616=H:=⟨_,rfl⟩
  obtain ⟨L,hL⟩:∃ H:Nat,(a*b).natAbs % 18446744073709551616=H:=⟨_,rfl⟩
  rw [hH,hL] at q3 ⊢
  have hneg:decide (a*b<0)=(!(decide (a<0) == decide (b<0))&&(!(a == 0) && !(b == 0))):=by
    rcases Int.lt_trichotomy a 0 with h1 | h1 | h1<;>rcases Int.lt_trichotomy b 0 with h2 | h2 | h2
    · have:=Int.mul_pos_of_neg_of_neg h1 h2;simp [h1,h2,show ¬ a*b<0 by omega]
    · subst h2;simp
    · have:=Int.mul_neg_of_neg_of_pos h1 h2;simp [h1,this,show ¬ b<0 by omega,show ¬ a=0 by omega,show ¬ b=0 by omega]
    · subst h1;simp
    · subst h1;simp
    · subst h1;simp
    · have:=Int.mul_neg_of_pos_of_neg h1 h2;simp [h2,this,show ¬ a<0 by omega,show ¬ a=0 by omega,show ¬ b=0 by omega]
    · subst h2;simp
    · have:=Int.mul_pos h1 h2;simp [show ¬ a*b<0 by omega,show ¬ a<0 by omega,show ¬ b<0 by omega]
  cases hk:(decide (a<0) == decide (b<0)) with
  | true =>
    have HN:Hid (decide (a*b<0)=false):=Lib.hid (by rw [hneg,hk];rfl)
    clear hneg hH hL ha hb
    go_enter Tryz.func47,Tryz.ntmps47
    go_wp2_with (first | (go_at_call 46;(with_reducible refine (q1.out _).mono ?_);rintro e _ ⟨rfl,nx,rfl⟩) | (go_at_call 46;(with_reducible refine (q2.out _).mono ?_);rintro e _ ⟨rfl,nx,rfl⟩) | (go_at_call 71;(with_reducible refine (q3.out _).mono ?_);rintro e _ ⟨rfl,nx,rfl⟩))
    exact bodyPost_ret (v:=.agg #[.bool false,.int .u64 (H:Int),.int .u64 (L:Int)]) (by simp [results,Tryz.results47,go_sem]) rfl ⟨by rw [HN.out],ext_of (by (try simp only [qc8]);repeat (first | exact Bel.refl _ | assumption | refine qch ?_ _ | refine qci ?_ _ | refine Bel.ext ?_ _ | refine Bel.alloc ?_ _ | refine Bel.drewN ?_ _))⟩
  | false =>
    cases h1:(a == 0) with
    | true =>
      have HN:Hid (decide (a*b<0)=false):=Lib.hid (by rw [hneg,hk,h1];rfl)
      have h1':(a != 0)=false:=by rw [bne,h1];rfl
      clear hneg hH hL ha hb
      go_enter Tryz.func47,Tryz.ntmps47
      go_wp2_with (first | (go_at_call 46;(with_reducible refine (q1.out _).mono ?_);rintro e _ ⟨rfl,nx,rfl⟩) | (go_at_call 46;(with_reducible refine (q2.out _).mono ?_);rintro e _ ⟨rfl,nx,rfl⟩) | (go_at_call 71;(with_reducible refine (q3.out _).mono ?_);rintro e _ ⟨rfl,nx,rfl⟩))
      exact bodyPost_ret (v:=.agg #[.bool false,.int .u64 (H:Int),.int .u64 (L:Int)]) (by simp [results,Tryz.results47,go_sem]) rfl ⟨by rw [HN.out],ext_of (by (try simp only [qc8]);repeat (first | exact Bel.refl _ | assumption | refine qch ?_ _ | refine qci ?_ _ | refine Bel.ext ?_ _ | refine Bel.alloc ?_ _ | refine Bel.drewN ?_ _))⟩
    | false =>
      have h1':(a != 0)=true:=by rw [bne,h1];rfl
      cases h2:(b == 0) with
      | true =>
        have HN:Hid (decide (a*b<0)=false):=Lib.hid (by rw [hneg,hk,h1,h2];rfl)
        have h2':(b != 0)=false:=by rw [bne,h2];rfl
        clear hneg hH hL ha hb
        go_enter Tryz.func47,Tryz.ntmps47
        go_wp2_with (first | (go_at_call 46;(with_reducible refine (q1.out _).mono ?_);rintro e _ ⟨rfl,nx,rfl⟩) | (go_at_call 46;(with_reducible refine (q2.out _).mono ?_);rintro e _ ⟨rfl,nx,rfl⟩) | (go_at_call 71;(with_reducible refine (q3.out _).mono ?_);rintro e _ ⟨rfl,nx,rfl⟩))
        exact bodyPost_ret (v:=.agg #[.bool false,.int .u64 (H:Int),.int .u64 (L:Int)]) (by simp [results,Tryz.results47,go_sem]) rfl ⟨by rw [HN.out],ext_of (by (try simp only [qc8]);repeat (first | exact Bel.refl _ | assumption | refine qch ?_ _ | refine qci ?_ _ | refine Bel.ext ?_ _ | refine Bel.alloc ?_ _ | refine Bel.drewN ?_ _))⟩
      | false =>
        have HN:Hid (decide (a*b<0)=true):=Lib.hid (by rw [hneg,hk,h1,h2];rfl)
        have h2':(b != 0)=true:=by rw [bne,h2];rfl
        clear hneg hH hL ha hb
        go_enter Tryz.func47,Tryz.ntmps47
        go_wp2_with (first | (go_at_call 46;(with_reducible refine (q1.out _).mono ?_);rintro e _ ⟨rfl,nx,rfl⟩) | (go_at_call 46;(with_reducible refine (q2.out _).mono ?_);rintro e _ ⟨rfl,nx,rfl⟩) | (go_at_call 71;(with_reducible refine (q3.out _).mono ?_);rintro e _ ⟨rfl,nx,rfl⟩))
        exact bodyPost_ret (v:=.agg #[.bool true,.int .u64 (H:Int),.int .u64 (L:Int)]) (by simp [results,Tryz.results47,go_sem]) rfl ⟨by rw [HN.out],ext_of (by (try simp only [qc8]);repeat (first | exact Bel.refl _ | assumption | refine qch ?_ _ | refine qci ?_ _ | refine Bel.ext ?_ _ | refine Bel.alloc ?_ _ | refine Bel.drewN ?_ _))⟩

end Go.Proofs.YtbjpmdhdoggobaaGreat

namespace Go.Proofs.YtbjpmdhdoggobaaGreat
open Go.RowKit Go.Pel
end Go.Proofs.YtbjpmdhdoggobaaGreat

namespace Go.Proofs.YtbjpmdhdoggobaaGreat
open Go.RowKit Go.Pel
end Go.Proofs.YtbjpmdhdoggobaaGreat

namespace Go.Proofs.YtbjpmdhdoggobaaGreat
open Go.RowKit Go.Pel
theorem qm7:SlT Tryz.prog 22 72 (.agg #[.int .i64 0,.int .i64 0,.int .i64 0]) 3 24:=⟨by kernel_rfl,by kernel_rfl,by kernel_rfl,by decide,by decide⟩
def eqP (i a b i' a' b':Int):Bool:=decide (i=i'∧a=a'∧b=b')
theorem qma (i a b i' a' b':Int) (w:World):(Op.equalIn 10000 72 (.agg #[.int .i64 i,.int .i64 a,.int .i64 b]) (.agg #[.int .i64 i',.int .i64 a',.int .i64 b'])).run Tryz.prog w=.ok (eqP i a b i' a' b') w:=by
  simp [go_sem]
  unfold eqP
  by_cases h1:i=i'<;>by_cases h2:a=a'<;>by_cases h3:b=b'<;>simp [h1,h2,h3]
attribute [local go_sem ↓] qma
set_option maxRecDepth 10000 in
set_option maxHeartbeats 2000000 in
theorem qmb (A:Option Addr) (c:Nat) (l:List Pt) (w:World) (hs:Sl w 3 A l.length c (vp l)) :
    Calls Tryz.prog 61 #[.agg #[.slice A l.length c]] w fun e w'=>e=.returned (.int .i64 (qgo l))∧∃ x,w'=ext w x:=by
  by_cases hm:64<l.length
  · have E1 := Lib.hid (qgp hm)
    go_enter Tryz.func61,Tryz.ntmps61
    go_wp2
    (go_ret;exact ⟨qka (by exact E1.out.symm),ext_of (by (try simp only [qc8]);repeat (first | exact Bel.refl _ | assumption | refine qch ?_ _ | refine qci ?_ _ | refine Bel.ext ?_ _ | refine Bel.alloc ?_ _ | refine Bel.drewN ?_ _))⟩)
  · have E1 := Lib.hid (fun p (hp : p ∈ l) hc => qgq (l := l) (by omega) hp hc)
    have E2:=Lib.hid (qgr (l:=l) (by omega))
    have E3:=Lib.hid (qgs (l:=l) (by omega))
    go_enter Tryz.func61,Tryz.ntmps61
    go_wp2
    go_loopw [3] (fun i wr=>∃ (k:Nat),k≤l.length∧i=.int .i64 k∧(∀ p∈l.take k,p.chk=0)∧∃ y,wr=ext (w.alloc (.cells #[.slice A l.length c] 24)) y) (fun i _=>l.length - (intOf i).toNat)
    case atStart=>exact ⟨0,Nat.zero_le _,rfl,by simp,ext_of (Bel.refl _)⟩
    case round =>
      obtain ⟨k,hk,rfl,hall,y,rfl⟩:=hrel
      have HA:=Lib.hid hall;clear hall
      by_cases hlt:k<l.length
      · obtain ⟨p, hp⟩ : ∃ p, l[k]? = some p := ⟨_, List.getElem?_eq_getElem hlt⟩
        obtain ⟨b,o,rfl,hb⟩:=hs.at_ (by omega)
        obtain ⟨r0,r1,r2⟩:=qgl hs hp
        have HP:=Lib.hid hp;clear hp
        rcases qgw p with h | h
        · have e1 := Lib.hid (qlt p 0 h)
          have HC:=Lib.hid h;clear h
          go_wp2_with ((go_at_call 78;refine (e1.out _).mono ?_;rintro e _ ⟨rfl,nx,rfl⟩))
          go_roundw
          case rel =>
            refine ⟨k+1,by omega,by go_num,?_,ext_of (by (try simp only [qc8]);repeat (first | exact Bel.refl _ | assumption | refine qch ?_ _ | refine qci ?_ _ | refine Bel.ext ?_ _ | refine Bel.alloc ?_ _ | refine Bel.drewN ?_ _))⟩
            intro q hq
            rw [List.take_add_one,HP.out] at hq
            rcases List.mem_append.1 hq with hq | hq
            · exact HA.out q hq
            · simp at hq;subst hq;exact HC.out
          case measure=>(first | (simp [intOf];done) | (simp [intOf];omega))
        · have e1 := Lib.hid (qlt p 8 h)
          have HC:=Lib.hid (E1.out p (List.mem_of_getElem? HP.out) (by rw [h];decide));clear h
          go_wp2_with ((go_at_call 78;refine (e1.out _).mono ?_;rintro e _ ⟨rfl,nx,rfl⟩))
          (go_ret;exact ⟨qka (by exact HC.out.symm),ext_of (by (try simp only [qc8]);repeat (first | exact Bel.refl _ | assumption | refine qch ?_ _ | refine qci ?_ _ | refine Bel.ext ?_ _ | refine Bel.alloc ?_ _ | refine Bel.drewN ?_ _))⟩)
      · obtain rfl : k = l.length := by omega
        have hc0:=HA.out
        rw [List.take_length] at hc0
        have HC:=Lib.hid hc0;clear hc0
        go_wp2
        go_loopw [4] (fun i wr=>∃ (k:Nat),k≤l.length+1∧i=.int .i64 (k+1)∧(∀ (i:Nat) (p q:Pt),i+1<k+1→l[i]?=some p→l[i+1]?=some q→p.id<q.id)∧∃ y,wr=ext (w.alloc (.cells #[.slice A l.length c] 24)) y) (fun i _=>l.length+2 - (intOf i).toNat)
        case atStart=>exact ⟨0,by omega,rfl,(by intro i p q h;omega),y,rfl⟩
        case round =>
          clear hk hlt HA
          obtain ⟨m,hk,rfl,hall,y2,rfl⟩:=hrel
          have HA:=Lib.hid hall;clear hall
          by_cases hlt:m+1<l.length
          · obtain ⟨p, hp⟩ : ∃ p, l[m + 1]? = some p := ⟨_, List.getElem?_eq_getElem hlt⟩
            obtain ⟨b,o,rfl,hb⟩:=hs.at_ (by omega)
            obtain ⟨r0,r1,r2⟩:=qgl hs hp
            have HP:=Lib.hid hp;clear hp
            obtain ⟨q,hq⟩:∃ q,l[m]?=some q:=⟨_,List.getElem?_eq_getElem (by omega)⟩
            obtain ⟨q0,q1,q2⟩:=qgl hs hq
            have HQ:=Lib.hid hq;clear hq
            have hi0:(0:Int)≤(m:Int):=by omega
            have hi1:(m:Int)<(l.length:Int):=by omega
            have hi2:(m:Int)+1<(l.length:Int):=by omega
            by_cases hid:q.id<p.id
            · have hd : ¬ p.id ≤ q.id := by omega
              go_wp2
              ((first | refine RegC.wp_region_ext1 (by kernel_rfl) (by kernel_rfl) ?_ | refine RegC.wp_region_ext0 (by kernel_rfl) (by kernel_rfl) ?_);(repeat (any_goals (first | go_big_quiet_step (fail) | (refine RegC.wpQuiet_split rfl rfl (fun hb=>?_) (fun hb=>?_)<;>simp only [hb]))));all_goals (refine wpQuiet_nil ?_;rintro _ ⟨nq,rfl⟩))
              go_wp2
              go_roundw
              case rel =>
                refine ⟨m+1,by omega,by go_num,?_,ext_of (by (try simp only [qc8]);repeat (first | exact Bel.refl _ | assumption | refine qch ?_ _ | refine qci ?_ _ | refine Bel.ext ?_ _ | refine Bel.alloc ?_ _ | refine Bel.drewN ?_ _))⟩
                intro i p' q' hi hp' hq'
                rcases Nat.lt_or_ge (i+1) (m+1) with h | h
                · exact HA.out i p' q' h hp' hq'
                · obtain rfl : i = m := by omega
                  rw [HQ.out] at hp'
                  rw [HP.out] at hq'
                  obtain rfl:=Option.some.inj hp'
                  obtain rfl:=Option.some.inj hq'
                  exact hid
              case measure=>(first | (simp [intOf];done) | (simp [intOf];omega))
            · have hd : p.id ≤ q.id := by omega
              have hbad:incB l=false:=by
                rw [← Bool.not_eq_true,qgm];intro h;exact hid (h m q p HQ.out HP.out)
              have HB:=Lib.hid (E2.out HC.out hbad);clear hbad
              go_wp2
              ((first | refine RegC.wp_region_ext1 (by kernel_rfl) (by kernel_rfl) ?_ | refine RegC.wp_region_ext0 (by kernel_rfl) (by kernel_rfl) ?_);(repeat (any_goals (first | go_big_quiet_step (fail) | (refine RegC.wpQuiet_split rfl rfl (fun hb=>?_) (fun hb=>?_)<;>simp only [hb]))));all_goals (refine wpQuiet_nil ?_;rintro _ ⟨nq,rfl⟩))
              go_wp2
              (go_ret;exact ⟨qka (by exact HB.out.symm),ext_of (by (try simp only [qc8]);repeat (first | exact Bel.refl _ | assumption | refine qch ?_ _ | refine qci ?_ _ | refine Bel.ext ?_ _ | refine Bel.alloc ?_ _ | refine Bel.drewN ?_ _))⟩)
          · have hlt2 : ¬ (m : Int) + 1 < (l.length : Int) := by omega
            have hinc:incB l=true:=(qgm l).2 fun i p q hp hq=>HA.out i p q (by have:=(List.getElem?_eq_some_iff.1 hq).1;omega) hp hq
            have HB:=Lib.hid (E3.out HC.out hinc);clear hinc
            go_wp2
            (go_ret;exact ⟨qka (by exact HB.out.symm),ext_of (by (try simp only [qc8]);repeat (first | exact Bel.refl _ | assumption | refine qch ?_ _ | refine qci ?_ _ | refine Bel.ext ?_ _ | refine Bel.alloc ?_ _ | refine Bel.drewN ?_ _))⟩)
set_option maxRecDepth 10000 in
set_option maxHeartbeats 2000000 in
theorem qmc (A:Option Addr) (c:Nat) (l:List Pt) (id:Int) (w:World) (hs:Sl w 3 A l.length c (vp l)) (hl:l.length≤1000000) :
    Calls Tryz.prog 33 #[.agg #[.slice A l.length c],.int .i64 id] w fun e w'=>e=.returned (.int .i64 (atI l id))∧∃ x,w'=ext w x:=by
  go_enter Tryz.func33,Tryz.ntmps33
  go_wp2
  go_loopw [5] (fun i wr=>∃ (k:Nat),k≤l.length∧i=.int .i64 k∧(∀ (i:Nat) (p:Pt),i<k→l[i]?=some p→p.id≠id)∧∃ y,wr=ext (w.alloc (.cells #[.slice A l.length c] 24)) y) (fun i _=>l.length - (intOf i).toNat)
  case atStart=>exact ⟨0,Nat.zero_le _,rfl,(by intro i p h;omega),ext_of (Bel.refl _)⟩
  case round =>
    obtain ⟨k,hk,rfl,hall,y,rfl⟩:=hrel
    have HA:=Lib.hid hall;clear hall
    by_cases hlt:k<l.length
    · obtain ⟨p, hp⟩ : ∃ p, l[k]? = some p := ⟨_, List.getElem?_eq_getElem hlt⟩
      obtain ⟨b,o,rfl,hb⟩:=hs.at_ (by omega)
      obtain ⟨r0,r1,r2⟩:=qgl hs hp
      have HP:=Lib.hid hp;clear hp
      by_cases hid:p.id=id
      · have hd : (p.id == id) = true := by simpa using hid
        have HB:=Lib.hid (qh3 HA.out HP.out hid)
        clear hid
        go_wp2
        (go_ret;exact ⟨qka (by exact HB.out.symm),ext_of (by (try simp only [qc8]);repeat (first | exact Bel.refl _ | assumption | refine qch ?_ _ | refine qci ?_ _ | refine Bel.ext ?_ _ | refine Bel.alloc ?_ _ | refine Bel.drewN ?_ _))⟩)
      · have hd : (p.id == id) = false := by simpa using hid
        have HD:=Lib.hid hid;clear hid
        go_wp2
        go_roundw
        case rel =>
          refine ⟨k+1,by omega,by go_num,?_,ext_of (by (try simp only [qc8]);repeat (first | exact Bel.refl _ | assumption | refine qch ?_ _ | refine qci ?_ _ | refine Bel.ext ?_ _ | refine Bel.alloc ?_ _ | refine Bel.drewN ?_ _))⟩
          intro i q hi hq
          rcases Nat.lt_or_ge i k with h | h
          · exact HA.out i q h hq
          · obtain rfl : i = k := by omega
            rw [HP.out] at hq
            obtain rfl:=Option.some.inj hq
            exact HD.out
        case measure=>(first | (simp [intOf];done) | (simp [intOf];omega))
    · obtain rfl : k = l.length := by omega
      have HB:=Lib.hid (qh2 (qh4 (id:=id) fun i p hp=>HA.out i p (List.getElem?_eq_some_iff.1 hp).1 hp))
      go_wp2
      (go_ret;exact ⟨qka (by exact HB.out.symm),ext_of (by (try simp only [qc8]);repeat (first | exact Bel.refl _ | assumption | refine qch ?_ _ | refine qci ?_ _ | refine Bel.ext ?_ _ | refine Bel.alloc ?_ _ | refine Bel.drewN ?_ _))⟩)
def great (n:Nat):Bool:=(decide (16<n)&&decide (n<64)) || decide (70<n)
end Go.Proofs.YtbjpmdhdoggobaaGreat

namespace Go.Pel
def cmpQ (n1 d1 n2 d2:Int):Int:=cmpZ (n1*d2) (n2*d1)
end Go.Pel
namespace Go.Proofs.YtbjpmdhdoggobaaGreat
open Go Go.Tx Go.RowKit Go.Pel
def u64B (x:Int):Bool:=decide (0≤x∧x≤18446744073709551615)
theorem qmf {x:Int} (h:u64B x=true):0≤x∧x≤18446744073709551615:=of_decide_eq_true h
theorem qmg {η:Emb} {a:Int} {v:Value} (hv:VR η (.int .u64 a) v):v=.int .u64 a:=by cases hv;rfl
theorem qmh (a b:Int) (w:World) (ha:0≤a∧a≤18446744073709551615) (hb:0≤b∧b≤18446744073709551615) :
    Calls Tryz.prog 104 #[.int .u64 a,.int .u64 b] w fun e w'=>e=.returned (.tuple #[.int .u64 ((a*b) / 18446744073709551616),.int .u64 ((a*b) % 18446744073709551616)])∧∃ x,w'=ext w x:=by
  obtain ⟨x,rfl⟩:∃ x:Nat,a=x:=⟨a.toNat,by omega⟩
  obtain ⟨y,rfl⟩:∃ y:Nat,b=y:=⟨b.toNat,by omega⟩
  have h:=Tryz.bits_Mul64 x y (by omega) (by omega) w
  refine h.mono fun e w' ⟨he,hw⟩=>⟨he.trans ?_,ext_of (hw ▸ Bel.refl _)⟩
  simp
theorem qmi {P Q:Int} (h:cmpZ P 0≠cmpZ Q 0):cmpZ P Q=if cmpZ P 0<cmpZ Q 0 then -1 else 1:=by
  unfold cmpZ at *
  repeat' split at h
  all_goals repeat' split
  all_goals omega
theorem qmj {P Q:Int} (h:cmpZ P 0=cmpZ Q 0) (hn:cmpZ P 0<0):cmpZ P Q=cmpZ (Q.natAbs:Int) (P.natAbs:Int):=by
  unfold cmpZ at *
  repeat' split at h
  all_goals repeat' split
  all_goals omega
theorem qmk {P Q:Int} (h:cmpZ P 0=cmpZ Q 0) (hn:¬ cmpZ P 0<0):cmpZ P Q=cmpZ (P.natAbs:Int) (Q.natAbs:Int):=by
  unfold cmpZ at *
  repeat' split at h
  all_goals repeat' split
  all_goals omega
end Go.Proofs.YtbjpmdhdoggobaaGreat

namespace Go.Proofs.YtbjpmdhdoggobaaGreat
open Go Go.Tx Go.Pel Go.Proofs.Tryz
set_option maxRecDepth 100000
set_option maxHeartbeats 0
abbrev qmp:List Pk:=[.row Ru false,.row Ru false]
abbrev qmq:Type:=Du×Du×Unit
abbrev qmr:Type:=Int×Int
def qms (r:qmr):LV×List Ob:=(.tup [.int .u64 r.1,.int .u64 r.2],[])
def qmt (F:qmq→Option qmr):Go.Tx.Spec:=⟨104,qmp,qmr,F,qms⟩
def qmu (x:qmq):Bool:=u64B x.1.1&&u64B x.2.1.1
def qmv (d:Nat) (x:qmq):Option qmr:=bif qmu x then some ((x.1.1*x.2.1.1) / 18446744073709551616,(x.1.1*x.2.1.1) % 18446744073709551616) else none
theorem qmw (d:Nat) (x:qmq) (h:qmu x=true):qmv d x=some ((x.1.1*x.2.1.1) / 18446744073709551616,(x.1.1*x.2.1.1) % 18446744073709551616):=by unfold qmv;rw [h];rfl
theorem qmx (d:Nat):COK prog (qmt (qmv d)):=by
 refine qi4 (qi5 (fn:=f104) (by kernel_rfl) (by kernel_rfl) (by kernel_rfl)) fun x r hx w φ vs hφ hv=>?_
 have hx:qmv d x=some r:=hx
 unfold qmv at hx
 obtain ⟨hc,rfl⟩:=qjk hx
 have hv:VRs (Emb.fro φ) [.int .u64 x.1.1,.int .u64 x.2.1.1] vs:=hv
 obtain ⟨v0,vs,rfl,q0,hv⟩:=VRs.uncons hv
 obtain ⟨v1,rfl,q1⟩:=vrs1 hv
 have r0:=qmg q0;subst r0
 have r1:=qmg q1;subst r1
 unfold qmu at hc
 simp only [Bool.and_eq_true] at hc
 obtain ⟨h1,h2⟩:=hc
 refine (qmh x.1.1 x.2.1.1 w (qmf h1) (qmf h2)).mono ?_
 rintro e w' ⟨rfl,y,rfl⟩
 exact qi2 hφ (VR.tupL (VRs.cons (.int _ _) (VRs.cons (.int _ _) VRs.nil))) y
abbrev qmy:List Pk:=[.row Ri false,.row Ri false]
abbrev qmz:Type:=Di×Di×Unit
abbrev qn0:Type:=Bool×Int×Int
def qn1 (r:qn0):LV×List Ob:=(.agg [.bool r.1,.int .u64 r.2.1,.int .u64 r.2.2],[])
def qn2 (F:qmz→Option qn0):Go.Tx.Spec:=⟨47,qmy,qn0,F,qn1⟩
def qn3 (x:qmz):Bool:=i64B x.1.1&&i64B x.2.1.1
def qn4 (d:Nat) (x:qmz):Option qn0:=bif qn3 x then some (decide (x.1.1*x.2.1.1<0),(((x.1.1*x.2.1.1).natAbs / 18446744073709551616:Nat):Int),(((x.1.1*x.2.1.1).natAbs % 18446744073709551616:Nat):Int)) else none
theorem qn5 (d:Nat) (x:qmz) (h:qn3 x=true):qn4 d x=some (decide (x.1.1*x.2.1.1<0),(((x.1.1*x.2.1.1).natAbs / 18446744073709551616:Nat):Int),(((x.1.1*x.2.1.1).natAbs % 18446744073709551616:Nat):Int)):=by unfold qn4;rw [h];rfl
theorem qn6 (d:Nat):COK prog (qn2 (qn4 d)):=by
 refine qi4 (qi5 (fn:=f47) (by kernel_rfl) (by kernel_rfl) (by kernel_rfl)) fun x r hx w φ vs hφ hv=>?_
 have hx:qn4 d x=some r:=hx
 unfold qn4 at hx
 obtain ⟨hc,rfl⟩:=qjk hx
 have hv:VRs (Emb.fro φ) [.int .i64 x.1.1,.int .i64 x.2.1.1] vs:=hv
 obtain ⟨v0,vs,rfl,q0,hv⟩:=VRs.uncons hv
 obtain ⟨v1,rfl,q1⟩:=vrs1 hv
 have r0:=qhz q0;subst r0
 have r1:=qhz q1;subst r1
 unfold qn3 at hc
 simp only [Bool.and_eq_true] at hc
 obtain ⟨h1,h2⟩:=hc
 refine (qm0 x.1.1 x.2.1.1 w (qjh h1) (qjh h2)).mono ?_
 rintro e w' ⟨rfl,y,rfl⟩
 exact qi2 hφ (VR.aggL (VRs.cons (.bool _) (VRs.cons (.int _ _) (VRs.cons (.int _ _) VRs.nil)))) y
abbrev qn7:List Pk:=[.row Rii true]
abbrev qn8:Type:=Dii×Unit
abbrev qn9:Type:=Int
def qna (r:qn9):LV×List Ob:=(.int .i64 r,[])
def qnb (F:qn8→Option qn9):Go.Tx.Spec:=⟨38,qn7,qn9,F,qna⟩
def qnc (x:qn8):Bool:=i64B x.1.1&&i64B x.1.2.1
def qnd (d:Nat) (x:qn8):Option qn9:=bif qnc x then some (qdm x.1.1 x.1.2.1) else none
theorem qne (d:Nat) (x:qn8) (h:qnc x=true):qnd d x=some (qdm x.1.1 x.1.2.1):=by unfold qnd;rw [h];rfl
theorem qnf (d:Nat):COK prog (qnb (qnd d)):=by
 refine qi4 (qi5 (fn:=f38) (by kernel_rfl) (by kernel_rfl) (by kernel_rfl)) fun x r hx w φ vs hφ hv=>?_
 have hx:qnd d x=some r:=hx
 unfold qnd at hx
 obtain ⟨hc,rfl⟩:=qjk hx
 have hv:VRs (Emb.fro φ) [.agg [.int .i64 x.1.1,.int .i64 x.1.2.1]] vs:=hv
 obtain ⟨v0,rfl,q0⟩:=vrs1 hv
 have r0:=qhy q0;subst r0
 unfold qnc at hc
 simp only [Bool.and_eq_true] at hc
 obtain ⟨h1,h2⟩:=hc
 refine (qkg x.1.1 x.1.2.1 w (qjh h1) (qjh h2)).mono ?_
 rintro e w' ⟨rfl,y,rfl⟩
 exact qi2 hφ (.int _ _) y
abbrev qng:List Pk:=[.row Rii true]
abbrev qnh:Type:=Dii×Unit
abbrev qni:Type:=Int
def qnj (r:qni):LV×List Ob:=(.int .i64 r,[])
def qnk (F:qnh→Option qni):Go.Tx.Spec:=⟨27,qng,qni,F,qnj⟩
def qnl (x:qnh):Bool:=i64B x.1.1&&i64B x.1.2.1
def qnm (d:Nat) (x:qnh):Option qni:=bif qnl x then some (qdm x.1.1 x.1.2.1) else none
theorem qnn (d:Nat) (x:qnh) (h:qnl x=true):qnm d x=some (qdm x.1.1 x.1.2.1):=by unfold qnm;rw [h];rfl
theorem qno (d:Nat):COK prog (qnk (qnm d)):=by
 refine qi4 (qi5 (fn:=f27) (by kernel_rfl) (by kernel_rfl) (by kernel_rfl)) fun x r hx w φ vs hφ hv=>?_
 have hx:qnm d x=some r:=hx
 unfold qnm at hx
 obtain ⟨hc,rfl⟩:=qjk hx
 have hv:VRs (Emb.fro φ) [.agg [.int .i64 x.1.1,.int .i64 x.1.2.1]] vs:=hv
 obtain ⟨v0,rfl,q0⟩:=vrs1 hv
 have r0:=qhy q0;subst r0
 unfold qnl at hc
 simp only [Bool.and_eq_true] at hc
 obtain ⟨h1,h2⟩:=hc
 refine (qkh x.1.1 x.1.2.1 w (qjh h1) (qjh h2)).mono ?_
 rintro e w' ⟨rfl,y,rfl⟩
 exact qi2 hφ (.int _ _) y
abbrev qnp:List Pk:=[.row Riii true]
abbrev qnq:Type:=Diii×Unit
abbrev qnr:Type:=Int
def qns (r:qnr):LV×List Ob:=(.int .i64 r,[])
def qnt (F:qnq→Option qnr):Go.Tx.Spec:=⟨85,qnp,qnr,F,qns⟩
def qnu (x:qnq):Bool:=true
def qnv (d:Nat) (x:qnq):Option qnr:=bif qnu x then some (qe0 (ofP x.1).id (ofP x.1).a (ofP x.1).b) else none
theorem qnw (d:Nat) (x:qnq) (h:qnu x=true):qnv d x=some (qe0 (ofP x.1).id (ofP x.1).a (ofP x.1).b):=by unfold qnv;rw [h];rfl
theorem qnx (d:Nat):COK prog (qnt (qnv d)):=by
 refine qi4 (qi5 (fn:=f85) (by kernel_rfl) (by kernel_rfl) (by kernel_rfl)) fun x r hx w φ vs hφ hv=>?_
 have hx:qnv d x=some r:=hx
 unfold qnv at hx
 obtain ⟨hc,rfl⟩:=qjk hx
 have hv:VRs (Emb.fro φ) [.agg [.int .i64 x.1.1,.int .i64 x.1.2.1,.int .i64 x.1.2.2.1]] vs:=hv
 obtain ⟨v0,rfl,q0⟩:=vrs1 hv
 have r0:=qhx (p:=x.1) q0;subst r0
 refine (qkk (ofP x.1).id (ofP x.1).a (ofP x.1).b w).mono ?_
 rintro e w' ⟨rfl,y,rfl⟩
 exact qi2 hφ (.int _ _) y
abbrev qny:List Pk:=[.row Riii true]
abbrev qnz:Type:=Diii×Unit
abbrev qo0:Type:=Int
def qo1 (r:qo0):LV×List Ob:=(.int .i64 r,[])
def qo2 (F:qnz→Option qo0):Go.Tx.Spec:=⟨78,qny,qo0,F,qo1⟩
def qo3 (x:qnz):Bool:=true
def qo4 (d:Nat) (x:qnz):Option qo0:=bif qo3 x then some (qe0 (ofP x.1).id (ofP x.1).a (ofP x.1).b) else none
theorem qo5 (d:Nat) (x:qnz) (h:qo3 x=true):qo4 d x=some (qe0 (ofP x.1).id (ofP x.1).a (ofP x.1).b):=by unfold qo4;rw [h];rfl
theorem qo6 (d:Nat):COK prog (qo2 (qo4 d)):=by
 refine qi4 (qi5 (fn:=f78) (by kernel_rfl) (by kernel_rfl) (by kernel_rfl)) fun x r hx w φ vs hφ hv=>?_
 have hx:qo4 d x=some r:=hx
 unfold qo4 at hx
 obtain ⟨hc,rfl⟩:=qjk hx
 have hv:VRs (Emb.fro φ) [.agg [.int .i64 x.1.1,.int .i64 x.1.2.1,.int .i64 x.1.2.2.1]] vs:=hv
 obtain ⟨v0,rfl,q0⟩:=vrs1 hv
 have r0:=qhx (p:=x.1) q0;subst r0
 refine (qkl (ofP x.1).id (ofP x.1).a (ofP x.1).b w).mono ?_
 rintro e w' ⟨rfl,y,rfl⟩
 exact qi2 hφ (.int _ _) y
abbrev qpg:List Pk:=[.row qjw true,.row Ri false]
abbrev qph:Type:=qjx×Di×Unit
abbrev qpi:Type:=Int
def qpj (r:qpi):LV×List Ob:=(.int .i64 r,[])
def qpk (F:qph→Option qpi):Go.Tx.Spec:=⟨33,qpg,qpi,F,qpj⟩
def qpl (x:qph):Bool:=decide ((ptsL x.1.1).length≤1000000)
def qpm (d:Nat) (x:qph):Option qpi:=bif qpl x then some (atI (ptsL x.1.1) x.2.1.1) else none
theorem qpn (d:Nat) (x:qph) (h:qpl x=true):qpm d x=some (atI (ptsL x.1.1) x.2.1.1):=by unfold qpm;rw [h];rfl
theorem qpo (d:Nat):COK prog (qpk (qpm d)):=by
 refine qi4 (qi5 (fn:=f33) (by kernel_rfl) (by kernel_rfl) (by kernel_rfl)) fun x r hx w φ vs hφ hv=>?_
 have hx:qpm d x=some r:=hx
 unfold qpm at hx
 obtain ⟨hc,rfl⟩:=qjk hx
 have hv:VRs (Emb.fro φ) [.agg [.fz RP x.1.1],.int .i64 x.2.1.1] vs:=hv
 obtain ⟨v0,vs,rfl,q0,hv⟩:=VRs.uncons hv
 obtain ⟨v1,rfl,q1⟩:=vrs1 hv
 obtain ⟨A0,c0,rfl,s0,z0⟩:=qjf hφ q0
 have r1:=qhz q1;subst r1
 unfold qpl at hc
 have h1:=hc
 replace h1:=of_decide_eq_true h1
 refine (qmc A0 c0 (ptsL x.1.1) x.2.1.1 w s0 h1).mono ?_
 rintro e w' ⟨rfl,y,rfl⟩
 exact qi2 hφ (.int _ _) y
end Go.Proofs.YtbjpmdhdoggobaaGreat

namespace Go.Proofs.YtbjpmdhdoggobaaGreat
open Go.RowKit Go.Pel
set_option maxHeartbeats 400000 in
theorem qq7 (p:Pt) (id:Int) (w:World):Calls Tryz.prog 136 #[.agg #[.int .i64 p.id,.int .i64 p.a,.int .i64 p.b],.int .i64 id] w fun e w'=>e=.returned (.int .i64 (cmpI p.id id))∧∃ x,w'=ext w x:=by
  go_enter Tryz.func136,Tryz.ntmps136
  go_wp2_with ((go_at_call 134;refine (qlk _ _ _).mono ?_;rintro e _ ⟨rfl,nx,rfl⟩))
  (go_ret;exact ⟨qka (by rfl),ext_of (by (try simp only [qc8]);repeat (first | exact Bel.refl _ | assumption | refine qch ?_ _ | refine qci ?_ _ | refine Bel.ext ?_ _ | refine Bel.alloc ?_ _ | refine Bel.drewN ?_ _))⟩)
theorem qq8 (p:Pt) (id v:Int) (h:cmpI p.id id=v) (w:World):Calls Tryz.prog 136 #[.agg #[.int .i64 p.id,.int .i64 p.a,.int .i64 p.b],.int .i64 id] w fun e w'=>e=.returned (.int .i64 v)∧∃ x,w'=ext w x:=h ▸ qq7 p id w
set_option maxRecDepth 10000 in
set_option maxHeartbeats 2000000 in
theorem qq9 (A:Option Addr) (c:Nat) (l:List Pt) (id:Int) (w:World) (hs:Sl w 3 A l.length c (vp l)) (hl:l.length≤1000000) (hinc:incB l=true) :
    Calls Tryz.prog 135 #[.slice A l.length c,.int .i64 id,.func (.func 136) #[] #[]] w fun e w'=>e=.returned (.tuple #[.int .i64 (lowB l id),.bool (hasB l id)])∧∃ x,w'=ext w x:=by
  have HI:=Lib.hid hinc;clear hinc
  go_enter Tryz.func135,Tryz.ntmps135
  go_wp2
  go_loopw [9,10] (fun i j wr=>∃ (a b:Nat),a≤b∧b≤l.length∧i=.int .i64 a∧j=.int .i64 b∧(∀ (k:Nat) (p:Pt),k<a→l[k]?=some p→p.id<id)∧(∀ (k:Nat) (p:Pt),b≤k→l[k]?=some p→id≤p.id)∧∃ y,wr=ext w y) (fun i j _=>(intOf j - intOf i).toNat)
  case atStart=>exact ⟨0,l.length,Nat.zero_le _,Nat.le_refl _,rfl,rfl,(by intro k p h;omega),(by intro k p h hp;have:=(List.getElem?_eq_some_iff.1 hp).1;omega),ext_of (Bel.refl _)⟩
  case round =>
    obtain ⟨a,b,hab,hbl,rfl,rfl,h1,h2,y,rfl⟩:=hrel
    have H1:=Lib.hid h1
    have H2:=Lib.hid h2
    clear h1 h2
    by_cases hlt:a<b
    · obtain ⟨m, hm1, hm2⟩ : ∃ m : Nat, 2 * m ≤ a + b ∧ a + b ≤ 2 * m + 1 := ⟨(a + b) / 2, by omega, by omega⟩
      have hmd:((a:Int)+(b:Int)) / 2=(m:Int):=by omega
      obtain ⟨p,hp⟩:∃ p,l[m]?=some p:=⟨_,List.getElem?_eq_getElem (by omega)⟩
      obtain ⟨b0,o,rfl,hb0⟩:=hs.at_ (by omega)
      obtain ⟨r0,r1,r2⟩:=qgl hs hp
      have HP:=Lib.hid hp;clear hp
      have hml:(m:Int)<(l.length:Int):=by omega
      by_cases hpi:p.id<id
      · have e1 := Lib.hid (qq8 p id (-1) (qlh hpi))
        go_wp2_with ((go_at_call 136;refine (e1.out _).mono ?_;rintro e _ ⟨rfl,nx,rfl⟩))
        go_roundw
        case rel =>
          refine ⟨m+1,b,by omega,hbl,by go_num,rfl,?_,H2.out,ext_of (by (try simp only [qc8]);repeat (first | exact Bel.refl _ | assumption | refine qch ?_ _ | refine qci ?_ _ | refine Bel.ext ?_ _ | refine Bel.alloc ?_ _ | refine Bel.drewN ?_ _))⟩
          intro k q hk hq
          rcases Nat.lt_or_ge k m with h | h
          · have:=qgn HI.out h hq HP.out;omega
          · obtain rfl : k = m := by omega
            rw [HP.out] at hq;obtain rfl:=Option.some.inj hq;exact hpi
        case measure=>(first | (simp [intOf];done) | (simp [intOf];omega))
      · have e1:Hid (∃ v:Int,¬ v<0∧cmpI p.id id=v):=Lib.hid (by
          by_cases h:id<p.id
          · exact ⟨1,by omega,qli h⟩
          · exact ⟨0,by omega,qlj (by omega)⟩)
        obtain ⟨v,hv,e2⟩:=e1.out
        have e1:=Lib.hid (qq8 p id v e2)
        clear e2
        go_wp2_with ((go_at_call 136;refine (e1.out _).mono ?_;rintro e _ ⟨rfl,nx,rfl⟩))
        go_roundw
        case rel =>
          refine ⟨a,m,by omega,by omega,rfl,rfl,H1.out,?_,ext_of (by (try simp only [qc8]);repeat (first | exact Bel.refl _ | assumption | refine qch ?_ _ | refine qci ?_ _ | refine Bel.ext ?_ _ | refine Bel.alloc ?_ _ | refine Bel.drewN ?_ _))⟩
          intro k q hk hq
          rcases Nat.lt_or_ge m k with h | h
          · have:=qgn HI.out h HP.out hq;omega
          · obtain rfl : k = m := by omega
            rw [HP.out] at hq;obtain rfl:=Option.some.inj hq;omega
        case measure=>(first | (simp [intOf];done) | (simp [intOf];omega))
    · obtain rfl : a = b := by omega
      have HL:=Lib.hid (qgy hbl H1.out (fun p hp=>H2.out a p (Nat.le_refl _) hp))
      have HH:=Lib.hid (qh1 HI.out id)
      by_cases hal:a<l.length
      · obtain ⟨p, hp⟩ : ∃ p, l[a]? = some p := ⟨_, List.getElem?_eq_getElem hal⟩
        obtain ⟨b0,o,rfl,hb0⟩:=hs.at_ (by omega)
        obtain ⟨r0,r1,r2⟩:=qgl hs hp
        have HP:=Lib.hid hp;clear hp
        have hge:=H2.out a p (Nat.le_refl _) HP.out
        have hal2:(a:Int)<(l.length:Int):=by omega
        by_cases hpi:p.id=id
        · have e1 := Lib.hid (qq8 p id 0 (qlj hpi))
          have HB:Hid (hasB l id=true):=Lib.hid (by rw [HH.out,HL.out,HP.out];simpa using hpi)
          clear hpi
          go_wp2_with ((go_at_call 136;refine (e1.out _).mono ?_;rintro e _ ⟨rfl,nx,rfl⟩))
          go_ret2
          exact ⟨by rw [HL.out,HB.out];rfl,ext_of (by (try simp only [qc8]);repeat (first | exact Bel.refl _ | assumption | refine qch ?_ _ | refine qci ?_ _ | refine Bel.ext ?_ _ | refine Bel.alloc ?_ _ | refine Bel.drewN ?_ _))⟩
        · have e1 := Lib.hid (qq8 p id 1 (qli (by omega)))
          have HB:Hid (hasB l id=false):=Lib.hid (by rw [HH.out,HL.out,HP.out];simpa using hpi)
          clear hpi
          go_wp2_with ((go_at_call 136;refine (e1.out _).mono ?_;rintro e _ ⟨rfl,nx,rfl⟩))
          go_ret2
          exact ⟨by rw [HL.out,HB.out];rfl,ext_of (by (try simp only [qc8]);repeat (first | exact Bel.refl _ | assumption | refine qch ?_ _ | refine qci ?_ _ | refine Bel.ext ?_ _ | refine Bel.alloc ?_ _ | refine Bel.drewN ?_ _))⟩
      · have HB : Hid (hasB l id = false) := Lib.hid (by rw [HH.out, HL.out, List.getElem?_eq_none (by omega)])
        go_wp2
        go_ret2
        exact ⟨by rw [HL.out,HB.out];rfl,ext_of (by (try simp only [qc8]);repeat (first | exact Bel.refl _ | assumption | refine qch ?_ _ | refine qci ?_ _ | refine Bel.ext ?_ _ | refine Bel.alloc ?_ _ | refine Bel.drewN ?_ _))⟩
set_option maxHeartbeats 400000 in
theorem qqa (A:Option Addr) (c:Nat) (l:List Pt) (id:Int) (w:World) (hs:Sl w 3 A l.length c (vp l)) (hl:l.length≤1000000) (hinc:incB l=true) :
    Calls Tryz.prog 111 #[.agg #[.slice A l.length c],.int .i64 id] w fun e w'=>e=.returned (.tuple #[.int .i64 (lowB l id),.bool (hasB l id)])∧∃ x,w'=ext w x:=by
  have q:=Lib.hid (fun W hb=>qq9 A c l id W (hs.bel (w':=W) hb) hl hinc)
  clear hinc
  go_enter Tryz.func111,Tryz.ntmps111
  go_wp2_with ((go_at_call 135;refine (q.out _ (by (try simp only [qc8]);repeat (first | exact Bel.refl _ | assumption | refine qch ?_ _ | refine qci ?_ _ | refine Bel.ext ?_ _ | refine Bel.alloc ?_ _ | refine Bel.drewN ?_ _))).mono ?_;rintro e _ ⟨rfl,nx,rfl⟩))
  go_ret2
  exact ⟨rfl,ext_of (by (try simp only [qc8]);repeat (first | exact Bel.refl _ | assumption | refine qch ?_ _ | refine qci ?_ _ | refine Bel.ext ?_ _ | refine Bel.alloc ?_ _ | refine Bel.drewN ?_ _))⟩
def fieldPlace (l:List Pt) (id:Int):Int×Int:=if qgo l≠0 then (0,qgo l) else if hasB l id then ((lowB l id:Int),0) else (0,6)
set_option maxHeartbeats 1000000 in
theorem qqb (A:Option Addr) (c:Nat) (l:List Pt) (id:Int) (w:World) (hs:Sl w 3 A l.length c (vp l)) :
    Calls Tryz.prog 84 #[.agg #[.slice A l.length c],.int .i64 id] w fun e w'=>e=.returned (.tuple #[.int .i64 (fieldPlace l id).1,.int .i64 (fieldPlace l id).2])∧∃ x,w'=ext w x:=by
  have q1:=Lib.hid (fun W hb=>qlu A c l W (hs.bel (w':=W) hb))
  by_cases h0:qgo l=0
  · obtain ⟨h1, h2, h3⟩ := qgt h0
    have q2:=Lib.hid (fun W hb=>qqa A c l id W (hs.bel (w':=W) hb) (by omega) h3)
    cases hb:hasB l id with
    | true =>
      have H:Hid (fieldPlace l id=((lowB l id:Int),0)):=Lib.hid (by simp [fieldPlace,h0,hb])
      rw [h0] at q1
      rw [hb] at q2
      clear h0 h2 h3 hb
      go_enter Tryz.func84,Tryz.ntmps84
      go_wp2_with (first | (go_at_call 73;refine (q1.out _ (by (try simp only [qc8]);repeat (first | exact Bel.refl _ | assumption | refine qch ?_ _ | refine qci ?_ _ | refine Bel.ext ?_ _ | refine Bel.alloc ?_ _ | refine Bel.drewN ?_ _))).mono ?_;rintro e _ ⟨rfl,nx,rfl⟩) | (go_at_call 111;refine (q2.out _ (by (try simp only [qc8]);repeat (first | exact Bel.refl _ | assumption | refine qch ?_ _ | refine qci ?_ _ | refine Bel.ext ?_ _ | refine Bel.alloc ?_ _ | refine Bel.drewN ?_ _))).mono ?_;rintro e _ ⟨rfl,nx,rfl⟩))
      go_ret2
      exact ⟨by rw [H.out];rfl,ext_of (by (try simp only [qc8]);repeat (first | exact Bel.refl _ | assumption | refine qch ?_ _ | refine qci ?_ _ | refine Bel.ext ?_ _ | refine Bel.alloc ?_ _ | refine Bel.drewN ?_ _))⟩
    | false =>
      have H:Hid (fieldPlace l id=(0,6)):=Lib.hid (by simp [fieldPlace,h0,hb])
      rw [h0] at q1
      rw [hb] at q2
      clear h0 h2 h3 hb
      go_enter Tryz.func84,Tryz.ntmps84
      go_wp2_with (first | (go_at_call 73;refine (q1.out _ (by (try simp only [qc8]);repeat (first | exact Bel.refl _ | assumption | refine qch ?_ _ | refine qci ?_ _ | refine Bel.ext ?_ _ | refine Bel.alloc ?_ _ | refine Bel.drewN ?_ _))).mono ?_;rintro e _ ⟨rfl,nx,rfl⟩) | (go_at_call 111;refine (q2.out _ (by (try simp only [qc8]);repeat (first | exact Bel.refl _ | assumption | refine qch ?_ _ | refine qci ?_ _ | refine Bel.ext ?_ _ | refine Bel.alloc ?_ _ | refine Bel.drewN ?_ _))).mono ?_;rintro e _ ⟨rfl,nx,rfl⟩))
      go_ret2
      exact ⟨by rw [H.out];rfl,ext_of (by (try simp only [qc8]);repeat (first | exact Bel.refl _ | assumption | refine qch ?_ _ | refine qci ?_ _ | refine Bel.ext ?_ _ | refine Bel.alloc ?_ _ | refine Bel.drewN ?_ _))⟩
  · have H : Hid (fieldPlace l id = (0, qgo l)) := Lib.hid (by simp [fieldPlace, h0])
    have hz:(qgo l == 0)=false:=by simpa using h0
    have hz':(qgo l != 0)=true:=by simpa using h0
    clear h0
    go_enter Tryz.func84,Tryz.ntmps84
    go_wp2_with ((go_at_call 73;refine (q1.out _ (by (try simp only [qc8]);repeat (first | exact Bel.refl _ | assumption | refine qch ?_ _ | refine qci ?_ _ | refine Bel.ext ?_ _ | refine Bel.alloc ?_ _ | refine Bel.drewN ?_ _))).mono ?_;rintro e _ ⟨rfl,nx,rfl⟩))
    go_ret2
    exact ⟨by rw [H.out];rfl,ext_of (by (try simp only [qc8]);repeat (first | exact Bel.refl _ | assumption | refine qch ?_ _ | refine qci ?_ _ | refine Bel.ext ?_ _ | refine Bel.alloc ?_ _ | refine Bel.drewN ?_ _))⟩
end Go.Proofs.YtbjpmdhdoggobaaGreat

namespace Go.Proofs.YtbjpmdhdoggobaaGreat
open Go.RowKit Go.Pel Go.IntWalk
set_option maxRecDepth 10000 in
set_option maxHeartbeats 1000000 in
theorem qqc (A:Option Addr) (c:Nat) (l:List Pt) (w:World) (hs:Sl w 3 A l.length c (vp l)) (hn:A=none→c=0) (hl:l.length≤1000000) :
    Calls Tryz.prog 74 #[.slice A l.length c] w fun e w'=>∃ A' c',e=.returned (.slice A' l.length c')∧∃ x,w'=ext w x∧Own (ext w x) w.heap.size 72 3 A' l.length c' (vp l):=by
  have hnil:=fun W n c n' c'=>Lib.run_eql_slice_nil (P:=Tryz.prog) W 22 72 A n c n' c' Tryz.underlying22
  cases A with
  | none =>
    obtain rfl:=hn rfl
    obtain rfl:l=[]:=by
      cases l with
      | nil=>rfl
      | cons p l=>obtain ⟨b,o,h,_⟩:=hs.at_ (by simp);cases h
    go_enter Tryz.func74,Tryz.ntmps74
    go_wp2
    go_ret
    exact ⟨none,0,rfl,qge _ _ _ _⟩
  | some a =>
    go_enter Tryz.func74,Tryz.ntmps74
    go_wp2_with ((at_builtin;(try refine qg1 rfl (by first | rfl | simp [yielded]) ?_);refine qg3 qm7 (by (try simp only [qc8]);repeat (first | exact Bel.refl _ | assumption | refine qch ?_ _ | refine qci ?_ _ | refine Bel.ext ?_ _ | refine Bel.alloc ?_ _ | refine Bel.drewN ?_ _)) (hs) (by (try simp only [qc8]);repeat (first | exact Bel.refl _ | assumption | refine qch ?_ _ | refine qci ?_ _ | refine Bel.ext ?_ _ | refine Bel.alloc ?_ _ | refine Bel.drewN ?_ _)) (qgh _) (hn) (by omega) rfl _ _ rfl rfl rfl (by simp [go_sem]) ?_;rintro A1 c1 y1 hown1))
    go_ret
    exact ⟨_,_,rfl,qfi (by (try simp only [qc8]);repeat (first | exact Bel.refl _ | assumption | refine qch ?_ _ | refine qci ?_ _ | refine Bel.ext ?_ _ | refine Bel.alloc ?_ _ | refine Bel.drewN ?_ _)) (qg0 (by simp [go_sem]) hown1 (by simp [go_sem])) (Bel.refl _) (by simp [go_sem])⟩
end Go.Proofs.YtbjpmdhdoggobaaGreat

namespace Go.Proofs.YtbjpmdhdoggobaaGreat
open Go.RowKit Go.Pel Go.IntWalk
end Go.Proofs.YtbjpmdhdoggobaaGreat

namespace Go.Proofs.YtbjpmdhdoggobaaGreat
open Go.RowKit Go.Pel Go.IntWalk
theorem qqh {l:List Pt} {id:Int} (h:(fieldPlace l id).2=0):qgo l=0∧hasB l id=true∧(fieldPlace l id).1=lowB l id:=by
  unfold fieldPlace at h ⊢
  by_cases h0:qgo l=0
  · cases hb : hasB l id
    · simp [h0,hb] at h
    · simp [h0]
  · rw [if_pos h0] at h;exact absurd h h0
theorem qqi (l:List Pt) (id:Int):qh6 l id=if (fieldPlace l id).2=0 then (l.getD (lowB l id) Pt.zero,0) else (Pt.zero,(fieldPlace l id).2):=by
  unfold qh6 fieldPlace
  by_cases h0:qgo l=0
  · cases hb:hasB l id<;>simp [h0]
  · simp [h0]
set_option maxRecDepth 10000 in
set_option maxHeartbeats 2000000 in
theorem qqk (A:Option Addr) (c:Nat) (l:List Pt) (id:Int) (w:World) (hs:Sl w 3 A l.length c (vp l)) :
    Calls Tryz.prog 58 #[.agg #[.slice A l.length c],.int .i64 id] w fun e w'=>e=.returned (.tuple #[.agg #[.int .i64 (qh6 l id).1.id,.int .i64 (qh6 l id).1.a,.int .i64 (qh6 l id).1.b],.int .i64 (qh6 l id).2])∧∃ x,w'=ext w x:=by
  have q:=Lib.hid (fun W hb=>qqb A c l id W (hs.bel (w':=W) hb))
  by_cases h:(fieldPlace l id).2=0
  · obtain ⟨h1, h2, h3⟩ := qqh h
    obtain ⟨h64,hchk,hinc⟩:=qgt h1
    obtain ⟨h4,p,hp,h5⟩:=qh5 hinc h2
    have HF:Hid (qh6 l id=(p,0)):=Lib.hid (by rw [qqi,if_pos h,List.getD_eq_getElem?_getD,hp];rfl)
    have hlt:lowB l id<l.length:=(List.getElem?_eq_some_iff.1 hp).1
    rw [h3,h] at q
    obtain ⟨k,hk⟩:∃ k,lowB l id=k:=⟨_,rfl⟩
    rw [hk] at q hp hlt
    obtain ⟨b,o,rfl,hb⟩:=hs.at_ (by omega)
    obtain ⟨r0,r1,r2⟩:=qgl hs hp
    have hlt':(k:Int)<(l.length:Int):=by omega
    clear h h1 h2 h3 hk h4 h5 hchk hinc hp
    go_enter Tryz.func58,Tryz.ntmps58
    go_wp2_with ((go_at_call 84;refine (q.out _ (by (try simp only [qc8]);repeat (first | exact Bel.refl _ | assumption | refine qch ?_ _ | refine qci ?_ _ | refine Bel.ext ?_ _ | refine Bel.alloc ?_ _ | refine Bel.drewN ?_ _))).mono ?_;rintro e _ ⟨rfl,nx,rfl⟩))
    exact bodyPost_ret (v:=.tuple #[.agg #[.int .i64 p.id,.int .i64 p.a,.int .i64 p.b],.int .i64 0]) (by simp [results,Tryz.results58,go_sem]) rfl ⟨by rw [HF.out],ext_of (by (try simp only [qc8]);repeat (first | exact Bel.refl _ | assumption | refine qch ?_ _ | refine qci ?_ _ | refine Bel.ext ?_ _ | refine Bel.alloc ?_ _ | refine Bel.drewN ?_ _))⟩
  · have HF : Hid (qh6 l id = (Pt.zero, (fieldPlace l id).2)) := Lib.hid (by rw [qqi, if_neg h])
    have hz:((fieldPlace l id).2 == 0)=false:=by simpa using h
    have hz':((fieldPlace l id).2 != 0)=true:=by simpa using h
    clear h
    go_enter Tryz.func58,Tryz.ntmps58
    go_wp2_with ((go_at_call 84;refine (q.out _ (by (try simp only [qc8]);repeat (first | exact Bel.refl _ | assumption | refine qch ?_ _ | refine qci ?_ _ | refine Bel.ext ?_ _ | refine Bel.alloc ?_ _ | refine Bel.drewN ?_ _))).mono ?_;rintro e _ ⟨rfl,nx,rfl⟩))
    exact bodyPost_ret (v:=.tuple #[.agg #[.int .i64 0,.int .i64 0,.int .i64 0],.int .i64 (fieldPlace l id).2]) (by simp [results,Tryz.results58,go_sem]) rfl ⟨by (rw [HF.out];rfl),ext_of (by (try simp only [qc8]);repeat (first | exact Bel.refl _ | assumption | refine qch ?_ _ | refine qci ?_ _ | refine Bel.ext ?_ _ | refine Bel.alloc ?_ _ | refine Bel.drewN ?_ _))⟩
end Go.Proofs.YtbjpmdhdoggobaaGreat

namespace Go.Proofs
open Go.Shelf
def Tryz.laysSort_ren:Go.Shelf.Ren:=⟨fun | 6=>75 | 15=>66 | 14=>105 | 28=>100 | 29=>101 | 20=>125 | 21=>126 | 22=>127 | 23=>128 | 24=>129 | 25=>130 | 26=>131 | 27=>132 | 46=>139 | 47=>120 | 48=>121 | 49=>140 | 50=>141 | 57=>143 | n=>n,fun | 22=>22 | 24=>72 | 25=>121 | 3=>3 | 39=>108 | 0=>0 | 53=>145 | 55=>84 | 4=>4 | 46=>138 | 45=>137 | 50=>142 | 5=>5 | 9=>9 | 66=>164 | 70=>168 | 76=>180 | 77=>42 | n=>n,fun | n=>n⟩
theorem Tryz.laysSort:Go.Proofs.SlLaysF0.n6 Tryz.prog Tryz.laysSort_ren:={
  mixed:=by kernel_rfl
  f6:=⟨Tryz.f75.name,by decide,Tryz.func75.trans (congrArg some (by kernel_rfl))⟩
  f14:=⟨Tryz.f105.name,by decide,Tryz.func105.trans (congrArg some (by kernel_rfl))⟩
  f15:=Tryz.func66.trans (congrArg some (by kernel_rfl))
  f20:=⟨Tryz.f125.name,by decide,Tryz.func125.trans (congrArg some (by kernel_rfl))⟩
  f21:=⟨Tryz.f126.name,by decide,Tryz.func126.trans (congrArg some (by kernel_rfl))⟩
  f22:=⟨Tryz.f127.name,by decide,Tryz.func127.trans (congrArg some (by kernel_rfl))⟩
  f23:=⟨Tryz.f128.name,by decide,Tryz.func128.trans (congrArg some (by kernel_rfl))⟩
  f24:=⟨Tryz.f129.name,by decide,Tryz.func129.trans (congrArg some (by kernel_rfl))⟩
  f25:=⟨Tryz.f130.name,by decide,Tryz.func130.trans (congrArg some (by kernel_rfl))⟩
  f26:=⟨Tryz.f131.name,by decide,Tryz.func131.trans (congrArg some (by kernel_rfl))⟩
  f27:=⟨Tryz.f132.name,by decide,Tryz.func132.trans (congrArg some (by kernel_rfl))⟩
  f28:=Tryz.func100.trans (congrArg some (by kernel_rfl))
  f29:=Tryz.func101.trans (congrArg some (by kernel_rfl))
  f46:=⟨Tryz.f139.name,by decide,Tryz.func139.trans (congrArg some (by kernel_rfl))⟩
  f47:=Tryz.func120.trans (congrArg some (by kernel_rfl))
  f48:=Tryz.func121.trans (congrArg some (by kernel_rfl))
  f49:=⟨Tryz.f140.name,by decide,Tryz.func140.trans (congrArg some (by kernel_rfl))⟩
  f50:=⟨Tryz.f141.name,by decide,Tryz.func141.trans (congrArg some (by kernel_rfl))⟩
  f57:=⟨Tryz.f143.name,by decide,Tryz.func143.trans (congrArg some (by kernel_rfl))⟩
  t0:=Tryz.underlying0
  a0:=Tryz.isAgg0
  z0:=Tryz.sizeOf0
  v0:=Tryz.zeroValue0
  t3:=Tryz.underlying3
  a3:=Tryz.isAgg3
  z3:=Tryz.sizeOf3
  v3:=Tryz.zeroValue3
  t4:=Tryz.underlying4
  a4:=Tryz.isAgg4
  z4:=Tryz.sizeOf4
  v4:=Tryz.zeroValue4
  t5:=Tryz.underlying5
  a5:=Tryz.isAgg5
  z5:=Tryz.sizeOf5
  v5:=Tryz.zeroValue5
  t9:=Tryz.underlying9
  a9:=Tryz.isAgg9
  z9:=Tryz.sizeOf9
  v9:=Tryz.zeroValue9
  t22:=Tryz.underlying22
  a22:=Tryz.isAgg22
  z22:=Tryz.sizeOf22
  v22:=Tryz.zeroValue22
  t25:=Tryz.underlying121
  a25:=Tryz.isAgg121
  z25:=Tryz.sizeOf121
  v25:=Tryz.zeroValue121
  t39:=Tryz.underlying108
  a39:=Tryz.isAgg108
  z39:=Tryz.sizeOf108
  v39:=Tryz.zeroValue108
  t45:=Tryz.underlying137
  a45:=Tryz.isAgg137
  z45:=Tryz.sizeOf137
  v45:=Tryz.zeroValue137
  t46:=Tryz.underlying138
  a46:=Tryz.isAgg138
  z46:=Tryz.sizeOf138
  v46:=Tryz.zeroValue138
  t50:=Tryz.underlying142
  a50:=Tryz.isAgg142
  z50:=Tryz.sizeOf142
  v50:=Tryz.zeroValue142
  t53:=Tryz.underlying145
  a53:=Tryz.isAgg145
  z53:=Tryz.sizeOf145
  v53:=Tryz.zeroValue145
  t55:=Tryz.underlying84
  a55:=Tryz.isAgg84
  z55:=Tryz.sizeOf84
  v55:=Tryz.zeroValue84
  t66:=Tryz.underlying164
  a66:=Tryz.isAgg164
  z66:=Tryz.sizeOf164
  v66:=Tryz.zeroValue164
  t70:=Tryz.underlying168
  a70:=Tryz.isAgg168
  z70:=Tryz.sizeOf168
  v70:=Tryz.zeroValue168
  t76:=Tryz.underlying180
  a76:=Tryz.isAgg180
  z76:=Tryz.sizeOf180
  v76:=Tryz.zeroValue180
  t77:=Tryz.underlying42
  a77:=Tryz.isAgg42
  z77:=Tryz.sizeOf42
  v77:=Tryz.zeroValue42 }
end Go.Proofs

namespace Go.Pel
open Go.Sort Go.Proofs
def qql (p:Pt) (n d:Int):Int:=p.a*d+p.b*n
theorem qqm (p q:Pt) (n d:Int):farD p q n d=qql p n d - qql q n d:=by
  unfold farD qql;rw [Int.sub_mul,Int.sub_mul];omega
theorem qqn (p q:Pt) (n d:Int):leads p q n d=true↔qql q n d<qql p n d∨(qql q n d=qql p n d∧(q.b<p.b∨(q.b=p.b∧p.id<q.id))):=by
  unfold leads
  rw [qqm]
  by_cases h:qql p n d - qql q n d≠0
  · rw [if_pos h];simp;omega
  · rw [if_neg h]
    by_cases h2:p.b≠q.b
    · rw [if_pos h2];simp;omega
    · rw [if_neg h2];simp;omega
def cfP (n d:Int) (p q:Pt):Int:=if p.id=q.id then 0 else if leads p q n d then -1 else 1
theorem qqo (n d:Int) (p q:Pt):ltOf (cfP n d) p q=true↔p.id≠q.id∧leads p q n d=true:=by
  unfold ltOf cfP
  by_cases h:p.id=q.id
  · rw [if_pos h];simp [h]
  · rw [if_neg h]
    by_cases h2:leads p q n d=true
    · rw [if_pos h2];simp [h,h2]
    · rw [if_neg h2];simp [h2]
def cfL (n d:Int) (l:List Pt) (x y:{p:Pt // p∈l}):Int:=cfP n d x.1 y.1
theorem qqp (n d:Int) (l:List Pt) (x y:{p:Pt // p∈l}):ltOf (cfL n d l) x y=true↔x.1.id≠y.1.id∧leads x.1 y.1 n d=true:=qqo n d x.1 y.1
def qqq (l:List Pt):Prop:=∀ p∈l,∀ q∈l,p.id=q.id→p=q
theorem nlt {n d:Int} {p q:Pt} (h:leads p q n d=false):¬ (qql q n d<qql p n d∨(qql q n d=qql p n d∧(q.b<p.b∨(q.b=p.b∧p.id<q.id)))):=by
  rw [← qqn,h];decide
theorem qqr {n d:Int} {l:List Pt} (hi:qqq l):SWO (ltOf (cfL n d l)):=by
  have F:∀ x y,ltOf (cfL n d l) x y=false↔(x=y∨(x.1.id≠y.1.id∧leads x.1 y.1 n d=false)):=by
    intro x y
    rw [← Bool.not_eq_true,qqp]
    constructor
    · intro h
      by_cases he:x.1.id=y.1.id
      · exact .inl (Subtype.ext (hi _ x.2 _ y.2 he))
      · exact .inr ⟨he,by simpa [he] using h⟩
    · rintro (rfl | ⟨h1, h2⟩)
      · simp
      · simp [h2]
  constructor
  · intro x;exact (F x x).2 (.inl rfl)
  · intro x y z h1 h2
    rw [qqp,qqn] at h1 h2 ⊢
    refine ⟨?_,by omega⟩
    intro h
    obtain rfl:x=z:=Subtype.ext (hi _ x.2 _ z.2 h)
    omega
  · intro x y z h1 h2
    rw [F] at h1 h2 ⊢
    rcases h1 with rfl | ⟨h1,k1⟩
    · exact h2
    rcases h2 with rfl | ⟨h2,k2⟩
    · exact .inr ⟨h1,k1⟩
    have k1:=nlt k1
    have k2:=nlt k2
    by_cases hne:x.1.id=z.1.id
    · exact .inl (Subtype.ext (hi _ x.2 _ z.2 hne))
    refine .inr ⟨hne,?_⟩
    rw [← Bool.not_eq_true,qqn]
    omega
theorem qqs {n d:Int} {l:List Pt} (hi:qqq l) (x y:{p:Pt // p∈l}) (h1:ltOf (cfL n d l) x y=false) (h2:ltOf (cfL n d l) y x=false):x=y:=by
  rw [← Bool.not_eq_true,qqp] at h1 h2
  by_cases he:x.1.id=y.1.id
  · exact Subtype.ext (hi _ x.2 _ y.2 he)
  · exfalso
    have h1':leads x.1 y.1 n d=false:=by simpa [he] using h1
    have h2':leads y.1 x.1 n d=false:=by simpa [Ne.symm he] using h2
    have:=nlt h1'
    have:=nlt h2'
    omega
def qqt (n d:Int) (l:List Pt):List Pt:=((l.attach.mergeSort fun x y=>!(ltOf (cfL n d l)) y x)).map Subtype.val
theorem qqu (n d:Int) (l:List Pt):(qqt n d l).Perm l:=by
  unfold qqt
  have:=(List.mergeSort_perm l.attach (fun x y=>!(ltOf (cfL n d l)) y x)).map Subtype.val
  simpa [List.attach_map_subtype_val] using this
theorem qqv (n d:Int) (l:List Pt):(qqt n d l).length=l.length:=(qqu n d l).length_eq
theorem qqw {n d:Int} {l:List Pt} (hi:qqq l) (hn:(l.map Pt.id).Nodup):(qqt n d l).Pairwise fun p q=>leads p q n d=true:=by
  have hO:=qqr (n:=n) (d:=d) hi
  have h1:(l.attach.mergeSort fun x y=>!(ltOf (cfL n d l)) y x).Pairwise fun x y=>(!(ltOf (cfL n d l)) y x)=true:=by
    apply List.pairwise_mergeSort
    · intro a b c h1 h2
      simp only [Bool.not_eq_true',] at h1 h2 ⊢
      exact hO.ntrans _ _ _ h2 h1
    · intro a b
      simp only [Bool.or_eq_true,Bool.not_eq_true']
      by_cases h:ltOf (cfL n d l) b a=true
      · right
        rcases hq:ltOf (cfL n d l) a b with _ | _
        · rfl
        · have:=hO.trans _ _ _ h hq;rw [hO.irrefl] at this;exact absurd this (by decide)
      · left;simpa using h
  have h2:(qqt n d l).Pairwise fun p q=>p.id≠q.id:=by
    have:=((qqu n d l).map Pt.id).nodup_iff.2 hn
    exact List.pairwise_map.1 this
  have h3:(qqt n d l).Pairwise fun p q=>¬ (q.id≠p.id∧leads q p n d=true):=by
    unfold qqt
    rw [List.pairwise_map]
    refine h1.imp ?_
    intro a b h
    rw [← qqp]
    simpa using h
  refine (h2.and h3).imp ?_
  rintro p q ⟨h,h'⟩
  have h4:leads q p n d=false:=by simpa [Ne.symm h] using h'
  have:=nlt h4
  rw [qqn]
  omega
end Go.Pel

namespace Go.Proofs.YtbjpmdhdoggobaaGreat
open Go.RowKit Go.Pel
set_option maxRecDepth 10000 in
set_option maxHeartbeats 2000000 in
theorem qqx (p q:Pt) (n d:Int) (rb:Nat) (w:World) (hn:-9223372036854775808≤n∧n≤9223372036854775807) (hd:-9223372036854775808≤d∧d≤9223372036854775807) (r0:Held w rb 0 (.int .i64 n)) (r1:Held w rb 1 (.int .i64 d)) (ht:p.id≠q.id→ql6 p q n d=0) :
    Calls Tryz.prog 76 #[.agg #[.int .i64 p.id,.int .i64 p.a,.int .i64 p.b],.agg #[.int .i64 q.id,.int .i64 q.a,.int .i64 q.b],.pointer (some ⟨rb,0,none⟩)] w fun e w'=>e=.returned (.int .i64 (cfP n d p q))∧∃ x,w'=ext w x:=by
  have hb:=r0.lt
  have c0:=r0.eq
  have c1:=r1.eq
  have q1:=Lib.hid (fun W=>qly p q n d W hn hd)
  clear hn hd r0 r1
  by_cases h:p.id=q.id
  · have HV := Lib.hid (show (0 : Int) = cfP n d p q from (if_pos h).symm)
    clear ht q1
    go_enter Tryz.func76,Tryz.ntmps76
    go_wp2
    (go_ret;exact ⟨qka (by exact HV.out),ext_of (by (try simp only [qc8]);repeat (first | exact Bel.refl _ | assumption | refine qch ?_ _ | refine qci ?_ _ | refine Bel.ext ?_ _ | refine Bel.alloc ?_ _ | refine Bel.drewN ?_ _))⟩)
  · have HA : qlb p q n d = (leads p q n d, 0) := if_pos (ht h)
    rw [HA] at q1
    clear ht HA
    rcases hL:leads p q n d with _ | _
    · have HV := Lib.hid (show (1 : Int) = cfP n d p q by unfold cfP; rw [if_neg h, hL]; rfl)
      rw [hL] at q1
      clear hL
      go_enter Tryz.func76,Tryz.ntmps76
      go_wp2_with ((go_at_call 77;(with_reducible refine (q1.out _).mono ?_);rintro e _ ⟨rfl,nx,rfl⟩))
      (go_ret;exact ⟨qka (by exact HV.out),ext_of (by (try simp only [qc8]);repeat (first | exact Bel.refl _ | assumption | refine qch ?_ _ | refine qci ?_ _ | refine Bel.ext ?_ _ | refine Bel.alloc ?_ _ | refine Bel.drewN ?_ _))⟩)
    · have HV := Lib.hid (show (-1 : Int) = cfP n d p q by unfold cfP; rw [if_neg h, hL]; rfl)
      rw [hL] at q1
      clear hL
      go_enter Tryz.func76,Tryz.ntmps76
      go_wp2_with ((go_at_call 77;(with_reducible refine (q1.out _).mono ?_);rintro e _ ⟨rfl,nx,rfl⟩))
      (go_ret;exact ⟨qka (by exact HV.out),ext_of (by (try simp only [qc8]);repeat (first | exact Bel.refl _ | assumption | refine qch ?_ _ | refine qci ?_ _ | refine Bel.ext ?_ _ | refine Bel.alloc ?_ _ | refine Bel.drewN ?_ _))⟩)
end Go.Proofs.YtbjpmdhdoggobaaGreat

namespace Go
open RowKit Go.Sort Go.Proofs Go.Shelf
theorem qqy {α:Type} [Inhabited α] (enc:α→List Value) (k:Nat) (hk:∀ x,(enc x).length=k):∀ (l:List α),(flatK enc k l.toArray).toList=l.flatMap enc:=by
  intro l
  have key:∀ (l:List α) (t:Nat),t<l.length*k→(l.flatMap enc)[t]?=some ((enc l[t / k]!)[t % k]!):=by
    intro l
    induction l with
    | nil=>intro t ht;simp at ht
    | cons a r ih =>
      intro t ht
      have k0:0<k:=by
        rcases Nat.eq_zero_or_pos k with h | h
        · subst h;simp at ht
        · exact h
      rw [List.flatMap_cons]
      by_cases hlt:t<k
      · rw [List.getElem?_append_left (by rw [hk]; exact hlt), Nat.div_eq_of_lt hlt, Nat.mod_eq_of_lt hlt]
        have:t<(enc a).length:=by rw [hk];exact hlt
        simp [this]
      · rw [List.getElem?_append_right (by rw [hk]; omega), hk]
        have h2:t - k<r.length*k:=by
          rw [List.length_cons,Nat.add_mul,Nat.one_mul] at ht;omega
        rw [ih (t - k) h2]
        have e1:t / k=(t - k) / k+1:=by
          have:=Nat.div_eq_sub_div k0 (by omega:k≤t)
          omega
        have e2:t % k=(t - k) % k:=Nat.mod_eq_sub_mod (by omega)
        rw [e1,e2]
        simp
  have hlen:(l.flatMap enc).length=l.length*k:=by
    induction l with
    | nil=>simp
    | cons a r ih=>rw [List.flatMap_cons,List.length_append,ih,hk,List.length_cons,Nat.add_mul,Nat.one_mul];omega
  apply List.ext_getElem?
  intro t
  by_cases ht:t<l.length*k
  · rw [key l t ht]
    simp [flatK,ht]
  · rw [List.getElem?_eq_none (by simp [flatK];omega),List.getElem?_eq_none (by rw [hlen];omega)]
theorem qqz {w:World} {base g cap size:Nat} {e:TypeId} {cur:List Value} (h:Row w base e size g cap cur) (q:Nat) (F:Array Value) (hF:F.size≤cur.length):Row (putRow id (Sort.ahead w q) g 0 F) base e size g cap (F.toList++cur.drop F.size):=by
  refine ⟨h.1,?_,h.2.2.1,?_⟩
  · have:putCells id 0 F cur.toArray=(F.toList++cur.drop F.size).toArray:=by
      apply Array.ext_getElem?
      intro k
      simp only [putCells,Array.getElem?_mapIdx,List.getElem?_toArray]
      by_cases hk:k<F.size
      · rw [List.getElem?_append_left (by simpa using hk)]
        have:k<cur.length:=by omega
        simp [this,hk]
      · rw [List.getElem?_append_right (by simpa using hk)]
        simp [hk,show F.size+(k - F.size)=k by omega]
    unfold putRow mapBlock Sort.ahead
    simp [Array.getElem?_modify,h.2.1,onCells,this]
  · rw [List.length_append,List.length_drop,← h.len];simp;omega
theorem qr0 (g:Nat) (w:World) (q off:Nat) (F:Array Value):Apart g w (putRow id (Sort.ahead w q) g off F) :=
  ⟨rfl,rfl,rfl,by simp [putRow,mapBlock,Sort.ahead],by simp [putRow,mapBlock,Sort.ahead],fun b hb=>by simp [putRow,mapBlock,Sort.ahead,Array.getElem?_modify,Ne.symm hb]⟩
theorem qr1 (w:World) (os:Array Obj):Bel w (grow w os) :=
  ⟨⟨rfl,rfl,rfl,by simp [grow],fun k hk=>by simp only [grow];rw [Array.getElem?_append_left hk]⟩,Nat.le_refl _⟩
theorem qr2 (w:World) (x:Beyond):ext w x=grow (w.drewN x.drawn) x.objs:=by
  unfold ext grow World.drewN;rfl
end Go
namespace Go.Proofs.YtbjpmdhdoggobaaGreat
open Go.RowKit Go.Pel Go.Sort Go.Shelf
def encL (l:List Pt) (x:{p:Pt // p∈l}):List Value:=x.1.cells
theorem qr3 (l:List Pt) (m:List {p:Pt // p∈l}):m.flatMap (encL l)=vp (m.map Subtype.val):=by
  unfold vp encL;rw [List.flatMap_map]
set_option maxRecDepth 10000 in
set_option maxHeartbeats 1000000 in
theorem qr4 (A:Option Addr) (c:Nat) (l:List Pt) (n d:Int) (rb B:Nat) (wB w:World) (hs:Own w B 72 3 A l.length c (vp l)) (hb:Bel wB w) (hB:wB.heap.size≤B) (hrb:rb<B)
    (r0:Held w rb 0 (.int .i64 n)) (r1:Held w rb 1 (.int .i64 d)) (hn:-9223372036854775808≤n∧n≤9223372036854775807) (hd:-9223372036854775808≤d∧d≤9223372036854775807) (hl:l.length≤1000000) (hi:qqq l) (ht:∀ p∈l,∀ q∈l,p.id≠q.id→ql6 p q n d=0) :
    Calls Tryz.prog 75 #[.slice A l.length c,.func (.func 76) #[] #[.pointer (some ⟨rb,0,none⟩)]] w fun e w'=>e=.returned (.tuple #[])∧∃ y,w'=ext wB y∧Own (ext wB y) B 72 3 A l.length c (vp (qqt n d l)):=by
  by_cases h0:l=[]
  · subst h0
    have hcon:=AnyF.slices_SortFunc_none Tryz.laysSort A c (.func (.func 76) #[] #[.pointer (some ⟨rb,0,none⟩)]) w
    refine Calls.mono hcon ?_
    rintro e w' ⟨rfl,rfl⟩
    refine ⟨rfl,qfu hb ?_ (Bel.refl _)⟩
    have e0:qqt n d []=[]:=List.eq_nil_of_length_eq_zero (qqv n d [])
    rw [e0];exact hs
  · rcases hs.row with ⟨rfl, hn, _⟩ | ⟨g, cur, rfl, hr, hnc, hcur⟩
    · exact absurd (List.eq_nil_of_length_eq_zero hn) h0
    have hg:=hr.1
    haveI:Inhabited {p:Pt // p∈l}:=⟨⟨l.head h0,List.head_mem h0⟩⟩
    have hcl:(vp l).length≤cur.length:=by rw [← hcur,List.length_take];omega
    have eg:∀ args w,(callFunc 76 args).run Tryz.prog w=.ok (.enter 76 args) w:=enters_of Tryz.func76 (by kernel_rfl) rfl
    have hk:∀ x,(encL l x).length=3:=fun _=>rfl
    have hflat:∀ m:List {p:Pt // p∈l},(flatK (encL l) 3 m.toArray).toList=vp (m.map Subtype.val):=fun m=>by rw [qqy _ _ hk,qr3]
    have hcmp:CmpLays Tryz.prog 76 #[.pointer (some ⟨rb,0,none⟩)] (encL l) 3 (cfL n d l) g 0 l.attach.toArray.size w:=by
      intro m os dk _ x y
      have hap:Apart g w (putRowK (encL l) 3 (Sort.ahead w m) g 0 dk):=qr0 g w m 0 _
      have hbg:Bel (putRowK (encL l) 3 (Sort.ahead w m) g 0 dk) (sortWorldK (encL l) 3 w g 0 m dk os):=qr1 _ os
      have h:=qqx x.1 y.1 n d rb (sortWorldK (encL l) 3 w g 0 m dk os) hn hd ((r0.apart hap (by omega)).bel hbg) ((r1.apart hap (by omega)).bel hbg) (ht _ x.2 _ y.2)
      refine Calls.mono h ?_
      rintro e w' ⟨rfl,z,rfl⟩
      exact ⟨rfl,z.drawn,z.objs,qr2 _ z⟩
    have hfl:(flatK (encL l) 3 l.attach.toArray)=(vp l).toArray:=by
      apply Array.toList_inj.1
      rw [hflat,List.attach_map_subtype_val]
    have hH:HoldsK (encL l) 3 w g 0 l.attach.toArray:=by
      unfold HoldsK
      rw [hfl]
      intro j hj
      have hj':j<(vp l).length:=by simpa using hj
      refine ⟨?_,hr.frozen _⟩
      rw [Nat.zero_add]
      refine hr.cell ?_
      have:cur[j]?=(vp l)[j]?:=by
        rw [← hcur,List.getElem?_take,if_pos]
        rw [qgi] at hj';exact hj'
      rw [this]
      simp [hj']
    have hcon:=AnyQ.slices_SortFunc_total Tryz.laysSort 3 Tryz.isAgg72 Tryz.sizeOf72 (encL l) hk (fun x v hv=>qgg x.1 v hv) (cfL n d l) (qqr hi) 76 #[.pointer (some ⟨rb,0,none⟩)] g 0 c l.attach.toArray w eg hcmp hH hr.lt (by simp;omega) (fun x y h1 h2=>qqs hi x y h1 h2)
    have hsz:l.attach.toArray.size=l.length:=by simp
    rw [hsz] at hcon
    refine Calls.mono hcon ?_
    rintro e w' ⟨rfl,m,os,rfl⟩
    refine ⟨rfl,?_⟩
    have hF:flatK (encL l) 3 (l.attach.mergeSort fun x y=>!(ltOf (cfL n d l)) y x).toArray=(vp (qqt n d l)).toArray:=by
      apply Array.toList_inj.1
      rw [hflat];rfl
    have hlen:(vp (qqt n d l)).length=l.length*3:=by rw [qgi,qqv]
    have hrow:=qqz hr m (vp (qqt n d l)).toArray (by rw [qgi] at hcl;simp;omega)
    have hap:Apart g w (putRow id (Sort.ahead w m) g 0 (vp (qqt n d l)).toArray):=qr0 g w m 0 _
    have hown:=hrow.own hnc
    have htk:List.take (l.length*3) ((vp (qqt n d l)).toArray.toList++List.drop (vp (qqt n d l)).toArray.size cur)=vp (qqt n d l):=by
      simp only [List.size_toArray]
      rw [List.take_append_of_le_length (by omega),← hlen,List.take_length]
    rw [htk] at hown
    unfold sortWorldK putRowK
    show ∃ y,grow (putRow id (Sort.ahead w m) g 0 (flatK (encL l) 3 (l.attach.mergeSort fun x y=>!(ltOf (cfL n d l)) y x).toArray)) os=ext wB y∧_
    rw [hF]
    exact qfu ((hap.bel hb (by omega)).trans (qr1 _ os)) hown (qr1 _ os)
end Go.Proofs.YtbjpmdhdoggobaaGreat

namespace Go.Pel
def qr5 (l:List Pt) (n d:Int):List Pt×Int:=if qgo l≠0 then ([],qgo l) else if qdm n d≠0 then ([],qdm n d) else (qqt n d l,0)
theorem qr6 {l:List Pt} (h:incB l=true):qqq l:=by
  intro p hp q hq he
  obtain ⟨i,hi⟩:=List.mem_iff_getElem?.1 hp
  obtain ⟨j,hj⟩:=List.mem_iff_getElem?.1 hq
  rcases (by omega:i<j∨j<i∨i=j) with k | k | k
  · have:=qgn h k hi hj;omega
  · have:=qgn h k hj hi;omega
  · subst k;rw [hi] at hj;exact Option.some.inj hj
end Go.Pel
namespace Go.Proofs.YtbjpmdhdoggobaaGreat
open Go.RowKit Go.Pel
set_option maxRecDepth 10000 in
set_option maxHeartbeats 2000000 in
theorem qr7 (A:Option Addr) (c:Nat) (l:List Pt) (n d:Int) (w:World) (hn:-9223372036854775808≤n∧n≤9223372036854775807) (hd:-9223372036854775808≤d∧d≤9223372036854775807) (hs:Sl w 3 A l.length c (vp l)) (hn0:A=none→c=0) :
    Calls Tryz.prog 55 #[.agg #[.slice A l.length c],.agg #[.int .i64 n,.int .i64 d]] w fun e w'=>∃ A' c',e=.returned (.tuple #[.slice A' (qr5 l n d).1.length c',.int .i64 (qr5 l n d).2])∧∃ x,w'=ext w x∧Own (ext w x) w.heap.size 72 3 A' (qr5 l n d).1.length c' (vp (qr5 l n d).1):=by
  have q:=Lib.hid (fun W hb=>qlu A c l W (hs.bel (w':=W) hb))
  have q2:=Lib.hid (fun W=>qkg n d W hn hd)
  by_cases h:qgo l=0
  · rw [h] at q
    obtain ⟨h64,hchk,hinc⟩:=qgt h
    by_cases h2:qdm n d=0
    · rw [h2] at q2
      have HF:Hid (qr5 l n d=(qqt n d l,0)):=Lib.hid (by unfold qr5;rw [if_neg (by simpa using h),if_neg (by simpa using h2)])
      have q3:=Lib.hid (fun W hb=>qqc A c l W (hs.bel (w':=W) hb) hn0 (by omega))
      have hia:=qr6 hinc
      have hap:∀ p∈l,∀ q∈l,p.id≠q.id→ql6 p q n d=0:=fun p hp q hq hne=>ql9 ⟨hchk p hp,hchk q hq,h2⟩ hne
      have q4:=Lib.hid (fun (A2:Option Addr) (c2 rb B:Nat) (W:World) (hs2:Own W B 72 3 A2 l.length c2 (vp l)) (hb:Bel w W) (hB:w.heap.size≤B) (hrb:rb<B) (r0:Held W rb 0 (.int .i64 n)) (r1:Held W rb 1 (.int .i64 d))=>qr4 A2 c2 l n d rb B w W hs2 hb hB hrb r0 r1 hn hd (by omega) hia hap)
      rw [HF.out]
      clear h h2 h64 hchk hinc hia hap hn hd HF
      have HL:=Lib.hid (qqv n d l)
      go_enter Tryz.func55,Tryz.ntmps55
      go_wp2_with (first | (go_at_call 73;refine (q.out _ (by (try simp only [qc8]);repeat (first | exact Bel.refl _ | assumption | refine qch ?_ _ | refine qci ?_ _ | refine Bel.ext ?_ _ | refine Bel.alloc ?_ _ | refine Bel.drewN ?_ _))).mono ?_;rintro e _ ⟨rfl,nx,rfl⟩) | (go_at_call 38;refine (q2.out _).mono ?_;rintro e _ ⟨rfl,nx,rfl⟩))
      refine (q3.out _ (by (try simp only [qc8]);repeat (first | exact Bel.refl _ | assumption | refine qch ?_ _ | refine qci ?_ _ | refine Bel.ext ?_ _ | refine Bel.alloc ?_ _ | refine Bel.drewN ?_ _))).mono ?_
      rintro e _ ⟨A2,c2,rfl,x2,rfl,own2⟩
      simp only [qc8] at own2 ⊢
      have own3:=own2.base_le (base':=w.heap.size+2) (by simp [go_sem])
      clear own2
      generalize hZ:((_:Beyond).and _).and x2=Z at own3 ⊢
      obtain ⟨W2,hW2⟩:∃ W2,ext ((w.alloc (.cells #[.slice A l.length c] 24)).alloc (.cells #[.int .i64 n,.int .i64 d] 26)) Z=W2:=⟨_,rfl⟩
      rw [hW2] at own3 ⊢
      have hb2:Bel w W2:=by rw [← hW2];exact (by (try simp only [qc8]);repeat (first | exact Bel.refl _ | assumption | refine qch ?_ _ | refine qci ?_ _ | refine Bel.ext ?_ _ | refine Bel.alloc ?_ _ | refine Bel.drewN ?_ _))
      have hb3:Bel ((w.alloc (.cells #[.slice A l.length c] 24)).alloc (.cells #[.int .i64 n,.int .i64 d] 26)) W2:=by rw [← hW2];exact q98 _ _
      have e1:(w.alloc (.cells #[.slice A l.length c] 24)).heap.size=w.heap.size+1:=by simp [go_sem]
      have r0:=Held.new (j:=0) hb3 rfl
      have r1:=Held.new (j:=1) hb3 rfl
      rw [e1] at r0 r1
      have q5:=q4.out A2 c2 (w.heap.size+1) (w.heap.size+2) W2 own3 hb2 (by omega) (by omega) r0 r1
      clear hW2 hZ q4 q3 q2 q r0 r1 hb3 own3
      go_wp2_with (go_at_call 75;refine q5.mono ?_;rintro e _ ⟨rfl,y,rfl,own4⟩)
      go_ret2
      refine ⟨A2,c2,?_,y,rfl,?_⟩
      · rw [HL.out];rfl
      · rw [HL.out];exact own4.base_le (by omega)
    · rw [show qr5 l n d = ([], qdm n d) by unfold qr5; rw [if_neg (by simpa using h), if_pos h2]]
      have h2':(qdm n d != 0)=true:=by simpa using h2
      clear h h64 hchk hinc h2 hn hd
      go_enter Tryz.func55,Tryz.ntmps55
      go_wp2_with (first | (go_at_call 73;refine (q.out _ (by (try simp only [qc8]);repeat (first | exact Bel.refl _ | assumption | refine qch ?_ _ | refine qci ?_ _ | refine Bel.ext ?_ _ | refine Bel.alloc ?_ _ | refine Bel.drewN ?_ _))).mono ?_;rintro e _ ⟨rfl,nx,rfl⟩) | (go_at_call 38;refine (q2.out _).mono ?_;rintro e _ ⟨rfl,nx,rfl⟩))
      go_ret2
      exact ⟨none,0,rfl,qfu (by (try simp only [qc8]);repeat (first | exact Bel.refl _ | assumption | refine qch ?_ _ | refine qci ?_ _ | refine Bel.ext ?_ _ | refine Bel.alloc ?_ _ | refine Bel.drewN ?_ _)) (Own.nil_ _ _ _ _) (Bel.refl _)⟩
  · rw [show qr5 l n d = ([], qgo l) by unfold qr5; rw [if_pos h]]
    have h':(qgo l != 0)=true:=by simpa using h
    clear h hn hd
    go_enter Tryz.func55,Tryz.ntmps55
    go_wp2_with (first | (go_at_call 73;refine (q.out _ (by (try simp only [qc8]);repeat (first | exact Bel.refl _ | assumption | refine qch ?_ _ | refine qci ?_ _ | refine Bel.ext ?_ _ | refine Bel.alloc ?_ _ | refine Bel.drewN ?_ _))).mono ?_;rintro e _ ⟨rfl,nx,rfl⟩))
    go_ret2
    exact ⟨none,0,rfl,qfu (by (try simp only [qc8]);repeat (first | exact Bel.refl _ | assumption | refine qch ?_ _ | refine qci ?_ _ | refine Bel.ext ?_ _ | refine Bel.alloc ?_ _ | refine Bel.drewN ?_ _)) (Own.nil_ _ _ _ _) (Bel.refl _)⟩
end Go.Proofs.YtbjpmdhdoggobaaGreat

namespace Go.Pel
end Go.Pel
namespace Go.Proofs.YtbjpmdhdoggobaaGreat
open Go.RowKit Go.Pel
end Go.Proofs.YtbjpmdhdoggobaaGreat

namespace Go.Pel
open Go
def qr9 (l:List Pt) (n d:Int):List Int×Int:=if (qr5 l n d).2≠0 then ([],(qr5 l n d).2) else ((qr5 l n d).1.map Pt.id,0)
def qra (m:List Pt) (k:Nat):List Value:=vi ((m.take k).map Pt.id)++List.replicate (m.length - k) (.int .i64 0)
theorem qrb {m:List Pt} {k:Nat} {p:Pt} (h:m[k]?=some p):(qra m k).set k (.int .i64 p.id)=qra m (k+1):=by
  have hk:=(List.getElem?_eq_some_iff.1 h).1
  unfold qra
  have hl:(vi ((m.take k).map Pt.id)).length=k:=by simp [vi];omega
  rw [List.set_append_right _ _ (by omega),hl,Nat.sub_self]
  obtain ⟨r,hr⟩:∃ r,m.length - k=r+1:=⟨m.length - k - 1,by omega⟩
  rw [hr,List.replicate_succ,List.set_cons_zero,List.take_add_one,h]
  simp [vi,show m.length - (k+1)=r by omega]
theorem qrc {m:List Pt} {k:Nat} (hk:k<m.length):(qra m k)[k]?=some (.int .i64 0):=by
  unfold qra
  have hl:(vi ((m.take k).map Pt.id)).length=k:=by simp [vi];omega
  rw [List.getElem?_append_right (by omega),hl,Nat.sub_self,List.getElem?_replicate,if_pos (by omega)]
theorem qrd (m:List Pt):qra m m.length=vi (m.map Pt.id):=by simp [qra]
end Go.Pel
namespace Go.Proofs.YtbjpmdhdoggobaaGreat
open Go.RowKit Go.Pel
theorem qre:SlT Tryz.prog 44 3 (.int .i64 0) 1 8:=⟨by kernel_rfl,by kernel_rfl,by kernel_rfl,by decide,by decide⟩
theorem qrf (n:Nat):(madeCells (Value.int .i64 0).cells (n*1)).toList=List.replicate n (.int .i64 0):=by
  apply List.ext_getElem?
  intro k
  by_cases hk:k<n<;>simp [madeCells,Value.cells,Nat.mod_one,List.getElem?_replicate,hk]
set_option maxRecDepth 10000 in
set_option maxHeartbeats 2000000 in
theorem qrg (A:Option Addr) (c:Nat) (l:List Pt) (n d:Int) (w:World) (hn:-9223372036854775808≤n∧n≤9223372036854775807) (hd:-9223372036854775808≤d∧d≤9223372036854775807) (hs:Sl w 3 A l.length c (vp l)) (hn0:A=none→c=0) (hl:l.length≤1000000) :
    Calls Tryz.prog 32 #[.agg #[.slice A l.length c],.agg #[.int .i64 n,.int .i64 d]] w fun e w'=>∃ A' c',e=.returned (.tuple #[.slice A' (qr9 l n d).1.length c',.int .i64 (qr9 l n d).2])∧∃ x,w'=ext w x∧Own (ext w x) w.heap.size 3 1 A' (qr9 l n d).1.length c' (vi (qr9 l n d).1):=by
  have q:=Lib.hid (fun W hb=>qr7 A c l n d W hn hd (hs.bel (w':=W) hb) hn0)
  have hlm:(qr5 l n d).1.length≤1000000:=by
    unfold qr5;split
    · simp
    · split
      · simp
      · rw [qqv];exact hl
  unfold qr9
  generalize qr5 l n d=F at q hlm ⊢
  obtain ⟨m,v⟩:=F
  simp only at q hlm ⊢
  by_cases h:v=0
  · subst h
    rw [if_neg (by decide)]
    simp only [List.length_map]
    clear hn hd
    go_enter Tryz.func32,Tryz.ntmps32
    go_wp2_with (first | (refine qf3 qre (Bel.refl _) (n:=m.length) (by omega) rfl _ _ rfl rfl rfl ?_;rintro g y hg hown;rw [qrf] at hown;have hL2:=own2.sl) | (go_at_call 55;refine (q.out _ (by (try simp only [qc8]);repeat (first | exact Bel.refl _ | assumption | refine qch ?_ _ | refine qci ?_ _ | refine Bel.ext ?_ _ | refine Bel.alloc ?_ _ | refine Bel.drewN ?_ _))).mono ?_;rintro e W1 ⟨A2,c2,rfl,hx2⟩;have own2:=qih hx2;have hb0:=q99 (qig hx2);have hb1:Bel w W1:=(by refine Bel.trans ?_ hb0;exact (by (try simp only [qc8]);repeat (first | exact Bel.refl _ | assumption | refine qch ?_ _ | refine qci ?_ _ | refine Bel.ext ?_ _ | refine Bel.alloc ?_ _ | refine Bel.drewN ?_ _)));clear hx2 hb0))
    clear own2
    go_loopw [25] (fun i wr=>∃ (k:Nat) (y:Beyond),k≤m.length∧i=.int .i64 k∧wr=ext W1 y∧Own (ext W1 y) W1.heap.size 3 1 (some ⟨g,0,none⟩) m.length m.length (qra m k)) (fun i _=>m.length - (intOf i).toNat)
    case atStart=>exact ⟨0,y,Nat.zero_le _,rfl,rfl,by simpa [qra,vi] using hown⟩
    case round =>
      obtain ⟨k,y3,hk,rfl,rfl,own3⟩:=hrel
      by_cases hlt:k<m.length
      · obtain ⟨p, hp⟩ : ∃ p, m[k]? = some p := ⟨_, List.getElem?_eq_getElem hlt⟩
        have HS:=Lib.hid (qrb hp)
        have b0:=qf5 own3 (qrc hlt)
        have z0:=qf6 own3 k
        obtain ⟨b,o,rfl,hb2⟩:=hL2.at_ (by omega)
        obtain ⟨r0,r1,r2⟩:=qgl (hL2.bel (w':=ext W1 y3) (q98 _ _)) hp
        have hlt':(k:Int)<(m.length:Int):=by omega
        have hgs:=own3.ats.2
        have hb3:b<(ext W1 y3).heap.size:=by simp [go_sem];omega
        have hb4:Bel W1 (ext W1 y3):=q98 _ _
        clear hp hown
        generalize ext W1 y3=V at *
        have hgne:¬ g=V.heap.size:=by omega
        have hgne':¬ V.heap.size=g:=by omega
        go_wp2
        go_roundw
        case rel =>
          obtain ⟨y5,hy5,own5⟩:=qfu (w:=W1) ((hb4.setCell (p:=⟨g,k,none⟩) hg (.int .i64 p.id)).alloc (.cells #[.int .i64 p.id,.int .i64 p.a,.int .i64 p.b] 72)) (World.ownsRow.stored own3 k (.int .i64 p.id)).1 ((Bel.refl _).alloc _)
          rw [HS.out] at own5
          exact ⟨k+1,y5,by omega,by go_num,hy5,own5⟩
        case measure=>(first | (simp [intOf];done) | (simp [intOf];omega))
      · obtain rfl : k = m.length := by omega
        rw [qrd] at own3
        go_wp2
        go_ret2
        exact ⟨some ⟨g,0,none⟩,m.length,rfl,qfu (by (try simp only [qc8]);repeat (first | exact Bel.refl _ | assumption | refine qch ?_ _ | refine qci ?_ _ | refine Bel.ext ?_ _ | refine Bel.alloc ?_ _ | refine Bel.drewN ?_ _)) (own3.base_le hb1.size) (Bel.refl _)⟩
  · rw [if_pos h]
    have h':(v != 0)=true:=by simpa using h
    clear h hn hd
    go_enter Tryz.func32,Tryz.ntmps32
    go_wp2_with (go_at_call 55;refine (q.out _ (by (try simp only [qc8]);repeat (first | exact Bel.refl _ | assumption | refine qch ?_ _ | refine qci ?_ _ | refine Bel.ext ?_ _ | refine Bel.alloc ?_ _ | refine Bel.drewN ?_ _))).mono ?_;rintro e _ ⟨A2,c2,rfl,x2,rfl,own2⟩)
    go_ret2
    exact ⟨none,0,rfl,qfu (by (try simp only [qc8]);repeat (first | exact Bel.refl _ | assumption | refine qch ?_ _ | refine qci ?_ _ | refine Bel.ext ?_ _ | refine Bel.alloc ?_ _ | refine Bel.drewN ?_ _)) (Own.nil_ _ _ _ _) (Bel.refl _)⟩
end Go.Proofs.YtbjpmdhdoggobaaGreat

namespace Go.Pel
open Go Go.RowKit
theorem qrk {w:World} {b o n c:Nat} {l:List Int} (h:Sl w 1 (some ⟨b,o,none⟩) n c (vi l)) {k:Nat} {x:Int} (hx:l[k]?=some x):w.cell? ⟨b,o+k,none⟩=some (.int .i64 x):=by
  have hl:=h.2.1
  have hk:=(List.getElem?_eq_some_iff.1 hx).1
  obtain ⟨b',o',hA,_,hc⟩:=h.2.2 (by simp [vi] at hl;omega)
  injection hA with hA;injection hA with h1 h2
  subst h1 h2
  exact hc k _ (by simp [vi,hx])
end Go.Pel
namespace Go.Proofs.YtbjpmdhdoggobaaGreat
open Go.RowKit Go.Pel
end Go.Proofs.YtbjpmdhdoggobaaGreat

namespace Go.Pel
open Go Go.RowKit
def qrq (l:List Pt) (n d:Int):Int:=if qgo l≠0 then qgo l else qdm n d
end Go.Pel
namespace Go.Proofs.YtbjpmdhdoggobaaGreat
open Go.RowKit Go.Pel
set_option maxRecDepth 10000 in
set_option maxHeartbeats 2000000 in
theorem qrr (A B:Option Addr) (c d:Nat) (l m:List Int) (w:World) (hs:Sl w 1 A l.length c (vi l)) (ht:Sl w 1 B m.length d (vi m)) (hl:l.length≤1000000) (hm:m.length≤1000000) :
    Calls Tryz.prog 21 #[.slice A l.length c,.slice B m.length d] w fun e w'=>e=.returned (.bool (decide (l=m)))∧∃ x,w'=ext w x:=by
  by_cases hn:l.length=m.length
  · have z0 : ((l.length : Int) != (m.length : Int)) = false := by rw [bne_eq_false_iff_eq]; omega
    have HN:=Lib.hid hn
    have hle1:l.length≤m.length:=by omega
    have hle2:m.length≤l.length:=by omega
    clear hn
    go_enter Tryz.func21,Tryz.ntmps21
    go_wp2
    go_loopw [5] (fun i wr=>∃ (k:Nat),k≤l.length∧i=.int .i64 k∧l.take k=m.take k∧∃ y,wr=ext w y) (fun i _=>l.length - (intOf i).toNat)
    case atStart=>exact ⟨0,Nat.zero_le _,rfl,rfl,ext_of (Bel.refl _)⟩
    case round =>
      obtain ⟨k,hk,rfl,hgo,y,rfl⟩:=hrel
      have HG:=Lib.hid hgo;clear hgo
      by_cases hlt:k<l.length
      · obtain ⟨x, hx⟩ : ∃ x, l[k]? = some x := ⟨_, List.getElem?_eq_getElem hlt⟩
        obtain ⟨x',hx'⟩:∃ x,m[k]?=some x:=⟨_,List.getElem?_eq_getElem (by omega)⟩
        obtain ⟨b,o,rfl,hb⟩:=hs.at_ (by omega)
        obtain ⟨b2,o2,rfl,hb2⟩:=ht.at_ (by omega)
        have r0:=qrk hs hx
        have q0:=qrk ht hx'
        have HX:=Lib.hid hx
        have HX':=Lib.hid hx'
        have hlt1:(k:Int)<(l.length:Int):=by omega
        have hlt2:(k:Int)<(m.length:Int):=by omega
        clear hx hx'
        have HE:=Lib.hid (show l.take (k+1)=l.take k ++ [x] by rw [List.take_add_one,HX.out];rfl)
        have HE':=Lib.hid (show m.take (k+1)=m.take k ++ [x'] by rw [List.take_add_one,HX'.out];rfl)
        by_cases hxy:x=x'
        · subst hxy
          have heq:(x != x)=false:=by simp
          go_wp2
          ((first | refine RegC.wp_region_ext1 (by kernel_rfl) (by kernel_rfl) ?_ | refine RegC.wp_region_ext0 (by kernel_rfl) (by kernel_rfl) ?_);(repeat (any_goals (first | go_big_quiet_step (fail) | (refine RegC.wpQuiet_split rfl rfl (fun hb=>?_) (fun hb=>?_)<;>simp only [hb]))));all_goals (refine wpQuiet_nil ?_;rintro _ ⟨nq,rfl⟩))
          go_wp2
          go_roundw
          case rel =>
            refine ⟨k+1,by omega,by go_num,?_,ext_of (by (try simp only [qc8]);repeat (first | exact Bel.refl _ | assumption | refine qch ?_ _ | refine qci ?_ _ | refine Bel.ext ?_ _ | refine Bel.alloc ?_ _ | refine Bel.drewN ?_ _))⟩
            rw [HE.out,HE'.out,HG.out]
          case measure=>(first | (simp [intOf];done) | (simp [intOf];omega))
        · have heq : (x != x') = true := by simpa using hxy
          have z1:decide (l=m)=false:=by rw [decide_eq_false_iff_not];intro h;apply hxy;have h1:=HX.out;rw [h,HX'.out] at h1;exact (Option.some.inj h1).symm
          have Z1:=Lib.hid z1
          clear z1 hxy
          go_wp2
          ((first | refine RegC.wp_region_ext1 (by kernel_rfl) (by kernel_rfl) ?_ | refine RegC.wp_region_ext0 (by kernel_rfl) (by kernel_rfl) ?_);(repeat (any_goals (first | go_big_quiet_step (fail) | (refine RegC.wpQuiet_split rfl rfl (fun hb=>?_) (fun hb=>?_)<;>simp only [hb]))));all_goals (refine wpQuiet_nil ?_;rintro _ ⟨nq,rfl⟩))
          go_wp2
          (go_ret;exact ⟨qkb (by exact Z1.out.symm),ext_of (by (try simp only [qc8]);repeat (first | exact Bel.refl _ | assumption | refine qch ?_ _ | refine qci ?_ _ | refine Bel.ext ?_ _ | refine Bel.alloc ?_ _ | refine Bel.drewN ?_ _))⟩)
      · have z1:decide (l=m)=true:=by
          rw [decide_eq_true_eq]
          have h:=HG.out
          obtain rfl:k=l.length:=by omega
          rw [List.take_length] at h
          rw [h,HN.out,List.take_length]
        have Z1:=Lib.hid z1
        clear z1
        go_wp2
        (go_ret;exact ⟨qkb (by exact Z1.out.symm),ext_of (by (try simp only [qc8]);repeat (first | exact Bel.refl _ | assumption | refine qch ?_ _ | refine qci ?_ _ | refine Bel.ext ?_ _ | refine Bel.alloc ?_ _ | refine Bel.drewN ?_ _))⟩)
  · have z0 : ((l.length : Int) != (m.length : Int)) = true := by rw [bne_iff_ne]; omega
    have Z1:=Lib.hid (show decide (l=m)=false by rw [decide_eq_false_iff_not];intro h;exact hn (by rw [h]))
    clear hn
    go_enter Tryz.func21,Tryz.ntmps21
    go_wp2
    (go_ret;exact ⟨qkb (by exact Z1.out.symm),ext_of (by (try simp only [qc8]);repeat (first | exact Bel.refl _ | assumption | refine qch ?_ _ | refine qci ?_ _ | refine Bel.ext ?_ _ | refine Bel.alloc ?_ _ | refine Bel.drewN ?_ _))⟩)
set_option maxRecDepth 10000 in
set_option maxHeartbeats 2000000 in
theorem qrs (A:Option Addr) (c:Nat) (l:List Pt) (n d:Int) (w:World) (hn:-9223372036854775808≤n∧n≤9223372036854775807) (hd:-9223372036854775808≤d∧d≤9223372036854775807) (hs:Sl w 3 A l.length c (vp l)) (hl:l.length≤1000000) :
    Calls Tryz.prog 36 #[.agg #[.slice A l.length c],.agg #[.int .i64 n,.int .i64 d]] w fun e w'=>e=.returned (.int .i64 (qrq l n d))∧∃ x,w'=ext w x:=by
  have q:=Lib.hid (fun W hb=>qmb A c l W (hs.bel (w':=W) hb))
  have q2:=Lib.hid (fun W=>qkh n d W hn hd)
  unfold qrq
  generalize qgo l=v at q ⊢
  by_cases h:v=0
  · subst h
    rw [if_neg (by decide)]
    clear hn hd
    go_enter Tryz.func36,Tryz.ntmps36
    go_wp2_with (first | (go_at_call 61;refine (q.out _ (by (try simp only [qc8]);repeat (first | exact Bel.refl _ | assumption | refine qch ?_ _ | refine qci ?_ _ | refine Bel.ext ?_ _ | refine Bel.alloc ?_ _ | refine Bel.drewN ?_ _))).mono ?_;rintro e _ ⟨rfl,nx,rfl⟩) | (go_at_call 27;refine (q2.out _).mono ?_;rintro e _ ⟨rfl,nx,rfl⟩))
    (go_ret;exact ⟨qka (by rfl),ext_of (by (try simp only [qc8]);repeat (first | exact Bel.refl _ | assumption | refine qch ?_ _ | refine qci ?_ _ | refine Bel.ext ?_ _ | refine Bel.alloc ?_ _ | refine Bel.drewN ?_ _))⟩)
  · rw [if_pos h]
    have h':(v != 0)=true:=by simpa using h
    clear h hn hd
    go_enter Tryz.func36,Tryz.ntmps36
    go_wp2_with (first | (go_at_call 61;refine (q.out _ (by (try simp only [qc8]);repeat (first | exact Bel.refl _ | assumption | refine qch ?_ _ | refine qci ?_ _ | refine Bel.ext ?_ _ | refine Bel.alloc ?_ _ | refine Bel.drewN ?_ _))).mono ?_;rintro e _ ⟨rfl,nx,rfl⟩) | (go_at_call 27;refine (q2.out _).mono ?_;rintro e _ ⟨rfl,nx,rfl⟩))
    (go_ret;exact ⟨qka (by rfl),ext_of (by (try simp only [qc8]);repeat (first | exact Bel.refl _ | assumption | refine qch ?_ _ | refine qci ?_ _ | refine Bel.ext ?_ _ | refine Bel.alloc ?_ _ | refine Bel.drewN ?_ _))⟩)
end Go.Proofs.YtbjpmdhdoggobaaGreat

namespace Go.Proofs.YtbjpmdhdoggobaaGreat
open Go.RowKit Go.Pel
end Go.Proofs.YtbjpmdhdoggobaaGreat
