/- Walks of courses and of the sorts; the order as plain mathematics. -/
import Derived.Deep.DeepCutAuto
import Derived.Deep.LoopGhost
import Derived.Deep.RegionHeld3
import Derived.Laws.MakeOwn
import Derived.Test.YtbjpmdhdoggobaaProg
import Derived.ChangeKeysEq
import Derived.Test.YtbjpmdhdoggobaaRows
import Derived.IntWalk
import Derived.Shelf.Bits.Mul64
import Derived.Shelf.Spec.BitsCarry
import Derived.Outline
import Derived.Shelf.SlSortCmp.NoneTotal
import Derived.Sort.Statements
import Derived.Shelf.SlSortCmp.Insertion
import Derived.RangeFuncRecord
import Derived.RangeFuncSeq
import Derived.RangeFuncBound
import Derived.Shelf.Abstract
import Derived.Shelf.RegionOpen
import Derived.WalkKit
import Derived.OwnWalkIn
import Derived.TacticsInMore
import Derived.LoopNIn
import Derived.LoopIn
import Derived.Test.YtbjpmdhdoggobaaGb
set_option linter.unusedSimpArgs false
set_option linter.unusedVariables false
namespace Go
open RowKit
structure Held (W:World) (b o:Nat) (v:Value):Prop where
  lt:b<W.heap.size
  eq:W.cell? ⟨b,o,none⟩=some v
  fr:W.frozen? ⟨b,o,none⟩=false
theorem Held.bel {W W':World} {b o:Nat} {v:Value} (h:Held W b o v) (hb:Bel W W'):Held W' b o v:=by
  obtain ⟨x,rfl⟩:=ext_of hb
  exact ⟨by rw [q94];have:=h.lt;omega,by rw [qc2 _ _ _ _ h.lt];exact h.eq,by rw [qc3 _ _ _ _ h.lt];exact h.fr⟩
theorem Held.new {W W':World} {cs:Array Value} {e:TypeId} {j:Nat} {v:Value} (hb:Bel (W.alloc (.cells cs e)) W') (hv:cs[j]?=some v):Held W' W.heap.size j v:=by
  have h:Held (W.alloc (.cells cs e)) W.heap.size j v:=⟨by simp,by simp [go_sem,hv],by simp [go_sem]⟩
  exact h.bel hb
theorem qii {w W':World} {B:Nat} {e:TypeId} {size n c:Nat} {A:Option Addr} {xs:List Value} (h:∃ y,W'=ext w y∧Own (ext w y) B e size A n c xs):∃ y,W'=ext w y:=let ⟨y,hy,_⟩:=h;⟨y,hy⟩
theorem qij {w W':World} {B:Nat} {e:TypeId} {size n c:Nat} {A:Option Addr} {xs:List Value} (h:∃ y,W'=ext w y∧Own (ext w y) B e size A n c xs):Own W' B e size A n c xs:=by
  obtain ⟨y,rfl,h⟩:=h;exact h
structure Apart (g:Nat) (W W':World):Prop where
  os:W'.os=W.os
  tape:W'.tape=W.tape
  output:W'.output=W.output
  size:W'.heap.size=W.heap.size
  drawn:W.drawn≤W'.drawn
  block:∀ b,b≠g→W'.heap[b]?=W.heap[b]?
theorem Apart.refl (g:Nat) (W:World):Apart g W W:=⟨rfl,rfl,rfl,rfl,Nat.le_refl _,fun _ _=>rfl⟩
theorem Apart.trans {g:Nat} {W W1 W2:World} (h:Apart g W W1) (k:Apart g W1 W2):Apart g W W2 :=
  ⟨k.os.trans h.os,k.tape.trans h.tape,k.output.trans h.output,k.size.trans h.size,Nat.le_trans h.drawn k.drawn,fun b hb=>(k.block b hb).trans (h.block b hb)⟩
theorem Apart.setCell {g:Nat} {W W1:World} (h:Apart g W W1) (o:Nat) (u:Value):Apart g W (W1.setCell ⟨g,o,none⟩ u) :=
  h.trans ⟨rfl,rfl,rfl,by simp [World.setCell],Nat.le_refl _,fun b hb=>by unfold World.setCell;simp only [Array.getElem?_modify,if_neg (Ne.symm hb)]⟩
theorem Apart.bel {g:Nat} {w W W1:World} (h:Apart g W W1) (hb:Bel w W) (hg:w.heap.size≤g):Bel w W1 :=
  ⟨⟨h.os.trans hb.os,h.tape.trans hb.tape,h.output.trans hb.output,by rw [h.size];exact hb.size,fun k hk=>(h.block k (by omega)).trans (hb.block k hk)⟩,Nat.le_trans hb.mono h.drawn⟩
theorem Held.apart {g:Nat} {W W':World} {b o:Nat} {v:Value} (h:Held W b o v) (ha:Apart g W W') (hne:b≠g):Held W' b o v :=
  ⟨by rw [ha.size];exact h.lt,by have:=h.eq;unfold World.cell? at this ⊢;rw [ha.block b hne];exact this,by have:=h.fr;unfold World.frozen? at this ⊢;rw [ha.block b hne];exact this⟩
theorem Sl.apart {g:Nat} {W W':World} {size n c:Nat} {A:Option Addr} {xs:List Value} (h:Sl W size A n c xs) (ha:Apart g W W') (hne:∀ b o,A=some ⟨b,o,none⟩→b≠g):Sl W' size A n c xs :=
  ⟨h.1,h.2.1,fun hn=>by
    obtain ⟨b,o,hA,hb,hc⟩:=h.2.2 hn
    refine ⟨b,o,hA,by rw [ha.size];exact hb,fun j u hu=>?_⟩
    have h1:=hc j u hu
    unfold World.cell? at h1 ⊢
    rw [ha.block b (hne b o hA)];exact h1⟩
end Go
namespace Go
open RowKit
theorem Own.ats {W:World} {B:Nat} {e:TypeId} {size n c g:Nat} {xs:List Value} (h:Own W B e size (some ⟨g,0,none⟩) n c xs):B≤g∧g<W.heap.size:=by
  rcases h.row with ⟨h0,_⟩ | ⟨g',cur,h0,hr,_⟩
  · cases h0
  · have e1 : g = g' := by injection h0 with h0; injection h0
    subst e1
    exact ⟨hr.1,hr.lt⟩
theorem Own.shape {W:World} {B:Nat} {e:TypeId} {size n c:Nat} {A:Option Addr} {xs:List Value} (h:Own W B e size A n c xs):(A=none∧n=0) ∨ ∃ g,A=some ⟨g,0,none⟩∧B≤g∧g<W.heap.size:=by
  rcases h.row with ⟨h0,h1,_⟩ | ⟨g',cur,h0,hr,_⟩
  · exact .inl ⟨h0,h1⟩
  · exact .inr ⟨g',h0,hr.1,hr.lt⟩
end Go

namespace Go
open RowKit
structure Box (W:World) (b:Nat) (cs:Array Value):Prop where
  lt:b<W.heap.size
  eq:∀ (j:Nat) (v:Value),cs[j]?=some v→W.cell? ⟨b,j,none⟩=some v
  fr:∀ (j:Nat),W.frozen? ⟨b,j,none⟩=false
theorem Box.bel {W W':World} {b:Nat} {cs:Array Value} (h:Box W b cs) (hb:Bel W W'):Box W' b cs:=by
  obtain ⟨x,rfl⟩:=ext_of hb
  exact ⟨by rw [q94];have:=h.lt;omega,fun j v hv=>by rw [qc2 _ _ _ _ h.lt];exact h.eq j v hv,fun j=>by rw [qc3 _ _ _ _ h.lt];exact h.fr j⟩
theorem Box.new {W W':World} {cs:Array Value} {e:TypeId} (hb:Bel (W.alloc (.cells cs e)) W') {b:Nat} (hbk:b=W.heap.size):Box W' b cs:=by
  subst hbk
  have h:Box (W.alloc (.cells cs e)) W.heap.size cs:=⟨by simp,fun j v hv=>by simp [go_sem,hv],fun j=>by simp [go_sem]⟩
  exact h.bel hb
end Go

namespace Go
end Go

namespace Go
open RowKit
def qil (V:World) (e:TypeId) (g:Nat):Prop:=∃ W:World,Bel (W.alloc (.cells #[] e)) V∧g=W.heap.size
theorem qil.here {W:World} {e:TypeId} {g:Nat} (h:g=W.heap.size):qil (W.alloc (.cells #[] e)) e g:=⟨W,Bel.refl _,h⟩
theorem qil.alloc {W:World} {e:TypeId} {g:Nat} {o:Obj} (h:qil W e g):qil (W.alloc o) e g:=by obtain ⟨W0,h1,h2⟩:=h;exact ⟨W0,h1.alloc _,h2⟩
theorem qil.ext {W:World} {e:TypeId} {g:Nat} {x:Beyond} (h:qil W e g):qil (ext W x) e g:=by obtain ⟨W0,h1,h2⟩:=h;exact ⟨W0,h1.ext _,h2⟩
theorem qil.drew {W:World} {e:TypeId} {g:Nat} (h:qil W e g):qil W.drew e g:=by obtain ⟨W0,h1,h2⟩:=h;exact ⟨W0,h1.drew,h2⟩
def qim (A B:Option Addr):Prop:=∀ k,A=some ⟨k,0,none⟩→B=some ⟨k,0,none⟩→False
theorem qim.symm {A B:Option Addr} (h:qim A B):qim B A:=fun k h1 h2=>h k h2 h1
structure Swp (V V' W W':World):Prop where
  base:V.heap.size=V'.heap.size
  size:W.heap.size=W'.heap.size
  hi:∀ k,V.heap.size≤k→W'.heap[k]?=W.heap[k]?
theorem Swp.refl {V V':World} (h:V.heap.size=V'.heap.size):Swp V V' V V':=⟨h,h,fun k hk=>by rw [Array.getElem?_eq_none hk,Array.getElem?_eq_none (by omega)]⟩
theorem Swp.ext {V V' W W':World} (h:Swp V V' W W') (x:Beyond):Swp V V' (ext W x) (ext W' x):=by
  refine ⟨h.base,by simp [h.size],fun k hk=>?_⟩
  have e1:(Go.ext W x).heap=W.heap++x.objs:=by unfold Go.ext;rfl
  have e2:(Go.ext W' x).heap=W'.heap++x.objs:=by unfold Go.ext;rfl
  rw [e1,e2]
  rcases Nat.lt_or_ge k W.heap.size with hl | hl
  · rw [Array.getElem?_append_left hl,Array.getElem?_append_left (by have:=h.size;omega)];exact h.hi k hk
  · rw [Array.getElem?_append_right hl,Array.getElem?_append_right (by have:=h.size;omega),h.size]
theorem Swp.alloc {V V' W W':World} (h:Swp V V' W W') (o:Obj):Swp V V' (W.alloc o) (W'.alloc o):=by
  refine ⟨h.base,by simp [h.size],fun k hk=>?_⟩
  have e1:(W.alloc o).heap=W.heap.push o:=by unfold World.alloc;rfl
  have e2:(W'.alloc o).heap=W'.heap.push o:=by unfold World.alloc;rfl
  rw [e1,e2,Array.getElem?_push,Array.getElem?_push,h.hi k hk,h.size]
theorem Swp.drew {V V' W W':World} (h:Swp V V' W W'):Swp V V' W.drew W'.drew:=⟨h.base,h.size,h.hi⟩
theorem Box.here {W:World} {cs:Array Value} {e:TypeId} {b:Nat} (hb:b=W.heap.size):Box (W.alloc (.cells cs e)) b cs:=Box.new (Bel.refl _) hb
theorem Box.alloc {W:World} {cs:Array Value} {b:Nat} {o:Obj} (h:Box W b cs):Box (W.alloc o) b cs:=h.bel ((Bel.refl _).alloc _)
theorem Box.ext {W:World} {cs:Array Value} {b:Nat} {x:Beyond} (h:Box W b cs):Box (ext W x) b cs:=h.bel (q98 _ _)
theorem Box.drew {W:World} {cs:Array Value} {b:Nat} (h:Box W b cs):Box W.drew b cs:=h.bel (Bel.refl _).drew
theorem Own.here {W:World} {base:Nat} {cs:Array Value} {e:TypeId} {size n b:Nat} (hbk:b=W.heap.size) (hb:base≤b) (hn:n≤1000000) (hs:cs.size=n*size):Own (W.alloc (.cells cs e)) base e size (some ⟨b,0,none⟩) n n cs.toList:=by
  subst hbk
  exact World.ownsRow_lit W cs n hb (Nat.le_trans hn (by unfold maxLen;decide)) hs
theorem Own.ext' {W:World} {base:Nat} {xs:List Value} {e:TypeId} {size n c:Nat} {A:Option Addr} {x:Beyond} (h:Own W base e size A n c xs):Own (Go.ext W x) base e size A n c xs:=h.ext x
def PBut (g:Nat) (a b:Array Obj):Prop:=∀ k,k≠g→k<a.size→b[k]?=a[k]?
def qiz (g:Nat) (a b:Array Obj):Prop:=a.size=b.size∧∀ k,k≠g→b[k]?=a[k]?
theorem qiz.refl (g:Nat) (a:Array Obj):qiz g a a:=⟨rfl,fun _ _=>rfl⟩
theorem qiz.both {g:Nat} {a b:Array Obj} (h:qiz g a b) (c:Array Obj):qiz g (a++c) (b++c):=by
  refine ⟨by simp [h.1],fun k hk=>?_⟩
  rcases Nat.lt_or_ge k a.size with hl | hl
  · rw [Array.getElem?_append_left hl,Array.getElem?_append_left (by have:=h.1;omega)];exact h.2 k hk
  · rw [Array.getElem?_append_right hl,Array.getElem?_append_right (by have:=h.1;omega),h.1]
theorem qiz.swap {g:Nat} {a b:Array Obj} {o o':Obj} (h:qiz g a b) (hg:g=a.size):qiz g (a ++ #[o]) (b ++ #[o']):=by
  refine ⟨by simp [h.1],fun k hk=>?_⟩
  rcases Nat.lt_or_ge k a.size with hl | hl
  · rw [Array.getElem?_append_left hl,Array.getElem?_append_left (by have:=h.1;omega)];exact h.2 k hk
  · have hs := h.1
    have h1:a.size+1≤k:=by omega
    rw [Array.getElem?_eq_none (by first | simpa using h1 | (rw [hs] at h1;simpa using h1)),Array.getElem?_eq_none (by first | simpa using h1 | (rw [hs] at h1;simpa using h1))]
theorem PBut.same {g:Nat} {a b:Array Obj} (h:qiz g a b):PBut g a b:=fun k hk _=>h.2 k hk
theorem PBut.le {g:Nat} {a b:Array Obj} (h:PBut g a b) {k:Nat} (hk:k≠g) (hl:k<a.size):k<b.size:=by
  have h1:=h k hk hl
  rcases Nat.lt_or_ge k b.size with h2 | h2
  · exact h2
  · rw [Array.getElem?_eq_none h2,Array.getElem?_eq_getElem hl] at h1;cases h1
theorem PBut.right {g:Nat} {a b:Array Obj} (h:PBut g a b) (c:Array Obj):PBut g a (b++c):=fun k hk hl=>by
  rw [Array.getElem?_append_left (h.le hk hl)];exact h k hk hl
theorem qj2 {W:World} {b g o:Nat} {u:Value} (hne:b≠g):(W.setCell ⟨b,o,none⟩ u).heap[g]?=W.heap[g]?:=by
  unfold World.setCell
  simp only [Array.getElem?_modify,if_neg hne]
theorem Box.other {W:World} {b g:Nat} {cs:Array Value} (h:Box W g cs) (o:Nat) (u:Value) (hne:b≠g):Box (W.setCell ⟨b,o,none⟩ u) g cs:=by
  refine ⟨by have:=h.lt;simpa using this,fun j v hv=>?_,fun j=>?_⟩
  · rw [← h.eq j v hv];exact World.cell?_of_block (qj2 hne)
  · rw [← h.fr j];exact World.frozen?_of_block (qj2 hne)
section
variable {P:Program} {ops:Array Oper} {o:Oper} {a:Act} {K:Act→World→Prop} {Q:Exit→Act→World→Prop} {E:Prop}
end
end Go

namespace Go.Tx
open Go Go.Pel
def unI (l:List Int):List TI1:=l.map toI
def idsI (l:List TI1):List Int:=l.map fun x=>x.1
def ptsL (l:List TP):List Pt:=l.map ofP
theorem qja (l:List Int):idsI (unI l)=l:=by
  unfold idsI unI;rw [List.map_map];exact List.map_id _
theorem qjc (l:List Int):(unI l).length=l.length:=List.length_map _
theorem qjf (l:List Int):qhn RI (unI l)=vi l:=by rw [qhp];exact congrArg vi (qja l)
theorem qjg {φ:Nat→Option Obj} {w:World} (hφ:∀ k ob,φ k=some ob→w.heap[k]?=some ob) {l:List TI1} {v:Value} (hv:VR (Emb.fro φ) (.fz RI l) v):∃ A c,v=.slice A (idsI l).length c∧Sl w 1 A (idsI l).length c (vi (idsI l))∧(A=none→c=0):=qhy hφ hv
theorem qjh {φ:Nat→Option Obj} {w:World} (hφ:∀ k ob,φ k=some ob→w.heap[k]?=some ob) {l:List TP} {v:Value} (hv:VR (Emb.fro φ) (.agg [.fz RP l]) v):∃ A c,v=.agg #[.slice A (ptsL l).length c]∧Sl w 3 A (ptsL l).length c (vp (ptsL l))∧(A=none→c=0):=qhx hφ hv
def i64B (n:Int):Bool:=decide (-9223372036854775808≤n)&&decide (n≤9223372036854775807)
theorem qjj {n:Int} (h:i64B n=true):-9223372036854775808≤n∧n≤9223372036854775807:=by
  unfold i64B at h;simpa using h
theorem qjm {α:Type} {c:Bool} {a r:α} (h:(bif c then some a else none)=some r):c=true∧a=r:=by
  cases c with
  | true=>injection h with h;exact ⟨rfl,h⟩
  | false=>cases h
end Go.Tx

namespace Go.Proofs.Ytbjpmdhdoggobaa
open Go Go.Tx Go.Proofs.Try
abbrev Ri:Go.Tx.Row:=(.int .i64 .nil)
abbrev Di:Type:=(Int×Unit)
abbrev zi:Di:=(0,())
abbrev Ru:Go.Tx.Row:=(.int .u64 .nil)
abbrev Du:Type:=(Int×Unit)
abbrev Riii:Go.Tx.Row:=(.int .i64 (.int .i64 (.int .i64 .nil)))
abbrev Diii:Type:=(Int×(Int×(Int×Unit)))
abbrev qjy:Go.Tx.Row:=(.sl Riii .nil)
abbrev qjz:Type:=(List Diii×Unit)
abbrev Rii:Go.Tx.Row:=(.int .i64 (.int .i64 .nil))
abbrev Dii:Type:=(Int×(Int×Unit))
abbrev zii:Dii:=(0,0,())
abbrev qk1:Go.Tx.Row:=(.sl Rii .nil)
abbrev qk2:Type:=(List Dii×Unit)
abbrev RLiE:Go.Tx.Row:=(.sl Ri .nil)
abbrev DLiE:Type:=(List Di×Unit)
abbrev zLiE:DLiE:=([],())
abbrev qk4:Go.Tx.Row:=(.sl RLiE .nil)
abbrev qk5:Type:=(List DLiE×Unit)
abbrev Rbuu:Go.Tx.Row:=(.bool (.int .u64 (.int .u64 .nil)))
abbrev Dbuu:Type:=(Bool×(Int×(Int×Unit)))
abbrev qk7:Go.Tx.Row:=(.int .i64 (.int .i64 (.int .i64 (.int .i64 .nil))))
abbrev qk8:Type:=(Int×(Int×(Int×(Int×Unit))))
theorem mixed:prog.follows .mixedOrders=true:=by kernel_rfl
def tysT:Tys:=[(2,⟨.int .i64,1,false,[.int .i64 0],false,false⟩),
  (3,⟨.int .i64,1,false,[.int .i64 0],false,false⟩),
  (4,⟨.bool,1,false,[.bool false],false,false⟩),
  (5,⟨.int .u8,1,false,[.int .u8 0],false,false⟩),
  (6,⟨.int .u8,1,false,[.int .u8 0],false,false⟩),
  (9,⟨.str,1,false,[.undef],false,false⟩),
  (10,⟨.str,1,false,[.undef],false,false⟩),
  (11,⟨.str,1,false,[.undef],false,false⟩),
  (12,⟨.int .u64,1,false,[.int .u64 0],false,false⟩),
  (21,⟨.int .i32,1,false,[.int .i32 0],false,false⟩),
  (22,⟨.slice 26 Riii,1,false,[.nils],false,false⟩),
  (24,⟨.struct [(0,22)],1,true,[.nils],false,false⟩),
  (26,⟨.struct [(0,3),(1,2),(2,2)],3,true,[.int .i64 0,.int .i64 0,.int .i64 0],false,false⟩),
  (28,⟨.struct [(0,2),(1,2)],2,true,[.int .i64 0,.int .i64 0],true,false⟩),
  (30,⟨.slice 28 Rii,1,false,[.nils],false,false⟩),
  (31,⟨.int .i64,1,false,[.int .i64 0],false,false⟩),
  (34,⟨.slice 40 RLiE,1,false,[.nils],false,false⟩),
  (40,⟨.slice 3 Ri,1,false,[.nils],false,false⟩),
  (54,⟨.other,1,false,[.undef],false,false⟩),
  (58,⟨.other,1,false,[.undef],false,false⟩),
  (67,⟨.int .u64,1,false,[.int .u64 0],false,false⟩),
  (73,⟨.int .u64,1,false,[.int .u64 0],false,false⟩),
  (78,⟨.struct [(0,4),(1,67),(2,67)],3,true,[.bool false,.int .u64 0,.int .u64 0],false,false⟩),
  (83,⟨.struct [(0,2),(1,67)],2,true,[.int .i64 0,.int .u64 0],false,false⟩),
  (85,⟨.array 2 2,2,true,[.int .i64 0,.int .i64 0],false,false⟩),
  (86,⟨.array 2 85,4,true,[.int .i64 0,.int .i64 0,.int .i64 0,.int .i64 0],false,false⟩),
  (94,⟨.other,1,false,[.undef],false,false⟩),
  (96,⟨.int .i64,1,false,[.int .i64 0],false,false⟩),
  (104,⟨.int .u32,1,false,[.int .u32 0],false,false⟩),
  (119,⟨.int .u64,1,false,[.int .u64 0],false,false⟩),
  (128,⟨.other,1,false,[.undef],false,false⟩),
  (135,⟨.other,1,false,[.nilp],false,false⟩),
  (149,⟨.int .u8,1,false,[.int .u8 0],false,false⟩),
  (150,⟨.int .u8,1,false,[.int .u8 0],false,false⟩),
  (153,⟨.int .i32,1,false,[.int .i32 0],false,false⟩),
  (154,⟨.int .i32,1,false,[.int .i32 0],false,false⟩)]
set_option maxRecDepth 20000 in
set_option maxHeartbeats 4000000 in
theorem qka (n:Nat) (k0 k1:IntKind) (a0 a1 b0 b1:Int) (w:World):(Op.equalIn (n+2) 28 (.agg #[.int k0 a0,.int k1 a1]) (.agg #[.int k0 b0,.int k1 b1])).run prog w=.ok ((a0 == b0)&&(a1 == b1)) w:=by
  have hst:prog.stoodInHeld 28=false:=by kernel_rfl
  have hu:prog.underlying 28=some (.struct (prog.fieldsOf 28)):=by kernel_rfl
  have hf:=Try.underlying28
  rw [hu] at hf
  injection hf with hf
  injection hf with hf
  have e2:=fun (k:IntKind) (x y:Int)=>run_equalIn_int (P:=prog) w (n+0) 2 k .i64 x y Try.underlying2
  rw [run_equalIn_struct w (n+1) 28 _ _ hu hst,hf]
  simp [Op.eqFields,part,Sem.run_bind,Result.andThen_ok,e2,Try.isAgg2]
  cases h0:(a0 == b0)<;>cases h1:(a1 == b1)<;>simp_all
theorem qkb:EqT prog 28 2:=by
  refine ⟨fun vs us b w h1 h2 h=>?_,by kernel_rfl⟩
  obtain ⟨a0,a1,rfl⟩:∃ a0 a1,vs=[a0,a1]:=by
    match vs,h1 with
    | [a0,a1],_=>exact ⟨a0,a1,rfl⟩
  obtain ⟨b0,b1,rfl⟩:∃ b0 b1,us=[b0,b1]:=by
    match us,h2 with
    | [b0,b1],_=>exact ⟨b0,b1,rfl⟩
  obtain ⟨k0,x0,y0,c0,rfl,rfl,g0,rfl⟩:=q1p h
  obtain ⟨k1,x1,y1,c1,rfl,rfl,g1,rfl⟩:=q1p g0
  obtain rfl:=q1o g1
  refine (qka 9998 k0 k1 x0 x1 y0 y1 w).trans ?_
  simp [Bool.and_assoc]
theorem tys:TysOK prog tysT:=q1u (by kernel_rfl) (by
  intro p hp he
  simp only [tysT,List.mem_cons,List.not_mem_nil,or_false] at hp
  rcases hp with rfl | rfl | rfl | rfl | rfl | rfl | rfl | rfl | rfl | rfl | rfl | rfl | rfl | rfl | rfl | rfl | rfl | rfl | rfl | rfl | rfl | rfl | rfl | rfl | rfl | rfl | rfl | rfl | rfl | rfl | rfl | rfl | rfl | rfl | rfl | rfl
  all_goals first | exact qkb | (cases he;done))
end Go.Proofs.Ytbjpmdhdoggobaa

namespace Go.Proofs.Ytbjpmdhdoggobaa
open Go.RowKit Go.Pel
theorem qkc {k:IntKind} {a b:Int} (h:a=b):Ending.returned (.int k a)=.returned (.int k b):=by rw [h]
theorem qkd {a b:Bool} (h:a=b):Ending.returned (.bool a)=.returned (.bool b):=by rw [h]

set_option maxHeartbeats 400000 in
theorem qke (n:Int) (w:World) (h:-9223372036854775808≤n∧n≤9223372036854775807) :
    Calls Try.prog 31 #[.int .i64 n] w fun e w'=>e=.returned (.int .u64 n.natAbs)∧∃ x,w'=ext w x:=by
  obtain ⟨h1,h2⟩:=h
  go_enter Try.func31,Try.ntmps31
  go_wp2
  all_goals (go_ret;exact ⟨qkc (by first | (simp only [IntKind.wrap_u64];omega) | omega),ext_of (Bel.refl _)⟩)


set_option maxHeartbeats 400000 in
theorem qkf (a b:Nat) (w:World) (ha:a<18446744073709551616) (hb:b<18446744073709551616) :
    Calls Try.prog 30 #[.int .u64 a,.int .u64 b] w fun e w'=>e=.returned (.int .u64 (Nat.gcd a b))∧∃ x,w'=ext w x:=by
  go_enter Try.func30,Try.ntmps30
  go_wp2
  go_loopw [0,1] (fun x y wr=>∃ x0 y0:Nat,x=.int .u64 x0∧y=.int .u64 y0∧x0<18446744073709551616∧y0<18446744073709551616∧Nat.gcd x0 y0=Nat.gcd a b∧∃ x,wr=ext w x) (fun _ y _=>(intOf y).toNat)
  case atStart=>exact ⟨a,b,rfl,rfl,ha,hb,rfl,ext_of (Bel.refl _)⟩
  case round =>
    obtain ⟨x0,y0,rfl,rfl,hx,hy,hg,x,rfl⟩:=hrel
    have HG:=Lib.hid hg;clear hg
    by_cases hlt:0<y0
    · go_wp2
      ((first | refine RegC.wp_region_ext1 (by kernel_rfl) (by kernel_rfl) ?_ | refine RegC.wp_region_ext0 (by kernel_rfl) (by kernel_rfl) ?_);(repeat (any_goals (first | go_big_quiet_step (fail) | (refine RegC.wpQuiet_split rfl rfl (fun hb=>?_) (fun hb=>?_)<;>simp only [hb]))));all_goals (refine wpQuiet_nil ?_;rintro _ ⟨nq,rfl⟩))
      go_wp2
      go_roundw
      case rel=>exact ⟨y0,x0 % y0,rfl,by simp,hy,Nat.lt_of_lt_of_le (Nat.mod_lt _ hlt) (by omega),by rw [← HG.out,Nat.gcd_comm x0 y0,Nat.gcd_rec y0 x0,Nat.gcd_comm],_,rfl⟩
      case measure=>simp [intOf];exact Nat.mod_lt _ hlt
    · go_wp2
      go_ret
      obtain rfl:y0=0:=by omega
      exact ⟨qkc (by rw [← HG.out];simp),_,rfl⟩


set_option maxHeartbeats 400000 in
theorem qkg (n d:Int) (w:World) (h:-9223372036854775808≤n∧n≤9223372036854775807) (h':-9223372036854775808≤d∧d≤9223372036854775807) :
    Calls Try.prog 15 #[.agg #[.int .i64 n,.int .i64 d]] w fun e w'=>e=.returned (.int .i64 (qdm n d))∧∃ x,w'=ext w x:=by
  obtain ⟨h1,h2⟩:=h
  obtain ⟨h3,h4⟩:=h'
  by_cases c1:d<1
  · have e1 := Lib.hid (qdn (n := n) c1)
    go_enter Try.func15,Try.ntmps15
    go_wp2
    ((first | refine RegC.wp_region_ext1 (by kernel_rfl) (by kernel_rfl) ?_ | refine RegC.wp_region_ext0 (by kernel_rfl) (by kernel_rfl) ?_);(repeat (any_goals (first | go_big_quiet_step (fail) | (refine RegC.wpQuiet_split rfl rfl (fun hb=>?_) (fun hb=>?_)<;>simp only [hb]))));all_goals (refine wpQuiet_nil ?_;rintro _ ⟨nq,rfl⟩))
    go_wp2
    go_ret
    exact ⟨qkc e1.out.symm,ext_of (((Bel.refl _).alloc _).ext _)⟩
  · have c1' : decide (d < 1) = false := by simpa using c1
    by_cases c2:n=-9223372036854775808
    · subst c2
      go_enter Try.func15,Try.ntmps15
      go_wp2
      ((first | refine RegC.wp_region_ext1 (by kernel_rfl) (by kernel_rfl) ?_ | refine RegC.wp_region_ext0 (by kernel_rfl) (by kernel_rfl) ?_);(repeat (any_goals (first | go_big_quiet_step (fail) | (refine RegC.wpQuiet_split rfl rfl (fun hb=>?_) (fun hb=>?_)<;>simp only [hb]))));all_goals (refine wpQuiet_nil ?_;rintro _ ⟨nq,rfl⟩))
      go_wp2
      go_ret
      exact ⟨qkc qdo.symm,ext_of (((Bel.refl _).alloc _).ext _)⟩
    · have c2' : (n == -9223372036854775808) = false := by simpa using c2
      have E1:=Lib.hid (qdp (n:=n) (d:=d) (by omega) c2)
      have E2:=Lib.hid (qdq (n:=n) (d:=d))
      have E3:=Lib.hid (qdr (n:=n) (d:=d) (by omega))
      obtain ⟨dn,rfl⟩:∃ dn:Nat,d=dn:=⟨d.toNat,by omega⟩
      go_enter Try.func15,Try.ntmps15
      go_wp2
      ((first | refine RegC.wp_region_ext1 (by kernel_rfl) (by kernel_rfl) ?_ | refine RegC.wp_region_ext0 (by kernel_rfl) (by kernel_rfl) ?_);(repeat (any_goals (first | go_big_quiet_step (first | (go_at_call 31;first | exact Calls.ext_of1 (qke _ _ (by omega)) | exact Calls.ext_of (qke _ _ (by omega))) | (go_at_call 30;first | exact Calls.ext_of1 (qkf _ _ _ (by omega) (by omega)) | exact Calls.ext_of (qkf _ _ _ (by omega) (by omega)))) | (refine RegC.wpQuiet_split rfl rfl (fun hb=>?_) (fun hb=>?_)<;>simp only [hb]))));all_goals (refine wpQuiet_nil ?_;rintro _ ⟨nq,rfl⟩))
      go_wp2
      · have hg : 1 < Nat.gcd dn n.natAbs := by omega
        go_ret
        exact ⟨qkc (E2.out (by simp only [Int.toNat_natCast];omega)).symm,ext_of (((Bel.refl _).alloc _).ext _)⟩
      · have hg : ¬ 1 < Nat.gcd dn n.natAbs := by omega
        go_ret
        exact ⟨qkc (E1.out (E3.out (by simpa using hg))).symm,ext_of (((Bel.refl _).alloc _).ext _)⟩


end Go.Proofs.Ytbjpmdhdoggobaa

namespace Go.Proofs.Ytbjpmdhdoggobaa
open Go.RowKit Go.Pel


set_option maxHeartbeats 400000 in
theorem qkh (n:Int) (w:World):Calls Try.prog 65 #[.int .i64 n] w fun e w'=>e=.returned (.bool (far n))∧∃ x,w'=ext w x:=by
  go_enter Try.func65,Try.ntmps65
  go_wp2
  all_goals (go_ret;exact ⟨qkd (by first | exact (qe7 _).symm | (rw [qe7];simp [*];done) | (rw [qe7];simp;omega)),ext_of (by (try simp only [qc8]);repeat (first | exact Bel.refl _ | assumption | refine qch ?_ _ | refine qci ?_ _ | refine Bel.ext ?_ _ | refine Bel.alloc ?_ _ | refine Bel.drewN ?_ _))⟩)

set_option maxHeartbeats 400000 in
theorem qki (i a b:Int) (w:World) :
    Calls Try.prog 40 #[.agg #[.int .i64 i,.int .i64 a,.int .i64 b]] w fun e w'=>e=.returned (.int .i64 (qe0 i a b))∧∃ x,w'=ext w x:=by
  have E1:=Lib.hid (qe1 (i:=i) (a:=a) (b:=b))
  have E2:=Lib.hid (qe2 (i:=i) (a:=a) (b:=b))
  go_enter Try.func40,Try.ntmps40
  go_wp2_with (first | (go_at_call 65;refine (qkh _ _).mono ?_;rintro e _ ⟨rfl,nx,rfl⟩))
  all_goals (go_ret;exact ⟨qkc (by (try simp only [qea,qeb] at *);first | exact (E2.out (by omega)).symm | exact (E1.out (by omega)).symm),ext_of (by (try simp only [qc8]);repeat (first | exact Bel.refl _ | assumption | refine qch ?_ _ | refine qci ?_ _ | refine Bel.ext ?_ _ | refine Bel.alloc ?_ _ | refine Bel.drewN ?_ _))⟩)

end Go.Proofs.Ytbjpmdhdoggobaa

namespace Go.Proofs.Ytbjpmdhdoggobaa
open Go.RowKit Go.Pel

end Go.Proofs.Ytbjpmdhdoggobaa

namespace Go.Proofs.Ytbjpmdhdoggobaa
open Go.RowKit Go.Pel
end Go.Proofs.Ytbjpmdhdoggobaa

namespace Go.Pel
open Go Go.RowKit
def un (a:Int):Nat:=(a % 18446744073709551616).toNat
theorem qkl (a:Int):un a<18446744073709551616:=by unfold un;omega
theorem qkm (a:Int):((un a:Nat):Int)=a % 18446744073709551616:=by unfold un;omega
theorem qkn {a:Int} (h:0≤a) (h2:a<9223372036854775808):((un a:Nat):Int)=a:=by rw [qkm];omega
theorem qko {a:Int} (h:a<0) (h2:-9223372036854775808≤a):((un a:Nat):Int)=a+18446744073709551616:=by rw [qkm];omega
theorem qkp (a b:Int) (ha:-9223372036854775808≤a∧a<9223372036854775808) (hb:-9223372036854775808≤b∧b<9223372036854775808) :
    ((un a*un b:Nat):Int)=a*b+18446744073709551616*((if a<0 then b else 0)+(if b<0 then a else 0))+(if a<0∧b<0 then 340282366920938463463374607431768211456 else 0):=by
  have e:((un a*un b:Nat):Int)=(un a:Int)*(un b:Int):=by simp
  rw [e]
  by_cases h1:a<0<;>by_cases h2:b<0
  · rw [qko h1 ha.1, qko h2 hb.1]
    simp only [h1,h2,if_true,and_self,Int.add_mul,Int.mul_add]
    have:b*18446744073709551616=18446744073709551616*b:=Int.mul_comm _ _
    omega
  · rw [qko h1 ha.1, qkn (by omega) hb.2]
    simp only [h1,h2,if_true,if_false,and_false,Int.add_mul,Int.mul_add]
    omega
  · rw [qkn (by omega) ha.2, qko h2 hb.1]
    simp only [h1,h2,if_true,if_false,false_and,Int.add_mul,Int.mul_add]
    omega
  · rw [qkn (by omega) ha.2, qkn (by omega) hb.2]
    simp only [h1,h2,if_false,false_and]
    omega
def hiOf (a b:Int):Int:=wrap64 (wrap64 (wrap64 ((un a*un b / 18446744073709551616:Nat):Int) - (if a<0 then b else 0)) - (if b<0 then a else 0))
theorem qkq (a b:Int) (ha:-9223372036854775808≤a∧a<9223372036854775808) (hb:-9223372036854775808≤b∧b<9223372036854775808) (hP:-77371252455336267181195264≤a*b∧a*b≤77371252455336267181195264):hiOf a b=a*b / 18446744073709551616:=by
  have h:=qkp a b ha hb
  unfold hiOf
  generalize un a*un b=U at h
  generalize a*b=P at h hP ⊢
  unfold wrap64
  by_cases h1:a<0<;>by_cases h2:b<0<;>simp only [h1,h2,if_true,if_false,and_true,and_false,and_self,Int.sub_zero,Int.add_zero,Int.zero_add,Int.mul_zero] at h ⊢ <;> omega
theorem qkr (a b:Int) (ha:-9223372036854775808≤a∧a<9223372036854775808) (hb:-9223372036854775808≤b∧b<9223372036854775808):((un a*un b % 18446744073709551616:Nat):Int)=a*b % 18446744073709551616:=by
  have h:=qkp a b ha hb
  generalize un a*un b=U at h ⊢
  generalize a*b=P at h ⊢
  by_cases h1:a<0<;>by_cases h2:b<0<;>simp only [h1,h2,if_true,if_false,and_true,and_false,and_self,Int.add_zero,Int.zero_add,Int.mul_zero] at h<;>omega
def farD (p q:Pt) (n d:Int):Int:=(p.a - q.a)*d+(p.b - q.b)*n
def leads (p q:Pt) (n d:Int):Bool:=if farD p q n d≠0 then decide (0<farD p q n d) else if p.b≠q.b then decide (q.b<p.b) else decide (p.id<q.id)
def cmpZ (a b:Int):Int:=if a<b then -1 else if b<a then 1 else 0
theorem qks {a b:Int} (h:a<b):cmpZ a b=-1:=if_pos h
theorem qkt {a b:Int} (h:b<a):cmpZ a b=1:=by unfold cmpZ;rw [if_neg (by omega),if_pos h]
theorem qku {a b:Int} (h:a=b):cmpZ a b=0:=by unfold cmpZ;rw [if_neg (by omega),if_neg (by omega)]
def orZ (x y:Int):Int:=if x≠0 then x else y
theorem qkv {x y:Int} (h:x=0):orZ x y=y:=if_neg (by simpa using h)
theorem qkw {x y:Int} (h:x≠0):orZ x y=x:=if_pos h
def cmpC (p q:Pt) (n d:Int):Int:=if farD p q n d<0 then -1 else if 0<farD p q n d then 1 else if cmpZ p.b q.b≠0 then cmpZ p.b q.b else cmpZ q.id p.id
theorem qkx {p q:Pt} {n d:Int} (h:farD p q n d<0):cmpC p q n d=-1:=if_pos h
theorem qky {p q:Pt} {n d:Int} (h:0<farD p q n d):cmpC p q n d=1:=by unfold cmpC;rw [if_neg (by omega),if_pos h]
theorem qkz {p q:Pt} {n d:Int} (h:farD p q n d=0) (hb:p.b≠q.b):cmpC p q n d=cmpZ p.b q.b:=by
  unfold cmpC;rw [if_neg (by omega),if_neg (by omega),if_pos]
  rcases Int.lt_or_gt_of_ne hb with h1 | h1
  · rw [qks h1];decide
  · rw [qkt h1];decide
theorem ql0 {p q:Pt} {n d:Int} (h:farD p q n d=0) (hb:p.b=q.b):cmpC p q n d=cmpZ q.id p.id:=by
  unfold cmpC;rw [if_neg (by omega),if_neg (by omega),if_neg (by rw [qku hb];decide)]
theorem ql1 (p q:Pt) (n d:Int):decide (0<cmpC p q n d)=leads p q n d:=by
  unfold leads
  rcases (by omega:farD p q n d<0∨farD p q n d=0∨0<farD p q n d) with h | h | h
  · rw [qkx h,if_pos (by omega)];simp;omega
  · rw [if_neg (by omega)]
    by_cases hb:p.b=q.b
    · rw [ql0 h hb, if_neg (by omega)]
      rcases (by omega:p.id<q.id∨q.id<p.id∨p.id=q.id) with h2 | h2 | h2
      · rw [qkt h2];simp;omega
      · rw [qks h2];simp;omega
      · rw [qku h2.symm];simp;omega
    · rw [qkz h hb, if_pos hb]
      rcases (by omega:p.b<q.b∨q.b<p.b) with h1 | h1
      · rw [qks h1];simp;omega
      · rw [qkt h1];simp;omega
  · rw [qky h,if_pos (by omega)];simp;omega
def ql2 (p q:Pt) (n d:Int):Int:=if p.chk=0∧q.chk=0∧qdm n d=0 then (if p.id=q.id then 2 else 0) else 8
theorem ql3 {p q:Pt} {n d:Int} (h:¬ (p.chk=0∧q.chk=0∧qdm n d=0)):ql2 p q n d=8:=if_neg h
theorem ql4 {p q:Pt} {n d:Int} (h:p.chk=0∧q.chk=0∧qdm n d=0) (hi:p.id=q.id):ql2 p q n d=2:=by unfold ql2;rw [if_pos h,if_pos hi]
theorem ql5 {p q:Pt} {n d:Int} (h:p.chk=0∧q.chk=0∧qdm n d=0) (hi:p.id≠q.id):ql2 p q n d=0:=by unfold ql2;rw [if_pos h,if_neg hi]
theorem ql6 {p q:Pt} {n d:Int} (h:ql2 p q n d=0):p.chk=0∧q.chk=0∧qdm n d=0∧p.id≠q.id:=by
  unfold ql2 at h
  split at h
  · rename_i h1
    split at h
    · omega
    · exact ⟨h1.1,h1.2.1,h1.2.2,‹_›⟩
  · omega
def ql7 (p q:Pt) (n d:Int):Bool×Int:=if ql2 p q n d=0 then (leads p q n d,0) else (false,ql2 p q n d)
end Go.Pel

namespace Go.Proofs
open Go.Shelf
def Try.lays264_ren:Go.Shelf.Ren:=⟨fun | 264=>63 | n=>n,fun | 53=>67 | 46=>73 | n=>n,fun | n=>n⟩
theorem Try.lays264:Go.Proofs.Lays.n264 Try.prog Try.lays264_ren:={
  mixed:=by kernel_rfl
  f264:=Try.func63.trans (congrArg some (by kernel_rfl))
  t46:=Try.underlying73
  a46:=Try.isAgg73
  z46:=Try.sizeOf73
  v46:=Try.zeroValue73
  t53:=Try.underlying67
  a53:=Try.isAgg67
  z53:=Try.sizeOf67
  v53:=Try.zeroValue67 }
open Go.RowKit Go.Lib in
theorem Try.bits_Mul64 (x y:Nat) (hx:x<18446744073709551616) (hy:y<18446744073709551616) (w:World) :
    Calls Try.prog 63 #[.int .u64 x,.int .u64 y] w fun e w'=>e=.returned (.tuple #[.int .u64 ((x*y / 18446744073709551616:Nat):Int),.int .u64 ((x*y % 18446744073709551616:Nat):Int)])∧w'=w:=Any.bits_Mul64 Try.lays264 x y hx hy w
end Go.Proofs

namespace Go.Proofs.Ytbjpmdhdoggobaa
open Go.RowKit Go.Pel
theorem ql8 (x y c:Nat) (hx:x<18446744073709551616) (hy:y<18446744073709551616) (hc:c≤1) (w:World) :
    (callFunc 66 #[.int .u64 x,.int .u64 y,.int .u64 c]).run Try.prog w =
      .ok (.value (.tuple #[.int .u64 (((x+y+c) % 18446744073709551616:Nat):Int),.int .u64 (((x+y+c) / 18446744073709551616:Nat):Int)])) w:=by
  rw [run_callFunc_extern Try.func66 (by kernel_rfl) (by kernel_rfl) (by kernel_rfl) (e:=add64Entry) (by kernel_rfl),run_add64 x y c (by omega) (by omega) (by omega) (by omega)]
  simp only [Result.andThen]
  congr 5<;>omega
theorem ql9 {a b Z:Int} {H:Nat} (hH:un a*un b / 18446744073709551616=H) (hZ:hiOf a b=Z):(decide (a<0)=true∧decide (b<0)=true∧wrap64 (wrap64 (wrap64 (H:Int) - b) - a)=Z)∨(decide (a<0)=true∧decide (b<0)=false∧wrap64 (wrap64 (H:Int) - b)=Z)∨(decide (a<0)=false∧decide (b<0)=true∧wrap64 (wrap64 (H:Int) - a)=Z)∨(decide (a<0)=false∧decide (b<0)=false∧wrap64 (H:Int)=Z):=by
  have w2:∀ x,wrap64 (wrap64 x)=wrap64 x:=fun x=>by unfold wrap64;omega
  unfold hiOf at hZ
  rw [hH] at hZ
  by_cases h1:a<0<;>by_cases h2:b<0<;>simp only [h1,h2,if_true,if_false,Int.sub_zero,w2] at hZ<;>simp [h1,h2,hZ]
theorem qla (a b:Int) (H L:Nat) (hH:un a*un b / 18446744073709551616=H) (hL:un a*un b % 18446744073709551616=L) (w:World) :
    Calls Try.prog 63 #[.int .u64 (IntKind.u64.wrap a),.int .u64 (IntKind.u64.wrap b)] w fun e w'=>e=.returned (.tuple #[.int .u64 (H:Int),.int .u64 (L:Int)])∧∃ x,w'=ext w x:=by
  have h:=Try.bits_Mul64 (un a) (un b) (qkl a) (qkl b) w
  rw [hH,hL] at h
  have e1:((un a:Nat):Int)=IntKind.u64.wrap a:=by rw [qkm,IntKind.wrap_u64]
  have e2:((un b:Nat):Int)=IntKind.u64.wrap b:=by rw [qkm,IntKind.wrap_u64]
  rw [e1,e2] at h
  exact h.mono fun _ _ ⟨he,hw⟩=>⟨he,ext_of (hw ▸ Bel.refl _)⟩
theorem qlb (L:Nat) (hL:L<18446744073709551616) (w:World):(callFunc 66 #[.int .u64 0,.int .u64 (L:Int),.int .u64 0]).run Try.prog w=.ok (.value (.tuple #[.int .u64 (L:Int),.int .u64 0])) w:=by
  have h:=ql8 0 L 0 (by omega) hL (by omega) w
  have e1:(0+L+0) % 18446744073709551616=L:=by omega
  have e2:(0+L+0) / 18446744073709551616=0:=by omega
  rw [e1,e2] at h
  exact h
set_option maxRecDepth 10000 in
set_option maxHeartbeats 8000000 in
theorem qlc (a b c d:Int) (w:World) (ha:-9223372036854775808≤a∧a<9223372036854775808) (hb:-9223372036854775808≤b∧b<9223372036854775808) (hc:-9223372036854775808≤c∧c<9223372036854775808) (hd:-9223372036854775808≤d∧d<9223372036854775808)
    (hab:-38685626227668133590597632≤a*b∧a*b≤38685626227668133590597632) (hcd:-38685626227668133590597632≤c*d∧c*d≤38685626227668133590597632) :
    Calls Try.prog 41 #[.agg #[.int .i64 a,.int .i64 b,.int .i64 c,.int .i64 d]] w fun e w'=>e=.returned (.agg #[.int .i64 ((a*b+c*d) / 18446744073709551616),.int .u64 ((a*b+c*d) % 18446744073709551616)])∧∃ x,w'=ext w x:=by
  have i0:∀ w,(Instr.index 86 (.agg #[.int .i64 a,.int .i64 b,.int .i64 c,.int .i64 d]) (.int .i64 0)).run Try.prog w=.ok (.agg #[.int .i64 a,.int .i64 b]) w:=fun _=>by kernel_rfl
  have i1:∀ w,(Instr.index 86 (.agg #[.int .i64 a,.int .i64 b,.int .i64 c,.int .i64 d]) (.int .i64 1)).run Try.prog w=.ok (.agg #[.int .i64 c,.int .i64 d]) w:=fun _=>by kernel_rfl
  obtain ⟨H1,hH1⟩:∃ H,un a*un b / 18446744073709551616=H:=⟨_,rfl⟩
  obtain ⟨L1,hL1⟩:∃ L,un a*un b % 18446744073709551616=L:=⟨_,rfl⟩
  obtain ⟨H2,hH2⟩:∃ H,un c*un d / 18446744073709551616=H:=⟨_,rfl⟩
  obtain ⟨L2,hL2⟩:∃ L,un c*un d % 18446744073709551616=L:=⟨_,rfl⟩
  have q1:=Lib.hid (qla a b H1 L1 hH1 hL1)
  have q2:=Lib.hid (qla c d H2 L2 hH2 hL2)
  have a1:=qlb L1 (by omega)
  have L1b:L1<18446744073709551616:=by omega
  have L2b:L2<18446744073709551616:=by omega
  obtain ⟨S,hS⟩:∃ S,(L1+L2+0) % 18446744073709551616=S:=⟨_,rfl⟩
  obtain ⟨C,hC⟩:∃ C,(L1+L2+0) / 18446744073709551616=C:=⟨_,rfl⟩
  have a2:∀ w,(callFunc 66 #[.int .u64 (L1:Int),.int .u64 (L2:Int),.int .u64 0]).run Try.prog w=.ok (.value (.tuple #[.int .u64 (S:Int),.int .u64 (C:Int)])) w:=fun w=>by
    have h:=ql8 L1 L2 0 L1b L2b (by omega) w
    rw [hS,hC] at h;exact h
  obtain ⟨Z1,hZ1⟩:∃ Z,hiOf a b=Z:=⟨_,rfl⟩
  obtain ⟨Z2,hZ2⟩:∃ Z,hiOf c d=Z:=⟨_,rfl⟩
  have z1:Z1=a*b / 18446744073709551616:=by rw [← hZ1];exact qkq a b ha hb (by omega)
  have z2:Z2=c*d / 18446744073709551616:=by rw [← hZ2];exact qkq c d hc hd (by omega)
  have l1:=qkr a b ha hb
  have l2:=qkr c d hc hd
  rw [hL1] at l1
  rw [hL2] at l2
  have k1:=ql9 hH1 hZ1
  have k2:=ql9 hH2 hZ2
  have w1:wrap64 Z1=Z1:=by unfold wrap64;omega
  have hfin:Hid (wrap64 (wrap64 (Z1+Z2)+wrap64 (C:Int))=(a*b+c*d) / 18446744073709551616∧(S:Int)=(a*b+c*d) % 18446744073709551616):=Lib.hid (by
    have hs:(S:Int)=((L1:Int)+L2) % 18446744073709551616:=by omega
    have hcc:(C:Int)=((L1:Int)+L2) / 18446744073709551616:=by omega
    generalize a*b=P1 at *
    generalize c*d=P2 at *
    unfold wrap64
    constructor<;>omega)
  have HF:=hfin
  clear hH1 hL1 hH2 hL2 hS hC hZ1 hZ2 z1 z2 l1 l2 hab hcd hfin L1b L2b
  obtain ⟨ha1,ha2⟩:=ha;obtain ⟨hb1,hb2⟩:=hb;obtain ⟨hc1,hc2⟩:=hc;obtain ⟨hd1,hd2⟩:=hd
  rcases k1 with ⟨sa,sb,e1⟩ | ⟨sa,sb,e1⟩ | ⟨sa,sb,e1⟩ | ⟨sa,sb,e1⟩
  all_goals
    rcases k2 with ⟨sc,sd,e2⟩ | ⟨sc,sd,e2⟩ | ⟨sc,sd,e2⟩ | ⟨sc,sd,e2⟩
  all_goals
    go_enter Try.func41,Try.ntmps41
    go_wp2
    refine wp_loop_rounds 3 ?_
    rw [rounds_succ]
    go_wp2_with ((go_at_call 63;refine (q1.out _).mono ?_;rintro e _ ⟨rfl,y1,rfl⟩))
    rw [rounds_succ]
    go_wp2_with ((go_at_call 63;refine (q2.out _).mono ?_;rintro e _ ⟨rfl,y2,rfl⟩))
    rw [rounds_succ]
    go_wp2
    exact bodyPost_ret (v:=.agg #[.int .i64 (wrap64 (wrap64 (Z1+Z2)+wrap64 (C:Int))),.int .u64 (S:Int)]) (by simp [results,Try.results41,go_sem]) rfl ⟨by rw [HF.out.1,HF.out.2],ext_of (by (try simp only [qc8]);repeat (first | exact Bel.refl _ | assumption | refine qch ?_ _ | refine qci ?_ _ | refine Bel.ext ?_ _ | refine Bel.alloc ?_ _ | refine Bel.drewN ?_ _))⟩
end Go.Proofs.Ytbjpmdhdoggobaa

namespace Go.Proofs.Ytbjpmdhdoggobaa
open Go.RowKit Go.Pel
def cmpI (a b:Int):Int:=if a<b then -1 else if b<a then 1 else 0
theorem qld {a b:Int} (h:a<b):cmpI a b=-1:=if_pos h
theorem qle {a b:Int} (h:b<a):cmpI a b=1:=by unfold cmpI;rw [if_neg (by omega),if_pos h]
theorem qlf {a b:Int} (h:a=b):cmpI a b=0:=by unfold cmpI;rw [if_neg (by omega),if_neg (by omega)]
set_option maxHeartbeats 400000 in
theorem qlg (a b:Int) (w:World):Calls Try.prog 82 #[.int .i64 a,.int .i64 b] w fun e w'=>e=.returned (.int .i64 (cmpI a b))∧∃ x,w'=ext w x:=by
  rcases (by omega:a<b∨b<a∨a=b) with h | h | h
  · have H := Lib.hid (qld h)
    have h2:¬ b<a:=by omega
    go_enter Try.func82,Try.ntmps82
    go_wp2
    (go_ret;exact ⟨qkc (by exact H.out.symm),ext_of (by (try simp only [qc8]);repeat (first | exact Bel.refl _ | assumption | refine qch ?_ _ | refine qci ?_ _ | refine Bel.ext ?_ _ | refine Bel.alloc ?_ _ | refine Bel.drewN ?_ _))⟩)
  · have H := Lib.hid (qle h)
    have h2:¬ a<b:=by omega
    go_enter Try.func82,Try.ntmps82
    go_wp2
    (go_ret;exact ⟨qkc (by exact H.out.symm),ext_of (by (try simp only [qc8]);repeat (first | exact Bel.refl _ | assumption | refine qch ?_ _ | refine qci ?_ _ | refine Bel.ext ?_ _ | refine Bel.alloc ?_ _ | refine Bel.drewN ?_ _))⟩)
  · have H := Lib.hid (qlf h)
    have h2:¬ a<b:=by omega
    have h3:¬ b<a:=by omega
    clear h
    go_enter Try.func82,Try.ntmps82
    go_wp2
    (go_ret;exact ⟨qkc (by exact H.out.symm),ext_of (by (try simp only [qc8]);repeat (first | exact Bel.refl _ | assumption | refine qch ?_ _ | refine qci ?_ _ | refine Bel.ext ?_ _ | refine Bel.alloc ?_ _ | refine Bel.drewN ?_ _))⟩)
end Go.Proofs.Ytbjpmdhdoggobaa

namespace Go.Proofs.Ytbjpmdhdoggobaa
open Go.RowKit Go.Pel
set_option maxHeartbeats 400000 in
theorem qlh (a b:Int) (w:World):Calls Try.prog 82 #[.int .i64 a,.int .i64 b] w fun e w'=>e=.returned (.int .i64 (cmpZ a b))∧∃ x,w'=ext w x:=qlg a b w
set_option maxHeartbeats 400000 in
theorem qli (a b:Int) (w:World):Calls Try.prog 36 #[.int .i64 a,.int .i64 b] w fun e w'=>e=.returned (.int .i64 (cmpZ a b))∧∃ x,w'=ext w x:=by
  rcases (by omega:a<b∨b<a∨a=b) with h | h | h
  · have H := Lib.hid (qks h)
    have h2:¬ b<a:=by omega
    go_enter Try.func36,Try.ntmps36
    go_wp2
    (go_ret;exact ⟨qkc (by exact H.out.symm),ext_of (by (try simp only [qc8]);repeat (first | exact Bel.refl _ | assumption | refine qch ?_ _ | refine qci ?_ _ | refine Bel.ext ?_ _ | refine Bel.alloc ?_ _ | refine Bel.drewN ?_ _))⟩)
  · have H := Lib.hid (qkt h)
    have h2:¬ a<b:=by omega
    go_enter Try.func36,Try.ntmps36
    go_wp2
    (go_ret;exact ⟨qkc (by exact H.out.symm),ext_of (by (try simp only [qc8]);repeat (first | exact Bel.refl _ | assumption | refine qch ?_ _ | refine qci ?_ _ | refine Bel.ext ?_ _ | refine Bel.alloc ?_ _ | refine Bel.drewN ?_ _))⟩)
  · have H := Lib.hid (qku h)
    have h2:¬ a<b:=by omega
    have h3:¬ b<a:=by omega
    clear h
    go_enter Try.func36,Try.ntmps36
    go_wp2
    (go_ret;exact ⟨qkc (by exact H.out.symm),ext_of (by (try simp only [qc8]);repeat (first | exact Bel.refl _ | assumption | refine qch ?_ _ | refine qci ?_ _ | refine Bel.ext ?_ _ | refine Bel.alloc ?_ _ | refine Bel.drewN ?_ _))⟩)
set_option maxHeartbeats 1000000 in
theorem qlj (x y:Int) (g:Nat) (w:World) (hg:g<w.heap.size) (h0:w.cell? ⟨g,0,none⟩=some (.int .i64 x)) (h1:w.cell? ⟨g,1,none⟩=some (.int .i64 y)) :
    Calls Try.prog 91 #[.slice (some ⟨g,0,none⟩) 2 2] w fun e w'=>e=.returned (.int .i64 (orZ x y))∧∃ x,w'=ext w x:=by
  by_cases hx:x=0
  · have HR : Hid (orZ x y = y) := Lib.hid (qkv hx)
    have hx1:(x == 0)=true:=by simpa using hx
    have hx2:(x != 0)=false:=by simpa using hx
    clear hx
    by_cases hy:y=0
    · have HY := Lib.hid hy
      have hy1:(y == 0)=true:=by simpa using hy
      have hy2:(y != 0)=false:=by simpa using hy
      clear hy
      go_enter Try.func91,Try.ntmps91
      go_wp2
      refine wp_loop_rounds 3 ?_
      rw [rounds_succ]
      go_wp2
      rw [rounds_succ]
      go_wp2
      rw [rounds_succ]
      go_wp2
      (go_ret;exact ⟨qkc (by rw [HR.out,HY.out]),ext_of (by (try simp only [qc8]);repeat (first | exact Bel.refl _ | assumption | refine qch ?_ _ | refine qci ?_ _ | refine Bel.ext ?_ _ | refine Bel.alloc ?_ _ | refine Bel.drewN ?_ _))⟩)
    · have hy1 : (y == 0) = false := by simpa using hy
      have hy2:(y != 0)=true:=by simpa using hy
      clear hy
      go_enter Try.func91,Try.ntmps91
      go_wp2
      refine wp_loop_rounds 3 ?_
      rw [rounds_succ]
      go_wp2
      rw [rounds_succ]
      go_wp2
      (go_ret;exact ⟨qkc (by exact HR.out.symm),ext_of (by (try simp only [qc8]);repeat (first | exact Bel.refl _ | assumption | refine qch ?_ _ | refine qci ?_ _ | refine Bel.ext ?_ _ | refine Bel.alloc ?_ _ | refine Bel.drewN ?_ _))⟩)
  · have HR : Hid (orZ x y = x) := Lib.hid (qkw hx)
    have hx1:(x == 0)=false:=by simpa using hx
    have hx2:(x != 0)=true:=by simpa using hx
    clear hx
    go_enter Try.func91,Try.ntmps91
    go_wp2
    refine wp_loop_rounds 3 ?_
    rw [rounds_succ]
    go_wp2
    (go_ret;exact ⟨qkc (by exact HR.out.symm),ext_of (by (try simp only [qc8]);repeat (first | exact Bel.refl _ | assumption | refine qch ?_ _ | refine qci ?_ _ | refine Bel.ext ?_ _ | refine Bel.alloc ?_ _ | refine Bel.drewN ?_ _))⟩)
structure CmpIn (p q:Pt) (n d:Int):Prop where
  pa:-1048576≤p.a∧p.a≤1048576
  pb:-1048576≤p.b∧p.b≤1048576
  qa:-1048576≤q.a∧q.a≤1048576
  qb:-1048576≤q.b∧q.b≤1048576
  n:-9223372036854775807≤n∧n≤9223372036854775807
  d:1≤d∧d≤9223372036854775807
theorem qlk (a b A B:Int) (ha:-A≤a∧a≤A) (hb:-B≤b∧b≤B):-(A*B)≤a*b∧a*b≤A*B:=by
  have hA:0≤A:=by omega
  have hB:0≤B:=by omega
  have h1:0≤(A - a)*(B+b):=Int.mul_nonneg (by omega) (by omega)
  have h2:0≤(A+a)*(B - b):=Int.mul_nonneg (by omega) (by omega)
  have h3:0≤(A - a)*(B - b):=Int.mul_nonneg (by omega) (by omega)
  have h4:0≤(A+a)*(B+b):=Int.mul_nonneg (by omega) (by omega)
  simp only [Int.sub_mul,Int.add_mul,Int.mul_sub,Int.mul_add] at h1 h2 h3 h4
  omega
theorem qll {p q:Pt} {n d:Int} (h:CmpIn p q n d):(-38685626227668133590597632≤(p.a - q.a)*d∧(p.a - q.a)*d≤38685626227668133590597632)∧(-38685626227668133590597632≤(p.b - q.b)*n∧(p.b - q.b)*n≤38685626227668133590597632):=by
  obtain ⟨h1,h2,h3,h4,h5,h6⟩:=h
  have k1:=qlk (p.a - q.a) d 2097152 9223372036854775807 (by omega) (by omega)
  have k2:=qlk (p.b - q.b) n 2097152 9223372036854775807 (by omega) (by omega)
  omega
theorem qlm (h l h' l':Int) (w:World):(Op.equalIn 10000 83 (.agg #[.int .i64 h,.int .u64 l]) (.agg #[.int .i64 h',.int .u64 l'])).run Try.prog w=.ok (decide (h=h'∧l=l')) w:=by
  simp [go_sem]
  by_cases h1:h=h'<;>by_cases h2:l=l'<;>simp [h1,h2]
attribute [local go_sem ↓] qlm
set_option maxRecDepth 10000 in
set_option maxHeartbeats 2000000 in
theorem qln (p q:Pt) (n d:Int) (w:World) (h:CmpIn p q n d) :
    Calls Try.prog 73 #[.agg #[.int .i64 p.id,.int .i64 p.a,.int .i64 p.b],.agg #[.int .i64 q.id,.int .i64 q.a,.int .i64 q.b],.agg #[.int .i64 n,.int .i64 d]] w fun e w'=>e=.returned (.int .i64 (cmpC p q n d))∧∃ x,w'=ext w x:=by
  obtain ⟨k1,k2⟩:=qll h
  obtain ⟨h1,h2,h3,h4,h5,h6⟩:=h
  have hs:=qlc (p.a - q.a) d (p.b - q.b) n
  have hs':=fun w=>hs w (by omega) (by omega) (by omega) (by omega) k1 k2
  obtain ⟨D,hD⟩:∃ D,farD p q n d=D:=⟨_,rfl⟩
  have hD':(p.a - q.a)*d+(p.b - q.b)*n=D:=hD
  rw [hD'] at hs'
  obtain ⟨hi,hhi⟩:∃ x,D / 18446744073709551616=x:=⟨_,rfl⟩
  obtain ⟨lo,hlo⟩:∃ x,D % 18446744073709551616=x:=⟨_,rfl⟩
  rw [hhi,hlo] at hs'
  have q1:=Lib.hid hs'
  have HD:=Lib.hid hD
  obtain ⟨a1,a2⟩:=h1;obtain ⟨a3,a4⟩:=h2;obtain ⟨a5,a6⟩:=h3;obtain ⟨a7,a8⟩:=h4
  rcases (by omega:D<0∨0<D∨D=0) with hd0 | hd0 | hd0
  · have hne : decide (hi = 0 ∧ lo = 0) = false := by rw [decide_eq_false_iff_not]; omega
    have hlt:hi<0:=by omega
    have HR:=Lib.hid (qkx (p:=p) (q:=q) (n:=n) (d:=d) (by omega))
    clear hs hs' hD hD' hhi hlo k1 k2 h5 h6 hd0
    go_enter Try.func73,Try.ntmps73
    go_wp2_with ((go_at_call 41;refine (q1.out _).mono ?_;rintro e _ ⟨rfl,nx,rfl⟩))
    (go_ret;exact ⟨qkc (by exact HR.out.symm),ext_of (by (try simp only [qc8]);repeat (first | exact Bel.refl _ | assumption | refine qch ?_ _ | refine qci ?_ _ | refine Bel.ext ?_ _ | refine Bel.alloc ?_ _ | refine Bel.drewN ?_ _))⟩)
  · have hne : decide (hi = 0 ∧ lo = 0) = false := by rw [decide_eq_false_iff_not]; omega
    have hlt:¬ hi<0:=by omega
    have HR:=Lib.hid (qky (p:=p) (q:=q) (n:=n) (d:=d) (by omega))
    clear hs hs' hD hD' hhi hlo k1 k2 h5 h6 hd0
    go_enter Try.func73,Try.ntmps73
    go_wp2_with ((go_at_call 41;refine (q1.out _).mono ?_;rintro e _ ⟨rfl,nx,rfl⟩))
    (go_ret;exact ⟨qkc (by exact HR.out.symm),ext_of (by (try simp only [qc8]);repeat (first | exact Bel.refl _ | assumption | refine qch ?_ _ | refine qci ?_ _ | refine Bel.ext ?_ _ | refine Bel.alloc ?_ _ | refine Bel.drewN ?_ _))⟩)
  · have hne : decide (hi = 0 ∧ lo = 0) = true := by rw [decide_eq_true_eq]; omega
    have HR:Hid (orZ (cmpZ p.b q.b) (cmpZ q.id p.id)=cmpC p q n d):=Lib.hid (by unfold cmpC;rw [if_neg (by omega),if_neg (by omega)];rfl)
    clear hs hs' hD hD' hhi hlo k1 k2 h5 h6 hd0
    go_enter Try.func73,Try.ntmps73
    go_wp2_with ((go_at_call 41;refine (q1.out _).mono ?_;rintro e _ ⟨rfl,y1,rfl⟩))
    go_region_held3 (fun w'=>w'.cell? ⟨w.heap.size,0,none⟩=some (.int .i64 p.id)∧w'.cell? ⟨w.heap.size,1,none⟩=some (.int .i64 p.a)∧w'.cell? ⟨w.heap.size,2,none⟩=some (.int .i64 p.b)∧w'.cell? ⟨w.heap.size+1,0,none⟩=some (.int .i64 q.id)∧w'.cell? ⟨w.heap.size+1,1,none⟩=some (.int .i64 q.a)∧w'.cell? ⟨w.heap.size+1,2,none⟩=some (.int .i64 q.b)) (simp [go_sem]) ((first | (go_at_call 82;refine (qlh _ _ _).mono ?_;rintro e _ ⟨rfl,nx,rfl⟩) | (go_at_call 36;refine (qli _ _ _).mono ?_;rintro e _ ⟨rfl,nx,rfl⟩) | (go_at_call 91;refine (qlj (cmpZ p.b q.b) (cmpZ q.id p.id) _ _ (by simp [go_sem]) (by simp [go_sem]) (by simp [go_sem])).mono ?_;rintro e _ ⟨rfl,nx,rfl⟩)))
    all_goals
      go_wp2
      (go_ret;exact ⟨qkc (by exact HR.out),ext_of (by (try simp only [qc8]);repeat (first | exact Bel.refl _ | assumption | refine qch ?_ _ | refine qci ?_ _ | refine Bel.ext ?_ _ | refine Bel.alloc ?_ _ | refine Bel.drewN ?_ _))⟩)
end Go.Proofs.Ytbjpmdhdoggobaa

namespace Go.Proofs.Ytbjpmdhdoggobaa
open Go.RowKit Go.Pel
theorem qlo (p:Pt) (v:Int) (h:p.chk=v) (W:World):Calls Try.prog 40 #[.agg #[.int .i64 p.id,.int .i64 p.a,.int .i64 p.b]] W fun e w'=>e=.returned (.int .i64 v)∧∃ y,w'=ext W y:=by
  subst h;exact qki p.id p.a p.b W
set_option maxRecDepth 10000 in
set_option maxHeartbeats 2000000 in
theorem qlp (A:Option Addr) (c:Nat) (l:List Pt) (w:World) (hs:Sl w 3 A l.length c (vp l)) :
    Calls Try.prog 46 #[.agg #[.slice A l.length c]] w fun e w'=>e=.returned (.int .i64 (qgq l))∧∃ x,w'=ext w x:=by
  by_cases hm:64<l.length
  · have E1 := Lib.hid (qgr hm)
    go_enter Try.func46,Try.ntmps46
    go_wp2
    (go_ret;exact ⟨qkc (by exact E1.out.symm),ext_of (by (try simp only [qc8]);repeat (first | exact Bel.refl _ | assumption | refine qch ?_ _ | refine qci ?_ _ | refine Bel.ext ?_ _ | refine Bel.alloc ?_ _ | refine Bel.drewN ?_ _))⟩)
  · have E1 := Lib.hid (fun p (hp : p ∈ l) hc => qgs (l := l) (by omega) hp hc)
    have E2:=Lib.hid (qgt (l:=l) (by omega))
    have E3:=Lib.hid (qgu (l:=l) (by omega))
    go_enter Try.func46,Try.ntmps46
    go_wp2
    go_loopw [15] (fun i wr=>∃ (k:Nat),k≤l.length∧i=.int .i64 k∧(∀ p∈l.take k,p.chk=0)∧∃ y,wr=ext (w.alloc (.cells #[.slice A l.length c] 24)) y) (fun i _=>l.length - (intOf i).toNat)
    case atStart=>exact ⟨0,Nat.zero_le _,rfl,by simp,ext_of (Bel.refl _)⟩
    case round =>
      obtain ⟨k,hk,rfl,hall,y,rfl⟩:=hrel
      have HA:=Lib.hid hall;clear hall
      by_cases hlt:k<l.length
      · obtain ⟨p, hp⟩ : ∃ p, l[k]? = some p := ⟨_, List.getElem?_eq_getElem hlt⟩
        obtain ⟨b,o,rfl,hb⟩:=hs.at_ (by omega)
        obtain ⟨r0,r1,r2⟩:=qgn hs hp
        have HP:=Lib.hid hp;clear hp
        rcases qgy p with h | h
        · have e1 := Lib.hid (qlo p 0 h)
          have HC:=Lib.hid h;clear h
          go_wp2_with ((go_at_call 40;refine (e1.out _).mono ?_;rintro e _ ⟨rfl,nx,rfl⟩))
          go_roundw
          case rel =>
            refine ⟨k+1,by omega,by go_num,?_,ext_of (by (try simp only [qc8]);repeat (first | exact Bel.refl _ | assumption | refine qch ?_ _ | refine qci ?_ _ | refine Bel.ext ?_ _ | refine Bel.alloc ?_ _ | refine Bel.drewN ?_ _))⟩
            intro q hq
            rw [List.take_add_one,HP.out] at hq
            rcases List.mem_append.1 hq with hq | hq
            · exact HA.out q hq
            · simp at hq;subst hq;exact HC.out
          case measure=>(first | (simp [intOf];done) | (simp [intOf];omega))
        · have e1 := Lib.hid (qlo p 8 h)
          have HC:=Lib.hid (E1.out p (List.mem_of_getElem? HP.out) (by rw [h];decide));clear h
          go_wp2_with ((go_at_call 40;refine (e1.out _).mono ?_;rintro e _ ⟨rfl,nx,rfl⟩))
          (go_ret;exact ⟨qkc (by exact HC.out.symm),ext_of (by (try simp only [qc8]);repeat (first | exact Bel.refl _ | assumption | refine qch ?_ _ | refine qci ?_ _ | refine Bel.ext ?_ _ | refine Bel.alloc ?_ _ | refine Bel.drewN ?_ _))⟩)
      · obtain rfl : k = l.length := by omega
        have hc0:=HA.out
        rw [List.take_length] at hc0
        have HC:=Lib.hid hc0;clear hc0
        go_wp2
        go_loopw [28] (fun i wr=>∃ (k:Nat),k≤l.length∧i=.int .i64 k∧(∀ (i:Nat) (p q:Pt),i+1<k→l[i]?=some p→l[i+1]?=some q→p.id<q.id)∧∃ y,wr=ext (w.alloc (.cells #[.slice A l.length c] 24)) y) (fun i _=>l.length - (intOf i).toNat)
        case atStart=>exact ⟨0,Nat.zero_le _,rfl,(by intro i p q h;omega),y,rfl⟩
        case round =>
          clear hk hlt HA
          obtain ⟨k,hk,rfl,hall,y2,rfl⟩:=hrel
          have HA:=Lib.hid hall;clear hall
          by_cases hlt:k<l.length
          · obtain ⟨p, hp⟩ : ∃ p, l[k]? = some p := ⟨_, List.getElem?_eq_getElem hlt⟩
            obtain ⟨b,o,rfl,hb⟩:=hs.at_ (by omega)
            obtain ⟨r0,r1,r2⟩:=qgn hs hp
            have HP:=Lib.hid hp;clear hp
            by_cases hk0:0<k
            · obtain ⟨m, rfl⟩ : ∃ m, k = m + 1 := ⟨k - 1, by omega⟩
              have hmlt:m<l.length:=by omega
              obtain ⟨q,hq⟩:∃ q,l[m]?=some q:=⟨_,List.getElem?_eq_getElem (by omega)⟩
              obtain ⟨q0,q1,q2⟩:=qgn hs hq
              have HQ:=Lib.hid hq;clear hq
              have hi0:(0:Int)≤(m:Int):=by omega
              have hi1:(m:Int)<(l.length:Int):=by omega
              by_cases hid:q.id<p.id
              · have hd : ¬ p.id ≤ q.id := by omega
                go_wp2
                ((first | refine RegC.wp_region_ext1 (by kernel_rfl) (by kernel_rfl) ?_ | refine RegC.wp_region_ext0 (by kernel_rfl) (by kernel_rfl) ?_);(repeat (any_goals (first | go_big_quiet_step (fail) | (refine RegC.wpQuiet_split rfl rfl (fun hb=>?_) (fun hb=>?_)<;>simp only [hb]))));all_goals (refine wpQuiet_nil ?_;rintro _ ⟨nq,rfl⟩))
                go_wp2
                go_roundw
                case rel =>
                  refine ⟨m+2,by omega,by go_num,?_,ext_of (by (try simp only [qc8]);repeat (first | exact Bel.refl _ | assumption | refine qch ?_ _ | refine qci ?_ _ | refine Bel.ext ?_ _ | refine Bel.alloc ?_ _ | refine Bel.drewN ?_ _))⟩
                  intro i p' q' hi hp' hq'
                  rcases Nat.lt_or_ge (i+1) (m+1) with h | h
                  · exact HA.out i p' q' h hp' hq'
                  · obtain rfl : i = m := by omega
                    rw [HQ.out] at hp'
                    rw [HP.out] at hq'
                    obtain rfl:=Option.some.inj hp'
                    obtain rfl:=Option.some.inj hq'
                    exact hid
                case measure=>(first | (simp [intOf];done) | (simp [intOf];omega))
              · have hd : p.id ≤ q.id := by omega
                have hbad:incB l=false:=by
                  rw [← Bool.not_eq_true,qgo];intro h;exact hid (h m q p HQ.out HP.out)
                have HB:=Lib.hid (E2.out HC.out hbad);clear hbad
                go_wp2
                ((first | refine RegC.wp_region_ext1 (by kernel_rfl) (by kernel_rfl) ?_ | refine RegC.wp_region_ext0 (by kernel_rfl) (by kernel_rfl) ?_);(repeat (any_goals (first | go_big_quiet_step (fail) | (refine RegC.wpQuiet_split rfl rfl (fun hb=>?_) (fun hb=>?_)<;>simp only [hb]))));all_goals (refine wpQuiet_nil ?_;rintro _ ⟨nq,rfl⟩))
                go_wp2
                (go_ret;exact ⟨qkc (by exact HB.out.symm),ext_of (by (try simp only [qc8]);repeat (first | exact Bel.refl _ | assumption | refine qch ?_ _ | refine qci ?_ _ | refine Bel.ext ?_ _ | refine Bel.alloc ?_ _ | refine Bel.drewN ?_ _))⟩)
            · obtain rfl : k = 0 := by omega
              simp only [Nat.zero_mul,Nat.add_zero] at r0 r1 r2
              go_wp2
              ((first | refine RegC.wp_region_ext1 (by kernel_rfl) (by kernel_rfl) ?_ | refine RegC.wp_region_ext0 (by kernel_rfl) (by kernel_rfl) ?_);(repeat (any_goals (first | go_big_quiet_step (fail) | (refine RegC.wpQuiet_split rfl rfl (fun hb=>?_) (fun hb=>?_)<;>simp only [hb]))));all_goals (refine wpQuiet_nil ?_;rintro _ ⟨nq,rfl⟩))
              go_wp2
              go_roundw
              case rel=>exact ⟨1,by omega,by go_num,(by intro i p q h;omega),ext_of (by (try simp only [qc8]);repeat (first | exact Bel.refl _ | assumption | refine qch ?_ _ | refine qci ?_ _ | refine Bel.ext ?_ _ | refine Bel.alloc ?_ _ | refine Bel.drewN ?_ _))⟩
              case measure=>(first | (simp [intOf];done) | (simp [intOf];omega))
          · obtain rfl : k = l.length := by omega
            have hinc:incB l=true:=(qgo l).2 fun i p q hp hq=>HA.out i p q (by have:=(List.getElem?_eq_some_iff.1 hq).1;omega) hp hq
            have HB:=Lib.hid (E3.out HC.out hinc);clear hinc
            go_wp2
            (go_ret;exact ⟨qkc (by exact HB.out.symm),ext_of (by (try simp only [qc8]);repeat (first | exact Bel.refl _ | assumption | refine qch ?_ _ | refine qci ?_ _ | refine Bel.ext ?_ _ | refine Bel.alloc ?_ _ | refine Bel.drewN ?_ _))⟩)
end Go.Proofs.Ytbjpmdhdoggobaa

namespace Go.Proofs.Ytbjpmdhdoggobaa
open Go.RowKit Go.Pel
theorem qlq (n d v:Int) (h:qdm n d=v) (hn:-9223372036854775808≤n∧n≤9223372036854775807) (hd:-9223372036854775808≤d∧d≤9223372036854775807) (W:World):Calls Try.prog 15 #[.agg #[.int .i64 n,.int .i64 d]] W fun e w'=>e=.returned (.int .i64 v)∧∃ y,w'=ext W y:=by
  subst h;exact qkg n d W hn hd
set_option maxRecDepth 10000 in
set_option maxHeartbeats 2000000 in
theorem qlr (p q:Pt) (n d:Int) (w:World) (hn:-9223372036854775808≤n∧n≤9223372036854775807) (hd:-9223372036854775808≤d∧d≤9223372036854775807) :
    Calls Try.prog 72 #[.agg #[.int .i64 p.id,.int .i64 p.a,.int .i64 p.b],.agg #[.int .i64 q.id,.int .i64 q.a,.int .i64 q.b],.agg #[.int .i64 n,.int .i64 d]] w fun e w'=>e=.returned (.int .i64 (ql2 p q n d))∧∃ x,w'=ext w x:=by
  rcases qgy p with h1 | h1<;>rcases qgy q with h2 | h2<;>rcases qds n d with h3 | h3
  · have q1 := Lib.hid (qlo p _ h1); have q2 := Lib.hid (qlo q _ h2); have q3 := Lib.hid (qlq n d _ h3 hn hd)
    by_cases hi:p.id=q.id
    · have HR := Lib.hid (ql4 (p := p) (q := q) ⟨h1, h2, h3⟩ hi)
      have hi':(p.id == q.id)=true:=by simpa using hi
      clear h1 h2 h3 hn hd hi
      go_enter Try.func72,Try.ntmps72
      go_wp2
      ((first | refine RegC.wp_region_ext1 (by kernel_rfl) (by kernel_rfl) ?_ | refine RegC.wp_region_ext0 (by kernel_rfl) (by kernel_rfl) ?_);(repeat (any_goals (first | go_big_quiet_step (first | (go_at_call 40;with_reducible exact Calls.ext_of (q1.out _)) | (go_at_call 40;with_reducible exact Calls.ext_of (q2.out _)) | (go_at_call 15;with_reducible exact Calls.ext_of (q3.out _))) | (refine RegC.wpQuiet_split rfl rfl (fun hb=>?_) (fun hb=>?_)<;>simp only [hb]))));all_goals (refine wpQuiet_nil ?_;rintro _ ⟨nq,rfl⟩))
      go_wp2
      (go_ret;exact ⟨qkc (by exact HR.out.symm),ext_of (by (try simp only [qc8]);repeat (first | exact Bel.refl _ | assumption | refine qch ?_ _ | refine qci ?_ _ | refine Bel.ext ?_ _ | refine Bel.alloc ?_ _ | refine Bel.drewN ?_ _))⟩)
    · have HR := Lib.hid (ql5 (p := p) (q := q) ⟨h1, h2, h3⟩ hi)
      have hi':(p.id == q.id)=false:=by simpa using hi
      clear h1 h2 h3 hn hd hi
      go_enter Try.func72,Try.ntmps72
      go_wp2
      ((first | refine RegC.wp_region_ext1 (by kernel_rfl) (by kernel_rfl) ?_ | refine RegC.wp_region_ext0 (by kernel_rfl) (by kernel_rfl) ?_);(repeat (any_goals (first | go_big_quiet_step (first | (go_at_call 40;with_reducible exact Calls.ext_of (q1.out _)) | (go_at_call 40;with_reducible exact Calls.ext_of (q2.out _)) | (go_at_call 15;with_reducible exact Calls.ext_of (q3.out _))) | (refine RegC.wpQuiet_split rfl rfl (fun hb=>?_) (fun hb=>?_)<;>simp only [hb]))));all_goals (refine wpQuiet_nil ?_;rintro _ ⟨nq,rfl⟩))
      go_wp2
      (go_ret;exact ⟨qkc (by exact HR.out.symm),ext_of (by (try simp only [qc8]);repeat (first | exact Bel.refl _ | assumption | refine qch ?_ _ | refine qci ?_ _ | refine Bel.ext ?_ _ | refine Bel.alloc ?_ _ | refine Bel.drewN ?_ _))⟩)
  all_goals
    have q1:=Lib.hid (qlo p _ h1)
    have q2:=Lib.hid (qlo q _ h2)
    have q3:=Lib.hid (qlq n d _ h3 hn hd)
    have HR:=Lib.hid (ql3 (p:=p) (q:=q) (n:=n) (d:=d) (by rw [h1,h2,h3];decide))
    clear h1 h2 h3 hn hd
    go_enter Try.func72,Try.ntmps72
    go_wp2
    ((first | refine RegC.wp_region_ext1 (by kernel_rfl) (by kernel_rfl) ?_ | refine RegC.wp_region_ext0 (by kernel_rfl) (by kernel_rfl) ?_);(repeat (any_goals (first | go_big_quiet_step (first | (go_at_call 40;with_reducible exact Calls.ext_of (q1.out _)) | (go_at_call 40;with_reducible exact Calls.ext_of (q2.out _)) | (go_at_call 15;with_reducible exact Calls.ext_of (q3.out _))) | (refine RegC.wpQuiet_split rfl rfl (fun hb=>?_) (fun hb=>?_)<;>simp only [hb]))));all_goals (refine wpQuiet_nil ?_;rintro _ ⟨nq,rfl⟩))
    go_wp2
    (go_ret;exact ⟨qkc (by exact HR.out.symm),ext_of (by (try simp only [qc8]);repeat (first | exact Bel.refl _ | assumption | refine qch ?_ _ | refine qci ?_ _ | refine Bel.ext ?_ _ | refine Bel.alloc ?_ _ | refine Bel.drewN ?_ _))⟩)
theorem qls {p q:Pt} {n d:Int} (hp:p.chk=0) (hq:q.chk=0) (hr:qdm n d=0) (hn:-9223372036854775808≤n∧n≤9223372036854775807) (hd:-9223372036854775808≤d∧d≤9223372036854775807):CmpIn p q n d:=by
  have h1:=qgx hp
  have h2:=qgx hq
  have h3:=qdt hr
  exact ⟨by omega,by omega,by omega,by omega,by omega,by omega⟩
set_option maxRecDepth 10000 in
set_option maxHeartbeats 2000000 in
theorem qlt (p q:Pt) (n d:Int) (w:World) (hn:-9223372036854775808≤n∧n≤9223372036854775807) (hd:-9223372036854775808≤d∧d≤9223372036854775807) :
    Calls Try.prog 50 #[.agg #[.int .i64 p.id,.int .i64 p.a,.int .i64 p.b],.agg #[.int .i64 q.id,.int .i64 q.a,.int .i64 q.b],.agg #[.int .i64 n,.int .i64 d]] w fun e w'=>e=.returned (.tuple #[.bool (ql7 p q n d).1,.int .i64 (ql7 p q n d).2])∧∃ x,w'=ext w x:=by
  have q1:=Lib.hid (fun W=>qlr p q n d W hn hd)
  by_cases h:ql2 p q n d=0
  · have HV : Hid (ql7 p q n d = (leads p q n d, 0)) := Lib.hid (by unfold ql7; rw [if_pos h])
    obtain ⟨h1,h2,h3,_⟩:=ql6 h
    have q2:=Lib.hid (fun W=>qln p q n d W (qls h1 h2 h3 hn hd))
    rw [h] at q1
    have HL:=Lib.hid (ql1 p q n d)
    obtain ⟨C,hC⟩:∃ C,cmpC p q n d=C:=⟨_,rfl⟩
    rw [hC] at q2 HL
    clear h h1 h2 h3 hn hd hC
    go_enter Try.func50,Try.ntmps50
    go_wp2_with (first | (go_at_call 72;refine (q1.out _).mono ?_;rintro e _ ⟨rfl,nx,rfl⟩) | (go_at_call 73;refine (q2.out _).mono ?_;rintro e _ ⟨rfl,nx,rfl⟩))
    go_ret2
    exact ⟨by rw [HV.out,← HL.out];rfl,ext_of (by (try simp only [qc8]);repeat (first | exact Bel.refl _ | assumption | refine qch ?_ _ | refine qci ?_ _ | refine Bel.ext ?_ _ | refine Bel.alloc ?_ _ | refine Bel.drewN ?_ _))⟩
  · have HV : Hid (ql7 p q n d = (false, ql2 p q n d)) := Lib.hid (by unfold ql7; rw [if_neg h])
    have hz:(ql2 p q n d == 0)=false:=by simpa using h
    have hz':(ql2 p q n d != 0)=true:=by simpa using h
    clear h hn hd
    go_enter Try.func50,Try.ntmps50
    go_wp2_with ((go_at_call 72;refine (q1.out _).mono ?_;rintro e _ ⟨rfl,nx,rfl⟩))
    go_ret2
    exact ⟨by rw [HV.out];rfl,ext_of (by (try simp only [qc8]);repeat (first | exact Bel.refl _ | assumption | refine qch ?_ _ | refine qci ?_ _ | refine Bel.ext ?_ _ | refine Bel.alloc ?_ _ | refine Bel.drewN ?_ _))⟩
end Go.Proofs.Ytbjpmdhdoggobaa

namespace Go.Proofs.Ytbjpmdhdoggobaa
open Go.RowKit Go.Pel
end Go.Proofs.Ytbjpmdhdoggobaa

namespace Go.Proofs.Ytbjpmdhdoggobaa
open Go.RowKit Go.Pel
end Go.Proofs.Ytbjpmdhdoggobaa

namespace Go.Proofs.Ytbjpmdhdoggobaa
open Go.RowKit Go.Pel
end Go.Proofs.Ytbjpmdhdoggobaa

namespace Go.Proofs.Ytbjpmdhdoggobaa
open Go.RowKit Go.Pel
theorem qlu:SlT Try.prog 22 26 (.agg #[.int .i64 0,.int .i64 0,.int .i64 0]) 3 24:=⟨by kernel_rfl,by kernel_rfl,by kernel_rfl,by decide,by decide⟩
def eqP (i a b i' a' b':Int):Bool:=decide (i=i'∧a=a'∧b=b')
theorem qlx (i a b i' a' b':Int) (w:World):(Op.equalIn 10000 26 (.agg #[.int .i64 i,.int .i64 a,.int .i64 b]) (.agg #[.int .i64 i',.int .i64 a',.int .i64 b'])).run Try.prog w=.ok (eqP i a b i' a' b') w:=by
  simp [go_sem]
  unfold eqP
  by_cases h1:i=i'<;>by_cases h2:a=a'<;>by_cases h3:b=b'<;>simp [h1,h2,h3]
attribute [local go_sem ↓] qlx
def great (n:Nat):Bool:=(decide (16<n)&&decide (n<64)) || decide (70<n)
end Go.Proofs.Ytbjpmdhdoggobaa

namespace Go.Pel
end Go.Pel
namespace Go.Proofs.Ytbjpmdhdoggobaa
open Go Go.Tx Go.RowKit Go.Pel
def u64B (x:Int):Bool:=decide (0≤x∧x≤18446744073709551615)
theorem qly {x:Int} (h:u64B x=true):0≤x∧x≤18446744073709551615:=of_decide_eq_true h
theorem qlz {η:Emb} {a:Int} {v:Value} (hv:VR η (.int .u64 a) v):v=.int .u64 a:=by cases hv;rfl
theorem qm0 (a b:Int) (w:World) (ha:0≤a∧a≤18446744073709551615) (hb:0≤b∧b≤18446744073709551615) :
    Calls Try.prog 63 #[.int .u64 a,.int .u64 b] w fun e w'=>e=.returned (.tuple #[.int .u64 ((a*b) / 18446744073709551616),.int .u64 ((a*b) % 18446744073709551616)])∧∃ x,w'=ext w x:=by
  obtain ⟨x,rfl⟩:∃ x:Nat,a=x:=⟨a.toNat,by omega⟩
  obtain ⟨y,rfl⟩:∃ y:Nat,b=y:=⟨b.toNat,by omega⟩
  have h:=Try.bits_Mul64 x y (by omega) (by omega) w
  refine h.mono fun e w' ⟨he,hw⟩=>⟨he.trans ?_,ext_of (hw ▸ Bel.refl _)⟩
  simp
end Go.Proofs.Ytbjpmdhdoggobaa

namespace Go.Proofs.Ytbjpmdhdoggobaa
open Go Go.Tx Go.Pel Go.Proofs.Try
set_option maxRecDepth 100000
set_option maxHeartbeats 0
abbrev qm8:List Pk:=[.row Ru false,.row Ru false]
abbrev qm9:Type:=Du×Du×Unit
abbrev qma:Type:=Int×Int
def qmb (r:qma):LV×List Ob:=(.tup [.int .u64 r.1,.int .u64 r.2],[])
def qmc (F:qm9→Option qma):Go.Tx.Spec:=⟨63,qm8,qma,F,qmb⟩
def qmd (x:qm9):Bool:=u64B x.1.1&&u64B x.2.1.1
def qme (d:Nat) (x:qm9):Option qma:=bif qmd x then some ((x.1.1*x.2.1.1) / 18446744073709551616,(x.1.1*x.2.1.1) % 18446744073709551616) else none
theorem qmg (d:Nat):COK prog (qmc (qme d)):=by
 refine qi6 (qi7 (fn:=f63) (by kernel_rfl) (by kernel_rfl) (by kernel_rfl)) fun x r hx w φ vs hφ hv=>?_
 have hx:qme d x=some r:=hx
 unfold qme at hx
 obtain ⟨hc,rfl⟩:=qjm hx
 have hv:VRs (Emb.fro φ) [.int .u64 x.1.1,.int .u64 x.2.1.1] vs:=hv
 obtain ⟨v0,vs,rfl,q0,hv⟩:=VRs.uncons hv
 obtain ⟨v1,rfl,q1⟩:=vrs1 hv
 have r0:=qlz q0;subst r0
 have r1:=qlz q1;subst r1
 unfold qmd at hc
 simp only [Bool.and_eq_true] at hc
 obtain ⟨h1,h2⟩:=hc
 refine (qm0 x.1.1 x.2.1.1 w (qly h1) (qly h2)).mono ?_
 rintro e w' ⟨rfl,y,rfl⟩
 exact qi4 hφ (VR.tupL (VRs.cons (.int _ _) (VRs.cons (.int _ _) VRs.nil))) y
abbrev qmh:List Pk:=[.row Rii true]
abbrev qmi:Type:=Dii×Unit
abbrev qmj:Type:=Int
def qmk (r:qmj):LV×List Ob:=(.int .i64 r,[])
def qml (F:qmi→Option qmj):Go.Tx.Spec:=⟨15,qmh,qmj,F,qmk⟩
def qmm (x:qmi):Bool:=i64B x.1.1&&i64B x.1.2.1
def qmn (d:Nat) (x:qmi):Option qmj:=bif qmm x then some (qdm x.1.1 x.1.2.1) else none
theorem qmp (d:Nat):COK prog (qml (qmn d)):=by
 refine qi6 (qi7 (fn:=f15) (by kernel_rfl) (by kernel_rfl) (by kernel_rfl)) fun x r hx w φ vs hφ hv=>?_
 have hx:qmn d x=some r:=hx
 unfold qmn at hx
 obtain ⟨hc,rfl⟩:=qjm hx
 have hv:VRs (Emb.fro φ) [.agg [.int .i64 x.1.1,.int .i64 x.1.2.1]] vs:=hv
 obtain ⟨v0,rfl,q0⟩:=vrs1 hv
 have r0:=qi0 q0;subst r0
 unfold qmm at hc
 simp only [Bool.and_eq_true] at hc
 obtain ⟨h1,h2⟩:=hc
 refine (qkg x.1.1 x.1.2.1 w (qjj h1) (qjj h2)).mono ?_
 rintro e w' ⟨rfl,y,rfl⟩
 exact qi4 hφ (.int _ _) y
abbrev qmq:List Pk:=[.row Riii true]
abbrev qmr:Type:=Diii×Unit
abbrev qms:Type:=Int
def qmt (r:qms):LV×List Ob:=(.int .i64 r,[])
def qmu (F:qmr→Option qms):Go.Tx.Spec:=⟨40,qmq,qms,F,qmt⟩
def qmv (x:qmr):Bool:=true
def qmw (d:Nat) (x:qmr):Option qms:=bif qmv x then some (qe0 (ofP x.1).id (ofP x.1).a (ofP x.1).b) else none
theorem qmy (d:Nat):COK prog (qmu (qmw d)):=by
 refine qi6 (qi7 (fn:=f40) (by kernel_rfl) (by kernel_rfl) (by kernel_rfl)) fun x r hx w φ vs hφ hv=>?_
 have hx:qmw d x=some r:=hx
 unfold qmw at hx
 obtain ⟨hc,rfl⟩:=qjm hx
 have hv:VRs (Emb.fro φ) [.agg [.int .i64 x.1.1,.int .i64 x.1.2.1,.int .i64 x.1.2.2.1]] vs:=hv
 obtain ⟨v0,rfl,q0⟩:=vrs1 hv
 have r0:=qhz (p:=x.1) q0;subst r0
 refine (qki (ofP x.1).id (ofP x.1).a (ofP x.1).b w).mono ?_
 rintro e w' ⟨rfl,y,rfl⟩
 exact qi4 hφ (.int _ _) y
end Go.Proofs.Ytbjpmdhdoggobaa

namespace Go.Proofs.Ytbjpmdhdoggobaa
open Go.RowKit Go.Pel
set_option maxHeartbeats 400000 in
theorem qnq (p:Pt) (id:Int) (w:World):Calls Try.prog 81 #[.agg #[.int .i64 p.id,.int .i64 p.a,.int .i64 p.b],.int .i64 id] w fun e w'=>e=.returned (.int .i64 (cmpI p.id id))∧∃ x,w'=ext w x:=by
  go_enter Try.func81,Try.ntmps81
  go_wp2_with ((go_at_call 82;refine (qlg _ _ _).mono ?_;rintro e _ ⟨rfl,nx,rfl⟩))
  (go_ret;exact ⟨qkc (by rfl),ext_of (by (try simp only [qc8]);repeat (first | exact Bel.refl _ | assumption | refine qch ?_ _ | refine qci ?_ _ | refine Bel.ext ?_ _ | refine Bel.alloc ?_ _ | refine Bel.drewN ?_ _))⟩)
theorem qnr (p:Pt) (id v:Int) (h:cmpI p.id id=v) (w:World):Calls Try.prog 81 #[.agg #[.int .i64 p.id,.int .i64 p.a,.int .i64 p.b],.int .i64 id] w fun e w'=>e=.returned (.int .i64 v)∧∃ x,w'=ext w x:=h ▸ qnq p id w
set_option maxRecDepth 10000 in
set_option maxHeartbeats 2000000 in
theorem qns (A:Option Addr) (c:Nat) (l:List Pt) (id:Int) (w:World) (hs:Sl w 3 A l.length c (vp l)) (hl:l.length≤1000000) (hinc:incB l=true) :
    Calls Try.prog 80 #[.slice A l.length c,.int .i64 id,.func (.func 81) #[] #[]] w fun e w'=>e=.returned (.tuple #[.int .i64 (lowB l id),.bool (hasB l id)])∧∃ x,w'=ext w x:=by
  have HI:=Lib.hid hinc;clear hinc
  go_enter Try.func80,Try.ntmps80
  go_wp2
  go_loopw [9,10] (fun i j wr=>∃ (a b:Nat),a≤b∧b≤l.length∧i=.int .i64 a∧j=.int .i64 b∧(∀ (k:Nat) (p:Pt),k<a→l[k]?=some p→p.id<id)∧(∀ (k:Nat) (p:Pt),b≤k→l[k]?=some p→id≤p.id)∧∃ y,wr=ext w y) (fun i j _=>(intOf j - intOf i).toNat)
  case atStart=>exact ⟨0,l.length,Nat.zero_le _,Nat.le_refl _,rfl,rfl,(by intro k p h;omega),(by intro k p h hp;have:=(List.getElem?_eq_some_iff.1 hp).1;omega),ext_of (Bel.refl _)⟩
  case round =>
    obtain ⟨a,b,hab,hbl,rfl,rfl,h1,h2,y,rfl⟩:=hrel
    have H1:=Lib.hid h1
    have H2:=Lib.hid h2
    clear h1 h2
    by_cases hlt:a<b
    · obtain ⟨m, hm1, hm2⟩ : ∃ m : Nat, 2 * m ≤ a + b ∧ a + b ≤ 2 * m + 1 := ⟨(a + b) / 2, by omega, by omega⟩
      have hmd:((a:Int)+(b:Int)) / 2=(m:Int):=by omega
      obtain ⟨p,hp⟩:∃ p,l[m]?=some p:=⟨_,List.getElem?_eq_getElem (by omega)⟩
      obtain ⟨b0,o,rfl,hb0⟩:=hs.at_ (by omega)
      obtain ⟨r0,r1,r2⟩:=qgn hs hp
      have HP:=Lib.hid hp;clear hp
      have hml:(m:Int)<(l.length:Int):=by omega
      by_cases hpi:p.id<id
      · have e1 := Lib.hid (qnr p id (-1) (qld hpi))
        go_wp2_with ((go_at_call 81;refine (e1.out _).mono ?_;rintro e _ ⟨rfl,nx,rfl⟩))
        go_roundw
        case rel =>
          refine ⟨m+1,b,by omega,hbl,by go_num,rfl,?_,H2.out,ext_of (by (try simp only [qc8]);repeat (first | exact Bel.refl _ | assumption | refine qch ?_ _ | refine qci ?_ _ | refine Bel.ext ?_ _ | refine Bel.alloc ?_ _ | refine Bel.drewN ?_ _))⟩
          intro k q hk hq
          rcases Nat.lt_or_ge k m with h | h
          · have:=qgp HI.out h hq HP.out;omega
          · obtain rfl : k = m := by omega
            rw [HP.out] at hq;obtain rfl:=Option.some.inj hq;exact hpi
        case measure=>(first | (simp [intOf];done) | (simp [intOf];omega))
      · have e1:Hid (∃ v:Int,¬ v<0∧cmpI p.id id=v):=Lib.hid (by
          by_cases h:id<p.id
          · exact ⟨1,by omega,qle h⟩
          · exact ⟨0,by omega,qlf (by omega)⟩)
        obtain ⟨v,hv,e2⟩:=e1.out
        have e1:=Lib.hid (qnr p id v e2)
        clear e2
        go_wp2_with ((go_at_call 81;refine (e1.out _).mono ?_;rintro e _ ⟨rfl,nx,rfl⟩))
        go_roundw
        case rel =>
          refine ⟨a,m,by omega,by omega,rfl,rfl,H1.out,?_,ext_of (by (try simp only [qc8]);repeat (first | exact Bel.refl _ | assumption | refine qch ?_ _ | refine qci ?_ _ | refine Bel.ext ?_ _ | refine Bel.alloc ?_ _ | refine Bel.drewN ?_ _))⟩
          intro k q hk hq
          rcases Nat.lt_or_ge m k with h | h
          · have:=qgp HI.out h HP.out hq;omega
          · obtain rfl : k = m := by omega
            rw [HP.out] at hq;obtain rfl:=Option.some.inj hq;omega
        case measure=>(first | (simp [intOf];done) | (simp [intOf];omega))
    · obtain rfl : a = b := by omega
      have HL:=Lib.hid (qh0 hbl H1.out (fun p hp=>H2.out a p (Nat.le_refl _) hp))
      have HH:=Lib.hid (qh3 HI.out id)
      by_cases hal:a<l.length
      · obtain ⟨p, hp⟩ : ∃ p, l[a]? = some p := ⟨_, List.getElem?_eq_getElem hal⟩
        obtain ⟨b0,o,rfl,hb0⟩:=hs.at_ (by omega)
        obtain ⟨r0,r1,r2⟩:=qgn hs hp
        have HP:=Lib.hid hp;clear hp
        have hge:=H2.out a p (Nat.le_refl _) HP.out
        have hal2:(a:Int)<(l.length:Int):=by omega
        by_cases hpi:p.id=id
        · have e1 := Lib.hid (qnr p id 0 (qlf hpi))
          have HB:Hid (hasB l id=true):=Lib.hid (by rw [HH.out,HL.out,HP.out];simpa using hpi)
          clear hpi
          go_wp2_with ((go_at_call 81;refine (e1.out _).mono ?_;rintro e _ ⟨rfl,nx,rfl⟩))
          go_ret2
          exact ⟨by rw [HL.out,HB.out];rfl,ext_of (by (try simp only [qc8]);repeat (first | exact Bel.refl _ | assumption | refine qch ?_ _ | refine qci ?_ _ | refine Bel.ext ?_ _ | refine Bel.alloc ?_ _ | refine Bel.drewN ?_ _))⟩
        · have e1 := Lib.hid (qnr p id 1 (qle (by omega)))
          have HB:Hid (hasB l id=false):=Lib.hid (by rw [HH.out,HL.out,HP.out];simpa using hpi)
          clear hpi
          go_wp2_with ((go_at_call 81;refine (e1.out _).mono ?_;rintro e _ ⟨rfl,nx,rfl⟩))
          go_ret2
          exact ⟨by rw [HL.out,HB.out];rfl,ext_of (by (try simp only [qc8]);repeat (first | exact Bel.refl _ | assumption | refine qch ?_ _ | refine qci ?_ _ | refine Bel.ext ?_ _ | refine Bel.alloc ?_ _ | refine Bel.drewN ?_ _))⟩
      · have HB : Hid (hasB l id = false) := Lib.hid (by rw [HH.out, HL.out, List.getElem?_eq_none (by omega)])
        go_wp2
        go_ret2
        exact ⟨by rw [HL.out,HB.out];rfl,ext_of (by (try simp only [qc8]);repeat (first | exact Bel.refl _ | assumption | refine qch ?_ _ | refine qci ?_ _ | refine Bel.ext ?_ _ | refine Bel.alloc ?_ _ | refine Bel.drewN ?_ _))⟩
set_option maxHeartbeats 400000 in
theorem qnt (A:Option Addr) (c:Nat) (l:List Pt) (id:Int) (w:World) (hs:Sl w 3 A l.length c (vp l)) (hl:l.length≤1000000) (hinc:incB l=true) :
    Calls Try.prog 64 #[.agg #[.slice A l.length c],.int .i64 id] w fun e w'=>e=.returned (.tuple #[.int .i64 (lowB l id),.bool (hasB l id)])∧∃ x,w'=ext w x:=by
  have q:=Lib.hid (fun W hb=>qns A c l id W (hs.bel (w':=W) hb) hl hinc)
  clear hinc
  go_enter Try.func64,Try.ntmps64
  go_wp2_with ((go_at_call 80;refine (q.out _ (by (try simp only [qc8]);repeat (first | exact Bel.refl _ | assumption | refine qch ?_ _ | refine qci ?_ _ | refine Bel.ext ?_ _ | refine Bel.alloc ?_ _ | refine Bel.drewN ?_ _))).mono ?_;rintro e _ ⟨rfl,nx,rfl⟩))
  go_ret2
  exact ⟨rfl,ext_of (by (try simp only [qc8]);repeat (first | exact Bel.refl _ | assumption | refine qch ?_ _ | refine qci ?_ _ | refine Bel.ext ?_ _ | refine Bel.alloc ?_ _ | refine Bel.drewN ?_ _))⟩
def fieldPlace (l:List Pt) (id:Int):Int×Int:=if qgq l≠0 then (0,qgq l) else if hasB l id then ((lowB l id:Int),0) else (0,6)
set_option maxHeartbeats 1000000 in
theorem qnu (A:Option Addr) (c:Nat) (l:List Pt) (id:Int) (w:World) (hs:Sl w 3 A l.length c (vp l)) :
    Calls Try.prog 39 #[.agg #[.slice A l.length c],.int .i64 id] w fun e w'=>e=.returned (.tuple #[.int .i64 (fieldPlace l id).1,.int .i64 (fieldPlace l id).2])∧∃ x,w'=ext w x:=by
  have q1:=Lib.hid (fun W hb=>qlp A c l W (hs.bel (w':=W) hb))
  by_cases h0:qgq l=0
  · obtain ⟨h1, h2, h3⟩ := qgv h0
    have q2:=Lib.hid (fun W hb=>qnt A c l id W (hs.bel (w':=W) hb) (by omega) h3)
    cases hb:hasB l id with
    | true =>
      have H:Hid (fieldPlace l id=((lowB l id:Int),0)):=Lib.hid (by simp [fieldPlace,h0,hb])
      rw [h0] at q1
      rw [hb] at q2
      clear h0 h2 h3 hb
      go_enter Try.func39,Try.ntmps39
      go_wp2_with (first | (go_at_call 46;refine (q1.out _ (by (try simp only [qc8]);repeat (first | exact Bel.refl _ | assumption | refine qch ?_ _ | refine qci ?_ _ | refine Bel.ext ?_ _ | refine Bel.alloc ?_ _ | refine Bel.drewN ?_ _))).mono ?_;rintro e _ ⟨rfl,nx,rfl⟩) | (go_at_call 64;refine (q2.out _ (by (try simp only [qc8]);repeat (first | exact Bel.refl _ | assumption | refine qch ?_ _ | refine qci ?_ _ | refine Bel.ext ?_ _ | refine Bel.alloc ?_ _ | refine Bel.drewN ?_ _))).mono ?_;rintro e _ ⟨rfl,nx,rfl⟩))
      go_ret2
      exact ⟨by rw [H.out];rfl,ext_of (by (try simp only [qc8]);repeat (first | exact Bel.refl _ | assumption | refine qch ?_ _ | refine qci ?_ _ | refine Bel.ext ?_ _ | refine Bel.alloc ?_ _ | refine Bel.drewN ?_ _))⟩
    | false =>
      have H:Hid (fieldPlace l id=(0,6)):=Lib.hid (by simp [fieldPlace,h0,hb])
      rw [h0] at q1
      rw [hb] at q2
      clear h0 h2 h3 hb
      go_enter Try.func39,Try.ntmps39
      go_wp2_with (first | (go_at_call 46;refine (q1.out _ (by (try simp only [qc8]);repeat (first | exact Bel.refl _ | assumption | refine qch ?_ _ | refine qci ?_ _ | refine Bel.ext ?_ _ | refine Bel.alloc ?_ _ | refine Bel.drewN ?_ _))).mono ?_;rintro e _ ⟨rfl,nx,rfl⟩) | (go_at_call 64;refine (q2.out _ (by (try simp only [qc8]);repeat (first | exact Bel.refl _ | assumption | refine qch ?_ _ | refine qci ?_ _ | refine Bel.ext ?_ _ | refine Bel.alloc ?_ _ | refine Bel.drewN ?_ _))).mono ?_;rintro e _ ⟨rfl,nx,rfl⟩))
      go_ret2
      exact ⟨by rw [H.out];rfl,ext_of (by (try simp only [qc8]);repeat (first | exact Bel.refl _ | assumption | refine qch ?_ _ | refine qci ?_ _ | refine Bel.ext ?_ _ | refine Bel.alloc ?_ _ | refine Bel.drewN ?_ _))⟩
  · have H : Hid (fieldPlace l id = (0, qgq l)) := Lib.hid (by simp [fieldPlace, h0])
    have hz:(qgq l == 0)=false:=by simpa using h0
    have hz':(qgq l != 0)=true:=by simpa using h0
    clear h0
    go_enter Try.func39,Try.ntmps39
    go_wp2_with ((go_at_call 46;refine (q1.out _ (by (try simp only [qc8]);repeat (first | exact Bel.refl _ | assumption | refine qch ?_ _ | refine qci ?_ _ | refine Bel.ext ?_ _ | refine Bel.alloc ?_ _ | refine Bel.drewN ?_ _))).mono ?_;rintro e _ ⟨rfl,nx,rfl⟩))
    go_ret2
    exact ⟨by rw [H.out];rfl,ext_of (by (try simp only [qc8]);repeat (first | exact Bel.refl _ | assumption | refine qch ?_ _ | refine qci ?_ _ | refine Bel.ext ?_ _ | refine Bel.alloc ?_ _ | refine Bel.drewN ?_ _))⟩
end Go.Proofs.Ytbjpmdhdoggobaa

namespace Go.Proofs.Ytbjpmdhdoggobaa
open Go.RowKit Go.Pel Go.IntWalk
set_option maxRecDepth 10000 in
set_option maxHeartbeats 1000000 in
theorem qnv (A:Option Addr) (c:Nat) (l:List Pt) (w:World) (hs:Sl w 3 A l.length c (vp l)) (hn:A=none→c=0) (hl:l.length≤1000000) :
    Calls Try.prog 47 #[.slice A l.length c] w fun e w'=>∃ A' c',e=.returned (.slice A' l.length c')∧∃ x,w'=ext w x∧Own (ext w x) w.heap.size 26 3 A' l.length c' (vp l):=by
  have hnil:=fun W n c n' c'=>Lib.run_eql_slice_nil (P:=Try.prog) W 22 26 A n c n' c' Try.underlying22
  cases A with
  | none =>
    obtain rfl:=hn rfl
    obtain rfl:l=[]:=by
      cases l with
      | nil=>rfl
      | cons p l=>obtain ⟨b,o,h,_⟩:=hs.at_ (by simp);cases h
    go_enter Try.func47,Try.ntmps47
    go_wp2
    go_ret
    exact ⟨none,0,rfl,qgg _ _ _ _⟩
  | some a =>
    go_enter Try.func47,Try.ntmps47
    go_wp2_with ((at_builtin;(try refine qg3 rfl (by first | rfl | simp [yielded]) ?_);refine qg5 qlu (by (try simp only [qc8]);repeat (first | exact Bel.refl _ | assumption | refine qch ?_ _ | refine qci ?_ _ | refine Bel.ext ?_ _ | refine Bel.alloc ?_ _ | refine Bel.drewN ?_ _)) (hs) (by (try simp only [qc8]);repeat (first | exact Bel.refl _ | assumption | refine qch ?_ _ | refine qci ?_ _ | refine Bel.ext ?_ _ | refine Bel.alloc ?_ _ | refine Bel.drewN ?_ _)) (qgj _) (hn) (by omega) rfl _ _ rfl rfl rfl (by simp [go_sem]) ?_;rintro A1 c1 y1 hown1))
    go_ret
    exact ⟨_,_,rfl,qfk (by (try simp only [qc8]);repeat (first | exact Bel.refl _ | assumption | refine qch ?_ _ | refine qci ?_ _ | refine Bel.ext ?_ _ | refine Bel.alloc ?_ _ | refine Bel.drewN ?_ _)) (qg2 (by simp [go_sem]) hown1 (by simp [go_sem])) (Bel.refl _) (by simp [go_sem])⟩
end Go.Proofs.Ytbjpmdhdoggobaa

namespace Go.Proofs.Ytbjpmdhdoggobaa
open Go.RowKit Go.Pel Go.IntWalk
end Go.Proofs.Ytbjpmdhdoggobaa

namespace Go.Proofs.Ytbjpmdhdoggobaa
open Go.RowKit Go.Pel Go.IntWalk
theorem qo0 {l:List Pt} {id:Int} (h:(fieldPlace l id).2=0):qgq l=0∧hasB l id=true∧(fieldPlace l id).1=lowB l id:=by
  unfold fieldPlace at h ⊢
  by_cases h0:qgq l=0
  · cases hb : hasB l id
    · simp [h0,hb] at h
    · simp [h0]
  · rw [if_pos h0] at h;exact absurd h h0
theorem qo1 (l:List Pt) (id:Int):qh8 l id=if (fieldPlace l id).2=0 then (l.getD (lowB l id) Pt.zero,0) else (Pt.zero,(fieldPlace l id).2):=by
  unfold qh8 fieldPlace
  by_cases h0:qgq l=0
  · cases hb:hasB l id<;>simp [h0]
  · simp [h0]
set_option maxRecDepth 10000 in
set_option maxHeartbeats 2000000 in
theorem qo3 (A:Option Addr) (c:Nat) (l:List Pt) (id:Int) (w:World) (hs:Sl w 3 A l.length c (vp l)) :
    Calls Try.prog 26 #[.agg #[.slice A l.length c],.int .i64 id] w fun e w'=>e=.returned (.tuple #[.agg #[.int .i64 (qh8 l id).1.id,.int .i64 (qh8 l id).1.a,.int .i64 (qh8 l id).1.b],.int .i64 (qh8 l id).2])∧∃ x,w'=ext w x:=by
  have q:=Lib.hid (fun W hb=>qnu A c l id W (hs.bel (w':=W) hb))
  by_cases h:(fieldPlace l id).2=0
  · obtain ⟨h1, h2, h3⟩ := qo0 h
    obtain ⟨h64,hchk,hinc⟩:=qgv h1
    obtain ⟨h4,p,hp,h5⟩:=qh7 hinc h2
    have HF:Hid (qh8 l id=(p,0)):=Lib.hid (by rw [qo1,if_pos h,List.getD_eq_getElem?_getD,hp];rfl)
    have hlt:lowB l id<l.length:=(List.getElem?_eq_some_iff.1 hp).1
    rw [h3,h] at q
    obtain ⟨k,hk⟩:∃ k,lowB l id=k:=⟨_,rfl⟩
    rw [hk] at q hp hlt
    obtain ⟨b,o,rfl,hb⟩:=hs.at_ (by omega)
    obtain ⟨r0,r1,r2⟩:=qgn hs hp
    have hlt':(k:Int)<(l.length:Int):=by omega
    clear h h1 h2 h3 hk h4 h5 hchk hinc hp
    go_enter Try.func26,Try.ntmps26
    go_wp2_with ((go_at_call 39;refine (q.out _ (by (try simp only [qc8]);repeat (first | exact Bel.refl _ | assumption | refine qch ?_ _ | refine qci ?_ _ | refine Bel.ext ?_ _ | refine Bel.alloc ?_ _ | refine Bel.drewN ?_ _))).mono ?_;rintro e _ ⟨rfl,nx,rfl⟩))
    exact bodyPost_ret (v:=.tuple #[.agg #[.int .i64 p.id,.int .i64 p.a,.int .i64 p.b],.int .i64 0]) (by simp [results,Try.results26,go_sem]) rfl ⟨by rw [HF.out],ext_of (by (try simp only [qc8]);repeat (first | exact Bel.refl _ | assumption | refine qch ?_ _ | refine qci ?_ _ | refine Bel.ext ?_ _ | refine Bel.alloc ?_ _ | refine Bel.drewN ?_ _))⟩
  · have HF : Hid (qh8 l id = (Pt.zero, (fieldPlace l id).2)) := Lib.hid (by rw [qo1, if_neg h])
    have hz:((fieldPlace l id).2 == 0)=false:=by simpa using h
    have hz':((fieldPlace l id).2 != 0)=true:=by simpa using h
    clear h
    go_enter Try.func26,Try.ntmps26
    go_wp2_with ((go_at_call 39;refine (q.out _ (by (try simp only [qc8]);repeat (first | exact Bel.refl _ | assumption | refine qch ?_ _ | refine qci ?_ _ | refine Bel.ext ?_ _ | refine Bel.alloc ?_ _ | refine Bel.drewN ?_ _))).mono ?_;rintro e _ ⟨rfl,nx,rfl⟩))
    exact bodyPost_ret (v:=.tuple #[.agg #[.int .i64 0,.int .i64 0,.int .i64 0],.int .i64 (fieldPlace l id).2]) (by simp [results,Try.results26,go_sem]) rfl ⟨by (rw [HF.out];rfl),ext_of (by (try simp only [qc8]);repeat (first | exact Bel.refl _ | assumption | refine qch ?_ _ | refine qci ?_ _ | refine Bel.ext ?_ _ | refine Bel.alloc ?_ _ | refine Bel.drewN ?_ _))⟩
end Go.Proofs.Ytbjpmdhdoggobaa

namespace Go.Proofs
open Go.Shelf
def Try.laysSort_ren:Go.Shelf.Ren:=⟨fun | 6=>48 | 15=>34 | 14=>71 | 28=>59 | 29=>60 | 20=>83 | 21=>84 | 22=>85 | 23=>86 | 24=>87 | 25=>88 | 26=>89 | 27=>90 | 46=>94 | 47=>75 | 48=>76 | 49=>95 | 50=>96 | 57=>97 | n=>n,fun | 22=>22 | 24=>26 | 25=>94 | 3=>3 | 39=>73 | 0=>0 | 53=>104 | 55=>67 | 4=>4 | 46=>97 | 45=>96 | 50=>101 | 5=>5 | 9=>9 | 66=>119 | 70=>123 | 76=>135 | 77=>136 | n=>n,fun | n=>n⟩
theorem Try.laysSort:Go.Proofs.SlLaysF0.n6 Try.prog Try.laysSort_ren:={
  mixed:=by kernel_rfl
  f6:=⟨Try.f48.name,by decide,Try.func48.trans (congrArg some (by kernel_rfl))⟩
  f14:=⟨Try.f71.name,by decide,Try.func71.trans (congrArg some (by kernel_rfl))⟩
  f15:=Try.func34.trans (congrArg some (by kernel_rfl))
  f20:=⟨Try.f83.name,by decide,Try.func83.trans (congrArg some (by kernel_rfl))⟩
  f21:=⟨Try.f84.name,by decide,Try.func84.trans (congrArg some (by kernel_rfl))⟩
  f22:=⟨Try.f85.name,by decide,Try.func85.trans (congrArg some (by kernel_rfl))⟩
  f23:=⟨Try.f86.name,by decide,Try.func86.trans (congrArg some (by kernel_rfl))⟩
  f24:=⟨Try.f87.name,by decide,Try.func87.trans (congrArg some (by kernel_rfl))⟩
  f25:=⟨Try.f88.name,by decide,Try.func88.trans (congrArg some (by kernel_rfl))⟩
  f26:=⟨Try.f89.name,by decide,Try.func89.trans (congrArg some (by kernel_rfl))⟩
  f27:=⟨Try.f90.name,by decide,Try.func90.trans (congrArg some (by kernel_rfl))⟩
  f28:=Try.func59.trans (congrArg some (by kernel_rfl))
  f29:=Try.func60.trans (congrArg some (by kernel_rfl))
  f46:=⟨Try.f94.name,by decide,Try.func94.trans (congrArg some (by kernel_rfl))⟩
  f47:=Try.func75.trans (congrArg some (by kernel_rfl))
  f48:=Try.func76.trans (congrArg some (by kernel_rfl))
  f49:=⟨Try.f95.name,by decide,Try.func95.trans (congrArg some (by kernel_rfl))⟩
  f50:=⟨Try.f96.name,by decide,Try.func96.trans (congrArg some (by kernel_rfl))⟩
  f57:=⟨Try.f97.name,by decide,Try.func97.trans (congrArg some (by kernel_rfl))⟩
  t0:=Try.underlying0
  a0:=Try.isAgg0
  z0:=Try.sizeOf0
  v0:=Try.zeroValue0
  t3:=Try.underlying3
  a3:=Try.isAgg3
  z3:=Try.sizeOf3
  v3:=Try.zeroValue3
  t4:=Try.underlying4
  a4:=Try.isAgg4
  z4:=Try.sizeOf4
  v4:=Try.zeroValue4
  t5:=Try.underlying5
  a5:=Try.isAgg5
  z5:=Try.sizeOf5
  v5:=Try.zeroValue5
  t9:=Try.underlying9
  a9:=Try.isAgg9
  z9:=Try.sizeOf9
  v9:=Try.zeroValue9
  t22:=Try.underlying22
  a22:=Try.isAgg22
  z22:=Try.sizeOf22
  v22:=Try.zeroValue22
  t25:=Try.underlying94
  a25:=Try.isAgg94
  z25:=Try.sizeOf94
  v25:=Try.zeroValue94
  t39:=Try.underlying73
  a39:=Try.isAgg73
  z39:=Try.sizeOf73
  v39:=Try.zeroValue73
  t45:=Try.underlying96
  a45:=Try.isAgg96
  z45:=Try.sizeOf96
  v45:=Try.zeroValue96
  t46:=Try.underlying97
  a46:=Try.isAgg97
  z46:=Try.sizeOf97
  v46:=Try.zeroValue97
  t50:=Try.underlying101
  a50:=Try.isAgg101
  z50:=Try.sizeOf101
  v50:=Try.zeroValue101
  t53:=Try.underlying104
  a53:=Try.isAgg104
  z53:=Try.sizeOf104
  v53:=Try.zeroValue104
  t55:=Try.underlying67
  a55:=Try.isAgg67
  z55:=Try.sizeOf67
  v55:=Try.zeroValue67
  t66:=Try.underlying119
  a66:=Try.isAgg119
  z66:=Try.sizeOf119
  v66:=Try.zeroValue119
  t70:=Try.underlying123
  a70:=Try.isAgg123
  z70:=Try.sizeOf123
  v70:=Try.zeroValue123
  t76:=Try.underlying135
  a76:=Try.isAgg135
  z76:=Try.sizeOf135
  v76:=Try.zeroValue135
  t77:=Try.underlying136
  a77:=Try.isAgg136
  z77:=Try.sizeOf136
  v77:=Try.zeroValue136 }
end Go.Proofs

namespace Go.Pel
open Go.Sort Go.Proofs
def qo4 (p:Pt) (n d:Int):Int:=p.a*d+p.b*n
theorem qo5 (p q:Pt) (n d:Int):farD p q n d=qo4 p n d - qo4 q n d:=by
  unfold farD qo4;rw [Int.sub_mul,Int.sub_mul];omega
theorem qo6 (p q:Pt) (n d:Int):leads p q n d=true↔qo4 q n d<qo4 p n d∨(qo4 q n d=qo4 p n d∧(q.b<p.b∨(q.b=p.b∧p.id<q.id))):=by
  unfold leads
  rw [qo5]
  by_cases h:qo4 p n d - qo4 q n d≠0
  · rw [if_pos h];simp;omega
  · rw [if_neg h]
    by_cases h2:p.b≠q.b
    · rw [if_pos h2];simp;omega
    · rw [if_neg h2];simp;omega
def cfP (n d:Int) (p q:Pt):Int:=if p.id=q.id then 0 else if leads p q n d then -1 else 1
theorem qo7 (n d:Int) (p q:Pt):ltOf (cfP n d) p q=true↔p.id≠q.id∧leads p q n d=true:=by
  unfold ltOf cfP
  by_cases h:p.id=q.id
  · rw [if_pos h];simp [h]
  · rw [if_neg h]
    by_cases h2:leads p q n d=true
    · rw [if_pos h2];simp [h,h2]
    · rw [if_neg h2];simp [h2]
def cfL (n d:Int) (l:List Pt) (x y:{p:Pt // p∈l}):Int:=cfP n d x.1 y.1
theorem qo8 (n d:Int) (l:List Pt) (x y:{p:Pt // p∈l}):ltOf (cfL n d l) x y=true↔x.1.id≠y.1.id∧leads x.1 y.1 n d=true:=qo7 n d x.1 y.1
def qo9 (l:List Pt):Prop:=∀ p∈l,∀ q∈l,p.id=q.id→p=q
theorem nlt {n d:Int} {p q:Pt} (h:leads p q n d=false):¬ (qo4 q n d<qo4 p n d∨(qo4 q n d=qo4 p n d∧(q.b<p.b∨(q.b=p.b∧p.id<q.id)))):=by
  rw [← qo6,h];decide
theorem qoa {n d:Int} {l:List Pt} (hi:qo9 l):SWO (ltOf (cfL n d l)):=by
  have F:∀ x y,ltOf (cfL n d l) x y=false↔(x=y∨(x.1.id≠y.1.id∧leads x.1 y.1 n d=false)):=by
    intro x y
    rw [← Bool.not_eq_true,qo8]
    constructor
    · intro h
      by_cases he:x.1.id=y.1.id
      · exact .inl (Subtype.ext (hi _ x.2 _ y.2 he))
      · exact .inr ⟨he,by simpa [he] using h⟩
    · rintro (rfl | ⟨h1, h2⟩)
      · simp
      · simp [h2]
  constructor
  · intro x;exact (F x x).2 (.inl rfl)
  · intro x y z h1 h2
    rw [qo8,qo6] at h1 h2 ⊢
    refine ⟨?_,by omega⟩
    intro h
    obtain rfl:x=z:=Subtype.ext (hi _ x.2 _ z.2 h)
    omega
  · intro x y z h1 h2
    rw [F] at h1 h2 ⊢
    rcases h1 with rfl | ⟨h1,k1⟩
    · exact h2
    rcases h2 with rfl | ⟨h2,k2⟩
    · exact .inr ⟨h1,k1⟩
    have k1:=nlt k1
    have k2:=nlt k2
    by_cases hne:x.1.id=z.1.id
    · exact .inl (Subtype.ext (hi _ x.2 _ z.2 hne))
    refine .inr ⟨hne,?_⟩
    rw [← Bool.not_eq_true,qo6]
    omega
theorem qob {n d:Int} {l:List Pt} (hi:qo9 l) (x y:{p:Pt // p∈l}) (h1:ltOf (cfL n d l) x y=false) (h2:ltOf (cfL n d l) y x=false):x=y:=by
  rw [← Bool.not_eq_true,qo8] at h1 h2
  by_cases he:x.1.id=y.1.id
  · exact Subtype.ext (hi _ x.2 _ y.2 he)
  · exfalso
    have h1':leads x.1 y.1 n d=false:=by simpa [he] using h1
    have h2':leads y.1 x.1 n d=false:=by simpa [Ne.symm he] using h2
    have:=nlt h1'
    have:=nlt h2'
    omega
def qoc (n d:Int) (l:List Pt):List Pt:=((l.attach.mergeSort fun x y=>!(ltOf (cfL n d l)) y x)).map Subtype.val
theorem qod (n d:Int) (l:List Pt):(qoc n d l).Perm l:=by
  unfold qoc
  have:=(List.mergeSort_perm l.attach (fun x y=>!(ltOf (cfL n d l)) y x)).map Subtype.val
  simpa [List.attach_map_subtype_val] using this
theorem qoe (n d:Int) (l:List Pt):(qoc n d l).length=l.length:=(qod n d l).length_eq
theorem qof {n d:Int} {l:List Pt} (hi:qo9 l) (hn:(l.map Pt.id).Nodup):(qoc n d l).Pairwise fun p q=>leads p q n d=true:=by
  have hO:=qoa (n:=n) (d:=d) hi
  have h1:(l.attach.mergeSort fun x y=>!(ltOf (cfL n d l)) y x).Pairwise fun x y=>(!(ltOf (cfL n d l)) y x)=true:=by
    apply List.pairwise_mergeSort
    · intro a b c h1 h2
      simp only [Bool.not_eq_true',] at h1 h2 ⊢
      exact hO.ntrans _ _ _ h2 h1
    · intro a b
      simp only [Bool.or_eq_true,Bool.not_eq_true']
      by_cases h:ltOf (cfL n d l) b a=true
      · right
        rcases hq:ltOf (cfL n d l) a b with _ | _
        · rfl
        · have:=hO.trans _ _ _ h hq;rw [hO.irrefl] at this;exact absurd this (by decide)
      · left;simpa using h
  have h2:(qoc n d l).Pairwise fun p q=>p.id≠q.id:=by
    have:=((qod n d l).map Pt.id).nodup_iff.2 hn
    exact List.pairwise_map.1 this
  have h3:(qoc n d l).Pairwise fun p q=>¬ (q.id≠p.id∧leads q p n d=true):=by
    unfold qoc
    rw [List.pairwise_map]
    refine h1.imp ?_
    intro a b h
    rw [← qo8]
    simpa using h
  refine (h2.and h3).imp ?_
  rintro p q ⟨h,h'⟩
  have h4:leads q p n d=false:=by simpa [Ne.symm h] using h'
  have:=nlt h4
  rw [qo6]
  omega
end Go.Pel

namespace Go.Proofs.Ytbjpmdhdoggobaa
open Go.RowKit Go.Pel
set_option maxRecDepth 10000 in
set_option maxHeartbeats 2000000 in
theorem qog (p q:Pt) (n d:Int) (rb:Nat) (w:World) (hn:-9223372036854775808≤n∧n≤9223372036854775807) (hd:-9223372036854775808≤d∧d≤9223372036854775807) (r0:Held w rb 0 (.int .i64 n)) (r1:Held w rb 1 (.int .i64 d)) (ht:p.id≠q.id→ql2 p q n d=0) :
    Calls Try.prog 49 #[.agg #[.int .i64 p.id,.int .i64 p.a,.int .i64 p.b],.agg #[.int .i64 q.id,.int .i64 q.a,.int .i64 q.b],.pointer (some ⟨rb,0,none⟩)] w fun e w'=>e=.returned (.int .i64 (cfP n d p q))∧∃ x,w'=ext w x:=by
  have hb:=r0.lt
  have c0:=r0.eq
  have c1:=r1.eq
  have q1:=Lib.hid (fun W=>qlt p q n d W hn hd)
  clear hn hd r0 r1
  by_cases h:p.id=q.id
  · have HV := Lib.hid (show (0 : Int) = cfP n d p q from (if_pos h).symm)
    clear ht q1
    go_enter Try.func49,Try.ntmps49
    go_wp2
    (go_ret;exact ⟨qkc (by exact HV.out),ext_of (by (try simp only [qc8]);repeat (first | exact Bel.refl _ | assumption | refine qch ?_ _ | refine qci ?_ _ | refine Bel.ext ?_ _ | refine Bel.alloc ?_ _ | refine Bel.drewN ?_ _))⟩)
  · have HA : ql7 p q n d = (leads p q n d, 0) := if_pos (ht h)
    rw [HA] at q1
    clear ht HA
    rcases hL:leads p q n d with _ | _
    · have HV := Lib.hid (show (1 : Int) = cfP n d p q by unfold cfP; rw [if_neg h, hL]; rfl)
      rw [hL] at q1
      clear hL
      go_enter Try.func49,Try.ntmps49
      go_wp2_with ((go_at_call 50;(with_reducible refine (q1.out _).mono ?_);rintro e _ ⟨rfl,nx,rfl⟩))
      (go_ret;exact ⟨qkc (by exact HV.out),ext_of (by (try simp only [qc8]);repeat (first | exact Bel.refl _ | assumption | refine qch ?_ _ | refine qci ?_ _ | refine Bel.ext ?_ _ | refine Bel.alloc ?_ _ | refine Bel.drewN ?_ _))⟩)
    · have HV := Lib.hid (show (-1 : Int) = cfP n d p q by unfold cfP; rw [if_neg h, hL]; rfl)
      rw [hL] at q1
      clear hL
      go_enter Try.func49,Try.ntmps49
      go_wp2_with ((go_at_call 50;(with_reducible refine (q1.out _).mono ?_);rintro e _ ⟨rfl,nx,rfl⟩))
      (go_ret;exact ⟨qkc (by exact HV.out),ext_of (by (try simp only [qc8]);repeat (first | exact Bel.refl _ | assumption | refine qch ?_ _ | refine qci ?_ _ | refine Bel.ext ?_ _ | refine Bel.alloc ?_ _ | refine Bel.drewN ?_ _))⟩)
end Go.Proofs.Ytbjpmdhdoggobaa

namespace Go
open RowKit Go.Sort Go.Proofs Go.Shelf
theorem qoh {α:Type} [Inhabited α] (enc:α→List Value) (k:Nat) (hk:∀ x,(enc x).length=k):∀ (l:List α),(flatK enc k l.toArray).toList=l.flatMap enc:=by
  intro l
  have key:∀ (l:List α) (t:Nat),t<l.length*k→(l.flatMap enc)[t]?=some ((enc l[t / k]!)[t % k]!):=by
    intro l
    induction l with
    | nil=>intro t ht;simp at ht
    | cons a r ih =>
      intro t ht
      have k0:0<k:=by
        rcases Nat.eq_zero_or_pos k with h | h
        · subst h;simp at ht
        · exact h
      rw [List.flatMap_cons]
      by_cases hlt:t<k
      · rw [List.getElem?_append_left (by rw [hk]; exact hlt), Nat.div_eq_of_lt hlt, Nat.mod_eq_of_lt hlt]
        have:t<(enc a).length:=by rw [hk];exact hlt
        simp [this]
      · rw [List.getElem?_append_right (by rw [hk]; omega), hk]
        have h2:t - k<r.length*k:=by
          rw [List.length_cons,Nat.add_mul,Nat.one_mul] at ht;omega
        rw [ih (t - k) h2]
        have e1:t / k=(t - k) / k+1:=by
          have:=Nat.div_eq_sub_div k0 (by omega:k≤t)
          omega
        have e2:t % k=(t - k) % k:=Nat.mod_eq_sub_mod (by omega)
        rw [e1,e2]
        simp
  have hlen:(l.flatMap enc).length=l.length*k:=by
    induction l with
    | nil=>simp
    | cons a r ih=>rw [List.flatMap_cons,List.length_append,ih,hk,List.length_cons,Nat.add_mul,Nat.one_mul];omega
  apply List.ext_getElem?
  intro t
  by_cases ht:t<l.length*k
  · rw [key l t ht]
    simp [flatK,ht]
  · rw [List.getElem?_eq_none (by simp [flatK];omega),List.getElem?_eq_none (by rw [hlen];omega)]
theorem qoi {w:World} {base g cap size:Nat} {e:TypeId} {cur:List Value} (h:Row w base e size g cap cur) (q:Nat) (F:Array Value) (hF:F.size≤cur.length):Row (putRow id (Sort.ahead w q) g 0 F) base e size g cap (F.toList++cur.drop F.size):=by
  refine ⟨h.1,?_,h.2.2.1,?_⟩
  · have:putCells id 0 F cur.toArray=(F.toList++cur.drop F.size).toArray:=by
      apply Array.ext_getElem?
      intro k
      simp only [putCells,Array.getElem?_mapIdx,List.getElem?_toArray]
      by_cases hk:k<F.size
      · rw [List.getElem?_append_left (by simpa using hk)]
        have:k<cur.length:=by omega
        simp [this,hk]
      · rw [List.getElem?_append_right (by simpa using hk)]
        simp [hk,show F.size+(k - F.size)=k by omega]
    unfold putRow mapBlock Sort.ahead
    simp [Array.getElem?_modify,h.2.1,onCells,this]
  · rw [List.length_append,List.length_drop,← h.len];simp;omega
theorem qoj (g:Nat) (w:World) (q off:Nat) (F:Array Value):Apart g w (putRow id (Sort.ahead w q) g off F) :=
  ⟨rfl,rfl,rfl,by simp [putRow,mapBlock,Sort.ahead],by simp [putRow,mapBlock,Sort.ahead],fun b hb=>by simp [putRow,mapBlock,Sort.ahead,Array.getElem?_modify,Ne.symm hb]⟩
theorem qok (w:World) (os:Array Obj):Bel w (grow w os) :=
  ⟨⟨rfl,rfl,rfl,by simp [grow],fun k hk=>by simp only [grow];rw [Array.getElem?_append_left hk]⟩,Nat.le_refl _⟩
theorem qol (w:World) (x:Beyond):ext w x=grow (w.drewN x.drawn) x.objs:=by
  unfold ext grow World.drewN;rfl
end Go
namespace Go.Proofs.Ytbjpmdhdoggobaa
open Go.RowKit Go.Pel Go.Sort Go.Shelf
def encL (l:List Pt) (x:{p:Pt // p∈l}):List Value:=x.1.cells
theorem qom (l:List Pt) (m:List {p:Pt // p∈l}):m.flatMap (encL l)=vp (m.map Subtype.val):=by
  unfold vp encL;rw [List.flatMap_map]
set_option maxRecDepth 10000 in
set_option maxHeartbeats 1000000 in
theorem qon (A:Option Addr) (c:Nat) (l:List Pt) (n d:Int) (rb B:Nat) (wB w:World) (hs:Own w B 26 3 A l.length c (vp l)) (hb:Bel wB w) (hB:wB.heap.size≤B) (hrb:rb<B)
    (r0:Held w rb 0 (.int .i64 n)) (r1:Held w rb 1 (.int .i64 d)) (hn:-9223372036854775808≤n∧n≤9223372036854775807) (hd:-9223372036854775808≤d∧d≤9223372036854775807) (hl:l.length≤1000000) (hi:qo9 l) (ht:∀ p∈l,∀ q∈l,p.id≠q.id→ql2 p q n d=0) :
    Calls Try.prog 48 #[.slice A l.length c,.func (.func 49) #[] #[.pointer (some ⟨rb,0,none⟩)]] w fun e w'=>e=.returned (.tuple #[])∧∃ y,w'=ext wB y∧Own (ext wB y) B 26 3 A l.length c (vp (qoc n d l)):=by
  by_cases h0:l=[]
  · subst h0
    have hcon:=AnyF.slices_SortFunc_none Try.laysSort A c (.func (.func 49) #[] #[.pointer (some ⟨rb,0,none⟩)]) w
    refine Calls.mono hcon ?_
    rintro e w' ⟨rfl,rfl⟩
    refine ⟨rfl,qfw hb ?_ (Bel.refl _)⟩
    have e0:qoc n d []=[]:=List.eq_nil_of_length_eq_zero (qoe n d [])
    rw [e0];exact hs
  · rcases hs.row with ⟨rfl, hn, _⟩ | ⟨g, cur, rfl, hr, hnc, hcur⟩
    · exact absurd (List.eq_nil_of_length_eq_zero hn) h0
    have hg:=hr.1
    haveI:Inhabited {p:Pt // p∈l}:=⟨⟨l.head h0,List.head_mem h0⟩⟩
    have hcl:(vp l).length≤cur.length:=by rw [← hcur,List.length_take];omega
    have eg:∀ args w,(callFunc 49 args).run Try.prog w=.ok (.enter 49 args) w:=enters_of Try.func49 (by kernel_rfl) rfl
    have hk:∀ x,(encL l x).length=3:=fun _=>rfl
    have hflat:∀ m:List {p:Pt // p∈l},(flatK (encL l) 3 m.toArray).toList=vp (m.map Subtype.val):=fun m=>by rw [qoh _ _ hk,qom]
    have hcmp:CmpLays Try.prog 49 #[.pointer (some ⟨rb,0,none⟩)] (encL l) 3 (cfL n d l) g 0 l.attach.toArray.size w:=by
      intro m os dk _ x y
      have hap:Apart g w (putRowK (encL l) 3 (Sort.ahead w m) g 0 dk):=qoj g w m 0 _
      have hbg:Bel (putRowK (encL l) 3 (Sort.ahead w m) g 0 dk) (sortWorldK (encL l) 3 w g 0 m dk os):=qok _ os
      have h:=qog x.1 y.1 n d rb (sortWorldK (encL l) 3 w g 0 m dk os) hn hd ((r0.apart hap (by omega)).bel hbg) ((r1.apart hap (by omega)).bel hbg) (ht _ x.2 _ y.2)
      refine Calls.mono h ?_
      rintro e w' ⟨rfl,z,rfl⟩
      exact ⟨rfl,z.drawn,z.objs,qol _ z⟩
    have hfl:(flatK (encL l) 3 l.attach.toArray)=(vp l).toArray:=by
      apply Array.toList_inj.1
      rw [hflat,List.attach_map_subtype_val]
    have hH:HoldsK (encL l) 3 w g 0 l.attach.toArray:=by
      unfold HoldsK
      rw [hfl]
      intro j hj
      have hj':j<(vp l).length:=by simpa using hj
      refine ⟨?_,hr.frozen _⟩
      rw [Nat.zero_add]
      refine hr.cell ?_
      have:cur[j]?=(vp l)[j]?:=by
        rw [← hcur,List.getElem?_take,if_pos]
        rw [qgk] at hj';exact hj'
      rw [this]
      simp [hj']
    have hcon:=AnyQ.slices_SortFunc_total Try.laysSort 3 Try.isAgg26 Try.sizeOf26 (encL l) hk (fun x v hv=>qgi x.1 v hv) (cfL n d l) (qoa hi) 49 #[.pointer (some ⟨rb,0,none⟩)] g 0 c l.attach.toArray w eg hcmp hH hr.lt (by simp;omega) (fun x y h1 h2=>qob hi x y h1 h2)
    have hsz:l.attach.toArray.size=l.length:=by simp
    rw [hsz] at hcon
    refine Calls.mono hcon ?_
    rintro e w' ⟨rfl,m,os,rfl⟩
    refine ⟨rfl,?_⟩
    have hF:flatK (encL l) 3 (l.attach.mergeSort fun x y=>!(ltOf (cfL n d l)) y x).toArray=(vp (qoc n d l)).toArray:=by
      apply Array.toList_inj.1
      rw [hflat];rfl
    have hlen:(vp (qoc n d l)).length=l.length*3:=by rw [qgk,qoe]
    have hrow:=qoi hr m (vp (qoc n d l)).toArray (by rw [qgk] at hcl;simp;omega)
    have hap:Apart g w (putRow id (Sort.ahead w m) g 0 (vp (qoc n d l)).toArray):=qoj g w m 0 _
    have hown:=hrow.own hnc
    have htk:List.take (l.length*3) ((vp (qoc n d l)).toArray.toList++List.drop (vp (qoc n d l)).toArray.size cur)=vp (qoc n d l):=by
      simp only [List.size_toArray]
      rw [List.take_append_of_le_length (by omega),← hlen,List.take_length]
    rw [htk] at hown
    unfold sortWorldK putRowK
    show ∃ y,grow (putRow id (Sort.ahead w m) g 0 (flatK (encL l) 3 (l.attach.mergeSort fun x y=>!(ltOf (cfL n d l)) y x).toArray)) os=ext wB y∧_
    rw [hF]
    exact qfw ((hap.bel hb (by omega)).trans (qok _ os)) hown (qok _ os)
end Go.Proofs.Ytbjpmdhdoggobaa

namespace Go.Pel
def qoo (l:List Pt) (n d:Int):List Pt×Int:=if qgq l≠0 then ([],qgq l) else if qdm n d≠0 then ([],qdm n d) else (qoc n d l,0)
theorem qop {l:List Pt} (h:incB l=true):qo9 l:=by
  intro p hp q hq he
  obtain ⟨i,hi⟩:=List.mem_iff_getElem?.1 hp
  obtain ⟨j,hj⟩:=List.mem_iff_getElem?.1 hq
  rcases (by omega:i<j∨j<i∨i=j) with k | k | k
  · have:=qgp h k hi hj;omega
  · have:=qgp h k hj hi;omega
  · subst k;rw [hi] at hj;exact Option.some.inj hj
end Go.Pel
namespace Go.Proofs.Ytbjpmdhdoggobaa
open Go.RowKit Go.Pel
set_option maxRecDepth 10000 in
set_option maxHeartbeats 2000000 in
theorem qoq (A:Option Addr) (c:Nat) (l:List Pt) (n d:Int) (w:World) (hn:-9223372036854775808≤n∧n≤9223372036854775807) (hd:-9223372036854775808≤d∧d≤9223372036854775807) (hs:Sl w 3 A l.length c (vp l)) (hn0:A=none→c=0) :
    Calls Try.prog 29 #[.agg #[.slice A l.length c],.agg #[.int .i64 n,.int .i64 d]] w fun e w'=>∃ A' c',e=.returned (.tuple #[.slice A' (qoo l n d).1.length c',.int .i64 (qoo l n d).2])∧∃ x,w'=ext w x∧Own (ext w x) w.heap.size 26 3 A' (qoo l n d).1.length c' (vp (qoo l n d).1):=by
  have q:=Lib.hid (fun W hb=>qlp A c l W (hs.bel (w':=W) hb))
  have q2:=Lib.hid (fun W=>qkg n d W hn hd)
  by_cases h:qgq l=0
  · rw [h] at q
    obtain ⟨h64,hchk,hinc⟩:=qgv h
    by_cases h2:qdm n d=0
    · rw [h2] at q2
      have HF:Hid (qoo l n d=(qoc n d l,0)):=Lib.hid (by unfold qoo;rw [if_neg (by simpa using h),if_neg (by simpa using h2)])
      have q3:=Lib.hid (fun W hb=>qnv A c l W (hs.bel (w':=W) hb) hn0 (by omega))
      have hia:=qop hinc
      have hap:∀ p∈l,∀ q∈l,p.id≠q.id→ql2 p q n d=0:=fun p hp q hq hne=>ql5 ⟨hchk p hp,hchk q hq,h2⟩ hne
      have q4:=Lib.hid (fun (A2:Option Addr) (c2 rb B:Nat) (W:World) (hs2:Own W B 26 3 A2 l.length c2 (vp l)) (hb:Bel w W) (hB:w.heap.size≤B) (hrb:rb<B) (r0:Held W rb 0 (.int .i64 n)) (r1:Held W rb 1 (.int .i64 d))=>qon A2 c2 l n d rb B w W hs2 hb hB hrb r0 r1 hn hd (by omega) hia hap)
      rw [HF.out]
      clear h h2 h64 hchk hinc hia hap hn hd HF
      have HL:=Lib.hid (qoe n d l)
      go_enter Try.func29,Try.ntmps29
      go_wp2_with (first | (go_at_call 46;refine (q.out _ (by (try simp only [qc8]);repeat (first | exact Bel.refl _ | assumption | refine qch ?_ _ | refine qci ?_ _ | refine Bel.ext ?_ _ | refine Bel.alloc ?_ _ | refine Bel.drewN ?_ _))).mono ?_;rintro e _ ⟨rfl,nx,rfl⟩) | (go_at_call 15;refine (q2.out _).mono ?_;rintro e _ ⟨rfl,nx,rfl⟩))
      refine (q3.out _ (by (try simp only [qc8]);repeat (first | exact Bel.refl _ | assumption | refine qch ?_ _ | refine qci ?_ _ | refine Bel.ext ?_ _ | refine Bel.alloc ?_ _ | refine Bel.drewN ?_ _))).mono ?_
      rintro e _ ⟨A2,c2,rfl,x2,rfl,own2⟩
      simp only [qc8] at own2 ⊢
      have own3:=own2.base_le (base':=w.heap.size+2) (by simp [go_sem])
      clear own2
      generalize hZ:((_:Beyond).and _).and x2=Z at own3 ⊢
      obtain ⟨W2,hW2⟩:∃ W2,ext ((w.alloc (.cells #[.slice A l.length c] 24)).alloc (.cells #[.int .i64 n,.int .i64 d] 28)) Z=W2:=⟨_,rfl⟩
      rw [hW2] at own3 ⊢
      have hb2:Bel w W2:=by rw [← hW2];exact (by (try simp only [qc8]);repeat (first | exact Bel.refl _ | assumption | refine qch ?_ _ | refine qci ?_ _ | refine Bel.ext ?_ _ | refine Bel.alloc ?_ _ | refine Bel.drewN ?_ _))
      have hb3:Bel ((w.alloc (.cells #[.slice A l.length c] 24)).alloc (.cells #[.int .i64 n,.int .i64 d] 28)) W2:=by rw [← hW2];exact q98 _ _
      have e1:(w.alloc (.cells #[.slice A l.length c] 24)).heap.size=w.heap.size+1:=by simp [go_sem]
      have r0:=Held.new (j:=0) hb3 rfl
      have r1:=Held.new (j:=1) hb3 rfl
      rw [e1] at r0 r1
      have q5:=q4.out A2 c2 (w.heap.size+1) (w.heap.size+2) W2 own3 hb2 (by omega) (by omega) r0 r1
      clear hW2 hZ q4 q3 q2 q r0 r1 hb3 own3
      go_wp2_with (go_at_call 48;refine q5.mono ?_;rintro e _ ⟨rfl,y,rfl,own4⟩)
      go_ret2
      refine ⟨A2,c2,?_,y,rfl,?_⟩
      · rw [HL.out];rfl
      · rw [HL.out];exact own4.base_le (by omega)
    · rw [show qoo l n d = ([], qdm n d) by unfold qoo; rw [if_neg (by simpa using h), if_pos h2]]
      have h2':(qdm n d != 0)=true:=by simpa using h2
      clear h h64 hchk hinc h2 hn hd
      go_enter Try.func29,Try.ntmps29
      go_wp2_with (first | (go_at_call 46;refine (q.out _ (by (try simp only [qc8]);repeat (first | exact Bel.refl _ | assumption | refine qch ?_ _ | refine qci ?_ _ | refine Bel.ext ?_ _ | refine Bel.alloc ?_ _ | refine Bel.drewN ?_ _))).mono ?_;rintro e _ ⟨rfl,nx,rfl⟩) | (go_at_call 15;refine (q2.out _).mono ?_;rintro e _ ⟨rfl,nx,rfl⟩))
      go_ret2
      exact ⟨none,0,rfl,qfw (by (try simp only [qc8]);repeat (first | exact Bel.refl _ | assumption | refine qch ?_ _ | refine qci ?_ _ | refine Bel.ext ?_ _ | refine Bel.alloc ?_ _ | refine Bel.drewN ?_ _)) (Own.nil_ _ _ _ _) (Bel.refl _)⟩
  · rw [show qoo l n d = ([], qgq l) by unfold qoo; rw [if_pos h]]
    have h':(qgq l != 0)=true:=by simpa using h
    clear h hn hd
    go_enter Try.func29,Try.ntmps29
    go_wp2_with (first | (go_at_call 46;refine (q.out _ (by (try simp only [qc8]);repeat (first | exact Bel.refl _ | assumption | refine qch ?_ _ | refine qci ?_ _ | refine Bel.ext ?_ _ | refine Bel.alloc ?_ _ | refine Bel.drewN ?_ _))).mono ?_;rintro e _ ⟨rfl,nx,rfl⟩))
    go_ret2
    exact ⟨none,0,rfl,qfw (by (try simp only [qc8]);repeat (first | exact Bel.refl _ | assumption | refine qch ?_ _ | refine qci ?_ _ | refine Bel.ext ?_ _ | refine Bel.alloc ?_ _ | refine Bel.drewN ?_ _)) (Own.nil_ _ _ _ _) (Bel.refl _)⟩
end Go.Proofs.Ytbjpmdhdoggobaa

namespace Go.Pel
end Go.Pel
namespace Go.Proofs.Ytbjpmdhdoggobaa
open Go.RowKit Go.Pel
end Go.Proofs.Ytbjpmdhdoggobaa

namespace Go.Pel
open Go
def qos (l:List Pt) (n d:Int):List Int×Int:=if (qoo l n d).2≠0 then ([],(qoo l n d).2) else ((qoo l n d).1.map Pt.id,0)
def qot (m:List Pt) (k:Nat):List Value:=vi ((m.take k).map Pt.id)++List.replicate (m.length - k) (.int .i64 0)
theorem qou {m:List Pt} {k:Nat} {p:Pt} (h:m[k]?=some p):(qot m k).set k (.int .i64 p.id)=qot m (k+1):=by
  have hk:=(List.getElem?_eq_some_iff.1 h).1
  unfold qot
  have hl:(vi ((m.take k).map Pt.id)).length=k:=by simp [vi];omega
  rw [List.set_append_right _ _ (by omega),hl,Nat.sub_self]
  obtain ⟨r,hr⟩:∃ r,m.length - k=r+1:=⟨m.length - k - 1,by omega⟩
  rw [hr,List.replicate_succ,List.set_cons_zero,List.take_add_one,h]
  simp [vi,show m.length - (k+1)=r by omega]
theorem qov {m:List Pt} {k:Nat} (hk:k<m.length):(qot m k)[k]?=some (.int .i64 0):=by
  unfold qot
  have hl:(vi ((m.take k).map Pt.id)).length=k:=by simp [vi];omega
  rw [List.getElem?_append_right (by omega),hl,Nat.sub_self,List.getElem?_replicate,if_pos (by omega)]
theorem qow (m:List Pt):qot m m.length=vi (m.map Pt.id):=by simp [qot]
end Go.Pel
namespace Go.Proofs.Ytbjpmdhdoggobaa
open Go.RowKit Go.Pel
theorem qox:SlT Try.prog 40 3 (.int .i64 0) 1 8:=⟨by kernel_rfl,by kernel_rfl,by kernel_rfl,by decide,by decide⟩
theorem qoy (n:Nat):(madeCells (Value.int .i64 0).cells (n*1)).toList=List.replicate n (.int .i64 0):=by
  apply List.ext_getElem?
  intro k
  by_cases hk:k<n<;>simp [madeCells,Value.cells,Nat.mod_one,List.getElem?_replicate,hk]
set_option maxRecDepth 10000 in
set_option maxHeartbeats 2000000 in
theorem qoz (A:Option Addr) (c:Nat) (l:List Pt) (n d:Int) (w:World) (hn:-9223372036854775808≤n∧n≤9223372036854775807) (hd:-9223372036854775808≤d∧d≤9223372036854775807) (hs:Sl w 3 A l.length c (vp l)) (hn0:A=none→c=0) (hl:l.length≤1000000) :
    Calls Try.prog 14 #[.agg #[.slice A l.length c],.agg #[.int .i64 n,.int .i64 d]] w fun e w'=>∃ A' c',e=.returned (.tuple #[.slice A' (qos l n d).1.length c',.int .i64 (qos l n d).2])∧∃ x,w'=ext w x∧Own (ext w x) w.heap.size 3 1 A' (qos l n d).1.length c' (vi (qos l n d).1):=by
  have q:=Lib.hid (fun W hb=>qoq A c l n d W hn hd (hs.bel (w':=W) hb) hn0)
  have hlm:(qoo l n d).1.length≤1000000:=by
    unfold qoo;split
    · simp
    · split
      · simp
      · rw [qoe];exact hl
  unfold qos
  generalize qoo l n d=F at q hlm ⊢
  obtain ⟨m,v⟩:=F
  simp only at q hlm ⊢
  by_cases h:v=0
  · subst h
    rw [if_neg (by decide)]
    simp only [List.length_map]
    clear hn hd
    go_enter Try.func14,Try.ntmps14
    go_wp2_with (first | (refine qf5 qox (Bel.refl _) (n:=m.length) (by omega) rfl _ _ rfl rfl rfl ?_;rintro g y hg hown;rw [qoy] at hown;have hL2:=own2.sl) | (go_at_call 29;refine (q.out _ (by (try simp only [qc8]);repeat (first | exact Bel.refl _ | assumption | refine qch ?_ _ | refine qci ?_ _ | refine Bel.ext ?_ _ | refine Bel.alloc ?_ _ | refine Bel.drewN ?_ _))).mono ?_;rintro e W1 ⟨A2,c2,rfl,hx2⟩;have own2:=qij hx2;have hb0:=q99 (qii hx2);have hb1:Bel w W1:=(by refine Bel.trans ?_ hb0;exact (by (try simp only [qc8]);repeat (first | exact Bel.refl _ | assumption | refine qch ?_ _ | refine qci ?_ _ | refine Bel.ext ?_ _ | refine Bel.alloc ?_ _ | refine Bel.drewN ?_ _)));clear hx2 hb0))
    clear own2
    go_loopw [25] (fun i wr=>∃ (k:Nat) (y:Beyond),k≤m.length∧i=.int .i64 k∧wr=ext W1 y∧Own (ext W1 y) W1.heap.size 3 1 (some ⟨g,0,none⟩) m.length m.length (qot m k)) (fun i _=>m.length - (intOf i).toNat)
    case atStart=>exact ⟨0,y,Nat.zero_le _,rfl,rfl,by simpa [qot,vi] using hown⟩
    case round =>
      obtain ⟨k,y3,hk,rfl,rfl,own3⟩:=hrel
      by_cases hlt:k<m.length
      · obtain ⟨p, hp⟩ : ∃ p, m[k]? = some p := ⟨_, List.getElem?_eq_getElem hlt⟩
        have HS:=Lib.hid (qou hp)
        have b0:=qf7 own3 (qov hlt)
        have z0:=qf8 own3 k
        obtain ⟨b,o,rfl,hb2⟩:=hL2.at_ (by omega)
        obtain ⟨r0,r1,r2⟩:=qgn (hL2.bel (w':=ext W1 y3) (q98 _ _)) hp
        have hlt':(k:Int)<(m.length:Int):=by omega
        have hgs:=own3.ats.2
        have hb3:b<(ext W1 y3).heap.size:=by simp [go_sem];omega
        have hb4:Bel W1 (ext W1 y3):=q98 _ _
        clear hp hown
        generalize ext W1 y3=V at *
        have hgne:¬ g=V.heap.size:=by omega
        have hgne':¬ V.heap.size=g:=by omega
        go_wp2
        go_roundw
        case rel =>
          obtain ⟨y5,hy5,own5⟩:=qfw (w:=W1) ((hb4.setCell (p:=⟨g,k,none⟩) hg (.int .i64 p.id)).alloc (.cells #[.int .i64 p.id,.int .i64 p.a,.int .i64 p.b] 26)) (World.ownsRow.stored own3 k (.int .i64 p.id)).1 ((Bel.refl _).alloc _)
          rw [HS.out] at own5
          exact ⟨k+1,y5,by omega,by go_num,hy5,own5⟩
        case measure=>(first | (simp [intOf];done) | (simp [intOf];omega))
      · obtain rfl : k = m.length := by omega
        rw [qow] at own3
        go_wp2
        go_ret2
        exact ⟨some ⟨g,0,none⟩,m.length,rfl,qfw (by (try simp only [qc8]);repeat (first | exact Bel.refl _ | assumption | refine qch ?_ _ | refine qci ?_ _ | refine Bel.ext ?_ _ | refine Bel.alloc ?_ _ | refine Bel.drewN ?_ _)) (own3.base_le hb1.size) (Bel.refl _)⟩
  · rw [if_pos h]
    have h':(v != 0)=true:=by simpa using h
    clear h hn hd
    go_enter Try.func14,Try.ntmps14
    go_wp2_with (go_at_call 29;refine (q.out _ (by (try simp only [qc8]);repeat (first | exact Bel.refl _ | assumption | refine qch ?_ _ | refine qci ?_ _ | refine Bel.ext ?_ _ | refine Bel.alloc ?_ _ | refine Bel.drewN ?_ _))).mono ?_;rintro e _ ⟨A2,c2,rfl,x2,rfl,own2⟩)
    go_ret2
    exact ⟨none,0,rfl,qfw (by (try simp only [qc8]);repeat (first | exact Bel.refl _ | assumption | refine qch ?_ _ | refine qci ?_ _ | refine Bel.ext ?_ _ | refine Bel.alloc ?_ _ | refine Bel.drewN ?_ _)) (Own.nil_ _ _ _ _) (Bel.refl _)⟩
end Go.Proofs.Ytbjpmdhdoggobaa

namespace Go.Pel
open Go Go.RowKit
theorem qp3 {w:World} {b o n c:Nat} {l:List Int} (h:Sl w 1 (some ⟨b,o,none⟩) n c (vi l)) {k:Nat} {x:Int} (hx:l[k]?=some x):w.cell? ⟨b,o+k,none⟩=some (.int .i64 x):=by
  have hl:=h.2.1
  have hk:=(List.getElem?_eq_some_iff.1 hx).1
  obtain ⟨b',o',hA,_,hc⟩:=h.2.2 (by simp [vi] at hl;omega)
  injection hA with hA;injection hA with h1 h2
  subst h1 h2
  exact hc k _ (by simp [vi,hx])
end Go.Pel
namespace Go.Proofs.Ytbjpmdhdoggobaa
open Go.RowKit Go.Pel
end Go.Proofs.Ytbjpmdhdoggobaa

namespace Go.Pel
open Go Go.RowKit
end Go.Pel
namespace Go.Proofs.Ytbjpmdhdoggobaa
open Go.RowKit Go.Pel
set_option maxRecDepth 10000 in
set_option maxHeartbeats 2000000 in
theorem qpa (A B:Option Addr) (c d:Nat) (l m:List Int) (w:World) (hs:Sl w 1 A l.length c (vi l)) (ht:Sl w 1 B m.length d (vi m)) (hl:l.length≤1000000) (hm:m.length≤1000000) :
    Calls Try.prog 12 #[.slice A l.length c,.slice B m.length d] w fun e w'=>e=.returned (.bool (decide (l=m)))∧∃ x,w'=ext w x:=by
  by_cases hn:l.length=m.length
  · have z0 : ((l.length : Int) != (m.length : Int)) = false := by rw [bne_eq_false_iff_eq]; omega
    have HN:=Lib.hid hn
    have hle1:l.length≤m.length:=by omega
    have hle2:m.length≤l.length:=by omega
    clear hn
    go_enter Try.func12,Try.ntmps12
    go_wp2
    go_loopw [5] (fun i wr=>∃ (k:Nat),k≤l.length∧i=.int .i64 k∧l.take k=m.take k∧∃ y,wr=ext w y) (fun i _=>l.length - (intOf i).toNat)
    case atStart=>exact ⟨0,Nat.zero_le _,rfl,rfl,ext_of (Bel.refl _)⟩
    case round =>
      obtain ⟨k,hk,rfl,hgo,y,rfl⟩:=hrel
      have HG:=Lib.hid hgo;clear hgo
      by_cases hlt:k<l.length
      · obtain ⟨x, hx⟩ : ∃ x, l[k]? = some x := ⟨_, List.getElem?_eq_getElem hlt⟩
        obtain ⟨x',hx'⟩:∃ x,m[k]?=some x:=⟨_,List.getElem?_eq_getElem (by omega)⟩
        obtain ⟨b,o,rfl,hb⟩:=hs.at_ (by omega)
        obtain ⟨b2,o2,rfl,hb2⟩:=ht.at_ (by omega)
        have r0:=qp3 hs hx
        have q0:=qp3 ht hx'
        have HX:=Lib.hid hx
        have HX':=Lib.hid hx'
        have hlt1:(k:Int)<(l.length:Int):=by omega
        have hlt2:(k:Int)<(m.length:Int):=by omega
        clear hx hx'
        have HE:=Lib.hid (show l.take (k+1)=l.take k ++ [x] by rw [List.take_add_one,HX.out];rfl)
        have HE':=Lib.hid (show m.take (k+1)=m.take k ++ [x'] by rw [List.take_add_one,HX'.out];rfl)
        by_cases hxy:x=x'
        · subst hxy
          have heq:(x != x)=false:=by simp
          go_wp2
          ((first | refine RegC.wp_region_ext1 (by kernel_rfl) (by kernel_rfl) ?_ | refine RegC.wp_region_ext0 (by kernel_rfl) (by kernel_rfl) ?_);(repeat (any_goals (first | go_big_quiet_step (fail) | (refine RegC.wpQuiet_split rfl rfl (fun hb=>?_) (fun hb=>?_)<;>simp only [hb]))));all_goals (refine wpQuiet_nil ?_;rintro _ ⟨nq,rfl⟩))
          go_wp2
          go_roundw
          case rel =>
            refine ⟨k+1,by omega,by go_num,?_,ext_of (by (try simp only [qc8]);repeat (first | exact Bel.refl _ | assumption | refine qch ?_ _ | refine qci ?_ _ | refine Bel.ext ?_ _ | refine Bel.alloc ?_ _ | refine Bel.drewN ?_ _))⟩
            rw [HE.out,HE'.out,HG.out]
          case measure=>(first | (simp [intOf];done) | (simp [intOf];omega))
        · have heq : (x != x') = true := by simpa using hxy
          have z1:decide (l=m)=false:=by rw [decide_eq_false_iff_not];intro h;apply hxy;have h1:=HX.out;rw [h,HX'.out] at h1;exact (Option.some.inj h1).symm
          have Z1:=Lib.hid z1
          clear z1 hxy
          go_wp2
          ((first | refine RegC.wp_region_ext1 (by kernel_rfl) (by kernel_rfl) ?_ | refine RegC.wp_region_ext0 (by kernel_rfl) (by kernel_rfl) ?_);(repeat (any_goals (first | go_big_quiet_step (fail) | (refine RegC.wpQuiet_split rfl rfl (fun hb=>?_) (fun hb=>?_)<;>simp only [hb]))));all_goals (refine wpQuiet_nil ?_;rintro _ ⟨nq,rfl⟩))
          go_wp2
          (go_ret;exact ⟨qkd (by exact Z1.out.symm),ext_of (by (try simp only [qc8]);repeat (first | exact Bel.refl _ | assumption | refine qch ?_ _ | refine qci ?_ _ | refine Bel.ext ?_ _ | refine Bel.alloc ?_ _ | refine Bel.drewN ?_ _))⟩)
      · have z1:decide (l=m)=true:=by
          rw [decide_eq_true_eq]
          have h:=HG.out
          obtain rfl:k=l.length:=by omega
          rw [List.take_length] at h
          rw [h,HN.out,List.take_length]
        have Z1:=Lib.hid z1
        clear z1
        go_wp2
        (go_ret;exact ⟨qkd (by exact Z1.out.symm),ext_of (by (try simp only [qc8]);repeat (first | exact Bel.refl _ | assumption | refine qch ?_ _ | refine qci ?_ _ | refine Bel.ext ?_ _ | refine Bel.alloc ?_ _ | refine Bel.drewN ?_ _))⟩)
  · have z0 : ((l.length : Int) != (m.length : Int)) = true := by rw [bne_iff_ne]; omega
    have Z1:=Lib.hid (show decide (l=m)=false by rw [decide_eq_false_iff_not];intro h;exact hn (by rw [h]))
    clear hn
    go_enter Try.func12,Try.ntmps12
    go_wp2
    (go_ret;exact ⟨qkd (by exact Z1.out.symm),ext_of (by (try simp only [qc8]);repeat (first | exact Bel.refl _ | assumption | refine qch ?_ _ | refine qci ?_ _ | refine Bel.ext ?_ _ | refine Bel.alloc ?_ _ | refine Bel.drewN ?_ _))⟩)
end Go.Proofs.Ytbjpmdhdoggobaa

namespace Go.Proofs.Ytbjpmdhdoggobaa
open Go.RowKit Go.Pel
end Go.Proofs.Ytbjpmdhdoggobaa

namespace Go.Pel
open Go Go.RowKit
end Go.Pel
namespace Go.Proofs.Ytbjpmdhdoggobaa
open Go.RowKit Go.Pel
end Go.Proofs.Ytbjpmdhdoggobaa

namespace Go
open RowKit
def qpg (o:Obj):Prop:=∀ cs e f,o ≠ .cells cs e f
structure Records (b:Nat) (W W':World):Prop where
  keep:∀ (k:Nat) (o:Obj),b≤k→W.heap[k]?=some o→qpg o→W'.heap[k]?=some o
theorem Records.refl (b:Nat) (W:World):Records b W W:=⟨fun _ _ _ h _=>h⟩
theorem Records.trans {b:Nat} {A B D:World} (h:Records b A B) (k:Records b B D):Records b A D:=⟨fun i o hb h1 h2=>k.keep i o hb (h.keep i o hb h1 h2) h2⟩
theorem Records.bel {b:Nat} {A B:World} (h:Bel A B):Records b A B:=⟨fun k o _ h1 _=>by
  have hl:k<A.heap.size:=(Array.getElem?_eq_some_iff.1 h1).1
  rw [h.block k hl];exact h1⟩
section
variable {F:Fence} {n:Nat} {P:Program}
end
end Go

namespace Go
namespace RegC
section
variable {P:Program} {ops:Array Oper} {md:Region.Mode} {Q:Exit→Act→World→Prop} {l n:Nat}
end
section
variable {P:Program} {C:World→Prop} {l n:Nat}
end
end RegC
end Go

namespace Go.Tx
open Go Go.RegC
section
variable {P:Program} {V:Nat→Value→Prop} {Q:Exit→Act→World→Prop} {ops:Array Oper}
end
section
variable {P:Program} {T:Tys} {C:Orc} {N l:Nat} {V:Nat→Value→Prop} {w0:World} {φ0:Fz0} {Q:Exit→Act→World→Prop}
end
structure OnlyB (b:Nat) (A B:World):Prop where
  size:B.heap.size=A.heap.size
  same:∀ k,k≠b→B.heap[k]?=A.heap[k]?
  os:B.os=A.os
  tape:B.tape=A.tape
  output:B.output=A.output
  drawn:B.drawn=A.drawn
theorem OnlyB.put (A:World) (b:Nat) (o:Obj):OnlyB b A (A.putObj b o):=⟨by rw [World.putObj_size],fun k hk=>World.putObj_heap_other hk,rfl,rfl,rfl,rfl⟩
theorem HR.only {M:Nat} {η:Emb} {H:LH} {A B:World} {b:Nat} (h:HR M η H A) (hb:OnlyB b A B) (hl:¬ LB H η b) (hf:η.fz b=none):HR M η H B where
  dom:=h.dom
  lt:=h.lt
  live k ob hk:=(h.live k ob hk).move (Emb.le_refl _) rfl (Nat.le_of_eq hb.size.symm) fun L hL=>hb.same _ fun he=>hl ⟨k,ob,L,hk,hL,he⟩
  inj:=h.inj
  fz k ob hk:=by rw [hb.same k fun he=>by rw [he,hf] at hk;cases hk];exact h.fz k ob hk
  sep:=h.sep
  ok:=h.ok
theorem Fr.only {w0:World} {φ0:Fz0} {H:LH} {η:Emb} {A B:World} {b:Nat} (h:Fr w0 φ0 H η A) (hb:OnlyB b A B) (h0:w0.heap.size≤b) (hk:∀ o,¬ φ0.K b o):Fr w0 φ0 H η B where
  size:=by rw [hb.size];exact h.size
  same k hlt:=(hb.same k (by omega)).trans (h.same k hlt)
  lb:=h.lb
  fz0:=h.fz0
  fzn:=h.fzn
  os:=hb.os.trans h.os
  tape:=hb.tape.trans h.tape
  output:=hb.output.trans h.output
  drawn:=by rw [hb.drawn];exact h.drawn
  kp k o ho:=by
    obtain ⟨h1,h2,h3⟩:=h.kp k o ho
    exact ⟨(hb.same k fun he=>hk o (by rw [← he];exact ho)).trans h1,h2,h3⟩
section
open Go.RowKit
variable {F:Fence} {n:Nat} {P:Program}
end
end Go.Tx

namespace Go.Tx
open Go
def SX (w0:World) (φ0:Fz0) (tm:List (Nat×LV)) (ob:List Ob) (a:Act) (kb r:Nat) (T:Nat→Prop) (W:World):Prop :=
  ∃ η,(∀ M,HR M η (q7c ob) W)∧(∀ n l,(n,l)∈tm→∃ v,a.tmps[n]?=some v∧VR η l v)∧Fr w0 φ0 (q7c ob) η W∧(∀ k,k=kb∨k=r∨k=r+1∨T k→¬ LB (q7c ob) η k∧η.fz k=none)∧r+1<W.heap.size∧∀ k,T k→r+1<k∧k<W.heap.size
theorem SX.only {w0:World} {φ0:Fz0} {tm:List (Nat×LV)} {ob:List Ob} {a:Act} {kb r b:Nat} {T:Nat→Prop} {A B:World} (h:SX w0 φ0 tm ob a kb r T A) (hb:OnlyB b A B) (hbb:b=kb∨b=r∨b=r+1) (h0:w0.heap.size≤b) (hk:∀ o,¬ φ0.K b o):SX w0 φ0 tm ob a kb r T B:=by
  obtain ⟨η,h1,h2,h3,h4,h5,h6⟩:=h
  obtain ⟨g1,g2⟩:=h4 b (hbb.imp id (Or.imp id .inl))
  exact ⟨η,fun M=>(h1 M).only hb g1 g2,h2,h3.only hb h0 hk,h4,by rw [hb.size];exact h5,fun k hk=>by rw [hb.size];exact h6 k hk⟩
theorem HR.grow {M:Nat} {η:Emb} {H:LH} {A B:World} (h:HR M η H A) (hb:Bel A B):HR M η H B where
  dom:=h.dom
  lt:=h.lt
  live k ob hk:=(h.live k ob hk).move (Emb.le_refl _) rfl hb.size fun L hL=>hb.block _ ((h.live k ob hk).lt hL)
  inj:=h.inj
  fz k ob hk:=by rw [hb.block k (Array.getElem?_eq_some_iff.1 (h.fz k ob hk)).1];exact h.fz k ob hk
  sep:=h.sep
  ok:=h.ok
theorem Fr.grow {w0:World} {φ0:Fz0} {H:LH} {η:Emb} {A B:World} (h:Fr w0 φ0 H η A) (hb:Bel A B):Fr w0 φ0 H η B where
  size:=Nat.le_trans h.size hb.size
  same k hlt:=(hb.block k (Nat.lt_of_lt_of_le hlt h.size)).trans (h.same k hlt)
  lb:=h.lb
  fz0:=h.fz0
  fzn:=h.fzn
  os:=hb.os.trans h.os
  tape:=hb.tape.trans h.tape
  output:=hb.output.trans h.output
  drawn:=Nat.le_trans h.drawn hb.mono
  kp k o ho:=by
    obtain ⟨h1,h2,h3⟩:=h.kp k o ho
    exact ⟨(hb.block k (Array.getElem?_eq_some_iff.1 h1).1).trans h1,h2,h3⟩
theorem SX.grow {w0:World} {φ0:Fz0} {tm:List (Nat×LV)} {ob:List Ob} {a:Act} {kb r:Nat} {T:Nat→Prop} {A B:World} (h:SX w0 φ0 tm ob a kb r T A) (hb:Bel A B):SX w0 φ0 tm ob a kb r (fun k=>T k∨(A.heap.size≤k∧k<B.heap.size)) B:=by
  obtain ⟨η,h1,h2,h3,h4,h5,h6⟩:=h
  refine ⟨η,fun M=>(h1 M).grow hb,h2,h3.grow hb,fun k hk=>?_,Nat.lt_of_lt_of_le h5 hb.size,fun k hk=>?_⟩
  · rcases hk with hk | hk | hk | hk | ⟨hk, _⟩
    · exact h4 k (.inl hk)
    · exact h4 k (.inr (.inl hk))
    · exact h4 k (.inr (.inr (.inl hk)))
    · exact h4 k (.inr (.inr (.inr hk)))
    · refine ⟨fun ⟨j, ob', L, hj, hL, he⟩ => ?_, ?_⟩
      · have:=((h1 0).live j ob' hj).lt hL;omega
      · cases hf : η.fz k with
        | none=>rfl
        | some o=>have:=(Array.getElem?_eq_some_iff.1 ((h1 0).fz k o hf)).1;omega
  · rcases hk with hk | ⟨hk, hk2⟩
    · obtain ⟨g1, g2⟩ := h6 k hk
      exact ⟨g1,Nat.lt_of_lt_of_le g2 hb.size⟩
    · exact ⟨by omega,hk2⟩
section
variable {P:Program} {N:Nat} {w0:World} {φ0:Fz0} {Q:Exit→Act→World→Prop}
end
end Go.Tx

namespace Go.Tx
open Go Go.RegC
theorem qqq {α:Type} {c:Bool} {A:Option α} {r:α} (h:(bif c then A else none)=some r):c=true∧A=some r:=by
  cases c with
  | true=>exact ⟨rfl,h⟩
  | false=>cases h
end Go.Tx

namespace Go.Tx
open Go Go.Sort Go.RowKit Go.Proofs Go.Shelf
theorem qqx {α:Type} [Inhabited α] (enc:α→List Value) (k:Nat) (hk:∀ x,(enc x).length=k):∀ (l:List α),(flatK enc k l.toArray).toList=l.flatMap enc:=by
  intro l
  have key:∀ (l:List α) (t:Nat),t<l.length*k→(l.flatMap enc)[t]?=some ((enc l[t / k]!)[t % k]!):=by
    intro l
    induction l with
    | nil=>intro t ht;simp at ht
    | cons a r ih =>
      intro t ht
      have k0:0<k:=by
        rcases Nat.eq_zero_or_pos k with h | h
        · subst h;simp at ht
        · exact h
      rw [List.flatMap_cons]
      by_cases hlt:t<k
      · rw [List.getElem?_append_left (by rw [hk]; exact hlt), Nat.div_eq_of_lt hlt, Nat.mod_eq_of_lt hlt]
        have:t<(enc a).length:=by rw [hk];exact hlt
        simp [this]
      · rw [List.getElem?_append_right (by rw [hk]; omega), hk]
        have h2:t - k<r.length*k:=by
          rw [List.length_cons,Nat.add_mul,Nat.one_mul] at ht;omega
        rw [ih (t - k) h2]
        have e1:t / k=(t - k) / k+1:=by
          have:=Nat.div_eq_sub_div k0 (by omega:k≤t)
          omega
        have e2:t % k=(t - k) % k:=Nat.mod_eq_sub_mod (by omega)
        rw [e1,e2]
        simp
  have hlen:(l.flatMap enc).length=l.length*k:=by
    induction l with
    | nil=>simp
    | cons a r ih=>rw [List.flatMap_cons,List.length_append,ih,hk,List.length_cons,Nat.add_mul,Nat.one_mul];omega
  apply List.ext_getElem?
  intro t
  by_cases ht:t<l.length*k
  · rw [key l t ht]
    simp [flatK,ht]
  · rw [List.getElem?_eq_none (by simp [flatK];omega),List.getElem?_eq_none (by rw [hlen];omega)]
def eqR:(τ:Row)→den τ→den τ→Bool
  | .nil,_,_=>true
  | .int _ r,x,y=>x.1 == y.1&&eqR r x.2 y.2
  | .bool r,x,y=>x.1 == y.1&&eqR r x.2 y.2
  | .sl _ _,_,_=>false
theorem qqy:∀ (τ:Row) (x y:den τ),eqR τ x y=true→x=y
  | .nil,_,_,_=>rfl
  | .int k r, x, y, h => by
    rw [eqR,Bool.and_eq_true,beq_iff_eq] at h
    exact Prod.ext h.1 (qqy r x.2 y.2 h.2)
  | .bool r, x, y, h => by
    rw [eqR,Bool.and_eq_true,beq_iff_eq] at h
    exact Prod.ext h.1 (qqy r x.2 y.2 h.2)
  | .sl _ _,_,_,h=>by cases h
section
variable {τ:Row} (F:den τ×den τ×Unit→Option Int)
def cmpV (x y:den τ):Int:=match F (x,y,()) with | some n=>n | none=>0
def ltV (x y:den τ):Bool:=decide (cmpV F x y<0)
def qqz (xs:List (den τ)):Bool :=
  xs.all (fun x=>xs.all fun y=>(F (x,y,())).isSome)&&xs.all (fun x=>!(ltV F x x)) &&
  xs.all (fun x=>xs.all fun y=>!(ltV F x y) || xs.all fun z=>!(ltV F y z) || ltV F x z) &&
  xs.all (fun x=>xs.all fun y=>ltV F x y || xs.all fun z=>ltV F y z || !(ltV F x z)) &&
  xs.all (fun x=>xs.all fun y=>ltV F x y || ltV F y x || eqR τ x y)
end
def insL {α:Type} (lt:α→α→Bool) (x:α):List α→List α
  | []=>[x]
  | y :: ys=>bif lt x y then x :: y :: ys else y :: insL lt x ys
def qr0 {α:Type} (lt:α→α→Bool):List α→List α
  | []=>[]
  | x :: xs=>insL lt x (qr0 lt xs)
def qr1 {τ:Row} (F:den τ×den τ×Unit→Option Int) (xs:List (den τ)):Option (List (den τ)):=bif Nat.ble xs.length 1000000&&qqz F xs then some (qr0 (ltV F) xs) else none
theorem qr2 {α:Type} (lt:α→α→Bool) (x:α):∀ l:List α,(insL lt x l).Perm (x :: l)
  | []=>.refl _
  | y :: ys => by
    rw [insL]
    cases lt x y with
    | true=>exact .refl _
    | false=>exact ((qr2 lt x ys).cons y).trans (.swap x y ys)
theorem qr3 {α:Type} (lt:α→α→Bool):∀ l:List α,(qr0 lt l).Perm l
  | []=>.refl _
  | x :: xs=>by rw [qr0];exact (qr2 lt x _).trans ((qr3 lt xs).cons x)
theorem qr4 {α:Type} {lt:α→α→Bool} {S:α→Prop} (has:∀ a b,S a→S b→lt a b=true→lt b a=false) (hn:∀ a b c,S a→S b→S c→lt a b=false→lt b c=false→lt a c=false) {x:α} (hx:S x):∀ l:List α,(∀ a∈l,S a)→l.Pairwise (fun a b=>lt b a=false)→(insL lt x l).Pairwise (fun a b=>lt b a=false)
  | [],_,_=>List.pairwise_singleton _ _
  | y :: ys, hS, hp => by
    obtain ⟨h1,h2⟩:=List.pairwise_cons.1 hp
    have hy:=hS y (List.mem_cons_self ..)
    rw [insL]
    cases hl:lt x y with
    | true =>
      refine List.pairwise_cons.2 ⟨fun b hb=>?_,hp⟩
      have hyx:=has x y hx hy hl
      rcases List.mem_cons.1 hb with rfl | hb
      · exact hyx
      · exact hn b y x (hS b (List.mem_cons_of_mem _ hb)) hy hx (h1 b hb) hyx
    | false =>
      refine List.pairwise_cons.2 ⟨fun b hb=>?_,qr4 has hn hx ys (fun a ha=>hS a (List.mem_cons_of_mem _ ha)) h2⟩
      rcases List.mem_cons.1 ((qr2 lt x ys).mem_iff.1 hb) with rfl | hb
      · exact hl
      · exact h1 b hb
theorem qr5 {α:Type} {lt:α→α→Bool} {S:α→Prop} (has:∀ a b,S a→S b→lt a b=true→lt b a=false) (hn:∀ a b c,S a→S b→S c→lt a b=false→lt b c=false→lt a c=false):∀ l:List α,(∀ a∈l,S a)→(qr0 lt l).Pairwise (fun a b=>lt b a=false)
  | [],_=>.nil
  | x :: xs, hS => by
    rw [qr0]
    exact qr4 has hn (hS x (List.mem_cons_self ..)) _ (fun a ha=>hS a (List.mem_cons_of_mem _ ((qr3 lt xs).mem_iff.1 ha))) (qr5 has hn xs fun a ha=>hS a (List.mem_cons_of_mem _ ha))
theorem qr7 {η:Emb}:∀ (τ:Row) (x:den τ),qck τ=true→VRs η (split τ x) (qhm τ x)
  | .nil,_,_=>VRs.nil
  | .int k r,x,hp=>VRs.cons (.int _ _) (qr7 r x.2 hp)
  | .bool r,x,hp=>VRs.cons (.bool _) (qr7 r x.2 hp)
  | .sl e r,_,hp=>by cases hp
theorem qr8:∀ (τ:Row) (x:den τ),qck τ=true→∀ v∈qhm τ x,v.oneCell'=true
  | .nil,_,_,v,hv=>by simp [qhm] at hv
  | .int k r, x, hp, v, hv => by
    rw [qhm] at hv
    rcases List.mem_cons.1 hv with rfl | hv
    · rfl
    · exact qr8 r x.2 hp v hv
  | .bool r, x, hp, v, hv => by
    rw [qhm] at hv
    rcases List.mem_cons.1 hv with rfl | hv
    · rfl
    · exact qr8 r x.2 hp v hv
  | .sl e r,_,hp,_,_=>by cases hp
theorem qr9 {η:Emb} {τ:Row} (hp:qck τ=true):∀ xs:List (den τ),VRs η (flat τ xs) (qhn τ xs)
  | []=>VRs.nil
  | x :: xs=>by rw [flat,qhn];exact (qr7 τ x hp).append (qr9 hp xs)
theorem qra {η:Emb} {τ:Row} (hp:qck τ=true) (xs:List (den τ)) (j:Nat) (c:LV) (hc:(flat τ xs)[j]?=some c) (v:Value) (hv:VR η c v):(qhn τ xs)[j]?=some v:=by
  have hl:=(qr9 (η:=η) hp xs).1
  have hj:j<(qhn τ xs).length:=by rw [← hl];exact (List.getElem?_eq_some_iff.1 hc).1
  obtain ⟨u,hu⟩:∃ u,(qhn τ xs)[j]?=some u:=⟨_,List.getElem?_eq_getElem hj⟩
  have h2:=(qr9 (η:=η) hp xs).2 j c u hc hu
  obtain ⟨x,hx⟩:=q7s τ xs (List.mem_of_getElem? hc)
  have:u=v:=by
    have hp2:∀ (σ:Row) (y:den σ),qck σ=true→∀ d∈split σ y,(∃ k n,d=.int k n) ∨ ∃ b,d=.bool b:=by
      intro σ
      induction σ with
      | nil=>intro y _ d hd;simp [split] at hd
      | int k r ih =>
        intro y hpp d hd
        rw [split] at hd
        rcases List.mem_cons.1 hd with rfl | hd
        · exact .inl ⟨_,_,rfl⟩
        · exact ih y.2 hpp d hd
      | bool r ih =>
        intro y hpp d hd
        rw [split] at hd
        rcases List.mem_cons.1 hd with rfl | hd
        · exact .inr ⟨_,rfl⟩
        · exact ih y.2 hpp d hd
      | sl e r _ _=>intro y hpp;cases hpp
    rcases hp2 τ x hp c hx with ⟨k,n,rfl⟩ | ⟨b,rfl⟩
    · cases h2;cases hv;rfl
    · cases h2;cases hv;rfl
  rw [hu,this]
theorem qrb {τ:Row}:∀ xs:List (den τ),qhn τ xs=xs.flatMap (qhm τ)
  | []=>rfl
  | x :: xs=>by rw [qhn,List.flatMap_cons,qrb xs]
theorem qrc {M:Nat} {H:LH} {η:Emb} {w w':World} (h:HR M η H w) {b:Nat} {τ:Row} {xs ys:List (den τ)} (hg:H.get b=some (.rows τ xs)) (hlv:Lv η w' b (.rows τ ys)) (hs:w.heap.size≤w'.heap.size)
    (hother:∀ k,k<w.heap.size→(∀ L,η.loc b=some L→k≠L.block)→w'.heap[k]?=w.heap[k]?) (e1:w'.os=w.os) (e2:w'.tape=w.tape) (e3:w'.output=w.output) (e4:w.drawn≤w'.drawn) :
    Adv M H η w (H.put b (some (.rows τ ys))) η w':=by
  have hget:∀ x ob2,(H.put b (some (.rows τ ys))).get x=some ob2→(x=b∧ob2=.rows τ ys)∨(x≠b∧H.get x=some ob2):=fun x ob2 hx=>by
    rw [LH.get_put] at hx
    split at hx
    · rename_i he;injection hx with hx;exact .inl ⟨he,hx.symm⟩
    · rename_i he;exact .inr ⟨he,hx⟩
  have hg0:∀ x ob2,(H.put b (some (.rows τ ys))).get x=some ob2→∃ ob0,H.get x=some ob0:=fun x ob2 hx=>by
    rcases hget x ob2 hx with ⟨rfl,_⟩ | ⟨_,hg'⟩
    · exact ⟨_,hg⟩
    · exact ⟨_,hg'⟩
  have hlb:∀ k,LB (H.put b (some (.rows τ ys))) η k→LB H η k:=fun k ⟨x,ob2,L',hx,hL',hk⟩=>let ⟨ob0,hg'⟩:=hg0 _ _ hx;⟨x,ob0,L',hg',hL',hk⟩
  refine ⟨Emb.le_refl _,fun _ _=>⟨rfl,rfl⟩,Nat.le_refl _,⟨h.dom,fun x ob2 hx=>let ⟨_,hg'⟩:=hg0 x ob2 hx;h.lt x _ hg',fun x ob2 hx=>?_,fun b1 b2 c1 c2 L1 L2 h1 h2 f1 f2 he=>?_,fun k o2 hk=>?_,fun k hk=>h.sep k (hlb k hk),h.ok⟩,hs,fun k hk hn=>hother k hk fun L hL he=>hn ⟨b,_,L,hg,hL,he.symm⟩,
    fun k hk=>.inl (hlb k hk),fun _ _ hk=>.inl hk,e1,e2,e3,e4⟩
  · rcases hget x ob2 hx with ⟨rfl, rfl⟩ | ⟨hne, hg'⟩
    · exact hlv
    · have hl := h.live x ob2 hg'
      exact hl.move (Emb.le_refl _) rfl hs fun L' hL'=>hother _ (hl.lt hL') fun L hL he=>hne (h.inj _ _ _ _ _ _ hg' hg hL' hL he)
  · obtain ⟨d1, g1⟩ := hg0 _ _ h1
    obtain ⟨d2,g2⟩:=hg0 _ _ h2
    exact h.inj _ _ _ _ _ _ g1 g2 f1 f2 he
  · have hk0 := h.fz k o2 hk
    rw [hother k (Array.getElem?_eq_some_iff.1 hk0).1 fun L hL he=>by
      have:=h.sep L.block ⟨b,_,L,hg,hL,rfl⟩
      rw [← he,hk] at this;cases this]
    exact hk0
section
variable {P:Program} {ρ:Ren}
theorem qrd {τ:Row} {F:den τ×den τ×Unit→Option Int} {xs:List (den τ)} (h:qqz F xs=true) :
    (∀ x∈xs,∀ y∈xs,F (x,y,())=some (cmpV F x y))∧SWO (ltOf fun (x y:{x:den τ // x∈xs})=>cmpV F x.1 y.1)∧∀ x y:{x:den τ // x∈xs},(ltOf fun (x y:{x:den τ // x∈xs})=>cmpV F x.1 y.1) x y=false→(ltOf fun (x y:{x:den τ // x∈xs})=>cmpV F x.1 y.1) y x=false→x=y:=by
  unfold qqz at h
  simp only [Bool.and_eq_true,List.all_eq_true] at h
  obtain ⟨⟨⟨⟨h1,h2⟩,h3⟩,h4⟩,h5⟩:=h
  have e:∀ x y:{x:den τ // x∈xs},(ltOf fun (x y:{x:den τ // x∈xs})=>cmpV F x.1 y.1) x y=ltV F x.1 y.1:=fun _ _=>rfl
  refine ⟨fun x hx y hy=>?_,⟨fun x=>?_,fun x y z a b=>?_,fun x y z a b=>?_⟩,fun x y a b=>?_⟩
  · have := h1 x hx y hy
    unfold cmpV
    cases hF:F (x,y,()) with
    | none=>rw [hF] at this;cases this
    | some n=>rfl
  · have := h2 x.1 x.2
    rw [e];simpa using this
  · rw [e] at a b ⊢
    have:=h3 x.1 x.2 y.1 y.2
    rw [a] at this
    simp only [Bool.not_true,Bool.false_or,List.all_eq_true] at this
    have:=this z.1 z.2
    rw [b] at this
    simpa using this
  · rw [e] at a b ⊢
    have:=h4 x.1 x.2 y.1 y.2
    rw [a] at this
    simp only [Bool.false_or,List.all_eq_true] at this
    have:=this z.1 z.2
    rw [b] at this
    simpa using this
  · rw [e] at a b
    have:=h5 x.1 x.2 y.1 y.2
    rw [a,b] at this
    simp only [Bool.false_or] at this
    exact Subtype.ext (qqy τ _ _ this)
theorem qre {τ:Row} {F:den τ×den τ×Unit→Option Int} {xs:List (den τ)} (h:qqz F xs=true):(xs.attach.mergeSort fun x y=>!(ltOf fun (x y:{x:den τ // x∈xs})=>cmpV F x.1 y.1) y x).map Subtype.val=qr0 (ltV F) xs:=by
  obtain ⟨_,hO,hT⟩:=qrd h
  have e:∀ x y:{x:den τ // x∈xs},(ltOf fun (x y:{x:den τ // x∈xs})=>cmpV F x.1 y.1) x y=ltV F x.1 y.1:=fun _ _=>rfl
  have has:∀ a b,a∈xs→b∈xs→ltV F a b=true→ltV F b a=false:=fun a b ha hb h1=>by
    cases h2:ltV F b a with
    | false=>rfl
    | true =>
      have h3:=hO.trans ⟨a,ha⟩ ⟨b,hb⟩ ⟨a,ha⟩ h1 h2
      rw [hO.irrefl] at h3;cases h3
  have hn:∀ a b c,a∈xs→b∈xs→c∈xs→ltV F a b=false→ltV F b c=false→ltV F a c=false:=fun a b c ha hb hc h1 h2=>hO.ntrans ⟨a,ha⟩ ⟨b,hb⟩ ⟨c,hc⟩ h1 h2
  refine List.Perm.eq_of_pairwise (le:=fun a b=>ltV F b a=false) ?_ ?_ (qr5 (S:=fun a=>a∈xs) has hn xs fun _ h=>h) ?_
  · intro a b ha hb h1 h2
    have ha':a∈xs:=by
      obtain ⟨c,_,rfl⟩:=List.mem_map.1 ha
      exact c.2
    have hb':b∈xs:=(qr3 (ltV F) xs).mem_iff.1 hb
    exact congrArg Subtype.val (hT ⟨a,ha'⟩ ⟨b,hb'⟩ h2 h1)
  · have hp:=List.pairwise_mergeSort (le:=fun x y=>!(ltOf fun (x y:{x:den τ // x∈xs})=>cmpV F x.1 y.1) y x) (fun x y z h1 h2=>by
      simp only [Bool.not_eq_true'] at h1 h2 ⊢
      exact hO.ntrans z y x h2 h1) (fun x y=>by
      simp only [Bool.or_eq_true,Bool.not_eq_true']
      cases h1:(ltOf fun (x y:{x:den τ // x∈xs})=>cmpV F x.1 y.1) y x with
      | false=>exact .inl rfl
      | true=>exact .inr (has _ _ y.2 x.2 h1)) xs.attach
    rw [List.pairwise_map]
    exact hp.imp fun h=>by simpa [e] using h
  · have h1 := ((List.mergeSort_perm xs.attach fun x y => !(ltOf fun (x y : {x : den τ // x ∈ xs}) => cmpV F x.1 y.1) y x).map Subtype.val)
    rw [List.attach_map_subtype_val] at h1
    exact h1.trans (qr3 (ltV F) xs).symm
theorem qrf {w w':World} (h:Bel w w'):∃ q os',w'=grow (w.drewN q) os':=by
  obtain ⟨x,rfl⟩:=ext_of h
  exact ⟨x.drawn,x.objs,by unfold ext grow World.drewN;rfl⟩
theorem qrg (w:World) (m blk off:Nat) (Fv:Array Value) (os:Array Obj):w.heap.size≤(grow (putRow id (Sort.ahead w m) blk off Fv) os).heap.size:=by
  simp [grow,putRow,mapBlock,Sort.ahead]
theorem qrh (w:World) (m blk off:Nat) (Fv:Array Value) (os:Array Obj) (k:Nat) (hk:k<w.heap.size) (hne:k≠blk):(grow (putRow id (Sort.ahead w m) blk off Fv) os).heap[k]?=w.heap[k]?:=by
  simp only [grow]
  rw [Array.getElem?_append_left (by simpa [putRow,mapBlock,Sort.ahead] using hk)]
  simp [putRow,mapBlock,Sort.ahead,Array.getElem?_modify,Ne.symm hne]
theorem qri (L:SlLaysF0.n6 P ρ) {τ:Row} (hp:qck τ=true) (aE:∀ w,(isAgg (ρ.t 24)).run P w=.ok true w) (zE:∀ w,(Go.sizeOf (ρ.t 24)).run P w=.ok τ.size w) {g:FuncId} {F:den τ×den τ×Unit→Option Int}
    (hS:COK P ⟨g,[.row τ true,.row τ true],Int,F,fun r=>(.int .i64 r,[])⟩) {H:LH} {n:Nat} {xs ys:List (den τ)} (hg:H.get n=some (.rows τ xs)) (hy:qr1 F xs=some ys) :
    q55 P (ρ.f 6) [.rs n,.fn g []] H (.tup [],H.put n (some (.rows τ ys))):=by
  unfold qr1 at hy
  obtain ⟨hb,rfl⟩:=qqq (A:=some (qr0 (ltV F) xs)) hy |>.imp id fun h=>Option.some.inj h
  rw [Bool.and_eq_true] at hb
  have hsz:=Nat.le_of_ble_eq_true hb.1
  obtain ⟨hc,hO,hT⟩:=qrd hb.2
  refine ⟨Logged.put _ hg _,fun M η w vs h hM hv=>?_⟩
  obtain ⟨v1,vs,rfl,q1,hv⟩:=hv.uncons
  obtain ⟨v2,vs,rfl,q2,hv⟩:=hv.uncons
  obtain rfl:vs=[]:=by have:=hv.1;simpa using this.symm
  cases q1 with
  | rs hh1 =>
  have hv2:v2=.func (.func g) #[] #[]:=by
    cases q2 with
    | fn hl _=>rw [List.eq_nil_of_length_eq_zero hl.symm]
  subst hv2
  have hlen:∀ l:List (den τ),(qr0 (ltV F) l).length=l.length:=fun l=>(qr3 (ltV F) l).length_eq
  cases h.live _ _ hg with
  | none hL hh =>
    rename_i A
    rw [hh1] at hh;injection hh with hh;subst hh
    refine Calls.mono (AnyF.slices_SortFunc_none L A 0 (.func (.func g) #[] #[]) w) ?_
    rintro e w' ⟨rfl,rfl⟩
    refine ⟨_,η,rfl,q5n,qrc h hg ?_ (Nat.le_refl _) (fun _ _ _=>rfl) rfl rfl rfl (Nat.le_refl _)⟩
    have e0:qr0 (ltV F) ([]:List (den τ))=[]:=rfl
    rw [e0]
    exact .none hL hh1
  | rows hL ha hh hcap hr =>
    rename_i L0 c
    rw [hh1] at hh;injection hh with hh;subst hh
    by_cases h0:xs=[]
    · subst h0
      refine Calls.mono (AnyF.slices_SortFunc_none L (some ⟨L0.block,L0.base,none⟩) c (.func (.func g) #[] #[]) w) ?_
      rintro e w' ⟨rfl,rfl⟩
      refine ⟨_,η,rfl,q5n,qrc h hg ?_ (Nat.le_refl _) (fun _ _ _=>rfl) rfl rfl rfl (Nat.le_refl _)⟩
      have e0:qr0 (ltV F) ([]:List (den τ))=[]:=rfl
      rw [e0]
      exact .rows hL ha hh1 hcap hr
    · haveI : Inhabited {x : den τ // x ∈ xs} := ⟨⟨xs.head h0, List.head_mem h0⟩⟩
      have eg:∀ args w,(callFunc g args).run P w=.ok (.enter g args) w:=by
        obtain ⟨fn,bd,b1,b2,b3⟩:=hS.body
        intro args w
        have b4:¬ fn.body=none:=by rw [b2];simp
        have b1':P.funcs[g]?=some fn:=b1
        simp [callFunc,b1',b3,b4]
      have hk:∀ x:{x:den τ // x∈xs},(qhm τ x.1).length=τ.size:=fun x=>qhq τ hp x.1
      have hflat:∀ m:List {x:den τ // x∈xs},(flatK (fun x:{x:den τ // x∈xs}=>qhm τ x.1) τ.size m.toArray).toList=qhn τ (m.map Subtype.val):=fun m=>by
        rw [qqx _ _ hk,qrb,List.flatMap_map]
      have hcmp:CmpLays P g #[] (fun x:{x:den τ // x∈xs}=>qhm τ x.1) τ.size (fun x y=>cmpV F x.1 y.1) L0.block L0.base xs.attach.toArray.size w:=by
        intro m os dk _ x y
        have hF:=hc x.1 x.2 y.1 y.2
        have h2:=hS.ok (x.1,y.1,()) (cmpV F x.1 y.1) hF (sortWorldK (fun x:{x:den τ // x∈xs}=>qhm τ x.1) τ.size w L0.block L0.base m dk os) (fun _=>none) [.agg (qhm τ x.1).toArray,.agg (qhm τ y.1).toArray] (fun k ob hk=>by cases hk)
          (VRs.cons (VR.aggL (qr7 τ x.1 hp)) (VRs.cons (VR.aggL (qr7 τ y.1 hp)) VRs.nil))
        refine Calls.mono h2 ?_
        rintro e w' ⟨v',η',rfl,hvr,_,hfr⟩
        have hv':v'=.int .i64 (cmpV F x.1 y.1):=by
          have hvr:VR η' (.int .i64 (cmpV F x.1 y.1)) v':=hvr
          cases hvr;rfl
        rw [hv']
        exact ⟨rfl,qrf ⟨⟨hfr.os,hfr.tape,hfr.output,hfr.size,fun k hk=>hfr.same k hk⟩,hfr.drawn⟩⟩
      have hfl:flatK (fun x:{x:den τ // x∈xs}=>qhm τ x.1) τ.size xs.attach.toArray=(qhn τ xs).toArray:=by
        apply Array.toList_inj.1
        rw [hflat,List.attach_map_subtype_val]
      have hfl2:∀ l:List (den τ),(flat τ l).length=(qhn τ l).length:=fun l=>(qr9 (η:=η) hp l).1
      have hH:HoldsK (fun x:{x:den τ // x∈xs}=>qhm τ x.1) τ.size w L0.block L0.base xs.attach.toArray:=by
        unfold HoldsK
        rw [hfl]
        intro j hj
        have hj':j<(qhn τ xs).length:=by simpa using hj
        obtain ⟨cl,hcl⟩:∃ cl,(flat τ xs)[j]?=some cl:=⟨_,List.getElem?_eq_getElem (by rw [hfl2];exact hj')⟩
        obtain ⟨v,g1,g2⟩:=ha.cell j cl hcl
        have g3:=qra hp xs j cl hcl v g2
        have hf:=ha.fits
        refine ⟨?_,(ha.there (L0.base+j) (by omega) (by have:=hfl2 xs;omega)).2⟩
        rw [g1]
        congr 1
        rw [getElem!_pos _ _ (by simpa using hj')]
        have:=(List.getElem?_eq_some_iff.1 g3).2
        simp [this]
      have hcon:=AnyQ.slices_SortFunc_total L τ.size aE zE (fun x:{x:den τ // x∈xs}=>qhm τ x.1) hk (fun x v hv=>qr8 τ x.1 hp v hv) (fun x y=>cmpV F x.1 y.1) hO g #[] L0.block L0.base c xs.attach.toArray w eg hcmp hH ha.lt (by simp;omega) hT
      have hats:xs.attach.toArray.size=xs.length:=by simp
      rw [hats] at hcon
      refine Calls.mono hcon ?_
      rintro e w' ⟨rfl,m,os,rfl⟩
      have hF:flatK (fun x:{x:den τ // x∈xs}=>qhm τ x.1) τ.size (xs.attach.toArray.toList.mergeSort fun x y=>!(ltOf fun (x y:{x:den τ // x∈xs})=>cmpV F x.1 y.1) y x).toArray=(qhn τ (qr0 (ltV F) xs)).toArray:=by
        apply Array.toList_inj.1
        rw [hflat]
        congr 1
        have:=qre hb.2
        simpa using this
      unfold sortWorldK putRowK
      rw [hF]
      have hvl:(qhn τ (qr0 (ltV F) xs)).length=(qhn τ xs).length:=by rw [qhr hp,qhr hp,hlen]
      have hyl:=hlen xs
      unfold HoldsK at hH
      rw [hfl] at hH
      generalize qr0 (ltV F) xs=ys at hvl hyl ⊢
      have hfit:=ha.fits
      have hfx:=hfl2 xs
      have hfy:=hfl2 ys
      obtain ⟨W1,hW1⟩:∃ W1,putRow id (Sort.ahead w m) L0.block L0.base (qhn τ ys).toArray=W1:=⟨_,rfl⟩
      have hsz1:W1.heap.size=w.heap.size:=by rw [← hW1];simp [putRow,mapBlock,Sort.ahead]
      have hblk:(grow W1 os).heap[L0.block]?=W1.heap[L0.block]?:=by
        simp only [grow]
        rw [Array.getElem?_append_left (by rw [hsz1];exact ha.lt)]
      have hfr:∀ j,W1.frozen? ⟨L0.block,j,none⟩=w.frozen? ⟨L0.block,j,none⟩:=fun j=>by rw [← hW1,frozen?_putRow];rfl
      have hin:∀ j,j<(qhn τ ys).length→W1.cell? ⟨L0.block,L0.base+j,none⟩=some ((qhn τ ys).toArray[j]!):=fun j hj=>by
        rw [← hW1]
        exact cell?_putRow id (Sort.ahead w m) L0.block L0.base (qhn τ xs).toArray (qhn τ ys).toArray hH (by simp [hvl]) j (by simpa using hj)
      have hout:∀ j,L0.base+(qhn τ ys).length≤j→W1.cell? ⟨L0.block,j,none⟩=w.cell? ⟨L0.block,j,none⟩:=fun j hj=>by
        rw [← hW1,cell?_putRow_other id (Sort.ahead w m) L0.block L0.base (qhn τ ys).toArray ⟨L0.block,j,none⟩ (.inr (.inr (by simpa using hj)))];rfl
      have hat2:At η (grow W1 os) (flat τ ys) L0:=by
        refine ⟨?_,by omega,fun j h1 h2=>⟨?_,?_⟩,fun j c hcj=>?_⟩
        · have := ha.lt
          simp only [grow,Array.size_append];omega
        · rw [qv hblk]
          by_cases hj:j<L0.base+(qhn τ ys).length
          · have := hin (j - L0.base) (by omega)
            rw [show L0.base+(j - L0.base)=j by omega] at this
            rw [this];rfl
          · rw [hout j (by omega)];exact (ha.there j h1 h2).1
        · rw [qw hblk,hfr];exact (ha.there j h1 h2).2
        · have hj : j < (qhn τ ys).length := by rw [← hfy]; exact (List.getElem?_eq_some_iff.1 hcj).1
          refine ⟨(qhn τ ys)[j],?_,(qr9 hp ys).2 j c _ hcj (List.getElem?_eq_getElem hj)⟩
          rw [qv hblk,hin j hj]
          congr 1
          rw [getElem!_pos _ _ (by simpa using hj)]
          simp
      subst hW1
      refine ⟨_,η,rfl,q5n,qrc h hg (.rows hL hat2 (by rw [hyl];exact hh1) (by rw [hyl];exact hcap) hr) ?_ (fun k hk hne=>?_) ?_ ?_ ?_ ?_⟩
      · exact qrg ..
      · exact qrh _ _ _ _ _ _ k hk (hne L0 hL)
      · rfl
      · rfl
      · rfl
      · simp [grow,putRow,mapBlock,Sort.ahead]
def orcS (f g:FuncId) (τ:Row) (F:den τ×den τ×Unit→Option Int) (C:Orc):Orc:=fun h args H =>
  bif Nat.beq h f then (match args with
    | [.rs n, .fn g' []] => bif Nat.beq g' g then (match H.get n with
      | some (.rows σ xs)=>if e:σ=τ then some ⟨List (den τ),qr1 F (e ▸ xs),fun r=>(.tup [],H.put n (some (.rows τ r)))⟩ else none
      | _=>none) else none
    | _=>none) else C h args H
theorem qrj (L:SlLaysF0.n6 P ρ) {τ:Row} (hp:qck τ=true) (aE:∀ w,(isAgg (ρ.t 24)).run P w=.ok true w) (zE:∀ w,(Go.sizeOf (ρ.t 24)).run P w=.ok τ.size w) {g:FuncId} {F:den τ×den τ×Unit→Option Int}
    (hS : COK P ⟨g, [.row τ true, .row τ true], Int, F, fun r => (.int .i64 r, [])⟩) (hbody : ∃ fn c, P.funcs[ρ.f 6]? = some fn ∧ fn.body = some c ∧ ¬ fn.name = "runtime.NumGoroutine") {C : Orc} (hC : OrcOK P C) : OrcOK P (orcS (ρ.f 6) g τ F C) := by
  have key:∀ h args H p,orcS (ρ.f 6) g τ F C h args H=some p→(C h args H=some p)∨(h=ρ.f 6∧∃ n xs,args=[.rs n,.fn g []]∧H.get n=some (.rows τ xs)∧p=⟨List (den τ),qr1 F xs,fun r=>(.tup [],H.put n (some (.rows τ r)))⟩):=by
    intro h args H p hp
    unfold orcS at hp
    rw [Bool.cond_eq_ite] at hp
    split at hp
    · rename_i he
      have he:=Nat.eq_of_beq_eq_true he
      split at hp
      · rename_i n g'
        rw [Bool.cond_eq_ite] at hp
        split at hp
        · rename_i hg
          have hg:=Nat.eq_of_beq_eq_true hg
          subst hg
          split at hp
          · rename_i σ xs hn
            split at hp
            · rename_i e
              subst e
              injection hp with hp
              exact .inr ⟨he,n,xs,rfl,hn,hp.symm⟩
            · cases hp
          · cases hp
        · cases hp
      · cases hp
    · exact .inl hp
  refine ⟨fun h args H p x hp' hx=>?_⟩
  rcases key h args H p hp' with h1 | ⟨rfl,n,xs,rfl,hn,rfl⟩
  · exact hC.call h args H p x h1 hx
  · exact .inl ⟨qri L hp aE zE hS hn hx,hbody⟩
end
end Go.Tx

namespace Go.Proofs.Ytbjpmdhdoggobaa
open Go Go.Tx Go.RowKit Go.Pel
theorem qrk {η:Emb} {a b c d:Int} {v:Value} (hv:VR η (.agg [.int .i64 a,.int .i64 b,.int .i64 c,.int .i64 d]) v):v=.agg #[.int .i64 a,.int .i64 b,.int .i64 c,.int .i64 d]:=by
  cases hv with
  | agg hl hh =>
    obtain ⟨u1,vs,rfl,h1,h⟩:=VRs.uncons ⟨hl,hh⟩
    obtain ⟨u2,vs,rfl,h2,h⟩:=VRs.uncons h
    obtain ⟨u3,u4,rfl,h3,h4⟩:=vrs2 h
    cases h1;cases h2;cases h3;cases h4;rfl
def sumB (a b c d:Int):Bool:=decide ((-9223372036854775808≤a∧a<9223372036854775808)∧(-9223372036854775808≤b∧b<9223372036854775808)∧(-9223372036854775808≤c∧c<9223372036854775808)∧(-9223372036854775808≤d∧d<9223372036854775808)∧(-38685626227668133590597632≤a*b∧a*b≤38685626227668133590597632)∧(-38685626227668133590597632≤c*d∧c*d≤38685626227668133590597632))
theorem qrl {a b c d:Int} (h:sumB a b c d=true) (w:World):Calls Try.prog 41 #[.agg #[.int .i64 a,.int .i64 b,.int .i64 c,.int .i64 d]] w fun e w'=>e=.returned (.agg #[.int .i64 ((a*b+c*d) / 18446744073709551616),.int .u64 ((a*b+c*d) % 18446744073709551616)])∧∃ x,w'=ext w x:=by
  obtain ⟨h1,h2,h3,h4,h5,h6⟩:=of_decide_eq_true h
  exact qlc a b c d w h1 h2 h3 h4 h5 h6
end Go.Proofs.Ytbjpmdhdoggobaa

namespace Go.Pel
open Go Go.Tx
theorem qrm {l:List Pt} (h:incB l=true):(l.map Pt.id).Nodup:=by
  unfold List.Nodup
  rw [List.pairwise_iff_getElem]
  intro i j hi hj hij
  simp only [List.length_map] at hi hj
  have:=qgp h hij (List.getElem?_eq_getElem hi) (List.getElem?_eq_getElem hj)
  simp;omega
theorem qrn (p q:Pt) (n d:Int):leads p q n d=true↔(q.a*d+q.b*n<p.a*d+p.b*n)∨(q.a*d+q.b*n=p.a*d+p.b*n∧(q.b<p.b∨(q.b=p.b∧p.id<q.id))):=by
  have e:farD p q n d=(p.a*d+p.b*n) - (q.a*d+q.b*n):=by unfold farD;rw [Int.sub_mul,Int.sub_mul];omega
  unfold leads
  rw [e]
  generalize p.a*d+p.b*n=P
  generalize q.a*d+q.b*n=Q
  repeat' split
  all_goals simp only [decide_eq_true_eq]
  all_goals omega
def ordI (n d:Int) (l:List Pt):List Pt:=qr0 (fun p q=>leads p q n d) l
def qro (l:List Pt) (n d:Int):List Int×Int:=if qgq l≠0 then ([],qgq l) else if qdm n d≠0 then ([],qdm n d) else ((ordI n d l).map Pt.id,0)
theorem qrp (n d:Int) (l:List Pt):(ordI n d l).Perm l:=qr3 _ l
theorem qrq {p q:Pt} {n d:Int} (h:leads p q n d=false):¬ ((q.a*d+q.b*n<p.a*d+p.b*n)∨(q.a*d+q.b*n=p.a*d+p.b*n∧(q.b<p.b∨(q.b=p.b∧p.id<q.id)))):=by
  intro k;rw [(qrn p q n d).2 k] at h;cases h
theorem qrr (n d:Int) (l:List Pt):(ordI n d l).Pairwise fun p q=>leads q p n d=false:=by
  refine qr5 (S:=fun _=>True) (fun a b _ _ h=>?_) (fun a b c _ _ _ h1 h2=>?_) l (fun _ _=>trivial)
  · rw [qrn] at h
    rw [← Bool.not_eq_true,qrn];omega
  · have h1 := qrq h1
    have h2:=qrq h2
    rw [← Bool.not_eq_true,qrn];omega
theorem qrs {n d:Int} {l:List Pt} (hinc:incB l=true) (hd:1≤d):qoc n d l=ordI n d l:=by
  refine List.Perm.eq_of_pairwise (le:=fun p q=>leads q p n d=false) ?_ ((qof (qop hinc) (qrm hinc)).imp fun {a b} h=>?_) (qrr n d l) ((qod n d l).trans (qrp n d l).symm)
  · intro a b _ _ h k
    have h1:=qrq h
    have h2:=qrq k
    have e1:a.b=b.b:=by omega
    have e2:a.id=b.id:=by omega
    have e3:a.a*d+a.b*n=b.a*d+b.b*n:=by omega
    rw [e1] at e3
    have e4:a.a*d=b.a*d:=by omega
    have e5:=Int.eq_of_mul_eq_mul_right (by omega) e4
    obtain ⟨x,y,z⟩:=a
    obtain ⟨x',y',z'⟩:=b
    simp only at e1 e2 e5
    subst e1 e2 e5
    rfl
  · rw [qrn] at h
    rw [← Bool.not_eq_true,qrn];omega
theorem qrt (l:List Pt) (n d:Int):qos l n d=qro l n d:=by
  unfold qos qoo qro
  by_cases h1:qgq l=0
  · simp only [h1, ne_eq, not_true_eq_false, if_false]
    by_cases h2:qdm n d=0
    · simp only [h2, ne_eq, not_true_eq_false, if_false]
      rw [qrs (qgv h1).2.2 (qdt h2).1]
    · simp only [h2,ne_eq,not_false_eq_true,if_true]
  · simp only [h1,ne_eq,not_false_eq_true,if_true]
end Go.Pel
