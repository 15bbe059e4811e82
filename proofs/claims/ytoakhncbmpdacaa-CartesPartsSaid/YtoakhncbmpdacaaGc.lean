/- Walks of courses and of the sorts; the order as plain mathematics. -/
import Derived.ArgAppend
import Derived.Laws.AppendOwnNone
import Derived.Deep.AppendLies
import Derived.Lib.Hide
import Derived.Laws.CopyRow
import Derived.Lib.SliceRun
import Derived.Lib.AppendZerosOnto
import Derived.Lib.AppendZeros
import Derived.Lib.Overlaps
import Derived.Deep.DeepAppendRoom
import Derived.Deep.RegionHeld3
import Derived.Deep.RegionLaw
import Derived.Deep.MidRow
import Derived.Deep.DeepCutAuto
import Derived.Deep.LoopGhost
import Derived.Laws.MakeOwn
import Derived.Test.YtoakhncbmpdacaaProg
import Derived.ChangeKeysEq
import Derived.Test.YtoakhncbmpdacaaRows
import Derived.IntWalk
import Derived.Shelf.Bits.Mul64
import Derived.Shelf.Spec.BitsCarry
import Derived.Outline
import Derived.Test.YtoakhncbmpdacaaGb
set_option linter.unusedSimpArgs false
set_option linter.unusedVariables false
namespace Go
open RowKit
def Sl (w:World) (size:Nat) (A:Option Addr) (n c:Nat) (xs:List Value):Prop :=
  n≤c∧xs.length=n*size∧(0<n→∃ b o,A=some ⟨b,o,none⟩∧b<w.heap.size∧∀ j u,xs[j]?=some u→w.cell? ⟨b,o+j,none⟩=some u)
def Own (w:World) (base:Nat) (e:TypeId) (size:Nat) (A:Option Addr) (n c:Nat) (xs:List Value):Prop:=w.ownsRow base e size (.slice A n c) n xs
structure SlT (P:Program) (t e:TypeId) (z:Value) (size bytes:Nat):Prop where
  und:P.underlying t=some (.slice e)
  info:(P.info? e).map (fun i=>(i.zero,i.size,i.bytes))=some (some z,size,bytes)
  zs:z.cells.size=size
  pos:0<size
  small:bytes≤1024

section
variable {w:World} {size n c:Nat} {A:Option Addr} {xs:List Value}
theorem Sl.len (h:Sl w size A n c xs):xs.length=n*size:=h.2.1
theorem Sl.cap (h:Sl w size A n c xs):n≤c:=h.1
theorem Sl.ext (h:Sl w size A n c xs) (x:Beyond):Sl (ext w x) size A n c xs :=
  ⟨h.1,h.2.1,fun hn=>by
    obtain ⟨b,o,rfl,hb,hc⟩:=h.2.2 hn
    exact ⟨b,o,rfl,by rw [q9u];omega,fun j u hu=>by rw [qcs w x b _ hb];exact hc j u hu⟩⟩
theorem Sl.bel {w':World} (h:Sl w size A n c xs) (hb:Bel w w'):Sl w' size A n c xs:=by
  obtain ⟨x,rfl⟩:=ext_of hb;exact h.ext x
theorem Sl.nil_ (w:World) (size c:Nat) (A:Option Addr):Sl w size A 0 c []:=⟨Nat.zero_le _,by simp,fun h=>absurd h (by omega)⟩
theorem Sl.take (h:Sl w size A n c xs) {k:Nat} (hk:k≤n):Sl w size A k c (xs.take (k*size)) :=
  ⟨Nat.le_trans hk h.1,by rw [List.length_take,h.2.1];exact Nat.min_eq_left (Nat.mul_le_mul_right _ hk),fun hn=>by
    obtain ⟨b,o,rfl,hb,hc⟩:=h.2.2 (by omega)
    refine ⟨b,o,rfl,hb,fun j u hu=>hc j u ?_⟩
    rw [List.getElem?_take] at hu
    split at hu
    · exact hu
    · cases hu⟩
theorem Sl.cell {b o:Nat} (h:Sl w size (some ⟨b,o,none⟩) n c xs) {j:Nat} {u:Value} (hu:xs[j]?=some u):w.cell? ⟨b,o+j,none⟩=some u:=by
  have hl:j<xs.length:=(List.getElem?_eq_some_iff.1 hu).1
  have hn:0<n:=Nat.pos_of_ne_zero fun h0=>by rw [h.2.1,h0,Nat.zero_mul] at hl;omega
  obtain ⟨b',o',hA,_,hc⟩:=h.2.2 hn
  injection hA with hA
  injection hA with h1 h2
  subst h1 h2
  exact hc j u hu
theorem Sl.at_ (h:Sl w size A n c xs) (hn:0<n):∃ b o,A=some ⟨b,o,none⟩∧b<w.heap.size:=by
  obtain ⟨b,o,hA,hb,_⟩:=h.2.2 hn;exact ⟨b,o,hA,hb⟩
theorem Own.nil_ (w:World) (base:Nat) (e:TypeId) (size:Nat):Own w base e size none 0 0 []:=World.ownsRow_nil w base e size
theorem Own.len {base:Nat} {e:TypeId} (h:Own w base e size A n c xs):xs.length=n*size:=h.1
theorem Own.cap {base:Nat} {e:TypeId} (h:Own w base e size A n c xs):n≤c:=by
  rcases h.2 with ⟨h1,h2⟩ | ⟨g,cap,cur,hv,_,_,hnc,_⟩
  · omega
  · injection hv with _ _ h3;omega
theorem Own.at_ {base:Nat} {e:TypeId} (h:Own w base e size A n c xs) (hn:0<n):∃ g,A=some ⟨g,0,none⟩∧base≤g∧g<w.heap.size:=by
  rcases h.2 with ⟨h1,h2⟩ | ⟨g,cap,cur,hv,hg,hh,_⟩
  · omega
  · injection hv with h1
    refine ⟨g,h1,hg,Nat.lt_of_not_le fun hle=>?_⟩
    rw [Array.getElem?_eq_none hle] at hh;cases hh
theorem Own.block {base:Nat} {e:TypeId} (h:Own w base e size A n c xs):(Value.slice A n c).ownBlock=none ∨ ∃ g,(Value.slice A n c).ownBlock=some g∧base≤g∧g<w.heap.size:=by
  cases hA:(Value.slice A n c).ownBlock with
  | none=>exact .inl rfl
  | some g=>exact .inr ⟨g,rfl,World.ownsRow.lt h g hA⟩
theorem Own.sl {base:Nat} {e:TypeId} (h:Own w base e size A n c xs):Sl w size A n c xs :=
  ⟨h.cap,h.len,fun hn=>by
    obtain ⟨g,rfl,_,hlt⟩:=h.at_ hn
    refine ⟨g,0,rfl,hlt,fun j u hu=>?_⟩
    have hj:j<n*size:=by rw [← h.len];exact (List.getElem?_eq_some_iff.1 hu).1
    rw [Nat.zero_add,World.ownsRow.cellAt h j hj,hu]⟩
theorem Own.bel {base:Nat} {e:TypeId} {w':World} (h:Own w base e size A n c xs) (hb:Bel w w'):Own w' base e size A n c xs:=by
  refine World.ownsRow.kept (row:=none) h ⟨hb.os,hb.tape,hb.output,hb.size,fun k hk _=>hb.block k hk⟩ ?_
  rcases h.block with h0 | ⟨g,h0,_⟩
  · exact .inl h0
  · exact .inr (by rw [h0];exact fun e=>by cases e)
theorem Own.ext {base:Nat} {e:TypeId} (h:Own w base e size A n c xs) (x:Beyond):Own (ext w x) base e size A n c xs:=h.bel (q9y w x)
theorem Own.alloc {base:Nat} {e:TypeId} (h:Own w base e size A n c xs) (ob:Obj):Own (w.alloc ob) base e size A n c xs:=h.bel ((Bel.refl w).alloc ob)
end

section
variable {P:Program} {ops:Array Oper} {rest:List Oper} {o:Oper} {a:Act} {Q:Exit→Act→World→Prop}
end
end Go
namespace Go
open RowKit
end Go

namespace Go
open RowKit
section
variable {P:Program}
end
end Go

namespace Go
open RowKit
end Go

namespace Go
end Go

namespace Go
open RowKit
section
variable {P:Program} {ops:Array Oper} {rest:List Oper} {o:Oper} {a:Act} {Q:Exit→Act→World→Prop}
end
end Go

namespace Go
open RowKit
section
variable {P:Program}
end
end Go

namespace Go
open RowKit
section
variable {P:Program} {ops:Array Oper} {rest:List Oper} {o:Oper} {a:Act} {Q:Exit→Act→World→Prop}
end
end Go

namespace Go
end Go

namespace Go
open RowKit
section
variable {P:Program} {ops:Array Oper} {rest:List Oper} {o:Oper} {a:Act} {Q:Exit→Act→World→Prop}
end
end Go

namespace Go
open RowKit
section
variable {P:Program} {ops:Array Oper} {rest:List Oper} {o:Oper} {a:Act} {Q:Exit→Act→World→Prop}
end
end Go

namespace Go
open RowKit
section
variable {α:Type} {cells:α→List Value} {k:Nat}
theorem qh1 (hk:∀ a,(cells a).length=k) {l:List α} {i:Nat} {x:α} (h:l[i]?=some x) (j:Nat) (hj:j<k):(l.flatMap cells)[i*k+j]?=(cells x)[j]?:=by
  induction l generalizing i with
  | nil=>simp at h
  | cons y l ih =>
    rw [List.flatMap_cons]
    cases i with
    | zero =>
      simp only [List.getElem?_cons_zero,Option.some.injEq] at h
      subst h
      rw [Nat.zero_mul,Nat.zero_add,List.getElem?_append_left (by rw [hk];exact hj)]
    | succ i =>
      rw [List.getElem?_append_right (by rw [hk,Nat.add_mul];omega),hk]
      have e:(i+1)*k+j - k=i*k+j:=by rw [Nat.add_mul];omega
      rw [e];exact ih (by simpa using h)
theorem qh6 {w:World} {b o n c i:Nat} {l:List α} {x:α} (hk:∀ a,(cells a).length=k) (h:Sl w k (some ⟨b,o,none⟩) n c (l.flatMap cells)) (hx:l[i]?=some x) {j:Nat} {u:Value} (hj:(cells x)[j]?=some u):w.cell? ⟨b,o+i*k+j,none⟩=some u:=by
  have hjk:j<k:=by rw [← hk x];exact (List.getElem?_eq_some_iff.1 hj).1
  have:=h.cell (j:=i*k+j) (u:=u) (by rw [qh1 hk hx j hjk];exact hj)
  rwa [← Nat.add_assoc] at this
end
end Go
namespace Go
section
variable {α:Type} {cells:α→List Value} {k:Nat}
end
end Go
namespace Go
end Go

namespace Go.Pel
open Go
structure Pt where
  id:Int
  a:Int
  b:Int
  deriving DecidableEq
def Pt.zero:Pt:=⟨0,0,0⟩
def Pt.cells (p:Pt):List Value:=[.int .i64 p.id,.int .i64 p.a,.int .i64 p.b]
def Pt.chk (p:Pt):Int:=qeu p.id p.a p.b
structure Pt.Fits (p:Pt):Prop where
  id:-9223372036854775808≤p.id∧p.id≤9223372036854775807
  a:-9223372036854775808≤p.a∧p.a≤9223372036854775807
  b:-9223372036854775808≤p.b∧p.b≤9223372036854775807
def vp (l:List Pt):List Value:=l.flatMap Pt.cells
theorem qhb (p:Pt):p.cells.length=3:=rfl
theorem qhh {w:World} {b o n c i:Nat} {l:List Pt} {p:Pt} (h:Sl w 3 (some ⟨b,o,none⟩) n c (vp l)) (hx:l[i]?=some p) :
    w.cell? ⟨b,o+i*3,none⟩=some (.int .i64 p.id)∧w.cell? ⟨b,o+i*3+1,none⟩=some (.int .i64 p.a)∧w.cell? ⟨b,o+i*3+2,none⟩=some (.int .i64 p.b) :=
  ⟨qh6 qhb h hx (j:=0) rfl,qh6 qhb h hx (j:=1) rfl,qh6 qhb h hx (j:=2) rfl⟩
def incB:List Pt→Bool
  | []=>true
  | [_]=>true
  | p :: q :: r=>decide (p.id<q.id)&&incB (q :: r)
theorem qhi (l:List Pt):incB l=true ↔ ∀ (i:Nat) (p q:Pt),l[i]?=some p→l[i+1]?=some q→p.id<q.id:=by
  induction l with
  | nil=>simp [incB]
  | cons x l ih =>
    cases l with
    | nil=>simp [incB]
    | cons y r =>
      simp only [incB,Bool.and_eq_true,decide_eq_true_eq,ih]
      constructor
      · rintro ⟨h0, h⟩ i p q hp hq
        cases i with
        | zero=>simp at hp hq;rw [← hp,← hq];exact h0
        | succ i=>exact h i p q (by simpa using hp) (by simpa using hq)
      · intro h
        exact ⟨h 0 x y rfl rfl,fun i p q hp hq=>h (i+1) p q (by simpa using hp) (by simpa using hq)⟩
theorem qhj {l:List Pt} (h:incB l=true) {i j:Nat} (hij:i<j) {p q:Pt} (hp:l[i]?=some p) (hq:l[j]?=some q):p.id<q.id:=by
  induction j generalizing q with
  | zero=>omega
  | succ j ih =>
    rcases Nat.lt_or_ge i j with hlt | hge
    · have hjl : j < l.length := by have := (List.getElem?_eq_some_iff.1 hq).1; omega
      obtain ⟨m,hm⟩:∃ m,l[j]?=some m:=⟨_,List.getElem?_eq_getElem hjl⟩
      have h1:=ih hlt hm
      have h2:=(qhi l).1 h j m q hm hq
      omega
    · obtain rfl : i = j := by omega
      exact (qhi l).1 h i p q hp hq
def qhk (l:List Pt):Int:=if 64<l.length then 4 else if ∀ p∈l,p.chk=0 then (if incB l then 0 else 32) else 8
theorem qhl {l:List Pt} (h:64<l.length):qhk l=4:=if_pos h
theorem qhm {l:List Pt} (h:l.length≤64) {p:Pt} (hp:p∈l) (hc:p.chk≠0):qhk l=8:=by
  unfold qhk;rw [if_neg (by omega),if_neg];intro h';exact hc (h' p hp)
theorem qhn {l:List Pt} (h:l.length≤64) (hc:∀ p∈l,p.chk=0) (hi:incB l=false):qhk l=32:=by
  unfold qhk;rw [if_neg (by omega),if_pos hc,hi];rfl
theorem qho {l:List Pt} (h:l.length≤64) (hc:∀ p∈l,p.chk=0) (hi:incB l=true):qhk l=0:=by
  unfold qhk;rw [if_neg (by omega),if_pos hc,hi];rfl
theorem qhp {l:List Pt} (h:qhk l=0):l.length≤64∧(∀ p∈l,p.chk=0)∧incB l=true:=by
  unfold qhk at h
  split at h
  · omega
  · split at h
    · rename_i h1 h2
      refine ⟨by omega,h2,?_⟩
      split at h
      · assumption
      · omega
    · omega
theorem qhr {p:Pt} (h:p.chk=0):0≤p.id∧p.id≤65535∧-1048576≤p.a∧p.a≤1048576∧-1048576≤p.b∧p.b≤1048576:=qey h
theorem qhs (p:Pt):p.chk=0∨p.chk=8:=qex _ _ _
def lowB (l:List Pt) (id:Int):Nat:=(l.takeWhile fun p=>decide (p.id<id)).length
def hasB (l:List Pt) (id:Int):Bool:=l.any fun p=>decide (p.id=id)
def atI (l:List Pt) (id:Int):Int:=if hasB l id then ((l.takeWhile fun p=>decide (p.id≠id)).length:Int) else -1
theorem qhz {l:List Pt} {id:Int} {k:Nat} {p:Pt} (h1:∀ (i:Nat) (p:Pt),i<k→l[i]?=some p→p.id≠id) (hk:l[k]?=some p) (hp:p.id=id):atI l id=k:=by
  have hb:hasB l id=true:=by
    unfold hasB;rw [List.any_eq_true];exact ⟨p,List.mem_of_getElem? hk,by simpa using hp⟩
  unfold atI;rw [hb,if_pos rfl]
  congr 1
  clear hb
  induction l generalizing k with
  | nil=>simp at hk
  | cons x l ih =>
    cases k with
    | zero =>
      simp at hk;subst hk
      rw [List.takeWhile_cons_of_neg (by simpa using hp)];rfl
    | succ k =>
      have:=h1 0 x (by omega) rfl
      rw [List.takeWhile_cons_of_pos (by simpa using this),List.length_cons,ih (k:=k) (fun i p hi hp=>h1 (i+1) p (by omega) (by simpa using hp)) (by simpa using hk)]
def qi3 (l:List Pt) (p:Pt):List Pt×Int :=
  if qhk l≠0 then ([],qhk l) else if p.chk≠0 then ([],8) else if hasB l p.id then ([],14) else if l.length=64 then ([],18) else (l.take (lowB l p.id)++p :: l.drop (lowB l p.id),0)
end Go.Pel

namespace Go
open RowKit
def Row (w:World) (base:Nat) (e:TypeId) (size g cap:Nat) (cur:List Value):Prop :=
  base≤g∧w.heap[g]?=some (.cells cur.toArray e (0,0))∧cap≤maxLen∧cur.length=cap*size
section
variable {w:World} {base:Nat} {e:TypeId} {size g cap:Nat} {cur:List Value}
theorem Row.lt (h:Row w base e size g cap cur):g<w.heap.size:=(Array.getElem?_eq_some_iff.1 h.2.1).1
theorem Row.len (h:Row w base e size g cap cur):cur.length=cap*size:=h.2.2.2
theorem Row.own (h:Row w base e size g cap cur) {n:Nat} (hn:n≤cap):Own w base e size (some ⟨g,0,none⟩) n cap (cur.take (n*size)) :=
  ⟨by rw [List.length_take,h.len];exact Nat.min_eq_left (Nat.mul_le_mul_right _ hn),.inr ⟨g,cap,cur.toArray,rfl,h.1,h.2.1,hn,h.2.2.1,by simpa using h.len,by simp⟩⟩
theorem Own.row {A:Option Addr} {n c:Nat} {xs:List Value} (h:Own w base e size A n c xs):(A=none∧n=0∧c=0∧xs=[]) ∨ ∃ g cur,A=some ⟨g,0,none⟩∧Row w base e size g c cur∧n≤c∧cur.take (n*size)=xs:=by
  rcases h.2 with ⟨hv,hn⟩ | ⟨g,cap,cur,hv,hb,hg,hnc,hm,hs,ht⟩
  · injection hv with h1 h2 h3
    refine .inl ⟨h1,hn,h3,List.eq_nil_of_length_eq_zero ?_⟩
    rw [h.1,hn,Nat.zero_mul]
  · injection hv with h1 h2 h3
    subst h1 h3
    exact .inr ⟨g,cur.toList,rfl,⟨hb,by simpa using hg,hm,by simpa using hs⟩,hnc,ht⟩
theorem Row.cell (h:Row w base e size g cap cur) {j:Nat} {u:Value} (hu:cur[j]?=some u):w.cell? ⟨g,j,none⟩=some u:=by
  simp [World.cell?,h.2.1,hu]
theorem Row.frozen (h:Row w base e size g cap cur) (j:Nat):w.frozen? ⟨g,j,none⟩=false:=by
  simp [World.frozen?,h.2.1]
theorem Row.sl (h:Row w base e size g cap cur) {i n c:Nat} {xs:List Value} (hi:i+n≤cap) (hnc:n≤c) (hx:(cur.drop (i*size)).take (n*size)=xs):Sl w size (some ⟨g,i*size,none⟩) n c xs:=by
  have hle:i*size+n*size≤cap*size:=by rw [← Nat.add_mul];exact Nat.mul_le_mul_right _ hi
  refine ⟨hnc,by rw [← hx,List.length_take,List.length_drop,h.len];omega,fun _=>⟨g,_,rfl,h.lt,fun j u hu=>h.cell ?_⟩⟩
  rw [← hx,List.getElem?_take] at hu
  split at hu
  · rwa [List.getElem?_drop] at hu
  · cases hu
theorem Row.set (h:Row w base e size g cap cur) {cur':List Value} (hs:cur'.length=cur.length):Row (w.setRow g cur'.toArray) base e size g cap cur' :=
  ⟨h.1,setRow_heap w g _ _ e _ h.2.1,h.2.2.1,by rw [hs];exact h.len⟩
theorem Row.bel {w':World} (h:Row w base e size g cap cur) (hb:Bel w w'):Row w' base e size g cap cur:=⟨h.1,by rw [hb.block g h.lt];exact h.2.1,h.2.2⟩
end
section
variable {P:Program} {ops:Array Oper} {rest:List Oper} {o:Oper} {a:Act} {Q:Exit→Act→World→Prop}
end
end Go

namespace Go.Tx
open Go Go.Pel
def ofP (p:Int×Int×Int×Unit):Pt:=⟨p.1,p.2.1,p.2.2.1⟩
def toP (p:Pt):Int×Int×Int×Unit:=(p.id,p.a,p.b,())
abbrev RP:Row:=.int .i64 (.int .i64 (.int .i64 .nil))
def qig:(τ:Row)→den τ→List Value
  | .nil,_=>[]
  | .int k r,x=>.int k x.1 :: qig r x.2
  | .bool r,x=>.bool x.1 :: qig r x.2
  | .sl _ r,x=>qig r x.2
def qih (τ:Row):List (den τ)→List Value
  | []=>[]
  | x :: xs=>qig τ x++qih τ xs
abbrev TP:Type:=Int×Int×Int×Unit
theorem qii (l:List TP):qih RP l=vp (l.map ofP):=by
  induction l with
  | nil=>rfl
  | cons p l ih=>show qig RP p++qih RP l=vp (ofP p :: l.map ofP);rw [ih];rfl
theorem qik:∀ (τ:Row),qda τ=true→∀ x:den τ,(qig τ x).length=τ.size
  | .nil,_,_=>rfl
  | .int _ r,h,x=>by rw [qig,List.length_cons,qik r h,Row.size]
  | .bool r,h,x=>by rw [qig,List.length_cons,qik r h,Row.size]
  | .sl _ r,h,_=>by cases h
theorem qil {τ:Row} (h:qda τ=true):∀ xs:List (den τ),(qih τ xs).length=xs.length*τ.size
  | []=>by simp [qih]
  | x :: xs=>by rw [qih,List.length_append,qik τ h,qil h xs,List.length_cons,Nat.succ_mul];omega
theorem qio {φ:Nat→Option Obj} {w:World} (hφ:∀ k ob,φ k=some ob→w.heap[k]?=some ob) {b:Nat}:∀ (τ:Row),qda τ=true→∀ (x:den τ) (o:Nat),RowF φ τ x b o→∀ (j:Nat) u,(qig τ x)[j]?=some u→w.cell? ⟨b,o+j,none⟩=some u
  | .nil,_,_,_,_,j,u,hu=>by simp [qig] at hu
  | .int k r, h, x, o, hr, j, u, hu => by
    cases j with
    | zero =>
      simp only [qig,List.getElem?_cons_zero,Option.some.injEq] at hu;subst hu
      obtain ⟨ob,h1,h2⟩:=hr.1
      rw [Nat.add_zero,qg,hφ b ob h1];exact h2
    | succ j=>have:=qio hφ r h x.2 (o+1) hr.2 j u (by simpa [qig] using hu);rwa [show o+1+j=o+(j+1) by omega] at this
  | .bool r, h, x, o, hr, j, u, hu => by
    cases j with
    | zero =>
      simp only [qig,List.getElem?_cons_zero,Option.some.injEq] at hu;subst hu
      obtain ⟨ob,h1,h2⟩:=hr.1
      rw [Nat.add_zero,qg,hφ b ob h1];exact h2
    | succ j=>have:=qio hφ r h x.2 (o+1) hr.2 j u (by simpa [qig] using hu);rwa [show o+1+j=o+(j+1) by omega] at this
  | .sl _ r,h,_,_,_,_,_,_=>by cases h
theorem qip {τ:Row} (h:qda τ=true) (hs:0<τ.size) (xs:List (den τ)) (j:Nat) (hj:j<xs.length*τ.size):∃ x,xs[j / τ.size]?=some x∧(qih τ xs)[j]?=(qig τ x)[j % τ.size]?:=by
  induction xs generalizing j with
  | nil=>simp at hj
  | cons y ys ih =>
    rw [qih]
    have hl:=qik τ h y
    rcases Nat.lt_or_ge j τ.size with hlt | hge
    · refine ⟨y, by rw [Nat.div_eq_of_lt hlt]; rfl, ?_⟩
      rw [List.getElem?_append_left (by omega),Nat.mod_eq_of_lt hlt]
    · rw [List.length_cons, Nat.succ_mul] at hj
      obtain ⟨x,h1,h2⟩:=ih (j - τ.size) (by omega)
      have e1:j / τ.size=(j - τ.size) / τ.size+1:=by
        conv=>lhs;rw [show j=(j - τ.size)+τ.size by omega,Nat.add_div_right _ hs]
      have e2:j % τ.size=(j - τ.size) % τ.size:=by
        conv=>lhs;rw [show j=(j - τ.size)+τ.size by omega,Nat.add_mod_right]
      exact ⟨x,by rw [e1,List.getElem?_cons_succ];exact h1,by rw [List.getElem?_append_right (by omega),hl,h2,e2]⟩
theorem qiq {φ:Nat→Option Obj} {w:World} (hφ:∀ k ob,φ k=some ob→w.heap[k]?=some ob) {τ:Row} (h:qda τ=true) (hs:0<τ.size) {xs:List (den τ)} {v:Value} (hv:VR (Emb.fro φ) (.fz τ xs) v):∃ A c,v=.slice A xs.length c∧Sl w τ.size A xs.length c (qih τ xs)∧(A=none→c=0):=by
  cases hv with
  | fz hf =>
    obtain ⟨A,c,rfl,h1,h0,h2⟩:=hf
    refine ⟨A,c,rfl,⟨h1,qil h xs,fun hn=>?_⟩,h0⟩
    obtain ⟨b,o,rfl,hr0⟩:=h2 0 _ (q2t hn)
    refine ⟨b,o,rfl,?_,fun j u hu=>?_⟩
    · have hlen := qik τ h (q2s τ xs 0)
      obtain ⟨u,hu⟩:∃ u,(qig τ (q2s τ xs 0))[0]?=some u:=⟨_,List.getElem?_eq_getElem (by omega)⟩
      have:=qio hφ τ h _ _ hr0 0 u hu
      unfold World.cell? at this
      cases hb:w.heap[b]? with
      | none=>rw [show w.heap[(⟨b,o+0*τ.size+0,none⟩:Addr).block]?=w.heap[b]? from rfl,hb] at this;cases this
      | some ob=>exact (Array.getElem?_eq_some_iff.1 hb).1
    · have hj : j < xs.length * τ.size := by rw [← qil h xs]; exact (List.getElem?_eq_some_iff.1 hu).1
      obtain ⟨x,h3,h4⟩:=qip h hs xs j hj
      obtain ⟨b',o',e1,e2⟩:=h2 _ x h3
      injection e1 with e1;injection e1 with e3 e4;subst e3 e4
      have:=qio hφ τ h x _ e2 (j % τ.size) u (by rw [← h4];exact hu)
      rwa [Nat.add_assoc,Nat.mul_comm,Nat.div_add_mod] at this
theorem qir {φ:Nat→Option Obj} {w:World} (hφ:∀ k ob,φ k=some ob→w.heap[k]?=some ob) {l:List TP} {v:Value} (hv:VR (Emb.fro φ) (.agg [.fz RP l]) v):∃ A c,v=.agg #[.slice A (l.map ofP).length c]∧Sl w 3 A (l.map ofP).length c (vp (l.map ofP))∧(A=none→c=0):=by
  cases hv with
  | agg hl hh =>
    obtain ⟨u,rfl,hu⟩:=vrs1 ⟨hl,hh⟩
    obtain ⟨A,c,rfl,h1,h2⟩:=qiq hφ (τ:=RP) rfl (by decide) hu
    have e1:(l.map ofP).length=l.length:=List.length_map ofP
    have h3:Sl w 3 A l.length c (vp (l.map ofP)):=by rw [← qii l];exact h1
    exact ⟨A,c,by rw [e1];rfl,by rw [e1];exact h3,h2⟩
theorem qit {η:Emb} {p:den RP} {v:Value} (hv:VR η (.agg (split RP p)) v):v=.agg #[.int .i64 (ofP p).id,.int .i64 (ofP p).a,.int .i64 (ofP p).b]:=by
  cases hv with
  | agg hl hh =>
    obtain ⟨u1,vs,rfl,h1,h2⟩:=VRs.uncons (c:=.int .i64 p.1) ⟨hl,hh⟩
    obtain ⟨u2,vs,rfl,h3,h4⟩:=VRs.uncons (c:=.int .i64 p.2.1) h2
    obtain ⟨u3,rfl,h5⟩:=vrs1 (c:=.int .i64 p.2.2.1) h4
    cases h1;cases h3;cases h5;rfl
theorem qiu {η:Emb} {a b:Int} {v:Value} (hv:VR η (.agg [.int .i64 a,.int .i64 b]) v):v=.agg #[.int .i64 a,.int .i64 b]:=by
  cases hv with
  | agg hl hh =>
    obtain ⟨u1,u2,rfl,h1,h2⟩:=vrs2 ⟨hl,hh⟩
    cases h1;cases h2;rfl
theorem VR.tupL {η:Emb} {cs:List LV} {vs:List Value} (h:VRs η cs vs):VR η (.tup cs) (.tuple vs.toArray):=.tup h.1 h.2
theorem VR.aggL {η:Emb} {cs:List LV} {vs:List Value} (h:VRs η cs vs):VR η (.agg cs) (.agg vs.toArray):=.agg h.1 h.2
def qix (w:World) (φ:Nat→Option Obj) (er:LV×List Ob) (e:Ending) (w':World):Prop:=∃ v' η',e=.returned v'∧VR η' er.1 v'∧(∀ M,HR M η' (q82 er.2) w')∧Fr w (noK φ) (q82 er.2) η' w'
theorem qiy {w:World} {φ:Nat→Option Obj} (hφ:∀ k ob,φ k=some ob→w.heap[k]?=some ob) {l:LV} {v:Value} (hv:VR (Emb.fro φ) l v) (y:Beyond):qix w φ (l,[]) (.returned v) (ext w y):=by
  have hb:=q9y w y
  have h2:∀ k ob,φ k=some ob→(ext w y).heap[k]?=some ob:=fun k ob hk=>by rw [hb.block k (Array.getElem?_eq_some_iff.1 (hφ k ob hk)).1];exact hφ k ob hk
  exact ⟨v,_,rfl,hv,q9q h2,hb.size,fun k hk _=>hb.block k hk,(fun k ⟨b,ob,L,h,_⟩=>by rw [q85] at h;simp at h),fun _ _ h=>h,fun _ _ h=>.inl h,hb.os,hb.tape,hb.output,hb.mono,fun _ _ h=>h.elim⟩
theorem qj0 {P : Program} {S : Spec} (hb : ∃ fn c, P.funcs[S.g]? = some fn ∧ fn.body = some c ∧ ¬ fn.name = "runtime.NumGoroutine")
    (h:∀ x r,S.F x=some r→∀ (w:World) (φ:Nat→Option Obj) (vs:List Value),(∀ k ob,φ k=some ob→w.heap[k]?=some ob)→VRs (Emb.fro φ) (q9o S.τs x) vs→Calls P S.g vs.toArray w (qix w φ (S.enc r))):COK P S:=⟨h,hb⟩
theorem qj1 {P : Program} {g : Nat} {fn : Func} (h1 : P.funcs[g]? = some fn) (h2 : fn.body.isSome = true) (h3 : (fn.name == "runtime.NumGoroutine") = false) : ∃ fn c, P.funcs[g]? = some fn ∧ fn.body = some c ∧ ¬ fn.name = "runtime.NumGoroutine" := by
  obtain ⟨c,hc⟩:=Option.isSome_iff_exists.1 h2
  exact ⟨fn,c,h1,hc,by simpa using h3⟩
end Go.Tx

namespace Go
open RowKit
section
variable {P:Program} {ops:Array Oper} {o:Oper} {a:Act} {K:Act→World→Prop} {Q:Exit→Act→World→Prop} {E:Prop}
end
end Go
namespace Go
open RowKit
def setL (xs:List Value):Nat→List Value→List Value
  | _,[]=>xs
  | o,v :: r=>setL (xs.set o v) (o+1) r
theorem qj5:∀ (vs:List Value) (o:Nat) (xs:List Value),(setL xs o vs).length=xs.length
  | [],_,_=>rfl
  | v :: r,o,xs=>by rw [setL,qj5 r];simp
section
variable {P:Program} {ops:Array Oper} {rest:List Oper} {o:Oper} {a:Act} {Q:Exit→Act→World→Prop}
end
end Go
namespace Go
open RowKit
end Go

namespace Go
open RowKit
section
variable {P:Program} {ops:Array Oper} {o:Oper} {a:Act} {K:Act→World→Prop} {Q:Exit→Act→World→Prop} {E:Prop}
end
end Go

namespace Go
open RowKit
structure Held (W:World) (b o:Nat) (v:Value):Prop where
  lt:b<W.heap.size
  eq:W.cell? ⟨b,o,none⟩=some v
  fr:W.frozen? ⟨b,o,none⟩=false
theorem Held.bel {W W':World} {b o:Nat} {v:Value} (h:Held W b o v) (hb:Bel W W'):Held W' b o v:=by
  obtain ⟨x,rfl⟩:=ext_of hb
  exact ⟨by rw [q9u];have:=h.lt;omega,by rw [qcs _ _ _ _ h.lt];exact h.eq,by rw [qct _ _ _ _ h.lt];exact h.fr⟩
theorem Held.new {W W':World} {cs:Array Value} {e:TypeId} {j:Nat} {v:Value} (hb:Bel (W.alloc (.cells cs e)) W') (hv:cs[j]?=some v):Held W' W.heap.size j v:=by
  have h:Held (W.alloc (.cells cs e)) W.heap.size j v:=⟨by simp,by simp [go_sem,hv],by simp [go_sem]⟩
  exact h.bel hb
structure Apart (g:Nat) (W W':World):Prop where
  os:W'.os=W.os
  tape:W'.tape=W.tape
  output:W'.output=W.output
  size:W'.heap.size=W.heap.size
  drawn:W.drawn≤W'.drawn
  block:∀ b,b≠g→W'.heap[b]?=W.heap[b]?
theorem Apart.refl (g:Nat) (W:World):Apart g W W:=⟨rfl,rfl,rfl,rfl,Nat.le_refl _,fun _ _=>rfl⟩
theorem Apart.trans {g:Nat} {W W1 W2:World} (h:Apart g W W1) (k:Apart g W1 W2):Apart g W W2 :=
  ⟨k.os.trans h.os,k.tape.trans h.tape,k.output.trans h.output,k.size.trans h.size,Nat.le_trans h.drawn k.drawn,fun b hb=>(k.block b hb).trans (h.block b hb)⟩
theorem Apart.setCell {g:Nat} {W W1:World} (h:Apart g W W1) (o:Nat) (u:Value):Apart g W (W1.setCell ⟨g,o,none⟩ u) :=
  h.trans ⟨rfl,rfl,rfl,by simp [World.setCell],Nat.le_refl _,fun b hb=>by unfold World.setCell;simp only [Array.getElem?_modify,if_neg (Ne.symm hb)]⟩
theorem Apart.bel {g:Nat} {w W W1:World} (h:Apart g W W1) (hb:Bel w W) (hg:w.heap.size≤g):Bel w W1 :=
  ⟨⟨h.os.trans hb.os,h.tape.trans hb.tape,h.output.trans hb.output,by rw [h.size];exact hb.size,fun k hk=>(h.block k (by omega)).trans (hb.block k hk)⟩,Nat.le_trans hb.mono h.drawn⟩
theorem Held.apart {g:Nat} {W W':World} {b o:Nat} {v:Value} (h:Held W b o v) (ha:Apart g W W') (hne:b≠g):Held W' b o v :=
  ⟨by rw [ha.size];exact h.lt,by have:=h.eq;unfold World.cell? at this ⊢;rw [ha.block b hne];exact this,by have:=h.fr;unfold World.frozen? at this ⊢;rw [ha.block b hne];exact this⟩
theorem Sl.apart {g:Nat} {W W':World} {size n c:Nat} {A:Option Addr} {xs:List Value} (h:Sl W size A n c xs) (ha:Apart g W W') (hne:∀ b o,A=some ⟨b,o,none⟩→b≠g):Sl W' size A n c xs :=
  ⟨h.1,h.2.1,fun hn=>by
    obtain ⟨b,o,hA,hb,hc⟩:=h.2.2 hn
    refine ⟨b,o,hA,by rw [ha.size];exact hb,fun j u hu=>?_⟩
    have h1:=hc j u hu
    unfold World.cell? at h1 ⊢
    rw [ha.block b (hne b o hA)];exact h1⟩
theorem Own.ne {W:World} {B:Nat} {e:TypeId} {size n c:Nat} {A:Option Addr} {xs:List Value} (h:Own W B e size A n c xs) {g:Nat} (hg:g<B):∀ b o,A=some ⟨b,o,none⟩→b≠g:=by
  intro b o hA
  rcases h.row with ⟨h0,_⟩ | ⟨g',cur,h0,hr,_⟩
  · rw [hA] at h0;cases h0
  · have e1 : b = g' := by rw [hA] at h0; injection h0 with h0; injection h0
    have:=hr.1
    omega
end Go
namespace Go
open RowKit
theorem Own.shape {W:World} {B:Nat} {e:TypeId} {size n c:Nat} {A:Option Addr} {xs:List Value} (h:Own W B e size A n c xs):(A=none∧n=0) ∨ ∃ g,A=some ⟨g,0,none⟩∧B≤g∧g<W.heap.size:=by
  rcases h.row with ⟨h0,h1,_⟩ | ⟨g',cur,h0,hr,_⟩
  · exact .inl ⟨h0,h1⟩
  · exact .inr ⟨g',h0,hr.1,hr.lt⟩
end Go

namespace Go
open RowKit
structure Box (W:World) (b:Nat) (cs:Array Value):Prop where
  lt:b<W.heap.size
  eq:∀ (j:Nat) (v:Value),cs[j]?=some v→W.cell? ⟨b,j,none⟩=some v
  fr:∀ (j:Nat),W.frozen? ⟨b,j,none⟩=false
theorem Box.bel {W W':World} {b:Nat} {cs:Array Value} (h:Box W b cs) (hb:Bel W W'):Box W' b cs:=by
  obtain ⟨x,rfl⟩:=ext_of hb
  exact ⟨by rw [q9u];have:=h.lt;omega,fun j v hv=>by rw [qcs _ _ _ _ h.lt];exact h.eq j v hv,fun j=>by rw [qct _ _ _ _ h.lt];exact h.fr j⟩
theorem Box.new {W W':World} {cs:Array Value} {e:TypeId} (hb:Bel (W.alloc (.cells cs e)) W') {b:Nat} (hbk:b=W.heap.size):Box W' b cs:=by
  subst hbk
  have h:Box (W.alloc (.cells cs e)) W.heap.size cs:=⟨by simp,fun j v hv=>by simp [go_sem,hv],fun j=>by simp [go_sem]⟩
  exact h.bel hb
end Go

namespace Go
end Go

namespace Go
open RowKit
def qjf (V:World) (e:TypeId) (g:Nat):Prop:=∃ W:World,Bel (W.alloc (.cells #[] e)) V∧g=W.heap.size
theorem qjf.here {W:World} {e:TypeId} {g:Nat} (h:g=W.heap.size):qjf (W.alloc (.cells #[] e)) e g:=⟨W,Bel.refl _,h⟩
theorem qjf.alloc {W:World} {e:TypeId} {g:Nat} {o:Obj} (h:qjf W e g):qjf (W.alloc o) e g:=by obtain ⟨W0,h1,h2⟩:=h;exact ⟨W0,h1.alloc _,h2⟩
theorem qjf.ext {W:World} {e:TypeId} {g:Nat} {x:Beyond} (h:qjf W e g):qjf (ext W x) e g:=by obtain ⟨W0,h1,h2⟩:=h;exact ⟨W0,h1.ext _,h2⟩
theorem qjf.drew {W:World} {e:TypeId} {g:Nat} (h:qjf W e g):qjf W.drew e g:=by obtain ⟨W0,h1,h2⟩:=h;exact ⟨W0,h1.drew,h2⟩
def qjg (A B:Option Addr):Prop:=∀ k,A=some ⟨k,0,none⟩→B=some ⟨k,0,none⟩→False
theorem qjg.symm {A B:Option Addr} (h:qjg A B):qjg B A:=fun k h1 h2=>h k h2 h1
structure Swp (V V' W W':World):Prop where
  base:V.heap.size=V'.heap.size
  size:W.heap.size=W'.heap.size
  hi:∀ k,V.heap.size≤k→W'.heap[k]?=W.heap[k]?
theorem Swp.refl {V V':World} (h:V.heap.size=V'.heap.size):Swp V V' V V':=⟨h,h,fun k hk=>by rw [Array.getElem?_eq_none hk,Array.getElem?_eq_none (by omega)]⟩
theorem Swp.ext {V V' W W':World} (h:Swp V V' W W') (x:Beyond):Swp V V' (ext W x) (ext W' x):=by
  refine ⟨h.base,by simp [h.size],fun k hk=>?_⟩
  have e1:(Go.ext W x).heap=W.heap++x.objs:=by unfold Go.ext;rfl
  have e2:(Go.ext W' x).heap=W'.heap++x.objs:=by unfold Go.ext;rfl
  rw [e1,e2]
  rcases Nat.lt_or_ge k W.heap.size with hl | hl
  · rw [Array.getElem?_append_left hl,Array.getElem?_append_left (by have:=h.size;omega)];exact h.hi k hk
  · rw [Array.getElem?_append_right hl,Array.getElem?_append_right (by have:=h.size;omega),h.size]
theorem Swp.alloc {V V' W W':World} (h:Swp V V' W W') (o:Obj):Swp V V' (W.alloc o) (W'.alloc o):=by
  refine ⟨h.base,by simp [h.size],fun k hk=>?_⟩
  have e1:(W.alloc o).heap=W.heap.push o:=by unfold World.alloc;rfl
  have e2:(W'.alloc o).heap=W'.heap.push o:=by unfold World.alloc;rfl
  rw [e1,e2,Array.getElem?_push,Array.getElem?_push,h.hi k hk,h.size]
theorem Swp.drew {V V' W W':World} (h:Swp V V' W W'):Swp V V' W.drew W'.drew:=⟨h.base,h.size,h.hi⟩
theorem Box.here {W:World} {cs:Array Value} {e:TypeId} {b:Nat} (hb:b=W.heap.size):Box (W.alloc (.cells cs e)) b cs:=Box.new (Bel.refl _) hb
theorem Box.alloc {W:World} {cs:Array Value} {b:Nat} {o:Obj} (h:Box W b cs):Box (W.alloc o) b cs:=h.bel ((Bel.refl _).alloc _)
theorem Box.ext {W:World} {cs:Array Value} {b:Nat} {x:Beyond} (h:Box W b cs):Box (ext W x) b cs:=h.bel (q9y _ _)
theorem Box.drew {W:World} {cs:Array Value} {b:Nat} (h:Box W b cs):Box W.drew b cs:=h.bel (Bel.refl _).drew
theorem Own.here {W:World} {base:Nat} {cs:Array Value} {e:TypeId} {size n b:Nat} (hbk:b=W.heap.size) (hb:base≤b) (hn:n≤1000000) (hs:cs.size=n*size):Own (W.alloc (.cells cs e)) base e size (some ⟨b,0,none⟩) n n cs.toList:=by
  subst hbk
  exact World.ownsRow_lit W cs n hb (Nat.le_trans hn (by unfold maxLen;decide)) hs
theorem Own.ext' {W:World} {base:Nat} {xs:List Value} {e:TypeId} {size n c:Nat} {A:Option Addr} {x:Beyond} (h:Own W base e size A n c xs):Own (Go.ext W x) base e size A n c xs:=h.ext x
def PBut (g:Nat) (a b:Array Obj):Prop:=∀ k,k≠g→k<a.size→b[k]?=a[k]?
def qjt (g:Nat) (a b:Array Obj):Prop:=a.size=b.size∧∀ k,k≠g→b[k]?=a[k]?
theorem qjt.refl (g:Nat) (a:Array Obj):qjt g a a:=⟨rfl,fun _ _=>rfl⟩
theorem qjt.both {g:Nat} {a b:Array Obj} (h:qjt g a b) (c:Array Obj):qjt g (a++c) (b++c):=by
  refine ⟨by simp [h.1],fun k hk=>?_⟩
  rcases Nat.lt_or_ge k a.size with hl | hl
  · rw [Array.getElem?_append_left hl,Array.getElem?_append_left (by have:=h.1;omega)];exact h.2 k hk
  · rw [Array.getElem?_append_right hl,Array.getElem?_append_right (by have:=h.1;omega),h.1]
theorem PBut.same {g:Nat} {a b:Array Obj} (h:qjt g a b):PBut g a b:=fun k hk _=>h.2 k hk
theorem PBut.le {g:Nat} {a b:Array Obj} (h:PBut g a b) {k:Nat} (hk:k≠g) (hl:k<a.size):k<b.size:=by
  have h1:=h k hk hl
  rcases Nat.lt_or_ge k b.size with h2 | h2
  · exact h2
  · rw [Array.getElem?_eq_none h2,Array.getElem?_eq_getElem hl] at h1;cases h1
theorem PBut.right {g:Nat} {a b:Array Obj} (h:PBut g a b) (c:Array Obj):PBut g a (b++c):=fun k hk hl=>by
  rw [Array.getElem?_append_left (h.le hk hl)];exact h k hk hl
theorem qjw {W:World} {b g o:Nat} {u:Value} (hne:b≠g):(W.setCell ⟨b,o,none⟩ u).heap[g]?=W.heap[g]?:=by
  unfold World.setCell
  simp only [Array.getElem?_modify,if_neg hne]
theorem Box.other {W:World} {b g:Nat} {cs:Array Value} (h:Box W g cs) (o:Nat) (u:Value) (hne:b≠g):Box (W.setCell ⟨b,o,none⟩ u) g cs:=by
  refine ⟨by have:=h.lt;simpa using this,fun j v hv=>?_,fun j=>?_⟩
  · rw [← h.eq j v hv];exact World.cell?_of_block (qjw hne)
  · rw [← h.fr j];exact World.frozen?_of_block (qjw hne)
section
variable {P:Program} {ops:Array Oper} {o:Oper} {a:Act} {K:Act→World→Prop} {Q:Exit→Act→World→Prop} {E:Prop}
end
end Go

namespace Go.Tx
open Go Go.Pel
def ptsL (l:List TP):List Pt:=l.map ofP
theorem qkb {φ:Nat→Option Obj} {w:World} (hφ:∀ k ob,φ k=some ob→w.heap[k]?=some ob) {l:List TP} {v:Value} (hv:VR (Emb.fro φ) (.agg [.fz RP l]) v):∃ A c,v=.agg #[.slice A (ptsL l).length c]∧Sl w 3 A (ptsL l).length c (vp (ptsL l))∧(A=none→c=0):=qir hφ hv
def i64B (n:Int):Bool:=decide (-9223372036854775808≤n)&&decide (n≤9223372036854775807)
theorem qkd {n:Int} (h:i64B n=true):-9223372036854775808≤n∧n≤9223372036854775807:=by
  unfold i64B at h;simpa using h
theorem qkg {α:Type} {c:Bool} {a r:α} (h:(bif c then some a else none)=some r):c=true∧a=r:=by
  cases c with
  | true=>injection h with h;exact ⟨rfl,h⟩
  | false=>cases h
theorem qkh {w:World} {b:Nat}:∀ (τ:Row),qda τ=true→∀ (x:den τ) (o:Nat),(∀ (j:Nat) u,(qig τ x)[j]?=some u→w.cell? ⟨b,o+j,none⟩=some u)→RowF (fun k=>w.heap[k]?) τ x b o
  | .nil,_,_,_,_=>trivial
  | .int k r,h,x,o,hc=>⟨by
      have:=hc 0 _ (by rw [qig];rfl)
      rw [Nat.add_zero,qg] at this
      cases hb:w.heap[b]? with
      | none=>rw [hb] at this;cases this
      | some ob=>rw [hb] at this;exact ⟨ob,hb,this⟩,qkh r h x.2 (o+1) fun j u hu=>by rw [show o+1+j=o+(j+1) by omega];exact hc (j+1) u (by rw [qig];simpa using hu)⟩
  | .bool r,h,x,o,hc=>⟨by
      have:=hc 0 _ (by rw [qig];rfl)
      rw [Nat.add_zero,qg] at this
      cases hb:w.heap[b]? with
      | none=>rw [hb] at this;cases this
      | some ob=>rw [hb] at this;exact ⟨ob,hb,this⟩,qkh r h x.2 (o+1) fun j u hu=>by rw [show o+1+j=o+(j+1) by omega];exact hc (j+1) u (by rw [qig];simpa using hu)⟩
  | .sl _ r,h,_,_,_=>by cases h
theorem qki {τ:Row} (h:qda τ=true):∀ (xs:List (den τ)) (i:Nat) x,xs[i]?=some x→∀ (j:Nat) u,(qig τ x)[j]?=some u→(qih τ xs)[i*τ.size+j]?=some u
  | [],i,x,hx,j,u,hu=>by simp at hx
  | y :: ys, 0, x, hx, j, u, hu => by
    simp only [List.getElem?_cons_zero,Option.some.injEq] at hx;subst hx
    rw [qih,Nat.zero_mul,Nat.zero_add]
    have hj:=(List.getElem?_eq_some_iff.1 hu).1
    rw [List.getElem?_append_left hj];exact hu
  | y :: ys, i + 1, x, hx, j, u, hu => by
    rw [qih]
    have hl:=qik τ h y
    rw [List.getElem?_append_right (by rw [hl,Nat.succ_mul];omega),hl,show (i+1)*τ.size+j - τ.size=i*τ.size+j by rw [Nat.succ_mul];omega]
    exact qki h ys i x (by simpa using hx) j u hu
theorem sl_fz {w:World} {τ:Row} (h:qda τ=true) {xs:List (den τ)} {A:Option Addr} {n c:Nat} {vals:List Value} (hn:xs.length=n) (hv:qih τ xs=vals) (hs:Sl w τ.size A n c vals) (h0:A=none→c=0):VR (Emb.fro fun k=>w.heap[k]?) (.fz τ xs) (.slice A n c):=by
  subst hn;subst hv
  refine .fz ⟨A,c,rfl,hs.1,h0,fun i x hx=>?_⟩
  have hi:=(List.getElem?_eq_some_iff.1 hx).1
  obtain ⟨b,o,hA,_,hc⟩:=hs.2.2 (by omega)
  refine ⟨b,o,hA,qkh τ h x _ fun j u hu=>?_⟩
  rw [Nat.add_assoc]
  exact hc _ u (qki h xs i x hx j u hu)
def toPs (l:List Pt):List TP:=l.map toP
theorem toPs_len (l:List Pt):(toPs l).length=l.length:=List.length_map _
theorem qkl (l:List Pt):ptsL (toPs l)=l:=by unfold ptsL toPs;rw [List.map_map];exact List.map_id _
theorem valsL_toP (l:List Pt):qih RP (toPs l)=vp l:=(qii (toPs l)).trans (congrArg vp (qkl l))
theorem qko {w:World} {A:Option Addr} {c:Nat} {l:List Pt} (hs:Sl w 3 A l.length c (vp l)) (h0:A=none→c=0):VR (Emb.fro fun k=>w.heap[k]?) (.agg [.fz RP (toPs l)]) (.agg #[.slice A l.length c]):=VR.aggL (VRs.cons (sl_fz (τ:=RP) rfl (toPs_len l) (valsL_toP l) hs h0) VRs.nil)
theorem qkq {w:World} (n d:Int):VR (Emb.fro fun k=>w.heap[k]?) (.agg [.int .i64 n,.int .i64 d]) (.agg #[.int .i64 n,.int .i64 d]):=VR.aggL (VRs.cons (.int _ _) (VRs.cons (.int _ _) VRs.nil))
end Go.Tx

namespace Go.Proofs.Ytoakhncbmpdacaa
open Go Go.Tx Go.Proofs.Try
abbrev Ri:Go.Tx.Row:=(.int .i64 .nil)
abbrev Di:Type:=(Int×Unit)
abbrev zi:Di:=(0,())
abbrev Rb:Go.Tx.Row:=(.bool .nil)
abbrev Db:Type:=(Bool×Unit)
abbrev zb:Db:=(false,())
abbrev Riii:Go.Tx.Row:=(.int .i64 (.int .i64 (.int .i64 .nil)))
abbrev Diii:Type:=(Int×(Int×(Int×Unit)))
abbrev ziii:Diii:=(0,0,0,())
abbrev qks:Go.Tx.Row:=(.sl Riii .nil)
abbrev qkt:Type:=(List Diii×Unit)
abbrev qku:qkt:=([],())
abbrev Rii:Go.Tx.Row:=(.int .i64 (.int .i64 .nil))
abbrev Dii:Type:=(Int×(Int×Unit))
abbrev qkv:Go.Tx.Row:=(.int .i64 (.sl Riii .nil))
abbrev qkw:Type:=(Int×(List Diii×Unit))
abbrev ql4:Go.Tx.Row:=(.sl qks .nil)
abbrev ql5:Type:=(List qkt×Unit)
theorem mixed:prog.follows .mixedOrders=true:=by kernel_rfl
def tysT:Tys:=[(2,⟨.int .i64,1,false,[.int .i64 0],false,false⟩),
  (3,⟨.int .i64,1,false,[.int .i64 0],false,false⟩),
  (4,⟨.bool,1,false,[.bool false],false,false⟩),
  (5,⟨.int .u8,1,false,[.int .u8 0],false,false⟩),
  (6,⟨.int .u8,1,false,[.int .u8 0],false,false⟩),
  (9,⟨.str,1,false,[.undef],false,false⟩),
  (10,⟨.str,1,false,[.undef],false,false⟩),
  (11,⟨.str,1,false,[.undef],false,false⟩),
  (12,⟨.int .u64,1,false,[.int .u64 0],false,false⟩),
  (21,⟨.int .i32,1,false,[.int .i32 0],false,false⟩),
  (22,⟨.slice 75 Riii,1,false,[.nils],false,false⟩),
  (24,⟨.struct [(0,22)],1,true,[.nils],false,false⟩),
  (26,⟨.struct [(0,2),(1,2)],2,true,[.int .i64 0,.int .i64 0],false,false⟩),
  (27,⟨.slice 67 Riii,1,false,[.nils],false,false⟩),
  (29,⟨.struct [(0,3),(1,27)],2,true,[.int .i64 0,.nils],false,false⟩),
  (34,⟨.int .i64,1,false,[.int .i64 0],false,false⟩),
  (39,⟨.slice 3 Ri,1,false,[.nils],false,false⟩),
  (67,⟨.struct [(0,3),(1,3),(2,3)],3,true,[.int .i64 0,.int .i64 0,.int .i64 0],true,false⟩),
  (75,⟨.struct [(0,3),(1,2),(2,2)],3,true,[.int .i64 0,.int .i64 0,.int .i64 0],false,false⟩),
  (78,⟨.slice 29 qkv,1,false,[.nils],false,false⟩),
  (93,⟨.slice 96 Rii,1,false,[.nils],false,false⟩),
  (96,⟨.array 2 3,2,true,[.int .i64 0,.int .i64 0],true,false⟩),
  (101,⟨.other,1,false,[.undef],false,false⟩),
  (106,⟨.map 3 .i64 75 true Riii,1,false,[.undef],false,false⟩),
  (120,⟨.slice 4 Rb,1,false,[.nils],false,false⟩),
  (124,⟨.other,1,false,[.undef],false,false⟩),
  (125,⟨.int .u64,1,false,[.int .u64 0],false,false⟩),
  (128,⟨.slice 27 qks,1,false,[.nils],false,false⟩),
  (131,⟨.int .u64,1,false,[.int .u64 0],false,false⟩),
  (137,⟨.other,1,false,[.undef],false,false⟩),
  (140,⟨.struct [(0,2),(1,131)],2,true,[.int .i64 0,.int .u64 0],false,false⟩),
  (142,⟨.array 2 2,2,true,[.int .i64 0,.int .i64 0],false,false⟩),
  (143,⟨.array 2 142,4,true,[.int .i64 0,.int .i64 0,.int .i64 0,.int .i64 0],false,false⟩),
  (155,⟨.int .i64,1,false,[.int .i64 0],false,false⟩),
  (162,⟨.int .u32,1,false,[.int .u32 0],false,false⟩),
  (166,⟨.struct [(0,4),(1,131),(2,131)],3,true,[.bool false,.int .u64 0,.int .u64 0],false,false⟩),
  (169,⟨.int .u64,1,false,[.int .u64 0],false,false⟩),
  (176,⟨.other,1,false,[.nilp],false,false⟩),
  (185,⟨.int .u8,1,false,[.int .u8 0],false,false⟩),
  (186,⟨.int .u8,1,false,[.int .u8 0],false,false⟩),
  (189,⟨.int .i32,1,false,[.int .i32 0],false,false⟩),
  (190,⟨.int .i32,1,false,[.int .i32 0],false,false⟩)]
set_option maxRecDepth 20000 in
set_option maxHeartbeats 4000000 in
theorem qla (n:Nat) (k0 k1 k2:IntKind) (a0 a1 a2 b0 b1 b2:Int) (w:World):(Op.equalIn (n+2) 67 (.agg #[.int k0 a0,.int k1 a1,.int k2 a2]) (.agg #[.int k0 b0,.int k1 b1,.int k2 b2])).run prog w=.ok ((a0 == b0)&&(a1 == b1)&&(a2 == b2)) w:=by
  have hst:prog.stoodInHeld 67=false:=by kernel_rfl
  have hu:prog.underlying 67=some (.struct (prog.fieldsOf 67)):=by kernel_rfl
  have hf:=Try.underlying67
  rw [hu] at hf
  injection hf with hf
  injection hf with hf
  have e3:=fun (k:IntKind) (x y:Int)=>run_equalIn_int (P:=prog) w (n+0) 3 k .i64 x y Try.underlying3
  rw [run_equalIn_struct w (n+1) 67 _ _ hu hst,hf]
  simp [Op.eqFields,part,Sem.run_bind,Result.andThen_ok,e3,Try.isAgg3]
  cases h0:(a0 == b0)<;>cases h1:(a1 == b1)<;>cases h2:(a2 == b2)<;>simp_all
theorem qlb:EqT prog 67 3:=by
  refine ⟨fun vs us b w h1 h2 h=>?_,by kernel_rfl⟩
  obtain ⟨a0,a1,a2,rfl⟩:∃ a0 a1 a2,vs=[a0,a1,a2]:=by
    match vs,h1 with
    | [a0,a1,a2],_=>exact ⟨a0,a1,a2,rfl⟩
  obtain ⟨b0,b1,b2,rfl⟩:∃ b0 b1 b2,us=[b0,b1,b2]:=by
    match us,h2 with
    | [b0,b1,b2],_=>exact ⟨b0,b1,b2,rfl⟩
  obtain ⟨k0,x0,y0,c0,rfl,rfl,g0,rfl⟩:=q1q h
  obtain ⟨k1,x1,y1,c1,rfl,rfl,g1,rfl⟩:=q1q g0
  obtain ⟨k2,x2,y2,c2,rfl,rfl,g2,rfl⟩:=q1q g1
  obtain rfl:=q1p g2
  refine (qla 9998 k0 k1 k2 x0 x1 x2 y0 y1 y2 w).trans ?_
  simp [Bool.and_assoc]
theorem qlc (n:Nat) (k0 k1:IntKind) (a0 a1 b0 b1:Int) (w:World):(Op.equalIn (n+2) 96 (.agg #[.int k0 a0,.int k1 a1]) (.agg #[.int k0 b0,.int k1 b1])).run prog w=.ok (a0 == b0&&a1 == b1) w:=by
  have hc:prog.cellsOf 3=1:=by kernel_rfl
  obtain ⟨i,hi⟩:=Option.isSome_iff_exists.1 (show (prog.info? 3).isSome=true by kernel_rfl)
  have e:=fun (k:IntKind) (x y:Int)=>run_equalIn_int (P:=prog) w n 3 k .i64 x y Try.underlying3
  rw [run_equalIn_array w (n+1) _ _ Try.underlying96 hi,hc,show List.range 2=[0,1] from rfl]
  simp [Op.eqItems,part,Sem.run_bind,Result.andThen_ok,e,Try.isAgg3]
  cases h0:(a0 == b0)<;>cases h1:(a1 == b1)<;>simp_all
theorem qld:EqT prog 96 2:=by
  refine ⟨fun vs us b w h1 h2 h=>?_,by kernel_rfl⟩
  obtain ⟨a0,a1,rfl⟩:∃ a0 a1,vs=[a0,a1]:=by
    match vs,h1 with
    | [a0,a1],_=>exact ⟨a0,a1,rfl⟩
  obtain ⟨b0,b1,rfl⟩:∃ b0 b1,us=[b0,b1]:=by
    match us,h2 with
    | [b0,b1],_=>exact ⟨b0,b1,rfl⟩
  obtain ⟨k0,x0,y0,c0,rfl,rfl,g0,rfl⟩:=q1q h
  obtain ⟨k1,x1,y1,c1,rfl,rfl,g1,rfl⟩:=q1q g0
  obtain rfl:=q1p g1
  refine (qlc 9998 k0 k1 x0 x1 y0 y1 w).trans ?_
  simp [Bool.and_assoc]
theorem tys:TysOK prog tysT:=q1w (by kernel_rfl) (by
  intro p hp he
  simp only [tysT,List.mem_cons,List.not_mem_nil,or_false] at hp
  rcases hp with rfl | rfl | rfl | rfl | rfl | rfl | rfl | rfl | rfl | rfl | rfl | rfl | rfl | rfl | rfl | rfl | rfl | rfl | rfl | rfl | rfl | rfl | rfl | rfl | rfl | rfl | rfl | rfl | rfl | rfl | rfl | rfl | rfl | rfl | rfl | rfl | rfl | rfl | rfl | rfl | rfl | rfl
  all_goals first | exact qlb | exact qld | (cases he;done))
end Go.Proofs.Ytoakhncbmpdacaa

namespace Go.Proofs.Ytoakhncbmpdacaa
open Go.RowKit Go.Pel
theorem qle {k:IntKind} {a b:Int} (h:a=b):Ending.returned (.int k a)=.returned (.int k b):=by rw [h]
theorem qlf {a b:Bool} (h:a=b):Ending.returned (.bool a)=.returned (.bool b):=by rw [h]

set_option maxHeartbeats 400000 in
theorem qlg (n:Int) (w:World) (h:-9223372036854775808≤n∧n≤9223372036854775807) :
    Calls Try.prog 94 #[.int .i64 n] w fun e w'=>e=.returned (.int .u64 n.natAbs)∧∃ x,w'=ext w x:=by
  obtain ⟨h1,h2⟩:=h
  go_enter Try.func94,Try.ntmps94
  go_wp2
  all_goals (go_ret;exact ⟨qle (by first | (simp only [IntKind.wrap_u64];omega) | omega),ext_of (Bel.refl _)⟩)

set_option maxHeartbeats 400000 in
theorem qlh (n:Int) (w:World) (h:-9223372036854775808≤n∧n≤9223372036854775807) :
    Calls Try.prog 87 #[.int .i64 n] w fun e w'=>e=.returned (.int .u64 n.natAbs)∧∃ x,w'=ext w x:=by
  obtain ⟨h1,h2⟩:=h
  go_enter Try.func87,Try.ntmps87
  go_wp2
  all_goals (go_ret;exact ⟨qle (by first | (simp only [IntKind.wrap_u64];omega) | omega),ext_of (Bel.refl _)⟩)

set_option maxHeartbeats 400000 in
theorem qli (a b:Nat) (w:World) (ha:a<18446744073709551616) (hb:b<18446744073709551616) :
    Calls Try.prog 93 #[.int .u64 a,.int .u64 b] w fun e w'=>e=.returned (.int .u64 (Nat.gcd a b))∧∃ x,w'=ext w x:=by
  go_enter Try.func93,Try.ntmps93
  go_wp2
  go_loopw [0,1] (fun x y wr=>∃ x0 y0:Nat,x=.int .u64 x0∧y=.int .u64 y0∧x0<18446744073709551616∧y0<18446744073709551616∧Nat.gcd x0 y0=Nat.gcd a b∧∃ x,wr=ext w x) (fun _ y _=>(intOf y).toNat)
  case atStart=>exact ⟨a,b,rfl,rfl,ha,hb,rfl,ext_of (Bel.refl _)⟩
  case round =>
    obtain ⟨x0,y0,rfl,rfl,hx,hy,hg,x,rfl⟩:=hrel
    have HG:=Lib.hid hg;clear hg
    by_cases hlt:0<y0
    · go_wp2
      ((first | refine RegC.wp_region_ext1 (by kernel_rfl) (by kernel_rfl) ?_ | refine RegC.wp_region_ext0 (by kernel_rfl) (by kernel_rfl) ?_);(repeat (any_goals (first | go_big_quiet_step (fail) | (refine RegC.wpQuiet_split rfl rfl (fun hb=>?_) (fun hb=>?_)<;>simp only [hb]))));all_goals (refine wpQuiet_nil ?_;rintro _ ⟨nq,rfl⟩))
      go_wp2
      go_roundw
      case rel=>exact ⟨y0,x0 % y0,rfl,by simp,hy,Nat.lt_of_lt_of_le (Nat.mod_lt _ hlt) (by omega),by rw [← HG.out,Nat.gcd_comm x0 y0,Nat.gcd_rec y0 x0,Nat.gcd_comm],_,rfl⟩
      case measure=>simp [intOf];exact Nat.mod_lt _ hlt
    · go_wp2
      go_ret
      obtain rfl:y0=0:=by omega
      exact ⟨qle (by rw [← HG.out];simp),_,rfl⟩

set_option maxHeartbeats 400000 in
theorem qlj (a b:Nat) (w:World) (ha:a<18446744073709551616) (hb:b<18446744073709551616) :
    Calls Try.prog 86 #[.int .u64 a,.int .u64 b] w fun e w'=>e=.returned (.int .u64 (Nat.gcd a b))∧∃ x,w'=ext w x:=by
  go_enter Try.func86,Try.ntmps86
  go_wp2
  go_loopw [0,1] (fun x y wr=>∃ x0 y0:Nat,x=.int .u64 x0∧y=.int .u64 y0∧x0<18446744073709551616∧y0<18446744073709551616∧Nat.gcd x0 y0=Nat.gcd a b∧∃ x,wr=ext w x) (fun _ y _=>(intOf y).toNat)
  case atStart=>exact ⟨a,b,rfl,rfl,ha,hb,rfl,ext_of (Bel.refl _)⟩
  case round =>
    obtain ⟨x0,y0,rfl,rfl,hx,hy,hg,x,rfl⟩:=hrel
    have HG:=Lib.hid hg;clear hg
    by_cases hlt:0<y0
    · have hn : ((y0 : Int) != 0) = true := by rw [bne_iff_ne]; omega
      go_wp2
      ((first | refine RegC.wp_region_ext1 (by kernel_rfl) (by kernel_rfl) ?_ | refine RegC.wp_region_ext0 (by kernel_rfl) (by kernel_rfl) ?_);(repeat (any_goals (first | go_big_quiet_step (fail) | (refine RegC.wpQuiet_split rfl rfl (fun hb=>?_) (fun hb=>?_)<;>simp only [hb]))));all_goals (refine wpQuiet_nil ?_;rintro _ ⟨nq,rfl⟩))
      go_wp2
      go_roundw
      case rel=>exact ⟨y0,x0 % y0,rfl,by simp,hy,Nat.lt_of_lt_of_le (Nat.mod_lt _ hlt) (by omega),by rw [← HG.out,Nat.gcd_comm x0 y0,Nat.gcd_rec y0 x0,Nat.gcd_comm],_,rfl⟩
      case measure=>simp [intOf];exact Nat.mod_lt _ hlt
    · obtain rfl : y0 = 0 := by omega
      go_wp2
      go_ret
      exact ⟨qle (by rw [← HG.out];simp),_,rfl⟩

set_option maxHeartbeats 400000 in
theorem qlk (n d:Int) (w:World) (h:-9223372036854775808≤n∧n≤9223372036854775807) (h':-9223372036854775808≤d∧d≤9223372036854775807) :
    Calls Try.prog 73 #[.agg #[.int .i64 n,.int .i64 d]] w fun e w'=>e=.returned (.int .i64 (qeg n d))∧∃ x,w'=ext w x:=by
  obtain ⟨h1,h2⟩:=h
  obtain ⟨h3,h4⟩:=h'
  by_cases c1:d<1
  · have e1 := Lib.hid (qeh (n := n) c1)
    go_enter Try.func73,Try.ntmps73
    go_wp2
    ((first | refine RegC.wp_region_ext1 (by kernel_rfl) (by kernel_rfl) ?_ | refine RegC.wp_region_ext0 (by kernel_rfl) (by kernel_rfl) ?_);(repeat (any_goals (first | go_big_quiet_step (fail) | (refine RegC.wpQuiet_split rfl rfl (fun hb=>?_) (fun hb=>?_)<;>simp only [hb]))));all_goals (refine wpQuiet_nil ?_;rintro _ ⟨nq,rfl⟩))
    go_wp2
    go_ret
    exact ⟨qle e1.out.symm,ext_of (((Bel.refl _).alloc _).ext _)⟩
  · have c1' : decide (d < 1) = false := by simpa using c1
    by_cases c2:n=-9223372036854775808
    · subst c2
      go_enter Try.func73,Try.ntmps73
      go_wp2
      ((first | refine RegC.wp_region_ext1 (by kernel_rfl) (by kernel_rfl) ?_ | refine RegC.wp_region_ext0 (by kernel_rfl) (by kernel_rfl) ?_);(repeat (any_goals (first | go_big_quiet_step (fail) | (refine RegC.wpQuiet_split rfl rfl (fun hb=>?_) (fun hb=>?_)<;>simp only [hb]))));all_goals (refine wpQuiet_nil ?_;rintro _ ⟨nq,rfl⟩))
      go_wp2
      go_ret
      exact ⟨qle qei.symm,ext_of (((Bel.refl _).alloc _).ext _)⟩
    · have c2' : (n == -9223372036854775808) = false := by simpa using c2
      have E1:=Lib.hid (qej (n:=n) (d:=d) (by omega) c2)
      have E2:=Lib.hid (qek (n:=n) (d:=d))
      have E3:=Lib.hid (qel (n:=n) (d:=d) (by omega))
      obtain ⟨dn,rfl⟩:∃ dn:Nat,d=dn:=⟨d.toNat,by omega⟩
      go_enter Try.func73,Try.ntmps73
      go_wp2
      ((first | refine RegC.wp_region_ext1 (by kernel_rfl) (by kernel_rfl) ?_ | refine RegC.wp_region_ext0 (by kernel_rfl) (by kernel_rfl) ?_);(repeat (any_goals (first | go_big_quiet_step (first | (go_at_call 94;first | exact Calls.ext_of1 (qlg _ _ (by omega)) | exact Calls.ext_of (qlg _ _ (by omega))) | (go_at_call 93;first | exact Calls.ext_of1 (qli _ _ _ (by omega) (by omega)) | exact Calls.ext_of (qli _ _ _ (by omega) (by omega)))) | (refine RegC.wpQuiet_split rfl rfl (fun hb=>?_) (fun hb=>?_)<;>simp only [hb]))));all_goals (refine wpQuiet_nil ?_;rintro _ ⟨nq,rfl⟩))
      go_wp2
      · have hg : 1 < Nat.gcd dn n.natAbs := by omega
        go_ret
        exact ⟨qle (E2.out (by simp only [Int.toNat_natCast];omega)).symm,ext_of (((Bel.refl _).alloc _).ext _)⟩
      · have hg : ¬ 1 < Nat.gcd dn n.natAbs := by omega
        go_ret
        exact ⟨qle (E1.out (E3.out (by simpa using hg))).symm,ext_of (((Bel.refl _).alloc _).ext _)⟩


end Go.Proofs.Ytoakhncbmpdacaa

namespace Go.Proofs.Ytoakhncbmpdacaa
open Go.RowKit Go.Pel
set_option maxHeartbeats 400000 in
theorem qll (n d:Int) (w:World) (hn:-9223372036854775808≤n∧n≤9223372036854775807) (hd:-9223372036854775808≤d∧d≤9223372036854775807) :
    Calls Try.prog 68 #[.agg #[.int .i64 n,.int .i64 d]] w fun e w'=>e=.returned (.int .i64 (qeg n d))∧∃ x,w'=ext w x:=by
  obtain ⟨hn1,hn2⟩:=hn;obtain ⟨hd1,hd2⟩:=hd
  by_cases c1:d<1
  · have e1 := Lib.hid (qeh (n := n) c1)
    go_enter Try.func68,Try.ntmps68
    go_wp2
    ((first | refine RegC.wp_region_ext1 (by kernel_rfl) (by kernel_rfl) ?_ | refine RegC.wp_region_ext0 (by kernel_rfl) (by kernel_rfl) ?_);(repeat (any_goals (first | go_big_quiet_step (fail) | (refine RegC.wpQuiet_split rfl rfl (fun hb=>?_) (fun hb=>?_)<;>simp only [hb]))));all_goals (refine wpQuiet_nil ?_;rintro _ ⟨nq,rfl⟩))
    go_wp2
    (go_ret;exact ⟨qle (by exact e1.out.symm),ext_of (by (try simp only [qcy]);repeat (first | exact Bel.refl _ | assumption | refine qd7 ?_ _ | refine qd8 ?_ _ | refine Bel.ext ?_ _ | refine Bel.alloc ?_ _ | refine Bel.drewN ?_ _))⟩)
  · have c1' : decide (d < 1) = false := by simpa using c1
    by_cases c2:n=-9223372036854775808
    · subst c2
      go_enter Try.func68,Try.ntmps68
      go_wp2
      ((first | refine RegC.wp_region_ext1 (by kernel_rfl) (by kernel_rfl) ?_ | refine RegC.wp_region_ext0 (by kernel_rfl) (by kernel_rfl) ?_);(repeat (any_goals (first | go_big_quiet_step (fail) | (refine RegC.wpQuiet_split rfl rfl (fun hb=>?_) (fun hb=>?_)<;>simp only [hb]))));all_goals (refine wpQuiet_nil ?_;rintro _ ⟨nq,rfl⟩))
      go_wp2
      (go_ret;exact ⟨qle (by exact qei.symm),ext_of (by (try simp only [qcy]);repeat (first | exact Bel.refl _ | assumption | refine qd7 ?_ _ | refine qd8 ?_ _ | refine Bel.ext ?_ _ | refine Bel.alloc ?_ _ | refine Bel.drewN ?_ _))⟩)
    · have c2' : (n == -9223372036854775808) = false := by simpa using c2
      have E1:=Lib.hid (qej (n:=n) (d:=d) (by omega) c2)
      have E2:=Lib.hid (qek (n:=n) (d:=d))
      obtain ⟨dn,rfl⟩:∃ dn:Nat,d=dn:=⟨d.toNat,by omega⟩
      go_enter Try.func68,Try.ntmps68
      go_wp2
      ((first | refine RegC.wp_region_ext1 (by kernel_rfl) (by kernel_rfl) ?_ | refine RegC.wp_region_ext0 (by kernel_rfl) (by kernel_rfl) ?_);(repeat (any_goals (first | go_big_quiet_step (first | (go_at_call 87;first | exact Calls.ext_of1 (qlh _ _ (by omega)) | exact Calls.ext_of (qlh _ _ (by omega))) | (go_at_call 86;first | exact Calls.ext_of1 (qlj _ _ _ (by omega) (by omega)) | exact Calls.ext_of (qlj _ _ _ (by omega) (by omega)))) | (refine RegC.wpQuiet_split rfl rfl (fun hb=>?_) (fun hb=>?_)<;>simp only [hb]))));all_goals (refine wpQuiet_nil ?_;rintro _ ⟨nq,rfl⟩))
      go_wp2
      all_goals (go_ret;exact ⟨qle (by first | exact (E2.out (by rw [Int.toNat_natCast,Nat.gcd_comm];(first | omega | (simp only [bne_iff_ne,ne_eq,bne_eq_false_iff_eq,beq_iff_eq,beq_eq_false_iff_ne,decide_eq_true_eq,decide_eq_false_iff_not,Bool.or_eq_true,Bool.and_eq_true,Bool.not_eq_true,Bool.not_eq_true',Bool.not_eq_false'] at *;omega)))).symm | exact (E1.out (by rw [Int.toNat_natCast,Nat.gcd_comm];(first | omega | (simp only [bne_iff_ne,ne_eq,bne_eq_false_iff_eq,beq_iff_eq,beq_eq_false_iff_ne,decide_eq_true_eq,decide_eq_false_iff_not,Bool.or_eq_true,Bool.and_eq_true,Bool.not_eq_true,Bool.not_eq_true',Bool.not_eq_false'] at *;omega)))).symm),ext_of (by (try simp only [qcy]);repeat (first | exact Bel.refl _ | assumption | refine qd7 ?_ _ | refine qd8 ?_ _ | refine Bel.ext ?_ _ | refine Bel.alloc ?_ _ | refine Bel.drewN ?_ _))⟩)


set_option maxHeartbeats 400000 in
theorem qlm (n:Int) (w:World):Calls Try.prog 102 #[.int .i64 n] w fun e w'=>e=.returned (.bool (far n))∧∃ x,w'=ext w x:=by
  go_enter Try.func102,Try.ntmps102
  go_wp2
  all_goals (go_ret;exact ⟨qlf (by first | exact (qf1 _).symm | (rw [qf1];simp [*];done) | (rw [qf1];simp;omega)),ext_of (by (try simp only [qcy]);repeat (first | exact Bel.refl _ | assumption | refine qd7 ?_ _ | refine qd8 ?_ _ | refine Bel.ext ?_ _ | refine Bel.alloc ?_ _ | refine Bel.drewN ?_ _))⟩)

set_option maxHeartbeats 400000 in
theorem qln (i a b:Int) (w:World) :
    Calls Try.prog 92 #[.agg #[.int .i64 i,.int .i64 a,.int .i64 b]] w fun e w'=>e=.returned (.int .i64 (qeu i a b))∧∃ x,w'=ext w x:=by
  have E1:=Lib.hid (qev (i:=i) (a:=a) (b:=b))
  have E2:=Lib.hid (qew (i:=i) (a:=a) (b:=b))
  go_enter Try.func92,Try.ntmps92
  go_wp2_with (first | (go_at_call 102;refine (qlm _ _).mono ?_;rintro e _ ⟨rfl,nx,rfl⟩))
  all_goals (go_ret;exact ⟨qle (by (try simp only [qf4,qf5] at *);first | exact (E2.out (by omega)).symm | exact (E1.out (by omega)).symm),ext_of (by (try simp only [qcy]);repeat (first | exact Bel.refl _ | assumption | refine qd7 ?_ _ | refine qd8 ?_ _ | refine Bel.ext ?_ _ | refine Bel.alloc ?_ _ | refine Bel.drewN ?_ _))⟩)

set_option maxHeartbeats 400000 in
theorem qlo (i a b:Int) (w:World) :
    Calls Try.prog 85 #[.agg #[.int .i64 i,.int .i64 a,.int .i64 b]] w fun e w'=>e=.returned (.int .i64 (qeu i a b))∧∃ x,w'=ext w x:=by
  have E1:=Lib.hid (qev (i:=i) (a:=a) (b:=b))
  have E2:=Lib.hid (qew (i:=i) (a:=a) (b:=b))
  go_enter Try.func85,Try.ntmps85
  go_wp2
  all_goals (go_ret;exact ⟨qle (by first | exact (E1.out (by omega)).symm | exact (E2.out (by omega)).symm),ext_of (by (try simp only [qcy]);repeat (first | exact Bel.refl _ | assumption | refine qd7 ?_ _ | refine qd8 ?_ _ | refine Bel.ext ?_ _ | refine Bel.alloc ?_ _ | refine Bel.drewN ?_ _))⟩)
end Go.Proofs.Ytoakhncbmpdacaa

namespace Go.Proofs.Ytoakhncbmpdacaa
open Go.RowKit Go.Pel



end Go.Proofs.Ytoakhncbmpdacaa

namespace Go.Proofs.Ytoakhncbmpdacaa
open Go.RowKit Go.Pel
end Go.Proofs.Ytoakhncbmpdacaa

namespace Go.Pel
open Go Go.RowKit
def un (a:Int):Nat:=(a % 18446744073709551616).toNat
theorem qlq (a:Int):un a<18446744073709551616:=by unfold un;omega
theorem qlr (a:Int):((un a:Nat):Int)=a % 18446744073709551616:=by unfold un;omega
theorem qls {a:Int} (h:0≤a) (h2:a<9223372036854775808):((un a:Nat):Int)=a:=by rw [qlr];omega
theorem qlt {a:Int} (h:a<0) (h2:-9223372036854775808≤a):((un a:Nat):Int)=a+18446744073709551616:=by rw [qlr];omega
theorem qlu (a b:Int) (ha:-9223372036854775808≤a∧a<9223372036854775808) (hb:-9223372036854775808≤b∧b<9223372036854775808) :
    ((un a*un b:Nat):Int)=a*b+18446744073709551616*((if a<0 then b else 0)+(if b<0 then a else 0))+(if a<0∧b<0 then 340282366920938463463374607431768211456 else 0):=by
  have e:((un a*un b:Nat):Int)=(un a:Int)*(un b:Int):=by simp
  rw [e]
  by_cases h1:a<0<;>by_cases h2:b<0
  · rw [qlt h1 ha.1, qlt h2 hb.1]
    simp only [h1,h2,if_true,and_self,Int.add_mul,Int.mul_add]
    have:b*18446744073709551616=18446744073709551616*b:=Int.mul_comm _ _
    omega
  · rw [qlt h1 ha.1, qls (by omega) hb.2]
    simp only [h1,h2,if_true,if_false,and_false,Int.add_mul,Int.mul_add]
    omega
  · rw [qls (by omega) ha.2, qlt h2 hb.1]
    simp only [h1,h2,if_true,if_false,false_and,Int.add_mul,Int.mul_add]
    omega
  · rw [qls (by omega) ha.2, qls (by omega) hb.2]
    simp only [h1,h2,if_false,false_and]
    omega
def hiOf (a b:Int):Int:=wrap64 (wrap64 (wrap64 ((un a*un b / 18446744073709551616:Nat):Int) - (if a<0 then b else 0)) - (if b<0 then a else 0))
theorem qlv (a b:Int) (ha:-9223372036854775808≤a∧a<9223372036854775808) (hb:-9223372036854775808≤b∧b<9223372036854775808) (hP:-77371252455336267181195264≤a*b∧a*b≤77371252455336267181195264):hiOf a b=a*b / 18446744073709551616:=by
  have h:=qlu a b ha hb
  unfold hiOf
  generalize un a*un b=U at h
  generalize a*b=P at h hP ⊢
  unfold wrap64
  by_cases h1:a<0<;>by_cases h2:b<0<;>simp only [h1,h2,if_true,if_false,and_true,and_false,and_self,Int.sub_zero,Int.add_zero,Int.zero_add,Int.mul_zero] at h ⊢ <;> omega
theorem qlw (a b:Int) (ha:-9223372036854775808≤a∧a<9223372036854775808) (hb:-9223372036854775808≤b∧b<9223372036854775808):((un a*un b % 18446744073709551616:Nat):Int)=a*b % 18446744073709551616:=by
  have h:=qlu a b ha hb
  generalize un a*un b=U at h ⊢
  generalize a*b=P at h ⊢
  by_cases h1:a<0<;>by_cases h2:b<0<;>simp only [h1,h2,if_true,if_false,and_true,and_false,and_self,Int.add_zero,Int.zero_add,Int.mul_zero] at h<;>omega
def farD (p q:Pt) (n d:Int):Int:=(p.a - q.a)*d+(p.b - q.b)*n
def qlx (p q:Pt) (n d:Int):Bool:=if farD p q n d≠0 then decide (0<farD p q n d) else if p.b≠q.b then decide (q.b<p.b) else decide (p.id<q.id)
def cmpZ (a b:Int):Int:=if a<b then -1 else if b<a then 1 else 0
theorem qly {a b:Int} (h:a<b):cmpZ a b=-1:=if_pos h
theorem qlz {a b:Int} (h:b<a):cmpZ a b=1:=by unfold cmpZ;rw [if_neg (by omega),if_pos h]
theorem qm0 {a b:Int} (h:a=b):cmpZ a b=0:=by unfold cmpZ;rw [if_neg (by omega),if_neg (by omega)]
def orZ (x y:Int):Int:=if x≠0 then x else y
theorem qm1 {x y:Int} (h:x=0):orZ x y=y:=if_neg (by simpa using h)
theorem qm2 {x y:Int} (h:x≠0):orZ x y=x:=if_pos h
def cmpC (p q:Pt) (n d:Int):Int:=if farD p q n d<0 then -1 else if 0<farD p q n d then 1 else if cmpZ p.b q.b≠0 then cmpZ p.b q.b else cmpZ q.id p.id
theorem qm3 {p q:Pt} {n d:Int} (h:farD p q n d<0):cmpC p q n d=-1:=if_pos h
theorem qm4 {p q:Pt} {n d:Int} (h:0<farD p q n d):cmpC p q n d=1:=by unfold cmpC;rw [if_neg (by omega),if_pos h]
theorem qm5 {p q:Pt} {n d:Int} (h:farD p q n d=0) (hb:p.b≠q.b):cmpC p q n d=cmpZ p.b q.b:=by
  unfold cmpC;rw [if_neg (by omega),if_neg (by omega),if_pos]
  rcases Int.lt_or_gt_of_ne hb with h1 | h1
  · rw [qly h1];decide
  · rw [qlz h1];decide
theorem qm6 {p q:Pt} {n d:Int} (h:farD p q n d=0) (hb:p.b=q.b):cmpC p q n d=cmpZ q.id p.id:=by
  unfold cmpC;rw [if_neg (by omega),if_neg (by omega),if_neg (by rw [qm0 hb];decide)]
theorem qm7 (p q:Pt) (n d:Int):decide (0<cmpC p q n d)=qlx p q n d:=by
  unfold qlx
  rcases (by omega:farD p q n d<0∨farD p q n d=0∨0<farD p q n d) with h | h | h
  · rw [qm3 h,if_pos (by omega)];simp;omega
  · rw [if_neg (by omega)]
    by_cases hb:p.b=q.b
    · rw [qm6 h hb, if_neg (by omega)]
      rcases (by omega:p.id<q.id∨q.id<p.id∨p.id=q.id) with h2 | h2 | h2
      · rw [qlz h2];simp;omega
      · rw [qly h2];simp;omega
      · rw [qm0 h2.symm];simp;omega
    · rw [qm5 h hb, if_pos hb]
      rcases (by omega:p.b<q.b∨q.b<p.b) with h1 | h1
      · rw [qly h1];simp;omega
      · rw [qlz h1];simp;omega
  · rw [qm4 h,if_pos (by omega)];simp;omega
def qm8 (p q:Pt) (n d:Int):Int:=if p.chk=0∧q.chk=0∧qeg n d=0 then (if p.id=q.id then 2 else 0) else 8
theorem qm9 {p q:Pt} {n d:Int} (h:¬ (p.chk=0∧q.chk=0∧qeg n d=0)):qm8 p q n d=8:=if_neg h
theorem qma {p q:Pt} {n d:Int} (h:p.chk=0∧q.chk=0∧qeg n d=0) (hi:p.id=q.id):qm8 p q n d=2:=by unfold qm8;rw [if_pos h,if_pos hi]
theorem qmb {p q:Pt} {n d:Int} (h:p.chk=0∧q.chk=0∧qeg n d=0) (hi:p.id≠q.id):qm8 p q n d=0:=by unfold qm8;rw [if_pos h,if_neg hi]
theorem qmc {p q:Pt} {n d:Int} (h:qm8 p q n d=0):p.chk=0∧q.chk=0∧qeg n d=0∧p.id≠q.id:=by
  unfold qm8 at h
  split at h
  · rename_i h1
    split at h
    · omega
    · exact ⟨h1.1,h1.2.1,h1.2.2,‹_›⟩
  · omega
def qmd (p q:Pt) (n d:Int):Bool×Int:=if qm8 p q n d=0 then (qlx p q n d,0) else (false,qm8 p q n d)
end Go.Pel

namespace Go.Proofs
open Go.Shelf
def Try.lays264_ren:Go.Shelf.Ren:=⟨fun | 264=>103 | n=>n,fun | 53=>131 | 46=>125 | n=>n,fun | n=>n⟩
theorem Try.lays264:Go.Proofs.Lays.n264 Try.prog Try.lays264_ren:={
  mixed:=by kernel_rfl
  f264:=Try.func103.trans (congrArg some (by kernel_rfl))
  t46:=Try.underlying125
  a46:=Try.isAgg125
  z46:=Try.sizeOf125
  v46:=Try.zeroValue125
  t53:=Try.underlying131
  a53:=Try.isAgg131
  z53:=Try.sizeOf131
  v53:=Try.zeroValue131 }
open Go.RowKit Go.Lib in
theorem Try.bits_Mul64 (x y:Nat) (hx:x<18446744073709551616) (hy:y<18446744073709551616) (w:World) :
    Calls Try.prog 103 #[.int .u64 x,.int .u64 y] w fun e w'=>e=.returned (.tuple #[.int .u64 ((x*y / 18446744073709551616:Nat):Int),.int .u64 ((x*y % 18446744073709551616:Nat):Int)])∧w'=w:=Any.bits_Mul64 Try.lays264 x y hx hy w
end Go.Proofs

namespace Go.Proofs.Ytoakhncbmpdacaa
open Go.RowKit Go.Pel
theorem qme (x y c:Nat) (hx:x<18446744073709551616) (hy:y<18446744073709551616) (hc:c≤1) (w:World) :
    (callFunc 104 #[.int .u64 x,.int .u64 y,.int .u64 c]).run Try.prog w =
      .ok (.value (.tuple #[.int .u64 (((x+y+c) % 18446744073709551616:Nat):Int),.int .u64 (((x+y+c) / 18446744073709551616:Nat):Int)])) w:=by
  rw [run_callFunc_extern Try.func104 (by kernel_rfl) (by kernel_rfl) (by kernel_rfl) (e:=add64Entry) (by kernel_rfl),run_add64 x y c (by omega) (by omega) (by omega) (by omega)]
  simp only [Result.andThen]
  congr 5<;>omega
theorem qmf {a b Z:Int} {H:Nat} (hH:un a*un b / 18446744073709551616=H) (hZ:hiOf a b=Z):(decide (a<0)=true∧decide (b<0)=true∧wrap64 (wrap64 (wrap64 (H:Int) - b) - a)=Z)∨(decide (a<0)=true∧decide (b<0)=false∧wrap64 (wrap64 (H:Int) - b)=Z)∨(decide (a<0)=false∧decide (b<0)=true∧wrap64 (wrap64 (H:Int) - a)=Z)∨(decide (a<0)=false∧decide (b<0)=false∧wrap64 (H:Int)=Z):=by
  have w2:∀ x,wrap64 (wrap64 x)=wrap64 x:=fun x=>by unfold wrap64;omega
  unfold hiOf at hZ
  rw [hH] at hZ
  by_cases h1:a<0<;>by_cases h2:b<0<;>simp only [h1,h2,if_true,if_false,Int.sub_zero,w2] at hZ<;>simp [h1,h2,hZ]
theorem qmg (a b:Int) (H L:Nat) (hH:un a*un b / 18446744073709551616=H) (hL:un a*un b % 18446744073709551616=L) (w:World) :
    Calls Try.prog 103 #[.int .u64 (IntKind.u64.wrap a),.int .u64 (IntKind.u64.wrap b)] w fun e w'=>e=.returned (.tuple #[.int .u64 (H:Int),.int .u64 (L:Int)])∧∃ x,w'=ext w x:=by
  have h:=Try.bits_Mul64 (un a) (un b) (qlq a) (qlq b) w
  rw [hH,hL] at h
  have e1:((un a:Nat):Int)=IntKind.u64.wrap a:=by rw [qlr,IntKind.wrap_u64]
  have e2:((un b:Nat):Int)=IntKind.u64.wrap b:=by rw [qlr,IntKind.wrap_u64]
  rw [e1,e2] at h
  exact h.mono fun _ _ ⟨he,hw⟩=>⟨he,ext_of (hw ▸ Bel.refl _)⟩
theorem qmh (L:Nat) (hL:L<18446744073709551616) (w:World):(callFunc 104 #[.int .u64 0,.int .u64 (L:Int),.int .u64 0]).run Try.prog w=.ok (.value (.tuple #[.int .u64 (L:Int),.int .u64 0])) w:=by
  have h:=qme 0 L 0 (by omega) hL (by omega) w
  have e1:(0+L+0) % 18446744073709551616=L:=by omega
  have e2:(0+L+0) / 18446744073709551616=0:=by omega
  rw [e1,e2] at h
  exact h
set_option maxRecDepth 10000 in
set_option maxHeartbeats 8000000 in
theorem qmi (a b c d:Int) (w:World) (ha:-9223372036854775808≤a∧a<9223372036854775808) (hb:-9223372036854775808≤b∧b<9223372036854775808) (hc:-9223372036854775808≤c∧c<9223372036854775808) (hd:-9223372036854775808≤d∧d<9223372036854775808)
    (hab:-38685626227668133590597632≤a*b∧a*b≤38685626227668133590597632) (hcd:-38685626227668133590597632≤c*d∧c*d≤38685626227668133590597632) :
    Calls Try.prog 95 #[.agg #[.int .i64 a,.int .i64 b,.int .i64 c,.int .i64 d]] w fun e w'=>e=.returned (.agg #[.int .i64 ((a*b+c*d) / 18446744073709551616),.int .u64 ((a*b+c*d) % 18446744073709551616)])∧∃ x,w'=ext w x:=by
  have i0:∀ w,(Instr.index 143 (.agg #[.int .i64 a,.int .i64 b,.int .i64 c,.int .i64 d]) (.int .i64 0)).run Try.prog w=.ok (.agg #[.int .i64 a,.int .i64 b]) w:=fun _=>by kernel_rfl
  have i1:∀ w,(Instr.index 143 (.agg #[.int .i64 a,.int .i64 b,.int .i64 c,.int .i64 d]) (.int .i64 1)).run Try.prog w=.ok (.agg #[.int .i64 c,.int .i64 d]) w:=fun _=>by kernel_rfl
  obtain ⟨H1,hH1⟩:∃ H,un a*un b / 18446744073709551616=H:=⟨_,rfl⟩
  obtain ⟨L1,hL1⟩:∃ L,un a*un b % 18446744073709551616=L:=⟨_,rfl⟩
  obtain ⟨H2,hH2⟩:∃ H,un c*un d / 18446744073709551616=H:=⟨_,rfl⟩
  obtain ⟨L2,hL2⟩:∃ L,un c*un d % 18446744073709551616=L:=⟨_,rfl⟩
  have q1:=Lib.hid (qmg a b H1 L1 hH1 hL1)
  have q2:=Lib.hid (qmg c d H2 L2 hH2 hL2)
  have a1:=qmh L1 (by omega)
  have L1b:L1<18446744073709551616:=by omega
  have L2b:L2<18446744073709551616:=by omega
  obtain ⟨S,hS⟩:∃ S,(L1+L2+0) % 18446744073709551616=S:=⟨_,rfl⟩
  obtain ⟨C,hC⟩:∃ C,(L1+L2+0) / 18446744073709551616=C:=⟨_,rfl⟩
  have a2:∀ w,(callFunc 104 #[.int .u64 (L1:Int),.int .u64 (L2:Int),.int .u64 0]).run Try.prog w=.ok (.value (.tuple #[.int .u64 (S:Int),.int .u64 (C:Int)])) w:=fun w=>by
    have h:=qme L1 L2 0 L1b L2b (by omega) w
    rw [hS,hC] at h;exact h
  obtain ⟨Z1,hZ1⟩:∃ Z,hiOf a b=Z:=⟨_,rfl⟩
  obtain ⟨Z2,hZ2⟩:∃ Z,hiOf c d=Z:=⟨_,rfl⟩
  have z1:Z1=a*b / 18446744073709551616:=by rw [← hZ1];exact qlv a b ha hb (by omega)
  have z2:Z2=c*d / 18446744073709551616:=by rw [← hZ2];exact qlv c d hc hd (by omega)
  have l1:=qlw a b ha hb
  have l2:=qlw c d hc hd
  rw [hL1] at l1
  rw [hL2] at l2
  have k1:=qmf hH1 hZ1
  have k2:=qmf hH2 hZ2
  have w1:wrap64 Z1=Z1:=by unfold wrap64;omega
  have hfin:Hid (wrap64 (wrap64 (Z1+Z2)+wrap64 (C:Int))=(a*b+c*d) / 18446744073709551616∧(S:Int)=(a*b+c*d) % 18446744073709551616):=Lib.hid (by
    have hs:(S:Int)=((L1:Int)+L2) % 18446744073709551616:=by omega
    have hcc:(C:Int)=((L1:Int)+L2) / 18446744073709551616:=by omega
    generalize a*b=P1 at *
    generalize c*d=P2 at *
    unfold wrap64
    constructor<;>omega)
  have HF:=hfin
  clear hH1 hL1 hH2 hL2 hS hC hZ1 hZ2 z1 z2 l1 l2 hab hcd hfin L1b L2b
  obtain ⟨ha1,ha2⟩:=ha;obtain ⟨hb1,hb2⟩:=hb;obtain ⟨hc1,hc2⟩:=hc;obtain ⟨hd1,hd2⟩:=hd
  rcases k1 with ⟨sa,sb,e1⟩ | ⟨sa,sb,e1⟩ | ⟨sa,sb,e1⟩ | ⟨sa,sb,e1⟩
  all_goals
    rcases k2 with ⟨sc,sd,e2⟩ | ⟨sc,sd,e2⟩ | ⟨sc,sd,e2⟩ | ⟨sc,sd,e2⟩
  all_goals
    go_enter Try.func95,Try.ntmps95
    go_wp2
    refine wp_loop_rounds 3 ?_
    rw [rounds_succ]
    go_wp2_with ((go_at_call 103;refine (q1.out _).mono ?_;rintro e _ ⟨rfl,y1,rfl⟩))
    rw [rounds_succ]
    go_wp2_with ((go_at_call 103;refine (q2.out _).mono ?_;rintro e _ ⟨rfl,y2,rfl⟩))
    rw [rounds_succ]
    go_wp2
    exact bodyPost_ret (v:=.agg #[.int .i64 (wrap64 (wrap64 (Z1+Z2)+wrap64 (C:Int))),.int .u64 (S:Int)]) (by simp [results,Try.results95,go_sem]) rfl ⟨by rw [HF.out.1,HF.out.2],ext_of (by (try simp only [qcy]);repeat (first | exact Bel.refl _ | assumption | refine qd7 ?_ _ | refine qd8 ?_ _ | refine Bel.ext ?_ _ | refine Bel.alloc ?_ _ | refine Bel.drewN ?_ _))⟩
end Go.Proofs.Ytoakhncbmpdacaa

namespace Go.Proofs.Ytoakhncbmpdacaa
open Go.RowKit Go.Pel
def cmpI (a b:Int):Int:=if a<b then -1 else if b<a then 1 else 0
theorem qmj {a b:Int} (h:a<b):cmpI a b=-1:=if_pos h
theorem qmk {a b:Int} (h:b<a):cmpI a b=1:=by unfold cmpI;rw [if_neg (by omega),if_pos h]
theorem qml {a b:Int} (h:a=b):cmpI a b=0:=by unfold cmpI;rw [if_neg (by omega),if_neg (by omega)]
set_option maxHeartbeats 400000 in
theorem qmm (a b:Int) (w:World):Calls Try.prog 63 #[.int .i64 a,.int .i64 b] w fun e w'=>e=.returned (.int .i64 (cmpI a b))∧∃ x,w'=ext w x:=by
  rcases (by omega:a<b∨b<a∨a=b) with h | h | h
  · have H := Lib.hid (qmj h)
    have h2:¬ b<a:=by omega
    go_enter Try.func63,Try.ntmps63
    go_wp2
    (go_ret;exact ⟨qle (by exact H.out.symm),ext_of (by (try simp only [qcy]);repeat (first | exact Bel.refl _ | assumption | refine qd7 ?_ _ | refine qd8 ?_ _ | refine Bel.ext ?_ _ | refine Bel.alloc ?_ _ | refine Bel.drewN ?_ _))⟩)
  · have H := Lib.hid (qmk h)
    have h2:¬ a<b:=by omega
    go_enter Try.func63,Try.ntmps63
    go_wp2
    (go_ret;exact ⟨qle (by exact H.out.symm),ext_of (by (try simp only [qcy]);repeat (first | exact Bel.refl _ | assumption | refine qd7 ?_ _ | refine qd8 ?_ _ | refine Bel.ext ?_ _ | refine Bel.alloc ?_ _ | refine Bel.drewN ?_ _))⟩)
  · have H := Lib.hid (qml h)
    have h2:¬ a<b:=by omega
    have h3:¬ b<a:=by omega
    clear h
    go_enter Try.func63,Try.ntmps63
    go_wp2
    (go_ret;exact ⟨qle (by exact H.out.symm),ext_of (by (try simp only [qcy]);repeat (first | exact Bel.refl _ | assumption | refine qd7 ?_ _ | refine qd8 ?_ _ | refine Bel.ext ?_ _ | refine Bel.alloc ?_ _ | refine Bel.drewN ?_ _))⟩)
end Go.Proofs.Ytoakhncbmpdacaa

namespace Go.Proofs.Ytoakhncbmpdacaa
open Go.RowKit Go.Pel
set_option maxHeartbeats 400000 in
theorem qmn (a b:Int) (w:World):Calls Try.prog 63 #[.int .i64 a,.int .i64 b] w fun e w'=>e=.returned (.int .i64 (cmpZ a b))∧∃ x,w'=ext w x:=qmm a b w
set_option maxHeartbeats 400000 in
theorem qmo (a b:Int) (w:World):Calls Try.prog 97 #[.int .i64 a,.int .i64 b] w fun e w'=>e=.returned (.int .i64 (cmpZ a b))∧∃ x,w'=ext w x:=by
  rcases (by omega:a<b∨b<a∨a=b) with h | h | h
  · have H := Lib.hid (qly h)
    have h2:¬ b<a:=by omega
    go_enter Try.func97,Try.ntmps97
    go_wp2
    (go_ret;exact ⟨qle (by exact H.out.symm),ext_of (by (try simp only [qcy]);repeat (first | exact Bel.refl _ | assumption | refine qd7 ?_ _ | refine qd8 ?_ _ | refine Bel.ext ?_ _ | refine Bel.alloc ?_ _ | refine Bel.drewN ?_ _))⟩)
  · have H := Lib.hid (qlz h)
    have h2:¬ a<b:=by omega
    go_enter Try.func97,Try.ntmps97
    go_wp2
    (go_ret;exact ⟨qle (by exact H.out.symm),ext_of (by (try simp only [qcy]);repeat (first | exact Bel.refl _ | assumption | refine qd7 ?_ _ | refine qd8 ?_ _ | refine Bel.ext ?_ _ | refine Bel.alloc ?_ _ | refine Bel.drewN ?_ _))⟩)
  · have H := Lib.hid (qm0 h)
    have h2:¬ a<b:=by omega
    have h3:¬ b<a:=by omega
    clear h
    go_enter Try.func97,Try.ntmps97
    go_wp2
    (go_ret;exact ⟨qle (by exact H.out.symm),ext_of (by (try simp only [qcy]);repeat (first | exact Bel.refl _ | assumption | refine qd7 ?_ _ | refine qd8 ?_ _ | refine Bel.ext ?_ _ | refine Bel.alloc ?_ _ | refine Bel.drewN ?_ _))⟩)
set_option maxHeartbeats 1000000 in
theorem qmp (x y:Int) (g:Nat) (w:World) (hg:g<w.heap.size) (h0:w.cell? ⟨g,0,none⟩=some (.int .i64 x)) (h1:w.cell? ⟨g,1,none⟩=some (.int .i64 y)) :
    Calls Try.prog 96 #[.slice (some ⟨g,0,none⟩) 2 2] w fun e w'=>e=.returned (.int .i64 (orZ x y))∧∃ x,w'=ext w x:=by
  by_cases hx:x=0
  · have HR : Hid (orZ x y = y) := Lib.hid (qm1 hx)
    have hx1:(x == 0)=true:=by simpa using hx
    have hx2:(x != 0)=false:=by simpa using hx
    clear hx
    by_cases hy:y=0
    · have HY := Lib.hid hy
      have hy1:(y == 0)=true:=by simpa using hy
      have hy2:(y != 0)=false:=by simpa using hy
      clear hy
      go_enter Try.func96,Try.ntmps96
      go_wp2
      refine wp_loop_rounds 3 ?_
      rw [rounds_succ]
      go_wp2
      rw [rounds_succ]
      go_wp2
      rw [rounds_succ]
      go_wp2
      (go_ret;exact ⟨qle (by rw [HR.out,HY.out]),ext_of (by (try simp only [qcy]);repeat (first | exact Bel.refl _ | assumption | refine qd7 ?_ _ | refine qd8 ?_ _ | refine Bel.ext ?_ _ | refine Bel.alloc ?_ _ | refine Bel.drewN ?_ _))⟩)
    · have hy1 : (y == 0) = false := by simpa using hy
      have hy2:(y != 0)=true:=by simpa using hy
      clear hy
      go_enter Try.func96,Try.ntmps96
      go_wp2
      refine wp_loop_rounds 3 ?_
      rw [rounds_succ]
      go_wp2
      rw [rounds_succ]
      go_wp2
      (go_ret;exact ⟨qle (by exact HR.out.symm),ext_of (by (try simp only [qcy]);repeat (first | exact Bel.refl _ | assumption | refine qd7 ?_ _ | refine qd8 ?_ _ | refine Bel.ext ?_ _ | refine Bel.alloc ?_ _ | refine Bel.drewN ?_ _))⟩)
  · have HR : Hid (orZ x y = x) := Lib.hid (qm2 hx)
    have hx1:(x == 0)=false:=by simpa using hx
    have hx2:(x != 0)=true:=by simpa using hx
    clear hx
    go_enter Try.func96,Try.ntmps96
    go_wp2
    refine wp_loop_rounds 3 ?_
    rw [rounds_succ]
    go_wp2
    (go_ret;exact ⟨qle (by exact HR.out.symm),ext_of (by (try simp only [qcy]);repeat (first | exact Bel.refl _ | assumption | refine qd7 ?_ _ | refine qd8 ?_ _ | refine Bel.ext ?_ _ | refine Bel.alloc ?_ _ | refine Bel.drewN ?_ _))⟩)
structure CmpIn (p q:Pt) (n d:Int):Prop where
  pa:-1048576≤p.a∧p.a≤1048576
  pb:-1048576≤p.b∧p.b≤1048576
  qa:-1048576≤q.a∧q.a≤1048576
  qb:-1048576≤q.b∧q.b≤1048576
  n:-9223372036854775807≤n∧n≤9223372036854775807
  d:1≤d∧d≤9223372036854775807
theorem qmq (a b A B:Int) (ha:-A≤a∧a≤A) (hb:-B≤b∧b≤B):-(A*B)≤a*b∧a*b≤A*B:=by
  have hA:0≤A:=by omega
  have hB:0≤B:=by omega
  have h1:0≤(A - a)*(B+b):=Int.mul_nonneg (by omega) (by omega)
  have h2:0≤(A+a)*(B - b):=Int.mul_nonneg (by omega) (by omega)
  have h3:0≤(A - a)*(B - b):=Int.mul_nonneg (by omega) (by omega)
  have h4:0≤(A+a)*(B+b):=Int.mul_nonneg (by omega) (by omega)
  simp only [Int.sub_mul,Int.add_mul,Int.mul_sub,Int.mul_add] at h1 h2 h3 h4
  omega
theorem qmr {p q:Pt} {n d:Int} (h:CmpIn p q n d):(-38685626227668133590597632≤(p.a - q.a)*d∧(p.a - q.a)*d≤38685626227668133590597632)∧(-38685626227668133590597632≤(p.b - q.b)*n∧(p.b - q.b)*n≤38685626227668133590597632):=by
  obtain ⟨h1,h2,h3,h4,h5,h6⟩:=h
  have k1:=qmq (p.a - q.a) d 2097152 9223372036854775807 (by omega) (by omega)
  have k2:=qmq (p.b - q.b) n 2097152 9223372036854775807 (by omega) (by omega)
  omega
theorem qms (h l h' l':Int) (w:World):(Op.equalIn 10000 140 (.agg #[.int .i64 h,.int .u64 l]) (.agg #[.int .i64 h',.int .u64 l'])).run Try.prog w=.ok (decide (h=h'∧l=l')) w:=by
  simp [go_sem]
  by_cases h1:h=h'<;>by_cases h2:l=l'<;>simp [h1,h2]
attribute [local go_sem ↓] qms
set_option maxRecDepth 10000 in
set_option maxHeartbeats 2000000 in
theorem qmt (p q:Pt) (n d:Int) (w:World) (h:CmpIn p q n d) :
    Calls Try.prog 75 #[.agg #[.int .i64 p.id,.int .i64 p.a,.int .i64 p.b],.agg #[.int .i64 q.id,.int .i64 q.a,.int .i64 q.b],.agg #[.int .i64 n,.int .i64 d]] w fun e w'=>e=.returned (.int .i64 (cmpC p q n d))∧∃ x,w'=ext w x:=by
  obtain ⟨k1,k2⟩:=qmr h
  obtain ⟨h1,h2,h3,h4,h5,h6⟩:=h
  have hs:=qmi (p.a - q.a) d (p.b - q.b) n
  have hs':=fun w=>hs w (by omega) (by omega) (by omega) (by omega) k1 k2
  obtain ⟨D,hD⟩:∃ D,farD p q n d=D:=⟨_,rfl⟩
  have hD':(p.a - q.a)*d+(p.b - q.b)*n=D:=hD
  rw [hD'] at hs'
  obtain ⟨hi,hhi⟩:∃ x,D / 18446744073709551616=x:=⟨_,rfl⟩
  obtain ⟨lo,hlo⟩:∃ x,D % 18446744073709551616=x:=⟨_,rfl⟩
  rw [hhi,hlo] at hs'
  have q1:=Lib.hid hs'
  have HD:=Lib.hid hD
  obtain ⟨a1,a2⟩:=h1;obtain ⟨a3,a4⟩:=h2;obtain ⟨a5,a6⟩:=h3;obtain ⟨a7,a8⟩:=h4
  rcases (by omega:D<0∨0<D∨D=0) with hd0 | hd0 | hd0
  · have hne : decide (hi = 0 ∧ lo = 0) = false := by rw [decide_eq_false_iff_not]; omega
    have hlt:hi<0:=by omega
    have HR:=Lib.hid (qm3 (p:=p) (q:=q) (n:=n) (d:=d) (by omega))
    clear hs hs' hD hD' hhi hlo k1 k2 h5 h6 hd0
    go_enter Try.func75,Try.ntmps75
    go_wp2_with ((go_at_call 95;refine (q1.out _).mono ?_;rintro e _ ⟨rfl,nx,rfl⟩))
    (go_ret;exact ⟨qle (by exact HR.out.symm),ext_of (by (try simp only [qcy]);repeat (first | exact Bel.refl _ | assumption | refine qd7 ?_ _ | refine qd8 ?_ _ | refine Bel.ext ?_ _ | refine Bel.alloc ?_ _ | refine Bel.drewN ?_ _))⟩)
  · have hne : decide (hi = 0 ∧ lo = 0) = false := by rw [decide_eq_false_iff_not]; omega
    have hlt:¬ hi<0:=by omega
    have HR:=Lib.hid (qm4 (p:=p) (q:=q) (n:=n) (d:=d) (by omega))
    clear hs hs' hD hD' hhi hlo k1 k2 h5 h6 hd0
    go_enter Try.func75,Try.ntmps75
    go_wp2_with ((go_at_call 95;refine (q1.out _).mono ?_;rintro e _ ⟨rfl,nx,rfl⟩))
    (go_ret;exact ⟨qle (by exact HR.out.symm),ext_of (by (try simp only [qcy]);repeat (first | exact Bel.refl _ | assumption | refine qd7 ?_ _ | refine qd8 ?_ _ | refine Bel.ext ?_ _ | refine Bel.alloc ?_ _ | refine Bel.drewN ?_ _))⟩)
  · have hne : decide (hi = 0 ∧ lo = 0) = true := by rw [decide_eq_true_eq]; omega
    have HR:Hid (orZ (cmpZ p.b q.b) (cmpZ q.id p.id)=cmpC p q n d):=Lib.hid (by unfold cmpC;rw [if_neg (by omega),if_neg (by omega)];rfl)
    clear hs hs' hD hD' hhi hlo k1 k2 h5 h6 hd0
    go_enter Try.func75,Try.ntmps75
    go_wp2_with ((go_at_call 95;refine (q1.out _).mono ?_;rintro e _ ⟨rfl,y1,rfl⟩))
    go_region_held3 (fun w'=>w'.cell? ⟨w.heap.size,0,none⟩=some (.int .i64 p.id)∧w'.cell? ⟨w.heap.size,1,none⟩=some (.int .i64 p.a)∧w'.cell? ⟨w.heap.size,2,none⟩=some (.int .i64 p.b)∧w'.cell? ⟨w.heap.size+1,0,none⟩=some (.int .i64 q.id)∧w'.cell? ⟨w.heap.size+1,1,none⟩=some (.int .i64 q.a)∧w'.cell? ⟨w.heap.size+1,2,none⟩=some (.int .i64 q.b)) (simp [go_sem]) ((first | (go_at_call 63;refine (qmn _ _ _).mono ?_;rintro e _ ⟨rfl,nx,rfl⟩) | (go_at_call 97;refine (qmo _ _ _).mono ?_;rintro e _ ⟨rfl,nx,rfl⟩) | (go_at_call 96;refine (qmp (cmpZ p.b q.b) (cmpZ q.id p.id) _ _ (by simp [go_sem]) (by simp [go_sem]) (by simp [go_sem])).mono ?_;rintro e _ ⟨rfl,nx,rfl⟩)))
    all_goals
      go_wp2
      (go_ret;exact ⟨qle (by exact HR.out),ext_of (by (try simp only [qcy]);repeat (first | exact Bel.refl _ | assumption | refine qd7 ?_ _ | refine qd8 ?_ _ | refine Bel.ext ?_ _ | refine Bel.alloc ?_ _ | refine Bel.drewN ?_ _))⟩)
end Go.Proofs.Ytoakhncbmpdacaa

namespace Go.Proofs.Ytoakhncbmpdacaa
open Go.RowKit Go.Pel
theorem qmu (p:Pt) (v:Int) (h:p.chk=v) (W:World):Calls Try.prog 92 #[.agg #[.int .i64 p.id,.int .i64 p.a,.int .i64 p.b]] W fun e w'=>e=.returned (.int .i64 v)∧∃ y,w'=ext W y:=by
  subst h;exact qln p.id p.a p.b W
theorem qmv (p:Pt) (v:Int) (h:p.chk=v) (W:World):Calls Try.prog 85 #[.agg #[.int .i64 p.id,.int .i64 p.a,.int .i64 p.b]] W fun e w'=>e=.returned (.int .i64 v)∧∃ y,w'=ext W y:=by
  subst h;exact qlo p.id p.a p.b W
set_option maxRecDepth 10000 in
set_option maxHeartbeats 2000000 in
theorem qmw (A:Option Addr) (c:Nat) (l:List Pt) (w:World) (hs:Sl w 3 A l.length c (vp l)) :
    Calls Try.prog 72 #[.agg #[.slice A l.length c]] w fun e w'=>e=.returned (.int .i64 (qhk l))∧∃ x,w'=ext w x:=by
  by_cases hm:64<l.length
  · have E1 := Lib.hid (qhl hm)
    go_enter Try.func72,Try.ntmps72
    go_wp2
    (go_ret;exact ⟨qle (by exact E1.out.symm),ext_of (by (try simp only [qcy]);repeat (first | exact Bel.refl _ | assumption | refine qd7 ?_ _ | refine qd8 ?_ _ | refine Bel.ext ?_ _ | refine Bel.alloc ?_ _ | refine Bel.drewN ?_ _))⟩)
  · have E1 := Lib.hid (fun p (hp : p ∈ l) hc => qhm (l := l) (by omega) hp hc)
    have E2:=Lib.hid (qhn (l:=l) (by omega))
    have E3:=Lib.hid (qho (l:=l) (by omega))
    go_enter Try.func72,Try.ntmps72
    go_wp2
    go_loopw [15] (fun i wr=>∃ (k:Nat),k≤l.length∧i=.int .i64 k∧(∀ p∈l.take k,p.chk=0)∧∃ y,wr=ext (w.alloc (.cells #[.slice A l.length c] 24)) y) (fun i _=>l.length - (intOf i).toNat)
    case atStart=>exact ⟨0,Nat.zero_le _,rfl,by simp,ext_of (Bel.refl _)⟩
    case round =>
      obtain ⟨k,hk,rfl,hall,y,rfl⟩:=hrel
      have HA:=Lib.hid hall;clear hall
      by_cases hlt:k<l.length
      · obtain ⟨p, hp⟩ : ∃ p, l[k]? = some p := ⟨_, List.getElem?_eq_getElem hlt⟩
        obtain ⟨b,o,rfl,hb⟩:=hs.at_ (by omega)
        obtain ⟨r0,r1,r2⟩:=qhh hs hp
        have HP:=Lib.hid hp;clear hp
        rcases qhs p with h | h
        · have e1 := Lib.hid (qmu p 0 h)
          have HC:=Lib.hid h;clear h
          go_wp2_with ((go_at_call 92;refine (e1.out _).mono ?_;rintro e _ ⟨rfl,nx,rfl⟩))
          go_roundw
          case rel =>
            refine ⟨k+1,by omega,by go_num,?_,ext_of (by (try simp only [qcy]);repeat (first | exact Bel.refl _ | assumption | refine qd7 ?_ _ | refine qd8 ?_ _ | refine Bel.ext ?_ _ | refine Bel.alloc ?_ _ | refine Bel.drewN ?_ _))⟩
            intro q hq
            rw [List.take_add_one,HP.out] at hq
            rcases List.mem_append.1 hq with hq | hq
            · exact HA.out q hq
            · simp at hq;subst hq;exact HC.out
          case measure=>(first | (simp [intOf];done) | (simp [intOf];omega))
        · have e1 := Lib.hid (qmu p 8 h)
          have HC:=Lib.hid (E1.out p (List.mem_of_getElem? HP.out) (by rw [h];decide));clear h
          go_wp2_with ((go_at_call 92;refine (e1.out _).mono ?_;rintro e _ ⟨rfl,nx,rfl⟩))
          (go_ret;exact ⟨qle (by exact HC.out.symm),ext_of (by (try simp only [qcy]);repeat (first | exact Bel.refl _ | assumption | refine qd7 ?_ _ | refine qd8 ?_ _ | refine Bel.ext ?_ _ | refine Bel.alloc ?_ _ | refine Bel.drewN ?_ _))⟩)
      · obtain rfl : k = l.length := by omega
        have hc0:=HA.out
        rw [List.take_length] at hc0
        have HC:=Lib.hid hc0;clear hc0
        go_wp2
        go_loopw [28] (fun i wr=>∃ (k:Nat),k≤l.length∧i=.int .i64 k∧(∀ (i:Nat) (p q:Pt),i+1<k→l[i]?=some p→l[i+1]?=some q→p.id<q.id)∧∃ y,wr=ext (w.alloc (.cells #[.slice A l.length c] 24)) y) (fun i _=>l.length - (intOf i).toNat)
        case atStart=>exact ⟨0,Nat.zero_le _,rfl,(by intro i p q h;omega),y,rfl⟩
        case round =>
          clear hk hlt HA
          obtain ⟨k,hk,rfl,hall,y2,rfl⟩:=hrel
          have HA:=Lib.hid hall;clear hall
          by_cases hlt:k<l.length
          · obtain ⟨p, hp⟩ : ∃ p, l[k]? = some p := ⟨_, List.getElem?_eq_getElem hlt⟩
            obtain ⟨b,o,rfl,hb⟩:=hs.at_ (by omega)
            obtain ⟨r0,r1,r2⟩:=qhh hs hp
            have HP:=Lib.hid hp;clear hp
            by_cases hk0:0<k
            · obtain ⟨m, rfl⟩ : ∃ m, k = m + 1 := ⟨k - 1, by omega⟩
              have hmlt:m<l.length:=by omega
              obtain ⟨q,hq⟩:∃ q,l[m]?=some q:=⟨_,List.getElem?_eq_getElem (by omega)⟩
              obtain ⟨q0,q1,q2⟩:=qhh hs hq
              have HQ:=Lib.hid hq;clear hq
              have hi0:(0:Int)≤(m:Int):=by omega
              have hi1:(m:Int)<(l.length:Int):=by omega
              by_cases hid:q.id<p.id
              · have hd : ¬ p.id ≤ q.id := by omega
                go_wp2
                ((first | refine RegC.wp_region_ext1 (by kernel_rfl) (by kernel_rfl) ?_ | refine RegC.wp_region_ext0 (by kernel_rfl) (by kernel_rfl) ?_);(repeat (any_goals (first | go_big_quiet_step (fail) | (refine RegC.wpQuiet_split rfl rfl (fun hb=>?_) (fun hb=>?_)<;>simp only [hb]))));all_goals (refine wpQuiet_nil ?_;rintro _ ⟨nq,rfl⟩))
                go_wp2
                go_roundw
                case rel =>
                  refine ⟨m+2,by omega,by go_num,?_,ext_of (by (try simp only [qcy]);repeat (first | exact Bel.refl _ | assumption | refine qd7 ?_ _ | refine qd8 ?_ _ | refine Bel.ext ?_ _ | refine Bel.alloc ?_ _ | refine Bel.drewN ?_ _))⟩
                  intro i p' q' hi hp' hq'
                  rcases Nat.lt_or_ge (i+1) (m+1) with h | h
                  · exact HA.out i p' q' h hp' hq'
                  · obtain rfl : i = m := by omega
                    rw [HQ.out] at hp'
                    rw [HP.out] at hq'
                    obtain rfl:=Option.some.inj hp'
                    obtain rfl:=Option.some.inj hq'
                    exact hid
                case measure=>(first | (simp [intOf];done) | (simp [intOf];omega))
              · have hd : p.id ≤ q.id := by omega
                have hbad:incB l=false:=by
                  rw [← Bool.not_eq_true,qhi];intro h;exact hid (h m q p HQ.out HP.out)
                have HB:=Lib.hid (E2.out HC.out hbad);clear hbad
                go_wp2
                ((first | refine RegC.wp_region_ext1 (by kernel_rfl) (by kernel_rfl) ?_ | refine RegC.wp_region_ext0 (by kernel_rfl) (by kernel_rfl) ?_);(repeat (any_goals (first | go_big_quiet_step (fail) | (refine RegC.wpQuiet_split rfl rfl (fun hb=>?_) (fun hb=>?_)<;>simp only [hb]))));all_goals (refine wpQuiet_nil ?_;rintro _ ⟨nq,rfl⟩))
                go_wp2
                (go_ret;exact ⟨qle (by exact HB.out.symm),ext_of (by (try simp only [qcy]);repeat (first | exact Bel.refl _ | assumption | refine qd7 ?_ _ | refine qd8 ?_ _ | refine Bel.ext ?_ _ | refine Bel.alloc ?_ _ | refine Bel.drewN ?_ _))⟩)
            · obtain rfl : k = 0 := by omega
              simp only [Nat.zero_mul,Nat.add_zero] at r0 r1 r2
              go_wp2
              ((first | refine RegC.wp_region_ext1 (by kernel_rfl) (by kernel_rfl) ?_ | refine RegC.wp_region_ext0 (by kernel_rfl) (by kernel_rfl) ?_);(repeat (any_goals (first | go_big_quiet_step (fail) | (refine RegC.wpQuiet_split rfl rfl (fun hb=>?_) (fun hb=>?_)<;>simp only [hb]))));all_goals (refine wpQuiet_nil ?_;rintro _ ⟨nq,rfl⟩))
              go_wp2
              go_roundw
              case rel=>exact ⟨1,by omega,by go_num,(by intro i p q h;omega),ext_of (by (try simp only [qcy]);repeat (first | exact Bel.refl _ | assumption | refine qd7 ?_ _ | refine qd8 ?_ _ | refine Bel.ext ?_ _ | refine Bel.alloc ?_ _ | refine Bel.drewN ?_ _))⟩
              case measure=>(first | (simp [intOf];done) | (simp [intOf];omega))
          · obtain rfl : k = l.length := by omega
            have hinc:incB l=true:=(qhi l).2 fun i p q hp hq=>HA.out i p q (by have:=(List.getElem?_eq_some_iff.1 hq).1;omega) hp hq
            have HB:=Lib.hid (E3.out HC.out hinc);clear hinc
            go_wp2
            (go_ret;exact ⟨qle (by exact HB.out.symm),ext_of (by (try simp only [qcy]);repeat (first | exact Bel.refl _ | assumption | refine qd7 ?_ _ | refine qd8 ?_ _ | refine Bel.ext ?_ _ | refine Bel.alloc ?_ _ | refine Bel.drewN ?_ _))⟩)
end Go.Proofs.Ytoakhncbmpdacaa

namespace Go.Proofs.Ytoakhncbmpdacaa
open Go.RowKit Go.Pel
theorem qmx (n d v:Int) (h:qeg n d=v) (hn:-9223372036854775808≤n∧n≤9223372036854775807) (hd:-9223372036854775808≤d∧d≤9223372036854775807) (W:World):Calls Try.prog 73 #[.agg #[.int .i64 n,.int .i64 d]] W fun e w'=>e=.returned (.int .i64 v)∧∃ y,w'=ext W y:=by
  subst h;exact qlk n d W hn hd
set_option maxRecDepth 10000 in
set_option maxHeartbeats 2000000 in
theorem qmy (p q:Pt) (n d:Int) (w:World) (hn:-9223372036854775808≤n∧n≤9223372036854775807) (hd:-9223372036854775808≤d∧d≤9223372036854775807) :
    Calls Try.prog 74 #[.agg #[.int .i64 p.id,.int .i64 p.a,.int .i64 p.b],.agg #[.int .i64 q.id,.int .i64 q.a,.int .i64 q.b],.agg #[.int .i64 n,.int .i64 d]] w fun e w'=>e=.returned (.int .i64 (qm8 p q n d))∧∃ x,w'=ext w x:=by
  rcases qhs p with h1 | h1<;>rcases qhs q with h2 | h2<;>rcases qem n d with h3 | h3
  · have q1 := Lib.hid (qmu p _ h1); have q2 := Lib.hid (qmu q _ h2); have q3 := Lib.hid (qmx n d _ h3 hn hd)
    by_cases hi:p.id=q.id
    · have HR := Lib.hid (qma (p := p) (q := q) ⟨h1, h2, h3⟩ hi)
      have hi':(p.id == q.id)=true:=by simpa using hi
      clear h1 h2 h3 hn hd hi
      go_enter Try.func74,Try.ntmps74
      go_wp2
      ((first | refine RegC.wp_region_ext1 (by kernel_rfl) (by kernel_rfl) ?_ | refine RegC.wp_region_ext0 (by kernel_rfl) (by kernel_rfl) ?_);(repeat (any_goals (first | go_big_quiet_step (first | (go_at_call 92;with_reducible exact Calls.ext_of (q1.out _)) | (go_at_call 92;with_reducible exact Calls.ext_of (q2.out _)) | (go_at_call 73;with_reducible exact Calls.ext_of (q3.out _))) | (refine RegC.wpQuiet_split rfl rfl (fun hb=>?_) (fun hb=>?_)<;>simp only [hb]))));all_goals (refine wpQuiet_nil ?_;rintro _ ⟨nq,rfl⟩))
      go_wp2
      (go_ret;exact ⟨qle (by exact HR.out.symm),ext_of (by (try simp only [qcy]);repeat (first | exact Bel.refl _ | assumption | refine qd7 ?_ _ | refine qd8 ?_ _ | refine Bel.ext ?_ _ | refine Bel.alloc ?_ _ | refine Bel.drewN ?_ _))⟩)
    · have HR := Lib.hid (qmb (p := p) (q := q) ⟨h1, h2, h3⟩ hi)
      have hi':(p.id == q.id)=false:=by simpa using hi
      clear h1 h2 h3 hn hd hi
      go_enter Try.func74,Try.ntmps74
      go_wp2
      ((first | refine RegC.wp_region_ext1 (by kernel_rfl) (by kernel_rfl) ?_ | refine RegC.wp_region_ext0 (by kernel_rfl) (by kernel_rfl) ?_);(repeat (any_goals (first | go_big_quiet_step (first | (go_at_call 92;with_reducible exact Calls.ext_of (q1.out _)) | (go_at_call 92;with_reducible exact Calls.ext_of (q2.out _)) | (go_at_call 73;with_reducible exact Calls.ext_of (q3.out _))) | (refine RegC.wpQuiet_split rfl rfl (fun hb=>?_) (fun hb=>?_)<;>simp only [hb]))));all_goals (refine wpQuiet_nil ?_;rintro _ ⟨nq,rfl⟩))
      go_wp2
      (go_ret;exact ⟨qle (by exact HR.out.symm),ext_of (by (try simp only [qcy]);repeat (first | exact Bel.refl _ | assumption | refine qd7 ?_ _ | refine qd8 ?_ _ | refine Bel.ext ?_ _ | refine Bel.alloc ?_ _ | refine Bel.drewN ?_ _))⟩)
  all_goals
    have q1:=Lib.hid (qmu p _ h1)
    have q2:=Lib.hid (qmu q _ h2)
    have q3:=Lib.hid (qmx n d _ h3 hn hd)
    have HR:=Lib.hid (qm9 (p:=p) (q:=q) (n:=n) (d:=d) (by rw [h1,h2,h3];decide))
    clear h1 h2 h3 hn hd
    go_enter Try.func74,Try.ntmps74
    go_wp2
    ((first | refine RegC.wp_region_ext1 (by kernel_rfl) (by kernel_rfl) ?_ | refine RegC.wp_region_ext0 (by kernel_rfl) (by kernel_rfl) ?_);(repeat (any_goals (first | go_big_quiet_step (first | (go_at_call 92;with_reducible exact Calls.ext_of (q1.out _)) | (go_at_call 92;with_reducible exact Calls.ext_of (q2.out _)) | (go_at_call 73;with_reducible exact Calls.ext_of (q3.out _))) | (refine RegC.wpQuiet_split rfl rfl (fun hb=>?_) (fun hb=>?_)<;>simp only [hb]))));all_goals (refine wpQuiet_nil ?_;rintro _ ⟨nq,rfl⟩))
    go_wp2
    (go_ret;exact ⟨qle (by exact HR.out.symm),ext_of (by (try simp only [qcy]);repeat (first | exact Bel.refl _ | assumption | refine qd7 ?_ _ | refine qd8 ?_ _ | refine Bel.ext ?_ _ | refine Bel.alloc ?_ _ | refine Bel.drewN ?_ _))⟩)
theorem qmz {p q:Pt} {n d:Int} (hp:p.chk=0) (hq:q.chk=0) (hr:qeg n d=0) (hn:-9223372036854775808≤n∧n≤9223372036854775807) (hd:-9223372036854775808≤d∧d≤9223372036854775807):CmpIn p q n d:=by
  have h1:=qhr hp
  have h2:=qhr hq
  have h3:=qen hr
  exact ⟨by omega,by omega,by omega,by omega,by omega,by omega⟩
set_option maxRecDepth 10000 in
set_option maxHeartbeats 2000000 in
theorem qn0 (p q:Pt) (n d:Int) (w:World) (hn:-9223372036854775808≤n∧n≤9223372036854775807) (hd:-9223372036854775808≤d∧d≤9223372036854775807) :
    Calls Try.prog 46 #[.agg #[.int .i64 p.id,.int .i64 p.a,.int .i64 p.b],.agg #[.int .i64 q.id,.int .i64 q.a,.int .i64 q.b],.agg #[.int .i64 n,.int .i64 d]] w fun e w'=>e=.returned (.tuple #[.bool (qmd p q n d).1,.int .i64 (qmd p q n d).2])∧∃ x,w'=ext w x:=by
  have q1:=Lib.hid (fun W=>qmy p q n d W hn hd)
  by_cases h:qm8 p q n d=0
  · have HV : Hid (qmd p q n d = (qlx p q n d, 0)) := Lib.hid (by unfold qmd; rw [if_pos h])
    obtain ⟨h1,h2,h3,_⟩:=qmc h
    have q2:=Lib.hid (fun W=>qmt p q n d W (qmz h1 h2 h3 hn hd))
    rw [h] at q1
    have HL:=Lib.hid (qm7 p q n d)
    obtain ⟨C,hC⟩:∃ C,cmpC p q n d=C:=⟨_,rfl⟩
    rw [hC] at q2 HL
    clear h h1 h2 h3 hn hd hC
    go_enter Try.func46,Try.ntmps46
    go_wp2_with (first | (go_at_call 74;refine (q1.out _).mono ?_;rintro e _ ⟨rfl,nx,rfl⟩) | (go_at_call 75;refine (q2.out _).mono ?_;rintro e _ ⟨rfl,nx,rfl⟩))
    go_ret2
    exact ⟨by rw [HV.out,← HL.out];rfl,ext_of (by (try simp only [qcy]);repeat (first | exact Bel.refl _ | assumption | refine qd7 ?_ _ | refine qd8 ?_ _ | refine Bel.ext ?_ _ | refine Bel.alloc ?_ _ | refine Bel.drewN ?_ _))⟩
  · have HV : Hid (qmd p q n d = (false, qm8 p q n d)) := Lib.hid (by unfold qmd; rw [if_neg h])
    have hz:(qm8 p q n d == 0)=false:=by simpa using h
    have hz':(qm8 p q n d != 0)=true:=by simpa using h
    clear h hn hd
    go_enter Try.func46,Try.ntmps46
    go_wp2_with ((go_at_call 74;refine (q1.out _).mono ?_;rintro e _ ⟨rfl,nx,rfl⟩))
    go_ret2
    exact ⟨by rw [HV.out];rfl,ext_of (by (try simp only [qcy]);repeat (first | exact Bel.refl _ | assumption | refine qd7 ?_ _ | refine qd8 ?_ _ | refine Bel.ext ?_ _ | refine Bel.alloc ?_ _ | refine Bel.drewN ?_ _))⟩
end Go.Proofs.Ytoakhncbmpdacaa

namespace Go.Proofs.Ytoakhncbmpdacaa
open Go.RowKit Go.Pel
end Go.Proofs.Ytoakhncbmpdacaa

namespace Go.Proofs.Ytoakhncbmpdacaa
open Go.RowKit Go.Pel
end Go.Proofs.Ytoakhncbmpdacaa

namespace Go.Proofs.Ytoakhncbmpdacaa
open Go.RowKit Go.Pel
end Go.Proofs.Ytoakhncbmpdacaa

namespace Go.Proofs.Ytoakhncbmpdacaa
open Go.RowKit Go.Pel
def eqP (i a b i' a' b':Int):Bool:=decide (i=i'∧a=a'∧b=b')
theorem qnc (i a b i' a' b':Int) (w:World):(Op.equalIn 10000 75 (.agg #[.int .i64 i,.int .i64 a,.int .i64 b]) (.agg #[.int .i64 i',.int .i64 a',.int .i64 b'])).run Try.prog w=.ok (eqP i a b i' a' b') w:=by
  simp [go_sem]
  unfold eqP
  by_cases h1:i=i'<;>by_cases h2:a=a'<;>by_cases h3:b=b'<;>simp [h1,h2,h3]
attribute [local go_sem ↓] qnc
set_option maxRecDepth 10000 in
set_option maxHeartbeats 2000000 in
theorem qnd (A:Option Addr) (c:Nat) (l:List Pt) (w:World) (hs:Sl w 3 A l.length c (vp l)) :
    Calls Try.prog 67 #[.agg #[.slice A l.length c]] w fun e w'=>e=.returned (.int .i64 (qhk l))∧∃ x,w'=ext w x:=by
  by_cases hm:64<l.length
  · have E1 := Lib.hid (qhl hm)
    go_enter Try.func67,Try.ntmps67
    go_wp2
    (go_ret;exact ⟨qle (by exact E1.out.symm),ext_of (by (try simp only [qcy]);repeat (first | exact Bel.refl _ | assumption | refine qd7 ?_ _ | refine qd8 ?_ _ | refine Bel.ext ?_ _ | refine Bel.alloc ?_ _ | refine Bel.drewN ?_ _))⟩)
  · have E1 := Lib.hid (fun p (hp : p ∈ l) hc => qhm (l := l) (by omega) hp hc)
    have E2:=Lib.hid (qhn (l:=l) (by omega))
    have E3:=Lib.hid (qho (l:=l) (by omega))
    go_enter Try.func67,Try.ntmps67
    go_wp2
    go_loopw [3] (fun i wr=>∃ (k:Nat),k≤l.length∧i=.int .i64 k∧(∀ p∈l.take k,p.chk=0)∧∃ y,wr=ext (w.alloc (.cells #[.slice A l.length c] 24)) y) (fun i _=>l.length - (intOf i).toNat)
    case atStart=>exact ⟨0,Nat.zero_le _,rfl,by simp,ext_of (Bel.refl _)⟩
    case round =>
      obtain ⟨k,hk,rfl,hall,y,rfl⟩:=hrel
      have HA:=Lib.hid hall;clear hall
      by_cases hlt:k<l.length
      · obtain ⟨p, hp⟩ : ∃ p, l[k]? = some p := ⟨_, List.getElem?_eq_getElem hlt⟩
        obtain ⟨b,o,rfl,hb⟩:=hs.at_ (by omega)
        obtain ⟨r0,r1,r2⟩:=qhh hs hp
        have HP:=Lib.hid hp;clear hp
        rcases qhs p with h | h
        · have e1 := Lib.hid (qmv p 0 h)
          have HC:=Lib.hid h;clear h
          go_wp2_with ((go_at_call 85;refine (e1.out _).mono ?_;rintro e _ ⟨rfl,nx,rfl⟩))
          go_roundw
          case rel =>
            refine ⟨k+1,by omega,by go_num,?_,ext_of (by (try simp only [qcy]);repeat (first | exact Bel.refl _ | assumption | refine qd7 ?_ _ | refine qd8 ?_ _ | refine Bel.ext ?_ _ | refine Bel.alloc ?_ _ | refine Bel.drewN ?_ _))⟩
            intro q hq
            rw [List.take_add_one,HP.out] at hq
            rcases List.mem_append.1 hq with hq | hq
            · exact HA.out q hq
            · simp at hq;subst hq;exact HC.out
          case measure=>(first | (simp [intOf];done) | (simp [intOf];omega))
        · have e1 := Lib.hid (qmv p 8 h)
          have HC:=Lib.hid (E1.out p (List.mem_of_getElem? HP.out) (by rw [h];decide));clear h
          go_wp2_with ((go_at_call 85;refine (e1.out _).mono ?_;rintro e _ ⟨rfl,nx,rfl⟩))
          (go_ret;exact ⟨qle (by exact HC.out.symm),ext_of (by (try simp only [qcy]);repeat (first | exact Bel.refl _ | assumption | refine qd7 ?_ _ | refine qd8 ?_ _ | refine Bel.ext ?_ _ | refine Bel.alloc ?_ _ | refine Bel.drewN ?_ _))⟩)
      · obtain rfl : k = l.length := by omega
        have hc0:=HA.out
        rw [List.take_length] at hc0
        have HC:=Lib.hid hc0;clear hc0
        go_wp2
        go_loopw [4] (fun i wr=>∃ (k:Nat),k≤l.length+1∧i=.int .i64 (k+1)∧(∀ (i:Nat) (p q:Pt),i+1<k+1→l[i]?=some p→l[i+1]?=some q→p.id<q.id)∧∃ y,wr=ext (w.alloc (.cells #[.slice A l.length c] 24)) y) (fun i _=>l.length+2 - (intOf i).toNat)
        case atStart=>exact ⟨0,by omega,rfl,(by intro i p q h;omega),y,rfl⟩
        case round =>
          clear hk hlt HA
          obtain ⟨m,hk,rfl,hall,y2,rfl⟩:=hrel
          have HA:=Lib.hid hall;clear hall
          by_cases hlt:m+1<l.length
          · obtain ⟨p, hp⟩ : ∃ p, l[m + 1]? = some p := ⟨_, List.getElem?_eq_getElem hlt⟩
            obtain ⟨b,o,rfl,hb⟩:=hs.at_ (by omega)
            obtain ⟨r0,r1,r2⟩:=qhh hs hp
            have HP:=Lib.hid hp;clear hp
            obtain ⟨q,hq⟩:∃ q,l[m]?=some q:=⟨_,List.getElem?_eq_getElem (by omega)⟩
            obtain ⟨q0,q1,q2⟩:=qhh hs hq
            have HQ:=Lib.hid hq;clear hq
            have hi0:(0:Int)≤(m:Int):=by omega
            have hi1:(m:Int)<(l.length:Int):=by omega
            have hi2:(m:Int)+1<(l.length:Int):=by omega
            by_cases hid:q.id<p.id
            · have hd : ¬ p.id ≤ q.id := by omega
              go_wp2
              ((first | refine RegC.wp_region_ext1 (by kernel_rfl) (by kernel_rfl) ?_ | refine RegC.wp_region_ext0 (by kernel_rfl) (by kernel_rfl) ?_);(repeat (any_goals (first | go_big_quiet_step (fail) | (refine RegC.wpQuiet_split rfl rfl (fun hb=>?_) (fun hb=>?_)<;>simp only [hb]))));all_goals (refine wpQuiet_nil ?_;rintro _ ⟨nq,rfl⟩))
              go_wp2
              go_roundw
              case rel =>
                refine ⟨m+1,by omega,by go_num,?_,ext_of (by (try simp only [qcy]);repeat (first | exact Bel.refl _ | assumption | refine qd7 ?_ _ | refine qd8 ?_ _ | refine Bel.ext ?_ _ | refine Bel.alloc ?_ _ | refine Bel.drewN ?_ _))⟩
                intro i p' q' hi hp' hq'
                rcases Nat.lt_or_ge (i+1) (m+1) with h | h
                · exact HA.out i p' q' h hp' hq'
                · obtain rfl : i = m := by omega
                  rw [HQ.out] at hp'
                  rw [HP.out] at hq'
                  obtain rfl:=Option.some.inj hp'
                  obtain rfl:=Option.some.inj hq'
                  exact hid
              case measure=>(first | (simp [intOf];done) | (simp [intOf];omega))
            · have hd : p.id ≤ q.id := by omega
              have hbad:incB l=false:=by
                rw [← Bool.not_eq_true,qhi];intro h;exact hid (h m q p HQ.out HP.out)
              have HB:=Lib.hid (E2.out HC.out hbad);clear hbad
              go_wp2
              ((first | refine RegC.wp_region_ext1 (by kernel_rfl) (by kernel_rfl) ?_ | refine RegC.wp_region_ext0 (by kernel_rfl) (by kernel_rfl) ?_);(repeat (any_goals (first | go_big_quiet_step (fail) | (refine RegC.wpQuiet_split rfl rfl (fun hb=>?_) (fun hb=>?_)<;>simp only [hb]))));all_goals (refine wpQuiet_nil ?_;rintro _ ⟨nq,rfl⟩))
              go_wp2
              (go_ret;exact ⟨qle (by exact HB.out.symm),ext_of (by (try simp only [qcy]);repeat (first | exact Bel.refl _ | assumption | refine qd7 ?_ _ | refine qd8 ?_ _ | refine Bel.ext ?_ _ | refine Bel.alloc ?_ _ | refine Bel.drewN ?_ _))⟩)
          · have hlt2 : ¬ (m : Int) + 1 < (l.length : Int) := by omega
            have hinc:incB l=true:=(qhi l).2 fun i p q hp hq=>HA.out i p q (by have:=(List.getElem?_eq_some_iff.1 hq).1;omega) hp hq
            have HB:=Lib.hid (E3.out HC.out hinc);clear hinc
            go_wp2
            (go_ret;exact ⟨qle (by exact HB.out.symm),ext_of (by (try simp only [qcy]);repeat (first | exact Bel.refl _ | assumption | refine qd7 ?_ _ | refine qd8 ?_ _ | refine Bel.ext ?_ _ | refine Bel.alloc ?_ _ | refine Bel.drewN ?_ _))⟩)
def great (n:Nat):Bool:=(decide (16<n)&&decide (n<64)) || decide (70<n)
set_option maxHeartbeats 400000 in
theorem qnf (A:Option Addr) (n c:Nat) (w:World):Calls Try.prog 9 #[.agg #[.slice A n c]] w fun e w'=>e=.returned (.bool (great n))∧∃ x,w'=ext w x:=by
  by_cases h1:16<n
  · by_cases h2 : n < 64
    · have H := Lib.hid (show great n = true by unfold great; simp [h1, h2])
      go_enter Try.func9,Try.ntmps9
      go_wp2
      (go_ret;exact ⟨qlf (by first | exact H.out.symm | (rw [H.out];simp;omega)),ext_of (by (try simp only [qcy]);repeat (first | exact Bel.refl _ | assumption | refine qd7 ?_ _ | refine qd8 ?_ _ | refine Bel.ext ?_ _ | refine Bel.alloc ?_ _ | refine Bel.drewN ?_ _))⟩)
    · by_cases h3 : 70 < n
      · have H := Lib.hid (show great n = true by unfold great; simp [h3])
        go_enter Try.func9,Try.ntmps9
        go_wp2
        (go_ret;exact ⟨qlf (by first | exact H.out.symm | (rw [H.out];simp;omega)),ext_of (by (try simp only [qcy]);repeat (first | exact Bel.refl _ | assumption | refine qd7 ?_ _ | refine qd8 ?_ _ | refine Bel.ext ?_ _ | refine Bel.alloc ?_ _ | refine Bel.drewN ?_ _))⟩)
      · have H := Lib.hid (show great n = false by unfold great; simp [h2, h3])
        go_enter Try.func9,Try.ntmps9
        go_wp2
        (go_ret;exact ⟨qlf (by first | exact H.out.symm | (rw [H.out];simp;omega)),ext_of (by (try simp only [qcy]);repeat (first | exact Bel.refl _ | assumption | refine qd7 ?_ _ | refine qd8 ?_ _ | refine Bel.ext ?_ _ | refine Bel.alloc ?_ _ | refine Bel.drewN ?_ _))⟩)
  · have h3 : ¬ 70 < n := by omega
    have H:=Lib.hid (show great n=false by unfold great;simp [h1,h3])
    go_enter Try.func9,Try.ntmps9
    go_wp2
    (go_ret;exact ⟨qlf (by first | exact H.out.symm | (rw [H.out];simp;omega)),ext_of (by (try simp only [qcy]);repeat (first | exact Bel.refl _ | assumption | refine qd7 ?_ _ | refine qd8 ?_ _ | refine Bel.ext ?_ _ | refine Bel.alloc ?_ _ | refine Bel.drewN ?_ _))⟩)
end Go.Proofs.Ytoakhncbmpdacaa

namespace Go.Pel
end Go.Pel
namespace Go.Proofs.Ytoakhncbmpdacaa
open Go Go.Tx Go.RowKit Go.Pel
end Go.Proofs.Ytoakhncbmpdacaa
