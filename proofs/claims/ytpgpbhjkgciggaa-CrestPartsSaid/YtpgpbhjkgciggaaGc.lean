/- Walks of courses and of the sorts; the order as plain mathematics. -/
import Derived.Lib.Hide
import Derived.Laws.CopyRow
import Derived.Lib.SliceRun
import Derived.Lib.AppendZerosOnto
import Derived.Lib.AppendZeros
import Derived.Lib.Overlaps
import Derived.Deep.DeepAppendRoom
import Derived.Deep.RegionHeld3
import Derived.Deep.RegionLaw
import Derived.Deep.MidRow
import Derived.Deep.DeepCutAuto
import Derived.Deep.LoopGhost
import Derived.Laws.MakeOwn
import Derived.Test.YtpgpbhjkgciggaaProg
import Derived.ChangeKeysEq
import Derived.Test.YtpgpbhjkgciggaaRows
import Derived.IntWalk
import Derived.Shelf.Bits.Mul64
import Derived.Shelf.Spec.BitsCarry
import Derived.Outline
import Derived.Shelf.SlSortCmp.NoneTotal
import Derived.Sort.Statements
import Derived.Shelf.SlSortCmp.Insertion
import Derived.Test.YtpgpbhjkgciggaaGb
set_option linter.unusedSimpArgs false
set_option linter.unusedVariables false
namespace Go
open RowKit
def Row (w:World) (base:Nat) (e:TypeId) (size g cap:Nat) (cur:List Value):Prop :=
  base≤g∧w.heap[g]?=some (.cells cur.toArray e (0,0))∧cap≤maxLen∧cur.length=cap*size
section
variable {w:World} {base:Nat} {e:TypeId} {size g cap:Nat} {cur:List Value}
theorem Row.lt (h:Row w base e size g cap cur):g<w.heap.size:=(Array.getElem?_eq_some_iff.1 h.2.1).1
theorem Row.len (h:Row w base e size g cap cur):cur.length=cap*size:=h.2.2.2
theorem Row.own (h:Row w base e size g cap cur) {n:Nat} (hn:n≤cap):Own w base e size (some ⟨g,0,none⟩) n cap (cur.take (n*size)) :=
  ⟨by rw [List.length_take,h.len];exact Nat.min_eq_left (Nat.mul_le_mul_right _ hn),.inr ⟨g,cap,cur.toArray,rfl,h.1,h.2.1,hn,h.2.2.1,by simpa using h.len,by simp⟩⟩
theorem Own.row {A:Option Addr} {n c:Nat} {xs:List Value} (h:Own w base e size A n c xs):(A=none∧n=0∧c=0∧xs=[]) ∨ ∃ g cur,A=some ⟨g,0,none⟩∧Row w base e size g c cur∧n≤c∧cur.take (n*size)=xs:=by
  rcases h.2 with ⟨hv,hn⟩ | ⟨g,cap,cur,hv,hb,hg,hnc,hm,hs,ht⟩
  · injection hv with h1 h2 h3
    refine .inl ⟨h1,hn,h3,List.eq_nil_of_length_eq_zero ?_⟩
    rw [h.1,hn,Nat.zero_mul]
  · injection hv with h1 h2 h3
    subst h1 h3
    exact .inr ⟨g,cur.toList,rfl,⟨hb,by simpa using hg,hm,by simpa using hs⟩,hnc,ht⟩
theorem Row.cell (h:Row w base e size g cap cur) {j:Nat} {u:Value} (hu:cur[j]?=some u):w.cell? ⟨g,j,none⟩=some u:=by
  simp [World.cell?,h.2.1,hu]
theorem Row.frozen (h:Row w base e size g cap cur) (j:Nat):w.frozen? ⟨g,j,none⟩=false:=by
  simp [World.frozen?,h.2.1]
theorem Row.sl (h:Row w base e size g cap cur) {i n c:Nat} {xs:List Value} (hi:i+n≤cap) (hnc:n≤c) (hx:(cur.drop (i*size)).take (n*size)=xs):Sl w size (some ⟨g,i*size,none⟩) n c xs:=by
  have hle:i*size+n*size≤cap*size:=by rw [← Nat.add_mul];exact Nat.mul_le_mul_right _ hi
  refine ⟨hnc,by rw [← hx,List.length_take,List.length_drop,h.len];omega,fun _=>⟨g,_,rfl,h.lt,fun j u hu=>h.cell ?_⟩⟩
  rw [← hx,List.getElem?_take] at hu
  split at hu
  · rwa [List.getElem?_drop] at hu
  · cases hu
theorem Row.set (h:Row w base e size g cap cur) {cur':List Value} (hs:cur'.length=cur.length):Row (w.setRow g cur'.toArray) base e size g cap cur' :=
  ⟨h.1,setRow_heap w g _ _ e _ h.2.1,h.2.2.1,by rw [hs];exact h.len⟩
theorem Row.bel {w':World} (h:Row w base e size g cap cur) (hb:Bel w w'):Row w' base e size g cap cur:=⟨h.1,by rw [hb.block g h.lt];exact h.2.1,h.2.2⟩
theorem Row.base_le {base':Nat} (h:Row w base e size g cap cur) (hb:base'≤base):Row w base' e size g cap cur:=⟨Nat.le_trans hb h.1,h.2⟩
end
section
variable {P:Program} {ops:Array Oper} {rest:List Oper} {o:Oper} {a:Act} {Q:Exit→Act→World→Prop}
end
end Go

namespace Go.Tx
open Go Go.Pel
def ofP (p:Int×Int×Int×Unit):Pt:=⟨p.1,p.2.1,p.2.2.1⟩
def toP (p:Pt):Int×Int×Int×Unit:=(p.id,p.a,p.b,())
def toI (n:Int):Int×Unit:=(n,())
abbrev RP:Row:=.int .i64 (.int .i64 (.int .i64 .nil))
abbrev RI:Row:=.int .i64 .nil
def qhy:(τ:Row)→den τ→List Value
  | .nil,_=>[]
  | .int k r,x=>.int k x.1 :: qhy r x.2
  | .bool r,x=>.bool x.1 :: qhy r x.2
  | .sl _ r,x=>qhy r x.2
def qhz (τ:Row):List (den τ)→List Value
  | []=>[]
  | x :: xs=>qhy τ x++qhz τ xs
abbrev TP:Type:=Int×Int×Int×Unit
abbrev TI1:Type:=Int×Unit
theorem qi0 (l:List TP):qhz RP l=vp (l.map ofP):=by
  induction l with
  | nil=>rfl
  | cons p l ih=>show qhy RP p++qhz RP l=vp (ofP p :: l.map ofP);rw [ih];rfl
theorem qi1 (l:List TI1):qhz RI l=vi (l.map fun x=>x.1):=by
  induction l with
  | nil=>rfl
  | cons p l ih=>show qhy RI p++qhz RI l=vi (p.1 :: l.map fun x=>x.1);rw [ih];rfl
theorem qi2:∀ (τ:Row),qcv τ=true→∀ x:den τ,(qhy τ x).length=τ.size
  | .nil,_,_=>rfl
  | .int _ r,h,x=>by rw [qhy,List.length_cons,qi2 r h,Row.size]
  | .bool r,h,x=>by rw [qhy,List.length_cons,qi2 r h,Row.size]
  | .sl _ r,h,_=>by cases h
theorem qi3 {τ:Row} (h:qcv τ=true):∀ xs:List (den τ),(qhz τ xs).length=xs.length*τ.size
  | []=>by simp [qhz]
  | x :: xs=>by rw [qhz,List.length_append,qi2 τ h,qi3 h xs,List.length_cons,Nat.succ_mul];omega
theorem qi4 {η:Emb}:∀ (τ:Row),qcv τ=true→∀ x:den τ,VRs η (split τ x) (qhy τ x)
  | .nil,_,_=>VRs.nil
  | .int _ r,h,x=>VRs.cons (.int _ _) (qi4 r h x.2)
  | .bool r,h,x=>VRs.cons (.bool _) (qi4 r h x.2)
  | .sl _ r,h,_=>by cases h
theorem qi5 {η:Emb} {τ:Row} (h:qcv τ=true):∀ xs:List (den τ),VRs η (flat τ xs) (qhz τ xs)
  | []=>VRs.nil
  | x :: xs=>(qi4 τ h x).append (qi5 h xs)
theorem qi6 {φ:Nat→Option Obj} {w:World} (hφ:∀ k ob,φ k=some ob→w.heap[k]?=some ob) {b:Nat}:∀ (τ:Row),qcv τ=true→∀ (x:den τ) (o:Nat),RowF φ τ x b o→∀ (j:Nat) u,(qhy τ x)[j]?=some u→w.cell? ⟨b,o+j,none⟩=some u
  | .nil,_,_,_,_,j,u,hu=>by simp [qhy] at hu
  | .int k r, h, x, o, hr, j, u, hu => by
    cases j with
    | zero =>
      simp only [qhy,List.getElem?_cons_zero,Option.some.injEq] at hu;subst hu
      obtain ⟨ob,h1,h2⟩:=hr.1
      rw [Nat.add_zero,qf,hφ b ob h1];exact h2
    | succ j=>have:=qi6 hφ r h x.2 (o+1) hr.2 j u (by simpa [qhy] using hu);rwa [show o+1+j=o+(j+1) by omega] at this
  | .bool r, h, x, o, hr, j, u, hu => by
    cases j with
    | zero =>
      simp only [qhy,List.getElem?_cons_zero,Option.some.injEq] at hu;subst hu
      obtain ⟨ob,h1,h2⟩:=hr.1
      rw [Nat.add_zero,qf,hφ b ob h1];exact h2
    | succ j=>have:=qi6 hφ r h x.2 (o+1) hr.2 j u (by simpa [qhy] using hu);rwa [show o+1+j=o+(j+1) by omega] at this
  | .sl _ r,h,_,_,_,_,_,_=>by cases h
theorem qi7 {τ:Row} (h:qcv τ=true) (hs:0<τ.size) (xs:List (den τ)) (j:Nat) (hj:j<xs.length*τ.size):∃ x,xs[j / τ.size]?=some x∧(qhz τ xs)[j]?=(qhy τ x)[j % τ.size]?:=by
  induction xs generalizing j with
  | nil=>simp at hj
  | cons y ys ih =>
    rw [qhz]
    have hl:=qi2 τ h y
    rcases Nat.lt_or_ge j τ.size with hlt | hge
    · refine ⟨y, by rw [Nat.div_eq_of_lt hlt]; rfl, ?_⟩
      rw [List.getElem?_append_left (by omega),Nat.mod_eq_of_lt hlt]
    · rw [List.length_cons, Nat.succ_mul] at hj
      obtain ⟨x,h1,h2⟩:=ih (j - τ.size) (by omega)
      have e1:j / τ.size=(j - τ.size) / τ.size+1:=by
        conv=>lhs;rw [show j=(j - τ.size)+τ.size by omega,Nat.add_div_right _ hs]
      have e2:j % τ.size=(j - τ.size) % τ.size:=by
        conv=>lhs;rw [show j=(j - τ.size)+τ.size by omega,Nat.add_mod_right]
      exact ⟨x,by rw [e1,List.getElem?_cons_succ];exact h1,by rw [List.getElem?_append_right (by omega),hl,h2,e2]⟩
theorem qi8 {φ:Nat→Option Obj} {w:World} (hφ:∀ k ob,φ k=some ob→w.heap[k]?=some ob) {τ:Row} (h:qcv τ=true) (hs:0<τ.size) {xs:List (den τ)} {v:Value} (hv:VR (Emb.fro φ) (.fz τ xs) v):∃ A c,v=.slice A xs.length c∧Sl w τ.size A xs.length c (qhz τ xs)∧(A=none→c=0):=by
  cases hv with
  | fz hf =>
    obtain ⟨A,c,rfl,h1,h0,h2⟩:=hf
    refine ⟨A,c,rfl,⟨h1,qi3 h xs,fun hn=>?_⟩,h0⟩
    obtain ⟨b,o,rfl,hr0⟩:=h2 0 _ (q2r hn)
    refine ⟨b,o,rfl,?_,fun j u hu=>?_⟩
    · have hlen := qi2 τ h (q2q τ xs 0)
      obtain ⟨u,hu⟩:∃ u,(qhy τ (q2q τ xs 0))[0]?=some u:=⟨_,List.getElem?_eq_getElem (by omega)⟩
      have:=qi6 hφ τ h _ _ hr0 0 u hu
      unfold World.cell? at this
      cases hb:w.heap[b]? with
      | none=>rw [show w.heap[(⟨b,o+0*τ.size+0,none⟩:Addr).block]?=w.heap[b]? from rfl,hb] at this;cases this
      | some ob=>exact (Array.getElem?_eq_some_iff.1 hb).1
    · have hj : j < xs.length * τ.size := by rw [← qi3 h xs]; exact (List.getElem?_eq_some_iff.1 hu).1
      obtain ⟨x,h3,h4⟩:=qi7 h hs xs j hj
      obtain ⟨b',o',e1,e2⟩:=h2 _ x h3
      injection e1 with e1;injection e1 with e3 e4;subst e3 e4
      have:=qi6 hφ τ h x _ e2 (j % τ.size) u (by rw [← h4];exact hu)
      rwa [Nat.add_assoc,Nat.mul_comm,Nat.div_add_mod] at this
theorem qi9 {φ:Nat→Option Obj} {w:World} (hφ:∀ k ob,φ k=some ob→w.heap[k]?=some ob) {l:List TP} {v:Value} (hv:VR (Emb.fro φ) (.agg [.fz RP l]) v):∃ A c,v=.agg #[.slice A (l.map ofP).length c]∧Sl w 3 A (l.map ofP).length c (vp (l.map ofP))∧(A=none→c=0):=by
  cases hv with
  | agg hl hh =>
    obtain ⟨u,rfl,hu⟩:=vrs1 ⟨hl,hh⟩
    obtain ⟨A,c,rfl,h1,h2⟩:=qi8 hφ (τ:=RP) rfl (by decide) hu
    have e1:(l.map ofP).length=l.length:=List.length_map ofP
    have h3:Sl w 3 A l.length c (vp (l.map ofP)):=by rw [← qi0 l];exact h1
    exact ⟨A,c,by rw [e1];rfl,by rw [e1];exact h3,h2⟩
theorem qib {η:Emb} {p:den RP} {v:Value} (hv:VR η (.agg (split RP p)) v):v=.agg #[.int .i64 (ofP p).id,.int .i64 (ofP p).a,.int .i64 (ofP p).b]:=by
  cases hv with
  | agg hl hh =>
    obtain ⟨u1,vs,rfl,h1,h2⟩:=VRs.uncons (c:=.int .i64 p.1) ⟨hl,hh⟩
    obtain ⟨u2,vs,rfl,h3,h4⟩:=VRs.uncons (c:=.int .i64 p.2.1) h2
    obtain ⟨u3,rfl,h5⟩:=vrs1 (c:=.int .i64 p.2.2.1) h4
    cases h1;cases h3;cases h5;rfl
theorem qic {η:Emb} {a b:Int} {v:Value} (hv:VR η (.agg [.int .i64 a,.int .i64 b]) v):v=.agg #[.int .i64 a,.int .i64 b]:=by
  cases hv with
  | agg hl hh =>
    obtain ⟨u1,u2,rfl,h1,h2⟩:=vrs2 ⟨hl,hh⟩
    cases h1;cases h2;rfl
theorem qid {η:Emb} {k:IntKind} {a:Int} {v:Value} (hv:VR η (.int k a) v):v=.int k a:=by cases hv;rfl
theorem VR.tupL {η:Emb} {cs:List LV} {vs:List Value} (h:VRs η cs vs):VR η (.tup cs) (.tuple vs.toArray):=.tup h.1 h.2
theorem VR.aggL {η:Emb} {cs:List LV} {vs:List Value} (h:VRs η cs vs):VR η (.agg cs) (.agg vs.toArray):=.agg h.1 h.2
def qif (w:World) (φ:Nat→Option Obj) (er:LV×List Ob) (e:Ending) (w':World):Prop:=∃ v' η',e=.returned v'∧VR η' er.1 v'∧(∀ M,HR M η' (q7n er.2) w')∧Fr w (noK φ) (q7n er.2) η' w'
theorem qig {w:World} {φ:Nat→Option Obj} (hφ:∀ k ob,φ k=some ob→w.heap[k]?=some ob) {l:LV} {v:Value} (hv:VR (Emb.fro φ) l v) (y:Beyond):qif w φ (l,[]) (.returned v) (ext w y):=by
  have hb:=q9j w y
  have h2:∀ k ob,φ k=some ob→(ext w y).heap[k]?=some ob:=fun k ob hk=>by rw [hb.block k (Array.getElem?_eq_some_iff.1 (hφ k ob hk)).1];exact hφ k ob hk
  exact ⟨v,_,rfl,hv,q9b h2,hb.size,fun k hk _=>hb.block k hk,(fun k ⟨b,ob,L,h,_⟩=>by rw [q7q] at h;simp at h),fun _ _ h=>h,fun _ _ h=>.inl h,hb.os,hb.tape,hb.output,hb.mono,fun _ _ h=>h.elim⟩
theorem qih {w:World} {φ:Nat→Option Obj} (hφ:∀ k ob,φ k=some ob→w.heap[k]?=some ob) {τ:Row} (hp:qcv τ=true) {xs:List (den τ)} {n:Nat} (hn:xs.length=n) {A:Option Addr} {c:Nat} {e:TypeId} {y:Beyond} {vals:List Value} (ho:Own (ext w y) w.heap.size e τ.size A n c vals) (hvals:qhz τ xs=vals)
    {l:LV} {v:Value} (hv:∀ η:Emb,η.hdr 0=some (.slice A n c)→VR η l v):qif w φ (l,[.rows τ xs]) (.returned v) (ext w y):=by
  subst hn
  have hb:=q9j w y
  have h2:∀ k ob,φ k=some ob→(ext w y).heap[k]?=some ob:=fun k ob hk=>by rw [hb.block k (Array.getElem?_eq_some_iff.1 (hφ k ob hk)).1];exact hφ k ob hk
  have hlt:∀ k ob,φ k=some ob→k<w.heap.size:=fun k ob hk=>(Array.getElem?_eq_some_iff.1 (hφ k ob hk)).1
  have get0:∀ (b:Nat) ob,(q7n [Ob.rows τ xs]).get b=some ob→b=0∧ob=.rows τ xs:=fun b ob h=>by
    rw [q7q] at h
    cases b with
    | zero=>simp at h;exact ⟨rfl,h.symm⟩
    | succ b=>simp at h
  rcases Own.row ho with ⟨rfl,hn,rfl,hx⟩ | ⟨g,cur,rfl,hrow,hnc,htake⟩
  · have hxs : xs = [] := List.eq_nil_of_length_eq_zero hn
    subst hxs
    refine ⟨v,⟨fun _=>none,fun b=>if b=0 then some (.slice none 0 0) else none,φ⟩,rfl,hv _ rfl,fun M=>⟨fun b hb1 _=>?_,fun b ob h=>?_,fun b ob h=>?_,fun b1 b2 o1 o2 L1 L2 _ _ h=>(by cases h),h2,fun k ⟨b,ob,L,_,h,_⟩=>(by cases h),fun b v h=>?_⟩,
      hb.size,fun k hk _=>hb.block k hk,fun k ⟨b,ob,L,_,h,_⟩=>(by cases h),fun _ _ h=>h,fun _ _ h=>.inl h,hb.os,hb.tape,hb.output,hb.mono,fun _ _ h=>h.elim⟩
    · have hb1' : 1 ≤ b := hb1
      exact ⟨rfl,if_neg (by omega)⟩
    · obtain ⟨rfl,_⟩:=get0 b ob h;exact Nat.zero_lt_one
    · obtain ⟨rfl, rfl⟩ := get0 b ob h
      exact .none (A:=none) rfl rfl
    · simp only at h
      split at h
      · injection h with h;exact ⟨_,_,_,h.symm⟩
      · cases h
  · have hg : (ext w y).heap[g]? = some (.cells cur.toArray e (0, 0)) := hrow.2.1
    have hlen:=hrow.len
    have hlb:∀ (k:Nat),LB (q7n [Ob.rows τ xs]) ⟨fun b=>if b=0 then some ⟨g,0,c*τ.size⟩ else none,fun b=>if b=0 then some (.slice (some ⟨g,0,none⟩) xs.length c) else none,φ⟩ k→k=g:=fun k ⟨b,ob,L,hb1,h,hk⟩=>by
      obtain ⟨rfl,_⟩:=get0 b ob hb1
      simp only [if_pos] at h
      injection h with h;subst h;exact hk.symm
    refine ⟨v,⟨fun b=>if b=0 then some ⟨g,0,c*τ.size⟩ else none,fun b=>if b=0 then some (.slice (some ⟨g,0,none⟩) xs.length c) else none,φ⟩,rfl,hv _ rfl,fun M=>⟨fun b hb1 _=>?_,fun b ob h=>?_,fun b ob h=>?_,fun b1 b2 o1 o2 L1 L2 h1 h2 _ _ _=>?_,h2,fun k hk=>?_,fun b v h=>?_⟩,
      hb.size,fun k hk _=>hb.block k hk,fun k hk=>?_,fun _ _ h=>h,fun _ _ h=>.inl h,hb.os,hb.tape,hb.output,hb.mono,fun _ _ h=>h.elim⟩
    · have hb1' : 1 ≤ b := hb1
      exact ⟨if_neg (by omega),if_neg (by omega)⟩
    · obtain ⟨rfl,_⟩:=get0 b ob h;exact Nat.zero_lt_one
    · obtain ⟨rfl, rfl⟩ := get0 b ob h
      refine .rows (L:=⟨g,0,c*τ.size⟩) (c:=c) rfl ⟨hrow.lt,?_,fun j _ hj=>⟨?_,hrow.frozen j⟩,fun j cc hc=>?_⟩ rfl hnc (by simp)
      · rw [q9];show 0+_≤c*τ.size;have:=Nat.mul_le_mul_right τ.size hnc;omega
      · have hj' : j < cur.length := by rw [hlen]; exact hj
        have:=hrow.cell (List.getElem?_eq_getElem hj')
        rw [this];rfl
      · obtain ⟨u, h3, h4⟩ := (qi5 (η := ⟨fun b => if b = 0 then some ⟨g, 0, c * τ.size⟩ else none, fun b => if b = 0 then some (.slice (some ⟨g, 0, none⟩) xs.length c) else none, φ⟩) hp xs).get hc
        refine ⟨u,?_,h4⟩
        rw [hvals,← htake,List.getElem?_take] at h3
        split at h3
        · have:=hrow.cell h3;simpa using this
        · cases h3
    · obtain ⟨rfl, _⟩ := get0 b1 o1 h1
      obtain ⟨rfl,_⟩:=get0 b2 o2 h2
      rfl
    · have hk := hlb k hk
      subst hk
      show φ k=none
      cases hf:φ k with
      | none=>rfl
      | some ob=>have:=hlt k ob hf;have:=hrow.1;omega
    · simp only at h
      split at h
      · injection h with h;exact ⟨_,_,_,h.symm⟩
      · cases h
    · have hk:=hlb k hk;subst hk;exact .inl hrow.1
theorem qii {P : Program} {S : Spec} (hb : ∃ fn c, P.funcs[S.g]? = some fn ∧ fn.body = some c ∧ ¬ fn.name = "runtime.NumGoroutine")
    (h:∀ x r,S.F x=some r→∀ (w:World) (φ:Nat→Option Obj) (vs:List Value),(∀ k ob,φ k=some ob→w.heap[k]?=some ob)→VRs (Emb.fro φ) (q99 S.τs x) vs→Calls P S.g vs.toArray w (qif w φ (S.enc r))):COK P S:=⟨h,hb⟩
theorem qij {P : Program} {g : Nat} {fn : Func} (h1 : P.funcs[g]? = some fn) (h2 : fn.body.isSome = true) (h3 : (fn.name == "runtime.NumGoroutine") = false) : ∃ fn c, P.funcs[g]? = some fn ∧ fn.body = some c ∧ ¬ fn.name = "runtime.NumGoroutine" := by
  obtain ⟨c,hc⟩:=Option.isSome_iff_exists.1 h2
  exact ⟨fn,c,h1,hc,by simpa using h3⟩
end Go.Tx

namespace Go
open RowKit
section
variable {P:Program} {ops:Array Oper} {o:Oper} {a:Act} {K:Act→World→Prop} {Q:Exit→Act→World→Prop} {E:Prop}
end
end Go
namespace Go
open RowKit
section
variable {P:Program} {ops:Array Oper} {rest:List Oper} {o:Oper} {a:Act} {Q:Exit→Act→World→Prop}
end
end Go
namespace Go
open RowKit
end Go

namespace Go
open RowKit
section
variable {P:Program} {ops:Array Oper} {o:Oper} {a:Act} {K:Act→World→Prop} {Q:Exit→Act→World→Prop} {E:Prop}
end
end Go

namespace Go
open RowKit
structure Held (W:World) (b o:Nat) (v:Value):Prop where
  lt:b<W.heap.size
  eq:W.cell? ⟨b,o,none⟩=some v
  fr:W.frozen? ⟨b,o,none⟩=false
theorem Held.bel {W W':World} {b o:Nat} {v:Value} (h:Held W b o v) (hb:Bel W W'):Held W' b o v:=by
  obtain ⟨x,rfl⟩:=ext_of hb
  exact ⟨by rw [q9f];have:=h.lt;omega,by rw [qcd _ _ _ _ h.lt];exact h.eq,by rw [qce _ _ _ _ h.lt];exact h.fr⟩
theorem Held.new {W W':World} {cs:Array Value} {e:TypeId} {j:Nat} {v:Value} (hb:Bel (W.alloc (.cells cs e)) W') (hv:cs[j]?=some v):Held W' W.heap.size j v:=by
  have h:Held (W.alloc (.cells cs e)) W.heap.size j v:=⟨by simp,by simp [go_sem,hv],by simp [go_sem]⟩
  exact h.bel hb
theorem qiu {w W':World} {B:Nat} {e:TypeId} {size n c:Nat} {A:Option Addr} {xs:List Value} (h:∃ y,W'=ext w y∧Own (ext w y) B e size A n c xs):∃ y,W'=ext w y:=let ⟨y,hy,_⟩:=h;⟨y,hy⟩
theorem qiv {w W':World} {B:Nat} {e:TypeId} {size n c:Nat} {A:Option Addr} {xs:List Value} (h:∃ y,W'=ext w y∧Own (ext w y) B e size A n c xs):Own W' B e size A n c xs:=by
  obtain ⟨y,rfl,h⟩:=h;exact h
structure Apart (g:Nat) (W W':World):Prop where
  os:W'.os=W.os
  tape:W'.tape=W.tape
  output:W'.output=W.output
  size:W'.heap.size=W.heap.size
  drawn:W.drawn≤W'.drawn
  block:∀ b,b≠g→W'.heap[b]?=W.heap[b]?
theorem Apart.refl (g:Nat) (W:World):Apart g W W:=⟨rfl,rfl,rfl,rfl,Nat.le_refl _,fun _ _=>rfl⟩
theorem Apart.trans {g:Nat} {W W1 W2:World} (h:Apart g W W1) (k:Apart g W1 W2):Apart g W W2 :=
  ⟨k.os.trans h.os,k.tape.trans h.tape,k.output.trans h.output,k.size.trans h.size,Nat.le_trans h.drawn k.drawn,fun b hb=>(k.block b hb).trans (h.block b hb)⟩
theorem Apart.setCell {g:Nat} {W W1:World} (h:Apart g W W1) (o:Nat) (u:Value):Apart g W (W1.setCell ⟨g,o,none⟩ u) :=
  h.trans ⟨rfl,rfl,rfl,by simp [World.setCell],Nat.le_refl _,fun b hb=>by unfold World.setCell;simp only [Array.getElem?_modify,if_neg (Ne.symm hb)]⟩
theorem Apart.bel {g:Nat} {w W W1:World} (h:Apart g W W1) (hb:Bel w W) (hg:w.heap.size≤g):Bel w W1 :=
  ⟨⟨h.os.trans hb.os,h.tape.trans hb.tape,h.output.trans hb.output,by rw [h.size];exact hb.size,fun k hk=>(h.block k (by omega)).trans (hb.block k hk)⟩,Nat.le_trans hb.mono h.drawn⟩
theorem Held.apart {g:Nat} {W W':World} {b o:Nat} {v:Value} (h:Held W b o v) (ha:Apart g W W') (hne:b≠g):Held W' b o v :=
  ⟨by rw [ha.size];exact h.lt,by have:=h.eq;unfold World.cell? at this ⊢;rw [ha.block b hne];exact this,by have:=h.fr;unfold World.frozen? at this ⊢;rw [ha.block b hne];exact this⟩
theorem Sl.apart {g:Nat} {W W':World} {size n c:Nat} {A:Option Addr} {xs:List Value} (h:Sl W size A n c xs) (ha:Apart g W W') (hne:∀ b o,A=some ⟨b,o,none⟩→b≠g):Sl W' size A n c xs :=
  ⟨h.1,h.2.1,fun hn=>by
    obtain ⟨b,o,hA,hb,hc⟩:=h.2.2 hn
    refine ⟨b,o,hA,by rw [ha.size];exact hb,fun j u hu=>?_⟩
    have h1:=hc j u hu
    unfold World.cell? at h1 ⊢
    rw [ha.block b (hne b o hA)];exact h1⟩
end Go
namespace Go
open RowKit
theorem Own.ats {W:World} {B:Nat} {e:TypeId} {size n c g:Nat} {xs:List Value} (h:Own W B e size (some ⟨g,0,none⟩) n c xs):B≤g∧g<W.heap.size:=by
  rcases h.row with ⟨h0,_⟩ | ⟨g',cur,h0,hr,_⟩
  · cases h0
  · have e1 : g = g' := by injection h0 with h0; injection h0
    subst e1
    exact ⟨hr.1,hr.lt⟩
theorem Own.shape {W:World} {B:Nat} {e:TypeId} {size n c:Nat} {A:Option Addr} {xs:List Value} (h:Own W B e size A n c xs):(A=none∧n=0) ∨ ∃ g,A=some ⟨g,0,none⟩∧B≤g∧g<W.heap.size:=by
  rcases h.row with ⟨h0,h1,_⟩ | ⟨g',cur,h0,hr,_⟩
  · exact .inl ⟨h0,h1⟩
  · exact .inr ⟨g',h0,hr.1,hr.lt⟩
end Go

namespace Go
open RowKit
structure Box (W:World) (b:Nat) (cs:Array Value):Prop where
  lt:b<W.heap.size
  eq:∀ (j:Nat) (v:Value),cs[j]?=some v→W.cell? ⟨b,j,none⟩=some v
  fr:∀ (j:Nat),W.frozen? ⟨b,j,none⟩=false
theorem Box.bel {W W':World} {b:Nat} {cs:Array Value} (h:Box W b cs) (hb:Bel W W'):Box W' b cs:=by
  obtain ⟨x,rfl⟩:=ext_of hb
  exact ⟨by rw [q9f];have:=h.lt;omega,fun j v hv=>by rw [qcd _ _ _ _ h.lt];exact h.eq j v hv,fun j=>by rw [qce _ _ _ _ h.lt];exact h.fr j⟩
theorem Box.new {W W':World} {cs:Array Value} {e:TypeId} (hb:Bel (W.alloc (.cells cs e)) W') {b:Nat} (hbk:b=W.heap.size):Box W' b cs:=by
  subst hbk
  have h:Box (W.alloc (.cells cs e)) W.heap.size cs:=⟨by simp,fun j v hv=>by simp [go_sem,hv],fun j=>by simp [go_sem]⟩
  exact h.bel hb
end Go

namespace Go
end Go

namespace Go
open RowKit
def qix (V:World) (e:TypeId) (g:Nat):Prop:=∃ W:World,Bel (W.alloc (.cells #[] e)) V∧g=W.heap.size
theorem qix.here {W:World} {e:TypeId} {g:Nat} (h:g=W.heap.size):qix (W.alloc (.cells #[] e)) e g:=⟨W,Bel.refl _,h⟩
theorem qix.alloc {W:World} {e:TypeId} {g:Nat} {o:Obj} (h:qix W e g):qix (W.alloc o) e g:=by obtain ⟨W0,h1,h2⟩:=h;exact ⟨W0,h1.alloc _,h2⟩
theorem qix.ext {W:World} {e:TypeId} {g:Nat} {x:Beyond} (h:qix W e g):qix (ext W x) e g:=by obtain ⟨W0,h1,h2⟩:=h;exact ⟨W0,h1.ext _,h2⟩
theorem qix.drew {W:World} {e:TypeId} {g:Nat} (h:qix W e g):qix W.drew e g:=by obtain ⟨W0,h1,h2⟩:=h;exact ⟨W0,h1.drew,h2⟩
def qiy (A B:Option Addr):Prop:=∀ k,A=some ⟨k,0,none⟩→B=some ⟨k,0,none⟩→False
theorem qiy.symm {A B:Option Addr} (h:qiy A B):qiy B A:=fun k h1 h2=>h k h2 h1
structure Swp (V V' W W':World):Prop where
  base:V.heap.size=V'.heap.size
  size:W.heap.size=W'.heap.size
  hi:∀ k,V.heap.size≤k→W'.heap[k]?=W.heap[k]?
theorem Swp.refl {V V':World} (h:V.heap.size=V'.heap.size):Swp V V' V V':=⟨h,h,fun k hk=>by rw [Array.getElem?_eq_none hk,Array.getElem?_eq_none (by omega)]⟩
theorem Swp.ext {V V' W W':World} (h:Swp V V' W W') (x:Beyond):Swp V V' (ext W x) (ext W' x):=by
  refine ⟨h.base,by simp [h.size],fun k hk=>?_⟩
  have e1:(Go.ext W x).heap=W.heap++x.objs:=by unfold Go.ext;rfl
  have e2:(Go.ext W' x).heap=W'.heap++x.objs:=by unfold Go.ext;rfl
  rw [e1,e2]
  rcases Nat.lt_or_ge k W.heap.size with hl | hl
  · rw [Array.getElem?_append_left hl,Array.getElem?_append_left (by have:=h.size;omega)];exact h.hi k hk
  · rw [Array.getElem?_append_right hl,Array.getElem?_append_right (by have:=h.size;omega),h.size]
theorem Swp.alloc {V V' W W':World} (h:Swp V V' W W') (o:Obj):Swp V V' (W.alloc o) (W'.alloc o):=by
  refine ⟨h.base,by simp [h.size],fun k hk=>?_⟩
  have e1:(W.alloc o).heap=W.heap.push o:=by unfold World.alloc;rfl
  have e2:(W'.alloc o).heap=W'.heap.push o:=by unfold World.alloc;rfl
  rw [e1,e2,Array.getElem?_push,Array.getElem?_push,h.hi k hk,h.size]
theorem Swp.drew {V V' W W':World} (h:Swp V V' W W'):Swp V V' W.drew W'.drew:=⟨h.base,h.size,h.hi⟩
theorem Box.here {W:World} {cs:Array Value} {e:TypeId} {b:Nat} (hb:b=W.heap.size):Box (W.alloc (.cells cs e)) b cs:=Box.new (Bel.refl _) hb
theorem Box.alloc {W:World} {cs:Array Value} {b:Nat} {o:Obj} (h:Box W b cs):Box (W.alloc o) b cs:=h.bel ((Bel.refl _).alloc _)
theorem Box.ext {W:World} {cs:Array Value} {b:Nat} {x:Beyond} (h:Box W b cs):Box (ext W x) b cs:=h.bel (q9j _ _)
theorem Box.drew {W:World} {cs:Array Value} {b:Nat} (h:Box W b cs):Box W.drew b cs:=h.bel (Bel.refl _).drew
theorem Own.here {W:World} {base:Nat} {cs:Array Value} {e:TypeId} {size n b:Nat} (hbk:b=W.heap.size) (hb:base≤b) (hn:n≤1000000) (hs:cs.size=n*size):Own (W.alloc (.cells cs e)) base e size (some ⟨b,0,none⟩) n n cs.toList:=by
  subst hbk
  exact World.ownsRow_lit W cs n hb (Nat.le_trans hn (by unfold maxLen;decide)) hs
theorem Own.ext' {W:World} {base:Nat} {xs:List Value} {e:TypeId} {size n c:Nat} {A:Option Addr} {x:Beyond} (h:Own W base e size A n c xs):Own (Go.ext W x) base e size A n c xs:=h.ext x
def PBut (g:Nat) (a b:Array Obj):Prop:=∀ k,k≠g→k<a.size→b[k]?=a[k]?
def qjb (g:Nat) (a b:Array Obj):Prop:=a.size=b.size∧∀ k,k≠g→b[k]?=a[k]?
theorem qjb.refl (g:Nat) (a:Array Obj):qjb g a a:=⟨rfl,fun _ _=>rfl⟩
theorem qjb.both {g:Nat} {a b:Array Obj} (h:qjb g a b) (c:Array Obj):qjb g (a++c) (b++c):=by
  refine ⟨by simp [h.1],fun k hk=>?_⟩
  rcases Nat.lt_or_ge k a.size with hl | hl
  · rw [Array.getElem?_append_left hl,Array.getElem?_append_left (by have:=h.1;omega)];exact h.2 k hk
  · rw [Array.getElem?_append_right hl,Array.getElem?_append_right (by have:=h.1;omega),h.1]
theorem qjb.swap {g:Nat} {a b:Array Obj} {o o':Obj} (h:qjb g a b) (hg:g=a.size):qjb g (a ++ #[o]) (b ++ #[o']):=by
  refine ⟨by simp [h.1],fun k hk=>?_⟩
  rcases Nat.lt_or_ge k a.size with hl | hl
  · rw [Array.getElem?_append_left hl,Array.getElem?_append_left (by have:=h.1;omega)];exact h.2 k hk
  · have hs := h.1
    have h1:a.size+1≤k:=by omega
    rw [Array.getElem?_eq_none (by first | simpa using h1 | (rw [hs] at h1;simpa using h1)),Array.getElem?_eq_none (by first | simpa using h1 | (rw [hs] at h1;simpa using h1))]
theorem PBut.same {g:Nat} {a b:Array Obj} (h:qjb g a b):PBut g a b:=fun k hk _=>h.2 k hk
theorem PBut.le {g:Nat} {a b:Array Obj} (h:PBut g a b) {k:Nat} (hk:k≠g) (hl:k<a.size):k<b.size:=by
  have h1:=h k hk hl
  rcases Nat.lt_or_ge k b.size with h2 | h2
  · exact h2
  · rw [Array.getElem?_eq_none h2,Array.getElem?_eq_getElem hl] at h1;cases h1
theorem PBut.right {g:Nat} {a b:Array Obj} (h:PBut g a b) (c:Array Obj):PBut g a (b++c):=fun k hk hl=>by
  rw [Array.getElem?_append_left (h.le hk hl)];exact h k hk hl
theorem qje {W:World} {b g o:Nat} {u:Value} (hne:b≠g):(W.setCell ⟨b,o,none⟩ u).heap[g]?=W.heap[g]?:=by
  unfold World.setCell
  simp only [Array.getElem?_modify,if_neg hne]
theorem Box.other {W:World} {b g:Nat} {cs:Array Value} (h:Box W g cs) (o:Nat) (u:Value) (hne:b≠g):Box (W.setCell ⟨b,o,none⟩ u) g cs:=by
  refine ⟨by have:=h.lt;simpa using this,fun j v hv=>?_,fun j=>?_⟩
  · rw [← h.eq j v hv];exact World.cell?_of_block (qje hne)
  · rw [← h.fr j];exact World.frozen?_of_block (qje hne)
section
variable {P:Program} {ops:Array Oper} {o:Oper} {a:Act} {K:Act→World→Prop} {Q:Exit→Act→World→Prop} {E:Prop}
end
end Go

namespace Go.Tx
open Go Go.Pel
def unI (l:List Int):List TI1:=l.map toI
def idsI (l:List TI1):List Int:=l.map fun x=>x.1
def ptsL (l:List TP):List Pt:=l.map ofP
theorem qjm (l:List Int):idsI (unI l)=l:=by
  unfold idsI unI;rw [List.map_map];exact List.map_id _
theorem qjo (l:List Int):(unI l).length=l.length:=List.length_map _
theorem qjq (l:List TP):(ptsL l).length=l.length:=List.length_map _
theorem qjr (l:List Int):qhz RI (unI l)=vi l:=by rw [qi1];exact congrArg vi (qjm l)
theorem qjt {φ:Nat→Option Obj} {w:World} (hφ:∀ k ob,φ k=some ob→w.heap[k]?=some ob) {l:List TP} {v:Value} (hv:VR (Emb.fro φ) (.agg [.fz RP l]) v):∃ A c,v=.agg #[.slice A (ptsL l).length c]∧Sl w 3 A (ptsL l).length c (vp (ptsL l))∧(A=none→c=0):=qi9 hφ hv
def i64B (n:Int):Bool:=decide (-9223372036854775808≤n)&&decide (n≤9223372036854775807)
theorem qjv {n:Int} (h:i64B n=true):-9223372036854775808≤n∧n≤9223372036854775807:=by
  unfold i64B at h;simpa using h
theorem qjy {α:Type} {c:Bool} {a r:α} (h:(bif c then some a else none)=some r):c=true∧a=r:=by
  cases c with
  | true=>injection h with h;exact ⟨rfl,h⟩
  | false=>cases h
theorem qjz {w:World} {b:Nat}:∀ (τ:Row),qcv τ=true→∀ (x:den τ) (o:Nat),(∀ (j:Nat) u,(qhy τ x)[j]?=some u→w.cell? ⟨b,o+j,none⟩=some u)→RowF (fun k=>w.heap[k]?) τ x b o
  | .nil,_,_,_,_=>trivial
  | .int k r,h,x,o,hc=>⟨by
      have:=hc 0 _ (by rw [qhy];rfl)
      rw [Nat.add_zero,qf] at this
      cases hb:w.heap[b]? with
      | none=>rw [hb] at this;cases this
      | some ob=>rw [hb] at this;exact ⟨ob,hb,this⟩,qjz r h x.2 (o+1) fun j u hu=>by rw [show o+1+j=o+(j+1) by omega];exact hc (j+1) u (by rw [qhy];simpa using hu)⟩
  | .bool r,h,x,o,hc=>⟨by
      have:=hc 0 _ (by rw [qhy];rfl)
      rw [Nat.add_zero,qf] at this
      cases hb:w.heap[b]? with
      | none=>rw [hb] at this;cases this
      | some ob=>rw [hb] at this;exact ⟨ob,hb,this⟩,qjz r h x.2 (o+1) fun j u hu=>by rw [show o+1+j=o+(j+1) by omega];exact hc (j+1) u (by rw [qhy];simpa using hu)⟩
  | .sl _ r,h,_,_,_=>by cases h
theorem qk0 {τ:Row} (h:qcv τ=true):∀ (xs:List (den τ)) (i:Nat) x,xs[i]?=some x→∀ (j:Nat) u,(qhy τ x)[j]?=some u→(qhz τ xs)[i*τ.size+j]?=some u
  | [],i,x,hx,j,u,hu=>by simp at hx
  | y :: ys, 0, x, hx, j, u, hu => by
    simp only [List.getElem?_cons_zero,Option.some.injEq] at hx;subst hx
    rw [qhz,Nat.zero_mul,Nat.zero_add]
    have hj:=(List.getElem?_eq_some_iff.1 hu).1
    rw [List.getElem?_append_left hj];exact hu
  | y :: ys, i + 1, x, hx, j, u, hu => by
    rw [qhz]
    have hl:=qi2 τ h y
    rw [List.getElem?_append_right (by rw [hl,Nat.succ_mul];omega),hl,show (i+1)*τ.size+j - τ.size=i*τ.size+j by rw [Nat.succ_mul];omega]
    exact qk0 h ys i x (by simpa using hx) j u hu
theorem qk1 {w:World} {τ:Row} (h:qcv τ=true) {xs:List (den τ)} {A:Option Addr} {n c:Nat} {vals:List Value} (hn:xs.length=n) (hv:qhz τ xs=vals) (hs:Sl w τ.size A n c vals) (h0:A=none→c=0):VR (Emb.fro fun k=>w.heap[k]?) (.fz τ xs) (.slice A n c):=by
  subst hn;subst hv
  refine .fz ⟨A,c,rfl,hs.1,h0,fun i x hx=>?_⟩
  have hi:=(List.getElem?_eq_some_iff.1 hx).1
  obtain ⟨b,o,hA,_,hc⟩:=hs.2.2 (by omega)
  refine ⟨b,o,hA,qjz τ h x _ fun j u hu=>?_⟩
  rw [Nat.add_assoc]
  exact hc _ u (qk0 h xs i x hx j u hu)
def toPs (l:List Pt):List TP:=l.map toP
theorem qk2 (l:List Pt):(toPs l).length=l.length:=List.length_map _
theorem qk3 (l:List Pt):ptsL (toPs l)=l:=by unfold ptsL toPs;rw [List.map_map];exact List.map_id _
theorem qk4 (l:List Pt):qhz RP (toPs l)=vp l:=(qi0 (toPs l)).trans (congrArg vp (qk3 l))
theorem qk5 {w:World} {A:Option Addr} {c:Nat} {l:List Int} (hs:Sl w 1 A l.length c (vi l)) (h0:A=none→c=0):VR (Emb.fro fun k=>w.heap[k]?) (.fz RI (unI l)) (.slice A l.length c):=qk1 (τ:=RI) rfl (qjo l) (qjr l) hs h0
theorem qk6 {w:World} {A:Option Addr} {c:Nat} {l:List Pt} (hs:Sl w 3 A l.length c (vp l)) (h0:A=none→c=0):VR (Emb.fro fun k=>w.heap[k]?) (.agg [.fz RP (toPs l)]) (.agg #[.slice A l.length c]):=VR.aggL (VRs.cons (qk1 (τ:=RP) rfl (qk2 l) (qk4 l) hs h0) VRs.nil)
theorem qk8 {w:World} (n d:Int):VR (Emb.fro fun k=>w.heap[k]?) (.agg [.int .i64 n,.int .i64 d]) (.agg #[.int .i64 n,.int .i64 d]):=VR.aggL (VRs.cons (.int _ _) (VRs.cons (.int _ _) VRs.nil))
end Go.Tx

namespace Go.Proofs.Ytpgpbhjkgciggaa
open Go Go.Tx Go.Proofs.Try
abbrev Ri:Go.Tx.Row:=(.int .i64 .nil)
abbrev Di:Type:=(Int×Unit)
abbrev zi:Di:=(0,())
abbrev Ru:Go.Tx.Row:=(.int .u64 .nil)
abbrev Du:Type:=(Int×Unit)
abbrev Riii:Go.Tx.Row:=(.int .i64 (.int .i64 (.int .i64 .nil)))
abbrev Diii:Type:=(Int×(Int×(Int×Unit)))
abbrev ziii:Diii:=(0,0,0,())
abbrev qka:Go.Tx.Row:=(.sl Riii .nil)
abbrev qkb:Type:=(List Diii×Unit)
abbrev qkc:qkb:=([],())
abbrev Rii:Go.Tx.Row:=(.int .i64 (.int .i64 .nil))
abbrev Dii:Type:=(Int×(Int×Unit))
abbrev zii:Dii:=(0,0,())
abbrev RLiE:Go.Tx.Row:=(.sl Ri .nil)
abbrev DLiE:Type:=(List Di×Unit)
abbrev qkd:Go.Tx.Row:=(.sl qka .nil)
abbrev qke:Type:=(List qkb×Unit)
abbrev Rbuu:Go.Tx.Row:=(.bool (.int .u64 (.int .u64 .nil)))
abbrev Dbuu:Type:=(Bool×(Int×(Int×Unit)))
theorem mixed:prog.follows .mixedOrders=true:=by kernel_rfl
def tysT:Tys:=[(2,⟨.int .i64,1,false,[.int .i64 0],false,false⟩),
  (3,⟨.int .i64,1,false,[.int .i64 0],false,false⟩),
  (4,⟨.bool,1,false,[.bool false],false,false⟩),
  (5,⟨.int .u8,1,false,[.int .u8 0],false,false⟩),
  (6,⟨.int .u8,1,false,[.int .u8 0],false,false⟩),
  (9,⟨.str,1,false,[.undef],false,false⟩),
  (10,⟨.str,1,false,[.undef],false,false⟩),
  (11,⟨.str,1,false,[.undef],false,false⟩),
  (12,⟨.int .u64,1,false,[.int .u64 0],false,false⟩),
  (21,⟨.int .i32,1,false,[.int .i32 0],false,false⟩),
  (22,⟨.slice 42 Riii,1,false,[.nils],false,false⟩),
  (24,⟨.struct [(0,22)],1,true,[.nils],false,false⟩),
  (25,⟨.slice 48 Riii,1,false,[.nils],false,false⟩),
  (28,⟨.int .i64,1,false,[.int .i64 0],false,false⟩),
  (36,⟨.struct [(0,2),(1,2)],2,true,[.int .i64 0,.int .i64 0],true,false⟩),
  (37,⟨.slice 3 Ri,1,false,[.nils],false,false⟩),
  (42,⟨.struct [(0,3),(1,2),(2,2)],3,true,[.int .i64 0,.int .i64 0,.int .i64 0],false,false⟩),
  (48,⟨.struct [(0,36),(2,3)],3,true,[.int .i64 0,.int .i64 0,.int .i64 0],true,false⟩),
  (49,⟨.slice 25 qka,1,false,[.nils],false,false⟩),
  (56,⟨.slice 36 Rii,1,false,[.nils],false,false⟩),
  (59,⟨.other,1,false,[.undef],false,false⟩),
  (81,⟨.other,1,false,[.undef],false,false⟩),
  (85,⟨.int .u64,1,false,[.int .u64 0],false,false⟩),
  (88,⟨.other,1,false,[.undef],false,false⟩),
  (103,⟨.int .u64,1,false,[.int .u64 0],false,false⟩),
  (109,⟨.int .i64,1,false,[.int .i64 0],false,false⟩),
  (116,⟨.int .u32,1,false,[.int .u32 0],false,false⟩),
  (122,⟨.struct [(0,4),(1,103),(2,103)],3,true,[.bool false,.int .u64 0,.int .u64 0],false,false⟩),
  (125,⟨.struct [(0,2),(1,103)],2,true,[.int .i64 0,.int .u64 0],false,false⟩),
  (127,⟨.array 2 2,2,true,[.int .i64 0,.int .i64 0],false,false⟩),
  (128,⟨.array 2 127,4,true,[.int .i64 0,.int .i64 0,.int .i64 0,.int .i64 0],false,false⟩),
  (132,⟨.struct [(0,4),(1,103),(2,103)],3,true,[.bool false,.int .u64 0,.int .u64 0],false,false⟩),
  (139,⟨.other,1,false,[.undef],false,false⟩),
  (141,⟨.int .u64,1,false,[.int .u64 0],false,false⟩),
  (157,⟨.other,1,false,[.nilp],false,false⟩),
  (177,⟨.int .u8,1,false,[.int .u8 0],false,false⟩),
  (178,⟨.int .u8,1,false,[.int .u8 0],false,false⟩),
  (181,⟨.int .i32,1,false,[.int .i32 0],false,false⟩),
  (182,⟨.int .i32,1,false,[.int .i32 0],false,false⟩)]
set_option maxRecDepth 20000 in
set_option maxHeartbeats 4000000 in
theorem qkm (n:Nat) (k0 k1:IntKind) (a0 a1 b0 b1:Int) (w:World):(Op.equalIn (n+2) 36 (.agg #[.int k0 a0,.int k1 a1]) (.agg #[.int k0 b0,.int k1 b1])).run prog w=.ok ((a0 == b0)&&(a1 == b1)) w:=by
  have hst:prog.stoodInHeld 36=false:=by kernel_rfl
  have hu:prog.underlying 36=some (.struct (prog.fieldsOf 36)):=by kernel_rfl
  have hf:=Try.underlying36
  rw [hu] at hf
  injection hf with hf
  injection hf with hf
  have e2:=fun (k:IntKind) (x y:Int)=>run_equalIn_int (P:=prog) w (n+0) 2 k .i64 x y Try.underlying2
  rw [run_equalIn_struct w (n+1) 36 _ _ hu hst,hf]
  simp [Op.eqFields,part,Sem.run_bind,Result.andThen_ok,e2,Try.isAgg2]
  cases h0:(a0 == b0)<;>cases h1:(a1 == b1)<;>simp_all
theorem qkn:EqT prog 36 2:=by
  refine ⟨fun vs us b w h1 h2 h=>?_,by kernel_rfl⟩
  obtain ⟨a0,a1,rfl⟩:∃ a0 a1,vs=[a0,a1]:=by
    match vs,h1 with
    | [a0,a1],_=>exact ⟨a0,a1,rfl⟩
  obtain ⟨b0,b1,rfl⟩:∃ b0 b1,us=[b0,b1]:=by
    match us,h2 with
    | [b0,b1],_=>exact ⟨b0,b1,rfl⟩
  obtain ⟨k0,x0,y0,c0,rfl,rfl,g0,rfl⟩:=q1p h
  obtain ⟨k1,x1,y1,c1,rfl,rfl,g1,rfl⟩:=q1p g0
  obtain rfl:=q1o g1
  refine (qkm 9998 k0 k1 x0 x1 y0 y1 w).trans ?_
  simp [Bool.and_assoc]
set_option maxRecDepth 20000 in
set_option maxHeartbeats 4000000 in
theorem qko (n:Nat) (k0 k1 k2:IntKind) (a0 a1 a2 b0 b1 b2:Int) (w:World):(Op.equalIn (n+3) 48 (.agg #[.int k0 a0,.int k1 a1,.int k2 a2]) (.agg #[.int k0 b0,.int k1 b1,.int k2 b2])).run prog w=.ok ((a0 == b0)&&(a1 == b1)&&(a2 == b2)) w:=by
  have hst:prog.stoodInHeld 48=false:=by kernel_rfl
  have hu:prog.underlying 48=some (.struct (prog.fieldsOf 48)):=by kernel_rfl
  have hf:=Try.underlying48
  rw [hu] at hf
  injection hf with hf
  injection hf with hf
  have e3:=fun (k:IntKind) (x y:Int)=>run_equalIn_int (P:=prog) w (n+1) 3 k .i64 x y Try.underlying3
  have e36:=fun (k0 k1:IntKind) (x0 x1 y0 y1:Int)=>qkm (n+0) k0 k1 x0 x1 y0 y1 w
  rw [run_equalIn_struct w (n+2) 48 _ _ hu hst,hf]
  simp [Op.eqFields,part,Sem.run_bind,Result.andThen_ok,e3,Try.isAgg3,e36,Try.isAgg36,Try.sizeOf36]
  cases h0:(a0 == b0)<;>cases h1:(a1 == b1)<;>cases h2:(a2 == b2)<;>simp_all
theorem qkp:EqT prog 48 3:=by
  refine ⟨fun vs us b w h1 h2 h=>?_,by kernel_rfl⟩
  obtain ⟨a0,a1,a2,rfl⟩:∃ a0 a1 a2,vs=[a0,a1,a2]:=by
    match vs,h1 with
    | [a0,a1,a2],_=>exact ⟨a0,a1,a2,rfl⟩
  obtain ⟨b0,b1,b2,rfl⟩:∃ b0 b1 b2,us=[b0,b1,b2]:=by
    match us,h2 with
    | [b0,b1,b2],_=>exact ⟨b0,b1,b2,rfl⟩
  obtain ⟨k0,x0,y0,c0,rfl,rfl,g0,rfl⟩:=q1p h
  obtain ⟨k1,x1,y1,c1,rfl,rfl,g1,rfl⟩:=q1p g0
  obtain ⟨k2,x2,y2,c2,rfl,rfl,g2,rfl⟩:=q1p g1
  obtain rfl:=q1o g2
  refine (qko 9997 k0 k1 k2 x0 x1 x2 y0 y1 y2 w).trans ?_
  simp [Bool.and_assoc]
theorem tys:TysOK prog tysT:=q1u (by kernel_rfl) (by
  intro p hp he
  simp only [tysT,List.mem_cons,List.not_mem_nil,or_false] at hp
  rcases hp with rfl | rfl | rfl | rfl | rfl | rfl | rfl | rfl | rfl | rfl | rfl | rfl | rfl | rfl | rfl | rfl | rfl | rfl | rfl | rfl | rfl | rfl | rfl | rfl | rfl | rfl | rfl | rfl | rfl | rfl | rfl | rfl | rfl | rfl | rfl | rfl | rfl | rfl | rfl
  all_goals first | exact qkn | exact qkp | (cases he;done))
end Go.Proofs.Ytpgpbhjkgciggaa

namespace Go.Proofs.Ytpgpbhjkgciggaa
open Go.RowKit Go.Pel
theorem qkq {k:IntKind} {a b:Int} (h:a=b):Ending.returned (.int k a)=.returned (.int k b):=by rw [h]
theorem qkr {a b:Bool} (h:a=b):Ending.returned (.bool a)=.returned (.bool b):=by rw [h]

set_option maxHeartbeats 400000 in
theorem qks (n:Int) (w:World) (h:-9223372036854775808≤n∧n≤9223372036854775807) :
    Calls Try.prog 62 #[.int .i64 n] w fun e w'=>e=.returned (.int .u64 n.natAbs)∧∃ x,w'=ext w x:=by
  obtain ⟨h1,h2⟩:=h
  go_enter Try.func62,Try.ntmps62
  go_wp2
  all_goals (go_ret;exact ⟨qkq (by first | (simp only [IntKind.wrap_u64];omega) | omega),ext_of (Bel.refl _)⟩)

set_option maxHeartbeats 400000 in
theorem qkt (n:Int) (w:World) (h:-9223372036854775808≤n∧n≤9223372036854775807) :
    Calls Try.prog 83 #[.int .i64 n] w fun e w'=>e=.returned (.int .u64 n.natAbs)∧∃ x,w'=ext w x:=by
  obtain ⟨h1,h2⟩:=h
  go_enter Try.func83,Try.ntmps83
  go_wp2
  all_goals (go_ret;exact ⟨qkq (by first | (simp only [IntKind.wrap_u64];omega) | omega),ext_of (Bel.refl _)⟩)

set_option maxHeartbeats 400000 in
theorem qku (a b:Nat) (w:World) (ha:a<18446744073709551616) (hb:b<18446744073709551616) :
    Calls Try.prog 61 #[.int .u64 a,.int .u64 b] w fun e w'=>e=.returned (.int .u64 (Nat.gcd a b))∧∃ x,w'=ext w x:=by
  go_enter Try.func61,Try.ntmps61
  go_wp2
  go_loopw [0,1] (fun x y wr=>∃ x0 y0:Nat,x=.int .u64 x0∧y=.int .u64 y0∧x0<18446744073709551616∧y0<18446744073709551616∧Nat.gcd x0 y0=Nat.gcd a b∧∃ x,wr=ext w x) (fun _ y _=>(intOf y).toNat)
  case atStart=>exact ⟨a,b,rfl,rfl,ha,hb,rfl,ext_of (Bel.refl _)⟩
  case round =>
    obtain ⟨x0,y0,rfl,rfl,hx,hy,hg,x,rfl⟩:=hrel
    have HG:=Lib.hid hg;clear hg
    by_cases hlt:0<y0
    · go_wp2
      ((first | refine RegC.wp_region_ext1 (by kernel_rfl) (by kernel_rfl) ?_ | refine RegC.wp_region_ext0 (by kernel_rfl) (by kernel_rfl) ?_);(repeat (any_goals (first | go_big_quiet_step (fail) | (refine RegC.wpQuiet_split rfl rfl (fun hb=>?_) (fun hb=>?_)<;>simp only [hb]))));all_goals (refine wpQuiet_nil ?_;rintro _ ⟨nq,rfl⟩))
      go_wp2
      go_roundw
      case rel=>exact ⟨y0,x0 % y0,rfl,by simp,hy,Nat.lt_of_lt_of_le (Nat.mod_lt _ hlt) (by omega),by rw [← HG.out,Nat.gcd_comm x0 y0,Nat.gcd_rec y0 x0,Nat.gcd_comm],_,rfl⟩
      case measure=>simp [intOf];exact Nat.mod_lt _ hlt
    · go_wp2
      go_ret
      obtain rfl:y0=0:=by omega
      exact ⟨qkq (by rw [← HG.out];simp),_,rfl⟩

set_option maxHeartbeats 400000 in
theorem qkv (a b:Nat) (w:World) (ha:a<18446744073709551616) (hb:b<18446744073709551616) :
    Calls Try.prog 82 #[.int .u64 a,.int .u64 b] w fun e w'=>e=.returned (.int .u64 (Nat.gcd a b))∧∃ x,w'=ext w x:=by
  go_enter Try.func82,Try.ntmps82
  go_wp2
  go_loopw [0,1] (fun x y wr=>∃ x0 y0:Nat,x=.int .u64 x0∧y=.int .u64 y0∧x0<18446744073709551616∧y0<18446744073709551616∧Nat.gcd x0 y0=Nat.gcd a b∧∃ x,wr=ext w x) (fun _ y _=>(intOf y).toNat)
  case atStart=>exact ⟨a,b,rfl,rfl,ha,hb,rfl,ext_of (Bel.refl _)⟩
  case round =>
    obtain ⟨x0,y0,rfl,rfl,hx,hy,hg,x,rfl⟩:=hrel
    have HG:=Lib.hid hg;clear hg
    by_cases hlt:0<y0
    · have hn : ((y0 : Int) != 0) = true := by rw [bne_iff_ne]; omega
      go_wp2
      ((first | refine RegC.wp_region_ext1 (by kernel_rfl) (by kernel_rfl) ?_ | refine RegC.wp_region_ext0 (by kernel_rfl) (by kernel_rfl) ?_);(repeat (any_goals (first | go_big_quiet_step (fail) | (refine RegC.wpQuiet_split rfl rfl (fun hb=>?_) (fun hb=>?_)<;>simp only [hb]))));all_goals (refine wpQuiet_nil ?_;rintro _ ⟨nq,rfl⟩))
      go_wp2
      go_roundw
      case rel=>exact ⟨y0,x0 % y0,rfl,by simp,hy,Nat.lt_of_lt_of_le (Nat.mod_lt _ hlt) (by omega),by rw [← HG.out,Nat.gcd_comm x0 y0,Nat.gcd_rec y0 x0,Nat.gcd_comm],_,rfl⟩
      case measure=>simp [intOf];exact Nat.mod_lt _ hlt
    · obtain rfl : y0 = 0 := by omega
      go_wp2
      go_ret
      exact ⟨qkq (by rw [← HG.out];simp),_,rfl⟩

set_option maxHeartbeats 400000 in
theorem qkw (n d:Int) (w:World) (h:-9223372036854775808≤n∧n≤9223372036854775807) (h':-9223372036854775808≤d∧d≤9223372036854775807) :
    Calls Try.prog 37 #[.agg #[.int .i64 n,.int .i64 d]] w fun e w'=>e=.returned (.int .i64 (qe0 n d))∧∃ x,w'=ext w x:=by
  obtain ⟨h1,h2⟩:=h
  obtain ⟨h3,h4⟩:=h'
  by_cases c1:d<1
  · have e1 := Lib.hid (qe1 (n := n) c1)
    go_enter Try.func37,Try.ntmps37
    go_wp2
    ((first | refine RegC.wp_region_ext1 (by kernel_rfl) (by kernel_rfl) ?_ | refine RegC.wp_region_ext0 (by kernel_rfl) (by kernel_rfl) ?_);(repeat (any_goals (first | go_big_quiet_step (fail) | (refine RegC.wpQuiet_split rfl rfl (fun hb=>?_) (fun hb=>?_)<;>simp only [hb]))));all_goals (refine wpQuiet_nil ?_;rintro _ ⟨nq,rfl⟩))
    go_wp2
    go_ret
    exact ⟨qkq e1.out.symm,ext_of (((Bel.refl _).alloc _).ext _)⟩
  · have c1' : decide (d < 1) = false := by simpa using c1
    by_cases c2:n=-9223372036854775808
    · subst c2
      go_enter Try.func37,Try.ntmps37
      go_wp2
      ((first | refine RegC.wp_region_ext1 (by kernel_rfl) (by kernel_rfl) ?_ | refine RegC.wp_region_ext0 (by kernel_rfl) (by kernel_rfl) ?_);(repeat (any_goals (first | go_big_quiet_step (fail) | (refine RegC.wpQuiet_split rfl rfl (fun hb=>?_) (fun hb=>?_)<;>simp only [hb]))));all_goals (refine wpQuiet_nil ?_;rintro _ ⟨nq,rfl⟩))
      go_wp2
      go_ret
      exact ⟨qkq qe2.symm,ext_of (((Bel.refl _).alloc _).ext _)⟩
    · have c2' : (n == -9223372036854775808) = false := by simpa using c2
      have E1:=Lib.hid (qe3 (n:=n) (d:=d) (by omega) c2)
      have E2:=Lib.hid (qe4 (n:=n) (d:=d))
      have E3:=Lib.hid (qe5 (n:=n) (d:=d) (by omega))
      obtain ⟨dn,rfl⟩:∃ dn:Nat,d=dn:=⟨d.toNat,by omega⟩
      go_enter Try.func37,Try.ntmps37
      go_wp2
      ((first | refine RegC.wp_region_ext1 (by kernel_rfl) (by kernel_rfl) ?_ | refine RegC.wp_region_ext0 (by kernel_rfl) (by kernel_rfl) ?_);(repeat (any_goals (first | go_big_quiet_step (first | (go_at_call 62;first | exact Calls.ext_of1 (qks _ _ (by omega)) | exact Calls.ext_of (qks _ _ (by omega))) | (go_at_call 61;first | exact Calls.ext_of1 (qku _ _ _ (by omega) (by omega)) | exact Calls.ext_of (qku _ _ _ (by omega) (by omega)))) | (refine RegC.wpQuiet_split rfl rfl (fun hb=>?_) (fun hb=>?_)<;>simp only [hb]))));all_goals (refine wpQuiet_nil ?_;rintro _ ⟨nq,rfl⟩))
      go_wp2
      · have hg : 1 < Nat.gcd dn n.natAbs := by omega
        go_ret
        exact ⟨qkq (E2.out (by simp only [Int.toNat_natCast];omega)).symm,ext_of (((Bel.refl _).alloc _).ext _)⟩
      · have hg : ¬ 1 < Nat.gcd dn n.natAbs := by omega
        go_ret
        exact ⟨qkq (E1.out (E3.out (by simpa using hg))).symm,ext_of (((Bel.refl _).alloc _).ext _)⟩


end Go.Proofs.Ytpgpbhjkgciggaa

namespace Go.Proofs.Ytpgpbhjkgciggaa
open Go.RowKit Go.Pel
set_option maxHeartbeats 400000 in
theorem qkx (n d:Int) (w:World) (hn:-9223372036854775808≤n∧n≤9223372036854775807) (hd:-9223372036854775808≤d∧d≤9223372036854775807) :
    Calls Try.prog 52 #[.agg #[.int .i64 n,.int .i64 d]] w fun e w'=>e=.returned (.int .i64 (qe0 n d))∧∃ x,w'=ext w x:=by
  obtain ⟨hn1,hn2⟩:=hn;obtain ⟨hd1,hd2⟩:=hd
  by_cases c1:d<1
  · have e1 := Lib.hid (qe1 (n := n) c1)
    go_enter Try.func52,Try.ntmps52
    go_wp2
    ((first | refine RegC.wp_region_ext1 (by kernel_rfl) (by kernel_rfl) ?_ | refine RegC.wp_region_ext0 (by kernel_rfl) (by kernel_rfl) ?_);(repeat (any_goals (first | go_big_quiet_step (fail) | (refine RegC.wpQuiet_split rfl rfl (fun hb=>?_) (fun hb=>?_)<;>simp only [hb]))));all_goals (refine wpQuiet_nil ?_;rintro _ ⟨nq,rfl⟩))
    go_wp2
    (go_ret;exact ⟨qkq (by exact e1.out.symm),ext_of (by (try simp only [qcj]);repeat (first | exact Bel.refl _ | assumption | refine qcs ?_ _ | refine qct ?_ _ | refine Bel.ext ?_ _ | refine Bel.alloc ?_ _ | refine Bel.drewN ?_ _))⟩)
  · have c1' : decide (d < 1) = false := by simpa using c1
    by_cases c2:n=-9223372036854775808
    · subst c2
      go_enter Try.func52,Try.ntmps52
      go_wp2
      ((first | refine RegC.wp_region_ext1 (by kernel_rfl) (by kernel_rfl) ?_ | refine RegC.wp_region_ext0 (by kernel_rfl) (by kernel_rfl) ?_);(repeat (any_goals (first | go_big_quiet_step (fail) | (refine RegC.wpQuiet_split rfl rfl (fun hb=>?_) (fun hb=>?_)<;>simp only [hb]))));all_goals (refine wpQuiet_nil ?_;rintro _ ⟨nq,rfl⟩))
      go_wp2
      (go_ret;exact ⟨qkq (by exact qe2.symm),ext_of (by (try simp only [qcj]);repeat (first | exact Bel.refl _ | assumption | refine qcs ?_ _ | refine qct ?_ _ | refine Bel.ext ?_ _ | refine Bel.alloc ?_ _ | refine Bel.drewN ?_ _))⟩)
    · have c2' : (n == -9223372036854775808) = false := by simpa using c2
      have E1:=Lib.hid (qe3 (n:=n) (d:=d) (by omega) c2)
      have E2:=Lib.hid (qe4 (n:=n) (d:=d))
      obtain ⟨dn,rfl⟩:∃ dn:Nat,d=dn:=⟨d.toNat,by omega⟩
      go_enter Try.func52,Try.ntmps52
      go_wp2
      ((first | refine RegC.wp_region_ext1 (by kernel_rfl) (by kernel_rfl) ?_ | refine RegC.wp_region_ext0 (by kernel_rfl) (by kernel_rfl) ?_);(repeat (any_goals (first | go_big_quiet_step (first | (go_at_call 83;first | exact Calls.ext_of1 (qkt _ _ (by omega)) | exact Calls.ext_of (qkt _ _ (by omega))) | (go_at_call 82;first | exact Calls.ext_of1 (qkv _ _ _ (by omega) (by omega)) | exact Calls.ext_of (qkv _ _ _ (by omega) (by omega)))) | (refine RegC.wpQuiet_split rfl rfl (fun hb=>?_) (fun hb=>?_)<;>simp only [hb]))));all_goals (refine wpQuiet_nil ?_;rintro _ ⟨nq,rfl⟩))
      go_wp2
      all_goals (go_ret;exact ⟨qkq (by first | exact (E2.out (by rw [Int.toNat_natCast,Nat.gcd_comm];(first | omega | (simp only [bne_iff_ne,ne_eq,bne_eq_false_iff_eq,beq_iff_eq,beq_eq_false_iff_ne,decide_eq_true_eq,decide_eq_false_iff_not,Bool.or_eq_true,Bool.and_eq_true,Bool.not_eq_true,Bool.not_eq_true',Bool.not_eq_false'] at *;omega)))).symm | exact (E1.out (by rw [Int.toNat_natCast,Nat.gcd_comm];(first | omega | (simp only [bne_iff_ne,ne_eq,bne_eq_false_iff_eq,beq_iff_eq,beq_eq_false_iff_ne,decide_eq_true_eq,decide_eq_false_iff_not,Bool.or_eq_true,Bool.and_eq_true,Bool.not_eq_true,Bool.not_eq_true',Bool.not_eq_false'] at *;omega)))).symm),ext_of (by (try simp only [qcj]);repeat (first | exact Bel.refl _ | assumption | refine qcs ?_ _ | refine qct ?_ _ | refine Bel.ext ?_ _ | refine Bel.alloc ?_ _ | refine Bel.drewN ?_ _))⟩)


set_option maxHeartbeats 400000 in
theorem qky (n:Int) (w:World):Calls Try.prog 63 #[.int .i64 n] w fun e w'=>e=.returned (.bool (far n))∧∃ x,w'=ext w x:=by
  go_enter Try.func63,Try.ntmps63
  go_wp2
  all_goals (go_ret;exact ⟨qkr (by first | exact (qel _).symm | (rw [qel];simp [*];done) | (rw [qel];simp;omega)),ext_of (by (try simp only [qcj]);repeat (first | exact Bel.refl _ | assumption | refine qcs ?_ _ | refine qct ?_ _ | refine Bel.ext ?_ _ | refine Bel.alloc ?_ _ | refine Bel.drewN ?_ _))⟩)

set_option maxHeartbeats 400000 in
theorem qkz (i a b:Int) (w:World) :
    Calls Try.prog 38 #[.agg #[.int .i64 i,.int .i64 a,.int .i64 b]] w fun e w'=>e=.returned (.int .i64 (qee i a b))∧∃ x,w'=ext w x:=by
  have E1:=Lib.hid (qef (i:=i) (a:=a) (b:=b))
  have E2:=Lib.hid (qeg (i:=i) (a:=a) (b:=b))
  go_enter Try.func38,Try.ntmps38
  go_wp2_with (first | (go_at_call 63;refine (qky _ _).mono ?_;rintro e _ ⟨rfl,nx,rfl⟩))
  all_goals (go_ret;exact ⟨qkq (by (try simp only [qeo,qep] at *);first | exact (E2.out (by omega)).symm | exact (E1.out (by omega)).symm),ext_of (by (try simp only [qcj]);repeat (first | exact Bel.refl _ | assumption | refine qcs ?_ _ | refine qct ?_ _ | refine Bel.ext ?_ _ | refine Bel.alloc ?_ _ | refine Bel.drewN ?_ _))⟩)

set_option maxHeartbeats 400000 in
theorem ql0 (i a b:Int) (w:World) :
    Calls Try.prog 51 #[.agg #[.int .i64 i,.int .i64 a,.int .i64 b]] w fun e w'=>e=.returned (.int .i64 (qee i a b))∧∃ x,w'=ext w x:=by
  have E1:=Lib.hid (qef (i:=i) (a:=a) (b:=b))
  have E2:=Lib.hid (qeg (i:=i) (a:=a) (b:=b))
  go_enter Try.func51,Try.ntmps51
  go_wp2
  all_goals (go_ret;exact ⟨qkq (by first | exact (E1.out (by omega)).symm | exact (E2.out (by omega)).symm),ext_of (by (try simp only [qcj]);repeat (first | exact Bel.refl _ | assumption | refine qcs ?_ _ | refine qct ?_ _ | refine Bel.ext ?_ _ | refine Bel.alloc ?_ _ | refine Bel.drewN ?_ _))⟩)
end Go.Proofs.Ytpgpbhjkgciggaa

namespace Go.Proofs.Ytpgpbhjkgciggaa
open Go.RowKit Go.Pel

set_option maxHeartbeats 1000000 in
theorem ql1 (neg:Bool) (hi lo dhi dlo:Nat) (w:World) (h1:hi<18446744073709551616) (h2:lo<18446744073709551616) (h3:dhi<18446744073709551616) (h4:dlo<18446744073709551616) :
    Calls Try.prog 102 #[.agg #[.bool neg,.int .u64 hi,.int .u64 lo],.int .u64 dhi,.int .u64 dlo] w fun e w'=>e=.returned (.tuple #[.agg #[.int .i64 (bld neg hi lo dhi dlo).1,.int .i64 (bld neg hi lo dhi dlo).2.1],.int .i64 (bld neg hi lo dhi dlo).2.2])∧∃ x,w'=ext w x:=by
  have E1:=Lib.hid (@qeq neg hi lo dhi dlo)
  have E2:=Lib.hid (@qer hi lo dhi dlo)
  have E3:=Lib.hid (@qes hi lo dhi dlo)
  cases neg
  all_goals (
    go_enter Try.func102,Try.ntmps102
    go_wp2)
  all_goals first
    | (have e:=E1.out (by omega);exact bodyPost_ret (v:=.tuple #[.agg #[.int .i64 0,.int .i64 0],.int .i64 16]) (by simp [results,Try.results102,go_sem]) rfl ⟨by first | rw [e] | (simp only [‹hi=0›] at e;rw [e]),ext_of (by (try simp only [qcj]);repeat (first | exact Bel.refl _ | assumption | refine qcs ?_ _ | refine qct ?_ _ | refine Bel.ext ?_ _ | refine Bel.alloc ?_ _ | refine Bel.drewN ?_ _))⟩)
    | (have e:=E2.out (by omega);exact bodyPost_ret (v:=.tuple #[.agg #[.int .i64 (-(lo:Int)),.int .i64 dlo],.int .i64 0]) (by simp [results,Try.results102,go_sem]) rfl ⟨by first | rw [e] | (simp only [‹hi=0›] at e;rw [e]),ext_of (by (try simp only [qcj]);repeat (first | exact Bel.refl _ | assumption | refine qcs ?_ _ | refine qct ?_ _ | refine Bel.ext ?_ _ | refine Bel.alloc ?_ _ | refine Bel.drewN ?_ _))⟩)
    | (have e:=E3.out (by omega);exact bodyPost_ret (v:=.tuple #[.agg #[.int .i64 lo,.int .i64 dlo],.int .i64 0]) (by simp [results,Try.results102,go_sem]) rfl ⟨by first | rw [e] | (simp only [‹hi=0›] at e;rw [e]),ext_of (by (try simp only [qcj]);repeat (first | exact Bel.refl _ | assumption | refine qcs ?_ _ | refine qct ?_ _ | refine Bel.ext ?_ _ | refine Bel.alloc ?_ _ | refine Bel.drewN ?_ _))⟩)

end Go.Proofs.Ytpgpbhjkgciggaa

namespace Go.Proofs.Ytpgpbhjkgciggaa
open Go.RowKit Go.Pel
theorem ql3 {a g:Nat} (h:a<18446744073709551616):IntKind.u64.wrap ((a:Int) / (g:Int))=((a / g:Nat):Int):=by
  have:=qex (g:=g) h
  rw [← Int.natCast_ediv];generalize a / g=q at *;rw [IntKind.wrap_u64];omega

set_option maxHeartbeats 1000000 in
theorem ql4 (n d:Int) (w:World) (hn:-9223372036854775808≤n∧n≤9223372036854775807) (hd:-9223372036854775808≤d∧d≤9223372036854775807) :
    Calls Try.prog 81 #[.int .i64 n,.int .i64 d] w fun e w'=>e=.returned (.tuple #[.agg #[.int .i64 (mk n d).1,.int .i64 (mk n d).2.1],.int .i64 (mk n d).2.2])∧∃ x,w'=ext w x:=by
  obtain ⟨hn1,hn2⟩:=hn;obtain ⟨hd1,hd2⟩:=hd
  by_cases c:d=0
  · subst c
    go_enter Try.func81,Try.ntmps81
    go_wp2
    exact bodyPost_ret (v:=.tuple #[.agg #[.int .i64 0,.int .i64 0],.int .i64 26]) (by simp [results,Try.results81,go_sem]) rfl ⟨by rw [qeu],ext_of (by (try simp only [qcj]);repeat (first | exact Bel.refl _ | assumption | refine qcs ?_ _ | refine qct ?_ _ | refine Bel.ext ?_ _ | refine Bel.alloc ?_ _ | refine Bel.drewN ?_ _))⟩
  · have c' : (d == 0) = false := by simpa using c
    have E1:=Lib.hid (qey (n:=n) c)
    have g1:=qew (n:=n) c
    have g2:Nat.gcd n.natAbs d.natAbs<18446744073709551616:=Nat.lt_of_le_of_lt (Nat.gcd_le_right _ (by omega)) (by omega:d.natAbs<18446744073709551616)
    have b1:=qex (a:=n.natAbs) (g:=Nat.gcd n.natAbs d.natAbs) (B:=18446744073709551616) (by omega)
    have b2:=qex (a:=d.natAbs) (g:=Nat.gcd n.natAbs d.natAbs) (B:=18446744073709551616) (by omega)
    have G1:((Nat.gcd n.natAbs d.natAbs:Int) == 0)=false:=by rw [beq_eq_false_iff_ne];omega
    have q1:IntKind.u64.wrap ((n.natAbs:Int) / (Nat.gcd n.natAbs d.natAbs:Int))=((n.natAbs / Nat.gcd n.natAbs d.natAbs:Nat):Int):=ql3 (by omega)
    have q2:IntKind.u64.wrap ((d.natAbs:Int) / (Nat.gcd n.natAbs d.natAbs:Int))=((d.natAbs / Nat.gcd n.natAbs d.natAbs:Nat):Int):=ql3 (by omega)
    go_enter Try.func81,Try.ntmps81
    go_wp2_with (first | (go_at_call 62;refine (qks _ _ (by omega)).mono ?_;rintro e _ ⟨rfl,nx,rfl⟩) | (go_at_call 61;refine (qku _ _ _ (by omega) (by omega)).mono ?_;rintro e _ ⟨rfl,nx,rfl⟩))
    ((first | refine RegC.wp_region_tail1 17 (by kernel_rfl) (by kernel_rfl) ?_ | refine RegC.wp_region_tail0 17 (by kernel_rfl) (by kernel_rfl) ?_);simp only [List.take_succ_cons,List.take_zero,List.drop_succ_cons,List.drop_zero];(repeat (any_goals (first | go_big_quiet_step (first | (go_at_call 62;first | exact Calls.ext_of1 (qks _ _ (by omega)) | exact Calls.ext_of (qks _ _ (by omega))) | (go_at_call 102;first | exact Calls.ext_of1 (ql1 _ 0 _ 0 _ _ (by omega) (by omega) (by omega) (by omega)) | exact Calls.ext_of (ql1 _ 0 _ 0 _ _ (by omega) (by omega) (by omega) (by omega)))) | (refine RegC.wpQuiet_split rfl rfl (fun hb=>?_) (fun hb=>?_)<;>simp only [hb]))));all_goals (refine wpQuiet_nil ?_;rintro _ ⟨nq,rfl⟩))
    go_wp2
    exact bodyPost_ret (v:=.tuple #[.agg #[.int .i64 (mk n d).1,.int .i64 (mk n d).2.1],.int .i64 (mk n d).2.2]) (by simp [results,Try.results81,go_sem,E1.out]) rfl ⟨rfl,ext_of (by (try simp only [qcj]);repeat (first | exact Bel.refl _ | assumption | refine qcs ?_ _ | refine qct ?_ _ | refine Bel.ext ?_ _ | refine Bel.alloc ?_ _ | refine Bel.drewN ?_ _))⟩

end Go.Proofs.Ytpgpbhjkgciggaa

namespace Go.Pel
open Go Go.RowKit
def un (a:Int):Nat:=(a % 18446744073709551616).toNat
theorem ql6 (a:Int):un a<18446744073709551616:=by unfold un;omega
theorem ql7 (a:Int):((un a:Nat):Int)=a % 18446744073709551616:=by unfold un;omega
theorem ql8 {a:Int} (h:0≤a) (h2:a<9223372036854775808):((un a:Nat):Int)=a:=by rw [ql7];omega
theorem ql9 {a:Int} (h:a<0) (h2:-9223372036854775808≤a):((un a:Nat):Int)=a+18446744073709551616:=by rw [ql7];omega
theorem qla (a b:Int) (ha:-9223372036854775808≤a∧a<9223372036854775808) (hb:-9223372036854775808≤b∧b<9223372036854775808) :
    ((un a*un b:Nat):Int)=a*b+18446744073709551616*((if a<0 then b else 0)+(if b<0 then a else 0))+(if a<0∧b<0 then 340282366920938463463374607431768211456 else 0):=by
  have e:((un a*un b:Nat):Int)=(un a:Int)*(un b:Int):=by simp
  rw [e]
  by_cases h1:a<0<;>by_cases h2:b<0
  · rw [ql9 h1 ha.1, ql9 h2 hb.1]
    simp only [h1,h2,if_true,and_self,Int.add_mul,Int.mul_add]
    have:b*18446744073709551616=18446744073709551616*b:=Int.mul_comm _ _
    omega
  · rw [ql9 h1 ha.1, ql8 (by omega) hb.2]
    simp only [h1,h2,if_true,if_false,and_false,Int.add_mul,Int.mul_add]
    omega
  · rw [ql8 (by omega) ha.2, ql9 h2 hb.1]
    simp only [h1,h2,if_true,if_false,false_and,Int.add_mul,Int.mul_add]
    omega
  · rw [ql8 (by omega) ha.2, ql8 (by omega) hb.2]
    simp only [h1,h2,if_false,false_and]
    omega
def hiOf (a b:Int):Int:=wrap64 (wrap64 (wrap64 ((un a*un b / 18446744073709551616:Nat):Int) - (if a<0 then b else 0)) - (if b<0 then a else 0))
theorem qlb (a b:Int) (ha:-9223372036854775808≤a∧a<9223372036854775808) (hb:-9223372036854775808≤b∧b<9223372036854775808) (hP:-77371252455336267181195264≤a*b∧a*b≤77371252455336267181195264):hiOf a b=a*b / 18446744073709551616:=by
  have h:=qla a b ha hb
  unfold hiOf
  generalize un a*un b=U at h
  generalize a*b=P at h hP ⊢
  unfold wrap64
  by_cases h1:a<0<;>by_cases h2:b<0<;>simp only [h1,h2,if_true,if_false,and_true,and_false,and_self,Int.sub_zero,Int.add_zero,Int.zero_add,Int.mul_zero] at h ⊢ <;> omega
theorem qlc (a b:Int) (ha:-9223372036854775808≤a∧a<9223372036854775808) (hb:-9223372036854775808≤b∧b<9223372036854775808):((un a*un b % 18446744073709551616:Nat):Int)=a*b % 18446744073709551616:=by
  have h:=qla a b ha hb
  generalize un a*un b=U at h ⊢
  generalize a*b=P at h ⊢
  by_cases h1:a<0<;>by_cases h2:b<0<;>simp only [h1,h2,if_true,if_false,and_true,and_false,and_self,Int.add_zero,Int.zero_add,Int.mul_zero] at h<;>omega
def farD (p q:Pt) (n d:Int):Int:=(p.a - q.a)*d+(p.b - q.b)*n
def qld (p q:Pt) (n d:Int):Bool:=if farD p q n d≠0 then decide (0<farD p q n d) else if p.b≠q.b then decide (q.b<p.b) else decide (p.id<q.id)
def cmpZ (a b:Int):Int:=if a<b then -1 else if b<a then 1 else 0
theorem qle {a b:Int} (h:a<b):cmpZ a b=-1:=if_pos h
theorem qlf {a b:Int} (h:b<a):cmpZ a b=1:=by unfold cmpZ;rw [if_neg (by omega),if_pos h]
theorem qlg {a b:Int} (h:a=b):cmpZ a b=0:=by unfold cmpZ;rw [if_neg (by omega),if_neg (by omega)]
def orZ (x y:Int):Int:=if x≠0 then x else y
theorem qlh {x y:Int} (h:x=0):orZ x y=y:=if_neg (by simpa using h)
theorem qli {x y:Int} (h:x≠0):orZ x y=x:=if_pos h
def cmpC (p q:Pt) (n d:Int):Int:=if farD p q n d<0 then -1 else if 0<farD p q n d then 1 else if cmpZ p.b q.b≠0 then cmpZ p.b q.b else cmpZ q.id p.id
theorem qlj {p q:Pt} {n d:Int} (h:farD p q n d<0):cmpC p q n d=-1:=if_pos h
theorem qlk {p q:Pt} {n d:Int} (h:0<farD p q n d):cmpC p q n d=1:=by unfold cmpC;rw [if_neg (by omega),if_pos h]
theorem qll {p q:Pt} {n d:Int} (h:farD p q n d=0) (hb:p.b≠q.b):cmpC p q n d=cmpZ p.b q.b:=by
  unfold cmpC;rw [if_neg (by omega),if_neg (by omega),if_pos]
  rcases Int.lt_or_gt_of_ne hb with h1 | h1
  · rw [qle h1];decide
  · rw [qlf h1];decide
theorem qlm {p q:Pt} {n d:Int} (h:farD p q n d=0) (hb:p.b=q.b):cmpC p q n d=cmpZ q.id p.id:=by
  unfold cmpC;rw [if_neg (by omega),if_neg (by omega),if_neg (by rw [qlg hb];decide)]
theorem qln (p q:Pt) (n d:Int):decide (0<cmpC p q n d)=qld p q n d:=by
  unfold qld
  rcases (by omega:farD p q n d<0∨farD p q n d=0∨0<farD p q n d) with h | h | h
  · rw [qlj h,if_pos (by omega)];simp;omega
  · rw [if_neg (by omega)]
    by_cases hb:p.b=q.b
    · rw [qlm h hb, if_neg (by omega)]
      rcases (by omega:p.id<q.id∨q.id<p.id∨p.id=q.id) with h2 | h2 | h2
      · rw [qlf h2];simp;omega
      · rw [qle h2];simp;omega
      · rw [qlg h2.symm];simp;omega
    · rw [qll h hb, if_pos hb]
      rcases (by omega:p.b<q.b∨q.b<p.b) with h1 | h1
      · rw [qle h1];simp;omega
      · rw [qlf h1];simp;omega
  · rw [qlk h,if_pos (by omega)];simp;omega
def qlo (p q:Pt) (n d:Int):Int:=if p.chk=0∧q.chk=0∧qe0 n d=0 then (if p.id=q.id then 2 else 0) else 8
theorem qlp {p q:Pt} {n d:Int} (h:¬ (p.chk=0∧q.chk=0∧qe0 n d=0)):qlo p q n d=8:=if_neg h
theorem qlq {p q:Pt} {n d:Int} (h:p.chk=0∧q.chk=0∧qe0 n d=0) (hi:p.id=q.id):qlo p q n d=2:=by unfold qlo;rw [if_pos h,if_pos hi]
theorem qlr {p q:Pt} {n d:Int} (h:p.chk=0∧q.chk=0∧qe0 n d=0) (hi:p.id≠q.id):qlo p q n d=0:=by unfold qlo;rw [if_pos h,if_neg hi]
theorem qls {p q:Pt} {n d:Int} (h:qlo p q n d=0):p.chk=0∧q.chk=0∧qe0 n d=0∧p.id≠q.id:=by
  unfold qlo at h
  split at h
  · rename_i h1
    split at h
    · omega
    · exact ⟨h1.1,h1.2.1,h1.2.2,‹_›⟩
  · omega
def qlt (p q:Pt) (n d:Int):Bool×Int:=if qlo p q n d=0 then (qld p q n d,0) else (false,qlo p q n d)
end Go.Pel

namespace Go.Proofs
open Go.Shelf
def Try.lays264_ren:Go.Shelf.Ren:=⟨fun | 264=>100 | n=>n,fun | 53=>103 | 46=>85 | n=>n,fun | n=>n⟩
theorem Try.lays264:Go.Proofs.Lays.n264 Try.prog Try.lays264_ren:={
  mixed:=by kernel_rfl
  f264:=Try.func100.trans (congrArg some (by kernel_rfl))
  t46:=Try.underlying85
  a46:=Try.isAgg85
  z46:=Try.sizeOf85
  v46:=Try.zeroValue85
  t53:=Try.underlying103
  a53:=Try.isAgg103
  z53:=Try.sizeOf103
  v53:=Try.zeroValue103 }
open Go.RowKit Go.Lib in
theorem Try.bits_Mul64 (x y:Nat) (hx:x<18446744073709551616) (hy:y<18446744073709551616) (w:World) :
    Calls Try.prog 100 #[.int .u64 x,.int .u64 y] w fun e w'=>e=.returned (.tuple #[.int .u64 ((x*y / 18446744073709551616:Nat):Int),.int .u64 ((x*y % 18446744073709551616:Nat):Int)])∧w'=w:=Any.bits_Mul64 Try.lays264 x y hx hy w
end Go.Proofs

namespace Go.Proofs.Ytpgpbhjkgciggaa
open Go.RowKit Go.Pel
theorem qlu (x y c:Nat) (hx:x<18446744073709551616) (hy:y<18446744073709551616) (hc:c≤1) (w:World) :
    (callFunc 101 #[.int .u64 x,.int .u64 y,.int .u64 c]).run Try.prog w =
      .ok (.value (.tuple #[.int .u64 (((x+y+c) % 18446744073709551616:Nat):Int),.int .u64 (((x+y+c) / 18446744073709551616:Nat):Int)])) w:=by
  rw [run_callFunc_extern Try.func101 (by kernel_rfl) (by kernel_rfl) (by kernel_rfl) (e:=add64Entry) (by kernel_rfl),run_add64 x y c (by omega) (by omega) (by omega) (by omega)]
  simp only [Result.andThen]
  congr 5<;>omega
theorem qlv {a b Z:Int} {H:Nat} (hH:un a*un b / 18446744073709551616=H) (hZ:hiOf a b=Z):(decide (a<0)=true∧decide (b<0)=true∧wrap64 (wrap64 (wrap64 (H:Int) - b) - a)=Z)∨(decide (a<0)=true∧decide (b<0)=false∧wrap64 (wrap64 (H:Int) - b)=Z)∨(decide (a<0)=false∧decide (b<0)=true∧wrap64 (wrap64 (H:Int) - a)=Z)∨(decide (a<0)=false∧decide (b<0)=false∧wrap64 (H:Int)=Z):=by
  have w2:∀ x,wrap64 (wrap64 x)=wrap64 x:=fun x=>by unfold wrap64;omega
  unfold hiOf at hZ
  rw [hH] at hZ
  by_cases h1:a<0<;>by_cases h2:b<0<;>simp only [h1,h2,if_true,if_false,Int.sub_zero,w2] at hZ<;>simp [h1,h2,hZ]
theorem qlw (a b:Int) (H L:Nat) (hH:un a*un b / 18446744073709551616=H) (hL:un a*un b % 18446744073709551616=L) (w:World) :
    Calls Try.prog 100 #[.int .u64 (IntKind.u64.wrap a),.int .u64 (IntKind.u64.wrap b)] w fun e w'=>e=.returned (.tuple #[.int .u64 (H:Int),.int .u64 (L:Int)])∧∃ x,w'=ext w x:=by
  have h:=Try.bits_Mul64 (un a) (un b) (ql6 a) (ql6 b) w
  rw [hH,hL] at h
  have e1:((un a:Nat):Int)=IntKind.u64.wrap a:=by rw [ql7,IntKind.wrap_u64]
  have e2:((un b:Nat):Int)=IntKind.u64.wrap b:=by rw [ql7,IntKind.wrap_u64]
  rw [e1,e2] at h
  exact h.mono fun _ _ ⟨he,hw⟩=>⟨he,ext_of (hw ▸ Bel.refl _)⟩
theorem qlx (L:Nat) (hL:L<18446744073709551616) (w:World):(callFunc 101 #[.int .u64 0,.int .u64 (L:Int),.int .u64 0]).run Try.prog w=.ok (.value (.tuple #[.int .u64 (L:Int),.int .u64 0])) w:=by
  have h:=qlu 0 L 0 (by omega) hL (by omega) w
  have e1:(0+L+0) % 18446744073709551616=L:=by omega
  have e2:(0+L+0) / 18446744073709551616=0:=by omega
  rw [e1,e2] at h
  exact h
set_option maxRecDepth 10000 in
set_option maxHeartbeats 8000000 in
theorem qly (a b c d:Int) (w:World) (ha:-9223372036854775808≤a∧a<9223372036854775808) (hb:-9223372036854775808≤b∧b<9223372036854775808) (hc:-9223372036854775808≤c∧c<9223372036854775808) (hd:-9223372036854775808≤d∧d<9223372036854775808)
    (hab:-38685626227668133590597632≤a*b∧a*b≤38685626227668133590597632) (hcd:-38685626227668133590597632≤c*d∧c*d≤38685626227668133590597632) :
    Calls Try.prog 79 #[.agg #[.int .i64 a,.int .i64 b,.int .i64 c,.int .i64 d]] w fun e w'=>e=.returned (.agg #[.int .i64 ((a*b+c*d) / 18446744073709551616),.int .u64 ((a*b+c*d) % 18446744073709551616)])∧∃ x,w'=ext w x:=by
  have i0:∀ w,(Instr.index 128 (.agg #[.int .i64 a,.int .i64 b,.int .i64 c,.int .i64 d]) (.int .i64 0)).run Try.prog w=.ok (.agg #[.int .i64 a,.int .i64 b]) w:=fun _=>by kernel_rfl
  have i1:∀ w,(Instr.index 128 (.agg #[.int .i64 a,.int .i64 b,.int .i64 c,.int .i64 d]) (.int .i64 1)).run Try.prog w=.ok (.agg #[.int .i64 c,.int .i64 d]) w:=fun _=>by kernel_rfl
  obtain ⟨H1,hH1⟩:∃ H,un a*un b / 18446744073709551616=H:=⟨_,rfl⟩
  obtain ⟨L1,hL1⟩:∃ L,un a*un b % 18446744073709551616=L:=⟨_,rfl⟩
  obtain ⟨H2,hH2⟩:∃ H,un c*un d / 18446744073709551616=H:=⟨_,rfl⟩
  obtain ⟨L2,hL2⟩:∃ L,un c*un d % 18446744073709551616=L:=⟨_,rfl⟩
  have q1:=Lib.hid (qlw a b H1 L1 hH1 hL1)
  have q2:=Lib.hid (qlw c d H2 L2 hH2 hL2)
  have a1:=qlx L1 (by omega)
  have L1b:L1<18446744073709551616:=by omega
  have L2b:L2<18446744073709551616:=by omega
  obtain ⟨S,hS⟩:∃ S,(L1+L2+0) % 18446744073709551616=S:=⟨_,rfl⟩
  obtain ⟨C,hC⟩:∃ C,(L1+L2+0) / 18446744073709551616=C:=⟨_,rfl⟩
  have a2:∀ w,(callFunc 101 #[.int .u64 (L1:Int),.int .u64 (L2:Int),.int .u64 0]).run Try.prog w=.ok (.value (.tuple #[.int .u64 (S:Int),.int .u64 (C:Int)])) w:=fun w=>by
    have h:=qlu L1 L2 0 L1b L2b (by omega) w
    rw [hS,hC] at h;exact h
  obtain ⟨Z1,hZ1⟩:∃ Z,hiOf a b=Z:=⟨_,rfl⟩
  obtain ⟨Z2,hZ2⟩:∃ Z,hiOf c d=Z:=⟨_,rfl⟩
  have z1:Z1=a*b / 18446744073709551616:=by rw [← hZ1];exact qlb a b ha hb (by omega)
  have z2:Z2=c*d / 18446744073709551616:=by rw [← hZ2];exact qlb c d hc hd (by omega)
  have l1:=qlc a b ha hb
  have l2:=qlc c d hc hd
  rw [hL1] at l1
  rw [hL2] at l2
  have k1:=qlv hH1 hZ1
  have k2:=qlv hH2 hZ2
  have w1:wrap64 Z1=Z1:=by unfold wrap64;omega
  have hfin:Hid (wrap64 (wrap64 (Z1+Z2)+wrap64 (C:Int))=(a*b+c*d) / 18446744073709551616∧(S:Int)=(a*b+c*d) % 18446744073709551616):=Lib.hid (by
    have hs:(S:Int)=((L1:Int)+L2) % 18446744073709551616:=by omega
    have hcc:(C:Int)=((L1:Int)+L2) / 18446744073709551616:=by omega
    generalize a*b=P1 at *
    generalize c*d=P2 at *
    unfold wrap64
    constructor<;>omega)
  have HF:=hfin
  clear hH1 hL1 hH2 hL2 hS hC hZ1 hZ2 z1 z2 l1 l2 hab hcd hfin L1b L2b
  obtain ⟨ha1,ha2⟩:=ha;obtain ⟨hb1,hb2⟩:=hb;obtain ⟨hc1,hc2⟩:=hc;obtain ⟨hd1,hd2⟩:=hd
  rcases k1 with ⟨sa,sb,e1⟩ | ⟨sa,sb,e1⟩ | ⟨sa,sb,e1⟩ | ⟨sa,sb,e1⟩
  all_goals
    rcases k2 with ⟨sc,sd,e2⟩ | ⟨sc,sd,e2⟩ | ⟨sc,sd,e2⟩ | ⟨sc,sd,e2⟩
  all_goals
    go_enter Try.func79,Try.ntmps79
    go_wp2
    refine wp_loop_rounds 3 ?_
    rw [rounds_succ]
    go_wp2_with ((go_at_call 100;refine (q1.out _).mono ?_;rintro e _ ⟨rfl,y1,rfl⟩))
    rw [rounds_succ]
    go_wp2_with ((go_at_call 100;refine (q2.out _).mono ?_;rintro e _ ⟨rfl,y2,rfl⟩))
    rw [rounds_succ]
    go_wp2
    exact bodyPost_ret (v:=.agg #[.int .i64 (wrap64 (wrap64 (Z1+Z2)+wrap64 (C:Int))),.int .u64 (S:Int)]) (by simp [results,Try.results79,go_sem]) rfl ⟨by rw [HF.out.1,HF.out.2],ext_of (by (try simp only [qcj]);repeat (first | exact Bel.refl _ | assumption | refine qcs ?_ _ | refine qct ?_ _ | refine Bel.ext ?_ _ | refine Bel.alloc ?_ _ | refine Bel.drewN ?_ _))⟩
end Go.Proofs.Ytpgpbhjkgciggaa

namespace Go.Proofs.Ytpgpbhjkgciggaa
open Go.RowKit Go.Pel
def cmpI (a b:Int):Int:=if a<b then -1 else if b<a then 1 else 0
theorem qlz {a b:Int} (h:a<b):cmpI a b=-1:=if_pos h
theorem qm0 {a b:Int} (h:b<a):cmpI a b=1:=by unfold cmpI;rw [if_neg (by omega),if_pos h]
theorem qm1 {a b:Int} (h:a=b):cmpI a b=0:=by unfold cmpI;rw [if_neg (by omega),if_neg (by omega)]
set_option maxHeartbeats 400000 in
theorem qm2 (a b:Int) (w:World):Calls Try.prog 41 #[.int .i64 a,.int .i64 b] w fun e w'=>e=.returned (.int .i64 (cmpI a b))∧∃ x,w'=ext w x:=by
  rcases (by omega:a<b∨b<a∨a=b) with h | h | h
  · have H := Lib.hid (qlz h)
    have h2:¬ b<a:=by omega
    go_enter Try.func41,Try.ntmps41
    go_wp2
    (go_ret;exact ⟨qkq (by exact H.out.symm),ext_of (by (try simp only [qcj]);repeat (first | exact Bel.refl _ | assumption | refine qcs ?_ _ | refine qct ?_ _ | refine Bel.ext ?_ _ | refine Bel.alloc ?_ _ | refine Bel.drewN ?_ _))⟩)
  · have H := Lib.hid (qm0 h)
    have h2:¬ a<b:=by omega
    go_enter Try.func41,Try.ntmps41
    go_wp2
    (go_ret;exact ⟨qkq (by exact H.out.symm),ext_of (by (try simp only [qcj]);repeat (first | exact Bel.refl _ | assumption | refine qcs ?_ _ | refine qct ?_ _ | refine Bel.ext ?_ _ | refine Bel.alloc ?_ _ | refine Bel.drewN ?_ _))⟩)
  · have H := Lib.hid (qm1 h)
    have h2:¬ a<b:=by omega
    have h3:¬ b<a:=by omega
    clear h
    go_enter Try.func41,Try.ntmps41
    go_wp2
    (go_ret;exact ⟨qkq (by exact H.out.symm),ext_of (by (try simp only [qcj]);repeat (first | exact Bel.refl _ | assumption | refine qcs ?_ _ | refine qct ?_ _ | refine Bel.ext ?_ _ | refine Bel.alloc ?_ _ | refine Bel.drewN ?_ _))⟩)
end Go.Proofs.Ytpgpbhjkgciggaa

namespace Go.Proofs.Ytpgpbhjkgciggaa
open Go.RowKit Go.Pel
set_option maxHeartbeats 400000 in
theorem qm3 (a b:Int) (w:World):Calls Try.prog 41 #[.int .i64 a,.int .i64 b] w fun e w'=>e=.returned (.int .i64 (cmpZ a b))∧∃ x,w'=ext w x:=qm2 a b w
set_option maxHeartbeats 400000 in
theorem qm4 (a b:Int) (w:World):Calls Try.prog 76 #[.int .i64 a,.int .i64 b] w fun e w'=>e=.returned (.int .i64 (cmpZ a b))∧∃ x,w'=ext w x:=by
  rcases (by omega:a<b∨b<a∨a=b) with h | h | h
  · have H := Lib.hid (qle h)
    have h2:¬ b<a:=by omega
    go_enter Try.func76,Try.ntmps76
    go_wp2
    (go_ret;exact ⟨qkq (by exact H.out.symm),ext_of (by (try simp only [qcj]);repeat (first | exact Bel.refl _ | assumption | refine qcs ?_ _ | refine qct ?_ _ | refine Bel.ext ?_ _ | refine Bel.alloc ?_ _ | refine Bel.drewN ?_ _))⟩)
  · have H := Lib.hid (qlf h)
    have h2:¬ a<b:=by omega
    go_enter Try.func76,Try.ntmps76
    go_wp2
    (go_ret;exact ⟨qkq (by exact H.out.symm),ext_of (by (try simp only [qcj]);repeat (first | exact Bel.refl _ | assumption | refine qcs ?_ _ | refine qct ?_ _ | refine Bel.ext ?_ _ | refine Bel.alloc ?_ _ | refine Bel.drewN ?_ _))⟩)
  · have H := Lib.hid (qlg h)
    have h2:¬ a<b:=by omega
    have h3:¬ b<a:=by omega
    clear h
    go_enter Try.func76,Try.ntmps76
    go_wp2
    (go_ret;exact ⟨qkq (by exact H.out.symm),ext_of (by (try simp only [qcj]);repeat (first | exact Bel.refl _ | assumption | refine qcs ?_ _ | refine qct ?_ _ | refine Bel.ext ?_ _ | refine Bel.alloc ?_ _ | refine Bel.drewN ?_ _))⟩)
set_option maxHeartbeats 1000000 in
theorem qm5 (x y:Int) (g:Nat) (w:World) (hg:g<w.heap.size) (h0:w.cell? ⟨g,0,none⟩=some (.int .i64 x)) (h1:w.cell? ⟨g,1,none⟩=some (.int .i64 y)) :
    Calls Try.prog 80 #[.slice (some ⟨g,0,none⟩) 2 2] w fun e w'=>e=.returned (.int .i64 (orZ x y))∧∃ x,w'=ext w x:=by
  by_cases hx:x=0
  · have HR : Hid (orZ x y = y) := Lib.hid (qlh hx)
    have hx1:(x == 0)=true:=by simpa using hx
    have hx2:(x != 0)=false:=by simpa using hx
    clear hx
    by_cases hy:y=0
    · have HY := Lib.hid hy
      have hy1:(y == 0)=true:=by simpa using hy
      have hy2:(y != 0)=false:=by simpa using hy
      clear hy
      go_enter Try.func80,Try.ntmps80
      go_wp2
      refine wp_loop_rounds 3 ?_
      rw [rounds_succ]
      go_wp2
      rw [rounds_succ]
      go_wp2
      rw [rounds_succ]
      go_wp2
      (go_ret;exact ⟨qkq (by rw [HR.out,HY.out]),ext_of (by (try simp only [qcj]);repeat (first | exact Bel.refl _ | assumption | refine qcs ?_ _ | refine qct ?_ _ | refine Bel.ext ?_ _ | refine Bel.alloc ?_ _ | refine Bel.drewN ?_ _))⟩)
    · have hy1 : (y == 0) = false := by simpa using hy
      have hy2:(y != 0)=true:=by simpa using hy
      clear hy
      go_enter Try.func80,Try.ntmps80
      go_wp2
      refine wp_loop_rounds 3 ?_
      rw [rounds_succ]
      go_wp2
      rw [rounds_succ]
      go_wp2
      (go_ret;exact ⟨qkq (by exact HR.out.symm),ext_of (by (try simp only [qcj]);repeat (first | exact Bel.refl _ | assumption | refine qcs ?_ _ | refine qct ?_ _ | refine Bel.ext ?_ _ | refine Bel.alloc ?_ _ | refine Bel.drewN ?_ _))⟩)
  · have HR : Hid (orZ x y = x) := Lib.hid (qli hx)
    have hx1:(x == 0)=false:=by simpa using hx
    have hx2:(x != 0)=true:=by simpa using hx
    clear hx
    go_enter Try.func80,Try.ntmps80
    go_wp2
    refine wp_loop_rounds 3 ?_
    rw [rounds_succ]
    go_wp2
    (go_ret;exact ⟨qkq (by exact HR.out.symm),ext_of (by (try simp only [qcj]);repeat (first | exact Bel.refl _ | assumption | refine qcs ?_ _ | refine qct ?_ _ | refine Bel.ext ?_ _ | refine Bel.alloc ?_ _ | refine Bel.drewN ?_ _))⟩)
structure CmpIn (p q:Pt) (n d:Int):Prop where
  pa:-1048576≤p.a∧p.a≤1048576
  pb:-1048576≤p.b∧p.b≤1048576
  qa:-1048576≤q.a∧q.a≤1048576
  qb:-1048576≤q.b∧q.b≤1048576
  n:-9223372036854775807≤n∧n≤9223372036854775807
  d:1≤d∧d≤9223372036854775807
theorem qm6 (a b A B:Int) (ha:-A≤a∧a≤A) (hb:-B≤b∧b≤B):-(A*B)≤a*b∧a*b≤A*B:=by
  have hA:0≤A:=by omega
  have hB:0≤B:=by omega
  have h1:0≤(A - a)*(B+b):=Int.mul_nonneg (by omega) (by omega)
  have h2:0≤(A+a)*(B - b):=Int.mul_nonneg (by omega) (by omega)
  have h3:0≤(A - a)*(B - b):=Int.mul_nonneg (by omega) (by omega)
  have h4:0≤(A+a)*(B+b):=Int.mul_nonneg (by omega) (by omega)
  simp only [Int.sub_mul,Int.add_mul,Int.mul_sub,Int.mul_add] at h1 h2 h3 h4
  omega
theorem qm7 {p q:Pt} {n d:Int} (h:CmpIn p q n d):(-38685626227668133590597632≤(p.a - q.a)*d∧(p.a - q.a)*d≤38685626227668133590597632)∧(-38685626227668133590597632≤(p.b - q.b)*n∧(p.b - q.b)*n≤38685626227668133590597632):=by
  obtain ⟨h1,h2,h3,h4,h5,h6⟩:=h
  have k1:=qm6 (p.a - q.a) d 2097152 9223372036854775807 (by omega) (by omega)
  have k2:=qm6 (p.b - q.b) n 2097152 9223372036854775807 (by omega) (by omega)
  omega
theorem qm8 (h l h' l':Int) (w:World):(Op.equalIn 10000 125 (.agg #[.int .i64 h,.int .u64 l]) (.agg #[.int .i64 h',.int .u64 l'])).run Try.prog w=.ok (decide (h=h'∧l=l')) w:=by
  simp [go_sem]
  by_cases h1:h=h'<;>by_cases h2:l=l'<;>simp [h1,h2]
attribute [local go_sem ↓] qm8
set_option maxRecDepth 10000 in
set_option maxHeartbeats 2000000 in
theorem qm9 (p q:Pt) (n d:Int) (w:World) (h:CmpIn p q n d) :
    Calls Try.prog 49 #[.agg #[.int .i64 p.id,.int .i64 p.a,.int .i64 p.b],.agg #[.int .i64 q.id,.int .i64 q.a,.int .i64 q.b],.agg #[.int .i64 n,.int .i64 d]] w fun e w'=>e=.returned (.int .i64 (cmpC p q n d))∧∃ x,w'=ext w x:=by
  obtain ⟨k1,k2⟩:=qm7 h
  obtain ⟨h1,h2,h3,h4,h5,h6⟩:=h
  have hs:=qly (p.a - q.a) d (p.b - q.b) n
  have hs':=fun w=>hs w (by omega) (by omega) (by omega) (by omega) k1 k2
  obtain ⟨D,hD⟩:∃ D,farD p q n d=D:=⟨_,rfl⟩
  have hD':(p.a - q.a)*d+(p.b - q.b)*n=D:=hD
  rw [hD'] at hs'
  obtain ⟨hi,hhi⟩:∃ x,D / 18446744073709551616=x:=⟨_,rfl⟩
  obtain ⟨lo,hlo⟩:∃ x,D % 18446744073709551616=x:=⟨_,rfl⟩
  rw [hhi,hlo] at hs'
  have q1:=Lib.hid hs'
  have HD:=Lib.hid hD
  obtain ⟨a1,a2⟩:=h1;obtain ⟨a3,a4⟩:=h2;obtain ⟨a5,a6⟩:=h3;obtain ⟨a7,a8⟩:=h4
  rcases (by omega:D<0∨0<D∨D=0) with hd0 | hd0 | hd0
  · have hne : decide (hi = 0 ∧ lo = 0) = false := by rw [decide_eq_false_iff_not]; omega
    have hlt:hi<0:=by omega
    have HR:=Lib.hid (qlj (p:=p) (q:=q) (n:=n) (d:=d) (by omega))
    clear hs hs' hD hD' hhi hlo k1 k2 h5 h6 hd0
    go_enter Try.func49,Try.ntmps49
    go_wp2_with ((go_at_call 79;refine (q1.out _).mono ?_;rintro e _ ⟨rfl,nx,rfl⟩))
    (go_ret;exact ⟨qkq (by exact HR.out.symm),ext_of (by (try simp only [qcj]);repeat (first | exact Bel.refl _ | assumption | refine qcs ?_ _ | refine qct ?_ _ | refine Bel.ext ?_ _ | refine Bel.alloc ?_ _ | refine Bel.drewN ?_ _))⟩)
  · have hne : decide (hi = 0 ∧ lo = 0) = false := by rw [decide_eq_false_iff_not]; omega
    have hlt:¬ hi<0:=by omega
    have HR:=Lib.hid (qlk (p:=p) (q:=q) (n:=n) (d:=d) (by omega))
    clear hs hs' hD hD' hhi hlo k1 k2 h5 h6 hd0
    go_enter Try.func49,Try.ntmps49
    go_wp2_with ((go_at_call 79;refine (q1.out _).mono ?_;rintro e _ ⟨rfl,nx,rfl⟩))
    (go_ret;exact ⟨qkq (by exact HR.out.symm),ext_of (by (try simp only [qcj]);repeat (first | exact Bel.refl _ | assumption | refine qcs ?_ _ | refine qct ?_ _ | refine Bel.ext ?_ _ | refine Bel.alloc ?_ _ | refine Bel.drewN ?_ _))⟩)
  · have hne : decide (hi = 0 ∧ lo = 0) = true := by rw [decide_eq_true_eq]; omega
    have HR:Hid (orZ (cmpZ p.b q.b) (cmpZ q.id p.id)=cmpC p q n d):=Lib.hid (by unfold cmpC;rw [if_neg (by omega),if_neg (by omega)];rfl)
    clear hs hs' hD hD' hhi hlo k1 k2 h5 h6 hd0
    go_enter Try.func49,Try.ntmps49
    go_wp2_with ((go_at_call 79;refine (q1.out _).mono ?_;rintro e _ ⟨rfl,y1,rfl⟩))
    go_region_held3 (fun w'=>w'.cell? ⟨w.heap.size,0,none⟩=some (.int .i64 p.id)∧w'.cell? ⟨w.heap.size,1,none⟩=some (.int .i64 p.a)∧w'.cell? ⟨w.heap.size,2,none⟩=some (.int .i64 p.b)∧w'.cell? ⟨w.heap.size+1,0,none⟩=some (.int .i64 q.id)∧w'.cell? ⟨w.heap.size+1,1,none⟩=some (.int .i64 q.a)∧w'.cell? ⟨w.heap.size+1,2,none⟩=some (.int .i64 q.b)) (simp [go_sem]) ((first | (go_at_call 41;refine (qm3 _ _ _).mono ?_;rintro e _ ⟨rfl,nx,rfl⟩) | (go_at_call 76;refine (qm4 _ _ _).mono ?_;rintro e _ ⟨rfl,nx,rfl⟩) | (go_at_call 80;refine (qm5 (cmpZ p.b q.b) (cmpZ q.id p.id) _ _ (by simp [go_sem]) (by simp [go_sem]) (by simp [go_sem])).mono ?_;rintro e _ ⟨rfl,nx,rfl⟩)))
    all_goals
      go_wp2
      (go_ret;exact ⟨qkq (by exact HR.out),ext_of (by (try simp only [qcj]);repeat (first | exact Bel.refl _ | assumption | refine qcs ?_ _ | refine qct ?_ _ | refine Bel.ext ?_ _ | refine Bel.alloc ?_ _ | refine Bel.drewN ?_ _))⟩)
end Go.Proofs.Ytpgpbhjkgciggaa

namespace Go.Proofs.Ytpgpbhjkgciggaa
open Go.RowKit Go.Pel
theorem qma (p:Pt) (v:Int) (h:p.chk=v) (W:World):Calls Try.prog 38 #[.agg #[.int .i64 p.id,.int .i64 p.a,.int .i64 p.b]] W fun e w'=>e=.returned (.int .i64 v)∧∃ y,w'=ext W y:=by
  subst h;exact qkz p.id p.a p.b W
theorem qmb (p:Pt) (v:Int) (h:p.chk=v) (W:World):Calls Try.prog 51 #[.agg #[.int .i64 p.id,.int .i64 p.a,.int .i64 p.b]] W fun e w'=>e=.returned (.int .i64 v)∧∃ y,w'=ext W y:=by
  subst h;exact ql0 p.id p.a p.b W
set_option maxRecDepth 10000 in
set_option maxHeartbeats 2000000 in
theorem qmc (A:Option Addr) (c:Nat) (l:List Pt) (w:World) (hs:Sl w 3 A l.length c (vp l)) :
    Calls Try.prog 20 #[.agg #[.slice A l.length c]] w fun e w'=>e=.returned (.int .i64 (qh2 l))∧∃ x,w'=ext w x:=by
  by_cases hm:64<l.length
  · have E1 := Lib.hid (qh3 hm)
    go_enter Try.func20,Try.ntmps20
    go_wp2
    (go_ret;exact ⟨qkq (by exact E1.out.symm),ext_of (by (try simp only [qcj]);repeat (first | exact Bel.refl _ | assumption | refine qcs ?_ _ | refine qct ?_ _ | refine Bel.ext ?_ _ | refine Bel.alloc ?_ _ | refine Bel.drewN ?_ _))⟩)
  · have E1 := Lib.hid (fun p (hp : p ∈ l) hc => qh4 (l := l) (by omega) hp hc)
    have E2:=Lib.hid (qh5 (l:=l) (by omega))
    have E3:=Lib.hid (qh6 (l:=l) (by omega))
    go_enter Try.func20,Try.ntmps20
    go_wp2
    go_loopw [15] (fun i wr=>∃ (k:Nat),k≤l.length∧i=.int .i64 k∧(∀ p∈l.take k,p.chk=0)∧∃ y,wr=ext (w.alloc (.cells #[.slice A l.length c] 24)) y) (fun i _=>l.length - (intOf i).toNat)
    case atStart=>exact ⟨0,Nat.zero_le _,rfl,by simp,ext_of (Bel.refl _)⟩
    case round =>
      obtain ⟨k,hk,rfl,hall,y,rfl⟩:=hrel
      have HA:=Lib.hid hall;clear hall
      by_cases hlt:k<l.length
      · obtain ⟨p, hp⟩ : ∃ p, l[k]? = some p := ⟨_, List.getElem?_eq_getElem hlt⟩
        obtain ⟨b,o,rfl,hb⟩:=hs.at_ (by omega)
        obtain ⟨r0,r1,r2⟩:=qgz hs hp
        have HP:=Lib.hid hp;clear hp
        rcases qha p with h | h
        · have e1 := Lib.hid (qma p 0 h)
          have HC:=Lib.hid h;clear h
          go_wp2_with ((go_at_call 38;refine (e1.out _).mono ?_;rintro e _ ⟨rfl,nx,rfl⟩))
          go_roundw
          case rel =>
            refine ⟨k+1,by omega,by go_num,?_,ext_of (by (try simp only [qcj]);repeat (first | exact Bel.refl _ | assumption | refine qcs ?_ _ | refine qct ?_ _ | refine Bel.ext ?_ _ | refine Bel.alloc ?_ _ | refine Bel.drewN ?_ _))⟩
            intro q hq
            rw [List.take_add_one,HP.out] at hq
            rcases List.mem_append.1 hq with hq | hq
            · exact HA.out q hq
            · simp at hq;subst hq;exact HC.out
          case measure=>(first | (simp [intOf];done) | (simp [intOf];omega))
        · have e1 := Lib.hid (qma p 8 h)
          have HC:=Lib.hid (E1.out p (List.mem_of_getElem? HP.out) (by rw [h];decide));clear h
          go_wp2_with ((go_at_call 38;refine (e1.out _).mono ?_;rintro e _ ⟨rfl,nx,rfl⟩))
          (go_ret;exact ⟨qkq (by exact HC.out.symm),ext_of (by (try simp only [qcj]);repeat (first | exact Bel.refl _ | assumption | refine qcs ?_ _ | refine qct ?_ _ | refine Bel.ext ?_ _ | refine Bel.alloc ?_ _ | refine Bel.drewN ?_ _))⟩)
      · obtain rfl : k = l.length := by omega
        have hc0:=HA.out
        rw [List.take_length] at hc0
        have HC:=Lib.hid hc0;clear hc0
        go_wp2
        go_loopw [28] (fun i wr=>∃ (k:Nat),k≤l.length∧i=.int .i64 k∧(∀ (i:Nat) (p q:Pt),i+1<k→l[i]?=some p→l[i+1]?=some q→p.id<q.id)∧∃ y,wr=ext (w.alloc (.cells #[.slice A l.length c] 24)) y) (fun i _=>l.length - (intOf i).toNat)
        case atStart=>exact ⟨0,Nat.zero_le _,rfl,(by intro i p q h;omega),y,rfl⟩
        case round =>
          clear hk hlt HA
          obtain ⟨k,hk,rfl,hall,y2,rfl⟩:=hrel
          have HA:=Lib.hid hall;clear hall
          by_cases hlt:k<l.length
          · obtain ⟨p, hp⟩ : ∃ p, l[k]? = some p := ⟨_, List.getElem?_eq_getElem hlt⟩
            obtain ⟨b,o,rfl,hb⟩:=hs.at_ (by omega)
            obtain ⟨r0,r1,r2⟩:=qgz hs hp
            have HP:=Lib.hid hp;clear hp
            by_cases hk0:0<k
            · obtain ⟨m, rfl⟩ : ∃ m, k = m + 1 := ⟨k - 1, by omega⟩
              have hmlt:m<l.length:=by omega
              obtain ⟨q,hq⟩:∃ q,l[m]?=some q:=⟨_,List.getElem?_eq_getElem (by omega)⟩
              obtain ⟨q0,q1,q2⟩:=qgz hs hq
              have HQ:=Lib.hid hq;clear hq
              have hi0:(0:Int)≤(m:Int):=by omega
              have hi1:(m:Int)<(l.length:Int):=by omega
              by_cases hid:q.id<p.id
              · have hd : ¬ p.id ≤ q.id := by omega
                go_wp2
                ((first | refine RegC.wp_region_ext1 (by kernel_rfl) (by kernel_rfl) ?_ | refine RegC.wp_region_ext0 (by kernel_rfl) (by kernel_rfl) ?_);(repeat (any_goals (first | go_big_quiet_step (fail) | (refine RegC.wpQuiet_split rfl rfl (fun hb=>?_) (fun hb=>?_)<;>simp only [hb]))));all_goals (refine wpQuiet_nil ?_;rintro _ ⟨nq,rfl⟩))
                go_wp2
                go_roundw
                case rel =>
                  refine ⟨m+2,by omega,by go_num,?_,ext_of (by (try simp only [qcj]);repeat (first | exact Bel.refl _ | assumption | refine qcs ?_ _ | refine qct ?_ _ | refine Bel.ext ?_ _ | refine Bel.alloc ?_ _ | refine Bel.drewN ?_ _))⟩
                  intro i p' q' hi hp' hq'
                  rcases Nat.lt_or_ge (i+1) (m+1) with h | h
                  · exact HA.out i p' q' h hp' hq'
                  · obtain rfl : i = m := by omega
                    rw [HQ.out] at hp'
                    rw [HP.out] at hq'
                    obtain rfl:=Option.some.inj hp'
                    obtain rfl:=Option.some.inj hq'
                    exact hid
                case measure=>(first | (simp [intOf];done) | (simp [intOf];omega))
              · have hd : p.id ≤ q.id := by omega
                have hbad:incB l=false:=by
                  rw [← Bool.not_eq_true,qh0];intro h;exact hid (h m q p HQ.out HP.out)
                have HB:=Lib.hid (E2.out HC.out hbad);clear hbad
                go_wp2
                ((first | refine RegC.wp_region_ext1 (by kernel_rfl) (by kernel_rfl) ?_ | refine RegC.wp_region_ext0 (by kernel_rfl) (by kernel_rfl) ?_);(repeat (any_goals (first | go_big_quiet_step (fail) | (refine RegC.wpQuiet_split rfl rfl (fun hb=>?_) (fun hb=>?_)<;>simp only [hb]))));all_goals (refine wpQuiet_nil ?_;rintro _ ⟨nq,rfl⟩))
                go_wp2
                (go_ret;exact ⟨qkq (by exact HB.out.symm),ext_of (by (try simp only [qcj]);repeat (first | exact Bel.refl _ | assumption | refine qcs ?_ _ | refine qct ?_ _ | refine Bel.ext ?_ _ | refine Bel.alloc ?_ _ | refine Bel.drewN ?_ _))⟩)
            · obtain rfl : k = 0 := by omega
              simp only [Nat.zero_mul,Nat.add_zero] at r0 r1 r2
              go_wp2
              ((first | refine RegC.wp_region_ext1 (by kernel_rfl) (by kernel_rfl) ?_ | refine RegC.wp_region_ext0 (by kernel_rfl) (by kernel_rfl) ?_);(repeat (any_goals (first | go_big_quiet_step (fail) | (refine RegC.wpQuiet_split rfl rfl (fun hb=>?_) (fun hb=>?_)<;>simp only [hb]))));all_goals (refine wpQuiet_nil ?_;rintro _ ⟨nq,rfl⟩))
              go_wp2
              go_roundw
              case rel=>exact ⟨1,by omega,by go_num,(by intro i p q h;omega),ext_of (by (try simp only [qcj]);repeat (first | exact Bel.refl _ | assumption | refine qcs ?_ _ | refine qct ?_ _ | refine Bel.ext ?_ _ | refine Bel.alloc ?_ _ | refine Bel.drewN ?_ _))⟩
              case measure=>(first | (simp [intOf];done) | (simp [intOf];omega))
          · obtain rfl : k = l.length := by omega
            have hinc:incB l=true:=(qh0 l).2 fun i p q hp hq=>HA.out i p q (by have:=(List.getElem?_eq_some_iff.1 hq).1;omega) hp hq
            have HB:=Lib.hid (E3.out HC.out hinc);clear hinc
            go_wp2
            (go_ret;exact ⟨qkq (by exact HB.out.symm),ext_of (by (try simp only [qcj]);repeat (first | exact Bel.refl _ | assumption | refine qcs ?_ _ | refine qct ?_ _ | refine Bel.ext ?_ _ | refine Bel.alloc ?_ _ | refine Bel.drewN ?_ _))⟩)
end Go.Proofs.Ytpgpbhjkgciggaa

namespace Go.Proofs.Ytpgpbhjkgciggaa
open Go.RowKit Go.Pel
theorem qmd (n d v:Int) (h:qe0 n d=v) (hn:-9223372036854775808≤n∧n≤9223372036854775807) (hd:-9223372036854775808≤d∧d≤9223372036854775807) (W:World):Calls Try.prog 37 #[.agg #[.int .i64 n,.int .i64 d]] W fun e w'=>e=.returned (.int .i64 v)∧∃ y,w'=ext W y:=by
  subst h;exact qkw n d W hn hd
set_option maxRecDepth 10000 in
set_option maxHeartbeats 2000000 in
theorem qme (p q:Pt) (n d:Int) (w:World) (hn:-9223372036854775808≤n∧n≤9223372036854775807) (hd:-9223372036854775808≤d∧d≤9223372036854775807) :
    Calls Try.prog 48 #[.agg #[.int .i64 p.id,.int .i64 p.a,.int .i64 p.b],.agg #[.int .i64 q.id,.int .i64 q.a,.int .i64 q.b],.agg #[.int .i64 n,.int .i64 d]] w fun e w'=>e=.returned (.int .i64 (qlo p q n d))∧∃ x,w'=ext w x:=by
  rcases qha p with h1 | h1<;>rcases qha q with h2 | h2<;>rcases qe6 n d with h3 | h3
  · have q1 := Lib.hid (qma p _ h1); have q2 := Lib.hid (qma q _ h2); have q3 := Lib.hid (qmd n d _ h3 hn hd)
    by_cases hi:p.id=q.id
    · have HR := Lib.hid (qlq (p := p) (q := q) ⟨h1, h2, h3⟩ hi)
      have hi':(p.id == q.id)=true:=by simpa using hi
      clear h1 h2 h3 hn hd hi
      go_enter Try.func48,Try.ntmps48
      go_wp2
      ((first | refine RegC.wp_region_ext1 (by kernel_rfl) (by kernel_rfl) ?_ | refine RegC.wp_region_ext0 (by kernel_rfl) (by kernel_rfl) ?_);(repeat (any_goals (first | go_big_quiet_step (first | (go_at_call 38;with_reducible exact Calls.ext_of (q1.out _)) | (go_at_call 38;with_reducible exact Calls.ext_of (q2.out _)) | (go_at_call 37;with_reducible exact Calls.ext_of (q3.out _))) | (refine RegC.wpQuiet_split rfl rfl (fun hb=>?_) (fun hb=>?_)<;>simp only [hb]))));all_goals (refine wpQuiet_nil ?_;rintro _ ⟨nq,rfl⟩))
      go_wp2
      (go_ret;exact ⟨qkq (by exact HR.out.symm),ext_of (by (try simp only [qcj]);repeat (first | exact Bel.refl _ | assumption | refine qcs ?_ _ | refine qct ?_ _ | refine Bel.ext ?_ _ | refine Bel.alloc ?_ _ | refine Bel.drewN ?_ _))⟩)
    · have HR := Lib.hid (qlr (p := p) (q := q) ⟨h1, h2, h3⟩ hi)
      have hi':(p.id == q.id)=false:=by simpa using hi
      clear h1 h2 h3 hn hd hi
      go_enter Try.func48,Try.ntmps48
      go_wp2
      ((first | refine RegC.wp_region_ext1 (by kernel_rfl) (by kernel_rfl) ?_ | refine RegC.wp_region_ext0 (by kernel_rfl) (by kernel_rfl) ?_);(repeat (any_goals (first | go_big_quiet_step (first | (go_at_call 38;with_reducible exact Calls.ext_of (q1.out _)) | (go_at_call 38;with_reducible exact Calls.ext_of (q2.out _)) | (go_at_call 37;with_reducible exact Calls.ext_of (q3.out _))) | (refine RegC.wpQuiet_split rfl rfl (fun hb=>?_) (fun hb=>?_)<;>simp only [hb]))));all_goals (refine wpQuiet_nil ?_;rintro _ ⟨nq,rfl⟩))
      go_wp2
      (go_ret;exact ⟨qkq (by exact HR.out.symm),ext_of (by (try simp only [qcj]);repeat (first | exact Bel.refl _ | assumption | refine qcs ?_ _ | refine qct ?_ _ | refine Bel.ext ?_ _ | refine Bel.alloc ?_ _ | refine Bel.drewN ?_ _))⟩)
  all_goals
    have q1:=Lib.hid (qma p _ h1)
    have q2:=Lib.hid (qma q _ h2)
    have q3:=Lib.hid (qmd n d _ h3 hn hd)
    have HR:=Lib.hid (qlp (p:=p) (q:=q) (n:=n) (d:=d) (by rw [h1,h2,h3];decide))
    clear h1 h2 h3 hn hd
    go_enter Try.func48,Try.ntmps48
    go_wp2
    ((first | refine RegC.wp_region_ext1 (by kernel_rfl) (by kernel_rfl) ?_ | refine RegC.wp_region_ext0 (by kernel_rfl) (by kernel_rfl) ?_);(repeat (any_goals (first | go_big_quiet_step (first | (go_at_call 38;with_reducible exact Calls.ext_of (q1.out _)) | (go_at_call 38;with_reducible exact Calls.ext_of (q2.out _)) | (go_at_call 37;with_reducible exact Calls.ext_of (q3.out _))) | (refine RegC.wpQuiet_split rfl rfl (fun hb=>?_) (fun hb=>?_)<;>simp only [hb]))));all_goals (refine wpQuiet_nil ?_;rintro _ ⟨nq,rfl⟩))
    go_wp2
    (go_ret;exact ⟨qkq (by exact HR.out.symm),ext_of (by (try simp only [qcj]);repeat (first | exact Bel.refl _ | assumption | refine qcs ?_ _ | refine qct ?_ _ | refine Bel.ext ?_ _ | refine Bel.alloc ?_ _ | refine Bel.drewN ?_ _))⟩)
theorem qmf {p q:Pt} {n d:Int} (hp:p.chk=0) (hq:q.chk=0) (hr:qe0 n d=0) (hn:-9223372036854775808≤n∧n≤9223372036854775807) (hd:-9223372036854775808≤d∧d≤9223372036854775807):CmpIn p q n d:=by
  have h1:=qh9 hp
  have h2:=qh9 hq
  have h3:=qe7 hr
  exact ⟨by omega,by omega,by omega,by omega,by omega,by omega⟩
set_option maxRecDepth 10000 in
set_option maxHeartbeats 2000000 in
theorem qmg (p q:Pt) (n d:Int) (w:World) (hn:-9223372036854775808≤n∧n≤9223372036854775807) (hd:-9223372036854775808≤d∧d≤9223372036854775807) :
    Calls Try.prog 28 #[.agg #[.int .i64 p.id,.int .i64 p.a,.int .i64 p.b],.agg #[.int .i64 q.id,.int .i64 q.a,.int .i64 q.b],.agg #[.int .i64 n,.int .i64 d]] w fun e w'=>e=.returned (.tuple #[.bool (qlt p q n d).1,.int .i64 (qlt p q n d).2])∧∃ x,w'=ext w x:=by
  have q1:=Lib.hid (fun W=>qme p q n d W hn hd)
  by_cases h:qlo p q n d=0
  · have HV : Hid (qlt p q n d = (qld p q n d, 0)) := Lib.hid (by unfold qlt; rw [if_pos h])
    obtain ⟨h1,h2,h3,_⟩:=qls h
    have q2:=Lib.hid (fun W=>qm9 p q n d W (qmf h1 h2 h3 hn hd))
    rw [h] at q1
    have HL:=Lib.hid (qln p q n d)
    obtain ⟨C,hC⟩:∃ C,cmpC p q n d=C:=⟨_,rfl⟩
    rw [hC] at q2 HL
    clear h h1 h2 h3 hn hd hC
    go_enter Try.func28,Try.ntmps28
    go_wp2_with (first | (go_at_call 48;refine (q1.out _).mono ?_;rintro e _ ⟨rfl,nx,rfl⟩) | (go_at_call 49;refine (q2.out _).mono ?_;rintro e _ ⟨rfl,nx,rfl⟩))
    go_ret2
    exact ⟨by rw [HV.out,← HL.out];rfl,ext_of (by (try simp only [qcj]);repeat (first | exact Bel.refl _ | assumption | refine qcs ?_ _ | refine qct ?_ _ | refine Bel.ext ?_ _ | refine Bel.alloc ?_ _ | refine Bel.drewN ?_ _))⟩
  · have HV : Hid (qlt p q n d = (false, qlo p q n d)) := Lib.hid (by unfold qlt; rw [if_neg h])
    have hz:(qlo p q n d == 0)=false:=by simpa using h
    have hz':(qlo p q n d != 0)=true:=by simpa using h
    clear h hn hd
    go_enter Try.func28,Try.ntmps28
    go_wp2_with ((go_at_call 48;refine (q1.out _).mono ?_;rintro e _ ⟨rfl,nx,rfl⟩))
    go_ret2
    exact ⟨by rw [HV.out];rfl,ext_of (by (try simp only [qcj]);repeat (first | exact Bel.refl _ | assumption | refine qcs ?_ _ | refine qct ?_ _ | refine Bel.ext ?_ _ | refine Bel.alloc ?_ _ | refine Bel.drewN ?_ _))⟩
end Go.Proofs.Ytpgpbhjkgciggaa

namespace Go.Proofs.Ytpgpbhjkgciggaa
open Go.RowKit Go.Pel
end Go.Proofs.Ytpgpbhjkgciggaa

namespace Go.Proofs.Ytpgpbhjkgciggaa
open Go.RowKit Go.Pel
end Go.Proofs.Ytpgpbhjkgciggaa

namespace Go.Proofs.Ytpgpbhjkgciggaa
open Go.RowKit Go.Pel
end Go.Proofs.Ytpgpbhjkgciggaa

namespace Go.Proofs.Ytpgpbhjkgciggaa
open Go.RowKit Go.Pel
theorem qmp:SlT Try.prog 22 42 (.agg #[.int .i64 0,.int .i64 0,.int .i64 0]) 3 24:=⟨by kernel_rfl,by kernel_rfl,by kernel_rfl,by decide,by decide⟩
def eqP (i a b i' a' b':Int):Bool:=decide (i=i'∧a=a'∧b=b')
theorem qms (i a b i' a' b':Int) (w:World):(Op.equalIn 10000 42 (.agg #[.int .i64 i,.int .i64 a,.int .i64 b]) (.agg #[.int .i64 i',.int .i64 a',.int .i64 b'])).run Try.prog w=.ok (eqP i a b i' a' b') w:=by
  simp [go_sem]
  unfold eqP
  by_cases h1:i=i'<;>by_cases h2:a=a'<;>by_cases h3:b=b'<;>simp [h1,h2,h3]
attribute [local go_sem ↓] qms
set_option maxRecDepth 10000 in
set_option maxHeartbeats 2000000 in
theorem qmt (A:Option Addr) (c:Nat) (l:List Pt) (w:World) (hs:Sl w 3 A l.length c (vp l)) :
    Calls Try.prog 30 #[.agg #[.slice A l.length c]] w fun e w'=>e=.returned (.int .i64 (qh2 l))∧∃ x,w'=ext w x:=by
  by_cases hm:64<l.length
  · have E1 := Lib.hid (qh3 hm)
    go_enter Try.func30,Try.ntmps30
    go_wp2
    (go_ret;exact ⟨qkq (by exact E1.out.symm),ext_of (by (try simp only [qcj]);repeat (first | exact Bel.refl _ | assumption | refine qcs ?_ _ | refine qct ?_ _ | refine Bel.ext ?_ _ | refine Bel.alloc ?_ _ | refine Bel.drewN ?_ _))⟩)
  · have E1 := Lib.hid (fun p (hp : p ∈ l) hc => qh4 (l := l) (by omega) hp hc)
    have E2:=Lib.hid (qh5 (l:=l) (by omega))
    have E3:=Lib.hid (qh6 (l:=l) (by omega))
    go_enter Try.func30,Try.ntmps30
    go_wp2
    go_loopw [3] (fun i wr=>∃ (k:Nat),k≤l.length∧i=.int .i64 k∧(∀ p∈l.take k,p.chk=0)∧∃ y,wr=ext (w.alloc (.cells #[.slice A l.length c] 24)) y) (fun i _=>l.length - (intOf i).toNat)
    case atStart=>exact ⟨0,Nat.zero_le _,rfl,by simp,ext_of (Bel.refl _)⟩
    case round =>
      obtain ⟨k,hk,rfl,hall,y,rfl⟩:=hrel
      have HA:=Lib.hid hall;clear hall
      by_cases hlt:k<l.length
      · obtain ⟨p, hp⟩ : ∃ p, l[k]? = some p := ⟨_, List.getElem?_eq_getElem hlt⟩
        obtain ⟨b,o,rfl,hb⟩:=hs.at_ (by omega)
        obtain ⟨r0,r1,r2⟩:=qgz hs hp
        have HP:=Lib.hid hp;clear hp
        rcases qha p with h | h
        · have e1 := Lib.hid (qmb p 0 h)
          have HC:=Lib.hid h;clear h
          go_wp2_with ((go_at_call 51;refine (e1.out _).mono ?_;rintro e _ ⟨rfl,nx,rfl⟩))
          go_roundw
          case rel =>
            refine ⟨k+1,by omega,by go_num,?_,ext_of (by (try simp only [qcj]);repeat (first | exact Bel.refl _ | assumption | refine qcs ?_ _ | refine qct ?_ _ | refine Bel.ext ?_ _ | refine Bel.alloc ?_ _ | refine Bel.drewN ?_ _))⟩
            intro q hq
            rw [List.take_add_one,HP.out] at hq
            rcases List.mem_append.1 hq with hq | hq
            · exact HA.out q hq
            · simp at hq;subst hq;exact HC.out
          case measure=>(first | (simp [intOf];done) | (simp [intOf];omega))
        · have e1 := Lib.hid (qmb p 8 h)
          have HC:=Lib.hid (E1.out p (List.mem_of_getElem? HP.out) (by rw [h];decide));clear h
          go_wp2_with ((go_at_call 51;refine (e1.out _).mono ?_;rintro e _ ⟨rfl,nx,rfl⟩))
          (go_ret;exact ⟨qkq (by exact HC.out.symm),ext_of (by (try simp only [qcj]);repeat (first | exact Bel.refl _ | assumption | refine qcs ?_ _ | refine qct ?_ _ | refine Bel.ext ?_ _ | refine Bel.alloc ?_ _ | refine Bel.drewN ?_ _))⟩)
      · obtain rfl : k = l.length := by omega
        have hc0:=HA.out
        rw [List.take_length] at hc0
        have HC:=Lib.hid hc0;clear hc0
        go_wp2
        go_loopw [4] (fun i wr=>∃ (k:Nat),k≤l.length+1∧i=.int .i64 (k+1)∧(∀ (i:Nat) (p q:Pt),i+1<k+1→l[i]?=some p→l[i+1]?=some q→p.id<q.id)∧∃ y,wr=ext (w.alloc (.cells #[.slice A l.length c] 24)) y) (fun i _=>l.length+2 - (intOf i).toNat)
        case atStart=>exact ⟨0,by omega,rfl,(by intro i p q h;omega),y,rfl⟩
        case round =>
          clear hk hlt HA
          obtain ⟨m,hk,rfl,hall,y2,rfl⟩:=hrel
          have HA:=Lib.hid hall;clear hall
          by_cases hlt:m+1<l.length
          · obtain ⟨p, hp⟩ : ∃ p, l[m + 1]? = some p := ⟨_, List.getElem?_eq_getElem hlt⟩
            obtain ⟨b,o,rfl,hb⟩:=hs.at_ (by omega)
            obtain ⟨r0,r1,r2⟩:=qgz hs hp
            have HP:=Lib.hid hp;clear hp
            obtain ⟨q,hq⟩:∃ q,l[m]?=some q:=⟨_,List.getElem?_eq_getElem (by omega)⟩
            obtain ⟨q0,q1,q2⟩:=qgz hs hq
            have HQ:=Lib.hid hq;clear hq
            have hi0:(0:Int)≤(m:Int):=by omega
            have hi1:(m:Int)<(l.length:Int):=by omega
            have hi2:(m:Int)+1<(l.length:Int):=by omega
            by_cases hid:q.id<p.id
            · have hd : ¬ p.id ≤ q.id := by omega
              go_wp2
              ((first | refine RegC.wp_region_ext1 (by kernel_rfl) (by kernel_rfl) ?_ | refine RegC.wp_region_ext0 (by kernel_rfl) (by kernel_rfl) ?_);(repeat (any_goals (first | go_big_quiet_step (fail) | (refine RegC.wpQuiet_split rfl rfl (fun hb=>?_) (fun hb=>?_)<;>simp only [hb]))));all_goals (refine wpQuiet_nil ?_;rintro _ ⟨nq,rfl⟩))
              go_wp2
              go_roundw
              case rel =>
                refine ⟨m+1,by omega,by go_num,?_,ext_of (by (try simp only [qcj]);repeat (first | exact Bel.refl _ | assumption | refine qcs ?_ _ | refine qct ?_ _ | refine Bel.ext ?_ _ | refine Bel.alloc ?_ _ | refine Bel.drewN ?_ _))⟩
                intro i p' q' hi hp' hq'
                rcases Nat.lt_or_ge (i+1) (m+1) with h | h
                · exact HA.out i p' q' h hp' hq'
                · obtain rfl : i = m := by omega
                  rw [HQ.out] at hp'
                  rw [HP.out] at hq'
                  obtain rfl:=Option.some.inj hp'
                  obtain rfl:=Option.some.inj hq'
                  exact hid
              case measure=>(first | (simp [intOf];done) | (simp [intOf];omega))
            · have hd : p.id ≤ q.id := by omega
              have hbad:incB l=false:=by
                rw [← Bool.not_eq_true,qh0];intro h;exact hid (h m q p HQ.out HP.out)
              have HB:=Lib.hid (E2.out HC.out hbad);clear hbad
              go_wp2
              ((first | refine RegC.wp_region_ext1 (by kernel_rfl) (by kernel_rfl) ?_ | refine RegC.wp_region_ext0 (by kernel_rfl) (by kernel_rfl) ?_);(repeat (any_goals (first | go_big_quiet_step (fail) | (refine RegC.wpQuiet_split rfl rfl (fun hb=>?_) (fun hb=>?_)<;>simp only [hb]))));all_goals (refine wpQuiet_nil ?_;rintro _ ⟨nq,rfl⟩))
              go_wp2
              (go_ret;exact ⟨qkq (by exact HB.out.symm),ext_of (by (try simp only [qcj]);repeat (first | exact Bel.refl _ | assumption | refine qcs ?_ _ | refine qct ?_ _ | refine Bel.ext ?_ _ | refine Bel.alloc ?_ _ | refine Bel.drewN ?_ _))⟩)
          · have hlt2 : ¬ (m : Int) + 1 < (l.length : Int) := by omega
            have hinc:incB l=true:=(qh0 l).2 fun i p q hp hq=>HA.out i p q (by have:=(List.getElem?_eq_some_iff.1 hq).1;omega) hp hq
            have HB:=Lib.hid (E3.out HC.out hinc);clear hinc
            go_wp2
            (go_ret;exact ⟨qkq (by exact HB.out.symm),ext_of (by (try simp only [qcj]);repeat (first | exact Bel.refl _ | assumption | refine qcs ?_ _ | refine qct ?_ _ | refine Bel.ext ?_ _ | refine Bel.alloc ?_ _ | refine Bel.drewN ?_ _))⟩)
def great (n:Nat):Bool:=(decide (16<n)&&decide (n<64)) || decide (70<n)
set_option maxHeartbeats 400000 in
theorem qmv (A:Option Addr) (n c:Nat) (w:World):Calls Try.prog 6 #[.agg #[.slice A n c]] w fun e w'=>e=.returned (.bool (great n))∧∃ x,w'=ext w x:=by
  by_cases h1:16<n
  · by_cases h2 : n < 64
    · have H := Lib.hid (show great n = true by unfold great; simp [h1, h2])
      go_enter Try.func6,Try.ntmps6
      go_wp2
      (go_ret;exact ⟨qkr (by first | exact H.out.symm | (rw [H.out];simp;omega)),ext_of (by (try simp only [qcj]);repeat (first | exact Bel.refl _ | assumption | refine qcs ?_ _ | refine qct ?_ _ | refine Bel.ext ?_ _ | refine Bel.alloc ?_ _ | refine Bel.drewN ?_ _))⟩)
    · by_cases h3 : 70 < n
      · have H := Lib.hid (show great n = true by unfold great; simp [h3])
        go_enter Try.func6,Try.ntmps6
        go_wp2
        (go_ret;exact ⟨qkr (by first | exact H.out.symm | (rw [H.out];simp;omega)),ext_of (by (try simp only [qcj]);repeat (first | exact Bel.refl _ | assumption | refine qcs ?_ _ | refine qct ?_ _ | refine Bel.ext ?_ _ | refine Bel.alloc ?_ _ | refine Bel.drewN ?_ _))⟩)
      · have H := Lib.hid (show great n = false by unfold great; simp [h2, h3])
        go_enter Try.func6,Try.ntmps6
        go_wp2
        (go_ret;exact ⟨qkr (by first | exact H.out.symm | (rw [H.out];simp;omega)),ext_of (by (try simp only [qcj]);repeat (first | exact Bel.refl _ | assumption | refine qcs ?_ _ | refine qct ?_ _ | refine Bel.ext ?_ _ | refine Bel.alloc ?_ _ | refine Bel.drewN ?_ _))⟩)
  · have h3 : ¬ 70 < n := by omega
    have H:=Lib.hid (show great n=false by unfold great;simp [h1,h3])
    go_enter Try.func6,Try.ntmps6
    go_wp2
    (go_ret;exact ⟨qkr (by first | exact H.out.symm | (rw [H.out];simp;omega)),ext_of (by (try simp only [qcj]);repeat (first | exact Bel.refl _ | assumption | refine qcs ?_ _ | refine qct ?_ _ | refine Bel.ext ?_ _ | refine Bel.alloc ?_ _ | refine Bel.drewN ?_ _))⟩)
end Go.Proofs.Ytpgpbhjkgciggaa

namespace Go.Pel
def cmpQ (n1 d1 n2 d2:Int):Int:=cmpZ (n1*d2) (n2*d1)
end Go.Pel
namespace Go.Proofs.Ytpgpbhjkgciggaa
open Go Go.Tx Go.RowKit Go.Pel
def u64B (x:Int):Bool:=decide (0≤x∧x≤18446744073709551615)
theorem qmw {x:Int} (h:u64B x=true):0≤x∧x≤18446744073709551615:=of_decide_eq_true h
theorem qmx {η:Emb} {a:Int} {v:Value} (hv:VR η (.int .u64 a) v):v=.int .u64 a:=by cases hv;rfl
theorem qmy (a b:Int) (w:World) (ha:0≤a∧a≤18446744073709551615) (hb:0≤b∧b≤18446744073709551615) :
    Calls Try.prog 100 #[.int .u64 a,.int .u64 b] w fun e w'=>e=.returned (.tuple #[.int .u64 ((a*b) / 18446744073709551616),.int .u64 ((a*b) % 18446744073709551616)])∧∃ x,w'=ext w x:=by
  obtain ⟨x,rfl⟩:∃ x:Nat,a=x:=⟨a.toNat,by omega⟩
  obtain ⟨y,rfl⟩:∃ y:Nat,b=y:=⟨b.toNat,by omega⟩
  have h:=Try.bits_Mul64 x y (by omega) (by omega) w
  refine h.mono fun e w' ⟨he,hw⟩=>⟨he.trans ?_,ext_of (hw ▸ Bel.refl _)⟩
  simp
end Go.Proofs.Ytpgpbhjkgciggaa

namespace Go.Proofs.Ytpgpbhjkgciggaa
open Go Go.Tx Go.Pel Go.Proofs.Try
set_option maxRecDepth 100000
set_option maxHeartbeats 0
def qn3 (p q:Pt) (n d:Int):Bool:=decide (-1048576≤p.a∧p.a≤1048576)&&decide (-1048576≤p.b∧p.b≤1048576)&&decide (-1048576≤q.a∧q.a≤1048576)&&decide (-1048576≤q.b∧q.b≤1048576)&&decide (-9223372036854775807≤n∧n≤9223372036854775807)&&decide (1≤d∧d≤9223372036854775807)
theorem qn4 {p q:Pt} {n d:Int} (h:qn3 p q n d=true):CmpIn p q n d:=by
 unfold qn3 at h
 simp only [Bool.and_eq_true,decide_eq_true_eq] at h
 exact ⟨h.1.1.1.1.1,h.1.1.1.1.2,h.1.1.1.2,h.1.1.2,h.1.2,h.2⟩
theorem qn5 {p q:Pt} {n d:Int} (h:CmpIn p q n d):qn3 p q n d=true:=by
 unfold qn3
 simp only [Bool.and_eq_true,decide_eq_true_eq]
 exact ⟨⟨⟨⟨⟨h.pa,h.pb⟩,h.qa⟩,h.qb⟩,h.n⟩,h.d⟩
abbrev qn6:List Pk:=[.row Ru false,.row Ru false]
abbrev qn7:Type:=Du×Du×Unit
abbrev qn8:Type:=Int×Int
def qn9 (r:qn8):LV×List Ob:=(.tup [.int .u64 r.1,.int .u64 r.2],[])
def qna (F:qn7→Option qn8):Go.Tx.Spec:=⟨100,qn6,qn8,F,qn9⟩
def qnb (x:qn7):Bool:=u64B x.1.1&&u64B x.2.1.1
def qnc (d:Nat) (x:qn7):Option qn8:=bif qnb x then some ((x.1.1*x.2.1.1) / 18446744073709551616,(x.1.1*x.2.1.1) % 18446744073709551616) else none
theorem qnd (d:Nat) (x:qn7) (h:qnb x=true):qnc d x=some ((x.1.1*x.2.1.1) / 18446744073709551616,(x.1.1*x.2.1.1) % 18446744073709551616):=by unfold qnc;rw [h];rfl
theorem qne (d:Nat):COK prog (qna (qnc d)):=by
 refine qii (qij (fn:=f100) (by kernel_rfl) (by kernel_rfl) (by kernel_rfl)) fun x r hx w φ vs hφ hv=>?_
 have hx:qnc d x=some r:=hx
 unfold qnc at hx
 obtain ⟨hc,rfl⟩:=qjy hx
 have hv:VRs (Emb.fro φ) [.int .u64 x.1.1,.int .u64 x.2.1.1] vs:=hv
 obtain ⟨v0,vs,rfl,q0,hv⟩:=VRs.uncons hv
 obtain ⟨v1,rfl,q1⟩:=vrs1 hv
 have r0:=qmx q0;subst r0
 have r1:=qmx q1;subst r1
 unfold qnb at hc
 simp only [Bool.and_eq_true] at hc
 obtain ⟨h1,h2⟩:=hc
 refine (qmy x.1.1 x.2.1.1 w (qmw h1) (qmw h2)).mono ?_
 rintro e w' ⟨rfl,y,rfl⟩
 exact qig hφ (VR.tupL (VRs.cons (.int _ _) (VRs.cons (.int _ _) VRs.nil))) y
abbrev qno:List Pk:=[.row Rii true]
abbrev qnp:Type:=Dii×Unit
abbrev qnq:Type:=Int
def qnr (r:qnq):LV×List Ob:=(.int .i64 r,[])
def qns (F:qnp→Option qnq):Go.Tx.Spec:=⟨37,qno,qnq,F,qnr⟩
def qnt (x:qnp):Bool:=i64B x.1.1&&i64B x.1.2.1
def qnu (d:Nat) (x:qnp):Option qnq:=bif qnt x then some (qe0 x.1.1 x.1.2.1) else none
theorem qnv (d:Nat) (x:qnp) (h:qnt x=true):qnu d x=some (qe0 x.1.1 x.1.2.1):=by unfold qnu;rw [h];rfl
theorem qnw (d:Nat):COK prog (qns (qnu d)):=by
 refine qii (qij (fn:=f37) (by kernel_rfl) (by kernel_rfl) (by kernel_rfl)) fun x r hx w φ vs hφ hv=>?_
 have hx:qnu d x=some r:=hx
 unfold qnu at hx
 obtain ⟨hc,rfl⟩:=qjy hx
 have hv:VRs (Emb.fro φ) [.agg [.int .i64 x.1.1,.int .i64 x.1.2.1]] vs:=hv
 obtain ⟨v0,rfl,q0⟩:=vrs1 hv
 have r0:=qic q0;subst r0
 unfold qnt at hc
 simp only [Bool.and_eq_true] at hc
 obtain ⟨h1,h2⟩:=hc
 refine (qkw x.1.1 x.1.2.1 w (qjv h1) (qjv h2)).mono ?_
 rintro e w' ⟨rfl,y,rfl⟩
 exact qig hφ (.int _ _) y
abbrev qo6:List Pk:=[.row Ri false,.row Ri false]
abbrev qo7:Type:=Di×Di×Unit
abbrev qo8:Type:=Int×Int×Int
def qo9 (r:qo8):LV×List Ob:=(.tup [.agg [.int .i64 r.1,.int .i64 r.2.1],.int .i64 r.2.2],[])
def qoa (F:qo7→Option qo8):Go.Tx.Spec:=⟨81,qo6,qo8,F,qo9⟩
def qob (x:qo7):Bool:=i64B x.1.1&&i64B x.2.1.1
def qoc (d:Nat) (x:qo7):Option qo8:=bif qob x then some ((mk x.1.1 x.2.1.1).1,(mk x.1.1 x.2.1.1).2.1,(mk x.1.1 x.2.1.1).2.2) else none
theorem qod (d:Nat) (x:qo7) (h:qob x=true):qoc d x=some ((mk x.1.1 x.2.1.1).1,(mk x.1.1 x.2.1.1).2.1,(mk x.1.1 x.2.1.1).2.2):=by unfold qoc;rw [h];rfl
theorem qoe (d:Nat):COK prog (qoa (qoc d)):=by
 refine qii (qij (fn:=f81) (by kernel_rfl) (by kernel_rfl) (by kernel_rfl)) fun x r hx w φ vs hφ hv=>?_
 have hx:qoc d x=some r:=hx
 unfold qoc at hx
 obtain ⟨hc,rfl⟩:=qjy hx
 have hv:VRs (Emb.fro φ) [.int .i64 x.1.1,.int .i64 x.2.1.1] vs:=hv
 obtain ⟨v0,vs,rfl,q0,hv⟩:=VRs.uncons hv
 obtain ⟨v1,rfl,q1⟩:=vrs1 hv
 have r0:=qid q0;subst r0
 have r1:=qid q1;subst r1
 unfold qob at hc
 simp only [Bool.and_eq_true] at hc
 obtain ⟨h1,h2⟩:=hc
 refine (ql4 x.1.1 x.2.1.1 w (qjv h1) (qjv h2)).mono ?_
 rintro e w' ⟨rfl,y,rfl⟩
 exact qig hφ (VR.tupL (VRs.cons (VR.aggL (VRs.cons (.int _ _) (VRs.cons (.int _ _) VRs.nil))) (VRs.cons (.int _ _) VRs.nil))) y
abbrev qpf:List Pk:=[.row Riii true,.row Riii true,.row Rii true]
abbrev qpg:Type:=Diii×Diii×Dii×Unit
abbrev qph:Type:=Int
def qpi (r:qph):LV×List Ob:=(.int .i64 r,[])
def qpj (F:qpg→Option qph):Go.Tx.Spec:=⟨48,qpf,qph,F,qpi⟩
def qpk (x:qpg):Bool:=i64B x.2.2.1.1&&i64B x.2.2.1.2.1
def qpl (d:Nat) (x:qpg):Option qph:=bif qpk x then some (qlo (ofP x.1) (ofP x.2.1) x.2.2.1.1 x.2.2.1.2.1) else none
theorem qpm (d:Nat) (x:qpg) (h:qpk x=true):qpl d x=some (qlo (ofP x.1) (ofP x.2.1) x.2.2.1.1 x.2.2.1.2.1):=by unfold qpl;rw [h];rfl
theorem qpn (d:Nat):COK prog (qpj (qpl d)):=by
 refine qii (qij (fn:=f48) (by kernel_rfl) (by kernel_rfl) (by kernel_rfl)) fun x r hx w φ vs hφ hv=>?_
 have hx:qpl d x=some r:=hx
 unfold qpl at hx
 obtain ⟨hc,rfl⟩:=qjy hx
 have hv:VRs (Emb.fro φ) [.agg [.int .i64 x.1.1,.int .i64 x.1.2.1,.int .i64 x.1.2.2.1],.agg [.int .i64 x.2.1.1,.int .i64 x.2.1.2.1,.int .i64 x.2.1.2.2.1],.agg [.int .i64 x.2.2.1.1,.int .i64 x.2.2.1.2.1]] vs:=hv
 obtain ⟨v0,vs,rfl,q0,hv⟩:=VRs.uncons hv
 obtain ⟨v1,vs,rfl,q1,hv⟩:=VRs.uncons hv
 obtain ⟨v2,rfl,q2⟩:=vrs1 hv
 have r0:=qib (p:=x.1) q0;subst r0
 have r1:=qib (p:=x.2.1) q1;subst r1
 have r2:=qic q2;subst r2
 unfold qpk at hc
 simp only [Bool.and_eq_true] at hc
 obtain ⟨h1,h2⟩:=hc
 refine (qme (ofP x.1) (ofP x.2.1) x.2.2.1.1 x.2.2.1.2.1 w (qjv h1) (qjv h2)).mono ?_
 rintro e w' ⟨rfl,y,rfl⟩
 exact qig hφ (.int _ _) y
abbrev qpo:List Pk:=[.row Riii true,.row Riii true,.row Rii true]
abbrev qpp:Type:=Diii×Diii×Dii×Unit
abbrev qpq:Type:=Bool×Int
def qpr (r:qpq):LV×List Ob:=(.tup [.bool r.1,.int .i64 r.2],[])
def qps (F:qpp→Option qpq):Go.Tx.Spec:=⟨28,qpo,qpq,F,qpr⟩
def qpt (x:qpp):Bool:=i64B x.2.2.1.1&&i64B x.2.2.1.2.1
def qpu (d:Nat) (x:qpp):Option qpq:=bif qpt x then some ((qlt (ofP x.1) (ofP x.2.1) x.2.2.1.1 x.2.2.1.2.1).1,(qlt (ofP x.1) (ofP x.2.1) x.2.2.1.1 x.2.2.1.2.1).2) else none
theorem qpv (d:Nat) (x:qpp) (h:qpt x=true):qpu d x=some ((qlt (ofP x.1) (ofP x.2.1) x.2.2.1.1 x.2.2.1.2.1).1,(qlt (ofP x.1) (ofP x.2.1) x.2.2.1.1 x.2.2.1.2.1).2):=by unfold qpu;rw [h];rfl
theorem qpw (d:Nat):COK prog (qps (qpu d)):=by
 refine qii (qij (fn:=f28) (by kernel_rfl) (by kernel_rfl) (by kernel_rfl)) fun x r hx w φ vs hφ hv=>?_
 have hx:qpu d x=some r:=hx
 unfold qpu at hx
 obtain ⟨hc,rfl⟩:=qjy hx
 have hv:VRs (Emb.fro φ) [.agg [.int .i64 x.1.1,.int .i64 x.1.2.1,.int .i64 x.1.2.2.1],.agg [.int .i64 x.2.1.1,.int .i64 x.2.1.2.1,.int .i64 x.2.1.2.2.1],.agg [.int .i64 x.2.2.1.1,.int .i64 x.2.2.1.2.1]] vs:=hv
 obtain ⟨v0,vs,rfl,q0,hv⟩:=VRs.uncons hv
 obtain ⟨v1,vs,rfl,q1,hv⟩:=VRs.uncons hv
 obtain ⟨v2,rfl,q2⟩:=vrs1 hv
 have r0:=qib (p:=x.1) q0;subst r0
 have r1:=qib (p:=x.2.1) q1;subst r1
 have r2:=qic q2;subst r2
 unfold qpt at hc
 simp only [Bool.and_eq_true] at hc
 obtain ⟨h1,h2⟩:=hc
 refine (qmg (ofP x.1) (ofP x.2.1) x.2.2.1.1 x.2.2.1.2.1 w (qjv h1) (qjv h2)).mono ?_
 rintro e w' ⟨rfl,y,rfl⟩
 exact qig hφ (VR.tupL (VRs.cons (.bool _) (VRs.cons (.int _ _) VRs.nil))) y
abbrev qpx:List Pk:=[.row qka true]
abbrev qpy:Type:=qkb×Unit
abbrev qpz:Type:=Bool
def qq0 (r:qpz):LV×List Ob:=(.bool r,[])
def qq1 (F:qpy→Option qpz):Go.Tx.Spec:=⟨6,qpx,qpz,F,qq0⟩
def qq2 (x:qpy):Bool:=true
def qq3 (d:Nat) (x:qpy):Option qpz:=bif qq2 x then some (great (ptsL x.1.1).length) else none
theorem qq4 (d:Nat) (x:qpy) (h:qq2 x=true):qq3 d x=some (great (ptsL x.1.1).length):=by unfold qq3;rw [h];rfl
theorem qq5 (d:Nat):COK prog (qq1 (qq3 d)):=by
 refine qii (qij (fn:=f6) (by kernel_rfl) (by kernel_rfl) (by kernel_rfl)) fun x r hx w φ vs hφ hv=>?_
 have hx:qq3 d x=some r:=hx
 unfold qq3 at hx
 obtain ⟨hc,rfl⟩:=qjy hx
 have hv:VRs (Emb.fro φ) [.agg [.fz RP x.1.1]] vs:=hv
 obtain ⟨v0,rfl,q0⟩:=vrs1 hv
 obtain ⟨A0,c0,rfl,s0,z0⟩:=qjt hφ q0
 refine (qmv A0 (ptsL x.1.1).length c0 w).mono ?_
 rintro e w' ⟨rfl,y,rfl⟩
 exact qig hφ (.bool _) y
abbrev qq6:List Pk:=[.row qka true]
abbrev qq7:Type:=qkb×Unit
abbrev qq8:Type:=Int
def qq9 (r:qq8):LV×List Ob:=(.int .i64 r,[])
def qqa (F:qq7→Option qq8):Go.Tx.Spec:=⟨20,qq6,qq8,F,qq9⟩
def qqb (x:qq7):Bool:=true
def qqc (d:Nat) (x:qq7):Option qq8:=bif qqb x then some (qh2 (ptsL x.1.1)) else none
theorem qqd (d:Nat) (x:qq7) (h:qqb x=true):qqc d x=some (qh2 (ptsL x.1.1)):=by unfold qqc;rw [h];rfl
theorem qqe (d:Nat):COK prog (qqa (qqc d)):=by
 refine qii (qij (fn:=f20) (by kernel_rfl) (by kernel_rfl) (by kernel_rfl)) fun x r hx w φ vs hφ hv=>?_
 have hx:qqc d x=some r:=hx
 unfold qqc at hx
 obtain ⟨hc,rfl⟩:=qjy hx
 have hv:VRs (Emb.fro φ) [.agg [.fz RP x.1.1]] vs:=hv
 obtain ⟨v0,rfl,q0⟩:=vrs1 hv
 obtain ⟨A0,c0,rfl,s0,z0⟩:=qjt hφ q0
 refine (qmc A0 c0 (ptsL x.1.1) w s0).mono ?_
 rintro e w' ⟨rfl,y,rfl⟩
 exact qig hφ (.int _ _) y
end Go.Proofs.Ytpgpbhjkgciggaa

namespace Go.Proofs.Ytpgpbhjkgciggaa
open Go.RowKit Go.Pel
set_option maxHeartbeats 400000 in
theorem qqx (p:Pt) (id:Int) (w:World):Calls Try.prog 107 #[.agg #[.int .i64 p.id,.int .i64 p.a,.int .i64 p.b],.int .i64 id] w fun e w'=>e=.returned (.int .i64 (cmpI p.id id))∧∃ x,w'=ext w x:=by
  go_enter Try.func107,Try.ntmps107
  go_wp2_with ((go_at_call 41;refine (qm2 _ _ _).mono ?_;rintro e _ ⟨rfl,nx,rfl⟩))
  (go_ret;exact ⟨qkq (by rfl),ext_of (by (try simp only [qcj]);repeat (first | exact Bel.refl _ | assumption | refine qcs ?_ _ | refine qct ?_ _ | refine Bel.ext ?_ _ | refine Bel.alloc ?_ _ | refine Bel.drewN ?_ _))⟩)
theorem qqy (p:Pt) (id v:Int) (h:cmpI p.id id=v) (w:World):Calls Try.prog 107 #[.agg #[.int .i64 p.id,.int .i64 p.a,.int .i64 p.b],.int .i64 id] w fun e w'=>e=.returned (.int .i64 v)∧∃ x,w'=ext w x:=h ▸ qqx p id w
set_option maxRecDepth 10000 in
set_option maxHeartbeats 2000000 in
theorem qqz (A:Option Addr) (c:Nat) (l:List Pt) (id:Int) (w:World) (hs:Sl w 3 A l.length c (vp l)) (hl:l.length≤1000000) (hinc:incB l=true) :
    Calls Try.prog 39 #[.slice A l.length c,.int .i64 id,.func (.func 107) #[] #[]] w fun e w'=>e=.returned (.tuple #[.int .i64 (lowB l id),.bool (hasB l id)])∧∃ x,w'=ext w x:=by
  have HI:=Lib.hid hinc;clear hinc
  go_enter Try.func39,Try.ntmps39
  go_wp2
  go_loopw [9,10] (fun i j wr=>∃ (a b:Nat),a≤b∧b≤l.length∧i=.int .i64 a∧j=.int .i64 b∧(∀ (k:Nat) (p:Pt),k<a→l[k]?=some p→p.id<id)∧(∀ (k:Nat) (p:Pt),b≤k→l[k]?=some p→id≤p.id)∧∃ y,wr=ext w y) (fun i j _=>(intOf j - intOf i).toNat)
  case atStart=>exact ⟨0,l.length,Nat.zero_le _,Nat.le_refl _,rfl,rfl,(by intro k p h;omega),(by intro k p h hp;have:=(List.getElem?_eq_some_iff.1 hp).1;omega),ext_of (Bel.refl _)⟩
  case round =>
    obtain ⟨a,b,hab,hbl,rfl,rfl,h1,h2,y,rfl⟩:=hrel
    have H1:=Lib.hid h1
    have H2:=Lib.hid h2
    clear h1 h2
    by_cases hlt:a<b
    · obtain ⟨m, hm1, hm2⟩ : ∃ m : Nat, 2 * m ≤ a + b ∧ a + b ≤ 2 * m + 1 := ⟨(a + b) / 2, by omega, by omega⟩
      have hmd:((a:Int)+(b:Int)) / 2=(m:Int):=by omega
      obtain ⟨p,hp⟩:∃ p,l[m]?=some p:=⟨_,List.getElem?_eq_getElem (by omega)⟩
      obtain ⟨b0,o,rfl,hb0⟩:=hs.at_ (by omega)
      obtain ⟨r0,r1,r2⟩:=qgz hs hp
      have HP:=Lib.hid hp;clear hp
      have hml:(m:Int)<(l.length:Int):=by omega
      by_cases hpi:p.id<id
      · have e1 := Lib.hid (qqy p id (-1) (qlz hpi))
        go_wp2_with ((go_at_call 107;refine (e1.out _).mono ?_;rintro e _ ⟨rfl,nx,rfl⟩))
        go_roundw
        case rel =>
          refine ⟨m+1,b,by omega,hbl,by go_num,rfl,?_,H2.out,ext_of (by (try simp only [qcj]);repeat (first | exact Bel.refl _ | assumption | refine qcs ?_ _ | refine qct ?_ _ | refine Bel.ext ?_ _ | refine Bel.alloc ?_ _ | refine Bel.drewN ?_ _))⟩
          intro k q hk hq
          rcases Nat.lt_or_ge k m with h | h
          · have:=qh1 HI.out h hq HP.out;omega
          · obtain rfl : k = m := by omega
            rw [HP.out] at hq;obtain rfl:=Option.some.inj hq;exact hpi
        case measure=>(first | (simp [intOf];done) | (simp [intOf];omega))
      · have e1:Hid (∃ v:Int,¬ v<0∧cmpI p.id id=v):=Lib.hid (by
          by_cases h:id<p.id
          · exact ⟨1,by omega,qm0 h⟩
          · exact ⟨0,by omega,qm1 (by omega)⟩)
        obtain ⟨v,hv,e2⟩:=e1.out
        have e1:=Lib.hid (qqy p id v e2)
        clear e2
        go_wp2_with ((go_at_call 107;refine (e1.out _).mono ?_;rintro e _ ⟨rfl,nx,rfl⟩))
        go_roundw
        case rel =>
          refine ⟨a,m,by omega,by omega,rfl,rfl,H1.out,?_,ext_of (by (try simp only [qcj]);repeat (first | exact Bel.refl _ | assumption | refine qcs ?_ _ | refine qct ?_ _ | refine Bel.ext ?_ _ | refine Bel.alloc ?_ _ | refine Bel.drewN ?_ _))⟩
          intro k q hk hq
          rcases Nat.lt_or_ge m k with h | h
          · have:=qh1 HI.out h HP.out hq;omega
          · obtain rfl : k = m := by omega
            rw [HP.out] at hq;obtain rfl:=Option.some.inj hq;omega
        case measure=>(first | (simp [intOf];done) | (simp [intOf];omega))
    · obtain rfl : a = b := by omega
      have HL:=Lib.hid (qhc hbl H1.out (fun p hp=>H2.out a p (Nat.le_refl _) hp))
      have HH:=Lib.hid (qhf HI.out id)
      by_cases hal:a<l.length
      · obtain ⟨p, hp⟩ : ∃ p, l[a]? = some p := ⟨_, List.getElem?_eq_getElem hal⟩
        obtain ⟨b0,o,rfl,hb0⟩:=hs.at_ (by omega)
        obtain ⟨r0,r1,r2⟩:=qgz hs hp
        have HP:=Lib.hid hp;clear hp
        have hge:=H2.out a p (Nat.le_refl _) HP.out
        have hal2:(a:Int)<(l.length:Int):=by omega
        by_cases hpi:p.id=id
        · have e1 := Lib.hid (qqy p id 0 (qm1 hpi))
          have HB:Hid (hasB l id=true):=Lib.hid (by rw [HH.out,HL.out,HP.out];simpa using hpi)
          clear hpi
          go_wp2_with ((go_at_call 107;refine (e1.out _).mono ?_;rintro e _ ⟨rfl,nx,rfl⟩))
          go_ret2
          exact ⟨by rw [HL.out,HB.out];rfl,ext_of (by (try simp only [qcj]);repeat (first | exact Bel.refl _ | assumption | refine qcs ?_ _ | refine qct ?_ _ | refine Bel.ext ?_ _ | refine Bel.alloc ?_ _ | refine Bel.drewN ?_ _))⟩
        · have e1 := Lib.hid (qqy p id 1 (qm0 (by omega)))
          have HB:Hid (hasB l id=false):=Lib.hid (by rw [HH.out,HL.out,HP.out];simpa using hpi)
          clear hpi
          go_wp2_with ((go_at_call 107;refine (e1.out _).mono ?_;rintro e _ ⟨rfl,nx,rfl⟩))
          go_ret2
          exact ⟨by rw [HL.out,HB.out];rfl,ext_of (by (try simp only [qcj]);repeat (first | exact Bel.refl _ | assumption | refine qcs ?_ _ | refine qct ?_ _ | refine Bel.ext ?_ _ | refine Bel.alloc ?_ _ | refine Bel.drewN ?_ _))⟩
      · have HB : Hid (hasB l id = false) := Lib.hid (by rw [HH.out, HL.out, List.getElem?_eq_none (by omega)])
        go_wp2
        go_ret2
        exact ⟨by rw [HL.out,HB.out];rfl,ext_of (by (try simp only [qcj]);repeat (first | exact Bel.refl _ | assumption | refine qcs ?_ _ | refine qct ?_ _ | refine Bel.ext ?_ _ | refine Bel.alloc ?_ _ | refine Bel.drewN ?_ _))⟩
set_option maxHeartbeats 400000 in
theorem qr0 (A:Option Addr) (c:Nat) (l:List Pt) (id:Int) (w:World) (hs:Sl w 3 A l.length c (vp l)) (hl:l.length≤1000000) (hinc:incB l=true) :
    Calls Try.prog 92 #[.agg #[.slice A l.length c],.int .i64 id] w fun e w'=>e=.returned (.tuple #[.int .i64 (lowB l id),.bool (hasB l id)])∧∃ x,w'=ext w x:=by
  have q:=Lib.hid (fun W hb=>qqz A c l id W (hs.bel (w':=W) hb) hl hinc)
  clear hinc
  go_enter Try.func92,Try.ntmps92
  go_wp2_with ((go_at_call 39;refine (q.out _ (by (try simp only [qcj]);repeat (first | exact Bel.refl _ | assumption | refine qcs ?_ _ | refine qct ?_ _ | refine Bel.ext ?_ _ | refine Bel.alloc ?_ _ | refine Bel.drewN ?_ _))).mono ?_;rintro e _ ⟨rfl,nx,rfl⟩))
  go_ret2
  exact ⟨rfl,ext_of (by (try simp only [qcj]);repeat (first | exact Bel.refl _ | assumption | refine qcs ?_ _ | refine qct ?_ _ | refine Bel.ext ?_ _ | refine Bel.alloc ?_ _ | refine Bel.drewN ?_ _))⟩
def fieldPlace (l:List Pt) (id:Int):Int×Int:=if qh2 l≠0 then (0,qh2 l) else if hasB l id then ((lowB l id:Int),0) else (0,6)
set_option maxHeartbeats 1000000 in
theorem qr1 (A:Option Addr) (c:Nat) (l:List Pt) (id:Int) (w:World) (hs:Sl w 3 A l.length c (vp l)) :
    Calls Try.prog 60 #[.agg #[.slice A l.length c],.int .i64 id] w fun e w'=>e=.returned (.tuple #[.int .i64 (fieldPlace l id).1,.int .i64 (fieldPlace l id).2])∧∃ x,w'=ext w x:=by
  have q1:=Lib.hid (fun W hb=>qmc A c l W (hs.bel (w':=W) hb))
  by_cases h0:qh2 l=0
  · obtain ⟨h1, h2, h3⟩ := qh7 h0
    have q2:=Lib.hid (fun W hb=>qr0 A c l id W (hs.bel (w':=W) hb) (by omega) h3)
    cases hb:hasB l id with
    | true =>
      have H:Hid (fieldPlace l id=((lowB l id:Int),0)):=Lib.hid (by simp [fieldPlace,h0,hb])
      rw [h0] at q1
      rw [hb] at q2
      clear h0 h2 h3 hb
      go_enter Try.func60,Try.ntmps60
      go_wp2_with (first | (go_at_call 20;refine (q1.out _ (by (try simp only [qcj]);repeat (first | exact Bel.refl _ | assumption | refine qcs ?_ _ | refine qct ?_ _ | refine Bel.ext ?_ _ | refine Bel.alloc ?_ _ | refine Bel.drewN ?_ _))).mono ?_;rintro e _ ⟨rfl,nx,rfl⟩) | (go_at_call 92;refine (q2.out _ (by (try simp only [qcj]);repeat (first | exact Bel.refl _ | assumption | refine qcs ?_ _ | refine qct ?_ _ | refine Bel.ext ?_ _ | refine Bel.alloc ?_ _ | refine Bel.drewN ?_ _))).mono ?_;rintro e _ ⟨rfl,nx,rfl⟩))
      go_ret2
      exact ⟨by rw [H.out];rfl,ext_of (by (try simp only [qcj]);repeat (first | exact Bel.refl _ | assumption | refine qcs ?_ _ | refine qct ?_ _ | refine Bel.ext ?_ _ | refine Bel.alloc ?_ _ | refine Bel.drewN ?_ _))⟩
    | false =>
      have H:Hid (fieldPlace l id=(0,6)):=Lib.hid (by simp [fieldPlace,h0,hb])
      rw [h0] at q1
      rw [hb] at q2
      clear h0 h2 h3 hb
      go_enter Try.func60,Try.ntmps60
      go_wp2_with (first | (go_at_call 20;refine (q1.out _ (by (try simp only [qcj]);repeat (first | exact Bel.refl _ | assumption | refine qcs ?_ _ | refine qct ?_ _ | refine Bel.ext ?_ _ | refine Bel.alloc ?_ _ | refine Bel.drewN ?_ _))).mono ?_;rintro e _ ⟨rfl,nx,rfl⟩) | (go_at_call 92;refine (q2.out _ (by (try simp only [qcj]);repeat (first | exact Bel.refl _ | assumption | refine qcs ?_ _ | refine qct ?_ _ | refine Bel.ext ?_ _ | refine Bel.alloc ?_ _ | refine Bel.drewN ?_ _))).mono ?_;rintro e _ ⟨rfl,nx,rfl⟩))
      go_ret2
      exact ⟨by rw [H.out];rfl,ext_of (by (try simp only [qcj]);repeat (first | exact Bel.refl _ | assumption | refine qcs ?_ _ | refine qct ?_ _ | refine Bel.ext ?_ _ | refine Bel.alloc ?_ _ | refine Bel.drewN ?_ _))⟩
  · have H : Hid (fieldPlace l id = (0, qh2 l)) := Lib.hid (by simp [fieldPlace, h0])
    have hz:(qh2 l == 0)=false:=by simpa using h0
    have hz':(qh2 l != 0)=true:=by simpa using h0
    clear h0
    go_enter Try.func60,Try.ntmps60
    go_wp2_with ((go_at_call 20;refine (q1.out _ (by (try simp only [qcj]);repeat (first | exact Bel.refl _ | assumption | refine qcs ?_ _ | refine qct ?_ _ | refine Bel.ext ?_ _ | refine Bel.alloc ?_ _ | refine Bel.drewN ?_ _))).mono ?_;rintro e _ ⟨rfl,nx,rfl⟩))
    go_ret2
    exact ⟨by rw [H.out];rfl,ext_of (by (try simp only [qcj]);repeat (first | exact Bel.refl _ | assumption | refine qcs ?_ _ | refine qct ?_ _ | refine Bel.ext ?_ _ | refine Bel.alloc ?_ _ | refine Bel.drewN ?_ _))⟩
end Go.Proofs.Ytpgpbhjkgciggaa

namespace Go.Proofs.Ytpgpbhjkgciggaa
open Go.RowKit Go.Pel Go.IntWalk
set_option maxRecDepth 10000 in
set_option maxHeartbeats 1000000 in
theorem qr2 (A:Option Addr) (c:Nat) (l:List Pt) (w:World) (hs:Sl w 3 A l.length c (vp l)) (hn:A=none→c=0) (hl:l.length≤1000000) :
    Calls Try.prog 89 #[.slice A l.length c] w fun e w'=>∃ A' c',e=.returned (.slice A' l.length c')∧∃ x,w'=ext w x∧Own (ext w x) w.heap.size 42 3 A' l.length c' (vp l):=by
  have hnil:=fun W n c n' c'=>Lib.run_eql_slice_nil (P:=Try.prog) W 22 42 A n c n' c' Try.underlying22
  cases A with
  | none =>
    obtain rfl:=hn rfl
    obtain rfl:l=[]:=by
      cases l with
      | nil=>rfl
      | cons p l=>obtain ⟨b,o,h,_⟩:=hs.at_ (by simp);cases h
    go_enter Try.func89,Try.ntmps89
    go_wp2
    go_ret
    exact ⟨none,0,rfl,qgs _ _ _ _⟩
  | some a =>
    go_enter Try.func89,Try.ntmps89
    go_wp2_with ((at_builtin;(try refine qgf rfl (by first | rfl | simp [yielded]) ?_);refine qgh qmp (by (try simp only [qcj]);repeat (first | exact Bel.refl _ | assumption | refine qcs ?_ _ | refine qct ?_ _ | refine Bel.ext ?_ _ | refine Bel.alloc ?_ _ | refine Bel.drewN ?_ _)) (hs) (by (try simp only [qcj]);repeat (first | exact Bel.refl _ | assumption | refine qcs ?_ _ | refine qct ?_ _ | refine Bel.ext ?_ _ | refine Bel.alloc ?_ _ | refine Bel.drewN ?_ _)) (qgv _) (hn) (by omega) rfl _ _ rfl rfl rfl (by simp [go_sem]) ?_;rintro A1 c1 y1 hown1))
    go_ret
    exact ⟨_,_,rfl,qfw (by (try simp only [qcj]);repeat (first | exact Bel.refl _ | assumption | refine qcs ?_ _ | refine qct ?_ _ | refine Bel.ext ?_ _ | refine Bel.alloc ?_ _ | refine Bel.drewN ?_ _)) (qge (by simp [go_sem]) hown1 (by simp [go_sem])) (Bel.refl _) (by simp [go_sem])⟩
end Go.Proofs.Ytpgpbhjkgciggaa

namespace Go.Proofs.Ytpgpbhjkgciggaa
open Go.RowKit Go.Pel Go.IntWalk
end Go.Proofs.Ytpgpbhjkgciggaa

namespace Go.Proofs.Ytpgpbhjkgciggaa
open Go.RowKit Go.Pel Go.IntWalk
theorem qr7 {l:List Pt} {id:Int} (h:(fieldPlace l id).2=0):qh2 l=0∧hasB l id=true∧(fieldPlace l id).1=lowB l id:=by
  unfold fieldPlace at h ⊢
  by_cases h0:qh2 l=0
  · cases hb : hasB l id
    · simp [h0,hb] at h
    · simp [h0]
  · rw [if_pos h0] at h;exact absurd h h0
theorem qr8 (l:List Pt) (id:Int):qhk l id=if (fieldPlace l id).2=0 then (l.getD (lowB l id) Pt.zero,0) else (Pt.zero,(fieldPlace l id).2):=by
  unfold qhk fieldPlace
  by_cases h0:qh2 l=0
  · cases hb:hasB l id<;>simp [h0]
  · simp [h0]
set_option maxRecDepth 10000 in
set_option maxHeartbeats 2000000 in
theorem qra (A:Option Addr) (c:Nat) (l:List Pt) (id:Int) (w:World) (hs:Sl w 3 A l.length c (vp l)) :
    Calls Try.prog 36 #[.agg #[.slice A l.length c],.int .i64 id] w fun e w'=>e=.returned (.tuple #[.agg #[.int .i64 (qhk l id).1.id,.int .i64 (qhk l id).1.a,.int .i64 (qhk l id).1.b],.int .i64 (qhk l id).2])∧∃ x,w'=ext w x:=by
  have q:=Lib.hid (fun W hb=>qr1 A c l id W (hs.bel (w':=W) hb))
  by_cases h:(fieldPlace l id).2=0
  · obtain ⟨h1, h2, h3⟩ := qr7 h
    obtain ⟨h64,hchk,hinc⟩:=qh7 h1
    obtain ⟨h4,p,hp,h5⟩:=qhj hinc h2
    have HF:Hid (qhk l id=(p,0)):=Lib.hid (by rw [qr8,if_pos h,List.getD_eq_getElem?_getD,hp];rfl)
    have hlt:lowB l id<l.length:=(List.getElem?_eq_some_iff.1 hp).1
    rw [h3,h] at q
    obtain ⟨k,hk⟩:∃ k,lowB l id=k:=⟨_,rfl⟩
    rw [hk] at q hp hlt
    obtain ⟨b,o,rfl,hb⟩:=hs.at_ (by omega)
    obtain ⟨r0,r1,r2⟩:=qgz hs hp
    have hlt':(k:Int)<(l.length:Int):=by omega
    clear h h1 h2 h3 hk h4 h5 hchk hinc hp
    go_enter Try.func36,Try.ntmps36
    go_wp2_with ((go_at_call 60;refine (q.out _ (by (try simp only [qcj]);repeat (first | exact Bel.refl _ | assumption | refine qcs ?_ _ | refine qct ?_ _ | refine Bel.ext ?_ _ | refine Bel.alloc ?_ _ | refine Bel.drewN ?_ _))).mono ?_;rintro e _ ⟨rfl,nx,rfl⟩))
    exact bodyPost_ret (v:=.tuple #[.agg #[.int .i64 p.id,.int .i64 p.a,.int .i64 p.b],.int .i64 0]) (by simp [results,Try.results36,go_sem]) rfl ⟨by rw [HF.out],ext_of (by (try simp only [qcj]);repeat (first | exact Bel.refl _ | assumption | refine qcs ?_ _ | refine qct ?_ _ | refine Bel.ext ?_ _ | refine Bel.alloc ?_ _ | refine Bel.drewN ?_ _))⟩
  · have HF : Hid (qhk l id = (Pt.zero, (fieldPlace l id).2)) := Lib.hid (by rw [qr8, if_neg h])
    have hz:((fieldPlace l id).2 == 0)=false:=by simpa using h
    have hz':((fieldPlace l id).2 != 0)=true:=by simpa using h
    clear h
    go_enter Try.func36,Try.ntmps36
    go_wp2_with ((go_at_call 60;refine (q.out _ (by (try simp only [qcj]);repeat (first | exact Bel.refl _ | assumption | refine qcs ?_ _ | refine qct ?_ _ | refine Bel.ext ?_ _ | refine Bel.alloc ?_ _ | refine Bel.drewN ?_ _))).mono ?_;rintro e _ ⟨rfl,nx,rfl⟩))
    exact bodyPost_ret (v:=.tuple #[.agg #[.int .i64 0,.int .i64 0,.int .i64 0],.int .i64 (fieldPlace l id).2]) (by simp [results,Try.results36,go_sem]) rfl ⟨by (rw [HF.out];rfl),ext_of (by (try simp only [qcj]);repeat (first | exact Bel.refl _ | assumption | refine qcs ?_ _ | refine qct ?_ _ | refine Bel.ext ?_ _ | refine Bel.alloc ?_ _ | refine Bel.drewN ?_ _))⟩
end Go.Proofs.Ytpgpbhjkgciggaa

namespace Go.Proofs
open Go.Shelf
def Try.laysSort_ren:Go.Shelf.Ren:=⟨fun | 6=>90 | 15=>44 | 14=>106 | 28=>73 | 29=>74 | 20=>112 | 21=>113 | 22=>114 | 23=>115 | 24=>116 | 25=>117 | 26=>118 | 27=>119 | 46=>120 | 47=>94 | 48=>95 | 49=>121 | 50=>122 | 57=>123 | n=>n,fun | 22=>22 | 24=>42 | 25=>139 | 3=>3 | 39=>85 | 0=>0 | 53=>116 | 55=>103 | 4=>4 | 46=>110 | 45=>109 | 50=>78 | 5=>5 | 9=>9 | 66=>141 | 70=>145 | 76=>157 | 77=>158 | n=>n,fun | n=>n⟩
theorem Try.laysSort:Go.Proofs.SlLaysF0.n6 Try.prog Try.laysSort_ren:={
  mixed:=by kernel_rfl
  f6:=⟨Try.f90.name,by decide,Try.func90.trans (congrArg some (by kernel_rfl))⟩
  f14:=⟨Try.f106.name,by decide,Try.func106.trans (congrArg some (by kernel_rfl))⟩
  f15:=Try.func44.trans (congrArg some (by kernel_rfl))
  f20:=⟨Try.f112.name,by decide,Try.func112.trans (congrArg some (by kernel_rfl))⟩
  f21:=⟨Try.f113.name,by decide,Try.func113.trans (congrArg some (by kernel_rfl))⟩
  f22:=⟨Try.f114.name,by decide,Try.func114.trans (congrArg some (by kernel_rfl))⟩
  f23:=⟨Try.f115.name,by decide,Try.func115.trans (congrArg some (by kernel_rfl))⟩
  f24:=⟨Try.f116.name,by decide,Try.func116.trans (congrArg some (by kernel_rfl))⟩
  f25:=⟨Try.f117.name,by decide,Try.func117.trans (congrArg some (by kernel_rfl))⟩
  f26:=⟨Try.f118.name,by decide,Try.func118.trans (congrArg some (by kernel_rfl))⟩
  f27:=⟨Try.f119.name,by decide,Try.func119.trans (congrArg some (by kernel_rfl))⟩
  f28:=Try.func73.trans (congrArg some (by kernel_rfl))
  f29:=Try.func74.trans (congrArg some (by kernel_rfl))
  f46:=⟨Try.f120.name,by decide,Try.func120.trans (congrArg some (by kernel_rfl))⟩
  f47:=Try.func94.trans (congrArg some (by kernel_rfl))
  f48:=Try.func95.trans (congrArg some (by kernel_rfl))
  f49:=⟨Try.f121.name,by decide,Try.func121.trans (congrArg some (by kernel_rfl))⟩
  f50:=⟨Try.f122.name,by decide,Try.func122.trans (congrArg some (by kernel_rfl))⟩
  f57:=⟨Try.f123.name,by decide,Try.func123.trans (congrArg some (by kernel_rfl))⟩
  t0:=Try.underlying0
  a0:=Try.isAgg0
  z0:=Try.sizeOf0
  v0:=Try.zeroValue0
  t3:=Try.underlying3
  a3:=Try.isAgg3
  z3:=Try.sizeOf3
  v3:=Try.zeroValue3
  t4:=Try.underlying4
  a4:=Try.isAgg4
  z4:=Try.sizeOf4
  v4:=Try.zeroValue4
  t5:=Try.underlying5
  a5:=Try.isAgg5
  z5:=Try.sizeOf5
  v5:=Try.zeroValue5
  t9:=Try.underlying9
  a9:=Try.isAgg9
  z9:=Try.sizeOf9
  v9:=Try.zeroValue9
  t22:=Try.underlying22
  a22:=Try.isAgg22
  z22:=Try.sizeOf22
  v22:=Try.zeroValue22
  t25:=Try.underlying139
  a25:=Try.isAgg139
  z25:=Try.sizeOf139
  v25:=Try.zeroValue139
  t39:=Try.underlying85
  a39:=Try.isAgg85
  z39:=Try.sizeOf85
  v39:=Try.zeroValue85
  t45:=Try.underlying109
  a45:=Try.isAgg109
  z45:=Try.sizeOf109
  v45:=Try.zeroValue109
  t46:=Try.underlying110
  a46:=Try.isAgg110
  z46:=Try.sizeOf110
  v46:=Try.zeroValue110
  t50:=Try.underlying78
  a50:=Try.isAgg78
  z50:=Try.sizeOf78
  v50:=Try.zeroValue78
  t53:=Try.underlying116
  a53:=Try.isAgg116
  z53:=Try.sizeOf116
  v53:=Try.zeroValue116
  t55:=Try.underlying103
  a55:=Try.isAgg103
  z55:=Try.sizeOf103
  v55:=Try.zeroValue103
  t66:=Try.underlying141
  a66:=Try.isAgg141
  z66:=Try.sizeOf141
  v66:=Try.zeroValue141
  t70:=Try.underlying145
  a70:=Try.isAgg145
  z70:=Try.sizeOf145
  v70:=Try.zeroValue145
  t76:=Try.underlying157
  a76:=Try.isAgg157
  z76:=Try.sizeOf157
  v76:=Try.zeroValue157
  t77:=Try.underlying158
  a77:=Try.isAgg158
  z77:=Try.sizeOf158
  v77:=Try.zeroValue158 }
end Go.Proofs

namespace Go.Pel
open Go.Sort Go.Proofs
def qrb (p:Pt) (n d:Int):Int:=p.a*d+p.b*n
theorem qrc (p q:Pt) (n d:Int):farD p q n d=qrb p n d - qrb q n d:=by
  unfold farD qrb;rw [Int.sub_mul,Int.sub_mul];omega
theorem qrd (p q:Pt) (n d:Int):qld p q n d=true↔qrb q n d<qrb p n d∨(qrb q n d=qrb p n d∧(q.b<p.b∨(q.b=p.b∧p.id<q.id))):=by
  unfold qld
  rw [qrc]
  by_cases h:qrb p n d - qrb q n d≠0
  · rw [if_pos h];simp;omega
  · rw [if_neg h]
    by_cases h2:p.b≠q.b
    · rw [if_pos h2];simp;omega
    · rw [if_neg h2];simp;omega
def cfP (n d:Int) (p q:Pt):Int:=if p.id=q.id then 0 else if qld p q n d then -1 else 1
theorem qre (n d:Int) (p q:Pt):ltOf (cfP n d) p q=true↔p.id≠q.id∧qld p q n d=true:=by
  unfold ltOf cfP
  by_cases h:p.id=q.id
  · rw [if_pos h];simp [h]
  · rw [if_neg h]
    by_cases h2:qld p q n d=true
    · rw [if_pos h2];simp [h,h2]
    · rw [if_neg h2];simp [h2]
def cfL (n d:Int) (l:List Pt) (x y:{p:Pt // p∈l}):Int:=cfP n d x.1 y.1
theorem qrf (n d:Int) (l:List Pt) (x y:{p:Pt // p∈l}):ltOf (cfL n d l) x y=true↔x.1.id≠y.1.id∧qld x.1 y.1 n d=true:=qre n d x.1 y.1
def qrg (l:List Pt):Prop:=∀ p∈l,∀ q∈l,p.id=q.id→p=q
theorem nlt {n d:Int} {p q:Pt} (h:qld p q n d=false):¬ (qrb q n d<qrb p n d∨(qrb q n d=qrb p n d∧(q.b<p.b∨(q.b=p.b∧p.id<q.id)))):=by
  rw [← qrd,h];decide
theorem qrh {n d:Int} {l:List Pt} (hi:qrg l):SWO (ltOf (cfL n d l)):=by
  have F:∀ x y,ltOf (cfL n d l) x y=false↔(x=y∨(x.1.id≠y.1.id∧qld x.1 y.1 n d=false)):=by
    intro x y
    rw [← Bool.not_eq_true,qrf]
    constructor
    · intro h
      by_cases he:x.1.id=y.1.id
      · exact .inl (Subtype.ext (hi _ x.2 _ y.2 he))
      · exact .inr ⟨he,by simpa [he] using h⟩
    · rintro (rfl | ⟨h1, h2⟩)
      · simp
      · simp [h2]
  constructor
  · intro x;exact (F x x).2 (.inl rfl)
  · intro x y z h1 h2
    rw [qrf,qrd] at h1 h2 ⊢
    refine ⟨?_,by omega⟩
    intro h
    obtain rfl:x=z:=Subtype.ext (hi _ x.2 _ z.2 h)
    omega
  · intro x y z h1 h2
    rw [F] at h1 h2 ⊢
    rcases h1 with rfl | ⟨h1,k1⟩
    · exact h2
    rcases h2 with rfl | ⟨h2,k2⟩
    · exact .inr ⟨h1,k1⟩
    have k1:=nlt k1
    have k2:=nlt k2
    by_cases hne:x.1.id=z.1.id
    · exact .inl (Subtype.ext (hi _ x.2 _ z.2 hne))
    refine .inr ⟨hne,?_⟩
    rw [← Bool.not_eq_true,qrd]
    omega
theorem qri {n d:Int} {l:List Pt} (hi:qrg l) (x y:{p:Pt // p∈l}) (h1:ltOf (cfL n d l) x y=false) (h2:ltOf (cfL n d l) y x=false):x=y:=by
  rw [← Bool.not_eq_true,qrf] at h1 h2
  by_cases he:x.1.id=y.1.id
  · exact Subtype.ext (hi _ x.2 _ y.2 he)
  · exfalso
    have h1':qld x.1 y.1 n d=false:=by simpa [he] using h1
    have h2':qld y.1 x.1 n d=false:=by simpa [Ne.symm he] using h2
    have:=nlt h1'
    have:=nlt h2'
    omega
def qrj (n d:Int) (l:List Pt):List Pt:=((l.attach.mergeSort fun x y=>!(ltOf (cfL n d l)) y x)).map Subtype.val
theorem qrk (n d:Int) (l:List Pt):(qrj n d l).Perm l:=by
  unfold qrj
  have:=(List.mergeSort_perm l.attach (fun x y=>!(ltOf (cfL n d l)) y x)).map Subtype.val
  simpa [List.attach_map_subtype_val] using this
theorem qrl (n d:Int) (l:List Pt):(qrj n d l).length=l.length:=(qrk n d l).length_eq
theorem qrm {n d:Int} {l:List Pt} (hi:qrg l) (hn:(l.map Pt.id).Nodup):(qrj n d l).Pairwise fun p q=>qld p q n d=true:=by
  have hO:=qrh (n:=n) (d:=d) hi
  have h1:(l.attach.mergeSort fun x y=>!(ltOf (cfL n d l)) y x).Pairwise fun x y=>(!(ltOf (cfL n d l)) y x)=true:=by
    apply List.pairwise_mergeSort
    · intro a b c h1 h2
      simp only [Bool.not_eq_true',] at h1 h2 ⊢
      exact hO.ntrans _ _ _ h2 h1
    · intro a b
      simp only [Bool.or_eq_true,Bool.not_eq_true']
      by_cases h:ltOf (cfL n d l) b a=true
      · right
        rcases hq:ltOf (cfL n d l) a b with _ | _
        · rfl
        · have:=hO.trans _ _ _ h hq;rw [hO.irrefl] at this;exact absurd this (by decide)
      · left;simpa using h
  have h2:(qrj n d l).Pairwise fun p q=>p.id≠q.id:=by
    have:=((qrk n d l).map Pt.id).nodup_iff.2 hn
    exact List.pairwise_map.1 this
  have h3:(qrj n d l).Pairwise fun p q=>¬ (q.id≠p.id∧qld q p n d=true):=by
    unfold qrj
    rw [List.pairwise_map]
    refine h1.imp ?_
    intro a b h
    rw [← qrf]
    simpa using h
  refine (h2.and h3).imp ?_
  rintro p q ⟨h,h'⟩
  have h4:qld q p n d=false:=by simpa [Ne.symm h] using h'
  have:=nlt h4
  rw [qrd]
  omega
end Go.Pel
