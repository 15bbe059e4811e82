/- Memory, worlds with more behind them, arguments: lemmas. -/
import Derived.ArgAppend
import Derived.BigRegion
import Derived.Deep.Quiet
import Derived.Laws.MakeOwn
import Derived.Laws.Slices
import Derived.Laws.Tables
import Derived.Laws.Small
import Derived.Laws.StructEq
import Derived.StillTail
import Derived.Laws.NewBlocks
import Derived.Lib.AppendZerosOnto
import Derived.MapKept
import Derived.WideKeyRuns
set_option linter.unusedSimpArgs false
set_option linter.unusedVariables false
namespace Go.Tx
open Go
inductive D8 where
 | a
 | b
 | c
 | d
 | e
 | f
 | g
 | h
def D8.num:D8->Nat
 | .a=>0
 | .b=>1
 | .c=>2
 | .d=>3
 | .e=>4
 | .f=>5
 | .g=>6
 | .h=>7
def D8.of (n:Nat):D8 :=
 bif Nat.blt n 4 then (bif Nat.blt n 2 then (bif Nat.beq n 0 then .a else .b) else (bif Nat.beq n 2 then .c else .d))
 else (bif Nat.blt n 6 then (bif Nat.beq n 4 then .e else .f) else (bif Nat.beq n 6 then .g else .h))
theorem D8.num_of:∀ n,n<8->(D8.of n).num=n:=by decide
inductive Tr (α:Type) where
 | lf
 | nd (v:Option α) (ka kb kc kd ke kf kg kh:Tr α)
def Tr.val {α:Type}:Tr α->Option α
 | .lf=>none
 | .nd v _ _ _ _ _ _ _ _=>v
def Tr.kid {α:Type}:Tr α->D8->Tr α
 | .lf,_=>.lf
 | .nd _ ka _ _ _ _ _ _ _,.a=>ka
 | .nd _ _ kb _ _ _ _ _ _,.b=>kb
 | .nd _ _ _ kc _ _ _ _ _,.c=>kc
 | .nd _ _ _ _ kd _ _ _ _,.d=>kd
 | .nd _ _ _ _ _ ke _ _ _,.e=>ke
 | .nd _ _ _ _ _ _ kf _ _,.f=>kf
 | .nd _ _ _ _ _ _ _ kg _,.g=>kg
 | .nd _ _ _ _ _ _ _ _ kh,.h=>kh
def Tr.put {α:Type}:Tr α->D8->Tr α->Tr α
 | .lf,.a,t=>.nd none t .lf .lf .lf .lf .lf .lf .lf
 | .lf,.b,t=>.nd none .lf t .lf .lf .lf .lf .lf .lf
 | .lf,.c,t=>.nd none .lf .lf t .lf .lf .lf .lf .lf
 | .lf,.d,t=>.nd none .lf .lf .lf t .lf .lf .lf .lf
 | .lf,.e,t=>.nd none .lf .lf .lf .lf t .lf .lf .lf
 | .lf,.f,t=>.nd none .lf .lf .lf .lf .lf t .lf .lf
 | .lf,.g,t=>.nd none .lf .lf .lf .lf .lf .lf t .lf
 | .lf,.h,t=>.nd none .lf .lf .lf .lf .lf .lf .lf t
 | .nd v _ kb kc kd ke kf kg kh,.a,t=>.nd v t kb kc kd ke kf kg kh
 | .nd v ka _ kc kd ke kf kg kh,.b,t=>.nd v ka t kc kd ke kf kg kh
 | .nd v ka kb _ kd ke kf kg kh,.c,t=>.nd v ka kb t kd ke kf kg kh
 | .nd v ka kb kc _ ke kf kg kh,.d,t=>.nd v ka kb kc t ke kf kg kh
 | .nd v ka kb kc kd _ kf kg kh,.e,t=>.nd v ka kb kc kd t kf kg kh
 | .nd v ka kb kc kd ke _ kg kh,.f,t=>.nd v ka kb kc kd ke t kg kh
 | .nd v ka kb kc kd ke kf _ kh,.g,t=>.nd v ka kb kc kd ke kf t kh
 | .nd v ka kb kc kd ke kf kg _,.h,t=>.nd v ka kb kc kd ke kf kg t
def Tr.setv {α:Type} (v:Option α):Tr α->Tr α
 | .lf=>.nd v .lf .lf .lf .lf .lf .lf .lf .lf
 | .nd _ ka kb kc kd ke kf kg kh=>.nd v ka kb kc kd ke kf kg kh
def Tr.at {α:Type}:List D8->Tr α->Option α
 | [],t=>t.val
 | x::p,t=>Tr.at p (t.kid x)
def Tr.setP {α:Type}:List D8->Tr α->Option α->Tr α
 | [],t,v=>t.setv v
 | x::p,t,v=>t.put x (Tr.setP p (t.kid x) v)
def way:Nat->Nat->List D8
 | 0,_=>[]
 | f+1,n=>bif Nat.beq n 0 then [] else D8.of ((n-1)%8)::way f ((n-1)/8)
def numP:List D8->Nat
 | []=>0
 | x::p=>8*numP p+x.num+1
theorem q6:∀ (f n:Nat),n<=f->numP (way f n)=n
  | 0, n, h => by have : n = 0 := by omega
                  subst this;rfl
  | f + 1, n, h => by
    simp only[way,Bool.cond_eq_ite,Nat.beq_eq]
    split
    · rename_i h0;rw[h0];rfl
    · rw[numP,q6 f _ (by omega),D8.num_of _ (Nat.mod_lt _ (by decide))];omega
theorem q7 {n m:Nat} (h:way n n=way m m):n=m:=by
 rw[← q6 n n (Nat.le_refl n),h,q6 m m (Nat.le_refl m)]
theorem Tr.kid_put {α:Type} (t c:Tr α) (x y:D8):(t.put x c).kid y=t.kid y∨(x=y/\(t.put x c).kid y=c):=by
 cases t<;>cases x<;>cases y<;>first | exact .inr ⟨rfl,rfl⟩ | exact .inl rfl
theorem Tr.kid_put_same {α:Type} (t c:Tr α) (x:D8):(t.put x c).kid x=c:=by
 cases t<;>cases x<;>rfl
theorem Tr.val_put {α:Type} (t c:Tr α) (x:D8):(t.put x c).val=t.val:=by
 cases t<;>cases x<;>rfl
theorem Tr.kid_setv {α:Type} (t:Tr α) (v:Option α) (x:D8):(t.setv v).kid x=t.kid x:=by
 cases t<;>cases x<;>rfl
theorem Tr.at_setP_same {α:Type} (v:Option α):∀ (p:List D8) (t:Tr α),Tr.at p (Tr.setP p t v)=v
 | [],t=>by cases t<;>rfl
 | x::p,t=>by rw[Tr.setP,Tr.at,Tr.kid_put_same];exact Tr.at_setP_same v p _
theorem Tr.at_setP_ne {α:Type} (v:Option α):∀ (p q:List D8) (t:Tr α),q≠p->Tr.at q (Tr.setP p t v)=Tr.at q t
 | [],[],t,h=>absurd rfl h
 | [],y::q,t,_=>by rw[Tr.setP,Tr.at,Tr.at,Tr.kid_setv]
 | x::p,[],t,_=>by rw[Tr.setP,Tr.at,Tr.at,Tr.val_put]
 | x::p, y::q, t, h => by
  rw[Tr.setP,Tr.at,Tr.at]
  by_cases hx:x=y
  ·subst hx
   rw[Tr.kid_put_same]
   exact Tr.at_setP_ne v p q _ fun hq=>h (by rw[hq])
  ·rcases Tr.kid_put t (Tr.setP p (t.kid x) v) x y with h1 | h1
   ·rw[h1]
   ·exact absurd h1.1 hx
def Tr.get {α:Type} (t:Tr α) (n:Nat):Option α:=Tr.at (way n n) t
def Tr.set {α:Type} (t:Tr α) (n:Nat) (v:Option α):Tr α:=Tr.setP (way n n) t v
theorem Tr.at_lf {α:Type}:∀ p:List D8,Tr.at p (Tr.lf:Tr α)=none
 | []=>rfl
 | _::p=>Tr.at_lf p
theorem Tr.get_lf {α:Type} (n:Nat):(Tr.lf:Tr α).get n=none:=Tr.at_lf _
theorem Tr.get_set {α:Type} (t:Tr α) (n m:Nat) (v:Option α):(t.set n v).get m=if m=n then v else t.get m:=by
 by_cases h:m=n
 ·subst h;rw[if_pos rfl];exact Tr.at_setP_same v _ t
 ·rw[if_neg h];exact Tr.at_setP_ne v _ _ t fun hw=>h (q7 hw)
inductive Row where
 | nil
 | int (k:IntKind) (r:Row)
 | bool (r:Row)
 | sl (e r:Row)
 deriving DecidableEq
def den:Row->Type
 | .nil=>Unit
 | .int _ r=>Int×den r
 | .bool r=>Bool×den r
 | .sl e r=>List (den e)×den r
def Row.size:Row->Nat
 | .nil=>0
 | .int _ r=>r.size+1
 | .bool r=>r.size+1
 | .sl _ r=>r.size+1
inductive LV where
 | undef
 | int (k:IntKind) (n:Int)
 | bool (b:Bool)
 | nilp
 | str (s:ByteArray)
 | ptr (b o:Nat)
 | nils
 | rs (b:Nat)
 | rp (b i sz j:Nat)
 | mp (b:Nat)
 | fz (τ:Row) (xs:List (den τ))
 | fp (τ:Row) (x:den τ) (j:Nat)
 | fn (f:FuncId) (cs:List LV)
 | agg (cs:List LV)
 | tup (vs:List LV)
 deriving Inhabited
def split:(τ:Row)->den τ->List LV
 | .nil,_=>[]
 | .int k r,x=>.int k x.1::split r x.2
 | .bool r,x=>.bool x.1::split r x.2
 | .sl e r,x=>.fz e x.1::split r x.2
def q8 (τ:Row) (agg:Bool) (x:den τ):LV :=
 match agg with
 | true=>.agg (split τ x)
 | false => match split τ x with
  | [l]=>l
  | _=>.undef
theorem q9:∀ (τ:Row) (x:den τ),(split τ x).length=τ.size
 | .nil,_=>rfl
 | .int _ r,x=>by rw[split,List.length_cons,q9 r,Row.size]
 | .bool r,x=>by rw[split,List.length_cons,q9 r,Row.size]
 | .sl _ r,x=>by rw[split,List.length_cons,q9 r,Row.size]
def flat (τ:Row):List (den τ)->List LV
 | []=>[]
 | x::xs=>split τ x++flat τ xs
theorem qc (τ:Row):∀ xs:List (den τ),(flat τ xs).length=xs.length*τ.size
 | []=>by simp[flat]
 | x::xs=>by rw[flat,List.length_append,q9,qc τ xs,List.length_cons,Nat.succ_mul];omega
theorem qd (τ:Row) (ys:List (den τ)):∀ xs:List (den τ),flat τ (xs++ys)=flat τ xs++flat τ ys
 | []=>rfl
 | x::xs=>by rw[List.cons_append,flat,flat,qd τ ys xs,List.append_assoc]
theorem qe (τ:Row):∀ (xs:List (den τ)) (i:Nat) (x:den τ) (j:Nat),xs[i]?=some x->j<τ.size->(flat τ xs)[i*τ.size+j]?=(split τ x)[j]?
 | [],i,x,j,h,_=>by simp at h
 | y::xs, 0, x, j, h, hj => by
  simp only[List.getElem?_cons_zero,Option.some.injEq]at h;subst h
  rw[flat,Nat.zero_mul,Nat.zero_add,List.getElem?_append_left (by rw[q9];exact hj)]
 | y::xs, i + 1, x, j, h, hj => by
  simp only[List.getElem?_cons_succ]at h
  rw[flat,List.getElem?_append_right (by rw[q9,Nat.succ_mul];omega),q9,← qe τ xs i x j h hj]
  congr 1;rw[Nat.succ_mul];omega
structure Loc where
 block:Nat
 base:Nat
 lim:Nat
structure Emb where
 loc:Nat->Option Loc
 hdr:Nat->Option Value
 fz:Nat->Option Obj
def qf (ob:Obj) (o:Nat):Option Value :=
 match ob with
 | .cells c _ _=>c[o]?
 | _=>none
theorem qg (w:World) (b o:Nat):w.cell? ⟨b,o,none⟩=(w.heap[b]?).bind (qf · o):=by
 unfold World.cell? qf
 cases h:w.heap[b]? with
 | none=>simp only[h];rfl
 | some ob=>simp only[h,Option.bind_some];cases ob<;>rfl
def FC (φ:Nat->Option Obj) (b o:Nat) (v:Value):Prop:=∃ ob,φ b=some ob/\qf ob o=some v
def qi {α:Type} (R:α->Nat->Nat->Prop) (sz:Nat) (xs:List α) (v:Value):Prop :=
 ∃ A c,v=.slice A xs.length c/\xs.length<=c/\(A=none->c=0)/\(∀ (i:Nat) x,xs[i]?=some x->∃ b o,A=some ⟨b,o,none⟩/\R x b (o+i*sz))
def RowF (φ:Nat->Option Obj):(τ:Row)->den τ->Nat->Nat->Prop
 | .nil,_,_,_=>True
 | .int k r,x,b,o=>FC φ b o (.int k x.1)/\RowF φ r x.2 b (o+1)
 | .bool r,x,b,o=>FC φ b o (.bool x.1)/\RowF φ r x.2 b (o+1)
 | .sl e r,x,b,o=>(∃ v,FC φ b o v/\qi (RowF φ e) e.size x.1 v)/\RowF φ r x.2 b (o+1)
def FzR (φ:Nat->Option Obj) (τ:Row) (xs:List (den τ)) (v:Value):Prop:=qi (RowF φ τ) τ.size xs v
theorem FC.mono {φ φ':Nat->Option Obj} (h:∀ b ob,φ b=some ob->φ' b=some ob) {b o:Nat} {v:Value} (k:FC φ b o v):FC φ' b o v:=let ⟨ob,h1,h2⟩:=k;⟨ob,h b ob h1,h2⟩
theorem qi.mono {α:Type} {R R':α->Nat->Nat->Prop} {sz:Nat} (h:∀ x b o,R x b o->R' x b o) {xs:List α} {v:Value} (k:qi R sz xs v):qi R' sz xs v :=
 let ⟨A,c,h1,h2,h0,h3⟩:=k;⟨A,c,h1,h2,h0,fun i x hx=>let ⟨b,o,e1,e2⟩:=h3 i x hx;⟨b,o,e1,h _ _ _ e2⟩⟩
theorem RowF.mono {φ φ':Nat->Option Obj} (h:∀ b ob,φ b=some ob->φ' b=some ob):∀ (τ:Row) (x:den τ) (b o:Nat),RowF φ τ x b o->RowF φ' τ x b o
 | .nil,_,_,_,_=>trivial
 | .int _ r,x,b,o,k=>⟨k.1.mono h,RowF.mono h r x.2 b (o+1) k.2⟩
 | .bool r,x,b,o,k=>⟨k.1.mono h,RowF.mono h r x.2 b (o+1) k.2⟩
 | .sl e r,x,b,o,k=>⟨let ⟨v,h1,h2⟩:=k.1;⟨v,h1.mono h,h2.mono (RowF.mono h e)⟩,RowF.mono h r x.2 b (o+1) k.2⟩
structure Emb.le (η η':Emb):Prop where
 loc:∀ b L,η.loc b=some L->η'.loc b=some L
 hdr:∀ b v,η.hdr b=some v->η'.hdr b=some v
 fz:∀ b ob,η.fz b=some ob->η'.fz b=some ob
theorem Emb.le_refl (η:Emb):η.le η:=⟨fun _ _ h=>h,fun _ _ h=>h,fun _ _ h=>h⟩
theorem Emb.le_trans {a b c:Emb} (h:a.le b) (k:b.le c):a.le c:=⟨fun x L hx=>k.loc x L (h.loc x L hx),fun x L hx=>k.hdr x L (h.hdr x L hx),fun x L hx=>k.fz x L (h.fz x L hx)⟩
inductive VR (η:Emb):LV->Value->Prop where
 | undef (v:Value):VR η .undef v
 | int (k:IntKind) (n:Int):VR η (.int k n) (.int k n)
 | bool (b:Bool):VR η (.bool b) (.bool b)
 | nilp:VR η .nilp (.pointer none)
 | str (s:ByteArray):VR η (.str s) (.string s)
 | ptr {b o:Nat} {L:Loc} (h:η.loc b=some L):VR η (.ptr b o) (.pointer (some ⟨L.block,L.base+o,none⟩))
 | nils:VR η .nils (.slice none 0 0)
 | rs {b:Nat} {v:Value} (h:η.hdr b=some v):VR η (.rs b) v
 | rp {b i sz j n c:Nat} {A:Option Addr} {L:Loc} (h:η.loc b=some L) (hh:η.hdr b=some (.slice A n c)) (hi:i<n):VR η (.rp b i sz j) (.pointer (some ⟨L.block,L.base+(i*sz+j),none⟩))
 | mp {b:Nat} {L:Loc} (h:η.loc b=some L):VR η (.mp b) (.map (some L.block))
 | fz {τ:Row} {xs:List (den τ)} {v:Value} (h:FzR η.fz τ xs v):VR η (.fz τ xs) v
 | fp {τ:Row} {x:den τ} {j b o:Nat} (h:RowF η.fz τ x b o):VR η (.fp τ x j) (.pointer (some ⟨b,o+j,none⟩))
 | fn {f:FuncId} {cs:List LV} {vs:List Value} (hl:cs.length=vs.length) (h:∀ (i:Nat) c v,cs[i]?=some c->vs[i]?=some v->VR η c v):VR η (.fn f cs) (.func (.func f) #[] vs.toArray)
 | agg {cs:List LV} {vs:List Value} (hl:cs.length=vs.length) (h:∀ (i:Nat) c v,cs[i]?=some c->vs[i]?=some v->VR η c v):VR η (.agg cs) (.agg vs.toArray)
 | tup {cs:List LV} {vs:List Value} (hl:cs.length=vs.length) (h:∀ (i:Nat) c v,cs[i]?=some c->vs[i]?=some v->VR η c v):VR η (.tup cs) (.tuple vs.toArray)
theorem VR.mono {η η':Emb} (hη:η.le η') {l:LV} {v:Value} (h:VR η l v):VR η' l v:=by
 induction h with
 | undef v=>exact .undef v
 | int k n=>exact .int k n
 | bool b=>exact .bool b
 | nilp=>exact .nilp
 | str s=>exact .str s
 | ptr h=>exact .ptr (hη.loc _ _ h)
 | nils=>exact .nils
 | rs h=>exact .rs (hη.hdr _ _ h)
 | rp h hh hi=>exact .rp (hη.loc _ _ h) (hη.hdr _ _ hh) hi
 | mp h=>exact .mp (hη.loc _ _ h)
 | fz h=>exact .fz (h.mono (RowF.mono hη.fz _))
 | fp h=>exact .fp (h.mono hη.fz)
 | fn hl _ ih=>exact .fn hl fun i c v hc hv=>ih i c v hc hv
 | agg hl _ ih=>exact .agg hl fun i c v hc hv=>ih i c v hc hv
 | tup hl _ ih=>exact .tup hl fun i c v hc hv=>ih i c v hc hv
def VRs (η:Emb) (cs:List LV) (vs:List Value):Prop:=cs.length=vs.length/\∀ (i:Nat) c v,cs[i]?=some c->vs[i]?=some v->VR η c v
theorem VRs.mono {η η':Emb} (hη:η.le η') {cs:List LV} {vs:List Value} (h:VRs η cs vs):VRs η' cs vs:=⟨h.1,fun i c v hc hv=>(h.2 i c v hc hv).mono hη⟩
theorem VRs.nil {η:Emb}:VRs η [] []:=⟨rfl,fun i c v hc=>by simp at hc⟩
theorem VRs.cons {η:Emb} {c:LV} {v:Value} {cs:List LV} {vs:List Value} (h:VR η c v) (hs:VRs η cs vs):VRs η (c::cs) (v::vs):=by
 refine⟨by simp[hs.1],fun i x y hx hy=>?_⟩
 cases i with
 | zero=>simp at hx hy;subst hx hy;exact h
 | succ i=>simp at hx hy;exact hs.2 i x y hx hy
theorem VRs.get {η:Emb} {cs:List LV} {vs:List Value} (h:VRs η cs vs) {i:Nat} {c:LV} (hc:cs[i]?=some c):∃ v,vs[i]?=some v/\VR η c v:=by
 have hi:i<cs.length:=(List.getElem?_eq_some_iff.1 hc).1
 have hi2:i<vs.length:=by rw[← h.1];exact hi
 exact⟨vs[i],List.getElem?_eq_getElem hi2,h.2 i c _ hc (List.getElem?_eq_getElem hi2)⟩
theorem VRs.uncons {η:Emb} {c:LV} {cs:List LV} {vs:List Value} (h:VRs η (c::cs) vs):∃ v vs',vs=v::vs'/\VR η c v/\VRs η cs vs':=by
 cases vs with
 | nil=>simp[VRs]at h
 | cons v vs=>exact⟨v,vs,rfl,h.2 0 c v rfl rfl,by have:=h.1;simpa using this,fun i x y hx hy=>h.2 (i+1) x y (by simpa using hx) (by simpa using hy)⟩
theorem VRs.append {η:Emb} {cs ds:List LV} {vs us:List Value} (h:VRs η cs vs) (k:VRs η ds us):VRs η (cs++ds) (vs++us):=by
  induction cs generalizing vs with
  | nil => have : vs = [] := by have := h.1; simpa using this.symm
           subst this;exact k
  | cons c cs ih=>obtain⟨v,vs',rfl,h1,h2⟩:=h.uncons;exact VRs.cons h1 (ih h2)
theorem VRs.drop {η:Emb} {cs:List LV} {vs:List Value} (h:VRs η cs vs) (n:Nat):VRs η (cs.drop n) (vs.drop n) :=
 ⟨by simp[h.1],fun i c v hc hv=>h.2 (n+i) c v (by simpa using hc) (by simpa using hv)⟩
theorem VRs.take {η:Emb} {cs:List LV} {vs:List Value} (h:VRs η cs vs) (n:Nat):VRs η (cs.take n) (vs.take n):=by
 refine⟨by simp[h.1],fun i c v hc hv=>?_⟩
 rw[List.getElem?_take]at hc hv
 split at hc
 ·rename_i hi;rw[if_pos hi]at hv;exact h.2 i c v hc hv
 ·cases hc
theorem VRs.set {η:Emb} {cs:List LV} {vs:List Value} (h:VRs η cs vs) {i:Nat} {c:LV} {v:Value} (hv:VR η c v):VRs η (cs.set i c) (vs.set i v):=by
 refine⟨by simp[h.1],fun j x y hx hy=>?_⟩
 rw[List.getElem?_set]at hx hy
 split at hx
 ·rename_i he;subst he
  rw[if_pos rfl]at hy
  split at hx<;>simp at hx
  split at hy<;>simp at hy
  subst hx hy;exact hv
 ·rename_i he;rw[if_neg he]at hy;exact h.2 j x y hx hy
def LV.cellB:LV->Bool
 | .undef | .agg _ | .tup _=>false
 | _=>true
def LV.cells:LV->Option (List LV)
 | .agg cs=>some cs
 | .undef=>none
 | .tup _=>none
 | v=>some [v]
theorem qi.cell {α:Type} {R:α->Nat->Nat->Prop} {sz:Nat} {xs:List α} {v:Value} (h:qi R sz xs v):v.oneCell'=true/\v.cells=#[v]:=by
 obtain⟨A,c,rfl,_⟩:=h;exact⟨rfl,rfl⟩
def Emb.ok (η:Emb):Prop:=∀ b v,η.hdr b=some v->∃ A n c,v=.slice A n c
theorem VR.one {η:Emb} (ho:η.ok) {l:LV} {v:Value} (h:VR η l v) (hc:l.cellB=true):v.oneCell'=true:=by
 cases h<;>first | rfl | (simp[LV.cellB]at hc) | skip
 case rs b h=>obtain⟨A,n,c,rfl⟩:=ho _ _ h;rfl
 case fz h=>exact qi.cell h |>.1
theorem VR.cells {η:Emb} (ho:η.ok) {l:LV} {v:Value} (h:VR η l v) {cs:List LV} (hc:l.cells=some cs):∃ vs,v.cells=vs.toArray/\VRs η cs vs:=by
 cases h<;>simp[LV.cells]at hc<;>subst hc
 case agg vs hl h=>exact⟨vs,rfl,hl,h⟩
 case int=>exact⟨[_],rfl,VRs.cons (.int _ _) VRs.nil⟩
 case bool=>exact⟨[_],rfl,VRs.cons (.bool _) VRs.nil⟩
 case nilp=>exact⟨[_],rfl,VRs.cons .nilp VRs.nil⟩
 case ptr h=>exact⟨[_],rfl,VRs.cons (.ptr h) VRs.nil⟩
 case nils=>exact⟨[_],rfl,VRs.cons .nils VRs.nil⟩
 case rs h=>obtain⟨A,n,c,rfl⟩:=ho _ _ h;exact⟨[_],rfl,VRs.cons (.rs h) VRs.nil⟩
 case rp h hh hi=>exact⟨[_],rfl,VRs.cons (.rp h hh hi) VRs.nil⟩
 case mp h=>exact⟨[_],rfl,VRs.cons (.mp h) VRs.nil⟩
 case fz h=>exact⟨[v],by rw[(qi.cell h).2],VRs.cons (.fz h) VRs.nil⟩
 case fp h=>exact⟨[_],rfl,VRs.cons (.fp h) VRs.nil⟩
 case str=>exact⟨[_],rfl,VRs.cons (.str _) VRs.nil⟩
 case fn hl h=>exact⟨[_],rfl,VRs.cons (.fn hl h) VRs.nil⟩
def ofV0:Value->LV
 | .int k n=>.int k n
 | .bool b=>.bool b
 | .pointer none=>.nilp
 | .string s=>.str s
 | .slice none 0 0=>.nils
 | _=>.undef
def ofV:Value->LV
 | .agg cs=>.agg (cs.toList.map ofV0)
 | .tuple cs=>.tup (cs.toList.map ofV0)
 | v=>ofV0 v
theorem qj (η:Emb) (v:Value):VR η (ofV0 v) v:=by
 unfold ofV0;split
 ·exact .int _ _
 ·exact .bool _
 ·exact .nilp
 ·exact .str _
 ·exact .nils
 ·exact .undef _
theorem qk (η:Emb):∀ vs:List Value,VRs η (vs.map ofV0) vs
 | []=>VRs.nil
 | v::vs=>VRs.cons (qj η v) (qk η vs)
theorem ql (η:Emb) (v:Value):VR η (ofV v) v:=by
 unfold ofV;split
 ·rename_i cs
  have:=qk η cs.toList
  have h:=VR.agg this.1 this.2
  simpa using h
 ·rename_i cs
  have:=qk η cs.toList
  have h:=VR.tup this.1 this.2
  simpa using h
 ·exact qj η _
inductive MK where
 | int (k:IntKind)
 | agg (n:Nat)
 deriving DecidableEq
abbrev MK.T:MK->Type
 | .int _=>Int
 | .agg _=>List Int
def MK.val:(κ:MK)->κ.T->Value
 | .int k,x=>.int k x
 | .agg _,xs=>.agg (xs.map (Value.int .i64)).toArray
def MK.eq:(κ:MK)->κ.T->κ.T->Bool
 | .int _,x,y=>x==y
 | .agg _,xs,ys=>xs==ys
def MK.wf:(κ:MK)->κ.T->Prop
 | .int _,_=>True
 | .agg n,xs=>xs.length=n
inductive Ob where
 | cells (cs:List LV)
 | rows (τ:Row) (xs:List (den τ))
 | rowl (e:Row) (xs:List (List (den e))) (r:Option Nat)
 | view (b k sz:Nat)
 | pref (b h:Nat)
 | imap (k:MK) (agg:Bool) (τ:Row) (es:List (k.T×den τ))
def qm:Option Nat->LV
 | some n=>.rs n
 | none=>.nils
def qn {e:Row} (xs:List (List (den e))):List (den (.sl e .nil)):=xs.map fun x=>((x,()):List (den e)×Unit)
theorem qo {e:Row} (xs:List (List (den e))):(qn xs).length=xs.length:=List.length_map _
theorem qp {e:Row} (xs:List (List (den e))):(flat (.sl e .nil) (qn xs)).length=xs.length:=by rw[qc,qo];exact Nat.mul_one _
def Ob.list:Ob->List LV
 | .cells cs=>cs
 | .rows τ xs=>flat τ xs
 | .rowl e xs r=>flat (.sl e .nil) (qn xs) ++ [qm r]
 | .view _ _ _=>[]
 | .pref _ _=>[]
 | .imap _ _ _ _=>[]
structure LH where
 t:Tr Ob
 next:Nat
 log:List Nat
def LH.get (H:LH) (b:Nat):Option Ob:=H.t.get b
def LH.put (H:LH) (b:Nat) (cs:Option Ob):LH:=⟨H.t.set b cs,H.next,b::H.log⟩
def LH.alloc (H:LH) (cs:Ob):LH:=⟨H.t.set H.next (some cs),H.next+1,H.log⟩
theorem LH.get_lf (n:Nat) (l:List Nat) (b:Nat):LH.get ⟨.lf,n,l⟩ b=none:=Tr.get_lf b
theorem LH.no {n:Nat} {l:List Nat} {b:Nat} {cs:Ob} (h:LH.get ⟨.lf,n,l⟩ b=some cs):False:=by rw[LH.get_lf]at h;cases h
theorem LH.get_put (H:LH) (b:Nat) (cs:Option Ob) (m:Nat):(H.put b cs).get m=if m=b then cs else H.get m:=Tr.get_set _ _ _ _
theorem LH.get_alloc (H:LH) (cs:Ob) (m:Nat):(H.alloc cs).get m=if m=H.next then some cs else H.get m:=Tr.get_set _ _ _ _
def LB (H:LH) (η:Emb) (k:Nat):Prop:=∃ b ob L,H.get b=some ob/\η.loc b=some L/\L.block=k
structure At (η:Emb) (w:World) (cs:List LV) (L:Loc):Prop where
 lt:L.block<w.heap.size
 fits:L.base+cs.length<=L.lim
 there:∀ j,L.base<=j->j<L.lim->(w.cell? ⟨L.block,j,none⟩).isSome=true/\w.frozen? ⟨L.block,j,none⟩=false
 cell:∀ (j:Nat) c,cs[j]?=some c->∃ v,w.cell? ⟨L.block,L.base+j,none⟩=some v/\VR η c v
def EsR (η:Emb) (k:MK) (agg:Bool) (τ:Row):List (k.T×den τ)->List MapEntry->Prop
 | [],[]=>True
 | p::es,m::l=>m.key=k.val p.1/\k.wf p.1/\VR η (q8 τ agg p.2) m.val/\EsR η k agg τ es l
 | _,_=>False
theorem EsR.mono {η η':Emb} {k:MK} {agg:Bool} {τ:Row} (hη:∀ (x:den τ) v,VR η (q8 τ agg x) v->VR η' (q8 τ agg x) v):∀ {es:List (k.T×den τ)} {l:List MapEntry},EsR η k agg τ es l->EsR η' k agg τ es l
 | [],[],_=>trivial
 | _::_,_::_,h=>⟨h.1,h.2.1,hη _ _ h.2.2.1,EsR.mono hη h.2.2.2⟩
inductive Lv (η:Emb) (w:World) (b:Nat):Ob->Prop where
 | cells {cs:List LV} {L:Loc} (hL:η.loc b=some L) (ha:At η w cs L) (hl:L.base+cs.length=L.lim):Lv η w b (.cells cs)
 | rows {τ:Row} {xs:List (den τ)} {L:Loc} {c:Nat} (hL:η.loc b=some L) (ha:At η w (flat τ xs) L) (hh:η.hdr b=some (.slice (some ⟨L.block,L.base,none⟩) xs.length c)) (hc:xs.length<=c) (hr:L.base+c*τ.size=L.lim):Lv η w b (.rows τ xs)
 | rowl {e:Row} {xs:List (List (den e))} {r:Option Nat} {L:Loc} {c:Nat} (hL:η.loc b=some L) (ha:At η w (Ob.rowl e xs r).list L) (hh:η.hdr b=some (.slice (some ⟨L.block,L.base,Option.none⟩) (xs.length+1) c)) (hc:xs.length+1<=c) (hr:L.base+c=L.lim):Lv η w b (.rowl e xs r)
 | view {b' k sz n c:Nat} {L:Loc} (hL:η.loc b=Option.none) (hb:η.loc b'=some L) (hh:η.hdr b'=some (.slice (some ⟨L.block,L.base,Option.none⟩) n c)) (hk:k<n) (hm:η.hdr b=some (.slice (some ⟨L.block,L.base+k*sz,Option.none⟩) (n-k) (c-k))):Lv η w b (.view b' k sz)
 | pref {b' h n c:Nat} {A:Option Addr} (hL:η.loc b=Option.none) (hh:η.hdr b'=some (.slice A n c)) (hk:h<=n) (hm:η.hdr b=some (.slice A h c)):Lv η w b (.pref b' h)
 | imap {k:MK} {agg:Bool} {τ:Row} {es:List (k.T×den τ)} {g clock:Nat} {arr:Array MapEntry} (hL:η.loc b=some ⟨g,0,0⟩) (hm:w.heap[g]?=some (.map arr clock)) (he:EsR η k agg τ es arr.toList):Lv η w b (.imap k agg τ es)
 | none {τ:Row} {A:Option Addr} (hL:η.loc b=Option.none) (hh:η.hdr b=some (.slice A 0 0)):Lv η w b (.rows τ [])
theorem Lv.at {η:Emb} {w:World} {b:Nat} {ob:Ob} (h:Lv η w b ob) {L:Loc} (hL:η.loc b=some L):At η w ob.list L:=by
 cases h with
 | cells h1 ha=>rw[hL]at h1;injection h1 with h1;subst h1;exact ha
 | rows h1 ha=>rw[hL]at h1;injection h1 with h1;subst h1;exact ha
 | rowl h1 ha=>rw[hL]at h1;injection h1 with h1;subst h1;exact ha
 | view h1=>rw[hL]at h1;cases h1
 | pref h1=>rw[hL]at h1;cases h1
 | imap h1 hm he =>
  rw[hL]at h1;injection h1 with h1;subst h1
  exact⟨(Array.getElem?_eq_some_iff.1 hm).1,Nat.le_refl _,fun j h1 h2=>absurd h2 (Nat.not_lt_zero _),fun j c hc=>by simp[Ob.list]at hc⟩
 | none h1=>rw[hL]at h1;cases h1
theorem Lv.cl {η:Emb} {w:World} {b:Nat} {cs:List LV} (h:Lv η w b (.cells cs)) {L:Loc} (hL:η.loc b=some L):L.base+cs.length=L.lim:=by
 cases h with
 | cells h1 _ hl=>rw[hL]at h1;injection h1 with h1;subst h1;exact hl
structure HR (M:Nat) (η:Emb) (H:LH) (w:World):Prop where
 dom:∀ b,H.next<=b->b<M->η.loc b=none/\η.hdr b=none
 lt:∀ b ob,H.get b=some ob->b<H.next
 live:∀ b ob,H.get b=some ob->Lv η w b ob
 inj:∀ b1 b2 ob1 ob2 L1 L2,H.get b1=some ob1->H.get b2=some ob2->η.loc b1=some L1->η.loc b2=some L2->L1.block=L2.block->b1=b2
 fz:∀ k ob,η.fz k=some ob->w.heap[k]?=some ob
 sep:∀ k,LB H η k->η.fz k=none
 ok:η.ok
structure Adv (M:Nat) (H:LH) (η:Emb) (w:World) (H':LH) (η':Emb) (w':World):Prop where
 le:η.le η'
 win:∀ b,(b<H.next∨H'.next<=b)->η'.loc b=η.loc b/\η'.hdr b=η.hdr b
 next:H.next<=H'.next
 hr:HR M η' H' w'
 size:w.heap.size<=w'.heap.size
 same:∀ k,k<w.heap.size->¬ LB H η k->w'.heap[k]?=w.heap[k]?
 lb:∀ k,LB H' η' k->LB H η k∨w.heap.size<=k
 fzn:∀ k ob,η'.fz k=some ob->η.fz k=some ob∨LB H η k∨w.heap.size<=k
 os:w'.os=w.os
 tape:w'.tape=w.tape
 output:w'.output=w.output
 drawn:w.drawn<=w'.drawn
theorem Adv.refl {M:Nat} {H:LH} {η:Emb} {w:World} (h:HR M η H w):Adv M H η w H η w :=
 ⟨Emb.le_refl _,fun _ _=>⟨rfl,rfl⟩,Nat.le_refl _,h,Nat.le_refl _,fun _ _ _=>rfl,fun _ h=>.inl h,fun _ _ h=>.inl h,rfl,rfl,rfl,Nat.le_refl _⟩
theorem Adv.trans {M:Nat} {H H1 H2:LH} {η η1 η2:Emb} {w w1 w2:World} (h:Adv M H η w H1 η1 w1) (k:Adv M H1 η1 w1 H2 η2 w2):Adv M H η w H2 η2 w2 :=
  ⟨Emb.le_trans h.le k.le,fun b hb=>by
    have a:=k.win b (hb.imp (fun h1=>Nat.lt_of_lt_of_le h1 h.next) id)
    have c:=h.win b (hb.imp id fun h2=>Nat.le_trans k.next h2)
    exact⟨a.1.trans c.1,a.2.trans c.2⟩,Nat.le_trans h.next k.next,k.hr,Nat.le_trans h.size k.size,
   fun j hj hn=>(k.same j (Nat.lt_of_lt_of_le hj h.size) fun hl=>(h.lb j hl).elim hn (fun hh=>by omega)).trans (h.same j hj hn),
   fun j hl=>(k.lb j hl).elim (fun h1=>h.lb j h1) (fun h1=>.inr (Nat.le_trans h.size h1)),
   fun j ob hj=>(k.fzn j ob hj).elim (fun h1=>h.fzn j ob h1) fun h1=>h1.elim (fun h1=>(h.lb j h1).elim (fun h2=>.inr (.inl h2)) fun h2=>.inr (.inr h2)) fun h1=>.inr (.inr (Nat.le_trans h.size h1)),
   k.os.trans h.os,k.tape.trans h.tape,k.output.trans h.output,Nat.le_trans h.drawn k.drawn⟩
structure Logged (H H':LH):Prop where
 next:H.next<=H'.next
 log:∃ l,H'.log=l++H.log/\∀ b,b<H.next->b∉l->H'.get b=H.get b
 bnd:(∀ b cs,H.get b=some cs->b<H.next)->∀ b cs,H'.get b=some cs->b<H'.next
theorem Logged.refl (H:LH):Logged H H:=⟨Nat.le_refl _,⟨[],rfl,fun _ _ _=>rfl⟩,fun h=>h⟩
theorem Logged.trans {H H1 H2:LH} (h:Logged H H1) (k:Logged H1 H2):Logged H H2:=by
 obtain⟨l,hl,hs⟩:=h.log
 obtain⟨l',hl',hs'⟩:=k.log
 refine⟨Nat.le_trans h.next k.next,⟨l'++l,by rw[hl',hl,List.append_assoc],fun b hb hn=>?_⟩,fun hb=>k.bnd (h.bnd hb)⟩
 rw[List.mem_append,not_or]at hn
 rw[hs' b (Nat.lt_of_lt_of_le hb h.next) hn.1,hs b hb hn.2]
theorem Logged.put (H:LH) {b:Nat} {cs0:Ob} (hg:H.get b=some cs0) (cs:Option Ob):Logged H (H.put b cs) :=
 ⟨Nat.le_refl _,⟨[b],rfl,fun x _ hn=>by rw[LH.get_put,if_neg (by simpa using hn)]⟩,fun h x cs' hx=>by
  rw[LH.get_put]at hx
  split at hx
  ·rename_i he;rw[he];exact h b cs0 hg
  ·exact h x cs' hx⟩
theorem Logged.alloc (H:LH) (cs:Ob):Logged H (H.alloc cs) :=
 ⟨Nat.le_succ _,⟨[],rfl,fun x hx _=>by rw[LH.get_alloc,if_neg (by omega)]⟩,fun h x cs' hx=>by
  show x<H.next+1
  rw[LH.get_alloc]at hx
  split at hx
  ·omega
  ·have:=h x cs' hx;omega⟩
theorem qq (g:Nat):∀ (vs:List Value) (o:Nat) (w:World),(w.setCells g o vs).heap.size=w.heap.size
 | [],_,_=>rfl
 | v::r,o,w=>by rw[World.setCells,qq g r];simp[World.setCell]
theorem qr (g:Nat):∀ (vs:List Value) (o:Nat) (w:World),(w.setCells g o vs).os=w.os
 | [],_,_=>rfl
 | v::r,o,w=>by rw[World.setCells,qr g r];rfl
theorem qt (g:Nat):∀ (vs:List Value) (o:Nat) (w:World),(w.setCells g o vs).tape=w.tape
 | [],_,_=>rfl
 | v::r,o,w=>by rw[World.setCells,qt g r];rfl
theorem qu (g:Nat):∀ (vs:List Value) (o:Nat) (w:World),(w.setCells g o vs).output=w.output
 | [],_,_=>rfl
 | v::r,o,w=>by rw[World.setCells,qu g r];rfl
theorem qv (g:Nat):∀ (vs:List Value) (o:Nat) (w:World),(w.setCells g o vs).drawn=w.drawn
 | [],_,_=>rfl
 | v::r,o,w=>by rw[World.setCells,qv g r];rfl
theorem qw (g:Nat):∀ (vs:List Value) (o:Nat) (w:World) (k:Nat),k≠g->(w.setCells g o vs).heap[k]?=w.heap[k]?
 | [],_,_,_,_=>rfl
 | v::r, o, w, k, hk => by
  rw[World.setCells,qw g r _ _ k hk]
  unfold World.setCell;simp only[Array.getElem?_modify,if_neg (Ne.symm hk)]
theorem qy {w w':World} {k:Nat} (h:w'.heap[k]?=w.heap[k]?) (j:Nat):w'.cell? ⟨k,j,none⟩=w.cell? ⟨k,j,none⟩:=by unfold World.cell?;simp only[h]
theorem qz {w w':World} {k:Nat} (h:w'.heap[k]?=w.heap[k]?) (j:Nat):w'.frozen? ⟨k,j,none⟩=w.frozen? ⟨k,j,none⟩:=by unfold World.frozen?;simp only[h]
theorem At.move {η η':Emb} {w w':World} {cs:List LV} {L:Loc} (h:At η w cs L) (hη:η.le η') (hs:w.heap.size<=w'.heap.size) (hk:w'.heap[L.block]?=w.heap[L.block]?):At η' w' cs L :=
  ⟨Nat.lt_of_lt_of_le h.lt hs, h.fits, fun j h1 h2 => by rw[qy hk, qz hk]; exact h.there j h1 h2,
   fun j c hc=>let ⟨v,h1,h2⟩:=h.cell j c hc;⟨v,by rw[qy hk];exact h1,h2.mono hη⟩⟩
theorem Lv.move {η η':Emb} {w w':World} {b:Nat} {ob:Ob} (h:Lv η w b ob) (hη:η.le η') (hl:η'.loc b=η.loc b) (hs:w.heap.size<=w'.heap.size) (hk:∀ L,η.loc b=some L->w'.heap[L.block]?=w.heap[L.block]?):Lv η' w' b ob:=by
 cases h with
 | cells hL ha hl=>exact .cells (hη.loc _ _ hL) (ha.move hη hs (hk _ hL)) hl
 | rows hL ha hh hc hr=>exact .rows (hη.loc _ _ hL) (ha.move hη hs (hk _ hL)) (hη.hdr _ _ hh) hc hr
 | rowl hL ha hh hc hr=>exact .rowl (hη.loc _ _ hL) (ha.move hη hs (hk _ hL)) (hη.hdr _ _ hh) hc hr
 | pref hL hh hk' hm=>exact .pref (by rw[hl];exact hL) (hη.hdr _ _ hh) hk' (hη.hdr _ _ hm)
 | view hL hb hh hk' hm=>exact .view (by rw[hl];exact hL) (hη.loc _ _ hb) (hη.hdr _ _ hh) hk' (hη.hdr _ _ hm)
 | imap hL hm he=>exact .imap (hη.loc _ _ hL) (by rw[hk _ hL];exact hm) (he.mono fun _ _ h=>h.mono hη)
 | none hL hh=>exact .none (by rw[hl];exact hL) (hη.hdr _ _ hh)
theorem Lv.lt {η:Emb} {w:World} {b:Nat} {ob:Ob} (h:Lv η w b ob) {L:Loc} (hL:η.loc b=some L):L.block<w.heap.size:=(h.at hL).lt
def Emb.put (η:Emb) (n:Nat) (L:Option Loc) (v:Option Value):Emb:=⟨fun b=>if b=n then L else η.loc b,fun b=>if b=n then v else η.hdr b,η.fz⟩
theorem Emb.put_loc (η:Emb) (n:Nat) (L:Option Loc) (v:Option Value):(η.put n L v).loc n=L:=if_pos rfl
theorem Emb.put_hdr (η:Emb) (n:Nat) (L:Option Loc) (v:Option Value):(η.put n L v).hdr n=v:=if_pos rfl
theorem Emb.put_ne (η:Emb) {n b:Nat} (L:Option Loc) (v:Option Value) (h:b≠n):(η.put n L v).loc b=η.loc b/\(η.put n L v).hdr b=η.hdr b:=⟨if_neg h,if_neg h⟩
theorem HR.le_put {M:Nat} {η:Emb} {H:LH} {w:World} (h:HR M η H w) (hM:H.next<M) (L:Option Loc) (v:Option Value):η.le (η.put H.next L v):=by
 have hd:=h.dom _ (Nat.le_refl _) hM
 refine⟨fun b L' hb=>?_,fun b v' hb=>?_,fun _ _ h=>h⟩
 ·rw[(η.put_ne L v fun he=>by subst he;rw[hd.1]at hb;cases hb).1];exact hb
 ·rw[(η.put_ne L v fun he=>by subst he;rw[hd.2]at hb;cases hb).2];exact hb
theorem q10 {M:Nat} {H:LH} {η:Emb} {w:World} (h:HR M η H w) (hM:H.next<M) {w':World} {ob:Ob} {L:Option Loc} {v:Option Value} (hs:w.heap.size<=w'.heap.size) (hold:∀ k,k<w.heap.size->w'.heap[k]?=w.heap[k]?)
 (os:w'.os=w.os) (tape:w'.tape=w.tape) (output:w'.output=w.output) (drawn:w.drawn<=w'.drawn) (hlive:Lv (η.put H.next L v) w' H.next ob) (hnew:∀ L0,L=some L0->w.heap.size<=L0.block) (hv:∀ v0,v=some v0->∃ A n c,v0=.slice A n c) :
 Adv M H η w (H.alloc ob) (η.put H.next L v) w':=by
 have hle:=h.le_put hM L v
 have hget:∀ b ob',(H.alloc ob).get b=some ob'->(b=H.next/\ob'=ob)∨(b≠H.next/\H.get b=some ob'):=fun b ob' hb=>by
  rw[LH.get_alloc]at hb
  split at hb
  ·rename_i he;injection hb with hb;exact .inl ⟨he,hb.symm⟩
  ·rename_i he;exact .inr ⟨he,hb⟩
 have hlb:∀ k,LB (H.alloc ob) (η.put H.next L v) k->LB H η k∨w.heap.size<=k:=fun k ⟨b,ob',L',hb,hL,hk⟩=>by
  rcases hget b ob' hb with⟨rfl,_⟩ | ⟨hne,hg⟩
  ·rw[Emb.put_loc]at hL;exact .inr (hk▸hnew L' hL)
  ·rw[(η.put_ne L v hne).1]at hL;exact .inl ⟨b,ob',L',hg,hL,hk⟩
 have hlt:∀ k,LB H η k->k<w.heap.size:=fun k ⟨b,ob',L',hb,hL,hk⟩=>hk▸(h.live b ob' hb).lt hL
 refine⟨hle,fun b hb=>η.put_ne L v (by have:(H.alloc ob).next=H.next+1:=rfl;omega),Nat.le_succ _,⟨fun b hb hbM=>?_,fun b ob' hb=>?_,fun b ob' hb=>?_,fun b1 b2 o1 o2 L1 L2 h1 h2 e1 e2 he=>?_,fun k o hk=>?_,fun k hk=>?_,fun b v0 hb=>?_⟩,hs,fun k hk _=>hold k hk,hlb,fun k o hk=>.inl hk,os,tape,output,drawn⟩
 ·have hb':H.next+1<=b:=hb
  have:=η.put_ne L v (show b≠H.next by omega)
  rw[this.1,this.2];exact h.dom b (by omega) hbM
 ·show b<H.next+1
  rcases hget b ob' hb with⟨rfl,_⟩ | ⟨_,hg⟩
  ·omega
  ·have:=h.lt _ _ hg;omega
 ·rcases hget b ob' hb with⟨rfl,rfl⟩ | ⟨hne,hg⟩
  ·exact hlive
  ·exact (h.live b ob' hg).move hle (η.put_ne L v hne).1 hs fun L' hL=>hold _ ((h.live b ob' hg).lt hL)
 ·rcases hget b1 o1 h1 with⟨rfl,rfl⟩ | ⟨n1,g1⟩<;>rcases hget b2 o2 h2 with⟨rfl,rfl⟩ | ⟨n2,g2⟩
  ·rfl
  ·rw[Emb.put_loc]at e1;rw[(η.put_ne L v n2).1]at e2
   have:=hnew _ e1;have:=(h.live _ _ g2).lt e2;omega
  ·rw[Emb.put_loc]at e2;rw[(η.put_ne L v n1).1]at e1
   have:=hnew _ e2;have:=(h.live _ _ g1).lt e1;omega
  ·rw[(η.put_ne L v n1).1]at e1;rw[(η.put_ne L v n2).1]at e2
   exact h.inj _ _ _ _ _ _ g1 g2 e1 e2 he
 ·have h1:=h.fz k o hk
  rw[hold k (Array.getElem?_eq_some_iff.1 h1).1];exact h1
 ·rcases hlb k hk with h1 | h1
  ·exact h.sep k h1
  ·show η.fz k=none
   cases hf:η.fz k with
   | none=>rfl
   | some o=>have:=(Array.getElem?_eq_some_iff.1 (h.fz k o hf)).1;omega
 ·by_cases he:b=H.next
  ·subst he;rw[Emb.put_hdr]at hb;exact hv v0 hb
  ·rw[(η.put_ne L v he).2]at hb;exact h.ok b v0 hb
theorem q11 {η:Emb} {w w':World} {arr:Array Value} {e:TypeId} (hw:w'.heap=w.heap.push (.cells arr e)) {cs:List LV} {lim:Nat} (hlen:cs.length<=lim) (hlim:lim<=arr.size) (hcs:∀ (j:Nat) c,cs[j]?=some c->∃ v,arr[j]?=some v/\VR η c v):At η w' cs ⟨w.heap.size,0,lim⟩:=by
 have hsz:w'.heap.size=w.heap.size+1:=by rw[hw];simp
 have hnew:w'.heap[w.heap.size]?=some (.cells arr e):=by rw[hw];simp
 refine⟨by show w.heap.size<w'.heap.size;omega,by simpa using hlen,fun j _ hj=>?_,fun j c hc=>?_⟩
 ·have hj':j<arr.size:=Nat.lt_of_lt_of_le hj hlim
  constructor
  ·show (w'.cell? ⟨w.heap.size,j,none⟩).isSome=true
   unfold World.cell?;simp only[hnew];simp[hj']
  ·show w'.frozen? ⟨w.heap.size,j,none⟩=false
   unfold World.frozen?;simp only[hnew];simp
 ·obtain⟨v,hv,hvr⟩:=hcs j c hc
  refine⟨v,?_,hvr⟩
  show w'.cell? ⟨w.heap.size,0+j,none⟩=some v
  rw[Nat.zero_add];unfold World.cell?;simp only[hnew];simpa using hv
theorem q12 {w w':World} {ob:Obj} (hw:w'.heap=w.heap.push ob) (k:Nat) (hk:k<w.heap.size):w'.heap[k]?=w.heap[k]?:=by rw[hw,Array.getElem?_push];rw[if_neg (by omega)]
theorem q13 {M:Nat} {H:LH} {η:Emb} {w:World} (h:HR M η H w) (hM:H.next<M) {w':World} {arr:Array Value} {e:TypeId}
 (hw:w'.heap=w.heap.push (.cells arr e)) (os:w'.os=w.os) (tape:w'.tape=w.tape) (output:w'.output=w.output) (drawn:w.drawn<=w'.drawn)
 {cs:List LV} (hlen:cs.length=arr.size) (hcs:∀ (j:Nat) c,cs[j]?=some c->∃ v,arr[j]?=some v/\VR η c v) :
 Adv M H η w (H.alloc (.cells cs)) (η.put H.next (some ⟨w.heap.size,0,arr.size⟩) none) w' :=
 q10 h hM (by rw[hw];simp) (q12 hw) os tape output drawn (.cells (Emb.put_loc ..) (q11 hw (Nat.le_of_eq hlen) (Nat.le_refl _) fun j c hc=>let ⟨v,h1,h2⟩:=hcs j c hc;⟨v,h1,h2.mono (h.le_put hM _ _)⟩) ((Nat.zero_add _).trans hlen)) (fun L0 h0=>by injection h0 with h0;subst h0;exact Nat.le_refl _) (fun v0 h0=>by cases h0)
theorem q14 {M:Nat} {H:LH} {η:Emb} {w:World} (h:HR M η H w) (hM:H.next<M) {w':World} {arr:Array Value} {e:TypeId}
    (hw:w'.heap=w.heap.push (.cells arr e)) (os:w'.os=w.os) (tape:w'.tape=w.tape) (output:w'.output=w.output) (drawn:w.drawn<=w'.drawn)
    {τ:Row} {xs:List (den τ)} {c:Nat} (hc:xs.length<=c) (hlen:c*τ.size<=arr.size) (hcs:∀ (j:Nat) c,(flat τ xs)[j]?=some c->∃ v,arr[j]?=some v/\VR η c v) :
    Adv M H η w (H.alloc (.rows τ xs)) (η.put H.next (some ⟨w.heap.size,0,c*τ.size⟩) (some (.slice (some ⟨w.heap.size,0,none⟩) xs.length c))) w' :=
  q10 h hM (by rw[hw];simp) (q12 hw) os tape output drawn
    (.rows (Emb.put_loc ..) (q11 hw (by rw[qc];exact Nat.mul_le_mul_right _ hc) hlen fun j c hc=>let ⟨v,h1,h2⟩:=hcs j c hc;⟨v,h1,h2.mono (h.le_put hM _ _)⟩) (Emb.put_hdr ..) hc (Nat.zero_add _))
    (fun L0 h0=>by injection h0 with h0;subst h0;exact Nat.le_refl _) (fun v0 h0=>by injection h0 with h0;exact⟨_,_,_,h0.symm⟩)
theorem q15 {M:Nat} {H:LH} {η:Emb} {w:World} (h:HR M η H w) (hM:H.next<M) (τ:Row) (A:Option Addr):Adv M H η w (H.alloc (.rows τ [])) (η.put H.next none (some (.slice A 0 0))) w :=
 q10 h hM (Nat.le_refl _) (fun _ _=>rfl) rfl rfl rfl (Nat.le_refl _) (.none (Emb.put_loc ..) (Emb.put_hdr ..)) (fun L0 h0=>by cases h0) (fun v0 h0=>by injection h0 with h0;exact⟨_,_,_,h0.symm⟩)
theorem q16 {H:LH} {b x:Nat} {ob:Ob} (hx:(H.put b none).get x=some ob):x≠b/\H.get x=some ob:=by
 rw[LH.get_put]at hx
 split at hx
 ·cases hx
 ·rename_i he;exact⟨he,hx⟩
theorem q17 {H:LH} {η:Emb} {b k:Nat} (h:LB (H.put b none) η k):LB H η k:=let ⟨x,ob,L,hx,hL,hk⟩:=h;⟨x,ob,L,(q16 hx).2,hL,hk⟩
theorem q18 {M:Nat} {H:LH} {η:Emb} {w:World} (h:HR M η H w) (b:Nat):Adv M H η w (H.put b none) η w :=
 ⟨Emb.le_refl _,fun _ _=>⟨rfl,rfl⟩,Nat.le_refl _,⟨h.dom,fun x ob hx=>h.lt x ob (q16 hx).2,fun x ob hx=>h.live x ob (q16 hx).2,fun b1 b2 o1 o2 L1 L2 h1 h2=>h.inj b1 b2 o1 o2 L1 L2 (q16 h1).2 (q16 h2).2,h.fz,fun k hk=>h.sep k (q17 hk),h.ok⟩,
  Nat.le_refl _,fun _ _ _=>rfl,fun k hk=>.inl (q17 hk),fun _ _ hk=>.inl hk,rfl,rfl,rfl,Nat.le_refl _⟩
theorem q19 {η:Emb} {w:World} {φ:Nat->Option Obj} {b o:Nat} {v:Value} (hb:φ b=w.heap[b]?) (h:w.cell? ⟨b,o,none⟩=some v):FC φ b o v:=by
 rw[qg]at h
 cases hw:w.heap[b]? with
 | none=>rw[hw]at h;cases h
 | some ob=>rw[hw]at h;exact⟨ob,by rw[hb,hw],h⟩
theorem q1a {η:Emb} {w:World} {φ:Nat->Option Obj} {b:Nat} (hη:∀ k ob,η.fz k=some ob->φ k=some ob) (hb:φ b=w.heap[b]?):∀ (τ:Row) (x:den τ) (o:Nat),(∀ (j:Nat) c,(split τ x)[j]?=some c->∃ v,w.cell? ⟨b,o+j,none⟩=some v/\VR η c v)->RowF φ τ x b o
 | .nil,_,_,_=>trivial
 | .int k r, x, o, h => by
  refine⟨?_,q1a hη hb r x.2 (o+1) fun j c hc=>by have:=h (j+1) c hc;rwa[show o+(j+1)=o+1+j by omega]at this⟩
  obtain⟨v,h1,h2⟩:=h 0 _ rfl
  cases h2;exact q19 (η:=η) hb h1
 | .bool r, x, o, h => by
  refine⟨?_,q1a hη hb r x.2 (o+1) fun j c hc=>by have:=h (j+1) c hc;rwa[show o+(j+1)=o+1+j by omega]at this⟩
  obtain⟨v,h1,h2⟩:=h 0 _ rfl
  cases h2;exact q19 (η:=η) hb h1
 | .sl e r, x, o, h => by
  refine⟨?_,q1a hη hb r x.2 (o+1) fun j c hc=>by have:=h (j+1) c hc;rwa[show o+(j+1)=o+1+j by omega]at this⟩
  obtain⟨v,h1,h2⟩:=h 0 _ rfl
  cases h2 with
  | fz h2=>exact⟨v,q19 (η:=η) hb h1,h2.mono (RowF.mono hη e)⟩
def Emb.freeze (η:Emb) (k:Nat) (ob:Option Obj):Emb:=⟨η.loc,η.hdr,fun j=>if j=k then ob else η.fz j⟩
theorem q1b {M:Nat} {H:LH} {η:Emb} {w:World} (h:HR M η H w) {b:Nat} {τ:Row} {xs:List (den τ)} (hg:H.get b=some (.rows τ xs)) {v:Value} (hv:η.hdr b=some v):∃ η',Adv M H η w (H.put b none) η' w/\VR η' (.fz τ xs) v:=by
 have hlv:=h.live b _ hg
 cases hlv with
 | none hL hh =>
  rw[hv]at hh;injection hh with hh;subst hh
  exact⟨η,q18 h b,.fz ⟨_,_,rfl,Nat.le_refl _,fun _=>rfl,fun i x hx=>by simp at hx⟩⟩
 | rows hL ha hh hc hr =>
  rename_i L c
  rw[hv]at hh;injection hh with hh;subst hh
  have hlb:LB H η L.block:=⟨b,_,L,hg,hL,rfl⟩
  have hsep:=h.sep _ hlb
  have hle:η.le (η.freeze L.block w.heap[L.block]?):=⟨fun _ _ h=>h,fun _ _ h=>h,fun k ob hk=>by
   show (if k=L.block then w.heap[L.block]? else η.fz k)=some ob
   rw[if_neg (fun he=>by subst he;rw[hsep]at hk;cases hk)];exact hk⟩
  have hfz:∀ k ob,(η.freeze L.block w.heap[L.block]?).fz k=some ob->(k=L.block/\w.heap[L.block]?=some ob)∨η.fz k=some ob:=fun k ob hk=>by
   have hk':(if k=L.block then w.heap[L.block]? else η.fz k)=some ob:=hk
   split at hk'
   ·rename_i he;exact .inl ⟨he,hk'⟩
   ·exact .inr hk'
  refine⟨η.freeze L.block w.heap[L.block]?,⟨hle,fun _ _=>⟨rfl,rfl⟩,Nat.le_refl _,⟨h.dom,fun x ob hx=>h.lt x ob (q16 hx).2,fun x ob hx=>(h.live x ob (q16 hx).2).move hle rfl (Nat.le_refl _) fun _ _=>rfl,
   fun b1 b2 o1 o2 L1 L2 h1 h2=>h.inj b1 b2 o1 o2 L1 L2 (q16 h1).2 (q16 h2).2,fun k ob hk=>?_,fun k hk=>?_,h.ok⟩,
   Nat.le_refl _,fun _ _ _=>rfl,fun k hk=>.inl (q17 (η:=η) hk),fun k ob hk=>?_,rfl,rfl,rfl,Nat.le_refl _⟩,?_⟩
  ·rcases hfz k ob hk with⟨rfl,h1⟩ | h1
   ·exact h1
   ·exact h.fz k ob h1
  ·obtain⟨x,ob,L',hx,hL',hk'⟩:=hk
   obtain⟨hne,hg'⟩:=q16 hx
   show (if k=L.block then w.heap[L.block]? else η.fz k)=none
   rw[if_neg (fun he=>hne (h.inj _ _ _ _ _ _ hg' hg hL' hL (by rw[hk',he])))]
   exact h.sep k ⟨x,ob,L',hg',hL',hk'⟩
  ·rcases hfz k ob hk with⟨rfl,h1⟩ | h1
   ·exact .inr (.inl hlb)
   ·exact .inl h1
  ·refine .fz ⟨_,_,rfl,hc,(fun h=>by cases h),fun i x hx=>⟨_,_,rfl,q1a (η:=η) (w:=w) hle.fz ?_ τ x _ fun j cc hcc=>?_⟩⟩
   ·show (if L.block=L.block then w.heap[L.block]? else η.fz L.block)=_
    rw[if_pos rfl]
   ·have hj:j<τ.size:=by rw[← q9 τ x];exact (List.getElem?_eq_some_iff.1 hcc).1
    obtain⟨v,h1,h2⟩:=ha.cell (i*τ.size+j) cc (by rw[qe τ xs i x j hx hj];exact hcc)
    exact⟨v,by rw[Nat.add_assoc];exact h1,h2⟩
def q1c (cs:List LV) (o:Nat) (ds:List LV):List LV:=cs.take o++(ds++cs.drop (o+ds.length))
theorem q1d {cs:List LV} {o:Nat} {ds:List LV} (h:o+ds.length<=cs.length):(q1c cs o ds).length=cs.length:=by unfold q1c;simp;omega
theorem q1e {cs:List LV} {o:Nat} {ds:List LV} (h:o+ds.length<=cs.length) (j:Nat):(q1c cs o ds)[j]?=if o<=j/\j<o+ds.length then ds[j-o]? else cs[j]?:=by
 unfold q1c
 rw[List.getElem?_append,List.length_take,Nat.min_eq_left (by omega)]
 split
 ·rename_i hj;rw[if_neg (by omega),List.getElem?_take,if_pos hj]
 ·rename_i hj
  rw[List.getElem?_append]
  split
  ·rw[if_pos (by omega)]
  ·rw[if_neg (by omega),List.getElem?_drop];congr 1;omega
theorem q1f {η:Emb} {w:World} {cs:List LV} {L:Loc} (ha:At η w cs L) {o:Nat} {ds:List LV} {vs:List Value} (hf:o+ds.length<=cs.length) (hv:VRs η ds vs):At η (w.setCells L.block (L.base+o) vs) (q1c cs o ds) L:=by
 have hvl:=hv.1
 have hthere:∀ j,j<vs.length->(w.cell? ⟨L.block,L.base+o+j,none⟩).isSome=true:=fun j hj=>(ha.there _ (by omega) (by have:=ha.fits;omega)).1
 refine⟨by rw[qq];exact ha.lt,by rw[q1d hf];exact ha.fits,fun j h1 h2=>?_,fun j c hc=>?_⟩
 ·refine⟨?_,by rw[World.frozen?_setCells];exact (ha.there j h1 h2).2⟩
  by_cases hj:L.base+o<=j/\j<L.base+o+vs.length
  ·have:=World.cell?_setCells_in L.block vs (L.base+o) w hthere (j-(L.base+o)) (by omega)
   rw[show L.base+o+(j-(L.base+o))=j by omega]at this
   rw[this];rfl
  ·rw[World.cell?_setCells_out L.block vs (L.base+o) w ⟨L.block,j,none⟩ (fun _ _=>by simp only;omega)];exact (ha.there j h1 h2).1
 ·rw[q1e hf]at hc
  split at hc
  ·rename_i hj
   obtain⟨v,hv1,hv2⟩:=hv.get hc
   refine⟨v,?_,hv2⟩
   have hlt:j-o<vs.length:=by omega
   have:=World.cell?_setCells_in L.block vs (L.base+o) w hthere (j-o) hlt
   rw[show L.base+o+(j-o)=L.base+j by omega]at this
   rw[this]
   rw[List.getElem?_eq_getElem hlt]at hv1;exact hv1
  ·rename_i hj
   obtain⟨v,hv1,hv2⟩:=ha.cell j c hc
   exact⟨v,by rw[World.cell?_setCells_out L.block vs (L.base+o) w ⟨L.block,L.base+j,none⟩ (fun _ _=>by simp only;omega)];exact hv1,hv2⟩
theorem q1g {M:Nat} {H:LH} {η:Emb} {w:World} (h:HR M η H w) {b:Nat} {ob ob':Ob} {L:Loc} (hg:H.get b=some ob) (hL:η.loc b=some L)
    {o:Nat} {vs:List Value} (hst:At η (w.setCells L.block (L.base+o) vs) ob'.list L)
    (hob:(∃ cs cs',ob=.cells cs/\ob'=.cells cs'/\cs'.length=cs.length)∨(∃ τ xs xs',ob=.rows τ xs/\ob'=.rows τ xs'/\xs'.length=xs.length) ∨ ∃ e xs q q',ob=.rowl e xs q/\ob'=.rowl e xs q') :
    Adv M H η w (H.put b (some ob')) η (w.setCells L.block (L.base+o) vs):=by
  have hlv:=h.live _ _ hg
  have hsize:(w.setCells L.block (L.base+o) vs).heap.size=w.heap.size:=qq ..
  have hother:∀ k,k≠L.block->(w.setCells L.block (L.base+o) vs).heap[k]?=w.heap[k]?:=fun k hne=>qw _ _ _ _ _ hne
  have hget:∀ x ob2,(H.put b (some ob')).get x=some ob2->(x=b/\ob2=ob')∨(x≠b/\H.get x=some ob2):=fun x ob2 hx=>by
    rw[LH.get_put]at hx
    split at hx
    · rename_i he;injection hx with hx;exact .inl ⟨he,hx.symm⟩
    · rename_i he;exact .inr ⟨he,hx⟩
  have hg0:∀ x ob2,(H.put b (some ob')).get x=some ob2->∃ ob0,H.get x=some ob0:=fun x ob2 hx=>by
    rcases hget x ob2 hx with⟨rfl,_⟩ | ⟨_,hg'⟩
    · exact⟨_,hg⟩
    · exact⟨_,hg'⟩
  have hlb:∀ k,LB (H.put b (some ob')) η k->LB H η k:=fun k ⟨x,ob2,L',hx,hL',hk⟩=>let ⟨ob0,hg'⟩:=hg0 _ _ hx;⟨x,ob0,L',hg',hL',hk⟩
  have hsep:=h.sep L.block ⟨b,ob,L,hg,hL,rfl⟩
  refine⟨Emb.le_refl _,fun _ _=>⟨rfl,rfl⟩,Nat.le_refl _,⟨h.dom,fun x ob2 hx=>let ⟨_,hg'⟩:=hg0 x ob2 hx;h.lt x _ hg',fun x ob2 hx=>?_,fun b1 b2 c1 c2 L1 L2 h1 h2 e1 e2 he=>?_,fun k o2 hk=>?_,fun k hk=>h.sep k (hlb k hk),h.ok⟩,by omega,fun k hk hn=>hother k (fun he=>hn ⟨b,ob,L,hg,hL,he.symm⟩),
    fun k hk=>.inl (hlb k hk),fun _ _ hk=>.inl hk,qr ..,qt ..,qu ..,Nat.le_of_eq (qv ..).symm⟩
  · rcases hget x ob2 hx with⟨rfl,rfl⟩ | ⟨hne,hg'⟩
    · rcases hob with⟨cs,cs',rfl,rfl,hlc⟩ | ⟨τ,xs,xs',rfl,rfl,hl⟩ | ⟨e,xs,q,q',rfl,rfl⟩
      · cases hlv with
        | cells hL' _ hl' =>
          rw[hL]at hL';injection hL' with hL';subst hL'
          exact .cells hL hst (by rw[hlc];exact hl')
      · cases hlv with
        | none hL'=>rw[hL]at hL';cases hL'
        | rows hL' ha' hh hc hr =>
          rw[hL]at hL';injection hL' with hL';subst hL'
          exact .rows hL hst (by rw[hl];exact hh) (by rw[hl];exact hc) hr
      · cases hlv with
        | rowl hL' ha' hh hc hr =>
          rw[hL]at hL';injection hL' with hL';subst hL'
          exact .rowl hL hst hh hc hr
    · exact (h.live x ob2 hg').move (Emb.le_refl _) rfl (by omega) fun L' hL'=>hother _ fun he=>hne (h.inj _ _ _ _ _ _ hg' hg hL' hL he)
  · obtain⟨d1,g1⟩:=hg0 _ _ h1
    obtain⟨d2,g2⟩:=hg0 _ _ h2
    exact h.inj _ _ _ _ _ _ g1 g2 e1 e2 he
  · rw[hother k (fun he=>by subst he;rw[hsep]at hk;cases hk)];exact h.fz k o2 hk
theorem q1h {η:Emb} {w:World} {cs:List LV} {L:Loc} (ha:At η w cs L) {ds:List LV} {vs:List Value} (hlim:L.base+cs.length+vs.length<=L.lim) (hv:VRs η ds vs):At η (w.setCells L.block (L.base+cs.length) vs) (cs++ds) L:=by
 have hvl:=hv.1
 have hthere:∀ j,j<vs.length->(w.cell? ⟨L.block,L.base+cs.length+j,none⟩).isSome=true:=fun j hj=>(ha.there _ (by omega) (by omega)).1
 refine⟨by rw[qq];exact ha.lt,by simp;omega,fun j h1 h2=>?_,fun j c hc=>?_⟩
 ·refine⟨?_,by rw[World.frozen?_setCells];exact (ha.there j h1 h2).2⟩
  by_cases hj:L.base+cs.length<=j/\j<L.base+cs.length+vs.length
  ·have:=World.cell?_setCells_in L.block vs (L.base+cs.length) w hthere (j-(L.base+cs.length)) (by omega)
   rw[show L.base+cs.length+(j-(L.base+cs.length))=j by omega]at this
   rw[this];rfl
  ·rw[World.cell?_setCells_out L.block vs (L.base+cs.length) w ⟨L.block,j,none⟩ (fun _ _=>by simp only;omega)];exact (ha.there j h1 h2).1
 ·rw[List.getElem?_append]at hc
  split at hc
  ·rename_i hj
   obtain⟨v,hv1,hv2⟩:=ha.cell j c hc
   exact⟨v,by rw[World.cell?_setCells_out L.block vs (L.base+cs.length) w ⟨L.block,L.base+j,none⟩ (fun _ _=>by simp only;omega)];exact hv1,hv2⟩
  ·rename_i hj
   obtain⟨v,hv1,hv2⟩:=hv.get hc
   have hlt:j-cs.length<vs.length:=(List.getElem?_eq_some_iff.1 hv1).1
   refine⟨v,?_,hv2⟩
   have:=World.cell?_setCells_in L.block vs (L.base+cs.length) w hthere (j-cs.length) hlt
   rw[show L.base+cs.length+(j-cs.length)=L.base+j by omega]at this
   rw[this,← List.getElem?_eq_getElem hlt];exact hv1
theorem q1i {M:Nat} {H:LH} {η:Emb} {w:World} (h:HR M η H w) (hM:H.next<M) {b:Nat} {τ:Row} {xs ys:List (den τ)} {L:Loc} {c:Nat} (hg:H.get b=some (.rows τ xs)) (hL:η.loc b=some L)
    {vs:List Value} (hc:(xs++ys).length<=c) (hr:L.base+c*τ.size=L.lim) (hv:VRs η (flat τ ys) vs) :
    Adv M H η w ((H.put b none).alloc (.rows τ (xs++ys))) (η.put H.next (some L) (some (.slice (some ⟨L.block,L.base,none⟩) (xs++ys).length c))) (w.setCells L.block (L.base+(flat τ xs).length) vs):=by
  have hlv:=h.live _ _ hg
  have ha:At η w (flat τ xs) L:=hlv.at hL
  have hvl:=hv.1
  have hlim:L.base+(flat τ xs).length+vs.length<=L.lim:=by
    rw[← hvl,qc,qc]
    have h1:(xs++ys).length*τ.size<=c*τ.size:=Nat.mul_le_mul_right _ hc
    rw[List.length_append,Nat.add_mul]at h1;omega
  have hst:=q1h ha hlim hv
  generalize hw':w.setCells L.block (L.base+(flat τ xs).length) vs=w' at hst ⊢
  have hsize:w'.heap.size=w.heap.size:=by rw[← hw'];exact qq ..
  have hother:∀ k,k≠L.block->w'.heap[k]?=w.heap[k]?:=fun k hne=>by rw[← hw'];exact qw _ _ _ _ _ hne
  generalize hη':η.put H.next (some L) (some (.slice (some ⟨L.block,L.base,none⟩) (xs++ys).length c))=η'
  have hle:η.le η':=by rw[← hη'];exact h.le_put hM _ _
  have hne':∀ x,x≠H.next->η'.loc x=η.loc x/\η'.hdr x=η.hdr x:=fun x hx=>by rw[← hη'];exact η.put_ne _ _ hx
  have hloc:η'.loc H.next=some L:=by rw[← hη'];exact Emb.put_loc ..
  have hhdr:η'.hdr H.next=some (.slice (some ⟨L.block,L.base,none⟩) (xs++ys).length c):=by rw[← hη'];exact Emb.put_hdr ..
  have hfz:η'.fz=η.fz:=by rw[← hη'];rfl
  have hget:∀ x ob,((H.put b none).alloc (.rows τ (xs++ys))).get x=some ob->(x=H.next/\ob=.rows τ (xs++ys))∨(x≠H.next/\x≠b/\H.get x=some ob):=fun x ob hx=>by
    rw[LH.get_alloc]at hx
    split at hx
    · rename_i he;injection hx with hx;exact .inl ⟨he,hx.symm⟩
    · rename_i he;have:=q16 hx;exact .inr ⟨he,this.1,this.2⟩
  have hlb:∀ k,LB ((H.put b none).alloc (.rows τ (xs++ys))) η' k->LB H η k:=fun k ⟨x,ob,L',hx,hL',hk⟩=>by
    rcases hget x ob hx with⟨rfl,rfl⟩ | ⟨hne,_,hg'⟩
    · rw[hloc]at hL';injection hL' with hL';subst hL';exact⟨b,_,L,hg,hL,hk⟩
    · rw[(hne' x hne).1]at hL';exact⟨x,ob,L',hg',hL',hk⟩
  have hsep:=h.sep L.block ⟨b,_,L,hg,hL,rfl⟩
  have key:∀ x ob L',H.get x=some ob->η.loc x=some L'->x≠b->L'.block≠L.block:=fun x ob L' hx hL' hne he=>hne (h.inj _ _ _ _ _ _ hx hg hL' hL he)
  refine⟨hle,fun x hx=>hne' x (by have:((H.put b none).alloc (.rows τ (xs++ys))).next=H.next+1:=rfl;omega),Nat.le_succ _,⟨fun x hx hxM=>?_,fun x ob hx=>?_,fun x ob hx=>?_,fun b1 b2 o1 o2 L1 L2 h1 h2 e1 e2 he=>?_,fun k o2 hk=>?_,fun k hk=>by rw[hfz];exact h.sep k (hlb k hk),fun x v hx=>?_⟩,by omega,fun k hk hn=>hother k (fun he=>hn ⟨b,_,L,hg,hL,he.symm⟩),
    fun k hk=>.inl (hlb k hk),fun k o2 hk=>by rw[hfz]at hk;exact .inl hk,by rw[← hw'];exact qr ..,by rw[← hw'];exact qt ..,by rw[← hw'];exact qu ..,by rw[← hw'];exact Nat.le_of_eq (qv ..).symm⟩
  · have hx':H.next+1<=x:=hx
    have:=hne' x (by omega)
    rw[this.1,this.2];exact h.dom x (by omega) hxM
  · show x<H.next+1
    rcases hget x ob hx with⟨rfl,_⟩ | ⟨_,_,hg'⟩
    · omega
    · have:=h.lt _ _ hg';omega
  · rcases hget x ob hx with⟨rfl,rfl⟩ | ⟨hne,hxb,hg'⟩
    · exact .rows hloc (by rw[qd];exact hst.move hle (Nat.le_refl _) rfl) hhdr hc hr
    · exact (h.live x ob hg').move hle (hne' x hne).1 (by omega) fun L' hL'=>hother _ (key x ob L' hg' hL' hxb)
  · rcases hget b1 o1 h1 with⟨rfl,rfl⟩ | ⟨n1,x1,g1⟩<;>rcases hget b2 o2 h2 with⟨rfl,rfl⟩ | ⟨n2,x2,g2⟩
    · rfl
    · rw[hloc]at e1;rw[(hne' b2 n2).1]at e2
      injection e1 with e1;subst e1
      exact absurd he.symm (key _ _ _ g2 e2 x2)
    · rw[hloc]at e2;rw[(hne' b1 n1).1]at e1
      injection e2 with e2;subst e2
      exact absurd he (key _ _ _ g1 e1 x1)
    · rw[(hne' b1 n1).1]at e1;rw[(hne' b2 n2).1]at e2
      exact h.inj _ _ _ _ _ _ g1 g2 e1 e2 he
  · rw[hfz]at hk
    rw[hother k (fun he=>by subst he;rw[hsep]at hk;cases hk)];exact h.fz k o2 hk
  · by_cases he:x=H.next
    · subst he;rw[hhdr]at hx;injection hx with hx;exact⟨_,_,_,hx.symm⟩
    · rw[(hne' x he).2]at hx;exact h.ok x v hx
theorem q1j {M:Nat} {H:LH} {η:Emb} {w:World} (h:HR M η H w) {b:Nat} {ob ob':Ob} (hg:H.get b=some ob) (hl:Lv η w b ob'):Adv M H η w (H.put b (some ob')) η w:=by
 have hget:∀ x ob2,(H.put b (some ob')).get x=some ob2->(x=b/\ob2=ob')∨(x≠b/\H.get x=some ob2):=fun x ob2 hx=>by
  rw[LH.get_put]at hx
  split at hx
  ·rename_i he;injection hx with hx;exact .inl ⟨he,hx.symm⟩
  ·rename_i he;exact .inr ⟨he,hx⟩
 have hg0:∀ x ob2,(H.put b (some ob')).get x=some ob2->∃ ob0,H.get x=some ob0:=fun x ob2 hx=>by
  rcases hget x ob2 hx with⟨rfl,_⟩ | ⟨_,hg'⟩
  ·exact⟨_,hg⟩
  ·exact⟨_,hg'⟩
 have hlb:∀ k,LB (H.put b (some ob')) η k->LB H η k:=fun k ⟨x,ob2,L',hx,hL',hk⟩=>let ⟨ob0,hg'⟩:=hg0 _ _ hx;⟨x,ob0,L',hg',hL',hk⟩
 refine⟨Emb.le_refl _,fun _ _=>⟨rfl,rfl⟩,Nat.le_refl _,⟨h.dom,fun x ob2 hx=>let ⟨_,hg'⟩:=hg0 x ob2 hx;h.lt x _ hg',fun x ob2 hx=>?_,fun b1 b2 c1 c2 L1 L2 h1 h2 e1 e2 he=>?_,h.fz,fun k hk=>h.sep k (hlb k hk),h.ok⟩,Nat.le_refl _,fun _ _ _=>rfl,
  fun k hk=>.inl (hlb k hk),fun _ _ hk=>.inl hk,rfl,rfl,rfl,Nat.le_refl _⟩
 ·rcases hget x ob2 hx with⟨rfl,rfl⟩ | ⟨hne,hg'⟩
  ·exact hl
  ·exact h.live x ob2 hg'
 ·obtain⟨d1,g1⟩:=hg0 _ _ h1
  obtain⟨d2,g2⟩:=hg0 _ _ h2
  exact h.inj _ _ _ _ _ _ g1 g2 e1 e2 he
theorem q1k {M:Nat} {H:LH} {η:Emb} {w:World} (h:HR M η H w) (hM:H.next<M) {b:Nat} {ob ob':Ob} {L:Loc} {v:Value} {w':World} (hg:H.get b=some ob) (hL:η.loc b=some L)
    (hsize:w'.heap.size=w.heap.size) (hother:∀ k,k≠L.block->w'.heap[k]?=w.heap[k]?) (os:w'.os=w.os) (tape:w'.tape=w.tape) (output:w'.output=w.output) (drawn:w.drawn<=w'.drawn)
    (hlive:Lv (η.put H.next (some L) (some v)) w' H.next ob') (hv:∃ A n c,v=.slice A n c) :
    Adv M H η w ((H.put b none).alloc ob') (η.put H.next (some L) (some v)) w':=by
  generalize hη':η.put H.next (some L) (some v)=η' at hlive
  have hle:η.le η':=by rw[← hη'];exact h.le_put hM _ _
  have hne':∀ x,x≠H.next->η'.loc x=η.loc x/\η'.hdr x=η.hdr x:=fun x hx=>by rw[← hη'];exact η.put_ne _ _ hx
  have hloc:η'.loc H.next=some L:=by rw[← hη'];exact Emb.put_loc ..
  have hhdr:η'.hdr H.next=some v:=by rw[← hη'];exact Emb.put_hdr ..
  have hfz:η'.fz=η.fz:=by rw[← hη'];rfl
  have hget:∀ x o,((H.put b none).alloc ob').get x=some o->(x=H.next/\o=ob')∨(x≠H.next/\x≠b/\H.get x=some o):=fun x o hx=>by
    rw[LH.get_alloc]at hx
    split at hx
    · rename_i he;injection hx with hx;exact .inl ⟨he,hx.symm⟩
    · rename_i he;have:=q16 hx;exact .inr ⟨he,this.1,this.2⟩
  have hlb:∀ k,LB ((H.put b none).alloc ob') η' k->LB H η k:=fun k ⟨x,o,L',hx,hL',hk⟩=>by
    rcases hget x o hx with⟨rfl,rfl⟩ | ⟨hne,_,hg'⟩
    · rw[hloc]at hL';injection hL' with hL';subst hL';exact⟨b,_,L,hg,hL,hk⟩
    · rw[(hne' x hne).1]at hL';exact⟨x,o,L',hg',hL',hk⟩
  have hsep:=h.sep L.block ⟨b,_,L,hg,hL,rfl⟩
  have key:∀ x o L',H.get x=some o->η.loc x=some L'->x≠b->L'.block≠L.block:=fun x o L' hx hL' hne he=>hne (h.inj _ _ _ _ _ _ hx hg hL' hL he)
  refine⟨hle,fun x hx=>hne' x (by have:((H.put b none).alloc ob').next=H.next+1:=rfl;omega),Nat.le_succ _,⟨fun x hx hxM=>?_,fun x o hx=>?_,fun x o hx=>?_,fun b1 b2 o1 o2 L1 L2 h1 h2 e1 e2 he=>?_,fun k o2 hk=>?_,fun k hk=>by rw[hfz];exact h.sep k (hlb k hk),fun x v0 hx=>?_⟩,by omega,fun k hk hn=>hother k (fun he=>hn ⟨b,_,L,hg,hL,he.symm⟩),
    fun k hk=>.inl (hlb k hk),fun k o2 hk=>by rw[hfz]at hk;exact .inl hk,os,tape,output,drawn⟩
  · have hx':H.next+1<=x:=hx
    have:=hne' x (by omega)
    rw[this.1,this.2];exact h.dom x (by omega) hxM
  · show x<H.next+1
    rcases hget x o hx with⟨rfl,_⟩ | ⟨_,_,hg'⟩
    · omega
    · have:=h.lt _ _ hg';omega
  · rcases hget x o hx with⟨rfl,rfl⟩ | ⟨hne,hxb,hg'⟩
    · exact hlive
    · exact (h.live x o hg').move hle (hne' x hne).1 (by omega) fun L' hL'=>hother _ (key x o L' hg' hL' hxb)
  · rcases hget b1 o1 h1 with⟨rfl,rfl⟩ | ⟨n1,x1,g1⟩<;>rcases hget b2 o2 h2 with⟨rfl,rfl⟩ | ⟨n2,x2,g2⟩
    · rfl
    · rw[hloc]at e1;rw[(hne' b2 n2).1]at e2
      injection e1 with e1;subst e1
      exact absurd he.symm (key _ _ _ g2 e2 x2)
    · rw[hloc]at e2;rw[(hne' b1 n1).1]at e1
      injection e2 with e2;subst e2
      exact absurd he (key _ _ _ g1 e1 x1)
    · rw[(hne' b1 n1).1]at e1;rw[(hne' b2 n2).1]at e2
      exact h.inj _ _ _ _ _ _ g1 g2 e1 e2 he
  · rw[hfz]at hk
    rw[hother k (fun he=>by subst he;rw[hsep]at hk;cases hk)];exact h.fz k o2 hk
  · by_cases he:x=H.next
    · subst he;rw[hhdr]at hx;injection hx with hx;rw[← hx];exact hv
    · rw[(hne' x he).2]at hx;exact h.ok x v0 hx
theorem q1l {η η':Emb} {w:World} {k:Nat} {e:Row} {xs:List (List (den e))} {q:Option Nat} {ys:List (den e)} (h:Lv η w k (.rowl e xs q)) (hle:η.le η') (hq:∀ v,VR η (qm q) v->VR η' (.fz e ys) v):Lv η' w k (.rows (.sl e .nil) (qn (xs ++ [ys]))):=by
 cases h with
 | rowl hL ha hh hc hr =>
  rename_i L c
  have hlen:(qn (xs ++ [ys])).length=xs.length+1:=by rw[qo,List.length_append];rfl
  have hsl:qn (xs ++ [ys])=qn xs++qn [ys]:=List.map_append
  have hfl:flat (.sl e .nil) (qn (xs ++ [ys]))=flat (.sl e .nil) (qn xs) ++ [.fz e ys]:=by rw[hsl,qd];rfl
  refine .rows (hle.loc _ _ hL) ⟨ha.lt,?_,ha.there,fun j cc hcc=>?_⟩ (by rw[hlen];exact hle.hdr _ _ hh) (by rw[hlen];exact hc) (by show L.base+c*1=L.lim;omega)
  ·have:=ha.fits
   rw[hfl];rw[Ob.list]at this;simpa using this
  ·rw[hfl]at hcc
   rcases Nat.lt_or_ge j (flat (.sl e .nil) (qn xs)).length with hj | hj
   ·rw[List.getElem?_append_left hj]at hcc
    obtain⟨v,h1,h2⟩:=ha.cell j cc (by rw[Ob.list,List.getElem?_append_left hj];exact hcc)
    exact⟨v,h1,h2.mono hle⟩
   ·rw[List.getElem?_append_right hj]at hcc
    have hj0:j-(flat (.sl e .nil) (qn xs)).length=0:=by
     have:=(List.getElem?_eq_some_iff.1 hcc).1;simpa using this
    rw[hj0]at hcc
    injection hcc with hcc;subst hcc
    obtain⟨v,h1,h2⟩:=ha.cell j (qm q) (by rw[Ob.list,List.getElem?_append_right hj,hj0];rfl)
    exact⟨v,h1,hq v h2⟩
theorem q1m {M:Nat} {H:LH} {η:Emb} {w:World} (h:HR M η H w) {k:Nat} {e:Row} {xs:List (List (den e))} (hg:H.get k=some (.rowl e xs none)):Adv M H η w (H.put k (some (.rows (.sl e .nil) (qn (xs ++ [[]]))))) η w :=
 q1j h hg (q1l (h.live _ _ hg) (Emb.le_refl _) fun v hv=>by
  cases hv;exact .fz ⟨none,0,rfl,Nat.le_refl _,fun _=>rfl,fun i x hx=>by simp at hx⟩)
theorem q1n {M:Nat} {H:LH} {η:Emb} {w:World} (h:HR M η H w) {k r:Nat} {e:Row} {xs:List (List (den e))} {ys:List (den e)} (hg:H.get k=some (.rowl e xs (some r))) (hr:H.get r=some (.rows e ys)):∃ η',Adv M H η w ((H.put r none).put k (some (.rows (.sl e .nil) (qn (xs ++ [ys]))))) η' w:=by
 have hne:k≠r:=fun he=>by subst he;rw[hg]at hr;cases hr
 cases hh:η.hdr r with
 | none => cases h.live _ _ hr with
  | none hL h'=>rw[hh]at h';cases h'
  | rows hL ha h'=>rw[hh]at h';cases h'
 | some v0 =>
  obtain⟨η1,h1,h2⟩:=q1b h hr hh
  have hg1:(H.put r none).get k=some (.rowl e xs (some r)):=by rw[LH.get_put,if_neg hne];exact hg
  refine⟨η1,h1.trans (q1j h1.hr hg1 (q1l (h.live _ _ hg) h1.le fun v hv=>?_))⟩
  cases hv with
  | rs h'=>rw[hh]at h';injection h' with h';subst h';exact h2
inductive TK where
 | int (k:IntKind)
 | bool
 | slice (e:TypeId) (τ:Row)
 | struct (fs:List (Nat×TypeId))
 | array (n:Nat) (e:TypeId)
 | other
 | str
 | map (ke:TypeId) (kk:MK) (ee:TypeId) (agg:Bool) (τ:Row)
structure TI where
 kind:TK
 size:Nat
 agg:Bool
 zero:List LV
 eqs:Bool
 lit:Bool
abbrev Tys:=List (TypeId×TI)
def Tys.find:Tys->TypeId->Option TI
 | [],_=>none
 | p::l,t=>bif Nat.beq p.1 t then some p.2 else Tys.find l t
def zero:(τ:Row)->den τ
 | .nil=>()
 | .int _ r=>(0,zero r)
 | .bool r=>(false,zero r)
 | .sl _ r=>([],zero r)
def q1o:Row->List Value
 | .nil=>[]
 | .int k r=>.int k 0::q1o r
 | .bool r=>.bool false::q1o r
 | .sl _ r=>.slice none 0 0::q1o r
theorem q1p (η:Emb):∀ τ:Row,VRs η (split τ (zero τ)) (q1o τ)
 | .nil=>VRs.nil
 | .int _ r=>VRs.cons (.int _ _) (q1p η r)
 | .bool r=>VRs.cons (.bool _) (q1p η r)
 | .sl _ r=>VRs.cons (.fz ⟨none,0,rfl,Nat.le_refl _,fun _=>rfl,fun i x hx=>by simp[zero]at hx⟩) (q1p η r)
def eqVs:List Value->List Value->Option Bool
 | [],[]=>some true
 | .int k a::xs,.int k' b::ys=>bif decide (k=k') then (eqVs xs ys).map fun r=>(a==b)&&r else none
 | _,_=>none
def eqCs:List LV->List LV->Option Bool
 | [],[]=>some true
 | .int k a::xs,.int k' b::ys=>bif decide (k=k') then (eqCs xs ys).map fun r=>(a==b)&&r else none
 | _,_=>none
theorem q1q {η:Emb}:∀ {xs ys:List LV} {vs us:List Value} {b:Bool},VRs η xs vs->VRs η ys us->eqCs xs ys=some b->eqVs vs us=some b
 | [], [], vs, us, b, h1, h2, hb => by
  have e1:vs=[]:=by have:=h1.1;simpa using this.symm
  have e2:us=[]:=by have:=h2.1;simpa using this.symm
  subst e1 e2;exact hb
 | [],y::ys,_,_,_,_,_,hb=>by cases y<;>cases hb
 | x::xs,[],_,_,_,_,_,hb=>by cases x<;>cases hb
 | x::xs, y::ys, vs, us, b, h1, h2, hb => by
  obtain⟨v,vs,rfl,a1,a2⟩:=h1.uncons
  obtain⟨u,us,rfl,c1,c2⟩:=h2.uncons
  cases x<;>cases y<;>simp only[eqCs]at hb<;>first | cases hb | skip
  ·cases a1;cases c1
   simp only[eqVs]
   rw[Bool.cond_eq_ite]at hb ⊢
   split at hb
   ·rename_i hk
    rw[if_pos hk]
    rw[Option.map_eq_some_iff]at hb ⊢
    obtain⟨r,hr,hb⟩:=hb
    exact⟨r,q1q a2 c2 hr,hb⟩
   ·cases hb
theorem q1r {b:Bool} (h:eqVs [] []=some b):b=true:=by injection h with h;exact h.symm
theorem q1s {x y:Value} {xs ys:List Value} {b:Bool} (h:eqVs (x::xs) (y::ys)=some b):∃ k a c r,x=.int k a/\y=.int k c/\eqVs xs ys=some r/\b=((a==c)&&r):=by
 cases x<;>cases y<;>(try simp only[eqVs]at h)<;>first | (cases h;done) | skip
 rw[Bool.cond_eq_ite]at h
 split at h
 ·rename_i hk
  rw[decide_eq_true_eq]at hk;subst hk
  rw[Option.map_eq_some_iff]at h
  obtain⟨r,hr,hb⟩:=h
  exact⟨_,_,_,r,rfl,rfl,hr,hb.symm⟩
 ·cases h
structure EqT (P:Program) (t:TypeId) (n:Nat):Prop where
 eq:∀ (vs us:List Value) (b:Bool) (w:World),vs.length=n->us.length=n->eqVs vs us=some b->(Op.equal t (.agg vs.toArray) (.agg us.toArray)).run P w=.ok b w
 guard:P.eqGuardType P.depth t=false
def ZSh (agg:Bool) (τ:Row) (z:Value):Prop:=match agg with
 | true=>z=.agg (q1o τ).toArray
 | false=>q1o τ=[z]
def q1t (κ:MK) (x:κ.T):List κ.T->List MapEntry->Nat->Option (Nat×Value)
 | k::ks,m::l,i=>bif κ.eq x k then some (i,m.val) else q1t κ x ks l (i+1)
 | _,_,_=>none
structure KeyT (P:Program) (ke:TypeId) (κ:MK):Prop where
 chk:∀ (em:Bool) (x:κ.T) (w:World),κ.wf x->(Instr.checkKey em 10000 ke (κ.val x)).run P w=.ok () w
 find:∀ (x:κ.T) (w:World),κ.wf x->∀ (ks:List κ.T) (l:List MapEntry),l.map (·.key)=ks.map κ.val->(∀ k∈ks,κ.wf k)->(Instr.findKey ke (κ.val x) l).run P w=.ok (q1t κ x ks l 0) w
structure TIok (P:Program) (t:TypeId) (i:TI):Prop where
 info:∃ j z,P.info? t=some j/\j.size=i.size/\j.zero=some z/\∃ vs,z.cells=vs.toArray/\∀ η,VRs η i.zero vs
 und:match i.kind with
  | .int k=>P.underlying t=some (.int k)/\i.agg=false
  | .bool=>P.underlying t=some .bool/\i.agg=false
  | .slice e τ=>P.underlying t=some (.slice e)/\i.agg=false/\0<τ.size/\∃ j z,P.info? e=some j/\j.zero=some z/\z.cells=(q1o τ).toArray/\j.size=τ.size/\j.bytes<=1000
  | .struct fs=>i.agg=true/\∃ fields,P.underlying t=some (.struct fields)/\fields.toList.map (fun f=>(f.offset,f.type))=fs
  | .array n e=>i.agg=true/\P.underlying t=some (.array n e)
  | .str=>i.agg=false/\P.underlying t=some .string
  | .map ke kk ee agg τ=>i.agg=false/\P.underlying t=some (.map ke ee)/\KeyT P ke kk/\∃ j z,P.info? ee=some j/\j.zero=some z/\ZSh agg τ z
  | .other=>i.agg=false/\∃ d,P.underlying t=some d/\(∀ fs,d ≠ .struct fs)/\∀ n e,d ≠ .array n e
 eqs:i.eqs=true->EqT P t i.size
def TysOK (P:Program) (T:Tys):Prop:=∀ t i,T.find t=some i->TIok P t i
def q1u:List LV->List Value->Bool
 | [],[]=>true
 | .int k n::l,.int k' m::r=>decide (k=k')&&decide (n=m)&&q1u l r
 | .bool a::l,.bool b::r=>(a==b)&&q1u l r
 | .nils::l,.slice none 0 0::r=>q1u l r
 | .nilp::l,.pointer none::r=>q1u l r
 | .undef::l,_::r=>q1u l r
 | _,_=>false
theorem q1v (η:Emb):∀ (l:List LV) (r:List Value),q1u l r=true->VRs η l r
 | [],[],_=>VRs.nil
 | [],_::_,h=>by cases h
 | c::l,[],h=>by cases c<;>cases h
 | c::l, v::r, h => by
  unfold q1u at h
  split at h<;>first | cases h | skip
  ·rename_i e1 e2;cases e1
  ·rename_i e1 e2
   injection e1 with e1 e3;injection e2 with e2 e4;subst e1 e2 e3 e4
   simp only[Bool.and_eq_true,decide_eq_true_eq]at h
   obtain⟨⟨rfl,rfl⟩,h⟩:=h
   exact VRs.cons (.int _ _) (q1v η _ _ h)
  ·rename_i e1 e2
   injection e1 with e1 e3;injection e2 with e2 e4;subst e1 e2 e3 e4
   simp only[Bool.and_eq_true,beq_iff_eq]at h
   obtain⟨rfl,h⟩:=h
   exact VRs.cons (.bool _) (q1v η _ _ h)
  ·rename_i e1 e2
   injection e1 with e1 e3;injection e2 with e2 e4;subst e1 e2 e3 e4
   exact VRs.cons .nils (q1v η _ _ h)
  ·rename_i e1 e2
   injection e1 with e1 e3;injection e2 with e2 e4;subst e1 e2 e3 e4
   exact VRs.cons .nilp (q1v η _ _ h)
  ·rename_i e1 e2
   injection e1 with e1 e3;injection e2 with e2 e4;subst e1 e2 e3 e4
   exact VRs.cons (.undef _) (q1v η _ _ h)
def zvM:Row->List Value->Bool
 | .nil,[]=>true
 | .int k r,.int k' n::l=>decide (k=k')&&decide (n=0)&&zvM r l
 | .bool r,.bool v::l=>!v&&zvM r l
 | .sl _ r,.slice none 0 0::l=>zvM r l
 | _,_=>false
theorem q1w:∀ (τ:Row) (l:List Value),zvM τ l=true->l=q1o τ
 | .nil,[],_=>rfl
 | .nil,_::_,h=>by cases h
 | .int k r,[],h=>by cases h
 | .bool r,[],h=>by cases h
 | .sl e r,[],h=>by cases h
 | .int k r, v::l, h => by
  cases v with
  | int k' n =>
   simp only[zvM,Bool.and_eq_true,decide_eq_true_eq]at h
   obtain⟨⟨rfl,rfl⟩,h⟩:=h
   rw[q1o,q1w r l h]
  | _=>simp[zvM]at h
 | .bool r, v::l, h => by
  cases v with
  | bool x =>
   simp only[zvM,Bool.and_eq_true,Bool.not_eq_true']at h
   obtain⟨rfl,h⟩:=h
   rw[q1o,q1w r l h]
  | _=>simp[zvM]at h
 | .sl e r, v::l, h => by
  unfold zvM at h
  split at h<;>first | cases h | skip
  ·rename_i e1 e2;cases e1
  ·rename_i e1 e2;cases e1
  ·rename_i e1 e2;cases e1
  ·rename_i e1 e2
   injection e1 with e1 e3;injection e2 with e2 e4;subst e1 e2 e3 e4
   rw[q1o,q1w _ _ h]
def q1x (P:Program) (t:TypeId) (i:TI):Bool:=match P.info? t with
 | some j=>Nat.beq j.size i.size&&(match j.zero with | some z=>q1u i.zero z.cells.toList | none=>false)
 | none=>false
def zshB (agg:Bool) (τ:Row) (z:Value):Bool:=match agg with
 | true=>(match z with | .agg cs=>zvM τ cs.toList | _=>false)
 | false=>zvM τ [z]
theorem q1y {agg:Bool} {τ:Row} {z:Value} (h:zshB agg τ z=true):ZSh agg τ z:=by
 unfold ZSh
 cases agg with
 | true =>
  unfold zshB at h
  simp only at h ⊢
  split at h
  ·rw[← q1w _ _ h]
  ·cases h
 | false=>exact (q1w _ _ h).symm
def undB (P:Program) (t:TypeId) (i:TI):Bool:=match i.kind,P.underlying t with
 | .int k,some (.int k')=>decide (k'=k) && !i.agg
 | .bool,some .bool=>!i.agg
 | .slice e τ,some (.slice e')=>Nat.beq e' e && !i.agg&&Nat.blt 0 τ.size&&(match P.info? e with | some j=>(match j.zero with | some z=>zvM τ z.cells.toList&&Nat.beq j.size τ.size&&Nat.ble j.bytes 1000 | none=>false) | none=>false)
 | .struct fs,some (.struct fields)=>i.agg&&decide (fields.toList.map (fun f=>(f.offset,f.type))=fs)
 | .array n e,some (.array n' e')=>i.agg&&Nat.beq n' n&&Nat.beq e' e
 | .other,some (.pointer _)=>!i.agg
 | .other,some (.func _ _ _)=>!i.agg
 | .other,some .string=>!i.agg
 | .str,some .string=>!i.agg
 | .map ke kk ee agg τ,some (.map ke' ee')=>Nat.beq ke' ke&&Nat.beq ee' ee && !i.agg&&(match P.info? ee with | some j=>(match j.zero with | some z=>zshB agg τ z | none=>false) | none=>false)
 | _,_=>false
theorem q1z {P:Program} {T:Tys} (h:T.all (fun p=>q1x P p.1 p.2&&undB P p.1 p.2)=true) (he:∀ p∈T,p.2.eqs=true->EqT P p.1 p.2.size) (hk:∀ p∈T,∀ ke kk ee agg τ,p.2.kind=.map ke kk ee agg τ->KeyT P ke kk):TysOK P T:=by
 have mem:∀ (T:Tys) t i,T.find t=some i->(t,i)∈T:=by
  intro T
  induction T with
  | nil=>intro t i h;cases h
  | cons p l ih =>
   intro t i h
   rw[Tys.find,Bool.cond_eq_ite]at h
   split at h
   ·rename_i hb
    injection h with h
    have:=Nat.eq_of_beq_eq_true hb
    exact List.mem_cons.2 (.inl (by rw[← h,← this]))
   ·exact List.mem_cons_of_mem _ (ih t i h)
 intro t i hi
 have hm:=mem T t i hi
 have hb:=(List.all_eq_true.1 h) _ hm
 rw[Bool.and_eq_true]at hb
 obtain⟨h1,h2⟩:=hb
 simp only at h1 h2
 refine⟨?_,?_,he _ hm⟩
 ·unfold q1x at h1
  split at h1
  ·rename_i j hj
   rw[Bool.and_eq_true,Nat.beq_eq]at h1
   obtain⟨h1,h3⟩:=h1
   split at h3
   ·rename_i z hz
    exact⟨j,z,hj,h1,hz,z.cells.toList,by simp,fun η=>q1v η _ _ h3⟩
   ·cases h3
  ·cases h1
 ·unfold undB at h2
  split at h2<;>first | cases h2 | skip
  ·rename_i k k' e1 e2
   simp only[Bool.and_eq_true,decide_eq_true_eq,Bool.not_eq_true']at h2
   obtain⟨rfl,h2⟩:=h2
   rw[e1];exact⟨e2,h2⟩
  ·rename_i e1 e2
   rw[Bool.not_eq_true']at h2
   rw[e1];exact⟨e2,h2⟩
  ·rename_i e τ e' e1 e2
   simp only[Bool.and_eq_true,Nat.beq_eq,Bool.not_eq_true',Nat.blt_eq]at h2
   obtain⟨⟨⟨rfl,h3⟩,h4⟩,h5⟩:=h2
   split at h5
   ·rename_i j hj
    split at h5
    ·rename_i z hz
     simp only[Bool.and_eq_true,Nat.beq_eq,Nat.ble_eq]at h5
     obtain⟨⟨h5,h6⟩,h7⟩:=h5
     have hzv:=q1w _ _ h5
     rw[e1];exact⟨e2,h3,h4,j,z,hj,hz,by rw[← hzv],h6,h7⟩
    ·cases h5
   ·cases h5
  ·rename_i fs fields e1 e2
   simp only[Bool.and_eq_true,decide_eq_true_eq]at h2
   rw[e1];exact⟨h2.1,fields,e2,h2.2⟩
  ·rename_i n e n' e' e1 e2
   simp only[Bool.and_eq_true,Nat.beq_eq]at h2
   obtain⟨⟨h2,rfl⟩,rfl⟩:=h2
   rw[e1];exact⟨h2,e2⟩
  ·rename_i x e1 e2
   rw[Bool.not_eq_true']at h2
   rw[e1];exact⟨h2,_,e2,(fun _ h=>by cases h),(fun _ _ h=>by cases h)⟩
  ·rename_i x y z e1 e2
   rw[Bool.not_eq_true']at h2
   rw[e1];exact⟨h2,_,e2,(fun _ h=>by cases h),(fun _ _ h=>by cases h)⟩
  ·rename_i e1 e2
   rw[Bool.not_eq_true']at h2
   rw[e1];exact⟨h2,_,e2,(fun _ h=>by cases h),(fun _ _ h=>by cases h)⟩
  ·rename_i e1 e2
   rw[Bool.not_eq_true']at h2
   rw[e1];exact⟨h2,e2⟩
  ·rename_i ke kk ee agg τ ke' ee' e1 e2
   simp only[Bool.and_eq_true,Nat.beq_eq,Bool.not_eq_true']at h2
   obtain⟨⟨⟨rfl,rfl⟩,h3⟩,h5⟩:=h2
   split at h5
   ·rename_i j hj
    split at h5
    ·rename_i z hz
     rw[e1];exact⟨h3,e2,hk _ hm _ _ _ _ _ e1,j,z,hj,hz,q1y h5⟩
    ·cases h5
   ·cases h5
def litT (t:TypeId):Tys->Tys
 | []=>[]
 | p::l=>(p.1,⟨p.2.kind,p.2.size,p.2.agg,p.2.zero,p.2.eqs,Nat.beq p.1 t⟩)::litT t l
theorem q20 (t:TypeId):∀ (T:Tys) {s:TypeId} {i:TI},(litT t T).find s=some i->∃ b,T.find s=some ⟨i.kind,i.size,i.agg,i.zero,i.eqs,b⟩
 | [],s,i,h=>by cases h
 | p::l, s, i, h => by
  rw[litT,Tys.find]at h
  rw[Tys.find]
  cases hb:Nat.beq p.1 s with
  | true =>
   simp only[hb,cond_true,Option.some.injEq]at h
   exact⟨p.2.lit,by rw[cond_true,← h]⟩
  | false =>
   simp only[hb,cond_false]at h
   rw[cond_false];exact q20 t l h
theorem q21 {P:Program} {T:Tys} (h:TysOK P T) (t:TypeId):TysOK P (litT t T):=fun s i hi=>by
 obtain⟨b,hb⟩:=q20 t T hi
 have:=h s _ hb
 exact⟨this.info,this.und,this.eqs⟩
def Sim (P:Program) (M:Nat) (H:LH) (η:Emb) (w:World) (s:Sem Value) (r:LV×LH):Prop :=
 ∃ v' w' η',s.run P w=.ok v' w'/\VR η' r.1 v'/\Adv M H η w r.2 η' w'
def SimU (P:Program) (M:Nat) (H:LH) (η:Emb) (w:World) (s:Sem Unit) (H':LH):Prop:=∃ w' η',s.run P w=.ok () w'/\Adv M H η w H' η' w'
section
variable {P:Program} {T:Tys} {M:Nat} {H:LH} {η:Emb} {w:World} {β:Type} {b:β}
theorem q22 (h:HR M η H w) {s:Sem Value} {l:LV} {v:Value} (hr:s.run P w=.ok v w) (hv:VR η l v):Sim P M H η w s (l,H):=⟨v,w,η,hr,hv,Adv.refl h⟩
theorem q23 (hT:TysOK P T) {t:TypeId} {i:TI} (h:T.find t=some i) (w:World):(isAgg t).run P w=.ok i.agg w:=by
 have hu:=(hT t i h).und
 split at hu
 ·obtain⟨h1,h2⟩:=hu;rw[h2];simp[isAgg,run_underlying h1]
 ·obtain⟨h1,h2⟩:=hu;rw[h2];simp[isAgg,run_underlying h1]
 ·obtain⟨h1,h2,_⟩:=hu;rw[h2];simp[isAgg,run_underlying h1]
 ·obtain⟨h1,f,h2,_⟩:=hu;rw[h1];simp[isAgg,run_underlying h2]
 ·obtain⟨h1,h2⟩:=hu;rw[h1];simp[isAgg,run_underlying h2]
 ·obtain⟨h1,h2⟩:=hu;rw[h1];simp[isAgg,run_underlying h2]
 ·obtain⟨h1,h2,_⟩:=hu;rw[h1];simp[isAgg,run_underlying h2]
 ·obtain⟨h1,d,h2,h3,h4⟩:=hu
  rw[h1]
  cases d<;>simp[isAgg,run_underlying h2] <;> first | exact absurd rfl (h3 _) | exact absurd rfl (h4 _ _)
def tnew (H:LH) (cs:List LV) (k:LV->LH->Option β):Option β:=k (.ptr H.next 0) (H.alloc (.cells cs))
theorem q24 {cs:List LV} {vs:List Value} (h:VRs η cs vs) (j:Nat) (c:LV) (hc:cs[j]?=some c):∃ v,vs.toArray[j]?=some v/\VR η c v:=by
 obtain⟨v,h1,h2⟩:=h.get hc;exact⟨v,by simpa using h1,h2⟩
theorem q25 (h:HR M η H w) {cs:List LV} {vs:List Value} (hv:VRs η cs vs) (hM:(H.alloc (.cells cs)).next<=M) {s:Sem Value} {e:TypeId}
 (hr:s.run P w=.ok (.pointer (some ⟨w.heap.size,0,none⟩)) (w.alloc (.cells vs.toArray e))):Sim P M H η w s (.ptr H.next 0,H.alloc (.cells cs)) :=
 ⟨_,_,_,hr,VR.ptr (L:=⟨w.heap.size,0,vs.toArray.size⟩) (Emb.put_loc ..),q13 (w':=w.alloc (.cells vs.toArray e)) h hM rfl rfl rfl rfl (Nat.le_refl _) (by simp[hv.1]) (q24 hv)⟩
def q26 (T:Tys) (e:TypeId) (H:LH) (k:LV->LH->Option β):Option β:=match T.find e with | some i=>tnew H i.zero k | none=>none
theorem q27 (hT:TysOK P T) {e:TypeId} {k:LV->LH->Option β} (hx:q26 T e H k=some b):∃ r,k r.1 r.2=some b/\Logged H r.2/\∀ M η w,HR M η H w->r.2.next<=M->Sim P M H η w (Instr.alloc e true (.tuple #[])) r:=by
 unfold q26 at hx
 split at hx
 ·rename_i i hi
  refine⟨(.ptr H.next 0,H.alloc (.cells i.zero)),hx,Logged.alloc _ _,fun M η w h hM=>?_⟩
  obtain⟨j,z,hj,_,hz,vs,hvs,hv⟩:=(hT e i hi).info
  refine q25 (e:=e) h (hv η) hM ?_
  simp[Instr.alloc,zeroValue,typeInfo,hj,hz,newVar,newRow,hvs]
 ·cases hx
def tbox (l:LV) (H:LH) (k:LV->LH->Option β):Option β:=match l.cells with | some cs=>tnew H cs k | none=>none
theorem q28 {l:LV} {e:TypeId} {k:LV->LH->Option β} (hx:tbox l H k=some b):∃ r,k r.1 r.2=some b/\Logged H r.2/\∀ M η w v,HR M η H w->r.2.next<=M->VR η l v->Sim P M H η w (Instr.box e v) r:=by
 unfold tbox at hx
 split at hx
 ·rename_i cs hc
  refine⟨(.ptr H.next 0,H.alloc (.cells cs)),hx,Logged.alloc _ _,fun M η w v h hM hv=>?_⟩
  obtain⟨vs,h1,h2⟩:=hv.cells h.ok hc
  refine q25 (e:=e) h h2 hM ?_
  simp[Instr.box,newVar,newRow,h1]
 ·cases hx
inductive F2 {α β:Type} (R:α->β->Prop):List α->List β->Prop
 | nil:F2 R [] []
 | cons {a:α} {b:β} {xs:List α} {bs:List β}:R a b->F2 R xs bs->F2 R (a::xs) (b::bs)
def q29 (place:Nat->Option (Nat×Nat)) (cells:List LV):List (Nat×LV)->Option (List LV)
 | []=>some cells
 | (i,v)::rest=>(place i).bind fun p=>v.cells.bind fun cs=>bif Nat.beq cs.length p.2&&Nat.ble (p.1+cs.length) cells.length then q29 place (q1c cells p.1 cs) rest else none
theorem q2a (off:Nat):∀ (vs:List Value) (k:Nat) (arr:Array Value),off+k+vs.length<=arr.size ->
 ((vs.zipIdx k).foldl (fun cs (x:Value×Nat)=>cs.setIfInBounds (off+x.2) x.1) arr).toList=arr.toList.take (off+k)++(vs++arr.toList.drop (off+k+vs.length))
 | [],k,arr,h=>by simp
 | v::vs, k, arr, h => by
  rw[List.zipIdx_cons,List.foldl_cons,q2a off vs (k+1) _ (by simp at h ⊢;omega)]
  simp only[Array.toList_setIfInBounds]
  simp only[List.length_cons]at h
  have hlt:off+k<arr.toList.length:=by simp;omega
  apply List.ext_getElem?
  intro j
  simp only[List.getElem?_append,List.length_take,List.length_set,List.getElem?_take,List.getElem?_set,List.getElem?_drop,List.length_cons,Array.length_toList,List.getElem?_cons]
  have e1:min (off+(k+1)) arr.size=off+(k+1):=by omega
  have e2:min (off+k) arr.size=off+k:=by omega
  rw[e1,e2]
  (repeat' split)<;>first | rfl | (exfalso;omega) | (congr 1;omega)
theorem q2b {cells:List LV} {arr:List Value} (h:VRs η cells arr) {o:Nat} {cs:List LV} {vs:List Value} (hv:VRs η cs vs):VRs η (q1c cells o cs) (arr.take o++(vs++arr.drop (o+vs.length))):=by
 unfold q1c;rw[← hv.1];exact (h.take o).append (hv.append (h.drop _))
theorem q2c (ho:η.ok) (place:Nat->Option (Nat×Nat)):∀ (ps:List (Nat×LV)) (qs:List (Nat×Value)) (cells:List LV) (arr:Array Value) (out:List LV),
 F2 (fun (p:Nat×LV) (q:Nat×Value)=>p.1=q.1/\VR η p.2 q.2) ps qs->VRs η cells arr.toList->q29 place cells ps=some out->∃ arr',Instr.fill place arr qs=some arr'/\VRs η out arr'.toList
 | [], _, cells, arr, out, hf, hc, hx => by
  cases hf;simp only[q29,Option.some.injEq]at hx;subst hx;exact⟨arr,rfl,hc⟩
 | (i, l)::ps, _, cells, arr, out, hf, hc, hx => by
  cases hf with
  | cons h1 h2 =>
   rename_i q qs
   obtain⟨i',v⟩:=q
   obtain⟨rfl,hv⟩:=h1
   simp only[q29,Option.bind_eq_some_iff]at hx
   obtain⟨p,hp,cs,hcs,hx⟩:=hx
   obtain⟨vs,e1,e2⟩:=hv.cells ho hcs
   cases hcond:(Nat.beq cs.length p.2&&Nat.ble (p.1+cs.length) cells.length) with
   | false=>rw[hcond]at hx;cases hx
   | true =>
    rw[hcond,cond_true]at hx
    simp only[Bool.and_eq_true,Nat.beq_eq,Nat.ble_eq]at hcond
    obtain⟨g1,g2⟩:=hcond
    have hl:=e2.1
    have hlc:=hc.1
    have harr:p.1+0+vs.length<=arr.size:=by simp at hlc;omega
    have hfold:=q2a p.1 vs 0 arr harr
    rw[Nat.add_zero]at hfold
    obtain⟨arr',k1,k2⟩:=q2c ho place ps qs _ ((vs.zipIdx 0).foldl (fun cs (x:Value×Nat)=>cs.setIfInBounds (p.1+x.2) x.1) arr) out h2 (by rw[hfold];exact q2b hc e2) hx
    refine⟨arr',?_,k2⟩
    simp only[Instr.fill,hp,e1]
    rw[if_neg (by simp;simp at hlc;omega)]
    simpa using k1
def q2d (T:Tys):List (Nat×TypeId)->Option (List (Nat×Nat))
 | []=>some []
 | f::fs=>match T.find f.2 with | some i=>(q2d T fs).map ((f.1,i.size) :: ·) | none=>none
theorem q2e (hT:TysOK P T):∀ (fields:List Field) {ps:List (Nat×Nat)},q2d T (fields.map fun f=>(f.offset,f.type))=some ps->fields.mapM (fun f=>(P.info? f.type).map fun i=>(f.offset,i.size))=some ps
 | [],ps,h=>by simp[q2d]at h;subst h;rfl
 | f::fs, ps, h => by
  rw[List.map_cons,q2d]at h
  split at h
  ·rename_i i hi
   rw[Option.map_eq_some_iff]at h
   obtain⟨qs,h1,rfl⟩:=h
   obtain⟨j,z,hj,hs,_⟩:=(hT _ i hi).info
   simp[List.mapM_cons,hj,hs,q2e hT fs h1]
  ·cases h
def q2f (T:Tys) (t:TypeId) (parts:List (Nat×LV)):Option (List LV) :=
 match T.find t with
 | some i => match i.kind with
  | .struct fs=>(q2d T fs).bind fun places=>q29 (places.toArray[·]?) i.zero parts
  | .array _ e=>match T.find e with | some j=>q29 (fun n=>some (n*j.size,j.size)) i.zero parts | none=>none
  | _=>none
 | none=>none
theorem q2g (hT:TysOK P T) {t:TypeId} {ps:List (Nat×LV)} {out:List LV} (hx:q2f T t ps=some out) {qs:Array (Nat×Value)} (h:HR M η H w) (hf:F2 (fun (p:Nat×LV) (q:Nat×Value)=>p.1=q.1/\VR η p.2 q.2) ps qs.toList) :
 Sim P M H η w (Instr.build t qs) (.agg out,H):=by
 have main:∃ arr,P.built t qs.toList=some arr/\VRs η out arr.toList:=by
  unfold q2f at hx
  split at hx
  ·rename_i i hi
   have ht:=hT t i hi
   obtain⟨j,z,hj,hs,hz,vs,hvs,hv⟩:=ht.info
   have hu:=ht.und
   have hz0:VRs η i.zero z.cells.toList:=by rw[hvs];exact hv η
   split at hx
   ·rename_i fs hk
    rw[hk]at hu
    obtain⟨_,fields,h2,h3⟩:=hu
    rw[Option.bind_eq_some_iff]at hx
    obtain⟨places,hp,hx⟩:=hx
    rw[← h3]at hp
    have hm:=q2e hT fields.toList hp
    unfold Program.built
    simp only[hj,h2,hz,hm]
    exact q2c h.ok _ ps qs.toList i.zero z.cells out hf hz0 hx
   ·rename_i n e hk
    rw[hk]at hu
    split at hx
    ·rename_i je hje
     obtain⟨j',z',hj',hs',hz',_⟩:=(hT e je hje).info
     unfold Program.built
     simp only[hj,hu.2,hz,hj']
     rw[← hs']at hx
     exact q2c h.ok _ ps qs.toList i.zero z.cells out hf hz0 hx
    ·cases hx
   ·cases hx
  ·cases hx
 obtain⟨arr,h1,h2⟩:=main
 refine q22 h (run_build w t qs arr h1) ?_
 have:=VR.agg h2.1 h2.2
 simpa using this
def join:(τ:Row)->List LV->Option (den τ)
 | .nil,[]=>some ()
 | .int k r,.int k' n::cs=>bif decide (k=k') then (match join r cs with | some x=>some (n,x) | none=>none) else none
 | .bool r,.bool v::cs=>match join r cs with | some x=>some (v,x) | none=>none
 | .sl _ r,.nils::cs=>match join r cs with | some x=>some ([],x) | none=>none
 | .sl e r,.fz e' ys::cs=>if h:e'=e then (match join r cs with | some x=>some (h▸ys,x) | none=>none) else none
 | _,_=>none
theorem q2h:∀ (τ:Row) {cs:List LV} {vs:List Value} {x:den τ},join τ cs=some x->VRs η cs vs->VRs η (split τ x) vs
 | .nil,[],vs,x,h,hv=>hv
 | .nil,_::_,_,_,h,_=>by cases h
 | .int k r,[],_,_,h,_=>by cases h
 | .bool r,[],_,_,h,_=>by cases h
 | .sl e r,[],_,_,h,_=>by cases h
 | .int k r, c::cs, vs, x, h, hv => by
  obtain⟨v,vs,rfl,h1,h2⟩:=hv.uncons
  cases c<;>simp only[join]at h<;>first | cases h | skip
  rw[Bool.cond_eq_ite]at h
  split at h
  ·rename_i hk
   rw[decide_eq_true_eq]at hk;subst hk
   split at h
   ·rename_i y hy
    injection h with h;subst h
    exact VRs.cons h1 (q2h r hy h2)
   ·cases h
  ·cases h
 | .bool r, c::cs, vs, x, h, hv => by
  obtain⟨v,vs,rfl,h1,h2⟩:=hv.uncons
  cases c<;>simp only[join]at h<;>first | cases h | skip
  split at h
  ·rename_i y hy
   injection h with h;subst h
   exact VRs.cons h1 (q2h r hy h2)
  ·cases h
 | .sl e r, c::cs, vs, x, h, hv => by
  obtain⟨v,vs,rfl,h1,h2⟩:=hv.uncons
  cases c<;>simp only[join]at h<;>first | cases h | skip
  ·split at h
   ·rename_i y hy
    injection h with h;subst h
    cases h1
    exact VRs.cons (.fz ⟨none,0,rfl,Nat.le_refl _,fun _=>rfl,fun i x hx=>by simp at hx⟩) (q2h r hy h2)
   ·cases h
  ·split at h
   ·rename_i he
    subst he
    split at h
    ·rename_i y hy
     injection h with h;subst h
     exact VRs.cons h1 (q2h r hy h2)
    ·cases h
   ·cases h
def tfrz:List LV->LH->(List LV->LH->Option β)->Option β
 | [],H,k=>k [] H
 | .rs n::cs,H,k=>match H.get n with | some (.rows τ xs)=>tfrz cs (H.put n none) fun ds H=>k (.fz τ xs::ds) H | _=>none
 | c::cs,H,k=>tfrz cs H fun ds H=>k (c::ds) H
theorem q2i:∀ (cs:List LV) {H:LH} {k:List LV->LH->Option β} {b:β},tfrz cs H k=some b->∃ ds H',k ds H'=some b/\Logged H H'/\H'.next=H.next/\ds.length=cs.length/\(ds.all LV.cellB=cs.all LV.cellB)/\∀ M η w vs,HR M η H w->VRs η cs vs->∃ η',Adv M H η w H' η' w/\VRs η' ds vs
 | [],H,k,b,hx=>⟨[],H,hx,Logged.refl _,rfl,rfl,rfl,fun M η w vs h hv=>⟨η,Adv.refl h,hv⟩⟩
 | c::cs, H, k, b, hx => by
  by_cases hc:∃ n,c=.rs n
  ·obtain⟨n,rfl⟩:=hc
   rw[tfrz]at hx
   split at hx
   ·rename_i τ xs hg
    obtain⟨ds,H',h1,h2,h3,h4,h5,h6⟩:=q2i cs hx
    refine⟨.fz τ xs::ds,H',h1,(Logged.put H hg none).trans h2,h3,by simp[h4],by simp only[List.all_cons,h5,LV.cellB],fun M η w vs h hv=>?_⟩
    obtain⟨v,vs,rfl,a1,a2⟩:=hv.uncons
    cases a1 with
    | rs hh =>
     obtain⟨η1,e1,e2⟩:=q1b h hg hh
     obtain⟨η2,e3,e4⟩:=h6 M η1 w vs e1.hr (a2.mono e1.le)
     exact⟨η2,e1.trans e3,VRs.cons (e2.mono e3.le) e4⟩
   ·cases hx
  ·have hx':(tfrz cs H fun ds H=>k (c::ds) H)=some b:=by
    cases c<;>first | exact hx | exact absurd ⟨_,rfl⟩ hc
   obtain⟨ds,H',h1,h2,h3,h4,h5,h6⟩:=q2i cs hx'
   refine⟨c::ds,H',h1,h2,h3,by simp[h4],by simp only[List.all_cons,h5],fun M η w vs h hv=>?_⟩
   obtain⟨v,vs,rfl,a1,a2⟩:=hv.uncons
   obtain⟨η2,e3,e4⟩:=h6 M η w vs h a2
   exact⟨η2,e3,VRs.cons (a1.mono e3.le) e4⟩
end
theorem q2j (τ:Row):∀ (xs:List (den τ)) (j:Nat) (x:den τ),j<xs.length->flat τ (xs.set j x)=q1c (flat τ xs) (j*τ.size) (split τ x)
 | [],j,x,h=>by simp at h
 | y::xs, 0, x, h => by
  rw[List.set_cons_zero,flat,flat,Nat.zero_mul]
  unfold q1c
  have h1:=q9 τ x
  have h2:=q9 τ y
  rw[List.take_zero,List.nil_append,Nat.zero_add,h1,List.drop_append_of_le_length (by omega),← h2,List.drop_length,List.nil_append]
 | y::xs, j + 1, x, h => by
  rw[List.set_cons_succ,flat,flat,q2j τ xs j x (by simpa using h)]
  unfold q1c
  have h2:=q9 τ y
  rw[Nat.succ_mul,Nat.add_comm (j*τ.size) τ.size,← h2,List.take_length_add_append,Nat.add_assoc,List.drop_length_add_append,List.append_assoc]
section
variable {P:Program} {T:Tys} {M:Nat} {H:LH} {η:Emb} {w:World} {β:Type} {b:β}
def q2k (τ:Row):List (Nat×LV)->LH->(List (Nat×den τ)->LH->Option β)->Option β
 | [],H,k=>k [] H
 | p::ps, H, k => match p.2.cells with
  | some cs => tfrz cs H fun ds H => match join τ ds with
   | some x=>q2k τ ps H fun l H=>k ((p.1,x)::l) H
   | none=>none
  | none=>none
theorem F2.mono {α γ:Type} {R S:α->γ->Prop} (h:∀ a c,R a c->S a c) {xs:List α} {cs:List γ} (k:F2 R xs cs):F2 S xs cs:=by
 induction k with
 | nil=>exact .nil
 | cons h1 _ ih=>exact .cons (h _ _ h1) ih
abbrev q2l (η:Emb) (τ:Row) (p:Nat×den τ) (q:Nat×Value):Prop:=p.1=q.1/\∃ vs,q.2.cells=vs.toArray/\VRs η (split τ p.2) vs
theorem q2m (τ:Row):∀ (ps:List (Nat×LV)) {H:LH} {k:List (Nat×den τ)->LH->Option β} {b:β},q2k τ ps H k=some b->∃ l H',k l H'=some b/\Logged H H'/\H'.next=H.next/\∀ M η w qs,HR M η H w->F2 (fun (p:Nat×LV) (q:Nat×Value)=>p.1=q.1/\VR η p.2 q.2) ps qs ->
 ∃ η',Adv M H η w H' η' w/\F2 (q2l η' τ) l qs
 | [],H,k,b,hx=>⟨[],H,hx,Logged.refl _,rfl,fun M η w qs h hf=>by cases hf;exact⟨η,Adv.refl h,.nil⟩⟩
 | p::ps, H, k, b, hx => by
  rw[q2k]at hx
  split at hx
  ·rename_i cs hcs
   obtain⟨ds,H1,h1,h2,h3,_,_,h6⟩:=q2i cs hx
   split at h1
   ·rename_i x hj
    obtain⟨l,H2,g1,g2,g3,g4⟩:=q2m τ ps h1
    refine⟨_,H2,g1,h2.trans g2,g3.trans h3,fun M η w qs h hf=>?_⟩
    cases hf with
    | cons a1 a2 =>
     rename_i q qs
     obtain⟨vs,c1,c2⟩:=a1.2.cells h.ok hcs
     obtain⟨η1,e1,e2⟩:=h6 M η w vs h c2
     obtain⟨η2,e3,e4⟩:=g4 M η1 w qs e1.hr (a2.mono fun _ _ h=>⟨h.1,h.2.mono e1.le⟩)
     exact⟨η2,e1.trans e3,.cons ⟨a1.1,vs,c1,(q2h τ hj e2).mono e3.le⟩ e4⟩
   ·cases h1
  ·cases hx
def setR {α:Type} (xs:List α):List (Nat×α)->List α
 | []=>xs
 | p::ps=>setR (xs.set p.1 p.2) ps
theorem q2n {α:Type}:∀ (ps:List (Nat×α)) (xs:List α),(setR xs ps).length=xs.length
 | [],_=>rfl
 | p::ps,xs=>by rw[setR,q2n ps];simp
theorem q2o (τ:Row):∀ (ps:List (Nat×den τ)) (qs:List (Nat×Value)) (xs:List (den τ)) (arr:Array Value),F2 (q2l η τ) ps qs->VRs η (flat τ xs) arr.toList->(∀ p∈ps,p.1<xs.length) ->
 ∃ arr',Instr.fill (fun i=>some (i*τ.size,τ.size)) arr qs=some arr'/\VRs η (flat τ (setR xs ps)) arr'.toList
 | [],_,xs,arr,hf,hc,_=>by cases hf;exact⟨arr,rfl,hc⟩
 | (i, x)::ps, _, xs, arr, hf, hc, hl => by
  cases hf with
  | cons h1 h2 =>
   rename_i q qs
   obtain⟨i',v⟩:=q
   obtain⟨rfl,vs,e1,e2⟩:=h1
   have hi:i<xs.length:=hl _ (List.mem_cons_self ..)
   have hs:=e2.1
   have hxl:=q9 τ x
   simp only at hs e1 e2
   have hcl:=hc.1
   rw[qc]at hcl
   have hmul:i*τ.size+τ.size<=xs.length*τ.size:=by rw[← Nat.succ_mul];exact Nat.mul_le_mul_right _ hi
   have harr:i*τ.size+0+vs.length<=arr.size:=by simp at hcl;omega
   have hfold:=q2a (i*τ.size) vs 0 arr harr
   rw[Nat.add_zero]at hfold
   obtain⟨arr',k1,k2⟩:=q2o τ ps qs (xs.set i x) ((vs.zipIdx 0).foldl (fun cs (x:Value×Nat)=>cs.setIfInBounds (i*τ.size+x.2) x.1) arr) h2 (by rw[hfold,q2j τ xs i x hi];exact q2b hc e2) (fun p hp=>by simpa using hl p (List.mem_cons_of_mem _ hp))
   refine⟨arr',?_,k2⟩
   simp only[Instr.fill,e1]
   rw[if_neg (by simp;simp at hcl;omega)]
   simpa using k1
def q2p (b:Bool) (ps:List (Nat×LV)):Option (Option Nat) :=
 bif b then (match ps with | [(0,.rs r)]=>some (some r) | [(0,.nils)]=>some none | _=>none) else none
def tlit (τ:Row) (len:Nat) (q:Option Nat) (H:LH) (k:LV->LH->Option β):Option β :=
 match τ with
 | .sl e .nil=>bif Nat.beq len 1 then k (.rs H.next) (H.alloc (.rowl e [] q)) else none
 | _=>none
def q2q (T:Tys) (t:TypeId) (len:Nat) (ps:List (Nat×LV)) (H:LH) (k:LV->LH->Option β):Option β :=
  match T.find t with
  | some i => match i.kind with
    | .slice _ τ=>match q2p i.lit ps with
     | some q=>tlit τ len q H k
     | none=>q2k τ ps H fun l H=>bif (l.all fun p=>Nat.blt p.1 len)&&Nat.ble len 100000&&Nat.ble τ.size 100 then k (.rs H.next) (H.alloc (.rows τ (setR (List.replicate len (zero τ)) l))) else none
    | _=>none
  | none=>none
theorem q2r (τ:Row) (n:Nat) (h0:0<τ.size):VRs η (flat τ (List.replicate n (zero τ))) (madeCells (q1o τ).toArray (n*τ.size)).toList:=by
 have hz:=q1p η τ
 have hl:(q1o τ).length=τ.size:=by rw[← hz.1,q9]
 refine⟨by rw[qc];simp[madeCells],fun i c v hc hv=>?_⟩
 have hi:i<n*τ.size:=by have:=(List.getElem?_eq_some_iff.1 hv).1;simpa [madeCells] using this
 have e0:i=i/τ.size*τ.size+i%τ.size:=by rw[Nat.mul_comm,Nat.div_add_mod]
 have hlt:i%τ.size<τ.size:=Nat.mod_lt _ h0
 have hdiv:i/τ.size<n:=by rw[Nat.div_lt_iff_lt_mul h0];exact hi
 rw[e0,qe τ _ (i/τ.size) (zero τ) (i%τ.size) (by rw[List.getElem?_replicate,if_pos hdiv]) hlt]at hc
 simp only[madeCells,Array.toList_map,Array.toList_range,List.getElem?_map,List.getElem?_range hi,Option.map_some,Option.some.injEq]at hv
 refine hz.2 (i%τ.size) c v hc ?_
 rw[← hv]
 have hs:(q1o τ).toArray.size=τ.size:=by simp[hl]
 rw[hs,getElem!_pos (q1o τ).toArray (i%τ.size) (by rw[hs];exact hlt)]
 simp[hl,hlt]
theorem q2s (hT:TysOK P T) {t:TypeId} {len:Nat} {ps:List (Nat×LV)} {k:LV->LH->Option β} (hx:q2q T t len ps H k=some b):∃ r,k r.1 r.2=some b/\Logged H r.2 /\
 ∀ M η w qs,HR M η H w->r.2.next<=M->F2 (fun (p:Nat×LV) (q:Nat×Value)=>p.1=q.1/\VR η p.2 q.2) ps qs.toList->Sim P M H η w (Instr.buildSlice t len qs) r:=by
 unfold q2q at hx
 split at hx
 ·rename_i i hi
  have hu:=(hT t i hi).und
  split at hx
  ·rename_i e τ hk
   rw[hk]at hu
   obtain⟨hu,_,hpos,j,z,hj,hz,hzv,hjs,hjb⟩:=hu
   split at hx
   ·rename_i q hq
    obtain⟨c,hps,hcq⟩:∃ c,ps=[(0,c)]/\c=qm q:=by
     unfold q2p at hq
     cases hb:i.lit with
     | false=>rw[hb]at hq;cases hq
     | true =>
      rw[hb,cond_true]at hq
      split at hq
      ·injection hq with hq;subst hq;exact⟨_,rfl,rfl⟩
      ·injection hq with hq;subst hq;exact⟨_,rfl,rfl⟩
      ·cases hq
    subst hcq hps
    unfold tlit at hx
    split at hx
    ·rename_i e'
     cases hlb:Nat.beq len 1 with
     | false=>rw[hlb]at hx;cases hx
     | true =>
      rw[hlb,cond_true]at hx
      rw[Nat.beq_eq]at hlb;subst hlb
      refine⟨(.rs H.next,H.alloc (.rowl e' [] q)),hx,Logged.alloc _ _,fun M η w qs h hM hf=>?_⟩
      have hsz:Row.size (.sl e' .nil)=1:=rfl
      have hz0:=q2r (η:=η) (.sl e' .nil) 1 hpos
      obtain⟨arr,k1,k2⟩:=q2c (η:=η) h.ok (fun i=>some (i*1,1)) [(0,qm q)] qs.toList (flat (.sl e' .nil) (List.replicate 1 (zero (.sl e' .nil)))) (madeCells (q1o (.sl e' .nil)).toArray (1*1)) [qm q] hf hz0 (by cases q<;>rfl)
      have hrun:(Instr.buildSlice t 1 qs).run P w=.ok (.slice (some ⟨w.heap.size,0,none⟩) 1 1) (w.alloc (.cells arr e)):=by
       unfold madeCells at k1
       have hj1:j.size=1:=hjs
       simp at k1
       simp[Instr.buildSlice,run_underlying hu,sizeOf,typeInfo,zeroValue,hj,hz,hj1,hzv,k1,newRow]
      have har:arr.size=1:=by have:=k2.1;simpa using this.symm
      have hlv:Lv (η.put H.next (some ⟨w.heap.size,0,arr.size⟩) (some (.slice (some ⟨w.heap.size,0,none⟩) 1 1))) (w.alloc (.cells arr e)) H.next (.rowl e' [] q) :=
       .rowl (Emb.put_loc ..) (q11 (w':=w.alloc (.cells arr e)) rfl (by rw[har];exact Nat.le_refl _) (Nat.le_refl _) fun j c hc=>by obtain⟨v,a1,a2⟩:=k2.get hc;exact⟨v,by simpa using a1,a2.mono (h.le_put hM _ _)⟩) (Emb.put_hdr ..) (Nat.le_refl _) (by rw[har])
      exact⟨_,_,_,hrun,.rs (Emb.put_hdr ..),q10 (w':=w.alloc (.cells arr e)) h hM (by show w.heap.size<=(w.heap.push _).size;simp) (q12 rfl) rfl rfl rfl (Nat.le_refl _) hlv (fun L0 h0=>by injection h0 with h0;subst h0;exact Nat.le_refl _) (fun v0 h0=>by injection h0 with h0;exact⟨_,_,_,h0.symm⟩)⟩
    ·cases hx
   obtain⟨l,H1,g1,g2,g3,g4⟩:=q2m τ ps hx
   cases hc:((l.all fun p=>Nat.blt p.1 len)&&Nat.ble len 100000&&Nat.ble τ.size 100) with
   | false=>rw[hc]at g1;cases g1
   | true =>
    rw[hc,cond_true]at g1
    simp only[Bool.and_eq_true,List.all_eq_true,Nat.blt_eq,Nat.ble_eq]at hc
    obtain⟨⟨c1,c2⟩,c3⟩:=hc
    refine⟨(.rs H1.next,H1.alloc (.rows τ (setR (List.replicate len (zero τ)) l))),g1,g2.trans (Logged.alloc _ _),fun M η w qs h hM hf=>?_⟩
    obtain⟨η1,e1,e2⟩:=g4 M η w qs.toList h hf
    have hlen:(setR (List.replicate len (zero τ)) l).length=len:=by rw[q2n];simp
    obtain⟨arr,k1,k2⟩:=q2o (η:=η1) τ l qs.toList (List.replicate len (zero τ)) (madeCells (q1o τ).toArray (len*τ.size)) e2 (q2r τ len hpos) (fun p hp=>by simpa using c1 p hp)
    have hle:¬ (16777216<len*j.size):=by
     rw[hjs]
     have:len*τ.size<=100000*100:=Nat.mul_le_mul c2 c3
     omega
    have hrun:(Instr.buildSlice t len qs).run P w=.ok (.slice (some ⟨w.heap.size,0,none⟩) len len) (w.alloc (.cells arr e)):=by
     unfold madeCells at k1
     rw[← hjs]at k1
     by_cases hn:len*j.size=0
     ·simp[hn,Array.range_zero']at k1
      simp[Instr.buildSlice,run_underlying hu,sizeOf,typeInfo,hj,hn,Array.range_zero',k1,newRow]
     ·simp at k1
      simp[Instr.buildSlice,run_underlying hu,sizeOf,typeInfo,zeroValue,hj,hz,hle,hn,hzv,k1,newRow]
    have har:arr.size=len*τ.size:=by have:=k2.1;rw[qc,hlen]at this;simpa using this.symm
    have hadv:=q14 (w':=w.alloc (.cells arr e)) (e:=e) (τ:=τ) (xs:=setR (List.replicate len (zero τ)) l) (c:=len) e1.hr hM rfl rfl rfl rfl (Nat.le_refl _) (by omega) (by omega) (fun j c hc=>by obtain⟨v,a1,a2⟩:=k2.get hc;exact⟨v,by simpa using a1,a2⟩)
    refine⟨_,_,_,hrun,?_,e1.trans hadv⟩
    refine .rs ?_
    rw[Emb.put_hdr,hlen]
  ·cases hx
 ·cases hx
def cut (cs:List LV) (o n:Nat):Option (List LV):=bif Nat.ble (o+n) cs.length then some ((cs.drop o).take n) else none
theorem q2t {cs ds:List LV} {o n:Nat} (h:cut cs o n=some ds):o+n<=cs.length/\ds=(cs.drop o).take n/\ds.length=n:=by
 unfold cut at h
 cases hb:Nat.ble (o+n) cs.length with
 | false=>rw[hb]at h;cases h
 | true =>
  rw[hb,cond_true]at h;injection h with h
  rw[Nat.ble_eq]at hb
  refine⟨hb,h.symm,?_⟩
  rw[← h];simp;omega
theorem q2u {cs ds:List LV} {o n:Nat} (h:cut cs o n=some ds) {j:Nat} (hj:j<n):ds[j]?=cs[o+j]?:=by
 obtain⟨h1,rfl,h3⟩:=q2t h
 rw[List.getElem?_take,if_pos hj,List.getElem?_drop]
def Lie (η:Emb) (w:World) (bl off:Nat) (cs:List LV):Prop:=∀ (j:Nat) c,cs[j]?=some c->∃ v,w.cell? ⟨bl,off+j,none⟩=some v/\VR η c v
theorem Lie.cut {bl off:Nat} {cs ds:List LV} (ha:Lie η w bl off cs) {o n:Nat} (h:cut cs o n=some ds):∃ vs,VRs η ds vs/\∀ (j:Nat) v,vs[j]?=some v->w.cell? ⟨bl,off+o+j,none⟩=some v:=by
 obtain⟨h1,h2,h3⟩:=q2t h
 have hex:∀ j,j<n->∃ v c,cs[o+j]?=some c/\w.cell? ⟨bl,off+o+j,none⟩=some v/\VR η c v:=fun j hj=>by
  obtain⟨c,hc⟩:∃ c,cs[o+j]?=some c:=⟨cs[o+j]'(by omega),List.getElem?_eq_getElem (by omega)⟩
  obtain⟨v,hv,hr⟩:=ha _ _ hc
  exact⟨v,c,hc,by rw[Nat.add_assoc];exact hv,hr⟩
 refine⟨(List.range n).map fun j=>(w.cell? ⟨bl,off+o+j,none⟩).getD undef,⟨by simp[h3],fun j c v hc hv=>?_⟩,fun j v hv=>?_⟩
 ·have hj:j<n:=by have:=(List.getElem?_eq_some_iff.1 hc).1;omega
  rw[q2u h hj]at hc
  obtain⟨v',c',e1,e2,e3⟩:=hex j hj
  rw[hc]at e1;injection e1 with e1;subst e1
  simp only[List.getElem?_map,List.getElem?_range hj,Option.map_some,Option.some.injEq]at hv
  rw[e2]at hv;subst hv;exact e3
 ·have hj:j<n:=by have:=(List.getElem?_eq_some_iff.1 hv).1;simpa using this
  simp only[List.getElem?_map,List.getElem?_range hj,Option.map_some,Option.some.injEq]at hv
  obtain⟨v',c',e1,e2,e3⟩:=hex j hj
  rw[e2]at hv ⊢;simp at hv;rw[hv]
def q2v (τ:Row) (xs:List (den τ)) (i:Nat):den τ:=(xs[i]?).getD (zero τ)
theorem q2w {τ:Row} {xs:List (den τ)} {i:Nat} (h:i<xs.length):xs[i]?=some (q2v τ xs i):=by
 unfold q2v;rw[List.getElem?_eq_getElem h];rfl
theorem HR.rows (h:HR M η H w) {n:Nat} {τ:Row} {xs:List (den τ)} (hg:H.get n=some (.rows τ xs)) {L:Loc} (hL:η.loc n=some L):At η w (flat τ xs) L/\∃ c,η.hdr n=some (.slice (some ⟨L.block,L.base,none⟩) xs.length c)/\xs.length<=c/\L.base+c*τ.size=L.lim:=by
 cases h.live _ _ hg with
 | rows hL' ha hh hc hr=>rw[hL]at hL';injection hL' with hL';subst hL';exact⟨ha,_,hh,hc,hr⟩
 | none hL'=>rw[hL]at hL';cases hL'
theorem q2x {L:Loc} {τ:Row} {xs:List (den τ)} (ha:At η w (flat τ xs) L) {i:Nat} (hi:i<xs.length):Lie η w L.block (L.base+i*τ.size) (split τ (q2v τ xs i)):=fun j c hc=>by
 have hj:j<τ.size:=by rw[← q9 τ (q2v τ xs i)];exact (List.getElem?_eq_some_iff.1 hc).1
 obtain⟨v,h1,h2⟩:=ha.cell (i*τ.size+j) c (by rw[qe τ xs i _ j (q2w hi) hj];exact hc)
 exact⟨v,by rw[Nat.add_assoc];exact h1,h2⟩
theorem q2y (h:HR M η H w) {bl o:Nat} {v:Value} (hf:FC η.fz bl o v):w.cell? ⟨bl,o,none⟩=some v:=by
 obtain⟨ob,h1,h2⟩:=hf
 rw[qg,h.fz bl ob h1];exact h2
theorem q2z (h:HR M η H w) {bl:Nat}:∀ (τ:Row) (x:den τ) (o:Nat),RowF η.fz τ x bl o->Lie η w bl o (split τ x)
 | .nil,_,_,_=>fun j c hc=>by simp[split]at hc
 | .int k r, x, o, hr => fun j c hc => by
  cases j with
  | zero=>simp only[split,List.getElem?_cons_zero,Option.some.injEq]at hc;subst hc;exact⟨_,q2y h hr.1,.int _ _⟩
  | succ j=>have:=q2z h r x.2 (o+1) hr.2 j c (by simpa [split] using hc);rwa[show o+1+j=o+(j+1) by omega]at this
 | .bool r, x, o, hr => fun j c hc => by
  cases j with
  | zero=>simp only[split,List.getElem?_cons_zero,Option.some.injEq]at hc;subst hc;exact⟨_,q2y h hr.1,.bool _⟩
  | succ j=>have:=q2z h r x.2 (o+1) hr.2 j c (by simpa [split] using hc);rwa[show o+1+j=o+(j+1) by omega]at this
 | .sl e r, x, o, hr => fun j c hc => by
  cases j with
  | zero =>
   simp only[split,List.getElem?_cons_zero,Option.some.injEq]at hc;subst hc
   obtain⟨v,h1,h2⟩:=hr.1
   exact⟨v,q2y h h1,.fz h2⟩
  | succ j=>have:=q2z h r x.2 (o+1) hr.2 j c (by simpa [split] using hc);rwa[show o+1+j=o+(j+1) by omega]at this
def tval (g:Bool) (ds:Option (List LV)) (H:LH) (k:LV->LH->Option β):Option β :=
 match g,ds with
 | true,some ds=>k (.agg ds) H
 | false,some [c]=>k c H
 | _,_=>none
theorem q30 {g:Bool} {ds:Option (List LV)} {k:LV->LH->Option β} (hx:tval g ds H k=some b):∃ l cs,ds=some cs/\k l H=some b/\((g=true/\l=.agg cs)∨(g=false/\cs=[l])):=by
 unfold tval at hx
 split at hx
 ·exact⟨_,_,rfl,hx,.inl ⟨rfl,rfl⟩⟩
 ·exact⟨_,_,rfl,hx,.inr ⟨rfl,rfl⟩⟩
 ·cases hx
theorem q31 (hT:TysOK P T) {t:TypeId} {i:TI} (hi:T.find t=some i) {l:LV} {cs ds:List LV} {bl off o:Nat} (hl:Lie η w bl off cs) (hc:cut cs o i.size=some ds) (hg:(i.agg=true/\l=.agg ds)∨(i.agg=false/\ds=[l])) :
 ∃ v,(loadVar t ⟨bl,off+o,none⟩).run P w=.ok v w/\VR η l v:=by
 obtain⟨j,z,hj,hs,_⟩:=(hT t i hi).info
 obtain⟨vs,h1,h2⟩:=hl.cut hc
 have hlen:=(q2t hc).2.2
 have hvl:=h1.1
 have hag:=q23 (P:=P) hT hi w
 have hrl:(loadCells ⟨bl,off+o,none⟩ i.size).run P w=.ok vs.toArray w:=by
  have:=run_loadCells_list (P:=P) w ⟨bl,off+o,none⟩ vs (fun j v hj=>by rw[Addr.add_lit];exact h2 j v hj)
  rwa[show vs.length=i.size by omega]at this
 rcases hg with⟨hg,rfl⟩ | ⟨hg,rfl⟩
 ·rw[hg]at hag
  exact⟨.agg vs.toArray,by simp[loadVar,hag,sizeOf,typeInfo,hj,hs,hrl],.agg h1.1 h1.2⟩
 ·rw[hg]at hag
  obtain⟨v,vs',rfl,hr,_⟩:=h1.uncons
  have h3:=h2 0 v rfl
  rw[Nat.add_zero]at h3
  exact⟨v,by simp[loadVar,hag,h3],hr⟩
def q32 (T:Tys) (t:TypeId) (l:LV) (H:LH) (k:LV->LH->Option β):Option β :=
 match T.find t with
 | some i => match l with
  | .ptr n o => match H.get n with
   | some (.cells cs)=>tval i.agg (cut cs o i.size) H k
   | _=>none
  | .rp n r sz j => match H.get n with
   | some (.rows τ xs)=>bif Nat.beq sz τ.size then tval i.agg (cut (split τ (q2v τ xs r)) j i.size) H k else none
   | some (.rowl _ xs q)=>bif Nat.beq sz 1&&Nat.beq j 0&&Nat.beq i.size 1 && !i.agg then (bif Nat.beq r xs.length then k (qm q) H else none) else none
   | _=>none
  | .fp τ x j=>tval i.agg (cut (split τ x) j i.size) H k
  | _=>none
 | none=>none
theorem q33 (hT:TysOK P T) {t:TypeId} {l:LV} {k:LV->LH->Option β} (hx:q32 T t l H k=some b):∃ u,k u H=some b /\
 ∀ M η w v,HR M η H w->VR η l v->∃ a v',v=.pointer (some a)/\(loadVar t a).run P w=.ok v' w/\VR η u v':=by
 unfold q32 at hx
 split at hx
 ·rename_i i hi
  split at hx
  ·rename_i n o
   split at hx
   ·rename_i cs hg
    obtain⟨u,ds,h1,h2,h3⟩:=q30 hx
    refine⟨u,h2,fun M η w v h hv=>?_⟩
    cases hv with
    | ptr hL =>
     obtain⟨v',e1,e2⟩:=q31 (P:=P) hT hi (w:=w) (η:=η) (((h.live _ _ hg).at hL).cell) h1 h3
     exact⟨_,v',rfl,e1,e2⟩
   ·cases hx
  ·rename_i n r sz j
   split at hx
   ·rename_i τ xs hg
    cases hc:Nat.beq sz τ.size with
    | false=>rw[hc]at hx;cases hx
    | true =>
     rw[hc,cond_true]at hx
     rw[Nat.beq_eq]at hc;subst hc
     obtain⟨u,ds,h1,h2,h3⟩:=q30 hx
     refine⟨u,h2,fun M η w v h hv=>?_⟩
     cases hv with
     | rp hL hh hi2 =>
      rename_i L
      obtain⟨ha,c,hh',_⟩:=h.rows hg hL
      rw[hh]at hh';injection hh' with hh';injection hh' with _ hn _;subst hn
      obtain⟨v',e1,e2⟩:=q31 (P:=P) hT hi (w:=w) (η:=η) (q2x ha hi2) h1 h3
      exact⟨_,v',rfl,by rw[← Nat.add_assoc];exact e1,e2⟩
   ·rename_i e' xs q hg
    cases hc:(Nat.beq sz 1&&Nat.beq j 0&&Nat.beq i.size 1 && !i.agg) with
    | false=>rw[hc]at hx;cases hx
    | true =>
     rw[hc,cond_true]at hx
     simp only[Bool.and_eq_true,Nat.beq_eq,Bool.not_eq_true']at hc
     obtain⟨⟨⟨rfl,rfl⟩,c3⟩,c4⟩:=hc
     cases hr:Nat.beq r xs.length with
     | false=>rw[hr]at hx;cases hx
     | true =>
      rw[hr,cond_true]at hx
      rw[Nat.beq_eq]at hr
      subst hr
      refine⟨_,hx,fun M η w v h hv=>?_⟩
      cases hv with
      | rp hL hh hi2 =>
       rename_i L
       have ha:=(h.live _ _ hg).at hL
       have hlast:(Ob.rowl e' xs q).list[xs.length]?=some (qm q):=by
        rw[Ob.list,List.getElem?_append_right (by rw[qp];exact Nat.le_refl _),qp,Nat.sub_self];rfl
       have hcut:cut (Ob.rowl e' xs q).list (xs.length*1+0) i.size=some [qm q]:=by
        unfold cut
        have hl:=(List.getElem?_eq_some_iff.1 hlast).1
        rw[Nat.ble_eq_true_of_le (by rw[c3];omega),cond_true,c3,Nat.mul_one,Nat.add_zero,List.drop_eq_getElem_cons hl]
        have:=(List.getElem?_eq_some_iff.1 hlast).2
        rw[this];rfl
       obtain⟨v',e1,e2⟩:=q31 (P:=P) hT hi (w:=w) (η:=η) ha.cell hcut (.inr ⟨c4,rfl⟩)
       exact⟨_,v',rfl,e1,e2⟩
   ·cases hx
  ·rename_i τ x j
   obtain⟨u,ds,h1,h2,h3⟩:=q30 hx
   refine⟨u,h2,fun M η w v h hv=>?_⟩
   cases hv with
   | fp hr =>
    obtain⟨v',e1,e2⟩:=q31 (P:=P) hT hi (w:=w) (η:=η) (q2z h τ x _ hr) h1 h3
    exact⟨_,v',rfl,e1,e2⟩
  ·cases hx
 ·cases hx
theorem q34 (hT:TysOK P T) {t:TypeId} {l:LV} {k:LV->LH->Option β} (hx:q32 T t l H k=some b):∃ r,k r.1 r.2=some b/\r.2=H /\
 ∀ M η w v,HR M η H w->VR η l v->Sim P M H η w (Instr.loadAt t v) r:=by
 obtain⟨u,h1,h2⟩:=q33 hT hx
 refine⟨(u,H),h1,rfl,fun M η w v h hv=>?_⟩
 obtain⟨a,v',rfl,e1,e2⟩:=h2 M η w v h hv
 exact q22 h (v:=v') (by simp[Instr.loadAt,Instr.sureAddr,e1]) e2
theorem q35 (ho:η.ok) {ds:List LV} {vs:List Value} (h:VRs η ds vs) (ha:ds.all LV.cellB=true):∀ v∈vs,v.oneCell'=true:=by
 intro v hv
 obtain⟨j,hj,rfl⟩:=List.getElem_of_mem hv
 have hj':j<ds.length:=by rw[h.1];exact hj
 exact (h.2 j _ _ (List.getElem?_eq_getElem hj') (List.getElem?_eq_getElem hj)).one ho ((List.all_eq_true.1 ha) _ (List.getElem_mem hj'))
theorem q36 {cs:List LV} {L:Loc} (ha:At η w cs L) {o n:Nat} (hf:o+n<=cs.length):(∀ j,j<n->(w.cell? ⟨L.block,L.base+o+j,none⟩).isSome=true)/\(∀ j,j<n->w.frozen? ⟨L.block,L.base+o+j,none⟩=false) :=
 ⟨fun j hj=>(ha.there _ (by omega) (by have:=ha.fits;omega)).1,fun j hj=>(ha.there _ (by omega) (by have:=ha.fits;omega)).2⟩
theorem q37 (hT:TysOK P T) {t:TypeId} {i:TI} (hi:T.find t=some i) (ho:η.ok) {cs:List LV} {L:Loc} (ha:At η w cs L) {o:Nat} {ds:List LV} {vs:List Value} {u:Value} (hu:u.cells=vs.toArray) (hv:VRs η ds vs) (hs:ds.length=i.size) (hf:o+ds.length<=cs.length) (h1:ds.all LV.cellB=true) :
 (Instr.storeAt t (.pointer (some ⟨L.block,L.base+o,none⟩)) u).run P w=.ok () (w.setCells L.block (L.base+o) vs):=by
 obtain⟨j,z,hj,hjs,_⟩:=(hT t i hi).info
 have hl:=hv.1
 have hat:=q36 ha (o:=o) (n:=vs.length) (by omega)
 have hst:=run_storeCells_cells (P:=P) L.block (L.base+o) vs 0 w (by simpa using hat.1) (by simpa using hat.2) (q35 ho hv h1)
 rw[Nat.add_zero]at hst
 have hn:¬ (vs.length≠i.size):=by omega
 simp[Instr.storeAt,Instr.sureAddr,storeVar,sizeOf,typeInfo,hj,hjs,hu,hn,hst]
theorem q38 {L:Loc} {τ:Row} {xs:List (den τ)} (ha:At η w (flat τ xs) L) {r j:Nat} (hr:r<xs.length) {ds:List LV} {vs:List Value} (hf:j+ds.length<=τ.size) (hv:VRs η ds vs) {x':den τ} (hj:join τ (q1c (split τ (q2v τ xs r)) j ds)=some x') :
 At η (w.setCells L.block (L.base+(r*τ.size+j)) vs) (flat τ (xs.set r x')) L:=by
 have hsl:=q9 τ (q2v τ xs r)
 have hfl:=qc τ xs
 have hmul:r*τ.size+τ.size<=xs.length*τ.size:=by rw[← Nat.succ_mul];exact Nat.mul_le_mul_right _ hr
 have hst:=q1f ha (o:=r*τ.size+j) (by omega) hv
 generalize w.setCells L.block (L.base+(r*τ.size+j)) vs=w' at hst ⊢
 have inner:∀ p,p<τ.size->(q1c (flat τ xs) (r*τ.size+j) ds)[r*τ.size+p]?=(q1c (split τ (q2v τ xs r)) j ds)[p]?:=fun p hp=>by
  rw[q1e (by omega),q1e (by omega),qe τ xs r _ p (q2w hr) hp]
  by_cases h1:j<=p/\p<j+ds.length
  ·rw[if_pos h1,if_pos (by omega)];congr 1;omega
  ·rw[if_neg h1,if_neg (by omega)]
 have hfull:VRs η (q1c (split τ (q2v τ xs r)) j ds) ((List.range τ.size).map fun p=>(w'.cell? ⟨L.block,L.base+(r*τ.size+p),none⟩).getD undef):=by
  refine⟨by rw[q1d (by omega),hsl];simp,fun p c v hc hv=>?_⟩
  have hp:p<τ.size:=by have:=(List.getElem?_eq_some_iff.1 hv).1;simpa using this
  obtain⟨v',e1,e2⟩:=hst.cell (r*τ.size+p) c (by rw[inner p hp];exact hc)
  simp only[List.getElem?_map,List.getElem?_range hp,Option.map_some,Option.some.injEq]at hv
  rw[e1]at hv;subst hv;exact e2
 have hx:=q2h τ hj hfull
 have hsx:=q9 τ x'
 rw[q2j τ xs r x' hr]
 refine⟨hst.lt,by rw[q1d (by omega)];have:=hst.fits;rwa[q1d (by omega)]at this,hst.there,fun q c hc=>?_⟩
 rw[q1e (by omega)]at hc
 split at hc
 ·rename_i hq
  rw[hsx]at hq
  have hp:q-r*τ.size<τ.size:=by omega
  obtain⟨v,e1,e2⟩:=hx.get hc
  simp only[List.getElem?_map,List.getElem?_range hp,Option.map_some,Option.some.injEq]at e1
  have hfp:∃ c0,(q1c (split τ (q2v τ xs r)) j ds)[q-r*τ.size]?=some c0:=⟨_,List.getElem?_eq_getElem (by rw[q1d (by omega)];omega)⟩
  obtain⟨c0,hc0⟩:=hfp
  obtain⟨v0,g1,_⟩:=hst.cell (r*τ.size+(q-r*τ.size)) c0 (by rw[inner _ hp];exact hc0)
  rw[g1]at e1
  simp only[Option.getD_some]at e1
  subst e1
  exact⟨v0,by rw[show q=r*τ.size+(q-r*τ.size) by omega];exact g1,e2⟩
 ·rename_i hq
  rw[hsx]at hq
  obtain⟨v,e1,e2⟩:=hst.cell q c (by rw[q1e (by omega),if_neg (by omega)];exact hc)
  exact⟨v,e1,e2⟩
def q39:LV->Option (Option Nat)
 | .rs m=>some (some m)
 | .nils=>some none
 | _=>none
theorem q3a {c:LV} {q:Option Nat} (h:q39 c=some q):c=qm q/\c.cellB=true:=by
 unfold q39 at h
 split at h
 ·injection h with h;subst h;exact⟨rfl,rfl⟩
 ·injection h with h;subst h;exact⟨rfl,rfl⟩
 ·cases h
theorem q3b {e:Row} (xs:List (List (den e))) (q q':Option Nat):q1c (Ob.rowl e xs q).list (xs.length*1+0) [qm q']=(Ob.rowl e xs q').list:=by
 unfold q1c
 rw[Nat.mul_one,Nat.add_zero,Ob.list,Ob.list,List.take_left' (qp xs),List.drop_eq_nil_of_le (by rw[List.length_append,qp];simp)]
 rfl
def q3c (T:Tys) (t:TypeId) (l x:LV) (H:LH) (k:LH->Option β):Option β :=
  match T.find t,x.cells with
  | some i, some ds => match l with
    | .ptr n o => match H.get n with
      | some (.cells cs)=>bif Nat.beq ds.length i.size&&Nat.ble (o+ds.length) cs.length&&ds.all LV.cellB then k (H.put n (some (.cells (q1c cs o ds)))) else none
      | _=>none
    | .rp n r sz j=>match H.get n,ds with
     | some (.rowl e xs _),[c]=>bif Nat.beq sz 1&&Nat.beq j 0&&Nat.beq i.size 1 then (bif Nat.beq r xs.length then (match q39 c with | some q'=>k (H.put n (some (.rowl e xs q'))) | none=>none) else none) else none
     | _,_=>tfrz ds H fun ds H=>match H.get n with
      | some (.rows τ xs)=>bif Nat.beq sz τ.size&&Nat.beq ds.length i.size&&Nat.ble (j+ds.length) τ.size&&ds.all LV.cellB then (match join τ (q1c (split τ (q2v τ xs r)) j ds) with | some x=>k (H.put n (some (.rows τ (xs.set r x)))) | none=>none) else none
      | _=>none
    | _=>none
  | _,_=>none
theorem q3d (hT:TysOK P T) {t:TypeId} {l x:LV} {k:LH->Option β} (hx:q3c T t l x H k=some b):∃ H',k H'=some b/\Logged H H'/\∀ M η w v u,HR M η H w->VR η l v->VR η x u->SimU P M H η w (Instr.storeAt t v u) H':=by
 unfold q3c at hx
 split at hx
 ·rename_i i ds hi hds
  split at hx
  ·rename_i n o
   split at hx
   ·rename_i cs hg
    cases hc:(Nat.beq ds.length i.size&&Nat.ble (o+ds.length) cs.length&&ds.all LV.cellB) with
    | false=>rw[hc]at hx;cases hx
    | true =>
     rw[hc,cond_true]at hx
     simp only[Bool.and_eq_true,Nat.beq_eq,Nat.ble_eq]at hc
     obtain⟨⟨c1,c2⟩,c3⟩:=hc
     refine⟨_,hx,Logged.put _ hg _,fun M η w v u h hv hu=>?_⟩
     cases hv with
     | ptr hL =>
      rename_i L
      obtain⟨vs,e1,e2⟩:=hu.cells h.ok hds
      have ha:=(h.live _ _ hg).at hL
      refine⟨_,η,q37 hT hi h.ok ha e1 e2 c1 c2 c3,q1g h hg hL (q1f ha c2 e2) (.inl ⟨_,_,rfl,rfl,q1d c2⟩)⟩
   ·cases hx
  ·rename_i n r sz j
   split at hx
   ·rename_i e' xs q c hg
    cases hc:(Nat.beq sz 1&&Nat.beq j 0&&Nat.beq i.size 1) with
    | false=>rw[hc]at hx;cases hx
    | true =>
     rw[hc,cond_true]at hx
     simp only[Bool.and_eq_true,Nat.beq_eq]at hc
     obtain⟨⟨rfl,rfl⟩,c3⟩:=hc
     cases hr:Nat.beq r xs.length with
     | false=>rw[hr]at hx;cases hx
     | true =>
      rw[hr,cond_true]at hx
      rw[Nat.beq_eq]at hr
      subst hr
      split at hx
      ·rename_i q' hq
       obtain⟨rfl,hcb⟩:=q3a hq
       refine⟨_,hx,Logged.put _ hg _,fun M η w v u h hv hu=>?_⟩
       cases hv with
       | rp hL hh hi2 =>
        rename_i L
        obtain⟨vs,e1,e2⟩:=hu.cells h.ok hds
        have ha:=(h.live _ _ hg).at hL
        have hlen:(Ob.rowl e' xs q).list.length=xs.length+1:=by rw[Ob.list,List.length_append,qp];rfl
        have hst:=q1f ha (o:=xs.length*1+0) (by rw[hlen];simp) e2
        rw[q3b]at hst
        refine⟨_,η,q37 hT hi h.ok ha e1 e2 (by rw[c3];rfl) (by rw[hlen];simp) (by simp[hcb]),q1g h hg hL hst (.inr (.inr ⟨e',xs,q,q',rfl,rfl⟩))⟩
      ·cases hx
   rename_i ds _ _ hnr
   obtain⟨ds',H1,g1,g2,g3,g4,g5,g6⟩:=q2i ds hx
   split at g1
   ·rename_i τ xs hg
    cases hc:(Nat.beq sz τ.size&&Nat.beq ds'.length i.size&&Nat.ble (j+ds'.length) τ.size&&ds'.all LV.cellB) with
    | false=>rw[hc]at g1;cases g1
    | true =>
     rw[hc,cond_true]at g1
     simp only[Bool.and_eq_true,Nat.beq_eq,Nat.ble_eq]at hc
     obtain⟨⟨⟨rfl,c1⟩,c2⟩,c3⟩:=hc
     split at g1
     ·rename_i x' hj
      refine⟨_,g1,g2.trans (Logged.put _ hg _),fun M η w v u h hv hu=>?_⟩
      cases hv with
      | rp hL hh hi2 =>
       rename_i L
       obtain⟨vs,e1,e2⟩:=hu.cells h.ok hds
       obtain⟨η1,f1,f2⟩:=g6 M η w vs h e2
       have hL1:=f1.le.loc _ _ hL
       have hh1:=f1.le.hdr _ _ hh
       obtain⟨ha,c,hh',_⟩:=f1.hr.rows hg hL1
       rw[hh1]at hh';injection hh' with hh';injection hh' with _ hn _;subst hn
       have hmul:r*τ.size+τ.size<=xs.length*τ.size:=by rw[← Nat.succ_mul];exact Nat.mul_le_mul_right _ hi2
       have hset:=q38 ha hi2 c2 f2 hj
       refine⟨_,η1,q37 hT hi f1.hr.ok ha e1 f2 c1 (by rw[qc];omega) c3,f1.trans (q1g f1.hr hg hL1 hset (.inr (.inl ⟨τ,xs,_,rfl,rfl,by simp⟩)))⟩
     ·cases g1
   ·cases g1
  ·cases hx
 ·cases hx
end
section
variable {P:Program} {T:Tys} {M:Nat} {H:LH} {η:Emb} {w:World} {β:Type} {b:β}
def q3e (l:LV) (o:Nat):Option LV :=
 match l with
 | .ptr n p=>some (.ptr n (p+o))
 | .rp n r sz j=>some (.rp n r sz (j+o))
 | .fp τ x j=>some (.fp τ x (j+o))
 | _=>none
theorem q3f {l l':LV} {o:Nat} (hx:q3e l o=some l') {v:Value} (hv:VR η l v):∃ a,v=.pointer (some a)/\VR η l' (.pointer (some (a.add o))):=by
 unfold q3e at hx
 split at hx<;>first | (injection hx with hx;subst hx) | cases hx
 ·cases hv with
  | ptr hL=>exact⟨_,rfl,by rw[Addr.add_lit,Nat.add_assoc];exact .ptr hL⟩
 ·cases hv with
  | rp hL hh hi=>exact⟨_,rfl,by rw[Addr.add_lit,Nat.add_assoc,Nat.add_assoc];exact .rp hL hh hi⟩
 ·cases hv with
  | fp hr=>exact⟨_,rfl,by rw[Addr.add_lit,Nat.add_assoc];exact .fp hr⟩
def q3g (T:Tys) (s:TypeId) (l:LV) (f:Nat) (H:LH) (k:LV->LH->Option β):Option β :=
 match T.find s with
 | some i => match i.kind with
  | .struct fs => match fs[f]? with
   | some p => match T.find p.2 with
    | some j=>bif Nat.beq j.size 0 then none else match q3e l p.1 with | some l=>k l H | none=>none
    | none=>none
   | none=>none
  | _=>none
 | none=>none
theorem q3h (hT:TysOK P T) {s:TypeId} {l:LV} {f:Nat} {k:LV->LH->Option β} (hx:q3g T s l f H k=some b):∃ r,k r.1 r.2=some b/\r.2=H/\∀ M η w v,HR M η H w->VR η l v->Sim P M H η w (Instr.fieldAt s v f) r:=by
 unfold q3g at hx
 split at hx
 ·rename_i i hi
  have hu:=(hT s i hi).und
  split at hx
  ·rename_i fs hk
   rw[hk]at hu
   obtain⟨_,fields,h2,h3⟩:=hu
   split at hx
   ·rename_i p hp
    split at hx
    ·rename_i j hj
     cases hc:Nat.beq j.size 0 with
     | true=>rw[hc]at hx;cases hx
     | false =>
      rw[hc,cond_false]at hx
      split at hx
      ·rename_i l' hl
       refine⟨(l',H),hx,rfl,fun M η w v h hv=>?_⟩
       obtain⟨a,rfl,e1⟩:=q3f hl hv
       obtain⟨ji,z,hji,hjs,_⟩:=(hT _ j hj).info
       rw[← h3,List.getElem?_map,Option.map_eq_some_iff]at hp
       obtain⟨fd,hf,rfl⟩:=hp
       have hf':fields[f]?=some fd:=by simpa using hf
       have hn:¬ ji.size=0:=fun h0=>by rw[← hjs,h0]at hc;cases hc
       exact q22 h (v:=.pointer (some (a.add fd.offset))) (by simp[Instr.fieldAt,run_underlying h2,hf',Instr.sureAddr,fieldPlace,sizeOf,typeInfo,hji,hn]) e1
      ·cases hx
    ·cases hx
   ·cases hx
  ·cases hx
 ·cases hx
def q3i (T:Tys) (t:TypeId) (cs:List LV) (off:Nat):Option LV :=
 match T.find t with
 | some i=>bif i.agg then (match cut cs off i.size with | some ds=>some (.agg ds) | none=>none) else cs[off]?
 | none=>none
theorem q3j (hT:TysOK P T) {t:TypeId} {cs:List LV} {vs:List Value} (h:VRs η cs vs) {off:Nat} {l:LV} (hx:q3i T t cs off=some l) (w:World):∃ v,(part t vs.toArray off).run P w=.ok v w/\VR η l v:=by
 unfold q3i at hx
 split at hx
 ·rename_i i hi
  obtain⟨j,z,hj,hs,_⟩:=(hT _ i hi).info
  have hag:=q23 (P:=P) hT hi w
  rw[Bool.cond_eq_ite]at hx
  split at hx
  ·rename_i hg
   rw[hg]at hag
   split at hx
   ·rename_i ds hds
    injection hx with hx;subst hx
    obtain⟨c1,rfl,c3⟩:=q2t hds
    refine⟨.agg ((vs.drop off).take i.size).toArray,?_,?_⟩
    ·simp[part,hag,sizeOf,typeInfo,hj,hs,List.extract_eq_take_drop]
    ·have:=(h.drop off).take i.size
     exact .agg this.1 this.2
   ·cases hx
  ·rename_i hg
   simp only[Bool.not_eq_true]at hg
   rw[hg]at hag
   obtain⟨v,h1,h2⟩:=h.get hx
   exact⟨v,by simp[part,hag,h1],h2⟩
 ·cases hx
def q3k (T:Tys) (t:TypeId) (l:LV) (f:Nat) (H:LH) (k:LV->LH->Option β):Option β :=
 match T.find t,l with
 | some i, .agg cs => match i.kind with
  | .struct fs => match fs[f]? with
   | some p=>match q3i T p.2 cs p.1 with | some l=>k l H | none=>none
   | none=>none
  | _=>none
 | _,_=>none
theorem q3l (hT:TysOK P T) {t:TypeId} {l:LV} {f:Nat} {k:LV->LH->Option β} (hx:q3k T t l f H k=some b):∃ r,k r.1 r.2=some b/\r.2=H/\∀ M η w v,HR M η H w->VR η l v->Sim P M H η w (Instr.field t v f) r:=by
 unfold q3k at hx
 split at hx
 ·rename_i i cs hi
  have hu:=(hT t i hi).und
  split at hx
  ·rename_i fs hk
   rw[hk]at hu
   obtain⟨_,fields,h2,h3⟩:=hu
   split at hx
   ·rename_i p hp
    split at hx
    ·rename_i l hl
     refine⟨(l,H),hx,rfl,fun M η w v h hv=>?_⟩
     cases hv with
     | agg hl2 hh =>
      rename_i vs
      rw[← h3,List.getElem?_map,Option.map_eq_some_iff]at hp
      obtain⟨fd,hf,rfl⟩:=hp
      have hf':fields[f]?=some fd:=by simpa using hf
      obtain⟨v,e1,e2⟩:=q3j (P:=P) hT ⟨hl2,hh⟩ hl w
      exact q22 h (v:=v) (by simp[Instr.field,run_underlying h2,hf',asAgg,e1]) e2
    ·cases hx
   ·cases hx
  ·cases hx
 ·cases hx
def inB (i:Int) (n:Nat):Bool:=decide (0<=i)&&Nat.blt i.toNat n
theorem q3m {i:Int} {n:Nat}:inB i n=true↔0<=i/\i<n:=by
 unfold inB
 rw[Bool.and_eq_true,decide_eq_true_eq,Nat.blt_eq]
 omega
def q3n (T:Tys) (t:TypeId) (l ix:LV) (H:LH) (k:LV->LH->Option β):Option β :=
 match T.find t,ix with
 | some i, .int _ n => match i.kind with
  | .slice _ τ => match l with
   | .rs m => match H.get m with
    | some (.rows τ' xs)=>bif Nat.beq τ'.size τ.size then (bif inB n xs.length then k (.rp m n.toNat τ'.size 0) H else none) else none
    | some (.view b0 k0 sz) => bif Nat.beq sz τ.size then (match H.get b0 with
     | some (.rows τ' xs)=>bif Nat.beq τ'.size sz&&inB n (xs.length-k0) then k (.rp b0 (k0+n.toNat) sz 0) H else none
     | _=>none) else none
    | some (.rowl _ xs _)=>bif Nat.beq τ.size 1 then (bif inB n (xs.length+1) then k (.rp m n.toNat 1 0) H else none) else none
    | _=>none
   | .fz τ' xs=>bif Nat.beq τ'.size τ.size then (bif inB n xs.length then k (.fp τ' (q2v τ' xs n.toNat) 0) H else none) else none
   | _=>none
  | .array len e => match T.find e with
   | some j=>bif inB n len then (match q3e l (n.toNat*j.size) with | some l=>k l H | none=>none) else none
   | none=>none
  | _=>none
 | _,_=>none
theorem q3o (hT:TysOK P T) {t:TypeId} {l ix:LV} {k:LV->LH->Option β} (hx:q3n T t l ix H k=some b):∃ r,k r.1 r.2=some b/\r.2=H/\∀ M η w v u,HR M η H w->VR η l v->VR η ix u->Sim P M H η w (Instr.indexAt t v u) r:=by
 unfold q3n at hx
 split at hx
 ·rename_i i kk n hi
  have hu:=(hT t i hi).und
  split at hx
  ·rename_i e τ hk
   rw[hk]at hu
   obtain⟨hu,_,_,j,z,hj,_,_,hjs,_⟩:=hu
   split at hx
   ·rename_i m
    split at hx
    ·rename_i τ' xs hg
     cases hc:Nat.beq τ'.size τ.size with
     | false=>rw[hc]at hx;cases hx
     | true =>
      rw[hc,cond_true]at hx
      rw[Nat.beq_eq]at hc
      cases hb:inB n xs.length with
      | false=>rw[hb]at hx;cases hx
      | true =>
       rw[hb,cond_true]at hx
       rw[q3m]at hb
       refine⟨(.rp m n.toNat τ'.size 0,H),hx,rfl,fun M η w v u h hv hu2=>?_⟩
       cases hu2
       cases hv with
       | rs hh =>
        cases h.live _ _ hg with
        | none hL hh'=>exact absurd hb.2 (by simp;omega)
        | rows hL ha hh' hcc hr =>
         rename_i L c
         rw[hh]at hh';injection hh' with hh';subst hh'
         refine q22 h (v:=.pointer (some ⟨L.block,L.base+(n.toNat*τ'.size+0),none⟩)) ?_ (.rp hL hh (by omega))
         simp[Instr.indexAt,asIntOf,run_underlying hu,hb.1,hb.2,sizeOf,typeInfo,hj,hjs,hc,Addr.add_lit]
    ·rename_i b0 k0 sz hg
     cases hc:Nat.beq sz τ.size with
     | false=>rw[hc]at hx;cases hx
     | true =>
      rw[hc,cond_true]at hx
      rw[Nat.beq_eq]at hc
      split at hx
      ·rename_i τ' xs hg0
       cases hb:Nat.beq τ'.size sz&&inB n (xs.length-k0) with
       | false=>rw[hb]at hx;cases hx
       | true =>
        rw[hb,cond_true]at hx
        rw[Bool.and_eq_true,q3m]at hb
        refine⟨(.rp b0 (k0+n.toNat) sz 0,H),hx,rfl,fun M η w v u h hv hu2=>?_⟩
        cases hu2
        cases hv with
        | rs hh =>
         cases h.live _ _ hg with
         | view hL hb' hh' hk' hm =>
          rename_i n0 c0 L
          rw[hh]at hm;injection hm with hm;subst hm
          have hlen:n0=xs.length:=by
           cases h.live _ _ hg0 with
           | none k1=>rw[hb']at k1;cases k1
           | rows k1 k2 k3=>rw[hh']at k3;injection k3 with k3;injection k3
          subst hlen
          refine q22 h (v:=.pointer (some ⟨L.block,L.base+((k0+n.toNat)*sz+0),none⟩)) ?_ (.rp hb' hh' (by omega))
          simp[Instr.indexAt,asIntOf,run_underlying hu,hb.2.1,hb.2.2,sizeOf,typeInfo,hj,hjs,hc,Addr.add_lit,Nat.add_mul,Nat.add_assoc]
      ·cases hx
    ·rename_i e' xs r' hg
     cases hc:Nat.beq τ.size 1 with
     | false=>rw[hc]at hx;cases hx
     | true =>
      rw[hc,cond_true]at hx
      rw[Nat.beq_eq]at hc
      cases hb:inB n (xs.length+1) with
      | false=>rw[hb]at hx;cases hx
      | true =>
       rw[hb,cond_true]at hx
       rw[q3m]at hb
       refine⟨(.rp m n.toNat 1 0,H),hx,rfl,fun M η w v u h hv hu2=>?_⟩
       cases hu2
       cases hv with
       | rs hh =>
        cases h.live _ _ hg with
        | rowl hL ha hh' hcc hr =>
         rename_i L c
         rw[hh]at hh';injection hh' with hh';subst hh'
         have hb2:n<((xs.length+1:Nat):Int):=hb.2
         refine q22 h (v:=.pointer (some ⟨L.block,L.base+(n.toNat*1+0),none⟩)) ?_ (.rp hL hh (by omega))
         simp[Instr.indexAt,asIntOf,run_underlying hu,hb.1,sizeOf,typeInfo,hj,hjs,hc,Addr.add_lit]
         omega
    ·cases hx
   ·rename_i τ' xs
    cases hc:Nat.beq τ'.size τ.size with
    | false=>rw[hc]at hx;cases hx
    | true =>
     rw[hc,cond_true]at hx
     rw[Nat.beq_eq]at hc
     cases hb:inB n xs.length with
     | false=>rw[hb]at hx;cases hx
     | true =>
      rw[hb,cond_true]at hx
      rw[q3m]at hb
      refine⟨(.fp τ' (q2v τ' xs n.toNat) 0,H),hx,rfl,fun M η w v u h hv hu2=>?_⟩
      cases hu2
      cases hv with
      | fz hf =>
       obtain⟨A,c,rfl,h1,h0,h2⟩:=hf
       obtain⟨bl,o,rfl,e1⟩:=h2 n.toNat _ (q2w (by omega))
       refine q22 h (v:=.pointer (some ⟨bl,o+n.toNat*τ'.size+0,none⟩)) ?_ (.fp e1)
       simp[Instr.indexAt,asIntOf,run_underlying hu,hb.1,hb.2,sizeOf,typeInfo,hj,hjs,hc,Addr.add_lit]
   ·cases hx
  ·rename_i len e hk
   rw[hk]at hu
   split at hx
   ·rename_i j hj
    cases hb:inB n len with
    | false=>rw[hb]at hx;cases hx
    | true =>
     rw[hb,cond_true]at hx
     rw[q3m]at hb
     split at hx
     ·rename_i l' hl
      refine⟨(l',H),hx,rfl,fun M η w v u h hv hu2=>?_⟩
      cases hu2
      obtain⟨a,rfl,e1⟩:=q3f hl hv
      obtain⟨ji,z,hji,hjs,_⟩:=(hT _ j hj).info
      refine q22 h (v:=.pointer (some (a.add (n.toNat*j.size)))) ?_ e1
      simp[Instr.indexAt,asIntOf,run_underlying hu.2,Instr.sureAddr,hb.1,hb.2,sizeOf,typeInfo,hji,hjs]
     ·cases hx
   ·cases hx
  ·cases hx
 ·cases hx
def strB (s:ByteArray) (n:Int):Bool:=decide (0<=n)&&Nat.blt n.toNat s.data.toList.length
def q3p (s:ByteArray) (n:Int):Int:=match s.data.toList[n.toNat]? with | some b=>(b.toNat:Int) | none=>0
theorem q3q {s:ByteArray} {n:Int} (h:strB s n=true):∃ b,0<=n/\s[n.toNat]?=some b/\q3p s n=(b.toNat:Int):=by
 unfold strB at h
 simp only[Bool.and_eq_true,decide_eq_true_eq,Nat.blt_eq]at h
 have hl:n.toNat<s.size:=by have:=h.2;rwa[Array.length_toList]at this
 refine⟨s[n.toNat],h.1,by rw[getElem?_pos s n.toNat hl],?_⟩
 unfold q3p
 rw[Array.getElem?_toList,Array.getElem?_eq_getElem (h:=hl)]
 rfl
def q3r (T:Tys) (t:TypeId) (l ix:LV) (H:LH) (k:LV->LH->Option β):Option β :=
 match T.find t,l,ix with
 | some i, .agg cs, .int _ n => match i.kind with
  | .array len e => match T.find e with
   | some j=>bif inB n len then (match q3i T e cs (n.toNat*j.size) with | some l=>k l H | none=>none) else none
   | none=>none
  | _=>none
 | some i, .str s, .int _ n => match i.kind with
  | .str=>bif strB s n then k (.int .u8 (q3p s n)) H else none
  | _=>none
 | _,_,_=>none
theorem q3s (hT:TysOK P T) {t:TypeId} {l ix:LV} {k:LV->LH->Option β} (hx:q3r T t l ix H k=some b):∃ r,k r.1 r.2=some b/\r.2=H/\∀ M η w v u,HR M η H w->VR η l v->VR η ix u->Sim P M H η w (Instr.index t v u) r:=by
 unfold q3r at hx
 split at hx
 ·rename_i i cs kk n hi
  have hu:=(hT t i hi).und
  split at hx
  ·rename_i len e hk
   rw[hk]at hu
   split at hx
   ·rename_i j hj
    cases hb:inB n len with
    | false=>rw[hb]at hx;cases hx
    | true =>
     rw[hb,cond_true]at hx
     rw[q3m]at hb
     split at hx
     ·rename_i l' hl
      refine⟨(l',H),hx,rfl,fun M η w v u h hv hu2=>?_⟩
      cases hu2
      cases hv with
      | agg hl2 hh =>
       rename_i vs
       obtain⟨ji,z,hji,hjs,_⟩:=(hT _ j hj).info
       obtain⟨v,e1,e2⟩:=q3j (P:=P) hT ⟨hl2,hh⟩ hl w
       refine q22 h (v:=v) ?_ e2
       simp[Instr.index,asIntOf,run_underlying hu.2,hb.1,hb.2,sizeOf,typeInfo,hji,hjs,e1]
     ·cases hx
   ·cases hx
  ·cases hx
 ·rename_i i s kk n hi
  have hu:=(hT t i hi).und
  split at hx
  ·rename_i hk
   rw[hk]at hu
   cases hb:strB s n with
   | false=>rw[hb]at hx;cases hx
   | true =>
    rw[hb,cond_true]at hx
    obtain⟨by0,h0,h1,h2⟩:=q3q hb
    refine⟨(.int .u8 (q3p s n),H),hx,rfl,fun M η w v u h hv hu2=>?_⟩
    cases hu2
    cases hv
    refine q22 h (v:=.int .u8 (q3p s n)) ?_ (.int _ _)
    simp[Instr.index,asIntOf,run_underlying hu.2,h0,h1,h2]
  ·cases hx
 ·cases hx
inductive OV (η:Emb):Option LV->Option Value->Prop
 | none:OV η none none
 | some {l:LV} {v:Value}:VR η l v->OV η (some l) (some v)
def tcut {α:Type} (xs:List α) (lo hi:Option LV):Option (Bool×List α) :=
 match lo,hi with
 | none,none=>some (true,xs)
 | none,some (.int _ h)=>some (decide (0<=h)&&decide (h<=xs.length),xs.take h.toNat)
 | some (.int _ a),none=>some (decide (0<=a)&&decide (a<=xs.length),xs.drop a.toNat)
 | some (.int _ a),some (.int _ h)=>some (decide (0<=a)&&decide (a<=h)&&decide (h<=xs.length),(xs.take h.toNat).drop a.toNat)
 | _,_=>none
theorem q3t {α:Type} {xs ys:List α} {lo hi:Option LV} {lo' hi':Option Value} (hlo:OV η lo lo') (hhi:OV η hi hi') (hx:tcut xs lo hi=some (true,ys)) {c:Nat} (hc:xs.length<=c):∃ a h,a<=h/\h<=xs.length/\ys=(xs.take h).drop a/\(Instr.sliceBounds true xs.length c lo' hi' none).run P w=.ok (a,h,c) w:=by
 unfold tcut at hx
 split at hx
 ·injection hx with hx;injection hx with _ hx
  cases hlo;cases hhi
  exact⟨0,xs.length,Nat.zero_le _,Nat.le_refl _,by rw[← hx,List.take_length,List.drop_zero],by simp[Instr.sliceBounds]⟩
 ·rename_i kk h
  injection hx with hx;injection hx with h1 hx
  simp only[Bool.and_eq_true,decide_eq_true_eq]at h1
  cases hlo;cases hhi with
  | some hv =>
   cases hv
   have h2:h<=(c:Int):=by omega
   exact⟨0,h.toNat,Nat.zero_le _,by omega,by rw[← hx,List.drop_zero],by simp[Instr.sliceBounds,Instr.sliceBound,asIntOf,h1.1,h2]⟩
 ·rename_i kk a
  injection hx with hx;injection hx with h1 hx
  simp only[Bool.and_eq_true,decide_eq_true_eq]at h1
  cases hhi;cases hlo with
  | some hv =>
   cases hv
   exact⟨a.toNat,xs.length,by omega,Nat.le_refl _,by rw[← hx,List.take_length],by simp[Instr.sliceBounds,Instr.sliceBound,asIntOf,h1.1,h1.2]⟩
 ·rename_i k1 a k2 h
  injection hx with hx;injection hx with h1 hx
  simp only[Bool.and_eq_true,decide_eq_true_eq]at h1
  obtain⟨⟨h1,h2⟩,h3⟩:=h1
  cases hlo with
  | some hv =>
   cases hv
   cases hhi with
   | some hv =>
    cases hv
    have h4:h<=(c:Int):=by omega
    have h5:0<=h:=by omega
    have h6:a<=max h 0:=by omega
    exact⟨a.toNat,h.toNat,by omega,by omega,by rw[← hx],by simp[Instr.sliceBounds,Instr.sliceBound,asIntOf,h1,h2,h4,h5,h6]⟩
 ·cases hx
theorem q3u {φ:Nat->Option Obj} {τ:Row} {xs:List (den τ)} {A:Option Addr} {c a h:Nat} (hf:FzR φ τ xs (.slice A xs.length c)) (h1:a<=h) (h2:h<=xs.length):FzR φ τ ((xs.take h).drop a) (.slice (if c=a then A else A.map (·.add (a*τ.size))) (h-a) (c-a)):=by
 obtain⟨A',c',e1,e2,e0,e3⟩:=hf
 injection e1 with e1 _ e4;subst e1 e4
 have hl:((xs.take h).drop a).length=h-a:=by simp;omega
 refine⟨_,_,by rw[hl],by omega,(fun hA=>by
  have:A=none:=by
   split at hA
   ·exact hA
   ·simpa using hA
  have:=e0 this;omega),fun i x hx=>?_⟩
 have hi:i<h-a:=by rw[← hl];exact (List.getElem?_eq_some_iff.1 hx).1
 rw[List.getElem?_drop,List.getElem?_take,if_pos (by omega)]at hx
 obtain⟨bl,o,rfl,hr⟩:=e3 (a+i) x hx
 rw[if_neg (by omega)]
 refine⟨bl,o+a*τ.size,by simp[Addr.add_lit],?_⟩
 rw[Nat.add_assoc,← Nat.add_mul];exact hr
def q3v (l:LV) (H:LH) (k:Int->Option β):Option β :=
 match l with
 | .rs m=>match H.get m with | some (.rows _ xs)=>k xs.length | some (.rowl _ xs _)=>k ((xs.length+1:Nat):Int) | some (.view b0 k0 _)=>(match H.get b0 with | some (.rows _ xs)=>k ((xs.length-k0:Nat):Int) | _=>none) | some (.pref b0 q)=>(match H.get b0 with | some (.rows _ _)=>k (q:Int) | _=>none) | _=>none
 | .fz _ xs=>k xs.length
 | .nils=>k 0
 | _=>none
theorem q3w {l:LV} {k:Int->Option β} (hx:q3v l H k=some b):∃ n:Nat,k n=some b/\∀ M η w v,HR M η H w->VR η l v->∃ A c,v=.slice A n c/\n<=c:=by
 unfold q3v at hx
 split at hx
 ·split at hx
  ·rename_i τ xs hg
   refine⟨xs.length,hx,fun M η w v h hv=>?_⟩
   cases hv with
   | rs hh =>
    cases h.live _ _ hg with
    | none hL hh'=>rw[hh]at hh';injection hh' with hh';exact⟨_,_,hh',Nat.le_refl _⟩
    | rows hL ha hh' hc hr=>rw[hh]at hh';injection hh' with hh';exact⟨_,_,hh',hc⟩
  ·rename_i e' xs r' hg
   refine⟨xs.length+1,hx,fun M η w v h hv=>?_⟩
   cases hv with
   | rs hh =>
    cases h.live _ _ hg with
    | rowl hL ha hh' hc hr=>rw[hh]at hh';injection hh' with hh';exact⟨_,_,hh',hc⟩
  ·rename_i b0 k0 sz hg
   split at hx
   ·rename_i τ' xs hg0
    refine⟨xs.length-k0,hx,fun M η w v h hv=>?_⟩
    cases hv with
    | rs hh =>
     cases h.live _ _ hg with
     | view hL hb' hh' hk' hm =>
      rename_i n0 c0 L
      rw[hh]at hm;injection hm with hm
      cases h.live _ _ hg0 with
      | none k1=>rw[hb']at k1;cases k1
      | rows k1 k2 k3 k4 =>
       rw[hh']at k3;injection k3 with k3;injection k3 with _ k5 k6;subst k5 k6
       exact⟨_,_,hm,by omega⟩
   ·cases hx
  ·rename_i b0 q hg
   split at hx
   ·rename_i τ' xs hg0
    refine⟨q,hx,fun M η w v h hv=>?_⟩
    cases hv with
    | rs hh =>
     cases h.live _ _ hg with
     | pref hL hh' hk' hm =>
      rename_i n0 c0 A
      rw[hh]at hm;injection hm with hm
      cases h.live _ _ hg0 with
      | none k1 k2 =>
       rw[hh']at k2;injection k2 with k2;injection k2 with _ k5 k6;subst k5 k6
       exact⟨_,_,hm,hk'⟩
      | rows k1 k2 k3 k4 =>
       rw[hh']at k3;injection k3 with k3;injection k3 with _ k5 k6;subst k5 k6
       exact⟨_,_,hm,by omega⟩
   ·cases hx
  ·cases hx
 ·rename_i τ xs
  refine⟨xs.length,hx,fun M η w v h hv=>?_⟩
  cases hv with
  | fz hf=>obtain⟨A,c,h1,h2,_⟩:=hf;exact⟨A,c,h1,h2⟩
 ·exact⟨0,hx,fun M η w v h hv=>by cases hv;exact⟨_,_,rfl,Nat.le_refl _⟩⟩
 ·cases hx
def q3x (T:Tys) (t:TypeId) (l:LV) (lo hi mx:Option LV) (H:LH) (k:LV->LH->Option β):Option β :=
 match T.find t with
 | some i => match i.kind with
  | .slice _ τ => match lo, hi, mx with
   | none,some (.int _ 0),some (.int _ 0)=>q3v l H fun _=>k (.rs H.next) (H.alloc (.rows τ []))
   | _,_,_=>none
  | _=>none
 | none=>none
theorem q3y (hT:TysOK P T) {t:TypeId} {l:LV} {lo hi mx:Option LV} {k:LV->LH->Option β} (hx:q3x T t l lo hi mx H k=some b):∃ r,k r.1 r.2=some b/\Logged H r.2/\∀ M η w v lo' hi' mx',HR M η H w->r.2.next<=M->VR η l v->OV η lo lo'->OV η hi hi'->OV η mx mx'->Sim P M H η w (Instr.sliceAt t v lo' hi' mx') r:=by
 unfold q3x at hx
 split at hx
 ·rename_i i hi0
  have hu:=(hT t i hi0).und
  split at hx
  ·rename_i e τ hk
   rw[hk]at hu
   obtain⟨hu,_,_,j,z,hj,_,_,hjs,_⟩:=hu
   split at hx
   ·obtain⟨n,h1,h2⟩:=q3w hx
    refine⟨(.rs H.next,H.alloc (.rows τ [])),h1,Logged.alloc _ _,fun M η w v lo' hi' mx' h hM hv hlo hhi hmx=>?_⟩
    obtain⟨A,c,rfl,hnc⟩:=h2 M η w v h hv
    cases hlo
    cases hhi with
    | some e1 =>
     cases hmx with
     | some e2 =>
      cases e1;cases e2
      refine⟨.slice A 0 0,w,_,?_,.rs (Emb.put_hdr ..),q15 h hM τ A⟩
      simp[Instr.sliceAt,Instr.slice,run_underlying hu,Instr.sliceBounds,Instr.sliceBound,asIntOf,sizeOf,typeInfo,hj]
   ·cases hx
  ·cases hx
 ·cases hx
def q3z (T:Tys) (t:TypeId) (l:LV) (lo hi:Option LV) (H:LH) (k:LV->LH->Option β):Option β :=
 match T.find t with
 | some i => match i.kind with
  | .slice _ τ => match l with
   | .fz τ' xs=>bif Nat.beq τ'.size τ.size then (match tcut xs lo hi with | some (g,ys)=>bif g then k (.fz τ' ys) H else none | none=>none) else none
   | .nils=>match tcut ([]:List (den τ)) lo hi with | some (g,ys)=>bif g then k (.fz τ ys) H else none | none=>none
   | .rs m => match H.get m with
    | some (.rows τ' xs)=>bif Nat.beq τ'.size τ.size then (match tcut xs lo hi with | some (g,ys)=>bif g then k (.fz τ' ys) (H.put m none) else none | none=>none) else none
    | _=>none
   | _=>none
  | _=>none
 | none=>none
theorem q40 (hT:TysOK P T) {t:TypeId} {l:LV} {lo hi:Option LV} {k:LV->LH->Option β} (hx:q3z T t l lo hi H k=some b):∃ r,k r.1 r.2=some b/\Logged H r.2/\∀ M η w v lo' hi' mx',HR M η H w->r.2.next<=M->VR η l v->OV η lo lo'->OV η hi hi'->OV η none mx'->Sim P M H η w (Instr.sliceAt t v lo' hi' mx') r:=by
 unfold q3z at hx
 split at hx
 ·rename_i i hi0
  have hu:=(hT t i hi0).und
  split at hx
  ·rename_i e τ hk
   rw[hk]at hu
   obtain⟨hu,_,_,j,z,hj,_,_,hjs,_⟩:=hu
   have key:∀ {M η w A c lo' hi'} {τ':Row} {xs ys:List (den τ')},HR M η H w->τ'.size=τ.size->FzR η.fz τ' xs (.slice A xs.length c)->xs.length<=c->OV η lo lo'->OV η hi hi'->tcut xs lo hi=some (true,ys)->∃ v',(Instr.sliceAt t (.slice A xs.length c) lo' hi' none).run P w=.ok v' w/\VR η (.fz τ' ys) v':=by
    intro M η w A c lo' hi' τ' xs ys h hs hf hc hlo hhi hcut
    obtain⟨a,hh,h1,h2,rfl,h4⟩:=q3t (P:=P) (w:=w) hlo hhi hcut hc
    refine⟨_,?_,.fz (q3u hf h1 h2)⟩
    rw[hs]
    simp only[Instr.sliceAt,Instr.slice,Sem.run_bind,run_underlying hu,Result.andThen_ok,h4,sizeOf,typeInfo,run_program,hj,Sem.run_pure,hjs]
   split at hx
   ·rename_i τ' xs
    cases hc:Nat.beq τ'.size τ.size with
    | false=>rw[hc]at hx;cases hx
    | true =>
     rw[hc,cond_true]at hx
     rw[Nat.beq_eq]at hc
     split at hx
     ·rename_i g ys hcut
      cases g with
      | false=>cases hx
      | true =>
       refine⟨(.fz τ' ys,H),hx,Logged.refl _,fun M η w v lo' hi' mx' h hM hv hlo hhi hmx=>?_⟩
       cases hmx
       cases hv with
       | fz hf =>
        obtain⟨A,c,rfl,h1,h2⟩:=id hf
        obtain⟨v',e1,e2⟩:=key h hc hf h1 hlo hhi hcut
        exact q22 h e1 e2
     ·cases hx
   ·split at hx
    ·rename_i g ys hcut
     cases g with
     | false=>cases hx
     | true =>
      refine⟨(.fz τ ys,H),hx,Logged.refl _,fun M η w v lo' hi' mx' h hM hv hlo hhi hmx=>?_⟩
      cases hmx
      cases hv
      obtain⟨v',e1,e2⟩:=key (A:=none) (c:=0) h rfl ⟨none,0,rfl,Nat.le_refl _,fun _=>rfl,fun i x hx=>by simp at hx⟩ (Nat.le_refl _) hlo hhi hcut
      exact q22 h e1 e2
    ·cases hx
   ·rename_i m
    split at hx
    ·rename_i τ' xs hg
     cases hc:Nat.beq τ'.size τ.size with
     | false=>rw[hc]at hx;cases hx
     | true =>
      rw[hc,cond_true]at hx
      rw[Nat.beq_eq]at hc
      split at hx
      ·rename_i g ys hcut
       cases g with
       | false=>cases hx
       | true =>
        refine⟨(.fz τ' ys,H.put m none),hx,Logged.put _ hg _,fun M η w v lo' hi' mx' h hM hv hlo hhi hmx=>?_⟩
        cases hmx
        cases hv with
        | rs hh =>
         obtain⟨η1,f1,f2⟩:=q1b h hg hh
         cases f2 with
         | fz hf =>
          obtain⟨A,c,rfl,h1,h2⟩:=id hf
          have up:∀ {l l'},OV η l l'->OV η1 l l':=fun h=>by cases h with | none=>exact .none | some h=>exact .some (h.mono f1.le)
          obtain⟨a,hh',g1,g2,rfl,g4⟩:=q3t (P:=P) (w:=w) (up hlo) (up hhi) hcut h1
          refine⟨_,w,η1,?_,.fz (q3u hf g1 g2),f1⟩
          rw[hc]
          simp only[Instr.sliceAt,Instr.slice,Sem.run_bind,run_underlying hu,Result.andThen_ok,g4,sizeOf,typeInfo,run_program,hj,Sem.run_pure,hjs]
      ·cases hx
    ·cases hx
   ·cases hx
  ·cases hx
 ·cases hx
theorem q41 {φ:Nat->Option Obj} {τ:Row} {xs:List (den τ)} {A:Option Addr} {c m:Nat} (hf:FzR φ τ xs (.slice A xs.length c)) (h1:m<=xs.length):FzR φ τ (xs.take m) (.slice A m m):=by
 obtain⟨A',c',e1,e2,e0,e3⟩:=hf
 injection e1 with e1 _ e4;subst e1 e4
 have hl:(xs.take m).length=m:=by simp;omega
 refine⟨_,_,by rw[hl],by omega,fun hA=>by have:=e0 hA;omega,fun i x hx=>?_⟩
 rw[List.getElem?_take]at hx
 split at hx
 ·exact e3 i x hx
 ·cases hx
def q42 (a h m:Int) (n:Nat):Bool:=decide (0<=a)&&decide (a<=h)&&decide (h<=m)&&decide (m<=(n:Int))
def q43 (T:Tys) (t:TypeId) (l lo:LV) (hi:Option LV) (mx:LV) (H:LH) (k:LV->LH->Option β):Option β :=
 match lo,hi,mx with
 | .int _ a, some (.int _ h), .int _ m => match T.find t with
  | some i => match i.kind with
   | .slice _ τ => match l with
    | .fz τ' xs=>bif Nat.beq τ'.size τ.size then (bif q42 a h m xs.length then k (.fz τ' ((xs.take h.toNat).drop a.toNat)) H else none) else none
    | .rs n => match H.get n with
     | some (.rows τ' xs)=>bif Nat.beq τ'.size τ.size then (bif q42 a h m xs.length then k (.fz τ' ((xs.take h.toNat).drop a.toNat)) (H.put n none) else none) else none
     | _=>none
    | _=>none
   | _=>none
  | none=>none
 | _,_,_=>none
theorem q44 (hT:TysOK P T) {t:TypeId} {l lo:LV} {hi:Option LV} {mx:LV} {k:LV->LH->Option β} (hx:q43 T t l lo hi mx H k=some b):∃ r,k r.1 r.2=some b/\Logged H r.2/\∀ M η w v lo' hi' mx',HR M η H w->r.2.next<=M->VR η l v->OV η (some lo) lo'->OV η hi hi'->OV η (some mx) mx'->Sim P M H η w (Instr.sliceAt t v lo' hi' mx') r:=by
 unfold q43 at hx
 split at hx
 ·rename_i ka a kb h kc m
  split at hx
  ·rename_i i hi0
   have hu:=(hT t i hi0).und
   split at hx
   ·rename_i e τ hk
    rw[hk]at hu
    obtain⟨hu,_,_,j,z,hj,_,_,hjs,_⟩:=hu
    have key:∀ {η w A c} {τ':Row} {xs:List (den τ')},τ'.size=τ.size->FzR η.fz τ' xs (.slice A xs.length c)->xs.length<=c->q42 a h m xs.length=true->∃ v',(Instr.sliceAt t (.slice A xs.length c) (some (.int ka a)) (some (.int kb h)) (some (.int kc m))).run P w=.ok v' w/\VR η (.fz τ' ((xs.take h.toNat).drop a.toNat)) v':=by
     intro η w A c τ' xs hs hf hc hcut
     unfold q42 at hcut
     simp only[Bool.and_eq_true,decide_eq_true_eq]at hcut
     obtain⟨⟨⟨c1,c2⟩,c3⟩,c4⟩:=hcut
     have f1:=q41 hf (m:=m.toNat) (by omega)
     have hl:(xs.take m.toNat).length=m.toNat:=by simp;omega
     rw[← hl]at f1
     have f2:=q3u (a:=a.toNat) (h:=h.toNat) (by rw[hl];rw[hl]at f1;exact f1) (by omega) (by omega)
     rw[List.take_take,Nat.min_eq_left (by omega)]at f2
     have g1:(0<=m/\m<=(c:Int)):=⟨by omega,by omega⟩
     have g2:(0<=h/\h<=((m.toNat:Nat):Int)):=⟨by omega,by omega⟩
     have g3:(0<=a/\a<=((h.toNat:Nat):Int)):=⟨by omega,by omega⟩
     refine⟨_,?_,.fz f2⟩
     rw[hs]
     simp only[Instr.sliceAt,Instr.slice,Sem.run_bind,run_underlying hu,Result.andThen_ok,Instr.sliceBounds,Instr.sliceBound,asIntOf,g1,g2,g3,and_self,if_true,sizeOf,typeInfo,run_program,hj,Sem.run_pure,hjs]
    split at hx
    ·rename_i τ' xs
     cases hc:Nat.beq τ'.size τ.size with
     | false=>rw[hc]at hx;cases hx
     | true =>
      rw[hc,cond_true]at hx
      rw[Nat.beq_eq]at hc
      cases hcut:q42 a h m xs.length with
      | false=>rw[hcut]at hx;cases hx
      | true =>
       rw[hcut,cond_true]at hx
       refine⟨(_,H),hx,Logged.refl _,fun M η w v lo' hi' mx' h hM hv hlo hhi hmx=>?_⟩
       cases hlo with
       | some e1 => cases hhi with
        | some e2 => cases hmx with
         | some e3 =>
          cases e1;cases e2;cases e3
          cases hv with
          | fz hf =>
           obtain⟨A,c,rfl,h1,h2⟩:=id hf
           obtain⟨v',e1,e2⟩:=key hc hf h1 hcut
           exact q22 h e1 e2
    ·rename_i n
     split at hx
     ·rename_i τ' xs hg
      cases hc:Nat.beq τ'.size τ.size with
      | false=>rw[hc]at hx;cases hx
      | true =>
       rw[hc,cond_true]at hx
       rw[Nat.beq_eq]at hc
       cases hcut:q42 a h m xs.length with
       | false=>rw[hcut]at hx;cases hx
       | true =>
        rw[hcut,cond_true]at hx
        refine⟨(_,H.put n none),hx,Logged.put _ hg _,fun M η w v lo' hi' mx' h hM hv hlo hhi hmx=>?_⟩
        cases hlo with
        | some e1 => cases hhi with
         | some e2 => cases hmx with
          | some e3 =>
           cases e1;cases e2;cases e3
           cases hv with
           | rs hh =>
            obtain⟨η1,f1,f2⟩:=q1b h hg hh
            cases f2 with
            | fz hf =>
             obtain⟨A,c,rfl,h1,h2⟩:=id hf
             obtain⟨v',e1,e2⟩:=key (w:=w) hc hf h1 hcut
             exact⟨v',w,η1,e1,e2,f1⟩
     ·cases hx
    ·cases hx
   ·cases hx
  ·cases hx
 ·cases hx
def q45 (τ:Row) (l:LV) (lo hi mx:Option LV) (H:LH) (k:LV->LH->Option β):Option β :=
 match l with
 | .nils => match lo, hi, mx with
  | none,some (.int _ 0),none=>k .nils H
  | _,_,_=>none
 | .rs m => match H.get m with
  | some (.rows τ' xs) => bif Nat.beq τ'.size τ.size then (match lo, hi, mx with
   | none,some (.int _ h),none=>bif decide (0<=h)&&decide (h<=xs.length) then k (.rs H.next) (H.alloc (.pref m h.toNat)) else none
   | some (.int _ a),none,none=>bif decide (0<=a)&&decide (a<xs.length) then k (.rs H.next) (H.alloc (.view m a.toNat τ'.size)) else bif decide (a=xs.length) then k (.fz τ' []) H else none
   | some (.int _ a),some (.int _ h),some (.int _ x)=>bif decide (0<=a)&&decide (a<=h)&&decide (h<=x)&&decide (x<=xs.length) then k .undef H else none
   | _,_,_=>none) else none
  | some (.pref b0 q) => (match H.get b0 with
   | some (.rows τ' xs) => bif Nat.beq τ'.size τ.size then (match lo, hi, mx with
    | some (.int _ a),some (.int _ h),none=>bif decide (0<=a)&&decide (a<xs.length)&&decide (h=xs.length) then k (.rs H.next) (H.alloc (.view b0 a.toNat τ'.size)) else none
    | _,_,_=>none) else none
   | _=>none)
  | _=>none
 | _=>none
def q46 (T:Tys) (t:TypeId):Bool:=match T.find t with | some i=>i.lit | none=>false
def q47 (T:Tys) (t:TypeId):Row:=match T.find t with | some i=>(match i.kind with | .slice _ τ=>τ | _=>.nil) | none=>.nil
theorem q48 (hT:TysOK P T) {t:TypeId} {l:LV} {lo hi mx:Option LV} {k:LV->LH->Option β} (hrow:0<(q47 T t).size) (hx:q45 (q47 T t) l lo hi mx H k=some b):∃ r,k r.1 r.2=some b/\Logged H r.2/\∀ M η w v lo' hi' mx',HR M η H w->r.2.next<=M->VR η l v->OV η lo lo'->OV η hi hi'->OV η mx mx'->Sim P M H η w (Instr.sliceAt t v lo' hi' mx') r:=by
 obtain⟨i,e,τ,hi0,hk,hr⟩:∃ i e τ,T.find t=some i/\i.kind=.slice e τ/\q47 T t=τ:=by
  unfold q47 at hrow ⊢
  split at hrow
  ·rename_i i h1
   split at hrow
   ·rename_i e τ h2;exact⟨i,e,τ,h1,h2,rfl⟩
   ·exact absurd hrow (Nat.lt_irrefl 0)
  ·exact absurd hrow (Nat.lt_irrefl 0)
 rw[hr]at hx
 have hu:=(hT t i hi0).und
 rw[hk]at hu
 obtain⟨hu,_,_,j,z,hj,_,_,hjs,_⟩:=hu
 unfold q45 at hx
 split at hx
 ·split at hx
  ·refine⟨(.nils,H),hx,Logged.refl _,fun M η w v lo' hi' mx' h hM hv hlo hhi hmx=>?_⟩
   cases hv;cases hlo;cases hmx
   cases hhi with
   | some e1 =>
    cases e1
    refine q22 h (v:=.slice none 0 0) ?_ .nils
    simp[Instr.sliceAt,Instr.slice,run_underlying hu,Instr.sliceBounds,Instr.sliceBound,asIntOf,sizeOf,typeInfo,hj]
  ·cases hx
 ·rename_i m
  split at hx
  ·rename_i τ' xs hg
   cases hc:Nat.beq τ'.size τ.size with
   | false=>rw[hc]at hx;cases hx
   | true =>
    rw[hc,cond_true]at hx
    rw[Nat.beq_eq]at hc
    split at hx
    ·rename_i kk hh0
     cases hb:decide (0<=hh0)&&decide (hh0<=(xs.length:Int)) with
     | false=>rw[hb]at hx;cases hx
     | true =>
      rw[hb,cond_true]at hx
      rw[Bool.and_eq_true,decide_eq_true_eq,decide_eq_true_eq]at hb
      obtain⟨q,rfl⟩:∃ q:Nat,hh0=q:=⟨hh0.toNat,by omega⟩
      rw[Int.toNat_natCast]at hx
      have hq:q<=xs.length:=by omega
      refine⟨(.rs H.next,H.alloc (.pref m q)),hx,Logged.alloc _ _,fun M η w v lo' hi' mx' h hM hv hlo hhi hmx=>?_⟩
      cases hlo;cases hmx
      cases hhi with
      | some e1 =>
       cases e1
       cases hv with
       | rs hh =>
        cases h.live _ _ hg with
        | none hL hh' =>
         rename_i A
         rw[hh]at hh';injection hh' with hh';subst hh'
         have hq0:q=0:=by simpa using hq
         subst hq0
         have hle:=h.le_put hM none (some (.slice A 0 0))
         have hadv:=q10 (ob:=.pref m 0) (L:=none) (v:=some (.slice A 0 0)) (w':=w) h hM (Nat.le_refl _) (fun _ _=>rfl) rfl rfl rfl (Nat.le_refl _)
          (.pref (Emb.put_loc ..) (hle.hdr _ _ hh) (Nat.le_refl _) (Emb.put_hdr ..)) (fun L0 h0=>by cases h0) (fun v0 h0=>by injection h0 with h0;exact⟨_,_,_,h0.symm⟩)
         refine⟨.slice A 0 0,w,_,?_,.rs (Emb.put_hdr ..),hadv⟩
         simp[Instr.sliceAt,Instr.slice,run_underlying hu,Instr.sliceBounds,Instr.sliceBound,asIntOf,sizeOf,typeInfo,hj]
        | rows hL ha hh' hcc hr' =>
         rename_i L c
         rw[hh]at hh';injection hh' with hh';subst hh'
         have hle:=h.le_put hM none (some (.slice (some ⟨L.block,L.base,none⟩) q c))
         have hadv:=q10 (ob:=.pref m q) (L:=none) (v:=some (.slice (some ⟨L.block,L.base,none⟩) q c)) (w':=w) h hM (Nat.le_refl _) (fun _ _=>rfl) rfl rfl rfl (Nat.le_refl _)
          (.pref (Emb.put_loc ..) (hle.hdr _ _ hh) hq (Emb.put_hdr ..)) (fun L0 h0=>by cases h0) (fun v0 h0=>by injection h0 with h0;exact⟨_,_,_,h0.symm⟩)
         refine⟨.slice (some ⟨L.block,L.base,none⟩) q c,w,_,?_,.rs (Emb.put_hdr ..),hadv⟩
         have hqc:q<=c:=by omega
         simp[Instr.sliceAt,Instr.slice,run_underlying hu,Instr.sliceBounds,Instr.sliceBound,asIntOf,sizeOf,typeInfo,hj,hqc,Addr.add_lit]
    ·rename_i kk a
     cases hb:decide (0<=a)&&decide (a<(xs.length:Int)) with
     | false =>
      rw[hb,cond_false]at hx
      cases hb2:decide (a=(xs.length:Int)) with
      | false=>rw[hb2]at hx;cases hx
      | true =>
       rw[hb2,cond_true]at hx
       rw[decide_eq_true_eq]at hb2
       subst hb2
       refine⟨(.fz τ' [],H),hx,Logged.refl _,fun M η w v lo' hi' mx' h hM hv hlo hhi hmx=>?_⟩
       cases hhi;cases hmx
       cases hlo with
       | some e1 =>
        cases e1
        cases hv with
        | rs hh =>
         cases h.live _ _ hg with
         | none hL hh' =>
          rename_i A
          rw[hh]at hh';injection hh' with hh';subst hh'
          refine q22 h (v:=.slice A 0 0) ?_ (.fz ⟨A,0,rfl,Nat.le_refl _,fun _=>rfl,fun i x hx=>by simp at hx⟩)
          simp[Instr.sliceAt,Instr.slice,run_underlying hu,Instr.sliceBounds,Instr.sliceBound,asIntOf,sizeOf,typeInfo,hj]
         | rows hL ha hh' hcc hr' =>
          rename_i L c
          rw[hh]at hh';injection hh' with hh';subst hh'
          by_cases hq:c=xs.length
          ·subst hq
           refine q22 h (v:=.slice (some ⟨L.block,L.base,none⟩) 0 0) ?_ (.fz ⟨_,0,rfl,Nat.le_refl _,(fun h=>by cases h),fun i x hx=>by simp at hx⟩)
           simp[Instr.sliceAt,Instr.slice,run_underlying hu,Instr.sliceBounds,Instr.sliceBound,asIntOf,sizeOf,typeInfo,hj]
          ·refine q22 h (v:=.slice (some ⟨L.block,L.base+xs.length*j.size,none⟩) 0 (c-xs.length)) ?_ (.fz ⟨_,_,rfl,Nat.zero_le _,(fun h=>by cases h),fun i x hx=>by simp at hx⟩)
           simp[Instr.sliceAt,Instr.slice,run_underlying hu,Instr.sliceBounds,Instr.sliceBound,asIntOf,sizeOf,typeInfo,hj,hcc,hq,Addr.add_lit]
     | true =>
      rw[hb,cond_true]at hx
      rw[Bool.and_eq_true,decide_eq_true_eq,decide_eq_true_eq]at hb
      obtain⟨q,rfl⟩:∃ q:Nat,a=q:=⟨a.toNat,by omega⟩
      rw[Int.toNat_natCast]at hx
      have hq:q<xs.length:=by omega
      refine⟨(.rs H.next,H.alloc (.view m q τ'.size)),hx,Logged.alloc _ _,fun M η w v lo' hi' mx' h hM hv hlo hhi hmx=>?_⟩
      cases hhi;cases hmx
      cases hlo with
      | some e1 =>
       cases e1
       cases hv with
       | rs hh =>
        cases h.live _ _ hg with
        | none hL hh'=>simp at hq
        | rows hL ha hh' hcc hr' =>
         rename_i L c
         rw[hh]at hh';injection hh' with hh';subst hh'
         have hne:m≠H.next:=by have:=h.lt _ _ hg;omega
         have hle:=h.le_put hM none (some (.slice (some ⟨L.block,L.base+q*τ'.size,none⟩) (xs.length-q) (c-q)))
         have hadv:=q10 (ob:=.view m q τ'.size) (L:=none) (v:=some (.slice (some ⟨L.block,L.base+q*τ'.size,none⟩) (xs.length-q) (c-q))) (w':=w) h hM (Nat.le_refl _) (fun _ _=>rfl) rfl rfl rfl (Nat.le_refl _)
          (.view (Emb.put_loc ..) (hle.loc _ _ hL) (hle.hdr _ _ hh) hq (Emb.put_hdr ..)) (fun L0 h0=>by cases h0) (fun v0 h0=>by injection h0 with h0;exact⟨_,_,_,h0.symm⟩)
         refine⟨_,w,_,?_,.rs (Emb.put_hdr ..),hadv⟩
         have hqc:¬ c=q:=by omega
         have hq':q<=xs.length:=by omega
         simp[Instr.sliceAt,Instr.slice,run_underlying hu,Instr.sliceBounds,Instr.sliceBound,asIntOf,sizeOf,typeInfo,hj,hjs,hc,hqc,hcc,hq',Addr.add_lit]
    ·rename_i ka a kh h0 kx x0
     cases hb:decide (0<=a)&&decide (a<=h0)&&decide (h0<=x0)&&decide (x0<=(xs.length:Int)) with
     | false=>rw[hb]at hx;cases hx
     | true =>
      rw[hb,cond_true]at hx
      simp only[Bool.and_eq_true,decide_eq_true_eq]at hb
      obtain⟨⟨⟨b1,b2⟩,b3⟩,b4⟩:=hb
      obtain⟨qa,rfl⟩:∃ q:Nat,a=q:=⟨a.toNat,by omega⟩
      obtain⟨qh,rfl⟩:∃ q:Nat,h0=q:=⟨h0.toNat,by omega⟩
      obtain⟨qx,rfl⟩:∃ q:Nat,x0=q:=⟨x0.toNat,by omega⟩
      have b2':qa<=qh:=by omega
      have b3':qh<=qx:=by omega
      have b4':qx<=xs.length:=by omega
      refine⟨(.undef,H),hx,Logged.refl _,fun M η w v lo' hi' mx' h hM hv hlo hhi hmx=>?_⟩
      cases hlo with
      | some e1 =>
       cases hhi with
       | some e2 =>
        cases hmx with
        | some e3 =>
         cases e1;cases e2;cases e3
         cases hv with
         | rs hh =>
          obtain⟨A,c,rfl,hcc⟩:∃ A c,v=.slice A xs.length c/\xs.length<=c:=by
           cases h.live _ _ hg with
           | none hL hh'=>rw[hh]at hh';injection hh' with hh';exact⟨_,_,hh',Nat.le_refl _⟩
           | rows hL ha hh' hcc hr'=>rw[hh]at hh';injection hh' with hh';exact⟨_,_,hh',hcc⟩
          have b5:qx<=c:=by omega
          have b6:qa<=qx:=by omega
          cases A with
          | none=>exact q22 h (v:=.slice none (qh-qa) (qx-qa)) (by simp[Instr.sliceAt,Instr.slice,run_underlying hu,Instr.sliceBounds,Instr.sliceBound,asIntOf,sizeOf,typeInfo,hj,b2',b3',b5]) (.undef _)
          | some ad=>exact q22 h (v:=.slice (if qx=qa then some ad else some (ad.add (qa*j.size))) (qh-qa) (qx-qa)) (by simp[Instr.sliceAt,Instr.slice,run_underlying hu,Instr.sliceBounds,Instr.sliceBound,asIntOf,sizeOf,typeInfo,hj,b2',b3',b5]) (.undef _)
    ·cases hx
  ·rename_i b0 q hgp
   split at hx
   ·rename_i τ' xs hg
    cases hc:Nat.beq τ'.size τ.size with
    | false=>rw[hc]at hx;cases hx
    | true =>
     rw[hc,cond_true]at hx
     rw[Nat.beq_eq]at hc
     split at hx
     ·rename_i ka a kh h0
      cases hb:decide (0<=a)&&decide (a<(xs.length:Int))&&decide (h0=(xs.length:Int)) with
      | false=>rw[hb]at hx;cases hx
      | true =>
       rw[hb,cond_true]at hx
       simp only[Bool.and_eq_true,decide_eq_true_eq]at hb
       obtain⟨⟨b1,b2⟩,rfl⟩:=hb
       obtain⟨qa,rfl⟩:∃ q:Nat,a=q:=⟨a.toNat,by omega⟩
       rw[Int.toNat_natCast]at hx
       have hq:qa<xs.length:=by omega
       refine⟨(.rs H.next,H.alloc (.view b0 qa τ'.size)),hx,Logged.alloc _ _,fun M η w v lo' hi' mx' h hM hv hlo hhi hmx=>?_⟩
       cases hmx
       cases hlo with
       | some e1 =>
        cases hhi with
        | some e2 =>
         cases e1;cases e2
         cases hv with
         | rs hh0 =>
          cases h.live _ _ hgp with
          | pref hLp hhp hkp hmp =>
           rename_i n0 c0 A0
           rw[hh0]at hmp;injection hmp with hmp;subst hmp
           cases h.live _ _ hg with
           | none hL hh'=>simp at hq
           | rows hL ha hh' hcc hr' =>
            rename_i L c
            rw[hhp]at hh';injection hh' with hh';injection hh' with k4 k5 k6;subst k4 k5 k6
            have hle:=h.le_put hM none (some (.slice (some ⟨L.block,L.base+qa*τ'.size,none⟩) (xs.length-qa) (c0-qa)))
            have hadv:=q10 (ob:=.view b0 qa τ'.size) (L:=none) (v:=some (.slice (some ⟨L.block,L.base+qa*τ'.size,none⟩) (xs.length-qa) (c0-qa))) (w':=w) h hM (Nat.le_refl _) (fun _ _=>rfl) rfl rfl rfl (Nat.le_refl _)
             (.view (Emb.put_loc ..) (hle.loc _ _ hL) (hle.hdr _ _ hhp) hq (Emb.put_hdr ..)) (fun L0 h0=>by cases h0) (fun v0 h0=>by injection h0 with h0;exact⟨_,_,_,h0.symm⟩)
            refine⟨_,w,_,?_,.rs (Emb.put_hdr ..),hadv⟩
            have hqc:¬ c0=qa:=by omega
            have hq':qa<=xs.length:=by omega
            simp[Instr.sliceAt,Instr.slice,run_underlying hu,Instr.sliceBounds,Instr.sliceBound,asIntOf,sizeOf,typeInfo,hj,hjs,hc,hqc,hcc,hq',Addr.add_lit]
     ·cases hx
   ·cases hx
  ·cases hx
 ·cases hx
def q49 (T:Tys) (t:TypeId) (l:LV) (lo hi mx:Option LV) (H:LH) (k:LV->LH->Option β):Option β :=
 bif q46 T t&&Nat.blt 0 (q47 T t).size then q45 (q47 T t) l lo hi mx H k else
 match mx with
 | some m => match lo with
  | none=>q3x T t l none hi (some m) H k
  | some lo=>q43 T t l lo hi m H k
 | none=>q3z T t l lo hi H k
theorem q4a (hT:TysOK P T) {t:TypeId} {l:LV} {lo hi mx:Option LV} {k:LV->LH->Option β} (hx:q49 T t l lo hi mx H k=some b):∃ r,k r.1 r.2=some b/\Logged H r.2/\∀ M η w v lo' hi' mx',HR M η H w->r.2.next<=M->VR η l v->OV η lo lo'->OV η hi hi'->OV η mx mx'->Sim P M H η w (Instr.sliceAt t v lo' hi' mx') r:=by
 unfold q49 at hx
 rw[Bool.cond_eq_ite]at hx
 split at hx
 ·rename_i hlit
  simp only[Bool.and_eq_true,Nat.blt_eq]at hlit
  exact q48 hT hlit.2 hx
 split at hx
 ·split at hx
  ·exact q3y hT hx
  ·exact q44 hT hx
 ·exact q40 hT hx
def mkB (l c:Int):Bool:=decide (0<=l)&&decide (l<=c)&&decide (c<=100000)
def q4b (T:Tys) (t:TypeId) (l c:LV) (H:LH) (k:LV->LH->Option β):Option β :=
 match T.find t,l,c with
 | some i, .int _ l, .int _ c => match i.kind with
  | .slice _ τ=>bif mkB l c then k (.rs H.next) (H.alloc (.rows τ (List.replicate l.toNat (zero τ)))) else none
  | _=>none
 | _,_,_=>none
theorem q4c (τ:Row) {n m:Nat} (hnm:n<=m) (h0:0<τ.size) (j:Nat) (c:LV) (hc:(flat τ (List.replicate n (zero τ)))[j]?=some c):∃ v,(madeCells (q1o τ).toArray (m*τ.size))[j]?=some v/\VR η c v:=by
 have hj:j<(flat τ (List.replicate n (zero τ))).length:=(List.getElem?_eq_some_iff.1 hc).1
 obtain⟨d,rfl⟩:∃ d,m=n+d:=⟨m-n,by omega⟩
 have:=q2r (η:=η) τ (n+d) h0
 rw[← List.replicate_append_replicate,qd]at this
 obtain⟨v,h1,h2⟩:=this.get (i:=j) (c:=c) (by rw[List.getElem?_append_left hj];exact hc)
 exact⟨v,by simpa using h1,h2⟩
theorem q4d (hT:TysOK P T) {t:TypeId} {l c:LV} {k:LV->LH->Option β} (hx:q4b T t l c H k=some b):∃ r,k r.1 r.2=some b/\Logged H r.2/\∀ M η w v u,HR M η H w->r.2.next<=M->VR η l v->VR η c u->Sim P M H η w (Instr.makeSlice t v u) r:=by
 unfold q4b at hx
 split at hx
 ·rename_i i k1 l k2 c hi
  have hu:=(hT t i hi).und
  split at hx
  ·rename_i e τ hk
   rw[hk]at hu
   obtain⟨hu,_,hpos,j,z,hj,hz,hzv,hjs,hjb⟩:=hu
   cases hc:mkB l c with
   | false=>rw[hc]at hx;cases hx
   | true =>
    rw[hc,cond_true]at hx
    unfold mkB at hc
    simp only[Bool.and_eq_true,decide_eq_true_eq]at hc
    obtain⟨⟨c1,c2⟩,c3⟩:=hc
    refine⟨(.rs H.next,H.alloc (.rows τ (List.replicate l.toNat (zero τ)))),hx,Logged.alloc _ _,fun M η w v u h hM hv hu2=>?_⟩
    cases hv;cases hu2
    have hb:(j.bytes:Int)*c<=281474976710656:=by
     have:(j.bytes:Int)*c<=1000*100000:=by
      have h1:(j.bytes:Int)<=1000:=by omega
      exact Int.mul_le_mul h1 c3 (by omega) (by omega)
     omega
    have hrun:=run_make (P:=P) w t e j z hu hj hz k1 k2 l c c1 c2 hb (by omega)
    rw[hzv,hjs]at hrun
    have hlen:(List.replicate l.toNat (zero τ)).length=l.toNat:=by simp
    refine⟨_,_,_,hrun,?_,q14 (w':=w.alloc (.cells (madeCells (q1o τ).toArray (c.toNat*τ.size)) e)) (e:=e) (τ:=τ) (xs:=List.replicate l.toNat (zero τ)) (c:=c.toNat) h hM rfl rfl rfl rfl (Nat.le_refl _) (by omega) (by simp[size_madeCells]) (q4c τ (by omega) hpos)⟩
    refine .rs ?_
    rw[Emb.put_hdr,hlen]
  ·cases hx
 ·cases hx
def isSl (T:Tys) (t:TypeId):Bool:=match T.find t with | some i=>(match i.kind with | .slice _ _=>true | _=>false) | none=>false
theorem q4e (hT:TysOK P T) {t:TypeId} (h:isSl T t=true):∃ e,P.underlying t=some (.slice e):=by
 unfold isSl at h
 split at h
 ·rename_i i hi
  have hu:=(hT t i hi).und
  split at h
  ·rename_i e τ hk;rw[hk]at hu;exact⟨e,hu.1⟩
  ·cases h
 ·cases h
def tlen (T:Tys) (ts:Array TypeId) (l:LV) (H:LH) (k:LV->LH->Option β):Option β :=
 match ts.toList with
 | t::_=>bif isSl T t then q3v l H fun n=>k (.int .i64 n) H else none
 | _=>none
theorem q4f (hT:TysOK P T) {ts:Array TypeId} {l:LV} {k:LV->LH->Option β} (hx:tlen T ts l H k=some b):∃ r,k r.1 r.2=some b/\r.2=H/\∀ M η w v ty,HR M η H w->VR η l v->Sim P M H η w (Builtin.len_ ts ty #[v]) r:=by
 unfold tlen at hx
 split at hx
 ·rename_i t rest hts
  cases hc:isSl T t with
  | false=>rw[hc]at hx;cases hx
  | true =>
   rw[hc,cond_true]at hx
   obtain⟨e,hu⟩:=q4e hT hc
   obtain⟨n,h1,h2⟩:=q3w hx
   refine⟨(.int .i64 n,H),h1,rfl,fun M η w v ty h hv=>?_⟩
   obtain⟨A,c,rfl,_⟩:=h2 M η w v h hv
   have ht:ts[0]?=some t:=by rw[← Array.getElem?_toList,hts];rfl
   exact q22 h (v:=.int .i64 n) (by simp[Builtin.len_,ht,run_underlying hu,goInt]) (.int _ _)
 ·cases hx
def q4g (l:LV) (i:Nat) (H:LH) (k:LV->LH->Option β):Option β :=
 match l with
 | .tup vs=>match vs[i]? with | some l=>k l H | none=>none
 | _=>none
theorem q4h {l:LV} {i:Nat} {k:LV->LH->Option β} (hx:q4g l i H k=some b):∃ r,k r.1 r.2=some b/\r.2=H/\∀ M η w v,HR M η H w->VR η l v->Sim P M H η w (Instr.extract v i) r:=by
 unfold q4g at hx
 split at hx
 ·split at hx
  ·rename_i cs l hl
   refine⟨(l,H),hx,rfl,fun M η w v h hv=>?_⟩
   cases hv with
   | tup hl2 hh =>
    rename_i vs
    obtain⟨v,h1,h2⟩:=VRs.get ⟨hl2,hh⟩ hl
    exact q22 h (v:=v) (by simp[Instr.extract,h1]) h2
  ·cases hx
 ·cases hx
end
section
variable {P:Program} {T:Tys} {M:Nat} {H:LH} {η:Emb} {w:World} {β:Type} {b:β}
structure AppRun (P:Program) (w:World) (run:Value->Sem Value) (m sz:Nat) (news:List Value):Prop where
 zero:m=0->∀ A n c,n<=c->(run (.slice A n c)).run P w=.ok (.slice A n c) w
 room:∀ b o n c,n+m<=c->(∀ j,j<news.length->(w.cell? ⟨b,o+n*sz+j,none⟩).isSome=true)->(∀ j,j<news.length->w.frozen? ⟨b,o+n*sz+j,none⟩=false) ->
  (run (.slice (some ⟨b,o,none⟩) n c)).run P w=.ok (.slice (some ⟨b,o,none⟩) (n+m) c) (w.setCells b (o+n*sz) news)
 grow:∀ A n c (olds:List Value),0<m->c<n+m->n+m<=100000->n<=c->olds.length=n*sz->(∀ b,A=some b->∀ (j:Nat) v,olds[j]?=some v->w.cell? (b.add j)=some v)->(A=none->n=0/\c=0) ->
  ∃ c' e rest,n+m<=c'/\(olds++news++rest).length=c'*sz/\(run (.slice A n c)).run P w=.ok (.slice (some ⟨w.heap.size,0,none⟩) (n+m) c') (w.drew.alloc (.cells (olds++news++rest).toArray e))
theorem q4i {t t2 ty e:TypeId} {i:TypeInfo} {z:Value} {m:Nat} {vs:List Value} {x:Value} (ht:P.underlying t=some (.slice e)) (ht2:∃ e2,P.underlying t2=some (.slice e2)) (hi:P.info? e=some i) (hz:i.zero=some z)
 (hzs:z.cells.size=i.size) (hby:i.bytes<=1000) (hvl:vs.length=m*i.size) (h1:∀ v∈vs,v.oneCell'=true)
 (hlen:∀ w',(Builtin.lenOf x).run P w'=.ok m w') (hfc:∀ w':World,(∀ a,w'.cell? a=w.cell? a)->(Builtin.firstCells i.size m x).run P w'=.ok vs.toArray w') :
 AppRun P w (fun s=>Builtin.append_ #[t,t2] ty #[s,x]) m i.size vs:=by
 obtain⟨e2,hu2⟩:=ht2
 have hf0:=hfc w (fun _=>rfl)
 have hf1:=hfc w.drew (fun _=>rfl)
 refine⟨fun hm A n c hn=>?_,fun b o n c hc hs hf=>?_,fun A n c olds hm hc hb hnc hol hcell hA=>?_⟩
 ·subst hm
  have:vs=[]:=by simpa using hvl
  subst this
  cases A<;>simp[Builtin.append_,run_underlying ht,run_underlying hu2,sizeOf,typeInfo,hi,hlen,hn,hf0,storeCells]
 ·have hst:=run_storeCells_cells (P:=P) b (o+n*i.size) vs 0 w (by simpa using hs) (by simpa using hf) h1
  simp only[Nat.add_zero]at hst
  simp[Builtin.append_,run_underlying ht,run_underlying hu2,sizeOf,typeInfo,hi,hlen,hc,hf0,Addr.add_lit,hst]
 ·have hn:¬ (n+m<=c):=by omega
  have h63':¬ (9223372036854775807<((n:Int)+(m:Int))):=by omega
  have hbytes:(n+m)*i.bytes<=140737488355328:=by
   have:(n+m)*i.bytes<=100000*1000:=Nat.mul_le_mul hb hby
   omega
  have h48:=growslice_fits hc hbytes
  have h48':¬ (281474976710656<Builtin.nextslicecap (n+m) c*i.bytes):=by omega
  have hold:(Builtin.firstCells i.size n (.slice A n c)).run P w.drew=.ok olds.toArray w.drew:=by
   cases A with
   | none =>
    obtain⟨rfl,_⟩:=hA rfl
    have:olds=[]:=by simpa using hol
    subst this
    exact run_firstCells_none (P:=P) w.drew _ _ _ _
   | some b=>exact run_firstCells_some (P:=P) w.drew i.size n b n c olds hol (fun j v hj=>by have:=hcell b rfl j v hj;exact this)
  refine⟨grownCap w (n+m) c e,e,(Builtin.zeroCells z.cells (grownCap w (n+m) c e-(n+m))).toList,grownCap_ge w (n+m) c e,?_,?_⟩
  ·have hge:=grownCap_ge w (n+m) c e
   simp only[List.length_append,hol,hvl,Builtin.zeroCells,Array.toList_map,Array.toList_range,List.length_map,List.length_range,hzs]
   rw[← Nat.add_mul,← Nat.add_mul];congr 1;omega
  ·simp[Builtin.append_,run_underlying ht,run_underlying hu2,sizeOf,typeInfo,zeroValue,hi,hz,hlen,hn,h63',h48',Question.forced,hf1,hold,newRow,grownCap]
   congr 2
   apply Array.ext'
   simp[List.append_assoc]
theorem q4j:∀ (τ:Row) (x:den τ),(split τ x).all LV.cellB=true
 | .nil,_=>rfl
 | .int _ r,x=>by rw[split,List.all_cons,q4j r];rfl
 | .bool r,x=>by rw[split,List.all_cons,q4j r];rfl
 | .sl _ r,x=>by rw[split,List.all_cons,q4j r];rfl
theorem q4k (τ:Row):∀ xs:List (den τ),(flat τ xs).all LV.cellB=true
 | []=>rfl
 | x::xs=>by rw[flat,List.all_append,q4j,q4k τ xs];rfl
theorem q4l {bl o:Nat} {τ:Row} {xs:List (den τ)} (h0:0<τ.size) (hl:∀ (i:Nat) x,xs[i]?=some x->Lie η w bl (o+i*τ.size) (split τ x)):Lie η w bl o (flat τ xs):=fun j c hc=>by
 have hj:j<xs.length*τ.size:=by rw[← qc];exact (List.getElem?_eq_some_iff.1 hc).1
 have e0:j=j/τ.size*τ.size+j%τ.size:=by rw[Nat.mul_comm,Nat.div_add_mod]
 have hlt:j%τ.size<τ.size:=Nat.mod_lt _ h0
 have hdiv:j/τ.size<xs.length:=by rw[Nat.div_lt_iff_lt_mul h0];exact hj
 rw[e0,qe τ xs (j/τ.size) _ (j%τ.size) (q2w hdiv) hlt]at hc
 obtain⟨v,h1,h2⟩:=hl _ _ (q2w hdiv) _ c hc
 rw[Nat.add_assoc,← e0]at h1
 exact⟨v,h1,h2⟩
structure Src (P:Program) (η:Emb) (w:World) (τ:Row) (ys:List (den τ)) (v:Value):Prop where
 src:∃ vs,VRs η (flat τ ys) vs/\(∀ w':World,(Builtin.lenOf v).run P w'=.ok ys.length w')/\∀ w':World,(∀ a,w'.cell? a=w.cell? a)->(Builtin.firstCells τ.size ys.length v).run P w'=.ok vs.toArray w'
theorem q4m {τ:Row} {ys:List (den τ)} {bl o c:Nat} (hl:Lie η w bl o (flat τ ys)):Src P η w τ ys (.slice (some ⟨bl,o,none⟩) ys.length c):=by
 have hcut:cut (flat τ ys) 0 (flat τ ys).length=some (flat τ ys):=by unfold cut;rw[Nat.zero_add,Nat.ble_eq_true_of_le (Nat.le_refl _),List.drop_zero,List.take_length];rfl
 obtain⟨vs,h1,h2⟩:=hl.cut hcut
 refine⟨vs,h1,fun w'=>by simp[Builtin.lenOf],fun w' hw=>?_⟩
 exact run_firstCells_some (P:=P) w' τ.size ys.length ⟨bl,o,none⟩ ys.length c vs (by rw[← h1.1,qc]) (fun j v hj=>by rw[Addr.add_lit,hw];have:=h2 j v hj;rwa[Nat.add_zero]at this)
theorem q4n {τ:Row} (A:Option Addr) (c:Nat):Src P η w τ [] (.slice A 0 c):=by
 refine⟨[],VRs.nil,fun w'=>by simp[Builtin.lenOf],fun w' _=>?_⟩
 cases A with
 | none=>exact run_firstCells_none (P:=P) w' _ _ _ _
 | some A=>exact run_firstCells_some (P:=P) w' τ.size 0 A 0 c [] (by simp) (by simp)
theorem q4o (h:HR M η H w) {τ:Row} (h0:0<τ.size) {ys:List (den τ)} {v:Value} (hf:FzR η.fz τ ys v):Src P η w τ ys v:=by
 obtain⟨A,c,rfl,h1,hn0,h2⟩:=hf
 cases ys with
 | nil=>exact q4n A c
 | cons y ys =>
  obtain⟨bl,o,rfl,_⟩:=h2 0 y rfl
  refine q4m (q4l h0 fun i x hx=>?_)
  obtain⟨b',o',e1,e2⟩:=h2 i x hx
  injection e1 with e1;injection e1 with e3 e4;subst e3 e4
  exact q2z h τ x _ e2
def q4p (τ σ:Row) (ys:List (den τ)):Option (List (den σ)):=if h:τ=σ then some (h▸ys) else none
theorem q4q {τ σ:Row} {ys:List (den τ)} {zs:List (den σ)} (h:q4p τ σ ys=some zs):∃ e:τ=σ,zs=e▸ys:=by
 unfold q4p at h
 split at h
 ·rename_i e;injection h with h;exact⟨e,h.symm⟩
 ·cases h
def tsrc (σ:Row) (x:LV) (H:LH) (k:List (den σ)->Option β):Option β :=
 match x with
 | .nils=>k []
 | .fz τ ys=>match q4p τ σ ys with | some zs=>k zs | none=>none
 | .rs m => match H.get m with
  | some (.rows τ ys)=>match q4p τ σ ys with | some zs=>k zs | none=>none
  | _=>none
 | _=>none
theorem q4r {σ:Row} (h0:0<σ.size) {x:LV} {k:List (den σ)->Option β} (hx:tsrc σ x H k=some b):∃ ys,k ys=some b/\∀ M η w v,HR M η H w->VR η x v->Src P η w σ ys v:=by
 unfold tsrc at hx
 split at hx
 ·exact⟨[],hx,fun M η w v h hv=>by cases hv;exact q4n none 0⟩
 ·split at hx
  ·rename_i zs hc
   obtain⟨rfl,rfl⟩:=q4q hc
   exact⟨_,hx,fun M η w v h hv=>by cases hv with | fz hf=>exact q4o h h0 hf⟩
  ·cases hx
 ·rename_i m
  split at hx
  ·rename_i τ ys hg
   split at hx
   ·rename_i zs hc
    obtain⟨rfl,rfl⟩:=q4q hc
    refine⟨_,hx,fun M η w v h hv=>?_⟩
    cases hv with
    | rs hh =>
     cases h.live _ _ hg with
     | none hL hh'=>rw[hh]at hh';injection hh' with hh';subst hh';exact q4n _ _
     | rows hL ha hh' hc hr=>rw[hh]at hh';injection hh' with hh';subst hh';exact q4m ha.cell
   ·cases hx
  ·cases hx
 ·cases hx
def apB (n m:Nat):Bool:=Nat.ble (n+m) 100000
def q4s (T:Tys) (ts:Array TypeId) (s x:LV) (H:LH) (k:LV->LH->Option β):Option β :=
 match ts.toList with
 | [t, t2] => bif isSl T t2 then (match T.find t with
  | some i => match i.kind with
   | .slice _ τ => match s with
    | .nils=>tsrc τ x H fun ys=>bif apB 0 ys.length then k (.rs H.next) (H.alloc (.rows τ ys)) else none
    | .rs m => match H.get m with
     | some (.rows σ xs)=>bif decide (σ=τ) then tsrc σ x H fun ys=>bif apB xs.length ys.length then k (.rs H.next) ((H.put m none).alloc (.rows σ (xs++ys))) else none else none
     | _=>none
    | _=>none
   | _=>none
  | none=>none) else none
 | _=>none
theorem q4t:∀ τ:Row,(q1o τ).length=τ.size
 | .nil=>rfl
 | .int _ r=>by rw[q1o,List.length_cons,q4t r,Row.size]
 | .bool r=>by rw[q1o,List.length_cons,q4t r,Row.size]
 | .sl _ r=>by rw[q1o,List.length_cons,q4t r,Row.size]
theorem q4u (hT:TysOK P T) {ts:Array TypeId} {s x:LV} {k:LV->LH->Option β} (hx:q4s T ts s x H k=some b):∃ r,k r.1 r.2=some b/\Logged H r.2/\∀ M η w v u ty,HR M η H w->r.2.next<=M->VR η s v->VR η x u->Sim P M H η w (Builtin.append_ ts ty #[v,u]) r:=by
 unfold q4s at hx
 split at hx
 ·rename_i t t2 hts
  obtain rfl:ts=#[t,t2]:=by apply Array.ext';simpa using hts
  cases hs2:isSl T t2 with
  | false=>rw[hs2]at hx;cases hx
  | true =>
   rw[hs2,cond_true]at hx
   have hu2:=q4e hT hs2
   split at hx
   ·rename_i i hi
    have hu:=(hT t i hi).und
    split at hx
    ·rename_i e τ hk
     rw[hk]at hu
     obtain⟨hu,_,hpos,j,z,hj,hz,hzv,hjs,hjb⟩:=hu
     have hzs:z.cells.size=j.size:=by rw[hzv,hjs];simp[q4t]
     have run:∀ {η:Emb} {w:World} {ys:List (den τ)} {u:Value} {ty:TypeId},η.ok->Src P η w τ ys u->∃ vs,VRs η (flat τ ys) vs/\AppRun P w (fun s=>Builtin.append_ #[t,t2] ty #[s,u]) ys.length τ.size vs:=by
      intro η w ys u ty ho hsrc
      obtain⟨vs,h1,h2,h3⟩:=hsrc.src
      have:=q4i (P:=P) (w:=w) (ty:=ty) (x:=u) (m:=ys.length) (vs:=vs) hu hu2 hj hz hzs hjb (by rw[hjs,← h1.1,qc]) (q35 ho h1 (q4k τ ys)) h2 (by rw[hjs];exact h3)
      rw[hjs]at this
      exact⟨vs,h1,this⟩
     -- a new block
     have fresh:∀ {M η w H} {xs ys:List (den τ)} {olds vs:List Value} {A:Option Addr} {c:Nat} {rn:Value->Sem Value},HR M η H w->H.next<M->VRs η (flat τ xs) olds->VRs η (flat τ ys) vs->AppRun P w rn ys.length τ.size vs->apB xs.length ys.length=true->xs.length<=c->c<xs.length+ys.length ->
       (∀ a,A=some a->∀ (j:Nat) v,olds[j]?=some v->w.cell? (a.add j)=some v)->(A=none->xs.length=0/\c=0) ->
       ∃ v' w' η',(rn (.slice A xs.length c)).run P w=.ok v' w'/\VR η' (.rs H.next) v'/\Adv M H η w (H.alloc (.rows τ (xs++ys))) η' w':=by
      intro M η w H xs ys olds vs A c rn h hM ho hd hr hap hxc hc hcell hA
      unfold apB at hap
      rw[Nat.ble_eq]at hap
      have hlo:=ho.1
      rw[qc]at hlo
      obtain⟨c',e,rest,g1,g2,g3⟩:=hr.grow A xs.length c olds (by omega) hc hap hxc hlo.symm hcell hA
      have hos:=ho.append hd
      rw[← qd]at hos
      have hlen:(xs++ys).length=xs.length+ys.length:=List.length_append
      refine⟨_,_,_,g3,?_,q14 (w':=w.drew.alloc (.cells (olds++vs++rest).toArray e)) (e:=e) (τ:=τ) (xs:=xs++ys) (c:=c') h hM rfl rfl rfl rfl (Nat.le_succ _) (by omega) (by simp only[List.size_toArray,g2];exact Nat.le_refl _) (fun j c hc=>?_)⟩
      ·refine .rs ?_
       rw[Emb.put_hdr,hlen]
      ·obtain⟨v,a1,a2⟩:=hos.get hc
       refine⟨v,?_,a2⟩
       have hj:=(List.getElem?_eq_some_iff.1 a1).1
       rw[List.getElem?_toArray,List.getElem?_append_left hj];exact a1
     split at hx
     ·obtain⟨ys,h1,h2⟩:=q4r (P:=P) hpos hx
      cases hap:apB 0 ys.length with
      | false=>rw[hap]at h1;cases h1
      | true =>
       rw[hap,cond_true]at h1
       refine⟨(.rs H.next,H.alloc (.rows τ ys)),h1,Logged.alloc _ _,fun M η w v u ty h hM hv hu'=>?_⟩
       cases hv
       obtain⟨vs,e1,e2⟩:=run (ty:=ty) h.ok (h2 M η w u h hu')
       cases ys with
       | nil=>exact⟨_,_,_,e2.zero rfl none 0 0 (Nat.le_refl _),.rs (Emb.put_hdr ..),q15 h hM τ none⟩
       | cons y ys=>exact fresh (xs:=[]) (A:=none) (c:=0) h hM VRs.nil e1 e2 hap (Nat.le_refl _) (by simp) (fun a ha=>by cases ha) (fun _=>⟨rfl,rfl⟩)
     ·rename_i m
      split at hx
      ·rename_i σ xs hg
       cases hst:decide (σ=τ) with
       | false=>rw[hst]at hx;cases hx
       | true =>
        rw[hst,cond_true]at hx
        rw[decide_eq_true_eq]at hst;subst hst
        obtain⟨ys,h1,h2⟩:=q4r (P:=P) hpos hx
        cases hap:apB xs.length ys.length with
        | false=>rw[hap]at h1;cases h1
        | true =>
         rw[hap,cond_true]at h1
         refine⟨(.rs H.next,(H.put m none).alloc (.rows σ (xs++ys))),h1,(Logged.put H hg none).trans (Logged.alloc (H.put m none) _),fun M η w v u ty h hM hv hu'=>?_⟩
         obtain⟨vs,e1,e2⟩:=run (ty:=ty) h.ok (h2 M η w u h hu')
         have hk:=q18 h m
         have thru:∀ {s:Sem Value},(∃ v' w' η',s.run P w=.ok v' w'/\VR η' (.rs (H.put m none).next) v'/\Adv M (H.put m none) η w ((H.put m none).alloc (.rows σ (xs++ys))) η' w')->Sim P M H η w s (.rs H.next,(H.put m none).alloc (.rows σ (xs++ys))) :=
          fun⟨v',w',η',a1,a2,a3⟩=>⟨v',w',η',a1,a2,hk.trans a3⟩
         cases hv with
         | rs hh =>
          cases h.live _ _ hg with
          | none hL hh' =>
           rw[hh]at hh';injection hh' with hh';subst hh'
           rename_i A
           cases ys with
           | nil=>exact thru ⟨_,_,_,e2.zero rfl A 0 0 (Nat.le_refl _),.rs (Emb.put_hdr ..),q15 hk.hr hM σ A⟩
           | cons y ys=>exact thru (fresh (xs:=[]) (A:=A) (c:=0) hk.hr hM VRs.nil e1 e2 hap (Nat.le_refl _) (by simp) (fun a ha j v hj=>by simp at hj) (fun _=>⟨rfl,rfl⟩))
          | rows hL ha hh' hc hr =>
           rename_i L c
           rw[hh]at hh';injection hh' with hh';subst hh'
           rcases Nat.lt_or_ge c (xs.length+ys.length) with hcn | hcn
           ·have hcut:cut (flat σ xs) 0 (flat σ xs).length=some (flat σ xs):=by unfold cut;rw[Nat.zero_add,Nat.ble_eq_true_of_le (Nat.le_refl _),List.drop_zero,List.take_length];rfl
            obtain⟨olds,o1,o2⟩:=Lie.cut ha.cell hcut
            exact thru (fresh (A:=some ⟨L.block,L.base,none⟩) (c:=c) hk.hr hM o1 e1 e2 hap hc hcn (fun a ha j v hj=>by injection ha with ha;subst ha;rw[Addr.add_lit];have:=o2 j v hj;rwa[Nat.add_zero]at this) (fun hA=>by cases hA))
           ·have hlen:(xs++ys).length=xs.length+ys.length:=List.length_append
            have hmul:(xs.length+ys.length)*σ.size<=c*σ.size:=Nat.mul_le_mul_right _ hcn
            rw[Nat.add_mul]at hmul
            have hvl:vs.length=ys.length*σ.size:=by rw[← e1.1,qc]
            have hrun:=e2.room L.block L.base xs.length c hcn (fun j hj=>(ha.there _ (by omega) (by omega)).1) (fun j hj=>(ha.there _ (by omega) (by omega)).2)
            have hadv:=q1i (ys:=ys) (vs:=vs) h hM hg hL (by rw[hlen];exact hcn) hr e1
            rw[qc]at hadv
            refine⟨_,_,_,hrun,.rs ?_,hadv⟩
            rw[Emb.put_hdr,hlen]
      ·cases hx
     ·cases hx
    ·cases hx
   ·cases hx
 ·cases hx
def q4v (n:Nat) (H:LH) (k:(e:Row)->List (List (den e))->LH->Option β):Option β :=
 match H.get n with
 | some (.rowl e xs none)=>k e (xs ++ [[]]) (H.put n (some (.rows (.sl e .nil) (qn (xs ++ [[]])))))
 | some (.rowl e xs (some r)) => match H.get r with
  | some (.rows σ ys) => match q4p σ e ys with
   | some zs=>k e (xs ++ [zs]) ((H.put r none).put n (some (.rows (.sl e .nil) (qn (xs ++ [zs])))))
   | none=>none
  | _=>none
 | _=>none
theorem q4w {n:Nat} {k:(e:Row)->List (List (den e))->LH->Option β} (hx:q4v n H k=some b):∃ e zs H',k e zs H'=some b/\Logged H H'/\H'.next=H.next/\H'.get n=some (.rows (.sl e .nil) (qn zs))/\∀ M η w,HR M η H w->∃ η',Adv M H η w H' η' w:=by
 unfold q4v at hx
 split at hx
 ·rename_i e xs hg
  exact⟨e,_,_,hx,Logged.put _ hg _,rfl,by rw[LH.get_put,if_pos rfl],fun M η w h=>⟨η,q1m h hg⟩⟩
 ·rename_i e xs r hg
  split at hx
  ·rename_i σ ys hr
   split at hx
   ·rename_i zs hc
    obtain⟨rfl,rfl⟩:=q4q hc
    have hne:n≠r:=fun he=>by subst he;rw[hg]at hr;cases hr
    exact⟨_,_,_,hx,(Logged.put _ hr _).trans (Logged.put (H.put r none) (by rw[LH.get_put,if_neg hne];exact hg) _),rfl,by rw[LH.get_put,if_pos rfl],fun M η w h=>q1n h hg hr⟩
   ·cases hx
  ·cases hx
 ·cases hx
def q4x (x:LV) (H:LH):Bool:=match x with | .rs m=>(match H.get m with | some (.rowl _ [] _)=>true | _=>false) | _=>false
def q4y (T:Tys) (t:TypeId) (e:Row):Bool:=match T.find t with | some i=>(match i.kind with | .slice _ τ=>decide (τ=.sl e .nil) | _=>false) | none=>false
def q4z {e:Row}:List (den (.sl e .nil))->List (List (den e))
 | []=>[]
 | z::zs=>z.1::q4z zs
theorem q50 {e:Row}:∀ zs:List (den (.sl e .nil)),qn (q4z zs)=zs
 | []=>rfl
 | z::zs=>congrArg (List.cons z) (q50 zs)
theorem q51 {e:Row}:∀ zs:List (den (.sl e .nil)),(q4z zs).length=zs.length
 | []=>rfl
 | _::zs=>congrArg (· + 1) (q51 zs)
def q52 (T:Tys) (ts:Array TypeId) (s x:LV) (H:LH) (k:LV->LH->Option β):Option β :=
 match ts.toList,x with
 | [t, t2], .rs m => match H.get m with
  | some (.rowl e [] q) => bif isSl T t2 && q4y T t e then (match s with
   | .nils=>k (.rs H.next) ((H.put m none).alloc (.rowl e [] q))
   | .rs n => bif Nat.beq n m then none else (match H.get n with
    | some (.rows σ zs) => match q4p σ (.sl e .nil) zs with
     | some zs=>bif Nat.ble zs.length 90000 then k (.rs H.next) (((H.put m none).put n none).alloc (.rowl e (q4z zs) q)) else none
     | none=>none
    | _ => q4v n H fun e' zs H1 => match H1.get m with
     | some (.rowl e1 [] q1) => (match q4p (.sl e' .nil) (.sl e1 .nil) (qn zs) with
      | some _=>bif q4y T t e'&&Nat.ble zs.length 90000 then k (.rs H1.next) (((H1.put m none).put n none).alloc (.rowl e' zs q1)) else none
      | none=>none)
     | _=>none)
   | _=>none) else none
  | _=>none
 | _,_=>none
theorem q53 (hT:TysOK P T) {t t2:TypeId} {e:Row} (hs2:isSl T t2=true) (hsr:q4y T t e=true) {m:Nat} {q:Option Nat} {ty:TypeId} {u:Value} (h:HR M η H w) (hM:H.next<M) (hg:H.get m=some (.rowl e [] q)) (hu':VR η (.rs m) u) :
 Sim P M H η w (Builtin.append_ #[t,t2] ty #[.slice none 0 0,u]) (.rs H.next,(H.put m none).alloc (.rowl e [] q)) /\
 ∀ n zs v,n≠m->H.get n=some (.rows (.sl e .nil) (qn zs))->zs.length<=90000->VR η (.rs n) v->Sim P M H η w (Builtin.append_ #[t,t2] ty #[v,u]) (.rs H.next,((H.put m none).put n none).alloc (.rowl e zs q)):=by
 have hu2:=q4e hT hs2
 unfold q4y at hsr
 split at hsr
 ·rename_i i hi
  split at hsr
  ·rename_i et τ hk
   rw[decide_eq_true_eq]at hsr;subst hsr
   have hu:=(hT t i hi).und
   rw[hk]at hu
   obtain⟨hu,_,hpos,j,z,hj,hz,hzv,hjs,hjb⟩:=hu
   have hj1:j.size=1:=hjs
   have hzs:z.cells.size=j.size:=by rw[hzv,hjs];simp[q4t]
   -- the slice
   cases hu' with
   | rs hh =>
    cases h.live _ _ hg with
    | rowl hL ha hh' hc hr =>
     rename_i L c
     rw[hh]at hh';injection hh' with hh';subst hh'
     obtain⟨x,hx1,hx2⟩:=ha.cell 0 (qm q) rfl
     have hx1':w.cell? ⟨L.block,L.base,none⟩=some x:=hx1
     have hone:∀ v ∈ [x],v.oneCell'=true:=fun v hv=>by
      rw[List.mem_singleton]at hv;subst hv
      exact hx2.one h.ok (by cases q<;>rfl)
     have R:=fun (w1:World) (hw:∀ a,w1.cell? a=w.cell? a)=>run_firstCells_some (P:=P) w1 1 1 ⟨L.block,L.base,none⟩ 1 c [x] rfl (fun j v hj=>by
      rw[Addr.add_lit,hw]
      cases j with
      | zero=>injection hj with hj;subst hj;exact hx1'
      | succ j=>simp at hj)
     have AR:AppRun P w (fun s=>Builtin.append_ #[t,t2] ty #[s,.slice (some ⟨L.block,L.base,none⟩) 1 c]) 1 1 [x]:=by
      have:=q4i (P:=P) (w:=w) (ty:=ty) (x:=.slice (some ⟨L.block,L.base,none⟩) 1 c) (m:=1) (vs:=[x]) hu hu2 hj hz hzs hjb (by rw[hj1];rfl) hone (fun w'=>by simp[Builtin.lenOf]) (fun w' hw=>by rw[hj1];exact R w' hw)
      rw[hj1]at this;exact this
     -- a new block
     have fresh:∀ {H1:LH} {zs:List (List (den e))} {olds:List Value} {A:Option Addr} {c1:Nat},HR M η H1 w->H1.next=H.next->VRs η (flat (.sl e .nil) (qn zs)) olds->zs.length<=90000->zs.length<=c1->c1<zs.length+1 ->
       (∀ a,A=some a->∀ (j:Nat) v,olds[j]?=some v->w.cell? (a.add j)=some v)->(A=none->zs.length=0/\c1=0) ->
       ∃ v' w' η',(Builtin.append_ #[t,t2] ty #[.slice A zs.length c1,.slice (some ⟨L.block,L.base,none⟩) 1 c]).run P w=.ok v' w'/\VR η' (.rs H1.next) v'/\Adv M H1 η w (H1.alloc (.rowl e zs q)) η' w':=by
      intro H1 zs olds A c1 h1 hn1 ho hzl hz1 hz2 hcell hA
      have hM1:H1.next<M:=by omega
      have hlo:=ho.1
      rw[qp]at hlo
      obtain⟨c',e',rest,g1,g2,g3⟩:=AR.grow A zs.length c1 olds (by omega) hz2 (by omega) hz1 (by omega) hcell hA
      have hos:VRs η (Ob.rowl e zs q).list (olds ++ [x]):=ho.append (VRs.cons hx2 VRs.nil)
      have hlen:(Ob.rowl e zs q).list.length=zs.length+1:=by rw[Ob.list,List.length_append,qp];rfl
      refine⟨_,_,_,g3,.rs (Emb.put_hdr ..),q10 (w':=w.drew.alloc (.cells (olds ++ [x] ++ rest).toArray e')) (L:=some ⟨w.heap.size,0,(olds ++ [x] ++ rest).toArray.size⟩) h1 hM1 (by show w.heap.size<=(w.heap.push _).size;simp) (q12 (w:=w) rfl) rfl rfl rfl (Nat.le_succ _) (.rowl (Emb.put_loc ..) (q11 (w:=w) (w':=w.drew.alloc (.cells (olds ++ [x] ++ rest).toArray e')) rfl ?_ (Nat.le_refl _) fun j c hc=>?_) (Emb.put_hdr ..) g1 ?_) (fun L0 h0=>by injection h0 with h0;subst h0;exact Nat.le_refl _) (fun v0 h0=>by injection h0 with h0;exact⟨_,_,_,h0.symm⟩)⟩
      ·rw[hlen,List.size_toArray,g2];omega
      ·obtain⟨v,a1,a2⟩:=hos.get hc
       refine⟨v,?_,a2.mono (h1.le_put hM1 _ _)⟩
       have hj:=(List.getElem?_eq_some_iff.1 a1).1
       rw[List.getElem?_toArray,List.getElem?_append_left hj];exact a1
      ·show 0+c'=(olds ++ [x] ++ rest).toArray.size
       rw[List.size_toArray,g2];omega
     have hk:=q18 h m
     refine⟨?_,fun n zs v hne hgn hzl hv=>?_⟩
     ·obtain⟨v',w',η',a1,a2,a3⟩:=fresh (H1:=H.put m none) (zs:=[]) (olds:=[]) (A:=none) (c1:=0) hk.hr rfl VRs.nil (by simp) (Nat.le_refl _) (by simp) (fun a ha=>by cases ha) (fun _=>⟨rfl,rfl⟩)
      exact⟨v',w',η',a1,a2,hk.trans a3⟩
     ·have hk2:=q18 hk.hr n
      have hgn1:(H.put m none).get n=some (.rows (.sl e .nil) (qn zs)):=by rw[LH.get_put,if_neg hne];exact hgn
      have thru:∀ {s:Sem Value},(∃ v' w' η',s.run P w=.ok v' w'/\VR η' (.rs ((H.put m none).put n none).next) v'/\Adv M ((H.put m none).put n none) η w (((H.put m none).put n none).alloc (.rowl e zs q)) η' w')->Sim P M H η w s (.rs H.next,((H.put m none).put n none).alloc (.rowl e zs q)) :=
       fun⟨v',w',η',a1,a2,a3⟩=>⟨v',w',η',a1,a2,hk.trans (hk2.trans a3)⟩
      have hzn:∀ {l:List (den (.sl e .nil))},qn zs=l->l.length=zs.length:=fun he=>by rw[← he,qo]
      cases hv with
      | rs hhn =>
       generalize hzz:qn zs=zz at hgn hgn1
       cases h.live _ _ hgn with
       | none hL' hh' =>
        rw[hhn]at hh';injection hh' with hh';subst hh'
        have hz0:=hzn hzz
        have hz0':zs=[]:=List.eq_nil_of_length_eq_zero (by simpa using hz0.symm)
        subst hz0'
        rename_i A
        exact thru (fresh (H1:=(H.put m none).put n none) (zs:=[]) (olds:=[]) (A:=A) (c1:=0) hk2.hr rfl VRs.nil (by simp) (Nat.le_refl _) (by simp) (fun a ha j v hj=>by simp at hj) (fun _=>⟨rfl,rfl⟩))
       | rows hL' ha' hh' hc' hr' =>
        rename_i L' c'
        rw[hhn]at hh';injection hh' with hh';subst hh'
        have hz0:=hzn hzz
        subst hzz
        rw[qo]
        rcases Nat.lt_or_ge c' (zs.length+1) with hcn | hcn
        ·have hcut:cut (flat (.sl e .nil) (qn zs)) 0 (flat (.sl e .nil) (qn zs)).length=some (flat (.sl e .nil) (qn zs)):=by unfold cut;rw[Nat.zero_add,Nat.ble_eq_true_of_le (Nat.le_refl _),List.drop_zero,List.take_length];rfl
         obtain⟨olds,o1,o2⟩:=Lie.cut ha'.cell hcut
         exact thru (fresh (H1:=(H.put m none).put n none) (A:=some ⟨L'.block,L'.base,none⟩) (c1:=c') hk2.hr rfl o1 hzl (by rw[qo]at hc';exact hc') hcn (fun a ha j v hj=>by injection ha with ha;subst ha;rw[Addr.add_lit];have:=o2 j v hj;rwa[Nat.add_zero]at this) (fun hA=>by cases hA))
        ·have hfit:L'.base+zs.length+1<=L'.lim:=by have:L'.base+c'*1=L'.lim:=hr';omega
         have hrun:=AR.room L'.block L'.base zs.length c' hcn (fun j hj=>(ha'.there _ (by omega) (by simp at hj;omega)).1) (fun j hj=>(ha'.there _ (by omega) (by simp at hj;omega)).2)
         have hgr:=q1h (ds:=[qm q]) (vs:=[x]) ha' (by rw[qp];exact hfit) (VRs.cons hx2 VRs.nil)
         rw[qp]at hgr
         rw[Nat.mul_one]at hrun
         have hle:=hk.hr.le_put (H:=H.put m none) hM (some L') (some (.slice (some ⟨L'.block,L'.base,none⟩) (zs.length+1) c'))
         have hadv:=q1k (ob':=.rowl e zs q) (v:=.slice (some ⟨L'.block,L'.base,none⟩) (zs.length+1) c') (w':=w.setCells L'.block (L'.base+zs.length) [x]) hk.hr hM hgn1 hL' (qq ..) (fun k hne=>qw _ _ _ _ _ hne) (qr ..) (qt ..) (qu ..) (Nat.le_of_eq (qv ..).symm)
          (.rowl (Emb.put_loc ..) (hgr.move hle (Nat.le_refl _) rfl) (Emb.put_hdr ..) hcn (by have:L'.base+c'*1=L'.lim:=hr';omega)) ⟨_,_,_,rfl⟩
         exact⟨_,_,_,hrun,.rs (Emb.put_hdr ..),hk.trans hadv⟩
  ·cases hsr
 ·cases hsr
theorem q54 (hT:TysOK P T) {ts:Array TypeId} {s x:LV} {k:LV->LH->Option β} (hx:q52 T ts s x H k=some b):∃ r,k r.1 r.2=some b/\Logged H r.2/\∀ M η w v u ty,HR M η H w->r.2.next<=M->VR η s v->VR η x u->Sim P M H η w (Builtin.append_ ts ty #[v,u]) r:=by
 unfold q52 at hx
 split at hx
 ·rename_i t t2 m hts
  obtain rfl:ts=#[t,t2]:=by apply Array.ext';simpa using hts
  split at hx
  ·rename_i e q hg
   cases hb:isSl T t2&&q4y T t e with
   | false=>rw[hb]at hx;cases hx
   | true =>
    rw[hb,cond_true]at hx
    rw[Bool.and_eq_true]at hb
    split at hx
    ·refine⟨(.rs H.next,(H.put m none).alloc (.rowl e [] q)),hx,(Logged.put H hg none).trans (Logged.alloc _ _),fun M η w v u ty h hM hv hu=>?_⟩
     cases hv
     exact (q53 (ty:=ty) hT hb.1 hb.2 h hM hg hu).1
    ·rename_i n
     cases hnm:Nat.beq n m with
     | true=>rw[hnm]at hx;cases hx
     | false =>
      rw[hnm,cond_false]at hx
      have hne:n≠m:=fun he=>by subst he;rw[Nat.beq_refl]at hnm;cases hnm
      split at hx
      ·rename_i σ zs hgn
       split at hx
       ·rename_i zs' hc
        obtain⟨rfl,rfl⟩:=q4q hc
        cases hl:Nat.ble (List.length _) 90000 with
        | false=>rw[hl]at hx;cases hx
        | true =>
         rw[hl,cond_true]at hx
         rw[Nat.ble_eq]at hl
         refine⟨(.rs H.next,((H.put m none).put n none).alloc (.rowl e (q4z _) q)),hx,((Logged.put H hg none).trans (Logged.put (H.put m none) (by rw[LH.get_put,if_neg hne];exact hgn) none)).trans (Logged.alloc _ _),fun M η w v u ty h hM hv hu=>?_⟩
         exact (q53 (ty:=ty) hT hb.1 hb.2 h hM hg hu).2 n _ v hne (by rw[q50];exact hgn) (by rw[q51];exact hl) hv
       ·cases hx
      ·obtain⟨e',zs,H1,h1,h2,h3,h4,h5⟩:=q4w hx
       split at h1
       ·rename_i e1 q1 hg1
        split at h1
        ·rename_i zs' hc
         obtain⟨he,_⟩:=q4q hc
         injection he with he;subst he
         cases hl:q4y T t e'&&Nat.ble zs.length 90000 with
         | false=>rw[hl]at h1;cases h1
         | true =>
          rw[hl,cond_true]at h1
          rw[Bool.and_eq_true,Nat.ble_eq]at hl
          refine⟨(.rs H1.next,((H1.put m none).put n none).alloc (.rowl e' zs q1)),h1,(h2.trans (Logged.put H1 hg1 none)).trans ((Logged.put (H1.put m none) (by rw[LH.get_put,if_neg hne];exact h4) none).trans (Logged.alloc _ _)),fun M η w v u ty h hM hv hu=>?_⟩
          obtain⟨η1,a1⟩:=h5 M η w h
          obtain⟨v',w',η',b1,b2,b3⟩:=(q53 (ty:=ty) hT hb.1 hl.1 a1.hr hM hg1 (hu.mono a1.le)).2 n zs v hne h4 hl.2 (hv.mono a1.le)
          exact⟨v',w',η',b1,b2,a1.trans b3⟩
        ·cases h1
       ·cases h1
    ·cases hx
  ·cases hx
 ·cases hx
def q55 (T:Tys) (t:TypeId):Bool:=match T.find t with | some i=>(match i.kind with | .int _=>true | _=>false) | none=>false
theorem q56 (hT:TysOK P T) {t:TypeId} (h:q55 T t=true):∃ k,P.underlying t=some (.int k):=by
 unfold q55 at h
 split at h
 ·rename_i i hi
  split at h
  ·rename_i k hk
   have:=(hT t i hi).und
   rw[hk]at this
   exact⟨k,this.1⟩
  ·cases h
 ·cases h
def q57 (T:Tys) (ts:Array TypeId) (s x:LV) (H:LH) (k:LV->LH->Option β):Option β :=
 match ts.toList,s,x with
 | [t,t2],.nils,.int _ n=>bif q55 T t2&&Nat.blt 0 (q47 T t).size&&decide (0<n)&&decide (n<=100000) then k (.rs H.next) (H.alloc (.rows (q47 T t) (List.replicate n.toNat (zero (q47 T t))))) else none
 | _,_,_=>none
theorem q58 (hT:TysOK P T) {ts:Array TypeId} {s x:LV} {k:LV->LH->Option β} (hx:q57 T ts s x H k=some b):∃ r,k r.1 r.2=some b/\Logged H r.2/\∀ M η w v u ty,HR M η H w->r.2.next<=M->VR η s v->VR η x u->Sim P M H η w (Builtin.append_ ts ty #[v,u]) r:=by
 unfold q57 at hx
 split at hx
 ·rename_i t t2 kq n hts
  obtain rfl:ts=#[t,t2]:=by apply Array.ext';simpa using hts
  cases hb:q55 T t2&&Nat.blt 0 (q47 T t).size&&decide (0<n)&&decide (n<=100000) with
  | false=>rw[hb]at hx;cases hx
  | true =>
   rw[hb,cond_true]at hx
   simp only[Bool.and_eq_true,decide_eq_true_eq,Nat.blt_eq]at hb
   obtain⟨⟨⟨h1,hrow⟩,h3⟩,h4⟩:=hb
   obtain⟨kn,htn⟩:=q56 hT h1
   obtain⟨q,rfl⟩:∃ q:Nat,n=q:=⟨n.toNat,by omega⟩
   rw[Int.toNat_natCast]at hx
   obtain⟨i,e,τ,hi0,hk,hr⟩:∃ i e τ,T.find t=some i/\i.kind=.slice e τ/\q47 T t=τ:=by
    unfold q47 at hrow ⊢
    split at hrow
    ·rename_i i h1
     split at hrow
     ·rename_i e τ h2;exact⟨i,e,τ,h1,h2,rfl⟩
     ·exact absurd hrow (Nat.lt_irrefl 0)
    ·exact absurd hrow (Nat.lt_irrefl 0)
   rw[hr]at hx hrow
   have hu:=(hT t i hi0).und
   rw[hk]at hu
   obtain⟨hu,_,hpos,j,z,hj,hz,hzv,hjs,hjb⟩:=hu
   refine⟨(.rs H.next,H.alloc (.rows τ (List.replicate q (zero τ)))),hx,Logged.alloc _ _,fun M η w v u ty h hM hv hu'=>?_⟩
   cases hv;cases hu'
   have hbd:q*j.bytes<=100000*1000:=Nat.mul_le_mul (by omega) hjb
   have hrun:=Go.Lib.run_append_grow_zeros (P:=P) w t t2 ty e j z kq kn hu htn hj hz none 0 0 [] (run_firstCells_none (P:=P) w.drew _ _ _ _) q (by omega) (by rw[hjs];exact hpos) (by omega) (by omega) (by omega) (growslice_fits (by omega) (by rw[Nat.zero_add];omega))
   rw[Nat.zero_add]at hrun
   have hge:=grownCap_ge w q 0 e
   have hzs:(q1o τ).toArray.size=τ.size:=by simp[q4t]
   have hzc:∀ m,Builtin.zeroCells z.cells m=madeCells (q1o τ).toArray (m*τ.size):=fun m=>by
    rw[hzv];unfold Builtin.zeroCells madeCells;rw[hzs]
   have hsz:∀ m,(madeCells (q1o τ).toArray (m*τ.size)).size=m*τ.size:=fun m=>by simp[madeCells]
   refine⟨_,_,_,hrun,?_,q14 (w':=w.drew.alloc (.cells (([]:List Value).toArray++Builtin.zeroCells z.cells q++Builtin.zeroCells z.cells (grownCap w q 0 e-q)) e)) (e:=e) (τ:=τ) (xs:=List.replicate q (zero τ)) (c:=grownCap w q 0 e) h hM rfl rfl rfl rfl (Nat.le_succ _) (by rw[List.length_replicate];exact hge) ?_ fun jj c hc=>?_⟩
   ·refine .rs ?_
    rw[Emb.put_hdr,List.length_replicate]
   ·rw[Array.size_append,Array.size_append,hzc,hzc,hsz,hsz]
    have:q*τ.size+(grownCap w q 0 e-q)*τ.size=grownCap w q 0 e*τ.size:=by rw[← Nat.add_mul];congr 1;omega
    simp;omega
   ·have hz0:=q2r (η:=η) τ q hpos
    obtain⟨v,a1,a2⟩:=hz0.get hc
    refine⟨v,?_,a2⟩
    have hjl:=(List.getElem?_eq_some_iff.1 a1).1
    rw[hzc,hzc]
    rw[Array.getElem?_append_left (by simpa using hjl)]
    simpa using a1
 ·cases hx
end
def mget (κ:MK) (τ:Row):List (κ.T×den τ)->κ.T->den τ
 | [],_=>zero τ
 | p::r,x=>bif κ.eq x p.1 then p.2 else mget κ τ r x
def mhas (κ:MK) (τ:Row):List (κ.T×den τ)->κ.T->Bool
 | [],_=>false
 | p::r,x=>bif κ.eq x p.1 then true else mhas κ τ r x
def mput (κ:MK) (τ:Row):List (κ.T×den τ)->κ.T->den τ->List (κ.T×den τ)
 | [],x,y=>[(x,y)]
 | p::r,x,y=>bif κ.eq x p.1 then (x,y)::r else p::mput κ τ r x y
theorem MK.eq_iff:∀ {κ:MK} {x y:κ.T},κ.eq x y=true↔x=y
 | .int _,x,y=>by unfold MK.eq;exact beq_iff_eq
 | .agg _,x,y=>by unfold MK.eq;exact beq_iff_eq
def q59:List LV->Option (List Int)
 | []=>some []
 | .int .i64 x::l=>match q59 l with | some xs=>some (x::xs) | none=>none
 | _=>none
def MK.of:(κ:MK)->LV->Option κ.T
 | .int k,.int k' x=>if k'=k then some x else none
 | .agg n,.agg cs=>match q59 cs with | some xs=>bif Nat.beq xs.length n then some xs else none | none=>none
 | _,_=>none
theorem q5a {η:Emb}:∀ {cs:List LV} {xs:List Int} {vs:List Value},q59 cs=some xs->VRs η cs vs->vs=xs.map (Value.int .i64)
 | [], xs, vs, h, hv => by
  injection h with h;subst h
  have:=hv.1;cases vs with | nil=>rfl | cons=>simp at this
 | c::cs, xs, vs, h, hv => by
  obtain⟨v,vs,rfl,h1,h2⟩:=hv.uncons
  unfold q59 at h
  split at h<;>first | cases h | skip
  ·rename_i e;cases e
  ·rename_i x l e
   injection e with e1 e2;subst e1 e2
   split at h
   ·rename_i xs' he
    injection h with h;subst h
    cases h1
    rw[q5a he h2];rfl
   ·cases h
theorem MK.of_ok {η:Emb} {κ:MK} {l:LV} {x:κ.T} {v:Value} (h:κ.of l=some x) (hv:VR η l v):v=κ.val x/\κ.wf x:=by
 unfold MK.of at h
 split at h
 ·split at h
  ·rename_i e;injection h with h;subst e h;cases hv;exact⟨rfl,trivial⟩
  ·cases h
 ·split at h
  ·rename_i xs he
   rw[Bool.cond_eq_ite]at h
   split at h
   ·rename_i hb
    injection h with h;subst h
    cases hv with
    | agg hl hh=>exact⟨by rw[q5a he ⟨hl,hh⟩];rfl,Nat.eq_of_beq_eq_true hb⟩
   ·cases h
  ·cases h
 ·cases h
theorem q5b {P:Program} {ke:TypeId} {k:IntKind} (h:P.underlying ke=some (.int k)):KeyT P ke (.int k):=by
 refine⟨fun em x w _=>MapKept.run_checkKey (w:=w) (k:=.int k x) h (show MapKept.IsKey (.int k) (.int k x) from rfl) em 9999,fun x w _ ks l hl _=>?_⟩
 refine MapKept.run_findKey (w:=w) h ?_
 have key:∀ (ks:List Int) (l:List MapEntry) (i:Nat),l.map (·.key)=ks.map (Value.int k)->Instr.findNow (.int k) (.int k x) l i=some (q1t (.int k) x ks l i):=by
  intro ks
  induction ks with
  | nil=>intro l i h;cases l with | nil=>rfl | cons=>simp at h
  | cons y ks ih =>
   intro l i h
   cases l with
   | nil=>simp at h
   | cons m l =>
    simp only[List.map_cons,List.cons.injEq]at h
    simp only[Instr.findNow,Instr.sameNow,h.1,if_true,q1t,MK.eq]
    cases hx:x==y with
    | true=>rfl
    | false=>exact ih l (i+1) h.2
 exact key ks l 0 hl
theorem q5c:∀ (xs ys:List Int),xs.length=ys.length->eqVs (xs.map (Value.int .i64)) (ys.map (Value.int .i64))=some (xs==ys)
 | [],[],_=>rfl
 | x::xs, y::ys, h => by
  have:=q5c xs ys (by simpa using h)
  simp only[List.map_cons,eqVs,decide_true,cond_true,this,Option.map_some,List.cons_beq_cons]
 | [],_::_,h=>by simp at h
 | _::_,[],h=>by simp at h
theorem q5d {P:Program} {ke:TypeId} {n:Nat} (hw:(match P.underlying ke with | some (.array _ _) | some (.struct _)=>true | _=>false)=true) (he:EqT P ke n)
 (hc:∀ (em:Bool) (xs:List Int) (w:World),xs.length=n->(Instr.checkKey em 10000 ke (.agg (xs.map (Value.int .i64)).toArray)).run P w=.ok () w):KeyT P ke (.agg n):=by
 refine⟨hc,fun x w hx ks l hl hks=>?_⟩
 rw[run_findKey_eq w hw]
 have key:∀ (ks:List (List Int)) (l:List MapEntry) (i:Nat),l.map (·.key)=ks.map (MK.agg n).val->(∀ k∈ks,k.length=n)->(Instr.findAsking ke ((MK.agg n).val x) l i).run P w=.ok (q1t (.agg n) x ks l i) w:=by
  intro ks
  induction ks with
  | nil=>intro l i h _;cases l with | nil=>simp[Instr.findAsking,q1t] | cons=>simp at h
  | cons y ks ih =>
   intro l i h hk
   cases l with
   | nil=>simp at h
   | cons m l =>
    simp only[List.map_cons,List.cons.injEq]at h
    have hy:y.length=n:=hk y (List.mem_cons_self ..)
    have hxl:List.length x=n:=hx
    have e1:=he.eq (x.map (Value.int .i64)) (y.map (Value.int .i64)) (x==y) w (by simpa using hxl) (by simpa using hy) (q5c x y (hxl.trans hy.symm))
    have e2:(Op.equal ke ((MK.agg n).val x) m.key).run P w=.ok (x==y) w:=by rw[h.1];exact e1
    have e3:=ih l (i+1) h.2 fun k hk'=>hk k (List.mem_cons_of_mem _ hk')
    cases hx':x==y with
    | true=>rw[hx']at e2;simp[Instr.findAsking,e2,q1t,MK.eq,hx']
    | false=>rw[hx']at e2;simp only[Instr.findAsking,Sem.run_bind,e2,Result.andThen_ok,Bool.false_eq_true,if_false,e3,q1t,MK.eq,hx',cond_false]
 exact key ks l 0 hl hks
section
variable {P:Program} {T:Tys} {M:Nat} {H:LH} {η:Emb} {w:World} {β:Type} {b:β}
theorem q5e {κ:MK} {agg:Bool} {τ:Row}:∀ {es:List (κ.T×den τ)} {l:List MapEntry},EsR η κ agg τ es l->l.map (·.key)=(es.map (·.1)).map κ.val/\∀ k∈es.map (·.1),κ.wf k
 | [],[],_=>⟨rfl,fun k hk=>by cases hk⟩
 | [],_::_,h=>h.elim
 | _::_,[],h=>h.elim
 | p::es, m::l, h => by
  obtain⟨h1,h2,h3,h4⟩:=h
  obtain⟨e1,e2⟩:=q5e h4
  refine⟨by simp only[List.map_cons,e1,h1],fun k hk=>?_⟩
  rw[List.map_cons]at hk
  rcases List.mem_cons.1 hk with rfl | hk
  ·exact h2
  ·exact e2 k hk
theorem q5f {κ:MK} {agg:Bool} {τ:Row} {x:κ.T} (hwf:κ.wf x):∀ (es:List (κ.T×den τ)) (l:List MapEntry) (i:Nat),EsR η κ agg τ es l ->
 (mhas κ τ es x=true/\∃ j m,q1t κ x (es.map (·.1)) l i=some (i+j,m.val)/\l[j]?=some m/\m.key=κ.val x/\VR η (q8 τ agg (mget κ τ es x)) m.val/\∀ y u,VR η (q8 τ agg y) u->EsR η κ agg τ (mput κ τ es x y) (l.modify j fun e=>{ e with key:=κ.val x,val:=u })) ∨
 (mhas κ τ es x=false/\q1t κ x (es.map (·.1)) l i=none/\mget κ τ es x=zero τ/\∀ y m,m.key=κ.val x->VR η (q8 τ agg y) m.val->EsR η κ agg τ (mput κ τ es x y) (l ++ [m]))
 | [],[],i,_=>.inr ⟨rfl,rfl,rfl,fun y m h1 h2=>⟨h1,hwf,h2,trivial⟩⟩
 | [],_::_,_,h=>h.elim
 | _::_,[],_,h=>h.elim
 | p::es, m::l, i, h => by
  obtain⟨h1,h2,h3,h4⟩:=h
  cases hx:κ.eq x p.1 with
  | true =>
   have hxe:x=p.1:=MK.eq_iff.1 hx
   refine .inl ⟨by simp only[mhas,hx,cond_true],0,m,?_,rfl,by rw[h1,hxe],by simpa only[mget,hx,cond_true] using h3,fun y u hu=>?_⟩
   ·simp only[List.map_cons,q1t,hx,cond_true];rfl
   ·simp only[mput,hx,cond_true,List.modify_zero_cons]
    exact⟨rfl,hwf,hu,h4⟩
  | false =>
   have step:q1t κ x ((p::es).map (·.1)) (m::l) i=q1t κ x (es.map (·.1)) l (i+1):=by
    simp only[List.map_cons,q1t,hx,cond_false]
   rcases q5f hwf es l (i+1) h4 with⟨e1,j,m',e2,e3,e4,e5,e6⟩ | ⟨e1,e2,e3,e4⟩
   ·refine .inl ⟨by simpa only[mhas,hx,cond_false] using e1,j+1,m',by rw[step,e2];congr 2;omega,by simpa using e3,e4,by simpa only[mget,hx,cond_false] using e5,fun y u hu=>?_⟩
    simp only[mput,hx,cond_false,List.modify_succ_cons]
    exact⟨h1,h2,h3,e6 y u hu⟩
   ·refine .inr ⟨by simpa only[mhas,hx,cond_false] using e1,by rw[step,e2],by simpa only[mget,hx,cond_false] using e3,fun y m2 hm2 hv=>?_⟩
    simp only[mput,hx,cond_false,List.cons_append]
    exact⟨h1,h2,h3,e4 y m2 hm2 hv⟩
theorem q5g {w':World} (h:HR M η H w) {n:Nat} {ob ob':Ob} (hg:H.get n=some ob) (hlv:Lv η w' n ob') (hs:w.heap.size<=w'.heap.size)
 (hother:∀ k,k<w.heap.size->(∀ L,η.loc n=some L->k≠L.block)->w'.heap[k]?=w.heap[k]?) (e1:w'.os=w.os) (e2:w'.tape=w.tape) (e3:w'.output=w.output) (e4:w.drawn<=w'.drawn) :
 Adv M H η w (H.put n (some ob')) η w':=by
 have hget:∀ x ob2,(H.put n (some ob')).get x=some ob2->(x=n/\ob2=ob')∨(x≠n/\H.get x=some ob2):=fun x ob2 hx=>by
  rw[LH.get_put]at hx
  split at hx
  ·rename_i he;injection hx with hx;exact .inl ⟨he,hx.symm⟩
  ·rename_i he;exact .inr ⟨he,hx⟩
 have hg0:∀ x ob2,(H.put n (some ob')).get x=some ob2->∃ ob0,H.get x=some ob0:=fun x ob2 hx=>by
  rcases hget x ob2 hx with⟨rfl,_⟩ | ⟨_,hg'⟩
  ·exact⟨_,hg⟩
  ·exact⟨_,hg'⟩
 have hlb:∀ k,LB (H.put n (some ob')) η k->LB H η k:=fun k ⟨x,ob2,L',hx,hL',hk⟩=>let ⟨ob0,hg'⟩:=hg0 _ _ hx;⟨x,ob0,L',hg',hL',hk⟩
 refine⟨Emb.le_refl _,fun _ _=>⟨rfl,rfl⟩,Nat.le_refl _,⟨h.dom,fun x ob2 hx=>let ⟨_,hg'⟩:=hg0 x ob2 hx;h.lt x _ hg',fun x ob2 hx=>?_,fun b1 b2 c1 c2 L1 L2 h1 h2 f1 f2 he=>?_,fun k o2 hk=>?_,fun k hk=>h.sep k (hlb k hk),h.ok⟩,hs,fun k hk hn=>hother k hk fun L hL he=>hn ⟨n,_,L,hg,hL,he.symm⟩,
  fun k hk=>.inl (hlb k hk),fun _ _ hk=>.inl hk,e1,e2,e3,e4⟩
 ·rcases hget x ob2 hx with⟨rfl,rfl⟩ | ⟨hne,hg'⟩
  ·exact hlv
  ·have hl:=h.live x ob2 hg'
   exact hl.move (Emb.le_refl _) rfl hs fun L' hL'=>hother _ (hl.lt hL') fun L hL he=>hne (h.inj _ _ _ _ _ _ hg' hg hL' hL he)
 ·obtain⟨d1,g1⟩:=hg0 _ _ h1
  obtain⟨d2,g2⟩:=hg0 _ _ h2
  exact h.inj _ _ _ _ _ _ g1 g2 f1 f2 he
 ·have hk0:=h.fz k o2 hk
  rw[hother k (Array.getElem?_eq_some_iff.1 hk0).1 fun L hL he=>by
   have:=h.sep L.block ⟨n,_,L,hg,hL,rfl⟩
   rw[← he,hk]at this;cases this]
  exact hk0
def q5h (T:Tys) (t:TypeId) (H:LH) (k:LV->LH->Option β):Option β :=
 match T.find t with
 | some i => match i.kind with
  | .map _ kk _ agg τ=>k (.mp H.next) (H.alloc (.imap kk agg τ []))
  | _=>none
 | none=>none
theorem q5i {t:TypeId} {k:LV->LH->Option β} (hx:q5h T t H k=some b):∃ r,k r.1 r.2=some b/\Logged H r.2/\∀ M η w,HR M η H w->r.2.next<=M->Sim P M H η w (Instr.makeMap t none) r:=by
 unfold q5h at hx
 split at hx
 ·split at hx
  ·rename_i kk ee agg τ hk
   refine⟨(.mp H.next,H.alloc (.imap kk agg τ [])),hx,Logged.alloc _ _,fun M η w h hM=>?_⟩
   refine⟨.map (some w.heap.size),w.alloc (.map #[] 0),η.put H.next (some ⟨w.heap.size,0,0⟩) none,?_,.mp (L:=⟨w.heap.size,0,0⟩) (Emb.put_loc ..),?_⟩
   ·simp[Instr.makeMap]
   ·refine q10 h hM (by show w.heap.size<=(w.heap.push _).size;simp) (q12 rfl) rfl rfl rfl (Nat.le_refl _) (.imap (Emb.put_loc ..) (arr:=#[]) (clock:=0) (by show (w.heap.push _)[w.heap.size]?=_;simp) trivial) (fun L0 h0=>by injection h0 with h0;subst h0;exact Nat.le_refl _) (fun v0 h0=>by cases h0)
  ·cases hx
 ·cases hx
theorem MK.same:∀ {κ:MK} {x:κ.T},Instr.sameBits 10000 (κ.val x) (κ.val x)=true
 | .int k,x=>by simp[MK.val,Instr.sameBits]
 | .agg n, xs => by
  have:∀ l:List Int,((l.map (Value.int .i64)).zip (l.map (Value.int .i64))).all (fun (x,y)=>Instr.sameBits 9999 x y)=true:=fun l=>by
   induction l with
   | nil=>rfl
   | cons a l ih=>simp only[List.map_cons,List.zip_cons_cons,List.all_cons,ih,Bool.and_true];simp[Instr.sameBits]
  simp only[MK.val,Instr.sameBits,beq_self_eq_true,Bool.true_and]
  exact this xs
def q5j (T:Tys) (t:TypeId) (l ix:LV) (ok:Bool) (H:LH) (k:LV->LH->Option β):Option β :=
 match T.find t with
 | some i => match i.kind with
  | .map _ kk _ agg τ => match l with
   | .mp n => match H.get n with
    | some (.imap k2 agg2 τ2 es) => match MK.of k2 ix with
     | some x => if k2 = kk /\ agg2 = agg /\ τ2 = τ then
      (match ok with | true=>k (.tup [q8 τ2 agg2 (mget k2 τ2 es x),.bool (mhas k2 τ2 es x)]) H | false=>k (q8 τ2 agg2 (mget k2 τ2 es x)) H) else none
     | none=>none
    | _=>none
   | _=>none
  | _=>none
 | none=>none
theorem q5k {η:Emb} {agg:Bool} {τ:Row} {z:Value} (h:ZSh agg τ z):VR η (q8 τ agg (zero τ)) z:=by
 have hz:=q1p η τ
 unfold ZSh at h
 cases agg with
 | true =>
  simp only at h;subst h
  exact .agg hz.1 hz.2
 | false =>
  simp only at h
  rw[h]at hz
  unfold q8
  simp only
  split
  ·rename_i l hl
   rw[hl]at hz
   exact hz.2 0 l z rfl rfl
  ·exact .undef _
theorem q5l (hT:TysOK P T) {t:TypeId} {l ix:LV} {ok:Bool} {k:LV->LH->Option β} (hx:q5j T t l ix ok H k=some b):∃ r,k r.1 r.2=some b/\r.2=H/\∀ M η w v u,HR M η H w->VR η l v->VR η ix u->Sim P M H η w (Instr.lookup t v u ok) r:=by
 unfold q5j at hx
 split at hx
 ·rename_i i hi
  have hu:=(hT t i hi).und
  split at hx
  ·rename_i ke kk ee agg τ hk
   rw[hk]at hu
   obtain⟨_,hu,hkk,jz,z,hj,hz,hsh⟩:=hu
   split at hx
   ·rename_i n
    split at hx
    ·rename_i k2 agg2 τ2 es hg
     split at hx
     ·rename_i x hix
      split at hx
      ·rename_i hc
       obtain⟨rfl,rfl,rfl⟩:=hc
       have key:∀ M η w v u,HR M η H w->VR η (.mp n) v->VR η ix u->∃ y,(Instr.lookup t v u ok).run P w=.ok (bif ok then .tuple #[y,.bool (mhas k2 τ2 es x)] else y) w/\VR η (q8 τ2 agg2 (mget k2 τ2 es x)) y:=by
        intro M η w v u h hv hu2
        obtain⟨rfl,hwf⟩:=MK.of_ok hix hu2
        cases hv with
        | mp hL =>
         cases h.live _ _ hg with
         | imap hL' hm he =>
          rename_i g clock arr
          rw[hL]at hL';injection hL' with hL';subst hL'
          have hck:=fun e=>hkk.chk e x w hwf
          obtain⟨k1,k2'⟩:=q5e he
          have hf:=hkk.find x w hwf _ _ k1 k2'
          have hzz:(zeroValue ee).run P w=.ok z w:=by simp[zeroValue,typeInfo,hj,hz]
          rcases q5f hwf es arr.toList 0 he with⟨e1,j,m,e2,e3,e4,e5,_⟩ | ⟨e1,e2,e3,_⟩
          ·refine⟨m.val,?_,e5⟩
           rw[e2]at hf
           cases ok<;>simp[Instr.lookup,run_underlying hu,MapKept.run_getObj_map hm,hck,hf,e1,Result.andThen]
          ·refine⟨z,?_,by rw[e3];exact q5k hsh⟩
           rw[e2]at hf
           cases ok<;>simp[Instr.lookup,run_underlying hu,MapKept.run_getObj_map hm,hck,hf,e1,hzz,Result.andThen]
       cases ok with
       | true =>
        refine⟨(.tup [q8 τ2 agg2 (mget k2 τ2 es x),.bool (mhas k2 τ2 es x)],H),hx,rfl,fun M η w v u h hv hu2=>?_⟩
        obtain⟨y,h1,h2⟩:=key M η w v u h hv hu2
        have hp:=VRs.cons h2 (VRs.cons (VR.bool (η:=η) (mhas k2 τ2 es x)) VRs.nil)
        exact q22 h h1 (.tup hp.1 hp.2)
       | false =>
        refine⟨(q8 τ2 agg2 (mget k2 τ2 es x),H),hx,rfl,fun M η w v u h hv hu2=>?_⟩
        obtain⟨y,h1,h2⟩:=key M η w v u h hv hu2
        exact q22 h h1 h2
      ·cases hx
     ·cases hx
    ·cases hx
   ·cases hx
  ·cases hx
 ·cases hx
def q5m (T:Tys) (t:TypeId) (l ix v:LV) (H:LH) (k:LH->Option β):Option β :=
 match T.find t with
 | some i => match i.kind with
  | .map _ kk _ agg τ => match l with
   | .mp n => match H.get n with
    | some (.imap k2 agg2 τ2 es) => match MK.of k2 ix with
     | some x => if k2 = kk /\ agg2 = agg /\ τ2 = τ then
      (match agg2,v with
       | true,.agg cs=>(match join τ2 cs with | some y=>k (H.put n (some (.imap k2 agg2 τ2 (mput k2 τ2 es x y)))) | none=>none)
       | false,.agg _=>none
       | true,_=>none
       | false,v=>(match join τ2 [v] with | some y=>k (H.put n (some (.imap k2 agg2 τ2 (mput k2 τ2 es x y)))) | none=>none)) else none
     | none=>none
    | _=>none
   | _=>none
  | _=>none
 | none=>none
theorem q5n {τ:Row} {l:LV} {y:den τ} {u:Value} (hj:join τ [l]=some y) (h:VR η l u):VR η (q8 τ false y) u:=by
 have h1:=q2h τ hj (VRs.cons h VRs.nil)
 unfold q8
 simp only
 split
 ·rename_i l' hl
  rw[hl]at h1
  exact h1.2 0 l' u rfl rfl
 ·exact .undef _
theorem q5o (hT:TysOK P T) {t:TypeId} {l ix v:LV} {k:LH->Option β} (hx:q5m T t l ix v H k=some b):∃ H',k H'=some b/\Logged H H'/\∀ M η w lv iv vv,HR M η H w->VR η l lv->VR η ix iv->VR η v vv->SimU P M H η w (Instr.mapUpdate t lv iv vv) H':=by
 unfold q5m at hx
 split at hx
 ·rename_i i hi
  have hu:=(hT t i hi).und
  split at hx
  ·rename_i ke kk ee agg τ hk
   rw[hk]at hu
   obtain⟨_,hu,hkk,_⟩:=hu
   split at hx
   ·rename_i n
    split at hx
    ·rename_i k2 agg2 τ2 es hg
     split at hx
     ·rename_i x hix
      split at hx
      ·rename_i hc
       obtain⟨rfl,rfl,rfl⟩:=hc
       have key:∀ (y:den τ2),(∀ η u,VR η v u->VR η (q8 τ2 agg2 y) u)->k (H.put n (some (.imap k2 agg2 τ2 (mput k2 τ2 es x y))))=some b->∃ H',k H'=some b/\Logged H H'/\∀ M η w lv iv vv,HR M η H w->VR η (.mp n) lv->VR η ix iv->VR η v vv->SimU P M H η w (Instr.mapUpdate t lv iv vv) H':=by
        intro y hy hx
        refine⟨_,hx,Logged.put _ hg _,fun M η w lv iv vv h hl hi hv=>?_⟩
        obtain⟨rfl,hwf⟩:=MK.of_ok hix hi
        cases hl with
        | mp hL =>
         cases h.live _ _ hg with
         | imap hL' hm he =>
          rename_i g clock arr
          rw[hL]at hL';injection hL' with hL';subst hL'
          have hck:=fun e=>hkk.chk e x w hwf
          obtain⟨k1,k2'⟩:=q5e he
          have hf:=hkk.find x w hwf _ _ k1 k2'
          have hlt:g<w.heap.size:=(Array.getElem?_eq_some_iff.1 hm).1
          have hset:=fun o=>MapKept.run_setObj_map (P:=P) (w:=w) (r:=g) o hm
          have fin:∀ (arr':Array MapEntry) (clock':Nat),EsR η k2 agg2 τ2 (mput k2 τ2 es x y) arr'.toList->(Instr.mapUpdate t (.map (some g)) (k2.val x) vv).run P w=.ok () { w with heap:=w.heap.setIfInBounds g (.map arr' clock') }->SimU P M H η w (Instr.mapUpdate t (.map (some g)) (k2.val x) vv) (H.put n (some (.imap k2 agg2 τ2 (mput k2 τ2 es x y)))):=by
           intro arr' clock' he' hrun
           refine⟨_,η,hrun,q5g (w':={ w with heap:=w.heap.setIfInBounds g (.map arr' clock') }) h hg (.imap hL (arr:=arr') (clock:=clock') ?_ he') (by simp) (fun k hk hne=>?_) rfl rfl rfl (Nat.le_refl _)⟩
           ·simp[hlt]
           ·have:=hne _ hL
            simp only at this ⊢
            rw[Array.getElem?_setIfInBounds_ne (Ne.symm this)]
          rcases q5f hwf es arr.toList 0 he with⟨e1,j,m,e2,e3,e4,e5,e6⟩ | ⟨e1,e2,e3,e4⟩
          ·rw[e2]at hf
           have hj:arr[j]?=some m:=by rw[← Array.getElem?_toList];exact e3
           have hks:(Instr.keyThatStays (k2.val x) (k2.val x)).run P w=.ok (k2.val x) w:=by simp[Instr.keyThatStays,MK.same]
           refine fin (arr.modify j fun e=>{ e with key:=k2.val x,val:=vv }) clock (by rw[Array.toList_modify];exact e6 y vv (hy η vv hv)) ?_
           simp[Instr.mapUpdate,run_underlying hu,MapKept.run_getObj_map hm,hck,hf,hj,e4,hks,hset,Result.andThen]
          ·rw[e2]at hf
           refine fin (arr.push { key:=k2.val x,val:=vv,born:=clock }) (clock+1) (by rw[Array.toList_push];exact e4 y { key:=k2.val x,val:=vv,born:=clock } rfl (hy η vv hv)) ?_
           simp[Instr.mapUpdate,run_underlying hu,MapKept.run_getObj_map hm,hck,hf,hset,Result.andThen]
       cases agg2 with
       | true =>
        cases v with
        | agg cs =>
         simp only at hx
         split at hx
         ·rename_i y hy
          refine key y (fun η u hu=>?_) hx
          cases hu with
          | agg hl hh=>have:=q2h τ2 hy ⟨hl,hh⟩;exact .agg this.1 this.2
         ·cases hx
        | _=>cases hx
       | false =>
        have one:(match join τ2 [v] with | some y=>k (H.put n (some (.imap k2 false τ2 (mput k2 τ2 es x y)))) | none=>none)=some b->∃ H',k H'=some b/\Logged H H'/\∀ M η w lv iv vv,HR M η H w->VR η (.mp n) lv->VR η ix iv->VR η v vv->SimU P M H η w (Instr.mapUpdate t lv iv vv) H':=fun hx=>by
         split at hx
         ·rename_i y hy
          exact key y (fun η u hu=>q5n hy hu) hx
         ·cases hx
        cases v with
        | agg cs=>cases hx
        | _=>exact one hx
      ·cases hx
     ·cases hx
    ·cases hx
   ·cases hx
  ·cases hx
 ·cases hx
end
end Go.Tx