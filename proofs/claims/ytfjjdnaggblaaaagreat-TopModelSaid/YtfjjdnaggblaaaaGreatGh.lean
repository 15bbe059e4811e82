/- Walks of the references; the orders agree; examples. -/
import Derived.Test.YtfjjdnaggblaaaaGreatGg
set_option linter.unusedSimpArgs false
set_option linter.unusedVariables false
namespace Go.Proofs.YtfjjdnaggblaaaaGreat
open Go Go.Tx Go.Pel
structure TOk (n d:Int):Prop where
 b1:i64B n=true
 b2:i64B d=true
 ok:qjo n d=0
theorem TOk.pos {n d:Int} (h:TOk n d):1<=d:=(qjv h.ok).1
theorem q2av (n d:Int):leQ n d n d:=Int.le_refl _
theorem q2aw {a b c d1 d2 d3:Int} (h1:1<=d1) (h2:1<=d2) (h3:1<=d3) (h:leQ a d1 b d2) (k:leQ b d2 c d3):leQ a d1 c d3:=q_le h1 h2 h3 h k
theorem q2ax {a b d1 d2:Int} (h1:qjo a d1=0) (h2:qjo b d2=0) (h:leQ a d1 b d2) (k:leQ b d2 a d1):a=b/\d1=d2:=q_eq h1 h2 (Int.le_antisymm h k)
def q2ay (lo hi:T3) (n d:Int):Option (Int×Int) :=
 if leads (ofP hi) (ofP lo) n d=true then some (n,d) else if hi.2.2.1<=lo.2.2.1 then none else some ((mk (lo.2.1-hi.2.1) (hi.2.2.1-lo.2.2.1)).1,(mk (lo.2.1-hi.2.1) (hi.2.2.1-lo.2.2.1)).2.1)
section
variable {lo hi:T3} (hl:okP lo) (hh:okP hi) (hi':lo.1≠hi.1)
include hl hh hi'
theorem q2az (n d:Int):leads (ofP hi) (ofP lo) n d=!leads (ofP lo) (ofP hi) n d:=have _:=hl;have _:=hh;q28l (p:=ofP lo) (q:=ofP hi) hi'
theorem q2b0 {n d n' d':Int} (hd:1<=d) (hd':1<=d') (hle:leQ n d n' d') (hb:hi.2.2.1<=lo.2.2.1) (h:leads (ofP lo) (ofP hi) n d=true):leads (ofP lo) (ofP hi) n' d'=true:=by
 have _:=hi'
 by_cases he:lo.2.2.1=hi.2.2.1
 ·rw[← q28a he hd hd'];exact h
 ·obtain⟨m,hm⟩:=q28n (p:=lo) (q:=hi) he
  have k:=(q288 (x:=(lo,hi)) hl hh hm).2.1
  have e1:=q289 (x:=(lo,hi)) hl hh hm (n:=n) (dd:=d)
  have e2:=q289 (x:=(lo,hi)) hl hh hm (n:=n') (dd:=d')
  rw[if_pos (show hi.2.2.1<lo.2.2.1 by omega)]at e1 e2
  rw[show leads (ofP (lo,hi).1) (ofP (lo,hi).2) n d=true from h]at e1
  show leads (ofP (lo,hi).1) (ofP (lo,hi).2) n' d'=true
  rw[e2]
  cases hg:gtM n' d' m with
  | false=>rfl
  | true=>rw[q27x hd hd' hle k hg]at e1;cases e1
theorem q2b1 {n d n' d':Int} (hd:1<=d) (hd':1<=d') (hle:leQ n d n' d') (hb:lo.2.2.1<hi.2.2.1) (h:leads (ofP hi) (ofP lo) n d=true):leads (ofP hi) (ofP lo) n' d'=true:=by
 obtain⟨m,hm⟩:=q28n (p:=lo) (q:=hi) (by omega)
 have k:=(q288 (x:=(lo,hi)) hl hh hm).2.1
 have e1:=q289 (x:=(lo,hi)) hl hh hm (n:=n) (dd:=d)
 have e2:=q289 (x:=(lo,hi)) hl hh hm (n:=n') (dd:=d')
 rw[if_neg (show ¬ hi.2.2.1<lo.2.2.1 by omega)]at e1 e2
 rw[q2az hl hh hi']at h ⊢
 rw[show leads (ofP lo) (ofP hi) n d=gtM n d m from e1]at h
 rw[show leads (ofP lo) (ofP hi) n' d'=gtM n' d' m from e2]
 cases hg:gtM n' d' m with
 | false=>rfl
 | true=>rw[q27x hd hd' hle k hg]at h;cases h
theorem q2b2 {n d n' d' m e:Int} (hd:1<=d) (hd':1<=d') (he:1<=e) (h1:leQ n d n' d') (h2:leQ n' d' m e) (k1:leads (ofP lo) (ofP hi) n d=true) (k2:leads (ofP hi) (ofP lo) n' d'=true):leads (ofP hi) (ofP lo) m e=true:=by
 by_cases hb:hi.2.2.1<=lo.2.2.1
 ·have:=q2b0 hl hh hi' hd hd' h1 hb k1
  rw[q2az hl hh hi',this]at k2;cases k2
 ·exact q2b1 hl hh hi' hd' he h2 (by omega) k2
theorem q2b3 {n d:Int} {t:Int×Int} (hn:TOk n d) (h:q2ay lo hi n d=some t):TOk t.1 t.2/\leQ n d t.1 t.2/\leads (ofP hi) (ofP lo) t.1 t.2=true/\∀ m e,1<=e->leQ n d m e->m*t.2<t.1*e->leads (ofP lo) (ofP hi) m e=true:=by
 unfold q2ay at h
 split at h
 ·rename_i hled
  injection h with h;subst h
  refine⟨hn,q2av _ _,hled,fun m e _ h1 h2=>?_⟩
  unfold leQ at h1
  exact absurd h2 (Int.not_lt.2 h1)
 ·rename_i hled
  split at h
  ·cases h
  ·rename_i hb
   injection h with h
   obtain⟨m,hm⟩:=q28n (p:=lo) (q:=hi) (by omega)
   obtain⟨_,ho,b1,b2,_⟩:=q288 (x:=(lo,hi)) hl hh hm
   have ht:t.1=m.1/\t.2=m.2.1:=by
    unfold mtP at hm
    rw[if_neg (show (lo,hi).1.2.2.1≠(lo,hi).2.2.2.1 by show lo.2.2.1≠hi.2.2.1;omega)]at hm
    injection hm with hm
    subst hm;subst h;exact⟨rfl,rfl⟩
   obtain⟨t1,t2⟩:=t
   obtain⟨rfl,rfl⟩:=ht
   have lm:∀ n d,leads (ofP lo) (ofP hi) n d=gtM n d m:=fun n d=>by
    have:=q289 (x:=(lo,hi)) hl hh hm (n:=n) (dd:=d)
    rwa[if_neg (show ¬ hi.2.2.1<lo.2.2.1 by omega)]at this
   refine⟨⟨q27g (by omega),q27g (by have:=(qjv ho).1;omega),ho⟩,?_,?_,fun m' e he h1 h2=>?_⟩
   ·rw[q2az hl hh hi',lm]at hled
    cases hg:gtM n d m with
    | true=>exact Int.le_of_lt ((q27o _ _ _).1 hg)
    | false=>rw[hg]at hled;exact absurd rfl hled
   ·rw[q2az hl hh hi',lm]
    cases hg:gtM m.1 m.2.1 m with
    | false=>rfl
    | true=>exact absurd ((q27o _ _ _).1 hg) (Int.lt_irrefl _)
   ·rw[lm];exact (q27o _ _ _).2 h2
theorem q2b4 {n d:Int} (hn:1<=d) (h:q2ay lo hi n d=none) {m e:Int} (he:1<=e) (hle:leQ n d m e):leads (ofP lo) (ofP hi) m e=true:=by
 unfold q2ay at h
 split at h
 ·cases h
 ·rename_i hled
  split at h
  ·rename_i hb
   refine q2b0 hl hh hi' hn he hle hb ?_
   rw[q2az hl hh hi']at hled
   simpa using hled
  ·cases h
theorem q2b5 {n d:Int} {t:Int×Int} (hn:TOk n d) (h:q2ay lo hi n d=some t) {m e:Int} (hm:TOk m e) (h1:leQ n d m e) (h2:leQ m e t.1 t.2):q2ay lo hi m e=some t:=by
 obtain⟨k1,k2,k3,k4⟩:=q2b3 hl hh hi' hn h
 by_cases hlt:m*t.2<t.1*e
 ·have:=k4 m e hm.pos h1 hlt
  have k5:=k4 n d hn.pos (q2av _ _) (q26r hn.pos hm.pos k1.pos h1 hlt)
  unfold q2ay at h ⊢
  rw[q2az hl hh hi',this]
  rw[q2az hl hh hi',k5]at h
  exact h
 ·obtain⟨e1,e2⟩:=q2ax hm.ok k1.ok h2 (Int.not_lt.1 hlt)
  subst e1 e2
  unfold q2ay;rw[if_pos k3]
theorem q2b6 {n d:Int} (hn:TOk n d) (h:q2ay lo hi n d=none) {m e:Int} (hm:TOk m e) (h1:leQ n d m e):q2ay lo hi m e=none:=by
 have k:=q2b4 hl hh hi' hn.pos h hm.pos h1
 have k0:=q2b4 hl hh hi' hn.pos h hn.pos (q2av _ _)
 unfold q2ay at h ⊢
 rw[q2az hl hh hi',k]
 rw[q2az hl hh hi',k0]at h
 exact h
end
def ptI (l:List T3) (i:Int):T3:=(l.find? fun p=>p.1==i).getD (-1,0,0,())
theorem q2b7 {l:List T3} (h:FldOk l) {p:T3} (hp:p∈l):ptI l p.1=p:=by
 unfold ptI
 cases hf:l.find? fun q=>q.1==p.1 with
 | none=>exact absurd (List.find?_eq_none.1 hf p hp) (by simp)
 | some q =>
  have h1:=List.find?_some hf
  have h2:=List.mem_of_find?_eq_some hf
  exact q28m h h2 hp (by simpa using h1)
def hasI (l:List T3) (i:Int):Prop:=∃ p∈l,p.1=i
theorem q2b8 {l:List T3} (h:FldOk l) {i:Int} (hi:hasI l i):ptI l i∈l/\(ptI l i).1=i:=by
 obtain⟨p,hp,rfl⟩:=hi
 rw[q2b7 h hp];exact⟨hp,rfl⟩
theorem q2b9 {l:List T3} (h:FldOk l) {i:Nat} {p:T3} (hi:l[i]?=some p):atI (ptsL l) p.1=i:=by
 refine qn5 (p:=ofP p) (fun j q hj hq=>?_) (by unfold ptsL;rw[List.getElem?_map,hi];rfl) rfl
 unfold ptsL at hq
 rw[List.getElem?_map]at hq
 obtain⟨hil,rfl⟩:=List.getElem?_eq_some_iff.1 hi
 rw[List.getElem?_eq_getElem (by omega)]at hq
 injection hq with hq
 subst hq
 have:=(List.pairwise_iff_getElem.1 h.inc) j i (by omega) hil hj
 show (l[j]).1≠(l[i]).1
 omega
def bsL (F:Diii×Di×Unit->Option Int) (self:List Diii×Int×Int×Int×Int->Option (Int×Bool)):List Diii×Int×Int×Int×Int->Option (Int×Bool):=fun (x1a,x1b,x1c,x1d,x1e) =>
 (bif (decide (x1d<x1e)) then (let a3:=(wi (shrI .u64 (IntKind.wrap .u64 (wi (x1d+x1e))) 1));(obif (inB a3 x1a.length) (let e2:=(elt ziii x1a a3.toNat);(obnd (F ((e2.1,e2.2.1,e2.2.2.1,()),(x1b,()),())) fun r3=>(bif (decide (r3<0)) then (self (x1a,x1b,x1c,(wi (a3+1)),x1e)) else (self (x1a,x1b,x1c,x1d,a3))))) none)) else (obif (decide (x1d<x1c)) (obif (inB x1d x1a.length) (let e1:=(elt ziii x1a x1d.toNat);(obnd (F ((e1.1,e1.2.1,e1.2.2.1,()),(x1b,()),())) fun r2=>(some (x1d,(r2==0))))) none) (some (x1d,false))))
theorem q2ba {F:Diii×Di×Unit->Option Int} (hF:∀ (a b c k:Int),F ((a,b,c,()),(k,()),())=some (cmpZ a k)) {d:Nat} (hd:5000<=d) {l:List Diii} (hlen:l.length<=1000) {k:Int} {m:Nat} {b:Bool} (hm:m<=l.length)
 (h1:∀ (j:Nat) x,j<m->l[j]?=some x->x.1<k) (h2:∀ (j:Nat) x,m<=j->l[j]?=some x->k<=x.1) (h3:b=true ↔ ∃ x,l[m]?=some x/\x.1=k):iter (bsL F) d (l,k,(l.length:Int),0,(l.length:Int))=some ((m:Int),b):=by
 have body:∀ (self:List Diii×Int×Int×Int×Int->Option (Int×Bool)) (lo hi:Nat),lo<hi->hi<=l.length->∀ x,l[(lo+hi)/2]?=some x ->
   bsL F self (l,k,(l.length:Int),(lo:Int),(hi:Int))=if x.1<k then self (l,k,(l.length:Int),(((lo+hi)/2+1:Nat):Int),(hi:Int)) else self (l,k,(l.length:Int),(lo:Int),(((lo+hi)/2:Nat):Int)):=fun self lo hi h1 h2 x hx=>by
  have c1:decide ((lo:Int)<(hi:Int))=true:=by rw[decide_eq_true_eq];omega
  simp only[bsL,c1,cond_true,q26e (show lo+hi<=1000000 by omega),inN (show (lo+hi)/2<l.length by omega),eltI (z:=ziii) hx,Int.toNat_natCast,hF,obnd,obif]
  by_cases hg:x.1<k
  ·rw[if_pos hg,qqk hg,show decide ((-1:Int)<0)=true from rfl,cond_true,wiS (by omega)]
  ·rw[if_neg hg,show decide (cmpZ x.1 k<0)=false by rw[decide_eq_false_iff_not];unfold cmpZ;repeat' split<;>omega,cond_false]
 refine q26d (L:=bsL F) (fun lo hi=>(l,k,(l.length:Int),(lo:Int),(hi:Int))) l.length m b hm
  (fun self lo hi g1 g2 g3=>by
   obtain⟨x,hx⟩:∃ x,l[(lo+hi)/2]?=some x:=⟨_,List.getElem?_eq_getElem (by omega)⟩
   rw[body self lo hi g1 g2 x hx,if_pos (h1 _ x g3 hx)])
  (fun self lo hi g1 g2 g3=>by
   obtain⟨x,hx⟩:∃ x,l[(lo+hi)/2]?=some x:=⟨_,List.getElem?_eq_getElem (by omega)⟩
   rw[body self lo hi g1 g2 x hx,if_neg (by have:=h2 _ x g3 hx;omega)])
  (fun self=>by
   have c1:decide (((m:Nat):Int)<((m:Nat):Int))=false:=by simp
   simp only[bsL,c1,cond_false]
   by_cases hl:m<l.length
   ·obtain⟨x,hx⟩:∃ x,l[m]?=some x:=⟨_,List.getElem?_eq_getElem hl⟩
    have c2:decide (((m:Nat):Int)<(l.length:Int))=true:=by rw[decide_eq_true_eq];omega
    simp only[c2,obif,cond_true,inN hl,eltI (z:=ziii) hx,Int.toNat_natCast,hF,obnd]
    refine congrArg some (Prod.ext rfl ?_)
    show (cmpZ x.1 k==0)=b
    rw[Bool.eq_iff_iff,h3,beq_iff_eq]
    constructor
    ·intro e;refine⟨x,hx,?_⟩
     unfold cmpZ at e;revert e;repeat' split<;>omega
    ·rintro⟨y,hy,e⟩;rw[hx]at hy;injection hy with hy;subst hy;exact qqm e
   ·have c2:decide (((m:Nat):Int)<(l.length:Int))=false:=by rw[decide_eq_false_iff_not];omega
    simp only[c2,obif,cond_false]
    refine congrArg some (Prod.ext rfl ?_)
    show false=b
    rw[Bool.eq_iff_iff,h3]
    constructor
    ·intro e;cases e
    ·rintro⟨y,hy,e⟩;exact absurd (q294 hy) hl) d 0 l.length (Nat.zero_le _) hm (Nat.le_refl _) (by omega)
theorem q2bb {F:Diii×Di×Unit->Option Int} (hF:∀ (a b c k:Int),F ((a,b,c,()),(k,()),())=some (cmpZ a k)) {d:Nat} (hd:5000<=d) {l:List Diii} (hlen:l.length<=1000) (hi:l.Pairwise fun a b=>a.1<b.1) {j:Nat} {x:Diii} (hx:l[j]?=some x):iter (bsL F) d (l,x.1,(l.length:Int),0,(l.length:Int))=some ((j:Int),true):=by
 have hj:=q294 hx
 rw[List.pairwise_iff_getElem]at hi
 obtain⟨_,rfl⟩:=List.getElem?_eq_some_iff.1 hx
 refine q2ba hF hd hlen (by omega) (fun i y h1 h2=>?_) (fun i y h1 h2=>?_) ⟨fun _=>⟨_,hx,rfl⟩,fun _=>rfl⟩
 ·obtain⟨h3,rfl⟩:=List.getElem?_eq_some_iff.1 h2
  exact hi i j h3 hj h1
 ·obtain⟨h3,rfl⟩:=List.getElem?_eq_some_iff.1 h2
  rcases Nat.lt_or_eq_of_le h1 with h4 | h4
  ·exact Int.le_of_lt (hi j i hj h3 h4)
  ·subst h4;exact Int.le_refl _
theorem q2bc {F:Diii×Di×Unit->Option Int} (hF:∀ (a b c k:Int),F ((a,b,c,()),(k,()),())=some (cmpZ a k)) {d:Nat} (hd:5000<=d) {l:List Diii} (hlen:l.length<=1000) (hi:l.Pairwise fun a b=>a.1<b.1) {k:Int} (hk:∀ x∈l,x.1≠k):∃ j,iter (bsL F) d (l,k,(l.length:Int),0,(l.length:Int))=some (j,false):=by
 rw[List.pairwise_iff_getElem]at hi
 refine⟨_,q2ba hF hd hlen (m:=l.findIdx fun e=>decide (k<=e.1)) List.findIdx_le_length (fun i y h1 h2=>?_) (fun i y h1 h2=>?_) ⟨fun e=>Bool.noConfusion e,fun⟨x,h1,h2⟩=>absurd h2 (hk x (List.mem_of_getElem? h1))⟩⟩
 ·have:=List.not_of_lt_findIdx h1
  obtain⟨h3,rfl⟩:=List.getElem?_eq_some_iff.1 h2
  simp at this;omega
 ·obtain⟨h3,rfl⟩:=List.getElem?_eq_some_iff.1 h2
  have hml:(l.findIdx fun e=>decide (k<=e.1))<l.length:=by omega
  have:=List.findIdx_getElem (w:=hml)
  rw[decide_eq_true_eq]at this
  rcases Nat.lt_or_eq_of_le h1 with h4 | h4
  ·have:=hi _ i hml h3 h4;omega
  ·simp only[← h4];exact this
theorem q2bd (d:Nat) (hd:5000<=d) {l:List T3} (h:FldOk l) {i:Int} (hi:hasI l i):q1im d ((l,()),(i,()),())=some ((ptI l i).1,(ptI l i).2.1,(ptI l i).2.2.1):=by
 obtain⟨p,hp,rfl⟩:=hi
 obtain⟨j,hj,hx⟩:=List.mem_iff_getElem.1 hp
 have hx:l[j]?=some p:=by rw[List.getElem?_eq_getElem hj,hx]
 have e:=q2bb (F:=q1i4 d) (fun a b c k=>by rw[q1i6];simp only[q1i5,q26h,obnd]) hd (by have:=h.len;omega) h.inc hx
 have e1:q1ib d ((l,()),(p.1,()),(),())=some ((j:Int),true):=by
  rw[q1ih];exact e
 rw[q1io]
 simp only[q1in,e1,obnd,Bool.not_true,cond_false,obif,inN hj,cond_true,Int.toNat_natCast,eltI (z:=ziii) hx,q2b7 h hp]
theorem q2be {p q:T3} (hp:okP p) (hq:okP q) {n d:Int} (h:TOk n d):qs9 (ofP p) (ofP q) n d=true:=by
 obtain⟨_,_,a1,a2,a3,a4⟩:=q27l hp
 obtain⟨_,_,b1,b2,b3,b4⟩:=q27l hq
 have:=h.pos
 have:=(qjv h.ok).2.1
 have h1:=h.b1;have h2:=h.b2
 unfold i64B at h1 h2
 simp only[Bool.and_eq_true,decide_eq_true_eq]at h1 h2
 unfold qs9
 simp only[Bool.and_eq_true,decide_eq_true_eq]
 exact⟨⟨⟨⟨⟨⟨a1,a2⟩,a3,a4⟩,b1,b2⟩,b3,b4⟩,by omega,by omega⟩,by omega,by omega⟩
def optT:Option (Int×Int)->Int×Int×Bool
 | some t=>(t.1,t.2,true)
 | none=>(0,0,false)
theorem q2bf (d:Nat) {lo hi:T3} (hl:okP lo) (hh:okP hi) (hi':lo.1≠hi.1) {n dd:Int} (hn:TOk n dd):q1j0 d ((lo.1,lo.2.1,lo.2.2.1,()),(hi.1,hi.2.1,hi.2.2.1,()),(n,dd,()),())=some ((optT (q2ay lo hi n dd)).1,(optT (q2ay lo hi n dd)).2.1,(optT (q2ay lo hi n dd)).2.2,0):=by
 have e1:qus d ((lo.1,lo.2.1,lo.2.2.1,()),(hi.1,hi.2.1,hi.2.2.1,()),(n,dd,()),())=some 0:=by
  rw[qut _ _ (by unfold qur;simp only[hn.b1,hn.b2,Bool.and_self])]
  exact congrArg some (qqx ⟨hl,hh,hn.ok⟩ hi')
 have e2:qz3 d ((hi.1,hi.2.1,hi.2.2.1,()),(lo.1,lo.2.1,lo.2.2.1,()),(n,dd,()),())=some (cmpC (ofP hi) (ofP lo) n dd) :=
  qz4 _ _ (by exact q2be hh hl hn)
 have e3:decide (cmpC (ofP hi) (ofP lo) n dd>0)=leads (ofP hi) (ofP lo) n dd:=qqt ..
 rw[q1j2]
 simp only[q1j1,e1,obnd,show ((0:Int) != 0)=false from rfl,cond_false,e2,e3,q27m d hl hh hi']
 unfold q2ay
 cases hc:leads (ofP hi) (ofP lo) n dd with
 | true=>rfl
 | false =>
  simp only[cond_false,Bool.false_eq_true,if_false]
  by_cases hb:hi.2.2.1<=lo.2.2.1
  ·simp only[hb,decide_true,cond_true,if_true];rfl
  ·simp only[hb,decide_false,cond_false,if_false,if_neg (show lo.2.2.1≠hi.2.2.1 by omega)]
   rfl
theorem q2bg (d:Nat) (hd:5000<=d) {l:List T3} (h:FldOk l) {a b:Int} (ha:hasI l a) (hb:hasI l b) (hab:a≠b) {n dd:Int} (hn:TOk n dd):q1j7 d ((l,()),(a,b,()),(n,dd,()),())=some ((optT (q2ay (ptI l b) (ptI l a) n dd)).1,(optT (q2ay (ptI l b) (ptI l a) n dd)).2.1,(optT (q2ay (ptI l b) (ptI l a) n dd)).2.2,0):=by
 have pa:=q2b8 h ha;have pb:=q2b8 h hb
 rw[q1j9]
 simp only[q1j8,q2bd d hd h ha,q2bd d hd h hb,obnd,q2bf d (h.ok _ pb.1) (h.ok _ pa.1) (by rw[pa.2,pb.2];exact fun e=>hab e.symm) hn]
theorem q2bh (d:Nat) {l:List T3} (h:FldOk l) {i:Int} (hi:hasI l i):∃ j:Nat,j<l.length/\qvs d ((l,()),(i,()),())=some (j:Int)/\elt ziii l j=ptI l i:=by
 obtain⟨p,hp,rfl⟩:=hi
 obtain⟨j,hj,hx⟩:=List.mem_iff_getElem.1 hp
 have hx:l[j]?=some p:=by rw[List.getElem?_eq_getElem hj,hx]
 refine⟨j,hj,?_,by rw[q2b7 h hp];exact eltI hx⟩
 rw[qvt _ _ (by unfold qvr;simp only[qpe,decide_eq_true_eq];have:=h.len;omega)]
 exact congrArg some (q2b9 h hx)
theorem q2bi (d:Nat) {l:List T3} (h:FldOk l) {a b:Int} (ha:hasI l a) (hb:hasI l b) (hab:a≠b) {n dd:Int} (hn:TOk n dd):q1pd d ((l,()),(a,b,()),(n,dd,()),())=some (optT (q2ay (ptI l b) (ptI l a) n dd)):=by
 have pa:=q2b8 h ha;have pb:=q2b8 h hb
 have la:=h.ok _ pa.1;have lb:=h.ok _ pb.1
 obtain⟨j,hj,e1,f1⟩:=q2bh d h hb
 obtain⟨k,hk,e2,f2⟩:=q2bh d h ha
 have e3:qui d (((ptI l a).1,(ptI l a).2.1,(ptI l a).2.2.1,()),((ptI l b).1,(ptI l b).2.1,(ptI l b).2.2.1,()),(n,dd,()),())=some (leads (ofP (ptI l a)) (ofP (ptI l b)) n dd) :=
  quj _ _ (by exact q2be la lb hn)
 obtain⟨_,_,a1,a2,a3,a4⟩:=q27l la
 obtain⟨_,_,b1,b2,b3,b4⟩:=q27l lb
 have w1:wi ((ptI l b).2.1-(ptI l a).2.1)=(ptI l b).2.1-(ptI l a).2.1:=q269 (by omega)
 have w2:wi ((ptI l a).2.2.1-(ptI l b).2.2.1)=(ptI l a).2.2.1-(ptI l b).2.2.1:=q269 (by omega)
 have e4:qtr d (((ptI l b).2.1-(ptI l a).2.1,()),((ptI l a).2.2.1-(ptI l b).2.2.1,()),())=some (mk ((ptI l b).2.1-(ptI l a).2.1) ((ptI l a).2.2.1-(ptI l b).2.2.1)) :=
  qts _ _ (by unfold qtq;simp only;rw[q27g (by omega),q27g (by omega)];rfl)
 rw[q1pf]
 simp only[q1pe,e1,e2,obnd,obif,inN hj,inN hk,cond_true,Int.toNat_natCast,f1,f2,q1p8,q1p7,e3,q1p1,q1p0,w1,w2,e4]
 unfold q2ay
 cases hc:leads (ofP (ptI l a)) (ofP (ptI l b)) n dd with
 | true=>rfl
 | false =>
  simp only[cond_false,Bool.false_eq_true,if_false]
  by_cases hbb:(ptI l a).2.2.1<=(ptI l b).2.2.1
  ·simp only[show decide ((ptI l a).2.2.1>(ptI l b).2.2.1)=false by rw[decide_eq_false_iff_not];omega,cond_false,hbb,if_true];rfl
  ·simp only[show decide ((ptI l a).2.2.1>(ptI l b).2.2.1)=true by rw[decide_eq_true_eq];omega,cond_true,hbb,if_false];rfl
structure CertOk (F:List T3) (nx:Int) (C:List Diii):Prop where
 len:C.length<=190
 n0:0<=nx
 n1:nx<=900
 inc:C.Pairwise fun a b=>a.1<b.1
 rg:∀ c∈C,0<=c.1/\c.1<nx
 ia:∀ c∈C,hasI F c.2.1
 ib:∀ c∈C,hasI F c.2.2.1
 ne:∀ c∈C,c.2.1≠c.2.2.1
 nd:(C.map fun c=>[c.2.1,c.2.2.1]).Nodup
theorem q2bj {F:List T3} (hF:FldOk F) {i:Int} (h:hasI F i):0<=i/\i<=65535:=by
 obtain⟨p,hp,rfl⟩:=h
 have:=q27l (hF.ok p hp);omega
theorem q2bk (d:Nat) {a b:Int} (h1:0<=a/\a<=65535) (h2:0<=b/\b<=65535) (h3:a≠b):q1ei d ((a,b,()),())=some true:=by
 rw[q1ek]
 have e1:decide (tmin a b≥0)=true:=by rw[decide_eq_true_eq];unfold tmin;split<;>omega
 have e2:decide (tmax a b<=65535)=true:=by rw[decide_eq_true_eq];unfold tmax;split<;>omega
 simp only[q1ej,obif,e1,e2,cond_true]
 rw[show (a != b)=true by simpa using h3]
theorem q2bl (d:Nat) {a b:Int} (h1:0<=a/\a<=65535) (h2:0<=b/\b<=65535) (h3:a≠b):q1nz d ((a,b,()),())=some true:=by
 rw[q1o1]
 simp only[q1o0,obif,show decide (a≥0)=true by rw[decide_eq_true_eq];omega,show decide (a<=65535)=true by rw[decide_eq_true_eq];omega,show decide (b≥0)=true by rw[decide_eq_true_eq];omega,show decide (b<=65535)=true by rw[decide_eq_true_eq];omega,cond_true]
 rw[show (a != b)=true by simpa using h3]
variable {F:List T3} {nx:Int} {C:List Diii}
theorem CertOk.new (h:CertOk F nx C) {i:Nat} (hi:i<C.length):[(elt ziii C i).2.1,(elt ziii C i).2.2.1]∉(C.take i).map fun c=>[c.2.1,c.2.2.1]:=by
 rw[List.map_take]
 exact q295 h.nd (by rw[List.getElem?_map,q291 ziii hi];rfl)
theorem CertOk.lt (h:CertOk F nx C) {i j:Nat} (hij:i<j) (hj:j<C.length):(elt ziii C i).1<(elt ziii C j).1:=by
 have:=(List.pairwise_iff_getElem.1 h.inc) i j (by omega) hj hij
 unfold elt;rw[List.getElem?_eq_getElem hj,List.getElem?_eq_getElem (show i<C.length by omega)];exact this
def q2bm (C:List Diii):Nat->Int
 | 0=>-1
 | i+1=>(elt ziii C i).1
theorem q2bn (d:Nat) (hd:5000<=d) (hF:FldOk F) (h:CertOk F nx C):q1ep d ((nx,C,()),())=some 0:=by
 have hl:=h.len;have n0:=h.n0;have n1:=h.n1
 rw[q1ex]
 simp only[q1ew,obif,show decide ((C.length:Int)>200)=false by rw[decide_eq_false_iff_not];omega,show decide (nx<0)=false by rw[decide_eq_false_iff_not];omega,show decide (nx>1000000)=false by rw[decide_eq_false_iff_not];omega,cond_false,q1eu]
 refine q26b (fun i=>(q2bm C i,C,(C.length:Int),(i:Int),nx,C,q2a5 (.agg 2) ((C.take i).map fun c=>[c.2.1,c.2.2.1]))) _ C.length (fun i self hi=>?_) (fun self=>?_) (by omega) rfl
 ·have hm:=q290 ziii hi
  have hr:=h.rg _ hm
  have hn:(mget (.agg 2) Rb (q2a5 (.agg 2) ((C.take i).map fun c=>[c.2.1,c.2.2.1])) [(elt ziii C i).2.1,(elt ziii C i).2.2.1]).1=false:=q2a9 (κ:=.agg 2) (h.new hi)
  have hs:q2a5 (.agg 2) ((C.take (i+1)).map fun c=>[c.2.1,c.2.2.1])=mput (.agg 2) Rb (q2a5 (.agg 2) ((C.take i).map fun c=>[c.2.1,c.2.2.1])) [(elt ziii C i).2.1,(elt ziii C i).2.2.1] (true,()):=by
   rw[q293 (q291 ziii hi),List.map_append];exact q2a6 (κ:=.agg 2) _ _
  have hlast:q2bm C i<(elt ziii C i).1:=by
   cases i with
   | zero=>show -1<_;omega
   | succ i=>exact h.lt (Nat.lt_succ_self i) hi
  simp only[q1es,show decide ((i:Int)<(C.length:Int))=true by rw[decide_eq_true_eq];omega,cond_true,inN hi,obif,Int.toNat_natCast,q2bk d (q2bj hF (h.ia _ hm)) (q2bj hF (h.ib _ hm)) (h.ne _ hm),obnd,Bool.not_true,cond_false,hn,show decide ((elt ziii C i).1<=q2bm C i)=false by rw[decide_eq_false_iff_not];omega,show decide ((elt ziii C i).1≥nx)=false by rw[decide_eq_false_iff_not];omega,q1er,hs,wiS (show i<9223372036854775807 by omega)]
  rfl
 ·simp only[q1es,show decide ((C.length:Int)<(C.length:Int))=false by simp,cond_false]
theorem q2bo (d:Nat) (hd:5000<=d) (hF:FldOk F) (h:CertOk F nx C):q1o6 d ((nx,C,()),())=some 0:=by
 have hl:=h.len;have n0:=h.n0;have n1:=h.n1
 rw[q1oi]
 simp only[q1oh,obif,show decide ((C.length:Int)>200)=false by rw[decide_eq_false_iff_not];omega,show decide (nx<0)=false by rw[decide_eq_false_iff_not];omega,show decide (nx>1000000)=false by rw[decide_eq_false_iff_not];omega,cond_false]
 refine q26b (fun i=>((i:Int),nx,C)) _ C.length (fun i self hi=>?_) (fun self=>?_) (by omega) rfl
 ·have hm:=q290 ziii hi
  have hr:=h.rg _ hm
  have hj:iter (q1o9 d self) d ((i:Int),0,nx,C,(elt ziii C i).1,(elt ziii C i).2.1,(elt ziii C i).2.2.1)=self (((i+1:Nat):Int),nx,C):=by
   refine q2a3 (fun j=>((i:Int),(j:Int),nx,C,(elt ziii C i).1,(elt ziii C i).2.1,(elt ziii C i).2.2.1)) _ i (fun j self' hj=>?_) (fun self'=>?_) d 0 (by omega) (by omega)
   ·have hne:((elt ziii C j).2.1==(elt ziii C i).2.1&&((elt ziii C j).2.2.1==(elt ziii C i).2.2.1&&true))=false:=by
     rw[Bool.eq_false_iff]
     intro e
     simp only[Bool.and_true,Bool.and_eq_true,beq_iff_eq]at e
     refine h.new hi (List.mem_map.2 ⟨elt ziii C j,?_,by rw[e.1,e.2]⟩)
     have:=q290 ziii (l:=C.take i) (i:=j) (by rw[List.length_take];omega)
     rwa[q2ap _ hj]at this
    simp only[q1o9,show decide ((j:Int)<(i:Int))=true by rw[decide_eq_true_eq];omega,cond_true,inN (show j<C.length by omega),obif,Int.toNat_natCast,hne,cond_false,wiS (show j<9223372036854775807 by omega)]
   ·simp only[q1o9,show decide ((i:Int)<(i:Int))=false by simp,cond_false,wiS (show i<9223372036854775807 by omega)]
  simp only[q1of,q1oc,show decide ((i:Int)<(C.length:Int))=true by rw[decide_eq_true_eq];omega,cond_true,inN hi,obif,Int.toNat_natCast,q2bl d (q2bj hF (h.ia _ hm)) (q2bj hF (h.ib _ hm)) (h.ne _ hm),obnd,Bool.not_true,cond_false,show decide ((elt ziii C i).1<0)=false by rw[decide_eq_false_iff_not];omega,show decide ((elt ziii C i).1≥nx)=false by rw[decide_eq_false_iff_not];omega,q1ob,hj]
  cases i with
  | zero=>rfl
  | succ i =>
   have:(elt ziii C i).1<(elt ziii C (i+1)).1:=h.lt (Nat.lt_succ_self i) hi
   simp only[show decide (((i+1:Nat):Int)>0)=true by rw[decide_eq_true_eq];omega,cond_true,show wi (((i+1:Nat):Int)-1)=(i:Int) by rw[q269 (by omega)];omega,inN (show i<C.length by omega),Int.toNat_natCast,show decide ((elt ziii C i).1≥(elt ziii C (i+1)).1)=false by rw[decide_eq_false_iff_not];omega,cond_false]
 ·simp only[q1of,q1oc,show decide ((C.length:Int)<(C.length:Int))=false by simp,cond_false]
theorem q2bp (d:Nat) (hd:5000<=d) (hF:FldOk F) (h:CertOk F nx C):q1on d ((nx,C,()),(F,()),())=some true:=by
 have hl:=h.len
 rw[q1ou]
 simp only[q1ot]
 refine q26b (fun i=>((i:Int),nx,C,F)) _ C.length (fun i self hi=>?_) (fun self=>?_) (by omega) rfl
 ·have hm:=q290 ziii hi
  obtain⟨j,_,e1,_⟩:=q2bh d hF (h.ia _ hm)
  obtain⟨k,_,e2,_⟩:=q2bh d hF (h.ib _ hm)
  simp only[q1oq,show decide ((i:Int)<(C.length:Int))=true by rw[decide_eq_true_eq];omega,cond_true,inN hi,obif,Int.toNat_natCast,e1,e2,obnd,show decide ((j:Int)<0)=false by rw[decide_eq_false_iff_not];omega,show decide ((k:Int)<0)=false by rw[decide_eq_false_iff_not];omega,cond_false,q1op,wiS (show i<9223372036854775807 by omega)]
 ·simp only[q1oq,show decide ((C.length:Int)<(C.length:Int))=false by simp,cond_false]
theorem q2bq (d:Nat) {L:List Diii} (hl:L.length<=1000):q12j d ((L,()),())=some L:=by
 unfold q12j apB;rw[show Nat.ble (0+L.length) 100000=true from Nat.ble_eq_true_of_le (by omega)];rfl
theorem q2br (d:Nat) {L:List Diii} (hl:L.length<=1000):q12q d ((L,()),())=some L:=by
 unfold q12q apB;rw[show Nat.ble (0+L.length) 100000=true from Nat.ble_eq_true_of_le (by omega)];rfl
theorem q2bs (d:Nat) {L:List Diii} (hl:L.length<=1000):q12c d ((L,()),())=some L:=by
 unfold q12c apB;rw[show Nat.ble (0+L.length) 100000=true from Nat.ble_eq_true_of_le (by omega)];rfl
theorem q2bu (d:Nat) {L:List Diii} {j:Nat} (hj:j<L.length):q1cp d ((),(((j:Int),()),(((j+1:Nat):Int),()),()),L)=some (L.eraseIdx j):=by
 rw[List.eraseIdx_eq_take_drop_succ]
 have b1:(decide (0<=(j:Int))&&decide ((j:Int)<=((j+1:Nat):Int))&&decide (((j+1:Nat):Int)<=(L.length:Int))&&decide ((L.length:Int)<=(L.length:Int)))=true:=by
  simp only[Bool.and_eq_true,decide_eq_true_eq];omega
 have b2:((j:Int)==((j+1:Nat):Int))=false:=by rw[beq_eq_false_iff_ne];omega
 have b3:(decide (0<=(j:Int))&&decide ((j:Int)<=(L.length:Int)))=true:=by simp only[Bool.and_eq_true,decide_eq_true_eq];omega
 by_cases hl:j+1<L.length
 ·have b4:(decide (0<=((j+1:Nat):Int))&&decide (((j+1:Nat):Int)<(L.length:Int)))=true:=by simp only[Bool.and_eq_true,decide_eq_true_eq];omega
  have ln:(L.take j++(L.drop (j+1)++L.drop (j+(L.length-(j+1))))).length=L.length:=by simp only[List.length_append,List.length_take,List.length_drop];omega
  have b5:(decide (0<=((j+(L.length-(j+1)):Nat):Int))&&decide (((j+(L.length-(j+1)):Nat):Int)<(L.length:Int)))=true:=by simp only[Bool.and_eq_true,decide_eq_true_eq];omega
  simp only[q1cp,q1bz,q1c1,q1c5,q1cd,q1ch,q1cl,q1cn,Dt.eval,b1,b2,b3,b4,cond_true,cond_false,Int.toNat_natCast,show Nat.ble j (j+1)=true from Nat.ble_eq_true_of_le (by omega),ln,decide_true,Bool.and_true,b5,show Nat.ble (j+(L.length-(j+1))) L.length=true from Nat.ble_eq_true_of_le (by omega)]
  refine congrArg some ?_
  rw[List.take_append_of_le_length (by simp only[List.length_take,List.length_append,List.length_drop];omega),List.take_take,Nat.min_self,← List.append_assoc,List.take_append_of_le_length (by simp only[List.length_take,List.length_append,List.length_drop];omega)]
  exact List.take_of_length_le (by simp only[List.length_take,List.length_append,List.length_drop];omega)
 ·have hl:j+1=L.length:=by omega
  have b4:(decide (0<=((j+1:Nat):Int))&&decide (((j+1:Nat):Int)<(L.length:Int)))=false:=by rw[hl];simp
  have b6:decide (((j+1:Nat):Int)=(L.length:Int))=true:=by rw[decide_eq_true_eq];omega
  have b5:(decide (0<=(j:Int))&&decide ((j:Int)<(L.length:Int)))=true:=by simp only[Bool.and_eq_true,decide_eq_true_eq];omega
  simp only[q1cp,q1bz,q1c1,q1c5,q1cd,q1ch,q1cl,q1cn,Dt.eval,b1,b2,b3,b4,b6,cond_true,cond_false,Int.toNat_natCast,decide_true,Bool.and_true,b5,show Nat.ble j L.length=true from Nat.ble_eq_true_of_le (by omega)]
  refine congrArg some ?_
  rw[List.take_append_of_le_length (by simp only[List.length_take];omega),List.take_take,Nat.min_self,List.drop_of_length_le (by omega),List.append_nil]
theorem q2bv (d:Nat) {L:List Diii} {j:Nat} (hj:j<L.length):q1dr d ((),(((j:Int),()),(((j+1:Nat):Int),()),()),L)=some (L.eraseIdx j):=q2bu d hj
end Go.Proofs.YtfjjdnaggblaaaaGreat
namespace Go.Tx
open Go
theorem q2bw {κ:MK} {τ:Row} {x k:κ.T} {y:den τ}:∀ m:List (κ.T×den τ),mhas κ τ (mput κ τ m x y) k=bif κ.eq k x then true else mhas κ τ m k
 | []=>rfl
 | p::r => by
  unfold mput
  cases hx:κ.eq x p.1 with
  | true =>
   have e:=MK.eq_iff.1 hx
   simp only[cond_true,mhas]
   rw[← e]
   cases κ.eq k x<;>rfl
  | false =>
   simp only[cond_false,mhas,q2bw r]
   cases hk:κ.eq k p.1 with
   | false=>rfl
   | true=>cases κ.eq k x<;>rfl
end Go.Tx
namespace Go.Proofs.YtfjjdnaggblaaaaGreat
open Go Go.Tx Go.Pel
variable {F:List T3} {nx:Int} {C:List Diii}
theorem q2bx (d:Nat) (hd:5000<=d) {a b:Int} (hl:C.length<=200) (hn:[a,b]∉C.map fun c=>[c.2.1,c.2.2.1]):q1fk d ((C,()),((a,b,()),()),())=some false:=by
 have e:q1f9 d ((C,()),((a,b,()),()),())=some (-1):=by
  rw[q1ff]
  simp only[q1fe]
  refine q26b (fun i=>(C,(a,b,()),(C.length:Int),(i:Int))) _ C.length (fun i self hi=>?_) (fun self=>?_) (by omega) rfl
  ·have hne:((elt ziii C i).2.1==a&&((elt ziii C i).2.2.1==b&&true))=false:=by
    rw[Bool.eq_false_iff]
    intro e
    simp only[Bool.and_true,Bool.and_eq_true,beq_iff_eq]at e
    exact hn (List.mem_map.2 ⟨elt ziii C i,q290 _ hi,by rw[e.1,e.2]⟩)
   simp only[q1fb,show decide ((i:Int)<(C.length:Int))=true by rw[decide_eq_true_eq];omega,cond_true,inN hi,obif,Int.toNat_natCast,q1f4,q1f3,obnd,hne,cond_false,wiS (show i<9223372036854775807 by omega)]
  ·simp only[q1fb,show decide ((C.length:Int)<(C.length:Int))=false by simp,cond_false]
 rw[q1fm];simp only[q1fl,e,obnd]
 rfl
theorem q2by (d:Nat) (hd:5000<=d) (hF:FldOk F) (h:CertOk F nx C) {a b:Int} (ha:hasI F a) (hb:hasI F b) (hab:a≠b) (hn:[a,b]∉C.map fun c=>[c.2.1,c.2.2.1]):q1fr d ((nx,C,()),(a,b,()),())=some (nx+1,C ++ [(nx,a,b,())],nx,0):=by
 have hl:=h.len;have n0:=h.n0;have n1:=h.n1
 rw[q1fu]
 simp only[q1ft,q2bn d hd hF h,obnd,show ((0:Int) != 0)=false from rfl,cond_false,q2bk d (q2bj hF ha) (q2bj hF hb) hab,Bool.not_true,q2bx d hd (show C.length<=200 by omega) hn,obif,show ((C.length:Int)==200)=false by rw[beq_eq_false_iff_ne];omega,show (nx==1000000)=false by rw[beq_eq_false_iff_ne];omega,q1fs,q2bq d (show C.length<=1000 by omega),apB,show Nat.ble (C.length + [(nx,a,b,())].length) 100000=true from Nat.ble_eq_true_of_le (show C.length+1<=100000 by omega),cond_true,q269 (n:=nx+1) (by omega)]
theorem q2bz (h:CertOk F nx C) (hl:C.length<=189) (h9:nx<=899) {a b:Int} (ha:hasI F a) (hb:hasI F b) (hab:a≠b) (hn:[a,b]∉C.map fun c=>[c.2.1,c.2.2.1]):CertOk F (nx+1) (C ++ [(nx,a,b,())]):=by
 have n0:=h.n0
 have hm:∀ {P:Diii->Prop},(∀ c∈C,P c)->P (nx,a,b,())->∀ c∈C ++ [(nx,a,b,())],P c:=fun h1 h2 c hc=>by
  rw[List.mem_append,List.mem_singleton]at hc
  rcases hc with hc | hc
  ·exact h1 c hc
  ·subst hc;exact h2
 refine⟨by simp;omega,by omega,by omega,?_,hm (fun c hc=>by have:=h.rg c hc;omega) ⟨n0,by show nx<nx+1;omega⟩,hm h.ia ha,hm h.ib hb,hm h.ne hab,?_⟩
 ·rw[List.pairwise_append]
  refine⟨h.inc,List.pairwise_singleton _ _,fun c hc c' hc'=>?_⟩
  rw[List.mem_singleton]at hc';subst hc'
  exact (h.rg c hc).2
 ·rw[List.map_append,List.nodup_append]
  refine⟨h.nd,List.nodup_cons.2 ⟨List.not_mem_nil,List.nodup_nil⟩,fun x hx y hy e=>?_⟩
  rw[List.map_singleton,List.mem_singleton]at hy
  subst hy;subst e;exact hn hx
theorem q2c0 (d:Nat) (hd:5000<=d) (hF:FldOk F) (h:CertOk F nx C) {j:Nat} {c:Diii} (hc:C[j]?=some c):q1gh d ((nx,C,()),(c.1,()),())=some ((j:Int),0):=by
 have e:=q2bb (F:=q1fz d) (fun a b c k=>by rw[q1g1];simp only[q1g0,q26h,obnd]) hd (by have:=h.len;omega) h.inc hc
 have e1:q1g6 d ((C,()),(c.1,()),(),())=some ((j:Int),true):=by
  rw[q1gc];exact e
 rw[q1gj]
 simp only[q1gi,q2bn d hd hF h,obnd,show ((0:Int) != 0)=false from rfl,cond_false,e1,Bool.not_true]
theorem q2c1 (d:Nat) (hd:5000<=d) (hF:FldOk F) (h:CertOk F nx C) {j:Nat} {c:Diii} (hc:C[j]?=some c):q1go d ((nx,C,()),(c.1,()),())=some (nx,C.eraseIdx j,c.2.1,c.2.2.1,0):=by
 have hl:=h.len;have hj:=q294 hc
 rw[q1gq]
 simp only[q1gp,q2c0 d hd hF h hc,obnd,show ((0:Int) != 0)=false from rfl,cond_false,q2bq d (show C.length<=1000 by omega),wiS (show j<9223372036854775807 by omega),q2bu d hj,obif,inN hj,cond_true,Int.toNat_natCast,eltI (z:=ziii) hc]
theorem q2c2 (h:CertOk F nx C) (j:Nat):CertOk F nx (C.eraseIdx j):=by
 have s:=List.eraseIdx_sublist C j
 have hm:∀ c,c∈C.eraseIdx j->c∈C:=fun c hc=>s.subset hc
 exact⟨Nat.le_trans s.length_le h.len,h.n0,h.n1,h.inc.sublist s,fun c hc=>h.rg c (hm c hc),fun c hc=>h.ia c (hm c hc),fun c hc=>h.ib c (hm c hc),fun c hc=>h.ne c (hm c hc),h.nd.sublist (s.map _)⟩
def q2c3 (l:List T3) (m:List (Int×Diii)):List (Int×Diii):=l.foldl (fun m e=>mput (.int .i64) Riii m e.1 (e.1,e.2.1,e.2.2.1,())) m
theorem q2c4 {l:List T3} {i:Nat} (hi:i<l.length):q2c3 (l.take (i+1)) []=mput (.int .i64) Riii (q2c3 (l.take i) []) (elt ziii l i).1 ((elt ziii l i).1,(elt ziii l i).2.1,(elt ziii l i).2.2.1,()):=by
 rw[q293 (q291 ziii hi)];exact List.foldl_append
theorem q2c5 {k:Int}:∀ {l:List T3} {m:List (Int×Diii)},(∀ p∈l,p.1≠k)->mget (.int .i64) Riii (q2c3 l m) k=mget (.int .i64) Riii m k/\mhas (.int .i64) Riii (q2c3 l m) k=mhas (.int .i64) Riii m k
 | [],_,_=>⟨rfl,rfl⟩
 | p::l, m, h => by
  have hp:=h p (List.mem_cons_self ..)
  have e:(MK.int .i64).eq k p.1=false:=by
   cases he:(MK.int .i64).eq k p.1 with
   | false=>rfl
   | true=>exact absurd (MK.eq_iff.1 he).symm hp
  obtain⟨h1,h2⟩:=q2c5 (l:=l) (m:=mput (.int .i64) Riii m p.1 (p.1,p.2.1,p.2.2.1,())) fun q hq=>h q (List.mem_cons_of_mem _ hq)
  refine⟨h1.trans ((q2a4 (κ:=.int .i64) (τ:=Riii) m).trans ?_),h2.trans ((q2bw (κ:=.int .i64) (τ:=Riii) m).trans ?_)⟩<;>rw[e] <;> rfl
theorem q2c6 {p:T3}:∀ {l:List T3} {m:List (Int×Diii)},(l.Pairwise fun a b=>a.1<b.1)->p∈l->mget (.int .i64) Riii (q2c3 l m) p.1=p/\mhas (.int .i64) Riii (q2c3 l m) p.1=true
 | q::l, m, hi, hp => by
  rw[List.pairwise_cons]at hi
  by_cases he:q=p
  ·subst he
   obtain⟨h1,h2⟩:=q2c5 (k:=q.1) (l:=l) (m:=mput (.int .i64) Riii m q.1 (q.1,q.2.1,q.2.2.1,())) fun r hr=>by have:=hi.1 r hr;omega
   have e:(MK.int .i64).eq q.1 q.1=true:=MK.eq_iff.2 rfl
   refine⟨h1.trans ((q2a4 (κ:=.int .i64) (τ:=Riii) m).trans ?_),h2.trans ((q2bw (κ:=.int .i64) (τ:=Riii) m).trans ?_)⟩<;>rw[e] <;> rfl
  ·exact q2c6 (l:=l) (m:=mput (.int .i64) Riii m q.1 (q.1,q.2.1,q.2.2.1,())) hi.2 ((List.mem_cons.1 hp).resolve_left fun e=>he e.symm)
theorem q2c7 (d:Nat) {p q:T3} (hp:okP p) (hq:okP q) (hi:p.1≠q.1) {n dd:Int} (hn:TOk n dd):qv1 d ((p.1,p.2.1,p.2.2.1,()),(q.1,q.2.1,q.2.2.1,()),(n,dd,()),())=some (leads (ofP p) (ofP q) n dd,0):=by
 rw[qv2 _ _ (by unfold qv0;simp only[hn.b1,hn.b2,Bool.and_self])]
 have:qqz (ofP p) (ofP q) n dd=(leads (ofP p) (ofP q) n dd,0):=by
  unfold qqz;rw[if_pos (qqx ⟨hp,hq,hn.ok⟩ hi)]
 exact congrArg some this
theorem q2c8 (d:Nat) (hF:FldOk F) {a b:Int} (ha:hasI F a) (hb:hasI F b) (hab:a≠b) {n dd:Int} (hn:TOk n dd) (hl:leads (ofP (ptI F b)) (ofP (ptI F a)) n dd=true):q1h2 d (a,b,false,n,dd,q2c3 F [])=some (true,false,n,dd,q2c3 F []):=by
 have pa:=q2b8 hF ha;have pb:=q2b8 hF hb
 obtain⟨g1,g2⟩:=q2c6 (m:=[]) hF.inc pa.1
 obtain⟨k1,k2⟩:=q2c6 (m:=[]) hF.inc pb.1
 rw[pa.2]at g1 g2;rw[pb.2]at k1 k2
 rw[q1h5]
 simp only[q1h4,q1h3,obif,Bool.and_self,cond_true,cond_false,g1,g2,k1,k2,Bool.not_true,q2c7 d (hF.ok _ pb.1) (hF.ok _ pa.1) (by rw[pa.2,pb.2];exact fun e=>hab e.symm) hn,obnd,hl]
 rfl
theorem q2c9 (d:Nat) (hd:5000<=d) (hf:qmq (ptsL F)=0) (hF:FldOk F) (h:CertOk F nx C) {n dd:Int} (hn:TOk n dd) (hl:∀ c∈C,leads (ofP (ptI F c.2.2.1)) (ofP (ptI F c.2.1)) n dd=true):q1hm d ((nx,C,()),(F,()),(n,dd,()),())=some (C.map fun c=>(c.1,()),0):=by
 have hlen:=h.len;have flen:=hF.len
 have e1:q1ha d (nx,C,false,n,dd,q2c3 F [])=some (false,n,dd,q2c3 F [],C.map fun c=>(c.1,())):=by
  rw[q1hh]
  simp only[q1hg,obif,Bool.and_self,cond_true]
  refine q26b (fun i=>(C,(C.length:Int),(i:Int),q2c3 F [],false,n,dd,(C.take i).map fun c=>(c.1,()))) _ C.length (fun i self hi=>?_) (fun self=>?_) (by omega) rfl
  ·have hm:=q290 ziii hi
   have hs:(C.take (i+1)).map (fun c=>(c.1,()))=(C.take i).map (fun c=>(c.1,())) ++ [((elt ziii C i).1,())]:=by
    rw[q293 (q291 ziii hi),List.map_append];rfl
   simp only[q1hd,show decide ((i:Int)<(C.length:Int))=true by rw[decide_eq_true_eq];omega,cond_true,inN hi,obif,Int.toNat_natCast,q2c8 d hF (h.ia _ hm) (h.ib _ hm) (h.ne _ hm) hn (hl _ hm),obnd,q1hc,hs,wiS (show i<9223372036854775807 by omega),apB,show Nat.ble (((C.take i).map fun c=>(c.1,())).length + [((elt ziii C i).1,())].length) 100000=true from Nat.ble_eq_true_of_le (show ((C.take i).map fun c=>(c.1,())).length+1<=100000 by rw[List.length_map,List.length_take];omega)]
  ·simp only[q1hd,show decide ((C.length:Int)<(C.length:Int))=false by simp,cond_false,List.take_length]
 have e2:qva d ((F,()),())=some 0:=by rw[← hf];exact qvb _ _ rfl
 have e3:qt0 d ((n,dd,()),())=some 0:=by rw[← hn.ok];exact qt1 _ _ (by unfold qsz;simp only[hn.b1,hn.b2,Bool.and_self])
 rw[q1hs]
 simp only[q1hr,q2bn d hd hF h,e2,e3,obnd,show ((0:Int) != 0)=false from rfl,cond_false]
 refine q26b (fun i=>(F,(F.length:Int),(i:Int),nx,C,n,dd,q2c3 (F.take i) [])) _ F.length (fun i self hi=>?_) (fun self=>?_) (by omega) rfl
 ·simp only[q1ho,show decide ((i:Int)<(F.length:Int))=true by rw[decide_eq_true_eq];omega,cond_true,inN hi,obif,Int.toNat_natCast,q2c4 hi,wiS (show i<9223372036854775807 by omega)]
 ·simp only[q1ho,show decide ((F.length:Int)<(F.length:Int))=false by simp,cond_false,List.take_length,e1,obnd]
def q2ca:Nat->List Di
 | 0=>List.replicate 200 zi
 | i+1=>(q2ca i).set i (199-(i:Int),())
theorem q2cb:∀ i,(q2ca i).length=200
 | 0=>List.length_replicate
 | i+1=>by unfold q2ca;rw[List.length_set,q2cb i]
def q2cc:List Di:=(List.range 200).map fun (i:Nat)=>(199-(i:Int),())
theorem q2cd:q2ca 200=q2cc:=by decide +kernel
theorem q2ce (d:Nat) (hd:5000<=d):q10a d ((200,()),())=some (List.replicate 200 zi,List.replicate 200 zb,q2cc,0):=by
 rw[q10h]
 simp only[q10g,q10e,obif,show decide ((200:Int)<1)=false from rfl,show decide ((200:Int)>200)=false from rfl,cond_false,show mkB 200 200=true from rfl,cond_true]
 rw[← q2cd]
 refine q26b (fun i=>((200:Int),(200:Int),(i:Int),[],[],[],List.replicate 200 zi,List.replicate 200 zb,q2ca i)) _ 200 (fun i self hi=>?_) (fun self=>?_) (by omega) rfl
 ·simp only[q10c,show decide ((i:Int)<200)=true by rw[decide_eq_true_eq];omega,cond_true,inN (show i<(q2ca i).length by rw[q2cb];exact hi),obif,Int.toNat_natCast,wiS (show i<9223372036854775807 by omega),show wi ((200:Int)-1)=199 from rfl,q269 (n:=199-(i:Int)) (by omega)]
  rfl
 ·simp only[q10c,show decide (((200:Nat):Int)<200)=false from rfl,cond_false]
theorem q2cf (k:Nat):iter (q1e6 (k+9)) (k+9) (((Nat.min [((-1:Int),())].length (List.replicate (Int.toNat 200) zi).length:Nat):Int),List.take (List.replicate (Int.toNat 200) zi).length [((-1:Int),())] ++ List.drop [((-1:Int),())].length (List.replicate (Int.toNat 200) zi))=some (List.replicate 200 ((-1:Int),())):=by kernel_rfl
theorem q2cg (d:Nat) (hd:5000<=d):q1e4 d (([(-1,())],()),(200,()),())=some (List.replicate 200 (-1,())):=by
 obtain⟨k,rfl⟩:∃ k,d=k+9:=⟨d-9,by omega⟩
 have e:q1dx (k+9) ((1,()),(200,()),())=some (0,200):=by
  rw[q1dz]
  simp only[q1dy,qsj (k+9) ((1,()),(200,()),()) rfl,obnd]
  rfl
 have hb:Nat.blt 0 (List.replicate (200:Int).toNat zi).length=true:=by rw[List.length_replicate];rfl
 rw[q1ed]
 simp only[q1ec,show decide ((200:Int)<0)=false from rfl,cond_false,q1ea,show IntKind.wrap .u64 ((([((-1:Int),())]:List Di).length:Nat):Int)=1 from rfl,show IntKind.wrap .u64 (200:Int)=200 from rfl,e,obnd,obif,show decide ((0:Int)>0)=false from rfl,q1e9,show decide ((200:Int)>9223372036854775807)=false from rfl,q1e8,show IntKind.wrap .i64 (200:Int)=200 from rfl,show mkB 200 200=true from rfl,cond_true,hb]
 exact q2cf k
theorem q2ch (d:Nat) (hd:5000<=d):q1gv d ((200,()),())=some (List.replicate 200 zi,List.replicate 200 zb,q2cc,[],List.replicate 200 (-1,()),0):=by
 rw[q1gx]
 simp only[q1gw,q2ce d hd,obnd,show ((0:Int) != 0)=false from rfl,cond_false,q2cg d hd]
theorem q2ci {α:Type} (z x:α) {n s:Nat} (h:s<n):elt z (List.replicate n x) s=x:=by
 unfold elt;rw[List.getElem?_replicate,if_pos h];rfl
theorem q2cj:AgOk 0 (List.replicate 200 zi) (List.replicate 200 zb) q2cc [] (List.replicate 200 (-1,())):=by
 refine⟨⟨List.length_replicate,List.length_replicate,by decide +kernel,fun x hx=>?_,fun s hs=>?_,fun s hs=>?_⟩,by simp[q2cc],List.length_replicate,⟨fun e he=>(List.not_mem_nil he).elim,List.nodup_nil⟩,fun e he=>(List.not_mem_nil he).elim,fun j hj=>(Nat.not_lt_zero _ hj).elim,fun s hs _=>by rw[q2ci _ _ hs],fun s hs hb=>?_,List.nodup_nil,fun c _ hc=>(Nat.not_lt_zero _ hc).elim⟩
 ·obtain⟨i,hi,rfl⟩:=List.mem_map.1 hx
  have:=List.mem_range.1 hi
  exact⟨by show 0<=199-(i:Int);omega,by show 199-(i:Int)<200;omega⟩
 ·rw[q2ci _ _ hs]
  have:((s:Int),())∈q2cc:=List.mem_map.2 ⟨199-s,List.mem_range.2 (by omega),Prod.ext (show 199-((199-s:Nat):Int)=(s:Int) by omega) rfl⟩
  simp[this]
 ·rw[q2ci _ _ hs,q2ci _ _ hs]
  exact⟨Int.le_refl _,Int.le_refl _,fun e=>Bool.noConfusion e⟩
 ·rw[q2ci _ _ hs]at hb;cases hb
end Go.Proofs.YtfjjdnaggblaaaaGreat
namespace Go.Proofs.YtfjjdnaggblaaaaGreat
open Go Go.Tx Go.Pel
structure Ck where
 n:Int
 dd:Int
 F:List T3
 nx:Int
 C:List Diii
 U:List Di
 B:List Db
 R:List Di
 H:List qim
 W:List Di
 D:List Diii
abbrev Ck.x (s:Ck):qiv:=(s.n,s.dd,s.F,s.nx,s.C,s.U,s.B,s.R,s.H,s.W,s.D,())
def dueE (e:qim):Diii:=(e.2.2.1,e.2.2.2.1,e.2.2.2.2.1,())
def keyE (e:qim):Int×Int×Int:=(e.1,e.2.1,e.2.2.1)
def q2ck (F:List T3) (n dd:Int) (c:Diii):Option (Int×Int):=q2ay (ptI F c.2.2.1) (ptI F c.2.1) n dd
def evK (F:List T3) (n dd:Int) (c:Diii):Option (Int×Int×Int):=(q2ck F n dd c).map fun t=>(t.1,t.2,c.1)
structure CkOk (s:Ck) (E:List qim):Prop where
 tk:TOk s.n s.dd
 hf:qmq (ptsL s.F)=0
 ck:CertOk s.F s.nx s.C
 ag:AgOk s.nx s.U s.B s.R s.H s.W
 pm:E.Perm s.H
 due:s.D=E.map dueE
 key:E.map keyE=s.C.filterMap (evK s.F s.n s.dd)
variable {s:Ck} {E:List qim}
theorem CkOk.fo (h:CkOk s E):FldOk s.F:=q27r h.hf
theorem CkOk.when (h:CkOk s E) (d:Nat) (hd:5000<=d) {c:Diii} (hc:c∈s.C):q1j7 d ((s.F,()),(c.2.1,c.2.2.1,()),(s.n,s.dd,()),())=some ((optT (q2ck s.F s.n s.dd c)).1,(optT (q2ck s.F s.n s.dd c)).2.1,(optT (q2ck s.F s.n s.dd c)).2.2,0) :=
 q2bg d hd h.fo (h.ck.ia c hc) (h.ck.ib c hc) (h.ck.ne c hc) h.tk
theorem CkOk.rwhen (h:CkOk s E) (d:Nat) {c:Diii} (hc:c∈s.C):q1pd d ((s.F,()),(c.2.1,c.2.2.1,()),(s.n,s.dd,()),())=some (optT (q2ck s.F s.n s.dd c)) :=
 q2bi d h.fo (h.ck.ia c hc) (h.ck.ib c hc) (h.ck.ne c hc) h.tk
theorem CkOk.lE (h:CkOk s E):E.length<=s.C.length:=by
 have:=congrArg List.length h.key
 rw[List.length_map]at this
 rw[this];exact List.length_filterMap_le _ _
theorem CkOk.lH (h:CkOk s E):s.H.length=s.D.length:=by rw[h.due,List.length_map,h.pm.length_eq]
theorem q2cl {F:List T3} {n dd:Int} {c:Diii} {C2:List Diii} {E2:List qim} {t:Int×Int} (hk:E2.map keyE=(c::C2).filterMap (evK F n dd)) (ht:q2ck F n dd c=some t):∃ e E3,E2=e::E3/\keyE e=(t.1,t.2,c.1)/\E3.map keyE=C2.filterMap (evK F n dd):=by
 rw[List.filterMap_cons_some (b:=(t.1,t.2,c.1)) (by unfold evK;rw[ht];rfl)]at hk
 cases E2 with
 | nil=>cases hk
 | cons e E3 =>
  rw[List.map_cons]at hk
  injection hk with h1 h2
  exact⟨e,E3,rfl,h1,h2⟩
theorem q2cm {F:List T3} {n dd:Int} {c:Diii} {C2:List Diii} (ht:q2ck F n dd c=none):(c::C2).filterMap (evK F n dd)=C2.filterMap (evK F n dd) :=
 List.filterMap_cons_none (by unfold evK;rw[ht];rfl)
theorem q2cn {α:Type} {l r:List α} {x:α} {i:Nat} (h:l.drop i=x::r):l[i]?=some x/\l.drop (i+1)=r:=by
 have h1:l[i]?=some x:=by
  have:=congrArg (fun q=>q[0]?) h
  simpa [List.getElem?_drop] using this
 refine⟨h1,?_⟩
 have:=congrArg List.tail h
 simpa using this
theorem q2co (d:Nat) (hd:5000<=d) (h:CkOk s E):q1je d (s.x,())=some 0:=by
 have hl:=h.ck.len;have n1:=h.ck.n1;have lH:=h.lH
 have hW:=h.ag.lW
 have walk:∀ (C2:List Diii) (E2:List qim) (i f:Nat),s.C.drop i=C2->E2.map keyE=C2.filterMap (evK s.F s.n s.dd)->(∀ e∈E2,e∈s.H)->C2.length<f ->
   iter (q1jk d) f (E2.map dueE,s.C,(s.C.length:Int),(i:Int),s.n,s.dd,s.F,s.nx,s.C,s.U,s.B,s.R,s.H,s.W,s.D)=some 0:=by
  intro C2
  induction C2 with
  | nil =>
   intro E2 i f hi hk _ hf
   obtain⟨f,rfl⟩:∃ g,f=g+1:=⟨f-1,by simp at hf;omega⟩
   have hil:s.C.length<=i:=List.drop_eq_nil_iff.1 hi
   have:E2=[]:=by rw[List.filterMap_nil,List.map_eq_nil_iff]at hk;exact hk
   subst this
   rw[iter]
   simp only[q1jk,show decide ((i:Int)<(s.C.length:Int))=false by rw[decide_eq_false_iff_not];omega,cond_false,List.map_nil,List.length_nil,show decide (((0:Nat):Int)>0)=false from rfl]
  | cons c C2 ih =>
   intro E2 i f hi hk hm hf
   obtain⟨f,rfl⟩:∃ g,f=g+1:=⟨f-1,by simp at hf;omega⟩
   obtain⟨hci,hdr⟩:=q2cn hi
   have hil:=q294 hci
   have hcm:c∈s.C:=List.mem_of_getElem? hci
   have hw:=h.when d hd hcm
   rw[iter]
   simp only[q1jk,show decide ((i:Int)<(s.C.length:Int))=true by rw[decide_eq_true_eq];omega,cond_true,inN hil,obif,Int.toNat_natCast,eltI (z:=ziii) hci,hw,obnd,show ((0:Int) != 0)=false from rfl,cond_false,wiS (show i<9223372036854775807 by omega),q1jh,q1jj,q1ji]
   cases ht:q2ck s.F s.n s.dd c with
   | none =>
    simp only[optT,Bool.not_false,cond_true]
    exact ih E2 (i+1) f hdr (by rw[hk,q2cm ht]) hm (by simp at hf;omega)
   | some t =>
    obtain⟨e,E3,rfl,hke,hk3⟩:=q2cl hk ht
    have he:=hm e (List.mem_cons_self ..)
    obtain⟨w,hw1,hw2,hw3⟩:=h.ag.mem he
    have hev:=h.ag.ks.ev e he
    have i0:=hev.i0;have i1:=hev.i1
    unfold keyE at hke
    injection hke with k1 k2;injection k2 with k2 k3
    simp only[optT,Bool.not_true,cond_false,List.map_cons,List.length_cons,show (((E3.map dueE).length+1:Nat):Int)≠0 by omega,show ((((E3.map dueE).length+1:Nat):Int)==0)=false by rw[beq_eq_false_iff_ne];omega,show inB 0 ((E3.map dueE).length+1)=true from inN (k:=0) (by omega),cond_true,show elt ziii (dueE e::E3.map dueE) 0=dueE e from rfl,show (dueE e).1=c.1 from k3,bne_self_eq_false,show (dueE e).2.1=e.2.2.2.1 from rfl,show (dueE e).2.2.1=e.2.2.2.2.1 from rfl,show decide (e.2.2.2.1<0)=false by rw[decide_eq_false_iff_not];omega,show decide (e.2.2.2.1≥200)=false by rw[decide_eq_false_iff_not];omega,inI i0 (show e.2.2.2.1<(s.W.length:Int) by omega),hw2,show decide ((w:Int)<0)=false by rw[decide_eq_false_iff_not];omega,inN hw1,Int.toNat_natCast,hw3,k1,k2,k3,beq_self_eq_true,Bool.and_self,show decide ((0:Nat)<=1)=true from rfl,show decide ((1:Int)<=(((E3.map dueE).length+1:Nat):Int))=true by rw[decide_eq_true_eq];omega,List.drop_succ_cons,List.drop_zero]
    exact ih E3 (i+1) f hdr hk3 (fun e' k=>hm e' (List.mem_cons_of_mem _ k)) (by simp at hf;omega)
 have e1:qt0 d ((s.n,s.dd,()),())=some 0:=by rw[← h.tk.ok];exact qt1 _ _ (by unfold qsz;simp only[h.tk.b1,h.tk.b2,Bool.and_self])
 have e2:qva d ((s.F,()),())=some 0:=by rw[← h.hf];exact qvb _ _ rfl
 have e3:=q2bn d hd h.fo h.ck
 have e4:=q2ac d hd (show s.nx<=1000 by omega) h.ag
 rw[q1jt]
 simp only[q1js,Ck.x,e1,e2,e3,e4,obnd]
 refine q26b (fun i=>(((4:Nat):Int),(i:Int),s.n,s.dd,s.F,s.nx,s.C,s.U,s.B,s.R,s.H,s.W,s.D,[(0,()),(0,()),(0,()),(0,())])) _ 4 (fun i self hi=>?_) (fun self=>?_) (by omega) rfl
 ·have hz:elt zi [(0,()),(0,()),(0,()),(0,())] i=(0,()):=by
   match i,hi with
   | 0,_=>rfl
   | 1,_=>rfl
   | 2,_=>rfl
   | 3,_=>rfl
  simp only[q1jq,q1jn,show decide ((i:Int)<((4:Nat):Int))=true by rw[decide_eq_true_eq];omega,cond_true,inN (show i < [((0:Int),()),(0,()),(0,()),(0,())].length from hi),obif,Int.toNat_natCast,hz,show ((0:Int) != 0)=false from rfl,cond_false,wiS (show i<9223372036854775807 by omega)]
 ·simp only[q1jq,q1jn,show decide ((((4:Nat):Int))<((4:Nat):Int))=false from rfl,cond_false,obif,hW,show ((((200:Nat):Int)) != 200)=false from rfl,lH,bne_self_eq_false,q1jm]
  have:=walk s.C E 0 d rfl h.key (fun e he=>h.pm.mem_iff.1 he) (by omega)
  rw[← h.due]at this
  exact this
theorem q2cp (d:Nat) (hd:5000<=d) (h:CkOk s E) {e:qim} (he:e∈s.H):q1pk d ((s.U,s.B,s.R,s.H,s.W,()),(e.2.2.2.1,e.2.2.2.2.1,()),())=some (e.1,e.2.1,e.2.2.1,e.2.2.2.1,e.2.2.2.2.1,0):=by
 obtain⟨w,hw1,hw2,hw3⟩:=h.ag.mem he
 have hev:=h.ag.ks.ev e he
 have i0:=hev.i0;have i1:=hev.i1;have hW:=h.ag.lW;have n1:=h.ck.n1
 have hu:=h.ag.us e he
 rw[q1pm]
 simp only[q1pl,q2af d hd (show s.nx<=1000 by omega) h.ag,q29p d h.ag.sl i0 i1 hu.1 hu.2,obnd,show ((0:Int) != 0)=false from rfl,cond_false,Bool.not_true,obif,inI i0 (show e.2.2.2.1<(s.W.length:Int) by omega),cond_true,hw2,inN hw1,Int.toNat_natCast,hw3]
theorem q2cq (d:Nat) (hd:5000<=d) (h:CkOk s E):q1pr d (s.x,())=some 0:=by
 have hl:=h.ck.len;have n1:=h.ck.n1;have lH:=h.lH;have lE:=h.lE
 have hW:=h.ag.lW
 have walk:∀ (C2:List Diii) (E2:List qim) (i k f:Nat),s.C.drop i=C2->E.drop k=E2->E2.map keyE=C2.filterMap (evK s.F s.n s.dd)->k<=E.length->C2.length<f ->
   iter (q1pw d) f ((k:Int),(i:Int),s.n,s.dd,s.F,s.nx,s.C,s.U,s.B,s.R,s.H,s.W,s.D)=some 0:=by
  intro C2
  induction C2 with
  | nil =>
   intro E2 i k f hi hE hk hke hf
   obtain⟨f,rfl⟩:∃ g,f=g+1:=⟨f-1,by simp at hf;omega⟩
   have hil:s.C.length<=i:=List.drop_eq_nil_iff.1 hi
   have:E2=[]:=by rw[List.filterMap_nil,List.map_eq_nil_iff]at hk;exact hk
   subst this
   have hkl:E.length<=k:=List.drop_eq_nil_iff.1 hE
   have hD:s.D.length=E.length:=by rw[h.due,List.length_map]
   rw[iter]
   simp only[q1pw,show decide ((i:Int)<(s.C.length:Int))=false by rw[decide_eq_false_iff_not];omega,cond_false,show ((k:Int) != (s.D.length:Int))=false by rw[bne_eq_false_iff_eq];omega]
  | cons c C2 ih =>
   intro E2 i k f hi hE hk hke hf
   obtain⟨f,rfl⟩:∃ g,f=g+1:=⟨f-1,by simp at hf;omega⟩
   obtain⟨hci,hdr⟩:=q2cn hi
   have hil:=q294 hci
   have hcm:c∈s.C:=List.mem_of_getElem? hci
   have hw:=h.rwhen d hcm
   rw[iter]
   simp only[q1pw,show decide ((i:Int)<(s.C.length:Int))=true by rw[decide_eq_true_eq];omega,cond_true,inN hil,obif,Int.toNat_natCast,eltI (z:=ziii) hci,hw,obnd,wiS (show i<9223372036854775807 by omega),q1pt,q1pv,q1pu]
   cases ht:q2ck s.F s.n s.dd c with
   | none =>
    simp only[optT,Bool.not_false,cond_true]
    exact ih E2 (i+1) k f hdr hE (by rw[hk,q2cm ht]) hke (by simp at hf;omega)
   | some t =>
    obtain⟨e,E3,rfl,hke',hk3⟩:=q2cl hk ht
    obtain⟨hek,hEr⟩:=q2cn hE
    have hkl:=q294 hek
    have he:e∈s.H:=h.pm.mem_iff.1 (List.mem_of_getElem? hek)
    have hDk:s.D[k]?=some (dueE e):=by rw[h.due,List.getElem?_map,hek];rfl
    have hkD:=q294 hDk
    unfold keyE at hke'
    injection hke' with k1 k2;injection k2 with k2 k3
    have hfd:=q2cp d hd h he
    simp only[optT,Bool.not_true,cond_false,show decide ((k:Int)≥(s.D.length:Int))=false by rw[decide_eq_false_iff_not];omega,inN hkD,cond_true,Int.toNat_natCast,eltI (z:=ziii) hDk,show (dueE e).1=c.1 from k3,bne_self_eq_false,show (dueE e).2.1=e.2.2.2.1 from rfl,show (dueE e).2.2.1=e.2.2.2.2.1 from rfl,hfd,show ((0:Int) != 0)=false from rfl,k1,k2,k3,beq_self_eq_true,Bool.and_self,wiS (show k<9223372036854775807 by omega)]
    exact ih E3 (i+1) (k+1) f hdr hEr hk3 (by omega) (by simp at hf;omega)
 have e1:qt9 d ((s.n,s.dd,()),())=some 0:=by rw[← h.tk.ok];exact qta _ _ (by unfold qt8;simp only[h.tk.b1,h.tk.b2,Bool.and_self])
 have e2:qvj d ((s.F,()),())=some 0:=by rw[← h.hf];exact qvk _ _ rfl
 have e3:=q2bo d hd h.fo h.ck
 have e4:=q2bp d hd h.fo h.ck
 have e5:=q2af d hd (show s.nx<=1000 by omega) h.ag
 rw[q1q1]
 simp only[q1q0,Ck.x,e1,e2,e3,e4,e5,obnd,obif,show ((0:Int) != 0)=false from rfl,cond_false,Bool.not_true,hW,show ((((200:Nat):Int)) != 200)=false from rfl,lH,bne_self_eq_false,q1py]
 exact walk s.C E 0 0 d rfl rfl h.key (Nat.zero_le _) (by omega)
end Go.Proofs.YtfjjdnaggblaaaaGreat
namespace Go.Proofs.YtfjjdnaggblaaaaGreat
open Go Go.Tx Go.Pel
variable {s:Ck} {E:List qim}
theorem q2cr (d:Nat) (h:CkOk s E):q12w d (s.x,())=some (s.n,s.dd,s.F,s.nx,s.C,s.U,s.B,s.R,s.H,s.W,s.D):=by
 have h1:=h.fo.len;have h2:=h.ck.len;have h3:=h.lH;have h4:=h.ag.lH;have h5:=h.ag.lW;have h6:=h.ag.sl.lU;have h7:=h.ag.sl.lB;have h8:=h.ag.lR
 rw[q12y]
 simp only[q12x,Ck.x,q2bs d (show s.F.length<=1000 by omega),q2bq d (show s.C.length<=1000 by omega),q2br d (show s.D.length<=1000 by omega),q2ag d (show s.H.length<=1000 by omega),q29d d (show s.W.length<=1000 by omega),q29d d (show s.U.length<=1000 by omega),q29c d (show s.B.length<=1000 by omega),q29d d (show s.R.length<=1000 by omega),obnd]
theorem q2cs (d:Nat) (hd:5000<=d) {F:List T3} (hf:qmq (ptsL F)=0) {n dd:Int} (ht:TOk n dd) :
 ∃ s:Ck,q1hx d ((F,()),(n,dd,()),())=some (s.n,s.dd,s.F,s.nx,s.C,s.U,s.B,s.R,s.H,s.W,s.D,0)/\CkOk s []/\s.n=n/\s.dd=dd/\s.F=F/\s.nx=0/\s.C=[]:=by
 have hF:=q27r hf
 refine⟨⟨n,dd,F,0,[],List.replicate 200 zi,List.replicate 200 zb,q2cc,[],List.replicate 200 (-1,()),[]⟩,?_,⟨ht,hf,⟨by simp,Int.le_refl _,by show (0:Int)<=900;omega,List.Pairwise.nil,fun c hc=>(List.not_mem_nil hc).elim,fun c hc=>(List.not_mem_nil hc).elim,fun c hc=>(List.not_mem_nil hc).elim,fun c hc=>(List.not_mem_nil hc).elim,List.nodup_nil⟩,q2cj,List.Perm.refl _,rfl,rfl⟩,rfl,rfl,rfl,rfl,rfl⟩
 have e1:qt0 d ((n,dd,()),())=some 0:=by rw[← ht.ok];exact qt1 _ _ (by unfold qsz;simp only[ht.b1,ht.b2,Bool.and_self])
 have e2:qva d ((F,()),())=some 0:=by rw[← hf];exact qvb _ _ rfl
 rw[q1hz]
 simp only[q1hy,e1,e2,q2ch d hd,obnd,show ((0:Int) != 0)=false from rfl,cond_false,q2bs d (show F.length<=1000 by have:=hF.len;omega)]
theorem CkOk.cert (h:CkOk s E) {e:qim} (he:e∈E):∃ c∈s.C,c.1=e.2.2.1/\q2ck s.F s.n s.dd c=some (e.1,e.2.1):=by
 have:keyE e∈s.C.filterMap (evK s.F s.n s.dd):=by rw[← h.key];exact List.mem_map.2 ⟨e,he,rfl⟩
 obtain⟨c,hc,hk⟩:=List.mem_filterMap.1 this
 unfold evK at hk
 cases ht:q2ck s.F s.n s.dd c with
 | none=>rw[ht]at hk;cases hk
 | some t =>
  rw[ht]at hk
  have hk:(t.1,t.2,c.1)=keyE e:=by injection hk
  unfold keyE at hk
  injection hk with k1 k2;injection k2 with k2 k3
  exact⟨c,hc,k3,by rw[ht,← k1,← k2]⟩
theorem CkOk.one (h:CkOk s E) {c c':Diii} (hc:c∈s.C) (hc':c'∈s.C) (e:c.1=c'.1):c=c':=by
 obtain⟨i,hi,rfl⟩:=List.mem_iff_getElem.1 hc
 obtain⟨j,hj,rfl⟩:=List.mem_iff_getElem.1 hc'
 have hp:=List.pairwise_iff_getElem.1 h.ck.inc
 rcases Nat.lt_trichotomy i j with k | k | k
 ·have:=hp i j hi hj k;omega
 ·subst k;rfl
 ·have:=hp j i hj hi k;omega
theorem CkOk.dinc (h:CkOk s E):s.D.Pairwise fun a b=>a.1<b.1:=by
 rw[h.due,List.pairwise_map]
 have:(E.map keyE).Pairwise fun a b=>a.2.2<b.2.2:=by
  rw[h.key,List.pairwise_filterMap]
  refine h.ck.inc.imp fun {c c'} hcc b hb b' hb'=>?_
  unfold evK at hb hb'
  cases h1:q2ck s.F s.n s.dd c with
  | none=>rw[h1]at hb;cases hb
  | some t =>
   cases h2:q2ck s.F s.n s.dd c' with
   | none=>rw[h2]at hb';cases hb'
   | some t' =>
    rw[h1]at hb;rw[h2]at hb'
    injection hb with hb;injection hb' with hb'
    subst hb;subst hb';exact hcc
 rw[List.pairwise_map]at this
 exact this
theorem CkOk.num (h:CkOk s E) {e:qim} (he:e∈E):e.2.2.1<s.nx:=by
 obtain⟨c,hc,e1,_⟩:=h.cert he
 rw[← e1];exact (h.ck.rg c hc).2
theorem q2cu (d:Nat) (hd:5000<=d) (h:CkOk s E) (hl:s.C.length<=180) (h9:s.nx<=890) {a b:Int} (ha:hasI s.F a) (hb:hasI s.F b) (hab:a≠b) (hn:[a,b]∉s.C.map fun c=>[c.2.1,c.2.2.1]) :
 ∃ (s':Ck) (E':List qim),q1jy d (s.x,(a,b,()),())=some (s'.n,s'.dd,s'.F,s'.nx,s'.C,s'.U,s'.B,s'.R,s'.H,s'.W,s'.D,s.nx,0)/\CkOk s' E'/\s'.n=s.n/\s'.dd=s.dd/\s'.F=s.F/\s'.nx=s.nx+1/\s'.C=s.C ++ [(s.nx,a,b,())]:=by
 have n0:=h.ck.n0
 have hF:=h.fo
 have pa:=q2b8 hF ha;have pb:=q2b8 hF hb
 have ra:=q2bj hF ha;have rb:=q2bj hF hb
 have lE:=h.lE;have lH:=h.lH;have lh:=h.ag.lh
 have hD:s.D.length=E.length:=by rw[h.due,List.length_map]
 have e1:=q2co d hd h
 have e2:=q2by d hd hF h.ck ha hb hab hn
 have ck':=q2bz h.ck (by omega) (by omega) ha hb hab hn
 have e3:=q2bd d hd hF ha
 have e4:=q2bd d hd hF hb
 have e5:=q2cr d h
 have e6:=q2bg d hd hF ha hb hab h.tk
 have hk:∀ (v:Option (Int×Int)),q2ay (ptI s.F b) (ptI s.F a) s.n s.dd=v->(s.C ++ [(s.nx,a,b,())]).filterMap (evK s.F s.n s.dd)=s.C.filterMap (evK s.F s.n s.dd)++(v.map fun t=>(t.1,t.2,s.nx)).toList:=fun v hv=>by
  rw[List.filterMap_append]
  congr 1
  cases v with
  | none=>exact List.filterMap_cons_none (by unfold evK q2ck;rw[hv];rfl)
  | some t=>exact List.filterMap_cons_some (b:=(t.1,t.2,s.nx)) (by unfold evK q2ck;rw[hv];rfl)
 simp only[Ck.x]at e1 e5
 cases ht:q2ay (ptI s.F b) (ptI s.F a) s.n s.dd with
 | none =>
  refine⟨⟨s.n,s.dd,s.F,s.nx+1,s.C ++ [(s.nx,a,b,())],s.U,s.B,s.R,s.H,s.W,s.D⟩,E,?_,⟨h.tk,h.hf,ck',?_,h.pm,h.due,?_⟩,rfl,rfl,rfl,rfl,rfl⟩
  ·rw[q1k2]
   simp only[q1k1,Ck.x,e1,e2,e3,e4,e5,e6,obnd,obif,show ((0:Int) != 0)=false from rfl,show ((0:Int)==8)=false from rfl,cond_false,pa.2,pb.2,show decide (a<0)=false by rw[decide_eq_false_iff_not];omega,show decide (b<0)=false by rw[decide_eq_false_iff_not];omega,q1k0,ht,optT,q1jz]
  ·have:=h.ag
   exact⟨this.sl.mono (by show s.nx<=s.nx+1;omega),this.lh,this.lW,this.ks,this.us,this.pl,this.fr,this.tk,this.nn,this.ord⟩
  ·show E.map keyE=_
   rw[hk _ ht,h.key];simp
 | some t =>
  obtain⟨R0,x,hR⟩:∃ R0 x,s.R=R0 ++ [x]:=by
   rcases List.eq_nil_or_concat s.R with k | ⟨R0,x,k⟩
   ·rw[k]at lh;simp at lh;omega
   ·exact⟨R0,x,by rw[k,List.concat_eq_append]⟩
  rw[hR]at e1 e5
  have hwt:q2ay (ptI s.F b) (ptI s.F a) s.n s.dd=some t:=ht
  obtain⟨kt,_,_,_⟩:=q2b3 (hF.ok _ pb.1) (hF.ok _ pa.1) (by rw[pa.2,pb.2];exact fun e=>hab e.symm) h.tk hwt
  have hag:AgOk s.nx s.U s.B (R0 ++ [x]) s.H s.W:=by rw[← hR];exact h.ag
  obtain⟨H',W',U',B',u,e7,ag',pm'⟩:=q2am d hd (by omega) hag kt.b1 kt.b2 kt.ok n0 (show s.nx<=1000000 by omega) fun e he=>by have:=h.num (h.pm.mem_iff.2 he);omega
  refine⟨⟨s.n,s.dd,s.F,s.nx+1,s.C ++ [(s.nx,a,b,())],U',B',R0,H',W',s.D ++ [(s.nx,x.1,u,())]⟩,E ++ [(t.1,t.2,s.nx,x.1,u,())],?_,⟨h.tk,h.hf,ck',ag',?_,?_,?_⟩,rfl,rfl,rfl,rfl,rfl⟩
  ·rw[q1k2]
   simp only[q1k1,Ck.x,e1,e2,e3,e4,e5,e6,obnd,obif,show ((0:Int) != 0)=false from rfl,show ((0:Int)==8)=false from rfl,cond_false,pa.2,pb.2,show decide (a<0)=false by rw[decide_eq_false_iff_not];omega,show decide (b<0)=false by rw[decide_eq_false_iff_not];omega,q1k0,ht,optT,cond_true,hR,e7,apB,show Nat.ble (s.D.length + [(s.nx,x.1,u,())].length) 100000=true from Nat.ble_eq_true_of_le (show s.D.length+1<=100000 by omega),q1jz]
  ·exact (h.pm.append_right _).trans pm'.symm
  ·show s.D++_=_
   rw[h.due,List.map_append];rfl
  ·show (E++_).map keyE=_
   rw[hk _ ht,List.map_append,h.key];rfl
theorem q2cv (d:Nat) {k:Int} {r:Int×Bool} (e:iter (bsL (q1k7 d)) d (s.D,k,(s.D.length:Int),0,(s.D.length:Int))=some r):q1kp d ((s.D,()),(k,()),())=some r:=by
 have e1:q1ke d ((s.D,()),(k,()),(),())=some r:=by
  rw[q1kk];exact e
 rw[q1kr]
 simp only[q1kq,e1,obnd]
theorem q2cw (d:Nat) (hd:5000<=d) (h:CkOk s E) {C1 C2:List Diii} {c:Diii} (hC:s.C=C1++c::C2) :
 ∃ (s':Ck) (E':List qim),q1kw d (s.x,(c.1,()),())=some (s'.n,s'.dd,s'.F,s'.nx,s'.C,s'.U,s'.B,s'.R,s'.H,s'.W,s'.D,c.2.1,c.2.2.1,0)/\CkOk s' E'/\s'.n=s.n/\s'.dd=s.dd/\s'.F=s.F/\s'.nx=s.nx/\s'.C=C1++C2/\∀ e∈E',e∈E:=by
 have n1:=h.ck.n1
 have hci:s.C[C1.length]?=some c:=by rw[hC,List.getElem?_append_right (Nat.le_refl _),Nat.sub_self];rfl
 have hcm:c∈s.C:=List.mem_of_getElem? hci
 have hce:s.C.eraseIdx C1.length=C1++C2:=by rw[hC,List.eraseIdx_append_of_length_le (Nat.le_refl _),Nat.sub_self];rfl
 have e1:=q2c1 d hd h.fo h.ck hci
 have e2:=q2cr d h
 have ck':=q2c2 h.ck C1.length
 rw[hce]at e1 ck'
 have hF1:∀ (a b c k:Int),q1k7 d ((a,b,c,()),(k,()),())=some (cmpZ a k):=fun a b c k=>by
  rw[q1k9];simp only[q1k8,q26h,obnd]
 have lH:=h.lH;have lH2:=h.ag.lH
 simp only[Ck.x]at e2
 cases ht:q2ck s.F s.n s.dd c with
 | none =>
  have hno:∀ x∈s.D,x.1≠c.1:=fun x hx e=>by
   rw[h.due]at hx
   obtain⟨ev,hev,rfl⟩:=List.mem_map.1 hx
   obtain⟨c',hc',k1,k2⟩:=h.cert hev
   have:c'=c:=h.one hc' hcm (by rw[k1];exact e)
   subst this;rw[ht]at k2;cases k2
  obtain⟨j,e3⟩:=q2bc hF1 hd (show s.D.length<=1000 by omega) h.dinc hno
  have e4:=q2cv d e3
  refine⟨⟨s.n,s.dd,s.F,s.nx,C1++C2,s.U,s.B,s.R,s.H,s.W,s.D⟩,E,?_,⟨h.tk,h.hf,ck',h.ag,h.pm,h.due,?_⟩,rfl,rfl,rfl,rfl,rfl,fun _ k=>k⟩
  ·rw[q1kz]
   simp only[q1ky,Ck.x,e1,e2,e4,obnd,show ((0:Int) != 0)=false from rfl,cond_false,q1kx]
  ·rw[h.key,hC,List.filterMap_append,List.filterMap_append,q2cm ht]
 | some t =>
  have hk:=h.key
  rw[hC,List.filterMap_append]at hk
  obtain⟨E1,E2,rfl,k1,k2⟩:=List.map_eq_append_iff.1 hk
  obtain⟨ev,E3,rfl,k3,k4⟩:=q2cl k2 ht
  unfold keyE at k3
  injection k3 with k5 k6;injection k6 with k6 k7
  have hDj:s.D[E1.length]?=some (dueE ev):=by
   rw[h.due,List.getElem?_map,List.getElem?_append_right (Nat.le_refl _),Nat.sub_self];rfl
  have hDl:=q294 hDj
  have e3:=q2bb hF1 hd (show s.D.length<=1000 by omega) h.dinc hDj
  rw[show (dueE ev).1=c.1 from k7]at e3
  have e4:=q2cv d e3
  have hem:ev∈s.H:=h.pm.mem_iff.1 (by simp)
  obtain⟨H',W',B',R',e5,ag',pm'⟩:=q2as d hd (show s.nx<=1000 by omega) h.ag hem
  have e6:=q2bv d hDl
  have hde:s.D.eraseIdx E1.length=(E1++E3).map dueE:=by
   rw[h.due,List.map_append,List.map_append,List.eraseIdx_append_of_length_le (by simp)]
   simp
  rw[hde]at e6
  refine⟨⟨s.n,s.dd,s.F,s.nx,C1++C2,s.U,B',R',H',W',(E1++E3).map dueE⟩,E1++E3,?_,⟨h.tk,h.hf,ck',ag',?_,rfl,?_⟩,rfl,rfl,rfl,rfl,rfl,fun e k=>by
   rw[List.mem_append]at k ⊢
   exact k.imp id (List.mem_cons_of_mem _)⟩
  ·rw[q1kz]
   simp only[q1ky,Ck.x,e1,e2,e4,obnd,show ((0:Int) != 0)=false from rfl,cond_false,cond_true,obif,inN hDl,Int.toNat_natCast,eltI (z:=ziii) hDj,show (dueE ev).2.1=ev.2.2.2.1 from rfl,show (dueE ev).2.2.1=ev.2.2.2.2.1 from rfl,e5,wiS (show E1.length<9223372036854775807 by omega),e6,q1kx]
  ·exact List.Perm.cons_inv ((List.perm_middle.symm.trans h.pm).trans pm'.symm)
  ·show (E1++E3).map keyE=(C1++C2).filterMap (evK s.F s.n s.dd)
   rw[List.map_append,List.filterMap_append,k1,k4]
theorem q2cx (d:Nat) (hd:5000<=d) (h:CkOk s E) {C1 C2:List Diii} {c:Diii} (hC:s.C=C1++c::C2) :
 ∃ (s':Ck) (E':List qim),q1l4 d (s.x,(c.1,()),())=some (s'.n,s'.dd,s'.F,s'.nx,s'.C,s'.U,s'.B,s'.R,s'.H,s'.W,s'.D,0)/\CkOk s' E'/\s'.n=s.n/\s'.dd=s.dd/\s'.F=s.F/\s'.nx=s.nx/\s'.C=C1++C2:=by
 obtain⟨s',E',e1,h',g1,g2,g3,g4,g5,_⟩:=q2cw d hd h hC
 have e0:=q2co d hd h
 refine⟨s',E',?_,h',g1,g2,g3,g4,g5⟩
 simp only[Ck.x]at e0 e1
 rw[q1l6]
 simp only[q1l5,Ck.x,e0,e1,obnd,show ((0:Int) != 0)=false from rfl,cond_false]
theorem q2cy {α β:Type} {f g:α->Option β}:∀ {l:List α},(∀ x∈l,f x=g x)->l.filterMap f=l.filterMap g
 | [],_=>rfl
 | a::l,h=>by rw[List.filterMap_cons,List.filterMap_cons,h a (List.mem_cons_self ..),q2cy fun x hx=>h x (List.mem_cons_of_mem _ hx)]
theorem CkOk.adv (h:CkOk s E) {m e:Int} (hm:TOk m e) (hle:leQ s.n s.dd m e) (ht:∀ ev∈E,leQ m e ev.1 ev.2.1):CkOk ⟨m,e,s.F,s.nx,s.C,s.U,s.B,s.R,s.H,s.W,s.D⟩ E:=by
 refine⟨hm,h.hf,h.ck,h.ag,h.pm,h.due,?_⟩
 show E.map keyE=s.C.filterMap (evK s.F m e)
 rw[h.key]
 refine q2cy fun c hc=>?_
 have pa:=q2b8 h.fo (h.ck.ia c hc);have pb:=q2b8 h.fo (h.ck.ib c hc)
 have hne:(ptI s.F c.2.2.1).1≠(ptI s.F c.2.1).1:=by rw[pa.2,pb.2];exact fun k=>h.ck.ne c hc k.symm
 unfold evK
 congr 1
 cases hw:q2ck s.F s.n s.dd c with
 | none=>exact (q2b6 (h.fo.ok _ pb.1) (h.fo.ok _ pa.1) hne h.tk hw hm hle).symm
 | some t =>
  refine (q2b5 (h.fo.ok _ pb.1) (h.fo.ok _ pa.1) hne h.tk hw hm hle ?_).symm
  have:(t.1,t.2,c.1)∈E.map keyE:=by
   rw[h.key];exact List.mem_filterMap.2 ⟨c,hc,by unfold evK;rw[hw];rfl⟩
  obtain⟨ev,hev,k⟩:=List.mem_map.1 this
  unfold keyE at k
  injection k with k1 k2;injection k2 with k2 k3
  rw[← k1,← k2];exact ht ev hev
theorem q2cz {x y:qim} (h:eLe x y):leQ x.1 x.2.1 y.1 y.2.1:=by
 have:=q26t _ _ h
 unfold leQ
 have h1:¬ (evM y).1*(evM x).2.1<(evM x).1*(evM y).2.1:=fun k=>this (Or.inl k)
 exact Int.not_lt.1 h1
theorem q2d0 (d:Nat) (hd:5000<=d) (h:CkOk s E) {m e:Int} (hm:TOk m e) (hle:leQ s.n s.dd m e):q1li d (s.x,(m,e,()),())=some (match s.H with | []=>false | ev::_=>decide (cmpQ ev.1 ev.2.1 m e<=0),0):=by
 have n1:=h.ck.n1
 have e0:=q2co d hd h
 have e1:qt0 d ((m,e,()),())=some 0:=by rw[← hm.ok];exact qt1 _ _ (by unfold qsz;simp only[hm.b1,hm.b2,Bool.and_self])
 have e2:=q26n d hm.b1 hm.b2 h.tk.b1 h.tk.b2 hm.ok h.tk.ok
 have e3:decide (cmpQ m e s.n s.dd<0)=false:=by
  rw[decide_eq_false_iff_not]
  unfold leQ at hle
  unfold cmpQ cmpZ
  repeat' split
  all_goals omega
 simp only[Ck.x]at e0
 rw[q1lk]
 simp only[q1lj,Ck.x,e0,e1,e2,obnd,show tmax 0 0=0 from rfl,show ((0:Int) != 0)=false from rfl,cond_false,e3]
 have ag:=h.ag
 revert ag
 generalize s.H=H
 intro ag
 cases H with
 | nil =>
  simp only[q2at d hd (show s.nx<=1000 by omega) ag,obnd,show ((42:Int) != 0)=true from rfl,cond_true]
 | cons ev H =>
  have hev:=ag.ks.ev ev (List.mem_cons_self ..)
  simp only[q2au d hd (show s.nx<=1000 by omega) ag,obnd,show ((0:Int) != 0)=false from rfl,cond_false,q26n d hev.b1 hev.b2 hm.b1 hm.b2 hev.ok hm.ok]
theorem q2d1 (d:Nat) (hd:5000<=d) (h:CkOk s E) {m e:Int} (hm:TOk m e) (hle:leQ s.n s.dd m e) {ev:qim} {H1:List qim} (hH:s.H=ev::H1) (hdue:leQ ev.1 ev.2.1 m e) :
 ∃ (c:Diii) (C1 C2:List Diii) (s':Ck) (E':List qim),s.C=C1++c::C2/\q2ck s.F s.n s.dd c=some (ev.1,ev.2.1) /\
 q1lp d (s.x,(m,e,()),())=some (s'.n,s'.dd,s'.F,s'.nx,s'.C,s'.U,s'.B,s'.R,s'.H,s'.W,s'.D,ev.1,ev.2.1,ev.2.2.1,ev.2.2.2.1,ev.2.2.2.2.1,c.2.1,c.2.2.1,0)/\CkOk s' E'/\s'.n=ev.1/\s'.dd=ev.2.1/\s'.F=s.F/\s'.nx=s.nx/\s'.C=C1++C2:=by
 have hem:ev∈E:=h.pm.mem_iff.2 (by rw[hH];exact List.mem_cons_self ..)
 obtain⟨c,hc,k1,k2⟩:=h.cert hem
 obtain⟨C1,C2,hC⟩:=List.append_of_mem hc
 obtain⟨s1,E1,e1,h1,g1,g2,g3,g4,g5,g6⟩:=q2cw d hd h hC
 have ag:=h.ag
 rw[hH]at ag
 have hev:=ag.ks.ev ev (List.mem_cons_self ..)
 have pa:=q2b8 h.fo (h.ck.ia c hc);have pb:=q2b8 h.fo (h.ck.ib c hc)
 have hne:(ptI s.F c.2.2.1).1≠(ptI s.F c.2.1).1:=by rw[pa.2,pb.2];exact fun k=>h.ck.ne c hc k.symm
 obtain⟨_,hle2,_,_⟩:=q2b3 (h.fo.ok _ pb.1) (h.fo.ok _ pa.1) hne h.tk k2
 have h2:=h1.adv (m:=ev.1) (e:=ev.2.1) ⟨hev.b1,hev.b2,hev.ok⟩ (by rw[g1,g2];exact hle2) fun ev' he'=>q2cz (ag.top ev' (by rw[← hH];exact h.pm.mem_iff.1 (g6 ev' he')))
 refine⟨c,C1,C2,_,E1,hC,k2,?_,h2,rfl,rfl,g3,g4,g5⟩
 have e2:=q2d0 d hd h hm hle
 have hq:decide (cmpQ ev.1 ev.2.1 m e<=0)=true:=by
  rw[decide_eq_true_eq];have:=(q27w ..).1 hdue;omega
 rw[hH]at e2
 simp only[hq]at e2
 simp only[Ck.x]at e1 e2
 rw[k1,hH]at e1
 rw[hH]at e2
 rw[q1lt]
 simp only[q1ls,Ck.x,hH,e2,obnd,obif,beq_self_eq_true,cond_true,Bool.not_true,q1lr,cond_false,q1lq,show ((0:Int) != 0)=false from rfl,show inB 0 (ev::H1).length=true from inN (k:=0) (by simp),show elt qin (ev::H1) 0=ev from rfl,e1]
theorem q2d2 (d:Nat) (hd:5000<=d) (h:CkOk s E) {m e:Int} (hm:TOk m e) (hle:leQ s.n s.dd m e) (hdue:∀ ev∈s.H,¬ leQ ev.1 ev.2.1 m e) :
 q1lp d (s.x,(m,e,()),())=some (0,0,[],0,[],[],[],[],[],[],[],0,0,0,0,0,0,0,6) /\
 q1ly d (s.x,(m,e,()),())=some (m,e,s.F,s.nx,s.C,s.U,s.B,s.R,s.H,s.W,s.D,0)/\CkOk ⟨m,e,s.F,s.nx,s.C,s.U,s.B,s.R,s.H,s.W,s.D⟩ E /\
 ∀ c∈s.C,leads (ofP (ptI s.F c.2.2.1)) (ofP (ptI s.F c.2.1)) m e=true:=by
 have e1:=q2d0 d hd h hm hle
 have hq:(match s.H with | []=>false | ev::_=>decide (cmpQ ev.1 ev.2.1 m e<=0))=false:=by
  revert hdue
  cases s.H with
  | nil=>intro _;rfl
  | cons ev H1 =>
   intro hdue
   have:=hdue ev (List.mem_cons_self ..)
   rw[q27w]at this
   show decide (cmpQ ev.1 ev.2.1 m e<=0)=false
   rw[decide_eq_false_iff_not];omega
 have e2:=q2cr d h
 rw[hq]at e1
 simp only[Ck.x]at e1 e2
 refine⟨?_,?_,h.adv hm hle fun ev hev=>?_,fun c hc=>?_⟩
 ·rw[q1lt]
  simp only[q1ls,Ck.x,e1,obnd,obif,beq_self_eq_true,cond_true,Bool.not_false,q1lr,q1lq,show ((6:Int) != 0)=true from rfl]
 ·rw[q1m2]
  simp only[q1m1,Ck.x,e1,e2,obnd,obif,beq_self_eq_true,cond_true,q1m0,cond_false,q1lz,show ((0:Int) != 0)=false from rfl]
 ·have:=hdue ev (h.pm.mem_iff.1 hev)
  unfold leQ at this ⊢;omega
 ·have pa:=q2b8 h.fo (h.ck.ia c hc);have pb:=q2b8 h.fo (h.ck.ib c hc)
  have hne:(ptI s.F c.2.2.1).1≠(ptI s.F c.2.1).1:=by rw[pa.2,pb.2];exact fun k=>h.ck.ne c hc k.symm
  cases hw:q2ck s.F s.n s.dd c with
  | none=>exact q2b4 (h.fo.ok _ pb.1) (h.fo.ok _ pa.1) hne h.tk.pos hw hm.pos hle
  | some t =>
   obtain⟨_,_,_,k4⟩:=q2b3 (h.fo.ok _ pb.1) (h.fo.ok _ pa.1) hne h.tk hw
   refine k4 m e hm.pos hle ?_
   have:(t.1,t.2,c.1)∈E.map keyE:=by
    rw[h.key];exact List.mem_filterMap.2 ⟨c,hc,by unfold evK;rw[hw];rfl⟩
   obtain⟨ev,hev,k⟩:=List.mem_map.1 this
   unfold keyE at k
   injection k with k1 k2;injection k2 with k2 k3
   have:=hdue ev (h.pm.mem_iff.1 hev)
   unfold leQ at this
   rw[← k1,← k2];omega
end Go.Proofs.YtfjjdnaggblaaaaGreat
namespace Go.Proofs.YtfjjdnaggblaaaaGreat
open Go Go.Tx Go.Pel
def adjP:List T3->List (Int×Int)
 | a::b::r=>(b.1,a.1)::adjP (b::r)
 | _=>[]
def lnk (P1:List T3) (a:T3):List (Int×Int):=match P1.getLast? with | none=>[] | some z=>[(a.1,z.1)]
def hdl (b:T3):List T3->List (Int×Int)
 | []=>[]
 | z::_=>[(z.1,b.1)]
theorem q2d3 (b:T3) (P2:List T3):adjP (b::P2)=hdl b P2++adjP P2:=by
 cases P2 with
 | nil=>rfl
 | cons z P3=>rfl
theorem q2d4 (x y:T3) (P1:List T3) (a:T3):lnk (x::y::P1) a=lnk (y::P1) a:=by unfold lnk;rw[List.getLast?_cons_cons]
theorem q2d5:∀ (P1:List T3) (a:T3) (r:List T3),adjP (P1++a::r)=adjP P1++(lnk P1 a++adjP (a::r))
 | [],a,r=>rfl
 | [z],a,r=>rfl
 | x::y::P1, a, r => by
  have:=q2d5 (y::P1) a r
  rw[q2d4]
  show (y.1,x.1)::adjP ((y::P1)++a::r)=(y.1,x.1)::adjP (y::P1)++_
  rw[this];rfl
theorem q2d6 (P1:List T3) (a b:T3) (P2:List T3):adjP (P1++a::b::P2)=adjP P1++(lnk P1 a++((b.1,a.1)::(hdl b P2++adjP P2))):=by
 rw[q2d5]
 show adjP P1++(lnk P1 a++((b.1,a.1)::adjP (b::P2)))=_
 rw[q2d3]
theorem q2d7:∀ {P:List T3} {x:Int×Int},x∈adjP P->(∃ p∈P,p.1=x.1)/\∃ q∈P,q.1=x.2
 | [],x,h=>(List.not_mem_nil h).elim
 | [_],x,h=>(List.not_mem_nil h).elim
 | a::b::r, x, h => by
  rcases List.mem_cons.1 h with k | k
  ·subst k;exact⟨⟨b,by simp,rfl⟩,⟨a,by simp,rfl⟩⟩
  ·obtain⟨⟨p,h1,h2⟩,⟨q,h3,h4⟩⟩:=q2d7 k
   exact⟨⟨p,List.mem_cons_of_mem _ h1,h2⟩,⟨q,List.mem_cons_of_mem _ h3,h4⟩⟩
theorem q2d8:∀ {P:List T3},(P.map fun p=>p.1).Nodup->(adjP P).Nodup
 | [],_=>List.nodup_nil
 | [_],_=>List.nodup_nil
 | a::b::r, h => by
  rw[List.map_cons,List.nodup_cons]at h
  refine List.nodup_cons.2 ⟨fun k=>?_,q2d8 h.2⟩
  obtain⟨_,⟨q,h3,h4⟩⟩:=q2d7 k
  exact h.1 (List.mem_map.2 ⟨q,h3,h4⟩)
theorem q2d9:∀ {P:List T3},(P.map fun p=>p.1).Nodup->∀ {x:Int×Int},x∈adjP P->x.1≠x.2
 | [],_,x,h=>(List.not_mem_nil h).elim
 | [_],_,x,h=>(List.not_mem_nil h).elim
 | a::b::r, hn, x, h => by
  rw[List.map_cons,List.nodup_cons]at hn
  rcases List.mem_cons.1 h with k | k
  ·subst k;exact fun e=>hn.1 (by rw[List.map_cons,show a.1=b.1 from e.symm];exact List.mem_cons_self ..)
  ·exact q2d9 hn.2 k
theorem q2da:∀ (P:List T3),(adjP P).length=P.length-1
 | []=>rfl
 | [_]=>rfl
 | a::b::r => by
  show (adjP (b::r)).length+1=_
  rw[q2da (b::r)];simp
theorem q2db {P:List T3} {i:Nat} {p q:T3} (hp:P[i]?=some p) (hq:P[i+1]?=some q):adjP (P.take (i+2))=adjP (P.take (i+1)) ++ [(q.1,p.1)]:=by
 rw[q293 hq,q2d5]
 have:lnk (P.take (i+1)) q=[(q.1,p.1)]:=by
  unfold lnk;rw[q293 hp,List.getLast?_concat]
 rw[this];rfl
theorem q2dc {S:T3×T3->Bool} {a b:T3} {P2:List T3}:∀ P1:List T3,(q1zl (P1++a::b::P2)).countP S+(if S (b,a) then 1 else 0)=(q1zl (P1++b::a::P2)).countP S+(if S (a,b) then 1 else 0)
 | [] => by
  show (((b::P2).map fun q=>(a,q))++((P2.map fun q=>(b,q))++q1zl P2)).countP S+_=(((a::P2).map fun q=>(b,q))++((P2.map fun q=>(a,q))++q1zl P2)).countP S+_
  simp only[List.countP_append,List.map_cons,List.countP_cons]
  omega
 | p::P1 => by
  have ih:=q2dc (S:=S) (a:=a) (b:=b) (P2:=P2) P1
  show (((P1++a::b::P2).map fun q=>(p,q))++q1zl (P1++a::b::P2)).countP S+_=(((P1++b::a::P2).map fun q=>(p,q))++q1zl (P1++b::a::P2)).countP S+_
  have hp:(P1++a::b::P2).Perm (P1++b::a::P2):=(List.Perm.swap ..).append_left P1
  rw[List.countP_append,List.countP_append,(hp.map fun q=>(p,q)).countP_eq]
  omega
theorem q2dd {p q r:Pt} {n d:Int} (h:leads p q n d=true) (k:leads q r n d=true):leads p r n d=true:=by
 rw[qyq]at h k ⊢
 omega
theorem q2de {F:List T3} (hF:FldOk F) {m e:Int}:∀ {P:List T3},(∀ p∈P,p∈F)->(∀ x∈adjP P,leads (ofP (ptI F x.2)) (ofP (ptI F x.1)) m e=true)->P.Pairwise fun a b=>leads (ofP a) (ofP b) m e=true
 | [],_,_=>List.Pairwise.nil
 | [_],_,_=>List.pairwise_singleton _ _
 | a::b::r, hP, h => by
  have ih:=q2de hF (P:=b::r) (fun p hp=>hP p (List.mem_cons_of_mem _ hp)) fun x hx=>h x (List.mem_cons_of_mem _ hx)
  have h1:=h (b.1,a.1) (List.mem_cons_self ..)
  simp only[q2b7 hF (hP a (List.mem_cons_self ..)),q2b7 hF (hP b (List.mem_cons_of_mem _ (List.mem_cons_self ..)))]at h1
  refine List.pairwise_cons.2 ⟨fun x hx=>?_,ih⟩
  rcases List.mem_cons.1 hx with k | k
  ·subst k;exact h1
  ·exact q2dd h1 ((List.pairwise_cons.1 ih).1 x k)
theorem q2df {F:List T3} (hF:FldOk F) {P:List T3} {m e:Int} (hp:P.Perm F) (hw:P.Pairwise fun a b=>leads (ofP a) (ofP b) m e=true):P=ordT F m e:=by
 refine List.Perm.eq_of_pairwise (le:=fun a b=>leads (ofP a) (ofP b) m e=true) (fun a b ha hb h k=>?_) hw ((q28r hF m e).imp fun {a b} h=>h.2) (hp.trans (q28p F m e).symm)
 by_cases hab:a.1=b.1
 ·exact q28m hF (hp.mem_iff.1 ha) ((q28p F m e).mem_iff.1 hb) hab
 ·rw[q28l (p:=ofP a) (q:=ofP b) hab,h]at k;cases k
theorem q2dg {P:List T3} {m e:Int} (hi:P.Pairwise fun a b=>a.1≠b.1) (hw:P.Pairwise fun a b=>leads (ofP a) (ofP b) m e=true):(q1zl P).countP (fun x=>leads (ofP x.2) (ofP x.1) m e)=0:=by
 rw[List.countP_eq_zero]
 intro x hx
 obtain⟨_,_,h1,h2⟩:=q272 hx (hi.and hw)
 rw[q28l (p:=ofP x.1) (q:=ofP x.2) h1,h2];simp
theorem q2dh {F P:List T3} (hF:FldOk F) (hp:P.Perm F):(P.map fun p=>p.1).Nodup:=by
 rw[(hp.map fun p=>p.1).nodup_iff]
 unfold List.Nodup
 rw[List.pairwise_map]
 exact hF.inc.imp fun {a b} h=>by omega
end Go.Proofs.YtfjjdnaggblaaaaGreat
namespace Go.Proofs.YtfjjdnaggblaaaaGreat
open Go Go.Tx Go.Proofs.Tryz
set_option maxRecDepth 100000
set_option maxHeartbeats 0
noncomputable section
abbrev q2di:Type:=Dii×Unit
abbrev q2dj:Type:=Int
noncomputable def q2dk (d:Nat):Ent:=⟨tysT,(orc [qt7 (qt9 d)]),f5,mkPl [] [([0],[1]),([1],[1,5]),([2,4,5],[2]),([3],[20])] [] [],d,5,[.row Rii true],.undef,[.i .i64]⟩
theorem q2dl (d:Nat):COK prog (q2dk d).s:=Ent.k mixed tys (qeo (ac1 (qtb d) ac0)) ⟨by kernel_rfl,by kernel_rfl,by kernel_rfl⟩
noncomputable def q2dm (d:Nat) (x:q2di):Option q2dj:=(q2dk d).F x
def q2dn (d:Nat):q2di->Option q2dj:=fun ((xAa,xAb,_),_) =>
 (obnd (qt9 d ((xAa,xAb,()),())) fun r1=>(bif (r1 != 0) then (obnd (qt9 d ((xAa,xAb,()),())) fun r2=>some r2) else (obif (decide (xAa>1073741824)) (some 2) (obif (decide (xAa<(-1073741824:Int))) (some 2) (bif (decide (xAb>1024)) then some 2 else some 0)))))
theorem q2do (d:Nat) (x:q2di):q2dm d x=q2dn d x:=by kernel_rfl
abbrev q2dp:Type:=qi1×Unit
abbrev q2dq:Type:=Int
noncomputable def q2dr (d:Nat):Ent:=⟨tysT,(orc [(q2dk d).s,qvh (qvj d)]),f4,mkPl [(1,(.box [.any,.any,.val Riii]))] [([0],[1]),([1],[12]),([2,3],[2])] [] [],d,4,[.row qi0 true],.undef,[.i .i64]⟩
theorem q2ds (d:Nat):COK prog (q2dr d).s:=Ent.k mixed tys (qeo (ac1 (q2dl d) (ac1 (qvl d) ac0))) ⟨by kernel_rfl,by kernel_rfl,by kernel_rfl⟩
noncomputable def q2dt (d:Nat) (x:q2dp):Option q2dq:=(q2dr d).F x
def q2du (d:Nat):q2dp->Option q2dq:=fun ((xAa,xAb,xAc,_),_) =>
 (obnd (q2dm d ((xAa,xAb,()),())) fun r1=>(obif (r1 != 0) (some 8) (obnd (qvj d ((xAc,()),())) fun r2=>(bif (r2 != 0) then some 8 else some 0))))
theorem q2dv (d:Nat) (x:q2dp):q2dt d x=q2du d x:=by kernel_rfl
abbrev q2dw:Type:=qi1×qi1×Unit
abbrev q2dx:Type:=Bool
noncomputable def q2dy (d:Nat):Ent:=⟨tysT,(orc [qvz (qw1 d)]),f9,mkPl [(2,(.box [.any,.any,.val Riii])),(3,(.box [.any,.any,.val Riii]))] [([0],[2,3]),([1],[4])] [] [],d,9,[.row qi0 true,.row qi0 true],.undef,[.bo]⟩
theorem q2dz (d:Nat):COK prog (q2dy d).s:=Ent.k mixed tys (qeo (ac1 (qw3 d) ac0)) ⟨by kernel_rfl,by kernel_rfl,by kernel_rfl⟩
noncomputable def q2e0 (d:Nat) (x:q2dw):Option q2dx:=(q2dy d).F x
def q2e1 (d:Nat):q2dw->Option q2dx:=fun ((xAa,xAb,xAc,_),(xBa,xBb,xBc,_),_) =>
 (obif ((xAa==xBa)&&((xAb==xBb)&&true)) (obnd (qw1 d ((xAc,()),(xBc,()),())) fun r1=>(some r1)) (some false))
theorem q2e2 (d:Nat) (x:q2dw):q2e0 d x=q2e1 d x:=by kernel_rfl
abbrev q2e3:Type:=qhy×Dii×Unit
abbrev q2e4:Type:=Int
noncomputable def q2e5 (d:Nat):Ent:=⟨tysT,(orc [qv8 (qva d),qsy (qt0 d)]),f118,mkPl [(2,(.box [.val Riii]))] [([0],[2,3]),([1],[3,5]),([2],[3,9]),([4],[4])] [] [],d,118,[.row qhx true,.row Rii true],.undef,[.i .i64]⟩
theorem q2e6 (d:Nat):COK prog (q2e5 d).s:=Ent.k mixed tys (qeo (ac1 (qvc d) (ac1 (qt2 d) ac0))) ⟨by kernel_rfl,by kernel_rfl,by kernel_rfl⟩
noncomputable def q2e7 (d:Nat) (x:q2e3):Option q2e4:=(q2e5 d).F x
def q2e8 (d:Nat):q2e3->Option q2e4:=fun ((xAa,_),(xBa,xBb,_),_) =>
 (obnd (qva d ((xAa,()),())) fun r1=>(bif (r1 != 0) then none else (obnd (qt0 d ((xBa,xBb,()),())) fun r2=>some r2)))
theorem q2e9 (d:Nat) (x:q2e3):q2e7 d x=q2e8 d x:=by kernel_rfl
abbrev q2ea:Type:=qhy×Dii×Unit
abbrev q2eb:Type:=Int×List Diii×Int
noncomputable def q2ec (d:Nat):Ent:=⟨(litT 44 tysT),(orc [quz (qv1 d),(q2e5 d).s]),f52,mkPl [(2,(.box [.val Riii])),(4,(.box [.any,.own Riii])),(7,(.box [.any,.own Riii])),(8,(.own Ri)),(24,(.val Riii))] [([0],[2,3,4]),([1],[2,3,4,6]),([2],[2,3,4,19]),([4],[2,3,4,7]),([5],[2,3,4,7,8]),([6,18,19],[2,3,4,7,8,24,25,26]),([7],[2,3,4,7,8,24,25,26,27]),([8],[2,3,4,7,8,9,10,24,25,26]),([9,14],[2,3,4,7,8,9,10,11,24,25,26]),([10],[2,3,4,7,8,9,10,11,24,25,26,36]),([11],[2,3,4,7,8,9,10,11,12,24,25,26]),([12],[2,3,4,7,8,9,10,11,12,13,24,25,26]),([13],[2,3,4,7,8,9,10,11,12,24,25,26,54]),([15],[2,3,4,7,8,9,11,24,25,26,64]),([16,17],[2,3,4,7,8,9,11,24,25,26]),([20],[4,5])] [] [(10,[2,3,4,7,8,9,10,11,24,25,26]),(7,[2,3,4,7,8,24,25,26])],d,52,[.row qhx true,.row Rii true],(.tup [(.agg [.undef,.undef]),.undef]),[.i .i64,.o Riii,.i .i64]⟩
theorem q2ed (d:Nat):COK prog (q2ec d).s:=Ent.k mixed (q21 tys 44) (qeo (ac1 (qv3 d) (ac1 (q2e6 d) ac0))) ⟨by kernel_rfl,by kernel_rfl,by kernel_rfl⟩
noncomputable def q2ee (d:Nat) (x:q2ea):Option q2eb:=(q2ec d).F x
abbrev q2ef:Type:=Int×List Diii×Int×Int×List Diii×Int×Int×Int×List Diii×Int×List Diii×List Di×Int×Int×Int×Int×Int×Int
abbrev q2eg:Type:=List Diii×Int×Int×List Diii×Int×Int×Int×List Diii×Int×List Diii×List Di
def q2eh (d:Nat) (self1:q2eg->Option q2eb):(Int×List Diii×Int×Int×List Diii×Int×Int×Int×List Diii×Int×List Diii×List Di×Int×Int×Int)->Option q2eb:=fun (ya,yb,yc,yd,ye,yf,yg,yh,yi,yj,yk,yl,ym,yn,yo) =>
 (obif (apB yk.length (List.length ([(ym,yn,yo,())]:List Diii))) (obif (apB yl.length (List.length ([(ya,())]:List Di))) (self1 (yb,yc,(wi (yd+1)),ye,yf,yg,yh,yi,yj,(yk++([(ym,yn,yo,())]:List Diii)),(yl++([(ya,())]:List Di)))) none) none)
def q2ei (d:Nat) (self1:q2eg->Option q2eb):(Int×List Diii×Int×Int×List Diii×Int×Int×Int×List Diii×Int×List Diii×List Di×Int×Int×Int×Int×Int×Int)->Option q2eb:=fun (ya,yb,yc,yd,ye,yf,yg,yh,yi,yj,yk,yl,_,_,_,yp,yq,yr) =>
 (bif (decide ((yl.length:Int)>0)) then (let e7:=(wi ((yl.length:Int)-1));(obif (inB e7 yl.length) (let e8:=(elt zi yl e7.toNat);(obif (inB e8.1 yk.length) (q2eh d self1 (ya,yb,yc,yd,ye,yf,yg,yh,yi,yj,(List.set yk (e8.1).toNat ((elt ziii yk (e8.1).toNat).1,(elt ziii yk (e8.1).toNat).2.1,ya,())),yl,yp,yq,yr)) none)) none)) else (q2eh d self1 (ya,yb,yc,yd,ye,yf,yg,yh,yi,ya,yk,yl,yp,yq,yr)))
def q2ej (d:Nat) (self1:q2eg->Option q2eb) (self2:q2ef->Option q2eb):q2ef->Option q2eb:=fun (x2a,x2b,x2c,x2d,x2e,x2f,x2g,x2h,x2i,x2j,x2k,x2l,x2m,x2n,x2o,x2p,x2q,x2r) =>
 (bif (decide ((x2l.length:Int)>0)) then (let e3:=(wi ((x2l.length:Int)-1));(obif (inB e3 x2l.length) (let e4:=(elt zi x2l e3.toNat);(obif (inB e4.1 x2e.length) (let e5:=(elt ziii x2e (e4.1).toNat);(obnd (qv1 d ((e5.1,e5.2.1,e5.2.2.1,()),(x2m,x2n,x2o,()),(x2f,x2g,()),())) fun (r6a,_)=>(bif r6a then (q2ei d self1 (x2a,x2b,x2c,x2d,x2e,x2f,x2g,x2h,x2i,x2j,x2k,x2l,x2m,x2n,x2o,x2p,x2q,x2r)) else (let e7:=(wi ((x2l.length:Int)-1));(obif (decide (0<=e7)&&decide (e7<=(x2l.length:Int))) (self2 (x2a,x2b,x2c,x2d,x2e,x2f,x2g,x2h,x2i,x2j,x2k,(List.take e7.toNat x2l),x2m,x2n,x2o,x2p,e4.1,x2r)) none))))) none)) none)) else (q2ei d self1 (x2a,x2b,x2c,x2d,x2e,x2f,x2g,x2h,x2i,x2j,x2k,x2l,x2m,x2n,x2o,x2p,x2q,x2r)))
def q2ek:q2ef->St:=fun (x2a,x2b,x2c,x2d,x2e,x2f,x2g,x2h,x2i,x2j,x2k,x2l,x2m,x2n,x2o,x2p,x2q,x2r)=>⟨[(2,.ptr 0 0),(3,.ptr 1 0),(4,.ptr 2 0),(7,.ptr 4 0),(8,.rs 6),(9,i6 x2a),(10,.ptr 7 0),(11,.ptr 8 0),(24,.fz Riii x2b),(25,i6 x2c),(26,i6 x2d)],[.cells [.fz Riii x2e],.cells [i6 x2f,i6 x2g],.cells [i6 x2h,.rs 3],.rows Riii x2i,.cells [i6 x2j,.rs 5],.rows Riii x2k,.rows Ri x2l,.cells [i6 x2m,i6 x2n,i6 x2o],.cells [i6 x2p,i6 x2q,i6 x2r]]⟩
def q2el (d:Nat) (L2_g:q2ef->Option q2eb) (self1:q2eg->Option q2eb):q2eg->Option q2eb:=fun (x1a,x1b,x1c,x1d,x1e,x1f,x1g,x1h,x1i,x1j,x1k) =>
 (bif (decide (x1c<x1b)) then (obif (inB x1c x1a.length) (let e2:=(elt ziii x1a x1c.toNat);(L2_g (x1c,x1a,x1b,x1c,x1d,x1e,x1f,x1g,x1h,x1i,x1j,x1k,e2.1,e2.2.1,e2.2.2.1,e2.1,(-1:Int),(-1:Int)))) none) else some (x1i,x1j,0))
def q2em:q2eg->St:=fun (x1a,x1b,x1c,x1d,x1e,x1f,x1g,x1h,x1i,x1j,x1k)=>⟨[(2,.ptr 0 0),(3,.ptr 1 0),(4,.ptr 2 0),(7,.ptr 4 0),(8,.rs 6),(24,.fz Riii x1a),(25,i6 x1b),(26,i6 x1c)],[.cells [.fz Riii x1d],.cells [i6 x1e,i6 x1f],.cells [i6 x1g,.rs 3],.rows Riii x1h,.cells [i6 x1i,.rs 5],.rows Riii x1j,.rows Ri x1k]⟩
theorem q2en (d:Nat) (self1:St->Option q2eb) (self2:St->Option q2eb) (x:q2ef):(q2ec d).b 10 [self1] self2 (q2ek x)=q2ej d (fun y=>self1 (q2em y)) (fun y=>self2 (q2ek y)) x:=by kernel_rfl
def q2eo (d:Nat) (self1:q2eg->Option q2eb) (x:q2eg):Option q2eb:=q2el d (iter (q2ej d self1) d) self1 x
theorem q2ep (d:Nat) (self1:St->Option q2eb) (x:q2eg):(q2ec d).b 7 [] self1 (q2em x)=q2eo d (fun y=>self1 (q2em y)) x:=by
 have h:(q2ec d).b 7 [] self1 (q2em x)=q2el d (fun y=>iter ((q2ec d).b 10 [self1]) d (q2ek y)) (fun y=>self1 (q2em y)) x:=by kernel_rfl
 rw[h];unfold q2eo;congr 1<;>(funext y;first | rfl | exact qfi (q2en d self1) d y)
def q2eq (d:Nat) (L1_g:q2eg->Option q2eb):q2ea->Option q2eb:=fun ((xAa,_),(xBa,xBb,_),_) =>
 (obnd (q2e7 d ((xAa,()),(xBa,xBb,()),())) fun r1=>(bif (r1 != 0) then none else (L1_g (xAa,(xAa.length:Int),0,xAa,xBa,xBb,0,([]:List Diii),(-1:Int),([]:List Diii),([]:List Di)))))
theorem q2er (d:Nat) (x:q2ea):q2ee d x=q2eq d (iter (q2eo d) d) x:=by
 have h:q2ee d x=q2eq d (fun y=>iter ((q2ec d).b 7 []) d (q2em y)) x:=by kernel_rfl
 rw[h];congr 1<;>(funext y;first | rfl | exact qfi (q2ep d) d y)
abbrev q2es:Type:=qig×Di×Unit
abbrev q2et:Type:=Bool
noncomputable def q2eu (d:Nat):Ent:=⟨tysT,(orc []),f121,mkPl [(2,(.box [.any,.val Riii]))] [([0],[1,2]),([1],[4])] [] [],d,121,[.row qif true,.row Ri false],.undef,[.bo]⟩
theorem q2ev (d:Nat):COK prog (q2eu d).s:=Ent.k mixed tys (qeo ac0) ⟨by kernel_rfl,by kernel_rfl,by kernel_rfl⟩
noncomputable def q2ew (d:Nat) (x:q2es):Option q2et:=(q2eu d).F x
def q2ex (d:Nat):q2es->Option q2et:=fun ((_,xAb,_),(xBa,_),_) =>
 (obif (decide (xBa≥(-1:Int))) (some (decide (xBa<(xAb.length:Int)))) (some false))
theorem q2ey (d:Nat) (x:q2es):q2ew d x=q2ex d x:=by kernel_rfl
abbrev q2ez:Type:=qig×Unit
abbrev q2f0:Type:=Bool
noncomputable def q2f1 (d:Nat):Ent:=⟨tysT,(orc []),f122,mkPl [(1,(.box [.any,.val Riii])),(3,(.own Ri))] [([0],[1]),([1],[1,3]),([2,4,7,10],[1,3,4]),([3],[1,3,4,16]),([5],[1,3,4,5]),([6],[1,3,4,5,26]),([8],[1,3,4,6]),([9],[1,3,4,6,40]),([11,13],[1,3,7]),([12],[1,3,7,50]),([14],[1,3,7,76]),([15,16],[2])] [] [(12,[1,3,7]),(3,[1,3,4])],d,122,[.row qif true],.undef,[.bo]⟩
theorem q2f2 (d:Nat):COK prog (q2f1 d).s:=Ent.k mixed tys (qeo ac0) ⟨by kernel_rfl,by kernel_rfl,by kernel_rfl⟩
noncomputable def q2f3 (d:Nat) (x:q2ez):Option q2f0:=(q2f1 d).F x
abbrev q2f4:Type:=Int×Int×List Diii×List Di
abbrev q2f5:Type:=Int×Int×List Diii×List Di
def q2f6 (d:Nat) (self1:q2f5->Option q2f0):(Int×Int×List Diii×List Di)->Option q2f0:=fun (ya,yb,yc,yd) =>
 (self1 ((wi (ya+1)),yb,yc,yd))
def q2f7 (d:Nat) (self1:q2f5->Option q2f0):(Int×Int×List Diii×List Di)->Option q2f0:=fun (ya,yb,yc,yd) =>
 (obif (inB ya yc.length) (let e4:=(elt ziii yc ya.toNat);(bif (decide (e4.2.2.1≥0)) then (obif (inB e4.2.2.1 yd.length) (obif (inB e4.2.2.1 yd.length) (q2f6 d self1 (ya,yb,yc,(List.set yd (e4.2.2.1).toNat ((wi ((elt zi yd (e4.2.2.1).toNat).1+1)),())))) none) none) else (q2f6 d self1 (ya,yb,yc,yd)))) none)
def q2f8 (d:Nat) (self2:q2f4->Option q2f0):(Int×Bool×Int×List Diii×List Di)->Option q2f0:=fun (ya,yb,yc,yd,ye) =>
 (bif yb then some false else (self2 ((wi (ya+1)),yc,yd,ye)))
def q2f9 (d:Nat) (self2:q2f4->Option q2f0):q2f4->Option q2f0:=fun (x2a,x2b,x2c,x2d) =>
 (bif (decide (x2a<(x2d.length:Int))) then (obif (x2a==x2b) (obif (inB x2a x2d.length) (obif ((elt zi x2d x2a.toNat).1 != 0) (q2f8 d self2 (x2a,true,x2b,x2c,x2d)) (obif (x2a != x2b) (obif (inB x2a x2d.length) (q2f8 d self2 (x2a,((elt zi x2d x2a.toNat).1 != 1),x2b,x2c,x2d)) none) (q2f8 d self2 (x2a,false,x2b,x2c,x2d)))) none) (obif (x2a != x2b) (obif (inB x2a x2d.length) (q2f8 d self2 (x2a,((elt zi x2d x2a.toNat).1 != 1),x2b,x2c,x2d)) none) (q2f8 d self2 (x2a,false,x2b,x2c,x2d)))) else some true)
def q2fa:q2f4->St:=fun (x2a,x2b,x2c,x2d)=>⟨[(1,.ptr 0 0),(3,.rs 1),(7,i6 x2a)],[.cells [i6 x2b,.fz Riii x2c],.rows Ri x2d]⟩
def q2fb (d:Nat) (L2_g:q2f4->Option q2f0) (self1:q2f5->Option q2f0):q2f5->Option q2f0:=fun (x1a,x1b,x1c,x1d) =>
 (bif (decide (x1a<(x1c.length:Int))) then (obif (inB x1a x1c.length) (let e1:=(elt ziii x1c x1a.toNat);(bif (decide (e1.2.1≥0)) then (obif (inB e1.2.1 x1d.length) (obif (inB e1.2.1 x1d.length) (q2f7 d self1 (x1a,x1b,x1c,(List.set x1d (e1.2.1).toNat ((wi ((elt zi x1d (e1.2.1).toNat).1+1)),())))) none) none) else (q2f7 d self1 (x1a,x1b,x1c,x1d)))) none) else (L2_g (0,x1b,x1c,x1d)))
def q2fc:q2f5->St:=fun (x1a,x1b,x1c,x1d)=>⟨[(1,.ptr 0 0),(3,.rs 1),(4,i6 x1a)],[.cells [i6 x1b,.fz Riii x1c],.rows Ri x1d]⟩
theorem q2fd (d:Nat) (self1:St->Option q2f0) (self2:St->Option q2f0) (x:q2f4):(q2f1 d).b 12 [self1] self2 (q2fa x)=q2f9 d (fun y=>self2 (q2fa y)) x:=by kernel_rfl
def q2fe (d:Nat) (self1:q2f5->Option q2f0) (x:q2f5):Option q2f0:=q2fb d (iter (q2f9 d) d) self1 x
theorem q2ff (d:Nat) (self1:St->Option q2f0) (x:q2f5):(q2f1 d).b 3 [] self1 (q2fc x)=q2fe d (fun y=>self1 (q2fc y)) x:=by
 have h:(q2f1 d).b 3 [] self1 (q2fc x)=q2fb d (fun y=>iter ((q2f1 d).b 12 [self1]) d (q2fa y)) (fun y=>self1 (q2fc y)) x:=by kernel_rfl
 rw[h];unfold q2fe;congr 1<;>(funext y;first | rfl | exact qfi (q2fd d self1) d y)
def q2fg (d:Nat) (L1_g:q2f5->Option q2f0):q2ez->Option q2f0:=fun ((xAa,xAb,_),_) =>
 (obif (mkB (xAb.length:Int) (xAb.length:Int)) (L1_g (0,xAa,xAb,(List.replicate (xAb.length:Int).toNat zi))) none)
theorem q2fh (d:Nat) (x:q2ez):q2f3 d x=q2fg d (iter (q2fe d) d) x:=by
 have h:q2f3 d x=q2fg d (fun y=>iter ((q2f1 d).b 3 []) d (q2fc y)) x:=by kernel_rfl
 rw[h];congr 1<;>(funext y;first | rfl | exact qfi (q2ff d) d y)
abbrev q2fi:List Pk:=[.row qif true,.row Ri false]
abbrev q2fj:List Pk:=[]
abbrev q2fk:Type:=(qig×Di×Unit)×(Unit)×List Di
abbrev q2fl:Type:=List Di
def q2fm (F:q2fk->Option q2fl):CSpec:=⟨169,q2fi,q2fj,Ri,fun a b c=>F (a,b,c)⟩
abbrev q2fn:Type:=(q2fk->Option q2fl)×Unit
def q2fo (d:Nat) (me:(q2fk->Option q2fl)):q2fn:=(me,())
def q2fp (C:q2fn):List Go.Tx.Spec:=[]
abbrev q2fq:Type:=Int×List Diii×Int×List Di
def q2fr (v:q2fq):St:=⟨[(0,.agg [i6 v.1,.fz Riii v.2.1]),(1,i6 v.2.2.1),(2,.rs 0)],[.rows Ri v.2.2.2]⟩
abbrev q2fs:Type:=Int×List Di×Int×List Diii
def q2ft (v:q2fs):St:=⟨[(1,i6 v.1),(2,.rs 0),(3,.ptr 1 0)],[.rows Ri v.2.1,.cells [i6 v.2.2.1,.fz Riii v.2.2.2]]⟩
def q2fu (C:q2fn) (v:q2fq):Dt q2fs:=(Dt.ret (v.2.2.1,v.2.2.2,v.1,v.2.1))
abbrev q2n5 {V Y:Type}:=@rg q2fn V Y tysT (fun C=>(orcC (q2fm C.1) (orc (q2fp C)))) 40
theorem q2fv C v:q2n5 (regO (qeu f169) 0) false [(1,.any),(2,(.own Ri)),(3,(.box [.any,.val Riii]))] q2fr q2fu q2ft C v:=rgI (by kernel_rfl)
abbrev q2fw:Type:=Int×Bool×List Di×Int×List Diii
def q2fx (v:q2fw):St:=⟨[(1,i6 v.1),(2,.rs 0),(3,.ptr 1 0),(16,.bool v.2.1)],[.rows Ri v.2.2.1,.cells [i6 v.2.2.2.1,.fz Riii v.2.2.2.2]]⟩
def q2fy (C:q2fn) (v:q2fs):Dt q2fw:=(Dt.ite (decide (v.1<(0:Int))) (Dt.ret (v.1,true,v.2.1,v.2.2.1,v.2.2.2)) (Dt.ret (v.1,(decide ((List.length v.2.1:Int)>(List.length v.2.2.2:Int))),v.2.1,v.2.2.1,v.2.2.2)))
theorem q2fz C v:q2n5 (regO (qeu f169) 1) false [(1,.any),(2,(.own Ri)),(3,(.box [.any,.val Riii])),(16,.any)] q2ft q2fy q2fx C v:=rgI (by kernel_rfl)
abbrev q2g0:Type:=List Di
def q2g1 (v:q2g0):St:=⟨[(6,.rs 0)],[.rows Ri v]⟩
def q2g2 (C:q2fn) (v:q2fw):Dt q2g0:=(Dt.ret v.2.2.1)
theorem q2g3 C v:q2n5 (regO (qeu f169) 2) false [(6,(.own Ri))] q2fx q2g2 q2g1 C v:=rgI (by kernel_rfl)
def q2g4 (C:q2fn) (v:q2fw):Dt q2fs:=(Dt.ite (inB v.1 (List.length v.2.2.2.2)) (Dt.bnd (C.1 (((v.2.2.2.1,v.2.2.2.2,()),((elt ziii v.2.2.2.2 (v.1).toNat).2.1,()),()),(()),v.2.2.1)) fun r1=>(Dt.ret (v.1,r1,v.2.2.2.1,v.2.2.2.2))) Dt.fail)
theorem q2g5 C v:q2n5 (regO (qeu f169) 3) true [(1,.any),(2,(.own Ri)),(3,(.box [.any,.val Riii]))] q2fx q2g4 q2ft C v:=rgI (by kernel_rfl)
def q2g6 (C:q2fn) (v:q2fs):Dt q2fs:=(Dt.ite (apB (List.length v.2.1) (List.length ([(v.1,())]:List Di))) (Dt.ret (v.1,(v.2.1++([(v.1,())]:List Di)),v.2.2.1,v.2.2.2)) Dt.fail)
theorem q2g7 C v:q2n5 (regO (qeu f169) 4) false [(1,.any),(2,(.own Ri)),(3,(.box [.any,.val Riii]))] q2ft q2g6 q2ft C v:=rgI (by kernel_rfl)
def q2g8 (C:q2fn) (v:q2fs):Dt q2g0:=(Dt.ite (inB v.1 (List.length v.2.2.2)) (Dt.bnd (C.1 (((v.2.2.1,v.2.2.2,()),((elt ziii v.2.2.2 (v.1).toNat).2.2.1,()),()),(()),v.2.1)) fun r1=>(Dt.ret r1)) Dt.fail)
theorem q2g9 C v:q2n5 (regO (qeu f169) 5) true [(6,(.own Ri))] q2ft q2g8 q2g1 C v:=rgI (by kernel_rfl)
def q2ga (d:Nat) (me:(q2fk->Option q2fl)) (x:q2fk):Option q2fl :=
 (q2fu (q2fo d me) (x.1.1.1,x.1.1.2.1,x.1.2.1.1,x.2.2)).eval fun y0 =>
 (q2fy (q2fo d me) y0).eval fun y1 =>
 bif y1.2.1 then ((q2g2 (q2fo d me) y1).eval fun y2 =>
 some y2) else ((q2g4 (q2fo d me) y1).eval fun y3 =>
 (q2g6 (q2fo d me) y3).eval fun y4 =>
 (q2g8 (q2fo d me) y4).eval fun y5 =>
 some y5)
theorem q2gb (d:Nat) (me:(q2fk->Option q2fl)) (hme:COKC prog (q2fm me)):COKC prog (q2fm (q2ga d me)):=by
 have hm:prog.follows .mixedOrders=true:=mixed
 have hT:=tys
 have hC0:OrcOK prog (orc (q2fp (q2fo d me))):=qeo (by
  intro S hS
  simp only[q2fp,List.mem_cons,List.not_mem_nil,or_false]at hS
  all_goals first | cases hS | exact hS.elim)
 have hC:OrcOK prog (orcC (q2fm (q2fo d me).1) (orc (q2fp (q2fo d me)))):=(qfn hme rfl hC0)
 refine qfp (c:=qeu f169) (fn:=f169) hT (by kernel_rfl) (by kernel_rfl) (by decide) fun x r h w0 φ0 Q hend=>?_
 replace h:q2ga d me x=some r:=h
 unfold q2ga at h
 show Run prog w0 φ0 40 (qeu f169) ⟨[(0,.agg [.int .i64 x.1.1.1,.fz Riii x.1.1.2.1]),(1,.int .i64 x.1.2.1.1),(2,.rs 0)],[.rows Ri x.2.2]⟩ Q
 refine q2n0 hm hT hC (q2fv (q2fo d me) (x.1.1.1,x.1.1.2.1,x.1.2.1.1,x.2.2)) h fun y0 h=>?_
 refine q9x ?_
 refine q2n0 hm hT hC (q2fz (q2fo d me) y0) h fun y1 h=>?_
 refine qa1 (v:=y1.2.1) (by kernel_rfl) h ?_ ?_
 ·
  intro h
  refine q2n0 hm hT hC (q2g3 (q2fo d me) y1) h fun y2 h=>?_
  refine q9w (q9l ?_)
  cases h
  exact (hend _ (by kernel_rfl)).2
 ·
  intro h
  refine q9t (q9j ?_)
  refine q2n0 hm hT hC (q2g5 (q2fo d me) y1) h fun y3 h=>?_
  refine q2n0 hm hT hC (q2g7 (q2fo d me) y3) h fun y4 h=>?_
  refine q2n0 hm hT hC (q2g9 (q2fo d me) y4) h fun y5 h=>?_
  refine q9w ?_
  cases h
  exact (hend _ (by kernel_rfl)).2
def q2gc (d:Nat):Nat->q2fk->Option q2fl
 | 0,_=>none
 | k+1,x=>q2ga d (q2gc d k) x
def q2gd (d:Nat) (x:q2fk):Option q2fl:=q2gc d d x
theorem q2ge (d:Nat):COKC prog (q2fm (q2gd d)):=by
 have key:∀ k,COKC prog (q2fm (q2gc d k)):=fun k=>by
  induction k with
  | zero=>exact⟨fun x1 x2 xs ys h=>(by cases (show (none:Option q2fl)=some ys from h)),⟨f169,qeu f169,by kernel_rfl,by kernel_rfl,by decide⟩⟩
  | succ k ih=>exact q2gb d _ ih
 exact key d
abbrev q2gf:Type:=qig×Unit
abbrev q2gg:Type:=Bool
noncomputable def q2gh (d:Nat):Ent:=⟨tysT,(orcC (q2fm (q2gd d)) (orc [])),f123,mkPl [(1,(.box [.any,.val Riii]))] [([0],[1]),([1],[2])] [] [],d,123,[.row qif true],.undef,[.bo]⟩
theorem q2gi (d:Nat):COK prog (q2gh d).s:=Ent.k mixed tys (qfn (q2ge d) rfl (qeo ac0)) ⟨by kernel_rfl,by kernel_rfl,by kernel_rfl⟩
noncomputable def q2gj (d:Nat) (x:q2gf):Option q2gg:=(q2gh d).F x
def q2gk (d:Nat):q2gf->Option q2gg:=fun ((xAa,xAb,_),_) =>
 (obnd (q2gd d (((xAa,xAb,()),(xAa,()),()),(),([]:List Di))) fun r1=>(some ((r1.length:Int)==(xAb.length:Int))))
theorem q2gl (d:Nat) (x:q2gf):q2gj d x=q2gk d x:=by kernel_rfl
abbrev q2gm:Type:=qig×Unit
abbrev q2gn:Type:=List Di
noncomputable def q2go (d:Nat):Ent:=⟨tysT,(orcC (q2fm (q2gd d)) (orc [])),f124,mkPl [(1,(.box [.any,.val Riii])),(2,(.own Ri))] [([0],[1]),([1],[2])] [] [],d,124,[.row qif true],.undef,[.o Ri]⟩
theorem q2gp (d:Nat):COK prog (q2go d).s:=Ent.k mixed tys (qfn (q2ge d) rfl (qeo ac0)) ⟨by kernel_rfl,by kernel_rfl,by kernel_rfl⟩
noncomputable def q2gq (d:Nat) (x:q2gm):Option q2gn:=(q2go d).F x
def q2gr (d:Nat):q2gm->Option q2gn:=fun ((xAa,xAb,_),_) =>
 (obnd (q2gd d (((xAa,xAb,()),(xAa,()),()),(),([]:List Di))) fun r1=>some r1)
theorem q2gs (d:Nat) (x:q2gm):q2gq d x=q2gr d x:=by kernel_rfl
abbrev q2gt:Type:=qig×Unit
abbrev q2gu:Type:=Int
noncomputable def q2gv (d:Nat):Ent:=⟨tysT,(orc [(q2eu d).s,(q2f1 d).s,(q2gh d).s,(q2go d).s]),f54,mkPl [(1,(.box [.any,.val Riii])),(5,(.own Ri))] [([0],[1]),([1],[1,10]),([3],[1,25]),([5,7],[1,3]),([6],[1,3,30]),([8],[1,3,4]),([9],[1,3,59]),([11],[1,67]),([13],[1,5]),([14,16],[1,5,6]),([15],[1,5,6,73]),([17],[1,5,6,95]),([19],[2])] [] [(15,[1,5,6]),(6,[1,3])],d,54,[.row qif true],.undef,[.i .i64]⟩
theorem q2gw (d:Nat):COK prog (q2gv d).s:=Ent.k mixed tys (qeo (ac1 (q2ev d) (ac1 (q2f2 d) (ac1 (q2gi d) (ac1 (q2gp d) ac0))))) ⟨by kernel_rfl,by kernel_rfl,by kernel_rfl⟩
noncomputable def q2gx (d:Nat) (x:q2gt):Option q2gu:=(q2gv d).F x
abbrev q2gy:Type:=Int×Int×List Diii×List Di
abbrev q2gz:Type:=Int×Int×List Diii
def q2h0 (d:Nat) (self1:q2gz->Option q2gu):(Int×Bool×Int×List Diii)->Option q2gu:=fun (ya,yb,yc,yd) =>
 (bif yb then none else (self1 ((wi (ya+1)),yc,yd)))
def q2h1 (d:Nat) (self2:q2gy->Option q2gu):q2gy->Option q2gu:=fun (x2a,x2b,x2c,x2d) =>
 (bif (decide (x2a<(x2d.length:Int))) then (let e4:=(wi (x2a-1));(obif (inB e4 x2d.length) (let e5:=(elt zi x2d e4.toNat);(obif (inB e5.1 x2c.length) (obif (inB x2a x2d.length) (let e7:=(elt zi x2d x2a.toNat);(obif (inB e7.1 x2c.length) (bif (decide ((elt ziii x2c (e5.1).toNat).1≥(elt ziii x2c (e7.1).toNat).1)) then none else (self2 ((wi (x2a+1)),x2b,x2c,x2d))) none)) none) none)) none)) else some 0)
def q2h2:q2gy->St:=fun (x2a,x2b,x2c,x2d)=>⟨[(1,.ptr 0 0),(5,.rs 1),(6,i6 x2a)],[.cells [i6 x2b,.fz Riii x2c],.rows Ri x2d]⟩
def q2h3 (d:Nat) (L2_g:q2gy->Option q2gu):(Bool×Int×List Diii)->Option q2gu:=fun (ya,yb,yc) =>
 (bif ya then none else (obnd (q2gq d ((yb,yc,()),())) fun r3=>(L2_g (1,yb,yc,r3))))
def q2h4 (d:Nat) (L2_g:q2gy->Option q2gu) (self1:q2gz->Option q2gu):q2gz->Option q2gu:=fun (x1a,x1b,x1c) =>
 (bif (decide (x1a<(x1c.length:Int))) then (obif (inB x1a x1c.length) (let e2:=(elt ziii x1c x1a.toNat);(obnd (q2ew d ((x1b,x1c,()),(e2.2.1,()),())) fun r3=>(obif (!r3) (q2h0 d self1 (x1a,true,x1b,x1c)) (obnd (q2ew d ((x1b,x1c,()),(e2.2.2.1,()),())) fun r4=>(obif (!r4) (q2h0 d self1 (x1a,true,x1b,x1c)) (obif (decide (e2.1<0)) (q2h0 d self1 (x1a,true,x1b,x1c)) (q2h0 d self1 (x1a,(decide (e2.1>65535)),x1b,x1c)))))))) none) else (obnd (q2f3 d ((x1b,x1c,()),())) fun r2=>(obif (!r2) (q2h3 d L2_g (true,x1b,x1c)) (obnd (q2gj d ((x1b,x1c,()),())) fun r3=>(q2h3 d L2_g ((!r3),x1b,x1c))))))
def q2h5:q2gz->St:=fun (x1a,x1b,x1c)=>⟨[(1,.ptr 0 0),(3,i6 x1a)],[.cells [i6 x1b,.fz Riii x1c]]⟩
theorem q2h6 (d:Nat) (self1:St->Option q2gu) (self2:St->Option q2gu) (x:q2gy):(q2gv d).b 15 [self1] self2 (q2h2 x)=q2h1 d (fun y=>self2 (q2h2 y)) x:=by kernel_rfl
def q2h7 (d:Nat) (self1:q2gz->Option q2gu) (x:q2gz):Option q2gu:=q2h4 d (iter (q2h1 d) d) self1 x
theorem q2h8 (d:Nat) (self1:St->Option q2gu) (x:q2gz):(q2gv d).b 6 [] self1 (q2h5 x)=q2h7 d (fun y=>self1 (q2h5 y)) x:=by
 have h:(q2gv d).b 6 [] self1 (q2h5 x)=q2h4 d (fun y=>iter ((q2gv d).b 15 [self1]) d (q2h2 y)) (fun y=>self1 (q2h5 y)) x:=by kernel_rfl
 rw[h];unfold q2h7;congr 1<;>(funext y;first | rfl | exact qfi (q2h6 d self1) d y)
def q2h9 (d:Nat) (L1_g:q2gz->Option q2gu):q2gt->Option q2gu:=fun ((xAa,xAb,_),_) =>
 (bif (decide ((xAb.length:Int)>64)) then none else (obnd (q2ew d ((xAa,xAb,()),(xAa,()),())) fun r1=>(obif (!r1) (none) (bif (!((xAa==(-1:Int))==((xAb.length:Int)==0))) then none else (L1_g (0,xAa,xAb))))))
theorem q2ha (d:Nat) (x:q2gt):q2gx d x=q2h9 d (iter (q2h7 d) d) x:=by
 have h:q2gx d x=q2h9 d (fun y=>iter ((q2gv d).b 6 []) d (q2h5 y)) x:=by kernel_rfl
 rw[h];congr 1<;>(funext y;first | rfl | exact qfi (q2h8 d) d y)
end
end Go.Proofs.YtfjjdnaggblaaaaGreat
namespace Go.Proofs.YtfjjdnaggblaaaaGreat
open Go Go.Tx Go.Pel
theorem q2hb {a:Int} (h:0<=a/\a<18446744073709551616):IntKind.wrap .u64 a=a:=by rw[IntKind.wrap_u64];omega
theorem q2hc (d:Nat) {Y g:Int} (hY:0<=Y) (hY2:Y<18446744073709551616) (hg:1<=g):q254 d ((0,()),(Y,()),(g,()),())=some (Y.tdiv g,Y.tmod g):=by
 have c1:(g==0)=false:=by rw[beq_eq_false_iff_ne];omega
 have c2:decide (g<=0)=false:=by rw[decide_eq_false_iff_not];omega
 have b:=Int.ediv_le_self g hY
 have b2:=Int.ediv_nonneg hY (show (0:Int)<=g by omega)
 have e:IntKind.wrap .u64 (Y.tdiv g)=Y.tdiv g:=q2hb (by rw[Int.tdiv_eq_ediv_of_nonneg hY];omega)
 rw[q258]
 simp only[q257,q256,q255,obif,c1,c2,cond_false,beq_self_eq_true,cond_true,e]
theorem q2hd (d:Nat) {Y g:Int} (hY:0<=Y) (hY2:Y<18446744073709551616) (hg:1<=g):q25d d ((0,()),(Y,()),(g,()),())=some (Y.tmod g):=by
 have c1:(g==0)=false:=by rw[beq_eq_false_iff_ne];omega
 rw[q25f]
 simp only[q25e,obif,obnd,c1,cond_false,Int.zero_tmod,q2hc d hY hY2 hg]
theorem q2he (d:Nat) (neg:Bool) {D Y:Int} (hY:0<=Y) (hY2:Y<9223372036854775807):∀ (f:Nat) (rest g:Int),rest<f->0<=rest->1<=g->∃ a b,iter (q25o d) f (neg,D,rest,g,(0:Int),(0:Int),(0:Int),Y)=some (a,b,0)
 | 0,rest,g,hf,h0,_=>by omega
 | f + 1, rest, g, hf, h0, hg => by
  have ih:=q2he d neg (D:=D) hY hY2 f
  rw[iter]
  revert ih
  generalize iter (q25o d) f=self
  intro ih
  unfold q25o
  rcases (by omega:0<rest∨rest=0) with h1 | h1
  ·have c1:decide (rest>0)=true:=decide_eq_true h1
   have c2:(rest==0)=false:=by rw[beq_eq_false_iff_ne];omega
   simp only[c1,cond_true,c2,obif,cond_false]
   have m1:=Int.emod_lt_of_pos g h1
   have m2:=Int.emod_nonneg g (show rest≠0 by omega)
   have e:g.tmod rest=g%rest:=Int.tmod_eq_emod_of_nonneg (by omega)
   exact ih (g.tmod rest) rest (by omega) (by omega) (by omega)
  ·subst h1
   have c1:(g==0)=false:=by rw[beq_eq_false_iff_ne];omega
   have b:=Int.ediv_le_self g hY
   have e1:Y.tdiv g=Y/g:=Int.tdiv_eq_ediv_of_nonneg hY
   have c2:decide (Y.tdiv g>9223372036854775807)=false:=by rw[decide_eq_false_iff_not];omega
   have w0:IntKind.wrap .u64 0=0:=rfl
   simp only[show decide ((0:Int)>0)=false from rfl,cond_false,c1,obif,obnd,w0,Int.zero_tdiv,Int.zero_tmod,q2hc d hY (show Y<18446744073709551616 by omega) hg,c2,q25n,q25m]
   cases neg with
   | true=>simp only[cond_true];exact⟨_,_,rfl⟩
   | false=>simp only[cond_false];exact⟨_,_,rfl⟩
theorem q2hf {a b:Int} {A B:Nat} (ha:a.natAbs<=A) (hb:b.natAbs<=B):(a*b).natAbs<=A*B:=by rw[Int.natAbs_mul];exact Nat.mul_le_mul ha hb
structure AskOk (n dd:Int):Prop where
 t:TOk n dd
 n0:n.natAbs<=1073741824
 d0:dd<=1024
theorem q2hg (d:Nat) (hf:5000<=d) {p:T3} (hp:okP p) {M D:Int} (h:AskOk M D):∃ a b,q25k d ((p.1,p.2.1,p.2.2.1,()),(M,D,()),())=some (a,b,0):=by
  obtain⟨_,_,a1,a2,a3,a4⟩:=q27l hp
  have hM:=h.n0;have hD2:=h.d0
  have hD:=h.t.pos
  have m1:(p.2.1*D).natAbs<=1048576*1024:=q2hf (by omega) (by omega)
  have m2:(p.2.2.1*M).natAbs<=1048576*1073741824:=q2hf (by omega) hM
  have e1:qu0 d ((p.1,p.2.1,p.2.2.1,()),())=some 0:=by rw[qu1 _ _ rfl];exact congrArg some hp
  have e2:qt0 d ((M,D,()),())=some 0:=by rw[qt1 _ _ (by unfold qsz;simp only[h.t.b1,h.t.b2,Bool.and_self])];exact congrArg some h.t.ok
  have e3:q200 d ((p.2.1,D,p.2.2.1,M,()),())=some ((p.2.1*D+p.2.2.1*M)/18446744073709551616,(p.2.1*D+p.2.2.1*M)%18446744073709551616):=q201 _ _ (show sumB p.2.1 D p.2.2.1 M=true from decide_eq_true ⟨by omega,by omega,by omega,by omega,by omega,by omega⟩)
  generalize hX:p.2.1*D+p.2.2.1*M=X at *
  have hXb:X.natAbs<=1125900980584448:=by omega
  rw[q25t]
  simp only[q25s,q25q,obnd,e1,e2,e3,show tmax (0:Int) 0=0 from rfl,show ((0:Int) != 0)=false from rfl,cond_false]
  have w1:IntKind.wrap .u64 D=D:=q2hb (by omega)
  have w0:IntKind.wrap .u64 0=0:=rfl
  have fin:∀ (b:Bool) (Y:Int),0<=Y->Y<9223372036854775807->∃ x y,iter (q25o d) d (b,D,Y.tmod D,D,(0:Int),(0:Int),(0:Int),Y)=some (x,y,0):=fun b Y h1 h2=>by
    have t1:=Int.emod_lt_of_pos Y (show 0<D by omega)
    have t2:=Int.emod_nonneg Y (show D≠0 by omega)
    have t3:Y.tmod D=Y%D:=Int.tmod_eq_emod_of_nonneg h1
    exact q2he d b h1 h2 d _ D (by omega) (by omega) hD
  rcases (by omega:0<=X∨X<0) with h | h
  · have q1:X/18446744073709551616=0:=by omega
    have q2:X%18446744073709551616=X:=by omega
    simp only[q1,q2,show decide ((0:Int)<0)=false from rfl,cond_false,w1,w0,q2hd d h (show X<18446744073709551616 by omega) hD]
    exact fin _ X h (by omega)
  · have q1:X/18446744073709551616=-1:=by omega
    have q2:X%18446744073709551616=X+18446744073709551616:=by omega
    have es:q204 0 (X+18446744073709551616) 0=some (-X,1):=by
      unfold q204
      rw[show (decide ((0:Int)<=0)&&decide ((0:Int)<18446744073709551616)&&decide (0<=X+18446744073709551616)&&decide (X+18446744073709551616<18446744073709551616)&&decide ((0:Int)<=0)&&decide ((0:Int)<=1))=true by simp only[Bool.and_eq_true,decide_eq_true_eq];omega,cond_true,
        show decide ((0:Int)<X+18446744073709551616+0)=true by rw[decide_eq_true_eq];omega,cond_true,show ((0:Int)-(X+18446744073709551616)-0)%18446744073709551616=-X by omega]
    have wz:wi (wi (0 - -1)-IntKind.wrap .i64 1)=0:=by decide
    simp only[q1,q2,show decide ((-1:Int)<0)=true from rfl,cond_true,es,wz,w1,w0,q2hd d (show 0<=-X by omega) (show -X<18446744073709551616 by omega) hD]
    exact fin _ (-X) (by omega) (by omega)
theorem q2hh (d:Nat) {n dd:Int} (h:TOk n dd):qt0 d ((n,dd,()),())=some 0:=by
 rw[← h.ok];exact qt1 _ _ (by unfold qsz;simp only[h.b1,h.b2,Bool.and_self])
theorem q2hi (d:Nat) {F:List T3} (h:qmq (ptsL F)=0):qva d ((F,()),())=some 0:=by rw[← h];exact qvb _ _ rfl
theorem q2hj (d:Nat) {n dd:Int} (h:AskOk n dd):q20e d ((n,dd,()),())=some 0:=by
 have:=h.n0;have:=h.d0
 rw[q20g]
 simp only[q20f,q2hh d h.t,obnd,show ((0:Int) != 0)=false from rfl,cond_false,q26i d n h.t.b1,obif,show decide ((n.natAbs:Int)>1073741824)=false by rw[decide_eq_false_iff_not];omega,show decide (dd>1024)=false by rw[decide_eq_false_iff_not];omega]
theorem q2hk (d:Nat) {n dd:Int} (h1:i64B n=true) (h2:i64B dd=true):∃ v,q2dm d ((n,dd,()),())=some v/\(v=0->AskOk n dd):=by
 have e1:qt9 d ((n,dd,()),())=some (qjo n dd):=qta _ _ (by unfold qt8;simp only[h1,h2,Bool.and_self])
 rw[q2do]
 simp only[q2dn,e1,obnd,obif]
 by_cases h0:qjo n dd=0
 ·rw[h0]
  simp only[show ((0:Int) != 0)=false from rfl,cond_false]
  by_cases c1:n>1073741824
  ·simp only[c1,decide_true,cond_true];exact⟨2,rfl,fun (e:(2:Int)=0)=>by omega⟩
  ·simp only[c1,decide_false,cond_false]
   by_cases c2:n < -1073741824
   ·simp only[c2,decide_true,cond_true];exact⟨2,rfl,fun (e:(2:Int)=0)=>by omega⟩
   ·simp only[c2,decide_false,cond_false]
    by_cases c3:dd>1024
    ·simp only[c3,decide_true,cond_true];exact⟨2,rfl,fun (e:(2:Int)=0)=>by omega⟩
    ·simp only[c3,decide_false,cond_false];exact⟨0,rfl,fun _=>⟨⟨h1,h2,h0⟩,by omega,by omega⟩⟩
 ·simp only[show (qjo n dd != 0)=true by simpa using h0,cond_true]
  exact⟨_,rfl,fun e=>absurd e h0⟩
theorem q2hl (d:Nat) {n dd:Int} {F:List T3} (h1:i64B n=true) (h2:i64B dd=true):∃ v,q2dt d ((n,dd,F,()),())=some v/\(v=0->AskOk n dd/\qmq (ptsL F)=0):=by
 obtain⟨v,e1,hv⟩:=q2hk d h1 h2
 have e2:qvj d ((F,()),())=some (qmq (ptsL F)):=qvk _ _ rfl
 rw[q2dv]
 simp only[q2du,e1,e2,obnd,obif]
 by_cases h0:v=0
 ·subst h0
  simp only[show ((0:Int) != 0)=false from rfl,cond_false]
  by_cases hf:qmq (ptsL F)=0
  ·rw[hf];exact⟨0,rfl,fun _=>⟨hv rfl,rfl⟩⟩
  ·simp only[show (qmq (ptsL F) != 0)=true by simpa using hf,cond_true];exact⟨8,rfl,fun (e:(8:Int)=0)=>by omega⟩
 ·simp only[show (v != 0)=true by simpa using h0,cond_true];exact⟨8,rfl,fun (e:(8:Int)=0)=>by omega⟩
theorem q2hm (d:Nat) {n dd:Int} {F:List T3} (h:AskOk n dd) (hf:qmq (ptsL F)=0):q2dt d ((n,dd,F,()),())=some 0:=by
 have h1:=h.n0;have h2:=h.d0
 have e1:qt9 d ((n,dd,()),())=some 0:=by rw[← h.t.ok];exact qta _ _ (by unfold qt8;simp only[h.t.b1,h.t.b2,Bool.and_self])
 have e2:qvj d ((F,()),())=some 0:=by rw[← hf];exact qvk _ _ rfl
 rw[q2dv]
 simp only[q2du,q2do,q2dn,e1,e2,obnd,obif,show ((0:Int) != 0)=false from rfl,cond_false,show decide (n>1073741824)=false by rw[decide_eq_false_iff_not];omega,show decide (n < -1073741824)=false by rw[decide_eq_false_iff_not];omega,show decide (dd>1024)=false by rw[decide_eq_false_iff_not];omega]
theorem q2hn (d:Nat) (hd:5<=d) {n dd:Int} {F:List T3} (h:AskOk n dd) (hf:qmq (ptsL F)=0):q20w d ((n,dd,F,()),())=some 0:=by
 have e3:q20l d (([(0,()),(0,())],()),())=some 0:=by
  rw[q20r]
  simp only[q20q]
  refine q26b (fun i=>([(0,()),(0,())],((2:Nat):Int),(i:Int))) _ 2 (fun i self hi=>?_) (fun self=>?_) (by omega) rfl
  ·have hz:elt zi [(0,()),(0,())] i=(0,()):=by
    match i,hi with
    | 0,_=>rfl
    | 1,_=>rfl
   simp only[q20n,show decide ((i:Int)<((2:Nat):Int))=true by rw[decide_eq_true_eq];omega,cond_true,inN (show i < [((0:Int),()),(0,())].length from hi),obif,Int.toNat_natCast,hz,show ((0:Int) != 0)=false from rfl,cond_false,wiS (show i<9223372036854775807 by omega)]
  ·simp only[q20n,show decide ((((2:Nat):Int))<((2:Nat):Int))=false from rfl,cond_false]
 rw[q20y]
 simp only[q20x,q2hj d h,q2hi d hf,e3,obnd,show ((0:Int) != 0)=false from rfl,cond_false]
instance (a b c e:Int):Decidable (leQ a b c e):=inferInstanceAs (Decidable (a*e<=c*b))
theorem q2ho (d:Nat) (hd:5000<=d) {n dd tn td:Int} {F:List T3} (h:AskOk n dd) (hf:qmq (ptsL F)=0) (ht:AskOk tn td) :
 q266 d ((n,dd,F,()),(4,0,0,0,0,tn,td,()),())=some (if leQ tn td n dd then (n,dd,F,44,0,0,0,0,[],0) else (tn,td,F,0,0,0,0,0,cutM (allM F) n dd tn td,0)):=by
 have hF:=q27r hf
 have e1:=q2hn d (by omega) h hf
 have e2:=q26n d ht.t.b1 ht.t.b2 h.t.b1 h.t.b2 ht.t.ok h.t.ok
 have hl:=hF.len
 rw[q268]
 simp only[q267,e1,obnd,show ((0:Int) != 0)=false from rfl,cond_false,q261,q260,q2bs d (show F.length<=1000 by omega),q218,q217,q214,q216,show ((4:Int)==1)=false from rfl,show ((4:Int)==3)=false from rfl,show ((4:Int)==2)=false from rfl,show ((4:Int)==4)=true from rfl,cond_true,beq_self_eq_true,Bool.and_self,Bool.not_true,q2hj d ht,e2]
 by_cases hle:leQ tn td n dd
 ·rw[if_pos hle]
  have:decide (cmpQ tn td n dd<=0)=true:=by rw[decide_eq_true_eq];have:=(q27w ..).1 hle;omega
  simp only[this,cond_true]
 ·rw[if_neg hle]
  have:decide (cmpQ tn td n dd<=0)=false:=by rw[decide_eq_false_iff_not];have:=mt (q27w tn td n dd).2 hle;omega
  have e3:=q28y d hd hf h.t.b1 h.t.b2 ht.t.b1 ht.t.b2 h.t.ok ht.t.ok (by unfold leQ at hle ⊢;omega)
  simp only[this,cond_false,e3,q25z]
theorem q2hp {F:List T3} (hF:qmq (ptsL F)=0) {n dd:Int} (h:TOk n dd) {p:T3} {r:List T3} (ho:ordT F n dd=p::r):qxb (ptsL F) n dd=(p.1,0):=by
 have hi:=(qmv hF).2.2
 have e:qww n dd (ptsL F)=ordI n dd (ptsL F):=qyv hi h.pos
 have e2:qx8 (ptsL F) n dd=(ordI n dd (ptsL F),0):=by
  unfold qx8;rw[if_neg (by simpa using hF),if_neg (by simpa using h.ok),e]
 unfold ordT at ho
 unfold qxb
 rw[e2,if_neg (by simp)]
 cases hh:ordI n dd (ptsL F) with
 | nil=>rw[hh]at ho;cases ho
 | cons q l =>
  rw[hh,List.map_cons]at ho
  injection ho with h1 h2
  subst h1
  simp[toP]
theorem q2hq (d:Nat) {F:List T3} (hf:qmq (ptsL F)=0) {p:T3} (hp:p∈F):qzl d ((F,()),(p.1,()),())=some (p.1,p.2.1,p.2.2.1,0):=by
 have hF:=q27r hf
 have hh:hasB (ptsL F) p.1=true:=by
  unfold hasB;rw[List.any_eq_true];exact⟨ofP p,List.mem_map.2 ⟨p,hp,rfl⟩,by simp[ofP]⟩
 obtain⟨_,q,hq,hqi⟩:=qn7 (qmv hf).2.2 hh
 have hqp:q=ofP p:=by
  obtain⟨q',hq',rfl⟩:=List.mem_map.1 (List.mem_of_getElem? hq)
  rw[q28m hF hq' hp hqi]
 have e:qn8 (ptsL F) p.1=(ofP p,0):=by
  unfold qn8
  rw[if_neg (by simpa using hf),if_pos hh,List.getD_eq_getElem?_getD,hq,hqp];rfl
 rw[qzm _ _ rfl]
 show some ((qn8 (ptsL F) p.1).1.id,(qn8 (ptsL F) p.1).1.a,(qn8 (ptsL F) p.1).1.b,(qn8 (ptsL F) p.1).2)=_
 rw[e];rfl
theorem q2hr (d:Nat) (hd:5000<=d) {n dd:Int} {F:List T3} (h:AskOk n dd) (hf:qmq (ptsL F)=0) {p:T3} {r:List T3} (ho:ordT F n dd=p::r) :
 ∃ x y,q266 d ((n,dd,F,()),(5,0,0,0,0,0,0,()),())=some (n,dd,F,0,p.1,0,x,y,[],0):=by
 have hF:=q27r hf
 have e1:=q2hn d (by omega) h hf
 have hl:=hF.len
 have hp:p∈F:=(q28p F n dd).mem_iff.1 (by rw[ho];exact List.mem_cons_self ..)
 have e2:qzu d ((F,()),(n,dd,()),())=some (p.1,0):=by
  rw[qzv _ _ (by unfold qzt;simp only[h.t.b1,h.t.b2,Bool.and_self])]
  show some ((qxb (ptsL F) n dd).1,(qxb (ptsL F) n dd).2)=_
  rw[q2hp hf h.t ho]
 have e3:=q2hq d hf hp
 obtain⟨x,y,e4⟩:=q2hg d hd (hF.ok p hp) h
 refine⟨x,y,?_⟩
 rw[q268]
 simp only[q267,e1,obnd,show ((0:Int) != 0)=false from rfl,cond_false,q261,q260,q2bs d (show F.length<=1000 by omega),q218,q217,q214,q216,q215,show ((5:Int)==1)=false from rfl,show ((5:Int)==3)=false from rfl,show ((5:Int)==2)=false from rfl,show ((5:Int)==4)=false from rfl,show ((5:Int)==5)=true from rfl,cond_true,beq_self_eq_true,Bool.and_self,Bool.not_true,e2,e3,e4,q25z]
def rk (m k:Nat):Nat:=if h:k+1<m then min (rk m (2*k+1)) (rk m (2*k+2)) else k+1-m
termination_by m-k
theorem q2hs {m k:Nat} (h:k+1<m):rk m k=min (rk m (2*k+1)) (rk m (2*k+2)):=by rw[rk,dif_pos h]
theorem q2ht {m k:Nat} (h:m<=k+1):rk m k=k+1-m:=by rw[rk,dif_neg (by omega)]
theorem q2hu {m:Nat} (hm:1<=m):∀ (n k:Nat),m-k<=n->k+1<2*m->rk m k<m:=by
 intro n
 induction n with
 | zero=>intro k h1 h2;rw[q2ht (by omega)];omega
 | succ n ih =>
  intro k h1 h2
  by_cases hk:k+1<m
  ·have:=ih (2*k+1) (by omega) (by omega)
   have:=ih (2*k+2) (by omega) (by omega)
   rw[q2hs hk];omega
  ·rw[q2ht (by omega)];omega
theorem q2hv {m k:Nat} (h:k+1<2*m):rk m k<m:=q2hu (by omega) (m-k) k (Nat.le_refl _) h
theorem q2hw {m:Nat}:∀ (n k:Nat),k<=n->k+1<2*m->rk m 0<=rk m k:=by
 intro n
 induction n with
 | zero=>intro k h _;rw[show k=0 by omega];exact Nat.le_refl _
 | succ n ih =>
  intro k h1 h2
  by_cases h0:k=0
  ·subst h0;exact Nat.le_refl _
  ·have hp:=ih ((k-1)/2) (by omega) (by omega)
   have e:=q2hs (m:=m) (k:=(k-1)/2) (by omega)
   rcases (by omega:k=2*((k-1)/2)+1∨k=2*((k-1)/2)+2) with k1 | k1
   ·rw[← k1]at e;omega
   ·rw[← k1]at e;omega
theorem q2hx {m:Nat} (hm:1<=m):rk m 0=0:=by
 have:=q2hw (m:=m) (m-1) (m-1) (Nat.le_refl _) (by omega)
 rw[q2ht (m:=m) (k:=m-1) (by omega)]at this
 omega
structure BrAt (L N:List Di) (i:Nat):Prop where
 len:N.length+1=L.length
 val:∀ k,i<=k->k<N.length->elt zi N k=elt zi L (rk L.length k)
theorem BrAt.node {L N:List Di} {i:Nat} (h:BrAt L N i) (d:Nat) (hl:L.length<=64) {k:Nat} (hk:i<=k) (hk2:k+1<2*L.length):q1u6 d ((L,N,()),((k:Int),()),())=some (elt zi L (rk L.length k)).1:=by
 have hn:=h.len
 rw[q1u8]
 by_cases hkn:k<N.length
 ·simp only[q1u7,q269 (n:=(k:Int)-(N.length:Int)) (by omega),show decide ((k:Int)-(N.length:Int)≥0)=false by rw[decide_eq_false_iff_not];omega,cond_false,obif,inN hkn,cond_true,Int.toNat_natCast,h.val k hk hkn]
 ·have e:(k:Int)-(N.length:Int)=((k+1-L.length:Nat):Int):=by omega
  simp only[q1u7,e,wiN (show k+1-L.length<=9223372036854775807 by omega),show decide (((k+1-L.length:Nat):Int)≥0)=true by rw[decide_eq_true_eq];omega,cond_true,obif,inN (show k+1-L.length<L.length by omega),Int.toNat_natCast,q2ht (show L.length<=k+1 by omega)]
theorem BrAt.node10 {L N:List Di} {i:Nat} (h:BrAt L N i) (d:Nat) (hl:L.length<=64) {k:Nat} (hk:i<=k) (hk2:k+1<2*L.length):q1xq d ((L,N,()),((k:Int),()),())=some (elt zi L (rk L.length k)).1:=by
 have hn:=h.len
 rw[q1xs]
 by_cases hkn:k<N.length
 ·simp only[q1xr,show decide ((k:Int)<(N.length:Int))=true by rw[decide_eq_true_eq];omega,cond_true,obif,inN hkn,Int.toNat_natCast,h.val k hk hkn]
 ·have e:(k:Int)-(N.length:Int)=((k+1-L.length:Nat):Int):=by omega
  simp only[q1xr,show decide ((k:Int)<(N.length:Int))=false by rw[decide_eq_false_iff_not];omega,cond_false,e,wiN (show k+1-L.length<=9223372036854775807 by omega),cond_true,obif,inN (show k+1-L.length<L.length by omega),Int.toNat_natCast,q2ht (show L.length<=k+1 by omega)]
theorem q2hy (d:Nat) (hd:5000<=d) {F:List T3} (h:FldOk F) {p:T3} (hp:p∈F):∃ j:Nat,j<F.length/\q1uv d ((F,()),(p.1,()),())=some ((j:Int),true)/\elt ziii F j=p:=by
 obtain⟨j,hj,hx⟩:=List.mem_iff_getElem.1 hp
 have hx:F[j]?=some p:=by rw[List.getElem?_eq_getElem hj,hx]
 have e:=q2bb (F:=q1ud d) (fun a b c k=>by rw[q1uf];simp only[q1ue,q26h,obnd]) hd (by have:=h.len;omega) h.inc hx
 have e1:q1uk d ((F,()),(p.1,()),(),())=some ((j:Int),true):=by
  rw[q1uq];exact e
 refine⟨j,hj,?_,eltI hx⟩
 rw[q1ux]
 simp only[q1uw,e1,obnd]
variable {F:List T3} {n dd:Int}
theorem q2hz (d:Nat) (hd:5000<=d) (hF:FldOk F) (ht:TOk n dd) {i j:Nat} (hi:i<F.length) (hj:j<F.length):q1v2 d ((F,()),(n,dd,()),((elt zi ((ordT F n dd).map idU) i).1,()),((elt zi ((ordT F n dd).map idU) j).1,()),())=some (elt zi ((ordT F n dd).map idU) (min i j)).1:=by
 have hl:=q28s F n dd
 obtain⟨p,hp⟩:∃ p,(ordT F n dd)[i]?=some p:=⟨_,List.getElem?_eq_getElem (by omega)⟩
 obtain⟨q,hq⟩:∃ q,(ordT F n dd)[j]?=some q:=⟨_,List.getElem?_eq_getElem (by omega)⟩
 have hpF:p∈F:=(q28p F n dd).mem_iff.1 (List.mem_of_getElem? hp)
 have hqF:q∈F:=(q28p F n dd).mem_iff.1 (List.mem_of_getElem? hq)
 obtain⟨a,ha,e1,f1⟩:=q2hy d hd hF hpF
 obtain⟨b,hb,e2,f2⟩:=q2hy d hd hF hqF
 have bp:=q27l (hF.ok p hpF);have bq:=q27l (hF.ok q hqF)
 have ep:elt zi ((ordT F n dd).map idU) i=(p.1,()):=by unfold elt;rw[List.getElem?_map,hp];rfl
 have eq:elt zi ((ordT F n dd).map idU) j=(q.1,()):=by unfold elt;rw[List.getElem?_map,hq];rfl
 have e3:qv1 d ((p.1,p.2.1,p.2.2.1,()),(q.1,q.2.1,q.2.2.1,()),(n,dd,()),())=some ((qqz (ofP p) (ofP q) n dd).1,(qqz (ofP p) (ofP q) n dd).2) :=
  qv2 _ _ (by unfold qv0;simp only[ht.b1,ht.b2,Bool.and_self])
 have e4:(qqz (ofP p) (ofP q) n dd).1=decide (i<j):=by
  by_cases hid:p.1=q.1
  ·have hpq:p=q:=q28m hF hpF hqF hid
   have hij:i=j:=by
    have hn:=q2dh hF (q28p F n dd)
    exact (List.getElem?_inj (i:=i) (j:=j) (by rw[List.length_map];omega) hn).1 (by rw[List.getElem?_map,List.getElem?_map,hp,hq,hpq])
   unfold qqz
   rw[if_neg (by rw[qqw ⟨hF.ok p hpF,hF.ok q hqF,ht.ok⟩ hid];decide),hij];simp
  ·unfold qqz
   rw[if_pos (qqx ⟨hF.ok p hpF,hF.ok q hqF,ht.ok⟩ hid)]
   exact (q28t hF hp hq).symm
 rw[q1v4]
 simp only[q1v3,ep,eq,show decide (tmin p.1 q.1<0)=false by rw[decide_eq_false_iff_not];unfold tmin;split<;>omega,cond_false,e1,e2,obnd,obif,inN ha,inN hb,cond_true,Int.toNat_natCast,f1,f2,e3,e4]
 by_cases hij:i<j
 ·rw[show min i j=i by omega,ep];simp[hij]
 ·rw[show min i j=j by omega,eq];simp[hij]
theorem q2i0 (hF:FldOk F):((ordT F n dd).map idU).Nodup:=by
 have:=q2dh hF (q28p F n dd)
 have e:(ordT F n dd).map (fun p=>p.1)=((ordT F n dd).map idU).map fun x=>x.1:=by rw[List.map_map];rfl
 rw[e]at this
 exact (List.pairwise_map.1 this).imp fun {x y} k e=>k (by rw[e])
theorem q2i1 {x:Di} (h:x∈(ordT F n dd).map idU):∃ p∈F,p.1=x.1:=by
 obtain⟨p,hp,rfl⟩:=List.mem_map.1 h
 exact⟨p,(q28p F n dd).mem_iff.1 hp,rfl⟩
theorem q2i2 {L:List Di} (hn:L.Nodup):q1t7 (idsI L)=true:=by
 refine q1sh fun k hk=>?_
 unfold idsI at hk ⊢
 rw[List.length_map]at hk
 have hg:(L.map fun x=>x.1).getD k 0=(elt zi L k).1:=by rw[List.getD_eq_getElem?_getD,List.getElem?_map,q291 zi hk];rfl
 rw[hg]
 have:((L.map fun x=>x.1).take k).contains (elt zi L k).1=false:=by
  rw[← List.map_take,Bool.eq_false_iff]
  intro hc
  rw[List.contains_iff_mem]at hc
  obtain⟨y,hy,e⟩:=List.mem_map.1 hc
  exact q295 hn (q291 zi hk) (by rw[show elt zi L k=y from Prod.ext e.symm rfl];exact hy)
 rw[this];simp
theorem q2i3 (hF:FldOk F):qpk (idsI ((ordT F n dd).map idU))=true:=by
 unfold qpk
 rw[List.all_eq_true]
 intro x hx
 obtain⟨y,hy,rfl⟩:=List.mem_map.1 hx
 obtain⟨p,hp,e⟩:=q2i1 hy
 have:=q27l (hF.ok p hp)
 exact q27g (by rw[← e];omega)
theorem q2i4 (d:Nat) (hf:qmq (ptsL F)=0):q1tj d ((F,()),((ordT F n dd).map idU,()),())=some true:=by
 have hF:=q27r hf
 have hl:=hF.len
 have hk:q1rr (ptsL F) (idsI ((ordT F n dd).map idU))=true:=by
  unfold q1rr
  rw[List.all_eq_true]
  intro x hx
  obtain⟨y,hy,rfl⟩:=List.mem_map.1 hx
  obtain⟨p,hp,e⟩:=q2i1 hy
  have:hasB (ptsL F) y.1=true:=by
   unfold hasB;rw[List.any_eq_true];exact⟨ofP p,List.mem_map.2 ⟨p,hp,rfl⟩,by rw[← e];simp[ofP]⟩
  rw[this];rfl
 rw[q1tk _ _ (by
  unfold q1ti
  have h3:=(qmv hf).2.2
  simp only[qpe,h3,Bool.and_true,Bool.and_eq_true,decide_eq_true_eq]
  refine⟨by omega,?_⟩
  unfold idsI;rw[List.length_map,List.length_map,q28s];omega)]
 exact congrArg some hk
theorem q2i5 (d:Nat) (hF:FldOk F):q1ts d (((ordT F n dd).map idU,()),())=some true:=by
 have hl:=hF.len
 rw[q1tt _ _ (by
  unfold q1tr
  simp only[q2i3 hF,Bool.and_true,decide_eq_true_eq]
  unfold idsI;rw[List.length_map,List.length_map,q28s];omega)]
 exact congrArg some (q2i2 (q2i0 hF))
theorem q2i6 {k:Nat} (h:k<1000):wi (wi (2*(k:Int))+2)=((2*k+2:Nat):Int):=by
 rw[q269 (n:=2*(k:Int)) (by omega),q269 (by omega)];omega
theorem q2i7 (d:Nat) (hd:5000<=d) (hf:qmq (ptsL F)=0) (ht:TOk n dd) (h1:1<=F.length):∃ N,q1v9 d ((F,()),(n,dd,()),((ordT F n dd).map idU,()),())=some ((ordT F n dd).map idU,N,0)/\BrAt ((ordT F n dd).map idU) N 0:=by
 have hF:=q27r hf
 have hl:=hF.len
 generalize hL:(ordT F n dd).map idU=L
 have hLl:L.length=F.length:=by rw[← hL,List.length_map,q28s]
 have e1:q1tz d ((F,()),(n,dd,()),())=some 0:=by
  rw[q1u1]
  simp only[q1u0,q2hi d hf,obnd,show ((0:Int) != 0)=false from rfl,cond_false,q2hh d ht]
 have e2:=q2i4 d (n:=n) (dd:=dd) hf
 have e3:=q2i5 d (n:=n) (dd:=dd) hF
 rw[hL]at e2 e3
 have loop:∀ (i f:Nat) (N:List Di),i<=N.length->BrAt L N i->i<f->∃ N',iter (q1vb d) f ((i:Int)-1,F,n,dd,[],[],L,N)=some (L,N',0)/\BrAt L N' 0:=by
  intro i
  induction i with
  | zero =>
   intro f N hi h hff
   obtain⟨f,rfl⟩:∃ g,f=g+1:=⟨f-1,by omega⟩
   refine⟨N,?_,h⟩
   rw[iter]
   simp only[q1vb,show decide (((0:Nat):Int)-1≥0)=false from rfl,cond_false]
  | succ i ih =>
   intro f N hi h hff
   obtain⟨f,rfl⟩:∃ g,f=g+1:=⟨f-1,by omega⟩
   have hn:=h.len
   have r1:=q2hv (m:=L.length) (k:=2*i+1) (by omega)
   have r2:=q2hv (m:=L.length) (k:=2*i+2) (by omega)
   have w:=q2hz d hd hF ht (i:=rk L.length (2*i+1)) (j:=rk L.length (2*i+2)) (by omega) (by omega)
   rw[hL,← q2hs (m:=L.length) (k:=i) (by omega)]at w
   have hnew:BrAt L (N.set i ((elt zi L (rk L.length i)).1,())) i:=by
    refine⟨by rw[List.length_set];exact hn,fun k hk hk2=>?_⟩
    rw[List.length_set]at hk2
    rw[q28z zi _ _ (by omega)]
    by_cases hik:i=k
    ·rw[if_pos hik,hik]
    ·rw[if_neg hik];exact h.val k (by omega) hk2
   obtain⟨N',e,hN'⟩:=ih f _ (by rw[List.length_set];omega) hnew (by omega)
   refine⟨N',?_,hN'⟩
   rw[← e,iter]
   simp only[q1vb,show ((i+1:Nat):Int)-1=(i:Int) by omega,show decide ((i:Int)≥0)=true by rw[decide_eq_true_eq];omega,cond_true,q29z (show i<1000 by omega),q2i6 (show i<1000 by omega),h.node d (by omega) (show i+1<=2*i+1 by omega) (by omega),h.node d (by omega) (show i+1<=2*i+2 by omega) (by omega),obnd,w,obif,inN (show i<N.length by omega),Int.toNat_natCast,q269 (n:=(i:Int)-1) (by omega)]
 have h0:BrAt L (List.replicate (L.length-1) zi) (L.length-1):=⟨by rw[List.length_replicate];omega,fun k hk hk2=>by rw[List.length_replicate]at hk2;omega⟩
 obtain⟨N',e4,hN'⟩:=loop (L.length-1) d _ (by rw[List.length_replicate];omega) h0 (by omega)
 refine⟨N',?_,hN'⟩
 rw[q1vh]
 have w1:wi ((L.length:Int)-1)=((L.length-1:Nat):Int):=by rw[q269 (by omega)];omega
 have w2:wi (((List.replicate (L.length-1) zi).length:Int)-1)=((L.length-1:Nat):Int)-1:=by rw[List.length_replicate,q269 (by omega)]
 simp only[q1vg,e1,obnd,show ((0:Int) != 0)=false from rfl,cond_false,obif,show decide ((L.length:Int)<1)=false by rw[decide_eq_false_iff_not];omega,show decide ((L.length:Int)>64)=false by rw[decide_eq_false_iff_not];omega,q1ve,e2,e3,Bool.not_true,q1vd,q29d d (show L.length<=1000 by omega),w1,show mkB ((L.length-1:Nat):Int) ((L.length-1:Nat):Int)=true by unfold mkB;simp only[Bool.and_eq_true,decide_eq_true_eq];omega,cond_true,Int.toNat_natCast,w2]
 exact e4
theorem q2i8 {m k:Nat} (h:k+1<m):rk m k=rk m (2*k+1)∨rk m k=rk m (2*k+2):=by rw[q2hs h];omega
theorem q2i9 (d:Nat) {x:Int} (h:0<=x/\x<=65535):q1vt d x=some false:=by
 rw[q1vv]
 simp only[q1vu,obif,Bool.and_self,cond_true,q1vo,q1vn,show decide (x ≥ -1)=true by rw[decide_eq_true_eq];omega,show decide (x<=65535)=true by rw[decide_eq_true_eq];omega,obnd,Bool.not_true]
theorem q2ia (d:Nat) (hd:5000<=d) {L:List Di} (hl:L.length<=64) (h:∀ x∈L,0<=x.1/\x.1<=65535):q1wi d ((L,()),(),())=some true:=by
 have e:q1w0 d L=some (-1):=by
  rw[q1w6]
  simp only[q1w5,obif,Bool.and_self,cond_true]
  refine q26b (fun i=>(L,(L.length:Int),(i:Int))) _ L.length (fun i self hi=>?_) (fun self=>?_) (by omega) rfl
  ·simp only[q1w2,show decide ((i:Int)<(L.length:Int))=true by rw[decide_eq_true_eq];omega,cond_true,inN hi,obif,Int.toNat_natCast,q2i9 d (h _ (q290 zi hi)),obnd,cond_false,wiS (show i<9223372036854775807 by omega)]
  ·simp only[q1w2,show decide ((L.length:Int)<(L.length:Int))=false by simp,cond_false]
 rw[q1wk]
 simp only[q1wj,q1wd,q1wc,obif,Bool.and_self,cond_true,e,obnd]
 rfl
section
variable {L N:List Di} (h:BrAt L N 0) (hl:L.length<=64) (h1:1<=L.length) (hn:L.Nodup) (hr:∀ x∈L,0<=x.1/\x.1<=65535)
include h hl h1 hn hr
theorem q2ib (d:Nat) (hd:5000<=d) (ho:q1ts d ((L,()),())=some true):q1wp d ((L,N,()),())=some 0:=by
 have _:=hn
 have hlen:=h.len
 rw[q1wx]
 simp only[q1ww,obif,show decide ((L.length:Int)<1)=false by rw[decide_eq_false_iff_not];omega,show decide ((L.length:Int)>64)=false by rw[decide_eq_false_iff_not];omega,cond_false,show ((N.length:Int) != wi ((L.length:Int)-1))=false by rw[q269 (by omega),bne_eq_false_iff_eq];omega,ho,obnd,Bool.not_true,q1wu,q2ia d hd hl hr]
 refine q26b (fun i=>(N,(N.length:Int),(i:Int),L,N)) _ N.length (fun i self hi=>?_) (fun self=>?_) (by omega) rfl
 ·have hv:=h.val i (Nat.zero_le _) hi
  have hk:=q2i8 (m:=L.length) (k:=i) (by omega)
  have hm:=hr _ (q290 zi (l:=L) (i:=rk L.length i) (q2hv (by omega)))
  simp only[q1ws,show decide ((i:Int)<(N.length:Int))=true by rw[decide_eq_true_eq];omega,cond_true,inN hi,obif,Int.toNat_natCast,hv,q29z (show i<1000 by omega),q2i6 (show i<1000 by omega),h.node d hl (Nat.zero_le (2*i+1)) (by omega),h.node d hl (Nat.zero_le (2*i+2)) (by omega),obnd,show decide ((elt zi L (rk L.length i)).1<0)=false by rw[decide_eq_false_iff_not];omega,cond_false,q1wr,wiS (show i<9223372036854775807 by omega)]
  rcases hk with hk | hk
  ·rw[hk];simp
  ·rw[hk];simp
 ·simp only[q1ws,show decide ((N.length:Int)<(N.length:Int))=false by simp,cond_false]
theorem q2ic (d:Nat) (hd:5000<=d) (ho:q1ts d ((L,()),())=some true):q1x2 d ((L,N,()),())=some ((elt zi L 0).1,0):=by
 have e1:=q2ib h hl h1 hn hr d hd ho
 have e2:=h.node d hl (k:=0) (Nat.le_refl _) (by omega)
 rw[q2hx h1]at e2
 have hm:=hr _ (q290 zi (l:=L) (i:=0) (by omega))
 rw[q1x4]
 simp only[q1x3,e1,obnd,show ((0:Int) != 0)=false from rfl,cond_false,show q1u6 d ((L,N,()),((0:Int),()),())=_ from e2,show decide ((elt zi L 0).1≥0)=true by rw[decide_eq_true_eq];omega,cond_true]
theorem q2id (d:Nat) (hd:5000<=d):q1x9 d ((L,()),())=some false:=by
 have _:=h
 rw[q1xl]
 simp only[q1xk]
 refine q26b (fun i=>(L,(i:Int))) _ L.length (fun i self hi=>?_) (fun self=>?_) (by omega) rfl
 ·simp only[q1xi,q1xf,show decide ((i:Int)<(L.length:Int))=true by rw[decide_eq_true_eq];omega,cond_true]
  refine q2a3 (fun j=>(L,(i:Int),(j:Int))) _ i (fun j self' hj=>?_) (fun self'=>?_) d 0 (by omega) (by omega)
  ·have hne:(elt zi L j).1≠(elt zi L i).1:=fun e=>by
    have e2:elt zi L j=elt zi L i:=Prod.ext e rfl
    have:=(List.getElem?_inj (i:=j) (j:=i) (by omega) hn).1 (by rw[q291 zi (show j<L.length by omega),q291 zi hi,e2])
    omega
   have hm:=hr _ (q290 zi hi)
   simp only[q1xd,show decide ((j:Int)<(i:Int))=true by rw[decide_eq_true_eq];omega,cond_true,inN hi,inN (show j<L.length by omega),obif,Int.toNat_natCast,show decide ((elt zi L i).1≥0)=true by rw[decide_eq_true_eq];omega,q1xc,show ((elt zi L j).1==(elt zi L i).1)=false by rw[beq_eq_false_iff_ne];exact hne,cond_false,wiS (show j<9223372036854775807 by omega)]
  ·simp only[q1xd,show decide ((i:Int)<(i:Int))=false by simp,cond_false,wiS (show i<9223372036854775807 by omega)]
 ·simp only[q1xi,q1xf,show decide ((L.length:Int)<(L.length:Int))=false by simp,cond_false]
theorem q2ie (d:Nat) (hd:5000<=d):q1xx d ((L,N,()),())=some 0:=by
 have hlen:=h.len
 have e1:=q2id h hl h1 hn hr d hd
 have l2:iter (q1y2 d) d (0,L,N)=some 0:=by
  refine q26b (fun i=>((i:Int),L,N)) _ N.length (fun i self hi=>?_) (fun self=>?_) (by omega) rfl
  ·have hv:=h.val i (Nat.zero_le _) hi
   have hk:=q2i8 (m:=L.length) (k:=i) (by omega)
   have hm:=hr _ (q290 zi (l:=L) (i:=rk L.length i) (q2hv (by omega)))
   simp only[q1y2,show decide ((i:Int)<(N.length:Int))=true by rw[decide_eq_true_eq];omega,cond_true,inN hi,obif,Int.toNat_natCast,hv,q29z (show i<1000 by omega),q2i6 (show i<1000 by omega),h.node10 d hl (Nat.zero_le (2*i+1)) (by omega),h.node10 d hl (Nat.zero_le (2*i+2)) (by omega),obnd,show ((elt zi L (rk L.length i)).1 == -1)=false by rw[beq_eq_false_iff_ne];omega,cond_false,q1y1,wiS (show i<9223372036854775807 by omega)]
   rcases hk with hk | hk
   ·rw[hk];simp
   ·rw[hk];simp
  ·simp only[q1y2,show decide ((N.length:Int)<(N.length:Int))=false by simp,cond_false]
 rw[q1ya]
 simp only[q1y9,obif,show decide ((L.length:Int)<1)=false by rw[decide_eq_false_iff_not];omega,show decide ((L.length:Int)>64)=false by rw[decide_eq_false_iff_not];omega,cond_false,show ((N.length:Int) != wi ((L.length:Int)-1))=false by rw[q269 (by omega),bne_eq_false_iff_eq];omega,e1,obnd]
 refine q26b (fun i=>((L.length:Int),(i:Int),L,N)) _ L.length (fun i self hi=>?_) (fun self=>?_) (by omega) rfl
 ·have hm:=hr _ (q290 zi hi)
  simp only[q1y7,q1y4,show decide ((i:Int)<(L.length:Int))=true by rw[decide_eq_true_eq];omega,cond_true,inN hi,obif,Int.toNat_natCast,show decide ((elt zi L i).1 < -1)=false by rw[decide_eq_false_iff_not];omega,show decide ((elt zi L i).1>65535)=false by rw[decide_eq_false_iff_not];omega,cond_false,q1y0,wiS (show i<9223372036854775807 by omega)]
 ·simp only[q1y7,q1y4,show decide ((L.length:Int)<(L.length:Int))=false by simp,cond_false]
  exact l2
end
end Go.Proofs.YtfjjdnaggblaaaaGreat
namespace Go.Proofs.YtfjjdnaggblaaaaGreat
open Go Go.Tx Go.Pel
def ldB (P:List T3) (n d:Int) (i j:Nat):Bool:=leads (ofP (elt ziii P i)) (ofP (elt ziii P j)) n d
inductive Gr (P:List T3) (n d:Int) (N:List T3):Int->Nat->Nat->Prop
 | leaf (a:Nat):Gr P n d N (-1) a a
 | node (k a b:Nat):a<=k->k<b->k<N.length->(∀ j,a<=j->j<b->j≠k->ldB P n d k j=true)->Gr P n d N (elt ziii N k).2.1 a k->Gr P n d N (elt ziii N k).2.2.1 (k+1) b->Gr P n d N (k:Int) a b
section
variable {P:List T3} {n d:Int}
theorem q2if {i j k:Nat} (h:ldB P n d i j=true) (g:ldB P n d j k=true):ldB P n d i k=true:=q2dd h g
theorem q2ig {i j:Nat} (h:ldB P n d i j=true):ldB P n d j i=false:=by
 cases k:ldB P n d j i with
 | false=>rfl
 | true =>
  have e:ldB P n d i i=false:=q28k _ _ _
  rw[q2if h k]at e;cases e
theorem q2ih (hP:FldOk P) {i j:Nat} (h:i<j) (hj:j<P.length):(elt ziii P i).1<(elt ziii P j).1:=q28j hP h (q291 ziii (by omega)) (q291 ziii hj)
theorem q2ii (hP:FldOk P) {i j:Nat} (hi:i<P.length) (hj:j<P.length) (hne:i≠j) (h:ldB P n d i j=false):ldB P n d j i=true:=by
 have hid:(elt ziii P i).1≠(elt ziii P j).1:=by
  rcases Nat.lt_or_gt_of_ne hne with h1 | h1
  ·have:=q2ih hP h1 hj;omega
  ·have:=q2ih hP h1 hi;omega
 unfold ldB at h ⊢
 rw[q28l (p:=ofP (elt ziii P i)) (q:=ofP (elt ziii P j)) hid,h];rfl
theorem Gr.le {N:List T3} {i:Int} {a b:Nat} (h:Gr P n d N i a b):a<=b:=by
 cases h with
 | leaf=>exact Nat.le_refl _
 | node k a b h1 h2=>omega
theorem Gr.congr {N M:List T3} {i:Int} {a b:Nat} (h:Gr P n d N i a b):(∀ j,a<=j->j<b->j<M.length/\elt ziii M j=elt ziii N j)->Gr P n d M i a b:=by
 induction h with
 | leaf a=>exact fun _=>.leaf a
 | node k a b h1 h2 h3 h4 _ _ ih1 ih2 =>
  intro hM
  have hk:=hM k h1 h2
  refine .node k a b h1 h2 hk.1 h4 ?_ ?_
  ·rw[hk.2];exact ih1 fun j g1 g2=>hM j g1 (by omega)
  ·rw[hk.2];exact ih2 fun j g1 g2=>hM j (by omega) g2
def cntG (N:List T3) (a b:Nat) (z:Nat):Nat:=(List.range' a (b-a)).countP (fun p=>decide ((elt ziii N p).2.1=z))+(List.range' a (b-a)).countP (fun p=>decide ((elt ziii N p).2.2.1=z))
theorem q2ij (N:List T3) {a k b:Nat} (h1:a<=k) (h2:k<b) (z:Nat):cntG N a b z=cntG N a k z+cntG N (k+1) b z+((if (elt ziii N k).2.1=z then 1 else 0)+(if (elt ziii N k).2.2.1=z then 1 else 0)):=by
 have e:List.range' a (b-a)=List.range' a (k-a)++k::List.range' (k+1) (b-(k+1)):=by
  have e1:b-a=(k-a)+(b-k):=by omega
  have e2:b-k=(b-(k+1))+1:=by omega
  rw[e1,← List.range'_append_1,e2,List.range'_succ,show a+(k-a)=k by omega]
 unfold cntG
 rw[e]
 simp only[List.countP_append,List.countP_cons,decide_eq_true_eq]
 omega
theorem q2ik (N:List T3) (a z:Nat):cntG N a a z=0:=by unfold cntG;rw[Nat.sub_self];rfl
theorem Gr.once {N:List T3} {i:Int} {a b:Nat} (h:Gr P n d N i a b) (z:Nat):(a<=z->z<b->cntG N a b z+(if i=z then 1 else 0)=1)/\(z<a∨b<=z->cntG N a b z=0/\i≠z):=by
 induction h with
 | leaf a =>
  rw[q2ik]
  exact⟨fun h1 h2=>by omega,fun _=>⟨rfl,by omega⟩⟩
 | node k a b h1 h2 h3 h4 _ _ ih1 ih2 =>
  rw[q2ij N h1 h2 z]
  obtain⟨a1,a2⟩:=ih1
  obtain⟨b1,b2⟩:=ih2
  refine⟨fun z1 z2=>?_,fun hz=>?_⟩
  ·rcases Nat.lt_trichotomy z k with c | c | c
   ·obtain⟨e1,e2⟩:=b2 (Or.inl (by omega))
    have e3:=a1 z1 c
    rw[if_neg e2,if_neg (show ¬ (k:Int)=z by omega),e1];omega
   ·obtain⟨e1,e2⟩:=b2 (Or.inl (by omega))
    obtain⟨e3,e4⟩:=a2 (Or.inr (by omega))
    rw[if_neg e2,if_neg e4,e1,e3,if_pos (show (k:Int)=z by omega)]
   ·obtain⟨e3,e4⟩:=a2 (Or.inr (by omega))
    have e1:=b1 (by omega) z2
    rw[if_neg e4,if_neg (show ¬ (k:Int)=z by omega),e3];omega
  ·obtain⟨e1,e2⟩:=b2 (hz.imp (by omega) id)
   obtain⟨e3,e4⟩:=a2 (hz.imp id (by omega))
   rw[if_neg e2,if_neg e4,e1,e3]
   exact⟨rfl,by omega⟩
def hdI:List Nat->Int
 | []=>-1
 | k::_=>k
inductive Sp (P:List T3) (n d:Int) (N:List T3) (i:Nat):Nat->List Nat->Prop
 | nil:Sp P n d N i i []
 | cons (k s:Nat) (r:List Nat):s<=k->k<i->k<N.length->(∀ j,s<=j->j<i->j≠k->ldB P n d k j=true)->Gr P n d N (elt ziii N k).2.1 s k->(elt ziii N k).2.2.1=hdI r->Sp P n d N i (k+1) r->Sp P n d N i s (k::r)
theorem Sp.le {N:List T3} {i s:Nat} {es:List Nat} (h:Sp P n d N i s es):s<=i:=by
 cases h with
 | nil=>exact Nat.le_refl _
 | cons k s r h1 h2=>omega
theorem Sp.lt {N:List T3} {i s:Nat} {es:List Nat} (h:Sp P n d N i s es):∀ k∈es,s<=k/\k<i:=by
 induction h with
 | nil=>exact fun k hk=>by cases hk
 | cons k s r h1 h2 h3 h4 h5 h6 h7 ih =>
  intro j hj
  rcases List.mem_cons.1 hj with rfl | hj
  ·exact⟨h1,h2⟩
  ·have:=ih j hj;omega
theorem Sp.gr {N:List T3} {i s:Nat} {es:List Nat} (h:Sp P n d N i s es):Gr P n d N (hdI es) s i:=by
 induction h with
 | nil=>exact .leaf _
 | cons k s r h1 h2 h3 h4 h5 h6 h7 ih=>exact .node k s i h1 h2 h3 h4 h5 (by rw[h6];exact ih)
theorem q2il (hP:FldOk P) {N N':List T3} {i:Nat} (hi:i<P.length) (hN1:N.length=i) (hN2:i<N'.length) {ps:List Nat} (hps:∀ k∈ps,ldB P n d k i=false) (hI1:(elt ziii N' i).2.1=hdI ps) (hI2:(elt ziii N' i).2.2.1=-1):∀ (es:List Nat) (s:Nat),Sp P n d N i s (es++ps)->(∀ k,es.getLast?=some k->ldB P n d k i=true) ->
 (∀ j,j<i->(∀ k,es.getLast?=some k->j≠k)->elt ziii N' j=elt ziii N j)->(∀ k,es.getLast?=some k->(elt ziii N' k).2.1=(elt ziii N k).2.1/\(elt ziii N' k).2.2.1=(i:Int))->Sp P n d N' (i+1) s (es ++ [i])
 | [], s, h, _, hN, _ => by
  have h':Sp P n d N i s ps:=h
  have hN':∀ j,j<i->elt ziii N' j=elt ziii N j:=fun j hj=>hN j hj fun k hk=>by cases hk
  refine .cons i s [] h'.le (Nat.lt_succ_self _) hN2 (fun j j1 j2 j3=>?_) (by rw[hI1];exact h'.gr.congr fun j j1 j2=>⟨by omega,hN' j j2⟩) hI2 .nil
  cases h' with
  | nil=>omega
  | cons k _ r h1 h2 h3 h4 h5 h6 h7 =>
   have hk:=q2ii hP (by omega) hi (by omega) (hps k (List.mem_cons_self ..))
   by_cases hjk:j=k
   ·subst hjk;exact hk
   ·exact q2if hk (h4 j j1 (by omega) hjk)
 | [k], s, h, hl, hN, hL => by
  cases h with
  | cons _ _ _ h1 h2 h3 h4 h5 h6 h7 =>
   have hN':∀ j,j<i->j≠k->elt ziii N' j=elt ziii N j:=fun j hj hne=>hN j hj fun k' hk'=>by injection hk' with hk';rw[← hk'];exact hne
   have hk:=hl k rfl
   obtain⟨l1,l2⟩:=hL k rfl
   have h7':Sp P n d N i (k+1) ps:=h7
   refine .cons k s [i] h1 (by omega) (by omega) (fun j j1 j2 j3=>?_) (by rw[l1];exact h5.congr fun j j1 j2=>⟨by omega,hN' j (by omega) (by omega)⟩) l2 ?_
   ·by_cases hji:j=i
    ·subst hji;exact hk
    ·exact h4 j j1 (by omega) j3
   ·refine .cons i (k+1) [] h7'.le (Nat.lt_succ_self _) hN2 (fun j j1 j2 j3=>?_) (by rw[hI1];exact h7'.gr.congr fun j j1 j2=>⟨by omega,hN' j j2 (by omega)⟩) hI2 .nil
    cases h7' with
    | nil=>omega
    | cons m _ r g1 g2 g3 g4 g5 g6 g7 =>
     have hm:=q2ii hP (by omega) hi (by omega) (hps m (List.mem_cons_self ..))
     by_cases hjm:j=m
     ·subst hjm;exact hm
     ·exact q2if hm (g4 j j1 (by omega) hjm)
 | k::k2::r, s, h, hl, hN, hL => by
  have hlast:(k::k2::r).getLast?=(k2::r).getLast?:=List.getLast?_cons_cons
  rw[hlast]at hl hN hL
  obtain⟨e,he⟩:∃ e,(k2::r).getLast?=some e:=by
   cases h9:(k2::r).getLast? with
   | none=>simp at h9
   | some e=>exact⟨e,rfl⟩
  have hmem:e∈k2::r:=List.mem_of_getLast? he
  cases h with
  | cons _ _ _ h1 h2 h3 h4 h5 h6 h7 =>
   have h7':Sp P n d N i (k+1) ((k2::r)++ps):=h7
   have ha:=h7'.lt e (List.mem_append_left _ hmem)
   have hN':∀ j,j<=k->elt ziii N' j=elt ziii N j:=fun j hj=>hN j (by omega) fun k' hk'=>by rw[he]at hk';injection hk' with hk';omega
   have hk:ldB P n d k i=true:=q2if (h4 e (by omega) ha.2 (by omega)) (hl e he)
   refine .cons k s _ h1 (by omega) (by omega) (fun j j1 j2 j3=>?_) (by rw[hN' k (Nat.le_refl _)];exact h5.congr fun j j1 j2=>⟨by omega,hN' j (by omega)⟩) (by rw[hN' k (Nat.le_refl _),h6];rfl) (q2il hP hi hN1 hN2 hps hI1 hI2 (k2::r) (k+1) h7' hl hN hL)
   by_cases hji:j=i
   ·subst hji;exact hk
   ·exact h4 j j1 (by omega) j3
def laid (N:List T3) (es:List Nat) (i:Nat) (y:T3):List T3 :=
 (match es.getLast? with
  | some k=>N.set k ((elt ziii N k).1,(elt ziii N k).2.1,(i:Int),())
  | none=>N) ++ [y]
theorem q2im (N:List T3) (es:List Nat) (i:Nat) (y:T3):(laid N es i y).length=N.length+1:=by
 unfold laid;split<;>simp
theorem q2in {N:List T3} {es:List Nat} {i:Nat} {y:T3} (h:N.length=i):elt ziii (laid N es i y) i=y:=by
 subst h
 unfold laid
 split
 ·rename_i k _
  have:=q2ak ziii (l:=N.set k ((elt ziii N k).1,(elt ziii N k).2.1,(N.length:Int),())) (x:=y)
  rwa[List.length_set]at this
 ·exact q2ak ziii
theorem q2io {N:List T3} {es:List Nat} {i:Nat} {y:T3} {j:Nat} (h:j<N.length):elt ziii (laid N es i y) j=if es.getLast?=some j then ((elt ziii N j).1,(elt ziii N j).2.1,(i:Int),()) else elt ziii N j:=by
 unfold laid
 split
 ·rename_i k hk'
  rw[q2aj _ (by rw[List.length_set];exact h)]
  by_cases hkj:k=j
  ·subst hkj
   rw[q28z _ _ _ h,if_pos rfl,if_pos hk']
  ·rw[if_neg (fun e=>hkj (by rw[hk']at e;injection e))]
   unfold elt;rw[List.getElem?_set_ne hkj]
 ·rename_i hk'
  rw[if_neg (by rw[hk'];simp),q2aj _ h]
theorem Gr.leader (hP:FldOk P) {N:List T3} {r:Int} (h:Gr P n d N r 0 P.length) {p:T3} {q:List T3} (ho:ordT P n d=p::q):∃ k:Nat,r=(k:Int)/\k<P.length/\k<N.length/\elt ziii P k=p:=by
 have hl:=q28s P n d
 rw[ho,List.length_cons]at hl
 generalize hb:P.length=b at h
 cases h with
 | leaf=>omega
 | node k _ _ h1 h2 h3 h4 h5 h6 =>
  refine⟨k,rfl,h2,h3,?_⟩
  have hp:p∈P:=(q28p P n d).mem_iff.1 (by rw[ho];exact List.mem_cons_self ..)
  obtain⟨j,hj,he⟩:=List.mem_iff_getElem.1 hp
  have hej:elt ziii P j=p:=by unfold elt;rw[List.getElem?_eq_getElem hj,he];rfl
  by_cases hjk:j=k
  ·rw[← hjk];exact hej
  ·have hk4:=h4 j (Nat.zero_le _) (by omega) hjk
   have hkm:elt ziii P k∈ordT P n d:=(q28p P n d).mem_iff.2 (q290 ziii (by omega))
   have hpw:=q28r hP n d
   rw[ho]at hkm hpw
   rcases List.mem_cons.1 hkm with e | e
   ·exact e
   ·have h7:=((List.pairwise_cons.1 hpw).1 _ e).2
    have h8:ldB P n d j k=true:=by unfold ldB;rw[hej];exact h7
    rw[q2ig hk4]at h8;cases h8
end
variable {P:List T3} {n dd:Int}
def upL (k:Nat):List Di:=(List.range k).map fun (j:Nat)=>((j:Int),())
theorem q2ip (k:Nat):(upL k).length=k:=by unfold upL;rw[List.length_map,List.length_range]
theorem q2iq (k:Nat):upL k ++ [((k:Int),())]=upL (k+1):=by unfold upL;rw[List.range_succ,List.map_append];rfl
theorem q2ir {k j:Nat} (h:j<k):elt zi (upL k) j=((j:Int),()):=by unfold elt upL;rw[List.getElem?_map,List.getElem?_range h];rfl
theorem q2is (d:Nat) {N:List T3} (hn:N.length<=1000) (root:Int) {i:Int} {a b:Nat} (h:Gr P n dd N i a b):∀ f,b-a<f->q2gc d f (((root,N,()),(i,()),()),(),upL a)=some (upL b):=by
 induction h with
 | leaf a =>
  intro f hf
  obtain⟨g,rfl⟩:∃ g,f=g+1:=⟨f-1,by omega⟩
  show q2ga d (q2gc d g) (((root,N,()),((-1:Int),()),()),(),upL a)=_
  simp only[q2ga,q2fu,q2fy,q2g2,Dt.eval,show decide ((-1:Int)<0)=true from rfl,cond_true]
 | node k a b h1 h2 h3 h4 _ _ ih1 ih2 =>
  intro f hf
  obtain⟨g,rfl⟩:∃ g,f=g+1:=⟨f-1,by omega⟩
  have e1:=ih1 g (by omega)
  have e2:=ih2 g (by omega)
  have c1:decide ((k:Int)<0)=false:=by rw[decide_eq_false_iff_not];omega
  have c2:decide ((a:Int)>(N.length:Int))=false:=by rw[decide_eq_false_iff_not];omega
  have ap:apB k (List.length ([((k:Int),())]:List Di))=true:=Nat.ble_eq_true_of_le (show k+1<=100000 by omega)
  show q2ga d (q2gc d g) (((root,N,()),((k:Int),()),()),(),upL a)=_
  simp only[q2ga,q2fu,q2fy,q2g4,q2g6,q2g8,q2fo,Dt.eval,q2ip,c1,cond_false,c2,inN h3,cond_true,Int.toNat_natCast,e1,ap,q2iq,e2]
def belL (m:Nat) (g:Nat->Nat):List Di:=(List.range m).map fun (z:Nat)=>(((g z:Nat):Int),())
theorem q2it (m:Nat) (g:Nat->Nat):(belL m g).length=m:=by unfold belL;rw[List.length_map,List.length_range]
theorem q2iu {m:Nat} {g:Nat->Nat} {k:Nat} (h:k<m):(belL m g)[k]?=some (((g k:Nat):Int),()):=by
 unfold belL;rw[List.getElem?_map,List.getElem?_range h];rfl
def bump (g:Nat->Nat) (l:Int) (z:Nat):Nat:=g z+if l=z then 1 else 0
theorem q2iv {m:Nat} {g:Nat->Nat} {k:Nat}:(belL m g).set k (((g k+1:Nat):Int),())=belL m (bump g k):=by
 refine List.ext_getElem? fun j=>?_
 rcases Nat.lt_or_ge j m with hj | hj
 ·rw[q2iu hj]
  by_cases e:k=j
  ·subst e
   rw[List.getElem?_set_self (by rw[q2it];exact hj)]
   unfold bump;rw[if_pos rfl]
  ·rw[List.getElem?_set_ne e,q2iu hj]
   unfold bump;rw[if_neg (by omega)];rfl
 ·rw[List.getElem?_eq_none (by rw[List.length_set,q2it];exact hj),List.getElem?_eq_none (by rw[q2it];exact hj)]
theorem q2iw {g:Nat->Nat} {l:Int} (h:l<0):bump g l=g:=by
 funext z;unfold bump;rw[if_neg (by omega)];rfl
theorem q2ix {X:Type} (F:List Di->Option X) {m:Nat} (g:Nat->Nat) {l:Int} (h1:-1<=l) (h2:l<m) (hg:∀ z,g z<=100000) :
 (bif decide (l≥0) then (obif (inB l (belL m g).length) (obif (inB l (belL m g).length) (F (List.set (belL m g) l.toNat (wi ((elt zi (belL m g) l.toNat).1+1),()))) none) none) else F (belL m g))=F (belL m (bump g l)):=by
 by_cases h:l≥0
 ·obtain⟨k,rfl⟩:∃ k:Nat,l=k:=⟨l.toNat,by omega⟩
  have hk:=hg k
  simp only[h,decide_eq_true,cond_true,q2it,inN (show k<m by omega),obif,Int.toNat_natCast,eltI (z:=zi) (q2iu (show k<m by omega)),wiS (show g k<9223372036854775807 by omega),q2iv]
 ·simp only[h,decide_false,cond_false,q2iw (show l<0 by omega)]
theorem q2iy (N:List T3) (i:Nat):cntG N 0 (i+1)=bump (bump (cntG N 0 i) (elt ziii N i).2.1) (elt ziii N i).2.2.1:=by
 funext z
 rw[q2ij N (Nat.zero_le i) (Nat.lt_succ_self i),q2ik]
 unfold bump;omega
theorem q2iz (N:List T3) (a b z:Nat):cntG N a b z<=2*(b-a):=by
 have h1:=List.countP_le_length (p:=fun p=>decide ((elt ziii N p).2.1=(z:Int))) (l:=List.range' a (b-a))
 have h2:=List.countP_le_length (p:=fun p=>decide ((elt ziii N p).2.2.1=(z:Int))) (l:=List.range' a (b-a))
 rw[List.length_range']at h1 h2
 unfold cntG;omega
def lkI (N:List T3) (i:Int):Prop:=-1<=i/\i<N.length
theorem Gr.top {N:List T3} {i:Int} {a b:Nat} (h:Gr P n dd N i a b) (hn:b<=N.length):lkI N i:=by
 cases h with
 | leaf=>exact⟨Int.le_refl _,by omega⟩
 | node k a b h1 h2 h3=>exact⟨by omega,by omega⟩
theorem Gr.links {N:List T3} {i:Int} {a b:Nat} (h:Gr P n dd N i a b) (hn:b<=N.length):∀ j,a<=j->j<b->lkI N (elt ziii N j).2.1/\lkI N (elt ziii N j).2.2.1:=by
 induction h with
 | leaf a=>intro j h1 h2;omega
 | node k a b h1 h2 h3 h4 g1 g2 ih1 ih2 =>
  intro j j1 j2
  rcases Nat.lt_trichotomy j k with c | c | c
  ·exact ih1 (by omega) j j1 c
  ·subst c;exact⟨g1.top (by omega),g2.top hn⟩
  ·exact ih2 hn j c j2
theorem q2j0 (d:Nat) (hd:5000<=d) {N:List T3} (hn:N.length<=64) {r:Int} (h:Gr P n dd N r 0 N.length):q2f3 d ((r,N,()),())=some true:=by
 have hl:=h.links (Nat.le_refl _)
 have ho:∀ z,z<N.length->cntG N 0 N.length z=if r=z then 0 else 1:=fun z hz=>by
  have:=(h.once z).1 (Nat.zero_le _) hz
  by_cases e:r=z
  ·rw[if_pos e]at this ⊢;omega
  ·rw[if_neg e]at this ⊢;omega
 have l2:iter (q2f9 d) d (0,r,N,belL N.length (cntG N 0 N.length))=some true:=by
  refine q26b (fun i=>((i:Int),r,N,belL N.length (cntG N 0 N.length))) _ N.length (fun i self hi=>?_) (fun self=>?_) (by omega) rfl
  ·have hoi:=ho i hi
   have hc:decide ((i:Int)<(N.length:Int))=true:=by rw[decide_eq_true_eq];omega
   by_cases e:(i:Int)=r
   ·rw[if_pos e.symm]at hoi
    simp only[q2f9,q2f8,q2it,hc,cond_true,inN hi,obif,Int.toNat_natCast,eltI (z:=zi) (q2iu hi),hoi,show ((i:Int)==r)=true by simpa using e,show ((i:Int) != r)=false by simpa using e,show ((((0:Nat):Int)) != 0)=false from rfl,cond_false,wiS (show i<9223372036854775807 by omega)]
   ·rw[if_neg (fun k=>e k.symm)]at hoi
    simp only[q2f9,q2f8,q2it,hc,cond_true,inN hi,obif,Int.toNat_natCast,eltI (z:=zi) (q2iu hi),hoi,show ((i:Int)==r)=false by simpa using e,show ((i:Int) != r)=true by simpa using e,show ((((1:Nat):Int)) != 1)=false from rfl,cond_false,wiS (show i<9223372036854775807 by omega)]
  ·simp only[q2f9,q2it,show decide ((N.length:Int)<(N.length:Int))=false by simp,cond_false]
 have hz:List.replicate N.length zi=belL N.length (cntG N 0 0):=by
  refine List.ext_getElem? fun j=>?_
  rcases Nat.lt_or_ge j N.length with hj | hj
  ·rw[q2iu hj,List.getElem?_replicate,if_pos hj,q2ik];rfl
  ·rw[List.getElem?_eq_none (by rw[List.length_replicate];exact hj),List.getElem?_eq_none (by rw[q2it];exact hj)]
 rw[q2fh]
 simp only[q2fg,obif,show mkB (N.length:Int) (N.length:Int)=true by unfold mkB;simp only[Bool.and_eq_true,decide_eq_true_eq];omega,cond_true,Int.toNat_natCast,hz]
 refine q26b (fun i=>((i:Int),r,N,belL N.length (cntG N 0 i))) _ N.length (fun i self hi=>?_) (fun self=>?_) (by omega) rfl
 ·obtain⟨l1,l2⟩:=hl i (Nat.zero_le _) hi
  have hcl:=q2iz N 0 i
  have s1:=q2ix (fun y=>q2f7 d self ((i:Int),r,N,y)) (m:=N.length) (cntG N 0 i) l1.1 l1.2 (fun z=>by have:=hcl z;omega)
  have s2:=q2ix (fun y=>q2f6 d self ((i:Int),r,N,y)) (m:=N.length) (bump (cntG N 0 i) (elt ziii N i).2.1) l2.1 l2.2 (fun z=>by have:=hcl z;unfold bump;split<;>omega)
  show q2fe d self ((i:Int),r,N,belL N.length (cntG N 0 i))=self (((i+1:Nat):Int),r,N,belL N.length (cntG N 0 (i+1)))
  rw[q2iy]
  unfold q2fe q2fb
  simp only[show decide ((i:Int)<(N.length:Int))=true by rw[decide_eq_true_eq];omega,cond_true,inN hi,obif,Int.toNat_natCast]
  refine Eq.trans ?_ (s1.trans ?_)
  ·rfl
  ·unfold q2f7
   simp only[inN hi,obif,cond_true,Int.toNat_natCast]
   refine Eq.trans ?_ (s2.trans ?_)
   ·rfl
   ·simp only[q2f6,wiS (show i<9223372036854775807 by omega)]
 ·simp only[q2fe,q2fb,show decide ((N.length:Int)<(N.length:Int))=false by simp,cond_false]
  exact l2
theorem q2j1 (d:Nat) {N:List T3} {r i:Int} (h:lkI N i):q2ew d ((r,N,()),(i,()),())=some true:=by
 rw[q2ey]
 simp only[q2ex,obif,show decide (i ≥ -1)=true by rw[decide_eq_true_eq];exact h.1,show decide (i<(N.length:Int))=true by rw[decide_eq_true_eq];exact h.2,cond_true]
theorem q2j2 (d:Nat) (hd:5000<=d) (hP:FldOk P) {N:List T3} {r:Int} (h:Gr P n dd N r 0 P.length) (hl:N.length=P.length) (hid:∀ j,j<P.length->(elt ziii N j).1=(elt ziii P j).1) (h1:1<=P.length):q2gx d ((r,N,()),())=some 0:=by
 have hlen:=hP.len
 rw[← hl]at h
 have e1:=q2j0 d hd (by omega) h
 have e2:q2gd d (((r,N,()),(r,()),()),(),[])=some (upL N.length):=q2is d (by omega) r h d (by omega)
 have hr:=h.top (Nat.le_refl _)
 have hr0:r ≠ -1:=by
  intro e
  have:=(h.once 0).1 (Nat.le_refl _) (by omega)
  generalize hb:N.length=b at h
  cases h with
  | leaf=>omega
  | node k=>omega
 have hk:=h.links (Nat.le_refl _)
 have l2:iter (q2h1 d) d (1,r,N,upL N.length)=some 0:=by
  refine q2a3 (fun i=>(((i+1:Nat):Int),r,N,upL N.length)) _ (N.length-1) (fun i self hi=>?_) (fun self=>?_) d 0 (by omega) (by omega)
  ·have hi1:i+1<N.length:=by omega
   have hlt:=q2ih hP (show i<i+1 by omega) (by omega)
   rw[← hid i (by omega),← hid (i+1) (by omega)]at hlt
   simp only[q2h1,q2ip,show decide (((i+1:Nat):Int)<(N.length:Int))=true by rw[decide_eq_true_eq];omega,cond_true,show wi (((i+1:Nat):Int)-1)=(i:Int) by rw[q269 (by omega)];omega,inN (show i<N.length by omega),inN hi1,obif,Int.toNat_natCast,q2ir (show i<N.length by omega),q2ir hi1,show decide ((elt ziii N i).1≥(elt ziii N (i+1)).1)=false by rw[decide_eq_false_iff_not];omega,cond_false,wiS (show i+1<9223372036854775807 by omega)]
  ·simp only[q2h1,q2ip,show decide (((N.length-1+1:Nat):Int)<(N.length:Int))=false by rw[decide_eq_false_iff_not];omega,cond_false]
 rw[q2ha]
 simp only[q2h9,show decide ((N.length:Int)>64)=false by rw[decide_eq_false_iff_not];omega,cond_false,q2j1 d hr,obnd,obif,Bool.not_true,show (r==(-1:Int))=false by simpa using hr0,show ((N.length:Int)==0)=false by rw[beq_eq_false_iff_ne];omega,show (false==false)=true from rfl]
 refine q26b (fun i=>((i:Int),r,N)) _ N.length (fun i self hi=>?_) (fun self=>?_) (by omega) rfl
 ·obtain⟨k1,k2⟩:=hk i (Nat.zero_le _) hi
  have hb:=q27l (hP.ok _ (q290 ziii (show i<P.length by omega)))
  rw[← hid i (by omega)]at hb
  simp only[q2h7,q2h4,q2h0,show decide ((i:Int)<(N.length:Int))=true by rw[decide_eq_true_eq];omega,cond_true,inN hi,obif,Int.toNat_natCast,q2j1 d k1,q2j1 d k2,obnd,Bool.not_true,cond_false,show decide ((elt ziii N i).1<0)=false by rw[decide_eq_false_iff_not];omega,show decide ((elt ziii N i).1>65535)=false by rw[decide_eq_false_iff_not];omega,wiS (show i<9223372036854775807 by omega)]
 ·simp only[q2h7,q2h4,q2h3,show decide ((N.length:Int)<(N.length:Int))=false by simp,cond_false,e1,obnd,obif,Bool.not_true,q2gl,q2gk,q2gs,q2gr,e2,q2ip,beq_self_eq_true]
  exact l2
end Go.Proofs.YtfjjdnaggblaaaaGreat
namespace Go.Proofs.YtfjjdnaggblaaaaGreat
open Go Go.Tx Go.Proofs.Tryz
set_option maxRecDepth 100000
set_option maxHeartbeats 0
noncomputable section
abbrev q2j3:Type:=Unit
abbrev q2j4:Type:=Bool
noncomputable def q2j5 (d:Nat):Ent:=⟨tysT,(orc [(q1hv d).s,(q1jw d).s,(q1l9 d).s]),f6,mkPl [(1,(.box [.any,.any,.own Riii,.any,.own Riii,.own Ri,.own Rb,.own Ri,.own qil,.own Ri,.own Riii])),(3,(.box [.any,.any,.own Riii,.any,.own Riii,.val Ri,.val Rb,.val Ri,.own qil,.own Ri,.own Riii]))] [([0],[]),([1],[1,2]),([2],[2,3,4,5]),([3],[2,4,5,6,7]),([4],[0])] [] [],d,6,[],.undef,[.bo]⟩
theorem q2j6 (d:Nat):COK prog (q2j5 d).s:=Ent.k mixed tys (qeo (ac1 (q1hw d) (ac1 (q1jx d) (ac1 (q1la d) ac0)))) ⟨by kernel_rfl,by kernel_rfl,by kernel_rfl⟩
noncomputable def q2j7 (d:Nat) (x:q2j3):Option q2j4:=(q2j5 d).F x
def q2j8 (d:Nat):q2j3->Option q2j4:=fun _ =>
 (obnd (q1hx d ((([(1,0,1,()),(2,3,0,())]:List Diii),()),(0,1,()),())) fun (r1a,r1b,r1c,r1d,r1e,r1f,r1g,r1h,r1i,r1j,r1k,r1l)=>(obnd (q1jy d ((r1a,r1b,r1c,r1d,r1e,r1f,r1g,r1h,r1i,r1j,r1k,()),(1,2,()),())) fun (r2a,r2b,r2c,r2d,r2e,r2f,r2g,r2h,r2i,r2j,r2k,r2l,r2m)=>(obnd (q1lb d ((r2a,r2b,r2c,r2d,r2e,r2f,r2g,r2h,r2i,r2j,r2k,()),())) fun (r3a,r3b,_,_,_,r3f)=>(obif (r1l==0) (obif (r2m==0) (obif (r2l==0) (obif (r3f==0) (some ((r3a==3)&&((r3b==1)&&true))) (some false)) (some false)) (some false)) (some false)))))
theorem q2j9 (d:Nat) (x:q2j3):q2j7 d x=q2j8 d x:=by kernel_rfl
abbrev q2ja:Type:=qiv×DLiE×Di×Unit
abbrev q2jb:Type:=Int×Int×List Diii×Int×List Diii×List Di×List Db×List Di×List qim×List Di×List Diii×Bool
noncomputable def q2jc (d:Nat):Ent:=⟨tysT,(orc [(q1jw d).s,(q1pp d).s,(q1l2 d).s]),f45,mkPl [(1,(.val Ri)),(3,(.box [.any,.any,.val Riii,.any,.val Riii,.val Ri,.val Rb,.val Ri,.val qil,.val Ri,.val Riii])),(6,(.box [.any,.any,.val Riii,.any,.val Riii,.val Ri,.val Rb,.val Ri,.val qil,.val Ri,.val Riii])),(10,(.box [.any,.any,.own Riii,.any,.own Riii,.val Ri,.val Rb,.val Ri,.own qil,.own Ri,.own Riii])),(12,(.own Rii)),(14,(.box [.any,.any,.own Riii,.any,.own Riii,.val Ri,.val Rb,.val Ri,.own qil,.own Ri,.own Riii]))] [([0],[1,2,3,6]),([1,8,9],[1,2,3,6,8]),([2],[1,2,3,6,8,22]),([3],[1,2,3,6,8,9]),([4],[1,2,3,6,8,67]),([5],[1,2,3,6,8,10,11]),([6],[1,2,3,6,8,10,86]),([10,12],[1,2,3,6,12]),([11],[1,2,3,6,12,103]),([13],[1,2,3,6,12,122]),([14],[3,6,12]),([15,17,21],[3,6,12,13]),([16],[3,6,12,13,139]),([18],[3,6,12,13,14,16]),([19],[3,6,12,13,14,158]),([22],[6,7])] [] [(16,[3,6,12,13]),(2,[1,2,3,6,8])],d,45,[.row qiu true,.row RLiE false,.row Ri false],(.tup [(.agg [.undef,.undef,.undef,.undef,.undef,.undef,.undef,.undef,.undef,.undef,.undef]),.undef]),[.i .i64,.i .i64,.z Riii,.i .i64,.z Riii,.z Ri,.z Rb,.z Ri,.z qil,.z Ri,.z Riii,.bo]⟩
theorem q2jd (d:Nat):COK prog (q2jc d).s:=Ent.k mixed tys (qeo (ac1 (q1jx d) (ac1 (q1pq d) (ac1 (q1l3 d) ac0)))) ⟨by kernel_rfl,by kernel_rfl,by kernel_rfl⟩
noncomputable def q2je (d:Nat) (x:q2ja):Option q2jb:=(q2jc d).F x
abbrev q2jf:Type:=Int×Int×Int×List Diii×Int×List Diii×List Di×List Db×List Di×List qim×List Di×List Diii×Int×Int×List Diii×Int×List Diii×List Di×List Db×List Di×List qim×List Di×List Diii×List Dii
abbrev q2jg:Type:=List Di×Int×Int×Int×Int×List Diii×Int×List Diii×List Di×List Db×List Di×List qim×List Di×List Diii×Int×Int×List Diii×Int×List Diii×List Di×List Db×List Di×List qim×List Di×List Diii
def q2jh (d:Nat) (self1:q2jg->Option q2jb):(List Di×Int×Int×Bool×Int×Int×List Diii×Int×List Diii×List Di×List Db×List Di×List qim×List Di×List Diii×Int×Int×List Diii×Int×List Diii×List Di×List Db×List Di×List qim×List Di×List Diii×Int×Int×Int×List Di×List Db×List Di×List Diii×List Diii×List qim×List Di×List Diii)->Option q2jb:=fun (ya,yb,yc,yd,_,_,_,_,_,_,_,_,_,_,_,yp,yq,yr,ys,yt,yu,yv,yw,yx,yy,yz,yaa,yab,yac,yad,yae,yaf,yag,yah,yai,yaj,yak) =>
 (bif yd then none else (self1 (ya,yb,yc,yaa,yab,yag,yac,yah,yad,yae,yaf,yai,yaj,yak,yp,yq,yr,ys,yt,yu,yv,yw,yx,yy,yz)))
def q2ji (d:Nat) (self1:q2jg->Option q2jb):(List Di×Int×Int×Bool×Int×Int×List Diii×Int×List Diii×List Di×List Db×List Di×List qim×List Di×List Diii×Int×Int×List Diii×Int×List Diii×List Di×List Db×List Di×List qim×List Di×List Diii)->Option q2jb:=fun (ya,yb,yc,yd,ye,yf,yg,yh,yi,yj,yk,yl,ym,yn,yo,yp,yq,yr,ys,yt,yu,yv,yw,yx,yy,yz) =>
 (bif yd then (obif (inB yc yi.length) (obnd (q1l4 d ((ye,yf,yg,yh,yi,yj,yk,yl,ym,yn,yo,()),((elt ziii yi yc.toNat).1,()),())) fun (r6a,r6b,r6c,r6d,r6e,r6f,r6g,r6h,r6i,r6j,r6k,r6l)=>(obif (r6l != 0) (q2jh d self1 (ya,yb,yc,true,ye,yf,yg,yh,yi,yj,yk,yl,ym,yn,yo,yp,yq,yr,ys,yt,yu,yv,yw,yx,yy,yz,r6a,r6b,r6d,r6f,r6g,r6h,r6c,r6e,r6i,r6j,r6k)) (obnd (q1pr d ((r6a,r6b,r6c,r6d,r6e,r6f,r6g,r6h,r6i,r6j,r6k,()),())) fun r7=>(q2jh d self1 (ya,yb,yc,(r7 != 0),ye,yf,yg,yh,yi,yj,yk,yl,ym,yn,yo,yp,yq,yr,ys,yt,yu,yv,yw,yx,yy,yz,r6a,r6b,r6d,r6f,r6g,r6h,r6c,r6e,r6i,r6j,r6k))))) none) else (self1 (ya,yb,(wi (yc+1)),ye,yf,yg,yh,yi,yj,yk,yl,ym,yn,yo,yp,yq,yr,ys,yt,yu,yv,yw,yx,yy,yz)))
def q2jj (d:Nat) (self2:q2jf->Option q2jb):(Int×Bool×Int×Int×List Diii×Int×List Diii×List Di×List Db×List Di×List qim×List Di×List Diii×Int×Int×List Diii×Int×List Diii×List Di×List Db×List Di×List qim×List Di×List Diii×List Dii×Int×Int×Int×List Di×List Db×List Di×List Diii×List Diii×List qim×List Di×List Diii)->Option q2jb:=fun (ya,yb,_,_,_,_,_,_,_,_,_,_,_,yn,yo,yp,yq,yr,ys,yt,yu,yv,yw,yx,yy,yz,yaa,yab,yac,yad,yae,yaf,yag,yah,yai,yaj) =>
 (bif yb then none else (self2 ((wi (ya+1)),yz,yaa,yaf,yab,yag,yac,yad,yae,yah,yai,yaj,yn,yo,yp,yq,yr,ys,yt,yu,yv,yw,yx,yy)))
def q2jk (d:Nat) (self2:q2jf->Option q2jb):q2jf->Option q2jb:=fun (x2a,x2b,x2c,x2d,x2e,x2f,x2g,x2h,x2i,x2j,x2k,x2l,x2m,x2n,x2o,x2p,x2q,x2r,x2s,x2t,x2u,x2v,x2w,x2x) =>
 (bif (decide (x2a<(x2x.length:Int))) then (obif (inB x2a x2x.length) (let e12:=(elt zii x2x x2a.toNat);(obnd (q1jy d ((x2b,x2c,x2d,x2e,x2f,x2g,x2h,x2i,x2j,x2k,x2l,()),(e12.1,e12.2.1,()),())) fun (r13a,r13b,r13c,r13d,r13e,r13f,r13g,r13h,r13i,r13j,r13k,_,r13m)=>(obif (r13m != 0) (q2jj d self2 (x2a,true,x2b,x2c,x2d,x2e,x2f,x2g,x2h,x2i,x2j,x2k,x2l,x2m,x2n,x2o,x2p,x2q,x2r,x2s,x2t,x2u,x2v,x2w,x2x,r13a,r13b,r13d,r13f,r13g,r13h,r13c,r13e,r13i,r13j,r13k)) (obnd (q1pr d ((r13a,r13b,r13c,r13d,r13e,r13f,r13g,r13h,r13i,r13j,r13k,()),())) fun r14=>(q2jj d self2 (x2a,(r14 != 0),x2b,x2c,x2d,x2e,x2f,x2g,x2h,x2i,x2j,x2k,x2l,x2m,x2n,x2o,x2p,x2q,x2r,x2s,x2t,x2u,x2v,x2w,x2x,r13a,r13b,r13d,r13f,r13g,r13h,r13c,r13e,r13i,r13j,r13k)))))) none) else some (x2b,x2c,x2d,x2e,x2f,x2g,x2h,x2i,x2j,x2k,x2l,true))
def q2jl:q2jf->St:=fun (x2a,x2b,x2c,x2d,x2e,x2f,x2g,x2h,x2i,x2j,x2k,x2l,x2m,x2n,x2o,x2p,x2q,x2r,x2s,x2t,x2u,x2v,x2w,x2x)=>⟨[(3,.ptr 0 0),(6,.ptr 1 0),(12,.rs 2),(13,i6 x2a)],[.cells [i6 x2b,i6 x2c,.fz Riii x2d,i6 x2e,.fz Riii x2f,.fz Ri x2g,.fz Rb x2h,.fz Ri x2i,.fz qil x2j,.fz Ri x2k,.fz Riii x2l],.cells [i6 x2m,i6 x2n,.fz Riii x2o,i6 x2p,.fz Riii x2q,.fz Ri x2r,.fz Rb x2s,.fz Ri x2t,.fz qil x2u,.fz Ri x2v,.fz Riii x2w],.rows Rii x2x]⟩
def q2jm (d:Nat) (L2_g:q2jf->Option q2jb):(Int×Int×List Diii×Int×List Diii×List Di×List Db×List Di×List qim×List Di×List Diii×Int×Int×List Diii×Int×List Diii×List Di×List Db×List Di×List qim×List Di×List Diii×List Dii)->Option q2jb:=fun (ya,yb,yc,yd,ye,yf,yg,yh,yi,yj,yk,yl,ym,yn,yo,yp,yq,yr,ys,yt,yu,yv,yw) =>
 (L2_g (0,ya,yb,yc,yd,ye,yf,yg,yh,yi,yj,yk,yl,ym,yn,yo,yp,yq,yr,ys,yt,yu,yv,yw))
def q2jn (d:Nat) (L2_g:q2jf->Option q2jb):(List Di×Int×Int×Int×List Diii×Int×List Diii×List Di×List Db×List Di×List qim×List Di×List Diii×Int×Int×List Diii×Int×List Diii×List Di×List Db×List Di×List qim×List Di×List Diii×List Dii)->Option q2jb:=fun (ya,yb,yc,yd,ye,yf,yg,yh,yi,yj,yk,yl,ym,yn,yo,yp,yq,yr,ys,yt,yu,yv,yw,yx,yy) =>
 (bif (decide ((wi (yb+2))<(ya.length:Int))) then (let e9:=(wi (yb+2));(obif (inB e9 ya.length) (let e10:=(elt zi ya e9.toNat);(obif (inB yb ya.length) (let e11:=(elt zi ya yb.toNat);(obif (apB yy.length (List.length ([(e10.1,e11.1,())]:List Dii))) (q2jm d L2_g (yc,yd,ye,yf,yg,yh,yi,yj,yk,yl,ym,yn,yo,yp,yq,yr,ys,yt,yu,yv,yw,yx,(yy++([(e10.1,e11.1,())]:List Dii)))) none)) none)) none)) else (q2jm d L2_g (yc,yd,ye,yf,yg,yh,yi,yj,yk,yl,ym,yn,yo,yp,yq,yr,ys,yt,yu,yv,yw,yx,yy)))
def q2jo (d:Nat) (L2_g:q2jf->Option q2jb) (self1:q2jg->Option q2jb):q2jg->Option q2jb:=fun (x1a,x1b,x1c,x1d,x1e,x1f,x1g,x1h,x1i,x1j,x1k,x1l,x1m,x1n,x1o,x1p,x1q,x1r,x1s,x1t,x1u,x1v,x1w,x1x,x1y) =>
 (bif (decide (x1c<(x1h.length:Int))) then (obif (inB x1c x1h.length) (let e1:=(elt ziii x1h x1c.toNat);(obif (decide (x1b>0)) (obif (inB x1b x1a.length) (let e3:=(wi (x1b-1));(obif (inB e3 x1a.length) (obif ((e1.2.1==(elt zi x1a x1b.toNat).1)&&((e1.2.2.1==(elt zi x1a e3.toNat).1)&&true)) (q2ji d self1 (x1a,x1b,x1c,true,x1d,x1e,x1f,x1g,x1h,x1i,x1j,x1k,x1l,x1m,x1n,x1o,x1p,x1q,x1r,x1s,x1t,x1u,x1v,x1w,x1x,x1y)) (obif (decide ((wi (x1b+2))<(x1a.length:Int))) (let e6:=(wi (x1b+2));(obif (inB e6 x1a.length) (let e8:=(wi (x1b+1));(obif (inB e8 x1a.length) (q2ji d self1 (x1a,x1b,x1c,((e1.2.1==(elt zi x1a e6.toNat).1)&&((e1.2.2.1==(elt zi x1a e8.toNat).1)&&true)),x1d,x1e,x1f,x1g,x1h,x1i,x1j,x1k,x1l,x1m,x1n,x1o,x1p,x1q,x1r,x1s,x1t,x1u,x1v,x1w,x1x,x1y)) none)) none)) (q2ji d self1 (x1a,x1b,x1c,false,x1d,x1e,x1f,x1g,x1h,x1i,x1j,x1k,x1l,x1m,x1n,x1o,x1p,x1q,x1r,x1s,x1t,x1u,x1v,x1w,x1x,x1y)))) none)) none) (obif (decide ((wi (x1b+2))<(x1a.length:Int))) (let e11:=(wi (x1b+2));(obif (inB e11 x1a.length) (let e13:=(wi (x1b+1));(obif (inB e13 x1a.length) (q2ji d self1 (x1a,x1b,x1c,((e1.2.1==(elt zi x1a e11.toNat).1)&&((e1.2.2.1==(elt zi x1a e13.toNat).1)&&true)),x1d,x1e,x1f,x1g,x1h,x1i,x1j,x1k,x1l,x1m,x1n,x1o,x1p,x1q,x1r,x1s,x1t,x1u,x1v,x1w,x1x,x1y)) none)) none)) (q2ji d self1 (x1a,x1b,x1c,false,x1d,x1e,x1f,x1g,x1h,x1i,x1j,x1k,x1l,x1m,x1n,x1o,x1p,x1q,x1r,x1s,x1t,x1u,x1v,x1w,x1x,x1y))))) none) else (obif (inB x1b x1a.length) (let e2:=(wi (x1b+1));(obif (inB e2 x1a.length) (let a10:=([((elt zi x1a x1b.toNat).1,(elt zi x1a e2.toNat).1,())]:List Dii);(bif (decide (x1b>0)) then (let e4:=(wi (x1b+1));(obif (inB e4 x1a.length) (let e5:=(elt zi x1a e4.toNat);(let e6:=(wi (x1b-1));(obif (inB e6 x1a.length) (let e7:=(elt zi x1a e6.toNat);(obif (apB a10.length (List.length ([(e5.1,e7.1,())]:List Dii))) (q2jn d L2_g (x1a,x1b,x1d,x1e,x1f,x1g,x1h,x1i,x1j,x1k,x1l,x1m,x1n,x1o,x1p,x1q,x1r,x1s,x1t,x1u,x1v,x1w,x1x,x1y,(a10++([(e5.1,e7.1,())]:List Dii)))) none)) none))) none)) else (q2jn d L2_g (x1a,x1b,x1d,x1e,x1f,x1g,x1h,x1i,x1j,x1k,x1l,x1m,x1n,x1o,x1p,x1q,x1r,x1s,x1t,x1u,x1v,x1w,x1x,x1y,a10)))) none)) none))
def q2jp:q2jg->St:=fun (x1a,x1b,x1c,x1d,x1e,x1f,x1g,x1h,x1i,x1j,x1k,x1l,x1m,x1n,x1o,x1p,x1q,x1r,x1s,x1t,x1u,x1v,x1w,x1x,x1y)=>⟨[(1,.fz Ri x1a),(2,i6 x1b),(3,.ptr 0 0),(6,.ptr 1 0),(8,i6 x1c)],[.cells [i6 x1d,i6 x1e,.fz Riii x1f,i6 x1g,.fz Riii x1h,.fz Ri x1i,.fz Rb x1j,.fz Ri x1k,.fz qil x1l,.fz Ri x1m,.fz Riii x1n],.cells [i6 x1o,i6 x1p,.fz Riii x1q,i6 x1r,.fz Riii x1s,.fz Ri x1t,.fz Rb x1u,.fz Ri x1v,.fz qil x1w,.fz Ri x1x,.fz Riii x1y]]⟩
theorem q2jq (d:Nat) (self1:St->Option q2jb) (self2:St->Option q2jb) (x:q2jf):(q2jc d).b 16 [self1] self2 (q2jl x)=q2jk d (fun y=>self2 (q2jl y)) x:=by kernel_rfl
def q2jr (d:Nat) (self1:q2jg->Option q2jb) (x:q2jg):Option q2jb:=q2jo d (iter (q2jk d) d) self1 x
theorem q2js (d:Nat) (self1:St->Option q2jb) (x:q2jg):(q2jc d).b 2 [] self1 (q2jp x)=q2jr d (fun y=>self1 (q2jp y)) x:=by
 have h:(q2jc d).b 2 [] self1 (q2jp x)=q2jo d (fun y=>iter ((q2jc d).b 16 [self1]) d (q2jl y)) (fun y=>self1 (q2jp y)) x:=by kernel_rfl
 rw[h];unfold q2jr;congr 1<;>(funext y;first | rfl | exact qfi (q2jq d self1) d y)
def q2jt (d:Nat) (L1_g:q2jg->Option q2jb):q2ja->Option q2jb:=fun ((xAa,xAb,xAc,xAd,xAe,xAf,xAg,xAh,xAi,xAj,xAk,_),(xBa,_),(xCa,_),_) =>
 (L1_g (xBa,xCa,0,xAa,xAb,xAc,xAd,xAe,xAf,xAg,xAh,xAi,xAj,xAk,0,0,([]:List Diii),0,([]:List Diii),([]:List Di),([]:List Db),([]:List Di),([]:List qim),([]:List Di),([]:List Diii)))
theorem q2ju (d:Nat) (x:q2ja):q2je d x=q2jt d (iter (q2jr d) d) x:=by
 have h:q2je d x=q2jt d (fun y=>iter ((q2jc d).b 2 []) d (q2jp y)) x:=by kernel_rfl
 rw[h];congr 1<;>(funext y;first | rfl | exact qfi (q2js d) d y)
abbrev q2jv:Type:=DLiE×Di×Unit
abbrev q2jw:Type:=Int
noncomputable def q2jx (d:Nat):Ent:=⟨tysT,(orc []),f44,mkPl [(0,(.val Ri))] [([0],[0,1]),([1,3],[0,1,5]),([2],[0,1,5,9]),([4],[0,1,5,17]),([5,6],[4])] [] [(2,[0,1,5])],d,44,[.row RLiE false,.row Ri false],.undef,[.i .i64]⟩
theorem q2jy (d:Nat):COK prog (q2jx d).s:=Ent.k mixed tys (qeo ac0) ⟨by kernel_rfl,by kernel_rfl,by kernel_rfl⟩
noncomputable def q2jz (d:Nat) (x:q2jv):Option q2jw:=(q2jx d).F x
abbrev q2k0:Type:=List Di×Int×Int
def q2k1 (d:Nat) (self1:q2k0->Option q2jw):q2k0->Option q2jw:=fun (x1a,x1b,x1c) =>
 (bif (decide (x1c<(x1a.length:Int))) then (obif (inB x1c x1a.length) (bif ((elt zi x1a x1c.toNat).1==x1b) then some x1c else (self1 (x1a,x1b,(wi (x1c+1))))) none) else some (-1:Int))
def q2k2:q2k0->St:=fun (x1a,x1b,x1c)=>⟨[(0,.fz Ri x1a),(1,i6 x1b),(5,i6 x1c)],[]⟩
theorem q2k3 (d:Nat) (self1:St->Option q2jw) (x:q2k0):(q2jx d).b 2 [] self1 (q2k2 x)=q2k1 d (fun y=>self1 (q2k2 y)) x:=by kernel_rfl
def q2k4 (d:Nat) (L1_g:q2k0->Option q2jw):q2jv->Option q2jw:=fun ((xAa,_),(xBa,_),_) =>
 (L1_g (xAa,xBa,0))
theorem q2k5 (d:Nat) (x:q2jv):q2jz d x=q2k4 d (iter (q2k1 d) d) x:=by
 have h:q2jz d x=q2k4 d (fun y=>iter ((q2jx d).b 2 []) d (q2k2 y)) x:=by kernel_rfl
 rw[h];congr 1<;>(funext y;first | rfl | exact qfi (q2k3 d) d y)
abbrev q2k6:Type:=qiv×DLiE×Dii×Di×Unit
abbrev q2k7:Type:=Int×Int×List Diii×Int×List Diii×List Di×List Db×List Di×List qim×List Di×List Diii×List Di×Bool
noncomputable def q2k8 (d:Nat):Ent:=⟨tysT,(orc [(q1my d).s,(q1pp d).s,(q1ln d).s,(q1lw d).s,(q2jx d).s,(q2jc d).s]),f14,mkPl [(1,(.val Ri)),(4,(.box [.any,.any,.val Riii,.any,.val Riii,.val Ri,.val Rb,.val Ri,.val qil,.val Ri,.val Riii])),(8,(.box [.any,.any,.val Riii,.any,.val Riii,.val Ri,.val Rb,.val Ri,.val qil,.val Ri,.val Riii])),(9,(.val Ri)),(12,(.box [.any,.any,.own Riii,.any,.own Riii,.val Ri,.val Rb,.val Ri,.own qil,.own Ri,.own Riii])),(16,(.box [.any,.any,.own Riii,.any,.own Riii,.own Ri,.own Rb,.own Ri,.own qil,.own Ri,.own Riii])),(19,(.box [.any,.any,.val Riii,.any,.val Riii,.val Ri,.val Rb,.val Ri,.val qil,.val Ri,.val Riii]))] [([0],[1,3,4,6,8]),([1,3,17],[1,3,4,6,8,11]),([2],[1,3,4,6,8,11,24]),([4],[1,3,4,6,8,11,12,13,14,15]),([5],[1,3,4,6,8,11,12,13,14,15,36]),([6],[1,3,8,11,16,17]),([7,18],[8,9,10]),([8],[1,3,4,6,8,11,12,14,70]),([10],[1,3,4,6,8,11,12,14,18]),([11],[1,3,4,6,8,11,12,18,95]),([13],[1,3,4,6,8,11,18,19,20]),([14],[1,3,4,6,8,11,18,19,106]),([16],[1,3,4,6,8,11,18])] [(16,[(1,(.own Ri))])] [(2,[1,3,4,6,8,11])],d,14,[.row qiu true,.row RLiE false,.row Rii true,.row Ri false],(.tup [(.agg [.undef,.undef,.undef,.undef,.undef,.undef,.undef,.undef,.undef,.undef,.undef]),.undef,.undef]),[.i .i64,.i .i64,.z Riii,.i .i64,.z Riii,.z Ri,.z Rb,.z Ri,.z qil,.z Ri,.z Riii,.z Ri,.bo]⟩
theorem q2k9 (d:Nat):COK prog (q2k8 d).s:=Ent.k mixed tys (qeo (ac1 (q1mz d) (ac1 (q1pq d) (ac1 (q1lo d) (ac1 (q1lx d) (ac1 (q2jy d) (ac1 (q2jd d) ac0))))))) ⟨by kernel_rfl,by kernel_rfl,by kernel_rfl⟩
noncomputable def q2ka (d:Nat) (x:q2k6):Option q2k7:=(q2k8 d).F x
abbrev q2kb:Type:=List Di×Int×Int×Int×Int×List Diii×Int×List Diii×List Di×List Db×List Di×List qim×List Di×List Diii×Int×Int×Int×Int×List Diii×Int×List Diii×List Di×List Db×List Di×List qim×List Di×List Diii
def q2kc (d:Nat) (self1:q2kb->Option q2k7):(List Di×Int×Int×Int×Bool×Int×Int×List Diii×Int×List Diii×List Di×List Db×List Di×List qim×List Di×List Diii×Int×Int×Int×Int×List Diii×Int×List Diii×List Di×List Db×List Di×List qim×List Di×List Diii×Int×Int×Int×List Di×List Db×List Di×List Diii×List Diii×List qim×List Di×List Diii)->Option q2k7:=fun (ya,yb,yc,yd,ye,_,_,_,_,_,_,_,_,_,_,_,yq,yr,ys,yt,yu,yv,yw,yx,yy,yz,yaa,yab,yac,yad,yae,yaf,yag,yah,yai,yaj,yak,yal,yam,yan) =>
 (bif ye then none else (obnd (q2je d ((yad,yae,yaj,yaf,yak,yag,yah,yai,yal,yam,yan,()),(ya,()),(yd,()),())) fun (r4a,r4b,r4c,r4d,r4e,r4f,r4g,r4h,r4i,r4j,r4k,r4l)=>(bif (!r4l) then none else (obif (apB (List.length ([]:List Di)) ya.length) (let a12:=(([]:List Di)++ya);(let e5:=(wi (yd+1));(let e6:=(wi (yd+1));(obif (inB e6 a12.length) (obif (inB yd a12.length) (obif (inB yd a12.length) (obif (inB e5 a12.length) (self1 ((List.set (List.set a12 yd.toNat ((elt zi a12 e6.toNat).1,())) e5.toNat ((elt zi a12 yd.toNat).1,())),yb,(wi (yc+1)),r4a,r4b,r4c,r4d,r4e,r4f,r4g,r4h,r4i,r4j,r4k,yq,yr,ys,yt,yu,yv,yw,yx,yy,yz,yaa,yab,yac)) none) none) none) none)))) none))))
def q2kd (d:Nat) (self1:q2kb->Option q2k7):(List Di×Int×Int×Bool×Int×Int×List Diii×Int×List Diii×List Di×List Db×List Di×List qim×List Di×List Diii×Int×Int×Int×Int×List Diii×Int×List Diii×List Di×List Db×List Di×List qim×List Di×List Diii×Int×Int×Int×List Di×List Db×List Di×List Diii×List Diii×List qim×List Di×List Diii×Int×Int)->Option q2k7:=fun (ya,yb,yc,yd,ye,yf,yg,yh,yi,yj,yk,yl,ym,yn,yo,yp,yq,yr,ys,yt,yu,yv,yw,yx,yy,yz,yaa,yab,yac,yad,yae,yaf,yag,yah,yai,yaj,yak,yal,yam,yan,yao) =>
 (bif yd then none else (obnd (q2jz d ((ya,()),(yao,()),())) fun r3=>(obif (decide (r3<0)) (q2kc d self1 (ya,yb,yc,r3,true,ye,yf,yg,yh,yi,yj,yk,yl,ym,yn,yo,yp,yq,yr,ys,yt,yu,yv,yw,yx,yy,yz,yaa,yab,yac,yad,yae,yaf,yag,yah,yai,yaj,yak,yal,yam)) (obif (decide ((wi (r3+1))≥(ya.length:Int))) (q2kc d self1 (ya,yb,yc,r3,true,ye,yf,yg,yh,yi,yj,yk,yl,ym,yn,yo,yp,yq,yr,ys,yt,yu,yv,yw,yx,yy,yz,yaa,yab,yac,yad,yae,yaf,yag,yah,yai,yaj,yak,yal,yam)) (let e5:=(wi (r3+1));(obif (inB e5 ya.length) (q2kc d self1 (ya,yb,yc,r3,((elt zi ya e5.toNat).1 != yan),ye,yf,yg,yh,yi,yj,yk,yl,ym,yn,yo,yp,yq,yr,ys,yt,yu,yv,yw,yx,yy,yz,yaa,yab,yac,yad,yae,yaf,yag,yah,yai,yaj,yak,yal,yam)) none))))))
def q2ke (d:Nat) (self1:q2kb->Option q2k7):q2kb->Option q2k7:=fun (x1a,x1b,x1c,x1d,x1e,x1f,x1g,x1h,x1i,x1j,x1k,x1l,x1m,x1n,x1o,x1p,x1q,x1r,x1s,x1t,x1u,x1v,x1w,x1x,x1y,x1z,x1aa) =>
 (bif (decide (x1c<=(wi (2*x1b)))) then (obnd (q1lp d ((x1d,x1e,x1f,x1g,x1h,x1i,x1j,x1k,x1l,x1m,x1n,()),(x1o,x1p,()),())) fun (r2a,r2b,r2c,r2d,r2e,r2f,r2g,r2h,r2i,r2j,r2k,r2l,r2m,_,_,_,r2q,r2r,r2s)=>(bif (r2s==6) then (obnd (q1ly d ((x1d,x1e,x1f,x1g,x1h,x1i,x1j,x1k,x1l,x1m,x1n,()),(x1o,x1p,()),())) fun (r3a,r3b,r3c,r3d,r3e,r3f,r3g,r3h,r3i,r3j,r3k,r3l)=>(obif (x1c==x1b) (obif (r3l==0) (obnd (q1pr d ((r3a,r3b,r3c,r3d,r3e,r3f,r3g,r3h,r3i,r3j,r3k,()),())) fun r4=>(some (r3a,r3b,r3c,r3d,r3e,r3f,r3g,r3h,r3i,r3j,r3k,x1a,(r4==0)))) (some (r3a,r3b,r3c,r3d,r3e,r3f,r3g,r3h,r3i,r3j,r3k,x1a,false))) (some (r3a,r3b,r3c,r3d,r3e,r3f,r3g,r3h,r3i,r3j,r3k,x1a,false)))) else (obif (r2s != 0) (q2kd d self1 (x1a,x1b,x1c,true,x1d,x1e,x1f,x1g,x1h,x1i,x1j,x1k,x1l,x1m,x1n,x1o,x1p,x1q,x1r,x1s,x1t,x1u,x1v,x1w,x1x,x1y,x1z,x1aa,r2a,r2b,r2d,r2f,r2g,r2h,r2c,r2e,r2i,r2j,r2k,r2q,r2r)) (obnd (q1pr d ((r2a,r2b,r2c,r2d,r2e,r2f,r2g,r2h,r2i,r2j,r2k,()),())) fun r3=>(obif (r3 != 0) (q2kd d self1 (x1a,x1b,x1c,true,x1d,x1e,x1f,x1g,x1h,x1i,x1j,x1k,x1l,x1m,x1n,x1o,x1p,x1q,x1r,x1s,x1t,x1u,x1v,x1w,x1x,x1y,x1z,x1aa,r2a,r2b,r2d,r2f,r2g,r2h,r2c,r2e,r2i,r2j,r2k,r2q,r2r)) (obnd (q1n0 d ((r2l,r2m,()),(x1o,x1p,()),())) fun r4=>(q2kd d self1 (x1a,x1b,x1c,(decide (r4>0)),x1d,x1e,x1f,x1g,x1h,x1i,x1j,x1k,x1l,x1m,x1n,x1o,x1p,x1q,x1r,x1s,x1t,x1u,x1v,x1w,x1x,x1y,x1z,x1aa,r2a,r2b,r2d,r2f,r2g,r2h,r2c,r2e,r2i,r2j,r2k,r2q,r2r)))))))) else some (x1d,x1e,x1f,x1g,x1h,x1i,x1j,x1k,x1l,x1m,x1n,x1a,false))
def q2kf:q2kb->St:=fun (x1a,x1b,x1c,x1d,x1e,x1f,x1g,x1h,x1i,x1j,x1k,x1l,x1m,x1n,x1o,x1p,x1q,x1r,x1s,x1t,x1u,x1v,x1w,x1x,x1y,x1z,x1aa)=>⟨[(1,.fz Ri x1a),(3,i6 x1b),(4,.ptr 0 0),(6,.ptr 1 0),(8,.ptr 2 0),(11,i6 x1c)],[.cells [i6 x1d,i6 x1e,.fz Riii x1f,i6 x1g,.fz Riii x1h,.fz Ri x1i,.fz Rb x1j,.fz Ri x1k,.fz qil x1l,.fz Ri x1m,.fz Riii x1n],.cells [i6 x1o,i6 x1p],.cells [i6 x1q,i6 x1r,.fz Riii x1s,i6 x1t,.fz Riii x1u,.fz Ri x1v,.fz Rb x1w,.fz Ri x1x,.fz qil x1y,.fz Ri x1z,.fz Riii x1aa]]⟩
theorem q2kg (d:Nat) (self1:St->Option q2k7) (x:q2kb):(q2k8 d).b 2 [] self1 (q2kf x)=q2ke d (fun y=>self1 (q2kf y)) x:=by kernel_rfl
def q2kh (d:Nat) (L1_g:q2kb->Option q2k7):q2k6->Option q2k7:=fun ((xAa,xAb,xAc,xAd,xAe,xAf,xAg,xAh,xAi,xAj,xAk,_),(xBa,_),(xCa,xCb,_),(xDa,_),_) =>
 (L1_g (xBa,xDa,0,xAa,xAb,xAc,xAd,xAe,xAf,xAg,xAh,xAi,xAj,xAk,xCa,xCb,0,0,([]:List Diii),0,([]:List Diii),([]:List Di),([]:List Db),([]:List Di),([]:List qim),([]:List Di),([]:List Diii)))
theorem q2ki (d:Nat) (x:q2k6):q2ka d x=q2kh d (iter (q2ke d) d) x:=by
 have h:q2ka d x=q2kh d (fun y=>iter ((q2k8 d).b 2 []) d (q2kf y)) x:=by kernel_rfl
 rw[h];congr 1<;>(funext y;first | rfl | exact qfi (q2kg d) d y)
end
end Go.Proofs.YtfjjdnaggblaaaaGreat
namespace Go.Proofs.YtfjjdnaggblaaaaGreat
open Go Go.Tx Go.Pel
variable {s:Ck} {E:List qim}
def q2kj (c:Diii):Int×Int:=(c.2.1,c.2.2.1)
def q2kk (P1:List T3) (a b:T3) (P2:List T3) (c:Diii):Bool:=(lnk P1 a++hdl b P2).any fun x=>(c.2.1==x.1&&(c.2.2.1==x.2&&true))
def bs1 (o:List Di) (at_ j:Int) (s:Ck):q2jg:=(o,at_,j,s.n,s.dd,s.F,s.nx,s.C,s.U,s.B,s.R,s.H,s.W,s.D,0,0,[],0,[],[],[],[],[],[],[])
def bs2 (k:Int) (s:Ck) (Z:List Dii):q2jf:=(k,s.n,s.dd,s.F,s.nx,s.C,s.U,s.B,s.R,s.H,s.W,s.D,0,0,[],0,[],[],[],[],[],[],[],Z)
theorem q2kl {P:List T3} {i:Nat} {p:T3} (h:P[i]?=some p):elt zi (P.map idU) i=(p.1,()):=by
 unfold elt;rw[List.getElem?_map,h];rfl
theorem q2km {P1 P2:List T3} {a b:T3}:(P1++a::b::P2)[P1.length]?=some a:=by
 rw[List.getElem?_append_right (Nat.le_refl _),Nat.sub_self];rfl
theorem q2kn {P1 P2:List T3} {a b:T3}:(P1++a::b::P2)[P1.length+1]?=some b:=by
 rw[List.getElem?_append_right (by omega),show P1.length+1-P1.length=1 by omega];rfl
theorem q2ko {P1 P3:List T3} {a b y:T3}:(P1++a::b::y::P3)[P1.length+2]?=some y:=by
 rw[List.getElem?_append_right (by omega),show P1.length+2-P1.length=2 by omega];rfl
theorem q2kp {P0 r:List T3} {z:T3}:(P0 ++ [z] ++ r)[P0.length]?=some z:=by
 rw[List.append_assoc,List.getElem?_append_right (Nat.le_refl _),Nat.sub_self];rfl
theorem q2kq {α:Type} (l:List α):l=[] ∨ ∃ r x,l=r ++ [x]:=by
 rcases List.eq_nil_or_concat l with h | ⟨r,x,h⟩
 ·exact Or.inl h
 ·exact Or.inr ⟨r,x,by rw[h,List.concat_eq_append]⟩
theorem q2kr (d:Nat) {P1 P2:List T3} {a b:T3} (hlen:(P1++a::b::P2).length<=64) {L2g:q2jf->Option q2jb} {self:q2jg->Option q2jb} {j:Nat} {c:Diii} (hc:s.C[j]?=some c) :
 q2jo d L2g self (bs1 ((P1++a::b::P2).map idU) (P1.length:Int) (j:Int) s)=q2ji d self ((P1++a::b::P2).map idU,(P1.length:Int),(j:Int),q2kk P1 a b P2 c,s.n,s.dd,s.F,s.nx,s.C,s.U,s.B,s.R,s.H,s.W,s.D,0,0,[],0,[],[],[],[],[],[],[]):=by
 have hj:=q294 hc
 have hl:((P1++a::b::P2).map idU).length=P1.length+2+P2.length:=by simp;omega
 have hl2:P1.length+2+P2.length<=64:=by rw[List.length_map]at hl;omega
 have ha:elt zi ((P1++a::b::P2).map idU) P1.length=(a.1,()):=q2kl q2km
 have hb:elt zi ((P1++a::b::P2).map idU) (P1.length+1)=(b.1,()):=q2kl q2kn
 have w1:wi ((P1.length:Int)+1)=((P1.length+1:Nat):Int):=wiS (by omega)
 have w2:wi ((P1.length:Int)+2)=((P1.length+2:Nat):Int):=by rw[q269 (by omega)];omega
 unfold bs1 q2kk
 simp only[q2jo,show decide ((j:Int)<(s.C.length:Int))=true by rw[decide_eq_true_eq];omega,cond_true,inN hj,obif,Int.toNat_natCast,eltI (z:=ziii) hc,hl,inN (show P1.length<P1.length+2+P2.length by omega),w1,w2,inN (show P1.length+1<P1.length+2+P2.length by omega),ha,hb]
 have hP2:P2=[] ∨ ∃ y P3,P2=y::P3:=by cases P2 with | nil=>exact Or.inl rfl | cons y P3=>exact Or.inr ⟨y,P3,rfl⟩
 have second:(bif decide (((P1.length+2:Nat):Int)<((P1.length+2+P2.length:Nat):Int)) then (bif inB ((P1.length+2:Nat):Int) (P1.length+2+P2.length) then q2ji d self ((P1++a::b::P2).map idU,(P1.length:Int),(j:Int),(c.2.1==(elt zi ((P1++a::b::P2).map idU) (P1.length+2)).1&&(c.2.2.1==b.1&&true)),s.n,s.dd,s.F,s.nx,s.C,s.U,s.B,s.R,s.H,s.W,s.D,0,0,[],0,[],[],[],[],[],[],[]) else none) else q2ji d self ((P1++a::b::P2).map idU,(P1.length:Int),(j:Int),false,s.n,s.dd,s.F,s.nx,s.C,s.U,s.B,s.R,s.H,s.W,s.D,0,0,[],0,[],[],[],[],[],[],[]))=q2ji d self ((P1++a::b::P2).map idU,(P1.length:Int),(j:Int),(hdl b P2).any (fun x=>(c.2.1==x.1&&(c.2.2.1==x.2&&true))),s.n,s.dd,s.F,s.nx,s.C,s.U,s.B,s.R,s.H,s.W,s.D,0,0,[],0,[],[],[],[],[],[],[]):=by
  rcases hP2 with rfl | ⟨y,P3,rfl⟩
  ·rw[show decide (((P1.length+2:Nat):Int)<((P1.length+2+([]:List T3).length:Nat):Int))=false by rw[decide_eq_false_iff_not];simp,cond_false];rfl
  ·have hy:elt zi ((P1++a::b::y::P3).map idU) (P1.length+2)=(y.1,()):=q2kl q2ko
   rw[show decide (((P1.length+2:Nat):Int)<((P1.length+2+(y::P3).length:Nat):Int))=true by rw[decide_eq_true_eq];simp;omega,cond_true,inN (show P1.length+2<P1.length+2+(y::P3).length by simp),cond_true,hy]
   simp only[hdl,List.any_cons,List.any_nil,Bool.or_false]
 rcases q2kq P1 with rfl | ⟨P0,z,rfl⟩
 ·simp only[show decide ((([]:List T3).length:Int)>0)=false from rfl,cond_false]
  exact second
 ·have hz:elt zi (((P0 ++ [z])++a::b::P2).map idU) P0.length=(z.1,()):=q2kl q2kp
  have hl0:(P0 ++ [z]).length=P0.length+1:=by simp
  have w0:wi (((P0 ++ [z]).length:Int)-1)=(P0.length:Int):=by rw[hl0]at hl2 ⊢;rw[q269 (by omega)];omega
  have hlk:lnk (P0 ++ [z]) a=[(a.1,z.1)]:=by unfold lnk;rw[List.getLast?_concat]
  simp only[show decide (((P0 ++ [z]).length:Int)>0)=true by rw[decide_eq_true_eq,hl0];omega,cond_true,w0,inN (show P0.length<(P0 ++ [z]).length+2+P2.length by rw[hl0];omega),Int.toNat_natCast,hz,hlk]
  cases ht:(c.2.1==a.1&&(c.2.2.1==z.1&&true)) with
  | true =>
   simp only[cond_true,List.any_append,List.any_cons,List.any_nil,ht,Bool.or_false,Bool.true_or]
  | false =>
   simp only[cond_false,List.any_append,List.any_cons,List.any_nil,ht,Bool.or_false,Bool.false_or]
   exact second
theorem q2ks (d:Nat) (hd:5000<=d) {P1 P2:List T3} {a b:T3} (hlen:(P1++a::b::P2).length<=64) {L2g:q2jf->Option q2jb}:∀ (n j f:Nat) (s:Ck) (E:List qim),s.C.length-j<=n->j<=s.C.length->CkOk s E->n<f ->
 ∃ (s':Ck) (E':List qim) (f':Nat),iter (q2jo d L2g) f (bs1 ((P1++a::b::P2).map idU) (P1.length:Int) (j:Int) s)=q2jo d L2g (iter (q2jo d L2g) f') (bs1 ((P1++a::b::P2).map idU) (P1.length:Int) (s'.C.length:Int) s')/\CkOk s' E'/\s'.n=s.n/\s'.dd=s.dd/\s'.F=s.F/\s'.nx=s.nx/\s'.C=s.C.take j++(s.C.drop j).filter (fun c=>!q2kk P1 a b P2 c):=by
 intro n
 induction n with
 | zero =>
  intro j f s E hn hj h hf
  obtain⟨f,rfl⟩:∃ g,f=g+1:=⟨f-1,by omega⟩
  have:j=s.C.length:=by omega
  subst this
  exact⟨s,E,f,by rw[iter],h,rfl,rfl,rfl,rfl,by rw[List.drop_length,List.take_length];simp⟩
 | succ n ih =>
  intro j f s E hn hj h hf
  obtain⟨f,rfl⟩:∃ g,f=g+1:=⟨f-1,by omega⟩
  by_cases hjl:j<s.C.length
  ·obtain⟨c,hc⟩:∃ c,s.C[j]?=some c:=⟨_,List.getElem?_eq_getElem hjl⟩
   have hdr:s.C.drop j=c::s.C.drop (j+1):=by
    rw[List.drop_eq_getElem_cons hjl]
    rw[List.getElem?_eq_getElem hjl]at hc;injection hc with hc;rw[hc]
   have hl:=h.ck.len
   rw[iter,q2kr d hlen hc]
   cases hb:q2kk P1 a b P2 c with
   | false =>
    obtain⟨s',E',f',e1,h',g1,g2,g3,g4,g5⟩:=ih (j+1) f s E (by omega) (by omega) h (by omega)
    refine⟨s',E',f',?_,h',g1,g2,g3,g4,?_⟩
    ·rw[← e1]
     simp only[q2ji,cond_false,wiS (show j<9223372036854775807 by omega)]
     rfl
    ·rw[g5,hdr,q293 hc,List.append_assoc,List.filter_cons_of_pos (by rw[hb];rfl)];rfl
   | true =>
    have hC:s.C=s.C.take j++c::s.C.drop (j+1):=by rw[← hdr,List.take_append_drop]
    obtain⟨s1,E1,e1,h1,g1,g2,g3,g4,g5⟩:=q2cx d hd h hC
    have e2:=q2cq d hd h1
    simp only[Ck.x]at e1 e2
    have tl:(s.C.take j).length=j:=by rw[List.length_take];omega
    have l1:s1.C.length=s.C.length-1:=by rw[g5,List.length_append,List.length_take,List.length_drop];omega
    obtain⟨s',E',f',e3,h',k1,k2,k3,k4,k5⟩:=ih j f s1 E1 (by omega) (by omega) h1 (by omega)
    refine⟨s',E',f',?_,h',by rw[k1,g1],by rw[k2,g2],by rw[k3,g3],by rw[k4,g4],?_⟩
    ·rw[← e3]
     simp only[q2ji,cond_true,obif,inN hjl,Int.toNat_natCast,eltI (z:=ziii) hc,e1,obnd,show ((0:Int) != 0)=false from rfl,cond_false,e2,q2jh]
     rfl
    ·rw[k5,g5,hdr,List.filter_cons_of_neg (by rw[hb];simp),List.take_append_of_le_length (by omega),List.take_of_length_le (by omega),List.drop_append_of_le_length (by omega),List.drop_of_length_le (by omega)];rfl
  ·have:j=s.C.length:=by omega
   subst this
   exact⟨s,E,f,by rw[iter],h,rfl,rfl,rfl,rfl,by rw[List.drop_length,List.take_length];simp⟩
theorem q2kt (d:Nat) (hd:5000<=d) {Z:List (Int×Int)} (hz:Z.length<=3):∀ (n k f:Nat) (s:Ck) (E:List qim),Z.length-k<=n->k<=Z.length->CkOk s E->s.C.length+Z.length<=100+k->s.nx+(Z.length:Int)<=800+(k:Int)->(s.C.map q2kj++Z.drop k).Nodup->(∀ x∈Z,hasI s.F x.1/\hasI s.F x.2/\x.1≠x.2)->n<f ->
 ∃ (s':Ck) (E':List qim),iter (q2jk d) f (bs2 (k:Int) s (Z.map fun x=>(x.1,x.2,())))=some (s'.n,s'.dd,s'.F,s'.nx,s'.C,s'.U,s'.B,s'.R,s'.H,s'.W,s'.D,true)/\CkOk s' E'/\s'.n=s.n/\s'.dd=s.dd/\s'.F=s.F/\s'.nx=s.nx+((Z.length-k:Nat):Int)/\s'.C.map q2kj=s.C.map q2kj++Z.drop k:=by
 have fin:∀ (f:Nat) (s:Ck) (E:List qim),CkOk s E->∃ (s':Ck) (E':List qim),iter (q2jk d) (f+1) (bs2 (Z.length:Int) s (Z.map fun x=>(x.1,x.2,())))=some (s'.n,s'.dd,s'.F,s'.nx,s'.C,s'.U,s'.B,s'.R,s'.H,s'.W,s'.D,true)/\CkOk s' E'/\s'.n=s.n/\s'.dd=s.dd/\s'.F=s.F/\s'.nx=s.nx+((Z.length-Z.length:Nat):Int)/\s'.C.map q2kj=s.C.map q2kj++Z.drop Z.length:=fun f s E h=>by
  refine⟨s,E,?_,h,rfl,rfl,rfl,by omega,by simp⟩
  rw[iter];unfold bs2
  simp only[q2jk,List.length_map,show decide ((Z.length:Int)<(Z.length:Int))=false by simp,cond_false]
 intro n
 induction n with
 | zero =>
  intro k f s E hn hk h _ _ _ _ hf
  obtain⟨f,rfl⟩:∃ g,f=g+1:=⟨f-1,by omega⟩
  have:k=Z.length:=by omega
  subst this
  exact fin f s E h
 | succ n ih =>
  intro k f s E hn hk h hl hx hnd hZ hf
  obtain⟨f,rfl⟩:∃ g,f=g+1:=⟨f-1,by omega⟩
  by_cases hkl:k<Z.length
  ·obtain⟨x,hxk⟩:∃ x,Z[k]?=some x:=⟨_,List.getElem?_eq_getElem hkl⟩
   have hdr:Z.drop k=x::Z.drop (k+1):=by
    rw[List.drop_eq_getElem_cons hkl]
    rw[List.getElem?_eq_getElem hkl]at hxk;injection hxk with hxk;rw[hxk]
   obtain⟨ha,hb,hab⟩:=hZ x (List.mem_of_getElem? hxk)
   have hno:[x.1,x.2]∉s.C.map fun c=>[c.2.1,c.2.2.1]:=fun hm=>by
    obtain⟨c,hc,e⟩:=List.mem_map.1 hm
    injection e with e1 e2;injection e2 with e2 _
    rw[hdr,List.nodup_append]at hnd
    exact hnd.2.2 (q2kj c) (List.mem_map.2 ⟨c,hc,rfl⟩) x (List.mem_cons_self ..) (Prod.ext e1 e2)
   obtain⟨s1,E1,e1,h1,g1,g2,g3,g4,g5⟩:=q2cu d hd h (by omega) (by omega) ha hb hab hno
   have e2:=q2cq d hd h1
   simp only[Ck.x]at e1 e2
   have hm:s1.C.map q2kj=s.C.map q2kj ++ [x]:=by rw[g5,List.map_append];rfl
   obtain⟨s',E',e3,h',k1,k2,k3,k4,k5⟩:=ih (k+1) f s1 E1 (by omega) (by omega) h1 (by rw[g5,List.length_append,List.length_singleton];omega) (by omega) (by rw[hm,List.append_assoc,List.singleton_append,← hdr];exact hnd) (by rw[g3];exact hZ) (by omega)
   have hzk:elt zii (Z.map fun x=>(x.1,x.2,())) k=(x.1,x.2,()):=by unfold elt;rw[List.getElem?_map,hxk];rfl
   refine⟨s',E',?_,h',by rw[k1,g1],by rw[k2,g2],by rw[k3,g3],by omega,by rw[k5,hm,hdr,List.append_assoc];rfl⟩
   rw[← e3,iter]
   unfold bs2
   simp only[q2jk,List.length_map,show decide ((k:Int)<(Z.length:Int))=true by rw[decide_eq_true_eq];omega,cond_true,inN hkl,obif,Int.toNat_natCast,hzk,e1,obnd,show ((0:Int) != 0)=false from rfl,cond_false,e2,q2jj,wiS (show k<9223372036854775807 by omega)]
  ·have:k=Z.length:=by omega
   subst this
   exact fin f s E h
end Go.Proofs.YtfjjdnaggblaaaaGreat
namespace Go.Proofs.YtfjjdnaggblaaaaGreat
open Go Go.Tx Go.Pel
variable {P:List T3} {n dd:Int}
def nodL (l:List Nat):List Di:=l.map fun (k:Nat)=>((k:Int),())
theorem q2ku (l:List Nat):(nodL l).length=l.length:=List.length_map _
theorem q2kv (l:List Nat) (k:Nat):nodL (l ++ [k])=nodL l ++ [((k:Int),())]:=by unfold nodL;rw[List.map_append];rfl
theorem q2kw (d:Nat) (hP:FldOk P) (ht:TOk n dd) {i:Nat} (hi:i<P.length) {N:List T3} (hN:N.length=i) (root:Int) (self:q2eg->Option q2eb):∀ (m f:Nat) (es ps:List Nat),es.length=m->m<f->(∀ k∈es,k<i)->es.length<i+1->(∀ k∈ps,ldB P n dd k i=false) ->
 ∃ es2 ps2,es2++ps2=es++ps/\(∀ k∈ps2,ldB P n dd k i=false)/\(∀ k,es2.getLast?=some k->ldB P n dd k i=true) /\
 iter (q2ej d self) f ((i:Int),P,(P.length:Int),(i:Int),P,n,dd,0,[],root,N,nodL es,(elt ziii P i).1,(elt ziii P i).2.1,(elt ziii P i).2.2.1,(elt ziii P i).1,hdI ps,-1) =
 self (P,(P.length:Int),((i+1:Nat):Int),P,n,dd,0,[],(if es2=[] then (i:Int) else root),laid N es2 i ((elt ziii P i).1,hdI ps2,-1,()),nodL (es2 ++ [i]))
 | m,0,_,_,_,h,_,_,_=>by omega
 | m, f + 1, es, ps, hm, hf, hes, hlt, hps => by
  have ih:=q2kw d hP ht hi hN root self (m-1) f
  rw[iter]
  revert ih
  generalize iter (q2ej d self) f=me
  intro ih
  have hlen:=hP.len
  have hw:wi ((i:Int)+1)=((i+1:Nat):Int):=wiS (by omega)
  have hap:∀ (y:T3),apB i (List.length ([y]:List Diii))=true:=fun y=>Nat.ble_eq_true_of_le (show i+1<=100000 by omega)
  rcases q2kq es with rfl | ⟨es',k,rfl⟩
  ·refine⟨[],ps,rfl,hps,fun k hk=>(by cases hk),?_⟩
   have hap2:apB 0 (List.length ([((i:Int),())]:List Di))=true:=rfl
   simp only[q2ej,q2ku,List.length_nil,show decide (((0:Nat):Int)>0)=false from rfl,cond_false,q2ei,q2eh,hw,hN,hap,hap2,obif,cond_true]
   rfl
  ·rw[List.length_append,List.length_singleton]at hm hlt
   have hl1:(nodL (es' ++ [k])).length=es'.length+1:=by rw[q2ku,List.length_append];rfl
   have hk:k<i:=hes k (List.mem_append_right _ (List.mem_cons_self ..))
   have hkP:k<P.length:=by omega
   have hget:elt zi (nodL (es' ++ [k])) es'.length=((k:Int),()):=by
    rw[q2kv];have:=q2ak zi (l:=nodL es') (x:=((k:Int),()));rwa[q2ku]at this
   have hwd:wi (((es'.length+1:Nat):Int)-1)=(es'.length:Int):=by rw[q269 (by omega)];omega
   have e1:=q2c7 d (hP.ok _ (q290 ziii hkP)) (hP.ok _ (q290 ziii hi)) (by have:=q2ih hP hk hi;omega) ht
   have hpos:decide (((es'.length+1:Nat):Int)>0)=true:=by rw[decide_eq_true_eq];omega
   cases hq:leads (ofP (elt ziii P k)) (ofP (elt ziii P i)) n dd with
   | true =>
    have hkN:k<N.length:=by omega
    refine⟨es' ++ [k],ps,rfl,hps,fun k' hk'=>?_,?_⟩
    ·rw[List.getLast?_append]at hk'
     simp at hk';subst hk';exact hq
    ·have hap2:apB (es'.length+1) (List.length ([((i:Int),())]:List Di))=true:=Nat.ble_eq_true_of_le (show es'.length+1+1<=100000 by omega)
     have hlaid:∀ y,laid N (es' ++ [k]) i y=N.set k ((elt ziii N k).1,(elt ziii N k).2.1,(i:Int),()) ++ [y]:=fun y=>by
      unfold laid;rw[List.getLast?_append];rfl
     rw[hq]at e1
     simp only[q2ej,hl1,hpos,cond_true,hwd,inN (Nat.lt_succ_self es'.length),obif,Int.toNat_natCast,hget,inN hkP,e1,obnd,q2ei,inN hkN,inN hk,q2eh,List.length_set,hN,hap,hap2,hw]
     rw[if_neg (by simp),hlaid,q2kv (es' ++ [k]) i]
   | false =>
    obtain⟨es2,ps2,g1,g2,g3,g4⟩:=ih es' (k::ps) (by omega) (by omega) (fun k' hk'=>hes k' (List.mem_append_left _ hk')) (by omega) (fun k' hk'=>by
     rcases List.mem_cons.1 hk' with rfl | hk'
     ·exact hq
     ·exact hps k' hk')
    refine⟨es2,ps2,by rw[g1];simp,g2,g3,?_⟩
    have htk:List.take es'.length (nodL (es' ++ [k]))=nodL es':=by
     unfold nodL;rw[← List.map_take,List.take_left]
    have hd1:(decide ((0:Int)<=(es'.length:Int))&&decide ((es'.length:Int)<=((es'.length+1:Nat):Int)))=true:=by
     simp only[Bool.and_eq_true,decide_eq_true_eq];omega
    rw[hq]at e1
    rw[← g4]
    simp only[q2ej,hl1,hpos,cond_true,hwd,inN (Nat.lt_succ_self es'.length),obif,Int.toNat_natCast,hget,inN hkP,e1,obnd,cond_false,hd1,htk]
    rfl
theorem q2kx (d:Nat) (hd:5000<=d) (hP:FldOk P) (ht:TOk n dd):∀ (f i:Nat) (N:List T3) (es:List Nat),P.length-i<f->i<=P.length->N.length=i->Sp P n dd N i 0 es->es.length<i+1->(∀ j,j<i->(elt ziii N j).1=(elt ziii P j).1) ->
 ∃ r N',iter (q2eo d) f (P,(P.length:Int),(i:Int),P,n,dd,0,[],hdI es,N,nodL es)=some (r,N',0)/\Gr P n dd N' r 0 P.length/\N'.length=P.length/\∀ j,j<P.length->(elt ziii N' j).1=(elt ziii P j).1
 | 0,i,_,_,h,_,_,_,_,_=>by omega
 | f + 1, i, N, es, hf, hi, hN, hS, hes, hid => by
  have ih:=q2kx d hd hP ht f (i+1)
  rw[iter]
  revert ih
  generalize iter (q2eo d) f=self
  intro ih
  have hlen:=hP.len
  by_cases hl:i<P.length
  ·obtain⟨es2,ps2,g1,g2,g3,g4⟩:=q2kw d hP ht hl hN (hdI es) self es.length d es [] rfl (by omega) (fun k hk=>(hS.lt k hk).2) hes (fun k hk=>by cases hk)
   rw[List.append_nil]at g1
   have g4':iter (q2ej d self) d ((i:Int),P,(P.length:Int),(i:Int),P,n,dd,0,[],hdI es,N,nodL es,(elt ziii P i).1,(elt ziii P i).2.1,(elt ziii P i).2.2.1,(elt ziii P i).1,-1,-1)=_:=g4
   simp only[q2eo,q2el,show decide ((i:Int)<(P.length:Int))=true by rw[decide_eq_true_eq];omega,cond_true,inN hl,obif,Int.toNat_natCast,g4']
   have hget:∀ j,j<i->elt ziii (laid N es2 i ((elt ziii P i).1,hdI ps2,-1,())) j=if es2.getLast?=some j then ((elt ziii N j).1,(elt ziii N j).2.1,(i:Int),()) else elt ziii N j:=fun j hj=>q2io (by omega)
   have hne:=q2in (N:=N) (es:=es2) (i:=i) (y:=((elt ziii P i).1,hdI ps2,-1,())) hN
   have hnew:=q2il hP hl hN (N':=laid N es2 i ((elt ziii P i).1,hdI ps2,-1,())) (by rw[q2im];omega) g2 (by rw[hne]) (by rw[hne]) es2 0 (by rw[g1];exact hS) g3 (fun j hj hk=>by rw[hget j hj,if_neg (fun e=>hk j e rfl)]) (fun k hk=>by
    have hki:k<i:=(hS.lt k (by rw[← g1];exact List.mem_append_left _ (List.mem_of_getLast? hk))).2
    rw[hget k hki,if_pos hk]
    exact⟨rfl,rfl⟩)
   have hroot:(if es2=[] then (i:Int) else hdI es)=hdI (es2 ++ [i]):=by
    cases es2 with
    | nil=>rfl
    | cons k r=>rw[if_neg (by simp),← g1];rfl
   rw[hroot]
   have hle2:es2.length<=es.length:=by rw[← g1,List.length_append];omega
   exact ih _ _ (by omega) (by omega) (by rw[q2im,hN]) hnew (by rw[List.length_append,List.length_singleton];omega) (fun j hj=>by
    by_cases hji:j=i
    ·subst hji;rw[hne]
    ·rw[hget j (by omega)]
     split<;>exact hid j (by omega))
  ·have hie:i=P.length:=by omega
   subst hie
   simp only[q2eo,q2el,show decide ((P.length:Int)<(P.length:Int))=false by simp,cond_false]
   exact⟨_,N,rfl,hS.gr,hN,hid⟩
theorem of_eq (d:Nat) (hd:5000<=d) (hf:qmq (ptsL P)=0) (ht:TOk n dd):∃ r N,q2ee d ((P,()),(n,dd,()),())=some (r,N,0)/\Gr P n dd N r 0 P.length/\N.length=P.length/\∀ j,j<P.length->(elt ziii N j).1=(elt ziii P j).1:=by
 have hP:=q27r hf
 have e3:q2e7 d ((P,()),(n,dd,()),())=some 0:=by
  rw[q2e9]
  simp only[q2e8,q2hi d hf,q2hh d ht,obnd,show ((0:Int) != 0)=false from rfl,cond_false]
 obtain⟨r,N,g1,g2⟩:=q2kx d hd hP ht d 0 [] [] (by have:=hP.len;omega) (Nat.zero_le _) rfl .nil (by decide) (fun j hj=>absurd hj (Nat.not_lt_zero _))
 refine⟨r,N,?_,g2⟩
 rw[q2er]
 simp only[q2eq,e3,obnd,show ((0:Int) != 0)=false from rfl,cond_false]
 exact g1
end Go.Proofs.YtfjjdnaggblaaaaGreat
namespace Go.Proofs.YtfjjdnaggblaaaaGreat
open Go Go.Tx Go.Pel
variable {s:Ck} {E:List qim}
theorem q2ky {F:List T3} {nx:Int} {C:List Diii} (h:CertOk F nx C):(C.map q2kj).Nodup:=by
 have e:(C.map fun c=>[c.2.1,c.2.2.1])=(C.map q2kj).map fun x=>[x.1,x.2]:=by rw[List.map_map];rfl
 have:=h.nd
 rw[e]at this
 exact (List.pairwise_map.1 this).imp fun {x y} k e=>k (by rw[e])
theorem q2kz {P1 P2:List T3} {a b:T3} {x:Int×Int}:((lnk P1 a++hdl b P2).any fun y=>(x.1==y.1&&(x.2==y.2&&true)))=true↔x∈lnk P1 a++hdl b P2:=by
 rw[List.any_eq_true]
 constructor
 ·rintro⟨y,hy,e⟩
  simp only[Bool.and_true,Bool.and_eq_true,beq_iff_eq]at e
  rw[show x=y from Prod.ext e.1 e.2];exact hy
 ·intro h;exact⟨x,h,by simp⟩
theorem q2l0 (P1:List T3) (a:T3):(lnk P1 a).length<=1:=by unfold lnk;split<;>simp
theorem q2l1 (b:T3) (P2:List T3):(hdl b P2).length<=1:=by unfold hdl;split<;>simp
theorem q2l2 (d:Nat) (hd:5000<=d) (h:CkOk s E) {P1 P2:List T3} {a b:T3} (hlen:(P1++a::b::P2).length<=64) (hP:∀ p∈P1++a::b::P2,p∈s.F) (hn:((P1++a::b::P2).map fun p=>p.1).Nodup)
 (hQ:(s.C.map q2kj).Perm (adjP P1++(lnk P1 a++(hdl b P2++adjP P2)))) (hx:s.nx<=790) :
 ∃ (s':Ck) (E':List qim),q2je d (s.x,((P1++a::b::P2).map idU,()),((P1.length:Int),()),())=some (s'.n,s'.dd,s'.F,s'.nx,s'.C,s'.U,s'.B,s'.R,s'.H,s'.W,s'.D,true)/\CkOk s' E'/\s'.n=s.n/\s'.dd=s.dd/\s'.F=s.F/\s'.nx<=s.nx+3/\(s'.C.map q2kj).Perm (adjP (P1++b::a::P2)):=by
 have hnd:=q2ky h.ck
 rw[hQ.nodup_iff]at hnd
 have hl:=h.ck.len
 have hls:s.C.length<=80:=by
  have:=hQ.length_eq
  rw[List.length_map]at this
  rw[this]
  have h1:=q2da P1;have h2:=q2da P2;have h3:=q2l0 P1 a;have h4:=q2l1 b P2
  simp only[List.length_append,List.length_cons]at hlen ⊢
  omega
 obtain⟨s1,E1,f1,e1,h1,g1,g2,g3,g4,g5⟩:=q2ks d hd hlen (L2g:=iter (q2jk d) d) s.C.length 0 d s E (by omega) (Nat.zero_le _) h (by omega)
 rw[List.take_zero,List.nil_append,List.drop_zero]at g5
 have hQ1:(s1.C.map q2kj).Perm (adjP P1++adjP P2):=by
  have e:s1.C.map q2kj=(s.C.map q2kj).filter fun x=>!(lnk P1 a++hdl b P2).any fun y=>(x.1==y.1&&(x.2==y.2&&true)):=by
   rw[g5,List.filter_map];rfl
  rw[e]
  refine (hQ.filter _).trans (List.Perm.of_eq ?_)
  have ne:∀ {x},x∉lnk P1 a++hdl b P2->(!(lnk P1 a++hdl b P2).any fun y=>(x.1==y.1&&(x.2==y.2&&true)))=true:=fun {x} hx=>by
   cases hb:(lnk P1 a++hdl b P2).any fun y=>(x.1==y.1&&(x.2==y.2&&true)) with
   | false=>rfl
   | true=>exact absurd (q2kz.1 hb) hx
  have ye:∀ {x},x∈lnk P1 a++hdl b P2->¬ (!(lnk P1 a++hdl b P2).any fun y=>(x.1==y.1&&(x.2==y.2&&true)))=true:=fun {x} hx=>by
   rw[q2kz.2 hx];simp
  rw[List.nodup_append]at hnd
  obtain⟨_,n2,n3⟩:=hnd
  rw[List.nodup_append]at n2
  obtain⟨_,n4,n5⟩:=n2
  rw[List.nodup_append]at n4
  obtain⟨_,_,n6⟩:=n4
  rw[List.filter_append,List.filter_append,List.filter_append,
   List.filter_eq_self.2 (fun x hx=>ne fun k=>?_),List.filter_eq_nil_iff.2 (fun x hx=>ye (List.mem_append_left _ hx)),List.filter_eq_nil_iff.2 (fun x hx=>ye (List.mem_append_right _ hx)),List.filter_eq_self.2 (fun x hx=>ne fun k=>?_),List.nil_append,List.nil_append]
  ·rcases List.mem_append.1 k with k | k
   ·exact n5 x k x (List.mem_append_right _ hx) rfl
   ·exact n6 x k x hx rfl
  ·rcases List.mem_append.1 k with k | k
   ·exact n3 x hx x (List.mem_append_left _ k) rfl
   ·exact n3 x hx x (List.mem_append_right _ (List.mem_append_left _ k)) rfl
 -- the new certificates
 have hP':∀ p∈P1++b::a::P2,p∈s.F:=fun p hp=>hP p (((List.Perm.swap b a P2).append_left P1).symm.mem_iff.1 hp)
 have hn':((P1++b::a::P2).map fun p=>p.1).Nodup:=(((List.Perm.swap b a P2).append_left P1).map fun p=>p.1).nodup_iff.1 hn
 have had:=q2d6 P1 b a P2
 have hpm:(s1.C.map q2kj++((a.1,b.1)::(lnk P1 b++hdl a P2))).Perm (adjP (P1++b::a::P2)):=by
  rw[had]
  refine (hQ1.append_right _).trans ?_
  rw[List.append_assoc]
  refine List.Perm.append_left _ ?_
  refine List.perm_append_comm.trans ?_
  show ((a.1,b.1)::((lnk P1 b++hdl a P2)++adjP P2)).Perm _
  rw[List.append_assoc]
  exact List.perm_middle.symm
 have hz3:((a.1,b.1)::(lnk P1 b++hdl a P2)).length<=3:=by
  have h3:=q2l0 P1 b;have h4:=q2l1 a P2
  simp only[List.length_append,List.length_cons];omega
 have hl1:s1.C.length<=s.C.length:=by rw[g5];exact List.length_filter_le _ _
 obtain⟨s2,E2,e2,h2,k1,k2,k3,k4,k5⟩:=q2kt d hd hz3 _ 0 d s1 E1 (Nat.le_refl _) (Nat.zero_le _) h1 (by omega) (by omega) (by rw[List.drop_zero,hpm.nodup_iff];exact q2d8 hn') (fun x hx=>by
  have hm:x∈adjP (P1++b::a::P2):=hpm.mem_iff.1 (List.mem_append_right _ hx)
  obtain⟨⟨p,p1,p2⟩,⟨q,q1,q2⟩⟩:=q2d7 hm
  rw[g3]
  exact⟨⟨p,hP' p p1,p2⟩,⟨q,hP' q q1,q2⟩,q2d9 hn' hm⟩) (by omega)
 rw[List.drop_zero]at k5
 refine⟨s2,E2,?_,h2,by rw[k1,g1],by rw[k2,g2],by rw[k3,g3],by omega,by rw[k5];exact hpm⟩
 have ex:∀ f',q2jo d (iter (q2jk d) d) (iter (q2jo d (iter (q2jk d) d)) f') (bs1 ((P1++a::b::P2).map idU) (P1.length:Int) (s1.C.length:Int) s1)=iter (q2jk d) d (bs2 0 s1 (((a.1,b.1)::(lnk P1 b++hdl a P2)).map fun x=>(x.1,x.2,()))):=fun f'=>by
  have hl:((P1++a::b::P2).map idU).length=P1.length+2+P2.length:=by simp;omega
  have hl2:P1.length+2+P2.length<=64:=by rw[List.length_map]at hl;omega
  have ha:elt zi ((P1++a::b::P2).map idU) P1.length=(a.1,()):=q2kl q2km
  have hb:elt zi ((P1++a::b::P2).map idU) (P1.length+1)=(b.1,()):=q2kl q2kn
  have w1:wi ((P1.length:Int)+1)=((P1.length+1:Nat):Int):=wiS (by omega)
  have w2:wi ((P1.length:Int)+2)=((P1.length+2:Nat):Int):=by rw[q269 (by omega)];omega
  have hP2:P2=[] ∨ ∃ y P3,P2=y::P3:=by cases P2 with | nil=>exact Or.inl rfl | cons y P3=>exact Or.inr ⟨y,P3,rfl⟩
  have last:∀ (Z:List Dii),Z.length<=2->q2jn d (iter (q2jk d) d) ((P1++a::b::P2).map idU,(P1.length:Int),s1.n,s1.dd,s1.F,s1.nx,s1.C,s1.U,s1.B,s1.R,s1.H,s1.W,s1.D,0,0,[],0,[],[],[],[],[],[],[],Z)=iter (q2jk d) d (bs2 0 s1 (Z++(hdl a P2).map fun x=>(x.1,x.2,()))):=fun Z hZ=>by
   simp only[q2jn,w2,hl,Int.toNat_natCast,ha,inN (show P1.length<P1.length+2+P2.length by omega)]
   rcases hP2 with rfl | ⟨y,P3,rfl⟩
   ·rw[show decide (((P1.length+2:Nat):Int)<((P1.length+2+([]:List T3).length:Nat):Int))=false by rw[decide_eq_false_iff_not];simp,cond_false]
    simp only[q2jm,hdl,List.map_nil,List.append_nil];rfl
   ·have hy:elt zi ((P1++a::b::y::P3).map idU) (P1.length+2)=(y.1,()):=q2kl q2ko
    rw[show decide (((P1.length+2:Nat):Int)<((P1.length+2+(y::P3).length:Nat):Int))=true by rw[decide_eq_true_eq];simp;omega,cond_true,inN (show P1.length+2<P1.length+2+(y::P3).length by simp),hy]
    simp only[obif,cond_true,apB,show Nat.ble (Z.length + [((y.1:Int),a.1,())].length) 100000=true from Nat.ble_eq_true_of_le (show Z.length+1<=100000 by omega),q2jm,hdl,List.map_cons,List.map_nil]
    rfl
  unfold bs1
  simp only[q2jo,show decide ((s1.C.length:Int)<(s1.C.length:Int))=false by simp,cond_false,obif,hl,inN (show P1.length<P1.length+2+P2.length by omega),cond_true,w1,inN (show P1.length+1<P1.length+2+P2.length by omega),Int.toNat_natCast,ha,hb]
  rcases q2kq P1 with rfl | ⟨P0,z,rfl⟩
  ·simp only[show decide ((([]:List T3).length:Int)>0)=false from rfl,cond_false]
   refine (last _ (by simp)).trans ?_
   rfl
  ·have hz:elt zi (((P0 ++ [z])++a::b::P2).map idU) P0.length=(z.1,()):=q2kl q2kp
   have hl0:(P0 ++ [z]).length=P0.length+1:=by simp
   have w0:wi (((P0 ++ [z]).length:Int)-1)=(P0.length:Int):=by rw[hl0]at hl2 ⊢;rw[q269 (by omega)];omega
   have hlk:lnk (P0 ++ [z]) b=[(b.1,z.1)]:=by unfold lnk;rw[List.getLast?_concat]
   simp only[show decide (((P0 ++ [z]).length:Int)>0)=true by rw[decide_eq_true_eq,hl0];omega,cond_true,w0,inN (show P0.length<(P0 ++ [z]).length+2+P2.length by rw[hl0];omega),Int.toNat_natCast,hz,hlk,apB,show Nat.ble ([((a.1:Int),b.1,())].length + [((b.1:Int),z.1,())].length) 100000=true from rfl]
   refine (last _ (by simp)).trans ?_
   rfl
 rw[q2ju]
 simp only[q2jt,Ck.x]
 exact (e1.trans (ex f1)).trans e2
end Go.Proofs.YtfjjdnaggblaaaaGreat
namespace Go.Proofs.YtfjjdnaggblaaaaGreat
open Go Go.Tx Go.Pel
variable {s:Ck} {E:List qim}
theorem q2l3 (d:Nat) (hd:5000<=d) {P:List T3} (hl:P.length<=64) (hn:(P.map fun p=>p.1).Nodup) {i:Nat} {p:T3} (hp:P[i]?=some p):q2jz d ((P.map idU,()),(p.1,()),())=some (i:Int):=by
 have hi:=q294 hp
 rw[q2k5]
 simp only[q2k4]
 refine q26c (fun j=>(P.map idU,p.1,(j:Int))) _ i (fun j self hj=>?_) (fun self=>?_) (by omega) rfl
 ·obtain⟨q,hq⟩:∃ q,P[j]?=some q:=⟨_,List.getElem?_eq_getElem (by omega)⟩
  have hne:q.1≠p.1:=fun e=>by
   have:=(List.getElem?_inj (i:=j) (j:=i) (by rw[List.length_map];omega) hn).1 (by rw[List.getElem?_map,List.getElem?_map,hq,hp];simp[e])
   omega
  simp only[q2k1,List.length_map,show decide ((j:Int)<(P.length:Int))=true by rw[decide_eq_true_eq];omega,cond_true,inN (show j<P.length by omega),obif,Int.toNat_natCast,q2kl hq,show (q.1==p.1)=false by rw[beq_eq_false_iff_ne];exact hne,cond_false,wiS (show j<9223372036854775807 by omega)]
 ·simp only[q2k1,List.length_map,show decide ((i:Int)<(P.length:Int))=true by rw[decide_eq_true_eq];omega,cond_true,inN hi,obif,Int.toNat_natCast,q2kl hp,beq_self_eq_true]
theorem q2l4:∀ {P:List T3} {x:Int×Int},x∈adjP P->∃ P1 a b P2,P=P1++a::b::P2/\x=(b.1,a.1)
 | [],x,h=>(List.not_mem_nil h).elim
 | [_],x,h=>(List.not_mem_nil h).elim
 | a::b::r, x, h => by
  rcases List.mem_cons.1 h with k | k
  ·exact⟨[],a,b,r,rfl,k⟩
  ·obtain⟨P1,a',b',P2,e,hx⟩:=q2l4 k
   exact⟨a::P1,a',b',P2,by rw[e];rfl,hx⟩
theorem q2l5 {R:T3->T3->Prop} {P1 P2:List T3} {a b:T3} (h:(P1++a::b::P2).Pairwise R) (hb:R b a):(P1++b::a::P2).Pairwise R:=by
 rw[List.pairwise_append]at h ⊢
 obtain⟨h1,h2,h3⟩:=h
 rw[List.pairwise_cons,List.pairwise_cons]at h2
 obtain⟨k1,k2,k3⟩:=h2
 refine⟨h1,List.pairwise_cons.2 ⟨fun x hx=>?_,List.pairwise_cons.2 ⟨fun x hx=>k1 x (List.mem_cons_of_mem _ hx),k3⟩⟩,fun x hx y hy=>?_⟩
 ·rcases List.mem_cons.1 hx with e | e
  ·rw[e];exact hb
  ·exact k2 x e
 ·exact h3 x hx y (((List.Perm.swap b a P2)).symm.mem_iff.1 hy)
theorem q2l6 {P1 P2:List T3} {a b:T3}:((((P1++a::b::P2).map idU).set P1.length (b.1,())).set (P1.length+1) (a.1,()))=(P1++b::a::P2).map idU:=by
 rw[List.map_append,List.set_append_right _ _ (by simp),List.set_append_right _ _ (by simp),List.map_append,List.length_map,Nat.sub_self,show P1.length+1-P1.length=1 by omega]
 rfl
def invs (P:List T3) (m e:Int):Nat:=(q1zl P).countP fun x=>leads (ofP x.2) (ofP x.1) m e
def kin (n dd:Int) (a b:T3):Prop:=∃ m e,1<=e/\leQ m e n dd/\leads (ofP a) (ofP b) m e=true
def gs1 (o:List Di) (m k:Int) (s:Ck) (tn td:Int):q2kb:=(o,m,k,s.n,s.dd,s.F,s.nx,s.C,s.U,s.B,s.R,s.H,s.W,s.D,tn,td,0,0,[],0,[],[],[],[],[],[],[])
structure GoneI (s:Ck) (E:List qim) (P:List T3) (tn td:Int):Prop where
 ok:CkOk s E
 pm:P.Perm s.F
 len:P.length<=64
 adj:(s.C.map q2kj).Perm (adjP P)
 kin:P.Pairwise (kin s.n s.dd)
 le:leQ s.n s.dd tn td
theorem q2l7 (d:Nat) (hd:5000<=d) {tn td:Int} (ht:TOk tn td) {m k:Nat} (hm:m<=200) (hkm:k<=m) {P:List T3} (h:GoneI s E P tn td) (hx:s.nx<=100+3*(k:Int)) {ev:qim} {H1:List qim} (hH:s.H=ev::H1) (hdue:leQ ev.1 ev.2.1 tn td) (self:q2kb->Option q2k7) :
 ∃ (s':Ck) (E':List qim) (P':List T3),q2ke d self (gs1 (P.map idU) (m:Int) (k:Int) s tn td)=self (gs1 (P'.map idU) (m:Int) ((k+1:Nat):Int) s' tn td)/\GoneI s' E' P' tn td/\s'.F=s.F/\s'.nx<=100+3*((k+1:Nat):Int)/\invs P tn td=invs P' tn td+1:=by
 have hF:=h.ok.fo
 have hids:=q2dh hF h.pm
 have hPF:∀ p∈P,p∈s.F:=fun p hp=>h.pm.mem_iff.1 hp
 obtain⟨c,C1,C2,s1,E1,hC,hw,e1,h1,g1,g2,g3,g4,g5⟩:=q2d1 d hd h.ok ht h.le hH hdue
 have hev:=h.ok.ag.ks.ev ev (by rw[hH];exact List.mem_cons_self ..)
 have hcm:c∈s.C:=by rw[hC];simp
 obtain⟨P1,a,b,P2,rfl,hx2⟩:=q2l4 (h.adj.mem_iff.1 (List.mem_map.2 ⟨c,hcm,rfl⟩))
 have hcb:c.2.1=b.1:=congrArg Prod.fst hx2
 have hca:c.2.2.1=a.1:=congrArg Prod.snd hx2
 have ha:a∈s.F:=hPF a (by simp)
 have hb:b∈s.F:=hPF b (by simp)
 have hpa:ptI s.F c.2.2.1=a:=by rw[hca];exact q2b7 hF ha
 have hpb:ptI s.F c.2.1=b:=by rw[hcb];exact q2b7 hF hb
 have hab:a.1≠b.1:=by rw[← hca,← hcb];exact fun e=>h.ok.ck.ne c hcm e.symm
 unfold q2ck at hw
 rw[hpa,hpb]at hw
 obtain⟨ktm,kle,kled,_⟩:=q2b3 (hF.ok a ha) (hF.ok b hb) hab h.ok.tk hw
 -- the certificates that are left
 have hQ:(s1.C.map q2kj).Perm (adjP P1++(lnk P1 a++(hdl b P2++adjP P2))):=by
  have h2:=h.adj
  rw[q2d6,hC,List.map_append,List.map_cons,show q2kj c=(b.1,a.1) from hx2]at h2
  have h3:((b.1,a.1)::(s1.C.map q2kj)).Perm ((b.1,a.1)::(adjP P1++(lnk P1 a++(hdl b P2++adjP P2)))):=by
   rw[g5,List.map_append]
   refine List.perm_middle.symm.trans (h2.trans ?_)
   rw[← List.append_assoc,← List.append_assoc]
   exact List.perm_middle
  exact h3.cons_inv
 obtain⟨s2,E2,e2,h2,k1,k2,k3,k4,k5⟩:=q2l2 d hd h1 h.len (by rw[g3];exact hPF) hids hQ (by omega)
 have e3:=q2cq d hd h1
 have e4:=q26q d ev.1 ev.2.1 tn td hev.b1 hev.b2 ht.b1 ht.b2
 have e5:=q2l3 d hd h.len hids (q2km (P1:=P1) (a:=a) (b:=b) (P2:=P2))
 have hq:decide (cmpQ ev.1 ev.2.1 tn td>0)=false:=by
  rw[decide_eq_false_iff_not];exact (q27w ..).1 hdue
 have hl:((P1++a::b::P2).map idU).length=P1.length+2+P2.length:=by simp;omega
 have hl2:P1.length+2+P2.length<=64:=by have:=h.len;simp at this;omega
 have hea:elt zi ((P1++a::b::P2).map idU) P1.length=(a.1,()):=q2kl q2km
 have heb:elt zi ((P1++a::b::P2).map idU) (P1.length+1)=(b.1,()):=q2kl q2kn
 have w1:wi ((P1.length:Int)+1)=((P1.length+1:Nat):Int):=wiS (by omega)
 have hle2:leQ s2.n s2.dd tn td:=by rw[k1,k2,g1,g2];exact hdue
 refine⟨s2,E2,P1++b::a::P2,?_,⟨h2,?_,?_,k5,?_,hle2⟩,by rw[k3,g3],by omega,?_⟩
 ·simp only[Ck.x]at e1 e2 e3
  rw[← hca]at e5
  unfold gs1
  simp only[q2ke,show decide ((k:Int)<=wi (2*(m:Int)))=true by rw[q269 (by omega),decide_eq_true_eq];omega,cond_true,e1,obnd,show ((0:Int)==6)=false from rfl,show ((0:Int) != 0)=false from rfl,cond_false,obif,e3,e4,hq,q2kd,e5,show decide ((P1.length:Int)<0)=false by rw[decide_eq_false_iff_not];omega,w1,hl,show decide (((P1.length+1:Nat):Int)≥((P1.length+2+P2.length:Nat):Int))=false by rw[decide_eq_false_iff_not];omega,inN (show P1.length+1<P1.length+2+P2.length by omega),inN (show P1.length<P1.length+2+P2.length by omega),Int.toNat_natCast,heb,hea,show (b.1 != c.2.1)=false by rw[hcb];simp,q2kc,e2,Bool.not_true,List.nil_append,apB,List.length_nil,show Nat.ble (0+(P1.length+2+P2.length)) 100000=true from Nat.ble_eq_true_of_le (by omega),q2l6,wiS (show k<9223372036854775807 by omega)]
 ·rw[k3,g3];exact ((List.Perm.swap b a P2).append_left P1).symm.trans h.pm
 ·have:=h.len;simp only[List.length_append,List.length_cons]at this ⊢;omega
 ·refine q2l5 (h.kin.imp fun {x y} hk=>?_) ?_
  ·obtain⟨m',e',q1,q2,q3⟩:=hk
   refine⟨m',e',q1,?_,q3⟩
   rw[k1,k2,g1,g2]
   exact q2aw q1 h.ok.tk.pos ktm.pos q2 kle
  ·exact⟨ev.1,ev.2.1,ktm.pos,by rw[k1,k2,g1,g2];exact q2av _ _,kled⟩
 ·have hkab:Go.Proofs.YtfjjdnaggblaaaaGreat.kin s.n s.dd a b:=by
   have:=h.kin
   rw[List.pairwise_append]at this
   exact (List.pairwise_cons.1 this.2.1).1 b (List.mem_cons_self ..)
  obtain⟨m',e',q1,q2,q3⟩:=hkab
  have ho:=q2b2 (hF.ok a ha) (hF.ok b hb) hab q1 ktm.pos ht.pos (q2aw q1 h.ok.tk.pos ktm.pos q2 kle) hdue q3 kled
  have hno:leads (ofP a) (ofP b) tn td=false:=by
   have:=q2az (hF.ok a ha) (hF.ok b hb) hab tn td
   rw[ho]at this
   cases hh:leads (ofP a) (ofP b) tn td with
   | false=>rfl
   | true=>rw[hh]at this;cases this
  have:=q2dc (S:=fun x=>leads (ofP x.2) (ofP x.1) tn td) (a:=a) (b:=b) (P2:=P2) P1
  simp only[ho,hno,Bool.false_eq_true,if_false,if_true]at this
  unfold invs;omega
theorem q2l8 (d:Nat) (hd:5000<=d) {tn td:Int} (ht:TOk tn td) {m k:Nat} (hm:m<=200) {P:List T3} (h:GoneI s E P tn td) (hi:invs P tn td+k=m) (hdue:∀ ev∈s.H,¬ leQ ev.1 ev.2.1 tn td) (self:q2kb->Option q2k7) :
 ∃ (s':Ck) (E':List qim),q2ke d self (gs1 (P.map idU) (m:Int) (k:Int) s tn td)=some (s'.n,s'.dd,s'.F,s'.nx,s'.C,s'.U,s'.B,s'.R,s'.H,s'.W,s'.D,(ordT s.F tn td).map idU,true)/\CkOk s' E'/\s'.n=tn/\s'.dd=td/\s'.F=s.F/\(s'.C.map q2kj).Perm (adjP (ordT s.F tn td))/\(∀ c∈s'.C,leads (ofP (ptI s.F c.2.2.1)) (ofP (ptI s.F c.2.1)) tn td=true)/\∀ ev∈s'.H,¬ leQ ev.1 ev.2.1 tn td:=by
 have hF:=h.ok.fo
 obtain⟨e1,e2,h1,hl⟩:=q2d2 d hd h.ok ht h.le hdue
 have e3:=q2cq d hd h1
 have hw:P.Pairwise fun a b=>leads (ofP a) (ofP b) tn td=true:=by
  refine q2de hF (fun p hp=>h.pm.mem_iff.1 hp) fun x hx=>?_
  obtain⟨c,hc,rfl⟩:=List.mem_map.1 (h.adj.mem_iff.2 hx)
  exact hl c hc
 have hP:=q2df hF h.pm hw
 have hid:P.Pairwise fun a b=>a.1≠b.1:=List.pairwise_map.1 (q2dh hF h.pm)
 have h0:invs P tn td=0:=q2dg hid hw
 have hk:k=m:=by omega
 refine⟨⟨tn,td,s.F,s.nx,s.C,s.U,s.B,s.R,s.H,s.W,s.D⟩,E,?_,h1,rfl,rfl,rfl,by rw[← hP];exact h.adj,hl,hdue⟩
 simp only[Ck.x]at e1 e2 e3
 unfold gs1
 rw[hk,← hP]
 simp only[q2ke,show decide ((m:Int)<=wi (2*(m:Int)))=true by rw[q269 (by omega),decide_eq_true_eq];omega,cond_true,e1,obnd,show ((6:Int)==6)=true from rfl,e2,obif,beq_self_eq_true,e3]
theorem q2l9 (d:Nat) (hd:5000<=d) {tn td:Int} (ht:TOk tn td) {m:Nat} (hm:m<=200):∀ (f k:Nat) (s:Ck) (E:List qim) (P:List T3),GoneI s E P tn td->invs P tn td+k=m->s.nx<=100+3*(k:Int)->m-k<f ->
 ∃ (s':Ck) (E':List qim),iter (q2ke d) f (gs1 (P.map idU) (m:Int) (k:Int) s tn td)=some (s'.n,s'.dd,s'.F,s'.nx,s'.C,s'.U,s'.B,s'.R,s'.H,s'.W,s'.D,(ordT s.F tn td).map idU,true)/\CkOk s' E'/\s'.n=tn/\s'.dd=td/\s'.F=s.F/\(s'.C.map q2kj).Perm (adjP (ordT s.F tn td))/\(∀ c∈s'.C,leads (ofP (ptI s.F c.2.2.1)) (ofP (ptI s.F c.2.1)) tn td=true)/\∀ ev∈s'.H,¬ leQ ev.1 ev.2.1 tn td:=by
 intro f
 induction f with
 | zero=>intro k s E P h hi hx hf;omega
 | succ f ih =>
  intro k s E P h hi hx hf
  rw[iter]
  by_cases hdue:∀ ev∈s.H,¬ leQ ev.1 ev.2.1 tn td
  ·exact q2l8 d hd ht hm h hi hdue _
  ·obtain⟨ev,H1,hH,hd1⟩:∃ ev H1,s.H=ev::H1/\leQ ev.1 ev.2.1 tn td:=by
    have ag:=h.ok.ag
    revert hdue ag
    cases s.H with
    | nil=>intro hdue _;exact absurd (fun ev he=>(List.not_mem_nil he).elim) hdue
    | cons ev H1 =>
     intro hdue ag
     refine⟨ev,H1,rfl,?_⟩
     by_cases ho:leQ ev.1 ev.2.1 tn td
     ·exact ho
     ·refine absurd (fun ev' he' hq=>ho ?_) hdue
      exact q2aw (qjv (ag.ks.ev ev (List.mem_cons_self ..)).ok).1 (qjv (ag.ks.ev ev' he').ok).1 ht.pos (q2cz (ag.top ev' he')) hq
   obtain⟨s1,E1,P1,e1,h1,g1,g2,g3⟩:=q2l7 d hd ht hm (show k<=m by omega) h hx hH hd1 (iter (q2ke d) f)
   rw[e1,← g1]
   exact ih (k+1) s1 E1 P1 h1 (by omega) g2 (by omega)
end Go.Proofs.YtfjjdnaggblaaaaGreat
namespace Go.Proofs.YtfjjdnaggblaaaaGreat
open Go Go.Tx Go.Proofs.Tryz
set_option maxRecDepth 100000
set_option maxHeartbeats 0
noncomputable section
abbrev q2la:Type:=qiv×DLiE×qi1×Unit
abbrev q2lb:Type:=Bool
noncomputable def q2lc (d:Nat):Ent:=⟨tysT,(orc [(q264 d).s,(q1my d).s,q101 (q103 d),(q1ol d).s,(q1hk d).s,qza (qzc d),(q15t d).s,(q1bk d).s,(q1v7 d).s,(q1x0 d).s,(q2ec d).s,(q1xv d).s,(q2gv d).s]),f15,mkPl [(1,(.val Ri)),(3,(.box [.any,.any,.val Riii,.any,.val Riii,.val Ri,.val Rb,.val Ri,.val qil,.val Ri,.val Riii])),(5,(.box [.any,.any,.val Riii])),(7,(.own Ri)),(9,(.own Ri)),(16,(.box [.any,.any,.any,.any,.any,.val qi3])),(18,(.box [.own Ri,.own Ri])),(22,(.box [.any,.own Riii]))] [([0],[1,3,5]),([1],[1,3,5,7,8]),([2],[1,3,5,7,8,9,10]),([3],[1,3,5,81]),([5],[1,3,5,11,12]),([6],[1,3,5,11,12,13,14]),([7],[1,5,125]),([9],[1,5,128]),([10,15],[6]),([11],[1,5,16,17]),([12],[1,5,16,17,18,19]),([13],[1,5,16,17,18,19,20,21]),([14],[1,16,17,18,19,20,21,22,23])] [] [],d,15,[.row qiu true,.row RLiE false,.row qi0 true],.undef,[.bo]⟩
theorem q2ld (d:Nat):COK prog (q2lc d).s:=Ent.k mixed tys (qeo (ac1 (q265 d) (ac1 (q1mz d) (ac1 (q105 d) (ac1 (q1om d) (ac1 (q1hl d) (ac1 (qze d) (ac1 (q15u d) (ac1 (q1bl d) (ac1 (q1v8 d) (ac1 (q1x1 d) (ac1 (q2ed d) (ac1 (q1xw d) (ac1 (q2gw d) ac0)))))))))))))) ⟨by kernel_rfl,by kernel_rfl,by kernel_rfl⟩
noncomputable def q2le (d:Nat) (x:q2la):Option q2lb:=(q2lc d).F x
def q2lf (d:Nat):(List Di×Bool×Int×Int×List Diii)->Option q2lb:=fun (ya,yb,yc,yd,ye) =>
 (bif yb then none else (bif ((ya.length:Int)==0) then some true else (obnd (q266 d ((yc,yd,ye,()),(5,0,0,0,0,0,0,()),())) fun (_,_,_,_,r5e,_,_,_,_,r5j)=>(obnd (q1v9 d ((ye,()),(yc,yd,()),(ya,()),())) fun (r6a,r6b,r6c)=>(obnd (q1x2 d ((r6a,r6b,()),())) fun (r7a,r7b)=>(obnd (q2ee d ((ye,()),(yc,yd,()),())) fun (r8a,r8b,r8c)=>(obif (r5j==0) (obif (inB 0 ya.length) (obif (r5e==(elt zi ya 0).1) (obif (r6c==0) (obif (r7b==0) (obnd (q1xx d ((r6a,r6b,()),())) fun r10=>(obif (r10==0) (obif (inB 0 ya.length) (obif (r7a==(elt zi ya 0).1) (obif (r8c==0) (obnd (q2gx d ((r8a,r8b,()),())) fun r12=>(obif (r12==0) (obif ((r8b.length:Int)==(ya.length:Int)) (obif (inB r8a r8b.length) (obif (inB 0 ya.length) (some ((elt ziii r8b r8a.toNat).1==(elt zi ya 0).1)) none) none) (some false)) (some false))) (some false)) (some false)) none) (some false))) (some false)) (some false)) (some false)) none) (some false))))))))
def q2lg (d:Nat):(List Di×Bool×Int×Int×List Diii×Int×List Diii×List Di×List Db×List Di×List qim×List Di×List Diii×Int×Int×List Diii)->Option q2lb:=fun (ya,yb,_,_,_,_,_,yh,yi,yj,yk,yl,ym,yn,yo,yp) =>
 (bif yb then none else (obnd (q15v d ((yh,yi,yj,()),())) fun (r3a,r3b)=>(obnd (q1bm d ((yh,yi,yj,yk,yl,()),())) fun (r4a,r4b,_,_,_,r4f)=>(obif (r3b != 0) (q2lf d (ya,true,yn,yo,yp)) (obif (r3a != (wi (200-(ym.length:Int)))) (q2lf d (ya,true,yn,yo,yp)) (obif (!((r4f==0)==(decide ((ym.length:Int)>0)))) (q2lf d (ya,true,yn,yo,yp)) (obif (r4f==0) (obnd (q1n0 d ((r4a,r4b,()),(yn,yo,()),())) fun r6=>(q2lf d (ya,(decide (r6<=0)),yn,yo,yp))) (q2lf d (ya,false,yn,yo,yp)))))))))
def q2lh (d:Nat):q2la->Option q2lb:=fun ((xAa,xAb,xAc,xAd,xAe,xAf,xAg,xAh,xAi,xAj,xAk,_),(xBa,_),(xCa,xCb,xCc,_),_) =>
 (obnd (q103 d ((xCc,()),(xCa,xCb,()),())) fun (r1a,r1b)=>(obnd (q1hm d ((xAd,xAe,()),(xCc,()),(xCa,xCb,()),())) fun (r2a,r2b)=>(obif (r1b != 0) (q2lg d (xBa,true,xAa,xAb,xAc,xAd,xAe,xAf,xAg,xAh,xAi,xAj,xAk,xCa,xCb,xCc)) (obif (r2b != 0) (q2lg d (xBa,true,xAa,xAb,xAc,xAd,xAe,xAf,xAg,xAh,xAi,xAj,xAk,xCa,xCb,xCc)) (obnd (qzc d ((xBa,()),(r1a,()),())) fun r3=>(obif (!r3) (q2lg d (xBa,true,xAa,xAb,xAc,xAd,xAe,xAf,xAg,xAh,xAi,xAj,xAk,xCa,xCb,xCc)) (obif ((r2a.length:Int) != (xAe.length:Int)) (q2lg d (xBa,true,xAa,xAb,xAc,xAd,xAe,xAf,xAg,xAh,xAi,xAj,xAk,xCa,xCb,xCc)) (obif ((xAe.length:Int) != (tmax (wi ((xBa.length:Int)-1)) 0)) (q2lg d (xBa,true,xAa,xAb,xAc,xAd,xAe,xAf,xAg,xAh,xAi,xAj,xAk,xCa,xCb,xCc)) (obnd (q1on d ((xAd,xAe,()),(xCc,()),())) fun r5=>(q2lg d (xBa,(!r5),xAa,xAb,xAc,xAd,xAe,xAf,xAg,xAh,xAi,xAj,xAk,xCa,xCb,xCc)))))))))))
theorem q2li (d:Nat) (x:q2la):q2le d x=q2lh d x:=by kernel_rfl
abbrev q2lj:Type:=qi1×Dii×Unit
abbrev q2lk:Type:=Bool
noncomputable def q2ll (d:Nat):Ent:=⟨tysT,(orc [(q2dr d).s,(q2dk d).s,(q2j5 d).s,(q264 d).s,(q1my d).s,(q2dy d).s,q101 (q103 d),(q1hv d).s,(q1jw d).s,(q1pp d).s,(q2k8 d).s,(q2lc d).s]),f3,mkPl [(2,(.box [.any,.any,.val Riii])),(5,(.box [.any,.any,.own Riii])),(6,(.box [.any,.any,.any,.any,.any,.val qi3])),(8,(.own Ri)),(10,(.box [.any,.any,.val Riii,.any,.val Riii,.val Ri,.val Rb,.val Ri,.val qil,.val Ri,.val Riii])),(13,(.box [.any,.any,.own Riii,.any,.own Riii,.val Ri,.val Rb,.val Ri,.own qil,.own Ri,.own Riii]))] [([0],[2,3]),([1],[2,3,31]),([2,9,22],[4]),([3],[2,3,33]),([5],[2,3,5,6,7]),([6],[2,3,5,6,43]),([8],[2,3,5,6,46]),([10],[2,3,5,6,8,9]),([11],[2,3,5,6,8,9,10,11]),([12],[3,5,6,8,10,92]),([14,16,20],[3,5,6,8,10,12]),([15],[3,5,6,8,10,12,96]),([17],[3,5,6,8,10,12,13,15]),([18],[3,5,6,8,10,12,13,121]),([21],[5,8,10,16])] [(21,[(8,(.val Ri))])] [(15,[3,5,6,8,10,12])],d,3,[.row qi0 true,.row Rii true],.undef,[.bo]⟩
theorem q2lm (d:Nat):COK prog (q2ll d).s:=Ent.k mixed tys (qeo (ac1 (q2ds d) (ac1 (q2dl d) (ac1 (q2j6 d) (ac1 (q265 d) (ac1 (q1mz d) (ac1 (q2dz d) (ac1 (q105 d) (ac1 (q1hw d) (ac1 (q1jx d) (ac1 (q1pq d) (ac1 (q2k9 d) (ac1 (q2ld d) ac0))))))))))))) ⟨by kernel_rfl,by kernel_rfl,by kernel_rfl⟩
noncomputable def q2ln (d:Nat) (x:q2lj):Option q2lk:=(q2ll d).F x
abbrev q2lo:Type:=Int×Int×Int×Int×Int×List Diii×Int×Int×Int×Int×Int×List qi4×List Di×Int×Int×List Diii×Int×List Diii×List Di×List Db×List Di×List qim×List Di×List Diii
def q2lp (d:Nat) (self1:q2lo->Option q2lk):(Int×Bool×Int×Int×Int×Int×List Diii×Int×Int×Int×Int×Int×List qi4×List Di×Int×Int×List Diii×Int×List Diii×List Di×List Db×List Di×List qim×List Di×List Diii×Int×Int×Int×List Di×List Db×List Di×List Diii×List Diii×List qim×List Di×List Diii)->Option q2lk:=fun (ya,yb,yc,yd,ye,yf,yg,yh,yi,yj,yk,yl,ym,yn,_,_,_,_,_,_,_,_,_,_,_,yz,yaa,yab,yac,yad,yae,yaf,yag,yah,yai,yaj) =>
 (bif yb then none else (self1 ((wi (ya+1)),yc,yd,ye,yf,yg,yh,yi,yj,yk,yl,ym,yn,yz,yaa,yaf,yab,yag,yac,yad,yae,yah,yai,yaj)))
def q2lq (d:Nat) (self1:q2lo->Option q2lk):q2lo->Option q2lk:=fun (x1a,x1b,x1c,x1d,x1e,x1f,x1g,x1h,x1i,x1j,x1k,x1l,x1m,x1n,x1o,x1p,x1q,x1r,x1s,x1t,x1u,x1v,x1w,x1x) =>
 (bif (decide (x1a<(x1m.length:Int))) then (obif (inB x1a x1m.length) (let e6:=(wi (x1a-1));(obif (inB e6 x1m.length) (obnd (q1jy d ((x1n,x1o,x1p,x1q,x1r,x1s,x1t,x1u,x1v,x1w,x1x,()),((elt zi x1m x1a.toNat).1,(elt zi x1m e6.toNat).1,()),())) fun (r8a,r8b,r8c,r8d,r8e,r8f,r8g,r8h,r8i,r8j,r8k,_,r8m)=>(obif (r8m != 0) (q2lp d self1 (x1a,true,x1b,x1c,x1d,x1e,x1f,x1g,x1h,x1i,x1j,x1k,x1l,x1m,x1n,x1o,x1p,x1q,x1r,x1s,x1t,x1u,x1v,x1w,x1x,r8a,r8b,r8d,r8f,r8g,r8h,r8c,r8e,r8i,r8j,r8k)) (obnd (q1pr d ((r8a,r8b,r8c,r8d,r8e,r8f,r8g,r8h,r8i,r8j,r8k,()),())) fun r9=>(q2lp d self1 (x1a,(r9 != 0),x1b,x1c,x1d,x1e,x1f,x1g,x1h,x1i,x1j,x1k,x1l,x1m,x1n,x1o,x1p,x1q,x1r,x1s,x1t,x1u,x1v,x1w,x1x,r8a,r8b,r8d,r8f,r8g,r8h,r8c,r8e,r8i,r8j,r8k))))) none)) none) else (obnd (q2ka d ((x1n,x1o,x1p,x1q,x1r,x1s,x1t,x1u,x1v,x1w,x1x,()),(x1m,()),(x1b,x1c,()),((x1l.length:Int),()),())) fun (r5a,r5b,r5c,r5d,r5e,r5f,r5g,r5h,r5i,r5j,r5k,r5l,r5m)=>(obif r5m (obnd (q2dt d ((x1d,x1e,x1f,()),())) fun r6=>(obif (r6==0) (obnd (q2le d ((r5a,r5b,r5c,r5d,r5e,r5f,r5g,r5h,r5i,r5j,r5k,()),(r5l,()),(x1d,x1e,x1f,()),())) fun r7=>(some r7)) (some false))) (some false))))
def q2lr:q2lo->St:=fun (x1a,x1b,x1c,x1d,x1e,x1f,x1g,x1h,x1i,x1j,x1k,x1l,x1m,x1n,x1o,x1p,x1q,x1r,x1s,x1t,x1u,x1v,x1w,x1x)=>⟨[(3,.ptr 0 0),(5,.ptr 1 0),(6,.ptr 3 0),(8,.rs 4),(10,.ptr 5 0),(12,i6 x1a)],[.cells [i6 x1b,i6 x1c],.cells [i6 x1d,i6 x1e,.rs 2],.rows Riii x1f,.cells [i6 x1g,i6 x1h,i6 x1i,i6 x1j,i6 x1k,.fz qi3 x1l],.rows Ri x1m,.cells [i6 x1n,i6 x1o,.fz Riii x1p,i6 x1q,.fz Riii x1r,.fz Ri x1s,.fz Rb x1t,.fz Ri x1u,.fz qil x1v,.fz Ri x1w,.fz Riii x1x]]⟩
def q2ls (d:Nat) (L1_g:q2lo->Option q2lk):(Bool×Int×Int×Int×Int×List Diii×Int×Int×Int×Int×Int×List qi4×List Di×Int×Int×List Diii×Int×List Diii×List Di×List Db×List Di×List qim×List Di×List Diii)->Option q2lk:=fun (ya,yb,yc,yd,ye,yf,yg,yh,yi,yj,yk,yl,ym,yn,yo,yp,yq,yr,ys,yt,yu,yv,yw,yx) =>
 (bif ya then none else (L1_g (1,yb,yc,yd,ye,yf,yg,yh,yi,yj,yk,yl,ym,yn,yo,yp,yq,yr,ys,yt,yu,yv,yw,yx)))
def q2lt (d:Nat) (L1_g:q2lo->Option q2lk):(Bool×Int×Int×List Diii×Int×Int)->Option q2lk:=fun (ya,yb,yc,yd,ye,yf) =>
 (bif ya then some true else (obnd (q2j7 d ()) fun r1=>(bif (!r1) then none else (obnd (q266 d ((yb,yc,yd,()),(4,0,0,0,0,ye,yf,()),())) fun (r2a,r2b,r2c,r2d,r2e,r2f,r2g,r2h,r2i,r2j)=>(bif (r2j != 0) then none else (bif (r2d != 0) then (obif (r2d==44) (obnd (q1n0 d ((ye,yf,()),(yb,yc,()),())) fun r3=>(obif (decide (r3<=0)) (obnd (q2e0 d ((r2a,r2b,r2c,()),(yb,yc,yd,()),())) fun r4=>(some r4)) (some false))) (some false)) else (obnd (q103 d ((yd,()),(yb,yc,()),())) fun (r3a,r3b)=>(obnd (q1hx d ((yd,()),(yb,yc,()),())) fun (r4a,r4b,r4c,r4d,r4e,r4f,r4g,r4h,r4i,r4j,r4k,r4l)=>(obif (r3b != 0) (q2ls d L1_g (true,ye,yf,r2a,r2b,r2c,r2d,r2e,r2f,r2g,r2h,r2i,r3a,r4a,r4b,r4c,r4d,r4e,r4f,r4g,r4h,r4i,r4j,r4k)) (obif (r4l != 0) (q2ls d L1_g (true,ye,yf,r2a,r2b,r2c,r2d,r2e,r2f,r2g,r2h,r2i,r3a,r4a,r4b,r4c,r4d,r4e,r4f,r4g,r4h,r4i,r4j,r4k)) (q2ls d L1_g (((r3a.length:Int) != (yd.length:Int)),ye,yf,r2a,r2b,r2c,r2d,r2e,r2f,r2g,r2h,r2i,r3a,r4a,r4b,r4c,r4d,r4e,r4f,r4g,r4h,r4i,r4j,r4k))))))))))))
theorem q2lu (d:Nat) (self1:St->Option q2lk) (x:q2lo):(q2ll d).b 15 [] self1 (q2lr x)=q2lq d (fun y=>self1 (q2lr y)) x:=by kernel_rfl
def q2lv (d:Nat) (L1_g:q2lo->Option q2lk):q2lj->Option q2lk:=fun ((xAa,xAb,xAc,_),(xBa,xBb,_),_) =>
 (obif (decide ((xAc.length:Int)>8)) (q2lt d L1_g (true,xAa,xAb,xAc,xBa,xBb)) (obnd (q2dt d ((xAa,xAb,xAc,()),())) fun r1=>(obif (r1 != 0) (q2lt d L1_g (true,xAa,xAb,xAc,xBa,xBb)) (obnd (q2dm d ((xBa,xBb,()),())) fun r2=>(q2lt d L1_g ((r2 != 0),xAa,xAb,xAc,xBa,xBb))))))
theorem q2lw (d:Nat) (x:q2lj):q2ln d x=q2lv d (iter (q2lq d) d) x:=by
 have h:q2ln d x=q2lv d (fun y=>iter ((q2ll d).b 15 []) d (q2lr y)) x:=by kernel_rfl
 rw[h];congr 1<;>(funext y;first | rfl | exact qfi (q2lu d) d y)
end
end Go.Proofs.YtfjjdnaggblaaaaGreat