/- Walks of the references; the orders agree; examples. -/
import Derived.Test.YtbjpmdhdoggobaaGreatGh
set_option linter.unusedSimpArgs false
set_option linter.unusedVariables false
namespace Go.Pel
open Go Go.Tx
def gtM (n dd:Int) (x:M4):Bool:=decide (0<cmpQ x.1 x.2.1 n dd)
theorem q3fg (n dd:Int) (x:M4):gtM n dd x=true↔n*x.2.1<x.1*dd:=by
  unfold gtM cmpQ cmpZ
  rw [decide_eq_true_eq]
  repeat' split
  all_goals omega
end Go.Pel
namespace Go.Proofs.YtbjpmdhdoggobaaGreat
open Go Go.Tx Go.Pel
def chk2 (l:List T3) (n dd n' dd':Int):Int:=if qgo (ptsL l)≠0 then qgo (ptsL l) else if qdm n dd≠0 then qdm n dd else if qdm n' dd'≠0 then qdm n' dd' else if 0<cmpQ n dd n' dd' then 2 else 0
theorem q3fj {l:List T3} (h:qgo (ptsL l)=0):FldOk l:=by
  obtain ⟨h1,h2,h3⟩:=qgt h
  rw [qjc] at h1
  refine ⟨h1,fun p hp=>h2 _ (List.mem_map_of_mem hp),?_⟩
  rw [List.pairwise_iff_getElem]
  intro i j hi hj hij
  have hg:∀ k (hk:k<l.length),(ptsL l)[k]?=some (ofP l[k]):=fun k hk=>by unfold ptsL;rw [List.getElem?_map,List.getElem?_eq_getElem hk];rfl
  exact qgn h3 hij (hg i hi) (hg j hj)
end Go.Proofs.YtbjpmdhdoggobaaGreat

namespace Go.Pel
open Go Go.Tx
end Go.Pel
namespace Go.Proofs.YtbjpmdhdoggobaaGreat
open Go Go.Tx Go.Pel
theorem q3fr {k:Nat} (h:k<1000000):IntKind.wrap .i64 ((k:Int)+1)=((k+1:Nat):Int):=by rw [IntWalk.i64_in _ (by omega)];omega
theorem q3fs {α:Type} {z:α} {l:List α} {k:Nat} {x:α} (h:l[k]?=some x):elt z l (k:Int).toNat=x:=by unfold elt;rw [Int.toNat_natCast,h];rfl
theorem q3ft {k n:Nat} (h:k<n):inB (k:Int) n=true:=q3h.2 ⟨by omega,by omega⟩
theorem q3fu {a b:Nat} (h:a<b):decide ((a:Int)<(b:Int))=true:=by rw [decide_eq_true_eq];omega
theorem q3fv {a b:Nat} (h:¬ a<b):decide ((a:Int)<(b:Int))=false:=by rw [decide_eq_false_iff_not];omega
theorem q3fw {α:Type} {l:List α} {k:Nat} {x:α} (h:l[k]?=some x):l.drop k=x :: l.drop (k+1):=by
  obtain ⟨h1,rfl⟩:=List.getElem?_eq_some_iff.1 h
  exact List.drop_eq_getElem_cons h1
end Go.Proofs.YtbjpmdhdoggobaaGreat

namespace Go.Proofs.YtbjpmdhdoggobaaGreat
open Go Go.Tx Go.Pel
theorem q3fx (d:Nat) {n dd:Int} (hn:i64B n=true) (hd:i64B dd=true):qnm d ((n,dd,()),())=some (qdm n dd):=qnn _ _ (by unfold qnl;simp only [hn,hd,Bool.and_self])
theorem q3fy (d:Nat) {n dd n' dd':Int} (hn:i64B n=true) (hd:i64B dd=true) (hn':i64B n'=true) (hd':i64B dd'=true):q1jq d ((n,dd,()),(n',dd',()),())=some (if qdm n dd≠0 then qdm n dd else qdm n' dd'):=by
  have e1:=q3fx d hn hd
  have e2:=q3fx d hn' hd'
  simp only [q1jq,q1j8,q1je,q1ji,q1jm,q1jo,Dt.eval,e1,e2]
  by_cases h:qdm n dd=0
  · simp only [h,show ((0:Int) != 0)=false from rfl,cond_false,ne_eq,not_true_eq_false,if_false]
  · simp only [show (qdm n dd != 0)=true by simpa using h,cond_true,ne_eq,h,not_false_eq_true,if_true]
theorem q3g1 {a:Int} (h:-9223372036854775808≤a∧a≤9223372036854775807):i64B a=true:=by
  unfold i64B;simp only [Bool.and_eq_true,decide_eq_true_eq];exact h
end Go.Proofs.YtbjpmdhdoggobaaGreat

namespace Go.Pel
open Go Go.Tx
def leQ (n dd n' dd':Int):Prop:=n*dd'≤n'*dd
theorem q3g7 {n dd n' dd':Int} (hd:1≤dd) (hd':1≤dd') (hle:leQ n dd n' dd') {x:M4} (hx:okM x) (h:gtM n' dd' x=true):gtM n dd x=true:=by
  have o1:=(qdt hx).1
  rw [q3fg] at h ⊢
  exact q3ep hd hd' o1 hle h
end Go.Pel
namespace Go.Proofs.YtbjpmdhdoggobaaGreat
open Go Go.Tx Go.Pel
end Go.Proofs.YtbjpmdhdoggobaaGreat

namespace Go.Tx
end Go.Tx
namespace Go.Proofs.YtbjpmdhdoggobaaGreat
open Go Go.Tx Go.Pel
theorem q3gj (l:List T3):toPs (ptsL l)=l:=by
  unfold toPs ptsL
  rw [List.map_map]
  exact List.map_id _
end Go.Proofs.YtbjpmdhdoggobaaGreat

namespace Go.Pel
open Go Go.Tx
theorem q2p {α:Type} {L:List α} {f t:Nat} (h1:f<t):((L.take t).drop f)[0]?=L[f]?:=by
  rw [List.getElem?_drop,Nat.add_zero,List.getElem?_take,if_pos h1]
end Go.Pel
namespace Go.Proofs.YtbjpmdhdoggobaaGreat
open Go Go.Tx Go.Pel
end Go.Proofs.YtbjpmdhdoggobaaGreat

namespace Go.Pel
open Go Go.Tx
theorem q3gq {n d:Int} (hd:d≠0) (hn:n.natAbs≤4194304) (hd2:d.natAbs≤4194304):(mk n d).1*d=n*(mk n d).2.1:=by
  have hg:=qei (n:=n) hd
  rw [qeh hd]
  have b1:n.natAbs / Nat.gcd n.natAbs d.natAbs≤n.natAbs:=Nat.div_le_self _ _
  have b2:d.natAbs / Nat.gcd n.natAbs d.natAbs≤d.natAbs:=Nat.div_le_self _ _
  have e1:Nat.gcd n.natAbs d.natAbs*(n.natAbs / Nat.gcd n.natAbs d.natAbs)=n.natAbs:=Nat.mul_div_cancel' (Nat.gcd_dvd_left _ _)
  have e2:Nat.gcd n.natAbs d.natAbs*(d.natAbs / Nat.gcd n.natAbs d.natAbs)=d.natAbs:=Nat.mul_div_cancel' (Nat.gcd_dvd_right _ _)
  have e3:=(fun (G A B N D:Nat) (k1:G*A=N) (k2:G*B=D)=>(by subst k1 k2;rw [Nat.mul_left_comm,Nat.mul_assoc]:A*D=N*B)) _ _ _ _ _ e1 e2
  generalize n.natAbs / Nat.gcd n.natAbs d.natAbs=A at *
  generalize d.natAbs / Nat.gcd n.natAbs d.natAbs=B at *
  have e4:(A:Int)*(d.natAbs:Int)=(n.natAbs:Int)*(B:Int):=by exact_mod_cast e3
  have hno:¬ (0<0∨9223372036854775807<A∨0<0∨9223372036854775807<B):=by omega
  by_cases h1:n<0<;>by_cases h2:d<0
  · rw [show (decide (n < 0) != decide (d < 0)) = false by simp [h1, h2], qee hno]
    rw [show (d.natAbs:Int)=-d by omega,show (n.natAbs:Int)=-n by omega,Int.mul_neg,Int.neg_mul] at e4
    show (A:Int)*d=n*(B:Int)
    omega
  · rw [show (decide (n < 0) != decide (d < 0)) = true by simp [h1, h2], qed hno]
    rw [show (d.natAbs:Int)=d by omega,show (n.natAbs:Int)=-n by omega,Int.neg_mul] at e4
    show -(A:Int)*d=n*(B:Int)
    rw [Int.neg_mul];omega
  · rw [show (decide (n < 0) != decide (d < 0)) = true by simp [h1, h2], qed hno]
    rw [show (d.natAbs:Int)=-d by omega,show (n.natAbs:Int)=n by omega,Int.mul_neg] at e4
    show -(A:Int)*d=n*(B:Int)
    rw [Int.neg_mul];omega
  · rw [show (decide (n < 0) != decide (d < 0)) = false by simp [h1, h2], qee hno]
    rw [show (d.natAbs:Int)=d by omega,show (n.natAbs:Int)=n by omega] at e4
    exact e4
theorem q3gr {F D B X:Int} (hD:0<D) (hB:0<B) (h:F*D=B*X):(0<F↔0<X)∧(F=0↔X=0):=by
  have f:(0<F∧0<F*D)∨(F=0∧F*D=0)∨(F<0∧F*D<0):=by
    rcases (by omega:0<F∨F=0∨F<0) with k | k | k
    · exact .inl ⟨k,Int.mul_pos k hD⟩
    · exact .inr (.inl ⟨k,by rw [k,Int.zero_mul]⟩)
    · exact .inr (.inr ⟨k,Int.mul_neg_of_neg_of_pos k hD⟩)
  have g:(0<X∧0<B*X)∨(X=0∧B*X=0)∨(X<0∧B*X<0):=by
    rcases (by omega:0<X∨X=0∨X<0) with k | k | k
    · exact .inl ⟨k,Int.mul_pos hB k⟩
    · exact .inr (.inl ⟨k,by rw [k,Int.mul_zero]⟩)
    · exact .inr (.inr ⟨k,Int.mul_neg_of_pos_of_neg hB k⟩)
  generalize F*D=U at *
  generalize B*X=V at *
  omega
theorem q3gs {F D B X:Int} (hD:0<D) (hB:B<0) (h:F*D=B*X):(0<F↔X<0)∧(F=0↔X=0):=by
  have:=q3gr (F:=F) (B:=-B) (X:=-X) hD (by omega) (by rw [Int.neg_mul_neg];exact h)
  omega
theorem q3gt {p q:Pt} {n d:Int}:leads p q n d=true↔0<farD p q n d∨(farD p q n d=0∧(q.b<p.b∨(p.b=q.b∧p.id<q.id))):=by
  unfold leads
  by_cases h:farD p q n d=0
  · rw [if_neg (by omega)]
    by_cases hb:p.b=q.b
    · rw [if_neg (by omega),decide_eq_true_eq];omega
    · rw [if_pos hb,decide_eq_true_eq];omega
  · rw [if_pos h,decide_eq_true_eq];omega
theorem q3gu {p:T3} (h:okP p):0≤p.1∧p.1≤65535∧-1048576≤p.2.1∧p.2.1≤1048576∧-1048576≤p.2.2.1∧p.2.2.1≤1048576:=qe4 (show qe0 p.1 p.2.1 p.2.2.1=0 from h)
theorem q3gv {x:T3×T3} (hp:okP x.1) (hq:okP x.2) {m:M4} (h:mtP x=some m):x.1.2.2.1≠x.2.2.2.1∧okM m∧m.1.natAbs≤4194304∧m.2.1≤4194304∧m.2.2.1=x.1.1∧m.2.2.2.1=x.2.1∧(x.1.2.1 - x.2.2.1)*m.2.1+(x.1.2.2.1 - x.2.2.2.1)*m.1=0:=by
  obtain ⟨_,_,a1,a2,a3,a4⟩:=q3gu hp
  obtain ⟨_,_,b1,b2,b3,b4⟩:=q3gu hq
  unfold mtP at h
  by_cases hb:x.1.2.2.1=x.2.2.2.1
  · rw [if_pos hb] at h;cases h
  · rw [if_neg hb] at h
    injection h with h
    subst h
    obtain ⟨_,h2,h3,h4⟩:=q3ey (n:=x.1.2.1 - x.2.2.1) (d:=x.2.2.2.1 - x.1.2.2.1) (by omega) (by omega) (by omega)
    have h5:=q3gq (n:=x.1.2.1 - x.2.2.1) (d:=x.2.2.2.1 - x.1.2.2.1) (by omega) (by omega) (by omega)
    refine ⟨hb,h2,h3,h4,rfl,rfl,?_⟩
    show (x.1.2.1 - x.2.2.1)*(mk (x.1.2.1 - x.2.2.1) (x.2.2.2.1 - x.1.2.2.1)).2.1+(x.1.2.2.1 - x.2.2.2.1)*(mk (x.1.2.1 - x.2.2.1) (x.2.2.2.1 - x.1.2.2.1)).1=0
    rw [← h5,Int.mul_comm (x.1.2.2.1 - x.2.2.2.1),← Int.mul_add,show x.2.2.2.1 - x.1.2.2.1+(x.1.2.2.1 - x.2.2.2.1)=0 by omega,Int.mul_zero]
theorem q3gw {x:T3×T3} (hp:okP x.1) (hq:okP x.2) {m:M4} (h:mtP x=some m) {n dd:Int}:leads (ofP x.1) (ofP x.2) n dd=(if x.2.2.2.1<x.1.2.2.1 then !gtM n dd m else gtM n dd m):=by
  obtain ⟨hb,hm,_,_,_,_,e⟩:=q3gv hp hq h
  have hD:=(qdt hm).1
  have key:farD (ofP x.1) (ofP x.2) n dd*m.2.1=(x.1.2.2.1 - x.2.2.2.1)*(n*m.2.1 - m.1*dd):=by
    show ((x.1.2.1 - x.2.2.1)*dd+(x.1.2.2.1 - x.2.2.2.1)*n)*m.2.1=_
    rw [Int.add_mul,Int.mul_sub,Int.mul_right_comm (x.1.2.1 - x.2.2.1),show (x.1.2.1 - x.2.2.1)*m.2.1=-((x.1.2.2.1 - x.2.2.2.1)*m.1) by omega,Int.neg_mul,Int.mul_assoc,Int.mul_assoc]
    omega
  have hg:=q3fg n dd m
  have hl:=q3gt (p:=ofP x.1) (q:=ofP x.2) (n:=n) (d:=dd)
  have hbb:(ofP x.2).b<(ofP x.1).b↔x.2.2.2.1<x.1.2.2.1:=Iff.rfl
  have hbe:(ofP x.1).b=(ofP x.2).b↔x.1.2.2.1=x.2.2.2.1:=Iff.rfl
  by_cases hlt:x.2.2.2.1<x.1.2.2.1
  · obtain ⟨s1, s2⟩ := q3gr (by omega : 0 < m.2.1) (by omega : 0 < x.1.2.2.1 - x.2.2.2.1) key
    rw [if_pos hlt]
    cases h1:gtM n dd m with
    | true =>
      rw [h1] at hg
      have:=hg.1 rfl
      cases h2:leads (ofP x.1) (ofP x.2) n dd with
      | false=>rfl
      | true=>rw [h2] at hl;have:=hl.1 rfl;omega
    | false =>
      rw [h1] at hg
      have:¬ n*m.2.1<m.1*dd:=fun k=>by cases hg.2 k
      exact hl.2 (by omega)
  · obtain ⟨s1, s2⟩ := q3gs (by omega : 0 < m.2.1) (by omega : x.1.2.2.1 - x.2.2.2.1 < 0) key
    rw [if_neg hlt]
    cases h1:gtM n dd m with
    | true =>
      rw [h1] at hg
      have:=hg.1 rfl
      exact hl.2 (by omega)
    | false =>
      rw [h1] at hg
      have:¬ n*m.2.1<m.1*dd:=fun k=>by cases hg.2 k
      cases h2:leads (ofP x.1) (ofP x.2) n dd with
      | false=>rfl
      | true=>rw [h2] at hl;have:=hl.1 rfl;omega
theorem q3gx {p q:T3} (hb:p.2.2.1=q.2.2.1) {n dd n' dd':Int} (hd:1≤dd) (hd':1≤dd'):leads (ofP p) (ofP q) n dd=leads (ofP p) (ofP q) n' dd':=by
  have f:∀ {n d:Int},1≤d→(0<farD (ofP p) (ofP q) n d↔0<p.2.1 - q.2.1)∧(farD (ofP p) (ofP q) n d=0↔p.2.1 - q.2.1=0):=fun {n d} h=>by
    have e:farD (ofP p) (ofP q) n d=(p.2.1 - q.2.1)*d:=by
      show (p.2.1 - q.2.1)*d+(p.2.2.1 - q.2.2.1)*n=_
      rw [hb,Int.sub_self,Int.zero_mul,Int.add_zero]
    have:=q3gr (F:=p.2.1 - q.2.1) (D:=d) (B:=1) (X:=farD (ofP p) (ofP q) n d) (by omega) (by omega) (by rw [e,Int.one_mul])
    omega
  obtain ⟨f1,f2⟩:=f (n:=n) hd
  obtain ⟨g1,g2⟩:=f (n:=n') hd'
  rw [Bool.eq_iff_iff,q3gt,q3gt]
  have hbb:(ofP p).b=(ofP q).b:=hb
  omega
end Go.Pel
namespace Go.Proofs.YtbjpmdhdoggobaaGreat
open Go Go.Tx Go.Pel
end Go.Proofs.YtbjpmdhdoggobaaGreat

namespace Go.Pel
open Go Go.Tx
theorem q3h7 {p q:Pt} {n d:Int} (hi:p.id≠q.id):leads q p n d=!leads p q n d:=by
  have e:farD q p n d=-farD p q n d:=by
    unfold farD
    rw [show q.a - p.a=-(p.a - q.a) by omega,show q.b - p.b=-(p.b - q.b) by omega,Int.neg_mul,Int.neg_mul]
    omega
  have h1:=q3gt (p:=p) (q:=q) (n:=n) (d:=d)
  have h2:=q3gt (p:=q) (q:=p) (n:=n) (d:=d)
  cases k1:leads p q n d<;>cases k2:leads q p n d
  · rw [k1] at h1; rw [k2] at h2
    have a1:¬ (0<farD p q n d∨(farD p q n d=0∧(q.b<p.b∨(p.b=q.b∧p.id<q.id)))):=fun k=>by cases h1.2 k
    have a2:¬ (0<farD q p n d∨(farD q p n d=0∧(p.b<q.b∨(q.b=p.b∧q.id<p.id)))):=fun k=>by cases h2.2 k
    omega
  · rfl
  · rfl
  · have a1 := h1.1 k1
    have a2:=h2.1 k2
    omega
theorem q3hb {l:List T3} (h:FldOk l) {i j:Nat} {p q:T3} (hij:i<j) (hp:l[i]?=some p) (hq:l[j]?=some q):p.1<q.1:=by
  obtain ⟨h1,rfl⟩:=List.getElem?_eq_some_iff.1 hp
  obtain ⟨h2,rfl⟩:=List.getElem?_eq_some_iff.1 hq
  exact (List.pairwise_iff_getElem.1 h.inc) i j h1 h2 hij
theorem q3hg {l:List T3} (h:FldOk l) (h0:qgo (ptsL l)=0) {p:T3} (hp:p∈l):qh6 (ptsL l) p.1=(ofP p,0):=by
  have hb:hasB (ptsL l) p.1=true:=by
    unfold hasB
    rw [List.any_eq_true]
    exact ⟨ofP p,List.mem_map_of_mem hp,decide_eq_true rfl⟩
  obtain ⟨_,P,h1,h2⟩:=qh5 (qgt h0).2.2 hb
  unfold qh6
  rw [if_neg (by simpa using h0),if_pos hb,List.getD_eq_getElem?_getD,h1]
  unfold ptsL at h1
  rw [List.getElem?_map] at h1
  cases hq:l[lowB (List.map ofP l) p.1]? with
  | none=>rw [hq] at h1;cases h1
  | some q =>
    rw [hq] at h1
    injection h1 with h1
    subst h1
    obtain ⟨i,hi⟩:=List.mem_iff_getElem?.1 hp
    have h2:q.1=p.1:=h2
    rcases (by omega:i<lowB (List.map ofP l) p.1∨i=lowB (List.map ofP l) p.1∨lowB (List.map ofP l) p.1<i) with k | k | k
    · have:=q3hb h k hi hq;omega
    · rw [← k,hi] at hq;injection hq with hq;subst hq;rfl
    · have:=q3hb h k hq hi;omega
end Go.Pel
namespace Go.Proofs.YtbjpmdhdoggobaaGreat
open Go Go.Tx Go.Pel
theorem q3hi (d:Nat) {l:List T3} (hl:l.length≤64) (h0:qgo (ptsL l)=0) {n dd:Int} (hn:i64B n=true) (hd:i64B dd=true) (hr:qdm n dd=0):qvn d ((l,()),(n,dd,()),())=some (unI ((ordI n dd (ptsL l)).map Pt.id),0):=by
  rw [qvo _ _ (by unfold qvm;simp only [hn,hd,Bool.and_self,Bool.true_and,decide_eq_true_eq];rw [qjc];omega)]
  have e:qua (ptsL l) n dd=((ordI n dd (ptsL l)).map Pt.id,0):=by unfold qua;rw [if_neg (by simpa using h0),if_neg (by simpa using hr)]
  show some (unI (qua (ptsL l) n dd).1,(qua (ptsL l) n dd).2)=_
  rw [e]
theorem q3hj (d:Nat) {l:List T3} (h:FldOk l) (h0:qgo (ptsL l)=0) {p:T3} (hp:p∈l):qv5 d ((l,()),(p.1,()),())=some (p.1,p.2.1,p.2.2.1,0):=by
  rw [qv6 _ _ rfl]
  show some ((qh6 (ptsL l) p.1).1.id,(qh6 (ptsL l) p.1).1.a,(qh6 (ptsL l) p.1).1.b,(qh6 (ptsL l) p.1).2)=_
  rw [q3hg h h0 hp]
  rfl
end Go.Proofs.YtbjpmdhdoggobaaGreat

namespace Go.Pel
open Go Go.Tx
def Lead (l:List T3) (n dd:Int) (p:T3):Prop:=p∈l∧∀ q∈l,leads (ofP q) (ofP p) n dd=false
theorem q3hk {l:List T3} (h:FldOk l) {p q:T3} (hp:p∈l) (hq:q∈l) (hi:p.1=q.1):p=q:=by
  obtain ⟨i,hi'⟩:=List.mem_iff_getElem?.1 hp
  obtain ⟨j,hj⟩:=List.mem_iff_getElem?.1 hq
  rcases (by omega:i<j∨i=j∨j<i) with k | k | k
  · have:=q3hb h k hi' hj;omega
  · subst k;rw [hi'] at hj;exact Option.some.inj hj
  · have:=q3hb h k hj hi';omega
theorem Lead.ahead {l:List T3} (h:FldOk l) {n dd:Int} {p q:T3} (hp:Lead l n dd p) (hq:q∈l) (hne:q.1≠p.1):leads (ofP p) (ofP q) n dd=true:=by
  rw [q3h7 (p:=ofP q) (q:=ofP p) hne,hp.2 q hq];rfl
def ldT (l:List T3) (n dd:Int):T3:=toP ((ordI n dd (ptsL l)).headD Pt.zero)
theorem q3hn {p q:T3} (hb:p.2.2.1≠q.2.2.1):∃ m,mtP (p,q)=some m:=by
  unfold mtP
  simp only [hb,if_false]
  exact ⟨_,rfl⟩
theorem q3ho {p q:T3} (hp:okP p) (hq:okP q) {n dd n' dd':Int} (hd:1≤dd) (hd':1≤dd') (hle:leQ n dd n' dd') (hb:¬ p.2.2.1<q.2.2.1) (h:leads (ofP p) (ofP q) n dd=true):leads (ofP p) (ofP q) n' dd'=true:=by
  by_cases he:p.2.2.1=q.2.2.1
  · rw [← q3gx he hd hd'];exact h
  · obtain ⟨m, hm⟩ := q3hn he
    have k1:=q3gw (x:=(p,q)) hp hq hm (n:=n) (dd:=dd)
    have k2:=q3gw (x:=(p,q)) hp hq hm (n:=n') (dd:=dd')
    simp only [show q.2.2.1<p.2.2.1 by omega,if_true] at k1 k2
    rw [h] at k1
    rw [k2]
    cases hg:gtM n' dd' m with
    | false=>rfl
    | true =>
      rw [q3g7 hd hd' hle (q3gv (x:=(p,q)) hp hq hm).2.1 hg] at k1
      cases k1
theorem q3hp {p q:T3} (hp:okP p) (hq:okP q) (hb:p.2.2.1<q.2.2.1) {m:M4} (hm:mtP (p,q)=some m) (n dd:Int):leads (ofP p) (ofP q) n dd=gtM n dd m:=by
  have k1:=q3gw (x:=(p,q)) hp hq hm (n:=n) (dd:=dd)
  simp only [show ¬ q.2.2.1<p.2.2.1 by omega,if_false] at k1
  exact k1
def q3hq (l:List T3) (p:T3):Prop:=∀ q∈l,¬ p.2.2.1<q.2.2.1
def Nxt (l:List T3) (p:T3) (n dd:Int):Prop:=(∃ q∈l,∃ m,p.2.2.1<q.2.2.1∧mtP (p,q)=some m∧m.1=n∧m.2.1=dd)∧∀ q∈l,∀ m,p.2.2.1<q.2.2.1→mtP (p,q)=some m→¬ m.1*dd<n*m.2.1
theorem Nxt.ok {l:List T3} (h:FldOk l) {p:T3} (hp:p∈l) {n dd:Int} (k:Nxt l p n dd):qdm n dd=0∧n.natAbs≤4194304∧dd≤4194304:=by
  obtain ⟨q,hq,m,hb,hm,rfl,rfl⟩:=k.1
  obtain ⟨_,h1,h2,h3,_⟩:=q3gv (x:=(p,q)) (h.ok p hp) (h.ok q hq) hm
  exact ⟨h1,h2,h3⟩
theorem Nxt.not {l:List T3} {p:T3} {n dd:Int} (k:Nxt l p n dd) (k':q3hq l p):False:=by
  obtain ⟨q,hq,m,hb,_⟩:=k.1
  exact k' q hq hb
theorem q3hr {l:List T3} (h:FldOk l) {p:T3} {n dd n' dd':Int} (hd:1≤dd) (hd':1≤dd') (hle:leQ n dd n' dd') (hp:Lead l n dd p) (hmin:∀ q∈l,∀ m,p.2.2.1<q.2.2.1→mtP (p,q)=some m→¬ m.1*dd'<n'*m.2.1) {q:T3} (hq:q∈l):q.2.1*dd'+q.2.2.1*n'≤p.2.1*dd'+p.2.2.1*n':=by
  have hpo:=h.ok p hp.1
  have hqo:=h.ok q hq
  by_cases hi:q.1=p.1
  · rw [q3hk h hq hp.1 hi];exact Int.le_refl _
  · have ha := hp.ahead h hq hi
    by_cases hb:p.2.2.1<q.2.2.1
    · obtain ⟨m, hm⟩ := q3hn (p := p) (q := q) (by omega)
      have k:=hmin q hq m hb hm
      obtain ⟨_,hmo,_,_,_,_,e⟩:=q3gv (x:=(p,q)) hpo hqo hm
      have hl:=q3hp hpo hqo hb hm n' dd'
      cases hg:gtM n' dd' m with
      | true =>
        rw [hg] at hl
        rcases (qu9 ..).1 hl with k1 | ⟨k1,k2⟩
        · have : q.2.1 * dd' + q.2.2.1 * n' < p.2.1 * dd' + p.2.2.1 * n' := k1
          omega
        · have : q.2.1 * dd' + q.2.2.1 * n' = p.2.1 * dd' + p.2.2.1 * n' := k1
          omega
      | false =>
        -- the meeting is at the time itself
        have hg':¬ n'*m.2.1<m.1*dd':=fun k=>by rw [(q3fg n' dd' m).2 k] at hg;cases hg
        have hD:=(qdt hmo).1
        have key:farD (ofP p) (ofP q) n' dd'*m.2.1=(p.2.2.1 - q.2.2.1)*(n'*m.2.1 - m.1*dd'):=by
          show ((p.2.1 - q.2.1)*dd'+(p.2.2.1 - q.2.2.1)*n')*m.2.1=_
          simp only at e
          rw [Int.add_mul,Int.mul_sub,Int.mul_right_comm (p.2.1 - q.2.1),show (p.2.1 - q.2.1)*m.2.1=-((p.2.2.1 - q.2.2.1)*m.1) by omega,Int.neg_mul,Int.mul_assoc,Int.mul_assoc]
          omega
        rw [show n'*m.2.1 - m.1*dd'=0 by omega,Int.mul_zero] at key
        have hz:farD (ofP p) (ofP q) n' dd'=0:=by
          rcases Int.mul_eq_zero.1 key with k | k
          · exact k
          · omega
        have:farD (ofP p) (ofP q) n' dd'=(p.2.1*dd'+p.2.2.1*n') - (q.2.1*dd'+q.2.2.1*n'):=by
          show (p.2.1 - q.2.1)*dd'+(p.2.2.1 - q.2.2.1)*n'=_
          rw [Int.sub_mul,Int.sub_mul];omega
        omega
    · have hl := q3ho hpo hqo hd hd' hle hb ha
      rcases (qu9 ..).1 hl with k1 | ⟨k1,k2⟩
      · have : q.2.1 * dd' + q.2.2.1 * n' < p.2.1 * dd' + p.2.2.1 * n' := k1
        omega
      · have : q.2.1 * dd' + q.2.2.1 * n' = p.2.1 * dd' + p.2.2.1 * n' := k1
        omega
theorem q3hs {p q:T3} (hp:okP p) (hq:okP q) {m:M4} (hm:mtP (p,q)=some m):q.2.1*m.2.1+q.2.2.1*m.1=p.2.1*m.2.1+p.2.2.1*m.1:=by
  obtain ⟨_,_,_,_,_,_,e⟩:=q3gv (x:=(p,q)) hp hq hm
  simp only at e
  rw [Int.sub_mul,Int.sub_mul] at e
  omega
theorem q3ht {l:List T3} (h:FldOk l) {p q:T3} {n dd:Int} (hp:Lead l n dd p) (hq:q∈l) (hb:p.2.2.1<q.2.2.1) {m:M4} (hm:mtP (p,q)=some m):gtM n dd m=true:=by
  have hi:q.1≠p.1:=fun hi=>by rw [q3hk h hq hp.1 hi] at hb;omega
  rw [← q3hp (h.ok p hp.1) (h.ok q hq) hb hm]
  exact hp.ahead h hq hi
theorem q3hu {n dd:Int} {m:M4} (h:gtM n dd m=true):leQ n dd m.1 m.2.1:=by have:=(q3fg n dd m).1 h;unfold leQ;omega
inductive Crest (l:List T3):T3→Int→Int→List T3→Prop
  | last (p:T3) (n dd:Int):q3hq l p→Crest l p n dd [(n,dd,p.1,())]
  | next (p:T3) (n dd n' dd':Int) (p':T3) (r:List T3):Nxt l p n' dd'→Lead l n' dd' p'→Crest l p' n' dd' r→Crest l p n dd ((n,dd,p.1,()) :: r)
theorem Crest.head {l:List T3} {p:T3} {n dd:Int} {a:List T3} (ha:Crest l p n dd a):∃ r,a=(n,dd,p.1,()) :: r:=by
  cases ha with
  | last _ _ _ _=>exact ⟨_,rfl⟩
  | next _ _ _ _ _ _ r _ _ _=>exact ⟨r,rfl⟩
theorem q3hw {l:List T3} (h:FldOk l) {p p':T3} {n dd n' dd':Int} (hd:1≤dd) (hp:Lead l n dd p) (h1:Nxt l p n' dd') (h2:Lead l n' dd' p'):p.2.2.1<p'.2.2.1:=by
  obtain ⟨q,hq,m,hb,hm,rfl,rfl⟩:=h1.1
  have hpo:=h.ok p hp.1
  have hqo:=h.ok q hq
  have hmo:=(q3gv (x:=(p,q)) hpo hqo hm).2.1
  have hD:=(qdt hmo).1
  have hle:=q3hu (q3ht h hp hq hb hm)
  have hfar:=q3hr h hd hD hle hp h1.2 h2.1
  have hpl:=q3hs hpo hqo hm
  have hl:=h2.2 q hq
  have k:¬ ((p'.2.1*m.2.1+p'.2.2.1*m.1<q.2.1*m.2.1+q.2.2.1*m.1)∨(p'.2.1*m.2.1+p'.2.2.1*m.1=q.2.1*m.2.1+q.2.2.1*m.1∧(p'.2.2.1<q.2.2.1∨(p'.2.2.1=q.2.2.1∧q.1<p'.1)))):=quc hl
  omega
def q3hx (l:List T3) (p:T3):Nat:=l.countP fun q=>decide (p.2.2.1<q.2.2.1)
theorem q3hy {l:List T3} {p p':T3} (hp:p'∈l) (hb:p.2.2.1<p'.2.2.1):q3hx l p'<q3hx l p:=by
  unfold q3hx
  induction l with
  | nil=>cases hp
  | cons x xs ih =>
    rw [List.countP_cons,List.countP_cons]
    have hmono:xs.countP (fun q=>decide (p'.2.2.1<q.2.2.1))≤xs.countP (fun q=>decide (p.2.2.1<q.2.2.1)):=List.countP_mono_left fun q _ hq=>by
      rw [decide_eq_true_eq] at hq ⊢;omega
    rcases List.mem_cons.1 hp with rfl | hp
    · rw [if_neg (by rw [decide_eq_true_eq];omega),if_pos (by rw [decide_eq_true_eq];omega)];omega
    · have := ih hp
      by_cases h1:p'.2.2.1<x.2.2.1
      · rw [if_pos (by rw [decide_eq_true_eq];omega),if_pos (by rw [decide_eq_true_eq];omega)];omega
      · rw [if_neg (by rw [decide_eq_true_eq]; omega)]
        split<;>omega
theorem Crest.len {l:List T3} (h:FldOk l) {p:T3} {n dd:Int} {a:List T3} (ha:Crest l p n dd a) (hr:qdm n dd=0) (hp:Lead l n dd p):a.length≤q3hx l p+1:=by
  induction ha with
  | last p n dd hn=>simp
  | next p n dd n' dd' p' r h1 h2 _ ih =>
    have:=ih (h1.ok h hp.1).1 h2
    have:=q3hy h2.1 (q3hw h (qdt hr).1 hp h1 h2)
    rw [List.length_cons];omega
end Go.Pel

namespace Go.Pel
open Go Go.Tx
def fitQ (a b:Int):Int×Int×Int:=if a.natAbs≤9223372036854775807∧b.natAbs≤9223372036854775807 then (a,b,0) else (0,0,16)
def red (X D:Int):Int×Int×Int:=fitQ (X / (Nat.gcd X.natAbs D.natAbs:Nat)) (D / (Nat.gcd X.natAbs D.natAbs:Nat))
structure Low (X D a b:Int):Prop where
  pos:1≤b
  one:Nat.gcd a.natAbs b.natAbs=1
  eq:X*b=a*D
theorem Low.gcd {X D a b:Int} (hD:1≤D) (h:Low X D a b):X=a*(Nat.gcd X.natAbs D.natAbs:Nat)∧D=b*(Nat.gcd X.natAbs D.natAbs:Nat):=by
  obtain ⟨hb,h1,he⟩:=h
  have hn:X.natAbs*b.natAbs=a.natAbs*D.natAbs:=by rw [← Int.natAbs_mul,← Int.natAbs_mul,he]
  have k:b.natAbs ∣ D.natAbs:=Nat.Coprime.dvd_of_dvd_mul_left (k:=b.natAbs) (m:=a.natAbs) (n:=D.natAbs) (by rw [Nat.Coprime,Nat.gcd_comm];exact h1) ⟨X.natAbs,by rw [← hn,Nat.mul_comm]⟩
  obtain ⟨c,hc⟩:=k
  have e1:D=b*(c:Int):=by
    have e:(D.natAbs:Int)=(b.natAbs:Int)*(c:Int):=by rw [hc];simp
    rw [show (D.natAbs:Int)=D by omega,show (b.natAbs:Int)=b by omega] at e
    exact e
  have e2:X=a*(c:Int):=by
    rw [e1,← Int.mul_assoc,Int.mul_right_comm a b] at he
    exact Int.eq_of_mul_eq_mul_right (by omega) he
  have e3:Nat.gcd X.natAbs D.natAbs=c:=by
    rw [hc,e2,Int.natAbs_mul,Int.natAbs_natCast,Nat.gcd_mul_right,h1,Nat.one_mul]
  rw [e3]
  exact ⟨e2,e1⟩
theorem q3i1 {X D a b:Int} (hD:1≤D) (h:Low X D a b):red X D=fitQ a b:=by
  obtain ⟨e1,e2⟩:=h.gcd hD
  have hg:1≤Nat.gcd X.natAbs D.natAbs:=Nat.gcd_pos_of_pos_right _ (by omega)
  unfold red
  generalize Nat.gcd X.natAbs D.natAbs=g at *
  rw [e1,e2,Int.mul_ediv_cancel _ (by omega),Int.mul_ediv_cancel _ (by omega)]
theorem q3i2 (X:Int) {D:Int} (hD:1≤D):Low X D (X / (Nat.gcd X.natAbs D.natAbs:Nat)) (D / (Nat.gcd X.natAbs D.natAbs:Nat)):=by
  have hg:1≤Nat.gcd X.natAbs D.natAbs:=Nat.gcd_pos_of_pos_right _ (by omega)
  have e1:(X / (Nat.gcd X.natAbs D.natAbs:Nat))*(Nat.gcd X.natAbs D.natAbs:Nat)=X:=Int.ediv_mul_cancel (Int.ofNat_dvd_left.2 (Nat.gcd_dvd_left _ _))
  have e2:(D / (Nat.gcd X.natAbs D.natAbs:Nat))*(Nat.gcd X.natAbs D.natAbs:Nat)=D:=Int.ediv_mul_cancel (Int.ofNat_dvd_left.2 (Nat.gcd_dvd_right _ _))
  generalize hgg:Nat.gcd X.natAbs D.natAbs=g at *
  generalize X / (g:Int)=a at *
  generalize D / (g:Int)=b at *
  have hb:1≤b:=by
    rcases (by omega:1≤b∨b≤0) with h | h
    · exact h
    · have:=Int.mul_nonpos_of_nonpos_of_nonneg h (show (0:Int)≤(g:Int) by omega);omega
  refine ⟨hb,?_,?_⟩
  · have : Nat.gcd X.natAbs D.natAbs = Nat.gcd a.natAbs b.natAbs * g := by rw [← e1, ← e2, Int.natAbs_mul, Int.natAbs_mul, Int.natAbs_natCast, Nat.gcd_mul_right]
    rw [hgg] at this
    have h2:1*g=Nat.gcd a.natAbs b.natAbs*g:=by omega
    exact (Nat.eq_of_mul_eq_mul_right (by omega) h2).symm
  · rw [← e1,← e2,Int.mul_assoc,Int.mul_comm (g:Int) b]
theorem q3i3 {a b:Int} (h1:a.natAbs≤9223372036854775807) (h2:b.natAbs≤9223372036854775807):fitQ a b=(a,b,0):=by unfold fitQ;rw [if_pos ⟨h1,h2⟩]
theorem q3i4 {a b:Int} (h:¬ (a.natAbs≤9223372036854775807∧b.natAbs≤9223372036854775807)):fitQ a b=(0,0,16):=by unfold fitQ;rw [if_neg h]
theorem q3i5 (a b:Int):(fitQ a b=(a,b,0)∧a.natAbs≤9223372036854775807∧b.natAbs≤9223372036854775807)∨fitQ a b=(0,0,16):=by
  by_cases h:a.natAbs≤9223372036854775807∧b.natAbs≤9223372036854775807
  · exact .inl ⟨q3i3 h.1 h.2,h⟩
  · exact .inr (q3i4 h)
theorem q3i6 {X D:Int} (hD:1≤D) (h:(red X D).2.2=0):qdm (red X D).1 (red X D).2.1=0∧X*(red X D).2.1=(red X D).1*D∧(red X D).1.natAbs≤9223372036854775807∧(red X D).2.1≤9223372036854775807:=by
  have hl:=q3i2 X hD
  unfold red at h ⊢
  generalize X / ((Nat.gcd X.natAbs D.natAbs:Nat):Int)=a at *
  generalize D / ((Nat.gcd X.natAbs D.natAbs:Nat):Int)=b at *
  rcases q3i5 a b with ⟨e,k1,k2⟩ | e
  · rw [e]
    have:=hl.pos
    refine ⟨qdp hl.pos (by omega) ?_,hl.eq,k1,by show b≤_;omega⟩
    rw [Nat.gcd_comm,show b.toNat=b.natAbs by omega];exact hl.one
  · rw [e] at h;cases h
theorem q3i7 (X D:Int):(red X D).2.2=0∨red X D=(0,0,16):=by
  unfold red
  rcases q3i5 (X / ((Nat.gcd X.natAbs D.natAbs:Nat):Int)) (D / ((Nat.gcd X.natAbs D.natAbs:Nat):Int)) with ⟨e,_⟩ | e
  · left;rw [e]
  · exact .inr e
theorem q3i8 {an bn a' b' A:Int} (h1:Nat.gcd an.natAbs A.natAbs=1) (hA:a' ∣ A) (h2:Nat.gcd a'.natAbs b'.natAbs=1):Nat.gcd (an*b'+bn*a').natAbs a'.natAbs=1:=by
  generalize hk:Nat.gcd (an*b'+bn*a').natAbs a'.natAbs=k
  have d1:(k:Int) ∣ an*b'+bn*a':=by rw [← hk];exact Int.ofNat_dvd_left.2 (Nat.gcd_dvd_left _ _)
  have d2:(k:Int) ∣ a':=by rw [← hk];exact Int.ofNat_dvd_left.2 (Nat.gcd_dvd_right _ _)
  have d3:(k:Int) ∣ an*b':=by
    have:=Int.dvd_sub d1 (Int.dvd_trans d2 (Int.dvd_mul_left bn a'))
    rwa [show an*b'+bn*a' - bn*a'=an*b' by omega] at this
  have d3n:k ∣ an.natAbs*b'.natAbs:=by rw [← Int.natAbs_mul];exact Int.ofNat_dvd_left.1 d3
  have d2n:k ∣ a'.natAbs:=Int.ofNat_dvd_left.1 d2
  have c1:Nat.Coprime k b'.natAbs:=Nat.Coprime.coprime_dvd_left d2n h2
  have d4:k ∣ an.natAbs:=Nat.Coprime.dvd_of_dvd_mul_right c1 d3n
  have d5:k ∣ A.natAbs:=Nat.dvd_trans d2n (Int.natAbs_dvd_natAbs.2 hA)
  have:=Nat.dvd_gcd d4 d5
  rw [h1] at this
  exact Nat.dvd_one.1 this
theorem q3i9 {an ad bn bd g a' b':Int} (hg:1≤g) (ha:ad=a'*g) (hb:bd=b'*g) (pa:1≤a') (pb:1≤b') (h1:Nat.gcd an.natAbs ad.natAbs=1) (h2:Nat.gcd bn.natAbs bd.natAbs=1) (hc:Nat.gcd a'.natAbs b'.natAbs=1) {n m h c:Int} (hn:an*b'+bn*a'=n) (hh:(Nat.gcd n.natAbs g.natAbs:Int)=h) (hm:n=m*h) (hd:bd=c*h):Low (an*bd+bn*ad) (ad*bd) m (a'*c):=by
  have hg1:1≤Nat.gcd n.natAbs g.natAbs:=Nat.gcd_pos_of_pos_right _ (by omega)
  have hh1:1≤h:=by omega
  have c1:Nat.gcd n.natAbs a'.natAbs=1:=by rw [← hn];exact q3i8 h1 ⟨g,ha⟩ hc
  have c2:Nat.gcd n.natAbs b'.natAbs=1:=by
    rw [← hn,Int.add_comm]
    exact q3i8 h2 ⟨g,hb⟩ (by rw [Nat.gcd_comm];exact hc)
  have pc:1≤c:=by
    rcases (by omega:1≤c∨c≤0) with k | k
    · exact k
    · have := Int.mul_nonpos_of_nonpos_of_nonneg k (show (0 : Int) ≤ h by omega)
      have:=Int.mul_pos (show (0:Int)<b' by omega) (show (0:Int)<g by omega)
      omega
  -- c is b' times what is left of g
  have hgd:h ∣ g:=by rw [← hh];exact Int.ofNat_dvd_left.2 (Nat.gcd_dvd_right _ _)
  obtain ⟨e,he⟩:=hgd
  have hce:c=b'*e:=by
    have:c*h=(b'*e)*h:=by rw [← hd,hb,he,Int.mul_assoc,Int.mul_comm e h]
    exact Int.eq_of_mul_eq_mul_right (by omega) this
  have mdn:m.natAbs ∣ n.natAbs:=⟨h.natAbs,by rw [hm,Int.natAbs_mul]⟩
  have k1:Nat.Coprime m.natAbs a'.natAbs:=Nat.Coprime.coprime_dvd_left mdn c1
  have k2:Nat.Coprime m.natAbs b'.natAbs:=Nat.Coprime.coprime_dvd_left mdn c2
  have k3:Nat.Coprime m.natAbs e.natAbs:=by
    have q1:n.natAbs=m.natAbs*h.natAbs:=by rw [hm,Int.natAbs_mul]
    have q2:g.natAbs=e.natAbs*h.natAbs:=by rw [he,Int.natAbs_mul,Nat.mul_comm]
    have q3:Nat.gcd n.natAbs g.natAbs=h.natAbs:=by omega
    rw [q1,q2,Nat.gcd_mul_right] at q3
    have q4:Nat.gcd m.natAbs e.natAbs*h.natAbs=1*h.natAbs:=by omega
    exact Nat.eq_of_mul_eq_mul_right (by omega) q4
  refine ⟨?_,?_,?_⟩
  · have:=Int.mul_pos (show (0:Int)<a' by omega) (show (0:Int)<c by omega);omega
  · rw [hce, Int.natAbs_mul, Int.natAbs_mul]
    exact Nat.Coprime.mul_right k1 (Nat.Coprime.mul_right k2 k3)
  · have x1 : an * bd + bn * ad = n * g := by rw [← hn, ha, hb, Int.add_mul, Int.mul_assoc, Int.mul_assoc]
    rw [x1,hd,ha,hm]
    have:m*h*g*(a'*c)=m*(a'*g*(c*h)):=by
      rw [Int.mul_assoc m h g,Int.mul_assoc m]
      congr 1
      rw [Int.mul_comm h g,Int.mul_assoc,Int.mul_comm a' g,Int.mul_assoc g a',Int.mul_left_comm h a' c,Int.mul_comm h c]
    exact this
end Go.Pel

namespace Go.Pel
def dg (u c y:Int):Int:=(u*4294967296+c) / y
theorem q3ia {u c y:Int} (hu:0≤u) (huy:u<y) (hc:0≤c) (hcB:c<4294967296):0≤dg u c y∧dg u c y<4294967296:=by
  unfold dg
  refine ⟨Int.ediv_nonneg (by omega) (by omega),?_⟩
  exact Int.ediv_lt_of_lt_mul (by omega) (by omega)
theorem q3ib {u c y q:Int} (hy:0<y) (h:q*y≤u*4294967296+c):q≤dg u c y:=Int.le_ediv_of_mul_le hy h
theorem q3ic {u c y q:Int} (hy:0<y) (h:u*4294967296+c<q*y):dg u c y<q:=Int.ediv_lt_of_lt_mul hy h
theorem q3id {q y1 y0:Int}:q*(y1*4294967296+y0)=(q*y1)*4294967296+q*y0:=by
  rw [Int.mul_add,Int.mul_assoc]
theorem q3ie {u c y1 y0:Int} (hu:0≤u) (hc:0≤c) (hcB:c<4294967296) (hy1:0<y1) (hy0:0≤y0):dg u c (y1*4294967296+y0)≤u / y1:=by
  have hy:0<y1*4294967296+y0:=by omega
  have h0:0≤dg u c (y1*4294967296+y0):=Int.ediv_nonneg (by omega) (by omega)
  have h1:dg u c (y1*4294967296+y0)*(y1*4294967296+y0)≤u*4294967296+c:=Int.ediv_mul_le _ (by omega)
  rw [q3id] at h1
  have h2:0≤dg u c (y1*4294967296+y0)*y0:=Int.mul_nonneg h0 hy0
  exact Int.le_ediv_of_mul_le hy1 (by omega)
theorem q3if {u c y1 y0 q r:Int} (hu:0≤u) (huy:u<y1*4294967296+y0) (hc:0≤c) (hcB:c<4294967296) (h:q*y1+r=u) (hq:4294967296≤q∨r*4294967296+c<q*y0):dg u c (y1*4294967296+y0)≤q - 1:=by
  rcases hq with hq | hq
  · have:=(q3ia hu huy hc hcB).2;omega
  · have := q3ic (u := u) (c := c) (y := y1 * 4294967296 + y0) (q := q) (by omega) (by rw [q3id]; omega)
    omega
theorem q3ig {u c y1 y0 q r:Int} (hy:0<y1*4294967296+y0) (h:q*y1+r=u) (hq:q*y0≤r*4294967296+c) (hle:dg u c (y1*4294967296+y0)≤q):q=dg u c (y1*4294967296+y0):=by
  have:=q3ib (u:=u) (c:=c) (y:=y1*4294967296+y0) (q:=q) hy (by rw [q3id];omega)
  omega
theorem q3ih {u c y1 y0 q r:Int} (huy:u<y1*4294967296+y0) (hc:0≤c) (hy1:0<y1) (hy0:0≤y0) (hy0B:y0<4294967296) (h:q*y1+r=u) (hr:4294967296≤r) (hq0:0≤q) (hle:dg u c (y1*4294967296+y0)≤q):q=dg u c (y1*4294967296+y0):=by
  have hqB:q<4294967296:=by
    have h1:q*y1<4294967296*y1:=by omega
    exact Int.lt_of_mul_lt_mul_right h1 (by omega)
  have h2:q*y0≤4294967295*4294967295:=Int.mul_le_mul (by omega) (by omega) hy0 (by omega)
  exact q3ig (by omega) h (by omega) hle
theorem q3ii {u c e y:Int} (hy:0<y):(u*18446744073709551616+c*4294967296+e) / y=dg u c y*4294967296+dg (u*4294967296+c - dg u c y*y) e y ∧
    (u*18446744073709551616+c*4294967296+e) % y=(u*4294967296+c - dg u c y*y)*4294967296+e - dg (u*4294967296+c - dg u c y*y) e y*y:=by
  generalize hq:dg u c y=q
  generalize hr:u*4294967296+c - q*y=r
  have e1:u*18446744073709551616+c*4294967296+e=(r*4294967296+e)+(q*4294967296)*y:=by
    have:(q*4294967296)*y=(q*y)*4294967296:=by rw [Int.mul_right_comm]
    rw [this];omega
  unfold dg
  constructor
  · rw [e1,Int.add_mul_ediv_right _ _ (by omega)];omega
  · rw [e1,Int.add_mul_emod_self_right,Int.emod_def,Int.mul_comm y]
end Go.Pel

namespace Go.Pel
open Go Go.Tx
theorem wu64 {a:Int} (h:0≤a∧a<18446744073709551616):IntKind.wrap .u64 a=a:=by rw [IntKind.wrap_u64];omega
theorem wu8 {a:Int} (h:0≤a∧a<256):IntKind.wrap .u8 a=a:=by rw [IntKind.wrap_u8];omega
theorem q3ij (x:Int) (n:Nat) (hn:n≤64):shrI .u64 x (n:Int)=x / (2 ^ n:Nat):=by
  unfold shrI
  rw [Int.toNat_natCast,show min n IntKind.u64.bits=n from Nat.min_eq_left hn,Int.fdiv_eq_ediv_of_nonneg _ (Int.pow_nonneg (by omega))]
  simp
theorem q3ik (x:Int) (n:Nat) (hn:n≤64):shlI .u64 x (n:Int)=(x*(2 ^ n:Nat)) % 18446744073709551616:=by
  unfold shlI
  rw [Int.toNat_natCast,show min n IntKind.u64.bits=n from Nat.min_eq_left hn,IntKind.wrap_u64]
  simp
theorem q3il (x:Nat) (hx:x<18446744073709551616):andI .u64 (x:Int) 4294967295=((x % 4294967296:Nat):Int):=by
  unfold andI
  rw [show (BitVec.ofInt IntKind.u64.bits (x:Int) &&& BitVec.ofInt IntKind.u64.bits 4294967295).toNat=x % 4294967296 by
    rw [BitVec.toNat_and,BitVec.toNat_ofInt,BitVec.toNat_ofInt]
    rw [show (((x:Int) % ((2 ^ IntKind.u64.bits:Nat):Int)).toNat)=x by show ((x:Int) % 18446744073709551616).toNat=x;omega,show (((4294967295:Int) % ((2 ^ IntKind.u64.bits:Nat):Int)).toNat)=2 ^ 32 - 1 from rfl,Nat.and_two_pow_sub_one_eq_mod]]
  exact wu64 (by omega)
theorem or64 (a b s:Nat) (hb:b<2 ^ s) (h:2 ^ s*a+b<18446744073709551616):orI .u64 ((2 ^ s*a:Nat):Int) (b:Int)=((2 ^ s*a+b:Nat):Int):=by
  unfold orI
  have hb2:2 ^ s*a<18446744073709551616:=by omega
  rw [show (BitVec.ofInt IntKind.u64.bits ((2 ^ s*a:Nat):Int) ||| BitVec.ofInt IntKind.u64.bits (b:Int)).toNat=2 ^ s*a+b by
    rw [BitVec.toNat_or,BitVec.toNat_ofInt,BitVec.toNat_ofInt]
    rw [show ((((2 ^ s*a:Nat):Int) % ((2 ^ IntKind.u64.bits:Nat):Int)).toNat)=2 ^ s*a by show (((2 ^ s*a:Nat):Int) % 18446744073709551616).toNat=_;omega,show (((b:Int) % ((2 ^ IntKind.u64.bits:Nat):Int)).toNat)=b by show ((b:Int) % 18446744073709551616).toNat=_;omega]
    exact (Nat.two_pow_add_eq_or_of_lt hb a).symm]
  exact wu64 (by omega)
structure Hi64 (y n:Nat):Prop where
  n0:1≤n
  n64:n≤64
  lo:2 ^ (n - 1)≤y
  hi:y<2 ^ n
def len8:List Nat:=[0,1,2,2,3,3,3,3,4,4,4,4,4,4,4,4,5,5,5,5,5,5,5,5,5,5,5,5,5,5,5,5,6,6,6,6,6,6,6,6,6,6,6,6,6,6,6,6,6,6,6,6,6,6,6,6,6,6,6,6,6,6,6,6,7,7,7,7,7,7,7,7,7,7,7,7,7,7,7,7,7,7,7,7,7,7,7,7,7,7,7,7,7,7,7,7,7,7,7,7,7,7,7,7,7,7,7,7,7,7,7,7,7,7,7,7,7,7,7,7,7,7,7,7,7,7,7,7,8,8,8,8,8,8,8,8,8,8,8,8,8,8,8,8,8,8,8,8,8,8,8,8,8,8,8,8,8,8,8,8,8,8,8,8,8,8,8,8,8,8,8,8,8,8,8,8,8,8,8,8,8,8,8,8,8,8,8,8,8,8,8,8,8,8,8,8,8,8,8,8,8,8,8,8,8,8,8,8,8,8,8,8,8,8,8,8,8,8,8,8,8,8,8,8,8,8,8,8,8,8,8,8,8,8,8,8,8,8,8,8,8,8,8,8,8,8,8,8,8,8,8,8,8,8,8,8]
set_option maxRecDepth 100000 in
theorem q3im:∀ x:Nat,1≤x→x<256→Hi64 x (len8.getD x 0)∧len8.getD x 0≤8:=by
  have h:(List.range 256).all (fun x=>Nat.beq x 0 || (Nat.ble 1 (len8.getD x 0)&&Nat.ble (len8.getD x 0) 8&&Nat.ble (2 ^ (len8.getD x 0 - 1)) x&&Nat.blt x (2 ^ len8.getD x 0)))=true:=by kernel_rfl
  intro x h1 h2
  have:=List.all_eq_true.1 h x (List.mem_range.2 h2)
  rw [Bool.or_eq_true] at this
  rcases this with k | k
  · have:=Nat.eq_of_beq_eq_true k;omega
  · simp only [Bool.and_eq_true, Nat.ble_eq, Nat.blt_eq] at k
    exact ⟨⟨k.1.1.1,by omega,k.1.2,k.2⟩,k.1.1.2⟩
theorem q3in {y n k:Nat} (h:Hi64 (y / 2 ^ k) n) (hk:n+k≤64):Hi64 y (n+k):=by
  have hp:0<2 ^ k:=Nat.two_pow_pos k
  refine ⟨by have:=h.n0;omega,hk,?_,?_⟩
  · have h1 := Nat.mul_le_mul_right (2 ^ k) h.lo
    have h2:=Nat.div_mul_le_self y (2 ^ k)
    rw [← Nat.pow_add] at h1
    have:=h.n0
    rw [show n+k - 1=n - 1+k by omega];omega
  · rw [Nat.pow_add]
    exact Nat.lt_mul_of_div_lt h.hi hp |> fun q=>by simpa [Nat.mul_comm] using q
theorem q3io {hi lo S T U V:Nat} (hST:S*T=18446744073709551616) (hS:0<S) (hT:0<T) (hU:S*hi+lo / T=U) (hV:lo*S % 18446744073709551616=V):U*18446744073709551616+V=(hi*18446744073709551616+lo)*S:=by
  obtain ⟨p,hp⟩:∃ p,lo / T=p:=⟨_,rfl⟩
  obtain ⟨q,hq⟩:∃ q,lo % T=q:=⟨_,rfl⟩
  have h0:T*p+q=lo:=by rw [← hp,← hq];exact Nat.div_add_mod lo T
  have hqT:q<T:=by rw [← hq];exact Nat.mod_lt _ hT
  have e2:q*S<18446744073709551616:=by
    have:=Nat.mul_lt_mul_of_pos_right hqT hS
    rw [Nat.mul_comm T S,hST] at this;exact this
  have e1:lo*S=p*18446744073709551616+q*S:=by rw [← h0,Nat.add_mul,← hST,Nat.mul_comm T p,Nat.mul_assoc,Nat.mul_comm T S]
  have e3:U*18446744073709551616=hi*18446744073709551616*S+p*18446744073709551616:=by
    rw [← hU,hp,Nat.add_mul,Nat.mul_comm S hi,Nat.mul_right_comm]
  rw [Nat.add_mul,e1,e3,← hV,e1]
  generalize hi*18446744073709551616*S=H
  generalize q*S=Q at *
  omega
end Go.Pel
namespace Go.Proofs.YtbjpmdhdoggobaaGreat
open Go Go.Tx Go.Pel
set_option maxRecDepth 100000 in
theorem str8 {x:Nat} (hx:x<256):∀ t:ByteArray,t.data.toList.map (fun b=>b.toNat)=len8→strB t (x:Int)=true∧q3k t (x:Int)=((len8.getD x 0:Nat):Int):=by
  intro t ht
  have hl:t.data.toList.length=256:=by
    have:=congrArg List.length ht
    rw [List.length_map] at this
    rw [this];rfl
  refine ⟨?_,?_⟩
  · unfold strB
    rw [hl]
    simp only [Bool.and_eq_true,decide_eq_true_eq,Nat.blt_eq];omega
  · unfold q3k
    rw [Int.toNat_natCast]
    have hg:len8[x]?=(t.data.toList[x]?).map (fun b=>b.toNat):=by rw [← ht,List.getElem?_map]
    rw [List.getD_eq_getElem?_getD,hg,List.getElem?_eq_getElem (by omega)]
    rfl
set_option maxRecDepth 100000 in
theorem q3ip (d:Nat) {x n:Nat} (h1:1≤x) (h2:x<256) (hn:n≤56):q15k d ((x:Int),(n:Int))=some ((len8.getD x 0+n:Nat):Int):=by
  unfold q15k q15i
  have w8:IntKind.wrap .u8 (x:Int)=(x:Int):=wu8 (by omega)
  simp only [w8]
  have hs:=fun t ht=>str8 h2 t ht
  have hk:=(q3im x h1 h2).2
  rw [(hs _ (by kernel_rfl)).1,(hs _ (by kernel_rfl)).2]
  clear hs
  generalize len8.getD x 0=k at *
  have e1:IntKind.wrap .i64 (k:Int)=(k:Int):=IntWalk.i64_in _ (by omega)
  have e2:IntKind.wrap .i64 ((n:Int)+(k:Int))=((k+n:Nat):Int):=by rw [IntWalk.i64_in _ (by omega)];omega
  simp only [Dt.eval,cond_true,e1,e2]
theorem q3iq (x k:Nat) (hk:k≤64):shrI .u64 (x:Int) (k:Int)=((x / 2 ^ k:Nat):Int):=by rw [q3ij _ _ hk];simp
theorem q3ir (d:Nat) {x n:Nat} (h1:1≤x) (h2:x<65536) (hn:n≤48):∃ m,Hi64 x m∧m≤16∧q15l d ((x:Int),(n:Int))=some ((m+n:Nat):Int):=by
  unfold q15l
  simp only [q15a,q15c,q15e,Dt.eval]
  by_cases h:256≤x
  · obtain ⟨k1, k2⟩ := q3im (x / 2 ^ 8) (by omega) (by omega)
    refine ⟨len8.getD (x / 2 ^ 8) 0+8,q3in k1 (by omega),by omega,?_⟩
    have c:decide ((x:Int)≥256)=true:=decide_eq_true (by omega)
    have e1:shrI .u64 (x:Int) (8:Int)=((x / 2 ^ 8:Nat):Int):=q3iq x 8 (by omega)
    have e2:IntKind.wrap .i64 ((n:Int)+8)=((n+8:Nat):Int):=by rw [IntWalk.i64_in _ (by omega)];omega
    simp only [c,cond_true,e1,e2]
    rw [q3ip d (by omega) (by omega) (by omega)]
    exact congrArg some (by omega)
  · obtain ⟨k1, k2⟩ := q3im x h1 (by omega)
    refine ⟨_,k1,by omega,?_⟩
    have c:decide ((x:Int)≥256)=false:=decide_eq_false (by omega)
    simp only [c,cond_false]
    exact q3ip d h1 (by omega) (by omega)
theorem q3is (d:Nat) {x n:Nat} (h1:1≤x) (h2:x<4294967296) (hn:n≤32):∃ m,Hi64 x m∧m≤32∧q15m d ((x:Int),(n:Int))=some ((m+n:Nat):Int):=by
  unfold q15m
  simp only [q152,q154,q156,Dt.eval]
  by_cases h:65536≤x
  · obtain ⟨m, k1, k2, k3⟩ := q3ir d (x := x / 2 ^ 16) (n := n + 16) (by omega) (by omega) (by omega)
    refine ⟨m+16,q3in k1 (by omega),by omega,?_⟩
    have c:decide ((x:Int)≥65536)=true:=decide_eq_true (by omega)
    have e1:shrI .u64 (x:Int) (16:Int)=((x / 2 ^ 16:Nat):Int):=q3iq x 16 (by omega)
    have e2:IntKind.wrap .i64 ((n:Int)+16)=((n+16:Nat):Int):=by rw [IntWalk.i64_in _ (by omega)];omega
    simp only [c,cond_true,e1,e2]
    rw [k3]
    exact congrArg some (by omega)
  · obtain ⟨m, k1, k2, k3⟩ := q3ir d (x := x) (n := n) h1 (by omega) (by omega)
    refine ⟨m,k1,by omega,?_⟩
    have c:decide ((x:Int)≥65536)=false:=decide_eq_false (by omega)
    simp only [c,cond_false]
    exact k3
theorem q3it (d:Nat) {x:Nat} (h1:1≤x) (h2:x<18446744073709551616):∃ m,Hi64 x m∧q15n d (((x:Int),()),())=some (m:Int):=by
  simp only [q15n,q14k,q14q,q14u,q14w,q14y,Dt.eval]
  by_cases h:4294967296≤x
  · obtain ⟨m, k1, k2, k3⟩ := q3is d (x := x / 2 ^ 32) (n := 32) (by omega) (by omega) (by omega)
    refine ⟨m+32,q3in k1 (by omega),?_⟩
    have c:decide ((x:Int)≥4294967296)=true:=decide_eq_true (by omega)
    have e1:shrI .u64 (x:Int) (32:Int)=((x / 2 ^ 32:Nat):Int):=q3iq x 32 (by omega)
    simp only [c,cond_true,e1]
    exact k3
  · obtain ⟨m, k1, k2, k3⟩ := q3is d (x := x) (n := 0) h1 (by omega) (by omega)
    refine ⟨m,k1,?_⟩
    have c:decide ((x:Int)≥4294967296)=false:=decide_eq_false (by omega)
    simp only [c,cond_false]
    exact k3
theorem q3iu (d:Nat) {y:Nat} (h1:1≤y) (h2:y<18446744073709551616):∃ s:Nat,s≤63∧9223372036854775808≤y*2 ^ s∧y*2 ^ s<18446744073709551616∧q165 d (((y:Int),()),())=some (s:Int):=by
  obtain ⟨m,k,e⟩:=q3it d h1 h2
  have m1:=k.n0
  have m2:=k.n64
  refine ⟨64 - m,by omega,?_,?_,?_⟩
  · have := Nat.mul_le_mul_right (2 ^ (64 - m)) k.lo
    rw [← Nat.pow_add,show m - 1+(64 - m)=63 by omega] at this
    exact this
  · have := Nat.mul_lt_mul_of_pos_right k.hi (Nat.two_pow_pos (64 - m))
    rw [← Nat.pow_add,show m+(64 - m)=64 by omega] at this
    exact this
  · have w : IntKind.wrap .i64 ((64 : Int) - (m : Int)) = ((64 - m : Nat) : Int) := by rw [IntWalk.i64_in _ (by omega)]; omega
    simp only [q165,q15v,q15z,q163,Dt.eval,e,w]
abbrev dv9:Type:=Int×Int×Int×Int×Int×Int×Int×Int×Int
theorem q3iv {q yn0 r u:Int} (hq:0≤q) (hq2:q<4294967296) (hy:0≤yn0) (hy2:yn0<4294967296) (hr:0≤r) (hr2:r<4294967296) (hu:0≤u) (hu2:u<4294967296) :
    decide (IntKind.wrap .u64 (q*yn0) > IntKind.wrap .u64 (IntKind.wrap .u64 (4294967296*r)+u))=decide (r*4294967296+u<q*yn0):=by
  have hp:q*yn0≤4294967295*4294967295:=Int.mul_le_mul (by omega) (by omega) hy (by omega)
  have hp0:=Int.mul_nonneg hq hy
  rw [wu64 (a:=q*yn0) (by omega),wu64 (a:=4294967296*r) (by omega),wu64 (by omega)]
  congr 1
  exact propext (by omega)
theorem q3iw (d:Nat) {y s yn1 yn0 un0 q1 u:Int} (hy:y=yn1*4294967296+yn0) (h1:2147483648≤yn1) (h2:yn1<4294967296) (h3:0≤yn0) (h4:yn0<4294967296) (hc:0≤un0) (hc2:un0<4294967296) (hu:0≤u) (huy:u<y):∀ (f:Nat) (q r:Int),4294967296≤r+f*2147483648→r<4294967296→0≤r→q<18446744073709551616→q*yn1+r=u→dg u un0 y≤q →
    ∃ r',iter (q194 d) f ((y,s,yn1,yn0,un0,q1,r,u,q):dv9)=q193 d (y,s,yn1,yn0,un0,q1,r',u,dg u un0 y)
  | 0,q,r,hf,hr,_,_,_,_=>by omega
  | f + 1, q, r, hf, hr, hr0, hqM, he, hle => by
    have ih:=q3iw d (s:=s) (q1:=q1) hy h1 h2 h3 h4 hc hc2 hu huy f
    obtain ⟨g1,g2⟩:=q3ia hu huy hc hc2
    rw [iter]
    revert ih
    generalize iter (q194 d) f=self
    intro ih
    unfold q194
    simp only [q18r,q18t,q18v,q18z,Dt.eval]
    have hy0:0<yn1*4294967296+yn0:=by omega
    have dec:4294967296≤q∨r*4294967296+un0<q*yn0→∃ r',(bif decide (IntKind.wrap .u64 (r+yn1)≥4294967296) then q193 d (y,s,yn1,yn0,un0,q1,IntKind.wrap .u64 (r+yn1),u,IntKind.wrap .u64 (q - 1)) else self (y,s,yn1,yn0,un0,q1,IntKind.wrap .u64 (r+yn1),u,IntKind.wrap .u64 (q - 1)))=q193 d (y,s,yn1,yn0,un0,q1,r',u,dg u un0 y):=fun hq=>by
      have hd:=q3if (u:=u) (c:=un0) (y1:=yn1) (y0:=yn0) (q:=q) (r:=r) hu (by omega) hc hc2 he hq
      rw [← hy] at hd
      have e2:(q - 1)*yn1+(r+yn1)=u:=by rw [Int.sub_mul,Int.one_mul];omega
      rw [wu64 (a:=r+yn1) (by omega),wu64 (a:=q - 1) (by omega)]
      by_cases hb:r+yn1≥4294967296
      · have := q3ih (u := u) (c := un0) (y1 := yn1) (y0 := yn0) (q := q - 1) (r := r + yn1) (by omega) hc (by omega) h3 h4 e2 hb (by omega) (by rw [← hy]; exact hd)
        rw [← hy] at this
        rw [decide_eq_true hb,cond_true,this]
        exact ⟨_,rfl⟩
      · rw [decide_eq_false hb, cond_false]
        exact ih (q - 1) (r+yn1) (by omega) (by omega) (by omega) (by omega) e2 hd
    by_cases hq:q≥4294967296
    · simp only [decide_eq_true hq, cond_true, Dt.eval]
      exact dec (.inl hq)
    · simp only [decide_eq_false hq, cond_false, Dt.eval, q3iv (show 0 ≤ q by omega) (show q < 4294967296 by omega) h3 h4 hr0 hr hc hc2]
      by_cases ht:r*4294967296+un0<q*yn0
      · simp only [decide_eq_true ht, cond_true]
        exact dec (.inr ht)
      · have := q3ig (u := u) (c := un0) (y1 := yn1) (y0 := yn0) (q := q) (r := r) hy0 he (by omega) (by rw [← hy]; exact hle)
        rw [← hy] at this
        simp only [decide_eq_false ht,cond_false]
        rw [this]
        exact ⟨_,rfl⟩
theorem q3ix (d:Nat) {y s yn1 yn0 un1 un0 u:Int} (hy:y=yn1*4294967296+yn0) (h1:2147483648≤yn1) (h2:yn1<4294967296) (h3:0≤yn0) (h4:yn0<4294967296) (hc:0≤un1) (hc2:un1<4294967296) (hu:0≤u) (huy:u<y):∀ (f:Nat) (q r:Int),4294967296≤r+f*2147483648→r<4294967296→0≤r→q<18446744073709551616→q*yn1+r=u→dg u un1 y≤q →
    ∃ r',iter (q196 d) f ((y,s,yn1,yn0,u,un1,un0,q,r):dv9)=q195 d (y,s,yn1,yn0,u,un1,un0,dg u un1 y,r')
  | 0,q,r,hf,hr,_,_,_,_=>by omega
  | f + 1, q, r, hf, hr, hr0, hqM, he, hle => by
    have ih:=q3ix d (s:=s) (un0:=un0) hy h1 h2 h3 h4 hc hc2 hu huy f
    obtain ⟨g1,g2⟩:=q3ia hu huy hc hc2
    rw [iter]
    revert ih
    generalize iter (q196 d) f=self
    intro ih
    unfold q196
    simp only [q183,q185,q187,q18b,Dt.eval]
    have hy0:0<yn1*4294967296+yn0:=by omega
    have dec:4294967296≤q∨r*4294967296+un1<q*yn0→∃ r',(bif decide (IntKind.wrap .u64 (r+yn1)≥4294967296) then q195 d (y,s,yn1,yn0,u,un1,un0,IntKind.wrap .u64 (q - 1),IntKind.wrap .u64 (r+yn1)) else self (y,s,yn1,yn0,u,un1,un0,IntKind.wrap .u64 (q - 1),IntKind.wrap .u64 (r+yn1)))=q195 d (y,s,yn1,yn0,u,un1,un0,dg u un1 y,r'):=fun hq=>by
      have hd:=q3if (u:=u) (c:=un1) (y1:=yn1) (y0:=yn0) (q:=q) (r:=r) hu (by omega) hc hc2 he hq
      rw [← hy] at hd
      have e2:(q - 1)*yn1+(r+yn1)=u:=by rw [Int.sub_mul,Int.one_mul];omega
      rw [wu64 (a:=r+yn1) (by omega),wu64 (a:=q - 1) (by omega)]
      by_cases hb:r+yn1≥4294967296
      · have := q3ih (u := u) (c := un1) (y1 := yn1) (y0 := yn0) (q := q - 1) (r := r + yn1) (by omega) hc (by omega) h3 h4 e2 hb (by omega) (by rw [← hy]; exact hd)
        rw [← hy] at this
        rw [decide_eq_true hb,cond_true,this]
        exact ⟨_,rfl⟩
      · rw [decide_eq_false hb, cond_false]
        exact ih (q - 1) (r+yn1) (by omega) (by omega) (by omega) (by omega) e2 hd
    by_cases hq:q≥4294967296
    · simp only [decide_eq_true hq, cond_true, Dt.eval]
      exact dec (.inl hq)
    · simp only [decide_eq_false hq, cond_false, Dt.eval, q3iv (show 0 ≤ q by omega) (show q < 4294967296 by omega) h3 h4 hr0 hr hc hc2]
      by_cases ht:r*4294967296+un1<q*yn0
      · simp only [decide_eq_true ht, cond_true]
        exact dec (.inr ht)
      · have := q3ig (u := u) (c := un1) (y1 := yn1) (y0 := yn0) (q := q) (r := r) hy0 he (by omega) (by rw [← hy]; exact hle)
        rw [← hy] at this
        simp only [decide_eq_false ht,cond_false]
        rw [this]
        exact ⟨_,rfl⟩
theorem q3iy {u yn1:Int} (hu:0≤u) (hu2:u<18446744073709551616) (h1:2147483648≤yn1):IntKind.wrap .u64 (Int.tdiv u yn1)=u / yn1∧IntKind.wrap .u64 (u - IntKind.wrap .u64 (u / yn1*yn1))=u % yn1:=by
  have q0:=Int.ediv_nonneg hu (show (0:Int)≤yn1 by omega)
  have q1:=Int.ediv_le_self yn1 hu
  have q2:u / yn1*yn1≤u:=Int.ediv_mul_le _ (by omega)
  have q3:=Int.mul_nonneg q0 (show (0:Int)≤yn1 by omega)
  have q4:u / yn1*yn1+u % yn1=u:=by have:=Int.ediv_mul_add_emod u yn1;omega
  have q5:=Int.emod_nonneg u (show yn1≠0 by omega)
  refine ⟨by rw [Int.tdiv_eq_ediv_of_nonneg hu,wu64 (by omega)],?_⟩
  rw [wu64 (a:=u / yn1*yn1) (by omega),wu64 (by omega)];omega
theorem q3iz (d:Nat) (hd:10≤d) {y yn1 yn0 un1 un0 u q1 r:Int} {s:Nat} (hs:s≤63) (hy:y=yn1*4294967296+yn0) (h1:2147483648≤yn1) (h2:yn1<4294967296) (h3:0≤yn0) (h4:yn0<4294967296) (hc:0≤un1) (hc2:un1<4294967296) (he:0≤un0) (he2:un0<4294967296) (hu:0≤u) (huy:u<y) (hq:q1=dg u un1 y) :
    q195 d (y,(s:Int),yn1,yn0,u,un1,un0,q1,r)=some ((u*18446744073709551616+un1*4294967296+un0) / y,((u*18446744073709551616+un1*4294967296+un0) % y) / (2 ^ s:Nat)):=by
  have hy0:0<y:=by omega
  obtain ⟨t1,t2⟩:=q3ii (u:=u) (c:=un1) (e:=un0) hy0
  obtain ⟨a1,a2⟩:=q3ia hu huy hc hc2
  rw [← hq] at t1 t2 a1 a2
  -- what is left behind the first digit
  have m0:0≤u*4294967296+un1 - q1*y∧u*4294967296+un1 - q1*y<y:=by
    have e:u*4294967296+un1 - q1*y=(u*4294967296+un1) % y:=by
      rw [hq];unfold dg
      have:=Int.ediv_mul_add_emod (u*4294967296+un1) y
      omega
    rw [e];exact ⟨Int.emod_nonneg _ (by omega),Int.emod_lt_of_pos _ hy0⟩
  have w1:IntKind.wrap .u64 (IntKind.wrap .u64 (IntKind.wrap .u64 (u*4294967296)+un1) - IntKind.wrap .u64 (q1*y))=u*4294967296+un1 - q1*y:=by
    rw [IntKind.wrap_u64,IntKind.wrap_u64,IntKind.wrap_u64,IntKind.wrap_u64]
    generalize q1*y=P at *
    omega
  generalize hu2:u*4294967296+un1 - q1*y=v at *
  obtain ⟨f1,f2⟩:=q3iy m0.1 (show v<18446744073709551616 by omega) h1
  have c1:(yn1 == (0:Int))=false:=by rw [beq_eq_false_iff_ne];omega
  have hv4:v % yn1<yn1:=Int.emod_lt_of_pos _ (by omega)
  have hv5:=Int.emod_nonneg v (show yn1≠0 by omega)
  have hv6:v / yn1*yn1+v % yn1=v:=by have:=Int.ediv_mul_add_emod v yn1;omega
  have hv7:=Int.ediv_le_self yn1 m0.1
  have hini:=q3ie (u:=v) (c:=un0) (y1:=yn1) (y0:=yn0) m0.1 he he2 (by omega) h3
  rw [← hy] at hini
  obtain ⟨r',hL⟩:=q3iw d (s:=(s:Int)) (q1:=q1) hy h1 h2 h3 h4 he he2 m0.1 m0.2 d (v / yn1) (v % yn1) (by omega) (by omega) hv5 (by omega) hv6 hini
  unfold q195
  simp only [q18f,q18j,q18n,Dt.eval,w1,c1,cond_false,f1,f2]
  rw [hL]
  obtain ⟨b1,b2⟩:=q3ia m0.1 m0.2 he he2
  unfold q193
  have c2:decide ((s:Int)<0)=false:=decide_eq_false (by omega)
  simp only [q191,Dt.eval,c2,cond_false]
  rw [t1,t2]
  have n0:0≤v*4294967296+un0 - dg v un0 y*y∧v*4294967296+un0 - dg v un0 y*y<y:=by
    have e:v*4294967296+un0 - dg v un0 y*y=(v*4294967296+un0) % y:=by
      unfold dg
      have:=Int.ediv_mul_add_emod (v*4294967296+un0) y
      omega
    rw [e];exact ⟨Int.emod_nonneg _ (by omega),Int.emod_lt_of_pos _ hy0⟩
  have w2:IntKind.wrap .u64 (IntKind.wrap .u64 (IntKind.wrap .u64 (v*4294967296)+un0) - IntKind.wrap .u64 (dg v un0 y*y))=v*4294967296+un0 - dg v un0 y*y:=by
    rw [IntKind.wrap_u64,IntKind.wrap_u64,IntKind.wrap_u64,IntKind.wrap_u64]
    generalize dg v un0 y*y=P at *
    omega
  rw [w2,q3ij _ s (by omega),wu64 (a:=q1*4294967296) (by omega),wu64 (by omega)]
theorem q3j0 (d:Nat) (hd:10≤d) {hi lo y:Nat} (hy:hi<y) (hy2:y<18446744073709551616) (hlo:lo<18446744073709551616) :
    q199 d (((hi:Int),()),((lo:Int),()),((y:Int),()),())=some ((((hi*18446744073709551616+lo) / y:Nat):Int),(((hi*18446744073709551616+lo) % y:Nat):Int)):=by
  have c1:((y:Int) == 0)=false:=by rw [beq_eq_false_iff_ne];omega
  have c2:decide ((y:Int)≤(hi:Int))=false:=by rw [decide_eq_false_iff_not];omega
  simp only [q199,q16d,q198,q197,q16h,q16l,q16p,q16t,q16x,Dt.eval,c1,c2,cond_false]
  by_cases h0:hi=0
  · subst h0
    have b:=Nat.div_le_self lo y
    have e0:(lo:Int).tdiv (y:Int)=((lo / y:Nat):Int):=by rw [Int.tdiv_eq_ediv_of_nonneg (by omega)];rfl
    have e1:(lo:Int).tmod (y:Int)=((lo % y:Nat):Int):=by rw [Int.tmod_eq_emod_of_nonneg (by omega)];rfl
    have w:IntKind.wrap .u64 ((lo / y:Nat):Int)=((lo / y:Nat):Int):=by
      generalize lo / y=q at *
      exact wu64 (by omega)
    simp only [show (((0:Nat):Int) == 0)=true from rfl,cond_true,e0,e1,w]
    rw [Nat.zero_mul,Nat.zero_add]
  · have c3 : ((hi : Int) == 0) = false := by rw [beq_eq_false_iff_ne]; omega
    obtain ⟨s,s1,s2,s3,es⟩:=q3iu d (y:=y) (by omega) hy2
    have hS:0<2 ^ s:=Nat.two_pow_pos s
    have hST:2 ^ s*2 ^ (64 - s)=18446744073709551616:=by rw [← Nat.pow_add,show s+(64 - s)=64 by omega]
    have hT:0<2 ^ (64 - s):=Nat.two_pow_pos _
    have k1:hi*2 ^ s<y*2 ^ s:=Nat.mul_lt_mul_of_pos_right hy hS
    have k2:lo / 2 ^ (64 - s)<2 ^ s:=Nat.div_lt_of_lt_mul (by rw [Nat.mul_comm,hST];exact hlo)
    have k3:(hi+1)*2 ^ s≤y*2 ^ s:=Nat.mul_le_mul_right _ (by omega)
    rw [Nat.add_mul,Nat.one_mul] at k3
    have ws:IntKind.wrap .u64 (s:Int)=(s:Int):=wu64 (by omega)
    have ds:decide ((s:Int)<0)=false:=decide_eq_false (by omega)
    have wt:IntKind.wrap .u64 ((64:Int) - (s:Int))=((64 - s:Nat):Int):=by rw [wu64 (by omega)];omega
    have dt:decide (((64 - s:Nat):Int)<0)=false:=decide_eq_false (by omega)
    have x1:shlI .u64 (y:Int) (s:Int)=((y*2 ^ s:Nat):Int):=by
      rw [q3ik _ _ (by omega),show (y:Int)*((2 ^ s:Nat):Int)=((y*2 ^ s:Nat):Int) by simp];omega
    have x2:shlI .u64 (hi:Int) (s:Int)=((2 ^ s*hi:Nat):Int):=by
      rw [q3ik _ _ (by omega),show (hi:Int)*((2 ^ s:Nat):Int)=((2 ^ s*hi:Nat):Int) by rw [Nat.mul_comm];simp]
      rw [Nat.mul_comm];omega
    have x3:shrI .u64 (lo:Int) ((64 - s:Nat):Int)=((lo / 2 ^ (64 - s):Nat):Int):=by rw [q3ij _ _ (by omega)];rfl
    have x4:orI .u64 ((2 ^ s*hi:Nat):Int) ((lo / 2 ^ (64 - s):Nat):Int)=((2 ^ s*hi+lo / 2 ^ (64 - s):Nat):Int):=or64 hi _ s k2 (by rw [Nat.mul_comm (2 ^ s) hi];omega)
    have x5:shlI .u64 (lo:Int) (s:Int)=((lo*2 ^ s % 18446744073709551616:Nat):Int):=by
      rw [q3ik _ _ (by omega),show (lo:Int)*((2 ^ s:Nat):Int)=((lo*2 ^ s:Nat):Int) by simp];rfl
    obtain ⟨Y,hY⟩:∃ Y,y*2 ^ s=Y:=⟨_,rfl⟩
    obtain ⟨U,hU⟩:∃ U,2 ^ s*hi+lo / 2 ^ (64 - s)=U:=⟨_,rfl⟩
    obtain ⟨V,hV⟩:∃ V,lo*2 ^ s % 18446744073709551616=V:=⟨_,rfl⟩
    have hUY:U<Y:=by rw [← hU,← hY,Nat.mul_comm (2 ^ s) hi];omega
    have hV2:V<18446744073709551616:=by rw [← hV];exact Nat.mod_lt _ (by omega)
    have hX:U*18446744073709551616+V=(hi*18446744073709551616+lo)*2 ^ s:=q3io hST hS hT hU hV
    rw [hY] at x1 s2 s3
    rw [hU] at x4
    rw [hV] at x5
    have y1:shrI .u64 (Y:Int) (32:Int)=((Y / 4294967296:Nat):Int):=q3iq Y 32 (by omega)
    have y2:andI .u64 (Y:Int) 4294967295=((Y % 4294967296:Nat):Int):=q3il Y s3
    have y3:shrI .u64 (V:Int) (32:Int)=((V / 4294967296:Nat):Int):=q3iq V 32 (by omega)
    have y4:andI .u64 (V:Int) 4294967295=((V % 4294967296:Nat):Int):=q3il V hV2
    obtain ⟨f1,f2⟩:=q3iy (u:=(U:Int)) (yn1:=((Y / 4294967296:Nat):Int)) (by omega) (by omega) (by omega)
    have cy:(((Y / 4294967296:Nat):Int) == 0)=false:=by rw [beq_eq_false_iff_ne];omega
    have hYe:(Y:Int)=((Y / 4294967296:Nat):Int)*4294967296+((Y % 4294967296:Nat):Int):=by omega
    have hini:=q3ie (u:=(U:Int)) (c:=((V / 4294967296:Nat):Int)) (y1:=((Y / 4294967296:Nat):Int)) (y0:=((Y % 4294967296:Nat):Int)) (by omega) (by omega) (by omega) (by omega) (by omega)
    rw [← hYe] at hini
    have hv4:(U:Int) % ((Y / 4294967296:Nat):Int)<((Y / 4294967296:Nat):Int):=Int.emod_lt_of_pos _ (by omega)
    have hv5:=Int.emod_nonneg (U:Int) (show ((Y / 4294967296:Nat):Int)≠0 by omega)
    have hv6:(U:Int) / ((Y / 4294967296:Nat):Int)*((Y / 4294967296:Nat):Int)+(U:Int) % ((Y / 4294967296:Nat):Int)=(U:Int):=by have:=Int.ediv_mul_add_emod (U:Int) ((Y / 4294967296:Nat):Int);omega
    have hv7:=Int.ediv_le_self ((Y / 4294967296:Nat):Int) (show (0:Int)≤(U:Int) by omega)
    obtain ⟨r',hL⟩:=q3ix d (s:=(s:Int)) (un0:=((V % 4294967296:Nat):Int)) hYe (by omega) (by omega) (by omega) (by omega) (show (0:Int)≤((V / 4294967296:Nat):Int) by omega) (by omega) (show (0:Int)≤(U:Int) by omega) (by omega) d _ _ (by omega) (by omega) hv5 (by omega) hv6 hini
    have hJ:=q3iz d hd (r:=r') s1 hYe (by omega) (by omega) (by omega) (by omega) (show (0:Int)≤((V / 4294967296:Nat):Int) by omega) (by omega) (show (0:Int)≤((V % 4294967296:Nat):Int) by omega) (by omega) (show (0:Int)≤(U:Int) by omega) (by omega) rfl
    simp only [c3,cond_false,q171,q173,q177,q17b,q17f,q17j,q17n,q17r,q17v,q17z,q16d,Dt.eval,es,ws,ds,x1,y1,y2,wt,dt,x2,x3,x4,x5,y3,y4,cy,f1,f2]
    rw [hL,hJ]
    have hz:(U:Int)*18446744073709551616+((V / 4294967296:Nat):Int)*4294967296+((V % 4294967296:Nat):Int)=(((hi*18446744073709551616+lo)*2 ^ s:Nat):Int):=by rw [← hX];omega
    rw [hz,← hY]
    generalize hi*18446744073709551616+lo=X
    have r1:((X*2 ^ s:Nat):Int) / ((y*2 ^ s:Nat):Int)=((X / y:Nat):Int):=by
      show ((X*2 ^ s / (y*2 ^ s):Nat):Int)=_
      rw [Nat.mul_div_mul_right _ _ hS]
    have r2:((X*2 ^ s:Nat):Int) % ((y*2 ^ s:Nat):Int) / ((2 ^ s:Nat):Int)=((X % y:Nat):Int):=by
      show ((X*2 ^ s % (y*2 ^ s) / 2 ^ s:Nat):Int)=_
      rw [Nat.mul_mod_mul_right,Nat.mul_div_cancel _ hS]
    rw [r1,r2]
theorem q3j1 (d:Nat) (hd:10≤d) {hi lo y:Nat} (hy0:0<y) (hhi:hi<18446744073709551616) (hy2:y<18446744073709551616) (hlo:lo<18446744073709551616) :
    q19v d (((hi:Int),()),((lo:Int),()),((y:Int),()),())=some (((hi*18446744073709551616+lo) % y:Nat):Int):=by
  have c1:((y:Int) == 0)=false:=by rw [beq_eq_false_iff_ne];omega
  have e1:(hi:Int).tmod (y:Int)=((hi % y:Nat):Int):=by rw [Int.tmod_eq_emod_of_nonneg (by omega)];rfl
  have e2:=q3j0 d hd (hi:=hi % y) (lo:=lo) (y:=y) (Nat.mod_lt _ hy0) hy2 hlo
  simp only [q19v,q19h,q19l,q19p,q19t,Dt.eval,c1,cond_false,e1,e2]
  refine congrArg (fun x:Nat=>some (x:Int)) ?_
  rw [Nat.add_mod,Nat.mul_mod,Nat.mod_mod,← Nat.mul_mod,← Nat.add_mod]
end Go.Proofs.YtbjpmdhdoggobaaGreat

namespace Go.Pel
open Go Go.Tx
abbrev hiN (P:Nat):Int:=((P / 18446744073709551616:Nat):Int)
abbrev loN (P:Nat):Int:=((P % 18446744073709551616:Nat):Int)
theorem q3j2 {P y:Nat} (hy:0<y):P / y=(P / 18446744073709551616 / y)*18446744073709551616+((P / 18446744073709551616 % y)*18446744073709551616+P % 18446744073709551616) / y∧P % y=((P / 18446744073709551616 % y)*18446744073709551616+P % 18446744073709551616) % y:=by
  obtain ⟨h,hh⟩:∃ h,P / 18446744073709551616=h:=⟨_,rfl⟩
  obtain ⟨l,hl⟩:∃ l,P % 18446744073709551616=l:=⟨_,rfl⟩
  have hP:P=h*18446744073709551616+l:=by omega
  obtain ⟨q,hq⟩:∃ q,h / y=q:=⟨_,rfl⟩
  obtain ⟨r,hr⟩:∃ r,h % y=r:=⟨_,rfl⟩
  have hqr:y*q+r=h:=by rw [← hq,← hr];exact Nat.div_add_mod h y
  have e:P=(r*18446744073709551616+l)+y*(q*18446744073709551616):=by
    rw [hP,← hqr,Nat.add_mul,Nat.mul_assoc];omega
  rw [hh,hl,hq,hr]
  constructor
  · rw [e,Nat.add_mul_div_left _ _ hy];omega
  · rw [e,Nat.add_mul_mod_self_left]
theorem q3j3 {P y:Nat} (hy:0<y):((P / 18446744073709551616 % y)*18446744073709551616+P % 18446744073709551616) / y<18446744073709551616:=by
  rw [Nat.div_lt_iff_lt_mul hy]
  have h1:P / 18446744073709551616 % y<y:=Nat.mod_lt _ hy
  have h2:P % 18446744073709551616<18446744073709551616:=Nat.mod_lt _ (by omega)
  have h3:(P / 18446744073709551616 % y+1)*18446744073709551616≤y*18446744073709551616:=Nat.mul_le_mul_right _ h1
  rw [Nat.add_mul] at h3
  rw [Nat.mul_comm 18446744073709551616 y]
  omega
def sgn (s:Bool) (n:Nat):Int:=if s then -(n:Int) else n
theorem q3j4 (s:Bool) (n:Nat):(sgn s n).natAbs=n:=by unfold sgn;cases s<;>simp
theorem q3j6 {x y:Int} {s1 s2:Bool} {P Q:Nat} (hx:x=sgn s1 P) (hy:y=sgn s2 Q):x+y=(if s1=s2 then sgn s1 (P+Q) else if P<Q then sgn s2 (Q - P) else sgn s1 (P - Q)):=by
  subst hx hy
  unfold sgn
  cases s1<;>cases s2<;>simp<;>(try split)<;>omega
end Go.Pel
namespace Go.Proofs.YtbjpmdhdoggobaaGreat
open Go Go.Tx Go.Pel
theorem q3j7 (d g:Nat) (a b:Nat) (hb:1≤b):iter (q1as d) (g+1) ((a:Int),(b:Int))=iter (q1as d) g ((b:Int),((a % b:Nat):Int)):=by
  rw [iter]
  generalize iter (q1as d) g=self
  unfold q1as
  have c1:decide ((b:Int) > 0)=true:=decide_eq_true (by omega)
  have c2:((b:Int) == 0)=false:=by rw [beq_eq_false_iff_ne];omega
  have e1:(a:Int).tmod (b:Int)=((a % b:Nat):Int):=by rw [Int.tmod_eq_emod_of_nonneg (by omega)];rfl
  simp only [q1ak,q1am,q1aq,Dt.eval,c1,c2,cond_true,cond_false,e1]
theorem q3j8 (d g:Nat) (a:Nat):iter (q1as d) (g+1) ((a:Int),((0:Nat):Int))=some (a:Int):=by
  rw [iter]
  generalize iter (q1as d) g=self
  unfold q1as
  simp only [q1ak,q1am,q1aq,Dt.eval,show decide (((0:Nat):Int) > 0)=false from rfl,cond_false]
theorem q3j9 {b r k:Nat} (h:b<2 ^ (k+1)) (hr:r<b) (h0:0<r):b % r<2 ^ k:=by
  rw [Nat.pow_succ] at h
  rcases Nat.lt_or_ge (b / 2) r with q | q
  · have : b % r = b - r := by rw [Nat.mod_eq_sub_mod (by omega)]; exact Nat.mod_eq_of_lt (by omega)
    omega
  · have:=Nat.mod_lt b h0;omega
theorem q3ja (d:Nat):∀ (k f a b:Nat),b<2 ^ k→2*k+1≤f→iter (q1as d) f ((a:Int),(b:Int))=some ((Nat.gcd b a:Nat):Int)
  | 0, f, a, b, hb, hf => by
    obtain ⟨f,rfl⟩:∃ g,f=g+1:=⟨f - 1,by omega⟩
    obtain rfl:b=0:=by simpa using hb
    rw [q3j8,Nat.gcd_zero_left]
  | k + 1, f, a, b, hb, hf => by
    obtain ⟨f,rfl⟩:∃ g,f=g+2:=⟨f - 2,by omega⟩
    rcases Nat.eq_zero_or_pos b with h | h
    · subst h
      rw [q3j8,Nat.gcd_zero_left]
    · rw [q3j7 d (f + 1) a b h]
      have hr:=Nat.mod_lt a h
      have hg:Nat.gcd b a=Nat.gcd (a % b) b:=Nat.gcd_rec b a
      rw [hg]
      generalize a % b=r at *
      rcases Nat.eq_zero_or_pos r with h0 | h0
      · subst h0
        rw [q3j8,Nat.gcd_zero_left]
      · rw [q3j7 d f b r h0,q3ja d k f r (b % r) (q3j9 hb hr h0) (by omega),Nat.gcd_rec r b]
theorem q3jb (d:Nat) (hd:200≤d) {a b:Nat} (hb:b<18446744073709551616):q1at d (((a:Int),()),((b:Int),()),())=some ((Nat.gcd a b:Nat):Int):=by
  simp only [q1at,q1ag,Dt.eval]
  rw [q3ja d 64 d a b hb (by omega),Nat.gcd_comm]
theorem q3jc {x y:Nat} {c:Nat} (hx:x<18446744073709551616) (hy:y<18446744073709551616) (hc:c≤1):q147 (x:Int) (y:Int) (c:Int)=some ((((x+y+c) % 18446744073709551616:Nat):Int),(((x+y+c) / 18446744073709551616:Nat):Int)):=by
  unfold q147
  rw [show (decide ((0:Int)≤(x:Int))&&decide ((x:Int)<18446744073709551616)&&decide ((0:Int)≤(y:Int))&&decide ((y:Int)<18446744073709551616)&&decide ((0:Int)≤(c:Int))&&decide ((c:Int)≤1))=true by simp only [Bool.and_eq_true,decide_eq_true_eq];omega,cond_true]
  rfl
theorem q3jd {x y c:Nat} (hx:x<18446744073709551616) (hy:y<18446744073709551616) (hc:c≤1):q148 (x:Int) (y:Int) (c:Int)=some (((x:Int) - y - c) % 18446744073709551616,bif decide ((x:Int)<y+c) then 1 else 0):=by
  unfold q148
  rw [show (decide ((0:Int)≤(x:Int))&&decide ((x:Int)<18446744073709551616)&&decide ((0:Int)≤(y:Int))&&decide ((y:Int)<18446744073709551616)&&decide ((0:Int)≤(c:Int))&&decide ((c:Int)≤1))=true by simp only [Bool.and_eq_true,decide_eq_true_eq];omega,cond_true]
theorem q3je {P Q:Nat} (hP:P<340282366920938463463374607431768211456) (h:Q≤P):∃ b:Nat,b≤1∧q148 (loN P) (loN Q) ((0:Nat):Int)=some (loN (P - Q),(b:Int))∧q148 (hiN P) (hiN Q) (b:Int)=some (hiN (P - Q),0):=by
  by_cases hb:P % 18446744073709551616<Q % 18446744073709551616
  · refine ⟨1, Nat.le_refl _, ?_, ?_⟩
    · rw [q3jd (by omega) (by omega) (by omega), show decide (((P % 18446744073709551616 : Nat) : Int) < ((Q % 18446744073709551616 : Nat) : Int) + ((0 : Nat) : Int)) = true by rw [decide_eq_true_eq]; omega, cond_true]
      refine congrArg some (Prod.ext ?_ rfl)
      show _=((_:Nat):Int)
      omega
    · rw [q3jd (by omega) (by omega) (by omega), show decide (((P / 18446744073709551616 : Nat) : Int) < ((Q / 18446744073709551616 : Nat) : Int) + ((1 : Nat) : Int)) = false by rw [decide_eq_false_iff_not]; omega, cond_false]
      refine congrArg some (Prod.ext ?_ rfl)
      show _=((_:Nat):Int)
      omega
  · refine ⟨0, Nat.zero_le _, ?_, ?_⟩
    · rw [q3jd (by omega) (by omega) (by omega), show decide (((P % 18446744073709551616 : Nat) : Int) < ((Q % 18446744073709551616 : Nat) : Int) + ((0 : Nat) : Int)) = false by rw [decide_eq_false_iff_not]; omega, cond_false]
      refine congrArg some (Prod.ext ?_ rfl)
      show _=((_:Nat):Int)
      omega
    · rw [q3jd (by omega) (by omega) (by omega), show decide (((P / 18446744073709551616 : Nat) : Int) < ((Q / 18446744073709551616 : Nat) : Int) + ((0 : Nat) : Int)) = false by rw [decide_eq_false_iff_not]; omega, cond_false]
      refine congrArg some (Prod.ext ?_ rfl)
      show _=((_:Nat):Int)
      omega
theorem q3jf {P Q:Nat} (hP:P<170141183460469231731687303715884105728) (hQ:Q<170141183460469231731687303715884105728):∃ c:Int,q147 (loN P) (loN Q) 0=some (loN (P+Q),c)∧∃ c2:Int,q147 (hiN P) (hiN Q) c=some (hiN (P+Q),c2):=by
  have a1:=q3jc (x:=P % 18446744073709551616) (y:=Q % 18446744073709551616) (c:=0) (by omega) (by omega) (by omega)
  have a2:=q3jc (x:=P / 18446744073709551616) (y:=Q / 18446744073709551616) (c:=(P % 18446744073709551616+Q % 18446744073709551616+0) / 18446744073709551616) (by omega) (by omega) (by omega)
  have r1:(P / 18446744073709551616+Q / 18446744073709551616+(P % 18446744073709551616+Q % 18446744073709551616+0) / 18446744073709551616) % 18446744073709551616=(P+Q) / 18446744073709551616:=by omega
  have r2:(P % 18446744073709551616+Q % 18446744073709551616+0) % 18446744073709551616=(P+Q) % 18446744073709551616:=by omega
  rw [r2] at a1
  rw [r1] at a2
  exact ⟨_,a1,_,a2⟩
theorem q3jg (d:Nat) {s:Bool} {p1 p0 q1 q0 X1 X2 c c2:Int} (a1:q147 p0 q0 0=some (X2,c)) (a2:q147 p1 q1 c=some (X1,c2)):q1c6 d ((s,p1,p0,()),(s,q1,q0,()),())=some (s,X1,X2):=by
  simp only [q1c6,q1b1,q1b7,q1bb,q1bf,q1bj,q1bn,Dt.eval,beq_self_eq_true,cond_true,a1,a2]
theorem q3jh (d:Nat) {s1 s2:Bool} {p1 p0 q1 q0 X1 X2 z b c:Int} (c1:(s1 == s2)=false) (e1:q12s d ((s1,p1,p0,()),(s2,q1,q0,()),())=some z) (hz:decide (z<0)=true) (b1:q148 q0 p0 0=some (X2,b)) (b2:q148 q1 p1 b=some (X1,c)):q1c6 d ((s1,p1,p0,()),(s2,q1,q0,()),())=some (s2,X1,X2):=by
  unfold q1c6 q1c5
  simp only [q1c6,q1b1,q1b7,q1bb,q1bf,q1bj,q1bn,q1br,q1bt,q1bx,q1c1,q1c3,Dt.eval,c1,cond_false,e1,hz,cond_true,b1,b2]
theorem q3ji (d:Nat) {s1 s2:Bool} {p1 p0 q1 q0 X1 X2 z b c:Int} (c1:(s1 == s2)=false) (e1:q12s d ((s1,p1,p0,()),(s2,q1,q0,()),())=some z) (hz:decide (z<0)=false) (b1:q148 p0 q0 0=some (X2,b)) (b2:q148 p1 q1 b=some (X1,c)):q1c6 d ((s1,p1,p0,()),(s2,q1,q0,()),())=some (s1,X1,X2):=by
  unfold q1c6 q1c5
  simp only [q1c6,q1b1,q1b7,q1bb,q1bf,q1bj,q1bn,q1br,q1bt,q1bx,q1c1,q1c3,Dt.eval,c1,cond_false,e1,hz,b1,b2]
theorem q3jj (d:Nat) {s:Bool} {P Q:Nat} (hP:P<170141183460469231731687303715884105728) (hQ:Q<170141183460469231731687303715884105728):q1c6 d ((s,hiN P,loN P,()),(s,hiN Q,loN Q,()),())=some (s,hiN (P+Q),loN (P+Q)):=by
  obtain ⟨c,a1,c2,a2⟩:=q3jf hP hQ
  exact q3jg d a1 a2
theorem q3jk (d:Nat) {s1 s2:Bool} {P Q:Nat} (hQ:Q<170141183460469231731687303715884105728) (hs:s1≠s2) (h:P<Q):q1c6 d ((s1,hiN P,loN P,()),(s2,hiN Q,loN Q,()),())=some (s2,hiN (Q - P),loN (Q - P)):=by
  obtain ⟨b,_,b1,b2⟩:=q3je (P:=Q) (Q:=P) (by omega) (by omega)
  exact q3jh d (by simpa using hs) (q3eg d s1 s2 P Q) (by rw [qkw (by omega)];rfl) b1 b2
theorem q3jl (d:Nat) {s1 s2:Bool} {P Q:Nat} (hP:P<170141183460469231731687303715884105728) (hs:s1≠s2) (h:¬ P<Q):q1c6 d ((s1,hiN P,loN P,()),(s2,hiN Q,loN Q,()),())=some (s1,hiN (P - Q),loN (P - Q)):=by
  obtain ⟨b,_,b1,b2⟩:=q3je (P:=P) (Q:=Q) (by omega) (by omega)
  exact q3ji d (by simpa using hs) (q3eg d s1 s2 P Q) (by
    rcases Nat.lt_or_eq_of_le (Nat.le_of_not_lt h) with k | k
    · rw [qkx (by omega)];rfl
    · rw [qky (by omega)];rfl) b1 b2
theorem q3jm (d:Nat) {s1 s2:Bool} {P Q:Nat} (hP:P<170141183460469231731687303715884105728) (hQ:Q<170141183460469231731687303715884105728):q1c6 d ((s1,hiN P,loN P,()),(s2,hiN Q,loN Q,()),())=some (if s1=s2 then (s1,hiN (P+Q),loN (P+Q)) else if P<Q then (s2,hiN (Q - P),loN (Q - P)) else (s1,hiN (P - Q),loN (P - Q))):=by
  by_cases hs:s1=s2
  · subst hs
    rw [if_pos rfl];exact q3jj d hP hQ
  · rw [if_neg hs]
    by_cases h:P<Q
    · rw [if_pos h];exact q3jk d hQ hs h
    · rw [if_neg h];exact q3jl d hP hs h
theorem q3jn (d:Nat) {s1 s2:Bool} {P Q:Nat} (hP:P<170141183460469231731687303715884105728) (hQ:Q<170141183460469231731687303715884105728):∃ s N,q1c6 d ((s1,hiN P,loN P,()),(s2,hiN Q,loN Q,()),())=some (s,hiN N,loN N)∧sgn s1 P+sgn s2 Q=sgn s N∧N≤P+Q:=by
  have e:=q3jm d (s1:=s1) (s2:=s2) hP hQ
  have k:=q3j6 (x:=sgn s1 P) (y:=sgn s2 Q) rfl rfl
  by_cases hs:s1=s2
  · rw [if_pos hs] at e k;exact ⟨_,_,e,k,Nat.le_refl _⟩
  · rw [if_neg hs] at e k
    by_cases h:P<Q
    · rw [if_pos h] at e k;exact ⟨_,_,e,k,by omega⟩
    · rw [if_neg h] at e k;exact ⟨_,_,e,k,by omega⟩
theorem q3jo (d:Nat) (hd:10≤d) {s:Bool} {P y:Nat} (hP:P<340282366920938463463374607431768211456) (hy:0<y) (hy2:y<18446744073709551616):q1cy d ((s,hiN P,loN P,()),((y:Int),()),())=some (s,hiN (P / y),loN (P / y),((P % y:Nat):Int)):=by
  obtain ⟨o1,o2⟩:=q3j2 (P:=P) hy
  have o3:=q3j3 (P:=P) hy
  have hh:P / 18446744073709551616<18446744073709551616:=by omega
  have hl:P % 18446744073709551616<18446744073709551616:=by omega
  have c1:((y:Int) == 0)=false:=by rw [beq_eq_false_iff_ne];omega
  have b:=Nat.div_le_self (P / 18446744073709551616) y
  have e1:(hiN P).tdiv (y:Int)=((P / 18446744073709551616 / y:Nat):Int):=by rw [Int.tdiv_eq_ediv_of_nonneg (Int.natCast_nonneg _)];rfl
  have e2:(hiN P).tmod (y:Int)=((P / 18446744073709551616 % y:Nat):Int):=by rw [Int.tmod_eq_emod_of_nonneg (Int.natCast_nonneg _)];rfl
  have e3:IntKind.wrap .u64 ((P / 18446744073709551616 / y:Nat):Int)=((P / 18446744073709551616 / y:Nat):Int):=by
    generalize P / 18446744073709551616 / y=q at *
    exact wu64 (by omega)
  have e4:=q3j0 d hd (hi:=P / 18446744073709551616 % y) (lo:=P % 18446744073709551616) (y:=y) (Nat.mod_lt _ hy) hy2 hl
  rw [← o2] at e4
  simp only [q1cy,q1ce,q1ck,q1co,q1cs,q1cw,Dt.eval,c1,cond_false,e1,e2,e3]
  rw [show (loN P)=((P % 18446744073709551616:Nat):Int) from rfl,e4]
  simp only [Dt.eval]
  generalize (P / 18446744073709551616 % y*18446744073709551616+P % 18446744073709551616) / y=L at *
  generalize P / 18446744073709551616 / y=H at *
  rw [o1]
  refine congrArg some (Prod.ext rfl (Prod.ext ?_ (Prod.ext ?_ rfl)))
  · show (H:Int)=(((H*18446744073709551616+L) / 18446744073709551616:Nat):Int);omega
  · show (L:Int)=(((H*18446744073709551616+L) % 18446744073709551616:Nat):Int);omega
theorem q3jp (d:Nat) {s:Bool} {N D:Nat} (hN:N<340282366920938463463374607431768211456) (hD:D<340282366920938463463374607431768211456):q1e1 d ((s,hiN N,loN N,()),(hiN D,()),(loN D,()),())=some (fitQ (sgn s N) (D:Int)):=by
  have hf:fitQ (sgn s N) (D:Int)=if N≤9223372036854775807∧D≤9223372036854775807 then (sgn s N,(D:Int),0) else (0,0,16):=by
    unfold fitQ;rw [q3j4,Int.natAbs_natCast]
  rw [hf]
  by_cases h1:N≤9223372036854775807
  · have n1 : hiN N = 0 := by show ((_ : Nat) : Int) = 0; omega
    have n2:loN N=(N:Int):=by show ((_:Nat):Int)=_;omega
    by_cases h2:D≤9223372036854775807
    · have d1 : hiN D = 0 := by show ((_ : Nat) : Int) = 0; omega
      have d2:loN D=(D:Int):=by show ((_:Nat):Int)=_;omega
      rw [if_pos ⟨h1,h2⟩,n1,n2,d1,d2]
      have c1:decide ((N:Int) > 9223372036854775807)=false:=decide_eq_false (by omega)
      have c2:decide ((D:Int) > 9223372036854775807)=false:=decide_eq_false (by omega)
      have w1:IntKind.wrap .i64 (N:Int)=(N:Int):=IntWalk.i64_in _ (by omega)
      have w2:IntKind.wrap .i64 (D:Int)=(D:Int):=IntWalk.i64_in _ (by omega)
      have w3:IntKind.wrap .i64 (0 - (N:Int))=-(N:Int):=by rw [IntWalk.i64_in _ (by omega)];omega
      unfold q1e1 q1e0
      cases s with
      | true=>simp only [q1e1,q1d6,q1dc,q1dg,q1dk,q1do,q1ds,q1dw,q1dy,Dt.eval,show decide ((0:Int) > 0)=false from rfl,cond_false,c1,c2,w1,w2,w3,cond_true];rfl
      | false=>simp only [q1e1,q1d6,q1dc,q1dg,q1dk,q1do,q1ds,q1dw,q1dy,Dt.eval,show decide ((0:Int) > 0)=false from rfl,cond_false,c1,c2,w1,w2];rfl
    · rw [if_neg (by omega), n1, n2]
      have c1:decide ((N:Int) > 9223372036854775807)=false:=decide_eq_false (by omega)
      unfold q1e1 q1e0
      by_cases h3:hiN D > 0
      · simp only [q1e1,q1d6,q1dc,q1dg,q1dk,q1do,q1ds,q1dw,q1dy,Dt.eval,show decide ((0:Int) > 0)=false from rfl,cond_false,c1,decide_eq_true h3,cond_true]
      · have c2:decide (loN D > 9223372036854775807)=true:=decide_eq_true (by
          have h3':¬ ((D / 18446744073709551616:Nat):Int) > 0:=h3
          show ((D % 18446744073709551616:Nat):Int) > _
          omega)
        simp only [q1e1,q1d6,q1dc,q1dg,q1dk,q1do,q1ds,q1dw,q1dy,Dt.eval,show decide ((0:Int) > 0)=false from rfl,cond_false,c1,decide_eq_false h3,c2,cond_true]
  · rw [if_neg (by omega)]
    unfold q1e1 q1e0
    by_cases h3:hiN N > 0
    · simp only [q1e1,q1d6,q1dc,q1dg,q1dk,q1do,q1ds,q1dw,q1dy,Dt.eval,decide_eq_true h3,cond_true]
    · have c2:decide (loN N > 9223372036854775807)=true:=decide_eq_true (by
        have h3':¬ ((N / 18446744073709551616:Nat):Int) > 0:=h3
        show ((N % 18446744073709551616:Nat):Int) > _
        omega)
      simp only [q1e1,q1d6,q1dc,q1dg,q1dk,q1do,q1ds,q1dw,q1dy,Dt.eval,decide_eq_false h3,cond_false,c2,cond_true]
end Go.Proofs.YtbjpmdhdoggobaaGreat

namespace Go.Pel
open Go Go.Tx
theorem q3jq (a b:Int):sgn (!((decide (a<0)) == (decide (b<0)))) (a*b).natAbs=a*b:=by
  unfold sgn
  rcases (by omega:a<0∨0≤a) with h1 | h1<;>rcases (by omega:b<0∨0≤b) with h2 | h2
  · have := Int.mul_nonneg_of_nonpos_of_nonpos (show a ≤ 0 by omega) (show b ≤ 0 by omega)
    simp only [h1,h2,decide_true,beq_self_eq_true,Bool.not_true,Bool.false_eq_true,if_false];omega
  · have := Int.mul_nonpos_of_nonpos_of_nonneg (show a ≤ 0 by omega) h2
    simp only [h1,show ¬ b<0 by omega,decide_true,decide_false,show (true == false)=false from rfl,Bool.not_false,if_true];omega
  · have := Int.mul_nonpos_of_nonneg_of_nonpos h1 (show b ≤ 0 by omega)
    simp only [h2,show ¬ a<0 by omega,decide_true,decide_false,show (false == true)=false from rfl,Bool.not_false,if_true];omega
  · have := Int.mul_nonneg h1 h2
    simp only [show ¬ a<0 by omega,show ¬ b<0 by omega,decide_false,beq_self_eq_true,Bool.not_true,Bool.false_eq_true,if_false];omega
theorem q3jr {a b:Int} (ha:a.natAbs≤9223372036854775808) (hb:b.natAbs≤9223372036854775807):(a*b).natAbs≤85070591730234615856620279821087277056:=by
  rw [Int.natAbs_mul]
  exact Nat.le_trans (Nat.mul_le_mul ha hb) (by decide)
theorem q3js {a b:Nat} (ha:1≤a) (hb:1≤b):1≤Nat.gcd a b∧Nat.gcd a b≤a∧Nat.gcd a b≤b∧a=a / Nat.gcd a b*Nat.gcd a b∧b=b / Nat.gcd a b*Nat.gcd a b∧1≤a / Nat.gcd a b∧1≤b / Nat.gcd a b∧Nat.gcd (a / Nat.gcd a b) (b / Nat.gcd a b)=1:=by
  have hg:1≤Nat.gcd a b:=Nat.gcd_pos_of_pos_left _ ha
  have e1:a / Nat.gcd a b*Nat.gcd a b=a:=Nat.div_mul_cancel (Nat.gcd_dvd_left _ _)
  have e2:b / Nat.gcd a b*Nat.gcd a b=b:=Nat.div_mul_cancel (Nat.gcd_dvd_right _ _)
  exact ⟨hg,Nat.gcd_le_left _ ha,Nat.gcd_le_right _ hb,e1.symm,e2.symm,Nat.div_pos (Nat.gcd_le_left _ ha) hg,Nat.div_pos (Nat.gcd_le_right _ hb) hg,Nat.coprime_div_gcd_div_gcd hg⟩
theorem q3jt {n1 n2:Int} {a b N:Nat} {s:Bool} (ha:1≤a) (hb:1≤b) (h1:Nat.gcd n1.natAbs a=1) (h2:Nat.gcd n2.natAbs b=1) (hN:n1*((b / Nat.gcd a b:Nat):Int)+n2*((a / Nat.gcd a b:Nat):Int)=sgn s N) :
    Low (n1*(b:Int)+n2*(a:Int)) ((a:Int)*(b:Int)) (sgn s (N / Nat.gcd N (Nat.gcd a b))) (((a / Nat.gcd a b*(b / Nat.gcd N (Nat.gcd a b)):Nat)):Int):=by
  obtain ⟨g1,g2,g3,ea,eb,pa,pb,hc⟩:=q3js ha hb
  generalize hg:Nat.gcd a b=g at *
  generalize ha':a / g=a' at *
  generalize hb':b / g=b' at *
  have hh1:1≤Nat.gcd N g:=Nat.gcd_pos_of_pos_right _ g1
  have hd1:Nat.gcd N g ∣ N:=Nat.gcd_dvd_left _ _
  have hd2:Nat.gcd N g ∣ b:=Nat.dvd_trans (Nat.gcd_dvd_right _ _) ⟨b',by rw [eb,Nat.mul_comm]⟩
  have e1:N / Nat.gcd N g*Nat.gcd N g=N:=Nat.div_mul_cancel hd1
  have e2:b / Nat.gcd N g*Nat.gcd N g=b:=Nat.div_mul_cancel hd2
  generalize hh:Nat.gcd N g=h at *
  generalize N / h=m at *
  generalize b / h=c at *
  have hm:sgn s N=sgn s m*(h:Int):=by
    rw [← e1];unfold sgn
    cases s
    · show ((m*h:Nat):Int)=(m:Int)*(h:Int);simp
    · show -((m*h:Nat):Int)=-(m:Int)*(h:Int);rw [Int.neg_mul];simp
  have:=q3i9 (an:=n1) (ad:=(a:Int)) (bn:=n2) (bd:=(b:Int)) (g:=(g:Int)) (a':=(a':Int)) (b':=(b':Int)) (by omega) (by rw [ea];simp) (by rw [eb];simp) (by omega) (by omega) (by rw [Int.natAbs_natCast];exact h1) (by rw [Int.natAbs_natCast];exact h2) (by rw [Int.natAbs_natCast,Int.natAbs_natCast];exact hc) (n:=sgn s N) (m:=sgn s m) (h:=(h:Int)) (c:=(c:Int)) hN (by rw [q3j4,Int.natAbs_natCast,hh]) hm (by rw [← e2];simp)
  rw [show ((a'*c:Nat):Int)=(a':Int)*(c:Int) by simp]
  exact this
end Go.Pel
namespace Go.Proofs.YtbjpmdhdoggobaaGreat
open Go Go.Tx Go.Pel
theorem q3ju {n d:Int} (h:qdm n d=0) (hn:i64B n=true) (hd:i64B d=true):∃ a:Nat,d=a∧1≤a∧a≤9223372036854775807∧n.natAbs≤9223372036854775807∧Nat.gcd n.natAbs a=1:=by
  obtain ⟨h1,h2,h3⟩:=qdt h
  have hn:=qjh hn
  have hd:=qjh hd
  refine ⟨d.toNat,by omega,by omega,by omega,by omega,?_⟩
  rw [Nat.gcd_comm];exact h3
theorem i64N {a:Nat} (h:a≤9223372036854775807):i64B (a:Int)=true:=q3fe (by omega)
theorem q3jv (a g:Nat):(a:Int).tdiv (g:Int)=((a / g:Nat):Int):=by rw [Int.tdiv_eq_ediv_of_nonneg (by omega)];rfl
theorem q3jw {a:Nat} (h:a<18446744073709551616):IntKind.wrap .u64 (a:Int)=(a:Int):=wu64 (by omega)
theorem q3jx {a:Nat} (h:a≤9223372036854775807):IntKind.wrap .i64 (a:Int)=(a:Int):=IntWalk.i64_in _ (by omega)
theorem neN {a:Nat} (h:1≤a):((a:Int) == 0)=false:=by rw [beq_eq_false_iff_ne];omega
theorem q3jy (d:Nat) {a b:Nat} (ha:a<18446744073709551616) (hb:b<18446744073709551616):qmv d (((a:Int),()),((b:Int),()),())=some (hiN (a*b),loN (a*b)):=by
  rw [qmw _ _ (by unfold qmu u64B;simp only [Bool.and_eq_true,decide_eq_true_eq];omega)]
  refine congrArg some (Prod.ext ?_ ?_)
  · show ((a:Int)*(b:Int)) / 18446744073709551616=((a*b / 18446744073709551616:Nat):Int);simp
  · show ((a:Int)*(b:Int)) % 18446744073709551616=((a*b % 18446744073709551616:Nat):Int);simp
theorem q3jz (d:Nat) {n:Int} {a:Nat} (hn:n.natAbs≤9223372036854775807) (ha:a≤9223372036854775807):qzw d ((n,()),((a:Int),()),())=some (!((decide (n<0)) == (decide ((a:Int)<0))),hiN (n*(a:Int)).natAbs,loN (n*(a:Int)).natAbs):=q3ef d n a (q3fe hn) (i64N ha)
theorem q3k0 {a g:Nat} (h:a≤9223372036854775807):a / g≤9223372036854775807:=Nat.le_trans (Nat.div_le_self _ _) h
theorem q3k1 (d:Nat) (hd:200≤d) {n1 d1 n2 d2:Int} (hn1:i64B n1=true) (hd1:i64B d1=true) (hn2:i64B n2=true) (hd2:i64B d2=true) (c1:qdm n1 d1=0) (c2:qdm n2 d2=0):q1fh d ((n1,d1,()),(n2,d2,()),())=some (red (n1*d2+n2*d1) (d1*d2)):=by
  have e0:=q3eh d n1 d1 n2 d2 hn1 hd1 hn2 hd2
  rw [c1,c2] at e0
  obtain ⟨a,rfl,a1,a2,a3,a4⟩:=q3ju c1 hn1 hd1
  obtain ⟨b,rfl,b1,b2,b3,b4⟩:=q3ju c2 hn2 hd2
  obtain ⟨g1,g2,g3,_,_,pa,pb,_⟩:=q3js a1 b1
  have hlow:=fun s N=>@q3jt n1 n2 a b N s a1 b1 a4 b4
  have e1:=q3jb d hd (a:=a) (b:=b) (by omega)
  have q1:=q3k0 (g:=Nat.gcd a b) a2
  have q2:=q3k0 (g:=Nat.gcd a b) b2
  generalize Nat.gcd a b=g at *
  have e2:=q3jz d (n:=n1) (a:=b / g) a3 q2
  have e3:=q3jz d (n:=n2) (a:=a / g) b3 q1
  have m1:=q3jr (a:=n1) (b:=((b / g:Nat):Int)) (by omega) (by omega)
  have m2:=q3jr (a:=n2) (b:=((a / g:Nat):Int)) (by omega) (by omega)
  have t1:=q3jv b g
  have t2:=q3jv a g
  have k1:=q3jq n1 ((b / g:Nat):Int)
  have k2:=q3jq n2 ((a / g:Nat):Int)
  generalize a / g=a' at *
  generalize b / g=b' at *
  generalize (!((decide (n1<0)) == (decide ((b':Int)<0))))=s1 at *
  generalize (!((decide (n2<0)) == (decide ((a':Int)<0))))=s2 at *
  obtain ⟨s,N,e4,hs,hN⟩:=q3jn d (s1:=s1) (s2:=s2) (P:=(n1*(b':Int)).natAbs) (Q:=(n2*(a':Int)).natAbs) (by omega) (by omega)
  rw [k1,k2] at hs
  replace hlow:=hlow s N hs
  have hg64:g<18446744073709551616:=by omega
  have e5:=q3jo d (by omega) (s:=s) (P:=N) (y:=g) (by omega) (by omega) hg64
  have e6:=q3jb d hd (a:=g) (b:=N % g) (by have:=Nat.mod_lt N (show 0<g by omega);omega)
  rw [show Nat.gcd g (N % g)=Nat.gcd N g by rw [Nat.gcd_comm N g,Nat.gcd_rec g N,Nat.gcd_comm]] at e6
  have hh1:1≤Nat.gcd N g:=Nat.gcd_pos_of_pos_right _ g1
  have hh2:Nat.gcd N g≤g:=Nat.gcd_le_right _ (by omega)
  generalize Nat.gcd N g=h at *
  have e7:=q3jo d (by omega) (s:=s) (P:=N) (y:=h) (by omega) (by omega) (by omega)
  have t3:=q3jv b h
  have q3:=q3k0 (g:=h) b2
  have q4:N / h≤N:=Nat.div_le_self _ _
  generalize N / h=m at *
  generalize b / h=c at *
  have e8:=q3jy d (a:=a') (b:=c) (by omega) (by omega)
  have m3:a'*c≤9223372036854775807*9223372036854775807:=Nat.mul_le_mul (by omega) (by omega)
  have e9:=q3jp d (s:=s) (N:=m) (D:=a'*c) (by omega) (by omega)
  rw [q3i1 (by
    have:=Int.mul_pos (show (0:Int)<(a:Int) by omega) (show (0:Int)<(b:Int) by omega);omega) hlow]
  simp only [q1fh,q1e9,q1ef,q1ej,q1en,q1er,q1ev,q1ez,q1f3,q1f7,q1f9,q1fd,q1ff,Dt.eval,e0,show tmax (0:Int) 0=0 from rfl,show ((0:Int) != 0)=false from rfl,cond_false,q3jw (show a<18446744073709551616 by omega),q3jw (show b<18446744073709551616 by omega),e1,q3jx (show g≤9223372036854775807 by omega),neN g1,neN hh1,t1,t2,t3,q3jx q1,q3jx q2,e2,e3,e4,q3jw hg64,e5,e6,e7,q3jw (show a'<18446744073709551616 by omega),q3jw (show c<18446744073709551616 by omega),e8,e9]
theorem q3k2 {n d:Int} (h:qdm n d=0) (hn:i64B n=true):qdm (-n) d=0∧i64B (-n)=true∧IntKind.wrap .i64 (0 - n)=-n:=by
  obtain ⟨h1,h2,h3⟩:=qdt h
  have hn:=qjh hn
  refine ⟨qdp h1 (by omega) (by rw [Int.natAbs_neg];exact h3),q3fe (by omega),?_⟩
  rw [IntWalk.i64_in _ (by omega)];omega
def subV (n1 d1 n2 d2:Int):Int×Int×Int:=if qdm n1 d1=0∧qdm n2 d2=0 then red (n1*d2 - n2*d1) (d1*d2) else (0,0,8)
theorem subC (d:Nat) (hd:200≤d) {n1 d1 n2 d2:Int} (hn1:i64B n1=true) (hd1:i64B d1=true) (hn2:i64B n2=true) (hd2:i64B d2=true):q1gd d ((n1,d1,()),(n2,d2,()),())=some (subV n1 d1 n2 d2):=by
  unfold subV
  have e0:=q3eh d n1 d1 n2 d2 hn1 hd1 hn2 hd2
  by_cases hc:qdm n1 d1=0∧qdm n2 d2=0
  · rw [if_pos hc]
    rw [hc.1,hc.2] at e0
    obtain ⟨k1,k2,k3⟩:=q3k2 hc.2 hn2
    have e1:=q3k1 d hd hn1 hd1 k2 hd2 hc.1 k1
    rw [Int.neg_mul,show n1*d2 + -(n2*d1)=n1*d2 - n2*d1 by omega] at e1
    simp only [q1gd,q1fp,q1fv,q1fz,q1g3,q1g7,q1g9,q1gb,Dt.eval,e0,show tmax (0:Int) 0=0 from rfl,show ((0:Int) != 0)=false from rfl,cond_false,k3,e1]
  · rw [if_neg hc]
    have e1:tmax (qdm n1 d1) (qdm n2 d2)=8:=by
      unfold tmax
      rcases qds n1 d1 with q1 | q1<;>rcases qds n2 d2 with q2 | q2
      · exact absurd ⟨q1,q2⟩ hc
      all_goals rw [q1,q2];rfl
    rw [e1] at e0
    simp only [q1gd,q1fp,q1fv,q1fz,q1g3,q1g7,Dt.eval,e0,show ((8:Int) != 0)=true from rfl,cond_true]
def atQ (p:T3) (n dd:Int):Int×Int×Int:=if qe0 p.1 p.2.1 p.2.2.1=0∧qdm n dd=0 then red (p.2.1*dd+p.2.2.1*n) dd else (0,0,8)
theorem q3k3 (d:Nat) (hd10:10≤d) (neg:Bool) {D P:Nat} (hD:1≤D) (hD2:D≤9223372036854775807) (hP:P<170141183460469231731687303715884105728):∀ (k f a b:Nat),b<2 ^ k→2*k+1≤f→1≤a→a≤D→b≤D→Nat.gcd b a=Nat.gcd P D →
    iter (q1iy d) f (neg,(D:Int),(b:Int),(a:Int),(0:Int),(0:Int),hiN P,loN P)=some (fitQ (sgn neg (P / Nat.gcd P D)) ((D / Nat.gcd P D:Nat):Int)):=by
  have fin:∀ (f a:Nat),1≤f→1≤a→a≤D→a=Nat.gcd P D→iter (q1iy d) f (neg,(D:Int),((0:Nat):Int),(a:Int),(0:Int),(0:Int),hiN P,loN P)=some (fitQ (sgn neg (P / Nat.gcd P D)) ((D / Nat.gcd P D:Nat):Int)):=by
    intro f a hf ha haD hg
    obtain ⟨f,rfl⟩:∃ g,f=g+1:=⟨f - 1,by omega⟩
    rw [iter]
    unfold q1iy q1ix
    rw [← hg]
    obtain ⟨o1,o2⟩:=q3j2 (P:=P) (y:=a) (by omega)
    have o3:=q3j3 (P:=P) (y:=a) (by omega)
    have hh:P / 18446744073709551616<9223372036854775808:=by omega
    have w1:IntKind.wrap .u64 (hiN P)=hiN P:=wu64 (by show (0:Int)≤((_:Nat):Int)∧((_:Nat):Int)<_;omega)
    have t1:(hiN P).tdiv (a:Int)=((P / 18446744073709551616 / a:Nat):Int):=q3jv _ _
    have t2:(hiN P).tmod (a:Int)=((P / 18446744073709551616 % a:Nat):Int):=by rw [Int.tmod_eq_emod_of_nonneg (Int.natCast_nonneg _)];rfl
    have e1:=q3j0 d hd10 (hi:=P / 18446744073709551616 % a) (lo:=P % 18446744073709551616) (y:=a) (Nat.mod_lt _ ha) (by omega) (Nat.mod_lt _ (by omega))
    have e1':q199 d ((((P / 18446744073709551616 % a:Nat):Int),()),(loN P,()),((a:Int),()),())=_:=e1
    have qb:P / 18446744073709551616 / a≤P / 18446744073709551616:=Nat.div_le_self _ _
    have t3:=q3jv D a
    have qD:D / a≤D:=Nat.div_le_self _ _
    generalize (P / 18446744073709551616 % a*18446744073709551616+P % 18446744073709551616) / a=L at *
    generalize P / 18446744073709551616 / a=H at *
    generalize D / a=E at *
    generalize P / a=Q at *
    have w2:=q3jw (show H<18446744073709551616 by omega)
    have w3:=q3jw (show E<18446744073709551616 by omega)
    have w4:=q3jx (show E≤9223372036854775807 by omega)
    have hf:fitQ (sgn neg Q) (E:Int)=if Q≤9223372036854775807∧E≤9223372036854775807 then (sgn neg Q,(E:Int),0) else (0,0,16):=by
      unfold fitQ;rw [q3j4,Int.natAbs_natCast]
    rw [hf]
    by_cases h1:H=0
    · subst h1
      have hQ:Q=L:=by omega
      subst hQ
      by_cases h2:Q≤9223372036854775807
      · rw [if_pos ⟨h2, by omega⟩]
        have c1:decide ((Q:Int) > 9223372036854775807)=false:=decide_eq_false (by omega)
        have w5:=q3jx h2
        have w6:IntKind.wrap .i64 (0 - (Q:Int))=-(Q:Int):=by rw [IntWalk.i64_in _ (by omega)];omega
        cases neg with
        | true=>simp only [q1i1,q1i3,q1i7,q1ib,q1if,q1ih,q1il,q1ip,q1it,q1iv,q1gl,Dt.eval,show decide (((0:Nat):Int) > 0)=false from rfl,cond_false,neN ha,w1,t1,t2,w2,e1',c1,t3,w3,w4,w5,cond_true,w6];rfl
        | false=>simp only [q1i1,q1i3,q1i7,q1ib,q1if,q1ih,q1il,q1ip,q1it,q1iv,q1gl,Dt.eval,show decide (((0:Nat):Int) > 0)=false from rfl,cond_false,neN ha,w1,t1,t2,w2,e1',c1,t3,w3,w4,w5];rfl
      · rw [if_neg (by omega)]
        have c1:decide ((Q:Int) > 9223372036854775807)=true:=decide_eq_true (by omega)
        simp only [q1i1,q1i3,q1i7,q1ib,q1if,q1ih,q1il,q1ip,q1it,q1iv,q1gl,Dt.eval,show decide (((0:Nat):Int) > 0)=false from rfl,cond_false,neN ha,w1,t1,t2,w2,e1',c1,cond_true]
    · rw [if_neg (by omega)]
      have c1:decide ((H:Int) > 0)=true:=decide_eq_true (by omega)
      simp only [q1i1,q1i3,q1i7,q1ib,q1if,q1ih,q1il,q1ip,q1it,q1iv,q1gl,Dt.eval,show decide (((0:Nat):Int) > 0)=false from rfl,cond_false,neN ha,w1,t1,t2,w2,e1',c1,cond_true]
  intro k
  induction k with
  | zero =>
    intro f a b hb hf ha haD hbD hg
    obtain rfl:b=0:=by simpa using hb
    rw [Nat.gcd_zero_left] at hg
    exact fin f a (by omega) ha haD hg
  | succ k ih =>
    intro f a b hb hf ha haD hbD hg
    rcases Nat.eq_zero_or_pos b with h | h
    · subst h
      rw [Nat.gcd_zero_left] at hg
      exact fin f a (by omega) ha haD hg
    · obtain ⟨f, rfl⟩ : ∃ g, f = g + 2 := ⟨f - 2, by omega⟩
      have step:∀ (g a b:Nat),1≤b→iter (q1iy d) (g+1) (neg,(D:Int),(b:Int),(a:Int),(0:Int),(0:Int),hiN P,loN P)=iter (q1iy d) g (neg,(D:Int),((a % b:Nat):Int),(b:Int),(0:Int),(0:Int),hiN P,loN P):=fun g a b hb=>by
        rw [iter]
        generalize iter (q1iy d) g=self
        unfold q1iy
        have c1:decide ((b:Int) > 0)=true:=decide_eq_true (by omega)
        have e1:(a:Int).tmod (b:Int)=((a % b:Nat):Int):=by rw [Int.tmod_eq_emod_of_nonneg (by omega)];rfl
        simp only [q1i1,q1i3,Dt.eval,c1,cond_true,neN hb,cond_false,e1]
      have hr:=Nat.mod_lt a h
      have hg1:Nat.gcd (a % b) b=Nat.gcd P D:=by rw [← hg,Nat.gcd_rec b a]
      rw [step (f+1) a b h]
      rcases Nat.eq_zero_or_pos (a % b) with h0 | h0
      · rw [h0] at hg1 ⊢
        rw [Nat.gcd_zero_left] at hg1
        exact fin (f+1) b (by omega) h hbD hg1
      · rw [step f b (a % b) h0]
        have hlt:b % (a % b)<2 ^ k:=q3j9 hb hr h0
        exact ih f (a % b) (b % (a % b)) hlt (by omega) h0 (by omega) (by have:=Nat.mod_lt b h0;omega) (by rw [← hg1,Nat.gcd_rec (a % b) b])
theorem atC (d:Nat) (hd:200≤d) (p:T3) {n dd:Int} (hn:i64B n=true) (hdd:i64B dd=true):q1j0 d ((p.1,p.2.1,p.2.2.1,()),(n,dd,()),())=some (atQ p n dd):=by
  unfold atQ
  have e1:qnv d ((p.1,p.2.1,p.2.2.1,()),())=some (qe0 p.1 p.2.1 p.2.2.1):=qnw _ _ rfl
  have e2:qnd d ((n,dd,()),())=some (qdm n dd):=qne _ _ (by unfold qnc;simp only [hn,hdd,Bool.and_self])
  by_cases hc:qe0 p.1 p.2.1 p.2.2.1=0∧qdm n dd=0
  · rw [if_pos hc]
    obtain ⟨_,_,a1,a2,a3,a4⟩:=qe4 hc.1
    obtain ⟨D,rfl,D1,D2,n1,hg⟩:=q3ju hc.2 hn hdd
    have m1:(p.2.1*(D:Int)).natAbs≤1048576*9223372036854775807:=by rw [Int.natAbs_mul];exact Nat.mul_le_mul (by omega) (by omega)
    have m2:(p.2.2.1*n).natAbs≤1048576*9223372036854775807:=by rw [Int.natAbs_mul];exact Nat.mul_le_mul (by omega) (by omega)
    have e3:q1a3 d ((p.2.1,(D:Int),p.2.2.1,n,()),())=some ((p.2.1*(D:Int)+p.2.2.1*n) / 18446744073709551616,(p.2.1*(D:Int)+p.2.2.1*n) % 18446744073709551616):=q1a4 _ _ (show sumB p.2.1 (D:Int) p.2.2.1 n=true from decide_eq_true ⟨by omega,by omega,by omega,by omega,by omega,by omega⟩)
    generalize hX:p.2.1*(D:Int)+p.2.2.1*n=X at *
    have hXb:X.natAbs<170141183460469231731687303715884105728:=by omega
    have hlow:Low X (D:Int) (sgn (decide (X<0)) (X.natAbs / Nat.gcd X.natAbs D)) ((D / Nat.gcd X.natAbs D:Nat):Int):=by
      have h1:1≤Nat.gcd X.natAbs D:=Nat.gcd_pos_of_pos_right _ D1
      have e1:X.natAbs / Nat.gcd X.natAbs D*Nat.gcd X.natAbs D=X.natAbs:=Nat.div_mul_cancel (Nat.gcd_dvd_left _ _)
      have e2:D / Nat.gcd X.natAbs D*Nat.gcd X.natAbs D=D:=Nat.div_mul_cancel (Nat.gcd_dvd_right _ _)
      have e3:Nat.gcd (X.natAbs / Nat.gcd X.natAbs D) (D / Nat.gcd X.natAbs D)=1:=Nat.coprime_div_gcd_div_gcd h1
      have e4:1≤D / Nat.gcd X.natAbs D:=Nat.div_pos (Nat.gcd_le_right _ D1) h1
      generalize Nat.gcd X.natAbs D=g at *
      generalize X.natAbs / g=u at *
      generalize D / g=v at *
      refine ⟨by omega,by rw [q3j4,Int.natAbs_natCast];exact e3,?_⟩
      have hs:X=sgn (decide (X<0)) (u*g):=by
        rw [e1];unfold sgn
        by_cases hx:X<0
        · rw [decide_eq_true hx,if_pos rfl];omega
        · rw [decide_eq_false hx,if_neg (by decide)];omega
      rw [← e2]
      generalize decide (X<0)=s at *
      rw [hs]
      unfold sgn
      cases s
      · show ((u * g : Nat) : Int) * (v : Int) = (u : Int) * ((v * g : Nat) : Int)
        rw [show ((u*g:Nat):Int)=(u:Int)*(g:Int) by simp,show ((v*g:Nat):Int)=(v:Int)*(g:Int) by simp,Int.mul_assoc,Int.mul_comm (g:Int)]
      · show -((u * g : Nat) : Int) * (v : Int) = -(u : Int) * ((v * g : Nat) : Int)
        rw [show ((u*g:Nat):Int)=(u:Int)*(g:Int) by simp,show ((v*g:Nat):Int)=(v:Int)*(g:Int) by simp,Int.neg_mul,Int.neg_mul,Int.mul_assoc,Int.mul_comm (g:Int)]
    rw [q3i1 (by omega) hlow]
    have e4:=q3j1 d (by omega) (hi:=X.natAbs / 18446744073709551616) (lo:=X.natAbs % 18446744073709551616) (y:=D) D1 (by omega) (by omega) (by omega)
    rw [show X.natAbs / 18446744073709551616*18446744073709551616+X.natAbs % 18446744073709551616=X.natAbs by omega] at e4
    have e4':q19v d ((hiN X.natAbs,()),(loN X.natAbs,()),((D:Int),()),())=_:=e4
    have wh:IntKind.wrap .u64 (hiN X.natAbs)=hiN X.natAbs:=wu64 (by show (0:Int)≤((_:Nat):Int)∧((_:Nat):Int)<_;omega)
    have wD:=q3jw (show D<18446744073709551616 by omega)
    have hloop:=q3k3 d (by omega) (decide (X<0)) D1 D2 hXb 64 d D (X.natAbs % D) (by have:=Nat.mod_lt X.natAbs D1;have:(2:Nat) ^ 64=18446744073709551616:=rfl;omega) (by omega) D1 (Nat.le_refl _) (Nat.le_of_lt (Nat.mod_lt _ D1)) (by rw [Nat.gcd_comm X.natAbs D,Nat.gcd_rec D X.natAbs])
    have z1:tmax (0:Int) 0=0:=rfl
    have z2:((0:Int) != 0)=false:=rfl
    rw [hc.1] at e1
    rw [hc.2] at e2
    simp only [q1gr,q1gv,q1gz,q1h3,q1h7,q1hb,q1hf,q1hj,q1hl,q1hp,q1ht,q1hx,q1j0,q1gl,q1iz,Dt.eval,e1,e2,e3,z1,z2,cond_false]
    by_cases hx:X<0
    · have q1 : decide (X / 18446744073709551616 < 0) = true := decide_eq_true (by omega)
      have hs:∃ b:Int,q148 0 (X % 18446744073709551616) 0=some (loN X.natAbs,b)∧IntKind.wrap .i64 (IntKind.wrap .i64 (0 - X / 18446744073709551616) - IntKind.wrap .i64 b)=hiN X.natAbs:=by
        have hm:q148 (((0:Nat):Int)) ((((X % 18446744073709551616).toNat:Nat):Int)) (((0:Nat):Int))=_:=q3jd (x:=0) (y:=(X % 18446744073709551616).toNat) (c:=0) (by omega) (by omega) (by omega)
        rw [show (((X % 18446744073709551616).toNat:Nat):Int)=X % 18446744073709551616 by omega] at hm
        by_cases hl:X % 18446744073709551616=0
        · refine ⟨0, ?_, ?_⟩
          · refine Eq.trans (b := some _) hm ?_
            rw [show decide ((((0:Nat):Int))<X % 18446744073709551616+((0:Nat):Int))=false by rw [decide_eq_false_iff_not];omega,cond_false]
            refine congrArg some (Prod.ext ?_ rfl)
            show _=((_:Nat):Int);omega
          · rw [show IntKind.wrap .i64 (0 : Int) = 0 from rfl, IntWalk.i64_in (0 - X / 18446744073709551616) (by omega), IntWalk.i64_in _ (by omega)]
            show _=((_:Nat):Int);omega
        · refine ⟨1, ?_, ?_⟩
          · refine Eq.trans (b := some _) hm ?_
            rw [show decide ((((0:Nat):Int))<X % 18446744073709551616+((0:Nat):Int))=true by rw [decide_eq_true_eq];omega,cond_true]
            refine congrArg some (Prod.ext ?_ rfl)
            show _=((_:Nat):Int);omega
          · rw [show IntKind.wrap .i64 (1 : Int) = 1 by decide, IntWalk.i64_in (0 - X / 18446744073709551616) (by omega), IntWalk.i64_in _ (by omega)]
            show _=((_:Nat):Int);omega
      obtain ⟨bb,s1,s2⟩:=hs
      rw [decide_eq_true hx] at hloop ⊢
      simp only [q1,cond_true,s1,Dt.eval,s2,wD,wh,e4']
      exact hloop
    · have q1 : decide (X / 18446744073709551616 < 0) = false := decide_eq_false (by omega)
      have h1:X / 18446744073709551616=hiN X.natAbs:=by show _=((_:Nat):Int);omega
      have h2:X % 18446744073709551616=loN X.natAbs:=by show _=((_:Nat):Int);omega
      rw [decide_eq_false hx] at hloop ⊢
      simp only [q1,cond_false,h1,h2,Dt.eval,wD,wh,e4']
      exact hloop
  · rw [if_neg hc]
    have e3:tmax (qe0 p.1 p.2.1 p.2.2.1) (qdm n dd)=8:=by
      unfold tmax
      rcases qe3 p.1 p.2.1 p.2.2.1 with q1 | q1<;>rcases qds n dd with q2 | q2
      · exact absurd ⟨q1,q2⟩ hc
      all_goals rw [q1,q2];rfl
    simp only [q1gr,q1gv,q1gz,q1h3,q1j0,q1gl,Dt.eval,e1,e2,e3,show ((8:Int) != 0)=true from rfl,cond_true]
end Go.Proofs.YtbjpmdhdoggobaaGreat

namespace Go.Pel
open Go Go.Tx
theorem and1 (x:Nat) (hx:x<18446744073709551616):andI .u64 (x:Int) 1=((x % 2:Nat):Int):=by
  unfold andI
  rw [show (BitVec.ofInt IntKind.u64.bits (x:Int) &&& BitVec.ofInt IntKind.u64.bits 1).toNat=x % 2 by
    rw [BitVec.toNat_and,BitVec.toNat_ofInt,BitVec.toNat_ofInt]
    rw [show (((x:Int) % ((2 ^ IntKind.u64.bits:Nat):Int)).toNat)=x by show ((x:Int) % 18446744073709551616).toNat=x;omega,show (((1:Int) % ((2 ^ IntKind.u64.bits:Nat):Int)).toNat)=2 ^ 1 - 1 from rfl,Nat.and_two_pow_sub_one_eq_mod]]
  exact wu64 (by omega)
theorem q3k4 {P k:Nat} (hk:64≤k):P / 18446744073709551616 / 2 ^ (k - 64) % 2=P / 2 ^ k % 2:=by
  rw [Nat.div_div_eq_div_mul,show (18446744073709551616:Nat)=2 ^ 64 from rfl,← Nat.pow_add,show 64+(k - 64)=k by omega]
theorem q3k5 {P k:Nat} (hk:k<64):P % 18446744073709551616 / 2 ^ k % 2=P / 2 ^ k % 2:=by
  rw [show (18446744073709551616:Nat)=2 ^ k*2 ^ (64 - k) by rw [← Nat.pow_add,show k+(64 - k)=64 by omega],Nat.mod_mul_right_div_self,show 64 - k=(63 - k)+1 by omega,Nat.pow_succ,Nat.mul_comm,Nat.mod_mul_right_mod]
theorem q3k6 {P k y:Nat} (hy:0<y):P / 2 ^ k / y=2*(P / 2 ^ (k+1) / y)+(if y≤2*(P / 2 ^ (k+1) % y)+P / 2 ^ k % 2 then 1 else 0)∧P / 2 ^ k % y=(if y≤2*(P / 2 ^ (k+1) % y)+P / 2 ^ k % 2 then 2*(P / 2 ^ (k+1) % y)+P / 2 ^ k % 2 - y else 2*(P / 2 ^ (k+1) % y)+P / 2 ^ k % 2):=by
  have e0:P / 2 ^ (k+1)=P / 2 ^ k / 2:=by rw [Nat.div_div_eq_div_mul,Nat.pow_succ]
  rw [e0]
  generalize P / 2 ^ k=X
  have hq:y*(X / 2 / y)+X / 2 % y=X / 2:=Nat.div_add_mod _ _
  have hr:=Nat.mod_lt (X / 2) hy
  generalize X / 2 / y=q at *
  generalize X / 2 % y=r at *
  have hX:X=2*r+X % 2+y*(2*q):=by
    have:y*(2*q)=2*(y*q):=by rw [Nat.mul_left_comm]
    omega
  have hc:X % 2<2:=Nat.mod_lt _ (by omega)
  generalize X % 2=c at *
  by_cases h:y≤2*r+c
  · rw [if_pos h, if_pos h]
    have e:X=(2*r+c - y)+y*(2*q+1):=by rw [Nat.mul_add,Nat.mul_one];omega
    constructor
    · rw [e,Nat.add_mul_div_left _ _ hy,Nat.div_eq_of_lt (by omega)];omega
    · rw [e,Nat.add_mul_mod_self_left,Nat.mod_eq_of_lt (by omega)]
  · rw [if_neg h, if_neg h]
    constructor
    · rw [hX,Nat.add_mul_div_left _ _ hy,Nat.div_eq_of_lt (by omega)];omega
    · rw [hX,Nat.add_mul_mod_self_left,Nat.mod_eq_of_lt (by omega)]
theorem q3k7 {a k:Nat} (hk:k<64) (h:2 ^ (k+1)*a+2 ^ k<18446744073709551616):orI .u64 ((2 ^ (k+1)*a:Nat):Int) (shlI .u64 1 (k:Int))=((2 ^ (k+1)*a+2 ^ k:Nat):Int):=by
  have hp:2 ^ k<2 ^ (k+1):=by rw [Nat.pow_succ];have:=Nat.two_pow_pos k;omega
  rw [q3ik _ _ (by omega),show ((1:Int)*((2 ^ k:Nat):Int)) % 18446744073709551616=((2 ^ k:Nat):Int) by rw [Int.one_mul];omega]
  exact or64 a (2 ^ k) (k+1) hp h
theorem q3k8 {q k:Nat} (hk:64≤k) (hk2:k<128):(q*2 ^ (k+1)) % 18446744073709551616=0∧(q*2 ^ (k+1)) / 18446744073709551616=2 ^ (k - 64+1)*q∧((2*q+1)*2 ^ k) % 18446744073709551616=0∧((2*q+1)*2 ^ k) / 18446744073709551616=2 ^ (k - 64+1)*q+2 ^ (k - 64):=by
  have e1:2 ^ k=2 ^ (k - 64)*18446744073709551616:=by rw [show (18446744073709551616:Nat)=2 ^ 64 from rfl,← Nat.pow_add,show k - 64+64=k by omega]
  have e2:2 ^ (k+1)=2 ^ (k - 64+1)*18446744073709551616:=by rw [Nat.pow_succ,e1,Nat.pow_succ];omega
  have e3:(2*q+1)*2 ^ k=(2 ^ (k - 64+1)*q+2 ^ (k - 64))*18446744073709551616:=by
    rw [e1,Nat.pow_succ,Nat.add_mul,Nat.add_mul,Nat.one_mul]
    congr 1
    rw [← Nat.mul_assoc]
    congr 1
    rw [Nat.mul_comm (2*q),Nat.mul_assoc]
  rw [e3,e2,← Nat.mul_assoc,Nat.mul_comm q]
  refine ⟨Nat.mul_mod_left _ _,Nat.mul_div_cancel _ (by omega),Nat.mul_mod_left _ _,Nat.mul_div_cancel _ (by omega)⟩
theorem q3k9 {q k:Nat} (hk:k<64):∃ a,(q*2 ^ (k+1)) % 18446744073709551616=2 ^ (k+1)*a∧2 ^ (k+1)*a+2 ^ k<18446744073709551616∧((2*q+1)*2 ^ k) % 18446744073709551616=2 ^ (k+1)*a+2 ^ k∧((2*q+1)*2 ^ k) / 18446744073709551616=(q*2 ^ (k+1)) / 18446744073709551616:=by
  have hM:(18446744073709551616:Nat)=2 ^ (k+1)*2 ^ (63 - k):=by rw [← Nat.pow_add,show k+1+(63 - k)=64 by omega]
  have hp1:0<2 ^ (k+1):=Nat.two_pow_pos _
  have hp2:0<2 ^ (63 - k):=Nat.two_pow_pos _
  have hlt:=Nat.mod_lt q hp2
  have h2k:2 ^ (k+1)=2*2 ^ k:=by rw [Nat.pow_succ];omega
  have hqd:2 ^ (63 - k)*(q / 2 ^ (63 - k))+q % 2 ^ (63 - k)=q:=Nat.div_add_mod _ _
  have hb:2 ^ (k+1)*(q % 2 ^ (63 - k))+2 ^ (k+1)≤18446744073709551616:=by
    rw [hM,← Nat.mul_succ];exact Nat.mul_le_mul_left _ hlt
  have e1:q*2 ^ (k+1)=18446744073709551616*(q / 2 ^ (63 - k))+2 ^ (k+1)*(q % 2 ^ (63 - k)):=by
    rw [hM,Nat.mul_assoc,← Nat.mul_add,hqd,Nat.mul_comm]
  have hpk:0<2 ^ k:=Nat.two_pow_pos k
  have hlt1:2 ^ (k+1)*(q % 2 ^ (63 - k))<18446744073709551616:=by omega
  have hlt2:2 ^ (k+1)*(q % 2 ^ (63 - k))+2 ^ k<18446744073709551616:=by omega
  refine ⟨q % 2 ^ (63 - k),?_,hlt2,?_,?_⟩
  · rw [e1,Nat.mul_add_mod,Nat.mod_eq_of_lt hlt1]
  · rw [show (2*q+1)*2 ^ k=q*2 ^ (k+1)+2 ^ k by rw [Nat.add_mul,h2k,Nat.one_mul,Nat.mul_comm 2 q,Nat.mul_assoc],e1,Nat.add_assoc,Nat.mul_add_mod,Nat.mod_eq_of_lt hlt2]
  · rw [show (2*q+1)*2 ^ k=q*2 ^ (k+1)+2 ^ k by rw [Nat.add_mul,h2k,Nat.one_mul,Nat.mul_comm 2 q,Nat.mul_assoc],e1,Nat.add_assoc,Nat.mul_add_div (by omega),Nat.mul_add_div (by omega),Nat.div_eq_of_lt hlt2,Nat.div_eq_of_lt hlt1]
end Go.Pel
namespace Go.Proofs.YtbjpmdhdoggobaaGreat
open Go Go.Tx Go.Pel
abbrev dvS:Type:=Int×Int×Int×Bool×Int×Int×Bool×Int×Int×Bool×Int×Int
theorem q3ka (d:Nat) {f:Nat} {y r j p1 p0 h2 l2 o1 o0 i64 c:Int} {n n2:Bool} (hj:decide (j≥0)=true) (hjn:decide (j<0)=false) (h64:decide (j≥64)=true) (hi:IntKind.wrap .i64 (j - 64)=i64) (hin:decide (i64<0)=false) (hc:andI .u64 (shrI .u64 p1 i64) 1=c) {r2 j2:Int} (hr:IntKind.wrap .u64 (IntKind.wrap .u64 (2*r)+c)=r2) (hj2:IntKind.wrap .i64 (j - 1)=j2) {self:dvS→Option q1od} :
    q1q3 d self (y,r,j,n,p1,p0,n2,h2,l2,false,o1,o0)=(bif decide (r2≥y) then self (y,IntKind.wrap .u64 (r2 - y),j2,n,p1,p0,n2,h2,l2,false,orI .u64 o1 (shlI .u64 1 i64),o0) else self (y,r2,j2,n,p1,p0,n2,h2,l2,false,o1,o0)):=by
  unfold q1q3 q1py
  simp only [q1p3,q1pt,q1p7,q1pb,q1pd,q1pf,q1pj,q1pl,q1pp,q1pr,q1pw,q1q1,Dt.eval,hj,hjn,h64,cond_true,cond_false,hi,hin,hc,hr]
  unfold q1pv
  simp only [q1p3,q1pt,q1p7,q1pb,q1pd,q1pf,q1pj,q1pl,q1pp,q1pr,q1pw,q1q1,Dt.eval,hj2]
theorem q3kb (d:Nat) {y r j p1 p0 h2 l2 o1 o0 c:Int} {n n2:Bool} (hj:decide (j≥0)=true) (hjn:decide (j<0)=false) (h64:decide (j≥64)=false) (hc:andI .u64 (shrI .u64 p0 j) 1=c) {r2 j2:Int} (hr:IntKind.wrap .u64 (IntKind.wrap .u64 (2*r)+c)=r2) (hj2:IntKind.wrap .i64 (j - 1)=j2) {self:dvS→Option q1od} :
    q1q3 d self (y,r,j,n,p1,p0,n2,h2,l2,false,o1,o0)=(bif decide (r2≥y) then self (y,IntKind.wrap .u64 (r2 - y),j2,n,p1,p0,n2,h2,l2,false,o1,orI .u64 o0 (shlI .u64 1 j)) else self (y,r2,j2,n,p1,p0,n2,h2,l2,false,o1,o0)):=by
  unfold q1q3 q1py
  simp only [q1p3,q1pt,q1p7,q1pb,q1pd,q1pf,q1pj,q1pl,q1pp,q1pr,q1pw,q1q1,Dt.eval,hj,hjn,h64,cond_true,cond_false,hc,hr]
  unfold q1pv
  simp only [q1p3,q1pt,q1p7,q1pb,q1pd,q1pf,q1pj,q1pl,q1pp,q1pr,q1pw,q1q1,Dt.eval,hj2]
theorem q3kc (d:Nat) {y r p1 p0 h2 l2 o1 o0:Int} {n n2:Bool} {self:dvS→Option q1od}:q1q3 d self (y,r,-1,n,p1,p0,n2,h2,l2,false,o1,o0)=some (false,o1,o0,r):=by
  unfold q1q3
  simp only [q1p3,q1pt,q1p7,q1pb,q1pd,q1pf,q1pj,q1pl,q1pp,q1pr,q1pw,q1q1,Dt.eval,show decide ((-1:Int)≥0)=false from rfl,cond_false]
theorem q3kd (d:Nat) {P y:Nat} {n n2:Bool} {h2 l2:Int} (hP:P<340282366920938463463374607431768211456) (hy:0<y) (hy2:y≤9223372036854775808):∀ (k f:Nat),k≤128→k<f →
    iter (q1q3 d) f ((y:Int),((P / 2 ^ k % y:Nat):Int),(k:Int) - 1,n,hiN P,loN P,n2,h2,l2,false,hiN (P / 2 ^ k / y*2 ^ k),loN (P / 2 ^ k / y*2 ^ k))=some (false,hiN (P / y),loN (P / y),((P % y:Nat):Int))
  | 0, f, _, hf => by
    obtain ⟨f,rfl⟩:∃ g,f=g+1:=⟨f - 1,by omega⟩
    rw [iter,show (((0:Nat):Int)) - 1=-1 from rfl,q3kc,Nat.pow_zero,Nat.div_one,Nat.mul_one]
  | k + 1, f, hk, hf => by
    obtain ⟨f,rfl⟩:∃ g,f=g+1:=⟨f - 1,by omega⟩
    have ih:=q3kd d (n:=n) (n2:=n2) (h2:=h2) (l2:=l2) hP hy hy2 k f (by omega) (by omega)
    rw [iter]
    revert ih
    generalize iter (q1q3 d) f=self
    intro ih
    obtain ⟨b1,b2⟩:=q3k6 (P:=P) (k:=k) hy
    have hr:=Nat.mod_lt (P / 2 ^ (k+1)) hy
    have hc2:P / 2 ^ k % 2<2:=Nat.mod_lt _ (by omega)
    have hPh:P / 18446744073709551616<18446744073709551616:=by omega
    have hPl:P % 18446744073709551616<18446744073709551616:=Nat.mod_lt _ (by omega)
    have cj:decide (((k+1:Nat):Int) - 1≥0)=true:=decide_eq_true (by omega)
    have cjn:decide (((k+1:Nat):Int) - 1<0)=false:=decide_eq_false (by omega)
    have hj2:IntKind.wrap .i64 (((k+1:Nat):Int) - 1 - 1)=(k:Int) - 1:=by rw [IntWalk.i64_in _ (by omega)];omega
    have hjk:((k+1:Nat):Int) - 1=(k:Int):=by omega
    have hrr:IntKind.wrap .u64 (IntKind.wrap .u64 (2*((P / 2 ^ (k+1) % y:Nat):Int))+((P / 2 ^ k % 2:Nat):Int))=((2*(P / 2 ^ (k+1) % y)+P / 2 ^ k % 2:Nat):Int):=by
      rw [wu64 (a:=2*((P / 2 ^ (k+1) % y:Nat):Int)) (by omega),wu64 (by omega)];omega
    generalize hq:P / 2 ^ (k+1) / y=q at *
    generalize hrq:P / 2 ^ (k+1) % y=r at *
    generalize hcq:P / 2 ^ k % 2=c at *
    have ws:y≤2*r+c→IntKind.wrap .u64 (((2*r+c:Nat):Int) - (y:Int))=((2*r+c - y:Nat):Int):=fun h=>by rw [wu64 (by omega)];omega
    by_cases h64:64≤k
    · have hbit:andI .u64 (shrI .u64 (hiN P) ((k - 64:Nat):Int)) 1=(c:Int):=by
        rw [q3ij _ _ (by omega),show hiN P / ((2 ^ (k - 64):Nat):Int)=((P / 18446744073709551616 / 2 ^ (k - 64):Nat):Int) from rfl,and1 _ (Nat.lt_of_le_of_lt (Nat.div_le_self _ _) hPh),q3k4 h64,hcq]
      have hi64:IntKind.wrap .i64 (((k+1:Nat):Int) - 1 - 64)=((k - 64:Nat):Int):=by rw [IntWalk.i64_in _ (by omega)];omega
      rw [q3ka d (f:=f) cj cjn (decide_eq_true (by omega)) hi64 (decide_eq_false (by omega)) hbit hrr hj2]
      obtain ⟨s1,s2,s3,s4⟩:=q3k8 (q:=q) h64 (by omega)
      by_cases h:y≤2*r+c
      · rw [if_pos h] at b1 b2
        rw [b1,b2] at ih
        have hb:(2*q+1)*2 ^ k≤P:=by rw [← b1];exact Nat.le_trans (Nat.mul_le_mul_right _ (Nat.div_le_self _ _)) (Nat.div_mul_le_self _ _)
        have ho:orI .u64 (hiN (q*2 ^ (k+1))) (shlI .u64 1 ((k - 64:Nat):Int))=hiN ((2*q+1)*2 ^ k):=by
          show orI .u64 (((q*2 ^ (k+1)) / 18446744073709551616:Nat):Int) _=((((2*q+1)*2 ^ k) / 18446744073709551616:Nat):Int)
          rw [s2,s4]
          exact q3k7 (by omega) (by rw [← s4];omega)
        have hl:loN (q*2 ^ (k+1))=loN ((2*q+1)*2 ^ k):=by
          show (((q*2 ^ (k+1)) % 18446744073709551616:Nat):Int)=((((2*q+1)*2 ^ k) % 18446744073709551616:Nat):Int)
          rw [s1,s3]
        rw [show decide (((2*r+c:Nat):Int)≥(y:Int))=true from decide_eq_true (by omega),cond_true,ws h,ho,hl]
        exact ih
      · rw [if_neg h] at b1 b2
        rw [b1,b2,Nat.add_zero,show 2*q*2 ^ k=q*2 ^ (k+1) by rw [Nat.pow_succ,Nat.mul_comm 2 q,Nat.mul_assoc,Nat.mul_comm 2]] at ih
        rw [show decide (((2*r+c:Nat):Int)≥(y:Int))=false from decide_eq_false (by omega),cond_false]
        exact ih
    · have hbit:andI .u64 (shrI .u64 (loN P) (((k+1:Nat):Int) - 1)) 1=(c:Int):=by
        rw [hjk,q3ij _ _ (by omega),show loN P / ((2 ^ k:Nat):Int)=((P % 18446744073709551616 / 2 ^ k:Nat):Int) from rfl,and1 _ (Nat.lt_of_le_of_lt (Nat.div_le_self _ _) hPl),q3k5 (by omega),hcq]
      rw [q3kb d cj cjn (decide_eq_false (by omega)) hbit hrr hj2]
      obtain ⟨a,s1,s2,s3,s4⟩:=q3k9 (q:=q) (show k<64 by omega)
      by_cases h:y≤2*r+c
      · rw [if_pos h] at b1 b2
        rw [b1,b2] at ih
        have ho:orI .u64 (loN (q*2 ^ (k+1))) (shlI .u64 1 (((k+1:Nat):Int) - 1))=loN ((2*q+1)*2 ^ k):=by
          show orI .u64 (((q*2 ^ (k+1)) % 18446744073709551616:Nat):Int) _=((((2*q+1)*2 ^ k) % 18446744073709551616:Nat):Int)
          rw [hjk,s1,s3]
          exact q3k7 (by omega) s2
        have hl:hiN (q*2 ^ (k+1))=hiN ((2*q+1)*2 ^ k):=by
          show (((q*2 ^ (k+1)) / 18446744073709551616:Nat):Int)=((((2*q+1)*2 ^ k) / 18446744073709551616:Nat):Int)
          rw [s4]
        rw [show decide (((2*r+c:Nat):Int)≥(y:Int))=true from decide_eq_true (by omega),cond_true,ws h,ho,hl]
        exact ih
      · rw [if_neg h] at b1 b2
        rw [b1,b2,Nat.add_zero,show 2*q*2 ^ k=q*2 ^ (k+1) by rw [Nat.pow_succ,Nat.mul_comm 2 q,Nat.mul_assoc,Nat.mul_comm 2]] at ih
        rw [show decide (((2*r+c:Nat):Int)≥(y:Int))=false from decide_eq_false (by omega),cond_false]
        exact ih
theorem dvdC (d:Nat) (hd:200≤d) {s:Bool} {P y:Nat} (hP:P<340282366920938463463374607431768211456) (hy:0<y) (hy2:y≤9223372036854775808):q1q4 d ((s,hiN P,loN P,()),((y:Int),()),())=some (false,hiN (P / y),loN (P / y),((P % y:Nat):Int)):=by
  have e:=q3kd d (n:=s) (n2:=false) (h2:=0) (l2:=0) hP hy hy2 128 d (Nat.le_refl _) (by omega)
  have z:P / 2 ^ 128=0:=Nat.div_eq_of_lt hP
  rw [z,Nat.zero_mod,Nat.zero_div,Nat.zero_mul] at e
  simp only [q1q4,q1oh,q1on,q1or,q1ov,q1oz,Dt.eval]
  exact e
theorem q3ke (d g:Nat) (a b:Nat) (hb:1≤b):iter (q1ke d) (g+1) ((a:Int),(b:Int))=iter (q1ke d) g ((b:Int),((a % b:Nat):Int)):=by
  rw [iter]
  generalize iter (q1ke d) g=self
  unfold q1ke
  have c1:((b:Int) != 0)=true:=by rw [bne_iff_ne];omega
  have c2:((b:Int) == 0)=false:=by rw [beq_eq_false_iff_ne];omega
  have e1:(a:Int).tmod (b:Int)=((a % b:Nat):Int):=by rw [Int.tmod_eq_emod_of_nonneg (by omega)];rfl
  simp only [q1k6,q1k8,q1kc,Dt.eval,c1,c2,cond_true,cond_false,e1]
theorem q3kf (d g:Nat) (a:Nat):iter (q1ke d) (g+1) ((a:Int),((0:Nat):Int))=some (a:Int):=by
  rw [iter]
  generalize iter (q1ke d) g=self
  unfold q1ke
  simp only [q1k6,q1k8,q1kc,Dt.eval,show (((0:Nat):Int) != 0)=false from rfl,cond_false]
theorem q3kg (d:Nat):∀ (k f a b:Nat),b<2 ^ k→2*k+1≤f→iter (q1ke d) f ((a:Int),(b:Int))=some ((Nat.gcd b a:Nat):Int)
  | 0, f, a, b, hb, hf => by
    obtain ⟨f,rfl⟩:∃ g,f=g+1:=⟨f - 1,by omega⟩
    obtain rfl:b=0:=by simpa using hb
    rw [q3kf,Nat.gcd_zero_left]
  | k + 1, f, a, b, hb, hf => by
    obtain ⟨f,rfl⟩:∃ g,f=g+2:=⟨f - 2,by omega⟩
    rcases Nat.eq_zero_or_pos b with h | h
    · subst h
      rw [q3kf,Nat.gcd_zero_left]
    · rw [q3ke d (f + 1) a b h]
      have hr:=Nat.mod_lt a h
      have hg:Nat.gcd b a=Nat.gcd (a % b) b:=Nat.gcd_rec b a
      rw [hg]
      generalize a % b=r at *
      rcases Nat.eq_zero_or_pos r with h0 | h0
      · subst h0
        rw [q3kf,Nat.gcd_zero_left]
      · rw [q3ke d f b r h0,q3kg d k f r (b % r) (q3j9 hb hr h0) (by omega),Nat.gcd_rec r b]
theorem q3kh (d:Nat) (hd:200≤d) {a b:Nat} (hb:b<18446744073709551616):q1kf d (((a:Int),()),((b:Int),()),())=some ((Nat.gcd a b:Nat):Int):=by
  simp only [q1kf,q1jy,q1k2,Dt.eval]
  rw [q3kg d 64 d a b hb (by omega),Nat.gcd_comm]
theorem q3ki (d:Nat) {n1 n2:Bool} {p1 p0 q1 q0:Int}:q1mk d ((n1,p1,p0,()),(n2,q1,q0,()),())=some (false,(bif decide (p0<q0) then IntKind.wrap .u64 (IntKind.wrap .u64 (p1 - q1) - 1) else IntKind.wrap .u64 (p1 - q1)),IntKind.wrap .u64 (p0 - q0)):=by
  unfold q1mk q1mj
  simp only [q1mk,q1lv,q1m1,q1m5,q1m9,q1md,q1mh,Dt.eval]
  cases decide (p0<q0)<;>rfl
theorem q3kj (d:Nat) {n1 n2:Bool} {P Q:Nat} (hP:P<340282366920938463463374607431768211456) (h:Q≤P):q1mk d ((n1,hiN P,loN P,()),(n2,hiN Q,loN Q,()),())=some (false,hiN (P - Q),loN (P - Q)):=by
  rw [q3ki]
  have h2:IntKind.wrap .u64 (loN P - loN Q)=loN (P - Q):=by
    rw [IntKind.wrap_u64]
    show (((P % 18446744073709551616:Nat):Int) - ((Q % 18446744073709551616:Nat):Int)) % 18446744073709551616=(((P - Q) % 18446744073709551616:Nat):Int)
    omega
  have h1:(bif decide (loN P<loN Q) then IntKind.wrap .u64 (IntKind.wrap .u64 (hiN P - hiN Q) - 1) else IntKind.wrap .u64 (hiN P - hiN Q))=hiN (P - Q):=by
    rw [IntKind.wrap_u64,IntKind.wrap_u64]
    by_cases hb:P % 18446744073709551616<Q % 18446744073709551616
    · rw [show decide (loN P < loN Q) = true from decide_eq_true (by show ((_ : Nat) : Int) < ((_ : Nat) : Int); omega), cond_true]
      show ((((P / 18446744073709551616:Nat):Int) - ((Q / 18446744073709551616:Nat):Int)) % 18446744073709551616 - 1) % 18446744073709551616=(((P - Q) / 18446744073709551616:Nat):Int)
      omega
    · rw [show decide (loN P < loN Q) = false from decide_eq_false (by show ¬ ((_ : Nat) : Int) < ((_ : Nat) : Int); omega), cond_false]
      show (((P / 18446744073709551616:Nat):Int) - ((Q / 18446744073709551616:Nat):Int)) % 18446744073709551616=(((P - Q) / 18446744073709551616:Nat):Int)
      omega
  rw [h1,h2]
theorem q3kk (d:Nat) {n:Bool} {p1 p0 q1 q0:Int}:q1o9 d ((n,p1,p0,()),(n,q1,q0,()),())=some (n,(bif decide (IntKind.wrap .u64 (p0+q0)<p0) then IntKind.wrap .u64 (IntKind.wrap .u64 (p1+q1)+1) else IntKind.wrap .u64 (p1+q1)),IntKind.wrap .u64 (p0+q0)):=by
  unfold q1o9 q1nk
  simp only [q1o9,q1ms,q1my,q1n2,q1n6,q1na,q1ne,q1ni,Dt.eval,beq_self_eq_true,cond_true]
  cases decide (IntKind.wrap .u64 (p0+q0)<p0)<;>rfl
theorem q3kl (d:Nat) {n1 n2:Bool} {p1 p0 q1 q0 z X1 X2:Int} (c1:(n1 == n2)=false) (e1:q1ln d ((n1,p1,p0,()),(n2,q1,q0,()),())=some z) (hz:decide (z≥0)=true) (e2:q1mk d ((n1,p1,p0,()),(n2,q1,q0,()),())=some (false,X1,X2)):q1o9 d ((n1,p1,p0,()),(n2,q1,q0,()),())=some (bif n1 then (bif decide (X1 > 0) then true else decide (X2 > 0)) else false,X1,X2):=by
  unfold q1o9
  simp only [q1my,q1n2,q1nn,q1nr,q1nv,q1nx,q1ms,Dt.eval,c1,cond_false,e1,hz,cond_true,e2]
  cases n1 with
  | false=>rfl
  | true=>simp only [cond_true];cases decide (X1 > 0)<;>rfl
theorem q3km (d:Nat) {n1 n2:Bool} {p1 p0 q1 q0 z X1 X2:Int} (c1:(n1 == n2)=false) (e1:q1ln d ((n1,p1,p0,()),(n2,q1,q0,()),())=some z) (hz:decide (z≥0)=false) (e2:q1mk d ((n2,q1,q0,()),(n1,p1,p0,()),())=some (false,X1,X2)):q1o9 d ((n1,p1,p0,()),(n2,q1,q0,()),())=some (n2,X1,X2):=by
  unfold q1o9
  simp only [q1my,q1n2,q1nn,q1o1,q1o5,q1o7,q1ms,Dt.eval,c1,cond_false,e1,hz,e2]
theorem q3kn (d:Nat) {n:Bool} {P Q:Nat} (hP:P<170141183460469231731687303715884105728) (hQ:Q<170141183460469231731687303715884105728):q1o9 d ((n,hiN P,loN P,()),(n,hiN Q,loN Q,()),())=some (n,hiN (P+Q),loN (P+Q)):=by
  rw [q3kk]
  have h2:IntKind.wrap .u64 (loN P+loN Q)=loN (P+Q):=by
    rw [IntKind.wrap_u64]
    show (((P % 18446744073709551616:Nat):Int)+((Q % 18446744073709551616:Nat):Int)) % 18446744073709551616=(((P+Q) % 18446744073709551616:Nat):Int)
    omega
  rw [h2]
  have h1:(bif decide (loN (P+Q)<loN P) then IntKind.wrap .u64 (IntKind.wrap .u64 (hiN P+hiN Q)+1) else IntKind.wrap .u64 (hiN P+hiN Q))=hiN (P+Q):=by
    rw [IntKind.wrap_u64,IntKind.wrap_u64]
    by_cases hb:(P+Q) % 18446744073709551616<P % 18446744073709551616
    · rw [show decide (loN (P + Q) < loN P) = true from decide_eq_true (by show ((_ : Nat) : Int) < ((_ : Nat) : Int); omega), cond_true]
      show ((((P / 18446744073709551616:Nat):Int)+((Q / 18446744073709551616:Nat):Int)) % 18446744073709551616+1) % 18446744073709551616=(((P+Q) / 18446744073709551616:Nat):Int)
      omega
    · rw [show decide (loN (P + Q) < loN P) = false from decide_eq_false (by show ¬ ((_ : Nat) : Int) < ((_ : Nat) : Int); omega), cond_false]
      show (((P / 18446744073709551616:Nat):Int)+((Q / 18446744073709551616:Nat):Int)) % 18446744073709551616=(((P+Q) / 18446744073709551616:Nat):Int)
      omega
  rw [h1]
theorem q3ko (P:Nat):(bif decide (hiN P > 0) then true else decide (loN P > 0))=decide (P≠0):=by
  by_cases h:P=0
  · subst h;rfl
  · rw [decide_eq_true h]
    by_cases h1:P / 18446744073709551616=0
    · rw [show decide (hiN P > 0) = false from decide_eq_false (by show ¬ ((_ : Nat) : Int) > 0; omega), cond_false]
      exact decide_eq_true (by show ((_:Nat):Int) > 0;omega)
    · rw [show decide (hiN P > 0)=true from decide_eq_true (by show ((_:Nat):Int) > 0;omega),cond_true]
theorem q3kp (d:Nat) {x y:Int} (hx:x.natAbs<85070591730234615865843651857942052864) (hy:y.natAbs<85070591730234615865843651857942052864):q1o9 d ((decide (x<0),hiN x.natAbs,loN x.natAbs,()),(decide (y<0),hiN y.natAbs,loN y.natAbs,()),())=some (decide (x+y<0),hiN (x+y).natAbs,loN (x+y).natAbs):=by
  by_cases hs:decide (x<0)=decide (y<0)
  · rw [hs, q3kn d (by omega) (by omega)]
    by_cases h:y<0
    · rw [decide_eq_true h] at hs ⊢
      have hx0:=of_decide_eq_true hs
      rw [decide_eq_true (show x+y<0 by omega),show x.natAbs+y.natAbs=(x+y).natAbs by omega]
    · rw [decide_eq_false h] at hs ⊢
      have hx0:=of_decide_eq_false hs
      rw [decide_eq_false (show ¬ x+y<0 by omega),show x.natAbs+y.natAbs=(x+y).natAbs by omega]
  · have c1 : (decide (x < 0) == decide (y < 0)) = false := by simpa using hs
    have e1:=q3ek d (decide (x<0)) (decide (y<0)) x.natAbs y.natAbs
    by_cases h:x.natAbs<y.natAbs
    · rw [qkw (by omega)] at e1
      have e2:=q3kj d (n1:=decide (y<0)) (n2:=decide (x<0)) (P:=y.natAbs) (Q:=x.natAbs) (by omega) (by omega)
      rw [q3km d c1 e1 rfl e2]
      have:decide (y<0)=decide (x+y<0):=by
        by_cases h1:y<0
        · rw [decide_eq_true h1,decide_eq_true (show x+y<0 by omega)]
        · rw [decide_eq_false h1,decide_eq_false (show ¬ x+y<0 by omega)]
      have hxy:¬ ((x<0)↔(y<0)):=fun k=>hs (by rw [decide_eq_decide];exact k)
      rw [this,show y.natAbs - x.natAbs=(x+y).natAbs by omega]
    · have e2 := q3kj d (n1 := decide (x < 0)) (n2 := decide (y < 0)) (P := x.natAbs) (Q := y.natAbs) (by omega) (by omega)
      have hz:decide (cmpZ (x.natAbs:Int) (y.natAbs:Int)≥0)=true:=by
        rcases Nat.lt_or_eq_of_le (Nat.le_of_not_lt h) with k | k
        · rw [qkx (by omega)];rfl
        · rw [qky (by omega)];rfl
      rw [q3kl d c1 e1 hz e2,q3ko]
      have hxy:¬ ((x<0)↔(y<0)):=fun k=>hs (by rw [decide_eq_decide];exact k)
      have hn:x.natAbs - y.natAbs=(x+y).natAbs:=by omega
      have hd:(bif decide (x<0) then decide (x.natAbs - y.natAbs≠0) else false)=decide (x+y<0):=by
        by_cases h1:x<0
        · rw [decide_eq_true h1,cond_true,decide_eq_decide];omega
        · rw [decide_eq_false h1,cond_false];exact (decide_eq_false (by omega)).symm
      rw [hd,hn]
theorem q3kq (d:Nat) {neg n1 n2:Bool} {p1 p0 q1 q0:Int}:q1s0 d ((neg,()),(n1,p1,p0,()),(n2,q1,q0,()),())=some (bif decide (p1 > 0) then (0,0,16) else bif decide (p0 > 9223372036854775807) then (0,0,16) else bif decide (q1 > 0) then (0,0,16) else bif decide (q0 > 9223372036854775807) then (0,0,16) else bif neg then (IntKind.wrap .i64 (0 - IntKind.wrap .i64 p0),IntKind.wrap .i64 q0,0) else (IntKind.wrap .i64 p0,IntKind.wrap .i64 q0,0)):=by
  simp only [q1s0,q1rc,q1ri,q1rm,q1rq,q1ru,q1rw,q1ry,Dt.eval]
  cases decide (p1 > 0)<;>cases decide (p0 > 9223372036854775807)<;>cases decide (q1 > 0)<;>cases decide (q0 > 9223372036854775807)<;>cases neg<;>rfl
theorem q3kr {N:Nat}:(hiN N > 0∨loN N > 9223372036854775807)↔9223372036854775807<N:=by
  show (((N / 18446744073709551616:Nat):Int) > 0∨((N % 18446744073709551616:Nat):Int) > 9223372036854775807)↔_
  omega
theorem q3ks (d:Nat) {neg n1 n2:Bool} {N D:Nat}:q1s0 d ((neg,()),(n1,hiN N,loN N,()),(n2,hiN D,loN D,()),())=some (fitQ (sgn neg N) (D:Int)):=by
  rw [q3kq]
  have hf:fitQ (sgn neg N) (D:Int)=if N≤9223372036854775807∧D≤9223372036854775807 then (sgn neg N,(D:Int),0) else (0,0,16):=by
    unfold fitQ;rw [q3j4,Int.natAbs_natCast]
  rw [hf]
  have t1:=q3kr (N:=N)
  have t2:=q3kr (N:=D)
  by_cases h1:N≤9223372036854775807
  · have a1 : ¬ hiN N > 0 := fun k => by have := t1.1 (.inl k); omega
    have a2:¬ loN N > 9223372036854775807:=fun k=>by have:=t1.1 (.inr k);omega
    rw [decide_eq_false a1,decide_eq_false a2,cond_false,cond_false]
    by_cases h2:D≤9223372036854775807
    · have a3 : ¬ hiN D > 0 := fun k => by have := t2.1 (.inl k); omega
      have a4:¬ loN D > 9223372036854775807:=fun k=>by have:=t2.1 (.inr k);omega
      rw [decide_eq_false a3,decide_eq_false a4,cond_false,cond_false,if_pos ⟨h1,h2⟩]
      have w1:IntKind.wrap .i64 (loN N)=(N:Int):=by rw [show loN N=(N:Int) by show ((_:Nat):Int)=_;omega];exact q3jx h1
      have w2:IntKind.wrap .i64 (loN D)=(D:Int):=by rw [show loN D=(D:Int) by show ((_:Nat):Int)=_;omega];exact q3jx h2
      have w3:IntKind.wrap .i64 (0 - (N:Int))=-(N:Int):=by rw [IntWalk.i64_in _ (by omega)];omega
      rw [w1,w2,w3]
      cases neg<;>rfl
    · rw [if_neg (by omega)]
      by_cases a3:hiN D > 0
      · rw [decide_eq_true a3,cond_true]
      · have a4:loN D > 9223372036854775807:=by
          rcases t2.2 (by omega) with k | k
          · exact absurd k a3
          · exact k
        rw [decide_eq_false a3,decide_eq_true a4,cond_false,cond_true]
  · rw [if_neg (by omega)]
    by_cases a1:hiN N > 0
    · rw [decide_eq_true a1,cond_true]
    · have a2:loN N > 9223372036854775807:=by
        rcases t1.2 (by omega) with k | k
        · exact absurd k a1
        · exact k
      rw [decide_eq_false a1,decide_eq_true a2,cond_false,cond_true]
theorem q3kt (d:Nat) {ah al bh bl m0 m n:Int} {a b:Int} (e1:IntKind.wrap .u64 (a.tdiv 4294967296)=ah) (e2:a.tmod 4294967296=al) (e3:IntKind.wrap .u64 (b.tdiv 4294967296)=bh) (e4:b.tmod 4294967296=bl) (e5:IntKind.wrap .u64 (al*bl)=m0) (e6:IntKind.wrap .u64 (IntKind.wrap .u64 (ah*bl)+IntKind.wrap .u64 (m0.tdiv 4294967296))=m) (e7:IntKind.wrap .u64 (IntKind.wrap .u64 (al*bh)+m.tmod 4294967296)=n) :
    q1r4 d ((a,()),(b,()),())=some (false,IntKind.wrap .u64 (IntKind.wrap .u64 (IntKind.wrap .u64 (ah*bh)+IntKind.wrap .u64 (m.tdiv 4294967296))+IntKind.wrap .u64 (n.tdiv 4294967296)),IntKind.wrap .u64 (IntKind.wrap .u64 (n.tmod 4294967296*4294967296)+m0.tmod 4294967296)):=by
  simp only [q1r4,q1qc,q1qi,q1qm,q1qq,q1qu,q1qy,q1r2,Dt.eval,show ((4294967296:Int) == 0)=false from rfl,cond_false,e1,e2,e3,e4,e5,e6,e7]
theorem q3ku (a g:Nat):(a:Int).tmod (g:Int)=((a % g:Nat):Int):=by rw [Int.tmod_eq_emod_of_nonneg (by omega)];rfl
theorem q3kv (d:Nat) {a b:Nat} (ha:a<18446744073709551616) (hb:b<18446744073709551616):q1r4 d (((a:Int),()),((b:Int),()),())=some (false,hiN (a*b),loN (a*b)):=by
  obtain ⟨ah,hah⟩:∃ x:Nat,a / 4294967296=x:=⟨_,rfl⟩
  obtain ⟨al,hal⟩:∃ x:Nat,a % 4294967296=x:=⟨_,rfl⟩
  obtain ⟨bh,hbh⟩:∃ x:Nat,b / 4294967296=x:=⟨_,rfl⟩
  obtain ⟨bl,hbl⟩:∃ x:Nat,b % 4294967296=x:=⟨_,rfl⟩
  obtain ⟨m0,hm0⟩:∃ x:Nat,al*bl=x:=⟨_,rfl⟩
  obtain ⟨x1,hx1⟩:∃ x:Nat,ah*bl=x:=⟨_,rfl⟩
  obtain ⟨y1,hy1⟩:∃ x:Nat,al*bh=x:=⟨_,rfl⟩
  obtain ⟨z1,hz1⟩:∃ x:Nat,ah*bh=x:=⟨_,rfl⟩
  have b0:m0≤4294967295*4294967295:=by rw [← hm0];exact Nat.mul_le_mul (by omega) (by omega)
  have b1:x1≤4294967295*4294967295:=by rw [← hx1];exact Nat.mul_le_mul (by omega) (by omega)
  have b2:y1≤4294967295*4294967295:=by rw [← hy1];exact Nat.mul_le_mul (by omega) (by omega)
  have b3:z1≤4294967295*4294967295:=by rw [← hz1];exact Nat.mul_le_mul (by omega) (by omega)
  have hab:a*b=z1*18446744073709551616+(x1+y1)*4294967296+m0:=by
    have e1:a=ah*4294967296+al:=by omega
    have e2:b=bh*4294967296+bl:=by omega
    rw [e1,e2,Nat.add_mul,Nat.mul_add,Nat.mul_add]
    have f1:ah*4294967296*(bh*4294967296)=z1*18446744073709551616:=by rw [← hz1,Nat.mul_mul_mul_comm]
    have f2:ah*4294967296*bl=x1*4294967296:=by rw [← hx1,Nat.mul_right_comm]
    have f3:al*(bh*4294967296)=y1*4294967296:=by rw [← hy1,Nat.mul_assoc]
    rw [f1,f2,f3,hm0,Nat.add_mul];omega
  have p1:(ah:Int)*(bl:Int)=(x1:Int):=by rw [← hx1];simp
  have p2:(al:Int)*(bh:Int)=(y1:Int):=by rw [← hy1];simp
  have p3:(ah:Int)*(bh:Int)=(z1:Int):=by rw [← hz1];simp
  have p4:(al:Int)*(bl:Int)=(m0:Int):=by rw [← hm0];simp
  have k:=q3kt d (a:=(a:Int)) (b:=(b:Int)) (ah:=(ah:Int)) (al:=(al:Int)) (bh:=(bh:Int)) (bl:=(bl:Int)) (m0:=(m0:Int)) (m:=((x1+m0 / 4294967296:Nat):Int)) (n:=((y1+(x1+m0 / 4294967296) % 4294967296:Nat):Int))
    (by rw [show (a:Int).tdiv 4294967296=((a / 4294967296:Nat):Int) from q3jv a 4294967296,hah];exact q3jw (by omega)) (by rw [show (a:Int).tmod 4294967296=((a % 4294967296:Nat):Int) from q3ku a 4294967296,hal]) (by rw [show (b:Int).tdiv 4294967296=((b / 4294967296:Nat):Int) from q3jv b 4294967296,hbh];exact q3jw (by omega)) (by rw [show (b:Int).tmod 4294967296=((b % 4294967296:Nat):Int) from q3ku b 4294967296,hbl]) (by rw [p4];exact q3jw (by omega))
    (by rw [p1,show (m0:Int).tdiv 4294967296=((m0 / 4294967296:Nat):Int) from q3jv m0 4294967296,q3jw (show x1<18446744073709551616 by omega),q3jw (show m0 / 4294967296<18446744073709551616 by omega),wu64 (by omega)];omega)
    (by rw [p2,show (((x1+m0 / 4294967296:Nat):Int)).tmod 4294967296=(((x1+m0 / 4294967296) % 4294967296:Nat):Int) from q3ku _ 4294967296,q3jw (show y1<18446744073709551616 by omega),wu64 (by omega)];omega)
  rw [k,p3,show (((x1+m0 / 4294967296:Nat):Int)).tdiv 4294967296=(((x1+m0 / 4294967296) / 4294967296:Nat):Int) from q3jv _ 4294967296,show (((y1+(x1+m0 / 4294967296) % 4294967296:Nat):Int)).tdiv 4294967296=(((y1+(x1+m0 / 4294967296) % 4294967296) / 4294967296:Nat):Int) from q3jv _ 4294967296,show (((y1+(x1+m0 / 4294967296) % 4294967296:Nat):Int)).tmod 4294967296=(((y1+(x1+m0 / 4294967296) % 4294967296) % 4294967296:Nat):Int) from q3ku _ 4294967296,show (m0:Int).tmod 4294967296=((m0 % 4294967296:Nat):Int) from q3ku _ 4294967296]
  have w1:IntKind.wrap .u64 (IntKind.wrap .u64 (IntKind.wrap .u64 (z1:Int)+IntKind.wrap .u64 (((x1+m0 / 4294967296) / 4294967296:Nat):Int))+IntKind.wrap .u64 (((y1+(x1+m0 / 4294967296) % 4294967296) / 4294967296:Nat):Int))=hiN (a*b):=by
    rw [IntKind.wrap_u64,IntKind.wrap_u64,IntKind.wrap_u64,IntKind.wrap_u64,IntKind.wrap_u64]
    show _=((a*b / 18446744073709551616:Nat):Int)
    rw [hab]
    omega
  have w2:IntKind.wrap .u64 (IntKind.wrap .u64 ((((y1+(x1+m0 / 4294967296) % 4294967296) % 4294967296:Nat):Int)*4294967296)+((m0 % 4294967296:Nat):Int))=loN (a*b):=by
    rw [IntKind.wrap_u64,IntKind.wrap_u64]
    show _=((a*b % 18446744073709551616:Nat):Int)
    rw [hab]
    omega
  rw [w1,w2]
theorem q3kw (d:Nat) {n m:Int} (hn:i64B n=true) (hm:i64B m=true):qn4 d ((n,()),(m,()),())=some (decide (n*m<0),hiN (n*m).natAbs,loN (n*m).natAbs):=qn5 _ _ (by unfold qn3;simp only [hn,hm,Bool.and_self])
theorem sgnD (x:Int):sgn (decide (x<0)) x.natAbs=x:=by
  unfold sgn
  by_cases h:x<0
  · rw [decide_eq_true h,if_pos rfl];omega
  · rw [decide_eq_false h,if_neg (by decide)];omega
theorem q3kx (d:Nat) (hd:200≤d) {n1 d1 n2 d2:Int} (hn1:i64B n1=true) (hd1:i64B d1=true) (hn2:i64B n2=true) (hd2:i64B d2=true) (c1:qdm n1 d1=0) (c2:qdm n2 d2=0):q1ta d ((n1,d1,()),(n2,d2,()),())=some (red (n1*d2+n2*d1) (d1*d2)):=by
  have e0:=q3fy d hn1 hd1 hn2 hd2
  rw [if_neg (by simpa using c1),c2] at e0
  obtain ⟨a,rfl,a1,a2,a3,a4⟩:=q3ju c1 hn1 hd1
  obtain ⟨b,rfl,b1,b2,b3,b4⟩:=q3ju c2 hn2 hd2
  obtain ⟨g1,g2,g3,_,_,pa,pb,_⟩:=q3js a1 b1
  have hlow:=fun s N=>@q3jt n1 n2 a b N s a1 b1 a4 b4
  have e1:=q3kh d hd (a:=a) (b:=b) (by omega)
  have q1:=q3k0 (g:=Nat.gcd a b) a2
  have q2:=q3k0 (g:=Nat.gcd a b) b2
  generalize Nat.gcd a b=g at *
  have e2:=q3kw d (n:=n1) (m:=((b / g:Nat):Int)) hn1 (i64N q2)
  have e3:=q3kw d (n:=n2) (m:=((a / g:Nat):Int)) hn2 (i64N q1)
  have m1:=q3jr (a:=n1) (b:=((b / g:Nat):Int)) (by omega) (by omega)
  have m2:=q3jr (a:=n2) (b:=((a / g:Nat):Int)) (by omega) (by omega)
  have t1:=q3jv b g
  have t2:=q3jv a g
  generalize a / g=a' at *
  generalize b / g=b' at *
  have e4:=q3kp d (x:=n1*(b':Int)) (y:=n2*(a':Int)) (by omega) (by omega)
  have hX:(n1*(b':Int)+n2*(a':Int)).natAbs<340282366920938463463374607431768211456:=by omega
  generalize n1*(b':Int)+n2*(a':Int)=X at *
  replace hlow:=hlow (decide (X<0)) X.natAbs (sgnD X).symm
  have e5:=dvdC d hd (s:=decide (X<0)) (P:=X.natAbs) (y:=g) hX (by omega) (by omega)
  have e6:=q3kh d hd (a:=g) (b:=X.natAbs % g) (by have:=Nat.mod_lt X.natAbs (show 0<g by omega);omega)
  rw [show Nat.gcd g (X.natAbs % g)=Nat.gcd X.natAbs g by rw [Nat.gcd_comm X.natAbs g,Nat.gcd_rec g X.natAbs,Nat.gcd_comm]] at e6
  have hh1:1≤Nat.gcd X.natAbs g:=Nat.gcd_pos_of_pos_right _ g1
  have hh2:Nat.gcd X.natAbs g≤g:=Nat.gcd_le_right _ (by omega)
  generalize Nat.gcd X.natAbs g=h at *
  have e7:=dvdC d hd (s:=decide (X<0)) (P:=X.natAbs) (y:=h) hX (by omega) (by omega)
  have t3:=q3jv b h
  have q3:=q3k0 (g:=h) b2
  generalize X.natAbs / h=m at *
  generalize b / h=c at *
  have e8:=q3kv d (a:=a') (b:=c) (by omega) (by omega)
  have e9:=q3ks d (neg:=decide (X<0)) (n1:=false) (n2:=false) (N:=m) (D:=a'*c)
  rw [q3i1 (by
    have:=Int.mul_pos (show (0:Int)<(a:Int) by omega) (show (0:Int)<(b:Int) by omega);omega) hlow]
  simp only [q1ta,q1s8,q1se,q1si,q1sm,q1sq,q1su,q1sy,q1t2,q1t6,q1t8,Dt.eval,e0,show ((0:Int) != 0)=false from rfl,cond_false,q3jw (show a<18446744073709551616 by omega),q3jw (show b<18446744073709551616 by omega),e1,q3jx (show g≤9223372036854775807 by omega),neN g1,neN hh1,t1,t2,t3,q3jx q1,q3jx q2,e2,e3,e4,q3jw (show g<18446744073709551616 by omega),e5,e6,e7,q3jw (show a'<18446744073709551616 by omega),q3jw (show c<18446744073709551616 by omega),e8,e9]
theorem q3ky {n1 d1 n2 d2:Int} (hc:¬ (qdm n1 d1=0∧qdm n2 d2=0)):(if qdm n1 d1≠0 then qdm n1 d1 else qdm n2 d2)=8:=by
  rcases qds n1 d1 with q1 | q1<;>rcases qds n2 d2 with q2 | q2
  · exact absurd ⟨q1,q2⟩ hc
  all_goals simp [q1,q2]
theorem q3l0 (d:Nat) (hd:200≤d) {n1 d1 n2 d2:Int} (hn1:i64B n1=true) (hd1:i64B d1=true) (hn2:i64B n2=true) (hd2:i64B d2=true):q1u0 d ((n1,d1,()),(n2,d2,()),())=some (subV n1 d1 n2 d2):=by
  unfold subV
  have e0:=q3fy d hn1 hd1 hn2 hd2
  by_cases hc:qdm n1 d1=0∧qdm n2 d2=0
  · rw [if_pos hc]
    rw [if_neg (by simpa using hc.1),hc.2] at e0
    obtain ⟨k1,k2,k3⟩:=q3k2 hc.2 hn2
    have e1:=q3kx d hd hn1 hd1 k2 hd2 hc.1 k1
    rw [Int.neg_mul,show n1*d2 + -(n2*d1)=n1*d2 - n2*d1 by omega] at e1
    simp only [q1u0,q1ti,q1to,q1ts,q1tw,q1ty,Dt.eval,e0,show ((0:Int) != 0)=false from rfl,cond_false,k3,e1]
  · rw [if_neg hc]
    rw [q3ky hc] at e0
    simp only [q1u0,q1ti,q1to,q1ts,q1tw,Dt.eval,e0,show ((8:Int) != 0)=true from rfl,cond_true]
theorem q3l1 (d:Nat) (hd:200≤d) {X:Int} {D:Nat} (hX:X.natAbs<340282366920938463463374607431768211456) (D1:1≤D) (D2:D≤9223372036854775807):q1we d ((decide (X<0),hiN X.natAbs,loN X.natAbs,()),((D:Int),()),())=some (red X (D:Int)):=by
  have hlow:Low X (D:Int) (sgn (decide (X<0)) (X.natAbs / Nat.gcd X.natAbs D)) ((D / Nat.gcd X.natAbs D:Nat):Int):=by
    have h1:1≤Nat.gcd X.natAbs D:=Nat.gcd_pos_of_pos_right _ D1
    have e1:X.natAbs / Nat.gcd X.natAbs D*Nat.gcd X.natAbs D=X.natAbs:=Nat.div_mul_cancel (Nat.gcd_dvd_left _ _)
    have e2:D / Nat.gcd X.natAbs D*Nat.gcd X.natAbs D=D:=Nat.div_mul_cancel (Nat.gcd_dvd_right _ _)
    have e3:Nat.gcd (X.natAbs / Nat.gcd X.natAbs D) (D / Nat.gcd X.natAbs D)=1:=Nat.coprime_div_gcd_div_gcd h1
    have e4:1≤D / Nat.gcd X.natAbs D:=Nat.div_pos (Nat.gcd_le_right _ D1) h1
    generalize Nat.gcd X.natAbs D=g at *
    generalize X.natAbs / g=u at *
    generalize D / g=v at *
    refine ⟨by omega,by rw [q3j4,Int.natAbs_natCast];exact e3,?_⟩
    have hs:X=sgn (decide (X<0)) (u*g):=by rw [e1];exact (sgnD X).symm
    rw [← e2]
    generalize decide (X<0)=s at *
    rw [hs]
    unfold sgn
    cases s
    · show ((u * g : Nat) : Int) * (v : Int) = (u : Int) * ((v * g : Nat) : Int)
      rw [show ((u*g:Nat):Int)=(u:Int)*(g:Int) by simp,show ((v*g:Nat):Int)=(v:Int)*(g:Int) by simp,Int.mul_assoc,Int.mul_comm (g:Int)]
    · show -((u * g : Nat) : Int) * (v : Int) = -(u : Int) * ((v * g : Nat) : Int)
      rw [show ((u*g:Nat):Int)=(u:Int)*(g:Int) by simp,show ((v*g:Nat):Int)=(v:Int)*(g:Int) by simp,Int.neg_mul,Int.neg_mul,Int.mul_assoc,Int.mul_comm (g:Int)]
  rw [q3i1 (by omega) hlow]
  have e5:=dvdC d hd (s:=decide (X<0)) (P:=X.natAbs) (y:=D) hX (by omega) (by omega)
  have e6:=q3kh d hd (a:=D) (b:=X.natAbs % D) (by have:=Nat.mod_lt X.natAbs (show 0<D by omega);omega)
  rw [show Nat.gcd D (X.natAbs % D)=Nat.gcd X.natAbs D by rw [Nat.gcd_comm X.natAbs D,Nat.gcd_rec D X.natAbs,Nat.gcd_comm]] at e6
  have hh1:1≤Nat.gcd X.natAbs D:=Nat.gcd_pos_of_pos_right _ D1
  have hh2:Nat.gcd X.natAbs D≤D:=Nat.gcd_le_right _ (by omega)
  generalize Nat.gcd X.natAbs D=h at *
  have e7:=dvdC d hd (s:=decide (X<0)) (P:=X.natAbs) (y:=h) hX (by omega) (by omega)
  have t3:=q3jv D h
  have q3:=q3k0 (g:=h) D2
  generalize X.natAbs / h=m at *
  generalize D / h=c at *
  have e9:=q3ks d (neg:=decide (X<0)) (n1:=false) (n2:=false) (N:=m) (D:=c)
  rw [show hiN c=0 by show ((_:Nat):Int)=0;omega,show loN c=(c:Int) by show ((_:Nat):Int)=_;omega] at e9
  simp only [q1we,q1vq,q1vw,q1w0,q1w4,q1w8,q1wc,Dt.eval,q3jw (show D<18446744073709551616 by omega),e5,e6,e7,neN hh1,cond_false,t3,q3jw (show c<18446744073709551616 by omega),e9]
end Go.Proofs.YtbjpmdhdoggobaaGreat

namespace Go.Pel
open Go Go.Tx
theorem q3l2 {X D X' D':Int} (h1:1≤D) (h2:1≤D') (h:X*D'=X'*D):red X D=red X' D':=by
  have k:=q3i2 X h1
  have k2:Low X' D' (X / (Nat.gcd X.natAbs D.natAbs:Nat)) (D / (Nat.gcd X.natAbs D.natAbs:Nat)):=by
    generalize X / (Nat.gcd X.natAbs D.natAbs:Nat)=a at *
    generalize D / (Nat.gcd X.natAbs D.natAbs:Nat)=b at *
    obtain ⟨p,o,e⟩:=k
    refine ⟨p,o,?_⟩
    refine Int.eq_of_mul_eq_mul_right (a:=D) (by omega) ?_
    rw [Int.mul_right_comm,← h,Int.mul_right_comm,e,Int.mul_right_comm]
  rw [q3i1 h1 k,q3i1 h2 k2]
theorem q3l3 {n1 n2:Int} {a b:Nat} (ha:1≤a) (hb:1≤b) (h1:Nat.gcd n1.natAbs a=1) (h2:Nat.gcd n2.natAbs b=1) {s:Bool} (hs:n1*n2=sgn s (n1.natAbs*n2.natAbs)) :
    Low (n1*n2) ((a:Int)*(b:Int)) (sgn s (n1.natAbs / Nat.gcd n1.natAbs b*(n2.natAbs / Nat.gcd n2.natAbs a))) ((a / Nat.gcd n2.natAbs a*(b / Nat.gcd n1.natAbs b):Nat):Int):=by
  have g1:1≤Nat.gcd n1.natAbs b:=Nat.gcd_pos_of_pos_right _ hb
  have g2:1≤Nat.gcd n2.natAbs a:=Nat.gcd_pos_of_pos_right _ ha
  have e1:n1.natAbs / Nat.gcd n1.natAbs b*Nat.gcd n1.natAbs b=n1.natAbs:=Nat.div_mul_cancel (Nat.gcd_dvd_left _ _)
  have e2:n2.natAbs / Nat.gcd n2.natAbs a*Nat.gcd n2.natAbs a=n2.natAbs:=Nat.div_mul_cancel (Nat.gcd_dvd_left _ _)
  have e3:a / Nat.gcd n2.natAbs a*Nat.gcd n2.natAbs a=a:=Nat.div_mul_cancel (Nat.gcd_dvd_right _ _)
  have e4:b / Nat.gcd n1.natAbs b*Nat.gcd n1.natAbs b=b:=Nat.div_mul_cancel (Nat.gcd_dvd_right _ _)
  have c1:Nat.gcd (n1.natAbs / Nat.gcd n1.natAbs b) (b / Nat.gcd n1.natAbs b)=1:=Nat.coprime_div_gcd_div_gcd g1
  have c2:Nat.gcd (n2.natAbs / Nat.gcd n2.natAbs a) (a / Nat.gcd n2.natAbs a)=1:=Nat.coprime_div_gcd_div_gcd g2
  have p1:1≤a / Nat.gcd n2.natAbs a:=Nat.div_pos (Nat.gcd_le_right _ ha) g2
  have p2:1≤b / Nat.gcd n1.natAbs b:=Nat.div_pos (Nat.gcd_le_right _ hb) g1
  generalize Nat.gcd n1.natAbs b=g at *
  generalize Nat.gcd n2.natAbs a=h at *
  generalize n1.natAbs / g=u at *
  generalize n2.natAbs / h=v at *
  generalize ha':a / h=a' at *
  generalize hb':b / g=b' at *
  have du:u ∣ n1.natAbs:=⟨g,e1.symm⟩
  have dv:v ∣ n2.natAbs:=⟨h,e2.symm⟩
  have da:a' ∣ a:=⟨h,e3.symm⟩
  have db:b' ∣ b:=⟨g,e4.symm⟩
  have c3:Nat.Coprime u a':=Nat.Coprime.coprime_dvd_left du (Nat.Coprime.coprime_dvd_right da h1)
  have c4:Nat.Coprime v b':=Nat.Coprime.coprime_dvd_left dv (Nat.Coprime.coprime_dvd_right db h2)
  have hc:Nat.gcd (u*v) (a'*b')=1:=Nat.Coprime.mul_left (Nat.Coprime.mul_right c3 c1) (Nat.Coprime.mul_right c2 c4)
  have hp:1≤a'*b':=Nat.mul_pos p1 p2
  refine ⟨by omega,by rw [q3j4,Int.natAbs_natCast];exact hc,?_⟩
  rw [hs,← e1,← e2,← e3,← e4]
  have hN:(u*g*(v*h))*(a'*b')=(u*v)*(a'*h*(b'*g)):=by
    rw [Nat.mul_mul_mul_comm u g v h,Nat.mul_mul_mul_comm a' h b' g,Nat.mul_assoc (u*v),Nat.mul_comm (g*h),Nat.mul_comm h g]
  have hZ:((u*g*(v*h):Nat):Int)*((a'*b':Nat):Int)=((u*v:Nat):Int)*(((a'*h:Nat):Int)*((b'*g:Nat):Int)):=by
    have:=congrArg (fun n:Nat=>(n:Int)) hN
    simpa using this
  unfold sgn
  cases s
  · exact hZ
  · show -((u * g * (v * h) : Nat) : Int) * ((a' * b' : Nat) : Int) = -((u * v : Nat) : Int) * (((a' * h : Nat) : Int) * ((b' * g : Nat) : Int))
    rw [Int.neg_mul,Int.neg_mul,hZ]
end Go.Pel
namespace Go.Proofs.YtbjpmdhdoggobaaGreat
open Go Go.Tx Go.Pel
theorem q3l4 (d:Nat) {n:Int} (h:n.natAbs≤9223372036854775807):q1uo d ((n,()),())=some ((n.natAbs:Nat):Int):=by
  by_cases c:n<0
  · simp only [q1uo, q1u8, q1uc, q1ug, q1uk, q1um, Dt.eval, decide_eq_true c, cond_true, IntWalk.i64_in (n + 1) (by omega), IntWalk.i64_in (0 - (n + 1)) (by omega)]
    rw [IntKind.wrap_u64,IntKind.wrap_u64]
    refine congrArg some (show (_:Int)=_ from ?_)
    omega
  · simp only [q1uo, q1u8, q1uc, q1ug, q1uk, q1um, Dt.eval, decide_eq_false c, cond_false]
    rw [IntKind.wrap_u64]
    refine congrArg some (show (_:Int)=_ from ?_)
    omega
theorem q3l5 (d:Nat) (hd:200≤d) {n1 d1 n2 d2:Int} (hn1:i64B n1=true) (hd1:i64B d1=true) (hn2:i64B n2=true) (hd2:i64B d2=true) (c1:qdm n1 d1=0) (c2:qdm n2 d2=0):q1vi d ((n1,d1,()),(n2,d2,()),())=some (red (n1*n2) (d1*d2)):=by
  have e0:=q3fy d hn1 hd1 hn2 hd2
  rw [if_neg (by simpa using c1),c2] at e0
  obtain ⟨a,rfl,a1,a2,a3,a4⟩:=q3ju c1 hn1 hd1
  obtain ⟨b,rfl,b1,b2,b3,b4⟩:=q3ju c2 hn2 hd2
  have s1:=q3l4 d a3
  have s2:=q3l4 d b3
  have e1:=q3kh d hd (a:=n1.natAbs) (b:=b) (by omega)
  have e2:=q3kh d hd (a:=n2.natAbs) (b:=a) (by omega)
  have hlow:=fun s (hs:n1*n2=sgn s (n1.natAbs*n2.natAbs))=>@q3l3 n1 n2 a b a1 b1 a4 b4 s hs
  have g1:1≤Nat.gcd n1.natAbs b:=Nat.gcd_pos_of_pos_right _ b1
  have g2:1≤Nat.gcd n2.natAbs a:=Nat.gcd_pos_of_pos_right _ a1
  have q1:=q3k0 (g:=Nat.gcd n1.natAbs b) a3
  have q2:=q3k0 (g:=Nat.gcd n2.natAbs a) b3
  have q3:=q3k0 (g:=Nat.gcd n2.natAbs a) a2
  have q4:=q3k0 (g:=Nat.gcd n1.natAbs b) b2
  have t1:=q3jv n1.natAbs (Nat.gcd n1.natAbs b)
  have t2:=q3jv n2.natAbs (Nat.gcd n2.natAbs a)
  have t3:=q3jv a (Nat.gcd n2.natAbs a)
  have t4:=q3jv b (Nat.gcd n1.natAbs b)
  have hD:1≤(a:Int)*(b:Int):=by
    have:=Int.mul_pos (show (0:Int)<(a:Int) by omega) (show (0:Int)<(b:Int) by omega);omega
  generalize Nat.gcd n1.natAbs b=g at *
  generalize Nat.gcd n2.natAbs a=h at *
  have ng:=neN g1
  have nh:=neN g2
  generalize n1.natAbs / g=u at *
  generalize n2.natAbs / h=v at *
  generalize a / h=a' at *
  generalize b / g=b' at *
  have e3:=q3kv d (a:=u) (b:=v) (by omega) (by omega)
  have e4:=q3kv d (a:=a') (b:=b') (by omega) (by omega)
  have e5:=fun s=>q3ks d (neg:=s) (n1:=false) (n2:=false) (N:=u*v) (D:=a'*b')
  have wa:=q3jw (show a<18446744073709551616 by omega)
  have wb:=q3jw (show b<18446744073709551616 by omega)
  have w1:=q3jw (show u<18446744073709551616 by omega)
  have w2:=q3jw (show v<18446744073709551616 by omega)
  have w3:=q3jw (show a'<18446744073709551616 by omega)
  have w4:=q3jw (show b'<18446744073709551616 by omega)
  have z0:((0:Int) != 0)=false:=rfl
  by_cases c:(decide (n1<0))=(decide (n2<0))
  · have k1 : (!((decide (n1 < 0)) == (decide (n2 < 0)))) = false := by rw [c]; cases decide (n2 < 0) <;> rfl
    have hs:n1*n2=sgn false (n1.natAbs*n2.natAbs):=by
      show n1*n2=((n1.natAbs*n2.natAbs:Nat):Int)
      by_cases x:n1<0
      · have y : n2 < 0 := by rw [decide_eq_true x] at c; exact of_decide_eq_true c.symm
        rw [← Int.neg_mul_neg]
        simp only [Int.natCast_mul]
        rw [Int.ofNat_natAbs_of_nonpos (by omega),Int.ofNat_natAbs_of_nonpos (by omega)]
      · have y : ¬ n2 < 0 := by rw [decide_eq_false x] at c; exact of_decide_eq_false c.symm
        simp only [Int.natCast_mul]
        rw [Int.natAbs_of_nonneg (by omega),Int.natAbs_of_nonneg (by omega)]
    rw [q3i1 hD (hlow false hs)]
    simp only [q1vi,q1uw,q1v2,q1v6,q1va,q1ve,q1vg,Dt.eval,e0,z0,cond_false,wa,wb,s1,s2,e1,e2,k1,ng,nh,t1,t2,t3,t4,w1,w2,w3,w4,e3,e4,e5]
  · have k1:(!((decide (n1<0)) == (decide (n2<0))))=true:=by
      cases h1:decide (n1<0)<;>cases h2:decide (n2<0)<;>simp [h1,h2] at c ⊢
    by_cases z:n1=0
    · have k2 : (n1 != 0) = false := by rw [z]; rfl
      have hs:n1*n2=sgn false (n1.natAbs*n2.natAbs):=by
        show n1*n2=((n1.natAbs*n2.natAbs:Nat):Int);rw [z];simp
      rw [q3i1 hD (hlow false hs)]
      simp only [q1vi,q1uw,q1v2,q1v6,q1va,q1ve,q1vg,Dt.eval,e0,z0,cond_false,cond_true,wa,wb,s1,s2,e1,e2,k1,k2,ng,nh,t1,t2,t3,t4,w1,w2,w3,w4,e3,e4,e5]
    · have k2 : (n1 != 0) = true := by rw [bne_iff_ne]; exact z
      have hs:n1*n2=sgn (n2 != 0) (n1.natAbs*n2.natAbs):=by
        by_cases y:n2=0
        · rw [y,show ((0:Int) != 0)=false from rfl];show n1*0=((n1.natAbs*0:Nat):Int);simp
        · rw [show (n2 != 0) = true by rw [bne_iff_ne]; exact y]
          show n1*n2=-((n1.natAbs*n2.natAbs:Nat):Int)
          simp only [Int.natCast_mul]
          by_cases x:n1<0
          · have w : ¬ n2 < 0 := fun w => c (by rw [decide_eq_true x, decide_eq_true w])
            rw [Int.ofNat_natAbs_of_nonpos (by omega),Int.natAbs_of_nonneg (by omega),Int.neg_mul,Int.neg_neg]
          · have w:n2<0:=by
              refine Classical.byContradiction fun w=>c ?_
              rw [decide_eq_false x,decide_eq_false w]
            rw [Int.natAbs_of_nonneg (by omega),Int.ofNat_natAbs_of_nonpos (by omega),Int.mul_neg,Int.neg_neg]
      rw [q3i1 hD (hlow (n2 != 0) hs)]
      simp only [q1vi,q1uw,q1v2,q1v6,q1va,q1ve,q1vg,Dt.eval,e0,z0,cond_false,cond_true,wa,wb,s1,s2,e1,e2,k1,k2,ng,nh,t1,t2,t3,t4,w1,w2,w3,w4,e3,e4,e5]
theorem q3l7 {a:Int} (h:a.natAbs≤1048576):qdm a 1=0:=qdp (by omega) (by omega) (Nat.gcd_one_left _)
theorem ratC (d:Nat) (hd:200≤d) (p:T3) {n dd:Int} (hn:i64B n=true) (hdd:i64B dd=true):q1xi d ((p.1,p.2.1,p.2.2.1,()),(n,dd,()),())=some (atQ p n dd):=by
  unfold atQ
  have e1:qo4 d ((p.1,p.2.1,p.2.2.1,()),())=some (qe0 p.1 p.2.1 p.2.2.1):=qo5 _ _ rfl
  have e2:qnm d ((n,dd,()),())=some (qdm n dd):=qnn _ _ (by unfold qnl;simp only [hn,hdd,Bool.and_self])
  by_cases hc:qe0 p.1 p.2.1 p.2.2.1=0∧qdm n dd=0
  · rw [if_pos hc]
    obtain ⟨_,_,a1,a2,a3,a4⟩:=qe4 hc.1
    have k1:=q3l7 (a:=p.2.1) (by omega)
    have k2:=q3l7 (a:=p.2.2.1) (by omega)
    have i1:i64B p.2.1=true:=q3fe (by omega)
    have i2:i64B p.2.2.1=true:=q3fe (by omega)
    have i3:i64B (1:Int)=true:=rfl
    have e3:=q3l5 d hd i2 i3 hn hdd k2 hc.2
    have hq:=hc.2
    obtain ⟨D,rfl,D1,D2,n1,hg⟩:=q3ju hc.2 hn hdd
    rw [Int.one_mul] at e3
    rw [hc.1] at e1
    rw [hc.2] at e2
    rcases q3i7 (p.2.2.1*n) (D:Int) with h | h
    · obtain ⟨v1, v2, v3, v4⟩ := q3i6 (X := p.2.2.1 * n) (D := (D : Int)) (by omega) h
      have v5:1≤(red (p.2.2.1*n) (D:Int)).2.1:=(qdt v1).1
      generalize red (p.2.2.1*n) (D:Int)=r at *
      obtain ⟨x,y,e⟩:=r
      have v4':y≤9223372036854775807:=v4
      have v5':1≤y:=v5
      have e4:=q3kx d hd i1 i3 (q3fe v3) (q3fe (show y.natAbs≤_ by omega)) k1 v1
      have hr:red (p.2.1*y+x*1) (1*y)=red (p.2.1*(D:Int)+p.2.2.1*n) (D:Int):=by
        refine q3l2 (by show 1≤1*y;rw [Int.one_mul];exact v5) (by omega) ?_
        have v2':p.2.2.1*n*y=x*(D:Int):=v2
        rw [Int.one_mul,Int.mul_one,Int.add_mul,Int.add_mul,v2',Int.mul_right_comm]
      rw [← hr]
      have h':e=0:=h
      subst h'
      simp only [q1xi,q1wm,q1ws,q1ww,q1x0,q1x4,q1x8,q1xa,q1xe,q1xg,Dt.eval,e1,e2,show ((0:Int) != 0)=false from rfl,cond_false,e3,show ((0:Int) == 0)=true from rfl,cond_true,e4]
    · rw [h] at e3
      have m1:(p.2.1*(D:Int)).natAbs≤1048576*9223372036854775807:=by rw [Int.natAbs_mul];exact Nat.mul_le_mul (by omega) (by omega)
      have m2:(p.2.2.1*n).natAbs≤1048576*9223372036854775807:=by rw [Int.natAbs_mul];exact Nat.mul_le_mul (by omega) (by omega)
      have e4:=q3kw d (n:=p.2.1) (m:=(D:Int)) i1 hdd
      have e5:=q3kw d (n:=p.2.2.1) (m:=n) i2 hn
      have e6:=q3kp d (x:=p.2.1*(D:Int)) (y:=p.2.2.1*n) (by omega) (by omega)
      have e7:=q3l1 d hd (X:=p.2.1*(D:Int)+p.2.2.1*n) (D:=D) (by omega) D1 D2
      simp only [q1xi,q1wm,q1ws,q1ww,q1x0,q1x4,q1x8,q1xa,q1xe,q1xg,Dt.eval,e1,e2,show ((0:Int) != 0)=false from rfl,cond_false,e3,show ((16:Int) == 0)=false from rfl,e4,e5,e6,e7]
  · rw [if_neg hc]
    rcases qe3 p.1 p.2.1 p.2.2.1 with q | q
    · rw [q] at e1
      rw [show qdm n dd=8 from (qds n dd).resolve_left fun k=>hc ⟨q,k⟩] at e2
      simp only [q1xi,q1wm,q1ws,q1ww,q1x0,q1x4,q1x8,q1xa,q1xe,q1xg,Dt.eval,e1,e2,show ((0:Int) != 0)=false from rfl,show ((8:Int) != 0)=true from rfl,cond_true,cond_false]
    · rw [q] at e1
      simp only [q1xi,q1wm,q1ws,q1ww,q1x0,q1x4,q1x8,q1xa,q1xe,q1xg,Dt.eval,e1,show ((8:Int) != 0)=true from rfl,cond_true]
end Go.Proofs.YtbjpmdhdoggobaaGreat

namespace Go.Pel
open Go Go.RowKit
end Go.Pel

namespace Go.Proofs.YtbjpmdhdoggobaaGreat
open Go Go.Tx Go.Pel
theorem q3lf (d:Nat) {l:List T3} (hlen:l.length≤1000) (id:Int):qpm d ((l,()),(id,()),())=some (atI (ptsL l) id):=by
  rw [qpn _ _ (by unfold qpl;rw [decide_eq_true_eq];show (ptsL l).length≤_;rw [qjc];omega)]
theorem q3lg {l:List T3} (h:FldOk l) {p:T3} (hp:p∈l):∃ k:Nat,l[k]?=some p∧atI (ptsL l) p.1=k:=by
  obtain ⟨k,hk⟩:=List.mem_iff_getElem?.1 hp
  refine ⟨k,hk,qh3 (p:=ofP p) (fun j q hj hq=>?_) (by unfold ptsL;rw [List.getElem?_map,hk];rfl) rfl⟩
  unfold ptsL at hq
  rw [List.getElem?_map] at hq
  obtain ⟨hil,rfl⟩:=List.getElem?_eq_some_iff.1 hk
  rw [List.getElem?_eq_getElem (by omega)] at hq
  injection hq with hq
  subst hq
  have:=(List.pairwise_iff_getElem.1 h.inc) j k (by omega) hil hj
  show (l[j]).1≠(l[k]).1
  omega
def lasT (l:List T3) (n dd:Int):T3:=toP ((ordI n dd (ptsL l))[l.length - 1]?.getD Pt.zero)
def Last (l:List T3) (n dd:Int) (p:T3):Prop:=p∈l∧∀ q∈l,leads (ofP p) (ofP q) n dd=false
def chkS (l:List T3) (n dd n' dd':Int):Int:=if chk2 l n dd n' dd'≠0 then chk2 l n dd n' dd' else if l.length=0 then 42 else 0
def apV (p q:T3) (n dd:Int):Int×Int×Int:=if (atQ p n dd).2.2≠0 then (0,0,(atQ p n dd).2.2) else if (atQ q n dd).2.2≠0 then (0,0,(atQ q n dd).2.2) else subV (atQ p n dd).1 (atQ p n dd).2.1 (atQ q n dd).1 (atQ q n dd).2.1
theorem q3lu {p:T3} {n dd:Int}:i64B (atQ p n dd).1=true∧i64B (atQ p n dd).2.1=true:=by
  unfold atQ
  split
  · unfold red
    rcases q3i5 ((p.2.1*dd+p.2.2.1*n) / (Nat.gcd (p.2.1*dd+p.2.2.1*n).natAbs dd.natAbs:Nat)) (dd / (Nat.gcd (p.2.1*dd+p.2.2.1*n).natAbs dd.natAbs:Nat)) with ⟨e,k1,k2⟩ | e
    · rw [e];exact ⟨q3fe k1,q3fe k2⟩
    · rw [e];exact ⟨rfl,rfl⟩
  · exact ⟨rfl,rfl⟩
theorem q3lv (d:Nat) (hf:200≤d) (p q:T3) {n dd:Int} (hn:i64B n=true) (hd:i64B dd=true):q2hk d ((p.1,p.2.1,p.2.2.1,()),(q.1,q.2.1,q.2.2.1,()),(n,dd,()),())=some (apV p q n dd):=by
  have e1:=ratC d hf p hn hd
  have e2:=ratC d hf q hn hd
  have e3:=q3l0 d hf (@q3lu p n dd).1 (@q3lu p n dd).2 (@q3lu q n dd).1 (@q3lu q n dd).2
  unfold apV
  generalize atQ p n dd=x at *
  generalize atQ q n dd=y at *
  obtain ⟨x1,x2,x3⟩:=x
  obtain ⟨y1,y2,y3⟩:=y
  by_cases h:x3=0
  · subst h
    by_cases h':y3=0
    · subst h'
      simp only [q2hk,q2go,q2gu,q2gy,q2h2,q2h6,q2ha,q2he,q2hg,q2hi,Dt.eval,e1,e2,show ((0:Int) != 0)=false from rfl,cond_false,e3,ne_eq,not_true_eq_false,if_false]
    · simp only [q2hk,q2go,q2gu,q2gy,q2h2,q2h6,q2ha,q2he,q2hg,q2hi,Dt.eval,e1,e2,show ((0:Int) != 0)=false from rfl,cond_false,show (y3 != 0)=true by simpa using h',cond_true,ne_eq,not_true_eq_false,if_false,h',not_false_eq_true,if_true]
  · simp only [q2hk,q2go,q2gu,q2gy,q2h2,q2h6,q2ha,q2he,q2hg,q2hi,Dt.eval,e1,show (x3 != 0)=true by simpa using h,cond_true,ne_eq,h,not_false_eq_true,if_true]
def spV (l:List T3) (n dd:Int):Int×Int×Int:=if chkS l n dd n dd≠0 then (0,0,chkS l n dd n dd) else apV (ldT l n dd) (lasT l n dd) n dd
end Go.Proofs.YtbjpmdhdoggobaaGreat

namespace Go.Proofs.YtbjpmdhdoggobaaGreat
open Go Go.Tx Go.Pel
def ordT (l:List T3) (n dd:Int):List T3:=(ordI n dd (ptsL l)).map toP
def idU (p:T3):Di:=(p.1,())
theorem q3lw (l:List T3) (n dd:Int):(ordT l n dd).Perm l:=by
  have h:(ordT l n dd).Perm (toPs (ptsL l)):=(qub n dd (ptsL l)).map toP
  rwa [q3gj] at h
theorem q3lx (l:List T3) (n dd:Int):unI ((ordI n dd (ptsL l)).map Pt.id)=(ordT l n dd).map idU:=by
  unfold ordT unI
  rw [List.map_map,List.map_map]
  rfl
theorem q3ly {l:List T3} (h:FldOk l) (n dd:Int):(ordT l n dd).Pairwise fun a b=>a.1≠b.1∧leads (ofP a) (ofP b) n dd=true:=by
  unfold ordT
  rw [List.pairwise_map]
  have hp:=qub n dd (ptsL l)
  have hn:(ordI n dd (ptsL l)).Pairwise fun a b=>a.id≠b.id:=by
    refine (hp.pairwise_iff (R:=fun a b:Pt=>a.id≠b.id) (fun {a b} h=>Ne.symm h)).2 ?_
    unfold ptsL
    rw [List.pairwise_map]
    exact h.inc.imp fun {a b} hab=>by show a.1≠b.1;omega
  refine ((qud n dd (ptsL l)).and hn).imp fun {a b} ⟨h1,h2⟩=>⟨h2,?_⟩
  show leads a b n dd=true
  rw [q3h7 (p:=b) (q:=a) (Ne.symm h2),h1];rfl
theorem q3lz (l:List T3) (n dd:Int):(ordT l n dd).length=l.length:=(q3lw l n dd).length_eq
end Go.Proofs.YtbjpmdhdoggobaaGreat

namespace Go.Proofs.YtbjpmdhdoggobaaGreat
open Go Go.Tx Go.Pel
def dU (x:Int×Int×Int):Dii:=(x.1,x.2.1,())
def plE (n dd:Int) (O:List T3):Bool:=O.all fun p=>(atQ p n dd).2.2 == 0
def gpL (n dd:Int):List T3→List (Int×Int×Int)
  | []=>[]
  | [_]=>[]
  | p :: q :: r=>subV (atQ p n dd).1 (atQ p n dd).2.1 (atQ q n dd).1 (atQ q n dd).2.1 :: gpL n dd (q :: r)
def gpE (n dd:Int) (O:List T3):Bool:=(gpL n dd O).all fun x=>x.2.2 == 0
def q3m1 (l:List T3) (n dd:Int):List Di×List Dii×Int:=if plE n dd (ordT l n dd)&&gpE n dd (ordT l n dd) then ((ordT l n dd).map idU,(gpL n dd (ordT l n dd)).map dU,0) else ([],[],16)
theorem q3m2 {p:T3} (hp:okP p) {n dd:Int} (hr:qdm n dd=0):(atQ p n dd).2.2=0∧qdm (atQ p n dd).1 (atQ p n dd).2.1=0∨atQ p n dd=(0,0,16):=by
  have e:atQ p n dd=red (p.2.1*dd+p.2.2.1*n) dd:=by
    unfold atQ;rw [if_pos ⟨show qe0 p.1 p.2.1 p.2.2.1=0 from hp,hr⟩]
  rw [e]
  rcases q3i7 (p.2.1*dd+p.2.2.1*n) dd with h | h
  · exact .inl ⟨h,(q3i6 (qdt hr).1 h).1⟩
  · exact .inr h
theorem q3m3 {a b c e:Int} (h1:qdm a b=0) (h2:qdm c e=0):(subV a b c e).2.2=0∨subV a b c e=(0,0,16):=by
  unfold subV;rw [if_pos ⟨h1,h2⟩];exact q3i7 _ _
theorem q3m4 (d:Nat) (hd:200≤d) {n dd:Int} (hr:qdm n dd=0) {O:List T3} (hO:∀ p∈O,okP p) (hpl:plE n dd O=true) (hlen:O.length≤64) {L:List Di}:∀ (f i:Nat) (out:List Dii),O.length - i<f→out.length≤i→i≤O.length →
    iter (q1zw d) f (((i+1:Nat):Int),L,O.map (fun p=>dU (atQ p n dd)),out)=some (if gpE n dd (O.drop i) then (L,out++(gpL n dd (O.drop i)).map dU,0) else ([],[],16))
  | 0,i,out,hf,_,_=>by omega
  | f + 1, i, out, hf, ho, hi => by
    have ih:=q3m4 d hd hr hO hpl hlen (L:=L) f (i+1)
    rw [iter]
    revert ih
    generalize iter (q1zw d) f=self
    intro ih
    have hml:(O.map fun p=>dU (atQ p n dd)).length=O.length:=List.length_map _
    by_cases hlt:i+1<O.length
    · obtain ⟨p, hp⟩ : ∃ p, O[i]? = some p := ⟨_, List.getElem?_eq_getElem (by omega)⟩
      obtain ⟨q,hq⟩:∃ q,O[i+1]?=some q:=⟨_,List.getElem?_eq_getElem hlt⟩
      have hpo:=hO p (List.mem_of_getElem? hp)
      have hqo:=hO q (List.mem_of_getElem? hq)
      have ep:(atQ p n dd).2.2=0:=by have:=List.all_eq_true.1 hpl p (List.mem_of_getElem? hp);simpa using this
      have eq:(atQ q n dd).2.2=0:=by have:=List.all_eq_true.1 hpl q (List.mem_of_getElem? hq);simpa using this
      have cp:qdm (atQ p n dd).1 (atQ p n dd).2.1=0:=by
        rcases q3m2 hpo hr with h | h
        · exact h.2
        · rw [h] at ep;cases ep
      have cq:qdm (atQ q n dd).1 (atQ q n dd).2.1=0:=by
        rcases q3m2 hqo hr with h | h
        · exact h.2
        · rw [h] at eq;cases eq
      have hp':(O.map fun p=>dU (atQ p n dd))[i]?=some (dU (atQ p n dd)):=by rw [List.getElem?_map,hp];rfl
      have hq':(O.map fun p=>dU (atQ p n dd))[i+1]?=some (dU (atQ q n dd)):=by rw [List.getElem?_map,hq];rfl
      have e1:=subC d hd (@q3lu p n dd).1 (@q3lu p n dd).2 (@q3lu q n dd).1 (@q3lu q n dd).2
      have hl1:i<(O.map fun p=>dU (atQ p n dd)).length:=by omega
      have hl2:i+1<(O.map fun p=>dU (atQ p n dd)).length:=by omega
      have wm:IntKind.wrap .i64 (((i+1:Nat):Int) - 1)=(i:Int):=by rw [IntWalk.i64_in _ (by omega)];omega
      have wi:=q3fr (show i+1<1000000 by omega)
      have ha:apB out.length 1=true:=by unfold apB;rw [Nat.ble_eq];omega
      rw [q3fw hp,q3fw hq]
      unfold gpE gpL
      rw [List.all_cons,List.map_cons]
      have hcs:=q3m3 cp cq
      clear hml
      generalize O.map (fun p=>dU (atQ p n dd))=P at *
      unfold q1zw
      generalize subV (atQ p n dd).1 (atQ p n dd).2.1 (atQ q n dd).1 (atQ q n dd).2.1=s at *
      obtain ⟨s1,s2,s3⟩:=s
      by_cases h:s3=0
      · subst h
        have hih:=ih (out ++ [(s1,s2,())]) (by omega) (by rw [List.length_append];simp;omega) (by omega)
        unfold gpE at hih
        rw [q3fw hq] at hih
        simp only [q1ze,q1zs,q1zi,q1zm,q1zo,q1zq,q1zu,Dt.eval,q1xq,q3fu hl2,cond_true,wm,q3ft hl1,q3ft hl2,q3fs hp',q3fs hq',dU,e1,show ((0:Int) != 0)=false from rfl,cond_false,List.length_cons,List.length_nil,Nat.zero_add,ha,wi]
        refine hih.trans ?_
        simp only [beq_self_eq_true,Bool.true_and,List.append_assoc]
        rfl
      · have h16:s3=16:=by
          rcases hcs with k | k
          · exact absurd k h
          · injection k with _ k;injection k
        subst h16
        simp only [q1ze,q1zs,q1zi,q1zm,q1zo,q1zq,q1zu,Dt.eval,q1xq,q3fu hl2,cond_true,wm,q3ft hl1,q3ft hl2,q3fs hp',q3fs hq',dU,e1,show ((16:Int) != 0)=true from rfl]
        rfl
    · have hnl : ¬ i + 1 < (O.map fun p => dU (atQ p n dd)).length := by omega
      have hdr:gpL n dd (O.drop i)=[]:=by
        have:(O.drop i).length≤1:=by rw [List.length_drop];omega
        match O.drop i,this with
        | [],_=>rfl
        | [_],_=>rfl
      unfold q1zw gpE
      simp only [q1ze,q1zs,q1zi,q1zm,q1zo,q1zq,q1zu,Dt.eval,q3fv hnl,cond_false,hdr,List.all_nil,if_true,List.map_nil,List.append_nil]
theorem q3m5 (d:Nat) (hd:5000≤d) {l:List T3} (h:FldOk l) (h0:qgo (ptsL l)=0) {n dd:Int} (hn:i64B n=true) (hdd:i64B dd=true) (hr:qdm n dd=0) {O:List T3} (hO:∀ p∈O,p∈l) (hlen:O.length≤64):∀ (f i:Nat),O.length - i<f→i≤O.length→plE n dd (O.take i)=true →
    iter (q1zx d) f ((O.length:Int),(i:Int),l,n,dd,O.map idU,(O.take i).map (fun p=>dU (atQ p n dd)),[])=some (if plE n dd O&&gpE n dd O then (O.map idU,(gpL n dd O).map dU,0) else ([],[],16))
  | 0,i,hf,_,_=>by omega
  | f + 1, i, hf, hi, hpl => by
    have ih:=q3m5 d hd h h0 hn hdd hr hO hlen f (i+1)
    rw [iter]
    revert ih
    generalize iter (q1zx d) f=self
    intro ih
    unfold q1zx
    by_cases hlt:i<O.length
    · obtain ⟨p, hp⟩ : ∃ p, O[i]? = some p := ⟨_, List.getElem?_eq_getElem hlt⟩
      have hpm:=hO p (List.mem_of_getElem? hp)
      have hp':(O.map idU)[i]?=some (idU p):=by rw [List.getElem?_map,hp];rfl
      have hl1:i<(O.map idU).length:=by rw [List.length_map];exact hlt
      have e1:=q3hj d h h0 hpm
      have e2:=atC d (by omega) p hn hdd
      have hcs:=q3m2 (h.ok p hpm) hr
      have wi:=q3fr (show i<1000000 by omega)
      have htk:O.take (i+1)=O.take i ++ [p]:=by rw [List.take_add_one,hp];rfl
      have ha:apB ((O.take i).map fun p=>dU (atQ p n dd)).length 1=true:=by unfold apB;rw [Nat.ble_eq,List.length_map,List.length_take];omega
      by_cases hz:(atQ p n dd).2.2=0
      · have hpl2:plE n dd (O.take (i+1))=true:=by
          rw [htk];unfold plE;rw [List.all_append,List.all_cons,List.all_nil,Bool.and_true]
          unfold plE at hpl
          rw [hpl,hz];rfl
        have hih:=ih (by omega) (by omega) hpl2
        rw [htk,List.map_append,List.map_cons,List.map_nil] at hih
        generalize (O.take i).map (fun p=>dU (atQ p n dd))=P at *
        generalize atQ p n dd=r at *
        obtain ⟨r1,r2,r3⟩:=r
        have hz':r3=0:=hz
        subst hz'
        simp only [q1yk,q1yo,q1ys,q1yw,q1z0,q1z2,q1z4,q1z6,q1za,Dt.eval,q1xq,q3fu hlt,cond_true,q3ft hl1,q3fs hp',idU,e1,e2,show ((0:Int) != 0)=false from rfl,cond_false,List.length_cons,List.length_nil,Nat.zero_add,ha,wi]
        exact hih
      · have h16:atQ p n dd=(0,0,16):=by
          rcases hcs with k | k
          · exact absurd k.1 hz
          · exact k
        have hno:plE n dd O=false:=by
          cases hb:plE n dd O with
          | false=>rfl
          | true=>have:=List.all_eq_true.1 hb p (List.mem_of_getElem? hp);exact absurd (by simpa using this) hz
        rw [h16] at e2
        rw [hno]
        simp only [q1yk,q1yo,q1ys,q1yw,q1z0,q1z2,q1z4,q1z6,q1za,Dt.eval,q1xq,q3fu hlt,cond_true,q3ft hl1,q3fs hp',idU,e1,e2,show ((16:Int) != 0)=true from rfl]
        rfl
    · have hkl : i = O.length := by omega
      rw [hkl,List.take_length] at hpl ⊢
      have e:=q3m4 d (by omega) hr (fun p hp=>h.ok p (hO p hp)) hpl hlen (L:=O.map idU) d 0 [] (by omega) (Nat.le_refl _) (Nat.zero_le _)
      rw [List.drop_zero,List.nil_append] at e
      have hnl:¬ O.length<O.length:=Nat.lt_irrefl _
      rw [hpl,Bool.true_and]
      simp only [q1yk,q1yo,q1ys,q1yw,q1z0,q1z2,q1z4,q1z6,q1za,Dt.eval,q3fv hnl,cond_false]
      exact e
theorem q3m6 (d:Nat) (hd:5000≤d) {l:List T3} (h:FldOk l) (h0:qgo (ptsL l)=0) {n dd:Int} (hn:i64B n=true) (hdd:i64B dd=true) (hr:qdm n dd=0):q1zy d ((l,()),(n,dd,()),())=some (q3m1 l n dd):=by
  have e1:=q3hi d h.len h0 hn hdd hr
  rw [q3lx] at e1
  have hol:=q3lz l n dd
  have hl64:=h.len
  have e2:=q3m5 d hd h h0 hn hdd hr (O:=ordT l n dd) (fun p hp=>(q3lw l n dd).mem_iff.1 hp) (by omega) d 0 (by omega) (Nat.zero_le _) rfl
  have hml:(((ordT l n dd).map idU).length:Int)=((ordT l n dd).length:Int):=by rw [List.length_map]
  simp only [q1zy,q1xq,q1xw,q1y0,q1y4,q1y8,q1yc,q1yg,Dt.eval,e1,show ((0:Int) != 0)=false from rfl,cond_false,hml]
  exact e2
theorem q3m7 {p q:T3} {n dd:Int} (h1:(atQ p n dd).2.2=0) (h2:(atQ q n dd).2.2=0):apV p q n dd=subV (atQ p n dd).1 (atQ p n dd).2.1 (atQ q n dd).1 (atQ q n dd).2.1:=by
  unfold apV;rw [if_neg (by simpa using h1),if_neg (by simpa using h2)]
theorem q3ma {p:T3} (hp:okP p) {n dd:Int} (hr:qdm n dd=0):(apV p p n dd).2.2=0↔(atQ p n dd).2.2=0:=by
  rcases q3m2 hp hr with ⟨a1,a2⟩ | a
  · rw [q3m7 a1 a1]
    refine ⟨fun _=>a1,fun _=>?_⟩
    unfold subV
    rw [if_pos ⟨a2,a2⟩,Int.sub_self]
    have h1:=(qdt a2).1
    have hpos:1≤(atQ p n dd).2.1*(atQ p n dd).2.1:=by have:=Int.mul_pos (show 0<(atQ p n dd).2.1 by omega) (show 0<(atQ p n dd).2.1 by omega);omega
    rw [q3i1 (a:=0) (b:=1) hpos ⟨by decide,rfl,by rw [Int.zero_mul,Int.zero_mul]⟩]
    rfl
  · unfold apV
    rw [a]
    constructor
    · intro h;cases h
    · intro h;cases h
end Go.Proofs.YtbjpmdhdoggobaaGreat

namespace Go.Proofs.YtbjpmdhdoggobaaGreat
open Go Go.Tx Go.Pel
def q3me (l:List T3) (n dd:Int):List Dii×Int:=if qrq (ptsL l) n dd≠0 then ([],qrq (ptsL l) n dd) else ((q3m1 l n dd).2.1,(q3m1 l n dd).2.2)
theorem q3mf {l:List T3} {n d:Int} (h:qrq (ptsL l) n d=0):FldOk l∧qgo (ptsL l)=0∧qdm n d=0:=by
  unfold qrq at h
  by_cases h0:qgo (ptsL l)=0
  · rw [if_neg (by simpa using h0)] at h
    exact ⟨q3fj h0,h0,h⟩
  · rw [if_pos h0] at h;exact absurd h h0
theorem q3mg (d:Nat) {l:List T3} (hl:l.length≤1000) {n dd:Int} (hn:i64B n=true) (hdd:i64B dd=true) (h:qrq (ptsL l) n dd≠0):qvn d ((l,()),(n,dd,()),())=some ([],qrq (ptsL l) n dd):=by
  rw [qvo _ _ (by unfold qvm;simp only [hn,hdd,Bool.and_self,Bool.true_and,decide_eq_true_eq];rw [qjc];omega)]
  have e:qua (ptsL l) n dd=([],qrq (ptsL l) n dd):=by
    unfold qua
    unfold qrq at h ⊢
    by_cases k:qgo (ptsL l)=0
    · rw [if_neg (by simpa using k)] at h ⊢
      rw [if_pos h,if_neg (by simpa using k)]
    · rw [if_pos k,if_pos k]
  show some (unI (qua (ptsL l) n dd).1,(qua (ptsL l) n dd).2)=_
  rw [e];rfl
theorem q3mh (d:Nat) (hd:5000≤d) {l:List T3} (hl:l.length≤1000) {n dd:Int} (hn:i64B n=true) (hdd:i64B dd=true):q1zy d ((l,()),(n,dd,()),())=some (if qrq (ptsL l) n dd≠0 then ([],[],qrq (ptsL l) n dd) else q3m1 l n dd):=by
  by_cases h:qrq (ptsL l) n dd=0
  · obtain ⟨h1, h2, h3⟩ := q3mf h
    rw [if_neg (by simpa using h)]
    exact q3m6 d hd h1 h2 hn hdd h3
  · rw [if_pos h]
    have e:=q3mg d hl hn hdd h
    simp only [q1zy,q1xq,q1xw,q1y0,q1y4,q1y8,q1yc,q1yg,Dt.eval,e,show (qrq (ptsL l) n dd != 0)=true by simpa using h,cond_true]
theorem q3mi (d:Nat) (hd:5000≤d) {l:List T3} (hl:l.length≤1000) {n dd:Int} (hn:i64B n=true) (hdd:i64B dd=true):q20m d ((l,()),(n,dd,()),())=some (q3me l n dd):=by
  have e:=q3mh d hd hl hn hdd
  unfold q3me
  by_cases h:qrq (ptsL l) n dd=0
  · rw [if_neg (by simpa using h)] at e ⊢
    simp only [q20m,q206,q20c,q20g,q20k,Dt.eval,e]
  · rw [if_pos h] at e ⊢
    simp only [q20m,q206,q20c,q20g,q20k,Dt.eval,e]
end Go.Proofs.YtbjpmdhdoggobaaGreat

namespace Go.Proofs.YtbjpmdhdoggobaaGreat
open Go Go.Tx Go.Pel
theorem q3mk (d:Nat) {n dd:Int} (hn:i64B n=true) (hd:i64B dd=true):qnd d ((n,dd,()),())=some (qdm n dd):=qne _ _ (by unfold qnc;simp only [hn,hd,Bool.and_self])
theorem q3ml (d:Nat) {l:List T3} (hl:l.length≤1000) {n dd:Int} (hn:i64B n=true) (hdd:i64B dd=true):qve d ((l,()),(n,dd,()),())=some (qrq (ptsL l) n dd):=by
  rw [qvf _ _ (by unfold qvd;simp only [hn,hdd,Bool.and_self,Bool.true_and,decide_eq_true_eq];rw [qjc];omega)]
def grp:List (List Di)→List Di→List (Bool×Di)→List (List Di)
  | xs,y,[]=>xs ++ [y]
  | xs,y,c :: r=>if c.1=true then grp (xs ++ [y]) [c.2] r else grp xs (y ++ [c.2]) r
def gtD (a b:Int) (g:Dii):Bool:=decide (cmpQ g.1 g.2.1 a b > 0)
def ofG (L:List Di) (G:List Dii) (a b:Int):List (List Di):=match L with | []=>[] | i :: r=>grp [] [i] ((G.map (gtD a b)).zip r)
structure okG (G:List Dii):Prop where
  ok:∀ g∈G,qdm g.1 g.2.1=0∧i64B g.1=true∧i64B g.2.1=true
theorem q3mm (d:Nat) {g:Dii} {a b:Int} (hg:qdm g.1 g.2.1=0∧i64B g.1=true∧i64B g.2.1=true) (ha:i64B a=true) (hb:i64B b=true) (hr:qdm a b=0):q21a d ((g.1,g.2.1,()),(a,b,()),())=some (gtD a b g):=by
  have e:=q3ei d g.1 g.2.1 a b hg.2.1 hg.2.2 ha hb
  have hc:cmpR g.1 g.2.1 a b=(cmpQ g.1 g.2.1 a b,0):=by unfold cmpR;rw [if_pos ⟨hg.1,hr⟩]
  rw [hc] at e
  unfold gtD
  simp only [q21a,q20u,q210,q214,q218,Dt.eval,e]
theorem q3mn (k:Nat) (h:k≤100000):IntKind.wrap .i64 (((k+1:Nat):Int) - (1:Int))=(k:Int):=by rw [IntWalk.i64_in _ (by omega)];omega
theorem q3mo (k:Nat):Nat.beq ((k:Int)).toNat k=true:=Nat.beq_refl k
theorem q3mp {n m:Nat} (h:n+m≤100000):apB n m=true:=by unfold apB;rw [Nat.ble_eq];exact h
theorem q3mq (d:Nat) {G:List Dii} {a b:Int} (hG:okG G) (ha:i64B a=true) (hb:i64B b=true) (hr:qdm a b=0) {L:List Di} (hl:L.length≤64) (hGl:L.length≤G.length+1):∀ (f k:Nat) (xs:List (List Di)) (y:List Di),L.length - (k+1)<f→k+1≤L.length→xs.length≤k→y.length≤k+1 →
    iter (q23z d) f ((L.length:Int),((k+1:Nat):Int),a,b,G,xs,y,L)=some (ql (e:=Ri) (grp xs y (((G.drop k).map (gtD a b)).zip (L.drop (k+1)))),0)
  | 0,k,xs,y,hf,_,_,_=>by omega
  | f + 1, k, xs, y, hf, hk, hx, hy => by
    have ih:=q3mq d hG ha hb hr hl hGl f (k+1)
    rw [iter]
    revert ih
    generalize iter (q23z d) f=self
    intro ih
    unfold q23z q23u
    by_cases hlt:k+1<L.length
    · obtain ⟨x, hx1⟩ : ∃ x, L[k + 1]? = some x := ⟨_, List.getElem?_eq_getElem hlt⟩
      obtain ⟨g,hg1⟩:∃ g,G[k]?=some g:=⟨_,List.getElem?_eq_getElem (by omega)⟩
      have hgo:=hG.ok g (List.mem_of_getElem? hg1)
      have e1:=q3mm d hgo ha hb hr
      have hkG:k<G.length:=by omega
      have c1:decide (((k+1:Nat):Int) > 0)=true:=decide_eq_true (by omega)
      have w1:=q3mn k (by omega)
      have w2:=q3mn xs.length (by omega)
      have w3:=q3fr (show k+1<1000000 by omega)
      have hxs:xs.length<xs.length+1:=Nat.lt_succ_self _
      have hble:Nat.ble (xs ++ [y]).length 90000=true:=by rw [Nat.ble_eq,List.length_append];simp;omega
      have hap:apB y.length 1=true:=q3mp (by omega)
      rw [q3fw hg1,q3fw hx1,List.map_cons,List.zip_cons_cons]
      unfold grp
      cases hc:gtD a b g with
      | true =>
        rw [hc] at e1
        simp only [q23g,q23k,q23o,q23q,q23v,q23s,Dt.eval,q21i,q3fu hlt,cond_true,q3ft hlt,q3fs hx1,c1,w1,q3ft hkG,q3fs hg1,e1,Bool.not_true,cond_false,hble,w3,if_true]
        exact ih (xs ++ [y]) [x] (by omega) (by omega) (by rw [List.length_append];simp;omega) (by simp)
      | false =>
        rw [hc] at e1
        simp only [q23g,q23k,q23o,q23q,q23v,q23s,Dt.eval,q21i,q3fu hlt,cond_true,q3ft hlt,q3fs hx1,c1,w1,q3ft hkG,q3fs hg1,e1,Bool.not_false,cond_false,w2,q3ft hxs,q3mo,List.length_cons,List.length_nil,Nat.zero_add,hap,w3,Bool.false_eq_true,if_false]
        exact ih xs (y ++ [x]) (by omega) (by omega) (by omega) (by rw [List.length_append];simp;omega)
    · have hd1 : L.drop (k + 1) = [] := List.drop_eq_nil_of_le (by omega)
      rw [hd1,List.zip_nil_right]
      unfold grp
      simp only [q23g,q23k,q23o,q23q,q23v,q23s,q23x,Dt.eval,q3fv hlt,cond_false]
      rfl
theorem q3ms (n dd:Int):∀ O:List T3,(gpL n dd O).length=O.length - 1
  | []=>rfl
  | [_]=>rfl
  | p :: q :: r=>by unfold gpL;rw [List.length_cons,q3ms n dd (q :: r)];rfl
theorem q3mt {a b c e:Int} (h1:qdm a b=0) (h2:qdm c e=0) (h:(subV a b c e).2.2=0):qdm (subV a b c e).1 (subV a b c e).2.1=0∧i64B (subV a b c e).1=true∧i64B (subV a b c e).2.1=true:=by
  have hs:subV a b c e=red (c*b - a*e) (b*e)∨subV a b c e=red (a*e - c*b) (b*e):=by
    unfold subV;rw [if_pos ⟨h1,h2⟩];first | exact .inr rfl | exact .inl rfl
  have hp:1≤b*e:=by have:=Int.mul_pos (show 0<b from (qdt h1).1) (show 0<e from (qdt h2).1);omega
  rcases hs with k | k
  · rw [k] at h ⊢
    obtain ⟨r1,_,r3,r4⟩:=q3i6 hp h
    have:=(qdt r1).1
    exact ⟨r1,q3fe r3,q3fe (by omega)⟩
  · rw [k] at h ⊢
    obtain ⟨r1,_,r3,r4⟩:=q3i6 hp h
    have:=(qdt r1).1
    exact ⟨r1,q3fe r3,q3fe (by omega)⟩
theorem q3mu {n dd:Int} (hr:qdm n dd=0):∀ {O:List T3},(∀ p∈O,okP p)→plE n dd O=true→gpE n dd O=true→okG ((gpL n dd O).map dU)
  | [],_,_,_=>⟨fun g hg=>by simp [gpL] at hg⟩
  | [_],_,_,_=>⟨fun g hg=>by simp [gpL] at hg⟩
  | p :: q :: r, hO, hp, hg => by
    have ep:(atQ p n dd).2.2=0:=by have:=List.all_eq_true.1 hp p (List.mem_cons_self ..);simpa using this
    have eq:(atQ q n dd).2.2=0:=by have:=List.all_eq_true.1 hp q (List.mem_cons_of_mem _ (List.mem_cons_self ..));simpa using this
    have cp:qdm (atQ p n dd).1 (atQ p n dd).2.1=0:=by
      rcases q3m2 (hO p (List.mem_cons_self ..)) hr with h | h
      · exact h.2
      · rw [h] at ep;cases ep
    have cq:qdm (atQ q n dd).1 (atQ q n dd).2.1=0:=by
      rcases q3m2 (hO q (List.mem_cons_of_mem _ (List.mem_cons_self ..))) hr with h | h
      · exact h.2
      · rw [h] at eq;cases eq
    have hg':(subV (atQ p n dd).1 (atQ p n dd).2.1 (atQ q n dd).1 (atQ q n dd).2.1).2.2=0∧gpE n dd (q :: r)=true:=by
      unfold gpE gpL at hg
      rw [List.all_cons,Bool.and_eq_true] at hg
      exact ⟨by simpa using hg.1,hg.2⟩
    have hpl:plE n dd (q :: r)=true:=by
      unfold plE at hp ⊢
      rw [List.all_cons,Bool.and_eq_true] at hp
      exact hp.2
    have ih:=q3mu hr (O:=q :: r) (fun x hx=>hO x (List.mem_cons_of_mem _ hx)) hpl hg'.2
    refine ⟨fun g hgm=>?_⟩
    unfold gpL at hgm
    rw [List.map_cons] at hgm
    rcases List.mem_cons.1 hgm with rfl | hgm
    · exact q3mt cp cq hg'.1
    · exact ih.ok g hgm
structure GapOk (l:List T3) (n dd:Int):Prop where
  pl:plE n dd (ordT l n dd)=true
  gp:gpE n dd (ordT l n dd)=true
theorem q3mv {l:List T3} {n dd:Int} (h:(q3m1 l n dd).2.2=0):GapOk l n dd:=by
  unfold q3m1 at h
  split at h
  · rename_i k;rw [Bool.and_eq_true] at k;exact ⟨k.1,k.2⟩
  · cases h
theorem q3mw {l:List T3} {n dd:Int} (h:GapOk l n dd):q3m1 l n dd=((ordT l n dd).map idU,(gpL n dd (ordT l n dd)).map dU,0):=by
  unfold q3m1;rw [h.pl,h.gp];rfl
theorem q3mx {l:List T3} {n dd:Int} (h:(q3m1 l n dd).2.2≠0):q3m1 l n dd=([],[],16):=by
  unfold q3m1 at h ⊢
  split
  · rename_i k;rw [if_pos k] at h;exact absurd rfl h
  · rfl
def ofO (l:List T3) (n dd a b:Int):List (List Di):=ofG ((ordT l n dd).map idU) ((gpL n dd (ordT l n dd)).map dU) a b
def ofW (l:List T3) (n dd a b:Int):List DLiE×Int :=
  if qrq (ptsL l) n dd≠0 then ([],qrq (ptsL l) n dd) else if qdm a b≠0 then ([],8) else if a<0 then ([],2)
  else if (q3m1 l n dd).2.2≠0 then ([],(q3m1 l n dd).2.2) else (ql (e:=Ri) (ofO l n dd a b),0)
theorem q3my {a b:Int} (h:qdm a b≠0):qdm a b=8:=by
  unfold qdm at h ⊢;split<;>simp_all
theorem q3mz (d:Nat) (hd:5000≤d) {l:List T3} (hl:l.length≤1000) {n dd a b:Int} (hn:i64B n=true) (hdd:i64B dd=true) (ha:i64B a=true) (hb:i64B b=true):q243 d ((l,()),(n,dd,()),(a,b,()),())=some (ofW l n dd a b):=by
  have eg:=q3mh d hd hl hn hdd
  have ec:=q3mk d ha hb
  unfold ofW
  by_cases h:qrq (ptsL l) n dd=0
  · obtain ⟨hok, h0, hr⟩ := q3mf h
    have eo:=q3hi d hok.len h0 hn hdd hr
    rw [if_neg (by simpa using h)] at eg ⊢
    by_cases h8:qdm a b=0
    · rw [h8] at ec
      rw [if_neg (by simpa using h8)]
      by_cases hneg:a<0
      · rw [if_pos hneg]
        simp only [q243,q21i,q21o,q21s,q21w,q220,q224,q226,q22a,q22c,Dt.eval,eo,ec,show ((0:Int) != 0)=false from rfl,cond_false,decide_eq_true hneg,cond_true]
      · rw [if_neg hneg]
        by_cases he:(q3m1 l n dd).2.2=0
        · have hG := q3mv he
          rw [if_neg (by simpa using he)]
          rw [q3mw hG] at eg
          have hO:∀ p∈ordT l n dd,okP p:=fun p hp=>hok.ok p ((q3lw l n dd).mem_iff.1 hp)
          have hgo:=q3mu hr hO hG.pl hG.gp
          have hll:=q3lz l n dd
          have hl64:=hok.len
          have hGl:((gpL n dd (ordT l n dd)).map dU).length=(ordT l n dd).length - 1:=by rw [List.length_map,q3ms]
          have hLl:((ordT l n dd).map idU).length=(ordT l n dd).length:=List.length_map _
          unfold ofO
          generalize (gpL n dd (ordT l n dd)).map dU=G at *
          generalize (ordT l n dd).map idU=L at *
          have hpre:=q3mq d hgo ha hb h8 (L:=L) (by omega) (by omega) d 0
          cases L with
          | nil =>
            simp only [q243,q21i,q21o,q21s,q21w,q220,q224,q226,q22a,q22c,q22g,q22k,q22m,q22q,q22u,q22y,q241,Dt.eval,eo,ec,show ((0:Int) != 0)=false from rfl,cond_false,decide_eq_false hneg,eg,List.length_nil]
            rfl
          | cons x r =>
            have hxr:(x :: r).length=r.length+1:=rfl
            have e3:=hpre [] [x] (by omega) (by simp) (Nat.le_refl _) (by simp)
            rw [List.drop_zero,List.drop_succ_cons,List.drop_zero] at e3
            have c0:decide ((0:Int)<((x :: r).length:Int))=true:=decide_eq_true (by rw [List.length_cons];omega)
            have c1:inB (0:Int) (x :: r).length=true:=q3ft (k:=0) (by rw [List.length_cons];omega)
            have c2:elt zi (x :: r) (0:Int).toNat=x:=rfl
            have c3:decide ((0:Int) > 0)=false:=rfl
            have c4:IntKind.wrap .i64 ((0:Int)+1)=((0+1:Nat):Int):=by decide
            have c5:Nat.ble ([]:List (List Di×Unit)).length 90000=true:=rfl
            revert e3 c0 c1
            generalize hzz:(x :: r).length=z
            intro e3 c0 c1
            simp only [q243,q21i,q21o,q21s,q21w,q220,q224,q226,q22a,q22c,q22g,q22k,q22m,q22q,q22u,q22y,q232,q236,q23a,q23c,q240,q4q,Dt.eval,eo,ec,show ((0:Int) != 0)=false from rfl,cond_false,decide_eq_false hneg,eg,hzz,c0,cond_true,c1,c2,c3,c4,c5,List.length_nil]
            exact e3
        · have h16 := q3mx he
          rw [if_pos he]
          rw [h16] at eg ⊢
          simp only [q243,q21i,q21o,q21s,q21w,q220,q224,q226,q22a,q22c,q22g,q22k,q22m,Dt.eval,eo,ec,show ((0:Int) != 0)=false from rfl,cond_false,decide_eq_false hneg,eg,show ((16:Int) != 0)=true from rfl,cond_true]
    · rw [q3my h8] at ec
      rw [if_pos h8]
      simp only [q243,q21i,q21o,q21s,q21w,q220,q224,q226,q22a,q22c,Dt.eval,eo,ec,show ((0:Int) != 0)=false from rfl,cond_false,show ((8:Int) != 0)=true from rfl,cond_true]
  · have eo := q3mg d hl hn hdd h
    rw [if_pos h]
    simp only [q243,q21i,q21o,q21s,q21w,q220,Dt.eval,eo,show (qrq (ptsL l) n dd != 0)=true by simpa using h,cond_true]
theorem q3n1 (d:Nat) (hd:5000≤d) {l:List T3} (hl:l.length≤1000) {n dd a b:Int} (hn:i64B n=true) (hdd:i64B dd=true) (ha:i64B a=true) (hb:i64B b=true):q24r d ((l,()),(n,dd,()),(a,b,()),())=some (((ofW l n dd a b).1.length:Int),(ofW l n dd a b).2):=by
  have e:=q3mz d hd hl hn hdd ha hb
  simp only [q24r,q24b,q24h,q24l,q24p,Dt.eval,e]
end Go.Proofs.YtbjpmdhdoggobaaGreat
