/- Walks of the references; the orders agree; examples. -/
import Derived.Test.YtpfhgnccpiildaaGreatGg
set_option linter.unusedSimpArgs false
set_option linter.unusedVariables false
namespace Go.Pel
open Go Go.Tx
abbrev T3:Type:=Int×Int×Int×Unit
abbrev M4:Type:=Int×Int×Int×Int×Unit
theorem q_lt {a b c d1 d2 d3:Int} (h1:1≤d1) (h2:1≤d2) (h3:1≤d3) (h:a*d2<b*d1) (k:b*d3≤c*d2):a*d3<c*d1:=by
  have e1:a*d3*d2<c*d1*d2:=by
    have:=Int.mul_lt_mul_of_pos_right h (show (0:Int)<d3 by omega)
    have:=Int.mul_le_mul_of_nonneg_right k (show (0:Int)≤d1 by omega)
    rw [Int.mul_right_comm a d3 d2,Int.mul_right_comm c d1 d2]
    have e:b*d1*d3=b*d3*d1:=Int.mul_right_comm b d1 d3
    omega
  exact Int.lt_of_mul_lt_mul_right e1 (by omega)
theorem q2u0 {a b c d1 d2 d3:Int} (h1:1≤d1) (h2:1≤d2) (h3:1≤d3) (h:a*d2≤b*d1) (k:b*d3<c*d2):a*d3<c*d1:=by
  have e1:a*d3*d2<c*d1*d2:=by
    have:=Int.mul_le_mul_of_nonneg_right h (show (0:Int)≤d3 by omega)
    have:=Int.mul_lt_mul_of_pos_right k (show (0:Int)<d1 by omega)
    rw [Int.mul_right_comm a d3 d2,Int.mul_right_comm c d1 d2]
    have e:b*d1*d3=b*d3*d1:=Int.mul_right_comm b d1 d3
    omega
  exact Int.lt_of_mul_lt_mul_right e1 (by omega)
theorem q_eq {a b d1 d2:Int} (h1:qcv a d1=0) (h2:qcv b d2=0) (h:a*d2=b*d1):a=b∧d1=d2:=by
  obtain ⟨p1,_,g1⟩:=qd2 h1
  obtain ⟨p2,_,g2⟩:=qd2 h2
  have hn:a.natAbs*d2.toNat=b.natAbs*d1.toNat:=by
    have:=congrArg Int.natAbs h
    rw [Int.natAbs_mul,Int.natAbs_mul] at this
    rwa [show d2.natAbs=d2.toNat by omega,show d1.natAbs=d1.toNat by omega] at this
  have k1:d1.toNat ∣ d2.toNat:=Nat.Coprime.dvd_of_dvd_mul_left (k:=d1.toNat) (m:=a.natAbs) (n:=d2.toNat) g1 ⟨b.natAbs,by rw [hn,Nat.mul_comm]⟩
  have k2:d2.toNat ∣ d1.toNat:=Nat.Coprime.dvd_of_dvd_mul_left (k:=d2.toNat) (m:=b.natAbs) (n:=d1.toNat) g2 ⟨a.natAbs,by rw [← hn,Nat.mul_comm]⟩
  have e:d1.toNat=d2.toNat:=Nat.dvd_antisymm k1 k2
  have e':d1=d2:=by omega
  subst e'
  exact ⟨Int.eq_of_mul_eq_mul_right (by omega) h,rfl⟩
def okM (x:M4):Prop:=qcv x.1 x.2.1=0
theorem q2u9 {n d:Int} (hd:d≠0) (hn:n.natAbs≤4194304) (hd2:d.natAbs≤4194304):(mk n d).2.2=0∧qcv (mk n d).1 (mk n d).2.1=0∧(mk n d).1.natAbs≤4194304∧(mk n d).2.1≤4194304:=by
  have hg:=qdr (n:=n) hd
  rw [qdq hd]
  have b1:n.natAbs / Nat.gcd n.natAbs d.natAbs≤n.natAbs:=Nat.div_le_self _ _
  have b2:d.natAbs / Nat.gcd n.natAbs d.natAbs≤d.natAbs:=Nat.div_le_self _ _
  have b3:1≤d.natAbs / Nat.gcd n.natAbs d.natAbs:=Nat.div_pos (Nat.gcd_le_right _ (by omega)) hg
  have hc:Nat.gcd (d.natAbs / Nat.gcd n.natAbs d.natAbs) (n.natAbs / Nat.gcd n.natAbs d.natAbs)=1:=by
    rw [Nat.gcd_comm];exact Nat.coprime_div_gcd_div_gcd hg
  generalize n.natAbs / Nat.gcd n.natAbs d.natAbs=A at *
  generalize d.natAbs / Nat.gcd n.natAbs d.natAbs=B at *
  have hno:¬ (0<0∨9223372036854775807<A∨0<0∨9223372036854775807<B):=by omega
  cases (decide (n<0) != decide (d<0)) with
  | true =>
    rw [qdm hno]
    refine ⟨rfl,qcy (by simp only;omega) (by simp only;omega) ?_,by simp only;omega,by simp only;omega⟩
    simp only [Int.toNat_natCast,Int.natAbs_neg,Int.natAbs_natCast];exact hc
  | false =>
    rw [qdn hno]
    refine ⟨rfl,qcy (by simp only;omega) (by simp only;omega) ?_,by simp only;omega,by simp only;omega⟩
    simp only [Int.toNat_natCast,Int.natAbs_natCast];exact hc
def mtP (x:T3×T3):Option M4:=if x.1.2.2.1=x.2.2.2.1 then none else some ((mk (x.1.2.1 - x.2.2.1) (x.2.2.2.1 - x.1.2.2.1)).1,(mk (x.1.2.1 - x.2.2.1) (x.2.2.2.1 - x.1.2.2.1)).2.1,x.1.1,x.2.1,())
def okP (p:T3):Prop:=(ofP p).chk=0
structure FldOk (l:List T3):Prop where
  len:l.length≤64
  ok:∀ p∈l,okP p
  inc:l.Pairwise fun p q=>p.1<q.1
end Go.Pel

namespace Go.Tx
end Go.Tx
namespace Go.Proofs.YtpfhgnccpiildaaGreat
open Go Go.Tx Go.Pel
theorem q2up {a:Int} (h:a.natAbs≤9223372036854775807):i64B a=true:=by
  unfold i64B;simp only [Bool.and_eq_true,decide_eq_true_eq];omega
structure okW (x:M4):Prop where
  ok:okM x
  n:x.1.natAbs≤4194304
  d:x.2.1≤4194304
theorem okW.b1 {x:M4} (h:okW x):i64B x.1=true:=q2up (by have:=h.n;omega)
theorem okW.b2 {x:M4} (h:okW x):i64B x.2.1=true:=q2up (by have:=h.d;have:=(qd2 h.ok).1;omega)
theorem q2ut {p:T3} (h:okP p):0≤p.1∧p.1≤65535∧-1048576≤p.2.1∧p.2.1≤1048576∧-1048576≤p.2.2.1∧p.2.2.1≤1048576:=qdd (show qd9 p.1 p.2.1 p.2.2.1=0 from h)
theorem q2uu (d:Nat) {p q:T3} (hp:okP p) (hq:okP q) (hi:p.1≠q.1):qxu d ((p.1,p.2.1,p.2.2.1,()),(q.1,q.2.1,q.2.2.1,()),()) =
    some (if p.2.2.1=q.2.2.1 then (0,0,6) else ((mk (p.2.1 - q.2.1) (q.2.2.1 - p.2.2.1)).1,(mk (p.2.1 - q.2.1) (q.2.2.1 - p.2.2.1)).2.1,0)):=by
  obtain ⟨_,_,a1,a2,a3,a4⟩:=q2ut hp
  obtain ⟨_,_,b1,b2,b3,b4⟩:=q2ut hq
  have e1:qom d ((p.1,p.2.1,p.2.2.1,()),(q.1,q.2.1,q.2.2.1,()),((0:Int),(1:Int),()),())=some 0:=by
    rw [qon _ _ (by rfl)]
    exact congrArg some (qkq ⟨hp,hq,show qcv 0 1=0 by decide⟩ hi)
  have w1:IntKind.wrap .i64 (p.2.1 - q.2.1)=p.2.1 - q.2.1:=IntWalk.i64_in _ (by omega)
  have w2:IntKind.wrap .i64 (q.2.2.1 - p.2.2.1)=q.2.2.1 - p.2.2.1:=IntWalk.i64_in _ (by omega)
  have e2:qnd d ((p.2.1 - q.2.1,()),(q.2.2.1 - p.2.2.1,()),())=some ((mk (p.2.1 - q.2.1) (q.2.2.1 - p.2.2.1)).1,(mk (p.2.1 - q.2.1) (q.2.2.1 - p.2.2.1)).2.1,(mk (p.2.1 - q.2.1) (q.2.2.1 - p.2.2.1)).2.2) :=
    qne _ _ (by unfold qnc;simp only;rw [q2up (by omega),q2up (by omega)];rfl)
  simp only [qxu,qx2,qx8,qxc,qxg,qxk,qxo,qxq,qxs,Dt.eval,e1,show ((0:Int) != 0)=false from rfl,cond_false]
  by_cases hb:p.2.2.1=q.2.2.1
  · simp only [hb,beq_self_eq_true,cond_true,if_true]
  · have hb' : (p.2.2.1 == q.2.2.1) = false := by simpa using hb
    have h0:=(q2u9 (n:=p.2.1 - q.2.1) (d:=q.2.2.1 - p.2.2.1) (by omega) (by omega) (by omega)).1
    simp only [hb',cond_false,hb,if_false,w1,w2,e2,h0]
    rfl
end Go.Proofs.YtpfhgnccpiildaaGreat

namespace Go.Pel
open Go Go.Tx
def gtM (n dd:Int) (x:M4):Bool:=decide (0<cmpQ x.1 x.2.1 n dd)
theorem q2uv (n dd:Int) (x:M4):gtM n dd x=true↔n*x.2.1<x.1*dd:=by
  unfold gtM cmpQ cmpZ
  rw [decide_eq_true_eq]
  repeat' split
  all_goals omega
end Go.Pel
namespace Go.Proofs.YtpfhgnccpiildaaGreat
open Go Go.Tx Go.Pel
def chk1 (l:List T3) (n dd:Int):Int:=if qfx (ptsL l)≠0 then qfx (ptsL l) else qcv n dd
def chk2 (l:List T3) (n dd n' dd':Int):Int:=if qfx (ptsL l)≠0 then qfx (ptsL l) else if qcv n dd≠0 then qcv n dd else if qcv n' dd'≠0 then qcv n' dd' else if 0<cmpQ n dd n' dd' then 2 else 0
theorem q2v1 {l:List T3} (h:qfx (ptsL l)=0):FldOk l:=by
  obtain ⟨h1,h2,h3⟩:=qg2 h
  rw [qil] at h1
  refine ⟨h1,fun p hp=>h2 _ (List.mem_map_of_mem hp),?_⟩
  rw [List.pairwise_iff_getElem]
  intro i j hi hj hij
  have hg:∀ k (hk:k<l.length),(ptsL l)[k]?=some (ofP l[k]):=fun k hk=>by unfold ptsL;rw [List.getElem?_map,List.getElem?_eq_getElem hk];rfl
  exact qfw h3 hij (hg i hi) (hg j hj)
end Go.Proofs.YtpfhgnccpiildaaGreat

namespace Go.Pel
open Go Go.Tx
end Go.Pel
namespace Go.Proofs.YtpfhgnccpiildaaGreat
open Go Go.Tx Go.Pel
theorem q2v9 (d:Nat) {p q:T3} (hp:okP p) (hq:okP q):q2kp d ((p.1,p.2.1,p.2.2.1,()),(q.1,q.2.1,q.2.2.1,()),())=some ((mk (p.2.1 - q.2.1) (q.2.2.1 - p.2.2.1)).1,(mk (p.2.1 - q.2.1) (q.2.2.1 - p.2.2.1)).2.1):=by
  obtain ⟨_,_,a1,a2,a3,a4⟩:=q2ut hp
  obtain ⟨_,_,b1,b2,b3,b4⟩:=q2ut hq
  have w1:IntKind.wrap .i64 (p.2.1 - q.2.1)=p.2.1 - q.2.1:=IntWalk.i64_in _ (by omega)
  have w2:IntKind.wrap .i64 (q.2.2.1 - p.2.2.1)=q.2.2.1 - p.2.2.1:=IntWalk.i64_in _ (by omega)
  have e2:qnm d ((p.2.1 - q.2.1,()),(q.2.2.1 - p.2.2.1,()),())=some ((mk (p.2.1 - q.2.1) (q.2.2.1 - p.2.2.1)).1,(mk (p.2.1 - q.2.1) (q.2.2.1 - p.2.2.1)).2.1,(mk (p.2.1 - q.2.1) (q.2.2.1 - p.2.2.1)).2.2) :=
    qnn _ _ (by unfold qnl;simp only;rw [q2up (by omega),q2up (by omega)];rfl)
  simp only [q2kp,q2k9,q2kf,q2kj,q2kn,Dt.eval,w1,w2,e2]
theorem q2va {k:Nat} (h:k<1000000):IntKind.wrap .i64 ((k:Int)+1)=((k+1:Nat):Int):=by rw [IntWalk.i64_in _ (by omega)];omega
theorem q2vb {α:Type} {z:α} {l:List α} {k:Nat} {x:α} (h:l[k]?=some x):elt z l (k:Int).toNat=x:=by unfold elt;rw [Int.toNat_natCast,h];rfl
theorem q2vc {k n:Nat} (h:k<n):inB (k:Int) n=true:=q32.2 ⟨by omega,by omega⟩
theorem q2vd {a b:Nat} (h:a<b):decide ((a:Int)<(b:Int))=true:=by rw [decide_eq_true_eq];omega
theorem q2ve {a b:Nat} (h:¬ a<b):decide ((a:Int)<(b:Int))=false:=by rw [decide_eq_false_iff_not];omega
theorem q2vf {α:Type} {l:List α} {k:Nat} {x:α} (h:l[k]?=some x):l.drop k=x :: l.drop (k+1):=by
  obtain ⟨h1,rfl⟩:=List.getElem?_eq_some_iff.1 h
  exact List.drop_eq_getElem_cons h1
end Go.Proofs.YtpfhgnccpiildaaGreat

namespace Go.Proofs.YtpfhgnccpiildaaGreat
open Go Go.Tx Go.Pel
theorem q2vg (d:Nat) {n dd:Int} (hn:i64B n=true) (hd:i64B dd=true):qn4 d ((n,dd,()),())=some (qcv n dd):=qn5 _ _ (by unfold qn3;simp only [hn,hd,Bool.and_self])
theorem q2vh (d:Nat) {n dd n' dd':Int} (hn:i64B n=true) (hd:i64B dd=true) (hn':i64B n'=true) (hd':i64B dd'=true):q1sc d ((n,dd,()),(n',dd',()),())=some (if qcv n dd≠0 then qcv n dd else qcv n' dd'):=by
  have e1:=q2vg d hn hd
  have e2:=q2vg d hn' hd'
  simp only [q1sc,q1ru,q1s0,q1s4,q1s8,q1sa,Dt.eval,e1,e2]
  by_cases h:qcv n dd=0
  · simp only [h,show ((0:Int) != 0)=false from rfl,cond_false,ne_eq,not_true_eq_false,if_false]
  · simp only [show (qcv n dd != 0)=true by simpa using h,cond_true,ne_eq,h,not_false_eq_true,if_true]
theorem q2vk {a:Int} (h:-9223372036854775808≤a∧a≤9223372036854775807):i64B a=true:=by
  unfold i64B;simp only [Bool.and_eq_true,decide_eq_true_eq];exact h
end Go.Proofs.YtpfhgnccpiildaaGreat

namespace Go.Pel
open Go Go.Tx
def leQ (n dd n' dd':Int):Prop:=n*dd'≤n'*dd
theorem q2vp (n dd n' dd':Int):leQ n dd n' dd' ↔ ¬ 0<cmpQ n dd n' dd':=by
  unfold leQ cmpQ cmpZ
  repeat' split
  all_goals omega
theorem q2vq {n dd n' dd':Int} (hd:1≤dd) (hd':1≤dd') (hle:leQ n dd n' dd') {x:M4} (hx:okM x) (h:gtM n' dd' x=true):gtM n dd x=true:=by
  have o1:=(qd2 hx).1
  rw [q2uv] at h ⊢
  exact q2u0 hd hd' o1 hle h
end Go.Pel
namespace Go.Proofs.YtpfhgnccpiildaaGreat
open Go Go.Tx Go.Pel
theorem q2vv {l:List T3} {n dd n' dd':Int} (h:chk2 l n dd n' dd'=0):FldOk l∧qcv n dd=0∧qcv n' dd'=0∧leQ n dd n' dd':=by
  unfold chk2 at h
  by_cases h1:qfx (ptsL l)=0
  · rw [if_neg (by simpa using h1)] at h
    by_cases h2:qcv n dd=0
    · rw [if_neg (by simpa using h2)] at h
      by_cases h3:qcv n' dd'=0
      · rw [if_neg (by simpa using h3)] at h
        by_cases h4:0<cmpQ n dd n' dd'
        · rw [if_pos h4] at h;cases h
        · exact ⟨q2v1 h1,h2,h3,(q2vp ..).2 h4⟩
      · rw [if_pos h3] at h;exact absurd h h3
    · rw [if_pos h2] at h;exact absurd h h2
  · rw [if_pos h1] at h;exact absurd h h1
end Go.Proofs.YtpfhgnccpiildaaGreat

namespace Go.Tx
end Go.Tx
namespace Go.Proofs.YtpfhgnccpiildaaGreat
open Go Go.Tx Go.Pel
theorem q2vy (d:Nat) {p q:T3} (hp:okP p) (hq:okP q) (hi:p.1≠q.1) {n dd:Int} (hn:i64B n=true) (hd:i64B dd=true) (hr:qcv n dd=0):qov d ((p.1,p.2.1,p.2.2.1,()),(q.1,q.2.1,q.2.2.1,()),(n,dd,()),())=some (leads (ofP p) (ofP q) n dd,0):=by
  rw [qow _ _ (by unfold qou;simp only [hn,hd,Bool.and_self])]
  have h:qkn (ofP p) (ofP q) n dd=0:=qkq ⟨hp,hq,hr⟩ hi
  show some ((qks (ofP p) (ofP q) n dd).1,(qks (ofP p) (ofP q) n dd).2)=_
  unfold qks
  rw [if_pos h]
end Go.Proofs.YtpfhgnccpiildaaGreat

namespace Go.Pel
open Go Go.Tx
theorem q2d {α:Type} {L:List α} {f t:Nat} (h1:f<t):((L.take t).drop f)[0]?=L[f]?:=by
  rw [List.getElem?_drop,Nat.add_zero,List.getElem?_take,if_pos h1]
end Go.Pel
namespace Go.Proofs.YtpfhgnccpiildaaGreat
open Go Go.Tx Go.Pel
theorem q2w8 {l:List T3} {n dd n' dd':Int} (h:chk2 l n dd n' dd'=0):qfx (ptsL l)=0:=by
  unfold chk2 at h
  by_cases h1:qfx (ptsL l)=0
  · exact h1
  · rw [if_pos h1] at h;exact absurd h h1
end Go.Proofs.YtpfhgnccpiildaaGreat

namespace Go.Pel
open Go Go.Tx
theorem q2w9 {n d:Int} (hd:d≠0) (hn:n.natAbs≤4194304) (hd2:d.natAbs≤4194304):(mk n d).1*d=n*(mk n d).2.1:=by
  have hg:=qdr (n:=n) hd
  rw [qdq hd]
  have b1:n.natAbs / Nat.gcd n.natAbs d.natAbs≤n.natAbs:=Nat.div_le_self _ _
  have b2:d.natAbs / Nat.gcd n.natAbs d.natAbs≤d.natAbs:=Nat.div_le_self _ _
  have e1:Nat.gcd n.natAbs d.natAbs*(n.natAbs / Nat.gcd n.natAbs d.natAbs)=n.natAbs:=Nat.mul_div_cancel' (Nat.gcd_dvd_left _ _)
  have e2:Nat.gcd n.natAbs d.natAbs*(d.natAbs / Nat.gcd n.natAbs d.natAbs)=d.natAbs:=Nat.mul_div_cancel' (Nat.gcd_dvd_right _ _)
  have e3:=(fun (G A B N D:Nat) (k1:G*A=N) (k2:G*B=D)=>(by subst k1 k2;rw [Nat.mul_left_comm,Nat.mul_assoc]:A*D=N*B)) _ _ _ _ _ e1 e2
  generalize n.natAbs / Nat.gcd n.natAbs d.natAbs=A at *
  generalize d.natAbs / Nat.gcd n.natAbs d.natAbs=B at *
  have e4:(A:Int)*(d.natAbs:Int)=(n.natAbs:Int)*(B:Int):=by exact_mod_cast e3
  have hno:¬ (0<0∨9223372036854775807<A∨0<0∨9223372036854775807<B):=by omega
  by_cases h1:n<0<;>by_cases h2:d<0
  · rw [show (decide (n < 0) != decide (d < 0)) = false by simp [h1, h2], qdn hno]
    rw [show (d.natAbs:Int)=-d by omega,show (n.natAbs:Int)=-n by omega,Int.mul_neg,Int.neg_mul] at e4
    show (A:Int)*d=n*(B:Int)
    omega
  · rw [show (decide (n < 0) != decide (d < 0)) = true by simp [h1, h2], qdm hno]
    rw [show (d.natAbs:Int)=d by omega,show (n.natAbs:Int)=-n by omega,Int.neg_mul] at e4
    show -(A:Int)*d=n*(B:Int)
    rw [Int.neg_mul];omega
  · rw [show (decide (n < 0) != decide (d < 0)) = true by simp [h1, h2], qdm hno]
    rw [show (d.natAbs:Int)=-d by omega,show (n.natAbs:Int)=n by omega,Int.mul_neg] at e4
    show -(A:Int)*d=n*(B:Int)
    rw [Int.neg_mul];omega
  · rw [show (decide (n < 0) != decide (d < 0)) = false by simp [h1, h2], qdn hno]
    rw [show (d.natAbs:Int)=d by omega,show (n.natAbs:Int)=n by omega] at e4
    exact e4
theorem q2wa {F D B X:Int} (hD:0<D) (hB:0<B) (h:F*D=B*X):(0<F↔0<X)∧(F=0↔X=0):=by
  have f:(0<F∧0<F*D)∨(F=0∧F*D=0)∨(F<0∧F*D<0):=by
    rcases (by omega:0<F∨F=0∨F<0) with k | k | k
    · exact .inl ⟨k,Int.mul_pos k hD⟩
    · exact .inr (.inl ⟨k,by rw [k,Int.zero_mul]⟩)
    · exact .inr (.inr ⟨k,Int.mul_neg_of_neg_of_pos k hD⟩)
  have g:(0<X∧0<B*X)∨(X=0∧B*X=0)∨(X<0∧B*X<0):=by
    rcases (by omega:0<X∨X=0∨X<0) with k | k | k
    · exact .inl ⟨k,Int.mul_pos hB k⟩
    · exact .inr (.inl ⟨k,by rw [k,Int.mul_zero]⟩)
    · exact .inr (.inr ⟨k,Int.mul_neg_of_pos_of_neg hB k⟩)
  generalize F*D=U at *
  generalize B*X=V at *
  omega
theorem q2wb {F D B X:Int} (hD:0<D) (hB:B<0) (h:F*D=B*X):(0<F↔X<0)∧(F=0↔X=0):=by
  have:=q2wa (F:=F) (B:=-B) (X:=-X) hD (by omega) (by rw [Int.neg_mul_neg];exact h)
  omega
theorem q2wc {p q:Pt} {n d:Int}:leads p q n d=true↔0<farD p q n d∨(farD p q n d=0∧(q.b<p.b∨(p.b=q.b∧p.id<q.id))):=by
  unfold leads
  by_cases h:farD p q n d=0
  · rw [if_neg (by omega)]
    by_cases hb:p.b=q.b
    · rw [if_neg (by omega),decide_eq_true_eq];omega
    · rw [if_pos hb,decide_eq_true_eq];omega
  · rw [if_pos h,decide_eq_true_eq];omega
theorem q2wd {p:T3} (h:okP p):0≤p.1∧p.1≤65535∧-1048576≤p.2.1∧p.2.1≤1048576∧-1048576≤p.2.2.1∧p.2.2.1≤1048576:=qdd (show qd9 p.1 p.2.1 p.2.2.1=0 from h)
theorem q2we {x:T3×T3} (hp:okP x.1) (hq:okP x.2) {m:M4} (h:mtP x=some m):x.1.2.2.1≠x.2.2.2.1∧okM m∧m.1.natAbs≤4194304∧m.2.1≤4194304∧m.2.2.1=x.1.1∧m.2.2.2.1=x.2.1∧(x.1.2.1 - x.2.2.1)*m.2.1+(x.1.2.2.1 - x.2.2.2.1)*m.1=0:=by
  obtain ⟨_,_,a1,a2,a3,a4⟩:=q2wd hp
  obtain ⟨_,_,b1,b2,b3,b4⟩:=q2wd hq
  unfold mtP at h
  by_cases hb:x.1.2.2.1=x.2.2.2.1
  · rw [if_pos hb] at h;cases h
  · rw [if_neg hb] at h
    injection h with h
    subst h
    obtain ⟨_,h2,h3,h4⟩:=q2u9 (n:=x.1.2.1 - x.2.2.1) (d:=x.2.2.2.1 - x.1.2.2.1) (by omega) (by omega) (by omega)
    have h5:=q2w9 (n:=x.1.2.1 - x.2.2.1) (d:=x.2.2.2.1 - x.1.2.2.1) (by omega) (by omega) (by omega)
    refine ⟨hb,h2,h3,h4,rfl,rfl,?_⟩
    show (x.1.2.1 - x.2.2.1)*(mk (x.1.2.1 - x.2.2.1) (x.2.2.2.1 - x.1.2.2.1)).2.1+(x.1.2.2.1 - x.2.2.2.1)*(mk (x.1.2.1 - x.2.2.1) (x.2.2.2.1 - x.1.2.2.1)).1=0
    rw [← h5,Int.mul_comm (x.1.2.2.1 - x.2.2.2.1),← Int.mul_add,show x.2.2.2.1 - x.1.2.2.1+(x.1.2.2.1 - x.2.2.2.1)=0 by omega,Int.mul_zero]
theorem q2wf {x:T3×T3} (hp:okP x.1) (hq:okP x.2) {m:M4} (h:mtP x=some m) {n dd:Int}:leads (ofP x.1) (ofP x.2) n dd=(if x.2.2.2.1<x.1.2.2.1 then !gtM n dd m else gtM n dd m):=by
  obtain ⟨hb,hm,_,_,_,_,e⟩:=q2we hp hq h
  have hD:=(qd2 hm).1
  have key:farD (ofP x.1) (ofP x.2) n dd*m.2.1=(x.1.2.2.1 - x.2.2.2.1)*(n*m.2.1 - m.1*dd):=by
    show ((x.1.2.1 - x.2.2.1)*dd+(x.1.2.2.1 - x.2.2.2.1)*n)*m.2.1=_
    rw [Int.add_mul,Int.mul_sub,Int.mul_right_comm (x.1.2.1 - x.2.2.1),show (x.1.2.1 - x.2.2.1)*m.2.1=-((x.1.2.2.1 - x.2.2.2.1)*m.1) by omega,Int.neg_mul,Int.mul_assoc,Int.mul_assoc]
    omega
  have hg:=q2uv n dd m
  have hl:=q2wc (p:=ofP x.1) (q:=ofP x.2) (n:=n) (d:=dd)
  have hbb:(ofP x.2).b<(ofP x.1).b↔x.2.2.2.1<x.1.2.2.1:=Iff.rfl
  have hbe:(ofP x.1).b=(ofP x.2).b↔x.1.2.2.1=x.2.2.2.1:=Iff.rfl
  by_cases hlt:x.2.2.2.1<x.1.2.2.1
  · obtain ⟨s1, s2⟩ := q2wa (by omega : 0 < m.2.1) (by omega : 0 < x.1.2.2.1 - x.2.2.2.1) key
    rw [if_pos hlt]
    cases h1:gtM n dd m with
    | true =>
      rw [h1] at hg
      have:=hg.1 rfl
      cases h2:leads (ofP x.1) (ofP x.2) n dd with
      | false=>rfl
      | true=>rw [h2] at hl;have:=hl.1 rfl;omega
    | false =>
      rw [h1] at hg
      have:¬ n*m.2.1<m.1*dd:=fun k=>by cases hg.2 k
      exact hl.2 (by omega)
  · obtain ⟨s1, s2⟩ := q2wb (by omega : 0 < m.2.1) (by omega : x.1.2.2.1 - x.2.2.2.1 < 0) key
    rw [if_neg hlt]
    cases h1:gtM n dd m with
    | true =>
      rw [h1] at hg
      have:=hg.1 rfl
      exact hl.2 (by omega)
    | false =>
      rw [h1] at hg
      have:¬ n*m.2.1<m.1*dd:=fun k=>by cases hg.2 k
      cases h2:leads (ofP x.1) (ofP x.2) n dd with
      | false=>rfl
      | true=>rw [h2] at hl;have:=hl.1 rfl;omega
theorem q2wg {p q:T3} (hb:p.2.2.1=q.2.2.1) {n dd n' dd':Int} (hd:1≤dd) (hd':1≤dd'):leads (ofP p) (ofP q) n dd=leads (ofP p) (ofP q) n' dd':=by
  have f:∀ {n d:Int},1≤d→(0<farD (ofP p) (ofP q) n d↔0<p.2.1 - q.2.1)∧(farD (ofP p) (ofP q) n d=0↔p.2.1 - q.2.1=0):=fun {n d} h=>by
    have e:farD (ofP p) (ofP q) n d=(p.2.1 - q.2.1)*d:=by
      show (p.2.1 - q.2.1)*d+(p.2.2.1 - q.2.2.1)*n=_
      rw [hb,Int.sub_self,Int.zero_mul,Int.add_zero]
    have:=q2wa (F:=p.2.1 - q.2.1) (D:=d) (B:=1) (X:=farD (ofP p) (ofP q) n d) (by omega) (by omega) (by rw [e,Int.one_mul])
    omega
  obtain ⟨f1,f2⟩:=f (n:=n) hd
  obtain ⟨g1,g2⟩:=f (n:=n') hd'
  rw [Bool.eq_iff_iff,q2wc,q2wc]
  have hbb:(ofP p).b=(ofP q).b:=hb
  omega
end Go.Pel
namespace Go.Proofs.YtpfhgnccpiildaaGreat
open Go Go.Tx Go.Pel
end Go.Proofs.YtpfhgnccpiildaaGreat

namespace Go.Pel
open Go Go.Tx
theorem q2wp (p:Pt) (n d:Int):leads p p n d=false:=by
  cases h:leads p p n d with
  | false=>rfl
  | true =>
    have:=q2wc.1 h
    have e:farD p p n d=0:=by unfold farD;rw [Int.sub_self,Int.sub_self,Int.zero_mul,Int.zero_mul];rfl
    omega
theorem q2wq {p q:Pt} {n d:Int} (hi:p.id≠q.id):leads q p n d=!leads p q n d:=by
  have e:farD q p n d=-farD p q n d:=by
    unfold farD
    rw [show q.a - p.a=-(p.a - q.a) by omega,show q.b - p.b=-(p.b - q.b) by omega,Int.neg_mul,Int.neg_mul]
    omega
  have h1:=q2wc (p:=p) (q:=q) (n:=n) (d:=d)
  have h2:=q2wc (p:=q) (q:=p) (n:=n) (d:=d)
  cases k1:leads p q n d<;>cases k2:leads q p n d
  · rw [k1] at h1; rw [k2] at h2
    have a1:¬ (0<farD p q n d∨(farD p q n d=0∧(q.b<p.b∨(p.b=q.b∧p.id<q.id)))):=fun k=>by cases h1.2 k
    have a2:¬ (0<farD q p n d∨(farD q p n d=0∧(p.b<q.b∨(q.b=p.b∧q.id<p.id)))):=fun k=>by cases h2.2 k
    omega
  · rfl
  · rfl
  · have a1 := h1.1 k1
    have a2:=h2.1 k2
    omega
theorem q2wu {l:List T3} (h:FldOk l) {i j:Nat} {p q:T3} (hij:i<j) (hp:l[i]?=some p) (hq:l[j]?=some q):p.1<q.1:=by
  obtain ⟨h1,rfl⟩:=List.getElem?_eq_some_iff.1 hp
  obtain ⟨h2,rfl⟩:=List.getElem?_eq_some_iff.1 hq
  exact (List.pairwise_iff_getElem.1 h.inc) i j h1 h2 hij
theorem q2wx {l:List T3} {P:Pt} (h:P∈ptsL l):∃ p∈l,ofP p=P:=List.mem_map.1 h
theorem q2wz {l:List T3} (h:FldOk l) (h0:qfx (ptsL l)=0) {p:T3} (hp:p∈l):qgf (ptsL l) p.1=(ofP p,0):=by
  have hb:hasB (ptsL l) p.1=true:=by
    unfold hasB
    rw [List.any_eq_true]
    exact ⟨ofP p,List.mem_map_of_mem hp,decide_eq_true rfl⟩
  obtain ⟨_,P,h1,h2⟩:=qge (qg2 h0).2.2 hb
  unfold qgf
  rw [if_neg (by simpa using h0),if_pos hb,List.getD_eq_getElem?_getD,h1]
  unfold ptsL at h1
  rw [List.getElem?_map] at h1
  cases hq:l[lowB (List.map ofP l) p.1]? with
  | none=>rw [hq] at h1;cases h1
  | some q =>
    rw [hq] at h1
    injection h1 with h1
    subst h1
    obtain ⟨i,hi⟩:=List.mem_iff_getElem?.1 hp
    have h2:q.1=p.1:=h2
    rcases (by omega:i<lowB (List.map ofP l) p.1∨i=lowB (List.map ofP l) p.1∨lowB (List.map ofP l) p.1<i) with k | k | k
    · have:=q2wu h k hi hq;omega
    · rw [← k,hi] at hq;injection hq with hq;subst hq;rfl
    · have:=q2wu h k hq hi;omega
end Go.Pel
namespace Go.Proofs.YtpfhgnccpiildaaGreat
open Go Go.Tx Go.Pel
theorem q2x1 (d:Nat) {l:List T3} (hl:l.length≤64) (h0:qfx (ptsL l)=0) {n dd:Int} (hn:i64B n=true) (hd:i64B dd=true) (hr:qcv n dd=0):qwb d ((l,()),(n,dd,()),())=some (unI ((ordI n dd (ptsL l)).map Pt.id),0):=by
  rw [qwc _ _ (by unfold qwa;simp only [hn,hd,Bool.and_self,Bool.true_and,decide_eq_true_eq];rw [qil];omega)]
  have e:quq (ptsL l) n dd=((ordI n dd (ptsL l)).map Pt.id,0):=by unfold quq;rw [if_neg (by simpa using h0),if_neg (by simpa using hr)]
  show some (unI (quq (ptsL l) n dd).1,(quq (ptsL l) n dd).2)=_
  rw [e]
theorem q2x2 (d:Nat) {l:List T3} (h:FldOk l) (h0:qfx (ptsL l)=0) {p:T3} (hp:p∈l):qvk d ((l,()),(p.1,()),())=some (p.1,p.2.1,p.2.2.1,0):=by
  rw [qvl _ _ rfl]
  show some ((qgf (ptsL l) p.1).1.id,(qgf (ptsL l) p.1).1.a,(qgf (ptsL l) p.1).1.b,(qgf (ptsL l) p.1).2)=_
  rw [q2wz h h0 hp]
  rfl
end Go.Proofs.YtpfhgnccpiildaaGreat

namespace Go.Pel
open Go Go.Tx
def Lead (l:List T3) (n dd:Int) (p:T3):Prop:=p∈l∧∀ q∈l,leads (ofP q) (ofP p) n dd=false
theorem q2x3 {l:List T3} (h:FldOk l) {p q:T3} (hp:p∈l) (hq:q∈l) (hi:p.1=q.1):p=q:=by
  obtain ⟨i,hi'⟩:=List.mem_iff_getElem?.1 hp
  obtain ⟨j,hj⟩:=List.mem_iff_getElem?.1 hq
  rcases (by omega:i<j∨i=j∨j<i) with k | k | k
  · have:=q2wu h k hi' hj;omega
  · subst k;rw [hi'] at hj;exact Option.some.inj hj
  · have:=q2wu h k hj hi';omega
theorem Lead.uniq {l:List T3} (h:FldOk l) {n dd:Int} {p q:T3} (hp:Lead l n dd p) (hq:Lead l n dd q):p=q:=by
  by_cases hi:p.1=q.1
  · exact q2x3 h hp.1 hq.1 hi
  · have h1 := hp.2 q hq.1
    have h2:=hq.2 p hp.1
    rw [q2wq (p:=ofP p) (q:=ofP q) hi,h2] at h1
    cases h1
theorem Lead.ahead {l:List T3} (h:FldOk l) {n dd:Int} {p q:T3} (hp:Lead l n dd p) (hq:q∈l) (hne:q.1≠p.1):leads (ofP p) (ofP q) n dd=true:=by
  rw [q2wq (p:=ofP q) (q:=ofP p) hne,hp.2 q hq];rfl
def ldT (l:List T3) (n dd:Int):T3:=toP ((ordI n dd (ptsL l)).headD Pt.zero)
theorem q2x4 {l:List T3} (hl:l ≠ []) (n dd:Int):Lead l n dd (ldT l n dd):=by
  have hp:=qur n dd (ptsL l)
  have hpw:=qut n dd (ptsL l)
  unfold Lead ldT
  cases ho:ordI n dd (ptsL l) with
  | nil =>
    rw [ho] at hp
    have:=hp.length_eq
    rw [qil] at this
    exact absurd (List.eq_nil_of_length_eq_zero this.symm) hl
  | cons P r =>
    rw [ho] at hp hpw
    obtain ⟨p,hpl,rfl⟩:=q2wx (hp.mem_iff.1 (List.mem_cons_self ..))
    show toP (ofP p)∈l∧∀ q∈l,leads (ofP q) (ofP (toP (ofP p))) n dd=false
    rw [show toP (ofP p)=p from rfl]
    refine ⟨hpl,fun q hq=>?_⟩
    have hq2:ofP q∈ofP p :: r:=hp.mem_iff.2 (List.mem_map_of_mem hq)
    rcases List.mem_cons.1 hq2 with e | hr
    · rw [e];exact q2wp _ _ _
    · exact (List.pairwise_cons.1 hpw).1 _ hr
theorem q2x5 {l:List T3} (hl:l ≠ []) (n dd:Int):∃ r,(ordI n dd (ptsL l)).map Pt.id=(ldT l n dd).1 :: r:=by
  have hp:=qur n dd (ptsL l)
  unfold ldT
  cases ho:ordI n dd (ptsL l) with
  | nil =>
    rw [ho] at hp
    have:=hp.length_eq
    rw [qil] at this
    exact absurd (List.eq_nil_of_length_eq_zero this.symm) hl
  | cons P r=>exact ⟨r.map Pt.id,rfl⟩
theorem q2x6 {p q:T3} (hb:p.2.2.1≠q.2.2.1):∃ m,mtP (p,q)=some m:=by
  unfold mtP
  simp only [hb,if_false]
  exact ⟨_,rfl⟩
theorem q2x7 {p q:T3} (hp:okP p) (hq:okP q) {n dd n' dd':Int} (hd:1≤dd) (hd':1≤dd') (hle:leQ n dd n' dd') (hb:¬ p.2.2.1<q.2.2.1) (h:leads (ofP p) (ofP q) n dd=true):leads (ofP p) (ofP q) n' dd'=true:=by
  by_cases he:p.2.2.1=q.2.2.1
  · rw [← q2wg he hd hd'];exact h
  · obtain ⟨m, hm⟩ := q2x6 he
    have k1:=q2wf (x:=(p,q)) hp hq hm (n:=n) (dd:=dd)
    have k2:=q2wf (x:=(p,q)) hp hq hm (n:=n') (dd:=dd')
    simp only [show q.2.2.1<p.2.2.1 by omega,if_true] at k1 k2
    rw [h] at k1
    rw [k2]
    cases hg:gtM n' dd' m with
    | false=>rfl
    | true =>
      rw [q2vq hd hd' hle (q2we (x:=(p,q)) hp hq hm).2.1 hg] at k1
      cases k1
theorem q2x8 {p q:T3} (hp:okP p) (hq:okP q) (hb:p.2.2.1<q.2.2.1) {m:M4} (hm:mtP (p,q)=some m) (n dd:Int):leads (ofP p) (ofP q) n dd=gtM n dd m:=by
  have k1:=q2wf (x:=(p,q)) hp hq hm (n:=n) (dd:=dd)
  simp only [show ¬ q.2.2.1<p.2.2.1 by omega,if_false] at k1
  exact k1
def q2x9 (l:List T3) (p:T3):Prop:=∀ q∈l,¬ p.2.2.1<q.2.2.1
def Nxt (l:List T3) (p:T3) (n dd:Int):Prop:=(∃ q∈l,∃ m,p.2.2.1<q.2.2.1∧mtP (p,q)=some m∧m.1=n∧m.2.1=dd)∧∀ q∈l,∀ m,p.2.2.1<q.2.2.1→mtP (p,q)=some m→¬ m.1*dd<n*m.2.1
theorem Nxt.ok {l:List T3} (h:FldOk l) {p:T3} (hp:p∈l) {n dd:Int} (k:Nxt l p n dd):qcv n dd=0∧n.natAbs≤4194304∧dd≤4194304:=by
  obtain ⟨q,hq,m,hb,hm,rfl,rfl⟩:=k.1
  obtain ⟨_,h1,h2,h3,_⟩:=q2we (x:=(p,q)) (h.ok p hp) (h.ok q hq) hm
  exact ⟨h1,h2,h3⟩
theorem Nxt.uniq {l:List T3} (h:FldOk l) {p:T3} (hp:p∈l) {n dd n' dd':Int} (k:Nxt l p n dd) (k':Nxt l p n' dd'):n=n'∧dd=dd':=by
  obtain ⟨q,hq,m,hb,hm,rfl,rfl⟩:=k.1
  obtain ⟨q',hq',m',hb',hm',rfl,rfl⟩:=k'.1
  have h1:=k.2 q' hq' m' hb' hm'
  have h2:=k'.2 q hq m hb hm
  exact q_eq (q2we (x:=(p,q)) (h.ok p hp) (h.ok q hq) hm).2.1 (q2we (x:=(p,q')) (h.ok p hp) (h.ok q' hq') hm').2.1 (by omega)
theorem Nxt.not {l:List T3} {p:T3} {n dd:Int} (k:Nxt l p n dd) (k':q2x9 l p):False:=by
  obtain ⟨q,hq,m,hb,_⟩:=k.1
  exact k' q hq hb
theorem q2xa {l:List T3} (h:FldOk l) {p:T3} {n dd n' dd':Int} (hd:1≤dd) (hd':1≤dd') (hle:leQ n dd n' dd') (hp:Lead l n dd p) (hmin:∀ q∈l,∀ m,p.2.2.1<q.2.2.1→mtP (p,q)=some m→¬ m.1*dd'<n'*m.2.1) {q:T3} (hq:q∈l):q.2.1*dd'+q.2.2.1*n'≤p.2.1*dd'+p.2.2.1*n':=by
  have hpo:=h.ok p hp.1
  have hqo:=h.ok q hq
  by_cases hi:q.1=p.1
  · rw [q2x3 h hq hp.1 hi];exact Int.le_refl _
  · have ha := hp.ahead h hq hi
    by_cases hb:p.2.2.1<q.2.2.1
    · obtain ⟨m, hm⟩ := q2x6 (p := p) (q := q) (by omega)
      have k:=hmin q hq m hb hm
      obtain ⟨_,hmo,_,_,_,_,e⟩:=q2we (x:=(p,q)) hpo hqo hm
      have hl:=q2x8 hpo hqo hb hm n' dd'
      cases hg:gtM n' dd' m with
      | true =>
        rw [hg] at hl
        rcases (qup ..).1 hl with k1 | ⟨k1,k2⟩
        · have : q.2.1 * dd' + q.2.2.1 * n' < p.2.1 * dd' + p.2.2.1 * n' := k1
          omega
        · have : q.2.1 * dd' + q.2.2.1 * n' = p.2.1 * dd' + p.2.2.1 * n' := k1
          omega
      | false =>
        -- the meeting is at the time itself
        have hg':¬ n'*m.2.1<m.1*dd':=fun k=>by rw [(q2uv n' dd' m).2 k] at hg;cases hg
        have hD:=(qd2 hmo).1
        have key:farD (ofP p) (ofP q) n' dd'*m.2.1=(p.2.2.1 - q.2.2.1)*(n'*m.2.1 - m.1*dd'):=by
          show ((p.2.1 - q.2.1)*dd'+(p.2.2.1 - q.2.2.1)*n')*m.2.1=_
          simp only at e
          rw [Int.add_mul,Int.mul_sub,Int.mul_right_comm (p.2.1 - q.2.1),show (p.2.1 - q.2.1)*m.2.1=-((p.2.2.1 - q.2.2.1)*m.1) by omega,Int.neg_mul,Int.mul_assoc,Int.mul_assoc]
          omega
        rw [show n'*m.2.1 - m.1*dd'=0 by omega,Int.mul_zero] at key
        have hz:farD (ofP p) (ofP q) n' dd'=0:=by
          rcases Int.mul_eq_zero.1 key with k | k
          · exact k
          · omega
        have:farD (ofP p) (ofP q) n' dd'=(p.2.1*dd'+p.2.2.1*n') - (q.2.1*dd'+q.2.2.1*n'):=by
          show (p.2.1 - q.2.1)*dd'+(p.2.2.1 - q.2.2.1)*n'=_
          rw [Int.sub_mul,Int.sub_mul];omega
        omega
    · have hl := q2x7 hpo hqo hd hd' hle hb ha
      rcases (qup ..).1 hl with k1 | ⟨k1,k2⟩
      · have : q.2.1 * dd' + q.2.2.1 * n' < p.2.1 * dd' + p.2.2.1 * n' := k1
        omega
      · have : q.2.1 * dd' + q.2.2.1 * n' = p.2.1 * dd' + p.2.2.1 * n' := k1
        omega
theorem q2xb {p q:T3} (hp:okP p) (hq:okP q) {m:M4} (hm:mtP (p,q)=some m):q.2.1*m.2.1+q.2.2.1*m.1=p.2.1*m.2.1+p.2.2.1*m.1:=by
  obtain ⟨_,_,_,_,_,_,e⟩:=q2we (x:=(p,q)) hp hq hm
  simp only at e
  rw [Int.sub_mul,Int.sub_mul] at e
  omega
theorem q2xc {l:List T3} (h:FldOk l) {p q:T3} {n dd:Int} (hp:Lead l n dd p) (hq:q∈l) (hb:p.2.2.1<q.2.2.1) {m:M4} (hm:mtP (p,q)=some m):gtM n dd m=true:=by
  have hi:q.1≠p.1:=fun hi=>by rw [q2x3 h hq hp.1 hi] at hb;omega
  rw [← q2x8 (h.ok p hp.1) (h.ok q hq) hb hm]
  exact hp.ahead h hq hi
theorem q2xd {n dd:Int} {m:M4} (h:gtM n dd m=true):leQ n dd m.1 m.2.1:=by have:=(q2uv n dd m).1 h;unfold leQ;omega
theorem q2xe {l:List T3} (h:FldOk l) {p b:T3} {n dd:Int} (hd:1≤dd) (hp:Lead l n dd p) (hb:b∈l) (hf:p.2.2.1<b.2.2.1) {m:M4} (hm:mtP (p,b)=some m)
    (hbest:∀ q∈l,∀ m',p.2.2.1<q.2.2.1→mtP (p,q)=some m'→¬ (m'.1*m.2.1<m.1*m'.2.1∨(m'.1*m.2.1=m.1*m'.2.1∧leads (ofP q) (ofP b) m.1 m.2.1=true))):Nxt l p m.1 m.2.1∧Lead l m.1 m.2.1 b:=by
  have hpo:=h.ok p hp.1
  have hbo:=h.ok b hb
  obtain ⟨_,hmo,_⟩:=q2we (x:=(p,b)) hpo hbo hm
  have hD:=(qd2 hmo).1
  have hmin:∀ q∈l,∀ m',p.2.2.1<q.2.2.1→mtP (p,q)=some m'→¬ m'.1*m.2.1<m.1*m'.2.1:=fun q hq m' h1 h2 k=>hbest q hq m' h1 h2 (.inl k)
  refine ⟨⟨⟨b,hb,m,hf,hm,rfl,rfl⟩,hmin⟩,hb,fun q hq=>?_⟩
  have hle:=q2xd (q2xc h hp hb hf hm)
  have hfar:=q2xa h hd hD hle hp hmin hq
  have hpl:=q2xb hpo hbo hm
  cases hl:leads (ofP q) (ofP b) m.1 m.2.1 with
  | false=>rfl
  | true =>
    have k0:=(qup ..).1 hl
    have k:(b.2.1*m.2.1+b.2.2.1*m.1<q.2.1*m.2.1+q.2.2.1*m.1)∨(b.2.1*m.2.1+b.2.2.1*m.1=q.2.1*m.2.1+q.2.2.1*m.1∧(b.2.2.1<q.2.2.1∨(b.2.2.1=q.2.2.1∧q.1<b.1))):=k0
    have hfq:p.2.2.1<q.2.2.1:=by omega
    obtain ⟨m',hm'⟩:=q2x6 (p:=p) (q:=q) (by omega)
    have hqo:=h.ok q hq
    obtain ⟨_,hmo',_,_,_,_,e⟩:=q2we (x:=(p,q)) hpo hqo hm'
    -- q is met at the same time
    have h1:=hmin q hq m' hfq hm'
    have h2:=hbest q hq m' hfq hm'
    have hst:=q2x8 hpo hqo hfq hm' m.1 m.2.1
    have hg:gtM m.1 m.2.1 m'=false:=by
      cases hg:gtM m.1 m.2.1 m' with
      | false=>rfl
      | true =>
        rw [hg] at hst
        have k1:=(qup ..).1 hst
        have k2:(q.2.1*m.2.1+q.2.2.1*m.1<p.2.1*m.2.1+p.2.2.1*m.1)∨(q.2.1*m.2.1+q.2.2.1*m.1=p.2.1*m.2.1+p.2.2.1*m.1∧(q.2.2.1<p.2.2.1∨(q.2.2.1=p.2.2.1∧p.1<q.1))):=k1
        omega
    have hg':¬ m.1*m'.2.1<m'.1*m.2.1:=fun k=>by rw [(q2uv m.1 m.2.1 m').2 k] at hg;cases hg
    exact absurd (.inr ⟨by omega,hl⟩) h2
inductive Crest (l:List T3):T3→Int→Int→List T3→Prop
  | last (p:T3) (n dd:Int):q2x9 l p→Crest l p n dd [(n,dd,p.1,())]
  | next (p:T3) (n dd n' dd':Int) (p':T3) (r:List T3):Nxt l p n' dd'→Lead l n' dd' p'→Crest l p' n' dd' r→Crest l p n dd ((n,dd,p.1,()) :: r)
theorem Crest.uniq {l:List T3} (h:FldOk l) {p:T3} {n dd:Int} {a b:List T3} (ha:Crest l p n dd a) (hp:p∈l) (hb:Crest l p n dd b):a=b:=by
  induction ha generalizing b with
  | last p n dd hn =>
    cases hb with
    | last _ _ _ _=>rfl
    | next _ _ _ n' dd' p' r h1 _ _=>exact (h1.not hn).elim
  | next p n dd n' dd' p' r h1 h2 _ ih =>
    cases hb with
    | last _ _ _ hn=>exact (h1.not hn).elim
    | next _ _ _ n'' dd'' p'' r' k1 k2 k3 =>
      obtain ⟨rfl,rfl⟩:=h1.uniq h hp k1
      obtain rfl:=h2.uniq h k2
      rw [ih h2.1 k3]
theorem Crest.head {l:List T3} {p:T3} {n dd:Int} {a:List T3} (ha:Crest l p n dd a):∃ r,a=(n,dd,p.1,()) :: r:=by
  cases ha with
  | last _ _ _ _=>exact ⟨_,rfl⟩
  | next _ _ _ _ _ _ r _ _ _=>exact ⟨r,rfl⟩
theorem q2xf {l:List T3} (h:FldOk l) {p p':T3} {n dd n' dd':Int} (hd:1≤dd) (hp:Lead l n dd p) (h1:Nxt l p n' dd') (h2:Lead l n' dd' p'):p.2.2.1<p'.2.2.1:=by
  obtain ⟨q,hq,m,hb,hm,rfl,rfl⟩:=h1.1
  have hpo:=h.ok p hp.1
  have hqo:=h.ok q hq
  have hmo:=(q2we (x:=(p,q)) hpo hqo hm).2.1
  have hD:=(qd2 hmo).1
  have hle:=q2xd (q2xc h hp hq hb hm)
  have hfar:=q2xa h hd hD hle hp h1.2 h2.1
  have hpl:=q2xb hpo hqo hm
  have hl:=h2.2 q hq
  have k:¬ ((p'.2.1*m.2.1+p'.2.2.1*m.1<q.2.1*m.2.1+q.2.2.1*m.1)∨(p'.2.1*m.2.1+p'.2.2.1*m.1=q.2.1*m.2.1+q.2.2.1*m.1∧(p'.2.2.1<q.2.2.1∨(p'.2.2.1=q.2.2.1∧q.1<p'.1)))):=qus hl
  omega
def q2xg (l:List T3) (p:T3):Nat:=l.countP fun q=>decide (p.2.2.1<q.2.2.1)
theorem q2xh {l:List T3} {p p':T3} (hp:p'∈l) (hb:p.2.2.1<p'.2.2.1):q2xg l p'<q2xg l p:=by
  unfold q2xg
  induction l with
  | nil=>cases hp
  | cons x xs ih =>
    rw [List.countP_cons,List.countP_cons]
    have hmono:xs.countP (fun q=>decide (p'.2.2.1<q.2.2.1))≤xs.countP (fun q=>decide (p.2.2.1<q.2.2.1)):=List.countP_mono_left fun q _ hq=>by
      rw [decide_eq_true_eq] at hq ⊢;omega
    rcases List.mem_cons.1 hp with rfl | hp
    · rw [if_neg (by rw [decide_eq_true_eq];omega),if_pos (by rw [decide_eq_true_eq];omega)];omega
    · have := ih hp
      by_cases h1:p'.2.2.1<x.2.2.1
      · rw [if_pos (by rw [decide_eq_true_eq];omega),if_pos (by rw [decide_eq_true_eq];omega)];omega
      · rw [if_neg (by rw [decide_eq_true_eq]; omega)]
        split<;>omega
theorem q2xi (l:List T3) (p:T3):q2xg l p≤l.length:=List.countP_le_length
theorem Crest.len {l:List T3} (h:FldOk l) {p:T3} {n dd:Int} {a:List T3} (ha:Crest l p n dd a) (hr:qcv n dd=0) (hp:Lead l n dd p):a.length≤q2xg l p+1:=by
  induction ha with
  | last p n dd hn=>simp
  | next p n dd n' dd' p' r h1 h2 _ ih =>
    have:=ih (h1.ok h hp.1).1 h2
    have:=q2xh h2.1 (q2xf h (qd2 hr).1 hp h1 h2)
    rw [List.length_cons];omega
end Go.Pel

namespace Go.Pel
open Go Go.Tx
def okL (x:T3):Bool:=decide (qcv x.1 x.2.1=0)&&decide (0≤x.2.2.1)&&decide (x.2.2.1≤65535)
theorem q2xl {x:T3}:okL x=true↔qcv x.1 x.2.1=0∧0≤x.2.2.1∧x.2.2.1≤65535:=by
  unfold okL
  simp only [Bool.and_eq_true,decide_eq_true_eq,and_assoc]
def nxB (x y:T3):Bool:=decide (cmpQ x.1 x.2.1 y.1 y.2.1<0)&&decide (x.2.2.1≠y.2.2.1)
theorem q2xm {x y:T3}:nxB x y=true↔x.1*y.2.1<y.1*x.2.1∧x.2.2.1≠y.2.2.1:=by
  unfold nxB cmpQ cmpZ
  simp only [Bool.and_eq_true,decide_eq_true_eq]
  repeat' split
  all_goals omega
def chkR:Option T3→List T3→Bool
  | _,[]=>true
  | o,x :: r=>okL x&&(match o with | none=>true | some y=>nxB y x)&&chkR (some x) r
def chkL (a:List T3):Int:=if a.length<1∨300<a.length then 8 else if chkR none a=true then 0 else 8
theorem q2xn {a:List T3} (h:chkL a=0):1≤a.length∧a.length≤300∧chkR none a=true:=by
  unfold chkL at h
  split at h
  · cases h
  · split at h
    · next k=>exact ⟨by omega,by omega,k⟩
    · cases h
theorem q2xo:∀ {o:Option T3} {a:List T3},chkR o a=true→(∀ x∈a,okL x=true)∧(a.Pairwise fun x y=>x.1*y.2.1<y.1*x.2.1)∧(∀ y,o=some y→okL y=true→∀ x∈a,y.1*x.2.1<x.1*y.2.1)
  | o,[],_=>⟨fun x h=>(by cases h),List.Pairwise.nil,fun y _ _ x h=>(by cases h)⟩
  | o, x :: r, h => by
    unfold chkR at h
    simp only [Bool.and_eq_true] at h
    obtain ⟨⟨h1,h2⟩,h3⟩:=h
    obtain ⟨k1,k2,k3⟩:=q2xo h3
    refine ⟨fun y hy=>?_,List.pairwise_cons.2 ⟨fun y hy=>k3 x rfl h1 y hy,k2⟩,fun y hy hyo z hz=>?_⟩
    · rcases List.mem_cons.1 hy with rfl | hy
      · exact h1
      · exact k1 y hy
    · subst hy
      have hyx:=(q2xm.1 h2).1
      rcases List.mem_cons.1 hz with rfl | hz
      · exact hyx
      · have o1 := (qd2 (q2xl.1 hyo).1).1
        have o2:=(qd2 (q2xl.1 h1).1).1
        have o3:=(qd2 (q2xl.1 (k1 z hz)).1).1
        have:=k3 x rfl h1 z hz
        exact q_lt o1 o2 o3 hyx (by omega)
theorem q2xu {l:List T3} (h:FldOk l) {p:T3} (hp:p∈l):0≤p.1∧p.1≤65535:=by
  have:=q2wd (h.ok p hp);omega
theorem q2xv {l:List T3} (h:FldOk l) {p:T3} {n dd:Int} {a:List T3} (ha:Crest l p n dd a) (hr:qcv n dd=0) (hp:Lead l n dd p) (o:Option T3) (ho:∀ y,o=some y→nxB y (n,dd,p.1,())=true):chkR o a=true:=by
  induction ha generalizing o with
  | last p n dd hn =>
    unfold chkR chkR
    simp only [Bool.and_eq_true,Bool.and_true]
    refine ⟨q2xl.2 ⟨hr,q2xu h hp.1⟩,?_⟩
    cases o with
    | none=>rfl
    | some y=>exact ho y rfl
  | next p n dd n' dd' p' r h1 h2 _ ih =>
    unfold chkR
    simp only [Bool.and_eq_true]
    refine ⟨⟨q2xl.2 ⟨hr,q2xu h hp.1⟩,?_⟩,ih (h1.ok h hp.1).1 h2 _ fun y hy=>?_⟩
    · cases o with
      | none=>rfl
      | some y=>exact ho y rfl
    · injection hy with hy
      subst hy
      have hf:=q2xf h (qd2 hr).1 hp h1 h2
      rw [q2xm]
      refine ⟨?_,fun e=>?_⟩
      · obtain ⟨q, hq, m, hb, hm, rfl, rfl⟩ := h1.1
        exact (q2uv n dd m).1 (q2xc h hp hq hb hm)
      · rw [q2x3 h hp.1 h2.1 e] at hf;omega
theorem q2xw {l:List T3} (h:FldOk l) {p:T3} {n dd:Int} {a:List T3} (ha:Crest l p n dd a) (hr:qcv n dd=0) (hp:Lead l n dd p):chkL a=0:=by
  have h1:=ha.len h hr hp
  have h2:=q2xi l p
  have h3:=h.len
  obtain ⟨r,rfl⟩:=ha.head
  unfold chkL
  rw [if_neg (by rw [List.length_cons] at h1 ⊢;omega),if_pos (q2xv h ha hr hp none fun y hy=>by cases hy)]
end Go.Pel

namespace Go.Pel
open Go Go.Tx
def q2y0 (l:List T3) (p:T3) (i:Nat) (b:T3) (a1 a2:Int):Prop :=
  (a2=0∧∀ k q,k<i→l[k]?=some q→¬ p.2.2.1<q.2.2.1) ∨
  (∃ m:M4,m.1=a1∧m.2.1=a2∧okM m∧m.1.natAbs≤4194304∧m.2.1≤4194304∧(∃ j,j<i∧l[j]?=some b)∧p.2.2.1<b.2.2.1∧mtP (p,b)=some m∧∀ k q m',k<i→l[k]?=some q→p.2.2.1<q.2.2.1→mtP (p,q)=some m'→¬ (m'.1*m.2.1<m.1*m'.2.1∨(m'.1*m.2.1=m.1*m'.2.1∧leads (ofP q) (ofP b) m.1 m.2.1=true)))
theorem q2y0.skip {l:List T3} {p:T3} {i:Nat} {b:T3} {a1 a2:Int} (h:q2y0 l p i b a1 a2) {q:T3} (hq:l[i]?=some q) (hs:¬ p.2.2.1<q.2.2.1):q2y0 l p (i+1) b a1 a2:=by
  rcases h with ⟨h1,h2⟩ | ⟨m,h1,h2,h3,h4,h5,⟨j,h6,h7⟩,h8,h9,h10⟩
  · refine .inl ⟨h1, fun k x hk hx => ?_⟩
    rcases (by omega:k<i∨k=i) with k' | rfl
    · exact h2 k x k' hx
    · rw [hq] at hx;injection hx with hx;subst hx;exact hs
  · refine .inr ⟨m, h1, h2, h3, h4, h5, ⟨j, by omega, h7⟩, h8, h9, fun k x m' hk hx hf => ?_⟩
    rcases (by omega:k<i∨k=i) with k' | rfl
    · exact h10 k x m' k' hx hf
    · rw [hq] at hx;injection hx with hx;subst hx;exact absurd hf hs
theorem q2y0.first {l:List T3} (h:FldOk l) {p:T3} (hp:p∈l) {i:Nat} {b:T3} {a1:Int} (hB:q2y0 l p i b a1 0) {q:T3} (hq:l[i]?=some q) (hf:p.2.2.1<q.2.2.1) {m:M4} (hm:mtP (p,q)=some m):q2y0 l p (i+1) q m.1 m.2.1:=by
  obtain ⟨_,g1,g2,g3,_⟩:=q2we (x:=(p,q)) (h.ok p hp) (h.ok q (List.mem_of_getElem? hq)) hm
  rcases hB with ⟨_,h2⟩ | ⟨m',_,h2,h3,_⟩
  · refine .inr ⟨m, rfl, rfl, g1, g2, g3, ⟨i, by omega, hq⟩, hf, hm, fun k x m' hk hx hfx hm' => ?_⟩
    rcases (by omega:k<i∨k=i) with k' | rfl
    · exact absurd hfx (h2 k x k' hx)
    · rw [hq] at hx; injection hx with hx; subst hx
      rw [hm] at hm';injection hm' with hm';subst hm'
      rw [q2wp]
      rintro (k | ⟨_,k⟩)
      · omega
      · cases k
  · have:=(qd2 h3).1;omega
theorem q2y0.take {l:List T3} (h:FldOk l) {p:T3} (hp:p∈l) {i:Nat} {b:T3} {a1 a2:Int} (ha:0<a2) (hB:q2y0 l p i b a1 a2) {q:T3} (hq:l[i]?=some q) (hf:p.2.2.1<q.2.2.1) {m:M4} (hm:mtP (p,q)=some m) (hR:m.1*a2<a1*m.2.1∨(m.1*a2=a1*m.2.1∧leads (ofP q) (ofP b) m.1 m.2.1=true)):q2y0 l p (i+1) q m.1 m.2.1:=by
  have hqo:=h.ok q (List.mem_of_getElem? hq)
  have hpo:=h.ok p hp
  obtain ⟨_,g1,g2,g3,_⟩:=q2we (x:=(p,q)) hpo hqo hm
  rcases hB with ⟨h1,_⟩ | ⟨mb,rfl,rfl,h3,_,_,⟨j,h6,h7⟩,h8,h9,h10⟩
  · omega
  · have oD := (qd2 g1).1
    have oB:=(qd2 h3).1
    refine .inr ⟨m,rfl,rfl,g1,g2,g3,⟨i,by omega,hq⟩,hf,hm,fun k x m' hk hx hfx hm'=>?_⟩
    rcases (by omega:k<i∨k=i) with k' | rfl
    · have hxo := h.ok x (List.mem_of_getElem? hx)
      have gx:=(q2we (x:=(p,x)) hpo hxo hm').2.1
      have oX:=(qd2 gx).1
      have hno:=h10 k x m' k' hx hfx hm'
      rintro (k1 | ⟨k1,k2⟩)
      · -- x is met before q, which is not behind b
        have:m'.1*mb.2.1<mb.1*m'.2.1:=q_lt oX oD oB k1 (by omega)
        exact hno (.inl this)
      · rcases hR with hR | ⟨hR, hR2⟩
        · have : m'.1 * mb.2.1 < mb.1 * m'.2.1 := q2u0 oX oD oB (by omega) hR
          exact hno (.inl this)
        · -- all three at the same time
          obtain ⟨e1,e2⟩:=q_eq g1 h3 hR
          obtain ⟨e3,e4⟩:=q_eq gx g1 k1
          refine hno (.inr ⟨by rw [e3,e4,e1,e2],?_⟩)
          rw [← e1,← e2,qup]
          have k3:=(qup ..).1 hR2
          have k4:=(qup ..).1 k2
          omega
    · rw [hq] at hx; injection hx with hx; subst hx
      rw [hm] at hm';injection hm' with hm';subst hm'
      rw [q2wp]
      rintro (k | ⟨_,k⟩)
      · omega
      · cases k
theorem q2y0.keep {l:List T3} (h:FldOk l) {p:T3} (hp:p∈l) {i:Nat} {b:T3} {a1 a2:Int} (ha:0<a2) (hB:q2y0 l p i b a1 a2) {q:T3} (hq:l[i]?=some q) (hf:p.2.2.1<q.2.2.1) {m:M4} (hm:mtP (p,q)=some m) (hR:¬ (m.1*a2<a1*m.2.1∨(m.1*a2=a1*m.2.1∧leads (ofP q) (ofP b) m.1 m.2.1=true))):q2y0 l p (i+1) b a1 a2:=by
  have g1:=(q2we (x:=(p,q)) (h.ok p hp) (h.ok q (List.mem_of_getElem? hq)) hm).2.1
  rcases hB with ⟨h1,_⟩ | ⟨mb,rfl,rfl,h3,h4,h5,⟨j,h6,h7⟩,h8,h9,h10⟩
  · omega
  · refine .inr ⟨mb, rfl, rfl, h3, h4, h5, ⟨j, by omega, h7⟩, h8, h9, fun k x m' hk hx hfx hm' => ?_⟩
    rcases (by omega:k<i∨k=i) with k' | rfl
    · exact h10 k x m' k' hx hfx hm'
    · rw [hq] at hx; injection hx with hx; subst hx
      rw [hm] at hm';injection hm' with hm';subst hm'
      rintro (k1 | ⟨k1,k2⟩)
      · exact hR (.inl k1)
      · obtain ⟨e1, e2⟩ := q_eq g1 h3 k1
        exact hR (.inr ⟨k1,by rw [e1,e2];exact k2⟩)
theorem q2y0.zero (l:List T3) (p b:T3) (a1:Int):q2y0 l p 0 b a1 0:=.inl ⟨rfl,fun k q hk=>by omega⟩
theorem q2y0.none {l:List T3} {p b:T3} {a1:Int} (h:q2y0 l p l.length b a1 0):q2x9 l p:=by
  rcases h with ⟨_,h2⟩ | ⟨m,_,h2,h3,_⟩
  · intro q hq
    obtain ⟨k,hk⟩:=List.mem_iff_getElem?.1 hq
    exact h2 k q (List.getElem?_eq_some_iff.1 hk).1 hk
  · have:=(qd2 h3).1;omega
theorem q2y0.some {l:List T3} (hl:FldOk l) {p b:T3} {n dd a1 a2:Int} (hd:1≤dd) (hp:Lead l n dd p) (ha:a2≠0) (h:q2y0 l p l.length b a1 a2):Nxt l p a1 a2∧Lead l a1 a2 b:=by
  rcases h with ⟨h1,_⟩ | ⟨m,rfl,rfl,_,_,_,⟨j,_,h7⟩,h8,h9,h10⟩
  · exact absurd h1 ha
  · refine q2xe hl hd hp (List.mem_of_getElem? h7) h8 h9 fun q hq m' hf hm' => ?_
    obtain ⟨k,hk⟩:=List.mem_iff_getElem?.1 hq
    exact h10 k q m' (List.getElem?_eq_some_iff.1 hk).1 hk hf hm'
end Go.Pel
namespace Go.Proofs.YtpfhgnccpiildaaGreat
open Go Go.Tx Go.Pel
theorem q2y1 (d:Nat) (n1 d1 n2 d2:Int) (h1:i64B n1=true) (h2:i64B d1=true) (h3:i64B n2=true) (h4:i64B d2=true):q282 d ((n1,d1,()),(n2,d2,()),())=some (cmpR n1 d1 n2 d2).1:=by
  have e:=q2tv d n1 d1 n2 d2 h1 h2 h3 h4
  simp only [q282,q27m,q27s,q27w,q280,Dt.eval,e]
theorem q2y2 (d:Nat) {p q:T3} (hp:okP p) (hq:okP q) {n dd:Int} (hn:i64B n=true) (hd:i64B dd=true) (hr:qcv n dd=0) (hl:leads (ofP q) (ofP p) n dd=false):q27e d ((p.1,p.2.1,p.2.2.1,()),(q.1,q.2.1,q.2.2.1,()),(n,dd,()),()) =
    some (if p.1=q.1 then (0,0,false,2) else if p.2.2.1<q.2.2.1 then ((mk (p.2.1 - q.2.1) (q.2.2.1 - p.2.2.1)).1,(mk (p.2.1 - q.2.1) (q.2.2.1 - p.2.2.1)).2.1,true,0) else (0,0,false,0)):=by
  have e1:qom d ((p.1,p.2.1,p.2.2.1,()),(q.1,q.2.1,q.2.2.1,()),(n,dd,()),())=some (if p.1=q.1 then 2 else 0):=by
    rw [qon _ _ (by unfold qol;simp only [hn,hd,Bool.and_self])]
    refine congrArg some ?_
    show qkn (ofP p) (ofP q) n dd=_
    unfold qkn
    rw [if_pos ⟨hp,hq,hr⟩]
    rfl
  have e2:qv2 d ((q.1,q.2.1,q.2.2.1,()),(p.1,p.2.1,p.2.2.1,()),(n,dd,()),())=some (cmpC (ofP q) (ofP p) n dd) :=
    qv3 _ _ (qm6 (qle (p:=ofP q) (q:=ofP p) hq hp hr (qiq hn) (qiq hd)))
  have e3:decide (cmpC (ofP q) (ofP p) n dd > 0)=false:=by rw [← hl];exact qkm ..
  simp only [q27e,q26c,q26i,q26m,q26q,q26u,q26y,q270,q274,q276,q27a,q27c,Dt.eval,e1]
  by_cases hi:p.1=q.1
  · simp only [hi,if_true,show ((2:Int) != 0)=true from rfl,cond_true]
  · simp only [hi, if_false, show ((0 : Int) != 0) = false from rfl, cond_false, e2, e3, Dt.eval]
    by_cases hb:p.2.2.1<q.2.2.1
    · have e4 := q2uu d hp hq hi
      rw [if_neg (show ¬ p.2.2.1=q.2.2.1 by omega)] at e4
      simp only [show decide (q.2.2.1≤p.2.2.1)=false by rw [decide_eq_false_iff_not];omega,cond_false,e4,Dt.eval,hb,if_true,show ((0:Int) == 0)=true from rfl]
    · simp only [show decide (q.2.2.1≤p.2.2.1)=true by rw [decide_eq_true_eq];omega,cond_true,hb,if_false]
set_option maxHeartbeats 4000000 in
theorem q2y3 (d:Nat) {l:List T3} (h:FldOk l) {p:T3} {n dd:Int} (hn:i64B n=true) (hd:i64B dd=true) (hr:qcv n dd=0) (hp:Lead l n dd p) (self1:(List Diii×Int×Int×Int×Int×Int×List Diii)→Option q286) (out:List T3):∀ (f i:Nat) (b:T3) (a1 a2:Int),l.length - i<f→i≤l.length→q2y0 l p i b a1 a2 →
    ∃ b' a1' a2',q2y0 l p l.length b' a1' a2'∧iter (q2b9 d self1) f (l,(l.length:Int),(i:Int),l,n,dd,p.1,p.2.1,p.2.2.1,out,b.1,b.2.1,b.2.2.1,a1,a2) =
      (if a2'=0 then some (out,0) else bif apB out.length 1 then self1 (l,a1',a2',b'.1,b'.2.1,b'.2.2.1,out ++ [(a1',a2',b'.1,())]) else none)
  | 0,i,b,a1,a2,hf,_,_=>by omega
  | f + 1, i, b, a1, a2, hf, hi, hB => by
    have hl:=h.len
    have hpo:=h.ok p hp.1
    have ih:=fun b a1 a2=>q2y3 d h hn hd hr hp self1 out f (i+1) b a1 a2
    rw [iter]
    revert ih
    generalize iter (q2b9 d self1) f=self
    intro ih
    unfold q2b9
    by_cases hlt:i<l.length
    · obtain ⟨q, hq⟩ : ∃ q, l[i]? = some q := ⟨_, List.getElem?_eq_getElem hlt⟩
      have hqm:=List.mem_of_getElem? hq
      have hqo:=h.ok q hqm
      have e1:=q2y2 d hpo hqo hn hd hr (hp.2 q hqm)
      have wi:=q2va (show i<1000000 by omega)
      simp only [q29m,Dt.eval,q2vd hlt,cond_true]
      simp only [q29q,Dt.eval,q2vc hlt,cond_true,q2vb hq]
      by_cases hid:p.1=q.1
      · have hs : ¬ p.2.2.1 < q.2.2.1 := by rw [q2x3 h hp.1 hqm hid]; omega
        rw [if_pos hid] at e1
        simp only [q29u,q28a,e1,Dt.eval]
        simp only [q29y,show ((2:Int) != 0)=true from rfl,cond_true,Dt.eval]
        simp only [q2a2,q2a0,Dt.eval,wi]
        exact ih b a1 a2 (by omega) (by omega) (hB.skip hq hs)
      · rw [if_neg hid] at e1
        by_cases hb:p.2.2.1<q.2.2.1
        · obtain ⟨m, hm⟩ := q2x6 (p := p) (q := q) (by omega)
          have hm0:=hm
          unfold mtP at hm0
          simp only [show ¬ p.2.2.1=q.2.2.1 by omega,if_false,Option.some.injEq] at hm0
          have m1:(mk (p.2.1 - q.2.1) (q.2.2.1 - p.2.2.1)).1=m.1:=by rw [← hm0]
          have m2:(mk (p.2.1 - q.2.1) (q.2.2.1 - p.2.2.1)).2.1=m.2.1:=by rw [← hm0]
          rw [if_pos hb,m1,m2] at e1
          obtain ⟨_,gm,gn,gd,_⟩:=q2we (x:=(p,q)) hpo hqo hm
          have oM:=(qd2 gm).1
          simp only [q29u,q28a,e1,Dt.eval]
          simp only [q29y,show ((0:Int) != 0)=false from rfl,cond_false,Dt.eval,Bool.not_true]
          simp only [q2a5,Dt.eval]
          by_cases ha:a2=0
          · subst ha
            simp only [q2a9,Dt.eval,show decide ((0:Int) > 0)=false from rfl,cond_false]
            simp only [q2ay,q2af,Dt.eval,show ((-1:Int) == 0)=false from rfl,cond_false]
            simp only [q2ax,q2at,Dt.eval,show decide ((-1:Int)<0)=true from rfl,cond_true]
            simp only [q2av,Dt.eval]
            simp only [q2a2,q2a0,Dt.eval,wi]
            exact ih q m.1 m.2.1 (by omega) (by omega) (hB.first h hp.1 hq hb hm)
          · have hpos:0<a2∧qcv a1 a2=0∧i64B a1=true∧i64B a2=true∧(∃ j,j<i∧l[j]?=some b):=by
              rcases hB with ⟨k,_⟩ | ⟨mb,rfl,rfl,h3,h4,h5,h6,_⟩
              · exact absurd k ha
              · have := (qd2 h3).1
                exact ⟨by omega,h3,q2up (by omega),q2up (by omega),h6⟩
            obtain ⟨ha0,hra,hi1,hi2,j,hj,hjb⟩:=hpos
            have hbm:=List.mem_of_getElem? hjb
            have e2:q282 d ((m.1,m.2.1,()),(a1,a2,()),())=some (cmpZ (m.1*a2) (a1*m.2.1)):=by
              rw [q2y1 d _ _ _ _ (q2up (show m.1.natAbs≤_ by omega)) (q2up (show m.2.1.natAbs≤_ by omega)) hi1 hi2];unfold cmpR;rw [if_pos ⟨gm,hra⟩];rfl
            have hqb:q.1≠b.1:=by have:=q2wu h hj hjb hq;omega
            have e3:=q2vy d hqo (h.ok b hbm) hqb (q2up (show m.1.natAbs≤_ by omega)) (q2up (show m.2.1.natAbs≤_ by omega)) gm
            simp only [q2a9,Dt.eval,show decide (a2 > 0)=true from decide_eq_true ha0,cond_true]
            simp only [q2ab,q28a,e2,Dt.eval]
            rcases ltZ (m.1*a2) (a1*m.2.1) with ⟨k1,k2⟩ | ⟨k1,k2⟩ | ⟨k1,k2⟩
            · simp only [q2ay, q2af, Dt.eval, k1, show ((-1 : Int) == 0) = false from rfl, cond_false]
              simp only [q2ax,q2at,Dt.eval,show decide ((-1:Int)<0)=true from rfl,cond_true]
              simp only [q2av,Dt.eval]
              simp only [q2a2,q2a0,Dt.eval,wi]
              exact ih q m.1 m.2.1 (by omega) (by omega) (hB.take h hp.1 ha0 hq hb hm (.inl k2))
            · simp only [q2ay, q2af, Dt.eval, k1, show ((0 : Int) == 0) = true from rfl, cond_true]
              simp only [q2aj,q28a,e3,Dt.eval]
              cases hah:leads (ofP q) (ofP b) m.1 m.2.1 with
              | true =>
                simp only [q2an,Dt.eval,cond_true]
                simp only [q2ap,Dt.eval]
                simp only [q2ax,q2at,Dt.eval,show decide ((-1:Int)<0)=true from rfl,cond_true]
                simp only [q2av,Dt.eval]
                simp only [q2a2,q2a0,Dt.eval,wi]
                exact ih q m.1 m.2.1 (by omega) (by omega) (hB.take h hp.1 ha0 hq hb hm (.inr ⟨k2,hah⟩))
              | false =>
                simp only [q2an,Dt.eval,cond_false]
                simp only [q2ax,q2at,Dt.eval,show decide ((0:Int)<0)=false from rfl,cond_false]
                simp only [q2a2,q2a0,Dt.eval,wi]
                exact ih b a1 a2 (by omega) (by omega) (hB.keep h hp.1 ha0 hq hb hm (by rw [hah];rintro (k | ⟨_,k⟩);omega;cases k))
            · simp only [q2ay, q2af, Dt.eval, k1, show ((1 : Int) == 0) = false from rfl, cond_false]
              simp only [q2ax,q2at,Dt.eval,show decide ((1:Int)<0)=false from rfl,cond_false]
              simp only [q2a2,q2a0,Dt.eval,wi]
              exact ih b a1 a2 (by omega) (by omega) (hB.keep h hp.1 ha0 hq hb hm (by rintro (k | ⟨k,_⟩)<;>omega))
        · rw [if_neg hb] at e1
          simp only [q29u,q28a,e1,Dt.eval]
          simp only [q29y,show ((0:Int) != 0)=false from rfl,cond_false,Dt.eval,Bool.not_false,cond_true]
          simp only [q2a2,q2a0,Dt.eval,wi]
          exact ih b a1 a2 (by omega) (by omega) (hB.skip hq hb)
    · have hkl : i = l.length := by omega
      subst hkl
      refine ⟨b,a1,a2,hB,?_⟩
      simp only [q29m,Dt.eval,q2ve hlt,cond_false]
      simp only [q2b1,Dt.eval]
      by_cases ha:a2=0
      · simp only [ha,beq_self_eq_true,cond_true,if_true,q2b3,Dt.eval]
      · have hb : (a2 == 0) = false := by rw [beq_eq_false_iff_ne]; exact ha
        simp only [hb,cond_false,ha,if_false]
        simp only [q2b5,Dt.eval]
        simp only [q2b7,Dt.eval,List.length_cons,List.length_nil,Nat.zero_add]
theorem q2y4 (d:Nat) (hf5:5000≤d) {l:List T3} (h:FldOk l):∀ (f:Nat) (p:T3) (n dd:Int) (out:List T3),q2xg l p<f→Lead l n dd p→qcv n dd=0→i64B n=true→i64B dd=true→out.length+q2xg l p≤200 →
    ∃ r,Crest l p n dd ((n,dd,p.1,()) :: r)∧iter (q2ba d) f (l,n,dd,p.1,p.2.1,p.2.2.1,out)=some (out++r,0)
  | 0,p,n,dd,out,hf,_,_,_,_,_=>by omega
  | f + 1, p, n, dd, out, hf, hp, hr, hn, hd, ho => by
    have hl:=h.len
    have ih:=fun p n dd out=>q2y4 d hf5 h f p n dd out
    rw [iter]
    revert ih
    generalize iter (q2ba d) f=self
    intro ih
    unfold q2ba
    simp only [q29a,q29e,q29i,Dt.eval]
    obtain ⟨b,a1,a2,hB,e⟩:=q2y3 d h hn hd hr hp self out d 0 (0,0,0,()) 0 0 (by omega) (by omega) (q2y0.zero ..)
    have e':iter (q2b9 d self) d (l,(l.length:Int),(0:Int),l,n,dd,p.1,p.2.1,p.2.2.1,out,(0:Int),(0:Int),(0:Int),(0:Int),(0:Int))=_:=e
    rw [e']
    by_cases ha:a2=0
    · subst ha
      refine ⟨[],.last p n dd hB.none,?_⟩
      rw [if_pos rfl,List.append_nil]
    · obtain ⟨h1, h2⟩ := hB.some h (qd2 hr).1 hp ha
      obtain ⟨g1,g2,g3⟩:=h1.ok h hp.1
      have hD:=(qd2 g1).1
      have hlt:=q2xh h2.1 (q2xf h (qd2 hr).1 hp h1 h2)
      have hap:apB out.length 1=true:=by unfold apB;rw [Nat.ble_eq];omega
      obtain ⟨r,k1,k2⟩:=ih b a1 a2 (out ++ [(a1,a2,b.1,())]) (by omega) h2 g1 (q2up (by omega)) (q2up (by omega)) (by rw [List.length_append];simp;omega)
      refine ⟨(a1,a2,b.1,()) :: r,.next p n dd a1 a2 b _ h1 h2 k1,?_⟩
      rw [if_neg ha,hap,cond_true,k2,List.append_assoc]
      rfl
theorem q2y7 (d:Nat) (hf:5000≤d) {l:List T3} (hl:l ≠ []) {n dd:Int} (hn:i64B n=true) (hd:i64B dd=true) (hc:chk1 l n dd=0):∃ a,Crest l (ldT l n dd) n dd a∧q2bb d ((l,()),(n,dd,()),())=some (a,0):=by
  have h0:qfx (ptsL l)=0:=by
    unfold chk1 at hc
    by_cases h0:qfx (ptsL l)=0
    · exact h0
    · rw [if_pos h0] at hc;exact absurd hc h0
  have hr:qcv n dd=0:=by
    unfold chk1 at hc
    rw [if_neg (by simpa using h0)] at hc;exact hc
  have h:=q2v1 h0
  have hl64:=h.len
  have hL:=q2x4 hl n dd
  obtain ⟨r0,hr0⟩:=q2x5 hl n dd
  have e1:=q2x1 d hl64 h0 hn hd hr
  rw [hr0] at e1
  have e2:=q2x2 d h h0 hL.1
  have hN:=q2xi l (ldT l n dd)
  obtain ⟨r,k1,k2⟩:=q2y4 d hf h d (ldT l n dd) n dd [(n,dd,(ldT l n dd).1,())] (by omega) hL hr hn hd (by simp;omega)
  refine ⟨_,k1,?_⟩
  have hlen:((unI ((ldT l n dd).1 :: r0)).length:Int)≠0:=by rw [qij,List.length_cons];omega
  have c1:(((unI ((ldT l n dd).1 :: r0)).length:Int) == 0)=false:=by rw [beq_eq_false_iff_ne];exact hlen
  have c2:inB 0 (unI ((ldT l n dd).1 :: r0)).length=true:=q2vc (k:=0) (by rw [qij];simp)
  have c3:elt zi (unI ((ldT l n dd).1 :: r0)) (0:Int).toNat=((ldT l n dd).1,()):=q2vb (k:=0) rfl
  simp only [q2bb,q28a,q28g,q28k,q28o,q28s,q28w,q28y,q292,q296,Dt.eval,e1,show ((0:Int) != 0)=false from rfl,cond_false,c1,c2,c3,cond_true,e2]
  exact k2
end Go.Proofs.YtpfhgnccpiildaaGreat

namespace Go.Pel
open Go Go.Tx
def bdL (a:List T3):Prop:=∀ x∈a,i64B x.1=true∧i64B x.2.1=true
theorem q2ya {l:List T3} (h:FldOk l) {p:T3} {n dd:Int} {a:List T3} (ha:Crest l p n dd a) (hn:i64B n=true) (hd:i64B dd=true) (hp:p∈l):bdL a:=by
  induction ha with
  | last p n dd _ =>
    intro x hx
    rw [List.mem_singleton] at hx
    subst hx
    exact ⟨hn,hd⟩
  | next p n dd n' dd' p' r h1 h2 _ ih =>
    obtain ⟨g1,g2,g3⟩:=h1.ok h hp
    have o:=(qd2 g1).1
    have hb:∀ {z:Int},z.natAbs≤4194304→i64B z=true:=fun {z} hz=>by
      unfold i64B;simp only [Bool.and_eq_true,decide_eq_true_eq];omega
    intro x hx
    rcases List.mem_cons.1 hx with rfl | hx
    · exact ⟨hn,hd⟩
    · exact ih (hb g2) (hb (by omega)) h2.1 x hx
theorem q2yb (a b c d:Int):(cmpQ a b c d=-1∧a*d<c*b)∨(cmpQ a b c d=0∧a*d=c*b)∨(cmpQ a b c d=1∧c*b<a*d):=by
  unfold cmpQ cmpZ
  repeat' split
  all_goals omega
end Go.Pel
namespace Go.Proofs.YtpfhgnccpiildaaGreat
open Go Go.Tx Go.Pel
theorem q2yc (d:Nat) {n dd:Int} (hn:i64B n=true) (hd:i64B dd=true):qmv d ((n,dd,()),())=some (qcv n dd):=qmw _ _ (by unfold qmu;simp only [hn,hd,Bool.and_self])
theorem q2yd (n d:Int):qcv n d=0∨qcv n d=8:=by
  unfold qcv
  split
  · exact .inl rfl
  · exact .inr rfl
end Go.Proofs.YtpfhgnccpiildaaGreat

namespace Go.Pel
open Go Go.Tx
theorem q2yg {α:Type} {P:α→Bool} {l:List α} {x:α} (hx:x∈l) (h:P x=false):l.countP P<l.length:=by
  induction l with
  | nil=>cases hx
  | cons y ys ih =>
    rw [List.countP_cons,List.length_cons]
    have:=List.countP_le_length (p:=P) (l:=ys)
    rcases List.mem_cons.1 hx with rfl | hx
    · rw [if_neg (by rw [h];decide)];omega
    · have := ih hx
      split<;>omega
theorem q2yh {l:List T3} (h:FldOk l) {p:T3} {n dd:Int} {a:List T3} (ha:Crest l p n dd a) (hr:qcv n dd=0) (hp:Lead l n dd p):a.length≤l.length:=by
  have h1:=ha.len h hr hp
  have h2:q2xg l p<l.length:=q2yg hp.1 (by rw [decide_eq_false_iff_not];omega)
  omega
end Go.Pel
namespace Go.Proofs.YtpfhgnccpiildaaGreat
open Go Go.Tx Go.Pel
theorem q2yj (d:Nat) {l:List T3} (h:FldOk l) {p:T3} (hp:p∈l):∃ i:Nat,l[i]?=some p∧qpv d ((l,()),(p.1,()),())=some (i:Int):=by
  obtain ⟨i,hi⟩:=List.mem_iff_getElem?.1 hp
  have hl:=h.len
  refine ⟨i,hi,?_⟩
  rw [qpw _ _ (by unfold qpu;rw [decide_eq_true_eq];show (ptsL l).length≤_;rw [qil];omega)]
  refine congrArg some ?_
  show atI (ptsL l) p.1=i
  refine qgc (p:=ofP p) (fun j q hj hq=>?_) (by unfold ptsL;rw [List.getElem?_map,hi];rfl) rfl
  unfold ptsL at hq
  rw [List.getElem?_map] at hq
  have hil:=(List.getElem?_eq_some_iff.1 hi).1
  obtain ⟨q',hq'⟩:∃ q',l[j]?=some q':=⟨_,List.getElem?_eq_getElem (by omega)⟩
  rw [hq'] at hq
  injection hq with hq
  subst hq
  have:=q2wu h hj hq' hi
  show q'.1≠p.1
  omega
theorem q2yl (d:Nat) (l:List T3):qp4 d ((l,()),())=some (great l.length):=by
  rw [qp5 _ _ rfl]
  show some (great (ptsL l).length)=_
  rw [qil]
theorem q2ym {n:Nat} (h:great n=false):n≤70:=by
  unfold great at h
  simp only [Bool.or_eq_false_iff,decide_eq_false_iff_not] at h
  omega
end Go.Proofs.YtpfhgnccpiildaaGreat

namespace Go.Pel
open Go Go.RowKit
theorem q2yp {l:List Pt} (h:incB l=true):(l.map Pt.id).Nodup:=by
  unfold List.Nodup
  rw [List.pairwise_iff_getElem]
  intro i j hi hj hij
  simp only [List.length_map] at hi hj
  have:=qfw h hij (List.getElem?_eq_getElem hi) (List.getElem?_eq_getElem hj)
  simp;omega
theorem q2yq {l:List Pt} {n d:Int} (h:incB l=true) {i:Nat} {p:Pt} (hp:(qr8 n d l)[i]?=some p):qs2 l p n d=i:=by
  have hi:=qrl h
  have hpm:=qr9 n d l
  have hpw:=qrb (n:=n) (d:=d) hi (q2yp h)
  have e1:qs2 l p n d=qs2 (qr8 n d l) p n d:=((hpm.filter _).length_eq).symm
  rw [e1]
  have hmem:∀ a∈qr8 n d l,a∈l:=fun a ha=>hpm.mem_iff.1 ha
  generalize qr8 n d l=s at *
  obtain ⟨hlt,he⟩:=List.getElem?_eq_some_iff.1 hp
  have hsp:s=s.take i++p :: s.drop (i+1):=by
    rw [← he,← List.drop_eq_getElem_cons hlt,List.take_append_drop]
  have hpl:p∈l:=hmem p (List.mem_of_getElem? hp)
  have hlen:(s.take i).length=i:=by rw [List.length_take];omega
  rw [hsp] at hpw hmem
  obtain ⟨_,h2,h3⟩:=List.pairwise_append.1 hpw
  rw [List.pairwise_cons] at h2
  have f1:(s.take i).filter (fun q=>(q.id != p.id)&&leads q p n d)=s.take i:=by
    rw [List.filter_eq_self]
    intro a ha
    have hl:=h3 a ha p (by simp)
    have hne:a.id≠p.id:=by
      intro e
      have hap:a=p:=hi a (hmem a (by simp [ha])) p hpl e
      subst hap
      rw [qr2] at hl
      omega
    simp [hl,hne]
  have f2:(p :: s.drop (i+1)).filter (fun q=>(q.id != p.id)&&leads q p n d)=[]:=by
    rw [List.filter_eq_nil_iff]
    intro a ha
    rcases List.mem_cons.1 ha with rfl | ha
    · simp
    · have hl := h2.1 a ha
      have:leads a p n d=false:=by
        rw [← Bool.not_eq_true,qr2]
        rw [qr2] at hl
        omega
      simp [this]
  unfold qs2
  rw [hsp,List.filter_append,f1,f2,List.append_nil,hlen]
theorem q2yr {l:List Pt} {n d:Int} (h:incB l=true) {p q:Pt} (hp:p∈l) (hq:q∈l) (hr:qs2 l p n d=qs2 l q n d):p=q:=by
  obtain ⟨i,hi⟩:=List.mem_iff_getElem?.1 ((qr9 n d l).mem_iff.2 hp)
  obtain ⟨j,hj⟩:=List.mem_iff_getElem?.1 ((qr9 n d l).mem_iff.2 hq)
  rw [q2yq h hi,q2yq h hj] at hr
  subst hr
  rw [hi] at hj;exact Option.some.inj hj
theorem q2ys {l:List Pt} {n d:Int} (h:incB l=true):∀ (k:Nat),k≤l.length→∀ (j:Nat) (p:Pt),j<k→l[j]?=some p→(ordK l n d k)[qs2 l p n d]?=some p.id:=by
  intro k
  induction k with
  | zero=>intro _ j p hj;omega
  | succ k ih =>
    intro hk j p hj hp
    obtain ⟨q,hq⟩:∃ q,l[k]?=some q:=⟨_,List.getElem?_eq_getElem (by omega)⟩
    rw [qsb hq]
    have hql:=qsc (List.mem_of_getElem? hq) n d
    by_cases hjk:j=k
    · subst hjk
      rw [hp] at hq;obtain rfl:=Option.some.inj hq
      rw [List.getElem?_set_self (by rw [qsa];exact hql)]
    · have hne:qs2 l q n d≠qs2 l p n d:=by
        intro e
        have e1:=q2yr h (List.mem_of_getElem? hq) (List.mem_of_getElem? hp) e
        subst e1
        have:=qfw h (show j<k by omega) hp hq
        omega
      rw [List.getElem?_set_ne hne]
      exact ih (by omega) j p (by omega) hp
theorem q2yt {l:List Pt} {n d:Int} (h:incB l=true):ordK l n d l.length=(qr8 n d l).map Pt.id:=by
  apply List.ext_getElem?
  intro i
  by_cases hi:i<l.length
  · obtain ⟨p, hp⟩ : ∃ p, (qr8 n d l)[i]? = some p := ⟨_, List.getElem?_eq_getElem (by rw [qra]; exact hi)⟩
    have hpl:=(qr9 n d l).mem_iff.1 (List.mem_of_getElem? hp)
    obtain ⟨j,hj⟩:=List.mem_iff_getElem?.1 hpl
    have:=q2ys (n:=n) (d:=d) h l.length (Nat.le_refl _) j p (List.getElem?_eq_some_iff.1 hj).1 hj
    rw [q2yq h hp] at this
    rw [this];simp [hp]
  · rw [List.getElem?_eq_none (by rw [qsa];omega),List.getElem?_eq_none (by rw [List.length_map,qra];omega)]
end Go.Pel

namespace Go.Pel
open Go Go.Tx
def NxtI (l:List T3) (p:T3) (i:Nat) (is:Bool) (n dd:Int):Prop :=
  (is=false∧∀ k q,k<i→l[k]?=some q→¬ p.2.2.1<q.2.2.1) ∨
  (is=true∧(∃ j b m,j<i∧l[j]?=some b∧p.2.2.1<b.2.2.1∧mtP (p,b)=some m∧m.1=n∧m.2.1=dd)∧∀ k q m',k<i→l[k]?=some q→p.2.2.1<q.2.2.1→mtP (p,q)=some m'→¬ m'.1*dd<n*m'.2.1)
theorem NxtI.skip {l:List T3} {p:T3} {i:Nat} {is:Bool} {n dd:Int} (h:NxtI l p i is n dd) {q:T3} (hq:l[i]?=some q) (hs:¬ p.2.2.1<q.2.2.1):NxtI l p (i+1) is n dd:=by
  rcases h with ⟨h1,h2⟩ | ⟨h1,⟨j,b,m,h3,h4,h5⟩,h6⟩
  · refine .inl ⟨h1, fun k x hk hx => ?_⟩
    rcases (by omega:k<i∨k=i) with k' | rfl
    · exact h2 k x k' hx
    · rw [hq] at hx;injection hx with hx;subst hx;exact hs
  · refine .inr ⟨h1, ⟨j, b, m, by omega, h4, h5⟩, fun k x m' hk hx hf hm' => ?_⟩
    rcases (by omega:k<i∨k=i) with k' | rfl
    · exact h6 k x m' k' hx hf hm'
    · rw [hq] at hx;injection hx with hx;subst hx;exact absurd hf hs
theorem NxtI.take {l:List T3} (h:FldOk l) {p:T3} (hp:p∈l) {i:Nat} {is:Bool} {n dd:Int} (hN:NxtI l p i is n dd) {q:T3} (hq:l[i]?=some q) (hf:p.2.2.1<q.2.2.1) {m:M4} (hm:mtP (p,q)=some m) (hR:is=false∨m.1*dd<n*m.2.1):NxtI l p (i+1) true m.1 m.2.1:=by
  have hpo:=h.ok p hp
  have g1:=(q2we (x:=(p,q)) hpo (h.ok q (List.mem_of_getElem? hq)) hm).2.1
  have o1:=(qd2 g1).1
  refine .inr ⟨rfl,⟨i,q,m,by omega,hq,hf,hm,rfl,rfl⟩,fun k x m' hk hx hfx hm'=>?_⟩
  rcases (by omega:k<i∨k=i) with k' | rfl
  · rcases hN with ⟨_, h2⟩ | ⟨h1, ⟨j, b, mb, _, hb, _, hmb, rfl, rfl⟩, h6⟩
    · exact absurd hfx (h2 k x k' hx)
    · rcases hR with hR | hR
      · rw [h1] at hR;cases hR
      · have oX := (qd2 (q2we (x := (p, x)) hpo (h.ok x (List.mem_of_getElem? hx)) hm').2.1).1
        have oB:=(qd2 (q2we (x:=(p,b)) hpo (h.ok b (List.mem_of_getElem? hb)) hmb).2.1).1
        intro k1
        have:m'.1*mb.2.1<mb.1*m'.2.1:=q_lt oX o1 oB k1 (Int.le_of_lt hR)
        exact h6 k x m' k' hx hfx hm' this
  · rw [hq] at hx; injection hx with hx; subst hx
    rw [hm] at hm';injection hm' with hm';subst hm'
    omega
theorem NxtI.keep {l:List T3} {p:T3} {i:Nat} {n dd:Int} (hN:NxtI l p i true n dd) {q:T3} (hq:l[i]?=some q) {m:M4} (hm:mtP (p,q)=some m) (hR:¬ m.1*dd<n*m.2.1):NxtI l p (i+1) true n dd:=by
  rcases hN with ⟨h1,_⟩ | ⟨_,⟨j,b,mb,h3,h4⟩,h6⟩
  · cases h1
  · refine .inr ⟨rfl, ⟨j, b, mb, by omega, h4⟩, fun k x m' hk hx hfx hm' => ?_⟩
    rcases (by omega:k<i∨k=i) with k' | rfl
    · exact h6 k x m' k' hx hfx hm'
    · rw [hq] at hx; injection hx with hx; subst hx
      rw [hm] at hm';injection hm' with hm';subst hm'
      exact hR
theorem NxtI.no {l:List T3} {p:T3} {n dd:Int} (h:NxtI l p l.length false n dd):q2x9 l p:=by
  rcases h with ⟨_,h2⟩ | ⟨h1,_⟩
  · intro q hq
    obtain ⟨k,hk⟩:=List.mem_iff_getElem?.1 hq
    exact h2 k q (List.getElem?_eq_some_iff.1 hk).1 hk
  · cases h1
theorem NxtI.yes {l:List T3} {p:T3} {n dd:Int} (h:NxtI l p l.length true n dd):Nxt l p n dd:=by
  rcases h with ⟨h1,_⟩ | ⟨_,⟨j,b,m,_,hb,hf,hm,e1,e2⟩,h6⟩
  · cases h1
  · refine ⟨⟨b, List.mem_of_getElem? hb, m, hf, hm, e1, e2⟩, fun q hq m' hf' hm' => ?_⟩
    obtain ⟨k,hk⟩:=List.mem_iff_getElem?.1 hq
    exact h6 k q m' (List.getElem?_eq_some_iff.1 hk).1 hk hf' hm'
end Go.Pel
namespace Go.Proofs.YtpfhgnccpiildaaGreat
open Go Go.Tx Go.Pel
theorem q2yw (d:Nat) {l:List T3} (hl:l ≠ []) (h:FldOk l) (h0:qfx (ptsL l)=0) {n dd:Int} (hn:i64B n=true) (hd:i64B dd=true) (hr:qcv n dd=0):∃ r,qwk d ((l,()),(n,dd,()),())=some (unI ((ldT l n dd).1 :: r)):=by
  obtain ⟨r,hr0⟩:=q2x5 hl n dd
  refine ⟨r,?_⟩
  have hl64:=h.len
  rw [qwl _ _ (by
    unfold qwj
    simp only [Bool.and_eq_true,decide_eq_true_eq,List.all_eq_true]
    refine ⟨by rw [qil];omega,fun P hP Q hQ=>?_⟩
    obtain ⟨p,hp,rfl⟩:=q2wx hP
    obtain ⟨q,hq,rfl⟩:=q2wx hQ
    exact qm6 (qle (p:=ofP q) (q:=ofP p) (h.ok q hq) (h.ok p hp) hr (qiq hn) (qiq hd)))]
  show some (unI (ordK (ptsL l) n dd (ptsL l).length))=_
  rw [q2yt (qg2 h0).2.2,quu (qg2 h0).2.2 (qd2 hr).1,hr0]
theorem q2yx (d:Nat) {l:List T3} (h:FldOk l) {p:T3} (hp:p∈l) (self1:(List Diii×List Diii)→Option q2kt) (out:List T3):∀ (f i:Nat) (is:Bool) (n dd:Int),l.length - i<f→i≤l.length→NxtI l p i is n dd →
    ∃ is' n' dd',NxtI l p l.length is' n' dd'∧iter (q2mk d self1) f (is,(i:Int),l,out,p.1,p.2.1,p.2.2.1,n,dd) =
      (bif is' then (match qwk d ((l,()),(n',dd',()),()) with | some o=>bif inB (0:Int) o.length then (bif apB out.length 1 then self1 (l,out ++ [(n',dd',(elt zi o (0:Int).toNat).1,())]) else none) else none | none=>none) else some out)
  | 0,i,is,n,dd,hf,_,_=>by omega
  | f + 1, i, is, n, dd, hf, hi, hN => by
    have hl:=h.len
    have hpo:=h.ok p hp
    have ih:=fun is n dd=>q2yx d h hp self1 out f (i+1) is n dd
    rw [iter]
    revert ih
    generalize iter (q2mk d self1) f=self
    intro ih
    unfold q2mk q2lz
    by_cases hlt:i<l.length
    · obtain ⟨q, hq⟩ : ∃ q, l[i]? = some q := ⟨_, List.getElem?_eq_getElem hlt⟩
      have hqm:=List.mem_of_getElem? hq
      have hqo:=h.ok q hqm
      have wi:=q2va (show i<1000000 by omega)
      simp only [q2lr,q2lx,q2lv,q2m2,q2m6,q2m8,Dt.eval,q2kx,q2vd hlt,cond_true,q2vc hlt,q2vb hq]
      by_cases hb:p.2.2.1<q.2.2.1
      · obtain ⟨m, hm⟩ := q2x6 (p := p) (q := q) (by omega)
        have hm0:=hm
        unfold mtP at hm0
        simp only [show ¬ p.2.2.1=q.2.2.1 by omega,if_false,Option.some.injEq] at hm0
        have e1:=q2v9 d hpo hqo
        have m1:(mk (p.2.1 - q.2.1) (q.2.2.1 - p.2.2.1)).1=m.1:=by rw [← hm0]
        have m2:(mk (p.2.1 - q.2.1) (q.2.2.1 - p.2.2.1)).2.1=m.2.1:=by rw [← hm0]
        rw [m1,m2] at e1
        obtain ⟨_,gm,gn,gd,_⟩:=q2we (x:=(p,q)) hpo hqo hm
        have oM:=(qd2 gm).1
        simp only [show decide (q.2.2.1≤p.2.2.1)=false by rw [decide_eq_false_iff_not];omega,cond_false,q2vc hlt,cond_true,q2vb hq,e1,Dt.eval]
        cases is with
        | false =>
          simp only [Bool.not_false,cond_true,Dt.eval,wi]
          exact ih true m.1 m.2.1 (by omega) (by omega) (hN.take h hp hq hb hm (.inl rfl))
        | true =>
          have hbd:i64B n=true∧i64B dd=true:=by
            rcases hN with ⟨k,_⟩ | ⟨_,⟨j,b,mb,_,hjb,_,hmb,rfl,rfl⟩,_⟩
            · cases k
            · obtain ⟨_, g1, g2, g3, _⟩ := q2we (x := (p, b)) hpo (h.ok b (List.mem_of_getElem? hjb)) hmb
              have:=(qd2 g1).1
              exact ⟨q2up (by omega),q2up (by omega)⟩
          have e2:=q2tz d m.1 m.2.1 n dd (q2up (by omega)) (q2up (by omega)) hbd.1 hbd.2
          simp only [Bool.not_true,cond_false,e2,Dt.eval]
          by_cases hc:cmpQ m.1 m.2.1 n dd<0
          · have hlt2 : m.1 * dd < n * m.2.1 := by rcases q2yb m.1 m.2.1 n dd with ⟨k1, k2⟩ | ⟨k1, k2⟩ | ⟨k1, k2⟩ <;> omega
            simp only [decide_eq_true hc,cond_true,Dt.eval,wi]
            exact ih true m.1 m.2.1 (by omega) (by omega) (hN.take h hp hq hb hm (.inr hlt2))
          · have hnl : ¬ m.1 * dd < n * m.2.1 := by rcases q2yb m.1 m.2.1 n dd with ⟨k1, k2⟩ | ⟨k1, k2⟩ | ⟨k1, k2⟩ <;> omega
            simp only [decide_eq_false hc,cond_false,Dt.eval,wi]
            exact ih true n dd (by omega) (by omega) (hN.keep hq hm hnl)
      · simp only [show decide (q.2.2.1 ≤ p.2.2.1) = true by rw [decide_eq_true_eq]; omega, cond_true, wi]
        exact ih is n dd (by omega) (by omega) (hN.skip hq hb)
    · have hkl : i = l.length := by omega
      subst hkl
      refine ⟨is,n,dd,hN,?_⟩
      simp only [q2lr,q2mc,q2mg,q2mi,Dt.eval,q2kx,q2ve hlt,cond_false]
      cases is with
      | false=>simp only [Bool.not_false,cond_true,cond_false]
      | true =>
        simp only [Bool.not_true,cond_false,cond_true]
        cases qwk d ((l,()),(n,dd,()),()) with
        | none=>rfl
        | some o =>
          simp only [Dt.eval,List.length_cons,List.length_nil,Nat.zero_add]
theorem q2yy (d:Nat) (hf5:5000≤d) {l:List T3} (hl:l ≠ []) (h:FldOk l) (h0:qfx (ptsL l)=0):∀ (f:Nat) (p:T3) (n dd:Int) (out:List T3),q2xg l p<f→Lead l n dd p→qcv n dd=0→out.length+q2xg l p≤200 →
    ∃ r,Crest l p n dd ((n,dd,p.1,()) :: r)∧iter (q2ml d) f (l,out ++ [(n,dd,p.1,())])=some ((out ++ [(n,dd,p.1,())])++r)
  | 0,p,n,dd,out,hf,_,_,_=>by omega
  | f + 1, p, n, dd, out, hf, hp, hr, ho => by
    have hl64:=h.len
    have ih:=fun p n dd out=>q2yy d hf5 hl h h0 f p n dd out
    rw [iter]
    revert ih
    generalize iter (q2ml d) f=self
    intro ih
    obtain ⟨j,hj,e1⟩:=q2yj d h hp.1
    have hjl:=(List.getElem?_eq_some_iff.1 hj).1
    have hlen:(out ++ [(n,dd,p.1,())]).length=out.length+1:=by rw [List.length_append];rfl
    have wk:IntKind.wrap .i64 (((out ++ [(n,dd,p.1,())]).length:Int) - 1)=((out.length:Nat):Int):=by rw [hlen,IntWalk.i64_in _ (by omega)];omega
    have hx:(out ++ [((n,dd,p.1,()):T3)])[out.length]?=some (n,dd,p.1,()):=by rw [List.getElem?_append_right (Nat.le_refl _),Nat.sub_self];rfl
    unfold q2ml
    simp only [q2lf,q2lj,q2ln,Dt.eval,q2kx,wk,q2vc (show out.length<(out ++ [((n,dd,p.1,()):T3)]).length by omega),cond_true,q2vb hx,e1,q2vc hjl,q2vb hj]
    obtain ⟨is,n',dd',hN,e⟩:=q2yx d h hp.1 self (out ++ [(n,dd,p.1,())]) d 0 false 0 0 (by omega) (by omega) (.inl ⟨rfl,fun k q hk=>by omega⟩)
    have e':iter (q2mk d self) d (false,(0:Int),l,out ++ [(n,dd,p.1,())],p.1,p.2.1,p.2.2.1,(0:Int),(0:Int))=_:=e
    rw [e']
    cases is with
    | false=>exact ⟨[],.last p n dd hN.no,by simp⟩
    | true =>
      have h1:=hN.yes
      obtain ⟨g1,g2,g3⟩:=h1.ok h hp.1
      have hD:=(qd2 g1).1
      have h2:=q2x4 hl n' dd'
      have hlt:=q2xh h2.1 (q2xf h (qd2 hr).1 hp h1 h2)
      obtain ⟨s,es⟩:=q2yw d hl h h0 (n:=n') (dd:=dd') (q2up (by omega)) (q2up (by omega)) g1
      have hap:apB (out ++ [((n,dd,p.1,()):T3)]).length 1=true:=by unfold apB;rw [Nat.ble_eq];omega
      obtain ⟨r,k1,k2⟩:=ih (ldT l n' dd') n' dd' (out ++ [(n,dd,p.1,())]) (by omega) h2 g1 (by omega)
      refine ⟨_,.next p n dd n' dd' _ _ h1 h2 k1,?_⟩
      have c2:inB (0:Int) (unI ((ldT l n' dd').1 :: s)).length=true:=q2vc (k:=0) (by rw [qij];simp)
      have c3:elt zi (unI ((ldT l n' dd').1 :: s)) (0:Int).toNat=((ldT l n' dd').1,()):=q2vb (k:=0) rfl
      simp only [cond_true,es,c2,hap,c3]
      rw [k2]
      simp only [List.append_assoc]
      rfl
theorem q2yz (d:Nat) (hf:5000≤d) {l:List T3} (hl:l ≠ []) {n dd:Int} (hn:i64B n=true) (hd:i64B dd=true) (h0:qfx (ptsL l)=0) (hr:qcv n dd=0):∃ a,Crest l (ldT l n dd) n dd a∧q2mm d ((l,()),(n,dd,()),())=some a:=by
  have h:=q2v1 h0
  have hl64:=h.len
  have hL:=q2x4 hl n dd
  have hN:=q2xi l (ldT l n dd)
  obtain ⟨s,es⟩:=q2yw d hl h h0 hn hd hr
  obtain ⟨r,k1,k2⟩:=q2yy d hf hl h h0 d (ldT l n dd) n dd [] (by omega) hL hr (by simp;omega)
  refine ⟨_,k1,?_⟩
  have c2:inB (0:Int) (unI ((ldT l n dd).1 :: s)).length=true:=q2vc (k:=0) (by rw [qij];simp)
  have c3:elt zi (unI ((ldT l n dd).1 :: s)) (0:Int).toNat=((ldT l n dd).1,()):=q2vb (k:=0) rfl
  simp only [q2mm,q2kx,q2l3,q2l7,q2lb,Dt.eval,es,c2,cond_true,c3]
  exact k2
end Go.Proofs.YtpfhgnccpiildaaGreat

namespace Go.Pel
open Go Go.Tx
abbrev T5:Type:=Int×Int×Int×Int×Int×Unit
def reiL (t u:Int):T3→List T3→List T5
  | x,[]=>[(x.1,x.2.1,t,u,x.2.2.1,())]
  | x,y :: r=>if y.1*u<t*y.2.1 then (x.1,x.2.1,y.1,y.2.1,x.2.2.1,()) :: reiL t u y r else [(x.1,x.2.1,t,u,x.2.2.1,())]
theorem q2z2 (t u:Int):∀ (x:T3) (r:List T3),(reiL t u x r).length≤r.length+1
  | x,[]=>by simp [reiL]
  | x, y :: r => by
    unfold reiL
    have:=q2z2 t u y r
    split
    · rw [List.length_cons,List.length_cons];omega
    · simp
end Go.Pel
namespace Go.Proofs.YtpfhgnccpiildaaGreat
open Go Go.Tx Go.Pel
theorem q2z4 (d:Nat) (l:List T3):qpd d ((l,()),())=some (qfx (ptsL l)):=qpe _ _ rfl
theorem q2z5 (d:Nat) (l:List T3):qpm d ((l,()),())=some (qfx (ptsL l)):=qpn _ _ rfl
theorem q2z6 (d:Nat) (l:List T3) {n dd t u:Int} (hn:i64B n=true) (hd:i64B dd=true) (ht:i64B t=true) (hu:i64B u=true):q2cl d ((l,()),(n,dd,()),(t,u,()),())=some (chk2 l n dd t u):=by
  have e1:=q2z4 d l
  have e2:=q2yc d hn hd
  have e3:=q2yc d ht hu
  have e4:=q2tv d n dd t u hn hd ht hu
  have b0:((0:Int) != 0)=false:=rfl
  have b8:((8:Int) != 0)=true:=rfl
  unfold chk2
  simp only [q2cl,q2bj,q2bp,q2bt,q2bx,q2c1,q2c5,q2c7,q2cb,q2cf,q2ch,q2cj,Dt.eval,e1]
  by_cases h:qfx (ptsL l)=0
  · simp only [h, b0, cond_false, ne_eq, not_true_eq_false, if_false, e2, Dt.eval]
    rcases q2yd n dd with h1 | h1
    · simp only [h1, b0, cond_false, not_true_eq_false, if_false, e3, Dt.eval]
      rcases q2yd t u with h2 | h2
      · have e5 : (cmpR n dd t u).1 = cmpQ n dd t u := by unfold cmpR; rw [if_pos ⟨h1, h2⟩]
        simp only [h2,b0,cond_false,not_true_eq_false,if_false,e4,e5,Dt.eval]
        by_cases h3:0<cmpQ n dd t u
        · simp only [gt_iff_lt,h3,decide_true,cond_true,if_true]
        · simp only [gt_iff_lt,h3,decide_false,cond_false,if_false]
      · simp only [h2,b8,cond_true,show ¬ (8:Int)=0 by decide,not_false_eq_true,if_true]
    · simp only [h1,b8,cond_true,show ¬ (8:Int)=0 by decide,not_false_eq_true,if_true,Dt.eval]
  · have hb : (qfx (ptsL l) != 0) = true := by simpa using h
    simp only [hb,cond_true,ne_eq,h,not_false_eq_true,if_true]
theorem q2z7 (d:Nat) (l:List T3) {n dd t u:Int} (hn:i64B n=true) (hd:i64B dd=true) (ht:i64B t=true) (hu:i64B u=true):q2no d ((l,()),(n,dd,()),(t,u,()),())=some (chk2 l n dd t u):=by
  have e1:=q2z5 d l
  have e2:=q2vh d hn hd ht hu
  have e4:=q2tz d n dd t u hn hd ht hu
  have b0:((0:Int) != 0)=false:=rfl
  have b8:((8:Int) != 0)=true:=rfl
  unfold chk2
  simp only [q2no,q2mu,q2n0,q2n4,q2n8,q2nc,q2ne,q2ni,q2nk,q2nm,Dt.eval,e1]
  by_cases h:qfx (ptsL l)=0
  · simp only [h, b0, cond_false, ne_eq, not_true_eq_false, if_false, e2, Dt.eval]
    rcases q2yd n dd with h1 | h1
    · simp only [h1, ne_eq, not_true_eq_false, if_false]
      rcases q2yd t u with h2 | h2
      · simp only [h2, b0, cond_false, not_true_eq_false, if_false, e4, Dt.eval]
        by_cases h3:0<cmpQ n dd t u
        · simp only [gt_iff_lt,h3,decide_true,cond_true,if_true]
        · simp only [gt_iff_lt,h3,decide_false,cond_false,if_false]
      · simp only [h2,b8,cond_true,show ¬ (8:Int)=0 by decide,not_false_eq_true,if_true]
    · simp only [h1,ne_eq,b8,cond_true,show ¬ (8:Int)=0 by decide,not_false_eq_true,if_true,Dt.eval]
  · have hb : (qfx (ptsL l) != 0) = true := by simpa using h
    simp only [hb,cond_true,ne_eq,h,not_false_eq_true,if_true,Dt.eval,e1]
theorem q2z8 (d:Nat) {n1 d1 n2 d2:Int} (h1:i64B n1=true) (h2:i64B d1=true) (h3:i64B n2=true) (h4:i64B d2=true) (k1:qcv n1 d1=0) (k2:qcv n2 d2=0):q2d9 d ((n1,d1,()),(n2,d2,()),())=some (decide (n1*d2<n2*d1)):=by
  have e:=q2tv d n1 d1 n2 d2 h1 h2 h3 h4
  have e5:(cmpR n1 d1 n2 d2).1=cmpQ n1 d1 n2 d2:=by unfold cmpR;rw [if_pos ⟨k1,k2⟩]
  simp only [q2d9,q2ct,q2cz,q2d3,q2d7,Dt.eval,e,e5]
  refine congrArg some (?_:decide ((cmpQ n1 d1 n2 d2:Int)<(0:Int))=decide (n1*d2<n2*d1))
  rcases q2yb n1 d1 n2 d2 with ⟨j1,j2⟩ | ⟨j1,j2⟩ | ⟨j1,j2⟩
  · rw [j1,decide_eq_true j2];rfl
  · rw [j1,decide_eq_false (show ¬ n1*d2<n2*d1 by omega)];rfl
  · rw [j1,decide_eq_false (show ¬ n1*d2<n2*d1 by omega)];rfl
set_option maxHeartbeats 2000000 in
theorem q2z9 (d:Nat) {a:List T3} {t u:Int} (hb:bdL a) (hc:chkR none a=true) (hlen:a.length≤1000) (ht:i64B t=true) (hu:i64B u=true) (hr:qcv t u=0):∀ (f i:Nat) (x:T3) (pre:List T5),a.length - (i+1)<f→a[i]?=some x→pre.length=i →
    iter (q2fb d) f ((a.length:Int),((i+1:Nat):Int),t,u,pre ++ [(x.1,x.2.1,t,u,x.2.2.1,())],a)=some (pre++reiL t u x (a.drop (i+1)),0)
  | 0,i,x,pre,hf,_,_=>by omega
  | f + 1, i, x, pre, hf, hx, hpre => by
    have ih:=fun x pre=>q2z9 d hb hc hlen ht hu hr f (i+1) x pre
    have hil:=(List.getElem?_eq_some_iff.1 hx).1
    rw [iter]
    revert ih
    generalize iter (q2fb d) f=self
    intro ih
    unfold q2fb
    by_cases hlt:i+1<a.length
    · obtain ⟨y, hy⟩ : ∃ y, a[i + 1]? = some y := ⟨_, List.getElem?_eq_getElem hlt⟩
      have hym:=List.mem_of_getElem? hy
      obtain ⟨b1,b2⟩:=hb y hym
      have hyk:=(q2xl.1 ((q2xo hc).1 y hym)).1
      have e1:=q2z8 d b1 b2 ht hu hyk hr
      rw [q2vf hy]
      unfold reiL
      simp only [q2el,Dt.eval,q2vd hlt,cond_true]
      simp only [q2ep,Dt.eval,q2vc hlt,cond_true,q2vb hy]
      simp only [q2et,Dt.eval,show decide (((i+1:Nat):Int) > 0)=true by rw [decide_eq_true_eq];omega,cond_true]
      simp only [q2ex,q2dh,Dt.eval,e1]
      by_cases hl:y.1*u<t*y.2.1
      · have wk : IntKind.wrap .i64 (((i + 1 : Nat) : Int) - 1) = ((i : Nat) : Int) := by rw [IntWalk.i64_in _ (by omega)]; omega
        have hpl:i<(pre ++ [((x.1,x.2.1,t,u,x.2.2.1,()):T5)]).length:=by rw [List.length_append,hpre];simp
        have hpx:(pre ++ [((x.1,x.2.1,t,u,x.2.2.1,()):T5)])[i]?=some (x.1,x.2.1,t,u,x.2.2.1,()):=by rw [List.getElem?_append_right (by omega),hpre,Nat.sub_self];rfl
        have hset:∀ z:T5,(pre ++ [((x.1,x.2.1,t,u,x.2.2.1,()):T5)]).set i z=pre ++ [z]:=fun z=>by
          rw [List.set_append_right _ _ (by omega),hpre,Nat.sub_self];rfl
        simp only [decide_eq_true hl,Bool.not_true,cond_false]
        simp only [q2f4,Dt.eval,wk,q2vc hpl,cond_true,q2vb hpx]
        simp only [Int.toNat_natCast,hset]
        have hap:apB (pre ++ [((x.1,x.2.1,y.1,y.2.1,x.2.2.1,()):T5)]).length 1=true:=by unfold apB;rw [Nat.ble_eq,List.length_append,hpre];simp;omega
        simp only [q2fa,q2f6,Dt.eval,List.length_cons,List.length_nil,Nat.zero_add,hap,cond_true]
        simp only [q2f8,Dt.eval,q2va (show i+1<1000000 by omega)]
        have:=ih y (pre ++ [(x.1,x.2.1,y.1,y.2.1,x.2.2.1,())]) (by omega) hy (by rw [List.length_append,hpre];rfl)
        rw [if_pos hl]
        refine this.trans (congrArg (fun q:List T5=>some (q,(0:Int))) ?_)
        rw [List.append_assoc]
        rfl
      · simp only [decide_eq_false hl, Bool.not_false, cond_true]
        simp only [q2f1,q2ez,Dt.eval]
        rw [if_neg hl]
    · simp only [q2el, Dt.eval, q2ve hlt, cond_false]
      simp only [q2f1,q2ez,Dt.eval]
      rw [List.drop_eq_nil_of_le (by omega)]
      rfl
theorem q2za (d:Nat) (hf:5000≤d) {l:List T3} (hl:l ≠ []) {n dd t u:Int} (hn:i64B n=true) (hd:i64B dd=true) (ht:i64B t=true) (hu:i64B u=true) (hc:chk2 l n dd t u=0) {a:List T3} (ha:q2bb d ((l,()),(n,dd,()),())=some (a,0)) (hb:bdL a) (hk:chkL a=0) {x:T3} {r:List T3} (hx:a=x :: r):q2fc d ((l,()),(n,dd,()),(t,u,()),())=some (reiL t u x r,0):=by
  have e1:=q2z6 d l hn hd ht hu
  obtain ⟨hok,h2,h3,h4⟩:=q2vv hc
  obtain ⟨k1,k2,k3⟩:=q2xn hk
  have b0:((0:Int) != 0)=false:=rfl
  have hx0:a[0]?=some x:=by rw [hx];rfl
  have e2:=q2z9 d hb k3 (by omega) ht hu h3 (d - 1) 0 x [] (by omega) hx0 rfl
  obtain ⟨d',hd'⟩:∃ d',d=d'+1:=⟨d - 1,by omega⟩
  have hlt:(0:Nat)<a.length:=by omega
  simp only [q2fc,q2dh,q2dn,q2dr,q2dv,q2dz,q2e3,q2e7,q2e9,q2ed,q2eh,Dt.eval,e1,hc,b0,cond_false,ha]
  have hit:iter (q2fb d) d ((a.length:Int),(0:Int),t,u,([]:List T5),a)=iter (q2fb d) (d - 1) ((a.length:Int),(((0:Nat)+1:Nat):Int),t,u,([]:List T5) ++ [(x.1,x.2.1,t,u,x.2.2.1,())],a):=by
    have hd2:d=(d - 1)+1:=by omega
    conv=>lhs;arg 2;rw [hd2]
    rw [iter]
    generalize iter (q2fb d) (d - 1)=self
    unfold q2fb
    simp only [q2el,Dt.eval,show decide ((0:Int)<(a.length:Int))=true by rw [decide_eq_true_eq];omega,cond_true]
    simp only [q2ep,Dt.eval,show inB (0:Int) a.length=true from q2vc (k:=0) hlt,cond_true,show elt ziii a (0:Int).toNat=x from q2vb (k:=0) hx0]
    simp only [q2et,Dt.eval,show decide ((0:Int) > 0)=false from rfl,cond_false]
    simp only [q2fa,q2f6,Dt.eval,List.length_cons,List.length_nil,Nat.zero_add,show apB 0 1=true from rfl,cond_true]
    simp only [q2f8,Dt.eval,show IntKind.wrap .i64 ((0:Int)+1)=((1:Nat):Int) by decide]
  rw [hit,e2,hx]
  rfl
theorem q2zb (d:Nat) {a:List T3} {t u:Int} (hb:bdL a) (ht:i64B t=true) (hu:i64B u=true) (f:Nat) {i:Nat} (hi:0<i) (out:List T5) (h:i=a.length ∨ ∃ y,a[i]?=some y∧¬ y.1*u<t*y.2.1):iter (q2p9 d) (f+1) ((i:Int),t,u,a,out)=some out:=by
  rw [iter]
  generalize iter (q2p9 d) f=self
  unfold q2p9
  have hpos:decide ((i:Int) > 0)=true:=by rw [decide_eq_true_eq];omega
  rcases h with h | ⟨y,hy,hn⟩
  · simp only [q2oi, Dt.eval, q2ve (show ¬ i < a.length by omega), cond_false]
    simp only [q2p7,Dt.eval]
  · have hlt := (List.getElem?_eq_some_iff.1 hy).1
    obtain ⟨b1,b2⟩:=hb y (List.mem_of_getElem? hy)
    have e1:=q2tz d y.1 y.2.1 t u b1 b2 ht hu
    simp only [q2oi,Dt.eval,q2vd hlt,cond_true]
    simp only [q2om,q2nw,Dt.eval,hpos,cond_true,q2vc hlt,q2vb hy,e1]
    have hge:decide (cmpQ y.1 y.2.1 t u≥0)=true:=by
      rw [decide_eq_true_eq]
      rcases q2yb y.1 y.2.1 t u with ⟨j1,j2⟩ | ⟨j1,j2⟩ | ⟨j1,j2⟩<;>omega
    simp only [hge,cond_true,q2oq,Dt.eval]
set_option maxHeartbeats 2000000 in
theorem q2zc (d:Nat) {a:List T3} {t u:Int} (hb:bdL a) (hlen:a.length≤1000) (ht:i64B t=true) (hu:i64B u=true):∀ (f i:Nat) (x:T3) (out:List T5),a.length - i<f→a[i]?=some x→(i=0∨x.1*u<t*x.2.1)→out.length≤i →
    iter (q2p9 d) (f+1) ((i:Int),t,u,a,out)=some (out++reiL t u x (a.drop (i+1)))
  | 0,i,x,out,hf,_,_,_=>by omega
  | f + 1, i, x, out, hf, hx, h0, hout => by
    have hlt:=(List.getElem?_eq_some_iff.1 hx).1
    have ih:=fun x out=>q2zc d hb hlen ht hu f (i+1) x out
    have hex:=fun out h=>q2zb d hb ht hu f (i:=i+1) (by omega) out h
    obtain ⟨b1,b2⟩:=hb x (List.mem_of_getElem? hx)
    have e0:=q2tz d x.1 x.2.1 t u b1 b2 ht hu
    have wi:=q2va (show i<1000000 by omega)
    rw [iter]
    revert ih hex
    generalize iter (q2p9 d) (f+1)=self
    intro ih hex
    unfold q2p9
    have hap:apB out.length 1=true:=by unfold apB;rw [Nat.ble_eq];omega
    -- the first test lets it pass
    have e6:(q2om (q2nw d) ((i:Int),true,t,u,a,out))=(q2om (q2nw d) ((i:Int),true,t,u,a,out)):=rfl
    simp only [q2oi,Dt.eval,q2vd hlt,cond_true]
    have step:∀ k:q2ok→Option (List T5),(q2om (q2nw d) ((i:Int),true,t,u,a,out)).eval k=k ((i:Int),false,t,u,a,out):=fun k=>by
      rcases h0 with h0 | h0
      · subst h0
        simp only [q2om,Dt.eval,show decide (((0:Nat):Int) > 0)=false from rfl,cond_false]
      · by_cases hi : i = 0
        · subst hi
          simp only [q2om,Dt.eval,show decide (((0:Nat):Int) > 0)=false from rfl,cond_false]
        · have hpos : decide ((i : Int) > 0) = true := by rw [decide_eq_true_eq]; omega
          have hlt2:decide (cmpQ x.1 x.2.1 t u≥0)=false:=by
            rw [decide_eq_false_iff_not]
            rcases q2yb x.1 x.2.1 t u with ⟨j1,j2⟩ | ⟨j1,j2⟩ | ⟨j1,j2⟩<;>omega
          simp only [q2om,q2nw,Dt.eval,hpos,cond_true,q2vc hlt,q2vb hx,e0,hlt2]
    rw [step]
    simp only [cond_false]
    simp only [q2ou,Dt.eval]
    by_cases hlt1:i+1<a.length
    · obtain ⟨y, hy⟩ : ∃ y, a[i + 1]? = some y := ⟨_, List.getElem?_eq_getElem hlt1⟩
      obtain ⟨b3,b4⟩:=hb y (List.mem_of_getElem? hy)
      have e1:=q2tz d y.1 y.2.1 t u b3 b4 ht hu
      rw [q2vf hy]
      unfold reiL
      simp only [q2oy,q2nw,Dt.eval,wi,q2vd hlt1,cond_true,q2vc hlt1,q2vb hy,e1]
      by_cases hl:y.1*u<t*y.2.1
      · have hc:decide (cmpQ y.1 y.2.1 t u<0)=true:=by
          rw [decide_eq_true_eq]
          rcases q2yb y.1 y.2.1 t u with ⟨j1,j2⟩ | ⟨j1,j2⟩ | ⟨j1,j2⟩<;>omega
        simp only [hc,cond_true]
        simp only [q2p0,Dt.eval,wi,q2vc hlt1,cond_true,q2vb hy]
        simp only [q2p6,q2p2,Dt.eval,q2vc hlt,cond_true,q2vb hx,List.length_cons,List.length_nil,Nat.zero_add,hap]
        simp only [q2p4,Dt.eval,wi]
        rw [if_pos hl]
        have:=ih y (out ++ [(x.1,x.2.1,y.1,y.2.1,x.2.2.1,())]) (by omega) hy (.inr hl) (by rw [List.length_append];simp;omega)
        rw [List.append_assoc] at this
        exact this
      · have hc:decide (cmpQ y.1 y.2.1 t u<0)=false:=by
          rw [decide_eq_false_iff_not]
          rcases q2yb y.1 y.2.1 t u with ⟨j1,j2⟩ | ⟨j1,j2⟩ | ⟨j1,j2⟩<;>omega
        simp only [hc,cond_false]
        simp only [q2p6,q2p2,Dt.eval,q2vc hlt,cond_true,q2vb hx,List.length_cons,List.length_nil,Nat.zero_add,hap]
        simp only [q2p4,Dt.eval,wi]
        rw [if_neg hl]
        exact hex _ (.inr ⟨y,hy,hl⟩)
    · simp only [q2oy, Dt.eval, wi, q2ve hlt1, cond_false]
      simp only [q2p6,q2p2,Dt.eval,q2vc hlt,cond_true,q2vb hx,List.length_cons,List.length_nil,Nat.zero_add,hap]
      simp only [q2p4,Dt.eval,wi]
      rw [List.drop_eq_nil_of_le (by omega)]
      exact hex _ (.inl (by omega))
theorem q2zd (d:Nat) (hf:5000≤d) {l:List T3} {n dd t u:Int} (ht:i64B t=true) (hu:i64B u=true) {a:List T3} (ha:q2mm d ((l,()),(n,dd,()),())=some a) (hb:bdL a) (hlen:a.length≤1000) {x:T3} {r:List T3} (hx:a=x :: r):q2pa d ((l,()),(n,dd,()),(t,u,()),())=some (reiL t u x r):=by
  have hx0:a[0]?=some x:=by rw [hx];rfl
  have e:=q2zc d hb hlen ht hu (d - 1) 0 x [] (by omega) hx0 (.inl rfl) (by simp)
  rw [show d - 1+1=d by omega] at e
  simp only [q2pa,q2nw,q2o2,q2o6,q2oa,q2oe,Dt.eval,ha]
  refine e.trans ?_
  rw [hx]
  rfl
end Go.Proofs.YtpfhgnccpiildaaGreat

namespace Go.Pel
open Go Go.Tx
def fitQ (a b:Int):Int×Int×Int:=if a.natAbs≤9223372036854775807∧b.natAbs≤9223372036854775807 then (a,b,0) else (0,0,16)
def red (X D:Int):Int×Int×Int:=fitQ (X / (Nat.gcd X.natAbs D.natAbs:Nat)) (D / (Nat.gcd X.natAbs D.natAbs:Nat))
structure Low (X D a b:Int):Prop where
  pos:1≤b
  one:Nat.gcd a.natAbs b.natAbs=1
  eq:X*b=a*D
theorem Low.gcd {X D a b:Int} (hD:1≤D) (h:Low X D a b):X=a*(Nat.gcd X.natAbs D.natAbs:Nat)∧D=b*(Nat.gcd X.natAbs D.natAbs:Nat):=by
  obtain ⟨hb,h1,he⟩:=h
  have hn:X.natAbs*b.natAbs=a.natAbs*D.natAbs:=by rw [← Int.natAbs_mul,← Int.natAbs_mul,he]
  have k:b.natAbs ∣ D.natAbs:=Nat.Coprime.dvd_of_dvd_mul_left (k:=b.natAbs) (m:=a.natAbs) (n:=D.natAbs) (by rw [Nat.Coprime,Nat.gcd_comm];exact h1) ⟨X.natAbs,by rw [← hn,Nat.mul_comm]⟩
  obtain ⟨c,hc⟩:=k
  have e1:D=b*(c:Int):=by
    have e:(D.natAbs:Int)=(b.natAbs:Int)*(c:Int):=by rw [hc];simp
    rw [show (D.natAbs:Int)=D by omega,show (b.natAbs:Int)=b by omega] at e
    exact e
  have e2:X=a*(c:Int):=by
    rw [e1,← Int.mul_assoc,Int.mul_right_comm a b] at he
    exact Int.eq_of_mul_eq_mul_right (by omega) he
  have e3:Nat.gcd X.natAbs D.natAbs=c:=by
    rw [hc,e2,Int.natAbs_mul,Int.natAbs_natCast,Nat.gcd_mul_right,h1,Nat.one_mul]
  rw [e3]
  exact ⟨e2,e1⟩
theorem q2ze {X D a b:Int} (hD:1≤D) (h:Low X D a b):red X D=fitQ a b:=by
  obtain ⟨e1,e2⟩:=h.gcd hD
  have hg:1≤Nat.gcd X.natAbs D.natAbs:=Nat.gcd_pos_of_pos_right _ (by omega)
  unfold red
  generalize Nat.gcd X.natAbs D.natAbs=g at *
  rw [e1,e2,Int.mul_ediv_cancel _ (by omega),Int.mul_ediv_cancel _ (by omega)]
theorem q2zl {an bn a' b' A:Int} (h1:Nat.gcd an.natAbs A.natAbs=1) (hA:a' ∣ A) (h2:Nat.gcd a'.natAbs b'.natAbs=1):Nat.gcd (an*b'+bn*a').natAbs a'.natAbs=1:=by
  generalize hk:Nat.gcd (an*b'+bn*a').natAbs a'.natAbs=k
  have d1:(k:Int) ∣ an*b'+bn*a':=by rw [← hk];exact Int.ofNat_dvd_left.2 (Nat.gcd_dvd_left _ _)
  have d2:(k:Int) ∣ a':=by rw [← hk];exact Int.ofNat_dvd_left.2 (Nat.gcd_dvd_right _ _)
  have d3:(k:Int) ∣ an*b':=by
    have:=Int.dvd_sub d1 (Int.dvd_trans d2 (Int.dvd_mul_left bn a'))
    rwa [show an*b'+bn*a' - bn*a'=an*b' by omega] at this
  have d3n:k ∣ an.natAbs*b'.natAbs:=by rw [← Int.natAbs_mul];exact Int.ofNat_dvd_left.1 d3
  have d2n:k ∣ a'.natAbs:=Int.ofNat_dvd_left.1 d2
  have c1:Nat.Coprime k b'.natAbs:=Nat.Coprime.coprime_dvd_left d2n h2
  have d4:k ∣ an.natAbs:=Nat.Coprime.dvd_of_dvd_mul_right c1 d3n
  have d5:k ∣ A.natAbs:=Nat.dvd_trans d2n (Int.natAbs_dvd_natAbs.2 hA)
  have:=Nat.dvd_gcd d4 d5
  rw [h1] at this
  exact Nat.dvd_one.1 this
theorem q2zm {an ad bn bd g a' b':Int} (hg:1≤g) (ha:ad=a'*g) (hb:bd=b'*g) (pa:1≤a') (pb:1≤b') (h1:Nat.gcd an.natAbs ad.natAbs=1) (h2:Nat.gcd bn.natAbs bd.natAbs=1) (hc:Nat.gcd a'.natAbs b'.natAbs=1) {n m h c:Int} (hn:an*b'+bn*a'=n) (hh:(Nat.gcd n.natAbs g.natAbs:Int)=h) (hm:n=m*h) (hd:bd=c*h):Low (an*bd+bn*ad) (ad*bd) m (a'*c):=by
  have hg1:1≤Nat.gcd n.natAbs g.natAbs:=Nat.gcd_pos_of_pos_right _ (by omega)
  have hh1:1≤h:=by omega
  have c1:Nat.gcd n.natAbs a'.natAbs=1:=by rw [← hn];exact q2zl h1 ⟨g,ha⟩ hc
  have c2:Nat.gcd n.natAbs b'.natAbs=1:=by
    rw [← hn,Int.add_comm]
    exact q2zl h2 ⟨g,hb⟩ (by rw [Nat.gcd_comm];exact hc)
  have pc:1≤c:=by
    rcases (by omega:1≤c∨c≤0) with k | k
    · exact k
    · have := Int.mul_nonpos_of_nonpos_of_nonneg k (show (0 : Int) ≤ h by omega)
      have:=Int.mul_pos (show (0:Int)<b' by omega) (show (0:Int)<g by omega)
      omega
  -- c is b' times what is left of g
  have hgd:h ∣ g:=by rw [← hh];exact Int.ofNat_dvd_left.2 (Nat.gcd_dvd_right _ _)
  obtain ⟨e,he⟩:=hgd
  have hce:c=b'*e:=by
    have:c*h=(b'*e)*h:=by rw [← hd,hb,he,Int.mul_assoc,Int.mul_comm e h]
    exact Int.eq_of_mul_eq_mul_right (by omega) this
  have mdn:m.natAbs ∣ n.natAbs:=⟨h.natAbs,by rw [hm,Int.natAbs_mul]⟩
  have k1:Nat.Coprime m.natAbs a'.natAbs:=Nat.Coprime.coprime_dvd_left mdn c1
  have k2:Nat.Coprime m.natAbs b'.natAbs:=Nat.Coprime.coprime_dvd_left mdn c2
  have k3:Nat.Coprime m.natAbs e.natAbs:=by
    have q1:n.natAbs=m.natAbs*h.natAbs:=by rw [hm,Int.natAbs_mul]
    have q2:g.natAbs=e.natAbs*h.natAbs:=by rw [he,Int.natAbs_mul,Nat.mul_comm]
    have q3:Nat.gcd n.natAbs g.natAbs=h.natAbs:=by omega
    rw [q1,q2,Nat.gcd_mul_right] at q3
    have q4:Nat.gcd m.natAbs e.natAbs*h.natAbs=1*h.natAbs:=by omega
    exact Nat.eq_of_mul_eq_mul_right (by omega) q4
  refine ⟨?_,?_,?_⟩
  · have:=Int.mul_pos (show (0:Int)<a' by omega) (show (0:Int)<c by omega);omega
  · rw [hce, Int.natAbs_mul, Int.natAbs_mul]
    exact Nat.Coprime.mul_right k1 (Nat.Coprime.mul_right k2 k3)
  · have x1 : an * bd + bn * ad = n * g := by rw [← hn, ha, hb, Int.add_mul, Int.mul_assoc, Int.mul_assoc]
    rw [x1,hd,ha,hm]
    have:m*h*g*(a'*c)=m*(a'*g*(c*h)):=by
      rw [Int.mul_assoc m h g,Int.mul_assoc m]
      congr 1
      rw [Int.mul_comm h g,Int.mul_assoc,Int.mul_comm a' g,Int.mul_assoc g a',Int.mul_left_comm h a' c,Int.mul_comm h c]
    exact this
end Go.Pel

namespace Go.Pel
def dg (u c y:Int):Int:=(u*4294967296+c) / y
theorem q2zn {u c y:Int} (hu:0≤u) (huy:u<y) (hc:0≤c) (hcB:c<4294967296):0≤dg u c y∧dg u c y<4294967296:=by
  unfold dg
  refine ⟨Int.ediv_nonneg (by omega) (by omega),?_⟩
  exact Int.ediv_lt_of_lt_mul (by omega) (by omega)
theorem q2zo {u c y q:Int} (hy:0<y) (h:q*y≤u*4294967296+c):q≤dg u c y:=Int.le_ediv_of_mul_le hy h
theorem q2zp {u c y q:Int} (hy:0<y) (h:u*4294967296+c<q*y):dg u c y<q:=Int.ediv_lt_of_lt_mul hy h
theorem q2zq {q y1 y0:Int}:q*(y1*4294967296+y0)=(q*y1)*4294967296+q*y0:=by
  rw [Int.mul_add,Int.mul_assoc]
theorem q2zr {u c y1 y0:Int} (hu:0≤u) (hc:0≤c) (hcB:c<4294967296) (hy1:0<y1) (hy0:0≤y0):dg u c (y1*4294967296+y0)≤u / y1:=by
  have hy:0<y1*4294967296+y0:=by omega
  have h0:0≤dg u c (y1*4294967296+y0):=Int.ediv_nonneg (by omega) (by omega)
  have h1:dg u c (y1*4294967296+y0)*(y1*4294967296+y0)≤u*4294967296+c:=Int.ediv_mul_le _ (by omega)
  rw [q2zq] at h1
  have h2:0≤dg u c (y1*4294967296+y0)*y0:=Int.mul_nonneg h0 hy0
  exact Int.le_ediv_of_mul_le hy1 (by omega)
theorem q2zs {u c y1 y0 q r:Int} (hu:0≤u) (huy:u<y1*4294967296+y0) (hc:0≤c) (hcB:c<4294967296) (h:q*y1+r=u) (hq:4294967296≤q∨r*4294967296+c<q*y0):dg u c (y1*4294967296+y0)≤q - 1:=by
  rcases hq with hq | hq
  · have:=(q2zn hu huy hc hcB).2;omega
  · have := q2zp (u := u) (c := c) (y := y1 * 4294967296 + y0) (q := q) (by omega) (by rw [q2zq]; omega)
    omega
theorem q2zt {u c y1 y0 q r:Int} (hy:0<y1*4294967296+y0) (h:q*y1+r=u) (hq:q*y0≤r*4294967296+c) (hle:dg u c (y1*4294967296+y0)≤q):q=dg u c (y1*4294967296+y0):=by
  have:=q2zo (u:=u) (c:=c) (y:=y1*4294967296+y0) (q:=q) hy (by rw [q2zq];omega)
  omega
theorem q2zu {u c y1 y0 q r:Int} (huy:u<y1*4294967296+y0) (hc:0≤c) (hy1:0<y1) (hy0:0≤y0) (hy0B:y0<4294967296) (h:q*y1+r=u) (hr:4294967296≤r) (hq0:0≤q) (hle:dg u c (y1*4294967296+y0)≤q):q=dg u c (y1*4294967296+y0):=by
  have hqB:q<4294967296:=by
    have h1:q*y1<4294967296*y1:=by omega
    exact Int.lt_of_mul_lt_mul_right h1 (by omega)
  have h2:q*y0≤4294967295*4294967295:=Int.mul_le_mul (by omega) (by omega) hy0 (by omega)
  exact q2zt (by omega) h (by omega) hle
theorem q2zv {u c e y:Int} (hy:0<y):(u*18446744073709551616+c*4294967296+e) / y=dg u c y*4294967296+dg (u*4294967296+c - dg u c y*y) e y ∧
    (u*18446744073709551616+c*4294967296+e) % y=(u*4294967296+c - dg u c y*y)*4294967296+e - dg (u*4294967296+c - dg u c y*y) e y*y:=by
  generalize hq:dg u c y=q
  generalize hr:u*4294967296+c - q*y=r
  have e1:u*18446744073709551616+c*4294967296+e=(r*4294967296+e)+(q*4294967296)*y:=by
    have:(q*4294967296)*y=(q*y)*4294967296:=by rw [Int.mul_right_comm]
    rw [this];omega
  unfold dg
  constructor
  · rw [e1,Int.add_mul_ediv_right _ _ (by omega)];omega
  · rw [e1,Int.add_mul_emod_self_right,Int.emod_def,Int.mul_comm y]
end Go.Pel

namespace Go.Pel
open Go Go.Tx
theorem wu64 {a:Int} (h:0≤a∧a<18446744073709551616):IntKind.wrap .u64 a=a:=by rw [IntKind.wrap_u64];omega
theorem wu8 {a:Int} (h:0≤a∧a<256):IntKind.wrap .u8 a=a:=by rw [IntKind.wrap_u8];omega
theorem q2zw (x:Int) (n:Nat) (hn:n≤64):shrI .u64 x (n:Int)=x / (2 ^ n:Nat):=by
  unfold shrI
  rw [Int.toNat_natCast,show min n IntKind.u64.bits=n from Nat.min_eq_left hn,Int.fdiv_eq_ediv_of_nonneg _ (Int.pow_nonneg (by omega))]
  simp
theorem q2zx (x:Int) (n:Nat) (hn:n≤64):shlI .u64 x (n:Int)=(x*(2 ^ n:Nat)) % 18446744073709551616:=by
  unfold shlI
  rw [Int.toNat_natCast,show min n IntKind.u64.bits=n from Nat.min_eq_left hn,IntKind.wrap_u64]
  simp
theorem q2zy (x:Nat) (hx:x<18446744073709551616):andI .u64 (x:Int) 4294967295=((x % 4294967296:Nat):Int):=by
  unfold andI
  rw [show (BitVec.ofInt IntKind.u64.bits (x:Int) &&& BitVec.ofInt IntKind.u64.bits 4294967295).toNat=x % 4294967296 by
    rw [BitVec.toNat_and,BitVec.toNat_ofInt,BitVec.toNat_ofInt]
    rw [show (((x:Int) % ((2 ^ IntKind.u64.bits:Nat):Int)).toNat)=x by show ((x:Int) % 18446744073709551616).toNat=x;omega,show (((4294967295:Int) % ((2 ^ IntKind.u64.bits:Nat):Int)).toNat)=2 ^ 32 - 1 from rfl,Nat.and_two_pow_sub_one_eq_mod]]
  exact wu64 (by omega)
theorem or64 (a b s:Nat) (hb:b<2 ^ s) (h:2 ^ s*a+b<18446744073709551616):orI .u64 ((2 ^ s*a:Nat):Int) (b:Int)=((2 ^ s*a+b:Nat):Int):=by
  unfold orI
  have hb2:2 ^ s*a<18446744073709551616:=by omega
  rw [show (BitVec.ofInt IntKind.u64.bits ((2 ^ s*a:Nat):Int) ||| BitVec.ofInt IntKind.u64.bits (b:Int)).toNat=2 ^ s*a+b by
    rw [BitVec.toNat_or,BitVec.toNat_ofInt,BitVec.toNat_ofInt]
    rw [show ((((2 ^ s*a:Nat):Int) % ((2 ^ IntKind.u64.bits:Nat):Int)).toNat)=2 ^ s*a by show (((2 ^ s*a:Nat):Int) % 18446744073709551616).toNat=_;omega,show (((b:Int) % ((2 ^ IntKind.u64.bits:Nat):Int)).toNat)=b by show ((b:Int) % 18446744073709551616).toNat=_;omega]
    exact (Nat.two_pow_add_eq_or_of_lt hb a).symm]
  exact wu64 (by omega)
structure Hi64 (y n:Nat):Prop where
  n0:1≤n
  n64:n≤64
  lo:2 ^ (n - 1)≤y
  hi:y<2 ^ n
def len8:List Nat:=[0,1,2,2,3,3,3,3,4,4,4,4,4,4,4,4,5,5,5,5,5,5,5,5,5,5,5,5,5,5,5,5,6,6,6,6,6,6,6,6,6,6,6,6,6,6,6,6,6,6,6,6,6,6,6,6,6,6,6,6,6,6,6,6,7,7,7,7,7,7,7,7,7,7,7,7,7,7,7,7,7,7,7,7,7,7,7,7,7,7,7,7,7,7,7,7,7,7,7,7,7,7,7,7,7,7,7,7,7,7,7,7,7,7,7,7,7,7,7,7,7,7,7,7,7,7,7,7,8,8,8,8,8,8,8,8,8,8,8,8,8,8,8,8,8,8,8,8,8,8,8,8,8,8,8,8,8,8,8,8,8,8,8,8,8,8,8,8,8,8,8,8,8,8,8,8,8,8,8,8,8,8,8,8,8,8,8,8,8,8,8,8,8,8,8,8,8,8,8,8,8,8,8,8,8,8,8,8,8,8,8,8,8,8,8,8,8,8,8,8,8,8,8,8,8,8,8,8,8,8,8,8,8,8,8,8,8,8,8,8,8,8,8,8,8,8,8,8,8,8,8,8,8,8,8,8]
set_option maxRecDepth 100000 in
theorem q2zz:∀ x:Nat,1≤x→x<256→Hi64 x (len8.getD x 0)∧len8.getD x 0≤8:=by
  have h:(List.range 256).all (fun x=>Nat.beq x 0 || (Nat.ble 1 (len8.getD x 0)&&Nat.ble (len8.getD x 0) 8&&Nat.ble (2 ^ (len8.getD x 0 - 1)) x&&Nat.blt x (2 ^ len8.getD x 0)))=true:=by kernel_rfl
  intro x h1 h2
  have:=List.all_eq_true.1 h x (List.mem_range.2 h2)
  rw [Bool.or_eq_true] at this
  rcases this with k | k
  · have:=Nat.eq_of_beq_eq_true k;omega
  · simp only [Bool.and_eq_true, Nat.ble_eq, Nat.blt_eq] at k
    exact ⟨⟨k.1.1.1,by omega,k.1.2,k.2⟩,k.1.1.2⟩
theorem q300 {y n k:Nat} (h:Hi64 (y / 2 ^ k) n) (hk:n+k≤64):Hi64 y (n+k):=by
  have hp:0<2 ^ k:=Nat.two_pow_pos k
  refine ⟨by have:=h.n0;omega,hk,?_,?_⟩
  · have h1 := Nat.mul_le_mul_right (2 ^ k) h.lo
    have h2:=Nat.div_mul_le_self y (2 ^ k)
    rw [← Nat.pow_add] at h1
    have:=h.n0
    rw [show n+k - 1=n - 1+k by omega];omega
  · rw [Nat.pow_add]
    exact Nat.lt_mul_of_div_lt h.hi hp |> fun q=>by simpa [Nat.mul_comm] using q
theorem q301 {hi lo S T U V:Nat} (hST:S*T=18446744073709551616) (hS:0<S) (hT:0<T) (hU:S*hi+lo / T=U) (hV:lo*S % 18446744073709551616=V):U*18446744073709551616+V=(hi*18446744073709551616+lo)*S:=by
  obtain ⟨p,hp⟩:∃ p,lo / T=p:=⟨_,rfl⟩
  obtain ⟨q,hq⟩:∃ q,lo % T=q:=⟨_,rfl⟩
  have h0:T*p+q=lo:=by rw [← hp,← hq];exact Nat.div_add_mod lo T
  have hqT:q<T:=by rw [← hq];exact Nat.mod_lt _ hT
  have e2:q*S<18446744073709551616:=by
    have:=Nat.mul_lt_mul_of_pos_right hqT hS
    rw [Nat.mul_comm T S,hST] at this;exact this
  have e1:lo*S=p*18446744073709551616+q*S:=by rw [← h0,Nat.add_mul,← hST,Nat.mul_comm T p,Nat.mul_assoc,Nat.mul_comm T S]
  have e3:U*18446744073709551616=hi*18446744073709551616*S+p*18446744073709551616:=by
    rw [← hU,hp,Nat.add_mul,Nat.mul_comm S hi,Nat.mul_right_comm]
  rw [Nat.add_mul,e1,e3,← hV,e1]
  generalize hi*18446744073709551616*S=H
  generalize q*S=Q at *
  omega
end Go.Pel
namespace Go.Proofs.YtpfhgnccpiildaaGreat
open Go Go.Tx Go.Pel
set_option maxRecDepth 100000 in
theorem str8 {x:Nat} (hx:x<256):∀ t:ByteArray,t.data.toList.map (fun b=>b.toNat)=len8→strB t (x:Int)=true∧q35 t (x:Int)=((len8.getD x 0:Nat):Int):=by
  intro t ht
  have hl:t.data.toList.length=256:=by
    have:=congrArg List.length ht
    rw [List.length_map] at this
    rw [this];rfl
  refine ⟨?_,?_⟩
  · unfold strB
    rw [hl]
    simp only [Bool.and_eq_true,decide_eq_true_eq,Nat.blt_eq];omega
  · unfold q35
    rw [Int.toNat_natCast]
    have hg:len8[x]?=(t.data.toList[x]?).map (fun b=>b.toNat):=by rw [← ht,List.getElem?_map]
    rw [List.getD_eq_getElem?_getD,hg,List.getElem?_eq_getElem (by omega)]
    rfl
set_option maxRecDepth 100000 in
theorem q302 (d:Nat) {x n:Nat} (h1:1≤x) (h2:x<256) (hn:n≤56):q1e6 d ((x:Int),(n:Int))=some ((len8.getD x 0+n:Nat):Int):=by
  unfold q1e6 q1e4
  have w8:IntKind.wrap .u8 (x:Int)=(x:Int):=wu8 (by omega)
  simp only [w8]
  have hs:=fun t ht=>str8 h2 t ht
  have hk:=(q2zz x h1 h2).2
  rw [(hs _ (by kernel_rfl)).1,(hs _ (by kernel_rfl)).2]
  clear hs
  generalize len8.getD x 0=k at *
  have e1:IntKind.wrap .i64 (k:Int)=(k:Int):=IntWalk.i64_in _ (by omega)
  have e2:IntKind.wrap .i64 ((n:Int)+(k:Int))=((k+n:Nat):Int):=by rw [IntWalk.i64_in _ (by omega)];omega
  simp only [Dt.eval,cond_true,e1,e2]
theorem q303 (x k:Nat) (hk:k≤64):shrI .u64 (x:Int) (k:Int)=((x / 2 ^ k:Nat):Int):=by rw [q2zw _ _ hk];simp
theorem q304 (d:Nat) {x n:Nat} (h1:1≤x) (h2:x<65536) (hn:n≤48):∃ m,Hi64 x m∧m≤16∧q1e7 d ((x:Int),(n:Int))=some ((m+n:Nat):Int):=by
  unfold q1e7
  simp only [q1dw,q1dy,q1e0,Dt.eval]
  by_cases h:256≤x
  · obtain ⟨k1, k2⟩ := q2zz (x / 2 ^ 8) (by omega) (by omega)
    refine ⟨len8.getD (x / 2 ^ 8) 0+8,q300 k1 (by omega),by omega,?_⟩
    have c:decide ((x:Int)≥256)=true:=decide_eq_true (by omega)
    have e1:shrI .u64 (x:Int) (8:Int)=((x / 2 ^ 8:Nat):Int):=q303 x 8 (by omega)
    have e2:IntKind.wrap .i64 ((n:Int)+8)=((n+8:Nat):Int):=by rw [IntWalk.i64_in _ (by omega)];omega
    simp only [c,cond_true,e1,e2]
    rw [q302 d (by omega) (by omega) (by omega)]
    exact congrArg some (by omega)
  · obtain ⟨k1, k2⟩ := q2zz x h1 (by omega)
    refine ⟨_,k1,by omega,?_⟩
    have c:decide ((x:Int)≥256)=false:=decide_eq_false (by omega)
    simp only [c,cond_false]
    exact q302 d h1 (by omega) (by omega)
theorem q305 (d:Nat) {x n:Nat} (h1:1≤x) (h2:x<4294967296) (hn:n≤32):∃ m,Hi64 x m∧m≤32∧q1e8 d ((x:Int),(n:Int))=some ((m+n:Nat):Int):=by
  unfold q1e8
  simp only [q1do,q1dq,q1ds,Dt.eval]
  by_cases h:65536≤x
  · obtain ⟨m, k1, k2, k3⟩ := q304 d (x := x / 2 ^ 16) (n := n + 16) (by omega) (by omega) (by omega)
    refine ⟨m+16,q300 k1 (by omega),by omega,?_⟩
    have c:decide ((x:Int)≥65536)=true:=decide_eq_true (by omega)
    have e1:shrI .u64 (x:Int) (16:Int)=((x / 2 ^ 16:Nat):Int):=q303 x 16 (by omega)
    have e2:IntKind.wrap .i64 ((n:Int)+16)=((n+16:Nat):Int):=by rw [IntWalk.i64_in _ (by omega)];omega
    simp only [c,cond_true,e1,e2]
    rw [k3]
    exact congrArg some (by omega)
  · obtain ⟨m, k1, k2, k3⟩ := q304 d (x := x) (n := n) h1 (by omega) (by omega)
    refine ⟨m,k1,by omega,?_⟩
    have c:decide ((x:Int)≥65536)=false:=decide_eq_false (by omega)
    simp only [c,cond_false]
    exact k3
theorem q306 (d:Nat) {x:Nat} (h1:1≤x) (h2:x<18446744073709551616):∃ m,Hi64 x m∧q1e9 d (((x:Int),()),())=some (m:Int):=by
  simp only [q1e9,q1d6,q1dc,q1dg,q1di,q1dk,Dt.eval]
  by_cases h:4294967296≤x
  · obtain ⟨m, k1, k2, k3⟩ := q305 d (x := x / 2 ^ 32) (n := 32) (by omega) (by omega) (by omega)
    refine ⟨m+32,q300 k1 (by omega),?_⟩
    have c:decide ((x:Int)≥4294967296)=true:=decide_eq_true (by omega)
    have e1:shrI .u64 (x:Int) (32:Int)=((x / 2 ^ 32:Nat):Int):=q303 x 32 (by omega)
    simp only [c,cond_true,e1]
    exact k3
  · obtain ⟨m, k1, k2, k3⟩ := q305 d (x := x) (n := 0) h1 (by omega) (by omega)
    refine ⟨m,k1,?_⟩
    have c:decide ((x:Int)≥4294967296)=false:=decide_eq_false (by omega)
    simp only [c,cond_false]
    exact k3
theorem q307 (d:Nat) {y:Nat} (h1:1≤y) (h2:y<18446744073709551616):∃ s:Nat,s≤63∧9223372036854775808≤y*2 ^ s∧y*2 ^ s<18446744073709551616∧q1er d (((y:Int),()),())=some (s:Int):=by
  obtain ⟨m,k,e⟩:=q306 d h1 h2
  have m1:=k.n0
  have m2:=k.n64
  refine ⟨64 - m,by omega,?_,?_,?_⟩
  · have := Nat.mul_le_mul_right (2 ^ (64 - m)) k.lo
    rw [← Nat.pow_add,show m - 1+(64 - m)=63 by omega] at this
    exact this
  · have := Nat.mul_lt_mul_of_pos_right k.hi (Nat.two_pow_pos (64 - m))
    rw [← Nat.pow_add,show m+(64 - m)=64 by omega] at this
    exact this
  · have w : IntKind.wrap .i64 ((64 : Int) - (m : Int)) = ((64 - m : Nat) : Int) := by rw [IntWalk.i64_in _ (by omega)]; omega
    simp only [q1er,q1eh,q1el,q1ep,Dt.eval,e,w]
abbrev dv9:Type:=Int×Int×Int×Int×Int×Int×Int×Int×Int
theorem q308 {q yn0 r u:Int} (hq:0≤q) (hq2:q<4294967296) (hy:0≤yn0) (hy2:yn0<4294967296) (hr:0≤r) (hr2:r<4294967296) (hu:0≤u) (hu2:u<4294967296) :
    decide (IntKind.wrap .u64 (q*yn0) > IntKind.wrap .u64 (IntKind.wrap .u64 (4294967296*r)+u))=decide (r*4294967296+u<q*yn0):=by
  have hp:q*yn0≤4294967295*4294967295:=Int.mul_le_mul (by omega) (by omega) hy (by omega)
  have hp0:=Int.mul_nonneg hq hy
  rw [wu64 (a:=q*yn0) (by omega),wu64 (a:=4294967296*r) (by omega),wu64 (by omega)]
  congr 1
  exact propext (by omega)
theorem q309 (d:Nat) {y s yn1 yn0 un0 q1 u:Int} (hy:y=yn1*4294967296+yn0) (h1:2147483648≤yn1) (h2:yn1<4294967296) (h3:0≤yn0) (h4:yn0<4294967296) (hc:0≤un0) (hc2:un0<4294967296) (hu:0≤u) (huy:u<y):∀ (f:Nat) (q r:Int),4294967296≤r+f*2147483648→r<4294967296→0≤r→q<18446744073709551616→q*yn1+r=u→dg u un0 y≤q →
    ∃ r',iter (q1hq d) f ((y,s,yn1,yn0,un0,q1,r,u,q):dv9)=q1hp d (y,s,yn1,yn0,un0,q1,r',u,dg u un0 y)
  | 0,q,r,hf,hr,_,_,_,_=>by omega
  | f + 1, q, r, hf, hr, hr0, hqM, he, hle => by
    have ih:=q309 d (s:=s) (q1:=q1) hy h1 h2 h3 h4 hc hc2 hu huy f
    obtain ⟨g1,g2⟩:=q2zn hu huy hc hc2
    rw [iter]
    revert ih
    generalize iter (q1hq d) f=self
    intro ih
    unfold q1hq
    simp only [q1hd,q1hf,q1hh,q1hl,Dt.eval]
    have hy0:0<yn1*4294967296+yn0:=by omega
    have dec:4294967296≤q∨r*4294967296+un0<q*yn0→∃ r',(bif decide (IntKind.wrap .u64 (r+yn1)≥4294967296) then q1hp d (y,s,yn1,yn0,un0,q1,IntKind.wrap .u64 (r+yn1),u,IntKind.wrap .u64 (q - 1)) else self (y,s,yn1,yn0,un0,q1,IntKind.wrap .u64 (r+yn1),u,IntKind.wrap .u64 (q - 1)))=q1hp d (y,s,yn1,yn0,un0,q1,r',u,dg u un0 y):=fun hq=>by
      have hd:=q2zs (u:=u) (c:=un0) (y1:=yn1) (y0:=yn0) (q:=q) (r:=r) hu (by omega) hc hc2 he hq
      rw [← hy] at hd
      have e2:(q - 1)*yn1+(r+yn1)=u:=by rw [Int.sub_mul,Int.one_mul];omega
      rw [wu64 (a:=r+yn1) (by omega),wu64 (a:=q - 1) (by omega)]
      by_cases hb:r+yn1≥4294967296
      · have := q2zu (u := u) (c := un0) (y1 := yn1) (y0 := yn0) (q := q - 1) (r := r + yn1) (by omega) hc (by omega) h3 h4 e2 hb (by omega) (by rw [← hy]; exact hd)
        rw [← hy] at this
        rw [decide_eq_true hb,cond_true,this]
        exact ⟨_,rfl⟩
      · rw [decide_eq_false hb, cond_false]
        exact ih (q - 1) (r+yn1) (by omega) (by omega) (by omega) (by omega) e2 hd
    by_cases hq:q≥4294967296
    · simp only [decide_eq_true hq, cond_true, Dt.eval]
      exact dec (.inl hq)
    · simp only [decide_eq_false hq, cond_false, Dt.eval, q308 (show 0 ≤ q by omega) (show q < 4294967296 by omega) h3 h4 hr0 hr hc hc2]
      by_cases ht:r*4294967296+un0<q*yn0
      · simp only [decide_eq_true ht, cond_true]
        exact dec (.inr ht)
      · have := q2zt (u := u) (c := un0) (y1 := yn1) (y0 := yn0) (q := q) (r := r) hy0 he (by omega) (by rw [← hy]; exact hle)
        rw [← hy] at this
        simp only [decide_eq_false ht,cond_false]
        rw [this]
        exact ⟨_,rfl⟩
theorem q30a (d:Nat) {y s yn1 yn0 un1 un0 u:Int} (hy:y=yn1*4294967296+yn0) (h1:2147483648≤yn1) (h2:yn1<4294967296) (h3:0≤yn0) (h4:yn0<4294967296) (hc:0≤un1) (hc2:un1<4294967296) (hu:0≤u) (huy:u<y):∀ (f:Nat) (q r:Int),4294967296≤r+f*2147483648→r<4294967296→0≤r→q<18446744073709551616→q*yn1+r=u→dg u un1 y≤q →
    ∃ r',iter (q1hs d) f ((y,s,yn1,yn0,u,un1,un0,q,r):dv9)=q1hr d (y,s,yn1,yn0,u,un1,un0,dg u un1 y,r')
  | 0,q,r,hf,hr,_,_,_,_=>by omega
  | f + 1, q, r, hf, hr, hr0, hqM, he, hle => by
    have ih:=q30a d (s:=s) (un0:=un0) hy h1 h2 h3 h4 hc hc2 hu huy f
    obtain ⟨g1,g2⟩:=q2zn hu huy hc hc2
    rw [iter]
    revert ih
    generalize iter (q1hs d) f=self
    intro ih
    unfold q1hs
    simp only [q1gp,q1gr,q1gt,q1gx,Dt.eval]
    have hy0:0<yn1*4294967296+yn0:=by omega
    have dec:4294967296≤q∨r*4294967296+un1<q*yn0→∃ r',(bif decide (IntKind.wrap .u64 (r+yn1)≥4294967296) then q1hr d (y,s,yn1,yn0,u,un1,un0,IntKind.wrap .u64 (q - 1),IntKind.wrap .u64 (r+yn1)) else self (y,s,yn1,yn0,u,un1,un0,IntKind.wrap .u64 (q - 1),IntKind.wrap .u64 (r+yn1)))=q1hr d (y,s,yn1,yn0,u,un1,un0,dg u un1 y,r'):=fun hq=>by
      have hd:=q2zs (u:=u) (c:=un1) (y1:=yn1) (y0:=yn0) (q:=q) (r:=r) hu (by omega) hc hc2 he hq
      rw [← hy] at hd
      have e2:(q - 1)*yn1+(r+yn1)=u:=by rw [Int.sub_mul,Int.one_mul];omega
      rw [wu64 (a:=r+yn1) (by omega),wu64 (a:=q - 1) (by omega)]
      by_cases hb:r+yn1≥4294967296
      · have := q2zu (u := u) (c := un1) (y1 := yn1) (y0 := yn0) (q := q - 1) (r := r + yn1) (by omega) hc (by omega) h3 h4 e2 hb (by omega) (by rw [← hy]; exact hd)
        rw [← hy] at this
        rw [decide_eq_true hb,cond_true,this]
        exact ⟨_,rfl⟩
      · rw [decide_eq_false hb, cond_false]
        exact ih (q - 1) (r+yn1) (by omega) (by omega) (by omega) (by omega) e2 hd
    by_cases hq:q≥4294967296
    · simp only [decide_eq_true hq, cond_true, Dt.eval]
      exact dec (.inl hq)
    · simp only [decide_eq_false hq, cond_false, Dt.eval, q308 (show 0 ≤ q by omega) (show q < 4294967296 by omega) h3 h4 hr0 hr hc hc2]
      by_cases ht:r*4294967296+un1<q*yn0
      · simp only [decide_eq_true ht, cond_true]
        exact dec (.inr ht)
      · have := q2zt (u := u) (c := un1) (y1 := yn1) (y0 := yn0) (q := q) (r := r) hy0 he (by omega) (by rw [← hy]; exact hle)
        rw [← hy] at this
        simp only [decide_eq_false ht,cond_false]
        rw [this]
        exact ⟨_,rfl⟩
theorem q30b {u yn1:Int} (hu:0≤u) (hu2:u<18446744073709551616) (h1:2147483648≤yn1):IntKind.wrap .u64 (Int.tdiv u yn1)=u / yn1∧IntKind.wrap .u64 (u - IntKind.wrap .u64 (u / yn1*yn1))=u % yn1:=by
  have q0:=Int.ediv_nonneg hu (show (0:Int)≤yn1 by omega)
  have q1:=Int.ediv_le_self yn1 hu
  have q2:u / yn1*yn1≤u:=Int.ediv_mul_le _ (by omega)
  have q3:=Int.mul_nonneg q0 (show (0:Int)≤yn1 by omega)
  have q4:u / yn1*yn1+u % yn1=u:=by have:=Int.ediv_mul_add_emod u yn1;omega
  have q5:=Int.emod_nonneg u (show yn1≠0 by omega)
  refine ⟨by rw [Int.tdiv_eq_ediv_of_nonneg hu,wu64 (by omega)],?_⟩
  rw [wu64 (a:=u / yn1*yn1) (by omega),wu64 (by omega)];omega
theorem q30c (d:Nat) (hd:10≤d) {y yn1 yn0 un1 un0 u q1 r:Int} {s:Nat} (hs:s≤63) (hy:y=yn1*4294967296+yn0) (h1:2147483648≤yn1) (h2:yn1<4294967296) (h3:0≤yn0) (h4:yn0<4294967296) (hc:0≤un1) (hc2:un1<4294967296) (he:0≤un0) (he2:un0<4294967296) (hu:0≤u) (huy:u<y) (hq:q1=dg u un1 y) :
    q1hr d (y,(s:Int),yn1,yn0,u,un1,un0,q1,r)=some ((u*18446744073709551616+un1*4294967296+un0) / y,((u*18446744073709551616+un1*4294967296+un0) % y) / (2 ^ s:Nat)):=by
  have hy0:0<y:=by omega
  obtain ⟨t1,t2⟩:=q2zv (u:=u) (c:=un1) (e:=un0) hy0
  obtain ⟨a1,a2⟩:=q2zn hu huy hc hc2
  rw [← hq] at t1 t2 a1 a2
  -- what is left behind the first digit
  have m0:0≤u*4294967296+un1 - q1*y∧u*4294967296+un1 - q1*y<y:=by
    have e:u*4294967296+un1 - q1*y=(u*4294967296+un1) % y:=by
      rw [hq];unfold dg
      have:=Int.ediv_mul_add_emod (u*4294967296+un1) y
      omega
    rw [e];exact ⟨Int.emod_nonneg _ (by omega),Int.emod_lt_of_pos _ hy0⟩
  have w1:IntKind.wrap .u64 (IntKind.wrap .u64 (IntKind.wrap .u64 (u*4294967296)+un1) - IntKind.wrap .u64 (q1*y))=u*4294967296+un1 - q1*y:=by
    rw [IntKind.wrap_u64,IntKind.wrap_u64,IntKind.wrap_u64,IntKind.wrap_u64]
    generalize q1*y=P at *
    omega
  generalize hu2:u*4294967296+un1 - q1*y=v at *
  obtain ⟨f1,f2⟩:=q30b m0.1 (show v<18446744073709551616 by omega) h1
  have c1:(yn1 == (0:Int))=false:=by rw [beq_eq_false_iff_ne];omega
  have hv4:v % yn1<yn1:=Int.emod_lt_of_pos _ (by omega)
  have hv5:=Int.emod_nonneg v (show yn1≠0 by omega)
  have hv6:v / yn1*yn1+v % yn1=v:=by have:=Int.ediv_mul_add_emod v yn1;omega
  have hv7:=Int.ediv_le_self yn1 m0.1
  have hini:=q2zr (u:=v) (c:=un0) (y1:=yn1) (y0:=yn0) m0.1 he he2 (by omega) h3
  rw [← hy] at hini
  obtain ⟨r',hL⟩:=q309 d (s:=(s:Int)) (q1:=q1) hy h1 h2 h3 h4 he he2 m0.1 m0.2 d (v / yn1) (v % yn1) (by omega) (by omega) hv5 (by omega) hv6 hini
  unfold q1hr
  simp only [q1h1,q1h5,q1h9,Dt.eval,w1,c1,cond_false,f1,f2]
  rw [hL]
  obtain ⟨b1,b2⟩:=q2zn m0.1 m0.2 he he2
  unfold q1hp
  have c2:decide ((s:Int)<0)=false:=decide_eq_false (by omega)
  simp only [q1hn,Dt.eval,c2,cond_false]
  rw [t1,t2]
  have n0:0≤v*4294967296+un0 - dg v un0 y*y∧v*4294967296+un0 - dg v un0 y*y<y:=by
    have e:v*4294967296+un0 - dg v un0 y*y=(v*4294967296+un0) % y:=by
      unfold dg
      have:=Int.ediv_mul_add_emod (v*4294967296+un0) y
      omega
    rw [e];exact ⟨Int.emod_nonneg _ (by omega),Int.emod_lt_of_pos _ hy0⟩
  have w2:IntKind.wrap .u64 (IntKind.wrap .u64 (IntKind.wrap .u64 (v*4294967296)+un0) - IntKind.wrap .u64 (dg v un0 y*y))=v*4294967296+un0 - dg v un0 y*y:=by
    rw [IntKind.wrap_u64,IntKind.wrap_u64,IntKind.wrap_u64,IntKind.wrap_u64]
    generalize dg v un0 y*y=P at *
    omega
  rw [w2,q2zw _ s (by omega),wu64 (a:=q1*4294967296) (by omega),wu64 (by omega)]
theorem q30d (d:Nat) (hd:10≤d) {hi lo y:Nat} (hy:hi<y) (hy2:y<18446744073709551616) (hlo:lo<18446744073709551616) :
    q1hv d (((hi:Int),()),((lo:Int),()),((y:Int),()),())=some ((((hi*18446744073709551616+lo) / y:Nat):Int),(((hi*18446744073709551616+lo) % y:Nat):Int)):=by
  have c1:((y:Int) == 0)=false:=by rw [beq_eq_false_iff_ne];omega
  have c2:decide ((y:Int)≤(hi:Int))=false:=by rw [decide_eq_false_iff_not];omega
  simp only [q1hv,q1ez,q1hu,q1ht,q1f3,q1f7,q1fb,q1ff,q1fj,Dt.eval,c1,c2,cond_false]
  by_cases h0:hi=0
  · subst h0
    have b:=Nat.div_le_self lo y
    have e0:(lo:Int).tdiv (y:Int)=((lo / y:Nat):Int):=by rw [Int.tdiv_eq_ediv_of_nonneg (by omega)];rfl
    have e1:(lo:Int).tmod (y:Int)=((lo % y:Nat):Int):=by rw [Int.tmod_eq_emod_of_nonneg (by omega)];rfl
    have w:IntKind.wrap .u64 ((lo / y:Nat):Int)=((lo / y:Nat):Int):=by
      generalize lo / y=q at *
      exact wu64 (by omega)
    simp only [show (((0:Nat):Int) == 0)=true from rfl,cond_true,e0,e1,w]
    rw [Nat.zero_mul,Nat.zero_add]
  · have c3 : ((hi : Int) == 0) = false := by rw [beq_eq_false_iff_ne]; omega
    obtain ⟨s,s1,s2,s3,es⟩:=q307 d (y:=y) (by omega) hy2
    have hS:0<2 ^ s:=Nat.two_pow_pos s
    have hST:2 ^ s*2 ^ (64 - s)=18446744073709551616:=by rw [← Nat.pow_add,show s+(64 - s)=64 by omega]
    have hT:0<2 ^ (64 - s):=Nat.two_pow_pos _
    have k1:hi*2 ^ s<y*2 ^ s:=Nat.mul_lt_mul_of_pos_right hy hS
    have k2:lo / 2 ^ (64 - s)<2 ^ s:=Nat.div_lt_of_lt_mul (by rw [Nat.mul_comm,hST];exact hlo)
    have k3:(hi+1)*2 ^ s≤y*2 ^ s:=Nat.mul_le_mul_right _ (by omega)
    rw [Nat.add_mul,Nat.one_mul] at k3
    have ws:IntKind.wrap .u64 (s:Int)=(s:Int):=wu64 (by omega)
    have ds:decide ((s:Int)<0)=false:=decide_eq_false (by omega)
    have wt:IntKind.wrap .u64 ((64:Int) - (s:Int))=((64 - s:Nat):Int):=by rw [wu64 (by omega)];omega
    have dt:decide (((64 - s:Nat):Int)<0)=false:=decide_eq_false (by omega)
    have x1:shlI .u64 (y:Int) (s:Int)=((y*2 ^ s:Nat):Int):=by
      rw [q2zx _ _ (by omega),show (y:Int)*((2 ^ s:Nat):Int)=((y*2 ^ s:Nat):Int) by simp];omega
    have x2:shlI .u64 (hi:Int) (s:Int)=((2 ^ s*hi:Nat):Int):=by
      rw [q2zx _ _ (by omega),show (hi:Int)*((2 ^ s:Nat):Int)=((2 ^ s*hi:Nat):Int) by rw [Nat.mul_comm];simp]
      rw [Nat.mul_comm];omega
    have x3:shrI .u64 (lo:Int) ((64 - s:Nat):Int)=((lo / 2 ^ (64 - s):Nat):Int):=by rw [q2zw _ _ (by omega)];rfl
    have x4:orI .u64 ((2 ^ s*hi:Nat):Int) ((lo / 2 ^ (64 - s):Nat):Int)=((2 ^ s*hi+lo / 2 ^ (64 - s):Nat):Int):=or64 hi _ s k2 (by rw [Nat.mul_comm (2 ^ s) hi];omega)
    have x5:shlI .u64 (lo:Int) (s:Int)=((lo*2 ^ s % 18446744073709551616:Nat):Int):=by
      rw [q2zx _ _ (by omega),show (lo:Int)*((2 ^ s:Nat):Int)=((lo*2 ^ s:Nat):Int) by simp];rfl
    obtain ⟨Y,hY⟩:∃ Y,y*2 ^ s=Y:=⟨_,rfl⟩
    obtain ⟨U,hU⟩:∃ U,2 ^ s*hi+lo / 2 ^ (64 - s)=U:=⟨_,rfl⟩
    obtain ⟨V,hV⟩:∃ V,lo*2 ^ s % 18446744073709551616=V:=⟨_,rfl⟩
    have hUY:U<Y:=by rw [← hU,← hY,Nat.mul_comm (2 ^ s) hi];omega
    have hV2:V<18446744073709551616:=by rw [← hV];exact Nat.mod_lt _ (by omega)
    have hX:U*18446744073709551616+V=(hi*18446744073709551616+lo)*2 ^ s:=q301 hST hS hT hU hV
    rw [hY] at x1 s2 s3
    rw [hU] at x4
    rw [hV] at x5
    have y1:shrI .u64 (Y:Int) (32:Int)=((Y / 4294967296:Nat):Int):=q303 Y 32 (by omega)
    have y2:andI .u64 (Y:Int) 4294967295=((Y % 4294967296:Nat):Int):=q2zy Y s3
    have y3:shrI .u64 (V:Int) (32:Int)=((V / 4294967296:Nat):Int):=q303 V 32 (by omega)
    have y4:andI .u64 (V:Int) 4294967295=((V % 4294967296:Nat):Int):=q2zy V hV2
    obtain ⟨f1,f2⟩:=q30b (u:=(U:Int)) (yn1:=((Y / 4294967296:Nat):Int)) (by omega) (by omega) (by omega)
    have cy:(((Y / 4294967296:Nat):Int) == 0)=false:=by rw [beq_eq_false_iff_ne];omega
    have hYe:(Y:Int)=((Y / 4294967296:Nat):Int)*4294967296+((Y % 4294967296:Nat):Int):=by omega
    have hini:=q2zr (u:=(U:Int)) (c:=((V / 4294967296:Nat):Int)) (y1:=((Y / 4294967296:Nat):Int)) (y0:=((Y % 4294967296:Nat):Int)) (by omega) (by omega) (by omega) (by omega) (by omega)
    rw [← hYe] at hini
    have hv4:(U:Int) % ((Y / 4294967296:Nat):Int)<((Y / 4294967296:Nat):Int):=Int.emod_lt_of_pos _ (by omega)
    have hv5:=Int.emod_nonneg (U:Int) (show ((Y / 4294967296:Nat):Int)≠0 by omega)
    have hv6:(U:Int) / ((Y / 4294967296:Nat):Int)*((Y / 4294967296:Nat):Int)+(U:Int) % ((Y / 4294967296:Nat):Int)=(U:Int):=by have:=Int.ediv_mul_add_emod (U:Int) ((Y / 4294967296:Nat):Int);omega
    have hv7:=Int.ediv_le_self ((Y / 4294967296:Nat):Int) (show (0:Int)≤(U:Int) by omega)
    obtain ⟨r',hL⟩:=q30a d (s:=(s:Int)) (un0:=((V % 4294967296:Nat):Int)) hYe (by omega) (by omega) (by omega) (by omega) (show (0:Int)≤((V / 4294967296:Nat):Int) by omega) (by omega) (show (0:Int)≤(U:Int) by omega) (by omega) d _ _ (by omega) (by omega) hv5 (by omega) hv6 hini
    have hJ:=q30c d hd (r:=r') s1 hYe (by omega) (by omega) (by omega) (by omega) (show (0:Int)≤((V / 4294967296:Nat):Int) by omega) (by omega) (show (0:Int)≤((V % 4294967296:Nat):Int) by omega) (by omega) (show (0:Int)≤(U:Int) by omega) (by omega) rfl
    simp only [c3,cond_false,q1fn,q1fp,q1ft,q1fx,q1g1,q1g5,q1g9,q1gd,q1gh,q1gl,q1ez,Dt.eval,es,ws,ds,x1,y1,y2,wt,dt,x2,x3,x4,x5,y3,y4,cy,f1,f2]
    rw [hL,hJ]
    have hz:(U:Int)*18446744073709551616+((V / 4294967296:Nat):Int)*4294967296+((V % 4294967296:Nat):Int)=(((hi*18446744073709551616+lo)*2 ^ s:Nat):Int):=by rw [← hX];omega
    rw [hz,← hY]
    generalize hi*18446744073709551616+lo=X
    have r1:((X*2 ^ s:Nat):Int) / ((y*2 ^ s:Nat):Int)=((X / y:Nat):Int):=by
      show ((X*2 ^ s / (y*2 ^ s):Nat):Int)=_
      rw [Nat.mul_div_mul_right _ _ hS]
    have r2:((X*2 ^ s:Nat):Int) % ((y*2 ^ s:Nat):Int) / ((2 ^ s:Nat):Int)=((X % y:Nat):Int):=by
      show ((X*2 ^ s % (y*2 ^ s) / 2 ^ s:Nat):Int)=_
      rw [Nat.mul_mod_mul_right,Nat.mul_div_cancel _ hS]
    rw [r1,r2]
end Go.Proofs.YtpfhgnccpiildaaGreat

namespace Go.Pel
open Go Go.Tx
abbrev hiN (P:Nat):Int:=((P / 18446744073709551616:Nat):Int)
abbrev loN (P:Nat):Int:=((P % 18446744073709551616:Nat):Int)
theorem q30f {P y:Nat} (hy:0<y):P / y=(P / 18446744073709551616 / y)*18446744073709551616+((P / 18446744073709551616 % y)*18446744073709551616+P % 18446744073709551616) / y∧P % y=((P / 18446744073709551616 % y)*18446744073709551616+P % 18446744073709551616) % y:=by
  obtain ⟨h,hh⟩:∃ h,P / 18446744073709551616=h:=⟨_,rfl⟩
  obtain ⟨l,hl⟩:∃ l,P % 18446744073709551616=l:=⟨_,rfl⟩
  have hP:P=h*18446744073709551616+l:=by omega
  obtain ⟨q,hq⟩:∃ q,h / y=q:=⟨_,rfl⟩
  obtain ⟨r,hr⟩:∃ r,h % y=r:=⟨_,rfl⟩
  have hqr:y*q+r=h:=by rw [← hq,← hr];exact Nat.div_add_mod h y
  have e:P=(r*18446744073709551616+l)+y*(q*18446744073709551616):=by
    rw [hP,← hqr,Nat.add_mul,Nat.mul_assoc];omega
  rw [hh,hl,hq,hr]
  constructor
  · rw [e,Nat.add_mul_div_left _ _ hy];omega
  · rw [e,Nat.add_mul_mod_self_left]
theorem q30g {P y:Nat} (hy:0<y):((P / 18446744073709551616 % y)*18446744073709551616+P % 18446744073709551616) / y<18446744073709551616:=by
  rw [Nat.div_lt_iff_lt_mul hy]
  have h1:P / 18446744073709551616 % y<y:=Nat.mod_lt _ hy
  have h2:P % 18446744073709551616<18446744073709551616:=Nat.mod_lt _ (by omega)
  have h3:(P / 18446744073709551616 % y+1)*18446744073709551616≤y*18446744073709551616:=Nat.mul_le_mul_right _ h1
  rw [Nat.add_mul] at h3
  rw [Nat.mul_comm 18446744073709551616 y]
  omega
def sgn (s:Bool) (n:Nat):Int:=if s then -(n:Int) else n
theorem q30h (s:Bool) (n:Nat):(sgn s n).natAbs=n:=by unfold sgn;cases s<;>simp
theorem q30j {x y:Int} {s1 s2:Bool} {P Q:Nat} (hx:x=sgn s1 P) (hy:y=sgn s2 Q):x+y=(if s1=s2 then sgn s1 (P+Q) else if P<Q then sgn s2 (Q - P) else sgn s1 (P - Q)):=by
  subst hx hy
  unfold sgn
  cases s1<;>cases s2<;>simp<;>(try split)<;>omega
end Go.Pel
namespace Go.Proofs.YtpfhgnccpiildaaGreat
open Go Go.Tx Go.Pel
theorem q30k (d g:Nat) (a b:Nat) (hb:1≤b):iter (q1je d) (g+1) ((a:Int),(b:Int))=iter (q1je d) g ((b:Int),((a % b:Nat):Int)):=by
  rw [iter]
  generalize iter (q1je d) g=self
  unfold q1je
  have c1:decide ((b:Int) > 0)=true:=decide_eq_true (by omega)
  have c2:((b:Int) == 0)=false:=by rw [beq_eq_false_iff_ne];omega
  have e1:(a:Int).tmod (b:Int)=((a % b:Nat):Int):=by rw [Int.tmod_eq_emod_of_nonneg (by omega)];rfl
  simp only [q1j6,q1j8,q1jc,Dt.eval,c1,c2,cond_true,cond_false,e1]
theorem q30l (d g:Nat) (a:Nat):iter (q1je d) (g+1) ((a:Int),((0:Nat):Int))=some (a:Int):=by
  rw [iter]
  generalize iter (q1je d) g=self
  unfold q1je
  simp only [q1j6,q1j8,q1jc,Dt.eval,show decide (((0:Nat):Int) > 0)=false from rfl,cond_false]
theorem q30m {b r k:Nat} (h:b<2 ^ (k+1)) (hr:r<b) (h0:0<r):b % r<2 ^ k:=by
  rw [Nat.pow_succ] at h
  rcases Nat.lt_or_ge (b / 2) r with q | q
  · have : b % r = b - r := by rw [Nat.mod_eq_sub_mod (by omega)]; exact Nat.mod_eq_of_lt (by omega)
    omega
  · have:=Nat.mod_lt b h0;omega
theorem q30n (d:Nat):∀ (k f a b:Nat),b<2 ^ k→2*k+1≤f→iter (q1je d) f ((a:Int),(b:Int))=some ((Nat.gcd b a:Nat):Int)
  | 0, f, a, b, hb, hf => by
    obtain ⟨f,rfl⟩:∃ g,f=g+1:=⟨f - 1,by omega⟩
    obtain rfl:b=0:=by simpa using hb
    rw [q30l,Nat.gcd_zero_left]
  | k + 1, f, a, b, hb, hf => by
    obtain ⟨f,rfl⟩:∃ g,f=g+2:=⟨f - 2,by omega⟩
    rcases Nat.eq_zero_or_pos b with h | h
    · subst h
      rw [q30l,Nat.gcd_zero_left]
    · rw [q30k d (f + 1) a b h]
      have hr:=Nat.mod_lt a h
      have hg:Nat.gcd b a=Nat.gcd (a % b) b:=Nat.gcd_rec b a
      rw [hg]
      generalize a % b=r at *
      rcases Nat.eq_zero_or_pos r with h0 | h0
      · subst h0
        rw [q30l,Nat.gcd_zero_left]
      · rw [q30k d f b r h0,q30n d k f r (b % r) (q30m hb hr h0) (by omega),Nat.gcd_rec r b]
theorem q30o (d:Nat) (hd:200≤d) {a b:Nat} (hb:b<18446744073709551616):q1jf d (((a:Int),()),((b:Int),()),())=some ((Nat.gcd a b:Nat):Int):=by
  simp only [q1jf,q1j2,Dt.eval]
  rw [q30n d 64 d a b hb (by omega),Nat.gcd_comm]
theorem q30p {x y:Nat} {c:Nat} (hx:x<18446744073709551616) (hy:y<18446744073709551616) (hc:c≤1):q1ct (x:Int) (y:Int) (c:Int)=some ((((x+y+c) % 18446744073709551616:Nat):Int),(((x+y+c) / 18446744073709551616:Nat):Int)):=by
  unfold q1ct
  rw [show (decide ((0:Int)≤(x:Int))&&decide ((x:Int)<18446744073709551616)&&decide ((0:Int)≤(y:Int))&&decide ((y:Int)<18446744073709551616)&&decide ((0:Int)≤(c:Int))&&decide ((c:Int)≤1))=true by simp only [Bool.and_eq_true,decide_eq_true_eq];omega,cond_true]
  rfl
theorem q30q {x y c:Nat} (hx:x<18446744073709551616) (hy:y<18446744073709551616) (hc:c≤1):q1cu (x:Int) (y:Int) (c:Int)=some (((x:Int) - y - c) % 18446744073709551616,bif decide ((x:Int)<y+c) then 1 else 0):=by
  unfold q1cu
  rw [show (decide ((0:Int)≤(x:Int))&&decide ((x:Int)<18446744073709551616)&&decide ((0:Int)≤(y:Int))&&decide ((y:Int)<18446744073709551616)&&decide ((0:Int)≤(c:Int))&&decide ((c:Int)≤1))=true by simp only [Bool.and_eq_true,decide_eq_true_eq];omega,cond_true]
theorem q30r {P Q:Nat} (hP:P<340282366920938463463374607431768211456) (h:Q≤P):∃ b:Nat,b≤1∧q1cu (loN P) (loN Q) ((0:Nat):Int)=some (loN (P - Q),(b:Int))∧q1cu (hiN P) (hiN Q) (b:Int)=some (hiN (P - Q),0):=by
  by_cases hb:P % 18446744073709551616<Q % 18446744073709551616
  · refine ⟨1, Nat.le_refl _, ?_, ?_⟩
    · rw [q30q (by omega) (by omega) (by omega), show decide (((P % 18446744073709551616 : Nat) : Int) < ((Q % 18446744073709551616 : Nat) : Int) + ((0 : Nat) : Int)) = true by rw [decide_eq_true_eq]; omega, cond_true]
      refine congrArg some (Prod.ext ?_ rfl)
      show _=((_:Nat):Int)
      omega
    · rw [q30q (by omega) (by omega) (by omega), show decide (((P / 18446744073709551616 : Nat) : Int) < ((Q / 18446744073709551616 : Nat) : Int) + ((1 : Nat) : Int)) = false by rw [decide_eq_false_iff_not]; omega, cond_false]
      refine congrArg some (Prod.ext ?_ rfl)
      show _=((_:Nat):Int)
      omega
  · refine ⟨0, Nat.zero_le _, ?_, ?_⟩
    · rw [q30q (by omega) (by omega) (by omega), show decide (((P % 18446744073709551616 : Nat) : Int) < ((Q % 18446744073709551616 : Nat) : Int) + ((0 : Nat) : Int)) = false by rw [decide_eq_false_iff_not]; omega, cond_false]
      refine congrArg some (Prod.ext ?_ rfl)
      show _=((_:Nat):Int)
      omega
    · rw [q30q (by omega) (by omega) (by omega), show decide (((P / 18446744073709551616 : Nat) : Int) < ((Q / 18446744073709551616 : Nat) : Int) + ((0 : Nat) : Int)) = false by rw [decide_eq_false_iff_not]; omega, cond_false]
      refine congrArg some (Prod.ext ?_ rfl)
      show _=((_:Nat):Int)
      omega
theorem q30s {P Q:Nat} (hP:P<170141183460469231731687303715884105728) (hQ:Q<170141183460469231731687303715884105728):∃ c:Int,q1ct (loN P) (loN Q) 0=some (loN (P+Q),c)∧∃ c2:Int,q1ct (hiN P) (hiN Q) c=some (hiN (P+Q),c2):=by
  have a1:=q30p (x:=P % 18446744073709551616) (y:=Q % 18446744073709551616) (c:=0) (by omega) (by omega) (by omega)
  have a2:=q30p (x:=P / 18446744073709551616) (y:=Q / 18446744073709551616) (c:=(P % 18446744073709551616+Q % 18446744073709551616+0) / 18446744073709551616) (by omega) (by omega) (by omega)
  have r1:(P / 18446744073709551616+Q / 18446744073709551616+(P % 18446744073709551616+Q % 18446744073709551616+0) / 18446744073709551616) % 18446744073709551616=(P+Q) / 18446744073709551616:=by omega
  have r2:(P % 18446744073709551616+Q % 18446744073709551616+0) % 18446744073709551616=(P+Q) % 18446744073709551616:=by omega
  rw [r2] at a1
  rw [r1] at a2
  exact ⟨_,a1,_,a2⟩
theorem q30t (d:Nat) {s:Bool} {p1 p0 q1 q0 X1 X2 c c2:Int} (a1:q1ct p0 q0 0=some (X2,c)) (a2:q1ct p1 q1 c=some (X1,c2)):q1ks d ((s,p1,p0,()),(s,q1,q0,()),())=some (s,X1,X2):=by
  simp only [q1ks,q1jn,q1jt,q1jx,q1k1,q1k5,q1k9,Dt.eval,beq_self_eq_true,cond_true,a1,a2]
theorem q30u (d:Nat) {s1 s2:Bool} {p1 p0 q1 q0 X1 X2 z b c:Int} (c1:(s1 == s2)=false) (e1:q14o d ((s1,p1,p0,()),(s2,q1,q0,()),())=some z) (hz:decide (z<0)=true) (b1:q1cu q0 p0 0=some (X2,b)) (b2:q1cu q1 p1 b=some (X1,c)):q1ks d ((s1,p1,p0,()),(s2,q1,q0,()),())=some (s2,X1,X2):=by
  unfold q1ks q1kr
  simp only [q1ks,q1jn,q1jt,q1jx,q1k1,q1k5,q1k9,q1kd,q1kf,q1kj,q1kn,q1kp,Dt.eval,c1,cond_false,e1,hz,cond_true,b1,b2]
theorem q30v (d:Nat) {s1 s2:Bool} {p1 p0 q1 q0 X1 X2 z b c:Int} (c1:(s1 == s2)=false) (e1:q14o d ((s1,p1,p0,()),(s2,q1,q0,()),())=some z) (hz:decide (z<0)=false) (b1:q1cu p0 q0 0=some (X2,b)) (b2:q1cu p1 q1 b=some (X1,c)):q1ks d ((s1,p1,p0,()),(s2,q1,q0,()),())=some (s1,X1,X2):=by
  unfold q1ks q1kr
  simp only [q1ks,q1jn,q1jt,q1jx,q1k1,q1k5,q1k9,q1kd,q1kf,q1kj,q1kn,q1kp,Dt.eval,c1,cond_false,e1,hz,b1,b2]
theorem q30w (d:Nat) {s:Bool} {P Q:Nat} (hP:P<170141183460469231731687303715884105728) (hQ:Q<170141183460469231731687303715884105728):q1ks d ((s,hiN P,loN P,()),(s,hiN Q,loN Q,()),())=some (s,hiN (P+Q),loN (P+Q)):=by
  obtain ⟨c,a1,c2,a2⟩:=q30s hP hQ
  exact q30t d a1 a2
theorem q30x (d:Nat) {s1 s2:Bool} {P Q:Nat} (hQ:Q<170141183460469231731687303715884105728) (hs:s1≠s2) (h:P<Q):q1ks d ((s1,hiN P,loN P,()),(s2,hiN Q,loN Q,()),())=some (s2,hiN (Q - P),loN (Q - P)):=by
  obtain ⟨b,_,b1,b2⟩:=q30r (P:=Q) (Q:=P) (by omega) (by omega)
  exact q30u d (by simpa using hs) (q2tt d s1 s2 P Q) (by rw [qkd (by omega)];rfl) b1 b2
theorem q30y (d:Nat) {s1 s2:Bool} {P Q:Nat} (hP:P<170141183460469231731687303715884105728) (hs:s1≠s2) (h:¬ P<Q):q1ks d ((s1,hiN P,loN P,()),(s2,hiN Q,loN Q,()),())=some (s1,hiN (P - Q),loN (P - Q)):=by
  obtain ⟨b,_,b1,b2⟩:=q30r (P:=P) (Q:=Q) (by omega) (by omega)
  exact q30v d (by simpa using hs) (q2tt d s1 s2 P Q) (by
    rcases Nat.lt_or_eq_of_le (Nat.le_of_not_lt h) with k | k
    · rw [qke (by omega)];rfl
    · rw [qkf (by omega)];rfl) b1 b2
theorem q30z (d:Nat) {s1 s2:Bool} {P Q:Nat} (hP:P<170141183460469231731687303715884105728) (hQ:Q<170141183460469231731687303715884105728):q1ks d ((s1,hiN P,loN P,()),(s2,hiN Q,loN Q,()),())=some (if s1=s2 then (s1,hiN (P+Q),loN (P+Q)) else if P<Q then (s2,hiN (Q - P),loN (Q - P)) else (s1,hiN (P - Q),loN (P - Q))):=by
  by_cases hs:s1=s2
  · subst hs
    rw [if_pos rfl];exact q30w d hP hQ
  · rw [if_neg hs]
    by_cases h:P<Q
    · rw [if_pos h];exact q30x d hQ hs h
    · rw [if_neg h];exact q30y d hP hs h
theorem q310 (d:Nat) {s1 s2:Bool} {P Q:Nat} (hP:P<170141183460469231731687303715884105728) (hQ:Q<170141183460469231731687303715884105728):∃ s N,q1ks d ((s1,hiN P,loN P,()),(s2,hiN Q,loN Q,()),())=some (s,hiN N,loN N)∧sgn s1 P+sgn s2 Q=sgn s N∧N≤P+Q:=by
  have e:=q30z d (s1:=s1) (s2:=s2) hP hQ
  have k:=q30j (x:=sgn s1 P) (y:=sgn s2 Q) rfl rfl
  by_cases hs:s1=s2
  · rw [if_pos hs] at e k;exact ⟨_,_,e,k,Nat.le_refl _⟩
  · rw [if_neg hs] at e k
    by_cases h:P<Q
    · rw [if_pos h] at e k;exact ⟨_,_,e,k,by omega⟩
    · rw [if_neg h] at e k;exact ⟨_,_,e,k,by omega⟩
theorem q311 (d:Nat) (hd:10≤d) {s:Bool} {P y:Nat} (hP:P<340282366920938463463374607431768211456) (hy:0<y) (hy2:y<18446744073709551616):q1lk d ((s,hiN P,loN P,()),((y:Int),()),())=some (s,hiN (P / y),loN (P / y),((P % y:Nat):Int)):=by
  obtain ⟨o1,o2⟩:=q30f (P:=P) hy
  have o3:=q30g (P:=P) hy
  have hh:P / 18446744073709551616<18446744073709551616:=by omega
  have hl:P % 18446744073709551616<18446744073709551616:=by omega
  have c1:((y:Int) == 0)=false:=by rw [beq_eq_false_iff_ne];omega
  have b:=Nat.div_le_self (P / 18446744073709551616) y
  have e1:(hiN P).tdiv (y:Int)=((P / 18446744073709551616 / y:Nat):Int):=by rw [Int.tdiv_eq_ediv_of_nonneg (Int.natCast_nonneg _)];rfl
  have e2:(hiN P).tmod (y:Int)=((P / 18446744073709551616 % y:Nat):Int):=by rw [Int.tmod_eq_emod_of_nonneg (Int.natCast_nonneg _)];rfl
  have e3:IntKind.wrap .u64 ((P / 18446744073709551616 / y:Nat):Int)=((P / 18446744073709551616 / y:Nat):Int):=by
    generalize P / 18446744073709551616 / y=q at *
    exact wu64 (by omega)
  have e4:=q30d d hd (hi:=P / 18446744073709551616 % y) (lo:=P % 18446744073709551616) (y:=y) (Nat.mod_lt _ hy) hy2 hl
  rw [← o2] at e4
  simp only [q1lk,q1l0,q1l6,q1la,q1le,q1li,Dt.eval,c1,cond_false,e1,e2,e3]
  rw [show (loN P)=((P % 18446744073709551616:Nat):Int) from rfl,e4]
  simp only [Dt.eval]
  generalize (P / 18446744073709551616 % y*18446744073709551616+P % 18446744073709551616) / y=L at *
  generalize P / 18446744073709551616 / y=H at *
  rw [o1]
  refine congrArg some (Prod.ext rfl (Prod.ext ?_ (Prod.ext ?_ rfl)))
  · show (H:Int)=(((H*18446744073709551616+L) / 18446744073709551616:Nat):Int);omega
  · show (L:Int)=(((H*18446744073709551616+L) % 18446744073709551616:Nat):Int);omega
theorem q312 (d:Nat) {s:Bool} {N D:Nat} (hN:N<340282366920938463463374607431768211456) (hD:D<340282366920938463463374607431768211456):q1mn d ((s,hiN N,loN N,()),(hiN D,()),(loN D,()),())=some (fitQ (sgn s N) (D:Int)):=by
  have hf:fitQ (sgn s N) (D:Int)=if N≤9223372036854775807∧D≤9223372036854775807 then (sgn s N,(D:Int),0) else (0,0,16):=by
    unfold fitQ;rw [q30h,Int.natAbs_natCast]
  rw [hf]
  by_cases h1:N≤9223372036854775807
  · have n1 : hiN N = 0 := by show ((_ : Nat) : Int) = 0; omega
    have n2:loN N=(N:Int):=by show ((_:Nat):Int)=_;omega
    by_cases h2:D≤9223372036854775807
    · have d1 : hiN D = 0 := by show ((_ : Nat) : Int) = 0; omega
      have d2:loN D=(D:Int):=by show ((_:Nat):Int)=_;omega
      rw [if_pos ⟨h1,h2⟩,n1,n2,d1,d2]
      have c1:decide ((N:Int) > 9223372036854775807)=false:=decide_eq_false (by omega)
      have c2:decide ((D:Int) > 9223372036854775807)=false:=decide_eq_false (by omega)
      have w1:IntKind.wrap .i64 (N:Int)=(N:Int):=IntWalk.i64_in _ (by omega)
      have w2:IntKind.wrap .i64 (D:Int)=(D:Int):=IntWalk.i64_in _ (by omega)
      have w3:IntKind.wrap .i64 (0 - (N:Int))=-(N:Int):=by rw [IntWalk.i64_in _ (by omega)];omega
      unfold q1mn q1mm
      cases s with
      | true=>simp only [q1mn,q1ls,q1ly,q1m2,q1m6,q1ma,q1me,q1mi,q1mk,Dt.eval,show decide ((0:Int) > 0)=false from rfl,cond_false,c1,c2,w1,w2,w3,cond_true];rfl
      | false=>simp only [q1mn,q1ls,q1ly,q1m2,q1m6,q1ma,q1me,q1mi,q1mk,Dt.eval,show decide ((0:Int) > 0)=false from rfl,cond_false,c1,c2,w1,w2];rfl
    · rw [if_neg (by omega), n1, n2]
      have c1:decide ((N:Int) > 9223372036854775807)=false:=decide_eq_false (by omega)
      unfold q1mn q1mm
      by_cases h3:hiN D > 0
      · simp only [q1mn,q1ls,q1ly,q1m2,q1m6,q1ma,q1me,q1mi,q1mk,Dt.eval,show decide ((0:Int) > 0)=false from rfl,cond_false,c1,decide_eq_true h3,cond_true]
      · have c2:decide (loN D > 9223372036854775807)=true:=decide_eq_true (by
          have h3':¬ ((D / 18446744073709551616:Nat):Int) > 0:=h3
          show ((D % 18446744073709551616:Nat):Int) > _
          omega)
        simp only [q1mn,q1ls,q1ly,q1m2,q1m6,q1ma,q1me,q1mi,q1mk,Dt.eval,show decide ((0:Int) > 0)=false from rfl,cond_false,c1,decide_eq_false h3,c2,cond_true]
  · rw [if_neg (by omega)]
    unfold q1mn q1mm
    by_cases h3:hiN N > 0
    · simp only [q1mn,q1ls,q1ly,q1m2,q1m6,q1ma,q1me,q1mi,q1mk,Dt.eval,decide_eq_true h3,cond_true]
    · have c2:decide (loN N > 9223372036854775807)=true:=decide_eq_true (by
        have h3':¬ ((N / 18446744073709551616:Nat):Int) > 0:=h3
        show ((N % 18446744073709551616:Nat):Int) > _
        omega)
      simp only [q1mn,q1ls,q1ly,q1m2,q1m6,q1ma,q1me,q1mi,q1mk,Dt.eval,decide_eq_false h3,cond_false,c2,cond_true]
end Go.Proofs.YtpfhgnccpiildaaGreat

namespace Go.Pel
open Go Go.Tx
theorem q313 (a b:Int):sgn (!((decide (a<0)) == (decide (b<0)))) (a*b).natAbs=a*b:=by
  unfold sgn
  rcases (by omega:a<0∨0≤a) with h1 | h1<;>rcases (by omega:b<0∨0≤b) with h2 | h2
  · have := Int.mul_nonneg_of_nonpos_of_nonpos (show a ≤ 0 by omega) (show b ≤ 0 by omega)
    simp only [h1,h2,decide_true,beq_self_eq_true,Bool.not_true,Bool.false_eq_true,if_false];omega
  · have := Int.mul_nonpos_of_nonpos_of_nonneg (show a ≤ 0 by omega) h2
    simp only [h1,show ¬ b<0 by omega,decide_true,decide_false,show (true == false)=false from rfl,Bool.not_false,if_true];omega
  · have := Int.mul_nonpos_of_nonneg_of_nonpos h1 (show b ≤ 0 by omega)
    simp only [h2,show ¬ a<0 by omega,decide_true,decide_false,show (false == true)=false from rfl,Bool.not_false,if_true];omega
  · have := Int.mul_nonneg h1 h2
    simp only [show ¬ a<0 by omega,show ¬ b<0 by omega,decide_false,beq_self_eq_true,Bool.not_true,Bool.false_eq_true,if_false];omega
theorem q314 {a b:Int} (ha:a.natAbs≤9223372036854775808) (hb:b.natAbs≤9223372036854775807):(a*b).natAbs≤85070591730234615856620279821087277056:=by
  rw [Int.natAbs_mul]
  exact Nat.le_trans (Nat.mul_le_mul ha hb) (by decide)
theorem q315 {a b:Nat} (ha:1≤a) (hb:1≤b):1≤Nat.gcd a b∧Nat.gcd a b≤a∧Nat.gcd a b≤b∧a=a / Nat.gcd a b*Nat.gcd a b∧b=b / Nat.gcd a b*Nat.gcd a b∧1≤a / Nat.gcd a b∧1≤b / Nat.gcd a b∧Nat.gcd (a / Nat.gcd a b) (b / Nat.gcd a b)=1:=by
  have hg:1≤Nat.gcd a b:=Nat.gcd_pos_of_pos_left _ ha
  have e1:a / Nat.gcd a b*Nat.gcd a b=a:=Nat.div_mul_cancel (Nat.gcd_dvd_left _ _)
  have e2:b / Nat.gcd a b*Nat.gcd a b=b:=Nat.div_mul_cancel (Nat.gcd_dvd_right _ _)
  exact ⟨hg,Nat.gcd_le_left _ ha,Nat.gcd_le_right _ hb,e1.symm,e2.symm,Nat.div_pos (Nat.gcd_le_left _ ha) hg,Nat.div_pos (Nat.gcd_le_right _ hb) hg,Nat.coprime_div_gcd_div_gcd hg⟩
theorem q316 {n1 n2:Int} {a b N:Nat} {s:Bool} (ha:1≤a) (hb:1≤b) (h1:Nat.gcd n1.natAbs a=1) (h2:Nat.gcd n2.natAbs b=1) (hN:n1*((b / Nat.gcd a b:Nat):Int)+n2*((a / Nat.gcd a b:Nat):Int)=sgn s N) :
    Low (n1*(b:Int)+n2*(a:Int)) ((a:Int)*(b:Int)) (sgn s (N / Nat.gcd N (Nat.gcd a b))) (((a / Nat.gcd a b*(b / Nat.gcd N (Nat.gcd a b)):Nat)):Int):=by
  obtain ⟨g1,g2,g3,ea,eb,pa,pb,hc⟩:=q315 ha hb
  generalize hg:Nat.gcd a b=g at *
  generalize ha':a / g=a' at *
  generalize hb':b / g=b' at *
  have hh1:1≤Nat.gcd N g:=Nat.gcd_pos_of_pos_right _ g1
  have hd1:Nat.gcd N g ∣ N:=Nat.gcd_dvd_left _ _
  have hd2:Nat.gcd N g ∣ b:=Nat.dvd_trans (Nat.gcd_dvd_right _ _) ⟨b',by rw [eb,Nat.mul_comm]⟩
  have e1:N / Nat.gcd N g*Nat.gcd N g=N:=Nat.div_mul_cancel hd1
  have e2:b / Nat.gcd N g*Nat.gcd N g=b:=Nat.div_mul_cancel hd2
  generalize hh:Nat.gcd N g=h at *
  generalize N / h=m at *
  generalize b / h=c at *
  have hm:sgn s N=sgn s m*(h:Int):=by
    rw [← e1];unfold sgn
    cases s
    · show ((m*h:Nat):Int)=(m:Int)*(h:Int);simp
    · show -((m*h:Nat):Int)=-(m:Int)*(h:Int);rw [Int.neg_mul];simp
  have:=q2zm (an:=n1) (ad:=(a:Int)) (bn:=n2) (bd:=(b:Int)) (g:=(g:Int)) (a':=(a':Int)) (b':=(b':Int)) (by omega) (by rw [ea];simp) (by rw [eb];simp) (by omega) (by omega) (by rw [Int.natAbs_natCast];exact h1) (by rw [Int.natAbs_natCast];exact h2) (by rw [Int.natAbs_natCast,Int.natAbs_natCast];exact hc) (n:=sgn s N) (m:=sgn s m) (h:=(h:Int)) (c:=(c:Int)) hN (by rw [q30h,Int.natAbs_natCast,hh]) hm (by rw [← e2];simp)
  rw [show ((a'*c:Nat):Int)=(a':Int)*(c:Int) by simp]
  exact this
end Go.Pel
namespace Go.Proofs.YtpfhgnccpiildaaGreat
open Go Go.Tx Go.Pel
theorem q317 {n d:Int} (h:qcv n d=0) (hn:i64B n=true) (hd:i64B d=true):∃ a:Nat,d=a∧1≤a∧a≤9223372036854775807∧n.natAbs≤9223372036854775807∧Nat.gcd n.natAbs a=1:=by
  obtain ⟨h1,h2,h3⟩:=qd2 h
  have hn:=qiq hn
  have hd:=qiq hd
  refine ⟨d.toNat,by omega,by omega,by omega,by omega,?_⟩
  rw [Nat.gcd_comm];exact h3
theorem i64N {a:Nat} (h:a≤9223372036854775807):i64B (a:Int)=true:=q2up (by omega)
theorem q318 (a g:Nat):(a:Int).tdiv (g:Int)=((a / g:Nat):Int):=by rw [Int.tdiv_eq_ediv_of_nonneg (by omega)];rfl
theorem q319 {a:Nat} (h:a<18446744073709551616):IntKind.wrap .u64 (a:Int)=(a:Int):=wu64 (by omega)
theorem q31a {a:Nat} (h:a≤9223372036854775807):IntKind.wrap .i64 (a:Int)=(a:Int):=IntWalk.i64_in _ (by omega)
theorem neN {a:Nat} (h:1≤a):((a:Int) == 0)=false:=by rw [beq_eq_false_iff_ne];omega
theorem q31b (d:Nat) {a b:Nat} (ha:a<18446744073709551616) (hb:b<18446744073709551616):qmd d (((a:Int),()),((b:Int),()),())=some (hiN (a*b),loN (a*b)):=by
  rw [qme _ _ (by unfold qmc u64B;simp only [Bool.and_eq_true,decide_eq_true_eq];omega)]
  refine congrArg some (Prod.ext ?_ ?_)
  · show ((a:Int)*(b:Int)) / 18446744073709551616=((a*b / 18446744073709551616:Nat):Int);simp
  · show ((a:Int)*(b:Int)) % 18446744073709551616=((a*b % 18446744073709551616:Nat):Int);simp
theorem q31c (d:Nat) {n:Int} {a:Nat} (hn:n.natAbs≤9223372036854775807) (ha:a≤9223372036854775807):q11s d ((n,()),((a:Int),()),())=some (!((decide (n<0)) == (decide ((a:Int)<0))),hiN (n*(a:Int)).natAbs,loN (n*(a:Int)).natAbs):=q2ts d n a (q2up hn) (i64N ha)
theorem q31d {a g:Nat} (h:a≤9223372036854775807):a / g≤9223372036854775807:=Nat.le_trans (Nat.div_le_self _ _) h
theorem q31e (d:Nat) (hd:200≤d) {n1 d1 n2 d2:Int} (hn1:i64B n1=true) (hd1:i64B d1=true) (hn2:i64B n2=true) (hd2:i64B d2=true) (c1:qcv n1 d1=0) (c2:qcv n2 d2=0):q1o3 d ((n1,d1,()),(n2,d2,()),())=some (red (n1*d2+n2*d1) (d1*d2)):=by
  have e0:=q2tu d n1 d1 n2 d2 hn1 hd1 hn2 hd2
  rw [c1,c2] at e0
  obtain ⟨a,rfl,a1,a2,a3,a4⟩:=q317 c1 hn1 hd1
  obtain ⟨b,rfl,b1,b2,b3,b4⟩:=q317 c2 hn2 hd2
  obtain ⟨g1,g2,g3,_,_,pa,pb,_⟩:=q315 a1 b1
  have hlow:=fun s N=>@q316 n1 n2 a b N s a1 b1 a4 b4
  have e1:=q30o d hd (a:=a) (b:=b) (by omega)
  have q1:=q31d (g:=Nat.gcd a b) a2
  have q2:=q31d (g:=Nat.gcd a b) b2
  generalize Nat.gcd a b=g at *
  have e2:=q31c d (n:=n1) (a:=b / g) a3 q2
  have e3:=q31c d (n:=n2) (a:=a / g) b3 q1
  have m1:=q314 (a:=n1) (b:=((b / g:Nat):Int)) (by omega) (by omega)
  have m2:=q314 (a:=n2) (b:=((a / g:Nat):Int)) (by omega) (by omega)
  have t1:=q318 b g
  have t2:=q318 a g
  have k1:=q313 n1 ((b / g:Nat):Int)
  have k2:=q313 n2 ((a / g:Nat):Int)
  generalize a / g=a' at *
  generalize b / g=b' at *
  generalize (!((decide (n1<0)) == (decide ((b':Int)<0))))=s1 at *
  generalize (!((decide (n2<0)) == (decide ((a':Int)<0))))=s2 at *
  obtain ⟨s,N,e4,hs,hN⟩:=q310 d (s1:=s1) (s2:=s2) (P:=(n1*(b':Int)).natAbs) (Q:=(n2*(a':Int)).natAbs) (by omega) (by omega)
  rw [k1,k2] at hs
  replace hlow:=hlow s N hs
  have hg64:g<18446744073709551616:=by omega
  have e5:=q311 d (by omega) (s:=s) (P:=N) (y:=g) (by omega) (by omega) hg64
  have e6:=q30o d hd (a:=g) (b:=N % g) (by have:=Nat.mod_lt N (show 0<g by omega);omega)
  rw [show Nat.gcd g (N % g)=Nat.gcd N g by rw [Nat.gcd_comm N g,Nat.gcd_rec g N,Nat.gcd_comm]] at e6
  have hh1:1≤Nat.gcd N g:=Nat.gcd_pos_of_pos_right _ g1
  have hh2:Nat.gcd N g≤g:=Nat.gcd_le_right _ (by omega)
  generalize Nat.gcd N g=h at *
  have e7:=q311 d (by omega) (s:=s) (P:=N) (y:=h) (by omega) (by omega) (by omega)
  have t3:=q318 b h
  have q3:=q31d (g:=h) b2
  have q4:N / h≤N:=Nat.div_le_self _ _
  generalize N / h=m at *
  generalize b / h=c at *
  have e8:=q31b d (a:=a') (b:=c) (by omega) (by omega)
  have m3:a'*c≤9223372036854775807*9223372036854775807:=Nat.mul_le_mul (by omega) (by omega)
  have e9:=q312 d (s:=s) (N:=m) (D:=a'*c) (by omega) (by omega)
  rw [q2ze (by
    have:=Int.mul_pos (show (0:Int)<(a:Int) by omega) (show (0:Int)<(b:Int) by omega);omega) hlow]
  simp only [q1o3,q1mv,q1n1,q1n5,q1n9,q1nd,q1nh,q1nl,q1np,q1nt,q1nv,q1nz,q1o1,Dt.eval,e0,show tmax (0:Int) 0=0 from rfl,show ((0:Int) != 0)=false from rfl,cond_false,q319 (show a<18446744073709551616 by omega),q319 (show b<18446744073709551616 by omega),e1,q31a (show g≤9223372036854775807 by omega),neN g1,neN hh1,t1,t2,t3,q31a q1,q31a q2,e2,e3,e4,q319 hg64,e5,e6,e7,q319 (show a'<18446744073709551616 by omega),q319 (show c<18446744073709551616 by omega),e8,e9]
theorem q31f {n d:Int} (h:qcv n d=0) (hn:i64B n=true):qcv (-n) d=0∧i64B (-n)=true∧IntKind.wrap .i64 (0 - n)=-n:=by
  obtain ⟨h1,h2,h3⟩:=qd2 h
  have hn:=qiq hn
  refine ⟨qcy h1 (by omega) (by rw [Int.natAbs_neg];exact h3),q2up (by omega),?_⟩
  rw [IntWalk.i64_in _ (by omega)];omega
def subV (n1 d1 n2 d2:Int):Int×Int×Int:=if qcv n1 d1=0∧qcv n2 d2=0 then red (n1*d2 - n2*d1) (d1*d2) else (0,0,8)
theorem subC (d:Nat) (hd:200≤d) {n1 d1 n2 d2:Int} (hn1:i64B n1=true) (hd1:i64B d1=true) (hn2:i64B n2=true) (hd2:i64B d2=true):q1oz d ((n1,d1,()),(n2,d2,()),())=some (subV n1 d1 n2 d2):=by
  unfold subV
  have e0:=q2tu d n1 d1 n2 d2 hn1 hd1 hn2 hd2
  by_cases hc:qcv n1 d1=0∧qcv n2 d2=0
  · rw [if_pos hc]
    rw [hc.1,hc.2] at e0
    obtain ⟨k1,k2,k3⟩:=q31f hc.2 hn2
    have e1:=q31e d hd hn1 hd1 k2 hd2 hc.1 k1
    rw [Int.neg_mul,show n1*d2 + -(n2*d1)=n1*d2 - n2*d1 by omega] at e1
    simp only [q1oz,q1ob,q1oh,q1ol,q1op,q1ot,q1ov,q1ox,Dt.eval,e0,show tmax (0:Int) 0=0 from rfl,show ((0:Int) != 0)=false from rfl,cond_false,k3,e1]
  · rw [if_neg hc]
    have e1:tmax (qcv n1 d1) (qcv n2 d2)=8:=by
      unfold tmax
      rcases qd1 n1 d1 with q1 | q1<;>rcases qd1 n2 d2 with q2 | q2
      · exact absurd ⟨q1,q2⟩ hc
      all_goals rw [q1,q2];rfl
    rw [e1] at e0
    simp only [q1oz,q1ob,q1oh,q1ol,q1op,q1ot,Dt.eval,e0,show ((8:Int) != 0)=true from rfl,cond_true]
end Go.Proofs.YtpfhgnccpiildaaGreat
