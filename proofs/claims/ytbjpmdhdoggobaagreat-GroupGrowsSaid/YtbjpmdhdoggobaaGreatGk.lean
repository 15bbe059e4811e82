/- Walks of the references; the orders agree; examples. -/
import Derived.Test.YtbjpmdhdoggobaaGreatGj
set_option linter.unusedSimpArgs false
set_option linter.unusedVariables false
namespace Go.Proofs.YtbjpmdhdoggobaaGreat
open Go Go.Tx Go.Pel
theorem Last.behind {l:List T3} (h:FldOk l) {n dd:Int} {p q:T3} (hp:Last l n dd p) (hq:q∈l) (hne:q≠p):leads (ofP q) (ofP p) n dd=true:=by
  have hi:p.1≠q.1:=fun e=>hne (q3hk h hq hp.1 e.symm)
  rw [q3h7 (p:=ofP p) (q:=ofP q) hi,hp.2 q hq];rfl
end Go.Proofs.YtbjpmdhdoggobaaGreat

namespace Go.Pel
open Go Go.Tx
theorem q3rw {X D:Int} (hX:X.natAbs≤9223372036854775807) (h1:1≤D) (h2:D≤9223372036854775807):(red X D).2.2=0:=by
  unfold red
  have e:=q3i2 X h1
  have g1:1≤Nat.gcd X.natAbs D.natAbs:=Nat.gcd_pos_of_pos_right _ (by omega)
  have a1:(X / (Nat.gcd X.natAbs D.natAbs:Nat)).natAbs≤X.natAbs:=by
    obtain ⟨k1,_⟩:=e.gcd h1
    have:=congrArg Int.natAbs k1
    rw [Int.natAbs_mul,Int.natAbs_natCast] at this
    generalize Nat.gcd X.natAbs D.natAbs=g at *
    generalize (X / (g:Int)).natAbs=u at *
    rw [this]
    exact Nat.le_mul_of_pos_right u g1
  have a2:(D / (Nat.gcd X.natAbs D.natAbs:Nat)).natAbs≤D.natAbs:=by
    obtain ⟨_,k1⟩:=e.gcd h1
    have:=congrArg Int.natAbs k1
    rw [Int.natAbs_mul,Int.natAbs_natCast] at this
    generalize Nat.gcd X.natAbs D.natAbs=g at *
    generalize (D / (g:Int)).natAbs=u at *
    rw [this]
    exact Nat.le_mul_of_pos_right u g1
  rw [q3i3 (by omega) (by omega)]
end Go.Pel
namespace Go.Proofs.YtbjpmdhdoggobaaGreat
open Go Go.Tx Go.Pel
theorem q3rz {X Y D:Int} (hD:1≤D) (h1:(red X D).2.2=0) (h2:(red Y D).2.2=0):subV (red X D).1 (red X D).2.1 (red Y D).1 (red Y D).2.1=red (X - Y) D:=by
  obtain ⟨c1,e1,_,_⟩:=q3i6 hD h1
  obtain ⟨c2,e2,_,_⟩:=q3i6 hD h2
  have p1:=(qdt c1).1
  have p2:=(qdt c2).1
  unfold subV
  rw [if_pos ⟨c1,c2⟩]
  generalize (red X D).1=a at *
  generalize (red X D).2.1=b at *
  generalize (red Y D).1=c at *
  generalize (red Y D).2.1=d at *
  have q2:0<b*d:=Int.mul_pos (by omega) (by omega)
  refine q3l2 (by omega) hD ?_
  rw [Int.sub_mul,Int.sub_mul]
  have k1:a*d*D=X*(b*d):=by rw [Int.mul_right_comm,← e1,Int.mul_assoc]
  have k2:c*b*D=Y*(b*d):=by rw [Int.mul_right_comm,← e2,Int.mul_assoc,Int.mul_comm d b]
  rw [k1,k2]
def fpl (p:T3) (n dd:Int):Int:=p.2.1*dd+p.2.2.1*n
theorem q3s0 {p:T3} (hp:okP p) {n dd:Int} (h1:1≤dd) (h2:dd≤4194304) (hn:n.natAbs≤2199023255552):(fpl p n dd).natAbs≤2305847407260205056+4398046511104:=by
  have:=q3ff hp
  have m1:(p.2.1*dd).natAbs≤1048576*4194304:=by rw [Int.natAbs_mul];exact Nat.mul_le_mul (by omega) (by omega)
  have m2:(p.2.2.1*n).natAbs≤1048576*2199023255552:=by rw [Int.natAbs_mul];exact Nat.mul_le_mul (by omega) (by omega)
  unfold fpl;omega
theorem q3s1 {p:T3} (hp:okP p) {n dd:Int} (hr:qdm n dd=0):atQ p n dd=red (fpl p n dd) dd:=by
  unfold atQ;rw [if_pos ⟨show qe0 p.1 p.2.1 p.2.2.1=0 from hp,hr⟩];rfl
theorem q3s2 {p q:T3} (hp:okP p) (hq:okP q) {n dd:Int} (hr:qdm n dd=0) (h2:dd≤4194304) (hn:n.natAbs≤2199023255552):apV p q n dd=red (fpl p n dd - fpl q n dd) dd∧(apV p q n dd).2.2=0:=by
  have h1:=(qdt hr).1
  have b1:=q3s0 hp h1 h2 hn
  have b2:=q3s0 hq h1 h2 hn
  have f1:(red (fpl p n dd) dd).2.2=0:=q3rw (by omega) h1 (by omega)
  have f2:(red (fpl q n dd) dd).2.2=0:=q3rw (by omega) h1 (by omega)
  have f3:(red (fpl p n dd - fpl q n dd) dd).2.2=0:=q3rw (by omega) h1 (by omega)
  have e:apV p q n dd=red (fpl p n dd - fpl q n dd) dd:=by
    unfold apV
    rw [q3s1 hp hr,q3s1 hq hr,if_neg (by simpa using f1),if_neg (by simpa using f2)]
    exact q3rz h1 f1 f2
  exact ⟨e,by rw [e];exact f3⟩
theorem Lead.far {l:List T3} {n dd:Int} {p q:T3} (hp:Lead l n dd p) (hq:q∈l):fpl q n dd≤fpl p n dd:=by
  have:=hp.2 q hq
  refine Classical.byContradiction fun c=>?_
  rw [q3gt.2 (.inl ?_)] at this
  · cases this
  · show 0 < (q.2.1 - p.2.1) * dd + (q.2.2.1 - p.2.2.1) * n
    unfold fpl at c
    rw [Int.sub_mul,Int.sub_mul];omega
end Go.Proofs.YtbjpmdhdoggobaaGreat

namespace Go.Proofs.YtbjpmdhdoggobaaGreat
open Go Go.Tx Go.Pel
theorem q3se (d:Nat) {n dd:Int} (hn:i64B n=true) (hd:i64B dd=true):∃ v,q32r d ((n,dd,()),())=some v∧(v=0→qdm n dd=0∧n.natAbs≤1073741824∧dd≤1024):=by
  have e1:=q3fx d hn hd
  rcases qds n dd with h1 | h1
  · by_cases g1 : n > 1073741824
    · refine ⟨2, ?_, fun h => by cases h⟩
      simp only [q32r,q323,q329,q32d,q32h,q32l,q32n,q32p,Dt.eval,e1,h1,show ((0:Int) != 0)=false from rfl,cond_false,decide_eq_true g1,cond_true]
    · by_cases g2 : n < -1073741824
      · refine ⟨2, ?_, fun h => by cases h⟩
        simp only [q32r,q323,q329,q32d,q32h,q32l,q32n,q32p,Dt.eval,e1,h1,show ((0:Int) != 0)=false from rfl,cond_false,decide_eq_false g1,decide_eq_true g2,cond_true]
      · by_cases g3 : dd > 1024
        · refine ⟨2, ?_, fun h => by cases h⟩
          simp only [q32r,q323,q329,q32d,q32h,q32l,q32n,q32p,Dt.eval,e1,h1,show ((0:Int) != 0)=false from rfl,cond_false,decide_eq_false g1,decide_eq_false g2,decide_eq_true g3,cond_true]
        · refine ⟨0, ?_, fun _ => ⟨h1, by omega, by omega⟩⟩
          simp only [q32r,q323,q329,q32d,q32h,q32l,q32n,q32p,Dt.eval,e1,h1,show ((0:Int) != 0)=false from rfl,cond_false,decide_eq_false g1,decide_eq_false g2,decide_eq_false g3]
  · refine ⟨8, ?_, fun h => by cases h⟩
    simp only [q32r,q323,q329,q32d,q32h,q32l,q32n,q32p,Dt.eval,e1,h1,show ((8:Int) != 0)=true from rfl,cond_true]
structure GoodY (l:List T3) (t d:Int×Int) (y:Dii):Prop where
  q:okQ y.1 y.2.1
  e:(spV l y.1 y.2.1).2.2=0
  c:qdm (spV l y.1 y.2.1).1 (spV l y.1 y.2.1).2.1=0
  b1:i64B (spV l y.1 y.2.1).1=true
  b2:i64B (spV l y.1 y.2.1).2.1=true
  le:¬ cmpQ d.1 d.2 (spV l y.1 y.2.1).1 (spV l y.1 y.2.1).2.1 > 0
  eq:y.1=t.1→y.2.1=t.2→(spV l y.1 y.2.1).1=d.1∧(spV l y.1 y.2.1).2.1=d.2
  lt:cmpQ y.1 y.2.1 t.1 t.2<0→¬ ((spV l y.1 y.2.1).1=d.1∧(spV l y.1 y.2.1).2.1=d.2)
theorem q3sj {n d n' d':Int}:cmpQ n d n' d' > 0↔n'*d<n*d':=by
  unfold cmpQ
  rcases ltZ (n*d') (n'*d) with ⟨e,h⟩ | ⟨e,h⟩ | ⟨e,h⟩<;>rw [e] <;> omega
structure okB (n dd:Int):Prop where
  q:okQ n dd
  n1:n.natAbs≤2199023255552
  d1:dd≤4194304
end Go.Proofs.YtbjpmdhdoggobaaGreat

namespace Go.Pel
open Go Go.Tx
theorem q3sm {X D:Int} (h1:1≤D) (h:(red X D).2.2=0):(0≤X→0≤(red X D).1)∧((red X D).1=0↔X=0):=by
  obtain ⟨c,e,_,_⟩:=q3i6 h1 h
  have p:=(qdt c).1
  generalize (red X D).1=a at *
  generalize (red X D).2.1=b at *
  constructor
  · intro hX
    refine Classical.byContradiction fun k=>?_
    have k1:=Int.mul_nonneg hX (show 0≤b by omega)
    have k2:=Int.mul_neg_of_neg_of_pos (show a<0 by omega) (show 0<D by omega)
    omega
  · constructor
    · intro ha
      rw [ha,Int.zero_mul] at e
      rcases Int.mul_eq_zero.1 e with k | k
      · exact k
      · omega
    · intro hX
      rw [hX,Int.zero_mul] at e
      rcases Int.mul_eq_zero.1 e.symm with k | k
      · exact k
      · omega
end Go.Pel
namespace Go.Proofs.YtbjpmdhdoggobaaGreat
open Go Go.Tx Go.Pel
end Go.Proofs.YtbjpmdhdoggobaaGreat

namespace Go.Proofs.YtbjpmdhdoggobaaGreat
open Go Go.Tx Go.Pel
theorem q3ss {p q:T3} {n dd:Int} (hi:p.1≠q.1) (h:leads (ofP p) (ofP q) n dd=true):fpl q n dd≤fpl p n dd:=by
  refine Classical.byContradiction fun c=>?_
  have h2:leads (ofP q) (ofP p) n dd=true:=by
    rw [q3gt.2 (.inl ?_)]
    show 0<(q.2.1 - p.2.1)*dd+(q.2.2.1 - p.2.2.1)*n
    unfold fpl at c
    rw [Int.sub_mul,Int.sub_mul];omega
  rw [q3h7 (p:=ofP p) (q:=ofP q) hi,h] at h2
  cases h2
structure okN (G:List Dii):Prop where
  ok:∀ g∈G,qdm g.1 g.2.1=0∧i64B g.1=true∧i64B g.2.1=true
  nn:∀ g∈G,0≤g.1
theorem q3st {n dd:Int} (hr:qdm n dd=0):∀ {O:List T3},(∀ p∈O,okP p)→(O.Pairwise fun a b=>a.1≠b.1∧leads (ofP a) (ofP b) n dd=true)→plE n dd O=true→gpE n dd O=true→∀ g∈(gpL n dd O).map dU,0≤g.1
  | [],_,_,_,_,g,hg=>by simp [gpL] at hg
  | [_],_,_,_,_,g,hg=>by simp [gpL] at hg
  | p :: q :: r, hO, hw, hp, hg, g, hgm => by
    have hd:=(qdt hr).1
    have ep:(atQ p n dd).2.2=0:=by have:=List.all_eq_true.1 hp p (List.mem_cons_self ..);simpa using this
    have eq:(atQ q n dd).2.2=0:=by have:=List.all_eq_true.1 hp q (List.mem_cons_of_mem _ (List.mem_cons_self ..));simpa using this
    have hg':(subV (atQ p n dd).1 (atQ p n dd).2.1 (atQ q n dd).1 (atQ q n dd).2.1).2.2=0∧gpE n dd (q :: r)=true:=by
      unfold gpE gpL at hg
      rw [List.all_cons,Bool.and_eq_true] at hg
      exact ⟨by simpa using hg.1,hg.2⟩
    have hpl:plE n dd (q :: r)=true:=by
      unfold plE at hp ⊢
      rw [List.all_cons,Bool.and_eq_true] at hp
      exact hp.2
    have hw1:=List.pairwise_cons.1 hw
    have hpq:=hw1.1 q (List.mem_cons_self ..)
    unfold gpL at hgm
    rw [List.map_cons] at hgm
    rcases List.mem_cons.1 hgm with rfl | hgm
    · have e1 := q3s1 (hO p (List.mem_cons_self ..)) hr
      have e2:=q3s1 (hO q (List.mem_cons_of_mem _ (List.mem_cons_self ..))) hr
      rw [e1] at ep
      rw [e2] at eq
      have hs:=hg'.1
      show 0≤(subV (atQ p n dd).1 (atQ p n dd).2.1 (atQ q n dd).1 (atQ q n dd).2.1).1
      rw [e1,e2,q3rz hd ep eq] at hs ⊢
      exact (q3sm hd hs).1 (by have:=q3ss hpq.1 hpq.2;omega)
    · exact q3st hr (O:=q :: r) (fun x hx=>hO x (List.mem_cons_of_mem _ hx)) hw1.2 hpl hg'.2 g hgm
theorem q3su {l:List T3} (h:FldOk l) {n dd:Int} (hr:qdm n dd=0) (hG:GapOk l n dd):okN ((gpL n dd (ordT l n dd)).map dU) :=
  have hO:∀ p∈ordT l n dd,okP p:=fun p hp=>h.ok p ((q3lw l n dd).mem_iff.1 hp)
  ⟨(q3mu hr hO hG.pl hG.gp).ok,q3st hr hO (q3ly h n dd) hG.pl hG.gp⟩
-- how many groups
theorem q3sv:∀ (r:List (Bool×Di)) (xs:List (List Di)) (y:List Di),(grp xs y r).length=xs.length+1+r.countP (fun c=>c.1)
  | [],xs,y=>by unfold grp;simp
  | c :: r, xs, y => by
    unfold grp
    rw [List.countP_cons]
    cases h:c.1 with
    | true=>rw [if_pos rfl,q3sv r,List.length_append];simp;omega
    | false=>rw [if_neg (by simp),q3sv r];simp
theorem q3sw {β:Type}:∀ (xs:List Bool) (ys:List β),xs.length=ys.length→(xs.zip ys).countP (fun c=>c.1)=xs.countP id
  | [],[],_=>rfl
  | [],_ :: _,h=>by simp at h
  | _ :: _,[],h=>by simp at h
  | x :: xs,y :: ys,h=>by rw [List.zip_cons_cons,List.countP_cons,List.countP_cons,q3sw xs ys (by simpa using h)];rfl
def cntG (L:List Di) (G:List Dii) (a b:Int):Nat:=if L=[] then 0 else 1+G.countP (gtD a b)
theorem q3sx {L:List Di} {G:List Dii} (a b:Int) (h:L ≠ []→L.length=G.length+1):(ofG L G a b).length=cntG L G a b:=by
  cases L with
  | nil=>rfl
  | cons x r =>
    have hl:=h (by simp)
    show (grp [] [x] _).length=_
    rw [q3sv,q3sw _ _ (by rw [List.length_map];simp at hl;omega),List.countP_map]
    unfold cntG
    rw [if_neg (by simp)]
    simp
-- the least one of those that serve
theorem den1 {x:Dii} (h:qdm x.1 x.2.1=0):1≤x.2.1:=(qdt h).1
theorem q3ta (l:List T3) (n dd:Int):((gpL n dd (ordT l n dd)).map dU).length=l.length - 1:=by rw [List.length_map,q3ms,q3lz]
theorem q3tb (l:List T3) (n dd:Int):((ordT l n dd).map idU).length=l.length:=by rw [List.length_map,q3lz]
theorem q3tc (l:List T3) (n dd:Int):((ordT l n dd).map idU ≠ []→((ordT l n dd).map idU).length=((gpL n dd (ordT l n dd)).map dU).length+1)∧((ordT l n dd).map idU=[]→(gpL n dd (ordT l n dd)).map dU=[]):=by
  have h1:=q3ta l n dd
  have h2:=q3tb l n dd
  constructor
  · intro h
    have:=List.length_pos_iff.2 h
    omega
  · intro h
    rw [h] at h2
    simp at h2
    exact List.eq_nil_of_length_eq_zero (by omega)
theorem q3tf {l:List T3} {n dd:Int} (ht:qrq (ptsL l) n dd=0) (he:(q3m1 l n dd).2.2=0) {a b:Int} (hr:qdm a b=0) (ha:0≤a):ofW l n dd a b=(ql (e:=Ri) (ofO l n dd a b),0):=by
  unfold ofW
  rw [if_neg (by simpa using ht),if_neg (by simpa using hr),if_neg (by omega),if_neg (by simpa using he)]
  rfl
theorem q3tg (l:List T3) (n dd a b:Int):((ql (e:=Ri) (ofO l n dd a b)).length:Int)=(cntG ((ordT l n dd).map idU) ((gpL n dd (ordT l n dd)).map dU) a b:Int) :=
  congrArg Int.ofNat ((qm (e:=Ri) _).trans (q3sx a b (q3tc l n dd).1))
end Go.Proofs.YtbjpmdhdoggobaaGreat
