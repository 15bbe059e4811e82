/- Walks of the references; the orders agree; examples. -/
import Derived.Test.YtpgpbhjkgciggaaGf
set_option linter.unusedSimpArgs false
set_option linter.unusedVariables false
namespace Go.Proofs.Ytpgpbhjkgciggaa
open Go Go.Tx Go.Pel
theorem q2l5 (d:Nat) (a b:Int):qy6 d ((a,()),(b,()),())=some (cmpZ a b):=by
  simp only [qy6,qwu,qwy,qx2,qx6,qxa,qxe,qxi,qxk,qxo,qxq,qxu,qxw,qy0,qy2,qy4,qwm,qwc,qwg,qwk,Dt.eval,bne_self_eq_false,cond_false]
  unfold cmpZ
  by_cases h1:a<b
  · simp only [h1,decide_true,cond_true,if_true]
  · by_cases h2 : b < a
    · simp only [h1,h2,gt_iff_lt,decide_true,decide_false,cond_true,cond_false,if_true,if_false]
    · simp only [h1,h2,gt_iff_lt,decide_false,cond_false,if_false]
theorem q2l6 (d:Nat) (a b:Int):q11k d ((a,()),(b,()),())=some (cmpZ a b):=by
  simp only [q11k,q108,q10c,q10g,q10k,q10o,q10s,q10w,q10y,q112,q114,q118,q11a,q11e,q11g,q11i,q100,qzq,qzu,qzy,Dt.eval,bne_self_eq_false,cond_false]
  unfold cmpZ
  by_cases h1:a<b
  · simp only [h1,decide_true,cond_true,if_true]
  · by_cases h2 : b < a
    · simp only [h1,h2,gt_iff_lt,decide_true,decide_false,cond_true,cond_false,if_true,if_false]
    · simp only [h1,h2,gt_iff_lt,decide_false,cond_false,if_false]
theorem q2l7 (d:Nat) (a b:Int):q1m0 d ((a,()),(b,()),())=some (cmpZ a b):=by
  simp only [q1m0,q1ko,q1ks,q1kw,q1l0,q1l4,q1l8,q1lc,q1le,q1li,q1lk,q1lo,q1lq,q1lu,q1lw,q1ly,q1kg,q1k6,q1ka,q1ke,Dt.eval,bne_self_eq_false,cond_false]
  unfold cmpZ
  by_cases h1:a<b
  · simp only [h1,decide_true,cond_true,if_true]
  · by_cases h2 : b < a
    · simp only [h1,h2,gt_iff_lt,decide_true,decide_false,cond_true,cond_false,if_true,if_false]
    · simp only [h1,h2,gt_iff_lt,decide_false,cond_false,if_false]
theorem q2l8 (d:Nat) (a:Int) (h:i64B a=true):qyu d ((a,()),())=some (a.natAbs:Int):=by
  have h:=qjv h
  simp only [qyu,qye,qyi,qym,qyq,qys,Dt.eval]
  by_cases h1:a<0
  · simp only [h1, decide_true, cond_true, IntKind.wrap_u64]
    exact congrArg some (by omega:((0:Int) - a % 18446744073709551616) % 18446744073709551616=(a.natAbs:Int))
  · simp only [h1, decide_false, cond_false, IntKind.wrap_u64]
    exact congrArg some (by omega:(a % 18446744073709551616:Int)=(a.natAbs:Int))
theorem q2la (d:Nat) (a b:Int) (ha:i64B a=true) (hb:i64B b=true):qzi d ((a,()),(b,()),())=some (!((decide (a<0)) == (decide (b<0))),(((a*b).natAbs / 18446744073709551616:Nat):Int),(((a*b).natAbs % 18446744073709551616:Nat):Int)):=by
  have e1:=q2l8 d a ha
  have e2:=q2l8 d b hb
  have ha':=qjv ha
  have hb':=qjv hb
  have e3:qnc d (((a.natAbs:Int),()),((b.natAbs:Int),()),())=some (((a.natAbs:Int)*(b.natAbs:Int)) / 18446744073709551616,((a.natAbs:Int)*(b.natAbs:Int)) % 18446744073709551616):=by
    rw [qnd _ _ (by unfold qnb u64B;simp only [Bool.and_eq_true,decide_eq_true_eq];omega)]
  simp only [qzi,qz2,qz8,qzc,qzg,Dt.eval,e1,e2,e3]
  rw [Int.natAbs_mul]
  simp
theorem ltZ (a b:Int):cmpZ a b=-1∧a<b∨cmpZ a b=0∧a=b∨cmpZ a b=1∧b<a:=by
  unfold cmpZ
  repeat' split
  all_goals omega
theorem q2lb (d:Nat) (n1 n2:Bool) (P Q:Nat):q12e d ((n1,((P / 18446744073709551616:Nat):Int),((P % 18446744073709551616:Nat):Int),()),(n2,((Q / 18446744073709551616:Nat):Int),((Q % 18446744073709551616:Nat):Int),()),())=some (cmpZ (P:Int) (Q:Int)):=by
  simp only [q12e,q11s,q11y,q122,q126,q12a,q12c,Dt.eval,q2l6]
  rcases ltZ ((P / 18446744073709551616:Nat):Int) ((Q / 18446744073709551616:Nat):Int) with ⟨h1,h2⟩ | ⟨h1,h2⟩ | ⟨h1,h2⟩
  · simp only [h1, show ((-1 : Int) != 0) = true from rfl, cond_true]
    rw [qle (by omega)]
  · simp only [h1, show ((0 : Int) != 0) = false from rfl, cond_false]
    rcases ltZ (P:Int) (Q:Int) with ⟨k1,k2⟩ | ⟨k1,k2⟩ | ⟨k1,k2⟩
    · rw [k1,qle (by omega)]
    · rw [k1,qlg (by omega)]
    · rw [k1,qlf (by omega)]
  · simp only [h1, show ((1 : Int) != 0) = true from rfl, cond_true]
    rw [qlf (by omega)]
theorem q2lc (d:Nat) (n1 d1 n2 d2:Int) (h1:i64B n1=true) (h2:i64B d1=true) (h3:i64B n2=true) (h4:i64B d2=true):qw4 d ((n1,d1,()),(n2,d2,()),())=some (tmax (qe0 n1 d1) (qe0 n2 d2)):=by
  have e1:qnu d ((n1,d1,()),())=some (qe0 n1 d1):=qnv _ _ (by unfold qnt;simp only [h1,h2,Bool.and_self])
  have e2:qnu d ((n2,d2,()),())=some (qe0 n2 d2):=qnv _ _ (by unfold qnt;simp only [h3,h4,Bool.and_self])
  simp only [qw4,qvs,qvy,qw2,Dt.eval,e1,e2]
def cmpR (n1 d1 n2 d2:Int):Int×Int:=if qe0 n1 d1=0∧qe0 n2 d2=0 then (cmpQ n1 d1 n2 d2,0) else (0,8)
theorem q2ld (d:Nat) (n1 d1 n2 d2:Int) (h1:i64B n1=true) (h2:i64B d1=true) (h3:i64B n2=true) (h4:i64B d2=true):q13r d ((n1,d1,()),(n2,d2,()),())=some (cmpR n1 d1 n2 d2):=by
  unfold cmpR
  have e0:=q2lc d n1 d1 n2 d2 h1 h2 h3 h4
  by_cases hc:qe0 n1 d1=0∧qe0 n2 d2=0
  · rw [if_pos hc]
    rw [hc.1,hc.2] at e0
    obtain ⟨g1,_,_⟩:=qe7 hc.1
    obtain ⟨g2,_,_⟩:=qe7 hc.2
    have e1:=q2la d n1 d2 h1 h4
    have e2:=q2la d n2 d1 h3 h2
    have e3:=q2l5 d n1 n2
    simp only [q13r,q12m,q12s,q12w,q130,q134,q138,q13a,q13e,q13i,q13m,q13o,q13q,Dt.eval,e0,e1,e2,e3,q2lb,show tmax 0 0=0 from rfl,show ((0:Int) != 0)=false from rfl,cond_false]
    unfold cmpQ
    have p1:0<d1:=by omega
    have p2:0<d2:=by omega
    have s1:(n1<0→n1*d2<0)∧(0≤n1→0≤n1*d2):=⟨fun h=>Int.mul_neg_of_neg_of_pos h p2,fun h=>Int.mul_nonneg h (by omega)⟩
    have s2:(n2<0→n2*d1<0)∧(0≤n2→0≤n2*d1):=⟨fun h=>Int.mul_neg_of_neg_of_pos h p1,fun h=>Int.mul_nonneg h (by omega)⟩
    generalize n1*d2=P at *
    generalize n2*d1=Q at *
    by_cases k1:n1<0<;>by_cases k2:n2<0<;>simp only [k1,k2,decide_true,decide_false,beq_self_eq_true,Bool.not_true,Bool.not_false,cond_true,cond_false,Bool.false_beq,Bool.true_beq]
    · have := s1.1 k1
      have:=s2.1 k2
      rcases ltZ (P.natAbs:Int) (Q.natAbs:Int) with ⟨g1,g2⟩ | ⟨g1,g2⟩ | ⟨g1,g2⟩
      · rw [g1,qlf (a:=P) (b:=Q) (by omega)];rfl
      · rw [g1,qlg (a:=P) (b:=Q) (by omega)];rfl
      · rw [g1,qle (a:=P) (b:=Q) (by omega)];rfl
    · have := s1.1 k1
      have:=s2.2 (by omega)
      rw [qle (by omega),qle (by omega)]
    · have := s1.2 (by omega)
      have:=s2.1 k2
      rw [qlf (by omega),qlf (by omega)]
    · have := s1.2 (by omega)
      have:=s2.2 (by omega)
      rw [show (P.natAbs:Int)=P by omega,show (Q.natAbs:Int)=Q by omega]
  · rw [if_neg hc]
    have e1:tmax (qe0 n1 d1) (qe0 n2 d2)=8:=by
      unfold tmax
      rcases qe6 n1 d1 with q1 | q1<;>rcases qe6 n2 d2 with q2 | q2
      · exact absurd ⟨q1,q2⟩ hc
      all_goals rw [q1,q2];rfl
    rw [e1] at e0
    simp only [q13r,q12m,q12s,q12w,q130,q134,Dt.eval,e0,show ((8:Int) != 0)=true from rfl,cond_true]
end Go.Proofs.Ytpgpbhjkgciggaa

namespace Go.Tx
open Go
end Go.Tx

namespace Go.Pel
open Go Go.Tx
abbrev T3:Type:=Int×Int×Int×Unit
abbrev M4:Type:=Int×Int×Int×Int×Unit
theorem q_lt {a b c d1 d2 d3:Int} (h1:1≤d1) (h2:1≤d2) (h3:1≤d3) (h:a*d2<b*d1) (k:b*d3≤c*d2):a*d3<c*d1:=by
  have e1:a*d3*d2<c*d1*d2:=by
    have:=Int.mul_lt_mul_of_pos_right h (show (0:Int)<d3 by omega)
    have:=Int.mul_le_mul_of_nonneg_right k (show (0:Int)≤d1 by omega)
    rw [Int.mul_right_comm a d3 d2,Int.mul_right_comm c d1 d2]
    have e:b*d1*d3=b*d3*d1:=Int.mul_right_comm b d1 d3
    omega
  exact Int.lt_of_mul_lt_mul_right e1 (by omega)
theorem q2lk {a b c d1 d2 d3:Int} (h1:1≤d1) (h2:1≤d2) (h3:1≤d3) (h:a*d2≤b*d1) (k:b*d3<c*d2):a*d3<c*d1:=by
  have e1:a*d3*d2<c*d1*d2:=by
    have:=Int.mul_le_mul_of_nonneg_right h (show (0:Int)≤d3 by omega)
    have:=Int.mul_lt_mul_of_pos_right k (show (0:Int)<d1 by omega)
    rw [Int.mul_right_comm a d3 d2,Int.mul_right_comm c d1 d2]
    have e:b*d1*d3=b*d3*d1:=Int.mul_right_comm b d1 d3
    omega
  exact Int.lt_of_mul_lt_mul_right e1 (by omega)
theorem q_eq {a b d1 d2:Int} (h1:qe0 a d1=0) (h2:qe0 b d2=0) (h:a*d2=b*d1):a=b∧d1=d2:=by
  obtain ⟨p1,_,g1⟩:=qe7 h1
  obtain ⟨p2,_,g2⟩:=qe7 h2
  have hn:a.natAbs*d2.toNat=b.natAbs*d1.toNat:=by
    have:=congrArg Int.natAbs h
    rw [Int.natAbs_mul,Int.natAbs_mul] at this
    rwa [show d2.natAbs=d2.toNat by omega,show d1.natAbs=d1.toNat by omega] at this
  have k1:d1.toNat ∣ d2.toNat:=Nat.Coprime.dvd_of_dvd_mul_left (k:=d1.toNat) (m:=a.natAbs) (n:=d2.toNat) g1 ⟨b.natAbs,by rw [hn,Nat.mul_comm]⟩
  have k2:d2.toNat ∣ d1.toNat:=Nat.Coprime.dvd_of_dvd_mul_left (k:=d2.toNat) (m:=b.natAbs) (n:=d1.toNat) g2 ⟨a.natAbs,by rw [← hn,Nat.mul_comm]⟩
  have e:d1.toNat=d2.toNat:=Nat.dvd_antisymm k1 k2
  have e':d1=d2:=by omega
  subst e'
  exact ⟨Int.eq_of_mul_eq_mul_right (by omega) h,rfl⟩
def okM (x:M4):Prop:=qe0 x.1 x.2.1=0
theorem q2lt {n d:Int} (hd:d≠0) (hn:n.natAbs≤4194304) (hd2:d.natAbs≤4194304):(mk n d).2.2=0∧qe0 (mk n d).1 (mk n d).2.1=0∧(mk n d).1.natAbs≤4194304∧(mk n d).2.1≤4194304:=by
  have hg:=qew (n:=n) hd
  rw [qev hd]
  have b1:n.natAbs / Nat.gcd n.natAbs d.natAbs≤n.natAbs:=Nat.div_le_self _ _
  have b2:d.natAbs / Nat.gcd n.natAbs d.natAbs≤d.natAbs:=Nat.div_le_self _ _
  have b3:1≤d.natAbs / Nat.gcd n.natAbs d.natAbs:=Nat.div_pos (Nat.gcd_le_right _ (by omega)) hg
  have hc:Nat.gcd (d.natAbs / Nat.gcd n.natAbs d.natAbs) (n.natAbs / Nat.gcd n.natAbs d.natAbs)=1:=by
    rw [Nat.gcd_comm];exact Nat.coprime_div_gcd_div_gcd hg
  generalize n.natAbs / Nat.gcd n.natAbs d.natAbs=A at *
  generalize d.natAbs / Nat.gcd n.natAbs d.natAbs=B at *
  have hno:¬ (0<0∨9223372036854775807<A∨0<0∨9223372036854775807<B):=by omega
  cases (decide (n<0) != decide (d<0)) with
  | true =>
    rw [qer hno]
    refine ⟨rfl,qe3 (by simp only;omega) (by simp only;omega) ?_,by simp only;omega,by simp only;omega⟩
    simp only [Int.toNat_natCast,Int.natAbs_neg,Int.natAbs_natCast];exact hc
  | false =>
    rw [qes hno]
    refine ⟨rfl,qe3 (by simp only;omega) (by simp only;omega) ?_,by simp only;omega,by simp only;omega⟩
    simp only [Int.toNat_natCast,Int.natAbs_natCast];exact hc
def mtP (x:T3×T3):Option M4:=if x.1.2.2.1=x.2.2.2.1 then none else some ((mk (x.1.2.1 - x.2.2.1) (x.2.2.2.1 - x.1.2.2.1)).1,(mk (x.1.2.1 - x.2.2.1) (x.2.2.2.1 - x.1.2.2.1)).2.1,x.1.1,x.2.1,())
def okP (p:T3):Prop:=(ofP p).chk=0
structure FldOk (l:List T3):Prop where
  len:l.length≤64
  ok:∀ p∈l,okP p
  inc:l.Pairwise fun p q=>p.1<q.1
end Go.Pel

namespace Go.Tx
theorem q2m5 {α:Type} {f g:α→α→Bool} {x:α}:∀ {l:List α},(∀ a∈l,f x a=g x a)→insL f x l=insL g x l
  | [],_=>rfl
  | y :: ys, h => by
    rw [insL,insL,h y (List.mem_cons_self ..),q2m5 fun a ha=>h a (List.mem_cons_of_mem _ ha)]
theorem q2m6 {α:Type} {f g:α→α→Bool}:∀ {l:List α},(∀ a∈l,∀ b∈l,f a b=g a b)→qsq f l=qsq g l
  | [],_=>rfl
  | x :: xs, h => by
    rw [qsq,qsq,q2m6 fun a ha b hb=>h a (List.mem_cons_of_mem _ ha) b (List.mem_cons_of_mem _ hb)]
    exact q2m5 fun a ha=>h x (List.mem_cons_self ..) a (List.mem_cons_of_mem _ ((qst g xs).mem_iff.1 ha))
theorem q2m7 {τ:Row} {F:den τ×den τ×Unit→Option Int} {S:den τ→Prop} {lt:den τ→den τ→Bool} {c:den τ→den τ→Int} {xs:List (den τ)} (hS:∀ x∈xs,S x) (hF:∀ x y,S x→S y→F (x,y,())=some (c x y)) (hc:∀ x y,lt x y=decide (c x y<0)) (hi:∀ x,lt x x=false)
    (ht:∀ x y z,S x→S y→S z→lt x y=true→lt y z=true→lt x z=true) (hn:∀ x y z,S x→S y→S z→lt x y=false→lt y z=false→lt x z=false) (he:∀ x y,S x→S y→lt x y=false→lt y x=false→eqR τ x y=true) (hl:xs.length≤1000000):qsr F xs=some (qsq lt xs):=by
  have hlt:∀ x y,S x→S y→ltV F x y=lt x y:=fun x y hx hy=>by unfold ltV cmpV;rw [hF x y hx hy,hc]
  have hB:qsp F xs=true:=by
    unfold qsp
    simp only [Bool.and_eq_true,List.all_eq_true,Bool.or_eq_true,Bool.not_eq_true']
    refine ⟨⟨⟨⟨fun x hx y hy=>?_,fun x hx=>?_⟩,fun x hx y hy=>?_⟩,fun x hx y hy=>?_⟩,fun x hx y hy=>?_⟩
    · rw [hF x y (hS x hx) (hS y hy)];rfl
    · rw [hlt x x (hS x hx) (hS x hx)];exact hi x
    · rw [hlt x y (hS x hx) (hS y hy)]
      cases hxy:lt x y with
      | false=>exact .inl rfl
      | true =>
        refine .inr fun z hz=>?_
        rw [hlt y z (hS y hy) (hS z hz),hlt x z (hS x hx) (hS z hz)]
        cases hyz:lt y z with
        | false=>exact .inl rfl
        | true=>exact .inr (ht x y z (hS x hx) (hS y hy) (hS z hz) hxy hyz)
    · rw [hlt x y (hS x hx) (hS y hy)]
      cases hxy:lt x y with
      | true=>exact .inl rfl
      | false =>
        refine .inr fun z hz=>?_
        rw [hlt y z (hS y hy) (hS z hz),hlt x z (hS x hx) (hS z hz)]
        cases hyz:lt y z with
        | true=>exact .inl rfl
        | false=>exact .inr (hn x y z (hS x hx) (hS y hy) (hS z hz) hxy hyz)
    · rw [hlt x y (hS x hx) (hS y hy), hlt y x (hS y hy) (hS x hx)]
      cases hxy:lt x y with
      | true=>exact .inl (.inl rfl)
      | false =>
        cases hyx:lt y x with
        | true=>exact .inl (.inr rfl)
        | false=>exact .inr (he x y (hS x hx) (hS y hy) hxy hyx)
  unfold qsr
  rw [hB,show Nat.ble xs.length 1000000=true by rw [Nat.ble_eq];exact hl]
  exact congrArg some (q2m6 fun a ha b hb=>hlt a b (hS a ha) (hS b hb))
end Go.Tx
namespace Go.Proofs.Ytpgpbhjkgciggaa
open Go Go.Tx Go.Pel
theorem q2m8 {a:Int} (h:a.natAbs≤9223372036854775807):i64B a=true:=by
  unfold i64B;simp only [Bool.and_eq_true,decide_eq_true_eq];omega
structure okW (x:M4):Prop where
  ok:okM x
  n:x.1.natAbs≤4194304
  d:x.2.1≤4194304
theorem okW.b1 {x:M4} (h:okW x):i64B x.1=true:=q2m8 (by have:=h.n;omega)
theorem okW.b2 {x:M4} (h:okW x):i64B x.2.1=true:=q2m8 (by have:=h.d;have:=(qe7 h.ok).1;omega)
theorem q2m9 {p:T3} (h:okP p):0≤p.1∧p.1≤65535∧-1048576≤p.2.1∧p.2.1≤1048576∧-1048576≤p.2.2.1∧p.2.2.1≤1048576:=qei (show qee p.1 p.2.1 p.2.2.1=0 from h)
theorem q2ma (d:Nat) {p q:T3} (hp:okP p) (hq:okP q) (hi:p.1≠q.1):qvk d ((p.1,p.2.1,p.2.2.1,()),(q.1,q.2.1,q.2.2.1,()),()) =
    some (if p.2.2.1=q.2.2.1 then (0,0,6) else ((mk (p.2.1 - q.2.1) (q.2.2.1 - p.2.2.1)).1,(mk (p.2.1 - q.2.1) (q.2.2.1 - p.2.2.1)).2.1,0)):=by
  obtain ⟨_,_,a1,a2,a3,a4⟩:=q2m9 hp
  obtain ⟨_,_,b1,b2,b3,b4⟩:=q2m9 hq
  have e1:qpl d ((p.1,p.2.1,p.2.2.1,()),(q.1,q.2.1,q.2.2.1,()),((0:Int),(1:Int),()),())=some 0:=by
    rw [qpm _ _ (by rfl)]
    exact congrArg some (qlr ⟨hp,hq,show qe0 0 1=0 by decide⟩ hi)
  have w1:IntKind.wrap .i64 (p.2.1 - q.2.1)=p.2.1 - q.2.1:=IntWalk.i64_in _ (by omega)
  have w2:IntKind.wrap .i64 (q.2.2.1 - p.2.2.1)=q.2.2.1 - p.2.2.1:=IntWalk.i64_in _ (by omega)
  have e2:qoc d ((p.2.1 - q.2.1,()),(q.2.2.1 - p.2.2.1,()),())=some ((mk (p.2.1 - q.2.1) (q.2.2.1 - p.2.2.1)).1,(mk (p.2.1 - q.2.1) (q.2.2.1 - p.2.2.1)).2.1,(mk (p.2.1 - q.2.1) (q.2.2.1 - p.2.2.1)).2.2) :=
    qod _ _ (by unfold qob;simp only;rw [q2m8 (by omega),q2m8 (by omega)];rfl)
  simp only [qvk,qus,quy,qv2,qv6,qva,qve,qvg,qvi,Dt.eval,e1,show ((0:Int) != 0)=false from rfl,cond_false]
  by_cases hb:p.2.2.1=q.2.2.1
  · simp only [hb,beq_self_eq_true,cond_true,if_true]
  · have hb' : (p.2.2.1 == q.2.2.1) = false := by simpa using hb
    have h0:=(q2lt (n:=p.2.1 - q.2.1) (d:=q.2.2.1 - p.2.2.1) (by omega) (by omega) (by omega)).1
    simp only [hb',cond_false,hb,if_false,w1,w2,e2,h0]
    rfl
end Go.Proofs.Ytpgpbhjkgciggaa

namespace Go.Pel
open Go Go.Tx
def gtM (n dd:Int) (x:M4):Bool:=decide (0<cmpQ x.1 x.2.1 n dd)
theorem q2mb (n dd:Int) (x:M4):gtM n dd x=true↔n*x.2.1<x.1*dd:=by
  unfold gtM cmpQ cmpZ
  rw [decide_eq_true_eq]
  repeat' split
  all_goals omega
end Go.Pel
namespace Go.Proofs.Ytpgpbhjkgciggaa
open Go Go.Tx Go.Pel
def chk1 (l:List T3) (n dd:Int):Int:=if qh2 (ptsL l)≠0 then qh2 (ptsL l) else qe0 n dd
theorem q2me {l:List T3} (h:qh2 (ptsL l)=0):FldOk l:=by
  obtain ⟨h1,h2,h3⟩:=qh7 h
  rw [qjq] at h1
  refine ⟨h1,fun p hp=>h2 _ (List.mem_map_of_mem hp),?_⟩
  rw [List.pairwise_iff_getElem]
  intro i j hi hj hij
  have hg:∀ k (hk:k<l.length),(ptsL l)[k]?=some (ofP l[k]):=fun k hk=>by unfold ptsL;rw [List.getElem?_map,List.getElem?_eq_getElem hk];rfl
  exact qh1 h3 hij (hg i hi) (hg j hj)
end Go.Proofs.Ytpgpbhjkgciggaa

namespace Go.Pel
open Go Go.Tx
end Go.Pel
namespace Go.Proofs.Ytpgpbhjkgciggaa
open Go Go.Tx Go.Pel
theorem q2mn {k:Nat} (h:k<1000000):IntKind.wrap .i64 ((k:Int)+1)=((k+1:Nat):Int):=by rw [IntWalk.i64_in _ (by omega)];omega
theorem q2mo {α:Type} {z:α} {l:List α} {k:Nat} {x:α} (h:l[k]?=some x):elt z l (k:Int).toNat=x:=by unfold elt;rw [Int.toNat_natCast,h];rfl
theorem q2mp {k n:Nat} (h:k<n):inB (k:Int) n=true:=q3h.2 ⟨by omega,by omega⟩
theorem q2mq {a b:Nat} (h:a<b):decide ((a:Int)<(b:Int))=true:=by rw [decide_eq_true_eq];omega
theorem q2mr {a b:Nat} (h:¬ a<b):decide ((a:Int)<(b:Int))=false:=by rw [decide_eq_false_iff_not];omega
theorem q2ms {α:Type} {l:List α} {k:Nat} {x:α} (h:l[k]?=some x):l.drop k=x :: l.drop (k+1):=by
  obtain ⟨h1,rfl⟩:=List.getElem?_eq_some_iff.1 h
  exact List.drop_eq_getElem_cons h1
end Go.Proofs.Ytpgpbhjkgciggaa

namespace Go.Proofs.Ytpgpbhjkgciggaa
open Go Go.Tx Go.Pel
theorem q2mw {a:Int} (h:-9223372036854775808≤a∧a≤9223372036854775807):i64B a=true:=by
  unfold i64B;simp only [Bool.and_eq_true,decide_eq_true_eq];exact h
end Go.Proofs.Ytpgpbhjkgciggaa

namespace Go.Pel
open Go Go.Tx
def leQ (n dd n' dd':Int):Prop:=n*dd'≤n'*dd
theorem q2n2 {n dd n' dd':Int} (hd:1≤dd) (hd':1≤dd') (hle:leQ n dd n' dd') {x:M4} (hx:okM x) (h:gtM n' dd' x=true):gtM n dd x=true:=by
  have o1:=(qe7 hx).1
  rw [q2mb] at h ⊢
  exact q2lk hd hd' o1 hle h
end Go.Pel
namespace Go.Proofs.Ytpgpbhjkgciggaa
open Go Go.Tx Go.Pel
end Go.Proofs.Ytpgpbhjkgciggaa

namespace Go.Tx
end Go.Tx
namespace Go.Proofs.Ytpgpbhjkgciggaa
open Go Go.Tx Go.Pel
theorem q2n9 (d:Nat) {p q:T3} (hp:okP p) (hq:okP q) (hi:p.1≠q.1) {n dd:Int} (hn:i64B n=true) (hd:i64B dd=true) (hr:qe0 n dd=0):qpu d ((p.1,p.2.1,p.2.2.1,()),(q.1,q.2.1,q.2.2.1,()),(n,dd,()),())=some (qld (ofP p) (ofP q) n dd,0):=by
  rw [qpv _ _ (by unfold qpt;simp only [hn,hd,Bool.and_self])]
  have h:qlo (ofP p) (ofP q) n dd=0:=qlr ⟨hp,hq,hr⟩ hi
  show some ((qlt (ofP p) (ofP q) n dd).1,(qlt (ofP p) (ofP q) n dd).2)=_
  unfold qlt
  rw [if_pos h]
end Go.Proofs.Ytpgpbhjkgciggaa

namespace Go.Pel
open Go Go.Tx
theorem q2p {α:Type} {L:List α} {f t:Nat} (h1:f<t):((L.take t).drop f)[0]?=L[f]?:=by
  rw [List.getElem?_drop,Nat.add_zero,List.getElem?_take,if_pos h1]
end Go.Pel
namespace Go.Proofs.Ytpgpbhjkgciggaa
open Go Go.Tx Go.Pel
end Go.Proofs.Ytpgpbhjkgciggaa

namespace Go.Pel
open Go Go.Tx
theorem q2nk {n d:Int} (hd:d≠0) (hn:n.natAbs≤4194304) (hd2:d.natAbs≤4194304):(mk n d).1*d=n*(mk n d).2.1:=by
  have hg:=qew (n:=n) hd
  rw [qev hd]
  have b1:n.natAbs / Nat.gcd n.natAbs d.natAbs≤n.natAbs:=Nat.div_le_self _ _
  have b2:d.natAbs / Nat.gcd n.natAbs d.natAbs≤d.natAbs:=Nat.div_le_self _ _
  have e1:Nat.gcd n.natAbs d.natAbs*(n.natAbs / Nat.gcd n.natAbs d.natAbs)=n.natAbs:=Nat.mul_div_cancel' (Nat.gcd_dvd_left _ _)
  have e2:Nat.gcd n.natAbs d.natAbs*(d.natAbs / Nat.gcd n.natAbs d.natAbs)=d.natAbs:=Nat.mul_div_cancel' (Nat.gcd_dvd_right _ _)
  have e3:=(fun (G A B N D:Nat) (k1:G*A=N) (k2:G*B=D)=>(by subst k1 k2;rw [Nat.mul_left_comm,Nat.mul_assoc]:A*D=N*B)) _ _ _ _ _ e1 e2
  generalize n.natAbs / Nat.gcd n.natAbs d.natAbs=A at *
  generalize d.natAbs / Nat.gcd n.natAbs d.natAbs=B at *
  have e4:(A:Int)*(d.natAbs:Int)=(n.natAbs:Int)*(B:Int):=by exact_mod_cast e3
  have hno:¬ (0<0∨9223372036854775807<A∨0<0∨9223372036854775807<B):=by omega
  by_cases h1:n<0<;>by_cases h2:d<0
  · rw [show (decide (n < 0) != decide (d < 0)) = false by simp [h1, h2], qes hno]
    rw [show (d.natAbs:Int)=-d by omega,show (n.natAbs:Int)=-n by omega,Int.mul_neg,Int.neg_mul] at e4
    show (A:Int)*d=n*(B:Int)
    omega
  · rw [show (decide (n < 0) != decide (d < 0)) = true by simp [h1, h2], qer hno]
    rw [show (d.natAbs:Int)=d by omega,show (n.natAbs:Int)=-n by omega,Int.neg_mul] at e4
    show -(A:Int)*d=n*(B:Int)
    rw [Int.neg_mul];omega
  · rw [show (decide (n < 0) != decide (d < 0)) = true by simp [h1, h2], qer hno]
    rw [show (d.natAbs:Int)=-d by omega,show (n.natAbs:Int)=n by omega,Int.mul_neg] at e4
    show -(A:Int)*d=n*(B:Int)
    rw [Int.neg_mul];omega
  · rw [show (decide (n < 0) != decide (d < 0)) = false by simp [h1, h2], qes hno]
    rw [show (d.natAbs:Int)=d by omega,show (n.natAbs:Int)=n by omega] at e4
    exact e4
theorem q2nl {F D B X:Int} (hD:0<D) (hB:0<B) (h:F*D=B*X):(0<F↔0<X)∧(F=0↔X=0):=by
  have f:(0<F∧0<F*D)∨(F=0∧F*D=0)∨(F<0∧F*D<0):=by
    rcases (by omega:0<F∨F=0∨F<0) with k | k | k
    · exact .inl ⟨k,Int.mul_pos k hD⟩
    · exact .inr (.inl ⟨k,by rw [k,Int.zero_mul]⟩)
    · exact .inr (.inr ⟨k,Int.mul_neg_of_neg_of_pos k hD⟩)
  have g:(0<X∧0<B*X)∨(X=0∧B*X=0)∨(X<0∧B*X<0):=by
    rcases (by omega:0<X∨X=0∨X<0) with k | k | k
    · exact .inl ⟨k,Int.mul_pos hB k⟩
    · exact .inr (.inl ⟨k,by rw [k,Int.mul_zero]⟩)
    · exact .inr (.inr ⟨k,Int.mul_neg_of_pos_of_neg hB k⟩)
  generalize F*D=U at *
  generalize B*X=V at *
  omega
theorem q2nm {F D B X:Int} (hD:0<D) (hB:B<0) (h:F*D=B*X):(0<F↔X<0)∧(F=0↔X=0):=by
  have:=q2nl (F:=F) (B:=-B) (X:=-X) hD (by omega) (by rw [Int.neg_mul_neg];exact h)
  omega
theorem q2nn {p q:Pt} {n d:Int}:qld p q n d=true↔0<farD p q n d∨(farD p q n d=0∧(q.b<p.b∨(p.b=q.b∧p.id<q.id))):=by
  unfold qld
  by_cases h:farD p q n d=0
  · rw [if_neg (by omega)]
    by_cases hb:p.b=q.b
    · rw [if_neg (by omega),decide_eq_true_eq];omega
    · rw [if_pos hb,decide_eq_true_eq];omega
  · rw [if_pos h,decide_eq_true_eq];omega
theorem q2no {p:T3} (h:okP p):0≤p.1∧p.1≤65535∧-1048576≤p.2.1∧p.2.1≤1048576∧-1048576≤p.2.2.1∧p.2.2.1≤1048576:=qei (show qee p.1 p.2.1 p.2.2.1=0 from h)
theorem q2np {x:T3×T3} (hp:okP x.1) (hq:okP x.2) {m:M4} (h:mtP x=some m):x.1.2.2.1≠x.2.2.2.1∧okM m∧m.1.natAbs≤4194304∧m.2.1≤4194304∧m.2.2.1=x.1.1∧m.2.2.2.1=x.2.1∧(x.1.2.1 - x.2.2.1)*m.2.1+(x.1.2.2.1 - x.2.2.2.1)*m.1=0:=by
  obtain ⟨_,_,a1,a2,a3,a4⟩:=q2no hp
  obtain ⟨_,_,b1,b2,b3,b4⟩:=q2no hq
  unfold mtP at h
  by_cases hb:x.1.2.2.1=x.2.2.2.1
  · rw [if_pos hb] at h;cases h
  · rw [if_neg hb] at h
    injection h with h
    subst h
    obtain ⟨_,h2,h3,h4⟩:=q2lt (n:=x.1.2.1 - x.2.2.1) (d:=x.2.2.2.1 - x.1.2.2.1) (by omega) (by omega) (by omega)
    have h5:=q2nk (n:=x.1.2.1 - x.2.2.1) (d:=x.2.2.2.1 - x.1.2.2.1) (by omega) (by omega) (by omega)
    refine ⟨hb,h2,h3,h4,rfl,rfl,?_⟩
    show (x.1.2.1 - x.2.2.1)*(mk (x.1.2.1 - x.2.2.1) (x.2.2.2.1 - x.1.2.2.1)).2.1+(x.1.2.2.1 - x.2.2.2.1)*(mk (x.1.2.1 - x.2.2.1) (x.2.2.2.1 - x.1.2.2.1)).1=0
    rw [← h5,Int.mul_comm (x.1.2.2.1 - x.2.2.2.1),← Int.mul_add,show x.2.2.2.1 - x.1.2.2.1+(x.1.2.2.1 - x.2.2.2.1)=0 by omega,Int.mul_zero]
theorem q2nq {x:T3×T3} (hp:okP x.1) (hq:okP x.2) {m:M4} (h:mtP x=some m) {n dd:Int}:qld (ofP x.1) (ofP x.2) n dd=(if x.2.2.2.1<x.1.2.2.1 then !gtM n dd m else gtM n dd m):=by
  obtain ⟨hb,hm,_,_,_,_,e⟩:=q2np hp hq h
  have hD:=(qe7 hm).1
  have key:farD (ofP x.1) (ofP x.2) n dd*m.2.1=(x.1.2.2.1 - x.2.2.2.1)*(n*m.2.1 - m.1*dd):=by
    show ((x.1.2.1 - x.2.2.1)*dd+(x.1.2.2.1 - x.2.2.2.1)*n)*m.2.1=_
    rw [Int.add_mul,Int.mul_sub,Int.mul_right_comm (x.1.2.1 - x.2.2.1),show (x.1.2.1 - x.2.2.1)*m.2.1=-((x.1.2.2.1 - x.2.2.2.1)*m.1) by omega,Int.neg_mul,Int.mul_assoc,Int.mul_assoc]
    omega
  have hg:=q2mb n dd m
  have hl:=q2nn (p:=ofP x.1) (q:=ofP x.2) (n:=n) (d:=dd)
  have hbb:(ofP x.2).b<(ofP x.1).b↔x.2.2.2.1<x.1.2.2.1:=Iff.rfl
  have hbe:(ofP x.1).b=(ofP x.2).b↔x.1.2.2.1=x.2.2.2.1:=Iff.rfl
  by_cases hlt:x.2.2.2.1<x.1.2.2.1
  · obtain ⟨s1, s2⟩ := q2nl (by omega : 0 < m.2.1) (by omega : 0 < x.1.2.2.1 - x.2.2.2.1) key
    rw [if_pos hlt]
    cases h1:gtM n dd m with
    | true =>
      rw [h1] at hg
      have:=hg.1 rfl
      cases h2:qld (ofP x.1) (ofP x.2) n dd with
      | false=>rfl
      | true=>rw [h2] at hl;have:=hl.1 rfl;omega
    | false =>
      rw [h1] at hg
      have:¬ n*m.2.1<m.1*dd:=fun k=>by cases hg.2 k
      exact hl.2 (by omega)
  · obtain ⟨s1, s2⟩ := q2nm (by omega : 0 < m.2.1) (by omega : x.1.2.2.1 - x.2.2.2.1 < 0) key
    rw [if_neg hlt]
    cases h1:gtM n dd m with
    | true =>
      rw [h1] at hg
      have:=hg.1 rfl
      exact hl.2 (by omega)
    | false =>
      rw [h1] at hg
      have:¬ n*m.2.1<m.1*dd:=fun k=>by cases hg.2 k
      cases h2:qld (ofP x.1) (ofP x.2) n dd with
      | false=>rfl
      | true=>rw [h2] at hl;have:=hl.1 rfl;omega
theorem q2nr {p q:T3} (hb:p.2.2.1=q.2.2.1) {n dd n' dd':Int} (hd:1≤dd) (hd':1≤dd'):qld (ofP p) (ofP q) n dd=qld (ofP p) (ofP q) n' dd':=by
  have f:∀ {n d:Int},1≤d→(0<farD (ofP p) (ofP q) n d↔0<p.2.1 - q.2.1)∧(farD (ofP p) (ofP q) n d=0↔p.2.1 - q.2.1=0):=fun {n d} h=>by
    have e:farD (ofP p) (ofP q) n d=(p.2.1 - q.2.1)*d:=by
      show (p.2.1 - q.2.1)*d+(p.2.2.1 - q.2.2.1)*n=_
      rw [hb,Int.sub_self,Int.zero_mul,Int.add_zero]
    have:=q2nl (F:=p.2.1 - q.2.1) (D:=d) (B:=1) (X:=farD (ofP p) (ofP q) n d) (by omega) (by omega) (by rw [e,Int.one_mul])
    omega
  obtain ⟨f1,f2⟩:=f (n:=n) hd
  obtain ⟨g1,g2⟩:=f (n:=n') hd'
  rw [Bool.eq_iff_iff,q2nn,q2nn]
  have hbb:(ofP p).b=(ofP q).b:=hb
  omega
end Go.Pel
namespace Go.Proofs.Ytpgpbhjkgciggaa
open Go Go.Tx Go.Pel
end Go.Proofs.Ytpgpbhjkgciggaa

namespace Go.Pel
open Go Go.Tx
theorem q2o0 (p:Pt) (n d:Int):qld p p n d=false:=by
  cases h:qld p p n d with
  | false=>rfl
  | true =>
    have:=q2nn.1 h
    have e:farD p p n d=0:=by unfold farD;rw [Int.sub_self,Int.sub_self,Int.zero_mul,Int.zero_mul];rfl
    omega
theorem q2o1 {p q:Pt} {n d:Int} (hi:p.id≠q.id):qld q p n d=!qld p q n d:=by
  have e:farD q p n d=-farD p q n d:=by
    unfold farD
    rw [show q.a - p.a=-(p.a - q.a) by omega,show q.b - p.b=-(p.b - q.b) by omega,Int.neg_mul,Int.neg_mul]
    omega
  have h1:=q2nn (p:=p) (q:=q) (n:=n) (d:=d)
  have h2:=q2nn (p:=q) (q:=p) (n:=n) (d:=d)
  cases k1:qld p q n d<;>cases k2:qld q p n d
  · rw [k1] at h1; rw [k2] at h2
    have a1:¬ (0<farD p q n d∨(farD p q n d=0∧(q.b<p.b∨(p.b=q.b∧p.id<q.id)))):=fun k=>by cases h1.2 k
    have a2:¬ (0<farD q p n d∨(farD q p n d=0∧(p.b<q.b∨(q.b=p.b∧q.id<p.id)))):=fun k=>by cases h2.2 k
    omega
  · rfl
  · rfl
  · have a1 := h1.1 k1
    have a2:=h2.1 k2
    omega
theorem q2o5 {l:List T3} (h:FldOk l) {i j:Nat} {p q:T3} (hij:i<j) (hp:l[i]?=some p) (hq:l[j]?=some q):p.1<q.1:=by
  obtain ⟨h1,rfl⟩:=List.getElem?_eq_some_iff.1 hp
  obtain ⟨h2,rfl⟩:=List.getElem?_eq_some_iff.1 hq
  exact (List.pairwise_iff_getElem.1 h.inc) i j h1 h2 hij
theorem q2o8 {l:List T3} {P:Pt} (h:P∈ptsL l):∃ p∈l,ofP p=P:=List.mem_map.1 h
theorem q2oa {l:List T3} (h:FldOk l) (h0:qh2 (ptsL l)=0) {p:T3} (hp:p∈l):qhk (ptsL l) p.1=(ofP p,0):=by
  have hb:hasB (ptsL l) p.1=true:=by
    unfold hasB
    rw [List.any_eq_true]
    exact ⟨ofP p,List.mem_map_of_mem hp,decide_eq_true rfl⟩
  obtain ⟨_,P,h1,h2⟩:=qhj (qh7 h0).2.2 hb
  unfold qhk
  rw [if_neg (by simpa using h0),if_pos hb,List.getD_eq_getElem?_getD,h1]
  unfold ptsL at h1
  rw [List.getElem?_map] at h1
  cases hq:l[lowB (List.map ofP l) p.1]? with
  | none=>rw [hq] at h1;cases h1
  | some q =>
    rw [hq] at h1
    injection h1 with h1
    subst h1
    obtain ⟨i,hi⟩:=List.mem_iff_getElem?.1 hp
    have h2:q.1=p.1:=h2
    rcases (by omega:i<lowB (List.map ofP l) p.1∨i=lowB (List.map ofP l) p.1∨lowB (List.map ofP l) p.1<i) with k | k | k
    · have:=q2o5 h k hi hq;omega
    · rw [← k,hi] at hq;injection hq with hq;subst hq;rfl
    · have:=q2o5 h k hq hi;omega
end Go.Pel
namespace Go.Proofs.Ytpgpbhjkgciggaa
open Go Go.Tx Go.Pel
theorem q2oc (d:Nat) {l:List T3} (hl:l.length≤64) (h0:qh2 (ptsL l)=0) {n dd:Int} (hn:i64B n=true) (hd:i64B dd=true) (hr:qe0 n dd=0):quh d ((l,()),(n,dd,()),())=some (unI ((ordI n dd (ptsL l)).map Pt.id),0):=by
  rw [qui _ _ (by unfold qug;simp only [hn,hd,Bool.and_self,Bool.true_and,decide_eq_true_eq];rw [qjq];omega)]
  have e:qte (ptsL l) n dd=((ordI n dd (ptsL l)).map Pt.id,0):=by unfold qte;rw [if_neg (by simpa using h0),if_neg (by simpa using hr)]
  show some (unI (qte (ptsL l) n dd).1,(qte (ptsL l) n dd).2)=_
  rw [e]
theorem q2od (d:Nat) {l:List T3} (h:FldOk l) (h0:qh2 (ptsL l)=0) {p:T3} (hp:p∈l):qtz d ((l,()),(p.1,()),())=some (p.1,p.2.1,p.2.2.1,0):=by
  rw [qu0 _ _ rfl]
  show some ((qhk (ptsL l) p.1).1.id,(qhk (ptsL l) p.1).1.a,(qhk (ptsL l) p.1).1.b,(qhk (ptsL l) p.1).2)=_
  rw [q2oa h h0 hp]
  rfl
end Go.Proofs.Ytpgpbhjkgciggaa

namespace Go.Pel
open Go Go.Tx
def Lead (l:List T3) (n dd:Int) (p:T3):Prop:=p∈l∧∀ q∈l,qld (ofP q) (ofP p) n dd=false
theorem q2oe {l:List T3} (h:FldOk l) {p q:T3} (hp:p∈l) (hq:q∈l) (hi:p.1=q.1):p=q:=by
  obtain ⟨i,hi'⟩:=List.mem_iff_getElem?.1 hp
  obtain ⟨j,hj⟩:=List.mem_iff_getElem?.1 hq
  rcases (by omega:i<j∨i=j∨j<i) with k | k | k
  · have:=q2o5 h k hi' hj;omega
  · subst k;rw [hi'] at hj;exact Option.some.inj hj
  · have:=q2o5 h k hj hi';omega
theorem Lead.uniq {l:List T3} (h:FldOk l) {n dd:Int} {p q:T3} (hp:Lead l n dd p) (hq:Lead l n dd q):p=q:=by
  by_cases hi:p.1=q.1
  · exact q2oe h hp.1 hq.1 hi
  · have h1 := hp.2 q hq.1
    have h2:=hq.2 p hp.1
    rw [q2o1 (p:=ofP p) (q:=ofP q) hi,h2] at h1
    cases h1
theorem Lead.ahead {l:List T3} (h:FldOk l) {n dd:Int} {p q:T3} (hp:Lead l n dd p) (hq:q∈l) (hne:q.1≠p.1):qld (ofP p) (ofP q) n dd=true:=by
  rw [q2o1 (p:=ofP q) (q:=ofP p) hne,hp.2 q hq];rfl
def ldT (l:List T3) (n dd:Int):T3:=toP ((ordI n dd (ptsL l)).headD Pt.zero)
theorem q2of {l:List T3} (hl:l ≠ []) (n dd:Int):Lead l n dd (ldT l n dd):=by
  have hp:=qtf n dd (ptsL l)
  have hpw:=qth n dd (ptsL l)
  unfold Lead ldT
  cases ho:ordI n dd (ptsL l) with
  | nil =>
    rw [ho] at hp
    have:=hp.length_eq
    rw [qjq] at this
    exact absurd (List.eq_nil_of_length_eq_zero this.symm) hl
  | cons P r =>
    rw [ho] at hp hpw
    obtain ⟨p,hpl,rfl⟩:=q2o8 (hp.mem_iff.1 (List.mem_cons_self ..))
    show toP (ofP p)∈l∧∀ q∈l,qld (ofP q) (ofP (toP (ofP p))) n dd=false
    rw [show toP (ofP p)=p from rfl]
    refine ⟨hpl,fun q hq=>?_⟩
    have hq2:ofP q∈ofP p :: r:=hp.mem_iff.2 (List.mem_map_of_mem hq)
    rcases List.mem_cons.1 hq2 with e | hr
    · rw [e];exact q2o0 _ _ _
    · exact (List.pairwise_cons.1 hpw).1 _ hr
theorem q2og {l:List T3} (hl:l ≠ []) (n dd:Int):∃ r,(ordI n dd (ptsL l)).map Pt.id=(ldT l n dd).1 :: r:=by
  have hp:=qtf n dd (ptsL l)
  unfold ldT
  cases ho:ordI n dd (ptsL l) with
  | nil =>
    rw [ho] at hp
    have:=hp.length_eq
    rw [qjq] at this
    exact absurd (List.eq_nil_of_length_eq_zero this.symm) hl
  | cons P r=>exact ⟨r.map Pt.id,rfl⟩
theorem q2oh {p q:T3} (hb:p.2.2.1≠q.2.2.1):∃ m,mtP (p,q)=some m:=by
  unfold mtP
  simp only [hb,if_false]
  exact ⟨_,rfl⟩
theorem q2oi {p q:T3} (hp:okP p) (hq:okP q) {n dd n' dd':Int} (hd:1≤dd) (hd':1≤dd') (hle:leQ n dd n' dd') (hb:¬ p.2.2.1<q.2.2.1) (h:qld (ofP p) (ofP q) n dd=true):qld (ofP p) (ofP q) n' dd'=true:=by
  by_cases he:p.2.2.1=q.2.2.1
  · rw [← q2nr he hd hd'];exact h
  · obtain ⟨m, hm⟩ := q2oh he
    have k1:=q2nq (x:=(p,q)) hp hq hm (n:=n) (dd:=dd)
    have k2:=q2nq (x:=(p,q)) hp hq hm (n:=n') (dd:=dd')
    simp only [show q.2.2.1<p.2.2.1 by omega,if_true] at k1 k2
    rw [h] at k1
    rw [k2]
    cases hg:gtM n' dd' m with
    | false=>rfl
    | true =>
      rw [q2n2 hd hd' hle (q2np (x:=(p,q)) hp hq hm).2.1 hg] at k1
      cases k1
theorem q2oj {p q:T3} (hp:okP p) (hq:okP q) (hb:p.2.2.1<q.2.2.1) {m:M4} (hm:mtP (p,q)=some m) (n dd:Int):qld (ofP p) (ofP q) n dd=gtM n dd m:=by
  have k1:=q2nq (x:=(p,q)) hp hq hm (n:=n) (dd:=dd)
  simp only [show ¬ q.2.2.1<p.2.2.1 by omega,if_false] at k1
  exact k1
def q2ok (l:List T3) (p:T3):Prop:=∀ q∈l,¬ p.2.2.1<q.2.2.1
def Nxt (l:List T3) (p:T3) (n dd:Int):Prop:=(∃ q∈l,∃ m,p.2.2.1<q.2.2.1∧mtP (p,q)=some m∧m.1=n∧m.2.1=dd)∧∀ q∈l,∀ m,p.2.2.1<q.2.2.1→mtP (p,q)=some m→¬ m.1*dd<n*m.2.1
theorem Nxt.ok {l:List T3} (h:FldOk l) {p:T3} (hp:p∈l) {n dd:Int} (k:Nxt l p n dd):qe0 n dd=0∧n.natAbs≤4194304∧dd≤4194304:=by
  obtain ⟨q,hq,m,hb,hm,rfl,rfl⟩:=k.1
  obtain ⟨_,h1,h2,h3,_⟩:=q2np (x:=(p,q)) (h.ok p hp) (h.ok q hq) hm
  exact ⟨h1,h2,h3⟩
theorem Nxt.uniq {l:List T3} (h:FldOk l) {p:T3} (hp:p∈l) {n dd n' dd':Int} (k:Nxt l p n dd) (k':Nxt l p n' dd'):n=n'∧dd=dd':=by
  obtain ⟨q,hq,m,hb,hm,rfl,rfl⟩:=k.1
  obtain ⟨q',hq',m',hb',hm',rfl,rfl⟩:=k'.1
  have h1:=k.2 q' hq' m' hb' hm'
  have h2:=k'.2 q hq m hb hm
  exact q_eq (q2np (x:=(p,q)) (h.ok p hp) (h.ok q hq) hm).2.1 (q2np (x:=(p,q')) (h.ok p hp) (h.ok q' hq') hm').2.1 (by omega)
theorem Nxt.not {l:List T3} {p:T3} {n dd:Int} (k:Nxt l p n dd) (k':q2ok l p):False:=by
  obtain ⟨q,hq,m,hb,_⟩:=k.1
  exact k' q hq hb
theorem q2ol {l:List T3} (h:FldOk l) {p:T3} {n dd n' dd':Int} (hd:1≤dd) (hd':1≤dd') (hle:leQ n dd n' dd') (hp:Lead l n dd p) (hmin:∀ q∈l,∀ m,p.2.2.1<q.2.2.1→mtP (p,q)=some m→¬ m.1*dd'<n'*m.2.1) {q:T3} (hq:q∈l):q.2.1*dd'+q.2.2.1*n'≤p.2.1*dd'+p.2.2.1*n':=by
  have hpo:=h.ok p hp.1
  have hqo:=h.ok q hq
  by_cases hi:q.1=p.1
  · rw [q2oe h hq hp.1 hi];exact Int.le_refl _
  · have ha := hp.ahead h hq hi
    by_cases hb:p.2.2.1<q.2.2.1
    · obtain ⟨m, hm⟩ := q2oh (p := p) (q := q) (by omega)
      have k:=hmin q hq m hb hm
      obtain ⟨_,hmo,_,_,_,_,e⟩:=q2np (x:=(p,q)) hpo hqo hm
      have hl:=q2oj hpo hqo hb hm n' dd'
      cases hg:gtM n' dd' m with
      | true =>
        rw [hg] at hl
        rcases (qtd ..).1 hl with k1 | ⟨k1,k2⟩
        · have : q.2.1 * dd' + q.2.2.1 * n' < p.2.1 * dd' + p.2.2.1 * n' := k1
          omega
        · have : q.2.1 * dd' + q.2.2.1 * n' = p.2.1 * dd' + p.2.2.1 * n' := k1
          omega
      | false =>
        -- the meeting is at the time itself
        have hg':¬ n'*m.2.1<m.1*dd':=fun k=>by rw [(q2mb n' dd' m).2 k] at hg;cases hg
        have hD:=(qe7 hmo).1
        have key:farD (ofP p) (ofP q) n' dd'*m.2.1=(p.2.2.1 - q.2.2.1)*(n'*m.2.1 - m.1*dd'):=by
          show ((p.2.1 - q.2.1)*dd'+(p.2.2.1 - q.2.2.1)*n')*m.2.1=_
          simp only at e
          rw [Int.add_mul,Int.mul_sub,Int.mul_right_comm (p.2.1 - q.2.1),show (p.2.1 - q.2.1)*m.2.1=-((p.2.2.1 - q.2.2.1)*m.1) by omega,Int.neg_mul,Int.mul_assoc,Int.mul_assoc]
          omega
        rw [show n'*m.2.1 - m.1*dd'=0 by omega,Int.mul_zero] at key
        have hz:farD (ofP p) (ofP q) n' dd'=0:=by
          rcases Int.mul_eq_zero.1 key with k | k
          · exact k
          · omega
        have:farD (ofP p) (ofP q) n' dd'=(p.2.1*dd'+p.2.2.1*n') - (q.2.1*dd'+q.2.2.1*n'):=by
          show (p.2.1 - q.2.1)*dd'+(p.2.2.1 - q.2.2.1)*n'=_
          rw [Int.sub_mul,Int.sub_mul];omega
        omega
    · have hl := q2oi hpo hqo hd hd' hle hb ha
      rcases (qtd ..).1 hl with k1 | ⟨k1,k2⟩
      · have : q.2.1 * dd' + q.2.2.1 * n' < p.2.1 * dd' + p.2.2.1 * n' := k1
        omega
      · have : q.2.1 * dd' + q.2.2.1 * n' = p.2.1 * dd' + p.2.2.1 * n' := k1
        omega
theorem q2om {p q:T3} (hp:okP p) (hq:okP q) {m:M4} (hm:mtP (p,q)=some m):q.2.1*m.2.1+q.2.2.1*m.1=p.2.1*m.2.1+p.2.2.1*m.1:=by
  obtain ⟨_,_,_,_,_,_,e⟩:=q2np (x:=(p,q)) hp hq hm
  simp only at e
  rw [Int.sub_mul,Int.sub_mul] at e
  omega
theorem q2on {l:List T3} (h:FldOk l) {p q:T3} {n dd:Int} (hp:Lead l n dd p) (hq:q∈l) (hb:p.2.2.1<q.2.2.1) {m:M4} (hm:mtP (p,q)=some m):gtM n dd m=true:=by
  have hi:q.1≠p.1:=fun hi=>by rw [q2oe h hq hp.1 hi] at hb;omega
  rw [← q2oj (h.ok p hp.1) (h.ok q hq) hb hm]
  exact hp.ahead h hq hi
theorem q2oo {n dd:Int} {m:M4} (h:gtM n dd m=true):leQ n dd m.1 m.2.1:=by have:=(q2mb n dd m).1 h;unfold leQ;omega
theorem q2op {l:List T3} (h:FldOk l) {p b:T3} {n dd:Int} (hd:1≤dd) (hp:Lead l n dd p) (hb:b∈l) (hf:p.2.2.1<b.2.2.1) {m:M4} (hm:mtP (p,b)=some m)
    (hbest:∀ q∈l,∀ m',p.2.2.1<q.2.2.1→mtP (p,q)=some m'→¬ (m'.1*m.2.1<m.1*m'.2.1∨(m'.1*m.2.1=m.1*m'.2.1∧qld (ofP q) (ofP b) m.1 m.2.1=true))):Nxt l p m.1 m.2.1∧Lead l m.1 m.2.1 b:=by
  have hpo:=h.ok p hp.1
  have hbo:=h.ok b hb
  obtain ⟨_,hmo,_⟩:=q2np (x:=(p,b)) hpo hbo hm
  have hD:=(qe7 hmo).1
  have hmin:∀ q∈l,∀ m',p.2.2.1<q.2.2.1→mtP (p,q)=some m'→¬ m'.1*m.2.1<m.1*m'.2.1:=fun q hq m' h1 h2 k=>hbest q hq m' h1 h2 (.inl k)
  refine ⟨⟨⟨b,hb,m,hf,hm,rfl,rfl⟩,hmin⟩,hb,fun q hq=>?_⟩
  have hle:=q2oo (q2on h hp hb hf hm)
  have hfar:=q2ol h hd hD hle hp hmin hq
  have hpl:=q2om hpo hbo hm
  cases hl:qld (ofP q) (ofP b) m.1 m.2.1 with
  | false=>rfl
  | true =>
    have k0:=(qtd ..).1 hl
    have k:(b.2.1*m.2.1+b.2.2.1*m.1<q.2.1*m.2.1+q.2.2.1*m.1)∨(b.2.1*m.2.1+b.2.2.1*m.1=q.2.1*m.2.1+q.2.2.1*m.1∧(b.2.2.1<q.2.2.1∨(b.2.2.1=q.2.2.1∧q.1<b.1))):=k0
    have hfq:p.2.2.1<q.2.2.1:=by omega
    obtain ⟨m',hm'⟩:=q2oh (p:=p) (q:=q) (by omega)
    have hqo:=h.ok q hq
    obtain ⟨_,hmo',_,_,_,_,e⟩:=q2np (x:=(p,q)) hpo hqo hm'
    -- q is met at the same time
    have h1:=hmin q hq m' hfq hm'
    have h2:=hbest q hq m' hfq hm'
    have hst:=q2oj hpo hqo hfq hm' m.1 m.2.1
    have hg:gtM m.1 m.2.1 m'=false:=by
      cases hg:gtM m.1 m.2.1 m' with
      | false=>rfl
      | true =>
        rw [hg] at hst
        have k1:=(qtd ..).1 hst
        have k2:(q.2.1*m.2.1+q.2.2.1*m.1<p.2.1*m.2.1+p.2.2.1*m.1)∨(q.2.1*m.2.1+q.2.2.1*m.1=p.2.1*m.2.1+p.2.2.1*m.1∧(q.2.2.1<p.2.2.1∨(q.2.2.1=p.2.2.1∧p.1<q.1))):=k1
        omega
    have hg':¬ m.1*m'.2.1<m'.1*m.2.1:=fun k=>by rw [(q2mb m.1 m.2.1 m').2 k] at hg;cases hg
    exact absurd (.inr ⟨by omega,hl⟩) h2
inductive Crest (l:List T3):T3→Int→Int→List T3→Prop
  | last (p:T3) (n dd:Int):q2ok l p→Crest l p n dd [(n,dd,p.1,())]
  | next (p:T3) (n dd n' dd':Int) (p':T3) (r:List T3):Nxt l p n' dd'→Lead l n' dd' p'→Crest l p' n' dd' r→Crest l p n dd ((n,dd,p.1,()) :: r)
theorem Crest.uniq {l:List T3} (h:FldOk l) {p:T3} {n dd:Int} {a b:List T3} (ha:Crest l p n dd a) (hp:p∈l) (hb:Crest l p n dd b):a=b:=by
  induction ha generalizing b with
  | last p n dd hn =>
    cases hb with
    | last _ _ _ _=>rfl
    | next _ _ _ n' dd' p' r h1 _ _=>exact (h1.not hn).elim
  | next p n dd n' dd' p' r h1 h2 _ ih =>
    cases hb with
    | last _ _ _ hn=>exact (h1.not hn).elim
    | next _ _ _ n'' dd'' p'' r' k1 k2 k3 =>
      obtain ⟨rfl,rfl⟩:=h1.uniq h hp k1
      obtain rfl:=h2.uniq h k2
      rw [ih h2.1 k3]
theorem Crest.head {l:List T3} {p:T3} {n dd:Int} {a:List T3} (ha:Crest l p n dd a):∃ r,a=(n,dd,p.1,()) :: r:=by
  cases ha with
  | last _ _ _ _=>exact ⟨_,rfl⟩
  | next _ _ _ _ _ _ r _ _ _=>exact ⟨r,rfl⟩
theorem q2oq {l:List T3} (h:FldOk l) {p p':T3} {n dd n' dd':Int} (hd:1≤dd) (hp:Lead l n dd p) (h1:Nxt l p n' dd') (h2:Lead l n' dd' p'):p.2.2.1<p'.2.2.1:=by
  obtain ⟨q,hq,m,hb,hm,rfl,rfl⟩:=h1.1
  have hpo:=h.ok p hp.1
  have hqo:=h.ok q hq
  have hmo:=(q2np (x:=(p,q)) hpo hqo hm).2.1
  have hD:=(qe7 hmo).1
  have hle:=q2oo (q2on h hp hq hb hm)
  have hfar:=q2ol h hd hD hle hp h1.2 h2.1
  have hpl:=q2om hpo hqo hm
  have hl:=h2.2 q hq
  have k:¬ ((p'.2.1*m.2.1+p'.2.2.1*m.1<q.2.1*m.2.1+q.2.2.1*m.1)∨(p'.2.1*m.2.1+p'.2.2.1*m.1=q.2.1*m.2.1+q.2.2.1*m.1∧(p'.2.2.1<q.2.2.1∨(p'.2.2.1=q.2.2.1∧q.1<p'.1)))):=qtg hl
  omega
def q2or (l:List T3) (p:T3):Nat:=l.countP fun q=>decide (p.2.2.1<q.2.2.1)
theorem q2os {l:List T3} {p p':T3} (hp:p'∈l) (hb:p.2.2.1<p'.2.2.1):q2or l p'<q2or l p:=by
  unfold q2or
  induction l with
  | nil=>cases hp
  | cons x xs ih =>
    rw [List.countP_cons,List.countP_cons]
    have hmono:xs.countP (fun q=>decide (p'.2.2.1<q.2.2.1))≤xs.countP (fun q=>decide (p.2.2.1<q.2.2.1)):=List.countP_mono_left fun q _ hq=>by
      rw [decide_eq_true_eq] at hq ⊢;omega
    rcases List.mem_cons.1 hp with rfl | hp
    · rw [if_neg (by rw [decide_eq_true_eq];omega),if_pos (by rw [decide_eq_true_eq];omega)];omega
    · have := ih hp
      by_cases h1:p'.2.2.1<x.2.2.1
      · rw [if_pos (by rw [decide_eq_true_eq];omega),if_pos (by rw [decide_eq_true_eq];omega)];omega
      · rw [if_neg (by rw [decide_eq_true_eq]; omega)]
        split<;>omega
theorem q2ot (l:List T3) (p:T3):q2or l p≤l.length:=List.countP_le_length
theorem Crest.len {l:List T3} (h:FldOk l) {p:T3} {n dd:Int} {a:List T3} (ha:Crest l p n dd a) (hr:qe0 n dd=0) (hp:Lead l n dd p):a.length≤q2or l p+1:=by
  induction ha with
  | last p n dd hn=>simp
  | next p n dd n' dd' p' r h1 h2 _ ih =>
    have:=ih (h1.ok h hp.1).1 h2
    have:=q2os h2.1 (q2oq h (qe7 hr).1 hp h1 h2)
    rw [List.length_cons];omega
end Go.Pel

namespace Go.Pel
open Go Go.Tx
def gtL (n dd:Int) (x:T3):Bool:=decide (0<cmpQ x.1 x.2.1 n dd)
theorem q2ov (n dd:Int) (x:T3):gtL n dd x=true↔n*x.2.1<x.1*dd:=q2mb n dd (x.1,x.2.1,0,0,())
def idxL (n dd:Int) (a:List T3):Nat:=a.findIdx (gtL n dd)
def okL (x:T3):Bool:=decide (qe0 x.1 x.2.1=0)&&decide (0≤x.2.2.1)&&decide (x.2.2.1≤65535)
theorem q2ow {x:T3}:okL x=true↔qe0 x.1 x.2.1=0∧0≤x.2.2.1∧x.2.2.1≤65535:=by
  unfold okL
  simp only [Bool.and_eq_true,decide_eq_true_eq,and_assoc]
def nxB (x y:T3):Bool:=decide (cmpQ x.1 x.2.1 y.1 y.2.1<0)&&decide (x.2.2.1≠y.2.2.1)
theorem q2ox {x y:T3}:nxB x y=true↔x.1*y.2.1<y.1*x.2.1∧x.2.2.1≠y.2.2.1:=by
  unfold nxB cmpQ cmpZ
  simp only [Bool.and_eq_true,decide_eq_true_eq]
  repeat' split
  all_goals omega
def chkR:Option T3→List T3→Bool
  | _,[]=>true
  | o,x :: r=>okL x&&(match o with | none=>true | some y=>nxB y x)&&chkR (some x) r
def chkL (a:List T3):Int:=if a.length<1∨300<a.length then 8 else if chkR none a=true then 0 else 8
theorem q2oy {a:List T3} (h:chkL a=0):1≤a.length∧a.length≤300∧chkR none a=true:=by
  unfold chkL at h
  split at h
  · cases h
  · split at h
    · next k=>exact ⟨by omega,by omega,k⟩
    · cases h
theorem q2oz:∀ {o:Option T3} {a:List T3},chkR o a=true→(∀ x∈a,okL x=true)∧(a.Pairwise fun x y=>x.1*y.2.1<y.1*x.2.1)∧(∀ y,o=some y→okL y=true→∀ x∈a,y.1*x.2.1<x.1*y.2.1)
  | o,[],_=>⟨fun x h=>(by cases h),List.Pairwise.nil,fun y _ _ x h=>(by cases h)⟩
  | o, x :: r, h => by
    unfold chkR at h
    simp only [Bool.and_eq_true] at h
    obtain ⟨⟨h1,h2⟩,h3⟩:=h
    obtain ⟨k1,k2,k3⟩:=q2oz h3
    refine ⟨fun y hy=>?_,List.pairwise_cons.2 ⟨fun y hy=>k3 x rfl h1 y hy,k2⟩,fun y hy hyo z hz=>?_⟩
    · rcases List.mem_cons.1 hy with rfl | hy
      · exact h1
      · exact k1 y hy
    · subst hy
      have hyx:=(q2ox.1 h2).1
      rcases List.mem_cons.1 hz with rfl | hz
      · exact hyx
      · have o1 := (qe7 (q2ow.1 hyo).1).1
        have o2:=(qe7 (q2ow.1 h1).1).1
        have o3:=(qe7 (q2ow.1 (k1 z hz)).1).1
        have:=k3 x rfl h1 z hz
        exact q_lt o1 o2 o3 hyx (by omega)
theorem q2p1 {n dd:Int} {L:List T3} {k:Nat} (hk:k≤L.length) (h1:∀ j x,j<k→L[j]?=some x→gtL n dd x=false) (h2:∀ x,L[k]?=some x→gtL n dd x=true):idxL n dd L=k:=by
  unfold idxL
  rcases Nat.lt_or_eq_of_le hk with hlt | rfl
  · rw [List.findIdx_eq hlt]
    refine ⟨h2 _ (List.getElem?_eq_getElem hlt),fun j hj=>?_⟩
    exact h1 j _ hj (List.getElem?_eq_getElem (by omega))
  · rw [List.findIdx_eq_length]
    intro x hx
    obtain ⟨j,hj,rfl⟩:=List.mem_iff_getElem.1 hx
    exact h1 j _ hj (List.getElem?_eq_getElem hj)
theorem q2p2 (n dd:Int) (a:List T3):idxL n dd a≤a.length:=List.findIdx_le_length
theorem q2p3 {n dd:Int} {a:List T3} {j:Nat} {x:T3} (h:j<idxL n dd a) (hx:a[j]?=some x):gtL n dd x=false:=by
  obtain ⟨hj,rfl⟩:=List.getElem?_eq_some_iff.1 hx
  have:=List.not_of_lt_findIdx (p:=gtL n dd) (xs:=a) h
  simpa using this
theorem q2p4 {n dd:Int} {a:List T3} {x:T3} (hx:a[idxL n dd a]?=some x):gtL n dd x=true:=by
  obtain ⟨h1,rfl⟩:=List.getElem?_eq_some_iff.1 hx
  exact List.findIdx_getElem (p:=gtL n dd) (w:=h1)
theorem q2p5 {l:List T3} (h:FldOk l) {p:T3} (hp:p∈l):0≤p.1∧p.1≤65535:=by
  have:=q2no (h.ok p hp);omega
theorem q2p6 {l:List T3} (h:FldOk l) {p:T3} {n dd:Int} {a:List T3} (ha:Crest l p n dd a) (hr:qe0 n dd=0) (hp:Lead l n dd p) (o:Option T3) (ho:∀ y,o=some y→nxB y (n,dd,p.1,())=true):chkR o a=true:=by
  induction ha generalizing o with
  | last p n dd hn =>
    unfold chkR chkR
    simp only [Bool.and_eq_true,Bool.and_true]
    refine ⟨q2ow.2 ⟨hr,q2p5 h hp.1⟩,?_⟩
    cases o with
    | none=>rfl
    | some y=>exact ho y rfl
  | next p n dd n' dd' p' r h1 h2 _ ih =>
    unfold chkR
    simp only [Bool.and_eq_true]
    refine ⟨⟨q2ow.2 ⟨hr,q2p5 h hp.1⟩,?_⟩,ih (h1.ok h hp.1).1 h2 _ fun y hy=>?_⟩
    · cases o with
      | none=>rfl
      | some y=>exact ho y rfl
    · injection hy with hy
      subst hy
      have hf:=q2oq h (qe7 hr).1 hp h1 h2
      rw [q2ox]
      refine ⟨?_,fun e=>?_⟩
      · obtain ⟨q, hq, m, hb, hm, rfl, rfl⟩ := h1.1
        exact (q2mb n dd m).1 (q2on h hp hq hb hm)
      · rw [q2oe h hp.1 h2.1 e] at hf;omega
theorem q2p7 {l:List T3} (h:FldOk l) {p:T3} {n dd:Int} {a:List T3} (ha:Crest l p n dd a) (hr:qe0 n dd=0) (hp:Lead l n dd p):chkL a=0:=by
  have h1:=ha.len h hr hp
  have h2:=q2ot l p
  have h3:=h.len
  obtain ⟨r,rfl⟩:=ha.head
  unfold chkL
  rw [if_neg (by rw [List.length_cons] at h1 ⊢;omega),if_pos (q2p6 h ha hr hp none fun y hy=>by cases hy)]
theorem q2p8 {l:List T3} (h:FldOk l) {p:T3} {n dd n' dd':Int} (hd:1≤dd) (hd':1≤dd') (hle:leQ n dd n' dd') (hp:Lead l n dd p) (hm:∀ q∈l,∀ m,p.2.2.1<q.2.2.1→mtP (p,q)=some m→gtM n' dd' m=true):Lead l n' dd' p:=by
  refine ⟨hp.1,fun q hq=>?_⟩
  by_cases hi:q.1=p.1
  · rw [q2oe h hq hp.1 hi];exact q2o0 _ _ _
  · have hpo := h.ok p hp.1
    have hqo:=h.ok q hq
    have ha:=hp.ahead h hq hi
    have:qld (ofP p) (ofP q) n' dd'=true:=by
      by_cases hb:p.2.2.1<q.2.2.1
      · obtain ⟨m, hm'⟩ := q2oh (p := p) (q := q) (by omega)
        rw [q2oj hpo hqo hb hm']
        exact hm q hq m hb hm'
      · exact q2oi hpo hqo hd hd' hle hb ha
    rw [q2o1 (p:=ofP p) (q:=ofP q) (fun e=>hi e.symm),this];rfl
theorem q2p9 {l:List T3} (h:FldOk l) {p:T3} {n dd:Int} {a:List T3} (ha:Crest l p n dd a) (hr:qe0 n dd=0) (hp:Lead l n dd p) {t u:Int} (hu:1≤u) (hle:leQ n dd t u):∃ q x r,1≤idxL t u a∧a.drop (idxL t u a - 1)=x :: r∧x.2.2.1=q.1∧Lead l t u q∧Crest l q t u ((t,u,q.1,()) :: r):=by
  have hng:∀ {n dd:Int} {i:Int},leQ n dd t u→gtL t u (n,dd,i,())=false:=fun {n dd i} hle=>by
    cases hg:gtL t u (n,dd,i,()) with
    | false=>rfl
    | true =>
      have:=(q2ov t u (n,dd,i,())).1 hg
      simp only at this
      unfold leQ at hle
      omega
  induction ha with
  | last p n dd hn =>
    have hd:=(qe7 hr).1
    refine ⟨p,(n,dd,p.1,()),[],?_,?_,rfl,q2p8 h hd hu hle hp (fun q hq m hb=>absurd hb (hn q hq)),.last p t u hn⟩
    · unfold idxL;rw [List.findIdx_cons,hng hle];simp
    · unfold idxL;rw [List.findIdx_cons,hng hle];simp
  | next p n dd n' dd' p' r h1 h2 h3 ih =>
    have hd:=(qe7 hr).1
    have hd':=(qe7 (h1.ok h hp.1).1).1
    by_cases hlt:leQ n' dd' t u
    · obtain ⟨q, x, r', k1, k2, k3, k4, k5⟩ := ih (h1.ok h hp.1).1 h2 hlt
      have hi:idxL t u ((n,dd,p.1,()) :: r)=idxL t u r+1:=by unfold idxL;rw [List.findIdx_cons,hng hle];rfl
      refine ⟨q,x,r',by omega,?_,k3,k4,k5⟩
      rw [hi,show idxL t u r+1 - 1=(idxL t u r - 1)+1 by omega,List.drop_succ_cons]
      exact k2
    · have hst:=q2p8 h hd hu hle hp (fun q hq m hb hm=>by
        have k:=h1.2 q hq m hb hm
        have o:=(qe7 (q2np (x:=(p,q)) (h.ok p hp.1) (h.ok q hq) hm).2.1).1
        rw [q2mb]
        unfold leQ at hlt
        exact q_lt (b:=n') hu hd' o (by omega) (by omega))
      obtain ⟨r',hr'⟩:=h3.head
      have hg:gtL t u (n',dd',p'.1,())=true:=by
        rw [q2ov]
        unfold leQ at hlt
        simp only
        omega
      have hi:idxL t u ((n,dd,p.1,()) :: r)=1:=by
        unfold idxL;rw [List.findIdx_cons,hng hle,hr',List.findIdx_cons,hg];rfl
      refine ⟨p,(n,dd,p.1,()),r,by omega,by rw [hi];rfl,rfl,hst,.next p t u n' dd' p' r h1 h2 h3⟩
end Go.Pel

namespace Go.Pel
open Go Go.Tx
def q2pb (l:List T3) (p:T3) (i:Nat) (b:T3) (a1 a2:Int):Prop :=
  (a2=0∧∀ k q,k<i→l[k]?=some q→¬ p.2.2.1<q.2.2.1) ∨
  (∃ m:M4,m.1=a1∧m.2.1=a2∧okM m∧m.1.natAbs≤4194304∧m.2.1≤4194304∧(∃ j,j<i∧l[j]?=some b)∧p.2.2.1<b.2.2.1∧mtP (p,b)=some m∧∀ k q m',k<i→l[k]?=some q→p.2.2.1<q.2.2.1→mtP (p,q)=some m'→¬ (m'.1*m.2.1<m.1*m'.2.1∨(m'.1*m.2.1=m.1*m'.2.1∧qld (ofP q) (ofP b) m.1 m.2.1=true)))
theorem q2pb.skip {l:List T3} {p:T3} {i:Nat} {b:T3} {a1 a2:Int} (h:q2pb l p i b a1 a2) {q:T3} (hq:l[i]?=some q) (hs:¬ p.2.2.1<q.2.2.1):q2pb l p (i+1) b a1 a2:=by
  rcases h with ⟨h1,h2⟩ | ⟨m,h1,h2,h3,h4,h5,⟨j,h6,h7⟩,h8,h9,h10⟩
  · refine .inl ⟨h1, fun k x hk hx => ?_⟩
    rcases (by omega:k<i∨k=i) with k' | rfl
    · exact h2 k x k' hx
    · rw [hq] at hx;injection hx with hx;subst hx;exact hs
  · refine .inr ⟨m, h1, h2, h3, h4, h5, ⟨j, by omega, h7⟩, h8, h9, fun k x m' hk hx hf => ?_⟩
    rcases (by omega:k<i∨k=i) with k' | rfl
    · exact h10 k x m' k' hx hf
    · rw [hq] at hx;injection hx with hx;subst hx;exact absurd hf hs
theorem q2pb.first {l:List T3} (h:FldOk l) {p:T3} (hp:p∈l) {i:Nat} {b:T3} {a1:Int} (hB:q2pb l p i b a1 0) {q:T3} (hq:l[i]?=some q) (hf:p.2.2.1<q.2.2.1) {m:M4} (hm:mtP (p,q)=some m):q2pb l p (i+1) q m.1 m.2.1:=by
  obtain ⟨_,g1,g2,g3,_⟩:=q2np (x:=(p,q)) (h.ok p hp) (h.ok q (List.mem_of_getElem? hq)) hm
  rcases hB with ⟨_,h2⟩ | ⟨m',_,h2,h3,_⟩
  · refine .inr ⟨m, rfl, rfl, g1, g2, g3, ⟨i, by omega, hq⟩, hf, hm, fun k x m' hk hx hfx hm' => ?_⟩
    rcases (by omega:k<i∨k=i) with k' | rfl
    · exact absurd hfx (h2 k x k' hx)
    · rw [hq] at hx; injection hx with hx; subst hx
      rw [hm] at hm';injection hm' with hm';subst hm'
      rw [q2o0]
      rintro (k | ⟨_,k⟩)
      · omega
      · cases k
  · have:=(qe7 h3).1;omega
theorem q2pb.take {l:List T3} (h:FldOk l) {p:T3} (hp:p∈l) {i:Nat} {b:T3} {a1 a2:Int} (ha:0<a2) (hB:q2pb l p i b a1 a2) {q:T3} (hq:l[i]?=some q) (hf:p.2.2.1<q.2.2.1) {m:M4} (hm:mtP (p,q)=some m) (hR:m.1*a2<a1*m.2.1∨(m.1*a2=a1*m.2.1∧qld (ofP q) (ofP b) m.1 m.2.1=true)):q2pb l p (i+1) q m.1 m.2.1:=by
  have hqo:=h.ok q (List.mem_of_getElem? hq)
  have hpo:=h.ok p hp
  obtain ⟨_,g1,g2,g3,_⟩:=q2np (x:=(p,q)) hpo hqo hm
  rcases hB with ⟨h1,_⟩ | ⟨mb,rfl,rfl,h3,_,_,⟨j,h6,h7⟩,h8,h9,h10⟩
  · omega
  · have oD := (qe7 g1).1
    have oB:=(qe7 h3).1
    refine .inr ⟨m,rfl,rfl,g1,g2,g3,⟨i,by omega,hq⟩,hf,hm,fun k x m' hk hx hfx hm'=>?_⟩
    rcases (by omega:k<i∨k=i) with k' | rfl
    · have hxo := h.ok x (List.mem_of_getElem? hx)
      have gx:=(q2np (x:=(p,x)) hpo hxo hm').2.1
      have oX:=(qe7 gx).1
      have hno:=h10 k x m' k' hx hfx hm'
      rintro (k1 | ⟨k1,k2⟩)
      · -- x is met before q, which is not behind b
        have:m'.1*mb.2.1<mb.1*m'.2.1:=q_lt oX oD oB k1 (by omega)
        exact hno (.inl this)
      · rcases hR with hR | ⟨hR, hR2⟩
        · have : m'.1 * mb.2.1 < mb.1 * m'.2.1 := q2lk oX oD oB (by omega) hR
          exact hno (.inl this)
        · -- all three at the same time
          obtain ⟨e1,e2⟩:=q_eq g1 h3 hR
          obtain ⟨e3,e4⟩:=q_eq gx g1 k1
          refine hno (.inr ⟨by rw [e3,e4,e1,e2],?_⟩)
          rw [← e1,← e2,qtd]
          have k3:=(qtd ..).1 hR2
          have k4:=(qtd ..).1 k2
          omega
    · rw [hq] at hx; injection hx with hx; subst hx
      rw [hm] at hm';injection hm' with hm';subst hm'
      rw [q2o0]
      rintro (k | ⟨_,k⟩)
      · omega
      · cases k
theorem q2pb.keep {l:List T3} (h:FldOk l) {p:T3} (hp:p∈l) {i:Nat} {b:T3} {a1 a2:Int} (ha:0<a2) (hB:q2pb l p i b a1 a2) {q:T3} (hq:l[i]?=some q) (hf:p.2.2.1<q.2.2.1) {m:M4} (hm:mtP (p,q)=some m) (hR:¬ (m.1*a2<a1*m.2.1∨(m.1*a2=a1*m.2.1∧qld (ofP q) (ofP b) m.1 m.2.1=true))):q2pb l p (i+1) b a1 a2:=by
  have g1:=(q2np (x:=(p,q)) (h.ok p hp) (h.ok q (List.mem_of_getElem? hq)) hm).2.1
  rcases hB with ⟨h1,_⟩ | ⟨mb,rfl,rfl,h3,h4,h5,⟨j,h6,h7⟩,h8,h9,h10⟩
  · omega
  · refine .inr ⟨mb, rfl, rfl, h3, h4, h5, ⟨j, by omega, h7⟩, h8, h9, fun k x m' hk hx hfx hm' => ?_⟩
    rcases (by omega:k<i∨k=i) with k' | rfl
    · exact h10 k x m' k' hx hfx hm'
    · rw [hq] at hx; injection hx with hx; subst hx
      rw [hm] at hm';injection hm' with hm';subst hm'
      rintro (k1 | ⟨k1,k2⟩)
      · exact hR (.inl k1)
      · obtain ⟨e1, e2⟩ := q_eq g1 h3 k1
        exact hR (.inr ⟨k1,by rw [e1,e2];exact k2⟩)
theorem q2pb.zero (l:List T3) (p b:T3) (a1:Int):q2pb l p 0 b a1 0:=.inl ⟨rfl,fun k q hk=>by omega⟩
theorem q2pb.none {l:List T3} {p b:T3} {a1:Int} (h:q2pb l p l.length b a1 0):q2ok l p:=by
  rcases h with ⟨_,h2⟩ | ⟨m,_,h2,h3,_⟩
  · intro q hq
    obtain ⟨k,hk⟩:=List.mem_iff_getElem?.1 hq
    exact h2 k q (List.getElem?_eq_some_iff.1 hk).1 hk
  · have:=(qe7 h3).1;omega
theorem q2pb.some {l:List T3} (hl:FldOk l) {p b:T3} {n dd a1 a2:Int} (hd:1≤dd) (hp:Lead l n dd p) (ha:a2≠0) (h:q2pb l p l.length b a1 a2):Nxt l p a1 a2∧Lead l a1 a2 b:=by
  rcases h with ⟨h1,_⟩ | ⟨m,rfl,rfl,_,_,_,⟨j,_,h7⟩,h8,h9,h10⟩
  · exact absurd h1 ha
  · refine q2op hl hd hp (List.mem_of_getElem? h7) h8 h9 fun q hq m' hf hm' => ?_
    obtain ⟨k,hk⟩:=List.mem_iff_getElem?.1 hq
    exact h10 k q m' (List.getElem?_eq_some_iff.1 hk).1 hk hf hm'
end Go.Pel
namespace Go.Proofs.Ytpgpbhjkgciggaa
open Go Go.Tx Go.Pel
theorem q2pc (d:Nat) (n1 d1 n2 d2:Int) (h1:i64B n1=true) (h2:i64B d1=true) (h3:i64B n2=true) (h4:i64B d2=true):q16u d ((n1,d1,()),(n2,d2,()),())=some (cmpR n1 d1 n2 d2).1:=by
  have e:=q2ld d n1 d1 n2 d2 h1 h2 h3 h4
  simp only [q16u,q16e,q16k,q16o,q16s,Dt.eval,e]
theorem q2pd (d:Nat) {p q:T3} (hp:okP p) (hq:okP q) {n dd:Int} (hn:i64B n=true) (hd:i64B dd=true) (hr:qe0 n dd=0) (hl:qld (ofP q) (ofP p) n dd=false):q151 d ((p.1,p.2.1,p.2.2.1,()),(q.1,q.2.1,q.2.2.1,()),(n,dd,()),()) =
    some (if p.1=q.1 then (0,0,false,2) else if p.2.2.1<q.2.2.1 then ((mk (p.2.1 - q.2.1) (q.2.2.1 - p.2.2.1)).1,(mk (p.2.1 - q.2.1) (q.2.2.1 - p.2.2.1)).2.1,true,0) else (0,0,false,0)):=by
  have e1:qpl d ((p.1,p.2.1,p.2.2.1,()),(q.1,q.2.1,q.2.2.1,()),(n,dd,()),())=some (if p.1=q.1 then 2 else 0):=by
    rw [qpm _ _ (by unfold qpk;simp only [hn,hd,Bool.and_self])]
    refine congrArg some ?_
    show qlo (ofP p) (ofP q) n dd=_
    unfold qlo
    rw [if_pos ⟨hp,hq,hr⟩]
    rfl
  have e2:qtq d ((q.1,q.2.1,q.2.2.1,()),(p.1,p.2.1,p.2.2.1,()),(n,dd,()),())=some (cmpC (ofP q) (ofP p) n dd) :=
    qtr _ _ (qn5 (qmf (p:=ofP q) (q:=ofP p) hq hp hr (qjv hn) (qjv hd)))
  have e3:decide (cmpC (ofP q) (ofP p) n dd > 0)=false:=by rw [← hl];exact qln ..
  simp only [q151,q13z,q145,q149,q14d,q14h,q14l,q14n,q14r,q14t,q14x,q14z,Dt.eval,e1]
  by_cases hi:p.1=q.1
  · simp only [hi,if_true,show ((2:Int) != 0)=true from rfl,cond_true]
  · simp only [hi, if_false, show ((0 : Int) != 0) = false from rfl, cond_false, e2, e3, Dt.eval]
    by_cases hb:p.2.2.1<q.2.2.1
    · have e4 := q2ma d hp hq hi
      rw [if_neg (show ¬ p.2.2.1=q.2.2.1 by omega)] at e4
      simp only [show decide (q.2.2.1≤p.2.2.1)=false by rw [decide_eq_false_iff_not];omega,cond_false,e4,Dt.eval,hb,if_true,show ((0:Int) == 0)=true from rfl]
    · simp only [show decide (q.2.2.1≤p.2.2.1)=true by rw [decide_eq_true_eq];omega,cond_true,hb,if_false]
set_option maxHeartbeats 4000000 in
theorem q2pe (d:Nat) {l:List T3} (h:FldOk l) {p:T3} {n dd:Int} (hn:i64B n=true) (hd:i64B dd=true) (hr:qe0 n dd=0) (hp:Lead l n dd p) (self1:(List Diii×Int×Int×Int×Int×Int×List Diii)→Option q16y) (out:List T3):∀ (f i:Nat) (b:T3) (a1 a2:Int),l.length - i<f→i≤l.length→q2pb l p i b a1 a2 →
    ∃ b' a1' a2',q2pb l p l.length b' a1' a2'∧iter (q1a1 d self1) f (l,(l.length:Int),(i:Int),l,n,dd,p.1,p.2.1,p.2.2.1,out,b.1,b.2.1,b.2.2.1,a1,a2) =
      (if a2'=0 then some (out,0) else bif apB out.length 1 then self1 (l,a1',a2',b'.1,b'.2.1,b'.2.2.1,out ++ [(a1',a2',b'.1,())]) else none)
  | 0,i,b,a1,a2,hf,_,_=>by omega
  | f + 1, i, b, a1, a2, hf, hi, hB => by
    have hl:=h.len
    have hpo:=h.ok p hp.1
    have ih:=fun b a1 a2=>q2pe d h hn hd hr hp self1 out f (i+1) b a1 a2
    rw [iter]
    revert ih
    generalize iter (q1a1 d self1) f=self
    intro ih
    unfold q1a1
    by_cases hlt:i<l.length
    · obtain ⟨q, hq⟩ : ∃ q, l[i]? = some q := ⟨_, List.getElem?_eq_getElem hlt⟩
      have hqm:=List.mem_of_getElem? hq
      have hqo:=h.ok q hqm
      have e1:=q2pd d hpo hqo hn hd hr (hp.2 q hqm)
      have wi:=q2mn (show i<1000000 by omega)
      simp only [q18e,Dt.eval,q2mq hlt,cond_true]
      simp only [q18i,Dt.eval,q2mp hlt,cond_true,q2mo hq]
      by_cases hid:p.1=q.1
      · have hs : ¬ p.2.2.1 < q.2.2.1 := by rw [q2oe h hp.1 hqm hid]; omega
        rw [if_pos hid] at e1
        simp only [q18m,q172,e1,Dt.eval]
        simp only [q18q,show ((2:Int) != 0)=true from rfl,cond_true,Dt.eval]
        simp only [q18u,q18s,Dt.eval,wi]
        exact ih b a1 a2 (by omega) (by omega) (hB.skip hq hs)
      · rw [if_neg hid] at e1
        by_cases hb:p.2.2.1<q.2.2.1
        · obtain ⟨m, hm⟩ := q2oh (p := p) (q := q) (by omega)
          have hm0:=hm
          unfold mtP at hm0
          simp only [show ¬ p.2.2.1=q.2.2.1 by omega,if_false,Option.some.injEq] at hm0
          have m1:(mk (p.2.1 - q.2.1) (q.2.2.1 - p.2.2.1)).1=m.1:=by rw [← hm0]
          have m2:(mk (p.2.1 - q.2.1) (q.2.2.1 - p.2.2.1)).2.1=m.2.1:=by rw [← hm0]
          rw [if_pos hb,m1,m2] at e1
          obtain ⟨_,gm,gn,gd,_⟩:=q2np (x:=(p,q)) hpo hqo hm
          have oM:=(qe7 gm).1
          simp only [q18m,q172,e1,Dt.eval]
          simp only [q18q,show ((0:Int) != 0)=false from rfl,cond_false,Dt.eval,Bool.not_true]
          simp only [q18x,Dt.eval]
          by_cases ha:a2=0
          · subst ha
            simp only [q191,Dt.eval,show decide ((0:Int) > 0)=false from rfl,cond_false]
            simp only [q19q,q197,Dt.eval,show ((-1:Int) == 0)=false from rfl,cond_false]
            simp only [q19p,q19l,Dt.eval,show decide ((-1:Int)<0)=true from rfl,cond_true]
            simp only [q19n,Dt.eval]
            simp only [q18u,q18s,Dt.eval,wi]
            exact ih q m.1 m.2.1 (by omega) (by omega) (hB.first h hp.1 hq hb hm)
          · have hpos:0<a2∧qe0 a1 a2=0∧i64B a1=true∧i64B a2=true∧(∃ j,j<i∧l[j]?=some b):=by
              rcases hB with ⟨k,_⟩ | ⟨mb,rfl,rfl,h3,h4,h5,h6,_⟩
              · exact absurd k ha
              · have := (qe7 h3).1
                exact ⟨by omega,h3,q2m8 (by omega),q2m8 (by omega),h6⟩
            obtain ⟨ha0,hra,hi1,hi2,j,hj,hjb⟩:=hpos
            have hbm:=List.mem_of_getElem? hjb
            have e2:q16u d ((m.1,m.2.1,()),(a1,a2,()),())=some (cmpZ (m.1*a2) (a1*m.2.1)):=by
              rw [q2pc d _ _ _ _ (q2m8 (show m.1.natAbs≤_ by omega)) (q2m8 (show m.2.1.natAbs≤_ by omega)) hi1 hi2];unfold cmpR;rw [if_pos ⟨gm,hra⟩];rfl
            have hqb:q.1≠b.1:=by have:=q2o5 h hj hjb hq;omega
            have e3:=q2n9 d hqo (h.ok b hbm) hqb (q2m8 (show m.1.natAbs≤_ by omega)) (q2m8 (show m.2.1.natAbs≤_ by omega)) gm
            simp only [q191,Dt.eval,show decide (a2 > 0)=true from decide_eq_true ha0,cond_true]
            simp only [q193,q172,e2,Dt.eval]
            rcases ltZ (m.1*a2) (a1*m.2.1) with ⟨k1,k2⟩ | ⟨k1,k2⟩ | ⟨k1,k2⟩
            · simp only [q19q, q197, Dt.eval, k1, show ((-1 : Int) == 0) = false from rfl, cond_false]
              simp only [q19p,q19l,Dt.eval,show decide ((-1:Int)<0)=true from rfl,cond_true]
              simp only [q19n,Dt.eval]
              simp only [q18u,q18s,Dt.eval,wi]
              exact ih q m.1 m.2.1 (by omega) (by omega) (hB.take h hp.1 ha0 hq hb hm (.inl k2))
            · simp only [q19q, q197, Dt.eval, k1, show ((0 : Int) == 0) = true from rfl, cond_true]
              simp only [q19b,q172,e3,Dt.eval]
              cases hah:qld (ofP q) (ofP b) m.1 m.2.1 with
              | true =>
                simp only [q19f,Dt.eval,cond_true]
                simp only [q19h,Dt.eval]
                simp only [q19p,q19l,Dt.eval,show decide ((-1:Int)<0)=true from rfl,cond_true]
                simp only [q19n,Dt.eval]
                simp only [q18u,q18s,Dt.eval,wi]
                exact ih q m.1 m.2.1 (by omega) (by omega) (hB.take h hp.1 ha0 hq hb hm (.inr ⟨k2,hah⟩))
              | false =>
                simp only [q19f,Dt.eval,cond_false]
                simp only [q19p,q19l,Dt.eval,show decide ((0:Int)<0)=false from rfl,cond_false]
                simp only [q18u,q18s,Dt.eval,wi]
                exact ih b a1 a2 (by omega) (by omega) (hB.keep h hp.1 ha0 hq hb hm (by rw [hah];rintro (k | ⟨_,k⟩);omega;cases k))
            · simp only [q19q, q197, Dt.eval, k1, show ((1 : Int) == 0) = false from rfl, cond_false]
              simp only [q19p,q19l,Dt.eval,show decide ((1:Int)<0)=false from rfl,cond_false]
              simp only [q18u,q18s,Dt.eval,wi]
              exact ih b a1 a2 (by omega) (by omega) (hB.keep h hp.1 ha0 hq hb hm (by rintro (k | ⟨k,_⟩)<;>omega))
        · rw [if_neg hb] at e1
          simp only [q18m,q172,e1,Dt.eval]
          simp only [q18q,show ((0:Int) != 0)=false from rfl,cond_false,Dt.eval,Bool.not_false,cond_true]
          simp only [q18u,q18s,Dt.eval,wi]
          exact ih b a1 a2 (by omega) (by omega) (hB.skip hq hb)
    · have hkl : i = l.length := by omega
      subst hkl
      refine ⟨b,a1,a2,hB,?_⟩
      simp only [q18e,Dt.eval,q2mr hlt,cond_false]
      simp only [q19t,Dt.eval]
      by_cases ha:a2=0
      · simp only [ha,beq_self_eq_true,cond_true,if_true,q19v,Dt.eval]
      · have hb : (a2 == 0) = false := by rw [beq_eq_false_iff_ne]; exact ha
        simp only [hb,cond_false,ha,if_false]
        simp only [q19x,Dt.eval]
        simp only [q19z,Dt.eval,List.length_cons,List.length_nil,Nat.zero_add]
theorem q2pf (d:Nat) (hf5:5000≤d) {l:List T3} (h:FldOk l):∀ (f:Nat) (p:T3) (n dd:Int) (out:List T3),q2or l p<f→Lead l n dd p→qe0 n dd=0→i64B n=true→i64B dd=true→out.length+q2or l p≤200 →
    ∃ r,Crest l p n dd ((n,dd,p.1,()) :: r)∧iter (q1a2 d) f (l,n,dd,p.1,p.2.1,p.2.2.1,out)=some (out++r,0)
  | 0,p,n,dd,out,hf,_,_,_,_,_=>by omega
  | f + 1, p, n, dd, out, hf, hp, hr, hn, hd, ho => by
    have hl:=h.len
    have ih:=fun p n dd out=>q2pf d hf5 h f p n dd out
    rw [iter]
    revert ih
    generalize iter (q1a2 d) f=self
    intro ih
    unfold q1a2
    simp only [q182,q186,q18a,Dt.eval]
    obtain ⟨b,a1,a2,hB,e⟩:=q2pe d h hn hd hr hp self out d 0 (0,0,0,()) 0 0 (by omega) (by omega) (q2pb.zero ..)
    have e':iter (q1a1 d self) d (l,(l.length:Int),(0:Int),l,n,dd,p.1,p.2.1,p.2.2.1,out,(0:Int),(0:Int),(0:Int),(0:Int),(0:Int))=_:=e
    rw [e']
    by_cases ha:a2=0
    · subst ha
      refine ⟨[],.last p n dd hB.none,?_⟩
      rw [if_pos rfl,List.append_nil]
    · obtain ⟨h1, h2⟩ := hB.some h (qe7 hr).1 hp ha
      obtain ⟨g1,g2,g3⟩:=h1.ok h hp.1
      have hD:=(qe7 g1).1
      have hlt:=q2os h2.1 (q2oq h (qe7 hr).1 hp h1 h2)
      have hap:apB out.length 1=true:=by unfold apB;rw [Nat.ble_eq];omega
      obtain ⟨r,k1,k2⟩:=ih b a1 a2 (out ++ [(a1,a2,b.1,())]) (by omega) h2 g1 (q2m8 (by omega)) (q2m8 (by omega)) (by rw [List.length_append];simp;omega)
      refine ⟨(a1,a2,b.1,()) :: r,.next p n dd a1 a2 b _ h1 h2 k1,?_⟩
      rw [if_neg ha,hap,cond_true,k2,List.append_assoc]
      rfl
theorem q2pi (d:Nat) (hf:5000≤d) {l:List T3} (hl:l ≠ []) {n dd:Int} (hn:i64B n=true) (hd:i64B dd=true) (hc:chk1 l n dd=0):∃ a,Crest l (ldT l n dd) n dd a∧q1a3 d ((l,()),(n,dd,()),())=some (a,0):=by
  have h0:qh2 (ptsL l)=0:=by
    unfold chk1 at hc
    by_cases h0:qh2 (ptsL l)=0
    · exact h0
    · rw [if_pos h0] at hc;exact absurd hc h0
  have hr:qe0 n dd=0:=by
    unfold chk1 at hc
    rw [if_neg (by simpa using h0)] at hc;exact hc
  have h:=q2me h0
  have hl64:=h.len
  have hL:=q2of hl n dd
  obtain ⟨r0,hr0⟩:=q2og hl n dd
  have e1:=q2oc d hl64 h0 hn hd hr
  rw [hr0] at e1
  have e2:=q2od d h h0 hL.1
  have hN:=q2ot l (ldT l n dd)
  obtain ⟨r,k1,k2⟩:=q2pf d hf h d (ldT l n dd) n dd [(n,dd,(ldT l n dd).1,())] (by omega) hL hr hn hd (by simp;omega)
  refine ⟨_,k1,?_⟩
  have hlen:((unI ((ldT l n dd).1 :: r0)).length:Int)≠0:=by rw [qjo,List.length_cons];omega
  have c1:(((unI ((ldT l n dd).1 :: r0)).length:Int) == 0)=false:=by rw [beq_eq_false_iff_ne];exact hlen
  have c2:inB 0 (unI ((ldT l n dd).1 :: r0)).length=true:=q2mp (k:=0) (by rw [qjo];simp)
  have c3:elt zi (unI ((ldT l n dd).1 :: r0)) (0:Int).toNat=((ldT l n dd).1,()):=q2mo (k:=0) rfl
  simp only [q1a3,q172,q178,q17c,q17g,q17k,q17o,q17q,q17u,q17y,Dt.eval,e1,show ((0:Int) != 0)=false from rfl,cond_false,c1,c2,c3,cond_true,e2]
  exact k2
end Go.Proofs.Ytpgpbhjkgciggaa

namespace Go.Pel
open Go Go.Tx
def bdL (a:List T3):Prop:=∀ x∈a,i64B x.1=true∧i64B x.2.1=true
def q2pj (a:List T3) (i:Nat):Option T3:=if i=0 then none else a[i - 1]?
theorem q2pk (a:List T3) (i:Nat):q2pj a (i+1)=a[i]?:=by unfold q2pj;rw [if_neg (by omega)];rfl
theorem q2pl {l:List T3} (h:FldOk l) {p:T3} {n dd:Int} {a:List T3} (ha:Crest l p n dd a) (hn:i64B n=true) (hd:i64B dd=true) (hp:p∈l):bdL a:=by
  induction ha with
  | last p n dd _ =>
    intro x hx
    rw [List.mem_singleton] at hx
    subst hx
    exact ⟨hn,hd⟩
  | next p n dd n' dd' p' r h1 h2 _ ih =>
    obtain ⟨g1,g2,g3⟩:=h1.ok h hp
    have o:=(qe7 g1).1
    have hb:∀ {z:Int},z.natAbs≤4194304→i64B z=true:=fun {z} hz=>by
      unfold i64B;simp only [Bool.and_eq_true,decide_eq_true_eq];omega
    intro x hx
    rcases List.mem_cons.1 hx with rfl | hx
    · exact ⟨hn,hd⟩
    · exact ih (hb g2) (hb (by omega)) h2.1 x hx
theorem q2pm (a b c d:Int):(cmpQ a b c d=-1∧a*d<c*b)∨(cmpQ a b c d=0∧a*d=c*b)∨(cmpQ a b c d=1∧c*b<a*d):=by
  unfold cmpQ cmpZ
  repeat' split
  all_goals omega
end Go.Pel
namespace Go.Proofs.Ytpgpbhjkgciggaa
open Go Go.Tx Go.Pel
theorem q2pn (d:Nat) {n dd:Int} (hn:i64B n=true) (hd:i64B dd=true):qnu d ((n,dd,()),())=some (qe0 n dd):=qnv _ _ (by unfold qnt;simp only [hn,hd,Bool.and_self])
theorem q2po (d:Nat) {a:List T3} (hb:bdL a) (hlen:a.length≤1000):∀ (f i:Nat),a.length - i<f→i≤a.length→(∀ y,q2pj a i=some y→okL y=true) →
    iter (q1bh d) f (a,a,(a.length:Int),(i:Int))=some (if chkR (q2pj a i) (a.drop i)=true then 0 else 8)
  | 0,i,hf,_,_=>by omega
  | f + 1, i, hf, hi, hy => by
    have ih:=q2po d hb hlen f (i+1)
    rw [iter]
    revert ih
    generalize iter (q1bh d) f=self
    intro ih
    unfold q1bh
    by_cases hlt:i<a.length
    · obtain ⟨x, hx⟩ : ∃ x, a[i]? = some x := ⟨_, List.getElem?_eq_getElem hlt⟩
      obtain ⟨b1,b2⟩:=hb x (List.mem_of_getElem? hx)
      have e1:=q2pn d b1 b2
      have wi:=q2mn (show i<1000000 by omega)
      rw [q2ms hx]
      unfold chkR
      simp only [q1av,q1az,q1b3,q1b5,q1b9,q1bb,q1bd,q1bf,Dt.eval,q1ab,q2mq hlt,cond_true,q2mp hlt,q2mo hx,e1]
      by_cases h1:qe0 x.1 x.2.1=0
      · by_cases h2 : x.2.2.1 < 0
        · have hk : okL x = false := by cases h : okL x with | false => rfl | true => have := (q2ow.1 h).2; omega
          simp only [h1,show ((0:Int) != 0)=false from rfl,cond_false,decide_eq_true h2,cond_true,Dt.eval,hk,Bool.false_and,Bool.false_eq_true,if_false]
        · by_cases h3 : x.2.2.1 > 65535
          · have hk : okL x = false := by cases h : okL x with | false => rfl | true => have := (q2ow.1 h).2; omega
            simp only [h1,show ((0:Int) != 0)=false from rfl,cond_false,decide_eq_false h2,decide_eq_true h3,cond_true,Dt.eval,hk,Bool.false_and,Bool.false_eq_true,if_false]
          · have hk : okL x = true := q2ow.2 ⟨h1, by omega, by omega⟩
            have ih':=ih (by omega) (by omega) (fun y hy=>by rw [q2pk,hx] at hy;injection hy with hy;subst hy;exact hk)
            rw [q2pk,hx] at ih'
            simp only [h1,show ((0:Int) != 0)=false from rfl,cond_false,decide_eq_false h2,decide_eq_false h3,Dt.eval,hk,Bool.true_and]
            rcases Nat.eq_zero_or_pos i with h0 | h0
            · subst h0
              simp only [show decide (((0:Nat):Int) > 0)=false from rfl,cond_false,Dt.eval,wi,show q2pj a 0=none from rfl,Bool.true_and]
              exact ih'
            · have c3 : decide ((i : Int) > 0) = true := by rw [decide_eq_true_eq]; omega
              obtain ⟨y,hy1⟩:∃ y,a[i - 1]?=some y:=⟨_,List.getElem?_eq_getElem (by omega)⟩
              have hpv:q2pj a i=some y:=by unfold q2pj;rw [if_neg (by omega)];exact hy1
              have hyk:=hy y hpv
              obtain ⟨b3,b4⟩:=hb y (List.mem_of_getElem? hy1)
              have e2:q16u d ((y.1,y.2.1,()),(x.1,x.2.1,()),())=some (cmpQ y.1 y.2.1 x.1 x.2.1):=by
                rw [q2pc d _ _ _ _ b3 b4 b1 b2];unfold cmpR;rw [if_pos ⟨(q2ow.1 hyk).1,h1⟩]
              have wk:IntKind.wrap .i64 ((i:Int) - 1)=((i - 1:Nat):Int):=by rw [IntWalk.i64_in _ (by omega)];omega
              simp only [c3,cond_true,wk,q2mp (show i - 1<a.length by omega),q2mo hy1,e2,Dt.eval,hpv]
              unfold nxB
              rcases q2pm y.1 y.2.1 x.1 x.2.1 with ⟨k1,_⟩ | ⟨k1,_⟩ | ⟨k1,_⟩
              · simp only [k1, show decide ((-1 : Int) ≥ 0) = false from rfl, show decide ((-1 : Int) < 0) = true from rfl, cond_false, Bool.true_and, Dt.eval]
                by_cases hid:y.2.2.1=x.2.2.1
                · simp only [hid,beq_self_eq_true,cond_true,ne_eq,not_true_eq_false,decide_false,Bool.false_and,Bool.false_eq_true,if_false,Dt.eval]
                · simp only [show (y.2.2.1 == x.2.2.1) = false by rw [beq_eq_false_iff_ne]; exact hid, cond_false, ne_eq, hid, not_false_eq_true, decide_true, Bool.true_and, Dt.eval, wi]
                  exact ih'
              · simp only [k1,show decide ((0:Int)≥0)=true from rfl,show decide ((0:Int)<0)=false from rfl,cond_true,Bool.false_and,Bool.false_eq_true,if_false,Dt.eval]
              · simp only [k1,show decide ((1:Int)≥0)=true from rfl,show decide ((1:Int)<0)=false from rfl,cond_true,Bool.false_and,Bool.false_eq_true,if_false,Dt.eval]
      · have hk : okL x = false := by cases h : okL x with | false => rfl | true => exact absurd (q2ow.1 h).1 h1
        simp only [show (qe0 x.1 x.2.1 != 0)=true by simpa using h1,cond_true,Dt.eval,hk,Bool.false_and,Bool.false_eq_true,if_false]
    · have hkl : i = a.length := by omega
      simp only [q1av,q1bf,Dt.eval,q2mr hlt,cond_false]
      rw [hkl,List.drop_length]
      simp [chkR]
theorem q2pp (d:Nat) (hf:5000≤d) {a:List T3} (hb:bdL a) (hlen:a.length≤1000):q1bi d ((a,()),())=some (chkL a):=by
  have e:=q2po d hb hlen d 0 (by omega) (by omega) (fun y hy=>by cases hy)
  unfold chkL
  simp only [q1bi,q1ab,q1af,q1aj,q1an,q1ar,Dt.eval]
  by_cases h1:a.length<1
  · simp only [show decide ((a.length:Int)<1)=true by rw [decide_eq_true_eq];omega,cond_true,h1,true_or,if_true,Dt.eval]
  · by_cases h2 : 300 < a.length
    · simp only [show decide ((a.length:Int)<1)=false by rw [decide_eq_false_iff_not];omega,show decide ((a.length:Int) > 300)=true by rw [decide_eq_true_eq];omega,cond_false,cond_true,h2,or_true,if_true,Dt.eval]
    · simp only [show decide ((a.length : Int) < 1) = false by rw [decide_eq_false_iff_not]; omega, show decide ((a.length : Int) > 300) = false by rw [decide_eq_false_iff_not]; omega, cond_false, h1, h2, or_self, if_false, Dt.eval]
      exact e
theorem q2ps (d:Nat) {x:T3} (b1:i64B x.1=true) (b2:i64B x.2.1=true) (hx:qe0 x.1 x.2.1=0) {n dd:Int} (hn:i64B n=true) (hd:i64B dd=true) (hr:qe0 n dd=0):q1c2 d ((x.1,x.2.1,x.2.2.1,()),(n,dd,()),())=some (cmpQ x.1 x.2.1 n dd):=by
  have e1:q16u d ((x.1,x.2.1,()),(n,dd,()),())=some (cmpQ x.1 x.2.1 n dd):=by
    rw [q2pc d _ _ _ _ b1 b2 hn hd];unfold cmpR;rw [if_pos ⟨hx,hr⟩]
  simp only [q1c2,q1bq,q1bw,q1c0,Dt.eval,e1]
def ltL (n dd:Int) (x:T3):Prop:=x.1*dd<n*x.2.1
theorem q2pt (d:Nat) {a:List T3} {n dd:Int} (hb:bdL a) (hc:chkR none a=true) (hlen:a.length≤1000) (hn:i64B n=true) (hd:i64B dd=true) (hr:qe0 n dd=0):∀ (f lo hi:Nat),hi - lo<f→lo≤hi→hi≤a.length→(∀ j x,j<lo→a[j]?=some x→ltL n dd x)→(∀ j x,hi≤j→a[j]?=some x→¬ ltL n dd x) →
    ∃ (k:Nat) (b:Bool),k≤a.length∧(∀ j x,j<k→a[j]?=some x→ltL n dd x)∧(∀ j x,k≤j→a[j]?=some x→¬ ltL n dd x)∧(b=true ↔ ∃ x,a[k]?=some x∧x.1*dd=n*x.2.1)∧iter (q1da d) f (a,(a.length:Int),(lo:Int),(hi:Int),n,dd)=some ((k:Int),b)
  | 0,lo,hi,h,_,_,_,_=>by omega
  | f + 1, lo, hi, h, hle, hhi, h1, h2 => by
    have hD:=(qe7 hr).1
    obtain ⟨k1,k2,_⟩:=q2oz hc
    rw [List.pairwise_iff_getElem] at k2
    have hval:∀ {x},x∈a→qe0 x.1 x.2.1=0:=fun hx=>(q2ow.1 (k1 _ hx)).1
    have hlt2:∀ {i j:Nat} {x y:T3},i<j→a[i]?=some x→a[j]?=some y→x.1*y.2.1<y.1*x.2.1:=fun {i j x y} hij hx hy=>by
      obtain ⟨hi,rfl⟩:=List.getElem?_eq_some_iff.1 hx
      obtain ⟨hj,rfl⟩:=List.getElem?_eq_some_iff.1 hy
      exact k2 i j hi hj hij
    rw [iter]
    have ih:=q2pt d hb hc hlen hn hd hr f
    revert ih
    generalize iter (q1da d) f=self
    intro ih
    unfold q1da
    simp only [q1cs,q1cw,q1d0,q1d2,q1d4,q1d8,Dt.eval,q1ca]
    by_cases hlt:lo<hi
    · have wm:IntKind.wrap .i64 (shrI .u64 (IntKind.wrap .u64 (IntKind.wrap .i64 ((lo:Int)+(hi:Int)))) 1)=(((lo+hi) / 2:Nat):Int):=by
        rw [show IntKind.wrap .i64 ((lo:Int)+(hi:Int))=(lo:Int)+(hi:Int) from IntWalk.i64_in _ (by omega),show IntKind.wrap .u64 ((lo:Int)+(hi:Int))=((lo+hi:Nat):Int) by rw [IntKind.wrap_u64];omega]
        have:shrI .u64 ((lo+hi:Nat):Int) 1=(((lo+hi) / 2:Nat):Int):=by
          unfold shrI
          rw [show (2:Int) ^ (min (1:Int).toNat IntKind.u64.bits)=2 from by decide,Int.fdiv_eq_ediv_of_nonneg _ (by omega)];omega
        rw [this];exact IntWalk.i64_in _ (by omega)
      obtain ⟨m,hm⟩:∃ m,(lo+hi) / 2=m:=⟨_,rfl⟩
      rw [hm] at wm
      have hml:m<a.length:=by omega
      obtain ⟨x,hx⟩:∃ x,a[m]?=some x:=⟨_,List.getElem?_eq_getElem hml⟩
      have hxm:=List.mem_of_getElem? hx
      obtain ⟨b1,b2⟩:=hb x hxm
      have e1:=q2ps d b1 b2 (hval hxm) hn hd hr
      have oX:=(qe7 (hval hxm)).1
      simp only [q2mq hlt,cond_true,wm,q2mp hml,q2mo hx,e1,Dt.eval]
      rcases q2pm x.1 x.2.1 n dd with ⟨c1,c2⟩ | ⟨c1,c2⟩ | ⟨c1,c2⟩
      · simp only [c1, show decide ((-1 : Int) < 0) = true from rfl, cond_true, Dt.eval, q2mn (show m < 1000000 by omega)]
        refine ih (m+1) hi (by omega) (by omega) (by omega) (fun j y hj hy=>?_) h2
        rcases (by omega:j<m∨j=m) with hjm | rfl
        · have oY := (qe7 (hval (List.mem_of_getElem? hy))).1
          exact q_lt oY oX hD (hlt2 hjm hy hx) (by omega)
        · rw [hx] at hy;injection hy with hy;subst hy;exact c2
      · simp only [c1, show decide ((0 : Int) < 0) = false from rfl, cond_false, Dt.eval]
        refine ih lo m (by omega) (by omega) (by omega) h1 (fun j y hj hy=>?_)
        rcases (by omega:m<j∨j=m) with hjm | rfl
        · have oY := (qe7 (hval (List.mem_of_getElem? hy))).1
          intro k
          have:=q_lt oX oY hD (hlt2 hjm hx hy) (Int.le_of_lt k)
          omega
        · rw [hx] at hy;injection hy with hy;subst hy;unfold ltL;omega
      · simp only [c1, show decide ((1 : Int) < 0) = false from rfl, cond_false, Dt.eval]
        refine ih lo m (by omega) (by omega) (by omega) h1 (fun j y hj hy=>?_)
        rcases (by omega:m<j∨j=m) with hjm | rfl
        · have oY := (qe7 (hval (List.mem_of_getElem? hy))).1
          intro k
          have:=q_lt oX oY hD (hlt2 hjm hx hy) (Int.le_of_lt k)
          omega
        · rw [hx] at hy;injection hy with hy;subst hy;unfold ltL;omega
    · obtain rfl : lo = hi := by omega
      simp only [q2mr hlt,cond_false]
      by_cases hll:lo<a.length
      · obtain ⟨x, hx⟩ : ∃ x, a[lo]? = some x := ⟨_, List.getElem?_eq_getElem hll⟩
        have hxm:=List.mem_of_getElem? hx
        obtain ⟨b1,b2⟩:=hb x hxm
        have e1:=q2ps d b1 b2 (hval hxm) hn hd hr
        simp only [q2mq hll,cond_true,q2mp hll,q2mo hx,e1,Dt.eval]
        refine ⟨lo,_,by omega,h1,h2,?_,rfl⟩
        rw [beq_iff_eq]
        constructor
        · intro k
          rcases q2pm x.1 x.2.1 n dd with ⟨c1,c2⟩ | ⟨c1,c2⟩ | ⟨c1,c2⟩
          · rw [c1] at k;cases k
          · exact ⟨x,hx,c2⟩
          · rw [c1] at k;cases k
        · rintro ⟨y, hy, k⟩
          rw [hx] at hy;injection hy with hy;subst hy
          rcases q2pm x.1 x.2.1 n dd with ⟨c1,c2⟩ | ⟨c1,c2⟩ | ⟨c1,c2⟩
          · omega
          · exact c1
          · omega
      · simp only [q2mr hll, cond_false]
        refine ⟨lo,false,by omega,h1,h2,?_,rfl⟩
        constructor
        · intro k;cases k
        · rintro ⟨y, hy, _⟩
          have:=(List.getElem?_eq_some_iff.1 hy).1;omega
theorem q2pu (d:Nat) (hf:5000≤d) {a:List T3} {n dd:Int} (hb:bdL a) (hc:chkR none a=true) (hlen:a.length≤1000) (hn:i64B n=true) (hd:i64B dd=true) (hr:qe0 n dd=0):q1e8 d ((a,()),(n,dd,()),())=some ((idxL n dd a:Int) - 1):=by
  obtain ⟨k,b,h1,h2,h3,h4,h5⟩:=q2pt d hb hc hlen hn hd hr d 0 a.length (by omega) (by omega) (Nat.le_refl _) (fun j x hj=>by omega) (fun j x hj hx=>by have:=(List.getElem?_eq_some_iff.1 hx).1;omega)
  have e1:q1db d ((a,()),(n,dd,()),(),())=some ((k:Int),b):=by
    simp only [q1db,q1ca,q1cg,q1ck,q1co,Dt.eval]
    exact h5
  obtain ⟨k1,k2,_⟩:=q2oz hc
  rw [List.pairwise_iff_getElem] at k2
  unfold ltL at h2 h3
  cases b with
  | true =>
    obtain ⟨x,hx,hxe⟩:=h4.1 rfl
    have hi:idxL n dd a=k+1:=by
      have hkl:=(List.getElem?_eq_some_iff.1 hx).1
      refine q2p1 (by omega) (fun j y hj hy=>?_) (fun y hy=>?_)
      · cases hg : gtL n dd y with
        | false=>rfl
        | true =>
          have hg:=(q2ov ..).1 hg
          rcases (by omega:j<k∨j=k) with hjk | rfl
          · have:=h2 j y hjk hy;omega
          · rw [hx] at hy;injection hy with hy;subst hy;omega
      · obtain ⟨hk1, rfl⟩ := List.getElem?_eq_some_iff.1 hx
        obtain ⟨hk2,rfl⟩:=List.getElem?_eq_some_iff.1 hy
        have:=k2 k (k+1) hk1 hk2 (by omega)
        rw [q2ov]
        have o1:=(qe7 hr).1
        have o2:=(qe7 (q2ow.1 (k1 _ (List.getElem_mem hk1))).1).1
        have o3:=(qe7 (q2ow.1 (k1 _ (List.getElem_mem hk2))).1).1
        exact q2lk o1 o2 o3 (by omega) this
    simp only [q1e8,q1dj,q1dp,q1dt,q1dx,q1e1,q1e5,q1e7,Dt.eval,e1,Bool.not_true,cond_false]
    exact congrArg some (by omega:(k:Int)=(idxL n dd a:Int) - 1)
  | false =>
    have hi:idxL n dd a=k:=by
      refine q2p1 h1 (fun j y hj hy=>?_) (fun y hy=>?_)
      · cases hg : gtL n dd y with
        | false=>rfl
        | true=>have hg:=(q2ov ..).1 hg;have:=h2 j y hj hy;omega
      · rw [q2ov]
        have q1:=h3 k y (Nat.le_refl _) hy
        have q2:¬ y.1*dd=n*y.2.1:=fun e=>by cases h4.2 ⟨y,hy,e⟩
        omega
    have hk:=q2p2 n dd a
    simp only [q1e8,q1dj,q1dp,q1dt,q1dx,q1e1,q1e5,q1e7,Dt.eval,e1,Bool.not_false,cond_true,show IntKind.wrap .i64 ((k:Int) - 1)=(k:Int) - 1 from IntWalk.i64_in _ (by omega)]
    exact congrArg some (by omega:(k:Int) - 1=(idxL n dd a:Int) - 1)
theorem q2pw (a:List T3):chkL a=0∨chkL a=8:=by
  unfold chkL
  split
  · exact .inr rfl
  · split
    · exact .inl rfl
    · exact .inr rfl
end Go.Proofs.Ytpgpbhjkgciggaa

namespace Go.Pel
open Go Go.Tx
theorem q2q1 {α:Type} {P:α→Bool} {l:List α} {x:α} (hx:x∈l) (h:P x=false):l.countP P<l.length:=by
  induction l with
  | nil=>cases hx
  | cons y ys ih =>
    rw [List.countP_cons,List.length_cons]
    have:=List.countP_le_length (p:=P) (l:=ys)
    rcases List.mem_cons.1 hx with rfl | hx
    · rw [if_neg (by rw [h];decide)];omega
    · have := ih hx
      split<;>omega
theorem q2q2 {l:List T3} (h:FldOk l) {p:T3} {n dd:Int} {a:List T3} (ha:Crest l p n dd a) (hr:qe0 n dd=0) (hp:Lead l n dd p):a.length≤l.length:=by
  have h1:=ha.len h hr hp
  have h2:q2or l p<l.length:=q2q1 hp.1 (by rw [decide_eq_false_iff_not];omega)
  omega
end Go.Pel
namespace Go.Proofs.Ytpgpbhjkgciggaa
open Go Go.Tx Go.Pel
def fitC (l:List T3) (n dd:Int):Bool:=decide (0<l.length) && !great l.length&&(chk1 l n dd == 0)
theorem q2q5 (d:Nat) (l:List T3):qq3 d ((l,()),())=some (great l.length):=by
  rw [qq4 _ _ rfl]
  show some (great (ptsL l).length)=_
  rw [qjq]
theorem q2q6 {n:Nat} (h:great n=false):n≤70:=by
  unfold great at h
  simp only [Bool.or_eq_false_iff,decide_eq_false_iff_not] at h
  omega
theorem q2q7 (d:Nat) {l:List T3} (hl:l.length≤1000000) {n dd:Int} (hn:i64B n=true) (hd:i64B dd=true):qu8 d ((l,()),(n,dd,()),())=some (chk1 l n dd):=by
  rw [qu9 _ _ (by unfold qu7;simp only [hn,hd,Bool.and_self,Bool.true_and,decide_eq_true_eq];rw [qjq];exact hl)]
  rfl
theorem q2q8 (d:Nat) (l:List T3) {n dd:Int} (hn:i64B n=true) (hd:i64B dd=true):q298 d ((l,()),(n,dd,()),())=some (fitC l n dd):=by
  have e1:=q2q5 d l
  unfold fitC
  simp only [q298,q28w,q292,q296,Dt.eval]
  by_cases h1:0<l.length
  · simp only [show decide ((l.length : Int) > 0) = true by rw [decide_eq_true_eq]; omega, cond_true, e1, h1, decide_true, Bool.true_and, Dt.eval]
    cases hg:great l.length with
    | true=>rfl
    | false =>
      have e2:=q2q7 d (l:=l) (by have:=q2q6 hg;omega) hn hd
      simp only [Bool.not_false,cond_true,e2,Bool.true_and,Dt.eval]
  · simp only [show decide ((l.length:Int) > 0)=false by rw [decide_eq_false_iff_not];omega,cond_false,h1,decide_false,Bool.false_and]
theorem q2q9 {l:List T3} {n dd:Int} (h:fitC l n dd=true):l ≠ []∧chk1 l n dd=0∧qh2 (ptsL l)=0∧qe0 n dd=0∧FldOk l:=by
  unfold fitC at h
  simp only [Bool.and_eq_true,decide_eq_true_eq,beq_iff_eq] at h
  obtain ⟨⟨h1,_⟩,h3⟩:=h
  have hc:=h3
  unfold chk1 at hc
  have h0:qh2 (ptsL l)=0:=by
    by_cases h0:qh2 (ptsL l)=0
    · exact h0
    · rw [if_pos h0] at hc;exact absurd hc h0
  rw [if_neg (by simpa using h0)] at hc
  exact ⟨by intro e;rw [e] at h1;simp at h1,h3,h0,hc,q2me h0⟩
theorem q2qa (d:Nat) {L:List T3} (hlen:L.length≤4096):∀ (f i:Nat),L.length - i<f→i≤L.length→iter (q1z2 d) f (L,L,(i:Int))=some true
  | 0,i,hf,_=>by omega
  | f + 1, i, hf, hi => by
    have ih:=q2qa d hlen f (i+1)
    rw [iter]
    revert ih
    generalize iter (q1z2 d) f=self
    intro ih
    unfold q1z2
    simp only [q1yq,q1yy,q1yu,q1yw,q1z0,Dt.eval]
    by_cases hlt:i<L.length
    · simp only [q2mq hlt, cond_true, q2mp hlt, beq_self_eq_true, Bool.and_self, Bool.not_true, cond_false, q2mn (show i < 1000000 by omega)]
      exact ih (by omega) (by omega)
    · simp only [q2mr hlt,cond_false]
theorem q2qb (d:Nat) (hf:5000≤d) {L:List T3} (hlen:L.length≤4096):q1z3 d ((L,()),(L,()),())=some true:=by
  have e:=q2qa d hlen d 0 (by omega) (by omega)
  simp only [q1z3,q1y6,q1ya,q1ye,q1yi,q1ym,Dt.eval,bne_self_eq_false,cond_false]
  exact e
theorem q2qc:q2bc 5000 ()=some true:=by kernel_rfl
end Go.Proofs.Ytpgpbhjkgciggaa

namespace Go.Pel
open Go Go.RowKit
end Go.Pel

namespace Go.Pel
open Go Go.Tx
def NxtI (l:List T3) (p:T3) (i:Nat) (is:Bool) (n dd:Int):Prop :=
  (is=false∧∀ k q,k<i→l[k]?=some q→¬ p.2.2.1<q.2.2.1) ∨
  (is=true∧(∃ j b m,j<i∧l[j]?=some b∧p.2.2.1<b.2.2.1∧mtP (p,b)=some m∧m.1=n∧m.2.1=dd)∧∀ k q m',k<i→l[k]?=some q→p.2.2.1<q.2.2.1→mtP (p,q)=some m'→¬ m'.1*dd<n*m'.2.1)
theorem NxtI.skip {l:List T3} {p:T3} {i:Nat} {is:Bool} {n dd:Int} (h:NxtI l p i is n dd) {q:T3} (hq:l[i]?=some q) (hs:¬ p.2.2.1<q.2.2.1):NxtI l p (i+1) is n dd:=by
  rcases h with ⟨h1,h2⟩ | ⟨h1,⟨j,b,m,h3,h4,h5⟩,h6⟩
  · refine .inl ⟨h1, fun k x hk hx => ?_⟩
    rcases (by omega:k<i∨k=i) with k' | rfl
    · exact h2 k x k' hx
    · rw [hq] at hx;injection hx with hx;subst hx;exact hs
  · refine .inr ⟨h1, ⟨j, b, m, by omega, h4, h5⟩, fun k x m' hk hx hf hm' => ?_⟩
    rcases (by omega:k<i∨k=i) with k' | rfl
    · exact h6 k x m' k' hx hf hm'
    · rw [hq] at hx;injection hx with hx;subst hx;exact absurd hf hs
theorem NxtI.take {l:List T3} (h:FldOk l) {p:T3} (hp:p∈l) {i:Nat} {is:Bool} {n dd:Int} (hN:NxtI l p i is n dd) {q:T3} (hq:l[i]?=some q) (hf:p.2.2.1<q.2.2.1) {m:M4} (hm:mtP (p,q)=some m) (hR:is=false∨m.1*dd<n*m.2.1):NxtI l p (i+1) true m.1 m.2.1:=by
  have hpo:=h.ok p hp
  have g1:=(q2np (x:=(p,q)) hpo (h.ok q (List.mem_of_getElem? hq)) hm).2.1
  have o1:=(qe7 g1).1
  refine .inr ⟨rfl,⟨i,q,m,by omega,hq,hf,hm,rfl,rfl⟩,fun k x m' hk hx hfx hm'=>?_⟩
  rcases (by omega:k<i∨k=i) with k' | rfl
  · rcases hN with ⟨_, h2⟩ | ⟨h1, ⟨j, b, mb, _, hb, _, hmb, rfl, rfl⟩, h6⟩
    · exact absurd hfx (h2 k x k' hx)
    · rcases hR with hR | hR
      · rw [h1] at hR;cases hR
      · have oX := (qe7 (q2np (x := (p, x)) hpo (h.ok x (List.mem_of_getElem? hx)) hm').2.1).1
        have oB:=(qe7 (q2np (x:=(p,b)) hpo (h.ok b (List.mem_of_getElem? hb)) hmb).2.1).1
        intro k1
        have:m'.1*mb.2.1<mb.1*m'.2.1:=q_lt oX o1 oB k1 (Int.le_of_lt hR)
        exact h6 k x m' k' hx hfx hm' this
  · rw [hq] at hx; injection hx with hx; subst hx
    rw [hm] at hm';injection hm' with hm';subst hm'
    omega
theorem NxtI.keep {l:List T3} {p:T3} {i:Nat} {n dd:Int} (hN:NxtI l p i true n dd) {q:T3} (hq:l[i]?=some q) {m:M4} (hm:mtP (p,q)=some m) (hR:¬ m.1*dd<n*m.2.1):NxtI l p (i+1) true n dd:=by
  rcases hN with ⟨h1,_⟩ | ⟨_,⟨j,b,mb,h3,h4⟩,h6⟩
  · cases h1
  · refine .inr ⟨rfl, ⟨j, b, mb, by omega, h4⟩, fun k x m' hk hx hfx hm' => ?_⟩
    rcases (by omega:k<i∨k=i) with k' | rfl
    · exact h6 k x m' k' hx hfx hm'
    · rw [hq] at hx; injection hx with hx; subst hx
      rw [hm] at hm';injection hm' with hm';subst hm'
      exact hR
theorem NxtI.no {l:List T3} {p:T3} {n dd:Int} (h:NxtI l p l.length false n dd):q2ok l p:=by
  rcases h with ⟨_,h2⟩ | ⟨h1,_⟩
  · intro q hq
    obtain ⟨k,hk⟩:=List.mem_iff_getElem?.1 hq
    exact h2 k q (List.getElem?_eq_some_iff.1 hk).1 hk
  · cases h1
end Go.Pel
namespace Go.Proofs.Ytpgpbhjkgciggaa
open Go Go.Tx Go.Pel
end Go.Proofs.Ytpgpbhjkgciggaa

namespace Go.Pel
open Go Go.Tx
abbrev Q2:Type:=Int×Int×Unit
def dedQ:Option Q2→List Q2→List Q2
  | _,[]=>[]
  | o,x :: r=>if o=some x then dedQ (some x) r else x :: dedQ (some x) r
theorem q2qo:∀ (o:Option Q2) (l:List Q2),(dedQ o l).length≤l.length
  | _,[]=>Nat.le_refl _
  | o, x :: r => by
    have:=q2qo (some x) r
    unfold dedQ
    split
    · rw [List.length_cons];omega
    · rw [List.length_cons,List.length_cons];omega
theorem q2qp:∀ (o:Option Q2) (l:List Q2) (t:Q2),t∈l→o=some t∨t∈dedQ o l
  | _,[],t,h=>by cases h
  | o, x :: r, t, h => by
    unfold dedQ
    rcases List.mem_cons.1 h with rfl | h
    · by_cases e : o = some t
      · exact .inl e
      · rw [if_neg e];exact .inr (List.mem_cons_self ..)
    · rcases q2qp (some x) r t h with k | k
      · injection k with k
        subst k
        by_cases e:o=some x
        · exact .inl e
        · rw [if_neg e];exact .inr (List.mem_cons_self ..)
      · split
        · exact .inr k
        · exact .inr (List.mem_cons_of_mem _ k)
theorem q2qq:∀ (o:Option Q2) (l:List Q2),(dedQ o l).Sublist l
  | _,[]=>List.Sublist.refl _
  | o, x :: r => by
    unfold dedQ
    split
    · exact (q2qq (some x) r).cons _
    · exact (q2qq (some x) r).cons_cons _
def ltQ (x y:Q2):Bool:=decide (cmpQ x.1 x.2.1 y.1 y.2.1<0)
theorem q2qr (x y:Q2):ltQ x y=true↔x.1*y.2.1<y.1*x.2.1:=by
  unfold ltQ cmpQ cmpZ
  rw [decide_eq_true_eq]
  repeat' split
  all_goals omega
theorem q2qs {x y:Q2} (h:ltQ x y=false):y.1*x.2.1≤x.1*y.2.1 :=
  Int.not_lt.1 fun k=>by rw [(q2qr x y).2 k] at h;cases h
def okQ (x:Q2):Prop:=qe0 x.1 x.2.1=0∧i64B x.1=true∧i64B x.2.1=true
theorem okQ.den {x:Q2} (h:okQ x):1≤x.2.1:=(qe7 h.1).1
theorem okQ.eq {x y:Q2} (hx:okQ x) (hy:okQ y) (h:x.1*y.2.1=y.1*x.2.1):x=y:=by
  obtain ⟨e1,e2⟩:=q_eq hx.1 hy.1 h
  obtain ⟨x1,x2,_⟩:=x
  obtain ⟨y1,y2,_⟩:=y
  simp only at e1 e2
  subst e1 e2
  rfl
theorem q2qt {x y z:Q2} (hx:okQ x) (hy:okQ y) (hz:okQ z) (h:ltQ x y=true) (k:ltQ y z=true):ltQ x z=true :=
  (q2qr x z).2 (q_lt hx.den hy.den hz.den ((q2qr x y).1 h) (Int.le_of_lt ((q2qr y z).1 k)))
theorem q2qu (x:Q2):ltQ x x=false:=by
  cases h:ltQ x x with
  | false=>rfl
  | true=>have:=(q2qr x x).1 h;omega
theorem q2qv {x y:Q2} (h:ltQ x y=true):ltQ y x=false:=by
  cases k:ltQ y x with
  | false=>rfl
  | true=>have:=(q2qr x y).1 h;have:=(q2qr y x).1 k;omega
theorem q2qw {x y:Q2} (hx:okQ x) (hy:okQ y) (h:ltQ x y=false) (k:ltQ y x=false):x=y :=
  hx.eq hy (by have:=q2qs h;have:=q2qs k;omega)
theorem q2qx {G:List Q2} (h:∀ g∈G,okQ g):(qsq ltQ G).Pairwise fun a b=>ltQ b a=false :=
  qsv (S:=okQ) (fun a b _ _ h=>q2qv h)
    (fun x y z hx hy hz h k=>by
      cases c:ltQ x z with
      | false=>rfl
      | true =>
        cases c1:ltQ z y with
        | true=>rw [q2qt hx hz hy c c1] at h;cases h
        | false =>
          obtain rfl:=q2qw hy hz k c1
          rw [h] at c;cases c) _ h
theorem q2qy:∀ (o:Option Q2) (l:List Q2),(∀ g∈l,okQ g)→l.Pairwise (fun a b=>ltQ b a=false)→(∀ y,o=some y→okQ y∧∀ x∈l,ltQ x y=false)→(dedQ o l).Pairwise (fun a b=>ltQ a b=true)∧∀ y,o=some y→∀ x∈dedQ o l,ltQ y x=true
  | _,[],_,_,_=>⟨List.Pairwise.nil,fun _ _ _ h=>by cases h⟩
  | o, x :: r, hg, hp, ho => by
    obtain ⟨p1,p2⟩:=List.pairwise_cons.1 hp
    obtain ⟨i1,i2⟩:=q2qy (some x) r (fun g h=>hg g (List.mem_cons_of_mem _ h)) p2 (fun y hy=>by injection hy with hy;subst hy;exact ⟨hg x (List.mem_cons_self ..),p1⟩)
    have i2:=i2 x rfl
    have hx:=hg x (List.mem_cons_self ..)
    unfold dedQ
    split
    · next e =>
      refine ⟨i1,fun y hy z hz=>?_⟩
      rw [e] at hy;injection hy with hy;subst hy
      exact i2 z hz
    · next e =>
      refine ⟨List.pairwise_cons.2 ⟨i2,i1⟩,fun y hy z hz=>?_⟩
      obtain ⟨oy,k⟩:=ho y hy
      have hyx:ltQ y x=true:=by
        cases c:ltQ y x with
        | true=>rfl
        | false=>exact absurd (by rw [hy,q2qw oy hx c (k x (List.mem_cons_self ..))]) e
      rcases List.mem_cons.1 hz with rfl | hz
      · exact hyx
      · exact q2qt oy hx (hg z (List.mem_cons_of_mem _ ((q2qq _ _).mem hz))) hyx (i2 z hz)
end Go.Pel
namespace Go.Proofs.Ytpgpbhjkgciggaa
open Go Go.Tx Go.Pel
theorem q2qz {n m:Nat} (h:n+m≤100000):apB n m=true:=by unfold apB;rw [Nat.ble_eq];exact h
theorem eltN {α:Type} {z:α} {l:List α} {n:Nat} {x:α} (h:l[n]?=some x):elt z l n=x:=by unfold elt;rw [h];rfl
theorem q2r0 (x y:Dii):(x.1 == y.1&&(x.2.1 == y.2.1&&true))=decide (x=y):=by
  obtain ⟨x1,x2,_⟩:=x
  obtain ⟨y1,y2,_⟩:=y
  simp only [Bool.and_true,Prod.mk.injEq,and_true,Bool.decide_and]
  rfl
theorem q2r1 (d:Nat) {xs:List Dii} (hlen:xs.length≤1000) {K:Nat} (self1:(Int×List Dii)→Option q1fh):∀ (f k j:Nat) (R:List Dii),xs.length - (K+j)<f→1≤j→K+j≤xs.length→k<K+j→R.length=xs.length→(∀ i,K+j≤i+1→R[i]?=xs[i]?) →
    iter (q1h1 d self1) f ((k:Int),(j:Int),R,K)=some (R.take k++dedQ (xs[K+j - 1]?) (xs.drop (K+j)))
  | 0,k,j,R,h,_,_,_,_,_=>by omega
  | f + 1, k, j, R, hf, hj, hle, hk, hR, hx => by
    have ih:=fun k R=>q2r1 d hlen (K:=K) self1 f k (j+1) R
    rw [iter]
    revert ih
    generalize iter (q1h1 d self1) f=self
    intro ih
    unfold q1h1 q1gw
    by_cases hlt:K+j<xs.length
    · obtain ⟨x, hxe⟩ : ∃ x, xs[K + j]? = some x := ⟨_, List.getElem?_eq_getElem hlt⟩
      obtain ⟨y,hye⟩:∃ y,xs[K+j - 1]?=some y:=⟨_,List.getElem?_eq_getElem (by omega)⟩
      have hRx:R[K+j]?=some x:=by rw [hx _ (by omega)];exact hxe
      have hRy:R[K+(j - 1)]?=some y:=by rw [hx _ (by omega),show K+(j - 1)=K+j - 1 by omega];exact hye
      have w1:IntKind.wrap .i64 ((j:Int) - 1)=((j - 1:Nat):Int):=by rw [IntWalk.i64_in _ (by omega)];omega
      have w2:=q2mn (show j<1000000 by omega)
      have w3:=q2mn (show k<1000000 by omega)
      simp only [q1gk,q1gu,q1go,q1gq,q1gs,Dt.eval,q2mq (show j<R.length - K by omega),cond_true,q2mp (show j<R.length - K by omega),q2mp (show j - 1<R.length - K by omega),w1,w2,w3,Int.toNat_natCast,eltN hRx,eltN hRy,q2r0,q2mp (show k<R.length by omega)]
      rw [hye,q2ms hxe]
      unfold dedQ
      by_cases e:x=y
      · subst e
        rw [if_pos rfl]
        simp only [decide_true,Bool.not_true,cond_false,Dt.eval]
        have:=ih k R (by omega) (by omega) (by omega) (by omega) hR (fun i hi=>hx i (by omega))
        rw [show K+(j+1) - 1=K+j by omega,hxe] at this
        exact this
      · rw [if_neg (fun k => by injection k with k; exact e k.symm)]
        simp only [decide_eq_false e,Bool.not_false,cond_true,Dt.eval]
        have:=ih (k+1) (R.set k x) (by omega) (by omega) (by omega) (by omega) (by rw [List.length_set];exact hR) (fun i hi=>by rw [List.getElem?_set_ne (by omega)];exact hx i (by omega))
        rw [show K+(j+1) - 1=K+j by omega,hxe] at this
        have ht:(R.set k x).take (k+1)=R.take k ++ [x]:=by
          rw [List.take_add_one,List.take_set_of_le (Nat.le_refl _),List.getElem?_set_self (by omega)]
          rfl
        rw [ht,List.append_assoc] at this
        exact this
    · have hKj : K + j = xs.length := by omega
      have c1:decide ((0:Int)≤(k:Int))=true:=by rw [decide_eq_true_eq];omega
      have c2:decide ((k:Int)<(R.length:Int))=true:=by rw [decide_eq_true_eq];omega
      have c3:Nat.ble k R.length=true:=by rw [Nat.ble_eq];omega
      have c4:(List.take k R++List.replicate (R.length - k) zii).length=R.length:=by rw [List.length_append,List.length_take,List.length_replicate];omega
      have c5:decide ((k:Int)≤(R.length:Int))=true:=by rw [decide_eq_true_eq];omega
      have c6:(List.take k R++List.replicate (R.length - k) zii).take k=R.take k:=by
        rw [List.take_append_of_le_length (by rw [List.length_take];omega),List.take_take,Nat.min_self]
      simp only [q1gk,q1gx,q1gz,Dt.eval,q2mr (show ¬ j<R.length - K by omega),cond_false,c1,c2,c3,c4,c5,c6,Bool.and_self,cond_true,Int.toNat_natCast]
      rw [hKj,List.drop_length]
      unfold dedQ
      rw [List.append_nil]
theorem q2r2 (d:Nat) (hd:5000≤d) {xs:List Dii} (hlen:xs.length≤1000):∀ (f k:Nat),xs.length - k<f→1≤k→k≤xs.length →
    iter (q1h6 d) f ((k:Int),xs)=some (xs.take k++dedQ (xs[k - 1]?) (xs.drop k))
  | 0,k,h,_,_=>by omega
  | f + 1, k, hf, hk, hle => by
    have ih:=q2r2 d hd hlen f (k+1)
    rw [iter]
    revert ih
    generalize iter (q1h6 d) f=self
    intro ih
    unfold q1h6
    by_cases hlt:k<xs.length
    · obtain ⟨x, hxe⟩ : ∃ x, xs[k]? = some x := ⟨_, List.getElem?_eq_getElem hlt⟩
      obtain ⟨y,hye⟩:∃ y,xs[k - 1]?=some y:=⟨_,List.getElem?_eq_getElem (by omega)⟩
      have w1:IntKind.wrap .i64 ((k:Int) - 1)=((k - 1:Nat):Int):=by rw [IntWalk.i64_in _ (by omega)];omega
      have w2:=q2mn (show k<1000000 by omega)
      have c1:decide ((0:Int)≤(k:Int))=true:=by rw [decide_eq_true_eq];omega
      have c2:decide ((k:Int)<(xs.length:Int))=true:=by rw [decide_eq_true_eq];omega
      simp only [q1g4,q1h2,q1g8,q1gc,q1gg,Dt.eval,q2mq hlt,cond_true,q2mp hlt,q2mp (show k - 1<xs.length by omega),w1,w2,Int.toNat_natCast,eltN hxe,eltN hye,q2r0]
      rw [hye,q2ms hxe]
      unfold dedQ
      by_cases e:x=y
      · subst e
        rw [if_pos rfl]
        have:=q2r1 d hlen (K:=k) self d k 1 xs (by omega) (by omega) (by omega) (by omega) rfl (fun i _=>rfl)
        rw [show k+1 - 1=k by omega,hxe] at this
        simp only [decide_true,cond_true,Dt.eval,c1,c2,Bool.and_self,Int.toNat_natCast]
        exact this
      · rw [if_neg (fun k => by injection k with k; exact e k.symm)]
        have:=ih (by omega) (by omega) (by omega)
        rw [show k+1 - 1=k by omega,hxe,List.take_add_one,hxe,Option.toList_some,List.append_assoc] at this
        simp only [decide_eq_false e,cond_false,Dt.eval]
        exact this
    · have hkl : k = xs.length := by omega
      simp only [q1g4,q1h4,Dt.eval,q2mr hlt,cond_false]
      rw [hkl,List.drop_length,List.take_length]
      unfold dedQ
      rw [List.append_nil]
theorem q2r3 (d:Nat) (hd:5000≤d) {xs:List Dii} (hlen:xs.length≤1000):q1h7 d ((),(),xs)=some (dedQ none xs):=by
  simp only [q1h7,q1fk,q1fo,q1fs,q1fw,q1g0,Dt.eval]
  by_cases h:xs.length<2
  · simp only [show decide ((xs.length : Int) < 2) = true by rw [decide_eq_true_eq]; omega, cond_true, Dt.eval]
    match xs,h with
    | [],_=>rfl
    | [x],_=>rfl
  · simp only [show decide ((xs.length : Int) < 2) = false by rw [decide_eq_false_iff_not]; omega, cond_false, Dt.eval]
    have:=q2r2 d hd hlen d 1 (by omega) (by omega) (by omega)
    refine Eq.trans this ?_
    match xs,h with
    | x :: r,_=>rfl
theorem q2r4 (d:Nat) {n:Nat} (hn:n≤10000):q1i5 d ((),((n:Int),()),())=some []:=by
  have c1:decide ((n:Int)<0)=false:=by rw [decide_eq_false_iff_not];omega
  have w1:IntKind.wrap .i64 ((n:Int) - IntKind.wrap .i64 ((0:Int) - 0))=(n:Int):=by
    rw [show IntKind.wrap .i64 ((0:Int) - 0)=0 from by decide,IntWalk.i64_in _ (by omega)];omega
  simp only [q1i5,q1hf,q1hj,q1hn,q1hp,q1ht,q1hx,q1i1,q1i4,q1i3,Dt.eval,c1,cond_false,w1]
  by_cases h:n=0
  · subst h;rfl
  · have c2 : decide ((n : Int) > 0) = true := by rw [decide_eq_true_eq]; omega
    have c3:decide ((0:Int)<(n:Int))=true:=by rw [decide_eq_true_eq];omega
    have c4:decide ((n:Int)≤100000)=true:=by rw [decide_eq_true_eq];omega
    have c5:decide ((0:Int)≤((List.replicate (n:Int).toNat ziii).length:Int))=true:=by rw [decide_eq_true_eq];omega
    simp only [c2,c3,c4,c5,Bool.and_self,cond_true,Dt.eval,Int.toNat_zero,List.take_zero,show decide ((0:Int)≤0)=true from rfl]
set_option linter.unusedSectionVars false
section
variable (d:Nat) {a b:List T3} (ha:a.length≤1000) (hb:b.length≤1000)
include ha hb
theorem q2r5 (self:(List qkb×Int×List qkb×Int×Int)→Option q1i9):q1jx d self ([(a,()),(b,())],(0:Int),[(a,()),(b,())],(2:Int),(0:Int))=self ([(a,()),(b,())],(a.length:Int),[(a,()),(b,())],(2:Int),(1:Int)):=by
  have w1:IntKind.wrap .i64 ((0:Int)+(a.length:Int))=(a.length:Int):=by rw [IntWalk.i64_in _ (by omega)];omega
  have w3:IntKind.wrap .i64 ((0:Int)+1)=1:=by decide
  have c1:decide ((a.length:Int)<0)=false:=by rw [decide_eq_false_iff_not];omega
  unfold q1jx
  simp only [q1it,q1ix,q1iz,q1j3,q1j5,q1j7,Dt.eval,show decide ((0:Int)<2)=true from rfl,cond_true,show inB (0:Int) [(a,()),(b,())].length=true from rfl,show (elt qkc [(a,()),(b,())] (0:Int).toNat).1=a from rfl,w1,c1,cond_false,w3]
theorem q2r6 (self:(List qkb×Int×List qkb×Int×Int)→Option q1i9):q1jx d self ([(a,()),(b,())],(a.length:Int),[(a,()),(b,())],(2:Int),(1:Int))=self ([(a,()),(b,())],((a.length+b.length:Nat):Int),[(a,()),(b,())],(2:Int),(2:Int)):=by
  have w2:IntKind.wrap .i64 ((a.length:Int)+(b.length:Int))=((a.length+b.length:Nat):Int):=by rw [IntWalk.i64_in _ (by omega)];omega
  have w4:IntKind.wrap .i64 ((1:Int)+1)=2:=by decide
  have c2:decide (((a.length+b.length:Nat):Int)<0)=false:=by rw [decide_eq_false_iff_not];omega
  unfold q1jx
  simp only [q1it,q1ix,q1iz,q1j3,q1j5,q1j7,Dt.eval,show decide ((1:Int)<2)=true from rfl,cond_true,show inB (1:Int) [(a,()),(b,())].length=true from rfl,show (elt qkc [(a,()),(b,())] (1:Int).toNat).1=b from rfl,w2,c2,cond_false,w4]
theorem q2r7 (self:(List qkb×Int×List qkb×Int×Int)→Option q1i9):q1jx d self ([(a,()),(b,())],((a.length+b.length:Nat):Int),[(a,()),(b,())],(2:Int),(2:Int))=iter (q1jw d) d ([(a,()),(b,())],(2:Int),(0:Int),[]):=by
  have g:=q2r4 d (n:=a.length+b.length) (by omega)
  unfold q1jx
  simp only [q1it,q1ja,q1je,q1id,Dt.eval,show decide ((2:Int)<2)=false from rfl,cond_false,g]
  rfl
theorem q2r8 (self:(List qkb×Int×Int×List Diii)→Option q1i9):q1jw d self ([(a,()),(b,())],(2:Int),(0:Int),[])=self ([(a,()),(b,())],(2:Int),(1:Int),a):=by
  have p1:apB ([]:List T3).length a.length=true:=q2qz (by simp only [List.length_nil];omega)
  have w3:IntKind.wrap .i64 ((0:Int)+1)=1:=by decide
  unfold q1jw
  simp only [q1ji,q1jm,q1jo,q1jq,Dt.eval,show decide ((0:Int)<2)=true from rfl,cond_true,show inB (0:Int) [(a,()),(b,())].length=true from rfl,show (elt qkc [(a,()),(b,())] (0:Int).toNat).1=a from rfl,p1,w3,List.nil_append]
theorem q2r9 (self:(List qkb×Int×Int×List Diii)→Option q1i9):q1jw d self ([(a,()),(b,())],(2:Int),(1:Int),a)=self ([(a,()),(b,())],(2:Int),(2:Int),a++b):=by
  have p2:apB a.length b.length=true:=q2qz (by omega)
  have w4:IntKind.wrap .i64 ((1:Int)+1)=2:=by decide
  unfold q1jw
  simp only [q1ji,q1jm,q1jo,q1jq,Dt.eval,show decide ((1:Int)<2)=true from rfl,cond_true,show inB (1:Int) [(a,()),(b,())].length=true from rfl,show (elt qkc [(a,()),(b,())] (1:Int).toNat).1=b from rfl,p2,w4]
theorem q2ra (self:(List qkb×Int×Int×List Diii)→Option q1i9):q1jw d self ([(a,()),(b,())],(2:Int),(2:Int),a++b)=some (a++b):=by
  unfold q1jw
  simp only [q1ji,q1ju,Dt.eval,show decide ((2:Int)<2)=false from rfl,cond_false]
theorem q2rb (hd:3≤d):q1jy d ((([(a,()),(b,())]:List qkb),()),())=some (a++b):=by
  have hi:∀ {X R:Type} (body:(X→Option R)→X→Option R) (f:Nat) (x:X),iter body (f+1) x=body (iter body f) x:=fun body f x=>rfl
  have e1:iter (q1jx d) d ([(a,()),(b,())],(0:Int),[(a,()),(b,())],(2:Int),(0:Int))=iter (q1jw d) d ([(a,()),(b,())],(2:Int),(0:Int),[]):=by
    have c1:=q2r5 d ha hb
    have c2:=q2r6 d ha hb
    have c3:=q2r7 d ha hb
    generalize q1jx d=L at c1 c2 c3 ⊢
    obtain ⟨e,he⟩:∃ e,d=e+3:=⟨d - 3,by omega⟩
    rw [show iter L d ([(a,()),(b,())],(0:Int),[(a,()),(b,())],(2:Int),(0:Int))=iter L (e+3) ([(a,()),(b,())],(0:Int),[(a,()),(b,())],(2:Int),(0:Int)) from by rw [← he],hi L (e+2),c1,hi L (e+1),c2,hi L e,c3]
  have e3:iter (q1jw d) d ([(a,()),(b,())],(2:Int),(0:Int),[])=some (a++b):=by
    have c1:=q2r8 d ha hb
    have c2:=q2r9 d ha hb
    have c3:=q2ra d ha hb
    generalize q1jw d=L at c1 c2 c3 ⊢
    obtain ⟨e,he⟩:∃ e,d=e+3:=⟨d - 3,by omega⟩
    rw [show iter L d ([(a,()),(b,())],(2:Int),(0:Int),[])=iter L (e+3) ([(a,()),(b,())],(2:Int),(0:Int),[]) from by rw [← he],hi L (e+2),c1,hi L (e+1),c2,hi L e,c3]
  simp only [q1jy,q1id,q1ih,q1il,q1ip,Dt.eval]
  exact e1.trans e3
end
end Go.Proofs.Ytpgpbhjkgciggaa

namespace Go.Pel
open Go Go.Tx
def ptI (l:List T3) (i:Int):T3:=(l.find? fun p=>p.1 == i).getD (0,0,0,())
theorem q2rc {l:List T3} (h:FldOk l) {p:T3} (hp:p∈l):ptI l p.1=p:=by
  unfold ptI
  cases hf:l.find? fun q=>q.1 == p.1 with
  | none =>
    have:=List.find?_eq_none.1 hf p hp
    simp at this
  | some q =>
    have h1:=List.mem_of_find?_eq_some hf
    have h2:=List.find?_some hf
    rw [beq_iff_eq] at h2
    exact q2oe h h1 hp h2
def idAt (a:List T3) (t:Q2):Int:=((a[idxL t.1 t.2.1 a - 1]?).getD (0,0,0,())).2.2.1
def ptAt (l a:List T3) (t:Q2):T3:=ptI l (idAt a t)
def addM (o:List T3) (t:Q2) (i:Int):List T3:=if (o.getLast?.map fun y=>y.2.2.1)=some i then o else o ++ [(t.1,t.2.1,i,())]
theorem q2rd (o:List T3) (t:Q2) (i:Int):(addM o t i).length≤o.length+1:=by
  unfold addM;split
  · omega
  · rw [List.length_append];exact Nat.le_refl _
def ordM (p q:T3) (t:Q2):T3×T3:=if qld (ofP q) (ofP p) t.1 t.2.1=true then (q,p) else (p,q)
def q2re (p q:T3):Option Q2:=if p.2.2.1<q.2.2.1 then (mtP (p,q)).map fun m=>(m.1,m.2.1,()) else none
def bfM (m:Q2):Option Q2→Bool
  | none=>true
  | some u=>ltQ m u
def q2rf (l a b:List T3) (t:Q2) (u:Option Q2) (o:List T3):List T3 :=
  match q2re (ordM (ptAt l a t) (ptAt l b t) t).1 (ordM (ptAt l a t) (ptAt l b t) t).2 with
  | none=>addM o t (ordM (ptAt l a t) (ptAt l b t) t).1.1
  | some m=>if bfM m u=true then addM (addM o t (ordM (ptAt l a t) (ptAt l b t) t).1.1) m (ordM (ptAt l a t) (ptAt l b t) t).2.1 else addM o t (ordM (ptAt l a t) (ptAt l b t) t).1.1
theorem q2rg (l a b:List T3) (t:Q2) (u:Option Q2) (o:List T3):(q2rf l a b t u o).length≤o.length+2:=by
  have h1:=q2rd o t (ordM (ptAt l a t) (ptAt l b t) t).1.1
  unfold q2rf
  split
  · omega
  · next m _ =>
    have h2:=q2rd (addM o t (ordM (ptAt l a t) (ptAt l b t) t).1.1) m (ordM (ptAt l a t) (ptAt l b t) t).2.1
    split<;>omega
def mrgL (l a b:List T3):List Q2→List T3→List T3
  | [],o=>o
  | t :: r,o=>mrgL l a b r (q2rf l a b t r.head? o)
def toQ (x:T3):Q2:=(x.1,x.2.1,())
theorem q2ri (t:Q2) (x:T3):gtL t.1 t.2.1 x=ltQ t (toQ x):=by
  have h1:=q2ov t.1 t.2.1 x
  have h2:ltQ t (toQ x)=true↔t.1*x.2.1<x.1*t.2.1:=q2qr ..
  rw [Bool.eq_iff_iff,h1,h2]
structure MOk (l a b:List T3):Prop where
  fld:FldOk l
  chk:qh2 (ptsL l)=0
  ba:bdL a
  bb:bdL b
  ca:chkR none a=true
  cb:chkR none b=true
  la:a.length≤300
  lb:b.length≤300
  st:∃ x y,a[0]?=some x∧b[0]?=some y∧toQ x=toQ y
  ka:∀ x∈a,∃ p∈l,p.1=x.2.2.1
  kb:∀ x∈b,∃ p∈l,p.1=x.2.2.1
theorem MOk.swap {l a b:List T3} (h:MOk l a b):MOk l b a :=
  let ⟨x,y,h1,h2,h3⟩:=h.st
  ⟨h.fld,h.chk,h.bb,h.ba,h.cb,h.ca,h.lb,h.la,⟨y,x,h2,h1,h3.symm⟩,h.kb,h.ka⟩
theorem MOk.qa {l a b:List T3} (h:MOk l a b) {x:T3} (hx:x∈a):okQ (toQ x) :=
  ⟨(q2ow.1 ((q2oz h.ca).1 x hx)).1,(h.ba x hx).1,(h.ba x hx).2⟩
structure TOk (T:List Q2) (a b:List T3):Prop where
  pw:T.Pairwise fun x y=>ltQ x y=true
  ok:∀ t∈T,okQ t
  ma:∀ x∈a,toQ x∈T
  mb:∀ x∈b,toQ x∈T
  of:∀ t∈T,(∃ x∈a,t=toQ x) ∨ ∃ x∈b,t=toQ x
theorem TOk.swap {T:List Q2} {a b:List T3} (h:TOk T a b):TOk T b a:=⟨h.pw,h.ok,h.mb,h.ma,fun t ht=>(h.of t ht).symm⟩
def nxA (a:List T3) (t:Q2):Option Q2:=(a[idxL t.1 t.2.1 a]?).map toQ
theorem q2rj {a:List T3} {t y:Q2} (h:nxA a t=some y):ltQ t y=true∧∃ x∈a,y=toQ x:=by
  unfold nxA at h
  rw [Option.map_eq_some_iff] at h
  obtain ⟨x,hx,rfl⟩:=h
  exact ⟨by rw [← q2ri];exact q2p4 hx,x,List.mem_of_getElem? hx,rfl⟩
theorem q2rn {l a b:List T3} {T:List Q2} (_h:MOk l a b) (hT:TOk T a b) {pre r:List Q2} {t:Q2} (e:T=pre++t :: r) {m:Q2} (hm:okQ m) (hb:bfM m r.head?=true) {y:Q2} (hy:nxA a t=some y∨nxA b t=some y):ltQ m y=true:=by
  have hpw:=hT.pw
  rw [e,List.pairwise_append] at hpw
  obtain ⟨_,p2,p3⟩:=hpw
  obtain ⟨_,p5⟩:=List.pairwise_cons.1 p2
  obtain ⟨k,hyT⟩:ltQ t y=true∧y∈T:=by
    rcases hy with hy | hy
    · obtain ⟨k, x, hx, rfl⟩ := q2rj hy
      exact ⟨k,hT.ma x hx⟩
    · obtain ⟨k, x, hx, rfl⟩ := q2rj hy
      exact ⟨k,hT.mb x hx⟩
  have hyr:y∈r:=by
    rw [e] at hyT
    rcases List.mem_append.1 hyT with hu | hu
    · rw [q2qv (p3 _ hu t (List.mem_cons_self ..))] at k;cases k
    · rcases List.mem_cons.1 hu with rfl | hu
      · rw [q2qu] at k;cases k
      · exact hu
  cases r with
  | nil=>cases hyr
  | cons u r =>
    have hu:ltQ m u=true:=hb
    have ou:okQ u:=hT.ok u (by rw [e];simp)
    rcases List.mem_cons.1 hyr with rfl | hyr
    · exact hu
    · exact q2qt hm ou (hT.ok y hyT) hu ((List.pairwise_cons.1 p5).1 y hyr)
theorem q2ro {a:List T3} {t m:Q2} (oa:∀ x∈a,okQ (toQ x)) (ot:okQ t) (om:okQ m) (hlt:ltQ t m=true) (hn:∀ y,nxA a t=some y→ltQ m y=true):idxL m.1 m.2.1 a=idxL t.1 t.2.1 a:=by
  refine q2p1 (q2p2 ..) (fun j x hj hx=>?_) (fun x hx=>?_)
  · have := q2p3 hj hx
    rw [q2ri] at this ⊢
    cases c:ltQ m (toQ x) with
    | false=>rfl
    | true=>rw [q2qt ot om (oa x (List.mem_of_getElem? hx)) hlt c] at this;cases this
  · rw [q2ri]
    exact hn _ (by unfold nxA;rw [hx];rfl)
theorem q2rp {P Q p q:T3} {t m:Q2} (hi:p.1≠q.1) (h:ordM P Q t=(p,q)) (hl:qld (ofP q) (ofP p) m.1 m.2.1=true):ordM P Q m=(q,p):=by
  unfold ordM at h ⊢
  split at h
  · injection h with h1 h2
    subst h1 h2
    rw [q2o1 (p:=ofP P) (q:=ofP Q) (fun e=>hi e.symm),hl];rfl
  · injection h with h1 h2
    subst h1 h2
    rw [hl];rfl
theorem q2rq {P Q p q:T3} {t:Q2} (hi:p.1≠q.1) (h:ordM P Q t=(p,q)):qld (ofP p) (ofP q) t.1 t.2.1=true:=by
  unfold ordM at h
  split at h
  · next k =>
    injection h with h1 h2
    subst h1 h2
    exact k
  · next k =>
    injection h with h1 h2
    subst h1 h2
    rw [q2o1 (p:=ofP Q) (q:=ofP P) (fun e=>hi e.symm)]
    simpa using k
theorem q2rr {P Q p q:T3} {t:Q2} {l:List T3} (hP:P∈l) (hQ:Q∈l) (h:ordM P Q t=(p,q)):p∈l∧q∈l:=by
  unfold ordM at h
  split at h
  · injection h with h1 h2
    subst h1 h2
    exact ⟨hQ,hP⟩
  · injection h with h1 h2
    subst h1 h2
    exact ⟨hP,hQ⟩
theorem q2rs {l:List T3} (h:FldOk l) {P Q p q:T3} {t m:Q2} (hP:P∈l) (hQ:Q∈l) (ho:ordM P Q t=(p,q)) (hf:q2re p q=some m):p.1≠q.1∧okQ m∧ltQ t m=true∧ordM P Q m=(q,p)∧q2re q p=none:=by
  obtain ⟨hp,hq⟩:=q2rr hP hQ ho
  unfold q2re at hf
  split at hf
  · next hb =>
    rw [Option.map_eq_some_iff] at hf
    obtain ⟨x,hx,rfl⟩:=hf
    have hi:p.1≠q.1:=fun e=>by rw [q2oe h hp hq e] at hb;omega
    obtain ⟨_,hmo,g1,g2,_⟩:=q2np (x:=(p,q)) (h.ok p hp) (h.ok q hq) hx
    have o1:=(qe7 hmo).1
    have hbd:∀ {z:Int},z.natAbs≤4194304→i64B z=true:=fun {z} hz=>by
      unfold i64B;simp only [Bool.and_eq_true,decide_eq_true_eq];omega
    have hl:=q2rq hi ho
    have k1:=q2oj (h.ok p hp) (h.ok q hq) hb hx t.1 t.2.1
    rw [hl] at k1
    have k2:=q2oj (h.ok p hp) (h.ok q hq) hb hx x.1 x.2.1
    have k3:gtM x.1 x.2.1 x=false:=by
      cases c:gtM x.1 x.2.1 x with
      | false=>rfl
      | true=>have:=(q2mb ..).1 c;omega
    rw [k3] at k2
    refine ⟨hi,⟨hmo,hbd (z:=x.1) g1,hbd (z:=x.2.1) (by omega)⟩,(q2qr ..).2 ((q2mb ..).1 k1.symm),q2rp hi ho ?_,?_⟩
    · rw [q2o1 (p:=ofP p) (q:=ofP q) hi,k2];rfl
    · unfold q2re;rw [if_neg (by omega)]
  · cases hf
theorem q2rt {l a b:List T3} (h:MOk l a b) (t:Q2):∃ x,a[idxL t.1 t.2.1 a - 1]?=some x∧ptAt l a t∈l∧(ptAt l a t).1=x.2.2.1∧idAt a t=x.2.2.1:=by
  obtain ⟨x0,_,hx0,_⟩:=h.st
  have hl0:=(List.getElem?_eq_some_iff.1 hx0).1
  have hle:=q2p2 t.1 t.2.1 a
  obtain ⟨x,hx⟩:∃ x,a[idxL t.1 t.2.1 a - 1]?=some x:=⟨_,List.getElem?_eq_getElem (by omega)⟩
  obtain ⟨p,hp,hi⟩:=h.ka x (List.mem_of_getElem? hx)
  have e:idAt a t=x.2.2.1:=by unfold idAt;rw [hx];rfl
  have e2:ptAt l a t=p:=by unfold ptAt;rw [e,← hi];exact q2rc h.fld hp
  exact ⟨x,hx,by rw [e2];exact hp,by rw [e2];exact hi,e⟩
end Go.Pel

namespace Go.Pel
open Go Go.Tx
theorem q2ru {a:List T3} {t:Q2} {x0:T3} (h0:a[0]?=some x0) (h:ltQ t (toQ x0)=false):1≤idxL t.1 t.2.1 a:=by
  rcases Nat.eq_zero_or_pos (idxL t.1 t.2.1 a) with k | k
  · have hx : a[idxL t.1 t.2.1 a]? = some x0 := by rw [k]; exact h0
    have:=q2p4 hx
    rw [q2ri,h] at this;cases this
  · exact k
theorem q2rv {a:List T3} (hc:chkR none a=true) {x0 x:T3} (h0:a[0]?=some x0) (hx:x∈a):ltQ (toQ x) (toQ x0)=false:=by
  obtain ⟨j,hj⟩:=List.mem_iff_getElem?.1 hx
  obtain ⟨_,k2,_⟩:=q2oz hc
  rw [List.pairwise_iff_getElem] at k2
  rcases Nat.eq_zero_or_pos j with k | k
  · subst k
    rw [h0] at hj;injection hj with hj;subst hj
    exact q2qu _
  · obtain ⟨h1, rfl⟩ := List.getElem?_eq_some_iff.1 h0
    obtain ⟨h2,rfl⟩:=List.getElem?_eq_some_iff.1 hj
    exact q2qv ((q2qr ..).2 (k2 _ _ h1 h2 k))
theorem MOk.pos {l a b:List T3} (h:MOk l a b) {T:List Q2} (hT:TOk T a b) {t:Q2} (ht:t∈T):1≤idxL t.1 t.2.1 a:=by
  obtain ⟨x0,y0,h1,h2,h3⟩:=h.st
  refine q2ru h1 ?_
  rcases hT.of t ht with ⟨x,hx,rfl⟩ | ⟨x,hx,rfl⟩
  · exact q2rv h.ca h1 hx
  · rw [h3];exact q2rv h.cb h2 hx
def enO:Option Q2→Int×Int×Bool
  | none=>(0,0,false)
  | some v=>(v.1,v.2.1,true)
theorem q2rw {α:Type} {o:List α} (h:o ≠ []):∃ y,o[o.length - 1]?=some y∧o.getLast?=some y:=by
  have hp:=List.length_pos_iff.2 h
  refine ⟨_,List.getElem?_eq_getElem (by omega),?_⟩
  rw [List.getLast?_eq_getElem?,List.getElem?_eq_getElem (by omega)]
end Go.Pel
namespace Go.Proofs.Ytpgpbhjkgciggaa
open Go Go.Tx Go.Pel
theorem q2ry (x y:Q2):decide (cmpQ x.1 x.2.1 y.1 y.2.1<0)=ltQ x y:=rfl
theorem q2s2 {l:List T3} (h:FldOk l) {p q:T3} (hp:p∈l) (hq:q∈l) (v:Q2) (hv:q2re p q=some v):okQ v:=by
  unfold q2re at hv
  split at hv
  · rw [Option.map_eq_some_iff] at hv
    obtain ⟨m,hm,rfl⟩:=hv
    obtain ⟨_,g1,g2,g3,_⟩:=q2np (x:=(p,q)) (h.ok p hp) (h.ok q hq) hm
    have:=(qe7 g1).1
    exact ⟨g1,q2m8 (a:=m.1) (by omega),q2m8 (a:=m.2.1) (by omega)⟩
  · cases hv
end Go.Proofs.Ytpgpbhjkgciggaa

namespace Go.Pel
open Go Go.Tx
def q2s5 (a b:List T3):List Q2:=dedQ none (qsq ltQ ((a++b).map toQ))
theorem tOk {l a b:List T3} (h:MOk l a b):TOk (q2s5 a b) a b:=by
  have hg:∀ g∈(a++b).map toQ,okQ g:=fun g hg=>by
    obtain ⟨x,hx,rfl⟩:=List.mem_map.1 hg
    rcases List.mem_append.1 hx with hx | hx
    · exact h.qa hx
    · exact h.swap.qa hx
  have hp:=qst ltQ ((a++b).map toQ)
  have hg2:∀ g∈qsq ltQ ((a++b).map toQ),okQ g:=fun g k=>hg g (hp.mem_iff.1 k)
  obtain ⟨h1,_⟩:=q2qy none _ hg2 (q2qx hg) (fun y hy=>by cases hy)
  have hin:∀ x∈a++b,toQ x∈q2s5 a b:=fun x hx=>by
    rcases q2qp none _ (toQ x) (hp.mem_iff.2 (List.mem_map_of_mem hx)) with k | k
    · cases k
    · exact k
  refine ⟨h1,fun t ht=>hg2 t ((q2qq _ _).mem ht),fun x hx=>hin x (List.mem_append_left _ hx),fun x hx=>hin x (List.mem_append_right _ hx),fun t ht=>?_⟩
  obtain ⟨x,hx,e⟩:=List.mem_map.1 (hp.mem_iff.1 ((q2qq _ _).mem ht))
  rcases List.mem_append.1 hx with hx | hx
  · exact .inl ⟨x,hx,e.symm⟩
  · exact .inr ⟨x,hx,e.symm⟩
theorem q2s6 (a b:List T3):(q2s5 a b).length≤a.length+b.length:=by
  have h1:=q2qo none (qsq ltQ ((a++b).map toQ))
  have h2:=(qst ltQ ((a++b).map toQ)).length_eq
  unfold q2s5
  rw [h2,List.length_map,List.length_append] at h1
  exact h1
theorem q2s7 {l a b:List T3} (h:MOk l a b) {x0:T3} (h0:a[0]?=some x0):∃ r,q2s5 a b=toQ x0 :: r:=by
  have hT:=tOk h
  obtain ⟨x1,y1,h1,h2,h3⟩:=h.st
  rw [h0] at h1;injection h1 with h1;subst h1
  have hm:=hT.ma x0 (List.mem_of_getElem? h0)
  generalize q2s5 a b=T at hT hm ⊢
  cases T with
  | nil=>cases hm
  | cons t r =>
    refine ⟨r,?_⟩
    have hge:ltQ t (toQ x0)=false:=by
      rcases hT.of t (List.mem_cons_self ..) with ⟨x,hx,rfl⟩ | ⟨x,hx,rfl⟩
      · exact q2rv h.ca h0 hx
      · rw [h3];exact q2rv h.cb h2 hx
    rcases List.mem_cons.1 hm with e | hm
    · rw [e]
    · rw [(List.pairwise_cons.1 hT.pw).1 _ hm] at hge;cases hge
def hasC (l:List T3) (id:Int):Bool:=l.any fun p=>p.1 == id
theorem q2s8 {l:List T3} {id:Int}:hasC l id=true ↔ ∃ p∈l,p.1=id:=by
  unfold hasC
  simp only [List.any_eq_true,beq_iff_eq]
theorem q2s9 {l:List T3} {id:Int} (h:hasC l id=false) {p:T3} (hp:p∈l):p.1≠id:=fun e=>by
  rw [q2s8.2 ⟨p,hp,e⟩] at h;cases h
def q2sa (l a:List T3):Bool:=a.all fun x=>hasC l x.2.2.1
def q2sb (l a b:List T3):List T3×Int :=
  if qh2 (ptsL l)≠0 then ([],qh2 (ptsL l)) else if chkL a≠0∨chkL b≠0 then ([],8) else if (a[0]?).map toQ≠(b[0]?).map toQ then ([],2) else if (q2sa l a&&q2sa l b)=false then ([],6) else (mrgL l a b (q2s5 a b) [],0)
end Go.Pel
namespace Go.Proofs.Ytpgpbhjkgciggaa
open Go Go.Tx Go.Pel
theorem q2sd {l a b:List T3} (h0:qh2 (ptsL l)=0) (ba:bdL a) (bb:bdL b) (ha:chkL a=0) (hb:chkL b=0) (he:(a[0]?).map toQ=(b[0]?).map toQ) (hk:(q2sa l a&&q2sa l b)=true):MOk l a b:=by
  obtain ⟨a1,a2,a3⟩:=q2oy ha
  obtain ⟨b1,b2,b3⟩:=q2oy hb
  rw [Bool.and_eq_true] at hk
  have kn:∀ {c:List T3},q2sa l c=true→∀ x∈c,∃ p∈l,p.1=x.2.2.1:=fun {c} hc x hx=>q2s8.1 (List.all_eq_true.1 hc x hx)
  refine ⟨q2me h0,h0,ba,bb,a3,b3,a2,b2,?_,kn hk.1,kn hk.2⟩
  obtain ⟨x,hx⟩:∃ x,a[0]?=some x:=⟨_,List.getElem?_eq_getElem (by omega)⟩
  obtain ⟨y,hy⟩:∃ y,b[0]?=some y:=⟨_,List.getElem?_eq_getElem (by omega)⟩
  rw [hx,hy] at he
  exact ⟨x,y,hx,hy,Option.some.inj he⟩
theorem q2se (d:Nat) (x:T3) (id:Int):q1mk d ((x.1,x.2.1,x.2.2.1,()),(id,()),())=some (cmpZ x.1 id):=by
  have e:=q2l7 d x.1 id
  simp only [q1mk,q1m8,q1me,q1mi,Dt.eval,e]
theorem q2sf (a b:Int):(cmpZ a b=-1∧a<b)∨(cmpZ a b=0∧a=b)∨(cmpZ a b=1∧b<a):=by
  unfold cmpZ
  repeat' split
  all_goals omega
theorem q2sg (d:Nat) {l:List T3} (h:FldOk l) (id:Int):∀ (f lo hi:Nat),hi - lo<f→lo≤hi→hi≤l.length→(∀ j x,j<lo→l[j]?=some x→x.1<id)→(∀ j x,hi≤j→l[j]?=some x→¬ x.1<id) →
    ∃ (k:Nat) (b:Bool),k≤l.length∧(∀ j x,j<k→l[j]?=some x→x.1<id)∧(∀ j x,k≤j→l[j]?=some x→¬ x.1<id)∧(b=true ↔ ∃ x,l[k]?=some x∧x.1=id)∧iter (q1nq d) f (l,id,(l.length:Int),(lo:Int),(hi:Int))=some ((k:Int),b)
  | 0,lo,hi,h,_,_,_,_=>by omega
  | f + 1, lo, hi, hf, hle, hhi, h1, h2 => by
    have hlen:=h.len
    have hlt2:∀ {i j:Nat} {x y:T3},i<j→l[i]?=some x→l[j]?=some y→x.1<y.1:=fun {i j x y} hij hx hy=>by
      obtain ⟨hi,rfl⟩:=List.getElem?_eq_some_iff.1 hx
      obtain ⟨hj,rfl⟩:=List.getElem?_eq_some_iff.1 hy
      exact (List.pairwise_iff_getElem.1 h.inc) i j hi hj hij
    rw [iter]
    have ih:=q2sg d h id f
    revert ih
    generalize iter (q1nq d) f=self
    intro ih
    unfold q1nq
    simp only [q1n8,q1nc,q1ng,q1ni,q1nk,q1no,Dt.eval,q1ms]
    by_cases hlt:lo<hi
    · have wm:IntKind.wrap .i64 (shrI .u64 (IntKind.wrap .u64 (IntKind.wrap .i64 ((lo:Int)+(hi:Int)))) 1)=(((lo+hi) / 2:Nat):Int):=by
        rw [show IntKind.wrap .i64 ((lo:Int)+(hi:Int))=(lo:Int)+(hi:Int) from IntWalk.i64_in _ (by omega),show IntKind.wrap .u64 ((lo:Int)+(hi:Int))=((lo+hi:Nat):Int) by rw [IntKind.wrap_u64];omega]
        have:shrI .u64 ((lo+hi:Nat):Int) 1=(((lo+hi) / 2:Nat):Int):=by
          unfold shrI
          rw [show (2:Int) ^ (min (1:Int).toNat IntKind.u64.bits)=2 from by decide,Int.fdiv_eq_ediv_of_nonneg _ (by omega)];omega
        rw [this];exact IntWalk.i64_in _ (by omega)
      obtain ⟨m,hm⟩:∃ m,(lo+hi) / 2=m:=⟨_,rfl⟩
      rw [hm] at wm
      have hml:m<l.length:=by omega
      obtain ⟨x,hx⟩:∃ x,l[m]?=some x:=⟨_,List.getElem?_eq_getElem hml⟩
      have e1:=q2se d x id
      simp only [q2mq hlt,cond_true,wm,q2mp hml,q2mo hx,e1,Dt.eval]
      rcases q2sf x.1 id with ⟨c1,c2⟩ | ⟨c1,c2⟩ | ⟨c1,c2⟩
      · simp only [c1, show decide ((-1 : Int) < 0) = true from rfl, cond_true, Dt.eval, q2mn (show m < 1000000 by omega)]
        refine ih (m+1) hi (by omega) (by omega) (by omega) (fun j y hj hy=>?_) h2
        rcases (by omega:j<m∨j=m) with hjm | rfl
        · have:=hlt2 hjm hy hx;omega
        · rw [hx] at hy;injection hy with hy;subst hy;exact c2
      · simp only [c1, show decide ((0 : Int) < 0) = false from rfl, cond_false, Dt.eval]
        refine ih lo m (by omega) (by omega) (by omega) h1 (fun j y hj hy=>?_)
        rcases (by omega:m<j∨j=m) with hjm | rfl
        · have:=hlt2 hjm hx hy;omega
        · rw [hx] at hy;injection hy with hy;subst hy;omega
      · simp only [c1, show decide ((1 : Int) < 0) = false from rfl, cond_false, Dt.eval]
        refine ih lo m (by omega) (by omega) (by omega) h1 (fun j y hj hy=>?_)
        rcases (by omega:m<j∨j=m) with hjm | rfl
        · have:=hlt2 hjm hx hy;omega
        · rw [hx] at hy;injection hy with hy;subst hy;omega
    · obtain rfl : lo = hi := by omega
      simp only [q2mr hlt,cond_false]
      by_cases hll:lo<l.length
      · obtain ⟨x, hx⟩ : ∃ x, l[lo]? = some x := ⟨_, List.getElem?_eq_getElem hll⟩
        have e1:=q2se d x id
        simp only [q2mq hll,cond_true,q2mp hll,q2mo hx,e1,Dt.eval]
        refine ⟨lo,_,by omega,h1,h2,?_,rfl⟩
        rw [beq_iff_eq]
        constructor
        · intro k
          rcases q2sf x.1 id with ⟨c1,c2⟩ | ⟨c1,c2⟩ | ⟨c1,c2⟩
          · rw [c1] at k;cases k
          · exact ⟨x,hx,c2⟩
          · rw [c1] at k;cases k
        · rintro ⟨y, hy, k⟩
          rw [hx] at hy;injection hy with hy;subst hy
          exact qlg k
      · simp only [q2mr hll, cond_false]
        refine ⟨lo,false,by omega,h1,h2,?_,rfl⟩
        constructor
        · intro k;cases k
        · rintro ⟨y, hy, _⟩
          have:=(List.getElem?_eq_some_iff.1 hy).1;omega
theorem q2sh (d:Nat) (hd:5000≤d) {l:List T3} (h:FldOk l) (id:Int):∃ (k:Nat) (b:Bool),(b=true ↔ ∃ x,l[k]?=some x∧x.1=id)∧(b=false→hasC l id=false)∧q1nr d ((l,()),(id,()),(),())=some ((k:Int),b):=by
  have hlen:=h.len
  obtain ⟨k,b,h1,h2,h3,h4,h5⟩:=q2sg d h id d 0 l.length (by omega) (by omega) (Nat.le_refl _) (fun j x hj=>by omega) (fun j x hj hx=>by have:=(List.getElem?_eq_some_iff.1 hx).1;omega)
  refine ⟨k,b,h4,fun hb=>?_,?_⟩
  · cases hh : hasC l id with
    | false=>rfl
    | true =>
      obtain ⟨p,hp,rfl⟩:=q2s8.1 hh
      obtain ⟨j,hj⟩:=List.mem_iff_getElem?.1 hp
      subst hb
      rcases (by omega:j<k∨k≤j) with c | c
      · have:=h2 j p c hj;omega
      · rcases Nat.lt_or_eq_of_le c with c | rfl
        · have hkl := (List.getElem?_eq_some_iff.1 hj).1
          obtain ⟨x,hx⟩:∃ x,l[k]?=some x:=⟨_,List.getElem?_eq_getElem (by omega)⟩
          have:=h3 k x (Nat.le_refl _) hx
          have hin:=(List.pairwise_iff_getElem.1 h.inc) k j (by omega) hkl c
          obtain ⟨_,rfl⟩:=List.getElem?_eq_some_iff.1 hx
          obtain ⟨_,rfl⟩:=List.getElem?_eq_some_iff.1 hj
          omega
        · cases h4.2 ⟨p,hj,rfl⟩
  · simp only [q1nr, q1ms, q1mw, q1n0, q1n4, Dt.eval]
    exact h5
theorem q2si (d:Nat) (hd:5000≤d) {l:List T3} (h:FldOk l) {p:T3} (hp:p∈l):q1ol d ((l,()),(p.1,()),())=some (p.1,p.2.1,p.2.2.1,true):=by
  obtain ⟨k,b,h1,h2,e⟩:=q2sh d hd h p.1
  cases b with
  | false=>have:=q2s9 (h2 rfl) hp;exact absurd rfl this
  | true =>
    obtain ⟨x,hx,hi⟩:=h1.1 rfl
    obtain rfl:=q2oe h (List.mem_of_getElem? hx) hp hi
    have hk:=(List.getElem?_eq_some_iff.1 hx).1
    simp only [q1ol,q1nz,q1o5,q1o9,q1od,q1oh,q1oj,Dt.eval,e,Bool.not_true,cond_false,q2mp hk,cond_true,q2mo hx]
theorem q2sj (d:Nat) (hd:5000≤d) {l:List T3} (h:FldOk l) {id:Int} (hn:hasC l id=false):q1ol d ((l,()),(id,()),())=some (0,0,0,false):=by
  obtain ⟨k,b,h1,h2,e⟩:=q2sh d hd h id
  cases b with
  | false=>simp only [q1ol,q1nz,q1o5,q1o9,q1od,q1oh,q1oj,Dt.eval,e,Bool.not_false,cond_true]
  | true =>
    obtain ⟨x,hx,hi⟩:=h1.1 rfl
    exact absurd hi (q2s9 hn (List.mem_of_getElem? hx))
theorem q2sk (d:Nat) (t:Q2) (id:Int) {o:List T3} (ho:o.length≤50000):q160 d (((t.1,t.2.1,()),(id,()),()),(()),o)=some (addM o t id):=by
  have ha:apB o.length 1=true:=q2qz (by omega)
  unfold q160 q15y
  by_cases h:o=[]
  · subst h;rfl
  · have hp := List.length_pos_iff.2 h
    obtain ⟨y,h1,h2⟩:=q2rw h
    have w1:IntKind.wrap .i64 ((o.length:Int) - 1)=((o.length - 1:Nat):Int):=by rw [IntWalk.i64_in _ (by omega)];omega
    have c1:((o.length:Int) == 0)=false:=by rw [beq_eq_false_iff_ne];omega
    simp only [c1,cond_false,w1,q2mp (show o.length - 1<o.length by omega),cond_true,q2mo h1,ha]
    unfold addM
    rw [h2,Option.map_some]
    by_cases e:y.2.2.1=id
    · rw [if_pos (by rw [e])]
      simp only [show (y.2.2.1 == id)=true by rw [beq_iff_eq];exact e,Bool.not_true,cond_false]
    · rw [if_neg (fun k => by injection k with k; exact e k)]
      simp only [show (y.2.2.1 == id)=false by rw [beq_eq_false_iff_ne];exact e,Bool.not_false,cond_true]
theorem q2sl (d:Nat) {p q:T3} (hp:okP p) (hq:okP q) (hi:p.1≠q.1) {t:Q2} (ht:okQ t) (hl:qld (ofP q) (ofP p) t.1 t.2.1=false):q151 d ((p.1,p.2.1,p.2.2.1,()),(q.1,q.2.1,q.2.2.1,()),(t.1,t.2.1,()),())=some ((enO (q2re p q)).1,(enO (q2re p q)).2.1,(enO (q2re p q)).2.2,0):=by
  rw [q2pd d hp hq ht.2.1 ht.2.2 ht.1 hl,if_neg hi]
  unfold q2re
  by_cases hb:p.2.2.1<q.2.2.1
  · rw [if_pos hb, if_pos hb]
    unfold mtP
    simp only [show ¬ p.2.2.1=q.2.2.1 by omega,if_false,Option.map_some,enO]
  · rw [if_neg hb,if_neg hb];rfl
set_option maxHeartbeats 4000000 in
theorem q2sm (d:Nat) (hd:5000≤d) (self:(List Diii×List Diii×Int×Int×List Diii×List Dii×List Diii)→Option q1op) {l a b:List T3} (h:MOk l a b) {T:List Q2} (hT:∀ u∈T,okQ u) (hTl:T.length≤1000) {i:Nat} {t:Q2} (hi:T[i]?=some t) (pa:1≤idxL t.1 t.2.1 a) (pb:1≤idxL t.1 t.2.1 b) {o:List T3} (ho:o.length≤40000) :
    q1ta d self (a,b,(T.length:Int),(i:Int),l,T,o)=self (a,b,(T.length:Int),((i+1:Nat):Int),l,T,q2rf l a b t (T[i+1]?) o):=by
  have ht:=hT t (List.mem_of_getElem? hi)
  have hil:=(List.getElem?_eq_some_iff.1 hi).1
  obtain ⟨x,hx,hP,hPi,_⟩:=q2rt h t
  obtain ⟨y,hy,hQ,hQi,_⟩:=q2rt h.swap t
  obtain ⟨p,q,hpq⟩:∃ p q,ordM (ptAt l a t) (ptAt l b t) t=(p,q):=⟨_,_,rfl⟩
  have hstep:q2rf l a b t (T[i+1]?) o=match q2re p q with | none=>addM o t p.1 | some m=>if bfM m (T[i+1]?)=true then addM (addM o t p.1) m q.1 else addM o t p.1:=by unfold q2rf;rw [hpq] <;> rfl
  rw [hstep]
  generalize ptAt l a t=P at hpq hP hPi
  generalize ptAt l b t=Q at hpq hQ hQi
  obtain ⟨hp,hq⟩:=q2rr hP hQ hpq
  have e1:=q2pu d hd h.ba h.ca (by have:=h.la;omega) ht.2.1 ht.2.2 ht.1
  have e2:=q2pu d hd h.bb h.cb (by have:=h.lb;omega) ht.2.1 ht.2.2 ht.1
  rw [show ((idxL t.1 t.2.1 a:Nat):Int) - 1=((idxL t.1 t.2.1 a - 1:Nat):Int) by omega] at e1
  rw [show ((idxL t.1 t.2.1 b:Nat):Int) - 1=((idxL t.1 t.2.1 b - 1:Nat):Int) by omega] at e2
  have l1:=(List.getElem?_eq_some_iff.1 hx).1
  have l2:=(List.getElem?_eq_some_iff.1 hy).1
  have e3:=q2si d hd h.fld hP
  have e4:=q2si d hd h.fld hQ
  rw [hPi] at e3
  rw [hQi] at e4
  have oP:=h.fld.ok P hP
  have oQ:=h.fld.ok Q hQ
  have wi:=q2mn (show i<1000000 by omega)
  have a1:=q2sk d t p.1 (o:=o) (by omega)
  have al:=q2rd o t p.1
  have a2:=fun m=>q2sk d m q.1 (o:=addM o t p.1) (by omega)
  unfold q1ta
  simp only [q1ry,q1s2,q1s6,q1sa,q1se,Dt.eval,q1ot,q2mq hil,cond_true,q2mp hil,q2mo hi,e1,e2,q2mp l1,q2mp l2,q2mo hx,q2mo hy,e3,e4]
  by_cases hid:P.1=Q.1
  · obtain rfl := q2oe h.fld hP hQ hid
    have hpp:p=P∧q=P:=by
      unfold ordM at hpq
      rw [q2o0] at hpq
      injection hpq with h1 h2
      exact ⟨h1.symm,h2.symm⟩
    obtain ⟨e1,e2⟩:=hpp
    subst e1 e2
    have hf:q2re q q=none:=by unfold q2re;rw [if_neg (by omega)]
    rw [hf]
    have a1':q160 d (((t.1,t.2.1,()),(x.2.2.1,()),()),(()),o)=some (addM o t q.1):=by rw [← hPi];exact a1
    unfold q1sk
    simp only [← hPi,← hQi,beq_self_eq_true,cond_true,q1sg,q1si,q1ot,Dt.eval,a1,wi]
  · have hn1 : (x.2.2.1 == y.2.2.1) = false := by rw [beq_eq_false_iff_ne, ← hPi, ← hQi]; exact hid
    have hlp:p.1≠q.1:=by
      unfold ordM at hpq
      split at hpq<;>injection hpq with h1 h2<;>subst h1 h2
      · exact fun e=>hid e.symm
      · exact hid
    have hl:=q2rq hlp hpq
    have hl2:qld (ofP q) (ofP p) t.1 t.2.1=false:=by rw [q2o1 (p:=ofP p) (q:=ofP q) hlp,hl];rfl
    have eA:=q2n9 d oQ oP (fun e=>hid e.symm) ht.2.1 ht.2.2 ht.1
    have eF:=q2sl d (h.fld.ok p hp) (h.fld.ok q hq) hlp ht hl2
    have fin:∀ (n:Int),q1t7 d self (a,b,(i:Int),n,(i:Int),l,T,o,t.1,t.2.1,p.1,p.2.1,p.2.2.1,q.1,q.2.1,q.2.2.1)=self (a,b,n,((i+1:Nat):Int),l,T,match q2re p q with | none=>addM o t p.1 | some m=>if bfM m (T[i+1]?)=true then addM (addM o t p.1) m q.1 else addM o t p.1):=fun n=>by
      unfold q1t7 q1sk
      have hok:=q2s2 h.fld hp hq
      simp only [q1sv,q1sz,q1t3,q1t5,q1si,Dt.eval,q1ot,a1,eF,wi]
      cases hf:q2re p q with
      | none=>simp only [enO,cond_false,Dt.eval]
      | some m =>
        have om:=hok m hf
        simp only [enO,cond_true]
        by_cases hlast:i+1=T.length
        · have c1 : (((i + 1 : Nat) : Int) == (T.length : Int)) = true := by rw [beq_iff_eq]; omega
          have hb:T[i+1]?=none:=List.getElem?_eq_none (by omega)
          simp only [c1,cond_true,Dt.eval,a2 m,wi,hb,bfM,if_true]
        · have c1 : (((i + 1 : Nat) : Int) == (T.length : Int)) = false := by rw [beq_eq_false_iff_ne]; omega
          obtain ⟨u,hu⟩:∃ u,T[i+1]?=some u:=⟨_,List.getElem?_eq_getElem (by omega)⟩
          have ou:=hT u (List.mem_of_getElem? hu)
          have e5:q16u d ((m.1,m.2.1,()),(u.1,u.2.1,()),())=some (cmpQ m.1 m.2.1 u.1 u.2.1):=by
            rw [q2pc d _ _ _ _ om.2.1 om.2.2 ou.2.1 ou.2.2];unfold cmpR;rw [if_pos ⟨om.1,ou.1⟩]
          simp only [c1,cond_false,q2mp (show i+1<T.length by omega),cond_true,q2mo hu,e5,Dt.eval,q2ry,hu,bfM]
          cases ltQ m u with
          | true=>simp only [cond_true,Dt.eval,a2 m,wi,if_true]
          | false=>simp only [cond_false,Dt.eval,wi,Bool.false_eq_true,if_false]
    have eA':qpu d ((Q.1,Q.2.1,Q.2.2.1,()),(P.1,P.2.1,P.2.2.1,()),(t.1,t.2.1,()),())=some (qld (ofP Q) (ofP P) t.1 t.2.1,0):=eA
    have fin':=fin (T.length:Int)
    simp only [hPi,hQi] at eA'
    simp only [hn1,cond_false,q1sn,q1sr,q1st,q1ot,Dt.eval,eA']
    unfold ordM at hpq
    cases hc:qld (ofP Q) (ofP P) t.1 t.2.1 with
    | true =>
      rw [hc,if_pos rfl] at hpq
      injection hpq with h1 h2
      subst h1 h2
      simp only [cond_true,Dt.eval,← hPi,← hQi]
      exact fin'
    | false =>
      rw [hc,if_neg (by decide)] at hpq
      injection hpq with h1 h2
      subst h1 h2
      simp only [cond_false,← hPi,← hQi]
      exact fin'
theorem q2sn (d:Nat) (hd:5000≤d) {l a b:List T3} (h:MOk l a b) {T:List Q2} (hT:TOk T a b) (hTl:T.length≤1000):∀ (f i:Nat) (o:List T3),T.length - i<f→i≤T.length→o.length+2*(T.length - i)≤40000 →
    iter (q1ta d) f (a,b,(T.length:Int),(i:Int),l,T,o)=some (mrgL l a b (T.drop i) o,0)
  | 0,i,o,hf,_,_=>by omega
  | f + 1, i, o, hf, hle, ho => by
    show q1ta d (iter (q1ta d) f) (a,b,(T.length:Int),(i:Int),l,T,o)=_
    by_cases hlt:i<T.length
    · obtain ⟨t, ht⟩ : ∃ t, T[i]? = some t := ⟨_, List.getElem?_eq_getElem hlt⟩
      have hm:=List.mem_of_getElem? ht
      have hs:=q2rg l a b t (T[i+1]?) o
      rw [q2sm d hd _ h hT.ok hTl ht (h.pos hT hm) (h.swap.pos hT.swap hm) (by omega),q2sn d hd h hT hTl f (i+1) _ (by omega) (by omega) (by omega),q2ms ht]
      show _=some (mrgL l a b (T.drop (i+1)) (q2rf l a b t (T.drop (i+1)).head? o),0)
      rw [List.head?_drop]
    · unfold q1ta
      simp only [q1ry,q1t8,Dt.eval,q2mr hlt,cond_false]
      rw [List.drop_eq_nil_of_le (by omega)]
      rfl
end Go.Proofs.Ytpgpbhjkgciggaa

namespace Go.Proofs.Ytpgpbhjkgciggaa
open Go Go.Tx Go.Pel
theorem q2so (d:Nat) (l:List T3):qqc d ((l,()),())=some (qh2 (ptsL l)):=qqd _ _ rfl
theorem q2sq {l:List T3} (h:FldOk l) (d:Nat) (hd:5000≤d) (id:Int):∃ a b c,q1ol d ((l,()),(id,()),())=some (a,b,c,hasC l id):=by
  cases hh:hasC l id with
  | false=>exact ⟨0,0,0,q2sj d hd h hh⟩
  | true =>
    obtain ⟨p,hp,rfl⟩:=q2s8.1 hh
    exact ⟨_,_,_,q2si d hd h hp⟩
theorem q2sr (d:Nat) (hd:5000≤d) {l:List T3} (h:FldOk l) (self1:(List Diii×List Diii×Int×Int×List Diii×List qkb)→Option q1op) (a b X:List T3) (n i:Nat) (hi:i<1000) (LL:List qkb) (hX:X.length≤1000):∀ (f j:Nat),X.length - j<f→j≤X.length →
    iter (q1qv d self1) f (a,b,(n:Int),(i:Int),X,(X.length:Int),(j:Int),l,LL)=(if q2sa l (X.drop j)=true then self1 (a,b,(n:Int),((i+1:Nat):Int),l,LL) else some ([],6))
  | 0,j,hf,_=>by omega
  | f + 1, j, hf, hle => by
    have ih:=q2sr d hd h self1 a b X n i hi LL hX f (j+1)
    rw [iter]
    revert ih
    generalize iter (q1qv d self1) f=self
    intro ih
    unfold q1qv
    by_cases hlt:j<X.length
    · obtain ⟨x, hx⟩ : ∃ x, X[j]? = some x := ⟨_, List.getElem?_eq_getElem hlt⟩
      obtain ⟨u,v,w,e⟩:=q2sq h d hd x.2.2.1
      have wj:=q2mn (show j<1000000 by omega)
      have ih:=ih (by omega) (by omega)
      simp only [q1qb,q1qf,q1qj,q1qn,q1qp,q1qr,Dt.eval,q1ot,q2mq hlt,cond_true,q2mp hlt,q2mo hx,e,wj]
      rw [q2ms hx,show q2sa l (x :: X.drop (j+1))=(hasC l x.2.2.1&&q2sa l (X.drop (j+1))) from rfl]
      cases hasC l x.2.2.1 with
      | true =>
        simp only [Bool.not_true,cond_false,Bool.true_and]
        exact ih
      | false=>simp only [Bool.not_false,cond_true,Bool.false_and,Bool.false_eq_true,if_false]
    · have wi := q2mn (show i < 1000000 by omega)
      simp only [q1qb,q1qt,Dt.eval,q2mr hlt,cond_false,wi]
      rw [List.drop_eq_nil_of_le (by omega)]
      rfl
theorem q2ss (d:Nat) {G:List Q2} (h:∀ g∈G,okQ g) (hl:G.length≤1000000):qsr (τ:=Rii) (q16u d) G=some (qsq ltQ G) :=
  q2m7 (τ:=Rii) (S:=okQ) (lt:=ltQ) (c:=fun x y=>cmpQ x.1 x.2.1 y.1 y.2.1) h
    (fun x y hx hy=>by
      have e:=q2pc d x.1 x.2.1 y.1 y.2.1 hx.2.1 hx.2.2 hy.2.1 hy.2.2
      unfold cmpR at e
      rw [if_pos ⟨hx.1,hy.1⟩] at e
      exact e)
    (fun _ _=>rfl) q2qu (fun x y z hx hy hz h k=>q2qt hx hy hz h k)
    (fun x y z hx hy hz h k=>by
      cases c:ltQ x z with
      | false=>rfl
      | true =>
        cases c1:ltQ z y with
        | true=>rw [q2qt hx hz hy c c1] at h;cases h
        | false =>
          obtain rfl:=q2qw hy hz k c1
          rw [h] at c;cases c)
    (fun x y hx hy h k=>by
      obtain rfl:=q2qw hx hy h k
      show (x.1 == x.1&&(x.2.1 == x.2.1&&true))=true
      simp only [beq_self_eq_true,Bool.and_self]) hl
theorem q2st (d:Nat) (hd:5000≤d) {l a b:List T3} (h:MOk l a b):∀ (f i:Nat),(a++b).length - i<f→i≤(a++b).length →
    iter (q1tb d) f (a,b,((a++b).length:Int),(i:Int),l,((a++b).take i).map toQ,a++b)=some (mrgL l a b (q2s5 a b) [],0)
  | 0,i,hf,_=>by omega
  | f + 1, i, hf, hle => by
    have la:=h.la
    have lb:=h.lb
    have hlen:(a++b).length≤600:=by rw [List.length_append];omega
    have hg:∀ g∈(a++b).map toQ,okQ g:=fun g hg=>by
      obtain ⟨x,hx,rfl⟩:=List.mem_map.1 hg
      rcases List.mem_append.1 hx with hx | hx
      · exact h.qa hx
      · exact h.swap.qa hx
    have hT:=tOk h
    have hTl:=q2s6 a b
    have e3:=q2sn d hd h hT (by omega) d 0 [] (by omega) (by omega) (by simp only [List.length_nil];omega)
    have ih:=q2st d hd h f (i+1)
    rw [iter]
    revert ih
    generalize iter (q1tb d) f=self
    intro ih
    unfold q1tb
    have e1:=q2ss d hg (by rw [List.length_map];omega)
    have e2:q1h7 d ((),(),qsq ltQ ((a++b).map toQ))=some (q2s5 a b):=q2r3 d hd (by rw [(qst _ _).length_eq,List.length_map];omega)
    generalize hc:a++b=c at *
    by_cases hlt:i<c.length
    · obtain ⟨x, hx⟩ : ∃ x, c[i]? = some x := ⟨_, List.getElem?_eq_getElem hlt⟩
      have wi:=q2mn (show i<1000000 by omega)
      have ap:apB (List.map toQ (List.take i c)).length 1=true:=q2qz (by rw [List.length_map,List.length_take];omega)
      have ht:List.map toQ (List.take (i+1) c)=List.map toQ (List.take i c) ++ [(x.1,x.2.1,())]:=by
        rw [List.take_add_one,hx,List.map_append];rfl
      have ih:=ih (by omega) (by omega)
      rw [ht] at ih
      simp only [q1r6,q1ra,q1rc,q1re,Dt.eval,q2mq hlt,cond_true,q2mp hlt,q2mo hx,List.length_cons,List.length_nil,Nat.zero_add,ap,wi]
      exact ih
    · have hi : i = c.length := by omega
      subst hi
      rw [List.take_length]
      simp only [q1r6,q1rg,q1ri,q1rm,q1rq,q1ru,q1ot,Dt.eval,q2mr hlt,cond_false,e1,e2]
      exact e3
theorem q2su:tmax 0 0=0∧tmax 0 8=8∧tmax 8 0=8∧tmax 8 8=8:=by decide
theorem q2sv (a b:List T3):tmax (chkL a) (chkL b)=if chkL a≠0∨chkL b≠0 then 8 else 0:=by
  obtain ⟨t1,t2,t3,t4⟩:=q2su
  rcases q2pw a with h1 | h1<;>rcases q2pw b with h2 | h2<;>rw [h1,h2]
  · rw [t1];rfl
  · rw [t2];rfl
  · rw [t3];rfl
  · rw [t4];rfl
theorem q2sw {a b:List T3} {x y:T3} (hx:a[0]?=some x) (hy:b[0]?=some y):(x.1 == y.1&&(x.2.1 == y.2.1&&true))=decide ((a[0]?).map toQ=(b[0]?).map toQ):=by
  rw [hx,hy,show (x.1 == y.1&&(x.2.1 == y.2.1&&true))=decide (toQ x=toQ y) from q2r0 (toQ x) (toQ y)]
  simp only [Option.map_some,Option.some.injEq]
set_option maxHeartbeats 4000000 in
theorem q2sx (d:Nat) (hd:5000≤d) {l a b:List T3} (ba:bdL a) (bb:bdL b) (la:a.length≤1000) (lb:b.length≤1000):q1td d ((l,()),(a,()),(b,()),())=some (q2sb l a b):=by
  have e1:=q2so d l
  have e2:=q2pp d hd ba la
  have e3:=q2pp d hd bb lb
  unfold q2sb
  simp only [q1td,q1ot,q1oz,q1p3,q1p7,q1pb,q1pf,q1pj,q1pl,q1pp,q1pr,q1pv,Dt.eval,e1]
  by_cases h0:qh2 (ptsL l)=0
  · have c0 : (qh2 (ptsL l) != 0) = false := by rw [h0]; rfl
    rw [if_neg (by simpa using h0)]
    simp only [c0,cond_false,e2,e3,Dt.eval,q2sv]
    by_cases hc:chkL a≠0∨chkL b≠0
    · rw [if_pos hc, if_pos hc]
      simp only [show ((8:Int) != 0)=true from rfl,cond_true,Dt.eval]
    · rw [if_neg hc, if_neg hc]
      have ha:chkL a=0:=by
        rcases q2pw a with h | h
        · exact h
        · exact absurd (.inl (by rw [h];decide)) hc
      have hb:chkL b=0:=by
        rcases q2pw b with h | h
        · exact h
        · exact absurd (.inr (by rw [h];decide)) hc
      obtain ⟨a1,a2,a3⟩:=q2oy ha
      obtain ⟨b1,b2,b3⟩:=q2oy hb
      obtain ⟨x,hx⟩:∃ x,a[0]?=some x:=⟨_,List.getElem?_eq_getElem (by omega)⟩
      obtain ⟨y,hy⟩:∃ y,b[0]?=some y:=⟨_,List.getElem?_eq_getElem (by omega)⟩
      have ex:elt ziii a (0:Int).toNat=x:=q2mo (k:=0) hx
      have ey:elt ziii b (0:Int).toNat=y:=q2mo (k:=0) hy
      have ia:inB (0:Int) a.length=true:=q2mp (k:=0) (by omega)
      have ib:inB (0:Int) b.length=true:=q2mp (k:=0) (by omega)
      simp only [show ((0:Int) != 0)=false from rfl,cond_false,ia,ib,cond_true,ex,ey,q2sw hx hy,Dt.eval]
      by_cases hf:(a[0]?).map toQ=(b[0]?).map toQ
      · rw [if_neg (show ¬ (a[0]?).map toQ ≠ (b[0]?).map toQ from fun k => k hf)]
        have hfld:=q2me h0
        have hL1:∀ i,iter (q1tc d) (i+1)=q1tc d (iter (q1tc d) i):=fun i=>rfl
        have q1:∀ self,q1tc d self (a,b,(2:Int),(0:Int),l,[(a,()),(b,())])=if q2sa l a=true then self (a,b,(2:Int),(1:Int),l,[(a,()),(b,())]) else some ([],6):=fun self=>by
          have:=q2sr d hd hfld self a b a 2 0 (by omega) [(a,()),(b,())] la d 0 (by omega) (by omega)
          unfold q1tc
          simp only [q1pz,q1q3,q1q7,Dt.eval,show decide ((0:Int)<2)=true from rfl,cond_true,show inB (0:Int) [(a,()),(b,())].length=true from rfl,show (elt qkc [(a,()),(b,())] (0:Int).toNat).1=a from rfl]
          exact this
        have q2:∀ self,q1tc d self (a,b,(2:Int),(1:Int),l,[(a,()),(b,())])=if q2sa l b=true then self (a,b,(2:Int),(2:Int),l,[(a,()),(b,())]) else some ([],6):=fun self=>by
          have:=q2sr d hd hfld self a b b 2 1 (by omega) [(a,()),(b,())] lb d 0 (by omega) (by omega)
          unfold q1tc
          simp only [q1pz,q1q3,q1q7,Dt.eval,show decide ((1:Int)<2)=true from rfl,cond_true,show inB (1:Int) [(a,()),(b,())].length=true from rfl,show (elt qkc [(a,()),(b,())] (1:Int).toNat).1=b from rfl]
          exact this
        have q3:(q2sa l a&&q2sa l b)=true→∀ self,q1tc d self (a,b,(2:Int),(2:Int),l,[(a,()),(b,())])=some (mrgL l a b (q2s5 a b) [],0):=fun hk self=>by
          have hM:=q2sd h0 ba bb ha hb hf hk
          have ec:=q2rb d la lb (by omega)
          have e4:=q2st d hd hM d 0 (by rw [List.length_append];omega) (by omega)
          unfold q1tc
          simp only [q1pz,q1qy,q1r2,q1ot,Dt.eval,show decide ((2:Int)<2)=false from rfl,cond_false]
          rw [ec]
          simp only [Dt.eval]
          exact e4
        simp only [decide_eq_true hf,Bool.not_true,cond_false,Dt.eval]
        generalize q1tc d=L1 at hL1 q1 q2 q3 ⊢
        obtain ⟨k,hk⟩:∃ k,d=k+3:=⟨d - 3,by omega⟩
        show iter L1 d (a,b,(2:Int),(0:Int),l,[(a,()),(b,())])=_
        rw [show iter L1 d (a,b,(2:Int),(0:Int),l,[(a,()),(b,())])=iter L1 (k+3) (a,b,(2:Int),(0:Int),l,[(a,()),(b,())]) from by rw [← hk],hL1,q1,hL1,q2,hL1]
        cases k1:q2sa l a with
        | false=>rfl
        | true =>
          cases k2:q2sa l b with
          | false=>rfl
          | true =>
            rw [q3 (by rw [k1,k2];rfl)]
            rfl
      · rw [if_pos (show (a[0]?).map toQ ≠ (b[0]?).map toQ from hf)]
        simp only [decide_eq_false hf,Bool.not_false,cond_true,Dt.eval]
  · have c0 : (qh2 (ptsL l) != 0) = true := by simpa using h0
    rw [if_pos h0]
    simp only [c0,cond_true,Dt.eval]
end Go.Proofs.Ytpgpbhjkgciggaa

namespace Go.Proofs.Ytpgpbhjkgciggaa
open Go.ChangeShapes Go.WideShapes Go.ChangeAt Go.RowKit Go.Pel Go.Deep
section
variable {H:Type} {enc:TypeId×Value→H} {w:World} {base:Nat} {spare:Nat→Bool} {held:Bool}
end
end Go.Proofs.Ytpgpbhjkgciggaa
