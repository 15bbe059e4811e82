/- Walks of the references; the orders agree; examples. -/
import Derived.Test.YtpfhgnccpiildaaGreatGl
set_option linter.unusedSimpArgs false
set_option linter.unusedVariables false
namespace Go.Pel
open Go Go.Tx
theorem q41n {X D:Int} (hX:X.natAbs≤9223372036854775807) (h1:1≤D) (h2:D≤9223372036854775807):(red X D).2.2=0:=by
  unfold red
  have e:=q3sr X h1
  have g1:1≤Nat.gcd X.natAbs D.natAbs:=Nat.gcd_pos_of_pos_right _ (by omega)
  have a1:(X / (Nat.gcd X.natAbs D.natAbs:Nat)).natAbs≤X.natAbs:=by
    obtain ⟨k1,_⟩:=e.gcd h1
    have:=congrArg Int.natAbs k1
    rw [Int.natAbs_mul,Int.natAbs_natCast] at this
    generalize Nat.gcd X.natAbs D.natAbs=g at *
    generalize (X / (g:Int)).natAbs=u at *
    rw [this]
    exact Nat.le_mul_of_pos_right u g1
  have a2:(D / (Nat.gcd X.natAbs D.natAbs:Nat)).natAbs≤D.natAbs:=by
    obtain ⟨_,k1⟩:=e.gcd h1
    have:=congrArg Int.natAbs k1
    rw [Int.natAbs_mul,Int.natAbs_natCast] at this
    generalize Nat.gcd X.natAbs D.natAbs=g at *
    generalize (D / (g:Int)).natAbs=u at *
    rw [this]
    exact Nat.le_mul_of_pos_right u g1
  rw [q3ss (by omega) (by omega)]
theorem q41o (a b c d:Int):a*b*(c*d)=a*c*(b*d):=by rw [Int.mul_assoc,Int.mul_assoc,Int.mul_left_comm b c d]
theorem q41p {X D Y E:Int} (hD:1≤D) (hE:1≤E) (h1:(red X D).2.2=0) (h2:(red Y E).2.2=0):((red X D).1*(red Y E).2.1≤(red Y E).1*(red X D).2.1↔X*E≤Y*D):=by
  obtain ⟨c1,e1,_,_⟩:=q3sv hD h1
  obtain ⟨c2,e2,_,_⟩:=q3sv hE h2
  have p1:=(qd2 c1).1
  have p2:=(qd2 c2).1
  generalize (red X D).1=a at *
  generalize (red X D).2.1=b at *
  generalize (red Y E).1=c at *
  generalize (red Y E).2.1=d at *
  have k1:a*d*(D*E)=X*E*(b*d):=by
    rw [show a*d*(D*E)=a*D*(d*E) by rw [q41o],← e1,show X*b*(d*E)=X*E*(b*d) by rw [Int.mul_comm d E,q41o]]
  have k2:c*b*(D*E)=Y*D*(b*d):=by
    rw [show c*b*(D*E)=c*E*(b*D) by rw [Int.mul_comm D E,q41o],← e2,show Y*d*(b*D)=Y*D*(b*d) by rw [Int.mul_comm b D,q41o,Int.mul_comm d b]]
  have q1:0<D*E:=Int.mul_pos (by omega) (by omega)
  have q2:0<b*d:=Int.mul_pos (by omega) (by omega)
  constructor
  · intro h
    have:=Int.mul_le_mul_of_nonneg_right h (Int.le_of_lt q1)
    rw [k1,k2] at this
    exact Int.le_of_mul_le_mul_right this q2
  · intro h
    have:=Int.mul_le_mul_of_nonneg_right h (Int.le_of_lt q2)
    rw [← k1,← k2] at this
    exact Int.le_of_mul_le_mul_right this q1
end Go.Pel
namespace Go.Proofs.YtpfhgnccpiildaaGreat
open Go Go.Tx Go.Pel
theorem q41q {X Y D:Int} (hD:1≤D) (h1:(red X D).2.2=0) (h2:(red Y D).2.2=0):subV (red X D).1 (red X D).2.1 (red Y D).1 (red Y D).2.1=red (X - Y) D:=by
  obtain ⟨c1,e1,_,_⟩:=q3sv hD h1
  obtain ⟨c2,e2,_,_⟩:=q3sv hD h2
  have p1:=(qd2 c1).1
  have p2:=(qd2 c2).1
  unfold subV
  rw [if_pos ⟨c1,c2⟩]
  generalize (red X D).1=a at *
  generalize (red X D).2.1=b at *
  generalize (red Y D).1=c at *
  generalize (red Y D).2.1=d at *
  have q2:0<b*d:=Int.mul_pos (by omega) (by omega)
  refine q3vr (by omega) hD ?_
  rw [Int.sub_mul,Int.sub_mul]
  have k1:a*d*D=X*(b*d):=by rw [Int.mul_right_comm,← e1,Int.mul_assoc]
  have k2:c*b*D=Y*(b*d):=by rw [Int.mul_right_comm,← e2,Int.mul_assoc,Int.mul_comm d b]
  rw [k1,k2]
def fpl (p:T3) (n dd:Int):Int:=p.2.1*dd+p.2.2.1*n
def Sp (l:List T3) (n dd:Int):Int:=fpl (ldT l n dd) n dd - fpl (lasT l n dd) n dd
theorem q41r {p:T3} (hp:okP p) {n dd:Int} (h1:1≤dd) (h2:dd≤4194304) (hn:n.natAbs≤2199023255552):(fpl p n dd).natAbs≤2305847407260205056+4398046511104:=by
  have:=q3pk hp
  have m1:(p.2.1*dd).natAbs≤1048576*4194304:=by rw [Int.natAbs_mul];exact Nat.mul_le_mul (by omega) (by omega)
  have m2:(p.2.2.1*n).natAbs≤1048576*2199023255552:=by rw [Int.natAbs_mul];exact Nat.mul_le_mul (by omega) (by omega)
  unfold fpl;omega
theorem q41s {p:T3} (hp:okP p) {n dd:Int} (hr:qcv n dd=0):atQ p n dd=red (fpl p n dd) dd:=by
  unfold atQ;rw [if_pos ⟨show qd9 p.1 p.2.1 p.2.2.1=0 from hp,hr⟩];rfl
theorem q41t {p q:T3} (hp:okP p) (hq:okP q) {n dd:Int} (hr:qcv n dd=0) (h2:dd≤4194304) (hn:n.natAbs≤2199023255552):apV p q n dd=red (fpl p n dd - fpl q n dd) dd∧(apV p q n dd).2.2=0:=by
  have h1:=(qd2 hr).1
  have b1:=q41r hp h1 h2 hn
  have b2:=q41r hq h1 h2 hn
  have f1:(red (fpl p n dd) dd).2.2=0:=q41n (by omega) h1 (by omega)
  have f2:(red (fpl q n dd) dd).2.2=0:=q41n (by omega) h1 (by omega)
  have f3:(red (fpl p n dd - fpl q n dd) dd).2.2=0:=q41n (by omega) h1 (by omega)
  have e:apV p q n dd=red (fpl p n dd - fpl q n dd) dd:=by
    unfold apV
    rw [q41s hp hr,q41s hq hr,if_neg (by simpa using f1),if_neg (by simpa using f2)]
    exact q41q h1 f1 f2
  exact ⟨e,by rw [e];exact f3⟩
theorem q41u {l:List T3} (hl:l ≠ []) (h:FldOk l) (h0:qfx (ptsL l)=0) {n dd:Int} (hr:qcv n dd=0) (h2:dd≤4194304) (hn:n.natAbs≤2199023255552):spV l n dd=red (Sp l n dd) dd∧(red (Sp l n dd) dd).2.2=0:=by
  unfold spV
  rw [if_neg (by simpa using q3wx hl h h0 hr)]
  obtain ⟨e1,e2⟩:=q41t (h.ok _ (q3sa hl n dd).1) (h.ok _ (q3w8 hl n dd).1) hr h2 hn
  refine ⟨e1,?_⟩
  rw [e1] at e2
  exact e2
theorem Lead.far {l:List T3} {n dd:Int} {p q:T3} (hp:Lead l n dd p) (hq:q∈l):fpl q n dd≤fpl p n dd:=by
  have:=hp.2 q hq
  refine Classical.byContradiction fun c=>?_
  rw [q3ri.2 (.inl ?_)] at this
  · cases this
  · show 0 < (q.2.1 - p.2.1) * dd + (q.2.2.1 - p.2.2.1) * n
    unfold fpl at c
    rw [Int.sub_mul,Int.sub_mul];omega
theorem Last.near {l:List T3} {n dd:Int} {p q:T3} (hp:Last l n dd p) (hq:q∈l):fpl p n dd≤fpl q n dd:=by
  have:=hp.2 q hq
  refine Classical.byContradiction fun c=>?_
  rw [q3ri.2 (.inl ?_)] at this
  · cases this
  · show 0 < (p.2.1 - q.2.1) * dd + (p.2.2.1 - q.2.2.1) * n
    unfold fpl at c
    rw [Int.sub_mul,Int.sub_mul];omega
theorem q41v {l:List T3} (hl:l ≠ []) (n dd:Int):0≤Sp l n dd:=by
  have:=Lead.far (q3sa hl n dd) (q3w8 hl n dd).1
  unfold Sp;omega
theorem q41w (p q:T3) (n dd n' dd':Int):(fpl p n' dd' - fpl q n' dd')*dd=(fpl p n dd - fpl q n dd)*dd'+(p.2.2.1 - q.2.2.1)*(n'*dd - n*dd'):=by
  unfold fpl
  have k1:=Int.mul_right_comm p.2.1 dd' dd
  have k2:=Int.mul_right_comm q.2.1 dd' dd
  have e1:p.2.2.1*n'*dd=p.2.2.1*(n'*dd):=Int.mul_assoc _ _ _
  have e2:q.2.2.1*n'*dd=q.2.2.1*(n'*dd):=Int.mul_assoc _ _ _
  have e3:p.2.2.1*n*dd'=p.2.2.1*(n*dd'):=Int.mul_assoc _ _ _
  have e4:q.2.2.1*n*dd'=q.2.2.1*(n*dd'):=Int.mul_assoc _ _ _
  rw [Int.sub_mul,Int.sub_mul,Int.add_mul,Int.add_mul,Int.add_mul,Int.add_mul,Int.sub_mul,Int.mul_sub,Int.mul_sub,k1,k2,e1,e2,e3,e4]
  omega
theorem q41x {l:List T3} (hl:l ≠ []) {n dd n' dd':Int} (hd:1≤dd):Sp l n dd*dd'+slV l n dd*(n'*dd - n*dd')≤Sp l n' dd'*dd:=by
  have h1:=Lead.far (q3sa hl n' dd') (q3sa hl n dd).1
  have h2:=(q3w8 hl n' dd').near (q3w8 hl n dd).1
  have h3:=q41w (ldT l n dd) (lasT l n dd) n dd n' dd'
  unfold slV
  have h4:(fpl (ldT l n dd) n' dd' - fpl (lasT l n dd) n' dd')*dd≤Sp l n' dd'*dd:=Int.mul_le_mul_of_nonneg_right (by unfold Sp;omega) (by omega)
  rw [h3] at h4
  exact h4
theorem q41y {l:List T3} (hl:l ≠ []) {n dd n' dd':Int} (hd:1≤dd) (hle:leQ n dd n' dd') (hs:0≤slV l n dd):Sp l n dd*dd'≤Sp l n' dd'*dd:=by
  have:=q41x (l:=l) hl (n:=n) (dd:=dd) (n':=n') (dd':=dd') hd
  have k:0≤slV l n dd*(n'*dd - n*dd'):=Int.mul_nonneg hs (by unfold leQ at hle;omega)
  omega
def NoB (l:List T3) (n dd n' dd':Int):Prop:=∀ m∈allM l,gtM n dd m=true→¬ m.1*dd'<n'*m.2.1
theorem q41z {l:List T3} (h:FldOk l) {p r:T3} (hp:p∈l) (hr:r∈l) {n dd n' dd':Int} (hd:1≤dd) (hd':1≤dd') (hle:leQ n dd n' dd') (hno:NoB l n dd n' dd') (hle1:leads (ofP r) (ofP p) n dd=false):fpl r n' dd'≤fpl p n' dd':=by
  have hfar:fpl r n dd≤fpl p n dd:=by
    refine Classical.byContradiction fun c=>?_
    rw [q3ri.2 (.inl ?_)] at hle1
    · cases hle1
    · show 0 < (r.2.1 - p.2.1) * dd + (r.2.2.1 - p.2.2.1) * n
      unfold fpl at c
      rw [Int.sub_mul,Int.sub_mul];omega
  by_cases hb:p.2.2.1<r.2.2.1
  · by_cases hi : p = r
    · rw [hi];exact Int.le_refl _
    have hne:p.1≠r.1:=fun e=>hi (q3s9 h hp hr e)
    obtain ⟨m,hm⟩:=q3sc (p:=p) (q:=r) (by omega)
    obtain ⟨m',hm',e1,e2⟩:=q414 h hp hr hne hm
    have hl2:leads (ofP p) (ofP r) n dd=true:=by
      rw [q3rw (p:=ofP r) (q:=ofP p) (fun e=>hne (by exact e.symm)),hle1];rfl
    rw [q3se (h.ok p hp) (h.ok r hr) hb hm,← q415 e1 e2] at hl2
    have hn:=hno m' hm' hl2
    obtain ⟨_,hok,_,_,_,_,heq⟩:=q3rk (x:=(p,r)) (h.ok p hp) (h.ok r hr) hm
    have hm0:1≤m.2.1:=(qd2 hok).1
    rw [e1,e2] at hn
    have heq':(p.2.1 - r.2.1)*m.2.1+(p.2.2.1 - r.2.2.1)*m.1=0:=heq
    have k:0≤(r.2.2.1 - p.2.2.1)*(m.1*dd' - n'*m.2.1):=Int.mul_nonneg (by omega) (by omega)
    have k2:(fpl p n' dd' - fpl r n' dd')*m.2.1=((p.2.1 - r.2.1)*m.2.1+(p.2.2.1 - r.2.2.1)*m.1)*dd'+(r.2.2.1 - p.2.2.1)*(m.1*dd' - n'*m.2.1):=by
      have:=q41w p r m.1 m.2.1 n' dd'
      rw [this,show fpl p m.1 m.2.1 - fpl r m.1 m.2.1=(p.2.1 - r.2.1)*m.2.1+(p.2.2.1 - r.2.2.1)*m.1 by unfold fpl;rw [Int.sub_mul,Int.sub_mul];omega]
      congr 1
      rw [show (r.2.2.1 - p.2.2.1)=-(p.2.2.1 - r.2.2.1) by omega,Int.neg_mul,← Int.mul_neg]
      congr 1;omega
    rw [heq',Int.zero_mul,Int.zero_add] at k2
    rw [← k2] at k
    have:0≤fpl p n' dd' - fpl r n' dd':=by
      refine Classical.byContradiction fun c=>?_
      have:=Int.mul_neg_of_neg_of_pos (show fpl p n' dd' - fpl r n' dd'<0 by omega) (show 0<m.2.1 by omega)
      omega
    omega
  · have k := q41w p r n dd n' dd'
    have k1:0≤(fpl p n dd - fpl r n dd)*dd':=Int.mul_nonneg (by omega) (by omega)
    have k2:0≤(p.2.2.1 - r.2.2.1)*(n'*dd - n*dd'):=Int.mul_nonneg (by omega) (by unfold leQ at hle;omega)
    have k3:0≤(fpl p n' dd' - fpl r n' dd')*dd:=by rw [k];omega
    have:0≤fpl p n' dd' - fpl r n' dd':=by
      refine Classical.byContradiction fun c=>?_
      have:=Int.mul_neg_of_neg_of_pos (show fpl p n' dd' - fpl r n' dd'<0 by omega) (show 0<dd by omega)
      omega
    omega
theorem q420 {l:List T3} (h:FldOk l) (hl:l ≠ []) {n dd n' dd':Int} (hd:1≤dd) (hd':1≤dd') (hle:leQ n dd n' dd') (hno:NoB l n dd n' dd'):Sp l n' dd'*dd=Sp l n dd*dd'+slV l n dd*(n'*dd - n*dd'):=by
  have h1:=q3sa hl n dd
  have h2:=q3w8 hl n dd
  have h1':=q3sa hl n' dd'
  have h2':=q3w8 hl n' dd'
  have a1:=q41z h h1.1 h1'.1 hd hd' hle hno (h1.2 _ h1'.1)
  have a2:=q41z h h2'.1 h2.1 hd hd' hle hno (h2.2 _ h2'.1)
  have b1:=Lead.far h1' h1.1
  have b2:=h2'.near h2.1
  have:Sp l n' dd'=fpl (ldT l n dd) n' dd' - fpl (lasT l n dd) n' dd':=by unfold Sp;omega
  rw [this,q41w]
  rfl
theorem q421 {l:List T3} (h:FldOk l) (hl:l ≠ []) {n dd n' dd':Int} (hd:1≤dd) (hd':1≤dd') (hlt:n*dd'<n'*dd) (hs:slV l n dd<0) (hno:NoB l n dd n' dd'):Sp l n' dd'*dd<Sp l n dd*dd':=by
  have:=q420 h hl hd hd' (show leQ n dd n' dd' by unfold leQ;omega) hno
  have k:=Int.mul_neg_of_neg_of_pos hs (show 0<n'*dd - n*dd' by omega)
  omega
def btw (n dd n' dd':Int) (m:M4):Bool:=gtM n dd m&&decide (m.1*dd'<n'*m.2.1)
theorem q422 {a b c d1 d2 d3:Int} (h1:1≤d1) (h2:1≤d2) (h3:1≤d3) (h:b*d1<a*d2) (k:c*d2<b*d3):c*d1<a*d3:=by
  refine Int.lt_of_mul_lt_mul_right (a:=d2) ?_ (by omega)
  have k1:=Int.mul_lt_mul_of_pos_right h (show 0<d3 by omega)
  have k2:=Int.mul_lt_mul_of_pos_right k (show 0<d1 by omega)
  rw [Int.mul_right_comm c d1 d2,Int.mul_right_comm a d3 d2]
  rw [Int.mul_right_comm b d3 d1] at k2
  omega
theorem q423 {α:Type} {f g:α→Bool}:∀ {L:List α} {x:α},x∈L→(∀ y∈L,f y=true→g y=true)→g x=true→f x=false→L.countP f<L.countP g
  | [],x,hx,_,_,_=>by cases hx
  | a :: L, x, hx, hfg, hg, hf => by
    have hle:L.countP f≤L.countP g:=List.countP_mono_left fun y hy h=>hfg y (List.mem_cons_of_mem _ hy) h
    rw [List.countP_cons,List.countP_cons]
    rcases List.mem_cons.1 hx with e | e
    · subst e
      rw [hf,hg];simp;omega
    · have ih := q423 e (fun y hy => hfg y (List.mem_cons_of_mem _ hy)) hg hf
      have:=hfg a (List.mem_cons_self ..)
      cases hfa:f a with
      | true=>rw [this hfa];simp;omega
      | false=>cases g a<;>simp<;>omega
theorem q424 {l:List T3} (h:FldOk l) (hl:l ≠ []):∀ (k:Nat) (n dd n' dd':Int),(allM l).countP (btw n dd n' dd')≤k→1≤dd→1≤dd'→n*dd'<n'*dd→slV l n dd<0→(∀ m∈allM l,btw n dd n' dd' m=true→slV l m.1 m.2.1<0)→Sp l n' dd'*dd<Sp l n dd*dd'
  | k, n, dd, n', dd', hk, hd, hd', hlt, hs, hm => by
    by_cases hex:∃ m∈allM l,btw n dd n' dd' m=true
    · obtain ⟨m, hml, hb⟩ := hex
      have hb2:=hb
      unfold btw at hb2
      rw [Bool.and_eq_true,decide_eq_true_eq] at hb2
      have hm0:=(qd2 (q3px h m hml).ok).1
      have g1:=(q3pn n dd m).1 hb2.1
      have sub1:∀ x∈allM l,btw n dd m.1 m.2.1 x=true→btw n dd n' dd' x=true:=fun x hx hbx=>by
        have hx0:=(qd2 (q3px h x hx).ok).1
        unfold btw at hbx ⊢
        rw [Bool.and_eq_true,decide_eq_true_eq] at hbx ⊢
        exact ⟨hbx.1,q_lt hx0 hm0 hd' hbx.2 (Int.le_of_lt hb2.2)⟩
      have sub2:∀ x∈allM l,btw m.1 m.2.1 n' dd' x=true→btw n dd n' dd' x=true:=fun x hx hbx=>by
        have hx0:=(qd2 (q3px h x hx).ok).1
        unfold btw at hbx ⊢
        rw [Bool.and_eq_true,decide_eq_true_eq] at hbx ⊢
        refine ⟨(q3pn n dd x).2 ?_,hbx.2⟩
        exact q_lt hd hm0 hx0 g1 (Int.le_of_lt ((q3pn m.1 m.2.1 x).1 hbx.1))
      have c1:(allM l).countP (btw n dd m.1 m.2.1)<(allM l).countP (btw n dd n' dd'):=by
        refine q423 hml sub1 hb ?_
        unfold btw
        rw [show decide (m.1*m.2.1<m.1*m.2.1)=false by rw [decide_eq_false_iff_not];omega,Bool.and_false]
      have c2:(allM l).countP (btw m.1 m.2.1 n' dd')<(allM l).countP (btw n dd n' dd'):=by
        refine q423 hml sub2 hb ?_
        unfold btw
        rw [q41c,Bool.false_and]
      match k with
      | 0=>omega
      | k + 1 =>
        have i1:=q424 h hl k n dd m.1 m.2.1 (by omega) hd hm0 g1 hs fun x hx hbx=>hm x hx (sub1 x hx hbx)
        have i2:=q424 h hl k m.1 m.2.1 n' dd' (by omega) hm0 hd' hb2.2 (hm m hml hb) fun x hx hbx=>hm x hx (sub2 x hx hbx)
        exact q422 hd hm0 hd' i1 i2
    · refine q421 h hl hd hd' hlt hs fun m hml hg c => hex ⟨m, hml, ?_⟩
      unfold btw
      rw [hg,decide_eq_true c];rfl
end Go.Proofs.YtpfhgnccpiildaaGreat

namespace Go.Proofs.YtpfhgnccpiildaaGreat
open Go Go.Tx Go.Pel
theorem q425 (d:Nat) {n dd:Int} (hn:i64B n=true) (hd:i64B dd=true):∃ v,q3gl d ((n,dd,()),())=some v∧(v=0→qcv n dd=0∧n.natAbs≤1073741824∧dd≤1024):=by
  have e1:=q3qh d hn hd
  rcases qd1 n dd with h1 | h1
  · by_cases g1 : n > 1073741824
    · refine ⟨2, ?_, fun h => by cases h⟩
      simp only [q3gl,q3fx,q3g3,q3g7,q3gb,q3gf,q3gh,q3gj,Dt.eval,e1,h1,show ((0:Int) != 0)=false from rfl,cond_false,decide_eq_true g1,cond_true]
    · by_cases g2 : n < -1073741824
      · refine ⟨2, ?_, fun h => by cases h⟩
        simp only [q3gl,q3fx,q3g3,q3g7,q3gb,q3gf,q3gh,q3gj,Dt.eval,e1,h1,show ((0:Int) != 0)=false from rfl,cond_false,decide_eq_false g1,decide_eq_true g2,cond_true]
      · by_cases g3 : dd > 1024
        · refine ⟨2, ?_, fun h => by cases h⟩
          simp only [q3gl,q3fx,q3g3,q3g7,q3gb,q3gf,q3gh,q3gj,Dt.eval,e1,h1,show ((0:Int) != 0)=false from rfl,cond_false,decide_eq_false g1,decide_eq_false g2,decide_eq_true g3,cond_true]
        · refine ⟨0, ?_, fun _ => ⟨h1, by omega, by omega⟩⟩
          simp only [q3gl,q3fx,q3g3,q3g7,q3gb,q3gf,q3gh,q3gj,Dt.eval,e1,h1,show ((0:Int) != 0)=false from rfl,cond_false,decide_eq_false g1,decide_eq_false g2,decide_eq_false g3]
  · refine ⟨8, ?_, fun h => by cases h⟩
    simp only [q3gl,q3fx,q3g3,q3g7,q3gb,q3gf,q3gh,q3gj,Dt.eval,e1,h1,show ((8:Int) != 0)=true from rfl,cond_true]
def tmM (m:M4):Dii:=(m.1,m.2.1,())
def leT (a b:Dii):Prop:=leQ a.1 a.2.1 b.1 b.2.1
theorem q426 (l:List T3):∀ (M:List M4) (s:Int),((trnL l s M).map tmU).Sublist (M.map tmM)
  | [],_=>List.Sublist.slnil
  | m :: M, s => by
    unfold trnL
    split
    · exact (q426 l M s).cons _
    · exact (q426 l M _).cons_cons _
theorem q427 (l:List T3):∀ (M:List M4) (a b:Int),(∀ x∈M,leQ a b x.1 x.2.1)→(M.Pairwise fun x y=>leQ x.1 x.2.1 y.1 y.2.1)→∀ m∈M,∃ t∈(a,b,()) :: (trnL l (slV l a b) M).map tmU,leQ t.1 t.2.1 m.1 m.2.1∧slV l t.1 t.2.1=slV l m.1 m.2.1
  | [],_,_,_,_,m,hm=>by cases hm
  | x :: M, a, b, h1, h2, m, hm => by
    obtain ⟨h3,h4⟩:=List.pairwise_cons.1 h2
    unfold trnL
    by_cases hs:slV l x.1 x.2.1=slV l a b
    · rw [if_pos hs]
      rcases List.mem_cons.1 hm with e | e
      · rw [e];exact ⟨(a,b,()),List.mem_cons_self ..,h1 x (List.mem_cons_self ..),hs.symm⟩
      · exact q427 l M a b (fun y hy=>h1 y (List.mem_cons_of_mem _ hy)) h4 m e
    · rw [if_neg hs, List.map_cons]
      rcases List.mem_cons.1 hm with e | e
      · rw [e];exact ⟨(x.1,x.2.1,()),List.mem_cons_of_mem _ (List.mem_cons_self ..),q3ww _ _,rfl⟩
      · obtain ⟨t, ht, k1, k2⟩ := q427 l M x.1 x.2.1 h3 h4 m e
        exact ⟨t,List.mem_cons_of_mem _ ht,k1,k2⟩
theorem q428 (l:List T3) (n' dd':Int):∀ (A:List Dii),A.Pairwise leT→(∃ a∈A,fstG l n' dd' A=(a.1,a.2.1)∧0≤slV l a.1 a.2.1∧∀ b∈A,0≤slV l b.1 b.2.1→leT a b)∨(fstG l n' dd' A=(n',dd')∧∀ b∈A,slV l b.1 b.2.1<0)
  | [],_=>.inr ⟨rfl,fun b hb=>by cases hb⟩
  | a :: A, h => by
    obtain ⟨h1,h2⟩:=List.pairwise_cons.1 h
    rw [q3xm]
    by_cases hs:0≤slV l a.1 a.2.1
    · rw [if_pos hs]
      refine .inl ⟨a,List.mem_cons_self ..,rfl,hs,fun b hb _=>?_⟩
      rcases List.mem_cons.1 hb with e | e
      · rw [e];exact q3ww _ _
      · exact h1 b e
    · rw [if_neg hs]
      rcases q428 l n' dd' A h2 with ⟨x,hx,k1,k2,k3⟩ | ⟨k1,k2⟩
      · refine .inl ⟨x, List.mem_cons_of_mem _ hx, k1, k2, fun b hb hb0 => ?_⟩
        rcases List.mem_cons.1 hb with e | e
        · rw [e] at hb0;exact absurd hb0 hs
        · exact k3 b e hb0
      · refine .inr ⟨k1, fun b hb => ?_⟩
        rcases List.mem_cons.1 hb with e | e
        · rw [e];omega
        · exact k2 b e
structure GoodY (l:List T3) (t d:Int×Int) (y:Dii):Prop where
  q:okQ y.1 y.2.1
  e:(spV l y.1 y.2.1).2.2=0
  c:qcv (spV l y.1 y.2.1).1 (spV l y.1 y.2.1).2.1=0
  b1:i64B (spV l y.1 y.2.1).1=true
  b2:i64B (spV l y.1 y.2.1).2.1=true
  le:¬ cmpQ d.1 d.2 (spV l y.1 y.2.1).1 (spV l y.1 y.2.1).2.1 > 0
  eq:y.1=t.1→y.2.1=t.2→(spV l y.1 y.2.1).1=d.1∧(spV l y.1 y.2.1).2.1=d.2
  lt:cmpQ y.1 y.2.1 t.1 t.2<0→¬ ((spV l y.1 y.2.1).1=d.1∧(spV l y.1 y.2.1).2.1=d.2)
theorem q429 (d:Nat) (hd:5000≤d) {l:List T3} {t1 t2 d1 d2:Int} (ht:okQ t1 t2) (hb1:i64B d1=true) (hb2:i64B d2=true) {A:List Dii} (hA:∀ y∈A,GoodY l (t1,t2) (d1,d2) y) (hlen:A.length≤4200):∀ (f i:Nat) (fd:Bool),A.length - i<f→i≤A.length →
    iter (q3j6 d) f (true,fd,(i:Int),l,t1,t2,d1,d2,A)=some (fd || (A.drop i).any fun y=>(y.1 == t1)&&(y.2.1 == t2))
  | 0,i,fd,hf,_=>by omega
  | f + 1, i, fd, hf, hi => by
    have ih:=q429 d hd ht hb1 hb2 hA hlen f (i+1)
    rw [iter]
    revert ih
    generalize iter (q3j6 d) f=self
    intro ih
    by_cases hlt:i<A.length
    · obtain ⟨x, hx⟩ : ∃ x, A[i]? = some x := ⟨_, List.getElem?_eq_getElem hlt⟩
      have hg:=hA x (List.mem_of_getElem? hx)
      obtain ⟨gq,ge,gc,g1,g2,gle,geq,glt⟩:=hg
      have e1:=q3wu d hd l gq.b1 gq.b2
      have e2:=q3qh d gq.b1 gq.b2
      rw [gq.ok] at e2
      generalize spV l x.1 x.2.1=s at *
      obtain ⟨s1,s2,s3⟩:=s
      have ge':s3=0:=ge
      subst ge'
      have e3:=q3qh d (n:=s1) (dd:=s2) g1 g2
      rw [show qcv s1 s2=0 from gc] at e3
      have e4:=q3oq d d1 d2 s1 s2 hb1 hb2 g1 g2
      have e5:=q3oq d x.1 x.2.1 t1 t2 gq.b1 gq.b2 ht.b1 ht.b2
      have c4:decide (cmpQ d1 d2 s1 s2 > 0)=false:=decide_eq_false gle
      have wi:=q3q6 (show i<1000000 by omega)
      have geq':x.1=t1→x.2.1=t2→s1=d1∧s2=d2:=geq
      have glt':cmpQ x.1 x.2.1 t1 t2<0→¬ (s1=d1∧s2=d2):=glt
      rw [q3qb hx,List.any_cons]
      unfold q3j6 q3j3
      have c5:(bif decide (cmpQ x.1 x.2.1 t1 t2<0) then ((s1 == d1)&&((s2 == d2)&&true)) else false)=false:=by
        by_cases hc:cmpQ x.1 x.2.1 t1 t2<0
        · rw [decide_eq_true hc, cond_true]
          have:=glt' hc
          cases h1:s1 == d1 with
          | false=>rfl
          | true =>
            cases h2:s2 == d2 with
            | false=>rfl
            | true=>exact absurd ⟨by simpa using h1,by simpa using h2⟩ this
        · rw [decide_eq_false hc];rfl
      by_cases hq:x.1=t1∧x.2.1=t2
      · have h12 := geq' hq.1 hq.2
        have c6:((x.1 == t1)&&((x.2.1 == t2)&&true))=true:=by rw [hq.1,hq.2];simp
        have c6':((x.1 == t1)&&(x.2.1 == t2))=true:=by rw [hq.1,hq.2];simp
        have c7:(!((s1 == d1)&&((s2 == d2)&&true)))=false:=by rw [h12.1,h12.2];simp
        have c8:decide (cmpQ x.1 x.2.1 t1 t2<0)=false:=decide_eq_false fun hc=>glt' hc h12
        simp only [q3i5,q3j1,q3i9,q3id,q3if,q3ij,q3in,q3ir,q3it,q3ix,q3iz,q3j4,Dt.eval,q3gt,q3q9 hlt,cond_true,q3q8 hlt,q3q7 hx,e1,show ((0:Int) != 0)=false from rfl,cond_false,e2,e3,e4,c4,c6,c7,e5,c8,wi]
        have:=ih true (by omega) (by omega)
        rw [c6']
        simpa using this
      · have c6:((x.1 == t1)&&((x.2.1 == t2)&&true))=false:=by
          cases h1:x.1 == t1 with
          | false=>rfl
          | true =>
            cases h2:x.2.1 == t2 with
            | false=>rfl
            | true=>exact absurd ⟨by simpa using h1,by simpa using h2⟩ hq
        have c6':((x.1 == t1)&&(x.2.1 == t2))=false:=by rw [Bool.and_true] at c6;exact c6
        rw [c6',Bool.false_or]
        have hih:=ih fd (by omega) (by omega)
        by_cases hc:cmpQ x.1 x.2.1 t1 t2<0
        · have c9 : ((s1 == d1) && ((s2 == d2) && true)) = false := by rw [decide_eq_true hc, cond_true] at c5; exact c5
          simp only [q3i5,q3j1,q3i9,q3id,q3if,q3ij,q3in,q3ir,q3it,q3ix,q3iz,q3j4,Dt.eval,q3gt,q3q9 hlt,cond_true,q3q8 hlt,q3q7 hx,e1,show ((0:Int) != 0)=false from rfl,cond_false,e2,e3,e4,c4,c6,e5,decide_eq_true hc,c9,wi]
          exact hih
        · simp only [q3i5, q3j1, q3i9, q3id, q3if, q3ij, q3in, q3ir, q3it, q3ix, q3iz, q3j4, Dt.eval, q3gt, q3q9 hlt, cond_true, q3q8 hlt, q3q7 hx, e1, show ((0 : Int) != 0) = false from rfl, cond_false, e2, e3, e4, c4, c6, e5, decide_eq_false hc, wi]
          exact hih
    · have hkl : i = A.length := by omega
      unfold q3j6
      simp only [q3i5,q3j1,q3i9,q3id,q3if,q3ij,q3in,q3ir,q3it,q3ix,q3iz,q3j4,Dt.eval,q3qa hlt,cond_false,cond_true]
      rw [hkl,List.drop_length]
      simp
theorem q42a {n d n' d':Int}:cmpQ n d n' d'<0↔n*d'<n'*d:=by
  unfold cmpQ
  rcases ltZ (n*d') (n'*d) with ⟨e,h⟩ | ⟨e,h⟩ | ⟨e,h⟩<;>rw [e] <;> omega
theorem q42b {n d n' d':Int}:cmpQ n d n' d' > 0↔n'*d<n*d':=by
  unfold cmpQ
  rcases ltZ (n*d') (n'*d) with ⟨e,h⟩ | ⟨e,h⟩ | ⟨e,h⟩<;>rw [e] <;> omega
structure okB (n dd:Int):Prop where
  q:okQ n dd
  n1:n.natAbs≤2199023255552
  d1:dd≤4194304
theorem q42c {l:List T3} (hl:l ≠ []) (h:FldOk l) (h0:qfx (ptsL l)=0) {n dd n' dd':Int} (hq:okB n dd) (hq':okB n' dd') (hle:leQ n dd n' dd') :
    ∃ T:Int×Int,fstG l n' dd' ((allT l n dd n' dd').map tmU)=T∧okB T.1 T.2∧∀ y∈(allT l n dd n' dd').map tmU ++ [(n',dd',())],GoodY l T ((spV l T.1 T.2).1,(spV l T.1 T.2).2.1) y:=by
  have p1:=(qd2 hq.q.ok).1
  have p2:=(qd2 hq'.q.ok).1
  have hM:=fun x (hx:x∈cutM (allM l) n dd n' dd')=>q3rt p1 p2 hle (fun x hx=>(q3px h x hx).ok) (q3pa h) hx
  have hMpw:(cutM (allM l) n dd n' dd').Pairwise fun x y=>leQ x.1 x.2.1 y.1 y.2.1:=(q41h h).imp fun {a b} hab=>q41d hab
  have hA:(allT l n dd n' dd').map tmU=(n,dd,()) :: (q3x3 l n dd n' dd').map tmU:=rfl
  have hsub:((q3x3 l n dd n' dd').map tmU).Sublist ((cutM (allM l) n dd n' dd').map tmM):=q426 l _ _
  have hfrom:∀ y∈(q3x3 l n dd n' dd').map tmU,leT (n,dd,()) y∧leT y (n',dd',())∧okB y.1 y.2.1:=fun y hy=>by
    obtain ⟨m,hm,rfl⟩:=List.mem_map.1 (hsub.subset hy)
    have hw:=q3x4 h m hm
    exact ⟨q3sj (hM m hm).2.1,q41g (hM m hm).2.2,⟨hw.b1,hw.b2,hw.ok⟩,by have:=hw.n;show m.1.natAbs≤_;omega,by have:=hw.d;show m.2.1≤_;omega⟩
  have hpw:((allT l n dd n' dd').map tmU).Pairwise leT:=by
    rw [hA]
    refine List.pairwise_cons.2 ⟨fun y hy=>(hfrom y hy).1,?_⟩
    refine List.Pairwise.sublist hsub ?_
    rw [List.pairwise_map]
    exact hMpw
  have hall:∀ y∈(allT l n dd n' dd').map tmU,leT (n,dd,()) y∧leT y (n',dd',())∧okB y.1 y.2.1:=fun y hy=>by
    rw [hA] at hy
    rcases List.mem_cons.1 hy with e | e
    · rw [e];exact ⟨q3ww _ _,hle,hq⟩
    · exact hfrom y e
  have hturn:=q427 l (cutM (allM l) n dd n' dd') n dd (fun x hx=>q3sj (hM x hx).2.1) hMpw
  have hcase:=q428 l n' dd' _ hpw
  have hA2:(n,dd,()) :: (trnL l (slV l n dd) (cutM (allM l) n dd n' dd')).map tmU=(allT l n dd n' dd').map tmU:=rfl
  rw [hA2] at hturn
  generalize (allT l n dd n' dd').map tmU=A at *
  refine ⟨_,rfl,?_,?_⟩
  · rcases hcase with ⟨a, ha, e, _, _⟩ | ⟨e, _⟩
    · rw [e];exact (hall a ha).2.2
    · rw [e];exact hq'
  · have hT:okB (fstG l n' dd' A).1 (fstG l n' dd' A).2:=by
      rcases hcase with ⟨a,ha,e,_,_⟩ | ⟨e,_⟩
      · rw [e];exact (hall a ha).2.2
      · rw [e];exact hq'
    have hTle:leQ (fstG l n' dd' A).1 (fstG l n' dd' A).2 n' dd':=by
      rcases hcase with ⟨a,ha,e,_,_⟩ | ⟨e,_⟩
      · rw [e];exact (hall a ha).2.1
      · rw [e];exact q3ww _ _
    have hcase2:(0≤slV l (fstG l n' dd' A).1 (fstG l n' dd' A).2∧∀ b∈A,0≤slV l b.1 b.2.1→leQ (fstG l n' dd' A).1 (fstG l n' dd' A).2 b.1 b.2.1)∨(((fstG l n' dd' A).1=n'∧(fstG l n' dd' A).2=dd')∧∀ b∈A,slV l b.1 b.2.1<0):=by
      rcases hcase with ⟨a,ha,e,k1,k2⟩ | ⟨e,k⟩
      · rw [e];exact .inl ⟨k1,k2⟩
      · rw [e];exact .inr ⟨⟨rfl,rfl⟩,k⟩
    clear hcase
    generalize fstG l n' dd' A=T at *
    have t0:=(qd2 hT.q.ok).1
    obtain ⟨sT,sT0⟩:=q41u hl h h0 hT.q.ok hT.d1 hT.n1
    intro y hy
    have hyB:leQ n dd y.1 y.2.1∧leQ y.1 y.2.1 n' dd'∧okB y.1 y.2.1:=by
      rcases List.mem_append.1 hy with e | e
      · exact hall y e
      · rw [List.mem_singleton] at e;rw [e];exact ⟨hle,q3ww _ _,hq'⟩
    obtain ⟨y1,y2,y3⟩:=hyB
    have y0:=(qd2 y3.q.ok).1
    obtain ⟨sy,sy0⟩:=q41u hl h h0 y3.q.ok y3.d1 y3.n1
    obtain ⟨v1,v2,v3,v4⟩:=q3sv y0 sy0
    have v5:=(qd2 v1).1
    have hD:y.1*T.2<T.1*y.2.1→Sp l T.1 T.2*y.2.1<Sp l y.1 y.2.1*T.2:=fun hlt=>by
      have hyA:y∈A:=by
        rcases List.mem_append.1 hy with e | e
        · exact e
        · rw [List.mem_singleton] at e
          unfold leQ at hTle
          rw [e] at hlt
          have hlt':n'*T.2<T.1*dd':=hlt
          omega
      have hsl:slV l y.1 y.2.1<0:=by
        rcases hcase2 with ⟨_,k⟩ | ⟨_,k⟩
        · refine Classical.byContradiction fun c => ?_
          have:=k y hyA (by omega)
          unfold leQ at this;omega
        · exact k y hyA
      refine q424 h hl _ y.1 y.2.1 T.1 T.2 (Nat.le_refl _) y0 t0 hlt hsl fun m hm hb=>?_
      unfold btw at hb
      rw [Bool.and_eq_true,decide_eq_true_eq] at hb
      have hw:=q3px h m hm
      have m0:=(qd2 hw.ok).1
      have hmM:m∈cutM (allM l) n dd n' dd':=by
        rcases q41f h p1 p2 hle hm (q3qs p1 y0 y1 hw.ok hb.1) with k | k
        · exact k
        · have k2 := (q3pn n' dd' m).1 k
          have:=q_lt m0 t0 p2 hb.2 hTle
          omega
      obtain ⟨a,ha,a1,a2⟩:=hturn m hmM
      rw [← a2]
      rcases hcase2 with ⟨_,k⟩ | ⟨_,k⟩
      · refine Classical.byContradiction fun c => ?_
        have k1:=k a ha (by omega)
        have a0:=(qd2 (hall a ha).2.2.q.ok).1
        have:=q_le t0 a0 m0 k1 a1
        omega
      · exact k a ha
    have hU:Sp l T.1 T.2*y.2.1≤Sp l y.1 y.2.1*T.2:=by
      by_cases hlt:y.1*T.2<T.1*y.2.1
      · exact Int.le_of_lt (hD hlt)
      · rcases hcase2 with ⟨k1, _⟩ | ⟨⟨k1, k2⟩, _⟩
        · exact q41y hl t0 (show leQ T.1 T.2 y.1 y.2.1 by unfold leQ;omega) k1
        · rw [← k1, ← k2] at y2
          have:y.1*T.2=T.1*y.2.1:=by unfold leQ at y2;omega
          obtain ⟨e1,e2⟩:=q_eq y3.q.ok hT.q.ok this
          rw [e1,e2];exact Int.le_refl _
    rw [← sy] at v1 v3 v4 v5
    refine ⟨y3.q,by rw [sy];exact sy0,v1,q3pg v3,q3pg (by omega),?_,?_,?_⟩
    · intro c
      have:=q42b.1 c
      rw [sy,sT] at this
      have k:=(q41p t0 y0 sT0 sy0).2 hU
      have this':(red (Sp l y.1 y.2.1) y.2.1).1*(red (Sp l T.1 T.2) T.2).2.1<(red (Sp l T.1 T.2) T.2).1*(red (Sp l y.1 y.2.1) y.2.1).2.1:=this
      omega
    · intro e1 e2
      rw [e1,e2];exact ⟨rfl,rfl⟩
    · intro c ⟨e1, e2⟩
      have hlt:=q42a.1 c
      have k:=hD hlt
      rw [sy,sT] at e1 e2
      have e1':(red (Sp l y.1 y.2.1) y.2.1).1=(red (Sp l T.1 T.2) T.2).1:=e1
      have e2':(red (Sp l y.1 y.2.1) y.2.1).2.1=(red (Sp l T.1 T.2) T.2).2.1:=e2
      have:=(q41p y0 t0 sy0 sT0).1 (by rw [e1',e2'];exact Int.le_refl _)
      omega
theorem q42d (d:Nat) (hd:5000≤d) (ea:q3d3 d ()=some true) (l:List T3) (n dd n' dd':Int) (hn:i64B n=true) (hdd:i64B dd=true) (hn':i64B n'=true) (hd':i64B dd'=true):q3j7 d ((l,()),(n,dd,()),(n',dd',()),())=some true:=by
  obtain ⟨g,e0,_⟩:=q3xq d l
  have e1:=q3qj d l hn hdd hn' hd'
  obtain ⟨v1,a1,a2⟩:=q425 d hn hdd
  obtain ⟨v2,a3,a4⟩:=q425 d hn' hd'
  cases g with
  | true=>simp only [q3j7,q3gt,q3gz,q3h3,q3h7,q3hb,Dt.eval,ea,e0,cond_true]
  | false =>
    by_cases hc:chk2 l n dd n' dd'=0
    · rw [hc] at e1
      by_cases hl0:l.length=0
      · simp only [q3j7,q3gt,q3gz,q3h3,q3h7,q3hb,Dt.eval,ea,e0,e1,show ((0:Int) != 0)=false from rfl,cond_true,cond_false,show ((l.length:Int) == 0)=true by rw [hl0];rfl]
      · have hl1 : ((l.length : Int) == 0) = false := by rw [beq_eq_false_iff_ne]; omega
        by_cases hv1:v1=0
        · by_cases hv2 : v2 = 0
          · subst hv1
            subst hv2
            obtain ⟨_,b1,b2⟩:=a2 rfl
            obtain ⟨_,b3,b4⟩:=a4 rfl
            have hl:l ≠ []:=fun e=>hl0 (by rw [e];rfl)
            have hcs:=q3wf hc hl
            obtain ⟨_,h,h0,h1,h2,h3⟩:=q3x6 hcs
            have e2:=q3xa d hd l hn hdd hn' hd'
            unfold q3x8 at e2
            rw [if_neg (by simpa using hcs)] at e2
            have e3:=q3xl d hd l hn hdd hn' hd'
            unfold q3xe at e3
            rw [if_neg (by simpa using hcs)] at e3
            obtain ⟨T,hT,hTB,hgood⟩:=q42c hl h h0 (n:=n) (dd:=dd) (n':=n') (dd':=dd') ⟨⟨hn,hdd,h1⟩,by omega,by omega⟩ ⟨⟨hn',hd',h2⟩,by omega,by omega⟩ h3
            rw [hT] at e3
            have hTm:((allT l n dd n' dd').map tmU ++ [(n',dd',())]).any (fun y=>(y.1 == T.1)&&(y.2.1 == T.2))=true:=by
              rw [List.any_eq_true]
              have:∀ A:List Dii,∃ y∈A ++ [(n',dd',())],(y.1,y.2.1)=fstG l n' dd' A:=by
                intro A
                induction A with
                | nil=>exact ⟨(n',dd',()),List.mem_singleton.2 rfl,rfl⟩
                | cons a A ih =>
                  rw [q3xm]
                  split
                  · exact ⟨a,List.mem_cons_self ..,rfl⟩
                  · obtain ⟨y, hy, e⟩ := ih
                    exact ⟨y,List.mem_cons_of_mem _ hy,e⟩
              obtain ⟨y,hy,e⟩:=this ((allT l n dd n' dd').map tmU)
              refine ⟨y,hy,?_⟩
              rw [hT] at e
              rw [← e];simp
            obtain ⟨sT,sT0⟩:=q41u hl h h0 hTB.q.ok hTB.d1 hTB.n1
            obtain ⟨w1,_,w3,w4⟩:=q3sv (qd2 hTB.q.ok).1 sT0
            rw [← sT] at sT0 w1 w3 w4
            have w5:=(qd2 w1).1
            have e4:=q3qh d hTB.q.b1 hTB.q.b2
            rw [hTB.q.ok] at e4
            have e5:=q3qh d (n:=(spV l T.1 T.2).1) (dd:=(spV l T.1 T.2).2.1) (q3pg w3) (q3pg (by omega))
            rw [w1] at e5
            unfold finV at e3
            rw [if_neg (by simpa using sT0)] at e3
            have hlen:((q3x3 l n dd n' dd').map tmU).length≤4096:=by rw [List.length_map];exact q3x5 h n dd n' dd'
            have hAe:(allT l n dd n' dd').map tmU ++ [(n',dd',())]=([(n,dd,())] ++ (q3x3 l n dd n' dd').map tmU) ++ [(n',dd',())]:=rfl
            rw [hAe] at hgood hTm
            have e6:=q429 d hd hTB.q (q3pg w3) (q3pg (by omega)) hgood (by rw [List.length_append,List.length_append,List.length_singleton,List.length_singleton];omega) d 0 false (by rw [List.length_append,List.length_append,List.length_singleton,List.length_singleton];omega) (Nat.zero_le _)
            rw [List.drop_zero,hTm] at e6
            have p1:apB (List.length ([(n,dd,())]:List Dii)) ((q3x3 l n dd n' dd').map tmU).length=true:=by unfold apB;rw [Nat.ble_eq,List.length_singleton];omega
            have p2:apB (([(n,dd,())]:List Dii)++(q3x3 l n dd n' dd').map tmU).length (List.length ([(n',dd',())]:List Dii))=true:=by unfold apB;rw [Nat.ble_eq,List.length_singleton,List.length_append,List.length_singleton];omega
            simp only [q3j7,q3gt,q3gz,q3h3,q3h7,q3hb,q3hf,q3hj,q3hn,q3hp,q3ht,q3hx,q3i1,Dt.eval,ea,e0,e1,show ((0:Int) != 0)=false from rfl,cond_true,cond_false,hl1,a1,a3,Bool.not_true,e2,e3,e4,e5,p1,p2]
            exact e6
          · subst hv1
            simp only [q3j7,q3gt,q3gz,q3h3,q3h7,q3hb,Dt.eval,ea,e0,e1,show ((0:Int) != 0)=false from rfl,cond_true,cond_false,hl1,a1,a3,show (v2 != 0)=true by simpa using hv2]
        · simp only [q3j7,q3gt,q3gz,q3h3,q3h7,q3hb,Dt.eval,ea,e0,e1,show ((0:Int) != 0)=false from rfl,cond_true,cond_false,hl1,a1,show (v1 != 0)=true by simpa using hv1]
    · simp only [q3j7,q3gt,q3gz,q3h3,q3h7,q3hb,Dt.eval,ea,e0,e1,show (chk2 l n dd n' dd' != 0)=true by simpa using hc,cond_true,cond_false]
end Go.Proofs.YtpfhgnccpiildaaGreat
