/- Walks of the references; the orders agree; examples. -/
import Derived.Test.YtoakhncbmpdacaaGl
set_option linter.unusedSimpArgs false
set_option linter.unusedVariables false
namespace Go.Pel
open Go Go.RowKit
theorem q3ox {l:List Pt} (h:incB l=true):(l.map Pt.id).Nodup:=by
  unfold List.Nodup
  rw [List.pairwise_iff_getElem]
  intro i j hi hj hij
  simp only [List.length_map] at hi hj
  have:=qhj h hij (List.getElem?_eq_getElem hi) (List.getElem?_eq_getElem hj)
  simp;omega
theorem q3p3 {l:List Pt} {n d:Int} (h:qsv l n d=0):qhk l=0∧qeg n d=0∧qsb l n d=(qrz n d l,0):=by
  unfold qsv at h
  by_cases h1:qhk l=0
  · rw [if_neg (by simpa using h1)] at h
    refine ⟨h1,h,?_⟩
    unfold qsb;rw [if_neg (by simpa using h1),if_neg (by simpa using h)]
  · rw [if_pos h1] at h;exact absurd h h1
end Go.Pel

namespace Go.Proofs.Ytoakhncbmpdacaa
open Go.RowKit Go.Pel
end Go.Proofs.Ytoakhncbmpdacaa

namespace Go.Pel
open Go Go.RowKit
end Go.Pel
namespace Go.Proofs.Ytoakhncbmpdacaa
open Go.RowKit Go.Pel
end Go.Proofs.Ytoakhncbmpdacaa

namespace Go.Pel
open Go Go.RowKit
theorem q3p8 {p q:Pt} {n d:Int} (h:qlx p q n d=true) (k:qlx q p n d=true):False:=by
  rw [qrt] at h k;omega
def insP (l:List Pt) (p:Pt):List Pt:=l.take (lowB l p.id)++p :: l.drop (lowB l p.id)
theorem q5w {l:List Pt} (h:qhk l=0) {p:Pt} (hp:p.chk=0) (hb:hasB l p.id=false) (hl:l.length≠64):qi3 l p=(insP l p,0):=by
  unfold qi3
  rw [if_neg (by simpa using h),if_neg (by simpa using hp),hb,if_neg hl];rfl
end Go.Pel

namespace Go.Proofs.Ytoakhncbmpdacaa
open Go Go.Tx Go.Pel
def ruB (P:List N3) (n d:Int) (i t:Nat):Bool:=(List.range' (min i t) (max i t+1 - min i t)).all fun k=>decide (k=i) || ldB P n d i k
theorem q3qc {P:List N3} {n d:Int} {i t:Nat}:ruB P n d i t=true ↔ ∀ k,min i t≤k→k≤max i t→k≠i→ldB P n d i k=true:=by
  unfold ruB
  rw [List.all_eq_true]
  refine ⟨fun h k h1 h2 h3=>?_,fun h k hk=>?_⟩
  · have := h k (List.mem_range'_1.2 (by omega))
    rw [decide_eq_false h3,Bool.false_or] at this
    exact this
  · have := List.mem_range'_1.1 hk
    by_cases c:k=i
    · rw [decide_eq_true c,Bool.true_or]
    · rw [h k (by omega) (by omega) c,Bool.or_true]
def cntR (P:List N3) (n d:Int) (a m t:Nat):Nat:=(List.range' a m).countP fun i=>decide (i≠t)&&ruB P n d i t
theorem q3qd {P:List N3} {n d:Int} {a m t k:Nat} (h:∀ i,a≤i→i<a+m→min i t≤k∧k≤max i t∧k≠i∧ldB P n d k i=true):cntR P n d a m t=0:=by
  unfold cntR
  rw [List.countP_eq_zero]
  intro i hi
  have:=List.mem_range'_1.1 hi
  obtain ⟨h1,h2,h3,h4⟩:=h i this.1 this.2
  intro hc
  rw [Bool.and_eq_true] at hc
  have h5:=q3qc.1 hc.2 k h1 h2 h3
  rw [q377 h4] at h5;cases h5
theorem q3qe {P:List N3} {n d:Int} {N:List N3} {i:Int} {a b:Nat} (h:Gr P n d N i a b):(∀ j k,j<k→a≤j→k<b→(ptA P j).1<(ptA P k).1)→(∀ k,a≤k→k<b→idN N k=(ptA P k).1)→∀ t,a≤t→t<b→∀ F,b - a<F→dpt N (ptA P t).1 F i=some (cntR P n d a (b - a) t):=by
  induction h with
  | leaf a b h=>intro _ _ t h1 h2;omega
  | node k a b x h1 h2 h3 h4 g1 g2 ih1 ih2 =>
    intro hinc hid t ta tb F hF
    obtain ⟨F,rfl⟩:∃ F',F=F'+1:=⟨F - 1,by omega⟩
    have hx1:x.1=(ptA P k).1:=by rw [← (q37y h3).1];exact hid k h1 h2
    have hcut:cntR P n d a (b - a) t=cntR P n d a (k - a) t+((if (decide (k≠t)&&ruB P n d k t)=true then 1 else 0)+cntR P n d (k+1) (b - (k+1)) t):=by
      unfold cntR
      rw [q379 h1 h2,List.countP_append,List.countP_cons];omega
    rw [q380 h3,hx1,hcut]
    rcases Nat.lt_trichotomy t k with c | c | c
    · have hi1 := hinc t k c ta h2
      rw [if_neg (by omega),if_pos hi1,ih1 (fun j k' h5 h6 h7=>hinc j k' h5 h6 (by omega)) (fun j j1 j2=>hid j j1 (by omega)) t ta c F (by omega)]
      have hr:ruB P n d k t=true:=q3qc.2 fun j j1 j2 j3=>h4 j (by omega) (by omega) j3
      rw [q3qd (k:=k) (a:=k+1) fun i i1 i2=>⟨by omega,by omega,by omega,h4 i (by omega) (by omega) (by omega)⟩,hr,decide_eq_true (show k≠t by omega)]
      rfl
    · subst c
      rw [if_pos rfl,q3qd (k:=t) (a:=a) fun i i1 i2=>⟨by omega,by omega,by omega,h4 i (by omega) (by omega) (by omega)⟩,q3qd (k:=t) (a:=t+1) fun i i1 i2=>⟨by omega,by omega,by omega,h4 i (by omega) (by omega) (by omega)⟩,decide_eq_false (show ¬ (t≠t) from fun h=>h rfl)]
      rfl
    · have hi1 := hinc k t c h1 tb
      rw [if_neg (by omega),if_neg (by omega),ih2 (fun j k' h5 h6 h7=>hinc j k' h5 (by omega) h7) (fun j j1 j2=>hid j (by omega) j2) t (by omega) tb F (by omega)]
      have hr:ruB P n d k t=true:=q3qc.2 fun j j1 j2 j3=>h4 j (by omega) (by omega) j3
      rw [q3qd (k:=k) (a:=a) fun i i1 i2=>⟨by omega,by omega,by omega,h4 i (by omega) (by omega) (by omega)⟩,hr,decide_eq_true (show k≠t by omega)]
      simp only [Bool.and_self,if_true,Option.map_some,Option.some.injEq]
      omega
theorem q3qf {g:List Pt} {n d:Int} {p:Pt} (h:qsv g n d=0) (hp:p∈g) (hq:∀ q∈g,q=p∨qlx p q n d=true):qse g n d=(p.id,0):=by
  obtain ⟨h1,_,h3⟩:=q3p3 h
  have hinc:=(qhp h1).2.2
  have hpw:=qs2 (n:=n) (d:=d) (qsc hinc) (q3ox hinc)
  have hm:p∈qrz n d g:=(qs0 n d g).mem_iff.2 hp
  unfold qse
  rw [h3,if_neg (show ¬ ((0:Int)≠0) by decide)]
  show (match qrz n d g with | []=>((0:Int),(42:Int)) | p :: _=>(p.id,0))=_
  cases hs:qrz n d g with
  | nil=>rw [hs] at hm;cases hm
  | cons s r =>
    have hs0:s∈g:=(qs0 n d g).mem_iff.1 (by rw [hs];exact List.mem_cons_self ..)
    have:s=p:=by
      rw [hs] at hm hpw
      rcases List.mem_cons.1 hm with h | h
      · exact h.symm
      · have hl := (List.pairwise_cons.1 hpw).1 p h
        rcases hq s hs0 with h2 | h2
        · exact h2
        · exact absurd h2 (fun h2=>q3p8 hl h2)
    rw [this]
theorem q3qg {P:List N3} {n d:Int} {N:List N3} {r:Int} (hg:Gr P n d N r 0 P.length) (h0:0<P.length) (hid:∀ j,j<P.length→idN N j=(ptA P j).1) (ht:qsv (ptsL P) n d=0):∃ (k:Nat) (x:N3),r=(k:Int)∧k<P.length∧N[k]?=some x∧qse (ptsL P) n d=(x.1,0):=by
  cases hg with
  | leaf _ _ h=>omega
  | node k _ _ x h1 h2 h3 h4 _ _ =>
    refine ⟨k,x,rfl,h2,h3,?_⟩
    have hx:x.1=(ofP (ptA P k)).id:=by
      have:=hid k h2
      rw [(q37y h3).1] at this;exact this
    rw [hx]
    refine q3qf ht (List.mem_of_getElem? (q372 h2)) fun q hq=>?_
    obtain ⟨j,hj⟩:=List.mem_iff_getElem?.1 hq
    have hjl:j<P.length:=by
      have:=(List.getElem?_eq_some_iff.1 hj).1
      rw [show (ptsL P).length=P.length from List.length_map _] at this;exact this
    rw [q372 hjl] at hj
    injection hj with hj
    subst hj
    by_cases c:j=k
    · exact .inl (by rw [c])
    · exact .inr (h4 j (Nat.zero_le _) hjl c)
theorem q3qh {n d:Int} (ht:qsv (ptsL []) n d=0):((qse (ptsL []) n d).2 == 0)=false:=by
  obtain ⟨_,_,hs⟩:=q3p3 ht
  have:=(qs0 n d (ptsL [])).length_eq
  rw [show (ptsL []).length=0 from rfl] at this
  rw [List.eq_nil_of_length_eq_zero this] at hs
  unfold qse
  rw [hs]
  rfl
section
variable {P:List N3} {n dd:Int}
theorem q3qi (i t:Nat):tmin (i:Int) (t:Int)=((min i t:Nat):Int):=by unfold tmin;split<;>omega
theorem q3qj (i t:Nat):tmax (i:Int) (t:Int)=((max i t:Nat):Int):=by unfold tmax;split<;>omega
theorem q3qk (d:Nat) (hP:FOk P) (ht:TOk n dd) {i t:Nat} (hi:i<P.length) (htl:t<P.length):∀ (f k:Nat),max i t+1 - k<f→k≤max i t+1→iter (q3l2 d) f ((i:Int),(t:Int),(k:Int),P,n,dd)=some ((List.range' k (max i t+1 - k)).all fun k=>decide (k=i) || ldB P n dd i k)
  | 0,k,h,_=>by omega
  | f + 1, k, hf, hk => by
    have ih:=q3qk d hP ht hi htl f (k+1)
    rw [iter]
    revert ih
    generalize iter (q3l2 d) f=self
    intro ih
    unfold q3l2
    have hlen:=hP.len
    by_cases hl:k≤max i t
    · have hkP : k < P.length := by omega
      have hw:=q36l (show k<1000000 by omega)
      have hd:decide ((k:Int)≤((max i t:Nat):Int))=true:=decide_eq_true (by omega)
      rw [show max i t+1 - k=(max i t+1 - (k+1))+1 by omega,List.range'_succ,List.all_cons]
      simp only [q3kf,q3kj,Dt.eval,q3qj,hd,cond_true]
      by_cases c:k=i
      · subst c
        simp only [beq_self_eq_true,cond_true,q3kn,q3kl,Dt.eval,hw,decide_true,Bool.true_or,Bool.true_and]
        exact ih (by omega) (by omega)
      · have hid : (ptA P i).1 ≠ (ptA P k).1 := fun h => c (id_k hP hkP hi h.symm)
        have e1:=q37b d (hP.ok _ (q371 hi)) (hP.ok _ (q371 hkP)) hid ht
        simp only [show ((k:Int) == (i:Int))=false from beq_eq_false_iff_ne.2 (by omega),cond_false,q3kq,q3ku,q3k1,Dt.eval,inbK hi,inbK hkP,eltK (q370 hi),eltK (q370 hkP),cond_true,e1,bne_self_eq_false,decide_eq_false c,Bool.false_or]
        rw [show ldB P n dd i k=qlx (ofP (ptA P i)) (ofP (ptA P k)) n dd from rfl]
        cases qlx (ofP (ptA P i)) (ofP (ptA P k)) n dd with
        | false=>simp only [Bool.not_false,cond_true,q3ky,Dt.eval,Bool.false_and]
        | true =>
          simp only [Bool.not_true,cond_false,q3kn,q3kl,Dt.eval,hw,Bool.true_and]
          exact ih (by omega) (by omega)
    · have hke : k = max i t + 1 := by omega
      have hd:decide ((k:Int)≤((max i t:Nat):Int))=false:=decide_eq_false (by omega)
      simp only [q3kf,q3l0,Dt.eval,q3qj,hd,cond_false]
      rw [hke,Nat.sub_self];rfl
theorem q3ql (d:Nat) (hd:5000≤d) (hP:FOk P) (ht:TOk n dd) {i t:Nat} (hi:i<P.length) (htl:t<P.length):q3l3 d ((P,()),(n,dd,()),((i:Int),()),((t:Int),()),())=some (ruB P n dd i t):=by
  have hlen:=hP.len
  have e:=q3qk d hP ht hi htl d (min i t) (by omega) (by omega)
  simp only [q3l3,q3k7,q3kb,Dt.eval,q3qi]
  exact e
theorem q3qm (d:Nat) (hd:5000≤d) (ha:q2wt d ()=some true) (hP:FOk P) (ht:TOk n dd) {N:List N3} {r:Nat} {x:N3} (hr:N[r]?=some x) {t m:Nat} (htl:t<P.length):∀ (f i c:Nat),P.length - i<f→i≤P.length→c≤i→m=c+cntR P n dd i (P.length - i) t →
    iter (q3n6 d) f (x.1,(m:Int),(t:Int),(c:Int),(i:Int),P,n,dd,(r:Int),N)=some true
  | 0,i,c,h,_,_,_=>by omega
  | f + 1, i, c, hf, hi, hci, hm => by
    have ih:=q3qm d hd ha hP ht hr (m:=m) htl f (i+1)
    rw [iter]
    revert ih
    generalize iter (q3n6 d) f=self
    intro ih
    unfold q3n6
    have hlen:=hP.len
    by_cases hl:i<P.length
    · have hw := q36l (show i < 1000000 by omega)
      have hwc:=q36l (show c<1000000 by omega)
      have hcut:cntR P n dd i (P.length - i) t=(if (decide (i≠t)&&ruB P n dd i t)=true then 1 else 0)+cntR P n dd (i+1) (P.length - (i+1)) t:=by
        unfold cntR
        rw [show P.length - i=(P.length - (i+1))+1 by omega,List.range'_succ,List.countP_cons,Nat.add_comm]
      rw [hcut] at hm
      simp only [q3mt,q3mx,q3lb,Dt.eval,decK hl,cond_true]
      by_cases c1:i=t
      · rw [if_neg (by simp [c1]), Nat.zero_add] at hm
        simp only [show ((i:Int) != (t:Int))=false by rw [c1];exact bne_self_eq_false' ..,cond_false,Dt.eval,q3n3,q3n1,hw]
        exact ih c (by omega) (by omega) (by omega) hm
      · have e1 := q3ql d hd hP ht hl htl
        simp only [show ((i:Int) != (t:Int))=true from bne_iff_ne.2 (by omega),cond_true,Dt.eval,e1]
        rw [decide_eq_true c1,Bool.true_and] at hm
        cases hb:ruB P n dd i t with
        | true =>
          rw [hb,if_pos rfl] at hm
          simp only [cond_true,Dt.eval,q3n3,q3n1,q3mz,hw,hwc]
          exact ih (c+1) (by omega) (by omega) (by omega) (by omega)
        | false =>
          rw [hb,if_neg (by decide),Nat.zero_add] at hm
          simp only [cond_false,Dt.eval,q3n3,q3n1,hw]
          exact ih c (by omega) (by omega) (by omega) hm
    · have hie : i = P.length := by omega
      subst hie
      have hr2:r<N.length:=(List.getElem?_eq_some_iff.1 hr).1
      have hm2:(m:Int)=(c:Int):=by rw [hm,Nat.sub_self];rfl
      simp only [q3mt,q3n4,q3lb,Dt.eval,decN hl,cond_false,inbK hr2,cond_true,eltK hr,beq_self_eq_true,hm2,ha]
end
theorem q3qn (d:Nat) (hd:5000≤d) (ha:q2wt d ()=some true) (P:List N3) {n dd:Int} (hn:i64B n=true) (hdd:i64B dd=true) (id:Int) :
    q3n7 d ((P,()),(n,dd,()),(id,()),())=some true:=by
  have e1:=q3oq d P hn hdd
  simp only [q3n7,q3lb,q3lh,q3ll,Dt.eval,e1]
  cases g1:(!great (ptsL P).length&&(qsv (ptsL P) n dd == 0)) with
  | false=>simp only [Bool.not_false,cond_true,q3lp,q3lb,Dt.eval,ha]
  | true =>
    rw [Bool.and_eq_true,beq_iff_eq] at g1
    rcases q37s d hd P hn hdd with ⟨h,e⟩ | ⟨_,hP,hT,r,N,e,gr,gN,gid⟩
    · exact absurd g1.2 h
    have hx:=q3nf hP gr gN gid
    have hPl:=hP.len
    have hpl:(ptsL P).length=P.length:=List.length_map _
    have e2:quz d ((P,()),(n,dd,()),())=some (qse (ptsL P) n dd):=qv0 _ _ (by unfold quy;simp only [hn,hdd,Bool.and_self])
    have e3:=q386 d hd r N id
    rw [hx.dep] at e3
    have e4:qqy d ((P,()),(id,()),())=some (atI (ptsL P) id):=qqz _ _ (by unfold qqx;rw [decide_eq_true_eq];show (ptsL P).length≤_;rw [hpl];omega)
    have e5:=q36z d hd r N
    rw [hx.chk] at e5
    have hlN:(((N.length:Nat):Int) != ((P.length:Nat):Int))=false:=by rw [gN];exact bne_self_eq_false' ..
    -- the ID is met or not
    have hcase:(∃ t,t<P.length∧(ptA P t).1=id∧atI (ptsL P) id=t∧dpt N id (N.length+1) r=some (cntR P n dd 0 P.length t))∨(atI (ptsL P) id=-1∧dpt N id (N.length+1) r=none):=by
      by_cases c:∃ t,t<P.length∧(ptA P t).1=id
      · obtain ⟨t, t1, rfl⟩ := c
        have:=q3qe gr (fun j k h5 _ h6=>hP.inc j k h5 h6) (fun k _ hk=>gid k hk) t (Nat.zero_le _) t1 (N.length+1) (by omega)
        exact .inl ⟨t,t1,rfl,q3o8 hP t1,this⟩
      · refine .inr ⟨qhy (qi0 fun j p hj hp => ?_), ?_⟩
        · have hjl : j < P.length := by have := (List.getElem?_eq_some_iff.1 hj).1; omega
          rw [q372 hjl] at hj
          injection hj with hj
          subst hj
          exact c ⟨j,hjl,hp⟩
        · have hs := q383 (id := id) hx.tr (f := N.length + 1) hx.incL (by rw [List.length_range]; omega)
          cases hq:dpt N id (N.length+1) r with
          | none=>rfl
          | some k =>
            rw [hq] at hs
            obtain ⟨p,p1,p2⟩:=hs.1 rfl
            rw [List.mem_range] at p1
            exact absurd ⟨p,p1,by rw [← gid p p1];exact p2⟩ c
    simp only [Bool.not_true,cond_false,q3lt,q3lx,q3m1,q3m5,q3m9,q3lb,Dt.eval,e,e2,e3,e4,bne_self_eq_false,e5,hlN]
    by_cases c0:0<P.length
    · obtain ⟨k, x, rfl, k2, k3, k4⟩ := q3qg gr c0 gid g1.2
      have hc0:decide (((P.length:Nat):Int) > 0)=true:=decide_eq_true (by omega)
      have hc1:(((P.length:Nat):Int) == 0)=false:=beq_eq_false_iff_ne.2 (by omega)
      simp only [k4,beq_self_eq_true,hc0,Bool.not_true,cond_false]
      rcases hcase with ⟨t,t1,_,t3,t4⟩ | ⟨t3,t4⟩
      · have hg : decide ((t : Int) ≥ 0) = true := decide_eq_true (by omega)
        have hg2:decide ((t:Int)<0)=false:=decide_eq_false (by omega)
        simp only [t3,t4,beq_self_eq_true,hg,Bool.not_true,cond_false,q3mf,q3ml,q3mp,Dt.eval,hc1,hg2]
        exact q3qm d hd ha hP hT k3 t1 d 0 0 (by omega) (Nat.zero_le _) (Nat.le_refl _) (by rw [Nat.zero_add,Nat.sub_zero])
      · simp only [t3,t4,show (((6:Int) == 0) == decide ((-1:Int)≥0))=true from rfl,Bool.not_true,cond_false,q3mf,q3mh,q3lb,Dt.eval,hc1,show decide ((-1:Int)<0)=true from rfl,cond_true,beq_self_eq_true,ha]
    · have hP0 : P = [] := List.length_eq_zero_iff.1 (by omega)
      subst hP0
      have hl0:=q3qh g1.2
      rcases hcase with ⟨t,t1,_⟩ | ⟨t3,t4⟩
      · exact absurd t1 (by simp)
      · simp only [hl0,List.length_nil,t3,t4,show (false == decide (((0:Nat):Int) > 0))=true from rfl,show (((6:Int) == 0) == decide ((-1:Int)≥0))=true from rfl,Bool.not_true,cond_false,q3mf,q3mh,q3lb,Dt.eval,show ((((0:Nat):Int)) == 0)=true from rfl,cond_true,beq_self_eq_true,ha]
end Go.Proofs.Ytoakhncbmpdacaa
