/- Walks of the references; the orders agree; examples. -/
import Derived.Test.YtpgpbhjkgciggaaGg
set_option linter.unusedSimpArgs false
set_option linter.unusedVariables false
namespace Go.Pel
open Go Go.Tx
theorem q2ta {l:List T3} (h:FldOk l):qh2 (ptsL l)=0:=by
  refine qh6 (by rw [qjq];exact h.len) (fun P hP=>?_) ((qh0 _).2 fun i P Q hP hQ=>?_)
  · obtain ⟨p, hp, rfl⟩ := q2o8 hP
    exact h.ok p hp
  · unfold ptsL at hP hQ
    rw [List.getElem?_map,Option.map_eq_some_iff] at hP hQ
    obtain ⟨p,hp,rfl⟩:=hP
    obtain ⟨q,hq,rfl⟩:=hQ
    obtain ⟨h1,rfl⟩:=List.getElem?_eq_some_iff.1 hp
    obtain ⟨h2,rfl⟩:=List.getElem?_eq_some_iff.1 hq
    exact (List.pairwise_iff_getElem.1 h.inc) i (i+1) h1 h2 (by omega)
theorem FldOk.sub {l s:List T3} (h:FldOk l) (hs:s.Sublist l):FldOk s :=
  ⟨Nat.le_trans hs.length_le h.len,fun p hp=>h.ok p (hs.mem hp),h.inc.sublist hs⟩
def LdQ (l:List T3) (t:Q2) (p:T3):Prop:=Lead l t.1 t.2.1 p
theorem q2tb {l:List T3} {p:T3} {n dd:Int} {a:List T3} (ha:Crest l p n dd a) (hp:p∈l):∀ x∈a,∃ q∈l,q.1=x.2.2.1:=by
  induction ha with
  | last p n dd _ =>
    intro x hx
    rw [List.mem_singleton] at hx
    subst hx
    exact ⟨p,hp,rfl⟩
  | next p n dd n' dd' p' r h1 h2 _ ih =>
    intro x hx
    rcases List.mem_cons.1 hx with rfl | hx
    · exact ⟨p,hp,rfl⟩
    · exact ih h2.1 x hx
theorem Crest.start {l:List T3} {p:T3} {n dd n' dd':Int} {r:List T3} (h:Crest l p n dd ((n,dd,p.1,()) :: r)):Crest l p n' dd' ((n',dd',p.1,()) :: r):=by
  cases h with
  | last _ _ _ hn=>exact .last p n' dd' hn
  | next _ _ _ m dm p' r h1 h2 h3=>exact .next p n' dd' m dm p' r h1 h2 h3
structure CrOk (l:List T3) (n dd:Int) (a:List T3):Prop where
  fld:FldOk l
  rat:qe0 n dd=0
  cr:∃ p,Lead l n dd p∧Crest l p n dd a
theorem q2tc {L l:List T3} {n dd:Int} {a:List T3} (hL:FldOk L) (hs:l.Sublist L) (h:CrOk l n dd a) {t:Q2} (ht:okQ t) (hle:leQ n dd t.1 t.2.1):LdQ l t (ptAt L a t)∧(nxA a t=none→q2ok l (ptAt L a t)):=by
  obtain ⟨p,hp,hc⟩:=h.cr
  obtain ⟨q,x,r,h1,h2,h3,h4,h5⟩:=q2p9 h.fld hc h.rat hp ht.den hle
  have hx:a[idxL t.1 t.2.1 a - 1]?=some x:=by
    rw [← List.head?_drop,h2];rfl
  have hq:ptAt L a t=q:=by
    unfold ptAt idAt
    rw [hx]
    show ptI L x.2.2.1=q
    rw [h3];exact q2rc hL (hs.mem h4.1)
  rw [hq]
  refine ⟨h4,fun hn=>?_⟩
  have hr:r=[]:=by
    have e:a.drop (idxL t.1 t.2.1 a)=r:=by
      have:=congrArg List.tail h2
      rw [List.tail_drop] at this
      rw [show idxL t.1 t.2.1 a=idxL t.1 t.2.1 a - 1+1 by omega]
      exact this
    unfold nxA at hn
    rw [Option.map_eq_none_iff,List.getElem?_eq_none_iff] at hn
    rw [← e,List.drop_eq_nil_of_le hn]
  subst hr
  cases h5 with
  | last _ _ _ hn=>exact hn
  | next _ _ _ _ _ _ _ _ _ hc=>obtain ⟨r,hr⟩:=hc.head;cases hr
theorem q2td {p q r:T3} {n d:Int} (h:qld (ofP p) (ofP r) n d=true) (k:qld (ofP q) (ofP r) n d=false):qld (ofP p) (ofP q) n d=true:=by
  have h1:=(qtd ..).1 h
  have k1:=qtg k
  refine (qtd ..).2 ?_
  generalize (ofP p).a*d+(ofP p).b*n=x at *
  generalize (ofP q).a*d+(ofP q).b*n=y at *
  generalize (ofP r).a*d+(ofP r).b*n=z at *
  omega
theorem q2te {p q:T3} {n d:Int} (h:qld (ofP p) (ofP q) n d=true) (k:qld (ofP q) (ofP p) n d=true):False:=by
  have h1:=(qtd ..).1 h
  have k1:=(qtd ..).1 k
  generalize (ofP p).a*d+(ofP p).b*n=x at *
  generalize (ofP q).a*d+(ofP q).b*n=y at *
  omega
theorem q2tf {L la lb:List T3} (ha:la.Sublist L) (hb:lb.Sublist L) (hc:∀ p∈L,p∈la∨p∈lb) {t:Q2} {P Q p q:T3} (hP:LdQ la t P) (hQ:LdQ lb t Q) (ho:ordM P Q t=(p,q)):LdQ L t p:=by
  unfold ordM at ho
  split at ho
  · next k =>
    injection ho with h1 h2
    subst h1 h2
    refine ⟨hb.mem hQ.1,fun y hy=>?_⟩
    cases c:qld (ofP y) (ofP Q) t.1 t.2.1 with
    | false=>rfl
    | true =>
      rcases hc y hy with hy | hy
      · have h1 := hP.2 y hy
        have:=q2td c (show qld (ofP P) (ofP Q) t.1 t.2.1=false by
          cases c2:qld (ofP P) (ofP Q) t.1 t.2.1 with
          | false=>rfl
          | true=>exact (q2te k c2).elim)
        rw [this] at h1;cases h1
      · rw [hQ.2 y hy] at c;cases c
  · next k =>
    injection ho with h1 h2
    subst h1 h2
    have k:qld (ofP Q) (ofP P) t.1 t.2.1=false:=by simpa using k
    refine ⟨ha.mem hP.1,fun y hy=>?_⟩
    cases c:qld (ofP y) (ofP P) t.1 t.2.1 with
    | false=>rfl
    | true =>
      rcases hc y hy with hy | hy
      · rw [hP.2 y hy] at c;cases c
      · have h1 := hQ.2 y hy
        rw [q2td c k] at h1;cases h1
theorem q2tg {P Q p q:T3} {t s:Q2} (hi:p.1≠q.1) (h:ordM P Q t=(p,q)) (hl:qld (ofP q) (ofP p) s.1 s.2.1=false):ordM P Q s=(p,q):=by
  unfold ordM at h ⊢
  split at h
  · injection h with h1 h2
    subst h1 h2
    rw [q2o1 (p:=ofP P) (q:=ofP Q) (fun e=>hi e.symm),hl];rfl
  · injection h with h1 h2
    subst h1 h2
    rw [hl];rfl
theorem q2th {l:List T3} (h:FldOk l) {p p':T3} {t u:Q2} (ht:okQ t) (hu:okQ u) (htu:ltQ t u=true) (hp:LdQ l t p) (hst:∀ s,okQ s→ltQ t s=true→ltQ s u=true→LdQ l s p) (hp':LdQ l u p') {R':List T3} (hc:Crest l p' u.1 u.2.1 ((u.1,u.2.1,p'.1,()) :: R')) :
    ∃ R,Crest l p t.1 t.2.1 ((t.1,t.2.1,p.1,()) :: R)∧∀ o,(o.getLast?.map fun y=>y.2.2.1)=some p.1→addM o u p'.1++R'=o++R:=by
  by_cases hi:p'.1=p.1
  · obtain rfl := q2oe h hp'.1 hp.1 hi
    refine ⟨R',hc.start,fun o ho=>?_⟩
    unfold addM
    rw [if_pos ho]
  · refine ⟨(u.1, u.2.1, p'.1, ()) :: R', .next p t.1 t.2.1 u.1 u.2.1 p' _ ?_ hp' hc, fun o ho => ?_⟩
    · have hmin:∀ q∈l,∀ m,p.2.2.1<q.2.2.1→mtP (p,q)=some m→¬ m.1*u.2.1<u.1*m.2.1:=fun q hq m hb hm k=>by
        have hpo:=h.ok p hp.1
        have hqo:=h.ok q hq
        obtain ⟨_,g1,g2,g3,_⟩:=q2np (x:=(p,q)) hpo hqo hm
        have o1:=(qe7 g1).1
        have om:okQ (m.1,m.2.1,()):=by
          have hbd:∀ {z:Int},z.natAbs≤4194304→i64B z=true:=fun {z} hz=>by
            unfold i64B;simp only [Bool.and_eq_true,decide_eq_true_eq];omega
          exact ⟨g1,hbd (z:=m.1) g2,hbd (z:=m.2.1) (by omega)⟩
        have k1:=q2on h hp hq hb hm
        have k2:ltQ t (m.1,m.2.1,())=true:=(q2qr ..).2 ((q2mb ..).1 k1)
        have k3:ltQ (m.1,m.2.1,()) u=true:=(q2qr ..).2 k
        have hl:=hst _ om k2 k3
        have hiq:p.1≠q.1:=fun e=>by rw [q2oe h hp.1 hq e] at hb;omega
        have k4:=q2oj hpo hqo hb hm m.1 m.2.1
        have k5:gtM m.1 m.2.1 m=false:=by
          cases c:gtM m.1 m.2.1 m with
          | false=>rfl
          | true=>have:=(q2mb ..).1 c;omega
        rw [k5] at k4
        have k6:=hl.2 q hq
        have k7:qld (ofP q) (ofP p) m.1 m.2.1=true:=by rw [q2o1 (p:=ofP p) (q:=ofP q) hiq,k4];rfl
        have k6':qld (ofP q) (ofP p) m.1 m.2.1=false:=k6
        rw [k7] at k6';cases k6'
      refine ⟨⟨p',hp'.1,?_⟩,hmin⟩
      have hpo:=h.ok p hp.1
      have hpo':=h.ok p' hp'.1
      have l1:qld (ofP p') (ofP p) u.1 u.2.1=true:=hp'.ahead h hp.1 (fun e=>hi e.symm)
      have l2:qld (ofP p) (ofP p') t.1 t.2.1=true:=hp.ahead h hp'.1 hi
      have l3:qld (ofP p) (ofP p') u.1 u.2.1=false:=by rw [q2o1 (p:=ofP p') (q:=ofP p) hi,l1];rfl
      have hf:p.2.2.1<p'.2.2.1:=by
        rcases (by omega:p.2.2.1<p'.2.2.1 ∨ ¬ p.2.2.1<p'.2.2.1) with c | c
        · exact c
        · have := q2oi hpo hpo' ht.den hu.den (show leQ t.1 t.2.1 u.1 u.2.1 by have := (q2qr t u).1 htu; unfold leQ; omega) c l2
          rw [l3] at this;cases this
      obtain ⟨m,hm⟩:=q2oh (p:=p) (q:=p') (by omega)
      obtain ⟨_,g1,_⟩:=q2np (x:=(p,p')) hpo hpo' hm
      have k:=hmin p' hp'.1 m hf hm
      have k4:=q2oj hpo hpo' hf hm u.1 u.2.1
      rw [l3] at k4
      have k5:¬ u.1*m.2.1<m.1*u.2.1:=fun c=>by rw [(q2mb ..).2 c] at k4;cases k4
      obtain ⟨e1,e2⟩:=q_eq g1 hu.1 (by omega)
      exact ⟨m,hf,hm,e1,e2⟩
    · unfold addM
      rw [if_neg (by rw [ho];exact fun k=>hi (Option.some.inj k).symm),List.append_assoc]
      rfl
theorem q2ti (o:List T3) (t:Q2) (i:Int):((addM o t i).getLast?.map fun y=>y.2.2.1)=some i:=by
  unfold addM
  split
  · next h=>exact h
  · rw [List.getLast?_append];rfl
structure Parts (L la lb:List T3) (n dd:Int) (A B:List T3):Prop where
  m:MOk L A B
  a:CrOk la n dd A
  b:CrOk lb n dd B
  sa:la.Sublist L
  sb:lb.Sublist L
  cov:∀ p∈L,p∈la∨p∈lb
  ok:okQ (n,dd,())
  ge:∀ t,(∃ x∈A,t=toQ x)∨(∃ x∈B,t=toQ x)→ltQ t (n,dd,())=false
theorem q2tk {n dd:Int} {t:Q2} (h:ltQ t (n,dd,())=false):leQ n dd t.1 t.2.1:=q2qs h
theorem q2tl {l:List T3} (h:FldOk l) {p q:T3} (hp:p∈l) (hq:q∈l) {m s:Q2} (hf:q2re p q=some m) (hs:ltQ s m=true):qld (ofP q) (ofP p) s.1 s.2.1=false:=by
  unfold q2re at hf
  split at hf
  · next hb =>
    rw [Option.map_eq_some_iff] at hf
    obtain ⟨x,hx,rfl⟩:=hf
    have hi:p.1≠q.1:=fun e=>by rw [q2oe h hp hq e] at hb;omega
    have k:=q2oj (h.ok p hp) (h.ok q hq) hb hx s.1 s.2.1
    rw [(q2mb s.1 s.2.1 x).2 ((q2qr ..).1 hs)] at k
    rw [q2o1 (p:=ofP p) (q:=ofP q) hi,k];rfl
  · cases hf
theorem q2tm {p q:T3} (hf:q2re p q=none):¬ p.2.2.1<q.2.2.1:=fun c=>by
  unfold q2re at hf
  rw [if_pos c] at hf
  obtain ⟨m,hm⟩:=q2oh (p:=p) (q:=q) (by omega)
  rw [hm] at hf;cases hf
theorem q2tn {p q:T3} {m:Q2} (hf:q2re p q=some m):p.2.2.1<q.2.2.1:=by
  unfold q2re at hf
  split at hf
  · assumption
  · cases hf
theorem q2to {s m:Q2} {r:List Q2} (hr:∀ u∈r,okQ u) (hs:okQ s) (hm:okQ m) (h:ltQ s m=true) (k:bfM m r.head?=true):bfM s r.head?=true:=by
  cases r with
  | nil=>rfl
  | cons u r=>exact q2qt hs hm (hr u (List.mem_cons_self ..)) h k
theorem q2tp {L la lb:List T3} {n dd:Int} {A B:List T3} (h:Parts L la lb n dd A B) {r:List Q2} (hr:∀ u∈r,okQ u∧ltQ u (n,dd,())=false) {w:Q2} {z:T3} (hw:okQ w) (hz:LdQ L w z) (hb:bfM w r.head?=true) (hst:∀ s,okQ s→ltQ w s=true→bfM s r.head?=true→LdQ L s z) (hn:r=[]→q2ok L z) {o:List T3} (ho:(o.getLast?.map fun y=>y.2.2.1)=some z.1)
    (ih:∀ u r',r=u :: r'→∀ o,∃ R,Crest L (ordM (ptAt L A u) (ptAt L B u) u).1 u.1 u.2.1 ((u.1,u.2.1,(ordM (ptAt L A u) (ptAt L B u) u).1.1,()) :: R)∧mrgL L A B r o=addM o u (ordM (ptAt L A u) (ptAt L B u) u).1.1++R) :
    ∃ R,Crest L z w.1 w.2.1 ((w.1,w.2.1,z.1,()) :: R)∧mrgL L A B r o=o++R:=by
  cases r with
  | nil=>exact ⟨[],.last z _ _ (hn rfl),by rw [List.append_nil];rfl⟩
  | cons u r =>
    obtain ⟨ou,gu⟩:=hr u (List.mem_cons_self ..)
    obtain ⟨R',hc,e⟩:=ih u r rfl o
    have hfld:=h.m.fld
    obtain ⟨a1,_⟩:=q2tc hfld h.sa h.a ou (q2tk gu)
    obtain ⟨b1,_⟩:=q2tc hfld h.sb h.b ou (q2tk gu)
    have hL:=q2tf h.sa h.sb h.cov a1 b1 (p:=(ordM (ptAt L A u) (ptAt L B u) u).1) (q:=(ordM (ptAt L A u) (ptAt L B u) u).2) rfl
    obtain ⟨R,k1,k2⟩:=q2th hfld hw ou hb hz (fun s os s1 s2=>hst s os s1 s2) hL hc
    exact ⟨R,k1,by rw [e];exact k2 o ho⟩
theorem q2tq {L la lb:List T3} {n dd:Int} {A B:List T3} (h:Parts L la lb n dd A B) {T:List Q2} (hT:TOk T A B):∀ (r pre:List Q2) (t:Q2) (o:List T3),T=pre++t :: r →
    ∃ R,Crest L (ordM (ptAt L A t) (ptAt L B t) t).1 t.1 t.2.1 ((t.1,t.2.1,(ordM (ptAt L A t) (ptAt L B t) t).1.1,()) :: R)∧mrgL L A B (t :: r) o=addM o t (ordM (ptAt L A t) (ptAt L B t) t).1.1++R:=by
  intro r
  induction r with
  | nil=>exact fun pre t o e=>go [] pre t o e (fun u r' k=>by cases k)
  | cons u r ih=>exact fun pre t o e=>go (u :: r) pre t o e (fun u' r' k=>by
      injection k with k1 k2
      subst k1 k2
      exact fun o=>ih (pre ++ [t]) u o (by rw [e];simp))
where
  go (r pre:List Q2) (t:Q2) (o:List T3) (e:T=pre++t :: r)
    (ih:∀ u r',r=u :: r'→∀ o,∃ R,Crest L (ordM (ptAt L A u) (ptAt L B u) u).1 u.1 u.2.1 ((u.1,u.2.1,(ordM (ptAt L A u) (ptAt L B u) u).1.1,()) :: R)∧mrgL L A B r o=addM o u (ordM (ptAt L A u) (ptAt L B u) u).1.1++R) :
      ∃ R,Crest L (ordM (ptAt L A t) (ptAt L B t) t).1 t.1 t.2.1 ((t.1,t.2.1,(ordM (ptAt L A t) (ptAt L B t) t).1.1,()) :: R)∧mrgL L A B (t :: r) o=addM o t (ordM (ptAt L A t) (ptAt L B t) t).1.1++R:=by
    have htT:t∈T:=by rw [e];simp
    have ht:=hT.ok t htT
    have hfld:=h.m.fld
    have hge:=h.ge t (hT.of t htT)
    obtain ⟨a1,a2⟩:=q2tc hfld h.sa h.a ht (q2tk hge)
    obtain ⟨b1,b2⟩:=q2tc hfld h.sb h.b ht (q2tk hge)
    have hpw:=hT.pw
    rw [e,List.pairwise_append] at hpw
    obtain ⟨_,p2,p3⟩:=hpw
    obtain ⟨p4,_⟩:=List.pairwise_cons.1 p2
    have hrT:∀ u∈r,okQ u∧ltQ u (n,dd,())=false:=fun u hu=>by
      have:u∈T:=by rw [e];exact List.mem_append_right _ (List.mem_cons_of_mem _ hu)
      exact ⟨hT.ok u this,h.ge u (hT.of u this)⟩
    have hbt:bfM t r.head?=true:=by
      cases r with
      | nil=>rfl
      | cons u r=>exact p4 u (List.mem_cons_self ..)
    have stay:∀ s,okQ s→ltQ t s=true→bfM s r.head?=true→LdQ la s (ptAt L A t)∧LdQ lb s (ptAt L B t):=fun s os hs hb=>by
      have i1:=q2ro (a:=A) (fun x hx=>h.m.qa hx) ht os hs (fun y hy=>q2rn h.m hT e os hb (.inl hy))
      have i2:=q2ro (a:=B) (fun x hx=>h.m.swap.qa hx) ht os hs (fun y hy=>q2rn h.m hT e os hb (.inr hy))
      have g1:ptAt L A s=ptAt L A t:=by unfold ptAt idAt;rw [i1]
      have g2:ptAt L B s=ptAt L B t:=by unfold ptAt idAt;rw [i2]
      have gs:ltQ s (n,dd,())=false:=by
        cases c:ltQ s (n,dd,()) with
        | false=>rfl
        | true=>rw [q2qt ht os h.ok hs c] at hge;cases hge
      have k1:=(q2tc hfld h.sa h.a os (q2tk gs)).1
      have k2:=(q2tc hfld h.sb h.b os (q2tk gs)).1
      rw [g1] at k1
      rw [g2] at k2
      exact ⟨k1,k2⟩
    have hnone:r=[]→q2ok la (ptAt L A t)∧q2ok lb (ptAt L B t):=fun hr=>by
      subst hr
      have hno:∀ y,y∈T→ltQ t y=true→False:=fun y hy k=>by
        rw [e] at hy
        rcases List.mem_append.1 hy with hy | hy
        · rw [q2qv (p3 y hy t (List.mem_cons_self ..))] at k;cases k
        · rw [List.mem_singleton] at hy
          subst hy
          rw [q2qu] at k;cases k
      refine ⟨a2 ?_,b2 ?_⟩
      · cases c : nxA A t with
        | none=>rfl
        | some y=>obtain ⟨k,x,hx,rfl⟩:=q2rj c;exact (hno _ (hT.ma x hx) k).elim
      · cases c : nxA B t with
        | none=>rfl
        | some y=>obtain ⟨k,x,hx,rfl⟩:=q2rj c;exact (hno _ (hT.mb x hx) k).elim
    have hstep:mrgL L A B (t :: r) o=mrgL L A B r (q2rf L A B t r.head? o):=rfl
    rw [hstep]
    unfold q2rf
    generalize ptAt L A t=P at a1 a2 stay hnone ⊢
    generalize ptAt L B t=Q at b1 b2 stay hnone ⊢
    obtain ⟨p,q,hpq⟩:∃ p q,ordM P Q t=(p,q):=⟨_,_,rfl⟩
    rw [hpq]
    have hPL:=h.sa.mem a1.1
    have hQL:=h.sb.mem b1.1
    have hpL:=q2tf h.sa h.sb h.cov a1 b1 hpq
    have hqm:=(q2rr hPL hQL hpq).2
    have hPQ:(p=P∧q=Q)∨(p=Q∧q=P):=by
      unfold ordM at hpq
      split at hpq<;>injection hpq with h1 h2
      · exact .inr ⟨h1.symm,h2.symm⟩
      · exact .inl ⟨h1.symm,h2.symm⟩
    have hfast:∀ z:T3,p.2.2.1≤z.2.2.1→q.2.2.1≤z.2.2.1→r=[]→q2ok L z:=fun z h1 h2 hr y hy=>by
      obtain ⟨fa,fb⟩:=hnone hr
      rcases h.cov y hy with hy | hy
      · have := fa y hy
        rcases hPQ with ⟨rfl,rfl⟩ | ⟨rfl,rfl⟩<;>omega
      · have := fb y hy
        rcases hPQ with ⟨rfl,rfl⟩ | ⟨rfl,rfl⟩<;>omega
    have keepP:∀ s,okQ s→ltQ t s=true→bfM s r.head?=true→(p.1≠q.1→qld (ofP q) (ofP p) s.1 s.2.1=false)→LdQ L s p:=fun s os hs hb hl=>by
      obtain ⟨k1,k2⟩:=stay s os hs hb
      by_cases hi:p.1=q.1
      · have hpq' := q2oe hfld hpL.1 hqm hi
        have:P=p∧Q=p:=by rcases hPQ with ⟨rfl,rfl⟩ | ⟨rfl,rfl⟩<;>exact ⟨by simp [hpq'],by simp [hpq']⟩
        obtain ⟨e1,e2⟩:=this
        rw [e1] at k1
        rw [e2] at k2
        exact q2tf h.sa h.sb h.cov k1 k2 (q:=p) (by unfold ordM;rw [q2o0];rfl)
      · exact q2tf h.sa h.sb h.cov k1 k2 (q2tg hi hpq (hl hi))
    show ∃ R,Crest L p t.1 t.2.1 ((t.1,t.2.1,p.1,()) :: R)∧mrgL L A B r (match q2re p q with | none=>addM o t p.1 | some m=>if bfM m r.head?=true then addM (addM o t p.1) m q.1 else addM o t p.1)=addM o t p.1++R
    cases hf:q2re p q with
    | none =>
      have hb:=q2tm hf
      exact q2tp h hrT ht hpL hbt (fun s os hs hbs=>keepP s os hs hbs fun hi=>by
        have l1:=q2rq hi hpq
        have l2:=q2oi (hfld.ok p hpL.1) (hfld.ok q hqm) ht.den os.den (show leQ t.1 t.2.1 s.1 s.2.1 by have:=(q2qr t s).1 hs;unfold leQ;omega) hb l1
        rw [q2o1 (p:=ofP p) (q:=ofP q) hi,l2];rfl) (hfast p (Int.le_refl _) (by omega)) (q2ti ..) ih
    | some m =>
      obtain ⟨k1,k2,k3,k4,k5⟩:=q2rs hfld hPL hQL hpq hf
      have hbq:=q2tn hf
      show ∃ R,Crest L p t.1 t.2.1 ((t.1,t.2.1,p.1,()) :: R)∧mrgL L A B r (if bfM m r.head?=true then addM (addM o t p.1) m q.1 else addM o t p.1)=addM o t p.1++R
      cases hb:bfM m r.head? with
      | true =>
        rw [if_pos rfl]
        obtain ⟨s1,s2⟩:=stay m k2 k3 hb
        have hqL:=q2tf h.sa h.sb h.cov s1 s2 k4
        obtain ⟨R2,c1,c2⟩:=q2tp h hrT (z:=q) k2 hqL hb (fun s os hs hbs=>by
          obtain ⟨j1,j2⟩:=stay s os (q2qt ht k2 os k3 hs) hbs
          refine q2tf h.sa h.sb h.cov j1 j2 (q:=p) (q2tg (fun e=>k1 e.symm) k4 ?_)
          have l1:=q2rq (fun e=>k1 e.symm) k4
          have l2:=q2oi (hfld.ok q hqm) (hfld.ok p hpL.1) k2.den os.den (show leQ m.1 m.2.1 s.1 s.2.1 by have:=(q2qr m s).1 hs;unfold leQ;omega) (by omega) l1
          rw [q2o1 (p:=ofP q) (q:=ofP p) (fun e=>k1 e.symm),l2];rfl) (hfast q (by omega) (Int.le_refl _)) (q2ti (addM o t p.1) m q.1) ih
        obtain ⟨R,d1,d2⟩:=q2th hfld ht k2 k3 hpL (fun s os hs1 hs2=>keepP s os hs1 (q2to (fun u hu=>(hrT u hu).1) os k2 hs2 hb) fun _=>q2tl hfld hpL.1 hqm hf hs2) hqL c1
        exact ⟨R,d1,by rw [c2];exact d2 _ (q2ti ..)⟩
      | false =>
        rw [if_neg (by decide)]
        exact q2tp h hrT ht hpL hbt (fun s os hs hbs=>keepP s os hs hbs fun _=>q2tl hfld hpL.1 hqm hf (by
          cases r with
          | nil=>cases hb
          | cons u r =>
            have ou:=(hrT u (List.mem_cons_self ..)).1
            have hbs:ltQ s u=true:=hbs
            have hb:ltQ m u=false:=hb
            cases c:ltQ s m with
            | true=>rfl
            | false =>
              cases c2:ltQ m s with
              | true=>rw [q2qt k2 os ou c2 hbs] at hb;cases hb
              | false=>rw [q2qw os k2 c c2] at hbs;rw [hbs] at hb;cases hb)) (fun hr=>by subst hr;cases hb) (q2ti ..) ih
end Go.Pel

namespace Go.Pel
open Go Go.Tx
theorem Parts.swap {L la lb:List T3} {n dd:Int} {A B:List T3} (h:Parts L la lb n dd A B):Parts L lb la n dd B A :=
  ⟨h.m.swap,h.b,h.a,h.sb,h.sa,fun p hp=>(h.cov p hp).symm,h.ok,fun t ht=>h.ge t ht.symm⟩
theorem q2tr {L la lb:List T3} {n dd:Int} {A B:List T3} (hL:FldOk L) (ok:okQ (n,dd,())) (sa:la.Sublist L) (sb:lb.Sublist L) (cov:∀ p∈L,p∈la∨p∈lb) {P Q:T3} (hP:Lead la n dd P) (hA:Crest la P n dd A) (hQ:Lead lb n dd Q) (hB:Crest lb Q n dd B):Parts L la lb n dd A B:=by
  have fa:=hL.sub sa
  have fb:=hL.sub sb
  obtain ⟨a1,a2,a3⟩:=q2oy (q2p7 fa hA ok.1 hP)
  obtain ⟨b1,b2,b3⟩:=q2oy (q2p7 fb hB ok.1 hQ)
  obtain ⟨r,hr⟩:=hA.head
  obtain ⟨s,hs⟩:=hB.head
  have h1:A[0]?=some (n,dd,P.1,()):=by rw [hr];rfl
  have h2:B[0]?=some (n,dd,Q.1,()):=by rw [hs];rfl
  refine ⟨⟨hL,q2ta hL,q2pl fa hA ok.2.1 ok.2.2 hP.1,q2pl fb hB ok.2.1 ok.2.2 hQ.1,a3,b3,a2,b2,⟨_,_,h1,h2,rfl⟩,fun x hx=>?_,fun x hx=>?_⟩,⟨fa,ok.1,P,hP,hA⟩,⟨fb,ok.1,Q,hQ,hB⟩,sa,sb,cov,ok,fun t ht=>?_⟩
  · obtain ⟨q, hq, e⟩ := q2tb hA hP.1 x hx
    exact ⟨q,sa.mem hq,e⟩
  · obtain ⟨q, hq, e⟩ := q2tb hB hQ.1 x hx
    exact ⟨q,sb.mem hq,e⟩
  · rcases ht with ⟨x, hx, rfl⟩ | ⟨x, hx, rfl⟩
    · show ltQ (toQ x) (toQ (n, dd, P.1, ())) = false
      exact q2rv a3 h1 hx
    · show ltQ (toQ x) (toQ (n, dd, Q.1, ())) = false
      exact q2rv b3 h2 hx
theorem q2ts {L la lb:List T3} {n dd:Int} {A B C:List T3} (h:Parts L la lb n dd A B) {p0:T3} (hp0:Lead L n dd p0) (hC:Crest L p0 n dd C):q2sb L A B=(C,0):=by
  have hfld:=h.m.fld
  have hT:=tOk h.m
  obtain ⟨x,y,hx,hy,hxy⟩:=h.m.st
  obtain ⟨PA,hPA,hA⟩:=h.a.cr
  obtain ⟨PB,hPB,hB⟩:=h.b.cr
  have hx0:toQ x=(n,dd,()):=by
    obtain ⟨r,hr⟩:=hA.head
    rw [hr] at hx
    injection hx with hx
    rw [← hx];rfl
  obtain ⟨r,hr⟩:=q2s7 h.m hx
  rw [hx0] at hr
  have hle:ltQ ((n,dd,()):Q2) (n,dd,())=false:=q2qu _
  have k1:=(q2tc hfld h.sa h.a h.ok (q2tk hle)).1
  have k2:=(q2tc hfld h.sb h.b h.ok (q2tk hle)).1
  have k3:=q2tf h.sa h.sb h.cov k1 k2 (p:=(ordM (ptAt L A (n,dd,())) (ptAt L B (n,dd,())) (n,dd,())).1) (q:=(ordM (ptAt L A (n,dd,())) (ptAt L B (n,dd,())) (n,dd,())).2) rfl
  obtain ⟨R,c1,c2⟩:=q2tq h hT r [] (n,dd,()) [] hr
  generalize (ordM (ptAt L A (n,dd,())) (ptAt L B (n,dd,())) (n,dd,())).1=p at k3 c1 c2
  obtain rfl:p=p0:=Lead.uniq hfld k3 hp0
  have hCe:=Crest.uniq hfld c1 k3.1 hC
  have ha:=q2p7 h.a.fld hA h.a.rat hPA
  have hb:=q2p7 h.b.fld hB h.b.rat hPB
  have kn:(q2sa L A&&q2sa L B)=true:=by
    rw [Bool.and_eq_true]
    exact ⟨List.all_eq_true.2 fun z hz=>q2s8.2 (h.m.ka z hz),List.all_eq_true.2 fun z hz=>q2s8.2 (h.m.kb z hz)⟩
  have hfrom:(A[0]?).map toQ=(B[0]?).map toQ:=by rw [hx,hy,Option.map_some,Option.map_some,hxy]
  unfold q2sb
  rw [if_neg (by simpa using h.m.chk),if_neg (show ¬ (chkL A≠0∨chkL B≠0) from fun k=>k.elim (fun k=>k ha) (fun k=>k hb)),if_neg (fun k=>k hfrom),if_neg (by rw [kn];decide),hr,c2,← hCe]
  rfl
end Go.Pel
namespace Go.Proofs.Ytpgpbhjkgciggaa
open Go Go.Tx Go.Pel
theorem q2tt (d:Nat) {L:List Di} (hL:L.length≤1000) (n:Int):∀ (f i:Nat),L.length - i<f→i≤L.length→iter (q2ca d) f (L,n,(i:Int))=some ((L.drop i).any fun x=>x.1 == n)
  | 0,i,hf,_=>by omega
  | f + 1, i, hf, hle => by
    have ih:=q2tt d hL n f (i+1)
    rw [iter]
    revert ih
    generalize iter (q2ca d) f=self
    intro ih
    unfold q2ca
    by_cases hlt:i<L.length
    · obtain ⟨x, hx⟩ : ∃ x, L[i]? = some x := ⟨_, List.getElem?_eq_getElem hlt⟩
      have ih:=ih (by omega) (by omega)
      rw [q2ms hx,List.any_cons]
      simp only [q2bw,q2c6,q2c0,q2c4,Dt.eval,q2mq hlt,cond_true,q2mp hlt,q2mo hx,q2mn (show i<1000000 by omega)]
      cases (x.1 == n) with
      | true=>rfl
      | false =>
        simp only [cond_false,Bool.false_or]
        exact ih
    · simp only [q2bw, q2c8, Dt.eval, q2mr hlt, cond_false]
      rw [List.drop_eq_nil_of_le (by omega)]
      rfl
def amB (L:List Di) (n:Int):Bool:=L.any fun x=>x.1 == n
theorem q2tu (d:Nat) (hd:5000≤d) {L:List Di} (hL:L.length≤1000) (n:Int):q2cb d ((L,()),(n,()),())=some (amB L n):=by
  have:=q2tt d hL n d 0 (by omega) (by omega)
  simp only [q2cb,q2bk,q2bo,q2bs,Dt.eval]
  exact this
set_option maxHeartbeats 4000000 in
theorem q2tv (d:Nat) (hd:5000≤d) (ea:q2bc d ()=some true) {l la lb:List T3} {n dd:Int} (ok:okQ (n,dd,())) (hf:fitC l n dd=true) (sa:la.Sublist l) (sb:lb.Sublist l) (cov:∀ p∈l,p∈la∨p∈lb) (one two:List Di) (self:(List Di×List Di×Int×List Diii×Int×Int×List Diii×List Diii)→Option q2cf):q2ev d self (one,two,(l.length:Int),l,n,dd,la,lb)=some true:=by
  obtain ⟨hl,hc,h0,hr,hok⟩:=q2q9 hf
  have chk:∀ {s:List T3},s.Sublist l→chk1 s n dd=0:=fun {s} hs=>by
    unfold chk1
    rw [if_neg (by simpa using q2ta (hok.sub hs))]
    exact hr
  unfold q2ev
  simp only [q2d9,q2e5,q2e7,q2cj,Dt.eval,q2mr (Nat.lt_irrefl _),cond_false]
  by_cases ha:la=[]
  · subst ha
    simp only [List.length_nil,show (((0:Nat):Int) == 0)=true from rfl,cond_true,Dt.eval,ea]
  · have ca : ((la.length : Int) == 0) = false := by rw [beq_eq_false_iff_ne]; have := List.length_pos_iff.2 ha; omega
    simp only [ca,cond_false]
    by_cases hb:lb=[]
    · subst hb
      simp only [List.length_nil,show (((0:Nat):Int) == 0)=true from rfl,cond_true,Dt.eval,ea]
    · have cb : ((lb.length : Int) == 0) = false := by rw [beq_eq_false_iff_ne]; have := List.length_pos_iff.2 hb; omega
      obtain ⟨A,hA,e1⟩:=q2pi d hd ha ok.2.1 ok.2.2 (chk sa)
      obtain ⟨B,hB,e2⟩:=q2pi d hd hb ok.2.1 ok.2.2 (chk sb)
      obtain ⟨C,hC,e3⟩:=q2pi d hd hl ok.2.1 ok.2.2 hc
      have lA:=q2of ha n dd
      have lB:=q2of hb n dd
      have lC:=q2of hl n dd
      have hP:=q2tr hok ok sa sb cov lA hA lB hB
      have m1:=q2sx d hd (l:=l) hP.m.ba hP.m.bb (by have:=hP.m.la;omega) (by have:=hP.m.lb;omega)
      have m2:=q2sx d hd (l:=l) hP.m.bb hP.m.ba (by have:=hP.m.lb;omega) (by have:=hP.m.la;omega)
      rw [q2ts hP lC hC] at m1
      rw [q2ts hP.swap lC hC] at m2
      have hCl:=q2q2 hok hC hr lC
      have hl64:=hok.len
      have s1:=q2qb d hd (L:=C) (by omega)
      simp only [cb,cond_false,q2eb,q2ef,q2ej,q2en,q2er,q2et,q2cj,Dt.eval,e1,e2,e3,m1,m2,s1,ea,beq_self_eq_true,cond_true]
theorem q2tw (d:Nat) (hd:5000≤d) (ea:q2bc d ()=some true) {l:List T3} {n dd:Int} (ok:okQ (n,dd,())) (hf:fitC l n dd=true) (one two:List Di) (h1:one.length≤1000) (h2:two.length≤1000):∀ (f i:Nat) (la lb:List T3),l.length - i<f→i≤l.length→la.Sublist (l.take i)→lb.Sublist (l.take i)→(∀ p∈l.take i,p∈la∨p∈lb) →
    iter (q2ev d) f (one,two,(i:Int),l,n,dd,la,lb)=some true
  | 0,i,_,_,hf,_,_,_,_=>by omega
  | f + 1, i, la, lb, hfu, hle, sa, sb, cov => by
    have ih:=fun la lb=>q2tw d hd ea ok hf one two h1 h2 f (i+1) la lb
    have hok:=(q2q9 hf).2.2.2.2
    have hl64:=hok.len
    rw [iter]
    revert ih
    generalize iter (q2ev d) f=self
    intro ih
    by_cases hlt:i<l.length
    · obtain ⟨p, hp⟩ : ∃ p, l[i]? = some p := ⟨_, List.getElem?_eq_getElem hlt⟩
      have e1:=q2tu d hd h1 (i:Int)
      have e2:=q2tu d hd h2 (i:Int)
      have ht:l.take (i+1)=l.take i ++ [p]:=by rw [List.take_add_one,hp];rfl
      have la1:=Nat.le_trans sa.length_le (List.length_take_le' i l)
      have lb1:=Nat.le_trans sb.length_le (List.length_take_le' i l)
      have apa:apB la.length 1=true:=q2qz (by omega)
      have apb:apB lb.length 1=true:=q2qz (by omega)
      have wi:=q2mn (show i<1000000 by omega)
      have put:∀ {s:List T3},s.Sublist (l.take i)→(s ++ [p]).Sublist (l.take (i+1)):=fun {s} hs=>by rw [ht];exact hs.append (List.Sublist.refl _)
      have keep:∀ {s:List T3},s.Sublist (l.take i)→s.Sublist (l.take (i+1)):=fun {s} hs=>by rw [ht];exact hs.trans (List.sublist_append_left _ _)
      unfold q2ev q2e2 q2e1
      simp only [q2d9,q2dz,q2dd,q2dh,q2dj,q2dn,q2dr,q2dv,q2dx,q2cj,Dt.eval,q2mq hlt,cond_true,e1,e2,q2mp hlt,q2mo hp,List.length_cons,List.length_nil,Nat.zero_add,apa,apb,wi]
      cases amB one (i:Int) with
      | false =>
        cases amB two (i:Int) with
        | false=>simp only [Bool.not_false,cond_true,ea,Dt.eval]
        | true =>
          simp only [Bool.not_false,Bool.not_true,cond_true,cond_false,Dt.eval]
          exact ih la (lb ++ [p]) (by omega) (by omega) (keep sa) (put sb) (fun q hq=>by
            rw [ht] at hq
            rcases List.mem_append.1 hq with hq | hq
            · exact (cov q hq).imp id (List.mem_append_left _)
            · exact .inr (List.mem_append_right _ hq))
      | true =>
        cases amB two (i:Int) with
        | false =>
          simp only [Bool.not_true,cond_true,cond_false,Dt.eval]
          exact ih (la ++ [p]) lb (by omega) (by omega) (put sa) (keep sb) (fun q hq=>by
            rw [ht] at hq
            rcases List.mem_append.1 hq with hq | hq
            · exact (cov q hq).imp (List.mem_append_left _) id
            · exact .inl (List.mem_append_right _ hq))
        | true =>
          simp only [Bool.not_true,cond_true,cond_false,Dt.eval]
          exact ih (la ++ [p]) (lb ++ [p]) (by omega) (by omega) (put sa) (put sb) (fun q hq=>by
            rw [ht] at hq
            rcases List.mem_append.1 hq with hq | hq
            · exact (cov q hq).imp (List.mem_append_left _) (List.mem_append_left _)
            · exact .inl (List.mem_append_right _ hq))
    · obtain rfl : i = l.length := by omega
      rw [List.take_length] at sa sb cov
      exact q2tv d hd ea ok hf sa sb cov one two self
theorem q2tx (d:Nat) (hd:5000≤d) (ea:q2bc d ()=some true) (l:List T3) (n dd:Int) (one two:List Di) (hn:i64B n=true) (hdd:i64B dd=true):q2ew d ((l,()),(n,dd,()),(one,()),(two,()),())=some true:=by
  have e1:=q2q8 d l hn hdd
  simp only [q2ew,q2cj,q2cp,q2ct,q2cx,q2d1,q2d5,Dt.eval,e1]
  cases hf:fitC l n dd with
  | false=>simp only [Bool.not_false,cond_true,Dt.eval,ea]
  | true =>
    by_cases h1:one.length > 16
    · simp only [Bool.not_true,cond_false,show decide ((one.length:Int) > 16)=true by rw [decide_eq_true_eq];omega,cond_true,Dt.eval,ea]
    · by_cases h2 : two.length > 16
      · simp only [Bool.not_true,cond_false,show decide ((one.length:Int) > 16)=false by rw [decide_eq_false_iff_not];omega,show decide ((two.length:Int) > 16)=true by rw [decide_eq_true_eq];omega,cond_true,Dt.eval,ea]
      · simp only [Bool.not_true, cond_false, show decide ((one.length : Int) > 16) = false by rw [decide_eq_false_iff_not]; omega, show decide ((two.length : Int) > 16) = false by rw [decide_eq_false_iff_not]; omega, Dt.eval]
        have hr:=(q2q9 hf).2.2.2.1
        exact q2tw d hd ea ⟨hr,hn,hdd⟩ hf one two (by omega) (by omega) d 0 [] [] (by have:=(q2q9 hf).2.2.2.2.len;omega) (by omega) (List.nil_sublist _) (List.nil_sublist _) (fun p hp=>by cases hp)
end Go.Proofs.Ytpgpbhjkgciggaa

namespace Go.Proofs.Ytpgpbhjkgciggaa
open Go.ChangeShapes Go.WideShapes Go.ChangeAt Go.RowKit Go.Pel Go.Deep
def wf64 (x:Int):Prop:=-9223372036854775808≤x∧x≤9223372036854775807
section
variable {H:Type} {enc:TypeId×Value→H} {w:World} {base:Nat} {spare:Nat→Bool} {held:Bool}
theorem q2tz (fuel:Nat) (l:List Value) (x:DataW H×List MemPlace) (h:DataW.trod enc Try.prog w base spare held fuel 3 l=some x) (hl:l.length=1):∃ i:Int,l=[.int .i64 i]∧wf64 i:=by
  obtain ⟨c0,rfl⟩:=q2j9 l hl
  obtain ⟨i,e,w4⟩:=q2iz Try.underlying3 h
  exact ⟨i,e,by have:=q2j0 w4;unfold wf64;omega⟩
theorem q2u0 (l:List Int):l.flatMap (fun x=>[Value.int .i64 x])=vi l:=by
  induction l with
  | nil=>rfl
  | cons x l ih=>rw [List.flatMap_cons,ih];rfl
theorem q2u1 {fuel:Nat} {A:Option Addr} {n c:Nat} {x:DataW H×List MemPlace} (h:DataW.trod enc Try.prog w base (fun _=>true) held fuel 37 [Value.slice A n c]=some x) :
    ∃ l:List Int,l.length=n∧Sl w 1 A l.length c (vi l)∧(∀ i∈l,wf64 i)∧(A=none→c=0):=by
  obtain ⟨l,h1,h2,h3,h4,_⟩:=q2j8 (fun x:Int=>[Value.int .i64 x]) wf64 Try.underlying37 q2jc (by decide) (fun _=>rfl) q2tz h
  rw [q2u0] at h2
  exact ⟨l,h1,h2,h3,h4⟩
end
end Go.Proofs.Ytpgpbhjkgciggaa
