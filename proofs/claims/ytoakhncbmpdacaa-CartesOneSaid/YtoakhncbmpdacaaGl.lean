/- Walks of the references; the orders agree; examples. -/
import Derived.Test.YtoakhncbmpdacaaGk
set_option linter.unusedSimpArgs false
set_option linter.unusedVariables false
namespace Go.Proofs.Ytoakhncbmpdacaa
open Go Go.Tx Go.Pel
def ps (P M:List N3) (i:Nat):Nat:=(atI (ptsL P) (idN M i)).toNat
theorem q3o8 {P:List N3} (hP:FOk P) {k:Nat} (hk:k<P.length):atI (ptsL P) (ptA P k).1=k:=by
  refine qhz (p:=ofP (ptA P k)) (fun j q hj hq=>?_) (q372 hk) rfl
  rw [q372 (by omega)] at hq
  injection hq with hq
  subst hq
  have:=hP.inc j k hj hk
  show (ptA P j).1≠(ptA P k).1
  omega
theorem ps_k {P M:List N3} (hP:FOk P) {i k:Nat} (hk:k<P.length) (h:idN M i=(ptA P k).1):ps P M i=k:=by
  unfold ps
  rw [h,q3o8 hP hk];rfl
theorem id_k {P:List N3} (hP:FOk P) {i k:Nat} (hi:i<P.length) (hk:k<P.length) (h:(ptA P i).1=(ptA P k).1):i=k:=by
  rcases Nat.lt_trichotomy i k with c | c | c
  · have:=hP.inc i k c hk;omega
  · exact c
  · have:=hP.inc k i c hi;omega
def chB (P:List N3) (n d:Int) (M:List N3) (i:Nat) (c:Int):Bool:=decide (c<0) || ldB P n d (ps P M i) (ps P M c.toNat)
def chP (P:List N3) (n d:Int) (M:List N3) (i:Nat):Bool:=chB P n d M i (lfN M i)&&chB P n d M i (rtN M i)
theorem q3o9 {M:List N3} {j:Int} {m:List Nat} (h:Tr M j m) (hj:¬ j<0):j.toNat∈m:=by
  cases h with
  | leaf _ h=>exact absurd h hj
  | node k x a b=>exact List.mem_append_right _ (List.mem_cons_self ..)
theorem q3oa {M:List N3} {j:Int} {m:List Nat} (h:Tr M j m) (hj:j<0):m=[]:=by
  cases h with
  | leaf _ h=>rfl
  | node k x a b=>omega
theorem q3ob {P:List N3} {n d:Int} {M:List N3} {j:Int} {m:List Nat} (h:Tr M j m):(∀ p∈m,chP P n d M p=true)→∀ p∈m,p=j.toNat∨ldB P n d (ps P M j.toNat) (ps P M p)=true:=by
  induction h with
  | leaf j hj=>intro _ p hp;cases hp
  | node k x a b hx h1 h2 ih1 ih2 =>
    intro hc p hp
    have hk:=hc k (List.mem_append_right _ (List.mem_cons_self ..))
    obtain ⟨_,e2,e3⟩:=q37y hx
    unfold chP chB at hk
    rw [e2,e3,Bool.and_eq_true,Bool.or_eq_true,Bool.or_eq_true,decide_eq_true_eq,decide_eq_true_eq] at hk
    rw [show ((k:Int)).toNat=k from rfl]
    rcases List.mem_append.1 hp with hp | hp
    · have hn:¬ x.2.1<0:=by
        intro hn
        rw [q3oa h1 hn] at hp;cases hp
      have hl:=hk.1.resolve_left hn
      rcases ih1 (fun q hq=>hc q (List.mem_append_left _ hq)) p hp with rfl | h3
      · exact .inr hl
      · exact .inr (q375 hl h3)
    · rcases List.mem_cons.1 hp with rfl | hp
      · exact .inl rfl
      · have hn:¬ x.2.2.1<0:=by
          intro hn
          rw [q3oa h2 hn] at hp;cases hp
        have hl:=hk.2.resolve_left hn
        rcases ih2 (fun q hq=>hc q (List.mem_append_right _ (List.mem_cons_of_mem _ hq))) p hp with rfl | h3
        · exact .inr hl
        · exact .inr (q375 hl h3)
theorem q3oc {P:List N3} {n d:Int} (hP:FOk P) {N M:List N3} {i:Int} {a b:Nat} (h:Gr P n d N i a b):∀ {j:Int} {m:List Nat},Tr M j m→b≤P.length→m.length=b - a→incL N (List.range' a (b - a))→incL M m→(∀ k,a≤k→k<b→idN N k=(ptA P k).1) →
    (∀ (t p:Nat),m[t]?=some p→idN M p=(ptA P (a+t)).1)→∀ (F G q:Nat),b - a<F→m.length<G→(dls N F i q (List.range' a (b - a))=dls M G j q m ↔ ∀ p∈m,chP P n d M p=true):=by
  induction h with
  | leaf a b h =>
    intro j m _ _ hm _ _ _ _ F G q _ _
    have h0:m=[]:=List.length_eq_zero_iff.1 (by omega)
    subst h0
    rw [show b - a=0 by omega]
    exact ⟨fun _ p hp=>absurd hp List.not_mem_nil,fun _=>rfl⟩
  | node k a b x h1 h2 h3 h4 g1 g2 ih1 ih2 =>
    intro j m hT hb hm hiN hiM hN hM F G q hF hG
    obtain ⟨F,rfl⟩:∃ F',F=F'+1:=⟨F - 1,by omega⟩
    obtain ⟨G,rfl⟩:∃ G',G=G'+1:=⟨G - 1,by omega⟩
    cases hT with
    | leaf _ _=>exact absurd hm (by rw [List.length_nil];omega)
    | node k' y a' b' hy t1 t2 =>
      rw [List.length_append,List.length_cons] at hm hG
      have hcut:=q379 (a:=a) (k:=k) (b:=b) h1 h2
      rw [hcut] at hiN ⊢
      rw [q38b h3 g1.tr g2.tr hiN (by rw [List.length_range',List.length_range'];omega),q38b hy t1 t2 hiM (by omega)]
      rw [q38d q38c q38c]
      have hiN2:=hiN
      have hiM2:=hiM
      unfold incL at hiN hiM
      rw [List.pairwise_append,List.pairwise_cons] at hiN hiM
      have hk':idN M k'=(ptA P (a+a'.length)).1:=hM a'.length k' (by rw [List.getElem?_append_right (Nat.le_refl _),Nat.sub_self];rfl)
      have hxk:x.1=(ptA P k).1:=by rw [← (q37y h3).1];exact hN k h1 h2
      have hyk:y.1=(ptA P (a+a'.length)).1:=by rw [← (q37y hy).1];exact hk'
      have hM1:∀ (t p:Nat),a'[t]?=some p→idN M p=(ptA P (a+t)).1:=fun t p ht=>hM t p (by
        have:=(List.getElem?_eq_some_iff.1 ht).1
        rw [List.getElem?_append_left this];exact ht)
      have hpk':ps P M k'=a+a'.length:=ps_k hP (by omega) hk'
      have hM2:∀ (t p:Nat),b'[t]?=some p→idN M p=(ptA P (a+a'.length+1+t)).1:=fun t p ht=>by
        have:=hM (a'.length+1+t) p (by
          rw [List.getElem?_append_right (by omega),show a'.length+1+t - a'.length=t+1 by omega,List.getElem?_cons_succ];exact ht)
        rw [this,show a+(a'.length+1+t)=a+a'.length+1+t by omega]
      -- where each node lies
      have hpl:∀ p∈a'++k' :: b',p=k'∨(∃ j,a≤j∧j<b∧j≠a+a'.length∧ps P M p=j):=fun p hp=>by
        rcases List.mem_append.1 hp with hp | hp
        · obtain ⟨t, ht⟩ := List.mem_iff_getElem?.1 hp
          have htl:=(List.getElem?_eq_some_iff.1 ht).1
          exact .inr ⟨a+t,by omega,by omega,by omega,ps_k hP (by omega) (hM1 t p ht)⟩
        · rcases List.mem_cons.1 hp with rfl | hp
          · exact .inl rfl
          · obtain ⟨t, ht⟩ := List.mem_iff_getElem?.1 hp
            have htl:=(List.getElem?_eq_some_iff.1 ht).1
            exact .inr ⟨a+a'.length+1+t,by omega,by omega,by omega,ps_k hP (by omega) (hM2 t p ht)⟩
      have key:k=a+a'.length→((dls N F x.2.1 (q+1) (List.range' a (k - a))=dls M G y.2.1 (q+1) a' ↔ ∀ p∈a',chP P n d M p=true)∧(dls N F x.2.2.1 (q+1) (List.range' (k+1) (b - (k+1)))=dls M G y.2.2.1 (q+1) b' ↔ ∀ p∈b',chP P n d M p=true)):=fun hk=>by
        refine ⟨ih1 t1 (by omega) (by omega) hiN.1 hiM.1 (fun j j1 j2=>hN j j1 (by omega)) hM1 F G (q+1) (by omega) (by omega),?_⟩
        exact ih2 t2 hb (by omega) hiN.2.1.2 hiM.2.1.2 (fun j j1 j2=>hN j (by omega) j2) (fun t p ht=>by rw [hk];exact hM2 t p ht) F G (q+1) (by omega) (by omega)
      constructor
      · rintro ⟨e1, e2, e3⟩
        have hk:k=a+a'.length:=id_k hP (by omega) (by omega) (by rw [← hxk,← hyk,e2])
        obtain ⟨q1,q2⟩:=key hk
        have r1:=q1.1 e1
        have r2:=q2.1 e3
        intro p hp
        rcases List.mem_append.1 hp with hp | hp
        · exact r1 p hp
        · rcases List.mem_cons.1 hp with rfl | hp
          · obtain ⟨_, f2, f3⟩ := q37y hy
            have hlead:∀ {c:Int} {s:List Nat},Tr M c s→(∀ z∈s,z∈a'∨z∈b')→chB P n d M p c=true:=fun {c s} ht hs=>by
              unfold chB
              by_cases hc:c<0
              · rw [decide_eq_true hc,Bool.true_or]
              · rw [decide_eq_false hc, Bool.false_or]
                have hz:=hs _ (q3o9 ht hc)
                have hz2:c.toNat∈a'++p :: b':=by
                  rcases hz with hz | hz
                  · exact List.mem_append_left _ hz
                  · exact List.mem_append_right _ (List.mem_cons_of_mem _ hz)
                rcases hpl _ hz2 with h9 | ⟨j,j1,j2,j3,j4⟩
                · exfalso
                  rw [h9] at hz
                  rcases hz with hz | hz
                  · have:=hiM.2.2 p hz p (List.mem_cons_self ..);omega
                  · have:=hiM.2.1.1 p hz;omega
                · rw [j4, hpk', ← hk]
                  exact h4 j j1 j2 (by omega)
            unfold chP
            rw [f2,f3,hlead t1 (fun z hz=>.inl hz),hlead t2 (fun z hz=>.inr hz)];rfl
          · exact r2 p hp
      · intro hc
        have hk:k=a+a'.length:=by
          refine Decidable.byContradiction fun hne=>?_
          have hroot:=q3ob (.node k' y a' b' hy t1 t2) hc
          rw [show ((k':Int)).toNat=k' from rfl,hpk'] at hroot
          have w1:=h4 (a+a'.length) (by omega) (by omega) (fun h=>hne h.symm)
          -- the node at k's place
          have w2:ldB P n d (a+a'.length) k=true:=by
            obtain ⟨p,hp⟩:∃ p,(a'++k' :: b')[k - a]?=some p:=⟨_,List.getElem?_eq_getElem (by rw [List.length_append,List.length_cons];omega)⟩
            have hpi:=hM (k - a) p hp
            rw [show a+(k - a)=k by omega] at hpi
            have hpp:ps P M p=k:=ps_k hP (by omega) hpi
            rcases hroot p (List.mem_of_getElem? hp) with h9 | h9
            · rw [h9,hpk'] at hpp;exact absurd hpp.symm hne
            · rw [hpp] at h9;exact h9
          rw [q377 w1] at w2;cases w2
        obtain ⟨q1,q2⟩:=key hk
        exact ⟨q1.2 fun p hp=>hc p (List.mem_append_left _ hp),by rw [hxk,hyk,← hk],q2.2 fun p hp=>hc p (List.mem_append_right _ (List.mem_cons_of_mem _ hp))⟩
end Go.Proofs.Ytoakhncbmpdacaa

namespace Go.Proofs.Ytoakhncbmpdacaa
open Go Go.Tx Go.Pel
def hasD (P N:List N3) (m:List Nat):Bool:=decide (m.map (idN N)=P.map (·.1))
theorem q3od (d:Nat) {P N:List N3} {m:List Nat} (hl:m.length=P.length) (hm:m.length<1000):∀ (f i:Nat),m.length - i<f→i≤m.length→iter (q3en d) f ((i:Int),P,rowI N m)=some (decide ((m.drop i).map (idN N)=(P.drop i).map (·.1)))
  | 0,i,h,_=>by omega
  | f + 1, i, hf, hi => by
    have ih:=q3od d (N:=N) hl hm f (i+1)
    rw [iter]
    revert ih
    generalize iter (q3en d) f=self
    intro ih
    unfold q3en
    by_cases hlt:i<m.length
    · have hlP : i < P.length := by omega
      obtain ⟨k,hk⟩:∃ k,m[i]?=some k:=⟨_,List.getElem?_eq_getElem hlt⟩
      have hdm:m.drop i=k :: m.drop (i+1):=by obtain ⟨h1,rfl⟩:=List.getElem?_eq_some_iff.1 hk;exact List.drop_eq_getElem_cons h1
      have hdP:P.drop i=ptA P i :: P.drop (i+1):=by
        obtain ⟨h1,h2⟩:=List.getElem?_eq_some_iff.1 (q370 hlP)
        rw [← h2];exact List.drop_eq_getElem_cons h1
      have hr:(rowI N m)[i]?=some (idN N k,()):=by unfold rowI;rw [List.getElem?_map,hk];rfl
      have hw:=q36l (show i<1000000 by omega)
      simp only [q3eb,q3ej,q3ef,Dt.eval,q3n9,decK hlt,cond_true,inbK hlt,inbK hlP,eltK hr,eltK (q370 hlP)]
      rw [hdm,hdP,List.map_cons,List.map_cons]
      by_cases c:idN N k=(ptA P i).1
      · simp only [show (idN N k != (ptA P i).1) = false from by rw [c]; exact bne_self_eq_false' .., cond_false, Dt.eval, hw]
        rw [ih (by omega) (by omega)]
        simp only [List.cons.injEq,c,true_and]
      · simp only [show (idN N k != (ptA P i).1)=true from bne_iff_ne.2 c,cond_true,q3eh,Dt.eval,List.cons.injEq,c,false_and,decide_false]
    · have hie : i = m.length := by omega
      subst hie
      have:P.drop m.length=[]:=List.drop_eq_nil_iff.2 (by omega)
      simp only [q3eb,q3el,Dt.eval,q3n9,decN hlt,cond_false,List.drop_length,this,List.map_nil,decide_true]
theorem q3oe (d:Nat) (hd:5000≤d) {r:Int} {N:List N3} {m:List Nat} (hv:VT r N m) (P:List N3):q3eo d ((r,N,()),(P,()),())=some (hasD P N m):=by
  have hlen:=hv.len
  have hln:=hv.ln
  have e1:=q3nd d hd hv
  unfold hasD
  by_cases c:m.length=P.length
  · have e2 := q3od d (N := N) c (by omega) d 0 (by omega) (Nat.zero_le _)
    have c2:(((m.length:Nat):Int) != ((P.length:Nat):Int))=false:=by rw [c];exact bne_self_eq_false' ..
    simp only [q3eo,q3dl,q3dr,q3dv,q3dz,q3e7,Dt.eval,e1,q3n9,c2,cond_false]
    exact e2
  · have c2 : (((m.length : Nat) : Int) != ((P.length : Nat) : Int)) = true := bne_iff_ne.2 (by omega)
    have c3:m.map (idN N)≠P.map (·.1):=fun h=>c (by have:=congrArg List.length h;rw [List.length_map,List.length_map] at this;exact this)
    simp only [q3eo,q3dl,q3dr,q3dv,q3dz,q3e3,Dt.eval,e1,q3n9,c2,cond_true,c3,decide_false]
theorem q3of {P N:List N3} {m:List Nat} (h:hasD P N m=true):m.length=P.length∧∀ (t p:Nat),m[t]?=some p→idN N p=(ptA P t).1:=by
  unfold hasD at h
  rw [decide_eq_true_eq] at h
  have hl:m.length=P.length:=by have:=congrArg List.length h;rw [List.length_map,List.length_map] at this;exact this
  refine ⟨hl,fun t p ht=>?_⟩
  have htl:=(List.getElem?_eq_some_iff.1 ht).1
  have h1:=congrArg (fun l=>l[t]?) h
  simp only [List.getElem?_map,ht,q370 (show t<P.length by omega),Option.map_some] at h1
  injection h1
theorem q3og (d:Nat) {r:Int} {N:List N3} (hn:N.length<1000) (h:∀ i j,i<j→j<N.length→idN N i<idN N j):∀ (f i:Nat),N.length - i<f→1≤i→iter (q22x d) f ((i:Int),r,N)=some true
  | 0,i,h,_=>by omega
  | f + 1, i, hf, hi => by
    have ih:=q3og d (r:=r) hn h f (i+1)
    rw [iter]
    revert ih
    generalize iter (q22x d) f=self
    intro ih
    unfold q22x
    by_cases hl:i<N.length
    · obtain ⟨i, rfl⟩ : ∃ j, i = j + 1 := ⟨i - 1, by omega⟩
      obtain ⟨x,hx⟩:∃ x,N[i]?=some x:=⟨_,List.getElem?_eq_getElem (by omega)⟩
      obtain ⟨y,hy⟩:∃ y,N[i+1]?=some y:=⟨_,List.getElem?_eq_getElem hl⟩
      have h1:=h i (i+1) (by omega) hl
      rw [(q37y hx).1,(q37y hy).1] at h1
      have hw:=q36l (show i+1<1000000 by omega)
      have hwd:=q37k (show i<1000000 by omega)
      simp only [q22j,q22t,q22n,Dt.eval,decK hl,cond_true,hwd,inbK hl,inbK (show i<N.length by omega),eltK hx,eltK hy,show decide (x.1≥y.1)=false from decide_eq_false (by omega),cond_false,hw]
      exact ih (by omega) (by omega)
    · simp only [q22j,q22v,Dt.eval,decN hl,cond_false]
theorem q3oh (d:Nat) (hd:5000≤d) {r:Int} {N:List N3} (hn:N.length<1000) (h:∀ i j,i<j→j<N.length→idN N i<idN N j):q22y d ((r,N,()),())=some true:=by
  have e:=q3og d (r:=r) hn h d 1 (by omega) (Nat.le_refl _)
  simp only [q22y,q22b,q22f,Dt.eval]
  exact e
theorem q3oi {M:List N3} {j:Int} {m:List Nat} (h:Tr M j m):incL M m→∀ p∈m,(0≤lfN M p→idN M (lfN M p).toNat≠idN M p)∧(0≤rtN M p→idN M (rtN M p).toNat≠idN M p):=by
  induction h with
  | leaf j hj=>intro _ p hp;cases hp
  | node k x a b hx h1 h2 ih1 ih2 =>
    intro hi p hp
    unfold incL at hi
    rw [List.pairwise_append,List.pairwise_cons] at hi
    rcases List.mem_append.1 hp with hp | hp
    · exact ih1 hi.1 p hp
    · rcases List.mem_cons.1 hp with rfl | hp
      · obtain ⟨_, e2, e3⟩ := q37y hx
        rw [e2,e3]
        refine ⟨fun h=>?_,fun h=>?_⟩
        · have:=hi.2.2 _ (q3o9 h1 (by omega)) p (List.mem_cons_self ..);omega
        · have:=hi.2.1.1 _ (q3o9 h2 (by omega));omega
      · exact ih2 hi.2.1.2 p hp
structure AbOk (P M:List N3):Prop where
  lk:LkOk M
  ln:M.length≤64
  at_:∀ i,i<M.length→ps P M i<P.length∧atI (ptsL P) (idN M i)=ps P M i
  ne:∀ i,i<M.length→(0≤lfN M i→ps P M i≠ps P M (lfN M i).toNat)∧(0≤rtN M i→ps P M i≠ps P M (rtN M i).toNat)
def q3oj (P:List N3) (n d:Int) (M:List N3) (i:Nat):Bool:=(List.range' i (M.length - i)).all fun p=>chP P n d M p
section
variable {P:List N3} {n dd:Int}
theorem q3ok (d:Nat) (hd:5000≤d) (hP:FOk P) (ht:TOk n dd) {r:Int} {M:List N3} (hA:AbOk P M) {i:Nat} {x:N3} (hx:M[i]?=some x) (self:(Int×Int×List N3×List N3×Int×Int)→Option q3es) :
    iter (q3gd d self) d ((i:Int),(0:Int),r,M,P,n,dd,(ptA P (ps P M i)).1,(ptA P (ps P M i)).2.1,(ptA P (ps P M i)).2.2.1,[(x.2.1,()),(x.2.2.1,())])=bif chP P n dd M i then self (((i+1:Nat):Int),r,M,P,n,dd) else some false:=by
  obtain ⟨d',rfl⟩:∃ d',d=d'+3:=⟨d - 3,by omega⟩
  have hi:i<M.length:=(List.getElem?_eq_some_iff.1 hx).1
  obtain ⟨_,f2,f3⟩:=q37y hx
  obtain ⟨l1,l2⟩:=hA.lk x (List.mem_of_getElem? hx)
  have hne:=hA.ne i hi
  have hat:=hA.at_ i hi
  have hPl:=hP.len
  have hMl:=hA.ln
  rw [f2,f3] at hne
  unfold chP
  rw [f2,f3]
  have hwi:=q36l (show i<1000000 by omega)
  generalize hU:d'+3=D at *
  -- one child
  have one:∀ (g k:Nat) (c:Int),k<2→([(x.2.1,()),(x.2.2.1,())]:List (Int×Unit))[k]?=some (c,())→lkB M c→(0≤c→ps P M i≠ps P M c.toNat) →
      iter (q3gd D self) (g+1) ((i:Int),(k:Int),r,M,P,n,dd,(ptA P (ps P M i)).1,(ptA P (ps P M i)).2.1,(ptA P (ps P M i)).2.2.1,[(x.2.1,()),(x.2.2.1,())]) =
        bif chB P n dd M i c then iter (q3gd D self) g ((i:Int),((k+1:Nat):Int),r,M,P,n,dd,(ptA P (ps P M i)).1,(ptA P (ps P M i)).2.1,(ptA P (ps P M i)).2.2.1,[(x.2.1,()),(x.2.2.1,())]) else some false:=by
    intro g k c hk hc hlc hcn
    rw [iter]
    generalize iter (q3gd D self) g=me
    unfold q3gd chB
    have hw:=q36l (show k<1000000 by omega)
    have hk2:decide ((k:Int)<2)=true:=decide_eq_true (by omega)
    have hl2:([(x.2.1,()),(x.2.2.1,())]:List (Int×Unit)).length=2:=rfl
    simp only [q3fq,q3fu,Dt.eval,hk2,cond_true,hl2,inbK hk,eltK hc]
    by_cases c0:c<0
    · simp only [decide_eq_true c0,cond_true,Bool.true_or,q3fy,q3fw,Dt.eval,hw]
    · obtain ⟨q, rfl⟩ : ∃ q : Nat, c = q := ⟨c.toNat, by omega⟩
      have hq:q<M.length:=by unfold lkB at hlc;omega
      obtain ⟨y,hy⟩:∃ y,M[q]?=some y:=⟨_,List.getElem?_eq_getElem hq⟩
      have haq:=hA.at_ q hq
      have e1:qqy D ((P,()),(y.1,()),())=some (ps P M q:Int):=by
        rw [qqz _ _ (by unfold qqx;rw [decide_eq_true_eq];show (ptsL P).length≤_;rw [show (ptsL P).length=P.length from List.length_map _];omega)]
        rw [← (q37y hy).1]
        exact congrArg some haq.2
      have hid:(ptA P (ps P M i)).1≠(ptA P (ps P M q)).1:=fun h=>hcn (by omega) (by rw [show ((q:Int)).toNat=q from rfl];exact id_k hP hat.1 haq.1 h)
      have e2:=q37b D (hP.ok _ (q371 hat.1)) (hP.ok _ (q371 haq.1)) hid ht
      simp only [decide_eq_false c0,cond_false,Bool.false_or,q3g1,q3g5,q3ew,Dt.eval,hl2,inbK hk,cond_true,eltK hc,inbK hq,eltK hy,q368 hy,e1,inbK haq.1,eltK (q370 haq.1),q368 (q370 haq.1),e2,bne_self_eq_false,show ((q:Int)).toNat=q from rfl]
      rw [show ldB P n dd (ps P M i) (ps P M q)=qlx (ofP (ptA P (ps P M i))) (ofP (ptA P (ps P M q))) n dd from rfl]
      cases qlx (ofP (ptA P (ps P M i))) (ofP (ptA P (ps P M q))) n dd with
      | true=>simp only [Bool.not_true,cond_false,cond_true,q3fy,q3fw,Dt.eval,hw]
      | false=>simp only [Bool.not_false,cond_true,cond_false,q3g9,Dt.eval]
  rw [← hU]
  have o1:=one (d'+2) 0 x.2.1 (by decide) rfl l1 hne.1
  have o2:=one (d'+1) 1 x.2.2.1 (by decide) rfl l2 hne.2
  rw [hU]
  rw [show D=d'+2+1 by omega] at *
  refine o1.trans ?_
  cases chB P n dd M i x.2.1 with
  | false=>rfl
  | true =>
    simp only [cond_true,Bool.true_and]
    refine o2.trans ?_
    cases chB P n dd M i x.2.2.1 with
    | false=>rfl
    | true =>
      simp only [cond_true]
      rw [iter]
      generalize iter (q3gd (d'+2+1) self) d'=me
      unfold q3gd
      have:decide (((1+1:Nat):Int)<2)=false:=rfl
      simp only [q3fq,q3gb,Dt.eval,this,cond_false,hwi]
theorem q3ol (d:Nat) (hd:5000≤d) (hP:FOk P) (ht:TOk n dd) {r:Int} {M:List N3} (hA:AbOk P M):∀ (f i:Nat),M.length - i<f→i≤M.length→iter (q3gg d) f ((i:Int),r,M,P,n,dd)=some (q3oj P n dd M i)
  | 0,i,h,_=>by omega
  | f + 1, i, hf, hi => by
    have ih:=q3ol d hd hP ht (r:=r) hA f (i+1)
    rw [iter]
    revert ih
    generalize iter (q3gg d) f=self
    intro ih
    unfold q3gg
    have hPl:=hP.len
    by_cases hl:i<M.length
    · obtain ⟨x, hx⟩ : ∃ x, M[i]? = some x := ⟨_, List.getElem?_eq_getElem hl⟩
      have hat:=hA.at_ i hl
      have e1:qqy d ((P,()),(x.1,()),())=some (ps P M i:Int):=by
        rw [qqz _ _ (by unfold qqx;rw [decide_eq_true_eq];show (ptsL P).length≤_;rw [show (ptsL P).length=P.length from List.length_map _];omega)]
        rw [← (q37y hx).1]
        exact congrArg some hat.2
      have e2:=q3ok d hd hP ht (r:=r) hA hx self
      simp only [q3fa,q3fe,q3fi,q3fm,q3ew,Dt.eval,decK hl,cond_true,inbK hl,eltK hx,e1,inbK hat.1,eltK (q370 hat.1)]
      refine e2.trans ?_
      unfold q3oj
      rw [show M.length - i=(M.length - (i+1))+1 by omega,List.range'_succ,List.all_cons]
      cases chP P n dd M i with
      | false=>rfl
      | true =>
        simp only [cond_true,Bool.true_and]
        exact ih (by omega) (by omega)
    · have hie : i = M.length := by omega
      subst hie
      unfold q3oj
      simp only [q3fa,q3ge,Dt.eval,decN hl,cond_false,Nat.sub_self,List.range'_zero,List.all_nil]
theorem q3om (hP:FOk P) {r:Int} {M:List N3} {m:List Nat} (hv:VT r M m) (h:hasD P M m=true):AbOk P M:=by
  obtain ⟨h1,h2⟩:=q3of h
  have hln:=hv.ln
  have hlk:=hv.lk
  have pl:∀ i,i<M.length→ps P M i<P.length∧idN M i=(ptA P (ps P M i)).1:=fun i hi=>by
    obtain ⟨t,ht⟩:=List.mem_iff_getElem?.1 (hv.mem hi)
    have htl:=(List.getElem?_eq_some_iff.1 ht).1
    have:=ps_k hP (show t<P.length by omega) (h2 t i ht)
    rw [this]
    exact ⟨by omega,h2 t i ht⟩
  refine ⟨hlk,hv.len,fun i hi=>⟨(pl i hi).1,?_⟩,fun i hi=>?_⟩
  · have := q3o8 hP (pl i hi).1
    rw [← (pl i hi).2] at this
    exact this
  · obtain ⟨x, hx⟩ : ∃ x, M[i]? = some x := ⟨_, List.getElem?_eq_getElem hi⟩
    obtain ⟨_,f2,f3⟩:=q37y hx
    obtain ⟨l1,l2⟩:=hlk x (List.mem_of_getElem? hx)
    have hc:=q3oi hv.tr hv.incL i (hv.mem hi)
    rw [f2,f3] at hc ⊢
    unfold lkB at l1 l2
    refine ⟨fun h0 he=>hc.1 h0 ?_,fun h0 he=>hc.2 h0 ?_⟩
    · rw [(pl i hi).2,(pl x.2.1.toNat (by omega)).2,he]
    · rw [(pl i hi).2,(pl x.2.2.1.toNat (by omega)).2,he]
theorem q3on (d:Nat) (hd:5000≤d) (hP:FOk P) (ht:TOk n dd) {r:Int} {M:List N3} {m:List Nat} (hv:VT r M m) (h:hasD P M m=true):q3gh d ((r,M,()),(P,()),(n,dd,()),())=some (q3oj P n dd M 0):=by
  have hlen:=hv.len
  have e:=q3ol d hd hP ht (r:=r) (q3om hP hv h) d 0 (by omega) (Nat.zero_le _)
  simp only [q3gh,q3f2,q3f6,Dt.eval]
  exact e
theorem q3oo {r:Int} {M:List N3} {m:List Nat} (hv:VT r M m):q3oj P n dd M 0=true ↔ ∀ p∈m,chP P n dd M p=true:=by
  unfold q3oj
  rw [List.all_eq_true]
  refine ⟨fun h p hp=>h p (List.mem_range'_1.2 ⟨Nat.zero_le _,by have:=hv.lt p hp;omega⟩),fun h p hp=>h p (hv.mem ?_)⟩
  have:=(List.mem_range'_1.1 hp).2
  omega
theorem q3op (hP:FOk P) {r s:Int} {N M:List N3} {m:List Nat} (hg:Gr P n dd N r 0 P.length) (hN:N.length=P.length) (hid:∀ j,j<P.length→idN N j=(ptA P j).1) (hv:VT s M m) (h:hasD P M m=true):decide (dlw r N=dlw s M)=q3oj P n dd M 0:=by
  obtain ⟨h1,h2⟩:=q3of h
  have hx:=q3nf hP hg hN hid
  have hln:=hv.ln
  have hinc:=hx.incL
  rw [List.range_eq_range'] at hinc
  have:=q3oc hP hg hv.tr (Nat.le_refl _) (by omega) (by rw [Nat.sub_zero];exact hinc) hv.incL (fun k _ hk=>hid k hk) (fun t p ht=>by rw [Nat.zero_add];exact h2 t p ht) (N.length+1) (M.length+1) 0 (by omega) (by omega)
  rw [Nat.sub_zero,← List.range_eq_range'] at this
  unfold dlw
  rw [hx.wkE,hv.wkE]
  cases hb:q3oj P n dd M 0 with
  | true=>exact decide_eq_true (this.2 ((q3oo hv).1 hb))
  | false=>exact decide_eq_false fun hh=>by rw [(q3oo hv).2 (this.1 hh)] at hb;cases hb
end
theorem q3oq (d:Nat) (P:List N3) {n dd:Int} (hn:i64B n=true) (hdd:i64B dd=true):q3dd d ((P,()),(n,dd,()),())=some (!great (ptsL P).length&&(qsv (ptsL P) n dd == 0)):=by
  have e1:qq7 d ((P,()),())=some (great (ptsL P).length):=qq8 d _ rfl
  have hpl:(ptsL P).length=P.length:=List.length_map _
  simp only [q3dd,q3d1,q3d7,q3db,Dt.eval,e1]
  cases g:great (ptsL P).length with
  | true=>rfl
  | false =>
    have gl:=q3nl g
    have e3:quq d ((P,()),(n,dd,()),())=some (qsv (ptsL P) n dd):=qur d _ (by unfold qup ptsL;simp only [hn,hdd,Bool.true_and,List.length_map];exact decide_eq_true (by omega))
    simp only [Bool.not_false,cond_true,Dt.eval,e3,Bool.true_and]
theorem q3or (d:Nat) (hd:5000≤d) (ha:q2wt d ()=some true) (P:List N3) {n dd:Int} (hn:i64B n=true) (hdd:i64B dd=true) (s:Int) (M:List N3) :
    q3hv d ((P,()),(n,dd,()),(s,M,()),())=some true:=by
  have e1:=q3oq d P hn hdd
  have e2:=q3nk d s M
  simp only [q3hv,q3gp,q3gv,q3gz,Dt.eval,e1]
  cases g1:(!great (ptsL P).length&&(qsv (ptsL P) n dd == 0)) with
  | false=>simp only [Bool.not_false,cond_true,q3h3,q3gp,Dt.eval,ha]
  | true =>
    rw [Bool.and_eq_true,beq_iff_eq] at g1
    simp only [Bool.not_true,cond_false,Dt.eval,e2]
    by_cases g3:(M.length:Int) > 70
    · simp only [decide_eq_true g3,cond_true,q3h3,q3gp,Dt.eval,ha]
    rcases q37s d hd P hn hdd with ⟨h,e⟩ | ⟨_,hP,hT,r,N,e,gr,gN,gid⟩
    · exact absurd g1.2 h
    have hx:=q3nf hP gr gN gid
    have hPl:=hP.len
    have e3:=q36z d hd r N
    rw [hx.chk] at e3
    have e4:=q3oh d hd (r:=r) (N:=N) (by omega) fun i j hij hj=>by
      rw [gid i (by omega),gid j (by omega)];exact hP.inc i j hij (by omega)
    have e5:=q3oe d hd hx P
    have hhas:hasD P N (List.range P.length)=true:=by
      unfold hasD
      rw [decide_eq_true_eq]
      refine List.ext_getElem? fun j=>?_
      rw [List.getElem?_map,List.getElem?_map]
      by_cases hj:j<P.length
      · rw [q370 hj, List.getElem?_eq_getElem (by rw [List.length_range]; exact hj), List.getElem_range]
        exact congrArg some (gid j hj)
      · rw [List.getElem?_eq_none (by rw [List.length_range];omega),List.getElem?_eq_none (by omega)];rfl
    rw [hhas] at e5
    have e6:=q3on d hd hP hT hx hhas
    rw [← q3op hP gr gN gid hx hhas,decide_eq_true rfl] at e6
    simp only [decide_eq_false g3,cond_false,q3h7,q3hb,q3gp,Dt.eval,e,bne_self_eq_false,e3,e4,Bool.not_true,e5,e6]
    have e7:=q36z d hd s M
    by_cases c:chkT s M=0
    · obtain ⟨m, hv⟩ := q37u c
      have e8:=q3oe d hd hv P
      rw [c] at e7
      simp only [q3hh,q3gp,Dt.eval,e7,bne_self_eq_false,cond_false,e8]
      cases hh:hasD P M m with
      | false=>simp only [Bool.not_false,cond_true,q3hj,q3gp,Dt.eval,ha]
      | true =>
        have e9:=q38q d hd r s N M
        have e10:q38f r N s M=(decide (dlw r N=dlw s M),0):=by
          unfold q38f;rw [if_neg (by rw [hx.chk];decide),if_neg (by rw [c];decide)]
        rw [e10] at e9
        have e11:=q38q d hd s r M N
        have e12:q38f s M r N=(decide (dlw s M=dlw r N),0):=by
          unfold q38f;rw [if_neg (by rw [c];decide),if_neg (by rw [hx.chk];decide)]
        rw [e12] at e11
        have e13:=q36w d hd s M
        rw [c] at e13
        have e14:q1an d ((s,M,()),(P,()),(n,dd,()),())=some (decide (dlw s M=dlw r N),0):=by
          simp only [q1an,q19r,q19x,q1a1,q1a5,q1ad,q1ah,q1al,Dt.eval,e13,bne_self_eq_false,cond_false,e,e11]
        have e15:=q3on d hd hP hT hv hh
        rw [← q3op hP gr gN gid hv hh] at e15
        have e16:decide (dlw s M=dlw r N)=decide (dlw r N=dlw s M):=decide_eq_decide.2 eq_comm
        rw [e16] at e14
        simp only [Bool.not_true,cond_false,q3hn,q3hr,q3ht,q3gp,Dt.eval,e9,e14,e15,beq_self_eq_true,cond_true,ha]
    · simp only [q3hh,q3gp,Dt.eval,e7,show (chkT s M != 0)=true from bne_iff_ne.2 c,cond_true,q3hj,ha]
end Go.Proofs.Ytoakhncbmpdacaa

namespace Go.Proofs.Ytoakhncbmpdacaa
open Go Go.Tx Go.Pel
set_option maxRecDepth 100000 in
theorem q3os:q2wt 5000 ()=some true:=by kernel_rfl
end Go.Proofs.Ytoakhncbmpdacaa
