/- Walks of the references; the orders agree; examples. -/
import Derived.Test.YtoakhncbmpdacaaGn
set_option linter.unusedSimpArgs false
set_option linter.unusedVariables false
namespace Go.Proofs.Ytoakhncbmpdacaa
open Go Go.Tx Go.Pel
theorem q3uh {P P':List N3} {n d:Int} {N:List N3} {fr tt:Nat} (hft:fr≤tt) (ht:tt≤N.length) (hP:∀ k,fr+k<tt→ptA P' k=ptA P (fr+k)) {i:Int} {a b:Nat} (h:Gr P n d N i a b):b≤N.length→Gr P' n d (q3qx N fr tt) (sh fr (ins N fr tt i)) (max a fr - fr) (min b tt - fr):=by
  induction h with
  | leaf a b h =>
    intro _
    rw [q3r1 _ _ _ (by decide),show sh fr (-1)=-1 from rfl]
    exact .leaf _ _ (by omega)
  | node k a b x h1 h2 h3 h4 g1 g2 ih1 ih2 =>
    intro hb
    have ih1:=ih1 (by omega)
    have ih2:=ih2 hb
    rw [q3r2 fr tt h1 h2 hb h3 g1.rg g2.rg]
    by_cases c1:k<fr
    · rw [if_pos c1]
      rw [show max a fr=max (k+1) fr by omega]
      exact ih2
    · rw [if_neg c1]
      by_cases c2:tt≤k
      · rw [if_pos c2]
        rw [show min b tt=min k tt by omega]
        exact ih1
      · rw [if_neg c2]
        have hsk:sh fr (k:Int)=((k - fr:Nat):Int):=by unfold sh;rw [if_neg (by omega)];omega
        rw [hsk]
        obtain ⟨x1,x2,x3⟩:=q37y h3
        refine .node (k - fr) _ _ (x.1,sh fr (ins N fr tt x.2.1),sh fr (ins N fr tt x.2.2.1),()) (by omega) (by omega) ?_ (fun j j1 j2 j3=>?_) ?_ ?_
        · rw [q3t7 (by omega),show fr+(k - fr)=k by omega,x1,x2,x3]
        · unfold ldB
          rw [hP (k - fr) (by omega),hP j (by omega),show fr+(k - fr)=k by omega]
          exact h4 (fr+j) (by omega) (by omega) (by omega)
        · rw [show min k tt - fr = k - fr by omega] at ih1
          exact ih1
        · rw [show max (k + 1) fr - fr = k - fr + 1 by omega] at ih2
          exact ih2
theorem q3ui {P P':List N3} {n d:Int} {N M:List N3} {s:Nat} {i:Int} {a b:Nat} (h:Gr P' n d N i a b):(∀ k,a≤k→k<b→ptA P' k=ptA P (s+k))→(∀ k,a≤k→k<b→M[s+k]?=(N[k]?).map (up s))→Gr P n d M (upL s i) (s+a) (s+b):=by
  induction h with
  | leaf a b h=>exact fun _ _=>.leaf _ _ (by omega)
  | node k a b x h1 h2 h3 h4 _ _ ih1 ih2 =>
    intro hP hM
    have:upL s (k:Int)=((s+k:Nat):Int):=by unfold upL;rw [if_neg (by omega)];omega
    rw [this]
    refine .node (s+k) _ _ (up s x) (by omega) (by omega) (by rw [hM k h1 h2,h3];rfl) (fun j j1 j2 j3=>?_) (ih1 (fun m m1 m2=>hP m m1 (by omega)) fun m m1 m2=>hM m m1 (by omega)) (ih2 (fun m m1 m2=>hP m (by omega) m2) fun m m1 m2=>hM m (by omega) m2)
    have:=h4 (j - s) (by omega) (by omega) (by omega)
    unfold ldB at this ⊢
    rw [hP k h1 h2,hP (j - s) (by omega) (by omega),show s+(j - s)=j by omega] at this
    exact this
theorem q3uj {P:List N3} {n dd:Int} (hP:FOk P) {X:List N3}:∀ (f:Nat) {i k:Int} {a m b:Nat},Gr P n dd X i a m→Gr P n dd X k m b→a≤m→m≤b→b≤X.length→b≤P.length→b - a<f→(∀ j,a≤j→j<b→ps P X j=j)→Gr P n dd (q3rh P n dd f X i k).2 (q3rh P n dd f X i k).1 a b
  | 0,_,_,_,_,_,_,_,_,_,_,_,h,_=>by omega
  | f + 1, i, k, a, m, b, h1, h2, ham, hmb, hb, hbP, hf, hps => by
    have ih:=fun {i k:Int} {a m b:Nat}=>q3uj (P:=P) (n:=n) (dd:=dd) hP (X:=X) f (i:=i) (k:=k) (a:=a) (m:=m) (b:=b)
    cases h1 with
    | leaf _ _ h=>rw [q3ri (by decide)];rw [show a=m by omega];exact h2
    | node i _ _ x i1 i2 i3 i4 i5 i6 =>
      cases h2 with
      | leaf _ _ h =>
        rw [q3rj (by omega) (by decide),show b=m by omega]
        exact .node i a m x i1 i2 i3 i4 i5 i6
      | node k _ _ y k1 k2 k3 k4 k5 k6 =>
        have p1:=hps i (by omega) (by omega)
        have p2:=hps k (by omega) (by omega)
        cases hl:ldB P n dd (ps P X i) (ps P X k) with
        | true =>
          have s:=q3rt (P:=P) (n:=n) (dd:=dd) f i6.rg (Gr.node k m b y k1 k2 k3 k4 k5 k6).rg (by omega) hmb (by omega)
          have g:=ih i6 (.node k m b y k1 k2 k3 k4 k5 k6) (by omega) hmb hb hbP (by omega) (fun j j1 j2=>hps j (by omega) j2)
          rw [q3rk i3 hl]
          rw [p1,p2] at hl
          refine .node i a b _ i1 (by omega) (q3ro (by rw [s.ln];omega) _) (fun j j1 j2 j3=>?_) ?_ ?_
          · by_cases c : j < m
            · exact i4 j j1 c j3
            · by_cases c2 : j = k
              · rw [c2];exact hl
              · exact q375 hl (k4 j (by omega) j2 c2)
          · have e := q3rg (s.out i (.inl (by omega)))
            show Gr P n dd _ (lfN (q3rh P n dd f X x.2.2.1 k).2 i) a i
            rw [e.2.1,(q37y i3).2.1]
            exact i5.congr fun j j1 j2=>by rw [q3rm (by omega)];exact s.out j (.inl (by omega))
          · exact g.congr fun j j1 j2=>q3rm (by omega) _
        | false =>
          have s:=q3rt (P:=P) (n:=n) (dd:=dd) f (Gr.node i a m x i1 i2 i3 i4 i5 i6).rg k5.rg ham k1 (by omega)
          have g:=ih (.node i a m x i1 i2 i3 i4 i5 i6) k5 ham k1 (by omega) (by omega) (by omega) (fun j j1 j2=>hps j j1 (by omega))
          rw [q3rl k3 hl]
          rw [p1,p2] at hl
          have hl2:=q378 hP (by omega) (by omega) (by omega) hl
          refine .node k a b _ (by omega) k2 (q3rp (by rw [s.ln];omega) _) (fun j j1 j2 j3=>?_) ?_ ?_
          · by_cases c : j < m
            · by_cases c2 : j = i
              · rw [c2];exact hl2
              · exact q375 hl2 (i4 j j1 c c2)
            · exact k4 j (by omega) j2 j3
          · exact g.congr fun j j1 j2=>q3rn (by omega) _
          · have e := q3rg (s.out k (.inr (by omega)))
            show Gr P n dd _ (rtN (q3rh P n dd f X i y.2.1).2 k) (k+1) b
            rw [e.2.2,(q37y k3).2.2]
            exact k6.congr fun j j1 j2=>by rw [q3rn (by omega)];exact s.out j (.inr (by omega))
theorem q3uk {l l':List Pt} (h:l'.Sublist l) (h0:qhk l=0):qhk l'=0:=by
  obtain ⟨f1,f2,f3⟩:=qhp h0
  have hlen:=h.length_le
  unfold qhk
  rw [if_neg (by omega),if_pos (fun p hp=>f2 p (h.subset hp)),if_pos]
  rw [q3p9] at f3 ⊢
  exact f3.sublist h
theorem q3ul {l l':List Pt} {n d:Int} (h:l'.Sublist l) (h0:qsv l n d=0):qsv l' n d=0:=by
  obtain ⟨h1,h2,_⟩:=q3p3 h0
  unfold qsv
  rw [if_neg (by rw [q3uk h h1];decide)];exact h2
theorem q3um {P:List N3} {c k:Nat} (h:k<c):ptA (P.take c) k=ptA P k:=by unfold ptA;rw [List.getElem?_take_of_lt h]
theorem q3un (P:List N3) (c k:Nat):ptA (P.drop c) k=ptA P (c+k):=by unfold ptA;rw [List.getElem?_drop]
theorem q3uo (x:N3):up 0 x=x:=by
  unfold up upL
  obtain ⟨x1,x2,x3,⟨⟩⟩:=x
  simp
theorem q3up (v:Int):upL 0 v=v:=by unfold upL;simp
section
variable {P:List N3} {n dd:Int}
theorem q3uq {N M:List N3} {r s:Int} (hN:Gr P n dd N r 0 P.length) (hNl:N.length=P.length) (hNi:∀ j,j<P.length→idN N j=(ptA P j).1) (hM:Gr P n dd M s 0 P.length) (hMl:M.length=P.length) (hMi:∀ j,j<P.length→idN M j=(ptA P j).1):r=s∧N=M:=by
  obtain ⟨h1,h2⟩:=hN.uniq hM
  exact ⟨h1,ext3 (by omega) fun j hj=>⟨by rw [hNi j (by omega),hMi j (by omega)],h2 j (Nat.zero_le _) (by omega)⟩⟩
theorem q3ur {id:Int} (hinc:∀ i j,i<j→j<P.length→(ptA P i).1<(ptA P j).1) {i:Nat} (hi:i<P.length):(ptA P i).1<id↔i<cutV P id:=by
  have ex:∀ m,m≤P.length→∃ k,k≤m∧(∀ j,j<k→idN P j<id)∧∀ j,k≤j→j<m→¬ idN P j<id:=by
    intro m
    induction m with
    | zero=>exact fun _=>⟨0,Nat.le_refl _,fun j h=>by omega,fun j _ h=>by omega⟩
    | succ m ih =>
      intro hm
      obtain ⟨k,k1,k2,k3⟩:=ih (by omega)
      by_cases c:k=m∧idN P m<id
      · refine ⟨m + 1, Nat.le_refl _, fun j hj => ?_, fun j h1 h2 => by omega⟩
        by_cases e:j=m
        · rw [e];exact c.2
        · exact k2 j (by omega)
      · refine ⟨k, by omega, k2, fun j h1 h2 => ?_⟩
        by_cases e:j=m
        · subst e
          by_cases e2:k=j
          · exact fun h=>c ⟨e2,h⟩
          · have h4 := k3 k (Nat.le_refl _) (by omega)
            have h5:idN P k<idN P j:=hinc k j (by omega) (by omega)
            omega
        · exact k3 j h1 (by omega)
  obtain ⟨k,k1,k2,k3⟩:=ex P.length (Nat.le_refl _)
  have hk:=q3rb k1 k2 (fun h=>k3 k (Nat.le_refl _) h)
  rw [hk]
  refine ⟨fun h=>Nat.lt_of_not_le fun hle=>k3 i hle hi h,fun h=>k2 i h⟩
theorem q3us (d:Nat) (hPl:P.length≤64) (id:Int) (n dd:Int) (hinc:∀ i j,i<j→j<P.length→(ptA P i).1<(ptA P j).1) (R:Option q3hz) (hR:∀ self,q3js d self (id,(P.length:Int),P,n,dd,P.take (cutV P id),P.drop (cutV P id))=R):∀ (f i:Nat),P.length - i<f→i≤P.length →
    iter (q3js d) f (id,(i:Int),P,n,dd,P.take (min i (cutV P id)),(P.take i).drop (cutV P id))=R
  | 0,i,h,_=>by omega
  | f + 1, i, hf, hi => by
    have ih:=q3us d hPl id n dd hinc R hR f (i+1)
    rw [iter]
    revert ih
    generalize iter (q3js d) f=self
    intro ih
    have hcl:=q3sq P id
    by_cases hl:i<P.length
    · have hw := q36l (show i < 1000000 by omega)
      have hx:=q370 hl
      have htk:P.take (i+1)=P.take i ++ [ptA P i]:=by rw [List.take_add_one,hx];rfl
      unfold q3js
      simp only [q3it,q3ix,Dt.eval,decK hl,cond_true,inbK hl,eltK hx]
      have hap:∀ Q:List N3,Q.length≤64→apB Q.length 1=true:=fun Q hQ=>by unfold apB;rw [Nat.ble_eq];omega
      have hcut:=q3ur hinc hl (id:=id)
      by_cases c:(ptA P i).1<id
      · have ci := hcut.1 c
        have:=ih (by omega) (by omega)
        rw [show min (i+1) (cutV P id)=i+1 by omega,htk,show (P.take i ++ [ptA P i]).drop (cutV P id)=[] from List.drop_eq_nil_iff.2 (by rw [List.length_append,List.length_take,List.length_singleton];omega)] at this
        rw [show min i (cutV P id)=i by omega,show (P.take i).drop (cutV P id)=[] from List.drop_eq_nil_iff.2 (by rw [List.length_take];omega)]
        simp only [decide_eq_true c,cond_true,q3iz,q3j1,q3j3,Dt.eval,inbK hl,eltK hx,List.length_singleton,hap (P.take i) (by rw [List.length_take];omega),hw]
        exact this
      · have ci : cutV P id ≤ i := Nat.le_of_not_lt fun h => c (hcut.2 h)
        have:=ih (by omega) (by omega)
        rw [show min (i+1) (cutV P id)=cutV P id by omega,htk,List.drop_append_of_le_length (by rw [List.length_take];omega)] at this
        rw [show min i (cutV P id)=cutV P id by omega]
        simp only [decide_eq_false c,cond_false,q3j4,q3j1,q3j3,Dt.eval,inbK hl,cond_true,eltK hx,List.length_singleton,hap ((P.take i).drop (cutV P id)) (by rw [List.length_drop,List.length_take];omega),hw]
        exact this
    · have hie : i = P.length := by omega
      subst hie
      rw [List.take_length,show min P.length (cutV P id)=cutV P id by omega]
      exact hR self
end
end Go.Proofs.Ytoakhncbmpdacaa

namespace Go.Proofs.Ytoakhncbmpdacaa
open Go Go.Tx Go.Pel
theorem q3ut {P N:List N3} (hP:FOk P) (hNl:N.length=P.length) (hNi:∀ j,j<P.length→idN N j=(ptA P j).1):ascB N=true:=q3qt.2 fun i j hij hj=>by
  rw [hNi i (by omega),hNi j (by omega)];exact hP.inc i j hij (by omega)
theorem q3uu {P N:List N3} (c s:Nat) (hN:∀ j,j<N.length→∃ t,t<P.length∧idN N j=(ptA P t).1):q3s2 P N=true:=by
  unfold q3s2
  rw [List.all_eq_true]
  intro x hx
  obtain ⟨j,hj⟩:=List.mem_iff_getElem?.1 hx
  obtain ⟨t,h1,h2⟩:=hN j (List.getElem?_eq_some_iff.1 hj).1
  rw [(q37y hj).1] at h2
  have hm:ofP (ptA P t)∈ptsL P:=List.mem_of_getElem? (q372 h1)
  have:=q3pi hm
  rw [h2];exact this
theorem q3uv (d:Nat) (hd:5000≤d) (ha:q2wt d ()=some true) (P:List N3) {n dd:Int} (hn:i64B n=true) (hdd:i64B dd=true) (id:Int) :
    q3jt d ((P,()),(n,dd,()),(id,()),())=some true:=by
  have e1:=q3oq d P hn hdd
  simp only [q3jt,q3i3,q3i9,q3id,Dt.eval,e1]
  cases g1:(!great (ptsL P).length&&(qsv (ptsL P) n dd == 0)) with
  | false=>simp only [Bool.not_false,cond_true,q3ih,q3i3,Dt.eval,ha]
  | true =>
    rw [Bool.and_eq_true,beq_iff_eq] at g1
    obtain ⟨_,ht⟩:=g1
    simp only [Bool.not_true,cond_false,q3il,q3ip,Dt.eval]
    obtain ⟨c,hc⟩:∃ c,cutV P id=c:=⟨_,rfl⟩
    have hcl:c≤P.length:=by rw [← hc];exact q3sq P id
    have hta:qsv (ptsL (P.take c)) n dd=0:=q3ul (by unfold ptsL;exact (List.take_sublist _ _).map _) ht
    have htb:qsv (ptsL (P.drop c)) n dd=0:=q3ul (by unfold ptsL;exact (List.drop_sublist _ _).map _) ht
    rcases q37s d hd P hn hdd with ⟨h,e⟩ | ⟨_,hP,hT,r,N,ex,gN,lN,iN⟩
    · exact absurd ht h
    rcases q37s d hd (P.take c) hn hdd with ⟨h,e⟩ | ⟨_,hPa,_,ry,Y,ey,gY,lY,iY⟩
    · exact absurd hta h
    rcases q37s d hd (P.drop c) hn hdd with ⟨h,e⟩ | ⟨_,hPb,_,rz,Z,ez,gZ,lZ,iZ⟩
    · exact absurd htb h
    have hPl:=hP.len
    have la:(P.take c).length=c:=by rw [List.length_take];omega
    have lb:(P.drop c).length=P.length - c:=List.length_drop
    rw [la] at gY lY iY
    rw [lb] at gZ lZ iZ
    have iY':∀ j,j<c→idN Y j=(ptA P j).1:=fun j hj=>by rw [iY j hj,q3um hj]
    have iZ':∀ j,j<P.length - c→idN Z j=(ptA P (c+j)).1:=fun j hj=>by rw [iZ j hj,q3un]
    have vN:=q3nf hP gN lN iN
    have vY:=q3nf hPa (by rw [la];exact gY) (by rw [la];exact lY) (by rw [la];exact iY)
    have vZ:=q3nf hPb (by rw [lb];exact gZ) (by rw [lb];exact lZ) (by rw [lb];exact iZ)
    have aN:=q3ut hP lN iN
    have aY:=q3ut (N:=Y) hPa (by rw [la];exact lY) (by rw [la];exact iY)
    have aZ:=q3ut (N:=Z) hPb (by rw [lb];exact lZ) (by rw [lb];exact iZ)
    -- Split
    have hcN:cutV N id=c:=by
      refine q3rb (by omega) (fun j hj=>?_) (fun h=>?_)
      · rw [iN j (by omega)];exact (q3ur hP.inc (by omega)).2 (by rw [hc];exact hj)
      · rw [iN c (by omega)];exact fun h2=>by have:=(q3ur hP.inc (by omega)).1 h2;rw [hc] at this;omega
    have p1:=q3uh (P':=P.take c) (fr:=0) (tt:=c) (Nat.zero_le _) (by omega) (fun k hk=>by rw [Nat.zero_add] at hk ⊢;exact q3um hk) gN (by omega)
    have p2:=q3uh (P':=P.drop c) (fr:=c) (tt:=N.length) (by omega) (Nat.le_refl _) (fun k _=>q3un P c k) gN (by omega)
    rw [show max 0 0 - 0=0 from rfl,show min P.length c - 0=c by omega] at p1
    rw [show max 0 c - c=0 by omega,show min P.length N.length - c=P.length - c by omega] at p2
    have q1:=q3uq (P:=P.take c) (n:=n) (dd:=dd) (N:=q3qx N 0 c) (M:=Y) (by rw [la];exact p1) (by rw [q3t6,la];omega) (fun j hj=>by
      rw [la] at hj
      rw [(q37y (q3t7 (by omega))).1,Nat.zero_add,iN j (by omega),q3um hj]) (by rw [la];exact gY) (by rw [la];exact lY) (by rw [la];exact iY)
    have q2:=q3uq (P:=P.drop c) (n:=n) (dd:=dd) (N:=q3qx N c N.length) (M:=Z) (by rw [lb];exact p2) (by rw [q3t6,lb];omega) (fun j hj=>by
      rw [lb] at hj
      rw [(q37y (q3t7 (by omega))).1,iN (c+j) (by omega),q3un]) (by rw [lb];exact gZ) (by rw [lb];exact lZ) (by rw [lb];exact iZ)
    have es:=q3t9 d hd r N id
    have hsp:q3rc r N id=(ry,Y,rz,Z,0):=by
      unfold q3rc
      rw [if_neg (by rw [vN.chk];decide),aN,if_neg (by decide),hcN,q1.1,q1.2,q2.1,q2.2]
    rw [hsp] at es
    -- Merge
    have gY0:=q3ui (P:=P) (M:=catV Y Z) (s:=0) gY (fun k _ hk=>by rw [Nat.zero_add];exact q3um hk) (fun k _ hk=>by
      rw [Nat.zero_add,q3ry (by omega),List.getElem?_eq_getElem (by omega),Option.map_some,q3uo])
    have gZ0:=q3ui (P:=P) (M:=catV Y Z) (s:=c) gZ (fun k _ _=>q3un P c k) (fun k _ _=>by
      have:=q3rz (A:=Y) (B:=Z) (j:=k)
      rw [lY] at this;exact this)
    rw [q3up,Nat.zero_add,Nat.zero_add] at gY0
    rw [Nat.add_zero,show c+(P.length - c)=P.length by omega] at gZ0
    have hcatl:(catV Y Z).length=P.length:=by rw [q3rx];omega
    have hid:∀ j,j<P.length→idN (catV Y Z) j=(ptA P j).1:=fun j hj=>by
      by_cases c1:j<Y.length
      · rw [q3u1 c1];exact iY' j (by omega)
      · obtain ⟨k, rfl⟩ : ∃ k, j = Y.length + k := ⟨j - Y.length, by omega⟩
        rw [q3u2 (by omega),iZ' k (by omega),lY]
    have gJ:=q3uj hP 1000 gY0 gZ0 (Nat.zero_le _) hcl (by omega) (Nat.le_refl _) (by omega) (fun j _ hj=>ps_k hP hj (hid j hj))
    have sJ:=q3rt (P:=P) (n:=n) (dd:=dd) 1000 gY0.rg gZ0.rg (Nat.zero_le _) hcl (by omega)
    have q3:=q3uq gJ (by rw [sJ.ln,hcatl]) (fun j hj=>by rw [sJ.id];exact hid j hj) gN lN iN
    have hmeet:q3s3 Y Z=false:=by
      unfold q3s3
      by_cases c1:0<Y.length
      · by_cases c2 : 0 < Z.length
        · have h1 := iY' (Y.length - 1) (by omega)
          have h2:=iZ' 0 (by omega)
          have h3:=hP.inc (Y.length - 1) (c+0) (by omega) (by omega)
          rw [decide_eq_false (show ¬ idN Z 0≤idN Y (Y.length - 1) by omega),Bool.and_false,Bool.and_false]
        · rw [decide_eq_false c2,Bool.false_and,Bool.and_false]
      · rw [decide_eq_false c1,Bool.false_and]
    have em:=q3u7 d hd ry Y rz Z P hn hdd
    have hmg:q3s4 ry Y rz Z P n dd=(r,N,0):=by
      unfold q3s4
      rw [if_neg (by rw [vY.chk];decide),if_neg (by rw [vZ.chk];decide),aY,aZ,if_neg (by decide),if_neg (by rw [ht];decide),if_neg (by omega),
        q3uu c 0 (P:=P) (N:=Y) (fun j hj=>⟨j,by omega,iY' j (by omega)⟩),q3uu c 0 (P:=P) (N:=Z) (fun j hj=>⟨c+j,by omega,iZ' j (by omega)⟩),if_neg (by decide),hmeet,if_neg (by decide),lY,q3.1,q3.2]
    rw [hmg] at em
    have r1:=q3ni d hd ry Y (by omega)
    have r2:=q3ni d hd rz Z (by omega)
    have r3:=q3ni d hd r N (by omega)
    have fin:=q3us d hPl id n dd hP.inc (some true) (fun self=>by
      rw [hc]
      have hlt:¬ P.length<P.length:=Nat.lt_irrefl _
      unfold q3js
      simp only [q3it,q3j8,q3jc,q3jg,q3jk,q3jo,q3jq,q3i3,Dt.eval,decN hlt,cond_false,ex,ey,ez,es,em,beq_self_eq_true,cond_true,r1,r2,r3,ha]) d 0 (by omega) (Nat.zero_le _)
    rw [Nat.zero_min,List.take_zero,List.drop_nil] at fin
    exact fin
end Go.Proofs.Ytoakhncbmpdacaa
