/- Walks of the references; the orders agree; examples. -/
import Derived.Test.YtpfhgnccpiildaaGreatGm
set_option linter.unusedSimpArgs false
set_option linter.unusedVariables false
namespace Go.Pel
open Go Go.Tx
theorem q42h {X D:Int} (h1:1≤D) (h:(red X D).2.2=0):(red X D).1.natAbs≤X.natAbs∧(red X D).2.1≤D:=by
  have e:=q3sr X h1
  have g1:1≤Nat.gcd X.natAbs D.natAbs:=Nat.gcd_pos_of_pos_right _ (by omega)
  obtain ⟨k1,k2⟩:=e.gcd h1
  have a1:(X / (Nat.gcd X.natAbs D.natAbs:Nat)).natAbs≤X.natAbs:=by
    have:=congrArg Int.natAbs k1
    rw [Int.natAbs_mul,Int.natAbs_natCast] at this
    generalize Nat.gcd X.natAbs D.natAbs=g at *
    generalize (X / (g:Int)).natAbs=u at *
    rw [this]
    exact Nat.le_mul_of_pos_right u g1
  have a2:(D / (Nat.gcd X.natAbs D.natAbs:Nat)).natAbs≤D.natAbs:=by
    have:=congrArg Int.natAbs k2
    rw [Int.natAbs_mul,Int.natAbs_natCast] at this
    generalize Nat.gcd X.natAbs D.natAbs=g at *
    generalize (D / (g:Int)).natAbs=u at *
    rw [this]
    exact Nat.le_mul_of_pos_right u g1
  unfold red at h ⊢
  rcases q3su (X / (Nat.gcd X.natAbs D.natAbs:Nat)) (D / (Nat.gcd X.natAbs D.natAbs:Nat)) with ⟨k,_,_⟩ | k
  · rw [k];exact ⟨a1,by show D / (Nat.gcd X.natAbs D.natAbs:Nat)≤D;omega⟩
  · rw [k] at h;cases h
theorem q42i {X D:Int} (h1:1≤D) (h:(red X D).2.2=0):(0≤X→0≤(red X D).1)∧((red X D).1=0↔X=0):=by
  obtain ⟨c,e,_,_⟩:=q3sv h1 h
  have p:=(qd2 c).1
  generalize (red X D).1=a at *
  generalize (red X D).2.1=b at *
  constructor
  · intro hX
    refine Classical.byContradiction fun k=>?_
    have k1:=Int.mul_nonneg hX (show 0≤b by omega)
    have k2:=Int.mul_neg_of_neg_of_pos (show a<0 by omega) (show 0<D by omega)
    omega
  · constructor
    · intro ha
      rw [ha,Int.zero_mul] at e
      rcases Int.mul_eq_zero.1 e with k | k
      · exact k
      · omega
    · intro hX
      rw [hX,Int.zero_mul] at e
      rcases Int.mul_eq_zero.1 e.symm with k | k
      · exact k
      · omega
theorem q42j {sm sf st s n dd n' dd' m md:Int} (hd:1≤dd) (hd':1≤dd') (hm:m*(dd*dd'*2)=(n*dd'+n'*dd)*md) (h1:sm*dd+s*(n*md - m*dd)≤sf*md) (h2:sm*dd'+s*(n'*md - m*dd')≤st*md):sm*(dd*dd'*2)≤(sf*dd'+st*dd)*md:=by
  have k1:=Int.mul_le_mul_of_nonneg_right h1 (show 0≤dd' by omega)
  have k2:=Int.mul_le_mul_of_nonneg_right h2 (show 0≤dd by omega)
  rw [Int.add_mul] at k1 k2
  have e1:sm*dd*dd'=sm*(dd*dd'):=Int.mul_assoc _ _ _
  have e2:sm*dd'*dd=sm*(dd*dd'):=by rw [Int.mul_assoc,Int.mul_comm dd' dd]
  have e3:s*(n*md - m*dd)*dd'=s*((n*md - m*dd)*dd'):=Int.mul_assoc _ _ _
  have e4:s*(n'*md - m*dd')*dd=s*((n'*md - m*dd')*dd):=Int.mul_assoc _ _ _
  have e5:(n*md - m*dd)*dd'+(n'*md - m*dd')*dd=0:=by
    rw [Int.sub_mul,Int.sub_mul]
    have f1:n*md*dd'=n*dd'*md:=Int.mul_right_comm _ _ _
    have f2:n'*md*dd=n'*dd*md:=Int.mul_right_comm _ _ _
    have f3:m*dd*dd'=m*(dd*dd'):=Int.mul_assoc _ _ _
    have f4:m*dd'*dd=m*(dd*dd'):=by rw [Int.mul_assoc,Int.mul_comm dd' dd]
    rw [Int.add_mul] at hm
    have f5:m*(dd*dd'*2)=m*(dd*dd')*2:=(Int.mul_assoc _ _ _).symm
    rw [f1,f2,f3,f4];omega
  have e6:s*((n*md - m*dd)*dd')+s*((n'*md - m*dd')*dd)=0:=by rw [← Int.mul_add,e5,Int.mul_zero]
  have e7:sm*(dd*dd'*2)=sm*(dd*dd')*2:=(Int.mul_assoc _ _ _).symm
  have e8:sf*md*dd'=sf*dd'*md:=Int.mul_right_comm _ _ _
  have e9:st*md*dd=st*dd*md:=Int.mul_right_comm _ _ _
  rw [e1,e3,e8] at k1
  rw [e2,e4,e9] at k2
  rw [Int.add_mul,e7];omega
theorem q42k {n dd n' dd' m md:Int} (hd:1≤dd) (hd':1≤dd') (h0:1≤md) (hm:m*(dd*dd'*2)=(n*dd'+n'*dd)*md) (hle:n*dd'≤n'*dd):n*md≤m*dd∧m*dd'≤n'*md:=by
  have k:=Int.mul_le_mul_of_nonneg_right hle (show 0≤md by omega)
  rw [Int.add_mul] at hm
  have f5:m*(dd*dd'*2)=m*dd*dd'*2:=by rw [← Int.mul_assoc,← Int.mul_assoc]
  have f6:m*(dd*dd'*2)=m*dd'*dd*2:=by rw [f5,Int.mul_right_comm m dd dd']
  constructor
  · refine Int.le_of_mul_le_mul_right (a := dd') ?_ (by omega)
    rw [Int.mul_right_comm n md dd'];omega
  · refine Int.le_of_mul_le_mul_right (a := dd) ?_ (by omega)
    rw [Int.mul_right_comm n' md dd];omega
theorem q42l {a1 a2 b1 b2 c1 c2 sf st sm dd dd' md:Int} (hd:1≤dd) (hd':1≤dd') (hmd:1≤md) (pa:1≤a2) (pb:1≤b2) (pc:1≤c2) (ea:sf*a2=a1*dd) (eb:st*b2=b1*dd') (ec:sm*c2=c1*md) (h:sm*(dd*dd'*2)≤(sf*dd'+st*dd)*md):c1*2*(a2*b2)≤(a1*b2+b1*a2)*(c2*1):=by
  have q:0<dd*dd'*md:=Int.mul_pos (Int.mul_pos (by omega) (by omega)) (by omega)
  refine Int.le_of_mul_le_mul_right (a:=dd*dd'*md) ?_ q
  have r:0≤a2*b2*c2:=Int.mul_nonneg (Int.mul_nonneg (by omega) (by omega)) (by omega)
  have k:=Int.mul_le_mul_of_nonneg_right h r
  have l1:c1*2*(a2*b2)*(dd*dd'*md)=sm*(dd*dd'*2)*(a2*b2*c2):=by
    rw [show c1*2*(a2*b2)*(dd*dd'*md)=c1*md*(2*(a2*b2)*(dd*dd')) by ac_rfl,← ec]
    ac_rfl
  have l2:(a1*b2+b1*a2)*(c2*1)*(dd*dd'*md)=(sf*dd'+st*dd)*md*(a2*b2*c2):=by
    rw [Int.mul_one,Int.add_mul,Int.add_mul,Int.add_mul,Int.add_mul]
    rw [show a1*b2*c2*(dd*dd'*md)=a1*dd*(b2*c2*(dd'*md)) by ac_rfl,show b1*a2*c2*(dd*dd'*md)=b1*dd'*(a2*c2*(dd*md)) by ac_rfl,← ea,← eb]
    rw [show sf*a2*(b2*c2*(dd'*md))=sf*dd'*md*(a2*b2*c2) by ac_rfl,show st*b2*(a2*c2*(dd*md))=st*dd*md*(a2*b2*c2) by ac_rfl]
  rw [l1,l2]
  exact k
end Go.Pel
namespace Go.Proofs.YtpfhgnccpiildaaGreat
open Go Go.Tx Go.Pel
theorem q42m (X D:Int):i64B (red X D).1=true∧i64B (red X D).2.1=true:=by
  unfold red
  rcases q3su (X / (Nat.gcd X.natAbs D.natAbs:Nat)) (D / (Nat.gcd X.natAbs D.natAbs:Nat)) with ⟨e,k1,k2⟩ | e
  · rw [e];exact ⟨q3pg k1,q3pg k2⟩
  · rw [e];exact ⟨rfl,rfl⟩
theorem q42n (d:Nat) (n:Int):q3bx d ((n,()),())=some (n,1):=by
  simp only [q3bx,q3bl,q3br,q3bv,Dt.eval]
theorem q42o (d:Nat) (hd:5000≤d) {l:List T3} (h:FldOk l) {p0:T3} (hp0:l[0]?=some p0) {n dd a1 a2:Int} (hq:okB n dd):∀ (f i:Nat) (sm:Bool),l.length - i<f→i≤l.length →
    iter (q3ob d) f (true,sm,(i:Int),l,n,dd,a1,a2)=some ((a1 == 0) == (sm&&(l.drop i).all fun p=>decide (fpl p n dd=fpl p0 n dd)))
  | 0,i,sm,hf,_=>by omega
  | f + 1, i, sm, hf, hi => by
    have ih:=q42o d hd h hp0 (a1:=a1) (a2:=a2) hq f (i+1)
    rw [iter]
    revert ih
    generalize iter (q3ob d) f=self
    intro ih
    have hl64:=h.len
    by_cases hlt:i<l.length
    · obtain ⟨x, hx⟩ : ∃ x, l[i]? = some x := ⟨_, List.getElem?_eq_getElem hlt⟩
      have hxm:=List.mem_of_getElem? hx
      have hpm:=List.mem_of_getElem? hp0
      have e1:=q3wt d (by omega) x p0 hq.q.b1 hq.q.b2
      obtain ⟨e2,e3⟩:=q41t (h.ok x hxm) (h.ok p0 hpm) hq.q.ok hq.d1 hq.n1
      have dd0:=(qd2 hq.q.ok).1
      have e4:((apV x p0 n dd).1 == 0)=decide (fpl x n dd=fpl p0 n dd):=by
        rw [e2] at e3
        have:=(q42i dd0 e3).2
        rw [e2,Bool.eq_iff_iff,beq_iff_eq,decide_eq_true_eq,this]
        omega
      have wi:=q3q6 (show i<1000000 by omega)
      have b0:inB (0:Int) l.length=true:=q3q8 (k:=0) (by omega)
      have x0:elt ziii l (0:Int).toNat=p0:=q3q7 (k:=0) hp0
      generalize apV x p0 n dd=r at *
      obtain ⟨r1,r2,r3⟩:=r
      have e3':r3=0:=e3
      subst e3'
      have e4':(r1 == 0)=decide (fpl x n dd=fpl p0 n dd):=e4
      rw [q3qb hx,List.all_cons]
      unfold q3ob
      cases sm with
      | true =>
        simp only [q3nz,q3o7,q3o3,q3o5,q3o9,Dt.eval,q3ld,q3q9 hlt,cond_true,q3q8 hlt,q3q7 hx,b0,x0,e1,beq_self_eq_true,e4',wi,Bool.true_and]
        exact ih (decide (fpl x n dd=fpl p0 n dd)) (by omega) (by omega)
      | false =>
        simp only [q3nz,q3o7,q3o3,q3o5,q3o9,Dt.eval,q3ld,q3q9 hlt,cond_true,q3q8 hlt,q3q7 hx,b0,x0,e1,cond_false,wi,Bool.false_and]
        exact ih false (by omega) (by omega)
    · have hkl : i = l.length := by omega
      unfold q3ob
      simp only [q3nz,q3o7,q3o3,q3o5,q3o9,Dt.eval,q3qa hlt,cond_false,cond_true]
      rw [hkl,List.drop_length]
      simp
theorem q42p {l:List T3} (hl:l ≠ []) {p0:T3} (hp0:l[0]?=some p0) {n dd:Int}:(Sp l n dd=0)↔(l.drop 1).all (fun p=>decide (fpl p n dd=fpl p0 n dd))=true:=by
  have h1:=q3sa hl n dd
  have h2:=q3w8 hl n dd
  have hpm:=List.mem_of_getElem? hp0
  rw [List.all_eq_true]
  have hcons:l=p0 :: l.drop 1:=by
    cases l with
    | nil=>cases hp0
    | cons a r=>simp only [List.getElem?_cons_zero,Option.some.injEq] at hp0;rw [hp0];rfl
  constructor
  · intro hs x hx
    have hxm:x∈l:=List.mem_of_mem_drop hx
    have a1:=Lead.far h1 hxm
    have a2:=h2.near hxm
    have a3:=Lead.far h1 hpm
    have a4:=h2.near hpm
    unfold Sp at hs
    rw [decide_eq_true_eq];omega
  · intro hall
    have key:∀ x∈l,fpl x n dd=fpl p0 n dd:=fun x hx=>by
      rw [hcons] at hx
      rcases List.mem_cons.1 hx with e | e
      · rw [e]
      · exact of_decide_eq_true (hall x e)
    unfold Sp
    rw [key _ h1.1,key _ h2.1];omega
theorem q42q (d:Nat) (hd:5000≤d) (ea:q3d3 d ()=some true) (l:List T3) (n dd n' dd':Int) (hn:i64B n=true) (hdd:i64B dd=true) (hn':i64B n'=true) (hd':i64B dd'=true):q3oc d ((l,()),(n,dd,()),(n',dd',()),())=some true:=by
  obtain ⟨g,e0,_⟩:=q3xq d l
  have e1:=q3qj d l hn hdd hn' hd'
  obtain ⟨v1,a1,a2⟩:=q425 d hn hdd
  obtain ⟨v2,a3,a4⟩:=q425 d hn' hd'
  have z0:((0:Int) != 0)=false:=rfl
  cases g with
  | true=>simp only [q3oc,q3ld,q3lj,q3ln,q3lr,q3lv,Dt.eval,ea,e0,cond_true]
  | false =>
    by_cases hc:chk2 l n dd n' dd'=0
    · rw [hc] at e1
      by_cases hl0:l.length=0
      · simp only [q3oc,q3ld,q3lj,q3ln,q3lr,q3lv,Dt.eval,ea,e0,e1,z0,cond_true,cond_false,show ((l.length:Int) == 0)=true by rw [hl0];rfl]
      · have hl1 : ((l.length : Int) == 0) = false := by rw [beq_eq_false_iff_ne]; omega
        by_cases hv1:v1=0
        · by_cases hv2 : v2 = 0
          · subst hv1
            subst hv2
            obtain ⟨_,b1,b2⟩:=a2 rfl
            obtain ⟨_,b3,b4⟩:=a4 rfl
            have hl:l ≠ []:=fun e=>hl0 (by rw [e];rfl)
            have hcs:=q3wf hc hl
            obtain ⟨_,h,h0,h1,h2,h3⟩:=q3x6 hcs
            have p1:=(qd2 h1).1
            have p2:=(qd2 h2).1
            have e2:=q3vm d (by omega) hn hdd hn' hd' h1 h2
            have e3:=q3vv d (by omega) (q42m (n*dd'+n'*dd) (dd*dd')).1 (q42m (n*dd'+n'*dd) (dd*dd')).2 (n2:=1) (d2:=2) rfl rfl
            have pD:1≤dd*dd':=by have:=Int.mul_pos (show 0<dd by omega) (show 0<dd' by omega);omega
            have mD:dd*dd'≤1048576:=by
              have:=Int.mul_le_mul b2 b4 (by omega) (by omega:(0:Int)≤1024);omega
            have mX:(n*dd'+n'*dd).natAbs≤2199023255552:=by
              have m1:(n*dd').natAbs≤1073741824*1024:=by rw [Int.natAbs_mul];exact Nat.mul_le_mul b1 (by omega)
              have m2:(n'*dd).natAbs≤1073741824*1024:=by rw [Int.natAbs_mul];exact Nat.mul_le_mul b3 (by omega)
              omega
            by_cases hs:(red (n*dd'+n'*dd) (dd*dd')).2.2=0
            · obtain ⟨w1, w2, w3, w4⟩ := q3sv pD hs
              have w5:=(qd2 w1).1
              rw [if_pos ⟨w1,rfl⟩] at e3
              have hmid:red ((red (n*dd'+n'*dd) (dd*dd')).1*1) ((red (n*dd'+n'*dd) (dd*dd')).2.1*2)=red (n*dd'+n'*dd) (dd*dd'*2):=by
                refine q3vr (by omega) (by omega) ?_
                rw [Int.mul_one,← Int.mul_assoc,← w2,Int.mul_assoc]
              rw [hmid] at e3
              by_cases hm:(red (n*dd'+n'*dd) (dd*dd'*2)).2.2=0
              · obtain ⟨u1, u2, u3, u4⟩ := q3sv (by omega) hm
                have u5:=(qd2 u1).1
                obtain ⟨s1,s2⟩:=q42h (by omega) hm
                obtain ⟨t1,t2⟩:=q42m (n*dd'+n'*dd) (dd*dd'*2)
                generalize red (n*dd'+n'*dd) (dd*dd'*2)=M at *
                obtain ⟨m,md,me⟩:=M
                have hm':me=0:=hm
                subst hm'
                generalize red (n*dd'+n'*dd) (dd*dd')=S at *
                obtain ⟨x1,x2,xe⟩:=S
                have hs':xe=0:=hs
                subst hs'
                have u1:qcv m md=0:=u1
                have u2:(n*dd'+n'*dd)*md=m*(dd*dd'*2):=u2
                have u5:1≤md:=u5
                have s1:m.natAbs≤(n*dd'+n'*dd).natAbs:=s1
                have s2:md≤dd*dd'*2:=s2
                have t1:i64B m=true:=t1
                have t2:i64B md=true:=t2
                have f1:=q3wu d hd l hn hdd
                have f2:=q3wu d hd l hn' hd'
                have f3:=q3wu d hd l t1 t2
                obtain ⟨c1,c2⟩:=q41u hl h h0 h1 (by omega) (by omega)
                obtain ⟨c3,c4⟩:=q41u hl h h0 h2 (by omega) (by omega)
                obtain ⟨c5,c6⟩:=q41u hl h h0 u1 (by omega) (by omega)
                rw [c1] at f1
                rw [c3] at f2
                rw [c5] at f3
                have sz:=(q42i p1 c2).2
                have n1:=(q42i p1 c2).1 (q41v hl n dd)
                have n2:=(q42i p2 c4).1 (q41v hl n' dd')
                have n3:=(q42i u5 c6).1 (q41v hl m md)
                obtain ⟨r1,r2⟩:=q42m (Sp l n dd) dd
                obtain ⟨r3,r4⟩:=q42m (Sp l n' dd') dd'
                obtain ⟨r5,r6⟩:=q42m (Sp l m md) md
                obtain ⟨q1,q2,_,_⟩:=q3sv p1 c2
                obtain ⟨q3,q4,_,_⟩:=q3sv p2 c4
                obtain ⟨q5,q6,_,_⟩:=q3sv u5 c6
                have hkey:=q42j p1 p2 u2.symm (q41x hl (n:=m) (dd:=md) (n':=n) (dd':=dd) u5) (q41x hl (n:=m) (dd:=md) (n':=n') (dd':=dd') u5)
                obtain ⟨bt1,bt2⟩:=q42k p1 p2 u5 u2.symm h3
                have sl1:=q418 h hl p1 u5 (show leQ n dd m md from bt1)
                have sl2:=q418 h hl u5 p2 (show leQ m md n' dd' from bt2)
                have g1:=q3wy d hd hl h h0 hn hdd h1
                have g2:=q3wy d hd hl h h0 t1 t2 u1
                have g3:=q3wy d hd hl h h0 hn' hd' h2
                generalize red (Sp l n dd) dd=A at *
                generalize red (Sp l n' dd') dd'=B at *
                generalize red (Sp l m md) md=C at *
                obtain ⟨A1,A2,Ae⟩:=A
                obtain ⟨B1,B2,Be⟩:=B
                obtain ⟨C1,C2,Ce⟩:=C
                have c2':Ae=0:=c2
                have c4':Be=0:=c4
                have c6':Ce=0:=c6
                subst c2'
                subst c4'
                subst c6'
                have pA:1≤A2:=(qd2 q1).1
                have pB:1≤B2:=(qd2 q3).1
                have pC:1≤C2:=(qd2 q5).1
                have hfin:=q42l p1 p2 u5 pA pB pC q2 q4 q6 hkey
                have k1:=q3qh d (n:=A1) (dd:=A2) r1 r2
                have k2:=q3qh d (n:=B1) (dd:=B2) r3 r4
                have k3:=q3qh d (n:=C1) (dd:=C2) r5 r6
                rw [show qcv A1 A2=0 from q1] at k1
                rw [show qcv B1 B2=0 from q3] at k2
                rw [show qcv C1 C2=0 from q5] at k3
                have i1:=q3vm d (by omega) (n1:=A1) (d1:=A2) (n2:=B1) (d2:=B2) r1 r2 r3 r4 q1 q3
                have i2:=q3vu d (by omega) (n1:=C1) (d1:=C2) (n2:=2) (d2:=1) r5 r6 rfl rfl q5 rfl
                have i3:=q42n d 2
                have d1:decide (A1<0)=false:=decide_eq_false (by have:0≤A1:=n1;omega)
                have d2:decide (B1<0)=false:=decide_eq_false (by have:0≤B1:=n2;omega)
                have d3:decide (C1<0)=false:=decide_eq_false (by have:0≤C1:=n3;omega)
                have pE:1≤A2*B2:=by have:=Int.mul_pos (show 0<A2 by omega) (show 0<B2 by omega);omega
                have pF:1≤C2*1:=by omega
                obtain ⟨o1,o2⟩:=q42m (A1*B2+B1*A2) (A2*B2)
                obtain ⟨o3,o4⟩:=q42m (C1*2) (C2*1)
                have i4:=q3oq d _ _ _ _ o3 o4 o1 o2
                have hcmp:(red (A1*B2+B1*A2) (A2*B2)).2.2=0→(red (C1*2) (C2*1)).2.2=0→decide (cmpQ (red (C1*2) (C2*1)).1 (red (C1*2) (C2*1)).2.1 (red (A1*B2+B1*A2) (A2*B2)).1 (red (A1*B2+B1*A2) (A2*B2)).2.1 > 0)=false:=fun w1 w2=>by
                  rw [decide_eq_false_iff_not]
                  intro c
                  have:=q42b.1 c
                  have k:=(q41p pF pE w2 w1).2 hfin
                  omega
                generalize red (A1*B2+B1*A2) (A2*B2)=E at *
                generalize red (C1*2) (C2*1)=F at *
                obtain ⟨E1,E2,Ee⟩:=E
                obtain ⟨F1,F2,Fe⟩:=F
                have d4:decide (slV l n dd > slV l m md)=false:=decide_eq_false (by omega)
                have d5:decide (slV l m md > slV l n' dd')=false:=decide_eq_false (by omega)
                obtain ⟨p0,hp0⟩:∃ p0,l[0]?=some p0:=⟨_,List.getElem?_eq_getElem (List.length_pos_iff.2 hl)⟩
                have hloop:=q42o d hd h hp0 (n:=n) (dd:=dd) (a1:=A1) (a2:=A2) ⟨⟨hn,hdd,h1⟩,by omega,by omega⟩ d 1 true (by have:=h.len;omega) (by have:=List.length_pos_iff.2 hl;omega)
                have hz:((A1 == 0) == (true&&(l.drop 1).all fun p=>decide (fpl p n dd=fpl p0 n dd)))=true:=by
                  have hz1:=q42p hl hp0 (n:=n) (dd:=dd)
                  have sz':A1=0↔Sp l n dd=0:=sz
                  rw [Bool.true_and,beq_iff_eq,Bool.eq_iff_iff,beq_iff_eq,sz',hz1]
                rw [hz] at hloop
                have hc3:(bif Ee == 0 then (bif Fe == 0 then decide (cmpQ F1 F2 E1 E2 > 0) else false) else false)=false:=by
                  by_cases w1:Ee=0
                  · by_cases w2 : Fe = 0
                    · have := hcmp w1 w2
                      rw [show (Ee == 0)=true by simpa using w1,show (Fe == 0)=true by simpa using w2,cond_true,cond_true];exact this
                    · rw [show (Ee == 0)=true by simpa using w1,show (Fe == 0)=false by simpa using w2];rfl
                  · rw [show (Ee == 0)=false by simpa using w1];rfl
                by_cases w1:Ee=0
                · by_cases w2 : Fe = 0
                  · subst w1
                    subst w2
                    have hc4:decide (cmpQ F1 F2 E1 E2 > 0)=false:=hcmp rfl rfl
                    simp only [q3oc,q3ld,q3lj,q3ln,q3lr,q3lv,q3lz,q3m3,q3m7,q3m9,q3md,q3mh,q3ml,q3mp,q3mr,q3mv,q3mz,q3n3,q3n5,q3n9,q3nd,q3nh,q3nl,q3nn,q3nr,q3nv,Dt.eval,ea,e0,e1,z0,cond_true,cond_false,hl1,a1,a3,Bool.not_true,e2,e3,f1,f2,f3,k1,k2,k3,d1,d2,d3,i1,i2,i3,i4,beq_self_eq_true,hc4,g1,g2,g3,d4,d5]
                    exact hloop
                  · have hf : (Fe == 0) = false := by simpa using w2
                    subst w1
                    simp only [q3oc,q3ld,q3lj,q3ln,q3lr,q3lv,q3lz,q3m3,q3m7,q3m9,q3md,q3mh,q3ml,q3mp,q3mr,q3mv,q3mz,q3n3,q3n5,q3n9,q3nd,q3nh,q3nl,q3nn,q3nr,q3nv,Dt.eval,ea,e0,e1,z0,cond_true,cond_false,hl1,a1,a3,Bool.not_true,e2,e3,f1,f2,f3,k1,k2,k3,d1,d2,d3,i1,i2,i3,beq_self_eq_true,hf,g1,g2,g3,d4,d5]
                    exact hloop
                · have he : (Ee == 0) = false := by simpa using w1
                  simp only [q3oc,q3ld,q3lj,q3ln,q3lr,q3lv,q3lz,q3m3,q3m7,q3m9,q3md,q3mh,q3ml,q3mp,q3mr,q3mv,q3mz,q3n3,q3n5,q3n9,q3nd,q3nh,q3nl,q3nn,q3nr,q3nv,Dt.eval,ea,e0,e1,z0,cond_true,cond_false,hl1,a1,a3,Bool.not_true,e2,e3,f1,f2,f3,k1,k2,k3,d1,d2,d3,i1,i2,i3,he,g1,g2,g3,d4,d5]
                  exact hloop
              · generalize red (n * dd' + n' * dd) (dd * dd' * 2) = M at *
                obtain ⟨m,md,me⟩:=M
                have hm':(me != 0)=true:=by simpa using hm
                generalize red (n*dd'+n'*dd) (dd*dd')=S at *
                obtain ⟨x1,x2,xe⟩:=S
                have hs':xe=0:=hs
                subst hs'
                simp only [q3oc,q3ld,q3lj,q3ln,q3lr,q3lv,q3lz,q3m3,q3m7,q3m9,Dt.eval,ea,e0,e1,z0,cond_true,cond_false,hl1,a1,a3,Bool.not_true,e2,e3,hm']
            · generalize red (n * dd' + n' * dd) (dd * dd') = S at *
              obtain ⟨x1,x2,xe⟩:=S
              have hs':(xe != 0)=true:=by simpa using hs
              simp only [q3oc,q3ld,q3lj,q3ln,q3lr,q3lv,q3lz,q3m3,q3m7,q3m9,Dt.eval,ea,e0,e1,z0,cond_true,cond_false,hl1,a1,a3,Bool.not_true,e2,e3,hs']
          · subst hv1
            simp only [q3oc,q3ld,q3lj,q3ln,q3lr,q3lv,Dt.eval,ea,e0,e1,z0,cond_true,cond_false,hl1,a1,a3,show (v2 != 0)=true by simpa using hv2]
        · simp only [q3oc,q3ld,q3lj,q3ln,q3lr,q3lv,Dt.eval,ea,e0,e1,z0,cond_true,cond_false,hl1,a1,show (v1 != 0)=true by simpa using hv1]
    · simp only [q3oc,q3ld,q3lj,q3ln,q3lr,q3lv,Dt.eval,ea,e0,e1,show (chk2 l n dd n' dd' != 0)=true by simpa using hc,cond_true,cond_false]
end Go.Proofs.YtpfhgnccpiildaaGreat
