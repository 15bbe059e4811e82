/- Walks of the references; the orders agree; examples. -/
import Derived.Test.YtpfhgnccpiildaaGreatRows
import Derived.ProofKit
import Derived.OpenShut
import Derived.ShutString
import Derived.ChangeOld
import Derived.Deep.Slices
import Derived.Test.YtpfhgnccpiildaaGreatGi
set_option linter.unusedSimpArgs false
set_option linter.unusedVariables false
namespace Go.Proofs.YtpfhgnccpiildaaGreat
open Go Go.Tx Go.Pel
theorem q3dx (d:Nat) {O:List T3} (hO:O.Pairwise fun a b=>a.1≠b.1) (hlen:O.length≤64) {k:Nat} {p:T3} (hk:O[k]?=some p):∀ (f i:Nat),O.length - i<f→i≤k→iter (q2u4 d) f (O.map idU,p.1,(i:Int))=some (k:Int)
  | 0,i,hf,hi=>by have:=(List.getElem?_eq_some_iff.1 hk).1;omega
  | f + 1, i, hf, hi => by
    have ih:=q3dx d hO hlen hk f (i+1)
    obtain ⟨kl,ke⟩:=List.getElem?_eq_some_iff.1 hk
    have hlt:i<O.length:=by omega
    rw [iter]
    revert ih
    generalize iter (q2u4 d) f=self
    intro ih
    unfold q2u4
    have hl:i<(O.map idU).length:=by rw [List.length_map];exact hlt
    obtain ⟨x,hx⟩:∃ x,O[i]?=some x:=⟨_,List.getElem?_eq_getElem hlt⟩
    have hx':(O.map idU)[i]?=some (idU x):=by rw [List.getElem?_map,hx];rfl
    have wi:=q347 (show i<1000000 by omega)
    rcases Nat.lt_or_eq_of_le hi with h | h
    · have hne:(x.1 == p.1)=false:=by
        rw [beq_eq_false_iff_ne]
        have:=List.pairwise_iff_getElem.1 hO i k hlt kl h
        obtain ⟨_,xe⟩:=List.getElem?_eq_some_iff.1 hx
        rw [xe,ke] at this
        exact this
      simp only [q2tq,q2u0,q2tu,q2ty,q2u2,Dt.eval,q34a hl,cond_true,q349 hl,q348 hx',idU,hne,cond_false,wi]
      exact ih (by omega) (by omega)
    · subst h
      rw [hk] at hx
      injection hx with hx
      subst hx
      simp only [q2tq,q2u0,q2tu,q2ty,q2u2,Dt.eval,q34a hl,cond_true,q349 hl,q348 hx',idU,beq_self_eq_true]
theorem q3dy (d:Nat) (hd:200≤d) {O:List T3} (hO:O.Pairwise fun a b=>a.1≠b.1) (hlen:O.length≤64) {k:Nat} {p:T3} (hk:O[k]?=some p):q2u5 d ((O.map idU,()),(p.1,()),())=some (k:Int):=by
  have:=q3dx d hO hlen hk d 0 (by omega) (Nat.zero_le _)
  simp only [q2u5,q2te,q2ti,q2tm,Dt.eval]
  exact this
theorem q3dz (d:Nat) (hd:200≤d) {l:List T3} (h:FldOk l) (n dd:Int) {p:T3} (hp:p∈l):∃ k:Nat,(ordT l n dd)[k]?=some p∧q2u5 d (((ordT l n dd).map idU,()),(p.1,()),())=some (k:Int):=by
  obtain ⟨k,hk⟩:=List.mem_iff_getElem?.1 ((q3dr l n dd).mem_iff.2 hp)
  exact ⟨k,hk,q3dy d hd ((q3dt h n dd).imp fun {a b} h=>h.1) (by rw [q3du];exact h.len) hk⟩
theorem q3e0 (d:Nat) (hd:200≤d) {l:List T3} (h:FldOk l) {a b t u:Int} {G:List M4} (self1:(List Di×List Di×List qj9×Int×Int×List Diii)→Option q2u9) {i:Nat} {p:T3} (hp:(ordT l a b)[i]?=some p):∀ (f k s:Nat),(ordT l a b).length - k<f→k≤(ordT l a b).length→s+((ordT l a b).length - k)≤9999 →
    iter (q2vg d self1) f ((ordT l a b).map idU,(ordT l t u).map idU,G,(s:Int),(i:Int),(k:Int),l)=self1 ((ordT l a b).map idU,(ordT l t u).map idU,G,((s+((ordT l a b).drop k).countP fun q=>leads (ofP q) (ofP p) t u:Nat):Int),((i+1:Nat):Int),l)
  | 0,k,s,hf,_,_=>by omega
  | f + 1, k, s, hf, hk, hs => by
    have ih:=q3e0 d hd h (a:=a) (b:=b) (t:=t) (u:=u) (G:=G) self1 hp f (k+1)
    rw [iter]
    revert ih
    generalize iter (q2vg d self1) f=self
    intro ih
    have hol:=q3du l a b
    have hl64:=h.len
    have hil:=(List.getElem?_eq_some_iff.1 hp).1
    have wi:=q347 (show i<1000000 by omega)
    unfold q2vg q2vd
    have hml:((ordT l a b).map idU).length=(ordT l a b).length:=List.length_map _
    by_cases hlt:k<(ordT l a b).length
    · obtain ⟨q, hq⟩ : ∃ q, (ordT l a b)[k]? = some q := ⟨_, List.getElem?_eq_getElem hlt⟩
      have hpl:=(q3dr l a b).mem_iff.1 (List.mem_of_getElem? hp)
      have hql:=(q3dr l a b).mem_iff.1 (List.mem_of_getElem? hq)
      obtain ⟨i',i1,i2⟩:=q3dz d hd h t u hpl
      obtain ⟨j',j1,j2⟩:=q3dz d hd h t u hql
      have hp':((ordT l a b).map idU)[i]?=some (idU p):=by rw [List.getElem?_map,hp];rfl
      have hq':((ordT l a b).map idU)[k]?=some (idU q):=by rw [List.getElem?_map,hq];rfl
      have hl1:i<((ordT l a b).map idU).length:=by omega
      have hl2:k<((ordT l a b).map idU).length:=by omega
      have wk:=q347 (show k<1000000 by omega)
      have ws:=q347 (show s<1000000 by omega)
      have hlead:decide ((i':Int) > (j':Int))=leads (ofP q) (ofP p) t u:=by
        rw [← q3dv h j1 i1]
        exact decide_eq_decide.2 (by omega)
      have hN:((ordT l a b).drop k).countP (fun q=>leads (ofP q) (ofP p) t u)=(leads (ofP q) (ofP p) t u).toNat+((ordT l a b).drop (k+1)).countP (fun q=>leads (ofP q) (ofP p) t u):=by
        rw [q34c hq,List.countP_cons]
        cases leads (ofP q) (ofP p) t u<;>simp<;>omega
      rw [hN]
      simp only [q2uv,q2ve,q2uz,q2v3,q2vb,q2v7,q2v9,Dt.eval,q2ud,q34a hl2,cond_true,q349 hl1,q349 hl2,q348 hp',q348 hq',idU,i2,j2,hlead]
      cases hc:leads (ofP q) (ofP p) t u with
      | true =>
        simp only [cond_true,ws,wk]
        have:=ih (s+1) (by omega) (by omega) (by omega)
        rw [show s+(true.toNat+((ordT l a b).drop (k+1)).countP (fun q=>leads (ofP q) (ofP p) t u))=s+1+((ordT l a b).drop (k+1)).countP (fun q=>leads (ofP q) (ofP p) t u) by show s+(1+_)=_;omega]
        exact this
      | false =>
        simp only [cond_false,wk]
        have:=ih s (by omega) (by omega) (by omega)
        rw [show s+(false.toNat+((ordT l a b).drop (k+1)).countP (fun q=>leads (ofP q) (ofP p) t u))=s+((ordT l a b).drop (k+1)).countP (fun q=>leads (ofP q) (ofP p) t u) by show s+(0+_)=_;omega]
        exact this
    · have hkl : k = (ordT l a b).length := by omega
      have hnl:¬ k<((ordT l a b).map idU).length:=by omega
      simp only [q2uv,q2ve,q2uz,q2v3,q2vb,q2v7,q2v9,Dt.eval,q34b hnl,cond_false,wi]
      rw [hkl,List.drop_length]
      rfl
theorem q3e1 (d:Nat) (hd:5000≤d) {l:List T3} (h:FldOk l) {a b t u:Int} {G:List M4}:∀ (f i s:Nat),(ordT l a b).length - i<f→i≤(ordT l a b).length→s≤i*64 →
    iter (q2wu d) f ((ordT l a b).map idU,(ordT l t u).map idU,G,(s:Int),(i:Int),l)=iter (q2wt d) d ((ordT l a b).map idU,(ordT l t u).map idU,G,((s+(qwo ((ordT l a b).drop i)).countP fun x=>leads (ofP x.2) (ofP x.1) t u:Nat):Int),(0:Int),l)
  | 0,i,s,hf,_,_=>by omega
  | f + 1, i, s, hf, hi, hs => by
    have ih:=q3e1 d hd h (a:=a) (b:=b) (t:=t) (u:=u) (G:=G) f (i+1)
    rw [iter]
    revert ih
    generalize iter (q2wu d) f=self
    intro ih
    have hol:=q3du l a b
    have hl64:=h.len
    have hml:((ordT l a b).map idU).length=(ordT l a b).length:=List.length_map _
    unfold q2wu
    by_cases hlt:i<(ordT l a b).length
    · obtain ⟨p, hp⟩ : ∃ p, (ordT l a b)[i]? = some p := ⟨_, List.getElem?_eq_getElem hlt⟩
      have hl1:i<((ordT l a b).map idU).length:=by omega
      have wi:=q347 (show i<1000000 by omega)
      have e:=q3e0 d (by omega) h (a:=a) (b:=b) (t:=t) (u:=u) (G:=G) self hp d (i+1) s (by omega) (by omega) (by omega)
      simp only [q2uv,q2ve,q2uz,q2v3,q2vb,q2v7,q2v9,q2vj,Dt.eval,q34a hl1,cond_true,wi]
      rw [e]
      have hc:((ordT l a b).drop (i+1)).countP (fun q=>leads (ofP q) (ofP p) t u)≤64:=Nat.le_trans List.countP_le_length (by rw [List.length_drop];omega)
      rw [ih _ (by omega) (by omega) (by omega),qwq hp,List.countP_append,List.drop_zero,List.countP_map]
      have:((ordT l a b).drop (i+1)).countP ((fun x:T3×T3=>leads (ofP x.2) (ofP x.1) t u) ∘ fun q=>(p,q))=((ordT l a b).drop (i+1)).countP (fun q=>leads (ofP q) (ofP p) t u):=rfl
      rw [this,Nat.add_assoc]
    · have hkl : i = (ordT l a b).length := by omega
      have hnl:¬ i<((ordT l a b).map idU).length:=by omega
      simp only [q2uv,q2ve,q2uz,q2v3,q2vb,q2v7,q2v9,q2vj,Dt.eval,q34b hnl,cond_false]
      rw [hkl,List.drop_length]
      rfl
theorem q3e2 (d:Nat) (hd:5000≤d) {l:List T3} (h:FldOk l) (h0:qfx (ptsL l)=0) {a b t u:Int} {G:List M4} (hG:∀ m∈G,m∈allM l∧m.1=t∧m.2.1=u∧gtM a b m=true) (hlen:G.length≤4096) {s:Int}:∀ (f i:Nat),G.length - i<f→i≤G.length →
    iter (q2wt d) f ((ordT l a b).map idU,(ordT l t u).map idU,G,s,(i:Int),l)=some (bif s == (G.length:Int) then true else false)
  | 0,i,hf,_=>by omega
  | f + 1, i, hf, hi => by
    have ih:=q3e2 d hd h h0 hG hlen (s:=s) f (i+1)
    rw [iter]
    revert ih
    generalize iter (q2wt d) f=self
    intro ih
    by_cases hlt:i<G.length
    · obtain ⟨m, hm⟩ : ∃ m, G[i]? = some m := ⟨_, List.getElem?_eq_getElem hlt⟩
      obtain ⟨hmA,e1,e2,hg⟩:=hG m (List.mem_of_getElem? hm)
      have hw:=q340 h m hmA
      have hm0:=(qd2 hw.ok).1
      obtain ⟨i0,j0,p,q,hij,hi0,hj0,hmt⟩:=q35l h hmA
      have hp:=List.mem_of_getElem? hi0
      have hq:=List.mem_of_getElem? hj0
      obtain ⟨hne,_,bn,bd,id1,id2,heq⟩:=q35d (x:=(p,q)) (h.ok p hp) (h.ok q hq) hmt
      have id1':m.2.2.1=p.1:=id1
      have id2':m.2.2.2.1=q.1:=id2
      have f1:=q361 d h h0 hp
      have f2:=q361 d h h0 hq
      have bn':m.1.natAbs≤4194304:=bn
      have b1:=q3cv (n:=m.1) (dd:=m.2.1) (h.ok p hp) hm0 bd (by omega)
      have b2:=q3cv (n:=m.1) (dd:=m.2.1) (h.ok q hq) hm0 bd (by omega)
      have r1:(red (fpl p m.1 m.2.1) m.2.1).2.2=0:=q3cr (by omega) hm0 (by omega)
      have r2:(red (fpl q m.1 m.2.1) m.2.1).2.2=0:=q3cr (by omega) hm0 (by omega)
      have f3:=atC d (by omega) p hw.b1 hw.b2
      have f4:=atC d (by omega) q hw.b1 hw.b2
      rw [q3cw (h.ok p hp) hw.ok] at f3
      rw [q3cw (h.ok q hq) hw.ok] at f4
      have f5:=subC d (by omega) (q3dk (fpl p m.1 m.2.1) m.2.1).1 (q3dk (fpl p m.1 m.2.1) m.2.1).2 (q3dk (fpl q m.1 m.2.1) m.2.1).1 (q3dk (fpl q m.1 m.2.1) m.2.1).2
      rw [q3cu hm0 r1 r2] at f5
      have hz:fpl p m.1 m.2.1 - fpl q m.1 m.2.1=0:=by
        have heq':(p.2.1 - q.2.1)*m.2.1+(p.2.2.1 - q.2.2.1)*m.1=0:=heq
        rw [Int.sub_mul,Int.sub_mul] at heq'
        unfold fpl;omega
      rw [hz] at f5
      have r3:(red 0 m.2.1).2.2=0:=q3cr (by decide) hm0 (by omega)
      have r4:(red 0 m.2.1).1=0:=(q3dg hm0 r3).2.2 rfl
      obtain ⟨k1,k2,k3⟩:=q3dz d (by omega) h a b hp
      obtain ⟨k4,k5,k6⟩:=q3dz d (by omega) h a b hq
      obtain ⟨k7,k8,k9⟩:=q3dz d (by omega) h t u hp
      obtain ⟨k10,k11,k12⟩:=q3dz d (by omega) h t u hq
      have l1:decide ((k1:Int)<(k4:Int))=leads (ofP p) (ofP q) a b:=by
        rw [← q3dv h k2 k5];exact decide_eq_decide.2 (by omega)
      have l2:decide ((k7:Int)<(k10:Int))=leads (ofP p) (ofP q) t u:=by
        rw [← q3dv h k8 k11];exact decide_eq_decide.2 (by omega)
      have g1:=q35e (x:=(p,q)) (h.ok p hp) (h.ok q hq) hmt (n:=a) (dd:=b)
      have g2:=q35e (x:=(p,q)) (h.ok p hp) (h.ok q hq) hmt (n:=t) (dd:=u)
      have gs:gtM t u m=false:=by rw [← e1,← e2];exact q3cm
      rw [hg] at g1
      rw [gs] at g2
      have g1':leads (ofP p) (ofP q) a b=!decide (p.2.2.1 > q.2.2.1):=by
        refine g1.trans ?_
        show (if q.2.2.1<p.2.2.1 then !true else true)=_
        by_cases c:q.2.2.1<p.2.2.1
        · rw [if_pos c,decide_eq_true (show p.2.2.1 > q.2.2.1 from c)]
        · rw [if_neg c,decide_eq_false (show ¬ p.2.2.1 > q.2.2.1 from c)];rfl
      have g2':leads (ofP p) (ofP q) t u=decide (p.2.2.1 > q.2.2.1):=by
        refine g2.trans ?_
        show (if q.2.2.1<p.2.2.1 then !false else false)=_
        by_cases c:q.2.2.1<p.2.2.1
        · rw [if_pos c,decide_eq_true (show p.2.2.1 > q.2.2.1 from c)];rfl
        · rw [if_neg c,decide_eq_false (show ¬ p.2.2.1 > q.2.2.1 from c)]
      rw [g1'] at l1
      rw [g2'] at l2
      have wi:=q347 (show i<1000000 by omega)
      generalize red (fpl p m.1 m.2.1) m.2.1=X at *
      generalize red (fpl q m.1 m.2.1) m.2.1=Y at *
      generalize red 0 m.2.1=Z at *
      obtain ⟨X1,X2,X3⟩:=X
      obtain ⟨Y1,Y2,Y3⟩:=Y
      obtain ⟨Z1,Z2,Z3⟩:=Z
      have r1':X3=0:=r1
      have r2':Y3=0:=r2
      have r3':Z3=0:=r3
      have r4':Z1=0:=r4
      subst r1'
      subst r2'
      subst r3'
      subst r4'
      have c1:((!decide (p.2.2.1 > q.2.2.1)) == decide (p.2.2.1 > q.2.2.1))=false:=by cases decide (p.2.2.1 > q.2.2.1)<;>rfl
      have c2:(!(decide (p.2.2.1 > q.2.2.1) == decide (p.2.2.1 > q.2.2.1)))=false:=by cases decide (p.2.2.1 > q.2.2.1)<;>rfl
      have z0:((0:Int) != 0)=false:=rfl
      unfold q2wt
      simp only [q2vn,q2wp,q2vr,Dt.eval,q2ud,q34a hlt,cond_true,q349 hlt,q348 hm,id1',f1]
      simp only [q2vv,q2vz,q2w3,Dt.eval,q2ud,cond_true,q349 hlt,q348 hm,id2',f2,f3,f4]
      simp only [q2w7,q2wb,q2wf,Dt.eval,q2ud,cond_true,q349 hlt,q348 hm,id1',id2',f5,k3,k6,k9,k12,l1,l2]
      simp only [q2wj,q2wn,Dt.eval,z0,cond_false,c1,c2]
      simp only [q2wp,Dt.eval,wi]
      exact ih (by omega) (by omega)
    · have hkl : i = G.length := by omega
      have hll:(((ordT l t u).map idU).length:Int)=(((ordT l a b).map idU).length:Int):=by
        rw [List.length_map,List.length_map,q3du,q3du]
      unfold q2wt
      simp only [q2vn,q2wp,q2vr,q2wr,Dt.eval,q34b hlt,cond_false,hll,beq_self_eq_true]
      cases s == (G.length:Int)<;>rfl
theorem q3e3 (d:Nat) (hd:5000≤d) {l:List T3} (h:FldOk l) (h0:qfx (ptsL l)=0) {a b t u:Int} (hb:1≤b) (hu:1≤u) (hle:leQ a b t u) {G:List M4} (hG:∀ m∈G,m∈allM l∧m.1=t∧m.2.1=u∧gtM a b m=true) (hGl:G.length=((allM l).filter (inM a b t u)).length) :
    q2wv d ((l,()),((ordT l a b).map idU,()),((ordT l t u).map idU,()),(G,()),())=some true:=by
  have hlen:G.length≤4096:=by rw [hGl];exact Nat.le_trans (List.length_filter_le _ _) (q33c h)
  have hol:=q3du l a b
  have hl64:=h.len
  have e1:=q3e1 d hd h (a:=a) (b:=b) (t:=t) (u:=u) (G:=G) d 0 0 (by omega) (Nat.zero_le _) (Nat.zero_le _)
  have e2:=q3e2 d hd h h0 hG hlen (s:=((0+(qwo ((ordT l a b).drop 0)).countP fun x=>leads (ofP x.2) (ofP x.1) t u:Nat):Int)) d 0 (by omega) (Nat.zero_le _)
  rw [List.drop_zero,Nat.zero_add,q3dw h hb hu hle,← hGl] at e1 e2
  rw [beq_self_eq_true,cond_true] at e2
  simp only [q2wv,q2ud,q2uj,q2un,q2ur,Dt.eval]
  exact e1.trans e2
end Go.Proofs.YtpfhgnccpiildaaGreat

namespace Go.Proofs.YtpfhgnccpiildaaGreat
open Go Go.Tx Go.Pel
theorem q3e4 (d:Nat) (hd:5000≤d) {l:List T3} (h:FldOk l) (h0:qfx (ptsL l)=0) {t u N D:Int} {M:List M4} {k:Nat} (hM:∀ m∈M,okW m) (hlen:M.length≤4096) (hq:okQ t u) (hqN:okQ N D) (hle:leQ t u N D)
    (hnx:∀ x y,(M[k]?=some (x,y)→leQ t u x y.1∧∀ m∈allM l,gtM t u m=true→¬ m.1*y.1<x*m.2.1)) (hnn:M[k]?=none→∀ m∈allM l,gtM t u m=true→gtM N D m=true) :
    q2ya d ((l,()),((ordT l t u).map idU,()),(t,u,()),(M,()),((k:Int),()),(N,D,()),())=some true:=by
  have u0:=(qd2 hq.ok).1
  have hl64:=h.len
  have hol:=q3du l t u
  -- the middle of two times
  have key:∀ x y,okQ x y→leQ t u x y→(∀ m∈allM l,gtM t u m=true→¬ m.1*y<x*m.2.1)→q2y9 d ((ordT l t u).map idU,l,t,u,x,y)=some true:=fun x y hxy hle2 hno=>by
    have y0:=(qd2 hxy.ok).1
    have e1:=q3a6 d (by omega) hq.b1 hq.b2 hxy.b1 hxy.b2 hq.ok hxy.ok
    have e2:=q3dn d (by omega) (q3dk (t*y+x*u) (u*y)).1 (q3dk (t*y+x*u) (u*y)).2 (n2:=1) (d2:=2) rfl rfl
    have pD:1≤u*y:=by have:=Int.mul_pos (show 0<u by omega) (show 0<y by omega);omega
    by_cases hs:(red (t*y+x*u) (u*y)).2.2=0
    · obtain ⟨w1, w2, w3, w4⟩ := q38b pD hs
      have w5:=(qd2 w1).1
      rw [if_pos ⟨w1,rfl⟩] at e2
      have hmid:red ((red (t*y+x*u) (u*y)).1*1) ((red (t*y+x*u) (u*y)).2.1*2)=red (t*y+x*u) (u*y*2):=by
        refine q3b7 (by omega) (by omega) ?_
        rw [Int.mul_one,← Int.mul_assoc,← w2,Int.mul_assoc]
      rw [hmid] at e2
      by_cases hm:(red (t*y+x*u) (u*y*2)).2.2=0
      · obtain ⟨v1, v2, v3, v4⟩ := q38b (by omega) hm
        have v5:=(qd2 v1).1
        obtain ⟨t1,t2⟩:=q3dk (t*y+x*u) (u*y*2)
        generalize red (t*y+x*u) (u*y*2)=Mi at *
        obtain ⟨m,md,me⟩:=Mi
        have hm':me=0:=hm
        subst hm'
        generalize red (t*y+x*u) (u*y)=S at *
        obtain ⟨x1,x2,xe⟩:=S
        have hs':xe=0:=hs
        subst hs'
        have v1:qcv m md=0:=v1
        have v2:(t*y+x*u)*md=m*(u*y*2):=v2
        have v5:1≤md:=v5
        have t1:i64B m=true:=t1
        have t2:i64B md=true:=t2
        obtain ⟨bt1,bt2⟩:=q3di u0 y0 v5 v2.symm hle2
        have e3:=q32p d m md x y t1 t2 hxy.b1 hxy.b2
        unfold cmpR at e3
        rw [if_pos ⟨v1,hxy.ok⟩] at e3
        have e4:=q360 d hl64 h0 t1 t2 v1
        rw [q3ds] at e4
        have z0:((0:Int) != 0)=false:=rfl
        by_cases hc:cmpQ m md x y=0
        · unfold q2y9
          simp only [q2xl,q2xp,q2xt,q2xx,q2y1,q2y5,q2y7,Dt.eval,q2x3,e1,e2,z0,cond_false,e3,e4,beq_self_eq_true,cond_true,hc]
        · have hlt:m*y<x*md:=by
            unfold cmpQ at hc
            rcases ltZ (m*y) (x*md) with ⟨c,g⟩ | ⟨c,g⟩ | ⟨c,g⟩
            · exact g
            · exact absurd c hc
            · omega
          have hsame:ordI t u (ptsL l)=ordI m md (ptsL l):=by
            refine q3dp h u0 v5 bt1 fun z hz hg=>?_
            have hz0:=(qd2 (q340 h z hz).ok).1
            have k1:=hno z hz hg
            refine (q33q m md z).2 ?_
            exact q_lt v5 y0 hz0 hlt (by omega)
          have e5:qvb d (((ordT l m md).map idU,()),((ordT l t u).map idU,()),())=some true:=by
            have:ordT l m md=ordT l t u:=by unfold ordT;rw [hsame]
            rw [this]
            have hidl:(idsI ((ordT l t u).map idU)).length≤64:=by rw [qik,List.length_map];omega
            rw [qvc _ _ (by unfold qva;simp only [Bool.and_eq_true,decide_eq_true_eq];show (idsI _).length≤_∧(idsI _).length≤_;omega)]
            exact congrArg some (decide_eq_true rfl)
          have hc':(cmpQ m md x y == 0)=false:=by simpa using hc
          unfold q2y9
          simp only [q2xl,q2xp,q2xt,q2xx,q2y1,q2y5,q2y7,Dt.eval,q2x3,e1,e2,z0,cond_false,e3,e4,beq_self_eq_true,cond_true,hc',e5]
      · generalize red (t * y + x * u) (u * y * 2) = Mi at *
        obtain ⟨m,md,me⟩:=Mi
        have hm':(me != 0)=true:=by simpa using hm
        generalize red (t*y+x*u) (u*y)=S at *
        obtain ⟨x1,x2,xe⟩:=S
        have hs':xe=0:=hs
        subst hs'
        unfold q2y9
        simp only [q2xl,q2xp,q2xt,q2xx,q2y1,q2y5,q2y7,Dt.eval,q2x3,e1,e2,show ((0:Int) != 0)=false from rfl,cond_false,hm',cond_true]
    · generalize red (t * y + x * u) (u * y) = S at *
      obtain ⟨x1,x2,xe⟩:=S
      have hs':(xe != 0)=true:=by simpa using hs
      unfold q2y9
      simp only [q2xl,q2xp,q2xt,q2xx,q2y1,q2y5,q2y7,Dt.eval,q2x3,e1,e2,hs',cond_true]
  by_cases hlt:k<M.length
  · obtain ⟨m, hm⟩ : ∃ m, M[k]? = some m := ⟨_, List.getElem?_eq_getElem hlt⟩
    have hw:=hM m (List.mem_of_getElem? hm)
    obtain ⟨a1,a2⟩:=hnx m.1 m.2 hm
    simp only [q2ya,q2x3,q2x9,q2xd,q2xh,Dt.eval,q34a hlt,cond_true,q349 hlt,q348 hm]
    exact key m.1 m.2.1 ⟨hw.b1,hw.b2,hw.ok⟩ a1 a2
  · have hno := hnn (List.getElem?_eq_none (by omega))
    simp only [q2ya,q2x3,q2x9,q2xd,q2xh,Dt.eval,q34b hlt,cond_false]
    refine key N D hqN hle fun m hm hg c=>?_
    have:=(q33q N D m).1 (hno m hm hg)
    omega
theorem q3e5 (d:Nat) {l:List T3} (hl:l ≠ []) (h0:qfx (ptsL l)=0) {a:List T3} (hlen:a.length≤1000) (ha:∀ x∈a,i64B x.1=true∧i64B x.2.1=true∧qcv x.1 x.2.1=0∧(ldT l x.1 x.2.1).1=x.2.2.1):∀ (f i:Nat),a.length - i<f→iter (q2zy d) f ((i:Int),l,a)=some true
  | 0,i,hf=>by omega
  | f + 1, i, hf => by
    have ih:=q3e5 d hl h0 hlen ha f (i+1)
    rw [iter]
    revert ih
    generalize iter (q2zy d) f=self
    intro ih
    unfold q2zy
    by_cases hlt:i<a.length
    · obtain ⟨x, hx⟩ : ∃ x, a[i]? = some x := ⟨_, List.getElem?_eq_getElem hlt⟩
      obtain ⟨k1,k2,k3,k4⟩:=ha x (List.mem_of_getElem? hx)
      have e:=q37r d hl h0 k1 k2 k3
      have wi:=q347 (show i<1000000 by omega)
      simp only [q2zi,q2zu,q2zm,q2zq,q2zs,q2zw,Dt.eval,q2yi,q34a hlt,cond_true,q349 hlt,q348 hx,e,show ((0:Int) != 0)=false from rfl,cond_false,k4,bne_self_eq_false,wi]
      exact ih (by omega)
    · simp only [q2zi,q2zu,q2zm,q2zq,q2zs,q2zw,Dt.eval,q34b hlt,cond_false]
theorem q3e6 (d:Nat) (hd:5000≤d) {l:List T3} (h:FldOk l) (h0:qfx (ptsL l)=0) {n dd t u:Int} (hq:okQ n dd) (hq2:okQ t u) (hle:leQ n dd t u):q2zz d ((l,()),(n,dd,()),(t,u,()),((ordT l t u).map idU,()),())=some true:=by
  have z0:((0:Int) != 0)=false:=rfl
  by_cases hl:l=[]
  · subst hl
    have e:=q375 d hq.b1 hq.b2 hq.ok
    simp only [q2zz,q2yi,q2yo,q2ys,q2yw,q2z0,Dt.eval,e]
    rfl
  · have hl1 : ((l.length : Int) == 0) = false := by rw [beq_eq_false_iff_ne]; have := List.length_pos_iff.2 hl; omega
    have hc1:chk1 l n dd=0:=by unfold chk1;rw [if_neg (by simpa using h0)];exact hq.ok
    have hL:=q363 hl n dd
    have o2:=(qd2 hq2.ok).1
    obtain ⟨a,ha,e1⟩:=q376 d hd hl hq.b1 hq.b2 hc1
    have hb:=q379 h ha hq.b1 hq.b2 hL.1
    have hal:=q37o h ha hq.ok hL
    have hl64:=h.len
    have hck:=q36v h ha hq.ok hL
    have e2:=q37l d hd (a:=a) (n:=t) (dd:=u) hb (by omega) hq2.b1 hq2.b2
    have e3:=q37f d hd hb (by omega)
    rw [hck] at e3
    obtain ⟨q,x,r,k1,k2,k3,k4,_⟩:=q36x h ha hq.ok hL o2 hle
    have hx:a[idxL t u a - 1]?=some x:=by
      have:(a.drop (idxL t u a - 1))[0]?=some x:=by rw [k2];rfl
      rw [List.getElem?_drop,Nat.add_zero] at this
      exact this
    have hqe:q=ldT l t u:=k4.uniq h (q363 hl t u)
    have hv:atV a t u=((ldT l t u).1,0):=by
      unfold atV
      rw [if_neg (by rintro (k | k);exact k hck;exact k hq2.ok),if_neg (by omega),hx,Option.getD_some,k3,hqe]
    rw [hv] at e2
    obtain ⟨ps,p1,_,p2,_⟩:=q36y h ha hq.ok hL
    have hall:∀ y∈a,i64B y.1=true∧i64B y.2.1=true∧qcv y.1 y.2.1=0∧(ldT l y.1 y.2.1).1=y.2.2.1:=fun y hy=>by
      obtain ⟨i,hi⟩:=List.mem_iff_getElem?.1 hy
      obtain ⟨hil,_⟩:=List.getElem?_eq_some_iff.1 hi
      obtain ⟨q',hq'⟩:∃ q',ps[i]?=some q':=⟨_,List.getElem?_eq_getElem (by omega)⟩
      obtain ⟨w1,w2,_,w4⟩:=p2 i y q' hi hq'
      have:=hb y hy
      refine ⟨this.1,this.2,w2,?_⟩
      rw [w1,← w4.uniq h (q363 hl y.1 y.2.1)]
    have e4:=q3e5 d hl h0 (by omega) hall d 0 (by omega)
    have hol:=q3du l t u
    have hpos:=List.length_pos_iff.2 hl
    have hml:((ordT l t u).map idU).length=l.length:=by rw [List.length_map,hol]
    have c1:((((ordT l t u).map idU).length:Int) == 0)=false:=by rw [hml];exact hl1
    have c2:inB (0:Int) ((ordT l t u).map idU).length=true:=q349 (k:=0) (by omega)
    have c3:elt zi ((ordT l t u).map idU) (0:Int).toNat=((ldT l t u).1,()):=by
      refine q348 (k:=0) ?_
      have:=q3bi hl t u
      unfold ordT
      rw [List.getElem?_map,List.getElem?_map,this]
      rfl
    simp only [q2zz,q2yi,q2yo,q2ys,q2yw,q2z0,q2z4,q2z8,q2za,q2ze,Dt.eval,e1,hl1,cond_false,e2,z0,c1,c2,cond_true,c3,bne_self_eq_false,e3]
    exact e4
end Go.Proofs.YtpfhgnccpiildaaGreat

namespace Go.Proofs.YtpfhgnccpiildaaGreat
open Go Go.Tx Go.Pel
abbrev tmS1:Type:=List qj9×Int×List Diii×Int×Int×Int×Int×List Di×List Di
theorem q3e7 (d:Nat) {M:List M4} {l:List T3} {i K:Nat} {x:M4} (hx:M[i]?=some x) (hlen:M.length≤4096) (hiK:i<K) (hKl:K≤M.length) (hs:∀ j m,i≤j→j<K→M[j]?=some m→m.1=x.1∧m.2.1=x.2.1) (hn:∀ m,M[K]?=some m→¬ (m.1=x.1∧m.2.1=x.2.1)) {n dd N D:Int} {order fin next:List Di}
    (e1:qwb d ((l,()),(x.1,x.2.1,()),())=some (next,0)) (e2:q2wv d ((l,()),(order,()),(next,()),(List.drop i (List.take K M),()),())=some true) (e3:q2ya d ((l,()),(next,()),(x.1,x.2.1,()),(M,()),((K:Int),()),(N,D,()),())=some true) (self1:tmS1→Option q303):∀ (f k:Nat),K - k<f→i≤k→k≤K →
    iter (q32b d self1) f (M,(i:Int),(k:Int),l,n,dd,N,D,order,fin)=self1 (M,(K:Int),l,n,dd,N,D,next,fin)
  | 0,k,hf,_,_=>by omega
  | f + 1, k, hf, hik, hk => by
    have ih:=q3e7 d hx hlen hiK hKl hs hn (n:=n) (dd:=dd) (fin:=fin) e1 e2 e3 self1 f (k+1)
    rw [iter]
    revert ih
    generalize iter (q32b d self1) f=self
    intro ih
    have hil:=(List.getElem?_eq_some_iff.1 hx).1
    unfold q32b
    rcases Nat.lt_or_eq_of_le hk with hlt | hkK
    · have hkl : k < M.length := by omega
      obtain ⟨m,hm⟩:∃ m,M[k]?=some m:=⟨_,List.getElem?_eq_getElem hkl⟩
      obtain ⟨q1,q2⟩:=hs k m hik hlt hm
      have wk:=q347 (show k<1000000 by omega)
      simp only [q31v,q31x,q321,q325,q327,q329,Dt.eval,q34a hkl,cond_true,q349 hkl,q349 hil,q348 hm,q348 hx,q1,q2,beq_self_eq_true,Bool.and_self,wk]
      exact ih (by omega) (by omega) (by omega)
    · subst hkK
      have hx':elt qja M i=x:=by have:=q348 (z:=qja) hx;rwa [Int.toNat_natCast] at this
      have c1:(decide ((0:Int)≤(i:Int))&&decide ((i:Int)≤(k:Int))&&decide ((k:Int)≤(M.length:Int)))=true:=by
        simp only [Bool.and_eq_true,decide_eq_true_eq];omega
      have z0:((0:Int) != 0)=false:=rfl
      by_cases hlt:k<M.length
      · obtain ⟨m, hm⟩ : ∃ m, M[k]? = some m := ⟨_, List.getElem?_eq_getElem hlt⟩
        have hne:=hn m hm
        have hb:((m.1 == x.1)&&((m.2.1 == x.2.1)&&true))=false:=by
          cases h1:m.1 == x.1 with
          | false=>rfl
          | true =>
            cases h2:m.2.1 == x.2.1 with
            | false=>rfl
            | true=>exact absurd ⟨by simpa using h1,by simpa using h2⟩ hne
        have hm':elt qja M k=m:=by have:=q348 (z:=qja) hm;rwa [Int.toNat_natCast] at this
        simp only [q31v,q31x,q321,q325,q327,q329,Dt.eval,q307,q34a hlt,cond_true,q349 hlt,q349 hil,hm',hx',hb,cond_false,e1,z0,c1,Int.toNat_natCast,e2,e3,Bool.not_true]
      · simp only [q31v,q31x,q321,q325,q327,q329,Dt.eval,q307,q34b hlt,cond_true,q349 hil,hx',cond_false,e1,z0,c1,Int.toNat_natCast,e2,e3,Bool.not_true]
theorem q3e8 (d:Nat) (hd:5000≤d) {l:List T3} (h:FldOk l) (h0:qfx (ptsL l)=0) {n dd N D:Int} (hq0:okQ n dd) (hqN:okQ N D) (hle0:leQ n dd N D) {M:List M4} (hM:∀ m∈M,m∈allM l) (hlen:M.length≤4096):∀ (f i:Nat) (a b:Int),M.length - i<f→i≤M.length→okQ a b→leQ a b N D→M.drop i=(allM l).filter (inM a b N D) →
    iter (q32e d) f (M,(i:Int),l,n,dd,N,D,(ordT l a b).map idU,(ordT l N D).map idU)=some true
  | 0,i,a,b,hf,_,_,_,_=>by omega
  | f + 1, i, a, b, hf, hi, hq, hle, hX => by
    have ih:=q3e8 d hd h h0 hq0 hqN hle0 hM hlen f
    rw [iter]
    revert ih
    generalize iter (q32e d) f=self
    intro ih
    have b0:=(qd2 hq.ok).1
    have D0:=(qd2 hqN.ok).1
    have hok:=fun m (hm:m∈allM l)=>(q340 h m hm).ok
    by_cases hlt:i<M.length
    · obtain ⟨x, hx⟩ : ∃ x, M[i]? = some x := ⟨_, List.getElem?_eq_getElem hlt⟩
      have hxA:=hM x (List.mem_of_getElem? hx)
      have hxw:=q340 h x hxA
      have x0:=(qd2 hxw.ok).1
      have hdr:=q34c hx
      have hxX:x∈(allM l).filter (inM a b N D):=by rw [← hX,hdr];exact List.mem_cons_self ..
      have hxin:=(List.mem_filter.1 hxX).2
      unfold inM at hxin
      rw [Bool.and_eq_true,Bool.not_eq_true'] at hxin
      have hax:=q36c hxin.1
      have hxN:=q3cp hxin.2
      have hXpw:((allM l).filter (inM a b N D)).Pairwise fun p q=>ltM q p=false:=(q33d h).filter _
      have hXok:∀ m∈(allM l).filter (inM a b N D),okM m:=fun m hm=>hok m (List.mem_filter.1 hm).1
      have hup:=q34k (q34m (n:=x.1) x0 hXok hXpw)
      have hdn:=q34l (q34m (n:=x.1) x0 hXok hXpw)
      have hmin:∀ m∈(allM l).filter (inM a b N D),leQ x.1 x.2.1 m.1 m.2.1:=fun m hm=>by
        rw [← hX,hdr] at hm hXpw
        rcases List.mem_cons.1 hm with e | e
        · rw [e];exact q3bt _ _
        · exact q3cn ((List.pairwise_cons.1 hXpw).1 m e)
      -- the group
      obtain ⟨c,hc⟩:∃ c,((allM l).filter (inM a b N D)).findIdx (gtM x.1 x.2.1)=c:=⟨_,rfl⟩
      rw [hc] at hup hdn
      have hcl:c≤(M.drop i).length:=by rw [hX,← hc];exact List.findIdx_le_length
      rw [List.length_drop] at hcl
      have hc1:0<c:=by
        refine Classical.byContradiction fun k=>?_
        have:c=0:=by omega
        rw [this,List.take_zero] at hdn
        have hm:x∈((allM l).filter (inM a b N D)).filter fun y=>!gtM x.1 x.2.1 y:=List.mem_filter.2 ⟨hxX,by rw [q3cm];rfl⟩
        rw [hdn] at hm;cases hm
      have hgrp:List.drop i (List.take (i+c) M)=(allM l).filter (inM a b x.1 x.2.1):=by
        rw [List.drop_take,show i+c - i=c by omega,hX,← hdn,List.filter_filter]
        refine List.filter_congr fun m hm=>?_
        unfold inM
        cases g1:gtM x.1 x.2.1 m with
        | true=>simp
        | false =>
          have g2:gtM N D m=false:=by
            cases g3:gtM N D m with
            | false=>rfl
            | true=>rw [q34o x0 D0 hxN (hok m hm) g3] at g1;cases g1
          rw [g2];simp
      have hnext:M.drop (i+c)=(allM l).filter (inM x.1 x.2.1 N D):=by
        rw [← List.drop_drop,hX,← hup,List.filter_filter]
        refine List.filter_congr fun m hm=>?_
        unfold inM
        cases g1:gtM x.1 x.2.1 m with
        | false=>simp
        | true=>rw [q34o b0 x0 hax (hok m hm) g1];simp
      have hsame:∀ m∈(allM l).filter (inM a b x.1 x.2.1),m∈allM l∧m.1=x.1∧m.2.1=x.2.1∧gtM a b m=true:=fun m hm=>by
        obtain ⟨m1,m2⟩:=List.mem_filter.1 hm
        have m2':=m2
        unfold inM at m2'
        rw [Bool.and_eq_true,Bool.not_eq_true'] at m2'
        have k1:=q3cp m2'.2
        have hmX:m∈(allM l).filter (inM a b N D):=by
          refine List.mem_filter.2 ⟨m1,?_⟩
          unfold inM
          rw [m2'.1,Bool.true_and,Bool.not_eq_true']
          cases g3:gtM N D m with
          | false=>rfl
          | true=>rw [q34o x0 D0 hxN (hok m m1) g3] at m2';cases m2'.2
        have k2:=hmin m hmX
        unfold leQ at k1 k2
        obtain ⟨e1,e2⟩:=q_eq (hok m m1) hxw.ok (show m.1*x.2.1=x.1*m.2.1 by omega)
        exact ⟨m1,e1,e2,m2'.1⟩
      have hlA:=q33c h
      have hqx:okQ x.1 x.2.1:=⟨hxw.b1,hxw.b2,hxw.ok⟩
      have e1:=q360 d h.len h0 hxw.b1 hxw.b2 hxw.ok
      rw [q3ds] at e1
      have e2:=q3e3 d hd h h0 b0 x0 hax (G:=(allM l).filter (inM a b x.1 x.2.1)) hsame rfl
      rw [← hgrp] at e2
      have hfil:∀ m∈allM l,gtM x.1 x.2.1 m=true→gtM N D m=false→m∈M.drop (i+c):=fun m hm g1 g2=>by
        rw [hnext]
        refine List.mem_filter.2 ⟨hm,?_⟩
        unfold inM;rw [g1,g2];rfl
      have e3:=q3e4 d hd h h0 (M:=M) (k:=i+c) (fun m hm=>q340 h m (hM m hm)) hlen hqx hqN hxN (fun y z hy=>by
        have hyd:M.drop (i+c)=(y,z) :: M.drop (i+c+1):=q34c hy
        have hyX:(y,z)∈(allM l).filter (inM x.1 x.2.1 N D):=by rw [← hnext,hyd];exact List.mem_cons_self ..
        obtain ⟨y1,y2⟩:=List.mem_filter.1 hyX
        unfold inM at y2
        rw [Bool.and_eq_true,Bool.not_eq_true'] at y2
        refine ⟨q36c y2.1,fun m hm g1=>?_⟩
        cases g2:gtM N D m with
        | true =>
          intro hc
          have k1:leQ y z.1 N D:=q3cp y2.2
          have k2:=(q33q N D m).1 g2
          have hy0:1≤z.1:=(qd2 (hok (y,z) y1)).1
          have hm0:=(qd2 (hok m hm)).1
          have:=q_lt hm0 hy0 D0 hc k1
          omega
        | false =>
          have hmd:=hfil m hm g1 g2
          have hpw:(M.drop (i+c)).Pairwise fun p q=>ltM q p=false:=by rw [hnext];exact (q33d h).filter _
          rw [hyd] at hmd hpw
          rcases List.mem_cons.1 hmd with e | e
          · rw [e];exact Int.lt_irrefl _
          · have k : leQ y z.1 m.1 m.2.1 := q3cn ((List.pairwise_cons.1 hpw).1 m e)
            unfold leQ at k;omega) (fun hno m hm g1=>by
        cases g2:gtM N D m with
        | true=>rfl
        | false =>
          have hmd:=hfil m hm g1 g2
          have:M.drop (i+c)=[]:=List.drop_eq_nil_of_le (by rw [List.getElem?_eq_none_iff] at hno;exact hno)
          rw [this] at hmd;cases hmd)
      have hrun:=q3e7 d hx hlen (K:=i+c) (by omega) (by omega) (fun j m hj1 hj2 hm=>by
        have hmG:m∈List.drop i (List.take (i+c) M):=by
          refine List.mem_of_getElem? (i:=j - i) ?_
          rw [List.getElem?_drop,show i+(j - i)=j by omega,List.getElem?_take,if_pos hj2,hm]
        rw [hgrp] at hmG
        have:=hsame m hmG
        exact ⟨this.2.1,this.2.2.1⟩) (fun m hm ⟨q1,q2⟩=>by
        have hyd:=q34c hm
        have hmX:m∈(allM l).filter (inM x.1 x.2.1 N D):=by rw [← hnext,hyd];exact List.mem_cons_self ..
        have g:=(List.mem_filter.1 hmX).2
        unfold inM at g
        rw [← q1,← q2,q3cm] at g
        cases g) (n:=n) (dd:=dd) (N:=N) (D:=D) (fin:=(ordT l N D).map idU) e1 e2 e3 self d i (by omega) (Nat.le_refl _) (by omega)
      have hchk:=q34d d hxw.b1 hxw.b2
      rw [hxw.ok] at hchk
      unfold q32e
      simp only [q31h,q31l,q31n,q31r,Dt.eval,q307,q34a hlt,cond_true,q349 hlt,q348 hx,hchk,show ((0:Int) != 0)=false from rfl,cond_false]
      refine hrun.trans ?_
      exact ih (i+c) x.1 x.2.1 (by omega) (by omega) hqx hxN hnext
    · have hkl : i = M.length := by omega
      rw [hkl,List.drop_length] at hX
      have hno:NoM l a b N D:=fun m hm hg=>by
        cases g2:gtM N D m with
        | true=>rfl
        | false =>
          have:m∈(allM l).filter (inM a b N D):=List.mem_filter.2 ⟨hm,by unfold inM;rw [hg,g2];rfl⟩
          rw [← hX] at this;cases this
      have hsame:ordT l a b=ordT l N D:=by unfold ordT;rw [q3dp h b0 D0 hle hno]
      have hol:=q3du l N D
      have hl64:=h.len
      have e1:qvb d (((ordT l N D).map idU,()),((ordT l N D).map idU,()),())=some true:=by
        have hidl:(idsI ((ordT l N D).map idU)).length≤64:=by rw [qik,List.length_map];omega
        rw [qvc _ _ (by unfold qva;simp only [Bool.and_eq_true,decide_eq_true_eq];show (idsI _).length≤_∧(idsI _).length≤_;omega)]
        exact congrArg some (decide_eq_true rfl)
      have e2:=q3e6 d hd h h0 hq0 hqN hle0
      rw [hsame]
      unfold q32e
      simp only [q31h,q31l,q31n,q31r,q32c,Dt.eval,q307,q34b hlt,cond_false,e1,cond_true,e2]
theorem q3e9 (d:Nat) (hd:5000≤d) (ea:q2t6 d ()=some true) (l:List T3) (n dd N D:Int) (hn:i64B n=true) (hdd:i64B dd=true) (hN:i64B N=true) (hD:i64B D=true):q32f d ((l,()),(n,dd,()),(N,D,()),())=some true:=by
  have e0:=q37s d l
  have e1:=q34f d l hn hdd hN hD
  cases hg:great l.length with
  | true =>
    rw [hg] at e0
    simp only [q32f,q307,q30d,q30h,q30l,Dt.eval,e0,cond_true]
  | false =>
    rw [hg] at e0
    by_cases h16:(l.length:Int) > 16
    · simp only [q32f,q307,q30d,q30h,q30l,Dt.eval,e0,cond_false,decide_eq_true h16,cond_true]
    · by_cases hc : chk2 l n dd N D = 0
      · rw [hc] at e1
        obtain ⟨h,h1,h2,h3⟩:=q34t hc
        have h0:=q357 hc
        have p1:=(qd2 h1).1
        have p2:=(qd2 h2).1
        have e2:=q34u d hd l hn hdd hN hD
        unfold allV at e2
        rw [if_neg (by simpa using hc)] at e2
        have e3:=q360 d h.len h0 hn hdd h1
        have e4:=q360 d h.len h0 hN hD h2
        rw [q3ds] at e3 e4
        have hol:=q3du l n dd
        have hll:((((ordT l n dd).map idU).length:Int) != (l.length:Int))=false:=by rw [List.length_map,hol];exact bne_self_eq_false _
        have hX:=q34r p1 p2 h3 (fun x hx=>(q340 h x hx).ok) (q33d h)
        have hlA:=q33c h
        have hlen:(cutM (allM l) n dd N D).length≤4096:=by have:=q34s (allM l) n dd N D;omega
        have e5:=q3e8 d hd h h0 ⟨hn,hdd,h1⟩ ⟨hN,hD,h2⟩ h3 (M:=cutM (allM l) n dd N D) (fun m hm=>by rw [← hX] at hm;exact (List.mem_filter.1 hm).1) hlen d 0 n dd (by omega) (Nat.zero_le _) ⟨hn,hdd,h1⟩ h3 (by rw [List.drop_zero,hX])
        have z0:((0:Int) != 0)=false:=rfl
        simp only [q32f,q307,q30d,q30h,q30l,q30p,q30r,q30v,q30z,q313,q317,q319,q31d,Dt.eval,e0,cond_false,decide_eq_false h16,e1,z0,ea,Bool.not_true,e2,e3,e4,hll]
        exact e5
      · have hb : (chk2 l n dd N D != 0) = true := by simpa using hc
        simp only [q32f,q307,q30d,q30h,q30l,Dt.eval,e0,cond_false,decide_eq_false h16,e1,hb,cond_true]
theorem q3ea:q2t6 5001 ()=some true:=by kernel_rfl
end Go.Proofs.YtpfhgnccpiildaaGreat

namespace Go
open Go.ChangeShapes Go.WideShapes Go.ChangeAt Go.RowKit
section
variable {H:Type} {enc:TypeId×Value→H} {P:Program} {w:World} {base:Nat} {spare:Nat→Bool} {held:Bool}
theorem q3eb {t:TypeId} {fs:Array Field} {fuel:Nat} {cs:List Value} {x:DataW H×List MemPlace} (hs:P.underlying t=some (.struct fs)) (h:DataW.trod enc P w base spare held fuel t cs=some x)
    {i:Nat} {f:Field} (hf:fs[i]?=some f) {off n:Nat} {ft:TypeId} (ho:f.offset=off) (ht:f.type=ft) (hn:P.cellsOf ft=n):∃ m y,DataW.trod enc P w base spare held m ft ((cs.drop off).take n)=some y:=by
  obtain ⟨xs,m,_,_,_,hlen,hg⟩:=DataW.trod_struct hs h
  have h1:=hg i f hf
  subst ho ht hn
  have hi:i<xs.length:=by rw [hlen];exact (Array.getElem?_eq_some_iff.1 hf).1
  exact ⟨m,xs[i],by rw [h1,List.getElem?_eq_getElem hi]⟩
theorem q3ec {t:TypeId} {k:IntKind} {fuel:Nat} {cs:List Value} {x:DataW H×List MemPlace} (ht:P.underlying t=some (.int k)) (h:DataW.trod enc P w base spare held fuel t cs=some x):∃ n,cs=[.int k n]∧(Lit.int k n).wf=true:=by
  obtain ⟨n,h1,_,h2⟩:=DataW.trod_int ht h;exact ⟨n,h1,h2⟩
theorem q3ed {n:Int} (h:(Lit.int .i64 n).wf=true):-9223372036854775808≤n∧n≤9223372036854775807:=bounds_i64 h
end
end Go
namespace Go.Proofs.YtpfhgnccpiildaaGreat
open Go.ChangeShapes Go.WideShapes Go.ChangeAt Go.RowKit
theorem q3eh:ownKnob Tryz.prog.godebug=none:=by kernel_rfl
theorem q3ei:laidOutB Tryz.prog=true:=by kernel_rfl
end Go.Proofs.YtpfhgnccpiildaaGreat

namespace Go
open Go.ChangeShapes Go.WideShapes Go.ChangeAt Go.RowKit Go.Deep
theorem q3ej {α:Type} {p:Nat→α→Prop}:∀ n:Nat,(∀ i,i<n→∃ v,p i v)→∃ l:List α,l.length=n∧∀ (i:Nat) (x:α),l[i]?=some x→p i x
  | 0,_=>⟨[],rfl,fun i x h=>by simp at h⟩
  | n + 1, h => by
    obtain ⟨l,hl,hp⟩:=q3ej n fun i hi=>h i (by omega)
    obtain ⟨v,hv⟩:=h n (by omega)
    refine ⟨l ++ [v],by simp [hl],fun i x hx=>?_⟩
    rcases Nat.lt_or_ge i n with hi | hi
    · rw [List.getElem?_append_left (by omega)] at hx;exact hp i x hx
    · rw [List.getElem?_append_right (by omega)] at hx
      have:i=n:=by
        have:=(List.getElem?_eq_some_iff.1 hx).1
        simp at this;omega
      subst this
      simp [hl] at hx
      subst hx;exact hv
theorem qd {α:Type} {cells:α→List Value} {k:Nat} (hk:∀ a,(cells a).length=k) (h0:0<k):∀ (l:List α) (j:Nat) (u:Value),(l.flatMap cells)[j]?=some u→∃ x,l[j / k]?=some x∧(cells x)[j % k]?=some u
  | [],j,u,h=>by simp at h
  | x :: l, j, u, h => by
    rw [List.flatMap_cons] at h
    rcases Nat.lt_or_ge j k with hj | hj
    · rw [List.getElem?_append_left (by rw [hk]; exact hj)] at h
      rw [Nat.div_eq_of_lt hj,Nat.mod_eq_of_lt hj]
      exact ⟨x,rfl,h⟩
    · rw [List.getElem?_append_right (by rw [hk]; exact hj), hk] at h
      obtain ⟨y,hy,hu⟩:=qd hk h0 l (j - k) u h
      obtain ⟨m,rfl⟩:∃ m,j=m+k:=⟨j - k,by omega⟩
      rw [Nat.add_sub_cancel] at hy hu
      rw [Nat.add_div_right _ h0,Nat.add_mod_right]
      exact ⟨y,by simpa using hy,hu⟩
theorem q9 {α:Type} {cells:α→List Value} {k:Nat} (hk:∀ a,(cells a).length=k) (l:List α):(l.flatMap cells).length=l.length*k:=by
  induction l with
  | nil=>simp
  | cons x l ih=>rw [List.flatMap_cons,List.length_append,ih,hk,List.length_cons,Nat.add_mul];omega
section
variable {H:Type} {enc:TypeId×Value→H} {P:Program} {w:World} {base:Nat} {held:Bool}
theorem q3ek {t e:TypeId} {fuel:Nat} {A:Option Addr} {n c:Nat} {x:DataW H×List MemPlace} (ht:P.underlying t=some (.slice e))
    (h:DataW.trod enc P w base (fun _=>true) held fuel t [Value.slice A n c]=some x):A=none→c=0:=by
  rcases open_slice ht h with ⟨hcs,_⟩ | ⟨a,len,cap,m,q,D,Pl,hcs,_⟩
  · simp only [List.cons.injEq, and_true] at hcs
    injection hcs with h1 h2 h3
    intro _;exact h3
  · simp only [List.cons.injEq, and_true] at hcs
    injection hcs with h1 h2 h3
    subst h1;intro h;cases h
theorem q3el {α:Type} (cells:α→List Value) (ok:α→Prop) {t e:TypeId} {k fuel:Nat} {A:Option Addr} {n c:Nat} {x:DataW H×List MemPlace}
    (ht:P.underlying t=some (.slice e)) (hC:P.cellsOf e=k) (h0:0<k) (hk:∀ a,(cells a).length=k)
    (hR:∀ (m:Nat) (l:List Value) (y:DataW H×List MemPlace),DataW.trod enc P w base (fun _=>true) held m e l=some y→l.length=k→∃ a,l=cells a∧ok a)
    (h:DataW.trod enc P w base (fun _=>true) held fuel t [Value.slice A n c]=some x) :
    ∃ l:List α,l.length=n∧Sl w k A l.length c (l.flatMap cells)∧(∀ a∈l,ok a)∧(A=none→c=0)∧c≤maxLen:=by
  rcases open_slice ht h with ⟨hcs,_⟩ | ⟨a,len,cap,m,q,D,Pl,hcs,_,hl,hmx,hm,_,hi⟩
  · simp only [List.cons.injEq, and_true] at hcs
    injection hcs with h1 h2 h3
    subst h1 h2 h3
    exact ⟨[],rfl,Sl.nil_ _ _ _ _,(fun _ h=>by cases h),(fun _=>rfl),Nat.zero_le _⟩
  · simp only [List.cons.injEq, and_true] at hcs
    injection hcs with h1 h2 h3
    subst h1 h2 h3
    simp only [if_true] at hm
    subst hm
    obtain ⟨l,hll,hp⟩:=q3ej (α:=α) (p:=fun i v=>(∀ j u,(cells v)[j]?=some u→w.cell? (a.add (i*k+j))=some u)∧ok v) n (fun i hin=>by
      obtain ⟨cs',hc,ht'⟩:=hi i (by omega)
      rw [hC] at hc
      obtain ⟨_,hcl,hat⟩:=World.cells?_some hc
      obtain ⟨v,rfl,hv⟩:=hR _ _ _ ht' hcl
      refine ⟨v,fun j u hu=>?_,hv⟩
      have hj:j<k:=by rw [← hk v];exact (List.getElem?_eq_some_iff.1 hu).1
      rw [← Go.Deep.add_add,hat j hj,hu])
    refine ⟨l,hll,⟨by omega,by rw [q9 hk,hll],fun hn=>?_⟩,fun v hv=>?_,(fun h=>by cases h),hmx⟩
    · obtain ⟨v0, hv0⟩ : ∃ v, l[0]? = some v := ⟨_, List.getElem?_eq_getElem (by omega)⟩
      obtain ⟨u0,hu0⟩:∃ u,(cells v0)[0]?=some u:=⟨_,List.getElem?_eq_getElem (by rw [hk];exact h0)⟩
      have hc0:=(hp 0 v0 hv0).1 0 u0 hu0
      obtain ⟨b,o,spot⟩:=a
      have hspot:spot=none:=by simpa [Addr.add] using World.cell?_spot hc0
      subst hspot
      refine ⟨b,o,rfl,?_,fun j u hu=>?_⟩
      · have hb := World.block_lt_of_cell? w _ hc0
        simpa [Addr.add] using hb
      · obtain ⟨v, hv, huv⟩ := qd hk h0 l j u hu
        have h1:=(hp _ v hv).1 _ u huv
        have e0:j / k*k+j % k=j:=by rw [Nat.mul_comm];exact Nat.div_add_mod j k
        rw [e0] at h1
        have e1:(⟨b,o,none⟩:Addr).add j=⟨b,o+j,none⟩:=by
          unfold Addr.add;split
          · rename_i h0;rw [h0];rfl
          · rfl
        rw [e1] at h1;exact h1
    · obtain ⟨i, hi'⟩ := List.getElem?_of_mem hv
      exact (hp i v hi').2
end
end Go

namespace Go.Proofs.YtpfhgnccpiildaaGreat
open Go.ChangeShapes Go.WideShapes Go.ChangeAt Go.RowKit Go.Pel Go.Deep
theorem q3em {α:Type} (l:List α) (h:l.length=1):∃ a,l=[a]:=by
  match l,h with
  | [a],_=>exact ⟨a,rfl⟩
theorem q3en {α:Type} (l:List α) (h:l.length=2):∃ a b,l=[a,b]:=by
  match l,h with
  | [a,b],_=>exact ⟨a,b,rfl⟩
theorem q3eo {α:Type} (l:List α) (h:l.length=3):∃ a b c,l=[a,b,c]:=by
  match l,h with
  | [a,b,c],_=>exact ⟨a,b,c,rfl⟩
section
variable {H:Type} {enc:TypeId×Value→H} {w:World} {base:Nat} {spare:Nat→Bool} {held:Bool}
theorem q3ep:Tryz.prog.cellsOf 3=1:=by kernel_rfl
theorem q3eq:Tryz.prog.cellsOf 2=1:=by kernel_rfl
theorem q3er:Tryz.prog.cellsOf 79=3:=by kernel_rfl
theorem q3es:Tryz.prog.cellsOf 24=1:=by kernel_rfl
theorem q3et:Tryz.prog.cellsOf 22=1:=by kernel_rfl
theorem q3eu {fuel:Nat} {l:List Value} {x:DataW H×List MemPlace} (h:DataW.trod enc Tryz.prog w base spare held fuel 79 l=some x) (hl:l.length=3) :
    ∃ p:Pt,l=[.int .i64 p.id,.int .i64 p.a,.int .i64 p.b]∧p.Fits:=by
  obtain ⟨c0,c1,c2,rfl⟩:=q3eo l hl
  obtain ⟨m4,y4,h4⟩:=q3eb Tryz.underlying79 h (i:=0) rfl rfl rfl q3ep
  obtain ⟨m5,y5,h5⟩:=q3eb Tryz.underlying79 h (i:=1) rfl rfl rfl q3eq
  obtain ⟨m6,y6,h6⟩:=q3eb Tryz.underlying79 h (i:=2) rfl rfl rfl q3eq
  obtain ⟨i,e4,w4⟩:=q3ec Tryz.underlying3 h4
  obtain ⟨a,e5,w5⟩:=q3ec Tryz.underlying2 h5
  obtain ⟨b,e6,w6⟩:=q3ec Tryz.underlying2 h6
  simp at e4 e5 e6
  subst e4 e5 e6
  exact ⟨⟨i,a,b⟩,rfl,⟨q3ed w4,q3ed w5,q3ed w6⟩⟩
theorem q3ev (fuel:Nat) (l:List Value) (x:DataW H×List MemPlace) (h:DataW.trod enc Tryz.prog w base spare held fuel 79 l=some x) (hl:l.length=3):∃ p:Pt,l=p.cells∧p.Fits:=q3eu h hl
theorem q3ew {fuel:Nat} {l:List Value} {x:DataW H×List MemPlace} (h:DataW.trod enc Tryz.prog w base (fun _=>true) held fuel 24 l=some x) (hl:l.length=1) :
    ∃ (A:Option Addr) (c:Nat) (m:List Pt),l=[.slice A m.length c]∧Sl w 3 A m.length c (vp m)∧(A=none→c=0)∧∀ p∈m,p.Fits:=by
  obtain ⟨c0,rfl⟩:=q3em l hl
  obtain ⟨m0,y0,h0⟩:=q3eb Tryz.underlying24 h (i:=0) rfl rfl rfl q3et
  have h0':DataW.trod enc Tryz.prog w base (fun _=>true) held m0 22 [c0]=some y0:=by simpa using h0
  obtain ⟨A,n,c,rfl⟩:∃ A n c,c0=Value.slice A n c:=by
    rcases open_slice Tryz.underlying22 h0' with ⟨hcs,_⟩ | ⟨a,len,cap,m,q,D,Pl,hcs,_⟩
    · simp only [List.cons.injEq,and_true] at hcs;exact ⟨_,_,_,hcs⟩
    · simp only [List.cons.injEq,and_true] at hcs;exact ⟨_,_,_,hcs⟩
  have hn:=q3ek Tryz.underlying22 h0'
  obtain ⟨pts,rfl,hs,hok,_,_⟩:=q3el Pt.cells Pt.Fits Tryz.underlying22 q3er (by decide) (fun _=>rfl) q3ev h0'
  exact ⟨A,c,pts,rfl,hs,hn,hok⟩
theorem q3ex:Tryz.prog.cellsOf 26=2:=by kernel_rfl
theorem q3ey {fuel:Nat} {l:List Value} {x:DataW H×List MemPlace} (h:DataW.trod enc Tryz.prog w base spare held fuel 26 l=some x) (hl:l.length=2) :
    ∃ n d:Int,l=[.int .i64 n,.int .i64 d]∧(-9223372036854775808≤n∧n≤9223372036854775807)∧(-9223372036854775808≤d∧d≤9223372036854775807):=by
  obtain ⟨c0,c1,rfl⟩:=q3en l hl
  obtain ⟨m4,y4,h4⟩:=q3eb Tryz.underlying26 h (i:=0) rfl rfl rfl q3eq
  obtain ⟨m5,y5,h5⟩:=q3eb Tryz.underlying26 h (i:=1) rfl rfl rfl q3eq
  obtain ⟨n,e4,w4⟩:=q3ec Tryz.underlying2 h4
  obtain ⟨d,e5,w5⟩:=q3ec Tryz.underlying2 h5
  simp at e4 e5
  subst e4 e5
  exact ⟨n,d,rfl,q3ed w4,q3ed w5⟩
end
end Go.Proofs.YtpfhgnccpiildaaGreat
