/- Walks of the references; the orders agree; examples. -/
import Derived.Test.YtpfhgnccpiildaaGreatGk
set_option linter.unusedSimpArgs false
set_option linter.unusedVariables false
namespace Go.Proofs.YtpfhgnccpiildaaGreat
open Go Go.Tx Go.Pel
theorem q413 {n d:Int} (hd:d≠0) (hn:n.natAbs≤4194304) (hd2:d.natAbs≤4194304):(mk (-n) (-d)).1=(mk n d).1∧(mk (-n) (-d)).2.1=(mk n d).2.1:=by
  obtain ⟨_,k1,_,_⟩:=q3p0 hd hn hd2
  obtain ⟨_,k2,_,_⟩:=q3p0 (n:=-n) (d:=-d) (by omega) (by omega) (by omega)
  have e1:=q3rf hd hn hd2
  have e2:=q3rf (n:=-n) (d:=-d) (by omega) (by omega) (by omega)
  refine q_eq k2 k1 ?_
  generalize (mk (-n) (-d)).1=a at *
  generalize (mk (-n) (-d)).2.1=b at *
  generalize (mk n d).1=a' at *
  generalize (mk n d).2.1=b' at *
  have e3:a*d=n*b:=by rw [Int.mul_neg,Int.neg_mul] at e2;omega
  have e4:a*b'*d=a'*b*d:=by
    rw [Int.mul_right_comm,e3,Int.mul_right_comm a',e1,Int.mul_right_comm]
  exact Int.eq_of_mul_eq_mul_right hd e4
theorem q414 {l:List T3} (h:FldOk l) {p q:T3} (hp:p∈l) (hq:q∈l) (hi:p.1≠q.1) {m:M4} (hm:mtP (p,q)=some m):∃ m'∈allM l,m'.1=m.1∧m'.2.1=m.2.1:=by
  obtain ⟨i,hi'⟩:=List.mem_iff_getElem?.1 hp
  obtain ⟨j,hj'⟩:=List.mem_iff_getElem?.1 hq
  have bp:=q3pk (h.ok p hp)
  have bq:=q3pk (h.ok q hq)
  rcases Nat.lt_trichotomy i j with k | k | k
  · exact ⟨m,q3ry k hi' hj' hm,rfl,rfl⟩
  · subst k;rw [hi'] at hj';injection hj' with e;exact absurd (by rw [e]) hi
  · have hb : p.2.2.1 ≠ q.2.2.1 := (q3rk (x := (p, q)) (h.ok p hp) (h.ok q hq) hm).1
    obtain ⟨m',hm'⟩:=q3sc (p:=q) (q:=p) (Ne.symm hb)
    refine ⟨m',q3ry k hj' hi' hm',?_⟩
    have e1:(if p.2.2.1=q.2.2.1 then none else some ((mk (p.2.1 - q.2.1) (q.2.2.1 - p.2.2.1)).1,(mk (p.2.1 - q.2.1) (q.2.2.1 - p.2.2.1)).2.1,p.1,q.1,()))=some m:=hm
    have e2:(if q.2.2.1=p.2.2.1 then none else some ((mk (q.2.1 - p.2.1) (p.2.2.1 - q.2.2.1)).1,(mk (q.2.1 - p.2.1) (p.2.2.1 - q.2.2.1)).2.1,q.1,p.1,()))=some m':=hm'
    rw [if_neg hb] at e1
    rw [if_neg (Ne.symm hb)] at e2
    injection e1 with e1
    injection e2 with e2
    subst e1
    subst e2
    have:=q413 (n:=p.2.1 - q.2.1) (d:=q.2.2.1 - p.2.2.1) (by omega) (by omega) (by omega)
    rw [show -(p.2.1 - q.2.1)=q.2.1 - p.2.1 by omega,show -(q.2.2.1 - p.2.2.1)=p.2.2.1 - q.2.2.1 by omega] at this
    exact this
theorem q415 {n dd:Int} {x y:M4} (h1:x.1=y.1) (h2:x.2.1=y.2.1):gtM n dd x=gtM n dd y:=by unfold gtM;rw [h1,h2]
theorem Last.behind {l:List T3} (h:FldOk l) {n dd:Int} {p q:T3} (hp:Last l n dd p) (hq:q∈l) (hne:q≠p):leads (ofP q) (ofP p) n dd=true:=by
  have hi:p.1≠q.1:=fun e=>hne (q3s9 h hq hp.1 e.symm)
  rw [q3rw (p:=ofP p) (q:=ofP q) hi,hp.2 q hq];rfl
theorem Lead.front {l:List T3} (h:FldOk l) {n dd:Int} {p q:T3} (hp:Lead l n dd p) (hq:q∈l) (hne:q≠p):leads (ofP p) (ofP q) n dd=true:=hp.ahead h hq fun e=>hne (q3s9 h hq hp.1 e)
theorem q416 {l:List T3} (h:FldOk l) (hl:l ≠ []) {n dd n' dd':Int} (hd:1≤dd) (hd':1≤dd') (hle:leQ n dd n' dd'):ldT l n dd=ldT l n' dd'∨(ldT l n dd).2.2.1<(ldT l n' dd').2.2.1:=by
  have h1:=q3sa hl n dd
  have h2:=q3sa hl n' dd'
  generalize ldT l n dd=p at *
  generalize ldT l n' dd'=p' at *
  refine Classical.byContradiction fun k=>?_
  have hne:p'≠p:=fun e=>k (.inl e.symm)
  have hb:¬ p.2.2.1<p'.2.2.1:=fun e=>k (.inr e)
  have:=q3sd (h.ok p h1.1) (h.ok p' h2.1) hd hd' hle hb (Lead.front (n:=n) (dd:=dd) h h1 h2.1 hne)
  rw [h2.2 p h1.1] at this
  cases this
theorem q417 {l:List T3} (h:FldOk l) (hl:l ≠ []) {n dd n' dd':Int} (hd:1≤dd) (hd':1≤dd') (hle:leQ n dd n' dd'):lasT l n dd=lasT l n' dd'∨(lasT l n' dd').2.2.1<(lasT l n dd).2.2.1:=by
  have h1:=q3w8 hl n dd
  have h2:=q3w8 hl n' dd'
  generalize lasT l n dd=q at *
  generalize lasT l n' dd'=q' at *
  refine Classical.byContradiction fun k=>?_
  have hne:q'≠q:=fun e=>k (.inl e.symm)
  have hb:¬ q'.2.2.1<q.2.2.1:=fun e=>k (.inr e)
  have:=q3sd (h.ok q' h2.1) (h.ok q h1.1) hd hd' hle hb (h1.behind h h2.1 hne)
  rw [h2.2 q h1.1] at this
  cases this
theorem q418 {l:List T3} (h:FldOk l) (hl:l ≠ []) {n dd n' dd':Int} (hd:1≤dd) (hd':1≤dd') (hle:leQ n dd n' dd'):slV l n dd≤slV l n' dd':=by
  unfold slV
  rcases q416 h hl hd hd' hle with e1 | e1<;>rcases q417 h hl hd hd' hle with e2 | e2
  · rw [e1,e2];exact Int.le_refl _
  · rw [e1];omega
  · rw [e2];omega
  · omega
def NoM (l:List T3) (n dd n' dd':Int):Prop:=∀ m∈allM l,gtM n dd m=true→gtM n' dd' m=true
theorem q419 {l:List T3} (h:FldOk l) (hl:l ≠ []) {n dd n' dd':Int} (hd:1≤dd) (hd':1≤dd') (hle:leQ n dd n' dd') (hno:NoM l n dd n' dd'):ldT l n dd=ldT l n' dd':=by
  rcases q416 h hl hd hd' hle with e | hb
  · exact e
  · have h1 := q3sa hl n dd
    have h2:=q3sa hl n' dd'
    generalize ldT l n dd=p at *
    generalize ldT l n' dd'=p' at *
    have hne:p'≠p:=fun e=>by rw [e] at hb;omega
    obtain ⟨m,hm⟩:=q3sc (p:=p) (q:=p') (by omega)
    obtain ⟨m',hm',e1,e2⟩:=q414 h h1.1 h2.1 (fun e=>hne (q3s9 h h2.1 h1.1 e.symm)) hm
    have k1:=Lead.front (n:=n) (dd:=dd) h h1 h2.1 hne
    have k2:=h2.2 p h1.1
    rw [q3se (h.ok p h1.1) (h.ok p' h2.1) hb hm,← q415 e1 e2] at k1 k2
    rw [hno m' hm' k1] at k2
    cases k2
theorem q41a {l:List T3} (h:FldOk l) (hl:l ≠ []) {n dd n' dd':Int} (hd:1≤dd) (hd':1≤dd') (hle:leQ n dd n' dd') (hno:NoM l n dd n' dd'):lasT l n dd=lasT l n' dd':=by
  rcases q417 h hl hd hd' hle with e | hb
  · exact e
  · have h1 := q3w8 hl n dd
    have h2:=q3w8 hl n' dd'
    generalize lasT l n dd=q at *
    generalize lasT l n' dd'=q' at *
    have hne:q'≠q:=fun e=>by rw [e] at hb;omega
    obtain ⟨m,hm⟩:=q3sc (p:=q') (q:=q) (by omega)
    obtain ⟨m',hm',e1,e2⟩:=q414 h h2.1 h1.1 (fun e=>hne (q3s9 h h2.1 h1.1 e)) hm
    have k1:=h1.behind h h2.1 hne
    have k2:=h2.2 q h1.1
    rw [q3se (h.ok q' h2.1) (h.ok q h1.1) hb hm,← q415 e1 e2] at k1 k2
    rw [hno m' hm' k1] at k2
    cases k2
theorem q41b {l:List T3} (h:FldOk l) (hl:l ≠ []) {n dd n' dd':Int} (hd:1≤dd) (hd':1≤dd') (hle:leQ n dd n' dd') (hno:NoM l n dd n' dd'):slV l n dd=slV l n' dd':=by
  unfold slV
  rw [q419 h hl hd hd' hle hno,q41a h hl hd hd' hle hno]
theorem q41c {x:M4}:gtM x.1 x.2.1 x=false:=by
  cases hg:gtM x.1 x.2.1 x with
  | false=>rfl
  | true=>have:=(q3pn x.1 x.2.1 x).1 hg;omega
theorem q41d {x y:M4} (h:ltM y x=false):leQ x.1 x.2.1 y.1 y.2.1:=by
  have:=q3ot y x h
  unfold leQ;omega
theorem q41e (d:Nat) (hd:5000≤d) {l:List T3} (hl:l ≠ []) (h:FldOk l) (h0:qfx (ptsL l)=0) {n' dd':Int} (hd':1≤dd') {M:List M4} (hM:∀ x∈M,okW x) (hlen:M.length≤4096) (hs:M.Pairwise fun a b=>ltM b a=false) {U:List Dii} (hU:U.length≤4096) (hto:∀ x∈M,leQ x.1 x.2.1 n' dd'):∀ (f i k:Nat) (a b:Int),M.length - i<f→i≤M.length→k≤U.length→okQ a b→leQ a b n' dd'→(∀ x∈M.drop i,leQ a b x.1 x.2.1)→(∀ m∈allM l,gtM a b m=true→m∈M.drop i∨gtM n' dd' m=true)→U.drop k=(trnL l (slV l a b) (M.drop i)).map tmU →
    iter (q3fo d) f (true,M,slV l a b,slV l n' dd',(k:Int),(i:Int),l,U)=some true
  | 0,i,k,a,b,hf,_,_,_,_,_,_,_=>by omega
  | f + 1, i, k, a, b, hf, hi, hk, hq, hle, hx1, hx2, hx3 => by
    have ih:=q41e d hd hl h h0 hd' hM hlen hs hU hto f (i+1)
    rw [iter]
    revert ih
    generalize iter (q3fo d) f=self
    intro ih
    have hb1:=(qd2 hq.ok).1
    by_cases hlt:i<M.length
    · obtain ⟨x, hx⟩ : ∃ x, M[i]? = some x := ⟨_, List.getElem?_eq_getElem hlt⟩
      have hxm:=List.mem_of_getElem? hx
      have hxw:=hM x hxm
      have hx0:=(qd2 hxw.ok).1
      have e1:=q3wy d hd hl h h0 hxw.b1 hxw.b2 hxw.ok
      have wi:=q3q6 (show i<1000000 by omega)
      have wk:=q3q6 (show k<1000000 by omega)
      have hdr:=q3qb hx
      rw [hdr] at hx1 hx2 hx3
      have hax:=hx1 x (List.mem_cons_self ..)
      have hmon:=q418 h hl hb1 hx0 hax
      have hpw:(x :: M.drop (i+1)).Pairwise fun a b=>ltM b a=false:=by rw [← hdr];exact hs.drop
      have hy1:∀ y∈M.drop (i+1),leQ x.1 x.2.1 y.1 y.2.1:=fun y hy=>q41d ((List.pairwise_cons.1 hpw).1 y hy)
      have hy2:∀ m∈allM l,gtM x.1 x.2.1 m=true→m∈M.drop (i+1)∨gtM n' dd' m=true:=fun m hm hg=>by
        rcases hx2 m hm (q3qs hb1 hx0 hax (q3px h m hm).ok hg) with k | k
        · rcases List.mem_cons.1 k with e | e
          · rw [e,q41c] at hg;cases hg
          · exact .inl e
        · exact .inr k
      have ihx:=fun k' hk' hu=>ih k' x.1 x.2.1 (by omega) (by omega) hk' ⟨hxw.b1,hxw.b2,hxw.ok⟩ (hto x hxm) hy1 hy2 hu
      unfold q3fo q3fl
      have c1:decide (slV l x.1 x.2.1<slV l a b)=false:=decide_eq_false (by omega)
      unfold trnL at hx3
      by_cases hs:slV l x.1 x.2.1=slV l a b
      · rw [if_pos hs, ← hs] at hx3
        have c2:decide (slV l x.1 x.2.1 > slV l a b)=false:=decide_eq_false (by omega)
        simp only [q3er,q3fj,q3ev,q3ez,q3f1,q3f5,q3f9,q3fb,q3ff,q3fh,q3fm,Dt.eval,q3db,q3q9 hlt,cond_true,q3q8 hlt,q3q7 hx,e1,show ((0:Int) != 0)=false from rfl,cond_false,c1,c2,wi]
        rw [← hs]
        exact ihx k hk hx3
      · rw [if_neg hs, List.map_cons] at hx3
        have c2:decide (slV l x.1 x.2.1 > slV l a b)=true:=decide_eq_true (by omega)
        have hkl:k<U.length:=by
          refine Classical.byContradiction fun c=>?_
          rw [List.drop_eq_nil_of_le (by omega)] at hx3
          cases hx3
        have hu:U[k]?=some (tmU (x.1,x.2.1,slV l x.1 x.2.1,())):=by
          have:=congrArg (fun L:List Dii=>L[0]?) hx3
          rw [List.getElem?_drop] at this
          exact this
        have hu2:U.drop (k+1)=(trnL l (slV l x.1 x.2.1) (M.drop (i+1))).map tmU:=by
          have:=congrArg List.tail hx3
          rw [List.tail_drop] at this
          exact this
        have c3:decide ((k:Int)≥(U.length:Int))=false:=decide_eq_false (by omega)
        simp only [q3er,q3fj,q3ev,q3ez,q3f1,q3f5,q3f9,q3fb,q3ff,q3fh,q3fm,Dt.eval,q3db,q3q9 hlt,cond_true,q3q8 hlt,q3q7 hx,e1,show ((0:Int) != 0)=false from rfl,cond_false,c1,c2,c3,q3q8 hkl,q3q7 hu,tmU,beq_self_eq_true,Bool.and_self,Bool.not_true,wk,wi]
        exact ihx (k+1) (by omega) hu2
    · have hkl : i = M.length := by omega
      rw [hkl,List.drop_length] at hx2 hx3
      have hno:NoM l a b n' dd':=fun m hm hg=>(hx2 m hm hg).resolve_left (by intro h;cases h)
      have hsl:=q41b h hl hb1 hd' hle hno
      have hku:k=U.length:=by
        have:U.drop k=[]:=hx3
        have:=List.drop_eq_nil_iff.1 this
        omega
      unfold q3fo
      simp only [q3er,q3fj,q3ev,q3ez,q3f1,q3f5,q3f9,q3fb,q3ff,q3fh,q3fm,Dt.eval,q3db,q3qa hlt,cond_false,cond_true,hku,hsl,beq_self_eq_true]
theorem q41f {l:List T3} (h:FldOk l) {n dd n' dd':Int} (hd:1≤dd) (hd':1≤dd') (hle:leQ n dd n' dd') {m:M4} (hm:m∈allM l) (hg:gtM n dd m=true):m∈cutM (allM l) n dd n' dd'∨gtM n' dd' m=true:=by
  cases hg':gtM n' dd' m with
  | true=>exact .inr rfl
  | false =>
    refine .inl ?_
    rw [← q3qv hd hd' hle (fun x hx=>(q3px h x hx).ok) (q3pa h)]
    refine List.mem_filter.2 ⟨hm,?_⟩
    unfold inM;rw [hg,hg'];rfl
theorem q41g {n dd:Int} {m:M4} (h:gtM n dd m=false):leQ m.1 m.2.1 n dd:=by
  unfold leQ
  refine Classical.byContradiction fun c=>?_
  rw [(q3pn n dd m).2 (by omega)] at h
  cases h
theorem q41h {l:List T3} (h:FldOk l) {n dd n' dd':Int}:(cutM (allM l) n dd n' dd').Pairwise fun a b=>ltM b a=false:=by
  unfold cutM;exact ((q3pa h).take).drop
theorem q41i (d:Nat) (hd:5000≤d) (ea:q3d3 d ()=some true) (l:List T3) (n dd n' dd':Int) (hn:i64B n=true) (hdd:i64B dd=true) (hn':i64B n'=true) (hd':i64B dd'=true):q3fp d ((l,()),(n,dd,()),(n',dd',()),())=some true:=by
  obtain ⟨g,e0,_⟩:=q3xq d l
  have e1:=q3qj d l hn hdd hn' hd'
  cases g with
  | true=>simp only [q3fp,q3db,q3dh,q3dl,q3dp,q3dt,Dt.eval,ea,e0,cond_true]
  | false =>
    by_cases hc:chk2 l n dd n' dd'=0
    · rw [hc] at e1
      by_cases hl0:l.length=0
      · simp only [q3fp,q3db,q3dh,q3dl,q3dp,q3dt,Dt.eval,ea,e0,e1,show ((0:Int) != 0)=false from rfl,cond_true,cond_false,show ((l.length:Int) == 0)=true by rw [hl0];rfl]
      · have hl : l ≠ [] := fun e => hl0 (by rw [e]; rfl)
        have hcs:=q3wf hc hl
        obtain ⟨_,h,h0,h1,h2,h3⟩:=q3x6 hcs
        have b1:=(qd2 h1).1
        have b2:=(qd2 h2).1
        have e2:=q3xa d hd l hn hdd hn' hd'
        unfold q3x8 at e2
        rw [if_neg (by simpa using hcs)] at e2
        have e3:=q3qy d hd l hn hdd hn' hd'
        unfold allV at e3
        rw [if_neg (by simpa using hc)] at e3
        have e4:=q3wy d hd hl h h0 hn hdd h1
        have e5:=q3wy d hd hl h h0 hn' hd' h2
        have hlen:(cutM (allM l) n dd n' dd').length≤4096:=by have:=q3qw (allM l) n dd n' dd';have:=q3p9 h;omega
        have hmem:=fun x (hx:x∈cutM (allM l) n dd n' dd')=>q3rt b1 b2 h3 (fun x hx=>(q3px h x hx).ok) (q3pa h) hx
        have e6:=q41e d hd hl h h0 b2 (q3x4 h) hlen (q41h h) (U:=(q3x3 l n dd n' dd').map tmU) (by rw [List.length_map];exact q3x5 h n dd n' dd') (fun x hx=>q41g (hmem x hx).2.2) d 0 0 n dd (by omega) (Nat.zero_le _) (Nat.zero_le _) ⟨hn,hdd,h1⟩ h3
          (fun x hx=>q3sj (hmem x hx).2.1) (fun m hm hg=>q41f h b1 b2 h3 hm hg) rfl
        simp only [q3fp,q3db,q3dh,q3dl,q3dp,q3dt,q3dx,q3e1,q3e5,q3e9,q3ed,q3ef,q3ej,q3en,Dt.eval,ea,e0,e1,show ((0:Int) != 0)=false from rfl,cond_true,cond_false,show ((l.length:Int) == 0)=false by rw [beq_eq_false_iff_ne];omega,Bool.not_true,e2,e3,e4,e5]
        exact e6
    · simp only [q3fp,q3db,q3dh,q3dl,q3dp,q3dt,Dt.eval,ea,e0,e1,show (chk2 l n dd n' dd' != 0)=true by simpa using hc,cond_true,cond_false]
theorem q41j:q3d3 5001 ()=some true:=by kernel_rfl
end Go.Proofs.YtpfhgnccpiildaaGreat
