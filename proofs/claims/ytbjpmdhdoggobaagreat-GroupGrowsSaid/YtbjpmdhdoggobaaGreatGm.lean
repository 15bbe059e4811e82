/- Walks of the references; the orders agree; examples. -/
import Derived.Test.YtbjpmdhdoggobaaGreatGl
set_option linter.unusedSimpArgs false
set_option linter.unusedVariables false
namespace Go.Proofs.YtbjpmdhdoggobaaGreat
open Go Go.Tx Go.Pel
theorem q3uc {n dd:Int}:∀ {O:List T3} {i:Nat} {p q:T3},O[i]?=some p→O[i+1]?=some q→(gpL n dd O)[i]?=some (subV (atQ p n dd).1 (atQ p n dd).2.1 (atQ q n dd).1 (atQ q n dd).2.1)
  | [],i,p,q,h,_=>by simp at h
  | [_],i,p,q,_,h=>by simp at h
  | x :: y :: r, 0, p, q, h, h2 => by
    simp only [List.getElem?_cons_zero,Option.some.injEq,Nat.zero_add,List.getElem?_cons_succ] at h h2
    subst h h2
    rfl
  | x :: y :: r, i + 1, p, q, h, h2 => by
    rw [List.getElem?_cons_succ] at h h2
    unfold gpL
    rw [List.getElem?_cons_succ]
    exact q3uc h h2
def clsC:Nat→List Bool→List Di
  | _,[]=>[]
  | k,c :: cs=>(((if c=true then k+1 else k:Nat):Int),()) :: clsC (if c=true then k+1 else k) cs
theorem q3ud:∀ (cs:List Bool) (k i:Nat) (u v:Di) (c:Bool),(((k:Int),()) :: clsC k cs)[i]?=some u→(((k:Int),()) :: clsC k cs)[i+1]?=some v→cs[i]?=some c→(u.1 == v.1)=!c
  | [],k,i,u,v,c,_,_,h=>by simp at h
  | x :: cs, k, 0, u, v, c, hu, hv, hc => by
    simp only [List.getElem?_cons_zero,Option.some.injEq] at hu hc
    unfold clsC at hv
    simp only [Nat.zero_add,List.getElem?_cons_succ,List.getElem?_cons_zero,Option.some.injEq] at hv
    subst hu hc hv
    cases x with
    | true=>simp;omega
    | false=>simp
  | x :: cs, k, i + 1, u, v, c, hu, hv, hc => by
    rw [List.getElem?_cons_succ] at hu hv hc
    unfold clsC at hu hv
    exact q3ud cs _ i u v c hu hv hc
def slD (xs:List (List Di)):List DLiE:=ql (e:=Ri) xs
theorem q3ue (xs:List (List Di)) (y:List Di):slD (xs ++ [y])=slD xs ++ [((y,()):DLiE)]:=List.map_append
theorem q3uf (xs:List (List Di)):(slD xs).length=xs.length:=qm (e:=Ri) xs
theorem q3ug:∀ (r:List (Bool×Di)) (xs:List (List Di)) (y:List Di),clsF (slD (grp xs y r)) 0=clsF (slD xs) 0++(List.replicate y.length (((xs.length:Int),()):Di)++clsC xs.length (r.map Prod.fst))
  | [], xs, y => by
    unfold grp
    have e:=q3tu (slD xs) ((y,()):DLiE) 0
    have hl:(slD xs).length=xs.length:=q3uf xs
    rw [q3ue]
    refine e.trans ?_
    rw [hl,Nat.zero_add]
    simp [clsC]
  | c :: r, xs, y => by
    unfold grp
    rw [List.map_cons]
    unfold clsC
    have e:=q3tu (slD xs) ((y,()):DLiE) 0
    have hl:(slD xs).length=xs.length:=q3uf xs
    rw [hl,Nat.zero_add] at e
    cases h:c.1 with
    | true =>
      rw [if_pos rfl,q3ug r (xs ++ [y]) [c.2],q3ue]
      have e':clsF (slD xs ++ [((y,()):DLiE)]) 0=clsF (slD xs) 0++List.replicate y.length (((xs.length:Int),()):Di):=e
      rw [e',List.length_append,List.length_cons,List.length_nil]
      simp
    | false =>
      rw [if_neg (by simp),q3ug r xs (y ++ [c.2]),List.length_append,List.length_cons,List.length_nil,Nat.zero_add,List.replicate_succ']
      simp
theorem q3uh {α β:Type}:∀ (xs:List α) (ys:List β),xs.length≤ys.length→(xs.zip ys).map Prod.fst=xs
  | [],_,_=>by simp
  | _ :: _,[],h=>by simp at h
  | x :: xs,y :: ys,h=>by rw [List.zip_cons_cons,List.map_cons,q3uh xs ys (by simpa using h)]
theorem q3ui {L:List Di} {G:List Dii} (a b:Int) (hL:L ≠ []) (h:L.length=G.length+1):clsF (ql (e:=Ri) (ofG L G a b)) 0=((((0:Nat):Int),()):Di) :: clsC 0 (G.map (gtD a b)):=by
  cases L with
  | nil=>exact absurd rfl hL
  | cons x r =>
    show clsF (slD (grp [] [x] _)) 0=_
    rw [q3ug,q3uh _ _ (by rw [List.length_map];simp at h;omega)]
    rfl
theorem q3uj (d:Nat) (hd:5000≤d) {l:List T3} (hok:FldOk l) {n dd a b:Int} (hn:i64B n=true) (hdd:i64B dd=true) (ha:i64B a=true) (hb:i64B b=true) {G:List Dii} {L:List Di} (hG:okN G) (hGl:G.length≤64) (hLG:G=[] ∨ L.length=G.length+1)
    (hP:∀ (i:Nat) (g:Dii),G[i]?=some g→∃ p q:T3,L[i]?=some (idU p)∧L[i+1]?=some (idU q)∧p∈l∧q∈l∧apV p q n dd=(g.1,g.2.1,0)∧q2aq d ((l,()),(n,dd,()),(a,b,()),(p.1,()),(q.1,()),())=some (!gtD a b g,0))
    {m:Int} (hc:q24r d ((l,()),(n,dd,()),(a,b,()),())=some (m,0)) (hm:(m == tmin (L.length:Int) (((G.countP (gtD a b)+1:Nat):Int)))=true):∀ (f i:Nat),G.length - i<f→i≤G.length →
    iter (q398 d) f (true,(((G.take i).countP (gtD a b):Nat):Int),(i:Int),l,n,dd,a,b,G,L)=some true
  | 0,i,hf,_=>by omega
  | f + 1, i, hf, hi => by
    have ih:=q3uj d hd hok hn hdd ha hb hG hGl hLG hP hc hm f (i+1)
    rw [iter]
    revert ih
    generalize iter (q398 d) f=self
    intro ih
    unfold q398 q391
    have hcl:(G.take i).countP (gtD a b)≤64:=by
      have:=List.countP_le_length (p:=gtD a b) (l:=G.take i)
      rw [List.length_take] at this;omega
    by_cases hlt:i<G.length
    · obtain ⟨g, hg⟩ : ∃ g, G[i]? = some g := ⟨_, List.getElem?_eq_getElem hlt⟩
      have hgG:=List.mem_of_getElem? hg
      obtain ⟨g1,g2,g3⟩:=hG.ok g hgG
      have gnn:=hG.nn g hgG
      obtain ⟨p,q,hp,hq,hpl,hql,hap,htg⟩:=hP i g hg
      have hi1:i<L.length:=(List.getElem?_eq_some_iff.1 hp).1
      have hi2:i+1<L.length:=(List.getElem?_eq_some_iff.1 hq).1
      have hl64:=hok.len
      obtain ⟨j,j1,j2⟩:=q3lg hok hpl
      obtain ⟨k,k1,k2⟩:=q3lg hok hql
      have e2:=q3lf d (l:=l) (by omega) p.1
      have e3:=q3lf d (l:=l) (by omega) q.1
      rw [j2] at e2
      rw [k2] at e3
      have m1:=q3ft (List.getElem?_eq_some_iff.1 j1).1
      have m2:=q3ft (List.getElem?_eq_some_iff.1 k1).1
      have m3:=q3fs (z:=ziii) j1
      have m4:=q3fs (z:=ziii) k1
      have e1:=q3lv d (by omega) p q hn hdd
      rw [hap] at e1
      have e5:=q3fx d g2 g3
      rw [g1] at e5
      have e6:=q3el d g.1 g.2.1 a b g2 g3 ha hb
      have hgt:decide (cmpQ g.1 g.2.1 a b > 0)=gtD a b g:=rfl
      have w:=q3fr (show i<1000000 by omega)
      have n1:decide ((j:Int)<0)=false:=decide_eq_false (by omega)
      have n2:decide ((k:Int)<0)=false:=decide_eq_false (by omega)
      have n3:decide (g.1<0)=false:=decide_eq_false (by omega)
      have htk:(G.take (i+1)).countP (gtD a b)=(G.take i).countP (gtD a b)+if gtD a b g=true then 1 else 0:=by
        rw [List.take_add_one,hg,List.countP_append];simp
      have hih:=ih (by omega) (by omega)
      rw [htk] at hih
      have wc:=q3fr (show (G.take i).countP (gtD a b)<1000000 by omega)
      revert hih wc
      generalize (G.take i).countP (gtD a b)=c
      intro hih wc
      cases hcg:gtD a b g with
      | true =>
        rw [hcg] at htg hgt hih
        rw [if_pos rfl] at hih
        simp only [q383,q38z,q387,q38b,q38d,q38h,q38l,q38p,q38r,q38v,q38x,Dt.eval,q36v,q3fu hlt,cond_true,cond_false,q3ft hi1,q3fs hp,idU,e2,w,q3ft hi2,q3fs hq,e3,n1,n2,q3ft hlt,q3fs hg,e5,show ((0:Int) != 0)=false from rfl,n3,m1,m2,m3,m4,e1,htg,beq_self_eq_true,Bool.and_self,Bool.not_true,e6,hgt,show (false == true)=false from rfl,Bool.not_false,wc]
        exact hih
      | false =>
        rw [hcg] at htg hgt hih
        rw [if_neg (by simp),Nat.add_zero] at hih
        simp only [q383,q38z,q387,q38b,q38d,q38h,q38l,q38p,q38r,q38v,q38x,Dt.eval,q36v,q3fu hlt,cond_true,cond_false,q3ft hi1,q3fs hp,idU,e2,w,q3ft hi2,q3fs hq,e3,n1,n2,q3ft hlt,q3fs hg,e5,show ((0:Int) != 0)=false from rfl,n3,m1,m2,m3,m4,e1,htg,beq_self_eq_true,Bool.and_self,Bool.not_true,e6,hgt,show (true == false)=false from rfl,Bool.not_false]
        exact hih
    · have hi' : i = G.length := by omega
      rw [hi',List.take_length] at hcl ⊢
      have hlt':¬ G.length<G.length:=Nat.lt_irrefl _
      have wc:=q3fr (show G.countP (gtD a b)<1000000 by omega)
      simp only [q383,q394,q396,Dt.eval,q36v,q3fv hlt',cond_false,cond_true,hc,beq_self_eq_true,wc,hm]
theorem q3uk {l:List T3} {n dd a b:Int} (d:Nat) (hd:5000≤d) (hA:AskT l n dd a b) (hn:i64B n=true) (hdd:i64B dd=true) (ha:i64B a=true) (hb:i64B b=true) (i:Nat) (g:Dii) (hg:((gpL n dd (ordT l n dd)).map dU)[i]?=some g) :
    ∃ p q:T3,((ordT l n dd).map idU)[i]?=some (idU p)∧((ordT l n dd).map idU)[i+1]?=some (idU q)∧p∈l∧q∈l∧apV p q n dd=(g.1,g.2.1,0)∧q2aq d ((l,()),(n,dd,()),(a,b,()),(p.1,()),(q.1,()),())=some (!gtD a b g,0):=by
  obtain ⟨hok,h0,hr,hG⟩:=hA.ok
  have hlt:i<((gpL n dd (ordT l n dd)).map dU).length:=(List.getElem?_eq_some_iff.1 hg).1
  have hgl:=q3ta l n dd
  have hil:=q3tb l n dd
  have hol:=q3lz l n dd
  obtain ⟨p,hp⟩:∃ p,(ordT l n dd)[i]?=some p:=⟨_,List.getElem?_eq_getElem (by omega)⟩
  obtain ⟨q,hq⟩:∃ q,(ordT l n dd)[i+1]?=some q:=⟨_,List.getElem?_eq_getElem (by omega)⟩
  have hpi:((ordT l n dd).map idU)[i]?=some (idU p):=by rw [List.getElem?_map,hp];rfl
  have hqi:((ordT l n dd).map idU)[i+1]?=some (idU q):=by rw [List.getElem?_map,hq];rfl
  have hpl:=(q3lw l n dd).mem_iff.1 (List.mem_of_getElem? hp)
  have hql:=(q3lw l n dd).mem_iff.1 (List.mem_of_getElem? hq)
  refine ⟨p,q,hpi,hqi,hpl,hql,?_,?_⟩
  · have e := q3uc (n := n) (dd := dd) hp hq
    rw [List.getElem?_map,e] at hg
    injection hg with hg
    have a1:=(q3s2 (hok.ok p hpl) (hok.ok q hql) hr (by have:=hA.d1;omega) (by have:=hA.n1;omega)).2
    have a2:=(q3ma (hok.ok p hpl) hr).1 (q3s2 (hok.ok p hpl) (hok.ok p hpl) hr (by have:=hA.d1;omega) (by have:=hA.n1;omega)).2
    have a3:=(q3ma (hok.ok q hql) hr).1 (q3s2 (hok.ok q hql) (hok.ok q hql) hr (by have:=hA.d1;omega) (by have:=hA.n1;omega)).2
    rw [q3m7 a2 a3] at a1 ⊢
    rw [← hg]
    generalize subV (atQ p n dd).1 (atQ p n dd).2.1 (atQ q n dd).1 (atQ q n dd).2.1=s at *
    obtain ⟨s1,s2,s3⟩:=s
    have a1':s3=0:=a1
    rw [a1'];rfl
  · have e := hA.together d hd hn hdd ha hb (List.mem_of_getElem? hpi) (List.mem_of_getElem? hqi)
    refine e.trans ?_
    obtain ⟨q1,q2⟩:=q3tc l n dd
    have hLne:(ordT l n dd).map idU ≠ []:=fun h=>by rw [h] at hil;simp at hil;omega
    have hC:=q3ui (L:=(ordT l n dd).map idU) (G:=(gpL n dd (ordT l n dd)).map dU) a b hLne (q1 hLne)
    have hfl:=q3ts (ofO l n dd a b)
    rw [q3o5] at hfl
    have hnd:=q3tz hok n dd
    have hcl:=q3tt (ql (e:=Ri) (ofO l n dd a b)) 0
    have key:∀ (j:Nat) (x:T3),((ordT l n dd).map idU)[j]?=some (idU x)→∃ c,(clsF (ql (e:=Ri) (ofO l n dd a b)) 0)[j]?=some c∧inV (ql (e:=Ri) (ofO l n dd a b)) x.1=c.1:=fun j x hx=>by
      have hjl:=(List.getElem?_eq_some_iff.1 hx).1
      obtain ⟨c,hc⟩:∃ c,(clsF (ql (e:=Ri) (ofO l n dd a b)) 0)[j]?=some c:=⟨_,List.getElem?_eq_getElem (by rw [hcl,hfl];exact hjl)⟩
      exact ⟨c,hc,q3ty (ql (e:=Ri) (ofO l n dd a b)) 0 j (idU x) c (by rw [hfl];exact hnd) (by rw [hfl];exact hx) hc⟩
    obtain ⟨u,hu,eu⟩:=key i p hpi
    obtain ⟨v,hv,ev⟩:=key (i+1) q hqi
    have hcut:(((gpL n dd (ordT l n dd)).map dU).map (gtD a b))[i]?=some (gtD a b g):=by rw [List.getElem?_map,hg];rfl
    have hC':clsF (ql (e:=Ri) (ofO l n dd a b)) 0=_:=hC
    rw [hC'] at hu hv
    have:=q3ud _ 0 i u v _ hu hv hcut
    show some (inV (ql (e:=Ri) (ofO l n dd a b)) p.1 == inV (ql (e:=Ri) (ofO l n dd a b)) q.1,(0:Int))=_
    rw [eu,ev,this]
theorem q3ul (d:Nat) (hd:5000≤d) (ea:q31v d ()=some true) (l:List T3) (n dd a b:Int) (hn:i64B n=true) (hdd:i64B dd=true) (ha:i64B a=true) (hb:i64B b=true):q399 d ((l,()),(n,dd,()),(a,b,()),())=some true:=by
  obtain ⟨v,e0,hv⟩:=q3tm d l hn hdd ha hb
  cases v with
  | false=>simp only [q399,q36v,q371,q375,q379,q37d,Dt.eval,ea,e0,Bool.not_false,cond_true]
  | true =>
    have hA:=hv rfl
    obtain ⟨hok,h0,hr,hG⟩:=hA.ok
    have e1:=q3mi d hd hA.len hn hdd
    rw [hA.gaps] at e1
    have e2:=hA.order d hn hdd
    have e3:=q3n1 d hd hA.len hn hdd ha hb
    rw [hA.ofW] at e3
    have hl64:=hok.len
    have hil:=q3tb l n dd
    have hgl:=q3ta l n dd
    have hN:=q3su hok hr hG
    have hP:=q3uk d hd hA hn hdd ha hb
    obtain ⟨q1,q2⟩:=q3tc l n dd
    have hcnt:=q3tg l n dd a b
    have e3':q24r d ((l,()),(n,dd,()),(a,b,()),())=some ((cntG ((ordT l n dd).map idU) ((gpL n dd (ordT l n dd)).map dU) a b:Int),0):=by
      rw [e3]
      show some (((ql (e:=Ri) (ofO l n dd a b)).length:Int),(0:Int))=_
      rw [hcnt]
    have hm:((cntG ((ordT l n dd).map idU) ((gpL n dd (ordT l n dd)).map dU) a b:Int) == tmin (((ordT l n dd).map idU).length:Int) (((((gpL n dd (ordT l n dd)).map dU).countP (gtD a b)+1:Nat):Int)))=true:=by
      have hc:=List.countP_le_length (p:=gtD a b) (l:=(gpL n dd (ordT l n dd)).map dU)
      rw [beq_iff_eq]
      unfold cntG tmin
      split
      · rename_i h;rw [h];simp only [List.length_nil];split<;>omega
      · rename_i h
        have:=q1 h
        split<;>omega
    clear e3 hcnt
    generalize (gpL n dd (ordT l n dd)).map dU=G at *
    generalize (ordT l n dd).map idU=L at *
    have hLG:G=[] ∨ L.length=G.length+1:=by
      by_cases h:L=[]
      · exact .inl (q2 h)
      · exact .inr (q1 h)
    have c1:((L.length:Int) != (l.length:Int))=false:=by rw [hil];simp
    have c2:((G.length:Int) != tmax (0:Int) (IntKind.wrap .i64 ((L.length:Int) - 1)))=false:=by
      rw [bne_eq_false_iff_eq,IntWalk.i64_in _ (by omega)]
      unfold tmax
      split<;>omega
    have eL:=q3uj d hd hok hn hdd ha hb hN (by omega) hLG hP e3' hm d 0 (by omega) (Nat.zero_le _)
    simp only [q399,q36v,q371,q375,q379,q37d,q37h,q37l,q37p,q37r,q37v,q37z,Dt.eval,ea,e0,Bool.not_true,cond_false,e1,e2,show ((0:Int) != 0)=false from rfl,c1,c2]
    exact eL
-- greater distances
theorem q3um {f1 f2:Dii→Bool}:∀ (r:List (Dii×Di)) (xs:List (List Di)) (y:List Di) (us:List (List Di)) (v:List Di) (P:List (List (List Di))) (cur:List (List Di)),(∀ z∈r,f2 z.1=true→f1 z.1=true)→P.flatten++cur=xs→P.map List.flatten=us→cur.flatten++y=v →
    ∃ Q:List (List (List Di)),Q.flatten=grp xs y (r.map fun z=>(f1 z.1,z.2))∧Q.map List.flatten=grp us v (r.map fun z=>(f2 z.1,z.2))
  | [], xs, y, us, v, P, cur, _, h1, h2, h3 => by
    refine ⟨P ++ [cur ++ [y]],?_,?_⟩
    · show (P ++ [cur ++ [y]]).flatten = xs ++ [y]
      rw [← h1];simp
    · show (P ++ [cur ++ [y]]).map List.flatten = us ++ [v]
      rw [← h2,← h3];simp
  | z :: r, xs, y, us, v, P, cur, hz, h1, h2, h3 => by
    have hr:=fun w hw=>hz w (List.mem_cons_of_mem _ hw)
    rw [List.map_cons,List.map_cons]
    unfold grp
    cases k1:f1 z.1 with
    | false =>
      have k2:f2 z.1=false:=by
        cases h:f2 z.1 with
        | false=>rfl
        | true=>rw [hz z (List.mem_cons_self ..) h] at k1;cases k1
      simp only [k2,Bool.false_eq_true,if_false]
      exact q3um r xs (y ++ [z.2]) us (v ++ [z.2]) P cur hr h1 h2 (by rw [← h3,List.append_assoc])
    | true =>
      cases k2:f2 z.1 with
      | false =>
        simp only [if_true,Bool.false_eq_true,if_false]
        exact q3um r (xs ++ [y]) [z.2] us (v ++ [z.2]) P (cur ++ [y]) hr (by rw [← h1,List.append_assoc]) h2 (by rw [← h3];simp)
      | true =>
        simp only [if_true]
        exact q3um r (xs ++ [y]) [z.2] (us ++ [v]) [z.2] (P ++ [cur ++ [y]]) [] hr (by rw [← h1];simp) (by rw [← h2,← h3];simp) (by simp)
theorem q3un {α β γ:Type} (f:α→γ):∀ (xs:List α) (ys:List β),(xs.map f).zip ys=(xs.zip ys).map fun z=>(f z.1,z.2)
  | [],_=>by simp
  | _ :: _,[]=>by simp
  | x :: xs,y :: ys=>by rw [List.map_cons,List.zip_cons_cons,List.zip_cons_cons,List.map_cons,q3un f xs ys]
theorem q3uo {L:List Di} {G:List Dii} {a b a' b':Int} (h:∀ g∈G,gtD a' b' g=true→gtD a b g=true):∃ Q:List (List (List Di)),Q.flatten=ofG L G a b∧Q.map List.flatten=ofG L G a' b':=by
  cases L with
  | nil=>exact ⟨[],rfl,rfl⟩
  | cons x r =>
    have:=q3um (f1:=gtD a b) (f2:=gtD a' b') (G.zip r) [] [x] [] [x] [] [] (fun z hz=>h z.1 (List.of_mem_zip hz).1) rfl rfl rfl
    rw [← q3un,← q3un] at this
    exact this
theorem q3up {α:Type}:∀ {P:List (List α)} {g:List α},g∈P→g.length≤P.flatten.length∧∀ x∈g,x∈P.flatten
  | [],g,h=>absurd h List.not_mem_nil
  | p :: P, g, h => by
    rw [List.flatten_cons,List.length_append]
    rcases List.mem_cons.1 h with rfl | h
    · exact ⟨by omega,fun x hx=>List.mem_append_left _ hx⟩
    · have := q3up h
      exact ⟨by omega,fun x hx=>List.mem_append_right _ (this.2 x hx)⟩
theorem q3uq:∀ (hs:List DLiE) (k:Nat) (h:DLiE) (x y:Di),((allF hs).map Prod.fst).Nodup→h∈hs→x∈h.1→y∈h.1→fstI (fun g:DLiE=>hasI x.1 g.1) hs k=fstI (fun g:DLiE=>hasI y.1 g.1) hs k
  | [],k,h,x,y,_,hh,_,_=>absurd hh List.not_mem_nil
  | g :: r, k, h, x, y, hn, hh, hx, hy => by
    have hn':(g.1.map Prod.fst++(allF r).map Prod.fst).Nodup:=by rw [← List.map_append];exact hn
    unfold fstI
    rcases List.mem_cons.1 hh with rfl | hh
    · rw [if_pos (q3tw hx),if_pos (q3tw hy)]
    · have hno:∀ z∈h.1,hasI z.1 g.1=false:=fun z hz=>by
        cases hc:hasI z.1 g.1 with
        | false=>rfl
        | true =>
          obtain ⟨w,hw,e⟩:=q3tx hc
          rw [List.nodup_append] at hn'
          have hzr:z∈allF r:=List.mem_flatten.2 ⟨h.1,List.mem_map_of_mem hh,hz⟩
          exact absurd e (hn'.2.2 w.1 (List.mem_map_of_mem hw) z.1 (List.mem_map_of_mem hzr))
      rw [if_neg (by rw [hno x hx];simp),if_neg (by rw [hno y hy];simp)]
      exact q3uq r (k+1) h x y (List.nodup_append.1 hn').2.1 hh hx hy
theorem q3ur (d:Nat) {gs:List DLiE} {l:List T3} {n dd a b a' b':Int} (self1:(Bool×List DLiE×Int×List Diii×Int×Int×Int×Int×Int×Int)→Option q39d) {i:Nat} {g:DLiE} (hg:gs[i]?=some g) (hi2:i<100000) (hgl:g.1.length≤1000) {x0:Di} (h0:g.1[0]?=some x0)
    (hT:∀ y∈g.1,q2aq d ((l,()),(n,dd,()),(a',b',()),(x0.1,()),(y.1,()),())=some (true,0)):∀ (f k:Nat),g.1.length - k<f→k≤g.1.length →
    iter (q3b9 d self1) f (true,gs,(i:Int),(k:Int),l,n,dd,a,b,a',b')=self1 (true,gs,((i+1:Nat):Int),l,n,dd,a,b,a',b')
  | 0,k,hf,_=>by omega
  | f + 1, k, hf, hk => by
    have ih:=q3ur d (a:=a) (b:=b) self1 hg hi2 hgl h0 hT f (k+1)
    rw [iter]
    revert ih
    generalize iter (q3b9 d self1) f=self
    intro ih
    unfold q3b9
    have hil:i<gs.length:=(List.getElem?_eq_some_iff.1 hg).1
    have h00:0<g.1.length:=(List.getElem?_eq_some_iff.1 h0).1
    have z1:inB (0:Int) g.1.length=true:=q3ft (k:=0) h00
    have z2:elt zi g.1 (0:Int).toNat=x0:=q3fs (k:=0) h0
    by_cases hlt:k<g.1.length
    · obtain ⟨y, hy⟩ : ∃ y, g.1[k]? = some y := ⟨_, List.getElem?_eq_getElem hlt⟩
      have e:=hT y (List.mem_of_getElem? hy)
      simp only [q3at,q3b5,q3ax,q3b1,q3b3,Dt.eval,q39h,q3ft hil,q3fs hg,cond_true,q3fu hlt,z1,z2,q3ft hlt,q3fs hy,e,show ((0:Int) != 0)=false from rfl,cond_false,Bool.not_true,q3fr (show k<1000000 by omega)]
      exact ih (by omega) (by omega)
    · simp only [q3at,q3b7,Dt.eval,q3ft hil,q3fs hg,cond_true,q3fv hlt,cond_false,q3fr (show i<1000000 by omega)]
theorem q3us (d:Nat) (hd:5000≤d) {gs:List DLiE} {l:List T3} {n dd a b a' b':Int} (hgl:gs.length≤64) (hgm:∀ g∈gs,g.1 ≠ []∧g.1.length≤1000) (hT:∀ g∈gs,∀ x∈g.1,∀ y∈g.1,q2aq d ((l,()),(n,dd,()),(a',b',()),(x.1,()),(y.1,()),())=some (true,0))
    {w1 w2:List Di×Int} (e1:q2cg d ((l,()),(n,dd,()),(a,b,()),())=some w1) (e2:q2cg d ((l,()),(n,dd,()),(a',b',()),())=some w2) (hw:(l=[]∧w1.2=42∧w2.2=42)∨(l ≠ []∧w1.2=0∧w2.2=0∧w1.1.length≤w2.1.length)):∀ (f i:Nat),gs.length - i<f→i≤gs.length →
    iter (q3bk d) f (true,gs,(i:Int),l,n,dd,a,b,a',b')=some true
  | 0,i,hf,_=>by omega
  | f + 1, i, hf, hi => by
    have ih:=q3us d hd hgl hgm hT e1 e2 hw f (i+1)
    rw [iter]
    revert ih
    generalize iter (q3bk d) f=self
    intro ih
    unfold q3bk
    by_cases hlt:i<gs.length
    · obtain ⟨g, hg⟩ : ∃ g, gs[i]? = some g := ⟨_, List.getElem?_eq_getElem hlt⟩
      have hgG:=List.mem_of_getElem? hg
      obtain ⟨hgn,hg1⟩:=hgm g hgG
      have hpos:0<g.1.length:=List.length_pos_iff.2 hgn
      obtain ⟨x0,h0⟩:∃ x,g.1[0]?=some x:=⟨_,List.getElem?_eq_getElem hpos⟩
      have e:=q3ur d (l:=l) (n:=n) (dd:=dd) (a:=a) (b:=b) self hg (by omega) hg1 h0 (fun y hy=>hT g hgG x0 (List.mem_of_getElem? h0) y hy) d 1 (by omega) (by omega)
      simp only [q3al,q3ap,Dt.eval,q3fu hlt,cond_true]
      exact e.trans (ih (by omega) (by omega))
    · obtain ⟨w11, w12⟩ := w1
      obtain ⟨w21,w22⟩:=w2
      rcases hw with ⟨k1,k2,k3⟩ | ⟨k1,k2,k3,k4⟩
      · have k2' : w12 = 42 := k2
        have k3':w22=42:=k3
        subst k1 k2' k3'
        simp only [q3al,q3bc,q3bg,q3bi,Dt.eval,q39h,q3fv hlt,cond_false,cond_true,e1,e2,List.length_nil,beq_self_eq_true,show (((0:Nat):Int) == 0)=true from rfl]
      · have k2' : w12 = 0 := k2
        have k3':w22=0:=k3
        subst k2' k3'
        have c1:((l.length:Int) == 0)=false:=by
          have:=List.length_pos_iff.2 k1
          rw [beq_eq_false_iff_ne];omega
        have c2:decide ((w11.length:Int)≤(w21.length:Int))=true:=decide_eq_true (by have:w11.length≤w21.length:=k4;omega)
        simp only [q3al,q3bc,q3bg,q3bi,Dt.eval,q39h,q3fv hlt,cond_false,cond_true,e1,e2,c1,beq_self_eq_true,c2]
theorem q3ut:∀ (r:List DLiE) (g:List Di),(∀ x∈r,x.1.length≤(lrg g r).length)∧g.length≤(lrg g r).length∧(lrg g r=g ∨ ∃ x∈r,lrg g r=x.1)
  | [],g=>⟨fun x h=>absurd h List.not_mem_nil,Nat.le_refl _,.inl rfl⟩
  | x :: r, g => by
    unfold lrg
    by_cases h:g.length<x.1.length
    · rw [if_pos h]
      obtain ⟨i1,i2,i3⟩:=q3ut r x.1
      refine ⟨fun y hy=>?_,by omega,.inr ?_⟩
      · rcases List.mem_cons.1 hy with rfl | hy
        · exact i2
        · exact i1 y hy
      · rcases i3 with k | ⟨y, hy, k⟩
        · exact ⟨x,List.mem_cons_self ..,k⟩
        · exact ⟨y,List.mem_cons_of_mem _ hy,k⟩
    · rw [if_neg h]
      obtain ⟨i1,i2,i3⟩:=q3ut r g
      refine ⟨fun y hy=>?_,i2,?_⟩
      · rcases List.mem_cons.1 hy with rfl | hy
        · omega
        · exact i1 y hy
      · rcases i3 with k | ⟨y, hy, k⟩
        · exact .inl k
        · exact .inr ⟨y,List.mem_cons_of_mem _ hy,k⟩
theorem q3uu {gs:List (List Di)} (h:gs ≠ []):∃ x,q3oc (ql (e:=Ri) gs,0)=(x,0)∧x∈gs∧∀ g∈gs,g.length≤x.length:=by
  cases gs with
  | nil=>exact absurd rfl h
  | cons g r =>
    obtain ⟨i1,i2,i3⟩:=q3ut (ql (e:=Ri) r) g
    refine ⟨lrg g (ql (e:=Ri) r),rfl,?_,fun z hz=>?_⟩
    · rcases i3 with k | ⟨y, hy, k⟩
      · rw [k];exact List.mem_cons_self ..
      · rw [k];exact List.mem_cons_of_mem _ (q3o8 hy)
    · rcases List.mem_cons.1 hz with rfl | hz
      · exact i2
      · exact i1 ((z,()):DLiE) (List.mem_map.2 ⟨z,hz,rfl⟩)
theorem q3uv (d:Nat) (hd:5000≤d) (ea:q31v d ()=some true) (l:List T3) (n dd a b a' b':Int) (hn:i64B n=true) (hdd:i64B dd=true) (ha:i64B a=true) (hb:i64B b=true) (ha':i64B a'=true) (hb':i64B b'=true):q3bl d ((l,()),(n,dd,()),(a,b,()),(a',b',()),())=some true:=by
  obtain ⟨v,e0,hv⟩:=q3tm d l hn hdd ha hb
  obtain ⟨v',e0',hv'⟩:=q3tm d l hn hdd ha' hb'
  have ec:=q3el d a b a' b' ha hb ha' hb'
  cases v with
  | false=>simp only [q3bl,q39h,q39n,q39r,q39v,q39z,Dt.eval,ea,e0,Bool.not_false,cond_true]
  | true =>
    cases v' with
    | false=>simp only [q3bl,q39h,q39n,q39r,q39v,q39z,Dt.eval,ea,e0,e0',Bool.not_false,Bool.not_true,cond_false,cond_true]
    | true =>
      by_cases hcmp:cmpQ a b a' b' > 0
      · simp only [q3bl,q39h,q39n,q39r,q39v,q39z,Dt.eval,ea,e0,e0',ec,decide_eq_true hcmp,Bool.not_true,cond_false,cond_true]
      · have hA := hv rfl
        have hA':=hv' rfl
        obtain ⟨hok,h0,hr,hG⟩:=hA.ok
        have e1:=q3mz d hd hA.len hn hdd ha hb
        have e2:=q3mz d hd hA.len hn hdd ha' hb'
        have e3:=q3of d hd hA.len hn hdd ha hb
        have e4:=q3of d hd hA.len hn hdd ha' hb'
        rw [hA.ofW] at e1 e3
        rw [hA'.ofW] at e2 e4
        have hl64:=hok.len
        have hN:=q3su hok hr hG
        obtain ⟨q1,q2⟩:=q3tc l n dd
        have hle:a*b'≤a'*b:=by rw [q3sj] at hcmp;omega
        have hmono:∀ g∈(gpL n dd (ordT l n dd)).map dU,gtD a' b' g=true→gtD a b g=true:=fun g hg h=>by
          unfold gtD at h ⊢
          rw [decide_eq_true_eq,q3sj] at h ⊢
          exact q3ep (qdt hA.r).1 (qdt hA'.r).1 (den1 (hN.ok g hg).1) hle h
        obtain ⟨Q,hQ1,hQ2⟩:=q3uo (L:=(ordT l n dd).map idU) hmono
        have hQ1':Q.flatten=ofO l n dd a b:=hQ1
        have hQ2':Q.map List.flatten=ofO l n dd a' b':=hQ2
        have hin:∀ g∈ofO l n dd a b,∃ h∈ofO l n dd a' b',g.length≤h.length∧∀ x∈g,x∈h:=fun g hg=>by
          rw [← hQ1'] at hg
          obtain ⟨P,hP,hgP⟩:=List.mem_flatten.1 hg
          obtain ⟨k1,k2⟩:=q3up hgP
          exact ⟨P.flatten,by rw [← hQ2'];exact List.mem_map_of_mem hP,k1,k2⟩
        have hcnt:(ql (e:=Ri) (ofO l n dd a' b')).length≤(ql (e:=Ri) (ofO l n dd a b)).length:=by
          have c1:=q3tg l n dd a b
          have c2:=q3tg l n dd a' b'
          have c3:cntG ((ordT l n dd).map idU) ((gpL n dd (ordT l n dd)).map dU) a' b'≤cntG ((ordT l n dd).map idU) ((gpL n dd (ordT l n dd)).map dU) a b:=by
            unfold cntG
            split
            · exact Nat.le_refl _
            · have := List.countP_mono_left (l := (gpL n dd (ordT l n dd)).map dU) hmono
              omega
          omega
        have hgt:decide (((@List.length DLiE (ql (e:=Ri) (ofO l n dd a' b')):Nat):Int) > ((@List.length DLiE (ql (e:=Ri) (ofO l n dd a b)):Nat):Int))=false:=decide_eq_false (Int.not_lt.2 (Int.ofNat_le.2 hcnt))
        have hlen:=q3o7 l n dd a b
        have hne:=q3o6 l n dd a b
        have hfl:=q3o5 l n dd a b
        have hfl':=q3ts (ofO l n dd a' b')
        rw [q3o5] at hfl'
        have hnd:=q3tz hok n dd
        have hT:∀ g∈ql (e:=Ri) (ofO l n dd a b),∀ x∈g.1,∀ y∈g.1,q2aq d ((l,()),(n,dd,()),(a',b',()),(x.1,()),(y.1,()),())=some (true,0):=fun g hg x hx y hy=>by
          have hgm:=q3o8 hg
          obtain ⟨h,hh,_,hsub⟩:=hin g.1 hgm
          have hxo:x∈(ordT l n dd).map idU:=by rw [← hfl];exact List.mem_flatten.2 ⟨g.1,hgm,hx⟩
          have hyo:y∈(ordT l n dd).map idU:=by rw [← hfl];exact List.mem_flatten.2 ⟨g.1,hgm,hy⟩
          rw [hA'.together d hd hn hdd ha' hb' hxo hyo]
          have e:=q3uq (ql (e:=Ri) (ofO l n dd a' b')) 0 ((h,()):DLiE) x y (by rw [hfl'];exact hnd) (List.mem_map.2 ⟨h,hh,rfl⟩) (hsub x hx) (hsub y hy)
          have e':inV (ql (e:=Ri) (ofO l n dd a' b')) x.1=inV (ql (e:=Ri) (ofO l n dd a' b')) y.1:=e
          rw [e',beq_self_eq_true]
        have hw:(l=[]∧(q3oc (ql (e:=Ri) (ofO l n dd a b),0)).2=42∧(q3oc (ql (e:=Ri) (ofO l n dd a' b'),0)).2=42)∨(l ≠ []∧(q3oc (ql (e:=Ri) (ofO l n dd a b),0)).2=0∧(q3oc (ql (e:=Ri) (ofO l n dd a' b'),0)).2=0∧(q3oc (ql (e:=Ri) (ofO l n dd a b),0)).1.length≤(q3oc (ql (e:=Ri) (ofO l n dd a' b'),0)).1.length):=by
          by_cases hl:l=[]
          · have hle0 := q3o7 l n dd a b
            have hle1:=q3o7 l n dd a' b'
            rw [hl] at hle0 hle1 ⊢
            have z0:ofO [] n dd a b=[]:=List.eq_nil_of_length_eq_zero (by have:=hle0.1;simpa using this)
            have z1:ofO [] n dd a' b'=[]:=List.eq_nil_of_length_eq_zero (by have:=hle1.1;simpa using this)
            rw [z0,z1]
            exact .inl ⟨rfl,rfl,rfl⟩
          · refine .inr ⟨hl, ?_⟩
            have hol:=q3tb l n dd
            have hpos:0<l.length:=List.length_pos_iff.2 hl
            have n0:ofO l n dd a b ≠ []:=fun h=>by
              rw [h] at hfl
              rw [← hfl] at hol
              simp at hol;omega
            have n1:ofO l n dd a' b' ≠ []:=fun h=>by
              have hfl2:=q3o5 l n dd a' b'
              rw [h] at hfl2
              rw [← hfl2] at hol
              simp at hol;omega
            obtain ⟨x,ex,hx,_⟩:=q3uu n0
            obtain ⟨y,ey,_,hy⟩:=q3uu n1
            rw [ex,ey]
            obtain ⟨h,hh,hxh,_⟩:=hin x hx
            exact ⟨rfl,rfl,Nat.le_trans hxh (hy h hh)⟩
        have hsl:(ql (e:=Ri) (ofO l n dd a b)).length≤64:=Nat.le_trans (Nat.le_of_eq (qm (e:=Ri) (ofO l n dd a b))) (Nat.le_trans hlen.1 hl64)
        have eL:=q3us d hd hsl (fun g hg=>⟨hne _ (q3o8 hg),Nat.le_trans (hlen.2 _ (q3o8 hg)) hA.len⟩) hT e3 e4 hw d 0 (by have:(ql (e:=Ri) (ofO l n dd a b)).length≤64:=hsl;exact Nat.lt_of_le_of_lt (Nat.sub_le _ _) (Nat.lt_of_le_of_lt this (by omega))) (Nat.zero_le _)
        simp only [q3bl,q39h,q39n,q39r,q39v,q39z,q3a3,q3a7,q3ab,q3ad,q3ah,Dt.eval,ea,e0,e0',ec,decide_eq_false hcmp,Bool.not_true,cond_false,e1,e2,show ((0:Int) != 0)=false from rfl,hgt]
        exact eL
end Go.Proofs.YtbjpmdhdoggobaaGreat
