/- Walks of the references; the orders agree; examples. -/
import Derived.Test.YtbjpmdhdoggobaaGreatGk
set_option linter.unusedSimpArgs false
set_option linter.unusedVariables false
namespace Go.Proofs.YtbjpmdhdoggobaaGreat
open Go Go.Tx Go.Pel
structure AskT (l:List T3) (n dd a b:Int):Prop where
  len:l.length≤1000
  tm:qrq (ptsL l) n dd=0
  n1:n.natAbs≤1073741824
  d1:dd≤1024
  r:qdm a b=0
  nn:0≤a
theorem q3tm (d:Nat) (l:List T3) {n dd a b:Int} (hn:i64B n=true) (hdd:i64B dd=true) (ha:i64B a=true) (hb:i64B b=true):∃ v,q33b d ((l,()),(n,dd,()),(a,b,()),())=some v∧(v=true→AskT l n dd a b):=by
  obtain ⟨g,e0,hs⟩:=q3nk d l
  cases g with
  | true=>exact ⟨false,by simp only [q33b,q32z,q335,q339,Dt.eval,e0,Bool.not_true,cond_false],fun h=>by cases h⟩
  | false =>
    replace hs:=hs rfl
    have e1:=q3ml d hs.1 hn hdd
    obtain ⟨v2,e2,h2⟩:=q3se d hn hdd
    have e3:=q3fx d ha hb
    by_cases h1:qrq (ptsL l) n dd=0
    · by_cases k2 : v2 = 0
      · by_cases k3 : qdm a b = 0
        · by_cases k4 : a ≥ 0
          · refine ⟨true, ?_, fun _ => ⟨hs.1, h1, (h2 k2).2.1, (h2 k2).2.2, k3, k4⟩⟩
            simp only [q33b,q32z,q335,q339,Dt.eval,e0,Bool.not_false,cond_true,e1,h1,e2,k2,e3,k3,beq_self_eq_true,decide_eq_true k4]
          · refine ⟨false, ?_, fun h => by cases h⟩
            simp only [q33b,q32z,q335,q339,Dt.eval,e0,Bool.not_false,cond_true,e1,h1,e2,k2,e3,k3,beq_self_eq_true,decide_eq_false k4]
        · refine ⟨false, ?_, fun h => by cases h⟩
          simp only [q33b,q32z,q335,q339,Dt.eval,e0,Bool.not_false,cond_true,cond_false,e1,h1,e2,k2,e3,beq_self_eq_true,show (qdm a b == 0)=false by simpa using k3]
      · refine ⟨false, ?_, fun h => by cases h⟩
        simp only [q33b,q32z,q335,q339,Dt.eval,e0,Bool.not_false,cond_true,cond_false,e1,h1,e2,beq_self_eq_true,show (v2 == 0)=false by simpa using k2]
    · refine ⟨false, ?_, fun h => by cases h⟩
      simp only [q33b,q32z,q335,q339,Dt.eval,e0,Bool.not_false,cond_true,cond_false,e1,show (qrq (ptsL l) n dd == 0)=false by simpa using h1]
theorem q3tn {n dd:Int} (hr:qdm n dd=0) (h1:n.natAbs≤1073741824) (h2:dd≤1024):∀ {O:List T3},(∀ p∈O,okP p)→plE n dd O=true∧gpE n dd O=true
  | [],_=>⟨rfl,rfl⟩
  | [p], hO => by
    have hp:=hO p (List.mem_cons_self ..)
    have e:=(q3ma hp hr).1 (q3s2 hp hp hr (by omega) (by omega)).2
    refine ⟨?_,rfl⟩
    unfold plE
    rw [List.all_cons,e];rfl
  | p :: q :: r, hO => by
    have hp:=hO p (List.mem_cons_self ..)
    have hq:=hO q (List.mem_cons_of_mem _ (List.mem_cons_self ..))
    obtain ⟨i1,i2⟩:=q3tn hr h1 h2 (O:=q :: r) fun x hx=>hO x (List.mem_cons_of_mem _ hx)
    have e:=(q3ma hp hr).1 (q3s2 hp hp hr (by omega) (by omega)).2
    have e':=(q3ma hq hr).1 (q3s2 hq hq hr (by omega) (by omega)).2
    have e2:=(q3s2 hp hq hr (by omega) (by omega)).2
    rw [q3m7 e e'] at e2
    constructor
    · unfold plE at i1 ⊢
      rw [List.all_cons,e,i1];rfl
    · unfold gpE at i2 ⊢
      unfold gpL
      rw [List.all_cons,e2,i2];rfl
theorem AskT.ok {l:List T3} {n dd a b:Int} (h:AskT l n dd a b):FldOk l∧qgo (ptsL l)=0∧qdm n dd=0∧GapOk l n dd:=by
  obtain ⟨h1,h2,h3⟩:=q3mf h.tm
  have:=q3tn h3 h.n1 h.d1 (O:=ordT l n dd) fun p hp=>h1.ok p ((q3lw l n dd).mem_iff.1 hp)
  exact ⟨h1,h2,h3,this.1,this.2⟩
theorem GapOk.err {l:List T3} {n dd:Int} (h:GapOk l n dd):(q3m1 l n dd).2.2=0:=by rw [q3mw h]
theorem AskT.ofW {l:List T3} {n dd a b:Int} (h:AskT l n dd a b):ofW l n dd a b=(ql (e:=Ri) (ofO l n dd a b),0):=q3tf h.tm h.ok.2.2.2.err h.r h.nn
theorem AskT.gaps {l:List T3} {n dd a b:Int} (h:AskT l n dd a b):q3me l n dd=((gpL n dd (ordT l n dd)).map dU,0):=by
  unfold q3me
  rw [if_neg (by simpa using h.tm),q3mw h.ok.2.2.2]
theorem AskT.order (d:Nat) {l:List T3} {n dd a b:Int} (h:AskT l n dd a b) (hn:i64B n=true) (hdd:i64B dd=true):qvn d ((l,()),(n,dd,()),())=some ((ordT l n dd).map idU,0):=by
  obtain ⟨h1,h2,h3,_⟩:=h.ok
  rw [← q3lx]
  exact q3hi d h1.len h2 hn hdd h3
-- the least distance
theorem q3to (d:Nat) (hd:5000≤d) {l:List T3} {n dd k v1 v2:Int} (hv1:i64B v1=true) (hv2:i64B v2=true) {A:List Dii} (hA:∀ x∈A,qdm x.1 x.2.1=0∧i64B x.1=true∧i64B x.2.1=true∧0≤x.1) (hlen:A.length≤1000)
    (hc:∀ x∈A,cmpQ x.1 x.2.1 v1 v2<0→∃ m,q24r d ((l,()),(n,dd,()),(x.1,x.2.1,()),())=some (m,0)∧¬ m≤k):∀ (f i:Nat) (is:Bool),A.length - i<f→i≤A.length →
    iter (q3e8 d) f (k,true,is,(i:Int),l,n,dd,v1,v2,A)=some (is || (A.drop i).any fun x=>x.1 == v1&&(x.2.1 == v2&&true))
  | 0,i,is,hf,_=>by omega
  | f + 1, i, is, hf, hi => by
    have ih:=q3to d hd hv1 hv2 hA hlen hc f (i+1)
    rw [iter]
    revert ih
    generalize iter (q3e8 d) f=self
    intro ih
    unfold q3e8 q3e5
    by_cases hlt:i<A.length
    · obtain ⟨x, hx⟩ : ∃ x, A[i]? = some x := ⟨_, List.getElem?_eq_getElem hlt⟩
      have hxA:=List.mem_of_getElem? hx
      obtain ⟨x1,x2,x3,x4⟩:=hA x hxA
      have e1:=q3fx d x2 x3
      rw [x1] at e1
      have e2:=q3el d x.1 x.2.1 v1 v2 x2 x3 hv1 hv2
      have w:=q3fr (show i<1000000 by omega)
      have c1:decide (x.1<0)=false:=decide_eq_false (by omega)
      rw [q3fw hx,List.any_cons]
      have fin:∀ is':Bool,is'=(is || (x.1 == v1&&(x.2.1 == v2&&true)))→self (k,true,is',((i+1:Nat):Int),l,n,dd,v1,v2,A)=some (is || ((x.1 == v1&&(x.2.1 == v2&&true)) || (A.drop (i+1)).any fun x=>x.1 == v1&&(x.2.1 == v2&&true))):=fun is' he=>by
        rw [ih is' (by omega) (by omega),he,Bool.or_assoc]
      by_cases h1:cmpQ x.1 x.2.1 v1 v2<0
      · obtain ⟨m, e3, h3⟩ := hc x hxA h1
        cases is with
        | true =>
          simp only [q3df,q3e3,q3dj,q3dl,q3dn,q3dr,q3dv,q3dz,q3e1,Dt.eval,q3bt,q3fu hlt,cond_true,cond_false,q3ft hlt,q3fs hx,e1,show ((0:Int) != 0)=false from rfl,c1,e2,decide_eq_true h1,e3,decide_eq_false h3,w]
          exact fin true rfl
        | false =>
          simp only [q3df,q3e3,q3dj,q3dl,q3dn,q3dr,q3dv,q3dz,q3e1,Dt.eval,q3bt,q3fu hlt,cond_true,cond_false,q3ft hlt,q3fs hx,e1,show ((0:Int) != 0)=false from rfl,c1,e2,decide_eq_true h1,e3,decide_eq_false h3,w]
          exact fin _ rfl
      · cases is with
        | true =>
          simp only [q3df,q3e3,q3dj,q3dl,q3dn,q3dr,q3dv,q3dz,q3e1,Dt.eval,q3bt,q3fu hlt,cond_true,cond_false,q3ft hlt,q3fs hx,e1,show ((0:Int) != 0)=false from rfl,c1,e2,decide_eq_false h1,w]
          exact fin true rfl
        | false =>
          simp only [q3df,q3e3,q3dj,q3dl,q3dn,q3dr,q3dv,q3dz,q3e1,Dt.eval,q3bt,q3fu hlt,cond_true,cond_false,q3ft hlt,q3fs hx,e1,show ((0:Int) != 0)=false from rfl,c1,e2,decide_eq_false h1,w]
          exact fin _ rfl
    · rw [List.drop_eq_nil_of_le (by omega)]
      simp only [q3df,q3e3,q3dj,q3dl,q3dn,q3dr,q3dv,q3dz,q3e1,q3e6,Dt.eval,q3fv hlt,cond_false,cond_true,List.any_nil,Bool.or_false]
theorem q3tp (d:Nat) (n:Int):q30h d ((n,()),())=some (n,1):=by simp only [q30h,q305,q30b,q30f,Dt.eval]
theorem q3tq (d:Nat) (hd:5000≤d) (ea:q31v d ()=some true) (l:List T3) (n dd k:Int) (hn:i64B n=true) (hdd:i64B dd=true):q3e9 d ((l,()),(n,dd,()),(k,()),())=some true:=by
  have ew:=q3tp d 0
  obtain ⟨v,e0,hv⟩:=q3tm d l (a:=0) (b:=1) hn hdd rfl rfl
  cases v with
  | false=>simp only [q3e9,q3bt,q3bz,q3c3,q3c7,q3cb,Dt.eval,ea,ew,e0,Bool.not_false,cond_true]
  | true =>
    have hA:=hv rfl
    by_cases hk:k<1
    · simp only [q3e9,q3bt,q3bz,q3c3,q3c7,q3cb,Dt.eval,ea,ew,e0,Bool.not_true,cond_false,decide_eq_true hk,cond_true]
    · obtain ⟨hok, h0, hr, hG⟩ := hA.ok
      have e1:=q3td d hd hA.len hn hdd k
      have e2:=q3mi d hd hA.len hn hdd
      rw [hA.gaps] at e2
      have hl:q3t9 l n dd k=((q3t3 ((gpL n dd (ordT l n dd)).map dU) k).1,(q3t3 ((gpL n dd (ordT l n dd)).map dU) k).2,0):=by
        unfold q3t9
        rw [if_neg (by simpa using hA.tm),if_neg (by simpa using hG.err),if_neg hk]
      rw [hl] at e1
      have hN:=q3su hok hr hG
      have hgl:=q3ta l n dd
      have hl64:=hok.len
      obtain ⟨q1,q2⟩:=q3tc l n dd
      obtain ⟨⟨x,hx,ex⟩,s2,s3⟩:=q3t7 q1 q2 hN (n:=k) (by omega)
      have hAll:∀ x∈((0,1,()):Dii) :: (gpL n dd (ordT l n dd)).map dU,qdm x.1 x.2.1=0∧i64B x.1=true∧i64B x.2.1=true∧0≤x.1:=fun x hx=>by
        rcases List.mem_cons.1 hx with rfl | hx
        · exact ⟨rfl,rfl,rfl,Int.le_refl _⟩
        · have:=hN.ok x hx;exact ⟨this.1,this.2.1,this.2.2,hN.nn x hx⟩
      have hcnt:∀ x∈((0,1,()):Dii) :: (gpL n dd (ordT l n dd)).map dU,q24r d ((l,()),(n,dd,()),(x.1,x.2.1,()),())=some ((cntG ((ordT l n dd).map idU) ((gpL n dd (ordT l n dd)).map dU) x.1 x.2.1:Int),0):=fun x hx=>by
        obtain ⟨a1,a2,a3,a4⟩:=hAll x hx
        rw [q3n1 d hd hA.len hn hdd a2 a3,q3tf hA.tm hG.err a1 a4]
        show some (((ql (e:=Ri) (ofO l n dd x.1 x.2.1)).length:Int),(0:Int))=_
        rw [q3tg]
      obtain ⟨y1,y2,y3,y4⟩:=hAll x hx
      rw [ex] at e1 s2 s3
      have e3:=hcnt x hx
      have e4:=q3fx d y2 y3
      rw [y1] at e4
      have c1:decide (x.1<0)=false:=decide_eq_false (by omega)
      have c2:decide ((cntG ((ordT l n dd).map idU) ((gpL n dd (ordT l n dd)).map dU) x.1 x.2.1:Int) > k)=false:=decide_eq_false (by simp only at s2;omega)
      have eL:=q3to d hd (l:=l) (n:=n) (dd:=dd) (k:=k) y2 y3 hAll (by rw [List.length_cons];omega) (fun z hz hlt=>⟨_,hcnt z hz,fun hle=>by
        have:=s3 z hz hle
        have h2:=q3si.1 hlt
        have h3:x.1*z.2.1≤z.1*x.2.1:=this
        omega⟩) d 0 false (by rw [List.length_cons];omega) (Nat.zero_le _)
      have hany:((((0,1,()):Dii) :: (gpL n dd (ordT l n dd)).map dU).any fun z=>z.1 == x.1&&(z.2.1 == x.2.1&&true))=true:=by
        rw [List.any_eq_true]
        exact ⟨x,hx,by simp only [beq_self_eq_true,Bool.and_self]⟩
      rw [List.drop_zero,hany,Bool.or_true] at eL
      have hap:apB 1 ((gpL n dd (ordT l n dd)).map dU).length=true:=q3mp (by omega)
      revert e1 e2 e3 eL hap c2
      generalize (cntG ((ordT l n dd).map idU) ((gpL n dd (ordT l n dd)).map dU) x.1 x.2.1:Int)=m
      generalize (gpL n dd (ordT l n dd)).map dU=G
      intro e1 e2 e3 c2 eL hap
      simp only [q3e9,q3bt,q3bz,q3c3,q3c7,q3cb,q3cf,q3cj,q3cn,q3cp,q3ct,q3cx,q3cz,q3d3,q3d7,q3db,Dt.eval,ea,ew,e0,Bool.not_true,cond_false,decide_eq_false hk,e1,e2,show ((0:Int) != 0)=false from rfl,e4,c1,e3,c2,List.length_cons,List.length_nil,Nat.zero_add,hap,cond_true,List.cons_append,List.nil_append]
      exact eL
theorem q3tr:q31v 5001 ()=some true:=by kernel_rfl
-- classes
def clsF:List DLiE→Nat→List Di
  | [],_=>[]
  | g :: r,k=>List.replicate g.1.length (((k:Int),()):Di)++clsF r (k+1)
def allF (gs:List DLiE):List Di:=(gs.map fun g=>g.1).flatten
theorem q3ts:∀ gs:List (List Di),allF (ql (e:=Ri) gs)=gs.flatten
  | []=>rfl
  | g :: r=>congrArg (g ++ ·) (q3ts r)
theorem q3tt:∀ (gs:List DLiE) (k:Nat),(clsF gs k).length=(allF gs).length
  | [],_=>rfl
  | g :: r, k => by
    show (List.replicate _ _++_).length=(g.1++allF r).length
    rw [List.length_append,List.length_append,List.length_replicate,q3tt r]
theorem q3tu:∀ (gs:List DLiE) (g:DLiE) (k:Nat),clsF (gs ++ [g]) k=clsF gs k++List.replicate g.1.length ((((k+gs.length:Nat):Int),()):Di)
  | [],g,k=>by show _ ++ []=[] ++ _;simp
  | h :: r, g, k => by
    show List.replicate _ _++clsF (r ++ [g]) (k+1)=(List.replicate _ _++clsF r (k+1))++_
    rw [q3tu r g (k+1),List.append_assoc,List.length_cons,show k+1+r.length=k+(r.length+1) by omega]
theorem q3tv (gs:List DLiE) (g:DLiE):allF (gs ++ [g])=allF gs++g.1:=by unfold allF;simp
theorem q3tw {x:Di} {g:List Di} (h:x∈g):hasI x.1 g=true:=by
  unfold hasI;rw [List.any_eq_true];exact ⟨x,h,by simp⟩
theorem q3tx {id:Int} {g:List Di} (h:hasI id g=true):∃ x∈g,x.1=id:=by
  unfold hasI at h;rw [List.any_eq_true] at h
  obtain ⟨x,hx,e⟩:=h
  exact ⟨x,hx,by rw [beq_iff_eq] at e;exact e.symm⟩
theorem q3ty:∀ (gs:List DLiE) (k i:Nat) (x c:Di),((allF gs).map Prod.fst).Nodup→(allF gs)[i]?=some x→(clsF gs k)[i]?=some c→fstI (fun g:DLiE=>hasI x.1 g.1) gs k=c.1
  | [],k,i,x,c,_,h,_=>by simp [allF] at h
  | g :: r, k, i, x, c, hn, hx, hc => by
    have hn':(g.1.map Prod.fst++(allF r).map Prod.fst).Nodup:=by rw [← List.map_append];exact hn
    have hx':(g.1++allF r)[i]?=some x:=hx
    have hc':(List.replicate g.1.length (((k:Int),()):Di)++clsF r (k+1))[i]?=some c:=hc
    unfold fstI
    by_cases hi:i<g.1.length
    · rw [List.getElem?_append_left hi] at hx'
      rw [List.getElem?_append_left (by rw [List.length_replicate];exact hi),List.getElem?_replicate,if_pos hi] at hc'
      injection hc' with hc'
      rw [if_pos (q3tw (List.mem_of_getElem? hx')),← hc']
    · rw [List.getElem?_append_right (by omega)] at hx'
      rw [List.getElem?_append_right (by rw [List.length_replicate];omega),List.length_replicate] at hc'
      have hno:hasI x.1 g.1=false:=by
        cases h:hasI x.1 g.1 with
        | false=>rfl
        | true =>
          obtain ⟨y,hy,e⟩:=q3tx h
          rw [List.nodup_append] at hn'
          exact absurd e (hn'.2.2 y.1 (List.mem_map_of_mem hy) x.1 (List.mem_map_of_mem (List.mem_of_getElem? hx')))
      rw [if_neg (by rw [hno];simp)]
      exact q3ty r (k+1) _ x c (List.nodup_append.1 hn').2.1 hx' hc'
theorem q3tz {l:List T3} (h:FldOk l) (n dd:Int):(((ordT l n dd).map idU).map Prod.fst).Nodup:=by
  rw [List.map_map,List.Nodup,List.pairwise_map]
  exact (q3ly h n dd).imp fun {a b} hab=>hab.1
theorem q3u0 {α:Type} {p:α→Bool} {l:List α} {x:α} (hx:x∈l) (h:p x=true) (k:Nat):0≤fstI p l k:=by
  have:=q3nq (p:=p) l k
  rw [List.any_eq_true.2 ⟨x,hx,h⟩] at this
  exact of_decide_eq_true this
theorem AskT.together (d:Nat) (hd:5000≤d) {l:List T3} {n dd a b:Int} (h:AskT l n dd a b) (hn:i64B n=true) (hdd:i64B dd=true) (ha:i64B a=true) (hb:i64B b=true) {x y:Di} (hx:x∈(ordT l n dd).map idU) (hy:y∈(ordT l n dd).map idU) :
    q2aq d ((l,()),(n,dd,()),(a,b,()),(x.1,()),(y.1,()),())=some (inV (ql (e:=Ri) (ofO l n dd a b)) x.1 == inV (ql (e:=Ri) (ofO l n dd a b)) y.1,0):=by
  rw [q3oa d hd h.len hn hdd ha hb,h.ofW]
  have hin:∀ z:Di,z∈(ordT l n dd).map idU→0≤inV (ql (e:=Ri) (ofO l n dd a b)) z.1:=fun z hz=>by
    rw [← q3o5 l n dd a b] at hz
    obtain ⟨g,hg,hzg⟩:=List.mem_flatten.1 hz
    exact q3u0 (p:=fun g:DLiE=>hasI z.1 g.1) (x:=((g,()):DLiE)) (List.mem_map.2 ⟨g,hg,rfl⟩:((g,()):DLiE)∈ql (e:=Ri) (ofO l n dd a b)) (q3tw hzg) 0
  unfold togV
  rw [if_neg (by simp), if_neg (by rintro (k | k)
                                   · have:=hin x hx;simp only at k;omega
                                   · have:=hin y hy;simp only at k;omega)]
theorem q3u1 (d:Nat) {ok:Bool} {gs:List DLiE} {l:List T3} {n dd a b:Int} {order:List Di} (self1:(Bool×List DLiE×Int×List Diii×Int×Int×Int×Int×List Di×List Di×List Di)→Option q33f) {i:Nat} {g:DLiE} (hg:gs[i]?=some g) (hi2:i<100000) {all cls:List Di} (h1:all.length+g.1.length≤1000) (h2:cls.length+g.1.length≤1000):∀ (f k:Nat),g.1.length - k<f→k≤g.1.length →
    iter (q35d d self1) f (ok,gs,(i:Int),(k:Int),l,n,dd,a,b,order,all++g.1.take k,cls++List.replicate k (((i:Int),()):Di))=self1 (ok,gs,((i+1:Nat):Int),l,n,dd,a,b,order,all++g.1,cls++List.replicate g.1.length (((i:Int),()):Di))
  | 0,k,hf,_=>by omega
  | f + 1, k, hf, hk => by
    have ih:=q3u1 d (ok:=ok) (l:=l) (n:=n) (dd:=dd) (a:=a) (b:=b) (order:=order) self1 hg hi2 h1 h2 f (k+1)
    rw [iter]
    revert ih
    generalize iter (q35d d self1) f=self
    intro ih
    unfold q35d
    have hil:i<gs.length:=(List.getElem?_eq_some_iff.1 hg).1
    by_cases hlt:k<g.1.length
    · obtain ⟨x, hx⟩ : ∃ x, g.1[k]? = some x := ⟨_, List.getElem?_eq_getElem hlt⟩
      have a1:apB (all++g.1.take k).length 1=true:=q3mp (by rw [List.length_append,List.length_take];omega)
      have a2:apB (cls++List.replicate k (((i:Int),()):Di)).length 1=true:=q3mp (by rw [List.length_append,List.length_replicate];omega)
      have t1:g.1.take (k+1)=g.1.take k ++ [x]:=by rw [List.take_add_one,hx];rfl
      have t2:List.replicate (k+1) (((i:Int),()):Di)=List.replicate k (((i:Int),()):Di) ++ [((i:Int),())]:=List.replicate_succ'
      have hih:=ih (by omega) (by omega)
      rw [t1,t2,← List.append_assoc,← List.append_assoc] at hih
      revert a1 a2 hih
      generalize all++g.1.take k=A
      generalize cls++List.replicate k (((i:Int),()):Di)=B
      intro a1 a2 hih
      simp only [q355,q359,q357,Dt.eval,q3ft hil,q3fs hg,cond_true,q3fu hlt,q3ft hlt,q3fs hx,List.length_cons,List.length_nil,Nat.zero_add,a1,a2,q3fr (show k<1000000 by omega)]
      exact hih
    · have hk' : k = g.1.length := by omega
      rw [hk',List.take_length]
      have hlt':¬ g.1.length<g.1.length:=Nat.lt_irrefl _
      simp only [q355,q35b,Dt.eval,q3ft hil,q3fs hg,cond_true,q3fv hlt',cond_false,q3fr (show i<1000000 by omega)]
theorem q3u2 (d:Nat) (hd:5000≤d) {gs:List DLiE} {l:List T3} {n dd a b:Int} {order:List Di} (ho:allF gs=order) (hlen:order.length≤64) (hgl:gs.length≤64) (hne:∀ g∈gs,g.1 ≠ []) (hfin:iter (q36l d) d (true,0,l,n,dd,a,b,order,clsF gs 0)=some true):∀ (f i:Nat),gs.length - i<f→i≤gs.length →
    iter (q36m d) f (true,gs,(i:Int),l,n,dd,a,b,order,allF (gs.take i),clsF (gs.take i) 0)=some true
  | 0,i,hf,_=>by omega
  | f + 1, i, hf, hi => by
    have ih:=q3u2 d hd ho hlen hgl hne hfin f (i+1)
    rw [iter]
    revert ih
    generalize iter (q36m d) f=self
    intro ih
    unfold q36m
    by_cases hlt:i<gs.length
    · obtain ⟨g, hg⟩ : ∃ g, gs[i]? = some g := ⟨_, List.getElem?_eq_getElem hlt⟩
      have hgn:=hne g (List.mem_of_getElem? hg)
      have hg1:1≤g.1.length:=List.length_pos_iff.2 hgn
      have c0:((g.1.length:Int) == 0)=false:=by rw [beq_eq_false_iff_ne];omega
      have htk:gs.take (i+1)=gs.take i ++ [g]:=by rw [List.take_add_one,hg];rfl
      have hpre:(allF (gs.take i)).length+g.1.length≤64:=by
        have e:allF gs=allF (gs.take (i+1))++allF (gs.drop (i+1)):=by
          unfold allF;rw [← List.flatten_append,← List.map_append,List.take_append_drop]
        rw [htk,q3tv] at e
        rw [← ho,e,List.length_append,List.length_append] at hlen
        omega
      have e2:=q3u1 d (ok:=true) (gs:=gs) (l:=l) (n:=n) (dd:=dd) (a:=a) (b:=b) (order:=order) self hg (by omega) (all:=allF (gs.take i)) (cls:=clsF (gs.take i) 0) (by omega) (by rw [q3tt];omega) d 0 (by omega) (Nat.zero_le _)
      have hih:=ih (by omega) (by omega)
      rw [htk,q3tv,q3tu,List.length_take,Nat.zero_add,Nat.min_eq_left (by omega)] at hih
      rw [List.take_zero,List.append_nil,List.replicate_zero,List.append_nil] at e2
      simp only [q34r,q34v,q34x,q351,Dt.eval,q3fu hlt,cond_true,q3ft hlt,q3fs hg,c0,cond_false]
      exact e2.trans hih
    · have hi' : i = gs.length := by omega
      rw [hi',List.take_length,ho]
      have hlt':¬ gs.length<gs.length:=Nat.lt_irrefl _
      have e:=q3oh d (L:=order) (by omega)
      simp only [q34r,q35g,q35i,q35m,Dt.eval,q33j,q3fv hlt',cond_false,e,Bool.not_true]
      exact hfin
theorem q3u3 (d:Nat) {l:List T3} {n dd a b:Int} {all cls:List Di} {V:Int→Int} (hl:all.length≤64) (hcl:cls.length=all.length) (hT:∀ x∈all,∀ y∈all,q2aq d ((l,()),(n,dd,()),(a,b,()),(x.1,()),(y.1,()),())=some (V x.1 == V y.1,0))
    (hC:∀ (i:Nat) (x c:Di),all[i]?=some x→cls[i]?=some c→V x.1=c.1) (self3:(Bool×Int×List Diii×Int×Int×Int×Int×List Di×List Di)→Option q33f) {i:Nat} (hi:i<all.length):∀ (f k:Nat),all.length - k<f→k≤1000 →
    iter (q36i d self3) f (true,(i:Int),(k:Int),l,n,dd,a,b,all,cls)=self3 (true,((i+1:Nat):Int),l,n,dd,a,b,all,cls)
  | 0,k,hf,_=>by omega
  | f + 1, k, hf, hk => by
    have ih:=q3u3 d hl hcl hT hC self3 hi f (k+(1+all.length / 5))
    rw [iter]
    revert ih
    generalize iter (q36i d self3) f=self
    intro ih
    unfold q36i
    by_cases hlt:k<all.length
    · obtain ⟨x, hx⟩ : ∃ x, all[i]? = some x := ⟨_, List.getElem?_eq_getElem hi⟩
      obtain ⟨y,hy⟩:∃ y,all[k]?=some y:=⟨_,List.getElem?_eq_getElem hlt⟩
      have hi2:i<cls.length:=by omega
      have hk2:k<cls.length:=by omega
      obtain ⟨cx,hcx⟩:∃ c,cls[i]?=some c:=⟨_,List.getElem?_eq_getElem hi2⟩
      obtain ⟨cy,hcy⟩:∃ c,cls[k]?=some c:=⟨_,List.getElem?_eq_getElem hk2⟩
      have e1:=hT x (List.mem_of_getElem? hx) y (List.mem_of_getElem? hy)
      have e2:=hT y (List.mem_of_getElem? hy) x (List.mem_of_getElem? hx)
      rw [hC i x cx hx hcx,hC k y cy hy hcy] at e1 e2
      have hcm:(cy.1 == cx.1)=(cx.1 == cy.1):=BEq.comm
      rw [hcm] at e2
      have w:IntKind.wrap .i64 ((k:Int)+IntKind.wrap .i64 ((1:Int)+IntKind.wrap .i64 (Int.tdiv (all.length:Int) (5:Int))))=((k+(1+all.length / 5):Nat):Int):=by
        have w1:IntKind.wrap .i64 (Int.tdiv (all.length:Int) (5:Int))=((all.length / 5:Nat):Int):=by
          rw [Int.tdiv_eq_ediv_of_nonneg (by omega),IntWalk.i64_in _ (by omega)];omega
        have w2:IntKind.wrap .i64 ((1:Int)+((all.length / 5:Nat):Int))=((1+all.length / 5:Nat):Int):=by
          rw [IntWalk.i64_in _ (by omega)];omega
        rw [w1,w2,IntWalk.i64_in _ (by omega)]
        omega
      have hih:=ih (by omega) (by omega)
      simp only [q35y,q36e,q362,q366,q36a,q36c,Dt.eval,q33j,q3fu hlt,cond_true,cond_false,q3ft hi,q3ft hlt,q3fs hx,q3fs hy,e1,e2,show ((0:Int) != 0)=false from rfl,beq_self_eq_true,Bool.not_true,q3ft hi2,q3ft hk2,q3fs hcx,q3fs hcy,bne_self_eq_false,show ((5:Int) == 0)=false from rfl,w]
      exact hih
    · simp only [q35y,q36g,Dt.eval,q3fv hlt,cond_false,q3fr (show i<1000000 by omega)]
theorem q3u4 (d:Nat) (hd:5000≤d) {l:List T3} {n dd a b:Int} {all cls:List Di} {V:Int→Int} (hl:all.length≤64) (hcl:cls.length=all.length) (hT:∀ x∈all,∀ y∈all,q2aq d ((l,()),(n,dd,()),(a,b,()),(x.1,()),(y.1,()),())=some (V x.1 == V y.1,0))
    (hC:∀ (i:Nat) (x c:Di),all[i]?=some x→cls[i]?=some c→V x.1=c.1):∀ (f i:Nat),all.length - i<f→i≤all.length→iter (q36l d) f (true,(i:Int),l,n,dd,a,b,all,cls)=some true
  | 0,i,hf,_=>by omega
  | f + 1, i, hf, hi => by
    have ih:=q3u4 d hd hl hcl hT hC f (i+1)
    rw [iter]
    revert ih
    generalize iter (q36l d) f=self
    intro ih
    unfold q36l
    by_cases hlt:i<all.length
    · have e := q3u3 d hl hcl hT hC self hlt d 0 (by omega) (by omega)
      simp only [q35q,q35u,Dt.eval,q3fu hlt,cond_true]
      exact e.trans (ih (by omega) (by omega))
    · simp only [q35q,q36j,Dt.eval,q3fv hlt,cond_false]
theorem q3u5 (d:Nat) (hd:5000≤d) (ea:q31v d ()=some true) (l:List T3) (n dd a b:Int) (hn:i64B n=true) (hdd:i64B dd=true) (ha:i64B a=true) (hb:i64B b=true):q36n d ((l,()),(n,dd,()),(a,b,()),())=some true:=by
  obtain ⟨v,e0,hv⟩:=q3tm d l hn hdd ha hb
  cases v with
  | false=>simp only [q36n,q33j,q33p,q33t,q33x,q341,Dt.eval,ea,e0,Bool.not_false,cond_true]
  | true =>
    have hA:=hv rfl
    obtain ⟨hok,h0,hr,hG⟩:=hA.ok
    have e1:=q3mz d hd hA.len hn hdd ha hb
    rw [hA.ofW] at e1
    have e2:=hA.order d hn hdd
    have hl64:=hok.len
    have hil:=q3tb l n dd
    have hfl:=q3ts (ofO l n dd a b)
    rw [q3o5] at hfl
    have hlen:((((ordT l n dd).map idU).length:Int) != (l.length:Int))=false:=by rw [hil];simp
    have hgl:=q3o7 l n dd a b
    have hnd:=q3tz hok n dd
    have hT:=fun x (hx:x∈(ordT l n dd).map idU) y (hy:y∈(ordT l n dd).map idU)=>hA.together d hd hn hdd ha hb hx hy
    have hsl:(ql (e:=Ri) (ofO l n dd a b)).length≤64:=Nat.le_trans (Nat.le_of_eq (qm (e:=Ri) (ofO l n dd a b))) (Nat.le_trans hgl.1 hl64)
    have hne:∀ g∈ql (e:=Ri) (ofO l n dd a b),g.1 ≠ []:=fun g hg=>q3o6 l n dd a b _ (q3o8 hg)
    obtain ⟨gs,hgs⟩:∃ gs:List DLiE,ql (e:=Ri) (ofO l n dd a b)=gs:=⟨_,rfl⟩
    rw [hgs] at e1 hfl hT hsl hne
    clear hgs
    replace hsl:gs.length≤64:=hsl
    generalize (ordT l n dd).map idU=L at *
    have eF:=q3u4 d hd (l:=l) (n:=n) (dd:=dd) (a:=a) (b:=b) (all:=L) (cls:=clsF gs 0) (V:=inV gs) (by omega) (by rw [q3tt,hfl]) hT (fun i x c hx hc=>q3ty gs 0 i x c (by rw [hfl];exact hnd) (by rw [hfl];exact hx) hc) d 0 (by omega) (Nat.zero_le _)
    have eL:=q3u2 d hd (gs:=gs) (l:=l) (n:=n) (dd:=dd) (a:=a) (b:=b) hfl (by omega) hsl hne eF d 0 (by omega) (Nat.zero_le _)
    simp only [q36n,q33j,q33p,q33t,q33x,q341,q345,q349,q34d,q34f,q34j,q34n,Dt.eval,ea,e0,Bool.not_true,cond_false,e1,e2,show ((0:Int) != 0)=false from rfl,hlen]
    exact eL
end Go.Proofs.YtbjpmdhdoggobaaGreat
