/- Walks of the references; the orders agree; examples. -/
import Derived.Test.YtbjpmdhdoggobaaGreatGk
set_option linter.unusedSimpArgs false
set_option linter.unusedVariables false
namespace Go.Proofs.YtbjpmdhdoggobaaGreat
open Go Go.Tx Go.Pel
structure AskT (l:List T3) (n dd a b:Int):Prop where
  len:l.length≤1000
  tm:qrq (ptsL l) n dd=0
  n1:n.natAbs≤1073741824
  d1:dd≤1024
  r:qdm a b=0
  nn:0≤a
theorem q3tm (d:Nat) (l:List T3) {n dd a b:Int} (hn:i64B n=true) (hdd:i64B dd=true) (ha:i64B a=true) (hb:i64B b=true):∃ v,q33b d ((l,()),(n,dd,()),(a,b,()),())=some v∧(v=true→AskT l n dd a b):=by
  obtain ⟨g,e0,hs⟩:=q3nk d l
  cases g with
  | true=>exact ⟨false,by simp only [q33b,q32z,q335,q339,Dt.eval,e0,Bool.not_true,cond_false],fun h=>by cases h⟩
  | false =>
    replace hs:=hs rfl
    have e1:=q3ml d hs.1 hn hdd
    obtain ⟨v2,e2,h2⟩:=q3se d hn hdd
    have e3:=q3fx d ha hb
    by_cases h1:qrq (ptsL l) n dd=0
    · by_cases k2 : v2 = 0
      · by_cases k3 : qdm a b = 0
        · by_cases k4 : a ≥ 0
          · refine ⟨true, ?_, fun _ => ⟨hs.1, h1, (h2 k2).2.1, (h2 k2).2.2, k3, k4⟩⟩
            simp only [q33b,q32z,q335,q339,Dt.eval,e0,Bool.not_false,cond_true,e1,h1,e2,k2,e3,k3,beq_self_eq_true,decide_eq_true k4]
          · refine ⟨false, ?_, fun h => by cases h⟩
            simp only [q33b,q32z,q335,q339,Dt.eval,e0,Bool.not_false,cond_true,e1,h1,e2,k2,e3,k3,beq_self_eq_true,decide_eq_false k4]
        · refine ⟨false, ?_, fun h => by cases h⟩
          simp only [q33b,q32z,q335,q339,Dt.eval,e0,Bool.not_false,cond_true,cond_false,e1,h1,e2,k2,e3,beq_self_eq_true,show (qdm a b == 0)=false by simpa using k3]
      · refine ⟨false, ?_, fun h => by cases h⟩
        simp only [q33b,q32z,q335,q339,Dt.eval,e0,Bool.not_false,cond_true,cond_false,e1,h1,e2,beq_self_eq_true,show (v2 == 0)=false by simpa using k2]
    · refine ⟨false, ?_, fun h => by cases h⟩
      simp only [q33b,q32z,q335,q339,Dt.eval,e0,Bool.not_false,cond_true,cond_false,e1,show (qrq (ptsL l) n dd == 0)=false by simpa using h1]
theorem q3tn {n dd:Int} (hr:qdm n dd=0) (h1:n.natAbs≤1073741824) (h2:dd≤1024):∀ {O:List T3},(∀ p∈O,okP p)→plE n dd O=true∧gpE n dd O=true
  | [],_=>⟨rfl,rfl⟩
  | [p], hO => by
    have hp:=hO p (List.mem_cons_self ..)
    have e:=(q3ma hp hr).1 (q3s2 hp hp hr (by omega) (by omega)).2
    refine ⟨?_,rfl⟩
    unfold plE
    rw [List.all_cons,e];rfl
  | p :: q :: r, hO => by
    have hp:=hO p (List.mem_cons_self ..)
    have hq:=hO q (List.mem_cons_of_mem _ (List.mem_cons_self ..))
    obtain ⟨i1,i2⟩:=q3tn hr h1 h2 (O:=q :: r) fun x hx=>hO x (List.mem_cons_of_mem _ hx)
    have e:=(q3ma hp hr).1 (q3s2 hp hp hr (by omega) (by omega)).2
    have e':=(q3ma hq hr).1 (q3s2 hq hq hr (by omega) (by omega)).2
    have e2:=(q3s2 hp hq hr (by omega) (by omega)).2
    rw [q3m7 e e'] at e2
    constructor
    · unfold plE at i1 ⊢
      rw [List.all_cons,e,i1];rfl
    · unfold gpE at i2 ⊢
      unfold gpL
      rw [List.all_cons,e2,i2];rfl
theorem AskT.ok {l:List T3} {n dd a b:Int} (h:AskT l n dd a b):FldOk l∧qgo (ptsL l)=0∧qdm n dd=0∧GapOk l n dd:=by
  obtain ⟨h1,h2,h3⟩:=q3mf h.tm
  have:=q3tn h3 h.n1 h.d1 (O:=ordT l n dd) fun p hp=>h1.ok p ((q3lw l n dd).mem_iff.1 hp)
  exact ⟨h1,h2,h3,this.1,this.2⟩
theorem GapOk.err {l:List T3} {n dd:Int} (h:GapOk l n dd):(q3m1 l n dd).2.2=0:=by rw [q3mw h]
theorem AskT.ofW {l:List T3} {n dd a b:Int} (h:AskT l n dd a b):ofW l n dd a b=(ql (e:=Ri) (ofO l n dd a b),0):=q3tf h.tm h.ok.2.2.2.err h.r h.nn
theorem AskT.gaps {l:List T3} {n dd a b:Int} (h:AskT l n dd a b):q3me l n dd=((gpL n dd (ordT l n dd)).map dU,0):=by
  unfold q3me
  rw [if_neg (by simpa using h.tm),q3mw h.ok.2.2.2]
theorem AskT.order (d:Nat) {l:List T3} {n dd a b:Int} (h:AskT l n dd a b) (hn:i64B n=true) (hdd:i64B dd=true):qvn d ((l,()),(n,dd,()),())=some ((ordT l n dd).map idU,0):=by
  obtain ⟨h1,h2,h3,_⟩:=h.ok
  rw [← q3lx]
  exact q3hi d h1.len h2 hn hdd h3
-- the least distance
theorem q3tr:q31v 5001 ()=some true:=by kernel_rfl
-- classes
def clsF:List DLiE→Nat→List Di
  | [],_=>[]
  | g :: r,k=>List.replicate g.1.length (((k:Int),()):Di)++clsF r (k+1)
def allF (gs:List DLiE):List Di:=(gs.map fun g=>g.1).flatten
theorem q3ts:∀ gs:List (List Di),allF (ql (e:=Ri) gs)=gs.flatten
  | []=>rfl
  | g :: r=>congrArg (g ++ ·) (q3ts r)
theorem q3tt:∀ (gs:List DLiE) (k:Nat),(clsF gs k).length=(allF gs).length
  | [],_=>rfl
  | g :: r, k => by
    show (List.replicate _ _++_).length=(g.1++allF r).length
    rw [List.length_append,List.length_append,List.length_replicate,q3tt r]
theorem q3tu:∀ (gs:List DLiE) (g:DLiE) (k:Nat),clsF (gs ++ [g]) k=clsF gs k++List.replicate g.1.length ((((k+gs.length:Nat):Int),()):Di)
  | [],g,k=>by show _ ++ []=[] ++ _;simp
  | h :: r, g, k => by
    show List.replicate _ _++clsF (r ++ [g]) (k+1)=(List.replicate _ _++clsF r (k+1))++_
    rw [q3tu r g (k+1),List.append_assoc,List.length_cons,show k+1+r.length=k+(r.length+1) by omega]
theorem q3tw {x:Di} {g:List Di} (h:x∈g):hasI x.1 g=true:=by
  unfold hasI;rw [List.any_eq_true];exact ⟨x,h,by simp⟩
theorem q3tx {id:Int} {g:List Di} (h:hasI id g=true):∃ x∈g,x.1=id:=by
  unfold hasI at h;rw [List.any_eq_true] at h
  obtain ⟨x,hx,e⟩:=h
  exact ⟨x,hx,by rw [beq_iff_eq] at e;exact e.symm⟩
theorem q3ty:∀ (gs:List DLiE) (k i:Nat) (x c:Di),((allF gs).map Prod.fst).Nodup→(allF gs)[i]?=some x→(clsF gs k)[i]?=some c→fstI (fun g:DLiE=>hasI x.1 g.1) gs k=c.1
  | [],k,i,x,c,_,h,_=>by simp [allF] at h
  | g :: r, k, i, x, c, hn, hx, hc => by
    have hn':(g.1.map Prod.fst++(allF r).map Prod.fst).Nodup:=by rw [← List.map_append];exact hn
    have hx':(g.1++allF r)[i]?=some x:=hx
    have hc':(List.replicate g.1.length (((k:Int),()):Di)++clsF r (k+1))[i]?=some c:=hc
    unfold fstI
    by_cases hi:i<g.1.length
    · rw [List.getElem?_append_left hi] at hx'
      rw [List.getElem?_append_left (by rw [List.length_replicate];exact hi),List.getElem?_replicate,if_pos hi] at hc'
      injection hc' with hc'
      rw [if_pos (q3tw (List.mem_of_getElem? hx')),← hc']
    · rw [List.getElem?_append_right (by omega)] at hx'
      rw [List.getElem?_append_right (by rw [List.length_replicate];omega),List.length_replicate] at hc'
      have hno:hasI x.1 g.1=false:=by
        cases h:hasI x.1 g.1 with
        | false=>rfl
        | true =>
          obtain ⟨y,hy,e⟩:=q3tx h
          rw [List.nodup_append] at hn'
          exact absurd e (hn'.2.2 y.1 (List.mem_map_of_mem hy) x.1 (List.mem_map_of_mem (List.mem_of_getElem? hx')))
      rw [if_neg (by rw [hno];simp)]
      exact q3ty r (k+1) _ x c (List.nodup_append.1 hn').2.1 hx' hc'
theorem q3tz {l:List T3} (h:FldOk l) (n dd:Int):(((ordT l n dd).map idU).map Prod.fst).Nodup:=by
  rw [List.map_map,List.Nodup,List.pairwise_map]
  exact (q3ly h n dd).imp fun {a b} hab=>hab.1
theorem q3u0 {α:Type} {p:α→Bool} {l:List α} {x:α} (hx:x∈l) (h:p x=true) (k:Nat):0≤fstI p l k:=by
  have:=q3nq (p:=p) l k
  rw [List.any_eq_true.2 ⟨x,hx,h⟩] at this
  exact of_decide_eq_true this
theorem AskT.together (d:Nat) (hd:5000≤d) {l:List T3} {n dd a b:Int} (h:AskT l n dd a b) (hn:i64B n=true) (hdd:i64B dd=true) (ha:i64B a=true) (hb:i64B b=true) {x y:Di} (hx:x∈(ordT l n dd).map idU) (hy:y∈(ordT l n dd).map idU) :
    q2aq d ((l,()),(n,dd,()),(a,b,()),(x.1,()),(y.1,()),())=some (inV (ql (e:=Ri) (ofO l n dd a b)) x.1 == inV (ql (e:=Ri) (ofO l n dd a b)) y.1,0):=by
  rw [q3oa d hd h.len hn hdd ha hb,h.ofW]
  have hin:∀ z:Di,z∈(ordT l n dd).map idU→0≤inV (ql (e:=Ri) (ofO l n dd a b)) z.1:=fun z hz=>by
    rw [← q3o5 l n dd a b] at hz
    obtain ⟨g,hg,hzg⟩:=List.mem_flatten.1 hz
    exact q3u0 (p:=fun g:DLiE=>hasI z.1 g.1) (x:=((g,()):DLiE)) (List.mem_map.2 ⟨g,hg,rfl⟩:((g,()):DLiE)∈ql (e:=Ri) (ofO l n dd a b)) (q3tw hzg) 0
  unfold togV
  rw [if_neg (by simp), if_neg (by rintro (k | k)
                                   · have:=hin x hx;simp only at k;omega
                                   · have:=hin y hy;simp only at k;omega)]
end Go.Proofs.YtbjpmdhdoggobaaGreat
