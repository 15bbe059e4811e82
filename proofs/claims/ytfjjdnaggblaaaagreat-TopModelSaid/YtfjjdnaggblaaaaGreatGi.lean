/- Walks of the references; the orders agree; examples. -/
import Derived.Test.YtfjjdnaggblaaaaGreatRows
import Derived.ProofKit
import Derived.OpenShut
import Derived.ShutString
import Derived.ChangeOld
import Derived.Deep.Slices
import Derived.Test.YtfjjdnaggblaaaaGreatGh
set_option linter.unusedSimpArgs false
set_option linter.unusedVariables false
namespace Go.Proofs.YtfjjdnaggblaaaaGreat
open Go Go.Tx Go.Pel
theorem q2lx (d:Nat) {F:List T3} (hf:qmq (ptsL F)=0) {n dd:Int} (ht:TOk n dd):q103 d ((F,()),(n,dd,()),())=some ((ordT F n dd).map idU,0):=by
 have hl:=(q27r hf).len
 rw[q104 _ _ (by unfold q102;simp only[ht.b1,ht.b2,Bool.true_and,decide_eq_true_eq,qpe];omega)]
 have e:qyr (ptsL F) n dd=((ordI n dd (ptsL F)).map Pt.id,0):=by unfold qyr;rw[if_neg (by simpa using hf),if_neg (by simpa using ht.ok)]
 show some (unI (qyr (ptsL F) n dd).1,(qyr (ptsL F) n dd).2)=_
 rw[e,q28q]
theorem q2ly (d:Nat) {L:List Di} (hl:L.length<=1000):qzc d ((L,()),(L,()),())=some true:=by
 rw[qzd _ _ (by
  unfold qzb idsI
  simp only[List.length_map,Bool.and_self,decide_eq_true_eq];omega)]
 simp
theorem q2lz (d:Nat) {n dd:Int} {F:List T3} (hl:F.length<=1000):q2e0 d ((n,dd,F,()),(n,dd,F,()),())=some true:=by
 have e:qw1 d ((F,()),(F,()),())=some true:=by
  rw[qw2 _ _ (by
   unfold qw0
   simp only[qpe,Bool.and_self,decide_eq_true_eq];omega)]
  simp
 rw[q2e2]
 simp only[q2e1,beq_self_eq_true,Bool.and_self,obif,cond_true,e,obnd]
variable {s:Ck} {E:List qim}
theorem q2m0 (d:Nat) (hd:5000<=d) (h:CkOk s E) (ha:AskOk s.n s.dd) (hadj:(s.C.map q2kj).Perm (adjP (ordT s.F s.n s.dd))) (hl:∀ c∈s.C,leads (ofP (ptI s.F c.2.2.1)) (ofP (ptI s.F c.2.1)) s.n s.dd=true) (hdue:∀ ev∈s.H,¬ leQ ev.1 ev.2.1 s.n s.dd) :
 q2le d (s.x,((ordT s.F s.n s.dd).map idU,()),(s.n,s.dd,s.F,()),())=some true:=by
 have hF:=h.fo
 have hlen:=hF.len
 have hol:=q28s s.F s.n s.dd
 have n1:=h.ck.n1
 have lh:=h.ag.lh;have lH:=h.lH;have lHs:=h.ag.lH
 have hCl:s.C.length=s.F.length-1:=by
  have:=hadj.length_eq
  rw[List.length_map,q2da,hol]at this;exact this
 have e1:=q2lx d h.hf h.tk
 have e2:=q2c9 d hd h.hf hF h.ck h.tk hl
 have e3:=q2ly d (L:=(ordT s.F s.n s.dd).map idU) (by rw[List.length_map];omega)
 have e4:=q2bp d hd hF h.ck
 have e5:=q29o d hd (show s.nx<=1000 by omega) h.ag.sl h.ag.lR
 have hmx:((s.C.length:Int) != tmax (wi ((s.F.length:Int)-1)) 0)=false:=by
  rw[bne_eq_false_iff_eq,q269 (by omega)]
  unfold tmax;split<;>omega
 have hroom:((s.R.length:Int) != wi (200-(s.D.length:Int)))=false:=by
  rw[bne_eq_false_iff_eq,q269 (by omega)];omega
 have last:q2lf d ((ordT s.F s.n s.dd).map idU,false,s.n,s.dd,s.F)=some true:=by
  by_cases h0:s.F.length=0
  ·simp only[q2lf,cond_false,List.length_map,hol,h0,show (((0:Nat):Int)==0)=true from rfl,cond_true]
  ·obtain⟨p,r,ho⟩:∃ p r,ordT s.F s.n s.dd=p::r:=by
    cases hc:ordT s.F s.n s.dd with
    | nil=>rw[hc]at hol;simp at hol;omega
    | cons p r=>exact⟨p,r,rfl⟩
   have h1:1<=s.F.length:=by omega
   obtain⟨x,y,g1⟩:=q2hr d hd ha h.hf ho
   obtain⟨N,g2,hN⟩:=q2i7 d hd h.hf h.tk h1
   have hLl:((ordT s.F s.n s.dd).map idU).length=s.F.length:=by rw[List.length_map,hol]
   have hnd:=q2i0 (n:=s.n) (dd:=s.dd) hF
   have hr:∀ z∈(ordT s.F s.n s.dd).map idU,0<=z.1/\z.1<=65535:=fun z hz=>by
    obtain⟨q,hq,e⟩:=q2i1 hz
    have:=q27l (hF.ok q hq)
    omega
   have g3:=q2ic hN (by omega) (by omega) hnd hr d hd (q2i5 d hF)
   have g4:=q2ie hN (by omega) (by omega) hnd hr d hd
   obtain⟨k,M,g5,hG,hM,hid⟩:=of_eq d hd h.hf h.tk
   have g6:=q2j2 d hd hF hG hM hid h1
   obtain⟨k',rfl,hk1,hk2,hkp⟩:=hG.leader hF ho
   have hz:elt zi ((ordT s.F s.n s.dd).map idU) 0=(p.1,()):=by rw[ho];rfl
   rw[hz]at g3
   have hid2:=hid k' hk1
   rw[hkp]at hid2
   simp only[q2lf,cond_false,hLl,show ((s.F.length:Int)==0)=false by rw[beq_eq_false_iff_ne];omega,g1,g2,g3,g4,g5,g6,obnd,obif,show ((0:Int)==0)=true from rfl,cond_true,show inB 0 s.F.length=true from inN (k:=0) (by omega),hz,beq_self_eq_true,hM,inN hk1,Int.toNat_natCast,hid2]
 have mid:q2lg d ((ordT s.F s.n s.dd).map idU,false,s.n,s.dd,s.F,s.nx,s.C,s.U,s.B,s.R,s.H,s.W,s.D,s.n,s.dd,s.F)=some true:=by
  have ag:=h.ag
  revert ag hdue lH
  generalize s.H=H
  intro hdue lH ag
  cases H with
  | nil =>
   have hD:s.D.length=0:=by rw[← lH];rfl
   have e6:=q2at d hd (show s.nx<=1000 by omega) ag
   rw[hD]at hroom
   simp only[q2lg,cond_false,e5,e6,obnd,obif,show ((0:Int) != 0)=false from rfl,hD,hroom,show ((42:Int)==0)=false from rfl,show decide ((((0:Nat):Int))>0)=false from rfl,show (false==false)=true from rfl,Bool.not_true]
   exact last
  | cons ev H1 =>
   rw[List.length_cons]at lH
   have hev:=ag.ks.ev ev (List.mem_cons_self ..)
   have e6:=q2au d hd (show s.nx<=1000 by omega) ag
   have e7:=q26q d ev.1 ev.2.1 s.n s.dd hev.b1 hev.b2 h.tk.b1 h.tk.b2
   have hq:decide (cmpQ ev.1 ev.2.1 s.n s.dd<=0)=false:=by
    have:=hdue ev (List.mem_cons_self ..)
    rw[q27w]at this
    rw[decide_eq_false_iff_not];omega
   simp only[q2lg,cond_false,e5,e6,obnd,obif,show ((0:Int) != 0)=false from rfl,hroom,show ((0:Int)==0)=true from rfl,show decide (((s.D.length:Nat):Int)>0)=true by rw[decide_eq_true_eq];omega,show (true==true)=true from rfl,Bool.not_true,cond_true,e7,hq]
   exact last
 have hLl:((ordT s.F s.n s.dd).map idU).length=s.F.length:=by rw[List.length_map,hol]
 rw[q2li]
 simp only[q2lh,Ck.x,e1,e2,e3,e4,obnd,obif,show ((0:Int) != 0)=false from rfl,cond_false,Bool.not_true,List.length_map,bne_self_eq_false,hol,hmx]
 exact mid
end Go.Proofs.YtfjjdnaggblaaaaGreat
namespace Go.Proofs.YtfjjdnaggblaaaaGreat
open Go Go.Tx Go.Pel
variable {s:Ck} {E:List qim}
theorem q2m1 (d:Nat) (hd:5000<=d):q2j7 d ()=some true:=by
 have ht:TOk 0 1:=⟨by decide,by decide,by decide⟩
 have hf:qmq (ptsL ([(1,0,1,()),(2,3,0,())]:List T3))=0:=by decide +kernel
 obtain⟨s,e1,h,g1,g2,g3,g4,g5⟩:=q2cs d hd hf ht
 obtain⟨s',E',e2,h',k1,k2,k3,k4,k5⟩:=q2cu d hd h (a:=1) (b:=2) (by rw[g5];decide) (by rw[g4];decide) (by rw[g3];exact⟨(1,0,1,()),by simp,rfl⟩) (by rw[g3];exact⟨(2,3,0,()),by simp,rfl⟩) (by decide) (by rw[g5];simp)
 have hC:s'.C=[(0,1,2,())]:=by rw[k5,g5,g4];rfl
 have hkey:=h'.key
 rw[hC,k1,k2,k3,g1,g2,g3]at hkey
 have hw:[((0:Int),(1:Int),(2:Int),())].filterMap (evK [(1,0,1,()),(2,3,0,())] 0 1)=[(3,1,0)]:=by decide +kernel
 rw[hw]at hkey
 obtain⟨ev,hE,hev⟩:∃ ev,E'=[ev]/\keyE ev=(3,1,0):=by
  cases E' with
  | nil=>cases hkey
  | cons ev r =>
   rw[List.map_cons]at hkey
   injection hkey with h1 h2
   rw[List.map_eq_nil_iff]at h2
   exact⟨ev,by rw[h2],h1⟩
 have hpm:=h'.pm
 rw[hE]at hpm
 have hH:s'.H=[ev]:=List.singleton_perm.1 hpm |>.symm
 have e3:=q2co d hd h'
 have ag:=h'.ag
 rw[hH]at ag
 have n1:=h'.ck.n1
 have e4:=q2au d hd (show s'.nx<=1000 by omega) ag
 have e5:q1lb d (s'.x,())=some (ev.1,ev.2.1,ev.2.2.1,ev.2.2.2.1,ev.2.2.2.2.1,0):=by
  simp only[Ck.x]at e3
  rw[hH]at e3
  rw[q1ld]
  simp only[q1lc,Ck.x,hH,e3,e4,obnd,show ((0:Int) != 0)=false from rfl,cond_false]
 have v1:ev.1=3:=congrArg (fun x=>x.1) hev
 have v2:ev.2.1=1:=congrArg (fun x=>x.2.1) hev
 simp only[Ck.x]at e2 e5
 rw[g4]at e2
 rw[q2j9]
 simp only[q2j8,e1,e2,e5,g4,obnd,obif,v1,v2,show ((0:Int)==0)=true from rfl,cond_true,beq_self_eq_true,Bool.and_self]
structure PutI (s:Ck) (E:List qim) (F:List T3) (n dd:Int) (P:List T3) (i:Nat):Prop where
 ok:CkOk s E
 n:s.n=n
 dd:s.dd=dd
 F:s.F=F
 nx:s.nx=((i-1:Nat):Int)
 C:(s.C.map q2kj)=adjP (P.take i)
def ts1 (i tn td n2 d2:Int) (F2:List T3) (a1 a2 a3 a4 a5:Int) (ms:List qi4) (o:List Di) (s:Ck):q2lo:=(i,tn,td,n2,d2,F2,a1,a2,a3,a4,a5,ms,o,s.n,s.dd,s.F,s.nx,s.C,s.U,s.B,s.R,s.H,s.W,s.D)
theorem q2m2 (d:Nat) (hd:5000<=d) {F:List T3} {n dd:Int} (hF:FldOk F) {P:List T3} (hp:P.Perm F) (tn td n2 d2:Int) (F2:List T3) (a1 a2 a3 a4 a5:Int) (ms:List qi4):∀ (f i:Nat) (s:Ck) (E:List qim),1<=i->i<=max P.length 1->PutI s E F n dd P i->P.length-i<f ->
 ∃ (s':Ck) (E':List qim) (f' i':Nat),PutI s' E' F n dd P P.length/\P.length<=i'/\i'<=1000/\iter (q2lq d) f (ts1 (i:Int) tn td n2 d2 F2 a1 a2 a3 a4 a5 ms (P.map idU) s)=q2lq d (iter (q2lq d) f') (ts1 (i':Int) tn td n2 d2 F2 a1 a2 a3 a4 a5 ms (P.map idU) s'):=by
 have hlen:P.length<=64:=by rw[hp.length_eq];exact hF.len
 intro f
 induction f with
 | zero=>intro i s E _ _ _ h;omega
 | succ f ih =>
  intro i s E h1 h2 h hf
  by_cases hi:i<P.length
  ·obtain⟨p,hpi⟩:∃ p,P[i-1]?=some p:=⟨_,List.getElem?_eq_getElem (by omega)⟩
   obtain⟨q,hqi⟩:∃ q,P[i]?=some q:=⟨_,List.getElem?_eq_getElem hi⟩
   have hqi':P[i-1+1]?=some q:=by rw[Nat.sub_add_cancel h1];exact hqi
   have hsn:=q2db hpi hqi'
   rw[show i-1+2=i+1 by omega,show i-1+1=i by omega]at hsn
   have hids:=q2dh hF hp
   have hnd:(adjP (P.take (i+1))).Nodup:=q2d8 (hids.sublist ((List.take_sublist (i+1) P).map _))
   have hadj:(q.1,p.1)∈adjP (P.take (i+1)):=by rw[hsn];simp
   have hne:=q2d9 (hids.sublist ((List.take_sublist (i+1) P).map _)) hadj
   have hno:[q.1,p.1]∉s.C.map fun c=>[c.2.1,c.2.2.1]:=fun hm=>by
    obtain⟨c,hc,e⟩:=List.mem_map.1 hm
    injection e with e1 e2;injection e2 with e2 _
    rw[hsn,List.nodup_append]at hnd
    exact hnd.2.2 (q2kj c) (by rw[← h.C];exact List.mem_map.2 ⟨c,hc,rfl⟩) (q.1,p.1) (List.mem_cons_self ..) (Prod.ext e1 e2)
   have hCl:s.C.length<=64:=by
    have:=congrArg List.length h.C
    rw[List.length_map,q2da,List.length_take]at this
    omega
   have hnx:=h.nx
   obtain⟨s1,E1,e1,k,g1,g2,g3,g4,g5⟩:=q2cu d hd h.ok (by omega) (by omega) (a:=q.1) (b:=p.1) (by rw[h.F];exact⟨q,hp.mem_iff.1 (List.mem_of_getElem? hqi),rfl⟩) (by rw[h.F];exact⟨p,hp.mem_iff.1 (List.mem_of_getElem? hpi),rfl⟩) hne hno
   have e2:=q2cq d hd k
   simp only[Ck.x]at e1 e2
   have hI:PutI s1 E1 F n dd P (i+1):=⟨k,by rw[g1,h.n],by rw[g2,h.dd],by rw[g3,h.F],by rw[g4,hnx];omega,by rw[g5,List.map_append,h.C,hsn];rfl⟩
   obtain⟨s',E',f',i',r1,r2,r3,r4⟩:=ih (i+1) s1 E1 (by omega) (by omega) hI (by omega)
   refine⟨s',E',f',i',r1,r2,r3,?_⟩
   rw[← r4,iter]
   unfold ts1
   simp only[q2lq,List.length_map,show decide ((i:Int)<(P.length:Int))=true by rw[decide_eq_true_eq];omega,cond_true,inN hi,obif,show wi ((i:Int)-1)=((i-1:Nat):Int) by rw[q269 (by omega)];omega,inN (show i-1<P.length by omega),Int.toNat_natCast,q2kl hqi,q2kl hpi,e1,obnd,show ((0:Int) != 0)=false from rfl,cond_false,e2,q2lp,wiS (show i<9223372036854775807 by omega)]
  ·refine⟨s,E,f,i,?_,by omega,by omega,by rw[iter]⟩
   have ht:P.take i=P.take P.length:=by rw[List.take_of_length_le (by omega),List.take_length]
   exact⟨h.ok,h.n,h.dd,h.F,by rw[h.nx];omega,by rw[h.C,ht]⟩
theorem q2m3:∀ (l:List T3),l.length<=8->(q1zl l).length<=64:=fun l hl=>by
 have h1:=q273 l
 have h2:=Nat.mul_le_mul hl hl
 omega
theorem q2m4 (d:Nat) (hd:5000<=d) (F:List T3) (n dd tn td:Int) (h1:i64B n=true) (h2:i64B dd=true) (h3:i64B tn=true) (h4:i64B td=true):q2ln d ((n,dd,F,()),(tn,td,()),())=some true:=by
 rw[q2lw]
 simp only[q2lv,obif]
 by_cases hl:F.length<=8
 ·simp only[show decide ((F.length:Int)>8)=false by rw[decide_eq_false_iff_not];omega,cond_false]
  obtain⟨v,e1,hv⟩:=q2hl d (F:=F) h1 h2
  simp only[e1,obnd]
  by_cases hv0:v=0
  ·subst hv0
   obtain⟨hn,hf⟩:=hv rfl
   obtain⟨u,e2,hu⟩:=q2hk d h3 h4
   simp only[show ((0:Int) != 0)=false from rfl,cond_false,e2,obnd]
   by_cases hu0:u=0
   ·subst hu0
    have ht:=hu rfl
    have hF:=q27r hf
    have e3:=q2ho d hd hn hf ht
    simp only[show ((0:Int) != 0)=false from rfl,q2lt,cond_false,q2m1 d hd,obnd,Bool.not_true]
    by_cases hle:leQ tn td n dd
    ·rw[if_pos hle]at e3
     have e4:=q26q d tn td n dd h3 h4 h1 h2
     have hq:decide (cmpQ tn td n dd<=0)=true:=by rw[decide_eq_true_eq];have:=(q27w ..).1 hle;omega
     simp only[e3,obnd,show ((0:Int) != 0)=false from rfl,show ((44:Int) != 0)=true from rfl,show ((44:Int)==44)=true from rfl,cond_false,cond_true,obif,e4,hq,q2lz d (show F.length<=1000 by omega)]
    ·rw[if_neg hle]at e3
     have hle':leQ n dd tn td:=by unfold leQ at hle ⊢;omega
     have e5:=q2lx d hf hn.t
     obtain⟨s,e6,hs,g1,g2,g3,g4,g5⟩:=q2cs d hd hf hn.t
     have hol:=q28s F n dd
     simp only[e3,obnd,show ((0:Int) != 0)=false from rfl,cond_false,e5,e6,obif,List.length_map,hol,bne_self_eq_false,q2ls]
     have hI:PutI s [] F n dd (ordT F n dd) 1:=⟨hs,g1,g2,g3,by rw[g4];rfl,by
      rw[g5]
      cases ordT F n dd with
      | nil=>rfl
      | cons p r=>rfl⟩
     obtain⟨s',E',f',i',r1,r2,r3,r4⟩:=q2m2 d hd hF (q28p F n dd) tn td tn td F 0 0 0 0 0 (cutM (allM F) n dd tn td) d 1 s [] (Nat.le_refl _) (by omega) hI (by omega)
     refine r4.trans ?_
     have hm:(cutM (allM F) n dd tn td).length<=200:=by
      have k1:=q281 (allM F) n dd tn td
      have k2:(allM F).length<=(q1zl F).length:=by
       rw[(q277 F).length_eq];exact List.length_filterMap_le _ _
      have:=q2m3 F hl
      omega
     have hinv:invs (ordT F n dd) tn td=(cutM (allM F) n dd tn td).length:=by
      unfold invs
      rw[q28u hF hn.t.pos ht.t.pos hle',q280 hn.t.pos ht.t.pos hle' (fun x hx=>(q27s hF x hx).ok) (q27a hF)]
     have hG:GoneI s' E' (ordT F n dd) tn td:=by
      refine⟨r1.ok,by rw[r1.F];exact q28p F n dd,by omega,by rw[r1.C,List.take_length],?_,by rw[r1.n,r1.dd];exact hle'⟩
      rw[r1.n,r1.dd]
      exact (q28r hF n dd).imp fun {a b} h=>⟨n,dd,hn.t.pos,q2av _ _,h.2⟩
     obtain⟨s2,E2,e7,w1,w2,w3,w4,w5,w6,w7⟩:=q2l9 d hd ht.t hm d 0 s' E' (ordT F n dd) hG (by omega) (by rw[r1.nx];omega) (by omega)
     have e8:q2ka d (s'.x,((ordT F n dd).map idU,()),(tn,td,()),(((cutM (allM F) n dd tn td).length:Int),()),())=some (s2.n,s2.dd,s2.F,s2.nx,s2.C,s2.U,s2.B,s2.R,s2.H,s2.W,s2.D,(ordT s'.F tn td).map idU,true):=by
      rw[q2ki];exact e7
     have e9:=q2hm d ht hf
     have hsF:s'.F=s2.F:=w4.symm
     have e10:=q2m0 d hd w1 (by rw[w2,w3];exact ht) (by rw[w2,w3,← hsF];exact w5) (by rw[w2,w3,← hsF];exact w6) (by rw[w2,w3];exact w7)
     have hF2:s2.F=F:=by rw[← hsF,r1.F]
     rw[hsF]at e8
     simp only[Ck.x]at e8 e10
     rw[w2,w3,hF2]at e10 e8
     unfold ts1
     simp only[q2lq,List.length_map,hol,show decide ((i':Int)<(F.length:Int))=false by rw[decide_eq_false_iff_not];omega,cond_false,e8,obnd,obif,cond_true,e9,show ((0:Int)==0)=true from rfl,e10]
   ·simp only[show (u != 0)=true by simpa using hu0,q2lt,cond_true]
  ·simp only[show (v != 0)=true by simpa using hv0,cond_true,q2lt]
 ·simp only[show decide ((F.length:Int)>8)=true by rw[decide_eq_true_eq];omega,cond_true,q2lt]
end Go.Proofs.YtfjjdnaggblaaaaGreat
namespace Go
open Go.ChangeShapes Go.WideShapes Go.ChangeAt Go.RowKit
section
variable {H:Type} {enc:TypeId×Value->H} {P:Program} {w:World} {base:Nat} {spare:Nat->Bool} {held:Bool}
theorem q2m5 {t:TypeId} {fs:Array Field} {fuel:Nat} {cs:List Value} {x:DataW H×List MemPlace} (hs:P.underlying t=some (.struct fs)) (h:DataW.trod enc P w base spare held fuel t cs=some x)
 {i:Nat} {f:Field} (hf:fs[i]?=some f) {off n:Nat} {ft:TypeId} (ho:f.offset=off) (ht:f.type=ft) (hn:P.cellsOf ft=n):∃ m y,DataW.trod enc P w base spare held m ft ((cs.drop off).take n)=some y:=by
 obtain⟨xs,m,_,_,_,hlen,hg⟩:=DataW.trod_struct hs h
 have h1:=hg i f hf
 subst ho ht hn
 have hi:i<xs.length:=by rw[hlen];exact (Array.getElem?_eq_some_iff.1 hf).1
 exact⟨m,xs[i],by rw[h1,List.getElem?_eq_getElem hi]⟩
theorem q2m6 {t:TypeId} {k:IntKind} {fuel:Nat} {cs:List Value} {x:DataW H×List MemPlace} (ht:P.underlying t=some (.int k)) (h:DataW.trod enc P w base spare held fuel t cs=some x):∃ n,cs=[.int k n]/\(Lit.int k n).wf=true:=by
 obtain⟨n,h1,_,h2⟩:=DataW.trod_int ht h;exact⟨n,h1,h2⟩
theorem q2m7 {n:Int} (h:(Lit.int .i64 n).wf=true):-9223372036854775808<=n/\n<=9223372036854775807:=bounds_i64 h
end
end Go
namespace Go.Proofs.YtfjjdnaggblaaaaGreat
open Go.ChangeShapes Go.WideShapes Go.ChangeAt Go.RowKit
theorem q2mb:ownKnob Tryz.prog.godebug=none:=by kernel_rfl
theorem q2mc:laidOutB Tryz.prog=true:=by kernel_rfl
end Go.Proofs.YtfjjdnaggblaaaaGreat
namespace Go
open Go.ChangeShapes Go.WideShapes Go.ChangeAt Go.RowKit Go.Deep
theorem q2md {α:Type} {p:Nat->α->Prop}:∀ n:Nat,(∀ i,i<n->∃ v,p i v)->∃ l:List α,l.length=n/\∀ (i:Nat) (x:α),l[i]?=some x->p i x
 | 0,_=>⟨[],rfl,fun i x h=>by simp at h⟩
 | n + 1, h => by
  obtain⟨l,hl,hp⟩:=q2md n fun i hi=>h i (by omega)
  obtain⟨v,hv⟩:=h n (by omega)
  refine⟨l ++ [v],by simp[hl],fun i x hx=>?_⟩
  rcases Nat.lt_or_ge i n with hi | hi
  ·rw[List.getElem?_append_left (by omega)]at hx;exact hp i x hx
  ·rw[List.getElem?_append_right (by omega)]at hx
   have:i=n:=by
    have:=(List.getElem?_eq_some_iff.1 hx).1
    simp at this;omega
   subst this
   simp[hl]at hx
   subst hx;exact hv
theorem qe {α:Type} {cells:α->List Value} {k:Nat} (hk:∀ a,(cells a).length=k) (h0:0<k):∀ (l:List α) (j:Nat) (u:Value),(l.flatMap cells)[j]?=some u->∃ x,l[j/k]?=some x/\(cells x)[j%k]?=some u
 | [],j,u,h=>by simp at h
 | x::l, j, u, h => by
  rw[List.flatMap_cons]at h
  rcases Nat.lt_or_ge j k with hj | hj
  ·rw[List.getElem?_append_left (by rw[hk];exact hj)]at h
   rw[Nat.div_eq_of_lt hj,Nat.mod_eq_of_lt hj]
   exact⟨x,rfl,h⟩
  ·rw[List.getElem?_append_right (by rw[hk];exact hj),hk]at h
   obtain⟨y,hy,hu⟩:=qe hk h0 l (j-k) u h
   obtain⟨m,rfl⟩:∃ m,j=m+k:=⟨j-k,by omega⟩
   rw[Nat.add_sub_cancel]at hy hu
   rw[Nat.add_div_right _ h0,Nat.add_mod_right]
   exact⟨y,by simpa using hy,hu⟩
theorem qc {α:Type} {cells:α->List Value} {k:Nat} (hk:∀ a,(cells a).length=k) (l:List α):(l.flatMap cells).length=l.length*k:=by
 induction l with
 | nil=>simp
 | cons x l ih=>rw[List.flatMap_cons,List.length_append,ih,hk,List.length_cons,Nat.add_mul];omega
section
variable {H:Type} {enc:TypeId×Value->H} {P:Program} {w:World} {base:Nat} {held:Bool}
theorem q2me {t e:TypeId} {fuel:Nat} {A:Option Addr} {n c:Nat} {x:DataW H×List MemPlace} (ht:P.underlying t=some (.slice e))
 (h:DataW.trod enc P w base (fun _=>true) held fuel t [Value.slice A n c]=some x):A=none->c=0:=by
 rcases open_slice ht h with⟨hcs,_⟩ | ⟨a,len,cap,m,q,D,Pl,hcs,_⟩
 ·simp only[List.cons.injEq,and_true]at hcs
  injection hcs with h1 h2 h3
  intro _;exact h3
 ·simp only[List.cons.injEq,and_true]at hcs
  injection hcs with h1 h2 h3
  subst h1;intro h;cases h
theorem q2mf {α:Type} (cells:α->List Value) (ok:α->Prop) {t e:TypeId} {k fuel:Nat} {A:Option Addr} {n c:Nat} {x:DataW H×List MemPlace}
 (ht:P.underlying t=some (.slice e)) (hC:P.cellsOf e=k) (h0:0<k) (hk:∀ a,(cells a).length=k)
 (hR:∀ (m:Nat) (l:List Value) (y:DataW H×List MemPlace),DataW.trod enc P w base (fun _=>true) held m e l=some y->l.length=k->∃ a,l=cells a/\ok a)
 (h:DataW.trod enc P w base (fun _=>true) held fuel t [Value.slice A n c]=some x) :
 ∃ l:List α,l.length=n/\Sl w k A l.length c (l.flatMap cells)/\(∀ a∈l,ok a)/\(A=none->c=0)/\c<=maxLen:=by
 rcases open_slice ht h with⟨hcs,_⟩ | ⟨a,len,cap,m,q,D,Pl,hcs,_,hl,hmx,hm,_,hi⟩
 ·simp only[List.cons.injEq,and_true]at hcs
  injection hcs with h1 h2 h3
  subst h1 h2 h3
  exact⟨[],rfl,Sl.nil_ _ _ _ _,(fun _ h=>by cases h),(fun _=>rfl),Nat.zero_le _⟩
 ·simp only[List.cons.injEq,and_true]at hcs
  injection hcs with h1 h2 h3
  subst h1 h2 h3
  simp only[if_true]at hm
  subst hm
  obtain⟨l,hll,hp⟩:=q2md (α:=α) (p:=fun i v=>(∀ j u,(cells v)[j]?=some u->w.cell? (a.add (i*k+j))=some u)/\ok v) n (fun i hin=>by
   obtain⟨cs',hc,ht'⟩:=hi i (by omega)
   rw[hC]at hc
   obtain⟨_,hcl,hat⟩:=World.cells?_some hc
   obtain⟨v,rfl,hv⟩:=hR _ _ _ ht' hcl
   refine⟨v,fun j u hu=>?_,hv⟩
   have hj:j<k:=by rw[← hk v];exact (List.getElem?_eq_some_iff.1 hu).1
   rw[← Go.Deep.add_add,hat j hj,hu])
  refine⟨l,hll,⟨by omega,by rw[qc hk,hll],fun hn=>?_⟩,fun v hv=>?_,(fun h=>by cases h),hmx⟩
  ·obtain⟨v0,hv0⟩:∃ v,l[0]?=some v:=⟨_,List.getElem?_eq_getElem (by omega)⟩
   obtain⟨u0,hu0⟩:∃ u,(cells v0)[0]?=some u:=⟨_,List.getElem?_eq_getElem (by rw[hk];exact h0)⟩
   have hc0:=(hp 0 v0 hv0).1 0 u0 hu0
   obtain⟨b,o,spot⟩:=a
   have hspot:spot=none:=by simpa [Addr.add] using World.cell?_spot hc0
   subst hspot
   refine⟨b,o,rfl,?_,fun j u hu=>?_⟩
   ·have hb:=World.block_lt_of_cell? w _ hc0
    simpa [Addr.add] using hb
   ·obtain⟨v,hv,huv⟩:=qe hk h0 l j u hu
    have h1:=(hp _ v hv).1 _ u huv
    have e0:j/k*k+j%k=j:=by rw[Nat.mul_comm];exact Nat.div_add_mod j k
    rw[e0]at h1
    have e1:(⟨b,o,none⟩:Addr).add j=⟨b,o+j,none⟩:=by
     unfold Addr.add;split
     ·rename_i h0;rw[h0];rfl
     ·rfl
    rw[e1]at h1;exact h1
  ·obtain⟨i,hi'⟩:=List.getElem?_of_mem hv
   exact (hp i v hi').2
end
end Go
namespace Go.Proofs.YtfjjdnaggblaaaaGreat
open Go.ChangeShapes Go.WideShapes Go.ChangeAt Go.RowKit Go.Pel Go.Deep
theorem q2mg {α:Type} (l:List α) (h:l.length=1):∃ a,l=[a]:=by
 match l,h with
 | [a],_=>exact⟨a,rfl⟩
theorem q2mh {α:Type} (l:List α) (h:l.length=2):∃ a b,l=[a,b]:=by
 match l,h with
 | [a,b],_=>exact⟨a,b,rfl⟩
theorem q2mi {α:Type} (l:List α) (h:l.length=3):∃ a b c,l=[a,b,c]:=by
 match l,h with
 | [a,b,c],_=>exact⟨a,b,c,rfl⟩
section
variable {H:Type} {enc:TypeId×Value->H} {w:World} {base:Nat} {spare:Nat->Bool} {held:Bool}
theorem q2mj:Tryz.prog.cellsOf 3=1:=by kernel_rfl
theorem q2mk:Tryz.prog.cellsOf 2=1:=by kernel_rfl
theorem q2ml:Tryz.prog.cellsOf 39=3:=by kernel_rfl
theorem q2mm:Tryz.prog.cellsOf 26=1:=by kernel_rfl
theorem q2mn:Tryz.prog.cellsOf 24=1:=by kernel_rfl
theorem q2mo {fuel:Nat} {l:List Value} {x:DataW H×List MemPlace} (h:DataW.trod enc Tryz.prog w base spare held fuel 39 l=some x) (hl:l.length=3) :
 ∃ p:Pt,l=[.int .i64 p.id,.int .i64 p.a,.int .i64 p.b]/\p.Fits:=by
 obtain⟨c0,c1,c2,rfl⟩:=q2mi l hl
 obtain⟨m4,y4,h4⟩:=q2m5 Tryz.underlying39 h (i:=0) rfl rfl rfl q2mj
 obtain⟨m5,y5,h5⟩:=q2m5 Tryz.underlying39 h (i:=1) rfl rfl rfl q2mk
 obtain⟨m6,y6,h6⟩:=q2m5 Tryz.underlying39 h (i:=2) rfl rfl rfl q2mk
 obtain⟨i,e4,w4⟩:=q2m6 Tryz.underlying3 h4
 obtain⟨a,e5,w5⟩:=q2m6 Tryz.underlying2 h5
 obtain⟨b,e6,w6⟩:=q2m6 Tryz.underlying2 h6
 simp at e4 e5 e6
 subst e4 e5 e6
 exact⟨⟨i,a,b⟩,rfl,⟨q2m7 w4,q2m7 w5,q2m7 w6⟩⟩
theorem q2mp (fuel:Nat) (l:List Value) (x:DataW H×List MemPlace) (h:DataW.trod enc Tryz.prog w base spare held fuel 39 l=some x) (hl:l.length=3):∃ p:Pt,l=p.cells/\p.Fits:=q2mo h hl
theorem q2mq {fuel:Nat} {l:List Value} {x:DataW H×List MemPlace} (h:DataW.trod enc Tryz.prog w base (fun _=>true) held fuel 26 l=some x) (hl:l.length=1) :
 ∃ (A:Option Addr) (c:Nat) (m:List Pt),l=[.slice A m.length c]/\Sl w 3 A m.length c (vp m)/\(A=none->c=0)/\∀ p∈m,p.Fits:=by
 obtain⟨c0,rfl⟩:=q2mg l hl
 obtain⟨m0,y0,h0⟩:=q2m5 Tryz.underlying26 h (i:=0) rfl rfl rfl q2mn
 have h0':DataW.trod enc Tryz.prog w base (fun _=>true) held m0 24 [c0]=some y0:=by simpa using h0
 obtain⟨A,n,c,rfl⟩:∃ A n c,c0=Value.slice A n c:=by
  rcases open_slice Tryz.underlying24 h0' with⟨hcs,_⟩ | ⟨a,len,cap,m,q,D,Pl,hcs,_⟩
  ·simp only[List.cons.injEq,and_true]at hcs;exact⟨_,_,_,hcs⟩
  ·simp only[List.cons.injEq,and_true]at hcs;exact⟨_,_,_,hcs⟩
 have hn:=q2me Tryz.underlying24 h0'
 obtain⟨pts,rfl,hs,hok,_,_⟩:=q2mf Pt.cells Pt.Fits Tryz.underlying24 q2ml (by decide) (fun _=>rfl) q2mp h0'
 exact⟨A,c,pts,rfl,hs,hn,hok⟩
theorem q2mr:Tryz.prog.cellsOf 23=2:=by kernel_rfl
theorem q2ms {fuel:Nat} {l:List Value} {x:DataW H×List MemPlace} (h:DataW.trod enc Tryz.prog w base spare held fuel 23 l=some x) (hl:l.length=2) :
 ∃ n d:Int,l=[.int .i64 n,.int .i64 d]/\(-9223372036854775808<=n/\n<=9223372036854775807)/\(-9223372036854775808<=d/\d<=9223372036854775807):=by
 obtain⟨c0,c1,rfl⟩:=q2mh l hl
 obtain⟨m4,y4,h4⟩:=q2m5 Tryz.underlying23 h (i:=0) rfl rfl rfl q2mk
 obtain⟨m5,y5,h5⟩:=q2m5 Tryz.underlying23 h (i:=1) rfl rfl rfl q2mk
 obtain⟨n,e4,w4⟩:=q2m6 Tryz.underlying2 h4
 obtain⟨d,e5,w5⟩:=q2m6 Tryz.underlying2 h5
 simp at e4 e5
 subst e4 e5
 exact⟨n,d,rfl,q2m7 w4,q2m7 w5⟩
end
theorem q2mt {a:Int} (h:-9223372036854775808<=a/\a<=9223372036854775807):Go.Tx.i64B a=true:=by
 unfold Go.Tx.i64B;rw[decide_eq_true h.1,decide_eq_true h.2];rfl
section
variable {H:Type} {enc:TypeId×Value->H} {w:World} {base:Nat} {spare:Nat->Bool} {held:Bool}
theorem q2mu:Tryz.prog.cellsOf 28=3:=by kernel_rfl
theorem q2mv {fuel:Nat} {l:List Value} {x:DataW H×List MemPlace} (h:DataW.trod enc Tryz.prog w base (fun _=>true) held fuel 28 l=some x) (hl:l.length=3) :
 ∃ (n d:Int) (A:Option Addr) (c:Nat) (m:List Pt),l=[.int .i64 n,.int .i64 d,.slice A m.length c]/\(-9223372036854775808<=n/\n<=9223372036854775807)/\(-9223372036854775808<=d/\d<=9223372036854775807)/\Sl w 3 A m.length c (vp m)/\(A=none->c=0)/\∀ p∈m,p.Fits:=by
 obtain⟨c0,c1,c2,rfl⟩:=q2mi l hl
 obtain⟨m4,y4,h4⟩:=q2m5 Tryz.underlying28 h (i:=0) rfl rfl rfl q2mr
 obtain⟨m5,y5,h5⟩:=q2m5 Tryz.underlying28 h (i:=1) rfl rfl rfl q2mm
 have h4':DataW.trod enc Tryz.prog w base (fun _=>true) held m4 23 [c0,c1]=some y4:=by simpa using h4
 have h5':DataW.trod enc Tryz.prog w base (fun _=>true) held m5 26 [c2]=some y5:=by simpa using h5
 obtain⟨n,d,e4,w4,w5⟩:=q2ms h4' rfl
 obtain⟨A,c,m,e5,hs,hn,hf⟩:=q2mq h5' rfl
 simp at e4 e5
 obtain⟨rfl,rfl⟩:=e4
 subst e5
 exact⟨n,d,A,c,m,rfl,w4,w5,hs,hn,hf⟩
theorem q2mw {w:World} {n d:Int} {A:Option Addr} {c:Nat} {l:List Pt} (hs:Sl w 3 A l.length c (vp l)) (h0:A=none->c=0):Go.Tx.VR (Go.Tx.Emb.fro fun k=>w.heap[k]?) (.agg [.int .i64 n,.int .i64 d,.fz Go.Tx.RP (Go.Tx.toPs l)]) (.agg #[.int .i64 n,.int .i64 d,.slice A l.length c]) :=
 Go.Tx.VR.aggL (Go.Tx.VRs.cons (.int _ _) (Go.Tx.VRs.cons (.int _ _) (Go.Tx.VRs.cons (Go.Tx.sl_fz (τ:=Go.Tx.RP) rfl (Go.Tx.toPs_len l) (Go.Tx.valsL_toP l) hs h0) Go.Tx.VRs.nil)))
end
end Go.Proofs.YtfjjdnaggblaaaaGreat