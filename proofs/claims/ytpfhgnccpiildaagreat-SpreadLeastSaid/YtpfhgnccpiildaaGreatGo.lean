/- Walks of the references; the orders agree; examples. -/
import Derived.Test.YtpfhgnccpiildaaGreatGn
set_option linter.unusedSimpArgs false
set_option linter.unusedVariables false
namespace Go.Proofs.YtpfhgnccpiildaaGreat
open Go.RowKit Go.Pel
end Go.Proofs.YtpfhgnccpiildaaGreat

namespace Go.Pel
open Go Go.RowKit
end Go.Pel
namespace Go.Proofs.YtpfhgnccpiildaaGreat
open Go.RowKit Go.Pel
end Go.Proofs.YtpfhgnccpiildaaGreat

namespace Go.Pel
open Go Go.RowKit
theorem q430 (l:List Pt):incB l=true↔l.Pairwise fun p q=>p.id<q.id:=by
  constructor
  · intro h; rw [List.pairwise_iff_getElem]; intro i j hi hj hij
    exact qfw h hij (List.getElem?_eq_getElem hi) (List.getElem?_eq_getElem hj)
  · intro h; rw [qfv]; intro i p q hp hq
    obtain ⟨h1,e1⟩:=List.getElem?_eq_some_iff.1 hp
    obtain ⟨h2,e2⟩:=List.getElem?_eq_some_iff.1 hq
    rw [← e1,← e2];exact List.pairwise_iff_getElem.1 h i (i+1) h1 h2 (by omega)
theorem q431 {l:List Pt}:qfx l=0↔l.length≤64∧(∀ p∈l,p.chk=0)∧l.Pairwise fun p q=>p.id<q.id:=by
  rw [← q430]
  exact ⟨qg2,fun h=>qg1 h.1 h.2.1 h.2.2⟩
theorem q432 {l m:List Pt} (hs:m.Sublist l) (h:qfx l=0):qfx m=0:=by
  rw [q431] at h ⊢
  exact ⟨Nat.le_trans hs.length_le h.1,fun p hp=>h.2.1 p (hs.subset hp),h.2.2.sublist hs⟩
theorem q439 {l:List Pt} {p:Pt} (h:p∈l):hasB l p.id=true:=by
  unfold hasB;rw [List.any_eq_true];exact ⟨p,h,by simp⟩
theorem q43b {l:List Pt} (h:incB l=true) {k:Nat} {p:Pt} (hk:l[k]?=some p):lowB l p.id=k:=by
  have hkl:=(List.getElem?_eq_some_iff.1 hk).1
  refine qg7 (by omega) (fun i q hi hq=>qfw h hi hq hk) ?_
  intro q hq
  rw [hk] at hq;obtain rfl:=Option.some.inj hq;exact Int.le_refl _
theorem q3s8 {l:List Pt} (h:qfx l=0) {k:Nat} {p:Pt} (hk:l[k]?=some p):qgf l p.id=(p,0):=by
  have hinc:=(qg2 h).2.2
  unfold qgf
  rw [if_neg (by simpa using h),if_pos (q439 (List.mem_of_getElem? hk)),q43b hinc hk,List.getD_eq_getElem?_getD,hk];rfl
theorem q43g {l:List Pt} (h:qfx l=0) {k:Nat} {p:Pt} (hk:l[k]?=some p):qgh l p.id=(l.eraseIdx k,0):=by
  have hinc:=(qg2 h).2.2
  unfold qgh
  rw [if_neg (by simpa using h),if_pos (q439 (List.mem_of_getElem? hk)),q43b hinc hk,List.eraseIdx_eq_take_drop_succ]
def insP (l:List Pt) (p:Pt):List Pt:=l.take (lowB l p.id)++p :: l.drop (lowB l p.id)
theorem q4n {l:List Pt} (h:qfx l=0) {p:Pt} (hp:p.chk=0) (hb:hasB l p.id=false) (hl:l.length≠64):qgg l p=(insP l p,0):=by
  unfold qgg
  rw [if_neg (by simpa using h),if_neg (by simpa using hp),hb,if_neg hl];rfl
end Go.Pel

namespace Go.Proofs.YtpfhgnccpiildaaGreat
open Go Go.Tx Go.Pel
theorem q442 (d:Nat) {l:List T3} (hlen:l.length≤1000) {n dd:Int} (hn:i64B n=true) (hdd:i64B dd=true):qvt d ((l,()),(n,dd,()),())=some (qs5 (ptsL l) n dd):=by
  rw [qvu _ _ (by unfold qvs;simp only [hn,hdd,Bool.and_self,Bool.true_and,decide_eq_true_eq];rw [qil];omega)]
theorem q443 {l:List T3} {n d:Int} (h:qs5 (ptsL l) n d=0):FldOk l∧qfx (ptsL l)=0∧qcv n d=0:=by
  unfold qs5 at h
  by_cases h0:qfx (ptsL l)=0
  · rw [if_neg (by simpa using h0)] at h
    exact ⟨q3pw h0,h0,h⟩
  · rw [if_pos h0] at h;exact absurd h h0
theorem q444 {l:List T3} (h:FldOk l) (n dd:Int):(ordI n dd (ptsL l)).Pairwise fun a b=>a.id≠b.id:=by
  have hp:=qur n dd (ptsL l)
  refine (hp.pairwise_iff (R:=fun a b:Pt=>a.id≠b.id) (fun {a b} h=>Ne.symm h)).2 ?_
  unfold ptsL
  rw [List.pairwise_map]
  exact h.inc.imp fun {a b} hab=>by show a.1≠b.1;omega
theorem q445 (d:Nat) {l:List T3} (h:FldOk l) (h0:qfx (ptsL l)=0) {r:T3} (hr:r∈l) (n dd:Int) (h1:r.1≠(ldT l n dd).1) (h2:r.1≠(lasT l n dd).1) :
    ∃ few:List T3,q386 d ((l,()),(r.1,()),())=some (few,0)∧FldOk few∧qfx (ptsL few)=0∧few ≠ []∧ldT few n dd=ldT l n dd∧lasT few n dd=lasT l n dd:=by
  have hl:l ≠ []:=fun e=>by rw [e] at hr;cases hr
  obtain ⟨k,hk⟩:=List.mem_iff_getElem?.1 hr
  have hk2:(ptsL l)[k]?=some (ofP r):=by unfold ptsL;rw [List.getElem?_map,hk];rfl
  have e1:=q43g h0 hk2
  have e2:(ptsL l).eraseIdx k=ptsL (l.eraseIdx k):=by unfold ptsL;rw [List.eraseIdx_eq_take_drop_succ,List.eraseIdx_eq_take_drop_succ,List.map_append,List.map_take,List.map_drop]
  have hch:qfx (ptsL (l.eraseIdx k))=0:=by rw [← e2];exact q432 (List.eraseIdx_sublist _ k) h0
  have hsub:∀ q∈l.eraseIdx k,q∈l:=fun q hq=>(List.eraseIdx_sublist l k).subset hq
  have hin:∀ q∈l,q.1≠r.1→q∈l.eraseIdx k:=fun q hq hne=>by
    obtain ⟨j,hj⟩:=List.mem_iff_getElem?.1 hq
    rw [List.mem_eraseIdx_iff_getElem?]
    refine ⟨j,fun e=>?_,hj⟩
    rw [e,hk] at hj
    injection hj with hj
    exact hne (by rw [hj])
  have hok:=q3pw hch
  have i1:=q3sa hl n dd
  have i2:=q3w8 hl n dd
  have j1:=hin _ i1.1 (Ne.symm h1)
  have j2:=hin _ i2.1 (Ne.symm h2)
  have hne:l.eraseIdx k ≠ []:=fun e=>by rw [e] at j1;cases j1
  refine ⟨l.eraseIdx k,?_,hok,hch,hne,?_,?_⟩
  · rw [q387 _ _ rfl]
    show some (toPs (qgh (ptsL l) r.1).1,(qgh (ptsL l) r.1).2)=_
    rw [show qgh (ptsL l) r.1=((ptsL l).eraseIdx k,0) from e1,e2]
    exact congrArg (fun x=>some (x,0)) (q3r8 _)
  · exact Lead.uniq hok (q3sa hne n dd) ⟨j1,fun q hq=>i1.2 q (hsub q hq)⟩
  · exact Last.uniq hok (q3w8 hne n dd) ⟨j2,fun q hq=>i2.2 q (hsub q hq)⟩
theorem q446 (d:Nat) (hd:5000≤d) (ea:q3d3 d ()=some true) (l:List T3) (n dd i:Int) (hn:i64B n=true) (hdd:i64B dd=true):q3l5 d ((l,()),(n,dd,()),(i,()),())=some true:=by
  obtain ⟨g,e0,hsm⟩:=q3xq d l
  have z0:((0:Int) != 0)=false:=rfl
  cases g with
  | true=>simp only [q3l5,q3jf,q3jl,q3jp,q3jt,q3jx,Dt.eval,ea,e0,cond_true]
  | false =>
    have e1:=q442 d (hsm rfl).1 hn hdd
    by_cases hc:qs5 (ptsL l) n dd=0
    · rw [hc] at e1
      obtain ⟨h,h0,hr⟩:=q443 hc
      by_cases hl0:l.length=0
      · simp only [q3l5,q3jf,q3jl,q3jp,q3jt,q3jx,Dt.eval,ea,e0,e1,z0,cond_true,cond_false,show ((l.length:Int) == 0)=true by rw [hl0];rfl]
      · have hl1 : ((l.length : Int) == 0) = false := by rw [beq_eq_false_iff_ne]; omega
        have hl:l ≠ []:=fun e=>hl0 (by rw [e];rfl)
        have hl64:=h.len
        have hcs:=q3wx hl h h0 hr
        have e2:=q3s7 d h.len h0 hn hdd hr
        have e3:=q3wk d hd l hn hdd
        unfold q3wj at e3
        rw [if_neg (by simpa using hcs)] at e3
        obtain ⟨L,hL,hLl,b1,b2,b3,b4⟩:=q3wb hl h.len n dd
        rw [hL] at e2
        have hlb:((L.length:Int) != (l.length:Int))=false:=by rw [hLl];exact bne_self_eq_false _
        have hw:IntKind.wrap .i64 ((L.length:Int) - 1)=(l.length:Int) - 1:=by rw [hLl];exact IntWalk.i64_in _ (by omega)
        by_cases hi1:i<1
        · simp only [q3l5,q3jf,q3jl,q3jp,q3jt,q3jx,q3k1,q3k5,q3k9,q3kb,q3kf,q3kh,Dt.eval,ea,e0,e1,z0,cond_true,cond_false,hl1,Bool.not_true,e2,e3,hlb,b1,b2,b3,b4,bne_self_eq_false,decide_eq_true hi1]
        · by_cases hi2 : i ≥ (l.length : Int) - 1
          · have c2 : decide (i ≥ IntKind.wrap .i64 ((L.length : Int) - 1)) = true := by rw [hw]; exact decide_eq_true hi2
            simp only [q3l5,q3jf,q3jl,q3jp,q3jt,q3jx,q3k1,q3k5,q3k9,q3kb,q3kf,q3kh,Dt.eval,ea,e0,e1,z0,cond_true,cond_false,hl1,Bool.not_true,e2,e3,hlb,b1,b2,b3,b4,bne_self_eq_false,decide_eq_false hi1,c2]
          · have c2 : decide (i ≥ IntKind.wrap .i64 ((L.length : Int) - 1)) = false := by rw [hw]; exact decide_eq_false hi2
            obtain ⟨k,rfl⟩:∃ k:Nat,i=k:=⟨i.toNat,by omega⟩
            have hkl:k<l.length - 1:=by omega
            have hol:=q3w6 l n dd
            obtain ⟨P,hP⟩:∃ P,(ordI n dd (ptsL l))[k]?=some P:=⟨_,List.getElem?_eq_getElem (by omega)⟩
            obtain ⟨r,hrl,rfl⟩:=q3s3 ((qur n dd (ptsL l)).mem_iff.1 (List.mem_of_getElem? hP))
            have hLk:L[k]?=some (r.1,()):=by
              rw [← hL];unfold unI;rw [List.getElem?_map,List.getElem?_map,hP];rfl
            have hpw:=List.pairwise_iff_getElem.1 (q444 h n dd)
            obtain ⟨w1,w2⟩:=List.getElem?_eq_some_iff.1 (q3w9 hl n dd)
            obtain ⟨w3,w4⟩:=List.getElem?_eq_some_iff.1 (q3w7 hl n dd)
            obtain ⟨w5,w6⟩:=List.getElem?_eq_some_iff.1 hP
            have n1:r.1≠(ldT l n dd).1:=by
              have:=hpw 0 k w1 w5 (by omega)
              rw [w2,w6] at this
              exact fun e=>this e.symm
            have n2:r.1≠(lasT l n dd).1:=by
              have:=hpw k (l.length - 1) w5 w3 hkl
              rw [w4,w6] at this
              exact this
            obtain ⟨few,f1,f2,f3,f4,f5,f6⟩:=q445 d h h0 hrl n dd n1 n2
            have c3:=q3q8 (show k<L.length by omega)
            have c4:=q3q7 (z:=zi) hLk
            have g1:=q3wy d hd hl h h0 hn hdd hr
            have g2:=q3wy d hd f4 f2 f3 hn hdd hr
            have g3:=q3wu d hd l hn hdd
            have g4:=q3wu d hd few hn hdd
            have q1:slV few n dd=slV l n dd:=by unfold slV;rw [f5,f6]
            have q2:spV few n dd=spV l n dd:=by
              unfold spV
              rw [if_neg (by simpa using q3wx f4 f2 f3 hr),if_neg (by simpa using hcs),f5,f6]
            rw [q1] at g2
            rw [q2] at g4
            simp only [q3l5,q3jf,q3jl,q3jp,q3jt,q3jx,q3k1,q3k5,q3k9,q3kb,q3kf,q3kh,q3kl,q3kp,q3kt,q3kx,q3l1,q3l3,Dt.eval,ea,e0,e1,z0,cond_true,cond_false,hl1,Bool.not_true,e2,e3,hlb,b1,b2,b3,b4,bne_self_eq_false,decide_eq_false hi1,c2,c3,c4,f1,g1,g2,g3,g4,beq_self_eq_true,Bool.and_self]
    · simp only [q3l5,q3jf,q3jl,q3jp,q3jt,q3jx,Dt.eval,ea,e0,e1,show (qs5 (ptsL l) n dd != 0)=true by simpa using hc,cond_true,cond_false]
end Go.Proofs.YtpfhgnccpiildaaGreat
