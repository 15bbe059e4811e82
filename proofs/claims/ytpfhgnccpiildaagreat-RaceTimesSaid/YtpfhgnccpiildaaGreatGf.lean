/- Walks of the references; the orders agree; examples. -/
import Derived.Test.YtpfhgnccpiildaaGreatGe
set_option linter.unusedSimpArgs false
set_option linter.unusedVariables false
namespace Go.Proofs.YtpfhgnccpiildaaGreat
open Go Go.Tx Go.Proofs.Tryz
set_option maxRecDepth 100000
set_option maxHeartbeats 0
abbrev q1is:List Pk:=[.row Ru false,.row Ru false]
abbrev q1it:Type:=Du×Du×Unit
abbrev q1iu:Type:=Int
def q1iv (r:q1iu):LV×List Ob:=(.int .u64 r,[])
def q1iw (F:q1it→Option q1iu):Go.Tx.Spec:=⟨119,q1is,q1iu,F,q1iv⟩
abbrev q1ix:Type:=Unit
def q1iy (_d:Nat):q1ix:=()
def q1iz (C:q1ix):List Go.Tx.Spec:=[]
abbrev q1j0:Type:=Int×Int
def q1j1 (v:q1j0):St:=⟨[(0,u6 v.1),(1,u6 v.2)],[]⟩
def q1j2 (C:q1ix) (v:q1j0):Dt q1j0:=(Dt.ret (v.1,v.2))
abbrev q34o {V Y:Type}:=@rg q1ix V Y tysT (fun C=>(orc (q1iz C))) 12
theorem q1j3 C v:q34o (regO (qct f119) 0) false (an [0,1]) q1j1 q1j2 q1j1 C v:=rgI (by kernel_rfl)
abbrev q1j4:Type:=Int×Int×Bool
def q1j5 (v:q1j4):St:=⟨[(0,u6 v.1),(1,u6 v.2.1),(6,.bool v.2.2)],[]⟩
def q1j6 (C:q1ix) (v:q1j0):Dt q1j4:=(Dt.ret (v.1,v.2,(decide (v.2 > (0:Int)))))
theorem q1j7 C v:q34o (regO (qct f119) 1) false (an [0,1,6]) q1j1 q1j6 q1j5 C v:=rgI (by kernel_rfl)
def q1j8 (C:q1ix) (v:q1j4):Dt q1j0:=(Dt.ite (v.2.1 == (0:Int)) Dt.fail (Dt.ret (v.2.1,(Int.tmod v.1 v.2.1))))
theorem q1j9 C v:q34o (regO (qct f119) 2) true (an [0,1]) q1j5 q1j8 q1j1 C v:=rgI (by kernel_rfl)
abbrev q1ja:Type:=Int
def q1jb (v:q1ja):St:=⟨[(4,u6 v)],[]⟩
def q1jc (C:q1ix) (v:q1j4):Dt q1ja:=(Dt.ret v.1)
theorem q1jd C v:q34o (regO (qct f119) 3) false [(4,.any)] q1j5 q1jc q1jb C v:=rgI (by kernel_rfl)
def q1je (d:Nat) (self1:(Int×Int)→Option q1iu) (x1:Int×Int):Option q1iu :=
 (q1j6 (q1iy d) x1).eval fun y1 =>
 bif y1.2.2 then ((q1j8 (q1iy d) y1).eval fun y2 =>
 self1 y2) else ((q1jc (q1iy d) y1).eval fun y3 =>
 some y3)
def q1jf (d:Nat) (x:q1it):Option q1iu :=
 (q1j2 (q1iy d) (x.1.1,x.2.1.1)).eval fun y0 =>
 iter (q1je d ) d y0
theorem q1jg (d:Nat):COK prog (q1iw (q1jf d)):=by
 have hm:prog.follows .mixedOrders=true:=mixed
 have hT:=tys
 have hC0:OrcOK prog (orc (q1iz (q1iy d))):=qcn (by
  intro S hS
  simp only [q1iz,List.mem_cons,List.not_mem_nil,or_false] at hS
  all_goals first | cases hS | exact hS.elim)
 have hC:OrcOK prog (orc (q1iz (q1iy d))):=hC0
 refine q8c (c:=qct f119) (fn:=f119) hT (by kernel_rfl) (by kernel_rfl) (by decide) fun x r h w0 φ0 Q hend=>?_
 replace h:q1jf d x=some r:=h
 unfold q1jf at h
 show Run prog w0 φ0 12 (qct f119) ⟨[(0,.int .u64 x.1.1),(1,.int .u64 x.2.1.1)],[]⟩ Q
 refine q342 hm hT hC (q1j3 (q1iy d) (x.1.1,x.2.1.1)) h fun y0 h=>?_
 refine q7w (q7x ?_)
 refine q82 (G:=iter (q1je d )) (S:=(fun x1=>⟨[(0,u6 x1.1),(1,u6 x1.2)],[]⟩:Int×Int→St)) (fun _=>rfl) ?_ d _ h
 intro n1 x1 h K1 hn1
 replace h:q1je d  (iter (q1je d ) n1) x1=some r:=h
 generalize iter (q1je d ) n1=self1 at h hn1
 unfold q1je at h
 refine q7w ?_
 refine q342 hm hT hC (q1j7 (q1iy d) x1) h fun y1 h=>?_
 refine q80 (v:=y1.2.2) (by kernel_rfl) h ?_ ?_
 ·
  intro h
  refine q7s (q7i (q7x ?_))
  refine q81 hm hT hC (q1j9 (q1iy d) y1) h ?_
  intro y2 h
  refine q7l ?_
  exact hn1 _ h
 ·
  intro h
  refine q7u (q7j (q7j (q7n (q7i ?_))))
  refine q342 hm hT hC (q1jd (q1iy d) y1) h fun y3 h=>?_
  refine q7v ?_
  cases h
  exact (hend _ (by kernel_rfl)).2
abbrev q1jh:List Pk:=[.row Rbuu true,.row Rbuu true]
abbrev q1ji:Type:=Dbuu×Dbuu×Unit
abbrev q1jj:Type:=Bool×Int×Int
def q1jk (r:q1jj):LV×List Ob:=(.agg [.bool r.1,.int .u64 r.2.1,.int .u64 r.2.2],[])
def q1jl (F:q1ji→Option q1jj):Go.Tx.Spec:=⟨120,q1jh,q1jj,F,q1jk⟩
abbrev q1jm:Type:=(q13x→Option q13y)×Unit
def q1jn (d:Nat):q1jm:=(q14o d,())
def q1jo (C:q1jm):List Go.Tx.Spec:=[q140 C.1]
abbrev q1jp:Type:=Bool×Int×Int×Bool×Int×Int
def q1jq (v:q1jp):St:=⟨[(0,.agg [.bool v.1,u6 v.2.1,u6 v.2.2.1]),(1,.agg [.bool v.2.2.2.1,u6 v.2.2.2.2.1,u6 v.2.2.2.2.2])],[]⟩
abbrev q1jr:Type:=Bool×Int×Int×Bool×Int×Int×Bool×Int×Int
def q1js (v:q1jr):St:=⟨[(2,.ptr 0 0),(3,.ptr 1 0),(4,.ptr 2 0)],[.cells [.bool v.1,u6 v.2.1,u6 v.2.2.1],.cells [.bool v.2.2.2.1,u6 v.2.2.2.2.1,u6 v.2.2.2.2.2.1],.cells [.bool v.2.2.2.2.2.2.1,u6 v.2.2.2.2.2.2.2.1,u6 v.2.2.2.2.2.2.2.2]]⟩
def q1jt (C:q1jm) (v:q1jp):Dt q1jr:=(Dt.ret (v.1,v.2.1,v.2.2.1,v.2.2.2.1,v.2.2.2.2.1,v.2.2.2.2.2,false,(0:Int),(0:Int)))
abbrev q34p {V Y:Type}:=@rg q1jm V Y tysT (fun C=>(orcI 145 q1ct (orcI 106 q1cu (orc (q1jo C))))) 68
theorem q1ju C v:q34p (regO (qct f120) 0) false (an [2,3,4]) q1jq q1jt q1js C v:=rgI (by kernel_rfl)
abbrev q1jv:Type:=Bool×Bool×Int×Int×Bool×Int×Int×Bool×Int×Int
def q1jw (v:q1jv):St:=⟨[(2,.ptr 0 0),(3,.ptr 1 0),(4,.ptr 2 0),(17,.bool v.1)],[.cells [.bool v.2.1,u6 v.2.2.1,u6 v.2.2.2.1],.cells [.bool v.2.2.2.2.1,u6 v.2.2.2.2.2.1,u6 v.2.2.2.2.2.2.1],.cells [.bool v.2.2.2.2.2.2.2.1,u6 v.2.2.2.2.2.2.2.2.1,u6 v.2.2.2.2.2.2.2.2.2]]⟩
def q1jx (C:q1jm) (v:q1jr):Dt q1jv:=(Dt.ret ((v.1 == v.2.2.2.1),v.1,v.2.1,v.2.2.1,v.2.2.2.1,v.2.2.2.2.1,v.2.2.2.2.2.1,v.2.2.2.2.2.2.1,v.2.2.2.2.2.2.2.1,v.2.2.2.2.2.2.2.2))
theorem q1jy C v:q34p (regO (qct f120) 1) false (an [2,3,4,17]) q1js q1jx q1jw C v:=rgI (by kernel_rfl)
abbrev q1jz:Type:=Int×Int×Bool×Int×Int×Bool×Int×Int×Bool×Int×Int
def q1k0 (v:q1jz):St:=⟨[(2,.ptr 0 0),(3,.ptr 1 0),(4,.ptr 2 0),(5,u6 v.1),(6,u6 v.2.1)],[.cells [.bool v.2.2.1,u6 v.2.2.2.1,u6 v.2.2.2.2.1],.cells [.bool v.2.2.2.2.2.1,u6 v.2.2.2.2.2.2.1,u6 v.2.2.2.2.2.2.2.1],.cells [.bool v.2.2.2.2.2.2.2.2.1,u6 v.2.2.2.2.2.2.2.2.2.1,u6 v.2.2.2.2.2.2.2.2.2.2]]⟩
def q1k1 (C:q1jm) (v:q1jv):Dt q1jz:=(Dt.bnd (q1ct (v.2.2.2.1) (v.2.2.2.2.2.2.1) ((0:Int))) fun r1=>(Dt.ret (r1.1,r1.2,v.2.1,v.2.2.1,v.2.2.2.1,v.2.2.2.2.1,v.2.2.2.2.2.1,v.2.2.2.2.2.2.1,v.2.2.2.2.2.2.2.1,v.2.2.2.2.2.2.2.2.1,v.2.2.2.2.2.2.2.2.2)))
theorem q1k2 C v:q34p (regO (qct f120) 2) false (an [2,3,4,5,6]) q1jw q1k1 q1k0 C v:=rgI (by kernel_rfl)
abbrev q1k3:Type:=Int×Int×Bool×Int×Int×Bool×Int×Int
def q1k4 (v:q1k3):St:=⟨[(2,.ptr 0 0),(4,.ptr 1 0),(5,u6 v.1),(7,u6 v.2.1)],[.cells [.bool v.2.2.1,u6 v.2.2.2.1,u6 v.2.2.2.2.1],.cells [.bool v.2.2.2.2.2.1,u6 v.2.2.2.2.2.2.1,u6 v.2.2.2.2.2.2.2]]⟩
def q1k5 (C:q1jm) (v:q1jz):Dt q1k3:=(Dt.bnd (q1ct (v.2.2.2.1) (v.2.2.2.2.2.2.1) (v.2.1)) fun r1=>(Dt.ret (v.1,r1.1,v.2.2.1,v.2.2.2.1,v.2.2.2.2.1,v.2.2.2.2.2.2.2.2.1,v.2.2.2.2.2.2.2.2.2.1,v.2.2.2.2.2.2.2.2.2.2)))
theorem q1k6 C v:q34p (regO (qct f120) 3) false (an [2,4,5,7]) q1k0 q1k5 q1k4 C v:=rgI (by kernel_rfl)
abbrev q1k7:Type:=Bool×Int×Int
def q1k8 (v:q1k7):St:=⟨[(4,.ptr 0 0)],[.cells [.bool v.1,u6 v.2.1,u6 v.2.2]]⟩
def q1k9 (C:q1jm) (v:q1k3):Dt q1k7:=(Dt.ret (v.2.2.1,v.2.1,v.1))
theorem q1ka C v:q34p (regO (qct f120) 4) false [(4,.any)] q1k4 q1k9 q1k8 C v:=rgI (by kernel_rfl)
abbrev q1kb:Type:=Bool×Bool×Int×Int×Bool×Int×Int×Bool×Int×Int
def q1kc (v:q1kb):St:=⟨[(2,.ptr 0 0),(3,.ptr 1 0),(4,.ptr 2 0),(43,.bool v.1)],[.cells [.bool v.2.1,u6 v.2.2.1,u6 v.2.2.2.1],.cells [.bool v.2.2.2.2.1,u6 v.2.2.2.2.2.1,u6 v.2.2.2.2.2.2.1],.cells [.bool v.2.2.2.2.2.2.2.1,u6 v.2.2.2.2.2.2.2.2.1,u6 v.2.2.2.2.2.2.2.2.2]]⟩
def q1kd (C:q1jm) (v:q1jv):Dt q1kb:=(Dt.bnd (C.1 ((v.2.1,v.2.2.1,v.2.2.2.1,()),(v.2.2.2.2.1,v.2.2.2.2.2.1,v.2.2.2.2.2.2.1,()),())) fun r1=>(Dt.ret ((decide (r1<(0:Int))),v.2.1,v.2.2.1,v.2.2.2.1,v.2.2.2.2.1,v.2.2.2.2.2.1,v.2.2.2.2.2.2.1,v.2.2.2.2.2.2.2.1,v.2.2.2.2.2.2.2.2.1,v.2.2.2.2.2.2.2.2.2)))
theorem q1ke C v:q34p (regO (qct f120) 5) false (an [2,3,4,43]) q1jw q1kd q1kc C v:=rgI (by kernel_rfl)
def q1kf (C:q1jm) (v:q1kb):Dt q1jr:=(Dt.ret (v.2.2.2.2.1,v.2.2.2.2.2.1,v.2.2.2.2.2.2.1,v.2.1,v.2.2.1,v.2.2.2.1,v.2.2.2.2.2.2.2.1,v.2.2.2.2.2.2.2.2.1,v.2.2.2.2.2.2.2.2.2))
theorem q1kg C v:q34p (regO (qct f120) 6) false (an [2,3,4]) q1kc q1kf q1js C v:=rgI (by kernel_rfl)
abbrev q1kh:Type:=Int×Int×Bool×Int×Int×Bool×Int×Int×Bool×Int×Int
def q1ki (v:q1kh):St:=⟨[(2,.ptr 0 0),(3,.ptr 1 0),(4,.ptr 2 0),(9,u6 v.1),(10,u6 v.2.1)],[.cells [.bool v.2.2.1,u6 v.2.2.2.1,u6 v.2.2.2.2.1],.cells [.bool v.2.2.2.2.2.1,u6 v.2.2.2.2.2.2.1,u6 v.2.2.2.2.2.2.2.1],.cells [.bool v.2.2.2.2.2.2.2.2.1,u6 v.2.2.2.2.2.2.2.2.2.1,u6 v.2.2.2.2.2.2.2.2.2.2]]⟩
def q1kj (C:q1jm) (v:q1jr):Dt q1kh:=(Dt.bnd (q1cu (v.2.2.1) (v.2.2.2.2.2.1) ((0:Int))) fun r1=>(Dt.ret (r1.1,r1.2,v.1,v.2.1,v.2.2.1,v.2.2.2.1,v.2.2.2.2.1,v.2.2.2.2.2.1,v.2.2.2.2.2.2.1,v.2.2.2.2.2.2.2.1,v.2.2.2.2.2.2.2.2)))
theorem q1kk C v:q34p (regO (qct f120) 7) false (an [2,3,4,9,10]) q1js q1kj q1ki C v:=rgI (by kernel_rfl)
abbrev q1kl:Type:=Int×Int×Bool×Int×Int×Bool×Int×Int
def q1km (v:q1kl):St:=⟨[(2,.ptr 0 0),(4,.ptr 1 0),(9,u6 v.1),(11,u6 v.2.1)],[.cells [.bool v.2.2.1,u6 v.2.2.2.1,u6 v.2.2.2.2.1],.cells [.bool v.2.2.2.2.2.1,u6 v.2.2.2.2.2.2.1,u6 v.2.2.2.2.2.2.2]]⟩
def q1kn (C:q1jm) (v:q1kh):Dt q1kl:=(Dt.bnd (q1cu (v.2.2.2.1) (v.2.2.2.2.2.2.1) (v.2.1)) fun r1=>(Dt.ret (v.1,r1.1,v.2.2.1,v.2.2.2.1,v.2.2.2.2.1,v.2.2.2.2.2.2.2.2.1,v.2.2.2.2.2.2.2.2.2.1,v.2.2.2.2.2.2.2.2.2.2)))
theorem q1ko C v:q34p (regO (qct f120) 8) false (an [2,4,9,11]) q1ki q1kn q1km C v:=rgI (by kernel_rfl)
def q1kp (C:q1jm) (v:q1kl):Dt q1k7:=(Dt.ret (v.2.2.1,v.2.1,v.1))
theorem q1kq C v:q34p (regO (qct f120) 9) false [(4,.any)] q1km q1kp q1k8 C v:=rgI (by kernel_rfl)
def q1kr  (d:Nat)  (z:Bool×Int×Int×Bool×Int×Int×Bool×Int×Int):Option (q1jj) :=
 (q1kj (q1jn d) z).eval fun y7 =>
 (q1kn (q1jn d) y7).eval fun y8 =>
 (q1kp (q1jn d) y8).eval fun y9 =>
 some y9
def q1ks (d:Nat) (x:q1ji):Option q1jj :=
 (q1jt (q1jn d) (x.1.1,x.1.2.1,x.1.2.2.1,x.2.1.1,x.2.1.2.1,x.2.1.2.2.1)).eval fun y0 =>
 (q1jx (q1jn d) y0).eval fun y1 =>
 bif y1.1 then ((q1k1 (q1jn d) y1).eval fun y2 =>
 (q1k5 (q1jn d) y2).eval fun y3 =>
 (q1k9 (q1jn d) y3).eval fun y4 =>
 some y4) else ((q1kd (q1jn d) y1).eval fun y5 =>
 bif y5.1 then ((q1kf (q1jn d) y5).eval fun y6 =>
 q1kr d  y6) else (q1kr d  y5.2))
theorem q1kt (d:Nat):COK prog (q1jl (q1ks d)):=by
 have hm:prog.follows .mixedOrders=true:=mixed
 have hT:=tys
 have hC0:OrcOK prog (orc (q1jo (q1jn d))):=qcn (by
  intro S hS
  simp only [q1jo,List.mem_cons,List.not_mem_nil,or_false] at hS
  subst hS;exact q14p d)
 have hC:OrcOK prog (orcI 145 q1ct (orcI 106 q1cu (orc (q1jo (q1jn d))))):=(q1cv q1cy (q1cv q1cz hC0))
 refine q8c (c:=qct f120) (fn:=f120) hT (by kernel_rfl) (by kernel_rfl) (by decide) fun x r h w0 φ0 Q hend=>?_
 replace h:q1ks d x=some r:=h
 unfold q1ks at h
 show Run prog w0 φ0 68 (qct f120) ⟨[(0,.agg [.bool x.1.1,.int .u64 x.1.2.1,.int .u64 x.1.2.2.1]),(1,.agg [.bool x.2.1.1,.int .u64 x.2.1.2.1,.int .u64 x.2.1.2.2.1])],[]⟩ Q
 refine q342 hm hT hC (q1ju (q1jn d) (x.1.1,x.1.2.1,x.1.2.2.1,x.2.1.1,x.2.1.2.1,x.2.1.2.2.1)) h fun y0 h=>?_
 refine q7w ?_
 refine q342 hm hT hC (q1jy (q1jn d) y0) h fun y1 h=>?_
 refine q80 (v:=y1.1) (by kernel_rfl) h ?_ ?_
 ·
  intro h
  refine q342 hm hT hC (q1k2 (q1jn d) y1) h fun y2 h=>?_
  refine q342 hm hT hC (q1k6 (q1jn d) y2) h fun y3 h=>?_
  refine q342 hm hT hC (q1ka (q1jn d) y3) h fun y4 h=>?_
  refine q7v (q7k ?_)
  cases h
  exact (hend _ (by kernel_rfl)).2
 ·
  intro h
  refine q7s (q7i ?_)
  refine q7z (r:=r) (F:=q1kr d ) (S:=(fun z=>⟨[(2,.ptr 0 0),(3,.ptr 1 0),(4,.ptr 2 0)],[.cells [.bool z.1,u6 z.2.1,u6 z.2.2.1],.cells [.bool z.2.2.2.1,u6 z.2.2.2.2.1,u6 z.2.2.2.2.2.1],.cells [.bool z.2.2.2.2.2.2.1,u6 z.2.2.2.2.2.2.2.1,u6 z.2.2.2.2.2.2.2.2]]⟩:q1jr→St)) ?_ ?_
  ·
   intro z h
   unfold q1kr at h
   refine q342 hm hT hC (q1kk (q1jn d) z) h fun y7 h=>?_
   refine q342 hm hT hC (q1ko (q1jn d) y7) h fun y8 h=>?_
   refine q342 hm hT hC (q1kq (q1jn d) y8) h fun y9 h=>?_
   refine q7v ?_
   cases h
   exact (hend _ (by kernel_rfl)).2
  intro hj1
  refine q342 hm hT hC (q1ke (q1jn d) y1) h fun y5 h=>?_
  refine q80 (v:=y5.1) (by kernel_rfl) h ?_ ?_
  ·
   intro h
   refine q81 hm hT hC (q1kg (q1jn d) y5) h ?_
   intro y6 h
   exact hj1 _ h
  ·
   intro h
   refine q7s ?_
   refine qcs (s:=⟨[(2,.ptr 0 0),(3,.ptr 1 0),(4,.ptr 2 0)],[.cells [.bool y5.2.1,.int .u64 y5.2.2.1,.int .u64 y5.2.2.2.1],.cells [.bool y5.2.2.2.2.1,.int .u64 y5.2.2.2.2.2.1,.int .u64 y5.2.2.2.2.2.2.1],.cells [.bool y5.2.2.2.2.2.2.2.1,.int .u64 y5.2.2.2.2.2.2.2.2.1,.int .u64 y5.2.2.2.2.2.2.2.2.2]]⟩) [43] (by kernel_rfl) ?_
   exact hj1 _ h
abbrev q1ku:List Pk:=[.row Rbuu true,.row Ru false]
abbrev q1kv:Type:=Dbuu×Du×Unit
abbrev q1kw:Type:=Bool×Int×Int×Int
def q1kx (r:q1kw):LV×List Ob:=(.tup [.agg [.bool r.1,.int .u64 r.2.1,.int .u64 r.2.2.1],.int .u64 r.2.2.2],[])
def q1ky (F:q1kv→Option q1kw):Go.Tx.Spec:=⟨122,q1ku,q1kw,F,q1kx⟩
abbrev q1kz:Type:=(q1eu→Option q1ev)×Unit
def q1l0 (d:Nat):q1kz:=(q1hv d,())
def q1l1 (C:q1kz):List Go.Tx.Spec:=[q1ex C.1]
abbrev q1l2:Type:=Bool×Int×Int×Int
def q1l3 (v:q1l2):St:=⟨[(0,.agg [.bool v.1,u6 v.2.1,u6 v.2.2.1]),(1,u6 v.2.2.2)],[]⟩
abbrev q1l4:Type:=Int×Bool×Int×Int×Bool×Int×Int
def q1l5 (v:q1l4):St:=⟨[(1,u6 v.1),(2,.ptr 0 0),(4,.ptr 1 0)],[.cells [.bool v.2.1,u6 v.2.2.1,u6 v.2.2.2.1],.cells [.bool v.2.2.2.2.1,u6 v.2.2.2.2.2.1,u6 v.2.2.2.2.2.2]]⟩
def q1l6 (C:q1kz) (v:q1l2):Dt q1l4:=(Dt.ret (v.2.2.2,v.1,v.2.1,v.2.2.1,false,(0:Int),(0:Int)))
abbrev q34q {V Y:Type}:=@rg q1kz V Y tysT (fun C=>(orc (q1l1 C))) 31
theorem q1l7 C v:q34q (regO (qct f122) 0) false (an [1,2,4]) q1l3 q1l6 q1l5 C v:=rgI (by kernel_rfl)
abbrev q1l8:Type:=Int×Int×Int×Bool×Int×Int×Bool×Int×Int
def q1l9 (v:q1l8):St:=⟨[(1,u6 v.1),(2,.ptr 0 0),(4,.ptr 1 0),(6,u6 v.2.1),(7,u6 v.2.2.1)],[.cells [.bool v.2.2.2.1,u6 v.2.2.2.2.1,u6 v.2.2.2.2.2.1],.cells [.bool v.2.2.2.2.2.2.1,u6 v.2.2.2.2.2.2.2.1,u6 v.2.2.2.2.2.2.2.2]]⟩
def q1la (C:q1kz) (v:q1l4):Dt q1l8:=(Dt.ite (v.1 == (0:Int)) Dt.fail (Dt.ite (v.1 == (0:Int)) Dt.fail (Dt.ret (v.1,(IntKind.wrap .u64 (Int.tdiv v.2.2.1 v.1)),(Int.tmod v.2.2.1 v.1),v.2.1,v.2.2.1,v.2.2.2.1,v.2.2.2.2.1,v.2.2.2.2.2.1,v.2.2.2.2.2.2))))
theorem q1lb C v:q34q (regO (qct f122) 1) true (an [1,2,4,6,7]) q1l5 q1la q1l9 C v:=rgI (by kernel_rfl)
abbrev q1lc:Type:=Int×Int×Int×Bool×Int×Int×Bool×Int×Int
def q1ld (v:q1lc):St:=⟨[(2,.ptr 0 0),(4,.ptr 1 0),(6,u6 v.1),(7,u6 v.2.1),(8,u6 v.2.2.1)],[.cells [.bool v.2.2.2.1,u6 v.2.2.2.2.1,u6 v.2.2.2.2.2.1],.cells [.bool v.2.2.2.2.2.2.1,u6 v.2.2.2.2.2.2.2.1,u6 v.2.2.2.2.2.2.2.2]]⟩
def q1le (C:q1kz) (v:q1l8):Dt q1lc:=(Dt.bnd (C.1 ((v.2.2.1,()),(v.2.2.2.2.2.1,()),(v.1,()),())) fun r1=>(Dt.ret (v.2.1,r1.2,r1.1,v.2.2.2.1,v.2.2.2.2.1,v.2.2.2.2.2.1,v.2.2.2.2.2.2.1,v.2.2.2.2.2.2.2.1,v.2.2.2.2.2.2.2.2)))
theorem q1lf C v:q34q (regO (qct f122) 2) false (an [2,4,6,7,8]) q1l9 q1le q1ld C v:=rgI (by kernel_rfl)
abbrev q1lg:Type:=Int×Bool×Int×Int
def q1lh (v:q1lg):St:=⟨[(4,.ptr 0 0),(5,u6 v.1)],[.cells [.bool v.2.1,u6 v.2.2.1,u6 v.2.2.2]]⟩
def q1li (C:q1kz) (v:q1lc):Dt q1lg:=(Dt.ret (v.2.1,v.2.2.2.1,v.1,v.2.2.1))
theorem q1lj C v:q34q (regO (qct f122) 3) false (an [4,5]) q1ld q1li q1lh C v:=rgI (by kernel_rfl)
def q1lk (d:Nat) (x:q1kv):Option q1kw :=
 (q1l6 (q1l0 d) (x.1.1,x.1.2.1,x.1.2.2.1,x.2.1.1)).eval fun y0 =>
 (q1la (q1l0 d) y0).eval fun y1 =>
 (q1le (q1l0 d) y1).eval fun y2 =>
 (q1li (q1l0 d) y2).eval fun y3 =>
 some (y3.2.1,y3.2.2.1,y3.2.2.2,y3.1)
theorem q1ll (d:Nat):COK prog (q1ky (q1lk d)):=by
 have hm:prog.follows .mixedOrders=true:=mixed
 have hT:=tys
 have hC0:OrcOK prog (orc (q1l1 (q1l0 d))):=qcn (by
  intro S hS
  simp only [q1l1,List.mem_cons,List.not_mem_nil,or_false] at hS
  subst hS;exact q1hw d)
 have hC:OrcOK prog (orc (q1l1 (q1l0 d))):=hC0
 refine q8c (c:=qct f122) (fn:=f122) hT (by kernel_rfl) (by kernel_rfl) (by decide) fun x r h w0 φ0 Q hend=>?_
 replace h:q1lk d x=some r:=h
 unfold q1lk at h
 show Run prog w0 φ0 31 (qct f122) ⟨[(0,.agg [.bool x.1.1,.int .u64 x.1.2.1,.int .u64 x.1.2.2.1]),(1,.int .u64 x.2.1.1)],[]⟩ Q
 refine q342 hm hT hC (q1l7 (q1l0 d) (x.1.1,x.1.2.1,x.1.2.2.1,x.2.1.1)) h fun y0 h=>?_
 refine q342 hm hT hC (q1lb (q1l0 d) y0) h fun y1 h=>?_
 refine q342 hm hT hC (q1lf (q1l0 d) y1) h fun y2 h=>?_
 refine q342 hm hT hC (q1lj (q1l0 d) y2) h fun y3 h=>?_
 refine q7v ?_
 cases h
 exact (hend _ (by kernel_rfl)).2
abbrev q1lm:List Pk:=[.row Rbuu true,.row Ru false,.row Ru false]
abbrev q1ln:Type:=Dbuu×Du×Du×Unit
abbrev q1lo:Type:=Int×Int×Int
def q1lp (r:q1lo):LV×List Ob:=(.tup [.agg [.int .i64 r.1,.int .i64 r.2.1],.int .i64 r.2.2],[])
def q1lq (F:q1ln→Option q1lo):Go.Tx.Spec:=⟨124,q1lm,q1lo,F,q1lp⟩
abbrev q1lr:Type:=Unit
def q1ls (_d:Nat):q1lr:=()
def q1lt (C:q1lr):List Go.Tx.Spec:=[]
abbrev q1lu:Type:=Bool×Int×Int×Int×Int
def q1lv (v:q1lu):St:=⟨[(0,.agg [.bool v.1,u6 v.2.1,u6 v.2.2.1]),(1,u6 v.2.2.2.1),(2,u6 v.2.2.2.2)],[]⟩
abbrev q1lw:Type:=Int×Int×Bool×Int×Int×Int×Int
def q1lx (v:q1lw):St:=⟨[(1,u6 v.1),(2,u6 v.2.1),(3,.ptr 0 0),(6,.ptr 1 0)],[.cells [.bool v.2.2.1,u6 v.2.2.2.1,u6 v.2.2.2.2.1],.cells [i6 v.2.2.2.2.2.1,i6 v.2.2.2.2.2.2]]⟩
def q1ly (C:q1lr) (v:q1lu):Dt q1lw:=(Dt.ret (v.2.2.2.1,v.2.2.2.2,v.1,v.2.1,v.2.2.1,(0:Int),(0:Int)))
abbrev q34r {V Y:Type}:=@rg q1lr V Y tysT (fun C=>(orc (q1lt C))) 39
theorem q1lz C v:q34r (regO (qct f124) 0) false (an [1,2,3,6]) q1lv q1ly q1lx C v:=rgI (by kernel_rfl)
abbrev q1m0:Type:=Int×Bool×Bool×Int×Int×Int×Int
def q1m1 (v:q1m0):St:=⟨[(2,u6 v.1),(3,.ptr 0 0),(6,.ptr 1 0),(24,.bool v.2.1)],[.cells [.bool v.2.2.1,u6 v.2.2.2.1,u6 v.2.2.2.2.1],.cells [i6 v.2.2.2.2.2.1,i6 v.2.2.2.2.2.2]]⟩
def q1m2 (C:q1lr) (v:q1lw):Dt q1m0:=(Dt.ite (decide (v.2.2.2.1 > (0:Int))) (Dt.ret (v.2.1,true,v.2.2.1,v.2.2.2.1,v.2.2.2.2.1,v.2.2.2.2.2.1,v.2.2.2.2.2.2)) (Dt.ite (decide (v.2.2.2.2.1 > (9223372036854775807:Int))) (Dt.ret (v.2.1,true,v.2.2.1,v.2.2.2.1,v.2.2.2.2.1,v.2.2.2.2.2.1,v.2.2.2.2.2.2)) (Dt.ite (decide (v.1 > (0:Int))) (Dt.ret (v.2.1,true,v.2.2.1,v.2.2.2.1,v.2.2.2.2.1,v.2.2.2.2.2.1,v.2.2.2.2.2.2)) (Dt.ret (v.2.1,(decide (v.2.1 > (9223372036854775807:Int))),v.2.2.1,v.2.2.2.1,v.2.2.2.2.1,v.2.2.2.2.2.1,v.2.2.2.2.2.2)))))
theorem q1m3 C v:q34r (regO (qct f124) 1) false (an [2,3,6,24]) q1lx q1m2 q1m1 C v:=rgI (by kernel_rfl)
abbrev q1m4:Type:=Int×Int×Int
def q1m5 (v:q1m4):St:=⟨[(6,.ptr 0 0),(7,i6 v.1)],[.cells [i6 v.2.1,i6 v.2.2]]⟩
def q1m6 (C:q1lr) (v:q1m0):Dt q1m4:=(Dt.ret ((16:Int),(0:Int),(0:Int)))
theorem q1m7 C v:q34r (regO (qct f124) 2) false (an [6,7]) q1m1 q1m6 q1m5 C v:=rgI (by kernel_rfl)
abbrev q1m8:Type:=Bool×Int×Int×Int×Int×Int×Int
def q1m9 (v:q1m8):St:=⟨[(3,.ptr 0 0),(6,.ptr 1 0),(8,.ptr 2 0)],[.cells [.bool v.1,u6 v.2.1,u6 v.2.2.1],.cells [i6 v.2.2.2.1,i6 v.2.2.2.2.1],.cells [i6 v.2.2.2.2.2.1,i6 v.2.2.2.2.2.2]]⟩
def q1ma (C:q1lr) (v:q1m0):Dt q1m8:=(Dt.ret (v.2.2.1,v.2.2.2.1,v.2.2.2.2.1,v.2.2.2.2.2.1,v.2.2.2.2.2.2,(IntKind.wrap .i64 v.2.2.2.2.1),(IntKind.wrap .i64 v.1)))
theorem q1mb C v:q34r (regO (qct f124) 3) false (an [3,6,8]) q1m1 q1ma q1m9 C v:=rgI (by kernel_rfl)
abbrev q1mc:Type:=Bool×Int×Int×Int×Int
def q1md (v:q1mc):St:=⟨[(6,.ptr 0 0),(8,.ptr 1 0),(33,.bool v.1)],[.cells [i6 v.2.1,i6 v.2.2.1],.cells [i6 v.2.2.2.1,i6 v.2.2.2.2]]⟩
def q1me (C:q1lr) (v:q1m8):Dt q1mc:=(Dt.ret (v.1,v.2.2.2.1,v.2.2.2.2.1,v.2.2.2.2.2.1,v.2.2.2.2.2.2))
theorem q1mf C v:q34r (regO (qct f124) 4) false (an [6,8,33]) q1m9 q1me q1md C v:=rgI (by kernel_rfl)
abbrev q1mg:Type:=Int×Int×Int×Int
def q1mh (v:q1mg):St:=⟨[(6,.ptr 0 0),(8,.ptr 1 0)],[.cells [i6 v.1,i6 v.2.1],.cells [i6 v.2.2.1,i6 v.2.2.2]]⟩
def q1mi (C:q1lr) (v:q1mc):Dt q1mg:=(Dt.ret (v.2.1,v.2.2.1,(IntKind.wrap .i64 (0 - v.2.2.2.1)),v.2.2.2.2))
theorem q1mj C v:q34r (regO (qct f124) 5) false (an [6,8]) q1md q1mi q1mh C v:=rgI (by kernel_rfl)
def q1mk (C:q1lr) (v:q1mg):Dt q1m4:=(Dt.ret ((0:Int),v.2.2.1,v.2.2.2))
theorem q1ml C v:q34r (regO (qct f124) 6) false (an [6,7]) q1mh q1mk q1m5 C v:=rgI (by kernel_rfl)
def q1mm  (d:Nat)  (z:Int×Int×Int×Int):Option (q1lo) :=
 (q1mk (q1ls d) z).eval fun y6 =>
 some (y6.2.1,y6.2.2,y6.1)
def q1mn (d:Nat) (x:q1ln):Option q1lo :=
 (q1ly (q1ls d) (x.1.1,x.1.2.1,x.1.2.2.1,x.2.1.1,x.2.2.1.1)).eval fun y0 =>
 (q1m2 (q1ls d) y0).eval fun y1 =>
 bif y1.2.1 then ((q1m6 (q1ls d) y1).eval fun y2 =>
 some (y2.2.1,y2.2.2,y2.1)) else ((q1ma (q1ls d) y1).eval fun y3 =>
 (q1me (q1ls d) y3).eval fun y4 =>
 bif y4.1 then ((q1mi (q1ls d) y4).eval fun y5 =>
 q1mm d  y5) else (q1mm d  y4.2))
theorem q1mo (d:Nat):COK prog (q1lq (q1mn d)):=by
 have hm:prog.follows .mixedOrders=true:=mixed
 have hT:=tys
 have hC0:OrcOK prog (orc (q1lt (q1ls d))):=qcn (by
  intro S hS
  simp only [q1lt,List.mem_cons,List.not_mem_nil,or_false] at hS
  all_goals first | cases hS | exact hS.elim)
 have hC:OrcOK prog (orc (q1lt (q1ls d))):=hC0
 refine q8c (c:=qct f124) (fn:=f124) hT (by kernel_rfl) (by kernel_rfl) (by decide) fun x r h w0 φ0 Q hend=>?_
 replace h:q1mn d x=some r:=h
 unfold q1mn at h
 show Run prog w0 φ0 39 (qct f124) ⟨[(0,.agg [.bool x.1.1,.int .u64 x.1.2.1,.int .u64 x.1.2.2.1]),(1,.int .u64 x.2.1.1),(2,.int .u64 x.2.2.1.1)],[]⟩ Q
 refine q342 hm hT hC (q1lz (q1ls d) (x.1.1,x.1.2.1,x.1.2.2.1,x.2.1.1,x.2.2.1.1)) h fun y0 h=>?_
 refine q7w ?_
 refine q342 hm hT hC (q1m3 (q1ls d) y0) h fun y1 h=>?_
 refine q80 (v:=y1.2.1) (by kernel_rfl) h ?_ ?_
 ·
  intro h
  refine q342 hm hT hC (q1m7 (q1ls d) y1) h fun y2 h=>?_
  refine q7v (q7k ?_)
  cases h
  exact (hend _ (by kernel_rfl)).2
 ·
  intro h
  refine q7s (q7i ?_)
  refine q342 hm hT hC (q1mb (q1ls d) y1) h fun y3 h=>?_
  refine q7z (r:=r) (F:=q1mm d ) (S:=(fun z=>⟨[(6,.ptr 0 0),(8,.ptr 1 0)],[.cells [i6 z.1,i6 z.2.1],.cells [i6 z.2.2.1,i6 z.2.2.2]]⟩:q1mg→St)) ?_ ?_
  ·
   intro z h
   unfold q1mm at h
   refine q342 hm hT hC (q1ml (q1ls d) z) h fun y6 h=>?_
   refine q7v ?_
   cases h
   exact (hend _ (by kernel_rfl)).2
  intro hj1
  refine q342 hm hT hC (q1mf (q1ls d) y3) h fun y4 h=>?_
  refine q80 (v:=y4.1) (by kernel_rfl) h ?_ ?_
  ·
   intro h
   refine q81 hm hT hC (q1mj (q1ls d) y4) h ?_
   intro y5 h
   exact hj1 _ h
  ·
   intro h
   refine q7s ?_
   refine qcs (s:=⟨[(6,.ptr 0 0),(8,.ptr 1 0)],[.cells [.int .i64 y4.2.1,.int .i64 y4.2.2.1],.cells [.int .i64 y4.2.2.2.1,.int .i64 y4.2.2.2.2]]⟩) [33] (by kernel_rfl) ?_
   exact hj1 _ h
abbrev q1mp:List Pk:=[.row Rii true,.row Rii true]
abbrev q1mq:Type:=Dii×Dii×Unit
abbrev q1mr:Type:=Int×Int×Int
def q1ms (r:q1mr):LV×List Ob:=(.tup [.agg [.int .i64 r.1,.int .i64 r.2.1],.int .i64 r.2.2],[])
def q1mt (F:q1mq→Option q1mr):Go.Tx.Spec:=⟨62,q1mp,q1mr,F,q1ms⟩
abbrev q1mu:Type:=(qxx→Option qxy)×(q1it→Option q1iu)×(q1ji→Option q1jj)×(q117→Option q118)×(q1kv→Option q1kw)×(qm8→Option qm9)×(q1ln→Option q1lo)×Unit
def q1mv (d:Nat):q1mu:=(qye d,q1jf d,q1ks d,q11s d,q1lk d,qmd d,q1mn d,())
def q1mw (C:q1mu):List Go.Tx.Spec:=[qy0 C.1,q1iw C.2.1,q1jl C.2.2.1,q11a C.2.2.2.1,q1ky C.2.2.2.2.1,qmb C.2.2.2.2.2.1,q1lq C.2.2.2.2.2.2.1]
abbrev q1mx:Type:=Int×Int×Int×Int
def q1my (v:q1mx):St:=⟨[(0,.agg [i6 v.1,i6 v.2.1]),(1,.agg [i6 v.2.2.1,i6 v.2.2.2])],[]⟩
abbrev q1mz:Type:=Int×Int×Int×Int×Int×Int
def q1n0 (v:q1mz):St:=⟨[(2,.ptr 0 0),(3,.ptr 1 0),(4,.ptr 2 0)],[.cells [i6 v.1,i6 v.2.1],.cells [i6 v.2.2.1,i6 v.2.2.2.1],.cells [i6 v.2.2.2.2.1,i6 v.2.2.2.2.2]]⟩
def q1n1 (C:q1mu) (v:q1mx):Dt q1mz:=(Dt.ret (v.1,v.2.1,v.2.2.1,v.2.2.2,(0:Int),(0:Int)))
abbrev q34s {V Y:Type}:=@rg q1mu V Y tysT (fun C=>(orc (q1mw C))) 81
theorem q1n2 C v:q34s (regO (qct f62) 0) false (an [2,3,4]) q1my q1n1 q1n0 C v:=rgI (by kernel_rfl)
abbrev q1n3:Type:=Int×Int×Int×Int×Int×Int×Int
def q1n4 (v:q1n3):St:=⟨[(2,.ptr 0 0),(3,.ptr 1 0),(4,.ptr 2 0),(6,i6 v.1)],[.cells [i6 v.2.1,i6 v.2.2.1],.cells [i6 v.2.2.2.1,i6 v.2.2.2.2.1],.cells [i6 v.2.2.2.2.2.1,i6 v.2.2.2.2.2.2]]⟩
def q1n5 (C:q1mu) (v:q1mz):Dt q1n3:=(Dt.bnd (C.1 ((v.1,v.2.1,()),(v.2.2.1,v.2.2.2.1,()),())) fun r1=>(Dt.ret (r1,v.1,v.2.1,v.2.2.1,v.2.2.2.1,v.2.2.2.2.1,v.2.2.2.2.2)))
theorem q1n6 C v:q34s (regO (qct f62) 1) false (an [2,3,4,6]) q1n0 q1n5 q1n4 C v:=rgI (by kernel_rfl)
abbrev q1n7:Type:=Int×Bool×Int×Int×Int×Int×Int×Int
def q1n8 (v:q1n7):St:=⟨[(2,.ptr 0 0),(3,.ptr 1 0),(4,.ptr 2 0),(6,i6 v.1),(18,.bool v.2.1)],[.cells [i6 v.2.2.1,i6 v.2.2.2.1],.cells [i6 v.2.2.2.2.1,i6 v.2.2.2.2.2.1],.cells [i6 v.2.2.2.2.2.2.1,i6 v.2.2.2.2.2.2.2]]⟩
def q1n9 (C:q1mu) (v:q1n3):Dt q1n7:=(Dt.ret (v.1,(v.1 != (0:Int)),v.2.1,v.2.2.1,v.2.2.2.1,v.2.2.2.2.1,v.2.2.2.2.2.1,v.2.2.2.2.2.2))
theorem q1na C v:q34s (regO (qct f62) 2) false (an [2,3,4,6,18]) q1n4 q1n9 q1n8 C v:=rgI (by kernel_rfl)
abbrev q1nb:Type:=Int×Int×Int
def q1nc (v:q1nb):St:=⟨[(4,.ptr 0 0),(5,i6 v.1)],[.cells [i6 v.2.1,i6 v.2.2]]⟩
def q1nd (C:q1mu) (v:q1n7):Dt q1nb:=(Dt.ret (v.1,(0:Int),(0:Int)))
theorem q1ne C v:q34s (regO (qct f62) 3) false (an [4,5]) q1n8 q1nd q1nc C v:=rgI (by kernel_rfl)
abbrev q1nf:Type:=Int×Int×Int×Int×Int×Int×Int
def q1ng (v:q1nf):St:=⟨[(2,.ptr 0 0),(3,.ptr 1 0),(4,.ptr 2 0),(7,i6 v.1)],[.cells [i6 v.2.1,i6 v.2.2.1],.cells [i6 v.2.2.2.1,i6 v.2.2.2.2.1],.cells [i6 v.2.2.2.2.2.1,i6 v.2.2.2.2.2.2]]⟩
def q1nh (C:q1mu) (v:q1n7):Dt q1nf:=(Dt.bnd (C.2.1 (((IntKind.wrap .u64 v.2.2.2.1),()),((IntKind.wrap .u64 v.2.2.2.2.2.1),()),())) fun r1=>(Dt.ret ((IntKind.wrap .i64 r1),v.2.2.1,v.2.2.2.1,v.2.2.2.2.1,v.2.2.2.2.2.1,v.2.2.2.2.2.2.1,v.2.2.2.2.2.2.2)))
theorem q1ni C v:q34s (regO (qct f62) 4) false (an [2,3,4,7]) q1n8 q1nh q1ng C v:=rgI (by kernel_rfl)
abbrev q1nj:Type:=Int×Int×Int×Int×Int×Int×Int×Bool×Int×Int
def q1nk (v:q1nj):St:=⟨[(2,.ptr 0 0),(3,.ptr 1 0),(4,.ptr 2 0),(7,i6 v.1),(8,.ptr 3 0)],[.cells [i6 v.2.1,i6 v.2.2.1],.cells [i6 v.2.2.2.1,i6 v.2.2.2.2.1],.cells [i6 v.2.2.2.2.2.1,i6 v.2.2.2.2.2.2.1],.cells [.bool v.2.2.2.2.2.2.2.1,u6 v.2.2.2.2.2.2.2.2.1,u6 v.2.2.2.2.2.2.2.2.2]]⟩
def q1nl (C:q1mu) (v:q1nf):Dt q1nj:=(Dt.ite (v.1 == (0:Int)) Dt.fail (Dt.bnd (C.2.2.2.1 ((v.2.1,()),((IntKind.wrap .i64 (Int.tdiv v.2.2.2.2.1 v.1)),()),())) fun r1=>(Dt.ite (v.1 == (0:Int)) Dt.fail (Dt.bnd (C.2.2.2.1 ((v.2.2.2.1,()),((IntKind.wrap .i64 (Int.tdiv v.2.2.1 v.1)),()),())) fun r2=>(Dt.bnd (C.2.2.1 ((r1.1,r1.2.1,r1.2.2,()),(r2.1,r2.2.1,r2.2.2,()),())) fun r3=>(Dt.ret (v.1,v.2.1,v.2.2.1,v.2.2.2.1,v.2.2.2.2.1,v.2.2.2.2.2.1,v.2.2.2.2.2.2,r3.1,r3.2.1,r3.2.2)))))))
theorem q1nm C v:q34s (regO (qct f62) 5) true (an [2,3,4,7,8]) q1ng q1nl q1nk C v:=rgI (by kernel_rfl)
abbrev q1nn:Type:=Int×Int×Int×Int×Int×Int×Int×Int×Bool×Int×Int
def q1no (v:q1nn):St:=⟨[(2,.ptr 0 0),(3,.ptr 1 0),(4,.ptr 2 0),(7,i6 v.1),(8,.ptr 3 0),(10,u6 v.2.1)],[.cells [i6 v.2.2.1,i6 v.2.2.2.1],.cells [i6 v.2.2.2.2.1,i6 v.2.2.2.2.2.1],.cells [i6 v.2.2.2.2.2.2.1,i6 v.2.2.2.2.2.2.2.1],.cells [.bool v.2.2.2.2.2.2.2.2.1,u6 v.2.2.2.2.2.2.2.2.2.1,u6 v.2.2.2.2.2.2.2.2.2.2]]⟩
def q1np (C:q1mu) (v:q1nj):Dt q1nn:=(Dt.bnd (C.2.2.2.2.1 ((v.2.2.2.2.2.2.2.1,v.2.2.2.2.2.2.2.2.1,v.2.2.2.2.2.2.2.2.2,()),((IntKind.wrap .u64 v.1),()),())) fun r1=>(Dt.ret (v.1,r1.2.2.2,v.2.1,v.2.2.1,v.2.2.2.1,v.2.2.2.2.1,v.2.2.2.2.2.1,v.2.2.2.2.2.2.1,v.2.2.2.2.2.2.2.1,v.2.2.2.2.2.2.2.2.1,v.2.2.2.2.2.2.2.2.2)))
theorem q1nq C v:q34s (regO (qct f62) 6) false (an [2,3,4,7,8,10]) q1nk q1np q1no C v:=rgI (by kernel_rfl)
abbrev q1nr:Type:=Int×Int×Int×Int×Int×Int×Int×Int×Bool×Int×Int
def q1ns (v:q1nr):St:=⟨[(2,.ptr 0 0),(3,.ptr 1 0),(4,.ptr 2 0),(7,i6 v.1),(8,.ptr 3 0),(11,u6 v.2.1)],[.cells [i6 v.2.2.1,i6 v.2.2.2.1],.cells [i6 v.2.2.2.2.1,i6 v.2.2.2.2.2.1],.cells [i6 v.2.2.2.2.2.2.1,i6 v.2.2.2.2.2.2.2.1],.cells [.bool v.2.2.2.2.2.2.2.2.1,u6 v.2.2.2.2.2.2.2.2.2.1,u6 v.2.2.2.2.2.2.2.2.2.2]]⟩
def q1nt (C:q1mu) (v:q1nn):Dt q1nr:=(Dt.bnd (C.2.1 (((IntKind.wrap .u64 v.1),()),(v.2.1,()),())) fun r1=>(Dt.ret (v.1,r1,v.2.2.1,v.2.2.2.1,v.2.2.2.2.1,v.2.2.2.2.2.1,v.2.2.2.2.2.2.1,v.2.2.2.2.2.2.2.1,v.2.2.2.2.2.2.2.2.1,v.2.2.2.2.2.2.2.2.2.1,v.2.2.2.2.2.2.2.2.2.2)))
theorem q1nu C v:q34s (regO (qct f62) 7) false (an [2,3,4,7,8,11]) q1no q1nt q1ns C v:=rgI (by kernel_rfl)
def q1nv (C:q1mu) (v:q1nr):Dt q1nr:=(Dt.bnd (C.2.2.2.2.1 ((v.2.2.2.2.2.2.2.2.1,v.2.2.2.2.2.2.2.2.2.1,v.2.2.2.2.2.2.2.2.2.2,()),(v.2.1,()),())) fun r1=>(Dt.ret (v.1,v.2.1,v.2.2.1,v.2.2.2.1,v.2.2.2.2.1,v.2.2.2.2.2.1,v.2.2.2.2.2.2.1,v.2.2.2.2.2.2.2.1,r1.1,r1.2.1,r1.2.2.1)))
theorem q1nw C v:q34s (regO (qct f62) 8) false (an [2,3,4,7,8,11]) q1ns q1nv q1ns C v:=rgI (by kernel_rfl)
abbrev q1nx:Type:=Int×Int×Int×Int×Bool×Int×Int
def q1ny (v:q1nx):St:=⟨[(4,.ptr 0 0),(8,.ptr 1 0),(12,u6 v.1),(13,u6 v.2.1)],[.cells [i6 v.2.2.1,i6 v.2.2.2.1],.cells [.bool v.2.2.2.2.1,u6 v.2.2.2.2.2.1,u6 v.2.2.2.2.2.2]]⟩
def q1nz (C:q1mu) (v:q1nr):Dt q1nx:=(Dt.ite (v.1 == (0:Int)) Dt.fail (Dt.ite (v.2.1 == (0:Int)) Dt.fail (Dt.bnd (C.2.2.2.2.2.1 (((IntKind.wrap .u64 (IntKind.wrap .i64 (Int.tdiv v.2.2.2.1 v.1))),()),((IntKind.wrap .u64 (Int.tdiv (IntKind.wrap .u64 v.2.2.2.2.2.1) v.2.1)),()),())) fun r1=>(Dt.ret (r1.1,r1.2,v.2.2.2.2.2.2.1,v.2.2.2.2.2.2.2.1,v.2.2.2.2.2.2.2.2.1,v.2.2.2.2.2.2.2.2.2.1,v.2.2.2.2.2.2.2.2.2.2)))))
theorem q1o0 C v:q34s (regO (qct f62) 9) true (an [4,8,12,13]) q1ns q1nz q1ny C v:=rgI (by kernel_rfl)
def q1o1 (C:q1mu) (v:q1nx):Dt q1nb:=(Dt.bnd (C.2.2.2.2.2.2.1 ((v.2.2.2.2.1,v.2.2.2.2.2.1,v.2.2.2.2.2.2,()),(v.1,()),(v.2.1,()),())) fun r1=>(Dt.ret (r1.2.2,r1.1,r1.2.1)))
theorem q1o2 C v:q34s (regO (qct f62) 10) false (an [4,5]) q1ny q1o1 q1nc C v:=rgI (by kernel_rfl)
def q1o3 (d:Nat) (x:q1mq):Option q1mr :=
 (q1n1 (q1mv d) (x.1.1,x.1.2.1,x.2.1.1,x.2.1.2.1)).eval fun y0 =>
 (q1n5 (q1mv d) y0).eval fun y1 =>
 (q1n9 (q1mv d) y1).eval fun y2 =>
 bif y2.2.1 then ((q1nd (q1mv d) y2).eval fun y3 =>
 some (y3.2.1,y3.2.2,y3.1)) else ((q1nh (q1mv d) y2).eval fun y4 =>
 (q1nl (q1mv d) y4).eval fun y5 =>
 (q1np (q1mv d) y5).eval fun y6 =>
 (q1nt (q1mv d) y6).eval fun y7 =>
 (q1nv (q1mv d) y7).eval fun y8 =>
 (q1nz (q1mv d) y8).eval fun y9 =>
 (q1o1 (q1mv d) y9).eval fun y10 =>
 some (y10.2.1,y10.2.2,y10.1))
theorem q1o4 (d:Nat):COK prog (q1mt (q1o3 d)):=by
 have hm:prog.follows .mixedOrders=true:=mixed
 have hT:=tys
 have hC0:OrcOK prog (orc (q1mw (q1mv d))):=qcn (by
  intro S hS
  simp only [q1mw,List.mem_cons,List.not_mem_nil,or_false] at hS
  rcases hS with rfl | rfl | rfl | rfl | rfl | rfl | rfl
  · exact qyf d
  · exact q1jg d
  · exact q1kt d
  · exact q11t d
  · exact q1ll d
  · exact qmf d
  · exact q1mo d)
 have hC:OrcOK prog (orc (q1mw (q1mv d))):=hC0
 refine q8c (c:=qct f62) (fn:=f62) hT (by kernel_rfl) (by kernel_rfl) (by decide) fun x r h w0 φ0 Q hend=>?_
 replace h:q1o3 d x=some r:=h
 unfold q1o3 at h
 show Run prog w0 φ0 81 (qct f62) ⟨[(0,.agg [.int .i64 x.1.1,.int .i64 x.1.2.1]),(1,.agg [.int .i64 x.2.1.1,.int .i64 x.2.1.2.1])],[]⟩ Q
 refine q342 hm hT hC (q1n2 (q1mv d) (x.1.1,x.1.2.1,x.2.1.1,x.2.1.2.1)) h fun y0 h=>?_
 refine q7w ?_
 refine q342 hm hT hC (q1n6 (q1mv d) y0) h fun y1 h=>?_
 refine q342 hm hT hC (q1na (q1mv d) y1) h fun y2 h=>?_
 refine q80 (v:=y2.2.1) (by kernel_rfl) h ?_ ?_
 ·
  intro h
  refine q342 hm hT hC (q1ne (q1mv d) y2) h fun y3 h=>?_
  refine q7v (q7k ?_)
  cases h
  exact (hend _ (by kernel_rfl)).2
 ·
  intro h
  refine q7s (q7i ?_)
  refine q342 hm hT hC (q1ni (q1mv d) y2) h fun y4 h=>?_
  refine q342 hm hT hC (q1nm (q1mv d) y4) h fun y5 h=>?_
  refine q342 hm hT hC (q1nq (q1mv d) y5) h fun y6 h=>?_
  refine q342 hm hT hC (q1nu (q1mv d) y6) h fun y7 h=>?_
  refine q342 hm hT hC (q1nw (q1mv d) y7) h fun y8 h=>?_
  refine q342 hm hT hC (q1o0 (q1mv d) y8) h fun y9 h=>?_
  refine q342 hm hT hC (q1o2 (q1mv d) y9) h fun y10 h=>?_
  refine q7v ?_
  cases h
  exact (hend _ (by kernel_rfl)).2
abbrev q1o5:List Pk:=[.row Rii true,.row Rii true]
abbrev q1o6:Type:=Dii×Dii×Unit
abbrev q1o7:Type:=Int×Int×Int
def q1o8 (r:q1o7):LV×List Ob:=(.tup [.agg [.int .i64 r.1,.int .i64 r.2.1],.int .i64 r.2.2],[])
def q1o9 (F:q1o6→Option q1o7):Go.Tx.Spec:=⟨61,q1o5,q1o7,F,q1o8⟩
abbrev q1oa:Type:=(q1mq→Option q1mr)×(qxx→Option qxy)×Unit
def q1ob (d:Nat):q1oa:=(q1o3 d,qye d,())
def q1oc (C:q1oa):List Go.Tx.Spec:=[q1mt C.1,qy0 C.2.1]
abbrev q1od:Type:=Int×Int×Int×Int
def q1oe (v:q1od):St:=⟨[(0,.agg [i6 v.1,i6 v.2.1]),(1,.agg [i6 v.2.2.1,i6 v.2.2.2])],[]⟩
abbrev q1of:Type:=Int×Int×Int×Int×Int×Int
def q1og (v:q1of):St:=⟨[(2,.ptr 0 0),(3,.ptr 1 0),(4,.ptr 2 0)],[.cells [i6 v.1,i6 v.2.1],.cells [i6 v.2.2.1,i6 v.2.2.2.1],.cells [i6 v.2.2.2.2.1,i6 v.2.2.2.2.2]]⟩
def q1oh (C:q1oa) (v:q1od):Dt q1of:=(Dt.ret (v.1,v.2.1,v.2.2.1,v.2.2.2,(0:Int),(0:Int)))
abbrev q34t {V Y:Type}:=@rg q1oa V Y tysT (fun C=>(orc (q1oc C))) 23
theorem q1oi C v:q34t (regO (qct f61) 0) false (an [2,3,4]) q1oe q1oh q1og C v:=rgI (by kernel_rfl)
abbrev q1oj:Type:=Int×Int×Int×Int×Int×Int×Int
def q1ok (v:q1oj):St:=⟨[(2,.ptr 0 0),(3,.ptr 1 0),(4,.ptr 2 0),(6,i6 v.1)],[.cells [i6 v.2.1,i6 v.2.2.1],.cells [i6 v.2.2.2.1,i6 v.2.2.2.2.1],.cells [i6 v.2.2.2.2.2.1,i6 v.2.2.2.2.2.2]]⟩
def q1ol (C:q1oa) (v:q1of):Dt q1oj:=(Dt.bnd (C.2.1 ((v.1,v.2.1,()),(v.2.2.1,v.2.2.2.1,()),())) fun r1=>(Dt.ret (r1,v.1,v.2.1,v.2.2.1,v.2.2.2.1,v.2.2.2.2.1,v.2.2.2.2.2)))
theorem q1om C v:q34t (regO (qct f61) 1) false (an [2,3,4,6]) q1og q1ol q1ok C v:=rgI (by kernel_rfl)
abbrev q1on:Type:=Int×Bool×Int×Int×Int×Int×Int×Int
def q1oo (v:q1on):St:=⟨[(2,.ptr 0 0),(3,.ptr 1 0),(4,.ptr 2 0),(6,i6 v.1),(11,.bool v.2.1)],[.cells [i6 v.2.2.1,i6 v.2.2.2.1],.cells [i6 v.2.2.2.2.1,i6 v.2.2.2.2.2.1],.cells [i6 v.2.2.2.2.2.2.1,i6 v.2.2.2.2.2.2.2]]⟩
def q1op (C:q1oa) (v:q1oj):Dt q1on:=(Dt.ret (v.1,(v.1 != (0:Int)),v.2.1,v.2.2.1,v.2.2.2.1,v.2.2.2.2.1,v.2.2.2.2.2.1,v.2.2.2.2.2.2))
theorem q1oq C v:q34t (regO (qct f61) 2) false (an [2,3,4,6,11]) q1ok q1op q1oo C v:=rgI (by kernel_rfl)
abbrev q1or:Type:=Int×Int×Int
def q1os (v:q1or):St:=⟨[(4,.ptr 0 0),(5,i6 v.1)],[.cells [i6 v.2.1,i6 v.2.2]]⟩
def q1ot (C:q1oa) (v:q1on):Dt q1or:=(Dt.ret (v.1,(0:Int),(0:Int)))
theorem q1ou C v:q34t (regO (qct f61) 3) false (an [4,5]) q1oo q1ot q1os C v:=rgI (by kernel_rfl)
def q1ov (C:q1oa) (v:q1on):Dt q1of:=(Dt.ret (v.2.2.1,v.2.2.2.1,(IntKind.wrap .i64 (0 - v.2.2.2.2.1)),v.2.2.2.2.2.1,v.2.2.2.2.2.2.1,v.2.2.2.2.2.2.2))
theorem q1ow C v:q34t (regO (qct f61) 4) false (an [2,3,4]) q1oo q1ov q1og C v:=rgI (by kernel_rfl)
def q1ox (C:q1oa) (v:q1of):Dt q1or:=(Dt.bnd (C.1 ((v.1,v.2.1,()),(v.2.2.1,v.2.2.2.1,()),())) fun r1=>(Dt.ret (r1.2.2,r1.1,r1.2.1)))
theorem q1oy C v:q34t (regO (qct f61) 5) false (an [4,5]) q1og q1ox q1os C v:=rgI (by kernel_rfl)
def q1oz (d:Nat) (x:q1o6):Option q1o7 :=
 (q1oh (q1ob d) (x.1.1,x.1.2.1,x.2.1.1,x.2.1.2.1)).eval fun y0 =>
 (q1ol (q1ob d) y0).eval fun y1 =>
 (q1op (q1ob d) y1).eval fun y2 =>
 bif y2.2.1 then ((q1ot (q1ob d) y2).eval fun y3 =>
 some (y3.2.1,y3.2.2,y3.1)) else ((q1ov (q1ob d) y2).eval fun y4 =>
 (q1ox (q1ob d) y4).eval fun y5 =>
 some (y5.2.1,y5.2.2,y5.1))
theorem q1p0 (d:Nat):COK prog (q1o9 (q1oz d)):=by
 have hm:prog.follows .mixedOrders=true:=mixed
 have hT:=tys
 have hC0:OrcOK prog (orc (q1oc (q1ob d))):=qcn (by
  intro S hS
  simp only [q1oc,List.mem_cons,List.not_mem_nil,or_false] at hS
  rcases hS with rfl | rfl
  · exact q1o4 d
  · exact qyf d)
 have hC:OrcOK prog (orc (q1oc (q1ob d))):=hC0
 refine q8c (c:=qct f61) (fn:=f61) hT (by kernel_rfl) (by kernel_rfl) (by decide) fun x r h w0 φ0 Q hend=>?_
 replace h:q1oz d x=some r:=h
 unfold q1oz at h
 show Run prog w0 φ0 23 (qct f61) ⟨[(0,.agg [.int .i64 x.1.1,.int .i64 x.1.2.1]),(1,.agg [.int .i64 x.2.1.1,.int .i64 x.2.1.2.1])],[]⟩ Q
 refine q342 hm hT hC (q1oi (q1ob d) (x.1.1,x.1.2.1,x.2.1.1,x.2.1.2.1)) h fun y0 h=>?_
 refine q7w ?_
 refine q342 hm hT hC (q1om (q1ob d) y0) h fun y1 h=>?_
 refine q342 hm hT hC (q1oq (q1ob d) y1) h fun y2 h=>?_
 refine q80 (v:=y2.2.1) (by kernel_rfl) h ?_ ?_
 ·
  intro h
  refine q342 hm hT hC (q1ou (q1ob d) y2) h fun y3 h=>?_
  refine q7v (q7k ?_)
  cases h
  exact (hend _ (by kernel_rfl)).2
 ·
  intro h
  refine q7s (q7i ?_)
  refine q342 hm hT hC (q1ow (q1ob d) y2) h fun y4 h=>?_
  refine q342 hm hT hC (q1oy (q1ob d) y4) h fun y5 h=>?_
  refine q7v ?_
  cases h
  exact (hend _ (by kernel_rfl)).2
abbrev q1ro:List Pk:=[.row Rii true,.row Rii true]
abbrev q1rp:Type:=Dii×Dii×Unit
abbrev q1rq:Type:=Int
def q1rr (r:q1rq):LV×List Ob:=(.int .i64 r,[])
def q1rs (F:q1rp→Option q1rq):Go.Tx.Spec:=⟨48,q1ro,q1rq,F,q1rr⟩
abbrev q1rt:Type:=(qmz→Option qn0)×Unit
def q1ru (d:Nat):q1rt:=(qn4 d,())
def q1rv (C:q1rt):List Go.Tx.Spec:=[qn2 C.1]
abbrev q1rw:Type:=Int×Int×Int×Int
def q1rx (v:q1rw):St:=⟨[(0,.agg [i6 v.1,i6 v.2.1]),(1,.agg [i6 v.2.2.1,i6 v.2.2.2])],[]⟩
abbrev q1ry:Type:=Int×Int×Int×Int
def q1rz (v:q1ry):St:=⟨[(2,.ptr 0 0),(3,.ptr 1 0)],[.cells [i6 v.1,i6 v.2.1],.cells [i6 v.2.2.1,i6 v.2.2.2]]⟩
def q1s0 (C:q1rt) (v:q1rw):Dt q1ry:=(Dt.ret (v.1,v.2.1,v.2.2.1,v.2.2.2))
abbrev q34v {V Y:Type}:=@rg q1rt V Y tysT (fun C=>(orc (q1rv C))) 12
theorem q1s1 C v:q34v (regO (qct f48) 0) false (an [2,3]) q1rx q1s0 q1rz C v:=rgI (by kernel_rfl)
abbrev q1s2:Type:=Bool×Int×Int×Int×Int
def q1s3 (v:q1s2):St:=⟨[(2,.ptr 0 0),(3,.ptr 1 0),(7,.bool v.1)],[.cells [i6 v.2.1,i6 v.2.2.1],.cells [i6 v.2.2.2.1,i6 v.2.2.2.2]]⟩
def q1s4 (C:q1rt) (v:q1ry):Dt q1s2:=(Dt.bnd (C.1 ((v.1,v.2.1,()),())) fun r1=>(Dt.ret ((r1 != (0:Int)),v.1,v.2.1,v.2.2.1,v.2.2.2)))
theorem q1s5 C v:q34v (regO (qct f48) 1) false (an [2,3,7]) q1rz q1s4 q1s3 C v:=rgI (by kernel_rfl)
abbrev q1s6:Type:=Int
def q1s7 (v:q1s6):St:=⟨[(4,i6 v)],[]⟩
def q1s8 (C:q1rt) (v:q1s2):Dt q1s6:=(Dt.bnd (C.1 ((v.2.1,v.2.2.1,()),())) fun r1=>(Dt.ret r1))
theorem q1s9 C v:q34v (regO (qct f48) 2) false [(4,.any)] q1s3 q1s8 q1s7 C v:=rgI (by kernel_rfl)
def q1sa (C:q1rt) (v:q1s2):Dt q1s6:=(Dt.bnd (C.1 ((v.2.2.2.1,v.2.2.2.2,()),())) fun r1=>(Dt.ret r1))
theorem q1sb C v:q34v (regO (qct f48) 3) false [(4,.any)] q1s3 q1sa q1s7 C v:=rgI (by kernel_rfl)
def q1sc (d:Nat) (x:q1rp):Option q1rq :=
 (q1s0 (q1ru d) (x.1.1,x.1.2.1,x.2.1.1,x.2.1.2.1)).eval fun y0 =>
 (q1s4 (q1ru d) y0).eval fun y1 =>
 bif y1.1 then ((q1s8 (q1ru d) y1).eval fun y2 =>
 some y2) else ((q1sa (q1ru d) y1).eval fun y3 =>
 some y3)
theorem q1sd (d:Nat):COK prog (q1rs (q1sc d)):=by
 have hm:prog.follows .mixedOrders=true:=mixed
 have hT:=tys
 have hC0:OrcOK prog (orc (q1rv (q1ru d))):=qcn (by
  intro S hS
  simp only [q1rv,List.mem_cons,List.not_mem_nil,or_false] at hS
  subst hS;exact qn6 d)
 have hC:OrcOK prog (orc (q1rv (q1ru d))):=hC0
 refine q8c (c:=qct f48) (fn:=f48) hT (by kernel_rfl) (by kernel_rfl) (by decide) fun x r h w0 φ0 Q hend=>?_
 replace h:q1sc d x=some r:=h
 unfold q1sc at h
 show Run prog w0 φ0 12 (qct f48) ⟨[(0,.agg [.int .i64 x.1.1,.int .i64 x.1.2.1]),(1,.agg [.int .i64 x.2.1.1,.int .i64 x.2.1.2.1])],[]⟩ Q
 refine q342 hm hT hC (q1s1 (q1ru d) (x.1.1,x.1.2.1,x.2.1.1,x.2.1.2.1)) h fun y0 h=>?_
 refine q7w ?_
 refine q342 hm hT hC (q1s5 (q1ru d) y0) h fun y1 h=>?_
 refine q80 (v:=y1.1) (by kernel_rfl) h ?_ ?_
 ·
  intro h
  refine q342 hm hT hC (q1s9 (q1ru d) y1) h fun y2 h=>?_
  refine q7v (q7k ?_)
  cases h
  exact (hend _ (by kernel_rfl)).2
 ·
  intro h
  refine q7s (q7i ?_)
  refine q342 hm hT hC (q1sb (q1ru d) y1) h fun y3 h=>?_
  refine q7v ?_
  cases h
  exact (hend _ (by kernel_rfl)).2
abbrev q1se:List Pk:=[.row Ru false,.row Ru false]
abbrev q1sf:Type:=Du×Du×Unit
abbrev q1sg:Type:=Int
def q1sh (r:q1sg):LV×List Ob:=(.int .u64 r,[])
def q1si (F:q1sf→Option q1sg):Go.Tx.Spec:=⟨57,q1se,q1sg,F,q1sh⟩
abbrev q1sj:Type:=Unit
def q1sk (_d:Nat):q1sj:=()
def q1sl (C:q1sj):List Go.Tx.Spec:=[]
abbrev q1sm:Type:=Int×Int
def q1sn (v:q1sm):St:=⟨[(0,u6 v.1),(1,u6 v.2)],[]⟩
def q1so (C:q1sj) (v:q1sm):Dt q1sm:=(Dt.ret (v.1,v.2))
abbrev q34w {V Y:Type}:=@rg q1sj V Y tysT (fun C=>(orc (q1sl C))) 12
theorem q1sp C v:q34w (regO (qct f57) 0) false (an [0,1]) q1sn q1so q1sn C v:=rgI (by kernel_rfl)
abbrev q1sq:Type:=Int×Int×Bool
def q1sr (v:q1sq):St:=⟨[(0,u6 v.1),(1,u6 v.2.1),(6,.bool v.2.2)],[]⟩
def q1ss (C:q1sj) (v:q1sm):Dt q1sq:=(Dt.ret (v.1,v.2,(v.2 != (0:Int))))
theorem q1st C v:q34w (regO (qct f57) 1) false (an [0,1,6]) q1sn q1ss q1sr C v:=rgI (by kernel_rfl)
def q1su (C:q1sj) (v:q1sq):Dt q1sm:=(Dt.ite (v.2.1 == (0:Int)) Dt.fail (Dt.ret (v.2.1,(Int.tmod v.1 v.2.1))))
theorem q1sv C v:q34w (regO (qct f57) 2) true (an [0,1]) q1sr q1su q1sn C v:=rgI (by kernel_rfl)
abbrev q1sw:Type:=Int
def q1sx (v:q1sw):St:=⟨[(4,u6 v)],[]⟩
def q1sy (C:q1sj) (v:q1sq):Dt q1sw:=(Dt.ret v.1)
theorem q1sz C v:q34w (regO (qct f57) 3) false [(4,.any)] q1sr q1sy q1sx C v:=rgI (by kernel_rfl)
def q1t0 (d:Nat) (self1:(Int×Int)→Option q1sg) (x1:Int×Int):Option q1sg :=
 (q1ss (q1sk d) x1).eval fun y1 =>
 bif y1.2.2 then ((q1su (q1sk d) y1).eval fun y2 =>
 self1 y2) else ((q1sy (q1sk d) y1).eval fun y3 =>
 some y3)
def q1t1 (d:Nat) (x:q1sf):Option q1sg :=
 (q1so (q1sk d) (x.1.1,x.2.1.1)).eval fun y0 =>
 iter (q1t0 d ) d y0
theorem q1t2 (d:Nat):COK prog (q1si (q1t1 d)):=by
 have hm:prog.follows .mixedOrders=true:=mixed
 have hT:=tys
 have hC0:OrcOK prog (orc (q1sl (q1sk d))):=qcn (by
  intro S hS
  simp only [q1sl,List.mem_cons,List.not_mem_nil,or_false] at hS
  all_goals first | cases hS | exact hS.elim)
 have hC:OrcOK prog (orc (q1sl (q1sk d))):=hC0
 refine q8c (c:=qct f57) (fn:=f57) hT (by kernel_rfl) (by kernel_rfl) (by decide) fun x r h w0 φ0 Q hend=>?_
 replace h:q1t1 d x=some r:=h
 unfold q1t1 at h
 show Run prog w0 φ0 12 (qct f57) ⟨[(0,.int .u64 x.1.1),(1,.int .u64 x.2.1.1)],[]⟩ Q
 refine q342 hm hT hC (q1sp (q1sk d) (x.1.1,x.2.1.1)) h fun y0 h=>?_
 refine q7w (q7x ?_)
 refine q82 (G:=iter (q1t0 d )) (S:=(fun x1=>⟨[(0,u6 x1.1),(1,u6 x1.2)],[]⟩:Int×Int→St)) (fun _=>rfl) ?_ d _ h
 intro n1 x1 h K1 hn1
 replace h:q1t0 d  (iter (q1t0 d ) n1) x1=some r:=h
 generalize iter (q1t0 d ) n1=self1 at h hn1
 unfold q1t0 at h
 refine q7w ?_
 refine q342 hm hT hC (q1st (q1sk d) x1) h fun y1 h=>?_
 refine q80 (v:=y1.2.2) (by kernel_rfl) h ?_ ?_
 ·
  intro h
  refine q7s (q7i (q7x ?_))
  refine q81 hm hT hC (q1sv (q1sk d) y1) h ?_
  intro y2 h
  refine q7l ?_
  exact hn1 _ h
 ·
  intro h
  refine q7u (q7j (q7j (q7n (q7i ?_))))
  refine q342 hm hT hC (q1sz (q1sk d) y1) h fun y3 h=>?_
  refine q7v ?_
  cases h
  exact (hend _ (by kernel_rfl)).2
abbrev q1t3:List Pk:=[.row Rbuu true,.row Rbuu true]
abbrev q1t4:Type:=Dbuu×Dbuu×Unit
abbrev q1t5:Type:=Int
def q1t6 (r:q1t5):LV×List Ob:=(.int .i64 r,[])
def q1t7 (F:q1t4→Option q1t5):Go.Tx.Spec:=⟨91,q1t3,q1t5,F,q1t6⟩
abbrev q1t8:Type:=Unit
def q1t9 (_d:Nat):q1t8:=()
def q1ta (C:q1t8):List Go.Tx.Spec:=[]
abbrev q1tb:Type:=Bool×Int×Int×Bool×Int×Int
def q1tc (v:q1tb):St:=⟨[(0,.agg [.bool v.1,u6 v.2.1,u6 v.2.2.1]),(1,.agg [.bool v.2.2.2.1,u6 v.2.2.2.2.1,u6 v.2.2.2.2.2])],[]⟩
abbrev q1td:Type:=Bool×Int×Int×Bool×Int×Int
def q1te (v:q1td):St:=⟨[(2,.ptr 0 0),(3,.ptr 1 0)],[.cells [.bool v.1,u6 v.2.1,u6 v.2.2.1],.cells [.bool v.2.2.2.1,u6 v.2.2.2.2.1,u6 v.2.2.2.2.2]]⟩
def q1tf (C:q1t8) (v:q1tb):Dt q1td:=(Dt.ret (v.1,v.2.1,v.2.2.1,v.2.2.2.1,v.2.2.2.2.1,v.2.2.2.2.2))
abbrev q34x {V Y:Type}:=@rg q1t8 V Y tysT (fun C=>(orc (q1ta C))) 25
theorem q1tg C v:q34x (regO (qct f91) 0) false (an [2,3]) q1tc q1tf q1te C v:=rgI (by kernel_rfl)
abbrev q1th:Type:=Bool×Bool×Int×Int×Bool×Int×Int
def q1ti (v:q1th):St:=⟨[(2,.ptr 0 0),(3,.ptr 1 0),(9,.bool v.1)],[.cells [.bool v.2.1,u6 v.2.2.1,u6 v.2.2.2.1],.cells [.bool v.2.2.2.2.1,u6 v.2.2.2.2.2.1,u6 v.2.2.2.2.2.2]]⟩
def q1tj (C:q1t8) (v:q1td):Dt q1th:=(Dt.ret ((v.2.1 != v.2.2.2.2.1),v.1,v.2.1,v.2.2.1,v.2.2.2.1,v.2.2.2.2.1,v.2.2.2.2.2))
theorem q1tk C v:q34x (regO (qct f91) 1) false (an [2,3,9]) q1te q1tj q1ti C v:=rgI (by kernel_rfl)
abbrev q1tl:Type:=Bool
def q1tm (v:q1tl):St:=⟨[(14,.bool v)],[]⟩
def q1tn (C:q1t8) (v:q1th):Dt q1tl:=(Dt.ret (decide (v.2.2.1<v.2.2.2.2.2.1)))
theorem q1to C v:q34x (regO (qct f91) 2) false [(14,.any)] q1ti q1tn q1tm C v:=rgI (by kernel_rfl)
abbrev q1tp:Type:=Int
def q1tq (v:q1tp):St:=⟨[(4,i6 v)],[]⟩
def q1tr (C:q1t8) (v:q1tl):Dt q1tp:=(Dt.ret (-1:Int))
theorem q1ts C v:q34x (regO (qct f91) 3) false [(4,.any)] q1tm q1tr q1tq C v:=rgI (by kernel_rfl)
def q1tt (C:q1t8) (v:q1tl):Dt q1tp:=(Dt.ret (1:Int))
theorem q1tu C v:q34x (regO (qct f91) 4) false [(4,.any)] q1tm q1tt q1tq C v:=rgI (by kernel_rfl)
abbrev q1tv:Type:=Bool×Bool×Int×Int×Bool×Int×Int
def q1tw (v:q1tv):St:=⟨[(2,.ptr 0 0),(3,.ptr 1 0),(19,.bool v.1)],[.cells [.bool v.2.1,u6 v.2.2.1,u6 v.2.2.2.1],.cells [.bool v.2.2.2.2.1,u6 v.2.2.2.2.2.1,u6 v.2.2.2.2.2.2]]⟩
def q1tx (C:q1t8) (v:q1th):Dt q1tv:=(Dt.ret ((v.2.2.2.1 != v.2.2.2.2.2.2),v.2.1,v.2.2.1,v.2.2.2.1,v.2.2.2.2.1,v.2.2.2.2.2.1,v.2.2.2.2.2.2))
theorem q1ty C v:q34x (regO (qct f91) 5) false (an [2,3,19]) q1ti q1tx q1tw C v:=rgI (by kernel_rfl)
abbrev q1tz:Type:=Bool
def q1u0 (v:q1tz):St:=⟨[(24,.bool v)],[]⟩
def q1u1 (C:q1t8) (v:q1tv):Dt q1tz:=(Dt.ret (decide (v.2.2.2.1<v.2.2.2.2.2.2)))
theorem q1u2 C v:q34x (regO (qct f91) 6) false [(24,.any)] q1tw q1u1 q1u0 C v:=rgI (by kernel_rfl)
def q1u3 (C:q1t8) (v:q1tz):Dt q1tp:=(Dt.ret (-1:Int))
theorem q1u4 C v:q34x (regO (qct f91) 7) false [(4,.any)] q1u0 q1u3 q1tq C v:=rgI (by kernel_rfl)
def q1u5 (C:q1t8) (v:q1tz):Dt q1tp:=(Dt.ret (1:Int))
theorem q1u6 C v:q34x (regO (qct f91) 8) false [(4,.any)] q1u0 q1u5 q1tq C v:=rgI (by kernel_rfl)
def q1u7 (C:q1t8) (v:q1tv):Dt q1tp:=(Dt.ret (0:Int))
theorem q1u8 C v:q34x (regO (qct f91) 9) false [(4,.any)] q1tw q1u7 q1tq C v:=rgI (by kernel_rfl)
def q1u9 (d:Nat) (x:q1t4):Option q1t5 :=
 (q1tf (q1t9 d) (x.1.1,x.1.2.1,x.1.2.2.1,x.2.1.1,x.2.1.2.1,x.2.1.2.2.1)).eval fun y0 =>
 (q1tj (q1t9 d) y0).eval fun y1 =>
 bif y1.1 then ((q1tn (q1t9 d) y1).eval fun y2 =>
 bif y2 then ((q1tr (q1t9 d) y2).eval fun y3 =>
 some y3) else ((q1tt (q1t9 d) y2).eval fun y4 =>
 some y4)) else ((q1tx (q1t9 d) y1).eval fun y5 =>
 bif y5.1 then ((q1u1 (q1t9 d) y5).eval fun y6 =>
 bif y6 then ((q1u3 (q1t9 d) y6).eval fun y7 =>
 some y7) else ((q1u5 (q1t9 d) y6).eval fun y8 =>
 some y8)) else ((q1u7 (q1t9 d) y5).eval fun y9 =>
 some y9))
theorem q1ua (d:Nat):COK prog (q1t7 (q1u9 d)):=by
 have hm:prog.follows .mixedOrders=true:=mixed
 have hT:=tys
 have hC0:OrcOK prog (orc (q1ta (q1t9 d))):=qcn (by
  intro S hS
  simp only [q1ta,List.mem_cons,List.not_mem_nil,or_false] at hS
  all_goals first | cases hS | exact hS.elim)
 have hC:OrcOK prog (orc (q1ta (q1t9 d))):=hC0
 refine q8c (c:=qct f91) (fn:=f91) hT (by kernel_rfl) (by kernel_rfl) (by decide) fun x r h w0 φ0 Q hend=>?_
 replace h:q1u9 d x=some r:=h
 unfold q1u9 at h
 show Run prog w0 φ0 25 (qct f91) ⟨[(0,.agg [.bool x.1.1,.int .u64 x.1.2.1,.int .u64 x.1.2.2.1]),(1,.agg [.bool x.2.1.1,.int .u64 x.2.1.2.1,.int .u64 x.2.1.2.2.1])],[]⟩ Q
 refine q342 hm hT hC (q1tg (q1t9 d) (x.1.1,x.1.2.1,x.1.2.2.1,x.2.1.1,x.2.1.2.1,x.2.1.2.2.1)) h fun y0 h=>?_
 refine q7w ?_
 refine q342 hm hT hC (q1tk (q1t9 d) y0) h fun y1 h=>?_
 refine q80 (v:=y1.1) (by kernel_rfl) h ?_ ?_
 ·
  intro h
  refine q7w ?_
  refine q342 hm hT hC (q1to (q1t9 d) y1) h fun y2 h=>?_
  refine q80 (v:=y2) (by kernel_rfl) h ?_ ?_
  ·
   intro h
   refine q342 hm hT hC (q1ts (q1t9 d) y2) h fun y3 h=>?_
   refine q7v (q7k (q7k ?_))
   cases h
   exact (hend _ (by kernel_rfl)).2
  ·
   intro h
   refine q7s (q7i ?_)
   refine q342 hm hT hC (q1tu (q1t9 d) y2) h fun y4 h=>?_
   refine q7v (q7k ?_)
   cases h
   exact (hend _ (by kernel_rfl)).2
 ·
  intro h
  refine q7s (q7i (q7w ?_))
  refine q342 hm hT hC (q1ty (q1t9 d) y1) h fun y5 h=>?_
  refine q80 (v:=y5.1) (by kernel_rfl) h ?_ ?_
  ·
   intro h
   refine q7w ?_
   refine q342 hm hT hC (q1u2 (q1t9 d) y5) h fun y6 h=>?_
   refine q80 (v:=y6) (by kernel_rfl) h ?_ ?_
   ·
    intro h
    refine q342 hm hT hC (q1u4 (q1t9 d) y6) h fun y7 h=>?_
    refine q7v (q7k (q7k ?_))
    cases h
    exact (hend _ (by kernel_rfl)).2
   ·
    intro h
    refine q7s (q7i ?_)
    refine q342 hm hT hC (q1u6 (q1t9 d) y6) h fun y8 h=>?_
    refine q7v (q7k ?_)
    cases h
    exact (hend _ (by kernel_rfl)).2
  ·
   intro h
   refine q7s (q7i ?_)
   refine q342 hm hT hC (q1u8 (q1t9 d) y5) h fun y9 h=>?_
   refine q7v ?_
   cases h
   exact (hend _ (by kernel_rfl)).2
abbrev q1ub:List Pk:=[.row Rbuu true,.row Rbuu true]
abbrev q1uc:Type:=Dbuu×Dbuu×Unit
abbrev q1ud:Type:=Bool×Int×Int
def q1ue (r:q1ud):LV×List Ob:=(.agg [.bool r.1,.int .u64 r.2.1,.int .u64 r.2.2],[])
def q1uf (F:q1uc→Option q1ud):Go.Tx.Spec:=⟨135,q1ub,q1ud,F,q1ue⟩
abbrev q1ug:Type:=Unit
def q1uh (_d:Nat):q1ug:=()
def q1ui (C:q1ug):List Go.Tx.Spec:=[]
abbrev q1uj:Type:=Bool×Int×Int×Bool×Int×Int
def q1uk (v:q1uj):St:=⟨[(0,.agg [.bool v.1,u6 v.2.1,u6 v.2.2.1]),(1,.agg [.bool v.2.2.2.1,u6 v.2.2.2.2.1,u6 v.2.2.2.2.2])],[]⟩
abbrev q1ul:Type:=Bool×Int×Int×Bool×Int×Int×Bool×Int×Int
def q1um (v:q1ul):St:=⟨[(2,.ptr 0 0),(3,.ptr 1 0),(4,.ptr 2 0)],[.cells [.bool v.1,u6 v.2.1,u6 v.2.2.1],.cells [.bool v.2.2.2.1,u6 v.2.2.2.2.1,u6 v.2.2.2.2.2.1],.cells [.bool v.2.2.2.2.2.2.1,u6 v.2.2.2.2.2.2.2.1,u6 v.2.2.2.2.2.2.2.2]]⟩
def q1un (C:q1ug) (v:q1uj):Dt q1ul:=(Dt.ret (v.1,v.2.1,v.2.2.1,v.2.2.2.1,v.2.2.2.2.1,v.2.2.2.2.2,false,(0:Int),(0:Int)))
abbrev q34y {V Y:Type}:=@rg q1ug V Y tysT (fun C=>(orc (q1ui C))) 27
theorem q1uo C v:q34y (regO (qct f135) 0) false (an [2,3,4]) q1uk q1un q1um C v:=rgI (by kernel_rfl)
abbrev q1up:Type:=Bool×Int×Int×Bool×Int×Int×Bool×Int×Int×Bool×Int×Int
def q1uq (v:q1up):St:=⟨[(2,.ptr 0 0),(3,.ptr 1 0),(4,.ptr 2 0),(5,.ptr 3 0)],[.cells [.bool v.1,u6 v.2.1,u6 v.2.2.1],.cells [.bool v.2.2.2.1,u6 v.2.2.2.2.1,u6 v.2.2.2.2.2.1],.cells [.bool v.2.2.2.2.2.2.1,u6 v.2.2.2.2.2.2.2.1,u6 v.2.2.2.2.2.2.2.2.1],.cells [.bool v.2.2.2.2.2.2.2.2.2.1,u6 v.2.2.2.2.2.2.2.2.2.2.1,u6 v.2.2.2.2.2.2.2.2.2.2.2]]⟩
def q1ur (C:q1ug) (v:q1ul):Dt q1up:=(Dt.ret (v.1,v.2.1,v.2.2.1,v.2.2.2.1,v.2.2.2.2.1,v.2.2.2.2.2.1,v.2.2.2.2.2.2.1,v.2.2.2.2.2.2.2.1,v.2.2.2.2.2.2.2.2,false,(IntKind.wrap .u64 (v.2.1 - v.2.2.2.2.1)),(IntKind.wrap .u64 (v.2.2.1 - v.2.2.2.2.2.1))))
theorem q1us C v:q34y (regO (qct f135) 1) false (an [2,3,4,5]) q1um q1ur q1uq C v:=rgI (by kernel_rfl)
abbrev q1ut:Type:=Bool×Bool×Int×Int×Bool×Int×Int
def q1uu (v:q1ut):St:=⟨[(4,.ptr 0 0),(5,.ptr 1 0),(21,.bool v.1)],[.cells [.bool v.2.1,u6 v.2.2.1,u6 v.2.2.2.1],.cells [.bool v.2.2.2.2.1,u6 v.2.2.2.2.2.1,u6 v.2.2.2.2.2.2]]⟩
def q1uv (C:q1ug) (v:q1up):Dt q1ut:=(Dt.ret ((decide (v.2.2.1<v.2.2.2.2.2.1)),v.2.2.2.2.2.2.1,v.2.2.2.2.2.2.2.1,v.2.2.2.2.2.2.2.2.1,v.2.2.2.2.2.2.2.2.2.1,v.2.2.2.2.2.2.2.2.2.2.1,v.2.2.2.2.2.2.2.2.2.2.2))
theorem q1uw C v:q34y (regO (qct f135) 2) false (an [4,5,21]) q1uq q1uv q1uu C v:=rgI (by kernel_rfl)
abbrev q1ux:Type:=Bool×Int×Int×Bool×Int×Int
def q1uy (v:q1ux):St:=⟨[(4,.ptr 0 0),(5,.ptr 1 0)],[.cells [.bool v.1,u6 v.2.1,u6 v.2.2.1],.cells [.bool v.2.2.2.1,u6 v.2.2.2.2.1,u6 v.2.2.2.2.2]]⟩
def q1uz (C:q1ug) (v:q1ut):Dt q1ux:=(Dt.ret (v.2.1,v.2.2.1,v.2.2.2.1,v.2.2.2.2.1,(IntKind.wrap .u64 (v.2.2.2.2.2.1 - (1:Int))),v.2.2.2.2.2.2))
theorem q1v0 C v:q34y (regO (qct f135) 3) false (an [4,5]) q1uu q1uz q1uy C v:=rgI (by kernel_rfl)
abbrev q1v1:Type:=Bool×Int×Int
def q1v2 (v:q1v1):St:=⟨[(4,.ptr 0 0)],[.cells [.bool v.1,u6 v.2.1,u6 v.2.2]]⟩
def q1v3 (C:q1ug) (v:q1ux):Dt q1v1:=(Dt.ret (v.2.2.2.1,v.2.2.2.2.1,v.2.2.2.2.2))
theorem q1v4 C v:q34y (regO (qct f135) 4) false [(4,.any)] q1uy q1v3 q1v2 C v:=rgI (by kernel_rfl)
def q1v5  (d:Nat)  (z:Bool×Int×Int×Bool×Int×Int):Option (q1ud) :=
 (q1v3 (q1uh d) z).eval fun y4 =>
 some y4
def q1v6 (d:Nat) (x:q1uc):Option q1ud :=
 (q1un (q1uh d) (x.1.1,x.1.2.1,x.1.2.2.1,x.2.1.1,x.2.1.2.1,x.2.1.2.2.1)).eval fun y0 =>
 (q1ur (q1uh d) y0).eval fun y1 =>
 (q1uv (q1uh d) y1).eval fun y2 =>
 bif y2.1 then ((q1uz (q1uh d) y2).eval fun y3 =>
 q1v5 d  y3) else (q1v5 d  y2.2)
theorem q1v7 (d:Nat):COK prog (q1uf (q1v6 d)):=by
 have hm:prog.follows .mixedOrders=true:=mixed
 have hT:=tys
 have hC0:OrcOK prog (orc (q1ui (q1uh d))):=qcn (by
  intro S hS
  simp only [q1ui,List.mem_cons,List.not_mem_nil,or_false] at hS
  all_goals first | cases hS | exact hS.elim)
 have hC:OrcOK prog (orc (q1ui (q1uh d))):=hC0
 refine q8c (c:=qct f135) (fn:=f135) hT (by kernel_rfl) (by kernel_rfl) (by decide) fun x r h w0 φ0 Q hend=>?_
 replace h:q1v6 d x=some r:=h
 unfold q1v6 at h
 show Run prog w0 φ0 27 (qct f135) ⟨[(0,.agg [.bool x.1.1,.int .u64 x.1.2.1,.int .u64 x.1.2.2.1]),(1,.agg [.bool x.2.1.1,.int .u64 x.2.1.2.1,.int .u64 x.2.1.2.2.1])],[]⟩ Q
 refine q342 hm hT hC (q1uo (q1uh d) (x.1.1,x.1.2.1,x.1.2.2.1,x.2.1.1,x.2.1.2.1,x.2.1.2.2.1)) h fun y0 h=>?_
 refine q342 hm hT hC (q1us (q1uh d) y0) h fun y1 h=>?_
 refine q7z (r:=r) (F:=q1v5 d ) (S:=(fun z=>⟨[(4,.ptr 0 0),(5,.ptr 1 0)],[.cells [.bool z.1,u6 z.2.1,u6 z.2.2.1],.cells [.bool z.2.2.2.1,u6 z.2.2.2.2.1,u6 z.2.2.2.2.2]]⟩:q1jp→St)) ?_ ?_
 ·
  intro z h
  unfold q1v5 at h
  refine q342 hm hT hC (q1v4 (q1uh d) z) h fun y4 h=>?_
  refine q7v ?_
  cases h
  exact (hend _ (by kernel_rfl)).2
 intro hj1
 refine q342 hm hT hC (q1uw (q1uh d) y1) h fun y2 h=>?_
 refine q80 (v:=y2.1) (by kernel_rfl) h ?_ ?_
 ·
  intro h
  refine q81 hm hT hC (q1v0 (q1uh d) y2) h ?_
  intro y3 h
  exact hj1 _ h
 ·
  intro h
  refine q7s ?_
  refine qcs (s:=⟨[(4,.ptr 0 0),(5,.ptr 1 0)],[.cells [.bool y2.2.1,.int .u64 y2.2.2.1,.int .u64 y2.2.2.2.1],.cells [.bool y2.2.2.2.2.1,.int .u64 y2.2.2.2.2.2.1,.int .u64 y2.2.2.2.2.2.2]]⟩) [21] (by kernel_rfl) ?_
  exact hj1 _ h
abbrev q1v8:List Pk:=[.row Rbuu true,.row Rbuu true]
abbrev q1v9:Type:=Dbuu×Dbuu×Unit
abbrev q1va:Type:=Bool×Int×Int
def q1vb (r:q1va):LV×List Ob:=(.agg [.bool r.1,.int .u64 r.2.1,.int .u64 r.2.2],[])
def q1vc (F:q1v9→Option q1va):Go.Tx.Spec:=⟨85,q1v8,q1va,F,q1vb⟩
abbrev q1vd:Type:=(q1t4→Option q1t5)×(q1uc→Option q1ud)×Unit
def q1ve (d:Nat):q1vd:=(q1u9 d,q1v6 d,())
def q1vf (C:q1vd):List Go.Tx.Spec:=[q1t7 C.1,q1uf C.2.1]
abbrev q1vg:Type:=Bool×Int×Int×Bool×Int×Int
def q1vh (v:q1vg):St:=⟨[(0,.agg [.bool v.1,u6 v.2.1,u6 v.2.2.1]),(1,.agg [.bool v.2.2.2.1,u6 v.2.2.2.2.1,u6 v.2.2.2.2.2])],[]⟩
abbrev q1vi:Type:=Bool×Int×Int×Bool×Int×Int×Bool×Int×Int
def q1vj (v:q1vi):St:=⟨[(2,.ptr 0 0),(3,.ptr 1 0),(4,.ptr 2 0)],[.cells [.bool v.1,u6 v.2.1,u6 v.2.2.1],.cells [.bool v.2.2.2.1,u6 v.2.2.2.2.1,u6 v.2.2.2.2.2.1],.cells [.bool v.2.2.2.2.2.2.1,u6 v.2.2.2.2.2.2.2.1,u6 v.2.2.2.2.2.2.2.2]]⟩
def q1vk (C:q1vd) (v:q1vg):Dt q1vi:=(Dt.ret (v.1,v.2.1,v.2.2.1,v.2.2.2.1,v.2.2.2.2.1,v.2.2.2.2.2,false,(0:Int),(0:Int)))
abbrev q34z {V Y:Type}:=@rg q1vd V Y tysT (fun C=>(orc (q1vf C))) 64
theorem q1vl C v:q34z (regO (qct f85) 0) false (an [2,3,4]) q1vh q1vk q1vj C v:=rgI (by kernel_rfl)
abbrev q1vm:Type:=Bool×Bool×Int×Int×Bool×Int×Int×Bool×Int×Int
def q1vn (v:q1vm):St:=⟨[(2,.ptr 0 0),(3,.ptr 1 0),(4,.ptr 2 0),(12,.bool v.1)],[.cells [.bool v.2.1,u6 v.2.2.1,u6 v.2.2.2.1],.cells [.bool v.2.2.2.2.1,u6 v.2.2.2.2.2.1,u6 v.2.2.2.2.2.2.1],.cells [.bool v.2.2.2.2.2.2.2.1,u6 v.2.2.2.2.2.2.2.2.1,u6 v.2.2.2.2.2.2.2.2.2]]⟩
def q1vo (C:q1vd) (v:q1vi):Dt q1vm:=(Dt.ret ((v.1 == v.2.2.2.1),v.1,v.2.1,v.2.2.1,v.2.2.2.1,v.2.2.2.2.1,v.2.2.2.2.2.1,v.2.2.2.2.2.2.1,v.2.2.2.2.2.2.2.1,v.2.2.2.2.2.2.2.2))
theorem q1vp C v:q34z (regO (qct f85) 1) false (an [2,3,4,12]) q1vj q1vo q1vn C v:=rgI (by kernel_rfl)
abbrev q1vq:Type:=Bool×Int×Int×Bool×Int×Int×Bool×Int×Int
def q1vr (v:q1vq):St:=⟨[(2,.ptr 0 0),(4,.ptr 1 0),(5,.ptr 2 0)],[.cells [.bool v.1,u6 v.2.1,u6 v.2.2.1],.cells [.bool v.2.2.2.1,u6 v.2.2.2.2.1,u6 v.2.2.2.2.2.1],.cells [.bool v.2.2.2.2.2.2.1,u6 v.2.2.2.2.2.2.2.1,u6 v.2.2.2.2.2.2.2.2]]⟩
def q1vs (C:q1vd) (v:q1vm):Dt q1vq:=(Dt.ret (v.2.1,v.2.2.1,v.2.2.2.1,v.2.2.2.2.2.2.2.1,v.2.2.2.2.2.2.2.2.1,v.2.2.2.2.2.2.2.2.2,v.2.1,(IntKind.wrap .u64 (v.2.2.1+v.2.2.2.2.2.1)),(IntKind.wrap .u64 (v.2.2.2.1+v.2.2.2.2.2.2.1))))
theorem q1vt C v:q34z (regO (qct f85) 2) false (an [2,4,5]) q1vn q1vs q1vr C v:=rgI (by kernel_rfl)
abbrev q1vu:Type:=Bool×Bool×Int×Int×Bool×Int×Int
def q1vv (v:q1vu):St:=⟨[(4,.ptr 0 0),(5,.ptr 1 0),(30,.bool v.1)],[.cells [.bool v.2.1,u6 v.2.2.1,u6 v.2.2.2.1],.cells [.bool v.2.2.2.2.1,u6 v.2.2.2.2.2.1,u6 v.2.2.2.2.2.2]]⟩
def q1vw (C:q1vd) (v:q1vq):Dt q1vu:=(Dt.ret ((decide (v.2.2.2.2.2.2.2.2<v.2.2.1)),v.2.2.2.1,v.2.2.2.2.1,v.2.2.2.2.2.1,v.2.2.2.2.2.2.1,v.2.2.2.2.2.2.2.1,v.2.2.2.2.2.2.2.2))
theorem q1vx C v:q34z (regO (qct f85) 3) false (an [4,5,30]) q1vr q1vw q1vv C v:=rgI (by kernel_rfl)
abbrev q1vy:Type:=Bool×Int×Int×Bool×Int×Int
def q1vz (v:q1vy):St:=⟨[(4,.ptr 0 0),(5,.ptr 1 0)],[.cells [.bool v.1,u6 v.2.1,u6 v.2.2.1],.cells [.bool v.2.2.2.1,u6 v.2.2.2.2.1,u6 v.2.2.2.2.2]]⟩
def q1w0 (C:q1vd) (v:q1vu):Dt q1vy:=(Dt.ret (v.2.1,v.2.2.1,v.2.2.2.1,v.2.2.2.2.1,(IntKind.wrap .u64 (v.2.2.2.2.2.1+(1:Int))),v.2.2.2.2.2.2))
theorem q1w1 C v:q34z (regO (qct f85) 4) false (an [4,5]) q1vv q1w0 q1vz C v:=rgI (by kernel_rfl)
abbrev q1w2:Type:=Bool×Int×Int
def q1w3 (v:q1w2):St:=⟨[(4,.ptr 0 0)],[.cells [.bool v.1,u6 v.2.1,u6 v.2.2]]⟩
def q1w4 (C:q1vd) (v:q1vy):Dt q1w2:=(Dt.ret (v.2.2.2.1,v.2.2.2.2.1,v.2.2.2.2.2))
theorem q1w5 C v:q34z (regO (qct f85) 5) false [(4,.any)] q1vz q1w4 q1w3 C v:=rgI (by kernel_rfl)
def q1w6  (d:Nat)  (z:Bool×Int×Int×Bool×Int×Int):Option (q1va) :=
 (q1w4 (q1ve d) z).eval fun y5 =>
 some y5
abbrev q1w7:Type:=Bool×Bool×Int×Int×Bool×Int×Int×Bool×Int×Int
def q1w8 (v:q1w7):St:=⟨[(2,.ptr 0 0),(3,.ptr 1 0),(4,.ptr 2 0),(39,.bool v.1)],[.cells [.bool v.2.1,u6 v.2.2.1,u6 v.2.2.2.1],.cells [.bool v.2.2.2.2.1,u6 v.2.2.2.2.2.1,u6 v.2.2.2.2.2.2.1],.cells [.bool v.2.2.2.2.2.2.2.1,u6 v.2.2.2.2.2.2.2.2.1,u6 v.2.2.2.2.2.2.2.2.2]]⟩
def q1w9 (C:q1vd) (v:q1vm):Dt q1w7:=(Dt.bnd (C.1 ((v.2.1,v.2.2.1,v.2.2.2.1,()),(v.2.2.2.2.1,v.2.2.2.2.2.1,v.2.2.2.2.2.2.1,()),())) fun r1=>(Dt.ret ((decide (r1≥(0:Int))),v.2.1,v.2.2.1,v.2.2.2.1,v.2.2.2.2.1,v.2.2.2.2.2.1,v.2.2.2.2.2.2.1,v.2.2.2.2.2.2.2.1,v.2.2.2.2.2.2.2.2.1,v.2.2.2.2.2.2.2.2.2)))
theorem q1wa C v:q34z (regO (qct f85) 6) false (an [2,3,4,39]) q1vn q1w9 q1w8 C v:=rgI (by kernel_rfl)
abbrev q1wb:Type:=Bool×Int×Int×Bool×Int×Int×Bool×Int×Int
def q1wc (v:q1wb):St:=⟨[(2,.ptr 0 0),(4,.ptr 1 0),(6,.ptr 2 0)],[.cells [.bool v.1,u6 v.2.1,u6 v.2.2.1],.cells [.bool v.2.2.2.1,u6 v.2.2.2.2.1,u6 v.2.2.2.2.2.1],.cells [.bool v.2.2.2.2.2.2.1,u6 v.2.2.2.2.2.2.2.1,u6 v.2.2.2.2.2.2.2.2]]⟩
def q1wd (C:q1vd) (v:q1w7):Dt q1wb:=(Dt.bnd (C.2.1 ((v.2.1,v.2.2.1,v.2.2.2.1,()),(v.2.2.2.2.1,v.2.2.2.2.2.1,v.2.2.2.2.2.2.1,()),())) fun r1=>(Dt.ret (v.2.1,v.2.2.1,v.2.2.2.1,v.2.2.2.2.2.2.2.1,v.2.2.2.2.2.2.2.2.1,v.2.2.2.2.2.2.2.2.2,r1.1,r1.2.1,r1.2.2)))
theorem q1we C v:q34z (regO (qct f85) 7) false (an [2,4,6]) q1w8 q1wd q1wc C v:=rgI (by kernel_rfl)
abbrev q1wf:Type:=Bool×Int×Int×Bool×Int×Int
def q1wg (v:q1wf):St:=⟨[(4,.ptr 0 0),(6,.ptr 1 0)],[.cells [.bool v.1,u6 v.2.1,u6 v.2.2.1],.cells [.bool v.2.2.2.1,u6 v.2.2.2.2.1,u6 v.2.2.2.2.2]]⟩
def q1wh (C:q1vd) (v:q1wb):Dt q1wf:=(Dt.ite v.1 (Dt.ite (decide (v.2.2.2.2.2.2.2.1 > (0:Int))) (Dt.ret (v.2.2.2.1,v.2.2.2.2.1,v.2.2.2.2.2.1,true,v.2.2.2.2.2.2.2.1,v.2.2.2.2.2.2.2.2)) (Dt.ret (v.2.2.2.1,v.2.2.2.2.1,v.2.2.2.2.2.1,(decide (v.2.2.2.2.2.2.2.2 > (0:Int))),v.2.2.2.2.2.2.2.1,v.2.2.2.2.2.2.2.2))) (Dt.ret (v.2.2.2.1,v.2.2.2.2.1,v.2.2.2.2.2.1,false,v.2.2.2.2.2.2.2.1,v.2.2.2.2.2.2.2.2)))
theorem q1wi C v:q34z (regO (qct f85) 8) false (an [4,6]) q1wc q1wh q1wg C v:=rgI (by kernel_rfl)
def q1wj (C:q1vd) (v:q1wf):Dt q1w2:=(Dt.ret (v.2.2.2.1,v.2.2.2.2.1,v.2.2.2.2.2))
theorem q1wk C v:q34z (regO (qct f85) 9) false [(4,.any)] q1wg q1wj q1w3 C v:=rgI (by kernel_rfl)
abbrev q1wl:Type:=Bool×Int×Int×Bool×Int×Int×Bool×Int×Int
def q1wm (v:q1wl):St:=⟨[(3,.ptr 0 0),(4,.ptr 1 0),(7,.ptr 2 0)],[.cells [.bool v.1,u6 v.2.1,u6 v.2.2.1],.cells [.bool v.2.2.2.1,u6 v.2.2.2.2.1,u6 v.2.2.2.2.2.1],.cells [.bool v.2.2.2.2.2.2.1,u6 v.2.2.2.2.2.2.2.1,u6 v.2.2.2.2.2.2.2.2]]⟩
def q1wn (C:q1vd) (v:q1w7):Dt q1wl:=(Dt.bnd (C.2.1 ((v.2.2.2.2.1,v.2.2.2.2.2.1,v.2.2.2.2.2.2.1,()),(v.2.1,v.2.2.1,v.2.2.2.1,()),())) fun r1=>(Dt.ret (v.2.2.2.2.1,v.2.2.2.2.2.1,v.2.2.2.2.2.2.1,v.2.2.2.2.2.2.2.1,v.2.2.2.2.2.2.2.2.1,v.2.2.2.2.2.2.2.2.2,r1.1,r1.2.1,r1.2.2)))
theorem q1wo C v:q34z (regO (qct f85) 10) false (an [3,4,7]) q1w8 q1wn q1wm C v:=rgI (by kernel_rfl)
abbrev q1wp:Type:=Bool×Int×Int×Bool×Int×Int
def q1wq (v:q1wp):St:=⟨[(4,.ptr 0 0),(7,.ptr 1 0)],[.cells [.bool v.1,u6 v.2.1,u6 v.2.2.1],.cells [.bool v.2.2.2.1,u6 v.2.2.2.2.1,u6 v.2.2.2.2.2]]⟩
def q1wr (C:q1vd) (v:q1wl):Dt q1wp:=(Dt.ret (v.2.2.2.1,v.2.2.2.2.1,v.2.2.2.2.2.1,v.1,v.2.2.2.2.2.2.2.1,v.2.2.2.2.2.2.2.2))
theorem q1ws C v:q34z (regO (qct f85) 11) false (an [4,7]) q1wm q1wr q1wq C v:=rgI (by kernel_rfl)
def q1wt (C:q1vd) (v:q1wp):Dt q1w2:=(Dt.ret (v.2.2.2.1,v.2.2.2.2.1,v.2.2.2.2.2))
theorem q1wu C v:q34z (regO (qct f85) 12) false [(4,.any)] q1wq q1wt q1w3 C v:=rgI (by kernel_rfl)
def q1wv (d:Nat) (x:q1v9):Option q1va :=
 (q1vk (q1ve d) (x.1.1,x.1.2.1,x.1.2.2.1,x.2.1.1,x.2.1.2.1,x.2.1.2.2.1)).eval fun y0 =>
 (q1vo (q1ve d) y0).eval fun y1 =>
 bif y1.1 then ((q1vs (q1ve d) y1).eval fun y2 =>
 (q1vw (q1ve d) y2).eval fun y3 =>
 bif y3.1 then ((q1w0 (q1ve d) y3).eval fun y4 =>
 q1w6 d  y4) else (q1w6 d  y3.2)) else ((q1w9 (q1ve d) y1).eval fun y6 =>
 bif y6.1 then ((q1wd (q1ve d) y6).eval fun y7 =>
 (q1wh (q1ve d) y7).eval fun y8 =>
 (q1wj (q1ve d) y8).eval fun y9 =>
 some y9) else ((q1wn (q1ve d) y6).eval fun y10 =>
 (q1wr (q1ve d) y10).eval fun y11 =>
 (q1wt (q1ve d) y11).eval fun y12 =>
 some y12))
theorem q1ww (d:Nat):COK prog (q1vc (q1wv d)):=by
 have hm:prog.follows .mixedOrders=true:=mixed
 have hT:=tys
 have hC0:OrcOK prog (orc (q1vf (q1ve d))):=qcn (by
  intro S hS
  simp only [q1vf,List.mem_cons,List.not_mem_nil,or_false] at hS
  rcases hS with rfl | rfl
  · exact q1ua d
  · exact q1v7 d)
 have hC:OrcOK prog (orc (q1vf (q1ve d))):=hC0
 refine q8c (c:=qct f85) (fn:=f85) hT (by kernel_rfl) (by kernel_rfl) (by decide) fun x r h w0 φ0 Q hend=>?_
 replace h:q1wv d x=some r:=h
 unfold q1wv at h
 show Run prog w0 φ0 64 (qct f85) ⟨[(0,.agg [.bool x.1.1,.int .u64 x.1.2.1,.int .u64 x.1.2.2.1]),(1,.agg [.bool x.2.1.1,.int .u64 x.2.1.2.1,.int .u64 x.2.1.2.2.1])],[]⟩ Q
 refine q342 hm hT hC (q1vl (q1ve d) (x.1.1,x.1.2.1,x.1.2.2.1,x.2.1.1,x.2.1.2.1,x.2.1.2.2.1)) h fun y0 h=>?_
 refine q7w ?_
 refine q342 hm hT hC (q1vp (q1ve d) y0) h fun y1 h=>?_
 refine q80 (v:=y1.1) (by kernel_rfl) h ?_ ?_
 ·
  intro h
  refine q342 hm hT hC (q1vt (q1ve d) y1) h fun y2 h=>?_
  refine q7z (r:=r) (F:=q1w6 d ) (S:=(fun z=>⟨[(4,.ptr 0 0),(5,.ptr 1 0)],[.cells [.bool z.1,u6 z.2.1,u6 z.2.2.1],.cells [.bool z.2.2.2.1,u6 z.2.2.2.2.1,u6 z.2.2.2.2.2]]⟩:q1jp→St)) ?_ ?_
  ·
   intro z h
   unfold q1w6 at h
   refine q342 hm hT hC (q1w5 (q1ve d) z) h fun y5 h=>?_
   refine q7v (q7k ?_)
   cases h
   exact (hend _ (by kernel_rfl)).2
  intro hj1
  refine q342 hm hT hC (q1vx (q1ve d) y2) h fun y3 h=>?_
  refine q80 (v:=y3.1) (by kernel_rfl) h ?_ ?_
  ·
   intro h
   refine q81 hm hT hC (q1w1 (q1ve d) y3) h ?_
   intro y4 h
   exact hj1 _ h
  ·
   intro h
   refine q7s ?_
   refine qcs (s:=⟨[(4,.ptr 0 0),(5,.ptr 1 0)],[.cells [.bool y3.2.1,.int .u64 y3.2.2.1,.int .u64 y3.2.2.2.1],.cells [.bool y3.2.2.2.2.1,.int .u64 y3.2.2.2.2.2.1,.int .u64 y3.2.2.2.2.2.2]]⟩) [30] (by kernel_rfl) ?_
   exact hj1 _ h
 ·
  intro h
  refine q7s (q7i (q7w ?_))
  refine q342 hm hT hC (q1wa (q1ve d) y1) h fun y6 h=>?_
  refine q80 (v:=y6.1) (by kernel_rfl) h ?_ ?_
  ·
   intro h
   refine q342 hm hT hC (q1we (q1ve d) y6) h fun y7 h=>?_
   refine q342 hm hT hC (q1wi (q1ve d) y7) h fun y8 h=>?_
   refine q342 hm hT hC (q1wk (q1ve d) y8) h fun y9 h=>?_
   refine q7v (q7k ?_)
   cases h
   exact (hend _ (by kernel_rfl)).2
  ·
   intro h
   refine q7s (q7i ?_)
   refine q342 hm hT hC (q1wo (q1ve d) y6) h fun y10 h=>?_
   refine q342 hm hT hC (q1ws (q1ve d) y10) h fun y11 h=>?_
   refine q342 hm hT hC (q1wu (q1ve d) y11) h fun y12 h=>?_
   refine q7v ?_
   cases h
   exact (hend _ (by kernel_rfl)).2
abbrev q1wx:List Pk:=[.row Rbuu true,.row Ru false]
abbrev q1wy:Type:=Dbuu×Du×Unit
abbrev q1wz:Type:=Bool×Int×Int×Int
def q1x0 (r:q1wz):LV×List Ob:=(.tup [.agg [.bool r.1,.int .u64 r.2.1,.int .u64 r.2.2.1],.int .u64 r.2.2.2],[])
def q1x1 (F:q1wy→Option q1wz):Go.Tx.Spec:=⟨87,q1wx,q1wz,F,q1x0⟩
abbrev q1x2:Type:=Unit
def q1x3 (_d:Nat):q1x2:=()
def q1x4 (C:q1x2):List Go.Tx.Spec:=[]
abbrev q1x5:Type:=Bool×Int×Int×Int
def q1x6 (v:q1x5):St:=⟨[(0,.agg [.bool v.1,u6 v.2.1,u6 v.2.2.1]),(1,u6 v.2.2.2)],[]⟩
abbrev q1x7:Type:=Int×Bool×Int×Int×Bool×Int×Int
def q1x8 (v:q1x7):St:=⟨[(1,u6 v.1),(2,.ptr 0 0),(4,.ptr 1 0)],[.cells [.bool v.2.1,u6 v.2.2.1,u6 v.2.2.2.1],.cells [.bool v.2.2.2.2.1,u6 v.2.2.2.2.2.1,u6 v.2.2.2.2.2.2]]⟩
def q1x9 (C:q1x2) (v:q1x5):Dt q1x7:=(Dt.ret (v.2.2.2,v.1,v.2.1,v.2.2.1,false,(0:Int),(0:Int)))
abbrev q350 {V Y:Type}:=@rg q1x2 V Y tysT (fun C=>(orc (q1x4 C))) 54
theorem q1xa C v:q350 (regO (qct f87) 0) false (an [1,2,4]) q1x6 q1x9 q1x8 C v:=rgI (by kernel_rfl)
abbrev q1xb:Type:=Int×Bool×Int×Int×Bool×Int×Int×Bool×Int×Int
def q1xc (v:q1xb):St:=⟨[(1,u6 v.1),(2,.ptr 0 0),(4,.ptr 1 0),(6,.ptr 2 0)],[.cells [.bool v.2.1,u6 v.2.2.1,u6 v.2.2.2.1],.cells [.bool v.2.2.2.2.1,u6 v.2.2.2.2.2.1,u6 v.2.2.2.2.2.2.1],.cells [.bool v.2.2.2.2.2.2.2.1,u6 v.2.2.2.2.2.2.2.2.1,u6 v.2.2.2.2.2.2.2.2.2]]⟩
def q1xd (C:q1x2) (v:q1x7):Dt q1xb:=(Dt.ret (v.1,v.2.1,v.2.2.1,v.2.2.2.1,v.2.2.2.2.1,v.2.2.2.2.2.1,v.2.2.2.2.2.2,false,(0:Int),(0:Int)))
theorem q1xe C v:q350 (regO (qct f87) 1) false (an [1,2,4,6]) q1x8 q1xd q1xc C v:=rgI (by kernel_rfl)
abbrev q1xf:Type:=Int×Int×Bool×Int×Int×Bool×Int×Int×Bool×Int×Int
def q1xg (v:q1xf):St:=⟨[(1,u6 v.1),(2,.ptr 0 0),(4,.ptr 1 0),(6,.ptr 2 0),(7,u6 v.2.1)],[.cells [.bool v.2.2.1,u6 v.2.2.2.1,u6 v.2.2.2.2.1],.cells [.bool v.2.2.2.2.2.1,u6 v.2.2.2.2.2.2.1,u6 v.2.2.2.2.2.2.2.1],.cells [.bool v.2.2.2.2.2.2.2.2.1,u6 v.2.2.2.2.2.2.2.2.2.1,u6 v.2.2.2.2.2.2.2.2.2.2]]⟩
def q1xh (C:q1x2) (v:q1xb):Dt q1xf:=(Dt.ret (v.1,(0:Int),v.2.1,v.2.2.1,v.2.2.2.1,v.2.2.2.2.1,v.2.2.2.2.2.1,v.2.2.2.2.2.2.1,v.2.2.2.2.2.2.2.1,v.2.2.2.2.2.2.2.2.1,v.2.2.2.2.2.2.2.2.2))
theorem q1xi C v:q350 (regO (qct f87) 2) false (an [1,2,4,6,7]) q1xc q1xh q1xg C v:=rgI (by kernel_rfl)
abbrev q1xj:Type:=Int×Int×Int×Bool×Int×Int×Bool×Int×Int×Bool×Int×Int
def q1xk (v:q1xj):St:=⟨[(1,u6 v.1),(2,.ptr 0 0),(4,.ptr 1 0),(6,.ptr 2 0),(7,u6 v.2.1),(8,i6 v.2.2.1)],[.cells [.bool v.2.2.2.1,u6 v.2.2.2.2.1,u6 v.2.2.2.2.2.1],.cells [.bool v.2.2.2.2.2.2.1,u6 v.2.2.2.2.2.2.2.1,u6 v.2.2.2.2.2.2.2.2.1],.cells [.bool v.2.2.2.2.2.2.2.2.2.1,u6 v.2.2.2.2.2.2.2.2.2.2.1,u6 v.2.2.2.2.2.2.2.2.2.2.2]]⟩
def q1xl (C:q1x2) (v:q1xf):Dt q1xj:=(Dt.ret (v.1,v.2.1,(127:Int),v.2.2.1,v.2.2.2.1,v.2.2.2.2.1,v.2.2.2.2.2.1,v.2.2.2.2.2.2.1,v.2.2.2.2.2.2.2.1,v.2.2.2.2.2.2.2.2.1,v.2.2.2.2.2.2.2.2.2.1,v.2.2.2.2.2.2.2.2.2.2))
theorem q1xm C v:q350 (regO (qct f87) 3) false (an [1,2,4,6,7,8]) q1xg q1xl q1xk C v:=rgI (by kernel_rfl)
abbrev q1xn:Type:=Int×Int×Int×Bool×Bool×Int×Int×Bool×Int×Int×Bool×Int×Int
def q1xo (v:q1xn):St:=⟨[(1,u6 v.1),(2,.ptr 0 0),(4,.ptr 1 0),(6,.ptr 2 0),(7,u6 v.2.1),(8,i6 v.2.2.1),(11,.bool v.2.2.2.1)],[.cells [.bool v.2.2.2.2.1,u6 v.2.2.2.2.2.1,u6 v.2.2.2.2.2.2.1],.cells [.bool v.2.2.2.2.2.2.2.1,u6 v.2.2.2.2.2.2.2.2.1,u6 v.2.2.2.2.2.2.2.2.2.1],.cells [.bool v.2.2.2.2.2.2.2.2.2.2.1,u6 v.2.2.2.2.2.2.2.2.2.2.2.1,u6 v.2.2.2.2.2.2.2.2.2.2.2.2]]⟩
def q1xp (C:q1x2) (v:q1xj):Dt q1xn:=(Dt.ret (v.1,v.2.1,v.2.2.1,(decide (v.2.2.1≥(0:Int))),v.2.2.2.1,v.2.2.2.2.1,v.2.2.2.2.2.1,v.2.2.2.2.2.2.1,v.2.2.2.2.2.2.2.1,v.2.2.2.2.2.2.2.2.1,v.2.2.2.2.2.2.2.2.2.1,v.2.2.2.2.2.2.2.2.2.2.1,v.2.2.2.2.2.2.2.2.2.2.2))
theorem q1xq C v:q350 (regO (qct f87) 4) false (an [1,2,4,6,7,8,11]) q1xk q1xp q1xo C v:=rgI (by kernel_rfl)
abbrev q1xr:Type:=Int×Int×Int×Int×Bool×Int×Int×Bool×Int×Int×Bool×Int×Int
def q1xs (v:q1xr):St:=⟨[(1,u6 v.1),(2,.ptr 0 0),(4,.ptr 1 0),(6,.ptr 2 0),(7,u6 v.2.1),(8,i6 v.2.2.1),(9,u6 v.2.2.2.1)],[.cells [.bool v.2.2.2.2.1,u6 v.2.2.2.2.2.1,u6 v.2.2.2.2.2.2.1],.cells [.bool v.2.2.2.2.2.2.2.1,u6 v.2.2.2.2.2.2.2.2.1,u6 v.2.2.2.2.2.2.2.2.2.1],.cells [.bool v.2.2.2.2.2.2.2.2.2.2.1,u6 v.2.2.2.2.2.2.2.2.2.2.2.1,u6 v.2.2.2.2.2.2.2.2.2.2.2.2]]⟩
def q1xt (C:q1x2) (v:q1xn):Dt q1xr:=(Dt.ite (decide (v.2.2.1<0)) Dt.fail (Dt.ret (v.1,v.2.1,v.2.2.1,(andI .u64 (shrI .u64 v.2.2.2.2.2.2.1 v.2.2.1) (1:Int)),v.2.2.2.2.1,v.2.2.2.2.2.1,v.2.2.2.2.2.2.1,v.2.2.2.2.2.2.2.1,v.2.2.2.2.2.2.2.2.1,v.2.2.2.2.2.2.2.2.2.1,v.2.2.2.2.2.2.2.2.2.2.1,v.2.2.2.2.2.2.2.2.2.2.2.1,v.2.2.2.2.2.2.2.2.2.2.2.2)))
theorem q1xu C v:q350 (regO (qct f87) 6) false (an [1,2,4,6,7,8,9]) q1xo q1xt q1xs C v:=rgI (by kernel_rfl)
abbrev q1xv:Type:=Int×Int×Int×Int×Bool×Bool×Int×Int×Bool×Int×Int×Bool×Int×Int
def q1xw (v:q1xv):St:=⟨[(1,u6 v.1),(2,.ptr 0 0),(4,.ptr 1 0),(6,.ptr 2 0),(7,u6 v.2.1),(8,i6 v.2.2.1),(9,u6 v.2.2.2.1),(20,.bool v.2.2.2.2.1)],[.cells [.bool v.2.2.2.2.2.1,u6 v.2.2.2.2.2.2.1,u6 v.2.2.2.2.2.2.2.1],.cells [.bool v.2.2.2.2.2.2.2.2.1,u6 v.2.2.2.2.2.2.2.2.2.1,u6 v.2.2.2.2.2.2.2.2.2.2.1],.cells [.bool v.2.2.2.2.2.2.2.2.2.2.2.1,u6 v.2.2.2.2.2.2.2.2.2.2.2.2.1,u6 v.2.2.2.2.2.2.2.2.2.2.2.2.2]]⟩
def q1xx (C:q1x2) (v:q1xr):Dt q1xv:=(Dt.ret (v.1,v.2.1,v.2.2.1,v.2.2.2.1,(decide (v.2.2.1≥(64:Int))),v.2.2.2.2.1,v.2.2.2.2.2.1,v.2.2.2.2.2.2.1,v.2.2.2.2.2.2.2.1,v.2.2.2.2.2.2.2.2.1,v.2.2.2.2.2.2.2.2.2.1,v.2.2.2.2.2.2.2.2.2.2.1,v.2.2.2.2.2.2.2.2.2.2.2.1,v.2.2.2.2.2.2.2.2.2.2.2.2))
theorem q1xy C v:q350 (regO (qct f87) 7) false (an [1,2,4,6,7,8,9,20]) q1xs q1xx q1xw C v:=rgI (by kernel_rfl)
def q1xz (C:q1x2) (v:q1xv):Dt q1xr:=(Dt.ite (decide ((IntKind.wrap .i64 (v.2.2.1 - (64:Int)))<0)) Dt.fail (Dt.ret (v.1,v.2.1,v.2.2.1,(andI .u64 (shrI .u64 v.2.2.2.2.2.2.1 (IntKind.wrap .i64 (v.2.2.1 - (64:Int)))) (1:Int)),v.2.2.2.2.2.1,v.2.2.2.2.2.2.1,v.2.2.2.2.2.2.2.1,v.2.2.2.2.2.2.2.2.1,v.2.2.2.2.2.2.2.2.2.1,v.2.2.2.2.2.2.2.2.2.2.1,v.2.2.2.2.2.2.2.2.2.2.2.1,v.2.2.2.2.2.2.2.2.2.2.2.2.1,v.2.2.2.2.2.2.2.2.2.2.2.2.2)))
theorem q1y0 C v:q350 (regO (qct f87) 8) false (an [1,2,4,6,7,8,9]) q1xw q1xz q1xs C v:=rgI (by kernel_rfl)
def q1y1 (C:q1x2) (v:q1xr):Dt q1xj:=(Dt.ret (v.1,(IntKind.wrap .u64 ((IntKind.wrap .u64 ((2:Int)*v.2.1))+v.2.2.2.1)),v.2.2.1,v.2.2.2.2.1,v.2.2.2.2.2.1,v.2.2.2.2.2.2.1,v.2.2.2.2.2.2.2.1,v.2.2.2.2.2.2.2.2.1,v.2.2.2.2.2.2.2.2.2.1,v.2.2.2.2.2.2.2.2.2.2.1,v.2.2.2.2.2.2.2.2.2.2.2.1,v.2.2.2.2.2.2.2.2.2.2.2.2))
theorem q1y2 C v:q350 (regO (qct f87) 9) false (an [1,2,4,6,7,8]) q1xs q1y1 q1xk C v:=rgI (by kernel_rfl)
abbrev q1y3:Type:=Int×Int×Int×Bool×Bool×Int×Int×Bool×Int×Int×Bool×Int×Int
def q1y4 (v:q1y3):St:=⟨[(1,u6 v.1),(2,.ptr 0 0),(4,.ptr 1 0),(6,.ptr 2 0),(7,u6 v.2.1),(8,i6 v.2.2.1),(33,.bool v.2.2.2.1)],[.cells [.bool v.2.2.2.2.1,u6 v.2.2.2.2.2.1,u6 v.2.2.2.2.2.2.1],.cells [.bool v.2.2.2.2.2.2.2.1,u6 v.2.2.2.2.2.2.2.2.1,u6 v.2.2.2.2.2.2.2.2.2.1],.cells [.bool v.2.2.2.2.2.2.2.2.2.2.1,u6 v.2.2.2.2.2.2.2.2.2.2.2.1,u6 v.2.2.2.2.2.2.2.2.2.2.2.2]]⟩
def q1y5 (C:q1x2) (v:q1xj):Dt q1y3:=(Dt.ret (v.1,v.2.1,v.2.2.1,(decide (v.2.1≥v.1)),v.2.2.2.1,v.2.2.2.2.1,v.2.2.2.2.2.1,v.2.2.2.2.2.2.1,v.2.2.2.2.2.2.2.1,v.2.2.2.2.2.2.2.2.1,v.2.2.2.2.2.2.2.2.2.1,v.2.2.2.2.2.2.2.2.2.2.1,v.2.2.2.2.2.2.2.2.2.2.2))
theorem q1y6 C v:q350 (regO (qct f87) 10) false (an [1,2,4,6,7,8,33]) q1xk q1y5 q1y4 C v:=rgI (by kernel_rfl)
def q1y7 (C:q1x2) (v:q1y3):Dt q1xj:=(Dt.ret (v.1,(IntKind.wrap .u64 (v.2.1 - v.1)),v.2.2.1,v.2.2.2.2.1,v.2.2.2.2.2.1,v.2.2.2.2.2.2.1,v.2.2.2.2.2.2.2.1,v.2.2.2.2.2.2.2.2.1,v.2.2.2.2.2.2.2.2.2.1,v.2.2.2.2.2.2.2.2.2.2.1,v.2.2.2.2.2.2.2.2.2.2.2.1,v.2.2.2.2.2.2.2.2.2.2.2.2))
theorem q1y8 C v:q350 (regO (qct f87) 11) false (an [1,2,4,6,7,8]) q1y4 q1y7 q1xk C v:=rgI (by kernel_rfl)
abbrev q1y9:Type:=Int×Int×Int×Bool×Bool×Int×Int×Bool×Int×Int×Bool×Int×Int
def q1ya (v:q1y9):St:=⟨[(1,u6 v.1),(2,.ptr 0 0),(4,.ptr 1 0),(6,.ptr 2 0),(7,u6 v.2.1),(8,i6 v.2.2.1),(38,.bool v.2.2.2.1)],[.cells [.bool v.2.2.2.2.1,u6 v.2.2.2.2.2.1,u6 v.2.2.2.2.2.2.1],.cells [.bool v.2.2.2.2.2.2.2.1,u6 v.2.2.2.2.2.2.2.2.1,u6 v.2.2.2.2.2.2.2.2.2.1],.cells [.bool v.2.2.2.2.2.2.2.2.2.2.1,u6 v.2.2.2.2.2.2.2.2.2.2.2.1,u6 v.2.2.2.2.2.2.2.2.2.2.2.2]]⟩
def q1yb (C:q1x2) (v:q1xj):Dt q1y9:=(Dt.ret (v.1,v.2.1,v.2.2.1,(decide (v.2.2.1≥(64:Int))),v.2.2.2.1,v.2.2.2.2.1,v.2.2.2.2.2.1,v.2.2.2.2.2.2.1,v.2.2.2.2.2.2.2.1,v.2.2.2.2.2.2.2.2.1,v.2.2.2.2.2.2.2.2.2.1,v.2.2.2.2.2.2.2.2.2.2.1,v.2.2.2.2.2.2.2.2.2.2.2))
theorem q1yc C v:q350 (regO (qct f87) 12) false (an [1,2,4,6,7,8,38]) q1xk q1yb q1ya C v:=rgI (by kernel_rfl)
def q1yd (C:q1x2) (v:q1y9):Dt q1xj:=(Dt.ite (decide ((IntKind.wrap .i64 (v.2.2.1 - (64:Int)))<0)) Dt.fail (Dt.ret (v.1,v.2.1,v.2.2.1,v.2.2.2.2.1,v.2.2.2.2.2.1,v.2.2.2.2.2.2.1,v.2.2.2.2.2.2.2.1,v.2.2.2.2.2.2.2.2.1,v.2.2.2.2.2.2.2.2.2.1,v.2.2.2.2.2.2.2.2.2.2.1,(orI .u64 v.2.2.2.2.2.2.2.2.2.2.2.1 (shlI .u64 (1:Int) (IntKind.wrap .i64 (v.2.2.1 - (64:Int))))),v.2.2.2.2.2.2.2.2.2.2.2.2)))
theorem q1ye C v:q350 (regO (qct f87) 13) true (an [1,2,4,6,7,8]) q1ya q1yd q1xk C v:=rgI (by kernel_rfl)
def q1yf (C:q1x2) (v:q1xj):Dt q1xj:=(Dt.ret (v.1,v.2.1,(IntKind.wrap .i64 (v.2.2.1 - (1:Int))),v.2.2.2.1,v.2.2.2.2.1,v.2.2.2.2.2.1,v.2.2.2.2.2.2.1,v.2.2.2.2.2.2.2.1,v.2.2.2.2.2.2.2.2.1,v.2.2.2.2.2.2.2.2.2.1,v.2.2.2.2.2.2.2.2.2.2.1,v.2.2.2.2.2.2.2.2.2.2.2))
theorem q1yg C v:q350 (regO (qct f87) 5) false (an [1,2,4,6,7,8]) q1xk q1yf q1xk C v:=rgI (by kernel_rfl)
def q1yh  (d:Nat) (self1:(Int×Int×Int×Bool×Int×Int×Bool×Int×Int×Bool×Int×Int)→Option q1wz) (z:Int×Int×Int×Bool×Int×Int×Bool×Int×Int×Bool×Int×Int):Option (q1wz) :=
 (q1yf (q1x3 d) z).eval fun y5 =>
 self1 y5
def q1yi (C:q1x2) (v:q1y9):Dt q1xj:=(Dt.ite (decide (v.2.2.1<0)) Dt.fail (Dt.ret (v.1,v.2.1,v.2.2.1,v.2.2.2.2.1,v.2.2.2.2.2.1,v.2.2.2.2.2.2.1,v.2.2.2.2.2.2.2.1,v.2.2.2.2.2.2.2.2.1,v.2.2.2.2.2.2.2.2.2.1,v.2.2.2.2.2.2.2.2.2.2.1,v.2.2.2.2.2.2.2.2.2.2.2.1,(orI .u64 v.2.2.2.2.2.2.2.2.2.2.2.2 (shlI .u64 (1:Int) v.2.2.1)))))
theorem q1yj C v:q350 (regO (qct f87) 14) true (an [1,2,4,6,7,8]) q1ya q1yi q1xk C v:=rgI (by kernel_rfl)
def q1yk  (d:Nat) (self1:(Int×Int×Int×Bool×Int×Int×Bool×Int×Int×Bool×Int×Int)→Option q1wz) (z:Int×Int×Int×Int×Bool×Int×Int×Bool×Int×Int×Bool×Int×Int):Option (q1wz) :=
 (q1y1 (q1x3 d) z).eval fun y9 =>
 (q1y5 (q1x3 d) y9).eval fun y10 =>
 bif y10.2.2.2.1 then ((q1y7 (q1x3 d) y10).eval fun y11 =>
 (q1yb (q1x3 d) y11).eval fun y12 =>
 bif y12.2.2.2.1 then ((q1yd (q1x3 d) y12).eval fun y13 =>
 q1yh d self1 y13) else ((q1yi (q1x3 d) y12).eval fun y14 =>
 q1yh d self1 y14)) else (q1yh d self1 (y10.1,y10.2.1,y10.2.2.1,y10.2.2.2.2.1,y10.2.2.2.2.2.1,y10.2.2.2.2.2.2.1,y10.2.2.2.2.2.2.2.1,y10.2.2.2.2.2.2.2.2.1,y10.2.2.2.2.2.2.2.2.2.1,y10.2.2.2.2.2.2.2.2.2.2.1,y10.2.2.2.2.2.2.2.2.2.2.2.1,y10.2.2.2.2.2.2.2.2.2.2.2.2))
abbrev q1yl:Type:=Int×Bool×Int×Int
def q1ym (v:q1yl):St:=⟨[(4,.ptr 0 0),(5,u6 v.1)],[.cells [.bool v.2.1,u6 v.2.2.1,u6 v.2.2.2]]⟩
def q1yn (C:q1x2) (v:q1xn):Dt q1yl:=(Dt.ret (v.2.1,v.2.2.2.2.2.2.2.2.2.2.1,v.2.2.2.2.2.2.2.2.2.2.2.1,v.2.2.2.2.2.2.2.2.2.2.2.2))
theorem q1yo C v:q350 (regO (qct f87) 15) false (an [4,5]) q1xo q1yn q1ym C v:=rgI (by kernel_rfl)
def q1yp (d:Nat) (self1:(Int×Int×Int×Bool×Int×Int×Bool×Int×Int×Bool×Int×Int)→Option q1wz) (x1:Int×Int×Int×Bool×Int×Int×Bool×Int×Int×Bool×Int×Int):Option q1wz :=
 (q1xp (q1x3 d) x1).eval fun y4 =>
 bif y4.2.2.2.1 then ((q1xt (q1x3 d) y4).eval fun y6 =>
 (q1xx (q1x3 d) y6).eval fun y7 =>
 bif y7.2.2.2.2.1 then ((q1xz (q1x3 d) y7).eval fun y8 =>
 q1yk d self1 y8) else (q1yk d self1 (y7.1,y7.2.1,y7.2.2.1,y7.2.2.2.1,y7.2.2.2.2.2.1,y7.2.2.2.2.2.2.1,y7.2.2.2.2.2.2.2.1,y7.2.2.2.2.2.2.2.2.1,y7.2.2.2.2.2.2.2.2.2.1,y7.2.2.2.2.2.2.2.2.2.2.1,y7.2.2.2.2.2.2.2.2.2.2.2.1,y7.2.2.2.2.2.2.2.2.2.2.2.2.1,y7.2.2.2.2.2.2.2.2.2.2.2.2.2))) else ((q1yn (q1x3 d) y4).eval fun y15 =>
 some (y15.2.1,y15.2.2.1,y15.2.2.2,y15.1))
def q1yq (d:Nat) (x:q1wy):Option q1wz :=
 (q1x9 (q1x3 d) (x.1.1,x.1.2.1,x.1.2.2.1,x.2.1.1)).eval fun y0 =>
 (q1xd (q1x3 d) y0).eval fun y1 =>
 (q1xh (q1x3 d) y1).eval fun y2 =>
 (q1xl (q1x3 d) y2).eval fun y3 =>
 iter (q1yp d ) d y3
theorem q1yr (d:Nat):COK prog (q1x1 (q1yq d)):=by
 have hm:prog.follows .mixedOrders=true:=mixed
 have hT:=tys
 have hC0:OrcOK prog (orc (q1x4 (q1x3 d))):=qcn (by
  intro S hS
  simp only [q1x4,List.mem_cons,List.not_mem_nil,or_false] at hS
  all_goals first | cases hS | exact hS.elim)
 have hC:OrcOK prog (orc (q1x4 (q1x3 d))):=hC0
 refine q8c (c:=qct f87) (fn:=f87) hT (by kernel_rfl) (by kernel_rfl) (by decide) fun x r h w0 φ0 Q hend=>?_
 replace h:q1yq d x=some r:=h
 unfold q1yq at h
 show Run prog w0 φ0 54 (qct f87) ⟨[(0,.agg [.bool x.1.1,.int .u64 x.1.2.1,.int .u64 x.1.2.2.1]),(1,.int .u64 x.2.1.1)],[]⟩ Q
 refine q342 hm hT hC (q1xa (q1x3 d) (x.1.1,x.1.2.1,x.1.2.2.1,x.2.1.1)) h fun y0 h=>?_
 refine q342 hm hT hC (q1xe (q1x3 d) y0) h fun y1 h=>?_
 refine q342 hm hT hC (q1xi (q1x3 d) y1) h fun y2 h=>?_
 refine q7w ?_
 refine q342 hm hT hC (q1xm (q1x3 d) y2) h fun y3 h=>?_
 refine q7x ?_
 refine q82 (G:=iter (q1yp d )) (S:=(fun x1=>⟨[(1,u6 x1.1),(2,.ptr 0 0),(4,.ptr 1 0),(6,.ptr 2 0),(7,u6 x1.2.1),(8,i6 x1.2.2.1)],[.cells [.bool x1.2.2.2.1,u6 x1.2.2.2.2.1,u6 x1.2.2.2.2.2.1],.cells [.bool x1.2.2.2.2.2.2.1,u6 x1.2.2.2.2.2.2.2.1,u6 x1.2.2.2.2.2.2.2.2.1],.cells [.bool x1.2.2.2.2.2.2.2.2.2.1,u6 x1.2.2.2.2.2.2.2.2.2.2.1,u6 x1.2.2.2.2.2.2.2.2.2.2.2]]⟩:q1xj→St)) (fun _=>rfl) ?_ d _ h
 intro n1 x1 h K1 hn1
 replace h:q1yp d  (iter (q1yp d ) n1) x1=some r:=h
 generalize iter (q1yp d ) n1=self1 at h hn1
 unfold q1yp at h
 refine q7w ?_
 refine q342 hm hT hC (q1xq (q1x3 d) x1) h fun y4 h=>?_
 refine q80 (v:=y4.2.2.2.1) (by kernel_rfl) h ?_ ?_
 ·
  intro h
  refine q7s (q7i ?_)
  refine q7z (r:=r) (F:=q1yh d self1) (S:=(fun z=>⟨[(1,u6 z.1),(2,.ptr 0 0),(4,.ptr 1 0),(6,.ptr 2 0),(7,u6 z.2.1),(8,i6 z.2.2.1)],[.cells [.bool z.2.2.2.1,u6 z.2.2.2.2.1,u6 z.2.2.2.2.2.1],.cells [.bool z.2.2.2.2.2.2.1,u6 z.2.2.2.2.2.2.2.1,u6 z.2.2.2.2.2.2.2.2.1],.cells [.bool z.2.2.2.2.2.2.2.2.2.1,u6 z.2.2.2.2.2.2.2.2.2.2.1,u6 z.2.2.2.2.2.2.2.2.2.2.2]]⟩:q1xj→St)) ?_ ?_
  ·
   intro z h
   unfold q1yh at h
   refine q81 hm hT hC (q1yg (q1x3 d) z) h ?_
   intro y5 h
   exact hn1 _ h
  intro hj2
  refine q7x ?_
  refine q342 hm hT hC (q1xu (q1x3 d) y4) h fun y6 h=>?_
  refine q7z (r:=r) (F:=q1yk d self1) (S:=(fun z=>⟨[(1,u6 z.1),(2,.ptr 0 0),(4,.ptr 1 0),(6,.ptr 2 0),(7,u6 z.2.1),(8,i6 z.2.2.1),(9,u6 z.2.2.2.1)],[.cells [.bool z.2.2.2.2.1,u6 z.2.2.2.2.2.1,u6 z.2.2.2.2.2.2.1],.cells [.bool z.2.2.2.2.2.2.2.1,u6 z.2.2.2.2.2.2.2.2.1,u6 z.2.2.2.2.2.2.2.2.2.1],.cells [.bool z.2.2.2.2.2.2.2.2.2.2.1,u6 z.2.2.2.2.2.2.2.2.2.2.2.1,u6 z.2.2.2.2.2.2.2.2.2.2.2.2]]⟩:q1xr→St)) ?_ ?_
  ·
   intro z h
   unfold q1yk at h
   refine q342 hm hT hC (q1y2 (q1x3 d) z) h fun y9 h=>?_
   refine q342 hm hT hC (q1y6 (q1x3 d) y9) h fun y10 h=>?_
   refine q80 (v:=y10.2.2.2.1) (by kernel_rfl) h ?_ ?_
   ·
    intro h
    refine q342 hm hT hC (q1y8 (q1x3 d) y10) h fun y11 h=>?_
    refine q342 hm hT hC (q1yc (q1x3 d) y11) h fun y12 h=>?_
    refine q80 (v:=y12.2.2.2.1) (by kernel_rfl) h ?_ ?_
    ·
     intro h
     refine q81 hm hT hC (q1ye (q1x3 d) y12) h ?_
     intro y13 h
     refine q7l ?_
     exact hj2 _ h
    ·
     intro h
     refine q81 hm hT hC (q1yj (q1x3 d) y12) h ?_
     intro y14 h
     refine q7l ?_
     exact hj2 _ h
   ·
    intro h
    refine q7s (q7l ?_)
    refine qcs (s:=⟨[(1,.int .u64 y10.1),(2,.ptr 0 0),(4,.ptr 1 0),(6,.ptr 2 0),(7,.int .u64 y10.2.1),(8,.int .i64 y10.2.2.1)],[.cells [.bool y10.2.2.2.2.1,.int .u64 y10.2.2.2.2.2.1,.int .u64 y10.2.2.2.2.2.2.1],.cells [.bool y10.2.2.2.2.2.2.2.1,.int .u64 y10.2.2.2.2.2.2.2.2.1,.int .u64 y10.2.2.2.2.2.2.2.2.2.1],.cells [.bool y10.2.2.2.2.2.2.2.2.2.2.1,.int .u64 y10.2.2.2.2.2.2.2.2.2.2.2.1,.int .u64 y10.2.2.2.2.2.2.2.2.2.2.2.2]]⟩) [33] (by kernel_rfl) ?_
    exact hj2 _ h
  intro hj3
  refine q342 hm hT hC (q1xy (q1x3 d) y6) h fun y7 h=>?_
  refine q80 (v:=y7.2.2.2.2.1) (by kernel_rfl) h ?_ ?_
  ·
   intro h
   refine q81 hm hT hC (q1y0 (q1x3 d) y7) h ?_
   intro y8 h
   exact hj3 _ h
  ·
   intro h
   refine q7s ?_
   refine qcs (s:=⟨[(1,.int .u64 y7.1),(2,.ptr 0 0),(4,.ptr 1 0),(6,.ptr 2 0),(7,.int .u64 y7.2.1),(8,.int .i64 y7.2.2.1),(9,.int .u64 y7.2.2.2.1)],[.cells [.bool y7.2.2.2.2.2.1,.int .u64 y7.2.2.2.2.2.2.1,.int .u64 y7.2.2.2.2.2.2.2.1],.cells [.bool y7.2.2.2.2.2.2.2.2.1,.int .u64 y7.2.2.2.2.2.2.2.2.2.1,.int .u64 y7.2.2.2.2.2.2.2.2.2.2.1],.cells [.bool y7.2.2.2.2.2.2.2.2.2.2.2.1,.int .u64 y7.2.2.2.2.2.2.2.2.2.2.2.2.1,.int .u64 y7.2.2.2.2.2.2.2.2.2.2.2.2.2]]⟩) [20] (by kernel_rfl) ?_
   exact hj3 _ h
 ·
  intro h
  refine q7u (q7j (q7j (q7n (q7i ?_))))
  refine q342 hm hT hC (q1yo (q1x3 d) y4) h fun y15 h=>?_
  refine q7v ?_
  cases h
  exact (hend _ (by kernel_rfl)).2
abbrev q1ys:List Pk:=[.row Ru false,.row Ru false]
abbrev q1yt:Type:=Du×Du×Unit
abbrev q1yu:Type:=Bool×Int×Int
def q1yv (r:q1yu):LV×List Ob:=(.agg [.bool r.1,.int .u64 r.2.1,.int .u64 r.2.2],[])
def q1yw (F:q1yt→Option q1yu):Go.Tx.Spec:=⟨89,q1ys,q1yu,F,q1yv⟩
abbrev q1yx:Type:=Unit
def q1yy (_d:Nat):q1yx:=()
def q1yz (C:q1yx):List Go.Tx.Spec:=[]
abbrev q1z0:Type:=Int×Int
def q1z1 (v:q1z0):St:=⟨[(0,u6 v.1),(1,u6 v.2)],[]⟩
abbrev q1z2:Type:=Int×Int×Bool×Int×Int
def q1z3 (v:q1z2):St:=⟨[(0,u6 v.1),(1,u6 v.2.1),(4,.ptr 0 0)],[.cells [.bool v.2.2.1,u6 v.2.2.2.1,u6 v.2.2.2.2]]⟩
def q1z4 (C:q1yx) (v:q1z0):Dt q1z2:=(Dt.ret (v.1,v.2,false,(0:Int),(0:Int)))
abbrev q351 {V Y:Type}:=@rg q1yx V Y tysT (fun C=>(orc (q1yz C))) 51
theorem q1z5 C v:q351 (regO (qct f89) 0) false (an [0,1,4]) q1z1 q1z4 q1z3 C v:=rgI (by kernel_rfl)
abbrev q1z6:Type:=Int×Int×Int×Int×Bool×Int×Int
def q1z7 (v:q1z6):St:=⟨[(4,.ptr 0 0),(5,u6 v.1),(6,u6 v.2.1),(7,u6 v.2.2.1),(8,u6 v.2.2.2.1)],[.cells [.bool v.2.2.2.2.1,u6 v.2.2.2.2.2.1,u6 v.2.2.2.2.2.2]]⟩
def q1z8 (C:q1yx) (v:q1z2):Dt q1z6:=(Dt.ite ((4294967296:Int) == (0:Int)) Dt.fail (Dt.ite ((4294967296:Int) == (0:Int)) Dt.fail (Dt.ite ((4294967296:Int) == (0:Int)) Dt.fail (Dt.ite ((4294967296:Int) == (0:Int)) Dt.fail (Dt.ret ((IntKind.wrap .u64 (Int.tdiv v.1 (4294967296:Int))),(Int.tmod v.1 (4294967296:Int)),(IntKind.wrap .u64 (Int.tdiv v.2.1 (4294967296:Int))),(Int.tmod v.2.1 (4294967296:Int)),v.2.2.1,v.2.2.2.1,v.2.2.2.2))))))
theorem q1z9 C v:q351 (regO (qct f89) 1) false (an [4,5,6,7,8]) q1z3 q1z8 q1z7 C v:=rgI (by kernel_rfl)
abbrev q1za:Type:=Int×Int×Int×Int×Int×Bool×Int×Int
def q1zb (v:q1za):St:=⟨[(4,.ptr 0 0),(5,u6 v.1),(6,u6 v.2.1),(7,u6 v.2.2.1),(8,u6 v.2.2.2.1),(9,u6 v.2.2.2.2.1)],[.cells [.bool v.2.2.2.2.2.1,u6 v.2.2.2.2.2.2.1,u6 v.2.2.2.2.2.2.2]]⟩
def q1zc (C:q1yx) (v:q1z6):Dt q1za:=(Dt.ret (v.1,v.2.1,v.2.2.1,v.2.2.2.1,(IntKind.wrap .u64 (v.2.1*v.2.2.2.1)),v.2.2.2.2.1,v.2.2.2.2.2.1,v.2.2.2.2.2.2))
theorem q1zd C v:q351 (regO (qct f89) 2) false (an [4,5,6,7,8,9]) q1z7 q1zc q1zb C v:=rgI (by kernel_rfl)
abbrev q1ze:Type:=Int×Int×Int×Int×Int×Bool×Int×Int
def q1zf (v:q1ze):St:=⟨[(4,.ptr 0 0),(5,u6 v.1),(6,u6 v.2.1),(7,u6 v.2.2.1),(9,u6 v.2.2.2.1),(10,u6 v.2.2.2.2.1)],[.cells [.bool v.2.2.2.2.2.1,u6 v.2.2.2.2.2.2.1,u6 v.2.2.2.2.2.2.2]]⟩
def q1zg (C:q1yx) (v:q1za):Dt q1ze:=(Dt.ite ((4294967296:Int) == (0:Int)) Dt.fail (Dt.ret (v.1,v.2.1,v.2.2.1,v.2.2.2.2.1,(IntKind.wrap .u64 ((IntKind.wrap .u64 (v.1*v.2.2.2.1))+(IntKind.wrap .u64 (Int.tdiv v.2.2.2.2.1 (4294967296:Int))))),v.2.2.2.2.2.1,v.2.2.2.2.2.2.1,v.2.2.2.2.2.2.2)))
theorem q1zh C v:q351 (regO (qct f89) 3) false (an [4,5,6,7,9,10]) q1zb q1zg q1zf C v:=rgI (by kernel_rfl)
abbrev q1zi:Type:=Int×Int×Int×Int×Int×Bool×Int×Int
def q1zj (v:q1zi):St:=⟨[(4,.ptr 0 0),(5,u6 v.1),(7,u6 v.2.1),(9,u6 v.2.2.1),(10,u6 v.2.2.2.1),(11,u6 v.2.2.2.2.1)],[.cells [.bool v.2.2.2.2.2.1,u6 v.2.2.2.2.2.2.1,u6 v.2.2.2.2.2.2.2]]⟩
def q1zk (C:q1yx) (v:q1ze):Dt q1zi:=(Dt.ite ((4294967296:Int) == (0:Int)) Dt.fail (Dt.ret (v.1,v.2.2.1,v.2.2.2.1,v.2.2.2.2.1,(IntKind.wrap .u64 ((IntKind.wrap .u64 (v.2.1*v.2.2.1))+(Int.tmod v.2.2.2.2.1 (4294967296:Int)))),v.2.2.2.2.2.1,v.2.2.2.2.2.2.1,v.2.2.2.2.2.2.2)))
theorem q1zl C v:q351 (regO (qct f89) 4) false (an [4,5,7,9,10,11]) q1zf q1zk q1zj C v:=rgI (by kernel_rfl)
abbrev q1zm:Type:=Bool×Int×Int
def q1zn (v:q1zm):St:=⟨[(4,.ptr 0 0)],[.cells [.bool v.1,u6 v.2.1,u6 v.2.2]]⟩
def q1zo (C:q1yx) (v:q1zi):Dt q1zm:=(Dt.ite ((4294967296:Int) == (0:Int)) Dt.fail (Dt.ite ((4294967296:Int) == (0:Int)) Dt.fail (Dt.ite ((4294967296:Int) == (0:Int)) Dt.fail (Dt.ite ((4294967296:Int) == (0:Int)) Dt.fail (Dt.ret (false,(IntKind.wrap .u64 ((IntKind.wrap .u64 ((IntKind.wrap .u64 (v.1*v.2.1))+(IntKind.wrap .u64 (Int.tdiv v.2.2.2.1 (4294967296:Int)))))+(IntKind.wrap .u64 (Int.tdiv v.2.2.2.2.1 (4294967296:Int))))),(IntKind.wrap .u64 ((IntKind.wrap .u64 ((Int.tmod v.2.2.2.2.1 (4294967296:Int))*(4294967296:Int)))+(Int.tmod v.2.2.1 (4294967296:Int))))))))))
theorem q1zp C v:q351 (regO (qct f89) 5) false [(4,.any)] q1zj q1zo q1zn C v:=rgI (by kernel_rfl)
def q1zq (d:Nat) (x:q1yt):Option q1yu :=
 (q1z4 (q1yy d) (x.1.1,x.2.1.1)).eval fun y0 =>
 (q1z8 (q1yy d) y0).eval fun y1 =>
 (q1zc (q1yy d) y1).eval fun y2 =>
 (q1zg (q1yy d) y2).eval fun y3 =>
 (q1zk (q1yy d) y3).eval fun y4 =>
 (q1zo (q1yy d) y4).eval fun y5 =>
 some y5
theorem q1zr (d:Nat):COK prog (q1yw (q1zq d)):=by
 have hm:prog.follows .mixedOrders=true:=mixed
 have hT:=tys
 have hC0:OrcOK prog (orc (q1yz (q1yy d))):=qcn (by
  intro S hS
  simp only [q1yz,List.mem_cons,List.not_mem_nil,or_false] at hS
  all_goals first | cases hS | exact hS.elim)
 have hC:OrcOK prog (orc (q1yz (q1yy d))):=hC0
 refine q8c (c:=qct f89) (fn:=f89) hT (by kernel_rfl) (by kernel_rfl) (by decide) fun x r h w0 φ0 Q hend=>?_
 replace h:q1zq d x=some r:=h
 unfold q1zq at h
 show Run prog w0 φ0 51 (qct f89) ⟨[(0,.int .u64 x.1.1),(1,.int .u64 x.2.1.1)],[]⟩ Q
 refine q342 hm hT hC (q1z5 (q1yy d) (x.1.1,x.2.1.1)) h fun y0 h=>?_
 refine q342 hm hT hC (q1z9 (q1yy d) y0) h fun y1 h=>?_
 refine q342 hm hT hC (q1zd (q1yy d) y1) h fun y2 h=>?_
 refine q342 hm hT hC (q1zh (q1yy d) y2) h fun y3 h=>?_
 refine q342 hm hT hC (q1zl (q1yy d) y3) h fun y4 h=>?_
 refine q342 hm hT hC (q1zp (q1yy d) y4) h fun y5 h=>?_
 refine q7v ?_
 cases h
 exact (hend _ (by kernel_rfl)).2
abbrev q1zs:List Pk:=[.row Rb false,.row Rbuu true,.row Rbuu true]
abbrev q1zt:Type:=Db×Dbuu×Dbuu×Unit
abbrev q1zu:Type:=Int×Int×Int
def q1zv (r:q1zu):LV×List Ob:=(.tup [.agg [.int .i64 r.1,.int .i64 r.2.1],.int .i64 r.2.2],[])
def q1zw (F:q1zt→Option q1zu):Go.Tx.Spec:=⟨88,q1zs,q1zu,F,q1zv⟩
abbrev q1zx:Type:=Unit
def q1zy (_d:Nat):q1zx:=()
def q1zz (C:q1zx):List Go.Tx.Spec:=[]
abbrev q200:Type:=Bool×Bool×Int×Int×Bool×Int×Int
def q201 (v:q200):St:=⟨[(0,.bool v.1),(1,.agg [.bool v.2.1,u6 v.2.2.1,u6 v.2.2.2.1]),(2,.agg [.bool v.2.2.2.2.1,u6 v.2.2.2.2.2.1,u6 v.2.2.2.2.2.2])],[]⟩
abbrev q202:Type:=Bool×Bool×Int×Int×Bool×Int×Int×Int×Int
def q203 (v:q202):St:=⟨[(0,.bool v.1),(4,.ptr 0 0),(5,.ptr 1 0),(6,.ptr 2 0)],[.cells [.bool v.2.1,u6 v.2.2.1,u6 v.2.2.2.1],.cells [.bool v.2.2.2.2.1,u6 v.2.2.2.2.2.1,u6 v.2.2.2.2.2.2.1],.cells [i6 v.2.2.2.2.2.2.2.1,i6 v.2.2.2.2.2.2.2.2]]⟩
def q204 (C:q1zx) (v:q200):Dt q202:=(Dt.ret (v.1,v.2.1,v.2.2.1,v.2.2.2.1,v.2.2.2.2.1,v.2.2.2.2.2.1,v.2.2.2.2.2.2,(0:Int),(0:Int)))
abbrev q352 {V Y:Type}:=@rg q1zx V Y tysT (fun C=>(orc (q1zz C))) 43
theorem q205 C v:q352 (regO (qct f88) 0) false (an [0,4,5,6]) q201 q204 q203 C v:=rgI (by kernel_rfl)
abbrev q206:Type:=Bool×Bool×Bool×Int×Int×Bool×Int×Int×Int×Int
def q207 (v:q206):St:=⟨[(0,.bool v.1),(4,.ptr 0 0),(5,.ptr 1 0),(6,.ptr 2 0),(25,.bool v.2.1)],[.cells [.bool v.2.2.1,u6 v.2.2.2.1,u6 v.2.2.2.2.1],.cells [.bool v.2.2.2.2.2.1,u6 v.2.2.2.2.2.2.1,u6 v.2.2.2.2.2.2.2.1],.cells [i6 v.2.2.2.2.2.2.2.2.1,i6 v.2.2.2.2.2.2.2.2.2]]⟩
def q208 (C:q1zx) (v:q202):Dt q206:=(Dt.ite (decide (v.2.2.1 > (0:Int))) (Dt.ret (v.1,true,v.2.1,v.2.2.1,v.2.2.2.1,v.2.2.2.2.1,v.2.2.2.2.2.1,v.2.2.2.2.2.2.1,v.2.2.2.2.2.2.2.1,v.2.2.2.2.2.2.2.2)) (Dt.ite (decide (v.2.2.2.1 > (9223372036854775807:Int))) (Dt.ret (v.1,true,v.2.1,v.2.2.1,v.2.2.2.1,v.2.2.2.2.1,v.2.2.2.2.2.1,v.2.2.2.2.2.2.1,v.2.2.2.2.2.2.2.1,v.2.2.2.2.2.2.2.2)) (Dt.ite (decide (v.2.2.2.2.2.1 > (0:Int))) (Dt.ret (v.1,true,v.2.1,v.2.2.1,v.2.2.2.1,v.2.2.2.2.1,v.2.2.2.2.2.1,v.2.2.2.2.2.2.1,v.2.2.2.2.2.2.2.1,v.2.2.2.2.2.2.2.2)) (Dt.ret (v.1,(decide (v.2.2.2.2.2.2.1 > (9223372036854775807:Int))),v.2.1,v.2.2.1,v.2.2.2.1,v.2.2.2.2.1,v.2.2.2.2.2.1,v.2.2.2.2.2.2.1,v.2.2.2.2.2.2.2.1,v.2.2.2.2.2.2.2.2)))))
theorem q209 C v:q352 (regO (qct f88) 1) false (an [0,4,5,6,25]) q203 q208 q207 C v:=rgI (by kernel_rfl)
abbrev q20a:Type:=Int×Int×Int
def q20b (v:q20a):St:=⟨[(6,.ptr 0 0),(7,i6 v.1)],[.cells [i6 v.2.1,i6 v.2.2]]⟩
def q20c (C:q1zx) (v:q206):Dt q20a:=(Dt.ret ((16:Int),(0:Int),(0:Int)))
theorem q20d C v:q352 (regO (qct f88) 2) false (an [6,7]) q207 q20c q20b C v:=rgI (by kernel_rfl)
abbrev q20e:Type:=Bool×Bool×Int×Int×Bool×Int×Int×Int×Int
def q20f (v:q20e):St:=⟨[(4,.ptr 0 0),(5,.ptr 1 0),(6,.ptr 2 0),(27,.bool v.1)],[.cells [.bool v.2.1,u6 v.2.2.1,u6 v.2.2.2.1],.cells [.bool v.2.2.2.2.1,u6 v.2.2.2.2.2.1,u6 v.2.2.2.2.2.2.1],.cells [i6 v.2.2.2.2.2.2.2.1,i6 v.2.2.2.2.2.2.2.2]]⟩
def q20g (C:q1zx) (v:q206):Dt q20e:=(Dt.ret (v.1,v.2.2.1,v.2.2.2.1,v.2.2.2.2.1,v.2.2.2.2.2.1,v.2.2.2.2.2.2.1,v.2.2.2.2.2.2.2.1,v.2.2.2.2.2.2.2.2.1,v.2.2.2.2.2.2.2.2.2))
theorem q20h C v:q352 (regO (qct f88) 3) false (an [4,5,6,27]) q207 q20g q20f C v:=rgI (by kernel_rfl)
def q20i (C:q1zx) (v:q20e):Dt q20a:=(Dt.ret ((0:Int),(IntKind.wrap .i64 (0 - (IntKind.wrap .i64 v.2.2.2.1))),(IntKind.wrap .i64 v.2.2.2.2.2.2.1)))
theorem q20j C v:q352 (regO (qct f88) 4) false (an [6,7]) q20f q20i q20b C v:=rgI (by kernel_rfl)
def q20k (C:q1zx) (v:q20e):Dt q20a:=(Dt.ret ((0:Int),(IntKind.wrap .i64 v.2.2.2.1),(IntKind.wrap .i64 v.2.2.2.2.2.2.1)))
theorem q20l C v:q352 (regO (qct f88) 5) false (an [6,7]) q20f q20k q20b C v:=rgI (by kernel_rfl)
def q20m (d:Nat) (x:q1zt):Option q1zu :=
 (q204 (q1zy d) (x.1.1,x.2.1.1,x.2.1.2.1,x.2.1.2.2.1,x.2.2.1.1,x.2.2.1.2.1,x.2.2.1.2.2.1)).eval fun y0 =>
 (q208 (q1zy d) y0).eval fun y1 =>
 bif y1.2.1 then ((q20c (q1zy d) y1).eval fun y2 =>
 some (y2.2.1,y2.2.2,y2.1)) else ((q20g (q1zy d) y1).eval fun y3 =>
 bif y3.1 then ((q20i (q1zy d) y3).eval fun y4 =>
 some (y4.2.1,y4.2.2,y4.1)) else ((q20k (q1zy d) y3).eval fun y5 =>
 some (y5.2.1,y5.2.2,y5.1)))
theorem q20n (d:Nat):COK prog (q1zw (q20m d)):=by
 have hm:prog.follows .mixedOrders=true:=mixed
 have hT:=tys
 have hC0:OrcOK prog (orc (q1zz (q1zy d))):=qcn (by
  intro S hS
  simp only [q1zz,List.mem_cons,List.not_mem_nil,or_false] at hS
  all_goals first | cases hS | exact hS.elim)
 have hC:OrcOK prog (orc (q1zz (q1zy d))):=hC0
 refine q8c (c:=qct f88) (fn:=f88) hT (by kernel_rfl) (by kernel_rfl) (by decide) fun x r h w0 φ0 Q hend=>?_
 replace h:q20m d x=some r:=h
 unfold q20m at h
 show Run prog w0 φ0 43 (qct f88) ⟨[(0,.bool x.1.1),(1,.agg [.bool x.2.1.1,.int .u64 x.2.1.2.1,.int .u64 x.2.1.2.2.1]),(2,.agg [.bool x.2.2.1.1,.int .u64 x.2.2.1.2.1,.int .u64 x.2.2.1.2.2.1])],[]⟩ Q
 refine q342 hm hT hC (q205 (q1zy d) (x.1.1,x.2.1.1,x.2.1.2.1,x.2.1.2.2.1,x.2.2.1.1,x.2.2.1.2.1,x.2.2.1.2.2.1)) h fun y0 h=>?_
 refine q7w ?_
 refine q342 hm hT hC (q209 (q1zy d) y0) h fun y1 h=>?_
 refine q80 (v:=y1.2.1) (by kernel_rfl) h ?_ ?_
 ·
  intro h
  refine q342 hm hT hC (q20d (q1zy d) y1) h fun y2 h=>?_
  refine q7v (q7k ?_)
  cases h
  exact (hend _ (by kernel_rfl)).2
 ·
  intro h
  refine q7s (q7i (q7w ?_))
  refine q342 hm hT hC (q20h (q1zy d) y1) h fun y3 h=>?_
  refine q80 (v:=y3.1) (by kernel_rfl) h ?_ ?_
  ·
   intro h
   refine q342 hm hT hC (q20j (q1zy d) y3) h fun y4 h=>?_
   refine q7v (q7k ?_)
   cases h
   exact (hend _ (by kernel_rfl)).2
  ·
   intro h
   refine q7s (q7i ?_)
   refine q342 hm hT hC (q20l (q1zy d) y3) h fun y5 h=>?_
   refine q7v ?_
   cases h
   exact (hend _ (by kernel_rfl)).2
abbrev q20o:List Pk:=[.row Rii true,.row Rii true]
abbrev q20p:Type:=Dii×Dii×Unit
abbrev q20q:Type:=Int×Int×Int
def q20r (r:q20q):LV×List Ob:=(.tup [.agg [.int .i64 r.1,.int .i64 r.2.1],.int .i64 r.2.2],[])
def q20s (F:q20p→Option q20q):Go.Tx.Spec:=⟨40,q20o,q20q,F,q20r⟩
abbrev q20t:Type:=(q1rp→Option q1rq)×(q1sf→Option q1sg)×(q1v9→Option q1va)×(qmh→Option qmi)×(q1wy→Option q1wz)×(q1zt→Option q1zu)×(q1yt→Option q1yu)×Unit
def q20u (d:Nat):q20t:=(q1sc d,q1t1 d,q1wv d,qmm d,q1yq d,q20m d,q1zq d,())
def q20v (C:q20t):List Go.Tx.Spec:=[q1rs C.1,q1si C.2.1,q1vc C.2.2.1,qmk C.2.2.2.1,q1x1 C.2.2.2.2.1,q1zw C.2.2.2.2.2.1,q1yw C.2.2.2.2.2.2.1]
abbrev q20w:Type:=Int×Int×Int×Int
def q20x (v:q20w):St:=⟨[(0,.agg [i6 v.1,i6 v.2.1]),(1,.agg [i6 v.2.2.1,i6 v.2.2.2])],[]⟩
abbrev q20y:Type:=Int×Int×Int×Int×Int×Int
def q20z (v:q20y):St:=⟨[(2,.ptr 0 0),(3,.ptr 1 0),(4,.ptr 2 0)],[.cells [i6 v.1,i6 v.2.1],.cells [i6 v.2.2.1,i6 v.2.2.2.1],.cells [i6 v.2.2.2.2.1,i6 v.2.2.2.2.2]]⟩
def q210 (C:q20t) (v:q20w):Dt q20y:=(Dt.ret (v.1,v.2.1,v.2.2.1,v.2.2.2,(0:Int),(0:Int)))
abbrev q353 {V Y:Type}:=@rg q20t V Y tysT (fun C=>(orc (q20v C))) 78
theorem q211 C v:q353 (regO (qct f40) 0) false (an [2,3,4]) q20x q210 q20z C v:=rgI (by kernel_rfl)
abbrev q212:Type:=Bool×Int×Int×Int×Int×Int×Int
def q213 (v:q212):St:=⟨[(2,.ptr 0 0),(3,.ptr 1 0),(4,.ptr 2 0),(16,.bool v.1)],[.cells [i6 v.2.1,i6 v.2.2.1],.cells [i6 v.2.2.2.1,i6 v.2.2.2.2.1],.cells [i6 v.2.2.2.2.2.1,i6 v.2.2.2.2.2.2]]⟩
def q214 (C:q20t) (v:q20y):Dt q212:=(Dt.bnd (C.1 ((v.1,v.2.1,()),(v.2.2.1,v.2.2.2.1,()),())) fun r1=>(Dt.ret ((r1 != (0:Int)),v.1,v.2.1,v.2.2.1,v.2.2.2.1,v.2.2.2.2.1,v.2.2.2.2.2)))
theorem q215 C v:q353 (regO (qct f40) 1) false (an [2,3,4,16]) q20z q214 q213 C v:=rgI (by kernel_rfl)
abbrev q216:Type:=Int×Int×Int
def q217 (v:q216):St:=⟨[(4,.ptr 0 0),(5,i6 v.1)],[.cells [i6 v.2.1,i6 v.2.2]]⟩
def q218 (C:q20t) (v:q212):Dt q216:=(Dt.bnd (C.1 ((v.2.1,v.2.2.1,()),(v.2.2.2.1,v.2.2.2.2.1,()),())) fun r1=>(Dt.ret (r1,(0:Int),(0:Int))))
theorem q219 C v:q353 (regO (qct f40) 2) false (an [4,5]) q213 q218 q217 C v:=rgI (by kernel_rfl)
abbrev q21a:Type:=Int×Int×Int×Int×Int×Int×Int
def q21b (v:q21a):St:=⟨[(2,.ptr 0 0),(3,.ptr 1 0),(4,.ptr 2 0),(6,i6 v.1)],[.cells [i6 v.2.1,i6 v.2.2.1],.cells [i6 v.2.2.2.1,i6 v.2.2.2.2.1],.cells [i6 v.2.2.2.2.2.1,i6 v.2.2.2.2.2.2]]⟩
def q21c (C:q20t) (v:q212):Dt q21a:=(Dt.bnd (C.2.1 (((IntKind.wrap .u64 v.2.2.1),()),((IntKind.wrap .u64 v.2.2.2.2.1),()),())) fun r1=>(Dt.ret ((IntKind.wrap .i64 r1),v.2.1,v.2.2.1,v.2.2.2.1,v.2.2.2.2.1,v.2.2.2.2.2.1,v.2.2.2.2.2.2)))
theorem q21d C v:q353 (regO (qct f40) 3) false (an [2,3,4,6]) q213 q21c q21b C v:=rgI (by kernel_rfl)
abbrev q21e:Type:=Int×Int×Int×Int×Int×Int×Int×Bool×Int×Int
def q21f (v:q21e):St:=⟨[(2,.ptr 0 0),(3,.ptr 1 0),(4,.ptr 2 0),(6,i6 v.1),(7,.ptr 3 0)],[.cells [i6 v.2.1,i6 v.2.2.1],.cells [i6 v.2.2.2.1,i6 v.2.2.2.2.1],.cells [i6 v.2.2.2.2.2.1,i6 v.2.2.2.2.2.2.1],.cells [.bool v.2.2.2.2.2.2.2.1,u6 v.2.2.2.2.2.2.2.2.1,u6 v.2.2.2.2.2.2.2.2.2]]⟩
def q21g (C:q20t) (v:q21a):Dt q21e:=(Dt.ite (v.1 == (0:Int)) Dt.fail (Dt.bnd (C.2.2.2.1 ((v.2.1,()),((IntKind.wrap .i64 (Int.tdiv v.2.2.2.2.1 v.1)),()),())) fun r1=>(Dt.ite (v.1 == (0:Int)) Dt.fail (Dt.bnd (C.2.2.2.1 ((v.2.2.2.1,()),((IntKind.wrap .i64 (Int.tdiv v.2.2.1 v.1)),()),())) fun r2=>(Dt.bnd (C.2.2.1 ((r1.1,r1.2.1,r1.2.2,()),(r2.1,r2.2.1,r2.2.2,()),())) fun r3=>(Dt.ret (v.1,v.2.1,v.2.2.1,v.2.2.2.1,v.2.2.2.2.1,v.2.2.2.2.2.1,v.2.2.2.2.2.2,r3.1,r3.2.1,r3.2.2)))))))
theorem q21h C v:q353 (regO (qct f40) 4) true (an [2,3,4,6,7]) q21b q21g q21f C v:=rgI (by kernel_rfl)
abbrev q21i:Type:=Int×Int×Int×Int×Int×Int×Int×Int×Bool×Int×Int
def q21j (v:q21i):St:=⟨[(2,.ptr 0 0),(3,.ptr 1 0),(4,.ptr 2 0),(6,i6 v.1),(7,.ptr 3 0),(9,u6 v.2.1)],[.cells [i6 v.2.2.1,i6 v.2.2.2.1],.cells [i6 v.2.2.2.2.1,i6 v.2.2.2.2.2.1],.cells [i6 v.2.2.2.2.2.2.1,i6 v.2.2.2.2.2.2.2.1],.cells [.bool v.2.2.2.2.2.2.2.2.1,u6 v.2.2.2.2.2.2.2.2.2.1,u6 v.2.2.2.2.2.2.2.2.2.2]]⟩
def q21k (C:q20t) (v:q21e):Dt q21i:=(Dt.bnd (C.2.2.2.2.1 ((v.2.2.2.2.2.2.2.1,v.2.2.2.2.2.2.2.2.1,v.2.2.2.2.2.2.2.2.2,()),((IntKind.wrap .u64 v.1),()),())) fun r1=>(Dt.ret (v.1,r1.2.2.2,v.2.1,v.2.2.1,v.2.2.2.1,v.2.2.2.2.1,v.2.2.2.2.2.1,v.2.2.2.2.2.2.1,v.2.2.2.2.2.2.2.1,v.2.2.2.2.2.2.2.2.1,v.2.2.2.2.2.2.2.2.2)))
theorem q21l C v:q353 (regO (qct f40) 5) false (an [2,3,4,6,7,9]) q21f q21k q21j C v:=rgI (by kernel_rfl)
abbrev q21m:Type:=Int×Int×Int×Int×Int×Int×Int×Int×Bool×Int×Int
def q21n (v:q21m):St:=⟨[(2,.ptr 0 0),(3,.ptr 1 0),(4,.ptr 2 0),(6,i6 v.1),(7,.ptr 3 0),(10,u6 v.2.1)],[.cells [i6 v.2.2.1,i6 v.2.2.2.1],.cells [i6 v.2.2.2.2.1,i6 v.2.2.2.2.2.1],.cells [i6 v.2.2.2.2.2.2.1,i6 v.2.2.2.2.2.2.2.1],.cells [.bool v.2.2.2.2.2.2.2.2.1,u6 v.2.2.2.2.2.2.2.2.2.1,u6 v.2.2.2.2.2.2.2.2.2.2]]⟩
def q21o (C:q20t) (v:q21i):Dt q21m:=(Dt.bnd (C.2.1 (((IntKind.wrap .u64 v.1),()),(v.2.1,()),())) fun r1=>(Dt.ret (v.1,r1,v.2.2.1,v.2.2.2.1,v.2.2.2.2.1,v.2.2.2.2.2.1,v.2.2.2.2.2.2.1,v.2.2.2.2.2.2.2.1,v.2.2.2.2.2.2.2.2.1,v.2.2.2.2.2.2.2.2.2.1,v.2.2.2.2.2.2.2.2.2.2)))
theorem q21p C v:q353 (regO (qct f40) 6) false (an [2,3,4,6,7,10]) q21j q21o q21n C v:=rgI (by kernel_rfl)
abbrev q21q:Type:=Int×Int×Int×Int×Int×Int×Int×Int×Bool×Int×Int×Bool×Int×Int
def q21r (v:q21q):St:=⟨[(2,.ptr 0 0),(3,.ptr 1 0),(4,.ptr 2 0),(6,i6 v.1),(7,.ptr 3 0),(10,u6 v.2.1),(11,.ptr 4 0)],[.cells [i6 v.2.2.1,i6 v.2.2.2.1],.cells [i6 v.2.2.2.2.1,i6 v.2.2.2.2.2.1],.cells [i6 v.2.2.2.2.2.2.1,i6 v.2.2.2.2.2.2.2.1],.cells [.bool v.2.2.2.2.2.2.2.2.1,u6 v.2.2.2.2.2.2.2.2.2.1,u6 v.2.2.2.2.2.2.2.2.2.2.1],.cells [.bool v.2.2.2.2.2.2.2.2.2.2.2.1,u6 v.2.2.2.2.2.2.2.2.2.2.2.2.1,u6 v.2.2.2.2.2.2.2.2.2.2.2.2.2]]⟩
def q21s (C:q20t) (v:q21m):Dt q21q:=(Dt.bnd (C.2.2.2.2.1 ((v.2.2.2.2.2.2.2.2.1,v.2.2.2.2.2.2.2.2.2.1,v.2.2.2.2.2.2.2.2.2.2,()),(v.2.1,()),())) fun r1=>(Dt.ret (v.1,v.2.1,v.2.2.1,v.2.2.2.1,v.2.2.2.2.1,v.2.2.2.2.2.1,v.2.2.2.2.2.2.1,v.2.2.2.2.2.2.2.1,v.2.2.2.2.2.2.2.2.1,v.2.2.2.2.2.2.2.2.2.1,v.2.2.2.2.2.2.2.2.2.2,r1.1,r1.2.1,r1.2.2.1)))
theorem q21t C v:q353 (regO (qct f40) 7) false (an [2,3,4,6,7,10,11]) q21n q21s q21r C v:=rgI (by kernel_rfl)
def q21u (C:q20t) (v:q21q):Dt q216:=(Dt.ite (v.1 == (0:Int)) Dt.fail (Dt.ite (v.2.1 == (0:Int)) Dt.fail (Dt.bnd (C.2.2.2.2.2.2.1 (((IntKind.wrap .u64 (IntKind.wrap .i64 (Int.tdiv v.2.2.2.1 v.1))),()),((IntKind.wrap .u64 (Int.tdiv (IntKind.wrap .u64 v.2.2.2.2.2.1) v.2.1)),()),())) fun r1=>(Dt.bnd (C.2.2.2.2.2.1 ((v.2.2.2.2.2.2.2.2.1,()),(v.2.2.2.2.2.2.2.2.2.2.2.1,v.2.2.2.2.2.2.2.2.2.2.2.2.1,v.2.2.2.2.2.2.2.2.2.2.2.2.2,()),(r1.1,r1.2.1,r1.2.2,()),())) fun r2=>(Dt.ret (r2.2.2,r2.1,r2.2.1))))))
theorem q21v C v:q353 (regO (qct f40) 8) true (an [4,5]) q21r q21u q217 C v:=rgI (by kernel_rfl)
def q21w (d:Nat) (x:q20p):Option q20q :=
 (q210 (q20u d) (x.1.1,x.1.2.1,x.2.1.1,x.2.1.2.1)).eval fun y0 =>
 (q214 (q20u d) y0).eval fun y1 =>
 bif y1.1 then ((q218 (q20u d) y1).eval fun y2 =>
 some (y2.2.1,y2.2.2,y2.1)) else ((q21c (q20u d) y1).eval fun y3 =>
 (q21g (q20u d) y3).eval fun y4 =>
 (q21k (q20u d) y4).eval fun y5 =>
 (q21o (q20u d) y5).eval fun y6 =>
 (q21s (q20u d) y6).eval fun y7 =>
 (q21u (q20u d) y7).eval fun y8 =>
 some (y8.2.1,y8.2.2,y8.1))
theorem q21x (d:Nat):COK prog (q20s (q21w d)):=by
 have hm:prog.follows .mixedOrders=true:=mixed
 have hT:=tys
 have hC0:OrcOK prog (orc (q20v (q20u d))):=qcn (by
  intro S hS
  simp only [q20v,List.mem_cons,List.not_mem_nil,or_false] at hS
  rcases hS with rfl | rfl | rfl | rfl | rfl | rfl | rfl
  · exact q1sd d
  · exact q1t2 d
  · exact q1ww d
  · exact qmo d
  · exact q1yr d
  · exact q20n d
  · exact q1zr d)
 have hC:OrcOK prog (orc (q20v (q20u d))):=hC0
 refine q8c (c:=qct f40) (fn:=f40) hT (by kernel_rfl) (by kernel_rfl) (by decide) fun x r h w0 φ0 Q hend=>?_
 replace h:q21w d x=some r:=h
 unfold q21w at h
 show Run prog w0 φ0 78 (qct f40) ⟨[(0,.agg [.int .i64 x.1.1,.int .i64 x.1.2.1]),(1,.agg [.int .i64 x.2.1.1,.int .i64 x.2.1.2.1])],[]⟩ Q
 refine q342 hm hT hC (q211 (q20u d) (x.1.1,x.1.2.1,x.2.1.1,x.2.1.2.1)) h fun y0 h=>?_
 refine q7w ?_
 refine q342 hm hT hC (q215 (q20u d) y0) h fun y1 h=>?_
 refine q80 (v:=y1.1) (by kernel_rfl) h ?_ ?_
 ·
  intro h
  refine q342 hm hT hC (q219 (q20u d) y1) h fun y2 h=>?_
  refine q7v (q7k ?_)
  cases h
  exact (hend _ (by kernel_rfl)).2
 ·
  intro h
  refine q7s (q7i ?_)
  refine q342 hm hT hC (q21d (q20u d) y1) h fun y3 h=>?_
  refine q342 hm hT hC (q21h (q20u d) y3) h fun y4 h=>?_
  refine q342 hm hT hC (q21l (q20u d) y4) h fun y5 h=>?_
  refine q342 hm hT hC (q21p (q20u d) y5) h fun y6 h=>?_
  refine q342 hm hT hC (q21t (q20u d) y6) h fun y7 h=>?_
  refine q342 hm hT hC (q21v (q20u d) y7) h fun y8 h=>?_
  refine q7v ?_
  cases h
  exact (hend _ (by kernel_rfl)).2
abbrev q21y:List Pk:=[.row Rii true,.row Rii true]
abbrev q21z:Type:=Dii×Dii×Unit
abbrev q220:Type:=Int×Int×Int
def q221 (r:q220):LV×List Ob:=(.tup [.agg [.int .i64 r.1,.int .i64 r.2.1],.int .i64 r.2.2],[])
def q222 (F:q21z→Option q220):Go.Tx.Spec:=⟨73,q21y,q220,F,q221⟩
abbrev q223:Type:=(q20p→Option q20q)×(q1rp→Option q1rq)×Unit
def q224 (d:Nat):q223:=(q21w d,q1sc d,())
def q225 (C:q223):List Go.Tx.Spec:=[q20s C.1,q1rs C.2.1]
abbrev q226:Type:=Int×Int×Int×Int
def q227 (v:q226):St:=⟨[(0,.agg [i6 v.1,i6 v.2.1]),(1,.agg [i6 v.2.2.1,i6 v.2.2.2])],[]⟩
abbrev q228:Type:=Int×Int×Int×Int×Int×Int
def q229 (v:q228):St:=⟨[(2,.ptr 0 0),(3,.ptr 1 0),(4,.ptr 2 0)],[.cells [i6 v.1,i6 v.2.1],.cells [i6 v.2.2.1,i6 v.2.2.2.1],.cells [i6 v.2.2.2.2.1,i6 v.2.2.2.2.2]]⟩
def q22a (C:q223) (v:q226):Dt q228:=(Dt.ret (v.1,v.2.1,v.2.2.1,v.2.2.2,(0:Int),(0:Int)))
abbrev q354 {V Y:Type}:=@rg q223 V Y tysT (fun C=>(orc (q225 C))) 24
theorem q22b C v:q354 (regO (qct f73) 0) false (an [2,3,4]) q227 q22a q229 C v:=rgI (by kernel_rfl)
abbrev q22c:Type:=Bool×Int×Int×Int×Int×Int×Int
def q22d (v:q22c):St:=⟨[(2,.ptr 0 0),(3,.ptr 1 0),(4,.ptr 2 0),(9,.bool v.1)],[.cells [i6 v.2.1,i6 v.2.2.1],.cells [i6 v.2.2.2.1,i6 v.2.2.2.2.1],.cells [i6 v.2.2.2.2.2.1,i6 v.2.2.2.2.2.2]]⟩
def q22e (C:q223) (v:q228):Dt q22c:=(Dt.bnd (C.2.1 ((v.1,v.2.1,()),(v.2.2.1,v.2.2.2.1,()),())) fun r1=>(Dt.ret ((r1 != (0:Int)),v.1,v.2.1,v.2.2.1,v.2.2.2.1,v.2.2.2.2.1,v.2.2.2.2.2)))
theorem q22f C v:q354 (regO (qct f73) 1) false (an [2,3,4,9]) q229 q22e q22d C v:=rgI (by kernel_rfl)
abbrev q22g:Type:=Int×Int×Int
def q22h (v:q22g):St:=⟨[(4,.ptr 0 0),(5,i6 v.1)],[.cells [i6 v.2.1,i6 v.2.2]]⟩
def q22i (C:q223) (v:q22c):Dt q22g:=(Dt.bnd (C.2.1 ((v.2.1,v.2.2.1,()),(v.2.2.2.1,v.2.2.2.2.1,()),())) fun r1=>(Dt.ret (r1,(0:Int),(0:Int))))
theorem q22j C v:q354 (regO (qct f73) 2) false (an [4,5]) q22d q22i q22h C v:=rgI (by kernel_rfl)
def q22k (C:q223) (v:q22c):Dt q22g:=(Dt.bnd (C.1 ((v.2.1,v.2.2.1,()),((IntKind.wrap .i64 (0 - v.2.2.2.1)),v.2.2.2.2.1,()),())) fun r1=>(Dt.ret (r1.2.2,r1.1,r1.2.1)))
theorem q22l C v:q354 (regO (qct f73) 3) false (an [4,5]) q22d q22k q22h C v:=rgI (by kernel_rfl)
def q22m (d:Nat) (x:q21z):Option q220 :=
 (q22a (q224 d) (x.1.1,x.1.2.1,x.2.1.1,x.2.1.2.1)).eval fun y0 =>
 (q22e (q224 d) y0).eval fun y1 =>
 bif y1.1 then ((q22i (q224 d) y1).eval fun y2 =>
 some (y2.2.1,y2.2.2,y2.1)) else ((q22k (q224 d) y1).eval fun y3 =>
 some (y3.2.1,y3.2.2,y3.1))
theorem q22n (d:Nat):COK prog (q222 (q22m d)):=by
 have hm:prog.follows .mixedOrders=true:=mixed
 have hT:=tys
 have hC0:OrcOK prog (orc (q225 (q224 d))):=qcn (by
  intro S hS
  simp only [q225,List.mem_cons,List.not_mem_nil,or_false] at hS
  rcases hS with rfl | rfl
  · exact q21x d
  · exact q1sd d)
 have hC:OrcOK prog (orc (q225 (q224 d))):=hC0
 refine q8c (c:=qct f73) (fn:=f73) hT (by kernel_rfl) (by kernel_rfl) (by decide) fun x r h w0 φ0 Q hend=>?_
 replace h:q22m d x=some r:=h
 unfold q22m at h
 show Run prog w0 φ0 24 (qct f73) ⟨[(0,.agg [.int .i64 x.1.1,.int .i64 x.1.2.1]),(1,.agg [.int .i64 x.2.1.1,.int .i64 x.2.1.2.1])],[]⟩ Q
 refine q342 hm hT hC (q22b (q224 d) (x.1.1,x.1.2.1,x.2.1.1,x.2.1.2.1)) h fun y0 h=>?_
 refine q7w ?_
 refine q342 hm hT hC (q22f (q224 d) y0) h fun y1 h=>?_
 refine q80 (v:=y1.1) (by kernel_rfl) h ?_ ?_
 ·
  intro h
  refine q342 hm hT hC (q22j (q224 d) y1) h fun y2 h=>?_
  refine q7v (q7k ?_)
  cases h
  exact (hend _ (by kernel_rfl)).2
 ·
  intro h
  refine q7s (q7i ?_)
  refine q342 hm hT hC (q22l (q224 d) y1) h fun y3 h=>?_
  refine q7v ?_
  cases h
  exact (hend _ (by kernel_rfl)).2
end Go.Proofs.YtpfhgnccpiildaaGreat
