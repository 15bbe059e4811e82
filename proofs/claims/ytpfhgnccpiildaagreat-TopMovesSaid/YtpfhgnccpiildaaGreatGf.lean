/- Walks of the references; the orders agree; examples. -/
import Derived.Deep.RegionHeld3
import Derived.Test.YtpfhgnccpiildaaGreatGe
set_option linter.unusedSimpArgs false
set_option linter.unusedVariables false
namespace Go.Proofs.YtpfhgnccpiildaaGreat
open Go Go.Tx Go.Proofs.Tryz
set_option maxRecDepth 100000
set_option maxHeartbeats 0
abbrev q1is:List Pk:=[.row Ru false,.row Ru false]
abbrev q1it:Type:=Du×Du×Unit
abbrev q1iu:Type:=Int
def q1iv (r:q1iu):LV×List Ob:=(.int .u64 r,[])
def q1iw (F:q1it→Option q1iu):Go.Tx.Spec:=⟨119,q1is,q1iu,F,q1iv⟩
abbrev q1ix:Type:=Unit
def q1iy (_d:Nat):q1ix:=()
def q1iz (C:q1ix):List Go.Tx.Spec:=[]
abbrev q1j0:Type:=Int×Int
def q1j1 (v:q1j0):St:=⟨[(0,u6 v.1),(1,u6 v.2)],[]⟩
def q1j2 (C:q1ix) (v:q1j0):Dt q1j0:=(Dt.ret (v.1,v.2))
abbrev q3fo {V Y:Type}:=@rg q1ix V Y tysT (fun C=>(orc (q1iz C))) 12
theorem q1j3 C v:q3fo (regO (qct f119) 0) false (an [0,1]) q1j1 q1j2 q1j1 C v:=rgI (by kernel_rfl)
abbrev q1j4:Type:=Int×Int×Bool
def q1j5 (v:q1j4):St:=⟨[(0,u6 v.1),(1,u6 v.2.1),(6,.bool v.2.2)],[]⟩
def q1j6 (C:q1ix) (v:q1j0):Dt q1j4:=(Dt.ret (v.1,v.2,(decide (v.2 > (0:Int)))))
theorem q1j7 C v:q3fo (regO (qct f119) 1) false (an [0,1,6]) q1j1 q1j6 q1j5 C v:=rgI (by kernel_rfl)
def q1j8 (C:q1ix) (v:q1j4):Dt q1j0:=(Dt.ite (v.2.1 == (0:Int)) Dt.fail (Dt.ret (v.2.1,(Int.tmod v.1 v.2.1))))
theorem q1j9 C v:q3fo (regO (qct f119) 2) true (an [0,1]) q1j5 q1j8 q1j1 C v:=rgI (by kernel_rfl)
abbrev q1ja:Type:=Int
def q1jb (v:q1ja):St:=⟨[(4,u6 v)],[]⟩
def q1jc (C:q1ix) (v:q1j4):Dt q1ja:=(Dt.ret v.1)
theorem q1jd C v:q3fo (regO (qct f119) 3) false [(4,.any)] q1j5 q1jc q1jb C v:=rgI (by kernel_rfl)
def q1je (d:Nat) (self1:(Int×Int)→Option q1iu) (x1:Int×Int):Option q1iu :=
 (q1j6 (q1iy d) x1).eval fun y1 =>
 bif y1.2.2 then ((q1j8 (q1iy d) y1).eval fun y2 =>
 self1 y2) else ((q1jc (q1iy d) y1).eval fun y3 =>
 some y3)
def q1jf (d:Nat) (x:q1it):Option q1iu :=
 (q1j2 (q1iy d) (x.1.1,x.2.1.1)).eval fun y0 =>
 iter (q1je d ) d y0
theorem q1jg (d:Nat):COK prog (q1iw (q1jf d)):=by
 have hm:prog.follows .mixedOrders=true:=mixed
 have hT:=tys
 have hC0:OrcOK prog (orc (q1iz (q1iy d))):=qcn (by
  intro S hS
  simp only [q1iz,List.mem_cons,List.not_mem_nil,or_false] at hS
  all_goals first | cases hS | exact hS.elim)
 have hC:OrcOK prog (orc (q1iz (q1iy d))):=hC0
 refine q8c (c:=qct f119) (fn:=f119) hT (by kernel_rfl) (by kernel_rfl) (by decide) fun x r h w0 φ0 Q hend=>?_
 replace h:q1jf d x=some r:=h
 unfold q1jf at h
 show Run prog w0 φ0 12 (qct f119) ⟨[(0,.int .u64 x.1.1),(1,.int .u64 x.2.1.1)],[]⟩ Q
 refine q3f2 hm hT hC (q1j3 (q1iy d) (x.1.1,x.2.1.1)) h fun y0 h=>?_
 refine q7w (q7x ?_)
 refine q82 (G:=iter (q1je d )) (S:=(fun x1=>⟨[(0,u6 x1.1),(1,u6 x1.2)],[]⟩:Int×Int→St)) (fun _=>rfl) ?_ d _ h
 intro n1 x1 h K1 hn1
 replace h:q1je d  (iter (q1je d ) n1) x1=some r:=h
 generalize iter (q1je d ) n1=self1 at h hn1
 unfold q1je at h
 refine q7w ?_
 refine q3f2 hm hT hC (q1j7 (q1iy d) x1) h fun y1 h=>?_
 refine q80 (v:=y1.2.2) (by kernel_rfl) h ?_ ?_
 ·
  intro h
  refine q7s (q7i (q7x ?_))
  refine q81 hm hT hC (q1j9 (q1iy d) y1) h ?_
  intro y2 h
  refine q7l ?_
  exact hn1 _ h
 ·
  intro h
  refine q7u (q7j (q7j (q7n (q7i ?_))))
  refine q3f2 hm hT hC (q1jd (q1iy d) y1) h fun y3 h=>?_
  refine q7v ?_
  cases h
  exact (hend _ (by kernel_rfl)).2
abbrev q1jh:List Pk:=[.row Rbuu true,.row Rbuu true]
abbrev q1ji:Type:=Dbuu×Dbuu×Unit
abbrev q1jj:Type:=Bool×Int×Int
def q1jk (r:q1jj):LV×List Ob:=(.agg [.bool r.1,.int .u64 r.2.1,.int .u64 r.2.2],[])
def q1jl (F:q1ji→Option q1jj):Go.Tx.Spec:=⟨120,q1jh,q1jj,F,q1jk⟩
abbrev q1jm:Type:=(q13x→Option q13y)×Unit
def q1jn (d:Nat):q1jm:=(q14o d,())
def q1jo (C:q1jm):List Go.Tx.Spec:=[q140 C.1]
abbrev q1jp:Type:=Bool×Int×Int×Bool×Int×Int
def q1jq (v:q1jp):St:=⟨[(0,.agg [.bool v.1,u6 v.2.1,u6 v.2.2.1]),(1,.agg [.bool v.2.2.2.1,u6 v.2.2.2.2.1,u6 v.2.2.2.2.2])],[]⟩
abbrev q1jr:Type:=Bool×Int×Int×Bool×Int×Int×Bool×Int×Int
def q1js (v:q1jr):St:=⟨[(2,.ptr 0 0),(3,.ptr 1 0),(4,.ptr 2 0)],[.cells [.bool v.1,u6 v.2.1,u6 v.2.2.1],.cells [.bool v.2.2.2.1,u6 v.2.2.2.2.1,u6 v.2.2.2.2.2.1],.cells [.bool v.2.2.2.2.2.2.1,u6 v.2.2.2.2.2.2.2.1,u6 v.2.2.2.2.2.2.2.2]]⟩
def q1jt (C:q1jm) (v:q1jp):Dt q1jr:=(Dt.ret (v.1,v.2.1,v.2.2.1,v.2.2.2.1,v.2.2.2.2.1,v.2.2.2.2.2,false,(0:Int),(0:Int)))
abbrev q3fp {V Y:Type}:=@rg q1jm V Y tysT (fun C=>(orcI 145 q1ct (orcI 106 q1cu (orc (q1jo C))))) 68
theorem q1ju C v:q3fp (regO (qct f120) 0) false (an [2,3,4]) q1jq q1jt q1js C v:=rgI (by kernel_rfl)
abbrev q1jv:Type:=Bool×Bool×Int×Int×Bool×Int×Int×Bool×Int×Int
def q1jw (v:q1jv):St:=⟨[(2,.ptr 0 0),(3,.ptr 1 0),(4,.ptr 2 0),(17,.bool v.1)],[.cells [.bool v.2.1,u6 v.2.2.1,u6 v.2.2.2.1],.cells [.bool v.2.2.2.2.1,u6 v.2.2.2.2.2.1,u6 v.2.2.2.2.2.2.1],.cells [.bool v.2.2.2.2.2.2.2.1,u6 v.2.2.2.2.2.2.2.2.1,u6 v.2.2.2.2.2.2.2.2.2]]⟩
def q1jx (C:q1jm) (v:q1jr):Dt q1jv:=(Dt.ret ((v.1 == v.2.2.2.1),v.1,v.2.1,v.2.2.1,v.2.2.2.1,v.2.2.2.2.1,v.2.2.2.2.2.1,v.2.2.2.2.2.2.1,v.2.2.2.2.2.2.2.1,v.2.2.2.2.2.2.2.2))
theorem q1jy C v:q3fp (regO (qct f120) 1) false (an [2,3,4,17]) q1js q1jx q1jw C v:=rgI (by kernel_rfl)
abbrev q1jz:Type:=Int×Int×Bool×Int×Int×Bool×Int×Int×Bool×Int×Int
def q1k0 (v:q1jz):St:=⟨[(2,.ptr 0 0),(3,.ptr 1 0),(4,.ptr 2 0),(5,u6 v.1),(6,u6 v.2.1)],[.cells [.bool v.2.2.1,u6 v.2.2.2.1,u6 v.2.2.2.2.1],.cells [.bool v.2.2.2.2.2.1,u6 v.2.2.2.2.2.2.1,u6 v.2.2.2.2.2.2.2.1],.cells [.bool v.2.2.2.2.2.2.2.2.1,u6 v.2.2.2.2.2.2.2.2.2.1,u6 v.2.2.2.2.2.2.2.2.2.2]]⟩
def q1k1 (C:q1jm) (v:q1jv):Dt q1jz:=(Dt.bnd (q1ct (v.2.2.2.1) (v.2.2.2.2.2.2.1) ((0:Int))) fun r1=>(Dt.ret (r1.1,r1.2,v.2.1,v.2.2.1,v.2.2.2.1,v.2.2.2.2.1,v.2.2.2.2.2.1,v.2.2.2.2.2.2.1,v.2.2.2.2.2.2.2.1,v.2.2.2.2.2.2.2.2.1,v.2.2.2.2.2.2.2.2.2)))
theorem q1k2 C v:q3fp (regO (qct f120) 2) false (an [2,3,4,5,6]) q1jw q1k1 q1k0 C v:=rgI (by kernel_rfl)
abbrev q1k3:Type:=Int×Int×Bool×Int×Int×Bool×Int×Int
def q1k4 (v:q1k3):St:=⟨[(2,.ptr 0 0),(4,.ptr 1 0),(5,u6 v.1),(7,u6 v.2.1)],[.cells [.bool v.2.2.1,u6 v.2.2.2.1,u6 v.2.2.2.2.1],.cells [.bool v.2.2.2.2.2.1,u6 v.2.2.2.2.2.2.1,u6 v.2.2.2.2.2.2.2]]⟩
def q1k5 (C:q1jm) (v:q1jz):Dt q1k3:=(Dt.bnd (q1ct (v.2.2.2.1) (v.2.2.2.2.2.2.1) (v.2.1)) fun r1=>(Dt.ret (v.1,r1.1,v.2.2.1,v.2.2.2.1,v.2.2.2.2.1,v.2.2.2.2.2.2.2.2.1,v.2.2.2.2.2.2.2.2.2.1,v.2.2.2.2.2.2.2.2.2.2)))
theorem q1k6 C v:q3fp (regO (qct f120) 3) false (an [2,4,5,7]) q1k0 q1k5 q1k4 C v:=rgI (by kernel_rfl)
abbrev q1k7:Type:=Bool×Int×Int
def q1k8 (v:q1k7):St:=⟨[(4,.ptr 0 0)],[.cells [.bool v.1,u6 v.2.1,u6 v.2.2]]⟩
def q1k9 (C:q1jm) (v:q1k3):Dt q1k7:=(Dt.ret (v.2.2.1,v.2.1,v.1))
theorem q1ka C v:q3fp (regO (qct f120) 4) false [(4,.any)] q1k4 q1k9 q1k8 C v:=rgI (by kernel_rfl)
abbrev q1kb:Type:=Bool×Bool×Int×Int×Bool×Int×Int×Bool×Int×Int
def q1kc (v:q1kb):St:=⟨[(2,.ptr 0 0),(3,.ptr 1 0),(4,.ptr 2 0),(43,.bool v.1)],[.cells [.bool v.2.1,u6 v.2.2.1,u6 v.2.2.2.1],.cells [.bool v.2.2.2.2.1,u6 v.2.2.2.2.2.1,u6 v.2.2.2.2.2.2.1],.cells [.bool v.2.2.2.2.2.2.2.1,u6 v.2.2.2.2.2.2.2.2.1,u6 v.2.2.2.2.2.2.2.2.2]]⟩
def q1kd (C:q1jm) (v:q1jv):Dt q1kb:=(Dt.bnd (C.1 ((v.2.1,v.2.2.1,v.2.2.2.1,()),(v.2.2.2.2.1,v.2.2.2.2.2.1,v.2.2.2.2.2.2.1,()),())) fun r1=>(Dt.ret ((decide (r1<(0:Int))),v.2.1,v.2.2.1,v.2.2.2.1,v.2.2.2.2.1,v.2.2.2.2.2.1,v.2.2.2.2.2.2.1,v.2.2.2.2.2.2.2.1,v.2.2.2.2.2.2.2.2.1,v.2.2.2.2.2.2.2.2.2)))
theorem q1ke C v:q3fp (regO (qct f120) 5) false (an [2,3,4,43]) q1jw q1kd q1kc C v:=rgI (by kernel_rfl)
def q1kf (C:q1jm) (v:q1kb):Dt q1jr:=(Dt.ret (v.2.2.2.2.1,v.2.2.2.2.2.1,v.2.2.2.2.2.2.1,v.2.1,v.2.2.1,v.2.2.2.1,v.2.2.2.2.2.2.2.1,v.2.2.2.2.2.2.2.2.1,v.2.2.2.2.2.2.2.2.2))
theorem q1kg C v:q3fp (regO (qct f120) 6) false (an [2,3,4]) q1kc q1kf q1js C v:=rgI (by kernel_rfl)
abbrev q1kh:Type:=Int×Int×Bool×Int×Int×Bool×Int×Int×Bool×Int×Int
def q1ki (v:q1kh):St:=⟨[(2,.ptr 0 0),(3,.ptr 1 0),(4,.ptr 2 0),(9,u6 v.1),(10,u6 v.2.1)],[.cells [.bool v.2.2.1,u6 v.2.2.2.1,u6 v.2.2.2.2.1],.cells [.bool v.2.2.2.2.2.1,u6 v.2.2.2.2.2.2.1,u6 v.2.2.2.2.2.2.2.1],.cells [.bool v.2.2.2.2.2.2.2.2.1,u6 v.2.2.2.2.2.2.2.2.2.1,u6 v.2.2.2.2.2.2.2.2.2.2]]⟩
def q1kj (C:q1jm) (v:q1jr):Dt q1kh:=(Dt.bnd (q1cu (v.2.2.1) (v.2.2.2.2.2.1) ((0:Int))) fun r1=>(Dt.ret (r1.1,r1.2,v.1,v.2.1,v.2.2.1,v.2.2.2.1,v.2.2.2.2.1,v.2.2.2.2.2.1,v.2.2.2.2.2.2.1,v.2.2.2.2.2.2.2.1,v.2.2.2.2.2.2.2.2)))
theorem q1kk C v:q3fp (regO (qct f120) 7) false (an [2,3,4,9,10]) q1js q1kj q1ki C v:=rgI (by kernel_rfl)
abbrev q1kl:Type:=Int×Int×Bool×Int×Int×Bool×Int×Int
def q1km (v:q1kl):St:=⟨[(2,.ptr 0 0),(4,.ptr 1 0),(9,u6 v.1),(11,u6 v.2.1)],[.cells [.bool v.2.2.1,u6 v.2.2.2.1,u6 v.2.2.2.2.1],.cells [.bool v.2.2.2.2.2.1,u6 v.2.2.2.2.2.2.1,u6 v.2.2.2.2.2.2.2]]⟩
def q1kn (C:q1jm) (v:q1kh):Dt q1kl:=(Dt.bnd (q1cu (v.2.2.2.1) (v.2.2.2.2.2.2.1) (v.2.1)) fun r1=>(Dt.ret (v.1,r1.1,v.2.2.1,v.2.2.2.1,v.2.2.2.2.1,v.2.2.2.2.2.2.2.2.1,v.2.2.2.2.2.2.2.2.2.1,v.2.2.2.2.2.2.2.2.2.2)))
theorem q1ko C v:q3fp (regO (qct f120) 8) false (an [2,4,9,11]) q1ki q1kn q1km C v:=rgI (by kernel_rfl)
def q1kp (C:q1jm) (v:q1kl):Dt q1k7:=(Dt.ret (v.2.2.1,v.2.1,v.1))
theorem q1kq C v:q3fp (regO (qct f120) 9) false [(4,.any)] q1km q1kp q1k8 C v:=rgI (by kernel_rfl)
def q1kr  (d:Nat)  (z:Bool×Int×Int×Bool×Int×Int×Bool×Int×Int):Option (q1jj) :=
 (q1kj (q1jn d) z).eval fun y7 =>
 (q1kn (q1jn d) y7).eval fun y8 =>
 (q1kp (q1jn d) y8).eval fun y9 =>
 some y9
def q1ks (d:Nat) (x:q1ji):Option q1jj :=
 (q1jt (q1jn d) (x.1.1,x.1.2.1,x.1.2.2.1,x.2.1.1,x.2.1.2.1,x.2.1.2.2.1)).eval fun y0 =>
 (q1jx (q1jn d) y0).eval fun y1 =>
 bif y1.1 then ((q1k1 (q1jn d) y1).eval fun y2 =>
 (q1k5 (q1jn d) y2).eval fun y3 =>
 (q1k9 (q1jn d) y3).eval fun y4 =>
 some y4) else ((q1kd (q1jn d) y1).eval fun y5 =>
 bif y5.1 then ((q1kf (q1jn d) y5).eval fun y6 =>
 q1kr d  y6) else (q1kr d  y5.2))
theorem q1kt (d:Nat):COK prog (q1jl (q1ks d)):=by
 have hm:prog.follows .mixedOrders=true:=mixed
 have hT:=tys
 have hC0:OrcOK prog (orc (q1jo (q1jn d))):=qcn (by
  intro S hS
  simp only [q1jo,List.mem_cons,List.not_mem_nil,or_false] at hS
  subst hS;exact q14p d)
 have hC:OrcOK prog (orcI 145 q1ct (orcI 106 q1cu (orc (q1jo (q1jn d))))):=(q1cv q1cy (q1cv q1cz hC0))
 refine q8c (c:=qct f120) (fn:=f120) hT (by kernel_rfl) (by kernel_rfl) (by decide) fun x r h w0 φ0 Q hend=>?_
 replace h:q1ks d x=some r:=h
 unfold q1ks at h
 show Run prog w0 φ0 68 (qct f120) ⟨[(0,.agg [.bool x.1.1,.int .u64 x.1.2.1,.int .u64 x.1.2.2.1]),(1,.agg [.bool x.2.1.1,.int .u64 x.2.1.2.1,.int .u64 x.2.1.2.2.1])],[]⟩ Q
 refine q3f2 hm hT hC (q1ju (q1jn d) (x.1.1,x.1.2.1,x.1.2.2.1,x.2.1.1,x.2.1.2.1,x.2.1.2.2.1)) h fun y0 h=>?_
 refine q7w ?_
 refine q3f2 hm hT hC (q1jy (q1jn d) y0) h fun y1 h=>?_
 refine q80 (v:=y1.1) (by kernel_rfl) h ?_ ?_
 ·
  intro h
  refine q3f2 hm hT hC (q1k2 (q1jn d) y1) h fun y2 h=>?_
  refine q3f2 hm hT hC (q1k6 (q1jn d) y2) h fun y3 h=>?_
  refine q3f2 hm hT hC (q1ka (q1jn d) y3) h fun y4 h=>?_
  refine q7v (q7k ?_)
  cases h
  exact (hend _ (by kernel_rfl)).2
 ·
  intro h
  refine q7s (q7i ?_)
  refine q7z (r:=r) (F:=q1kr d ) (S:=(fun z=>⟨[(2,.ptr 0 0),(3,.ptr 1 0),(4,.ptr 2 0)],[.cells [.bool z.1,u6 z.2.1,u6 z.2.2.1],.cells [.bool z.2.2.2.1,u6 z.2.2.2.2.1,u6 z.2.2.2.2.2.1],.cells [.bool z.2.2.2.2.2.2.1,u6 z.2.2.2.2.2.2.2.1,u6 z.2.2.2.2.2.2.2.2]]⟩:q1jr→St)) ?_ ?_
  ·
   intro z h
   unfold q1kr at h
   refine q3f2 hm hT hC (q1kk (q1jn d) z) h fun y7 h=>?_
   refine q3f2 hm hT hC (q1ko (q1jn d) y7) h fun y8 h=>?_
   refine q3f2 hm hT hC (q1kq (q1jn d) y8) h fun y9 h=>?_
   refine q7v ?_
   cases h
   exact (hend _ (by kernel_rfl)).2
  intro hj1
  refine q3f2 hm hT hC (q1ke (q1jn d) y1) h fun y5 h=>?_
  refine q80 (v:=y5.1) (by kernel_rfl) h ?_ ?_
  ·
   intro h
   refine q81 hm hT hC (q1kg (q1jn d) y5) h ?_
   intro y6 h
   exact hj1 _ h
  ·
   intro h
   refine q7s ?_
   refine qcs (s:=⟨[(2,.ptr 0 0),(3,.ptr 1 0),(4,.ptr 2 0)],[.cells [.bool y5.2.1,.int .u64 y5.2.2.1,.int .u64 y5.2.2.2.1],.cells [.bool y5.2.2.2.2.1,.int .u64 y5.2.2.2.2.2.1,.int .u64 y5.2.2.2.2.2.2.1],.cells [.bool y5.2.2.2.2.2.2.2.1,.int .u64 y5.2.2.2.2.2.2.2.2.1,.int .u64 y5.2.2.2.2.2.2.2.2.2]]⟩) [43] (by kernel_rfl) ?_
   exact hj1 _ h
abbrev q1ku:List Pk:=[.row Rbuu true,.row Ru false]
abbrev q1kv:Type:=Dbuu×Du×Unit
abbrev q1kw:Type:=Bool×Int×Int×Int
def q1kx (r:q1kw):LV×List Ob:=(.tup [.agg [.bool r.1,.int .u64 r.2.1,.int .u64 r.2.2.1],.int .u64 r.2.2.2],[])
def q1ky (F:q1kv→Option q1kw):Go.Tx.Spec:=⟨122,q1ku,q1kw,F,q1kx⟩
abbrev q1kz:Type:=(q1eu→Option q1ev)×Unit
def q1l0 (d:Nat):q1kz:=(q1hv d,())
def q1l1 (C:q1kz):List Go.Tx.Spec:=[q1ex C.1]
abbrev q1l2:Type:=Bool×Int×Int×Int
def q1l3 (v:q1l2):St:=⟨[(0,.agg [.bool v.1,u6 v.2.1,u6 v.2.2.1]),(1,u6 v.2.2.2)],[]⟩
abbrev q1l4:Type:=Int×Bool×Int×Int×Bool×Int×Int
def q1l5 (v:q1l4):St:=⟨[(1,u6 v.1),(2,.ptr 0 0),(4,.ptr 1 0)],[.cells [.bool v.2.1,u6 v.2.2.1,u6 v.2.2.2.1],.cells [.bool v.2.2.2.2.1,u6 v.2.2.2.2.2.1,u6 v.2.2.2.2.2.2]]⟩
def q1l6 (C:q1kz) (v:q1l2):Dt q1l4:=(Dt.ret (v.2.2.2,v.1,v.2.1,v.2.2.1,false,(0:Int),(0:Int)))
abbrev q3fq {V Y:Type}:=@rg q1kz V Y tysT (fun C=>(orc (q1l1 C))) 31
theorem q1l7 C v:q3fq (regO (qct f122) 0) false (an [1,2,4]) q1l3 q1l6 q1l5 C v:=rgI (by kernel_rfl)
abbrev q1l8:Type:=Int×Int×Int×Bool×Int×Int×Bool×Int×Int
def q1l9 (v:q1l8):St:=⟨[(1,u6 v.1),(2,.ptr 0 0),(4,.ptr 1 0),(6,u6 v.2.1),(7,u6 v.2.2.1)],[.cells [.bool v.2.2.2.1,u6 v.2.2.2.2.1,u6 v.2.2.2.2.2.1],.cells [.bool v.2.2.2.2.2.2.1,u6 v.2.2.2.2.2.2.2.1,u6 v.2.2.2.2.2.2.2.2]]⟩
def q1la (C:q1kz) (v:q1l4):Dt q1l8:=(Dt.ite (v.1 == (0:Int)) Dt.fail (Dt.ite (v.1 == (0:Int)) Dt.fail (Dt.ret (v.1,(IntKind.wrap .u64 (Int.tdiv v.2.2.1 v.1)),(Int.tmod v.2.2.1 v.1),v.2.1,v.2.2.1,v.2.2.2.1,v.2.2.2.2.1,v.2.2.2.2.2.1,v.2.2.2.2.2.2))))
theorem q1lb C v:q3fq (regO (qct f122) 1) true (an [1,2,4,6,7]) q1l5 q1la q1l9 C v:=rgI (by kernel_rfl)
abbrev q1lc:Type:=Int×Int×Int×Bool×Int×Int×Bool×Int×Int
def q1ld (v:q1lc):St:=⟨[(2,.ptr 0 0),(4,.ptr 1 0),(6,u6 v.1),(7,u6 v.2.1),(8,u6 v.2.2.1)],[.cells [.bool v.2.2.2.1,u6 v.2.2.2.2.1,u6 v.2.2.2.2.2.1],.cells [.bool v.2.2.2.2.2.2.1,u6 v.2.2.2.2.2.2.2.1,u6 v.2.2.2.2.2.2.2.2]]⟩
def q1le (C:q1kz) (v:q1l8):Dt q1lc:=(Dt.bnd (C.1 ((v.2.2.1,()),(v.2.2.2.2.2.1,()),(v.1,()),())) fun r1=>(Dt.ret (v.2.1,r1.2,r1.1,v.2.2.2.1,v.2.2.2.2.1,v.2.2.2.2.2.1,v.2.2.2.2.2.2.1,v.2.2.2.2.2.2.2.1,v.2.2.2.2.2.2.2.2)))
theorem q1lf C v:q3fq (regO (qct f122) 2) false (an [2,4,6,7,8]) q1l9 q1le q1ld C v:=rgI (by kernel_rfl)
abbrev q1lg:Type:=Int×Bool×Int×Int
def q1lh (v:q1lg):St:=⟨[(4,.ptr 0 0),(5,u6 v.1)],[.cells [.bool v.2.1,u6 v.2.2.1,u6 v.2.2.2]]⟩
def q1li (C:q1kz) (v:q1lc):Dt q1lg:=(Dt.ret (v.2.1,v.2.2.2.1,v.1,v.2.2.1))
theorem q1lj C v:q3fq (regO (qct f122) 3) false (an [4,5]) q1ld q1li q1lh C v:=rgI (by kernel_rfl)
def q1lk (d:Nat) (x:q1kv):Option q1kw :=
 (q1l6 (q1l0 d) (x.1.1,x.1.2.1,x.1.2.2.1,x.2.1.1)).eval fun y0 =>
 (q1la (q1l0 d) y0).eval fun y1 =>
 (q1le (q1l0 d) y1).eval fun y2 =>
 (q1li (q1l0 d) y2).eval fun y3 =>
 some (y3.2.1,y3.2.2.1,y3.2.2.2,y3.1)
theorem q1ll (d:Nat):COK prog (q1ky (q1lk d)):=by
 have hm:prog.follows .mixedOrders=true:=mixed
 have hT:=tys
 have hC0:OrcOK prog (orc (q1l1 (q1l0 d))):=qcn (by
  intro S hS
  simp only [q1l1,List.mem_cons,List.not_mem_nil,or_false] at hS
  subst hS;exact q1hw d)
 have hC:OrcOK prog (orc (q1l1 (q1l0 d))):=hC0
 refine q8c (c:=qct f122) (fn:=f122) hT (by kernel_rfl) (by kernel_rfl) (by decide) fun x r h w0 φ0 Q hend=>?_
 replace h:q1lk d x=some r:=h
 unfold q1lk at h
 show Run prog w0 φ0 31 (qct f122) ⟨[(0,.agg [.bool x.1.1,.int .u64 x.1.2.1,.int .u64 x.1.2.2.1]),(1,.int .u64 x.2.1.1)],[]⟩ Q
 refine q3f2 hm hT hC (q1l7 (q1l0 d) (x.1.1,x.1.2.1,x.1.2.2.1,x.2.1.1)) h fun y0 h=>?_
 refine q3f2 hm hT hC (q1lb (q1l0 d) y0) h fun y1 h=>?_
 refine q3f2 hm hT hC (q1lf (q1l0 d) y1) h fun y2 h=>?_
 refine q3f2 hm hT hC (q1lj (q1l0 d) y2) h fun y3 h=>?_
 refine q7v ?_
 cases h
 exact (hend _ (by kernel_rfl)).2
abbrev q1lm:List Pk:=[.row Rbuu true,.row Ru false,.row Ru false]
abbrev q1ln:Type:=Dbuu×Du×Du×Unit
abbrev q1lo:Type:=Int×Int×Int
def q1lp (r:q1lo):LV×List Ob:=(.tup [.agg [.int .i64 r.1,.int .i64 r.2.1],.int .i64 r.2.2],[])
def q1lq (F:q1ln→Option q1lo):Go.Tx.Spec:=⟨124,q1lm,q1lo,F,q1lp⟩
abbrev q1lr:Type:=Unit
def q1ls (_d:Nat):q1lr:=()
def q1lt (C:q1lr):List Go.Tx.Spec:=[]
abbrev q1lu:Type:=Bool×Int×Int×Int×Int
def q1lv (v:q1lu):St:=⟨[(0,.agg [.bool v.1,u6 v.2.1,u6 v.2.2.1]),(1,u6 v.2.2.2.1),(2,u6 v.2.2.2.2)],[]⟩
abbrev q1lw:Type:=Int×Int×Bool×Int×Int×Int×Int
def q1lx (v:q1lw):St:=⟨[(1,u6 v.1),(2,u6 v.2.1),(3,.ptr 0 0),(6,.ptr 1 0)],[.cells [.bool v.2.2.1,u6 v.2.2.2.1,u6 v.2.2.2.2.1],.cells [i6 v.2.2.2.2.2.1,i6 v.2.2.2.2.2.2]]⟩
def q1ly (C:q1lr) (v:q1lu):Dt q1lw:=(Dt.ret (v.2.2.2.1,v.2.2.2.2,v.1,v.2.1,v.2.2.1,(0:Int),(0:Int)))
abbrev q3fr {V Y:Type}:=@rg q1lr V Y tysT (fun C=>(orc (q1lt C))) 39
theorem q1lz C v:q3fr (regO (qct f124) 0) false (an [1,2,3,6]) q1lv q1ly q1lx C v:=rgI (by kernel_rfl)
abbrev q1m0:Type:=Int×Bool×Bool×Int×Int×Int×Int
def q1m1 (v:q1m0):St:=⟨[(2,u6 v.1),(3,.ptr 0 0),(6,.ptr 1 0),(24,.bool v.2.1)],[.cells [.bool v.2.2.1,u6 v.2.2.2.1,u6 v.2.2.2.2.1],.cells [i6 v.2.2.2.2.2.1,i6 v.2.2.2.2.2.2]]⟩
def q1m2 (C:q1lr) (v:q1lw):Dt q1m0:=(Dt.ite (decide (v.2.2.2.1 > (0:Int))) (Dt.ret (v.2.1,true,v.2.2.1,v.2.2.2.1,v.2.2.2.2.1,v.2.2.2.2.2.1,v.2.2.2.2.2.2)) (Dt.ite (decide (v.2.2.2.2.1 > (9223372036854775807:Int))) (Dt.ret (v.2.1,true,v.2.2.1,v.2.2.2.1,v.2.2.2.2.1,v.2.2.2.2.2.1,v.2.2.2.2.2.2)) (Dt.ite (decide (v.1 > (0:Int))) (Dt.ret (v.2.1,true,v.2.2.1,v.2.2.2.1,v.2.2.2.2.1,v.2.2.2.2.2.1,v.2.2.2.2.2.2)) (Dt.ret (v.2.1,(decide (v.2.1 > (9223372036854775807:Int))),v.2.2.1,v.2.2.2.1,v.2.2.2.2.1,v.2.2.2.2.2.1,v.2.2.2.2.2.2)))))
theorem q1m3 C v:q3fr (regO (qct f124) 1) false (an [2,3,6,24]) q1lx q1m2 q1m1 C v:=rgI (by kernel_rfl)
abbrev q1m4:Type:=Int×Int×Int
def q1m5 (v:q1m4):St:=⟨[(6,.ptr 0 0),(7,i6 v.1)],[.cells [i6 v.2.1,i6 v.2.2]]⟩
def q1m6 (C:q1lr) (v:q1m0):Dt q1m4:=(Dt.ret ((16:Int),(0:Int),(0:Int)))
theorem q1m7 C v:q3fr (regO (qct f124) 2) false (an [6,7]) q1m1 q1m6 q1m5 C v:=rgI (by kernel_rfl)
abbrev q1m8:Type:=Bool×Int×Int×Int×Int×Int×Int
def q1m9 (v:q1m8):St:=⟨[(3,.ptr 0 0),(6,.ptr 1 0),(8,.ptr 2 0)],[.cells [.bool v.1,u6 v.2.1,u6 v.2.2.1],.cells [i6 v.2.2.2.1,i6 v.2.2.2.2.1],.cells [i6 v.2.2.2.2.2.1,i6 v.2.2.2.2.2.2]]⟩
def q1ma (C:q1lr) (v:q1m0):Dt q1m8:=(Dt.ret (v.2.2.1,v.2.2.2.1,v.2.2.2.2.1,v.2.2.2.2.2.1,v.2.2.2.2.2.2,(IntKind.wrap .i64 v.2.2.2.2.1),(IntKind.wrap .i64 v.1)))
theorem q1mb C v:q3fr (regO (qct f124) 3) false (an [3,6,8]) q1m1 q1ma q1m9 C v:=rgI (by kernel_rfl)
abbrev q1mc:Type:=Bool×Int×Int×Int×Int
def q1md (v:q1mc):St:=⟨[(6,.ptr 0 0),(8,.ptr 1 0),(33,.bool v.1)],[.cells [i6 v.2.1,i6 v.2.2.1],.cells [i6 v.2.2.2.1,i6 v.2.2.2.2]]⟩
def q1me (C:q1lr) (v:q1m8):Dt q1mc:=(Dt.ret (v.1,v.2.2.2.1,v.2.2.2.2.1,v.2.2.2.2.2.1,v.2.2.2.2.2.2))
theorem q1mf C v:q3fr (regO (qct f124) 4) false (an [6,8,33]) q1m9 q1me q1md C v:=rgI (by kernel_rfl)
abbrev q1mg:Type:=Int×Int×Int×Int
def q1mh (v:q1mg):St:=⟨[(6,.ptr 0 0),(8,.ptr 1 0)],[.cells [i6 v.1,i6 v.2.1],.cells [i6 v.2.2.1,i6 v.2.2.2]]⟩
def q1mi (C:q1lr) (v:q1mc):Dt q1mg:=(Dt.ret (v.2.1,v.2.2.1,(IntKind.wrap .i64 (0 - v.2.2.2.1)),v.2.2.2.2))
theorem q1mj C v:q3fr (regO (qct f124) 5) false (an [6,8]) q1md q1mi q1mh C v:=rgI (by kernel_rfl)
def q1mk (C:q1lr) (v:q1mg):Dt q1m4:=(Dt.ret ((0:Int),v.2.2.1,v.2.2.2))
theorem q1ml C v:q3fr (regO (qct f124) 6) false (an [6,7]) q1mh q1mk q1m5 C v:=rgI (by kernel_rfl)
def q1mm  (d:Nat)  (z:Int×Int×Int×Int):Option (q1lo) :=
 (q1mk (q1ls d) z).eval fun y6 =>
 some (y6.2.1,y6.2.2,y6.1)
def q1mn (d:Nat) (x:q1ln):Option q1lo :=
 (q1ly (q1ls d) (x.1.1,x.1.2.1,x.1.2.2.1,x.2.1.1,x.2.2.1.1)).eval fun y0 =>
 (q1m2 (q1ls d) y0).eval fun y1 =>
 bif y1.2.1 then ((q1m6 (q1ls d) y1).eval fun y2 =>
 some (y2.2.1,y2.2.2,y2.1)) else ((q1ma (q1ls d) y1).eval fun y3 =>
 (q1me (q1ls d) y3).eval fun y4 =>
 bif y4.1 then ((q1mi (q1ls d) y4).eval fun y5 =>
 q1mm d  y5) else (q1mm d  y4.2))
theorem q1mo (d:Nat):COK prog (q1lq (q1mn d)):=by
 have hm:prog.follows .mixedOrders=true:=mixed
 have hT:=tys
 have hC0:OrcOK prog (orc (q1lt (q1ls d))):=qcn (by
  intro S hS
  simp only [q1lt,List.mem_cons,List.not_mem_nil,or_false] at hS
  all_goals first | cases hS | exact hS.elim)
 have hC:OrcOK prog (orc (q1lt (q1ls d))):=hC0
 refine q8c (c:=qct f124) (fn:=f124) hT (by kernel_rfl) (by kernel_rfl) (by decide) fun x r h w0 φ0 Q hend=>?_
 replace h:q1mn d x=some r:=h
 unfold q1mn at h
 show Run prog w0 φ0 39 (qct f124) ⟨[(0,.agg [.bool x.1.1,.int .u64 x.1.2.1,.int .u64 x.1.2.2.1]),(1,.int .u64 x.2.1.1),(2,.int .u64 x.2.2.1.1)],[]⟩ Q
 refine q3f2 hm hT hC (q1lz (q1ls d) (x.1.1,x.1.2.1,x.1.2.2.1,x.2.1.1,x.2.2.1.1)) h fun y0 h=>?_
 refine q7w ?_
 refine q3f2 hm hT hC (q1m3 (q1ls d) y0) h fun y1 h=>?_
 refine q80 (v:=y1.2.1) (by kernel_rfl) h ?_ ?_
 ·
  intro h
  refine q3f2 hm hT hC (q1m7 (q1ls d) y1) h fun y2 h=>?_
  refine q7v (q7k ?_)
  cases h
  exact (hend _ (by kernel_rfl)).2
 ·
  intro h
  refine q7s (q7i ?_)
  refine q3f2 hm hT hC (q1mb (q1ls d) y1) h fun y3 h=>?_
  refine q7z (r:=r) (F:=q1mm d ) (S:=(fun z=>⟨[(6,.ptr 0 0),(8,.ptr 1 0)],[.cells [i6 z.1,i6 z.2.1],.cells [i6 z.2.2.1,i6 z.2.2.2]]⟩:q1mg→St)) ?_ ?_
  ·
   intro z h
   unfold q1mm at h
   refine q3f2 hm hT hC (q1ml (q1ls d) z) h fun y6 h=>?_
   refine q7v ?_
   cases h
   exact (hend _ (by kernel_rfl)).2
  intro hj1
  refine q3f2 hm hT hC (q1mf (q1ls d) y3) h fun y4 h=>?_
  refine q80 (v:=y4.1) (by kernel_rfl) h ?_ ?_
  ·
   intro h
   refine q81 hm hT hC (q1mj (q1ls d) y4) h ?_
   intro y5 h
   exact hj1 _ h
  ·
   intro h
   refine q7s ?_
   refine qcs (s:=⟨[(6,.ptr 0 0),(8,.ptr 1 0)],[.cells [.int .i64 y4.2.1,.int .i64 y4.2.2.1],.cells [.int .i64 y4.2.2.2.1,.int .i64 y4.2.2.2.2]]⟩) [33] (by kernel_rfl) ?_
   exact hj1 _ h
abbrev q1mp:List Pk:=[.row Rii true,.row Rii true]
abbrev q1mq:Type:=Dii×Dii×Unit
abbrev q1mr:Type:=Int×Int×Int
def q1ms (r:q1mr):LV×List Ob:=(.tup [.agg [.int .i64 r.1,.int .i64 r.2.1],.int .i64 r.2.2],[])
def q1mt (F:q1mq→Option q1mr):Go.Tx.Spec:=⟨62,q1mp,q1mr,F,q1ms⟩
abbrev q1mu:Type:=(qxx→Option qxy)×(q1it→Option q1iu)×(q1ji→Option q1jj)×(q117→Option q118)×(q1kv→Option q1kw)×(qm8→Option qm9)×(q1ln→Option q1lo)×Unit
def q1mv (d:Nat):q1mu:=(qye d,q1jf d,q1ks d,q11s d,q1lk d,qmd d,q1mn d,())
def q1mw (C:q1mu):List Go.Tx.Spec:=[qy0 C.1,q1iw C.2.1,q1jl C.2.2.1,q11a C.2.2.2.1,q1ky C.2.2.2.2.1,qmb C.2.2.2.2.2.1,q1lq C.2.2.2.2.2.2.1]
abbrev q1mx:Type:=Int×Int×Int×Int
def q1my (v:q1mx):St:=⟨[(0,.agg [i6 v.1,i6 v.2.1]),(1,.agg [i6 v.2.2.1,i6 v.2.2.2])],[]⟩
abbrev q1mz:Type:=Int×Int×Int×Int×Int×Int
def q1n0 (v:q1mz):St:=⟨[(2,.ptr 0 0),(3,.ptr 1 0),(4,.ptr 2 0)],[.cells [i6 v.1,i6 v.2.1],.cells [i6 v.2.2.1,i6 v.2.2.2.1],.cells [i6 v.2.2.2.2.1,i6 v.2.2.2.2.2]]⟩
def q1n1 (C:q1mu) (v:q1mx):Dt q1mz:=(Dt.ret (v.1,v.2.1,v.2.2.1,v.2.2.2,(0:Int),(0:Int)))
abbrev q3fs {V Y:Type}:=@rg q1mu V Y tysT (fun C=>(orc (q1mw C))) 81
theorem q1n2 C v:q3fs (regO (qct f62) 0) false (an [2,3,4]) q1my q1n1 q1n0 C v:=rgI (by kernel_rfl)
abbrev q1n3:Type:=Int×Int×Int×Int×Int×Int×Int
def q1n4 (v:q1n3):St:=⟨[(2,.ptr 0 0),(3,.ptr 1 0),(4,.ptr 2 0),(6,i6 v.1)],[.cells [i6 v.2.1,i6 v.2.2.1],.cells [i6 v.2.2.2.1,i6 v.2.2.2.2.1],.cells [i6 v.2.2.2.2.2.1,i6 v.2.2.2.2.2.2]]⟩
def q1n5 (C:q1mu) (v:q1mz):Dt q1n3:=(Dt.bnd (C.1 ((v.1,v.2.1,()),(v.2.2.1,v.2.2.2.1,()),())) fun r1=>(Dt.ret (r1,v.1,v.2.1,v.2.2.1,v.2.2.2.1,v.2.2.2.2.1,v.2.2.2.2.2)))
theorem q1n6 C v:q3fs (regO (qct f62) 1) false (an [2,3,4,6]) q1n0 q1n5 q1n4 C v:=rgI (by kernel_rfl)
abbrev q1n7:Type:=Int×Bool×Int×Int×Int×Int×Int×Int
def q1n8 (v:q1n7):St:=⟨[(2,.ptr 0 0),(3,.ptr 1 0),(4,.ptr 2 0),(6,i6 v.1),(18,.bool v.2.1)],[.cells [i6 v.2.2.1,i6 v.2.2.2.1],.cells [i6 v.2.2.2.2.1,i6 v.2.2.2.2.2.1],.cells [i6 v.2.2.2.2.2.2.1,i6 v.2.2.2.2.2.2.2]]⟩
def q1n9 (C:q1mu) (v:q1n3):Dt q1n7:=(Dt.ret (v.1,(v.1 != (0:Int)),v.2.1,v.2.2.1,v.2.2.2.1,v.2.2.2.2.1,v.2.2.2.2.2.1,v.2.2.2.2.2.2))
theorem q1na C v:q3fs (regO (qct f62) 2) false (an [2,3,4,6,18]) q1n4 q1n9 q1n8 C v:=rgI (by kernel_rfl)
abbrev q1nb:Type:=Int×Int×Int
def q1nc (v:q1nb):St:=⟨[(4,.ptr 0 0),(5,i6 v.1)],[.cells [i6 v.2.1,i6 v.2.2]]⟩
def q1nd (C:q1mu) (v:q1n7):Dt q1nb:=(Dt.ret (v.1,(0:Int),(0:Int)))
theorem q1ne C v:q3fs (regO (qct f62) 3) false (an [4,5]) q1n8 q1nd q1nc C v:=rgI (by kernel_rfl)
abbrev q1nf:Type:=Int×Int×Int×Int×Int×Int×Int
def q1ng (v:q1nf):St:=⟨[(2,.ptr 0 0),(3,.ptr 1 0),(4,.ptr 2 0),(7,i6 v.1)],[.cells [i6 v.2.1,i6 v.2.2.1],.cells [i6 v.2.2.2.1,i6 v.2.2.2.2.1],.cells [i6 v.2.2.2.2.2.1,i6 v.2.2.2.2.2.2]]⟩
def q1nh (C:q1mu) (v:q1n7):Dt q1nf:=(Dt.bnd (C.2.1 (((IntKind.wrap .u64 v.2.2.2.1),()),((IntKind.wrap .u64 v.2.2.2.2.2.1),()),())) fun r1=>(Dt.ret ((IntKind.wrap .i64 r1),v.2.2.1,v.2.2.2.1,v.2.2.2.2.1,v.2.2.2.2.2.1,v.2.2.2.2.2.2.1,v.2.2.2.2.2.2.2)))
theorem q1ni C v:q3fs (regO (qct f62) 4) false (an [2,3,4,7]) q1n8 q1nh q1ng C v:=rgI (by kernel_rfl)
abbrev q1nj:Type:=Int×Int×Int×Int×Int×Int×Int×Bool×Int×Int
def q1nk (v:q1nj):St:=⟨[(2,.ptr 0 0),(3,.ptr 1 0),(4,.ptr 2 0),(7,i6 v.1),(8,.ptr 3 0)],[.cells [i6 v.2.1,i6 v.2.2.1],.cells [i6 v.2.2.2.1,i6 v.2.2.2.2.1],.cells [i6 v.2.2.2.2.2.1,i6 v.2.2.2.2.2.2.1],.cells [.bool v.2.2.2.2.2.2.2.1,u6 v.2.2.2.2.2.2.2.2.1,u6 v.2.2.2.2.2.2.2.2.2]]⟩
def q1nl (C:q1mu) (v:q1nf):Dt q1nj:=(Dt.ite (v.1 == (0:Int)) Dt.fail (Dt.bnd (C.2.2.2.1 ((v.2.1,()),((IntKind.wrap .i64 (Int.tdiv v.2.2.2.2.1 v.1)),()),())) fun r1=>(Dt.ite (v.1 == (0:Int)) Dt.fail (Dt.bnd (C.2.2.2.1 ((v.2.2.2.1,()),((IntKind.wrap .i64 (Int.tdiv v.2.2.1 v.1)),()),())) fun r2=>(Dt.bnd (C.2.2.1 ((r1.1,r1.2.1,r1.2.2,()),(r2.1,r2.2.1,r2.2.2,()),())) fun r3=>(Dt.ret (v.1,v.2.1,v.2.2.1,v.2.2.2.1,v.2.2.2.2.1,v.2.2.2.2.2.1,v.2.2.2.2.2.2,r3.1,r3.2.1,r3.2.2)))))))
theorem q1nm C v:q3fs (regO (qct f62) 5) true (an [2,3,4,7,8]) q1ng q1nl q1nk C v:=rgI (by kernel_rfl)
abbrev q1nn:Type:=Int×Int×Int×Int×Int×Int×Int×Int×Bool×Int×Int
def q1no (v:q1nn):St:=⟨[(2,.ptr 0 0),(3,.ptr 1 0),(4,.ptr 2 0),(7,i6 v.1),(8,.ptr 3 0),(10,u6 v.2.1)],[.cells [i6 v.2.2.1,i6 v.2.2.2.1],.cells [i6 v.2.2.2.2.1,i6 v.2.2.2.2.2.1],.cells [i6 v.2.2.2.2.2.2.1,i6 v.2.2.2.2.2.2.2.1],.cells [.bool v.2.2.2.2.2.2.2.2.1,u6 v.2.2.2.2.2.2.2.2.2.1,u6 v.2.2.2.2.2.2.2.2.2.2]]⟩
def q1np (C:q1mu) (v:q1nj):Dt q1nn:=(Dt.bnd (C.2.2.2.2.1 ((v.2.2.2.2.2.2.2.1,v.2.2.2.2.2.2.2.2.1,v.2.2.2.2.2.2.2.2.2,()),((IntKind.wrap .u64 v.1),()),())) fun r1=>(Dt.ret (v.1,r1.2.2.2,v.2.1,v.2.2.1,v.2.2.2.1,v.2.2.2.2.1,v.2.2.2.2.2.1,v.2.2.2.2.2.2.1,v.2.2.2.2.2.2.2.1,v.2.2.2.2.2.2.2.2.1,v.2.2.2.2.2.2.2.2.2)))
theorem q1nq C v:q3fs (regO (qct f62) 6) false (an [2,3,4,7,8,10]) q1nk q1np q1no C v:=rgI (by kernel_rfl)
abbrev q1nr:Type:=Int×Int×Int×Int×Int×Int×Int×Int×Bool×Int×Int
def q1ns (v:q1nr):St:=⟨[(2,.ptr 0 0),(3,.ptr 1 0),(4,.ptr 2 0),(7,i6 v.1),(8,.ptr 3 0),(11,u6 v.2.1)],[.cells [i6 v.2.2.1,i6 v.2.2.2.1],.cells [i6 v.2.2.2.2.1,i6 v.2.2.2.2.2.1],.cells [i6 v.2.2.2.2.2.2.1,i6 v.2.2.2.2.2.2.2.1],.cells [.bool v.2.2.2.2.2.2.2.2.1,u6 v.2.2.2.2.2.2.2.2.2.1,u6 v.2.2.2.2.2.2.2.2.2.2]]⟩
def q1nt (C:q1mu) (v:q1nn):Dt q1nr:=(Dt.bnd (C.2.1 (((IntKind.wrap .u64 v.1),()),(v.2.1,()),())) fun r1=>(Dt.ret (v.1,r1,v.2.2.1,v.2.2.2.1,v.2.2.2.2.1,v.2.2.2.2.2.1,v.2.2.2.2.2.2.1,v.2.2.2.2.2.2.2.1,v.2.2.2.2.2.2.2.2.1,v.2.2.2.2.2.2.2.2.2.1,v.2.2.2.2.2.2.2.2.2.2)))
theorem q1nu C v:q3fs (regO (qct f62) 7) false (an [2,3,4,7,8,11]) q1no q1nt q1ns C v:=rgI (by kernel_rfl)
def q1nv (C:q1mu) (v:q1nr):Dt q1nr:=(Dt.bnd (C.2.2.2.2.1 ((v.2.2.2.2.2.2.2.2.1,v.2.2.2.2.2.2.2.2.2.1,v.2.2.2.2.2.2.2.2.2.2,()),(v.2.1,()),())) fun r1=>(Dt.ret (v.1,v.2.1,v.2.2.1,v.2.2.2.1,v.2.2.2.2.1,v.2.2.2.2.2.1,v.2.2.2.2.2.2.1,v.2.2.2.2.2.2.2.1,r1.1,r1.2.1,r1.2.2.1)))
theorem q1nw C v:q3fs (regO (qct f62) 8) false (an [2,3,4,7,8,11]) q1ns q1nv q1ns C v:=rgI (by kernel_rfl)
abbrev q1nx:Type:=Int×Int×Int×Int×Bool×Int×Int
def q1ny (v:q1nx):St:=⟨[(4,.ptr 0 0),(8,.ptr 1 0),(12,u6 v.1),(13,u6 v.2.1)],[.cells [i6 v.2.2.1,i6 v.2.2.2.1],.cells [.bool v.2.2.2.2.1,u6 v.2.2.2.2.2.1,u6 v.2.2.2.2.2.2]]⟩
def q1nz (C:q1mu) (v:q1nr):Dt q1nx:=(Dt.ite (v.1 == (0:Int)) Dt.fail (Dt.ite (v.2.1 == (0:Int)) Dt.fail (Dt.bnd (C.2.2.2.2.2.1 (((IntKind.wrap .u64 (IntKind.wrap .i64 (Int.tdiv v.2.2.2.1 v.1))),()),((IntKind.wrap .u64 (Int.tdiv (IntKind.wrap .u64 v.2.2.2.2.2.1) v.2.1)),()),())) fun r1=>(Dt.ret (r1.1,r1.2,v.2.2.2.2.2.2.1,v.2.2.2.2.2.2.2.1,v.2.2.2.2.2.2.2.2.1,v.2.2.2.2.2.2.2.2.2.1,v.2.2.2.2.2.2.2.2.2.2)))))
theorem q1o0 C v:q3fs (regO (qct f62) 9) true (an [4,8,12,13]) q1ns q1nz q1ny C v:=rgI (by kernel_rfl)
def q1o1 (C:q1mu) (v:q1nx):Dt q1nb:=(Dt.bnd (C.2.2.2.2.2.2.1 ((v.2.2.2.2.1,v.2.2.2.2.2.1,v.2.2.2.2.2.2,()),(v.1,()),(v.2.1,()),())) fun r1=>(Dt.ret (r1.2.2,r1.1,r1.2.1)))
theorem q1o2 C v:q3fs (regO (qct f62) 10) false (an [4,5]) q1ny q1o1 q1nc C v:=rgI (by kernel_rfl)
def q1o3 (d:Nat) (x:q1mq):Option q1mr :=
 (q1n1 (q1mv d) (x.1.1,x.1.2.1,x.2.1.1,x.2.1.2.1)).eval fun y0 =>
 (q1n5 (q1mv d) y0).eval fun y1 =>
 (q1n9 (q1mv d) y1).eval fun y2 =>
 bif y2.2.1 then ((q1nd (q1mv d) y2).eval fun y3 =>
 some (y3.2.1,y3.2.2,y3.1)) else ((q1nh (q1mv d) y2).eval fun y4 =>
 (q1nl (q1mv d) y4).eval fun y5 =>
 (q1np (q1mv d) y5).eval fun y6 =>
 (q1nt (q1mv d) y6).eval fun y7 =>
 (q1nv (q1mv d) y7).eval fun y8 =>
 (q1nz (q1mv d) y8).eval fun y9 =>
 (q1o1 (q1mv d) y9).eval fun y10 =>
 some (y10.2.1,y10.2.2,y10.1))
theorem q1o4 (d:Nat):COK prog (q1mt (q1o3 d)):=by
 have hm:prog.follows .mixedOrders=true:=mixed
 have hT:=tys
 have hC0:OrcOK prog (orc (q1mw (q1mv d))):=qcn (by
  intro S hS
  simp only [q1mw,List.mem_cons,List.not_mem_nil,or_false] at hS
  rcases hS with rfl | rfl | rfl | rfl | rfl | rfl | rfl
  · exact qyf d
  · exact q1jg d
  · exact q1kt d
  · exact q11t d
  · exact q1ll d
  · exact qmf d
  · exact q1mo d)
 have hC:OrcOK prog (orc (q1mw (q1mv d))):=hC0
 refine q8c (c:=qct f62) (fn:=f62) hT (by kernel_rfl) (by kernel_rfl) (by decide) fun x r h w0 φ0 Q hend=>?_
 replace h:q1o3 d x=some r:=h
 unfold q1o3 at h
 show Run prog w0 φ0 81 (qct f62) ⟨[(0,.agg [.int .i64 x.1.1,.int .i64 x.1.2.1]),(1,.agg [.int .i64 x.2.1.1,.int .i64 x.2.1.2.1])],[]⟩ Q
 refine q3f2 hm hT hC (q1n2 (q1mv d) (x.1.1,x.1.2.1,x.2.1.1,x.2.1.2.1)) h fun y0 h=>?_
 refine q7w ?_
 refine q3f2 hm hT hC (q1n6 (q1mv d) y0) h fun y1 h=>?_
 refine q3f2 hm hT hC (q1na (q1mv d) y1) h fun y2 h=>?_
 refine q80 (v:=y2.2.1) (by kernel_rfl) h ?_ ?_
 ·
  intro h
  refine q3f2 hm hT hC (q1ne (q1mv d) y2) h fun y3 h=>?_
  refine q7v (q7k ?_)
  cases h
  exact (hend _ (by kernel_rfl)).2
 ·
  intro h
  refine q7s (q7i ?_)
  refine q3f2 hm hT hC (q1ni (q1mv d) y2) h fun y4 h=>?_
  refine q3f2 hm hT hC (q1nm (q1mv d) y4) h fun y5 h=>?_
  refine q3f2 hm hT hC (q1nq (q1mv d) y5) h fun y6 h=>?_
  refine q3f2 hm hT hC (q1nu (q1mv d) y6) h fun y7 h=>?_
  refine q3f2 hm hT hC (q1nw (q1mv d) y7) h fun y8 h=>?_
  refine q3f2 hm hT hC (q1o0 (q1mv d) y8) h fun y9 h=>?_
  refine q3f2 hm hT hC (q1o2 (q1mv d) y9) h fun y10 h=>?_
  refine q7v ?_
  cases h
  exact (hend _ (by kernel_rfl)).2
abbrev q1o5:List Pk:=[.row Rii true,.row Rii true]
abbrev q1o6:Type:=Dii×Dii×Unit
abbrev q1o7:Type:=Int×Int×Int
def q1o8 (r:q1o7):LV×List Ob:=(.tup [.agg [.int .i64 r.1,.int .i64 r.2.1],.int .i64 r.2.2],[])
def q1o9 (F:q1o6→Option q1o7):Go.Tx.Spec:=⟨61,q1o5,q1o7,F,q1o8⟩
abbrev q1oa:Type:=(q1mq→Option q1mr)×(qxx→Option qxy)×Unit
def q1ob (d:Nat):q1oa:=(q1o3 d,qye d,())
def q1oc (C:q1oa):List Go.Tx.Spec:=[q1mt C.1,qy0 C.2.1]
abbrev q1od:Type:=Int×Int×Int×Int
def q1oe (v:q1od):St:=⟨[(0,.agg [i6 v.1,i6 v.2.1]),(1,.agg [i6 v.2.2.1,i6 v.2.2.2])],[]⟩
abbrev q1of:Type:=Int×Int×Int×Int×Int×Int
def q1og (v:q1of):St:=⟨[(2,.ptr 0 0),(3,.ptr 1 0),(4,.ptr 2 0)],[.cells [i6 v.1,i6 v.2.1],.cells [i6 v.2.2.1,i6 v.2.2.2.1],.cells [i6 v.2.2.2.2.1,i6 v.2.2.2.2.2]]⟩
def q1oh (C:q1oa) (v:q1od):Dt q1of:=(Dt.ret (v.1,v.2.1,v.2.2.1,v.2.2.2,(0:Int),(0:Int)))
abbrev q3ft {V Y:Type}:=@rg q1oa V Y tysT (fun C=>(orc (q1oc C))) 23
theorem q1oi C v:q3ft (regO (qct f61) 0) false (an [2,3,4]) q1oe q1oh q1og C v:=rgI (by kernel_rfl)
abbrev q1oj:Type:=Int×Int×Int×Int×Int×Int×Int
def q1ok (v:q1oj):St:=⟨[(2,.ptr 0 0),(3,.ptr 1 0),(4,.ptr 2 0),(6,i6 v.1)],[.cells [i6 v.2.1,i6 v.2.2.1],.cells [i6 v.2.2.2.1,i6 v.2.2.2.2.1],.cells [i6 v.2.2.2.2.2.1,i6 v.2.2.2.2.2.2]]⟩
def q1ol (C:q1oa) (v:q1of):Dt q1oj:=(Dt.bnd (C.2.1 ((v.1,v.2.1,()),(v.2.2.1,v.2.2.2.1,()),())) fun r1=>(Dt.ret (r1,v.1,v.2.1,v.2.2.1,v.2.2.2.1,v.2.2.2.2.1,v.2.2.2.2.2)))
theorem q1om C v:q3ft (regO (qct f61) 1) false (an [2,3,4,6]) q1og q1ol q1ok C v:=rgI (by kernel_rfl)
abbrev q1on:Type:=Int×Bool×Int×Int×Int×Int×Int×Int
def q1oo (v:q1on):St:=⟨[(2,.ptr 0 0),(3,.ptr 1 0),(4,.ptr 2 0),(6,i6 v.1),(11,.bool v.2.1)],[.cells [i6 v.2.2.1,i6 v.2.2.2.1],.cells [i6 v.2.2.2.2.1,i6 v.2.2.2.2.2.1],.cells [i6 v.2.2.2.2.2.2.1,i6 v.2.2.2.2.2.2.2]]⟩
def q1op (C:q1oa) (v:q1oj):Dt q1on:=(Dt.ret (v.1,(v.1 != (0:Int)),v.2.1,v.2.2.1,v.2.2.2.1,v.2.2.2.2.1,v.2.2.2.2.2.1,v.2.2.2.2.2.2))
theorem q1oq C v:q3ft (regO (qct f61) 2) false (an [2,3,4,6,11]) q1ok q1op q1oo C v:=rgI (by kernel_rfl)
abbrev q1or:Type:=Int×Int×Int
def q1os (v:q1or):St:=⟨[(4,.ptr 0 0),(5,i6 v.1)],[.cells [i6 v.2.1,i6 v.2.2]]⟩
def q1ot (C:q1oa) (v:q1on):Dt q1or:=(Dt.ret (v.1,(0:Int),(0:Int)))
theorem q1ou C v:q3ft (regO (qct f61) 3) false (an [4,5]) q1oo q1ot q1os C v:=rgI (by kernel_rfl)
def q1ov (C:q1oa) (v:q1on):Dt q1of:=(Dt.ret (v.2.2.1,v.2.2.2.1,(IntKind.wrap .i64 (0 - v.2.2.2.2.1)),v.2.2.2.2.2.1,v.2.2.2.2.2.2.1,v.2.2.2.2.2.2.2))
theorem q1ow C v:q3ft (regO (qct f61) 4) false (an [2,3,4]) q1oo q1ov q1og C v:=rgI (by kernel_rfl)
def q1ox (C:q1oa) (v:q1of):Dt q1or:=(Dt.bnd (C.1 ((v.1,v.2.1,()),(v.2.2.1,v.2.2.2.1,()),())) fun r1=>(Dt.ret (r1.2.2,r1.1,r1.2.1)))
theorem q1oy C v:q3ft (regO (qct f61) 5) false (an [4,5]) q1og q1ox q1os C v:=rgI (by kernel_rfl)
def q1oz (d:Nat) (x:q1o6):Option q1o7 :=
 (q1oh (q1ob d) (x.1.1,x.1.2.1,x.2.1.1,x.2.1.2.1)).eval fun y0 =>
 (q1ol (q1ob d) y0).eval fun y1 =>
 (q1op (q1ob d) y1).eval fun y2 =>
 bif y2.2.1 then ((q1ot (q1ob d) y2).eval fun y3 =>
 some (y3.2.1,y3.2.2,y3.1)) else ((q1ov (q1ob d) y2).eval fun y4 =>
 (q1ox (q1ob d) y4).eval fun y5 =>
 some (y5.2.1,y5.2.2,y5.1))
theorem q1p0 (d:Nat):COK prog (q1o9 (q1oz d)):=by
 have hm:prog.follows .mixedOrders=true:=mixed
 have hT:=tys
 have hC0:OrcOK prog (orc (q1oc (q1ob d))):=qcn (by
  intro S hS
  simp only [q1oc,List.mem_cons,List.not_mem_nil,or_false] at hS
  rcases hS with rfl | rfl
  · exact q1o4 d
  · exact qyf d)
 have hC:OrcOK prog (orc (q1oc (q1ob d))):=hC0
 refine q8c (c:=qct f61) (fn:=f61) hT (by kernel_rfl) (by kernel_rfl) (by decide) fun x r h w0 φ0 Q hend=>?_
 replace h:q1oz d x=some r:=h
 unfold q1oz at h
 show Run prog w0 φ0 23 (qct f61) ⟨[(0,.agg [.int .i64 x.1.1,.int .i64 x.1.2.1]),(1,.agg [.int .i64 x.2.1.1,.int .i64 x.2.1.2.1])],[]⟩ Q
 refine q3f2 hm hT hC (q1oi (q1ob d) (x.1.1,x.1.2.1,x.2.1.1,x.2.1.2.1)) h fun y0 h=>?_
 refine q7w ?_
 refine q3f2 hm hT hC (q1om (q1ob d) y0) h fun y1 h=>?_
 refine q3f2 hm hT hC (q1oq (q1ob d) y1) h fun y2 h=>?_
 refine q80 (v:=y2.2.1) (by kernel_rfl) h ?_ ?_
 ·
  intro h
  refine q3f2 hm hT hC (q1ou (q1ob d) y2) h fun y3 h=>?_
  refine q7v (q7k ?_)
  cases h
  exact (hend _ (by kernel_rfl)).2
 ·
  intro h
  refine q7s (q7i ?_)
  refine q3f2 hm hT hC (q1ow (q1ob d) y2) h fun y4 h=>?_
  refine q3f2 hm hT hC (q1oy (q1ob d) y4) h fun y5 h=>?_
  refine q7v ?_
  cases h
  exact (hend _ (by kernel_rfl)).2
abbrev q1p1:List Pk:=[.row Riii true,.row Rii true]
abbrev q1p2:Type:=Diii×Dii×Unit
abbrev q1p3:Type:=Int×Int×Int
def q1p4 (r:q1p3):LV×List Ob:=(.tup [.agg [.int .i64 r.1,.int .i64 r.2.1],.int .i64 r.2.2],[])
def q1p5 (F:q1p2→Option q1p3):Go.Tx.Spec:=⟨52,q1p1,q1p3,F,q1p4⟩
abbrev q1p6:Type:=(qnq→Option qnr)×(qmq→Option qmr)×(q1ik→Option q1il)×(q1hy→Option q1hz)×(q1eu→Option q1ev)×Unit
def q1p7 (d:Nat):q1p6:=(qnv d,qmv d,q1ip d,q1ih d,q1hv d,())
def q1p8 (C:q1p6):List Go.Tx.Spec:=[qnt C.1,qmt C.2.1,q1in C.2.2.1,q1i1 C.2.2.2.1,q1ex C.2.2.2.2.1]
abbrev q1p9:Type:=Int×Int×Int×Int×Int
def q1pa (v:q1p9):St:=⟨[(0,.agg [i6 v.1,i6 v.2.1,i6 v.2.2.1]),(1,.agg [i6 v.2.2.2.1,i6 v.2.2.2.2])],[]⟩
abbrev q1pb:Type:=Int×Int×Int×Int×Int×Int×Int
def q1pc (v:q1pb):St:=⟨[(2,.ptr 0 0),(3,.ptr 1 0),(4,.ptr 2 0)],[.cells [i6 v.1,i6 v.2.1,i6 v.2.2.1],.cells [i6 v.2.2.2.1,i6 v.2.2.2.2.1],.cells [i6 v.2.2.2.2.2.1,i6 v.2.2.2.2.2.2]]⟩
def q1pd (C:q1p6) (v:q1p9):Dt q1pb:=(Dt.ret (v.1,v.2.1,v.2.2.1,v.2.2.2.1,v.2.2.2.2,(0:Int),(0:Int)))
abbrev q3fu {V Y:Type}:=@rg q1p6 V Y tysT (fun C=>(orcI 106 q1cu (orc (q1p8 C)))) 111
theorem q1pe C v:q3fu (regO (qct f52) 0) false (an [2,3,4]) q1pa q1pd q1pc C v:=rgI (by kernel_rfl)
abbrev q1pf:Type:=Int×Int×Int×Int×Int×Int×Int×Int
def q1pg (v:q1pf):St:=⟨[(2,.ptr 0 0),(3,.ptr 1 0),(4,.ptr 2 0),(6,i6 v.1)],[.cells [i6 v.2.1,i6 v.2.2.1,i6 v.2.2.2.1],.cells [i6 v.2.2.2.2.1,i6 v.2.2.2.2.2.1],.cells [i6 v.2.2.2.2.2.2.1,i6 v.2.2.2.2.2.2.2]]⟩
def q1ph (C:q1p6) (v:q1pb):Dt q1pf:=(Dt.bnd (C.1 ((v.1,v.2.1,v.2.2.1,()),())) fun r1=>(Dt.bnd (C.2.1 ((v.2.2.2.1,v.2.2.2.2.1,()),())) fun r2=>(Dt.ret ((tmax r1 r2),v.1,v.2.1,v.2.2.1,v.2.2.2.1,v.2.2.2.2.1,v.2.2.2.2.2.1,v.2.2.2.2.2.2))))
theorem q1pi C v:q3fu (regO (qct f52) 1) true (an [2,3,4,6]) q1pc q1ph q1pg C v:=rgI (by kernel_rfl)
abbrev q1pj:Type:=Int×Bool×Int×Int×Int×Int×Int×Int×Int
def q1pk (v:q1pj):St:=⟨[(2,.ptr 0 0),(3,.ptr 1 0),(4,.ptr 2 0),(6,i6 v.1),(24,.bool v.2.1)],[.cells [i6 v.2.2.1,i6 v.2.2.2.1,i6 v.2.2.2.2.1],.cells [i6 v.2.2.2.2.2.1,i6 v.2.2.2.2.2.2.1],.cells [i6 v.2.2.2.2.2.2.2.1,i6 v.2.2.2.2.2.2.2.2]]⟩
def q1pl (C:q1p6) (v:q1pf):Dt q1pj:=(Dt.ret (v.1,(v.1 != (0:Int)),v.2.1,v.2.2.1,v.2.2.2.1,v.2.2.2.2.1,v.2.2.2.2.2.1,v.2.2.2.2.2.2.1,v.2.2.2.2.2.2.2))
theorem q1pm C v:q3fu (regO (qct f52) 2) false (an [2,3,4,6,24]) q1pg q1pl q1pk C v:=rgI (by kernel_rfl)
abbrev q1pn:Type:=Int×Int×Int
def q1po (v:q1pn):St:=⟨[(4,.ptr 0 0),(5,i6 v.1)],[.cells [i6 v.2.1,i6 v.2.2]]⟩
def q1pp (C:q1p6) (v:q1pj):Dt q1pn:=(Dt.ret (v.1,(0:Int),(0:Int)))
theorem q1pq C v:q3fu (regO (qct f52) 3) false (an [4,5]) q1pk q1pp q1po C v:=rgI (by kernel_rfl)
abbrev q1pr:Type:=Int×Int×Int×Int×Int×Int
def q1ps (v:q1pr):St:=⟨[(3,.ptr 0 0),(4,.ptr 1 0),(7,.ptr 2 0)],[.cells [i6 v.1,i6 v.2.1],.cells [i6 v.2.2.1,i6 v.2.2.2.1],.cells [i6 v.2.2.2.2.1,u6 v.2.2.2.2.2]]⟩
def q1pt (C:q1p6) (v:q1pj):Dt q1pr:=(Dt.bnd (C.2.2.1 ((v.2.2.2.1,v.2.2.2.2.2.2.1,v.2.2.2.2.1,v.2.2.2.2.2.1,()),())) fun r1=>(Dt.ret (v.2.2.2.2.2.1,v.2.2.2.2.2.2.1,v.2.2.2.2.2.2.2.1,v.2.2.2.2.2.2.2.2,r1.1,r1.2)))
theorem q1pu C v:q3fu (regO (qct f52) 4) false (an [3,4,7]) q1pk q1pt q1ps C v:=rgI (by kernel_rfl)
abbrev q1pv:Type:=Bool×Int×Int×Int×Int×Int×Int
def q1pw (v:q1pv):St:=⟨[(3,.ptr 0 0),(4,.ptr 1 0),(7,.ptr 2 0),(8,.bool v.1)],[.cells [i6 v.2.1,i6 v.2.2.1],.cells [i6 v.2.2.2.1,i6 v.2.2.2.2.1],.cells [i6 v.2.2.2.2.2.1,u6 v.2.2.2.2.2.2]]⟩
def q1px (C:q1p6) (v:q1pr):Dt q1pv:=(Dt.ret ((decide (v.2.2.2.2.1<(0:Int))),v.1,v.2.1,v.2.2.1,v.2.2.2.1,v.2.2.2.2.1,v.2.2.2.2.2))
theorem q1py C v:q3fu (regO (qct f52) 5) false (an [3,4,7,8]) q1ps q1px q1pw C v:=rgI (by kernel_rfl)
abbrev q1pz:Type:=Bool×Bool×Int×Int×Int×Int×Int×Int
def q1q0 (v:q1pz):St:=⟨[(3,.ptr 0 0),(4,.ptr 1 0),(7,.ptr 2 0),(8,.bool v.1),(42,.bool v.2.1)],[.cells [i6 v.2.2.1,i6 v.2.2.2.1],.cells [i6 v.2.2.2.2.1,i6 v.2.2.2.2.2.1],.cells [i6 v.2.2.2.2.2.2.1,u6 v.2.2.2.2.2.2.2]]⟩
def q1q1 (C:q1p6) (v:q1pv):Dt q1pz:=(Dt.ret (v.1,v.1,v.2.1,v.2.2.1,v.2.2.2.1,v.2.2.2.2.1,v.2.2.2.2.2.1,v.2.2.2.2.2.2))
theorem q1q2 C v:q3fu (regO (qct f52) 6) false (an [3,4,7,8,42]) q1pw q1q1 q1q0 C v:=rgI (by kernel_rfl)
abbrev q1q3:Type:=Bool×Int×Int×Int×Int×Int×Int×Int×Int
def q1q4 (v:q1q3):St:=⟨[(3,.ptr 0 0),(4,.ptr 1 0),(7,.ptr 2 0),(8,.bool v.1),(9,u6 v.2.1),(10,u6 v.2.2.1)],[.cells [i6 v.2.2.2.1,i6 v.2.2.2.2.1],.cells [i6 v.2.2.2.2.2.1,i6 v.2.2.2.2.2.2.1],.cells [i6 v.2.2.2.2.2.2.2.1,u6 v.2.2.2.2.2.2.2.2]]⟩
def q1q5 (C:q1p6) (v:q1pz):Dt q1q3:=(Dt.bnd (q1cu ((0:Int)) (v.2.2.2.2.2.2.2) ((0:Int))) fun r1=>(Dt.ret (v.1,r1.1,r1.2,v.2.2.1,v.2.2.2.1,v.2.2.2.2.1,v.2.2.2.2.2.1,v.2.2.2.2.2.2.1,v.2.2.2.2.2.2.2)))
theorem q1q6 C v:q3fu (regO (qct f52) 7) false (an [3,4,7,8,9,10]) q1q0 q1q5 q1q4 C v:=rgI (by kernel_rfl)
def q1q7 (C:q1p6) (v:q1q3):Dt q1pv:=(Dt.ret (v.1,v.2.2.2.1,v.2.2.2.2.1,v.2.2.2.2.2.1,v.2.2.2.2.2.2.1,(IntKind.wrap .i64 ((IntKind.wrap .i64 (0 - v.2.2.2.2.2.2.2.1)) - (IntKind.wrap .i64 v.2.2.1))),v.2.1))
theorem q1q8 C v:q3fu (regO (qct f52) 8) false (an [3,4,7,8]) q1q4 q1q7 q1pw C v:=rgI (by kernel_rfl)
abbrev q1q9:Type:=Bool×Int×Int×Int×Int×Int
def q1qa (v:q1q9):St:=⟨[(4,.ptr 0 0),(7,.ptr 1 0),(8,.bool v.1),(11,u6 v.2.1)],[.cells [i6 v.2.2.1,i6 v.2.2.2.1],.cells [i6 v.2.2.2.2.1,u6 v.2.2.2.2.2]]⟩
def q1qb (C:q1p6) (v:q1pv):Dt q1q9:=(Dt.ret (v.1,(IntKind.wrap .u64 v.2.2.1),v.2.2.2.1,v.2.2.2.2.1,v.2.2.2.2.2.1,v.2.2.2.2.2.2))
theorem q1qc C v:q3fu (regO (qct f52) 9) false (an [4,7,8,11]) q1pw q1qb q1qa C v:=rgI (by kernel_rfl)
abbrev q1qd:Type:=Bool×Int×Int×Int×Int×Int×Int
def q1qe (v:q1qd):St:=⟨[(4,.ptr 0 0),(7,.ptr 1 0),(8,.bool v.1),(11,u6 v.2.1),(12,u6 v.2.2.1)],[.cells [i6 v.2.2.2.1,i6 v.2.2.2.2.1],.cells [i6 v.2.2.2.2.2.1,u6 v.2.2.2.2.2.2]]⟩
def q1qf (C:q1p6) (v:q1q9):Dt q1qd:=(Dt.bnd (C.2.2.2.1 (((IntKind.wrap .u64 v.2.2.2.2.1),()),(v.2.2.2.2.2,()),(v.2.1,()),())) fun r1=>(Dt.ret (v.1,v.2.1,r1,v.2.2.1,v.2.2.2.1,v.2.2.2.2.1,v.2.2.2.2.2)))
theorem q1qg C v:q3fu (regO (qct f52) 10) false (an [4,7,8,11,12]) q1qa q1qf q1qe C v:=rgI (by kernel_rfl)
abbrev q1qh:Type:=Bool×Int×Int×Int×Int×Int×Int×Int
def q1qi (v:q1qh):St:=⟨[(4,.ptr 0 0),(7,.ptr 1 0),(8,.bool v.1),(11,u6 v.2.1),(12,u6 v.2.2.1),(13,u6 v.2.2.2.1)],[.cells [i6 v.2.2.2.2.1,i6 v.2.2.2.2.2.1],.cells [i6 v.2.2.2.2.2.2.1,u6 v.2.2.2.2.2.2.2]]⟩
def q1qj (C:q1p6) (v:q1qd):Dt q1qh:=(Dt.ret (v.1,v.2.1,v.2.2.1,v.2.1,v.2.2.2.1,v.2.2.2.2.1,v.2.2.2.2.2.1,v.2.2.2.2.2.2))
theorem q1qk C v:q3fu (regO (qct f52) 11) false (an [4,7,8,11,12,13]) q1qe q1qj q1qi C v:=rgI (by kernel_rfl)
abbrev q1ql:Type:=Bool×Int×Int×Int×Bool×Int×Int×Int×Int
def q1qm (v:q1ql):St:=⟨[(4,.ptr 0 0),(7,.ptr 1 0),(8,.bool v.1),(11,u6 v.2.1),(12,u6 v.2.2.1),(13,u6 v.2.2.2.1),(69,.bool v.2.2.2.2.1)],[.cells [i6 v.2.2.2.2.2.1,i6 v.2.2.2.2.2.2.1],.cells [i6 v.2.2.2.2.2.2.2.1,u6 v.2.2.2.2.2.2.2.2]]⟩
def q1qn (C:q1p6) (v:q1qh):Dt q1ql:=(Dt.ret (v.1,v.2.1,v.2.2.1,v.2.2.2.1,(decide (v.2.2.1 > (0:Int))),v.2.2.2.2.1,v.2.2.2.2.2.1,v.2.2.2.2.2.2.1,v.2.2.2.2.2.2.2))
theorem q1qo C v:q3fu (regO (qct f52) 12) false (an [4,7,8,11,12,13,69]) q1qi q1qn q1qm C v:=rgI (by kernel_rfl)
def q1qp (C:q1p6) (v:q1ql):Dt q1qh:=(Dt.ite (v.2.2.1 == (0:Int)) Dt.fail (Dt.ret (v.1,v.2.1,(Int.tmod v.2.2.2.1 v.2.2.1),v.2.2.1,v.2.2.2.2.2.1,v.2.2.2.2.2.2.1,v.2.2.2.2.2.2.2.1,v.2.2.2.2.2.2.2.2)))
theorem q1qq C v:q3fu (regO (qct f52) 13) true (an [4,7,8,11,12,13]) q1qm q1qp q1qi C v:=rgI (by kernel_rfl)
abbrev q1qr:Type:=Bool×Int×Int×Int×Int×Int×Int×Int
def q1qs (v:q1qr):St:=⟨[(4,.ptr 0 0),(7,.ptr 1 0),(8,.bool v.1),(11,u6 v.2.1),(13,u6 v.2.2.1),(14,u6 v.2.2.2.1)],[.cells [i6 v.2.2.2.2.1,i6 v.2.2.2.2.2.1],.cells [i6 v.2.2.2.2.2.2.1,u6 v.2.2.2.2.2.2.2]]⟩
def q1qt (C:q1p6) (v:q1ql):Dt q1qr:=(Dt.ite (v.2.2.2.1 == (0:Int)) Dt.fail (Dt.ret (v.1,v.2.1,v.2.2.2.1,(IntKind.wrap .u64 (Int.tdiv (IntKind.wrap .u64 v.2.2.2.2.2.2.2.1) v.2.2.2.1)),v.2.2.2.2.2.1,v.2.2.2.2.2.2.1,v.2.2.2.2.2.2.2.1,v.2.2.2.2.2.2.2.2)))
theorem q1qu C v:q3fu (regO (qct f52) 14) false (an [4,7,8,11,13,14]) q1qm q1qt q1qs C v:=rgI (by kernel_rfl)
abbrev q1qv:Type:=Bool×Int×Int×Int×Int×Int×Int
def q1qw (v:q1qv):St:=⟨[(4,.ptr 0 0),(8,.bool v.1),(11,u6 v.2.1),(13,u6 v.2.2.1),(14,u6 v.2.2.2.1),(15,u6 v.2.2.2.2.1)],[.cells [i6 v.2.2.2.2.2.1,i6 v.2.2.2.2.2.2]]⟩
def q1qx (C:q1p6) (v:q1qr):Dt q1qv:=(Dt.ite (v.2.2.1 == (0:Int)) Dt.fail (Dt.bnd (C.2.2.2.2.1 (((Int.tmod (IntKind.wrap .u64 v.2.2.2.2.2.2.1) v.2.2.1),()),(v.2.2.2.2.2.2.2,()),(v.2.2.1,()),())) fun r1=>(Dt.ret (v.1,v.2.1,v.2.2.1,v.2.2.2.1,r1.1,v.2.2.2.2.1,v.2.2.2.2.2.1))))
theorem q1qy C v:q3fu (regO (qct f52) 15) true (an [4,8,11,13,14,15]) q1qs q1qx q1qw C v:=rgI (by kernel_rfl)
abbrev q1qz:Type:=Bool×Int×Int×Int×Bool×Int×Int
def q1r0 (v:q1qz):St:=⟨[(4,.ptr 0 0),(8,.bool v.1),(11,u6 v.2.1),(13,u6 v.2.2.1),(15,u6 v.2.2.2.1),(96,.bool v.2.2.2.2.1)],[.cells [i6 v.2.2.2.2.2.1,i6 v.2.2.2.2.2.2]]⟩
def q1r1 (C:q1p6) (v:q1qv):Dt q1qz:=(Dt.ite (decide (v.2.2.2.1 > (0:Int))) (Dt.ret (v.1,v.2.1,v.2.2.1,v.2.2.2.2.1,true,v.2.2.2.2.2.1,v.2.2.2.2.2.2)) (Dt.ret (v.1,v.2.1,v.2.2.1,v.2.2.2.2.1,(decide (v.2.2.2.2.1 > (9223372036854775807:Int))),v.2.2.2.2.2.1,v.2.2.2.2.2.2)))
theorem q1r2 C v:q3fu (regO (qct f52) 16) false (an [4,8,11,13,15,96]) q1qw q1r1 q1r0 C v:=rgI (by kernel_rfl)
def q1r3 (C:q1p6) (v:q1qz):Dt q1pn:=(Dt.ret ((16:Int),(0:Int),(0:Int)))
theorem q1r4 C v:q3fu (regO (qct f52) 17) false (an [4,5]) q1r0 q1r3 q1po C v:=rgI (by kernel_rfl)
abbrev q1r5:Type:=Bool×Int×Int×Int×Int
def q1r6 (v:q1r5):St:=⟨[(4,.ptr 0 0),(8,.bool v.1),(17,.ptr 1 0)],[.cells [i6 v.2.1,i6 v.2.2.1],.cells [i6 v.2.2.2.1,i6 v.2.2.2.2]]⟩
def q1r7 (C:q1p6) (v:q1qz):Dt q1r5:=(Dt.ite (v.2.2.1 == (0:Int)) Dt.fail (Dt.ret (v.1,v.2.2.2.2.2.1,v.2.2.2.2.2.2,(IntKind.wrap .i64 v.2.2.2.1),(IntKind.wrap .i64 (IntKind.wrap .u64 (Int.tdiv v.2.1 v.2.2.1))))))
theorem q1r8 C v:q3fu (regO (qct f52) 18) false (an [4,8,17]) q1r0 q1r7 q1r6 C v:=rgI (by kernel_rfl)
abbrev q1r9:Type:=Bool×Int×Int×Int×Int
def q1ra (v:q1r9):St:=⟨[(4,.ptr 0 0),(17,.ptr 1 0),(105,.bool v.1)],[.cells [i6 v.2.1,i6 v.2.2.1],.cells [i6 v.2.2.2.1,i6 v.2.2.2.2]]⟩
def q1rb (C:q1p6) (v:q1r5):Dt q1r9:=(Dt.ret (v.1,v.2.1,v.2.2.1,v.2.2.2.1,v.2.2.2.2))
theorem q1rc C v:q3fu (regO (qct f52) 19) false (an [4,17,105]) q1r6 q1rb q1ra C v:=rgI (by kernel_rfl)
abbrev q1rd:Type:=Int×Int×Int×Int
def q1re (v:q1rd):St:=⟨[(4,.ptr 0 0),(17,.ptr 1 0)],[.cells [i6 v.1,i6 v.2.1],.cells [i6 v.2.2.1,i6 v.2.2.2]]⟩
def q1rf (C:q1p6) (v:q1r9):Dt q1rd:=(Dt.ret (v.2.1,v.2.2.1,(IntKind.wrap .i64 (0 - v.2.2.2.1)),v.2.2.2.2))
theorem q1rg C v:q3fu (regO (qct f52) 20) false (an [4,17]) q1ra q1rf q1re C v:=rgI (by kernel_rfl)
def q1rh (C:q1p6) (v:q1rd):Dt q1pn:=(Dt.ret ((0:Int),v.2.2.1,v.2.2.2))
theorem q1ri C v:q3fu (regO (qct f52) 21) false (an [4,5]) q1re q1rh q1po C v:=rgI (by kernel_rfl)
def q1rj  (d:Nat)  (z:Int×Int×Int×Int):Option (q1p3) :=
 (q1rh (q1p7 d) z).eval fun y21 =>
 some (y21.2.1,y21.2.2,y21.1)
def q1rk (d:Nat) (self2:(Bool×Int×Int×Int×Int×Int×Int×Int)→Option q1p3) (x2:Bool×Int×Int×Int×Int×Int×Int×Int):Option q1p3 :=
 (q1qn (q1p7 d) x2).eval fun y12 =>
 bif y12.2.2.2.2.1 then ((q1qp (q1p7 d) y12).eval fun y13 =>
 self2 y13) else ((q1qt (q1p7 d) y12).eval fun y14 =>
 (q1qx (q1p7 d) y14).eval fun y15 =>
 (q1r1 (q1p7 d) y15).eval fun y16 =>
 bif y16.2.2.2.2.1 then ((q1r3 (q1p7 d) y16).eval fun y17 =>
 some (y17.2.1,y17.2.2,y17.1)) else ((q1r7 (q1p7 d) y16).eval fun y18 =>
 (q1rb (q1p7 d) y18).eval fun y19 =>
 bif y19.1 then ((q1rf (q1p7 d) y19).eval fun y20 =>
 q1rj d  y20) else (q1rj d  y19.2)))
def q1rl  (d:Nat)  (z:Bool×Int×Int×Int×Int×Int×Int):Option (q1p3) :=
 (q1qb (q1p7 d) z).eval fun y9 =>
 (q1qf (q1p7 d) y9).eval fun y10 =>
 (q1qj (q1p7 d) y10).eval fun y11 =>
 iter (q1rk d ) d y11
def q1rm (d:Nat) (x:q1p2):Option q1p3 :=
 (q1pd (q1p7 d) (x.1.1,x.1.2.1,x.1.2.2.1,x.2.1.1,x.2.1.2.1)).eval fun y0 =>
 (q1ph (q1p7 d) y0).eval fun y1 =>
 (q1pl (q1p7 d) y1).eval fun y2 =>
 bif y2.2.1 then ((q1pp (q1p7 d) y2).eval fun y3 =>
 some (y3.2.1,y3.2.2,y3.1)) else ((q1pt (q1p7 d) y2).eval fun y4 =>
 (q1px (q1p7 d) y4).eval fun y5 =>
 (q1q1 (q1p7 d) y5).eval fun y6 =>
 bif y6.2.1 then ((q1q5 (q1p7 d) y6).eval fun y7 =>
 (q1q7 (q1p7 d) y7).eval fun y8 =>
 q1rl d  y8) else (q1rl d  (y6.1,y6.2.2.1,y6.2.2.2.1,y6.2.2.2.2.1,y6.2.2.2.2.2.1,y6.2.2.2.2.2.2.1,y6.2.2.2.2.2.2.2)))
theorem q1rn (d:Nat):COK prog (q1p5 (q1rm d)):=by
 have hm:prog.follows .mixedOrders=true:=mixed
 have hT:=tys
 have hC0:OrcOK prog (orc (q1p8 (q1p7 d))):=qcn (by
  intro S hS
  simp only [q1p8,List.mem_cons,List.not_mem_nil,or_false] at hS
  rcases hS with rfl | rfl | rfl | rfl | rfl
  · exact qnx d
  · exact qmx d
  · exact q1ir d
  · exact q1ii d
  · exact q1hw d)
 have hC:OrcOK prog (orcI 106 q1cu (orc (q1p8 (q1p7 d)))):=(q1cv q1cz hC0)
 refine q8c (c:=qct f52) (fn:=f52) hT (by kernel_rfl) (by kernel_rfl) (by decide) fun x r h w0 φ0 Q hend=>?_
 replace h:q1rm d x=some r:=h
 unfold q1rm at h
 show Run prog w0 φ0 111 (qct f52) ⟨[(0,.agg [.int .i64 x.1.1,.int .i64 x.1.2.1,.int .i64 x.1.2.2.1]),(1,.agg [.int .i64 x.2.1.1,.int .i64 x.2.1.2.1])],[]⟩ Q
 refine q3f2 hm hT hC (q1pe (q1p7 d) (x.1.1,x.1.2.1,x.1.2.2.1,x.2.1.1,x.2.1.2.1)) h fun y0 h=>?_
 refine q7w ?_
 refine q3f2 hm hT hC (q1pi (q1p7 d) y0) h fun y1 h=>?_
 refine q3f2 hm hT hC (q1pm (q1p7 d) y1) h fun y2 h=>?_
 refine q80 (v:=y2.2.1) (by kernel_rfl) h ?_ ?_
 ·
  intro h
  refine q3f2 hm hT hC (q1pq (q1p7 d) y2) h fun y3 h=>?_
  refine q7v (q7k ?_)
  cases h
  exact (hend _ (by kernel_rfl)).2
 ·
  intro h
  refine q7s (q7i ?_)
  refine q3f2 hm hT hC (q1pu (q1p7 d) y2) h fun y4 h=>?_
  refine q3f2 hm hT hC (q1py (q1p7 d) y4) h fun y5 h=>?_
  refine q7z (r:=r) (F:=q1rl d ) (S:=(fun z=>⟨[(3,.ptr 0 0),(4,.ptr 1 0),(7,.ptr 2 0),(8,.bool z.1)],[.cells [i6 z.2.1,i6 z.2.2.1],.cells [i6 z.2.2.2.1,i6 z.2.2.2.2.1],.cells [i6 z.2.2.2.2.2.1,u6 z.2.2.2.2.2.2]]⟩:q1m8→St)) ?_ ?_
  ·
   intro z h
   unfold q1rl at h
   refine q3f2 hm hT hC (q1qc (q1p7 d) z) h fun y9 h=>?_
   refine q3f2 hm hT hC (q1qg (q1p7 d) y9) h fun y10 h=>?_
   refine q3f2 hm hT hC (q1qk (q1p7 d) y10) h fun y11 h=>?_
   refine q7w (q7x ?_)
   refine q82 (G:=iter (q1rk d )) (S:=(fun x2=>⟨[(4,.ptr 0 0),(7,.ptr 1 0),(8,.bool x2.1),(11,u6 x2.2.1),(12,u6 x2.2.2.1),(13,u6 x2.2.2.2.1)],[.cells [i6 x2.2.2.2.2.1,i6 x2.2.2.2.2.2.1],.cells [i6 x2.2.2.2.2.2.2.1,u6 x2.2.2.2.2.2.2.2]]⟩:q1qh→St)) (fun _=>rfl) ?_ d _ h
   intro n2 x2 h K2 hn2
   replace h:q1rk d  (iter (q1rk d ) n2) x2=some r:=h
   generalize iter (q1rk d ) n2=self2 at h hn2
   unfold q1rk at h
   refine q7w ?_
   refine q3f2 hm hT hC (q1qo (q1p7 d) x2) h fun y12 h=>?_
   refine q80 (v:=y12.2.2.2.2.1) (by kernel_rfl) h ?_ ?_
   ·
    intro h
    refine q7s (q7i (q7x ?_))
    refine q81 hm hT hC (q1qq (q1p7 d) y12) h ?_
    intro y13 h
    refine q7l ?_
    exact hn2 _ h
   ·
    intro h
    refine q7u (q7j (q7j (q7n (q7i ?_))))
    refine q3f2 hm hT hC (q1qu (q1p7 d) y12) h fun y14 h=>?_
    refine q3f2 hm hT hC (q1qy (q1p7 d) y14) h fun y15 h=>?_
    refine q7w ?_
    refine q3f2 hm hT hC (q1r2 (q1p7 d) y15) h fun y16 h=>?_
    refine q80 (v:=y16.2.2.2.2.1) (by kernel_rfl) h ?_ ?_
    ·
     intro h
     refine q3f2 hm hT hC (q1r4 (q1p7 d) y16) h fun y17 h=>?_
     refine q7v (q7k ?_)
     cases h
     exact (hend _ (by kernel_rfl)).2
    ·
     intro h
     refine q7s (q7i ?_)
     refine q3f2 hm hT hC (q1r8 (q1p7 d) y16) h fun y18 h=>?_
     refine q7z (r:=r) (F:=q1rj d ) (S:=(fun z=>⟨[(4,.ptr 0 0),(17,.ptr 1 0)],[.cells [i6 z.1,i6 z.2.1],.cells [i6 z.2.2.1,i6 z.2.2.2]]⟩:q1mg→St)) ?_ ?_
     ·
      intro z h
      unfold q1rj at h
      refine q3f2 hm hT hC (q1ri (q1p7 d) z) h fun y21 h=>?_
      refine q7v ?_
      cases h
      exact (hend _ (by kernel_rfl)).2
     intro hj3
     refine q3f2 hm hT hC (q1rc (q1p7 d) y18) h fun y19 h=>?_
     refine q80 (v:=y19.1) (by kernel_rfl) h ?_ ?_
     ·
      intro h
      refine q81 hm hT hC (q1rg (q1p7 d) y19) h ?_
      intro y20 h
      exact hj3 _ h
     ·
      intro h
      refine q7s ?_
      refine qcs (s:=⟨[(4,.ptr 0 0),(17,.ptr 1 0)],[.cells [.int .i64 y19.2.1,.int .i64 y19.2.2.1],.cells [.int .i64 y19.2.2.2.1,.int .i64 y19.2.2.2.2]]⟩) [105] (by kernel_rfl) ?_
      exact hj3 _ h
  intro hj1
  refine q3f2 hm hT hC (q1q2 (q1p7 d) y5) h fun y6 h=>?_
  refine q80 (v:=y6.2.1) (by kernel_rfl) h ?_ ?_
  ·
   intro h
   refine q3f2 hm hT hC (q1q6 (q1p7 d) y6) h fun y7 h=>?_
   refine q81 hm hT hC (q1q8 (q1p7 d) y7) h ?_
   intro y8 h
   exact hj1 _ h
  ·
   intro h
   refine q7s ?_
   refine qcs (s:=⟨[(3,.ptr 0 0),(4,.ptr 1 0),(7,.ptr 2 0),(8,.bool y6.1)],[.cells [.int .i64 y6.2.2.1,.int .i64 y6.2.2.2.1],.cells [.int .i64 y6.2.2.2.2.1,.int .i64 y6.2.2.2.2.2.1],.cells [.int .i64 y6.2.2.2.2.2.2.1,.int .u64 y6.2.2.2.2.2.2.2]]⟩) [42] (by kernel_rfl) ?_
   exact hj1 _ h
abbrev q1ro:List Pk:=[.row Rii true,.row Rii true]
abbrev q1rp:Type:=Dii×Dii×Unit
abbrev q1rq:Type:=Int
def q1rr (r:q1rq):LV×List Ob:=(.int .i64 r,[])
def q1rs (F:q1rp→Option q1rq):Go.Tx.Spec:=⟨48,q1ro,q1rq,F,q1rr⟩
abbrev q1rt:Type:=(qmz→Option qn0)×Unit
def q1ru (d:Nat):q1rt:=(qn4 d,())
def q1rv (C:q1rt):List Go.Tx.Spec:=[qn2 C.1]
abbrev q1rw:Type:=Int×Int×Int×Int
def q1rx (v:q1rw):St:=⟨[(0,.agg [i6 v.1,i6 v.2.1]),(1,.agg [i6 v.2.2.1,i6 v.2.2.2])],[]⟩
abbrev q1ry:Type:=Int×Int×Int×Int
def q1rz (v:q1ry):St:=⟨[(2,.ptr 0 0),(3,.ptr 1 0)],[.cells [i6 v.1,i6 v.2.1],.cells [i6 v.2.2.1,i6 v.2.2.2]]⟩
def q1s0 (C:q1rt) (v:q1rw):Dt q1ry:=(Dt.ret (v.1,v.2.1,v.2.2.1,v.2.2.2))
abbrev q3fv {V Y:Type}:=@rg q1rt V Y tysT (fun C=>(orc (q1rv C))) 12
theorem q1s1 C v:q3fv (regO (qct f48) 0) false (an [2,3]) q1rx q1s0 q1rz C v:=rgI (by kernel_rfl)
abbrev q1s2:Type:=Bool×Int×Int×Int×Int
def q1s3 (v:q1s2):St:=⟨[(2,.ptr 0 0),(3,.ptr 1 0),(7,.bool v.1)],[.cells [i6 v.2.1,i6 v.2.2.1],.cells [i6 v.2.2.2.1,i6 v.2.2.2.2]]⟩
def q1s4 (C:q1rt) (v:q1ry):Dt q1s2:=(Dt.bnd (C.1 ((v.1,v.2.1,()),())) fun r1=>(Dt.ret ((r1 != (0:Int)),v.1,v.2.1,v.2.2.1,v.2.2.2)))
theorem q1s5 C v:q3fv (regO (qct f48) 1) false (an [2,3,7]) q1rz q1s4 q1s3 C v:=rgI (by kernel_rfl)
abbrev q1s6:Type:=Int
def q1s7 (v:q1s6):St:=⟨[(4,i6 v)],[]⟩
def q1s8 (C:q1rt) (v:q1s2):Dt q1s6:=(Dt.bnd (C.1 ((v.2.1,v.2.2.1,()),())) fun r1=>(Dt.ret r1))
theorem q1s9 C v:q3fv (regO (qct f48) 2) false [(4,.any)] q1s3 q1s8 q1s7 C v:=rgI (by kernel_rfl)
def q1sa (C:q1rt) (v:q1s2):Dt q1s6:=(Dt.bnd (C.1 ((v.2.2.2.1,v.2.2.2.2,()),())) fun r1=>(Dt.ret r1))
theorem q1sb C v:q3fv (regO (qct f48) 3) false [(4,.any)] q1s3 q1sa q1s7 C v:=rgI (by kernel_rfl)
def q1sc (d:Nat) (x:q1rp):Option q1rq :=
 (q1s0 (q1ru d) (x.1.1,x.1.2.1,x.2.1.1,x.2.1.2.1)).eval fun y0 =>
 (q1s4 (q1ru d) y0).eval fun y1 =>
 bif y1.1 then ((q1s8 (q1ru d) y1).eval fun y2 =>
 some y2) else ((q1sa (q1ru d) y1).eval fun y3 =>
 some y3)
theorem q1sd (d:Nat):COK prog (q1rs (q1sc d)):=by
 have hm:prog.follows .mixedOrders=true:=mixed
 have hT:=tys
 have hC0:OrcOK prog (orc (q1rv (q1ru d))):=qcn (by
  intro S hS
  simp only [q1rv,List.mem_cons,List.not_mem_nil,or_false] at hS
  subst hS;exact qn6 d)
 have hC:OrcOK prog (orc (q1rv (q1ru d))):=hC0
 refine q8c (c:=qct f48) (fn:=f48) hT (by kernel_rfl) (by kernel_rfl) (by decide) fun x r h w0 φ0 Q hend=>?_
 replace h:q1sc d x=some r:=h
 unfold q1sc at h
 show Run prog w0 φ0 12 (qct f48) ⟨[(0,.agg [.int .i64 x.1.1,.int .i64 x.1.2.1]),(1,.agg [.int .i64 x.2.1.1,.int .i64 x.2.1.2.1])],[]⟩ Q
 refine q3f2 hm hT hC (q1s1 (q1ru d) (x.1.1,x.1.2.1,x.2.1.1,x.2.1.2.1)) h fun y0 h=>?_
 refine q7w ?_
 refine q3f2 hm hT hC (q1s5 (q1ru d) y0) h fun y1 h=>?_
 refine q80 (v:=y1.1) (by kernel_rfl) h ?_ ?_
 ·
  intro h
  refine q3f2 hm hT hC (q1s9 (q1ru d) y1) h fun y2 h=>?_
  refine q7v (q7k ?_)
  cases h
  exact (hend _ (by kernel_rfl)).2
 ·
  intro h
  refine q7s (q7i ?_)
  refine q3f2 hm hT hC (q1sb (q1ru d) y1) h fun y3 h=>?_
  refine q7v ?_
  cases h
  exact (hend _ (by kernel_rfl)).2
abbrev q1t3:List Pk:=[.row Rbuu true,.row Rbuu true]
abbrev q1t4:Type:=Dbuu×Dbuu×Unit
abbrev q1t5:Type:=Int
def q1t6 (r:q1t5):LV×List Ob:=(.int .i64 r,[])
def q1t7 (F:q1t4→Option q1t5):Go.Tx.Spec:=⟨91,q1t3,q1t5,F,q1t6⟩
abbrev q1t8:Type:=Unit
def q1t9 (_d:Nat):q1t8:=()
def q1ta (C:q1t8):List Go.Tx.Spec:=[]
abbrev q1tb:Type:=Bool×Int×Int×Bool×Int×Int
def q1tc (v:q1tb):St:=⟨[(0,.agg [.bool v.1,u6 v.2.1,u6 v.2.2.1]),(1,.agg [.bool v.2.2.2.1,u6 v.2.2.2.2.1,u6 v.2.2.2.2.2])],[]⟩
abbrev q1td:Type:=Bool×Int×Int×Bool×Int×Int
def q1te (v:q1td):St:=⟨[(2,.ptr 0 0),(3,.ptr 1 0)],[.cells [.bool v.1,u6 v.2.1,u6 v.2.2.1],.cells [.bool v.2.2.2.1,u6 v.2.2.2.2.1,u6 v.2.2.2.2.2]]⟩
def q1tf (C:q1t8) (v:q1tb):Dt q1td:=(Dt.ret (v.1,v.2.1,v.2.2.1,v.2.2.2.1,v.2.2.2.2.1,v.2.2.2.2.2))
abbrev q3fx {V Y:Type}:=@rg q1t8 V Y tysT (fun C=>(orc (q1ta C))) 25
theorem q1tg C v:q3fx (regO (qct f91) 0) false (an [2,3]) q1tc q1tf q1te C v:=rgI (by kernel_rfl)
abbrev q1th:Type:=Bool×Bool×Int×Int×Bool×Int×Int
def q1ti (v:q1th):St:=⟨[(2,.ptr 0 0),(3,.ptr 1 0),(9,.bool v.1)],[.cells [.bool v.2.1,u6 v.2.2.1,u6 v.2.2.2.1],.cells [.bool v.2.2.2.2.1,u6 v.2.2.2.2.2.1,u6 v.2.2.2.2.2.2]]⟩
def q1tj (C:q1t8) (v:q1td):Dt q1th:=(Dt.ret ((v.2.1 != v.2.2.2.2.1),v.1,v.2.1,v.2.2.1,v.2.2.2.1,v.2.2.2.2.1,v.2.2.2.2.2))
theorem q1tk C v:q3fx (regO (qct f91) 1) false (an [2,3,9]) q1te q1tj q1ti C v:=rgI (by kernel_rfl)
abbrev q1tl:Type:=Bool
def q1tm (v:q1tl):St:=⟨[(14,.bool v)],[]⟩
def q1tn (C:q1t8) (v:q1th):Dt q1tl:=(Dt.ret (decide (v.2.2.1<v.2.2.2.2.2.1)))
theorem q1to C v:q3fx (regO (qct f91) 2) false [(14,.any)] q1ti q1tn q1tm C v:=rgI (by kernel_rfl)
abbrev q1tp:Type:=Int
def q1tq (v:q1tp):St:=⟨[(4,i6 v)],[]⟩
def q1tr (C:q1t8) (v:q1tl):Dt q1tp:=(Dt.ret (-1:Int))
theorem q1ts C v:q3fx (regO (qct f91) 3) false [(4,.any)] q1tm q1tr q1tq C v:=rgI (by kernel_rfl)
def q1tt (C:q1t8) (v:q1tl):Dt q1tp:=(Dt.ret (1:Int))
theorem q1tu C v:q3fx (regO (qct f91) 4) false [(4,.any)] q1tm q1tt q1tq C v:=rgI (by kernel_rfl)
abbrev q1tv:Type:=Bool×Bool×Int×Int×Bool×Int×Int
def q1tw (v:q1tv):St:=⟨[(2,.ptr 0 0),(3,.ptr 1 0),(19,.bool v.1)],[.cells [.bool v.2.1,u6 v.2.2.1,u6 v.2.2.2.1],.cells [.bool v.2.2.2.2.1,u6 v.2.2.2.2.2.1,u6 v.2.2.2.2.2.2]]⟩
def q1tx (C:q1t8) (v:q1th):Dt q1tv:=(Dt.ret ((v.2.2.2.1 != v.2.2.2.2.2.2),v.2.1,v.2.2.1,v.2.2.2.1,v.2.2.2.2.1,v.2.2.2.2.2.1,v.2.2.2.2.2.2))
theorem q1ty C v:q3fx (regO (qct f91) 5) false (an [2,3,19]) q1ti q1tx q1tw C v:=rgI (by kernel_rfl)
abbrev q1tz:Type:=Bool
def q1u0 (v:q1tz):St:=⟨[(24,.bool v)],[]⟩
def q1u1 (C:q1t8) (v:q1tv):Dt q1tz:=(Dt.ret (decide (v.2.2.2.1<v.2.2.2.2.2.2)))
theorem q1u2 C v:q3fx (regO (qct f91) 6) false [(24,.any)] q1tw q1u1 q1u0 C v:=rgI (by kernel_rfl)
def q1u3 (C:q1t8) (v:q1tz):Dt q1tp:=(Dt.ret (-1:Int))
theorem q1u4 C v:q3fx (regO (qct f91) 7) false [(4,.any)] q1u0 q1u3 q1tq C v:=rgI (by kernel_rfl)
def q1u5 (C:q1t8) (v:q1tz):Dt q1tp:=(Dt.ret (1:Int))
theorem q1u6 C v:q3fx (regO (qct f91) 8) false [(4,.any)] q1u0 q1u5 q1tq C v:=rgI (by kernel_rfl)
def q1u7 (C:q1t8) (v:q1tv):Dt q1tp:=(Dt.ret (0:Int))
theorem q1u8 C v:q3fx (regO (qct f91) 9) false [(4,.any)] q1tw q1u7 q1tq C v:=rgI (by kernel_rfl)
def q1u9 (d:Nat) (x:q1t4):Option q1t5 :=
 (q1tf (q1t9 d) (x.1.1,x.1.2.1,x.1.2.2.1,x.2.1.1,x.2.1.2.1,x.2.1.2.2.1)).eval fun y0 =>
 (q1tj (q1t9 d) y0).eval fun y1 =>
 bif y1.1 then ((q1tn (q1t9 d) y1).eval fun y2 =>
 bif y2 then ((q1tr (q1t9 d) y2).eval fun y3 =>
 some y3) else ((q1tt (q1t9 d) y2).eval fun y4 =>
 some y4)) else ((q1tx (q1t9 d) y1).eval fun y5 =>
 bif y5.1 then ((q1u1 (q1t9 d) y5).eval fun y6 =>
 bif y6 then ((q1u3 (q1t9 d) y6).eval fun y7 =>
 some y7) else ((q1u5 (q1t9 d) y6).eval fun y8 =>
 some y8)) else ((q1u7 (q1t9 d) y5).eval fun y9 =>
 some y9))
theorem q1ua (d:Nat):COK prog (q1t7 (q1u9 d)):=by
 have hm:prog.follows .mixedOrders=true:=mixed
 have hT:=tys
 have hC0:OrcOK prog (orc (q1ta (q1t9 d))):=qcn (by
  intro S hS
  simp only [q1ta,List.mem_cons,List.not_mem_nil,or_false] at hS
  all_goals first | cases hS | exact hS.elim)
 have hC:OrcOK prog (orc (q1ta (q1t9 d))):=hC0
 refine q8c (c:=qct f91) (fn:=f91) hT (by kernel_rfl) (by kernel_rfl) (by decide) fun x r h w0 φ0 Q hend=>?_
 replace h:q1u9 d x=some r:=h
 unfold q1u9 at h
 show Run prog w0 φ0 25 (qct f91) ⟨[(0,.agg [.bool x.1.1,.int .u64 x.1.2.1,.int .u64 x.1.2.2.1]),(1,.agg [.bool x.2.1.1,.int .u64 x.2.1.2.1,.int .u64 x.2.1.2.2.1])],[]⟩ Q
 refine q3f2 hm hT hC (q1tg (q1t9 d) (x.1.1,x.1.2.1,x.1.2.2.1,x.2.1.1,x.2.1.2.1,x.2.1.2.2.1)) h fun y0 h=>?_
 refine q7w ?_
 refine q3f2 hm hT hC (q1tk (q1t9 d) y0) h fun y1 h=>?_
 refine q80 (v:=y1.1) (by kernel_rfl) h ?_ ?_
 ·
  intro h
  refine q7w ?_
  refine q3f2 hm hT hC (q1to (q1t9 d) y1) h fun y2 h=>?_
  refine q80 (v:=y2) (by kernel_rfl) h ?_ ?_
  ·
   intro h
   refine q3f2 hm hT hC (q1ts (q1t9 d) y2) h fun y3 h=>?_
   refine q7v (q7k (q7k ?_))
   cases h
   exact (hend _ (by kernel_rfl)).2
  ·
   intro h
   refine q7s (q7i ?_)
   refine q3f2 hm hT hC (q1tu (q1t9 d) y2) h fun y4 h=>?_
   refine q7v (q7k ?_)
   cases h
   exact (hend _ (by kernel_rfl)).2
 ·
  intro h
  refine q7s (q7i (q7w ?_))
  refine q3f2 hm hT hC (q1ty (q1t9 d) y1) h fun y5 h=>?_
  refine q80 (v:=y5.1) (by kernel_rfl) h ?_ ?_
  ·
   intro h
   refine q7w ?_
   refine q3f2 hm hT hC (q1u2 (q1t9 d) y5) h fun y6 h=>?_
   refine q80 (v:=y6) (by kernel_rfl) h ?_ ?_
   ·
    intro h
    refine q3f2 hm hT hC (q1u4 (q1t9 d) y6) h fun y7 h=>?_
    refine q7v (q7k (q7k ?_))
    cases h
    exact (hend _ (by kernel_rfl)).2
   ·
    intro h
    refine q7s (q7i ?_)
    refine q3f2 hm hT hC (q1u6 (q1t9 d) y6) h fun y8 h=>?_
    refine q7v (q7k ?_)
    cases h
    exact (hend _ (by kernel_rfl)).2
  ·
   intro h
   refine q7s (q7i ?_)
   refine q3f2 hm hT hC (q1u8 (q1t9 d) y5) h fun y9 h=>?_
   refine q7v ?_
   cases h
   exact (hend _ (by kernel_rfl)).2
end Go.Proofs.YtpfhgnccpiildaaGreat

namespace Go.Proofs.YtpfhgnccpiildaaGreat
open Go.RowKit Go.Pel Go.IntWalk
theorem q266 (l:List Pt) (k:Nat) (p:Pt) (hk:k≤l.length):(l.take k++p :: l.drop k).length=l.length+1:=by
  simp only [List.length_append,List.length_take,List.length_cons,List.length_drop];omega
theorem q267 {A:Option Addr} {c:Nat} {l:List Pt} {k:Nat} {p:Pt} {g B:Nat} {W0 W W1 W2:World} (hown:Own W1 B 79 3 A l.length c (vp l)) (h1:Bel W1 W) (h0:Bel W0 W) (hB:W0.heap.size≤B)
    (h2:Bel (W2.alloc (.cells #[.int .i64 p.id,.int .i64 p.a,.int .i64 p.b] 79)) W) (hg:g=W2.heap.size) (hne:g<B∨W1.heap.size≤g) (hl:l.length≤1000000) (hk:k≤l.length) :
    Calls Tryz.prog 100 #[.slice A l.length c,.int .i64 k,.slice (some ⟨g,0,none⟩) 1 1] W fun e w'=>∃ A' c',e=.returned (.slice A' (l.length+1) c')∧∃ y,w'=ext W0 y∧Own (ext W0 y) W0.heap.size 79 3 A' (l.length+1) c' (vp (l.take k++p :: l.drop k)):=by
  have hv:=(qeu W2 #[.int .i64 p.id,.int .i64 p.a,.int .i64 p.b] 79 3 g hg rfl).bel h2
  subst hg
  have hhp:W.heap[W2.heap.size]?=some (.cells #[.int .i64 p.id,.int .i64 p.a,.int .i64 p.b] 79 (0,0)):=by
    rw [h2.block _ (by simp)];unfold World.alloc;exact Array.getElem?_push_size
  refine qqr A c l k p W2.heap.size 1 W0 W h0 ((hown.bel h1).base_le hB) hv hl hk ?_ (by simp [World.shape?,hhp]) (by intro j;simp [World.frozen?,hhp])
  rintro rfl
  rcases hown.row with ⟨h,_⟩ | ⟨g',cur,h,hr,_⟩
  · cases h
  · have e1 : W2.heap.size = g' := by injection h with h; injection h
    have:=hr.lt;have:=hr.1
    omega
theorem q268 {A:Option Addr} {c:Nat} {l:List Pt} {k:Nat} {p:Pt} {g B:Nat} {W0 W2 W1:World} (hown:Own W1 B 79 3 A l.length c (vp l)) (h1:Bel W1 W2) (h0:Bel W0 W2) (hB:W0.heap.size≤B) (hg:g=W2.heap.size) (hl:l.length≤1000000) (hk:k≤l.length) :
    Calls Tryz.prog 100 #[.slice A l.length c,.int .i64 k,.slice (some ⟨g,0,none⟩) 1 1] (W2.alloc (.cells #[.int .i64 p.id,.int .i64 p.a,.int .i64 p.b] 79)) fun e w'=>∃ A' c',e=.returned (.slice A' (l.length+1) c')∧∃ y,w'=ext W0 y∧Own (ext W0 y) W0.heap.size 79 3 A' (l.length+1) c' (vp (l.take k++p :: l.drop k)) :=
  q267 hown (h1.alloc _) (h0.alloc _) hB (Bel.refl _) hg (.inr (by rw [hg];exact h1.le)) hl hk
theorem q269 {A:Option Addr} {c:Nat} {l:List Pt} {k:Nat} {p:Pt} {g B:Nat} {W0 W2:World} {x:Beyond} (hown:Own (ext (W2.alloc (.cells #[.int .i64 p.id,.int .i64 p.a,.int .i64 p.b] 79)) x) B 79 3 A l.length c (vp l)) (h0:Bel W0 W2) (hB:B=W2.heap.size+1) (hg:g=W2.heap.size) (hl:l.length≤1000000) (hk:k≤l.length) :
    Calls Tryz.prog 100 #[.slice A l.length c,.int .i64 k,.slice (some ⟨g,0,none⟩) 1 1] (ext (W2.alloc (.cells #[.int .i64 p.id,.int .i64 p.a,.int .i64 p.b] 79)) x) fun e w'=>∃ A' c',e=.returned (.slice A' (l.length+1) c')∧∃ y,w'=ext W0 y∧Own (ext W0 y) W0.heap.size 79 3 A' (l.length+1) c' (vp (l.take k++p :: l.drop k)) :=
  q267 hown (Bel.refl _) ((h0.alloc _).ext _) (by have:=h0.le;omega) (q8h _ _) hg (.inl (by omega)) hl hk
set_option maxRecDepth 10000 in
set_option maxHeartbeats 2000000 in
theorem q26a (A:Option Addr) (c:Nat) (l:List Pt) (p:Pt) (w:World) (hs:Sl w 3 A l.length c (vp l)) (hn:A=none→c=0) :
    Calls Tryz.prog 49 #[.agg #[.slice A l.length c],.agg #[.int .i64 p.id,.int .i64 p.a,.int .i64 p.b]] w fun e w'=>∃ A' c',e=.returned (.tuple #[.agg #[.slice A' (qgg l p).1.length c'],.int .i64 (qgg l p).2])∧∃ x,w'=ext w x∧Own (ext w x) w.heap.size 79 3 A' (qgg l p).1.length c' (vp (qgg l p).1):=by
  have q:=Lib.hid (fun W hb=>qlb A c l W (hs.bel (w':=W) hb))
  by_cases h:qfx l=0
  · rw [h] at q
    obtain ⟨h64,hchk,hinc⟩:=qg2 h
    have q2:=Lib.hid (fun W hb=>qqj A c l p.id W (hs.bel (w':=W) hb) (by omega) hinc)
    rcases qg5 p with hp | hp
    · have e1 := Lib.hid (ql9 p 0 hp)
      cases hb:hasB l p.id with
      | true =>
        have HF:Hid (qgg l p=([],14)):=Lib.hid (by simp [qgg,h,hp,hb])
        rw [hb] at q2
        rw [HF.out]
        clear h hp hb hinc hchk
        go_enter Tryz.func49,Tryz.ntmps49
        go_wp2_with (first | (go_at_call 97;refine (q.out _ (by (try simp only [qbh]);repeat (first | exact Bel.refl _ | assumption | refine qbq ?_ _ | refine qbr ?_ _ | refine Bel.ext ?_ _ | refine Bel.alloc ?_ _ | refine Bel.drewN ?_ _))).mono ?_;rintro e _ ⟨rfl,nx,rfl⟩) | (go_at_call 98;refine (e1.out _).mono ?_;rintro e _ ⟨rfl,nx,rfl⟩) | (go_at_call 99;refine (q2.out _ (by (try simp only [qbh]);repeat (first | exact Bel.refl _ | assumption | refine qbq ?_ _ | refine qbr ?_ _ | refine Bel.ext ?_ _ | refine Bel.alloc ?_ _ | refine Bel.drewN ?_ _))).mono ?_;rintro e _ ⟨rfl,nx,rfl⟩))
        (refine bodyPost_ret (v:=.tuple #[.agg #[.slice none 0 0],.int .i64 (14)]) (by simp [results,Tryz.results49,go_sem]) rfl ?_;exact ⟨_,_,rfl,qfm (by (try simp only [qbh]);repeat (first | exact Bel.refl _ | assumption | refine qbq ?_ _ | refine qbr ?_ _ | refine Bel.ext ?_ _ | refine Bel.alloc ?_ _ | refine Bel.drewN ?_ _))⟩)
      | false =>
        rw [hb] at q2
        by_cases h0:l.length=64
        · have HF : Hid (qgg l p = ([], 18)) := Lib.hid (by simp [qgg, h, hp, hb, h0])
          rw [HF.out]
          have h0':((l.length:Int) == 64)=true:=by rw [beq_iff_eq];omega
          clear h hp hb hinc hchk h0
          go_enter Tryz.func49,Tryz.ntmps49
          go_wp2_with (first | (go_at_call 97;refine (q.out _ (by (try simp only [qbh]);repeat (first | exact Bel.refl _ | assumption | refine qbq ?_ _ | refine qbr ?_ _ | refine Bel.ext ?_ _ | refine Bel.alloc ?_ _ | refine Bel.drewN ?_ _))).mono ?_;rintro e _ ⟨rfl,nx,rfl⟩) | (go_at_call 98;refine (e1.out _).mono ?_;rintro e _ ⟨rfl,nx,rfl⟩) | (go_at_call 99;refine (q2.out _ (by (try simp only [qbh]);repeat (first | exact Bel.refl _ | assumption | refine qbq ?_ _ | refine qbr ?_ _ | refine Bel.ext ?_ _ | refine Bel.alloc ?_ _ | refine Bel.drewN ?_ _))).mono ?_;rintro e _ ⟨rfl,nx,rfl⟩))
          (refine bodyPost_ret (v:=.tuple #[.agg #[.slice none 0 0],.int .i64 (18)]) (by simp [results,Tryz.results49,go_sem]) rfl ?_;exact ⟨_,_,rfl,qfm (by (try simp only [qbh]);repeat (first | exact Bel.refl _ | assumption | refine qbq ?_ _ | refine qbr ?_ _ | refine Bel.ext ?_ _ | refine Bel.alloc ?_ _ | refine Bel.drewN ?_ _))⟩)
        · have hk := qg6 l p.id
          have HF:Hid (qgg l p=(l.take (lowB l p.id)++p :: l.drop (lowB l p.id),0)):=Lib.hid (by simp [qgg,h,hp,hb,h0])
          rw [HF.out]
          simp only [q266 l _ p hk]
          obtain ⟨k,hkk⟩:∃ k,lowB l p.id=k:=⟨_,rfl⟩
          rw [hkk] at q2 hk ⊢
          have h0':((l.length:Int) == 64)=false:=by rw [beq_eq_false_iff_ne];omega
          have q3:=Lib.hid (fun W hb=>qql A c l W (hs.bel (w':=W) hb) hn (by omega))
          clear h hp hb hinc hchk h0 hkk HF
          go_enter Tryz.func49,Tryz.ntmps49
          go_wp2_with (first | (go_at_call 97;refine (q.out _ (by (try simp only [qbh]);repeat (first | exact Bel.refl _ | assumption | refine qbq ?_ _ | refine qbr ?_ _ | refine Bel.ext ?_ _ | refine Bel.alloc ?_ _ | refine Bel.drewN ?_ _))).mono ?_;rintro e _ ⟨rfl,nx,rfl⟩) | (go_at_call 98;refine (e1.out _).mono ?_;rintro e _ ⟨rfl,nx,rfl⟩) | (go_at_call 99;refine (q2.out _ (by (try simp only [qbh]);repeat (first | exact Bel.refl _ | assumption | refine qbq ?_ _ | refine qbr ?_ _ | refine Bel.ext ?_ _ | refine Bel.alloc ?_ _ | refine Bel.drewN ?_ _))).mono ?_;rintro e _ ⟨rfl,nx,rfl⟩))
          obtain ⟨W0,hW0⟩:∃ W0,W0=((w.alloc (.cells #[.slice A l.length c] 24)).alloc (.cells #[.int .i64 p.id,.int .i64 p.a,.int .i64 p.b] 79)).alloc (.cells #[.slice none 0 0] 24):=⟨_,rfl⟩
          have hb0:Bel w W0:=by rw [hW0];exact (by (try simp only [qbh]);repeat (first | exact Bel.refl _ | assumption | refine qbq ?_ _ | refine qbr ?_ _ | refine Bel.ext ?_ _ | refine Bel.alloc ?_ _ | refine Bel.drewN ?_ _))
          have z0:w.heap.size<W0.heap.size:=by rw [hW0];simp;try omega
          have z1:w.heap.size+1<W0.heap.size:=by rw [hW0];simp;try omega
          have z2:w.heap.size+2<W0.heap.size:=by rw [hW0];simp;try omega
          have f0:W0.cell? ⟨w.heap.size,0,none⟩=some (.slice A l.length c):=by rw [hW0];simp [go_sem]
          have f1:W0.cell? ⟨w.heap.size+1,0,none⟩=some (.int .i64 p.id)∧W0.cell? ⟨w.heap.size+1,1,none⟩=some (.int .i64 p.a)∧W0.cell? ⟨w.heap.size+1,2,none⟩=some (.int .i64 p.b):=by rw [hW0];simp [go_sem]
          have f2:W0.cell? ⟨w.heap.size+2,0,none⟩=some (.slice none 0 0):=by rw [hW0];simp [go_sem]
          obtain ⟨g0,g1,g2⟩:=f1
          have f3:W0.frozen? ⟨w.heap.size+2,0,none⟩=false:=by rw [hW0];simp [go_sem]
          rw [← hW0];clear hW0
          go_region_held3 (fun w'=>w'.cell? ⟨w.heap.size,0,none⟩=some (.slice A l.length c)∧w'.cell? ⟨w.heap.size+1,0,none⟩=some (.int .i64 p.id)∧w'.cell? ⟨w.heap.size+1,1,none⟩=some (.int .i64 p.a)∧w'.cell? ⟨w.heap.size+1,2,none⟩=some (.int .i64 p.b)) (simp [go_sem, *]) (first | (go_at_call 95;refine (q3.out _ (by (try simp only [qbh]);repeat (first | exact Bel.refl _ | assumption | refine qbq ?_ _ | refine qbr ?_ _ | refine Bel.ext ?_ _ | refine Bel.alloc ?_ _ | refine Bel.drewN ?_ _))).mono ?_;rintro e _ ⟨A2,c2,rfl,x2,rfl,own2⟩;(try simp only [qbh,qbf,qbg] at own2)) | (go_at_call 100;first | ((with_reducible refine (q268 (W0:=W0) own2 (by (try simp only [qbh]);repeat (first | exact Bel.refl _ | assumption | refine qbq ?_ _ | refine qbr ?_ _ | refine Bel.ext ?_ _ | refine Bel.alloc ?_ _ | refine Bel.drewN ?_ _)) (by (try simp only [qbh]);repeat (first | exact Bel.refl _ | assumption | refine qbq ?_ _ | refine qbr ?_ _ | refine Bel.ext ?_ _ | refine Bel.alloc ?_ _ | refine Bel.drewN ?_ _)) (by simp [go_sem]) (by simp [go_sem]) (by omega) hk).mono ?_);rintro e _ ⟨A3,c3,rfl,x3,rfl,own3⟩) | ((with_reducible refine (q269 (W0:=W0) own2 (by (try simp only [qbh]);repeat (first | exact Bel.refl _ | assumption | refine qbq ?_ _ | refine qbr ?_ _ | refine Bel.ext ?_ _ | refine Bel.alloc ?_ _ | refine Bel.drewN ?_ _)) (by simp [go_sem]) (by simp [go_sem]) (by omega) hk).mono ?_);rintro e _ ⟨A3,c3,rfl,x3,rfl,own3⟩)))
          all_goals
            go_wp2
            have hbc:Bel w (W0.setCell ⟨w.heap.size+1+1,0,none⟩ (.slice A3 (l.length+1) c3)):=hb0.setCell (p:=⟨w.heap.size+1+1,0,none⟩) (by show w.heap.size≤w.heap.size+1+1;omega) _
            have hcl:(ext (W0.setCell ⟨w.heap.size+1+1,0,none⟩ (.slice A3 (l.length+1) c3)) x3).cell? ⟨w.heap.size+1+1,0,none⟩=some (.slice A3 (l.length+1) c3):=by
              rw [qbb _ _ _ _ (by simp;omega)];exact World.cell?_setCell_same _ _ _ f2
            refine bodyPost_ret (v:=.tuple #[.agg #[.slice A3 (l.length+1) c3],.int .i64 0]) (by simp [results,Tryz.results49,go_sem,hcl]) rfl ?_
            exact ⟨_,_,rfl,qer (hbc.ext _) (qf9 (by simp [go_sem]) own3 (Nat.le_refl _)) (Bel.refl _) (by omega)⟩
    · have e1 := Lib.hid (ql9 p 8 hp)
      have HF:Hid (qgg l p=([],8)):=Lib.hid (by simp [qgg,h,hp])
      rw [HF.out]
      clear h hp hinc hchk
      go_enter Tryz.func49,Tryz.ntmps49
      go_wp2_with (first | (go_at_call 97;refine (q.out _ (by (try simp only [qbh]);repeat (first | exact Bel.refl _ | assumption | refine qbq ?_ _ | refine qbr ?_ _ | refine Bel.ext ?_ _ | refine Bel.alloc ?_ _ | refine Bel.drewN ?_ _))).mono ?_;rintro e _ ⟨rfl,nx,rfl⟩) | (go_at_call 98;refine (e1.out _).mono ?_;rintro e _ ⟨rfl,nx,rfl⟩))
      (refine bodyPost_ret (v:=.tuple #[.agg #[.slice none 0 0],.int .i64 (8)]) (by simp [results,Tryz.results49,go_sem]) rfl ?_;exact ⟨_,_,rfl,qfm (by (try simp only [qbh]);repeat (first | exact Bel.refl _ | assumption | refine qbq ?_ _ | refine qbr ?_ _ | refine Bel.ext ?_ _ | refine Bel.alloc ?_ _ | refine Bel.drewN ?_ _))⟩)
  · have HF : Hid (qgg l p = ([], qfx l)) := Lib.hid (by simp [qgg, h])
    have hz:(qfx l == 0)=false:=by simpa using h
    have hz':(qfx l != 0)=true:=by simpa using h
    rw [HF.out]
    clear h
    go_enter Tryz.func49,Tryz.ntmps49
    go_wp2_with ((go_at_call 97;refine (q.out _ (by (try simp only [qbh]);repeat (first | exact Bel.refl _ | assumption | refine qbq ?_ _ | refine qbr ?_ _ | refine Bel.ext ?_ _ | refine Bel.alloc ?_ _ | refine Bel.drewN ?_ _))).mono ?_;rintro e _ ⟨rfl,nx,rfl⟩))
    (refine bodyPost_ret (v:=.tuple #[.agg #[.slice none 0 0],.int .i64 ((qfx l))]) (by simp [results,Tryz.results49,go_sem]) rfl ?_;exact ⟨_,_,rfl,qfm (by (try simp only [qbh]);repeat (first | exact Bel.refl _ | assumption | refine qbq ?_ _ | refine qbr ?_ _ | refine Bel.ext ?_ _ | refine Bel.alloc ?_ _ | refine Bel.drewN ?_ _))⟩)
end Go.Proofs.YtpfhgnccpiildaaGreat

namespace Go.Proofs.YtpfhgnccpiildaaGreat
open Go Go.Tx Go.Pel Go.Proofs.Tryz
set_option maxRecDepth 100000
set_option maxHeartbeats 0
abbrev q26b:List Pk:=[.row qj5 true,.row Riii true]
abbrev q26c:Type:=qj6×Diii×Unit
abbrev q26d:Type:=List Diii×Int
def q26e (r:q26d):LV×List Ob:=(.tup [.agg [.rs 0],.int .i64 r.2],[.rows Riii r.1])
def q26f (F:q26c→Option q26d):Go.Tx.Spec:=⟨49,q26b,q26d,F,q26e⟩
def q26g (x:q26c):Bool:=true
def q26h (d:Nat) (x:q26c):Option q26d:=bif q26g x then some (toPs (qgg (ptsL x.1.1) (ofP x.2.1)).1,(qgg (ptsL x.1.1) (ofP x.2.1)).2) else none
theorem q26j (d:Nat):COK prog (q26f (q26h d)):=by
 refine qhd (qhe (fn:=f49) (by kernel_rfl) (by kernel_rfl) (by kernel_rfl)) fun x r hx w φ vs hφ hv=>?_
 have hx:q26h d x=some r:=hx
 unfold q26h at hx
 obtain ⟨hc,rfl⟩:=qit hx
 have hv:VRs (Emb.fro φ) [.agg [.fz RP x.1.1],.agg [.int .i64 x.2.1.1,.int .i64 x.2.1.2.1,.int .i64 x.2.1.2.2.1]] vs:=hv
 obtain ⟨v0,vs,rfl,q0,hv⟩:=VRs.uncons hv
 obtain ⟨v1,rfl,q1⟩:=vrs1 hv
 obtain ⟨A0,c0,rfl,s0,z0⟩:=qio hφ q0
 have r1:=qh6 (p:=x.2.1) q1;subst r1
 refine (q26a A0 c0 (ptsL x.1.1) (ofP x.2.1) w s0 z0).mono ?_
 rintro e w' ⟨A',c',rfl,y,rfl,ho⟩
 exact qhc hφ (τ:=Riii) rfl (qix _) ho (qiz _) fun η e0=>VR.tupL (VRs.cons (VR.aggL (VRs.cons (.rs e0) VRs.nil)) (VRs.cons (.int _ _) VRs.nil))
end Go.Proofs.YtpfhgnccpiildaaGreat
