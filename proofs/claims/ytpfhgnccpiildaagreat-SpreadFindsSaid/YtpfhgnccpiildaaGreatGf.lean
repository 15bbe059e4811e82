/- Walks of the references; the orders agree; examples. -/
import Derived.Test.YtpfhgnccpiildaaGreatGe
set_option linter.unusedSimpArgs false
set_option linter.unusedVariables false
namespace Go.Proofs.YtpfhgnccpiildaaGreat
open Go Go.Tx Go.Proofs.Tryz
set_option maxRecDepth 100000
set_option maxHeartbeats 0
abbrev q1j1:List Pk:=[.row Ru false,.row Ru false]
abbrev q1j2:Type:=Du×Du×Unit
abbrev q1j3:Type:=Int
def q1j4 (r:q1j3):LV×List Ob:=(.int .u64 r,[])
def q1j5 (F:q1j2→Option q1j3):Go.Tx.Spec:=⟨119,q1j1,q1j3,F,q1j4⟩
abbrev q1j6:Type:=Unit
def q1j7 (_d:Nat):q1j6:=()
def q1j8 (C:q1j6):List Go.Tx.Spec:=[]
abbrev q1j9:Type:=Int×Int
def q1ja (v:q1j9):St:=⟨[(0,u6 v.1),(1,u6 v.2)],[]⟩
def q1jb (C:q1j6) (v:q1j9):Dt q1j9:=(Dt.ret (v.1,v.2))
abbrev q3zj {V Y:Type}:=@rg q1j6 V Y tysT (fun C=>(orc (q1j8 C))) 12
theorem q1jc C v:q3zj (regO (qcy f119) 0) false (an [0,1]) q1ja q1jb q1ja C v:=rgI (by kernel_rfl)
abbrev q1jd:Type:=Int×Int×Bool
def q1je (v:q1jd):St:=⟨[(0,u6 v.1),(1,u6 v.2.1),(6,.bool v.2.2)],[]⟩
def q1jf (C:q1j6) (v:q1j9):Dt q1jd:=(Dt.ret (v.1,v.2,(decide (v.2 > (0:Int)))))
theorem q1jg C v:q3zj (regO (qcy f119) 1) false (an [0,1,6]) q1ja q1jf q1je C v:=rgI (by kernel_rfl)
def q1jh (C:q1j6) (v:q1jd):Dt q1j9:=(Dt.ite (v.2.1==(0:Int)) Dt.fail (Dt.ret (v.2.1,(Int.tmod v.1 v.2.1))))
theorem q1ji C v:q3zj (regO (qcy f119) 2) true (an [0,1]) q1je q1jh q1ja C v:=rgI (by kernel_rfl)
abbrev q1jj:Type:=Int
def q1jk (v:q1jj):St:=⟨[(4,u6 v)],[]⟩
def q1jl (C:q1j6) (v:q1jd):Dt q1jj:=(Dt.ret v.1)
theorem q1jm C v:q3zj (regO (qcy f119) 3) false [(4,.any)] q1je q1jl q1jk C v:=rgI (by kernel_rfl)
def q1jn (d:Nat) (self1:(Int×Int)→Option q1j3) (x1:Int×Int):Option q1j3 :=
 (q1jf (q1j7 d) x1).eval fun y1 =>
 bif y1.2.2 then ((q1jh (q1j7 d) y1).eval fun y2 =>
 self1 y2) else ((q1jl (q1j7 d) y1).eval fun y3 =>
 some y3)
def q1jo (d:Nat) (x:q1j2):Option q1j3 :=
 (q1jb (q1j7 d) (x.1.1,x.2.1.1)).eval fun y0 =>
 iter (q1jn d ) d y0
theorem q1jp (d:Nat):COK prog (q1j5 (q1jo d)):=by
 have hm:prog.follows .mixedOrders=true:=qjt
 have hT:=tys
 have hC0:OrcOK prog (orc (q1j8 (q1j7 d))):=qcs (by
  intro S hS
  simp only [q1j8,List.mem_cons,List.not_mem_nil,or_false] at hS
  all_goals first | cases hS | exact hS.elim)
 have hC:OrcOK prog (orc (q1j8 (q1j7 d))):=hC0
 refine q8e (c:=qcy f119) (fn:=f119) hT (by kernel_rfl) (by kernel_rfl) (by decide) fun x r h w0 φ0 Q hend=>?_
 replace h:q1jo d x=some r:=h
 unfold q1jo at h
 show Run prog w0 φ0 12 (qcy f119) ⟨[(0,.int .u64 x.1.1),(1,.int .u64 x.2.1.1)],[]⟩ Q
 refine q3yx hm hT hC (q1jc (q1j7 d) (x.1.1,x.2.1.1)) h fun y0 h=>?_
 refine q7y (q7z ?_)
 refine q84 (G:=iter (q1jn d )) (S:=(fun x1=>⟨[(0,u6 x1.1),(1,u6 x1.2)],[]⟩:Int×Int→St)) (fun _=>rfl) ?_ d _ h
 intro n1 x1 h K1 hn1
 replace h:q1jn d  (iter (q1jn d ) n1) x1=some r:=h
 generalize iter (q1jn d ) n1=self1 at h hn1
 unfold q1jn at h
 refine q7y ?_
 refine q3yx hm hT hC (q1jg (q1j7 d) x1) h fun y1 h=>?_
 refine q82 (v:=y1.2.2) (by kernel_rfl) h ?_ ?_
 ·
  intro h
  refine q7u (q7k (q7z ?_))
  refine q83 hm hT hC (q1ji (q1j7 d) y1) h ?_
  intro y2 h
  refine q7n ?_
  exact hn1 _ h
 ·
  intro h
  refine q7w (q7l (q7l (q7p (q7k ?_))))
  refine q3yx hm hT hC (q1jm (q1j7 d) y1) h fun y3 h=>?_
  refine q7x ?_
  cases h
  exact (hend _ (by kernel_rfl)).2
abbrev q1jq:List Pk:=[.row Rbuu true,.row Rbuu true]
abbrev q1jr:Type:=Dbuu×Dbuu×Unit
abbrev q1js:Type:=Bool×Int×Int
def q1jt (r:q1js):LV×List Ob:=(.agg [.bool r.1,.int .u64 r.2.1,.int .u64 r.2.2],[])
def q1ju (F:q1jr→Option q1js):Go.Tx.Spec:=⟨120,q1jq,q1js,F,q1jt⟩
abbrev q1jv:Type:=(q146→Option q147)×Unit
def q1jw (d:Nat):q1jv:=(q14x d,())
def q1jx (C:q1jv):List Go.Tx.Spec:=[q149 C.1]
abbrev q1jy:Type:=Bool×Int×Int×Bool×Int×Int
def q1jz (v:q1jy):St:=⟨[(0,.agg [.bool v.1,u6 v.2.1,u6 v.2.2.1]),(1,.agg [.bool v.2.2.2.1,u6 v.2.2.2.2.1,u6 v.2.2.2.2.2])],[]⟩
abbrev q1k0:Type:=Bool×Int×Int×Bool×Int×Int×Bool×Int×Int
def q1k1 (v:q1k0):St:=⟨[(2,.ptr 0 0),(3,.ptr 1 0),(4,.ptr 2 0)],[.cells [.bool v.1,u6 v.2.1,u6 v.2.2.1],.cells [.bool v.2.2.2.1,u6 v.2.2.2.2.1,u6 v.2.2.2.2.2.1],.cells [.bool v.2.2.2.2.2.2.1,u6 v.2.2.2.2.2.2.2.1,u6 v.2.2.2.2.2.2.2.2]]⟩
def q1k2 (C:q1jv) (v:q1jy):Dt q1k0:=(Dt.ret (v.1,v.2.1,v.2.2.1,v.2.2.2.1,v.2.2.2.2.1,v.2.2.2.2.2,false,(0:Int),(0:Int)))
abbrev q3zk {V Y:Type}:=@rg q1jv V Y tysT (fun C=>(orcI 145 q1d2 (orcI 106 q1d3 (orc (q1jx C))))) 68
theorem q1k3 C v:q3zk (regO (qcy f120) 0) false (an [2,3,4]) q1jz q1k2 q1k1 C v:=rgI (by kernel_rfl)
abbrev q1k4:Type:=Bool×Bool×Int×Int×Bool×Int×Int×Bool×Int×Int
def q1k5 (v:q1k4):St:=⟨[(2,.ptr 0 0),(3,.ptr 1 0),(4,.ptr 2 0),(17,.bool v.1)],[.cells [.bool v.2.1,u6 v.2.2.1,u6 v.2.2.2.1],.cells [.bool v.2.2.2.2.1,u6 v.2.2.2.2.2.1,u6 v.2.2.2.2.2.2.1],.cells [.bool v.2.2.2.2.2.2.2.1,u6 v.2.2.2.2.2.2.2.2.1,u6 v.2.2.2.2.2.2.2.2.2]]⟩
def q1k6 (C:q1jv) (v:q1k0):Dt q1k4:=(Dt.ret ((v.1==v.2.2.2.1),v.1,v.2.1,v.2.2.1,v.2.2.2.1,v.2.2.2.2.1,v.2.2.2.2.2.1,v.2.2.2.2.2.2.1,v.2.2.2.2.2.2.2.1,v.2.2.2.2.2.2.2.2))
theorem q1k7 C v:q3zk (regO (qcy f120) 1) false (an [2,3,4,17]) q1k1 q1k6 q1k5 C v:=rgI (by kernel_rfl)
abbrev q1k8:Type:=Int×Int×Bool×Int×Int×Bool×Int×Int×Bool×Int×Int
def q1k9 (v:q1k8):St:=⟨[(2,.ptr 0 0),(3,.ptr 1 0),(4,.ptr 2 0),(5,u6 v.1),(6,u6 v.2.1)],[.cells [.bool v.2.2.1,u6 v.2.2.2.1,u6 v.2.2.2.2.1],.cells [.bool v.2.2.2.2.2.1,u6 v.2.2.2.2.2.2.1,u6 v.2.2.2.2.2.2.2.1],.cells [.bool v.2.2.2.2.2.2.2.2.1,u6 v.2.2.2.2.2.2.2.2.2.1,u6 v.2.2.2.2.2.2.2.2.2.2]]⟩
def q1ka (C:q1jv) (v:q1k4):Dt q1k8:=(Dt.bnd (q1d2 (v.2.2.2.1) (v.2.2.2.2.2.2.1) ((0:Int))) fun r1=>(Dt.ret (r1.1,r1.2,v.2.1,v.2.2.1,v.2.2.2.1,v.2.2.2.2.1,v.2.2.2.2.2.1,v.2.2.2.2.2.2.1,v.2.2.2.2.2.2.2.1,v.2.2.2.2.2.2.2.2.1,v.2.2.2.2.2.2.2.2.2)))
theorem q1kb C v:q3zk (regO (qcy f120) 2) false (an [2,3,4,5,6]) q1k5 q1ka q1k9 C v:=rgI (by kernel_rfl)
abbrev q1kc:Type:=Int×Int×Bool×Int×Int×Bool×Int×Int
def q1kd (v:q1kc):St:=⟨[(2,.ptr 0 0),(4,.ptr 1 0),(5,u6 v.1),(7,u6 v.2.1)],[.cells [.bool v.2.2.1,u6 v.2.2.2.1,u6 v.2.2.2.2.1],.cells [.bool v.2.2.2.2.2.1,u6 v.2.2.2.2.2.2.1,u6 v.2.2.2.2.2.2.2]]⟩
def q1ke (C:q1jv) (v:q1k8):Dt q1kc:=(Dt.bnd (q1d2 (v.2.2.2.1) (v.2.2.2.2.2.2.1) (v.2.1)) fun r1=>(Dt.ret (v.1,r1.1,v.2.2.1,v.2.2.2.1,v.2.2.2.2.1,v.2.2.2.2.2.2.2.2.1,v.2.2.2.2.2.2.2.2.2.1,v.2.2.2.2.2.2.2.2.2.2)))
theorem q1kf C v:q3zk (regO (qcy f120) 3) false (an [2,4,5,7]) q1k9 q1ke q1kd C v:=rgI (by kernel_rfl)
abbrev q1kg:Type:=Bool×Int×Int
def q1kh (v:q1kg):St:=⟨[(4,.ptr 0 0)],[.cells [.bool v.1,u6 v.2.1,u6 v.2.2]]⟩
def q1ki (C:q1jv) (v:q1kc):Dt q1kg:=(Dt.ret (v.2.2.1,v.2.1,v.1))
theorem q1kj C v:q3zk (regO (qcy f120) 4) false [(4,.any)] q1kd q1ki q1kh C v:=rgI (by kernel_rfl)
abbrev q1kk:Type:=Bool×Bool×Int×Int×Bool×Int×Int×Bool×Int×Int
def q1kl (v:q1kk):St:=⟨[(2,.ptr 0 0),(3,.ptr 1 0),(4,.ptr 2 0),(43,.bool v.1)],[.cells [.bool v.2.1,u6 v.2.2.1,u6 v.2.2.2.1],.cells [.bool v.2.2.2.2.1,u6 v.2.2.2.2.2.1,u6 v.2.2.2.2.2.2.1],.cells [.bool v.2.2.2.2.2.2.2.1,u6 v.2.2.2.2.2.2.2.2.1,u6 v.2.2.2.2.2.2.2.2.2]]⟩
def q1km (C:q1jv) (v:q1k4):Dt q1kk:=(Dt.bnd (C.1 ((v.2.1,v.2.2.1,v.2.2.2.1,()),(v.2.2.2.2.1,v.2.2.2.2.2.1,v.2.2.2.2.2.2.1,()),())) fun r1=>(Dt.ret ((decide (r1<(0:Int))),v.2.1,v.2.2.1,v.2.2.2.1,v.2.2.2.2.1,v.2.2.2.2.2.1,v.2.2.2.2.2.2.1,v.2.2.2.2.2.2.2.1,v.2.2.2.2.2.2.2.2.1,v.2.2.2.2.2.2.2.2.2)))
theorem q1kn C v:q3zk (regO (qcy f120) 5) false (an [2,3,4,43]) q1k5 q1km q1kl C v:=rgI (by kernel_rfl)
def q1ko (C:q1jv) (v:q1kk):Dt q1k0:=(Dt.ret (v.2.2.2.2.1,v.2.2.2.2.2.1,v.2.2.2.2.2.2.1,v.2.1,v.2.2.1,v.2.2.2.1,v.2.2.2.2.2.2.2.1,v.2.2.2.2.2.2.2.2.1,v.2.2.2.2.2.2.2.2.2))
theorem q1kp C v:q3zk (regO (qcy f120) 6) false (an [2,3,4]) q1kl q1ko q1k1 C v:=rgI (by kernel_rfl)
abbrev q1kq:Type:=Int×Int×Bool×Int×Int×Bool×Int×Int×Bool×Int×Int
def q1kr (v:q1kq):St:=⟨[(2,.ptr 0 0),(3,.ptr 1 0),(4,.ptr 2 0),(9,u6 v.1),(10,u6 v.2.1)],[.cells [.bool v.2.2.1,u6 v.2.2.2.1,u6 v.2.2.2.2.1],.cells [.bool v.2.2.2.2.2.1,u6 v.2.2.2.2.2.2.1,u6 v.2.2.2.2.2.2.2.1],.cells [.bool v.2.2.2.2.2.2.2.2.1,u6 v.2.2.2.2.2.2.2.2.2.1,u6 v.2.2.2.2.2.2.2.2.2.2]]⟩
def q1ks (C:q1jv) (v:q1k0):Dt q1kq:=(Dt.bnd (q1d3 (v.2.2.1) (v.2.2.2.2.2.1) ((0:Int))) fun r1=>(Dt.ret (r1.1,r1.2,v.1,v.2.1,v.2.2.1,v.2.2.2.1,v.2.2.2.2.1,v.2.2.2.2.2.1,v.2.2.2.2.2.2.1,v.2.2.2.2.2.2.2.1,v.2.2.2.2.2.2.2.2)))
theorem q1kt C v:q3zk (regO (qcy f120) 7) false (an [2,3,4,9,10]) q1k1 q1ks q1kr C v:=rgI (by kernel_rfl)
abbrev q1ku:Type:=Int×Int×Bool×Int×Int×Bool×Int×Int
def q1kv (v:q1ku):St:=⟨[(2,.ptr 0 0),(4,.ptr 1 0),(9,u6 v.1),(11,u6 v.2.1)],[.cells [.bool v.2.2.1,u6 v.2.2.2.1,u6 v.2.2.2.2.1],.cells [.bool v.2.2.2.2.2.1,u6 v.2.2.2.2.2.2.1,u6 v.2.2.2.2.2.2.2]]⟩
def q1kw (C:q1jv) (v:q1kq):Dt q1ku:=(Dt.bnd (q1d3 (v.2.2.2.1) (v.2.2.2.2.2.2.1) (v.2.1)) fun r1=>(Dt.ret (v.1,r1.1,v.2.2.1,v.2.2.2.1,v.2.2.2.2.1,v.2.2.2.2.2.2.2.2.1,v.2.2.2.2.2.2.2.2.2.1,v.2.2.2.2.2.2.2.2.2.2)))
theorem q1kx C v:q3zk (regO (qcy f120) 8) false (an [2,4,9,11]) q1kr q1kw q1kv C v:=rgI (by kernel_rfl)
def q1ky (C:q1jv) (v:q1ku):Dt q1kg:=(Dt.ret (v.2.2.1,v.2.1,v.1))
theorem q1kz C v:q3zk (regO (qcy f120) 9) false [(4,.any)] q1kv q1ky q1kh C v:=rgI (by kernel_rfl)
def q1l0  (d:Nat)  (z:Bool×Int×Int×Bool×Int×Int×Bool×Int×Int):Option (q1js) :=
 (q1ks (q1jw d) z).eval fun y7 =>
 (q1kw (q1jw d) y7).eval fun y8 =>
 (q1ky (q1jw d) y8).eval fun y9 =>
 some y9
def q1l1 (d:Nat) (x:q1jr):Option q1js :=
 (q1k2 (q1jw d) (x.1.1,x.1.2.1,x.1.2.2.1,x.2.1.1,x.2.1.2.1,x.2.1.2.2.1)).eval fun y0 =>
 (q1k6 (q1jw d) y0).eval fun y1 =>
 bif y1.1 then ((q1ka (q1jw d) y1).eval fun y2 =>
 (q1ke (q1jw d) y2).eval fun y3 =>
 (q1ki (q1jw d) y3).eval fun y4 =>
 some y4) else ((q1km (q1jw d) y1).eval fun y5 =>
 bif y5.1 then ((q1ko (q1jw d) y5).eval fun y6 =>
 q1l0 d  y6) else (q1l0 d  y5.2))
theorem q1l2 (d:Nat):COK prog (q1ju (q1l1 d)):=by
 have hm:prog.follows .mixedOrders=true:=qjt
 have hT:=tys
 have hC0:OrcOK prog (orc (q1jx (q1jw d))):=qcs (by
  intro S hS
  simp only [q1jx,List.mem_cons,List.not_mem_nil,or_false] at hS
  subst hS;exact q14y d)
 have hC:OrcOK prog (orcI 145 q1d2 (orcI 106 q1d3 (orc (q1jx (q1jw d))))):=(q1d4 q1d7 (q1d4 q1d8 hC0))
 refine q8e (c:=qcy f120) (fn:=f120) hT (by kernel_rfl) (by kernel_rfl) (by decide) fun x r h w0 φ0 Q hend=>?_
 replace h:q1l1 d x=some r:=h
 unfold q1l1 at h
 show Run prog w0 φ0 68 (qcy f120) ⟨[(0,.agg [.bool x.1.1,.int .u64 x.1.2.1,.int .u64 x.1.2.2.1]),(1,.agg [.bool x.2.1.1,.int .u64 x.2.1.2.1,.int .u64 x.2.1.2.2.1])],[]⟩ Q
 refine q3yx hm hT hC (q1k3 (q1jw d) (x.1.1,x.1.2.1,x.1.2.2.1,x.2.1.1,x.2.1.2.1,x.2.1.2.2.1)) h fun y0 h=>?_
 refine q7y ?_
 refine q3yx hm hT hC (q1k7 (q1jw d) y0) h fun y1 h=>?_
 refine q82 (v:=y1.1) (by kernel_rfl) h ?_ ?_
 ·
  intro h
  refine q3yx hm hT hC (q1kb (q1jw d) y1) h fun y2 h=>?_
  refine q3yx hm hT hC (q1kf (q1jw d) y2) h fun y3 h=>?_
  refine q3yx hm hT hC (q1kj (q1jw d) y3) h fun y4 h=>?_
  refine q7x (q7m ?_)
  cases h
  exact (hend _ (by kernel_rfl)).2
 ·
  intro h
  refine q7u (q7k ?_)
  refine q81 (r:=r) (F:=q1l0 d ) (S:=(fun z=>⟨[(2,.ptr 0 0),(3,.ptr 1 0),(4,.ptr 2 0)],[.cells [.bool z.1,u6 z.2.1,u6 z.2.2.1],.cells [.bool z.2.2.2.1,u6 z.2.2.2.2.1,u6 z.2.2.2.2.2.1],.cells [.bool z.2.2.2.2.2.2.1,u6 z.2.2.2.2.2.2.2.1,u6 z.2.2.2.2.2.2.2.2]]⟩:q1k0→St)) ?_ ?_
  ·
   intro z h
   unfold q1l0 at h
   refine q3yx hm hT hC (q1kt (q1jw d) z) h fun y7 h=>?_
   refine q3yx hm hT hC (q1kx (q1jw d) y7) h fun y8 h=>?_
   refine q3yx hm hT hC (q1kz (q1jw d) y8) h fun y9 h=>?_
   refine q7x ?_
   cases h
   exact (hend _ (by kernel_rfl)).2
  intro hj1
  refine q3yx hm hT hC (q1kn (q1jw d) y1) h fun y5 h=>?_
  refine q82 (v:=y5.1) (by kernel_rfl) h ?_ ?_
  ·
   intro h
   refine q83 hm hT hC (q1kp (q1jw d) y5) h ?_
   intro y6 h
   exact hj1 _ h
  ·
   intro h
   refine q7u ?_
   refine qcx (s:=⟨[(2,.ptr 0 0),(3,.ptr 1 0),(4,.ptr 2 0)],[.cells [.bool y5.2.1,.int .u64 y5.2.2.1,.int .u64 y5.2.2.2.1],.cells [.bool y5.2.2.2.2.1,.int .u64 y5.2.2.2.2.2.1,.int .u64 y5.2.2.2.2.2.2.1],.cells [.bool y5.2.2.2.2.2.2.2.1,.int .u64 y5.2.2.2.2.2.2.2.2.1,.int .u64 y5.2.2.2.2.2.2.2.2.2]]⟩) [43] (by kernel_rfl) ?_
   exact hj1 _ h
abbrev q1l3:List Pk:=[.row Rbuu true,.row Ru false]
abbrev q1l4:Type:=Dbuu×Du×Unit
abbrev q1l5:Type:=Bool×Int×Int×Int
def q1l6 (r:q1l5):LV×List Ob:=(.tup [.agg [.bool r.1,.int .u64 r.2.1,.int .u64 r.2.2.1],.int .u64 r.2.2.2],[])
def q1l7 (F:q1l4→Option q1l5):Go.Tx.Spec:=⟨122,q1l3,q1l5,F,q1l6⟩
abbrev q1l8:Type:=(q1f3→Option q1f4)×Unit
def q1l9 (d:Nat):q1l8:=(q1i4 d,())
def q1la (C:q1l8):List Go.Tx.Spec:=[q1f6 C.1]
abbrev q1lb:Type:=Bool×Int×Int×Int
def q1lc (v:q1lb):St:=⟨[(0,.agg [.bool v.1,u6 v.2.1,u6 v.2.2.1]),(1,u6 v.2.2.2)],[]⟩
abbrev q1ld:Type:=Int×Bool×Int×Int×Bool×Int×Int
def q1le (v:q1ld):St:=⟨[(1,u6 v.1),(2,.ptr 0 0),(4,.ptr 1 0)],[.cells [.bool v.2.1,u6 v.2.2.1,u6 v.2.2.2.1],.cells [.bool v.2.2.2.2.1,u6 v.2.2.2.2.2.1,u6 v.2.2.2.2.2.2]]⟩
def q1lf (C:q1l8) (v:q1lb):Dt q1ld:=(Dt.ret (v.2.2.2,v.1,v.2.1,v.2.2.1,false,(0:Int),(0:Int)))
abbrev q3zl {V Y:Type}:=@rg q1l8 V Y tysT (fun C=>(orc (q1la C))) 31
theorem q1lg C v:q3zl (regO (qcy f122) 0) false (an [1,2,4]) q1lc q1lf q1le C v:=rgI (by kernel_rfl)
abbrev q1lh:Type:=Int×Int×Int×Bool×Int×Int×Bool×Int×Int
def q1li (v:q1lh):St:=⟨[(1,u6 v.1),(2,.ptr 0 0),(4,.ptr 1 0),(6,u6 v.2.1),(7,u6 v.2.2.1)],[.cells [.bool v.2.2.2.1,u6 v.2.2.2.2.1,u6 v.2.2.2.2.2.1],.cells [.bool v.2.2.2.2.2.2.1,u6 v.2.2.2.2.2.2.2.1,u6 v.2.2.2.2.2.2.2.2]]⟩
def q1lj (C:q1l8) (v:q1ld):Dt q1lh:=(Dt.ite (v.1==(0:Int)) Dt.fail (Dt.ite (v.1==(0:Int)) Dt.fail (Dt.ret (v.1,(IntKind.wrap .u64 (Int.tdiv v.2.2.1 v.1)),(Int.tmod v.2.2.1 v.1),v.2.1,v.2.2.1,v.2.2.2.1,v.2.2.2.2.1,v.2.2.2.2.2.1,v.2.2.2.2.2.2))))
theorem q1lk C v:q3zl (regO (qcy f122) 1) true (an [1,2,4,6,7]) q1le q1lj q1li C v:=rgI (by kernel_rfl)
abbrev q1ll:Type:=Int×Int×Int×Bool×Int×Int×Bool×Int×Int
def q1lm (v:q1ll):St:=⟨[(2,.ptr 0 0),(4,.ptr 1 0),(6,u6 v.1),(7,u6 v.2.1),(8,u6 v.2.2.1)],[.cells [.bool v.2.2.2.1,u6 v.2.2.2.2.1,u6 v.2.2.2.2.2.1],.cells [.bool v.2.2.2.2.2.2.1,u6 v.2.2.2.2.2.2.2.1,u6 v.2.2.2.2.2.2.2.2]]⟩
def q1ln (C:q1l8) (v:q1lh):Dt q1ll:=(Dt.bnd (C.1 ((v.2.2.1,()),(v.2.2.2.2.2.1,()),(v.1,()),())) fun r1=>(Dt.ret (v.2.1,r1.2,r1.1,v.2.2.2.1,v.2.2.2.2.1,v.2.2.2.2.2.1,v.2.2.2.2.2.2.1,v.2.2.2.2.2.2.2.1,v.2.2.2.2.2.2.2.2)))
theorem q1lo C v:q3zl (regO (qcy f122) 2) false (an [2,4,6,7,8]) q1li q1ln q1lm C v:=rgI (by kernel_rfl)
abbrev q1lp:Type:=Int×Bool×Int×Int
def q1lq (v:q1lp):St:=⟨[(4,.ptr 0 0),(5,u6 v.1)],[.cells [.bool v.2.1,u6 v.2.2.1,u6 v.2.2.2]]⟩
def q1lr (C:q1l8) (v:q1ll):Dt q1lp:=(Dt.ret (v.2.1,v.2.2.2.1,v.1,v.2.2.1))
theorem q1ls C v:q3zl (regO (qcy f122) 3) false (an [4,5]) q1lm q1lr q1lq C v:=rgI (by kernel_rfl)
def q1lt (d:Nat) (x:q1l4):Option q1l5 :=
 (q1lf (q1l9 d) (x.1.1,x.1.2.1,x.1.2.2.1,x.2.1.1)).eval fun y0 =>
 (q1lj (q1l9 d) y0).eval fun y1 =>
 (q1ln (q1l9 d) y1).eval fun y2 =>
 (q1lr (q1l9 d) y2).eval fun y3 =>
 some (y3.2.1,y3.2.2.1,y3.2.2.2,y3.1)
theorem q1lu (d:Nat):COK prog (q1l7 (q1lt d)):=by
 have hm:prog.follows .mixedOrders=true:=qjt
 have hT:=tys
 have hC0:OrcOK prog (orc (q1la (q1l9 d))):=qcs (by
  intro S hS
  simp only [q1la,List.mem_cons,List.not_mem_nil,or_false] at hS
  subst hS;exact q1i5 d)
 have hC:OrcOK prog (orc (q1la (q1l9 d))):=hC0
 refine q8e (c:=qcy f122) (fn:=f122) hT (by kernel_rfl) (by kernel_rfl) (by decide) fun x r h w0 φ0 Q hend=>?_
 replace h:q1lt d x=some r:=h
 unfold q1lt at h
 show Run prog w0 φ0 31 (qcy f122) ⟨[(0,.agg [.bool x.1.1,.int .u64 x.1.2.1,.int .u64 x.1.2.2.1]),(1,.int .u64 x.2.1.1)],[]⟩ Q
 refine q3yx hm hT hC (q1lg (q1l9 d) (x.1.1,x.1.2.1,x.1.2.2.1,x.2.1.1)) h fun y0 h=>?_
 refine q3yx hm hT hC (q1lk (q1l9 d) y0) h fun y1 h=>?_
 refine q3yx hm hT hC (q1lo (q1l9 d) y1) h fun y2 h=>?_
 refine q3yx hm hT hC (q1ls (q1l9 d) y2) h fun y3 h=>?_
 refine q7x ?_
 cases h
 exact (hend _ (by kernel_rfl)).2
abbrev q1lv:List Pk:=[.row Rbuu true,.row Ru false,.row Ru false]
abbrev q1lw:Type:=Dbuu×Du×Du×Unit
abbrev q1lx:Type:=Int×Int×Int
def q1ly (r:q1lx):LV×List Ob:=(.tup [.agg [.int .i64 r.1,.int .i64 r.2.1],.int .i64 r.2.2],[])
def q1lz (F:q1lw→Option q1lx):Go.Tx.Spec:=⟨124,q1lv,q1lx,F,q1ly⟩
abbrev q1m0:Type:=Unit
def q1m1 (_d:Nat):q1m0:=()
def q1m2 (C:q1m0):List Go.Tx.Spec:=[]
abbrev q1m3:Type:=Bool×Int×Int×Int×Int
def q1m4 (v:q1m3):St:=⟨[(0,.agg [.bool v.1,u6 v.2.1,u6 v.2.2.1]),(1,u6 v.2.2.2.1),(2,u6 v.2.2.2.2)],[]⟩
abbrev q1m5:Type:=Int×Int×Bool×Int×Int×Int×Int
def q1m6 (v:q1m5):St:=⟨[(1,u6 v.1),(2,u6 v.2.1),(3,.ptr 0 0),(6,.ptr 1 0)],[.cells [.bool v.2.2.1,u6 v.2.2.2.1,u6 v.2.2.2.2.1],.cells [i6 v.2.2.2.2.2.1,i6 v.2.2.2.2.2.2]]⟩
def q1m7 (C:q1m0) (v:q1m3):Dt q1m5:=(Dt.ret (v.2.2.2.1,v.2.2.2.2,v.1,v.2.1,v.2.2.1,(0:Int),(0:Int)))
abbrev q3zm {V Y:Type}:=@rg q1m0 V Y tysT (fun C=>(orc (q1m2 C))) 39
theorem q1m8 C v:q3zm (regO (qcy f124) 0) false (an [1,2,3,6]) q1m4 q1m7 q1m6 C v:=rgI (by kernel_rfl)
abbrev q1m9:Type:=Int×Bool×Bool×Int×Int×Int×Int
def q1ma (v:q1m9):St:=⟨[(2,u6 v.1),(3,.ptr 0 0),(6,.ptr 1 0),(24,.bool v.2.1)],[.cells [.bool v.2.2.1,u6 v.2.2.2.1,u6 v.2.2.2.2.1],.cells [i6 v.2.2.2.2.2.1,i6 v.2.2.2.2.2.2]]⟩
def q1mb (C:q1m0) (v:q1m5):Dt q1m9:=(Dt.ite (decide (v.2.2.2.1 > (0:Int))) (Dt.ret (v.2.1,true,v.2.2.1,v.2.2.2.1,v.2.2.2.2.1,v.2.2.2.2.2.1,v.2.2.2.2.2.2)) (Dt.ite (decide (v.2.2.2.2.1 > (9223372036854775807:Int))) (Dt.ret (v.2.1,true,v.2.2.1,v.2.2.2.1,v.2.2.2.2.1,v.2.2.2.2.2.1,v.2.2.2.2.2.2)) (Dt.ite (decide (v.1 > (0:Int))) (Dt.ret (v.2.1,true,v.2.2.1,v.2.2.2.1,v.2.2.2.2.1,v.2.2.2.2.2.1,v.2.2.2.2.2.2)) (Dt.ret (v.2.1,(decide (v.2.1 > (9223372036854775807:Int))),v.2.2.1,v.2.2.2.1,v.2.2.2.2.1,v.2.2.2.2.2.1,v.2.2.2.2.2.2)))))
theorem q1mc C v:q3zm (regO (qcy f124) 1) false (an [2,3,6,24]) q1m6 q1mb q1ma C v:=rgI (by kernel_rfl)
abbrev q1md:Type:=Int×Int×Int
def q1me (v:q1md):St:=⟨[(6,.ptr 0 0),(7,i6 v.1)],[.cells [i6 v.2.1,i6 v.2.2]]⟩
def q1mf (C:q1m0) (v:q1m9):Dt q1md:=(Dt.ret ((16:Int),(0:Int),(0:Int)))
theorem q1mg C v:q3zm (regO (qcy f124) 2) false (an [6,7]) q1ma q1mf q1me C v:=rgI (by kernel_rfl)
abbrev q1mh:Type:=Bool×Int×Int×Int×Int×Int×Int
def q1mi (v:q1mh):St:=⟨[(3,.ptr 0 0),(6,.ptr 1 0),(8,.ptr 2 0)],[.cells [.bool v.1,u6 v.2.1,u6 v.2.2.1],.cells [i6 v.2.2.2.1,i6 v.2.2.2.2.1],.cells [i6 v.2.2.2.2.2.1,i6 v.2.2.2.2.2.2]]⟩
def q1mj (C:q1m0) (v:q1m9):Dt q1mh:=(Dt.ret (v.2.2.1,v.2.2.2.1,v.2.2.2.2.1,v.2.2.2.2.2.1,v.2.2.2.2.2.2,(IntKind.wrap .i64 v.2.2.2.2.1),(IntKind.wrap .i64 v.1)))
theorem q1mk C v:q3zm (regO (qcy f124) 3) false (an [3,6,8]) q1ma q1mj q1mi C v:=rgI (by kernel_rfl)
abbrev q1ml:Type:=Bool×Int×Int×Int×Int
def q1mm (v:q1ml):St:=⟨[(6,.ptr 0 0),(8,.ptr 1 0),(33,.bool v.1)],[.cells [i6 v.2.1,i6 v.2.2.1],.cells [i6 v.2.2.2.1,i6 v.2.2.2.2]]⟩
def q1mn (C:q1m0) (v:q1mh):Dt q1ml:=(Dt.ret (v.1,v.2.2.2.1,v.2.2.2.2.1,v.2.2.2.2.2.1,v.2.2.2.2.2.2))
theorem q1mo C v:q3zm (regO (qcy f124) 4) false (an [6,8,33]) q1mi q1mn q1mm C v:=rgI (by kernel_rfl)
abbrev q1mp:Type:=Int×Int×Int×Int
def q1mq (v:q1mp):St:=⟨[(6,.ptr 0 0),(8,.ptr 1 0)],[.cells [i6 v.1,i6 v.2.1],.cells [i6 v.2.2.1,i6 v.2.2.2]]⟩
def q1mr (C:q1m0) (v:q1ml):Dt q1mp:=(Dt.ret (v.2.1,v.2.2.1,(IntKind.wrap .i64 (0 - v.2.2.2.1)),v.2.2.2.2))
theorem q1ms C v:q3zm (regO (qcy f124) 5) false (an [6,8]) q1mm q1mr q1mq C v:=rgI (by kernel_rfl)
def q1mt (C:q1m0) (v:q1mp):Dt q1md:=(Dt.ret ((0:Int),v.2.2.1,v.2.2.2))
theorem q1mu C v:q3zm (regO (qcy f124) 6) false (an [6,7]) q1mq q1mt q1me C v:=rgI (by kernel_rfl)
def q1mv  (d:Nat)  (z:Int×Int×Int×Int):Option (q1lx) :=
 (q1mt (q1m1 d) z).eval fun y6 =>
 some (y6.2.1,y6.2.2,y6.1)
def q1mw (d:Nat) (x:q1lw):Option q1lx :=
 (q1m7 (q1m1 d) (x.1.1,x.1.2.1,x.1.2.2.1,x.2.1.1,x.2.2.1.1)).eval fun y0 =>
 (q1mb (q1m1 d) y0).eval fun y1 =>
 bif y1.2.1 then ((q1mf (q1m1 d) y1).eval fun y2 =>
 some (y2.2.1,y2.2.2,y2.1)) else ((q1mj (q1m1 d) y1).eval fun y3 =>
 (q1mn (q1m1 d) y3).eval fun y4 =>
 bif y4.1 then ((q1mr (q1m1 d) y4).eval fun y5 =>
 q1mv d  y5) else (q1mv d  y4.2))
theorem q1mx (d:Nat):COK prog (q1lz (q1mw d)):=by
 have hm:prog.follows .mixedOrders=true:=qjt
 have hT:=tys
 have hC0:OrcOK prog (orc (q1m2 (q1m1 d))):=qcs (by
  intro S hS
  simp only [q1m2,List.mem_cons,List.not_mem_nil,or_false] at hS
  all_goals first | cases hS | exact hS.elim)
 have hC:OrcOK prog (orc (q1m2 (q1m1 d))):=hC0
 refine q8e (c:=qcy f124) (fn:=f124) hT (by kernel_rfl) (by kernel_rfl) (by decide) fun x r h w0 φ0 Q hend=>?_
 replace h:q1mw d x=some r:=h
 unfold q1mw at h
 show Run prog w0 φ0 39 (qcy f124) ⟨[(0,.agg [.bool x.1.1,.int .u64 x.1.2.1,.int .u64 x.1.2.2.1]),(1,.int .u64 x.2.1.1),(2,.int .u64 x.2.2.1.1)],[]⟩ Q
 refine q3yx hm hT hC (q1m8 (q1m1 d) (x.1.1,x.1.2.1,x.1.2.2.1,x.2.1.1,x.2.2.1.1)) h fun y0 h=>?_
 refine q7y ?_
 refine q3yx hm hT hC (q1mc (q1m1 d) y0) h fun y1 h=>?_
 refine q82 (v:=y1.2.1) (by kernel_rfl) h ?_ ?_
 ·
  intro h
  refine q3yx hm hT hC (q1mg (q1m1 d) y1) h fun y2 h=>?_
  refine q7x (q7m ?_)
  cases h
  exact (hend _ (by kernel_rfl)).2
 ·
  intro h
  refine q7u (q7k ?_)
  refine q3yx hm hT hC (q1mk (q1m1 d) y1) h fun y3 h=>?_
  refine q81 (r:=r) (F:=q1mv d ) (S:=(fun z=>⟨[(6,.ptr 0 0),(8,.ptr 1 0)],[.cells [i6 z.1,i6 z.2.1],.cells [i6 z.2.2.1,i6 z.2.2.2]]⟩:q1mp→St)) ?_ ?_
  ·
   intro z h
   unfold q1mv at h
   refine q3yx hm hT hC (q1mu (q1m1 d) z) h fun y6 h=>?_
   refine q7x ?_
   cases h
   exact (hend _ (by kernel_rfl)).2
  intro hj1
  refine q3yx hm hT hC (q1mo (q1m1 d) y3) h fun y4 h=>?_
  refine q82 (v:=y4.1) (by kernel_rfl) h ?_ ?_
  ·
   intro h
   refine q83 hm hT hC (q1ms (q1m1 d) y4) h ?_
   intro y5 h
   exact hj1 _ h
  ·
   intro h
   refine q7u ?_
   refine qcx (s:=⟨[(6,.ptr 0 0),(8,.ptr 1 0)],[.cells [.int .i64 y4.2.1,.int .i64 y4.2.2.1],.cells [.int .i64 y4.2.2.2.1,.int .i64 y4.2.2.2.2]]⟩) [33] (by kernel_rfl) ?_
   exact hj1 _ h
abbrev q1my:List Pk:=[.row Rii true,.row Rii true]
abbrev q1mz:Type:=Dii×Dii×Unit
abbrev q1n0:Type:=Int×Int×Int
def q1n1 (r:q1n0):LV×List Ob:=(.tup [.agg [.int .i64 r.1,.int .i64 r.2.1],.int .i64 r.2.2],[])
def q1n2 (F:q1mz→Option q1n0):Go.Tx.Spec:=⟨62,q1my,q1n0,F,q1n1⟩
abbrev q1n3:Type:=(qy6→Option qy7)×(q1j2→Option q1j3)×(q1jr→Option q1js)×(q11g→Option q11h)×(q1l4→Option q1l5)×(qmg→Option qmh)×(q1lw→Option q1lx)×Unit
def q1n4 (d:Nat):q1n3:=(qyn d,q1jo d,q1l1 d,q121 d,q1lt d,qml d,q1mw d,())
def q1n5 (C:q1n3):List Go.Tx.Spec:=[qy9 C.1,q1j5 C.2.1,q1ju C.2.2.1,q11j C.2.2.2.1,q1l7 C.2.2.2.2.1,qmj C.2.2.2.2.2.1,q1lz C.2.2.2.2.2.2.1]
abbrev q1n6:Type:=Int×Int×Int×Int
def q1n7 (v:q1n6):St:=⟨[(0,.agg [i6 v.1,i6 v.2.1]),(1,.agg [i6 v.2.2.1,i6 v.2.2.2])],[]⟩
abbrev q1n8:Type:=Int×Int×Int×Int×Int×Int
def q1n9 (v:q1n8):St:=⟨[(2,.ptr 0 0),(3,.ptr 1 0),(4,.ptr 2 0)],[.cells [i6 v.1,i6 v.2.1],.cells [i6 v.2.2.1,i6 v.2.2.2.1],.cells [i6 v.2.2.2.2.1,i6 v.2.2.2.2.2]]⟩
def q1na (C:q1n3) (v:q1n6):Dt q1n8:=(Dt.ret (v.1,v.2.1,v.2.2.1,v.2.2.2,(0:Int),(0:Int)))
abbrev q3zn {V Y:Type}:=@rg q1n3 V Y tysT (fun C=>(orc (q1n5 C))) 81
theorem q1nb C v:q3zn (regO (qcy f62) 0) false (an [2,3,4]) q1n7 q1na q1n9 C v:=rgI (by kernel_rfl)
abbrev q1nc:Type:=Int×Int×Int×Int×Int×Int×Int
def q1nd (v:q1nc):St:=⟨[(2,.ptr 0 0),(3,.ptr 1 0),(4,.ptr 2 0),(6,i6 v.1)],[.cells [i6 v.2.1,i6 v.2.2.1],.cells [i6 v.2.2.2.1,i6 v.2.2.2.2.1],.cells [i6 v.2.2.2.2.2.1,i6 v.2.2.2.2.2.2]]⟩
def q1ne (C:q1n3) (v:q1n8):Dt q1nc:=(Dt.bnd (C.1 ((v.1,v.2.1,()),(v.2.2.1,v.2.2.2.1,()),())) fun r1=>(Dt.ret (r1,v.1,v.2.1,v.2.2.1,v.2.2.2.1,v.2.2.2.2.1,v.2.2.2.2.2)))
theorem q1nf C v:q3zn (regO (qcy f62) 1) false (an [2,3,4,6]) q1n9 q1ne q1nd C v:=rgI (by kernel_rfl)
abbrev q1ng:Type:=Int×Bool×Int×Int×Int×Int×Int×Int
def q1nh (v:q1ng):St:=⟨[(2,.ptr 0 0),(3,.ptr 1 0),(4,.ptr 2 0),(6,i6 v.1),(18,.bool v.2.1)],[.cells [i6 v.2.2.1,i6 v.2.2.2.1],.cells [i6 v.2.2.2.2.1,i6 v.2.2.2.2.2.1],.cells [i6 v.2.2.2.2.2.2.1,i6 v.2.2.2.2.2.2.2]]⟩
def q1ni (C:q1n3) (v:q1nc):Dt q1ng:=(Dt.ret (v.1,(v.1!=(0:Int)),v.2.1,v.2.2.1,v.2.2.2.1,v.2.2.2.2.1,v.2.2.2.2.2.1,v.2.2.2.2.2.2))
theorem q1nj C v:q3zn (regO (qcy f62) 2) false (an [2,3,4,6,18]) q1nd q1ni q1nh C v:=rgI (by kernel_rfl)
abbrev q1nk:Type:=Int×Int×Int
def q1nl (v:q1nk):St:=⟨[(4,.ptr 0 0),(5,i6 v.1)],[.cells [i6 v.2.1,i6 v.2.2]]⟩
def q1nm (C:q1n3) (v:q1ng):Dt q1nk:=(Dt.ret (v.1,(0:Int),(0:Int)))
theorem q1nn C v:q3zn (regO (qcy f62) 3) false (an [4,5]) q1nh q1nm q1nl C v:=rgI (by kernel_rfl)
abbrev q1no:Type:=Int×Int×Int×Int×Int×Int×Int
def q1np (v:q1no):St:=⟨[(2,.ptr 0 0),(3,.ptr 1 0),(4,.ptr 2 0),(7,i6 v.1)],[.cells [i6 v.2.1,i6 v.2.2.1],.cells [i6 v.2.2.2.1,i6 v.2.2.2.2.1],.cells [i6 v.2.2.2.2.2.1,i6 v.2.2.2.2.2.2]]⟩
def q1nq (C:q1n3) (v:q1ng):Dt q1no:=(Dt.bnd (C.2.1 (((IntKind.wrap .u64 v.2.2.2.1),()),((IntKind.wrap .u64 v.2.2.2.2.2.1),()),())) fun r1=>(Dt.ret ((IntKind.wrap .i64 r1),v.2.2.1,v.2.2.2.1,v.2.2.2.2.1,v.2.2.2.2.2.1,v.2.2.2.2.2.2.1,v.2.2.2.2.2.2.2)))
theorem q1nr C v:q3zn (regO (qcy f62) 4) false (an [2,3,4,7]) q1nh q1nq q1np C v:=rgI (by kernel_rfl)
abbrev q1ns:Type:=Int×Int×Int×Int×Int×Int×Int×Bool×Int×Int
def q1nt (v:q1ns):St:=⟨[(2,.ptr 0 0),(3,.ptr 1 0),(4,.ptr 2 0),(7,i6 v.1),(8,.ptr 3 0)],[.cells [i6 v.2.1,i6 v.2.2.1],.cells [i6 v.2.2.2.1,i6 v.2.2.2.2.1],.cells [i6 v.2.2.2.2.2.1,i6 v.2.2.2.2.2.2.1],.cells [.bool v.2.2.2.2.2.2.2.1,u6 v.2.2.2.2.2.2.2.2.1,u6 v.2.2.2.2.2.2.2.2.2]]⟩
def q1nu (C:q1n3) (v:q1no):Dt q1ns:=(Dt.ite (v.1==(0:Int)) Dt.fail (Dt.bnd (C.2.2.2.1 ((v.2.1,()),((IntKind.wrap .i64 (Int.tdiv v.2.2.2.2.1 v.1)),()),())) fun r1=>(Dt.ite (v.1==(0:Int)) Dt.fail (Dt.bnd (C.2.2.2.1 ((v.2.2.2.1,()),((IntKind.wrap .i64 (Int.tdiv v.2.2.1 v.1)),()),())) fun r2=>(Dt.bnd (C.2.2.1 ((r1.1,r1.2.1,r1.2.2,()),(r2.1,r2.2.1,r2.2.2,()),())) fun r3=>(Dt.ret (v.1,v.2.1,v.2.2.1,v.2.2.2.1,v.2.2.2.2.1,v.2.2.2.2.2.1,v.2.2.2.2.2.2,r3.1,r3.2.1,r3.2.2)))))))
theorem q1nv C v:q3zn (regO (qcy f62) 5) true (an [2,3,4,7,8]) q1np q1nu q1nt C v:=rgI (by kernel_rfl)
abbrev q1nw:Type:=Int×Int×Int×Int×Int×Int×Int×Int×Bool×Int×Int
def q1nx (v:q1nw):St:=⟨[(2,.ptr 0 0),(3,.ptr 1 0),(4,.ptr 2 0),(7,i6 v.1),(8,.ptr 3 0),(10,u6 v.2.1)],[.cells [i6 v.2.2.1,i6 v.2.2.2.1],.cells [i6 v.2.2.2.2.1,i6 v.2.2.2.2.2.1],.cells [i6 v.2.2.2.2.2.2.1,i6 v.2.2.2.2.2.2.2.1],.cells [.bool v.2.2.2.2.2.2.2.2.1,u6 v.2.2.2.2.2.2.2.2.2.1,u6 v.2.2.2.2.2.2.2.2.2.2]]⟩
def q1ny (C:q1n3) (v:q1ns):Dt q1nw:=(Dt.bnd (C.2.2.2.2.1 ((v.2.2.2.2.2.2.2.1,v.2.2.2.2.2.2.2.2.1,v.2.2.2.2.2.2.2.2.2,()),((IntKind.wrap .u64 v.1),()),())) fun r1=>(Dt.ret (v.1,r1.2.2.2,v.2.1,v.2.2.1,v.2.2.2.1,v.2.2.2.2.1,v.2.2.2.2.2.1,v.2.2.2.2.2.2.1,v.2.2.2.2.2.2.2.1,v.2.2.2.2.2.2.2.2.1,v.2.2.2.2.2.2.2.2.2)))
theorem q1nz C v:q3zn (regO (qcy f62) 6) false (an [2,3,4,7,8,10]) q1nt q1ny q1nx C v:=rgI (by kernel_rfl)
abbrev q1o0:Type:=Int×Int×Int×Int×Int×Int×Int×Int×Bool×Int×Int
def q1o1 (v:q1o0):St:=⟨[(2,.ptr 0 0),(3,.ptr 1 0),(4,.ptr 2 0),(7,i6 v.1),(8,.ptr 3 0),(11,u6 v.2.1)],[.cells [i6 v.2.2.1,i6 v.2.2.2.1],.cells [i6 v.2.2.2.2.1,i6 v.2.2.2.2.2.1],.cells [i6 v.2.2.2.2.2.2.1,i6 v.2.2.2.2.2.2.2.1],.cells [.bool v.2.2.2.2.2.2.2.2.1,u6 v.2.2.2.2.2.2.2.2.2.1,u6 v.2.2.2.2.2.2.2.2.2.2]]⟩
def q1o2 (C:q1n3) (v:q1nw):Dt q1o0:=(Dt.bnd (C.2.1 (((IntKind.wrap .u64 v.1),()),(v.2.1,()),())) fun r1=>(Dt.ret (v.1,r1,v.2.2.1,v.2.2.2.1,v.2.2.2.2.1,v.2.2.2.2.2.1,v.2.2.2.2.2.2.1,v.2.2.2.2.2.2.2.1,v.2.2.2.2.2.2.2.2.1,v.2.2.2.2.2.2.2.2.2.1,v.2.2.2.2.2.2.2.2.2.2)))
theorem q1o3 C v:q3zn (regO (qcy f62) 7) false (an [2,3,4,7,8,11]) q1nx q1o2 q1o1 C v:=rgI (by kernel_rfl)
def q1o4 (C:q1n3) (v:q1o0):Dt q1o0:=(Dt.bnd (C.2.2.2.2.1 ((v.2.2.2.2.2.2.2.2.1,v.2.2.2.2.2.2.2.2.2.1,v.2.2.2.2.2.2.2.2.2.2,()),(v.2.1,()),())) fun r1=>(Dt.ret (v.1,v.2.1,v.2.2.1,v.2.2.2.1,v.2.2.2.2.1,v.2.2.2.2.2.1,v.2.2.2.2.2.2.1,v.2.2.2.2.2.2.2.1,r1.1,r1.2.1,r1.2.2.1)))
theorem q1o5 C v:q3zn (regO (qcy f62) 8) false (an [2,3,4,7,8,11]) q1o1 q1o4 q1o1 C v:=rgI (by kernel_rfl)
abbrev q1o6:Type:=Int×Int×Int×Int×Bool×Int×Int
def q1o7 (v:q1o6):St:=⟨[(4,.ptr 0 0),(8,.ptr 1 0),(12,u6 v.1),(13,u6 v.2.1)],[.cells [i6 v.2.2.1,i6 v.2.2.2.1],.cells [.bool v.2.2.2.2.1,u6 v.2.2.2.2.2.1,u6 v.2.2.2.2.2.2]]⟩
def q1o8 (C:q1n3) (v:q1o0):Dt q1o6:=(Dt.ite (v.1==(0:Int)) Dt.fail (Dt.ite (v.2.1==(0:Int)) Dt.fail (Dt.bnd (C.2.2.2.2.2.1 (((IntKind.wrap .u64 (IntKind.wrap .i64 (Int.tdiv v.2.2.2.1 v.1))),()),((IntKind.wrap .u64 (Int.tdiv (IntKind.wrap .u64 v.2.2.2.2.2.1) v.2.1)),()),())) fun r1=>(Dt.ret (r1.1,r1.2,v.2.2.2.2.2.2.1,v.2.2.2.2.2.2.2.1,v.2.2.2.2.2.2.2.2.1,v.2.2.2.2.2.2.2.2.2.1,v.2.2.2.2.2.2.2.2.2.2)))))
theorem q1o9 C v:q3zn (regO (qcy f62) 9) true (an [4,8,12,13]) q1o1 q1o8 q1o7 C v:=rgI (by kernel_rfl)
def q1oa (C:q1n3) (v:q1o6):Dt q1nk:=(Dt.bnd (C.2.2.2.2.2.2.1 ((v.2.2.2.2.1,v.2.2.2.2.2.1,v.2.2.2.2.2.2,()),(v.1,()),(v.2.1,()),())) fun r1=>(Dt.ret (r1.2.2,r1.1,r1.2.1)))
theorem q1ob C v:q3zn (regO (qcy f62) 10) false (an [4,5]) q1o7 q1oa q1nl C v:=rgI (by kernel_rfl)
def q1oc (d:Nat) (x:q1mz):Option q1n0 :=
 (q1na (q1n4 d) (x.1.1,x.1.2.1,x.2.1.1,x.2.1.2.1)).eval fun y0 =>
 (q1ne (q1n4 d) y0).eval fun y1 =>
 (q1ni (q1n4 d) y1).eval fun y2 =>
 bif y2.2.1 then ((q1nm (q1n4 d) y2).eval fun y3 =>
 some (y3.2.1,y3.2.2,y3.1)) else ((q1nq (q1n4 d) y2).eval fun y4 =>
 (q1nu (q1n4 d) y4).eval fun y5 =>
 (q1ny (q1n4 d) y5).eval fun y6 =>
 (q1o2 (q1n4 d) y6).eval fun y7 =>
 (q1o4 (q1n4 d) y7).eval fun y8 =>
 (q1o8 (q1n4 d) y8).eval fun y9 =>
 (q1oa (q1n4 d) y9).eval fun y10 =>
 some (y10.2.1,y10.2.2,y10.1))
theorem q1od (d:Nat):COK prog (q1n2 (q1oc d)):=by
 have hm:prog.follows .mixedOrders=true:=qjt
 have hT:=tys
 have hC0:OrcOK prog (orc (q1n5 (q1n4 d))):=qcs (by
  intro S hS
  simp only [q1n5,List.mem_cons,List.not_mem_nil,or_false] at hS
  rcases hS with rfl | rfl | rfl | rfl | rfl | rfl | rfl
  · exact qyo d
  · exact q1jp d
  · exact q1l2 d
  · exact q122 d
  · exact q1lu d
  · exact qmn d
  · exact q1mx d)
 have hC:OrcOK prog (orc (q1n5 (q1n4 d))):=hC0
 refine q8e (c:=qcy f62) (fn:=f62) hT (by kernel_rfl) (by kernel_rfl) (by decide) fun x r h w0 φ0 Q hend=>?_
 replace h:q1oc d x=some r:=h
 unfold q1oc at h
 show Run prog w0 φ0 81 (qcy f62) ⟨[(0,.agg [.int .i64 x.1.1,.int .i64 x.1.2.1]),(1,.agg [.int .i64 x.2.1.1,.int .i64 x.2.1.2.1])],[]⟩ Q
 refine q3yx hm hT hC (q1nb (q1n4 d) (x.1.1,x.1.2.1,x.2.1.1,x.2.1.2.1)) h fun y0 h=>?_
 refine q7y ?_
 refine q3yx hm hT hC (q1nf (q1n4 d) y0) h fun y1 h=>?_
 refine q3yx hm hT hC (q1nj (q1n4 d) y1) h fun y2 h=>?_
 refine q82 (v:=y2.2.1) (by kernel_rfl) h ?_ ?_
 ·
  intro h
  refine q3yx hm hT hC (q1nn (q1n4 d) y2) h fun y3 h=>?_
  refine q7x (q7m ?_)
  cases h
  exact (hend _ (by kernel_rfl)).2
 ·
  intro h
  refine q7u (q7k ?_)
  refine q3yx hm hT hC (q1nr (q1n4 d) y2) h fun y4 h=>?_
  refine q3yx hm hT hC (q1nv (q1n4 d) y4) h fun y5 h=>?_
  refine q3yx hm hT hC (q1nz (q1n4 d) y5) h fun y6 h=>?_
  refine q3yx hm hT hC (q1o3 (q1n4 d) y6) h fun y7 h=>?_
  refine q3yx hm hT hC (q1o5 (q1n4 d) y7) h fun y8 h=>?_
  refine q3yx hm hT hC (q1o9 (q1n4 d) y8) h fun y9 h=>?_
  refine q3yx hm hT hC (q1ob (q1n4 d) y9) h fun y10 h=>?_
  refine q7x ?_
  cases h
  exact (hend _ (by kernel_rfl)).2
abbrev q1oe:List Pk:=[.row Rii true,.row Rii true]
abbrev q1of:Type:=Dii×Dii×Unit
abbrev q1og:Type:=Int×Int×Int
def q1oh (r:q1og):LV×List Ob:=(.tup [.agg [.int .i64 r.1,.int .i64 r.2.1],.int .i64 r.2.2],[])
def q1oi (F:q1of→Option q1og):Go.Tx.Spec:=⟨61,q1oe,q1og,F,q1oh⟩
abbrev q1oj:Type:=(q1mz→Option q1n0)×(qy6→Option qy7)×Unit
def q1ok (d:Nat):q1oj:=(q1oc d,qyn d,())
def q1ol (C:q1oj):List Go.Tx.Spec:=[q1n2 C.1,qy9 C.2.1]
abbrev q1om:Type:=Int×Int×Int×Int
def q1on (v:q1om):St:=⟨[(0,.agg [i6 v.1,i6 v.2.1]),(1,.agg [i6 v.2.2.1,i6 v.2.2.2])],[]⟩
abbrev q1oo:Type:=Int×Int×Int×Int×Int×Int
def q1op (v:q1oo):St:=⟨[(2,.ptr 0 0),(3,.ptr 1 0),(4,.ptr 2 0)],[.cells [i6 v.1,i6 v.2.1],.cells [i6 v.2.2.1,i6 v.2.2.2.1],.cells [i6 v.2.2.2.2.1,i6 v.2.2.2.2.2]]⟩
def q1oq (C:q1oj) (v:q1om):Dt q1oo:=(Dt.ret (v.1,v.2.1,v.2.2.1,v.2.2.2,(0:Int),(0:Int)))
abbrev q3zo {V Y:Type}:=@rg q1oj V Y tysT (fun C=>(orc (q1ol C))) 23
theorem q1or C v:q3zo (regO (qcy f61) 0) false (an [2,3,4]) q1on q1oq q1op C v:=rgI (by kernel_rfl)
abbrev q1os:Type:=Int×Int×Int×Int×Int×Int×Int
def q1ot (v:q1os):St:=⟨[(2,.ptr 0 0),(3,.ptr 1 0),(4,.ptr 2 0),(6,i6 v.1)],[.cells [i6 v.2.1,i6 v.2.2.1],.cells [i6 v.2.2.2.1,i6 v.2.2.2.2.1],.cells [i6 v.2.2.2.2.2.1,i6 v.2.2.2.2.2.2]]⟩
def q1ou (C:q1oj) (v:q1oo):Dt q1os:=(Dt.bnd (C.2.1 ((v.1,v.2.1,()),(v.2.2.1,v.2.2.2.1,()),())) fun r1=>(Dt.ret (r1,v.1,v.2.1,v.2.2.1,v.2.2.2.1,v.2.2.2.2.1,v.2.2.2.2.2)))
theorem q1ov C v:q3zo (regO (qcy f61) 1) false (an [2,3,4,6]) q1op q1ou q1ot C v:=rgI (by kernel_rfl)
abbrev q1ow:Type:=Int×Bool×Int×Int×Int×Int×Int×Int
def q1ox (v:q1ow):St:=⟨[(2,.ptr 0 0),(3,.ptr 1 0),(4,.ptr 2 0),(6,i6 v.1),(11,.bool v.2.1)],[.cells [i6 v.2.2.1,i6 v.2.2.2.1],.cells [i6 v.2.2.2.2.1,i6 v.2.2.2.2.2.1],.cells [i6 v.2.2.2.2.2.2.1,i6 v.2.2.2.2.2.2.2]]⟩
def q1oy (C:q1oj) (v:q1os):Dt q1ow:=(Dt.ret (v.1,(v.1!=(0:Int)),v.2.1,v.2.2.1,v.2.2.2.1,v.2.2.2.2.1,v.2.2.2.2.2.1,v.2.2.2.2.2.2))
theorem q1oz C v:q3zo (regO (qcy f61) 2) false (an [2,3,4,6,11]) q1ot q1oy q1ox C v:=rgI (by kernel_rfl)
abbrev q1p0:Type:=Int×Int×Int
def q1p1 (v:q1p0):St:=⟨[(4,.ptr 0 0),(5,i6 v.1)],[.cells [i6 v.2.1,i6 v.2.2]]⟩
def q1p2 (C:q1oj) (v:q1ow):Dt q1p0:=(Dt.ret (v.1,(0:Int),(0:Int)))
theorem q1p3 C v:q3zo (regO (qcy f61) 3) false (an [4,5]) q1ox q1p2 q1p1 C v:=rgI (by kernel_rfl)
def q1p4 (C:q1oj) (v:q1ow):Dt q1oo:=(Dt.ret (v.2.2.1,v.2.2.2.1,(IntKind.wrap .i64 (0 - v.2.2.2.2.1)),v.2.2.2.2.2.1,v.2.2.2.2.2.2.1,v.2.2.2.2.2.2.2))
theorem q1p5 C v:q3zo (regO (qcy f61) 4) false (an [2,3,4]) q1ox q1p4 q1op C v:=rgI (by kernel_rfl)
def q1p6 (C:q1oj) (v:q1oo):Dt q1p0:=(Dt.bnd (C.1 ((v.1,v.2.1,()),(v.2.2.1,v.2.2.2.1,()),())) fun r1=>(Dt.ret (r1.2.2,r1.1,r1.2.1)))
theorem q1p7 C v:q3zo (regO (qcy f61) 5) false (an [4,5]) q1op q1p6 q1p1 C v:=rgI (by kernel_rfl)
def q1p8 (d:Nat) (x:q1of):Option q1og :=
 (q1oq (q1ok d) (x.1.1,x.1.2.1,x.2.1.1,x.2.1.2.1)).eval fun y0 =>
 (q1ou (q1ok d) y0).eval fun y1 =>
 (q1oy (q1ok d) y1).eval fun y2 =>
 bif y2.2.1 then ((q1p2 (q1ok d) y2).eval fun y3 =>
 some (y3.2.1,y3.2.2,y3.1)) else ((q1p4 (q1ok d) y2).eval fun y4 =>
 (q1p6 (q1ok d) y4).eval fun y5 =>
 some (y5.2.1,y5.2.2,y5.1))
theorem q1p9 (d:Nat):COK prog (q1oi (q1p8 d)):=by
 have hm:prog.follows .mixedOrders=true:=qjt
 have hT:=tys
 have hC0:OrcOK prog (orc (q1ol (q1ok d))):=qcs (by
  intro S hS
  simp only [q1ol,List.mem_cons,List.not_mem_nil,or_false] at hS
  rcases hS with rfl | rfl
  · exact q1od d
  · exact qyo d)
 have hC:OrcOK prog (orc (q1ol (q1ok d))):=hC0
 refine q8e (c:=qcy f61) (fn:=f61) hT (by kernel_rfl) (by kernel_rfl) (by decide) fun x r h w0 φ0 Q hend=>?_
 replace h:q1p8 d x=some r:=h
 unfold q1p8 at h
 show Run prog w0 φ0 23 (qcy f61) ⟨[(0,.agg [.int .i64 x.1.1,.int .i64 x.1.2.1]),(1,.agg [.int .i64 x.2.1.1,.int .i64 x.2.1.2.1])],[]⟩ Q
 refine q3yx hm hT hC (q1or (q1ok d) (x.1.1,x.1.2.1,x.2.1.1,x.2.1.2.1)) h fun y0 h=>?_
 refine q7y ?_
 refine q3yx hm hT hC (q1ov (q1ok d) y0) h fun y1 h=>?_
 refine q3yx hm hT hC (q1oz (q1ok d) y1) h fun y2 h=>?_
 refine q82 (v:=y2.2.1) (by kernel_rfl) h ?_ ?_
 ·
  intro h
  refine q3yx hm hT hC (q1p3 (q1ok d) y2) h fun y3 h=>?_
  refine q7x (q7m ?_)
  cases h
  exact (hend _ (by kernel_rfl)).2
 ·
  intro h
  refine q7u (q7k ?_)
  refine q3yx hm hT hC (q1p5 (q1ok d) y2) h fun y4 h=>?_
  refine q3yx hm hT hC (q1p7 (q1ok d) y4) h fun y5 h=>?_
  refine q7x ?_
  cases h
  exact (hend _ (by kernel_rfl)).2
abbrev q1pa:List Pk:=[.row Riii true,.row Rii true]
abbrev q1pb:Type:=Diii×Dii×Unit
abbrev q1pc:Type:=Int×Int×Int
def q1pd (r:q1pc):LV×List Ob:=(.tup [.agg [.int .i64 r.1,.int .i64 r.2.1],.int .i64 r.2.2],[])
def q1pe (F:q1pb→Option q1pc):Go.Tx.Spec:=⟨52,q1pa,q1pc,F,q1pd⟩
abbrev q1pf:Type:=(qny→Option qnz)×(qmy→Option qmz)×(q1it→Option q1iu)×(q1i7→Option q1i8)×(q1f3→Option q1f4)×Unit
def q1pg (d:Nat):q1pf:=(qo3 d,qn3 d,q1iy d,q1iq d,q1i4 d,())
def q1ph (C:q1pf):List Go.Tx.Spec:=[qo1 C.1,qn1 C.2.1,q1iw C.2.2.1,q1ia C.2.2.2.1,q1f6 C.2.2.2.2.1]
abbrev q1pi:Type:=Int×Int×Int×Int×Int
def q1pj (v:q1pi):St:=⟨[(0,.agg [i6 v.1,i6 v.2.1,i6 v.2.2.1]),(1,.agg [i6 v.2.2.2.1,i6 v.2.2.2.2])],[]⟩
abbrev q1pk:Type:=Int×Int×Int×Int×Int×Int×Int
def q1pl (v:q1pk):St:=⟨[(2,.ptr 0 0),(3,.ptr 1 0),(4,.ptr 2 0)],[.cells [i6 v.1,i6 v.2.1,i6 v.2.2.1],.cells [i6 v.2.2.2.1,i6 v.2.2.2.2.1],.cells [i6 v.2.2.2.2.2.1,i6 v.2.2.2.2.2.2]]⟩
def q1pm (C:q1pf) (v:q1pi):Dt q1pk:=(Dt.ret (v.1,v.2.1,v.2.2.1,v.2.2.2.1,v.2.2.2.2,(0:Int),(0:Int)))
abbrev q3zp {V Y:Type}:=@rg q1pf V Y tysT (fun C=>(orcI 106 q1d3 (orc (q1ph C)))) 111
theorem q1pn C v:q3zp (regO (qcy f52) 0) false (an [2,3,4]) q1pj q1pm q1pl C v:=rgI (by kernel_rfl)
abbrev q1po:Type:=Int×Int×Int×Int×Int×Int×Int×Int
def q1pp (v:q1po):St:=⟨[(2,.ptr 0 0),(3,.ptr 1 0),(4,.ptr 2 0),(6,i6 v.1)],[.cells [i6 v.2.1,i6 v.2.2.1,i6 v.2.2.2.1],.cells [i6 v.2.2.2.2.1,i6 v.2.2.2.2.2.1],.cells [i6 v.2.2.2.2.2.2.1,i6 v.2.2.2.2.2.2.2]]⟩
def q1pq (C:q1pf) (v:q1pk):Dt q1po:=(Dt.bnd (C.1 ((v.1,v.2.1,v.2.2.1,()),())) fun r1=>(Dt.bnd (C.2.1 ((v.2.2.2.1,v.2.2.2.2.1,()),())) fun r2=>(Dt.ret ((tmax r1 r2),v.1,v.2.1,v.2.2.1,v.2.2.2.1,v.2.2.2.2.1,v.2.2.2.2.2.1,v.2.2.2.2.2.2))))
theorem q1pr C v:q3zp (regO (qcy f52) 1) true (an [2,3,4,6]) q1pl q1pq q1pp C v:=rgI (by kernel_rfl)
abbrev q1ps:Type:=Int×Bool×Int×Int×Int×Int×Int×Int×Int
def q1pt (v:q1ps):St:=⟨[(2,.ptr 0 0),(3,.ptr 1 0),(4,.ptr 2 0),(6,i6 v.1),(24,.bool v.2.1)],[.cells [i6 v.2.2.1,i6 v.2.2.2.1,i6 v.2.2.2.2.1],.cells [i6 v.2.2.2.2.2.1,i6 v.2.2.2.2.2.2.1],.cells [i6 v.2.2.2.2.2.2.2.1,i6 v.2.2.2.2.2.2.2.2]]⟩
def q1pu (C:q1pf) (v:q1po):Dt q1ps:=(Dt.ret (v.1,(v.1!=(0:Int)),v.2.1,v.2.2.1,v.2.2.2.1,v.2.2.2.2.1,v.2.2.2.2.2.1,v.2.2.2.2.2.2.1,v.2.2.2.2.2.2.2))
theorem q1pv C v:q3zp (regO (qcy f52) 2) false (an [2,3,4,6,24]) q1pp q1pu q1pt C v:=rgI (by kernel_rfl)
abbrev q1pw:Type:=Int×Int×Int
def q1px (v:q1pw):St:=⟨[(4,.ptr 0 0),(5,i6 v.1)],[.cells [i6 v.2.1,i6 v.2.2]]⟩
def q1py (C:q1pf) (v:q1ps):Dt q1pw:=(Dt.ret (v.1,(0:Int),(0:Int)))
theorem q1pz C v:q3zp (regO (qcy f52) 3) false (an [4,5]) q1pt q1py q1px C v:=rgI (by kernel_rfl)
abbrev q1q0:Type:=Int×Int×Int×Int×Int×Int
def q1q1 (v:q1q0):St:=⟨[(3,.ptr 0 0),(4,.ptr 1 0),(7,.ptr 2 0)],[.cells [i6 v.1,i6 v.2.1],.cells [i6 v.2.2.1,i6 v.2.2.2.1],.cells [i6 v.2.2.2.2.1,u6 v.2.2.2.2.2]]⟩
def q1q2 (C:q1pf) (v:q1ps):Dt q1q0:=(Dt.bnd (C.2.2.1 ((v.2.2.2.1,v.2.2.2.2.2.2.1,v.2.2.2.2.1,v.2.2.2.2.2.1,()),())) fun r1=>(Dt.ret (v.2.2.2.2.2.1,v.2.2.2.2.2.2.1,v.2.2.2.2.2.2.2.1,v.2.2.2.2.2.2.2.2,r1.1,r1.2)))
theorem q1q3 C v:q3zp (regO (qcy f52) 4) false (an [3,4,7]) q1pt q1q2 q1q1 C v:=rgI (by kernel_rfl)
abbrev q1q4:Type:=Bool×Int×Int×Int×Int×Int×Int
def q1q5 (v:q1q4):St:=⟨[(3,.ptr 0 0),(4,.ptr 1 0),(7,.ptr 2 0),(8,.bool v.1)],[.cells [i6 v.2.1,i6 v.2.2.1],.cells [i6 v.2.2.2.1,i6 v.2.2.2.2.1],.cells [i6 v.2.2.2.2.2.1,u6 v.2.2.2.2.2.2]]⟩
def q1q6 (C:q1pf) (v:q1q0):Dt q1q4:=(Dt.ret ((decide (v.2.2.2.2.1<(0:Int))),v.1,v.2.1,v.2.2.1,v.2.2.2.1,v.2.2.2.2.1,v.2.2.2.2.2))
theorem q1q7 C v:q3zp (regO (qcy f52) 5) false (an [3,4,7,8]) q1q1 q1q6 q1q5 C v:=rgI (by kernel_rfl)
abbrev q1q8:Type:=Bool×Bool×Int×Int×Int×Int×Int×Int
def q1q9 (v:q1q8):St:=⟨[(3,.ptr 0 0),(4,.ptr 1 0),(7,.ptr 2 0),(8,.bool v.1),(42,.bool v.2.1)],[.cells [i6 v.2.2.1,i6 v.2.2.2.1],.cells [i6 v.2.2.2.2.1,i6 v.2.2.2.2.2.1],.cells [i6 v.2.2.2.2.2.2.1,u6 v.2.2.2.2.2.2.2]]⟩
def q1qa (C:q1pf) (v:q1q4):Dt q1q8:=(Dt.ret (v.1,v.1,v.2.1,v.2.2.1,v.2.2.2.1,v.2.2.2.2.1,v.2.2.2.2.2.1,v.2.2.2.2.2.2))
theorem q1qb C v:q3zp (regO (qcy f52) 6) false (an [3,4,7,8,42]) q1q5 q1qa q1q9 C v:=rgI (by kernel_rfl)
abbrev q1qc:Type:=Bool×Int×Int×Int×Int×Int×Int×Int×Int
def q1qd (v:q1qc):St:=⟨[(3,.ptr 0 0),(4,.ptr 1 0),(7,.ptr 2 0),(8,.bool v.1),(9,u6 v.2.1),(10,u6 v.2.2.1)],[.cells [i6 v.2.2.2.1,i6 v.2.2.2.2.1],.cells [i6 v.2.2.2.2.2.1,i6 v.2.2.2.2.2.2.1],.cells [i6 v.2.2.2.2.2.2.2.1,u6 v.2.2.2.2.2.2.2.2]]⟩
def q1qe (C:q1pf) (v:q1q8):Dt q1qc:=(Dt.bnd (q1d3 ((0:Int)) (v.2.2.2.2.2.2.2) ((0:Int))) fun r1=>(Dt.ret (v.1,r1.1,r1.2,v.2.2.1,v.2.2.2.1,v.2.2.2.2.1,v.2.2.2.2.2.1,v.2.2.2.2.2.2.1,v.2.2.2.2.2.2.2)))
theorem q1qf C v:q3zp (regO (qcy f52) 7) false (an [3,4,7,8,9,10]) q1q9 q1qe q1qd C v:=rgI (by kernel_rfl)
def q1qg (C:q1pf) (v:q1qc):Dt q1q4:=(Dt.ret (v.1,v.2.2.2.1,v.2.2.2.2.1,v.2.2.2.2.2.1,v.2.2.2.2.2.2.1,(IntKind.wrap .i64 ((IntKind.wrap .i64 (0 - v.2.2.2.2.2.2.2.1)) - (IntKind.wrap .i64 v.2.2.1))),v.2.1))
theorem q1qh C v:q3zp (regO (qcy f52) 8) false (an [3,4,7,8]) q1qd q1qg q1q5 C v:=rgI (by kernel_rfl)
abbrev q1qi:Type:=Bool×Int×Int×Int×Int×Int
def q1qj (v:q1qi):St:=⟨[(4,.ptr 0 0),(7,.ptr 1 0),(8,.bool v.1),(11,u6 v.2.1)],[.cells [i6 v.2.2.1,i6 v.2.2.2.1],.cells [i6 v.2.2.2.2.1,u6 v.2.2.2.2.2]]⟩
def q1qk (C:q1pf) (v:q1q4):Dt q1qi:=(Dt.ret (v.1,(IntKind.wrap .u64 v.2.2.1),v.2.2.2.1,v.2.2.2.2.1,v.2.2.2.2.2.1,v.2.2.2.2.2.2))
theorem q1ql C v:q3zp (regO (qcy f52) 9) false (an [4,7,8,11]) q1q5 q1qk q1qj C v:=rgI (by kernel_rfl)
abbrev q1qm:Type:=Bool×Int×Int×Int×Int×Int×Int
def q1qn (v:q1qm):St:=⟨[(4,.ptr 0 0),(7,.ptr 1 0),(8,.bool v.1),(11,u6 v.2.1),(12,u6 v.2.2.1)],[.cells [i6 v.2.2.2.1,i6 v.2.2.2.2.1],.cells [i6 v.2.2.2.2.2.1,u6 v.2.2.2.2.2.2]]⟩
def q1qo (C:q1pf) (v:q1qi):Dt q1qm:=(Dt.bnd (C.2.2.2.1 (((IntKind.wrap .u64 v.2.2.2.2.1),()),(v.2.2.2.2.2,()),(v.2.1,()),())) fun r1=>(Dt.ret (v.1,v.2.1,r1,v.2.2.1,v.2.2.2.1,v.2.2.2.2.1,v.2.2.2.2.2)))
theorem q1qp C v:q3zp (regO (qcy f52) 10) false (an [4,7,8,11,12]) q1qj q1qo q1qn C v:=rgI (by kernel_rfl)
abbrev q1qq:Type:=Bool×Int×Int×Int×Int×Int×Int×Int
def q1qr (v:q1qq):St:=⟨[(4,.ptr 0 0),(7,.ptr 1 0),(8,.bool v.1),(11,u6 v.2.1),(12,u6 v.2.2.1),(13,u6 v.2.2.2.1)],[.cells [i6 v.2.2.2.2.1,i6 v.2.2.2.2.2.1],.cells [i6 v.2.2.2.2.2.2.1,u6 v.2.2.2.2.2.2.2]]⟩
def q1qs (C:q1pf) (v:q1qm):Dt q1qq:=(Dt.ret (v.1,v.2.1,v.2.2.1,v.2.1,v.2.2.2.1,v.2.2.2.2.1,v.2.2.2.2.2.1,v.2.2.2.2.2.2))
theorem q1qt C v:q3zp (regO (qcy f52) 11) false (an [4,7,8,11,12,13]) q1qn q1qs q1qr C v:=rgI (by kernel_rfl)
abbrev q1qu:Type:=Bool×Int×Int×Int×Bool×Int×Int×Int×Int
def q1qv (v:q1qu):St:=⟨[(4,.ptr 0 0),(7,.ptr 1 0),(8,.bool v.1),(11,u6 v.2.1),(12,u6 v.2.2.1),(13,u6 v.2.2.2.1),(69,.bool v.2.2.2.2.1)],[.cells [i6 v.2.2.2.2.2.1,i6 v.2.2.2.2.2.2.1],.cells [i6 v.2.2.2.2.2.2.2.1,u6 v.2.2.2.2.2.2.2.2]]⟩
def q1qw (C:q1pf) (v:q1qq):Dt q1qu:=(Dt.ret (v.1,v.2.1,v.2.2.1,v.2.2.2.1,(decide (v.2.2.1 > (0:Int))),v.2.2.2.2.1,v.2.2.2.2.2.1,v.2.2.2.2.2.2.1,v.2.2.2.2.2.2.2))
theorem q1qx C v:q3zp (regO (qcy f52) 12) false (an [4,7,8,11,12,13,69]) q1qr q1qw q1qv C v:=rgI (by kernel_rfl)
def q1qy (C:q1pf) (v:q1qu):Dt q1qq:=(Dt.ite (v.2.2.1==(0:Int)) Dt.fail (Dt.ret (v.1,v.2.1,(Int.tmod v.2.2.2.1 v.2.2.1),v.2.2.1,v.2.2.2.2.2.1,v.2.2.2.2.2.2.1,v.2.2.2.2.2.2.2.1,v.2.2.2.2.2.2.2.2)))
theorem q1qz C v:q3zp (regO (qcy f52) 13) true (an [4,7,8,11,12,13]) q1qv q1qy q1qr C v:=rgI (by kernel_rfl)
abbrev q1r0:Type:=Bool×Int×Int×Int×Int×Int×Int×Int
def q1r1 (v:q1r0):St:=⟨[(4,.ptr 0 0),(7,.ptr 1 0),(8,.bool v.1),(11,u6 v.2.1),(13,u6 v.2.2.1),(14,u6 v.2.2.2.1)],[.cells [i6 v.2.2.2.2.1,i6 v.2.2.2.2.2.1],.cells [i6 v.2.2.2.2.2.2.1,u6 v.2.2.2.2.2.2.2]]⟩
def q1r2 (C:q1pf) (v:q1qu):Dt q1r0:=(Dt.ite (v.2.2.2.1==(0:Int)) Dt.fail (Dt.ret (v.1,v.2.1,v.2.2.2.1,(IntKind.wrap .u64 (Int.tdiv (IntKind.wrap .u64 v.2.2.2.2.2.2.2.1) v.2.2.2.1)),v.2.2.2.2.2.1,v.2.2.2.2.2.2.1,v.2.2.2.2.2.2.2.1,v.2.2.2.2.2.2.2.2)))
theorem q1r3 C v:q3zp (regO (qcy f52) 14) false (an [4,7,8,11,13,14]) q1qv q1r2 q1r1 C v:=rgI (by kernel_rfl)
abbrev q1r4:Type:=Bool×Int×Int×Int×Int×Int×Int
def q1r5 (v:q1r4):St:=⟨[(4,.ptr 0 0),(8,.bool v.1),(11,u6 v.2.1),(13,u6 v.2.2.1),(14,u6 v.2.2.2.1),(15,u6 v.2.2.2.2.1)],[.cells [i6 v.2.2.2.2.2.1,i6 v.2.2.2.2.2.2]]⟩
def q1r6 (C:q1pf) (v:q1r0):Dt q1r4:=(Dt.ite (v.2.2.1==(0:Int)) Dt.fail (Dt.bnd (C.2.2.2.2.1 (((Int.tmod (IntKind.wrap .u64 v.2.2.2.2.2.2.1) v.2.2.1),()),(v.2.2.2.2.2.2.2,()),(v.2.2.1,()),())) fun r1=>(Dt.ret (v.1,v.2.1,v.2.2.1,v.2.2.2.1,r1.1,v.2.2.2.2.1,v.2.2.2.2.2.1))))
theorem q1r7 C v:q3zp (regO (qcy f52) 15) true (an [4,8,11,13,14,15]) q1r1 q1r6 q1r5 C v:=rgI (by kernel_rfl)
abbrev q1r8:Type:=Bool×Int×Int×Int×Bool×Int×Int
def q1r9 (v:q1r8):St:=⟨[(4,.ptr 0 0),(8,.bool v.1),(11,u6 v.2.1),(13,u6 v.2.2.1),(15,u6 v.2.2.2.1),(96,.bool v.2.2.2.2.1)],[.cells [i6 v.2.2.2.2.2.1,i6 v.2.2.2.2.2.2]]⟩
def q1ra (C:q1pf) (v:q1r4):Dt q1r8:=(Dt.ite (decide (v.2.2.2.1 > (0:Int))) (Dt.ret (v.1,v.2.1,v.2.2.1,v.2.2.2.2.1,true,v.2.2.2.2.2.1,v.2.2.2.2.2.2)) (Dt.ret (v.1,v.2.1,v.2.2.1,v.2.2.2.2.1,(decide (v.2.2.2.2.1 > (9223372036854775807:Int))),v.2.2.2.2.2.1,v.2.2.2.2.2.2)))
theorem q1rb C v:q3zp (regO (qcy f52) 16) false (an [4,8,11,13,15,96]) q1r5 q1ra q1r9 C v:=rgI (by kernel_rfl)
def q1rc (C:q1pf) (v:q1r8):Dt q1pw:=(Dt.ret ((16:Int),(0:Int),(0:Int)))
theorem q1rd C v:q3zp (regO (qcy f52) 17) false (an [4,5]) q1r9 q1rc q1px C v:=rgI (by kernel_rfl)
abbrev q1re:Type:=Bool×Int×Int×Int×Int
def q1rf (v:q1re):St:=⟨[(4,.ptr 0 0),(8,.bool v.1),(17,.ptr 1 0)],[.cells [i6 v.2.1,i6 v.2.2.1],.cells [i6 v.2.2.2.1,i6 v.2.2.2.2]]⟩
def q1rg (C:q1pf) (v:q1r8):Dt q1re:=(Dt.ite (v.2.2.1==(0:Int)) Dt.fail (Dt.ret (v.1,v.2.2.2.2.2.1,v.2.2.2.2.2.2,(IntKind.wrap .i64 v.2.2.2.1),(IntKind.wrap .i64 (IntKind.wrap .u64 (Int.tdiv v.2.1 v.2.2.1))))))
theorem q1rh C v:q3zp (regO (qcy f52) 18) false (an [4,8,17]) q1r9 q1rg q1rf C v:=rgI (by kernel_rfl)
abbrev q1ri:Type:=Bool×Int×Int×Int×Int
def q1rj (v:q1ri):St:=⟨[(4,.ptr 0 0),(17,.ptr 1 0),(105,.bool v.1)],[.cells [i6 v.2.1,i6 v.2.2.1],.cells [i6 v.2.2.2.1,i6 v.2.2.2.2]]⟩
def q1rk (C:q1pf) (v:q1re):Dt q1ri:=(Dt.ret (v.1,v.2.1,v.2.2.1,v.2.2.2.1,v.2.2.2.2))
theorem q1rl C v:q3zp (regO (qcy f52) 19) false (an [4,17,105]) q1rf q1rk q1rj C v:=rgI (by kernel_rfl)
abbrev q1rm:Type:=Int×Int×Int×Int
def q1rn (v:q1rm):St:=⟨[(4,.ptr 0 0),(17,.ptr 1 0)],[.cells [i6 v.1,i6 v.2.1],.cells [i6 v.2.2.1,i6 v.2.2.2]]⟩
def q1ro (C:q1pf) (v:q1ri):Dt q1rm:=(Dt.ret (v.2.1,v.2.2.1,(IntKind.wrap .i64 (0 - v.2.2.2.1)),v.2.2.2.2))
theorem q1rp C v:q3zp (regO (qcy f52) 20) false (an [4,17]) q1rj q1ro q1rn C v:=rgI (by kernel_rfl)
def q1rq (C:q1pf) (v:q1rm):Dt q1pw:=(Dt.ret ((0:Int),v.2.2.1,v.2.2.2))
theorem q1rr C v:q3zp (regO (qcy f52) 21) false (an [4,5]) q1rn q1rq q1px C v:=rgI (by kernel_rfl)
def q1rs  (d:Nat)  (z:Int×Int×Int×Int):Option (q1pc) :=
 (q1rq (q1pg d) z).eval fun y21 =>
 some (y21.2.1,y21.2.2,y21.1)
def q1rt (d:Nat) (self2:(Bool×Int×Int×Int×Int×Int×Int×Int)→Option q1pc) (x2:Bool×Int×Int×Int×Int×Int×Int×Int):Option q1pc :=
 (q1qw (q1pg d) x2).eval fun y12 =>
 bif y12.2.2.2.2.1 then ((q1qy (q1pg d) y12).eval fun y13 =>
 self2 y13) else ((q1r2 (q1pg d) y12).eval fun y14 =>
 (q1r6 (q1pg d) y14).eval fun y15 =>
 (q1ra (q1pg d) y15).eval fun y16 =>
 bif y16.2.2.2.2.1 then ((q1rc (q1pg d) y16).eval fun y17 =>
 some (y17.2.1,y17.2.2,y17.1)) else ((q1rg (q1pg d) y16).eval fun y18 =>
 (q1rk (q1pg d) y18).eval fun y19 =>
 bif y19.1 then ((q1ro (q1pg d) y19).eval fun y20 =>
 q1rs d  y20) else (q1rs d  y19.2)))
def q1ru  (d:Nat)  (z:Bool×Int×Int×Int×Int×Int×Int):Option (q1pc) :=
 (q1qk (q1pg d) z).eval fun y9 =>
 (q1qo (q1pg d) y9).eval fun y10 =>
 (q1qs (q1pg d) y10).eval fun y11 =>
 iter (q1rt d ) d y11
def q1rv (d:Nat) (x:q1pb):Option q1pc :=
 (q1pm (q1pg d) (x.1.1,x.1.2.1,x.1.2.2.1,x.2.1.1,x.2.1.2.1)).eval fun y0 =>
 (q1pq (q1pg d) y0).eval fun y1 =>
 (q1pu (q1pg d) y1).eval fun y2 =>
 bif y2.2.1 then ((q1py (q1pg d) y2).eval fun y3 =>
 some (y3.2.1,y3.2.2,y3.1)) else ((q1q2 (q1pg d) y2).eval fun y4 =>
 (q1q6 (q1pg d) y4).eval fun y5 =>
 (q1qa (q1pg d) y5).eval fun y6 =>
 bif y6.2.1 then ((q1qe (q1pg d) y6).eval fun y7 =>
 (q1qg (q1pg d) y7).eval fun y8 =>
 q1ru d  y8) else (q1ru d  (y6.1,y6.2.2.1,y6.2.2.2.1,y6.2.2.2.2.1,y6.2.2.2.2.2.1,y6.2.2.2.2.2.2.1,y6.2.2.2.2.2.2.2)))
theorem q1rw (d:Nat):COK prog (q1pe (q1rv d)):=by
 have hm:prog.follows .mixedOrders=true:=qjt
 have hT:=tys
 have hC0:OrcOK prog (orc (q1ph (q1pg d))):=qcs (by
  intro S hS
  simp only [q1ph,List.mem_cons,List.not_mem_nil,or_false] at hS
  rcases hS with rfl | rfl | rfl | rfl | rfl
  · exact qo5 d
  · exact qn5 d
  · exact q1j0 d
  · exact q1ir d
  · exact q1i5 d)
 have hC:OrcOK prog (orcI 106 q1d3 (orc (q1ph (q1pg d)))):=(q1d4 q1d8 hC0)
 refine q8e (c:=qcy f52) (fn:=f52) hT (by kernel_rfl) (by kernel_rfl) (by decide) fun x r h w0 φ0 Q hend=>?_
 replace h:q1rv d x=some r:=h
 unfold q1rv at h
 show Run prog w0 φ0 111 (qcy f52) ⟨[(0,.agg [.int .i64 x.1.1,.int .i64 x.1.2.1,.int .i64 x.1.2.2.1]),(1,.agg [.int .i64 x.2.1.1,.int .i64 x.2.1.2.1])],[]⟩ Q
 refine q3yx hm hT hC (q1pn (q1pg d) (x.1.1,x.1.2.1,x.1.2.2.1,x.2.1.1,x.2.1.2.1)) h fun y0 h=>?_
 refine q7y ?_
 refine q3yx hm hT hC (q1pr (q1pg d) y0) h fun y1 h=>?_
 refine q3yx hm hT hC (q1pv (q1pg d) y1) h fun y2 h=>?_
 refine q82 (v:=y2.2.1) (by kernel_rfl) h ?_ ?_
 ·
  intro h
  refine q3yx hm hT hC (q1pz (q1pg d) y2) h fun y3 h=>?_
  refine q7x (q7m ?_)
  cases h
  exact (hend _ (by kernel_rfl)).2
 ·
  intro h
  refine q7u (q7k ?_)
  refine q3yx hm hT hC (q1q3 (q1pg d) y2) h fun y4 h=>?_
  refine q3yx hm hT hC (q1q7 (q1pg d) y4) h fun y5 h=>?_
  refine q81 (r:=r) (F:=q1ru d ) (S:=(fun z=>⟨[(3,.ptr 0 0),(4,.ptr 1 0),(7,.ptr 2 0),(8,.bool z.1)],[.cells [i6 z.2.1,i6 z.2.2.1],.cells [i6 z.2.2.2.1,i6 z.2.2.2.2.1],.cells [i6 z.2.2.2.2.2.1,u6 z.2.2.2.2.2.2]]⟩:q1mh→St)) ?_ ?_
  ·
   intro z h
   unfold q1ru at h
   refine q3yx hm hT hC (q1ql (q1pg d) z) h fun y9 h=>?_
   refine q3yx hm hT hC (q1qp (q1pg d) y9) h fun y10 h=>?_
   refine q3yx hm hT hC (q1qt (q1pg d) y10) h fun y11 h=>?_
   refine q7y (q7z ?_)
   refine q84 (G:=iter (q1rt d )) (S:=(fun x2=>⟨[(4,.ptr 0 0),(7,.ptr 1 0),(8,.bool x2.1),(11,u6 x2.2.1),(12,u6 x2.2.2.1),(13,u6 x2.2.2.2.1)],[.cells [i6 x2.2.2.2.2.1,i6 x2.2.2.2.2.2.1],.cells [i6 x2.2.2.2.2.2.2.1,u6 x2.2.2.2.2.2.2.2]]⟩:q1qq→St)) (fun _=>rfl) ?_ d _ h
   intro n2 x2 h K2 hn2
   replace h:q1rt d  (iter (q1rt d ) n2) x2=some r:=h
   generalize iter (q1rt d ) n2=self2 at h hn2
   unfold q1rt at h
   refine q7y ?_
   refine q3yx hm hT hC (q1qx (q1pg d) x2) h fun y12 h=>?_
   refine q82 (v:=y12.2.2.2.2.1) (by kernel_rfl) h ?_ ?_
   ·
    intro h
    refine q7u (q7k (q7z ?_))
    refine q83 hm hT hC (q1qz (q1pg d) y12) h ?_
    intro y13 h
    refine q7n ?_
    exact hn2 _ h
   ·
    intro h
    refine q7w (q7l (q7l (q7p (q7k ?_))))
    refine q3yx hm hT hC (q1r3 (q1pg d) y12) h fun y14 h=>?_
    refine q3yx hm hT hC (q1r7 (q1pg d) y14) h fun y15 h=>?_
    refine q7y ?_
    refine q3yx hm hT hC (q1rb (q1pg d) y15) h fun y16 h=>?_
    refine q82 (v:=y16.2.2.2.2.1) (by kernel_rfl) h ?_ ?_
    ·
     intro h
     refine q3yx hm hT hC (q1rd (q1pg d) y16) h fun y17 h=>?_
     refine q7x (q7m ?_)
     cases h
     exact (hend _ (by kernel_rfl)).2
    ·
     intro h
     refine q7u (q7k ?_)
     refine q3yx hm hT hC (q1rh (q1pg d) y16) h fun y18 h=>?_
     refine q81 (r:=r) (F:=q1rs d ) (S:=(fun z=>⟨[(4,.ptr 0 0),(17,.ptr 1 0)],[.cells [i6 z.1,i6 z.2.1],.cells [i6 z.2.2.1,i6 z.2.2.2]]⟩:q1mp→St)) ?_ ?_
     ·
      intro z h
      unfold q1rs at h
      refine q3yx hm hT hC (q1rr (q1pg d) z) h fun y21 h=>?_
      refine q7x ?_
      cases h
      exact (hend _ (by kernel_rfl)).2
     intro hj3
     refine q3yx hm hT hC (q1rl (q1pg d) y18) h fun y19 h=>?_
     refine q82 (v:=y19.1) (by kernel_rfl) h ?_ ?_
     ·
      intro h
      refine q83 hm hT hC (q1rp (q1pg d) y19) h ?_
      intro y20 h
      exact hj3 _ h
     ·
      intro h
      refine q7u ?_
      refine qcx (s:=⟨[(4,.ptr 0 0),(17,.ptr 1 0)],[.cells [.int .i64 y19.2.1,.int .i64 y19.2.2.1],.cells [.int .i64 y19.2.2.2.1,.int .i64 y19.2.2.2.2]]⟩) [105] (by kernel_rfl) ?_
      exact hj3 _ h
  intro hj1
  refine q3yx hm hT hC (q1qb (q1pg d) y5) h fun y6 h=>?_
  refine q82 (v:=y6.2.1) (by kernel_rfl) h ?_ ?_
  ·
   intro h
   refine q3yx hm hT hC (q1qf (q1pg d) y6) h fun y7 h=>?_
   refine q83 hm hT hC (q1qh (q1pg d) y7) h ?_
   intro y8 h
   exact hj1 _ h
  ·
   intro h
   refine q7u ?_
   refine qcx (s:=⟨[(3,.ptr 0 0),(4,.ptr 1 0),(7,.ptr 2 0),(8,.bool y6.1)],[.cells [.int .i64 y6.2.2.1,.int .i64 y6.2.2.2.1],.cells [.int .i64 y6.2.2.2.2.1,.int .i64 y6.2.2.2.2.2.1],.cells [.int .i64 y6.2.2.2.2.2.2.1,.int .u64 y6.2.2.2.2.2.2.2]]⟩) [42] (by kernel_rfl) ?_
   exact hj1 _ h
abbrev q1rx:List Pk:=[.row Rii true,.row Rii true]
abbrev q1ry:Type:=Dii×Dii×Unit
abbrev q1rz:Type:=Int
def q1s0 (r:q1rz):LV×List Ob:=(.int .i64 r,[])
def q1s1 (F:q1ry→Option q1rz):Go.Tx.Spec:=⟨48,q1rx,q1rz,F,q1s0⟩
abbrev q1s2:Type:=(qn7→Option qn8)×Unit
def q1s3 (d:Nat):q1s2:=(qnc d,())
def q1s4 (C:q1s2):List Go.Tx.Spec:=[qna C.1]
abbrev q1s5:Type:=Int×Int×Int×Int
def q1s6 (v:q1s5):St:=⟨[(0,.agg [i6 v.1,i6 v.2.1]),(1,.agg [i6 v.2.2.1,i6 v.2.2.2])],[]⟩
abbrev q1s7:Type:=Int×Int×Int×Int
def q1s8 (v:q1s7):St:=⟨[(2,.ptr 0 0),(3,.ptr 1 0)],[.cells [i6 v.1,i6 v.2.1],.cells [i6 v.2.2.1,i6 v.2.2.2]]⟩
def q1s9 (C:q1s2) (v:q1s5):Dt q1s7:=(Dt.ret (v.1,v.2.1,v.2.2.1,v.2.2.2))
abbrev q3zq {V Y:Type}:=@rg q1s2 V Y tysT (fun C=>(orc (q1s4 C))) 12
theorem q1sa C v:q3zq (regO (qcy f48) 0) false (an [2,3]) q1s6 q1s9 q1s8 C v:=rgI (by kernel_rfl)
abbrev q1sb:Type:=Bool×Int×Int×Int×Int
def q1sc (v:q1sb):St:=⟨[(2,.ptr 0 0),(3,.ptr 1 0),(7,.bool v.1)],[.cells [i6 v.2.1,i6 v.2.2.1],.cells [i6 v.2.2.2.1,i6 v.2.2.2.2]]⟩
def q1sd (C:q1s2) (v:q1s7):Dt q1sb:=(Dt.bnd (C.1 ((v.1,v.2.1,()),())) fun r1=>(Dt.ret ((r1!=(0:Int)),v.1,v.2.1,v.2.2.1,v.2.2.2)))
theorem q1se C v:q3zq (regO (qcy f48) 1) false (an [2,3,7]) q1s8 q1sd q1sc C v:=rgI (by kernel_rfl)
abbrev q1sf:Type:=Int
def q1sg (v:q1sf):St:=⟨[(4,i6 v)],[]⟩
def q1sh (C:q1s2) (v:q1sb):Dt q1sf:=(Dt.bnd (C.1 ((v.2.1,v.2.2.1,()),())) fun r1=>(Dt.ret r1))
theorem q1si C v:q3zq (regO (qcy f48) 2) false [(4,.any)] q1sc q1sh q1sg C v:=rgI (by kernel_rfl)
def q1sj (C:q1s2) (v:q1sb):Dt q1sf:=(Dt.bnd (C.1 ((v.2.2.2.1,v.2.2.2.2,()),())) fun r1=>(Dt.ret r1))
theorem q1sk C v:q3zq (regO (qcy f48) 3) false [(4,.any)] q1sc q1sj q1sg C v:=rgI (by kernel_rfl)
def q1sl (d:Nat) (x:q1ry):Option q1rz :=
 (q1s9 (q1s3 d) (x.1.1,x.1.2.1,x.2.1.1,x.2.1.2.1)).eval fun y0 =>
 (q1sd (q1s3 d) y0).eval fun y1 =>
 bif y1.1 then ((q1sh (q1s3 d) y1).eval fun y2 =>
 some y2) else ((q1sj (q1s3 d) y1).eval fun y3 =>
 some y3)
theorem q1sm (d:Nat):COK prog (q1s1 (q1sl d)):=by
 have hm:prog.follows .mixedOrders=true:=qjt
 have hT:=tys
 have hC0:OrcOK prog (orc (q1s4 (q1s3 d))):=qcs (by
  intro S hS
  simp only [q1s4,List.mem_cons,List.not_mem_nil,or_false] at hS
  subst hS;exact qne d)
 have hC:OrcOK prog (orc (q1s4 (q1s3 d))):=hC0
 refine q8e (c:=qcy f48) (fn:=f48) hT (by kernel_rfl) (by kernel_rfl) (by decide) fun x r h w0 φ0 Q hend=>?_
 replace h:q1sl d x=some r:=h
 unfold q1sl at h
 show Run prog w0 φ0 12 (qcy f48) ⟨[(0,.agg [.int .i64 x.1.1,.int .i64 x.1.2.1]),(1,.agg [.int .i64 x.2.1.1,.int .i64 x.2.1.2.1])],[]⟩ Q
 refine q3yx hm hT hC (q1sa (q1s3 d) (x.1.1,x.1.2.1,x.2.1.1,x.2.1.2.1)) h fun y0 h=>?_
 refine q7y ?_
 refine q3yx hm hT hC (q1se (q1s3 d) y0) h fun y1 h=>?_
 refine q82 (v:=y1.1) (by kernel_rfl) h ?_ ?_
 ·
  intro h
  refine q3yx hm hT hC (q1si (q1s3 d) y1) h fun y2 h=>?_
  refine q7x (q7m ?_)
  cases h
  exact (hend _ (by kernel_rfl)).2
 ·
  intro h
  refine q7u (q7k ?_)
  refine q3yx hm hT hC (q1sk (q1s3 d) y1) h fun y3 h=>?_
  refine q7x ?_
  cases h
  exact (hend _ (by kernel_rfl)).2
abbrev q1sn:List Pk:=[.row Ru false,.row Ru false]
abbrev q1so:Type:=Du×Du×Unit
abbrev q1sp:Type:=Int
def q1sq (r:q1sp):LV×List Ob:=(.int .u64 r,[])
def q1sr (F:q1so→Option q1sp):Go.Tx.Spec:=⟨57,q1sn,q1sp,F,q1sq⟩
abbrev q1ss:Type:=Unit
def q1st (_d:Nat):q1ss:=()
def q1su (C:q1ss):List Go.Tx.Spec:=[]
abbrev q1sv:Type:=Int×Int
def q1sw (v:q1sv):St:=⟨[(0,u6 v.1),(1,u6 v.2)],[]⟩
def q1sx (C:q1ss) (v:q1sv):Dt q1sv:=(Dt.ret (v.1,v.2))
abbrev q3zr {V Y:Type}:=@rg q1ss V Y tysT (fun C=>(orc (q1su C))) 12
theorem q1sy C v:q3zr (regO (qcy f57) 0) false (an [0,1]) q1sw q1sx q1sw C v:=rgI (by kernel_rfl)
abbrev q1sz:Type:=Int×Int×Bool
def q1t0 (v:q1sz):St:=⟨[(0,u6 v.1),(1,u6 v.2.1),(6,.bool v.2.2)],[]⟩
def q1t1 (C:q1ss) (v:q1sv):Dt q1sz:=(Dt.ret (v.1,v.2,(v.2!=(0:Int))))
theorem q1t2 C v:q3zr (regO (qcy f57) 1) false (an [0,1,6]) q1sw q1t1 q1t0 C v:=rgI (by kernel_rfl)
def q1t3 (C:q1ss) (v:q1sz):Dt q1sv:=(Dt.ite (v.2.1==(0:Int)) Dt.fail (Dt.ret (v.2.1,(Int.tmod v.1 v.2.1))))
theorem q1t4 C v:q3zr (regO (qcy f57) 2) true (an [0,1]) q1t0 q1t3 q1sw C v:=rgI (by kernel_rfl)
abbrev q1t5:Type:=Int
def q1t6 (v:q1t5):St:=⟨[(4,u6 v)],[]⟩
def q1t7 (C:q1ss) (v:q1sz):Dt q1t5:=(Dt.ret v.1)
theorem q1t8 C v:q3zr (regO (qcy f57) 3) false [(4,.any)] q1t0 q1t7 q1t6 C v:=rgI (by kernel_rfl)
def q1t9 (d:Nat) (self1:(Int×Int)→Option q1sp) (x1:Int×Int):Option q1sp :=
 (q1t1 (q1st d) x1).eval fun y1 =>
 bif y1.2.2 then ((q1t3 (q1st d) y1).eval fun y2 =>
 self1 y2) else ((q1t7 (q1st d) y1).eval fun y3 =>
 some y3)
def q1ta (d:Nat) (x:q1so):Option q1sp :=
 (q1sx (q1st d) (x.1.1,x.2.1.1)).eval fun y0 =>
 iter (q1t9 d ) d y0
theorem q1tb (d:Nat):COK prog (q1sr (q1ta d)):=by
 have hm:prog.follows .mixedOrders=true:=qjt
 have hT:=tys
 have hC0:OrcOK prog (orc (q1su (q1st d))):=qcs (by
  intro S hS
  simp only [q1su,List.mem_cons,List.not_mem_nil,or_false] at hS
  all_goals first | cases hS | exact hS.elim)
 have hC:OrcOK prog (orc (q1su (q1st d))):=hC0
 refine q8e (c:=qcy f57) (fn:=f57) hT (by kernel_rfl) (by kernel_rfl) (by decide) fun x r h w0 φ0 Q hend=>?_
 replace h:q1ta d x=some r:=h
 unfold q1ta at h
 show Run prog w0 φ0 12 (qcy f57) ⟨[(0,.int .u64 x.1.1),(1,.int .u64 x.2.1.1)],[]⟩ Q
 refine q3yx hm hT hC (q1sy (q1st d) (x.1.1,x.2.1.1)) h fun y0 h=>?_
 refine q7y (q7z ?_)
 refine q84 (G:=iter (q1t9 d )) (S:=(fun x1=>⟨[(0,u6 x1.1),(1,u6 x1.2)],[]⟩:Int×Int→St)) (fun _=>rfl) ?_ d _ h
 intro n1 x1 h K1 hn1
 replace h:q1t9 d  (iter (q1t9 d ) n1) x1=some r:=h
 generalize iter (q1t9 d ) n1=self1 at h hn1
 unfold q1t9 at h
 refine q7y ?_
 refine q3yx hm hT hC (q1t2 (q1st d) x1) h fun y1 h=>?_
 refine q82 (v:=y1.2.2) (by kernel_rfl) h ?_ ?_
 ·
  intro h
  refine q7u (q7k (q7z ?_))
  refine q83 hm hT hC (q1t4 (q1st d) y1) h ?_
  intro y2 h
  refine q7n ?_
  exact hn1 _ h
 ·
  intro h
  refine q7w (q7l (q7l (q7p (q7k ?_))))
  refine q3yx hm hT hC (q1t8 (q1st d) y1) h fun y3 h=>?_
  refine q7x ?_
  cases h
  exact (hend _ (by kernel_rfl)).2
abbrev q1tc:List Pk:=[.row Rbuu true,.row Rbuu true]
abbrev q1td:Type:=Dbuu×Dbuu×Unit
abbrev q1te:Type:=Int
def q1tf (r:q1te):LV×List Ob:=(.int .i64 r,[])
def q1tg (F:q1td→Option q1te):Go.Tx.Spec:=⟨91,q1tc,q1te,F,q1tf⟩
abbrev q1th:Type:=Unit
def q1ti (_d:Nat):q1th:=()
def q1tj (C:q1th):List Go.Tx.Spec:=[]
abbrev q1tk:Type:=Bool×Int×Int×Bool×Int×Int
def q1tl (v:q1tk):St:=⟨[(0,.agg [.bool v.1,u6 v.2.1,u6 v.2.2.1]),(1,.agg [.bool v.2.2.2.1,u6 v.2.2.2.2.1,u6 v.2.2.2.2.2])],[]⟩
abbrev q1tm:Type:=Bool×Int×Int×Bool×Int×Int
def q1tn (v:q1tm):St:=⟨[(2,.ptr 0 0),(3,.ptr 1 0)],[.cells [.bool v.1,u6 v.2.1,u6 v.2.2.1],.cells [.bool v.2.2.2.1,u6 v.2.2.2.2.1,u6 v.2.2.2.2.2]]⟩
def q1to (C:q1th) (v:q1tk):Dt q1tm:=(Dt.ret (v.1,v.2.1,v.2.2.1,v.2.2.2.1,v.2.2.2.2.1,v.2.2.2.2.2))
abbrev q3zs {V Y:Type}:=@rg q1th V Y tysT (fun C=>(orc (q1tj C))) 25
theorem q1tp C v:q3zs (regO (qcy f91) 0) false (an [2,3]) q1tl q1to q1tn C v:=rgI (by kernel_rfl)
abbrev q1tq:Type:=Bool×Bool×Int×Int×Bool×Int×Int
def q1tr (v:q1tq):St:=⟨[(2,.ptr 0 0),(3,.ptr 1 0),(9,.bool v.1)],[.cells [.bool v.2.1,u6 v.2.2.1,u6 v.2.2.2.1],.cells [.bool v.2.2.2.2.1,u6 v.2.2.2.2.2.1,u6 v.2.2.2.2.2.2]]⟩
def q1ts (C:q1th) (v:q1tm):Dt q1tq:=(Dt.ret ((v.2.1!=v.2.2.2.2.1),v.1,v.2.1,v.2.2.1,v.2.2.2.1,v.2.2.2.2.1,v.2.2.2.2.2))
theorem q1tt C v:q3zs (regO (qcy f91) 1) false (an [2,3,9]) q1tn q1ts q1tr C v:=rgI (by kernel_rfl)
abbrev q1tu:Type:=Bool
def q1tv (v:q1tu):St:=⟨[(14,.bool v)],[]⟩
def q1tw (C:q1th) (v:q1tq):Dt q1tu:=(Dt.ret (decide (v.2.2.1<v.2.2.2.2.2.1)))
theorem q1tx C v:q3zs (regO (qcy f91) 2) false [(14,.any)] q1tr q1tw q1tv C v:=rgI (by kernel_rfl)
abbrev q1ty:Type:=Int
def q1tz (v:q1ty):St:=⟨[(4,i6 v)],[]⟩
def q1u0 (C:q1th) (v:q1tu):Dt q1ty:=(Dt.ret (-1:Int))
theorem q1u1 C v:q3zs (regO (qcy f91) 3) false [(4,.any)] q1tv q1u0 q1tz C v:=rgI (by kernel_rfl)
def q1u2 (C:q1th) (v:q1tu):Dt q1ty:=(Dt.ret (1:Int))
theorem q1u3 C v:q3zs (regO (qcy f91) 4) false [(4,.any)] q1tv q1u2 q1tz C v:=rgI (by kernel_rfl)
abbrev q1u4:Type:=Bool×Bool×Int×Int×Bool×Int×Int
def q1u5 (v:q1u4):St:=⟨[(2,.ptr 0 0),(3,.ptr 1 0),(19,.bool v.1)],[.cells [.bool v.2.1,u6 v.2.2.1,u6 v.2.2.2.1],.cells [.bool v.2.2.2.2.1,u6 v.2.2.2.2.2.1,u6 v.2.2.2.2.2.2]]⟩
def q1u6 (C:q1th) (v:q1tq):Dt q1u4:=(Dt.ret ((v.2.2.2.1!=v.2.2.2.2.2.2),v.2.1,v.2.2.1,v.2.2.2.1,v.2.2.2.2.1,v.2.2.2.2.2.1,v.2.2.2.2.2.2))
theorem q1u7 C v:q3zs (regO (qcy f91) 5) false (an [2,3,19]) q1tr q1u6 q1u5 C v:=rgI (by kernel_rfl)
abbrev q1u8:Type:=Bool
def q1u9 (v:q1u8):St:=⟨[(24,.bool v)],[]⟩
def q1ua (C:q1th) (v:q1u4):Dt q1u8:=(Dt.ret (decide (v.2.2.2.1<v.2.2.2.2.2.2)))
theorem q1ub C v:q3zs (regO (qcy f91) 6) false [(24,.any)] q1u5 q1ua q1u9 C v:=rgI (by kernel_rfl)
def q1uc (C:q1th) (v:q1u8):Dt q1ty:=(Dt.ret (-1:Int))
theorem q1ud C v:q3zs (regO (qcy f91) 7) false [(4,.any)] q1u9 q1uc q1tz C v:=rgI (by kernel_rfl)
def q1ue (C:q1th) (v:q1u8):Dt q1ty:=(Dt.ret (1:Int))
theorem q1uf C v:q3zs (regO (qcy f91) 8) false [(4,.any)] q1u9 q1ue q1tz C v:=rgI (by kernel_rfl)
def q1ug (C:q1th) (v:q1u4):Dt q1ty:=(Dt.ret (0:Int))
theorem q1uh C v:q3zs (regO (qcy f91) 9) false [(4,.any)] q1u5 q1ug q1tz C v:=rgI (by kernel_rfl)
def q1ui (d:Nat) (x:q1td):Option q1te :=
 (q1to (q1ti d) (x.1.1,x.1.2.1,x.1.2.2.1,x.2.1.1,x.2.1.2.1,x.2.1.2.2.1)).eval fun y0 =>
 (q1ts (q1ti d) y0).eval fun y1 =>
 bif y1.1 then ((q1tw (q1ti d) y1).eval fun y2 =>
 bif y2 then ((q1u0 (q1ti d) y2).eval fun y3 =>
 some y3) else ((q1u2 (q1ti d) y2).eval fun y4 =>
 some y4)) else ((q1u6 (q1ti d) y1).eval fun y5 =>
 bif y5.1 then ((q1ua (q1ti d) y5).eval fun y6 =>
 bif y6 then ((q1uc (q1ti d) y6).eval fun y7 =>
 some y7) else ((q1ue (q1ti d) y6).eval fun y8 =>
 some y8)) else ((q1ug (q1ti d) y5).eval fun y9 =>
 some y9))
theorem q1uj (d:Nat):COK prog (q1tg (q1ui d)):=by
 have hm:prog.follows .mixedOrders=true:=qjt
 have hT:=tys
 have hC0:OrcOK prog (orc (q1tj (q1ti d))):=qcs (by
  intro S hS
  simp only [q1tj,List.mem_cons,List.not_mem_nil,or_false] at hS
  all_goals first | cases hS | exact hS.elim)
 have hC:OrcOK prog (orc (q1tj (q1ti d))):=hC0
 refine q8e (c:=qcy f91) (fn:=f91) hT (by kernel_rfl) (by kernel_rfl) (by decide) fun x r h w0 φ0 Q hend=>?_
 replace h:q1ui d x=some r:=h
 unfold q1ui at h
 show Run prog w0 φ0 25 (qcy f91) ⟨[(0,.agg [.bool x.1.1,.int .u64 x.1.2.1,.int .u64 x.1.2.2.1]),(1,.agg [.bool x.2.1.1,.int .u64 x.2.1.2.1,.int .u64 x.2.1.2.2.1])],[]⟩ Q
 refine q3yx hm hT hC (q1tp (q1ti d) (x.1.1,x.1.2.1,x.1.2.2.1,x.2.1.1,x.2.1.2.1,x.2.1.2.2.1)) h fun y0 h=>?_
 refine q7y ?_
 refine q3yx hm hT hC (q1tt (q1ti d) y0) h fun y1 h=>?_
 refine q82 (v:=y1.1) (by kernel_rfl) h ?_ ?_
 ·
  intro h
  refine q7y ?_
  refine q3yx hm hT hC (q1tx (q1ti d) y1) h fun y2 h=>?_
  refine q82 (v:=y2) (by kernel_rfl) h ?_ ?_
  ·
   intro h
   refine q3yx hm hT hC (q1u1 (q1ti d) y2) h fun y3 h=>?_
   refine q7x (q7m (q7m ?_))
   cases h
   exact (hend _ (by kernel_rfl)).2
  ·
   intro h
   refine q7u (q7k ?_)
   refine q3yx hm hT hC (q1u3 (q1ti d) y2) h fun y4 h=>?_
   refine q7x (q7m ?_)
   cases h
   exact (hend _ (by kernel_rfl)).2
 ·
  intro h
  refine q7u (q7k (q7y ?_))
  refine q3yx hm hT hC (q1u7 (q1ti d) y1) h fun y5 h=>?_
  refine q82 (v:=y5.1) (by kernel_rfl) h ?_ ?_
  ·
   intro h
   refine q7y ?_
   refine q3yx hm hT hC (q1ub (q1ti d) y5) h fun y6 h=>?_
   refine q82 (v:=y6) (by kernel_rfl) h ?_ ?_
   ·
    intro h
    refine q3yx hm hT hC (q1ud (q1ti d) y6) h fun y7 h=>?_
    refine q7x (q7m (q7m ?_))
    cases h
    exact (hend _ (by kernel_rfl)).2
   ·
    intro h
    refine q7u (q7k ?_)
    refine q3yx hm hT hC (q1uf (q1ti d) y6) h fun y8 h=>?_
    refine q7x (q7m ?_)
    cases h
    exact (hend _ (by kernel_rfl)).2
  ·
   intro h
   refine q7u (q7k ?_)
   refine q3yx hm hT hC (q1uh (q1ti d) y5) h fun y9 h=>?_
   refine q7x ?_
   cases h
   exact (hend _ (by kernel_rfl)).2
abbrev q1uk:List Pk:=[.row Rbuu true,.row Rbuu true]
abbrev q1ul:Type:=Dbuu×Dbuu×Unit
abbrev q1um:Type:=Bool×Int×Int
def q1un (r:q1um):LV×List Ob:=(.agg [.bool r.1,.int .u64 r.2.1,.int .u64 r.2.2],[])
def q1uo (F:q1ul→Option q1um):Go.Tx.Spec:=⟨135,q1uk,q1um,F,q1un⟩
abbrev q1up:Type:=Unit
def q1uq (_d:Nat):q1up:=()
def q1ur (C:q1up):List Go.Tx.Spec:=[]
abbrev q1us:Type:=Bool×Int×Int×Bool×Int×Int
def q1ut (v:q1us):St:=⟨[(0,.agg [.bool v.1,u6 v.2.1,u6 v.2.2.1]),(1,.agg [.bool v.2.2.2.1,u6 v.2.2.2.2.1,u6 v.2.2.2.2.2])],[]⟩
abbrev q1uu:Type:=Bool×Int×Int×Bool×Int×Int×Bool×Int×Int
def q1uv (v:q1uu):St:=⟨[(2,.ptr 0 0),(3,.ptr 1 0),(4,.ptr 2 0)],[.cells [.bool v.1,u6 v.2.1,u6 v.2.2.1],.cells [.bool v.2.2.2.1,u6 v.2.2.2.2.1,u6 v.2.2.2.2.2.1],.cells [.bool v.2.2.2.2.2.2.1,u6 v.2.2.2.2.2.2.2.1,u6 v.2.2.2.2.2.2.2.2]]⟩
def q1uw (C:q1up) (v:q1us):Dt q1uu:=(Dt.ret (v.1,v.2.1,v.2.2.1,v.2.2.2.1,v.2.2.2.2.1,v.2.2.2.2.2,false,(0:Int),(0:Int)))
abbrev q3zt {V Y:Type}:=@rg q1up V Y tysT (fun C=>(orc (q1ur C))) 27
theorem q1ux C v:q3zt (regO (qcy f135) 0) false (an [2,3,4]) q1ut q1uw q1uv C v:=rgI (by kernel_rfl)
abbrev q1uy:Type:=Bool×Int×Int×Bool×Int×Int×Bool×Int×Int×Bool×Int×Int
def q1uz (v:q1uy):St:=⟨[(2,.ptr 0 0),(3,.ptr 1 0),(4,.ptr 2 0),(5,.ptr 3 0)],[.cells [.bool v.1,u6 v.2.1,u6 v.2.2.1],.cells [.bool v.2.2.2.1,u6 v.2.2.2.2.1,u6 v.2.2.2.2.2.1],.cells [.bool v.2.2.2.2.2.2.1,u6 v.2.2.2.2.2.2.2.1,u6 v.2.2.2.2.2.2.2.2.1],.cells [.bool v.2.2.2.2.2.2.2.2.2.1,u6 v.2.2.2.2.2.2.2.2.2.2.1,u6 v.2.2.2.2.2.2.2.2.2.2.2]]⟩
def q1v0 (C:q1up) (v:q1uu):Dt q1uy:=(Dt.ret (v.1,v.2.1,v.2.2.1,v.2.2.2.1,v.2.2.2.2.1,v.2.2.2.2.2.1,v.2.2.2.2.2.2.1,v.2.2.2.2.2.2.2.1,v.2.2.2.2.2.2.2.2,false,(IntKind.wrap .u64 (v.2.1 - v.2.2.2.2.1)),(IntKind.wrap .u64 (v.2.2.1 - v.2.2.2.2.2.1))))
theorem q1v1 C v:q3zt (regO (qcy f135) 1) false (an [2,3,4,5]) q1uv q1v0 q1uz C v:=rgI (by kernel_rfl)
abbrev q1v2:Type:=Bool×Bool×Int×Int×Bool×Int×Int
def q1v3 (v:q1v2):St:=⟨[(4,.ptr 0 0),(5,.ptr 1 0),(21,.bool v.1)],[.cells [.bool v.2.1,u6 v.2.2.1,u6 v.2.2.2.1],.cells [.bool v.2.2.2.2.1,u6 v.2.2.2.2.2.1,u6 v.2.2.2.2.2.2]]⟩
def q1v4 (C:q1up) (v:q1uy):Dt q1v2:=(Dt.ret ((decide (v.2.2.1<v.2.2.2.2.2.1)),v.2.2.2.2.2.2.1,v.2.2.2.2.2.2.2.1,v.2.2.2.2.2.2.2.2.1,v.2.2.2.2.2.2.2.2.2.1,v.2.2.2.2.2.2.2.2.2.2.1,v.2.2.2.2.2.2.2.2.2.2.2))
theorem q1v5 C v:q3zt (regO (qcy f135) 2) false (an [4,5,21]) q1uz q1v4 q1v3 C v:=rgI (by kernel_rfl)
abbrev q1v6:Type:=Bool×Int×Int×Bool×Int×Int
def q1v7 (v:q1v6):St:=⟨[(4,.ptr 0 0),(5,.ptr 1 0)],[.cells [.bool v.1,u6 v.2.1,u6 v.2.2.1],.cells [.bool v.2.2.2.1,u6 v.2.2.2.2.1,u6 v.2.2.2.2.2]]⟩
def q1v8 (C:q1up) (v:q1v2):Dt q1v6:=(Dt.ret (v.2.1,v.2.2.1,v.2.2.2.1,v.2.2.2.2.1,(IntKind.wrap .u64 (v.2.2.2.2.2.1 - (1:Int))),v.2.2.2.2.2.2))
theorem q1v9 C v:q3zt (regO (qcy f135) 3) false (an [4,5]) q1v3 q1v8 q1v7 C v:=rgI (by kernel_rfl)
abbrev q1va:Type:=Bool×Int×Int
def q1vb (v:q1va):St:=⟨[(4,.ptr 0 0)],[.cells [.bool v.1,u6 v.2.1,u6 v.2.2]]⟩
def q1vc (C:q1up) (v:q1v6):Dt q1va:=(Dt.ret (v.2.2.2.1,v.2.2.2.2.1,v.2.2.2.2.2))
theorem q1vd C v:q3zt (regO (qcy f135) 4) false [(4,.any)] q1v7 q1vc q1vb C v:=rgI (by kernel_rfl)
def q1ve  (d:Nat)  (z:Bool×Int×Int×Bool×Int×Int):Option (q1um) :=
 (q1vc (q1uq d) z).eval fun y4 =>
 some y4
def q1vf (d:Nat) (x:q1ul):Option q1um :=
 (q1uw (q1uq d) (x.1.1,x.1.2.1,x.1.2.2.1,x.2.1.1,x.2.1.2.1,x.2.1.2.2.1)).eval fun y0 =>
 (q1v0 (q1uq d) y0).eval fun y1 =>
 (q1v4 (q1uq d) y1).eval fun y2 =>
 bif y2.1 then ((q1v8 (q1uq d) y2).eval fun y3 =>
 q1ve d  y3) else (q1ve d  y2.2)
theorem q1vg (d:Nat):COK prog (q1uo (q1vf d)):=by
 have hm:prog.follows .mixedOrders=true:=qjt
 have hT:=tys
 have hC0:OrcOK prog (orc (q1ur (q1uq d))):=qcs (by
  intro S hS
  simp only [q1ur,List.mem_cons,List.not_mem_nil,or_false] at hS
  all_goals first | cases hS | exact hS.elim)
 have hC:OrcOK prog (orc (q1ur (q1uq d))):=hC0
 refine q8e (c:=qcy f135) (fn:=f135) hT (by kernel_rfl) (by kernel_rfl) (by decide) fun x r h w0 φ0 Q hend=>?_
 replace h:q1vf d x=some r:=h
 unfold q1vf at h
 show Run prog w0 φ0 27 (qcy f135) ⟨[(0,.agg [.bool x.1.1,.int .u64 x.1.2.1,.int .u64 x.1.2.2.1]),(1,.agg [.bool x.2.1.1,.int .u64 x.2.1.2.1,.int .u64 x.2.1.2.2.1])],[]⟩ Q
 refine q3yx hm hT hC (q1ux (q1uq d) (x.1.1,x.1.2.1,x.1.2.2.1,x.2.1.1,x.2.1.2.1,x.2.1.2.2.1)) h fun y0 h=>?_
 refine q3yx hm hT hC (q1v1 (q1uq d) y0) h fun y1 h=>?_
 refine q81 (r:=r) (F:=q1ve d ) (S:=(fun z=>⟨[(4,.ptr 0 0),(5,.ptr 1 0)],[.cells [.bool z.1,u6 z.2.1,u6 z.2.2.1],.cells [.bool z.2.2.2.1,u6 z.2.2.2.2.1,u6 z.2.2.2.2.2]]⟩:q1jy→St)) ?_ ?_
 ·
  intro z h
  unfold q1ve at h
  refine q3yx hm hT hC (q1vd (q1uq d) z) h fun y4 h=>?_
  refine q7x ?_
  cases h
  exact (hend _ (by kernel_rfl)).2
 intro hj1
 refine q3yx hm hT hC (q1v5 (q1uq d) y1) h fun y2 h=>?_
 refine q82 (v:=y2.1) (by kernel_rfl) h ?_ ?_
 ·
  intro h
  refine q83 hm hT hC (q1v9 (q1uq d) y2) h ?_
  intro y3 h
  exact hj1 _ h
 ·
  intro h
  refine q7u ?_
  refine qcx (s:=⟨[(4,.ptr 0 0),(5,.ptr 1 0)],[.cells [.bool y2.2.1,.int .u64 y2.2.2.1,.int .u64 y2.2.2.2.1],.cells [.bool y2.2.2.2.2.1,.int .u64 y2.2.2.2.2.2.1,.int .u64 y2.2.2.2.2.2.2]]⟩) [21] (by kernel_rfl) ?_
  exact hj1 _ h
abbrev q1vh:List Pk:=[.row Rbuu true,.row Rbuu true]
abbrev q1vi:Type:=Dbuu×Dbuu×Unit
abbrev q1vj:Type:=Bool×Int×Int
def q1vk (r:q1vj):LV×List Ob:=(.agg [.bool r.1,.int .u64 r.2.1,.int .u64 r.2.2],[])
def q1vl (F:q1vi→Option q1vj):Go.Tx.Spec:=⟨85,q1vh,q1vj,F,q1vk⟩
abbrev q1vm:Type:=(q1td→Option q1te)×(q1ul→Option q1um)×Unit
def q1vn (d:Nat):q1vm:=(q1ui d,q1vf d,())
def q1vo (C:q1vm):List Go.Tx.Spec:=[q1tg C.1,q1uo C.2.1]
abbrev q1vp:Type:=Bool×Int×Int×Bool×Int×Int
def q1vq (v:q1vp):St:=⟨[(0,.agg [.bool v.1,u6 v.2.1,u6 v.2.2.1]),(1,.agg [.bool v.2.2.2.1,u6 v.2.2.2.2.1,u6 v.2.2.2.2.2])],[]⟩
abbrev q1vr:Type:=Bool×Int×Int×Bool×Int×Int×Bool×Int×Int
def q1vs (v:q1vr):St:=⟨[(2,.ptr 0 0),(3,.ptr 1 0),(4,.ptr 2 0)],[.cells [.bool v.1,u6 v.2.1,u6 v.2.2.1],.cells [.bool v.2.2.2.1,u6 v.2.2.2.2.1,u6 v.2.2.2.2.2.1],.cells [.bool v.2.2.2.2.2.2.1,u6 v.2.2.2.2.2.2.2.1,u6 v.2.2.2.2.2.2.2.2]]⟩
def q1vt (C:q1vm) (v:q1vp):Dt q1vr:=(Dt.ret (v.1,v.2.1,v.2.2.1,v.2.2.2.1,v.2.2.2.2.1,v.2.2.2.2.2,false,(0:Int),(0:Int)))
abbrev q3zu {V Y:Type}:=@rg q1vm V Y tysT (fun C=>(orc (q1vo C))) 64
theorem q1vu C v:q3zu (regO (qcy f85) 0) false (an [2,3,4]) q1vq q1vt q1vs C v:=rgI (by kernel_rfl)
abbrev q1vv:Type:=Bool×Bool×Int×Int×Bool×Int×Int×Bool×Int×Int
def q1vw (v:q1vv):St:=⟨[(2,.ptr 0 0),(3,.ptr 1 0),(4,.ptr 2 0),(12,.bool v.1)],[.cells [.bool v.2.1,u6 v.2.2.1,u6 v.2.2.2.1],.cells [.bool v.2.2.2.2.1,u6 v.2.2.2.2.2.1,u6 v.2.2.2.2.2.2.1],.cells [.bool v.2.2.2.2.2.2.2.1,u6 v.2.2.2.2.2.2.2.2.1,u6 v.2.2.2.2.2.2.2.2.2]]⟩
def q1vx (C:q1vm) (v:q1vr):Dt q1vv:=(Dt.ret ((v.1==v.2.2.2.1),v.1,v.2.1,v.2.2.1,v.2.2.2.1,v.2.2.2.2.1,v.2.2.2.2.2.1,v.2.2.2.2.2.2.1,v.2.2.2.2.2.2.2.1,v.2.2.2.2.2.2.2.2))
theorem q1vy C v:q3zu (regO (qcy f85) 1) false (an [2,3,4,12]) q1vs q1vx q1vw C v:=rgI (by kernel_rfl)
abbrev q1vz:Type:=Bool×Int×Int×Bool×Int×Int×Bool×Int×Int
def q1w0 (v:q1vz):St:=⟨[(2,.ptr 0 0),(4,.ptr 1 0),(5,.ptr 2 0)],[.cells [.bool v.1,u6 v.2.1,u6 v.2.2.1],.cells [.bool v.2.2.2.1,u6 v.2.2.2.2.1,u6 v.2.2.2.2.2.1],.cells [.bool v.2.2.2.2.2.2.1,u6 v.2.2.2.2.2.2.2.1,u6 v.2.2.2.2.2.2.2.2]]⟩
def q1w1 (C:q1vm) (v:q1vv):Dt q1vz:=(Dt.ret (v.2.1,v.2.2.1,v.2.2.2.1,v.2.2.2.2.2.2.2.1,v.2.2.2.2.2.2.2.2.1,v.2.2.2.2.2.2.2.2.2,v.2.1,(IntKind.wrap .u64 (v.2.2.1+v.2.2.2.2.2.1)),(IntKind.wrap .u64 (v.2.2.2.1+v.2.2.2.2.2.2.1))))
theorem q1w2 C v:q3zu (regO (qcy f85) 2) false (an [2,4,5]) q1vw q1w1 q1w0 C v:=rgI (by kernel_rfl)
abbrev q1w3:Type:=Bool×Bool×Int×Int×Bool×Int×Int
def q1w4 (v:q1w3):St:=⟨[(4,.ptr 0 0),(5,.ptr 1 0),(30,.bool v.1)],[.cells [.bool v.2.1,u6 v.2.2.1,u6 v.2.2.2.1],.cells [.bool v.2.2.2.2.1,u6 v.2.2.2.2.2.1,u6 v.2.2.2.2.2.2]]⟩
def q1w5 (C:q1vm) (v:q1vz):Dt q1w3:=(Dt.ret ((decide (v.2.2.2.2.2.2.2.2<v.2.2.1)),v.2.2.2.1,v.2.2.2.2.1,v.2.2.2.2.2.1,v.2.2.2.2.2.2.1,v.2.2.2.2.2.2.2.1,v.2.2.2.2.2.2.2.2))
theorem q1w6 C v:q3zu (regO (qcy f85) 3) false (an [4,5,30]) q1w0 q1w5 q1w4 C v:=rgI (by kernel_rfl)
abbrev q1w7:Type:=Bool×Int×Int×Bool×Int×Int
def q1w8 (v:q1w7):St:=⟨[(4,.ptr 0 0),(5,.ptr 1 0)],[.cells [.bool v.1,u6 v.2.1,u6 v.2.2.1],.cells [.bool v.2.2.2.1,u6 v.2.2.2.2.1,u6 v.2.2.2.2.2]]⟩
def q1w9 (C:q1vm) (v:q1w3):Dt q1w7:=(Dt.ret (v.2.1,v.2.2.1,v.2.2.2.1,v.2.2.2.2.1,(IntKind.wrap .u64 (v.2.2.2.2.2.1+(1:Int))),v.2.2.2.2.2.2))
theorem q1wa C v:q3zu (regO (qcy f85) 4) false (an [4,5]) q1w4 q1w9 q1w8 C v:=rgI (by kernel_rfl)
abbrev q1wb:Type:=Bool×Int×Int
def q1wc (v:q1wb):St:=⟨[(4,.ptr 0 0)],[.cells [.bool v.1,u6 v.2.1,u6 v.2.2]]⟩
def q1wd (C:q1vm) (v:q1w7):Dt q1wb:=(Dt.ret (v.2.2.2.1,v.2.2.2.2.1,v.2.2.2.2.2))
theorem q1we C v:q3zu (regO (qcy f85) 5) false [(4,.any)] q1w8 q1wd q1wc C v:=rgI (by kernel_rfl)
def q1wf  (d:Nat)  (z:Bool×Int×Int×Bool×Int×Int):Option (q1vj) :=
 (q1wd (q1vn d) z).eval fun y5 =>
 some y5
abbrev q1wg:Type:=Bool×Bool×Int×Int×Bool×Int×Int×Bool×Int×Int
def q1wh (v:q1wg):St:=⟨[(2,.ptr 0 0),(3,.ptr 1 0),(4,.ptr 2 0),(39,.bool v.1)],[.cells [.bool v.2.1,u6 v.2.2.1,u6 v.2.2.2.1],.cells [.bool v.2.2.2.2.1,u6 v.2.2.2.2.2.1,u6 v.2.2.2.2.2.2.1],.cells [.bool v.2.2.2.2.2.2.2.1,u6 v.2.2.2.2.2.2.2.2.1,u6 v.2.2.2.2.2.2.2.2.2]]⟩
def q1wi (C:q1vm) (v:q1vv):Dt q1wg:=(Dt.bnd (C.1 ((v.2.1,v.2.2.1,v.2.2.2.1,()),(v.2.2.2.2.1,v.2.2.2.2.2.1,v.2.2.2.2.2.2.1,()),())) fun r1=>(Dt.ret ((decide (r1≥(0:Int))),v.2.1,v.2.2.1,v.2.2.2.1,v.2.2.2.2.1,v.2.2.2.2.2.1,v.2.2.2.2.2.2.1,v.2.2.2.2.2.2.2.1,v.2.2.2.2.2.2.2.2.1,v.2.2.2.2.2.2.2.2.2)))
theorem q1wj C v:q3zu (regO (qcy f85) 6) false (an [2,3,4,39]) q1vw q1wi q1wh C v:=rgI (by kernel_rfl)
abbrev q1wk:Type:=Bool×Int×Int×Bool×Int×Int×Bool×Int×Int
def q1wl (v:q1wk):St:=⟨[(2,.ptr 0 0),(4,.ptr 1 0),(6,.ptr 2 0)],[.cells [.bool v.1,u6 v.2.1,u6 v.2.2.1],.cells [.bool v.2.2.2.1,u6 v.2.2.2.2.1,u6 v.2.2.2.2.2.1],.cells [.bool v.2.2.2.2.2.2.1,u6 v.2.2.2.2.2.2.2.1,u6 v.2.2.2.2.2.2.2.2]]⟩
def q1wm (C:q1vm) (v:q1wg):Dt q1wk:=(Dt.bnd (C.2.1 ((v.2.1,v.2.2.1,v.2.2.2.1,()),(v.2.2.2.2.1,v.2.2.2.2.2.1,v.2.2.2.2.2.2.1,()),())) fun r1=>(Dt.ret (v.2.1,v.2.2.1,v.2.2.2.1,v.2.2.2.2.2.2.2.1,v.2.2.2.2.2.2.2.2.1,v.2.2.2.2.2.2.2.2.2,r1.1,r1.2.1,r1.2.2)))
theorem q1wn C v:q3zu (regO (qcy f85) 7) false (an [2,4,6]) q1wh q1wm q1wl C v:=rgI (by kernel_rfl)
abbrev q1wo:Type:=Bool×Int×Int×Bool×Int×Int
def q1wp (v:q1wo):St:=⟨[(4,.ptr 0 0),(6,.ptr 1 0)],[.cells [.bool v.1,u6 v.2.1,u6 v.2.2.1],.cells [.bool v.2.2.2.1,u6 v.2.2.2.2.1,u6 v.2.2.2.2.2]]⟩
def q1wq (C:q1vm) (v:q1wk):Dt q1wo:=(Dt.ite v.1 (Dt.ite (decide (v.2.2.2.2.2.2.2.1 > (0:Int))) (Dt.ret (v.2.2.2.1,v.2.2.2.2.1,v.2.2.2.2.2.1,true,v.2.2.2.2.2.2.2.1,v.2.2.2.2.2.2.2.2)) (Dt.ret (v.2.2.2.1,v.2.2.2.2.1,v.2.2.2.2.2.1,(decide (v.2.2.2.2.2.2.2.2 > (0:Int))),v.2.2.2.2.2.2.2.1,v.2.2.2.2.2.2.2.2))) (Dt.ret (v.2.2.2.1,v.2.2.2.2.1,v.2.2.2.2.2.1,false,v.2.2.2.2.2.2.2.1,v.2.2.2.2.2.2.2.2)))
theorem q1wr C v:q3zu (regO (qcy f85) 8) false (an [4,6]) q1wl q1wq q1wp C v:=rgI (by kernel_rfl)
def q1ws (C:q1vm) (v:q1wo):Dt q1wb:=(Dt.ret (v.2.2.2.1,v.2.2.2.2.1,v.2.2.2.2.2))
theorem q1wt C v:q3zu (regO (qcy f85) 9) false [(4,.any)] q1wp q1ws q1wc C v:=rgI (by kernel_rfl)
abbrev q1wu:Type:=Bool×Int×Int×Bool×Int×Int×Bool×Int×Int
def q1wv (v:q1wu):St:=⟨[(3,.ptr 0 0),(4,.ptr 1 0),(7,.ptr 2 0)],[.cells [.bool v.1,u6 v.2.1,u6 v.2.2.1],.cells [.bool v.2.2.2.1,u6 v.2.2.2.2.1,u6 v.2.2.2.2.2.1],.cells [.bool v.2.2.2.2.2.2.1,u6 v.2.2.2.2.2.2.2.1,u6 v.2.2.2.2.2.2.2.2]]⟩
def q1ww (C:q1vm) (v:q1wg):Dt q1wu:=(Dt.bnd (C.2.1 ((v.2.2.2.2.1,v.2.2.2.2.2.1,v.2.2.2.2.2.2.1,()),(v.2.1,v.2.2.1,v.2.2.2.1,()),())) fun r1=>(Dt.ret (v.2.2.2.2.1,v.2.2.2.2.2.1,v.2.2.2.2.2.2.1,v.2.2.2.2.2.2.2.1,v.2.2.2.2.2.2.2.2.1,v.2.2.2.2.2.2.2.2.2,r1.1,r1.2.1,r1.2.2)))
theorem q1wx C v:q3zu (regO (qcy f85) 10) false (an [3,4,7]) q1wh q1ww q1wv C v:=rgI (by kernel_rfl)
abbrev q1wy:Type:=Bool×Int×Int×Bool×Int×Int
def q1wz (v:q1wy):St:=⟨[(4,.ptr 0 0),(7,.ptr 1 0)],[.cells [.bool v.1,u6 v.2.1,u6 v.2.2.1],.cells [.bool v.2.2.2.1,u6 v.2.2.2.2.1,u6 v.2.2.2.2.2]]⟩
def q1x0 (C:q1vm) (v:q1wu):Dt q1wy:=(Dt.ret (v.2.2.2.1,v.2.2.2.2.1,v.2.2.2.2.2.1,v.1,v.2.2.2.2.2.2.2.1,v.2.2.2.2.2.2.2.2))
theorem q1x1 C v:q3zu (regO (qcy f85) 11) false (an [4,7]) q1wv q1x0 q1wz C v:=rgI (by kernel_rfl)
def q1x2 (C:q1vm) (v:q1wy):Dt q1wb:=(Dt.ret (v.2.2.2.1,v.2.2.2.2.1,v.2.2.2.2.2))
theorem q1x3 C v:q3zu (regO (qcy f85) 12) false [(4,.any)] q1wz q1x2 q1wc C v:=rgI (by kernel_rfl)
def q1x4 (d:Nat) (x:q1vi):Option q1vj :=
 (q1vt (q1vn d) (x.1.1,x.1.2.1,x.1.2.2.1,x.2.1.1,x.2.1.2.1,x.2.1.2.2.1)).eval fun y0 =>
 (q1vx (q1vn d) y0).eval fun y1 =>
 bif y1.1 then ((q1w1 (q1vn d) y1).eval fun y2 =>
 (q1w5 (q1vn d) y2).eval fun y3 =>
 bif y3.1 then ((q1w9 (q1vn d) y3).eval fun y4 =>
 q1wf d  y4) else (q1wf d  y3.2)) else ((q1wi (q1vn d) y1).eval fun y6 =>
 bif y6.1 then ((q1wm (q1vn d) y6).eval fun y7 =>
 (q1wq (q1vn d) y7).eval fun y8 =>
 (q1ws (q1vn d) y8).eval fun y9 =>
 some y9) else ((q1ww (q1vn d) y6).eval fun y10 =>
 (q1x0 (q1vn d) y10).eval fun y11 =>
 (q1x2 (q1vn d) y11).eval fun y12 =>
 some y12))
theorem q1x5 (d:Nat):COK prog (q1vl (q1x4 d)):=by
 have hm:prog.follows .mixedOrders=true:=qjt
 have hT:=tys
 have hC0:OrcOK prog (orc (q1vo (q1vn d))):=qcs (by
  intro S hS
  simp only [q1vo,List.mem_cons,List.not_mem_nil,or_false] at hS
  rcases hS with rfl | rfl
  · exact q1uj d
  · exact q1vg d)
 have hC:OrcOK prog (orc (q1vo (q1vn d))):=hC0
 refine q8e (c:=qcy f85) (fn:=f85) hT (by kernel_rfl) (by kernel_rfl) (by decide) fun x r h w0 φ0 Q hend=>?_
 replace h:q1x4 d x=some r:=h
 unfold q1x4 at h
 show Run prog w0 φ0 64 (qcy f85) ⟨[(0,.agg [.bool x.1.1,.int .u64 x.1.2.1,.int .u64 x.1.2.2.1]),(1,.agg [.bool x.2.1.1,.int .u64 x.2.1.2.1,.int .u64 x.2.1.2.2.1])],[]⟩ Q
 refine q3yx hm hT hC (q1vu (q1vn d) (x.1.1,x.1.2.1,x.1.2.2.1,x.2.1.1,x.2.1.2.1,x.2.1.2.2.1)) h fun y0 h=>?_
 refine q7y ?_
 refine q3yx hm hT hC (q1vy (q1vn d) y0) h fun y1 h=>?_
 refine q82 (v:=y1.1) (by kernel_rfl) h ?_ ?_
 ·
  intro h
  refine q3yx hm hT hC (q1w2 (q1vn d) y1) h fun y2 h=>?_
  refine q81 (r:=r) (F:=q1wf d ) (S:=(fun z=>⟨[(4,.ptr 0 0),(5,.ptr 1 0)],[.cells [.bool z.1,u6 z.2.1,u6 z.2.2.1],.cells [.bool z.2.2.2.1,u6 z.2.2.2.2.1,u6 z.2.2.2.2.2]]⟩:q1jy→St)) ?_ ?_
  ·
   intro z h
   unfold q1wf at h
   refine q3yx hm hT hC (q1we (q1vn d) z) h fun y5 h=>?_
   refine q7x (q7m ?_)
   cases h
   exact (hend _ (by kernel_rfl)).2
  intro hj1
  refine q3yx hm hT hC (q1w6 (q1vn d) y2) h fun y3 h=>?_
  refine q82 (v:=y3.1) (by kernel_rfl) h ?_ ?_
  ·
   intro h
   refine q83 hm hT hC (q1wa (q1vn d) y3) h ?_
   intro y4 h
   exact hj1 _ h
  ·
   intro h
   refine q7u ?_
   refine qcx (s:=⟨[(4,.ptr 0 0),(5,.ptr 1 0)],[.cells [.bool y3.2.1,.int .u64 y3.2.2.1,.int .u64 y3.2.2.2.1],.cells [.bool y3.2.2.2.2.1,.int .u64 y3.2.2.2.2.2.1,.int .u64 y3.2.2.2.2.2.2]]⟩) [30] (by kernel_rfl) ?_
   exact hj1 _ h
 ·
  intro h
  refine q7u (q7k (q7y ?_))
  refine q3yx hm hT hC (q1wj (q1vn d) y1) h fun y6 h=>?_
  refine q82 (v:=y6.1) (by kernel_rfl) h ?_ ?_
  ·
   intro h
   refine q3yx hm hT hC (q1wn (q1vn d) y6) h fun y7 h=>?_
   refine q3yx hm hT hC (q1wr (q1vn d) y7) h fun y8 h=>?_
   refine q3yx hm hT hC (q1wt (q1vn d) y8) h fun y9 h=>?_
   refine q7x (q7m ?_)
   cases h
   exact (hend _ (by kernel_rfl)).2
  ·
   intro h
   refine q7u (q7k ?_)
   refine q3yx hm hT hC (q1wx (q1vn d) y6) h fun y10 h=>?_
   refine q3yx hm hT hC (q1x1 (q1vn d) y10) h fun y11 h=>?_
   refine q3yx hm hT hC (q1x3 (q1vn d) y11) h fun y12 h=>?_
   refine q7x ?_
   cases h
   exact (hend _ (by kernel_rfl)).2
abbrev q1x6:List Pk:=[.row Rbuu true,.row Ru false]
abbrev q1x7:Type:=Dbuu×Du×Unit
abbrev q1x8:Type:=Bool×Int×Int×Int
def q1x9 (r:q1x8):LV×List Ob:=(.tup [.agg [.bool r.1,.int .u64 r.2.1,.int .u64 r.2.2.1],.int .u64 r.2.2.2],[])
def q1xa (F:q1x7→Option q1x8):Go.Tx.Spec:=⟨87,q1x6,q1x8,F,q1x9⟩
abbrev q1xb:Type:=Unit
def q1xc (_d:Nat):q1xb:=()
def q1xd (C:q1xb):List Go.Tx.Spec:=[]
abbrev q1xe:Type:=Bool×Int×Int×Int
def q1xf (v:q1xe):St:=⟨[(0,.agg [.bool v.1,u6 v.2.1,u6 v.2.2.1]),(1,u6 v.2.2.2)],[]⟩
abbrev q1xg:Type:=Int×Bool×Int×Int×Bool×Int×Int
def q1xh (v:q1xg):St:=⟨[(1,u6 v.1),(2,.ptr 0 0),(4,.ptr 1 0)],[.cells [.bool v.2.1,u6 v.2.2.1,u6 v.2.2.2.1],.cells [.bool v.2.2.2.2.1,u6 v.2.2.2.2.2.1,u6 v.2.2.2.2.2.2]]⟩
def q1xi (C:q1xb) (v:q1xe):Dt q1xg:=(Dt.ret (v.2.2.2,v.1,v.2.1,v.2.2.1,false,(0:Int),(0:Int)))
abbrev q3zv {V Y:Type}:=@rg q1xb V Y tysT (fun C=>(orc (q1xd C))) 54
theorem q1xj C v:q3zv (regO (qcy f87) 0) false (an [1,2,4]) q1xf q1xi q1xh C v:=rgI (by kernel_rfl)
abbrev q1xk:Type:=Int×Bool×Int×Int×Bool×Int×Int×Bool×Int×Int
def q1xl (v:q1xk):St:=⟨[(1,u6 v.1),(2,.ptr 0 0),(4,.ptr 1 0),(6,.ptr 2 0)],[.cells [.bool v.2.1,u6 v.2.2.1,u6 v.2.2.2.1],.cells [.bool v.2.2.2.2.1,u6 v.2.2.2.2.2.1,u6 v.2.2.2.2.2.2.1],.cells [.bool v.2.2.2.2.2.2.2.1,u6 v.2.2.2.2.2.2.2.2.1,u6 v.2.2.2.2.2.2.2.2.2]]⟩
def q1xm (C:q1xb) (v:q1xg):Dt q1xk:=(Dt.ret (v.1,v.2.1,v.2.2.1,v.2.2.2.1,v.2.2.2.2.1,v.2.2.2.2.2.1,v.2.2.2.2.2.2,false,(0:Int),(0:Int)))
theorem q1xn C v:q3zv (regO (qcy f87) 1) false (an [1,2,4,6]) q1xh q1xm q1xl C v:=rgI (by kernel_rfl)
abbrev q1xo:Type:=Int×Int×Bool×Int×Int×Bool×Int×Int×Bool×Int×Int
def q1xp (v:q1xo):St:=⟨[(1,u6 v.1),(2,.ptr 0 0),(4,.ptr 1 0),(6,.ptr 2 0),(7,u6 v.2.1)],[.cells [.bool v.2.2.1,u6 v.2.2.2.1,u6 v.2.2.2.2.1],.cells [.bool v.2.2.2.2.2.1,u6 v.2.2.2.2.2.2.1,u6 v.2.2.2.2.2.2.2.1],.cells [.bool v.2.2.2.2.2.2.2.2.1,u6 v.2.2.2.2.2.2.2.2.2.1,u6 v.2.2.2.2.2.2.2.2.2.2]]⟩
def q1xq (C:q1xb) (v:q1xk):Dt q1xo:=(Dt.ret (v.1,(0:Int),v.2.1,v.2.2.1,v.2.2.2.1,v.2.2.2.2.1,v.2.2.2.2.2.1,v.2.2.2.2.2.2.1,v.2.2.2.2.2.2.2.1,v.2.2.2.2.2.2.2.2.1,v.2.2.2.2.2.2.2.2.2))
theorem q1xr C v:q3zv (regO (qcy f87) 2) false (an [1,2,4,6,7]) q1xl q1xq q1xp C v:=rgI (by kernel_rfl)
abbrev q1xs:Type:=Int×Int×Int×Bool×Int×Int×Bool×Int×Int×Bool×Int×Int
def q1xt (v:q1xs):St:=⟨[(1,u6 v.1),(2,.ptr 0 0),(4,.ptr 1 0),(6,.ptr 2 0),(7,u6 v.2.1),(8,i6 v.2.2.1)],[.cells [.bool v.2.2.2.1,u6 v.2.2.2.2.1,u6 v.2.2.2.2.2.1],.cells [.bool v.2.2.2.2.2.2.1,u6 v.2.2.2.2.2.2.2.1,u6 v.2.2.2.2.2.2.2.2.1],.cells [.bool v.2.2.2.2.2.2.2.2.2.1,u6 v.2.2.2.2.2.2.2.2.2.2.1,u6 v.2.2.2.2.2.2.2.2.2.2.2]]⟩
def q1xu (C:q1xb) (v:q1xo):Dt q1xs:=(Dt.ret (v.1,v.2.1,(127:Int),v.2.2.1,v.2.2.2.1,v.2.2.2.2.1,v.2.2.2.2.2.1,v.2.2.2.2.2.2.1,v.2.2.2.2.2.2.2.1,v.2.2.2.2.2.2.2.2.1,v.2.2.2.2.2.2.2.2.2.1,v.2.2.2.2.2.2.2.2.2.2))
theorem q1xv C v:q3zv (regO (qcy f87) 3) false (an [1,2,4,6,7,8]) q1xp q1xu q1xt C v:=rgI (by kernel_rfl)
abbrev q1xw:Type:=Int×Int×Int×Bool×Bool×Int×Int×Bool×Int×Int×Bool×Int×Int
def q1xx (v:q1xw):St:=⟨[(1,u6 v.1),(2,.ptr 0 0),(4,.ptr 1 0),(6,.ptr 2 0),(7,u6 v.2.1),(8,i6 v.2.2.1),(11,.bool v.2.2.2.1)],[.cells [.bool v.2.2.2.2.1,u6 v.2.2.2.2.2.1,u6 v.2.2.2.2.2.2.1],.cells [.bool v.2.2.2.2.2.2.2.1,u6 v.2.2.2.2.2.2.2.2.1,u6 v.2.2.2.2.2.2.2.2.2.1],.cells [.bool v.2.2.2.2.2.2.2.2.2.2.1,u6 v.2.2.2.2.2.2.2.2.2.2.2.1,u6 v.2.2.2.2.2.2.2.2.2.2.2.2]]⟩
def q1xy (C:q1xb) (v:q1xs):Dt q1xw:=(Dt.ret (v.1,v.2.1,v.2.2.1,(decide (v.2.2.1≥(0:Int))),v.2.2.2.1,v.2.2.2.2.1,v.2.2.2.2.2.1,v.2.2.2.2.2.2.1,v.2.2.2.2.2.2.2.1,v.2.2.2.2.2.2.2.2.1,v.2.2.2.2.2.2.2.2.2.1,v.2.2.2.2.2.2.2.2.2.2.1,v.2.2.2.2.2.2.2.2.2.2.2))
theorem q1xz C v:q3zv (regO (qcy f87) 4) false (an [1,2,4,6,7,8,11]) q1xt q1xy q1xx C v:=rgI (by kernel_rfl)
abbrev q1y0:Type:=Int×Int×Int×Int×Bool×Int×Int×Bool×Int×Int×Bool×Int×Int
def q1y1 (v:q1y0):St:=⟨[(1,u6 v.1),(2,.ptr 0 0),(4,.ptr 1 0),(6,.ptr 2 0),(7,u6 v.2.1),(8,i6 v.2.2.1),(9,u6 v.2.2.2.1)],[.cells [.bool v.2.2.2.2.1,u6 v.2.2.2.2.2.1,u6 v.2.2.2.2.2.2.1],.cells [.bool v.2.2.2.2.2.2.2.1,u6 v.2.2.2.2.2.2.2.2.1,u6 v.2.2.2.2.2.2.2.2.2.1],.cells [.bool v.2.2.2.2.2.2.2.2.2.2.1,u6 v.2.2.2.2.2.2.2.2.2.2.2.1,u6 v.2.2.2.2.2.2.2.2.2.2.2.2]]⟩
def q1y2 (C:q1xb) (v:q1xw):Dt q1y0:=(Dt.ite (decide (v.2.2.1<0)) Dt.fail (Dt.ret (v.1,v.2.1,v.2.2.1,(andI .u64 (shrI .u64 v.2.2.2.2.2.2.1 v.2.2.1) (1:Int)),v.2.2.2.2.1,v.2.2.2.2.2.1,v.2.2.2.2.2.2.1,v.2.2.2.2.2.2.2.1,v.2.2.2.2.2.2.2.2.1,v.2.2.2.2.2.2.2.2.2.1,v.2.2.2.2.2.2.2.2.2.2.1,v.2.2.2.2.2.2.2.2.2.2.2.1,v.2.2.2.2.2.2.2.2.2.2.2.2)))
theorem q1y3 C v:q3zv (regO (qcy f87) 6) false (an [1,2,4,6,7,8,9]) q1xx q1y2 q1y1 C v:=rgI (by kernel_rfl)
abbrev q1y4:Type:=Int×Int×Int×Int×Bool×Bool×Int×Int×Bool×Int×Int×Bool×Int×Int
def q1y5 (v:q1y4):St:=⟨[(1,u6 v.1),(2,.ptr 0 0),(4,.ptr 1 0),(6,.ptr 2 0),(7,u6 v.2.1),(8,i6 v.2.2.1),(9,u6 v.2.2.2.1),(20,.bool v.2.2.2.2.1)],[.cells [.bool v.2.2.2.2.2.1,u6 v.2.2.2.2.2.2.1,u6 v.2.2.2.2.2.2.2.1],.cells [.bool v.2.2.2.2.2.2.2.2.1,u6 v.2.2.2.2.2.2.2.2.2.1,u6 v.2.2.2.2.2.2.2.2.2.2.1],.cells [.bool v.2.2.2.2.2.2.2.2.2.2.2.1,u6 v.2.2.2.2.2.2.2.2.2.2.2.2.1,u6 v.2.2.2.2.2.2.2.2.2.2.2.2.2]]⟩
def q1y6 (C:q1xb) (v:q1y0):Dt q1y4:=(Dt.ret (v.1,v.2.1,v.2.2.1,v.2.2.2.1,(decide (v.2.2.1≥(64:Int))),v.2.2.2.2.1,v.2.2.2.2.2.1,v.2.2.2.2.2.2.1,v.2.2.2.2.2.2.2.1,v.2.2.2.2.2.2.2.2.1,v.2.2.2.2.2.2.2.2.2.1,v.2.2.2.2.2.2.2.2.2.2.1,v.2.2.2.2.2.2.2.2.2.2.2.1,v.2.2.2.2.2.2.2.2.2.2.2.2))
theorem q1y7 C v:q3zv (regO (qcy f87) 7) false (an [1,2,4,6,7,8,9,20]) q1y1 q1y6 q1y5 C v:=rgI (by kernel_rfl)
def q1y8 (C:q1xb) (v:q1y4):Dt q1y0:=(Dt.ite (decide ((IntKind.wrap .i64 (v.2.2.1 - (64:Int)))<0)) Dt.fail (Dt.ret (v.1,v.2.1,v.2.2.1,(andI .u64 (shrI .u64 v.2.2.2.2.2.2.1 (IntKind.wrap .i64 (v.2.2.1 - (64:Int)))) (1:Int)),v.2.2.2.2.2.1,v.2.2.2.2.2.2.1,v.2.2.2.2.2.2.2.1,v.2.2.2.2.2.2.2.2.1,v.2.2.2.2.2.2.2.2.2.1,v.2.2.2.2.2.2.2.2.2.2.1,v.2.2.2.2.2.2.2.2.2.2.2.1,v.2.2.2.2.2.2.2.2.2.2.2.2.1,v.2.2.2.2.2.2.2.2.2.2.2.2.2)))
theorem q1y9 C v:q3zv (regO (qcy f87) 8) false (an [1,2,4,6,7,8,9]) q1y5 q1y8 q1y1 C v:=rgI (by kernel_rfl)
def q1ya (C:q1xb) (v:q1y0):Dt q1xs:=(Dt.ret (v.1,(IntKind.wrap .u64 ((IntKind.wrap .u64 ((2:Int)*v.2.1))+v.2.2.2.1)),v.2.2.1,v.2.2.2.2.1,v.2.2.2.2.2.1,v.2.2.2.2.2.2.1,v.2.2.2.2.2.2.2.1,v.2.2.2.2.2.2.2.2.1,v.2.2.2.2.2.2.2.2.2.1,v.2.2.2.2.2.2.2.2.2.2.1,v.2.2.2.2.2.2.2.2.2.2.2.1,v.2.2.2.2.2.2.2.2.2.2.2.2))
theorem q1yb C v:q3zv (regO (qcy f87) 9) false (an [1,2,4,6,7,8]) q1y1 q1ya q1xt C v:=rgI (by kernel_rfl)
abbrev q1yc:Type:=Int×Int×Int×Bool×Bool×Int×Int×Bool×Int×Int×Bool×Int×Int
def q1yd (v:q1yc):St:=⟨[(1,u6 v.1),(2,.ptr 0 0),(4,.ptr 1 0),(6,.ptr 2 0),(7,u6 v.2.1),(8,i6 v.2.2.1),(33,.bool v.2.2.2.1)],[.cells [.bool v.2.2.2.2.1,u6 v.2.2.2.2.2.1,u6 v.2.2.2.2.2.2.1],.cells [.bool v.2.2.2.2.2.2.2.1,u6 v.2.2.2.2.2.2.2.2.1,u6 v.2.2.2.2.2.2.2.2.2.1],.cells [.bool v.2.2.2.2.2.2.2.2.2.2.1,u6 v.2.2.2.2.2.2.2.2.2.2.2.1,u6 v.2.2.2.2.2.2.2.2.2.2.2.2]]⟩
def q1ye (C:q1xb) (v:q1xs):Dt q1yc:=(Dt.ret (v.1,v.2.1,v.2.2.1,(decide (v.2.1≥v.1)),v.2.2.2.1,v.2.2.2.2.1,v.2.2.2.2.2.1,v.2.2.2.2.2.2.1,v.2.2.2.2.2.2.2.1,v.2.2.2.2.2.2.2.2.1,v.2.2.2.2.2.2.2.2.2.1,v.2.2.2.2.2.2.2.2.2.2.1,v.2.2.2.2.2.2.2.2.2.2.2))
theorem q1yf C v:q3zv (regO (qcy f87) 10) false (an [1,2,4,6,7,8,33]) q1xt q1ye q1yd C v:=rgI (by kernel_rfl)
def q1yg (C:q1xb) (v:q1yc):Dt q1xs:=(Dt.ret (v.1,(IntKind.wrap .u64 (v.2.1 - v.1)),v.2.2.1,v.2.2.2.2.1,v.2.2.2.2.2.1,v.2.2.2.2.2.2.1,v.2.2.2.2.2.2.2.1,v.2.2.2.2.2.2.2.2.1,v.2.2.2.2.2.2.2.2.2.1,v.2.2.2.2.2.2.2.2.2.2.1,v.2.2.2.2.2.2.2.2.2.2.2.1,v.2.2.2.2.2.2.2.2.2.2.2.2))
theorem q1yh C v:q3zv (regO (qcy f87) 11) false (an [1,2,4,6,7,8]) q1yd q1yg q1xt C v:=rgI (by kernel_rfl)
abbrev q1yi:Type:=Int×Int×Int×Bool×Bool×Int×Int×Bool×Int×Int×Bool×Int×Int
def q1yj (v:q1yi):St:=⟨[(1,u6 v.1),(2,.ptr 0 0),(4,.ptr 1 0),(6,.ptr 2 0),(7,u6 v.2.1),(8,i6 v.2.2.1),(38,.bool v.2.2.2.1)],[.cells [.bool v.2.2.2.2.1,u6 v.2.2.2.2.2.1,u6 v.2.2.2.2.2.2.1],.cells [.bool v.2.2.2.2.2.2.2.1,u6 v.2.2.2.2.2.2.2.2.1,u6 v.2.2.2.2.2.2.2.2.2.1],.cells [.bool v.2.2.2.2.2.2.2.2.2.2.1,u6 v.2.2.2.2.2.2.2.2.2.2.2.1,u6 v.2.2.2.2.2.2.2.2.2.2.2.2]]⟩
def q1yk (C:q1xb) (v:q1xs):Dt q1yi:=(Dt.ret (v.1,v.2.1,v.2.2.1,(decide (v.2.2.1≥(64:Int))),v.2.2.2.1,v.2.2.2.2.1,v.2.2.2.2.2.1,v.2.2.2.2.2.2.1,v.2.2.2.2.2.2.2.1,v.2.2.2.2.2.2.2.2.1,v.2.2.2.2.2.2.2.2.2.1,v.2.2.2.2.2.2.2.2.2.2.1,v.2.2.2.2.2.2.2.2.2.2.2))
theorem q1yl C v:q3zv (regO (qcy f87) 12) false (an [1,2,4,6,7,8,38]) q1xt q1yk q1yj C v:=rgI (by kernel_rfl)
def q1ym (C:q1xb) (v:q1yi):Dt q1xs:=(Dt.ite (decide ((IntKind.wrap .i64 (v.2.2.1 - (64:Int)))<0)) Dt.fail (Dt.ret (v.1,v.2.1,v.2.2.1,v.2.2.2.2.1,v.2.2.2.2.2.1,v.2.2.2.2.2.2.1,v.2.2.2.2.2.2.2.1,v.2.2.2.2.2.2.2.2.1,v.2.2.2.2.2.2.2.2.2.1,v.2.2.2.2.2.2.2.2.2.2.1,(orI .u64 v.2.2.2.2.2.2.2.2.2.2.2.1 (shlI .u64 (1:Int) (IntKind.wrap .i64 (v.2.2.1 - (64:Int))))),v.2.2.2.2.2.2.2.2.2.2.2.2)))
theorem q1yn C v:q3zv (regO (qcy f87) 13) true (an [1,2,4,6,7,8]) q1yj q1ym q1xt C v:=rgI (by kernel_rfl)
def q1yo (C:q1xb) (v:q1xs):Dt q1xs:=(Dt.ret (v.1,v.2.1,(IntKind.wrap .i64 (v.2.2.1 - (1:Int))),v.2.2.2.1,v.2.2.2.2.1,v.2.2.2.2.2.1,v.2.2.2.2.2.2.1,v.2.2.2.2.2.2.2.1,v.2.2.2.2.2.2.2.2.1,v.2.2.2.2.2.2.2.2.2.1,v.2.2.2.2.2.2.2.2.2.2.1,v.2.2.2.2.2.2.2.2.2.2.2))
theorem q1yp C v:q3zv (regO (qcy f87) 5) false (an [1,2,4,6,7,8]) q1xt q1yo q1xt C v:=rgI (by kernel_rfl)
def q1yq  (d:Nat) (self1:(Int×Int×Int×Bool×Int×Int×Bool×Int×Int×Bool×Int×Int)→Option q1x8) (z:Int×Int×Int×Bool×Int×Int×Bool×Int×Int×Bool×Int×Int):Option (q1x8) :=
 (q1yo (q1xc d) z).eval fun y5 =>
 self1 y5
def q1yr (C:q1xb) (v:q1yi):Dt q1xs:=(Dt.ite (decide (v.2.2.1<0)) Dt.fail (Dt.ret (v.1,v.2.1,v.2.2.1,v.2.2.2.2.1,v.2.2.2.2.2.1,v.2.2.2.2.2.2.1,v.2.2.2.2.2.2.2.1,v.2.2.2.2.2.2.2.2.1,v.2.2.2.2.2.2.2.2.2.1,v.2.2.2.2.2.2.2.2.2.2.1,v.2.2.2.2.2.2.2.2.2.2.2.1,(orI .u64 v.2.2.2.2.2.2.2.2.2.2.2.2 (shlI .u64 (1:Int) v.2.2.1)))))
theorem q1ys C v:q3zv (regO (qcy f87) 14) true (an [1,2,4,6,7,8]) q1yj q1yr q1xt C v:=rgI (by kernel_rfl)
def q1yt  (d:Nat) (self1:(Int×Int×Int×Bool×Int×Int×Bool×Int×Int×Bool×Int×Int)→Option q1x8) (z:Int×Int×Int×Int×Bool×Int×Int×Bool×Int×Int×Bool×Int×Int):Option (q1x8) :=
 (q1ya (q1xc d) z).eval fun y9 =>
 (q1ye (q1xc d) y9).eval fun y10 =>
 bif y10.2.2.2.1 then ((q1yg (q1xc d) y10).eval fun y11 =>
 (q1yk (q1xc d) y11).eval fun y12 =>
 bif y12.2.2.2.1 then ((q1ym (q1xc d) y12).eval fun y13 =>
 q1yq d self1 y13) else ((q1yr (q1xc d) y12).eval fun y14 =>
 q1yq d self1 y14)) else (q1yq d self1 (y10.1,y10.2.1,y10.2.2.1,y10.2.2.2.2.1,y10.2.2.2.2.2.1,y10.2.2.2.2.2.2.1,y10.2.2.2.2.2.2.2.1,y10.2.2.2.2.2.2.2.2.1,y10.2.2.2.2.2.2.2.2.2.1,y10.2.2.2.2.2.2.2.2.2.2.1,y10.2.2.2.2.2.2.2.2.2.2.2.1,y10.2.2.2.2.2.2.2.2.2.2.2.2))
abbrev q1yu:Type:=Int×Bool×Int×Int
def q1yv (v:q1yu):St:=⟨[(4,.ptr 0 0),(5,u6 v.1)],[.cells [.bool v.2.1,u6 v.2.2.1,u6 v.2.2.2]]⟩
def q1yw (C:q1xb) (v:q1xw):Dt q1yu:=(Dt.ret (v.2.1,v.2.2.2.2.2.2.2.2.2.2.1,v.2.2.2.2.2.2.2.2.2.2.2.1,v.2.2.2.2.2.2.2.2.2.2.2.2))
theorem q1yx C v:q3zv (regO (qcy f87) 15) false (an [4,5]) q1xx q1yw q1yv C v:=rgI (by kernel_rfl)
def q1yy (d:Nat) (self1:(Int×Int×Int×Bool×Int×Int×Bool×Int×Int×Bool×Int×Int)→Option q1x8) (x1:Int×Int×Int×Bool×Int×Int×Bool×Int×Int×Bool×Int×Int):Option q1x8 :=
 (q1xy (q1xc d) x1).eval fun y4 =>
 bif y4.2.2.2.1 then ((q1y2 (q1xc d) y4).eval fun y6 =>
 (q1y6 (q1xc d) y6).eval fun y7 =>
 bif y7.2.2.2.2.1 then ((q1y8 (q1xc d) y7).eval fun y8 =>
 q1yt d self1 y8) else (q1yt d self1 (y7.1,y7.2.1,y7.2.2.1,y7.2.2.2.1,y7.2.2.2.2.2.1,y7.2.2.2.2.2.2.1,y7.2.2.2.2.2.2.2.1,y7.2.2.2.2.2.2.2.2.1,y7.2.2.2.2.2.2.2.2.2.1,y7.2.2.2.2.2.2.2.2.2.2.1,y7.2.2.2.2.2.2.2.2.2.2.2.1,y7.2.2.2.2.2.2.2.2.2.2.2.2.1,y7.2.2.2.2.2.2.2.2.2.2.2.2.2))) else ((q1yw (q1xc d) y4).eval fun y15 =>
 some (y15.2.1,y15.2.2.1,y15.2.2.2,y15.1))
def q1yz (d:Nat) (x:q1x7):Option q1x8 :=
 (q1xi (q1xc d) (x.1.1,x.1.2.1,x.1.2.2.1,x.2.1.1)).eval fun y0 =>
 (q1xm (q1xc d) y0).eval fun y1 =>
 (q1xq (q1xc d) y1).eval fun y2 =>
 (q1xu (q1xc d) y2).eval fun y3 =>
 iter (q1yy d ) d y3
theorem q1z0 (d:Nat):COK prog (q1xa (q1yz d)):=by
 have hm:prog.follows .mixedOrders=true:=qjt
 have hT:=tys
 have hC0:OrcOK prog (orc (q1xd (q1xc d))):=qcs (by
  intro S hS
  simp only [q1xd,List.mem_cons,List.not_mem_nil,or_false] at hS
  all_goals first | cases hS | exact hS.elim)
 have hC:OrcOK prog (orc (q1xd (q1xc d))):=hC0
 refine q8e (c:=qcy f87) (fn:=f87) hT (by kernel_rfl) (by kernel_rfl) (by decide) fun x r h w0 φ0 Q hend=>?_
 replace h:q1yz d x=some r:=h
 unfold q1yz at h
 show Run prog w0 φ0 54 (qcy f87) ⟨[(0,.agg [.bool x.1.1,.int .u64 x.1.2.1,.int .u64 x.1.2.2.1]),(1,.int .u64 x.2.1.1)],[]⟩ Q
 refine q3yx hm hT hC (q1xj (q1xc d) (x.1.1,x.1.2.1,x.1.2.2.1,x.2.1.1)) h fun y0 h=>?_
 refine q3yx hm hT hC (q1xn (q1xc d) y0) h fun y1 h=>?_
 refine q3yx hm hT hC (q1xr (q1xc d) y1) h fun y2 h=>?_
 refine q7y ?_
 refine q3yx hm hT hC (q1xv (q1xc d) y2) h fun y3 h=>?_
 refine q7z ?_
 refine q84 (G:=iter (q1yy d )) (S:=(fun x1=>⟨[(1,u6 x1.1),(2,.ptr 0 0),(4,.ptr 1 0),(6,.ptr 2 0),(7,u6 x1.2.1),(8,i6 x1.2.2.1)],[.cells [.bool x1.2.2.2.1,u6 x1.2.2.2.2.1,u6 x1.2.2.2.2.2.1],.cells [.bool x1.2.2.2.2.2.2.1,u6 x1.2.2.2.2.2.2.2.1,u6 x1.2.2.2.2.2.2.2.2.1],.cells [.bool x1.2.2.2.2.2.2.2.2.2.1,u6 x1.2.2.2.2.2.2.2.2.2.2.1,u6 x1.2.2.2.2.2.2.2.2.2.2.2]]⟩:q1xs→St)) (fun _=>rfl) ?_ d _ h
 intro n1 x1 h K1 hn1
 replace h:q1yy d  (iter (q1yy d ) n1) x1=some r:=h
 generalize iter (q1yy d ) n1=self1 at h hn1
 unfold q1yy at h
 refine q7y ?_
 refine q3yx hm hT hC (q1xz (q1xc d) x1) h fun y4 h=>?_
 refine q82 (v:=y4.2.2.2.1) (by kernel_rfl) h ?_ ?_
 ·
  intro h
  refine q7u (q7k ?_)
  refine q81 (r:=r) (F:=q1yq d self1) (S:=(fun z=>⟨[(1,u6 z.1),(2,.ptr 0 0),(4,.ptr 1 0),(6,.ptr 2 0),(7,u6 z.2.1),(8,i6 z.2.2.1)],[.cells [.bool z.2.2.2.1,u6 z.2.2.2.2.1,u6 z.2.2.2.2.2.1],.cells [.bool z.2.2.2.2.2.2.1,u6 z.2.2.2.2.2.2.2.1,u6 z.2.2.2.2.2.2.2.2.1],.cells [.bool z.2.2.2.2.2.2.2.2.2.1,u6 z.2.2.2.2.2.2.2.2.2.2.1,u6 z.2.2.2.2.2.2.2.2.2.2.2]]⟩:q1xs→St)) ?_ ?_
  ·
   intro z h
   unfold q1yq at h
   refine q83 hm hT hC (q1yp (q1xc d) z) h ?_
   intro y5 h
   exact hn1 _ h
  intro hj2
  refine q7z ?_
  refine q3yx hm hT hC (q1y3 (q1xc d) y4) h fun y6 h=>?_
  refine q81 (r:=r) (F:=q1yt d self1) (S:=(fun z=>⟨[(1,u6 z.1),(2,.ptr 0 0),(4,.ptr 1 0),(6,.ptr 2 0),(7,u6 z.2.1),(8,i6 z.2.2.1),(9,u6 z.2.2.2.1)],[.cells [.bool z.2.2.2.2.1,u6 z.2.2.2.2.2.1,u6 z.2.2.2.2.2.2.1],.cells [.bool z.2.2.2.2.2.2.2.1,u6 z.2.2.2.2.2.2.2.2.1,u6 z.2.2.2.2.2.2.2.2.2.1],.cells [.bool z.2.2.2.2.2.2.2.2.2.2.1,u6 z.2.2.2.2.2.2.2.2.2.2.2.1,u6 z.2.2.2.2.2.2.2.2.2.2.2.2]]⟩:q1y0→St)) ?_ ?_
  ·
   intro z h
   unfold q1yt at h
   refine q3yx hm hT hC (q1yb (q1xc d) z) h fun y9 h=>?_
   refine q3yx hm hT hC (q1yf (q1xc d) y9) h fun y10 h=>?_
   refine q82 (v:=y10.2.2.2.1) (by kernel_rfl) h ?_ ?_
   ·
    intro h
    refine q3yx hm hT hC (q1yh (q1xc d) y10) h fun y11 h=>?_
    refine q3yx hm hT hC (q1yl (q1xc d) y11) h fun y12 h=>?_
    refine q82 (v:=y12.2.2.2.1) (by kernel_rfl) h ?_ ?_
    ·
     intro h
     refine q83 hm hT hC (q1yn (q1xc d) y12) h ?_
     intro y13 h
     refine q7n ?_
     exact hj2 _ h
    ·
     intro h
     refine q83 hm hT hC (q1ys (q1xc d) y12) h ?_
     intro y14 h
     refine q7n ?_
     exact hj2 _ h
   ·
    intro h
    refine q7u (q7n ?_)
    refine qcx (s:=⟨[(1,.int .u64 y10.1),(2,.ptr 0 0),(4,.ptr 1 0),(6,.ptr 2 0),(7,.int .u64 y10.2.1),(8,.int .i64 y10.2.2.1)],[.cells [.bool y10.2.2.2.2.1,.int .u64 y10.2.2.2.2.2.1,.int .u64 y10.2.2.2.2.2.2.1],.cells [.bool y10.2.2.2.2.2.2.2.1,.int .u64 y10.2.2.2.2.2.2.2.2.1,.int .u64 y10.2.2.2.2.2.2.2.2.2.1],.cells [.bool y10.2.2.2.2.2.2.2.2.2.2.1,.int .u64 y10.2.2.2.2.2.2.2.2.2.2.2.1,.int .u64 y10.2.2.2.2.2.2.2.2.2.2.2.2]]⟩) [33] (by kernel_rfl) ?_
    exact hj2 _ h
  intro hj3
  refine q3yx hm hT hC (q1y7 (q1xc d) y6) h fun y7 h=>?_
  refine q82 (v:=y7.2.2.2.2.1) (by kernel_rfl) h ?_ ?_
  ·
   intro h
   refine q83 hm hT hC (q1y9 (q1xc d) y7) h ?_
   intro y8 h
   exact hj3 _ h
  ·
   intro h
   refine q7u ?_
   refine qcx (s:=⟨[(1,.int .u64 y7.1),(2,.ptr 0 0),(4,.ptr 1 0),(6,.ptr 2 0),(7,.int .u64 y7.2.1),(8,.int .i64 y7.2.2.1),(9,.int .u64 y7.2.2.2.1)],[.cells [.bool y7.2.2.2.2.2.1,.int .u64 y7.2.2.2.2.2.2.1,.int .u64 y7.2.2.2.2.2.2.2.1],.cells [.bool y7.2.2.2.2.2.2.2.2.1,.int .u64 y7.2.2.2.2.2.2.2.2.2.1,.int .u64 y7.2.2.2.2.2.2.2.2.2.2.1],.cells [.bool y7.2.2.2.2.2.2.2.2.2.2.2.1,.int .u64 y7.2.2.2.2.2.2.2.2.2.2.2.2.1,.int .u64 y7.2.2.2.2.2.2.2.2.2.2.2.2.2]]⟩) [20] (by kernel_rfl) ?_
   exact hj3 _ h
 ·
  intro h
  refine q7w (q7l (q7l (q7p (q7k ?_))))
  refine q3yx hm hT hC (q1yx (q1xc d) y4) h fun y15 h=>?_
  refine q7x ?_
  cases h
  exact (hend _ (by kernel_rfl)).2
abbrev q1z1:List Pk:=[.row Ru false,.row Ru false]
abbrev q1z2:Type:=Du×Du×Unit
abbrev q1z3:Type:=Bool×Int×Int
def q1z4 (r:q1z3):LV×List Ob:=(.agg [.bool r.1,.int .u64 r.2.1,.int .u64 r.2.2],[])
def q1z5 (F:q1z2→Option q1z3):Go.Tx.Spec:=⟨89,q1z1,q1z3,F,q1z4⟩
abbrev q1z6:Type:=Unit
def q1z7 (_d:Nat):q1z6:=()
def q1z8 (C:q1z6):List Go.Tx.Spec:=[]
abbrev q1z9:Type:=Int×Int
def q1za (v:q1z9):St:=⟨[(0,u6 v.1),(1,u6 v.2)],[]⟩
abbrev q1zb:Type:=Int×Int×Bool×Int×Int
def q1zc (v:q1zb):St:=⟨[(0,u6 v.1),(1,u6 v.2.1),(4,.ptr 0 0)],[.cells [.bool v.2.2.1,u6 v.2.2.2.1,u6 v.2.2.2.2]]⟩
def q1zd (C:q1z6) (v:q1z9):Dt q1zb:=(Dt.ret (v.1,v.2,false,(0:Int),(0:Int)))
abbrev q3zw {V Y:Type}:=@rg q1z6 V Y tysT (fun C=>(orc (q1z8 C))) 51
theorem q1ze C v:q3zw (regO (qcy f89) 0) false (an [0,1,4]) q1za q1zd q1zc C v:=rgI (by kernel_rfl)
abbrev q1zf:Type:=Int×Int×Int×Int×Bool×Int×Int
def q1zg (v:q1zf):St:=⟨[(4,.ptr 0 0),(5,u6 v.1),(6,u6 v.2.1),(7,u6 v.2.2.1),(8,u6 v.2.2.2.1)],[.cells [.bool v.2.2.2.2.1,u6 v.2.2.2.2.2.1,u6 v.2.2.2.2.2.2]]⟩
def q1zh (C:q1z6) (v:q1zb):Dt q1zf:=(Dt.ite ((4294967296:Int)==(0:Int)) Dt.fail (Dt.ite ((4294967296:Int)==(0:Int)) Dt.fail (Dt.ite ((4294967296:Int)==(0:Int)) Dt.fail (Dt.ite ((4294967296:Int)==(0:Int)) Dt.fail (Dt.ret ((IntKind.wrap .u64 (Int.tdiv v.1 (4294967296:Int))),(Int.tmod v.1 (4294967296:Int)),(IntKind.wrap .u64 (Int.tdiv v.2.1 (4294967296:Int))),(Int.tmod v.2.1 (4294967296:Int)),v.2.2.1,v.2.2.2.1,v.2.2.2.2))))))
theorem q1zi C v:q3zw (regO (qcy f89) 1) false (an [4,5,6,7,8]) q1zc q1zh q1zg C v:=rgI (by kernel_rfl)
abbrev q1zj:Type:=Int×Int×Int×Int×Int×Bool×Int×Int
def q1zk (v:q1zj):St:=⟨[(4,.ptr 0 0),(5,u6 v.1),(6,u6 v.2.1),(7,u6 v.2.2.1),(8,u6 v.2.2.2.1),(9,u6 v.2.2.2.2.1)],[.cells [.bool v.2.2.2.2.2.1,u6 v.2.2.2.2.2.2.1,u6 v.2.2.2.2.2.2.2]]⟩
def q1zl (C:q1z6) (v:q1zf):Dt q1zj:=(Dt.ret (v.1,v.2.1,v.2.2.1,v.2.2.2.1,(IntKind.wrap .u64 (v.2.1*v.2.2.2.1)),v.2.2.2.2.1,v.2.2.2.2.2.1,v.2.2.2.2.2.2))
theorem q1zm C v:q3zw (regO (qcy f89) 2) false (an [4,5,6,7,8,9]) q1zg q1zl q1zk C v:=rgI (by kernel_rfl)
abbrev q1zn:Type:=Int×Int×Int×Int×Int×Bool×Int×Int
def q1zo (v:q1zn):St:=⟨[(4,.ptr 0 0),(5,u6 v.1),(6,u6 v.2.1),(7,u6 v.2.2.1),(9,u6 v.2.2.2.1),(10,u6 v.2.2.2.2.1)],[.cells [.bool v.2.2.2.2.2.1,u6 v.2.2.2.2.2.2.1,u6 v.2.2.2.2.2.2.2]]⟩
def q1zp (C:q1z6) (v:q1zj):Dt q1zn:=(Dt.ite ((4294967296:Int)==(0:Int)) Dt.fail (Dt.ret (v.1,v.2.1,v.2.2.1,v.2.2.2.2.1,(IntKind.wrap .u64 ((IntKind.wrap .u64 (v.1*v.2.2.2.1))+(IntKind.wrap .u64 (Int.tdiv v.2.2.2.2.1 (4294967296:Int))))),v.2.2.2.2.2.1,v.2.2.2.2.2.2.1,v.2.2.2.2.2.2.2)))
theorem q1zq C v:q3zw (regO (qcy f89) 3) false (an [4,5,6,7,9,10]) q1zk q1zp q1zo C v:=rgI (by kernel_rfl)
abbrev q1zr:Type:=Int×Int×Int×Int×Int×Bool×Int×Int
def q1zs (v:q1zr):St:=⟨[(4,.ptr 0 0),(5,u6 v.1),(7,u6 v.2.1),(9,u6 v.2.2.1),(10,u6 v.2.2.2.1),(11,u6 v.2.2.2.2.1)],[.cells [.bool v.2.2.2.2.2.1,u6 v.2.2.2.2.2.2.1,u6 v.2.2.2.2.2.2.2]]⟩
def q1zt (C:q1z6) (v:q1zn):Dt q1zr:=(Dt.ite ((4294967296:Int)==(0:Int)) Dt.fail (Dt.ret (v.1,v.2.2.1,v.2.2.2.1,v.2.2.2.2.1,(IntKind.wrap .u64 ((IntKind.wrap .u64 (v.2.1*v.2.2.1))+(Int.tmod v.2.2.2.2.1 (4294967296:Int)))),v.2.2.2.2.2.1,v.2.2.2.2.2.2.1,v.2.2.2.2.2.2.2)))
theorem q1zu C v:q3zw (regO (qcy f89) 4) false (an [4,5,7,9,10,11]) q1zo q1zt q1zs C v:=rgI (by kernel_rfl)
abbrev q1zv:Type:=Bool×Int×Int
def q1zw (v:q1zv):St:=⟨[(4,.ptr 0 0)],[.cells [.bool v.1,u6 v.2.1,u6 v.2.2]]⟩
def q1zx (C:q1z6) (v:q1zr):Dt q1zv:=(Dt.ite ((4294967296:Int)==(0:Int)) Dt.fail (Dt.ite ((4294967296:Int)==(0:Int)) Dt.fail (Dt.ite ((4294967296:Int)==(0:Int)) Dt.fail (Dt.ite ((4294967296:Int)==(0:Int)) Dt.fail (Dt.ret (false,(IntKind.wrap .u64 ((IntKind.wrap .u64 ((IntKind.wrap .u64 (v.1*v.2.1))+(IntKind.wrap .u64 (Int.tdiv v.2.2.2.1 (4294967296:Int)))))+(IntKind.wrap .u64 (Int.tdiv v.2.2.2.2.1 (4294967296:Int))))),(IntKind.wrap .u64 ((IntKind.wrap .u64 ((Int.tmod v.2.2.2.2.1 (4294967296:Int))*(4294967296:Int)))+(Int.tmod v.2.2.1 (4294967296:Int))))))))))
theorem q1zy C v:q3zw (regO (qcy f89) 5) false [(4,.any)] q1zs q1zx q1zw C v:=rgI (by kernel_rfl)
def q1zz (d:Nat) (x:q1z2):Option q1z3 :=
 (q1zd (q1z7 d) (x.1.1,x.2.1.1)).eval fun y0 =>
 (q1zh (q1z7 d) y0).eval fun y1 =>
 (q1zl (q1z7 d) y1).eval fun y2 =>
 (q1zp (q1z7 d) y2).eval fun y3 =>
 (q1zt (q1z7 d) y3).eval fun y4 =>
 (q1zx (q1z7 d) y4).eval fun y5 =>
 some y5
theorem q200 (d:Nat):COK prog (q1z5 (q1zz d)):=by
 have hm:prog.follows .mixedOrders=true:=qjt
 have hT:=tys
 have hC0:OrcOK prog (orc (q1z8 (q1z7 d))):=qcs (by
  intro S hS
  simp only [q1z8,List.mem_cons,List.not_mem_nil,or_false] at hS
  all_goals first | cases hS | exact hS.elim)
 have hC:OrcOK prog (orc (q1z8 (q1z7 d))):=hC0
 refine q8e (c:=qcy f89) (fn:=f89) hT (by kernel_rfl) (by kernel_rfl) (by decide) fun x r h w0 φ0 Q hend=>?_
 replace h:q1zz d x=some r:=h
 unfold q1zz at h
 show Run prog w0 φ0 51 (qcy f89) ⟨[(0,.int .u64 x.1.1),(1,.int .u64 x.2.1.1)],[]⟩ Q
 refine q3yx hm hT hC (q1ze (q1z7 d) (x.1.1,x.2.1.1)) h fun y0 h=>?_
 refine q3yx hm hT hC (q1zi (q1z7 d) y0) h fun y1 h=>?_
 refine q3yx hm hT hC (q1zm (q1z7 d) y1) h fun y2 h=>?_
 refine q3yx hm hT hC (q1zq (q1z7 d) y2) h fun y3 h=>?_
 refine q3yx hm hT hC (q1zu (q1z7 d) y3) h fun y4 h=>?_
 refine q3yx hm hT hC (q1zy (q1z7 d) y4) h fun y5 h=>?_
 refine q7x ?_
 cases h
 exact (hend _ (by kernel_rfl)).2
abbrev q201:List Pk:=[.row Rb false,.row Rbuu true,.row Rbuu true]
abbrev q202:Type:=Db×Dbuu×Dbuu×Unit
abbrev q203:Type:=Int×Int×Int
def q204 (r:q203):LV×List Ob:=(.tup [.agg [.int .i64 r.1,.int .i64 r.2.1],.int .i64 r.2.2],[])
def q205 (F:q202→Option q203):Go.Tx.Spec:=⟨88,q201,q203,F,q204⟩
abbrev q206:Type:=Unit
def q207 (_d:Nat):q206:=()
def q208 (C:q206):List Go.Tx.Spec:=[]
abbrev q209:Type:=Bool×Bool×Int×Int×Bool×Int×Int
def q20a (v:q209):St:=⟨[(0,.bool v.1),(1,.agg [.bool v.2.1,u6 v.2.2.1,u6 v.2.2.2.1]),(2,.agg [.bool v.2.2.2.2.1,u6 v.2.2.2.2.2.1,u6 v.2.2.2.2.2.2])],[]⟩
abbrev q20b:Type:=Bool×Bool×Int×Int×Bool×Int×Int×Int×Int
def q20c (v:q20b):St:=⟨[(0,.bool v.1),(4,.ptr 0 0),(5,.ptr 1 0),(6,.ptr 2 0)],[.cells [.bool v.2.1,u6 v.2.2.1,u6 v.2.2.2.1],.cells [.bool v.2.2.2.2.1,u6 v.2.2.2.2.2.1,u6 v.2.2.2.2.2.2.1],.cells [i6 v.2.2.2.2.2.2.2.1,i6 v.2.2.2.2.2.2.2.2]]⟩
def q20d (C:q206) (v:q209):Dt q20b:=(Dt.ret (v.1,v.2.1,v.2.2.1,v.2.2.2.1,v.2.2.2.2.1,v.2.2.2.2.2.1,v.2.2.2.2.2.2,(0:Int),(0:Int)))
abbrev q3zx {V Y:Type}:=@rg q206 V Y tysT (fun C=>(orc (q208 C))) 43
theorem q20e C v:q3zx (regO (qcy f88) 0) false (an [0,4,5,6]) q20a q20d q20c C v:=rgI (by kernel_rfl)
abbrev q20f:Type:=Bool×Bool×Bool×Int×Int×Bool×Int×Int×Int×Int
def q20g (v:q20f):St:=⟨[(0,.bool v.1),(4,.ptr 0 0),(5,.ptr 1 0),(6,.ptr 2 0),(25,.bool v.2.1)],[.cells [.bool v.2.2.1,u6 v.2.2.2.1,u6 v.2.2.2.2.1],.cells [.bool v.2.2.2.2.2.1,u6 v.2.2.2.2.2.2.1,u6 v.2.2.2.2.2.2.2.1],.cells [i6 v.2.2.2.2.2.2.2.2.1,i6 v.2.2.2.2.2.2.2.2.2]]⟩
def q20h (C:q206) (v:q20b):Dt q20f:=(Dt.ite (decide (v.2.2.1 > (0:Int))) (Dt.ret (v.1,true,v.2.1,v.2.2.1,v.2.2.2.1,v.2.2.2.2.1,v.2.2.2.2.2.1,v.2.2.2.2.2.2.1,v.2.2.2.2.2.2.2.1,v.2.2.2.2.2.2.2.2)) (Dt.ite (decide (v.2.2.2.1 > (9223372036854775807:Int))) (Dt.ret (v.1,true,v.2.1,v.2.2.1,v.2.2.2.1,v.2.2.2.2.1,v.2.2.2.2.2.1,v.2.2.2.2.2.2.1,v.2.2.2.2.2.2.2.1,v.2.2.2.2.2.2.2.2)) (Dt.ite (decide (v.2.2.2.2.2.1 > (0:Int))) (Dt.ret (v.1,true,v.2.1,v.2.2.1,v.2.2.2.1,v.2.2.2.2.1,v.2.2.2.2.2.1,v.2.2.2.2.2.2.1,v.2.2.2.2.2.2.2.1,v.2.2.2.2.2.2.2.2)) (Dt.ret (v.1,(decide (v.2.2.2.2.2.2.1 > (9223372036854775807:Int))),v.2.1,v.2.2.1,v.2.2.2.1,v.2.2.2.2.1,v.2.2.2.2.2.1,v.2.2.2.2.2.2.1,v.2.2.2.2.2.2.2.1,v.2.2.2.2.2.2.2.2)))))
theorem q20i C v:q3zx (regO (qcy f88) 1) false (an [0,4,5,6,25]) q20c q20h q20g C v:=rgI (by kernel_rfl)
abbrev q20j:Type:=Int×Int×Int
def q20k (v:q20j):St:=⟨[(6,.ptr 0 0),(7,i6 v.1)],[.cells [i6 v.2.1,i6 v.2.2]]⟩
def q20l (C:q206) (v:q20f):Dt q20j:=(Dt.ret ((16:Int),(0:Int),(0:Int)))
theorem q20m C v:q3zx (regO (qcy f88) 2) false (an [6,7]) q20g q20l q20k C v:=rgI (by kernel_rfl)
abbrev q20n:Type:=Bool×Bool×Int×Int×Bool×Int×Int×Int×Int
def q20o (v:q20n):St:=⟨[(4,.ptr 0 0),(5,.ptr 1 0),(6,.ptr 2 0),(27,.bool v.1)],[.cells [.bool v.2.1,u6 v.2.2.1,u6 v.2.2.2.1],.cells [.bool v.2.2.2.2.1,u6 v.2.2.2.2.2.1,u6 v.2.2.2.2.2.2.1],.cells [i6 v.2.2.2.2.2.2.2.1,i6 v.2.2.2.2.2.2.2.2]]⟩
def q20p (C:q206) (v:q20f):Dt q20n:=(Dt.ret (v.1,v.2.2.1,v.2.2.2.1,v.2.2.2.2.1,v.2.2.2.2.2.1,v.2.2.2.2.2.2.1,v.2.2.2.2.2.2.2.1,v.2.2.2.2.2.2.2.2.1,v.2.2.2.2.2.2.2.2.2))
theorem q20q C v:q3zx (regO (qcy f88) 3) false (an [4,5,6,27]) q20g q20p q20o C v:=rgI (by kernel_rfl)
def q20r (C:q206) (v:q20n):Dt q20j:=(Dt.ret ((0:Int),(IntKind.wrap .i64 (0 - (IntKind.wrap .i64 v.2.2.2.1))),(IntKind.wrap .i64 v.2.2.2.2.2.2.1)))
theorem q20s C v:q3zx (regO (qcy f88) 4) false (an [6,7]) q20o q20r q20k C v:=rgI (by kernel_rfl)
def q20t (C:q206) (v:q20n):Dt q20j:=(Dt.ret ((0:Int),(IntKind.wrap .i64 v.2.2.2.1),(IntKind.wrap .i64 v.2.2.2.2.2.2.1)))
theorem q20u C v:q3zx (regO (qcy f88) 5) false (an [6,7]) q20o q20t q20k C v:=rgI (by kernel_rfl)
def q20v (d:Nat) (x:q202):Option q203 :=
 (q20d (q207 d) (x.1.1,x.2.1.1,x.2.1.2.1,x.2.1.2.2.1,x.2.2.1.1,x.2.2.1.2.1,x.2.2.1.2.2.1)).eval fun y0 =>
 (q20h (q207 d) y0).eval fun y1 =>
 bif y1.2.1 then ((q20l (q207 d) y1).eval fun y2 =>
 some (y2.2.1,y2.2.2,y2.1)) else ((q20p (q207 d) y1).eval fun y3 =>
 bif y3.1 then ((q20r (q207 d) y3).eval fun y4 =>
 some (y4.2.1,y4.2.2,y4.1)) else ((q20t (q207 d) y3).eval fun y5 =>
 some (y5.2.1,y5.2.2,y5.1)))
theorem q20w (d:Nat):COK prog (q205 (q20v d)):=by
 have hm:prog.follows .mixedOrders=true:=qjt
 have hT:=tys
 have hC0:OrcOK prog (orc (q208 (q207 d))):=qcs (by
  intro S hS
  simp only [q208,List.mem_cons,List.not_mem_nil,or_false] at hS
  all_goals first | cases hS | exact hS.elim)
 have hC:OrcOK prog (orc (q208 (q207 d))):=hC0
 refine q8e (c:=qcy f88) (fn:=f88) hT (by kernel_rfl) (by kernel_rfl) (by decide) fun x r h w0 φ0 Q hend=>?_
 replace h:q20v d x=some r:=h
 unfold q20v at h
 show Run prog w0 φ0 43 (qcy f88) ⟨[(0,.bool x.1.1),(1,.agg [.bool x.2.1.1,.int .u64 x.2.1.2.1,.int .u64 x.2.1.2.2.1]),(2,.agg [.bool x.2.2.1.1,.int .u64 x.2.2.1.2.1,.int .u64 x.2.2.1.2.2.1])],[]⟩ Q
 refine q3yx hm hT hC (q20e (q207 d) (x.1.1,x.2.1.1,x.2.1.2.1,x.2.1.2.2.1,x.2.2.1.1,x.2.2.1.2.1,x.2.2.1.2.2.1)) h fun y0 h=>?_
 refine q7y ?_
 refine q3yx hm hT hC (q20i (q207 d) y0) h fun y1 h=>?_
 refine q82 (v:=y1.2.1) (by kernel_rfl) h ?_ ?_
 ·
  intro h
  refine q3yx hm hT hC (q20m (q207 d) y1) h fun y2 h=>?_
  refine q7x (q7m ?_)
  cases h
  exact (hend _ (by kernel_rfl)).2
 ·
  intro h
  refine q7u (q7k (q7y ?_))
  refine q3yx hm hT hC (q20q (q207 d) y1) h fun y3 h=>?_
  refine q82 (v:=y3.1) (by kernel_rfl) h ?_ ?_
  ·
   intro h
   refine q3yx hm hT hC (q20s (q207 d) y3) h fun y4 h=>?_
   refine q7x (q7m ?_)
   cases h
   exact (hend _ (by kernel_rfl)).2
  ·
   intro h
   refine q7u (q7k ?_)
   refine q3yx hm hT hC (q20u (q207 d) y3) h fun y5 h=>?_
   refine q7x ?_
   cases h
   exact (hend _ (by kernel_rfl)).2
abbrev q20x:List Pk:=[.row Rii true,.row Rii true]
abbrev q20y:Type:=Dii×Dii×Unit
abbrev q20z:Type:=Int×Int×Int
def q210 (r:q20z):LV×List Ob:=(.tup [.agg [.int .i64 r.1,.int .i64 r.2.1],.int .i64 r.2.2],[])
def q211 (F:q20y→Option q20z):Go.Tx.Spec:=⟨40,q20x,q20z,F,q210⟩
abbrev q212:Type:=(q1ry→Option q1rz)×(q1so→Option q1sp)×(q1vi→Option q1vj)×(qmp→Option qmq)×(q1x7→Option q1x8)×(q202→Option q203)×(q1z2→Option q1z3)×Unit
def q213 (d:Nat):q212:=(q1sl d,q1ta d,q1x4 d,qmu d,q1yz d,q20v d,q1zz d,())
def q214 (C:q212):List Go.Tx.Spec:=[q1s1 C.1,q1sr C.2.1,q1vl C.2.2.1,qms C.2.2.2.1,q1xa C.2.2.2.2.1,q205 C.2.2.2.2.2.1,q1z5 C.2.2.2.2.2.2.1]
abbrev q215:Type:=Int×Int×Int×Int
def q216 (v:q215):St:=⟨[(0,.agg [i6 v.1,i6 v.2.1]),(1,.agg [i6 v.2.2.1,i6 v.2.2.2])],[]⟩
abbrev q217:Type:=Int×Int×Int×Int×Int×Int
def q218 (v:q217):St:=⟨[(2,.ptr 0 0),(3,.ptr 1 0),(4,.ptr 2 0)],[.cells [i6 v.1,i6 v.2.1],.cells [i6 v.2.2.1,i6 v.2.2.2.1],.cells [i6 v.2.2.2.2.1,i6 v.2.2.2.2.2]]⟩
def q219 (C:q212) (v:q215):Dt q217:=(Dt.ret (v.1,v.2.1,v.2.2.1,v.2.2.2,(0:Int),(0:Int)))
abbrev q3zy {V Y:Type}:=@rg q212 V Y tysT (fun C=>(orc (q214 C))) 78
theorem q21a C v:q3zy (regO (qcy f40) 0) false (an [2,3,4]) q216 q219 q218 C v:=rgI (by kernel_rfl)
abbrev q21b:Type:=Bool×Int×Int×Int×Int×Int×Int
def q21c (v:q21b):St:=⟨[(2,.ptr 0 0),(3,.ptr 1 0),(4,.ptr 2 0),(16,.bool v.1)],[.cells [i6 v.2.1,i6 v.2.2.1],.cells [i6 v.2.2.2.1,i6 v.2.2.2.2.1],.cells [i6 v.2.2.2.2.2.1,i6 v.2.2.2.2.2.2]]⟩
def q21d (C:q212) (v:q217):Dt q21b:=(Dt.bnd (C.1 ((v.1,v.2.1,()),(v.2.2.1,v.2.2.2.1,()),())) fun r1=>(Dt.ret ((r1!=(0:Int)),v.1,v.2.1,v.2.2.1,v.2.2.2.1,v.2.2.2.2.1,v.2.2.2.2.2)))
theorem q21e C v:q3zy (regO (qcy f40) 1) false (an [2,3,4,16]) q218 q21d q21c C v:=rgI (by kernel_rfl)
abbrev q21f:Type:=Int×Int×Int
def q21g (v:q21f):St:=⟨[(4,.ptr 0 0),(5,i6 v.1)],[.cells [i6 v.2.1,i6 v.2.2]]⟩
def q21h (C:q212) (v:q21b):Dt q21f:=(Dt.bnd (C.1 ((v.2.1,v.2.2.1,()),(v.2.2.2.1,v.2.2.2.2.1,()),())) fun r1=>(Dt.ret (r1,(0:Int),(0:Int))))
theorem q21i C v:q3zy (regO (qcy f40) 2) false (an [4,5]) q21c q21h q21g C v:=rgI (by kernel_rfl)
abbrev q21j:Type:=Int×Int×Int×Int×Int×Int×Int
def q21k (v:q21j):St:=⟨[(2,.ptr 0 0),(3,.ptr 1 0),(4,.ptr 2 0),(6,i6 v.1)],[.cells [i6 v.2.1,i6 v.2.2.1],.cells [i6 v.2.2.2.1,i6 v.2.2.2.2.1],.cells [i6 v.2.2.2.2.2.1,i6 v.2.2.2.2.2.2]]⟩
def q21l (C:q212) (v:q21b):Dt q21j:=(Dt.bnd (C.2.1 (((IntKind.wrap .u64 v.2.2.1),()),((IntKind.wrap .u64 v.2.2.2.2.1),()),())) fun r1=>(Dt.ret ((IntKind.wrap .i64 r1),v.2.1,v.2.2.1,v.2.2.2.1,v.2.2.2.2.1,v.2.2.2.2.2.1,v.2.2.2.2.2.2)))
theorem q21m C v:q3zy (regO (qcy f40) 3) false (an [2,3,4,6]) q21c q21l q21k C v:=rgI (by kernel_rfl)
abbrev q21n:Type:=Int×Int×Int×Int×Int×Int×Int×Bool×Int×Int
def q21o (v:q21n):St:=⟨[(2,.ptr 0 0),(3,.ptr 1 0),(4,.ptr 2 0),(6,i6 v.1),(7,.ptr 3 0)],[.cells [i6 v.2.1,i6 v.2.2.1],.cells [i6 v.2.2.2.1,i6 v.2.2.2.2.1],.cells [i6 v.2.2.2.2.2.1,i6 v.2.2.2.2.2.2.1],.cells [.bool v.2.2.2.2.2.2.2.1,u6 v.2.2.2.2.2.2.2.2.1,u6 v.2.2.2.2.2.2.2.2.2]]⟩
def q21p (C:q212) (v:q21j):Dt q21n:=(Dt.ite (v.1==(0:Int)) Dt.fail (Dt.bnd (C.2.2.2.1 ((v.2.1,()),((IntKind.wrap .i64 (Int.tdiv v.2.2.2.2.1 v.1)),()),())) fun r1=>(Dt.ite (v.1==(0:Int)) Dt.fail (Dt.bnd (C.2.2.2.1 ((v.2.2.2.1,()),((IntKind.wrap .i64 (Int.tdiv v.2.2.1 v.1)),()),())) fun r2=>(Dt.bnd (C.2.2.1 ((r1.1,r1.2.1,r1.2.2,()),(r2.1,r2.2.1,r2.2.2,()),())) fun r3=>(Dt.ret (v.1,v.2.1,v.2.2.1,v.2.2.2.1,v.2.2.2.2.1,v.2.2.2.2.2.1,v.2.2.2.2.2.2,r3.1,r3.2.1,r3.2.2)))))))
theorem q21q C v:q3zy (regO (qcy f40) 4) true (an [2,3,4,6,7]) q21k q21p q21o C v:=rgI (by kernel_rfl)
abbrev q21r:Type:=Int×Int×Int×Int×Int×Int×Int×Int×Bool×Int×Int
def q21s (v:q21r):St:=⟨[(2,.ptr 0 0),(3,.ptr 1 0),(4,.ptr 2 0),(6,i6 v.1),(7,.ptr 3 0),(9,u6 v.2.1)],[.cells [i6 v.2.2.1,i6 v.2.2.2.1],.cells [i6 v.2.2.2.2.1,i6 v.2.2.2.2.2.1],.cells [i6 v.2.2.2.2.2.2.1,i6 v.2.2.2.2.2.2.2.1],.cells [.bool v.2.2.2.2.2.2.2.2.1,u6 v.2.2.2.2.2.2.2.2.2.1,u6 v.2.2.2.2.2.2.2.2.2.2]]⟩
def q21t (C:q212) (v:q21n):Dt q21r:=(Dt.bnd (C.2.2.2.2.1 ((v.2.2.2.2.2.2.2.1,v.2.2.2.2.2.2.2.2.1,v.2.2.2.2.2.2.2.2.2,()),((IntKind.wrap .u64 v.1),()),())) fun r1=>(Dt.ret (v.1,r1.2.2.2,v.2.1,v.2.2.1,v.2.2.2.1,v.2.2.2.2.1,v.2.2.2.2.2.1,v.2.2.2.2.2.2.1,v.2.2.2.2.2.2.2.1,v.2.2.2.2.2.2.2.2.1,v.2.2.2.2.2.2.2.2.2)))
theorem q21u C v:q3zy (regO (qcy f40) 5) false (an [2,3,4,6,7,9]) q21o q21t q21s C v:=rgI (by kernel_rfl)
abbrev q21v:Type:=Int×Int×Int×Int×Int×Int×Int×Int×Bool×Int×Int
def q21w (v:q21v):St:=⟨[(2,.ptr 0 0),(3,.ptr 1 0),(4,.ptr 2 0),(6,i6 v.1),(7,.ptr 3 0),(10,u6 v.2.1)],[.cells [i6 v.2.2.1,i6 v.2.2.2.1],.cells [i6 v.2.2.2.2.1,i6 v.2.2.2.2.2.1],.cells [i6 v.2.2.2.2.2.2.1,i6 v.2.2.2.2.2.2.2.1],.cells [.bool v.2.2.2.2.2.2.2.2.1,u6 v.2.2.2.2.2.2.2.2.2.1,u6 v.2.2.2.2.2.2.2.2.2.2]]⟩
def q21x (C:q212) (v:q21r):Dt q21v:=(Dt.bnd (C.2.1 (((IntKind.wrap .u64 v.1),()),(v.2.1,()),())) fun r1=>(Dt.ret (v.1,r1,v.2.2.1,v.2.2.2.1,v.2.2.2.2.1,v.2.2.2.2.2.1,v.2.2.2.2.2.2.1,v.2.2.2.2.2.2.2.1,v.2.2.2.2.2.2.2.2.1,v.2.2.2.2.2.2.2.2.2.1,v.2.2.2.2.2.2.2.2.2.2)))
theorem q21y C v:q3zy (regO (qcy f40) 6) false (an [2,3,4,6,7,10]) q21s q21x q21w C v:=rgI (by kernel_rfl)
abbrev q21z:Type:=Int×Int×Int×Int×Int×Int×Int×Int×Bool×Int×Int×Bool×Int×Int
def q220 (v:q21z):St:=⟨[(2,.ptr 0 0),(3,.ptr 1 0),(4,.ptr 2 0),(6,i6 v.1),(7,.ptr 3 0),(10,u6 v.2.1),(11,.ptr 4 0)],[.cells [i6 v.2.2.1,i6 v.2.2.2.1],.cells [i6 v.2.2.2.2.1,i6 v.2.2.2.2.2.1],.cells [i6 v.2.2.2.2.2.2.1,i6 v.2.2.2.2.2.2.2.1],.cells [.bool v.2.2.2.2.2.2.2.2.1,u6 v.2.2.2.2.2.2.2.2.2.1,u6 v.2.2.2.2.2.2.2.2.2.2.1],.cells [.bool v.2.2.2.2.2.2.2.2.2.2.2.1,u6 v.2.2.2.2.2.2.2.2.2.2.2.2.1,u6 v.2.2.2.2.2.2.2.2.2.2.2.2.2]]⟩
def q221 (C:q212) (v:q21v):Dt q21z:=(Dt.bnd (C.2.2.2.2.1 ((v.2.2.2.2.2.2.2.2.1,v.2.2.2.2.2.2.2.2.2.1,v.2.2.2.2.2.2.2.2.2.2,()),(v.2.1,()),())) fun r1=>(Dt.ret (v.1,v.2.1,v.2.2.1,v.2.2.2.1,v.2.2.2.2.1,v.2.2.2.2.2.1,v.2.2.2.2.2.2.1,v.2.2.2.2.2.2.2.1,v.2.2.2.2.2.2.2.2.1,v.2.2.2.2.2.2.2.2.2.1,v.2.2.2.2.2.2.2.2.2.2,r1.1,r1.2.1,r1.2.2.1)))
theorem q222 C v:q3zy (regO (qcy f40) 7) false (an [2,3,4,6,7,10,11]) q21w q221 q220 C v:=rgI (by kernel_rfl)
def q223 (C:q212) (v:q21z):Dt q21f:=(Dt.ite (v.1==(0:Int)) Dt.fail (Dt.ite (v.2.1==(0:Int)) Dt.fail (Dt.bnd (C.2.2.2.2.2.2.1 (((IntKind.wrap .u64 (IntKind.wrap .i64 (Int.tdiv v.2.2.2.1 v.1))),()),((IntKind.wrap .u64 (Int.tdiv (IntKind.wrap .u64 v.2.2.2.2.2.1) v.2.1)),()),())) fun r1=>(Dt.bnd (C.2.2.2.2.2.1 ((v.2.2.2.2.2.2.2.2.1,()),(v.2.2.2.2.2.2.2.2.2.2.2.1,v.2.2.2.2.2.2.2.2.2.2.2.2.1,v.2.2.2.2.2.2.2.2.2.2.2.2.2,()),(r1.1,r1.2.1,r1.2.2,()),())) fun r2=>(Dt.ret (r2.2.2,r2.1,r2.2.1))))))
theorem q224 C v:q3zy (regO (qcy f40) 8) true (an [4,5]) q220 q223 q21g C v:=rgI (by kernel_rfl)
def q225 (d:Nat) (x:q20y):Option q20z :=
 (q219 (q213 d) (x.1.1,x.1.2.1,x.2.1.1,x.2.1.2.1)).eval fun y0 =>
 (q21d (q213 d) y0).eval fun y1 =>
 bif y1.1 then ((q21h (q213 d) y1).eval fun y2 =>
 some (y2.2.1,y2.2.2,y2.1)) else ((q21l (q213 d) y1).eval fun y3 =>
 (q21p (q213 d) y3).eval fun y4 =>
 (q21t (q213 d) y4).eval fun y5 =>
 (q21x (q213 d) y5).eval fun y6 =>
 (q221 (q213 d) y6).eval fun y7 =>
 (q223 (q213 d) y7).eval fun y8 =>
 some (y8.2.1,y8.2.2,y8.1))
theorem q226 (d:Nat):COK prog (q211 (q225 d)):=by
 have hm:prog.follows .mixedOrders=true:=qjt
 have hT:=tys
 have hC0:OrcOK prog (orc (q214 (q213 d))):=qcs (by
  intro S hS
  simp only [q214,List.mem_cons,List.not_mem_nil,or_false] at hS
  rcases hS with rfl | rfl | rfl | rfl | rfl | rfl | rfl
  · exact q1sm d
  · exact q1tb d
  · exact q1x5 d
  · exact qmw d
  · exact q1z0 d
  · exact q20w d
  · exact q200 d)
 have hC:OrcOK prog (orc (q214 (q213 d))):=hC0
 refine q8e (c:=qcy f40) (fn:=f40) hT (by kernel_rfl) (by kernel_rfl) (by decide) fun x r h w0 φ0 Q hend=>?_
 replace h:q225 d x=some r:=h
 unfold q225 at h
 show Run prog w0 φ0 78 (qcy f40) ⟨[(0,.agg [.int .i64 x.1.1,.int .i64 x.1.2.1]),(1,.agg [.int .i64 x.2.1.1,.int .i64 x.2.1.2.1])],[]⟩ Q
 refine q3yx hm hT hC (q21a (q213 d) (x.1.1,x.1.2.1,x.2.1.1,x.2.1.2.1)) h fun y0 h=>?_
 refine q7y ?_
 refine q3yx hm hT hC (q21e (q213 d) y0) h fun y1 h=>?_
 refine q82 (v:=y1.1) (by kernel_rfl) h ?_ ?_
 ·
  intro h
  refine q3yx hm hT hC (q21i (q213 d) y1) h fun y2 h=>?_
  refine q7x (q7m ?_)
  cases h
  exact (hend _ (by kernel_rfl)).2
 ·
  intro h
  refine q7u (q7k ?_)
  refine q3yx hm hT hC (q21m (q213 d) y1) h fun y3 h=>?_
  refine q3yx hm hT hC (q21q (q213 d) y3) h fun y4 h=>?_
  refine q3yx hm hT hC (q21u (q213 d) y4) h fun y5 h=>?_
  refine q3yx hm hT hC (q21y (q213 d) y5) h fun y6 h=>?_
  refine q3yx hm hT hC (q222 (q213 d) y6) h fun y7 h=>?_
  refine q3yx hm hT hC (q224 (q213 d) y7) h fun y8 h=>?_
  refine q7x ?_
  cases h
  exact (hend _ (by kernel_rfl)).2
abbrev q227:List Pk:=[.row Rii true,.row Rii true]
abbrev q228:Type:=Dii×Dii×Unit
abbrev q229:Type:=Int×Int×Int
def q22a (r:q229):LV×List Ob:=(.tup [.agg [.int .i64 r.1,.int .i64 r.2.1],.int .i64 r.2.2],[])
def q22b (F:q228→Option q229):Go.Tx.Spec:=⟨73,q227,q229,F,q22a⟩
abbrev q22c:Type:=(q20y→Option q20z)×(q1ry→Option q1rz)×Unit
def q22d (d:Nat):q22c:=(q225 d,q1sl d,())
def q22e (C:q22c):List Go.Tx.Spec:=[q211 C.1,q1s1 C.2.1]
abbrev q22f:Type:=Int×Int×Int×Int
def q22g (v:q22f):St:=⟨[(0,.agg [i6 v.1,i6 v.2.1]),(1,.agg [i6 v.2.2.1,i6 v.2.2.2])],[]⟩
abbrev q22h:Type:=Int×Int×Int×Int×Int×Int
def q22i (v:q22h):St:=⟨[(2,.ptr 0 0),(3,.ptr 1 0),(4,.ptr 2 0)],[.cells [i6 v.1,i6 v.2.1],.cells [i6 v.2.2.1,i6 v.2.2.2.1],.cells [i6 v.2.2.2.2.1,i6 v.2.2.2.2.2]]⟩
def q22j (C:q22c) (v:q22f):Dt q22h:=(Dt.ret (v.1,v.2.1,v.2.2.1,v.2.2.2,(0:Int),(0:Int)))
abbrev q3zz {V Y:Type}:=@rg q22c V Y tysT (fun C=>(orc (q22e C))) 24
theorem q22k C v:q3zz (regO (qcy f73) 0) false (an [2,3,4]) q22g q22j q22i C v:=rgI (by kernel_rfl)
abbrev q22l:Type:=Bool×Int×Int×Int×Int×Int×Int
def q22m (v:q22l):St:=⟨[(2,.ptr 0 0),(3,.ptr 1 0),(4,.ptr 2 0),(9,.bool v.1)],[.cells [i6 v.2.1,i6 v.2.2.1],.cells [i6 v.2.2.2.1,i6 v.2.2.2.2.1],.cells [i6 v.2.2.2.2.2.1,i6 v.2.2.2.2.2.2]]⟩
def q22n (C:q22c) (v:q22h):Dt q22l:=(Dt.bnd (C.2.1 ((v.1,v.2.1,()),(v.2.2.1,v.2.2.2.1,()),())) fun r1=>(Dt.ret ((r1!=(0:Int)),v.1,v.2.1,v.2.2.1,v.2.2.2.1,v.2.2.2.2.1,v.2.2.2.2.2)))
theorem q22o C v:q3zz (regO (qcy f73) 1) false (an [2,3,4,9]) q22i q22n q22m C v:=rgI (by kernel_rfl)
abbrev q22p:Type:=Int×Int×Int
def q22q (v:q22p):St:=⟨[(4,.ptr 0 0),(5,i6 v.1)],[.cells [i6 v.2.1,i6 v.2.2]]⟩
def q22r (C:q22c) (v:q22l):Dt q22p:=(Dt.bnd (C.2.1 ((v.2.1,v.2.2.1,()),(v.2.2.2.1,v.2.2.2.2.1,()),())) fun r1=>(Dt.ret (r1,(0:Int),(0:Int))))
theorem q22s C v:q3zz (regO (qcy f73) 2) false (an [4,5]) q22m q22r q22q C v:=rgI (by kernel_rfl)
def q22t (C:q22c) (v:q22l):Dt q22p:=(Dt.bnd (C.1 ((v.2.1,v.2.2.1,()),((IntKind.wrap .i64 (0 - v.2.2.2.1)),v.2.2.2.2.1,()),())) fun r1=>(Dt.ret (r1.2.2,r1.1,r1.2.1)))
theorem q22u C v:q3zz (regO (qcy f73) 3) false (an [4,5]) q22m q22t q22q C v:=rgI (by kernel_rfl)
def q22v (d:Nat) (x:q228):Option q229 :=
 (q22j (q22d d) (x.1.1,x.1.2.1,x.2.1.1,x.2.1.2.1)).eval fun y0 =>
 (q22n (q22d d) y0).eval fun y1 =>
 bif y1.1 then ((q22r (q22d d) y1).eval fun y2 =>
 some (y2.2.1,y2.2.2,y2.1)) else ((q22t (q22d d) y1).eval fun y3 =>
 some (y3.2.1,y3.2.2,y3.1))
theorem q22w (d:Nat):COK prog (q22b (q22v d)):=by
 have hm:prog.follows .mixedOrders=true:=qjt
 have hT:=tys
 have hC0:OrcOK prog (orc (q22e (q22d d))):=qcs (by
  intro S hS
  simp only [q22e,List.mem_cons,List.not_mem_nil,or_false] at hS
  rcases hS with rfl | rfl
  · exact q226 d
  · exact q1sm d)
 have hC:OrcOK prog (orc (q22e (q22d d))):=hC0
 refine q8e (c:=qcy f73) (fn:=f73) hT (by kernel_rfl) (by kernel_rfl) (by decide) fun x r h w0 φ0 Q hend=>?_
 replace h:q22v d x=some r:=h
 unfold q22v at h
 show Run prog w0 φ0 24 (qcy f73) ⟨[(0,.agg [.int .i64 x.1.1,.int .i64 x.1.2.1]),(1,.agg [.int .i64 x.2.1.1,.int .i64 x.2.1.2.1])],[]⟩ Q
 refine q3yx hm hT hC (q22k (q22d d) (x.1.1,x.1.2.1,x.2.1.1,x.2.1.2.1)) h fun y0 h=>?_
 refine q7y ?_
 refine q3yx hm hT hC (q22o (q22d d) y0) h fun y1 h=>?_
 refine q82 (v:=y1.1) (by kernel_rfl) h ?_ ?_
 ·
  intro h
  refine q3yx hm hT hC (q22s (q22d d) y1) h fun y2 h=>?_
  refine q7x (q7m ?_)
  cases h
  exact (hend _ (by kernel_rfl)).2
 ·
  intro h
  refine q7u (q7k ?_)
  refine q3yx hm hT hC (q22u (q22d d) y1) h fun y3 h=>?_
  refine q7x ?_
  cases h
  exact (hend _ (by kernel_rfl)).2
abbrev q22x:List Pk:=[.row Ri false]
abbrev q22y:Type:=Di×Unit
abbrev q22z:Type:=Int
def q230 (r:q22z):LV×List Ob:=(.int .u64 r,[])
def q231 (F:q22y→Option q22z):Go.Tx.Spec:=⟨58,q22x,q22z,F,q230⟩
abbrev q232:Type:=Unit
def q233 (_d:Nat):q232:=()
def q234 (C:q232):List Go.Tx.Spec:=[]
abbrev q235:Type:=Int
def q236 (v:q235):St:=⟨[(0,i6 v)],[]⟩
def q237 (C:q232) (v:q235):Dt q235:=(Dt.ret v)
abbrev q400 {V Y:Type}:=@rg q232 V Y tysT (fun C=>(orc (q234 C))) 12
theorem q238 C v:q400 (regO (qcy f58) 0) false [(0,.any)] q236 q237 q236 C v:=rgI (by kernel_rfl)
abbrev q239:Type:=Int×Bool
def q23a (v:q239):St:=⟨[(0,i6 v.1),(4,.bool v.2)],[]⟩
def q23b (C:q232) (v:q235):Dt q239:=(Dt.ret (v,(decide (v<(0:Int)))))
theorem q23c C v:q400 (regO (qcy f58) 1) false (an [0,4]) q236 q23b q23a C v:=rgI (by kernel_rfl)
abbrev q23d:Type:=Int
def q23e (v:q23d):St:=⟨[(2,u6 v)],[]⟩
def q23f (C:q232) (v:q239):Dt q23d:=(Dt.ret (IntKind.wrap .u64 ((IntKind.wrap .u64 (IntKind.wrap .i64 (0 - (IntKind.wrap .i64 (v.1+(1:Int))))))+(1:Int))))
theorem q23g C v:q400 (regO (qcy f58) 2) false [(2,.any)] q23a q23f q23e C v:=rgI (by kernel_rfl)
def q23h (C:q232) (v:q239):Dt q23d:=(Dt.ret (IntKind.wrap .u64 v.1))
theorem q23i C v:q400 (regO (qcy f58) 3) false [(2,.any)] q23a q23h q23e C v:=rgI (by kernel_rfl)
def q23j (d:Nat) (x:q22y):Option q22z :=
 (q237 (q233 d) x.1.1).eval fun y0 =>
 (q23b (q233 d) y0).eval fun y1 =>
 bif y1.2 then ((q23f (q233 d) y1).eval fun y2 =>
 some y2) else ((q23h (q233 d) y1).eval fun y3 =>
 some y3)
theorem q23k (d:Nat):COK prog (q231 (q23j d)):=by
 have hm:prog.follows .mixedOrders=true:=qjt
 have hT:=tys
 have hC0:OrcOK prog (orc (q234 (q233 d))):=qcs (by
  intro S hS
  simp only [q234,List.mem_cons,List.not_mem_nil,or_false] at hS
  all_goals first | cases hS | exact hS.elim)
 have hC:OrcOK prog (orc (q234 (q233 d))):=hC0
 refine q8e (c:=qcy f58) (fn:=f58) hT (by kernel_rfl) (by kernel_rfl) (by decide) fun x r h w0 φ0 Q hend=>?_
 replace h:q23j d x=some r:=h
 unfold q23j at h
 show Run prog w0 φ0 12 (qcy f58) ⟨[(0,.int .i64 x.1.1)],[]⟩ Q
 refine q3yx hm hT hC (q238 (q233 d) x.1.1) h fun y0 h=>?_
 refine q7y ?_
 refine q3yx hm hT hC (q23c (q233 d) y0) h fun y1 h=>?_
 refine q82 (v:=y1.2) (by kernel_rfl) h ?_ ?_
 ·
  intro h
  refine q3yx hm hT hC (q23g (q233 d) y1) h fun y2 h=>?_
  refine q7x (q7m ?_)
  cases h
  exact (hend _ (by kernel_rfl)).2
 ·
  intro h
  refine q7u (q7k ?_)
  refine q3yx hm hT hC (q23i (q233 d) y1) h fun y3 h=>?_
  refine q7x ?_
  cases h
  exact (hend _ (by kernel_rfl)).2
abbrev q23l:List Pk:=[.row Rii true,.row Rii true]
abbrev q23m:Type:=Dii×Dii×Unit
abbrev q23n:Type:=Int×Int×Int
def q23o (r:q23n):LV×List Ob:=(.tup [.agg [.int .i64 r.1,.int .i64 r.2.1],.int .i64 r.2.2],[])
def q23p (F:q23m→Option q23n):Go.Tx.Spec:=⟨41,q23l,q23n,F,q23o⟩
abbrev q23q:Type:=(q1ry→Option q1rz)×(q1so→Option q1sp)×(q22y→Option q22z)×(q202→Option q203)×(q1z2→Option q1z3)×Unit
def q23r (d:Nat):q23q:=(q1sl d,q1ta d,q23j d,q20v d,q1zz d,())
def q23s (C:q23q):List Go.Tx.Spec:=[q1s1 C.1,q1sr C.2.1,q231 C.2.2.1,q205 C.2.2.2.1,q1z5 C.2.2.2.2.1]
abbrev q23t:Type:=Int×Int×Int×Int
def q23u (v:q23t):St:=⟨[(0,.agg [i6 v.1,i6 v.2.1]),(1,.agg [i6 v.2.2.1,i6 v.2.2.2])],[]⟩
abbrev q23v:Type:=Int×Int×Int×Int×Int×Int
def q23w (v:q23v):St:=⟨[(2,.ptr 0 0),(3,.ptr 1 0),(4,.ptr 2 0)],[.cells [i6 v.1,i6 v.2.1],.cells [i6 v.2.2.1,i6 v.2.2.2.1],.cells [i6 v.2.2.2.2.1,i6 v.2.2.2.2.2]]⟩
def q23x (C:q23q) (v:q23t):Dt q23v:=(Dt.ret (v.1,v.2.1,v.2.2.1,v.2.2.2,(0:Int),(0:Int)))
abbrev q401 {V Y:Type}:=@rg q23q V Y tysT (fun C=>(orc (q23s C))) 72
theorem q23y C v:q401 (regO (qcy f41) 0) false (an [2,3,4]) q23u q23x q23w C v:=rgI (by kernel_rfl)
abbrev q23z:Type:=Bool×Int×Int×Int×Int×Int×Int
def q240 (v:q23z):St:=⟨[(2,.ptr 0 0),(3,.ptr 1 0),(4,.ptr 2 0),(11,.bool v.1)],[.cells [i6 v.2.1,i6 v.2.2.1],.cells [i6 v.2.2.2.1,i6 v.2.2.2.2.1],.cells [i6 v.2.2.2.2.2.1,i6 v.2.2.2.2.2.2]]⟩
def q241 (C:q23q) (v:q23v):Dt q23z:=(Dt.bnd (C.1 ((v.1,v.2.1,()),(v.2.2.1,v.2.2.2.1,()),())) fun r1=>(Dt.ret ((r1!=(0:Int)),v.1,v.2.1,v.2.2.1,v.2.2.2.1,v.2.2.2.2.1,v.2.2.2.2.2)))
theorem q242 C v:q401 (regO (qcy f41) 1) false (an [2,3,4,11]) q23w q241 q240 C v:=rgI (by kernel_rfl)
abbrev q243:Type:=Int×Int×Int
def q244 (v:q243):St:=⟨[(4,.ptr 0 0),(5,i6 v.1)],[.cells [i6 v.2.1,i6 v.2.2]]⟩
def q245 (C:q23q) (v:q23z):Dt q243:=(Dt.bnd (C.1 ((v.2.1,v.2.2.1,()),(v.2.2.2.1,v.2.2.2.2.1,()),())) fun r1=>(Dt.ret (r1,(0:Int),(0:Int))))
theorem q246 C v:q401 (regO (qcy f41) 2) false (an [4,5]) q240 q245 q244 C v:=rgI (by kernel_rfl)
abbrev q247:Type:=Int×Int×Int×Int×Int×Int×Int×Int
def q248 (v:q247):St:=⟨[(2,.ptr 0 0),(3,.ptr 1 0),(4,.ptr 2 0),(6,u6 v.1),(7,u6 v.2.1)],[.cells [i6 v.2.2.1,i6 v.2.2.2.1],.cells [i6 v.2.2.2.2.1,i6 v.2.2.2.2.2.1],.cells [i6 v.2.2.2.2.2.2.1,i6 v.2.2.2.2.2.2.2]]⟩
def q249 (C:q23q) (v:q23z):Dt q247:=(Dt.bnd (C.2.2.1 ((v.2.1,()),())) fun r1=>(Dt.bnd (C.2.1 ((r1,()),((IntKind.wrap .u64 v.2.2.2.2.1),()),())) fun r2=>(Dt.bnd (C.2.2.1 ((v.2.2.2.1,()),())) fun r3=>(Dt.bnd (C.2.1 ((r3,()),((IntKind.wrap .u64 v.2.2.1),()),())) fun r4=>(Dt.ret (r2,r4,v.2.1,v.2.2.1,v.2.2.2.1,v.2.2.2.2.1,v.2.2.2.2.2.1,v.2.2.2.2.2.2))))))
theorem q24a C v:q401 (regO (qcy f41) 3) true (an [2,3,4,6,7]) q240 q249 q248 C v:=rgI (by kernel_rfl)
def q24b (C:q23q) (v:q247):Dt q243:=(Dt.ite (!((decide (v.2.2.1<(0:Int)))==(decide (v.2.2.2.2.1<(0:Int))))) (Dt.ite (v.2.2.1!=(0:Int)) (Dt.bnd (C.2.2.1 ((v.2.2.1,()),())) fun r1=>(Dt.ite (v.1==(0:Int)) Dt.fail (Dt.bnd (C.2.2.1 ((v.2.2.2.2.1,()),())) fun r2=>(Dt.ite (v.2.1==(0:Int)) Dt.fail (Dt.bnd (C.2.2.2.2.1 (((IntKind.wrap .u64 (Int.tdiv r1 v.1)),()),((IntKind.wrap .u64 (Int.tdiv r2 v.2.1)),()),())) fun r3=>(Dt.ite (v.2.1==(0:Int)) Dt.fail (Dt.ite (v.1==(0:Int)) Dt.fail (Dt.bnd (C.2.2.2.2.1 (((IntKind.wrap .u64 (Int.tdiv (IntKind.wrap .u64 v.2.2.2.1) v.2.1)),()),((IntKind.wrap .u64 (Int.tdiv (IntKind.wrap .u64 v.2.2.2.2.2.1) v.1)),()),())) fun r4=>(Dt.bnd (C.2.2.2.1 (((v.2.2.2.2.1!=(0:Int)),()),(r3.1,r3.2.1,r3.2.2,()),(r4.1,r4.2.1,r4.2.2,()),())) fun r5=>(Dt.ret (r5.2.2,r5.1,r5.2.1))))))))))) (Dt.bnd (C.2.2.1 ((v.2.2.1,()),())) fun r6=>(Dt.ite (v.1==(0:Int)) Dt.fail (Dt.bnd (C.2.2.1 ((v.2.2.2.2.1,()),())) fun r7=>(Dt.ite (v.2.1==(0:Int)) Dt.fail (Dt.bnd (C.2.2.2.2.1 (((IntKind.wrap .u64 (Int.tdiv r6 v.1)),()),((IntKind.wrap .u64 (Int.tdiv r7 v.2.1)),()),())) fun r8=>(Dt.ite (v.2.1==(0:Int)) Dt.fail (Dt.ite (v.1==(0:Int)) Dt.fail (Dt.bnd (C.2.2.2.2.1 (((IntKind.wrap .u64 (Int.tdiv (IntKind.wrap .u64 v.2.2.2.1) v.2.1)),()),((IntKind.wrap .u64 (Int.tdiv (IntKind.wrap .u64 v.2.2.2.2.2.1) v.1)),()),())) fun r9=>(Dt.bnd (C.2.2.2.1 ((false,()),(r8.1,r8.2.1,r8.2.2,()),(r9.1,r9.2.1,r9.2.2,()),())) fun r10=>(Dt.ret (r10.2.2,r10.1,r10.2.1)))))))))))) (Dt.bnd (C.2.2.1 ((v.2.2.1,()),())) fun r11=>(Dt.ite (v.1==(0:Int)) Dt.fail (Dt.bnd (C.2.2.1 ((v.2.2.2.2.1,()),())) fun r12=>(Dt.ite (v.2.1==(0:Int)) Dt.fail (Dt.bnd (C.2.2.2.2.1 (((IntKind.wrap .u64 (Int.tdiv r11 v.1)),()),((IntKind.wrap .u64 (Int.tdiv r12 v.2.1)),()),())) fun r13=>(Dt.ite (v.2.1==(0:Int)) Dt.fail (Dt.ite (v.1==(0:Int)) Dt.fail (Dt.bnd (C.2.2.2.2.1 (((IntKind.wrap .u64 (Int.tdiv (IntKind.wrap .u64 v.2.2.2.1) v.2.1)),()),((IntKind.wrap .u64 (Int.tdiv (IntKind.wrap .u64 v.2.2.2.2.2.1) v.1)),()),())) fun r14=>(Dt.bnd (C.2.2.2.1 ((false,()),(r13.1,r13.2.1,r13.2.2,()),(r14.1,r14.2.1,r14.2.2,()),())) fun r15=>(Dt.ret (r15.2.2,r15.1,r15.2.1))))))))))))
theorem q24c C v:q401 (regO (qcy f41) 4) true (an [4,5]) q248 q24b q244 C v:=rgI (by kernel_rfl)
def q24d (d:Nat) (x:q23m):Option q23n :=
 (q23x (q23r d) (x.1.1,x.1.2.1,x.2.1.1,x.2.1.2.1)).eval fun y0 =>
 (q241 (q23r d) y0).eval fun y1 =>
 bif y1.1 then ((q245 (q23r d) y1).eval fun y2 =>
 some (y2.2.1,y2.2.2,y2.1)) else ((q249 (q23r d) y1).eval fun y3 =>
 (q24b (q23r d) y3).eval fun y4 =>
 some (y4.2.1,y4.2.2,y4.1))
theorem q24e (d:Nat):COK prog (q23p (q24d d)):=by
 have hm:prog.follows .mixedOrders=true:=qjt
 have hT:=tys
 have hC0:OrcOK prog (orc (q23s (q23r d))):=qcs (by
  intro S hS
  simp only [q23s,List.mem_cons,List.not_mem_nil,or_false] at hS
  rcases hS with rfl | rfl | rfl | rfl | rfl
  · exact q1sm d
  · exact q1tb d
  · exact q23k d
  · exact q20w d
  · exact q200 d)
 have hC:OrcOK prog (orc (q23s (q23r d))):=hC0
 refine q8e (c:=qcy f41) (fn:=f41) hT (by kernel_rfl) (by kernel_rfl) (by decide) fun x r h w0 φ0 Q hend=>?_
 replace h:q24d d x=some r:=h
 unfold q24d at h
 show Run prog w0 φ0 72 (qcy f41) ⟨[(0,.agg [.int .i64 x.1.1,.int .i64 x.1.2.1]),(1,.agg [.int .i64 x.2.1.1,.int .i64 x.2.1.2.1])],[]⟩ Q
 refine q3yx hm hT hC (q23y (q23r d) (x.1.1,x.1.2.1,x.2.1.1,x.2.1.2.1)) h fun y0 h=>?_
 refine q7y ?_
 refine q3yx hm hT hC (q242 (q23r d) y0) h fun y1 h=>?_
 refine q82 (v:=y1.1) (by kernel_rfl) h ?_ ?_
 ·
  intro h
  refine q3yx hm hT hC (q246 (q23r d) y1) h fun y2 h=>?_
  refine q7x (q7m ?_)
  cases h
  exact (hend _ (by kernel_rfl)).2
 ·
  intro h
  refine q7u (q7k ?_)
  refine q3yx hm hT hC (q24a (q23r d) y1) h fun y3 h=>?_
  refine q3yx hm hT hC (q24c (q23r d) y3) h fun y4 h=>?_
  refine q7x ?_
  cases h
  exact (hend _ (by kernel_rfl)).2
abbrev q24f:List Pk:=[.row Rbuu true,.row Ri false]
abbrev q24g:Type:=Dbuu×Di×Unit
abbrev q24h:Type:=Int×Int×Int
def q24i (r:q24h):LV×List Ob:=(.tup [.agg [.int .i64 r.1,.int .i64 r.2.1],.int .i64 r.2.2],[])
def q24j (F:q24g→Option q24h):Go.Tx.Spec:=⟨136,q24f,q24h,F,q24i⟩
abbrev q24k:Type:=(q1so→Option q1sp)×(q1x7→Option q1x8)×(q202→Option q203)×Unit
def q24l (d:Nat):q24k:=(q1ta d,q1yz d,q20v d,())
def q24m (C:q24k):List Go.Tx.Spec:=[q1sr C.1,q1xa C.2.1,q205 C.2.2.1]
abbrev q24n:Type:=Bool×Int×Int×Int
def q24o (v:q24n):St:=⟨[(0,.agg [.bool v.1,u6 v.2.1,u6 v.2.2.1]),(1,i6 v.2.2.2)],[]⟩
abbrev q24p:Type:=Int×Bool×Int×Int×Int×Int
def q24q (v:q24p):St:=⟨[(1,i6 v.1),(2,.ptr 0 0),(4,.ptr 1 0)],[.cells [.bool v.2.1,u6 v.2.2.1,u6 v.2.2.2.1],.cells [i6 v.2.2.2.2.1,i6 v.2.2.2.2.2]]⟩
def q24r (C:q24k) (v:q24n):Dt q24p:=(Dt.ret (v.2.2.2,v.1,v.2.1,v.2.2.1,(0:Int),(0:Int)))
abbrev q402 {V Y:Type}:=@rg q24k V Y tysT (fun C=>(orc (q24m C))) 39
theorem q24s C v:q402 (regO (qcy f136) 0) false (an [1,2,4]) q24o q24r q24q C v:=rgI (by kernel_rfl)
abbrev q24t:Type:=Int×Int×Bool×Int×Int×Int×Int
def q24u (v:q24t):St:=⟨[(1,i6 v.1),(2,.ptr 0 0),(4,.ptr 1 0),(7,u6 v.2.1)],[.cells [.bool v.2.2.1,u6 v.2.2.2.1,u6 v.2.2.2.2.1],.cells [i6 v.2.2.2.2.2.1,i6 v.2.2.2.2.2.2]]⟩
def q24v (C:q24k) (v:q24p):Dt q24t:=(Dt.bnd (C.2.1 ((v.2.1,v.2.2.1,v.2.2.2.1,()),((IntKind.wrap .u64 v.1),()),())) fun r1=>(Dt.ret (v.1,r1.2.2.2,v.2.1,v.2.2.1,v.2.2.2.1,v.2.2.2.2.1,v.2.2.2.2.2)))
theorem q24w C v:q402 (regO (qcy f136) 1) false (an [1,2,4,7]) q24q q24v q24u C v:=rgI (by kernel_rfl)
abbrev q24x:Type:=Int×Int×Bool×Int×Int×Int×Int
def q24y (v:q24x):St:=⟨[(1,i6 v.1),(2,.ptr 0 0),(4,.ptr 1 0),(8,u6 v.2.1)],[.cells [.bool v.2.2.1,u6 v.2.2.2.1,u6 v.2.2.2.2.1],.cells [i6 v.2.2.2.2.2.1,i6 v.2.2.2.2.2.2]]⟩
def q24z (C:q24k) (v:q24t):Dt q24x:=(Dt.bnd (C.1 (((IntKind.wrap .u64 v.1),()),(v.2.1,()),())) fun r1=>(Dt.ret (v.1,r1,v.2.2.1,v.2.2.2.1,v.2.2.2.2.1,v.2.2.2.2.2.1,v.2.2.2.2.2.2)))
theorem q250 C v:q402 (regO (qcy f136) 2) false (an [1,2,4,8]) q24u q24z q24y C v:=rgI (by kernel_rfl)
abbrev q251:Type:=Int×Int×Bool×Int×Int×Int×Int×Bool×Int×Int
def q252 (v:q251):St:=⟨[(1,i6 v.1),(2,.ptr 0 0),(4,.ptr 1 0),(8,u6 v.2.1),(9,.ptr 2 0)],[.cells [.bool v.2.2.1,u6 v.2.2.2.1,u6 v.2.2.2.2.1],.cells [i6 v.2.2.2.2.2.1,i6 v.2.2.2.2.2.2.1],.cells [.bool v.2.2.2.2.2.2.2.1,u6 v.2.2.2.2.2.2.2.2.1,u6 v.2.2.2.2.2.2.2.2.2]]⟩
def q253 (C:q24k) (v:q24x):Dt q251:=(Dt.bnd (C.2.1 ((v.2.2.1,v.2.2.2.1,v.2.2.2.2.1,()),(v.2.1,()),())) fun r1=>(Dt.ret (v.1,v.2.1,v.2.2.1,v.2.2.2.1,v.2.2.2.2.1,v.2.2.2.2.2.1,v.2.2.2.2.2.2,r1.1,r1.2.1,r1.2.2.1)))
theorem q254 C v:q402 (regO (qcy f136) 3) false (an [1,2,4,8,9]) q24y q253 q252 C v:=rgI (by kernel_rfl)
abbrev q255:Type:=Int×Int×Int
def q256 (v:q255):St:=⟨[(4,.ptr 0 0),(5,i6 v.1)],[.cells [i6 v.2.1,i6 v.2.2]]⟩
def q257 (C:q24k) (v:q251):Dt q255:=(Dt.ite (v.2.1==(0:Int)) Dt.fail (Dt.bnd (C.2.2.1 ((v.2.2.1,()),(v.2.2.2.2.2.2.2.1,v.2.2.2.2.2.2.2.2.1,v.2.2.2.2.2.2.2.2.2,()),(false,(0:Int),(IntKind.wrap .u64 (Int.tdiv (IntKind.wrap .u64 v.1) v.2.1)),()),())) fun r1=>(Dt.ret (r1.2.2,r1.1,r1.2.1))))
theorem q258 C v:q402 (regO (qcy f136) 4) true (an [4,5]) q252 q257 q256 C v:=rgI (by kernel_rfl)
def q259 (d:Nat) (x:q24g):Option q24h :=
 (q24r (q24l d) (x.1.1,x.1.2.1,x.1.2.2.1,x.2.1.1)).eval fun y0 =>
 (q24v (q24l d) y0).eval fun y1 =>
 (q24z (q24l d) y1).eval fun y2 =>
 (q253 (q24l d) y2).eval fun y3 =>
 (q257 (q24l d) y3).eval fun y4 =>
 some (y4.2.1,y4.2.2,y4.1)
theorem q25a (d:Nat):COK prog (q24j (q259 d)):=by
 have hm:prog.follows .mixedOrders=true:=qjt
 have hT:=tys
 have hC0:OrcOK prog (orc (q24m (q24l d))):=qcs (by
  intro S hS
  simp only [q24m,List.mem_cons,List.not_mem_nil,or_false] at hS
  rcases hS with rfl | rfl | rfl
  · exact q1tb d
  · exact q1z0 d
  · exact q20w d)
 have hC:OrcOK prog (orc (q24m (q24l d))):=hC0
 refine q8e (c:=qcy f136) (fn:=f136) hT (by kernel_rfl) (by kernel_rfl) (by decide) fun x r h w0 φ0 Q hend=>?_
 replace h:q259 d x=some r:=h
 unfold q259 at h
 show Run prog w0 φ0 39 (qcy f136) ⟨[(0,.agg [.bool x.1.1,.int .u64 x.1.2.1,.int .u64 x.1.2.2.1]),(1,.int .i64 x.2.1.1)],[]⟩ Q
 refine q3yx hm hT hC (q24s (q24l d) (x.1.1,x.1.2.1,x.1.2.2.1,x.2.1.1)) h fun y0 h=>?_
 refine q3yx hm hT hC (q24w (q24l d) y0) h fun y1 h=>?_
 refine q3yx hm hT hC (q250 (q24l d) y1) h fun y2 h=>?_
 refine q3yx hm hT hC (q254 (q24l d) y2) h fun y3 h=>?_
 refine q3yx hm hT hC (q258 (q24l d) y3) h fun y4 h=>?_
 refine q7x ?_
 cases h
 exact (hend _ (by kernel_rfl)).2
abbrev q25b:List Pk:=[.row Riii true,.row Rii true]
abbrev q25c:Type:=Diii×Dii×Unit
abbrev q25d:Type:=Int×Int×Int
def q25e (r:q25d):LV×List Ob:=(.tup [.agg [.int .i64 r.1,.int .i64 r.2.1],.int .i64 r.2.2],[])
def q25f (F:q25c→Option q25d):Go.Tx.Spec:=⟨92,q25b,q25d,F,q25e⟩
abbrev q25g:Type:=(qn7→Option qn8)×(q20y→Option q20z)×(q23m→Option q23n)×(q1vi→Option q1vj)×(qmp→Option qmq)×(qo7→Option qo8)×(q24g→Option q24h)×Unit
def q25h (d:Nat):q25g:=(qnc d,q225 d,q24d d,q1x4 d,qmu d,qoc d,q259 d,())
def q25i (C:q25g):List Go.Tx.Spec:=[qna C.1,q211 C.2.1,q23p C.2.2.1,q1vl C.2.2.2.1,qms C.2.2.2.2.1,qoa C.2.2.2.2.2.1,q24j C.2.2.2.2.2.2.1]
abbrev q25j:Type:=Int×Int×Int×Int×Int
def q25k (v:q25j):St:=⟨[(0,.agg [i6 v.1,i6 v.2.1,i6 v.2.2.1]),(1,.agg [i6 v.2.2.2.1,i6 v.2.2.2.2])],[]⟩
abbrev q25l:Type:=Int×Int×Int×Int×Int×Int×Int
def q25m (v:q25l):St:=⟨[(2,.ptr 0 0),(3,.ptr 1 0),(4,.ptr 2 0)],[.cells [i6 v.1,i6 v.2.1,i6 v.2.2.1],.cells [i6 v.2.2.2.1,i6 v.2.2.2.2.1],.cells [i6 v.2.2.2.2.2.1,i6 v.2.2.2.2.2.2]]⟩
def q25n (C:q25g) (v:q25j):Dt q25l:=(Dt.ret (v.1,v.2.1,v.2.2.1,v.2.2.2.1,v.2.2.2.2,(0:Int),(0:Int)))
abbrev q403 {V Y:Type}:=@rg q25g V Y tysT (fun C=>(orc (q25i C))) 52
theorem q25o C v:q403 (regO (qcy f92) 0) false (an [2,3,4]) q25k q25n q25m C v:=rgI (by kernel_rfl)
abbrev q25p:Type:=Bool×Int×Int×Int×Int×Int×Int×Int
def q25q (v:q25p):St:=⟨[(2,.ptr 0 0),(3,.ptr 1 0),(4,.ptr 2 0),(16,.bool v.1)],[.cells [i6 v.2.1,i6 v.2.2.1,i6 v.2.2.2.1],.cells [i6 v.2.2.2.2.1,i6 v.2.2.2.2.2.1],.cells [i6 v.2.2.2.2.2.2.1,i6 v.2.2.2.2.2.2.2]]⟩
def q25r (C:q25g) (v:q25l):Dt q25p:=(Dt.bnd (C.2.2.2.2.2.1 ((v.1,v.2.1,v.2.2.1,()),())) fun r1=>(Dt.ite (r1!=(0:Int)) (Dt.ret (true,v.1,v.2.1,v.2.2.1,v.2.2.2.1,v.2.2.2.2.1,v.2.2.2.2.2.1,v.2.2.2.2.2.2)) (Dt.bnd (C.1 ((v.2.2.2.1,v.2.2.2.2.1,()),())) fun r2=>(Dt.ret ((r2!=(0:Int)),v.1,v.2.1,v.2.2.1,v.2.2.2.1,v.2.2.2.2.1,v.2.2.2.2.2.1,v.2.2.2.2.2.2)))))
theorem q25s C v:q403 (regO (qcy f92) 1) false (an [2,3,4,16]) q25m q25r q25q C v:=rgI (by kernel_rfl)
abbrev q25t:Type:=Int×Int×Int
def q25u (v:q25t):St:=⟨[(4,.ptr 0 0),(5,i6 v.1)],[.cells [i6 v.2.1,i6 v.2.2]]⟩
def q25v (C:q25g) (v:q25p):Dt q25t:=(Dt.ret ((8:Int),(0:Int),(0:Int)))
theorem q25w C v:q403 (regO (qcy f92) 2) false (an [4,5]) q25q q25v q25u C v:=rgI (by kernel_rfl)
abbrev q25x:Type:=Int×Int×Int×Int×Int×Int×Int×Int×Int×Int
def q25y (v:q25x):St:=⟨[(2,.ptr 0 0),(3,.ptr 1 0),(4,.ptr 2 0),(6,.ptr 3 0),(7,i6 v.1)],[.cells [i6 v.2.1,i6 v.2.2.1,i6 v.2.2.2.1],.cells [i6 v.2.2.2.2.1,i6 v.2.2.2.2.2.1],.cells [i6 v.2.2.2.2.2.2.1,i6 v.2.2.2.2.2.2.2.1],.cells [i6 v.2.2.2.2.2.2.2.2.1,i6 v.2.2.2.2.2.2.2.2.2]]⟩
def q25z (C:q25g) (v:q25p):Dt q25x:=(Dt.bnd (C.2.2.1 ((v.2.2.2.1,(1:Int),()),(v.2.2.2.2.1,v.2.2.2.2.2.1,()),())) fun r1=>(Dt.ret (r1.2.2,v.2.1,v.2.2.1,v.2.2.2.1,v.2.2.2.2.1,v.2.2.2.2.2.1,v.2.2.2.2.2.2.1,v.2.2.2.2.2.2.2,r1.1,r1.2.1)))
theorem q260 C v:q403 (regO (qcy f92) 3) false (an [2,3,4,6,7]) q25q q25z q25y C v:=rgI (by kernel_rfl)
abbrev q261:Type:=Bool×Int×Int×Int×Int×Int×Int×Int×Int×Int
def q262 (v:q261):St:=⟨[(2,.ptr 0 0),(3,.ptr 1 0),(4,.ptr 2 0),(6,.ptr 3 0),(27,.bool v.1)],[.cells [i6 v.2.1,i6 v.2.2.1,i6 v.2.2.2.1],.cells [i6 v.2.2.2.2.1,i6 v.2.2.2.2.2.1],.cells [i6 v.2.2.2.2.2.2.1,i6 v.2.2.2.2.2.2.2.1],.cells [i6 v.2.2.2.2.2.2.2.2.1,i6 v.2.2.2.2.2.2.2.2.2]]⟩
def q263 (C:q25g) (v:q25x):Dt q261:=(Dt.ret ((v.1==(0:Int)),v.2.1,v.2.2.1,v.2.2.2.1,v.2.2.2.2.1,v.2.2.2.2.2.1,v.2.2.2.2.2.2.1,v.2.2.2.2.2.2.2.1,v.2.2.2.2.2.2.2.2.1,v.2.2.2.2.2.2.2.2.2))
theorem q264 C v:q403 (regO (qcy f92) 4) false (an [2,3,4,6,27]) q25y q263 q262 C v:=rgI (by kernel_rfl)
def q265 (C:q25g) (v:q261):Dt q25t:=(Dt.bnd (C.2.1 ((v.2.2.1,(1:Int),()),(v.2.2.2.2.2.2.2.2.1,v.2.2.2.2.2.2.2.2.2,()),())) fun r1=>(Dt.ret (r1.2.2,r1.1,r1.2.1)))
theorem q266 C v:q403 (regO (qcy f92) 5) false (an [4,5]) q262 q265 q25u C v:=rgI (by kernel_rfl)
abbrev q267:Type:=Int×Int×Int×Int×Bool×Int×Int
def q268 (v:q267):St:=⟨[(3,.ptr 0 0),(4,.ptr 1 0),(8,.ptr 2 0)],[.cells [i6 v.1,i6 v.2.1],.cells [i6 v.2.2.1,i6 v.2.2.2.1],.cells [.bool v.2.2.2.2.1,u6 v.2.2.2.2.2.1,u6 v.2.2.2.2.2.2]]⟩
def q269 (C:q25g) (v:q261):Dt q267:=(Dt.bnd (C.2.2.2.2.1 ((v.2.2.1,()),(v.2.2.2.2.2.1,()),())) fun r1=>(Dt.bnd (C.2.2.2.2.1 ((v.2.2.2.1,()),(v.2.2.2.2.1,()),())) fun r2=>(Dt.bnd (C.2.2.2.1 ((r1.1,r1.2.1,r1.2.2,()),(r2.1,r2.2.1,r2.2.2,()),())) fun r3=>(Dt.ret (v.2.2.2.2.1,v.2.2.2.2.2.1,v.2.2.2.2.2.2.1,v.2.2.2.2.2.2.2.1,r3.1,r3.2.1,r3.2.2)))))
theorem q26a C v:q403 (regO (qcy f92) 6) true (an [3,4,8]) q262 q269 q268 C v:=rgI (by kernel_rfl)
def q26b (C:q25g) (v:q267):Dt q25t:=(Dt.bnd (C.2.2.2.2.2.2.1 ((v.2.2.2.2.1,v.2.2.2.2.2.1,v.2.2.2.2.2.2,()),(v.2.1,()),())) fun r1=>(Dt.ret (r1.2.2,r1.1,r1.2.1)))
theorem q26c C v:q403 (regO (qcy f92) 7) false (an [4,5]) q268 q26b q25u C v:=rgI (by kernel_rfl)
def q26d (d:Nat) (x:q25c):Option q25d :=
 (q25n (q25h d) (x.1.1,x.1.2.1,x.1.2.2.1,x.2.1.1,x.2.1.2.1)).eval fun y0 =>
 (q25r (q25h d) y0).eval fun y1 =>
 bif y1.1 then ((q25v (q25h d) y1).eval fun y2 =>
 some (y2.2.1,y2.2.2,y2.1)) else ((q25z (q25h d) y1).eval fun y3 =>
 (q263 (q25h d) y3).eval fun y4 =>
 bif y4.1 then ((q265 (q25h d) y4).eval fun y5 =>
 some (y5.2.1,y5.2.2,y5.1)) else ((q269 (q25h d) y4).eval fun y6 =>
 (q26b (q25h d) y6).eval fun y7 =>
 some (y7.2.1,y7.2.2,y7.1)))
theorem q26e (d:Nat):COK prog (q25f (q26d d)):=by
 have hm:prog.follows .mixedOrders=true:=qjt
 have hT:=tys
 have hC0:OrcOK prog (orc (q25i (q25h d))):=qcs (by
  intro S hS
  simp only [q25i,List.mem_cons,List.not_mem_nil,or_false] at hS
  rcases hS with rfl | rfl | rfl | rfl | rfl | rfl | rfl
  · exact qne d
  · exact q226 d
  · exact q24e d
  · exact q1x5 d
  · exact qmw d
  · exact qoe d
  · exact q25a d)
 have hC:OrcOK prog (orc (q25i (q25h d))):=hC0
 refine q8e (c:=qcy f92) (fn:=f92) hT (by kernel_rfl) (by kernel_rfl) (by decide) fun x r h w0 φ0 Q hend=>?_
 replace h:q26d d x=some r:=h
 unfold q26d at h
 show Run prog w0 φ0 52 (qcy f92) ⟨[(0,.agg [.int .i64 x.1.1,.int .i64 x.1.2.1,.int .i64 x.1.2.2.1]),(1,.agg [.int .i64 x.2.1.1,.int .i64 x.2.1.2.1])],[]⟩ Q
 refine q3yx hm hT hC (q25o (q25h d) (x.1.1,x.1.2.1,x.1.2.2.1,x.2.1.1,x.2.1.2.1)) h fun y0 h=>?_
 refine q7y ?_
 refine q3yx hm hT hC (q25s (q25h d) y0) h fun y1 h=>?_
 refine q82 (v:=y1.1) (by kernel_rfl) h ?_ ?_
 ·
  intro h
  refine q3yx hm hT hC (q25w (q25h d) y1) h fun y2 h=>?_
  refine q7x (q7m ?_)
  cases h
  exact (hend _ (by kernel_rfl)).2
 ·
  intro h
  refine q7u (q7k ?_)
  refine q3yx hm hT hC (q260 (q25h d) y1) h fun y3 h=>?_
  refine q7y ?_
  refine q3yx hm hT hC (q264 (q25h d) y3) h fun y4 h=>?_
  refine q82 (v:=y4.1) (by kernel_rfl) h ?_ ?_
  ·
   intro h
   refine q3yx hm hT hC (q266 (q25h d) y4) h fun y5 h=>?_
   refine q7x (q7m ?_)
   cases h
   exact (hend _ (by kernel_rfl)).2
  ·
   intro h
   refine q7u (q7k ?_)
   refine q3yx hm hT hC (q26a (q25h d) y4) h fun y6 h=>?_
   refine q3yx hm hT hC (q26c (q25h d) y6) h fun y7 h=>?_
   refine q7x ?_
   cases h
   exact (hend _ (by kernel_rfl)).2
end Go.Proofs.YtpfhgnccpiildaaGreat
