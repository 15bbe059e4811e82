/- Walks of the references; the orders agree; examples. -/
import Derived.Test.YtpfhgnccpiildaaGreatGg
set_option linter.unusedSimpArgs false
set_option linter.unusedVariables false
namespace Go.Proofs.YtpfhgnccpiildaaGreat
open Go Go.Tx Go.Proofs.Tryz
set_option maxRecDepth 100000
set_option maxHeartbeats 0
abbrev q2o5:List Pk:=[.row Rbuu true]
abbrev q2o6:Type:=Dbuu×Unit
abbrev q2o7:Type:=Int
def q2o8 (r:q2o7):LV×List Ob:=(.int .i64 r,[])
def q2o9 (F:q2o6→Option q2o7):Go.Tx.Spec:=⟨90,q2o5,q2o7,F,q2o8⟩
abbrev q2oa:Type:=Unit
def q2ob (_d:Nat):q2oa:=()
def q2oc (C:q2oa):List Go.Tx.Spec:=[]
abbrev q2od:Type:=Bool×Int×Int
def q2oe (v:q2od):St:=⟨[(0,.agg [.bool v.1,u6 v.2.1,u6 v.2.2])],[]⟩
abbrev q2of:Type:=Bool×Int×Int
def q2og (v:q2of):St:=⟨[(1,.ptr 0 0)],[.cells [.bool v.1,u6 v.2.1,u6 v.2.2]]⟩
def q2oh (C:q2oa) (v:q2od):Dt q2of:=(Dt.ret (v.1,v.2.1,v.2.2))
abbrev q40k {V Y:Type}:=@rg q2oa V Y tysT (fun C=>(orc (q2oc C))) 13
theorem q2oi C v:q40k (regO (qcy f90) 0) false [(1,.any)] q2oe q2oh q2og C v:=rgI (by kernel_rfl)
abbrev q2oj:Type:=Bool×Bool×Int×Int
def q2ok (v:q2oj):St:=⟨[(1,.ptr 0 0),(10,.bool v.1)],[.cells [.bool v.2.1,u6 v.2.2.1,u6 v.2.2.2]]⟩
def q2ol (C:q2oa) (v:q2of):Dt q2oj:=(Dt.ite (v.2.1==(0:Int)) (Dt.ret ((v.2.2==(0:Int)),v.1,v.2.1,v.2.2)) (Dt.ret (false,v.1,v.2.1,v.2.2)))
theorem q2om C v:q40k (regO (qcy f90) 1) false (an [1,10]) q2og q2ol q2ok C v:=rgI (by kernel_rfl)
abbrev q2on:Type:=Int
def q2oo (v:q2on):St:=⟨[(2,i6 v)],[]⟩
def q2op (C:q2oa) (v:q2oj):Dt q2on:=(Dt.ret (0:Int))
theorem q2oq C v:q40k (regO (qcy f90) 2) false [(2,.any)] q2ok q2op q2oo C v:=rgI (by kernel_rfl)
abbrev q2or:Type:=Bool
def q2os (v:q2or):St:=⟨[(12,.bool v)],[]⟩
def q2ot (C:q2oa) (v:q2oj):Dt q2or:=(Dt.ret v.2.1)
theorem q2ou C v:q40k (regO (qcy f90) 3) false [(12,.any)] q2ok q2ot q2os C v:=rgI (by kernel_rfl)
def q2ov (C:q2oa) (v:q2or):Dt q2on:=(Dt.ret (-1:Int))
theorem q2ow C v:q40k (regO (qcy f90) 4) false [(2,.any)] q2os q2ov q2oo C v:=rgI (by kernel_rfl)
def q2ox (C:q2oa) (v:q2or):Dt q2on:=(Dt.ret (1:Int))
theorem q2oy C v:q40k (regO (qcy f90) 5) false [(2,.any)] q2os q2ox q2oo C v:=rgI (by kernel_rfl)
def q2oz (d:Nat) (x:q2o6):Option q2o7 :=
 (q2oh (q2ob d) (x.1.1,x.1.2.1,x.1.2.2.1)).eval fun y0 =>
 (q2ol (q2ob d) y0).eval fun y1 =>
 bif y1.1 then ((q2op (q2ob d) y1).eval fun y2 =>
 some y2) else ((q2ot (q2ob d) y1).eval fun y3 =>
 bif y3 then ((q2ov (q2ob d) y3).eval fun y4 =>
 some y4) else ((q2ox (q2ob d) y3).eval fun y5 =>
 some y5))
theorem q2p0 (d:Nat):COK prog (q2o9 (q2oz d)):=by
 have hm:prog.follows .mixedOrders=true:=qjt
 have hT:=tys
 have hC0:OrcOK prog (orc (q2oc (q2ob d))):=qcs (by
  intro S hS
  simp only [q2oc,List.mem_cons,List.not_mem_nil,or_false] at hS
  all_goals first | cases hS | exact hS.elim)
 have hC:OrcOK prog (orc (q2oc (q2ob d))):=hC0
 refine q8e (c:=qcy f90) (fn:=f90) hT (by kernel_rfl) (by kernel_rfl) (by decide) fun x r h w0 φ0 Q hend=>?_
 replace h:q2oz d x=some r:=h
 unfold q2oz at h
 show Run prog w0 φ0 13 (qcy f90) ⟨[(0,.agg [.bool x.1.1,.int .u64 x.1.2.1,.int .u64 x.1.2.2.1])],[]⟩ Q
 refine q3yx hm hT hC (q2oi (q2ob d) (x.1.1,x.1.2.1,x.1.2.2.1)) h fun y0 h=>?_
 refine q7y ?_
 refine q3yx hm hT hC (q2om (q2ob d) y0) h fun y1 h=>?_
 refine q82 (v:=y1.1) (by kernel_rfl) h ?_ ?_
 ·
  intro h
  refine q3yx hm hT hC (q2oq (q2ob d) y1) h fun y2 h=>?_
  refine q7x (q7m ?_)
  cases h
  exact (hend _ (by kernel_rfl)).2
 ·
  intro h
  refine q7u (q7k (q7y ?_))
  refine q3yx hm hT hC (q2ou (q2ob d) y1) h fun y3 h=>?_
  refine q82 (v:=y3) (by kernel_rfl) h ?_ ?_
  ·
   intro h
   refine q3yx hm hT hC (q2ow (q2ob d) y3) h fun y4 h=>?_
   refine q7x (q7m ?_)
   cases h
   exact (hend _ (by kernel_rfl)).2
  ·
   intro h
   refine q7u (q7k ?_)
   refine q3yx hm hT hC (q2oy (q2ob d) y3) h fun y5 h=>?_
   refine q7x ?_
   cases h
   exact (hend _ (by kernel_rfl)).2
abbrev q2p1:List Pk:=[.row Rii true,.row Rii true]
abbrev q2p2:Type:=Dii×Dii×Unit
abbrev q2p3:Type:=Int
def q2p4 (r:q2p3):LV×List Ob:=(.int .i64 r,[])
def q2p5 (F:q2p2→Option q2p3):Go.Tx.Spec:=⟨43,q2p1,q2p3,F,q2p4⟩
abbrev q2p6:Type:=(qmp→Option qmq)×(q2o6→Option q2o7)×(q1td→Option q1te)×Unit
def q2p7 (d:Nat):q2p6:=(qmu d,q2oz d,q1ui d,())
def q2p8 (C:q2p6):List Go.Tx.Spec:=[qms C.1,q2o9 C.2.1,q1tg C.2.2.1]
abbrev q2p9:Type:=Int×Int×Int×Int
def q2pa (v:q2p9):St:=⟨[(0,.agg [i6 v.1,i6 v.2.1]),(1,.agg [i6 v.2.2.1,i6 v.2.2.2])],[]⟩
abbrev q2pb:Type:=Int×Int×Int×Int
def q2pc (v:q2pb):St:=⟨[(2,.ptr 0 0),(3,.ptr 1 0)],[.cells [i6 v.1,i6 v.2.1],.cells [i6 v.2.2.1,i6 v.2.2.2]]⟩
def q2pd (C:q2p6) (v:q2p9):Dt q2pb:=(Dt.ret (v.1,v.2.1,v.2.2.1,v.2.2.2))
abbrev q40l {V Y:Type}:=@rg q2p6 V Y tysT (fun C=>(orc (q2p8 C))) 36
theorem q2pe C v:q40l (regO (qcy f43) 0) false (an [2,3]) q2pa q2pd q2pc C v:=rgI (by kernel_rfl)
abbrev q2pf:Type:=Bool×Int×Int×Bool×Int×Int
def q2pg (v:q2pf):St:=⟨[(5,.ptr 0 0),(6,.ptr 1 0)],[.cells [.bool v.1,u6 v.2.1,u6 v.2.2.1],.cells [.bool v.2.2.2.1,u6 v.2.2.2.2.1,u6 v.2.2.2.2.2]]⟩
def q2ph (C:q2p6) (v:q2pb):Dt q2pf:=(Dt.bnd (C.1 ((v.1,()),(v.2.2.2,()),())) fun r1=>(Dt.bnd (C.1 ((v.2.2.1,()),(v.2.1,()),())) fun r2=>(Dt.ret (r1.1,r1.2.1,r1.2.2,r2.1,r2.2.1,r2.2.2))))
theorem q2pi C v:q40l (regO (qcy f43) 1) true (an [5,6]) q2pc q2ph q2pg C v:=rgI (by kernel_rfl)
abbrev q2pj:Type:=Bool×Bool×Int×Int×Bool×Int×Int
def q2pk (v:q2pj):St:=⟨[(5,.ptr 0 0),(6,.ptr 1 0),(21,.bool v.1)],[.cells [.bool v.2.1,u6 v.2.2.1,u6 v.2.2.2.1],.cells [.bool v.2.2.2.2.1,u6 v.2.2.2.2.2.1,u6 v.2.2.2.2.2.2]]⟩
def q2pl (C:q2p6) (v:q2pf):Dt q2pj:=(Dt.bnd (C.2.1 ((v.1,v.2.1,v.2.2.1,()),())) fun r1=>(Dt.bnd (C.2.1 ((v.2.2.2.1,v.2.2.2.2.1,v.2.2.2.2.2,()),())) fun r2=>(Dt.ret ((r1!=r2),v.1,v.2.1,v.2.2.1,v.2.2.2.1,v.2.2.2.2.1,v.2.2.2.2.2))))
theorem q2pm C v:q40l (regO (qcy f43) 2) true (an [5,6,21]) q2pg q2pl q2pk C v:=rgI (by kernel_rfl)
abbrev q2pn:Type:=Bool
def q2po (v:q2pn):St:=⟨[(26,.bool v)],[]⟩
def q2pp (C:q2p6) (v:q2pj):Dt q2pn:=(Dt.bnd (C.2.1 ((v.2.1,v.2.2.1,v.2.2.2.1,()),())) fun r1=>(Dt.bnd (C.2.1 ((v.2.2.2.2.1,v.2.2.2.2.2.1,v.2.2.2.2.2.2,()),())) fun r2=>(Dt.ret (decide (r1<r2)))))
theorem q2pq C v:q40l (regO (qcy f43) 3) true [(26,.any)] q2pk q2pp q2po C v:=rgI (by kernel_rfl)
abbrev q2pr:Type:=Int
def q2ps (v:q2pr):St:=⟨[(4,i6 v)],[]⟩
def q2pt (C:q2p6) (v:q2pn):Dt q2pr:=(Dt.ret (-1:Int))
theorem q2pu C v:q40l (regO (qcy f43) 4) false [(4,.any)] q2po q2pt q2ps C v:=rgI (by kernel_rfl)
def q2pv (C:q2p6) (v:q2pn):Dt q2pr:=(Dt.ret (1:Int))
theorem q2pw C v:q40l (regO (qcy f43) 5) false [(4,.any)] q2po q2pv q2ps C v:=rgI (by kernel_rfl)
abbrev q2px:Type:=Bool×Bool×Int×Int×Bool×Int×Int
def q2py (v:q2px):St:=⟨[(5,.ptr 0 0),(6,.ptr 1 0),(29,.bool v.1)],[.cells [.bool v.2.1,u6 v.2.2.1,u6 v.2.2.2.1],.cells [.bool v.2.2.2.2.1,u6 v.2.2.2.2.2.1,u6 v.2.2.2.2.2.2]]⟩
def q2pz (C:q2p6) (v:q2pj):Dt q2px:=(Dt.bnd (C.2.1 ((v.2.1,v.2.2.1,v.2.2.2.1,()),())) fun r1=>(Dt.ret ((decide (r1<(0:Int))),v.2.1,v.2.2.1,v.2.2.2.1,v.2.2.2.2.1,v.2.2.2.2.2.1,v.2.2.2.2.2.2)))
theorem q2q0 C v:q40l (regO (qcy f43) 6) false (an [5,6,29]) q2pk q2pz q2py C v:=rgI (by kernel_rfl)
def q2q1 (C:q2p6) (v:q2px):Dt q2pr:=(Dt.bnd (C.2.2.1 ((v.2.2.2.2.1,v.2.2.2.2.2.1,v.2.2.2.2.2.2,()),(v.2.1,v.2.2.1,v.2.2.2.1,()),())) fun r1=>(Dt.ret r1))
theorem q2q2 C v:q40l (regO (qcy f43) 7) false [(4,.any)] q2py q2q1 q2ps C v:=rgI (by kernel_rfl)
def q2q3 (C:q2p6) (v:q2px):Dt q2pr:=(Dt.bnd (C.2.2.1 ((v.2.1,v.2.2.1,v.2.2.2.1,()),(v.2.2.2.2.1,v.2.2.2.2.2.1,v.2.2.2.2.2.2,()),())) fun r1=>(Dt.ret r1))
theorem q2q4 C v:q40l (regO (qcy f43) 8) false [(4,.any)] q2py q2q3 q2ps C v:=rgI (by kernel_rfl)
def q2q5 (d:Nat) (x:q2p2):Option q2p3 :=
 (q2pd (q2p7 d) (x.1.1,x.1.2.1,x.2.1.1,x.2.1.2.1)).eval fun y0 =>
 (q2ph (q2p7 d) y0).eval fun y1 =>
 (q2pl (q2p7 d) y1).eval fun y2 =>
 bif y2.1 then ((q2pp (q2p7 d) y2).eval fun y3 =>
 bif y3 then ((q2pt (q2p7 d) y3).eval fun y4 =>
 some y4) else ((q2pv (q2p7 d) y3).eval fun y5 =>
 some y5)) else ((q2pz (q2p7 d) y2).eval fun y6 =>
 bif y6.1 then ((q2q1 (q2p7 d) y6).eval fun y7 =>
 some y7) else ((q2q3 (q2p7 d) y6).eval fun y8 =>
 some y8))
theorem q2q6 (d:Nat):COK prog (q2p5 (q2q5 d)):=by
 have hm:prog.follows .mixedOrders=true:=qjt
 have hT:=tys
 have hC0:OrcOK prog (orc (q2p8 (q2p7 d))):=qcs (by
  intro S hS
  simp only [q2p8,List.mem_cons,List.not_mem_nil,or_false] at hS
  rcases hS with rfl | rfl | rfl
  · exact qmw d
  · exact q2p0 d
  · exact q1uj d)
 have hC:OrcOK prog (orc (q2p8 (q2p7 d))):=hC0
 refine q8e (c:=qcy f43) (fn:=f43) hT (by kernel_rfl) (by kernel_rfl) (by decide) fun x r h w0 φ0 Q hend=>?_
 replace h:q2q5 d x=some r:=h
 unfold q2q5 at h
 show Run prog w0 φ0 36 (qcy f43) ⟨[(0,.agg [.int .i64 x.1.1,.int .i64 x.1.2.1]),(1,.agg [.int .i64 x.2.1.1,.int .i64 x.2.1.2.1])],[]⟩ Q
 refine q3yx hm hT hC (q2pe (q2p7 d) (x.1.1,x.1.2.1,x.2.1.1,x.2.1.2.1)) h fun y0 h=>?_
 refine q3yx hm hT hC (q2pi (q2p7 d) y0) h fun y1 h=>?_
 refine q7y ?_
 refine q3yx hm hT hC (q2pm (q2p7 d) y1) h fun y2 h=>?_
 refine q82 (v:=y2.1) (by kernel_rfl) h ?_ ?_
 ·
  intro h
  refine q7y ?_
  refine q3yx hm hT hC (q2pq (q2p7 d) y2) h fun y3 h=>?_
  refine q82 (v:=y3) (by kernel_rfl) h ?_ ?_
  ·
   intro h
   refine q3yx hm hT hC (q2pu (q2p7 d) y3) h fun y4 h=>?_
   refine q7x (q7m (q7m ?_))
   cases h
   exact (hend _ (by kernel_rfl)).2
  ·
   intro h
   refine q7u (q7k ?_)
   refine q3yx hm hT hC (q2pw (q2p7 d) y3) h fun y5 h=>?_
   refine q7x (q7m ?_)
   cases h
   exact (hend _ (by kernel_rfl)).2
 ·
  intro h
  refine q7u (q7k (q7y ?_))
  refine q3yx hm hT hC (q2q0 (q2p7 d) y2) h fun y6 h=>?_
  refine q82 (v:=y6.1) (by kernel_rfl) h ?_ ?_
  ·
   intro h
   refine q3yx hm hT hC (q2q2 (q2p7 d) y6) h fun y7 h=>?_
   refine q7x (q7m ?_)
   cases h
   exact (hend _ (by kernel_rfl)).2
  ·
   intro h
   refine q7u (q7k ?_)
   refine q3yx hm hT hC (q2q4 (q2p7 d) y6) h fun y8 h=>?_
   refine q7x ?_
   cases h
   exact (hend _ (by kernel_rfl)).2
abbrev q2q7:List Pk:=[.row qjb true,.row Rii true,.row Rii true]
abbrev q2q8:Type:=qjc×Dii×Dii×Unit
abbrev q2q9:Type:=Int
def q2qa (r:q2q9):LV×List Ob:=(.int .i64 r,[])
def q2qb (F:q2q8→Option q2q9):Go.Tx.Spec:=⟨11,q2q7,q2q9,F,q2qa⟩
abbrev q2qc:Type:=(q2p2→Option q2p3)×(qpp→Option qpq)×(q1ry→Option q1rz)×Unit
def q2qd (d:Nat):q2qc:=(q2q5 d,qpu d,q1sl d,())
def q2qe (C:q2qc):List Go.Tx.Spec:=[q2p5 C.1,qps C.2.1,q1s1 C.2.2.1]
abbrev q2qf:Type:=List Diii×Int×Int×Int×Int
def q2qg (v:q2qf):St:=⟨[(0,.agg [.fz Riii v.1]),(1,.agg [i6 v.2.1,i6 v.2.2.1]),(2,.agg [i6 v.2.2.2.1,i6 v.2.2.2.2])],[]⟩
abbrev q2qh:Type:=List Diii×Int×Int×Int×Int
def q2qi (v:q2qh):St:=⟨[(3,.ptr 0 0),(4,.ptr 1 0),(5,.ptr 2 0)],[.cells [.fz Riii v.1],.cells [i6 v.2.1,i6 v.2.2.1],.cells [i6 v.2.2.2.1,i6 v.2.2.2.2]]⟩
def q2qj (C:q2qc) (v:q2qf):Dt q2qh:=(Dt.ret (v.1,v.2.1,v.2.2.1,v.2.2.2.1,v.2.2.2.2))
abbrev q40m {V Y:Type}:=@rg q2qc V Y tysT (fun C=>(orc (q2qe C))) 24
theorem q2qk C v:q40m (regO (qcy f11) 0) false [(3,(.box [.val Riii])),(4,.any),(5,.any)] q2qg q2qj q2qi C v:=rgI (by kernel_rfl)
abbrev q2ql:Type:=Int×Int×Int×Int×Int
def q2qm (v:q2ql):St:=⟨[(4,.ptr 0 0),(5,.ptr 1 0),(7,i6 v.1)],[.cells [i6 v.2.1,i6 v.2.2.1],.cells [i6 v.2.2.2.1,i6 v.2.2.2.2]]⟩
def q2qn (C:q2qc) (v:q2qh):Dt q2ql:=(Dt.bnd (C.2.1 ((v.1,()),())) fun r1=>(Dt.ret (r1,v.2.1,v.2.2.1,v.2.2.2.1,v.2.2.2.2)))
theorem q2qo C v:q40m (regO (qcy f11) 1) false (an [4,5,7]) q2qi q2qn q2qm C v:=rgI (by kernel_rfl)
abbrev q2qp:Type:=Int×Bool×Int×Int×Int×Int
def q2qq (v:q2qp):St:=⟨[(4,.ptr 0 0),(5,.ptr 1 0),(7,i6 v.1),(12,.bool v.2.1)],[.cells [i6 v.2.2.1,i6 v.2.2.2.1],.cells [i6 v.2.2.2.2.1,i6 v.2.2.2.2.2]]⟩
def q2qr (C:q2qc) (v:q2ql):Dt q2qp:=(Dt.ret (v.1,(v.1!=(0:Int)),v.2.1,v.2.2.1,v.2.2.2.1,v.2.2.2.2))
theorem q2qs C v:q40m (regO (qcy f11) 2) false (an [4,5,7,12]) q2qm q2qr q2qq C v:=rgI (by kernel_rfl)
abbrev q2qt:Type:=Int
def q2qu (v:q2qt):St:=⟨[(6,i6 v)],[]⟩
def q2qv (C:q2qc) (v:q2qp):Dt q2qt:=(Dt.ret v.1)
theorem q2qw C v:q40m (regO (qcy f11) 3) false [(6,.any)] q2qq q2qv q2qu C v:=rgI (by kernel_rfl)
abbrev q2qx:Type:=Int×Int×Int×Int×Int
def q2qy (v:q2qx):St:=⟨[(4,.ptr 0 0),(5,.ptr 1 0),(8,i6 v.1)],[.cells [i6 v.2.1,i6 v.2.2.1],.cells [i6 v.2.2.2.1,i6 v.2.2.2.2]]⟩
def q2qz (C:q2qc) (v:q2qp):Dt q2qx:=(Dt.bnd (C.2.2.1 ((v.2.2.1,v.2.2.2.1,()),(v.2.2.2.2.1,v.2.2.2.2.2,()),())) fun r1=>(Dt.ret (r1,v.2.2.1,v.2.2.2.1,v.2.2.2.2.1,v.2.2.2.2.2)))
theorem q2r0 C v:q40m (regO (qcy f11) 4) false (an [4,5,8]) q2qq q2qz q2qy C v:=rgI (by kernel_rfl)
abbrev q2r1:Type:=Int×Bool×Int×Int×Int×Int
def q2r2 (v:q2r1):St:=⟨[(4,.ptr 0 0),(5,.ptr 1 0),(8,i6 v.1),(18,.bool v.2.1)],[.cells [i6 v.2.2.1,i6 v.2.2.2.1],.cells [i6 v.2.2.2.2.1,i6 v.2.2.2.2.2]]⟩
def q2r3 (C:q2qc) (v:q2qx):Dt q2r1:=(Dt.ret (v.1,(v.1!=(0:Int)),v.2.1,v.2.2.1,v.2.2.2.1,v.2.2.2.2))
theorem q2r4 C v:q40m (regO (qcy f11) 5) false (an [4,5,8,18]) q2qy q2r3 q2r2 C v:=rgI (by kernel_rfl)
def q2r5 (C:q2qc) (v:q2r1):Dt q2qt:=(Dt.ret v.1)
theorem q2r6 C v:q40m (regO (qcy f11) 6) false [(6,.any)] q2r2 q2r5 q2qu C v:=rgI (by kernel_rfl)
abbrev q2r7:Type:=Bool
def q2r8 (v:q2r7):St:=⟨[(23,.bool v)],[]⟩
def q2r9 (C:q2qc) (v:q2r1):Dt q2r7:=(Dt.bnd (C.1 ((v.2.2.1,v.2.2.2.1,()),(v.2.2.2.2.1,v.2.2.2.2.2,()),())) fun r1=>(Dt.ret (decide (r1 > (0:Int)))))
theorem q2ra C v:q40m (regO (qcy f11) 7) false [(23,.any)] q2r2 q2r9 q2r8 C v:=rgI (by kernel_rfl)
def q2rb (C:q2qc) (v:q2r7):Dt q2qt:=(Dt.ret (2:Int))
theorem q2rc C v:q40m (regO (qcy f11) 8) false [(6,.any)] q2r8 q2rb q2qu C v:=rgI (by kernel_rfl)
def q2rd (C:q2qc) (v:q2r7):Dt q2qt:=(Dt.ret (0:Int))
theorem q2re C v:q40m (regO (qcy f11) 9) false [(6,.any)] q2r8 q2rd q2qu C v:=rgI (by kernel_rfl)
def q2rf (d:Nat) (x:q2q8):Option q2q9 :=
 (q2qj (q2qd d) (x.1.1,x.2.1.1,x.2.1.2.1,x.2.2.1.1,x.2.2.1.2.1)).eval fun y0 =>
 (q2qn (q2qd d) y0).eval fun y1 =>
 (q2qr (q2qd d) y1).eval fun y2 =>
 bif y2.2.1 then ((q2qv (q2qd d) y2).eval fun y3 =>
 some y3) else ((q2qz (q2qd d) y2).eval fun y4 =>
 (q2r3 (q2qd d) y4).eval fun y5 =>
 bif y5.2.1 then ((q2r5 (q2qd d) y5).eval fun y6 =>
 some y6) else ((q2r9 (q2qd d) y5).eval fun y7 =>
 bif y7 then ((q2rb (q2qd d) y7).eval fun y8 =>
 some y8) else ((q2rd (q2qd d) y7).eval fun y9 =>
 some y9)))
theorem q2rg (d:Nat):COK prog (q2qb (q2rf d)):=by
 have hm:prog.follows .mixedOrders=true:=qjt
 have hT:=tys
 have hC0:OrcOK prog (orc (q2qe (q2qd d))):=qcs (by
  intro S hS
  simp only [q2qe,List.mem_cons,List.not_mem_nil,or_false] at hS
  rcases hS with rfl | rfl | rfl
  · exact q2q6 d
  · exact qpw d
  · exact q1sm d)
 have hC:OrcOK prog (orc (q2qe (q2qd d))):=hC0
 refine q8e (c:=qcy f11) (fn:=f11) hT (by kernel_rfl) (by kernel_rfl) (by decide) fun x r h w0 φ0 Q hend=>?_
 replace h:q2rf d x=some r:=h
 unfold q2rf at h
 show Run prog w0 φ0 24 (qcy f11) ⟨[(0,.agg [.fz Riii x.1.1]),(1,.agg [.int .i64 x.2.1.1,.int .i64 x.2.1.2.1]),(2,.agg [.int .i64 x.2.2.1.1,.int .i64 x.2.2.1.2.1])],[]⟩ Q
 refine q3yx hm hT hC (q2qk (q2qd d) (x.1.1,x.2.1.1,x.2.1.2.1,x.2.2.1.1,x.2.2.1.2.1)) h fun y0 h=>?_
 refine q7y ?_
 refine q3yx hm hT hC (q2qo (q2qd d) y0) h fun y1 h=>?_
 refine q3yx hm hT hC (q2qs (q2qd d) y1) h fun y2 h=>?_
 refine q82 (v:=y2.2.1) (by kernel_rfl) h ?_ ?_
 ·
  intro h
  refine q3yx hm hT hC (q2qw (q2qd d) y2) h fun y3 h=>?_
  refine q7x (q7m ?_)
  cases h
  exact (hend _ (by kernel_rfl)).2
 ·
  intro h
  refine q7u (q7k (q7y ?_))
  refine q3yx hm hT hC (q2r0 (q2qd d) y2) h fun y4 h=>?_
  refine q3yx hm hT hC (q2r4 (q2qd d) y4) h fun y5 h=>?_
  refine q82 (v:=y5.2.1) (by kernel_rfl) h ?_ ?_
  ·
   intro h
   refine q3yx hm hT hC (q2r6 (q2qd d) y5) h fun y6 h=>?_
   refine q7x (q7m ?_)
   cases h
   exact (hend _ (by kernel_rfl)).2
  ·
   intro h
   refine q7u (q7k (q7y ?_))
   refine q3yx hm hT hC (q2ra (q2qd d) y5) h fun y7 h=>?_
   refine q82 (v:=y7) (by kernel_rfl) h ?_ ?_
   ·
    intro h
    refine q3yx hm hT hC (q2rc (q2qd d) y7) h fun y8 h=>?_
    refine q7x (q7m ?_)
    cases h
    exact (hend _ (by kernel_rfl)).2
   ·
    intro h
    refine q7u (q7k ?_)
    refine q3yx hm hT hC (q2re (q2qd d) y7) h fun y9 h=>?_
    refine q7x ?_
    cases h
    exact (hend _ (by kernel_rfl)).2
abbrev q2rh:List Pk:=[.row Riii true,.row Riii true]
abbrev q2ri:Type:=Diii×Diii×Unit
abbrev q2rj:Type:=Int×Int
def q2rk (r:q2rj):LV×List Ob:=(.agg [.int .i64 r.1,.int .i64 r.2],[])
def q2rl (F:q2ri→Option q2rj):Go.Tx.Spec:=⟨157,q2rh,q2rj,F,q2rk⟩
abbrev q2rm:Type:=(qnp→Option qnq)×Unit
def q2rn (d:Nat):q2rm:=(qnu d,())
def q2ro (C:q2rm):List Go.Tx.Spec:=[qns C.1]
abbrev q2rp:Type:=Int×Int×Int×Int×Int×Int
def q2rq (v:q2rp):St:=⟨[(0,.agg [i6 v.1,i6 v.2.1,i6 v.2.2.1]),(1,.agg [i6 v.2.2.2.1,i6 v.2.2.2.2.1,i6 v.2.2.2.2.2])],[]⟩
abbrev q2rr:Type:=Int×Int×Int×Int×Int×Int×Int×Int
def q2rs (v:q2rr):St:=⟨[(2,.ptr 0 0),(3,.ptr 1 0),(4,.ptr 2 0)],[.cells [i6 v.1,i6 v.2.1,i6 v.2.2.1],.cells [i6 v.2.2.2.1,i6 v.2.2.2.2.1,i6 v.2.2.2.2.2.1],.cells [i6 v.2.2.2.2.2.2.1,i6 v.2.2.2.2.2.2.2]]⟩
def q2rt (C:q2rm) (v:q2rp):Dt q2rr:=(Dt.ret (v.1,v.2.1,v.2.2.1,v.2.2.2.1,v.2.2.2.2.1,v.2.2.2.2.2,(0:Int),(0:Int)))
abbrev q40n {V Y:Type}:=@rg q2rm V Y tysT (fun C=>(orc (q2ro C))) 22
theorem q2ru C v:q40n (regO (qcy f157) 0) false (an [2,3,4]) q2rq q2rt q2rs C v:=rgI (by kernel_rfl)
abbrev q2rv:Type:=Int×Int×Int×Int
def q2rw (v:q2rv):St:=⟨[(4,.ptr 0 0),(5,.ptr 1 0)],[.cells [i6 v.1,i6 v.2.1],.cells [i6 v.2.2.1,i6 v.2.2.2]]⟩
def q2rx (C:q2rm) (v:q2rr):Dt q2rv:=(Dt.bnd (C.1 (((IntKind.wrap .i64 (v.2.1 - v.2.2.2.2.1)),()),((IntKind.wrap .i64 (v.2.2.2.2.2.1 - v.2.2.1)),()),())) fun r1=>(Dt.ret (v.2.2.2.2.2.2.1,v.2.2.2.2.2.2.2,r1.1,r1.2.1)))
theorem q2ry C v:q40n (regO (qcy f157) 1) false (an [4,5]) q2rs q2rx q2rw C v:=rgI (by kernel_rfl)
abbrev q2rz:Type:=Int×Int
def q2s0 (v:q2rz):St:=⟨[(4,.ptr 0 0)],[.cells [i6 v.1,i6 v.2]]⟩
def q2s1 (C:q2rm) (v:q2rv):Dt q2rz:=(Dt.ret (v.2.2.1,v.2.2.2))
theorem q2s2 C v:q40n (regO (qcy f157) 2) false [(4,.any)] q2rw q2s1 q2s0 C v:=rgI (by kernel_rfl)
def q2s3 (d:Nat) (x:q2ri):Option q2rj :=
 (q2rt (q2rn d) (x.1.1,x.1.2.1,x.1.2.2.1,x.2.1.1,x.2.1.2.1,x.2.1.2.2.1)).eval fun y0 =>
 (q2rx (q2rn d) y0).eval fun y1 =>
 (q2s1 (q2rn d) y1).eval fun y2 =>
 some y2
theorem q2s4 (d:Nat):COK prog (q2rl (q2s3 d)):=by
 have hm:prog.follows .mixedOrders=true:=qjt
 have hT:=tys
 have hC0:OrcOK prog (orc (q2ro (q2rn d))):=qcs (by
  intro S hS
  simp only [q2ro,List.mem_cons,List.not_mem_nil,or_false] at hS
  subst hS;exact qnw d)
 have hC:OrcOK prog (orc (q2ro (q2rn d))):=hC0
 refine q8e (c:=qcy f157) (fn:=f157) hT (by kernel_rfl) (by kernel_rfl) (by decide) fun x r h w0 φ0 Q hend=>?_
 replace h:q2s3 d x=some r:=h
 unfold q2s3 at h
 show Run prog w0 φ0 22 (qcy f157) ⟨[(0,.agg [.int .i64 x.1.1,.int .i64 x.1.2.1,.int .i64 x.1.2.2.1]),(1,.agg [.int .i64 x.2.1.1,.int .i64 x.2.1.2.1,.int .i64 x.2.1.2.2.1])],[]⟩ Q
 refine q3yx hm hT hC (q2ru (q2rn d) (x.1.1,x.1.2.1,x.1.2.2.1,x.2.1.1,x.2.1.2.1,x.2.1.2.2.1)) h fun y0 h=>?_
 refine q3yx hm hT hC (q2ry (q2rn d) y0) h fun y1 h=>?_
 refine q3yx hm hT hC (q2s2 (q2rn d) y1) h fun y2 h=>?_
 refine q7x ?_
 cases h
 exact (hend _ (by kernel_rfl)).2
abbrev q2s5:List Pk:=[.row qje true,.row qje true]
abbrev q2s6:Type:=qjf×qjf×Unit
abbrev q2s7:Type:=Bool
def q2s8 (r:q2s7):LV×List Ob:=(.bool r,[])
def q2s9 (F:q2s6→Option q2s7):Go.Tx.Spec:=⟨183,q2s5,q2s7,F,q2s8⟩
abbrev q2sa:Type:=(q2p2→Option q2p3)×Unit
def q2sb (d:Nat):q2sa:=(q2q5 d,())
def q2sc (C:q2sa):List Go.Tx.Spec:=[q2p5 C.1]
abbrev q2sd:Type:=Int×Int×Int×Int×Int×Int×Int×Int
def q2se (v:q2sd):St:=⟨[(0,.agg [i6 v.1,i6 v.2.1,i6 v.2.2.1,i6 v.2.2.2.1]),(1,.agg [i6 v.2.2.2.2.1,i6 v.2.2.2.2.2.1,i6 v.2.2.2.2.2.2.1,i6 v.2.2.2.2.2.2.2])],[]⟩
abbrev q2sf:Type:=Int×Int×Int×Int×Int×Int×Int×Int
def q2sg (v:q2sf):St:=⟨[(2,.ptr 0 0),(3,.ptr 1 0)],[.cells [i6 v.1,i6 v.2.1,i6 v.2.2.1,i6 v.2.2.2.1],.cells [i6 v.2.2.2.2.1,i6 v.2.2.2.2.2.1,i6 v.2.2.2.2.2.2.1,i6 v.2.2.2.2.2.2.2]]⟩
def q2sh (C:q2sa) (v:q2sd):Dt q2sf:=(Dt.ret (v.1,v.2.1,v.2.2.1,v.2.2.2.1,v.2.2.2.2.1,v.2.2.2.2.2.1,v.2.2.2.2.2.2.1,v.2.2.2.2.2.2.2))
abbrev q40o {V Y:Type}:=@rg q2sa V Y tysT (fun C=>(orc (q2sc C))) 30
theorem q2si C v:q40o (regO (qcy f183) 0) false (an [2,3]) q2se q2sh q2sg C v:=rgI (by kernel_rfl)
abbrev q2sj:Type:=Int×Int×Int×Int×Int×Int×Int×Int×Int
def q2sk (v:q2sj):St:=⟨[(2,.ptr 0 0),(3,.ptr 1 0),(5,i6 v.1)],[.cells [i6 v.2.1,i6 v.2.2.1,i6 v.2.2.2.1,i6 v.2.2.2.2.1],.cells [i6 v.2.2.2.2.2.1,i6 v.2.2.2.2.2.2.1,i6 v.2.2.2.2.2.2.2.1,i6 v.2.2.2.2.2.2.2.2]]⟩
def q2sl (C:q2sa) (v:q2sf):Dt q2sj:=(Dt.bnd (C.1 ((v.1,v.2.1,()),(v.2.2.2.2.1,v.2.2.2.2.2.1,()),())) fun r1=>(Dt.ret (r1,v.1,v.2.1,v.2.2.1,v.2.2.2.1,v.2.2.2.2.1,v.2.2.2.2.2.1,v.2.2.2.2.2.2.1,v.2.2.2.2.2.2.2)))
theorem q2sm C v:q40o (regO (qcy f183) 1) false (an [2,3,5]) q2sg q2sl q2sk C v:=rgI (by kernel_rfl)
abbrev q2sn:Type:=Int×Bool×Int×Int×Int×Int×Int×Int×Int×Int
def q2so (v:q2sn):St:=⟨[(2,.ptr 0 0),(3,.ptr 1 0),(5,i6 v.1),(12,.bool v.2.1)],[.cells [i6 v.2.2.1,i6 v.2.2.2.1,i6 v.2.2.2.2.1,i6 v.2.2.2.2.2.1],.cells [i6 v.2.2.2.2.2.2.1,i6 v.2.2.2.2.2.2.2.1,i6 v.2.2.2.2.2.2.2.2.1,i6 v.2.2.2.2.2.2.2.2.2]]⟩
def q2sp (C:q2sa) (v:q2sj):Dt q2sn:=(Dt.ret (v.1,(v.1!=(0:Int)),v.2.1,v.2.2.1,v.2.2.2.1,v.2.2.2.2.1,v.2.2.2.2.2.1,v.2.2.2.2.2.2.1,v.2.2.2.2.2.2.2.1,v.2.2.2.2.2.2.2.2))
theorem q2sq C v:q40o (regO (qcy f183) 2) false (an [2,3,5,12]) q2sk q2sp q2so C v:=rgI (by kernel_rfl)
abbrev q2sr:Type:=Bool
def q2ss (v:q2sr):St:=⟨[(4,.bool v)],[]⟩
def q2st (C:q2sa) (v:q2sn):Dt q2sr:=(Dt.ret (decide (v.1<(0:Int))))
theorem q2su C v:q40o (regO (qcy f183) 3) false [(4,.any)] q2so q2st q2ss C v:=rgI (by kernel_rfl)
abbrev q2sv:Type:=Bool×Int×Int×Int×Int×Int×Int×Int×Int
def q2sw (v:q2sv):St:=⟨[(2,.ptr 0 0),(3,.ptr 1 0),(19,.bool v.1)],[.cells [i6 v.2.1,i6 v.2.2.1,i6 v.2.2.2.1,i6 v.2.2.2.2.1],.cells [i6 v.2.2.2.2.2.1,i6 v.2.2.2.2.2.2.1,i6 v.2.2.2.2.2.2.2.1,i6 v.2.2.2.2.2.2.2.2]]⟩
def q2sx (C:q2sa) (v:q2sn):Dt q2sv:=(Dt.ret ((v.2.2.2.2.1!=v.2.2.2.2.2.2.2.2.1),v.2.2.1,v.2.2.2.1,v.2.2.2.2.1,v.2.2.2.2.2.1,v.2.2.2.2.2.2.1,v.2.2.2.2.2.2.2.1,v.2.2.2.2.2.2.2.2.1,v.2.2.2.2.2.2.2.2.2))
theorem q2sy C v:q40o (regO (qcy f183) 4) false (an [2,3,19]) q2so q2sx q2sw C v:=rgI (by kernel_rfl)
def q2sz (C:q2sa) (v:q2sv):Dt q2sr:=(Dt.ret (decide (v.2.2.2.1<v.2.2.2.2.2.2.2.1)))
theorem q2t0 C v:q40o (regO (qcy f183) 5) false [(4,.any)] q2sw q2sz q2ss C v:=rgI (by kernel_rfl)
def q2t1 (C:q2sa) (v:q2sv):Dt q2sr:=(Dt.ret (decide (v.2.2.2.2.1<v.2.2.2.2.2.2.2.2)))
theorem q2t2 C v:q40o (regO (qcy f183) 6) false [(4,.any)] q2sw q2t1 q2ss C v:=rgI (by kernel_rfl)
def q2t3 (d:Nat) (x:q2s6):Option q2s7 :=
 (q2sh (q2sb d) (x.1.1,x.1.2.1,x.1.2.2.1,x.1.2.2.2.1,x.2.1.1,x.2.1.2.1,x.2.1.2.2.1,x.2.1.2.2.2.1)).eval fun y0 =>
 (q2sl (q2sb d) y0).eval fun y1 =>
 (q2sp (q2sb d) y1).eval fun y2 =>
 bif y2.2.1 then ((q2st (q2sb d) y2).eval fun y3 =>
 some y3) else ((q2sx (q2sb d) y2).eval fun y4 =>
 bif y4.1 then ((q2sz (q2sb d) y4).eval fun y5 =>
 some y5) else ((q2t1 (q2sb d) y4).eval fun y6 =>
 some y6))
theorem q2t4 (d:Nat):COK prog (q2s9 (q2t3 d)):=by
 have hm:prog.follows .mixedOrders=true:=qjt
 have hT:=tys
 have hC0:OrcOK prog (orc (q2sc (q2sb d))):=qcs (by
  intro S hS
  simp only [q2sc,List.mem_cons,List.not_mem_nil,or_false] at hS
  subst hS;exact q2q6 d)
 have hC:OrcOK prog (orc (q2sc (q2sb d))):=hC0
 refine q8e (c:=qcy f183) (fn:=f183) hT (by kernel_rfl) (by kernel_rfl) (by decide) fun x r h w0 φ0 Q hend=>?_
 replace h:q2t3 d x=some r:=h
 unfold q2t3 at h
 show Run prog w0 φ0 30 (qcy f183) ⟨[(0,.agg [.int .i64 x.1.1,.int .i64 x.1.2.1,.int .i64 x.1.2.2.1,.int .i64 x.1.2.2.2.1]),(1,.agg [.int .i64 x.2.1.1,.int .i64 x.2.1.2.1,.int .i64 x.2.1.2.2.1,.int .i64 x.2.1.2.2.2.1])],[]⟩ Q
 refine q3yx hm hT hC (q2si (q2sb d) (x.1.1,x.1.2.1,x.1.2.2.1,x.1.2.2.2.1,x.2.1.1,x.2.1.2.1,x.2.1.2.2.1,x.2.1.2.2.2.1)) h fun y0 h=>?_
 refine q7y ?_
 refine q3yx hm hT hC (q2sm (q2sb d) y0) h fun y1 h=>?_
 refine q3yx hm hT hC (q2sq (q2sb d) y1) h fun y2 h=>?_
 refine q82 (v:=y2.2.1) (by kernel_rfl) h ?_ ?_
 ·
  intro h
  refine q3yx hm hT hC (q2su (q2sb d) y2) h fun y3 h=>?_
  refine q7x (q7m ?_)
  cases h
  exact (hend _ (by kernel_rfl)).2
 ·
  intro h
  refine q7u (q7k (q7y ?_))
  refine q3yx hm hT hC (q2sy (q2sb d) y2) h fun y4 h=>?_
  refine q82 (v:=y4.1) (by kernel_rfl) h ?_ ?_
  ·
   intro h
   refine q3yx hm hT hC (q2t0 (q2sb d) y4) h fun y5 h=>?_
   refine q7x (q7m ?_)
   cases h
   exact (hend _ (by kernel_rfl)).2
  ·
   intro h
   refine q7u (q7k ?_)
   refine q3yx hm hT hC (q2t2 (q2sb d) y4) h fun y6 h=>?_
   refine q7x ?_
   cases h
   exact (hend _ (by kernel_rfl)).2
abbrev q2t5:List Pk:=[.row qjb true]
abbrev q2t6:Type:=qjc×Unit
abbrev q2t7:Type:=List qjf
def q2t8 (r:q2t7):LV×List Ob:=(.rs 0,[.rows qje r])
def q2t9 (F:q2t6→Option q2t7):Go.Tx.Spec:=⟨159,q2t5,q2t7,F,q2t8⟩
abbrev q2ta:Type:=(q2ri→Option q2rj)×(q2s6→Option q2s7)×Unit
def q2tb (d:Nat):q2ta:=(q2s3 d,q2t3 d,())
def q2tc (C:q2ta):List Go.Tx.Spec:=[q2rl C.1,q2s9 C.2.1]
abbrev q2td:Type:=List Diii
def q2te (v:q2td):St:=⟨[(0,.agg [.fz Riii v])],[]⟩
abbrev q2tf:Type:=List Diii
def q2tg (v:q2tf):St:=⟨[(1,.ptr 0 0)],[.cells [.fz Riii v]]⟩
def q2th (C:q2ta) (v:q2td):Dt q2tf:=(Dt.ret v)
abbrev q40p {V Y:Type}:=@rg q2ta V Y tysT (fun C=>(orc (q2tc C))) 92
theorem q2ti C v:q40p (regO (qcy f159) 0) false [(1,(.box [.val Riii]))] q2te q2th q2tg C v:=rgI (by kernel_rfl)
abbrev q2tj:Type:=List Diii×List qjf
def q2tk (v:q2tj):St:=⟨[(1,.ptr 0 0),(3,.rs 1)],[.cells [.fz Riii v.1],.rows qje v.2]⟩
def q2tl (C:q2ta) (v:q2tf):Dt q2tj:=(Dt.ret (v,([]:List qjf)))
theorem q2tm C v:q40p (regO (qcy f159) 1) false [(1,(.box [.val Riii])),(3,(.own qje))] q2tg q2tl q2tk C v:=rgI (by kernel_rfl)
abbrev q2tn:Type:=Int×List Diii×List qjf
def q2to (v:q2tn):St:=⟨[(1,.ptr 0 0),(3,.rs 1),(4,i6 v.1)],[.cells [.fz Riii v.2.1],.rows qje v.2.2]⟩
def q2tp (C:q2ta) (v:q2tj):Dt q2tn:=(Dt.ret ((0:Int),v.1,v.2))
theorem q2tq C v:q40p (regO (qcy f159) 2) false [(1,(.box [.val Riii])),(3,(.own qje)),(4,.any)] q2tk q2tp q2to C v:=rgI (by kernel_rfl)
abbrev q2tr:Type:=Int×Bool×List Diii×List qjf
def q2ts (v:q2tr):St:=⟨[(1,.ptr 0 0),(3,.rs 1),(4,i6 v.1),(14,.bool v.2.1)],[.cells [.fz Riii v.2.2.1],.rows qje v.2.2.2]⟩
def q2tt (C:q2ta) (v:q2tn):Dt q2tr:=(Dt.ret (v.1,(decide (v.1<(List.length v.2.1:Int))),v.2.1,v.2.2))
theorem q2tu C v:q40p (regO (qcy f159) 3) false [(1,(.box [.val Riii])),(3,(.own qje)),(4,.any),(14,.any)] q2to q2tt q2ts C v:=rgI (by kernel_rfl)
abbrev q2tv:Type:=Int×Int×List Diii×List qjf
def q2tw (v:q2tv):St:=⟨[(1,.ptr 0 0),(3,.rs 1),(4,i6 v.1),(5,i6 v.2.1)],[.cells [.fz Riii v.2.2.1],.rows qje v.2.2.2]⟩
def q2tx (C:q2ta) (v:q2tr):Dt q2tv:=(Dt.ret (v.1,(IntKind.wrap .i64 (v.1+(1:Int))),v.2.2.1,v.2.2.2))
theorem q2ty C v:q40p (regO (qcy f159) 5) false [(1,(.box [.val Riii])),(3,(.own qje)),(4,.any),(5,.any)] q2ts q2tx q2tw C v:=rgI (by kernel_rfl)
abbrev q2tz:Type:=Int×Int×Bool×List Diii×List qjf
def q2u0 (v:q2tz):St:=⟨[(1,.ptr 0 0),(3,.rs 1),(4,i6 v.1),(5,i6 v.2.1),(23,.bool v.2.2.1)],[.cells [.fz Riii v.2.2.2.1],.rows qje v.2.2.2.2]⟩
def q2u1 (C:q2ta) (v:q2tv):Dt q2tz:=(Dt.ret (v.1,v.2.1,(decide (v.2.1<(List.length v.2.2.1:Int))),v.2.2.1,v.2.2.2))
theorem q2u2 C v:q40p (regO (qcy f159) 6) false [(1,(.box [.val Riii])),(3,(.own qje)),(4,.any),(5,.any),(23,.any)] q2tw q2u1 q2u0 C v:=rgI (by kernel_rfl)
abbrev q2u3:Type:=Int×Int×List Diii×List qjf×Int×Int×Int×Int×Int×Int
def q2u4 (v:q2u3):St:=⟨[(1,.ptr 0 0),(3,.rs 1),(4,i6 v.1),(5,i6 v.2.1),(6,.ptr 2 0),(7,.ptr 3 0)],[.cells [.fz Riii v.2.2.1],.rows qje v.2.2.2.1,.cells [i6 v.2.2.2.2.1,i6 v.2.2.2.2.2.1,i6 v.2.2.2.2.2.2.1],.cells [i6 v.2.2.2.2.2.2.2.1,i6 v.2.2.2.2.2.2.2.2.1,i6 v.2.2.2.2.2.2.2.2.2]]⟩
def q2u5 (C:q2ta) (v:q2tz):Dt q2u3:=(Dt.ite (inB v.1 (List.length v.2.2.2.1)) (Dt.ite (inB v.2.1 (List.length v.2.2.2.1)) (Dt.ret (v.1,v.2.1,v.2.2.2.1,v.2.2.2.2,(elt ziii v.2.2.2.1 (v.1).toNat).1,(elt ziii v.2.2.2.1 (v.1).toNat).2.1,(elt ziii v.2.2.2.1 (v.1).toNat).2.2.1,(elt ziii v.2.2.2.1 (v.2.1).toNat).1,(elt ziii v.2.2.2.1 (v.2.1).toNat).2.1,(elt ziii v.2.2.2.1 (v.2.1).toNat).2.2.1)) Dt.fail) Dt.fail)
theorem q2u6 C v:q40p (regO (qcy f159) 8) true [(1,(.box [.val Riii])),(3,(.own qje)),(4,.any),(5,.any),(6,.any),(7,.any)] q2u0 q2u5 q2u4 C v:=rgI (by kernel_rfl)
abbrev q2u7:Type:=Int×Int×Bool×List Diii×List qjf×Int×Int×Int×Int×Int×Int
def q2u8 (v:q2u7):St:=⟨[(1,.ptr 0 0),(3,.rs 1),(4,i6 v.1),(5,i6 v.2.1),(6,.ptr 2 0),(7,.ptr 3 0),(40,.bool v.2.2.1)],[.cells [.fz Riii v.2.2.2.1],.rows qje v.2.2.2.2.1,.cells [i6 v.2.2.2.2.2.1,i6 v.2.2.2.2.2.2.1,i6 v.2.2.2.2.2.2.2.1],.cells [i6 v.2.2.2.2.2.2.2.2.1,i6 v.2.2.2.2.2.2.2.2.2.1,i6 v.2.2.2.2.2.2.2.2.2.2]]⟩
def q2u9 (C:q2ta) (v:q2u3):Dt q2u7:=(Dt.ret (v.1,v.2.1,(v.2.2.2.2.2.2.1!=v.2.2.2.2.2.2.2.2.2),v.2.2.1,v.2.2.2.1,v.2.2.2.2.1,v.2.2.2.2.2.1,v.2.2.2.2.2.2.1,v.2.2.2.2.2.2.2.1,v.2.2.2.2.2.2.2.2.1,v.2.2.2.2.2.2.2.2.2))
theorem q2ua C v:q40p (regO (qcy f159) 9) false [(1,(.box [.val Riii])),(3,(.own qje)),(4,.any),(5,.any),(6,.any),(7,.any),(40,.any)] q2u4 q2u9 q2u8 C v:=rgI (by kernel_rfl)
def q2ub (C:q2ta) (v:q2u7):Dt q2tv:=(Dt.bnd (C.1 ((v.2.2.2.2.2.1,v.2.2.2.2.2.2.1,v.2.2.2.2.2.2.2.1,()),(v.2.2.2.2.2.2.2.2.1,v.2.2.2.2.2.2.2.2.2.1,v.2.2.2.2.2.2.2.2.2.2,()),())) fun r1=>(Dt.ite (apB (List.length v.2.2.2.2.1) (List.length ([(r1.1,r1.2,v.2.2.2.2.2.1,v.2.2.2.2.2.2.2.2.1,())]:List qjf))) (Dt.ret (v.1,v.2.1,v.2.2.2.1,(v.2.2.2.2.1++([(r1.1,r1.2,v.2.2.2.2.2.1,v.2.2.2.2.2.2.2.2.1,())]:List qjf)))) Dt.fail))
theorem q2uc C v:q40p (regO (qcy f159) 10) true [(1,(.box [.val Riii])),(3,(.own qje)),(4,.any),(5,.any)] q2u8 q2ub q2tw C v:=rgI (by kernel_rfl)
def q2ud (C:q2ta) (v:q2tv):Dt q2tv:=(Dt.ret (v.1,(IntKind.wrap .i64 (v.2.1+(1:Int))),v.2.2.1,v.2.2.2))
theorem q2ue C v:q40p (regO (qcy f159) 7) false [(1,(.box [.val Riii])),(3,(.own qje)),(4,.any),(5,.any)] q2tw q2ud q2tw C v:=rgI (by kernel_rfl)
def q2uf  (d:Nat) (self1:(Int×List Diii×List qjf)→Option q2t7) (self2:(Int×Int×List Diii×List qjf)→Option q2t7) (z:Int×Int×List Diii×List qjf):Option (q2t7) :=
 (q2ud (q2tb d) z).eval fun y7 =>
 self2 y7
def q2ug (C:q2ta) (v:q2tz):Dt q2tn:=(Dt.ret ((IntKind.wrap .i64 (v.1+(1:Int))),v.2.2.2.1,v.2.2.2.2))
theorem q2uh C v:q40p (regO (qcy f159) 4) false [(1,(.box [.val Riii])),(3,(.own qje)),(4,.any)] q2u0 q2ug q2to C v:=rgI (by kernel_rfl)
def q2ui (d:Nat) (self1:(Int×List Diii×List qjf)→Option q2t7) (self2:(Int×Int×List Diii×List qjf)→Option q2t7) (x2:Int×Int×List Diii×List qjf):Option q2t7 :=
 (q2u1 (q2tb d) x2).eval fun y6 =>
 bif y6.2.2.1 then ((q2u5 (q2tb d) y6).eval fun y8 =>
 (q2u9 (q2tb d) y8).eval fun y9 =>
 bif y9.2.2.1 then ((q2ub (q2tb d) y9).eval fun y10 =>
 q2uf d self1 self2 y10) else (q2uf d self1 self2 (y9.1,y9.2.1,y9.2.2.2.1,y9.2.2.2.2.1))) else ((q2ug (q2tb d) y6).eval fun y4 =>
 self1 y4)
abbrev q2uj:Type:=Int×List qjf
def q2uk (v:q2uj):St:=⟨[(3,.rs 0),(8,i6 v.1)],[.rows qje v.2]⟩
def q2ul (C:q2ta) (v:q2tr):Dt q2uj:=(Dt.ret ((1:Int),v.2.2.2))
theorem q2um C v:q40p (regO (qcy f159) 11) false [(3,(.own qje)),(8,.any)] q2ts q2ul q2uk C v:=rgI (by kernel_rfl)
abbrev q2un:Type:=Int×Bool×List qjf
def q2uo (v:q2un):St:=⟨[(3,.rs 0),(8,i6 v.1),(55,.bool v.2.1)],[.rows qje v.2.2]⟩
def q2up (C:q2ta) (v:q2uj):Dt q2un:=(Dt.ret (v.1,(decide (v.1<(List.length v.2:Int))),v.2))
theorem q2uq C v:q40p (regO (qcy f159) 12) false [(3,(.own qje)),(8,.any),(55,.any)] q2uk q2up q2uo C v:=rgI (by kernel_rfl)
abbrev q2ur:Type:=Int×Int×List qjf
def q2us (v:q2ur):St:=⟨[(3,.rs 0),(8,i6 v.1),(9,i6 v.2.1)],[.rows qje v.2.2]⟩
def q2ut (C:q2ta) (v:q2un):Dt q2ur:=(Dt.ret (v.1,v.1,v.2.2))
theorem q2uu C v:q40p (regO (qcy f159) 14) false [(3,(.own qje)),(8,.any),(9,.any)] q2uo q2ut q2us C v:=rgI (by kernel_rfl)
abbrev q2uv:Type:=Int×Int×Bool×List qjf
def q2uw (v:q2uv):St:=⟨[(3,.rs 0),(8,i6 v.1),(9,i6 v.2.1),(72,.bool v.2.2.1)],[.rows qje v.2.2.2]⟩
def q2ux (C:q2ta) (v:q2ur):Dt q2uv:=(Dt.ite (decide (v.2.1 > (0:Int))) (Dt.ite (inB v.2.1 (List.length v.2.2)) (Dt.ite (inB (IntKind.wrap .i64 (v.2.1 - (1:Int))) (List.length v.2.2)) (Dt.bnd (C.2.1 (((elt qjg v.2.2 (v.2.1).toNat).1,(elt qjg v.2.2 (v.2.1).toNat).2.1,(elt qjg v.2.2 (v.2.1).toNat).2.2.1,(elt qjg v.2.2 (v.2.1).toNat).2.2.2.1,()),((elt qjg v.2.2 ((IntKind.wrap .i64 (v.2.1 - (1:Int)))).toNat).1,(elt qjg v.2.2 ((IntKind.wrap .i64 (v.2.1 - (1:Int)))).toNat).2.1,(elt qjg v.2.2 ((IntKind.wrap .i64 (v.2.1 - (1:Int)))).toNat).2.2.1,(elt qjg v.2.2 ((IntKind.wrap .i64 (v.2.1 - (1:Int)))).toNat).2.2.2.1,()),())) fun r1=>(Dt.ret (v.1,v.2.1,r1,v.2.2))) Dt.fail) Dt.fail) (Dt.ret (v.1,v.2.1,false,v.2.2)))
theorem q2uy C v:q40p (regO (qcy f159) 15) true [(3,(.own qje)),(8,.any),(9,.any),(72,.any)] q2us q2ux q2uw C v:=rgI (by kernel_rfl)
def q2uz (C:q2ta) (v:q2uv):Dt q2ur:=(Dt.ite (inB (IntKind.wrap .i64 (v.2.1 - (1:Int))) (List.length v.2.2.2)) (Dt.ite (inB v.2.1 (List.length v.2.2.2)) (Dt.ite (inB v.2.1 (List.length v.2.2.2)) (Dt.ite (inB (IntKind.wrap .i64 (v.2.1 - (1:Int))) (List.length (List.set v.2.2.2 (v.2.1).toNat ((elt qjg v.2.2.2 ((IntKind.wrap .i64 (v.2.1 - (1:Int)))).toNat).1,(elt qjg v.2.2.2 ((IntKind.wrap .i64 (v.2.1 - (1:Int)))).toNat).2.1,(elt qjg v.2.2.2 ((IntKind.wrap .i64 (v.2.1 - (1:Int)))).toNat).2.2.1,(elt qjg v.2.2.2 ((IntKind.wrap .i64 (v.2.1 - (1:Int)))).toNat).2.2.2.1,())))) (Dt.ret (v.1,v.2.1,(List.set (List.set v.2.2.2 (v.2.1).toNat ((elt qjg v.2.2.2 ((IntKind.wrap .i64 (v.2.1 - (1:Int)))).toNat).1,(elt qjg v.2.2.2 ((IntKind.wrap .i64 (v.2.1 - (1:Int)))).toNat).2.1,(elt qjg v.2.2.2 ((IntKind.wrap .i64 (v.2.1 - (1:Int)))).toNat).2.2.1,(elt qjg v.2.2.2 ((IntKind.wrap .i64 (v.2.1 - (1:Int)))).toNat).2.2.2.1,())) ((IntKind.wrap .i64 (v.2.1 - (1:Int)))).toNat ((elt qjg v.2.2.2 (v.2.1).toNat).1,(elt qjg v.2.2.2 (v.2.1).toNat).2.1,(elt qjg v.2.2.2 (v.2.1).toNat).2.2.1,(elt qjg v.2.2.2 (v.2.1).toNat).2.2.2.1,())))) Dt.fail) Dt.fail) Dt.fail) Dt.fail)
theorem q2v0 C v:q40p (regO (qcy f159) 17) true [(3,(.own qje)),(8,.any),(9,.any)] q2uw q2uz q2us C v:=rgI (by kernel_rfl)
def q2v1 (C:q2ta) (v:q2ur):Dt q2ur:=(Dt.ret (v.1,(IntKind.wrap .i64 (v.2.1 - (1:Int))),v.2.2))
theorem q2v2 C v:q40p (regO (qcy f159) 16) false [(3,(.own qje)),(8,.any),(9,.any)] q2us q2v1 q2us C v:=rgI (by kernel_rfl)
def q2v3 (C:q2ta) (v:q2uv):Dt q2uj:=(Dt.ret ((IntKind.wrap .i64 (v.1+(1:Int))),v.2.2.2))
theorem q2v4 C v:q40p (regO (qcy f159) 13) false [(3,(.own qje)),(8,.any)] q2uw q2v3 q2uk C v:=rgI (by kernel_rfl)
def q2v5 (d:Nat) (self4:(Int×List qjf)→Option q2t7) (self5:(Int×Int×List qjf)→Option q2t7) (x5:Int×Int×List qjf):Option q2t7 :=
 (q2ux (q2tb d) x5).eval fun y15 =>
 bif y15.2.2.1 then ((q2uz (q2tb d) y15).eval fun y17 =>
 (q2v1 (q2tb d) y17).eval fun y16 =>
 self5 y16) else ((q2v3 (q2tb d) y15).eval fun y13 =>
 self4 y13)
abbrev q2v6:Type:=List qjf
def q2v7 (v:q2v6):St:=⟨[(2,.rs 0)],[.rows qje v]⟩
def q2v8 (C:q2ta) (v:q2un):Dt q2v6:=(Dt.ret v.2.2)
theorem q2v9 C v:q40p (regO (qcy f159) 18) false [(2,(.own qje))] q2uo q2v8 q2v7 C v:=rgI (by kernel_rfl)
def q2va (d:Nat) (self4:(Int×List qjf)→Option q2t7) (x4:Int×List qjf):Option q2t7 :=
 (q2up (q2tb d) x4).eval fun y12 =>
 bif y12.2.1 then ((q2ut (q2tb d) y12).eval fun y14 =>
 iter (q2v5 d self4) d y14) else ((q2v8 (q2tb d) y12).eval fun y18 =>
 some y18)
def q2vb (d:Nat) (self1:(Int×List Diii×List qjf)→Option q2t7) (x1:Int×List Diii×List qjf):Option q2t7 :=
 (q2tt (q2tb d) x1).eval fun y3 =>
 bif y3.2.1 then ((q2tx (q2tb d) y3).eval fun y5 =>
 iter (q2ui d self1) d y5) else ((q2ul (q2tb d) y3).eval fun y11 =>
 iter (q2va d ) d y11)
def q2vc (d:Nat) (x:q2t6):Option q2t7 :=
 (q2th (q2tb d) x.1.1).eval fun y0 =>
 (q2tl (q2tb d) y0).eval fun y1 =>
 (q2tp (q2tb d) y1).eval fun y2 =>
 iter (q2vb d ) d y2
theorem q2vd (d:Nat):COK prog (q2t9 (q2vc d)):=by
 have hm:prog.follows .mixedOrders=true:=qjt
 have hT:=tys
 have hC0:OrcOK prog (orc (q2tc (q2tb d))):=qcs (by
  intro S hS
  simp only [q2tc,List.mem_cons,List.not_mem_nil,or_false] at hS
  rcases hS with rfl | rfl
  · exact q2s4 d
  · exact q2t4 d)
 have hC:OrcOK prog (orc (q2tc (q2tb d))):=hC0
 refine q8e (c:=qcy f159) (fn:=f159) hT (by kernel_rfl) (by kernel_rfl) (by decide) fun x r h w0 φ0 Q hend=>?_
 replace h:q2vc d x=some r:=h
 unfold q2vc at h
 show Run prog w0 φ0 92 (qcy f159) ⟨[(0,.agg [.fz Riii x.1.1])],[]⟩ Q
 refine q3yx hm hT hC (q2ti (q2tb d) x.1.1) h fun y0 h=>?_
 refine q3yx hm hT hC (q2tm (q2tb d) y0) h fun y1 h=>?_
 refine q7y ?_
 refine q3yx hm hT hC (q2tq (q2tb d) y1) h fun y2 h=>?_
 refine q7z ?_
 refine q84 (G:=iter (q2vb d )) (S:=(fun x1=>⟨[(1,.ptr 0 0),(3,.rs 1),(4,i6 x1.1)],[.cells [.fz Riii x1.2.1],.rows qje x1.2.2]⟩:Int×List Diii×List qjf→St)) (fun _=>rfl) ?_ d _ h
 intro n1 x1 h K1 hn1
 replace h:q2vb d  (iter (q2vb d ) n1) x1=some r:=h
 generalize iter (q2vb d ) n1=self1 at h hn1
 unfold q2vb at h
 refine q7y ?_
 refine q3yx hm hT hC (q2tu (q2tb d) x1) h fun y3 h=>?_
 refine q82 (v:=y3.2.1) (by kernel_rfl) h ?_ ?_
 ·
  intro h
  refine q7u (q7k (q7y (q7z ?_)))
  refine q3yx hm hT hC (q2ty (q2tb d) y3) h fun y5 h=>?_
  refine q7z ?_
  refine q84 (G:=iter (q2ui d self1)) (S:=(fun x2=>⟨[(1,.ptr 0 0),(3,.rs 1),(4,i6 x2.1),(5,i6 x2.2.1)],[.cells [.fz Riii x2.2.2.1],.rows qje x2.2.2.2]⟩:Int×Int×List Diii×List qjf→St)) (fun _=>rfl) ?_ d _ h
  intro n2 x2 h K2 hn2
  replace h:q2ui d self1 (iter (q2ui d self1) n2) x2=some r:=h
  generalize iter (q2ui d self1) n2=self2 at h hn2
  unfold q2ui at h
  refine q7y ?_
  refine q3yx hm hT hC (q2u2 (q2tb d) x2) h fun y6 h=>?_
  refine q82 (v:=y6.2.2.1) (by kernel_rfl) h ?_ ?_
  ·
   intro h
   refine q7u (q7k ?_)
   refine q81 (r:=r) (F:=q2uf d self1 self2) (S:=(fun z=>⟨[(1,.ptr 0 0),(3,.rs 1),(4,i6 z.1),(5,i6 z.2.1)],[.cells [.fz Riii z.2.2.1],.rows qje z.2.2.2]⟩:Int×Int×List Diii×List qjf→St)) ?_ ?_
   ·
    intro z h
    unfold q2uf at h
    refine q83 hm hT hC (q2ue (q2tb d) z) h ?_
    intro y7 h
    exact hn2 _ h
   intro hj3
   refine q7z ?_
   refine q3yx hm hT hC (q2u6 (q2tb d) y6) h fun y8 h=>?_
   refine q3yx hm hT hC (q2ua (q2tb d) y8) h fun y9 h=>?_
   refine q82 (v:=y9.2.2.1) (by kernel_rfl) h ?_ ?_
   ·
    intro h
    refine q83 hm hT hC (q2uc (q2tb d) y9) h ?_
    intro y10 h
    refine q7n ?_
    exact hj3 _ h
   ·
    intro h
    refine q7u (q7n ?_)
    refine qcx (s:=⟨[(1,.ptr 0 0),(3,.rs 1),(4,.int .i64 y9.1),(5,.int .i64 y9.2.1)],[.cells [.fz Riii y9.2.2.2.1],.rows qje y9.2.2.2.2.1]⟩) [6,7,40] (by kernel_rfl) ?_
    exact hj3 _ h
  ·
   intro h
   refine q7w (q7l (q7l (q7p (q7n (q7k ?_)))))
   refine q83 hm hT hC (q2uh (q2tb d) y6) h ?_
   intro y4 h
   exact hn1 _ h
 ·
  intro h
  refine q7w (q7l (q7l (q7p (q7k (q7y ?_)))))
  refine q3yx hm hT hC (q2um (q2tb d) y3) h fun y11 h=>?_
  refine q7z ?_
  refine q84 (G:=iter (q2va d )) (S:=(fun x4=>⟨[(3,.rs 0),(8,i6 x4.1)],[.rows qje x4.2]⟩:Int×List qjf→St)) (fun _=>rfl) ?_ d _ h
  intro n4 x4 h K4 hn4
  replace h:q2va d  (iter (q2va d ) n4) x4=some r:=h
  generalize iter (q2va d ) n4=self4 at h hn4
  unfold q2va at h
  refine q7y ?_
  refine q3yx hm hT hC (q2uq (q2tb d) x4) h fun y12 h=>?_
  refine q82 (v:=y12.2.1) (by kernel_rfl) h ?_ ?_
  ·
   intro h
   refine q7u (q7k (q7y (q7z ?_)))
   refine q3yx hm hT hC (q2uu (q2tb d) y12) h fun y14 h=>?_
   refine q7z ?_
   refine q84 (G:=iter (q2v5 d self4)) (S:=(fun x5=>⟨[(3,.rs 0),(8,i6 x5.1),(9,i6 x5.2.1)],[.rows qje x5.2.2]⟩:Int×Int×List qjf→St)) (fun _=>rfl) ?_ d _ h
   intro n5 x5 h K5 hn5
   replace h:q2v5 d self4 (iter (q2v5 d self4) n5) x5=some r:=h
   generalize iter (q2v5 d self4) n5=self5 at h hn5
   unfold q2v5 at h
   refine q7y ?_
   refine q3yx hm hT hC (q2uy (q2tb d) x5) h fun y15 h=>?_
   refine q82 (v:=y15.2.2.1) (by kernel_rfl) h ?_ ?_
   ·
    intro h
    refine q7u (q7k (q7y (q7z ?_)))
    refine q83 hm hT hC (q2v0 (q2tb d) y15) h ?_
    intro y17 h
    refine q7n (q7k ?_)
    refine q83 hm hT hC (q2v2 (q2tb d) y17) h ?_
    intro y16 h
    exact hn5 _ h
   ·
    intro h
    refine q7w (q7l (q7l (q7p (q7n (q7k ?_)))))
    refine q83 hm hT hC (q2v4 (q2tb d) y15) h ?_
    intro y13 h
    exact hn4 _ h
  ·
   intro h
   refine q7w (q7l (q7l (q7p (q7k ?_))))
   refine q3yx hm hT hC (q2v9 (q2tb d) y12) h fun y18 h=>?_
   refine q7x ?_
   cases h
   exact (hend _ (by kernel_rfl)).2
abbrev q2ve:List Pk:=[.row qjb true,.row Rii true,.row Rii true]
abbrev q2vf:Type:=qjc×Dii×Dii×Unit
abbrev q2vg:Type:=List qjf
def q2vh (r:q2vg):LV×List Ob:=(.rs 0,[.rows qje r])
def q2vi (F:q2vf→Option q2vg):Go.Tx.Spec:=⟨134,q2ve,q2vg,F,q2vh⟩
abbrev q2vj:Type:=(q2p2→Option q2p3)×(q2t6→Option q2t7)×Unit
def q2vk (d:Nat):q2vj:=(q2q5 d,q2vc d,())
def q2vl (C:q2vj):List Go.Tx.Spec:=[q2p5 C.1,q2t9 C.2.1]
abbrev q2vm:Type:=List Diii×Int×Int×Int×Int
def q2vn (v:q2vm):St:=⟨[(0,.agg [.fz Riii v.1]),(1,.agg [i6 v.2.1,i6 v.2.2.1]),(2,.agg [i6 v.2.2.2.1,i6 v.2.2.2.2])],[]⟩
abbrev q2vo:Type:=List Diii×Int×Int×Int×Int
def q2vp (v:q2vo):St:=⟨[(3,.ptr 0 0),(4,.ptr 1 0),(5,.ptr 2 0)],[.cells [.fz Riii v.1],.cells [i6 v.2.1,i6 v.2.2.1],.cells [i6 v.2.2.2.1,i6 v.2.2.2.2]]⟩
def q2vq (C:q2vj) (v:q2vm):Dt q2vo:=(Dt.ret (v.1,v.2.1,v.2.2.1,v.2.2.2.1,v.2.2.2.2))
abbrev q40q {V Y:Type}:=@rg q2vj V Y tysT (fun C=>(orc (q2vl C))) 44
theorem q2vr C v:q40q (regO (qcy f134) 0) false [(3,(.box [.val Riii])),(4,.any),(5,.any)] q2vn q2vq q2vp C v:=rgI (by kernel_rfl)
abbrev q2vs:Type:=List Diii×Int×Int×Int×Int×List qjf
def q2vt (v:q2vs):St:=⟨[(3,.ptr 0 0),(4,.ptr 1 0),(5,.ptr 2 0),(7,.rs 3)],[.cells [.fz Riii v.1],.cells [i6 v.2.1,i6 v.2.2.1],.cells [i6 v.2.2.2.1,i6 v.2.2.2.2.1],.rows qje v.2.2.2.2.2]⟩
def q2vu (C:q2vj) (v:q2vo):Dt q2vs:=(Dt.ret (v.1,v.2.1,v.2.2.1,v.2.2.2.1,v.2.2.2.2,([]:List qjf)))
theorem q2vv C v:q40q (regO (qcy f134) 1) false [(3,(.box [.val Riii])),(4,.any),(5,.any),(7,(.own qje))] q2vp q2vu q2vt C v:=rgI (by kernel_rfl)
abbrev q2vw:Type:=Int×Int×Int×Int×List qjf×List qjf
def q2vx (v:q2vw):St:=⟨[(4,.ptr 0 0),(5,.ptr 1 0),(7,.rs 2),(8,.rs 3)],[.cells [i6 v.1,i6 v.2.1],.cells [i6 v.2.2.1,i6 v.2.2.2.1],.rows qje v.2.2.2.2.1,.rows qje v.2.2.2.2.2]⟩
def q2vy (C:q2vj) (v:q2vs):Dt q2vw:=(Dt.bnd (C.2.1 ((v.1,()),())) fun r1=>(Dt.ret (v.2.1,v.2.2.1,v.2.2.2.1,v.2.2.2.2.1,v.2.2.2.2.2,r1)))
theorem q2vz C v:q40q (regO (qcy f134) 2) false [(4,.any),(5,.any),(7,(.own qje)),(8,(.own qje))] q2vt q2vy q2vx C v:=rgI (by kernel_rfl)
abbrev q2w0:Type:=Int×Int×Int×Int×Int×List qjf×List qjf
def q2w1 (v:q2w0):St:=⟨[(4,.ptr 0 0),(5,.ptr 1 0),(7,.rs 2),(8,.rs 3),(9,i6 v.1)],[.cells [i6 v.2.1,i6 v.2.2.1],.cells [i6 v.2.2.2.1,i6 v.2.2.2.2.1],.rows qje v.2.2.2.2.2.1,.rows qje v.2.2.2.2.2.2]⟩
def q2w2 (C:q2vj) (v:q2vw):Dt q2w0:=(Dt.ret ((0:Int),v.1,v.2.1,v.2.2.1,v.2.2.2.1,v.2.2.2.2.1,v.2.2.2.2.2))
theorem q2w3 C v:q40q (regO (qcy f134) 3) false [(4,.any),(5,.any),(7,(.own qje)),(8,(.own qje)),(9,.any)] q2vx q2w2 q2w1 C v:=rgI (by kernel_rfl)
abbrev q2w4:Type:=Int×Bool×Int×Int×Int×Int×List qjf×List qjf
def q2w5 (v:q2w4):St:=⟨[(4,.ptr 0 0),(5,.ptr 1 0),(7,.rs 2),(8,.rs 3),(9,i6 v.1),(15,.bool v.2.1)],[.cells [i6 v.2.2.1,i6 v.2.2.2.1],.cells [i6 v.2.2.2.2.1,i6 v.2.2.2.2.2.1],.rows qje v.2.2.2.2.2.2.1,.rows qje v.2.2.2.2.2.2.2]⟩
def q2w6 (C:q2vj) (v:q2w0):Dt q2w4:=(Dt.ret (v.1,(decide (v.1<(List.length v.2.2.2.2.2.2:Int))),v.2.1,v.2.2.1,v.2.2.2.1,v.2.2.2.2.1,v.2.2.2.2.2.1,v.2.2.2.2.2.2))
theorem q2w7 C v:q40q (regO (qcy f134) 4) false [(4,.any),(5,.any),(7,(.own qje)),(8,(.own qje)),(9,.any),(15,.any)] q2w1 q2w6 q2w5 C v:=rgI (by kernel_rfl)
abbrev q2w8:Type:=Int×Bool×Int×Int×Int×Int×List qjf×List qjf
def q2w9 (v:q2w8):St:=⟨[(4,.ptr 0 0),(5,.ptr 1 0),(7,.rs 2),(8,.rs 3),(9,i6 v.1),(35,.bool v.2.1)],[.cells [i6 v.2.2.1,i6 v.2.2.2.1],.cells [i6 v.2.2.2.2.1,i6 v.2.2.2.2.2.1],.rows qje v.2.2.2.2.2.2.1,.rows qje v.2.2.2.2.2.2.2]⟩
def q2wa (C:q2vj) (v:q2w4):Dt q2w8:=(Dt.ite (inB v.1 (List.length v.2.2.2.2.2.2.2)) (Dt.bnd (C.1 (((elt qjg v.2.2.2.2.2.2.2 (v.1).toNat).1,(elt qjg v.2.2.2.2.2.2.2 (v.1).toNat).2.1,()),(v.2.2.1,v.2.2.2.1,()),())) fun r1=>(Dt.ite (decide (r1 > (0:Int))) (Dt.ite (inB v.1 (List.length v.2.2.2.2.2.2.2)) (Dt.bnd (C.1 (((elt qjg v.2.2.2.2.2.2.2 (v.1).toNat).1,(elt qjg v.2.2.2.2.2.2.2 (v.1).toNat).2.1,()),(v.2.2.2.2.1,v.2.2.2.2.2.1,()),())) fun r2=>(Dt.ret (v.1,(decide (r2≤(0:Int))),v.2.2.1,v.2.2.2.1,v.2.2.2.2.1,v.2.2.2.2.2.1,v.2.2.2.2.2.2.1,v.2.2.2.2.2.2.2))) Dt.fail) (Dt.ret (v.1,false,v.2.2.1,v.2.2.2.1,v.2.2.2.2.1,v.2.2.2.2.2.1,v.2.2.2.2.2.2.1,v.2.2.2.2.2.2.2)))) Dt.fail)
theorem q2wb C v:q40q (regO (qcy f134) 6) true [(4,.any),(5,.any),(7,(.own qje)),(8,(.own qje)),(9,.any),(35,.any)] q2w5 q2wa q2w9 C v:=rgI (by kernel_rfl)
def q2wc (C:q2vj) (v:q2w8):Dt q2w0:=(Dt.ite (inB v.1 (List.length v.2.2.2.2.2.2.2)) (Dt.ite (apB (List.length v.2.2.2.2.2.2.1) (List.length ([((elt qjg v.2.2.2.2.2.2.2 (v.1).toNat).1,(elt qjg v.2.2.2.2.2.2.2 (v.1).toNat).2.1,(elt qjg v.2.2.2.2.2.2.2 (v.1).toNat).2.2.1,(elt qjg v.2.2.2.2.2.2.2 (v.1).toNat).2.2.2.1,())]:List qjf))) (Dt.ret (v.1,v.2.2.1,v.2.2.2.1,v.2.2.2.2.1,v.2.2.2.2.2.1,(v.2.2.2.2.2.2.1++([((elt qjg v.2.2.2.2.2.2.2 (v.1).toNat).1,(elt qjg v.2.2.2.2.2.2.2 (v.1).toNat).2.1,(elt qjg v.2.2.2.2.2.2.2 (v.1).toNat).2.2.1,(elt qjg v.2.2.2.2.2.2.2 (v.1).toNat).2.2.2.1,())]:List qjf)),v.2.2.2.2.2.2.2)) Dt.fail) Dt.fail)
theorem q2wd C v:q40q (regO (qcy f134) 7) false [(4,.any),(5,.any),(7,(.own qje)),(8,(.own qje)),(9,.any)] q2w9 q2wc q2w1 C v:=rgI (by kernel_rfl)
def q2we (C:q2vj) (v:q2w0):Dt q2w0:=(Dt.ret ((IntKind.wrap .i64 (v.1+(1:Int))),v.2.1,v.2.2.1,v.2.2.2.1,v.2.2.2.2.1,v.2.2.2.2.2.1,v.2.2.2.2.2.2))
theorem q2wf C v:q40q (regO (qcy f134) 5) false [(4,.any),(5,.any),(7,(.own qje)),(8,(.own qje)),(9,.any)] q2w1 q2we q2w1 C v:=rgI (by kernel_rfl)
def q2wg  (d:Nat) (self1:(Int×Int×Int×Int×Int×List qjf×List qjf)→Option q2vg) (z:Int×Int×Int×Int×Int×List qjf×List qjf):Option (q2vg) :=
 (q2we (q2vk d) z).eval fun y5 =>
 self1 y5
abbrev q2wh:Type:=List qjf
def q2wi (v:q2wh):St:=⟨[(6,.rs 0)],[.rows qje v]⟩
def q2wj (C:q2vj) (v:q2w4):Dt q2wh:=(Dt.ret v.2.2.2.2.2.2.1)
theorem q2wk C v:q40q (regO (qcy f134) 8) false [(6,(.own qje))] q2w5 q2wj q2wi C v:=rgI (by kernel_rfl)
def q2wl (d:Nat) (self1:(Int×Int×Int×Int×Int×List qjf×List qjf)→Option q2vg) (x1:Int×Int×Int×Int×Int×List qjf×List qjf):Option q2vg :=
 (q2w6 (q2vk d) x1).eval fun y4 =>
 bif y4.2.1 then ((q2wa (q2vk d) y4).eval fun y6 =>
 bif y6.2.1 then ((q2wc (q2vk d) y6).eval fun y7 =>
 q2wg d self1 y7) else (q2wg d self1 (y6.1,y6.2.2.1,y6.2.2.2.1,y6.2.2.2.2.1,y6.2.2.2.2.2.1,y6.2.2.2.2.2.2.1,y6.2.2.2.2.2.2.2))) else ((q2wj (q2vk d) y4).eval fun y8 =>
 some y8)
def q2wm (d:Nat) (x:q2vf):Option q2vg :=
 (q2vq (q2vk d) (x.1.1,x.2.1.1,x.2.1.2.1,x.2.2.1.1,x.2.2.1.2.1)).eval fun y0 =>
 (q2vu (q2vk d) y0).eval fun y1 =>
 (q2vy (q2vk d) y1).eval fun y2 =>
 (q2w2 (q2vk d) y2).eval fun y3 =>
 iter (q2wl d ) d y3
theorem q2wn (d:Nat):COK prog (q2vi (q2wm d)):=by
 have hm:prog.follows .mixedOrders=true:=qjt
 have hT:=tys
 have hC0:OrcOK prog (orc (q2vl (q2vk d))):=qcs (by
  intro S hS
  simp only [q2vl,List.mem_cons,List.not_mem_nil,or_false] at hS
  rcases hS with rfl | rfl
  · exact q2q6 d
  · exact q2vd d)
 have hC:OrcOK prog (orc (q2vl (q2vk d))):=hC0
 refine q8e (c:=qcy f134) (fn:=f134) hT (by kernel_rfl) (by kernel_rfl) (by decide) fun x r h w0 φ0 Q hend=>?_
 replace h:q2wm d x=some r:=h
 unfold q2wm at h
 show Run prog w0 φ0 44 (qcy f134) ⟨[(0,.agg [.fz Riii x.1.1]),(1,.agg [.int .i64 x.2.1.1,.int .i64 x.2.1.2.1]),(2,.agg [.int .i64 x.2.2.1.1,.int .i64 x.2.2.1.2.1])],[]⟩ Q
 refine q3yx hm hT hC (q2vr (q2vk d) (x.1.1,x.2.1.1,x.2.1.2.1,x.2.2.1.1,x.2.2.1.2.1)) h fun y0 h=>?_
 refine q3yx hm hT hC (q2vv (q2vk d) y0) h fun y1 h=>?_
 refine q3yx hm hT hC (q2vz (q2vk d) y1) h fun y2 h=>?_
 refine q7y ?_
 refine q3yx hm hT hC (q2w3 (q2vk d) y2) h fun y3 h=>?_
 refine q7z ?_
 refine q84 (G:=iter (q2wl d )) (S:=(fun x1=>⟨[(4,.ptr 0 0),(5,.ptr 1 0),(7,.rs 2),(8,.rs 3),(9,i6 x1.1)],[.cells [i6 x1.2.1,i6 x1.2.2.1],.cells [i6 x1.2.2.2.1,i6 x1.2.2.2.2.1],.rows qje x1.2.2.2.2.2.1,.rows qje x1.2.2.2.2.2.2]⟩:Int×Int×Int×Int×Int×List qjf×List qjf→St)) (fun _=>rfl) ?_ d _ h
 intro n1 x1 h K1 hn1
 replace h:q2wl d  (iter (q2wl d ) n1) x1=some r:=h
 generalize iter (q2wl d ) n1=self1 at h hn1
 unfold q2wl at h
 refine q7y ?_
 refine q3yx hm hT hC (q2w7 (q2vk d) x1) h fun y4 h=>?_
 refine q82 (v:=y4.2.1) (by kernel_rfl) h ?_ ?_
 ·
  intro h
  refine q7u (q7k ?_)
  refine q81 (r:=r) (F:=q2wg d self1) (S:=(fun z=>⟨[(4,.ptr 0 0),(5,.ptr 1 0),(7,.rs 2),(8,.rs 3),(9,i6 z.1)],[.cells [i6 z.2.1,i6 z.2.2.1],.cells [i6 z.2.2.2.1,i6 z.2.2.2.2.1],.rows qje z.2.2.2.2.2.1,.rows qje z.2.2.2.2.2.2]⟩:Int×Int×Int×Int×Int×List qjf×List qjf→St)) ?_ ?_
  ·
   intro z h
   unfold q2wg at h
   refine q83 hm hT hC (q2wf (q2vk d) z) h ?_
   intro y5 h
   exact hn1 _ h
  intro hj2
  refine q7z ?_
  refine q3yx hm hT hC (q2wb (q2vk d) y4) h fun y6 h=>?_
  refine q82 (v:=y6.2.1) (by kernel_rfl) h ?_ ?_
  ·
   intro h
   refine q83 hm hT hC (q2wd (q2vk d) y6) h ?_
   intro y7 h
   refine q7n ?_
   exact hj2 _ h
  ·
   intro h
   refine q7u (q7n ?_)
   refine qcx (s:=⟨[(4,.ptr 0 0),(5,.ptr 1 0),(7,.rs 2),(8,.rs 3),(9,.int .i64 y6.1)],[.cells [.int .i64 y6.2.2.1,.int .i64 y6.2.2.2.1],.cells [.int .i64 y6.2.2.2.2.1,.int .i64 y6.2.2.2.2.2.1],.rows qje y6.2.2.2.2.2.2.1,.rows qje y6.2.2.2.2.2.2.2]⟩) [35] (by kernel_rfl) ?_
   exact hj2 _ h
 ·
  intro h
  refine q7w (q7l (q7l (q7p (q7k ?_))))
  refine q3yx hm hT hC (q2wk (q2vk d) y4) h fun y8 h=>?_
  refine q7x ?_
  cases h
  exact (hend _ (by kernel_rfl)).2
abbrev q2wo:List Pk:=[.row qjb true,.row Rii true,.row Rii true]
abbrev q2wp:Type:=qjc×Dii×Dii×Unit
abbrev q2wq:Type:=Int
def q2wr (r:q2wq):LV×List Ob:=(.int .i64 r,[])
def q2ws (F:q2wp→Option q2wq):Go.Tx.Spec:=⟨77,q2wo,q2wq,F,q2wr⟩
abbrev q2wt:Type:=(q2q8→Option q2q9)×Unit
def q2wu (d:Nat):q2wt:=(q2rf d,())
def q2wv (C:q2wt):List Go.Tx.Spec:=[q2qb C.1]
abbrev q2ww:Type:=List Diii×Int×Int×Int×Int
def q2wx (v:q2ww):St:=⟨[(0,.agg [.fz Riii v.1]),(1,.agg [i6 v.2.1,i6 v.2.2.1]),(2,.agg [i6 v.2.2.2.1,i6 v.2.2.2.2])],[]⟩
abbrev q2wy:Type:=List Diii×Int×Int×Int×Int
def q2wz (v:q2wy):St:=⟨[(3,.ptr 0 0),(4,.ptr 1 0),(5,.ptr 2 0)],[.cells [.fz Riii v.1],.cells [i6 v.2.1,i6 v.2.2.1],.cells [i6 v.2.2.2.1,i6 v.2.2.2.2]]⟩
def q2x0 (C:q2wt) (v:q2ww):Dt q2wy:=(Dt.ret (v.1,v.2.1,v.2.2.1,v.2.2.2.1,v.2.2.2.2))
abbrev q40r {V Y:Type}:=@rg q2wt V Y tysT (fun C=>(orc (q2wv C))) 19
theorem q2x1 C v:q40r (regO (qcy f77) 0) false [(3,(.box [.val Riii])),(4,.any),(5,.any)] q2wx q2x0 q2wz C v:=rgI (by kernel_rfl)
abbrev q2x2:Type:=Int×List Diii
def q2x3 (v:q2x2):St:=⟨[(3,.ptr 0 0),(7,i6 v.1)],[.cells [.fz Riii v.2]]⟩
def q2x4 (C:q2wt) (v:q2wy):Dt q2x2:=(Dt.bnd (C.1 ((v.1,()),(v.2.1,v.2.2.1,()),(v.2.2.2.1,v.2.2.2.2,()),())) fun r1=>(Dt.ret (r1,v.1)))
theorem q2x5 C v:q40r (regO (qcy f77) 1) false [(3,(.box [.val Riii])),(7,.any)] q2wz q2x4 q2x3 C v:=rgI (by kernel_rfl)
abbrev q2x6:Type:=Int×Bool×List Diii
def q2x7 (v:q2x6):St:=⟨[(3,.ptr 0 0),(7,i6 v.1),(13,.bool v.2.1)],[.cells [.fz Riii v.2.2]]⟩
def q2x8 (C:q2wt) (v:q2x2):Dt q2x6:=(Dt.ret (v.1,(v.1!=(0:Int)),v.2))
theorem q2x9 C v:q40r (regO (qcy f77) 2) false [(3,(.box [.val Riii])),(7,.any),(13,.any)] q2x3 q2x8 q2x7 C v:=rgI (by kernel_rfl)
abbrev q2xa:Type:=Int
def q2xb (v:q2xa):St:=⟨[(6,i6 v)],[]⟩
def q2xc (C:q2wt) (v:q2x6):Dt q2xa:=(Dt.ret v.1)
theorem q2xd C v:q40r (regO (qcy f77) 3) false [(6,.any)] q2x7 q2xc q2xb C v:=rgI (by kernel_rfl)
abbrev q2xe:Type:=Bool
def q2xf (v:q2xe):St:=⟨[(18,.bool v)],[]⟩
def q2xg (C:q2wt) (v:q2x6):Dt q2xe:=(Dt.ret ((List.length v.2.2:Int)==(0:Int)))
theorem q2xh C v:q40r (regO (qcy f77) 4) false [(18,.any)] q2x7 q2xg q2xf C v:=rgI (by kernel_rfl)
def q2xi (C:q2wt) (v:q2xe):Dt q2xa:=(Dt.ret (42:Int))
theorem q2xj C v:q40r (regO (qcy f77) 5) false [(6,.any)] q2xf q2xi q2xb C v:=rgI (by kernel_rfl)
def q2xk (C:q2wt) (v:q2xe):Dt q2xa:=(Dt.ret (0:Int))
theorem q2xl C v:q40r (regO (qcy f77) 6) false [(6,.any)] q2xf q2xk q2xb C v:=rgI (by kernel_rfl)
def q2xm (d:Nat) (x:q2wp):Option q2wq :=
 (q2x0 (q2wu d) (x.1.1,x.2.1.1,x.2.1.2.1,x.2.2.1.1,x.2.2.1.2.1)).eval fun y0 =>
 (q2x4 (q2wu d) y0).eval fun y1 =>
 (q2x8 (q2wu d) y1).eval fun y2 =>
 bif y2.2.1 then ((q2xc (q2wu d) y2).eval fun y3 =>
 some y3) else ((q2xg (q2wu d) y2).eval fun y4 =>
 bif y4 then ((q2xi (q2wu d) y4).eval fun y5 =>
 some y5) else ((q2xk (q2wu d) y4).eval fun y6 =>
 some y6))
theorem q2xn (d:Nat):COK prog (q2ws (q2xm d)):=by
 have hm:prog.follows .mixedOrders=true:=qjt
 have hT:=tys
 have hC0:OrcOK prog (orc (q2wv (q2wu d))):=qcs (by
  intro S hS
  simp only [q2wv,List.mem_cons,List.not_mem_nil,or_false] at hS
  subst hS;exact q2rg d)
 have hC:OrcOK prog (orc (q2wv (q2wu d))):=hC0
 refine q8e (c:=qcy f77) (fn:=f77) hT (by kernel_rfl) (by kernel_rfl) (by decide) fun x r h w0 φ0 Q hend=>?_
 replace h:q2xm d x=some r:=h
 unfold q2xm at h
 show Run prog w0 φ0 19 (qcy f77) ⟨[(0,.agg [.fz Riii x.1.1]),(1,.agg [.int .i64 x.2.1.1,.int .i64 x.2.1.2.1]),(2,.agg [.int .i64 x.2.2.1.1,.int .i64 x.2.2.1.2.1])],[]⟩ Q
 refine q3yx hm hT hC (q2x1 (q2wu d) (x.1.1,x.2.1.1,x.2.1.2.1,x.2.2.1.1,x.2.2.1.2.1)) h fun y0 h=>?_
 refine q7y ?_
 refine q3yx hm hT hC (q2x5 (q2wu d) y0) h fun y1 h=>?_
 refine q3yx hm hT hC (q2x9 (q2wu d) y1) h fun y2 h=>?_
 refine q82 (v:=y2.2.1) (by kernel_rfl) h ?_ ?_
 ·
  intro h
  refine q3yx hm hT hC (q2xd (q2wu d) y2) h fun y3 h=>?_
  refine q7x (q7m ?_)
  cases h
  exact (hend _ (by kernel_rfl)).2
 ·
  intro h
  refine q7u (q7k (q7y ?_))
  refine q3yx hm hT hC (q2xh (q2wu d) y2) h fun y4 h=>?_
  refine q82 (v:=y4) (by kernel_rfl) h ?_ ?_
  ·
   intro h
   refine q3yx hm hT hC (q2xj (q2wu d) y4) h fun y5 h=>?_
   refine q7x (q7m ?_)
   cases h
   exact (hend _ (by kernel_rfl)).2
  ·
   intro h
   refine q7u (q7k ?_)
   refine q3yx hm hT hC (q2xl (q2wu d) y4) h fun y6 h=>?_
   refine q7x ?_
   cases h
   exact (hend _ (by kernel_rfl)).2
abbrev q2xo:List Pk:=[.row qjb true,.row Rii true]
abbrev q2xp:Type:=qjc×Dii×Unit
abbrev q2xq:Type:=Int×Int×Int×Int×Int×Int
def q2xr (r:q2xq):LV×List Ob:=(.tup [.agg [.int .i64 r.1,.int .i64 r.2.1,.int .i64 r.2.2.1],.agg [.int .i64 r.2.2.2.1,.int .i64 r.2.2.2.2.1,.int .i64 r.2.2.2.2.2]],[])
def q2xs (F:q2xp→Option q2xq):Go.Tx.Spec:=⟨78,q2xo,q2xq,F,q2xr⟩
abbrev q2xt:Type:=(qpy→Option qpz)×(qwo→Option qwp)×Unit
def q2xu (d:Nat):q2xt:=(qq3 d,qwt d,())
def q2xv (C:q2xt):List Go.Tx.Spec:=[qq1 C.1,qwr C.2.1]
abbrev q2xw:Type:=List Diii×Int×Int
def q2xx (v:q2xw):St:=⟨[(0,.agg [.fz Riii v.1]),(1,.agg [i6 v.2.1,i6 v.2.2])],[]⟩
abbrev q2xy:Type:=List Diii×Int×Int×Int×Int×Int×Int×Int×Int
def q2xz (v:q2xy):St:=⟨[(2,.ptr 0 0),(3,.ptr 1 0),(4,.ptr 2 0),(5,.ptr 3 0)],[.cells [.fz Riii v.1],.cells [i6 v.2.1,i6 v.2.2.1],.cells [i6 v.2.2.2.1,i6 v.2.2.2.2.1,i6 v.2.2.2.2.2.1],.cells [i6 v.2.2.2.2.2.2.1,i6 v.2.2.2.2.2.2.2.1,i6 v.2.2.2.2.2.2.2.2]]⟩
def q2y0 (C:q2xt) (v:q2xw):Dt q2xy:=(Dt.ret (v.1,v.2.1,v.2.2,(0:Int),(0:Int),(0:Int),(0:Int),(0:Int),(0:Int)))
abbrev q40s {V Y:Type}:=@rg q2xt V Y tysT (fun C=>(orc (q2xv C))) 31
theorem q2y1 C v:q40s (regO (qcy f78) 0) false [(2,(.box [.val Riii])),(3,.any),(4,.any),(5,.any)] q2xx q2y0 q2xz C v:=rgI (by kernel_rfl)
abbrev q2y2:Type:=List Diii×Int×Int×Int×Int×Int×Int×List Di
def q2y3 (v:q2y2):St:=⟨[(2,.ptr 0 0),(4,.ptr 1 0),(5,.ptr 2 0),(6,.rs 3)],[.cells [.fz Riii v.1],.cells [i6 v.2.1,i6 v.2.2.1,i6 v.2.2.2.1],.cells [i6 v.2.2.2.2.1,i6 v.2.2.2.2.2.1,i6 v.2.2.2.2.2.2.1],.rows Ri v.2.2.2.2.2.2.2]⟩
def q2y4 (C:q2xt) (v:q2xy):Dt q2y2:=(Dt.bnd (C.2.1 ((v.1,()),(v.2.1,v.2.2.1,()),())) fun r1=>(Dt.ret (v.1,v.2.2.2.1,v.2.2.2.2.1,v.2.2.2.2.2.1,v.2.2.2.2.2.2.1,v.2.2.2.2.2.2.2.1,v.2.2.2.2.2.2.2.2,r1)))
theorem q2y5 C v:q40s (regO (qcy f78) 1) false [(2,(.box [.val Riii])),(4,.any),(5,.any),(6,(.own Ri))] q2xz q2y4 q2y3 C v:=rgI (by kernel_rfl)
abbrev q2y6:Type:=Int×Int×Int×Int×Int×Int
def q2y7 (v:q2y6):St:=⟨[(4,.ptr 0 0),(5,.ptr 1 0)],[.cells [i6 v.1,i6 v.2.1,i6 v.2.2.1],.cells [i6 v.2.2.2.1,i6 v.2.2.2.2.1,i6 v.2.2.2.2.2]]⟩
def q2y8 (C:q2xt) (v:q2y2):Dt q2y6:=(Dt.ite (inB (0:Int) (List.length v.2.2.2.2.2.2.2)) (Dt.bnd (C.1 ((v.1,()),((elt zi v.2.2.2.2.2.2.2 ((0:Int)).toNat).1,()),())) fun r1=>(Dt.ite (inB r1 (List.length v.1)) (Dt.ite (inB (IntKind.wrap .i64 ((List.length v.2.2.2.2.2.2.2:Int) - (1:Int))) (List.length v.2.2.2.2.2.2.2)) (Dt.bnd (C.1 ((v.1,()),((elt zi v.2.2.2.2.2.2.2 ((IntKind.wrap .i64 ((List.length v.2.2.2.2.2.2.2:Int) - (1:Int)))).toNat).1,()),())) fun r2=>(Dt.ite (inB r2 (List.length v.1)) (Dt.ret ((elt ziii v.1 (r1).toNat).1,(elt ziii v.1 (r1).toNat).2.1,(elt ziii v.1 (r1).toNat).2.2.1,(elt ziii v.1 (r2).toNat).1,(elt ziii v.1 (r2).toNat).2.1,(elt ziii v.1 (r2).toNat).2.2.1)) Dt.fail)) Dt.fail) Dt.fail)) Dt.fail)
theorem q2y9 C v:q40s (regO (qcy f78) 2) true (an [4,5]) q2y3 q2y8 q2y7 C v:=rgI (by kernel_rfl)
def q2ya (d:Nat) (x:q2xp):Option q2xq :=
 (q2y0 (q2xu d) (x.1.1,x.2.1.1,x.2.1.2.1)).eval fun y0 =>
 (q2y4 (q2xu d) y0).eval fun y1 =>
 (q2y8 (q2xu d) y1).eval fun y2 =>
 some y2
theorem q2yb (d:Nat):COK prog (q2xs (q2ya d)):=by
 have hm:prog.follows .mixedOrders=true:=qjt
 have hT:=tys
 have hC0:OrcOK prog (orc (q2xv (q2xu d))):=qcs (by
  intro S hS
  simp only [q2xv,List.mem_cons,List.not_mem_nil,or_false] at hS
  rcases hS with rfl | rfl
  · exact qq5 d
  · exact qwv d)
 have hC:OrcOK prog (orc (q2xv (q2xu d))):=hC0
 refine q8e (c:=qcy f78) (fn:=f78) hT (by kernel_rfl) (by kernel_rfl) (by decide) fun x r h w0 φ0 Q hend=>?_
 replace h:q2ya d x=some r:=h
 unfold q2ya at h
 show Run prog w0 φ0 31 (qcy f78) ⟨[(0,.agg [.fz Riii x.1.1]),(1,.agg [.int .i64 x.2.1.1,.int .i64 x.2.1.2.1])],[]⟩ Q
 refine q3yx hm hT hC (q2y1 (q2xu d) (x.1.1,x.2.1.1,x.2.1.2.1)) h fun y0 h=>?_
 refine q3yx hm hT hC (q2y5 (q2xu d) y0) h fun y1 h=>?_
 refine q3yx hm hT hC (q2y9 (q2xu d) y1) h fun y2 h=>?_
 refine q7x ?_
 cases h
 exact (hend _ (by kernel_rfl)).2
abbrev q2yc:List Pk:=[.row qjb true,.row Rii true]
abbrev q2yd:Type:=qjc×Dii×Unit
abbrev q2ye:Type:=Int×Int×Int
def q2yf (r:q2ye):LV×List Ob:=(.tup [.int .i64 r.1,.int .i64 r.2.1,.int .i64 r.2.2],[])
def q2yg (F:q2yd→Option q2ye):Go.Tx.Spec:=⟨27,q2yc,q2ye,F,q2yf⟩
abbrev q2yh:Type:=(q2wp→Option q2wq)×(q2xp→Option q2xq)×Unit
def q2yi (d:Nat):q2yh:=(q2xm d,q2ya d,())
def q2yj (C:q2yh):List Go.Tx.Spec:=[q2ws C.1,q2xs C.2.1]
abbrev q2yk:Type:=List Diii×Int×Int
def q2yl (v:q2yk):St:=⟨[(0,.agg [.fz Riii v.1]),(1,.agg [i6 v.2.1,i6 v.2.2])],[]⟩
abbrev q2ym:Type:=List Diii×Int×Int
def q2yn (v:q2ym):St:=⟨[(2,.ptr 0 0),(3,.ptr 1 0)],[.cells [.fz Riii v.1],.cells [i6 v.2.1,i6 v.2.2]]⟩
def q2yo (C:q2yh) (v:q2yk):Dt q2ym:=(Dt.ret (v.1,v.2.1,v.2.2))
abbrev q40t {V Y:Type}:=@rg q2yh V Y tysT (fun C=>(orc (q2yj C))) 27
theorem q2yp C v:q40t (regO (qcy f27) 0) false [(2,(.box [.val Riii])),(3,.any)] q2yl q2yo q2yn C v:=rgI (by kernel_rfl)
abbrev q2yq:Type:=Int×List Diii×Int×Int
def q2yr (v:q2yq):St:=⟨[(2,.ptr 0 0),(3,.ptr 1 0),(7,i6 v.1)],[.cells [.fz Riii v.2.1],.cells [i6 v.2.2.1,i6 v.2.2.2]]⟩
def q2ys (C:q2yh) (v:q2ym):Dt q2yq:=(Dt.bnd (C.1 ((v.1,()),(v.2.1,v.2.2,()),(v.2.1,v.2.2,()),())) fun r1=>(Dt.ret (r1,v.1,v.2.1,v.2.2)))
theorem q2yt C v:q40t (regO (qcy f27) 1) false [(2,(.box [.val Riii])),(3,.any),(7,.any)] q2yn q2ys q2yr C v:=rgI (by kernel_rfl)
abbrev q2yu:Type:=Int×Bool×List Diii×Int×Int
def q2yv (v:q2yu):St:=⟨[(2,.ptr 0 0),(3,.ptr 1 0),(7,i6 v.1),(15,.bool v.2.1)],[.cells [.fz Riii v.2.2.1],.cells [i6 v.2.2.2.1,i6 v.2.2.2.2]]⟩
def q2yw (C:q2yh) (v:q2yq):Dt q2yu:=(Dt.ret (v.1,(v.1!=(0:Int)),v.2.1,v.2.2.1,v.2.2.2))
theorem q2yx C v:q40t (regO (qcy f27) 2) false [(2,(.box [.val Riii])),(3,.any),(7,.any),(15,.any)] q2yr q2yw q2yv C v:=rgI (by kernel_rfl)
abbrev q2yy:Type:=Int×Int×Int
def q2yz (v:q2yy):St:=⟨[(4,i6 v.1),(5,i6 v.2.1),(6,i6 v.2.2)],[]⟩
def q2z0 (C:q2yh) (v:q2yu):Dt q2yy:=(Dt.ret ((0:Int),(0:Int),v.1))
theorem q2z1 C v:q40t (regO (qcy f27) 3) false (an [4,5,6]) q2yv q2z0 q2yz C v:=rgI (by kernel_rfl)
abbrev q2z2:Type:=Int×Int×Int×Int×Int×Int
def q2z3 (v:q2z2):St:=⟨[(8,.ptr 0 0),(9,.ptr 1 0)],[.cells [i6 v.1,i6 v.2.1,i6 v.2.2.1],.cells [i6 v.2.2.2.1,i6 v.2.2.2.2.1,i6 v.2.2.2.2.2]]⟩
def q2z4 (C:q2yh) (v:q2yu):Dt q2z2:=(Dt.bnd (C.2.1 ((v.2.2.1,()),(v.2.2.2.1,v.2.2.2.2,()),())) fun r1=>(Dt.ret (r1.1,r1.2.1,r1.2.2.1,r1.2.2.2.1,r1.2.2.2.2.1,r1.2.2.2.2.2)))
theorem q2z5 C v:q40t (regO (qcy f27) 4) false (an [8,9]) q2yv q2z4 q2z3 C v:=rgI (by kernel_rfl)
def q2z6 (C:q2yh) (v:q2z2):Dt q2yy:=(Dt.ret (v.1,v.2.2.2.1,(0:Int)))
theorem q2z7 C v:q40t (regO (qcy f27) 5) true (an [4,5,6]) q2z3 q2z6 q2yz C v:=rgI (by kernel_rfl)
def q2z8 (d:Nat) (x:q2yd):Option q2ye :=
 (q2yo (q2yi d) (x.1.1,x.2.1.1,x.2.1.2.1)).eval fun y0 =>
 (q2ys (q2yi d) y0).eval fun y1 =>
 (q2yw (q2yi d) y1).eval fun y2 =>
 bif y2.2.1 then ((q2z0 (q2yi d) y2).eval fun y3 =>
 some y3) else ((q2z4 (q2yi d) y2).eval fun y4 =>
 (q2z6 (q2yi d) y4).eval fun y5 =>
 some y5)
theorem q2z9 (d:Nat):COK prog (q2yg (q2z8 d)):=by
 have hm:prog.follows .mixedOrders=true:=qjt
 have hT:=tys
 have hC0:OrcOK prog (orc (q2yj (q2yi d))):=qcs (by
  intro S hS
  simp only [q2yj,List.mem_cons,List.not_mem_nil,or_false] at hS
  rcases hS with rfl | rfl
  · exact q2xn d
  · exact q2yb d)
 have hC:OrcOK prog (orc (q2yj (q2yi d))):=hC0
 refine q8e (c:=qcy f27) (fn:=f27) hT (by kernel_rfl) (by kernel_rfl) (by decide) fun x r h w0 φ0 Q hend=>?_
 replace h:q2z8 d x=some r:=h
 unfold q2z8 at h
 show Run prog w0 φ0 27 (qcy f27) ⟨[(0,.agg [.fz Riii x.1.1]),(1,.agg [.int .i64 x.2.1.1,.int .i64 x.2.1.2.1])],[]⟩ Q
 refine q3yx hm hT hC (q2yp (q2yi d) (x.1.1,x.2.1.1,x.2.1.2.1)) h fun y0 h=>?_
 refine q7y ?_
 refine q3yx hm hT hC (q2yt (q2yi d) y0) h fun y1 h=>?_
 refine q3yx hm hT hC (q2yx (q2yi d) y1) h fun y2 h=>?_
 refine q82 (v:=y2.2.1) (by kernel_rfl) h ?_ ?_
 ·
  intro h
  refine q3yx hm hT hC (q2z1 (q2yi d) y2) h fun y3 h=>?_
  refine q7x (q7m ?_)
  cases h
  exact (hend _ (by kernel_rfl)).2
 ·
  intro h
  refine q7u (q7k ?_)
  refine q3yx hm hT hC (q2z5 (q2yi d) y2) h fun y4 h=>?_
  refine q3yx hm hT hC (q2z7 (q2yi d) y4) h fun y5 h=>?_
  refine q7x ?_
  cases h
  exact (hend _ (by kernel_rfl)).2
abbrev q2za:List Pk:=[.row Riii true,.row Riii true,.row Rii true]
abbrev q2zb:Type:=Diii×Diii×Dii×Unit
abbrev q2zc:Type:=Int×Int×Int
def q2zd (r:q2zc):LV×List Ob:=(.tup [.agg [.int .i64 r.1,.int .i64 r.2.1],.int .i64 r.2.2],[])
def q2ze (F:q2zb→Option q2zc):Go.Tx.Spec:=⟨44,q2za,q2zc,F,q2zd⟩
abbrev q2zf:Type:=(q228→Option q229)×(q25c→Option q25d)×Unit
def q2zg (d:Nat):q2zf:=(q22v d,q26d d,())
def q2zh (C:q2zf):List Go.Tx.Spec:=[q22b C.1,q25f C.2.1]
abbrev q2zi:Type:=Int×Int×Int×Int×Int×Int×Int×Int
def q2zj (v:q2zi):St:=⟨[(0,.agg [i6 v.1,i6 v.2.1,i6 v.2.2.1]),(1,.agg [i6 v.2.2.2.1,i6 v.2.2.2.2.1,i6 v.2.2.2.2.2.1]),(2,.agg [i6 v.2.2.2.2.2.2.1,i6 v.2.2.2.2.2.2.2])],[]⟩
abbrev q2zk:Type:=Int×Int×Int×Int×Int×Int×Int×Int×Int×Int
def q2zl (v:q2zk):St:=⟨[(3,.ptr 0 0),(4,.ptr 1 0),(5,.ptr 2 0),(6,.ptr 3 0)],[.cells [i6 v.1,i6 v.2.1,i6 v.2.2.1],.cells [i6 v.2.2.2.1,i6 v.2.2.2.2.1,i6 v.2.2.2.2.2.1],.cells [i6 v.2.2.2.2.2.2.1,i6 v.2.2.2.2.2.2.2.1],.cells [i6 v.2.2.2.2.2.2.2.2.1,i6 v.2.2.2.2.2.2.2.2.2]]⟩
def q2zm (C:q2zf) (v:q2zi):Dt q2zk:=(Dt.ret (v.1,v.2.1,v.2.2.1,v.2.2.2.1,v.2.2.2.2.1,v.2.2.2.2.2.1,v.2.2.2.2.2.2.1,v.2.2.2.2.2.2.2,(0:Int),(0:Int)))
abbrev q40u {V Y:Type}:=@rg q2zf V Y tysT (fun C=>(orc (q2zh C))) 36
theorem q2zn C v:q40u (regO (qcy f44) 0) false (an [3,4,5,6]) q2zj q2zm q2zl C v:=rgI (by kernel_rfl)
abbrev q2zo:Type:=Int×Int×Int×Int×Int×Int×Int×Int×Int×Int
def q2zp (v:q2zo):St:=⟨[(4,.ptr 0 0),(5,.ptr 1 0),(6,.ptr 2 0),(8,.ptr 3 0),(9,i6 v.1)],[.cells [i6 v.2.1,i6 v.2.2.1,i6 v.2.2.2.1],.cells [i6 v.2.2.2.2.1,i6 v.2.2.2.2.2.1],.cells [i6 v.2.2.2.2.2.2.1,i6 v.2.2.2.2.2.2.2.1],.cells [i6 v.2.2.2.2.2.2.2.2.1,i6 v.2.2.2.2.2.2.2.2.2]]⟩
def q2zq (C:q2zf) (v:q2zk):Dt q2zo:=(Dt.bnd (C.2.1 ((v.1,v.2.1,v.2.2.1,()),(v.2.2.2.2.2.2.1,v.2.2.2.2.2.2.2.1,()),())) fun r1=>(Dt.ret (r1.2.2,v.2.2.2.1,v.2.2.2.2.1,v.2.2.2.2.2.1,v.2.2.2.2.2.2.1,v.2.2.2.2.2.2.2.1,v.2.2.2.2.2.2.2.2.1,v.2.2.2.2.2.2.2.2.2,r1.1,r1.2.1)))
theorem q2zr C v:q40u (regO (qcy f44) 1) false (an [4,5,6,8,9]) q2zl q2zq q2zp C v:=rgI (by kernel_rfl)
abbrev q2zs:Type:=Int×Bool×Int×Int×Int×Int×Int×Int×Int×Int×Int
def q2zt (v:q2zs):St:=⟨[(4,.ptr 0 0),(5,.ptr 1 0),(6,.ptr 2 0),(8,.ptr 3 0),(9,i6 v.1),(18,.bool v.2.1)],[.cells [i6 v.2.2.1,i6 v.2.2.2.1,i6 v.2.2.2.2.1],.cells [i6 v.2.2.2.2.2.1,i6 v.2.2.2.2.2.2.1],.cells [i6 v.2.2.2.2.2.2.2.1,i6 v.2.2.2.2.2.2.2.2.1],.cells [i6 v.2.2.2.2.2.2.2.2.2.1,i6 v.2.2.2.2.2.2.2.2.2.2]]⟩
def q2zu (C:q2zf) (v:q2zo):Dt q2zs:=(Dt.ret (v.1,(v.1!=(0:Int)),v.2.1,v.2.2.1,v.2.2.2.1,v.2.2.2.2.1,v.2.2.2.2.2.1,v.2.2.2.2.2.2.1,v.2.2.2.2.2.2.2.1,v.2.2.2.2.2.2.2.2.1,v.2.2.2.2.2.2.2.2.2))
theorem q2zv C v:q40u (regO (qcy f44) 2) false (an [4,5,6,8,9,18]) q2zp q2zu q2zt C v:=rgI (by kernel_rfl)
abbrev q2zw:Type:=Int×Int×Int
def q2zx (v:q2zw):St:=⟨[(6,.ptr 0 0),(7,i6 v.1)],[.cells [i6 v.2.1,i6 v.2.2]]⟩
def q2zy (C:q2zf) (v:q2zs):Dt q2zw:=(Dt.ret (v.1,(0:Int),(0:Int)))
theorem q2zz C v:q40u (regO (qcy f44) 3) false (an [6,7]) q2zt q2zy q2zx C v:=rgI (by kernel_rfl)
abbrev q300:Type:=Int×Int×Int×Int×Int×Int×Int
def q301 (v:q300):St:=⟨[(6,.ptr 0 0),(8,.ptr 1 0),(9,i6 v.1),(10,.ptr 2 0)],[.cells [i6 v.2.1,i6 v.2.2.1],.cells [i6 v.2.2.2.1,i6 v.2.2.2.2.1],.cells [i6 v.2.2.2.2.2.1,i6 v.2.2.2.2.2.2]]⟩
def q302 (C:q2zf) (v:q2zs):Dt q300:=(Dt.bnd (C.2.1 ((v.2.2.1,v.2.2.2.1,v.2.2.2.2.1,()),(v.2.2.2.2.2.1,v.2.2.2.2.2.2.1,()),())) fun r1=>(Dt.ret (r1.2.2,v.2.2.2.2.2.2.2.1,v.2.2.2.2.2.2.2.2.1,v.2.2.2.2.2.2.2.2.2.1,v.2.2.2.2.2.2.2.2.2.2,r1.1,r1.2.1)))
theorem q303 C v:q40u (regO (qcy f44) 4) false (an [6,8,9,10]) q2zt q302 q301 C v:=rgI (by kernel_rfl)
abbrev q304:Type:=Int×Bool×Int×Int×Int×Int×Int×Int
def q305 (v:q304):St:=⟨[(6,.ptr 0 0),(8,.ptr 1 0),(9,i6 v.1),(10,.ptr 2 0),(28,.bool v.2.1)],[.cells [i6 v.2.2.1,i6 v.2.2.2.1],.cells [i6 v.2.2.2.2.1,i6 v.2.2.2.2.2.1],.cells [i6 v.2.2.2.2.2.2.1,i6 v.2.2.2.2.2.2.2]]⟩
def q306 (C:q2zf) (v:q300):Dt q304:=(Dt.ret (v.1,(v.1!=(0:Int)),v.2.1,v.2.2.1,v.2.2.2.1,v.2.2.2.2.1,v.2.2.2.2.2.1,v.2.2.2.2.2.2))
theorem q307 C v:q40u (regO (qcy f44) 5) false (an [6,8,9,10,28]) q301 q306 q305 C v:=rgI (by kernel_rfl)
def q308 (C:q2zf) (v:q304):Dt q2zw:=(Dt.ret (v.1,(0:Int),(0:Int)))
theorem q309 C v:q40u (regO (qcy f44) 6) false (an [6,7]) q305 q308 q2zx C v:=rgI (by kernel_rfl)
def q30a (C:q2zf) (v:q304):Dt q2zw:=(Dt.bnd (C.1 ((v.2.2.2.2.1,v.2.2.2.2.2.1,()),(v.2.2.2.2.2.2.1,v.2.2.2.2.2.2.2,()),())) fun r1=>(Dt.ret (r1.2.2,r1.1,r1.2.1)))
theorem q30b C v:q40u (regO (qcy f44) 7) false (an [6,7]) q305 q30a q2zx C v:=rgI (by kernel_rfl)
def q30c (d:Nat) (x:q2zb):Option q2zc :=
 (q2zm (q2zg d) (x.1.1,x.1.2.1,x.1.2.2.1,x.2.1.1,x.2.1.2.1,x.2.1.2.2.1,x.2.2.1.1,x.2.2.1.2.1)).eval fun y0 =>
 (q2zq (q2zg d) y0).eval fun y1 =>
 (q2zu (q2zg d) y1).eval fun y2 =>
 bif y2.2.1 then ((q2zy (q2zg d) y2).eval fun y3 =>
 some (y3.2.1,y3.2.2,y3.1)) else ((q302 (q2zg d) y2).eval fun y4 =>
 (q306 (q2zg d) y4).eval fun y5 =>
 bif y5.2.1 then ((q308 (q2zg d) y5).eval fun y6 =>
 some (y6.2.1,y6.2.2,y6.1)) else ((q30a (q2zg d) y5).eval fun y7 =>
 some (y7.2.1,y7.2.2,y7.1)))
theorem q30d (d:Nat):COK prog (q2ze (q30c d)):=by
 have hm:prog.follows .mixedOrders=true:=qjt
 have hT:=tys
 have hC0:OrcOK prog (orc (q2zh (q2zg d))):=qcs (by
  intro S hS
  simp only [q2zh,List.mem_cons,List.not_mem_nil,or_false] at hS
  rcases hS with rfl | rfl
  · exact q22w d
  · exact q26e d)
 have hC:OrcOK prog (orc (q2zh (q2zg d))):=hC0
 refine q8e (c:=qcy f44) (fn:=f44) hT (by kernel_rfl) (by kernel_rfl) (by decide) fun x r h w0 φ0 Q hend=>?_
 replace h:q30c d x=some r:=h
 unfold q30c at h
 show Run prog w0 φ0 36 (qcy f44) ⟨[(0,.agg [.int .i64 x.1.1,.int .i64 x.1.2.1,.int .i64 x.1.2.2.1]),(1,.agg [.int .i64 x.2.1.1,.int .i64 x.2.1.2.1,.int .i64 x.2.1.2.2.1]),(2,.agg [.int .i64 x.2.2.1.1,.int .i64 x.2.2.1.2.1])],[]⟩ Q
 refine q3yx hm hT hC (q2zn (q2zg d) (x.1.1,x.1.2.1,x.1.2.2.1,x.2.1.1,x.2.1.2.1,x.2.1.2.2.1,x.2.2.1.1,x.2.2.1.2.1)) h fun y0 h=>?_
 refine q3yx hm hT hC (q2zr (q2zg d) y0) h fun y1 h=>?_
 refine q7y ?_
 refine q3yx hm hT hC (q2zv (q2zg d) y1) h fun y2 h=>?_
 refine q82 (v:=y2.2.1) (by kernel_rfl) h ?_ ?_
 ·
  intro h
  refine q3yx hm hT hC (q2zz (q2zg d) y2) h fun y3 h=>?_
  refine q7x (q7m ?_)
  cases h
  exact (hend _ (by kernel_rfl)).2
 ·
  intro h
  refine q7u (q7k ?_)
  refine q3yx hm hT hC (q303 (q2zg d) y2) h fun y4 h=>?_
  refine q7y ?_
  refine q3yx hm hT hC (q307 (q2zg d) y4) h fun y5 h=>?_
  refine q82 (v:=y5.2.1) (by kernel_rfl) h ?_ ?_
  ·
   intro h
   refine q3yx hm hT hC (q309 (q2zg d) y5) h fun y6 h=>?_
   refine q7x (q7m ?_)
   cases h
   exact (hend _ (by kernel_rfl)).2
  ·
   intro h
   refine q7u (q7k ?_)
   refine q3yx hm hT hC (q30b (q2zg d) y5) h fun y7 h=>?_
   refine q7x ?_
   cases h
   exact (hend _ (by kernel_rfl)).2
abbrev q30e:List Pk:=[.row qjb true,.row Rii true]
abbrev q30f:Type:=qjc×Dii×Unit
abbrev q30g:Type:=Int×Int×Int
def q30h (r:q30g):LV×List Ob:=(.tup [.agg [.int .i64 r.1,.int .i64 r.2.1],.int .i64 r.2.2],[])
def q30i (F:q30f→Option q30g):Go.Tx.Spec:=⟨29,q30e,q30g,F,q30h⟩
abbrev q30j:Type:=(q2zb→Option q2zc)×(q2wp→Option q2wq)×(q2xp→Option q2xq)×Unit
def q30k (d:Nat):q30j:=(q30c d,q2xm d,q2ya d,())
def q30l (C:q30j):List Go.Tx.Spec:=[q2ze C.1,q2ws C.2.1,q2xs C.2.2.1]
abbrev q30m:Type:=List Diii×Int×Int
def q30n (v:q30m):St:=⟨[(0,.agg [.fz Riii v.1]),(1,.agg [i6 v.2.1,i6 v.2.2])],[]⟩
abbrev q30o:Type:=List Diii×Int×Int×Int×Int
def q30p (v:q30o):St:=⟨[(2,.ptr 0 0),(3,.ptr 1 0),(4,.ptr 2 0)],[.cells [.fz Riii v.1],.cells [i6 v.2.1,i6 v.2.2.1],.cells [i6 v.2.2.2.1,i6 v.2.2.2.2]]⟩
def q30q (C:q30j) (v:q30m):Dt q30o:=(Dt.ret (v.1,v.2.1,v.2.2,(0:Int),(0:Int)))
abbrev q40v {V Y:Type}:=@rg q30j V Y tysT (fun C=>(orc (q30l C))) 29
theorem q30r C v:q40v (regO (qcy f29) 0) false [(2,(.box [.val Riii])),(3,.any),(4,.any)] q30n q30q q30p C v:=rgI (by kernel_rfl)
abbrev q30s:Type:=Int×List Diii×Int×Int×Int×Int
def q30t (v:q30s):St:=⟨[(2,.ptr 0 0),(3,.ptr 1 0),(4,.ptr 2 0),(6,i6 v.1)],[.cells [.fz Riii v.2.1],.cells [i6 v.2.2.1,i6 v.2.2.2.1],.cells [i6 v.2.2.2.2.1,i6 v.2.2.2.2.2]]⟩
def q30u (C:q30j) (v:q30o):Dt q30s:=(Dt.bnd (C.2.1 ((v.1,()),(v.2.1,v.2.2.1,()),(v.2.1,v.2.2.1,()),())) fun r1=>(Dt.ret (r1,v.1,v.2.1,v.2.2.1,v.2.2.2.1,v.2.2.2.2)))
theorem q30v C v:q40v (regO (qcy f29) 1) false [(2,(.box [.val Riii])),(3,.any),(4,.any),(6,.any)] q30p q30u q30t C v:=rgI (by kernel_rfl)
abbrev q30w:Type:=Int×Bool×List Diii×Int×Int×Int×Int
def q30x (v:q30w):St:=⟨[(2,.ptr 0 0),(3,.ptr 1 0),(4,.ptr 2 0),(6,i6 v.1),(14,.bool v.2.1)],[.cells [.fz Riii v.2.2.1],.cells [i6 v.2.2.2.1,i6 v.2.2.2.2.1],.cells [i6 v.2.2.2.2.2.1,i6 v.2.2.2.2.2.2]]⟩
def q30y (C:q30j) (v:q30s):Dt q30w:=(Dt.ret (v.1,(v.1!=(0:Int)),v.2.1,v.2.2.1,v.2.2.2.1,v.2.2.2.2.1,v.2.2.2.2.2))
theorem q30z C v:q40v (regO (qcy f29) 2) false [(2,(.box [.val Riii])),(3,.any),(4,.any),(6,.any),(14,.any)] q30t q30y q30x C v:=rgI (by kernel_rfl)
abbrev q310:Type:=Int×Int×Int
def q311 (v:q310):St:=⟨[(4,.ptr 0 0),(5,i6 v.1)],[.cells [i6 v.2.1,i6 v.2.2]]⟩
def q312 (C:q30j) (v:q30w):Dt q310:=(Dt.ret (v.1,(0:Int),(0:Int)))
theorem q313 C v:q40v (regO (qcy f29) 3) false (an [4,5]) q30x q312 q311 C v:=rgI (by kernel_rfl)
abbrev q314:Type:=Int×Int×Int×Int×Int×Int×Int×Int×Int×Int
def q315 (v:q314):St:=⟨[(3,.ptr 0 0),(4,.ptr 1 0),(7,.ptr 2 0),(8,.ptr 3 0)],[.cells [i6 v.1,i6 v.2.1],.cells [i6 v.2.2.1,i6 v.2.2.2.1],.cells [i6 v.2.2.2.2.1,i6 v.2.2.2.2.2.1,i6 v.2.2.2.2.2.2.1],.cells [i6 v.2.2.2.2.2.2.2.1,i6 v.2.2.2.2.2.2.2.2.1,i6 v.2.2.2.2.2.2.2.2.2]]⟩
def q316 (C:q30j) (v:q30w):Dt q314:=(Dt.bnd (C.2.2.1 ((v.2.2.1,()),(v.2.2.2.1,v.2.2.2.2.1,()),())) fun r1=>(Dt.ret (v.2.2.2.1,v.2.2.2.2.1,v.2.2.2.2.2.1,v.2.2.2.2.2.2,r1.1,r1.2.1,r1.2.2.1,r1.2.2.2.1,r1.2.2.2.2.1,r1.2.2.2.2.2)))
theorem q317 C v:q40v (regO (qcy f29) 4) false (an [3,4,7,8]) q30x q316 q315 C v:=rgI (by kernel_rfl)
def q318 (C:q30j) (v:q314):Dt q310:=(Dt.bnd (C.1 ((v.2.2.2.2.1,v.2.2.2.2.2.1,v.2.2.2.2.2.2.1,()),(v.2.2.2.2.2.2.2.1,v.2.2.2.2.2.2.2.2.1,v.2.2.2.2.2.2.2.2.2,()),(v.1,v.2.1,()),())) fun r1=>(Dt.ret (r1.2.2,r1.1,r1.2.1)))
theorem q319 C v:q40v (regO (qcy f29) 5) false (an [4,5]) q315 q318 q311 C v:=rgI (by kernel_rfl)
def q31a (d:Nat) (x:q30f):Option q30g :=
 (q30q (q30k d) (x.1.1,x.2.1.1,x.2.1.2.1)).eval fun y0 =>
 (q30u (q30k d) y0).eval fun y1 =>
 (q30y (q30k d) y1).eval fun y2 =>
 bif y2.2.1 then ((q312 (q30k d) y2).eval fun y3 =>
 some (y3.2.1,y3.2.2,y3.1)) else ((q316 (q30k d) y2).eval fun y4 =>
 (q318 (q30k d) y4).eval fun y5 =>
 some (y5.2.1,y5.2.2,y5.1))
theorem q31b (d:Nat):COK prog (q30i (q31a d)):=by
 have hm:prog.follows .mixedOrders=true:=qjt
 have hT:=tys
 have hC0:OrcOK prog (orc (q30l (q30k d))):=qcs (by
  intro S hS
  simp only [q30l,List.mem_cons,List.not_mem_nil,or_false] at hS
  rcases hS with rfl | rfl | rfl
  · exact q30d d
  · exact q2xn d
  · exact q2yb d)
 have hC:OrcOK prog (orc (q30l (q30k d))):=hC0
 refine q8e (c:=qcy f29) (fn:=f29) hT (by kernel_rfl) (by kernel_rfl) (by decide) fun x r h w0 φ0 Q hend=>?_
 replace h:q31a d x=some r:=h
 unfold q31a at h
 show Run prog w0 φ0 29 (qcy f29) ⟨[(0,.agg [.fz Riii x.1.1]),(1,.agg [.int .i64 x.2.1.1,.int .i64 x.2.1.2.1])],[]⟩ Q
 refine q3yx hm hT hC (q30r (q30k d) (x.1.1,x.2.1.1,x.2.1.2.1)) h fun y0 h=>?_
 refine q7y ?_
 refine q3yx hm hT hC (q30v (q30k d) y0) h fun y1 h=>?_
 refine q3yx hm hT hC (q30z (q30k d) y1) h fun y2 h=>?_
 refine q82 (v:=y2.2.1) (by kernel_rfl) h ?_ ?_
 ·
  intro h
  refine q3yx hm hT hC (q313 (q30k d) y2) h fun y3 h=>?_
  refine q7x (q7m ?_)
  cases h
  exact (hend _ (by kernel_rfl)).2
 ·
  intro h
  refine q7u (q7k ?_)
  refine q3yx hm hT hC (q317 (q30k d) y2) h fun y4 h=>?_
  refine q3yx hm hT hC (q319 (q30k d) y4) h fun y5 h=>?_
  refine q7x ?_
  cases h
  exact (hend _ (by kernel_rfl)).2
abbrev q31c:List Pk:=[.row qjb true,.row Rii true]
abbrev q31d:Type:=qjc×Dii×Unit
abbrev q31e:Type:=Int
def q31f (r:q31e):LV×List Ob:=(.int .i64 r,[])
def q31g (F:q31d→Option q31e):Go.Tx.Spec:=⟨79,q31c,q31e,F,q31f⟩
abbrev q31h:Type:=(q2xp→Option q2xq)×Unit
def q31i (d:Nat):q31h:=(q2ya d,())
def q31j (C:q31h):List Go.Tx.Spec:=[q2xs C.1]
abbrev q31k:Type:=List Diii×Int×Int
def q31l (v:q31k):St:=⟨[(0,.agg [.fz Riii v.1]),(1,.agg [i6 v.2.1,i6 v.2.2])],[]⟩
abbrev q31m:Type:=List Diii×Int×Int
def q31n (v:q31m):St:=⟨[(2,.ptr 0 0),(3,.ptr 1 0)],[.cells [.fz Riii v.1],.cells [i6 v.2.1,i6 v.2.2]]⟩
def q31o (C:q31h) (v:q31k):Dt q31m:=(Dt.ret (v.1,v.2.1,v.2.2))
abbrev q40w {V Y:Type}:=@rg q31h V Y tysT (fun C=>(orc (q31j C))) 18
theorem q31p C v:q40w (regO (qcy f79) 0) false [(2,(.box [.val Riii])),(3,.any)] q31l q31o q31n C v:=rgI (by kernel_rfl)
abbrev q31q:Type:=Int×Int×Int×Int×Int×Int
def q31r (v:q31q):St:=⟨[(5,.ptr 0 0),(6,.ptr 1 0)],[.cells [i6 v.1,i6 v.2.1,i6 v.2.2.1],.cells [i6 v.2.2.2.1,i6 v.2.2.2.2.1,i6 v.2.2.2.2.2]]⟩
def q31s (C:q31h) (v:q31m):Dt q31q:=(Dt.bnd (C.1 ((v.1,()),(v.2.1,v.2.2,()),())) fun r1=>(Dt.ret (r1.1,r1.2.1,r1.2.2.1,r1.2.2.2.1,r1.2.2.2.2.1,r1.2.2.2.2.2)))
theorem q31t C v:q40w (regO (qcy f79) 1) false (an [5,6]) q31n q31s q31r C v:=rgI (by kernel_rfl)
abbrev q31u:Type:=Int
def q31v (v:q31u):St:=⟨[(4,i6 v)],[]⟩
def q31w (C:q31h) (v:q31q):Dt q31u:=(Dt.ret (IntKind.wrap .i64 (v.2.2.1 - v.2.2.2.2.2)))
theorem q31x C v:q40w (regO (qcy f79) 2) false [(4,.any)] q31r q31w q31v C v:=rgI (by kernel_rfl)
def q31y (d:Nat) (x:q31d):Option q31e :=
 (q31o (q31i d) (x.1.1,x.2.1.1,x.2.1.2.1)).eval fun y0 =>
 (q31s (q31i d) y0).eval fun y1 =>
 (q31w (q31i d) y1).eval fun y2 =>
 some y2
theorem q31z (d:Nat):COK prog (q31g (q31y d)):=by
 have hm:prog.follows .mixedOrders=true:=qjt
 have hT:=tys
 have hC0:OrcOK prog (orc (q31j (q31i d))):=qcs (by
  intro S hS
  simp only [q31j,List.mem_cons,List.not_mem_nil,or_false] at hS
  subst hS;exact q2yb d)
 have hC:OrcOK prog (orc (q31j (q31i d))):=hC0
 refine q8e (c:=qcy f79) (fn:=f79) hT (by kernel_rfl) (by kernel_rfl) (by decide) fun x r h w0 φ0 Q hend=>?_
 replace h:q31y d x=some r:=h
 unfold q31y at h
 show Run prog w0 φ0 18 (qcy f79) ⟨[(0,.agg [.fz Riii x.1.1]),(1,.agg [.int .i64 x.2.1.1,.int .i64 x.2.1.2.1])],[]⟩ Q
 refine q3yx hm hT hC (q31p (q31i d) (x.1.1,x.2.1.1,x.2.1.2.1)) h fun y0 h=>?_
 refine q3yx hm hT hC (q31t (q31i d) y0) h fun y1 h=>?_
 refine q3yx hm hT hC (q31x (q31i d) y1) h fun y2 h=>?_
 refine q7x ?_
 cases h
 exact (hend _ (by kernel_rfl)).2
abbrev q320:List Pk:=[.row qjb true,.row Rii true]
abbrev q321:Type:=qjc×Dii×Unit
abbrev q322:Type:=Int×Int
def q323 (r:q322):LV×List Ob:=(.tup [.int .i64 r.1,.int .i64 r.2],[])
def q324 (F:q321→Option q322):Go.Tx.Spec:=⟨31,q320,q322,F,q323⟩
abbrev q325:Type:=(q2wp→Option q2wq)×(q31d→Option q31e)×Unit
def q326 (d:Nat):q325:=(q2xm d,q31y d,())
def q327 (C:q325):List Go.Tx.Spec:=[q2ws C.1,q31g C.2.1]
abbrev q328:Type:=List Diii×Int×Int
def q329 (v:q328):St:=⟨[(0,.agg [.fz Riii v.1]),(1,.agg [i6 v.2.1,i6 v.2.2])],[]⟩
abbrev q32a:Type:=List Diii×Int×Int
def q32b (v:q32a):St:=⟨[(2,.ptr 0 0),(3,.ptr 1 0)],[.cells [.fz Riii v.1],.cells [i6 v.2.1,i6 v.2.2]]⟩
def q32c (C:q325) (v:q328):Dt q32a:=(Dt.ret (v.1,v.2.1,v.2.2))
abbrev q40x {V Y:Type}:=@rg q325 V Y tysT (fun C=>(orc (q327 C))) 17
theorem q32d C v:q40x (regO (qcy f31) 0) false [(2,(.box [.val Riii])),(3,.any)] q329 q32c q32b C v:=rgI (by kernel_rfl)
abbrev q32e:Type:=Int×List Diii×Int×Int
def q32f (v:q32e):St:=⟨[(2,.ptr 0 0),(3,.ptr 1 0),(6,i6 v.1)],[.cells [.fz Riii v.2.1],.cells [i6 v.2.2.1,i6 v.2.2.2]]⟩
def q32g (C:q325) (v:q32a):Dt q32e:=(Dt.bnd (C.1 ((v.1,()),(v.2.1,v.2.2,()),(v.2.1,v.2.2,()),())) fun r1=>(Dt.ret (r1,v.1,v.2.1,v.2.2)))
theorem q32h C v:q40x (regO (qcy f31) 1) false [(2,(.box [.val Riii])),(3,.any),(6,.any)] q32b q32g q32f C v:=rgI (by kernel_rfl)
abbrev q32i:Type:=Int×Bool×List Diii×Int×Int
def q32j (v:q32i):St:=⟨[(2,.ptr 0 0),(3,.ptr 1 0),(6,i6 v.1),(12,.bool v.2.1)],[.cells [.fz Riii v.2.2.1],.cells [i6 v.2.2.2.1,i6 v.2.2.2.2]]⟩
def q32k (C:q325) (v:q32e):Dt q32i:=(Dt.ret (v.1,(v.1!=(0:Int)),v.2.1,v.2.2.1,v.2.2.2))
theorem q32l C v:q40x (regO (qcy f31) 2) false [(2,(.box [.val Riii])),(3,.any),(6,.any),(12,.any)] q32f q32k q32j C v:=rgI (by kernel_rfl)
abbrev q32m:Type:=Int×Int
def q32n (v:q32m):St:=⟨[(4,i6 v.1),(5,i6 v.2)],[]⟩
def q32o (C:q325) (v:q32i):Dt q32m:=(Dt.ret ((0:Int),v.1))
theorem q32p C v:q40x (regO (qcy f31) 3) false (an [4,5]) q32j q32o q32n C v:=rgI (by kernel_rfl)
def q32q (C:q325) (v:q32i):Dt q32m:=(Dt.bnd (C.2.1 ((v.2.2.1,()),(v.2.2.2.1,v.2.2.2.2,()),())) fun r1=>(Dt.ret (r1,(0:Int))))
theorem q32r C v:q40x (regO (qcy f31) 4) false (an [4,5]) q32j q32q q32n C v:=rgI (by kernel_rfl)
def q32s (d:Nat) (x:q321):Option q322 :=
 (q32c (q326 d) (x.1.1,x.2.1.1,x.2.1.2.1)).eval fun y0 =>
 (q32g (q326 d) y0).eval fun y1 =>
 (q32k (q326 d) y1).eval fun y2 =>
 bif y2.2.1 then ((q32o (q326 d) y2).eval fun y3 =>
 some y3) else ((q32q (q326 d) y2).eval fun y4 =>
 some y4)
theorem q32t (d:Nat):COK prog (q324 (q32s d)):=by
 have hm:prog.follows .mixedOrders=true:=qjt
 have hT:=tys
 have hC0:OrcOK prog (orc (q327 (q326 d))):=qcs (by
  intro S hS
  simp only [q327,List.mem_cons,List.not_mem_nil,or_false] at hS
  rcases hS with rfl | rfl
  · exact q2xn d
  · exact q31z d)
 have hC:OrcOK prog (orc (q327 (q326 d))):=hC0
 refine q8e (c:=qcy f31) (fn:=f31) hT (by kernel_rfl) (by kernel_rfl) (by decide) fun x r h w0 φ0 Q hend=>?_
 replace h:q32s d x=some r:=h
 unfold q32s at h
 show Run prog w0 φ0 17 (qcy f31) ⟨[(0,.agg [.fz Riii x.1.1]),(1,.agg [.int .i64 x.2.1.1,.int .i64 x.2.1.2.1])],[]⟩ Q
 refine q3yx hm hT hC (q32d (q326 d) (x.1.1,x.2.1.1,x.2.1.2.1)) h fun y0 h=>?_
 refine q7y ?_
 refine q3yx hm hT hC (q32h (q326 d) y0) h fun y1 h=>?_
 refine q3yx hm hT hC (q32l (q326 d) y1) h fun y2 h=>?_
 refine q82 (v:=y2.2.1) (by kernel_rfl) h ?_ ?_
 ·
  intro h
  refine q3yx hm hT hC (q32p (q326 d) y2) h fun y3 h=>?_
  refine q7x (q7m ?_)
  cases h
  exact (hend _ (by kernel_rfl)).2
 ·
  intro h
  refine q7u (q7k ?_)
  refine q3yx hm hT hC (q32r (q326 d) y2) h fun y4 h=>?_
  refine q7x ?_
  cases h
  exact (hend _ (by kernel_rfl)).2
abbrev q32u:List Pk:=[.row qjb true,.row Rii true,.row Rii true]
abbrev q32v:Type:=qjc×Dii×Dii×Unit
abbrev q32w:Type:=List Dii
def q32x (r:q32w):LV×List Ob:=(.rs 0,[.rows Rii r])
def q32y (F:q32v→Option q32w):Go.Tx.Spec:=⟨81,q32u,q32w,F,q32x⟩
abbrev q32z:Type:=(q31d→Option q31e)×(q2vf→Option q2vg)×Unit
def q330 (d:Nat):q32z:=(q31y d,q2wm d,())
def q331 (C:q32z):List Go.Tx.Spec:=[q31g C.1,q2vi C.2.1]
abbrev q332:Type:=List Diii×Int×Int×Int×Int
def q333 (v:q332):St:=⟨[(0,.agg [.fz Riii v.1]),(1,.agg [i6 v.2.1,i6 v.2.2.1]),(2,.agg [i6 v.2.2.2.1,i6 v.2.2.2.2])],[]⟩
abbrev q334:Type:=List Diii×Int×Int×Int×Int
def q335 (v:q334):St:=⟨[(3,.ptr 0 0),(4,.ptr 1 0),(5,.ptr 2 0)],[.cells [.fz Riii v.1],.cells [i6 v.2.1,i6 v.2.2.1],.cells [i6 v.2.2.2.1,i6 v.2.2.2.2]]⟩
def q336 (C:q32z) (v:q332):Dt q334:=(Dt.ret (v.1,v.2.1,v.2.2.1,v.2.2.2.1,v.2.2.2.2))
abbrev q40y {V Y:Type}:=@rg q32z V Y tysT (fun C=>(orc (q331 C))) 45
theorem q337 C v:q40y (regO (qcy f81) 0) false [(3,(.box [.val Riii])),(4,.any),(5,.any)] q333 q336 q335 C v:=rgI (by kernel_rfl)
abbrev q338:Type:=List Diii×Int×Int×Int×Int×List Dii
def q339 (v:q338):St:=⟨[(3,.ptr 0 0),(4,.ptr 1 0),(5,.ptr 2 0),(7,.rs 3)],[.cells [.fz Riii v.1],.cells [i6 v.2.1,i6 v.2.2.1],.cells [i6 v.2.2.2.1,i6 v.2.2.2.2.1],.rows Rii v.2.2.2.2.2]⟩
def q33a (C:q32z) (v:q334):Dt q338:=(Dt.ret (v.1,v.2.1,v.2.2.1,v.2.2.2.1,v.2.2.2.2,([]:List Dii)))
theorem q33b C v:q40y (regO (qcy f81) 1) false [(3,(.box [.val Riii])),(4,.any),(5,.any),(7,(.own Rii))] q335 q33a q339 C v:=rgI (by kernel_rfl)
abbrev q33c:Type:=Int×List Diii×Int×Int×Int×Int×List Dii
def q33d (v:q33c):St:=⟨[(3,.ptr 0 0),(4,.ptr 1 0),(5,.ptr 2 0),(7,.rs 3),(8,i6 v.1)],[.cells [.fz Riii v.2.1],.cells [i6 v.2.2.1,i6 v.2.2.2.1],.cells [i6 v.2.2.2.2.1,i6 v.2.2.2.2.2.1],.rows Rii v.2.2.2.2.2.2]⟩
def q33e (C:q32z) (v:q338):Dt q33c:=(Dt.bnd (C.1 ((v.1,()),(v.2.1,v.2.2.1,()),())) fun r1=>(Dt.ret (r1,v.1,v.2.1,v.2.2.1,v.2.2.2.1,v.2.2.2.2.1,v.2.2.2.2.2)))
theorem q33f C v:q40y (regO (qcy f81) 2) false [(3,(.box [.val Riii])),(4,.any),(5,.any),(7,(.own Rii)),(8,.any)] q339 q33e q33d C v:=rgI (by kernel_rfl)
abbrev q33g:Type:=Int×List Diii×List Dii×List qjf
def q33h (v:q33g):St:=⟨[(3,.ptr 0 0),(7,.rs 1),(8,i6 v.1),(9,.rs 2)],[.cells [.fz Riii v.2.1],.rows Rii v.2.2.1,.rows qje v.2.2.2]⟩
def q33i (C:q32z) (v:q33c):Dt q33g:=(Dt.bnd (C.2.1 ((v.2.1,()),(v.2.2.1,v.2.2.2.1,()),(v.2.2.2.2.1,v.2.2.2.2.2.1,()),())) fun r1=>(Dt.ret (v.1,v.2.1,v.2.2.2.2.2.2,r1)))
theorem q33j C v:q40y (regO (qcy f81) 3) false [(3,(.box [.val Riii])),(7,(.own Rii)),(8,.any),(9,(.own qje))] q33d q33i q33h C v:=rgI (by kernel_rfl)
abbrev q33k:Type:=Int×Int×List Diii×List Dii×List qjf
def q33l (v:q33k):St:=⟨[(3,.ptr 0 0),(7,.rs 1),(8,i6 v.1),(9,.rs 2),(10,i6 v.2.1)],[.cells [.fz Riii v.2.2.1],.rows Rii v.2.2.2.1,.rows qje v.2.2.2.2]⟩
def q33m (C:q32z) (v:q33g):Dt q33k:=(Dt.ret (v.1,(0:Int),v.2.1,v.2.2.1,v.2.2.2))
theorem q33n C v:q40y (regO (qcy f81) 4) false [(3,(.box [.val Riii])),(7,(.own Rii)),(8,.any),(9,(.own qje)),(10,.any)] q33h q33m q33l C v:=rgI (by kernel_rfl)
abbrev q33o:Type:=Int×Int×Bool×List Diii×List Dii×List qjf
def q33p (v:q33o):St:=⟨[(3,.ptr 0 0),(7,.rs 1),(8,i6 v.1),(9,.rs 2),(10,i6 v.2.1),(22,.bool v.2.2.1)],[.cells [.fz Riii v.2.2.2.1],.rows Rii v.2.2.2.2.1,.rows qje v.2.2.2.2.2]⟩
def q33q (C:q32z) (v:q33k):Dt q33o:=(Dt.ret (v.1,v.2.1,(decide (v.2.1<(List.length v.2.2.2.2:Int))),v.2.2.1,v.2.2.2.1,v.2.2.2.2))
theorem q33r C v:q40y (regO (qcy f81) 5) false [(3,(.box [.val Riii])),(7,(.own Rii)),(8,.any),(9,(.own qje)),(10,.any),(22,.any)] q33l q33q q33p C v:=rgI (by kernel_rfl)
abbrev q33s:Type:=Int×Int×Int×List Diii×List Dii×List qjf
def q33t (v:q33s):St:=⟨[(3,.ptr 0 0),(7,.rs 1),(8,i6 v.1),(9,.rs 2),(10,i6 v.2.1),(11,i6 v.2.2.1)],[.cells [.fz Riii v.2.2.2.1],.rows Rii v.2.2.2.2.1,.rows qje v.2.2.2.2.2]⟩
def q33u (C:q32z) (v:q33o):Dt q33s:=(Dt.ite (inB v.2.1 (List.length v.2.2.2.2.2)) (Dt.bnd (C.1 ((v.2.2.2.1,()),((elt qjg v.2.2.2.2.2 (v.2.1).toNat).1,(elt qjg v.2.2.2.2.2 (v.2.1).toNat).2.1,()),())) fun r1=>(Dt.ret (v.1,v.2.1,r1,v.2.2.2.1,v.2.2.2.2.1,v.2.2.2.2.2))) Dt.fail)
theorem q33v C v:q40y (regO (qcy f81) 7) true [(3,(.box [.val Riii])),(7,(.own Rii)),(8,.any),(9,(.own qje)),(10,.any),(11,.any)] q33p q33u q33t C v:=rgI (by kernel_rfl)
abbrev q33w:Type:=Int×Int×Int×Bool×List Diii×List Dii×List qjf
def q33x (v:q33w):St:=⟨[(3,.ptr 0 0),(7,.rs 1),(8,i6 v.1),(9,.rs 2),(10,i6 v.2.1),(11,i6 v.2.2.1),(34,.bool v.2.2.2.1)],[.cells [.fz Riii v.2.2.2.2.1],.rows Rii v.2.2.2.2.2.1,.rows qje v.2.2.2.2.2.2]⟩
def q33y (C:q32z) (v:q33s):Dt q33w:=(Dt.ret (v.1,v.2.1,v.2.2.1,(v.2.2.1!=v.1),v.2.2.2.1,v.2.2.2.2.1,v.2.2.2.2.2))
theorem q33z C v:q40y (regO (qcy f81) 8) false [(3,(.box [.val Riii])),(7,(.own Rii)),(8,.any),(9,(.own qje)),(10,.any),(11,.any),(34,.any)] q33t q33y q33x C v:=rgI (by kernel_rfl)
abbrev q340:Type:=Int×Int×List Diii×List Dii×List qjf
def q341 (v:q340):St:=⟨[(3,.ptr 0 0),(7,.rs 1),(9,.rs 2),(10,i6 v.1),(11,i6 v.2.1)],[.cells [.fz Riii v.2.2.1],.rows Rii v.2.2.2.1,.rows qje v.2.2.2.2]⟩
def q342 (C:q32z) (v:q33w):Dt q340:=(Dt.ite (inB v.2.1 (List.length v.2.2.2.2.2.2)) (Dt.ite (apB (List.length v.2.2.2.2.2.1) (List.length ([((elt qjg v.2.2.2.2.2.2 (v.2.1).toNat).1,(elt qjg v.2.2.2.2.2.2 (v.2.1).toNat).2.1,())]:List Dii))) (Dt.ret (v.2.1,v.2.2.1,v.2.2.2.2.1,(v.2.2.2.2.2.1++([((elt qjg v.2.2.2.2.2.2 (v.2.1).toNat).1,(elt qjg v.2.2.2.2.2.2 (v.2.1).toNat).2.1,())]:List Dii)),v.2.2.2.2.2.2)) Dt.fail) Dt.fail)
theorem q343 C v:q40y (regO (qcy f81) 9) false [(3,(.box [.val Riii])),(7,(.own Rii)),(9,(.own qje)),(10,.any),(11,.any)] q33x q342 q341 C v:=rgI (by kernel_rfl)
def q344 (C:q32z) (v:q340):Dt q33k:=(Dt.ret (v.2.1,v.1,v.2.2.1,v.2.2.2.1,v.2.2.2.2))
theorem q345 C v:q40y (regO (qcy f81) 10) false [(3,(.box [.val Riii])),(7,(.own Rii)),(8,.any),(9,(.own qje)),(10,.any)] q341 q344 q33l C v:=rgI (by kernel_rfl)
def q346 (C:q32z) (v:q33k):Dt q33k:=(Dt.ret (v.1,(IntKind.wrap .i64 (v.2.1+(1:Int))),v.2.2.1,v.2.2.2.1,v.2.2.2.2))
theorem q347 C v:q40y (regO (qcy f81) 6) false [(3,(.box [.val Riii])),(7,(.own Rii)),(8,.any),(9,(.own qje)),(10,.any)] q33l q346 q33l C v:=rgI (by kernel_rfl)
def q348  (d:Nat) (self1:(Int×Int×List Diii×List Dii×List qjf)→Option q32w) (z:Int×Int×List Diii×List Dii×List qjf):Option (q32w) :=
 (q346 (q330 d) z).eval fun y6 =>
 self1 y6
abbrev q349:Type:=List Dii
def q34a (v:q349):St:=⟨[(6,.rs 0)],[.rows Rii v]⟩
def q34b (C:q32z) (v:q33o):Dt q349:=(Dt.ret v.2.2.2.2.1)
theorem q34c C v:q40y (regO (qcy f81) 11) false [(6,(.own Rii))] q33p q34b q34a C v:=rgI (by kernel_rfl)
def q34d (d:Nat) (self1:(Int×Int×List Diii×List Dii×List qjf)→Option q32w) (x1:Int×Int×List Diii×List Dii×List qjf):Option q32w :=
 (q33q (q330 d) x1).eval fun y5 =>
 bif y5.2.2.1 then ((q33u (q330 d) y5).eval fun y7 =>
 (q33y (q330 d) y7).eval fun y8 =>
 bif y8.2.2.2.1 then ((q342 (q330 d) y8).eval fun y9 =>
 (q344 (q330 d) y9).eval fun y10 =>
 q348 d self1 y10) else (q348 d self1 (y8.1,y8.2.1,y8.2.2.2.2.1,y8.2.2.2.2.2.1,y8.2.2.2.2.2.2))) else ((q34b (q330 d) y5).eval fun y11 =>
 some y11)
def q34e (d:Nat) (x:q32v):Option q32w :=
 (q336 (q330 d) (x.1.1,x.2.1.1,x.2.1.2.1,x.2.2.1.1,x.2.2.1.2.1)).eval fun y0 =>
 (q33a (q330 d) y0).eval fun y1 =>
 (q33e (q330 d) y1).eval fun y2 =>
 (q33i (q330 d) y2).eval fun y3 =>
 (q33m (q330 d) y3).eval fun y4 =>
 iter (q34d d ) d y4
theorem q34f (d:Nat):COK prog (q32y (q34e d)):=by
 have hm:prog.follows .mixedOrders=true:=qjt
 have hT:=tys
 have hC0:OrcOK prog (orc (q331 (q330 d))):=qcs (by
  intro S hS
  simp only [q331,List.mem_cons,List.not_mem_nil,or_false] at hS
  rcases hS with rfl | rfl
  · exact q31z d
  · exact q2wn d)
 have hC:OrcOK prog (orc (q331 (q330 d))):=hC0
 refine q8e (c:=qcy f81) (fn:=f81) hT (by kernel_rfl) (by kernel_rfl) (by decide) fun x r h w0 φ0 Q hend=>?_
 replace h:q34e d x=some r:=h
 unfold q34e at h
 show Run prog w0 φ0 45 (qcy f81) ⟨[(0,.agg [.fz Riii x.1.1]),(1,.agg [.int .i64 x.2.1.1,.int .i64 x.2.1.2.1]),(2,.agg [.int .i64 x.2.2.1.1,.int .i64 x.2.2.1.2.1])],[]⟩ Q
 refine q3yx hm hT hC (q337 (q330 d) (x.1.1,x.2.1.1,x.2.1.2.1,x.2.2.1.1,x.2.2.1.2.1)) h fun y0 h=>?_
 refine q3yx hm hT hC (q33b (q330 d) y0) h fun y1 h=>?_
 refine q3yx hm hT hC (q33f (q330 d) y1) h fun y2 h=>?_
 refine q3yx hm hT hC (q33j (q330 d) y2) h fun y3 h=>?_
 refine q7y ?_
 refine q3yx hm hT hC (q33n (q330 d) y3) h fun y4 h=>?_
 refine q7z ?_
 refine q84 (G:=iter (q34d d )) (S:=(fun x1=>⟨[(3,.ptr 0 0),(7,.rs 1),(8,i6 x1.1),(9,.rs 2),(10,i6 x1.2.1)],[.cells [.fz Riii x1.2.2.1],.rows Rii x1.2.2.2.1,.rows qje x1.2.2.2.2]⟩:Int×Int×List Diii×List Dii×List qjf→St)) (fun _=>rfl) ?_ d _ h
 intro n1 x1 h K1 hn1
 replace h:q34d d  (iter (q34d d ) n1) x1=some r:=h
 generalize iter (q34d d ) n1=self1 at h hn1
 unfold q34d at h
 refine q7y ?_
 refine q3yx hm hT hC (q33r (q330 d) x1) h fun y5 h=>?_
 refine q82 (v:=y5.2.2.1) (by kernel_rfl) h ?_ ?_
 ·
  intro h
  refine q7u (q7k ?_)
  refine q81 (r:=r) (F:=q348 d self1) (S:=(fun z=>⟨[(3,.ptr 0 0),(7,.rs 1),(8,i6 z.1),(9,.rs 2),(10,i6 z.2.1)],[.cells [.fz Riii z.2.2.1],.rows Rii z.2.2.2.1,.rows qje z.2.2.2.2]⟩:Int×Int×List Diii×List Dii×List qjf→St)) ?_ ?_
  ·
   intro z h
   unfold q348 at h
   refine q83 hm hT hC (q347 (q330 d) z) h ?_
   intro y6 h
   exact hn1 _ h
  intro hj2
  refine q7z ?_
  refine q3yx hm hT hC (q33v (q330 d) y5) h fun y7 h=>?_
  refine q3yx hm hT hC (q33z (q330 d) y7) h fun y8 h=>?_
  refine q82 (v:=y8.2.2.2.1) (by kernel_rfl) h ?_ ?_
  ·
   intro h
   refine q3yx hm hT hC (q343 (q330 d) y8) h fun y9 h=>?_
   refine q83 hm hT hC (q345 (q330 d) y9) h ?_
   intro y10 h
   refine q7n ?_
   exact hj2 _ h
  ·
   intro h
   refine q7u (q7n ?_)
   refine qcx (s:=⟨[(3,.ptr 0 0),(7,.rs 1),(8,.int .i64 y8.1),(9,.rs 2),(10,.int .i64 y8.2.1)],[.cells [.fz Riii y8.2.2.2.2.1],.rows Rii y8.2.2.2.2.2.1,.rows qje y8.2.2.2.2.2.2]⟩) [11,34] (by kernel_rfl) ?_
   exact hj2 _ h
 ·
  intro h
  refine q7w (q7l (q7l (q7p (q7k ?_))))
  refine q3yx hm hT hC (q34c (q330 d) y5) h fun y11 h=>?_
  refine q7x ?_
  cases h
  exact (hend _ (by kernel_rfl)).2
abbrev q34g:List Pk:=[.row qjb true,.row Rii true,.row Rii true]
abbrev q34h:Type:=qjc×Dii×Dii×Unit
abbrev q34i:Type:=List Dii×Int
def q34j (r:q34i):LV×List Ob:=(.tup [.rs 0,.int .i64 r.2],[.rows Rii r.1])
def q34k (F:q34h→Option q34i):Go.Tx.Spec:=⟨33,q34g,q34i,F,q34j⟩
abbrev q34l:Type:=(q2wp→Option q2wq)×(q32v→Option q32w)×Unit
def q34m (d:Nat):q34l:=(q2xm d,q34e d,())
def q34n (C:q34l):List Go.Tx.Spec:=[q2ws C.1,q32y C.2.1]
abbrev q34o:Type:=List Diii×Int×Int×Int×Int
def q34p (v:q34o):St:=⟨[(0,.agg [.fz Riii v.1]),(1,.agg [i6 v.2.1,i6 v.2.2.1]),(2,.agg [i6 v.2.2.2.1,i6 v.2.2.2.2])],[]⟩
abbrev q34q:Type:=List Diii×Int×Int×Int×Int
def q34r (v:q34q):St:=⟨[(3,.ptr 0 0),(4,.ptr 1 0),(5,.ptr 2 0)],[.cells [.fz Riii v.1],.cells [i6 v.2.1,i6 v.2.2.1],.cells [i6 v.2.2.2.1,i6 v.2.2.2.2]]⟩
def q34s (C:q34l) (v:q34o):Dt q34q:=(Dt.ret (v.1,v.2.1,v.2.2.1,v.2.2.2.1,v.2.2.2.2))
abbrev q40z {V Y:Type}:=@rg q34l V Y tysT (fun C=>(orc (q34n C))) 20
theorem q34t C v:q40z (regO (qcy f33) 0) false [(3,(.box [.val Riii])),(4,.any),(5,.any)] q34p q34s q34r C v:=rgI (by kernel_rfl)
abbrev q34u:Type:=Int×List Diii×Int×Int×Int×Int
def q34v (v:q34u):St:=⟨[(3,.ptr 0 0),(4,.ptr 1 0),(5,.ptr 2 0),(8,i6 v.1)],[.cells [.fz Riii v.2.1],.cells [i6 v.2.2.1,i6 v.2.2.2.1],.cells [i6 v.2.2.2.2.1,i6 v.2.2.2.2.2]]⟩
def q34w (C:q34l) (v:q34q):Dt q34u:=(Dt.bnd (C.1 ((v.1,()),(v.2.1,v.2.2.1,()),(v.2.2.2.1,v.2.2.2.2,()),())) fun r1=>(Dt.ret (r1,v.1,v.2.1,v.2.2.1,v.2.2.2.1,v.2.2.2.2)))
theorem q34x C v:q40z (regO (qcy f33) 1) false [(3,(.box [.val Riii])),(4,.any),(5,.any),(8,.any)] q34r q34w q34v C v:=rgI (by kernel_rfl)
abbrev q34y:Type:=Int×Bool×List Diii×Int×Int×Int×Int
def q34z (v:q34y):St:=⟨[(3,.ptr 0 0),(4,.ptr 1 0),(5,.ptr 2 0),(8,i6 v.1),(14,.bool v.2.1)],[.cells [.fz Riii v.2.2.1],.cells [i6 v.2.2.2.1,i6 v.2.2.2.2.1],.cells [i6 v.2.2.2.2.2.1,i6 v.2.2.2.2.2.2]]⟩
def q350 (C:q34l) (v:q34u):Dt q34y:=(Dt.ret (v.1,(v.1!=(0:Int)),v.2.1,v.2.2.1,v.2.2.2.1,v.2.2.2.2.1,v.2.2.2.2.2))
theorem q351 C v:q40z (regO (qcy f33) 2) false [(3,(.box [.val Riii])),(4,.any),(5,.any),(8,.any),(14,.any)] q34v q350 q34z C v:=rgI (by kernel_rfl)
abbrev q352:Type:=Int×List Dii
def q353 (v:q352):St:=⟨[(6,.rs 0),(7,i6 v.1)],[.rows Rii v.2]⟩
def q354 (C:q34l) (v:q34y):Dt q352:=(Dt.ret (v.1,([]:List Dii)))
theorem q355 C v:q40z (regO (qcy f33) 3) false [(6,(.own Rii)),(7,.any)] q34z q354 q353 C v:=rgI (by kernel_rfl)
def q356 (C:q34l) (v:q34y):Dt q352:=(Dt.bnd (C.2.1 ((v.2.2.1,()),(v.2.2.2.1,v.2.2.2.2.1,()),(v.2.2.2.2.2.1,v.2.2.2.2.2.2,()),())) fun r1=>(Dt.ret ((0:Int),r1)))
theorem q357 C v:q40z (regO (qcy f33) 4) false [(6,(.own Rii)),(7,.any)] q34z q356 q353 C v:=rgI (by kernel_rfl)
def q358 (d:Nat) (x:q34h):Option q34i :=
 (q34s (q34m d) (x.1.1,x.2.1.1,x.2.1.2.1,x.2.2.1.1,x.2.2.1.2.1)).eval fun y0 =>
 (q34w (q34m d) y0).eval fun y1 =>
 (q350 (q34m d) y1).eval fun y2 =>
 bif y2.2.1 then ((q354 (q34m d) y2).eval fun y3 =>
 some (y3.2,y3.1)) else ((q356 (q34m d) y2).eval fun y4 =>
 some (y4.2,y4.1))
theorem q359 (d:Nat):COK prog (q34k (q358 d)):=by
 have hm:prog.follows .mixedOrders=true:=qjt
 have hT:=tys
 have hC0:OrcOK prog (orc (q34n (q34m d))):=qcs (by
  intro S hS
  simp only [q34n,List.mem_cons,List.not_mem_nil,or_false] at hS
  rcases hS with rfl | rfl
  · exact q2xn d
  · exact q34f d)
 have hC:OrcOK prog (orc (q34n (q34m d))):=hC0
 refine q8e (c:=qcy f33) (fn:=f33) hT (by kernel_rfl) (by kernel_rfl) (by decide) fun x r h w0 φ0 Q hend=>?_
 replace h:q358 d x=some r:=h
 unfold q358 at h
 show Run prog w0 φ0 20 (qcy f33) ⟨[(0,.agg [.fz Riii x.1.1]),(1,.agg [.int .i64 x.2.1.1,.int .i64 x.2.1.2.1]),(2,.agg [.int .i64 x.2.2.1.1,.int .i64 x.2.2.1.2.1])],[]⟩ Q
 refine q3yx hm hT hC (q34t (q34m d) (x.1.1,x.2.1.1,x.2.1.2.1,x.2.2.1.1,x.2.2.1.2.1)) h fun y0 h=>?_
 refine q7y ?_
 refine q3yx hm hT hC (q34x (q34m d) y0) h fun y1 h=>?_
 refine q3yx hm hT hC (q351 (q34m d) y1) h fun y2 h=>?_
 refine q82 (v:=y2.2.1) (by kernel_rfl) h ?_ ?_
 ·
  intro h
  refine q3yx hm hT hC (q355 (q34m d) y2) h fun y3 h=>?_
  refine q7x (q7m ?_)
  cases h
  exact (hend _ (by kernel_rfl)).2
 ·
  intro h
  refine q7u (q7k ?_)
  refine q3yx hm hT hC (q357 (q34m d) y2) h fun y4 h=>?_
  refine q7x ?_
  cases h
  exact (hend _ (by kernel_rfl)).2
abbrev q35a:List Pk:=[.row qjb true,.row Rii true,.row Rii true]
abbrev q35b:Type:=qjc×Dii×Dii×Unit
abbrev q35c:Type:=Int×Int×Int×Int×Int
def q35d (r:q35c):LV×List Ob:=(.tup [.agg [.int .i64 r.1,.int .i64 r.2.1],.agg [.int .i64 r.2.2.1,.int .i64 r.2.2.2.1],.int .i64 r.2.2.2.2],[])
def q35e (F:q35b→Option q35c):Go.Tx.Spec:=⟨35,q35a,q35c,F,q35d⟩
abbrev q35f:Type:=(q30f→Option q30g)×(q2wp→Option q2wq)×(q31d→Option q31e)×(q32v→Option q32w)×Unit
def q35g (d:Nat):q35f:=(q31a d,q2xm d,q31y d,q34e d,())
def q35h (C:q35f):List Go.Tx.Spec:=[q30i C.1,q2ws C.2.1,q31g C.2.2.1,q32y C.2.2.2.1]
abbrev q35i:Type:=List Diii×Int×Int×Int×Int
def q35j (v:q35i):St:=⟨[(0,.agg [.fz Riii v.1]),(1,.agg [i6 v.2.1,i6 v.2.2.1]),(2,.agg [i6 v.2.2.2.1,i6 v.2.2.2.2])],[]⟩
abbrev q35k:Type:=List Diii×Int×Int×Int×Int×Int×Int×Int×Int
def q35l (v:q35k):St:=⟨[(3,.ptr 0 0),(4,.ptr 1 0),(5,.ptr 2 0),(6,.ptr 3 0),(7,.ptr 4 0)],[.cells [.fz Riii v.1],.cells [i6 v.2.1,i6 v.2.2.1],.cells [i6 v.2.2.2.1,i6 v.2.2.2.2.1],.cells [i6 v.2.2.2.2.2.1,i6 v.2.2.2.2.2.2.1],.cells [i6 v.2.2.2.2.2.2.2.1,i6 v.2.2.2.2.2.2.2.2]]⟩
def q35m (C:q35f) (v:q35i):Dt q35k:=(Dt.ret (v.1,v.2.1,v.2.2.1,v.2.2.2.1,v.2.2.2.2,(0:Int),(0:Int),(0:Int),(0:Int)))
abbrev q410 {V Y:Type}:=@rg q35f V Y tysT (fun C=>(orc (q35h C))) 63
theorem q35n C v:q410 (regO (qcy f35) 0) false [(3,(.box [.val Riii])),(4,.any),(5,.any),(6,.any),(7,.any)] q35j q35m q35l C v:=rgI (by kernel_rfl)
abbrev q35o:Type:=Int×List Diii×Int×Int×Int×Int×Int×Int×Int×Int
def q35p (v:q35o):St:=⟨[(3,.ptr 0 0),(4,.ptr 1 0),(5,.ptr 2 0),(6,.ptr 3 0),(7,.ptr 4 0),(9,i6 v.1)],[.cells [.fz Riii v.2.1],.cells [i6 v.2.2.1,i6 v.2.2.2.1],.cells [i6 v.2.2.2.2.1,i6 v.2.2.2.2.2.1],.cells [i6 v.2.2.2.2.2.2.1,i6 v.2.2.2.2.2.2.2.1],.cells [i6 v.2.2.2.2.2.2.2.2.1,i6 v.2.2.2.2.2.2.2.2.2]]⟩
def q35q (C:q35f) (v:q35k):Dt q35o:=(Dt.bnd (C.2.1 ((v.1,()),(v.2.1,v.2.2.1,()),(v.2.2.2.1,v.2.2.2.2.1,()),())) fun r1=>(Dt.ret (r1,v.1,v.2.1,v.2.2.1,v.2.2.2.1,v.2.2.2.2.1,v.2.2.2.2.2.1,v.2.2.2.2.2.2.1,v.2.2.2.2.2.2.2.1,v.2.2.2.2.2.2.2.2)))
theorem q35r C v:q410 (regO (qcy f35) 1) false [(3,(.box [.val Riii])),(4,.any),(5,.any),(6,.any),(7,.any),(9,.any)] q35l q35q q35p C v:=rgI (by kernel_rfl)
abbrev q35s:Type:=Int×Bool×List Diii×Int×Int×Int×Int×Int×Int×Int×Int
def q35t (v:q35s):St:=⟨[(3,.ptr 0 0),(4,.ptr 1 0),(5,.ptr 2 0),(6,.ptr 3 0),(7,.ptr 4 0),(9,i6 v.1),(20,.bool v.2.1)],[.cells [.fz Riii v.2.2.1],.cells [i6 v.2.2.2.1,i6 v.2.2.2.2.1],.cells [i6 v.2.2.2.2.2.1,i6 v.2.2.2.2.2.2.1],.cells [i6 v.2.2.2.2.2.2.2.1,i6 v.2.2.2.2.2.2.2.2.1],.cells [i6 v.2.2.2.2.2.2.2.2.2.1,i6 v.2.2.2.2.2.2.2.2.2.2]]⟩
def q35u (C:q35f) (v:q35o):Dt q35s:=(Dt.ret (v.1,(v.1!=(0:Int)),v.2.1,v.2.2.1,v.2.2.2.1,v.2.2.2.2.1,v.2.2.2.2.2.1,v.2.2.2.2.2.2.1,v.2.2.2.2.2.2.2.1,v.2.2.2.2.2.2.2.2.1,v.2.2.2.2.2.2.2.2.2))
theorem q35v C v:q410 (regO (qcy f35) 2) false [(3,(.box [.val Riii])),(4,.any),(5,.any),(6,.any),(7,.any),(9,.any),(20,.any)] q35p q35u q35t C v:=rgI (by kernel_rfl)
abbrev q35w:Type:=Int×Int×Int×Int×Int
def q35x (v:q35w):St:=⟨[(6,.ptr 0 0),(7,.ptr 1 0),(8,i6 v.1)],[.cells [i6 v.2.1,i6 v.2.2.1],.cells [i6 v.2.2.2.1,i6 v.2.2.2.2]]⟩
def q35y (C:q35f) (v:q35s):Dt q35w:=(Dt.ret (v.1,(0:Int),(0:Int),(0:Int),(0:Int)))
theorem q35z C v:q410 (regO (qcy f35) 3) false (an [6,7,8]) q35t q35y q35x C v:=rgI (by kernel_rfl)
abbrev q360:Type:=List Diii×Int×Int×Int×Int×Int×Int×List Dii
def q361 (v:q360):St:=⟨[(3,.ptr 0 0),(5,.ptr 1 0),(6,.ptr 2 0),(7,.ptr 3 0),(10,.rs 4)],[.cells [.fz Riii v.1],.cells [i6 v.2.1,i6 v.2.2.1],.cells [i6 v.2.2.2.1,i6 v.2.2.2.2.1],.cells [i6 v.2.2.2.2.2.1,i6 v.2.2.2.2.2.2.1],.rows Rii v.2.2.2.2.2.2.2]⟩
def q362 (C:q35f) (v:q35s):Dt q360:=(Dt.bnd (C.2.2.2.1 ((v.2.2.1,()),(v.2.2.2.1,v.2.2.2.2.1,()),(v.2.2.2.2.2.1,v.2.2.2.2.2.2.1,()),())) fun r1=>(Dt.ite (apB (List.length ([(v.2.2.2.1,v.2.2.2.2.1,())]:List Dii)) (List.length r1)) (Dt.ret (v.2.2.1,v.2.2.2.2.2.1,v.2.2.2.2.2.2.1,v.2.2.2.2.2.2.2.1,v.2.2.2.2.2.2.2.2.1,v.2.2.2.2.2.2.2.2.2.1,v.2.2.2.2.2.2.2.2.2.2,(([(v.2.2.2.1,v.2.2.2.2.1,())]:List Dii)++r1))) Dt.fail))
theorem q363 C v:q410 (regO (qcy f35) 4) true [(3,(.box [.val Riii])),(5,.any),(6,.any),(7,.any),(10,(.own Rii))] q35t q362 q361 C v:=rgI (by kernel_rfl)
abbrev q364:Type:=List Diii×Int×Int×Int×Int×List Dii×Int×Int
def q365 (v:q364):St:=⟨[(3,.ptr 0 0),(6,.ptr 1 0),(7,.ptr 2 0),(10,.rs 3),(11,.ptr 4 0)],[.cells [.fz Riii v.1],.cells [i6 v.2.1,i6 v.2.2.1],.cells [i6 v.2.2.2.1,i6 v.2.2.2.2.1],.rows Rii v.2.2.2.2.2.1,.cells [i6 v.2.2.2.2.2.2.1,i6 v.2.2.2.2.2.2.2]]⟩
def q366 (C:q35f) (v:q360):Dt q364:=(Dt.ret (v.1,v.2.2.2.1,v.2.2.2.2.1,v.2.2.2.2.2.1,v.2.2.2.2.2.2.1,v.2.2.2.2.2.2.2,v.2.1,v.2.2.1))
theorem q367 C v:q410 (regO (qcy f35) 5) false [(3,(.box [.val Riii])),(6,.any),(7,.any),(10,(.own Rii)),(11,.any)] q361 q366 q365 C v:=rgI (by kernel_rfl)
abbrev q368:Type:=Int×List Diii×Int×Int×Int×Int×List Dii×Int×Int
def q369 (v:q368):St:=⟨[(3,.ptr 0 0),(6,.ptr 1 0),(7,.ptr 2 0),(10,.rs 3),(11,.ptr 4 0),(12,i6 v.1)],[.cells [.fz Riii v.2.1],.cells [i6 v.2.2.1,i6 v.2.2.2.1],.cells [i6 v.2.2.2.2.1,i6 v.2.2.2.2.2.1],.rows Rii v.2.2.2.2.2.2.1,.cells [i6 v.2.2.2.2.2.2.2.1,i6 v.2.2.2.2.2.2.2.2]]⟩
def q36a (C:q35f) (v:q364):Dt q368:=(Dt.ret ((IntKind.wrap .i64 ((List.length v.2.2.2.2.2.1:Int) - (1:Int))),v.1,v.2.1,v.2.2.1,v.2.2.2.1,v.2.2.2.2.1,v.2.2.2.2.2.1,v.2.2.2.2.2.2.1,v.2.2.2.2.2.2.2))
theorem q36b C v:q410 (regO (qcy f35) 6) false [(3,(.box [.val Riii])),(6,.any),(7,.any),(10,(.own Rii)),(11,.any),(12,.any)] q365 q36a q369 C v:=rgI (by kernel_rfl)
abbrev q36c:Type:=Int×Bool×List Diii×Int×Int×Int×Int×List Dii×Int×Int
def q36d (v:q36c):St:=⟨[(3,.ptr 0 0),(6,.ptr 1 0),(7,.ptr 2 0),(10,.rs 3),(11,.ptr 4 0),(12,i6 v.1),(36,.bool v.2.1)],[.cells [.fz Riii v.2.2.1],.cells [i6 v.2.2.2.1,i6 v.2.2.2.2.1],.cells [i6 v.2.2.2.2.2.1,i6 v.2.2.2.2.2.2.1],.rows Rii v.2.2.2.2.2.2.2.1,.cells [i6 v.2.2.2.2.2.2.2.2.1,i6 v.2.2.2.2.2.2.2.2.2]]⟩
def q36e (C:q35f) (v:q368):Dt q36c:=(Dt.ret (v.1,(decide (v.1≥(0:Int))),v.2.1,v.2.2.1,v.2.2.2.1,v.2.2.2.2.1,v.2.2.2.2.2.1,v.2.2.2.2.2.2.1,v.2.2.2.2.2.2.2.1,v.2.2.2.2.2.2.2.2))
theorem q36f C v:q410 (regO (qcy f35) 7) false [(3,(.box [.val Riii])),(6,.any),(7,.any),(10,(.own Rii)),(11,.any),(12,.any),(36,.any)] q369 q36e q36d C v:=rgI (by kernel_rfl)
abbrev q36g:Type:=Int×Bool×List Diii×Int×Int×Int×Int×List Dii×Int×Int
def q36h (v:q36g):St:=⟨[(3,.ptr 0 0),(6,.ptr 1 0),(7,.ptr 2 0),(10,.rs 3),(11,.ptr 4 0),(12,i6 v.1),(45,.bool v.2.1)],[.cells [.fz Riii v.2.2.1],.cells [i6 v.2.2.2.1,i6 v.2.2.2.2.1],.cells [i6 v.2.2.2.2.2.1,i6 v.2.2.2.2.2.2.1],.rows Rii v.2.2.2.2.2.2.2.1,.cells [i6 v.2.2.2.2.2.2.2.2.1,i6 v.2.2.2.2.2.2.2.2.2]]⟩
def q36i (C:q35f) (v:q36c):Dt q36g:=(Dt.ite (inB v.1 (List.length v.2.2.2.2.2.2.2.1)) (Dt.bnd (C.2.2.1 ((v.2.2.1,()),((elt zii v.2.2.2.2.2.2.2.1 (v.1).toNat).1,(elt zii v.2.2.2.2.2.2.2.1 (v.1).toNat).2.1,()),())) fun r1=>(Dt.ret (v.1,(decide (r1≥(0:Int))),v.2.2.1,v.2.2.2.1,v.2.2.2.2.1,v.2.2.2.2.2.1,v.2.2.2.2.2.2.1,v.2.2.2.2.2.2.2.1,v.2.2.2.2.2.2.2.2.1,v.2.2.2.2.2.2.2.2.2))) Dt.fail)
theorem q36j C v:q410 (regO (qcy f35) 9) true [(3,(.box [.val Riii])),(6,.any),(7,.any),(10,(.own Rii)),(11,.any),(12,.any),(45,.any)] q36d q36i q36h C v:=rgI (by kernel_rfl)
def q36k (C:q35f) (v:q36g):Dt q368:=(Dt.ite (inB v.1 (List.length v.2.2.2.2.2.2.2.1)) (Dt.ret (v.1,v.2.2.1,v.2.2.2.1,v.2.2.2.2.1,v.2.2.2.2.2.1,v.2.2.2.2.2.2.1,v.2.2.2.2.2.2.2.1,(elt zii v.2.2.2.2.2.2.2.1 (v.1).toNat).1,(elt zii v.2.2.2.2.2.2.2.1 (v.1).toNat).2.1)) Dt.fail)
theorem q36l C v:q410 (regO (qcy f35) 10) false [(3,(.box [.val Riii])),(6,.any),(7,.any),(10,(.own Rii)),(11,.any),(12,.any)] q36h q36k q369 C v:=rgI (by kernel_rfl)
def q36m (C:q35f) (v:q368):Dt q368:=(Dt.ret ((IntKind.wrap .i64 (v.1 - (1:Int))),v.2.1,v.2.2.1,v.2.2.2.1,v.2.2.2.2.1,v.2.2.2.2.2.1,v.2.2.2.2.2.2.1,v.2.2.2.2.2.2.2.1,v.2.2.2.2.2.2.2.2))
theorem q36n C v:q410 (regO (qcy f35) 8) false [(3,(.box [.val Riii])),(6,.any),(7,.any),(10,(.own Rii)),(11,.any),(12,.any)] q369 q36m q369 C v:=rgI (by kernel_rfl)
def q36o  (d:Nat) (self1:(Int×List Diii×Int×Int×Int×Int×List Dii×Int×Int)→Option q35c) (z:Int×List Diii×Int×Int×Int×Int×List Dii×Int×Int):Option (q35c) :=
 (q36m (q35g d) z).eval fun y8 =>
 self1 y8
abbrev q36p:Type:=Int×Int×Int×Int×Int×Int×Int×Int×Int
def q36q (v:q36p):St:=⟨[(6,.ptr 0 0),(7,.ptr 1 0),(11,.ptr 2 0),(13,.ptr 3 0),(14,i6 v.1)],[.cells [i6 v.2.1,i6 v.2.2.1],.cells [i6 v.2.2.2.1,i6 v.2.2.2.2.1],.cells [i6 v.2.2.2.2.2.1,i6 v.2.2.2.2.2.2.1],.cells [i6 v.2.2.2.2.2.2.2.1,i6 v.2.2.2.2.2.2.2.2]]⟩
def q36r (C:q35f) (v:q36c):Dt q36p:=(Dt.bnd (C.1 ((v.2.2.1,()),(v.2.2.2.2.2.2.2.2.1,v.2.2.2.2.2.2.2.2.2,()),())) fun r1=>(Dt.ret (r1.2.2,v.2.2.2.1,v.2.2.2.2.1,v.2.2.2.2.2.1,v.2.2.2.2.2.2.1,v.2.2.2.2.2.2.2.2.1,v.2.2.2.2.2.2.2.2.2,r1.1,r1.2.1)))
theorem q36s C v:q410 (regO (qcy f35) 11) false (an [6,7,11,13,14]) q36d q36r q36q C v:=rgI (by kernel_rfl)
abbrev q36t:Type:=Int×Bool×Int×Int×Int×Int×Int×Int×Int×Int
def q36u (v:q36t):St:=⟨[(6,.ptr 0 0),(7,.ptr 1 0),(11,.ptr 2 0),(13,.ptr 3 0),(14,i6 v.1),(57,.bool v.2.1)],[.cells [i6 v.2.2.1,i6 v.2.2.2.1],.cells [i6 v.2.2.2.2.1,i6 v.2.2.2.2.2.1],.cells [i6 v.2.2.2.2.2.2.1,i6 v.2.2.2.2.2.2.2.1],.cells [i6 v.2.2.2.2.2.2.2.2.1,i6 v.2.2.2.2.2.2.2.2.2]]⟩
def q36v (C:q35f) (v:q36p):Dt q36t:=(Dt.ret (v.1,(v.1!=(0:Int)),v.2.1,v.2.2.1,v.2.2.2.1,v.2.2.2.2.1,v.2.2.2.2.2.1,v.2.2.2.2.2.2.1,v.2.2.2.2.2.2.2.1,v.2.2.2.2.2.2.2.2))
theorem q36w C v:q410 (regO (qcy f35) 12) false (an [6,7,11,13,14,57]) q36q q36v q36u C v:=rgI (by kernel_rfl)
def q36x (C:q35f) (v:q36t):Dt q35w:=(Dt.ret (v.1,(0:Int),(0:Int),(0:Int),(0:Int)))
theorem q36y C v:q410 (regO (qcy f35) 13) false (an [6,7,8]) q36u q36x q35x C v:=rgI (by kernel_rfl)
def q36z (C:q35f) (v:q36t):Dt q35w:=(Dt.ret ((0:Int),v.2.2.2.2.2.2.1,v.2.2.2.2.2.2.2.1,v.2.2.2.2.2.2.2.2.1,v.2.2.2.2.2.2.2.2.2))
theorem q370 C v:q410 (regO (qcy f35) 14) true (an [6,7,8]) q36u q36z q35x C v:=rgI (by kernel_rfl)
def q371 (d:Nat) (self1:(Int×List Diii×Int×Int×Int×Int×List Dii×Int×Int)→Option q35c) (x1:Int×List Diii×Int×Int×Int×Int×List Dii×Int×Int):Option q35c :=
 (q36e (q35g d) x1).eval fun y7 =>
 bif y7.2.1 then ((q36i (q35g d) y7).eval fun y9 =>
 bif y9.2.1 then ((q36k (q35g d) y9).eval fun y10 =>
 q36o d self1 y10) else (q36o d self1 (y9.1,y9.2.2.1,y9.2.2.2.1,y9.2.2.2.2.1,y9.2.2.2.2.2.1,y9.2.2.2.2.2.2.1,y9.2.2.2.2.2.2.2.1,y9.2.2.2.2.2.2.2.2.1,y9.2.2.2.2.2.2.2.2.2))) else ((q36r (q35g d) y7).eval fun y11 =>
 (q36v (q35g d) y11).eval fun y12 =>
 bif y12.2.1 then ((q36x (q35g d) y12).eval fun y13 =>
 some (y13.2.1,y13.2.2.1,y13.2.2.2.1,y13.2.2.2.2,y13.1)) else ((q36z (q35g d) y12).eval fun y14 =>
 some (y14.2.1,y14.2.2.1,y14.2.2.2.1,y14.2.2.2.2,y14.1)))
def q372 (d:Nat) (x:q35b):Option q35c :=
 (q35m (q35g d) (x.1.1,x.2.1.1,x.2.1.2.1,x.2.2.1.1,x.2.2.1.2.1)).eval fun y0 =>
 (q35q (q35g d) y0).eval fun y1 =>
 (q35u (q35g d) y1).eval fun y2 =>
 bif y2.2.1 then ((q35y (q35g d) y2).eval fun y3 =>
 some (y3.2.1,y3.2.2.1,y3.2.2.2.1,y3.2.2.2.2,y3.1)) else ((q362 (q35g d) y2).eval fun y4 =>
 (q366 (q35g d) y4).eval fun y5 =>
 (q36a (q35g d) y5).eval fun y6 =>
 iter (q371 d ) d y6)
theorem q373 (d:Nat):COK prog (q35e (q372 d)):=by
 have hm:prog.follows .mixedOrders=true:=qjt
 have hT:=tys
 have hC0:OrcOK prog (orc (q35h (q35g d))):=qcs (by
  intro S hS
  simp only [q35h,List.mem_cons,List.not_mem_nil,or_false] at hS
  rcases hS with rfl | rfl | rfl | rfl
  · exact q31b d
  · exact q2xn d
  · exact q31z d
  · exact q34f d)
 have hC:OrcOK prog (orc (q35h (q35g d))):=hC0
 refine q8e (c:=qcy f35) (fn:=f35) hT (by kernel_rfl) (by kernel_rfl) (by decide) fun x r h w0 φ0 Q hend=>?_
 replace h:q372 d x=some r:=h
 unfold q372 at h
 show Run prog w0 φ0 63 (qcy f35) ⟨[(0,.agg [.fz Riii x.1.1]),(1,.agg [.int .i64 x.2.1.1,.int .i64 x.2.1.2.1]),(2,.agg [.int .i64 x.2.2.1.1,.int .i64 x.2.2.1.2.1])],[]⟩ Q
 refine q3yx hm hT hC (q35n (q35g d) (x.1.1,x.2.1.1,x.2.1.2.1,x.2.2.1.1,x.2.2.1.2.1)) h fun y0 h=>?_
 refine q7y ?_
 refine q3yx hm hT hC (q35r (q35g d) y0) h fun y1 h=>?_
 refine q3yx hm hT hC (q35v (q35g d) y1) h fun y2 h=>?_
 refine q82 (v:=y2.2.1) (by kernel_rfl) h ?_ ?_
 ·
  intro h
  refine q3yx hm hT hC (q35z (q35g d) y2) h fun y3 h=>?_
  refine q7x (q7m ?_)
  cases h
  exact (hend _ (by kernel_rfl)).2
 ·
  intro h
  refine q7u (q7k ?_)
  refine q3yx hm hT hC (q363 (q35g d) y2) h fun y4 h=>?_
  refine q3yx hm hT hC (q367 (q35g d) y4) h fun y5 h=>?_
  refine q7y ?_
  refine q3yx hm hT hC (q36b (q35g d) y5) h fun y6 h=>?_
  refine q7z ?_
  refine q84 (G:=iter (q371 d )) (S:=(fun x1=>⟨[(3,.ptr 0 0),(6,.ptr 1 0),(7,.ptr 2 0),(10,.rs 3),(11,.ptr 4 0),(12,i6 x1.1)],[.cells [.fz Riii x1.2.1],.cells [i6 x1.2.2.1,i6 x1.2.2.2.1],.cells [i6 x1.2.2.2.2.1,i6 x1.2.2.2.2.2.1],.rows Rii x1.2.2.2.2.2.2.1,.cells [i6 x1.2.2.2.2.2.2.2.1,i6 x1.2.2.2.2.2.2.2.2]]⟩:Int×List Diii×Int×Int×Int×Int×List Dii×Int×Int→St)) (fun _=>rfl) ?_ d _ h
  intro n1 x1 h K1 hn1
  replace h:q371 d  (iter (q371 d ) n1) x1=some r:=h
  generalize iter (q371 d ) n1=self1 at h hn1
  unfold q371 at h
  refine q7y ?_
  refine q3yx hm hT hC (q36f (q35g d) x1) h fun y7 h=>?_
  refine q82 (v:=y7.2.1) (by kernel_rfl) h ?_ ?_
  ·
   intro h
   refine q7u (q7k ?_)
   refine q81 (r:=r) (F:=q36o d self1) (S:=(fun z=>⟨[(3,.ptr 0 0),(6,.ptr 1 0),(7,.ptr 2 0),(10,.rs 3),(11,.ptr 4 0),(12,i6 z.1)],[.cells [.fz Riii z.2.1],.cells [i6 z.2.2.1,i6 z.2.2.2.1],.cells [i6 z.2.2.2.2.1,i6 z.2.2.2.2.2.1],.rows Rii z.2.2.2.2.2.2.1,.cells [i6 z.2.2.2.2.2.2.2.1,i6 z.2.2.2.2.2.2.2.2]]⟩:Int×List Diii×Int×Int×Int×Int×List Dii×Int×Int→St)) ?_ ?_
   ·
    intro z h
    unfold q36o at h
    refine q83 hm hT hC (q36n (q35g d) z) h ?_
    intro y8 h
    exact hn1 _ h
   intro hj2
   refine q7z ?_
   refine q3yx hm hT hC (q36j (q35g d) y7) h fun y9 h=>?_
   refine q82 (v:=y9.2.1) (by kernel_rfl) h ?_ ?_
   ·
    intro h
    refine q83 hm hT hC (q36l (q35g d) y9) h ?_
    intro y10 h
    refine q7n ?_
    exact hj2 _ h
   ·
    intro h
    refine q7u (q7n ?_)
    refine qcx (s:=⟨[(3,.ptr 0 0),(6,.ptr 1 0),(7,.ptr 2 0),(10,.rs 3),(11,.ptr 4 0),(12,.int .i64 y9.1)],[.cells [.fz Riii y9.2.2.1],.cells [.int .i64 y9.2.2.2.1,.int .i64 y9.2.2.2.2.1],.cells [.int .i64 y9.2.2.2.2.2.1,.int .i64 y9.2.2.2.2.2.2.1],.rows Rii y9.2.2.2.2.2.2.2.1,.cells [.int .i64 y9.2.2.2.2.2.2.2.2.1,.int .i64 y9.2.2.2.2.2.2.2.2.2]]⟩) [45] (by kernel_rfl) ?_
    exact hj2 _ h
  ·
   intro h
   refine q7w (q7l (q7l (q7p (q7k ?_))))
   refine q3yx hm hT hC (q36s (q35g d) y7) h fun y11 h=>?_
   refine q7y ?_
   refine q3yx hm hT hC (q36w (q35g d) y11) h fun y12 h=>?_
   refine q82 (v:=y12.2.1) (by kernel_rfl) h ?_ ?_
   ·
    intro h
    refine q3yx hm hT hC (q36y (q35g d) y12) h fun y13 h=>?_
    refine q7x (q7m ?_)
    cases h
    exact (hend _ (by kernel_rfl)).2
   ·
    intro h
    refine q7u (q7k ?_)
    refine q3yx hm hT hC (q370 (q35g d) y12) h fun y14 h=>?_
    refine q7x ?_
    cases h
    exact (hend _ (by kernel_rfl)).2
abbrev q374:List Pk:=[.row qjk false,.row qjk false]
abbrev q375:Type:=qjl×qjl×Unit
abbrev q376:Type:=Bool
def q377 (r:q376):LV×List Ob:=(.bool r,[])
def q378 (F:q375→Option q376):Go.Tx.Spec:=⟨36,q374,q376,F,q377⟩
abbrev q379:Type:=Unit
def q37a (_d:Nat):q379:=()
def q37b (C:q379):List Go.Tx.Spec:=[]
abbrev q37c:Type:=List Dii×List Dii
def q37d (v:q37c):St:=⟨[(0,.fz Rii v.1),(1,.fz Rii v.2)],[]⟩
def q37e (C:q379) (v:q37c):Dt q37c:=(Dt.ret (v.1,v.2))
abbrev q411 {V Y:Type}:=@rg q379 V Y tysT (fun C=>(orc (q37b C))) 26
theorem q37f C v:q411 (regO (qcy f36) 0) false [(0,(.val Rii)),(1,(.val Rii))] q37d q37e q37d C v:=rgI (by kernel_rfl)
abbrev q37g:Type:=List Dii×List Dii×Bool
def q37h (v:q37g):St:=⟨[(0,.fz Rii v.1),(1,.fz Rii v.2.1),(10,.bool v.2.2)],[]⟩
def q37i (C:q379) (v:q37c):Dt q37g:=(Dt.ret (v.1,v.2,((List.length v.1:Int)!=(List.length v.2:Int))))
theorem q37j C v:q411 (regO (qcy f36) 1) false [(0,(.val Rii)),(1,(.val Rii)),(10,.any)] q37d q37i q37h C v:=rgI (by kernel_rfl)
abbrev q37k:Type:=Bool
def q37l (v:q37k):St:=⟨[(4,.bool v)],[]⟩
def q37m (C:q379) (v:q37g):Dt q37k:=(Dt.ret false)
theorem q37n C v:q411 (regO (qcy f36) 2) false [(4,.any)] q37h q37m q37l C v:=rgI (by kernel_rfl)
abbrev q37o:Type:=List Dii×List Dii×Int
def q37p (v:q37o):St:=⟨[(0,.fz Rii v.1),(1,.fz Rii v.2.1),(5,i6 v.2.2)],[]⟩
def q37q (C:q379) (v:q37g):Dt q37o:=(Dt.ret (v.1,v.2.1,(0:Int)))
theorem q37r C v:q411 (regO (qcy f36) 3) false [(0,(.val Rii)),(1,(.val Rii)),(5,.any)] q37h q37q q37p C v:=rgI (by kernel_rfl)
abbrev q37s:Type:=List Dii×List Dii×Int×Bool
def q37t (v:q37s):St:=⟨[(0,.fz Rii v.1),(1,.fz Rii v.2.1),(5,i6 v.2.2.1),(14,.bool v.2.2.2)],[]⟩
def q37u (C:q379) (v:q37o):Dt q37s:=(Dt.ret (v.1,v.2.1,v.2.2,(decide (v.2.2<(List.length v.1:Int)))))
theorem q37v C v:q411 (regO (qcy f36) 4) false [(0,(.val Rii)),(1,(.val Rii)),(5,.any),(14,.any)] q37p q37u q37t C v:=rgI (by kernel_rfl)
abbrev q37w:Type:=List Dii×List Dii×Int×Bool
def q37x (v:q37w):St:=⟨[(0,.fz Rii v.1),(1,.fz Rii v.2.1),(5,i6 v.2.2.1),(25,.bool v.2.2.2)],[]⟩
def q37y (C:q379) (v:q37s):Dt q37w:=(Dt.ite (inB v.2.2.1 (List.length v.1)) (Dt.ite (inB v.2.2.1 (List.length v.2.1)) (Dt.ret (v.1,v.2.1,v.2.2.1,(!(((elt zii v.1 (v.2.2.1).toNat).1==(elt zii v.2.1 (v.2.2.1).toNat).1)&&(((elt zii v.1 (v.2.2.1).toNat).2.1==(elt zii v.2.1 (v.2.2.1).toNat).2.1)&&true))))) Dt.fail) Dt.fail)
theorem q37z C v:q411 (regO (qcy f36) 6) true [(0,(.val Rii)),(1,(.val Rii)),(5,.any),(25,.any)] q37t q37y q37x C v:=rgI (by kernel_rfl)
def q380 (C:q379) (v:q37w):Dt q37k:=(Dt.ret false)
theorem q381 C v:q411 (regO (qcy f36) 7) false [(4,.any)] q37x q380 q37l C v:=rgI (by kernel_rfl)
def q382 (C:q379) (v:q37w):Dt q37o:=(Dt.ret (v.1,v.2.1,(IntKind.wrap .i64 (v.2.2.1+(1:Int)))))
theorem q383 C v:q411 (regO (qcy f36) 5) false [(0,(.val Rii)),(1,(.val Rii)),(5,.any)] q37x q382 q37p C v:=rgI (by kernel_rfl)
def q384 (C:q379) (v:q37s):Dt q37k:=(Dt.ret true)
theorem q385 C v:q411 (regO (qcy f36) 8) false [(4,.any)] q37t q384 q37l C v:=rgI (by kernel_rfl)
def q386 (d:Nat) (self1:(List Dii×List Dii×Int)→Option q376) (x1:List Dii×List Dii×Int):Option q376 :=
 (q37u (q37a d) x1).eval fun y4 =>
 bif y4.2.2.2 then ((q37y (q37a d) y4).eval fun y6 =>
 bif y6.2.2.2 then ((q380 (q37a d) y6).eval fun y7 =>
 some y7) else ((q382 (q37a d) y6).eval fun y5 =>
 self1 y5)) else ((q384 (q37a d) y4).eval fun y8 =>
 some y8)
def q387 (d:Nat) (x:q375):Option q376 :=
 (q37e (q37a d) (x.1.1,x.2.1.1)).eval fun y0 =>
 (q37i (q37a d) y0).eval fun y1 =>
 bif y1.2.2 then ((q37m (q37a d) y1).eval fun y2 =>
 some y2) else ((q37q (q37a d) y1).eval fun y3 =>
 iter (q386 d ) d y3)
theorem q388 (d:Nat):COK prog (q378 (q387 d)):=by
 have hm:prog.follows .mixedOrders=true:=qjt
 have hT:=tys
 have hC0:OrcOK prog (orc (q37b (q37a d))):=qcs (by
  intro S hS
  simp only [q37b,List.mem_cons,List.not_mem_nil,or_false] at hS
  all_goals first | cases hS | exact hS.elim)
 have hC:OrcOK prog (orc (q37b (q37a d))):=hC0
 refine q8e (c:=qcy f36) (fn:=f36) hT (by kernel_rfl) (by kernel_rfl) (by decide) fun x r h w0 φ0 Q hend=>?_
 replace h:q387 d x=some r:=h
 unfold q387 at h
 show Run prog w0 φ0 26 (qcy f36) ⟨[(0,.fz Rii x.1.1),(1,.fz Rii x.2.1.1)],[]⟩ Q
 refine q3yx hm hT hC (q37f (q37a d) (x.1.1,x.2.1.1)) h fun y0 h=>?_
 refine q7y ?_
 refine q3yx hm hT hC (q37j (q37a d) y0) h fun y1 h=>?_
 refine q82 (v:=y1.2.2) (by kernel_rfl) h ?_ ?_
 ·
  intro h
  refine q3yx hm hT hC (q37n (q37a d) y1) h fun y2 h=>?_
  refine q7x (q7m ?_)
  cases h
  exact (hend _ (by kernel_rfl)).2
 ·
  intro h
  refine q7u (q7k (q7y ?_))
  refine q3yx hm hT hC (q37r (q37a d) y1) h fun y3 h=>?_
  refine q7z ?_
  refine q84 (G:=iter (q386 d )) (S:=(fun x1=>⟨[(0,.fz Rii x1.1),(1,.fz Rii x1.2.1),(5,i6 x1.2.2)],[]⟩:List Dii×List Dii×Int→St)) (fun _=>rfl) ?_ d _ h
  intro n1 x1 h K1 hn1
  replace h:q386 d  (iter (q386 d ) n1) x1=some r:=h
  generalize iter (q386 d ) n1=self1 at h hn1
  unfold q386 at h
  refine q7y ?_
  refine q3yx hm hT hC (q37v (q37a d) x1) h fun y4 h=>?_
  refine q82 (v:=y4.2.2.2) (by kernel_rfl) h ?_ ?_
  ·
   intro h
   refine q7u (q7k (q7y (q7z ?_)))
   refine q3yx hm hT hC (q37z (q37a d) y4) h fun y6 h=>?_
   refine q82 (v:=y6.2.2.2) (by kernel_rfl) h ?_ ?_
   ·
    intro h
    refine q3yx hm hT hC (q381 (q37a d) y6) h fun y7 h=>?_
    refine q7x (q7o (q7m (q7m (q7o (q7m ?_)))))
    cases h
    exact (hend _ (by kernel_rfl)).2
   ·
    intro h
    refine q7u (q7n (q7k ?_))
    refine q83 hm hT hC (q383 (q37a d) y6) h ?_
    intro y5 h
    exact hn1 _ h
  ·
   intro h
   refine q7w (q7l (q7l (q7p (q7k ?_))))
   refine q3yx hm hT hC (q385 (q37a d) y4) h fun y8 h=>?_
   refine q7x ?_
   cases h
   exact (hend _ (by kernel_rfl)).2
end Go.Proofs.YtpfhgnccpiildaaGreat

namespace Go.Proofs.YtpfhgnccpiildaaGreat
open Go Go.Tx Go.Pel Go.Proofs.Tryz
set_option maxRecDepth 100000
set_option maxHeartbeats 0
end Go.Proofs.YtpfhgnccpiildaaGreat
