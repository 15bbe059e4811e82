/- Walks of the references; the orders agree; examples. -/
import Derived.Test.YtpfhgnccpiildaaGreatGg
set_option linter.unusedSimpArgs false
set_option linter.unusedVariables false
namespace Go.Proofs.YtpfhgnccpiildaaGreat
open Go Go.Tx Go.Proofs.Tryz
set_option maxRecDepth 100000
set_option maxHeartbeats 0
abbrev q2o6:List Pk:=[.row Rbuu true]
abbrev q2o7:Type:=Dbuu×Unit
abbrev q2o8:Type:=Int
def q2o9 (r:q2o8):LV×List Ob:=(.int .i64 r,[])
def q2oa (F:q2o7→Option q2o8):Go.Tx.Spec:=⟨90,q2o6,q2o8,F,q2o9⟩
abbrev q2ob:Type:=Unit
def q2oc (_d:Nat):q2ob:=()
def q2od (C:q2ob):List Go.Tx.Spec:=[]
abbrev q2oe:Type:=Bool×Int×Int
def q2of (v:q2oe):St:=⟨[(0,.agg [.bool v.1,.int .u64 v.2.1,.int .u64 v.2.2])],[]⟩
abbrev q2og:Type:=Bool×Int×Int
def q2oh (v:q2og):St:=⟨[(1,.ptr 0 0)],[.cells [.bool v.1,.int .u64 v.2.1,.int .u64 v.2.2]]⟩
def q2oi (C:q2ob) (v:q2oe):Dt q2og:=(Dt.ret (v.1,v.2.1,v.2.2))
abbrev q40l {V Y:Type}:=@rg q2ob V Y tysT (fun C=>(orc (q2od C))) 13
theorem q2oj C v:q40l (regO (qcz f90) 0) false [(1,.any)] q2of q2oi q2oh C v:=rgI (by kernel_rfl)
abbrev q2ok:Type:=Bool×Bool×Int×Int
def q2ol (v:q2ok):St:=⟨[(1,.ptr 0 0),(10,.bool v.1)],[.cells [.bool v.2.1,.int .u64 v.2.2.1,.int .u64 v.2.2.2]]⟩
def q2om (C:q2ob) (v:q2og):Dt q2ok:=(Dt.ite (v.2.1 == (0:Int)) (Dt.ret ((v.2.2 == (0:Int)),v.1,v.2.1,v.2.2)) (Dt.ret (false,v.1,v.2.1,v.2.2)))
theorem q2on C v:q40l (regO (qcz f90) 1) false (an [1,10]) q2oh q2om q2ol C v:=rgI (by kernel_rfl)
abbrev q2oo:Type:=Int
def q2op (v:q2oo):St:=⟨[(2,.int .i64 v)],[]⟩
def q2oq (C:q2ob) (v:q2ok):Dt q2oo:=(Dt.ret (0:Int))
theorem q2or C v:q40l (regO (qcz f90) 2) false [(2,.any)] q2ol q2oq q2op C v:=rgI (by kernel_rfl)
abbrev q2os:Type:=Bool
def q2ot (v:q2os):St:=⟨[(12,.bool v)],[]⟩
def q2ou (C:q2ob) (v:q2ok):Dt q2os:=(Dt.ret v.2.1)
theorem q2ov C v:q40l (regO (qcz f90) 3) false [(12,.any)] q2ol q2ou q2ot C v:=rgI (by kernel_rfl)
def q2ow (C:q2ob) (v:q2os):Dt q2oo:=(Dt.ret (-1:Int))
theorem q2ox C v:q40l (regO (qcz f90) 4) false [(2,.any)] q2ot q2ow q2op C v:=rgI (by kernel_rfl)
def q2oy (C:q2ob) (v:q2os):Dt q2oo:=(Dt.ret (1:Int))
theorem q2oz C v:q40l (regO (qcz f90) 5) false [(2,.any)] q2ot q2oy q2op C v:=rgI (by kernel_rfl)
def q2p0 (d:Nat) (x:q2o7):Option q2o8 :=
 (q2oi (q2oc d) (x.1.1,x.1.2.1,x.1.2.2.1)).eval fun y0 =>
 (q2om (q2oc d) y0).eval fun y1 =>
 bif y1.1 then ((q2oq (q2oc d) y1).eval fun y2 =>
 some y2) else ((q2ou (q2oc d) y1).eval fun y3 =>
 bif y3 then ((q2ow (q2oc d) y3).eval fun y4 =>
 some y4) else ((q2oy (q2oc d) y3).eval fun y5 =>
 some y5))
theorem q2p1 (d:Nat):COK prog (q2oa (q2p0 d)):=by
 have hm:prog.follows .mixedOrders=true:=qju
 have hT:=tys
 have hC0:OrcOK prog (orc (q2od (q2oc d))):=qct (by
  intro S hS
  simp only [q2od,List.mem_cons,List.not_mem_nil,or_false] at hS
  all_goals first | cases hS | exact hS.elim)
 have hC:OrcOK prog (orc (q2od (q2oc d))):=hC0
 refine q8f (c:=qcz f90) (fn:=f90) hT (by kernel_rfl) (by kernel_rfl) (by decide) fun x r h w0 φ0 Q hend=>?_
 replace h:q2p0 d x=some r:=h
 unfold q2p0 at h
 show Run prog w0 φ0 13 (qcz f90) ⟨[(0,.agg [.bool x.1.1,.int .u64 x.1.2.1,.int .u64 x.1.2.2.1])],[]⟩ Q
 refine q3yy hm hT hC (q2oj (q2oc d) (x.1.1,x.1.2.1,x.1.2.2.1)) h fun y0 h=>?_
 refine q7z ?_
 refine q3yy hm hT hC (q2on (q2oc d) y0) h fun y1 h=>?_
 refine q83 (v:=y1.1) (by kernel_rfl) h ?_ ?_
 ·
  intro h
  refine q3yy hm hT hC (q2or (q2oc d) y1) h fun y2 h=>?_
  refine q7y (q7n ?_)
  cases h
  exact (hend _ (by kernel_rfl)).2
 ·
  intro h
  refine q7v (q7l (q7z ?_))
  refine q3yy hm hT hC (q2ov (q2oc d) y1) h fun y3 h=>?_
  refine q83 (v:=y3) (by kernel_rfl) h ?_ ?_
  ·
   intro h
   refine q3yy hm hT hC (q2ox (q2oc d) y3) h fun y4 h=>?_
   refine q7y (q7n ?_)
   cases h
   exact (hend _ (by kernel_rfl)).2
  ·
   intro h
   refine q7v (q7l ?_)
   refine q3yy hm hT hC (q2oz (q2oc d) y3) h fun y5 h=>?_
   refine q7y ?_
   cases h
   exact (hend _ (by kernel_rfl)).2
abbrev q2p2:List Pk:=[.row Rii true,.row Rii true]
abbrev q2p3:Type:=Dii×Dii×Unit
abbrev q2p4:Type:=Int
def q2p5 (r:q2p4):LV×List Ob:=(.int .i64 r,[])
def q2p6 (F:q2p3→Option q2p4):Go.Tx.Spec:=⟨43,q2p2,q2p4,F,q2p5⟩
abbrev q2p7:Type:=(qmq→Option qmr)×(q2o7→Option q2o8)×(q1te→Option q1tf)×Unit
def q2p8 (d:Nat):q2p7:=(qmv d,q2p0 d,q1uj d,())
def q2p9 (C:q2p7):List Go.Tx.Spec:=[qmt C.1,q2oa C.2.1,q1th C.2.2.1]
abbrev q2pa:Type:=Int×Int×Int×Int
def q2pb (v:q2pa):St:=⟨[(0,.agg [.int .i64 v.1,.int .i64 v.2.1]),(1,.agg [.int .i64 v.2.2.1,.int .i64 v.2.2.2])],[]⟩
abbrev q2pc:Type:=Int×Int×Int×Int
def q2pd (v:q2pc):St:=⟨[(2,.ptr 0 0),(3,.ptr 1 0)],[.cells [.int .i64 v.1,.int .i64 v.2.1],.cells [.int .i64 v.2.2.1,.int .i64 v.2.2.2]]⟩
def q2pe (C:q2p7) (v:q2pa):Dt q2pc:=(Dt.ret (v.1,v.2.1,v.2.2.1,v.2.2.2))
abbrev q40m {V Y:Type}:=@rg q2p7 V Y tysT (fun C=>(orc (q2p9 C))) 36
theorem q2pf C v:q40m (regO (qcz f43) 0) false (an [2,3]) q2pb q2pe q2pd C v:=rgI (by kernel_rfl)
abbrev q2pg:Type:=Bool×Int×Int×Bool×Int×Int
def q2ph (v:q2pg):St:=⟨[(5,.ptr 0 0),(6,.ptr 1 0)],[.cells [.bool v.1,.int .u64 v.2.1,.int .u64 v.2.2.1],.cells [.bool v.2.2.2.1,.int .u64 v.2.2.2.2.1,.int .u64 v.2.2.2.2.2]]⟩
def q2pi (C:q2p7) (v:q2pc):Dt q2pg:=(Dt.bnd (C.1 ((v.1,()),(v.2.2.2,()),())) fun r1=>(Dt.bnd (C.1 ((v.2.2.1,()),(v.2.1,()),())) fun r2=>(Dt.ret (r1.1,r1.2.1,r1.2.2,r2.1,r2.2.1,r2.2.2))))
theorem q2pj C v:q40m (regO (qcz f43) 1) true (an [5,6]) q2pd q2pi q2ph C v:=rgI (by kernel_rfl)
abbrev q2pk:Type:=Bool×Bool×Int×Int×Bool×Int×Int
def q2pl (v:q2pk):St:=⟨[(5,.ptr 0 0),(6,.ptr 1 0),(21,.bool v.1)],[.cells [.bool v.2.1,.int .u64 v.2.2.1,.int .u64 v.2.2.2.1],.cells [.bool v.2.2.2.2.1,.int .u64 v.2.2.2.2.2.1,.int .u64 v.2.2.2.2.2.2]]⟩
def q2pm (C:q2p7) (v:q2pg):Dt q2pk:=(Dt.bnd (C.2.1 ((v.1,v.2.1,v.2.2.1,()),())) fun r1=>(Dt.bnd (C.2.1 ((v.2.2.2.1,v.2.2.2.2.1,v.2.2.2.2.2,()),())) fun r2=>(Dt.ret ((r1 != r2),v.1,v.2.1,v.2.2.1,v.2.2.2.1,v.2.2.2.2.1,v.2.2.2.2.2))))
theorem q2pn C v:q40m (regO (qcz f43) 2) true (an [5,6,21]) q2ph q2pm q2pl C v:=rgI (by kernel_rfl)
abbrev q2po:Type:=Bool
def q2pp (v:q2po):St:=⟨[(26,.bool v)],[]⟩
def q2pq (C:q2p7) (v:q2pk):Dt q2po:=(Dt.bnd (C.2.1 ((v.2.1,v.2.2.1,v.2.2.2.1,()),())) fun r1=>(Dt.bnd (C.2.1 ((v.2.2.2.2.1,v.2.2.2.2.2.1,v.2.2.2.2.2.2,()),())) fun r2=>(Dt.ret (decide (r1 < r2)))))
theorem q2pr C v:q40m (regO (qcz f43) 3) true [(26,.any)] q2pl q2pq q2pp C v:=rgI (by kernel_rfl)
abbrev q2ps:Type:=Int
def q2pt (v:q2ps):St:=⟨[(4,.int .i64 v)],[]⟩
def q2pu (C:q2p7) (v:q2po):Dt q2ps:=(Dt.ret (-1:Int))
theorem q2pv C v:q40m (regO (qcz f43) 4) false [(4,.any)] q2pp q2pu q2pt C v:=rgI (by kernel_rfl)
def q2pw (C:q2p7) (v:q2po):Dt q2ps:=(Dt.ret (1:Int))
theorem q2px C v:q40m (regO (qcz f43) 5) false [(4,.any)] q2pp q2pw q2pt C v:=rgI (by kernel_rfl)
abbrev q2py:Type:=Bool×Bool×Int×Int×Bool×Int×Int
def q2pz (v:q2py):St:=⟨[(5,.ptr 0 0),(6,.ptr 1 0),(29,.bool v.1)],[.cells [.bool v.2.1,.int .u64 v.2.2.1,.int .u64 v.2.2.2.1],.cells [.bool v.2.2.2.2.1,.int .u64 v.2.2.2.2.2.1,.int .u64 v.2.2.2.2.2.2]]⟩
def q2q0 (C:q2p7) (v:q2pk):Dt q2py:=(Dt.bnd (C.2.1 ((v.2.1,v.2.2.1,v.2.2.2.1,()),())) fun r1=>(Dt.ret ((decide (r1 < (0:Int))),v.2.1,v.2.2.1,v.2.2.2.1,v.2.2.2.2.1,v.2.2.2.2.2.1,v.2.2.2.2.2.2)))
theorem q2q1 C v:q40m (regO (qcz f43) 6) false (an [5,6,29]) q2pl q2q0 q2pz C v:=rgI (by kernel_rfl)
def q2q2 (C:q2p7) (v:q2py):Dt q2ps:=(Dt.bnd (C.2.2.1 ((v.2.2.2.2.1,v.2.2.2.2.2.1,v.2.2.2.2.2.2,()),(v.2.1,v.2.2.1,v.2.2.2.1,()),())) fun r1=>(Dt.ret r1))
theorem q2q3 C v:q40m (regO (qcz f43) 7) false [(4,.any)] q2pz q2q2 q2pt C v:=rgI (by kernel_rfl)
def q2q4 (C:q2p7) (v:q2py):Dt q2ps:=(Dt.bnd (C.2.2.1 ((v.2.1,v.2.2.1,v.2.2.2.1,()),(v.2.2.2.2.1,v.2.2.2.2.2.1,v.2.2.2.2.2.2,()),())) fun r1=>(Dt.ret r1))
theorem q2q5 C v:q40m (regO (qcz f43) 8) false [(4,.any)] q2pz q2q4 q2pt C v:=rgI (by kernel_rfl)
def q2q6 (d:Nat) (x:q2p3):Option q2p4 :=
 (q2pe (q2p8 d) (x.1.1,x.1.2.1,x.2.1.1,x.2.1.2.1)).eval fun y0 =>
 (q2pi (q2p8 d) y0).eval fun y1 =>
 (q2pm (q2p8 d) y1).eval fun y2 =>
 bif y2.1 then ((q2pq (q2p8 d) y2).eval fun y3 =>
 bif y3 then ((q2pu (q2p8 d) y3).eval fun y4 =>
 some y4) else ((q2pw (q2p8 d) y3).eval fun y5 =>
 some y5)) else ((q2q0 (q2p8 d) y2).eval fun y6 =>
 bif y6.1 then ((q2q2 (q2p8 d) y6).eval fun y7 =>
 some y7) else ((q2q4 (q2p8 d) y6).eval fun y8 =>
 some y8))
theorem q2q7 (d:Nat):COK prog (q2p6 (q2q6 d)):=by
 have hm:prog.follows .mixedOrders=true:=qju
 have hT:=tys
 have hC0:OrcOK prog (orc (q2p9 (q2p8 d))):=qct (by
  intro S hS
  simp only [q2p9,List.mem_cons,List.not_mem_nil,or_false] at hS
  rcases hS with rfl | rfl | rfl
  · exact qmx d
  · exact q2p1 d
  · exact q1uk d)
 have hC:OrcOK prog (orc (q2p9 (q2p8 d))):=hC0
 refine q8f (c:=qcz f43) (fn:=f43) hT (by kernel_rfl) (by kernel_rfl) (by decide) fun x r h w0 φ0 Q hend=>?_
 replace h:q2q6 d x=some r:=h
 unfold q2q6 at h
 show Run prog w0 φ0 36 (qcz f43) ⟨[(0,.agg [.int .i64 x.1.1,.int .i64 x.1.2.1]),(1,.agg [.int .i64 x.2.1.1,.int .i64 x.2.1.2.1])],[]⟩ Q
 refine q3yy hm hT hC (q2pf (q2p8 d) (x.1.1,x.1.2.1,x.2.1.1,x.2.1.2.1)) h fun y0 h=>?_
 refine q3yy hm hT hC (q2pj (q2p8 d) y0) h fun y1 h=>?_
 refine q7z ?_
 refine q3yy hm hT hC (q2pn (q2p8 d) y1) h fun y2 h=>?_
 refine q83 (v:=y2.1) (by kernel_rfl) h ?_ ?_
 ·
  intro h
  refine q7z ?_
  refine q3yy hm hT hC (q2pr (q2p8 d) y2) h fun y3 h=>?_
  refine q83 (v:=y3) (by kernel_rfl) h ?_ ?_
  ·
   intro h
   refine q3yy hm hT hC (q2pv (q2p8 d) y3) h fun y4 h=>?_
   refine q7y (q7n (q7n ?_))
   cases h
   exact (hend _ (by kernel_rfl)).2
  ·
   intro h
   refine q7v (q7l ?_)
   refine q3yy hm hT hC (q2px (q2p8 d) y3) h fun y5 h=>?_
   refine q7y (q7n ?_)
   cases h
   exact (hend _ (by kernel_rfl)).2
 ·
  intro h
  refine q7v (q7l (q7z ?_))
  refine q3yy hm hT hC (q2q1 (q2p8 d) y2) h fun y6 h=>?_
  refine q83 (v:=y6.1) (by kernel_rfl) h ?_ ?_
  ·
   intro h
   refine q3yy hm hT hC (q2q3 (q2p8 d) y6) h fun y7 h=>?_
   refine q7y (q7n ?_)
   cases h
   exact (hend _ (by kernel_rfl)).2
  ·
   intro h
   refine q7v (q7l ?_)
   refine q3yy hm hT hC (q2q5 (q2p8 d) y6) h fun y8 h=>?_
   refine q7y ?_
   cases h
   exact (hend _ (by kernel_rfl)).2
abbrev q2q8:List Pk:=[.row qjc true,.row Rii true,.row Rii true]
abbrev q2q9:Type:=qjd×Dii×Dii×Unit
abbrev q2qa:Type:=Int
def q2qb (r:q2qa):LV×List Ob:=(.int .i64 r,[])
def q2qc (F:q2q9→Option q2qa):Go.Tx.Spec:=⟨11,q2q8,q2qa,F,q2qb⟩
abbrev q2qd:Type:=(q2p3→Option q2p4)×(qpq→Option qpr)×(q1rz→Option q1s0)×Unit
def q2qe (d:Nat):q2qd:=(q2q6 d,qpv d,q1sm d,())
def q2qf (C:q2qd):List Go.Tx.Spec:=[q2p6 C.1,qpt C.2.1,q1s2 C.2.2.1]
abbrev q2qg:Type:=List Diii×Int×Int×Int×Int
def q2qh (v:q2qg):St:=⟨[(0,.agg [.fz Riii v.1]),(1,.agg [.int .i64 v.2.1,.int .i64 v.2.2.1]),(2,.agg [.int .i64 v.2.2.2.1,.int .i64 v.2.2.2.2])],[]⟩
abbrev q2qi:Type:=List Diii×Int×Int×Int×Int
def q2qj (v:q2qi):St:=⟨[(3,.ptr 0 0),(4,.ptr 1 0),(5,.ptr 2 0)],[.cells [.fz Riii v.1],.cells [.int .i64 v.2.1,.int .i64 v.2.2.1],.cells [.int .i64 v.2.2.2.1,.int .i64 v.2.2.2.2]]⟩
def q2qk (C:q2qd) (v:q2qg):Dt q2qi:=(Dt.ret (v.1,v.2.1,v.2.2.1,v.2.2.2.1,v.2.2.2.2))
abbrev q40n {V Y:Type}:=@rg q2qd V Y tysT (fun C=>(orc (q2qf C))) 24
theorem q2ql C v:q40n (regO (qcz f11) 0) false [(3,(.box [.val Riii])),(4,.any),(5,.any)] q2qh q2qk q2qj C v:=rgI (by kernel_rfl)
abbrev q2qm:Type:=Int×Int×Int×Int×Int
def q2qn (v:q2qm):St:=⟨[(4,.ptr 0 0),(5,.ptr 1 0),(7,.int .i64 v.1)],[.cells [.int .i64 v.2.1,.int .i64 v.2.2.1],.cells [.int .i64 v.2.2.2.1,.int .i64 v.2.2.2.2]]⟩
def q2qo (C:q2qd) (v:q2qi):Dt q2qm:=(Dt.bnd (C.2.1 ((v.1,()),())) fun r1=>(Dt.ret (r1,v.2.1,v.2.2.1,v.2.2.2.1,v.2.2.2.2)))
theorem q2qp C v:q40n (regO (qcz f11) 1) false (an [4,5,7]) q2qj q2qo q2qn C v:=rgI (by kernel_rfl)
abbrev q2qq:Type:=Int×Bool×Int×Int×Int×Int
def q2qr (v:q2qq):St:=⟨[(4,.ptr 0 0),(5,.ptr 1 0),(7,.int .i64 v.1),(12,.bool v.2.1)],[.cells [.int .i64 v.2.2.1,.int .i64 v.2.2.2.1],.cells [.int .i64 v.2.2.2.2.1,.int .i64 v.2.2.2.2.2]]⟩
def q2qs (C:q2qd) (v:q2qm):Dt q2qq:=(Dt.ret (v.1,(v.1 != (0:Int)),v.2.1,v.2.2.1,v.2.2.2.1,v.2.2.2.2))
theorem q2qt C v:q40n (regO (qcz f11) 2) false (an [4,5,7,12]) q2qn q2qs q2qr C v:=rgI (by kernel_rfl)
abbrev q2qu:Type:=Int
def q2qv (v:q2qu):St:=⟨[(6,.int .i64 v)],[]⟩
def q2qw (C:q2qd) (v:q2qq):Dt q2qu:=(Dt.ret v.1)
theorem q2qx C v:q40n (regO (qcz f11) 3) false [(6,.any)] q2qr q2qw q2qv C v:=rgI (by kernel_rfl)
abbrev q2qy:Type:=Int×Int×Int×Int×Int
def q2qz (v:q2qy):St:=⟨[(4,.ptr 0 0),(5,.ptr 1 0),(8,.int .i64 v.1)],[.cells [.int .i64 v.2.1,.int .i64 v.2.2.1],.cells [.int .i64 v.2.2.2.1,.int .i64 v.2.2.2.2]]⟩
def q2r0 (C:q2qd) (v:q2qq):Dt q2qy:=(Dt.bnd (C.2.2.1 ((v.2.2.1,v.2.2.2.1,()),(v.2.2.2.2.1,v.2.2.2.2.2,()),())) fun r1=>(Dt.ret (r1,v.2.2.1,v.2.2.2.1,v.2.2.2.2.1,v.2.2.2.2.2)))
theorem q2r1 C v:q40n (regO (qcz f11) 4) false (an [4,5,8]) q2qr q2r0 q2qz C v:=rgI (by kernel_rfl)
abbrev q2r2:Type:=Int×Bool×Int×Int×Int×Int
def q2r3 (v:q2r2):St:=⟨[(4,.ptr 0 0),(5,.ptr 1 0),(8,.int .i64 v.1),(18,.bool v.2.1)],[.cells [.int .i64 v.2.2.1,.int .i64 v.2.2.2.1],.cells [.int .i64 v.2.2.2.2.1,.int .i64 v.2.2.2.2.2]]⟩
def q2r4 (C:q2qd) (v:q2qy):Dt q2r2:=(Dt.ret (v.1,(v.1 != (0:Int)),v.2.1,v.2.2.1,v.2.2.2.1,v.2.2.2.2))
theorem q2r5 C v:q40n (regO (qcz f11) 5) false (an [4,5,8,18]) q2qz q2r4 q2r3 C v:=rgI (by kernel_rfl)
def q2r6 (C:q2qd) (v:q2r2):Dt q2qu:=(Dt.ret v.1)
theorem q2r7 C v:q40n (regO (qcz f11) 6) false [(6,.any)] q2r3 q2r6 q2qv C v:=rgI (by kernel_rfl)
abbrev q2r8:Type:=Bool
def q2r9 (v:q2r8):St:=⟨[(23,.bool v)],[]⟩
def q2ra (C:q2qd) (v:q2r2):Dt q2r8:=(Dt.bnd (C.1 ((v.2.2.1,v.2.2.2.1,()),(v.2.2.2.2.1,v.2.2.2.2.2,()),())) fun r1=>(Dt.ret (decide (r1 > (0:Int)))))
theorem q2rb C v:q40n (regO (qcz f11) 7) false [(23,.any)] q2r3 q2ra q2r9 C v:=rgI (by kernel_rfl)
def q2rc (C:q2qd) (v:q2r8):Dt q2qu:=(Dt.ret (2:Int))
theorem q2rd C v:q40n (regO (qcz f11) 8) false [(6,.any)] q2r9 q2rc q2qv C v:=rgI (by kernel_rfl)
def q2re (C:q2qd) (v:q2r8):Dt q2qu:=(Dt.ret (0:Int))
theorem q2rf C v:q40n (regO (qcz f11) 9) false [(6,.any)] q2r9 q2re q2qv C v:=rgI (by kernel_rfl)
def q2rg (d:Nat) (x:q2q9):Option q2qa :=
 (q2qk (q2qe d) (x.1.1,x.2.1.1,x.2.1.2.1,x.2.2.1.1,x.2.2.1.2.1)).eval fun y0 =>
 (q2qo (q2qe d) y0).eval fun y1 =>
 (q2qs (q2qe d) y1).eval fun y2 =>
 bif y2.2.1 then ((q2qw (q2qe d) y2).eval fun y3 =>
 some y3) else ((q2r0 (q2qe d) y2).eval fun y4 =>
 (q2r4 (q2qe d) y4).eval fun y5 =>
 bif y5.2.1 then ((q2r6 (q2qe d) y5).eval fun y6 =>
 some y6) else ((q2ra (q2qe d) y5).eval fun y7 =>
 bif y7 then ((q2rc (q2qe d) y7).eval fun y8 =>
 some y8) else ((q2re (q2qe d) y7).eval fun y9 =>
 some y9)))
theorem q2rh (d:Nat):COK prog (q2qc (q2rg d)):=by
 have hm:prog.follows .mixedOrders=true:=qju
 have hT:=tys
 have hC0:OrcOK prog (orc (q2qf (q2qe d))):=qct (by
  intro S hS
  simp only [q2qf,List.mem_cons,List.not_mem_nil,or_false] at hS
  rcases hS with rfl | rfl | rfl
  · exact q2q7 d
  · exact qpx d
  · exact q1sn d)
 have hC:OrcOK prog (orc (q2qf (q2qe d))):=hC0
 refine q8f (c:=qcz f11) (fn:=f11) hT (by kernel_rfl) (by kernel_rfl) (by decide) fun x r h w0 φ0 Q hend=>?_
 replace h:q2rg d x=some r:=h
 unfold q2rg at h
 show Run prog w0 φ0 24 (qcz f11) ⟨[(0,.agg [.fz Riii x.1.1]),(1,.agg [.int .i64 x.2.1.1,.int .i64 x.2.1.2.1]),(2,.agg [.int .i64 x.2.2.1.1,.int .i64 x.2.2.1.2.1])],[]⟩ Q
 refine q3yy hm hT hC (q2ql (q2qe d) (x.1.1,x.2.1.1,x.2.1.2.1,x.2.2.1.1,x.2.2.1.2.1)) h fun y0 h=>?_
 refine q7z ?_
 refine q3yy hm hT hC (q2qp (q2qe d) y0) h fun y1 h=>?_
 refine q3yy hm hT hC (q2qt (q2qe d) y1) h fun y2 h=>?_
 refine q83 (v:=y2.2.1) (by kernel_rfl) h ?_ ?_
 ·
  intro h
  refine q3yy hm hT hC (q2qx (q2qe d) y2) h fun y3 h=>?_
  refine q7y (q7n ?_)
  cases h
  exact (hend _ (by kernel_rfl)).2
 ·
  intro h
  refine q7v (q7l (q7z ?_))
  refine q3yy hm hT hC (q2r1 (q2qe d) y2) h fun y4 h=>?_
  refine q3yy hm hT hC (q2r5 (q2qe d) y4) h fun y5 h=>?_
  refine q83 (v:=y5.2.1) (by kernel_rfl) h ?_ ?_
  ·
   intro h
   refine q3yy hm hT hC (q2r7 (q2qe d) y5) h fun y6 h=>?_
   refine q7y (q7n ?_)
   cases h
   exact (hend _ (by kernel_rfl)).2
  ·
   intro h
   refine q7v (q7l (q7z ?_))
   refine q3yy hm hT hC (q2rb (q2qe d) y5) h fun y7 h=>?_
   refine q83 (v:=y7) (by kernel_rfl) h ?_ ?_
   ·
    intro h
    refine q3yy hm hT hC (q2rd (q2qe d) y7) h fun y8 h=>?_
    refine q7y (q7n ?_)
    cases h
    exact (hend _ (by kernel_rfl)).2
   ·
    intro h
    refine q7v (q7l ?_)
    refine q3yy hm hT hC (q2rf (q2qe d) y7) h fun y9 h=>?_
    refine q7y ?_
    cases h
    exact (hend _ (by kernel_rfl)).2
abbrev q2ri:List Pk:=[.row Riii true,.row Riii true]
abbrev q2rj:Type:=Diii×Diii×Unit
abbrev q2rk:Type:=Int×Int
def q2rl (r:q2rk):LV×List Ob:=(.agg [.int .i64 r.1,.int .i64 r.2],[])
def q2rm (F:q2rj→Option q2rk):Go.Tx.Spec:=⟨157,q2ri,q2rk,F,q2rl⟩
abbrev q2rn:Type:=(qnq→Option qnr)×Unit
def q2ro (d:Nat):q2rn:=(qnv d,())
def q2rp (C:q2rn):List Go.Tx.Spec:=[qnt C.1]
abbrev q2rq:Type:=Int×Int×Int×Int×Int×Int
def q2rr (v:q2rq):St:=⟨[(0,.agg [.int .i64 v.1,.int .i64 v.2.1,.int .i64 v.2.2.1]),(1,.agg [.int .i64 v.2.2.2.1,.int .i64 v.2.2.2.2.1,.int .i64 v.2.2.2.2.2])],[]⟩
abbrev q2rs:Type:=Int×Int×Int×Int×Int×Int×Int×Int
def q2rt (v:q2rs):St:=⟨[(2,.ptr 0 0),(3,.ptr 1 0),(4,.ptr 2 0)],[.cells [.int .i64 v.1,.int .i64 v.2.1,.int .i64 v.2.2.1],.cells [.int .i64 v.2.2.2.1,.int .i64 v.2.2.2.2.1,.int .i64 v.2.2.2.2.2.1],.cells [.int .i64 v.2.2.2.2.2.2.1,.int .i64 v.2.2.2.2.2.2.2]]⟩
def q2ru (C:q2rn) (v:q2rq):Dt q2rs:=(Dt.ret (v.1,v.2.1,v.2.2.1,v.2.2.2.1,v.2.2.2.2.1,v.2.2.2.2.2,(0:Int),(0:Int)))
abbrev q40o {V Y:Type}:=@rg q2rn V Y tysT (fun C=>(orc (q2rp C))) 22
theorem q2rv C v:q40o (regO (qcz f157) 0) false (an [2,3,4]) q2rr q2ru q2rt C v:=rgI (by kernel_rfl)
abbrev q2rw:Type:=Int×Int×Int×Int
def q2rx (v:q2rw):St:=⟨[(4,.ptr 0 0),(5,.ptr 1 0)],[.cells [.int .i64 v.1,.int .i64 v.2.1],.cells [.int .i64 v.2.2.1,.int .i64 v.2.2.2]]⟩
def q2ry (C:q2rn) (v:q2rs):Dt q2rw:=(Dt.bnd (C.1 (((IntKind.wrap .i64 (v.2.1 - v.2.2.2.2.1)),()),((IntKind.wrap .i64 (v.2.2.2.2.2.1 - v.2.2.1)),()),())) fun r1=>(Dt.ret (v.2.2.2.2.2.2.1,v.2.2.2.2.2.2.2,r1.1,r1.2.1)))
theorem q2rz C v:q40o (regO (qcz f157) 1) false (an [4,5]) q2rt q2ry q2rx C v:=rgI (by kernel_rfl)
abbrev q2s0:Type:=Int×Int
def q2s1 (v:q2s0):St:=⟨[(4,.ptr 0 0)],[.cells [.int .i64 v.1,.int .i64 v.2]]⟩
def q2s2 (C:q2rn) (v:q2rw):Dt q2s0:=(Dt.ret (v.2.2.1,v.2.2.2))
theorem q2s3 C v:q40o (regO (qcz f157) 2) false [(4,.any)] q2rx q2s2 q2s1 C v:=rgI (by kernel_rfl)
def q2s4 (d:Nat) (x:q2rj):Option q2rk :=
 (q2ru (q2ro d) (x.1.1,x.1.2.1,x.1.2.2.1,x.2.1.1,x.2.1.2.1,x.2.1.2.2.1)).eval fun y0 =>
 (q2ry (q2ro d) y0).eval fun y1 =>
 (q2s2 (q2ro d) y1).eval fun y2 =>
 some y2
theorem q2s5 (d:Nat):COK prog (q2rm (q2s4 d)):=by
 have hm:prog.follows .mixedOrders=true:=qju
 have hT:=tys
 have hC0:OrcOK prog (orc (q2rp (q2ro d))):=qct (by
  intro S hS
  simp only [q2rp,List.mem_cons,List.not_mem_nil,or_false] at hS
  subst hS;exact qnx d)
 have hC:OrcOK prog (orc (q2rp (q2ro d))):=hC0
 refine q8f (c:=qcz f157) (fn:=f157) hT (by kernel_rfl) (by kernel_rfl) (by decide) fun x r h w0 φ0 Q hend=>?_
 replace h:q2s4 d x=some r:=h
 unfold q2s4 at h
 show Run prog w0 φ0 22 (qcz f157) ⟨[(0,.agg [.int .i64 x.1.1,.int .i64 x.1.2.1,.int .i64 x.1.2.2.1]),(1,.agg [.int .i64 x.2.1.1,.int .i64 x.2.1.2.1,.int .i64 x.2.1.2.2.1])],[]⟩ Q
 refine q3yy hm hT hC (q2rv (q2ro d) (x.1.1,x.1.2.1,x.1.2.2.1,x.2.1.1,x.2.1.2.1,x.2.1.2.2.1)) h fun y0 h=>?_
 refine q3yy hm hT hC (q2rz (q2ro d) y0) h fun y1 h=>?_
 refine q3yy hm hT hC (q2s3 (q2ro d) y1) h fun y2 h=>?_
 refine q7y ?_
 cases h
 exact (hend _ (by kernel_rfl)).2
abbrev q2s6:List Pk:=[.row qjf true,.row qjf true]
abbrev q2s7:Type:=qjg×qjg×Unit
abbrev q2s8:Type:=Bool
def q2s9 (r:q2s8):LV×List Ob:=(.bool r,[])
def q2sa (F:q2s7→Option q2s8):Go.Tx.Spec:=⟨183,q2s6,q2s8,F,q2s9⟩
abbrev q2sb:Type:=(q2p3→Option q2p4)×Unit
def q2sc (d:Nat):q2sb:=(q2q6 d,())
def q2sd (C:q2sb):List Go.Tx.Spec:=[q2p6 C.1]
abbrev q2se:Type:=Int×Int×Int×Int×Int×Int×Int×Int
def q2sf (v:q2se):St:=⟨[(0,.agg [.int .i64 v.1,.int .i64 v.2.1,.int .i64 v.2.2.1,.int .i64 v.2.2.2.1]),(1,.agg [.int .i64 v.2.2.2.2.1,.int .i64 v.2.2.2.2.2.1,.int .i64 v.2.2.2.2.2.2.1,.int .i64 v.2.2.2.2.2.2.2])],[]⟩
abbrev q2sg:Type:=Int×Int×Int×Int×Int×Int×Int×Int
def q2sh (v:q2sg):St:=⟨[(2,.ptr 0 0),(3,.ptr 1 0)],[.cells [.int .i64 v.1,.int .i64 v.2.1,.int .i64 v.2.2.1,.int .i64 v.2.2.2.1],.cells [.int .i64 v.2.2.2.2.1,.int .i64 v.2.2.2.2.2.1,.int .i64 v.2.2.2.2.2.2.1,.int .i64 v.2.2.2.2.2.2.2]]⟩
def q2si (C:q2sb) (v:q2se):Dt q2sg:=(Dt.ret (v.1,v.2.1,v.2.2.1,v.2.2.2.1,v.2.2.2.2.1,v.2.2.2.2.2.1,v.2.2.2.2.2.2.1,v.2.2.2.2.2.2.2))
abbrev q40p {V Y:Type}:=@rg q2sb V Y tysT (fun C=>(orc (q2sd C))) 30
theorem q2sj C v:q40p (regO (qcz f183) 0) false (an [2,3]) q2sf q2si q2sh C v:=rgI (by kernel_rfl)
abbrev q2sk:Type:=Int×Int×Int×Int×Int×Int×Int×Int×Int
def q2sl (v:q2sk):St:=⟨[(2,.ptr 0 0),(3,.ptr 1 0),(5,.int .i64 v.1)],[.cells [.int .i64 v.2.1,.int .i64 v.2.2.1,.int .i64 v.2.2.2.1,.int .i64 v.2.2.2.2.1],.cells [.int .i64 v.2.2.2.2.2.1,.int .i64 v.2.2.2.2.2.2.1,.int .i64 v.2.2.2.2.2.2.2.1,.int .i64 v.2.2.2.2.2.2.2.2]]⟩
def q2sm (C:q2sb) (v:q2sg):Dt q2sk:=(Dt.bnd (C.1 ((v.1,v.2.1,()),(v.2.2.2.2.1,v.2.2.2.2.2.1,()),())) fun r1=>(Dt.ret (r1,v.1,v.2.1,v.2.2.1,v.2.2.2.1,v.2.2.2.2.1,v.2.2.2.2.2.1,v.2.2.2.2.2.2.1,v.2.2.2.2.2.2.2)))
theorem q2sn C v:q40p (regO (qcz f183) 1) false (an [2,3,5]) q2sh q2sm q2sl C v:=rgI (by kernel_rfl)
abbrev q2so:Type:=Int×Bool×Int×Int×Int×Int×Int×Int×Int×Int
def q2sp (v:q2so):St:=⟨[(2,.ptr 0 0),(3,.ptr 1 0),(5,.int .i64 v.1),(12,.bool v.2.1)],[.cells [.int .i64 v.2.2.1,.int .i64 v.2.2.2.1,.int .i64 v.2.2.2.2.1,.int .i64 v.2.2.2.2.2.1],.cells [.int .i64 v.2.2.2.2.2.2.1,.int .i64 v.2.2.2.2.2.2.2.1,.int .i64 v.2.2.2.2.2.2.2.2.1,.int .i64 v.2.2.2.2.2.2.2.2.2]]⟩
def q2sq (C:q2sb) (v:q2sk):Dt q2so:=(Dt.ret (v.1,(v.1 != (0:Int)),v.2.1,v.2.2.1,v.2.2.2.1,v.2.2.2.2.1,v.2.2.2.2.2.1,v.2.2.2.2.2.2.1,v.2.2.2.2.2.2.2.1,v.2.2.2.2.2.2.2.2))
theorem q2sr C v:q40p (regO (qcz f183) 2) false (an [2,3,5,12]) q2sl q2sq q2sp C v:=rgI (by kernel_rfl)
abbrev q2ss:Type:=Bool
def q2st (v:q2ss):St:=⟨[(4,.bool v)],[]⟩
def q2su (C:q2sb) (v:q2so):Dt q2ss:=(Dt.ret (decide (v.1 < (0:Int))))
theorem q2sv C v:q40p (regO (qcz f183) 3) false [(4,.any)] q2sp q2su q2st C v:=rgI (by kernel_rfl)
abbrev q2sw:Type:=Bool×Int×Int×Int×Int×Int×Int×Int×Int
def q2sx (v:q2sw):St:=⟨[(2,.ptr 0 0),(3,.ptr 1 0),(19,.bool v.1)],[.cells [.int .i64 v.2.1,.int .i64 v.2.2.1,.int .i64 v.2.2.2.1,.int .i64 v.2.2.2.2.1],.cells [.int .i64 v.2.2.2.2.2.1,.int .i64 v.2.2.2.2.2.2.1,.int .i64 v.2.2.2.2.2.2.2.1,.int .i64 v.2.2.2.2.2.2.2.2]]⟩
def q2sy (C:q2sb) (v:q2so):Dt q2sw:=(Dt.ret ((v.2.2.2.2.1 != v.2.2.2.2.2.2.2.2.1),v.2.2.1,v.2.2.2.1,v.2.2.2.2.1,v.2.2.2.2.2.1,v.2.2.2.2.2.2.1,v.2.2.2.2.2.2.2.1,v.2.2.2.2.2.2.2.2.1,v.2.2.2.2.2.2.2.2.2))
theorem q2sz C v:q40p (regO (qcz f183) 4) false (an [2,3,19]) q2sp q2sy q2sx C v:=rgI (by kernel_rfl)
def q2t0 (C:q2sb) (v:q2sw):Dt q2ss:=(Dt.ret (decide (v.2.2.2.1 < v.2.2.2.2.2.2.2.1)))
theorem q2t1 C v:q40p (regO (qcz f183) 5) false [(4,.any)] q2sx q2t0 q2st C v:=rgI (by kernel_rfl)
def q2t2 (C:q2sb) (v:q2sw):Dt q2ss:=(Dt.ret (decide (v.2.2.2.2.1 < v.2.2.2.2.2.2.2.2)))
theorem q2t3 C v:q40p (regO (qcz f183) 6) false [(4,.any)] q2sx q2t2 q2st C v:=rgI (by kernel_rfl)
def q2t4 (d:Nat) (x:q2s7):Option q2s8 :=
 (q2si (q2sc d) (x.1.1,x.1.2.1,x.1.2.2.1,x.1.2.2.2.1,x.2.1.1,x.2.1.2.1,x.2.1.2.2.1,x.2.1.2.2.2.1)).eval fun y0 =>
 (q2sm (q2sc d) y0).eval fun y1 =>
 (q2sq (q2sc d) y1).eval fun y2 =>
 bif y2.2.1 then ((q2su (q2sc d) y2).eval fun y3 =>
 some y3) else ((q2sy (q2sc d) y2).eval fun y4 =>
 bif y4.1 then ((q2t0 (q2sc d) y4).eval fun y5 =>
 some y5) else ((q2t2 (q2sc d) y4).eval fun y6 =>
 some y6))
theorem q2t5 (d:Nat):COK prog (q2sa (q2t4 d)):=by
 have hm:prog.follows .mixedOrders=true:=qju
 have hT:=tys
 have hC0:OrcOK prog (orc (q2sd (q2sc d))):=qct (by
  intro S hS
  simp only [q2sd,List.mem_cons,List.not_mem_nil,or_false] at hS
  subst hS;exact q2q7 d)
 have hC:OrcOK prog (orc (q2sd (q2sc d))):=hC0
 refine q8f (c:=qcz f183) (fn:=f183) hT (by kernel_rfl) (by kernel_rfl) (by decide) fun x r h w0 φ0 Q hend=>?_
 replace h:q2t4 d x=some r:=h
 unfold q2t4 at h
 show Run prog w0 φ0 30 (qcz f183) ⟨[(0,.agg [.int .i64 x.1.1,.int .i64 x.1.2.1,.int .i64 x.1.2.2.1,.int .i64 x.1.2.2.2.1]),(1,.agg [.int .i64 x.2.1.1,.int .i64 x.2.1.2.1,.int .i64 x.2.1.2.2.1,.int .i64 x.2.1.2.2.2.1])],[]⟩ Q
 refine q3yy hm hT hC (q2sj (q2sc d) (x.1.1,x.1.2.1,x.1.2.2.1,x.1.2.2.2.1,x.2.1.1,x.2.1.2.1,x.2.1.2.2.1,x.2.1.2.2.2.1)) h fun y0 h=>?_
 refine q7z ?_
 refine q3yy hm hT hC (q2sn (q2sc d) y0) h fun y1 h=>?_
 refine q3yy hm hT hC (q2sr (q2sc d) y1) h fun y2 h=>?_
 refine q83 (v:=y2.2.1) (by kernel_rfl) h ?_ ?_
 ·
  intro h
  refine q3yy hm hT hC (q2sv (q2sc d) y2) h fun y3 h=>?_
  refine q7y (q7n ?_)
  cases h
  exact (hend _ (by kernel_rfl)).2
 ·
  intro h
  refine q7v (q7l (q7z ?_))
  refine q3yy hm hT hC (q2sz (q2sc d) y2) h fun y4 h=>?_
  refine q83 (v:=y4.1) (by kernel_rfl) h ?_ ?_
  ·
   intro h
   refine q3yy hm hT hC (q2t1 (q2sc d) y4) h fun y5 h=>?_
   refine q7y (q7n ?_)
   cases h
   exact (hend _ (by kernel_rfl)).2
  ·
   intro h
   refine q7v (q7l ?_)
   refine q3yy hm hT hC (q2t3 (q2sc d) y4) h fun y6 h=>?_
   refine q7y ?_
   cases h
   exact (hend _ (by kernel_rfl)).2
abbrev q2t6:List Pk:=[.row qjc true]
abbrev q2t7:Type:=qjd×Unit
abbrev q2t8:Type:=List qjg
def q2t9 (r:q2t8):LV×List Ob:=(.rs 0,[.rows qjf r])
def q2ta (F:q2t7→Option q2t8):Go.Tx.Spec:=⟨159,q2t6,q2t8,F,q2t9⟩
abbrev q2tb:Type:=(q2rj→Option q2rk)×(q2s7→Option q2s8)×Unit
def q2tc (d:Nat):q2tb:=(q2s4 d,q2t4 d,())
def q2td (C:q2tb):List Go.Tx.Spec:=[q2rm C.1,q2sa C.2.1]
abbrev q2te:Type:=List Diii
def q2tf (v:q2te):St:=⟨[(0,.agg [.fz Riii v])],[]⟩
abbrev q2tg:Type:=List Diii
def q2th (v:q2tg):St:=⟨[(1,.ptr 0 0)],[.cells [.fz Riii v]]⟩
def q2ti (C:q2tb) (v:q2te):Dt q2tg:=(Dt.ret v)
abbrev q40q {V Y:Type}:=@rg q2tb V Y tysT (fun C=>(orc (q2td C))) 92
theorem q2tj C v:q40q (regO (qcz f159) 0) false [(1,(.box [.val Riii]))] q2tf q2ti q2th C v:=rgI (by kernel_rfl)
abbrev q2tk:Type:=List Diii×List qjg
def q2tl (v:q2tk):St:=⟨[(1,.ptr 0 0),(3,.rs 1)],[.cells [.fz Riii v.1],.rows qjf v.2]⟩
def q2tm (C:q2tb) (v:q2tg):Dt q2tk:=(Dt.ret (v,([]:List qjg)))
theorem q2tn C v:q40q (regO (qcz f159) 1) false [(1,(.box [.val Riii])),(3,(.own qjf))] q2th q2tm q2tl C v:=rgI (by kernel_rfl)
abbrev q2to:Type:=Int×List Diii×List qjg
def q2tp (v:q2to):St:=⟨[(1,.ptr 0 0),(3,.rs 1),(4,.int .i64 v.1)],[.cells [.fz Riii v.2.1],.rows qjf v.2.2]⟩
def q2tq (C:q2tb) (v:q2tk):Dt q2to:=(Dt.ret ((0:Int),v.1,v.2))
theorem q2tr C v:q40q (regO (qcz f159) 2) false [(1,(.box [.val Riii])),(3,(.own qjf)),(4,.any)] q2tl q2tq q2tp C v:=rgI (by kernel_rfl)
abbrev q2ts:Type:=Int×Bool×List Diii×List qjg
def q2tt (v:q2ts):St:=⟨[(1,.ptr 0 0),(3,.rs 1),(4,.int .i64 v.1),(14,.bool v.2.1)],[.cells [.fz Riii v.2.2.1],.rows qjf v.2.2.2]⟩
def q2tu (C:q2tb) (v:q2to):Dt q2ts:=(Dt.ret (v.1,(decide (v.1 < (List.length v.2.1:Int))),v.2.1,v.2.2))
theorem q2tv C v:q40q (regO (qcz f159) 3) false [(1,(.box [.val Riii])),(3,(.own qjf)),(4,.any),(14,.any)] q2tp q2tu q2tt C v:=rgI (by kernel_rfl)
abbrev q2tw:Type:=Int×Int×List Diii×List qjg
def q2tx (v:q2tw):St:=⟨[(1,.ptr 0 0),(3,.rs 1),(4,.int .i64 v.1),(5,.int .i64 v.2.1)],[.cells [.fz Riii v.2.2.1],.rows qjf v.2.2.2]⟩
def q2ty (C:q2tb) (v:q2ts):Dt q2tw:=(Dt.ret (v.1,(IntKind.wrap .i64 (v.1 + (1:Int))),v.2.2.1,v.2.2.2))
theorem q2tz C v:q40q (regO (qcz f159) 5) false [(1,(.box [.val Riii])),(3,(.own qjf)),(4,.any),(5,.any)] q2tt q2ty q2tx C v:=rgI (by kernel_rfl)
abbrev q2u0:Type:=Int×Int×Bool×List Diii×List qjg
def q2u1 (v:q2u0):St:=⟨[(1,.ptr 0 0),(3,.rs 1),(4,.int .i64 v.1),(5,.int .i64 v.2.1),(23,.bool v.2.2.1)],[.cells [.fz Riii v.2.2.2.1],.rows qjf v.2.2.2.2]⟩
def q2u2 (C:q2tb) (v:q2tw):Dt q2u0:=(Dt.ret (v.1,v.2.1,(decide (v.2.1 < (List.length v.2.2.1:Int))),v.2.2.1,v.2.2.2))
theorem q2u3 C v:q40q (regO (qcz f159) 6) false [(1,(.box [.val Riii])),(3,(.own qjf)),(4,.any),(5,.any),(23,.any)] q2tx q2u2 q2u1 C v:=rgI (by kernel_rfl)
abbrev q2u4:Type:=Int×Int×List Diii×List qjg×Int×Int×Int×Int×Int×Int
def q2u5 (v:q2u4):St:=⟨[(1,.ptr 0 0),(3,.rs 1),(4,.int .i64 v.1),(5,.int .i64 v.2.1),(6,.ptr 2 0),(7,.ptr 3 0)],[.cells [.fz Riii v.2.2.1],.rows qjf v.2.2.2.1,.cells [.int .i64 v.2.2.2.2.1,.int .i64 v.2.2.2.2.2.1,.int .i64 v.2.2.2.2.2.2.1],.cells [.int .i64 v.2.2.2.2.2.2.2.1,.int .i64 v.2.2.2.2.2.2.2.2.1,.int .i64 v.2.2.2.2.2.2.2.2.2]]⟩
def q2u6 (C:q2tb) (v:q2u0):Dt q2u4:=(Dt.ite (inB v.1 (List.length v.2.2.2.1)) (Dt.ite (inB v.2.1 (List.length v.2.2.2.1)) (Dt.ret (v.1,v.2.1,v.2.2.2.1,v.2.2.2.2,(elt ziii v.2.2.2.1 (v.1).toNat).1,(elt ziii v.2.2.2.1 (v.1).toNat).2.1,(elt ziii v.2.2.2.1 (v.1).toNat).2.2.1,(elt ziii v.2.2.2.1 (v.2.1).toNat).1,(elt ziii v.2.2.2.1 (v.2.1).toNat).2.1,(elt ziii v.2.2.2.1 (v.2.1).toNat).2.2.1)) Dt.fail) Dt.fail)
theorem q2u7 C v:q40q (regO (qcz f159) 8) true [(1,(.box [.val Riii])),(3,(.own qjf)),(4,.any),(5,.any),(6,.any),(7,.any)] q2u1 q2u6 q2u5 C v:=rgI (by kernel_rfl)
abbrev q2u8:Type:=Int×Int×Bool×List Diii×List qjg×Int×Int×Int×Int×Int×Int
def q2u9 (v:q2u8):St:=⟨[(1,.ptr 0 0),(3,.rs 1),(4,.int .i64 v.1),(5,.int .i64 v.2.1),(6,.ptr 2 0),(7,.ptr 3 0),(40,.bool v.2.2.1)],[.cells [.fz Riii v.2.2.2.1],.rows qjf v.2.2.2.2.1,.cells [.int .i64 v.2.2.2.2.2.1,.int .i64 v.2.2.2.2.2.2.1,.int .i64 v.2.2.2.2.2.2.2.1],.cells [.int .i64 v.2.2.2.2.2.2.2.2.1,.int .i64 v.2.2.2.2.2.2.2.2.2.1,.int .i64 v.2.2.2.2.2.2.2.2.2.2]]⟩
def q2ua (C:q2tb) (v:q2u4):Dt q2u8:=(Dt.ret (v.1,v.2.1,(v.2.2.2.2.2.2.1 != v.2.2.2.2.2.2.2.2.2),v.2.2.1,v.2.2.2.1,v.2.2.2.2.1,v.2.2.2.2.2.1,v.2.2.2.2.2.2.1,v.2.2.2.2.2.2.2.1,v.2.2.2.2.2.2.2.2.1,v.2.2.2.2.2.2.2.2.2))
theorem q2ub C v:q40q (regO (qcz f159) 9) false [(1,(.box [.val Riii])),(3,(.own qjf)),(4,.any),(5,.any),(6,.any),(7,.any),(40,.any)] q2u5 q2ua q2u9 C v:=rgI (by kernel_rfl)
def q2uc (C:q2tb) (v:q2u8):Dt q2tw:=(Dt.bnd (C.1 ((v.2.2.2.2.2.1,v.2.2.2.2.2.2.1,v.2.2.2.2.2.2.2.1,()),(v.2.2.2.2.2.2.2.2.1,v.2.2.2.2.2.2.2.2.2.1,v.2.2.2.2.2.2.2.2.2.2,()),())) fun r1=>(Dt.ite (apB (List.length v.2.2.2.2.1) (List.length ([(r1.1,r1.2,v.2.2.2.2.2.1,v.2.2.2.2.2.2.2.2.1,())]:List qjg))) (Dt.ret (v.1,v.2.1,v.2.2.2.1,(v.2.2.2.2.1 ++ ([(r1.1,r1.2,v.2.2.2.2.2.1,v.2.2.2.2.2.2.2.2.1,())]:List qjg)))) Dt.fail))
theorem q2ud C v:q40q (regO (qcz f159) 10) true [(1,(.box [.val Riii])),(3,(.own qjf)),(4,.any),(5,.any)] q2u9 q2uc q2tx C v:=rgI (by kernel_rfl)
def q2ue (C:q2tb) (v:q2tw):Dt q2tw:=(Dt.ret (v.1,(IntKind.wrap .i64 (v.2.1 + (1:Int))),v.2.2.1,v.2.2.2))
theorem q2uf C v:q40q (regO (qcz f159) 7) false [(1,(.box [.val Riii])),(3,(.own qjf)),(4,.any),(5,.any)] q2tx q2ue q2tx C v:=rgI (by kernel_rfl)
def q2ug  (d:Nat) (self1:(Int×List Diii×List qjg)→Option q2t8) (self2:(Int×Int×List Diii×List qjg)→Option q2t8) (z:Int×Int×List Diii×List qjg):Option (q2t8) :=
 (q2ue (q2tc d) z).eval fun y7 =>
 self2 y7
def q2uh (C:q2tb) (v:q2u0):Dt q2to:=(Dt.ret ((IntKind.wrap .i64 (v.1 + (1:Int))),v.2.2.2.1,v.2.2.2.2))
theorem q2ui C v:q40q (regO (qcz f159) 4) false [(1,(.box [.val Riii])),(3,(.own qjf)),(4,.any)] q2u1 q2uh q2tp C v:=rgI (by kernel_rfl)
def q2uj (d:Nat) (self1:(Int×List Diii×List qjg)→Option q2t8) (self2:(Int×Int×List Diii×List qjg)→Option q2t8) (x2:Int×Int×List Diii×List qjg):Option q2t8 :=
 (q2u2 (q2tc d) x2).eval fun y6 =>
 bif y6.2.2.1 then ((q2u6 (q2tc d) y6).eval fun y8 =>
 (q2ua (q2tc d) y8).eval fun y9 =>
 bif y9.2.2.1 then ((q2uc (q2tc d) y9).eval fun y10 =>
 q2ug d self1 self2 y10) else (q2ug d self1 self2 (y9.1,y9.2.1,y9.2.2.2.1,y9.2.2.2.2.1))) else ((q2uh (q2tc d) y6).eval fun y4 =>
 self1 y4)
abbrev q2uk:Type:=Int×List qjg
def q2ul (v:q2uk):St:=⟨[(3,.rs 0),(8,.int .i64 v.1)],[.rows qjf v.2]⟩
def q2um (C:q2tb) (v:q2ts):Dt q2uk:=(Dt.ret ((1:Int),v.2.2.2))
theorem q2un C v:q40q (regO (qcz f159) 11) false [(3,(.own qjf)),(8,.any)] q2tt q2um q2ul C v:=rgI (by kernel_rfl)
abbrev q2uo:Type:=Int×Bool×List qjg
def q2up (v:q2uo):St:=⟨[(3,.rs 0),(8,.int .i64 v.1),(55,.bool v.2.1)],[.rows qjf v.2.2]⟩
def q2uq (C:q2tb) (v:q2uk):Dt q2uo:=(Dt.ret (v.1,(decide (v.1 < (List.length v.2:Int))),v.2))
theorem q2ur C v:q40q (regO (qcz f159) 12) false [(3,(.own qjf)),(8,.any),(55,.any)] q2ul q2uq q2up C v:=rgI (by kernel_rfl)
abbrev q2us:Type:=Int×Int×List qjg
def q2ut (v:q2us):St:=⟨[(3,.rs 0),(8,.int .i64 v.1),(9,.int .i64 v.2.1)],[.rows qjf v.2.2]⟩
def q2uu (C:q2tb) (v:q2uo):Dt q2us:=(Dt.ret (v.1,v.1,v.2.2))
theorem q2uv C v:q40q (regO (qcz f159) 14) false [(3,(.own qjf)),(8,.any),(9,.any)] q2up q2uu q2ut C v:=rgI (by kernel_rfl)
abbrev q2uw:Type:=Int×Int×Bool×List qjg
def q2ux (v:q2uw):St:=⟨[(3,.rs 0),(8,.int .i64 v.1),(9,.int .i64 v.2.1),(72,.bool v.2.2.1)],[.rows qjf v.2.2.2]⟩
def q2uy (C:q2tb) (v:q2us):Dt q2uw:=(Dt.ite (decide (v.2.1 > (0:Int))) (Dt.ite (inB v.2.1 (List.length v.2.2)) (Dt.ite (inB (IntKind.wrap .i64 (v.2.1 - (1:Int))) (List.length v.2.2)) (Dt.bnd (C.2.1 (((elt qjh v.2.2 (v.2.1).toNat).1,(elt qjh v.2.2 (v.2.1).toNat).2.1,(elt qjh v.2.2 (v.2.1).toNat).2.2.1,(elt qjh v.2.2 (v.2.1).toNat).2.2.2.1,()),((elt qjh v.2.2 ((IntKind.wrap .i64 (v.2.1 - (1:Int)))).toNat).1,(elt qjh v.2.2 ((IntKind.wrap .i64 (v.2.1 - (1:Int)))).toNat).2.1,(elt qjh v.2.2 ((IntKind.wrap .i64 (v.2.1 - (1:Int)))).toNat).2.2.1,(elt qjh v.2.2 ((IntKind.wrap .i64 (v.2.1 - (1:Int)))).toNat).2.2.2.1,()),())) fun r1=>(Dt.ret (v.1,v.2.1,r1,v.2.2))) Dt.fail) Dt.fail) (Dt.ret (v.1,v.2.1,false,v.2.2)))
theorem q2uz C v:q40q (regO (qcz f159) 15) true [(3,(.own qjf)),(8,.any),(9,.any),(72,.any)] q2ut q2uy q2ux C v:=rgI (by kernel_rfl)
def q2v0 (C:q2tb) (v:q2uw):Dt q2us:=(Dt.ite (inB (IntKind.wrap .i64 (v.2.1 - (1:Int))) (List.length v.2.2.2)) (Dt.ite (inB v.2.1 (List.length v.2.2.2)) (Dt.ite (inB v.2.1 (List.length v.2.2.2)) (Dt.ite (inB (IntKind.wrap .i64 (v.2.1 - (1:Int))) (List.length (List.set v.2.2.2 (v.2.1).toNat ((elt qjh v.2.2.2 ((IntKind.wrap .i64 (v.2.1 - (1:Int)))).toNat).1,(elt qjh v.2.2.2 ((IntKind.wrap .i64 (v.2.1 - (1:Int)))).toNat).2.1,(elt qjh v.2.2.2 ((IntKind.wrap .i64 (v.2.1 - (1:Int)))).toNat).2.2.1,(elt qjh v.2.2.2 ((IntKind.wrap .i64 (v.2.1 - (1:Int)))).toNat).2.2.2.1,())))) (Dt.ret (v.1,v.2.1,(List.set (List.set v.2.2.2 (v.2.1).toNat ((elt qjh v.2.2.2 ((IntKind.wrap .i64 (v.2.1 - (1:Int)))).toNat).1,(elt qjh v.2.2.2 ((IntKind.wrap .i64 (v.2.1 - (1:Int)))).toNat).2.1,(elt qjh v.2.2.2 ((IntKind.wrap .i64 (v.2.1 - (1:Int)))).toNat).2.2.1,(elt qjh v.2.2.2 ((IntKind.wrap .i64 (v.2.1 - (1:Int)))).toNat).2.2.2.1,())) ((IntKind.wrap .i64 (v.2.1 - (1:Int)))).toNat ((elt qjh v.2.2.2 (v.2.1).toNat).1,(elt qjh v.2.2.2 (v.2.1).toNat).2.1,(elt qjh v.2.2.2 (v.2.1).toNat).2.2.1,(elt qjh v.2.2.2 (v.2.1).toNat).2.2.2.1,())))) Dt.fail) Dt.fail) Dt.fail) Dt.fail)
theorem q2v1 C v:q40q (regO (qcz f159) 17) true [(3,(.own qjf)),(8,.any),(9,.any)] q2ux q2v0 q2ut C v:=rgI (by kernel_rfl)
def q2v2 (C:q2tb) (v:q2us):Dt q2us:=(Dt.ret (v.1,(IntKind.wrap .i64 (v.2.1 - (1:Int))),v.2.2))
theorem q2v3 C v:q40q (regO (qcz f159) 16) false [(3,(.own qjf)),(8,.any),(9,.any)] q2ut q2v2 q2ut C v:=rgI (by kernel_rfl)
def q2v4 (C:q2tb) (v:q2uw):Dt q2uk:=(Dt.ret ((IntKind.wrap .i64 (v.1 + (1:Int))),v.2.2.2))
theorem q2v5 C v:q40q (regO (qcz f159) 13) false [(3,(.own qjf)),(8,.any)] q2ux q2v4 q2ul C v:=rgI (by kernel_rfl)
def q2v6 (d:Nat) (self4:(Int×List qjg)→Option q2t8) (self5:(Int×Int×List qjg)→Option q2t8) (x5:Int×Int×List qjg):Option q2t8 :=
 (q2uy (q2tc d) x5).eval fun y15 =>
 bif y15.2.2.1 then ((q2v0 (q2tc d) y15).eval fun y17 =>
 (q2v2 (q2tc d) y17).eval fun y16 =>
 self5 y16) else ((q2v4 (q2tc d) y15).eval fun y13 =>
 self4 y13)
abbrev q2v7:Type:=List qjg
def q2v8 (v:q2v7):St:=⟨[(2,.rs 0)],[.rows qjf v]⟩
def q2v9 (C:q2tb) (v:q2uo):Dt q2v7:=(Dt.ret v.2.2)
theorem q2va C v:q40q (regO (qcz f159) 18) false [(2,(.own qjf))] q2up q2v9 q2v8 C v:=rgI (by kernel_rfl)
def q2vb (d:Nat) (self4:(Int×List qjg)→Option q2t8) (x4:Int×List qjg):Option q2t8 :=
 (q2uq (q2tc d) x4).eval fun y12 =>
 bif y12.2.1 then ((q2uu (q2tc d) y12).eval fun y14 =>
 iter (q2v6 d self4) d y14) else ((q2v9 (q2tc d) y12).eval fun y18 =>
 some y18)
def q2vc (d:Nat) (self1:(Int×List Diii×List qjg)→Option q2t8) (x1:Int×List Diii×List qjg):Option q2t8 :=
 (q2tu (q2tc d) x1).eval fun y3 =>
 bif y3.2.1 then ((q2ty (q2tc d) y3).eval fun y5 =>
 iter (q2uj d self1) d y5) else ((q2um (q2tc d) y3).eval fun y11 =>
 iter (q2vb d ) d y11)
def q2vd (d:Nat) (x:q2t7):Option q2t8 :=
 (q2ti (q2tc d) x.1.1).eval fun y0 =>
 (q2tm (q2tc d) y0).eval fun y1 =>
 (q2tq (q2tc d) y1).eval fun y2 =>
 iter (q2vc d ) d y2
theorem q2ve (d:Nat):COK prog (q2ta (q2vd d)):=by
 have hm:prog.follows .mixedOrders=true:=qju
 have hT:=tys
 have hC0:OrcOK prog (orc (q2td (q2tc d))):=qct (by
  intro S hS
  simp only [q2td,List.mem_cons,List.not_mem_nil,or_false] at hS
  rcases hS with rfl | rfl
  · exact q2s5 d
  · exact q2t5 d)
 have hC:OrcOK prog (orc (q2td (q2tc d))):=hC0
 refine q8f (c:=qcz f159) (fn:=f159) hT (by kernel_rfl) (by kernel_rfl) (by decide) fun x r h w0 φ0 Q hend=>?_
 replace h:q2vd d x=some r:=h
 unfold q2vd at h
 show Run prog w0 φ0 92 (qcz f159) ⟨[(0,.agg [.fz Riii x.1.1])],[]⟩ Q
 refine q3yy hm hT hC (q2tj (q2tc d) x.1.1) h fun y0 h=>?_
 refine q3yy hm hT hC (q2tn (q2tc d) y0) h fun y1 h=>?_
 refine q7z ?_
 refine q3yy hm hT hC (q2tr (q2tc d) y1) h fun y2 h=>?_
 refine q80 ?_
 refine q85 (G:=iter (q2vc d )) (S:=(fun x1=>⟨[(1,.ptr 0 0),(3,.rs 1),(4,.int .i64 x1.1)],[.cells [.fz Riii x1.2.1],.rows qjf x1.2.2]⟩:Int×List Diii×List qjg→St)) (fun _=>rfl) ?_ d _ h
 intro n1 x1 h K1 hn1
 replace h:q2vc d  (iter (q2vc d ) n1) x1=some r:=h
 generalize iter (q2vc d ) n1=self1 at h hn1
 unfold q2vc at h
 refine q7z ?_
 refine q3yy hm hT hC (q2tv (q2tc d) x1) h fun y3 h=>?_
 refine q83 (v:=y3.2.1) (by kernel_rfl) h ?_ ?_
 ·
  intro h
  refine q7v (q7l (q7z (q80 ?_)))
  refine q3yy hm hT hC (q2tz (q2tc d) y3) h fun y5 h=>?_
  refine q80 ?_
  refine q85 (G:=iter (q2uj d self1)) (S:=(fun x2=>⟨[(1,.ptr 0 0),(3,.rs 1),(4,.int .i64 x2.1),(5,.int .i64 x2.2.1)],[.cells [.fz Riii x2.2.2.1],.rows qjf x2.2.2.2]⟩:Int×Int×List Diii×List qjg→St)) (fun _=>rfl) ?_ d _ h
  intro n2 x2 h K2 hn2
  replace h:q2uj d self1 (iter (q2uj d self1) n2) x2=some r:=h
  generalize iter (q2uj d self1) n2=self2 at h hn2
  unfold q2uj at h
  refine q7z ?_
  refine q3yy hm hT hC (q2u3 (q2tc d) x2) h fun y6 h=>?_
  refine q83 (v:=y6.2.2.1) (by kernel_rfl) h ?_ ?_
  ·
   intro h
   refine q7v (q7l ?_)
   refine q82 (r:=r) (F:=q2ug d self1 self2) (S:=(fun z=>⟨[(1,.ptr 0 0),(3,.rs 1),(4,.int .i64 z.1),(5,.int .i64 z.2.1)],[.cells [.fz Riii z.2.2.1],.rows qjf z.2.2.2]⟩:Int×Int×List Diii×List qjg→St)) ?_ ?_
   ·
    intro z h
    unfold q2ug at h
    refine q84 hm hT hC (q2uf (q2tc d) z) h ?_
    intro y7 h
    exact hn2 _ h
   intro hj3
   refine q80 ?_
   refine q3yy hm hT hC (q2u7 (q2tc d) y6) h fun y8 h=>?_
   refine q3yy hm hT hC (q2ub (q2tc d) y8) h fun y9 h=>?_
   refine q83 (v:=y9.2.2.1) (by kernel_rfl) h ?_ ?_
   ·
    intro h
    refine q84 hm hT hC (q2ud (q2tc d) y9) h ?_
    intro y10 h
    refine q7o ?_
    exact hj3 _ h
   ·
    intro h
    refine q7v (q7o ?_)
    refine qcy (s:=⟨[(1,.ptr 0 0),(3,.rs 1),(4,.int .i64 y9.1),(5,.int .i64 y9.2.1)],[.cells [.fz Riii y9.2.2.2.1],.rows qjf y9.2.2.2.2.1]⟩) [6,7,40] (by kernel_rfl) ?_
    exact hj3 _ h
  ·
   intro h
   refine q7x (q7m (q7m (q7q (q7o (q7l ?_)))))
   refine q84 hm hT hC (q2ui (q2tc d) y6) h ?_
   intro y4 h
   exact hn1 _ h
 ·
  intro h
  refine q7x (q7m (q7m (q7q (q7l (q7z ?_)))))
  refine q3yy hm hT hC (q2un (q2tc d) y3) h fun y11 h=>?_
  refine q80 ?_
  refine q85 (G:=iter (q2vb d )) (S:=(fun x4=>⟨[(3,.rs 0),(8,.int .i64 x4.1)],[.rows qjf x4.2]⟩:Int×List qjg→St)) (fun _=>rfl) ?_ d _ h
  intro n4 x4 h K4 hn4
  replace h:q2vb d  (iter (q2vb d ) n4) x4=some r:=h
  generalize iter (q2vb d ) n4=self4 at h hn4
  unfold q2vb at h
  refine q7z ?_
  refine q3yy hm hT hC (q2ur (q2tc d) x4) h fun y12 h=>?_
  refine q83 (v:=y12.2.1) (by kernel_rfl) h ?_ ?_
  ·
   intro h
   refine q7v (q7l (q7z (q80 ?_)))
   refine q3yy hm hT hC (q2uv (q2tc d) y12) h fun y14 h=>?_
   refine q80 ?_
   refine q85 (G:=iter (q2v6 d self4)) (S:=(fun x5=>⟨[(3,.rs 0),(8,.int .i64 x5.1),(9,.int .i64 x5.2.1)],[.rows qjf x5.2.2]⟩:Int×Int×List qjg→St)) (fun _=>rfl) ?_ d _ h
   intro n5 x5 h K5 hn5
   replace h:q2v6 d self4 (iter (q2v6 d self4) n5) x5=some r:=h
   generalize iter (q2v6 d self4) n5=self5 at h hn5
   unfold q2v6 at h
   refine q7z ?_
   refine q3yy hm hT hC (q2uz (q2tc d) x5) h fun y15 h=>?_
   refine q83 (v:=y15.2.2.1) (by kernel_rfl) h ?_ ?_
   ·
    intro h
    refine q7v (q7l (q7z (q80 ?_)))
    refine q84 hm hT hC (q2v1 (q2tc d) y15) h ?_
    intro y17 h
    refine q7o (q7l ?_)
    refine q84 hm hT hC (q2v3 (q2tc d) y17) h ?_
    intro y16 h
    exact hn5 _ h
   ·
    intro h
    refine q7x (q7m (q7m (q7q (q7o (q7l ?_)))))
    refine q84 hm hT hC (q2v5 (q2tc d) y15) h ?_
    intro y13 h
    exact hn4 _ h
  ·
   intro h
   refine q7x (q7m (q7m (q7q (q7l ?_))))
   refine q3yy hm hT hC (q2va (q2tc d) y12) h fun y18 h=>?_
   refine q7y ?_
   cases h
   exact (hend _ (by kernel_rfl)).2
abbrev q2vf:List Pk:=[.row qjc true,.row Rii true,.row Rii true]
abbrev q2vg:Type:=qjd×Dii×Dii×Unit
abbrev q2vh:Type:=List qjg
def q2vi (r:q2vh):LV×List Ob:=(.rs 0,[.rows qjf r])
def q2vj (F:q2vg→Option q2vh):Go.Tx.Spec:=⟨134,q2vf,q2vh,F,q2vi⟩
abbrev q2vk:Type:=(q2p3→Option q2p4)×(q2t7→Option q2t8)×Unit
def q2vl (d:Nat):q2vk:=(q2q6 d,q2vd d,())
def q2vm (C:q2vk):List Go.Tx.Spec:=[q2p6 C.1,q2ta C.2.1]
abbrev q2vn:Type:=List Diii×Int×Int×Int×Int
def q2vo (v:q2vn):St:=⟨[(0,.agg [.fz Riii v.1]),(1,.agg [.int .i64 v.2.1,.int .i64 v.2.2.1]),(2,.agg [.int .i64 v.2.2.2.1,.int .i64 v.2.2.2.2])],[]⟩
abbrev q2vp:Type:=List Diii×Int×Int×Int×Int
def q2vq (v:q2vp):St:=⟨[(3,.ptr 0 0),(4,.ptr 1 0),(5,.ptr 2 0)],[.cells [.fz Riii v.1],.cells [.int .i64 v.2.1,.int .i64 v.2.2.1],.cells [.int .i64 v.2.2.2.1,.int .i64 v.2.2.2.2]]⟩
def q2vr (C:q2vk) (v:q2vn):Dt q2vp:=(Dt.ret (v.1,v.2.1,v.2.2.1,v.2.2.2.1,v.2.2.2.2))
abbrev q40r {V Y:Type}:=@rg q2vk V Y tysT (fun C=>(orc (q2vm C))) 44
theorem q2vs C v:q40r (regO (qcz f134) 0) false [(3,(.box [.val Riii])),(4,.any),(5,.any)] q2vo q2vr q2vq C v:=rgI (by kernel_rfl)
abbrev q2vt:Type:=List Diii×Int×Int×Int×Int×List qjg
def q2vu (v:q2vt):St:=⟨[(3,.ptr 0 0),(4,.ptr 1 0),(5,.ptr 2 0),(7,.rs 3)],[.cells [.fz Riii v.1],.cells [.int .i64 v.2.1,.int .i64 v.2.2.1],.cells [.int .i64 v.2.2.2.1,.int .i64 v.2.2.2.2.1],.rows qjf v.2.2.2.2.2]⟩
def q2vv (C:q2vk) (v:q2vp):Dt q2vt:=(Dt.ret (v.1,v.2.1,v.2.2.1,v.2.2.2.1,v.2.2.2.2,([]:List qjg)))
theorem q2vw C v:q40r (regO (qcz f134) 1) false [(3,(.box [.val Riii])),(4,.any),(5,.any),(7,(.own qjf))] q2vq q2vv q2vu C v:=rgI (by kernel_rfl)
abbrev q2vx:Type:=Int×Int×Int×Int×List qjg×List qjg
def q2vy (v:q2vx):St:=⟨[(4,.ptr 0 0),(5,.ptr 1 0),(7,.rs 2),(8,.rs 3)],[.cells [.int .i64 v.1,.int .i64 v.2.1],.cells [.int .i64 v.2.2.1,.int .i64 v.2.2.2.1],.rows qjf v.2.2.2.2.1,.rows qjf v.2.2.2.2.2]⟩
def q2vz (C:q2vk) (v:q2vt):Dt q2vx:=(Dt.bnd (C.2.1 ((v.1,()),())) fun r1=>(Dt.ret (v.2.1,v.2.2.1,v.2.2.2.1,v.2.2.2.2.1,v.2.2.2.2.2,r1)))
theorem q2w0 C v:q40r (regO (qcz f134) 2) false [(4,.any),(5,.any),(7,(.own qjf)),(8,(.own qjf))] q2vu q2vz q2vy C v:=rgI (by kernel_rfl)
abbrev q2w1:Type:=Int×Int×Int×Int×Int×List qjg×List qjg
def q2w2 (v:q2w1):St:=⟨[(4,.ptr 0 0),(5,.ptr 1 0),(7,.rs 2),(8,.rs 3),(9,.int .i64 v.1)],[.cells [.int .i64 v.2.1,.int .i64 v.2.2.1],.cells [.int .i64 v.2.2.2.1,.int .i64 v.2.2.2.2.1],.rows qjf v.2.2.2.2.2.1,.rows qjf v.2.2.2.2.2.2]⟩
def q2w3 (C:q2vk) (v:q2vx):Dt q2w1:=(Dt.ret ((0:Int),v.1,v.2.1,v.2.2.1,v.2.2.2.1,v.2.2.2.2.1,v.2.2.2.2.2))
theorem q2w4 C v:q40r (regO (qcz f134) 3) false [(4,.any),(5,.any),(7,(.own qjf)),(8,(.own qjf)),(9,.any)] q2vy q2w3 q2w2 C v:=rgI (by kernel_rfl)
abbrev q2w5:Type:=Int×Bool×Int×Int×Int×Int×List qjg×List qjg
def q2w6 (v:q2w5):St:=⟨[(4,.ptr 0 0),(5,.ptr 1 0),(7,.rs 2),(8,.rs 3),(9,.int .i64 v.1),(15,.bool v.2.1)],[.cells [.int .i64 v.2.2.1,.int .i64 v.2.2.2.1],.cells [.int .i64 v.2.2.2.2.1,.int .i64 v.2.2.2.2.2.1],.rows qjf v.2.2.2.2.2.2.1,.rows qjf v.2.2.2.2.2.2.2]⟩
def q2w7 (C:q2vk) (v:q2w1):Dt q2w5:=(Dt.ret (v.1,(decide (v.1 < (List.length v.2.2.2.2.2.2:Int))),v.2.1,v.2.2.1,v.2.2.2.1,v.2.2.2.2.1,v.2.2.2.2.2.1,v.2.2.2.2.2.2))
theorem q2w8 C v:q40r (regO (qcz f134) 4) false [(4,.any),(5,.any),(7,(.own qjf)),(8,(.own qjf)),(9,.any),(15,.any)] q2w2 q2w7 q2w6 C v:=rgI (by kernel_rfl)
abbrev q2w9:Type:=Int×Bool×Int×Int×Int×Int×List qjg×List qjg
def q2wa (v:q2w9):St:=⟨[(4,.ptr 0 0),(5,.ptr 1 0),(7,.rs 2),(8,.rs 3),(9,.int .i64 v.1),(35,.bool v.2.1)],[.cells [.int .i64 v.2.2.1,.int .i64 v.2.2.2.1],.cells [.int .i64 v.2.2.2.2.1,.int .i64 v.2.2.2.2.2.1],.rows qjf v.2.2.2.2.2.2.1,.rows qjf v.2.2.2.2.2.2.2]⟩
def q2wb (C:q2vk) (v:q2w5):Dt q2w9:=(Dt.ite (inB v.1 (List.length v.2.2.2.2.2.2.2)) (Dt.bnd (C.1 (((elt qjh v.2.2.2.2.2.2.2 (v.1).toNat).1,(elt qjh v.2.2.2.2.2.2.2 (v.1).toNat).2.1,()),(v.2.2.1,v.2.2.2.1,()),())) fun r1=>(Dt.ite (decide (r1 > (0:Int))) (Dt.ite (inB v.1 (List.length v.2.2.2.2.2.2.2)) (Dt.bnd (C.1 (((elt qjh v.2.2.2.2.2.2.2 (v.1).toNat).1,(elt qjh v.2.2.2.2.2.2.2 (v.1).toNat).2.1,()),(v.2.2.2.2.1,v.2.2.2.2.2.1,()),())) fun r2=>(Dt.ret (v.1,(decide (r2≤(0:Int))),v.2.2.1,v.2.2.2.1,v.2.2.2.2.1,v.2.2.2.2.2.1,v.2.2.2.2.2.2.1,v.2.2.2.2.2.2.2))) Dt.fail) (Dt.ret (v.1,false,v.2.2.1,v.2.2.2.1,v.2.2.2.2.1,v.2.2.2.2.2.1,v.2.2.2.2.2.2.1,v.2.2.2.2.2.2.2)))) Dt.fail)
theorem q2wc C v:q40r (regO (qcz f134) 6) true [(4,.any),(5,.any),(7,(.own qjf)),(8,(.own qjf)),(9,.any),(35,.any)] q2w6 q2wb q2wa C v:=rgI (by kernel_rfl)
def q2wd (C:q2vk) (v:q2w9):Dt q2w1:=(Dt.ite (inB v.1 (List.length v.2.2.2.2.2.2.2)) (Dt.ite (apB (List.length v.2.2.2.2.2.2.1) (List.length ([((elt qjh v.2.2.2.2.2.2.2 (v.1).toNat).1,(elt qjh v.2.2.2.2.2.2.2 (v.1).toNat).2.1,(elt qjh v.2.2.2.2.2.2.2 (v.1).toNat).2.2.1,(elt qjh v.2.2.2.2.2.2.2 (v.1).toNat).2.2.2.1,())]:List qjg))) (Dt.ret (v.1,v.2.2.1,v.2.2.2.1,v.2.2.2.2.1,v.2.2.2.2.2.1,(v.2.2.2.2.2.2.1 ++ ([((elt qjh v.2.2.2.2.2.2.2 (v.1).toNat).1,(elt qjh v.2.2.2.2.2.2.2 (v.1).toNat).2.1,(elt qjh v.2.2.2.2.2.2.2 (v.1).toNat).2.2.1,(elt qjh v.2.2.2.2.2.2.2 (v.1).toNat).2.2.2.1,())]:List qjg)),v.2.2.2.2.2.2.2)) Dt.fail) Dt.fail)
theorem q2we C v:q40r (regO (qcz f134) 7) false [(4,.any),(5,.any),(7,(.own qjf)),(8,(.own qjf)),(9,.any)] q2wa q2wd q2w2 C v:=rgI (by kernel_rfl)
def q2wf (C:q2vk) (v:q2w1):Dt q2w1:=(Dt.ret ((IntKind.wrap .i64 (v.1 + (1:Int))),v.2.1,v.2.2.1,v.2.2.2.1,v.2.2.2.2.1,v.2.2.2.2.2.1,v.2.2.2.2.2.2))
theorem q2wg C v:q40r (regO (qcz f134) 5) false [(4,.any),(5,.any),(7,(.own qjf)),(8,(.own qjf)),(9,.any)] q2w2 q2wf q2w2 C v:=rgI (by kernel_rfl)
def q2wh  (d:Nat) (self1:(Int×Int×Int×Int×Int×List qjg×List qjg)→Option q2vh) (z:Int×Int×Int×Int×Int×List qjg×List qjg):Option (q2vh) :=
 (q2wf (q2vl d) z).eval fun y5 =>
 self1 y5
abbrev q2wi:Type:=List qjg
def q2wj (v:q2wi):St:=⟨[(6,.rs 0)],[.rows qjf v]⟩
def q2wk (C:q2vk) (v:q2w5):Dt q2wi:=(Dt.ret v.2.2.2.2.2.2.1)
theorem q2wl C v:q40r (regO (qcz f134) 8) false [(6,(.own qjf))] q2w6 q2wk q2wj C v:=rgI (by kernel_rfl)
def q2wm (d:Nat) (self1:(Int×Int×Int×Int×Int×List qjg×List qjg)→Option q2vh) (x1:Int×Int×Int×Int×Int×List qjg×List qjg):Option q2vh :=
 (q2w7 (q2vl d) x1).eval fun y4 =>
 bif y4.2.1 then ((q2wb (q2vl d) y4).eval fun y6 =>
 bif y6.2.1 then ((q2wd (q2vl d) y6).eval fun y7 =>
 q2wh d self1 y7) else (q2wh d self1 (y6.1,y6.2.2.1,y6.2.2.2.1,y6.2.2.2.2.1,y6.2.2.2.2.2.1,y6.2.2.2.2.2.2.1,y6.2.2.2.2.2.2.2))) else ((q2wk (q2vl d) y4).eval fun y8 =>
 some y8)
def q2wn (d:Nat) (x:q2vg):Option q2vh :=
 (q2vr (q2vl d) (x.1.1,x.2.1.1,x.2.1.2.1,x.2.2.1.1,x.2.2.1.2.1)).eval fun y0 =>
 (q2vv (q2vl d) y0).eval fun y1 =>
 (q2vz (q2vl d) y1).eval fun y2 =>
 (q2w3 (q2vl d) y2).eval fun y3 =>
 iter (q2wm d ) d y3
theorem q2wo (d:Nat):COK prog (q2vj (q2wn d)):=by
 have hm:prog.follows .mixedOrders=true:=qju
 have hT:=tys
 have hC0:OrcOK prog (orc (q2vm (q2vl d))):=qct (by
  intro S hS
  simp only [q2vm,List.mem_cons,List.not_mem_nil,or_false] at hS
  rcases hS with rfl | rfl
  · exact q2q7 d
  · exact q2ve d)
 have hC:OrcOK prog (orc (q2vm (q2vl d))):=hC0
 refine q8f (c:=qcz f134) (fn:=f134) hT (by kernel_rfl) (by kernel_rfl) (by decide) fun x r h w0 φ0 Q hend=>?_
 replace h:q2wn d x=some r:=h
 unfold q2wn at h
 show Run prog w0 φ0 44 (qcz f134) ⟨[(0,.agg [.fz Riii x.1.1]),(1,.agg [.int .i64 x.2.1.1,.int .i64 x.2.1.2.1]),(2,.agg [.int .i64 x.2.2.1.1,.int .i64 x.2.2.1.2.1])],[]⟩ Q
 refine q3yy hm hT hC (q2vs (q2vl d) (x.1.1,x.2.1.1,x.2.1.2.1,x.2.2.1.1,x.2.2.1.2.1)) h fun y0 h=>?_
 refine q3yy hm hT hC (q2vw (q2vl d) y0) h fun y1 h=>?_
 refine q3yy hm hT hC (q2w0 (q2vl d) y1) h fun y2 h=>?_
 refine q7z ?_
 refine q3yy hm hT hC (q2w4 (q2vl d) y2) h fun y3 h=>?_
 refine q80 ?_
 refine q85 (G:=iter (q2wm d )) (S:=(fun x1=>⟨[(4,.ptr 0 0),(5,.ptr 1 0),(7,.rs 2),(8,.rs 3),(9,.int .i64 x1.1)],[.cells [.int .i64 x1.2.1,.int .i64 x1.2.2.1],.cells [.int .i64 x1.2.2.2.1,.int .i64 x1.2.2.2.2.1],.rows qjf x1.2.2.2.2.2.1,.rows qjf x1.2.2.2.2.2.2]⟩:Int×Int×Int×Int×Int×List qjg×List qjg→St)) (fun _=>rfl) ?_ d _ h
 intro n1 x1 h K1 hn1
 replace h:q2wm d  (iter (q2wm d ) n1) x1=some r:=h
 generalize iter (q2wm d ) n1=self1 at h hn1
 unfold q2wm at h
 refine q7z ?_
 refine q3yy hm hT hC (q2w8 (q2vl d) x1) h fun y4 h=>?_
 refine q83 (v:=y4.2.1) (by kernel_rfl) h ?_ ?_
 ·
  intro h
  refine q7v (q7l ?_)
  refine q82 (r:=r) (F:=q2wh d self1) (S:=(fun z=>⟨[(4,.ptr 0 0),(5,.ptr 1 0),(7,.rs 2),(8,.rs 3),(9,.int .i64 z.1)],[.cells [.int .i64 z.2.1,.int .i64 z.2.2.1],.cells [.int .i64 z.2.2.2.1,.int .i64 z.2.2.2.2.1],.rows qjf z.2.2.2.2.2.1,.rows qjf z.2.2.2.2.2.2]⟩:Int×Int×Int×Int×Int×List qjg×List qjg→St)) ?_ ?_
  ·
   intro z h
   unfold q2wh at h
   refine q84 hm hT hC (q2wg (q2vl d) z) h ?_
   intro y5 h
   exact hn1 _ h
  intro hj2
  refine q80 ?_
  refine q3yy hm hT hC (q2wc (q2vl d) y4) h fun y6 h=>?_
  refine q83 (v:=y6.2.1) (by kernel_rfl) h ?_ ?_
  ·
   intro h
   refine q84 hm hT hC (q2we (q2vl d) y6) h ?_
   intro y7 h
   refine q7o ?_
   exact hj2 _ h
  ·
   intro h
   refine q7v (q7o ?_)
   refine qcy (s:=⟨[(4,.ptr 0 0),(5,.ptr 1 0),(7,.rs 2),(8,.rs 3),(9,.int .i64 y6.1)],[.cells [.int .i64 y6.2.2.1,.int .i64 y6.2.2.2.1],.cells [.int .i64 y6.2.2.2.2.1,.int .i64 y6.2.2.2.2.2.1],.rows qjf y6.2.2.2.2.2.2.1,.rows qjf y6.2.2.2.2.2.2.2]⟩) [35] (by kernel_rfl) ?_
   exact hj2 _ h
 ·
  intro h
  refine q7x (q7m (q7m (q7q (q7l ?_))))
  refine q3yy hm hT hC (q2wl (q2vl d) y4) h fun y8 h=>?_
  refine q7y ?_
  cases h
  exact (hend _ (by kernel_rfl)).2
abbrev q2wp:List Pk:=[.row qjc true,.row Rii true,.row Rii true]
abbrev q2wq:Type:=qjd×Dii×Dii×Unit
abbrev q2wr:Type:=Int
def q2ws (r:q2wr):LV×List Ob:=(.int .i64 r,[])
def q2wt (F:q2wq→Option q2wr):Go.Tx.Spec:=⟨77,q2wp,q2wr,F,q2ws⟩
abbrev q2wu:Type:=(q2q9→Option q2qa)×Unit
def q2wv (d:Nat):q2wu:=(q2rg d,())
def q2ww (C:q2wu):List Go.Tx.Spec:=[q2qc C.1]
abbrev q2wx:Type:=List Diii×Int×Int×Int×Int
def q2wy (v:q2wx):St:=⟨[(0,.agg [.fz Riii v.1]),(1,.agg [.int .i64 v.2.1,.int .i64 v.2.2.1]),(2,.agg [.int .i64 v.2.2.2.1,.int .i64 v.2.2.2.2])],[]⟩
abbrev q2wz:Type:=List Diii×Int×Int×Int×Int
def q2x0 (v:q2wz):St:=⟨[(3,.ptr 0 0),(4,.ptr 1 0),(5,.ptr 2 0)],[.cells [.fz Riii v.1],.cells [.int .i64 v.2.1,.int .i64 v.2.2.1],.cells [.int .i64 v.2.2.2.1,.int .i64 v.2.2.2.2]]⟩
def q2x1 (C:q2wu) (v:q2wx):Dt q2wz:=(Dt.ret (v.1,v.2.1,v.2.2.1,v.2.2.2.1,v.2.2.2.2))
abbrev q40s {V Y:Type}:=@rg q2wu V Y tysT (fun C=>(orc (q2ww C))) 19
theorem q2x2 C v:q40s (regO (qcz f77) 0) false [(3,(.box [.val Riii])),(4,.any),(5,.any)] q2wy q2x1 q2x0 C v:=rgI (by kernel_rfl)
abbrev q2x3:Type:=Int×List Diii
def q2x4 (v:q2x3):St:=⟨[(3,.ptr 0 0),(7,.int .i64 v.1)],[.cells [.fz Riii v.2]]⟩
def q2x5 (C:q2wu) (v:q2wz):Dt q2x3:=(Dt.bnd (C.1 ((v.1,()),(v.2.1,v.2.2.1,()),(v.2.2.2.1,v.2.2.2.2,()),())) fun r1=>(Dt.ret (r1,v.1)))
theorem q2x6 C v:q40s (regO (qcz f77) 1) false [(3,(.box [.val Riii])),(7,.any)] q2x0 q2x5 q2x4 C v:=rgI (by kernel_rfl)
abbrev q2x7:Type:=Int×Bool×List Diii
def q2x8 (v:q2x7):St:=⟨[(3,.ptr 0 0),(7,.int .i64 v.1),(13,.bool v.2.1)],[.cells [.fz Riii v.2.2]]⟩
def q2x9 (C:q2wu) (v:q2x3):Dt q2x7:=(Dt.ret (v.1,(v.1 != (0:Int)),v.2))
theorem q2xa C v:q40s (regO (qcz f77) 2) false [(3,(.box [.val Riii])),(7,.any),(13,.any)] q2x4 q2x9 q2x8 C v:=rgI (by kernel_rfl)
abbrev q2xb:Type:=Int
def q2xc (v:q2xb):St:=⟨[(6,.int .i64 v)],[]⟩
def q2xd (C:q2wu) (v:q2x7):Dt q2xb:=(Dt.ret v.1)
theorem q2xe C v:q40s (regO (qcz f77) 3) false [(6,.any)] q2x8 q2xd q2xc C v:=rgI (by kernel_rfl)
abbrev q2xf:Type:=Bool
def q2xg (v:q2xf):St:=⟨[(18,.bool v)],[]⟩
def q2xh (C:q2wu) (v:q2x7):Dt q2xf:=(Dt.ret ((List.length v.2.2:Int) == (0:Int)))
theorem q2xi C v:q40s (regO (qcz f77) 4) false [(18,.any)] q2x8 q2xh q2xg C v:=rgI (by kernel_rfl)
def q2xj (C:q2wu) (v:q2xf):Dt q2xb:=(Dt.ret (42:Int))
theorem q2xk C v:q40s (regO (qcz f77) 5) false [(6,.any)] q2xg q2xj q2xc C v:=rgI (by kernel_rfl)
def q2xl (C:q2wu) (v:q2xf):Dt q2xb:=(Dt.ret (0:Int))
theorem q2xm C v:q40s (regO (qcz f77) 6) false [(6,.any)] q2xg q2xl q2xc C v:=rgI (by kernel_rfl)
def q2xn (d:Nat) (x:q2wq):Option q2wr :=
 (q2x1 (q2wv d) (x.1.1,x.2.1.1,x.2.1.2.1,x.2.2.1.1,x.2.2.1.2.1)).eval fun y0 =>
 (q2x5 (q2wv d) y0).eval fun y1 =>
 (q2x9 (q2wv d) y1).eval fun y2 =>
 bif y2.2.1 then ((q2xd (q2wv d) y2).eval fun y3 =>
 some y3) else ((q2xh (q2wv d) y2).eval fun y4 =>
 bif y4 then ((q2xj (q2wv d) y4).eval fun y5 =>
 some y5) else ((q2xl (q2wv d) y4).eval fun y6 =>
 some y6))
theorem q2xo (d:Nat):COK prog (q2wt (q2xn d)):=by
 have hm:prog.follows .mixedOrders=true:=qju
 have hT:=tys
 have hC0:OrcOK prog (orc (q2ww (q2wv d))):=qct (by
  intro S hS
  simp only [q2ww,List.mem_cons,List.not_mem_nil,or_false] at hS
  subst hS;exact q2rh d)
 have hC:OrcOK prog (orc (q2ww (q2wv d))):=hC0
 refine q8f (c:=qcz f77) (fn:=f77) hT (by kernel_rfl) (by kernel_rfl) (by decide) fun x r h w0 φ0 Q hend=>?_
 replace h:q2xn d x=some r:=h
 unfold q2xn at h
 show Run prog w0 φ0 19 (qcz f77) ⟨[(0,.agg [.fz Riii x.1.1]),(1,.agg [.int .i64 x.2.1.1,.int .i64 x.2.1.2.1]),(2,.agg [.int .i64 x.2.2.1.1,.int .i64 x.2.2.1.2.1])],[]⟩ Q
 refine q3yy hm hT hC (q2x2 (q2wv d) (x.1.1,x.2.1.1,x.2.1.2.1,x.2.2.1.1,x.2.2.1.2.1)) h fun y0 h=>?_
 refine q7z ?_
 refine q3yy hm hT hC (q2x6 (q2wv d) y0) h fun y1 h=>?_
 refine q3yy hm hT hC (q2xa (q2wv d) y1) h fun y2 h=>?_
 refine q83 (v:=y2.2.1) (by kernel_rfl) h ?_ ?_
 ·
  intro h
  refine q3yy hm hT hC (q2xe (q2wv d) y2) h fun y3 h=>?_
  refine q7y (q7n ?_)
  cases h
  exact (hend _ (by kernel_rfl)).2
 ·
  intro h
  refine q7v (q7l (q7z ?_))
  refine q3yy hm hT hC (q2xi (q2wv d) y2) h fun y4 h=>?_
  refine q83 (v:=y4) (by kernel_rfl) h ?_ ?_
  ·
   intro h
   refine q3yy hm hT hC (q2xk (q2wv d) y4) h fun y5 h=>?_
   refine q7y (q7n ?_)
   cases h
   exact (hend _ (by kernel_rfl)).2
  ·
   intro h
   refine q7v (q7l ?_)
   refine q3yy hm hT hC (q2xm (q2wv d) y4) h fun y6 h=>?_
   refine q7y ?_
   cases h
   exact (hend _ (by kernel_rfl)).2
abbrev q2xp:List Pk:=[.row qjc true,.row Rii true]
abbrev q2xq:Type:=qjd×Dii×Unit
abbrev q2xr:Type:=Int×Int×Int×Int×Int×Int
def q2xs (r:q2xr):LV×List Ob:=(.tup [.agg [.int .i64 r.1,.int .i64 r.2.1,.int .i64 r.2.2.1],.agg [.int .i64 r.2.2.2.1,.int .i64 r.2.2.2.2.1,.int .i64 r.2.2.2.2.2]],[])
def q2xt (F:q2xq→Option q2xr):Go.Tx.Spec:=⟨78,q2xp,q2xr,F,q2xs⟩
abbrev q2xu:Type:=(qpz→Option qq0)×(qwp→Option qwq)×Unit
def q2xv (d:Nat):q2xu:=(qq4 d,qwu d,())
def q2xw (C:q2xu):List Go.Tx.Spec:=[qq2 C.1,qws C.2.1]
abbrev q2xx:Type:=List Diii×Int×Int
def q2xy (v:q2xx):St:=⟨[(0,.agg [.fz Riii v.1]),(1,.agg [.int .i64 v.2.1,.int .i64 v.2.2])],[]⟩
abbrev q2xz:Type:=List Diii×Int×Int×Int×Int×Int×Int×Int×Int
def q2y0 (v:q2xz):St:=⟨[(2,.ptr 0 0),(3,.ptr 1 0),(4,.ptr 2 0),(5,.ptr 3 0)],[.cells [.fz Riii v.1],.cells [.int .i64 v.2.1,.int .i64 v.2.2.1],.cells [.int .i64 v.2.2.2.1,.int .i64 v.2.2.2.2.1,.int .i64 v.2.2.2.2.2.1],.cells [.int .i64 v.2.2.2.2.2.2.1,.int .i64 v.2.2.2.2.2.2.2.1,.int .i64 v.2.2.2.2.2.2.2.2]]⟩
def q2y1 (C:q2xu) (v:q2xx):Dt q2xz:=(Dt.ret (v.1,v.2.1,v.2.2,(0:Int),(0:Int),(0:Int),(0:Int),(0:Int),(0:Int)))
abbrev q40t {V Y:Type}:=@rg q2xu V Y tysT (fun C=>(orc (q2xw C))) 31
theorem q2y2 C v:q40t (regO (qcz f78) 0) false [(2,(.box [.val Riii])),(3,.any),(4,.any),(5,.any)] q2xy q2y1 q2y0 C v:=rgI (by kernel_rfl)
abbrev q2y3:Type:=List Diii×Int×Int×Int×Int×Int×Int×List Di
def q2y4 (v:q2y3):St:=⟨[(2,.ptr 0 0),(4,.ptr 1 0),(5,.ptr 2 0),(6,.rs 3)],[.cells [.fz Riii v.1],.cells [.int .i64 v.2.1,.int .i64 v.2.2.1,.int .i64 v.2.2.2.1],.cells [.int .i64 v.2.2.2.2.1,.int .i64 v.2.2.2.2.2.1,.int .i64 v.2.2.2.2.2.2.1],.rows Ri v.2.2.2.2.2.2.2]⟩
def q2y5 (C:q2xu) (v:q2xz):Dt q2y3:=(Dt.bnd (C.2.1 ((v.1,()),(v.2.1,v.2.2.1,()),())) fun r1=>(Dt.ret (v.1,v.2.2.2.1,v.2.2.2.2.1,v.2.2.2.2.2.1,v.2.2.2.2.2.2.1,v.2.2.2.2.2.2.2.1,v.2.2.2.2.2.2.2.2,r1)))
theorem q2y6 C v:q40t (regO (qcz f78) 1) false [(2,(.box [.val Riii])),(4,.any),(5,.any),(6,(.own Ri))] q2y0 q2y5 q2y4 C v:=rgI (by kernel_rfl)
abbrev q2y7:Type:=Int×Int×Int×Int×Int×Int
def q2y8 (v:q2y7):St:=⟨[(4,.ptr 0 0),(5,.ptr 1 0)],[.cells [.int .i64 v.1,.int .i64 v.2.1,.int .i64 v.2.2.1],.cells [.int .i64 v.2.2.2.1,.int .i64 v.2.2.2.2.1,.int .i64 v.2.2.2.2.2]]⟩
def q2y9 (C:q2xu) (v:q2y3):Dt q2y7:=(Dt.ite (inB (0:Int) (List.length v.2.2.2.2.2.2.2)) (Dt.bnd (C.1 ((v.1,()),((elt zi v.2.2.2.2.2.2.2 ((0:Int)).toNat).1,()),())) fun r1=>(Dt.ite (inB r1 (List.length v.1)) (Dt.ite (inB (IntKind.wrap .i64 ((List.length v.2.2.2.2.2.2.2:Int) - (1:Int))) (List.length v.2.2.2.2.2.2.2)) (Dt.bnd (C.1 ((v.1,()),((elt zi v.2.2.2.2.2.2.2 ((IntKind.wrap .i64 ((List.length v.2.2.2.2.2.2.2:Int) - (1:Int)))).toNat).1,()),())) fun r2=>(Dt.ite (inB r2 (List.length v.1)) (Dt.ret ((elt ziii v.1 (r1).toNat).1,(elt ziii v.1 (r1).toNat).2.1,(elt ziii v.1 (r1).toNat).2.2.1,(elt ziii v.1 (r2).toNat).1,(elt ziii v.1 (r2).toNat).2.1,(elt ziii v.1 (r2).toNat).2.2.1)) Dt.fail)) Dt.fail) Dt.fail)) Dt.fail)
theorem q2ya C v:q40t (regO (qcz f78) 2) true (an [4,5]) q2y4 q2y9 q2y8 C v:=rgI (by kernel_rfl)
def q2yb (d:Nat) (x:q2xq):Option q2xr :=
 (q2y1 (q2xv d) (x.1.1,x.2.1.1,x.2.1.2.1)).eval fun y0 =>
 (q2y5 (q2xv d) y0).eval fun y1 =>
 (q2y9 (q2xv d) y1).eval fun y2 =>
 some y2
theorem q2yc (d:Nat):COK prog (q2xt (q2yb d)):=by
 have hm:prog.follows .mixedOrders=true:=qju
 have hT:=tys
 have hC0:OrcOK prog (orc (q2xw (q2xv d))):=qct (by
  intro S hS
  simp only [q2xw,List.mem_cons,List.not_mem_nil,or_false] at hS
  rcases hS with rfl | rfl
  · exact qq6 d
  · exact qww d)
 have hC:OrcOK prog (orc (q2xw (q2xv d))):=hC0
 refine q8f (c:=qcz f78) (fn:=f78) hT (by kernel_rfl) (by kernel_rfl) (by decide) fun x r h w0 φ0 Q hend=>?_
 replace h:q2yb d x=some r:=h
 unfold q2yb at h
 show Run prog w0 φ0 31 (qcz f78) ⟨[(0,.agg [.fz Riii x.1.1]),(1,.agg [.int .i64 x.2.1.1,.int .i64 x.2.1.2.1])],[]⟩ Q
 refine q3yy hm hT hC (q2y2 (q2xv d) (x.1.1,x.2.1.1,x.2.1.2.1)) h fun y0 h=>?_
 refine q3yy hm hT hC (q2y6 (q2xv d) y0) h fun y1 h=>?_
 refine q3yy hm hT hC (q2ya (q2xv d) y1) h fun y2 h=>?_
 refine q7y ?_
 cases h
 exact (hend _ (by kernel_rfl)).2
abbrev q2yd:List Pk:=[.row qjc true,.row Rii true]
abbrev q2ye:Type:=qjd×Dii×Unit
abbrev q2yf:Type:=Int×Int×Int
def q2yg (r:q2yf):LV×List Ob:=(.tup [.int .i64 r.1,.int .i64 r.2.1,.int .i64 r.2.2],[])
def q2yh (F:q2ye→Option q2yf):Go.Tx.Spec:=⟨27,q2yd,q2yf,F,q2yg⟩
abbrev q2yi:Type:=(q2wq→Option q2wr)×(q2xq→Option q2xr)×Unit
def q2yj (d:Nat):q2yi:=(q2xn d,q2yb d,())
def q2yk (C:q2yi):List Go.Tx.Spec:=[q2wt C.1,q2xt C.2.1]
abbrev q2yl:Type:=List Diii×Int×Int
def q2ym (v:q2yl):St:=⟨[(0,.agg [.fz Riii v.1]),(1,.agg [.int .i64 v.2.1,.int .i64 v.2.2])],[]⟩
abbrev q2yn:Type:=List Diii×Int×Int
def q2yo (v:q2yn):St:=⟨[(2,.ptr 0 0),(3,.ptr 1 0)],[.cells [.fz Riii v.1],.cells [.int .i64 v.2.1,.int .i64 v.2.2]]⟩
def q2yp (C:q2yi) (v:q2yl):Dt q2yn:=(Dt.ret (v.1,v.2.1,v.2.2))
abbrev q40u {V Y:Type}:=@rg q2yi V Y tysT (fun C=>(orc (q2yk C))) 27
theorem q2yq C v:q40u (regO (qcz f27) 0) false [(2,(.box [.val Riii])),(3,.any)] q2ym q2yp q2yo C v:=rgI (by kernel_rfl)
abbrev q2yr:Type:=Int×List Diii×Int×Int
def q2ys (v:q2yr):St:=⟨[(2,.ptr 0 0),(3,.ptr 1 0),(7,.int .i64 v.1)],[.cells [.fz Riii v.2.1],.cells [.int .i64 v.2.2.1,.int .i64 v.2.2.2]]⟩
def q2yt (C:q2yi) (v:q2yn):Dt q2yr:=(Dt.bnd (C.1 ((v.1,()),(v.2.1,v.2.2,()),(v.2.1,v.2.2,()),())) fun r1=>(Dt.ret (r1,v.1,v.2.1,v.2.2)))
theorem q2yu C v:q40u (regO (qcz f27) 1) false [(2,(.box [.val Riii])),(3,.any),(7,.any)] q2yo q2yt q2ys C v:=rgI (by kernel_rfl)
abbrev q2yv:Type:=Int×Bool×List Diii×Int×Int
def q2yw (v:q2yv):St:=⟨[(2,.ptr 0 0),(3,.ptr 1 0),(7,.int .i64 v.1),(15,.bool v.2.1)],[.cells [.fz Riii v.2.2.1],.cells [.int .i64 v.2.2.2.1,.int .i64 v.2.2.2.2]]⟩
def q2yx (C:q2yi) (v:q2yr):Dt q2yv:=(Dt.ret (v.1,(v.1 != (0:Int)),v.2.1,v.2.2.1,v.2.2.2))
theorem q2yy C v:q40u (regO (qcz f27) 2) false [(2,(.box [.val Riii])),(3,.any),(7,.any),(15,.any)] q2ys q2yx q2yw C v:=rgI (by kernel_rfl)
abbrev q2yz:Type:=Int×Int×Int
def q2z0 (v:q2yz):St:=⟨[(4,.int .i64 v.1),(5,.int .i64 v.2.1),(6,.int .i64 v.2.2)],[]⟩
def q2z1 (C:q2yi) (v:q2yv):Dt q2yz:=(Dt.ret ((0:Int),(0:Int),v.1))
theorem q2z2 C v:q40u (regO (qcz f27) 3) false (an [4,5,6]) q2yw q2z1 q2z0 C v:=rgI (by kernel_rfl)
abbrev q2z3:Type:=Int×Int×Int×Int×Int×Int
def q2z4 (v:q2z3):St:=⟨[(8,.ptr 0 0),(9,.ptr 1 0)],[.cells [.int .i64 v.1,.int .i64 v.2.1,.int .i64 v.2.2.1],.cells [.int .i64 v.2.2.2.1,.int .i64 v.2.2.2.2.1,.int .i64 v.2.2.2.2.2]]⟩
def q2z5 (C:q2yi) (v:q2yv):Dt q2z3:=(Dt.bnd (C.2.1 ((v.2.2.1,()),(v.2.2.2.1,v.2.2.2.2,()),())) fun r1=>(Dt.ret (r1.1,r1.2.1,r1.2.2.1,r1.2.2.2.1,r1.2.2.2.2.1,r1.2.2.2.2.2)))
theorem q2z6 C v:q40u (regO (qcz f27) 4) false (an [8,9]) q2yw q2z5 q2z4 C v:=rgI (by kernel_rfl)
def q2z7 (C:q2yi) (v:q2z3):Dt q2yz:=(Dt.ret (v.1,v.2.2.2.1,(0:Int)))
theorem q2z8 C v:q40u (regO (qcz f27) 5) true (an [4,5,6]) q2z4 q2z7 q2z0 C v:=rgI (by kernel_rfl)
def q2z9 (d:Nat) (x:q2ye):Option q2yf :=
 (q2yp (q2yj d) (x.1.1,x.2.1.1,x.2.1.2.1)).eval fun y0 =>
 (q2yt (q2yj d) y0).eval fun y1 =>
 (q2yx (q2yj d) y1).eval fun y2 =>
 bif y2.2.1 then ((q2z1 (q2yj d) y2).eval fun y3 =>
 some y3) else ((q2z5 (q2yj d) y2).eval fun y4 =>
 (q2z7 (q2yj d) y4).eval fun y5 =>
 some y5)
theorem q2za (d:Nat):COK prog (q2yh (q2z9 d)):=by
 have hm:prog.follows .mixedOrders=true:=qju
 have hT:=tys
 have hC0:OrcOK prog (orc (q2yk (q2yj d))):=qct (by
  intro S hS
  simp only [q2yk,List.mem_cons,List.not_mem_nil,or_false] at hS
  rcases hS with rfl | rfl
  · exact q2xo d
  · exact q2yc d)
 have hC:OrcOK prog (orc (q2yk (q2yj d))):=hC0
 refine q8f (c:=qcz f27) (fn:=f27) hT (by kernel_rfl) (by kernel_rfl) (by decide) fun x r h w0 φ0 Q hend=>?_
 replace h:q2z9 d x=some r:=h
 unfold q2z9 at h
 show Run prog w0 φ0 27 (qcz f27) ⟨[(0,.agg [.fz Riii x.1.1]),(1,.agg [.int .i64 x.2.1.1,.int .i64 x.2.1.2.1])],[]⟩ Q
 refine q3yy hm hT hC (q2yq (q2yj d) (x.1.1,x.2.1.1,x.2.1.2.1)) h fun y0 h=>?_
 refine q7z ?_
 refine q3yy hm hT hC (q2yu (q2yj d) y0) h fun y1 h=>?_
 refine q3yy hm hT hC (q2yy (q2yj d) y1) h fun y2 h=>?_
 refine q83 (v:=y2.2.1) (by kernel_rfl) h ?_ ?_
 ·
  intro h
  refine q3yy hm hT hC (q2z2 (q2yj d) y2) h fun y3 h=>?_
  refine q7y (q7n ?_)
  cases h
  exact (hend _ (by kernel_rfl)).2
 ·
  intro h
  refine q7v (q7l ?_)
  refine q3yy hm hT hC (q2z6 (q2yj d) y2) h fun y4 h=>?_
  refine q3yy hm hT hC (q2z8 (q2yj d) y4) h fun y5 h=>?_
  refine q7y ?_
  cases h
  exact (hend _ (by kernel_rfl)).2
abbrev q2zb:List Pk:=[.row Riii true,.row Riii true,.row Rii true]
abbrev q2zc:Type:=Diii×Diii×Dii×Unit
abbrev q2zd:Type:=Int×Int×Int
def q2ze (r:q2zd):LV×List Ob:=(.tup [.agg [.int .i64 r.1,.int .i64 r.2.1],.int .i64 r.2.2],[])
def q2zf (F:q2zc→Option q2zd):Go.Tx.Spec:=⟨44,q2zb,q2zd,F,q2ze⟩
abbrev q2zg:Type:=(q229→Option q22a)×(q25d→Option q25e)×Unit
def q2zh (d:Nat):q2zg:=(q22w d,q26e d,())
def q2zi (C:q2zg):List Go.Tx.Spec:=[q22c C.1,q25g C.2.1]
abbrev q2zj:Type:=Int×Int×Int×Int×Int×Int×Int×Int
def q2zk (v:q2zj):St:=⟨[(0,.agg [.int .i64 v.1,.int .i64 v.2.1,.int .i64 v.2.2.1]),(1,.agg [.int .i64 v.2.2.2.1,.int .i64 v.2.2.2.2.1,.int .i64 v.2.2.2.2.2.1]),(2,.agg [.int .i64 v.2.2.2.2.2.2.1,.int .i64 v.2.2.2.2.2.2.2])],[]⟩
abbrev q2zl:Type:=Int×Int×Int×Int×Int×Int×Int×Int×Int×Int
def q2zm (v:q2zl):St:=⟨[(3,.ptr 0 0),(4,.ptr 1 0),(5,.ptr 2 0),(6,.ptr 3 0)],[.cells [.int .i64 v.1,.int .i64 v.2.1,.int .i64 v.2.2.1],.cells [.int .i64 v.2.2.2.1,.int .i64 v.2.2.2.2.1,.int .i64 v.2.2.2.2.2.1],.cells [.int .i64 v.2.2.2.2.2.2.1,.int .i64 v.2.2.2.2.2.2.2.1],.cells [.int .i64 v.2.2.2.2.2.2.2.2.1,.int .i64 v.2.2.2.2.2.2.2.2.2]]⟩
def q2zn (C:q2zg) (v:q2zj):Dt q2zl:=(Dt.ret (v.1,v.2.1,v.2.2.1,v.2.2.2.1,v.2.2.2.2.1,v.2.2.2.2.2.1,v.2.2.2.2.2.2.1,v.2.2.2.2.2.2.2,(0:Int),(0:Int)))
abbrev q40v {V Y:Type}:=@rg q2zg V Y tysT (fun C=>(orc (q2zi C))) 36
theorem q2zo C v:q40v (regO (qcz f44) 0) false (an [3,4,5,6]) q2zk q2zn q2zm C v:=rgI (by kernel_rfl)
abbrev q2zp:Type:=Int×Int×Int×Int×Int×Int×Int×Int×Int×Int
def q2zq (v:q2zp):St:=⟨[(4,.ptr 0 0),(5,.ptr 1 0),(6,.ptr 2 0),(8,.ptr 3 0),(9,.int .i64 v.1)],[.cells [.int .i64 v.2.1,.int .i64 v.2.2.1,.int .i64 v.2.2.2.1],.cells [.int .i64 v.2.2.2.2.1,.int .i64 v.2.2.2.2.2.1],.cells [.int .i64 v.2.2.2.2.2.2.1,.int .i64 v.2.2.2.2.2.2.2.1],.cells [.int .i64 v.2.2.2.2.2.2.2.2.1,.int .i64 v.2.2.2.2.2.2.2.2.2]]⟩
def q2zr (C:q2zg) (v:q2zl):Dt q2zp:=(Dt.bnd (C.2.1 ((v.1,v.2.1,v.2.2.1,()),(v.2.2.2.2.2.2.1,v.2.2.2.2.2.2.2.1,()),())) fun r1=>(Dt.ret (r1.2.2,v.2.2.2.1,v.2.2.2.2.1,v.2.2.2.2.2.1,v.2.2.2.2.2.2.1,v.2.2.2.2.2.2.2.1,v.2.2.2.2.2.2.2.2.1,v.2.2.2.2.2.2.2.2.2,r1.1,r1.2.1)))
theorem q2zs C v:q40v (regO (qcz f44) 1) false (an [4,5,6,8,9]) q2zm q2zr q2zq C v:=rgI (by kernel_rfl)
abbrev q2zt:Type:=Int×Bool×Int×Int×Int×Int×Int×Int×Int×Int×Int
def q2zu (v:q2zt):St:=⟨[(4,.ptr 0 0),(5,.ptr 1 0),(6,.ptr 2 0),(8,.ptr 3 0),(9,.int .i64 v.1),(18,.bool v.2.1)],[.cells [.int .i64 v.2.2.1,.int .i64 v.2.2.2.1,.int .i64 v.2.2.2.2.1],.cells [.int .i64 v.2.2.2.2.2.1,.int .i64 v.2.2.2.2.2.2.1],.cells [.int .i64 v.2.2.2.2.2.2.2.1,.int .i64 v.2.2.2.2.2.2.2.2.1],.cells [.int .i64 v.2.2.2.2.2.2.2.2.2.1,.int .i64 v.2.2.2.2.2.2.2.2.2.2]]⟩
def q2zv (C:q2zg) (v:q2zp):Dt q2zt:=(Dt.ret (v.1,(v.1 != (0:Int)),v.2.1,v.2.2.1,v.2.2.2.1,v.2.2.2.2.1,v.2.2.2.2.2.1,v.2.2.2.2.2.2.1,v.2.2.2.2.2.2.2.1,v.2.2.2.2.2.2.2.2.1,v.2.2.2.2.2.2.2.2.2))
theorem q2zw C v:q40v (regO (qcz f44) 2) false (an [4,5,6,8,9,18]) q2zq q2zv q2zu C v:=rgI (by kernel_rfl)
abbrev q2zx:Type:=Int×Int×Int
def q2zy (v:q2zx):St:=⟨[(6,.ptr 0 0),(7,.int .i64 v.1)],[.cells [.int .i64 v.2.1,.int .i64 v.2.2]]⟩
def q2zz (C:q2zg) (v:q2zt):Dt q2zx:=(Dt.ret (v.1,(0:Int),(0:Int)))
theorem q300 C v:q40v (regO (qcz f44) 3) false (an [6,7]) q2zu q2zz q2zy C v:=rgI (by kernel_rfl)
abbrev q301:Type:=Int×Int×Int×Int×Int×Int×Int
def q302 (v:q301):St:=⟨[(6,.ptr 0 0),(8,.ptr 1 0),(9,.int .i64 v.1),(10,.ptr 2 0)],[.cells [.int .i64 v.2.1,.int .i64 v.2.2.1],.cells [.int .i64 v.2.2.2.1,.int .i64 v.2.2.2.2.1],.cells [.int .i64 v.2.2.2.2.2.1,.int .i64 v.2.2.2.2.2.2]]⟩
def q303 (C:q2zg) (v:q2zt):Dt q301:=(Dt.bnd (C.2.1 ((v.2.2.1,v.2.2.2.1,v.2.2.2.2.1,()),(v.2.2.2.2.2.1,v.2.2.2.2.2.2.1,()),())) fun r1=>(Dt.ret (r1.2.2,v.2.2.2.2.2.2.2.1,v.2.2.2.2.2.2.2.2.1,v.2.2.2.2.2.2.2.2.2.1,v.2.2.2.2.2.2.2.2.2.2,r1.1,r1.2.1)))
theorem q304 C v:q40v (regO (qcz f44) 4) false (an [6,8,9,10]) q2zu q303 q302 C v:=rgI (by kernel_rfl)
abbrev q305:Type:=Int×Bool×Int×Int×Int×Int×Int×Int
def q306 (v:q305):St:=⟨[(6,.ptr 0 0),(8,.ptr 1 0),(9,.int .i64 v.1),(10,.ptr 2 0),(28,.bool v.2.1)],[.cells [.int .i64 v.2.2.1,.int .i64 v.2.2.2.1],.cells [.int .i64 v.2.2.2.2.1,.int .i64 v.2.2.2.2.2.1],.cells [.int .i64 v.2.2.2.2.2.2.1,.int .i64 v.2.2.2.2.2.2.2]]⟩
def q307 (C:q2zg) (v:q301):Dt q305:=(Dt.ret (v.1,(v.1 != (0:Int)),v.2.1,v.2.2.1,v.2.2.2.1,v.2.2.2.2.1,v.2.2.2.2.2.1,v.2.2.2.2.2.2))
theorem q308 C v:q40v (regO (qcz f44) 5) false (an [6,8,9,10,28]) q302 q307 q306 C v:=rgI (by kernel_rfl)
def q309 (C:q2zg) (v:q305):Dt q2zx:=(Dt.ret (v.1,(0:Int),(0:Int)))
theorem q30a C v:q40v (regO (qcz f44) 6) false (an [6,7]) q306 q309 q2zy C v:=rgI (by kernel_rfl)
def q30b (C:q2zg) (v:q305):Dt q2zx:=(Dt.bnd (C.1 ((v.2.2.2.2.1,v.2.2.2.2.2.1,()),(v.2.2.2.2.2.2.1,v.2.2.2.2.2.2.2,()),())) fun r1=>(Dt.ret (r1.2.2,r1.1,r1.2.1)))
theorem q30c C v:q40v (regO (qcz f44) 7) false (an [6,7]) q306 q30b q2zy C v:=rgI (by kernel_rfl)
def q30d (d:Nat) (x:q2zc):Option q2zd :=
 (q2zn (q2zh d) (x.1.1,x.1.2.1,x.1.2.2.1,x.2.1.1,x.2.1.2.1,x.2.1.2.2.1,x.2.2.1.1,x.2.2.1.2.1)).eval fun y0 =>
 (q2zr (q2zh d) y0).eval fun y1 =>
 (q2zv (q2zh d) y1).eval fun y2 =>
 bif y2.2.1 then ((q2zz (q2zh d) y2).eval fun y3 =>
 some (y3.2.1,y3.2.2,y3.1)) else ((q303 (q2zh d) y2).eval fun y4 =>
 (q307 (q2zh d) y4).eval fun y5 =>
 bif y5.2.1 then ((q309 (q2zh d) y5).eval fun y6 =>
 some (y6.2.1,y6.2.2,y6.1)) else ((q30b (q2zh d) y5).eval fun y7 =>
 some (y7.2.1,y7.2.2,y7.1)))
theorem q30e (d:Nat):COK prog (q2zf (q30d d)):=by
 have hm:prog.follows .mixedOrders=true:=qju
 have hT:=tys
 have hC0:OrcOK prog (orc (q2zi (q2zh d))):=qct (by
  intro S hS
  simp only [q2zi,List.mem_cons,List.not_mem_nil,or_false] at hS
  rcases hS with rfl | rfl
  · exact q22x d
  · exact q26f d)
 have hC:OrcOK prog (orc (q2zi (q2zh d))):=hC0
 refine q8f (c:=qcz f44) (fn:=f44) hT (by kernel_rfl) (by kernel_rfl) (by decide) fun x r h w0 φ0 Q hend=>?_
 replace h:q30d d x=some r:=h
 unfold q30d at h
 show Run prog w0 φ0 36 (qcz f44) ⟨[(0,.agg [.int .i64 x.1.1,.int .i64 x.1.2.1,.int .i64 x.1.2.2.1]),(1,.agg [.int .i64 x.2.1.1,.int .i64 x.2.1.2.1,.int .i64 x.2.1.2.2.1]),(2,.agg [.int .i64 x.2.2.1.1,.int .i64 x.2.2.1.2.1])],[]⟩ Q
 refine q3yy hm hT hC (q2zo (q2zh d) (x.1.1,x.1.2.1,x.1.2.2.1,x.2.1.1,x.2.1.2.1,x.2.1.2.2.1,x.2.2.1.1,x.2.2.1.2.1)) h fun y0 h=>?_
 refine q3yy hm hT hC (q2zs (q2zh d) y0) h fun y1 h=>?_
 refine q7z ?_
 refine q3yy hm hT hC (q2zw (q2zh d) y1) h fun y2 h=>?_
 refine q83 (v:=y2.2.1) (by kernel_rfl) h ?_ ?_
 ·
  intro h
  refine q3yy hm hT hC (q300 (q2zh d) y2) h fun y3 h=>?_
  refine q7y (q7n ?_)
  cases h
  exact (hend _ (by kernel_rfl)).2
 ·
  intro h
  refine q7v (q7l ?_)
  refine q3yy hm hT hC (q304 (q2zh d) y2) h fun y4 h=>?_
  refine q7z ?_
  refine q3yy hm hT hC (q308 (q2zh d) y4) h fun y5 h=>?_
  refine q83 (v:=y5.2.1) (by kernel_rfl) h ?_ ?_
  ·
   intro h
   refine q3yy hm hT hC (q30a (q2zh d) y5) h fun y6 h=>?_
   refine q7y (q7n ?_)
   cases h
   exact (hend _ (by kernel_rfl)).2
  ·
   intro h
   refine q7v (q7l ?_)
   refine q3yy hm hT hC (q30c (q2zh d) y5) h fun y7 h=>?_
   refine q7y ?_
   cases h
   exact (hend _ (by kernel_rfl)).2
abbrev q30f:List Pk:=[.row qjc true,.row Rii true]
abbrev q30g:Type:=qjd×Dii×Unit
abbrev q30h:Type:=Int×Int×Int
def q30i (r:q30h):LV×List Ob:=(.tup [.agg [.int .i64 r.1,.int .i64 r.2.1],.int .i64 r.2.2],[])
def q30j (F:q30g→Option q30h):Go.Tx.Spec:=⟨29,q30f,q30h,F,q30i⟩
abbrev q30k:Type:=(q2zc→Option q2zd)×(q2wq→Option q2wr)×(q2xq→Option q2xr)×Unit
def q30l (d:Nat):q30k:=(q30d d,q2xn d,q2yb d,())
def q30m (C:q30k):List Go.Tx.Spec:=[q2zf C.1,q2wt C.2.1,q2xt C.2.2.1]
abbrev q30n:Type:=List Diii×Int×Int
def q30o (v:q30n):St:=⟨[(0,.agg [.fz Riii v.1]),(1,.agg [.int .i64 v.2.1,.int .i64 v.2.2])],[]⟩
abbrev q30p:Type:=List Diii×Int×Int×Int×Int
def q30q (v:q30p):St:=⟨[(2,.ptr 0 0),(3,.ptr 1 0),(4,.ptr 2 0)],[.cells [.fz Riii v.1],.cells [.int .i64 v.2.1,.int .i64 v.2.2.1],.cells [.int .i64 v.2.2.2.1,.int .i64 v.2.2.2.2]]⟩
def q30r (C:q30k) (v:q30n):Dt q30p:=(Dt.ret (v.1,v.2.1,v.2.2,(0:Int),(0:Int)))
abbrev q40w {V Y:Type}:=@rg q30k V Y tysT (fun C=>(orc (q30m C))) 29
theorem q30s C v:q40w (regO (qcz f29) 0) false [(2,(.box [.val Riii])),(3,.any),(4,.any)] q30o q30r q30q C v:=rgI (by kernel_rfl)
abbrev q30t:Type:=Int×List Diii×Int×Int×Int×Int
def q30u (v:q30t):St:=⟨[(2,.ptr 0 0),(3,.ptr 1 0),(4,.ptr 2 0),(6,.int .i64 v.1)],[.cells [.fz Riii v.2.1],.cells [.int .i64 v.2.2.1,.int .i64 v.2.2.2.1],.cells [.int .i64 v.2.2.2.2.1,.int .i64 v.2.2.2.2.2]]⟩
def q30v (C:q30k) (v:q30p):Dt q30t:=(Dt.bnd (C.2.1 ((v.1,()),(v.2.1,v.2.2.1,()),(v.2.1,v.2.2.1,()),())) fun r1=>(Dt.ret (r1,v.1,v.2.1,v.2.2.1,v.2.2.2.1,v.2.2.2.2)))
theorem q30w C v:q40w (regO (qcz f29) 1) false [(2,(.box [.val Riii])),(3,.any),(4,.any),(6,.any)] q30q q30v q30u C v:=rgI (by kernel_rfl)
abbrev q30x:Type:=Int×Bool×List Diii×Int×Int×Int×Int
def q30y (v:q30x):St:=⟨[(2,.ptr 0 0),(3,.ptr 1 0),(4,.ptr 2 0),(6,.int .i64 v.1),(14,.bool v.2.1)],[.cells [.fz Riii v.2.2.1],.cells [.int .i64 v.2.2.2.1,.int .i64 v.2.2.2.2.1],.cells [.int .i64 v.2.2.2.2.2.1,.int .i64 v.2.2.2.2.2.2]]⟩
def q30z (C:q30k) (v:q30t):Dt q30x:=(Dt.ret (v.1,(v.1 != (0:Int)),v.2.1,v.2.2.1,v.2.2.2.1,v.2.2.2.2.1,v.2.2.2.2.2))
theorem q310 C v:q40w (regO (qcz f29) 2) false [(2,(.box [.val Riii])),(3,.any),(4,.any),(6,.any),(14,.any)] q30u q30z q30y C v:=rgI (by kernel_rfl)
abbrev q311:Type:=Int×Int×Int
def q312 (v:q311):St:=⟨[(4,.ptr 0 0),(5,.int .i64 v.1)],[.cells [.int .i64 v.2.1,.int .i64 v.2.2]]⟩
def q313 (C:q30k) (v:q30x):Dt q311:=(Dt.ret (v.1,(0:Int),(0:Int)))
theorem q314 C v:q40w (regO (qcz f29) 3) false (an [4,5]) q30y q313 q312 C v:=rgI (by kernel_rfl)
abbrev q315:Type:=Int×Int×Int×Int×Int×Int×Int×Int×Int×Int
def q316 (v:q315):St:=⟨[(3,.ptr 0 0),(4,.ptr 1 0),(7,.ptr 2 0),(8,.ptr 3 0)],[.cells [.int .i64 v.1,.int .i64 v.2.1],.cells [.int .i64 v.2.2.1,.int .i64 v.2.2.2.1],.cells [.int .i64 v.2.2.2.2.1,.int .i64 v.2.2.2.2.2.1,.int .i64 v.2.2.2.2.2.2.1],.cells [.int .i64 v.2.2.2.2.2.2.2.1,.int .i64 v.2.2.2.2.2.2.2.2.1,.int .i64 v.2.2.2.2.2.2.2.2.2]]⟩
def q317 (C:q30k) (v:q30x):Dt q315:=(Dt.bnd (C.2.2.1 ((v.2.2.1,()),(v.2.2.2.1,v.2.2.2.2.1,()),())) fun r1=>(Dt.ret (v.2.2.2.1,v.2.2.2.2.1,v.2.2.2.2.2.1,v.2.2.2.2.2.2,r1.1,r1.2.1,r1.2.2.1,r1.2.2.2.1,r1.2.2.2.2.1,r1.2.2.2.2.2)))
theorem q318 C v:q40w (regO (qcz f29) 4) false (an [3,4,7,8]) q30y q317 q316 C v:=rgI (by kernel_rfl)
def q319 (C:q30k) (v:q315):Dt q311:=(Dt.bnd (C.1 ((v.2.2.2.2.1,v.2.2.2.2.2.1,v.2.2.2.2.2.2.1,()),(v.2.2.2.2.2.2.2.1,v.2.2.2.2.2.2.2.2.1,v.2.2.2.2.2.2.2.2.2,()),(v.1,v.2.1,()),())) fun r1=>(Dt.ret (r1.2.2,r1.1,r1.2.1)))
theorem q31a C v:q40w (regO (qcz f29) 5) false (an [4,5]) q316 q319 q312 C v:=rgI (by kernel_rfl)
def q31b (d:Nat) (x:q30g):Option q30h :=
 (q30r (q30l d) (x.1.1,x.2.1.1,x.2.1.2.1)).eval fun y0 =>
 (q30v (q30l d) y0).eval fun y1 =>
 (q30z (q30l d) y1).eval fun y2 =>
 bif y2.2.1 then ((q313 (q30l d) y2).eval fun y3 =>
 some (y3.2.1,y3.2.2,y3.1)) else ((q317 (q30l d) y2).eval fun y4 =>
 (q319 (q30l d) y4).eval fun y5 =>
 some (y5.2.1,y5.2.2,y5.1))
theorem q31c (d:Nat):COK prog (q30j (q31b d)):=by
 have hm:prog.follows .mixedOrders=true:=qju
 have hT:=tys
 have hC0:OrcOK prog (orc (q30m (q30l d))):=qct (by
  intro S hS
  simp only [q30m,List.mem_cons,List.not_mem_nil,or_false] at hS
  rcases hS with rfl | rfl | rfl
  · exact q30e d
  · exact q2xo d
  · exact q2yc d)
 have hC:OrcOK prog (orc (q30m (q30l d))):=hC0
 refine q8f (c:=qcz f29) (fn:=f29) hT (by kernel_rfl) (by kernel_rfl) (by decide) fun x r h w0 φ0 Q hend=>?_
 replace h:q31b d x=some r:=h
 unfold q31b at h
 show Run prog w0 φ0 29 (qcz f29) ⟨[(0,.agg [.fz Riii x.1.1]),(1,.agg [.int .i64 x.2.1.1,.int .i64 x.2.1.2.1])],[]⟩ Q
 refine q3yy hm hT hC (q30s (q30l d) (x.1.1,x.2.1.1,x.2.1.2.1)) h fun y0 h=>?_
 refine q7z ?_
 refine q3yy hm hT hC (q30w (q30l d) y0) h fun y1 h=>?_
 refine q3yy hm hT hC (q310 (q30l d) y1) h fun y2 h=>?_
 refine q83 (v:=y2.2.1) (by kernel_rfl) h ?_ ?_
 ·
  intro h
  refine q3yy hm hT hC (q314 (q30l d) y2) h fun y3 h=>?_
  refine q7y (q7n ?_)
  cases h
  exact (hend _ (by kernel_rfl)).2
 ·
  intro h
  refine q7v (q7l ?_)
  refine q3yy hm hT hC (q318 (q30l d) y2) h fun y4 h=>?_
  refine q3yy hm hT hC (q31a (q30l d) y4) h fun y5 h=>?_
  refine q7y ?_
  cases h
  exact (hend _ (by kernel_rfl)).2
abbrev q31d:List Pk:=[.row qjc true,.row Rii true]
abbrev q31e:Type:=qjd×Dii×Unit
abbrev q31f:Type:=Int
def q31g (r:q31f):LV×List Ob:=(.int .i64 r,[])
def q31h (F:q31e→Option q31f):Go.Tx.Spec:=⟨79,q31d,q31f,F,q31g⟩
abbrev q31i:Type:=(q2xq→Option q2xr)×Unit
def q31j (d:Nat):q31i:=(q2yb d,())
def q31k (C:q31i):List Go.Tx.Spec:=[q2xt C.1]
abbrev q31l:Type:=List Diii×Int×Int
def q31m (v:q31l):St:=⟨[(0,.agg [.fz Riii v.1]),(1,.agg [.int .i64 v.2.1,.int .i64 v.2.2])],[]⟩
abbrev q31n:Type:=List Diii×Int×Int
def q31o (v:q31n):St:=⟨[(2,.ptr 0 0),(3,.ptr 1 0)],[.cells [.fz Riii v.1],.cells [.int .i64 v.2.1,.int .i64 v.2.2]]⟩
def q31p (C:q31i) (v:q31l):Dt q31n:=(Dt.ret (v.1,v.2.1,v.2.2))
abbrev q40x {V Y:Type}:=@rg q31i V Y tysT (fun C=>(orc (q31k C))) 18
theorem q31q C v:q40x (regO (qcz f79) 0) false [(2,(.box [.val Riii])),(3,.any)] q31m q31p q31o C v:=rgI (by kernel_rfl)
abbrev q31r:Type:=Int×Int×Int×Int×Int×Int
def q31s (v:q31r):St:=⟨[(5,.ptr 0 0),(6,.ptr 1 0)],[.cells [.int .i64 v.1,.int .i64 v.2.1,.int .i64 v.2.2.1],.cells [.int .i64 v.2.2.2.1,.int .i64 v.2.2.2.2.1,.int .i64 v.2.2.2.2.2]]⟩
def q31t (C:q31i) (v:q31n):Dt q31r:=(Dt.bnd (C.1 ((v.1,()),(v.2.1,v.2.2,()),())) fun r1=>(Dt.ret (r1.1,r1.2.1,r1.2.2.1,r1.2.2.2.1,r1.2.2.2.2.1,r1.2.2.2.2.2)))
theorem q31u C v:q40x (regO (qcz f79) 1) false (an [5,6]) q31o q31t q31s C v:=rgI (by kernel_rfl)
abbrev q31v:Type:=Int
def q31w (v:q31v):St:=⟨[(4,.int .i64 v)],[]⟩
def q31x (C:q31i) (v:q31r):Dt q31v:=(Dt.ret (IntKind.wrap .i64 (v.2.2.1 - v.2.2.2.2.2)))
theorem q31y C v:q40x (regO (qcz f79) 2) false [(4,.any)] q31s q31x q31w C v:=rgI (by kernel_rfl)
def q31z (d:Nat) (x:q31e):Option q31f :=
 (q31p (q31j d) (x.1.1,x.2.1.1,x.2.1.2.1)).eval fun y0 =>
 (q31t (q31j d) y0).eval fun y1 =>
 (q31x (q31j d) y1).eval fun y2 =>
 some y2
theorem q320 (d:Nat):COK prog (q31h (q31z d)):=by
 have hm:prog.follows .mixedOrders=true:=qju
 have hT:=tys
 have hC0:OrcOK prog (orc (q31k (q31j d))):=qct (by
  intro S hS
  simp only [q31k,List.mem_cons,List.not_mem_nil,or_false] at hS
  subst hS;exact q2yc d)
 have hC:OrcOK prog (orc (q31k (q31j d))):=hC0
 refine q8f (c:=qcz f79) (fn:=f79) hT (by kernel_rfl) (by kernel_rfl) (by decide) fun x r h w0 φ0 Q hend=>?_
 replace h:q31z d x=some r:=h
 unfold q31z at h
 show Run prog w0 φ0 18 (qcz f79) ⟨[(0,.agg [.fz Riii x.1.1]),(1,.agg [.int .i64 x.2.1.1,.int .i64 x.2.1.2.1])],[]⟩ Q
 refine q3yy hm hT hC (q31q (q31j d) (x.1.1,x.2.1.1,x.2.1.2.1)) h fun y0 h=>?_
 refine q3yy hm hT hC (q31u (q31j d) y0) h fun y1 h=>?_
 refine q3yy hm hT hC (q31y (q31j d) y1) h fun y2 h=>?_
 refine q7y ?_
 cases h
 exact (hend _ (by kernel_rfl)).2
abbrev q321:List Pk:=[.row qjc true,.row Rii true]
abbrev q322:Type:=qjd×Dii×Unit
abbrev q323:Type:=Int×Int
def q324 (r:q323):LV×List Ob:=(.tup [.int .i64 r.1,.int .i64 r.2],[])
def q325 (F:q322→Option q323):Go.Tx.Spec:=⟨31,q321,q323,F,q324⟩
abbrev q326:Type:=(q2wq→Option q2wr)×(q31e→Option q31f)×Unit
def q327 (d:Nat):q326:=(q2xn d,q31z d,())
def q328 (C:q326):List Go.Tx.Spec:=[q2wt C.1,q31h C.2.1]
abbrev q329:Type:=List Diii×Int×Int
def q32a (v:q329):St:=⟨[(0,.agg [.fz Riii v.1]),(1,.agg [.int .i64 v.2.1,.int .i64 v.2.2])],[]⟩
abbrev q32b:Type:=List Diii×Int×Int
def q32c (v:q32b):St:=⟨[(2,.ptr 0 0),(3,.ptr 1 0)],[.cells [.fz Riii v.1],.cells [.int .i64 v.2.1,.int .i64 v.2.2]]⟩
def q32d (C:q326) (v:q329):Dt q32b:=(Dt.ret (v.1,v.2.1,v.2.2))
abbrev q40y {V Y:Type}:=@rg q326 V Y tysT (fun C=>(orc (q328 C))) 17
theorem q32e C v:q40y (regO (qcz f31) 0) false [(2,(.box [.val Riii])),(3,.any)] q32a q32d q32c C v:=rgI (by kernel_rfl)
abbrev q32f:Type:=Int×List Diii×Int×Int
def q32g (v:q32f):St:=⟨[(2,.ptr 0 0),(3,.ptr 1 0),(6,.int .i64 v.1)],[.cells [.fz Riii v.2.1],.cells [.int .i64 v.2.2.1,.int .i64 v.2.2.2]]⟩
def q32h (C:q326) (v:q32b):Dt q32f:=(Dt.bnd (C.1 ((v.1,()),(v.2.1,v.2.2,()),(v.2.1,v.2.2,()),())) fun r1=>(Dt.ret (r1,v.1,v.2.1,v.2.2)))
theorem q32i C v:q40y (regO (qcz f31) 1) false [(2,(.box [.val Riii])),(3,.any),(6,.any)] q32c q32h q32g C v:=rgI (by kernel_rfl)
abbrev q32j:Type:=Int×Bool×List Diii×Int×Int
def q32k (v:q32j):St:=⟨[(2,.ptr 0 0),(3,.ptr 1 0),(6,.int .i64 v.1),(12,.bool v.2.1)],[.cells [.fz Riii v.2.2.1],.cells [.int .i64 v.2.2.2.1,.int .i64 v.2.2.2.2]]⟩
def q32l (C:q326) (v:q32f):Dt q32j:=(Dt.ret (v.1,(v.1 != (0:Int)),v.2.1,v.2.2.1,v.2.2.2))
theorem q32m C v:q40y (regO (qcz f31) 2) false [(2,(.box [.val Riii])),(3,.any),(6,.any),(12,.any)] q32g q32l q32k C v:=rgI (by kernel_rfl)
abbrev q32n:Type:=Int×Int
def q32o (v:q32n):St:=⟨[(4,.int .i64 v.1),(5,.int .i64 v.2)],[]⟩
def q32p (C:q326) (v:q32j):Dt q32n:=(Dt.ret ((0:Int),v.1))
theorem q32q C v:q40y (regO (qcz f31) 3) false (an [4,5]) q32k q32p q32o C v:=rgI (by kernel_rfl)
def q32r (C:q326) (v:q32j):Dt q32n:=(Dt.bnd (C.2.1 ((v.2.2.1,()),(v.2.2.2.1,v.2.2.2.2,()),())) fun r1=>(Dt.ret (r1,(0:Int))))
theorem q32s C v:q40y (regO (qcz f31) 4) false (an [4,5]) q32k q32r q32o C v:=rgI (by kernel_rfl)
def q32t (d:Nat) (x:q322):Option q323 :=
 (q32d (q327 d) (x.1.1,x.2.1.1,x.2.1.2.1)).eval fun y0 =>
 (q32h (q327 d) y0).eval fun y1 =>
 (q32l (q327 d) y1).eval fun y2 =>
 bif y2.2.1 then ((q32p (q327 d) y2).eval fun y3 =>
 some y3) else ((q32r (q327 d) y2).eval fun y4 =>
 some y4)
theorem q32u (d:Nat):COK prog (q325 (q32t d)):=by
 have hm:prog.follows .mixedOrders=true:=qju
 have hT:=tys
 have hC0:OrcOK prog (orc (q328 (q327 d))):=qct (by
  intro S hS
  simp only [q328,List.mem_cons,List.not_mem_nil,or_false] at hS
  rcases hS with rfl | rfl
  · exact q2xo d
  · exact q320 d)
 have hC:OrcOK prog (orc (q328 (q327 d))):=hC0
 refine q8f (c:=qcz f31) (fn:=f31) hT (by kernel_rfl) (by kernel_rfl) (by decide) fun x r h w0 φ0 Q hend=>?_
 replace h:q32t d x=some r:=h
 unfold q32t at h
 show Run prog w0 φ0 17 (qcz f31) ⟨[(0,.agg [.fz Riii x.1.1]),(1,.agg [.int .i64 x.2.1.1,.int .i64 x.2.1.2.1])],[]⟩ Q
 refine q3yy hm hT hC (q32e (q327 d) (x.1.1,x.2.1.1,x.2.1.2.1)) h fun y0 h=>?_
 refine q7z ?_
 refine q3yy hm hT hC (q32i (q327 d) y0) h fun y1 h=>?_
 refine q3yy hm hT hC (q32m (q327 d) y1) h fun y2 h=>?_
 refine q83 (v:=y2.2.1) (by kernel_rfl) h ?_ ?_
 ·
  intro h
  refine q3yy hm hT hC (q32q (q327 d) y2) h fun y3 h=>?_
  refine q7y (q7n ?_)
  cases h
  exact (hend _ (by kernel_rfl)).2
 ·
  intro h
  refine q7v (q7l ?_)
  refine q3yy hm hT hC (q32s (q327 d) y2) h fun y4 h=>?_
  refine q7y ?_
  cases h
  exact (hend _ (by kernel_rfl)).2
abbrev q32v:List Pk:=[.row qjc true,.row Rii true,.row Rii true]
abbrev q32w:Type:=qjd×Dii×Dii×Unit
abbrev q32x:Type:=List Dii
def q32y (r:q32x):LV×List Ob:=(.rs 0,[.rows Rii r])
def q32z (F:q32w→Option q32x):Go.Tx.Spec:=⟨81,q32v,q32x,F,q32y⟩
abbrev q330:Type:=(q31e→Option q31f)×(q2vg→Option q2vh)×Unit
def q331 (d:Nat):q330:=(q31z d,q2wn d,())
def q332 (C:q330):List Go.Tx.Spec:=[q31h C.1,q2vj C.2.1]
abbrev q333:Type:=List Diii×Int×Int×Int×Int
def q334 (v:q333):St:=⟨[(0,.agg [.fz Riii v.1]),(1,.agg [.int .i64 v.2.1,.int .i64 v.2.2.1]),(2,.agg [.int .i64 v.2.2.2.1,.int .i64 v.2.2.2.2])],[]⟩
abbrev q335:Type:=List Diii×Int×Int×Int×Int
def q336 (v:q335):St:=⟨[(3,.ptr 0 0),(4,.ptr 1 0),(5,.ptr 2 0)],[.cells [.fz Riii v.1],.cells [.int .i64 v.2.1,.int .i64 v.2.2.1],.cells [.int .i64 v.2.2.2.1,.int .i64 v.2.2.2.2]]⟩
def q337 (C:q330) (v:q333):Dt q335:=(Dt.ret (v.1,v.2.1,v.2.2.1,v.2.2.2.1,v.2.2.2.2))
abbrev q40z {V Y:Type}:=@rg q330 V Y tysT (fun C=>(orc (q332 C))) 45
theorem q338 C v:q40z (regO (qcz f81) 0) false [(3,(.box [.val Riii])),(4,.any),(5,.any)] q334 q337 q336 C v:=rgI (by kernel_rfl)
abbrev q339:Type:=List Diii×Int×Int×Int×Int×List Dii
def q33a (v:q339):St:=⟨[(3,.ptr 0 0),(4,.ptr 1 0),(5,.ptr 2 0),(7,.rs 3)],[.cells [.fz Riii v.1],.cells [.int .i64 v.2.1,.int .i64 v.2.2.1],.cells [.int .i64 v.2.2.2.1,.int .i64 v.2.2.2.2.1],.rows Rii v.2.2.2.2.2]⟩
def q33b (C:q330) (v:q335):Dt q339:=(Dt.ret (v.1,v.2.1,v.2.2.1,v.2.2.2.1,v.2.2.2.2,([]:List Dii)))
theorem q33c C v:q40z (regO (qcz f81) 1) false [(3,(.box [.val Riii])),(4,.any),(5,.any),(7,(.own Rii))] q336 q33b q33a C v:=rgI (by kernel_rfl)
abbrev q33d:Type:=Int×List Diii×Int×Int×Int×Int×List Dii
def q33e (v:q33d):St:=⟨[(3,.ptr 0 0),(4,.ptr 1 0),(5,.ptr 2 0),(7,.rs 3),(8,.int .i64 v.1)],[.cells [.fz Riii v.2.1],.cells [.int .i64 v.2.2.1,.int .i64 v.2.2.2.1],.cells [.int .i64 v.2.2.2.2.1,.int .i64 v.2.2.2.2.2.1],.rows Rii v.2.2.2.2.2.2]⟩
def q33f (C:q330) (v:q339):Dt q33d:=(Dt.bnd (C.1 ((v.1,()),(v.2.1,v.2.2.1,()),())) fun r1=>(Dt.ret (r1,v.1,v.2.1,v.2.2.1,v.2.2.2.1,v.2.2.2.2.1,v.2.2.2.2.2)))
theorem q33g C v:q40z (regO (qcz f81) 2) false [(3,(.box [.val Riii])),(4,.any),(5,.any),(7,(.own Rii)),(8,.any)] q33a q33f q33e C v:=rgI (by kernel_rfl)
abbrev q33h:Type:=Int×List Diii×List Dii×List qjg
def q33i (v:q33h):St:=⟨[(3,.ptr 0 0),(7,.rs 1),(8,.int .i64 v.1),(9,.rs 2)],[.cells [.fz Riii v.2.1],.rows Rii v.2.2.1,.rows qjf v.2.2.2]⟩
def q33j (C:q330) (v:q33d):Dt q33h:=(Dt.bnd (C.2.1 ((v.2.1,()),(v.2.2.1,v.2.2.2.1,()),(v.2.2.2.2.1,v.2.2.2.2.2.1,()),())) fun r1=>(Dt.ret (v.1,v.2.1,v.2.2.2.2.2.2,r1)))
theorem q33k C v:q40z (regO (qcz f81) 3) false [(3,(.box [.val Riii])),(7,(.own Rii)),(8,.any),(9,(.own qjf))] q33e q33j q33i C v:=rgI (by kernel_rfl)
abbrev q33l:Type:=Int×Int×List Diii×List Dii×List qjg
def q33m (v:q33l):St:=⟨[(3,.ptr 0 0),(7,.rs 1),(8,.int .i64 v.1),(9,.rs 2),(10,.int .i64 v.2.1)],[.cells [.fz Riii v.2.2.1],.rows Rii v.2.2.2.1,.rows qjf v.2.2.2.2]⟩
def q33n (C:q330) (v:q33h):Dt q33l:=(Dt.ret (v.1,(0:Int),v.2.1,v.2.2.1,v.2.2.2))
theorem q33o C v:q40z (regO (qcz f81) 4) false [(3,(.box [.val Riii])),(7,(.own Rii)),(8,.any),(9,(.own qjf)),(10,.any)] q33i q33n q33m C v:=rgI (by kernel_rfl)
abbrev q33p:Type:=Int×Int×Bool×List Diii×List Dii×List qjg
def q33q (v:q33p):St:=⟨[(3,.ptr 0 0),(7,.rs 1),(8,.int .i64 v.1),(9,.rs 2),(10,.int .i64 v.2.1),(22,.bool v.2.2.1)],[.cells [.fz Riii v.2.2.2.1],.rows Rii v.2.2.2.2.1,.rows qjf v.2.2.2.2.2]⟩
def q33r (C:q330) (v:q33l):Dt q33p:=(Dt.ret (v.1,v.2.1,(decide (v.2.1 < (List.length v.2.2.2.2:Int))),v.2.2.1,v.2.2.2.1,v.2.2.2.2))
theorem q33s C v:q40z (regO (qcz f81) 5) false [(3,(.box [.val Riii])),(7,(.own Rii)),(8,.any),(9,(.own qjf)),(10,.any),(22,.any)] q33m q33r q33q C v:=rgI (by kernel_rfl)
abbrev q33t:Type:=Int×Int×Int×List Diii×List Dii×List qjg
def q33u (v:q33t):St:=⟨[(3,.ptr 0 0),(7,.rs 1),(8,.int .i64 v.1),(9,.rs 2),(10,.int .i64 v.2.1),(11,.int .i64 v.2.2.1)],[.cells [.fz Riii v.2.2.2.1],.rows Rii v.2.2.2.2.1,.rows qjf v.2.2.2.2.2]⟩
def q33v (C:q330) (v:q33p):Dt q33t:=(Dt.ite (inB v.2.1 (List.length v.2.2.2.2.2)) (Dt.bnd (C.1 ((v.2.2.2.1,()),((elt qjh v.2.2.2.2.2 (v.2.1).toNat).1,(elt qjh v.2.2.2.2.2 (v.2.1).toNat).2.1,()),())) fun r1=>(Dt.ret (v.1,v.2.1,r1,v.2.2.2.1,v.2.2.2.2.1,v.2.2.2.2.2))) Dt.fail)
theorem q33w C v:q40z (regO (qcz f81) 7) true [(3,(.box [.val Riii])),(7,(.own Rii)),(8,.any),(9,(.own qjf)),(10,.any),(11,.any)] q33q q33v q33u C v:=rgI (by kernel_rfl)
abbrev q33x:Type:=Int×Int×Int×Bool×List Diii×List Dii×List qjg
def q33y (v:q33x):St:=⟨[(3,.ptr 0 0),(7,.rs 1),(8,.int .i64 v.1),(9,.rs 2),(10,.int .i64 v.2.1),(11,.int .i64 v.2.2.1),(34,.bool v.2.2.2.1)],[.cells [.fz Riii v.2.2.2.2.1],.rows Rii v.2.2.2.2.2.1,.rows qjf v.2.2.2.2.2.2]⟩
def q33z (C:q330) (v:q33t):Dt q33x:=(Dt.ret (v.1,v.2.1,v.2.2.1,(v.2.2.1 != v.1),v.2.2.2.1,v.2.2.2.2.1,v.2.2.2.2.2))
theorem q340 C v:q40z (regO (qcz f81) 8) false [(3,(.box [.val Riii])),(7,(.own Rii)),(8,.any),(9,(.own qjf)),(10,.any),(11,.any),(34,.any)] q33u q33z q33y C v:=rgI (by kernel_rfl)
abbrev q341:Type:=Int×Int×List Diii×List Dii×List qjg
def q342 (v:q341):St:=⟨[(3,.ptr 0 0),(7,.rs 1),(9,.rs 2),(10,.int .i64 v.1),(11,.int .i64 v.2.1)],[.cells [.fz Riii v.2.2.1],.rows Rii v.2.2.2.1,.rows qjf v.2.2.2.2]⟩
def q343 (C:q330) (v:q33x):Dt q341:=(Dt.ite (inB v.2.1 (List.length v.2.2.2.2.2.2)) (Dt.ite (apB (List.length v.2.2.2.2.2.1) (List.length ([((elt qjh v.2.2.2.2.2.2 (v.2.1).toNat).1,(elt qjh v.2.2.2.2.2.2 (v.2.1).toNat).2.1,())]:List Dii))) (Dt.ret (v.2.1,v.2.2.1,v.2.2.2.2.1,(v.2.2.2.2.2.1 ++ ([((elt qjh v.2.2.2.2.2.2 (v.2.1).toNat).1,(elt qjh v.2.2.2.2.2.2 (v.2.1).toNat).2.1,())]:List Dii)),v.2.2.2.2.2.2)) Dt.fail) Dt.fail)
theorem q344 C v:q40z (regO (qcz f81) 9) false [(3,(.box [.val Riii])),(7,(.own Rii)),(9,(.own qjf)),(10,.any),(11,.any)] q33y q343 q342 C v:=rgI (by kernel_rfl)
def q345 (C:q330) (v:q341):Dt q33l:=(Dt.ret (v.2.1,v.1,v.2.2.1,v.2.2.2.1,v.2.2.2.2))
theorem q346 C v:q40z (regO (qcz f81) 10) false [(3,(.box [.val Riii])),(7,(.own Rii)),(8,.any),(9,(.own qjf)),(10,.any)] q342 q345 q33m C v:=rgI (by kernel_rfl)
def q347 (C:q330) (v:q33l):Dt q33l:=(Dt.ret (v.1,(IntKind.wrap .i64 (v.2.1 + (1:Int))),v.2.2.1,v.2.2.2.1,v.2.2.2.2))
theorem q348 C v:q40z (regO (qcz f81) 6) false [(3,(.box [.val Riii])),(7,(.own Rii)),(8,.any),(9,(.own qjf)),(10,.any)] q33m q347 q33m C v:=rgI (by kernel_rfl)
def q349  (d:Nat) (self1:(Int×Int×List Diii×List Dii×List qjg)→Option q32x) (z:Int×Int×List Diii×List Dii×List qjg):Option (q32x) :=
 (q347 (q331 d) z).eval fun y6 =>
 self1 y6
abbrev q34a:Type:=List Dii
def q34b (v:q34a):St:=⟨[(6,.rs 0)],[.rows Rii v]⟩
def q34c (C:q330) (v:q33p):Dt q34a:=(Dt.ret v.2.2.2.2.1)
theorem q34d C v:q40z (regO (qcz f81) 11) false [(6,(.own Rii))] q33q q34c q34b C v:=rgI (by kernel_rfl)
def q34e (d:Nat) (self1:(Int×Int×List Diii×List Dii×List qjg)→Option q32x) (x1:Int×Int×List Diii×List Dii×List qjg):Option q32x :=
 (q33r (q331 d) x1).eval fun y5 =>
 bif y5.2.2.1 then ((q33v (q331 d) y5).eval fun y7 =>
 (q33z (q331 d) y7).eval fun y8 =>
 bif y8.2.2.2.1 then ((q343 (q331 d) y8).eval fun y9 =>
 (q345 (q331 d) y9).eval fun y10 =>
 q349 d self1 y10) else (q349 d self1 (y8.1,y8.2.1,y8.2.2.2.2.1,y8.2.2.2.2.2.1,y8.2.2.2.2.2.2))) else ((q34c (q331 d) y5).eval fun y11 =>
 some y11)
def q34f (d:Nat) (x:q32w):Option q32x :=
 (q337 (q331 d) (x.1.1,x.2.1.1,x.2.1.2.1,x.2.2.1.1,x.2.2.1.2.1)).eval fun y0 =>
 (q33b (q331 d) y0).eval fun y1 =>
 (q33f (q331 d) y1).eval fun y2 =>
 (q33j (q331 d) y2).eval fun y3 =>
 (q33n (q331 d) y3).eval fun y4 =>
 iter (q34e d ) d y4
theorem q34g (d:Nat):COK prog (q32z (q34f d)):=by
 have hm:prog.follows .mixedOrders=true:=qju
 have hT:=tys
 have hC0:OrcOK prog (orc (q332 (q331 d))):=qct (by
  intro S hS
  simp only [q332,List.mem_cons,List.not_mem_nil,or_false] at hS
  rcases hS with rfl | rfl
  · exact q320 d
  · exact q2wo d)
 have hC:OrcOK prog (orc (q332 (q331 d))):=hC0
 refine q8f (c:=qcz f81) (fn:=f81) hT (by kernel_rfl) (by kernel_rfl) (by decide) fun x r h w0 φ0 Q hend=>?_
 replace h:q34f d x=some r:=h
 unfold q34f at h
 show Run prog w0 φ0 45 (qcz f81) ⟨[(0,.agg [.fz Riii x.1.1]),(1,.agg [.int .i64 x.2.1.1,.int .i64 x.2.1.2.1]),(2,.agg [.int .i64 x.2.2.1.1,.int .i64 x.2.2.1.2.1])],[]⟩ Q
 refine q3yy hm hT hC (q338 (q331 d) (x.1.1,x.2.1.1,x.2.1.2.1,x.2.2.1.1,x.2.2.1.2.1)) h fun y0 h=>?_
 refine q3yy hm hT hC (q33c (q331 d) y0) h fun y1 h=>?_
 refine q3yy hm hT hC (q33g (q331 d) y1) h fun y2 h=>?_
 refine q3yy hm hT hC (q33k (q331 d) y2) h fun y3 h=>?_
 refine q7z ?_
 refine q3yy hm hT hC (q33o (q331 d) y3) h fun y4 h=>?_
 refine q80 ?_
 refine q85 (G:=iter (q34e d )) (S:=(fun x1=>⟨[(3,.ptr 0 0),(7,.rs 1),(8,.int .i64 x1.1),(9,.rs 2),(10,.int .i64 x1.2.1)],[.cells [.fz Riii x1.2.2.1],.rows Rii x1.2.2.2.1,.rows qjf x1.2.2.2.2]⟩:Int×Int×List Diii×List Dii×List qjg→St)) (fun _=>rfl) ?_ d _ h
 intro n1 x1 h K1 hn1
 replace h:q34e d  (iter (q34e d ) n1) x1=some r:=h
 generalize iter (q34e d ) n1=self1 at h hn1
 unfold q34e at h
 refine q7z ?_
 refine q3yy hm hT hC (q33s (q331 d) x1) h fun y5 h=>?_
 refine q83 (v:=y5.2.2.1) (by kernel_rfl) h ?_ ?_
 ·
  intro h
  refine q7v (q7l ?_)
  refine q82 (r:=r) (F:=q349 d self1) (S:=(fun z=>⟨[(3,.ptr 0 0),(7,.rs 1),(8,.int .i64 z.1),(9,.rs 2),(10,.int .i64 z.2.1)],[.cells [.fz Riii z.2.2.1],.rows Rii z.2.2.2.1,.rows qjf z.2.2.2.2]⟩:Int×Int×List Diii×List Dii×List qjg→St)) ?_ ?_
  ·
   intro z h
   unfold q349 at h
   refine q84 hm hT hC (q348 (q331 d) z) h ?_
   intro y6 h
   exact hn1 _ h
  intro hj2
  refine q80 ?_
  refine q3yy hm hT hC (q33w (q331 d) y5) h fun y7 h=>?_
  refine q3yy hm hT hC (q340 (q331 d) y7) h fun y8 h=>?_
  refine q83 (v:=y8.2.2.2.1) (by kernel_rfl) h ?_ ?_
  ·
   intro h
   refine q3yy hm hT hC (q344 (q331 d) y8) h fun y9 h=>?_
   refine q84 hm hT hC (q346 (q331 d) y9) h ?_
   intro y10 h
   refine q7o ?_
   exact hj2 _ h
  ·
   intro h
   refine q7v (q7o ?_)
   refine qcy (s:=⟨[(3,.ptr 0 0),(7,.rs 1),(8,.int .i64 y8.1),(9,.rs 2),(10,.int .i64 y8.2.1)],[.cells [.fz Riii y8.2.2.2.2.1],.rows Rii y8.2.2.2.2.2.1,.rows qjf y8.2.2.2.2.2.2]⟩) [11,34] (by kernel_rfl) ?_
   exact hj2 _ h
 ·
  intro h
  refine q7x (q7m (q7m (q7q (q7l ?_))))
  refine q3yy hm hT hC (q34d (q331 d) y5) h fun y11 h=>?_
  refine q7y ?_
  cases h
  exact (hend _ (by kernel_rfl)).2
abbrev q34h:List Pk:=[.row qjc true,.row Rii true,.row Rii true]
abbrev q34i:Type:=qjd×Dii×Dii×Unit
abbrev q34j:Type:=List Dii×Int
def q34k (r:q34j):LV×List Ob:=(.tup [.rs 0,.int .i64 r.2],[.rows Rii r.1])
def q34l (F:q34i→Option q34j):Go.Tx.Spec:=⟨33,q34h,q34j,F,q34k⟩
abbrev q34m:Type:=(q2wq→Option q2wr)×(q32w→Option q32x)×Unit
def q34n (d:Nat):q34m:=(q2xn d,q34f d,())
def q34o (C:q34m):List Go.Tx.Spec:=[q2wt C.1,q32z C.2.1]
abbrev q34p:Type:=List Diii×Int×Int×Int×Int
def q34q (v:q34p):St:=⟨[(0,.agg [.fz Riii v.1]),(1,.agg [.int .i64 v.2.1,.int .i64 v.2.2.1]),(2,.agg [.int .i64 v.2.2.2.1,.int .i64 v.2.2.2.2])],[]⟩
abbrev q34r:Type:=List Diii×Int×Int×Int×Int
def q34s (v:q34r):St:=⟨[(3,.ptr 0 0),(4,.ptr 1 0),(5,.ptr 2 0)],[.cells [.fz Riii v.1],.cells [.int .i64 v.2.1,.int .i64 v.2.2.1],.cells [.int .i64 v.2.2.2.1,.int .i64 v.2.2.2.2]]⟩
def q34t (C:q34m) (v:q34p):Dt q34r:=(Dt.ret (v.1,v.2.1,v.2.2.1,v.2.2.2.1,v.2.2.2.2))
abbrev q410 {V Y:Type}:=@rg q34m V Y tysT (fun C=>(orc (q34o C))) 20
theorem q34u C v:q410 (regO (qcz f33) 0) false [(3,(.box [.val Riii])),(4,.any),(5,.any)] q34q q34t q34s C v:=rgI (by kernel_rfl)
abbrev q34v:Type:=Int×List Diii×Int×Int×Int×Int
def q34w (v:q34v):St:=⟨[(3,.ptr 0 0),(4,.ptr 1 0),(5,.ptr 2 0),(8,.int .i64 v.1)],[.cells [.fz Riii v.2.1],.cells [.int .i64 v.2.2.1,.int .i64 v.2.2.2.1],.cells [.int .i64 v.2.2.2.2.1,.int .i64 v.2.2.2.2.2]]⟩
def q34x (C:q34m) (v:q34r):Dt q34v:=(Dt.bnd (C.1 ((v.1,()),(v.2.1,v.2.2.1,()),(v.2.2.2.1,v.2.2.2.2,()),())) fun r1=>(Dt.ret (r1,v.1,v.2.1,v.2.2.1,v.2.2.2.1,v.2.2.2.2)))
theorem q34y C v:q410 (regO (qcz f33) 1) false [(3,(.box [.val Riii])),(4,.any),(5,.any),(8,.any)] q34s q34x q34w C v:=rgI (by kernel_rfl)
abbrev q34z:Type:=Int×Bool×List Diii×Int×Int×Int×Int
def q350 (v:q34z):St:=⟨[(3,.ptr 0 0),(4,.ptr 1 0),(5,.ptr 2 0),(8,.int .i64 v.1),(14,.bool v.2.1)],[.cells [.fz Riii v.2.2.1],.cells [.int .i64 v.2.2.2.1,.int .i64 v.2.2.2.2.1],.cells [.int .i64 v.2.2.2.2.2.1,.int .i64 v.2.2.2.2.2.2]]⟩
def q351 (C:q34m) (v:q34v):Dt q34z:=(Dt.ret (v.1,(v.1 != (0:Int)),v.2.1,v.2.2.1,v.2.2.2.1,v.2.2.2.2.1,v.2.2.2.2.2))
theorem q352 C v:q410 (regO (qcz f33) 2) false [(3,(.box [.val Riii])),(4,.any),(5,.any),(8,.any),(14,.any)] q34w q351 q350 C v:=rgI (by kernel_rfl)
abbrev q353:Type:=Int×List Dii
def q354 (v:q353):St:=⟨[(6,.rs 0),(7,.int .i64 v.1)],[.rows Rii v.2]⟩
def q355 (C:q34m) (v:q34z):Dt q353:=(Dt.ret (v.1,([]:List Dii)))
theorem q356 C v:q410 (regO (qcz f33) 3) false [(6,(.own Rii)),(7,.any)] q350 q355 q354 C v:=rgI (by kernel_rfl)
def q357 (C:q34m) (v:q34z):Dt q353:=(Dt.bnd (C.2.1 ((v.2.2.1,()),(v.2.2.2.1,v.2.2.2.2.1,()),(v.2.2.2.2.2.1,v.2.2.2.2.2.2,()),())) fun r1=>(Dt.ret ((0:Int),r1)))
theorem q358 C v:q410 (regO (qcz f33) 4) false [(6,(.own Rii)),(7,.any)] q350 q357 q354 C v:=rgI (by kernel_rfl)
def q359 (d:Nat) (x:q34i):Option q34j :=
 (q34t (q34n d) (x.1.1,x.2.1.1,x.2.1.2.1,x.2.2.1.1,x.2.2.1.2.1)).eval fun y0 =>
 (q34x (q34n d) y0).eval fun y1 =>
 (q351 (q34n d) y1).eval fun y2 =>
 bif y2.2.1 then ((q355 (q34n d) y2).eval fun y3 =>
 some (y3.2,y3.1)) else ((q357 (q34n d) y2).eval fun y4 =>
 some (y4.2,y4.1))
theorem q35a (d:Nat):COK prog (q34l (q359 d)):=by
 have hm:prog.follows .mixedOrders=true:=qju
 have hT:=tys
 have hC0:OrcOK prog (orc (q34o (q34n d))):=qct (by
  intro S hS
  simp only [q34o,List.mem_cons,List.not_mem_nil,or_false] at hS
  rcases hS with rfl | rfl
  · exact q2xo d
  · exact q34g d)
 have hC:OrcOK prog (orc (q34o (q34n d))):=hC0
 refine q8f (c:=qcz f33) (fn:=f33) hT (by kernel_rfl) (by kernel_rfl) (by decide) fun x r h w0 φ0 Q hend=>?_
 replace h:q359 d x=some r:=h
 unfold q359 at h
 show Run prog w0 φ0 20 (qcz f33) ⟨[(0,.agg [.fz Riii x.1.1]),(1,.agg [.int .i64 x.2.1.1,.int .i64 x.2.1.2.1]),(2,.agg [.int .i64 x.2.2.1.1,.int .i64 x.2.2.1.2.1])],[]⟩ Q
 refine q3yy hm hT hC (q34u (q34n d) (x.1.1,x.2.1.1,x.2.1.2.1,x.2.2.1.1,x.2.2.1.2.1)) h fun y0 h=>?_
 refine q7z ?_
 refine q3yy hm hT hC (q34y (q34n d) y0) h fun y1 h=>?_
 refine q3yy hm hT hC (q352 (q34n d) y1) h fun y2 h=>?_
 refine q83 (v:=y2.2.1) (by kernel_rfl) h ?_ ?_
 ·
  intro h
  refine q3yy hm hT hC (q356 (q34n d) y2) h fun y3 h=>?_
  refine q7y (q7n ?_)
  cases h
  exact (hend _ (by kernel_rfl)).2
 ·
  intro h
  refine q7v (q7l ?_)
  refine q3yy hm hT hC (q358 (q34n d) y2) h fun y4 h=>?_
  refine q7y ?_
  cases h
  exact (hend _ (by kernel_rfl)).2
abbrev q35b:List Pk:=[.row qjc true,.row Rii true,.row Rii true]
abbrev q35c:Type:=qjd×Dii×Dii×Unit
abbrev q35d:Type:=Int×Int×Int×Int×Int
def q35e (r:q35d):LV×List Ob:=(.tup [.agg [.int .i64 r.1,.int .i64 r.2.1],.agg [.int .i64 r.2.2.1,.int .i64 r.2.2.2.1],.int .i64 r.2.2.2.2],[])
def q35f (F:q35c→Option q35d):Go.Tx.Spec:=⟨35,q35b,q35d,F,q35e⟩
abbrev q35g:Type:=(q30g→Option q30h)×(q2wq→Option q2wr)×(q31e→Option q31f)×(q32w→Option q32x)×Unit
def q35h (d:Nat):q35g:=(q31b d,q2xn d,q31z d,q34f d,())
def q35i (C:q35g):List Go.Tx.Spec:=[q30j C.1,q2wt C.2.1,q31h C.2.2.1,q32z C.2.2.2.1]
abbrev q35j:Type:=List Diii×Int×Int×Int×Int
def q35k (v:q35j):St:=⟨[(0,.agg [.fz Riii v.1]),(1,.agg [.int .i64 v.2.1,.int .i64 v.2.2.1]),(2,.agg [.int .i64 v.2.2.2.1,.int .i64 v.2.2.2.2])],[]⟩
abbrev q35l:Type:=List Diii×Int×Int×Int×Int×Int×Int×Int×Int
def q35m (v:q35l):St:=⟨[(3,.ptr 0 0),(4,.ptr 1 0),(5,.ptr 2 0),(6,.ptr 3 0),(7,.ptr 4 0)],[.cells [.fz Riii v.1],.cells [.int .i64 v.2.1,.int .i64 v.2.2.1],.cells [.int .i64 v.2.2.2.1,.int .i64 v.2.2.2.2.1],.cells [.int .i64 v.2.2.2.2.2.1,.int .i64 v.2.2.2.2.2.2.1],.cells [.int .i64 v.2.2.2.2.2.2.2.1,.int .i64 v.2.2.2.2.2.2.2.2]]⟩
def q35n (C:q35g) (v:q35j):Dt q35l:=(Dt.ret (v.1,v.2.1,v.2.2.1,v.2.2.2.1,v.2.2.2.2,(0:Int),(0:Int),(0:Int),(0:Int)))
abbrev q411 {V Y:Type}:=@rg q35g V Y tysT (fun C=>(orc (q35i C))) 63
theorem q35o C v:q411 (regO (qcz f35) 0) false [(3,(.box [.val Riii])),(4,.any),(5,.any),(6,.any),(7,.any)] q35k q35n q35m C v:=rgI (by kernel_rfl)
abbrev q35p:Type:=Int×List Diii×Int×Int×Int×Int×Int×Int×Int×Int
def q35q (v:q35p):St:=⟨[(3,.ptr 0 0),(4,.ptr 1 0),(5,.ptr 2 0),(6,.ptr 3 0),(7,.ptr 4 0),(9,.int .i64 v.1)],[.cells [.fz Riii v.2.1],.cells [.int .i64 v.2.2.1,.int .i64 v.2.2.2.1],.cells [.int .i64 v.2.2.2.2.1,.int .i64 v.2.2.2.2.2.1],.cells [.int .i64 v.2.2.2.2.2.2.1,.int .i64 v.2.2.2.2.2.2.2.1],.cells [.int .i64 v.2.2.2.2.2.2.2.2.1,.int .i64 v.2.2.2.2.2.2.2.2.2]]⟩
def q35r (C:q35g) (v:q35l):Dt q35p:=(Dt.bnd (C.2.1 ((v.1,()),(v.2.1,v.2.2.1,()),(v.2.2.2.1,v.2.2.2.2.1,()),())) fun r1=>(Dt.ret (r1,v.1,v.2.1,v.2.2.1,v.2.2.2.1,v.2.2.2.2.1,v.2.2.2.2.2.1,v.2.2.2.2.2.2.1,v.2.2.2.2.2.2.2.1,v.2.2.2.2.2.2.2.2)))
theorem q35s C v:q411 (regO (qcz f35) 1) false [(3,(.box [.val Riii])),(4,.any),(5,.any),(6,.any),(7,.any),(9,.any)] q35m q35r q35q C v:=rgI (by kernel_rfl)
abbrev q35t:Type:=Int×Bool×List Diii×Int×Int×Int×Int×Int×Int×Int×Int
def q35u (v:q35t):St:=⟨[(3,.ptr 0 0),(4,.ptr 1 0),(5,.ptr 2 0),(6,.ptr 3 0),(7,.ptr 4 0),(9,.int .i64 v.1),(20,.bool v.2.1)],[.cells [.fz Riii v.2.2.1],.cells [.int .i64 v.2.2.2.1,.int .i64 v.2.2.2.2.1],.cells [.int .i64 v.2.2.2.2.2.1,.int .i64 v.2.2.2.2.2.2.1],.cells [.int .i64 v.2.2.2.2.2.2.2.1,.int .i64 v.2.2.2.2.2.2.2.2.1],.cells [.int .i64 v.2.2.2.2.2.2.2.2.2.1,.int .i64 v.2.2.2.2.2.2.2.2.2.2]]⟩
def q35v (C:q35g) (v:q35p):Dt q35t:=(Dt.ret (v.1,(v.1 != (0:Int)),v.2.1,v.2.2.1,v.2.2.2.1,v.2.2.2.2.1,v.2.2.2.2.2.1,v.2.2.2.2.2.2.1,v.2.2.2.2.2.2.2.1,v.2.2.2.2.2.2.2.2.1,v.2.2.2.2.2.2.2.2.2))
theorem q35w C v:q411 (regO (qcz f35) 2) false [(3,(.box [.val Riii])),(4,.any),(5,.any),(6,.any),(7,.any),(9,.any),(20,.any)] q35q q35v q35u C v:=rgI (by kernel_rfl)
abbrev q35x:Type:=Int×Int×Int×Int×Int
def q35y (v:q35x):St:=⟨[(6,.ptr 0 0),(7,.ptr 1 0),(8,.int .i64 v.1)],[.cells [.int .i64 v.2.1,.int .i64 v.2.2.1],.cells [.int .i64 v.2.2.2.1,.int .i64 v.2.2.2.2]]⟩
def q35z (C:q35g) (v:q35t):Dt q35x:=(Dt.ret (v.1,(0:Int),(0:Int),(0:Int),(0:Int)))
theorem q360 C v:q411 (regO (qcz f35) 3) false (an [6,7,8]) q35u q35z q35y C v:=rgI (by kernel_rfl)
abbrev q361:Type:=List Diii×Int×Int×Int×Int×Int×Int×List Dii
def q362 (v:q361):St:=⟨[(3,.ptr 0 0),(5,.ptr 1 0),(6,.ptr 2 0),(7,.ptr 3 0),(10,.rs 4)],[.cells [.fz Riii v.1],.cells [.int .i64 v.2.1,.int .i64 v.2.2.1],.cells [.int .i64 v.2.2.2.1,.int .i64 v.2.2.2.2.1],.cells [.int .i64 v.2.2.2.2.2.1,.int .i64 v.2.2.2.2.2.2.1],.rows Rii v.2.2.2.2.2.2.2]⟩
def q363 (C:q35g) (v:q35t):Dt q361:=(Dt.bnd (C.2.2.2.1 ((v.2.2.1,()),(v.2.2.2.1,v.2.2.2.2.1,()),(v.2.2.2.2.2.1,v.2.2.2.2.2.2.1,()),())) fun r1=>(Dt.ite (apB (List.length ([(v.2.2.2.1,v.2.2.2.2.1,())]:List Dii)) (List.length r1)) (Dt.ret (v.2.2.1,v.2.2.2.2.2.1,v.2.2.2.2.2.2.1,v.2.2.2.2.2.2.2.1,v.2.2.2.2.2.2.2.2.1,v.2.2.2.2.2.2.2.2.2.1,v.2.2.2.2.2.2.2.2.2.2,(([(v.2.2.2.1,v.2.2.2.2.1,())]:List Dii) ++ r1))) Dt.fail))
theorem q364 C v:q411 (regO (qcz f35) 4) true [(3,(.box [.val Riii])),(5,.any),(6,.any),(7,.any),(10,(.own Rii))] q35u q363 q362 C v:=rgI (by kernel_rfl)
abbrev q365:Type:=List Diii×Int×Int×Int×Int×List Dii×Int×Int
def q366 (v:q365):St:=⟨[(3,.ptr 0 0),(6,.ptr 1 0),(7,.ptr 2 0),(10,.rs 3),(11,.ptr 4 0)],[.cells [.fz Riii v.1],.cells [.int .i64 v.2.1,.int .i64 v.2.2.1],.cells [.int .i64 v.2.2.2.1,.int .i64 v.2.2.2.2.1],.rows Rii v.2.2.2.2.2.1,.cells [.int .i64 v.2.2.2.2.2.2.1,.int .i64 v.2.2.2.2.2.2.2]]⟩
def q367 (C:q35g) (v:q361):Dt q365:=(Dt.ret (v.1,v.2.2.2.1,v.2.2.2.2.1,v.2.2.2.2.2.1,v.2.2.2.2.2.2.1,v.2.2.2.2.2.2.2,v.2.1,v.2.2.1))
theorem q368 C v:q411 (regO (qcz f35) 5) false [(3,(.box [.val Riii])),(6,.any),(7,.any),(10,(.own Rii)),(11,.any)] q362 q367 q366 C v:=rgI (by kernel_rfl)
abbrev q369:Type:=Int×List Diii×Int×Int×Int×Int×List Dii×Int×Int
def q36a (v:q369):St:=⟨[(3,.ptr 0 0),(6,.ptr 1 0),(7,.ptr 2 0),(10,.rs 3),(11,.ptr 4 0),(12,.int .i64 v.1)],[.cells [.fz Riii v.2.1],.cells [.int .i64 v.2.2.1,.int .i64 v.2.2.2.1],.cells [.int .i64 v.2.2.2.2.1,.int .i64 v.2.2.2.2.2.1],.rows Rii v.2.2.2.2.2.2.1,.cells [.int .i64 v.2.2.2.2.2.2.2.1,.int .i64 v.2.2.2.2.2.2.2.2]]⟩
def q36b (C:q35g) (v:q365):Dt q369:=(Dt.ret ((IntKind.wrap .i64 ((List.length v.2.2.2.2.2.1:Int) - (1:Int))),v.1,v.2.1,v.2.2.1,v.2.2.2.1,v.2.2.2.2.1,v.2.2.2.2.2.1,v.2.2.2.2.2.2.1,v.2.2.2.2.2.2.2))
theorem q36c C v:q411 (regO (qcz f35) 6) false [(3,(.box [.val Riii])),(6,.any),(7,.any),(10,(.own Rii)),(11,.any),(12,.any)] q366 q36b q36a C v:=rgI (by kernel_rfl)
abbrev q36d:Type:=Int×Bool×List Diii×Int×Int×Int×Int×List Dii×Int×Int
def q36e (v:q36d):St:=⟨[(3,.ptr 0 0),(6,.ptr 1 0),(7,.ptr 2 0),(10,.rs 3),(11,.ptr 4 0),(12,.int .i64 v.1),(36,.bool v.2.1)],[.cells [.fz Riii v.2.2.1],.cells [.int .i64 v.2.2.2.1,.int .i64 v.2.2.2.2.1],.cells [.int .i64 v.2.2.2.2.2.1,.int .i64 v.2.2.2.2.2.2.1],.rows Rii v.2.2.2.2.2.2.2.1,.cells [.int .i64 v.2.2.2.2.2.2.2.2.1,.int .i64 v.2.2.2.2.2.2.2.2.2]]⟩
def q36f (C:q35g) (v:q369):Dt q36d:=(Dt.ret (v.1,(decide (v.1 ≥ (0:Int))),v.2.1,v.2.2.1,v.2.2.2.1,v.2.2.2.2.1,v.2.2.2.2.2.1,v.2.2.2.2.2.2.1,v.2.2.2.2.2.2.2.1,v.2.2.2.2.2.2.2.2))
theorem q36g C v:q411 (regO (qcz f35) 7) false [(3,(.box [.val Riii])),(6,.any),(7,.any),(10,(.own Rii)),(11,.any),(12,.any),(36,.any)] q36a q36f q36e C v:=rgI (by kernel_rfl)
abbrev q36h:Type:=Int×Bool×List Diii×Int×Int×Int×Int×List Dii×Int×Int
def q36i (v:q36h):St:=⟨[(3,.ptr 0 0),(6,.ptr 1 0),(7,.ptr 2 0),(10,.rs 3),(11,.ptr 4 0),(12,.int .i64 v.1),(45,.bool v.2.1)],[.cells [.fz Riii v.2.2.1],.cells [.int .i64 v.2.2.2.1,.int .i64 v.2.2.2.2.1],.cells [.int .i64 v.2.2.2.2.2.1,.int .i64 v.2.2.2.2.2.2.1],.rows Rii v.2.2.2.2.2.2.2.1,.cells [.int .i64 v.2.2.2.2.2.2.2.2.1,.int .i64 v.2.2.2.2.2.2.2.2.2]]⟩
def q36j (C:q35g) (v:q36d):Dt q36h:=(Dt.ite (inB v.1 (List.length v.2.2.2.2.2.2.2.1)) (Dt.bnd (C.2.2.1 ((v.2.2.1,()),((elt zii v.2.2.2.2.2.2.2.1 (v.1).toNat).1,(elt zii v.2.2.2.2.2.2.2.1 (v.1).toNat).2.1,()),())) fun r1=>(Dt.ret (v.1,(decide (r1 ≥ (0:Int))),v.2.2.1,v.2.2.2.1,v.2.2.2.2.1,v.2.2.2.2.2.1,v.2.2.2.2.2.2.1,v.2.2.2.2.2.2.2.1,v.2.2.2.2.2.2.2.2.1,v.2.2.2.2.2.2.2.2.2))) Dt.fail)
theorem q36k C v:q411 (regO (qcz f35) 9) true [(3,(.box [.val Riii])),(6,.any),(7,.any),(10,(.own Rii)),(11,.any),(12,.any),(45,.any)] q36e q36j q36i C v:=rgI (by kernel_rfl)
def q36l (C:q35g) (v:q36h):Dt q369:=(Dt.ite (inB v.1 (List.length v.2.2.2.2.2.2.2.1)) (Dt.ret (v.1,v.2.2.1,v.2.2.2.1,v.2.2.2.2.1,v.2.2.2.2.2.1,v.2.2.2.2.2.2.1,v.2.2.2.2.2.2.2.1,(elt zii v.2.2.2.2.2.2.2.1 (v.1).toNat).1,(elt zii v.2.2.2.2.2.2.2.1 (v.1).toNat).2.1)) Dt.fail)
theorem q36m C v:q411 (regO (qcz f35) 10) false [(3,(.box [.val Riii])),(6,.any),(7,.any),(10,(.own Rii)),(11,.any),(12,.any)] q36i q36l q36a C v:=rgI (by kernel_rfl)
def q36n (C:q35g) (v:q369):Dt q369:=(Dt.ret ((IntKind.wrap .i64 (v.1 - (1:Int))),v.2.1,v.2.2.1,v.2.2.2.1,v.2.2.2.2.1,v.2.2.2.2.2.1,v.2.2.2.2.2.2.1,v.2.2.2.2.2.2.2.1,v.2.2.2.2.2.2.2.2))
theorem q36o C v:q411 (regO (qcz f35) 8) false [(3,(.box [.val Riii])),(6,.any),(7,.any),(10,(.own Rii)),(11,.any),(12,.any)] q36a q36n q36a C v:=rgI (by kernel_rfl)
def q36p  (d:Nat) (self1:(Int×List Diii×Int×Int×Int×Int×List Dii×Int×Int)→Option q35d) (z:Int×List Diii×Int×Int×Int×Int×List Dii×Int×Int):Option (q35d) :=
 (q36n (q35h d) z).eval fun y8 =>
 self1 y8
abbrev q36q:Type:=Int×Int×Int×Int×Int×Int×Int×Int×Int
def q36r (v:q36q):St:=⟨[(6,.ptr 0 0),(7,.ptr 1 0),(11,.ptr 2 0),(13,.ptr 3 0),(14,.int .i64 v.1)],[.cells [.int .i64 v.2.1,.int .i64 v.2.2.1],.cells [.int .i64 v.2.2.2.1,.int .i64 v.2.2.2.2.1],.cells [.int .i64 v.2.2.2.2.2.1,.int .i64 v.2.2.2.2.2.2.1],.cells [.int .i64 v.2.2.2.2.2.2.2.1,.int .i64 v.2.2.2.2.2.2.2.2]]⟩
def q36s (C:q35g) (v:q36d):Dt q36q:=(Dt.bnd (C.1 ((v.2.2.1,()),(v.2.2.2.2.2.2.2.2.1,v.2.2.2.2.2.2.2.2.2,()),())) fun r1=>(Dt.ret (r1.2.2,v.2.2.2.1,v.2.2.2.2.1,v.2.2.2.2.2.1,v.2.2.2.2.2.2.1,v.2.2.2.2.2.2.2.2.1,v.2.2.2.2.2.2.2.2.2,r1.1,r1.2.1)))
theorem q36t C v:q411 (regO (qcz f35) 11) false (an [6,7,11,13,14]) q36e q36s q36r C v:=rgI (by kernel_rfl)
abbrev q36u:Type:=Int×Bool×Int×Int×Int×Int×Int×Int×Int×Int
def q36v (v:q36u):St:=⟨[(6,.ptr 0 0),(7,.ptr 1 0),(11,.ptr 2 0),(13,.ptr 3 0),(14,.int .i64 v.1),(57,.bool v.2.1)],[.cells [.int .i64 v.2.2.1,.int .i64 v.2.2.2.1],.cells [.int .i64 v.2.2.2.2.1,.int .i64 v.2.2.2.2.2.1],.cells [.int .i64 v.2.2.2.2.2.2.1,.int .i64 v.2.2.2.2.2.2.2.1],.cells [.int .i64 v.2.2.2.2.2.2.2.2.1,.int .i64 v.2.2.2.2.2.2.2.2.2]]⟩
def q36w (C:q35g) (v:q36q):Dt q36u:=(Dt.ret (v.1,(v.1 != (0:Int)),v.2.1,v.2.2.1,v.2.2.2.1,v.2.2.2.2.1,v.2.2.2.2.2.1,v.2.2.2.2.2.2.1,v.2.2.2.2.2.2.2.1,v.2.2.2.2.2.2.2.2))
theorem q36x C v:q411 (regO (qcz f35) 12) false (an [6,7,11,13,14,57]) q36r q36w q36v C v:=rgI (by kernel_rfl)
def q36y (C:q35g) (v:q36u):Dt q35x:=(Dt.ret (v.1,(0:Int),(0:Int),(0:Int),(0:Int)))
theorem q36z C v:q411 (regO (qcz f35) 13) false (an [6,7,8]) q36v q36y q35y C v:=rgI (by kernel_rfl)
def q370 (C:q35g) (v:q36u):Dt q35x:=(Dt.ret ((0:Int),v.2.2.2.2.2.2.1,v.2.2.2.2.2.2.2.1,v.2.2.2.2.2.2.2.2.1,v.2.2.2.2.2.2.2.2.2))
theorem q371 C v:q411 (regO (qcz f35) 14) true (an [6,7,8]) q36v q370 q35y C v:=rgI (by kernel_rfl)
def q372 (d:Nat) (self1:(Int×List Diii×Int×Int×Int×Int×List Dii×Int×Int)→Option q35d) (x1:Int×List Diii×Int×Int×Int×Int×List Dii×Int×Int):Option q35d :=
 (q36f (q35h d) x1).eval fun y7 =>
 bif y7.2.1 then ((q36j (q35h d) y7).eval fun y9 =>
 bif y9.2.1 then ((q36l (q35h d) y9).eval fun y10 =>
 q36p d self1 y10) else (q36p d self1 (y9.1,y9.2.2.1,y9.2.2.2.1,y9.2.2.2.2.1,y9.2.2.2.2.2.1,y9.2.2.2.2.2.2.1,y9.2.2.2.2.2.2.2.1,y9.2.2.2.2.2.2.2.2.1,y9.2.2.2.2.2.2.2.2.2))) else ((q36s (q35h d) y7).eval fun y11 =>
 (q36w (q35h d) y11).eval fun y12 =>
 bif y12.2.1 then ((q36y (q35h d) y12).eval fun y13 =>
 some (y13.2.1,y13.2.2.1,y13.2.2.2.1,y13.2.2.2.2,y13.1)) else ((q370 (q35h d) y12).eval fun y14 =>
 some (y14.2.1,y14.2.2.1,y14.2.2.2.1,y14.2.2.2.2,y14.1)))
def q373 (d:Nat) (x:q35c):Option q35d :=
 (q35n (q35h d) (x.1.1,x.2.1.1,x.2.1.2.1,x.2.2.1.1,x.2.2.1.2.1)).eval fun y0 =>
 (q35r (q35h d) y0).eval fun y1 =>
 (q35v (q35h d) y1).eval fun y2 =>
 bif y2.2.1 then ((q35z (q35h d) y2).eval fun y3 =>
 some (y3.2.1,y3.2.2.1,y3.2.2.2.1,y3.2.2.2.2,y3.1)) else ((q363 (q35h d) y2).eval fun y4 =>
 (q367 (q35h d) y4).eval fun y5 =>
 (q36b (q35h d) y5).eval fun y6 =>
 iter (q372 d ) d y6)
theorem q374 (d:Nat):COK prog (q35f (q373 d)):=by
 have hm:prog.follows .mixedOrders=true:=qju
 have hT:=tys
 have hC0:OrcOK prog (orc (q35i (q35h d))):=qct (by
  intro S hS
  simp only [q35i,List.mem_cons,List.not_mem_nil,or_false] at hS
  rcases hS with rfl | rfl | rfl | rfl
  · exact q31c d
  · exact q2xo d
  · exact q320 d
  · exact q34g d)
 have hC:OrcOK prog (orc (q35i (q35h d))):=hC0
 refine q8f (c:=qcz f35) (fn:=f35) hT (by kernel_rfl) (by kernel_rfl) (by decide) fun x r h w0 φ0 Q hend=>?_
 replace h:q373 d x=some r:=h
 unfold q373 at h
 show Run prog w0 φ0 63 (qcz f35) ⟨[(0,.agg [.fz Riii x.1.1]),(1,.agg [.int .i64 x.2.1.1,.int .i64 x.2.1.2.1]),(2,.agg [.int .i64 x.2.2.1.1,.int .i64 x.2.2.1.2.1])],[]⟩ Q
 refine q3yy hm hT hC (q35o (q35h d) (x.1.1,x.2.1.1,x.2.1.2.1,x.2.2.1.1,x.2.2.1.2.1)) h fun y0 h=>?_
 refine q7z ?_
 refine q3yy hm hT hC (q35s (q35h d) y0) h fun y1 h=>?_
 refine q3yy hm hT hC (q35w (q35h d) y1) h fun y2 h=>?_
 refine q83 (v:=y2.2.1) (by kernel_rfl) h ?_ ?_
 ·
  intro h
  refine q3yy hm hT hC (q360 (q35h d) y2) h fun y3 h=>?_
  refine q7y (q7n ?_)
  cases h
  exact (hend _ (by kernel_rfl)).2
 ·
  intro h
  refine q7v (q7l ?_)
  refine q3yy hm hT hC (q364 (q35h d) y2) h fun y4 h=>?_
  refine q3yy hm hT hC (q368 (q35h d) y4) h fun y5 h=>?_
  refine q7z ?_
  refine q3yy hm hT hC (q36c (q35h d) y5) h fun y6 h=>?_
  refine q80 ?_
  refine q85 (G:=iter (q372 d )) (S:=(fun x1=>⟨[(3,.ptr 0 0),(6,.ptr 1 0),(7,.ptr 2 0),(10,.rs 3),(11,.ptr 4 0),(12,.int .i64 x1.1)],[.cells [.fz Riii x1.2.1],.cells [.int .i64 x1.2.2.1,.int .i64 x1.2.2.2.1],.cells [.int .i64 x1.2.2.2.2.1,.int .i64 x1.2.2.2.2.2.1],.rows Rii x1.2.2.2.2.2.2.1,.cells [.int .i64 x1.2.2.2.2.2.2.2.1,.int .i64 x1.2.2.2.2.2.2.2.2]]⟩:Int×List Diii×Int×Int×Int×Int×List Dii×Int×Int→St)) (fun _=>rfl) ?_ d _ h
  intro n1 x1 h K1 hn1
  replace h:q372 d  (iter (q372 d ) n1) x1=some r:=h
  generalize iter (q372 d ) n1=self1 at h hn1
  unfold q372 at h
  refine q7z ?_
  refine q3yy hm hT hC (q36g (q35h d) x1) h fun y7 h=>?_
  refine q83 (v:=y7.2.1) (by kernel_rfl) h ?_ ?_
  ·
   intro h
   refine q7v (q7l ?_)
   refine q82 (r:=r) (F:=q36p d self1) (S:=(fun z=>⟨[(3,.ptr 0 0),(6,.ptr 1 0),(7,.ptr 2 0),(10,.rs 3),(11,.ptr 4 0),(12,.int .i64 z.1)],[.cells [.fz Riii z.2.1],.cells [.int .i64 z.2.2.1,.int .i64 z.2.2.2.1],.cells [.int .i64 z.2.2.2.2.1,.int .i64 z.2.2.2.2.2.1],.rows Rii z.2.2.2.2.2.2.1,.cells [.int .i64 z.2.2.2.2.2.2.2.1,.int .i64 z.2.2.2.2.2.2.2.2]]⟩:Int×List Diii×Int×Int×Int×Int×List Dii×Int×Int→St)) ?_ ?_
   ·
    intro z h
    unfold q36p at h
    refine q84 hm hT hC (q36o (q35h d) z) h ?_
    intro y8 h
    exact hn1 _ h
   intro hj2
   refine q80 ?_
   refine q3yy hm hT hC (q36k (q35h d) y7) h fun y9 h=>?_
   refine q83 (v:=y9.2.1) (by kernel_rfl) h ?_ ?_
   ·
    intro h
    refine q84 hm hT hC (q36m (q35h d) y9) h ?_
    intro y10 h
    refine q7o ?_
    exact hj2 _ h
   ·
    intro h
    refine q7v (q7o ?_)
    refine qcy (s:=⟨[(3,.ptr 0 0),(6,.ptr 1 0),(7,.ptr 2 0),(10,.rs 3),(11,.ptr 4 0),(12,.int .i64 y9.1)],[.cells [.fz Riii y9.2.2.1],.cells [.int .i64 y9.2.2.2.1,.int .i64 y9.2.2.2.2.1],.cells [.int .i64 y9.2.2.2.2.2.1,.int .i64 y9.2.2.2.2.2.2.1],.rows Rii y9.2.2.2.2.2.2.2.1,.cells [.int .i64 y9.2.2.2.2.2.2.2.2.1,.int .i64 y9.2.2.2.2.2.2.2.2.2]]⟩) [45] (by kernel_rfl) ?_
    exact hj2 _ h
  ·
   intro h
   refine q7x (q7m (q7m (q7q (q7l ?_))))
   refine q3yy hm hT hC (q36t (q35h d) y7) h fun y11 h=>?_
   refine q7z ?_
   refine q3yy hm hT hC (q36x (q35h d) y11) h fun y12 h=>?_
   refine q83 (v:=y12.2.1) (by kernel_rfl) h ?_ ?_
   ·
    intro h
    refine q3yy hm hT hC (q36z (q35h d) y12) h fun y13 h=>?_
    refine q7y (q7n ?_)
    cases h
    exact (hend _ (by kernel_rfl)).2
   ·
    intro h
    refine q7v (q7l ?_)
    refine q3yy hm hT hC (q371 (q35h d) y12) h fun y14 h=>?_
    refine q7y ?_
    cases h
    exact (hend _ (by kernel_rfl)).2
abbrev q375:List Pk:=[.row qjl false,.row qjl false]
abbrev q376:Type:=qjm×qjm×Unit
abbrev q377:Type:=Bool
def q378 (r:q377):LV×List Ob:=(.bool r,[])
def q379 (F:q376→Option q377):Go.Tx.Spec:=⟨36,q375,q377,F,q378⟩
abbrev q37a:Type:=Unit
def q37b (_d:Nat):q37a:=()
def q37c (C:q37a):List Go.Tx.Spec:=[]
abbrev q37d:Type:=List Dii×List Dii
def q37e (v:q37d):St:=⟨[(0,.fz Rii v.1),(1,.fz Rii v.2)],[]⟩
def q37f (C:q37a) (v:q37d):Dt q37d:=(Dt.ret (v.1,v.2))
abbrev q412 {V Y:Type}:=@rg q37a V Y tysT (fun C=>(orc (q37c C))) 26
theorem q37g C v:q412 (regO (qcz f36) 0) false [(0,(.val Rii)),(1,(.val Rii))] q37e q37f q37e C v:=rgI (by kernel_rfl)
abbrev q37h:Type:=List Dii×List Dii×Bool
def q37i (v:q37h):St:=⟨[(0,.fz Rii v.1),(1,.fz Rii v.2.1),(10,.bool v.2.2)],[]⟩
def q37j (C:q37a) (v:q37d):Dt q37h:=(Dt.ret (v.1,v.2,((List.length v.1:Int) != (List.length v.2:Int))))
theorem q37k C v:q412 (regO (qcz f36) 1) false [(0,(.val Rii)),(1,(.val Rii)),(10,.any)] q37e q37j q37i C v:=rgI (by kernel_rfl)
abbrev q37l:Type:=Bool
def q37m (v:q37l):St:=⟨[(4,.bool v)],[]⟩
def q37n (C:q37a) (v:q37h):Dt q37l:=(Dt.ret false)
theorem q37o C v:q412 (regO (qcz f36) 2) false [(4,.any)] q37i q37n q37m C v:=rgI (by kernel_rfl)
abbrev q37p:Type:=List Dii×List Dii×Int
def q37q (v:q37p):St:=⟨[(0,.fz Rii v.1),(1,.fz Rii v.2.1),(5,.int .i64 v.2.2)],[]⟩
def q37r (C:q37a) (v:q37h):Dt q37p:=(Dt.ret (v.1,v.2.1,(0:Int)))
theorem q37s C v:q412 (regO (qcz f36) 3) false [(0,(.val Rii)),(1,(.val Rii)),(5,.any)] q37i q37r q37q C v:=rgI (by kernel_rfl)
abbrev q37t:Type:=List Dii×List Dii×Int×Bool
def q37u (v:q37t):St:=⟨[(0,.fz Rii v.1),(1,.fz Rii v.2.1),(5,.int .i64 v.2.2.1),(14,.bool v.2.2.2)],[]⟩
def q37v (C:q37a) (v:q37p):Dt q37t:=(Dt.ret (v.1,v.2.1,v.2.2,(decide (v.2.2 < (List.length v.1:Int)))))
theorem q37w C v:q412 (regO (qcz f36) 4) false [(0,(.val Rii)),(1,(.val Rii)),(5,.any),(14,.any)] q37q q37v q37u C v:=rgI (by kernel_rfl)
abbrev q37x:Type:=List Dii×List Dii×Int×Bool
def q37y (v:q37x):St:=⟨[(0,.fz Rii v.1),(1,.fz Rii v.2.1),(5,.int .i64 v.2.2.1),(25,.bool v.2.2.2)],[]⟩
def q37z (C:q37a) (v:q37t):Dt q37x:=(Dt.ite (inB v.2.2.1 (List.length v.1)) (Dt.ite (inB v.2.2.1 (List.length v.2.1)) (Dt.ret (v.1,v.2.1,v.2.2.1,(!(((elt zii v.1 (v.2.2.1).toNat).1 == (elt zii v.2.1 (v.2.2.1).toNat).1) && (((elt zii v.1 (v.2.2.1).toNat).2.1 == (elt zii v.2.1 (v.2.2.1).toNat).2.1) && true))))) Dt.fail) Dt.fail)
theorem q380 C v:q412 (regO (qcz f36) 6) true [(0,(.val Rii)),(1,(.val Rii)),(5,.any),(25,.any)] q37u q37z q37y C v:=rgI (by kernel_rfl)
def q381 (C:q37a) (v:q37x):Dt q37l:=(Dt.ret false)
theorem q382 C v:q412 (regO (qcz f36) 7) false [(4,.any)] q37y q381 q37m C v:=rgI (by kernel_rfl)
def q383 (C:q37a) (v:q37x):Dt q37p:=(Dt.ret (v.1,v.2.1,(IntKind.wrap .i64 (v.2.2.1 + (1:Int)))))
theorem q384 C v:q412 (regO (qcz f36) 5) false [(0,(.val Rii)),(1,(.val Rii)),(5,.any)] q37y q383 q37q C v:=rgI (by kernel_rfl)
def q385 (C:q37a) (v:q37t):Dt q37l:=(Dt.ret true)
theorem q386 C v:q412 (regO (qcz f36) 8) false [(4,.any)] q37u q385 q37m C v:=rgI (by kernel_rfl)
def q387 (d:Nat) (self1:(List Dii×List Dii×Int)→Option q377) (x1:List Dii×List Dii×Int):Option q377 :=
 (q37v (q37b d) x1).eval fun y4 =>
 bif y4.2.2.2 then ((q37z (q37b d) y4).eval fun y6 =>
 bif y6.2.2.2 then ((q381 (q37b d) y6).eval fun y7 =>
 some y7) else ((q383 (q37b d) y6).eval fun y5 =>
 self1 y5)) else ((q385 (q37b d) y4).eval fun y8 =>
 some y8)
def q388 (d:Nat) (x:q376):Option q377 :=
 (q37f (q37b d) (x.1.1,x.2.1.1)).eval fun y0 =>
 (q37j (q37b d) y0).eval fun y1 =>
 bif y1.2.2 then ((q37n (q37b d) y1).eval fun y2 =>
 some y2) else ((q37r (q37b d) y1).eval fun y3 =>
 iter (q387 d ) d y3)
theorem q389 (d:Nat):COK prog (q379 (q388 d)):=by
 have hm:prog.follows .mixedOrders=true:=qju
 have hT:=tys
 have hC0:OrcOK prog (orc (q37c (q37b d))):=qct (by
  intro S hS
  simp only [q37c,List.mem_cons,List.not_mem_nil,or_false] at hS
  all_goals first | cases hS | exact hS.elim)
 have hC:OrcOK prog (orc (q37c (q37b d))):=hC0
 refine q8f (c:=qcz f36) (fn:=f36) hT (by kernel_rfl) (by kernel_rfl) (by decide) fun x r h w0 φ0 Q hend=>?_
 replace h:q388 d x=some r:=h
 unfold q388 at h
 show Run prog w0 φ0 26 (qcz f36) ⟨[(0,.fz Rii x.1.1),(1,.fz Rii x.2.1.1)],[]⟩ Q
 refine q3yy hm hT hC (q37g (q37b d) (x.1.1,x.2.1.1)) h fun y0 h=>?_
 refine q7z ?_
 refine q3yy hm hT hC (q37k (q37b d) y0) h fun y1 h=>?_
 refine q83 (v:=y1.2.2) (by kernel_rfl) h ?_ ?_
 ·
  intro h
  refine q3yy hm hT hC (q37o (q37b d) y1) h fun y2 h=>?_
  refine q7y (q7n ?_)
  cases h
  exact (hend _ (by kernel_rfl)).2
 ·
  intro h
  refine q7v (q7l (q7z ?_))
  refine q3yy hm hT hC (q37s (q37b d) y1) h fun y3 h=>?_
  refine q80 ?_
  refine q85 (G:=iter (q387 d )) (S:=(fun x1=>⟨[(0,.fz Rii x1.1),(1,.fz Rii x1.2.1),(5,.int .i64 x1.2.2)],[]⟩:List Dii×List Dii×Int→St)) (fun _=>rfl) ?_ d _ h
  intro n1 x1 h K1 hn1
  replace h:q387 d  (iter (q387 d ) n1) x1=some r:=h
  generalize iter (q387 d ) n1=self1 at h hn1
  unfold q387 at h
  refine q7z ?_
  refine q3yy hm hT hC (q37w (q37b d) x1) h fun y4 h=>?_
  refine q83 (v:=y4.2.2.2) (by kernel_rfl) h ?_ ?_
  ·
   intro h
   refine q7v (q7l (q7z (q80 ?_)))
   refine q3yy hm hT hC (q380 (q37b d) y4) h fun y6 h=>?_
   refine q83 (v:=y6.2.2.2) (by kernel_rfl) h ?_ ?_
   ·
    intro h
    refine q3yy hm hT hC (q382 (q37b d) y6) h fun y7 h=>?_
    refine q7y (q7p (q7n (q7n (q7p (q7n ?_)))))
    cases h
    exact (hend _ (by kernel_rfl)).2
   ·
    intro h
    refine q7v (q7o (q7l ?_))
    refine q84 hm hT hC (q384 (q37b d) y6) h ?_
    intro y5 h
    exact hn1 _ h
  ·
   intro h
   refine q7x (q7m (q7m (q7q (q7l ?_))))
   refine q3yy hm hT hC (q386 (q37b d) y4) h fun y8 h=>?_
   refine q7y ?_
   cases h
   exact (hend _ (by kernel_rfl)).2
end Go.Proofs.YtpfhgnccpiildaaGreat

namespace Go.Proofs.YtpfhgnccpiildaaGreat
open Go Go.Tx Go.Pel Go.Proofs.Tryz
set_option maxRecDepth 100000
set_option maxHeartbeats 0
end Go.Proofs.YtpfhgnccpiildaaGreat
