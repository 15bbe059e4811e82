/- Walks of the references; the orders agree; examples. -/
import Derived.Test.YtpfhgnccpiildaaGreatGg
set_option linter.unusedSimpArgs false
set_option linter.unusedVariables false
namespace Go.Proofs.YtpfhgnccpiildaaGreat
open Go Go.Tx Go.Proofs.Tryz
set_option maxRecDepth 100000
set_option maxHeartbeats 0
abbrev q2nw:List Pk:=[.row Rbuu true]
abbrev q2nx:Type:=Dbuu×Unit
abbrev q2ny:Type:=Int
def q2nz (r:q2ny):LV×List Ob:=(.int .i64 r,[])
def q2o0 (F:q2nx→Option q2ny):Go.Tx.Spec:=⟨90,q2nw,q2ny,F,q2nz⟩
abbrev q2o1:Type:=Unit
def q2o2 (_d:Nat):q2o1:=()
def q2o3 (C:q2o1):List Go.Tx.Spec:=[]
abbrev q2o4:Type:=Bool×Int×Int
def q2o5 (v:q2o4):St:=⟨[(0,.agg [.bool v.1,u6 v.2.1,u6 v.2.2])],[]⟩
abbrev q2o6:Type:=Bool×Int×Int
def q2o7 (v:q2o6):St:=⟨[(1,.ptr 0 0)],[.cells [.bool v.1,u6 v.2.1,u6 v.2.2]]⟩
def q2o8 (C:q2o1) (v:q2o4):Dt q2o6:=(Dt.ret (v.1,v.2.1,v.2.2))
abbrev q40b {V Y:Type}:=@rg q2o1 V Y tysT (fun C=>(orc (q2o3 C))) 13
theorem q2o9 C v:q40b (regO (qct f90) 0) false [(1,.any)] q2o5 q2o8 q2o7 C v:=rgI (by kernel_rfl)
abbrev q2oa:Type:=Bool×Bool×Int×Int
def q2ob (v:q2oa):St:=⟨[(1,.ptr 0 0),(10,.bool v.1)],[.cells [.bool v.2.1,u6 v.2.2.1,u6 v.2.2.2]]⟩
def q2oc (C:q2o1) (v:q2o6):Dt q2oa:=(Dt.ite (v.2.1 == (0:Int)) (Dt.ret ((v.2.2 == (0:Int)),v.1,v.2.1,v.2.2)) (Dt.ret (false,v.1,v.2.1,v.2.2)))
theorem q2od C v:q40b (regO (qct f90) 1) false (an [1,10]) q2o7 q2oc q2ob C v:=rgI (by kernel_rfl)
abbrev q2oe:Type:=Int
def q2of (v:q2oe):St:=⟨[(2,i6 v)],[]⟩
def q2og (C:q2o1) (v:q2oa):Dt q2oe:=(Dt.ret (0:Int))
theorem q2oh C v:q40b (regO (qct f90) 2) false [(2,.any)] q2ob q2og q2of C v:=rgI (by kernel_rfl)
abbrev q2oi:Type:=Bool
def q2oj (v:q2oi):St:=⟨[(12,.bool v)],[]⟩
def q2ok (C:q2o1) (v:q2oa):Dt q2oi:=(Dt.ret v.2.1)
theorem q2ol C v:q40b (regO (qct f90) 3) false [(12,.any)] q2ob q2ok q2oj C v:=rgI (by kernel_rfl)
def q2om (C:q2o1) (v:q2oi):Dt q2oe:=(Dt.ret (-1:Int))
theorem q2on C v:q40b (regO (qct f90) 4) false [(2,.any)] q2oj q2om q2of C v:=rgI (by kernel_rfl)
def q2oo (C:q2o1) (v:q2oi):Dt q2oe:=(Dt.ret (1:Int))
theorem q2op C v:q40b (regO (qct f90) 5) false [(2,.any)] q2oj q2oo q2of C v:=rgI (by kernel_rfl)
def q2oq (d:Nat) (x:q2nx):Option q2ny :=
 (q2o8 (q2o2 d) (x.1.1,x.1.2.1,x.1.2.2.1)).eval fun y0 =>
 (q2oc (q2o2 d) y0).eval fun y1 =>
 bif y1.1 then ((q2og (q2o2 d) y1).eval fun y2 =>
 some y2) else ((q2ok (q2o2 d) y1).eval fun y3 =>
 bif y3 then ((q2om (q2o2 d) y3).eval fun y4 =>
 some y4) else ((q2oo (q2o2 d) y3).eval fun y5 =>
 some y5))
theorem q2or (d:Nat):COK prog (q2o0 (q2oq d)):=by
 have hm:prog.follows .mixedOrders=true:=mixed
 have hT:=tys
 have hC0:OrcOK prog (orc (q2o3 (q2o2 d))):=qcn (by
  intro S hS
  simp only [q2o3,List.mem_cons,List.not_mem_nil,or_false] at hS
  all_goals first | cases hS | exact hS.elim)
 have hC:OrcOK prog (orc (q2o3 (q2o2 d))):=hC0
 refine q8c (c:=qct f90) (fn:=f90) hT (by kernel_rfl) (by kernel_rfl) (by decide) fun x r h w0 φ0 Q hend=>?_
 replace h:q2oq d x=some r:=h
 unfold q2oq at h
 show Run prog w0 φ0 13 (qct f90) ⟨[(0,.agg [.bool x.1.1,.int .u64 x.1.2.1,.int .u64 x.1.2.2.1])],[]⟩ Q
 refine q3yo hm hT hC (q2o9 (q2o2 d) (x.1.1,x.1.2.1,x.1.2.2.1)) h fun y0 h=>?_
 refine q7w ?_
 refine q3yo hm hT hC (q2od (q2o2 d) y0) h fun y1 h=>?_
 refine q80 (v:=y1.1) (by kernel_rfl) h ?_ ?_
 ·
  intro h
  refine q3yo hm hT hC (q2oh (q2o2 d) y1) h fun y2 h=>?_
  refine q7v (q7k ?_)
  cases h
  exact (hend _ (by kernel_rfl)).2
 ·
  intro h
  refine q7s (q7i (q7w ?_))
  refine q3yo hm hT hC (q2ol (q2o2 d) y1) h fun y3 h=>?_
  refine q80 (v:=y3) (by kernel_rfl) h ?_ ?_
  ·
   intro h
   refine q3yo hm hT hC (q2on (q2o2 d) y3) h fun y4 h=>?_
   refine q7v (q7k ?_)
   cases h
   exact (hend _ (by kernel_rfl)).2
  ·
   intro h
   refine q7s (q7i ?_)
   refine q3yo hm hT hC (q2op (q2o2 d) y3) h fun y5 h=>?_
   refine q7v ?_
   cases h
   exact (hend _ (by kernel_rfl)).2
abbrev q2os:List Pk:=[.row Rii true,.row Rii true]
abbrev q2ot:Type:=Dii×Dii×Unit
abbrev q2ou:Type:=Int
def q2ov (r:q2ou):LV×List Ob:=(.int .i64 r,[])
def q2ow (F:q2ot→Option q2ou):Go.Tx.Spec:=⟨43,q2os,q2ou,F,q2ov⟩
abbrev q2ox:Type:=(qmh→Option qmi)×(q2nx→Option q2ny)×(q1t4→Option q1t5)×Unit
def q2oy (d:Nat):q2ox:=(qmm d,q2oq d,q1u9 d,())
def q2oz (C:q2ox):List Go.Tx.Spec:=[qmk C.1,q2o0 C.2.1,q1t7 C.2.2.1]
abbrev q2p0:Type:=Int×Int×Int×Int
def q2p1 (v:q2p0):St:=⟨[(0,.agg [i6 v.1,i6 v.2.1]),(1,.agg [i6 v.2.2.1,i6 v.2.2.2])],[]⟩
abbrev q2p2:Type:=Int×Int×Int×Int
def q2p3 (v:q2p2):St:=⟨[(2,.ptr 0 0),(3,.ptr 1 0)],[.cells [i6 v.1,i6 v.2.1],.cells [i6 v.2.2.1,i6 v.2.2.2]]⟩
def q2p4 (C:q2ox) (v:q2p0):Dt q2p2:=(Dt.ret (v.1,v.2.1,v.2.2.1,v.2.2.2))
abbrev q40c {V Y:Type}:=@rg q2ox V Y tysT (fun C=>(orc (q2oz C))) 36
theorem q2p5 C v:q40c (regO (qct f43) 0) false (an [2,3]) q2p1 q2p4 q2p3 C v:=rgI (by kernel_rfl)
abbrev q2p6:Type:=Bool×Int×Int×Bool×Int×Int
def q2p7 (v:q2p6):St:=⟨[(5,.ptr 0 0),(6,.ptr 1 0)],[.cells [.bool v.1,u6 v.2.1,u6 v.2.2.1],.cells [.bool v.2.2.2.1,u6 v.2.2.2.2.1,u6 v.2.2.2.2.2]]⟩
def q2p8 (C:q2ox) (v:q2p2):Dt q2p6:=(Dt.bnd (C.1 ((v.1,()),(v.2.2.2,()),())) fun r1=>(Dt.bnd (C.1 ((v.2.2.1,()),(v.2.1,()),())) fun r2=>(Dt.ret (r1.1,r1.2.1,r1.2.2,r2.1,r2.2.1,r2.2.2))))
theorem q2p9 C v:q40c (regO (qct f43) 1) true (an [5,6]) q2p3 q2p8 q2p7 C v:=rgI (by kernel_rfl)
abbrev q2pa:Type:=Bool×Bool×Int×Int×Bool×Int×Int
def q2pb (v:q2pa):St:=⟨[(5,.ptr 0 0),(6,.ptr 1 0),(21,.bool v.1)],[.cells [.bool v.2.1,u6 v.2.2.1,u6 v.2.2.2.1],.cells [.bool v.2.2.2.2.1,u6 v.2.2.2.2.2.1,u6 v.2.2.2.2.2.2]]⟩
def q2pc (C:q2ox) (v:q2p6):Dt q2pa:=(Dt.bnd (C.2.1 ((v.1,v.2.1,v.2.2.1,()),())) fun r1=>(Dt.bnd (C.2.1 ((v.2.2.2.1,v.2.2.2.2.1,v.2.2.2.2.2,()),())) fun r2=>(Dt.ret ((r1 != r2),v.1,v.2.1,v.2.2.1,v.2.2.2.1,v.2.2.2.2.1,v.2.2.2.2.2))))
theorem q2pd C v:q40c (regO (qct f43) 2) true (an [5,6,21]) q2p7 q2pc q2pb C v:=rgI (by kernel_rfl)
abbrev q2pe:Type:=Bool
def q2pf (v:q2pe):St:=⟨[(26,.bool v)],[]⟩
def q2pg (C:q2ox) (v:q2pa):Dt q2pe:=(Dt.bnd (C.2.1 ((v.2.1,v.2.2.1,v.2.2.2.1,()),())) fun r1=>(Dt.bnd (C.2.1 ((v.2.2.2.2.1,v.2.2.2.2.2.1,v.2.2.2.2.2.2,()),())) fun r2=>(Dt.ret (decide (r1<r2)))))
theorem q2ph C v:q40c (regO (qct f43) 3) true [(26,.any)] q2pb q2pg q2pf C v:=rgI (by kernel_rfl)
abbrev q2pi:Type:=Int
def q2pj (v:q2pi):St:=⟨[(4,i6 v)],[]⟩
def q2pk (C:q2ox) (v:q2pe):Dt q2pi:=(Dt.ret (-1:Int))
theorem q2pl C v:q40c (regO (qct f43) 4) false [(4,.any)] q2pf q2pk q2pj C v:=rgI (by kernel_rfl)
def q2pm (C:q2ox) (v:q2pe):Dt q2pi:=(Dt.ret (1:Int))
theorem q2pn C v:q40c (regO (qct f43) 5) false [(4,.any)] q2pf q2pm q2pj C v:=rgI (by kernel_rfl)
abbrev q2po:Type:=Bool×Bool×Int×Int×Bool×Int×Int
def q2pp (v:q2po):St:=⟨[(5,.ptr 0 0),(6,.ptr 1 0),(29,.bool v.1)],[.cells [.bool v.2.1,u6 v.2.2.1,u6 v.2.2.2.1],.cells [.bool v.2.2.2.2.1,u6 v.2.2.2.2.2.1,u6 v.2.2.2.2.2.2]]⟩
def q2pq (C:q2ox) (v:q2pa):Dt q2po:=(Dt.bnd (C.2.1 ((v.2.1,v.2.2.1,v.2.2.2.1,()),())) fun r1=>(Dt.ret ((decide (r1<(0:Int))),v.2.1,v.2.2.1,v.2.2.2.1,v.2.2.2.2.1,v.2.2.2.2.2.1,v.2.2.2.2.2.2)))
theorem q2pr C v:q40c (regO (qct f43) 6) false (an [5,6,29]) q2pb q2pq q2pp C v:=rgI (by kernel_rfl)
def q2ps (C:q2ox) (v:q2po):Dt q2pi:=(Dt.bnd (C.2.2.1 ((v.2.2.2.2.1,v.2.2.2.2.2.1,v.2.2.2.2.2.2,()),(v.2.1,v.2.2.1,v.2.2.2.1,()),())) fun r1=>(Dt.ret r1))
theorem q2pt C v:q40c (regO (qct f43) 7) false [(4,.any)] q2pp q2ps q2pj C v:=rgI (by kernel_rfl)
def q2pu (C:q2ox) (v:q2po):Dt q2pi:=(Dt.bnd (C.2.2.1 ((v.2.1,v.2.2.1,v.2.2.2.1,()),(v.2.2.2.2.1,v.2.2.2.2.2.1,v.2.2.2.2.2.2,()),())) fun r1=>(Dt.ret r1))
theorem q2pv C v:q40c (regO (qct f43) 8) false [(4,.any)] q2pp q2pu q2pj C v:=rgI (by kernel_rfl)
def q2pw (d:Nat) (x:q2ot):Option q2ou :=
 (q2p4 (q2oy d) (x.1.1,x.1.2.1,x.2.1.1,x.2.1.2.1)).eval fun y0 =>
 (q2p8 (q2oy d) y0).eval fun y1 =>
 (q2pc (q2oy d) y1).eval fun y2 =>
 bif y2.1 then ((q2pg (q2oy d) y2).eval fun y3 =>
 bif y3 then ((q2pk (q2oy d) y3).eval fun y4 =>
 some y4) else ((q2pm (q2oy d) y3).eval fun y5 =>
 some y5)) else ((q2pq (q2oy d) y2).eval fun y6 =>
 bif y6.1 then ((q2ps (q2oy d) y6).eval fun y7 =>
 some y7) else ((q2pu (q2oy d) y6).eval fun y8 =>
 some y8))
theorem q2px (d:Nat):COK prog (q2ow (q2pw d)):=by
 have hm:prog.follows .mixedOrders=true:=mixed
 have hT:=tys
 have hC0:OrcOK prog (orc (q2oz (q2oy d))):=qcn (by
  intro S hS
  simp only [q2oz,List.mem_cons,List.not_mem_nil,or_false] at hS
  rcases hS with rfl | rfl | rfl
  · exact qmo d
  · exact q2or d
  · exact q1ua d)
 have hC:OrcOK prog (orc (q2oz (q2oy d))):=hC0
 refine q8c (c:=qct f43) (fn:=f43) hT (by kernel_rfl) (by kernel_rfl) (by decide) fun x r h w0 φ0 Q hend=>?_
 replace h:q2pw d x=some r:=h
 unfold q2pw at h
 show Run prog w0 φ0 36 (qct f43) ⟨[(0,.agg [.int .i64 x.1.1,.int .i64 x.1.2.1]),(1,.agg [.int .i64 x.2.1.1,.int .i64 x.2.1.2.1])],[]⟩ Q
 refine q3yo hm hT hC (q2p5 (q2oy d) (x.1.1,x.1.2.1,x.2.1.1,x.2.1.2.1)) h fun y0 h=>?_
 refine q3yo hm hT hC (q2p9 (q2oy d) y0) h fun y1 h=>?_
 refine q7w ?_
 refine q3yo hm hT hC (q2pd (q2oy d) y1) h fun y2 h=>?_
 refine q80 (v:=y2.1) (by kernel_rfl) h ?_ ?_
 ·
  intro h
  refine q7w ?_
  refine q3yo hm hT hC (q2ph (q2oy d) y2) h fun y3 h=>?_
  refine q80 (v:=y3) (by kernel_rfl) h ?_ ?_
  ·
   intro h
   refine q3yo hm hT hC (q2pl (q2oy d) y3) h fun y4 h=>?_
   refine q7v (q7k (q7k ?_))
   cases h
   exact (hend _ (by kernel_rfl)).2
  ·
   intro h
   refine q7s (q7i ?_)
   refine q3yo hm hT hC (q2pn (q2oy d) y3) h fun y5 h=>?_
   refine q7v (q7k ?_)
   cases h
   exact (hend _ (by kernel_rfl)).2
 ·
  intro h
  refine q7s (q7i (q7w ?_))
  refine q3yo hm hT hC (q2pr (q2oy d) y2) h fun y6 h=>?_
  refine q80 (v:=y6.1) (by kernel_rfl) h ?_ ?_
  ·
   intro h
   refine q3yo hm hT hC (q2pt (q2oy d) y6) h fun y7 h=>?_
   refine q7v (q7k ?_)
   cases h
   exact (hend _ (by kernel_rfl)).2
  ·
   intro h
   refine q7s (q7i ?_)
   refine q3yo hm hT hC (q2pv (q2oy d) y6) h fun y8 h=>?_
   refine q7v ?_
   cases h
   exact (hend _ (by kernel_rfl)).2
abbrev q2py:List Pk:=[.row qj5 true,.row Rii true,.row Rii true]
abbrev q2pz:Type:=qj6×Dii×Dii×Unit
abbrev q2q0:Type:=Int
def q2q1 (r:q2q0):LV×List Ob:=(.int .i64 r,[])
def q2q2 (F:q2pz→Option q2q0):Go.Tx.Spec:=⟨11,q2py,q2q0,F,q2q1⟩
abbrev q2q3:Type:=(q2ot→Option q2ou)×(qph→Option qpi)×(q1rp→Option q1rq)×Unit
def q2q4 (d:Nat):q2q3:=(q2pw d,qpm d,q1sc d,())
def q2q5 (C:q2q3):List Go.Tx.Spec:=[q2ow C.1,qpk C.2.1,q1rs C.2.2.1]
abbrev q2q6:Type:=List Diii×Int×Int×Int×Int
def q2q7 (v:q2q6):St:=⟨[(0,.agg [.fz Riii v.1]),(1,.agg [i6 v.2.1,i6 v.2.2.1]),(2,.agg [i6 v.2.2.2.1,i6 v.2.2.2.2])],[]⟩
abbrev q2q8:Type:=List Diii×Int×Int×Int×Int
def q2q9 (v:q2q8):St:=⟨[(3,.ptr 0 0),(4,.ptr 1 0),(5,.ptr 2 0)],[.cells [.fz Riii v.1],.cells [i6 v.2.1,i6 v.2.2.1],.cells [i6 v.2.2.2.1,i6 v.2.2.2.2]]⟩
def q2qa (C:q2q3) (v:q2q6):Dt q2q8:=(Dt.ret (v.1,v.2.1,v.2.2.1,v.2.2.2.1,v.2.2.2.2))
abbrev q40d {V Y:Type}:=@rg q2q3 V Y tysT (fun C=>(orc (q2q5 C))) 24
theorem q2qb C v:q40d (regO (qct f11) 0) false [(3,(.box [.val Riii])),(4,.any),(5,.any)] q2q7 q2qa q2q9 C v:=rgI (by kernel_rfl)
abbrev q2qc:Type:=Int×Int×Int×Int×Int
def q2qd (v:q2qc):St:=⟨[(4,.ptr 0 0),(5,.ptr 1 0),(7,i6 v.1)],[.cells [i6 v.2.1,i6 v.2.2.1],.cells [i6 v.2.2.2.1,i6 v.2.2.2.2]]⟩
def q2qe (C:q2q3) (v:q2q8):Dt q2qc:=(Dt.bnd (C.2.1 ((v.1,()),())) fun r1=>(Dt.ret (r1,v.2.1,v.2.2.1,v.2.2.2.1,v.2.2.2.2)))
theorem q2qf C v:q40d (regO (qct f11) 1) false (an [4,5,7]) q2q9 q2qe q2qd C v:=rgI (by kernel_rfl)
abbrev q2qg:Type:=Int×Bool×Int×Int×Int×Int
def q2qh (v:q2qg):St:=⟨[(4,.ptr 0 0),(5,.ptr 1 0),(7,i6 v.1),(12,.bool v.2.1)],[.cells [i6 v.2.2.1,i6 v.2.2.2.1],.cells [i6 v.2.2.2.2.1,i6 v.2.2.2.2.2]]⟩
def q2qi (C:q2q3) (v:q2qc):Dt q2qg:=(Dt.ret (v.1,(v.1 != (0:Int)),v.2.1,v.2.2.1,v.2.2.2.1,v.2.2.2.2))
theorem q2qj C v:q40d (regO (qct f11) 2) false (an [4,5,7,12]) q2qd q2qi q2qh C v:=rgI (by kernel_rfl)
abbrev q2qk:Type:=Int
def q2ql (v:q2qk):St:=⟨[(6,i6 v)],[]⟩
def q2qm (C:q2q3) (v:q2qg):Dt q2qk:=(Dt.ret v.1)
theorem q2qn C v:q40d (regO (qct f11) 3) false [(6,.any)] q2qh q2qm q2ql C v:=rgI (by kernel_rfl)
abbrev q2qo:Type:=Int×Int×Int×Int×Int
def q2qp (v:q2qo):St:=⟨[(4,.ptr 0 0),(5,.ptr 1 0),(8,i6 v.1)],[.cells [i6 v.2.1,i6 v.2.2.1],.cells [i6 v.2.2.2.1,i6 v.2.2.2.2]]⟩
def q2qq (C:q2q3) (v:q2qg):Dt q2qo:=(Dt.bnd (C.2.2.1 ((v.2.2.1,v.2.2.2.1,()),(v.2.2.2.2.1,v.2.2.2.2.2,()),())) fun r1=>(Dt.ret (r1,v.2.2.1,v.2.2.2.1,v.2.2.2.2.1,v.2.2.2.2.2)))
theorem q2qr C v:q40d (regO (qct f11) 4) false (an [4,5,8]) q2qh q2qq q2qp C v:=rgI (by kernel_rfl)
abbrev q2qs:Type:=Int×Bool×Int×Int×Int×Int
def q2qt (v:q2qs):St:=⟨[(4,.ptr 0 0),(5,.ptr 1 0),(8,i6 v.1),(18,.bool v.2.1)],[.cells [i6 v.2.2.1,i6 v.2.2.2.1],.cells [i6 v.2.2.2.2.1,i6 v.2.2.2.2.2]]⟩
def q2qu (C:q2q3) (v:q2qo):Dt q2qs:=(Dt.ret (v.1,(v.1 != (0:Int)),v.2.1,v.2.2.1,v.2.2.2.1,v.2.2.2.2))
theorem q2qv C v:q40d (regO (qct f11) 5) false (an [4,5,8,18]) q2qp q2qu q2qt C v:=rgI (by kernel_rfl)
def q2qw (C:q2q3) (v:q2qs):Dt q2qk:=(Dt.ret v.1)
theorem q2qx C v:q40d (regO (qct f11) 6) false [(6,.any)] q2qt q2qw q2ql C v:=rgI (by kernel_rfl)
abbrev q2qy:Type:=Bool
def q2qz (v:q2qy):St:=⟨[(23,.bool v)],[]⟩
def q2r0 (C:q2q3) (v:q2qs):Dt q2qy:=(Dt.bnd (C.1 ((v.2.2.1,v.2.2.2.1,()),(v.2.2.2.2.1,v.2.2.2.2.2,()),())) fun r1=>(Dt.ret (decide (r1 > (0:Int)))))
theorem q2r1 C v:q40d (regO (qct f11) 7) false [(23,.any)] q2qt q2r0 q2qz C v:=rgI (by kernel_rfl)
def q2r2 (C:q2q3) (v:q2qy):Dt q2qk:=(Dt.ret (2:Int))
theorem q2r3 C v:q40d (regO (qct f11) 8) false [(6,.any)] q2qz q2r2 q2ql C v:=rgI (by kernel_rfl)
def q2r4 (C:q2q3) (v:q2qy):Dt q2qk:=(Dt.ret (0:Int))
theorem q2r5 C v:q40d (regO (qct f11) 9) false [(6,.any)] q2qz q2r4 q2ql C v:=rgI (by kernel_rfl)
def q2r6 (d:Nat) (x:q2pz):Option q2q0 :=
 (q2qa (q2q4 d) (x.1.1,x.2.1.1,x.2.1.2.1,x.2.2.1.1,x.2.2.1.2.1)).eval fun y0 =>
 (q2qe (q2q4 d) y0).eval fun y1 =>
 (q2qi (q2q4 d) y1).eval fun y2 =>
 bif y2.2.1 then ((q2qm (q2q4 d) y2).eval fun y3 =>
 some y3) else ((q2qq (q2q4 d) y2).eval fun y4 =>
 (q2qu (q2q4 d) y4).eval fun y5 =>
 bif y5.2.1 then ((q2qw (q2q4 d) y5).eval fun y6 =>
 some y6) else ((q2r0 (q2q4 d) y5).eval fun y7 =>
 bif y7 then ((q2r2 (q2q4 d) y7).eval fun y8 =>
 some y8) else ((q2r4 (q2q4 d) y7).eval fun y9 =>
 some y9)))
theorem q2r7 (d:Nat):COK prog (q2q2 (q2r6 d)):=by
 have hm:prog.follows .mixedOrders=true:=mixed
 have hT:=tys
 have hC0:OrcOK prog (orc (q2q5 (q2q4 d))):=qcn (by
  intro S hS
  simp only [q2q5,List.mem_cons,List.not_mem_nil,or_false] at hS
  rcases hS with rfl | rfl | rfl
  · exact q2px d
  · exact qpo d
  · exact q1sd d)
 have hC:OrcOK prog (orc (q2q5 (q2q4 d))):=hC0
 refine q8c (c:=qct f11) (fn:=f11) hT (by kernel_rfl) (by kernel_rfl) (by decide) fun x r h w0 φ0 Q hend=>?_
 replace h:q2r6 d x=some r:=h
 unfold q2r6 at h
 show Run prog w0 φ0 24 (qct f11) ⟨[(0,.agg [.fz Riii x.1.1]),(1,.agg [.int .i64 x.2.1.1,.int .i64 x.2.1.2.1]),(2,.agg [.int .i64 x.2.2.1.1,.int .i64 x.2.2.1.2.1])],[]⟩ Q
 refine q3yo hm hT hC (q2qb (q2q4 d) (x.1.1,x.2.1.1,x.2.1.2.1,x.2.2.1.1,x.2.2.1.2.1)) h fun y0 h=>?_
 refine q7w ?_
 refine q3yo hm hT hC (q2qf (q2q4 d) y0) h fun y1 h=>?_
 refine q3yo hm hT hC (q2qj (q2q4 d) y1) h fun y2 h=>?_
 refine q80 (v:=y2.2.1) (by kernel_rfl) h ?_ ?_
 ·
  intro h
  refine q3yo hm hT hC (q2qn (q2q4 d) y2) h fun y3 h=>?_
  refine q7v (q7k ?_)
  cases h
  exact (hend _ (by kernel_rfl)).2
 ·
  intro h
  refine q7s (q7i (q7w ?_))
  refine q3yo hm hT hC (q2qr (q2q4 d) y2) h fun y4 h=>?_
  refine q3yo hm hT hC (q2qv (q2q4 d) y4) h fun y5 h=>?_
  refine q80 (v:=y5.2.1) (by kernel_rfl) h ?_ ?_
  ·
   intro h
   refine q3yo hm hT hC (q2qx (q2q4 d) y5) h fun y6 h=>?_
   refine q7v (q7k ?_)
   cases h
   exact (hend _ (by kernel_rfl)).2
  ·
   intro h
   refine q7s (q7i (q7w ?_))
   refine q3yo hm hT hC (q2r1 (q2q4 d) y5) h fun y7 h=>?_
   refine q80 (v:=y7) (by kernel_rfl) h ?_ ?_
   ·
    intro h
    refine q3yo hm hT hC (q2r3 (q2q4 d) y7) h fun y8 h=>?_
    refine q7v (q7k ?_)
    cases h
    exact (hend _ (by kernel_rfl)).2
   ·
    intro h
    refine q7s (q7i ?_)
    refine q3yo hm hT hC (q2r5 (q2q4 d) y7) h fun y9 h=>?_
    refine q7v ?_
    cases h
    exact (hend _ (by kernel_rfl)).2
abbrev q2z1:List Pk:=[.row Riii true,.row Riii true,.row Rii true]
abbrev q2z2:Type:=Diii×Diii×Dii×Unit
abbrev q2z3:Type:=Int×Int×Int
def q2z4 (r:q2z3):LV×List Ob:=(.tup [.agg [.int .i64 r.1,.int .i64 r.2.1],.int .i64 r.2.2],[])
def q2z5 (F:q2z2→Option q2z3):Go.Tx.Spec:=⟨44,q2z1,q2z3,F,q2z4⟩
abbrev q2z6:Type:=(q21z→Option q220)×(q253→Option q254)×Unit
def q2z7 (d:Nat):q2z6:=(q22m d,q264 d,())
def q2z8 (C:q2z6):List Go.Tx.Spec:=[q222 C.1,q256 C.2.1]
abbrev q2z9:Type:=Int×Int×Int×Int×Int×Int×Int×Int
def q2za (v:q2z9):St:=⟨[(0,.agg [i6 v.1,i6 v.2.1,i6 v.2.2.1]),(1,.agg [i6 v.2.2.2.1,i6 v.2.2.2.2.1,i6 v.2.2.2.2.2.1]),(2,.agg [i6 v.2.2.2.2.2.2.1,i6 v.2.2.2.2.2.2.2])],[]⟩
abbrev q2zb:Type:=Int×Int×Int×Int×Int×Int×Int×Int×Int×Int
def q2zc (v:q2zb):St:=⟨[(3,.ptr 0 0),(4,.ptr 1 0),(5,.ptr 2 0),(6,.ptr 3 0)],[.cells [i6 v.1,i6 v.2.1,i6 v.2.2.1],.cells [i6 v.2.2.2.1,i6 v.2.2.2.2.1,i6 v.2.2.2.2.2.1],.cells [i6 v.2.2.2.2.2.2.1,i6 v.2.2.2.2.2.2.2.1],.cells [i6 v.2.2.2.2.2.2.2.2.1,i6 v.2.2.2.2.2.2.2.2.2]]⟩
def q2zd (C:q2z6) (v:q2z9):Dt q2zb:=(Dt.ret (v.1,v.2.1,v.2.2.1,v.2.2.2.1,v.2.2.2.2.1,v.2.2.2.2.2.1,v.2.2.2.2.2.2.1,v.2.2.2.2.2.2.2,(0:Int),(0:Int)))
abbrev q40l {V Y:Type}:=@rg q2z6 V Y tysT (fun C=>(orc (q2z8 C))) 36
theorem q2ze C v:q40l (regO (qct f44) 0) false (an [3,4,5,6]) q2za q2zd q2zc C v:=rgI (by kernel_rfl)
abbrev q2zf:Type:=Int×Int×Int×Int×Int×Int×Int×Int×Int×Int
def q2zg (v:q2zf):St:=⟨[(4,.ptr 0 0),(5,.ptr 1 0),(6,.ptr 2 0),(8,.ptr 3 0),(9,i6 v.1)],[.cells [i6 v.2.1,i6 v.2.2.1,i6 v.2.2.2.1],.cells [i6 v.2.2.2.2.1,i6 v.2.2.2.2.2.1],.cells [i6 v.2.2.2.2.2.2.1,i6 v.2.2.2.2.2.2.2.1],.cells [i6 v.2.2.2.2.2.2.2.2.1,i6 v.2.2.2.2.2.2.2.2.2]]⟩
def q2zh (C:q2z6) (v:q2zb):Dt q2zf:=(Dt.bnd (C.2.1 ((v.1,v.2.1,v.2.2.1,()),(v.2.2.2.2.2.2.1,v.2.2.2.2.2.2.2.1,()),())) fun r1=>(Dt.ret (r1.2.2,v.2.2.2.1,v.2.2.2.2.1,v.2.2.2.2.2.1,v.2.2.2.2.2.2.1,v.2.2.2.2.2.2.2.1,v.2.2.2.2.2.2.2.2.1,v.2.2.2.2.2.2.2.2.2,r1.1,r1.2.1)))
theorem q2zi C v:q40l (regO (qct f44) 1) false (an [4,5,6,8,9]) q2zc q2zh q2zg C v:=rgI (by kernel_rfl)
abbrev q2zj:Type:=Int×Bool×Int×Int×Int×Int×Int×Int×Int×Int×Int
def q2zk (v:q2zj):St:=⟨[(4,.ptr 0 0),(5,.ptr 1 0),(6,.ptr 2 0),(8,.ptr 3 0),(9,i6 v.1),(18,.bool v.2.1)],[.cells [i6 v.2.2.1,i6 v.2.2.2.1,i6 v.2.2.2.2.1],.cells [i6 v.2.2.2.2.2.1,i6 v.2.2.2.2.2.2.1],.cells [i6 v.2.2.2.2.2.2.2.1,i6 v.2.2.2.2.2.2.2.2.1],.cells [i6 v.2.2.2.2.2.2.2.2.2.1,i6 v.2.2.2.2.2.2.2.2.2.2]]⟩
def q2zl (C:q2z6) (v:q2zf):Dt q2zj:=(Dt.ret (v.1,(v.1 != (0:Int)),v.2.1,v.2.2.1,v.2.2.2.1,v.2.2.2.2.1,v.2.2.2.2.2.1,v.2.2.2.2.2.2.1,v.2.2.2.2.2.2.2.1,v.2.2.2.2.2.2.2.2.1,v.2.2.2.2.2.2.2.2.2))
theorem q2zm C v:q40l (regO (qct f44) 2) false (an [4,5,6,8,9,18]) q2zg q2zl q2zk C v:=rgI (by kernel_rfl)
abbrev q2zn:Type:=Int×Int×Int
def q2zo (v:q2zn):St:=⟨[(6,.ptr 0 0),(7,i6 v.1)],[.cells [i6 v.2.1,i6 v.2.2]]⟩
def q2zp (C:q2z6) (v:q2zj):Dt q2zn:=(Dt.ret (v.1,(0:Int),(0:Int)))
theorem q2zq C v:q40l (regO (qct f44) 3) false (an [6,7]) q2zk q2zp q2zo C v:=rgI (by kernel_rfl)
abbrev q2zr:Type:=Int×Int×Int×Int×Int×Int×Int
def q2zs (v:q2zr):St:=⟨[(6,.ptr 0 0),(8,.ptr 1 0),(9,i6 v.1),(10,.ptr 2 0)],[.cells [i6 v.2.1,i6 v.2.2.1],.cells [i6 v.2.2.2.1,i6 v.2.2.2.2.1],.cells [i6 v.2.2.2.2.2.1,i6 v.2.2.2.2.2.2]]⟩
def q2zt (C:q2z6) (v:q2zj):Dt q2zr:=(Dt.bnd (C.2.1 ((v.2.2.1,v.2.2.2.1,v.2.2.2.2.1,()),(v.2.2.2.2.2.1,v.2.2.2.2.2.2.1,()),())) fun r1=>(Dt.ret (r1.2.2,v.2.2.2.2.2.2.2.1,v.2.2.2.2.2.2.2.2.1,v.2.2.2.2.2.2.2.2.2.1,v.2.2.2.2.2.2.2.2.2.2,r1.1,r1.2.1)))
theorem q2zu C v:q40l (regO (qct f44) 4) false (an [6,8,9,10]) q2zk q2zt q2zs C v:=rgI (by kernel_rfl)
abbrev q2zv:Type:=Int×Bool×Int×Int×Int×Int×Int×Int
def q2zw (v:q2zv):St:=⟨[(6,.ptr 0 0),(8,.ptr 1 0),(9,i6 v.1),(10,.ptr 2 0),(28,.bool v.2.1)],[.cells [i6 v.2.2.1,i6 v.2.2.2.1],.cells [i6 v.2.2.2.2.1,i6 v.2.2.2.2.2.1],.cells [i6 v.2.2.2.2.2.2.1,i6 v.2.2.2.2.2.2.2]]⟩
def q2zx (C:q2z6) (v:q2zr):Dt q2zv:=(Dt.ret (v.1,(v.1 != (0:Int)),v.2.1,v.2.2.1,v.2.2.2.1,v.2.2.2.2.1,v.2.2.2.2.2.1,v.2.2.2.2.2.2))
theorem q2zy C v:q40l (regO (qct f44) 5) false (an [6,8,9,10,28]) q2zs q2zx q2zw C v:=rgI (by kernel_rfl)
def q2zz (C:q2z6) (v:q2zv):Dt q2zn:=(Dt.ret (v.1,(0:Int),(0:Int)))
theorem q300 C v:q40l (regO (qct f44) 6) false (an [6,7]) q2zw q2zz q2zo C v:=rgI (by kernel_rfl)
def q301 (C:q2z6) (v:q2zv):Dt q2zn:=(Dt.bnd (C.1 ((v.2.2.2.2.1,v.2.2.2.2.2.1,()),(v.2.2.2.2.2.2.1,v.2.2.2.2.2.2.2,()),())) fun r1=>(Dt.ret (r1.2.2,r1.1,r1.2.1)))
theorem q302 C v:q40l (regO (qct f44) 7) false (an [6,7]) q2zw q301 q2zo C v:=rgI (by kernel_rfl)
def q303 (d:Nat) (x:q2z2):Option q2z3 :=
 (q2zd (q2z7 d) (x.1.1,x.1.2.1,x.1.2.2.1,x.2.1.1,x.2.1.2.1,x.2.1.2.2.1,x.2.2.1.1,x.2.2.1.2.1)).eval fun y0 =>
 (q2zh (q2z7 d) y0).eval fun y1 =>
 (q2zl (q2z7 d) y1).eval fun y2 =>
 bif y2.2.1 then ((q2zp (q2z7 d) y2).eval fun y3 =>
 some (y3.2.1,y3.2.2,y3.1)) else ((q2zt (q2z7 d) y2).eval fun y4 =>
 (q2zx (q2z7 d) y4).eval fun y5 =>
 bif y5.2.1 then ((q2zz (q2z7 d) y5).eval fun y6 =>
 some (y6.2.1,y6.2.2,y6.1)) else ((q301 (q2z7 d) y5).eval fun y7 =>
 some (y7.2.1,y7.2.2,y7.1)))
theorem q304 (d:Nat):COK prog (q2z5 (q303 d)):=by
 have hm:prog.follows .mixedOrders=true:=mixed
 have hT:=tys
 have hC0:OrcOK prog (orc (q2z8 (q2z7 d))):=qcn (by
  intro S hS
  simp only [q2z8,List.mem_cons,List.not_mem_nil,or_false] at hS
  rcases hS with rfl | rfl
  · exact q22n d
  · exact q265 d)
 have hC:OrcOK prog (orc (q2z8 (q2z7 d))):=hC0
 refine q8c (c:=qct f44) (fn:=f44) hT (by kernel_rfl) (by kernel_rfl) (by decide) fun x r h w0 φ0 Q hend=>?_
 replace h:q303 d x=some r:=h
 unfold q303 at h
 show Run prog w0 φ0 36 (qct f44) ⟨[(0,.agg [.int .i64 x.1.1,.int .i64 x.1.2.1,.int .i64 x.1.2.2.1]),(1,.agg [.int .i64 x.2.1.1,.int .i64 x.2.1.2.1,.int .i64 x.2.1.2.2.1]),(2,.agg [.int .i64 x.2.2.1.1,.int .i64 x.2.2.1.2.1])],[]⟩ Q
 refine q3yo hm hT hC (q2ze (q2z7 d) (x.1.1,x.1.2.1,x.1.2.2.1,x.2.1.1,x.2.1.2.1,x.2.1.2.2.1,x.2.2.1.1,x.2.2.1.2.1)) h fun y0 h=>?_
 refine q3yo hm hT hC (q2zi (q2z7 d) y0) h fun y1 h=>?_
 refine q7w ?_
 refine q3yo hm hT hC (q2zm (q2z7 d) y1) h fun y2 h=>?_
 refine q80 (v:=y2.2.1) (by kernel_rfl) h ?_ ?_
 ·
  intro h
  refine q3yo hm hT hC (q2zq (q2z7 d) y2) h fun y3 h=>?_
  refine q7v (q7k ?_)
  cases h
  exact (hend _ (by kernel_rfl)).2
 ·
  intro h
  refine q7s (q7i ?_)
  refine q3yo hm hT hC (q2zu (q2z7 d) y2) h fun y4 h=>?_
  refine q7w ?_
  refine q3yo hm hT hC (q2zy (q2z7 d) y4) h fun y5 h=>?_
  refine q80 (v:=y5.2.1) (by kernel_rfl) h ?_ ?_
  ·
   intro h
   refine q3yo hm hT hC (q300 (q2z7 d) y5) h fun y6 h=>?_
   refine q7v (q7k ?_)
   cases h
   exact (hend _ (by kernel_rfl)).2
  ·
   intro h
   refine q7s (q7i ?_)
   refine q3yo hm hT hC (q302 (q2z7 d) y5) h fun y7 h=>?_
   refine q7v ?_
   cases h
   exact (hend _ (by kernel_rfl)).2
abbrev q36v:List Pk:=[.row qje false,.row qje false]
abbrev q36w:Type:=qjf×qjf×Unit
abbrev q36x:Type:=Bool
def q36y (r:q36x):LV×List Ob:=(.bool r,[])
def q36z (F:q36w→Option q36x):Go.Tx.Spec:=⟨36,q36v,q36x,F,q36y⟩
abbrev q370:Type:=Unit
def q371 (_d:Nat):q370:=()
def q372 (C:q370):List Go.Tx.Spec:=[]
abbrev q373:Type:=List Dii×List Dii
def q374 (v:q373):St:=⟨[(0,.fz Rii v.1),(1,.fz Rii v.2)],[]⟩
def q375 (C:q370) (v:q373):Dt q373:=(Dt.ret (v.1,v.2))
abbrev q40s {V Y:Type}:=@rg q370 V Y tysT (fun C=>(orc (q372 C))) 26
theorem q376 C v:q40s (regO (qct f36) 0) false [(0,(.val Rii)),(1,(.val Rii))] q374 q375 q374 C v:=rgI (by kernel_rfl)
abbrev q377:Type:=List Dii×List Dii×Bool
def q378 (v:q377):St:=⟨[(0,.fz Rii v.1),(1,.fz Rii v.2.1),(10,.bool v.2.2)],[]⟩
def q379 (C:q370) (v:q373):Dt q377:=(Dt.ret (v.1,v.2,((List.length v.1:Int) != (List.length v.2:Int))))
theorem q37a C v:q40s (regO (qct f36) 1) false [(0,(.val Rii)),(1,(.val Rii)),(10,.any)] q374 q379 q378 C v:=rgI (by kernel_rfl)
abbrev q37b:Type:=Bool
def q37c (v:q37b):St:=⟨[(4,.bool v)],[]⟩
def q37d (C:q370) (v:q377):Dt q37b:=(Dt.ret false)
theorem q37e C v:q40s (regO (qct f36) 2) false [(4,.any)] q378 q37d q37c C v:=rgI (by kernel_rfl)
abbrev q37f:Type:=List Dii×List Dii×Int
def q37g (v:q37f):St:=⟨[(0,.fz Rii v.1),(1,.fz Rii v.2.1),(5,i6 v.2.2)],[]⟩
def q37h (C:q370) (v:q377):Dt q37f:=(Dt.ret (v.1,v.2.1,(0:Int)))
theorem q37i C v:q40s (regO (qct f36) 3) false [(0,(.val Rii)),(1,(.val Rii)),(5,.any)] q378 q37h q37g C v:=rgI (by kernel_rfl)
abbrev q37j:Type:=List Dii×List Dii×Int×Bool
def q37k (v:q37j):St:=⟨[(0,.fz Rii v.1),(1,.fz Rii v.2.1),(5,i6 v.2.2.1),(14,.bool v.2.2.2)],[]⟩
def q37l (C:q370) (v:q37f):Dt q37j:=(Dt.ret (v.1,v.2.1,v.2.2,(decide (v.2.2<(List.length v.1:Int)))))
theorem q37m C v:q40s (regO (qct f36) 4) false [(0,(.val Rii)),(1,(.val Rii)),(5,.any),(14,.any)] q37g q37l q37k C v:=rgI (by kernel_rfl)
abbrev q37n:Type:=List Dii×List Dii×Int×Bool
def q37o (v:q37n):St:=⟨[(0,.fz Rii v.1),(1,.fz Rii v.2.1),(5,i6 v.2.2.1),(25,.bool v.2.2.2)],[]⟩
def q37p (C:q370) (v:q37j):Dt q37n:=(Dt.ite (inB v.2.2.1 (List.length v.1)) (Dt.ite (inB v.2.2.1 (List.length v.2.1)) (Dt.ret (v.1,v.2.1,v.2.2.1,(!(((elt zii v.1 (v.2.2.1).toNat).1 == (elt zii v.2.1 (v.2.2.1).toNat).1)&&(((elt zii v.1 (v.2.2.1).toNat).2.1 == (elt zii v.2.1 (v.2.2.1).toNat).2.1)&&true))))) Dt.fail) Dt.fail)
theorem q37q C v:q40s (regO (qct f36) 6) true [(0,(.val Rii)),(1,(.val Rii)),(5,.any),(25,.any)] q37k q37p q37o C v:=rgI (by kernel_rfl)
def q37r (C:q370) (v:q37n):Dt q37b:=(Dt.ret false)
theorem q37s C v:q40s (regO (qct f36) 7) false [(4,.any)] q37o q37r q37c C v:=rgI (by kernel_rfl)
def q37t (C:q370) (v:q37n):Dt q37f:=(Dt.ret (v.1,v.2.1,(IntKind.wrap .i64 (v.2.2.1+(1:Int)))))
theorem q37u C v:q40s (regO (qct f36) 5) false [(0,(.val Rii)),(1,(.val Rii)),(5,.any)] q37o q37t q37g C v:=rgI (by kernel_rfl)
def q37v (C:q370) (v:q37j):Dt q37b:=(Dt.ret true)
theorem q37w C v:q40s (regO (qct f36) 8) false [(4,.any)] q37k q37v q37c C v:=rgI (by kernel_rfl)
def q37x (d:Nat) (self1:(List Dii×List Dii×Int)→Option q36x) (x1:List Dii×List Dii×Int):Option q36x :=
 (q37l (q371 d) x1).eval fun y4 =>
 bif y4.2.2.2 then ((q37p (q371 d) y4).eval fun y6 =>
 bif y6.2.2.2 then ((q37r (q371 d) y6).eval fun y7 =>
 some y7) else ((q37t (q371 d) y6).eval fun y5 =>
 self1 y5)) else ((q37v (q371 d) y4).eval fun y8 =>
 some y8)
def q37y (d:Nat) (x:q36w):Option q36x :=
 (q375 (q371 d) (x.1.1,x.2.1.1)).eval fun y0 =>
 (q379 (q371 d) y0).eval fun y1 =>
 bif y1.2.2 then ((q37d (q371 d) y1).eval fun y2 =>
 some y2) else ((q37h (q371 d) y1).eval fun y3 =>
 iter (q37x d ) d y3)
theorem q37z (d:Nat):COK prog (q36z (q37y d)):=by
 have hm:prog.follows .mixedOrders=true:=mixed
 have hT:=tys
 have hC0:OrcOK prog (orc (q372 (q371 d))):=qcn (by
  intro S hS
  simp only [q372,List.mem_cons,List.not_mem_nil,or_false] at hS
  all_goals first | cases hS | exact hS.elim)
 have hC:OrcOK prog (orc (q372 (q371 d))):=hC0
 refine q8c (c:=qct f36) (fn:=f36) hT (by kernel_rfl) (by kernel_rfl) (by decide) fun x r h w0 φ0 Q hend=>?_
 replace h:q37y d x=some r:=h
 unfold q37y at h
 show Run prog w0 φ0 26 (qct f36) ⟨[(0,.fz Rii x.1.1),(1,.fz Rii x.2.1.1)],[]⟩ Q
 refine q3yo hm hT hC (q376 (q371 d) (x.1.1,x.2.1.1)) h fun y0 h=>?_
 refine q7w ?_
 refine q3yo hm hT hC (q37a (q371 d) y0) h fun y1 h=>?_
 refine q80 (v:=y1.2.2) (by kernel_rfl) h ?_ ?_
 ·
  intro h
  refine q3yo hm hT hC (q37e (q371 d) y1) h fun y2 h=>?_
  refine q7v (q7k ?_)
  cases h
  exact (hend _ (by kernel_rfl)).2
 ·
  intro h
  refine q7s (q7i (q7w ?_))
  refine q3yo hm hT hC (q37i (q371 d) y1) h fun y3 h=>?_
  refine q7x ?_
  refine q82 (G:=iter (q37x d )) (S:=(fun x1=>⟨[(0,.fz Rii x1.1),(1,.fz Rii x1.2.1),(5,i6 x1.2.2)],[]⟩:List Dii×List Dii×Int→St)) (fun _=>rfl) ?_ d _ h
  intro n1 x1 h K1 hn1
  replace h:q37x d  (iter (q37x d ) n1) x1=some r:=h
  generalize iter (q37x d ) n1=self1 at h hn1
  unfold q37x at h
  refine q7w ?_
  refine q3yo hm hT hC (q37m (q371 d) x1) h fun y4 h=>?_
  refine q80 (v:=y4.2.2.2) (by kernel_rfl) h ?_ ?_
  ·
   intro h
   refine q7s (q7i (q7w (q7x ?_)))
   refine q3yo hm hT hC (q37q (q371 d) y4) h fun y6 h=>?_
   refine q80 (v:=y6.2.2.2) (by kernel_rfl) h ?_ ?_
   ·
    intro h
    refine q3yo hm hT hC (q37s (q371 d) y6) h fun y7 h=>?_
    refine q7v (q7m (q7k (q7k (q7m (q7k ?_)))))
    cases h
    exact (hend _ (by kernel_rfl)).2
   ·
    intro h
    refine q7s (q7l (q7i ?_))
    refine q81 hm hT hC (q37u (q371 d) y6) h ?_
    intro y5 h
    exact hn1 _ h
  ·
   intro h
   refine q7u (q7j (q7j (q7n (q7i ?_))))
   refine q3yo hm hT hC (q37w (q371 d) y4) h fun y8 h=>?_
   refine q7v ?_
   cases h
   exact (hend _ (by kernel_rfl)).2
end Go.Proofs.YtpfhgnccpiildaaGreat

namespace Go.Proofs.YtpfhgnccpiildaaGreat
open Go Go.Tx Go.Pel Go.Proofs.Tryz
set_option maxRecDepth 100000
set_option maxHeartbeats 0
abbrev q380:List Pk:=[.row qj5 true,.row Ri false]
abbrev q381:Type:=qj6×Di×Unit
abbrev q382:Type:=List Diii×Int
def q383 (r:q382):LV×List Ob:=(.tup [.agg [.rs 0],.int .i64 r.2],[.rows Riii r.1])
def q384 (F:q381→Option q382):Go.Tx.Spec:=⟨46,q380,q382,F,q383⟩
def q385 (x:q381):Bool:=true
def q386 (d:Nat) (x:q381):Option q382:=bif q385 x then some (toPs (qgh (ptsL x.1.1) x.2.1.1).1,(qgh (ptsL x.1.1) x.2.1.1).2) else none
theorem q387 (d:Nat) (x:q381) (h:q385 x=true):q386 d x=some (toPs (qgh (ptsL x.1.1) x.2.1.1).1,(qgh (ptsL x.1.1) x.2.1.1).2):=by unfold q386;rw [h];rfl
theorem q388 (d:Nat):COK prog (q384 (q386 d)):=by
 refine qhd (qhe (fn:=f46) (by kernel_rfl) (by kernel_rfl) (by kernel_rfl)) fun x r hx w φ vs hφ hv=>?_
 have hx:q386 d x=some r:=hx
 unfold q386 at hx
 obtain ⟨hc,rfl⟩:=qit hx
 have hv:VRs (Emb.fro φ) [.agg [.fz RP x.1.1],.int .i64 x.2.1.1] vs:=hv
 obtain ⟨v0,vs,rfl,q0,hv⟩:=VRs.uncons hv
 obtain ⟨v1,rfl,q1⟩:=vrs1 hv
 obtain ⟨A0,c0,rfl,s0,z0⟩:=qio hφ q0
 have r1:=qh8 q1;subst r1
 refine (qqz A0 c0 (ptsL x.1.1) x.2.1.1 w s0 z0).mono ?_
 rintro e w' ⟨A',c',rfl,y,rfl,ho⟩
 exact qhc hφ (τ:=Riii) rfl (qix _) ho (qiz _) fun η e0=>VR.tupL (VRs.cons (VR.aggL (VRs.cons (.rs e0) VRs.nil)) (VRs.cons (.int _ _) VRs.nil))
end Go.Proofs.YtpfhgnccpiildaaGreat
