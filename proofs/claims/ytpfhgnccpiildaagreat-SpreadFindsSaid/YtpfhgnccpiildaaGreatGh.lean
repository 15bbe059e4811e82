/- Walks of the references; the orders agree; examples. -/
import Derived.Test.YtpfhgnccpiildaaGreatGg
set_option linter.unusedSimpArgs false
set_option linter.unusedVariables false
namespace Go.Proofs.YtpfhgnccpiildaaGreat
open Go Go.Tx Go.Proofs.Tryz
set_option maxRecDepth 100000
set_option maxHeartbeats 0
abbrev q2nw:List Pk:=[.row Rbuu true]
abbrev q2nx:Type:=Dbuu×Unit
abbrev q2ny:Type:=Int
def q2nz (r:q2ny):LV×List Ob:=(.int .i64 r,[])
def q2o0 (F:q2nx→Option q2ny):Go.Tx.Spec:=⟨90,q2nw,q2ny,F,q2nz⟩
abbrev q2o1:Type:=Unit
def q2o2 (_d:Nat):q2o1:=()
def q2o3 (C:q2o1):List Go.Tx.Spec:=[]
abbrev q2o4:Type:=Bool×Int×Int
def q2o5 (v:q2o4):St:=⟨[(0,.agg [.bool v.1,u6 v.2.1,u6 v.2.2])],[]⟩
abbrev q2o6:Type:=Bool×Int×Int
def q2o7 (v:q2o6):St:=⟨[(1,.ptr 0 0)],[.cells [.bool v.1,u6 v.2.1,u6 v.2.2]]⟩
def q2o8 (C:q2o1) (v:q2o4):Dt q2o6:=(Dt.ret (v.1,v.2.1,v.2.2))
abbrev q40b {V Y:Type}:=@rg q2o1 V Y tysT (fun C=>(orc (q2o3 C))) 13
theorem q2o9 C v:q40b (regO (qct f90) 0) false [(1,.any)] q2o5 q2o8 q2o7 C v:=rgI (by kernel_rfl)
abbrev q2oa:Type:=Bool×Bool×Int×Int
def q2ob (v:q2oa):St:=⟨[(1,.ptr 0 0),(10,.bool v.1)],[.cells [.bool v.2.1,u6 v.2.2.1,u6 v.2.2.2]]⟩
def q2oc (C:q2o1) (v:q2o6):Dt q2oa:=(Dt.ite (v.2.1 == (0:Int)) (Dt.ret ((v.2.2 == (0:Int)),v.1,v.2.1,v.2.2)) (Dt.ret (false,v.1,v.2.1,v.2.2)))
theorem q2od C v:q40b (regO (qct f90) 1) false (an [1,10]) q2o7 q2oc q2ob C v:=rgI (by kernel_rfl)
abbrev q2oe:Type:=Int
def q2of (v:q2oe):St:=⟨[(2,i6 v)],[]⟩
def q2og (C:q2o1) (v:q2oa):Dt q2oe:=(Dt.ret (0:Int))
theorem q2oh C v:q40b (regO (qct f90) 2) false [(2,.any)] q2ob q2og q2of C v:=rgI (by kernel_rfl)
abbrev q2oi:Type:=Bool
def q2oj (v:q2oi):St:=⟨[(12,.bool v)],[]⟩
def q2ok (C:q2o1) (v:q2oa):Dt q2oi:=(Dt.ret v.2.1)
theorem q2ol C v:q40b (regO (qct f90) 3) false [(12,.any)] q2ob q2ok q2oj C v:=rgI (by kernel_rfl)
def q2om (C:q2o1) (v:q2oi):Dt q2oe:=(Dt.ret (-1:Int))
theorem q2on C v:q40b (regO (qct f90) 4) false [(2,.any)] q2oj q2om q2of C v:=rgI (by kernel_rfl)
def q2oo (C:q2o1) (v:q2oi):Dt q2oe:=(Dt.ret (1:Int))
theorem q2op C v:q40b (regO (qct f90) 5) false [(2,.any)] q2oj q2oo q2of C v:=rgI (by kernel_rfl)
def q2oq (d:Nat) (x:q2nx):Option q2ny :=
 (q2o8 (q2o2 d) (x.1.1,x.1.2.1,x.1.2.2.1)).eval fun y0 =>
 (q2oc (q2o2 d) y0).eval fun y1 =>
 bif y1.1 then ((q2og (q2o2 d) y1).eval fun y2 =>
 some y2) else ((q2ok (q2o2 d) y1).eval fun y3 =>
 bif y3 then ((q2om (q2o2 d) y3).eval fun y4 =>
 some y4) else ((q2oo (q2o2 d) y3).eval fun y5 =>
 some y5))
theorem q2or (d:Nat):COK prog (q2o0 (q2oq d)):=by
 have hm:prog.follows .mixedOrders=true:=mixed
 have hT:=tys
 have hC0:OrcOK prog (orc (q2o3 (q2o2 d))):=qcn (by
  intro S hS
  simp only [q2o3,List.mem_cons,List.not_mem_nil,or_false] at hS
  all_goals first | cases hS | exact hS.elim)
 have hC:OrcOK prog (orc (q2o3 (q2o2 d))):=hC0
 refine q8c (c:=qct f90) (fn:=f90) hT (by kernel_rfl) (by kernel_rfl) (by decide) fun x r h w0 φ0 Q hend=>?_
 replace h:q2oq d x=some r:=h
 unfold q2oq at h
 show Run prog w0 φ0 13 (qct f90) ⟨[(0,.agg [.bool x.1.1,.int .u64 x.1.2.1,.int .u64 x.1.2.2.1])],[]⟩ Q
 refine q3yo hm hT hC (q2o9 (q2o2 d) (x.1.1,x.1.2.1,x.1.2.2.1)) h fun y0 h=>?_
 refine q7w ?_
 refine q3yo hm hT hC (q2od (q2o2 d) y0) h fun y1 h=>?_
 refine q80 (v:=y1.1) (by kernel_rfl) h ?_ ?_
 ·
  intro h
  refine q3yo hm hT hC (q2oh (q2o2 d) y1) h fun y2 h=>?_
  refine q7v (q7k ?_)
  cases h
  exact (hend _ (by kernel_rfl)).2
 ·
  intro h
  refine q7s (q7i (q7w ?_))
  refine q3yo hm hT hC (q2ol (q2o2 d) y1) h fun y3 h=>?_
  refine q80 (v:=y3) (by kernel_rfl) h ?_ ?_
  ·
   intro h
   refine q3yo hm hT hC (q2on (q2o2 d) y3) h fun y4 h=>?_
   refine q7v (q7k ?_)
   cases h
   exact (hend _ (by kernel_rfl)).2
  ·
   intro h
   refine q7s (q7i ?_)
   refine q3yo hm hT hC (q2op (q2o2 d) y3) h fun y5 h=>?_
   refine q7v ?_
   cases h
   exact (hend _ (by kernel_rfl)).2
abbrev q2os:List Pk:=[.row Rii true,.row Rii true]
abbrev q2ot:Type:=Dii×Dii×Unit
abbrev q2ou:Type:=Int
def q2ov (r:q2ou):LV×List Ob:=(.int .i64 r,[])
def q2ow (F:q2ot→Option q2ou):Go.Tx.Spec:=⟨43,q2os,q2ou,F,q2ov⟩
abbrev q2ox:Type:=(qmh→Option qmi)×(q2nx→Option q2ny)×(q1t4→Option q1t5)×Unit
def q2oy (d:Nat):q2ox:=(qmm d,q2oq d,q1u9 d,())
def q2oz (C:q2ox):List Go.Tx.Spec:=[qmk C.1,q2o0 C.2.1,q1t7 C.2.2.1]
abbrev q2p0:Type:=Int×Int×Int×Int
def q2p1 (v:q2p0):St:=⟨[(0,.agg [i6 v.1,i6 v.2.1]),(1,.agg [i6 v.2.2.1,i6 v.2.2.2])],[]⟩
abbrev q2p2:Type:=Int×Int×Int×Int
def q2p3 (v:q2p2):St:=⟨[(2,.ptr 0 0),(3,.ptr 1 0)],[.cells [i6 v.1,i6 v.2.1],.cells [i6 v.2.2.1,i6 v.2.2.2]]⟩
def q2p4 (C:q2ox) (v:q2p0):Dt q2p2:=(Dt.ret (v.1,v.2.1,v.2.2.1,v.2.2.2))
abbrev q40c {V Y:Type}:=@rg q2ox V Y tysT (fun C=>(orc (q2oz C))) 36
theorem q2p5 C v:q40c (regO (qct f43) 0) false (an [2,3]) q2p1 q2p4 q2p3 C v:=rgI (by kernel_rfl)
abbrev q2p6:Type:=Bool×Int×Int×Bool×Int×Int
def q2p7 (v:q2p6):St:=⟨[(5,.ptr 0 0),(6,.ptr 1 0)],[.cells [.bool v.1,u6 v.2.1,u6 v.2.2.1],.cells [.bool v.2.2.2.1,u6 v.2.2.2.2.1,u6 v.2.2.2.2.2]]⟩
def q2p8 (C:q2ox) (v:q2p2):Dt q2p6:=(Dt.bnd (C.1 ((v.1,()),(v.2.2.2,()),())) fun r1=>(Dt.bnd (C.1 ((v.2.2.1,()),(v.2.1,()),())) fun r2=>(Dt.ret (r1.1,r1.2.1,r1.2.2,r2.1,r2.2.1,r2.2.2))))
theorem q2p9 C v:q40c (regO (qct f43) 1) true (an [5,6]) q2p3 q2p8 q2p7 C v:=rgI (by kernel_rfl)
abbrev q2pa:Type:=Bool×Bool×Int×Int×Bool×Int×Int
def q2pb (v:q2pa):St:=⟨[(5,.ptr 0 0),(6,.ptr 1 0),(21,.bool v.1)],[.cells [.bool v.2.1,u6 v.2.2.1,u6 v.2.2.2.1],.cells [.bool v.2.2.2.2.1,u6 v.2.2.2.2.2.1,u6 v.2.2.2.2.2.2]]⟩
def q2pc (C:q2ox) (v:q2p6):Dt q2pa:=(Dt.bnd (C.2.1 ((v.1,v.2.1,v.2.2.1,()),())) fun r1=>(Dt.bnd (C.2.1 ((v.2.2.2.1,v.2.2.2.2.1,v.2.2.2.2.2,()),())) fun r2=>(Dt.ret ((r1 != r2),v.1,v.2.1,v.2.2.1,v.2.2.2.1,v.2.2.2.2.1,v.2.2.2.2.2))))
theorem q2pd C v:q40c (regO (qct f43) 2) true (an [5,6,21]) q2p7 q2pc q2pb C v:=rgI (by kernel_rfl)
abbrev q2pe:Type:=Bool
def q2pf (v:q2pe):St:=⟨[(26,.bool v)],[]⟩
def q2pg (C:q2ox) (v:q2pa):Dt q2pe:=(Dt.bnd (C.2.1 ((v.2.1,v.2.2.1,v.2.2.2.1,()),())) fun r1=>(Dt.bnd (C.2.1 ((v.2.2.2.2.1,v.2.2.2.2.2.1,v.2.2.2.2.2.2,()),())) fun r2=>(Dt.ret (decide (r1<r2)))))
theorem q2ph C v:q40c (regO (qct f43) 3) true [(26,.any)] q2pb q2pg q2pf C v:=rgI (by kernel_rfl)
abbrev q2pi:Type:=Int
def q2pj (v:q2pi):St:=⟨[(4,i6 v)],[]⟩
def q2pk (C:q2ox) (v:q2pe):Dt q2pi:=(Dt.ret (-1:Int))
theorem q2pl C v:q40c (regO (qct f43) 4) false [(4,.any)] q2pf q2pk q2pj C v:=rgI (by kernel_rfl)
def q2pm (C:q2ox) (v:q2pe):Dt q2pi:=(Dt.ret (1:Int))
theorem q2pn C v:q40c (regO (qct f43) 5) false [(4,.any)] q2pf q2pm q2pj C v:=rgI (by kernel_rfl)
abbrev q2po:Type:=Bool×Bool×Int×Int×Bool×Int×Int
def q2pp (v:q2po):St:=⟨[(5,.ptr 0 0),(6,.ptr 1 0),(29,.bool v.1)],[.cells [.bool v.2.1,u6 v.2.2.1,u6 v.2.2.2.1],.cells [.bool v.2.2.2.2.1,u6 v.2.2.2.2.2.1,u6 v.2.2.2.2.2.2]]⟩
def q2pq (C:q2ox) (v:q2pa):Dt q2po:=(Dt.bnd (C.2.1 ((v.2.1,v.2.2.1,v.2.2.2.1,()),())) fun r1=>(Dt.ret ((decide (r1<(0:Int))),v.2.1,v.2.2.1,v.2.2.2.1,v.2.2.2.2.1,v.2.2.2.2.2.1,v.2.2.2.2.2.2)))
theorem q2pr C v:q40c (regO (qct f43) 6) false (an [5,6,29]) q2pb q2pq q2pp C v:=rgI (by kernel_rfl)
def q2ps (C:q2ox) (v:q2po):Dt q2pi:=(Dt.bnd (C.2.2.1 ((v.2.2.2.2.1,v.2.2.2.2.2.1,v.2.2.2.2.2.2,()),(v.2.1,v.2.2.1,v.2.2.2.1,()),())) fun r1=>(Dt.ret r1))
theorem q2pt C v:q40c (regO (qct f43) 7) false [(4,.any)] q2pp q2ps q2pj C v:=rgI (by kernel_rfl)
def q2pu (C:q2ox) (v:q2po):Dt q2pi:=(Dt.bnd (C.2.2.1 ((v.2.1,v.2.2.1,v.2.2.2.1,()),(v.2.2.2.2.1,v.2.2.2.2.2.1,v.2.2.2.2.2.2,()),())) fun r1=>(Dt.ret r1))
theorem q2pv C v:q40c (regO (qct f43) 8) false [(4,.any)] q2pp q2pu q2pj C v:=rgI (by kernel_rfl)
def q2pw (d:Nat) (x:q2ot):Option q2ou :=
 (q2p4 (q2oy d) (x.1.1,x.1.2.1,x.2.1.1,x.2.1.2.1)).eval fun y0 =>
 (q2p8 (q2oy d) y0).eval fun y1 =>
 (q2pc (q2oy d) y1).eval fun y2 =>
 bif y2.1 then ((q2pg (q2oy d) y2).eval fun y3 =>
 bif y3 then ((q2pk (q2oy d) y3).eval fun y4 =>
 some y4) else ((q2pm (q2oy d) y3).eval fun y5 =>
 some y5)) else ((q2pq (q2oy d) y2).eval fun y6 =>
 bif y6.1 then ((q2ps (q2oy d) y6).eval fun y7 =>
 some y7) else ((q2pu (q2oy d) y6).eval fun y8 =>
 some y8))
theorem q2px (d:Nat):COK prog (q2ow (q2pw d)):=by
 have hm:prog.follows .mixedOrders=true:=mixed
 have hT:=tys
 have hC0:OrcOK prog (orc (q2oz (q2oy d))):=qcn (by
  intro S hS
  simp only [q2oz,List.mem_cons,List.not_mem_nil,or_false] at hS
  rcases hS with rfl | rfl | rfl
  · exact qmo d
  · exact q2or d
  · exact q1ua d)
 have hC:OrcOK prog (orc (q2oz (q2oy d))):=hC0
 refine q8c (c:=qct f43) (fn:=f43) hT (by kernel_rfl) (by kernel_rfl) (by decide) fun x r h w0 φ0 Q hend=>?_
 replace h:q2pw d x=some r:=h
 unfold q2pw at h
 show Run prog w0 φ0 36 (qct f43) ⟨[(0,.agg [.int .i64 x.1.1,.int .i64 x.1.2.1]),(1,.agg [.int .i64 x.2.1.1,.int .i64 x.2.1.2.1])],[]⟩ Q
 refine q3yo hm hT hC (q2p5 (q2oy d) (x.1.1,x.1.2.1,x.2.1.1,x.2.1.2.1)) h fun y0 h=>?_
 refine q3yo hm hT hC (q2p9 (q2oy d) y0) h fun y1 h=>?_
 refine q7w ?_
 refine q3yo hm hT hC (q2pd (q2oy d) y1) h fun y2 h=>?_
 refine q80 (v:=y2.1) (by kernel_rfl) h ?_ ?_
 ·
  intro h
  refine q7w ?_
  refine q3yo hm hT hC (q2ph (q2oy d) y2) h fun y3 h=>?_
  refine q80 (v:=y3) (by kernel_rfl) h ?_ ?_
  ·
   intro h
   refine q3yo hm hT hC (q2pl (q2oy d) y3) h fun y4 h=>?_
   refine q7v (q7k (q7k ?_))
   cases h
   exact (hend _ (by kernel_rfl)).2
  ·
   intro h
   refine q7s (q7i ?_)
   refine q3yo hm hT hC (q2pn (q2oy d) y3) h fun y5 h=>?_
   refine q7v (q7k ?_)
   cases h
   exact (hend _ (by kernel_rfl)).2
 ·
  intro h
  refine q7s (q7i (q7w ?_))
  refine q3yo hm hT hC (q2pr (q2oy d) y2) h fun y6 h=>?_
  refine q80 (v:=y6.1) (by kernel_rfl) h ?_ ?_
  ·
   intro h
   refine q3yo hm hT hC (q2pt (q2oy d) y6) h fun y7 h=>?_
   refine q7v (q7k ?_)
   cases h
   exact (hend _ (by kernel_rfl)).2
  ·
   intro h
   refine q7s (q7i ?_)
   refine q3yo hm hT hC (q2pv (q2oy d) y6) h fun y8 h=>?_
   refine q7v ?_
   cases h
   exact (hend _ (by kernel_rfl)).2
abbrev q2py:List Pk:=[.row qj5 true,.row Rii true,.row Rii true]
abbrev q2pz:Type:=qj6×Dii×Dii×Unit
abbrev q2q0:Type:=Int
def q2q1 (r:q2q0):LV×List Ob:=(.int .i64 r,[])
def q2q2 (F:q2pz→Option q2q0):Go.Tx.Spec:=⟨11,q2py,q2q0,F,q2q1⟩
abbrev q2q3:Type:=(q2ot→Option q2ou)×(qph→Option qpi)×(q1rp→Option q1rq)×Unit
def q2q4 (d:Nat):q2q3:=(q2pw d,qpm d,q1sc d,())
def q2q5 (C:q2q3):List Go.Tx.Spec:=[q2ow C.1,qpk C.2.1,q1rs C.2.2.1]
abbrev q2q6:Type:=List Diii×Int×Int×Int×Int
def q2q7 (v:q2q6):St:=⟨[(0,.agg [.fz Riii v.1]),(1,.agg [i6 v.2.1,i6 v.2.2.1]),(2,.agg [i6 v.2.2.2.1,i6 v.2.2.2.2])],[]⟩
abbrev q2q8:Type:=List Diii×Int×Int×Int×Int
def q2q9 (v:q2q8):St:=⟨[(3,.ptr 0 0),(4,.ptr 1 0),(5,.ptr 2 0)],[.cells [.fz Riii v.1],.cells [i6 v.2.1,i6 v.2.2.1],.cells [i6 v.2.2.2.1,i6 v.2.2.2.2]]⟩
def q2qa (C:q2q3) (v:q2q6):Dt q2q8:=(Dt.ret (v.1,v.2.1,v.2.2.1,v.2.2.2.1,v.2.2.2.2))
abbrev q40d {V Y:Type}:=@rg q2q3 V Y tysT (fun C=>(orc (q2q5 C))) 24
theorem q2qb C v:q40d (regO (qct f11) 0) false [(3,(.box [.val Riii])),(4,.any),(5,.any)] q2q7 q2qa q2q9 C v:=rgI (by kernel_rfl)
abbrev q2qc:Type:=Int×Int×Int×Int×Int
def q2qd (v:q2qc):St:=⟨[(4,.ptr 0 0),(5,.ptr 1 0),(7,i6 v.1)],[.cells [i6 v.2.1,i6 v.2.2.1],.cells [i6 v.2.2.2.1,i6 v.2.2.2.2]]⟩
def q2qe (C:q2q3) (v:q2q8):Dt q2qc:=(Dt.bnd (C.2.1 ((v.1,()),())) fun r1=>(Dt.ret (r1,v.2.1,v.2.2.1,v.2.2.2.1,v.2.2.2.2)))
theorem q2qf C v:q40d (regO (qct f11) 1) false (an [4,5,7]) q2q9 q2qe q2qd C v:=rgI (by kernel_rfl)
abbrev q2qg:Type:=Int×Bool×Int×Int×Int×Int
def q2qh (v:q2qg):St:=⟨[(4,.ptr 0 0),(5,.ptr 1 0),(7,i6 v.1),(12,.bool v.2.1)],[.cells [i6 v.2.2.1,i6 v.2.2.2.1],.cells [i6 v.2.2.2.2.1,i6 v.2.2.2.2.2]]⟩
def q2qi (C:q2q3) (v:q2qc):Dt q2qg:=(Dt.ret (v.1,(v.1 != (0:Int)),v.2.1,v.2.2.1,v.2.2.2.1,v.2.2.2.2))
theorem q2qj C v:q40d (regO (qct f11) 2) false (an [4,5,7,12]) q2qd q2qi q2qh C v:=rgI (by kernel_rfl)
abbrev q2qk:Type:=Int
def q2ql (v:q2qk):St:=⟨[(6,i6 v)],[]⟩
def q2qm (C:q2q3) (v:q2qg):Dt q2qk:=(Dt.ret v.1)
theorem q2qn C v:q40d (regO (qct f11) 3) false [(6,.any)] q2qh q2qm q2ql C v:=rgI (by kernel_rfl)
abbrev q2qo:Type:=Int×Int×Int×Int×Int
def q2qp (v:q2qo):St:=⟨[(4,.ptr 0 0),(5,.ptr 1 0),(8,i6 v.1)],[.cells [i6 v.2.1,i6 v.2.2.1],.cells [i6 v.2.2.2.1,i6 v.2.2.2.2]]⟩
def q2qq (C:q2q3) (v:q2qg):Dt q2qo:=(Dt.bnd (C.2.2.1 ((v.2.2.1,v.2.2.2.1,()),(v.2.2.2.2.1,v.2.2.2.2.2,()),())) fun r1=>(Dt.ret (r1,v.2.2.1,v.2.2.2.1,v.2.2.2.2.1,v.2.2.2.2.2)))
theorem q2qr C v:q40d (regO (qct f11) 4) false (an [4,5,8]) q2qh q2qq q2qp C v:=rgI (by kernel_rfl)
abbrev q2qs:Type:=Int×Bool×Int×Int×Int×Int
def q2qt (v:q2qs):St:=⟨[(4,.ptr 0 0),(5,.ptr 1 0),(8,i6 v.1),(18,.bool v.2.1)],[.cells [i6 v.2.2.1,i6 v.2.2.2.1],.cells [i6 v.2.2.2.2.1,i6 v.2.2.2.2.2]]⟩
def q2qu (C:q2q3) (v:q2qo):Dt q2qs:=(Dt.ret (v.1,(v.1 != (0:Int)),v.2.1,v.2.2.1,v.2.2.2.1,v.2.2.2.2))
theorem q2qv C v:q40d (regO (qct f11) 5) false (an [4,5,8,18]) q2qp q2qu q2qt C v:=rgI (by kernel_rfl)
def q2qw (C:q2q3) (v:q2qs):Dt q2qk:=(Dt.ret v.1)
theorem q2qx C v:q40d (regO (qct f11) 6) false [(6,.any)] q2qt q2qw q2ql C v:=rgI (by kernel_rfl)
abbrev q2qy:Type:=Bool
def q2qz (v:q2qy):St:=⟨[(23,.bool v)],[]⟩
def q2r0 (C:q2q3) (v:q2qs):Dt q2qy:=(Dt.bnd (C.1 ((v.2.2.1,v.2.2.2.1,()),(v.2.2.2.2.1,v.2.2.2.2.2,()),())) fun r1=>(Dt.ret (decide (r1 > (0:Int)))))
theorem q2r1 C v:q40d (regO (qct f11) 7) false [(23,.any)] q2qt q2r0 q2qz C v:=rgI (by kernel_rfl)
def q2r2 (C:q2q3) (v:q2qy):Dt q2qk:=(Dt.ret (2:Int))
theorem q2r3 C v:q40d (regO (qct f11) 8) false [(6,.any)] q2qz q2r2 q2ql C v:=rgI (by kernel_rfl)
def q2r4 (C:q2q3) (v:q2qy):Dt q2qk:=(Dt.ret (0:Int))
theorem q2r5 C v:q40d (regO (qct f11) 9) false [(6,.any)] q2qz q2r4 q2ql C v:=rgI (by kernel_rfl)
def q2r6 (d:Nat) (x:q2pz):Option q2q0 :=
 (q2qa (q2q4 d) (x.1.1,x.2.1.1,x.2.1.2.1,x.2.2.1.1,x.2.2.1.2.1)).eval fun y0 =>
 (q2qe (q2q4 d) y0).eval fun y1 =>
 (q2qi (q2q4 d) y1).eval fun y2 =>
 bif y2.2.1 then ((q2qm (q2q4 d) y2).eval fun y3 =>
 some y3) else ((q2qq (q2q4 d) y2).eval fun y4 =>
 (q2qu (q2q4 d) y4).eval fun y5 =>
 bif y5.2.1 then ((q2qw (q2q4 d) y5).eval fun y6 =>
 some y6) else ((q2r0 (q2q4 d) y5).eval fun y7 =>
 bif y7 then ((q2r2 (q2q4 d) y7).eval fun y8 =>
 some y8) else ((q2r4 (q2q4 d) y7).eval fun y9 =>
 some y9)))
theorem q2r7 (d:Nat):COK prog (q2q2 (q2r6 d)):=by
 have hm:prog.follows .mixedOrders=true:=mixed
 have hT:=tys
 have hC0:OrcOK prog (orc (q2q5 (q2q4 d))):=qcn (by
  intro S hS
  simp only [q2q5,List.mem_cons,List.not_mem_nil,or_false] at hS
  rcases hS with rfl | rfl | rfl
  · exact q2px d
  · exact qpo d
  · exact q1sd d)
 have hC:OrcOK prog (orc (q2q5 (q2q4 d))):=hC0
 refine q8c (c:=qct f11) (fn:=f11) hT (by kernel_rfl) (by kernel_rfl) (by decide) fun x r h w0 φ0 Q hend=>?_
 replace h:q2r6 d x=some r:=h
 unfold q2r6 at h
 show Run prog w0 φ0 24 (qct f11) ⟨[(0,.agg [.fz Riii x.1.1]),(1,.agg [.int .i64 x.2.1.1,.int .i64 x.2.1.2.1]),(2,.agg [.int .i64 x.2.2.1.1,.int .i64 x.2.2.1.2.1])],[]⟩ Q
 refine q3yo hm hT hC (q2qb (q2q4 d) (x.1.1,x.2.1.1,x.2.1.2.1,x.2.2.1.1,x.2.2.1.2.1)) h fun y0 h=>?_
 refine q7w ?_
 refine q3yo hm hT hC (q2qf (q2q4 d) y0) h fun y1 h=>?_
 refine q3yo hm hT hC (q2qj (q2q4 d) y1) h fun y2 h=>?_
 refine q80 (v:=y2.2.1) (by kernel_rfl) h ?_ ?_
 ·
  intro h
  refine q3yo hm hT hC (q2qn (q2q4 d) y2) h fun y3 h=>?_
  refine q7v (q7k ?_)
  cases h
  exact (hend _ (by kernel_rfl)).2
 ·
  intro h
  refine q7s (q7i (q7w ?_))
  refine q3yo hm hT hC (q2qr (q2q4 d) y2) h fun y4 h=>?_
  refine q3yo hm hT hC (q2qv (q2q4 d) y4) h fun y5 h=>?_
  refine q80 (v:=y5.2.1) (by kernel_rfl) h ?_ ?_
  ·
   intro h
   refine q3yo hm hT hC (q2qx (q2q4 d) y5) h fun y6 h=>?_
   refine q7v (q7k ?_)
   cases h
   exact (hend _ (by kernel_rfl)).2
  ·
   intro h
   refine q7s (q7i (q7w ?_))
   refine q3yo hm hT hC (q2r1 (q2q4 d) y5) h fun y7 h=>?_
   refine q80 (v:=y7) (by kernel_rfl) h ?_ ?_
   ·
    intro h
    refine q3yo hm hT hC (q2r3 (q2q4 d) y7) h fun y8 h=>?_
    refine q7v (q7k ?_)
    cases h
    exact (hend _ (by kernel_rfl)).2
   ·
    intro h
    refine q7s (q7i ?_)
    refine q3yo hm hT hC (q2r5 (q2q4 d) y7) h fun y9 h=>?_
    refine q7v ?_
    cases h
    exact (hend _ (by kernel_rfl)).2
abbrev q2r8:List Pk:=[.row Riii true,.row Riii true]
abbrev q2r9:Type:=Diii×Diii×Unit
abbrev q2ra:Type:=Int×Int
def q2rb (r:q2ra):LV×List Ob:=(.agg [.int .i64 r.1,.int .i64 r.2],[])
def q2rc (F:q2r9→Option q2ra):Go.Tx.Spec:=⟨157,q2r8,q2ra,F,q2rb⟩
abbrev q2rd:Type:=(qnh→Option qni)×Unit
def q2re (d:Nat):q2rd:=(qnm d,())
def q2rf (C:q2rd):List Go.Tx.Spec:=[qnk C.1]
abbrev q2rg:Type:=Int×Int×Int×Int×Int×Int
def q2rh (v:q2rg):St:=⟨[(0,.agg [i6 v.1,i6 v.2.1,i6 v.2.2.1]),(1,.agg [i6 v.2.2.2.1,i6 v.2.2.2.2.1,i6 v.2.2.2.2.2])],[]⟩
abbrev q2ri:Type:=Int×Int×Int×Int×Int×Int×Int×Int
def q2rj (v:q2ri):St:=⟨[(2,.ptr 0 0),(3,.ptr 1 0),(4,.ptr 2 0)],[.cells [i6 v.1,i6 v.2.1,i6 v.2.2.1],.cells [i6 v.2.2.2.1,i6 v.2.2.2.2.1,i6 v.2.2.2.2.2.1],.cells [i6 v.2.2.2.2.2.2.1,i6 v.2.2.2.2.2.2.2]]⟩
def q2rk (C:q2rd) (v:q2rg):Dt q2ri:=(Dt.ret (v.1,v.2.1,v.2.2.1,v.2.2.2.1,v.2.2.2.2.1,v.2.2.2.2.2,(0:Int),(0:Int)))
abbrev q40e {V Y:Type}:=@rg q2rd V Y tysT (fun C=>(orc (q2rf C))) 22
theorem q2rl C v:q40e (regO (qct f157) 0) false (an [2,3,4]) q2rh q2rk q2rj C v:=rgI (by kernel_rfl)
abbrev q2rm:Type:=Int×Int×Int×Int
def q2rn (v:q2rm):St:=⟨[(4,.ptr 0 0),(5,.ptr 1 0)],[.cells [i6 v.1,i6 v.2.1],.cells [i6 v.2.2.1,i6 v.2.2.2]]⟩
def q2ro (C:q2rd) (v:q2ri):Dt q2rm:=(Dt.bnd (C.1 (((IntKind.wrap .i64 (v.2.1 - v.2.2.2.2.1)),()),((IntKind.wrap .i64 (v.2.2.2.2.2.1 - v.2.2.1)),()),())) fun r1=>(Dt.ret (v.2.2.2.2.2.2.1,v.2.2.2.2.2.2.2,r1.1,r1.2.1)))
theorem q2rp C v:q40e (regO (qct f157) 1) false (an [4,5]) q2rj q2ro q2rn C v:=rgI (by kernel_rfl)
abbrev q2rq:Type:=Int×Int
def q2rr (v:q2rq):St:=⟨[(4,.ptr 0 0)],[.cells [i6 v.1,i6 v.2]]⟩
def q2rs (C:q2rd) (v:q2rm):Dt q2rq:=(Dt.ret (v.2.2.1,v.2.2.2))
theorem q2rt C v:q40e (regO (qct f157) 2) false [(4,.any)] q2rn q2rs q2rr C v:=rgI (by kernel_rfl)
def q2ru (d:Nat) (x:q2r9):Option q2ra :=
 (q2rk (q2re d) (x.1.1,x.1.2.1,x.1.2.2.1,x.2.1.1,x.2.1.2.1,x.2.1.2.2.1)).eval fun y0 =>
 (q2ro (q2re d) y0).eval fun y1 =>
 (q2rs (q2re d) y1).eval fun y2 =>
 some y2
theorem q2rv (d:Nat):COK prog (q2rc (q2ru d)):=by
 have hm:prog.follows .mixedOrders=true:=mixed
 have hT:=tys
 have hC0:OrcOK prog (orc (q2rf (q2re d))):=qcn (by
  intro S hS
  simp only [q2rf,List.mem_cons,List.not_mem_nil,or_false] at hS
  subst hS;exact qno d)
 have hC:OrcOK prog (orc (q2rf (q2re d))):=hC0
 refine q8c (c:=qct f157) (fn:=f157) hT (by kernel_rfl) (by kernel_rfl) (by decide) fun x r h w0 φ0 Q hend=>?_
 replace h:q2ru d x=some r:=h
 unfold q2ru at h
 show Run prog w0 φ0 22 (qct f157) ⟨[(0,.agg [.int .i64 x.1.1,.int .i64 x.1.2.1,.int .i64 x.1.2.2.1]),(1,.agg [.int .i64 x.2.1.1,.int .i64 x.2.1.2.1,.int .i64 x.2.1.2.2.1])],[]⟩ Q
 refine q3yo hm hT hC (q2rl (q2re d) (x.1.1,x.1.2.1,x.1.2.2.1,x.2.1.1,x.2.1.2.1,x.2.1.2.2.1)) h fun y0 h=>?_
 refine q3yo hm hT hC (q2rp (q2re d) y0) h fun y1 h=>?_
 refine q3yo hm hT hC (q2rt (q2re d) y1) h fun y2 h=>?_
 refine q7v ?_
 cases h
 exact (hend _ (by kernel_rfl)).2
abbrev q2rw:List Pk:=[.row qj8 true,.row qj8 true]
abbrev q2rx:Type:=qj9×qj9×Unit
abbrev q2ry:Type:=Bool
def q2rz (r:q2ry):LV×List Ob:=(.bool r,[])
def q2s0 (F:q2rx→Option q2ry):Go.Tx.Spec:=⟨183,q2rw,q2ry,F,q2rz⟩
abbrev q2s1:Type:=(q2ot→Option q2ou)×Unit
def q2s2 (d:Nat):q2s1:=(q2pw d,())
def q2s3 (C:q2s1):List Go.Tx.Spec:=[q2ow C.1]
abbrev q2s4:Type:=Int×Int×Int×Int×Int×Int×Int×Int
def q2s5 (v:q2s4):St:=⟨[(0,.agg [i6 v.1,i6 v.2.1,i6 v.2.2.1,i6 v.2.2.2.1]),(1,.agg [i6 v.2.2.2.2.1,i6 v.2.2.2.2.2.1,i6 v.2.2.2.2.2.2.1,i6 v.2.2.2.2.2.2.2])],[]⟩
abbrev q2s6:Type:=Int×Int×Int×Int×Int×Int×Int×Int
def q2s7 (v:q2s6):St:=⟨[(2,.ptr 0 0),(3,.ptr 1 0)],[.cells [i6 v.1,i6 v.2.1,i6 v.2.2.1,i6 v.2.2.2.1],.cells [i6 v.2.2.2.2.1,i6 v.2.2.2.2.2.1,i6 v.2.2.2.2.2.2.1,i6 v.2.2.2.2.2.2.2]]⟩
def q2s8 (C:q2s1) (v:q2s4):Dt q2s6:=(Dt.ret (v.1,v.2.1,v.2.2.1,v.2.2.2.1,v.2.2.2.2.1,v.2.2.2.2.2.1,v.2.2.2.2.2.2.1,v.2.2.2.2.2.2.2))
abbrev q40f {V Y:Type}:=@rg q2s1 V Y tysT (fun C=>(orc (q2s3 C))) 30
theorem q2s9 C v:q40f (regO (qct f183) 0) false (an [2,3]) q2s5 q2s8 q2s7 C v:=rgI (by kernel_rfl)
abbrev q2sa:Type:=Int×Int×Int×Int×Int×Int×Int×Int×Int
def q2sb (v:q2sa):St:=⟨[(2,.ptr 0 0),(3,.ptr 1 0),(5,i6 v.1)],[.cells [i6 v.2.1,i6 v.2.2.1,i6 v.2.2.2.1,i6 v.2.2.2.2.1],.cells [i6 v.2.2.2.2.2.1,i6 v.2.2.2.2.2.2.1,i6 v.2.2.2.2.2.2.2.1,i6 v.2.2.2.2.2.2.2.2]]⟩
def q2sc (C:q2s1) (v:q2s6):Dt q2sa:=(Dt.bnd (C.1 ((v.1,v.2.1,()),(v.2.2.2.2.1,v.2.2.2.2.2.1,()),())) fun r1=>(Dt.ret (r1,v.1,v.2.1,v.2.2.1,v.2.2.2.1,v.2.2.2.2.1,v.2.2.2.2.2.1,v.2.2.2.2.2.2.1,v.2.2.2.2.2.2.2)))
theorem q2sd C v:q40f (regO (qct f183) 1) false (an [2,3,5]) q2s7 q2sc q2sb C v:=rgI (by kernel_rfl)
abbrev q2se:Type:=Int×Bool×Int×Int×Int×Int×Int×Int×Int×Int
def q2sf (v:q2se):St:=⟨[(2,.ptr 0 0),(3,.ptr 1 0),(5,i6 v.1),(12,.bool v.2.1)],[.cells [i6 v.2.2.1,i6 v.2.2.2.1,i6 v.2.2.2.2.1,i6 v.2.2.2.2.2.1],.cells [i6 v.2.2.2.2.2.2.1,i6 v.2.2.2.2.2.2.2.1,i6 v.2.2.2.2.2.2.2.2.1,i6 v.2.2.2.2.2.2.2.2.2]]⟩
def q2sg (C:q2s1) (v:q2sa):Dt q2se:=(Dt.ret (v.1,(v.1 != (0:Int)),v.2.1,v.2.2.1,v.2.2.2.1,v.2.2.2.2.1,v.2.2.2.2.2.1,v.2.2.2.2.2.2.1,v.2.2.2.2.2.2.2.1,v.2.2.2.2.2.2.2.2))
theorem q2sh C v:q40f (regO (qct f183) 2) false (an [2,3,5,12]) q2sb q2sg q2sf C v:=rgI (by kernel_rfl)
abbrev q2si:Type:=Bool
def q2sj (v:q2si):St:=⟨[(4,.bool v)],[]⟩
def q2sk (C:q2s1) (v:q2se):Dt q2si:=(Dt.ret (decide (v.1<(0:Int))))
theorem q2sl C v:q40f (regO (qct f183) 3) false [(4,.any)] q2sf q2sk q2sj C v:=rgI (by kernel_rfl)
abbrev q2sm:Type:=Bool×Int×Int×Int×Int×Int×Int×Int×Int
def q2sn (v:q2sm):St:=⟨[(2,.ptr 0 0),(3,.ptr 1 0),(19,.bool v.1)],[.cells [i6 v.2.1,i6 v.2.2.1,i6 v.2.2.2.1,i6 v.2.2.2.2.1],.cells [i6 v.2.2.2.2.2.1,i6 v.2.2.2.2.2.2.1,i6 v.2.2.2.2.2.2.2.1,i6 v.2.2.2.2.2.2.2.2]]⟩
def q2so (C:q2s1) (v:q2se):Dt q2sm:=(Dt.ret ((v.2.2.2.2.1 != v.2.2.2.2.2.2.2.2.1),v.2.2.1,v.2.2.2.1,v.2.2.2.2.1,v.2.2.2.2.2.1,v.2.2.2.2.2.2.1,v.2.2.2.2.2.2.2.1,v.2.2.2.2.2.2.2.2.1,v.2.2.2.2.2.2.2.2.2))
theorem q2sp C v:q40f (regO (qct f183) 4) false (an [2,3,19]) q2sf q2so q2sn C v:=rgI (by kernel_rfl)
def q2sq (C:q2s1) (v:q2sm):Dt q2si:=(Dt.ret (decide (v.2.2.2.1<v.2.2.2.2.2.2.2.1)))
theorem q2sr C v:q40f (regO (qct f183) 5) false [(4,.any)] q2sn q2sq q2sj C v:=rgI (by kernel_rfl)
def q2ss (C:q2s1) (v:q2sm):Dt q2si:=(Dt.ret (decide (v.2.2.2.2.1<v.2.2.2.2.2.2.2.2)))
theorem q2st C v:q40f (regO (qct f183) 6) false [(4,.any)] q2sn q2ss q2sj C v:=rgI (by kernel_rfl)
def q2su (d:Nat) (x:q2rx):Option q2ry :=
 (q2s8 (q2s2 d) (x.1.1,x.1.2.1,x.1.2.2.1,x.1.2.2.2.1,x.2.1.1,x.2.1.2.1,x.2.1.2.2.1,x.2.1.2.2.2.1)).eval fun y0 =>
 (q2sc (q2s2 d) y0).eval fun y1 =>
 (q2sg (q2s2 d) y1).eval fun y2 =>
 bif y2.2.1 then ((q2sk (q2s2 d) y2).eval fun y3 =>
 some y3) else ((q2so (q2s2 d) y2).eval fun y4 =>
 bif y4.1 then ((q2sq (q2s2 d) y4).eval fun y5 =>
 some y5) else ((q2ss (q2s2 d) y4).eval fun y6 =>
 some y6))
theorem q2sv (d:Nat):COK prog (q2s0 (q2su d)):=by
 have hm:prog.follows .mixedOrders=true:=mixed
 have hT:=tys
 have hC0:OrcOK prog (orc (q2s3 (q2s2 d))):=qcn (by
  intro S hS
  simp only [q2s3,List.mem_cons,List.not_mem_nil,or_false] at hS
  subst hS;exact q2px d)
 have hC:OrcOK prog (orc (q2s3 (q2s2 d))):=hC0
 refine q8c (c:=qct f183) (fn:=f183) hT (by kernel_rfl) (by kernel_rfl) (by decide) fun x r h w0 φ0 Q hend=>?_
 replace h:q2su d x=some r:=h
 unfold q2su at h
 show Run prog w0 φ0 30 (qct f183) ⟨[(0,.agg [.int .i64 x.1.1,.int .i64 x.1.2.1,.int .i64 x.1.2.2.1,.int .i64 x.1.2.2.2.1]),(1,.agg [.int .i64 x.2.1.1,.int .i64 x.2.1.2.1,.int .i64 x.2.1.2.2.1,.int .i64 x.2.1.2.2.2.1])],[]⟩ Q
 refine q3yo hm hT hC (q2s9 (q2s2 d) (x.1.1,x.1.2.1,x.1.2.2.1,x.1.2.2.2.1,x.2.1.1,x.2.1.2.1,x.2.1.2.2.1,x.2.1.2.2.2.1)) h fun y0 h=>?_
 refine q7w ?_
 refine q3yo hm hT hC (q2sd (q2s2 d) y0) h fun y1 h=>?_
 refine q3yo hm hT hC (q2sh (q2s2 d) y1) h fun y2 h=>?_
 refine q80 (v:=y2.2.1) (by kernel_rfl) h ?_ ?_
 ·
  intro h
  refine q3yo hm hT hC (q2sl (q2s2 d) y2) h fun y3 h=>?_
  refine q7v (q7k ?_)
  cases h
  exact (hend _ (by kernel_rfl)).2
 ·
  intro h
  refine q7s (q7i (q7w ?_))
  refine q3yo hm hT hC (q2sp (q2s2 d) y2) h fun y4 h=>?_
  refine q80 (v:=y4.1) (by kernel_rfl) h ?_ ?_
  ·
   intro h
   refine q3yo hm hT hC (q2sr (q2s2 d) y4) h fun y5 h=>?_
   refine q7v (q7k ?_)
   cases h
   exact (hend _ (by kernel_rfl)).2
  ·
   intro h
   refine q7s (q7i ?_)
   refine q3yo hm hT hC (q2st (q2s2 d) y4) h fun y6 h=>?_
   refine q7v ?_
   cases h
   exact (hend _ (by kernel_rfl)).2
abbrev q2sw:List Pk:=[.row qj5 true]
abbrev q2sx:Type:=qj6×Unit
abbrev q2sy:Type:=List qj9
def q2sz (r:q2sy):LV×List Ob:=(.rs 0,[.rows qj8 r])
def q2t0 (F:q2sx→Option q2sy):Go.Tx.Spec:=⟨159,q2sw,q2sy,F,q2sz⟩
abbrev q2t1:Type:=(q2r9→Option q2ra)×(q2rx→Option q2ry)×Unit
def q2t2 (d:Nat):q2t1:=(q2ru d,q2su d,())
def q2t3 (C:q2t1):List Go.Tx.Spec:=[q2rc C.1,q2s0 C.2.1]
abbrev q2t4:Type:=List Diii
def q2t5 (v:q2t4):St:=⟨[(0,.agg [.fz Riii v])],[]⟩
abbrev q2t6:Type:=List Diii
def q2t7 (v:q2t6):St:=⟨[(1,.ptr 0 0)],[.cells [.fz Riii v]]⟩
def q2t8 (C:q2t1) (v:q2t4):Dt q2t6:=(Dt.ret v)
abbrev q40g {V Y:Type}:=@rg q2t1 V Y tysT (fun C=>(orc (q2t3 C))) 92
theorem q2t9 C v:q40g (regO (qct f159) 0) false [(1,(.box [.val Riii]))] q2t5 q2t8 q2t7 C v:=rgI (by kernel_rfl)
abbrev q2ta:Type:=List Diii×List qj9
def q2tb (v:q2ta):St:=⟨[(1,.ptr 0 0),(3,.rs 1)],[.cells [.fz Riii v.1],.rows qj8 v.2]⟩
def q2tc (C:q2t1) (v:q2t6):Dt q2ta:=(Dt.ret (v,([]:List qj9)))
theorem q2td C v:q40g (regO (qct f159) 1) false [(1,(.box [.val Riii])),(3,(.own qj8))] q2t7 q2tc q2tb C v:=rgI (by kernel_rfl)
abbrev q2te:Type:=Int×List Diii×List qj9
def q2tf (v:q2te):St:=⟨[(1,.ptr 0 0),(3,.rs 1),(4,i6 v.1)],[.cells [.fz Riii v.2.1],.rows qj8 v.2.2]⟩
def q2tg (C:q2t1) (v:q2ta):Dt q2te:=(Dt.ret ((0:Int),v.1,v.2))
theorem q2th C v:q40g (regO (qct f159) 2) false [(1,(.box [.val Riii])),(3,(.own qj8)),(4,.any)] q2tb q2tg q2tf C v:=rgI (by kernel_rfl)
abbrev q2ti:Type:=Int×Bool×List Diii×List qj9
def q2tj (v:q2ti):St:=⟨[(1,.ptr 0 0),(3,.rs 1),(4,i6 v.1),(14,.bool v.2.1)],[.cells [.fz Riii v.2.2.1],.rows qj8 v.2.2.2]⟩
def q2tk (C:q2t1) (v:q2te):Dt q2ti:=(Dt.ret (v.1,(decide (v.1<(List.length v.2.1:Int))),v.2.1,v.2.2))
theorem q2tl C v:q40g (regO (qct f159) 3) false [(1,(.box [.val Riii])),(3,(.own qj8)),(4,.any),(14,.any)] q2tf q2tk q2tj C v:=rgI (by kernel_rfl)
abbrev q2tm:Type:=Int×Int×List Diii×List qj9
def q2tn (v:q2tm):St:=⟨[(1,.ptr 0 0),(3,.rs 1),(4,i6 v.1),(5,i6 v.2.1)],[.cells [.fz Riii v.2.2.1],.rows qj8 v.2.2.2]⟩
def q2to (C:q2t1) (v:q2ti):Dt q2tm:=(Dt.ret (v.1,(IntKind.wrap .i64 (v.1+(1:Int))),v.2.2.1,v.2.2.2))
theorem q2tp C v:q40g (regO (qct f159) 5) false [(1,(.box [.val Riii])),(3,(.own qj8)),(4,.any),(5,.any)] q2tj q2to q2tn C v:=rgI (by kernel_rfl)
abbrev q2tq:Type:=Int×Int×Bool×List Diii×List qj9
def q2tr (v:q2tq):St:=⟨[(1,.ptr 0 0),(3,.rs 1),(4,i6 v.1),(5,i6 v.2.1),(23,.bool v.2.2.1)],[.cells [.fz Riii v.2.2.2.1],.rows qj8 v.2.2.2.2]⟩
def q2ts (C:q2t1) (v:q2tm):Dt q2tq:=(Dt.ret (v.1,v.2.1,(decide (v.2.1<(List.length v.2.2.1:Int))),v.2.2.1,v.2.2.2))
theorem q2tt C v:q40g (regO (qct f159) 6) false [(1,(.box [.val Riii])),(3,(.own qj8)),(4,.any),(5,.any),(23,.any)] q2tn q2ts q2tr C v:=rgI (by kernel_rfl)
abbrev q2tu:Type:=Int×Int×List Diii×List qj9×Int×Int×Int×Int×Int×Int
def q2tv (v:q2tu):St:=⟨[(1,.ptr 0 0),(3,.rs 1),(4,i6 v.1),(5,i6 v.2.1),(6,.ptr 2 0),(7,.ptr 3 0)],[.cells [.fz Riii v.2.2.1],.rows qj8 v.2.2.2.1,.cells [i6 v.2.2.2.2.1,i6 v.2.2.2.2.2.1,i6 v.2.2.2.2.2.2.1],.cells [i6 v.2.2.2.2.2.2.2.1,i6 v.2.2.2.2.2.2.2.2.1,i6 v.2.2.2.2.2.2.2.2.2]]⟩
def q2tw (C:q2t1) (v:q2tq):Dt q2tu:=(Dt.ite (inB v.1 (List.length v.2.2.2.1)) (Dt.ite (inB v.2.1 (List.length v.2.2.2.1)) (Dt.ret (v.1,v.2.1,v.2.2.2.1,v.2.2.2.2,(elt ziii v.2.2.2.1 (v.1).toNat).1,(elt ziii v.2.2.2.1 (v.1).toNat).2.1,(elt ziii v.2.2.2.1 (v.1).toNat).2.2.1,(elt ziii v.2.2.2.1 (v.2.1).toNat).1,(elt ziii v.2.2.2.1 (v.2.1).toNat).2.1,(elt ziii v.2.2.2.1 (v.2.1).toNat).2.2.1)) Dt.fail) Dt.fail)
theorem q2tx C v:q40g (regO (qct f159) 8) true [(1,(.box [.val Riii])),(3,(.own qj8)),(4,.any),(5,.any),(6,.any),(7,.any)] q2tr q2tw q2tv C v:=rgI (by kernel_rfl)
abbrev q2ty:Type:=Int×Int×Bool×List Diii×List qj9×Int×Int×Int×Int×Int×Int
def q2tz (v:q2ty):St:=⟨[(1,.ptr 0 0),(3,.rs 1),(4,i6 v.1),(5,i6 v.2.1),(6,.ptr 2 0),(7,.ptr 3 0),(40,.bool v.2.2.1)],[.cells [.fz Riii v.2.2.2.1],.rows qj8 v.2.2.2.2.1,.cells [i6 v.2.2.2.2.2.1,i6 v.2.2.2.2.2.2.1,i6 v.2.2.2.2.2.2.2.1],.cells [i6 v.2.2.2.2.2.2.2.2.1,i6 v.2.2.2.2.2.2.2.2.2.1,i6 v.2.2.2.2.2.2.2.2.2.2]]⟩
def q2u0 (C:q2t1) (v:q2tu):Dt q2ty:=(Dt.ret (v.1,v.2.1,(v.2.2.2.2.2.2.1 != v.2.2.2.2.2.2.2.2.2),v.2.2.1,v.2.2.2.1,v.2.2.2.2.1,v.2.2.2.2.2.1,v.2.2.2.2.2.2.1,v.2.2.2.2.2.2.2.1,v.2.2.2.2.2.2.2.2.1,v.2.2.2.2.2.2.2.2.2))
theorem q2u1 C v:q40g (regO (qct f159) 9) false [(1,(.box [.val Riii])),(3,(.own qj8)),(4,.any),(5,.any),(6,.any),(7,.any),(40,.any)] q2tv q2u0 q2tz C v:=rgI (by kernel_rfl)
def q2u2 (C:q2t1) (v:q2ty):Dt q2tm:=(Dt.bnd (C.1 ((v.2.2.2.2.2.1,v.2.2.2.2.2.2.1,v.2.2.2.2.2.2.2.1,()),(v.2.2.2.2.2.2.2.2.1,v.2.2.2.2.2.2.2.2.2.1,v.2.2.2.2.2.2.2.2.2.2,()),())) fun r1=>(Dt.ite (apB (List.length v.2.2.2.2.1) (List.length ([(r1.1,r1.2,v.2.2.2.2.2.1,v.2.2.2.2.2.2.2.2.1,())]:List qj9))) (Dt.ret (v.1,v.2.1,v.2.2.2.1,(v.2.2.2.2.1++([(r1.1,r1.2,v.2.2.2.2.2.1,v.2.2.2.2.2.2.2.2.1,())]:List qj9)))) Dt.fail))
theorem q2u3 C v:q40g (regO (qct f159) 10) true [(1,(.box [.val Riii])),(3,(.own qj8)),(4,.any),(5,.any)] q2tz q2u2 q2tn C v:=rgI (by kernel_rfl)
def q2u4 (C:q2t1) (v:q2tm):Dt q2tm:=(Dt.ret (v.1,(IntKind.wrap .i64 (v.2.1+(1:Int))),v.2.2.1,v.2.2.2))
theorem q2u5 C v:q40g (regO (qct f159) 7) false [(1,(.box [.val Riii])),(3,(.own qj8)),(4,.any),(5,.any)] q2tn q2u4 q2tn C v:=rgI (by kernel_rfl)
def q2u6  (d:Nat) (self1:(Int×List Diii×List qj9)→Option q2sy) (self2:(Int×Int×List Diii×List qj9)→Option q2sy) (z:Int×Int×List Diii×List qj9):Option (q2sy) :=
 (q2u4 (q2t2 d) z).eval fun y7 =>
 self2 y7
def q2u7 (C:q2t1) (v:q2tq):Dt q2te:=(Dt.ret ((IntKind.wrap .i64 (v.1+(1:Int))),v.2.2.2.1,v.2.2.2.2))
theorem q2u8 C v:q40g (regO (qct f159) 4) false [(1,(.box [.val Riii])),(3,(.own qj8)),(4,.any)] q2tr q2u7 q2tf C v:=rgI (by kernel_rfl)
def q2u9 (d:Nat) (self1:(Int×List Diii×List qj9)→Option q2sy) (self2:(Int×Int×List Diii×List qj9)→Option q2sy) (x2:Int×Int×List Diii×List qj9):Option q2sy :=
 (q2ts (q2t2 d) x2).eval fun y6 =>
 bif y6.2.2.1 then ((q2tw (q2t2 d) y6).eval fun y8 =>
 (q2u0 (q2t2 d) y8).eval fun y9 =>
 bif y9.2.2.1 then ((q2u2 (q2t2 d) y9).eval fun y10 =>
 q2u6 d self1 self2 y10) else (q2u6 d self1 self2 (y9.1,y9.2.1,y9.2.2.2.1,y9.2.2.2.2.1))) else ((q2u7 (q2t2 d) y6).eval fun y4 =>
 self1 y4)
abbrev q2ua:Type:=Int×List qj9
def q2ub (v:q2ua):St:=⟨[(3,.rs 0),(8,i6 v.1)],[.rows qj8 v.2]⟩
def q2uc (C:q2t1) (v:q2ti):Dt q2ua:=(Dt.ret ((1:Int),v.2.2.2))
theorem q2ud C v:q40g (regO (qct f159) 11) false [(3,(.own qj8)),(8,.any)] q2tj q2uc q2ub C v:=rgI (by kernel_rfl)
abbrev q2ue:Type:=Int×Bool×List qj9
def q2uf (v:q2ue):St:=⟨[(3,.rs 0),(8,i6 v.1),(55,.bool v.2.1)],[.rows qj8 v.2.2]⟩
def q2ug (C:q2t1) (v:q2ua):Dt q2ue:=(Dt.ret (v.1,(decide (v.1<(List.length v.2:Int))),v.2))
theorem q2uh C v:q40g (regO (qct f159) 12) false [(3,(.own qj8)),(8,.any),(55,.any)] q2ub q2ug q2uf C v:=rgI (by kernel_rfl)
abbrev q2ui:Type:=Int×Int×List qj9
def q2uj (v:q2ui):St:=⟨[(3,.rs 0),(8,i6 v.1),(9,i6 v.2.1)],[.rows qj8 v.2.2]⟩
def q2uk (C:q2t1) (v:q2ue):Dt q2ui:=(Dt.ret (v.1,v.1,v.2.2))
theorem q2ul C v:q40g (regO (qct f159) 14) false [(3,(.own qj8)),(8,.any),(9,.any)] q2uf q2uk q2uj C v:=rgI (by kernel_rfl)
abbrev q2um:Type:=Int×Int×Bool×List qj9
def q2un (v:q2um):St:=⟨[(3,.rs 0),(8,i6 v.1),(9,i6 v.2.1),(72,.bool v.2.2.1)],[.rows qj8 v.2.2.2]⟩
def q2uo (C:q2t1) (v:q2ui):Dt q2um:=(Dt.ite (decide (v.2.1 > (0:Int))) (Dt.ite (inB v.2.1 (List.length v.2.2)) (Dt.ite (inB (IntKind.wrap .i64 (v.2.1 - (1:Int))) (List.length v.2.2)) (Dt.bnd (C.2.1 (((elt qja v.2.2 (v.2.1).toNat).1,(elt qja v.2.2 (v.2.1).toNat).2.1,(elt qja v.2.2 (v.2.1).toNat).2.2.1,(elt qja v.2.2 (v.2.1).toNat).2.2.2.1,()),((elt qja v.2.2 ((IntKind.wrap .i64 (v.2.1 - (1:Int)))).toNat).1,(elt qja v.2.2 ((IntKind.wrap .i64 (v.2.1 - (1:Int)))).toNat).2.1,(elt qja v.2.2 ((IntKind.wrap .i64 (v.2.1 - (1:Int)))).toNat).2.2.1,(elt qja v.2.2 ((IntKind.wrap .i64 (v.2.1 - (1:Int)))).toNat).2.2.2.1,()),())) fun r1=>(Dt.ret (v.1,v.2.1,r1,v.2.2))) Dt.fail) Dt.fail) (Dt.ret (v.1,v.2.1,false,v.2.2)))
theorem q2up C v:q40g (regO (qct f159) 15) true [(3,(.own qj8)),(8,.any),(9,.any),(72,.any)] q2uj q2uo q2un C v:=rgI (by kernel_rfl)
def q2uq (C:q2t1) (v:q2um):Dt q2ui:=(Dt.ite (inB (IntKind.wrap .i64 (v.2.1 - (1:Int))) (List.length v.2.2.2)) (Dt.ite (inB v.2.1 (List.length v.2.2.2)) (Dt.ite (inB v.2.1 (List.length v.2.2.2)) (Dt.ite (inB (IntKind.wrap .i64 (v.2.1 - (1:Int))) (List.length (List.set v.2.2.2 (v.2.1).toNat ((elt qja v.2.2.2 ((IntKind.wrap .i64 (v.2.1 - (1:Int)))).toNat).1,(elt qja v.2.2.2 ((IntKind.wrap .i64 (v.2.1 - (1:Int)))).toNat).2.1,(elt qja v.2.2.2 ((IntKind.wrap .i64 (v.2.1 - (1:Int)))).toNat).2.2.1,(elt qja v.2.2.2 ((IntKind.wrap .i64 (v.2.1 - (1:Int)))).toNat).2.2.2.1,())))) (Dt.ret (v.1,v.2.1,(List.set (List.set v.2.2.2 (v.2.1).toNat ((elt qja v.2.2.2 ((IntKind.wrap .i64 (v.2.1 - (1:Int)))).toNat).1,(elt qja v.2.2.2 ((IntKind.wrap .i64 (v.2.1 - (1:Int)))).toNat).2.1,(elt qja v.2.2.2 ((IntKind.wrap .i64 (v.2.1 - (1:Int)))).toNat).2.2.1,(elt qja v.2.2.2 ((IntKind.wrap .i64 (v.2.1 - (1:Int)))).toNat).2.2.2.1,())) ((IntKind.wrap .i64 (v.2.1 - (1:Int)))).toNat ((elt qja v.2.2.2 (v.2.1).toNat).1,(elt qja v.2.2.2 (v.2.1).toNat).2.1,(elt qja v.2.2.2 (v.2.1).toNat).2.2.1,(elt qja v.2.2.2 (v.2.1).toNat).2.2.2.1,())))) Dt.fail) Dt.fail) Dt.fail) Dt.fail)
theorem q2ur C v:q40g (regO (qct f159) 17) true [(3,(.own qj8)),(8,.any),(9,.any)] q2un q2uq q2uj C v:=rgI (by kernel_rfl)
def q2us (C:q2t1) (v:q2ui):Dt q2ui:=(Dt.ret (v.1,(IntKind.wrap .i64 (v.2.1 - (1:Int))),v.2.2))
theorem q2ut C v:q40g (regO (qct f159) 16) false [(3,(.own qj8)),(8,.any),(9,.any)] q2uj q2us q2uj C v:=rgI (by kernel_rfl)
def q2uu (C:q2t1) (v:q2um):Dt q2ua:=(Dt.ret ((IntKind.wrap .i64 (v.1+(1:Int))),v.2.2.2))
theorem q2uv C v:q40g (regO (qct f159) 13) false [(3,(.own qj8)),(8,.any)] q2un q2uu q2ub C v:=rgI (by kernel_rfl)
def q2uw (d:Nat) (self4:(Int×List qj9)→Option q2sy) (self5:(Int×Int×List qj9)→Option q2sy) (x5:Int×Int×List qj9):Option q2sy :=
 (q2uo (q2t2 d) x5).eval fun y15 =>
 bif y15.2.2.1 then ((q2uq (q2t2 d) y15).eval fun y17 =>
 (q2us (q2t2 d) y17).eval fun y16 =>
 self5 y16) else ((q2uu (q2t2 d) y15).eval fun y13 =>
 self4 y13)
abbrev q2ux:Type:=List qj9
def q2uy (v:q2ux):St:=⟨[(2,.rs 0)],[.rows qj8 v]⟩
def q2uz (C:q2t1) (v:q2ue):Dt q2ux:=(Dt.ret v.2.2)
theorem q2v0 C v:q40g (regO (qct f159) 18) false [(2,(.own qj8))] q2uf q2uz q2uy C v:=rgI (by kernel_rfl)
def q2v1 (d:Nat) (self4:(Int×List qj9)→Option q2sy) (x4:Int×List qj9):Option q2sy :=
 (q2ug (q2t2 d) x4).eval fun y12 =>
 bif y12.2.1 then ((q2uk (q2t2 d) y12).eval fun y14 =>
 iter (q2uw d self4) d y14) else ((q2uz (q2t2 d) y12).eval fun y18 =>
 some y18)
def q2v2 (d:Nat) (self1:(Int×List Diii×List qj9)→Option q2sy) (x1:Int×List Diii×List qj9):Option q2sy :=
 (q2tk (q2t2 d) x1).eval fun y3 =>
 bif y3.2.1 then ((q2to (q2t2 d) y3).eval fun y5 =>
 iter (q2u9 d self1) d y5) else ((q2uc (q2t2 d) y3).eval fun y11 =>
 iter (q2v1 d ) d y11)
def q2v3 (d:Nat) (x:q2sx):Option q2sy :=
 (q2t8 (q2t2 d) x.1.1).eval fun y0 =>
 (q2tc (q2t2 d) y0).eval fun y1 =>
 (q2tg (q2t2 d) y1).eval fun y2 =>
 iter (q2v2 d ) d y2
theorem q2v4 (d:Nat):COK prog (q2t0 (q2v3 d)):=by
 have hm:prog.follows .mixedOrders=true:=mixed
 have hT:=tys
 have hC0:OrcOK prog (orc (q2t3 (q2t2 d))):=qcn (by
  intro S hS
  simp only [q2t3,List.mem_cons,List.not_mem_nil,or_false] at hS
  rcases hS with rfl | rfl
  · exact q2rv d
  · exact q2sv d)
 have hC:OrcOK prog (orc (q2t3 (q2t2 d))):=hC0
 refine q8c (c:=qct f159) (fn:=f159) hT (by kernel_rfl) (by kernel_rfl) (by decide) fun x r h w0 φ0 Q hend=>?_
 replace h:q2v3 d x=some r:=h
 unfold q2v3 at h
 show Run prog w0 φ0 92 (qct f159) ⟨[(0,.agg [.fz Riii x.1.1])],[]⟩ Q
 refine q3yo hm hT hC (q2t9 (q2t2 d) x.1.1) h fun y0 h=>?_
 refine q3yo hm hT hC (q2td (q2t2 d) y0) h fun y1 h=>?_
 refine q7w ?_
 refine q3yo hm hT hC (q2th (q2t2 d) y1) h fun y2 h=>?_
 refine q7x ?_
 refine q82 (G:=iter (q2v2 d )) (S:=(fun x1=>⟨[(1,.ptr 0 0),(3,.rs 1),(4,i6 x1.1)],[.cells [.fz Riii x1.2.1],.rows qj8 x1.2.2]⟩:Int×List Diii×List qj9→St)) (fun _=>rfl) ?_ d _ h
 intro n1 x1 h K1 hn1
 replace h:q2v2 d  (iter (q2v2 d ) n1) x1=some r:=h
 generalize iter (q2v2 d ) n1=self1 at h hn1
 unfold q2v2 at h
 refine q7w ?_
 refine q3yo hm hT hC (q2tl (q2t2 d) x1) h fun y3 h=>?_
 refine q80 (v:=y3.2.1) (by kernel_rfl) h ?_ ?_
 ·
  intro h
  refine q7s (q7i (q7w (q7x ?_)))
  refine q3yo hm hT hC (q2tp (q2t2 d) y3) h fun y5 h=>?_
  refine q7x ?_
  refine q82 (G:=iter (q2u9 d self1)) (S:=(fun x2=>⟨[(1,.ptr 0 0),(3,.rs 1),(4,i6 x2.1),(5,i6 x2.2.1)],[.cells [.fz Riii x2.2.2.1],.rows qj8 x2.2.2.2]⟩:Int×Int×List Diii×List qj9→St)) (fun _=>rfl) ?_ d _ h
  intro n2 x2 h K2 hn2
  replace h:q2u9 d self1 (iter (q2u9 d self1) n2) x2=some r:=h
  generalize iter (q2u9 d self1) n2=self2 at h hn2
  unfold q2u9 at h
  refine q7w ?_
  refine q3yo hm hT hC (q2tt (q2t2 d) x2) h fun y6 h=>?_
  refine q80 (v:=y6.2.2.1) (by kernel_rfl) h ?_ ?_
  ·
   intro h
   refine q7s (q7i ?_)
   refine q7z (r:=r) (F:=q2u6 d self1 self2) (S:=(fun z=>⟨[(1,.ptr 0 0),(3,.rs 1),(4,i6 z.1),(5,i6 z.2.1)],[.cells [.fz Riii z.2.2.1],.rows qj8 z.2.2.2]⟩:Int×Int×List Diii×List qj9→St)) ?_ ?_
   ·
    intro z h
    unfold q2u6 at h
    refine q81 hm hT hC (q2u5 (q2t2 d) z) h ?_
    intro y7 h
    exact hn2 _ h
   intro hj3
   refine q7x ?_
   refine q3yo hm hT hC (q2tx (q2t2 d) y6) h fun y8 h=>?_
   refine q3yo hm hT hC (q2u1 (q2t2 d) y8) h fun y9 h=>?_
   refine q80 (v:=y9.2.2.1) (by kernel_rfl) h ?_ ?_
   ·
    intro h
    refine q81 hm hT hC (q2u3 (q2t2 d) y9) h ?_
    intro y10 h
    refine q7l ?_
    exact hj3 _ h
   ·
    intro h
    refine q7s (q7l ?_)
    refine qcs (s:=⟨[(1,.ptr 0 0),(3,.rs 1),(4,.int .i64 y9.1),(5,.int .i64 y9.2.1)],[.cells [.fz Riii y9.2.2.2.1],.rows qj8 y9.2.2.2.2.1]⟩) [6,7,40] (by kernel_rfl) ?_
    exact hj3 _ h
  ·
   intro h
   refine q7u (q7j (q7j (q7n (q7l (q7i ?_)))))
   refine q81 hm hT hC (q2u8 (q2t2 d) y6) h ?_
   intro y4 h
   exact hn1 _ h
 ·
  intro h
  refine q7u (q7j (q7j (q7n (q7i (q7w ?_)))))
  refine q3yo hm hT hC (q2ud (q2t2 d) y3) h fun y11 h=>?_
  refine q7x ?_
  refine q82 (G:=iter (q2v1 d )) (S:=(fun x4=>⟨[(3,.rs 0),(8,i6 x4.1)],[.rows qj8 x4.2]⟩:Int×List qj9→St)) (fun _=>rfl) ?_ d _ h
  intro n4 x4 h K4 hn4
  replace h:q2v1 d  (iter (q2v1 d ) n4) x4=some r:=h
  generalize iter (q2v1 d ) n4=self4 at h hn4
  unfold q2v1 at h
  refine q7w ?_
  refine q3yo hm hT hC (q2uh (q2t2 d) x4) h fun y12 h=>?_
  refine q80 (v:=y12.2.1) (by kernel_rfl) h ?_ ?_
  ·
   intro h
   refine q7s (q7i (q7w (q7x ?_)))
   refine q3yo hm hT hC (q2ul (q2t2 d) y12) h fun y14 h=>?_
   refine q7x ?_
   refine q82 (G:=iter (q2uw d self4)) (S:=(fun x5=>⟨[(3,.rs 0),(8,i6 x5.1),(9,i6 x5.2.1)],[.rows qj8 x5.2.2]⟩:Int×Int×List qj9→St)) (fun _=>rfl) ?_ d _ h
   intro n5 x5 h K5 hn5
   replace h:q2uw d self4 (iter (q2uw d self4) n5) x5=some r:=h
   generalize iter (q2uw d self4) n5=self5 at h hn5
   unfold q2uw at h
   refine q7w ?_
   refine q3yo hm hT hC (q2up (q2t2 d) x5) h fun y15 h=>?_
   refine q80 (v:=y15.2.2.1) (by kernel_rfl) h ?_ ?_
   ·
    intro h
    refine q7s (q7i (q7w (q7x ?_)))
    refine q81 hm hT hC (q2ur (q2t2 d) y15) h ?_
    intro y17 h
    refine q7l (q7i ?_)
    refine q81 hm hT hC (q2ut (q2t2 d) y17) h ?_
    intro y16 h
    exact hn5 _ h
   ·
    intro h
    refine q7u (q7j (q7j (q7n (q7l (q7i ?_)))))
    refine q81 hm hT hC (q2uv (q2t2 d) y15) h ?_
    intro y13 h
    exact hn4 _ h
  ·
   intro h
   refine q7u (q7j (q7j (q7n (q7i ?_))))
   refine q3yo hm hT hC (q2v0 (q2t2 d) y12) h fun y18 h=>?_
   refine q7v ?_
   cases h
   exact (hend _ (by kernel_rfl)).2
abbrev q2v5:List Pk:=[.row qj5 true,.row Rii true,.row Rii true]
abbrev q2v6:Type:=qj6×Dii×Dii×Unit
abbrev q2v7:Type:=List qj9
def q2v8 (r:q2v7):LV×List Ob:=(.rs 0,[.rows qj8 r])
def q2v9 (F:q2v6→Option q2v7):Go.Tx.Spec:=⟨134,q2v5,q2v7,F,q2v8⟩
abbrev q2va:Type:=(q2ot→Option q2ou)×(q2sx→Option q2sy)×Unit
def q2vb (d:Nat):q2va:=(q2pw d,q2v3 d,())
def q2vc (C:q2va):List Go.Tx.Spec:=[q2ow C.1,q2t0 C.2.1]
abbrev q2vd:Type:=List Diii×Int×Int×Int×Int
def q2ve (v:q2vd):St:=⟨[(0,.agg [.fz Riii v.1]),(1,.agg [i6 v.2.1,i6 v.2.2.1]),(2,.agg [i6 v.2.2.2.1,i6 v.2.2.2.2])],[]⟩
abbrev q2vf:Type:=List Diii×Int×Int×Int×Int
def q2vg (v:q2vf):St:=⟨[(3,.ptr 0 0),(4,.ptr 1 0),(5,.ptr 2 0)],[.cells [.fz Riii v.1],.cells [i6 v.2.1,i6 v.2.2.1],.cells [i6 v.2.2.2.1,i6 v.2.2.2.2]]⟩
def q2vh (C:q2va) (v:q2vd):Dt q2vf:=(Dt.ret (v.1,v.2.1,v.2.2.1,v.2.2.2.1,v.2.2.2.2))
abbrev q40h {V Y:Type}:=@rg q2va V Y tysT (fun C=>(orc (q2vc C))) 44
theorem q2vi C v:q40h (regO (qct f134) 0) false [(3,(.box [.val Riii])),(4,.any),(5,.any)] q2ve q2vh q2vg C v:=rgI (by kernel_rfl)
abbrev q2vj:Type:=List Diii×Int×Int×Int×Int×List qj9
def q2vk (v:q2vj):St:=⟨[(3,.ptr 0 0),(4,.ptr 1 0),(5,.ptr 2 0),(7,.rs 3)],[.cells [.fz Riii v.1],.cells [i6 v.2.1,i6 v.2.2.1],.cells [i6 v.2.2.2.1,i6 v.2.2.2.2.1],.rows qj8 v.2.2.2.2.2]⟩
def q2vl (C:q2va) (v:q2vf):Dt q2vj:=(Dt.ret (v.1,v.2.1,v.2.2.1,v.2.2.2.1,v.2.2.2.2,([]:List qj9)))
theorem q2vm C v:q40h (regO (qct f134) 1) false [(3,(.box [.val Riii])),(4,.any),(5,.any),(7,(.own qj8))] q2vg q2vl q2vk C v:=rgI (by kernel_rfl)
abbrev q2vn:Type:=Int×Int×Int×Int×List qj9×List qj9
def q2vo (v:q2vn):St:=⟨[(4,.ptr 0 0),(5,.ptr 1 0),(7,.rs 2),(8,.rs 3)],[.cells [i6 v.1,i6 v.2.1],.cells [i6 v.2.2.1,i6 v.2.2.2.1],.rows qj8 v.2.2.2.2.1,.rows qj8 v.2.2.2.2.2]⟩
def q2vp (C:q2va) (v:q2vj):Dt q2vn:=(Dt.bnd (C.2.1 ((v.1,()),())) fun r1=>(Dt.ret (v.2.1,v.2.2.1,v.2.2.2.1,v.2.2.2.2.1,v.2.2.2.2.2,r1)))
theorem q2vq C v:q40h (regO (qct f134) 2) false [(4,.any),(5,.any),(7,(.own qj8)),(8,(.own qj8))] q2vk q2vp q2vo C v:=rgI (by kernel_rfl)
abbrev q2vr:Type:=Int×Int×Int×Int×Int×List qj9×List qj9
def q2vs (v:q2vr):St:=⟨[(4,.ptr 0 0),(5,.ptr 1 0),(7,.rs 2),(8,.rs 3),(9,i6 v.1)],[.cells [i6 v.2.1,i6 v.2.2.1],.cells [i6 v.2.2.2.1,i6 v.2.2.2.2.1],.rows qj8 v.2.2.2.2.2.1,.rows qj8 v.2.2.2.2.2.2]⟩
def q2vt (C:q2va) (v:q2vn):Dt q2vr:=(Dt.ret ((0:Int),v.1,v.2.1,v.2.2.1,v.2.2.2.1,v.2.2.2.2.1,v.2.2.2.2.2))
theorem q2vu C v:q40h (regO (qct f134) 3) false [(4,.any),(5,.any),(7,(.own qj8)),(8,(.own qj8)),(9,.any)] q2vo q2vt q2vs C v:=rgI (by kernel_rfl)
abbrev q2vv:Type:=Int×Bool×Int×Int×Int×Int×List qj9×List qj9
def q2vw (v:q2vv):St:=⟨[(4,.ptr 0 0),(5,.ptr 1 0),(7,.rs 2),(8,.rs 3),(9,i6 v.1),(15,.bool v.2.1)],[.cells [i6 v.2.2.1,i6 v.2.2.2.1],.cells [i6 v.2.2.2.2.1,i6 v.2.2.2.2.2.1],.rows qj8 v.2.2.2.2.2.2.1,.rows qj8 v.2.2.2.2.2.2.2]⟩
def q2vx (C:q2va) (v:q2vr):Dt q2vv:=(Dt.ret (v.1,(decide (v.1<(List.length v.2.2.2.2.2.2:Int))),v.2.1,v.2.2.1,v.2.2.2.1,v.2.2.2.2.1,v.2.2.2.2.2.1,v.2.2.2.2.2.2))
theorem q2vy C v:q40h (regO (qct f134) 4) false [(4,.any),(5,.any),(7,(.own qj8)),(8,(.own qj8)),(9,.any),(15,.any)] q2vs q2vx q2vw C v:=rgI (by kernel_rfl)
abbrev q2vz:Type:=Int×Bool×Int×Int×Int×Int×List qj9×List qj9
def q2w0 (v:q2vz):St:=⟨[(4,.ptr 0 0),(5,.ptr 1 0),(7,.rs 2),(8,.rs 3),(9,i6 v.1),(35,.bool v.2.1)],[.cells [i6 v.2.2.1,i6 v.2.2.2.1],.cells [i6 v.2.2.2.2.1,i6 v.2.2.2.2.2.1],.rows qj8 v.2.2.2.2.2.2.1,.rows qj8 v.2.2.2.2.2.2.2]⟩
def q2w1 (C:q2va) (v:q2vv):Dt q2vz:=(Dt.ite (inB v.1 (List.length v.2.2.2.2.2.2.2)) (Dt.bnd (C.1 (((elt qja v.2.2.2.2.2.2.2 (v.1).toNat).1,(elt qja v.2.2.2.2.2.2.2 (v.1).toNat).2.1,()),(v.2.2.1,v.2.2.2.1,()),())) fun r1=>(Dt.ite (decide (r1 > (0:Int))) (Dt.ite (inB v.1 (List.length v.2.2.2.2.2.2.2)) (Dt.bnd (C.1 (((elt qja v.2.2.2.2.2.2.2 (v.1).toNat).1,(elt qja v.2.2.2.2.2.2.2 (v.1).toNat).2.1,()),(v.2.2.2.2.1,v.2.2.2.2.2.1,()),())) fun r2=>(Dt.ret (v.1,(decide (r2≤(0:Int))),v.2.2.1,v.2.2.2.1,v.2.2.2.2.1,v.2.2.2.2.2.1,v.2.2.2.2.2.2.1,v.2.2.2.2.2.2.2))) Dt.fail) (Dt.ret (v.1,false,v.2.2.1,v.2.2.2.1,v.2.2.2.2.1,v.2.2.2.2.2.1,v.2.2.2.2.2.2.1,v.2.2.2.2.2.2.2)))) Dt.fail)
theorem q2w2 C v:q40h (regO (qct f134) 6) true [(4,.any),(5,.any),(7,(.own qj8)),(8,(.own qj8)),(9,.any),(35,.any)] q2vw q2w1 q2w0 C v:=rgI (by kernel_rfl)
def q2w3 (C:q2va) (v:q2vz):Dt q2vr:=(Dt.ite (inB v.1 (List.length v.2.2.2.2.2.2.2)) (Dt.ite (apB (List.length v.2.2.2.2.2.2.1) (List.length ([((elt qja v.2.2.2.2.2.2.2 (v.1).toNat).1,(elt qja v.2.2.2.2.2.2.2 (v.1).toNat).2.1,(elt qja v.2.2.2.2.2.2.2 (v.1).toNat).2.2.1,(elt qja v.2.2.2.2.2.2.2 (v.1).toNat).2.2.2.1,())]:List qj9))) (Dt.ret (v.1,v.2.2.1,v.2.2.2.1,v.2.2.2.2.1,v.2.2.2.2.2.1,(v.2.2.2.2.2.2.1++([((elt qja v.2.2.2.2.2.2.2 (v.1).toNat).1,(elt qja v.2.2.2.2.2.2.2 (v.1).toNat).2.1,(elt qja v.2.2.2.2.2.2.2 (v.1).toNat).2.2.1,(elt qja v.2.2.2.2.2.2.2 (v.1).toNat).2.2.2.1,())]:List qj9)),v.2.2.2.2.2.2.2)) Dt.fail) Dt.fail)
theorem q2w4 C v:q40h (regO (qct f134) 7) false [(4,.any),(5,.any),(7,(.own qj8)),(8,(.own qj8)),(9,.any)] q2w0 q2w3 q2vs C v:=rgI (by kernel_rfl)
def q2w5 (C:q2va) (v:q2vr):Dt q2vr:=(Dt.ret ((IntKind.wrap .i64 (v.1+(1:Int))),v.2.1,v.2.2.1,v.2.2.2.1,v.2.2.2.2.1,v.2.2.2.2.2.1,v.2.2.2.2.2.2))
theorem q2w6 C v:q40h (regO (qct f134) 5) false [(4,.any),(5,.any),(7,(.own qj8)),(8,(.own qj8)),(9,.any)] q2vs q2w5 q2vs C v:=rgI (by kernel_rfl)
def q2w7  (d:Nat) (self1:(Int×Int×Int×Int×Int×List qj9×List qj9)→Option q2v7) (z:Int×Int×Int×Int×Int×List qj9×List qj9):Option (q2v7) :=
 (q2w5 (q2vb d) z).eval fun y5 =>
 self1 y5
abbrev q2w8:Type:=List qj9
def q2w9 (v:q2w8):St:=⟨[(6,.rs 0)],[.rows qj8 v]⟩
def q2wa (C:q2va) (v:q2vv):Dt q2w8:=(Dt.ret v.2.2.2.2.2.2.1)
theorem q2wb C v:q40h (regO (qct f134) 8) false [(6,(.own qj8))] q2vw q2wa q2w9 C v:=rgI (by kernel_rfl)
def q2wc (d:Nat) (self1:(Int×Int×Int×Int×Int×List qj9×List qj9)→Option q2v7) (x1:Int×Int×Int×Int×Int×List qj9×List qj9):Option q2v7 :=
 (q2vx (q2vb d) x1).eval fun y4 =>
 bif y4.2.1 then ((q2w1 (q2vb d) y4).eval fun y6 =>
 bif y6.2.1 then ((q2w3 (q2vb d) y6).eval fun y7 =>
 q2w7 d self1 y7) else (q2w7 d self1 (y6.1,y6.2.2.1,y6.2.2.2.1,y6.2.2.2.2.1,y6.2.2.2.2.2.1,y6.2.2.2.2.2.2.1,y6.2.2.2.2.2.2.2))) else ((q2wa (q2vb d) y4).eval fun y8 =>
 some y8)
def q2wd (d:Nat) (x:q2v6):Option q2v7 :=
 (q2vh (q2vb d) (x.1.1,x.2.1.1,x.2.1.2.1,x.2.2.1.1,x.2.2.1.2.1)).eval fun y0 =>
 (q2vl (q2vb d) y0).eval fun y1 =>
 (q2vp (q2vb d) y1).eval fun y2 =>
 (q2vt (q2vb d) y2).eval fun y3 =>
 iter (q2wc d ) d y3
theorem q2we (d:Nat):COK prog (q2v9 (q2wd d)):=by
 have hm:prog.follows .mixedOrders=true:=mixed
 have hT:=tys
 have hC0:OrcOK prog (orc (q2vc (q2vb d))):=qcn (by
  intro S hS
  simp only [q2vc,List.mem_cons,List.not_mem_nil,or_false] at hS
  rcases hS with rfl | rfl
  · exact q2px d
  · exact q2v4 d)
 have hC:OrcOK prog (orc (q2vc (q2vb d))):=hC0
 refine q8c (c:=qct f134) (fn:=f134) hT (by kernel_rfl) (by kernel_rfl) (by decide) fun x r h w0 φ0 Q hend=>?_
 replace h:q2wd d x=some r:=h
 unfold q2wd at h
 show Run prog w0 φ0 44 (qct f134) ⟨[(0,.agg [.fz Riii x.1.1]),(1,.agg [.int .i64 x.2.1.1,.int .i64 x.2.1.2.1]),(2,.agg [.int .i64 x.2.2.1.1,.int .i64 x.2.2.1.2.1])],[]⟩ Q
 refine q3yo hm hT hC (q2vi (q2vb d) (x.1.1,x.2.1.1,x.2.1.2.1,x.2.2.1.1,x.2.2.1.2.1)) h fun y0 h=>?_
 refine q3yo hm hT hC (q2vm (q2vb d) y0) h fun y1 h=>?_
 refine q3yo hm hT hC (q2vq (q2vb d) y1) h fun y2 h=>?_
 refine q7w ?_
 refine q3yo hm hT hC (q2vu (q2vb d) y2) h fun y3 h=>?_
 refine q7x ?_
 refine q82 (G:=iter (q2wc d )) (S:=(fun x1=>⟨[(4,.ptr 0 0),(5,.ptr 1 0),(7,.rs 2),(8,.rs 3),(9,i6 x1.1)],[.cells [i6 x1.2.1,i6 x1.2.2.1],.cells [i6 x1.2.2.2.1,i6 x1.2.2.2.2.1],.rows qj8 x1.2.2.2.2.2.1,.rows qj8 x1.2.2.2.2.2.2]⟩:Int×Int×Int×Int×Int×List qj9×List qj9→St)) (fun _=>rfl) ?_ d _ h
 intro n1 x1 h K1 hn1
 replace h:q2wc d  (iter (q2wc d ) n1) x1=some r:=h
 generalize iter (q2wc d ) n1=self1 at h hn1
 unfold q2wc at h
 refine q7w ?_
 refine q3yo hm hT hC (q2vy (q2vb d) x1) h fun y4 h=>?_
 refine q80 (v:=y4.2.1) (by kernel_rfl) h ?_ ?_
 ·
  intro h
  refine q7s (q7i ?_)
  refine q7z (r:=r) (F:=q2w7 d self1) (S:=(fun z=>⟨[(4,.ptr 0 0),(5,.ptr 1 0),(7,.rs 2),(8,.rs 3),(9,i6 z.1)],[.cells [i6 z.2.1,i6 z.2.2.1],.cells [i6 z.2.2.2.1,i6 z.2.2.2.2.1],.rows qj8 z.2.2.2.2.2.1,.rows qj8 z.2.2.2.2.2.2]⟩:Int×Int×Int×Int×Int×List qj9×List qj9→St)) ?_ ?_
  ·
   intro z h
   unfold q2w7 at h
   refine q81 hm hT hC (q2w6 (q2vb d) z) h ?_
   intro y5 h
   exact hn1 _ h
  intro hj2
  refine q7x ?_
  refine q3yo hm hT hC (q2w2 (q2vb d) y4) h fun y6 h=>?_
  refine q80 (v:=y6.2.1) (by kernel_rfl) h ?_ ?_
  ·
   intro h
   refine q81 hm hT hC (q2w4 (q2vb d) y6) h ?_
   intro y7 h
   refine q7l ?_
   exact hj2 _ h
  ·
   intro h
   refine q7s (q7l ?_)
   refine qcs (s:=⟨[(4,.ptr 0 0),(5,.ptr 1 0),(7,.rs 2),(8,.rs 3),(9,.int .i64 y6.1)],[.cells [.int .i64 y6.2.2.1,.int .i64 y6.2.2.2.1],.cells [.int .i64 y6.2.2.2.2.1,.int .i64 y6.2.2.2.2.2.1],.rows qj8 y6.2.2.2.2.2.2.1,.rows qj8 y6.2.2.2.2.2.2.2]⟩) [35] (by kernel_rfl) ?_
   exact hj2 _ h
 ·
  intro h
  refine q7u (q7j (q7j (q7n (q7i ?_))))
  refine q3yo hm hT hC (q2wb (q2vb d) y4) h fun y8 h=>?_
  refine q7v ?_
  cases h
  exact (hend _ (by kernel_rfl)).2
abbrev q2wf:List Pk:=[.row qj5 true,.row Rii true,.row Rii true]
abbrev q2wg:Type:=qj6×Dii×Dii×Unit
abbrev q2wh:Type:=Int
def q2wi (r:q2wh):LV×List Ob:=(.int .i64 r,[])
def q2wj (F:q2wg→Option q2wh):Go.Tx.Spec:=⟨77,q2wf,q2wh,F,q2wi⟩
abbrev q2wk:Type:=(q2pz→Option q2q0)×Unit
def q2wl (d:Nat):q2wk:=(q2r6 d,())
def q2wm (C:q2wk):List Go.Tx.Spec:=[q2q2 C.1]
abbrev q2wn:Type:=List Diii×Int×Int×Int×Int
def q2wo (v:q2wn):St:=⟨[(0,.agg [.fz Riii v.1]),(1,.agg [i6 v.2.1,i6 v.2.2.1]),(2,.agg [i6 v.2.2.2.1,i6 v.2.2.2.2])],[]⟩
abbrev q2wp:Type:=List Diii×Int×Int×Int×Int
def q2wq (v:q2wp):St:=⟨[(3,.ptr 0 0),(4,.ptr 1 0),(5,.ptr 2 0)],[.cells [.fz Riii v.1],.cells [i6 v.2.1,i6 v.2.2.1],.cells [i6 v.2.2.2.1,i6 v.2.2.2.2]]⟩
def q2wr (C:q2wk) (v:q2wn):Dt q2wp:=(Dt.ret (v.1,v.2.1,v.2.2.1,v.2.2.2.1,v.2.2.2.2))
abbrev q40i {V Y:Type}:=@rg q2wk V Y tysT (fun C=>(orc (q2wm C))) 19
theorem q2ws C v:q40i (regO (qct f77) 0) false [(3,(.box [.val Riii])),(4,.any),(5,.any)] q2wo q2wr q2wq C v:=rgI (by kernel_rfl)
abbrev q2wt:Type:=Int×List Diii
def q2wu (v:q2wt):St:=⟨[(3,.ptr 0 0),(7,i6 v.1)],[.cells [.fz Riii v.2]]⟩
def q2wv (C:q2wk) (v:q2wp):Dt q2wt:=(Dt.bnd (C.1 ((v.1,()),(v.2.1,v.2.2.1,()),(v.2.2.2.1,v.2.2.2.2,()),())) fun r1=>(Dt.ret (r1,v.1)))
theorem q2ww C v:q40i (regO (qct f77) 1) false [(3,(.box [.val Riii])),(7,.any)] q2wq q2wv q2wu C v:=rgI (by kernel_rfl)
abbrev q2wx:Type:=Int×Bool×List Diii
def q2wy (v:q2wx):St:=⟨[(3,.ptr 0 0),(7,i6 v.1),(13,.bool v.2.1)],[.cells [.fz Riii v.2.2]]⟩
def q2wz (C:q2wk) (v:q2wt):Dt q2wx:=(Dt.ret (v.1,(v.1 != (0:Int)),v.2))
theorem q2x0 C v:q40i (regO (qct f77) 2) false [(3,(.box [.val Riii])),(7,.any),(13,.any)] q2wu q2wz q2wy C v:=rgI (by kernel_rfl)
abbrev q2x1:Type:=Int
def q2x2 (v:q2x1):St:=⟨[(6,i6 v)],[]⟩
def q2x3 (C:q2wk) (v:q2wx):Dt q2x1:=(Dt.ret v.1)
theorem q2x4 C v:q40i (regO (qct f77) 3) false [(6,.any)] q2wy q2x3 q2x2 C v:=rgI (by kernel_rfl)
abbrev q2x5:Type:=Bool
def q2x6 (v:q2x5):St:=⟨[(18,.bool v)],[]⟩
def q2x7 (C:q2wk) (v:q2wx):Dt q2x5:=(Dt.ret ((List.length v.2.2:Int) == (0:Int)))
theorem q2x8 C v:q40i (regO (qct f77) 4) false [(18,.any)] q2wy q2x7 q2x6 C v:=rgI (by kernel_rfl)
def q2x9 (C:q2wk) (v:q2x5):Dt q2x1:=(Dt.ret (42:Int))
theorem q2xa C v:q40i (regO (qct f77) 5) false [(6,.any)] q2x6 q2x9 q2x2 C v:=rgI (by kernel_rfl)
def q2xb (C:q2wk) (v:q2x5):Dt q2x1:=(Dt.ret (0:Int))
theorem q2xc C v:q40i (regO (qct f77) 6) false [(6,.any)] q2x6 q2xb q2x2 C v:=rgI (by kernel_rfl)
def q2xd (d:Nat) (x:q2wg):Option q2wh :=
 (q2wr (q2wl d) (x.1.1,x.2.1.1,x.2.1.2.1,x.2.2.1.1,x.2.2.1.2.1)).eval fun y0 =>
 (q2wv (q2wl d) y0).eval fun y1 =>
 (q2wz (q2wl d) y1).eval fun y2 =>
 bif y2.2.1 then ((q2x3 (q2wl d) y2).eval fun y3 =>
 some y3) else ((q2x7 (q2wl d) y2).eval fun y4 =>
 bif y4 then ((q2x9 (q2wl d) y4).eval fun y5 =>
 some y5) else ((q2xb (q2wl d) y4).eval fun y6 =>
 some y6))
theorem q2xe (d:Nat):COK prog (q2wj (q2xd d)):=by
 have hm:prog.follows .mixedOrders=true:=mixed
 have hT:=tys
 have hC0:OrcOK prog (orc (q2wm (q2wl d))):=qcn (by
  intro S hS
  simp only [q2wm,List.mem_cons,List.not_mem_nil,or_false] at hS
  subst hS;exact q2r7 d)
 have hC:OrcOK prog (orc (q2wm (q2wl d))):=hC0
 refine q8c (c:=qct f77) (fn:=f77) hT (by kernel_rfl) (by kernel_rfl) (by decide) fun x r h w0 φ0 Q hend=>?_
 replace h:q2xd d x=some r:=h
 unfold q2xd at h
 show Run prog w0 φ0 19 (qct f77) ⟨[(0,.agg [.fz Riii x.1.1]),(1,.agg [.int .i64 x.2.1.1,.int .i64 x.2.1.2.1]),(2,.agg [.int .i64 x.2.2.1.1,.int .i64 x.2.2.1.2.1])],[]⟩ Q
 refine q3yo hm hT hC (q2ws (q2wl d) (x.1.1,x.2.1.1,x.2.1.2.1,x.2.2.1.1,x.2.2.1.2.1)) h fun y0 h=>?_
 refine q7w ?_
 refine q3yo hm hT hC (q2ww (q2wl d) y0) h fun y1 h=>?_
 refine q3yo hm hT hC (q2x0 (q2wl d) y1) h fun y2 h=>?_
 refine q80 (v:=y2.2.1) (by kernel_rfl) h ?_ ?_
 ·
  intro h
  refine q3yo hm hT hC (q2x4 (q2wl d) y2) h fun y3 h=>?_
  refine q7v (q7k ?_)
  cases h
  exact (hend _ (by kernel_rfl)).2
 ·
  intro h
  refine q7s (q7i (q7w ?_))
  refine q3yo hm hT hC (q2x8 (q2wl d) y2) h fun y4 h=>?_
  refine q80 (v:=y4) (by kernel_rfl) h ?_ ?_
  ·
   intro h
   refine q3yo hm hT hC (q2xa (q2wl d) y4) h fun y5 h=>?_
   refine q7v (q7k ?_)
   cases h
   exact (hend _ (by kernel_rfl)).2
  ·
   intro h
   refine q7s (q7i ?_)
   refine q3yo hm hT hC (q2xc (q2wl d) y4) h fun y6 h=>?_
   refine q7v ?_
   cases h
   exact (hend _ (by kernel_rfl)).2
abbrev q2xf:List Pk:=[.row qj5 true,.row Rii true]
abbrev q2xg:Type:=qj6×Dii×Unit
abbrev q2xh:Type:=Int×Int×Int×Int×Int×Int
def q2xi (r:q2xh):LV×List Ob:=(.tup [.agg [.int .i64 r.1,.int .i64 r.2.1,.int .i64 r.2.2.1],.agg [.int .i64 r.2.2.2.1,.int .i64 r.2.2.2.2.1,.int .i64 r.2.2.2.2.2]],[])
def q2xj (F:q2xg→Option q2xh):Go.Tx.Spec:=⟨78,q2xf,q2xh,F,q2xi⟩
abbrev q2xk:Type:=(qpq→Option qpr)×(qwf→Option qwg)×Unit
def q2xl (d:Nat):q2xk:=(qpv d,qwk d,())
def q2xm (C:q2xk):List Go.Tx.Spec:=[qpt C.1,qwi C.2.1]
abbrev q2xn:Type:=List Diii×Int×Int
def q2xo (v:q2xn):St:=⟨[(0,.agg [.fz Riii v.1]),(1,.agg [i6 v.2.1,i6 v.2.2])],[]⟩
abbrev q2xp:Type:=List Diii×Int×Int×Int×Int×Int×Int×Int×Int
def q2xq (v:q2xp):St:=⟨[(2,.ptr 0 0),(3,.ptr 1 0),(4,.ptr 2 0),(5,.ptr 3 0)],[.cells [.fz Riii v.1],.cells [i6 v.2.1,i6 v.2.2.1],.cells [i6 v.2.2.2.1,i6 v.2.2.2.2.1,i6 v.2.2.2.2.2.1],.cells [i6 v.2.2.2.2.2.2.1,i6 v.2.2.2.2.2.2.2.1,i6 v.2.2.2.2.2.2.2.2]]⟩
def q2xr (C:q2xk) (v:q2xn):Dt q2xp:=(Dt.ret (v.1,v.2.1,v.2.2,(0:Int),(0:Int),(0:Int),(0:Int),(0:Int),(0:Int)))
abbrev q40j {V Y:Type}:=@rg q2xk V Y tysT (fun C=>(orc (q2xm C))) 31
theorem q2xs C v:q40j (regO (qct f78) 0) false [(2,(.box [.val Riii])),(3,.any),(4,.any),(5,.any)] q2xo q2xr q2xq C v:=rgI (by kernel_rfl)
abbrev q2xt:Type:=List Diii×Int×Int×Int×Int×Int×Int×List Di
def q2xu (v:q2xt):St:=⟨[(2,.ptr 0 0),(4,.ptr 1 0),(5,.ptr 2 0),(6,.rs 3)],[.cells [.fz Riii v.1],.cells [i6 v.2.1,i6 v.2.2.1,i6 v.2.2.2.1],.cells [i6 v.2.2.2.2.1,i6 v.2.2.2.2.2.1,i6 v.2.2.2.2.2.2.1],.rows Ri v.2.2.2.2.2.2.2]⟩
def q2xv (C:q2xk) (v:q2xp):Dt q2xt:=(Dt.bnd (C.2.1 ((v.1,()),(v.2.1,v.2.2.1,()),())) fun r1=>(Dt.ret (v.1,v.2.2.2.1,v.2.2.2.2.1,v.2.2.2.2.2.1,v.2.2.2.2.2.2.1,v.2.2.2.2.2.2.2.1,v.2.2.2.2.2.2.2.2,r1)))
theorem q2xw C v:q40j (regO (qct f78) 1) false [(2,(.box [.val Riii])),(4,.any),(5,.any),(6,(.own Ri))] q2xq q2xv q2xu C v:=rgI (by kernel_rfl)
abbrev q2xx:Type:=Int×Int×Int×Int×Int×Int
def q2xy (v:q2xx):St:=⟨[(4,.ptr 0 0),(5,.ptr 1 0)],[.cells [i6 v.1,i6 v.2.1,i6 v.2.2.1],.cells [i6 v.2.2.2.1,i6 v.2.2.2.2.1,i6 v.2.2.2.2.2]]⟩
def q2xz (C:q2xk) (v:q2xt):Dt q2xx:=(Dt.ite (inB (0:Int) (List.length v.2.2.2.2.2.2.2)) (Dt.bnd (C.1 ((v.1,()),((elt zi v.2.2.2.2.2.2.2 ((0:Int)).toNat).1,()),())) fun r1=>(Dt.ite (inB r1 (List.length v.1)) (Dt.ite (inB (IntKind.wrap .i64 ((List.length v.2.2.2.2.2.2.2:Int) - (1:Int))) (List.length v.2.2.2.2.2.2.2)) (Dt.bnd (C.1 ((v.1,()),((elt zi v.2.2.2.2.2.2.2 ((IntKind.wrap .i64 ((List.length v.2.2.2.2.2.2.2:Int) - (1:Int)))).toNat).1,()),())) fun r2=>(Dt.ite (inB r2 (List.length v.1)) (Dt.ret ((elt ziii v.1 (r1).toNat).1,(elt ziii v.1 (r1).toNat).2.1,(elt ziii v.1 (r1).toNat).2.2.1,(elt ziii v.1 (r2).toNat).1,(elt ziii v.1 (r2).toNat).2.1,(elt ziii v.1 (r2).toNat).2.2.1)) Dt.fail)) Dt.fail) Dt.fail)) Dt.fail)
theorem q2y0 C v:q40j (regO (qct f78) 2) true (an [4,5]) q2xu q2xz q2xy C v:=rgI (by kernel_rfl)
def q2y1 (d:Nat) (x:q2xg):Option q2xh :=
 (q2xr (q2xl d) (x.1.1,x.2.1.1,x.2.1.2.1)).eval fun y0 =>
 (q2xv (q2xl d) y0).eval fun y1 =>
 (q2xz (q2xl d) y1).eval fun y2 =>
 some y2
theorem q2y2 (d:Nat):COK prog (q2xj (q2y1 d)):=by
 have hm:prog.follows .mixedOrders=true:=mixed
 have hT:=tys
 have hC0:OrcOK prog (orc (q2xm (q2xl d))):=qcn (by
  intro S hS
  simp only [q2xm,List.mem_cons,List.not_mem_nil,or_false] at hS
  rcases hS with rfl | rfl
  · exact qpx d
  · exact qwm d)
 have hC:OrcOK prog (orc (q2xm (q2xl d))):=hC0
 refine q8c (c:=qct f78) (fn:=f78) hT (by kernel_rfl) (by kernel_rfl) (by decide) fun x r h w0 φ0 Q hend=>?_
 replace h:q2y1 d x=some r:=h
 unfold q2y1 at h
 show Run prog w0 φ0 31 (qct f78) ⟨[(0,.agg [.fz Riii x.1.1]),(1,.agg [.int .i64 x.2.1.1,.int .i64 x.2.1.2.1])],[]⟩ Q
 refine q3yo hm hT hC (q2xs (q2xl d) (x.1.1,x.2.1.1,x.2.1.2.1)) h fun y0 h=>?_
 refine q3yo hm hT hC (q2xw (q2xl d) y0) h fun y1 h=>?_
 refine q3yo hm hT hC (q2y0 (q2xl d) y1) h fun y2 h=>?_
 refine q7v ?_
 cases h
 exact (hend _ (by kernel_rfl)).2
abbrev q2y3:List Pk:=[.row qj5 true,.row Rii true]
abbrev q2y4:Type:=qj6×Dii×Unit
abbrev q2y5:Type:=Int×Int×Int
def q2y6 (r:q2y5):LV×List Ob:=(.tup [.int .i64 r.1,.int .i64 r.2.1,.int .i64 r.2.2],[])
def q2y7 (F:q2y4→Option q2y5):Go.Tx.Spec:=⟨27,q2y3,q2y5,F,q2y6⟩
abbrev q2y8:Type:=(q2wg→Option q2wh)×(q2xg→Option q2xh)×Unit
def q2y9 (d:Nat):q2y8:=(q2xd d,q2y1 d,())
def q2ya (C:q2y8):List Go.Tx.Spec:=[q2wj C.1,q2xj C.2.1]
abbrev q2yb:Type:=List Diii×Int×Int
def q2yc (v:q2yb):St:=⟨[(0,.agg [.fz Riii v.1]),(1,.agg [i6 v.2.1,i6 v.2.2])],[]⟩
abbrev q2yd:Type:=List Diii×Int×Int
def q2ye (v:q2yd):St:=⟨[(2,.ptr 0 0),(3,.ptr 1 0)],[.cells [.fz Riii v.1],.cells [i6 v.2.1,i6 v.2.2]]⟩
def q2yf (C:q2y8) (v:q2yb):Dt q2yd:=(Dt.ret (v.1,v.2.1,v.2.2))
abbrev q40k {V Y:Type}:=@rg q2y8 V Y tysT (fun C=>(orc (q2ya C))) 27
theorem q2yg C v:q40k (regO (qct f27) 0) false [(2,(.box [.val Riii])),(3,.any)] q2yc q2yf q2ye C v:=rgI (by kernel_rfl)
abbrev q2yh:Type:=Int×List Diii×Int×Int
def q2yi (v:q2yh):St:=⟨[(2,.ptr 0 0),(3,.ptr 1 0),(7,i6 v.1)],[.cells [.fz Riii v.2.1],.cells [i6 v.2.2.1,i6 v.2.2.2]]⟩
def q2yj (C:q2y8) (v:q2yd):Dt q2yh:=(Dt.bnd (C.1 ((v.1,()),(v.2.1,v.2.2,()),(v.2.1,v.2.2,()),())) fun r1=>(Dt.ret (r1,v.1,v.2.1,v.2.2)))
theorem q2yk C v:q40k (regO (qct f27) 1) false [(2,(.box [.val Riii])),(3,.any),(7,.any)] q2ye q2yj q2yi C v:=rgI (by kernel_rfl)
abbrev q2yl:Type:=Int×Bool×List Diii×Int×Int
def q2ym (v:q2yl):St:=⟨[(2,.ptr 0 0),(3,.ptr 1 0),(7,i6 v.1),(15,.bool v.2.1)],[.cells [.fz Riii v.2.2.1],.cells [i6 v.2.2.2.1,i6 v.2.2.2.2]]⟩
def q2yn (C:q2y8) (v:q2yh):Dt q2yl:=(Dt.ret (v.1,(v.1 != (0:Int)),v.2.1,v.2.2.1,v.2.2.2))
theorem q2yo C v:q40k (regO (qct f27) 2) false [(2,(.box [.val Riii])),(3,.any),(7,.any),(15,.any)] q2yi q2yn q2ym C v:=rgI (by kernel_rfl)
abbrev q2yp:Type:=Int×Int×Int
def q2yq (v:q2yp):St:=⟨[(4,i6 v.1),(5,i6 v.2.1),(6,i6 v.2.2)],[]⟩
def q2yr (C:q2y8) (v:q2yl):Dt q2yp:=(Dt.ret ((0:Int),(0:Int),v.1))
theorem q2ys C v:q40k (regO (qct f27) 3) false (an [4,5,6]) q2ym q2yr q2yq C v:=rgI (by kernel_rfl)
abbrev q2yt:Type:=Int×Int×Int×Int×Int×Int
def q2yu (v:q2yt):St:=⟨[(8,.ptr 0 0),(9,.ptr 1 0)],[.cells [i6 v.1,i6 v.2.1,i6 v.2.2.1],.cells [i6 v.2.2.2.1,i6 v.2.2.2.2.1,i6 v.2.2.2.2.2]]⟩
def q2yv (C:q2y8) (v:q2yl):Dt q2yt:=(Dt.bnd (C.2.1 ((v.2.2.1,()),(v.2.2.2.1,v.2.2.2.2,()),())) fun r1=>(Dt.ret (r1.1,r1.2.1,r1.2.2.1,r1.2.2.2.1,r1.2.2.2.2.1,r1.2.2.2.2.2)))
theorem q2yw C v:q40k (regO (qct f27) 4) false (an [8,9]) q2ym q2yv q2yu C v:=rgI (by kernel_rfl)
def q2yx (C:q2y8) (v:q2yt):Dt q2yp:=(Dt.ret (v.1,v.2.2.2.1,(0:Int)))
theorem q2yy C v:q40k (regO (qct f27) 5) true (an [4,5,6]) q2yu q2yx q2yq C v:=rgI (by kernel_rfl)
def q2yz (d:Nat) (x:q2y4):Option q2y5 :=
 (q2yf (q2y9 d) (x.1.1,x.2.1.1,x.2.1.2.1)).eval fun y0 =>
 (q2yj (q2y9 d) y0).eval fun y1 =>
 (q2yn (q2y9 d) y1).eval fun y2 =>
 bif y2.2.1 then ((q2yr (q2y9 d) y2).eval fun y3 =>
 some y3) else ((q2yv (q2y9 d) y2).eval fun y4 =>
 (q2yx (q2y9 d) y4).eval fun y5 =>
 some y5)
theorem q2z0 (d:Nat):COK prog (q2y7 (q2yz d)):=by
 have hm:prog.follows .mixedOrders=true:=mixed
 have hT:=tys
 have hC0:OrcOK prog (orc (q2ya (q2y9 d))):=qcn (by
  intro S hS
  simp only [q2ya,List.mem_cons,List.not_mem_nil,or_false] at hS
  rcases hS with rfl | rfl
  · exact q2xe d
  · exact q2y2 d)
 have hC:OrcOK prog (orc (q2ya (q2y9 d))):=hC0
 refine q8c (c:=qct f27) (fn:=f27) hT (by kernel_rfl) (by kernel_rfl) (by decide) fun x r h w0 φ0 Q hend=>?_
 replace h:q2yz d x=some r:=h
 unfold q2yz at h
 show Run prog w0 φ0 27 (qct f27) ⟨[(0,.agg [.fz Riii x.1.1]),(1,.agg [.int .i64 x.2.1.1,.int .i64 x.2.1.2.1])],[]⟩ Q
 refine q3yo hm hT hC (q2yg (q2y9 d) (x.1.1,x.2.1.1,x.2.1.2.1)) h fun y0 h=>?_
 refine q7w ?_
 refine q3yo hm hT hC (q2yk (q2y9 d) y0) h fun y1 h=>?_
 refine q3yo hm hT hC (q2yo (q2y9 d) y1) h fun y2 h=>?_
 refine q80 (v:=y2.2.1) (by kernel_rfl) h ?_ ?_
 ·
  intro h
  refine q3yo hm hT hC (q2ys (q2y9 d) y2) h fun y3 h=>?_
  refine q7v (q7k ?_)
  cases h
  exact (hend _ (by kernel_rfl)).2
 ·
  intro h
  refine q7s (q7i ?_)
  refine q3yo hm hT hC (q2yw (q2y9 d) y2) h fun y4 h=>?_
  refine q3yo hm hT hC (q2yy (q2y9 d) y4) h fun y5 h=>?_
  refine q7v ?_
  cases h
  exact (hend _ (by kernel_rfl)).2
abbrev q2z1:List Pk:=[.row Riii true,.row Riii true,.row Rii true]
abbrev q2z2:Type:=Diii×Diii×Dii×Unit
abbrev q2z3:Type:=Int×Int×Int
def q2z4 (r:q2z3):LV×List Ob:=(.tup [.agg [.int .i64 r.1,.int .i64 r.2.1],.int .i64 r.2.2],[])
def q2z5 (F:q2z2→Option q2z3):Go.Tx.Spec:=⟨44,q2z1,q2z3,F,q2z4⟩
abbrev q2z6:Type:=(q21z→Option q220)×(q253→Option q254)×Unit
def q2z7 (d:Nat):q2z6:=(q22m d,q264 d,())
def q2z8 (C:q2z6):List Go.Tx.Spec:=[q222 C.1,q256 C.2.1]
abbrev q2z9:Type:=Int×Int×Int×Int×Int×Int×Int×Int
def q2za (v:q2z9):St:=⟨[(0,.agg [i6 v.1,i6 v.2.1,i6 v.2.2.1]),(1,.agg [i6 v.2.2.2.1,i6 v.2.2.2.2.1,i6 v.2.2.2.2.2.1]),(2,.agg [i6 v.2.2.2.2.2.2.1,i6 v.2.2.2.2.2.2.2])],[]⟩
abbrev q2zb:Type:=Int×Int×Int×Int×Int×Int×Int×Int×Int×Int
def q2zc (v:q2zb):St:=⟨[(3,.ptr 0 0),(4,.ptr 1 0),(5,.ptr 2 0),(6,.ptr 3 0)],[.cells [i6 v.1,i6 v.2.1,i6 v.2.2.1],.cells [i6 v.2.2.2.1,i6 v.2.2.2.2.1,i6 v.2.2.2.2.2.1],.cells [i6 v.2.2.2.2.2.2.1,i6 v.2.2.2.2.2.2.2.1],.cells [i6 v.2.2.2.2.2.2.2.2.1,i6 v.2.2.2.2.2.2.2.2.2]]⟩
def q2zd (C:q2z6) (v:q2z9):Dt q2zb:=(Dt.ret (v.1,v.2.1,v.2.2.1,v.2.2.2.1,v.2.2.2.2.1,v.2.2.2.2.2.1,v.2.2.2.2.2.2.1,v.2.2.2.2.2.2.2,(0:Int),(0:Int)))
abbrev q40l {V Y:Type}:=@rg q2z6 V Y tysT (fun C=>(orc (q2z8 C))) 36
theorem q2ze C v:q40l (regO (qct f44) 0) false (an [3,4,5,6]) q2za q2zd q2zc C v:=rgI (by kernel_rfl)
abbrev q2zf:Type:=Int×Int×Int×Int×Int×Int×Int×Int×Int×Int
def q2zg (v:q2zf):St:=⟨[(4,.ptr 0 0),(5,.ptr 1 0),(6,.ptr 2 0),(8,.ptr 3 0),(9,i6 v.1)],[.cells [i6 v.2.1,i6 v.2.2.1,i6 v.2.2.2.1],.cells [i6 v.2.2.2.2.1,i6 v.2.2.2.2.2.1],.cells [i6 v.2.2.2.2.2.2.1,i6 v.2.2.2.2.2.2.2.1],.cells [i6 v.2.2.2.2.2.2.2.2.1,i6 v.2.2.2.2.2.2.2.2.2]]⟩
def q2zh (C:q2z6) (v:q2zb):Dt q2zf:=(Dt.bnd (C.2.1 ((v.1,v.2.1,v.2.2.1,()),(v.2.2.2.2.2.2.1,v.2.2.2.2.2.2.2.1,()),())) fun r1=>(Dt.ret (r1.2.2,v.2.2.2.1,v.2.2.2.2.1,v.2.2.2.2.2.1,v.2.2.2.2.2.2.1,v.2.2.2.2.2.2.2.1,v.2.2.2.2.2.2.2.2.1,v.2.2.2.2.2.2.2.2.2,r1.1,r1.2.1)))
theorem q2zi C v:q40l (regO (qct f44) 1) false (an [4,5,6,8,9]) q2zc q2zh q2zg C v:=rgI (by kernel_rfl)
abbrev q2zj:Type:=Int×Bool×Int×Int×Int×Int×Int×Int×Int×Int×Int
def q2zk (v:q2zj):St:=⟨[(4,.ptr 0 0),(5,.ptr 1 0),(6,.ptr 2 0),(8,.ptr 3 0),(9,i6 v.1),(18,.bool v.2.1)],[.cells [i6 v.2.2.1,i6 v.2.2.2.1,i6 v.2.2.2.2.1],.cells [i6 v.2.2.2.2.2.1,i6 v.2.2.2.2.2.2.1],.cells [i6 v.2.2.2.2.2.2.2.1,i6 v.2.2.2.2.2.2.2.2.1],.cells [i6 v.2.2.2.2.2.2.2.2.2.1,i6 v.2.2.2.2.2.2.2.2.2.2]]⟩
def q2zl (C:q2z6) (v:q2zf):Dt q2zj:=(Dt.ret (v.1,(v.1 != (0:Int)),v.2.1,v.2.2.1,v.2.2.2.1,v.2.2.2.2.1,v.2.2.2.2.2.1,v.2.2.2.2.2.2.1,v.2.2.2.2.2.2.2.1,v.2.2.2.2.2.2.2.2.1,v.2.2.2.2.2.2.2.2.2))
theorem q2zm C v:q40l (regO (qct f44) 2) false (an [4,5,6,8,9,18]) q2zg q2zl q2zk C v:=rgI (by kernel_rfl)
abbrev q2zn:Type:=Int×Int×Int
def q2zo (v:q2zn):St:=⟨[(6,.ptr 0 0),(7,i6 v.1)],[.cells [i6 v.2.1,i6 v.2.2]]⟩
def q2zp (C:q2z6) (v:q2zj):Dt q2zn:=(Dt.ret (v.1,(0:Int),(0:Int)))
theorem q2zq C v:q40l (regO (qct f44) 3) false (an [6,7]) q2zk q2zp q2zo C v:=rgI (by kernel_rfl)
abbrev q2zr:Type:=Int×Int×Int×Int×Int×Int×Int
def q2zs (v:q2zr):St:=⟨[(6,.ptr 0 0),(8,.ptr 1 0),(9,i6 v.1),(10,.ptr 2 0)],[.cells [i6 v.2.1,i6 v.2.2.1],.cells [i6 v.2.2.2.1,i6 v.2.2.2.2.1],.cells [i6 v.2.2.2.2.2.1,i6 v.2.2.2.2.2.2]]⟩
def q2zt (C:q2z6) (v:q2zj):Dt q2zr:=(Dt.bnd (C.2.1 ((v.2.2.1,v.2.2.2.1,v.2.2.2.2.1,()),(v.2.2.2.2.2.1,v.2.2.2.2.2.2.1,()),())) fun r1=>(Dt.ret (r1.2.2,v.2.2.2.2.2.2.2.1,v.2.2.2.2.2.2.2.2.1,v.2.2.2.2.2.2.2.2.2.1,v.2.2.2.2.2.2.2.2.2.2,r1.1,r1.2.1)))
theorem q2zu C v:q40l (regO (qct f44) 4) false (an [6,8,9,10]) q2zk q2zt q2zs C v:=rgI (by kernel_rfl)
abbrev q2zv:Type:=Int×Bool×Int×Int×Int×Int×Int×Int
def q2zw (v:q2zv):St:=⟨[(6,.ptr 0 0),(8,.ptr 1 0),(9,i6 v.1),(10,.ptr 2 0),(28,.bool v.2.1)],[.cells [i6 v.2.2.1,i6 v.2.2.2.1],.cells [i6 v.2.2.2.2.1,i6 v.2.2.2.2.2.1],.cells [i6 v.2.2.2.2.2.2.1,i6 v.2.2.2.2.2.2.2]]⟩
def q2zx (C:q2z6) (v:q2zr):Dt q2zv:=(Dt.ret (v.1,(v.1 != (0:Int)),v.2.1,v.2.2.1,v.2.2.2.1,v.2.2.2.2.1,v.2.2.2.2.2.1,v.2.2.2.2.2.2))
theorem q2zy C v:q40l (regO (qct f44) 5) false (an [6,8,9,10,28]) q2zs q2zx q2zw C v:=rgI (by kernel_rfl)
def q2zz (C:q2z6) (v:q2zv):Dt q2zn:=(Dt.ret (v.1,(0:Int),(0:Int)))
theorem q300 C v:q40l (regO (qct f44) 6) false (an [6,7]) q2zw q2zz q2zo C v:=rgI (by kernel_rfl)
def q301 (C:q2z6) (v:q2zv):Dt q2zn:=(Dt.bnd (C.1 ((v.2.2.2.2.1,v.2.2.2.2.2.1,()),(v.2.2.2.2.2.2.1,v.2.2.2.2.2.2.2,()),())) fun r1=>(Dt.ret (r1.2.2,r1.1,r1.2.1)))
theorem q302 C v:q40l (regO (qct f44) 7) false (an [6,7]) q2zw q301 q2zo C v:=rgI (by kernel_rfl)
def q303 (d:Nat) (x:q2z2):Option q2z3 :=
 (q2zd (q2z7 d) (x.1.1,x.1.2.1,x.1.2.2.1,x.2.1.1,x.2.1.2.1,x.2.1.2.2.1,x.2.2.1.1,x.2.2.1.2.1)).eval fun y0 =>
 (q2zh (q2z7 d) y0).eval fun y1 =>
 (q2zl (q2z7 d) y1).eval fun y2 =>
 bif y2.2.1 then ((q2zp (q2z7 d) y2).eval fun y3 =>
 some (y3.2.1,y3.2.2,y3.1)) else ((q2zt (q2z7 d) y2).eval fun y4 =>
 (q2zx (q2z7 d) y4).eval fun y5 =>
 bif y5.2.1 then ((q2zz (q2z7 d) y5).eval fun y6 =>
 some (y6.2.1,y6.2.2,y6.1)) else ((q301 (q2z7 d) y5).eval fun y7 =>
 some (y7.2.1,y7.2.2,y7.1)))
theorem q304 (d:Nat):COK prog (q2z5 (q303 d)):=by
 have hm:prog.follows .mixedOrders=true:=mixed
 have hT:=tys
 have hC0:OrcOK prog (orc (q2z8 (q2z7 d))):=qcn (by
  intro S hS
  simp only [q2z8,List.mem_cons,List.not_mem_nil,or_false] at hS
  rcases hS with rfl | rfl
  · exact q22n d
  · exact q265 d)
 have hC:OrcOK prog (orc (q2z8 (q2z7 d))):=hC0
 refine q8c (c:=qct f44) (fn:=f44) hT (by kernel_rfl) (by kernel_rfl) (by decide) fun x r h w0 φ0 Q hend=>?_
 replace h:q303 d x=some r:=h
 unfold q303 at h
 show Run prog w0 φ0 36 (qct f44) ⟨[(0,.agg [.int .i64 x.1.1,.int .i64 x.1.2.1,.int .i64 x.1.2.2.1]),(1,.agg [.int .i64 x.2.1.1,.int .i64 x.2.1.2.1,.int .i64 x.2.1.2.2.1]),(2,.agg [.int .i64 x.2.2.1.1,.int .i64 x.2.2.1.2.1])],[]⟩ Q
 refine q3yo hm hT hC (q2ze (q2z7 d) (x.1.1,x.1.2.1,x.1.2.2.1,x.2.1.1,x.2.1.2.1,x.2.1.2.2.1,x.2.2.1.1,x.2.2.1.2.1)) h fun y0 h=>?_
 refine q3yo hm hT hC (q2zi (q2z7 d) y0) h fun y1 h=>?_
 refine q7w ?_
 refine q3yo hm hT hC (q2zm (q2z7 d) y1) h fun y2 h=>?_
 refine q80 (v:=y2.2.1) (by kernel_rfl) h ?_ ?_
 ·
  intro h
  refine q3yo hm hT hC (q2zq (q2z7 d) y2) h fun y3 h=>?_
  refine q7v (q7k ?_)
  cases h
  exact (hend _ (by kernel_rfl)).2
 ·
  intro h
  refine q7s (q7i ?_)
  refine q3yo hm hT hC (q2zu (q2z7 d) y2) h fun y4 h=>?_
  refine q7w ?_
  refine q3yo hm hT hC (q2zy (q2z7 d) y4) h fun y5 h=>?_
  refine q80 (v:=y5.2.1) (by kernel_rfl) h ?_ ?_
  ·
   intro h
   refine q3yo hm hT hC (q300 (q2z7 d) y5) h fun y6 h=>?_
   refine q7v (q7k ?_)
   cases h
   exact (hend _ (by kernel_rfl)).2
  ·
   intro h
   refine q7s (q7i ?_)
   refine q3yo hm hT hC (q302 (q2z7 d) y5) h fun y7 h=>?_
   refine q7v ?_
   cases h
   exact (hend _ (by kernel_rfl)).2
abbrev q305:List Pk:=[.row qj5 true,.row Rii true]
abbrev q306:Type:=qj6×Dii×Unit
abbrev q307:Type:=Int×Int×Int
def q308 (r:q307):LV×List Ob:=(.tup [.agg [.int .i64 r.1,.int .i64 r.2.1],.int .i64 r.2.2],[])
def q309 (F:q306→Option q307):Go.Tx.Spec:=⟨29,q305,q307,F,q308⟩
abbrev q30a:Type:=(q2z2→Option q2z3)×(q2wg→Option q2wh)×(q2xg→Option q2xh)×Unit
def q30b (d:Nat):q30a:=(q303 d,q2xd d,q2y1 d,())
def q30c (C:q30a):List Go.Tx.Spec:=[q2z5 C.1,q2wj C.2.1,q2xj C.2.2.1]
abbrev q30d:Type:=List Diii×Int×Int
def q30e (v:q30d):St:=⟨[(0,.agg [.fz Riii v.1]),(1,.agg [i6 v.2.1,i6 v.2.2])],[]⟩
abbrev q30f:Type:=List Diii×Int×Int×Int×Int
def q30g (v:q30f):St:=⟨[(2,.ptr 0 0),(3,.ptr 1 0),(4,.ptr 2 0)],[.cells [.fz Riii v.1],.cells [i6 v.2.1,i6 v.2.2.1],.cells [i6 v.2.2.2.1,i6 v.2.2.2.2]]⟩
def q30h (C:q30a) (v:q30d):Dt q30f:=(Dt.ret (v.1,v.2.1,v.2.2,(0:Int),(0:Int)))
abbrev q40m {V Y:Type}:=@rg q30a V Y tysT (fun C=>(orc (q30c C))) 29
theorem q30i C v:q40m (regO (qct f29) 0) false [(2,(.box [.val Riii])),(3,.any),(4,.any)] q30e q30h q30g C v:=rgI (by kernel_rfl)
abbrev q30j:Type:=Int×List Diii×Int×Int×Int×Int
def q30k (v:q30j):St:=⟨[(2,.ptr 0 0),(3,.ptr 1 0),(4,.ptr 2 0),(6,i6 v.1)],[.cells [.fz Riii v.2.1],.cells [i6 v.2.2.1,i6 v.2.2.2.1],.cells [i6 v.2.2.2.2.1,i6 v.2.2.2.2.2]]⟩
def q30l (C:q30a) (v:q30f):Dt q30j:=(Dt.bnd (C.2.1 ((v.1,()),(v.2.1,v.2.2.1,()),(v.2.1,v.2.2.1,()),())) fun r1=>(Dt.ret (r1,v.1,v.2.1,v.2.2.1,v.2.2.2.1,v.2.2.2.2)))
theorem q30m C v:q40m (regO (qct f29) 1) false [(2,(.box [.val Riii])),(3,.any),(4,.any),(6,.any)] q30g q30l q30k C v:=rgI (by kernel_rfl)
abbrev q30n:Type:=Int×Bool×List Diii×Int×Int×Int×Int
def q30o (v:q30n):St:=⟨[(2,.ptr 0 0),(3,.ptr 1 0),(4,.ptr 2 0),(6,i6 v.1),(14,.bool v.2.1)],[.cells [.fz Riii v.2.2.1],.cells [i6 v.2.2.2.1,i6 v.2.2.2.2.1],.cells [i6 v.2.2.2.2.2.1,i6 v.2.2.2.2.2.2]]⟩
def q30p (C:q30a) (v:q30j):Dt q30n:=(Dt.ret (v.1,(v.1 != (0:Int)),v.2.1,v.2.2.1,v.2.2.2.1,v.2.2.2.2.1,v.2.2.2.2.2))
theorem q30q C v:q40m (regO (qct f29) 2) false [(2,(.box [.val Riii])),(3,.any),(4,.any),(6,.any),(14,.any)] q30k q30p q30o C v:=rgI (by kernel_rfl)
abbrev q30r:Type:=Int×Int×Int
def q30s (v:q30r):St:=⟨[(4,.ptr 0 0),(5,i6 v.1)],[.cells [i6 v.2.1,i6 v.2.2]]⟩
def q30t (C:q30a) (v:q30n):Dt q30r:=(Dt.ret (v.1,(0:Int),(0:Int)))
theorem q30u C v:q40m (regO (qct f29) 3) false (an [4,5]) q30o q30t q30s C v:=rgI (by kernel_rfl)
abbrev q30v:Type:=Int×Int×Int×Int×Int×Int×Int×Int×Int×Int
def q30w (v:q30v):St:=⟨[(3,.ptr 0 0),(4,.ptr 1 0),(7,.ptr 2 0),(8,.ptr 3 0)],[.cells [i6 v.1,i6 v.2.1],.cells [i6 v.2.2.1,i6 v.2.2.2.1],.cells [i6 v.2.2.2.2.1,i6 v.2.2.2.2.2.1,i6 v.2.2.2.2.2.2.1],.cells [i6 v.2.2.2.2.2.2.2.1,i6 v.2.2.2.2.2.2.2.2.1,i6 v.2.2.2.2.2.2.2.2.2]]⟩
def q30x (C:q30a) (v:q30n):Dt q30v:=(Dt.bnd (C.2.2.1 ((v.2.2.1,()),(v.2.2.2.1,v.2.2.2.2.1,()),())) fun r1=>(Dt.ret (v.2.2.2.1,v.2.2.2.2.1,v.2.2.2.2.2.1,v.2.2.2.2.2.2,r1.1,r1.2.1,r1.2.2.1,r1.2.2.2.1,r1.2.2.2.2.1,r1.2.2.2.2.2)))
theorem q30y C v:q40m (regO (qct f29) 4) false (an [3,4,7,8]) q30o q30x q30w C v:=rgI (by kernel_rfl)
def q30z (C:q30a) (v:q30v):Dt q30r:=(Dt.bnd (C.1 ((v.2.2.2.2.1,v.2.2.2.2.2.1,v.2.2.2.2.2.2.1,()),(v.2.2.2.2.2.2.2.1,v.2.2.2.2.2.2.2.2.1,v.2.2.2.2.2.2.2.2.2,()),(v.1,v.2.1,()),())) fun r1=>(Dt.ret (r1.2.2,r1.1,r1.2.1)))
theorem q310 C v:q40m (regO (qct f29) 5) false (an [4,5]) q30w q30z q30s C v:=rgI (by kernel_rfl)
def q311 (d:Nat) (x:q306):Option q307 :=
 (q30h (q30b d) (x.1.1,x.2.1.1,x.2.1.2.1)).eval fun y0 =>
 (q30l (q30b d) y0).eval fun y1 =>
 (q30p (q30b d) y1).eval fun y2 =>
 bif y2.2.1 then ((q30t (q30b d) y2).eval fun y3 =>
 some (y3.2.1,y3.2.2,y3.1)) else ((q30x (q30b d) y2).eval fun y4 =>
 (q30z (q30b d) y4).eval fun y5 =>
 some (y5.2.1,y5.2.2,y5.1))
theorem q312 (d:Nat):COK prog (q309 (q311 d)):=by
 have hm:prog.follows .mixedOrders=true:=mixed
 have hT:=tys
 have hC0:OrcOK prog (orc (q30c (q30b d))):=qcn (by
  intro S hS
  simp only [q30c,List.mem_cons,List.not_mem_nil,or_false] at hS
  rcases hS with rfl | rfl | rfl
  · exact q304 d
  · exact q2xe d
  · exact q2y2 d)
 have hC:OrcOK prog (orc (q30c (q30b d))):=hC0
 refine q8c (c:=qct f29) (fn:=f29) hT (by kernel_rfl) (by kernel_rfl) (by decide) fun x r h w0 φ0 Q hend=>?_
 replace h:q311 d x=some r:=h
 unfold q311 at h
 show Run prog w0 φ0 29 (qct f29) ⟨[(0,.agg [.fz Riii x.1.1]),(1,.agg [.int .i64 x.2.1.1,.int .i64 x.2.1.2.1])],[]⟩ Q
 refine q3yo hm hT hC (q30i (q30b d) (x.1.1,x.2.1.1,x.2.1.2.1)) h fun y0 h=>?_
 refine q7w ?_
 refine q3yo hm hT hC (q30m (q30b d) y0) h fun y1 h=>?_
 refine q3yo hm hT hC (q30q (q30b d) y1) h fun y2 h=>?_
 refine q80 (v:=y2.2.1) (by kernel_rfl) h ?_ ?_
 ·
  intro h
  refine q3yo hm hT hC (q30u (q30b d) y2) h fun y3 h=>?_
  refine q7v (q7k ?_)
  cases h
  exact (hend _ (by kernel_rfl)).2
 ·
  intro h
  refine q7s (q7i ?_)
  refine q3yo hm hT hC (q30y (q30b d) y2) h fun y4 h=>?_
  refine q3yo hm hT hC (q310 (q30b d) y4) h fun y5 h=>?_
  refine q7v ?_
  cases h
  exact (hend _ (by kernel_rfl)).2
abbrev q313:List Pk:=[.row qj5 true,.row Rii true]
abbrev q314:Type:=qj6×Dii×Unit
abbrev q315:Type:=Int
def q316 (r:q315):LV×List Ob:=(.int .i64 r,[])
def q317 (F:q314→Option q315):Go.Tx.Spec:=⟨79,q313,q315,F,q316⟩
abbrev q318:Type:=(q2xg→Option q2xh)×Unit
def q319 (d:Nat):q318:=(q2y1 d,())
def q31a (C:q318):List Go.Tx.Spec:=[q2xj C.1]
abbrev q31b:Type:=List Diii×Int×Int
def q31c (v:q31b):St:=⟨[(0,.agg [.fz Riii v.1]),(1,.agg [i6 v.2.1,i6 v.2.2])],[]⟩
abbrev q31d:Type:=List Diii×Int×Int
def q31e (v:q31d):St:=⟨[(2,.ptr 0 0),(3,.ptr 1 0)],[.cells [.fz Riii v.1],.cells [i6 v.2.1,i6 v.2.2]]⟩
def q31f (C:q318) (v:q31b):Dt q31d:=(Dt.ret (v.1,v.2.1,v.2.2))
abbrev q40n {V Y:Type}:=@rg q318 V Y tysT (fun C=>(orc (q31a C))) 18
theorem q31g C v:q40n (regO (qct f79) 0) false [(2,(.box [.val Riii])),(3,.any)] q31c q31f q31e C v:=rgI (by kernel_rfl)
abbrev q31h:Type:=Int×Int×Int×Int×Int×Int
def q31i (v:q31h):St:=⟨[(5,.ptr 0 0),(6,.ptr 1 0)],[.cells [i6 v.1,i6 v.2.1,i6 v.2.2.1],.cells [i6 v.2.2.2.1,i6 v.2.2.2.2.1,i6 v.2.2.2.2.2]]⟩
def q31j (C:q318) (v:q31d):Dt q31h:=(Dt.bnd (C.1 ((v.1,()),(v.2.1,v.2.2,()),())) fun r1=>(Dt.ret (r1.1,r1.2.1,r1.2.2.1,r1.2.2.2.1,r1.2.2.2.2.1,r1.2.2.2.2.2)))
theorem q31k C v:q40n (regO (qct f79) 1) false (an [5,6]) q31e q31j q31i C v:=rgI (by kernel_rfl)
abbrev q31l:Type:=Int
def q31m (v:q31l):St:=⟨[(4,i6 v)],[]⟩
def q31n (C:q318) (v:q31h):Dt q31l:=(Dt.ret (IntKind.wrap .i64 (v.2.2.1 - v.2.2.2.2.2)))
theorem q31o C v:q40n (regO (qct f79) 2) false [(4,.any)] q31i q31n q31m C v:=rgI (by kernel_rfl)
def q31p (d:Nat) (x:q314):Option q315 :=
 (q31f (q319 d) (x.1.1,x.2.1.1,x.2.1.2.1)).eval fun y0 =>
 (q31j (q319 d) y0).eval fun y1 =>
 (q31n (q319 d) y1).eval fun y2 =>
 some y2
theorem q31q (d:Nat):COK prog (q317 (q31p d)):=by
 have hm:prog.follows .mixedOrders=true:=mixed
 have hT:=tys
 have hC0:OrcOK prog (orc (q31a (q319 d))):=qcn (by
  intro S hS
  simp only [q31a,List.mem_cons,List.not_mem_nil,or_false] at hS
  subst hS;exact q2y2 d)
 have hC:OrcOK prog (orc (q31a (q319 d))):=hC0
 refine q8c (c:=qct f79) (fn:=f79) hT (by kernel_rfl) (by kernel_rfl) (by decide) fun x r h w0 φ0 Q hend=>?_
 replace h:q31p d x=some r:=h
 unfold q31p at h
 show Run prog w0 φ0 18 (qct f79) ⟨[(0,.agg [.fz Riii x.1.1]),(1,.agg [.int .i64 x.2.1.1,.int .i64 x.2.1.2.1])],[]⟩ Q
 refine q3yo hm hT hC (q31g (q319 d) (x.1.1,x.2.1.1,x.2.1.2.1)) h fun y0 h=>?_
 refine q3yo hm hT hC (q31k (q319 d) y0) h fun y1 h=>?_
 refine q3yo hm hT hC (q31o (q319 d) y1) h fun y2 h=>?_
 refine q7v ?_
 cases h
 exact (hend _ (by kernel_rfl)).2
abbrev q31r:List Pk:=[.row qj5 true,.row Rii true]
abbrev q31s:Type:=qj6×Dii×Unit
abbrev q31t:Type:=Int×Int
def q31u (r:q31t):LV×List Ob:=(.tup [.int .i64 r.1,.int .i64 r.2],[])
def q31v (F:q31s→Option q31t):Go.Tx.Spec:=⟨31,q31r,q31t,F,q31u⟩
abbrev q31w:Type:=(q2wg→Option q2wh)×(q314→Option q315)×Unit
def q31x (d:Nat):q31w:=(q2xd d,q31p d,())
def q31y (C:q31w):List Go.Tx.Spec:=[q2wj C.1,q317 C.2.1]
abbrev q31z:Type:=List Diii×Int×Int
def q320 (v:q31z):St:=⟨[(0,.agg [.fz Riii v.1]),(1,.agg [i6 v.2.1,i6 v.2.2])],[]⟩
abbrev q321:Type:=List Diii×Int×Int
def q322 (v:q321):St:=⟨[(2,.ptr 0 0),(3,.ptr 1 0)],[.cells [.fz Riii v.1],.cells [i6 v.2.1,i6 v.2.2]]⟩
def q323 (C:q31w) (v:q31z):Dt q321:=(Dt.ret (v.1,v.2.1,v.2.2))
abbrev q40o {V Y:Type}:=@rg q31w V Y tysT (fun C=>(orc (q31y C))) 17
theorem q324 C v:q40o (regO (qct f31) 0) false [(2,(.box [.val Riii])),(3,.any)] q320 q323 q322 C v:=rgI (by kernel_rfl)
abbrev q325:Type:=Int×List Diii×Int×Int
def q326 (v:q325):St:=⟨[(2,.ptr 0 0),(3,.ptr 1 0),(6,i6 v.1)],[.cells [.fz Riii v.2.1],.cells [i6 v.2.2.1,i6 v.2.2.2]]⟩
def q327 (C:q31w) (v:q321):Dt q325:=(Dt.bnd (C.1 ((v.1,()),(v.2.1,v.2.2,()),(v.2.1,v.2.2,()),())) fun r1=>(Dt.ret (r1,v.1,v.2.1,v.2.2)))
theorem q328 C v:q40o (regO (qct f31) 1) false [(2,(.box [.val Riii])),(3,.any),(6,.any)] q322 q327 q326 C v:=rgI (by kernel_rfl)
abbrev q329:Type:=Int×Bool×List Diii×Int×Int
def q32a (v:q329):St:=⟨[(2,.ptr 0 0),(3,.ptr 1 0),(6,i6 v.1),(12,.bool v.2.1)],[.cells [.fz Riii v.2.2.1],.cells [i6 v.2.2.2.1,i6 v.2.2.2.2]]⟩
def q32b (C:q31w) (v:q325):Dt q329:=(Dt.ret (v.1,(v.1 != (0:Int)),v.2.1,v.2.2.1,v.2.2.2))
theorem q32c C v:q40o (regO (qct f31) 2) false [(2,(.box [.val Riii])),(3,.any),(6,.any),(12,.any)] q326 q32b q32a C v:=rgI (by kernel_rfl)
abbrev q32d:Type:=Int×Int
def q32e (v:q32d):St:=⟨[(4,i6 v.1),(5,i6 v.2)],[]⟩
def q32f (C:q31w) (v:q329):Dt q32d:=(Dt.ret ((0:Int),v.1))
theorem q32g C v:q40o (regO (qct f31) 3) false (an [4,5]) q32a q32f q32e C v:=rgI (by kernel_rfl)
def q32h (C:q31w) (v:q329):Dt q32d:=(Dt.bnd (C.2.1 ((v.2.2.1,()),(v.2.2.2.1,v.2.2.2.2,()),())) fun r1=>(Dt.ret (r1,(0:Int))))
theorem q32i C v:q40o (regO (qct f31) 4) false (an [4,5]) q32a q32h q32e C v:=rgI (by kernel_rfl)
def q32j (d:Nat) (x:q31s):Option q31t :=
 (q323 (q31x d) (x.1.1,x.2.1.1,x.2.1.2.1)).eval fun y0 =>
 (q327 (q31x d) y0).eval fun y1 =>
 (q32b (q31x d) y1).eval fun y2 =>
 bif y2.2.1 then ((q32f (q31x d) y2).eval fun y3 =>
 some y3) else ((q32h (q31x d) y2).eval fun y4 =>
 some y4)
theorem q32k (d:Nat):COK prog (q31v (q32j d)):=by
 have hm:prog.follows .mixedOrders=true:=mixed
 have hT:=tys
 have hC0:OrcOK prog (orc (q31y (q31x d))):=qcn (by
  intro S hS
  simp only [q31y,List.mem_cons,List.not_mem_nil,or_false] at hS
  rcases hS with rfl | rfl
  · exact q2xe d
  · exact q31q d)
 have hC:OrcOK prog (orc (q31y (q31x d))):=hC0
 refine q8c (c:=qct f31) (fn:=f31) hT (by kernel_rfl) (by kernel_rfl) (by decide) fun x r h w0 φ0 Q hend=>?_
 replace h:q32j d x=some r:=h
 unfold q32j at h
 show Run prog w0 φ0 17 (qct f31) ⟨[(0,.agg [.fz Riii x.1.1]),(1,.agg [.int .i64 x.2.1.1,.int .i64 x.2.1.2.1])],[]⟩ Q
 refine q3yo hm hT hC (q324 (q31x d) (x.1.1,x.2.1.1,x.2.1.2.1)) h fun y0 h=>?_
 refine q7w ?_
 refine q3yo hm hT hC (q328 (q31x d) y0) h fun y1 h=>?_
 refine q3yo hm hT hC (q32c (q31x d) y1) h fun y2 h=>?_
 refine q80 (v:=y2.2.1) (by kernel_rfl) h ?_ ?_
 ·
  intro h
  refine q3yo hm hT hC (q32g (q31x d) y2) h fun y3 h=>?_
  refine q7v (q7k ?_)
  cases h
  exact (hend _ (by kernel_rfl)).2
 ·
  intro h
  refine q7s (q7i ?_)
  refine q3yo hm hT hC (q32i (q31x d) y2) h fun y4 h=>?_
  refine q7v ?_
  cases h
  exact (hend _ (by kernel_rfl)).2
abbrev q32l:List Pk:=[.row qj5 true,.row Rii true,.row Rii true]
abbrev q32m:Type:=qj6×Dii×Dii×Unit
abbrev q32n:Type:=List Dii
def q32o (r:q32n):LV×List Ob:=(.rs 0,[.rows Rii r])
def q32p (F:q32m→Option q32n):Go.Tx.Spec:=⟨81,q32l,q32n,F,q32o⟩
abbrev q32q:Type:=(q314→Option q315)×(q2v6→Option q2v7)×Unit
def q32r (d:Nat):q32q:=(q31p d,q2wd d,())
def q32s (C:q32q):List Go.Tx.Spec:=[q317 C.1,q2v9 C.2.1]
abbrev q32t:Type:=List Diii×Int×Int×Int×Int
def q32u (v:q32t):St:=⟨[(0,.agg [.fz Riii v.1]),(1,.agg [i6 v.2.1,i6 v.2.2.1]),(2,.agg [i6 v.2.2.2.1,i6 v.2.2.2.2])],[]⟩
abbrev q32v:Type:=List Diii×Int×Int×Int×Int
def q32w (v:q32v):St:=⟨[(3,.ptr 0 0),(4,.ptr 1 0),(5,.ptr 2 0)],[.cells [.fz Riii v.1],.cells [i6 v.2.1,i6 v.2.2.1],.cells [i6 v.2.2.2.1,i6 v.2.2.2.2]]⟩
def q32x (C:q32q) (v:q32t):Dt q32v:=(Dt.ret (v.1,v.2.1,v.2.2.1,v.2.2.2.1,v.2.2.2.2))
abbrev q40p {V Y:Type}:=@rg q32q V Y tysT (fun C=>(orc (q32s C))) 45
theorem q32y C v:q40p (regO (qct f81) 0) false [(3,(.box [.val Riii])),(4,.any),(5,.any)] q32u q32x q32w C v:=rgI (by kernel_rfl)
abbrev q32z:Type:=List Diii×Int×Int×Int×Int×List Dii
def q330 (v:q32z):St:=⟨[(3,.ptr 0 0),(4,.ptr 1 0),(5,.ptr 2 0),(7,.rs 3)],[.cells [.fz Riii v.1],.cells [i6 v.2.1,i6 v.2.2.1],.cells [i6 v.2.2.2.1,i6 v.2.2.2.2.1],.rows Rii v.2.2.2.2.2]⟩
def q331 (C:q32q) (v:q32v):Dt q32z:=(Dt.ret (v.1,v.2.1,v.2.2.1,v.2.2.2.1,v.2.2.2.2,([]:List Dii)))
theorem q332 C v:q40p (regO (qct f81) 1) false [(3,(.box [.val Riii])),(4,.any),(5,.any),(7,(.own Rii))] q32w q331 q330 C v:=rgI (by kernel_rfl)
abbrev q333:Type:=Int×List Diii×Int×Int×Int×Int×List Dii
def q334 (v:q333):St:=⟨[(3,.ptr 0 0),(4,.ptr 1 0),(5,.ptr 2 0),(7,.rs 3),(8,i6 v.1)],[.cells [.fz Riii v.2.1],.cells [i6 v.2.2.1,i6 v.2.2.2.1],.cells [i6 v.2.2.2.2.1,i6 v.2.2.2.2.2.1],.rows Rii v.2.2.2.2.2.2]⟩
def q335 (C:q32q) (v:q32z):Dt q333:=(Dt.bnd (C.1 ((v.1,()),(v.2.1,v.2.2.1,()),())) fun r1=>(Dt.ret (r1,v.1,v.2.1,v.2.2.1,v.2.2.2.1,v.2.2.2.2.1,v.2.2.2.2.2)))
theorem q336 C v:q40p (regO (qct f81) 2) false [(3,(.box [.val Riii])),(4,.any),(5,.any),(7,(.own Rii)),(8,.any)] q330 q335 q334 C v:=rgI (by kernel_rfl)
abbrev q337:Type:=Int×List Diii×List Dii×List qj9
def q338 (v:q337):St:=⟨[(3,.ptr 0 0),(7,.rs 1),(8,i6 v.1),(9,.rs 2)],[.cells [.fz Riii v.2.1],.rows Rii v.2.2.1,.rows qj8 v.2.2.2]⟩
def q339 (C:q32q) (v:q333):Dt q337:=(Dt.bnd (C.2.1 ((v.2.1,()),(v.2.2.1,v.2.2.2.1,()),(v.2.2.2.2.1,v.2.2.2.2.2.1,()),())) fun r1=>(Dt.ret (v.1,v.2.1,v.2.2.2.2.2.2,r1)))
theorem q33a C v:q40p (regO (qct f81) 3) false [(3,(.box [.val Riii])),(7,(.own Rii)),(8,.any),(9,(.own qj8))] q334 q339 q338 C v:=rgI (by kernel_rfl)
abbrev q33b:Type:=Int×Int×List Diii×List Dii×List qj9
def q33c (v:q33b):St:=⟨[(3,.ptr 0 0),(7,.rs 1),(8,i6 v.1),(9,.rs 2),(10,i6 v.2.1)],[.cells [.fz Riii v.2.2.1],.rows Rii v.2.2.2.1,.rows qj8 v.2.2.2.2]⟩
def q33d (C:q32q) (v:q337):Dt q33b:=(Dt.ret (v.1,(0:Int),v.2.1,v.2.2.1,v.2.2.2))
theorem q33e C v:q40p (regO (qct f81) 4) false [(3,(.box [.val Riii])),(7,(.own Rii)),(8,.any),(9,(.own qj8)),(10,.any)] q338 q33d q33c C v:=rgI (by kernel_rfl)
abbrev q33f:Type:=Int×Int×Bool×List Diii×List Dii×List qj9
def q33g (v:q33f):St:=⟨[(3,.ptr 0 0),(7,.rs 1),(8,i6 v.1),(9,.rs 2),(10,i6 v.2.1),(22,.bool v.2.2.1)],[.cells [.fz Riii v.2.2.2.1],.rows Rii v.2.2.2.2.1,.rows qj8 v.2.2.2.2.2]⟩
def q33h (C:q32q) (v:q33b):Dt q33f:=(Dt.ret (v.1,v.2.1,(decide (v.2.1<(List.length v.2.2.2.2:Int))),v.2.2.1,v.2.2.2.1,v.2.2.2.2))
theorem q33i C v:q40p (regO (qct f81) 5) false [(3,(.box [.val Riii])),(7,(.own Rii)),(8,.any),(9,(.own qj8)),(10,.any),(22,.any)] q33c q33h q33g C v:=rgI (by kernel_rfl)
abbrev q33j:Type:=Int×Int×Int×List Diii×List Dii×List qj9
def q33k (v:q33j):St:=⟨[(3,.ptr 0 0),(7,.rs 1),(8,i6 v.1),(9,.rs 2),(10,i6 v.2.1),(11,i6 v.2.2.1)],[.cells [.fz Riii v.2.2.2.1],.rows Rii v.2.2.2.2.1,.rows qj8 v.2.2.2.2.2]⟩
def q33l (C:q32q) (v:q33f):Dt q33j:=(Dt.ite (inB v.2.1 (List.length v.2.2.2.2.2)) (Dt.bnd (C.1 ((v.2.2.2.1,()),((elt qja v.2.2.2.2.2 (v.2.1).toNat).1,(elt qja v.2.2.2.2.2 (v.2.1).toNat).2.1,()),())) fun r1=>(Dt.ret (v.1,v.2.1,r1,v.2.2.2.1,v.2.2.2.2.1,v.2.2.2.2.2))) Dt.fail)
theorem q33m C v:q40p (regO (qct f81) 7) true [(3,(.box [.val Riii])),(7,(.own Rii)),(8,.any),(9,(.own qj8)),(10,.any),(11,.any)] q33g q33l q33k C v:=rgI (by kernel_rfl)
abbrev q33n:Type:=Int×Int×Int×Bool×List Diii×List Dii×List qj9
def q33o (v:q33n):St:=⟨[(3,.ptr 0 0),(7,.rs 1),(8,i6 v.1),(9,.rs 2),(10,i6 v.2.1),(11,i6 v.2.2.1),(34,.bool v.2.2.2.1)],[.cells [.fz Riii v.2.2.2.2.1],.rows Rii v.2.2.2.2.2.1,.rows qj8 v.2.2.2.2.2.2]⟩
def q33p (C:q32q) (v:q33j):Dt q33n:=(Dt.ret (v.1,v.2.1,v.2.2.1,(v.2.2.1 != v.1),v.2.2.2.1,v.2.2.2.2.1,v.2.2.2.2.2))
theorem q33q C v:q40p (regO (qct f81) 8) false [(3,(.box [.val Riii])),(7,(.own Rii)),(8,.any),(9,(.own qj8)),(10,.any),(11,.any),(34,.any)] q33k q33p q33o C v:=rgI (by kernel_rfl)
abbrev q33r:Type:=Int×Int×List Diii×List Dii×List qj9
def q33s (v:q33r):St:=⟨[(3,.ptr 0 0),(7,.rs 1),(9,.rs 2),(10,i6 v.1),(11,i6 v.2.1)],[.cells [.fz Riii v.2.2.1],.rows Rii v.2.2.2.1,.rows qj8 v.2.2.2.2]⟩
def q33t (C:q32q) (v:q33n):Dt q33r:=(Dt.ite (inB v.2.1 (List.length v.2.2.2.2.2.2)) (Dt.ite (apB (List.length v.2.2.2.2.2.1) (List.length ([((elt qja v.2.2.2.2.2.2 (v.2.1).toNat).1,(elt qja v.2.2.2.2.2.2 (v.2.1).toNat).2.1,())]:List Dii))) (Dt.ret (v.2.1,v.2.2.1,v.2.2.2.2.1,(v.2.2.2.2.2.1++([((elt qja v.2.2.2.2.2.2 (v.2.1).toNat).1,(elt qja v.2.2.2.2.2.2 (v.2.1).toNat).2.1,())]:List Dii)),v.2.2.2.2.2.2)) Dt.fail) Dt.fail)
theorem q33u C v:q40p (regO (qct f81) 9) false [(3,(.box [.val Riii])),(7,(.own Rii)),(9,(.own qj8)),(10,.any),(11,.any)] q33o q33t q33s C v:=rgI (by kernel_rfl)
def q33v (C:q32q) (v:q33r):Dt q33b:=(Dt.ret (v.2.1,v.1,v.2.2.1,v.2.2.2.1,v.2.2.2.2))
theorem q33w C v:q40p (regO (qct f81) 10) false [(3,(.box [.val Riii])),(7,(.own Rii)),(8,.any),(9,(.own qj8)),(10,.any)] q33s q33v q33c C v:=rgI (by kernel_rfl)
def q33x (C:q32q) (v:q33b):Dt q33b:=(Dt.ret (v.1,(IntKind.wrap .i64 (v.2.1+(1:Int))),v.2.2.1,v.2.2.2.1,v.2.2.2.2))
theorem q33y C v:q40p (regO (qct f81) 6) false [(3,(.box [.val Riii])),(7,(.own Rii)),(8,.any),(9,(.own qj8)),(10,.any)] q33c q33x q33c C v:=rgI (by kernel_rfl)
def q33z  (d:Nat) (self1:(Int×Int×List Diii×List Dii×List qj9)→Option q32n) (z:Int×Int×List Diii×List Dii×List qj9):Option (q32n) :=
 (q33x (q32r d) z).eval fun y6 =>
 self1 y6
abbrev q340:Type:=List Dii
def q341 (v:q340):St:=⟨[(6,.rs 0)],[.rows Rii v]⟩
def q342 (C:q32q) (v:q33f):Dt q340:=(Dt.ret v.2.2.2.2.1)
theorem q343 C v:q40p (regO (qct f81) 11) false [(6,(.own Rii))] q33g q342 q341 C v:=rgI (by kernel_rfl)
def q344 (d:Nat) (self1:(Int×Int×List Diii×List Dii×List qj9)→Option q32n) (x1:Int×Int×List Diii×List Dii×List qj9):Option q32n :=
 (q33h (q32r d) x1).eval fun y5 =>
 bif y5.2.2.1 then ((q33l (q32r d) y5).eval fun y7 =>
 (q33p (q32r d) y7).eval fun y8 =>
 bif y8.2.2.2.1 then ((q33t (q32r d) y8).eval fun y9 =>
 (q33v (q32r d) y9).eval fun y10 =>
 q33z d self1 y10) else (q33z d self1 (y8.1,y8.2.1,y8.2.2.2.2.1,y8.2.2.2.2.2.1,y8.2.2.2.2.2.2))) else ((q342 (q32r d) y5).eval fun y11 =>
 some y11)
def q345 (d:Nat) (x:q32m):Option q32n :=
 (q32x (q32r d) (x.1.1,x.2.1.1,x.2.1.2.1,x.2.2.1.1,x.2.2.1.2.1)).eval fun y0 =>
 (q331 (q32r d) y0).eval fun y1 =>
 (q335 (q32r d) y1).eval fun y2 =>
 (q339 (q32r d) y2).eval fun y3 =>
 (q33d (q32r d) y3).eval fun y4 =>
 iter (q344 d ) d y4
theorem q346 (d:Nat):COK prog (q32p (q345 d)):=by
 have hm:prog.follows .mixedOrders=true:=mixed
 have hT:=tys
 have hC0:OrcOK prog (orc (q32s (q32r d))):=qcn (by
  intro S hS
  simp only [q32s,List.mem_cons,List.not_mem_nil,or_false] at hS
  rcases hS with rfl | rfl
  · exact q31q d
  · exact q2we d)
 have hC:OrcOK prog (orc (q32s (q32r d))):=hC0
 refine q8c (c:=qct f81) (fn:=f81) hT (by kernel_rfl) (by kernel_rfl) (by decide) fun x r h w0 φ0 Q hend=>?_
 replace h:q345 d x=some r:=h
 unfold q345 at h
 show Run prog w0 φ0 45 (qct f81) ⟨[(0,.agg [.fz Riii x.1.1]),(1,.agg [.int .i64 x.2.1.1,.int .i64 x.2.1.2.1]),(2,.agg [.int .i64 x.2.2.1.1,.int .i64 x.2.2.1.2.1])],[]⟩ Q
 refine q3yo hm hT hC (q32y (q32r d) (x.1.1,x.2.1.1,x.2.1.2.1,x.2.2.1.1,x.2.2.1.2.1)) h fun y0 h=>?_
 refine q3yo hm hT hC (q332 (q32r d) y0) h fun y1 h=>?_
 refine q3yo hm hT hC (q336 (q32r d) y1) h fun y2 h=>?_
 refine q3yo hm hT hC (q33a (q32r d) y2) h fun y3 h=>?_
 refine q7w ?_
 refine q3yo hm hT hC (q33e (q32r d) y3) h fun y4 h=>?_
 refine q7x ?_
 refine q82 (G:=iter (q344 d )) (S:=(fun x1=>⟨[(3,.ptr 0 0),(7,.rs 1),(8,i6 x1.1),(9,.rs 2),(10,i6 x1.2.1)],[.cells [.fz Riii x1.2.2.1],.rows Rii x1.2.2.2.1,.rows qj8 x1.2.2.2.2]⟩:Int×Int×List Diii×List Dii×List qj9→St)) (fun _=>rfl) ?_ d _ h
 intro n1 x1 h K1 hn1
 replace h:q344 d  (iter (q344 d ) n1) x1=some r:=h
 generalize iter (q344 d ) n1=self1 at h hn1
 unfold q344 at h
 refine q7w ?_
 refine q3yo hm hT hC (q33i (q32r d) x1) h fun y5 h=>?_
 refine q80 (v:=y5.2.2.1) (by kernel_rfl) h ?_ ?_
 ·
  intro h
  refine q7s (q7i ?_)
  refine q7z (r:=r) (F:=q33z d self1) (S:=(fun z=>⟨[(3,.ptr 0 0),(7,.rs 1),(8,i6 z.1),(9,.rs 2),(10,i6 z.2.1)],[.cells [.fz Riii z.2.2.1],.rows Rii z.2.2.2.1,.rows qj8 z.2.2.2.2]⟩:Int×Int×List Diii×List Dii×List qj9→St)) ?_ ?_
  ·
   intro z h
   unfold q33z at h
   refine q81 hm hT hC (q33y (q32r d) z) h ?_
   intro y6 h
   exact hn1 _ h
  intro hj2
  refine q7x ?_
  refine q3yo hm hT hC (q33m (q32r d) y5) h fun y7 h=>?_
  refine q3yo hm hT hC (q33q (q32r d) y7) h fun y8 h=>?_
  refine q80 (v:=y8.2.2.2.1) (by kernel_rfl) h ?_ ?_
  ·
   intro h
   refine q3yo hm hT hC (q33u (q32r d) y8) h fun y9 h=>?_
   refine q81 hm hT hC (q33w (q32r d) y9) h ?_
   intro y10 h
   refine q7l ?_
   exact hj2 _ h
  ·
   intro h
   refine q7s (q7l ?_)
   refine qcs (s:=⟨[(3,.ptr 0 0),(7,.rs 1),(8,.int .i64 y8.1),(9,.rs 2),(10,.int .i64 y8.2.1)],[.cells [.fz Riii y8.2.2.2.2.1],.rows Rii y8.2.2.2.2.2.1,.rows qj8 y8.2.2.2.2.2.2]⟩) [11,34] (by kernel_rfl) ?_
   exact hj2 _ h
 ·
  intro h
  refine q7u (q7j (q7j (q7n (q7i ?_))))
  refine q3yo hm hT hC (q343 (q32r d) y5) h fun y11 h=>?_
  refine q7v ?_
  cases h
  exact (hend _ (by kernel_rfl)).2
abbrev q347:List Pk:=[.row qj5 true,.row Rii true,.row Rii true]
abbrev q348:Type:=qj6×Dii×Dii×Unit
abbrev q349:Type:=List Dii×Int
def q34a (r:q349):LV×List Ob:=(.tup [.rs 0,.int .i64 r.2],[.rows Rii r.1])
def q34b (F:q348→Option q349):Go.Tx.Spec:=⟨33,q347,q349,F,q34a⟩
abbrev q34c:Type:=(q2wg→Option q2wh)×(q32m→Option q32n)×Unit
def q34d (d:Nat):q34c:=(q2xd d,q345 d,())
def q34e (C:q34c):List Go.Tx.Spec:=[q2wj C.1,q32p C.2.1]
abbrev q34f:Type:=List Diii×Int×Int×Int×Int
def q34g (v:q34f):St:=⟨[(0,.agg [.fz Riii v.1]),(1,.agg [i6 v.2.1,i6 v.2.2.1]),(2,.agg [i6 v.2.2.2.1,i6 v.2.2.2.2])],[]⟩
abbrev q34h:Type:=List Diii×Int×Int×Int×Int
def q34i (v:q34h):St:=⟨[(3,.ptr 0 0),(4,.ptr 1 0),(5,.ptr 2 0)],[.cells [.fz Riii v.1],.cells [i6 v.2.1,i6 v.2.2.1],.cells [i6 v.2.2.2.1,i6 v.2.2.2.2]]⟩
def q34j (C:q34c) (v:q34f):Dt q34h:=(Dt.ret (v.1,v.2.1,v.2.2.1,v.2.2.2.1,v.2.2.2.2))
abbrev q40q {V Y:Type}:=@rg q34c V Y tysT (fun C=>(orc (q34e C))) 20
theorem q34k C v:q40q (regO (qct f33) 0) false [(3,(.box [.val Riii])),(4,.any),(5,.any)] q34g q34j q34i C v:=rgI (by kernel_rfl)
abbrev q34l:Type:=Int×List Diii×Int×Int×Int×Int
def q34m (v:q34l):St:=⟨[(3,.ptr 0 0),(4,.ptr 1 0),(5,.ptr 2 0),(8,i6 v.1)],[.cells [.fz Riii v.2.1],.cells [i6 v.2.2.1,i6 v.2.2.2.1],.cells [i6 v.2.2.2.2.1,i6 v.2.2.2.2.2]]⟩
def q34n (C:q34c) (v:q34h):Dt q34l:=(Dt.bnd (C.1 ((v.1,()),(v.2.1,v.2.2.1,()),(v.2.2.2.1,v.2.2.2.2,()),())) fun r1=>(Dt.ret (r1,v.1,v.2.1,v.2.2.1,v.2.2.2.1,v.2.2.2.2)))
theorem q34o C v:q40q (regO (qct f33) 1) false [(3,(.box [.val Riii])),(4,.any),(5,.any),(8,.any)] q34i q34n q34m C v:=rgI (by kernel_rfl)
abbrev q34p:Type:=Int×Bool×List Diii×Int×Int×Int×Int
def q34q (v:q34p):St:=⟨[(3,.ptr 0 0),(4,.ptr 1 0),(5,.ptr 2 0),(8,i6 v.1),(14,.bool v.2.1)],[.cells [.fz Riii v.2.2.1],.cells [i6 v.2.2.2.1,i6 v.2.2.2.2.1],.cells [i6 v.2.2.2.2.2.1,i6 v.2.2.2.2.2.2]]⟩
def q34r (C:q34c) (v:q34l):Dt q34p:=(Dt.ret (v.1,(v.1 != (0:Int)),v.2.1,v.2.2.1,v.2.2.2.1,v.2.2.2.2.1,v.2.2.2.2.2))
theorem q34s C v:q40q (regO (qct f33) 2) false [(3,(.box [.val Riii])),(4,.any),(5,.any),(8,.any),(14,.any)] q34m q34r q34q C v:=rgI (by kernel_rfl)
abbrev q34t:Type:=Int×List Dii
def q34u (v:q34t):St:=⟨[(6,.rs 0),(7,i6 v.1)],[.rows Rii v.2]⟩
def q34v (C:q34c) (v:q34p):Dt q34t:=(Dt.ret (v.1,([]:List Dii)))
theorem q34w C v:q40q (regO (qct f33) 3) false [(6,(.own Rii)),(7,.any)] q34q q34v q34u C v:=rgI (by kernel_rfl)
def q34x (C:q34c) (v:q34p):Dt q34t:=(Dt.bnd (C.2.1 ((v.2.2.1,()),(v.2.2.2.1,v.2.2.2.2.1,()),(v.2.2.2.2.2.1,v.2.2.2.2.2.2,()),())) fun r1=>(Dt.ret ((0:Int),r1)))
theorem q34y C v:q40q (regO (qct f33) 4) false [(6,(.own Rii)),(7,.any)] q34q q34x q34u C v:=rgI (by kernel_rfl)
def q34z (d:Nat) (x:q348):Option q349 :=
 (q34j (q34d d) (x.1.1,x.2.1.1,x.2.1.2.1,x.2.2.1.1,x.2.2.1.2.1)).eval fun y0 =>
 (q34n (q34d d) y0).eval fun y1 =>
 (q34r (q34d d) y1).eval fun y2 =>
 bif y2.2.1 then ((q34v (q34d d) y2).eval fun y3 =>
 some (y3.2,y3.1)) else ((q34x (q34d d) y2).eval fun y4 =>
 some (y4.2,y4.1))
theorem q350 (d:Nat):COK prog (q34b (q34z d)):=by
 have hm:prog.follows .mixedOrders=true:=mixed
 have hT:=tys
 have hC0:OrcOK prog (orc (q34e (q34d d))):=qcn (by
  intro S hS
  simp only [q34e,List.mem_cons,List.not_mem_nil,or_false] at hS
  rcases hS with rfl | rfl
  · exact q2xe d
  · exact q346 d)
 have hC:OrcOK prog (orc (q34e (q34d d))):=hC0
 refine q8c (c:=qct f33) (fn:=f33) hT (by kernel_rfl) (by kernel_rfl) (by decide) fun x r h w0 φ0 Q hend=>?_
 replace h:q34z d x=some r:=h
 unfold q34z at h
 show Run prog w0 φ0 20 (qct f33) ⟨[(0,.agg [.fz Riii x.1.1]),(1,.agg [.int .i64 x.2.1.1,.int .i64 x.2.1.2.1]),(2,.agg [.int .i64 x.2.2.1.1,.int .i64 x.2.2.1.2.1])],[]⟩ Q
 refine q3yo hm hT hC (q34k (q34d d) (x.1.1,x.2.1.1,x.2.1.2.1,x.2.2.1.1,x.2.2.1.2.1)) h fun y0 h=>?_
 refine q7w ?_
 refine q3yo hm hT hC (q34o (q34d d) y0) h fun y1 h=>?_
 refine q3yo hm hT hC (q34s (q34d d) y1) h fun y2 h=>?_
 refine q80 (v:=y2.2.1) (by kernel_rfl) h ?_ ?_
 ·
  intro h
  refine q3yo hm hT hC (q34w (q34d d) y2) h fun y3 h=>?_
  refine q7v (q7k ?_)
  cases h
  exact (hend _ (by kernel_rfl)).2
 ·
  intro h
  refine q7s (q7i ?_)
  refine q3yo hm hT hC (q34y (q34d d) y2) h fun y4 h=>?_
  refine q7v ?_
  cases h
  exact (hend _ (by kernel_rfl)).2
abbrev q351:List Pk:=[.row qj5 true,.row Rii true,.row Rii true]
abbrev q352:Type:=qj6×Dii×Dii×Unit
abbrev q353:Type:=Int×Int×Int×Int×Int
def q354 (r:q353):LV×List Ob:=(.tup [.agg [.int .i64 r.1,.int .i64 r.2.1],.agg [.int .i64 r.2.2.1,.int .i64 r.2.2.2.1],.int .i64 r.2.2.2.2],[])
def q355 (F:q352→Option q353):Go.Tx.Spec:=⟨35,q351,q353,F,q354⟩
abbrev q356:Type:=(q306→Option q307)×(q2wg→Option q2wh)×(q314→Option q315)×(q32m→Option q32n)×Unit
def q357 (d:Nat):q356:=(q311 d,q2xd d,q31p d,q345 d,())
def q358 (C:q356):List Go.Tx.Spec:=[q309 C.1,q2wj C.2.1,q317 C.2.2.1,q32p C.2.2.2.1]
abbrev q359:Type:=List Diii×Int×Int×Int×Int
def q35a (v:q359):St:=⟨[(0,.agg [.fz Riii v.1]),(1,.agg [i6 v.2.1,i6 v.2.2.1]),(2,.agg [i6 v.2.2.2.1,i6 v.2.2.2.2])],[]⟩
abbrev q35b:Type:=List Diii×Int×Int×Int×Int×Int×Int×Int×Int
def q35c (v:q35b):St:=⟨[(3,.ptr 0 0),(4,.ptr 1 0),(5,.ptr 2 0),(6,.ptr 3 0),(7,.ptr 4 0)],[.cells [.fz Riii v.1],.cells [i6 v.2.1,i6 v.2.2.1],.cells [i6 v.2.2.2.1,i6 v.2.2.2.2.1],.cells [i6 v.2.2.2.2.2.1,i6 v.2.2.2.2.2.2.1],.cells [i6 v.2.2.2.2.2.2.2.1,i6 v.2.2.2.2.2.2.2.2]]⟩
def q35d (C:q356) (v:q359):Dt q35b:=(Dt.ret (v.1,v.2.1,v.2.2.1,v.2.2.2.1,v.2.2.2.2,(0:Int),(0:Int),(0:Int),(0:Int)))
abbrev q40r {V Y:Type}:=@rg q356 V Y tysT (fun C=>(orc (q358 C))) 63
theorem q35e C v:q40r (regO (qct f35) 0) false [(3,(.box [.val Riii])),(4,.any),(5,.any),(6,.any),(7,.any)] q35a q35d q35c C v:=rgI (by kernel_rfl)
abbrev q35f:Type:=Int×List Diii×Int×Int×Int×Int×Int×Int×Int×Int
def q35g (v:q35f):St:=⟨[(3,.ptr 0 0),(4,.ptr 1 0),(5,.ptr 2 0),(6,.ptr 3 0),(7,.ptr 4 0),(9,i6 v.1)],[.cells [.fz Riii v.2.1],.cells [i6 v.2.2.1,i6 v.2.2.2.1],.cells [i6 v.2.2.2.2.1,i6 v.2.2.2.2.2.1],.cells [i6 v.2.2.2.2.2.2.1,i6 v.2.2.2.2.2.2.2.1],.cells [i6 v.2.2.2.2.2.2.2.2.1,i6 v.2.2.2.2.2.2.2.2.2]]⟩
def q35h (C:q356) (v:q35b):Dt q35f:=(Dt.bnd (C.2.1 ((v.1,()),(v.2.1,v.2.2.1,()),(v.2.2.2.1,v.2.2.2.2.1,()),())) fun r1=>(Dt.ret (r1,v.1,v.2.1,v.2.2.1,v.2.2.2.1,v.2.2.2.2.1,v.2.2.2.2.2.1,v.2.2.2.2.2.2.1,v.2.2.2.2.2.2.2.1,v.2.2.2.2.2.2.2.2)))
theorem q35i C v:q40r (regO (qct f35) 1) false [(3,(.box [.val Riii])),(4,.any),(5,.any),(6,.any),(7,.any),(9,.any)] q35c q35h q35g C v:=rgI (by kernel_rfl)
abbrev q35j:Type:=Int×Bool×List Diii×Int×Int×Int×Int×Int×Int×Int×Int
def q35k (v:q35j):St:=⟨[(3,.ptr 0 0),(4,.ptr 1 0),(5,.ptr 2 0),(6,.ptr 3 0),(7,.ptr 4 0),(9,i6 v.1),(20,.bool v.2.1)],[.cells [.fz Riii v.2.2.1],.cells [i6 v.2.2.2.1,i6 v.2.2.2.2.1],.cells [i6 v.2.2.2.2.2.1,i6 v.2.2.2.2.2.2.1],.cells [i6 v.2.2.2.2.2.2.2.1,i6 v.2.2.2.2.2.2.2.2.1],.cells [i6 v.2.2.2.2.2.2.2.2.2.1,i6 v.2.2.2.2.2.2.2.2.2.2]]⟩
def q35l (C:q356) (v:q35f):Dt q35j:=(Dt.ret (v.1,(v.1 != (0:Int)),v.2.1,v.2.2.1,v.2.2.2.1,v.2.2.2.2.1,v.2.2.2.2.2.1,v.2.2.2.2.2.2.1,v.2.2.2.2.2.2.2.1,v.2.2.2.2.2.2.2.2.1,v.2.2.2.2.2.2.2.2.2))
theorem q35m C v:q40r (regO (qct f35) 2) false [(3,(.box [.val Riii])),(4,.any),(5,.any),(6,.any),(7,.any),(9,.any),(20,.any)] q35g q35l q35k C v:=rgI (by kernel_rfl)
abbrev q35n:Type:=Int×Int×Int×Int×Int
def q35o (v:q35n):St:=⟨[(6,.ptr 0 0),(7,.ptr 1 0),(8,i6 v.1)],[.cells [i6 v.2.1,i6 v.2.2.1],.cells [i6 v.2.2.2.1,i6 v.2.2.2.2]]⟩
def q35p (C:q356) (v:q35j):Dt q35n:=(Dt.ret (v.1,(0:Int),(0:Int),(0:Int),(0:Int)))
theorem q35q C v:q40r (regO (qct f35) 3) false (an [6,7,8]) q35k q35p q35o C v:=rgI (by kernel_rfl)
abbrev q35r:Type:=List Diii×Int×Int×Int×Int×Int×Int×List Dii
def q35s (v:q35r):St:=⟨[(3,.ptr 0 0),(5,.ptr 1 0),(6,.ptr 2 0),(7,.ptr 3 0),(10,.rs 4)],[.cells [.fz Riii v.1],.cells [i6 v.2.1,i6 v.2.2.1],.cells [i6 v.2.2.2.1,i6 v.2.2.2.2.1],.cells [i6 v.2.2.2.2.2.1,i6 v.2.2.2.2.2.2.1],.rows Rii v.2.2.2.2.2.2.2]⟩
def q35t (C:q356) (v:q35j):Dt q35r:=(Dt.bnd (C.2.2.2.1 ((v.2.2.1,()),(v.2.2.2.1,v.2.2.2.2.1,()),(v.2.2.2.2.2.1,v.2.2.2.2.2.2.1,()),())) fun r1=>(Dt.ite (apB (List.length ([(v.2.2.2.1,v.2.2.2.2.1,())]:List Dii)) (List.length r1)) (Dt.ret (v.2.2.1,v.2.2.2.2.2.1,v.2.2.2.2.2.2.1,v.2.2.2.2.2.2.2.1,v.2.2.2.2.2.2.2.2.1,v.2.2.2.2.2.2.2.2.2.1,v.2.2.2.2.2.2.2.2.2.2,(([(v.2.2.2.1,v.2.2.2.2.1,())]:List Dii)++r1))) Dt.fail))
theorem q35u C v:q40r (regO (qct f35) 4) true [(3,(.box [.val Riii])),(5,.any),(6,.any),(7,.any),(10,(.own Rii))] q35k q35t q35s C v:=rgI (by kernel_rfl)
abbrev q35v:Type:=List Diii×Int×Int×Int×Int×List Dii×Int×Int
def q35w (v:q35v):St:=⟨[(3,.ptr 0 0),(6,.ptr 1 0),(7,.ptr 2 0),(10,.rs 3),(11,.ptr 4 0)],[.cells [.fz Riii v.1],.cells [i6 v.2.1,i6 v.2.2.1],.cells [i6 v.2.2.2.1,i6 v.2.2.2.2.1],.rows Rii v.2.2.2.2.2.1,.cells [i6 v.2.2.2.2.2.2.1,i6 v.2.2.2.2.2.2.2]]⟩
def q35x (C:q356) (v:q35r):Dt q35v:=(Dt.ret (v.1,v.2.2.2.1,v.2.2.2.2.1,v.2.2.2.2.2.1,v.2.2.2.2.2.2.1,v.2.2.2.2.2.2.2,v.2.1,v.2.2.1))
theorem q35y C v:q40r (regO (qct f35) 5) false [(3,(.box [.val Riii])),(6,.any),(7,.any),(10,(.own Rii)),(11,.any)] q35s q35x q35w C v:=rgI (by kernel_rfl)
abbrev q35z:Type:=Int×List Diii×Int×Int×Int×Int×List Dii×Int×Int
def q360 (v:q35z):St:=⟨[(3,.ptr 0 0),(6,.ptr 1 0),(7,.ptr 2 0),(10,.rs 3),(11,.ptr 4 0),(12,i6 v.1)],[.cells [.fz Riii v.2.1],.cells [i6 v.2.2.1,i6 v.2.2.2.1],.cells [i6 v.2.2.2.2.1,i6 v.2.2.2.2.2.1],.rows Rii v.2.2.2.2.2.2.1,.cells [i6 v.2.2.2.2.2.2.2.1,i6 v.2.2.2.2.2.2.2.2]]⟩
def q361 (C:q356) (v:q35v):Dt q35z:=(Dt.ret ((IntKind.wrap .i64 ((List.length v.2.2.2.2.2.1:Int) - (1:Int))),v.1,v.2.1,v.2.2.1,v.2.2.2.1,v.2.2.2.2.1,v.2.2.2.2.2.1,v.2.2.2.2.2.2.1,v.2.2.2.2.2.2.2))
theorem q362 C v:q40r (regO (qct f35) 6) false [(3,(.box [.val Riii])),(6,.any),(7,.any),(10,(.own Rii)),(11,.any),(12,.any)] q35w q361 q360 C v:=rgI (by kernel_rfl)
abbrev q363:Type:=Int×Bool×List Diii×Int×Int×Int×Int×List Dii×Int×Int
def q364 (v:q363):St:=⟨[(3,.ptr 0 0),(6,.ptr 1 0),(7,.ptr 2 0),(10,.rs 3),(11,.ptr 4 0),(12,i6 v.1),(36,.bool v.2.1)],[.cells [.fz Riii v.2.2.1],.cells [i6 v.2.2.2.1,i6 v.2.2.2.2.1],.cells [i6 v.2.2.2.2.2.1,i6 v.2.2.2.2.2.2.1],.rows Rii v.2.2.2.2.2.2.2.1,.cells [i6 v.2.2.2.2.2.2.2.2.1,i6 v.2.2.2.2.2.2.2.2.2]]⟩
def q365 (C:q356) (v:q35z):Dt q363:=(Dt.ret (v.1,(decide (v.1≥(0:Int))),v.2.1,v.2.2.1,v.2.2.2.1,v.2.2.2.2.1,v.2.2.2.2.2.1,v.2.2.2.2.2.2.1,v.2.2.2.2.2.2.2.1,v.2.2.2.2.2.2.2.2))
theorem q366 C v:q40r (regO (qct f35) 7) false [(3,(.box [.val Riii])),(6,.any),(7,.any),(10,(.own Rii)),(11,.any),(12,.any),(36,.any)] q360 q365 q364 C v:=rgI (by kernel_rfl)
abbrev q367:Type:=Int×Bool×List Diii×Int×Int×Int×Int×List Dii×Int×Int
def q368 (v:q367):St:=⟨[(3,.ptr 0 0),(6,.ptr 1 0),(7,.ptr 2 0),(10,.rs 3),(11,.ptr 4 0),(12,i6 v.1),(45,.bool v.2.1)],[.cells [.fz Riii v.2.2.1],.cells [i6 v.2.2.2.1,i6 v.2.2.2.2.1],.cells [i6 v.2.2.2.2.2.1,i6 v.2.2.2.2.2.2.1],.rows Rii v.2.2.2.2.2.2.2.1,.cells [i6 v.2.2.2.2.2.2.2.2.1,i6 v.2.2.2.2.2.2.2.2.2]]⟩
def q369 (C:q356) (v:q363):Dt q367:=(Dt.ite (inB v.1 (List.length v.2.2.2.2.2.2.2.1)) (Dt.bnd (C.2.2.1 ((v.2.2.1,()),((elt zii v.2.2.2.2.2.2.2.1 (v.1).toNat).1,(elt zii v.2.2.2.2.2.2.2.1 (v.1).toNat).2.1,()),())) fun r1=>(Dt.ret (v.1,(decide (r1≥(0:Int))),v.2.2.1,v.2.2.2.1,v.2.2.2.2.1,v.2.2.2.2.2.1,v.2.2.2.2.2.2.1,v.2.2.2.2.2.2.2.1,v.2.2.2.2.2.2.2.2.1,v.2.2.2.2.2.2.2.2.2))) Dt.fail)
theorem q36a C v:q40r (regO (qct f35) 9) true [(3,(.box [.val Riii])),(6,.any),(7,.any),(10,(.own Rii)),(11,.any),(12,.any),(45,.any)] q364 q369 q368 C v:=rgI (by kernel_rfl)
def q36b (C:q356) (v:q367):Dt q35z:=(Dt.ite (inB v.1 (List.length v.2.2.2.2.2.2.2.1)) (Dt.ret (v.1,v.2.2.1,v.2.2.2.1,v.2.2.2.2.1,v.2.2.2.2.2.1,v.2.2.2.2.2.2.1,v.2.2.2.2.2.2.2.1,(elt zii v.2.2.2.2.2.2.2.1 (v.1).toNat).1,(elt zii v.2.2.2.2.2.2.2.1 (v.1).toNat).2.1)) Dt.fail)
theorem q36c C v:q40r (regO (qct f35) 10) false [(3,(.box [.val Riii])),(6,.any),(7,.any),(10,(.own Rii)),(11,.any),(12,.any)] q368 q36b q360 C v:=rgI (by kernel_rfl)
def q36d (C:q356) (v:q35z):Dt q35z:=(Dt.ret ((IntKind.wrap .i64 (v.1 - (1:Int))),v.2.1,v.2.2.1,v.2.2.2.1,v.2.2.2.2.1,v.2.2.2.2.2.1,v.2.2.2.2.2.2.1,v.2.2.2.2.2.2.2.1,v.2.2.2.2.2.2.2.2))
theorem q36e C v:q40r (regO (qct f35) 8) false [(3,(.box [.val Riii])),(6,.any),(7,.any),(10,(.own Rii)),(11,.any),(12,.any)] q360 q36d q360 C v:=rgI (by kernel_rfl)
def q36f  (d:Nat) (self1:(Int×List Diii×Int×Int×Int×Int×List Dii×Int×Int)→Option q353) (z:Int×List Diii×Int×Int×Int×Int×List Dii×Int×Int):Option (q353) :=
 (q36d (q357 d) z).eval fun y8 =>
 self1 y8
abbrev q36g:Type:=Int×Int×Int×Int×Int×Int×Int×Int×Int
def q36h (v:q36g):St:=⟨[(6,.ptr 0 0),(7,.ptr 1 0),(11,.ptr 2 0),(13,.ptr 3 0),(14,i6 v.1)],[.cells [i6 v.2.1,i6 v.2.2.1],.cells [i6 v.2.2.2.1,i6 v.2.2.2.2.1],.cells [i6 v.2.2.2.2.2.1,i6 v.2.2.2.2.2.2.1],.cells [i6 v.2.2.2.2.2.2.2.1,i6 v.2.2.2.2.2.2.2.2]]⟩
def q36i (C:q356) (v:q363):Dt q36g:=(Dt.bnd (C.1 ((v.2.2.1,()),(v.2.2.2.2.2.2.2.2.1,v.2.2.2.2.2.2.2.2.2,()),())) fun r1=>(Dt.ret (r1.2.2,v.2.2.2.1,v.2.2.2.2.1,v.2.2.2.2.2.1,v.2.2.2.2.2.2.1,v.2.2.2.2.2.2.2.2.1,v.2.2.2.2.2.2.2.2.2,r1.1,r1.2.1)))
theorem q36j C v:q40r (regO (qct f35) 11) false (an [6,7,11,13,14]) q364 q36i q36h C v:=rgI (by kernel_rfl)
abbrev q36k:Type:=Int×Bool×Int×Int×Int×Int×Int×Int×Int×Int
def q36l (v:q36k):St:=⟨[(6,.ptr 0 0),(7,.ptr 1 0),(11,.ptr 2 0),(13,.ptr 3 0),(14,i6 v.1),(57,.bool v.2.1)],[.cells [i6 v.2.2.1,i6 v.2.2.2.1],.cells [i6 v.2.2.2.2.1,i6 v.2.2.2.2.2.1],.cells [i6 v.2.2.2.2.2.2.1,i6 v.2.2.2.2.2.2.2.1],.cells [i6 v.2.2.2.2.2.2.2.2.1,i6 v.2.2.2.2.2.2.2.2.2]]⟩
def q36m (C:q356) (v:q36g):Dt q36k:=(Dt.ret (v.1,(v.1 != (0:Int)),v.2.1,v.2.2.1,v.2.2.2.1,v.2.2.2.2.1,v.2.2.2.2.2.1,v.2.2.2.2.2.2.1,v.2.2.2.2.2.2.2.1,v.2.2.2.2.2.2.2.2))
theorem q36n C v:q40r (regO (qct f35) 12) false (an [6,7,11,13,14,57]) q36h q36m q36l C v:=rgI (by kernel_rfl)
def q36o (C:q356) (v:q36k):Dt q35n:=(Dt.ret (v.1,(0:Int),(0:Int),(0:Int),(0:Int)))
theorem q36p C v:q40r (regO (qct f35) 13) false (an [6,7,8]) q36l q36o q35o C v:=rgI (by kernel_rfl)
def q36q (C:q356) (v:q36k):Dt q35n:=(Dt.ret ((0:Int),v.2.2.2.2.2.2.1,v.2.2.2.2.2.2.2.1,v.2.2.2.2.2.2.2.2.1,v.2.2.2.2.2.2.2.2.2))
theorem q36r C v:q40r (regO (qct f35) 14) true (an [6,7,8]) q36l q36q q35o C v:=rgI (by kernel_rfl)
def q36s (d:Nat) (self1:(Int×List Diii×Int×Int×Int×Int×List Dii×Int×Int)→Option q353) (x1:Int×List Diii×Int×Int×Int×Int×List Dii×Int×Int):Option q353 :=
 (q365 (q357 d) x1).eval fun y7 =>
 bif y7.2.1 then ((q369 (q357 d) y7).eval fun y9 =>
 bif y9.2.1 then ((q36b (q357 d) y9).eval fun y10 =>
 q36f d self1 y10) else (q36f d self1 (y9.1,y9.2.2.1,y9.2.2.2.1,y9.2.2.2.2.1,y9.2.2.2.2.2.1,y9.2.2.2.2.2.2.1,y9.2.2.2.2.2.2.2.1,y9.2.2.2.2.2.2.2.2.1,y9.2.2.2.2.2.2.2.2.2))) else ((q36i (q357 d) y7).eval fun y11 =>
 (q36m (q357 d) y11).eval fun y12 =>
 bif y12.2.1 then ((q36o (q357 d) y12).eval fun y13 =>
 some (y13.2.1,y13.2.2.1,y13.2.2.2.1,y13.2.2.2.2,y13.1)) else ((q36q (q357 d) y12).eval fun y14 =>
 some (y14.2.1,y14.2.2.1,y14.2.2.2.1,y14.2.2.2.2,y14.1)))
def q36t (d:Nat) (x:q352):Option q353 :=
 (q35d (q357 d) (x.1.1,x.2.1.1,x.2.1.2.1,x.2.2.1.1,x.2.2.1.2.1)).eval fun y0 =>
 (q35h (q357 d) y0).eval fun y1 =>
 (q35l (q357 d) y1).eval fun y2 =>
 bif y2.2.1 then ((q35p (q357 d) y2).eval fun y3 =>
 some (y3.2.1,y3.2.2.1,y3.2.2.2.1,y3.2.2.2.2,y3.1)) else ((q35t (q357 d) y2).eval fun y4 =>
 (q35x (q357 d) y4).eval fun y5 =>
 (q361 (q357 d) y5).eval fun y6 =>
 iter (q36s d ) d y6)
theorem q36u (d:Nat):COK prog (q355 (q36t d)):=by
 have hm:prog.follows .mixedOrders=true:=mixed
 have hT:=tys
 have hC0:OrcOK prog (orc (q358 (q357 d))):=qcn (by
  intro S hS
  simp only [q358,List.mem_cons,List.not_mem_nil,or_false] at hS
  rcases hS with rfl | rfl | rfl | rfl
  · exact q312 d
  · exact q2xe d
  · exact q31q d
  · exact q346 d)
 have hC:OrcOK prog (orc (q358 (q357 d))):=hC0
 refine q8c (c:=qct f35) (fn:=f35) hT (by kernel_rfl) (by kernel_rfl) (by decide) fun x r h w0 φ0 Q hend=>?_
 replace h:q36t d x=some r:=h
 unfold q36t at h
 show Run prog w0 φ0 63 (qct f35) ⟨[(0,.agg [.fz Riii x.1.1]),(1,.agg [.int .i64 x.2.1.1,.int .i64 x.2.1.2.1]),(2,.agg [.int .i64 x.2.2.1.1,.int .i64 x.2.2.1.2.1])],[]⟩ Q
 refine q3yo hm hT hC (q35e (q357 d) (x.1.1,x.2.1.1,x.2.1.2.1,x.2.2.1.1,x.2.2.1.2.1)) h fun y0 h=>?_
 refine q7w ?_
 refine q3yo hm hT hC (q35i (q357 d) y0) h fun y1 h=>?_
 refine q3yo hm hT hC (q35m (q357 d) y1) h fun y2 h=>?_
 refine q80 (v:=y2.2.1) (by kernel_rfl) h ?_ ?_
 ·
  intro h
  refine q3yo hm hT hC (q35q (q357 d) y2) h fun y3 h=>?_
  refine q7v (q7k ?_)
  cases h
  exact (hend _ (by kernel_rfl)).2
 ·
  intro h
  refine q7s (q7i ?_)
  refine q3yo hm hT hC (q35u (q357 d) y2) h fun y4 h=>?_
  refine q3yo hm hT hC (q35y (q357 d) y4) h fun y5 h=>?_
  refine q7w ?_
  refine q3yo hm hT hC (q362 (q357 d) y5) h fun y6 h=>?_
  refine q7x ?_
  refine q82 (G:=iter (q36s d )) (S:=(fun x1=>⟨[(3,.ptr 0 0),(6,.ptr 1 0),(7,.ptr 2 0),(10,.rs 3),(11,.ptr 4 0),(12,i6 x1.1)],[.cells [.fz Riii x1.2.1],.cells [i6 x1.2.2.1,i6 x1.2.2.2.1],.cells [i6 x1.2.2.2.2.1,i6 x1.2.2.2.2.2.1],.rows Rii x1.2.2.2.2.2.2.1,.cells [i6 x1.2.2.2.2.2.2.2.1,i6 x1.2.2.2.2.2.2.2.2]]⟩:Int×List Diii×Int×Int×Int×Int×List Dii×Int×Int→St)) (fun _=>rfl) ?_ d _ h
  intro n1 x1 h K1 hn1
  replace h:q36s d  (iter (q36s d ) n1) x1=some r:=h
  generalize iter (q36s d ) n1=self1 at h hn1
  unfold q36s at h
  refine q7w ?_
  refine q3yo hm hT hC (q366 (q357 d) x1) h fun y7 h=>?_
  refine q80 (v:=y7.2.1) (by kernel_rfl) h ?_ ?_
  ·
   intro h
   refine q7s (q7i ?_)
   refine q7z (r:=r) (F:=q36f d self1) (S:=(fun z=>⟨[(3,.ptr 0 0),(6,.ptr 1 0),(7,.ptr 2 0),(10,.rs 3),(11,.ptr 4 0),(12,i6 z.1)],[.cells [.fz Riii z.2.1],.cells [i6 z.2.2.1,i6 z.2.2.2.1],.cells [i6 z.2.2.2.2.1,i6 z.2.2.2.2.2.1],.rows Rii z.2.2.2.2.2.2.1,.cells [i6 z.2.2.2.2.2.2.2.1,i6 z.2.2.2.2.2.2.2.2]]⟩:Int×List Diii×Int×Int×Int×Int×List Dii×Int×Int→St)) ?_ ?_
   ·
    intro z h
    unfold q36f at h
    refine q81 hm hT hC (q36e (q357 d) z) h ?_
    intro y8 h
    exact hn1 _ h
   intro hj2
   refine q7x ?_
   refine q3yo hm hT hC (q36a (q357 d) y7) h fun y9 h=>?_
   refine q80 (v:=y9.2.1) (by kernel_rfl) h ?_ ?_
   ·
    intro h
    refine q81 hm hT hC (q36c (q357 d) y9) h ?_
    intro y10 h
    refine q7l ?_
    exact hj2 _ h
   ·
    intro h
    refine q7s (q7l ?_)
    refine qcs (s:=⟨[(3,.ptr 0 0),(6,.ptr 1 0),(7,.ptr 2 0),(10,.rs 3),(11,.ptr 4 0),(12,.int .i64 y9.1)],[.cells [.fz Riii y9.2.2.1],.cells [.int .i64 y9.2.2.2.1,.int .i64 y9.2.2.2.2.1],.cells [.int .i64 y9.2.2.2.2.2.1,.int .i64 y9.2.2.2.2.2.2.1],.rows Rii y9.2.2.2.2.2.2.2.1,.cells [.int .i64 y9.2.2.2.2.2.2.2.2.1,.int .i64 y9.2.2.2.2.2.2.2.2.2]]⟩) [45] (by kernel_rfl) ?_
    exact hj2 _ h
  ·
   intro h
   refine q7u (q7j (q7j (q7n (q7i ?_))))
   refine q3yo hm hT hC (q36j (q357 d) y7) h fun y11 h=>?_
   refine q7w ?_
   refine q3yo hm hT hC (q36n (q357 d) y11) h fun y12 h=>?_
   refine q80 (v:=y12.2.1) (by kernel_rfl) h ?_ ?_
   ·
    intro h
    refine q3yo hm hT hC (q36p (q357 d) y12) h fun y13 h=>?_
    refine q7v (q7k ?_)
    cases h
    exact (hend _ (by kernel_rfl)).2
   ·
    intro h
    refine q7s (q7i ?_)
    refine q3yo hm hT hC (q36r (q357 d) y12) h fun y14 h=>?_
    refine q7v ?_
    cases h
    exact (hend _ (by kernel_rfl)).2
abbrev q36v:List Pk:=[.row qje false,.row qje false]
abbrev q36w:Type:=qjf×qjf×Unit
abbrev q36x:Type:=Bool
def q36y (r:q36x):LV×List Ob:=(.bool r,[])
def q36z (F:q36w→Option q36x):Go.Tx.Spec:=⟨36,q36v,q36x,F,q36y⟩
abbrev q370:Type:=Unit
def q371 (_d:Nat):q370:=()
def q372 (C:q370):List Go.Tx.Spec:=[]
abbrev q373:Type:=List Dii×List Dii
def q374 (v:q373):St:=⟨[(0,.fz Rii v.1),(1,.fz Rii v.2)],[]⟩
def q375 (C:q370) (v:q373):Dt q373:=(Dt.ret (v.1,v.2))
abbrev q40s {V Y:Type}:=@rg q370 V Y tysT (fun C=>(orc (q372 C))) 26
theorem q376 C v:q40s (regO (qct f36) 0) false [(0,(.val Rii)),(1,(.val Rii))] q374 q375 q374 C v:=rgI (by kernel_rfl)
abbrev q377:Type:=List Dii×List Dii×Bool
def q378 (v:q377):St:=⟨[(0,.fz Rii v.1),(1,.fz Rii v.2.1),(10,.bool v.2.2)],[]⟩
def q379 (C:q370) (v:q373):Dt q377:=(Dt.ret (v.1,v.2,((List.length v.1:Int) != (List.length v.2:Int))))
theorem q37a C v:q40s (regO (qct f36) 1) false [(0,(.val Rii)),(1,(.val Rii)),(10,.any)] q374 q379 q378 C v:=rgI (by kernel_rfl)
abbrev q37b:Type:=Bool
def q37c (v:q37b):St:=⟨[(4,.bool v)],[]⟩
def q37d (C:q370) (v:q377):Dt q37b:=(Dt.ret false)
theorem q37e C v:q40s (regO (qct f36) 2) false [(4,.any)] q378 q37d q37c C v:=rgI (by kernel_rfl)
abbrev q37f:Type:=List Dii×List Dii×Int
def q37g (v:q37f):St:=⟨[(0,.fz Rii v.1),(1,.fz Rii v.2.1),(5,i6 v.2.2)],[]⟩
def q37h (C:q370) (v:q377):Dt q37f:=(Dt.ret (v.1,v.2.1,(0:Int)))
theorem q37i C v:q40s (regO (qct f36) 3) false [(0,(.val Rii)),(1,(.val Rii)),(5,.any)] q378 q37h q37g C v:=rgI (by kernel_rfl)
abbrev q37j:Type:=List Dii×List Dii×Int×Bool
def q37k (v:q37j):St:=⟨[(0,.fz Rii v.1),(1,.fz Rii v.2.1),(5,i6 v.2.2.1),(14,.bool v.2.2.2)],[]⟩
def q37l (C:q370) (v:q37f):Dt q37j:=(Dt.ret (v.1,v.2.1,v.2.2,(decide (v.2.2<(List.length v.1:Int)))))
theorem q37m C v:q40s (regO (qct f36) 4) false [(0,(.val Rii)),(1,(.val Rii)),(5,.any),(14,.any)] q37g q37l q37k C v:=rgI (by kernel_rfl)
abbrev q37n:Type:=List Dii×List Dii×Int×Bool
def q37o (v:q37n):St:=⟨[(0,.fz Rii v.1),(1,.fz Rii v.2.1),(5,i6 v.2.2.1),(25,.bool v.2.2.2)],[]⟩
def q37p (C:q370) (v:q37j):Dt q37n:=(Dt.ite (inB v.2.2.1 (List.length v.1)) (Dt.ite (inB v.2.2.1 (List.length v.2.1)) (Dt.ret (v.1,v.2.1,v.2.2.1,(!(((elt zii v.1 (v.2.2.1).toNat).1 == (elt zii v.2.1 (v.2.2.1).toNat).1)&&(((elt zii v.1 (v.2.2.1).toNat).2.1 == (elt zii v.2.1 (v.2.2.1).toNat).2.1)&&true))))) Dt.fail) Dt.fail)
theorem q37q C v:q40s (regO (qct f36) 6) true [(0,(.val Rii)),(1,(.val Rii)),(5,.any),(25,.any)] q37k q37p q37o C v:=rgI (by kernel_rfl)
def q37r (C:q370) (v:q37n):Dt q37b:=(Dt.ret false)
theorem q37s C v:q40s (regO (qct f36) 7) false [(4,.any)] q37o q37r q37c C v:=rgI (by kernel_rfl)
def q37t (C:q370) (v:q37n):Dt q37f:=(Dt.ret (v.1,v.2.1,(IntKind.wrap .i64 (v.2.2.1+(1:Int)))))
theorem q37u C v:q40s (regO (qct f36) 5) false [(0,(.val Rii)),(1,(.val Rii)),(5,.any)] q37o q37t q37g C v:=rgI (by kernel_rfl)
def q37v (C:q370) (v:q37j):Dt q37b:=(Dt.ret true)
theorem q37w C v:q40s (regO (qct f36) 8) false [(4,.any)] q37k q37v q37c C v:=rgI (by kernel_rfl)
def q37x (d:Nat) (self1:(List Dii×List Dii×Int)→Option q36x) (x1:List Dii×List Dii×Int):Option q36x :=
 (q37l (q371 d) x1).eval fun y4 =>
 bif y4.2.2.2 then ((q37p (q371 d) y4).eval fun y6 =>
 bif y6.2.2.2 then ((q37r (q371 d) y6).eval fun y7 =>
 some y7) else ((q37t (q371 d) y6).eval fun y5 =>
 self1 y5)) else ((q37v (q371 d) y4).eval fun y8 =>
 some y8)
def q37y (d:Nat) (x:q36w):Option q36x :=
 (q375 (q371 d) (x.1.1,x.2.1.1)).eval fun y0 =>
 (q379 (q371 d) y0).eval fun y1 =>
 bif y1.2.2 then ((q37d (q371 d) y1).eval fun y2 =>
 some y2) else ((q37h (q371 d) y1).eval fun y3 =>
 iter (q37x d ) d y3)
theorem q37z (d:Nat):COK prog (q36z (q37y d)):=by
 have hm:prog.follows .mixedOrders=true:=mixed
 have hT:=tys
 have hC0:OrcOK prog (orc (q372 (q371 d))):=qcn (by
  intro S hS
  simp only [q372,List.mem_cons,List.not_mem_nil,or_false] at hS
  all_goals first | cases hS | exact hS.elim)
 have hC:OrcOK prog (orc (q372 (q371 d))):=hC0
 refine q8c (c:=qct f36) (fn:=f36) hT (by kernel_rfl) (by kernel_rfl) (by decide) fun x r h w0 φ0 Q hend=>?_
 replace h:q37y d x=some r:=h
 unfold q37y at h
 show Run prog w0 φ0 26 (qct f36) ⟨[(0,.fz Rii x.1.1),(1,.fz Rii x.2.1.1)],[]⟩ Q
 refine q3yo hm hT hC (q376 (q371 d) (x.1.1,x.2.1.1)) h fun y0 h=>?_
 refine q7w ?_
 refine q3yo hm hT hC (q37a (q371 d) y0) h fun y1 h=>?_
 refine q80 (v:=y1.2.2) (by kernel_rfl) h ?_ ?_
 ·
  intro h
  refine q3yo hm hT hC (q37e (q371 d) y1) h fun y2 h=>?_
  refine q7v (q7k ?_)
  cases h
  exact (hend _ (by kernel_rfl)).2
 ·
  intro h
  refine q7s (q7i (q7w ?_))
  refine q3yo hm hT hC (q37i (q371 d) y1) h fun y3 h=>?_
  refine q7x ?_
  refine q82 (G:=iter (q37x d )) (S:=(fun x1=>⟨[(0,.fz Rii x1.1),(1,.fz Rii x1.2.1),(5,i6 x1.2.2)],[]⟩:List Dii×List Dii×Int→St)) (fun _=>rfl) ?_ d _ h
  intro n1 x1 h K1 hn1
  replace h:q37x d  (iter (q37x d ) n1) x1=some r:=h
  generalize iter (q37x d ) n1=self1 at h hn1
  unfold q37x at h
  refine q7w ?_
  refine q3yo hm hT hC (q37m (q371 d) x1) h fun y4 h=>?_
  refine q80 (v:=y4.2.2.2) (by kernel_rfl) h ?_ ?_
  ·
   intro h
   refine q7s (q7i (q7w (q7x ?_)))
   refine q3yo hm hT hC (q37q (q371 d) y4) h fun y6 h=>?_
   refine q80 (v:=y6.2.2.2) (by kernel_rfl) h ?_ ?_
   ·
    intro h
    refine q3yo hm hT hC (q37s (q371 d) y6) h fun y7 h=>?_
    refine q7v (q7m (q7k (q7k (q7m (q7k ?_)))))
    cases h
    exact (hend _ (by kernel_rfl)).2
   ·
    intro h
    refine q7s (q7l (q7i ?_))
    refine q81 hm hT hC (q37u (q371 d) y6) h ?_
    intro y5 h
    exact hn1 _ h
  ·
   intro h
   refine q7u (q7j (q7j (q7n (q7i ?_))))
   refine q3yo hm hT hC (q37w (q371 d) y4) h fun y8 h=>?_
   refine q7v ?_
   cases h
   exact (hend _ (by kernel_rfl)).2
end Go.Proofs.YtpfhgnccpiildaaGreat

namespace Go.Proofs.YtpfhgnccpiildaaGreat
open Go Go.Tx Go.Pel Go.Proofs.Tryz
set_option maxRecDepth 100000
set_option maxHeartbeats 0
end Go.Proofs.YtpfhgnccpiildaaGreat
