/- Walks of the references; the orders agree; examples. -/
import Derived.Test.YtbjpmdhdoggobaaGreatGd
set_option linter.unusedSimpArgs false
set_option linter.unusedVariables false
namespace Go.Proofs.YtbjpmdhdoggobaaGreat
open Go Go.Tx Go.Proofs.Tryz
set_option maxRecDepth 100000
set_option maxHeartbeats 0
abbrev q1a6:List Pk:=[.row Ru false,.row Ru false]
abbrev q1a7:Type:=Du×Du×Unit
abbrev q1a8:Type:=Int
def q1a9 (r:q1a8):LV×List Ob:=(.int .u64 r,[])
def q1aa (F:q1a7→Option q1a8):Go.Tx.Spec:=⟨63,q1a6,q1a8,F,q1a9⟩
abbrev q1ab:Type:=Unit
def q1ac (_d:Nat):q1ab:=()
def q1ad (C:q1ab):List Go.Tx.Spec:=[]
abbrev q1ae:Type:=Int×Int
def q1af (v:q1ae):St:=⟨[(0,u6 v.1),(1,u6 v.2)],[]⟩
def q1ag (C:q1ab) (v:q1ae):Dt q1ae:=(Dt.ret (v.1,v.2))
abbrev q3pt {V Y:Type}:=@rg q1ab V Y tysT (fun C=>(orc (q1ad C))) 12
theorem q1ah C v:q3pt (regO (qdk f63) 0) false (an [0,1]) q1af q1ag q1af C v:=rgI (by kernel_rfl)
abbrev q1ai:Type:=Int×Int×Bool
def q1aj (v:q1ai):St:=⟨[(0,u6 v.1),(1,u6 v.2.1),(6,.bool v.2.2)],[]⟩
def q1ak (C:q1ab) (v:q1ae):Dt q1ai:=(Dt.ret (v.1,v.2,(decide (v.2 > (0:Int)))))
theorem q1al C v:q3pt (regO (qdk f63) 1) false (an [0,1,6]) q1af q1ak q1aj C v:=rgI (by kernel_rfl)
def q1am (C:q1ab) (v:q1ai):Dt q1ae:=(Dt.ite (v.2.1 == (0:Int)) Dt.fail (Dt.ret (v.2.1,(Int.tmod v.1 v.2.1))))
theorem q1an C v:q3pt (regO (qdk f63) 2) true (an [0,1]) q1aj q1am q1af C v:=rgI (by kernel_rfl)
abbrev q1ao:Type:=Int
def q1ap (v:q1ao):St:=⟨[(4,u6 v)],[]⟩
def q1aq (C:q1ab) (v:q1ai):Dt q1ao:=(Dt.ret v.1)
theorem q1ar C v:q3pt (regO (qdk f63) 3) false [(4,.any)] q1aj q1aq q1ap C v:=rgI (by kernel_rfl)
def q1as (d:Nat) (self1:(Int×Int)→Option q1a8) (x1:Int×Int):Option q1a8 :=
 (q1ak (q1ac d) x1).eval fun y1 =>
 bif y1.2.2 then ((q1am (q1ac d) y1).eval fun y2 =>
 self1 y2) else ((q1aq (q1ac d) y1).eval fun y3 =>
 some y3)
def q1at (d:Nat) (x:q1a7):Option q1a8 :=
 (q1ag (q1ac d) (x.1.1,x.2.1.1)).eval fun y0 =>
 iter (q1as d ) d y0
theorem q1au (d:Nat):COK prog (q1aa (q1at d)):=by
 have hm:prog.follows .mixedOrders=true:=mixed
 have hT:=tys
 have hC0:OrcOK prog (orc (q1ad (q1ac d))):=qde (by
  intro S hS
  simp only [q1ad,List.mem_cons,List.not_mem_nil,or_false] at hS
  all_goals first | cases hS | exact hS.elim)
 have hC:OrcOK prog (orc (q1ad (q1ac d))):=hC0
 refine q93 (c:=qdk f63) (fn:=f63) hT (by kernel_rfl) (by kernel_rfl) (by decide) fun x r h w0 φ0 Q hend=>?_
 replace h:q1at d x=some r:=h
 unfold q1at at h
 show Run prog w0 φ0 12 (qdk f63) ⟨[(0,.int .u64 x.1.1),(1,.int .u64 x.2.1.1)],[]⟩ Q
 refine q3pf hm hT hC (q1ah (q1ac d) (x.1.1,x.2.1.1)) h fun y0 h=>?_
 refine q8m (q8n ?_)
 refine q8s (G:=iter (q1as d )) (S:=(fun x1=>⟨[(0,u6 x1.1),(1,u6 x1.2)],[]⟩:Int×Int→St)) (fun _=>rfl) ?_ d _ h
 intro n1 x1 h K1 hn1
 replace h:q1as d  (iter (q1as d ) n1) x1=some r:=h
 generalize iter (q1as d ) n1=self1 at h hn1
 unfold q1as at h
 refine q8m ?_
 refine q3pf hm hT hC (q1al (q1ac d) x1) h fun y1 h=>?_
 refine q8q (v:=y1.2.2) (by kernel_rfl) h ?_ ?_
 ·
  intro h
  refine q8i (q88 (q8n ?_))
  refine q8r hm hT hC (q1an (q1ac d) y1) h ?_
  intro y2 h
  refine q8b ?_
  exact hn1 _ h
 ·
  intro h
  refine q8k (q89 (q89 (q8d (q88 ?_))))
  refine q3pf hm hT hC (q1ar (q1ac d) y1) h fun y3 h=>?_
  refine q8l ?_
  cases h
  exact (hend _ (by kernel_rfl)).2
abbrev q1av:List Pk:=[.row Rbuu true,.row Rbuu true]
abbrev q1aw:Type:=Dbuu×Dbuu×Unit
abbrev q1ax:Type:=Bool×Int×Int
def q1ay (r:q1ax):LV×List Ob:=(.agg [.bool r.1,.int .u64 r.2.1,.int .u64 r.2.2],[])
def q1az (F:q1aw→Option q1ax):Go.Tx.Spec:=⟨115,q1av,q1ax,F,q1ay⟩
abbrev q1b0:Type:=(q121→Option q122)×Unit
def q1b1 (d:Nat):q1b0:=(q12s d,())
def q1b2 (C:q1b0):List Go.Tx.Spec:=[q124 C.1]
abbrev q1b3:Type:=Bool×Int×Int×Bool×Int×Int
def q1b4 (v:q1b3):St:=⟨[(0,.agg [.bool v.1,u6 v.2.1,u6 v.2.2.1]),(1,.agg [.bool v.2.2.2.1,u6 v.2.2.2.2.1,u6 v.2.2.2.2.2])],[]⟩
abbrev q1b5:Type:=Bool×Int×Int×Bool×Int×Int×Bool×Int×Int
def q1b6 (v:q1b5):St:=⟨[(2,.ptr 0 0),(3,.ptr 1 0),(4,.ptr 2 0)],[.cells [.bool v.1,u6 v.2.1,u6 v.2.2.1],.cells [.bool v.2.2.2.1,u6 v.2.2.2.2.1,u6 v.2.2.2.2.2.1],.cells [.bool v.2.2.2.2.2.2.1,u6 v.2.2.2.2.2.2.2.1,u6 v.2.2.2.2.2.2.2.2]]⟩
def q1b7 (C:q1b0) (v:q1b3):Dt q1b5:=(Dt.ret (v.1,v.2.1,v.2.2.1,v.2.2.2.1,v.2.2.2.2.1,v.2.2.2.2.2,false,(0:Int),(0:Int)))
abbrev q3pu {V Y:Type}:=@rg q1b0 V Y tysT (fun C=>(orcI 113 q147 (orcI 87 q148 (orc (q1b2 C))))) 68
theorem q1b8 C v:q3pu (regO (qdk f115) 0) false (an [2,3,4]) q1b4 q1b7 q1b6 C v:=rgI (by kernel_rfl)
abbrev q1b9:Type:=Bool×Bool×Int×Int×Bool×Int×Int×Bool×Int×Int
def q1ba (v:q1b9):St:=⟨[(2,.ptr 0 0),(3,.ptr 1 0),(4,.ptr 2 0),(17,.bool v.1)],[.cells [.bool v.2.1,u6 v.2.2.1,u6 v.2.2.2.1],.cells [.bool v.2.2.2.2.1,u6 v.2.2.2.2.2.1,u6 v.2.2.2.2.2.2.1],.cells [.bool v.2.2.2.2.2.2.2.1,u6 v.2.2.2.2.2.2.2.2.1,u6 v.2.2.2.2.2.2.2.2.2]]⟩
def q1bb (C:q1b0) (v:q1b5):Dt q1b9:=(Dt.ret ((v.1 == v.2.2.2.1),v.1,v.2.1,v.2.2.1,v.2.2.2.1,v.2.2.2.2.1,v.2.2.2.2.2.1,v.2.2.2.2.2.2.1,v.2.2.2.2.2.2.2.1,v.2.2.2.2.2.2.2.2))
theorem q1bc C v:q3pu (regO (qdk f115) 1) false (an [2,3,4,17]) q1b6 q1bb q1ba C v:=rgI (by kernel_rfl)
abbrev q1bd:Type:=Int×Int×Bool×Int×Int×Bool×Int×Int×Bool×Int×Int
def q1be (v:q1bd):St:=⟨[(2,.ptr 0 0),(3,.ptr 1 0),(4,.ptr 2 0),(5,u6 v.1),(6,u6 v.2.1)],[.cells [.bool v.2.2.1,u6 v.2.2.2.1,u6 v.2.2.2.2.1],.cells [.bool v.2.2.2.2.2.1,u6 v.2.2.2.2.2.2.1,u6 v.2.2.2.2.2.2.2.1],.cells [.bool v.2.2.2.2.2.2.2.2.1,u6 v.2.2.2.2.2.2.2.2.2.1,u6 v.2.2.2.2.2.2.2.2.2.2]]⟩
def q1bf (C:q1b0) (v:q1b9):Dt q1bd:=(Dt.bnd (q147 (v.2.2.2.1) (v.2.2.2.2.2.2.1) ((0:Int))) fun r1=>(Dt.ret (r1.1,r1.2,v.2.1,v.2.2.1,v.2.2.2.1,v.2.2.2.2.1,v.2.2.2.2.2.1,v.2.2.2.2.2.2.1,v.2.2.2.2.2.2.2.1,v.2.2.2.2.2.2.2.2.1,v.2.2.2.2.2.2.2.2.2)))
theorem q1bg C v:q3pu (regO (qdk f115) 2) false (an [2,3,4,5,6]) q1ba q1bf q1be C v:=rgI (by kernel_rfl)
abbrev q1bh:Type:=Int×Int×Bool×Int×Int×Bool×Int×Int
def q1bi (v:q1bh):St:=⟨[(2,.ptr 0 0),(4,.ptr 1 0),(5,u6 v.1),(7,u6 v.2.1)],[.cells [.bool v.2.2.1,u6 v.2.2.2.1,u6 v.2.2.2.2.1],.cells [.bool v.2.2.2.2.2.1,u6 v.2.2.2.2.2.2.1,u6 v.2.2.2.2.2.2.2]]⟩
def q1bj (C:q1b0) (v:q1bd):Dt q1bh:=(Dt.bnd (q147 (v.2.2.2.1) (v.2.2.2.2.2.2.1) (v.2.1)) fun r1=>(Dt.ret (v.1,r1.1,v.2.2.1,v.2.2.2.1,v.2.2.2.2.1,v.2.2.2.2.2.2.2.2.1,v.2.2.2.2.2.2.2.2.2.1,v.2.2.2.2.2.2.2.2.2.2)))
theorem q1bk C v:q3pu (regO (qdk f115) 3) false (an [2,4,5,7]) q1be q1bj q1bi C v:=rgI (by kernel_rfl)
abbrev q1bl:Type:=Bool×Int×Int
def q1bm (v:q1bl):St:=⟨[(4,.ptr 0 0)],[.cells [.bool v.1,u6 v.2.1,u6 v.2.2]]⟩
def q1bn (C:q1b0) (v:q1bh):Dt q1bl:=(Dt.ret (v.2.2.1,v.2.1,v.1))
theorem q1bo C v:q3pu (regO (qdk f115) 4) false [(4,.any)] q1bi q1bn q1bm C v:=rgI (by kernel_rfl)
abbrev q1bp:Type:=Bool×Bool×Int×Int×Bool×Int×Int×Bool×Int×Int
def q1bq (v:q1bp):St:=⟨[(2,.ptr 0 0),(3,.ptr 1 0),(4,.ptr 2 0),(43,.bool v.1)],[.cells [.bool v.2.1,u6 v.2.2.1,u6 v.2.2.2.1],.cells [.bool v.2.2.2.2.1,u6 v.2.2.2.2.2.1,u6 v.2.2.2.2.2.2.1],.cells [.bool v.2.2.2.2.2.2.2.1,u6 v.2.2.2.2.2.2.2.2.1,u6 v.2.2.2.2.2.2.2.2.2]]⟩
def q1br (C:q1b0) (v:q1b9):Dt q1bp:=(Dt.bnd (C.1 ((v.2.1,v.2.2.1,v.2.2.2.1,()),(v.2.2.2.2.1,v.2.2.2.2.2.1,v.2.2.2.2.2.2.1,()),())) fun r1=>(Dt.ret ((decide (r1<(0:Int))),v.2.1,v.2.2.1,v.2.2.2.1,v.2.2.2.2.1,v.2.2.2.2.2.1,v.2.2.2.2.2.2.1,v.2.2.2.2.2.2.2.1,v.2.2.2.2.2.2.2.2.1,v.2.2.2.2.2.2.2.2.2)))
theorem q1bs C v:q3pu (regO (qdk f115) 5) false (an [2,3,4,43]) q1ba q1br q1bq C v:=rgI (by kernel_rfl)
def q1bt (C:q1b0) (v:q1bp):Dt q1b5:=(Dt.ret (v.2.2.2.2.1,v.2.2.2.2.2.1,v.2.2.2.2.2.2.1,v.2.1,v.2.2.1,v.2.2.2.1,v.2.2.2.2.2.2.2.1,v.2.2.2.2.2.2.2.2.1,v.2.2.2.2.2.2.2.2.2))
theorem q1bu C v:q3pu (regO (qdk f115) 6) false (an [2,3,4]) q1bq q1bt q1b6 C v:=rgI (by kernel_rfl)
abbrev q1bv:Type:=Int×Int×Bool×Int×Int×Bool×Int×Int×Bool×Int×Int
def q1bw (v:q1bv):St:=⟨[(2,.ptr 0 0),(3,.ptr 1 0),(4,.ptr 2 0),(9,u6 v.1),(10,u6 v.2.1)],[.cells [.bool v.2.2.1,u6 v.2.2.2.1,u6 v.2.2.2.2.1],.cells [.bool v.2.2.2.2.2.1,u6 v.2.2.2.2.2.2.1,u6 v.2.2.2.2.2.2.2.1],.cells [.bool v.2.2.2.2.2.2.2.2.1,u6 v.2.2.2.2.2.2.2.2.2.1,u6 v.2.2.2.2.2.2.2.2.2.2]]⟩
def q1bx (C:q1b0) (v:q1b5):Dt q1bv:=(Dt.bnd (q148 (v.2.2.1) (v.2.2.2.2.2.1) ((0:Int))) fun r1=>(Dt.ret (r1.1,r1.2,v.1,v.2.1,v.2.2.1,v.2.2.2.1,v.2.2.2.2.1,v.2.2.2.2.2.1,v.2.2.2.2.2.2.1,v.2.2.2.2.2.2.2.1,v.2.2.2.2.2.2.2.2)))
theorem q1by C v:q3pu (regO (qdk f115) 7) false (an [2,3,4,9,10]) q1b6 q1bx q1bw C v:=rgI (by kernel_rfl)
abbrev q1bz:Type:=Int×Int×Bool×Int×Int×Bool×Int×Int
def q1c0 (v:q1bz):St:=⟨[(2,.ptr 0 0),(4,.ptr 1 0),(9,u6 v.1),(11,u6 v.2.1)],[.cells [.bool v.2.2.1,u6 v.2.2.2.1,u6 v.2.2.2.2.1],.cells [.bool v.2.2.2.2.2.1,u6 v.2.2.2.2.2.2.1,u6 v.2.2.2.2.2.2.2]]⟩
def q1c1 (C:q1b0) (v:q1bv):Dt q1bz:=(Dt.bnd (q148 (v.2.2.2.1) (v.2.2.2.2.2.2.1) (v.2.1)) fun r1=>(Dt.ret (v.1,r1.1,v.2.2.1,v.2.2.2.1,v.2.2.2.2.1,v.2.2.2.2.2.2.2.2.1,v.2.2.2.2.2.2.2.2.2.1,v.2.2.2.2.2.2.2.2.2.2)))
theorem q1c2 C v:q3pu (regO (qdk f115) 8) false (an [2,4,9,11]) q1bw q1c1 q1c0 C v:=rgI (by kernel_rfl)
def q1c3 (C:q1b0) (v:q1bz):Dt q1bl:=(Dt.ret (v.2.2.1,v.2.1,v.1))
theorem q1c4 C v:q3pu (regO (qdk f115) 9) false [(4,.any)] q1c0 q1c3 q1bm C v:=rgI (by kernel_rfl)
def q1c5  (d:Nat)  (z:Bool×Int×Int×Bool×Int×Int×Bool×Int×Int):Option (q1ax) :=
 (q1bx (q1b1 d) z).eval fun y7 =>
 (q1c1 (q1b1 d) y7).eval fun y8 =>
 (q1c3 (q1b1 d) y8).eval fun y9 =>
 some y9
def q1c6 (d:Nat) (x:q1aw):Option q1ax :=
 (q1b7 (q1b1 d) (x.1.1,x.1.2.1,x.1.2.2.1,x.2.1.1,x.2.1.2.1,x.2.1.2.2.1)).eval fun y0 =>
 (q1bb (q1b1 d) y0).eval fun y1 =>
 bif y1.1 then ((q1bf (q1b1 d) y1).eval fun y2 =>
 (q1bj (q1b1 d) y2).eval fun y3 =>
 (q1bn (q1b1 d) y3).eval fun y4 =>
 some y4) else ((q1br (q1b1 d) y1).eval fun y5 =>
 bif y5.1 then ((q1bt (q1b1 d) y5).eval fun y6 =>
 q1c5 d  y6) else (q1c5 d  y5.2))
theorem q1c7 (d:Nat):COK prog (q1az (q1c6 d)):=by
 have hm:prog.follows .mixedOrders=true:=mixed
 have hT:=tys
 have hC0:OrcOK prog (orc (q1b2 (q1b1 d))):=qde (by
  intro S hS
  simp only [q1b2,List.mem_cons,List.not_mem_nil,or_false] at hS
  subst hS;exact q12t d)
 have hC:OrcOK prog (orcI 113 q147 (orcI 87 q148 (orc (q1b2 (q1b1 d))))):=(q149 q14c (q149 q14d hC0))
 refine q93 (c:=qdk f115) (fn:=f115) hT (by kernel_rfl) (by kernel_rfl) (by decide) fun x r h w0 φ0 Q hend=>?_
 replace h:q1c6 d x=some r:=h
 unfold q1c6 at h
 show Run prog w0 φ0 68 (qdk f115) ⟨[(0,.agg [.bool x.1.1,.int .u64 x.1.2.1,.int .u64 x.1.2.2.1]),(1,.agg [.bool x.2.1.1,.int .u64 x.2.1.2.1,.int .u64 x.2.1.2.2.1])],[]⟩ Q
 refine q3pf hm hT hC (q1b8 (q1b1 d) (x.1.1,x.1.2.1,x.1.2.2.1,x.2.1.1,x.2.1.2.1,x.2.1.2.2.1)) h fun y0 h=>?_
 refine q8m ?_
 refine q3pf hm hT hC (q1bc (q1b1 d) y0) h fun y1 h=>?_
 refine q8q (v:=y1.1) (by kernel_rfl) h ?_ ?_
 ·
  intro h
  refine q3pf hm hT hC (q1bg (q1b1 d) y1) h fun y2 h=>?_
  refine q3pf hm hT hC (q1bk (q1b1 d) y2) h fun y3 h=>?_
  refine q3pf hm hT hC (q1bo (q1b1 d) y3) h fun y4 h=>?_
  refine q8l (q8a ?_)
  cases h
  exact (hend _ (by kernel_rfl)).2
 ·
  intro h
  refine q8i (q88 ?_)
  refine q8p (r:=r) (F:=q1c5 d ) (S:=(fun z=>⟨[(2,.ptr 0 0),(3,.ptr 1 0),(4,.ptr 2 0)],[.cells [.bool z.1,u6 z.2.1,u6 z.2.2.1],.cells [.bool z.2.2.2.1,u6 z.2.2.2.2.1,u6 z.2.2.2.2.2.1],.cells [.bool z.2.2.2.2.2.2.1,u6 z.2.2.2.2.2.2.2.1,u6 z.2.2.2.2.2.2.2.2]]⟩:q1b5→St)) ?_ ?_
  ·
   intro z h
   unfold q1c5 at h
   refine q3pf hm hT hC (q1by (q1b1 d) z) h fun y7 h=>?_
   refine q3pf hm hT hC (q1c2 (q1b1 d) y7) h fun y8 h=>?_
   refine q3pf hm hT hC (q1c4 (q1b1 d) y8) h fun y9 h=>?_
   refine q8l ?_
   cases h
   exact (hend _ (by kernel_rfl)).2
  intro hj1
  refine q3pf hm hT hC (q1bs (q1b1 d) y1) h fun y5 h=>?_
  refine q8q (v:=y5.1) (by kernel_rfl) h ?_ ?_
  ·
   intro h
   refine q8r hm hT hC (q1bu (q1b1 d) y5) h ?_
   intro y6 h
   exact hj1 _ h
  ·
   intro h
   refine q8i ?_
   refine qdj (s:=⟨[(2,.ptr 0 0),(3,.ptr 1 0),(4,.ptr 2 0)],[.cells [.bool y5.2.1,.int .u64 y5.2.2.1,.int .u64 y5.2.2.2.1],.cells [.bool y5.2.2.2.2.1,.int .u64 y5.2.2.2.2.2.1,.int .u64 y5.2.2.2.2.2.2.1],.cells [.bool y5.2.2.2.2.2.2.2.1,.int .u64 y5.2.2.2.2.2.2.2.2.1,.int .u64 y5.2.2.2.2.2.2.2.2.2]]⟩) [43] (by kernel_rfl) ?_
   exact hj1 _ h
abbrev q1c8:List Pk:=[.row Rbuu true,.row Ru false]
abbrev q1c9:Type:=Dbuu×Du×Unit
abbrev q1ca:Type:=Bool×Int×Int×Int
def q1cb (r:q1ca):LV×List Ob:=(.tup [.agg [.bool r.1,.int .u64 r.2.1,.int .u64 r.2.2.1],.int .u64 r.2.2.2],[])
def q1cc (F:q1c9→Option q1ca):Go.Tx.Spec:=⟨116,q1c8,q1ca,F,q1cb⟩
abbrev q1cd:Type:=(q168→Option q169)×Unit
def q1ce (d:Nat):q1cd:=(q199 d,())
def q1cf (C:q1cd):List Go.Tx.Spec:=[q16b C.1]
abbrev q1cg:Type:=Bool×Int×Int×Int
def q1ch (v:q1cg):St:=⟨[(0,.agg [.bool v.1,u6 v.2.1,u6 v.2.2.1]),(1,u6 v.2.2.2)],[]⟩
abbrev q1ci:Type:=Int×Bool×Int×Int×Bool×Int×Int
def q1cj (v:q1ci):St:=⟨[(1,u6 v.1),(2,.ptr 0 0),(4,.ptr 1 0)],[.cells [.bool v.2.1,u6 v.2.2.1,u6 v.2.2.2.1],.cells [.bool v.2.2.2.2.1,u6 v.2.2.2.2.2.1,u6 v.2.2.2.2.2.2]]⟩
def q1ck (C:q1cd) (v:q1cg):Dt q1ci:=(Dt.ret (v.2.2.2,v.1,v.2.1,v.2.2.1,false,(0:Int),(0:Int)))
abbrev q3pv {V Y:Type}:=@rg q1cd V Y tysT (fun C=>(orc (q1cf C))) 31
theorem q1cl C v:q3pv (regO (qdk f116) 0) false (an [1,2,4]) q1ch q1ck q1cj C v:=rgI (by kernel_rfl)
abbrev q1cm:Type:=Int×Int×Int×Bool×Int×Int×Bool×Int×Int
def q1cn (v:q1cm):St:=⟨[(1,u6 v.1),(2,.ptr 0 0),(4,.ptr 1 0),(6,u6 v.2.1),(7,u6 v.2.2.1)],[.cells [.bool v.2.2.2.1,u6 v.2.2.2.2.1,u6 v.2.2.2.2.2.1],.cells [.bool v.2.2.2.2.2.2.1,u6 v.2.2.2.2.2.2.2.1,u6 v.2.2.2.2.2.2.2.2]]⟩
def q1co (C:q1cd) (v:q1ci):Dt q1cm:=(Dt.ite (v.1 == (0:Int)) Dt.fail (Dt.ite (v.1 == (0:Int)) Dt.fail (Dt.ret (v.1,(IntKind.wrap .u64 (Int.tdiv v.2.2.1 v.1)),(Int.tmod v.2.2.1 v.1),v.2.1,v.2.2.1,v.2.2.2.1,v.2.2.2.2.1,v.2.2.2.2.2.1,v.2.2.2.2.2.2))))
theorem q1cp C v:q3pv (regO (qdk f116) 1) true (an [1,2,4,6,7]) q1cj q1co q1cn C v:=rgI (by kernel_rfl)
abbrev q1cq:Type:=Int×Int×Int×Bool×Int×Int×Bool×Int×Int
def q1cr (v:q1cq):St:=⟨[(2,.ptr 0 0),(4,.ptr 1 0),(6,u6 v.1),(7,u6 v.2.1),(8,u6 v.2.2.1)],[.cells [.bool v.2.2.2.1,u6 v.2.2.2.2.1,u6 v.2.2.2.2.2.1],.cells [.bool v.2.2.2.2.2.2.1,u6 v.2.2.2.2.2.2.2.1,u6 v.2.2.2.2.2.2.2.2]]⟩
def q1cs (C:q1cd) (v:q1cm):Dt q1cq:=(Dt.bnd (C.1 ((v.2.2.1,()),(v.2.2.2.2.2.1,()),(v.1,()),())) fun r1=>(Dt.ret (v.2.1,r1.2,r1.1,v.2.2.2.1,v.2.2.2.2.1,v.2.2.2.2.2.1,v.2.2.2.2.2.2.1,v.2.2.2.2.2.2.2.1,v.2.2.2.2.2.2.2.2)))
theorem q1ct C v:q3pv (regO (qdk f116) 2) false (an [2,4,6,7,8]) q1cn q1cs q1cr C v:=rgI (by kernel_rfl)
abbrev q1cu:Type:=Int×Bool×Int×Int
def q1cv (v:q1cu):St:=⟨[(4,.ptr 0 0),(5,u6 v.1)],[.cells [.bool v.2.1,u6 v.2.2.1,u6 v.2.2.2]]⟩
def q1cw (C:q1cd) (v:q1cq):Dt q1cu:=(Dt.ret (v.2.1,v.2.2.2.1,v.1,v.2.2.1))
theorem q1cx C v:q3pv (regO (qdk f116) 3) false (an [4,5]) q1cr q1cw q1cv C v:=rgI (by kernel_rfl)
def q1cy (d:Nat) (x:q1c9):Option q1ca :=
 (q1ck (q1ce d) (x.1.1,x.1.2.1,x.1.2.2.1,x.2.1.1)).eval fun y0 =>
 (q1co (q1ce d) y0).eval fun y1 =>
 (q1cs (q1ce d) y1).eval fun y2 =>
 (q1cw (q1ce d) y2).eval fun y3 =>
 some (y3.2.1,y3.2.2.1,y3.2.2.2,y3.1)
theorem q1cz (d:Nat):COK prog (q1cc (q1cy d)):=by
 have hm:prog.follows .mixedOrders=true:=mixed
 have hT:=tys
 have hC0:OrcOK prog (orc (q1cf (q1ce d))):=qde (by
  intro S hS
  simp only [q1cf,List.mem_cons,List.not_mem_nil,or_false] at hS
  subst hS;exact q19a d)
 have hC:OrcOK prog (orc (q1cf (q1ce d))):=hC0
 refine q93 (c:=qdk f116) (fn:=f116) hT (by kernel_rfl) (by kernel_rfl) (by decide) fun x r h w0 φ0 Q hend=>?_
 replace h:q1cy d x=some r:=h
 unfold q1cy at h
 show Run prog w0 φ0 31 (qdk f116) ⟨[(0,.agg [.bool x.1.1,.int .u64 x.1.2.1,.int .u64 x.1.2.2.1]),(1,.int .u64 x.2.1.1)],[]⟩ Q
 refine q3pf hm hT hC (q1cl (q1ce d) (x.1.1,x.1.2.1,x.1.2.2.1,x.2.1.1)) h fun y0 h=>?_
 refine q3pf hm hT hC (q1cp (q1ce d) y0) h fun y1 h=>?_
 refine q3pf hm hT hC (q1ct (q1ce d) y1) h fun y2 h=>?_
 refine q3pf hm hT hC (q1cx (q1ce d) y2) h fun y3 h=>?_
 refine q8l ?_
 cases h
 exact (hend _ (by kernel_rfl)).2
abbrev q1d0:List Pk:=[.row Rbuu true,.row Ru false,.row Ru false]
abbrev q1d1:Type:=Dbuu×Du×Du×Unit
abbrev q1d2:Type:=Int×Int×Int
def q1d3 (r:q1d2):LV×List Ob:=(.tup [.agg [.int .i64 r.1,.int .i64 r.2.1],.int .i64 r.2.2],[])
def q1d4 (F:q1d1→Option q1d2):Go.Tx.Spec:=⟨117,q1d0,q1d2,F,q1d3⟩
abbrev q1d5:Type:=Unit
def q1d6 (_d:Nat):q1d5:=()
def q1d7 (C:q1d5):List Go.Tx.Spec:=[]
abbrev q1d8:Type:=Bool×Int×Int×Int×Int
def q1d9 (v:q1d8):St:=⟨[(0,.agg [.bool v.1,u6 v.2.1,u6 v.2.2.1]),(1,u6 v.2.2.2.1),(2,u6 v.2.2.2.2)],[]⟩
abbrev q1da:Type:=Int×Int×Bool×Int×Int×Int×Int
def q1db (v:q1da):St:=⟨[(1,u6 v.1),(2,u6 v.2.1),(3,.ptr 0 0),(6,.ptr 1 0)],[.cells [.bool v.2.2.1,u6 v.2.2.2.1,u6 v.2.2.2.2.1],.cells [i6 v.2.2.2.2.2.1,i6 v.2.2.2.2.2.2]]⟩
def q1dc (C:q1d5) (v:q1d8):Dt q1da:=(Dt.ret (v.2.2.2.1,v.2.2.2.2,v.1,v.2.1,v.2.2.1,(0:Int),(0:Int)))
abbrev q3pw {V Y:Type}:=@rg q1d5 V Y tysT (fun C=>(orc (q1d7 C))) 39
theorem q1dd C v:q3pw (regO (qdk f117) 0) false (an [1,2,3,6]) q1d9 q1dc q1db C v:=rgI (by kernel_rfl)
abbrev q1de:Type:=Int×Bool×Bool×Int×Int×Int×Int
def q1df (v:q1de):St:=⟨[(2,u6 v.1),(3,.ptr 0 0),(6,.ptr 1 0),(24,.bool v.2.1)],[.cells [.bool v.2.2.1,u6 v.2.2.2.1,u6 v.2.2.2.2.1],.cells [i6 v.2.2.2.2.2.1,i6 v.2.2.2.2.2.2]]⟩
def q1dg (C:q1d5) (v:q1da):Dt q1de:=(Dt.ite (decide (v.2.2.2.1 > (0:Int))) (Dt.ret (v.2.1,true,v.2.2.1,v.2.2.2.1,v.2.2.2.2.1,v.2.2.2.2.2.1,v.2.2.2.2.2.2)) (Dt.ite (decide (v.2.2.2.2.1 > (9223372036854775807:Int))) (Dt.ret (v.2.1,true,v.2.2.1,v.2.2.2.1,v.2.2.2.2.1,v.2.2.2.2.2.1,v.2.2.2.2.2.2)) (Dt.ite (decide (v.1 > (0:Int))) (Dt.ret (v.2.1,true,v.2.2.1,v.2.2.2.1,v.2.2.2.2.1,v.2.2.2.2.2.1,v.2.2.2.2.2.2)) (Dt.ret (v.2.1,(decide (v.2.1 > (9223372036854775807:Int))),v.2.2.1,v.2.2.2.1,v.2.2.2.2.1,v.2.2.2.2.2.1,v.2.2.2.2.2.2)))))
theorem q1dh C v:q3pw (regO (qdk f117) 1) false (an [2,3,6,24]) q1db q1dg q1df C v:=rgI (by kernel_rfl)
abbrev q1di:Type:=Int×Int×Int
def q1dj (v:q1di):St:=⟨[(6,.ptr 0 0),(7,i6 v.1)],[.cells [i6 v.2.1,i6 v.2.2]]⟩
def q1dk (C:q1d5) (v:q1de):Dt q1di:=(Dt.ret ((16:Int),(0:Int),(0:Int)))
theorem q1dl C v:q3pw (regO (qdk f117) 2) false (an [6,7]) q1df q1dk q1dj C v:=rgI (by kernel_rfl)
abbrev q1dm:Type:=Bool×Int×Int×Int×Int×Int×Int
def q1dn (v:q1dm):St:=⟨[(3,.ptr 0 0),(6,.ptr 1 0),(8,.ptr 2 0)],[.cells [.bool v.1,u6 v.2.1,u6 v.2.2.1],.cells [i6 v.2.2.2.1,i6 v.2.2.2.2.1],.cells [i6 v.2.2.2.2.2.1,i6 v.2.2.2.2.2.2]]⟩
def q1do (C:q1d5) (v:q1de):Dt q1dm:=(Dt.ret (v.2.2.1,v.2.2.2.1,v.2.2.2.2.1,v.2.2.2.2.2.1,v.2.2.2.2.2.2,(IntKind.wrap .i64 v.2.2.2.2.1),(IntKind.wrap .i64 v.1)))
theorem q1dp C v:q3pw (regO (qdk f117) 3) false (an [3,6,8]) q1df q1do q1dn C v:=rgI (by kernel_rfl)
abbrev q1dq:Type:=Bool×Int×Int×Int×Int
def q1dr (v:q1dq):St:=⟨[(6,.ptr 0 0),(8,.ptr 1 0),(33,.bool v.1)],[.cells [i6 v.2.1,i6 v.2.2.1],.cells [i6 v.2.2.2.1,i6 v.2.2.2.2]]⟩
def q1ds (C:q1d5) (v:q1dm):Dt q1dq:=(Dt.ret (v.1,v.2.2.2.1,v.2.2.2.2.1,v.2.2.2.2.2.1,v.2.2.2.2.2.2))
theorem q1dt C v:q3pw (regO (qdk f117) 4) false (an [6,8,33]) q1dn q1ds q1dr C v:=rgI (by kernel_rfl)
abbrev q1du:Type:=Int×Int×Int×Int
def q1dv (v:q1du):St:=⟨[(6,.ptr 0 0),(8,.ptr 1 0)],[.cells [i6 v.1,i6 v.2.1],.cells [i6 v.2.2.1,i6 v.2.2.2]]⟩
def q1dw (C:q1d5) (v:q1dq):Dt q1du:=(Dt.ret (v.2.1,v.2.2.1,(IntKind.wrap .i64 (0 - v.2.2.2.1)),v.2.2.2.2))
theorem q1dx C v:q3pw (regO (qdk f117) 5) false (an [6,8]) q1dr q1dw q1dv C v:=rgI (by kernel_rfl)
def q1dy (C:q1d5) (v:q1du):Dt q1di:=(Dt.ret ((0:Int),v.2.2.1,v.2.2.2))
theorem q1dz C v:q3pw (regO (qdk f117) 6) false (an [6,7]) q1dv q1dy q1dj C v:=rgI (by kernel_rfl)
def q1e0  (d:Nat)  (z:Int×Int×Int×Int):Option (q1d2) :=
 (q1dy (q1d6 d) z).eval fun y6 =>
 some (y6.2.1,y6.2.2,y6.1)
def q1e1 (d:Nat) (x:q1d1):Option q1d2 :=
 (q1dc (q1d6 d) (x.1.1,x.1.2.1,x.1.2.2.1,x.2.1.1,x.2.2.1.1)).eval fun y0 =>
 (q1dg (q1d6 d) y0).eval fun y1 =>
 bif y1.2.1 then ((q1dk (q1d6 d) y1).eval fun y2 =>
 some (y2.2.1,y2.2.2,y2.1)) else ((q1do (q1d6 d) y1).eval fun y3 =>
 (q1ds (q1d6 d) y3).eval fun y4 =>
 bif y4.1 then ((q1dw (q1d6 d) y4).eval fun y5 =>
 q1e0 d  y5) else (q1e0 d  y4.2))
theorem q1e2 (d:Nat):COK prog (q1d4 (q1e1 d)):=by
 have hm:prog.follows .mixedOrders=true:=mixed
 have hT:=tys
 have hC0:OrcOK prog (orc (q1d7 (q1d6 d))):=qde (by
  intro S hS
  simp only [q1d7,List.mem_cons,List.not_mem_nil,or_false] at hS
  all_goals first | cases hS | exact hS.elim)
 have hC:OrcOK prog (orc (q1d7 (q1d6 d))):=hC0
 refine q93 (c:=qdk f117) (fn:=f117) hT (by kernel_rfl) (by kernel_rfl) (by decide) fun x r h w0 φ0 Q hend=>?_
 replace h:q1e1 d x=some r:=h
 unfold q1e1 at h
 show Run prog w0 φ0 39 (qdk f117) ⟨[(0,.agg [.bool x.1.1,.int .u64 x.1.2.1,.int .u64 x.1.2.2.1]),(1,.int .u64 x.2.1.1),(2,.int .u64 x.2.2.1.1)],[]⟩ Q
 refine q3pf hm hT hC (q1dd (q1d6 d) (x.1.1,x.1.2.1,x.1.2.2.1,x.2.1.1,x.2.2.1.1)) h fun y0 h=>?_
 refine q8m ?_
 refine q3pf hm hT hC (q1dh (q1d6 d) y0) h fun y1 h=>?_
 refine q8q (v:=y1.2.1) (by kernel_rfl) h ?_ ?_
 ·
  intro h
  refine q3pf hm hT hC (q1dl (q1d6 d) y1) h fun y2 h=>?_
  refine q8l (q8a ?_)
  cases h
  exact (hend _ (by kernel_rfl)).2
 ·
  intro h
  refine q8i (q88 ?_)
  refine q3pf hm hT hC (q1dp (q1d6 d) y1) h fun y3 h=>?_
  refine q8p (r:=r) (F:=q1e0 d ) (S:=(fun z=>⟨[(6,.ptr 0 0),(8,.ptr 1 0)],[.cells [i6 z.1,i6 z.2.1],.cells [i6 z.2.2.1,i6 z.2.2.2]]⟩:q1du→St)) ?_ ?_
  ·
   intro z h
   unfold q1e0 at h
   refine q3pf hm hT hC (q1dz (q1d6 d) z) h fun y6 h=>?_
   refine q8l ?_
   cases h
   exact (hend _ (by kernel_rfl)).2
  intro hj1
  refine q3pf hm hT hC (q1dt (q1d6 d) y3) h fun y4 h=>?_
  refine q8q (v:=y4.1) (by kernel_rfl) h ?_ ?_
  ·
   intro h
   refine q8r hm hT hC (q1dx (q1d6 d) y4) h ?_
   intro y5 h
   exact hj1 _ h
  ·
   intro h
   refine q8i ?_
   refine qdj (s:=⟨[(6,.ptr 0 0),(8,.ptr 1 0)],[.cells [.int .i64 y4.2.1,.int .i64 y4.2.2.1],.cells [.int .i64 y4.2.2.2.1,.int .i64 y4.2.2.2.2]]⟩) [33] (by kernel_rfl) ?_
   exact hj1 _ h
abbrev q1e3:List Pk:=[.row Rii true,.row Rii true]
abbrev q1e4:Type:=Dii×Dii×Unit
abbrev q1e5:Type:=Int×Int×Int
def q1e6 (r:q1e5):LV×List Ob:=(.tup [.agg [.int .i64 r.1,.int .i64 r.2.1],.int .i64 r.2.2],[])
def q1e7 (F:q1e4→Option q1e5):Go.Tx.Spec:=⟨90,q1e3,q1e5,F,q1e6⟩
abbrev q1e8:Type:=(q1a7→Option q1a8)×(qw1→Option qw2)×(qzb→Option qzc)×(qmq→Option qmr)×(q1aw→Option q1ax)×(q1c9→Option q1ca)×(q1d1→Option q1d2)×Unit
def q1e9 (d:Nat):q1e8:=(q1at d,qwi d,qzw d,qmv d,q1c6 d,q1cy d,q1e1 d,())
def q1ea (C:q1e8):List Go.Tx.Spec:=[q1aa C.1,qw4 C.2.1,qze C.2.2.1,qmt C.2.2.2.1,q1az C.2.2.2.2.1,q1cc C.2.2.2.2.2.1,q1d4 C.2.2.2.2.2.2.1]
abbrev q1eb:Type:=Int×Int×Int×Int
def q1ec (v:q1eb):St:=⟨[(0,.agg [i6 v.1,i6 v.2.1]),(1,.agg [i6 v.2.2.1,i6 v.2.2.2])],[]⟩
abbrev q1ed:Type:=Int×Int×Int×Int×Int×Int
def q1ee (v:q1ed):St:=⟨[(2,.ptr 0 0),(3,.ptr 1 0),(4,.ptr 2 0)],[.cells [i6 v.1,i6 v.2.1],.cells [i6 v.2.2.1,i6 v.2.2.2.1],.cells [i6 v.2.2.2.2.1,i6 v.2.2.2.2.2]]⟩
def q1ef (C:q1e8) (v:q1eb):Dt q1ed:=(Dt.ret (v.1,v.2.1,v.2.2.1,v.2.2.2,(0:Int),(0:Int)))
abbrev q3px {V Y:Type}:=@rg q1e8 V Y tysT (fun C=>(orc (q1ea C))) 81
theorem q1eg C v:q3px (regO (qdk f90) 0) false (an [2,3,4]) q1ec q1ef q1ee C v:=rgI (by kernel_rfl)
abbrev q1eh:Type:=Int×Int×Int×Int×Int×Int×Int
def q1ei (v:q1eh):St:=⟨[(2,.ptr 0 0),(3,.ptr 1 0),(4,.ptr 2 0),(6,i6 v.1)],[.cells [i6 v.2.1,i6 v.2.2.1],.cells [i6 v.2.2.2.1,i6 v.2.2.2.2.1],.cells [i6 v.2.2.2.2.2.1,i6 v.2.2.2.2.2.2]]⟩
def q1ej (C:q1e8) (v:q1ed):Dt q1eh:=(Dt.bnd (C.2.1 ((v.1,v.2.1,()),(v.2.2.1,v.2.2.2.1,()),())) fun r1=>(Dt.ret (r1,v.1,v.2.1,v.2.2.1,v.2.2.2.1,v.2.2.2.2.1,v.2.2.2.2.2)))
theorem q1ek C v:q3px (regO (qdk f90) 1) false (an [2,3,4,6]) q1ee q1ej q1ei C v:=rgI (by kernel_rfl)
abbrev q1el:Type:=Int×Bool×Int×Int×Int×Int×Int×Int
def q1em (v:q1el):St:=⟨[(2,.ptr 0 0),(3,.ptr 1 0),(4,.ptr 2 0),(6,i6 v.1),(18,.bool v.2.1)],[.cells [i6 v.2.2.1,i6 v.2.2.2.1],.cells [i6 v.2.2.2.2.1,i6 v.2.2.2.2.2.1],.cells [i6 v.2.2.2.2.2.2.1,i6 v.2.2.2.2.2.2.2]]⟩
def q1en (C:q1e8) (v:q1eh):Dt q1el:=(Dt.ret (v.1,(v.1 != (0:Int)),v.2.1,v.2.2.1,v.2.2.2.1,v.2.2.2.2.1,v.2.2.2.2.2.1,v.2.2.2.2.2.2))
theorem q1eo C v:q3px (regO (qdk f90) 2) false (an [2,3,4,6,18]) q1ei q1en q1em C v:=rgI (by kernel_rfl)
abbrev q1ep:Type:=Int×Int×Int
def q1eq (v:q1ep):St:=⟨[(4,.ptr 0 0),(5,i6 v.1)],[.cells [i6 v.2.1,i6 v.2.2]]⟩
def q1er (C:q1e8) (v:q1el):Dt q1ep:=(Dt.ret (v.1,(0:Int),(0:Int)))
theorem q1es C v:q3px (regO (qdk f90) 3) false (an [4,5]) q1em q1er q1eq C v:=rgI (by kernel_rfl)
abbrev q1et:Type:=Int×Int×Int×Int×Int×Int×Int
def q1eu (v:q1et):St:=⟨[(2,.ptr 0 0),(3,.ptr 1 0),(4,.ptr 2 0),(7,i6 v.1)],[.cells [i6 v.2.1,i6 v.2.2.1],.cells [i6 v.2.2.2.1,i6 v.2.2.2.2.1],.cells [i6 v.2.2.2.2.2.1,i6 v.2.2.2.2.2.2]]⟩
def q1ev (C:q1e8) (v:q1el):Dt q1et:=(Dt.bnd (C.1 (((IntKind.wrap .u64 v.2.2.2.1),()),((IntKind.wrap .u64 v.2.2.2.2.2.1),()),())) fun r1=>(Dt.ret ((IntKind.wrap .i64 r1),v.2.2.1,v.2.2.2.1,v.2.2.2.2.1,v.2.2.2.2.2.1,v.2.2.2.2.2.2.1,v.2.2.2.2.2.2.2)))
theorem q1ew C v:q3px (regO (qdk f90) 4) false (an [2,3,4,7]) q1em q1ev q1eu C v:=rgI (by kernel_rfl)
abbrev q1ex:Type:=Int×Int×Int×Int×Int×Int×Int×Bool×Int×Int
def q1ey (v:q1ex):St:=⟨[(2,.ptr 0 0),(3,.ptr 1 0),(4,.ptr 2 0),(7,i6 v.1),(8,.ptr 3 0)],[.cells [i6 v.2.1,i6 v.2.2.1],.cells [i6 v.2.2.2.1,i6 v.2.2.2.2.1],.cells [i6 v.2.2.2.2.2.1,i6 v.2.2.2.2.2.2.1],.cells [.bool v.2.2.2.2.2.2.2.1,u6 v.2.2.2.2.2.2.2.2.1,u6 v.2.2.2.2.2.2.2.2.2]]⟩
def q1ez (C:q1e8) (v:q1et):Dt q1ex:=(Dt.ite (v.1 == (0:Int)) Dt.fail (Dt.bnd (C.2.2.1 ((v.2.1,()),((IntKind.wrap .i64 (Int.tdiv v.2.2.2.2.1 v.1)),()),())) fun r1=>(Dt.ite (v.1 == (0:Int)) Dt.fail (Dt.bnd (C.2.2.1 ((v.2.2.2.1,()),((IntKind.wrap .i64 (Int.tdiv v.2.2.1 v.1)),()),())) fun r2=>(Dt.bnd (C.2.2.2.2.1 ((r1.1,r1.2.1,r1.2.2,()),(r2.1,r2.2.1,r2.2.2,()),())) fun r3=>(Dt.ret (v.1,v.2.1,v.2.2.1,v.2.2.2.1,v.2.2.2.2.1,v.2.2.2.2.2.1,v.2.2.2.2.2.2,r3.1,r3.2.1,r3.2.2)))))))
theorem q1f0 C v:q3px (regO (qdk f90) 5) true (an [2,3,4,7,8]) q1eu q1ez q1ey C v:=rgI (by kernel_rfl)
abbrev q1f1:Type:=Int×Int×Int×Int×Int×Int×Int×Int×Bool×Int×Int
def q1f2 (v:q1f1):St:=⟨[(2,.ptr 0 0),(3,.ptr 1 0),(4,.ptr 2 0),(7,i6 v.1),(8,.ptr 3 0),(10,u6 v.2.1)],[.cells [i6 v.2.2.1,i6 v.2.2.2.1],.cells [i6 v.2.2.2.2.1,i6 v.2.2.2.2.2.1],.cells [i6 v.2.2.2.2.2.2.1,i6 v.2.2.2.2.2.2.2.1],.cells [.bool v.2.2.2.2.2.2.2.2.1,u6 v.2.2.2.2.2.2.2.2.2.1,u6 v.2.2.2.2.2.2.2.2.2.2]]⟩
def q1f3 (C:q1e8) (v:q1ex):Dt q1f1:=(Dt.bnd (C.2.2.2.2.2.1 ((v.2.2.2.2.2.2.2.1,v.2.2.2.2.2.2.2.2.1,v.2.2.2.2.2.2.2.2.2,()),((IntKind.wrap .u64 v.1),()),())) fun r1=>(Dt.ret (v.1,r1.2.2.2,v.2.1,v.2.2.1,v.2.2.2.1,v.2.2.2.2.1,v.2.2.2.2.2.1,v.2.2.2.2.2.2.1,v.2.2.2.2.2.2.2.1,v.2.2.2.2.2.2.2.2.1,v.2.2.2.2.2.2.2.2.2)))
theorem q1f4 C v:q3px (regO (qdk f90) 6) false (an [2,3,4,7,8,10]) q1ey q1f3 q1f2 C v:=rgI (by kernel_rfl)
abbrev q1f5:Type:=Int×Int×Int×Int×Int×Int×Int×Int×Bool×Int×Int
def q1f6 (v:q1f5):St:=⟨[(2,.ptr 0 0),(3,.ptr 1 0),(4,.ptr 2 0),(7,i6 v.1),(8,.ptr 3 0),(11,u6 v.2.1)],[.cells [i6 v.2.2.1,i6 v.2.2.2.1],.cells [i6 v.2.2.2.2.1,i6 v.2.2.2.2.2.1],.cells [i6 v.2.2.2.2.2.2.1,i6 v.2.2.2.2.2.2.2.1],.cells [.bool v.2.2.2.2.2.2.2.2.1,u6 v.2.2.2.2.2.2.2.2.2.1,u6 v.2.2.2.2.2.2.2.2.2.2]]⟩
def q1f7 (C:q1e8) (v:q1f1):Dt q1f5:=(Dt.bnd (C.1 (((IntKind.wrap .u64 v.1),()),(v.2.1,()),())) fun r1=>(Dt.ret (v.1,r1,v.2.2.1,v.2.2.2.1,v.2.2.2.2.1,v.2.2.2.2.2.1,v.2.2.2.2.2.2.1,v.2.2.2.2.2.2.2.1,v.2.2.2.2.2.2.2.2.1,v.2.2.2.2.2.2.2.2.2.1,v.2.2.2.2.2.2.2.2.2.2)))
theorem q1f8 C v:q3px (regO (qdk f90) 7) false (an [2,3,4,7,8,11]) q1f2 q1f7 q1f6 C v:=rgI (by kernel_rfl)
def q1f9 (C:q1e8) (v:q1f5):Dt q1f5:=(Dt.bnd (C.2.2.2.2.2.1 ((v.2.2.2.2.2.2.2.2.1,v.2.2.2.2.2.2.2.2.2.1,v.2.2.2.2.2.2.2.2.2.2,()),(v.2.1,()),())) fun r1=>(Dt.ret (v.1,v.2.1,v.2.2.1,v.2.2.2.1,v.2.2.2.2.1,v.2.2.2.2.2.1,v.2.2.2.2.2.2.1,v.2.2.2.2.2.2.2.1,r1.1,r1.2.1,r1.2.2.1)))
theorem q1fa C v:q3px (regO (qdk f90) 8) false (an [2,3,4,7,8,11]) q1f6 q1f9 q1f6 C v:=rgI (by kernel_rfl)
abbrev q1fb:Type:=Int×Int×Int×Int×Bool×Int×Int
def q1fc (v:q1fb):St:=⟨[(4,.ptr 0 0),(8,.ptr 1 0),(12,u6 v.1),(13,u6 v.2.1)],[.cells [i6 v.2.2.1,i6 v.2.2.2.1],.cells [.bool v.2.2.2.2.1,u6 v.2.2.2.2.2.1,u6 v.2.2.2.2.2.2]]⟩
def q1fd (C:q1e8) (v:q1f5):Dt q1fb:=(Dt.ite (v.1 == (0:Int)) Dt.fail (Dt.ite (v.2.1 == (0:Int)) Dt.fail (Dt.bnd (C.2.2.2.1 (((IntKind.wrap .u64 (IntKind.wrap .i64 (Int.tdiv v.2.2.2.1 v.1))),()),((IntKind.wrap .u64 (Int.tdiv (IntKind.wrap .u64 v.2.2.2.2.2.1) v.2.1)),()),())) fun r1=>(Dt.ret (r1.1,r1.2,v.2.2.2.2.2.2.1,v.2.2.2.2.2.2.2.1,v.2.2.2.2.2.2.2.2.1,v.2.2.2.2.2.2.2.2.2.1,v.2.2.2.2.2.2.2.2.2.2)))))
theorem q1fe C v:q3px (regO (qdk f90) 9) true (an [4,8,12,13]) q1f6 q1fd q1fc C v:=rgI (by kernel_rfl)
def q1ff (C:q1e8) (v:q1fb):Dt q1ep:=(Dt.bnd (C.2.2.2.2.2.2.1 ((v.2.2.2.2.1,v.2.2.2.2.2.1,v.2.2.2.2.2.2,()),(v.1,()),(v.2.1,()),())) fun r1=>(Dt.ret (r1.2.2,r1.1,r1.2.1)))
theorem q1fg C v:q3px (regO (qdk f90) 10) false (an [4,5]) q1fc q1ff q1eq C v:=rgI (by kernel_rfl)
def q1fh (d:Nat) (x:q1e4):Option q1e5 :=
 (q1ef (q1e9 d) (x.1.1,x.1.2.1,x.2.1.1,x.2.1.2.1)).eval fun y0 =>
 (q1ej (q1e9 d) y0).eval fun y1 =>
 (q1en (q1e9 d) y1).eval fun y2 =>
 bif y2.2.1 then ((q1er (q1e9 d) y2).eval fun y3 =>
 some (y3.2.1,y3.2.2,y3.1)) else ((q1ev (q1e9 d) y2).eval fun y4 =>
 (q1ez (q1e9 d) y4).eval fun y5 =>
 (q1f3 (q1e9 d) y5).eval fun y6 =>
 (q1f7 (q1e9 d) y6).eval fun y7 =>
 (q1f9 (q1e9 d) y7).eval fun y8 =>
 (q1fd (q1e9 d) y8).eval fun y9 =>
 (q1ff (q1e9 d) y9).eval fun y10 =>
 some (y10.2.1,y10.2.2,y10.1))
theorem q1fi (d:Nat):COK prog (q1e7 (q1fh d)):=by
 have hm:prog.follows .mixedOrders=true:=mixed
 have hT:=tys
 have hC0:OrcOK prog (orc (q1ea (q1e9 d))):=qde (by
  intro S hS
  simp only [q1ea,List.mem_cons,List.not_mem_nil,or_false] at hS
  rcases hS with rfl | rfl | rfl | rfl | rfl | rfl | rfl
  · exact q1au d
  · exact qwj d
  · exact qzx d
  · exact qmx d
  · exact q1c7 d
  · exact q1cz d
  · exact q1e2 d)
 have hC:OrcOK prog (orc (q1ea (q1e9 d))):=hC0
 refine q93 (c:=qdk f90) (fn:=f90) hT (by kernel_rfl) (by kernel_rfl) (by decide) fun x r h w0 φ0 Q hend=>?_
 replace h:q1fh d x=some r:=h
 unfold q1fh at h
 show Run prog w0 φ0 81 (qdk f90) ⟨[(0,.agg [.int .i64 x.1.1,.int .i64 x.1.2.1]),(1,.agg [.int .i64 x.2.1.1,.int .i64 x.2.1.2.1])],[]⟩ Q
 refine q3pf hm hT hC (q1eg (q1e9 d) (x.1.1,x.1.2.1,x.2.1.1,x.2.1.2.1)) h fun y0 h=>?_
 refine q8m ?_
 refine q3pf hm hT hC (q1ek (q1e9 d) y0) h fun y1 h=>?_
 refine q3pf hm hT hC (q1eo (q1e9 d) y1) h fun y2 h=>?_
 refine q8q (v:=y2.2.1) (by kernel_rfl) h ?_ ?_
 ·
  intro h
  refine q3pf hm hT hC (q1es (q1e9 d) y2) h fun y3 h=>?_
  refine q8l (q8a ?_)
  cases h
  exact (hend _ (by kernel_rfl)).2
 ·
  intro h
  refine q8i (q88 ?_)
  refine q3pf hm hT hC (q1ew (q1e9 d) y2) h fun y4 h=>?_
  refine q3pf hm hT hC (q1f0 (q1e9 d) y4) h fun y5 h=>?_
  refine q3pf hm hT hC (q1f4 (q1e9 d) y5) h fun y6 h=>?_
  refine q3pf hm hT hC (q1f8 (q1e9 d) y6) h fun y7 h=>?_
  refine q3pf hm hT hC (q1fa (q1e9 d) y7) h fun y8 h=>?_
  refine q3pf hm hT hC (q1fe (q1e9 d) y8) h fun y9 h=>?_
  refine q3pf hm hT hC (q1fg (q1e9 d) y9) h fun y10 h=>?_
  refine q8l ?_
  cases h
  exact (hend _ (by kernel_rfl)).2
abbrev q1fj:List Pk:=[.row Rii true,.row Rii true]
abbrev q1fk:Type:=Dii×Dii×Unit
abbrev q1fl:Type:=Int×Int×Int
def q1fm (r:q1fl):LV×List Ob:=(.tup [.agg [.int .i64 r.1,.int .i64 r.2.1],.int .i64 r.2.2],[])
def q1fn (F:q1fk→Option q1fl):Go.Tx.Spec:=⟨60,q1fj,q1fl,F,q1fm⟩
abbrev q1fo:Type:=(qw1→Option qw2)×(q1e4→Option q1e5)×Unit
def q1fp (d:Nat):q1fo:=(qwi d,q1fh d,())
def q1fq (C:q1fo):List Go.Tx.Spec:=[qw4 C.1,q1e7 C.2.1]
abbrev q1fr:Type:=Int×Int×Int×Int
def q1fs (v:q1fr):St:=⟨[(0,.agg [i6 v.1,i6 v.2.1]),(1,.agg [i6 v.2.2.1,i6 v.2.2.2])],[]⟩
abbrev q1ft:Type:=Int×Int×Int×Int×Int×Int
def q1fu (v:q1ft):St:=⟨[(2,.ptr 0 0),(3,.ptr 1 0),(4,.ptr 2 0)],[.cells [i6 v.1,i6 v.2.1],.cells [i6 v.2.2.1,i6 v.2.2.2.1],.cells [i6 v.2.2.2.2.1,i6 v.2.2.2.2.2]]⟩
def q1fv (C:q1fo) (v:q1fr):Dt q1ft:=(Dt.ret (v.1,v.2.1,v.2.2.1,v.2.2.2,(0:Int),(0:Int)))
abbrev q3py {V Y:Type}:=@rg q1fo V Y tysT (fun C=>(orc (q1fq C))) 23
theorem q1fw C v:q3py (regO (qdk f60) 0) false (an [2,3,4]) q1fs q1fv q1fu C v:=rgI (by kernel_rfl)
abbrev q1fx:Type:=Int×Int×Int×Int×Int×Int×Int
def q1fy (v:q1fx):St:=⟨[(2,.ptr 0 0),(3,.ptr 1 0),(4,.ptr 2 0),(6,i6 v.1)],[.cells [i6 v.2.1,i6 v.2.2.1],.cells [i6 v.2.2.2.1,i6 v.2.2.2.2.1],.cells [i6 v.2.2.2.2.2.1,i6 v.2.2.2.2.2.2]]⟩
def q1fz (C:q1fo) (v:q1ft):Dt q1fx:=(Dt.bnd (C.1 ((v.1,v.2.1,()),(v.2.2.1,v.2.2.2.1,()),())) fun r1=>(Dt.ret (r1,v.1,v.2.1,v.2.2.1,v.2.2.2.1,v.2.2.2.2.1,v.2.2.2.2.2)))
theorem q1g0 C v:q3py (regO (qdk f60) 1) false (an [2,3,4,6]) q1fu q1fz q1fy C v:=rgI (by kernel_rfl)
abbrev q1g1:Type:=Int×Bool×Int×Int×Int×Int×Int×Int
def q1g2 (v:q1g1):St:=⟨[(2,.ptr 0 0),(3,.ptr 1 0),(4,.ptr 2 0),(6,i6 v.1),(11,.bool v.2.1)],[.cells [i6 v.2.2.1,i6 v.2.2.2.1],.cells [i6 v.2.2.2.2.1,i6 v.2.2.2.2.2.1],.cells [i6 v.2.2.2.2.2.2.1,i6 v.2.2.2.2.2.2.2]]⟩
def q1g3 (C:q1fo) (v:q1fx):Dt q1g1:=(Dt.ret (v.1,(v.1 != (0:Int)),v.2.1,v.2.2.1,v.2.2.2.1,v.2.2.2.2.1,v.2.2.2.2.2.1,v.2.2.2.2.2.2))
theorem q1g4 C v:q3py (regO (qdk f60) 2) false (an [2,3,4,6,11]) q1fy q1g3 q1g2 C v:=rgI (by kernel_rfl)
abbrev q1g5:Type:=Int×Int×Int
def q1g6 (v:q1g5):St:=⟨[(4,.ptr 0 0),(5,i6 v.1)],[.cells [i6 v.2.1,i6 v.2.2]]⟩
def q1g7 (C:q1fo) (v:q1g1):Dt q1g5:=(Dt.ret (v.1,(0:Int),(0:Int)))
theorem q1g8 C v:q3py (regO (qdk f60) 3) false (an [4,5]) q1g2 q1g7 q1g6 C v:=rgI (by kernel_rfl)
def q1g9 (C:q1fo) (v:q1g1):Dt q1ft:=(Dt.ret (v.2.2.1,v.2.2.2.1,(IntKind.wrap .i64 (0 - v.2.2.2.2.1)),v.2.2.2.2.2.1,v.2.2.2.2.2.2.1,v.2.2.2.2.2.2.2))
theorem q1ga C v:q3py (regO (qdk f60) 4) false (an [2,3,4]) q1g2 q1g9 q1fu C v:=rgI (by kernel_rfl)
def q1gb (C:q1fo) (v:q1ft):Dt q1g5:=(Dt.bnd (C.2.1 ((v.1,v.2.1,()),(v.2.2.1,v.2.2.2.1,()),())) fun r1=>(Dt.ret (r1.2.2,r1.1,r1.2.1)))
theorem q1gc C v:q3py (regO (qdk f60) 5) false (an [4,5]) q1fu q1gb q1g6 C v:=rgI (by kernel_rfl)
def q1gd (d:Nat) (x:q1fk):Option q1fl :=
 (q1fv (q1fp d) (x.1.1,x.1.2.1,x.2.1.1,x.2.1.2.1)).eval fun y0 =>
 (q1fz (q1fp d) y0).eval fun y1 =>
 (q1g3 (q1fp d) y1).eval fun y2 =>
 bif y2.2.1 then ((q1g7 (q1fp d) y2).eval fun y3 =>
 some (y3.2.1,y3.2.2,y3.1)) else ((q1g9 (q1fp d) y2).eval fun y4 =>
 (q1gb (q1fp d) y4).eval fun y5 =>
 some (y5.2.1,y5.2.2,y5.1))
theorem q1ge (d:Nat):COK prog (q1fn (q1gd d)):=by
 have hm:prog.follows .mixedOrders=true:=mixed
 have hT:=tys
 have hC0:OrcOK prog (orc (q1fq (q1fp d))):=qde (by
  intro S hS
  simp only [q1fq,List.mem_cons,List.not_mem_nil,or_false] at hS
  rcases hS with rfl | rfl
  · exact qwj d
  · exact q1fi d)
 have hC:OrcOK prog (orc (q1fq (q1fp d))):=hC0
 refine q93 (c:=qdk f60) (fn:=f60) hT (by kernel_rfl) (by kernel_rfl) (by decide) fun x r h w0 φ0 Q hend=>?_
 replace h:q1gd d x=some r:=h
 unfold q1gd at h
 show Run prog w0 φ0 23 (qdk f60) ⟨[(0,.agg [.int .i64 x.1.1,.int .i64 x.1.2.1]),(1,.agg [.int .i64 x.2.1.1,.int .i64 x.2.1.2.1])],[]⟩ Q
 refine q3pf hm hT hC (q1fw (q1fp d) (x.1.1,x.1.2.1,x.2.1.1,x.2.1.2.1)) h fun y0 h=>?_
 refine q8m ?_
 refine q3pf hm hT hC (q1g0 (q1fp d) y0) h fun y1 h=>?_
 refine q3pf hm hT hC (q1g4 (q1fp d) y1) h fun y2 h=>?_
 refine q8q (v:=y2.2.1) (by kernel_rfl) h ?_ ?_
 ·
  intro h
  refine q3pf hm hT hC (q1g8 (q1fp d) y2) h fun y3 h=>?_
  refine q8l (q8a ?_)
  cases h
  exact (hend _ (by kernel_rfl)).2
 ·
  intro h
  refine q8i (q88 ?_)
  refine q3pf hm hT hC (q1ga (q1fp d) y2) h fun y4 h=>?_
  refine q3pf hm hT hC (q1gc (q1fp d) y4) h fun y5 h=>?_
  refine q8l ?_
  cases h
  exact (hend _ (by kernel_rfl)).2
abbrev q1gf:List Pk:=[.row Riii true,.row Rii true]
abbrev q1gg:Type:=Diii×Dii×Unit
abbrev q1gh:Type:=Int×Int×Int
def q1gi (r:q1gh):LV×List Ob:=(.tup [.agg [.int .i64 r.1,.int .i64 r.2.1],.int .i64 r.2.2],[])
def q1gj (F:q1gg→Option q1gh):Go.Tx.Spec:=⟨59,q1gf,q1gh,F,q1gi⟩
abbrev q1gk:Type:=(qn8→Option qn9)×(qnq→Option qnr)×(q19y→Option q19z)×(q19c→Option q19d)×(q168→Option q169)×Unit
def q1gl (d:Nat):q1gk:=(qnd d,qnv d,q1a3 d,q19v d,q199 d,())
def q1gm (C:q1gk):List Go.Tx.Spec:=[qnb C.1,qnt C.2.1,q1a1 C.2.2.1,q19f C.2.2.2.1,q16b C.2.2.2.2.1]
abbrev q1gn:Type:=Int×Int×Int×Int×Int
def q1go (v:q1gn):St:=⟨[(0,.agg [i6 v.1,i6 v.2.1,i6 v.2.2.1]),(1,.agg [i6 v.2.2.2.1,i6 v.2.2.2.2])],[]⟩
abbrev q1gp:Type:=Int×Int×Int×Int×Int×Int×Int
def q1gq (v:q1gp):St:=⟨[(2,.ptr 0 0),(3,.ptr 1 0),(4,.ptr 2 0)],[.cells [i6 v.1,i6 v.2.1,i6 v.2.2.1],.cells [i6 v.2.2.2.1,i6 v.2.2.2.2.1],.cells [i6 v.2.2.2.2.2.1,i6 v.2.2.2.2.2.2]]⟩
def q1gr (C:q1gk) (v:q1gn):Dt q1gp:=(Dt.ret (v.1,v.2.1,v.2.2.1,v.2.2.2.1,v.2.2.2.2,(0:Int),(0:Int)))
abbrev q3pz {V Y:Type}:=@rg q1gk V Y tysT (fun C=>(orcI 87 q148 (orc (q1gm C)))) 111
theorem q1gs C v:q3pz (regO (qdk f59) 0) false (an [2,3,4]) q1go q1gr q1gq C v:=rgI (by kernel_rfl)
abbrev q1gt:Type:=Int×Int×Int×Int×Int×Int×Int×Int
def q1gu (v:q1gt):St:=⟨[(2,.ptr 0 0),(3,.ptr 1 0),(4,.ptr 2 0),(6,i6 v.1)],[.cells [i6 v.2.1,i6 v.2.2.1,i6 v.2.2.2.1],.cells [i6 v.2.2.2.2.1,i6 v.2.2.2.2.2.1],.cells [i6 v.2.2.2.2.2.2.1,i6 v.2.2.2.2.2.2.2]]⟩
def q1gv (C:q1gk) (v:q1gp):Dt q1gt:=(Dt.bnd (C.2.1 ((v.1,v.2.1,v.2.2.1,()),())) fun r1=>(Dt.bnd (C.1 ((v.2.2.2.1,v.2.2.2.2.1,()),())) fun r2=>(Dt.ret ((tmax r1 r2),v.1,v.2.1,v.2.2.1,v.2.2.2.1,v.2.2.2.2.1,v.2.2.2.2.2.1,v.2.2.2.2.2.2))))
theorem q1gw C v:q3pz (regO (qdk f59) 1) true (an [2,3,4,6]) q1gq q1gv q1gu C v:=rgI (by kernel_rfl)
abbrev q1gx:Type:=Int×Bool×Int×Int×Int×Int×Int×Int×Int
def q1gy (v:q1gx):St:=⟨[(2,.ptr 0 0),(3,.ptr 1 0),(4,.ptr 2 0),(6,i6 v.1),(24,.bool v.2.1)],[.cells [i6 v.2.2.1,i6 v.2.2.2.1,i6 v.2.2.2.2.1],.cells [i6 v.2.2.2.2.2.1,i6 v.2.2.2.2.2.2.1],.cells [i6 v.2.2.2.2.2.2.2.1,i6 v.2.2.2.2.2.2.2.2]]⟩
def q1gz (C:q1gk) (v:q1gt):Dt q1gx:=(Dt.ret (v.1,(v.1 != (0:Int)),v.2.1,v.2.2.1,v.2.2.2.1,v.2.2.2.2.1,v.2.2.2.2.2.1,v.2.2.2.2.2.2.1,v.2.2.2.2.2.2.2))
theorem q1h0 C v:q3pz (regO (qdk f59) 2) false (an [2,3,4,6,24]) q1gu q1gz q1gy C v:=rgI (by kernel_rfl)
abbrev q1h1:Type:=Int×Int×Int
def q1h2 (v:q1h1):St:=⟨[(4,.ptr 0 0),(5,i6 v.1)],[.cells [i6 v.2.1,i6 v.2.2]]⟩
def q1h3 (C:q1gk) (v:q1gx):Dt q1h1:=(Dt.ret (v.1,(0:Int),(0:Int)))
theorem q1h4 C v:q3pz (regO (qdk f59) 3) false (an [4,5]) q1gy q1h3 q1h2 C v:=rgI (by kernel_rfl)
abbrev q1h5:Type:=Int×Int×Int×Int×Int×Int
def q1h6 (v:q1h5):St:=⟨[(3,.ptr 0 0),(4,.ptr 1 0),(7,.ptr 2 0)],[.cells [i6 v.1,i6 v.2.1],.cells [i6 v.2.2.1,i6 v.2.2.2.1],.cells [i6 v.2.2.2.2.1,u6 v.2.2.2.2.2]]⟩
def q1h7 (C:q1gk) (v:q1gx):Dt q1h5:=(Dt.bnd (C.2.2.1 ((v.2.2.2.1,v.2.2.2.2.2.2.1,v.2.2.2.2.1,v.2.2.2.2.2.1,()),())) fun r1=>(Dt.ret (v.2.2.2.2.2.1,v.2.2.2.2.2.2.1,v.2.2.2.2.2.2.2.1,v.2.2.2.2.2.2.2.2,r1.1,r1.2)))
theorem q1h8 C v:q3pz (regO (qdk f59) 4) false (an [3,4,7]) q1gy q1h7 q1h6 C v:=rgI (by kernel_rfl)
abbrev q1h9:Type:=Bool×Int×Int×Int×Int×Int×Int
def q1ha (v:q1h9):St:=⟨[(3,.ptr 0 0),(4,.ptr 1 0),(7,.ptr 2 0),(8,.bool v.1)],[.cells [i6 v.2.1,i6 v.2.2.1],.cells [i6 v.2.2.2.1,i6 v.2.2.2.2.1],.cells [i6 v.2.2.2.2.2.1,u6 v.2.2.2.2.2.2]]⟩
def q1hb (C:q1gk) (v:q1h5):Dt q1h9:=(Dt.ret ((decide (v.2.2.2.2.1<(0:Int))),v.1,v.2.1,v.2.2.1,v.2.2.2.1,v.2.2.2.2.1,v.2.2.2.2.2))
theorem q1hc C v:q3pz (regO (qdk f59) 5) false (an [3,4,7,8]) q1h6 q1hb q1ha C v:=rgI (by kernel_rfl)
abbrev q1hd:Type:=Bool×Bool×Int×Int×Int×Int×Int×Int
def q1he (v:q1hd):St:=⟨[(3,.ptr 0 0),(4,.ptr 1 0),(7,.ptr 2 0),(8,.bool v.1),(42,.bool v.2.1)],[.cells [i6 v.2.2.1,i6 v.2.2.2.1],.cells [i6 v.2.2.2.2.1,i6 v.2.2.2.2.2.1],.cells [i6 v.2.2.2.2.2.2.1,u6 v.2.2.2.2.2.2.2]]⟩
def q1hf (C:q1gk) (v:q1h9):Dt q1hd:=(Dt.ret (v.1,v.1,v.2.1,v.2.2.1,v.2.2.2.1,v.2.2.2.2.1,v.2.2.2.2.2.1,v.2.2.2.2.2.2))
theorem q1hg C v:q3pz (regO (qdk f59) 6) false (an [3,4,7,8,42]) q1ha q1hf q1he C v:=rgI (by kernel_rfl)
abbrev q1hh:Type:=Bool×Int×Int×Int×Int×Int×Int×Int×Int
def q1hi (v:q1hh):St:=⟨[(3,.ptr 0 0),(4,.ptr 1 0),(7,.ptr 2 0),(8,.bool v.1),(9,u6 v.2.1),(10,u6 v.2.2.1)],[.cells [i6 v.2.2.2.1,i6 v.2.2.2.2.1],.cells [i6 v.2.2.2.2.2.1,i6 v.2.2.2.2.2.2.1],.cells [i6 v.2.2.2.2.2.2.2.1,u6 v.2.2.2.2.2.2.2.2]]⟩
def q1hj (C:q1gk) (v:q1hd):Dt q1hh:=(Dt.bnd (q148 ((0:Int)) (v.2.2.2.2.2.2.2) ((0:Int))) fun r1=>(Dt.ret (v.1,r1.1,r1.2,v.2.2.1,v.2.2.2.1,v.2.2.2.2.1,v.2.2.2.2.2.1,v.2.2.2.2.2.2.1,v.2.2.2.2.2.2.2)))
theorem q1hk C v:q3pz (regO (qdk f59) 7) false (an [3,4,7,8,9,10]) q1he q1hj q1hi C v:=rgI (by kernel_rfl)
def q1hl (C:q1gk) (v:q1hh):Dt q1h9:=(Dt.ret (v.1,v.2.2.2.1,v.2.2.2.2.1,v.2.2.2.2.2.1,v.2.2.2.2.2.2.1,(IntKind.wrap .i64 ((IntKind.wrap .i64 (0 - v.2.2.2.2.2.2.2.1)) - (IntKind.wrap .i64 v.2.2.1))),v.2.1))
theorem q1hm C v:q3pz (regO (qdk f59) 8) false (an [3,4,7,8]) q1hi q1hl q1ha C v:=rgI (by kernel_rfl)
abbrev q1hn:Type:=Bool×Int×Int×Int×Int×Int
def q1ho (v:q1hn):St:=⟨[(4,.ptr 0 0),(7,.ptr 1 0),(8,.bool v.1),(11,u6 v.2.1)],[.cells [i6 v.2.2.1,i6 v.2.2.2.1],.cells [i6 v.2.2.2.2.1,u6 v.2.2.2.2.2]]⟩
def q1hp (C:q1gk) (v:q1h9):Dt q1hn:=(Dt.ret (v.1,(IntKind.wrap .u64 v.2.2.1),v.2.2.2.1,v.2.2.2.2.1,v.2.2.2.2.2.1,v.2.2.2.2.2.2))
theorem q1hq C v:q3pz (regO (qdk f59) 9) false (an [4,7,8,11]) q1ha q1hp q1ho C v:=rgI (by kernel_rfl)
abbrev q1hr:Type:=Bool×Int×Int×Int×Int×Int×Int
def q1hs (v:q1hr):St:=⟨[(4,.ptr 0 0),(7,.ptr 1 0),(8,.bool v.1),(11,u6 v.2.1),(12,u6 v.2.2.1)],[.cells [i6 v.2.2.2.1,i6 v.2.2.2.2.1],.cells [i6 v.2.2.2.2.2.1,u6 v.2.2.2.2.2.2]]⟩
def q1ht (C:q1gk) (v:q1hn):Dt q1hr:=(Dt.bnd (C.2.2.2.1 (((IntKind.wrap .u64 v.2.2.2.2.1),()),(v.2.2.2.2.2,()),(v.2.1,()),())) fun r1=>(Dt.ret (v.1,v.2.1,r1,v.2.2.1,v.2.2.2.1,v.2.2.2.2.1,v.2.2.2.2.2)))
theorem q1hu C v:q3pz (regO (qdk f59) 10) false (an [4,7,8,11,12]) q1ho q1ht q1hs C v:=rgI (by kernel_rfl)
abbrev q1hv:Type:=Bool×Int×Int×Int×Int×Int×Int×Int
def q1hw (v:q1hv):St:=⟨[(4,.ptr 0 0),(7,.ptr 1 0),(8,.bool v.1),(11,u6 v.2.1),(12,u6 v.2.2.1),(13,u6 v.2.2.2.1)],[.cells [i6 v.2.2.2.2.1,i6 v.2.2.2.2.2.1],.cells [i6 v.2.2.2.2.2.2.1,u6 v.2.2.2.2.2.2.2]]⟩
def q1hx (C:q1gk) (v:q1hr):Dt q1hv:=(Dt.ret (v.1,v.2.1,v.2.2.1,v.2.1,v.2.2.2.1,v.2.2.2.2.1,v.2.2.2.2.2.1,v.2.2.2.2.2.2))
theorem q1hy C v:q3pz (regO (qdk f59) 11) false (an [4,7,8,11,12,13]) q1hs q1hx q1hw C v:=rgI (by kernel_rfl)
abbrev q1hz:Type:=Bool×Int×Int×Int×Bool×Int×Int×Int×Int
def q1i0 (v:q1hz):St:=⟨[(4,.ptr 0 0),(7,.ptr 1 0),(8,.bool v.1),(11,u6 v.2.1),(12,u6 v.2.2.1),(13,u6 v.2.2.2.1),(69,.bool v.2.2.2.2.1)],[.cells [i6 v.2.2.2.2.2.1,i6 v.2.2.2.2.2.2.1],.cells [i6 v.2.2.2.2.2.2.2.1,u6 v.2.2.2.2.2.2.2.2]]⟩
def q1i1 (C:q1gk) (v:q1hv):Dt q1hz:=(Dt.ret (v.1,v.2.1,v.2.2.1,v.2.2.2.1,(decide (v.2.2.1 > (0:Int))),v.2.2.2.2.1,v.2.2.2.2.2.1,v.2.2.2.2.2.2.1,v.2.2.2.2.2.2.2))
theorem q1i2 C v:q3pz (regO (qdk f59) 12) false (an [4,7,8,11,12,13,69]) q1hw q1i1 q1i0 C v:=rgI (by kernel_rfl)
def q1i3 (C:q1gk) (v:q1hz):Dt q1hv:=(Dt.ite (v.2.2.1 == (0:Int)) Dt.fail (Dt.ret (v.1,v.2.1,(Int.tmod v.2.2.2.1 v.2.2.1),v.2.2.1,v.2.2.2.2.2.1,v.2.2.2.2.2.2.1,v.2.2.2.2.2.2.2.1,v.2.2.2.2.2.2.2.2)))
theorem q1i4 C v:q3pz (regO (qdk f59) 13) true (an [4,7,8,11,12,13]) q1i0 q1i3 q1hw C v:=rgI (by kernel_rfl)
abbrev q1i5:Type:=Bool×Int×Int×Int×Int×Int×Int×Int
def q1i6 (v:q1i5):St:=⟨[(4,.ptr 0 0),(7,.ptr 1 0),(8,.bool v.1),(11,u6 v.2.1),(13,u6 v.2.2.1),(14,u6 v.2.2.2.1)],[.cells [i6 v.2.2.2.2.1,i6 v.2.2.2.2.2.1],.cells [i6 v.2.2.2.2.2.2.1,u6 v.2.2.2.2.2.2.2]]⟩
def q1i7 (C:q1gk) (v:q1hz):Dt q1i5:=(Dt.ite (v.2.2.2.1 == (0:Int)) Dt.fail (Dt.ret (v.1,v.2.1,v.2.2.2.1,(IntKind.wrap .u64 (Int.tdiv (IntKind.wrap .u64 v.2.2.2.2.2.2.2.1) v.2.2.2.1)),v.2.2.2.2.2.1,v.2.2.2.2.2.2.1,v.2.2.2.2.2.2.2.1,v.2.2.2.2.2.2.2.2)))
theorem q1i8 C v:q3pz (regO (qdk f59) 14) false (an [4,7,8,11,13,14]) q1i0 q1i7 q1i6 C v:=rgI (by kernel_rfl)
abbrev q1i9:Type:=Bool×Int×Int×Int×Int×Int×Int
def q1ia (v:q1i9):St:=⟨[(4,.ptr 0 0),(8,.bool v.1),(11,u6 v.2.1),(13,u6 v.2.2.1),(14,u6 v.2.2.2.1),(15,u6 v.2.2.2.2.1)],[.cells [i6 v.2.2.2.2.2.1,i6 v.2.2.2.2.2.2]]⟩
def q1ib (C:q1gk) (v:q1i5):Dt q1i9:=(Dt.ite (v.2.2.1 == (0:Int)) Dt.fail (Dt.bnd (C.2.2.2.2.1 (((Int.tmod (IntKind.wrap .u64 v.2.2.2.2.2.2.1) v.2.2.1),()),(v.2.2.2.2.2.2.2,()),(v.2.2.1,()),())) fun r1=>(Dt.ret (v.1,v.2.1,v.2.2.1,v.2.2.2.1,r1.1,v.2.2.2.2.1,v.2.2.2.2.2.1))))
theorem q1ic C v:q3pz (regO (qdk f59) 15) true (an [4,8,11,13,14,15]) q1i6 q1ib q1ia C v:=rgI (by kernel_rfl)
abbrev q1id:Type:=Bool×Int×Int×Int×Bool×Int×Int
def q1ie (v:q1id):St:=⟨[(4,.ptr 0 0),(8,.bool v.1),(11,u6 v.2.1),(13,u6 v.2.2.1),(15,u6 v.2.2.2.1),(96,.bool v.2.2.2.2.1)],[.cells [i6 v.2.2.2.2.2.1,i6 v.2.2.2.2.2.2]]⟩
def q1if (C:q1gk) (v:q1i9):Dt q1id:=(Dt.ite (decide (v.2.2.2.1 > (0:Int))) (Dt.ret (v.1,v.2.1,v.2.2.1,v.2.2.2.2.1,true,v.2.2.2.2.2.1,v.2.2.2.2.2.2)) (Dt.ret (v.1,v.2.1,v.2.2.1,v.2.2.2.2.1,(decide (v.2.2.2.2.1 > (9223372036854775807:Int))),v.2.2.2.2.2.1,v.2.2.2.2.2.2)))
theorem q1ig C v:q3pz (regO (qdk f59) 16) false (an [4,8,11,13,15,96]) q1ia q1if q1ie C v:=rgI (by kernel_rfl)
def q1ih (C:q1gk) (v:q1id):Dt q1h1:=(Dt.ret ((16:Int),(0:Int),(0:Int)))
theorem q1ii C v:q3pz (regO (qdk f59) 17) false (an [4,5]) q1ie q1ih q1h2 C v:=rgI (by kernel_rfl)
abbrev q1ij:Type:=Bool×Int×Int×Int×Int
def q1ik (v:q1ij):St:=⟨[(4,.ptr 0 0),(8,.bool v.1),(17,.ptr 1 0)],[.cells [i6 v.2.1,i6 v.2.2.1],.cells [i6 v.2.2.2.1,i6 v.2.2.2.2]]⟩
def q1il (C:q1gk) (v:q1id):Dt q1ij:=(Dt.ite (v.2.2.1 == (0:Int)) Dt.fail (Dt.ret (v.1,v.2.2.2.2.2.1,v.2.2.2.2.2.2,(IntKind.wrap .i64 v.2.2.2.1),(IntKind.wrap .i64 (IntKind.wrap .u64 (Int.tdiv v.2.1 v.2.2.1))))))
theorem q1im C v:q3pz (regO (qdk f59) 18) false (an [4,8,17]) q1ie q1il q1ik C v:=rgI (by kernel_rfl)
abbrev q1in:Type:=Bool×Int×Int×Int×Int
def q1io (v:q1in):St:=⟨[(4,.ptr 0 0),(17,.ptr 1 0),(105,.bool v.1)],[.cells [i6 v.2.1,i6 v.2.2.1],.cells [i6 v.2.2.2.1,i6 v.2.2.2.2]]⟩
def q1ip (C:q1gk) (v:q1ij):Dt q1in:=(Dt.ret (v.1,v.2.1,v.2.2.1,v.2.2.2.1,v.2.2.2.2))
theorem q1iq C v:q3pz (regO (qdk f59) 19) false (an [4,17,105]) q1ik q1ip q1io C v:=rgI (by kernel_rfl)
abbrev q1ir:Type:=Int×Int×Int×Int
def q1is (v:q1ir):St:=⟨[(4,.ptr 0 0),(17,.ptr 1 0)],[.cells [i6 v.1,i6 v.2.1],.cells [i6 v.2.2.1,i6 v.2.2.2]]⟩
def q1it (C:q1gk) (v:q1in):Dt q1ir:=(Dt.ret (v.2.1,v.2.2.1,(IntKind.wrap .i64 (0 - v.2.2.2.1)),v.2.2.2.2))
theorem q1iu C v:q3pz (regO (qdk f59) 20) false (an [4,17]) q1io q1it q1is C v:=rgI (by kernel_rfl)
def q1iv (C:q1gk) (v:q1ir):Dt q1h1:=(Dt.ret ((0:Int),v.2.2.1,v.2.2.2))
theorem q1iw C v:q3pz (regO (qdk f59) 21) false (an [4,5]) q1is q1iv q1h2 C v:=rgI (by kernel_rfl)
def q1ix  (d:Nat)  (z:Int×Int×Int×Int):Option (q1gh) :=
 (q1iv (q1gl d) z).eval fun y21 =>
 some (y21.2.1,y21.2.2,y21.1)
def q1iy (d:Nat) (self2:(Bool×Int×Int×Int×Int×Int×Int×Int)→Option q1gh) (x2:Bool×Int×Int×Int×Int×Int×Int×Int):Option q1gh :=
 (q1i1 (q1gl d) x2).eval fun y12 =>
 bif y12.2.2.2.2.1 then ((q1i3 (q1gl d) y12).eval fun y13 =>
 self2 y13) else ((q1i7 (q1gl d) y12).eval fun y14 =>
 (q1ib (q1gl d) y14).eval fun y15 =>
 (q1if (q1gl d) y15).eval fun y16 =>
 bif y16.2.2.2.2.1 then ((q1ih (q1gl d) y16).eval fun y17 =>
 some (y17.2.1,y17.2.2,y17.1)) else ((q1il (q1gl d) y16).eval fun y18 =>
 (q1ip (q1gl d) y18).eval fun y19 =>
 bif y19.1 then ((q1it (q1gl d) y19).eval fun y20 =>
 q1ix d  y20) else (q1ix d  y19.2)))
def q1iz  (d:Nat)  (z:Bool×Int×Int×Int×Int×Int×Int):Option (q1gh) :=
 (q1hp (q1gl d) z).eval fun y9 =>
 (q1ht (q1gl d) y9).eval fun y10 =>
 (q1hx (q1gl d) y10).eval fun y11 =>
 iter (q1iy d ) d y11
def q1j0 (d:Nat) (x:q1gg):Option q1gh :=
 (q1gr (q1gl d) (x.1.1,x.1.2.1,x.1.2.2.1,x.2.1.1,x.2.1.2.1)).eval fun y0 =>
 (q1gv (q1gl d) y0).eval fun y1 =>
 (q1gz (q1gl d) y1).eval fun y2 =>
 bif y2.2.1 then ((q1h3 (q1gl d) y2).eval fun y3 =>
 some (y3.2.1,y3.2.2,y3.1)) else ((q1h7 (q1gl d) y2).eval fun y4 =>
 (q1hb (q1gl d) y4).eval fun y5 =>
 (q1hf (q1gl d) y5).eval fun y6 =>
 bif y6.2.1 then ((q1hj (q1gl d) y6).eval fun y7 =>
 (q1hl (q1gl d) y7).eval fun y8 =>
 q1iz d  y8) else (q1iz d  (y6.1,y6.2.2.1,y6.2.2.2.1,y6.2.2.2.2.1,y6.2.2.2.2.2.1,y6.2.2.2.2.2.2.1,y6.2.2.2.2.2.2.2)))
theorem q1j1 (d:Nat):COK prog (q1gj (q1j0 d)):=by
 have hm:prog.follows .mixedOrders=true:=mixed
 have hT:=tys
 have hC0:OrcOK prog (orc (q1gm (q1gl d))):=qde (by
  intro S hS
  simp only [q1gm,List.mem_cons,List.not_mem_nil,or_false] at hS
  rcases hS with rfl | rfl | rfl | rfl | rfl
  · exact qnf d
  · exact qnx d
  · exact q1a5 d
  · exact q19w d
  · exact q19a d)
 have hC:OrcOK prog (orcI 87 q148 (orc (q1gm (q1gl d)))):=(q149 q14d hC0)
 refine q93 (c:=qdk f59) (fn:=f59) hT (by kernel_rfl) (by kernel_rfl) (by decide) fun x r h w0 φ0 Q hend=>?_
 replace h:q1j0 d x=some r:=h
 unfold q1j0 at h
 show Run prog w0 φ0 111 (qdk f59) ⟨[(0,.agg [.int .i64 x.1.1,.int .i64 x.1.2.1,.int .i64 x.1.2.2.1]),(1,.agg [.int .i64 x.2.1.1,.int .i64 x.2.1.2.1])],[]⟩ Q
 refine q3pf hm hT hC (q1gs (q1gl d) (x.1.1,x.1.2.1,x.1.2.2.1,x.2.1.1,x.2.1.2.1)) h fun y0 h=>?_
 refine q8m ?_
 refine q3pf hm hT hC (q1gw (q1gl d) y0) h fun y1 h=>?_
 refine q3pf hm hT hC (q1h0 (q1gl d) y1) h fun y2 h=>?_
 refine q8q (v:=y2.2.1) (by kernel_rfl) h ?_ ?_
 ·
  intro h
  refine q3pf hm hT hC (q1h4 (q1gl d) y2) h fun y3 h=>?_
  refine q8l (q8a ?_)
  cases h
  exact (hend _ (by kernel_rfl)).2
 ·
  intro h
  refine q8i (q88 ?_)
  refine q3pf hm hT hC (q1h8 (q1gl d) y2) h fun y4 h=>?_
  refine q3pf hm hT hC (q1hc (q1gl d) y4) h fun y5 h=>?_
  refine q8p (r:=r) (F:=q1iz d ) (S:=(fun z=>⟨[(3,.ptr 0 0),(4,.ptr 1 0),(7,.ptr 2 0),(8,.bool z.1)],[.cells [i6 z.2.1,i6 z.2.2.1],.cells [i6 z.2.2.2.1,i6 z.2.2.2.2.1],.cells [i6 z.2.2.2.2.2.1,u6 z.2.2.2.2.2.2]]⟩:q1dm→St)) ?_ ?_
  ·
   intro z h
   unfold q1iz at h
   refine q3pf hm hT hC (q1hq (q1gl d) z) h fun y9 h=>?_
   refine q3pf hm hT hC (q1hu (q1gl d) y9) h fun y10 h=>?_
   refine q3pf hm hT hC (q1hy (q1gl d) y10) h fun y11 h=>?_
   refine q8m (q8n ?_)
   refine q8s (G:=iter (q1iy d )) (S:=(fun x2=>⟨[(4,.ptr 0 0),(7,.ptr 1 0),(8,.bool x2.1),(11,u6 x2.2.1),(12,u6 x2.2.2.1),(13,u6 x2.2.2.2.1)],[.cells [i6 x2.2.2.2.2.1,i6 x2.2.2.2.2.2.1],.cells [i6 x2.2.2.2.2.2.2.1,u6 x2.2.2.2.2.2.2.2]]⟩:q1hv→St)) (fun _=>rfl) ?_ d _ h
   intro n2 x2 h K2 hn2
   replace h:q1iy d  (iter (q1iy d ) n2) x2=some r:=h
   generalize iter (q1iy d ) n2=self2 at h hn2
   unfold q1iy at h
   refine q8m ?_
   refine q3pf hm hT hC (q1i2 (q1gl d) x2) h fun y12 h=>?_
   refine q8q (v:=y12.2.2.2.2.1) (by kernel_rfl) h ?_ ?_
   ·
    intro h
    refine q8i (q88 (q8n ?_))
    refine q8r hm hT hC (q1i4 (q1gl d) y12) h ?_
    intro y13 h
    refine q8b ?_
    exact hn2 _ h
   ·
    intro h
    refine q8k (q89 (q89 (q8d (q88 ?_))))
    refine q3pf hm hT hC (q1i8 (q1gl d) y12) h fun y14 h=>?_
    refine q3pf hm hT hC (q1ic (q1gl d) y14) h fun y15 h=>?_
    refine q8m ?_
    refine q3pf hm hT hC (q1ig (q1gl d) y15) h fun y16 h=>?_
    refine q8q (v:=y16.2.2.2.2.1) (by kernel_rfl) h ?_ ?_
    ·
     intro h
     refine q3pf hm hT hC (q1ii (q1gl d) y16) h fun y17 h=>?_
     refine q8l (q8a ?_)
     cases h
     exact (hend _ (by kernel_rfl)).2
    ·
     intro h
     refine q8i (q88 ?_)
     refine q3pf hm hT hC (q1im (q1gl d) y16) h fun y18 h=>?_
     refine q8p (r:=r) (F:=q1ix d ) (S:=(fun z=>⟨[(4,.ptr 0 0),(17,.ptr 1 0)],[.cells [i6 z.1,i6 z.2.1],.cells [i6 z.2.2.1,i6 z.2.2.2]]⟩:q1du→St)) ?_ ?_
     ·
      intro z h
      unfold q1ix at h
      refine q3pf hm hT hC (q1iw (q1gl d) z) h fun y21 h=>?_
      refine q8l ?_
      cases h
      exact (hend _ (by kernel_rfl)).2
     intro hj3
     refine q3pf hm hT hC (q1iq (q1gl d) y18) h fun y19 h=>?_
     refine q8q (v:=y19.1) (by kernel_rfl) h ?_ ?_
     ·
      intro h
      refine q8r hm hT hC (q1iu (q1gl d) y19) h ?_
      intro y20 h
      exact hj3 _ h
     ·
      intro h
      refine q8i ?_
      refine qdj (s:=⟨[(4,.ptr 0 0),(17,.ptr 1 0)],[.cells [.int .i64 y19.2.1,.int .i64 y19.2.2.1],.cells [.int .i64 y19.2.2.2.1,.int .i64 y19.2.2.2.2]]⟩) [105] (by kernel_rfl) ?_
      exact hj3 _ h
  intro hj1
  refine q3pf hm hT hC (q1hg (q1gl d) y5) h fun y6 h=>?_
  refine q8q (v:=y6.2.1) (by kernel_rfl) h ?_ ?_
  ·
   intro h
   refine q3pf hm hT hC (q1hk (q1gl d) y6) h fun y7 h=>?_
   refine q8r hm hT hC (q1hm (q1gl d) y7) h ?_
   intro y8 h
   exact hj1 _ h
  ·
   intro h
   refine q8i ?_
   refine qdj (s:=⟨[(3,.ptr 0 0),(4,.ptr 1 0),(7,.ptr 2 0),(8,.bool y6.1)],[.cells [.int .i64 y6.2.2.1,.int .i64 y6.2.2.2.1],.cells [.int .i64 y6.2.2.2.2.1,.int .i64 y6.2.2.2.2.2.1],.cells [.int .i64 y6.2.2.2.2.2.2.1,.int .u64 y6.2.2.2.2.2.2.2]]⟩) [42] (by kernel_rfl) ?_
   exact hj1 _ h
abbrev q1kh:List Pk:=[.row Rbuu true,.row Rbuu true]
abbrev q1ki:Type:=Dbuu×Dbuu×Unit
abbrev q1kj:Type:=Int
def q1kk (r:q1kj):LV×List Ob:=(.int .i64 r,[])
def q1kl (F:q1ki→Option q1kj):Go.Tx.Spec:=⟨49,q1kh,q1kj,F,q1kk⟩
abbrev q1km:Type:=Unit
def q1kn (_d:Nat):q1km:=()
def q1ko (C:q1km):List Go.Tx.Spec:=[]
abbrev q1kp:Type:=Bool×Int×Int×Bool×Int×Int
def q1kq (v:q1kp):St:=⟨[(0,.agg [.bool v.1,u6 v.2.1,u6 v.2.2.1]),(1,.agg [.bool v.2.2.2.1,u6 v.2.2.2.2.1,u6 v.2.2.2.2.2])],[]⟩
abbrev q1kr:Type:=Bool×Int×Int×Bool×Int×Int
def q1ks (v:q1kr):St:=⟨[(2,.ptr 0 0),(3,.ptr 1 0)],[.cells [.bool v.1,u6 v.2.1,u6 v.2.2.1],.cells [.bool v.2.2.2.1,u6 v.2.2.2.2.1,u6 v.2.2.2.2.2]]⟩
def q1kt (C:q1km) (v:q1kp):Dt q1kr:=(Dt.ret (v.1,v.2.1,v.2.2.1,v.2.2.2.1,v.2.2.2.2.1,v.2.2.2.2.2))
abbrev q3q2 {V Y:Type}:=@rg q1km V Y tysT (fun C=>(orc (q1ko C))) 25
theorem q1ku C v:q3q2 (regO (qdk f49) 0) false (an [2,3]) q1kq q1kt q1ks C v:=rgI (by kernel_rfl)
abbrev q1kv:Type:=Bool×Bool×Int×Int×Bool×Int×Int
def q1kw (v:q1kv):St:=⟨[(2,.ptr 0 0),(3,.ptr 1 0),(9,.bool v.1)],[.cells [.bool v.2.1,u6 v.2.2.1,u6 v.2.2.2.1],.cells [.bool v.2.2.2.2.1,u6 v.2.2.2.2.2.1,u6 v.2.2.2.2.2.2]]⟩
def q1kx (C:q1km) (v:q1kr):Dt q1kv:=(Dt.ret ((v.2.1 != v.2.2.2.2.1),v.1,v.2.1,v.2.2.1,v.2.2.2.1,v.2.2.2.2.1,v.2.2.2.2.2))
theorem q1ky C v:q3q2 (regO (qdk f49) 1) false (an [2,3,9]) q1ks q1kx q1kw C v:=rgI (by kernel_rfl)
abbrev q1kz:Type:=Bool
def q1l0 (v:q1kz):St:=⟨[(14,.bool v)],[]⟩
def q1l1 (C:q1km) (v:q1kv):Dt q1kz:=(Dt.ret (decide (v.2.2.1<v.2.2.2.2.2.1)))
theorem q1l2 C v:q3q2 (regO (qdk f49) 2) false [(14,.any)] q1kw q1l1 q1l0 C v:=rgI (by kernel_rfl)
abbrev q1l3:Type:=Int
def q1l4 (v:q1l3):St:=⟨[(4,i6 v)],[]⟩
def q1l5 (C:q1km) (v:q1kz):Dt q1l3:=(Dt.ret (-1:Int))
theorem q1l6 C v:q3q2 (regO (qdk f49) 3) false [(4,.any)] q1l0 q1l5 q1l4 C v:=rgI (by kernel_rfl)
def q1l7 (C:q1km) (v:q1kz):Dt q1l3:=(Dt.ret (1:Int))
theorem q1l8 C v:q3q2 (regO (qdk f49) 4) false [(4,.any)] q1l0 q1l7 q1l4 C v:=rgI (by kernel_rfl)
abbrev q1l9:Type:=Bool×Bool×Int×Int×Bool×Int×Int
def q1la (v:q1l9):St:=⟨[(2,.ptr 0 0),(3,.ptr 1 0),(19,.bool v.1)],[.cells [.bool v.2.1,u6 v.2.2.1,u6 v.2.2.2.1],.cells [.bool v.2.2.2.2.1,u6 v.2.2.2.2.2.1,u6 v.2.2.2.2.2.2]]⟩
def q1lb (C:q1km) (v:q1kv):Dt q1l9:=(Dt.ret ((v.2.2.2.1 != v.2.2.2.2.2.2),v.2.1,v.2.2.1,v.2.2.2.1,v.2.2.2.2.1,v.2.2.2.2.2.1,v.2.2.2.2.2.2))
theorem q1lc C v:q3q2 (regO (qdk f49) 5) false (an [2,3,19]) q1kw q1lb q1la C v:=rgI (by kernel_rfl)
abbrev q1ld:Type:=Bool
def q1le (v:q1ld):St:=⟨[(24,.bool v)],[]⟩
def q1lf (C:q1km) (v:q1l9):Dt q1ld:=(Dt.ret (decide (v.2.2.2.1<v.2.2.2.2.2.2)))
theorem q1lg C v:q3q2 (regO (qdk f49) 6) false [(24,.any)] q1la q1lf q1le C v:=rgI (by kernel_rfl)
def q1lh (C:q1km) (v:q1ld):Dt q1l3:=(Dt.ret (-1:Int))
theorem q1li C v:q3q2 (regO (qdk f49) 7) false [(4,.any)] q1le q1lh q1l4 C v:=rgI (by kernel_rfl)
def q1lj (C:q1km) (v:q1ld):Dt q1l3:=(Dt.ret (1:Int))
theorem q1lk C v:q3q2 (regO (qdk f49) 8) false [(4,.any)] q1le q1lj q1l4 C v:=rgI (by kernel_rfl)
def q1ll (C:q1km) (v:q1l9):Dt q1l3:=(Dt.ret (0:Int))
theorem q1lm C v:q3q2 (regO (qdk f49) 9) false [(4,.any)] q1la q1ll q1l4 C v:=rgI (by kernel_rfl)
def q1ln (d:Nat) (x:q1ki):Option q1kj :=
 (q1kt (q1kn d) (x.1.1,x.1.2.1,x.1.2.2.1,x.2.1.1,x.2.1.2.1,x.2.1.2.2.1)).eval fun y0 =>
 (q1kx (q1kn d) y0).eval fun y1 =>
 bif y1.1 then ((q1l1 (q1kn d) y1).eval fun y2 =>
 bif y2 then ((q1l5 (q1kn d) y2).eval fun y3 =>
 some y3) else ((q1l7 (q1kn d) y2).eval fun y4 =>
 some y4)) else ((q1lb (q1kn d) y1).eval fun y5 =>
 bif y5.1 then ((q1lf (q1kn d) y5).eval fun y6 =>
 bif y6 then ((q1lh (q1kn d) y6).eval fun y7 =>
 some y7) else ((q1lj (q1kn d) y6).eval fun y8 =>
 some y8)) else ((q1ll (q1kn d) y5).eval fun y9 =>
 some y9))
theorem q1lo (d:Nat):COK prog (q1kl (q1ln d)):=by
 have hm:prog.follows .mixedOrders=true:=mixed
 have hT:=tys
 have hC0:OrcOK prog (orc (q1ko (q1kn d))):=qde (by
  intro S hS
  simp only [q1ko,List.mem_cons,List.not_mem_nil,or_false] at hS
  all_goals first | cases hS | exact hS.elim)
 have hC:OrcOK prog (orc (q1ko (q1kn d))):=hC0
 refine q93 (c:=qdk f49) (fn:=f49) hT (by kernel_rfl) (by kernel_rfl) (by decide) fun x r h w0 φ0 Q hend=>?_
 replace h:q1ln d x=some r:=h
 unfold q1ln at h
 show Run prog w0 φ0 25 (qdk f49) ⟨[(0,.agg [.bool x.1.1,.int .u64 x.1.2.1,.int .u64 x.1.2.2.1]),(1,.agg [.bool x.2.1.1,.int .u64 x.2.1.2.1,.int .u64 x.2.1.2.2.1])],[]⟩ Q
 refine q3pf hm hT hC (q1ku (q1kn d) (x.1.1,x.1.2.1,x.1.2.2.1,x.2.1.1,x.2.1.2.1,x.2.1.2.2.1)) h fun y0 h=>?_
 refine q8m ?_
 refine q3pf hm hT hC (q1ky (q1kn d) y0) h fun y1 h=>?_
 refine q8q (v:=y1.1) (by kernel_rfl) h ?_ ?_
 ·
  intro h
  refine q8m ?_
  refine q3pf hm hT hC (q1l2 (q1kn d) y1) h fun y2 h=>?_
  refine q8q (v:=y2) (by kernel_rfl) h ?_ ?_
  ·
   intro h
   refine q3pf hm hT hC (q1l6 (q1kn d) y2) h fun y3 h=>?_
   refine q8l (q8a (q8a ?_))
   cases h
   exact (hend _ (by kernel_rfl)).2
  ·
   intro h
   refine q8i (q88 ?_)
   refine q3pf hm hT hC (q1l8 (q1kn d) y2) h fun y4 h=>?_
   refine q8l (q8a ?_)
   cases h
   exact (hend _ (by kernel_rfl)).2
 ·
  intro h
  refine q8i (q88 (q8m ?_))
  refine q3pf hm hT hC (q1lc (q1kn d) y1) h fun y5 h=>?_
  refine q8q (v:=y5.1) (by kernel_rfl) h ?_ ?_
  ·
   intro h
   refine q8m ?_
   refine q3pf hm hT hC (q1lg (q1kn d) y5) h fun y6 h=>?_
   refine q8q (v:=y6) (by kernel_rfl) h ?_ ?_
   ·
    intro h
    refine q3pf hm hT hC (q1li (q1kn d) y6) h fun y7 h=>?_
    refine q8l (q8a (q8a ?_))
    cases h
    exact (hend _ (by kernel_rfl)).2
   ·
    intro h
    refine q8i (q88 ?_)
    refine q3pf hm hT hC (q1lk (q1kn d) y6) h fun y8 h=>?_
    refine q8l (q8a ?_)
    cases h
    exact (hend _ (by kernel_rfl)).2
  ·
   intro h
   refine q8i (q88 ?_)
   refine q3pf hm hT hC (q1lm (q1kn d) y5) h fun y9 h=>?_
   refine q8l ?_
   cases h
   exact (hend _ (by kernel_rfl)).2
end Go.Proofs.YtbjpmdhdoggobaaGreat
