/- Walks of the references; the orders agree; examples. -/
import Derived.Test.YtbjpmdhdoggobaaGreatGd
set_option linter.unusedSimpArgs false
set_option linter.unusedVariables false
namespace Go.Proofs.YtbjpmdhdoggobaaGreat
open Go Go.Tx Go.Proofs.Tryz
set_option maxRecDepth 100000
set_option maxHeartbeats 0
abbrev q1a6:List Pk:=[.row Ru false,.row Ru false]
abbrev q1a7:Type:=Du×Du×Unit
abbrev q1a8:Type:=Int
def q1a9 (r:q1a8):LV×List Ob:=(.int .u64 r,[])
def q1aa (F:q1a7→Option q1a8):Go.Tx.Spec:=⟨63,q1a6,q1a8,F,q1a9⟩
abbrev q1ab:Type:=Unit
def q1ac (_d:Nat):q1ab:=()
def q1ad (C:q1ab):List Go.Tx.Spec:=[]
abbrev q1ae:Type:=Int×Int
def q1af (v:q1ae):St:=⟨[(0,u6 v.1),(1,u6 v.2)],[]⟩
def q1ag (C:q1ab) (v:q1ae):Dt q1ae:=(Dt.ret (v.1,v.2))
abbrev q3pt {V Y:Type}:=@rg q1ab V Y tysT (fun C=>(orc (q1ad C))) 12
theorem q1ah C v:q3pt (regO (qdk f63) 0) false (an [0,1]) q1af q1ag q1af C v:=rgI (by kernel_rfl)
abbrev q1ai:Type:=Int×Int×Bool
def q1aj (v:q1ai):St:=⟨[(0,u6 v.1),(1,u6 v.2.1),(6,.bool v.2.2)],[]⟩
def q1ak (C:q1ab) (v:q1ae):Dt q1ai:=(Dt.ret (v.1,v.2,(decide (v.2 > (0:Int)))))
theorem q1al C v:q3pt (regO (qdk f63) 1) false (an [0,1,6]) q1af q1ak q1aj C v:=rgI (by kernel_rfl)
def q1am (C:q1ab) (v:q1ai):Dt q1ae:=(Dt.ite (v.2.1 == (0:Int)) Dt.fail (Dt.ret (v.2.1,(Int.tmod v.1 v.2.1))))
theorem q1an C v:q3pt (regO (qdk f63) 2) true (an [0,1]) q1aj q1am q1af C v:=rgI (by kernel_rfl)
abbrev q1ao:Type:=Int
def q1ap (v:q1ao):St:=⟨[(4,u6 v)],[]⟩
def q1aq (C:q1ab) (v:q1ai):Dt q1ao:=(Dt.ret v.1)
theorem q1ar C v:q3pt (regO (qdk f63) 3) false [(4,.any)] q1aj q1aq q1ap C v:=rgI (by kernel_rfl)
def q1as (d:Nat) (self1:(Int×Int)→Option q1a8) (x1:Int×Int):Option q1a8 :=
 (q1ak (q1ac d) x1).eval fun y1 =>
 bif y1.2.2 then ((q1am (q1ac d) y1).eval fun y2 =>
 self1 y2) else ((q1aq (q1ac d) y1).eval fun y3 =>
 some y3)
def q1at (d:Nat) (x:q1a7):Option q1a8 :=
 (q1ag (q1ac d) (x.1.1,x.2.1.1)).eval fun y0 =>
 iter (q1as d ) d y0
theorem q1au (d:Nat):COK prog (q1aa (q1at d)):=by
 have hm:prog.follows .mixedOrders=true:=mixed
 have hT:=tys
 have hC0:OrcOK prog (orc (q1ad (q1ac d))):=qde (by
  intro S hS
  simp only [q1ad,List.mem_cons,List.not_mem_nil,or_false] at hS
  all_goals first | cases hS | exact hS.elim)
 have hC:OrcOK prog (orc (q1ad (q1ac d))):=hC0
 refine q93 (c:=qdk f63) (fn:=f63) hT (by kernel_rfl) (by kernel_rfl) (by decide) fun x r h w0 φ0 Q hend=>?_
 replace h:q1at d x=some r:=h
 unfold q1at at h
 show Run prog w0 φ0 12 (qdk f63) ⟨[(0,.int .u64 x.1.1),(1,.int .u64 x.2.1.1)],[]⟩ Q
 refine q3pf hm hT hC (q1ah (q1ac d) (x.1.1,x.2.1.1)) h fun y0 h=>?_
 refine q8m (q8n ?_)
 refine q8s (G:=iter (q1as d )) (S:=(fun x1=>⟨[(0,u6 x1.1),(1,u6 x1.2)],[]⟩:Int×Int→St)) (fun _=>rfl) ?_ d _ h
 intro n1 x1 h K1 hn1
 replace h:q1as d  (iter (q1as d ) n1) x1=some r:=h
 generalize iter (q1as d ) n1=self1 at h hn1
 unfold q1as at h
 refine q8m ?_
 refine q3pf hm hT hC (q1al (q1ac d) x1) h fun y1 h=>?_
 refine q8q (v:=y1.2.2) (by kernel_rfl) h ?_ ?_
 ·
  intro h
  refine q8i (q88 (q8n ?_))
  refine q8r hm hT hC (q1an (q1ac d) y1) h ?_
  intro y2 h
  refine q8b ?_
  exact hn1 _ h
 ·
  intro h
  refine q8k (q89 (q89 (q8d (q88 ?_))))
  refine q3pf hm hT hC (q1ar (q1ac d) y1) h fun y3 h=>?_
  refine q8l ?_
  cases h
  exact (hend _ (by kernel_rfl)).2
abbrev q1av:List Pk:=[.row Rbuu true,.row Rbuu true]
abbrev q1aw:Type:=Dbuu×Dbuu×Unit
abbrev q1ax:Type:=Bool×Int×Int
def q1ay (r:q1ax):LV×List Ob:=(.agg [.bool r.1,.int .u64 r.2.1,.int .u64 r.2.2],[])
def q1az (F:q1aw→Option q1ax):Go.Tx.Spec:=⟨115,q1av,q1ax,F,q1ay⟩
abbrev q1b0:Type:=(q121→Option q122)×Unit
def q1b1 (d:Nat):q1b0:=(q12s d,())
def q1b2 (C:q1b0):List Go.Tx.Spec:=[q124 C.1]
abbrev q1b3:Type:=Bool×Int×Int×Bool×Int×Int
def q1b4 (v:q1b3):St:=⟨[(0,.agg [.bool v.1,u6 v.2.1,u6 v.2.2.1]),(1,.agg [.bool v.2.2.2.1,u6 v.2.2.2.2.1,u6 v.2.2.2.2.2])],[]⟩
abbrev q1b5:Type:=Bool×Int×Int×Bool×Int×Int×Bool×Int×Int
def q1b6 (v:q1b5):St:=⟨[(2,.ptr 0 0),(3,.ptr 1 0),(4,.ptr 2 0)],[.cells [.bool v.1,u6 v.2.1,u6 v.2.2.1],.cells [.bool v.2.2.2.1,u6 v.2.2.2.2.1,u6 v.2.2.2.2.2.1],.cells [.bool v.2.2.2.2.2.2.1,u6 v.2.2.2.2.2.2.2.1,u6 v.2.2.2.2.2.2.2.2]]⟩
def q1b7 (C:q1b0) (v:q1b3):Dt q1b5:=(Dt.ret (v.1,v.2.1,v.2.2.1,v.2.2.2.1,v.2.2.2.2.1,v.2.2.2.2.2,false,(0:Int),(0:Int)))
abbrev q3pu {V Y:Type}:=@rg q1b0 V Y tysT (fun C=>(orcI 113 q147 (orcI 87 q148 (orc (q1b2 C))))) 68
theorem q1b8 C v:q3pu (regO (qdk f115) 0) false (an [2,3,4]) q1b4 q1b7 q1b6 C v:=rgI (by kernel_rfl)
abbrev q1b9:Type:=Bool×Bool×Int×Int×Bool×Int×Int×Bool×Int×Int
def q1ba (v:q1b9):St:=⟨[(2,.ptr 0 0),(3,.ptr 1 0),(4,.ptr 2 0),(17,.bool v.1)],[.cells [.bool v.2.1,u6 v.2.2.1,u6 v.2.2.2.1],.cells [.bool v.2.2.2.2.1,u6 v.2.2.2.2.2.1,u6 v.2.2.2.2.2.2.1],.cells [.bool v.2.2.2.2.2.2.2.1,u6 v.2.2.2.2.2.2.2.2.1,u6 v.2.2.2.2.2.2.2.2.2]]⟩
def q1bb (C:q1b0) (v:q1b5):Dt q1b9:=(Dt.ret ((v.1 == v.2.2.2.1),v.1,v.2.1,v.2.2.1,v.2.2.2.1,v.2.2.2.2.1,v.2.2.2.2.2.1,v.2.2.2.2.2.2.1,v.2.2.2.2.2.2.2.1,v.2.2.2.2.2.2.2.2))
theorem q1bc C v:q3pu (regO (qdk f115) 1) false (an [2,3,4,17]) q1b6 q1bb q1ba C v:=rgI (by kernel_rfl)
abbrev q1bd:Type:=Int×Int×Bool×Int×Int×Bool×Int×Int×Bool×Int×Int
def q1be (v:q1bd):St:=⟨[(2,.ptr 0 0),(3,.ptr 1 0),(4,.ptr 2 0),(5,u6 v.1),(6,u6 v.2.1)],[.cells [.bool v.2.2.1,u6 v.2.2.2.1,u6 v.2.2.2.2.1],.cells [.bool v.2.2.2.2.2.1,u6 v.2.2.2.2.2.2.1,u6 v.2.2.2.2.2.2.2.1],.cells [.bool v.2.2.2.2.2.2.2.2.1,u6 v.2.2.2.2.2.2.2.2.2.1,u6 v.2.2.2.2.2.2.2.2.2.2]]⟩
def q1bf (C:q1b0) (v:q1b9):Dt q1bd:=(Dt.bnd (q147 (v.2.2.2.1) (v.2.2.2.2.2.2.1) ((0:Int))) fun r1=>(Dt.ret (r1.1,r1.2,v.2.1,v.2.2.1,v.2.2.2.1,v.2.2.2.2.1,v.2.2.2.2.2.1,v.2.2.2.2.2.2.1,v.2.2.2.2.2.2.2.1,v.2.2.2.2.2.2.2.2.1,v.2.2.2.2.2.2.2.2.2)))
theorem q1bg C v:q3pu (regO (qdk f115) 2) false (an [2,3,4,5,6]) q1ba q1bf q1be C v:=rgI (by kernel_rfl)
abbrev q1bh:Type:=Int×Int×Bool×Int×Int×Bool×Int×Int
def q1bi (v:q1bh):St:=⟨[(2,.ptr 0 0),(4,.ptr 1 0),(5,u6 v.1),(7,u6 v.2.1)],[.cells [.bool v.2.2.1,u6 v.2.2.2.1,u6 v.2.2.2.2.1],.cells [.bool v.2.2.2.2.2.1,u6 v.2.2.2.2.2.2.1,u6 v.2.2.2.2.2.2.2]]⟩
def q1bj (C:q1b0) (v:q1bd):Dt q1bh:=(Dt.bnd (q147 (v.2.2.2.1) (v.2.2.2.2.2.2.1) (v.2.1)) fun r1=>(Dt.ret (v.1,r1.1,v.2.2.1,v.2.2.2.1,v.2.2.2.2.1,v.2.2.2.2.2.2.2.2.1,v.2.2.2.2.2.2.2.2.2.1,v.2.2.2.2.2.2.2.2.2.2)))
theorem q1bk C v:q3pu (regO (qdk f115) 3) false (an [2,4,5,7]) q1be q1bj q1bi C v:=rgI (by kernel_rfl)
abbrev q1bl:Type:=Bool×Int×Int
def q1bm (v:q1bl):St:=⟨[(4,.ptr 0 0)],[.cells [.bool v.1,u6 v.2.1,u6 v.2.2]]⟩
def q1bn (C:q1b0) (v:q1bh):Dt q1bl:=(Dt.ret (v.2.2.1,v.2.1,v.1))
theorem q1bo C v:q3pu (regO (qdk f115) 4) false [(4,.any)] q1bi q1bn q1bm C v:=rgI (by kernel_rfl)
abbrev q1bp:Type:=Bool×Bool×Int×Int×Bool×Int×Int×Bool×Int×Int
def q1bq (v:q1bp):St:=⟨[(2,.ptr 0 0),(3,.ptr 1 0),(4,.ptr 2 0),(43,.bool v.1)],[.cells [.bool v.2.1,u6 v.2.2.1,u6 v.2.2.2.1],.cells [.bool v.2.2.2.2.1,u6 v.2.2.2.2.2.1,u6 v.2.2.2.2.2.2.1],.cells [.bool v.2.2.2.2.2.2.2.1,u6 v.2.2.2.2.2.2.2.2.1,u6 v.2.2.2.2.2.2.2.2.2]]⟩
def q1br (C:q1b0) (v:q1b9):Dt q1bp:=(Dt.bnd (C.1 ((v.2.1,v.2.2.1,v.2.2.2.1,()),(v.2.2.2.2.1,v.2.2.2.2.2.1,v.2.2.2.2.2.2.1,()),())) fun r1=>(Dt.ret ((decide (r1<(0:Int))),v.2.1,v.2.2.1,v.2.2.2.1,v.2.2.2.2.1,v.2.2.2.2.2.1,v.2.2.2.2.2.2.1,v.2.2.2.2.2.2.2.1,v.2.2.2.2.2.2.2.2.1,v.2.2.2.2.2.2.2.2.2)))
theorem q1bs C v:q3pu (regO (qdk f115) 5) false (an [2,3,4,43]) q1ba q1br q1bq C v:=rgI (by kernel_rfl)
def q1bt (C:q1b0) (v:q1bp):Dt q1b5:=(Dt.ret (v.2.2.2.2.1,v.2.2.2.2.2.1,v.2.2.2.2.2.2.1,v.2.1,v.2.2.1,v.2.2.2.1,v.2.2.2.2.2.2.2.1,v.2.2.2.2.2.2.2.2.1,v.2.2.2.2.2.2.2.2.2))
theorem q1bu C v:q3pu (regO (qdk f115) 6) false (an [2,3,4]) q1bq q1bt q1b6 C v:=rgI (by kernel_rfl)
abbrev q1bv:Type:=Int×Int×Bool×Int×Int×Bool×Int×Int×Bool×Int×Int
def q1bw (v:q1bv):St:=⟨[(2,.ptr 0 0),(3,.ptr 1 0),(4,.ptr 2 0),(9,u6 v.1),(10,u6 v.2.1)],[.cells [.bool v.2.2.1,u6 v.2.2.2.1,u6 v.2.2.2.2.1],.cells [.bool v.2.2.2.2.2.1,u6 v.2.2.2.2.2.2.1,u6 v.2.2.2.2.2.2.2.1],.cells [.bool v.2.2.2.2.2.2.2.2.1,u6 v.2.2.2.2.2.2.2.2.2.1,u6 v.2.2.2.2.2.2.2.2.2.2]]⟩
def q1bx (C:q1b0) (v:q1b5):Dt q1bv:=(Dt.bnd (q148 (v.2.2.1) (v.2.2.2.2.2.1) ((0:Int))) fun r1=>(Dt.ret (r1.1,r1.2,v.1,v.2.1,v.2.2.1,v.2.2.2.1,v.2.2.2.2.1,v.2.2.2.2.2.1,v.2.2.2.2.2.2.1,v.2.2.2.2.2.2.2.1,v.2.2.2.2.2.2.2.2)))
theorem q1by C v:q3pu (regO (qdk f115) 7) false (an [2,3,4,9,10]) q1b6 q1bx q1bw C v:=rgI (by kernel_rfl)
abbrev q1bz:Type:=Int×Int×Bool×Int×Int×Bool×Int×Int
def q1c0 (v:q1bz):St:=⟨[(2,.ptr 0 0),(4,.ptr 1 0),(9,u6 v.1),(11,u6 v.2.1)],[.cells [.bool v.2.2.1,u6 v.2.2.2.1,u6 v.2.2.2.2.1],.cells [.bool v.2.2.2.2.2.1,u6 v.2.2.2.2.2.2.1,u6 v.2.2.2.2.2.2.2]]⟩
def q1c1 (C:q1b0) (v:q1bv):Dt q1bz:=(Dt.bnd (q148 (v.2.2.2.1) (v.2.2.2.2.2.2.1) (v.2.1)) fun r1=>(Dt.ret (v.1,r1.1,v.2.2.1,v.2.2.2.1,v.2.2.2.2.1,v.2.2.2.2.2.2.2.2.1,v.2.2.2.2.2.2.2.2.2.1,v.2.2.2.2.2.2.2.2.2.2)))
theorem q1c2 C v:q3pu (regO (qdk f115) 8) false (an [2,4,9,11]) q1bw q1c1 q1c0 C v:=rgI (by kernel_rfl)
def q1c3 (C:q1b0) (v:q1bz):Dt q1bl:=(Dt.ret (v.2.2.1,v.2.1,v.1))
theorem q1c4 C v:q3pu (regO (qdk f115) 9) false [(4,.any)] q1c0 q1c3 q1bm C v:=rgI (by kernel_rfl)
def q1c5  (d:Nat)  (z:Bool×Int×Int×Bool×Int×Int×Bool×Int×Int):Option (q1ax) :=
 (q1bx (q1b1 d) z).eval fun y7 =>
 (q1c1 (q1b1 d) y7).eval fun y8 =>
 (q1c3 (q1b1 d) y8).eval fun y9 =>
 some y9
def q1c6 (d:Nat) (x:q1aw):Option q1ax :=
 (q1b7 (q1b1 d) (x.1.1,x.1.2.1,x.1.2.2.1,x.2.1.1,x.2.1.2.1,x.2.1.2.2.1)).eval fun y0 =>
 (q1bb (q1b1 d) y0).eval fun y1 =>
 bif y1.1 then ((q1bf (q1b1 d) y1).eval fun y2 =>
 (q1bj (q1b1 d) y2).eval fun y3 =>
 (q1bn (q1b1 d) y3).eval fun y4 =>
 some y4) else ((q1br (q1b1 d) y1).eval fun y5 =>
 bif y5.1 then ((q1bt (q1b1 d) y5).eval fun y6 =>
 q1c5 d  y6) else (q1c5 d  y5.2))
theorem q1c7 (d:Nat):COK prog (q1az (q1c6 d)):=by
 have hm:prog.follows .mixedOrders=true:=mixed
 have hT:=tys
 have hC0:OrcOK prog (orc (q1b2 (q1b1 d))):=qde (by
  intro S hS
  simp only [q1b2,List.mem_cons,List.not_mem_nil,or_false] at hS
  subst hS;exact q12t d)
 have hC:OrcOK prog (orcI 113 q147 (orcI 87 q148 (orc (q1b2 (q1b1 d))))):=(q149 q14c (q149 q14d hC0))
 refine q93 (c:=qdk f115) (fn:=f115) hT (by kernel_rfl) (by kernel_rfl) (by decide) fun x r h w0 φ0 Q hend=>?_
 replace h:q1c6 d x=some r:=h
 unfold q1c6 at h
 show Run prog w0 φ0 68 (qdk f115) ⟨[(0,.agg [.bool x.1.1,.int .u64 x.1.2.1,.int .u64 x.1.2.2.1]),(1,.agg [.bool x.2.1.1,.int .u64 x.2.1.2.1,.int .u64 x.2.1.2.2.1])],[]⟩ Q
 refine q3pf hm hT hC (q1b8 (q1b1 d) (x.1.1,x.1.2.1,x.1.2.2.1,x.2.1.1,x.2.1.2.1,x.2.1.2.2.1)) h fun y0 h=>?_
 refine q8m ?_
 refine q3pf hm hT hC (q1bc (q1b1 d) y0) h fun y1 h=>?_
 refine q8q (v:=y1.1) (by kernel_rfl) h ?_ ?_
 ·
  intro h
  refine q3pf hm hT hC (q1bg (q1b1 d) y1) h fun y2 h=>?_
  refine q3pf hm hT hC (q1bk (q1b1 d) y2) h fun y3 h=>?_
  refine q3pf hm hT hC (q1bo (q1b1 d) y3) h fun y4 h=>?_
  refine q8l (q8a ?_)
  cases h
  exact (hend _ (by kernel_rfl)).2
 ·
  intro h
  refine q8i (q88 ?_)
  refine q8p (r:=r) (F:=q1c5 d ) (S:=(fun z=>⟨[(2,.ptr 0 0),(3,.ptr 1 0),(4,.ptr 2 0)],[.cells [.bool z.1,u6 z.2.1,u6 z.2.2.1],.cells [.bool z.2.2.2.1,u6 z.2.2.2.2.1,u6 z.2.2.2.2.2.1],.cells [.bool z.2.2.2.2.2.2.1,u6 z.2.2.2.2.2.2.2.1,u6 z.2.2.2.2.2.2.2.2]]⟩:q1b5→St)) ?_ ?_
  ·
   intro z h
   unfold q1c5 at h
   refine q3pf hm hT hC (q1by (q1b1 d) z) h fun y7 h=>?_
   refine q3pf hm hT hC (q1c2 (q1b1 d) y7) h fun y8 h=>?_
   refine q3pf hm hT hC (q1c4 (q1b1 d) y8) h fun y9 h=>?_
   refine q8l ?_
   cases h
   exact (hend _ (by kernel_rfl)).2
  intro hj1
  refine q3pf hm hT hC (q1bs (q1b1 d) y1) h fun y5 h=>?_
  refine q8q (v:=y5.1) (by kernel_rfl) h ?_ ?_
  ·
   intro h
   refine q8r hm hT hC (q1bu (q1b1 d) y5) h ?_
   intro y6 h
   exact hj1 _ h
  ·
   intro h
   refine q8i ?_
   refine qdj (s:=⟨[(2,.ptr 0 0),(3,.ptr 1 0),(4,.ptr 2 0)],[.cells [.bool y5.2.1,.int .u64 y5.2.2.1,.int .u64 y5.2.2.2.1],.cells [.bool y5.2.2.2.2.1,.int .u64 y5.2.2.2.2.2.1,.int .u64 y5.2.2.2.2.2.2.1],.cells [.bool y5.2.2.2.2.2.2.2.1,.int .u64 y5.2.2.2.2.2.2.2.2.1,.int .u64 y5.2.2.2.2.2.2.2.2.2]]⟩) [43] (by kernel_rfl) ?_
   exact hj1 _ h
abbrev q1c8:List Pk:=[.row Rbuu true,.row Ru false]
abbrev q1c9:Type:=Dbuu×Du×Unit
abbrev q1ca:Type:=Bool×Int×Int×Int
def q1cb (r:q1ca):LV×List Ob:=(.tup [.agg [.bool r.1,.int .u64 r.2.1,.int .u64 r.2.2.1],.int .u64 r.2.2.2],[])
def q1cc (F:q1c9→Option q1ca):Go.Tx.Spec:=⟨116,q1c8,q1ca,F,q1cb⟩
abbrev q1cd:Type:=(q168→Option q169)×Unit
def q1ce (d:Nat):q1cd:=(q199 d,())
def q1cf (C:q1cd):List Go.Tx.Spec:=[q16b C.1]
abbrev q1cg:Type:=Bool×Int×Int×Int
def q1ch (v:q1cg):St:=⟨[(0,.agg [.bool v.1,u6 v.2.1,u6 v.2.2.1]),(1,u6 v.2.2.2)],[]⟩
abbrev q1ci:Type:=Int×Bool×Int×Int×Bool×Int×Int
def q1cj (v:q1ci):St:=⟨[(1,u6 v.1),(2,.ptr 0 0),(4,.ptr 1 0)],[.cells [.bool v.2.1,u6 v.2.2.1,u6 v.2.2.2.1],.cells [.bool v.2.2.2.2.1,u6 v.2.2.2.2.2.1,u6 v.2.2.2.2.2.2]]⟩
def q1ck (C:q1cd) (v:q1cg):Dt q1ci:=(Dt.ret (v.2.2.2,v.1,v.2.1,v.2.2.1,false,(0:Int),(0:Int)))
abbrev q3pv {V Y:Type}:=@rg q1cd V Y tysT (fun C=>(orc (q1cf C))) 31
theorem q1cl C v:q3pv (regO (qdk f116) 0) false (an [1,2,4]) q1ch q1ck q1cj C v:=rgI (by kernel_rfl)
abbrev q1cm:Type:=Int×Int×Int×Bool×Int×Int×Bool×Int×Int
def q1cn (v:q1cm):St:=⟨[(1,u6 v.1),(2,.ptr 0 0),(4,.ptr 1 0),(6,u6 v.2.1),(7,u6 v.2.2.1)],[.cells [.bool v.2.2.2.1,u6 v.2.2.2.2.1,u6 v.2.2.2.2.2.1],.cells [.bool v.2.2.2.2.2.2.1,u6 v.2.2.2.2.2.2.2.1,u6 v.2.2.2.2.2.2.2.2]]⟩
def q1co (C:q1cd) (v:q1ci):Dt q1cm:=(Dt.ite (v.1 == (0:Int)) Dt.fail (Dt.ite (v.1 == (0:Int)) Dt.fail (Dt.ret (v.1,(IntKind.wrap .u64 (Int.tdiv v.2.2.1 v.1)),(Int.tmod v.2.2.1 v.1),v.2.1,v.2.2.1,v.2.2.2.1,v.2.2.2.2.1,v.2.2.2.2.2.1,v.2.2.2.2.2.2))))
theorem q1cp C v:q3pv (regO (qdk f116) 1) true (an [1,2,4,6,7]) q1cj q1co q1cn C v:=rgI (by kernel_rfl)
abbrev q1cq:Type:=Int×Int×Int×Bool×Int×Int×Bool×Int×Int
def q1cr (v:q1cq):St:=⟨[(2,.ptr 0 0),(4,.ptr 1 0),(6,u6 v.1),(7,u6 v.2.1),(8,u6 v.2.2.1)],[.cells [.bool v.2.2.2.1,u6 v.2.2.2.2.1,u6 v.2.2.2.2.2.1],.cells [.bool v.2.2.2.2.2.2.1,u6 v.2.2.2.2.2.2.2.1,u6 v.2.2.2.2.2.2.2.2]]⟩
def q1cs (C:q1cd) (v:q1cm):Dt q1cq:=(Dt.bnd (C.1 ((v.2.2.1,()),(v.2.2.2.2.2.1,()),(v.1,()),())) fun r1=>(Dt.ret (v.2.1,r1.2,r1.1,v.2.2.2.1,v.2.2.2.2.1,v.2.2.2.2.2.1,v.2.2.2.2.2.2.1,v.2.2.2.2.2.2.2.1,v.2.2.2.2.2.2.2.2)))
theorem q1ct C v:q3pv (regO (qdk f116) 2) false (an [2,4,6,7,8]) q1cn q1cs q1cr C v:=rgI (by kernel_rfl)
abbrev q1cu:Type:=Int×Bool×Int×Int
def q1cv (v:q1cu):St:=⟨[(4,.ptr 0 0),(5,u6 v.1)],[.cells [.bool v.2.1,u6 v.2.2.1,u6 v.2.2.2]]⟩
def q1cw (C:q1cd) (v:q1cq):Dt q1cu:=(Dt.ret (v.2.1,v.2.2.2.1,v.1,v.2.2.1))
theorem q1cx C v:q3pv (regO (qdk f116) 3) false (an [4,5]) q1cr q1cw q1cv C v:=rgI (by kernel_rfl)
def q1cy (d:Nat) (x:q1c9):Option q1ca :=
 (q1ck (q1ce d) (x.1.1,x.1.2.1,x.1.2.2.1,x.2.1.1)).eval fun y0 =>
 (q1co (q1ce d) y0).eval fun y1 =>
 (q1cs (q1ce d) y1).eval fun y2 =>
 (q1cw (q1ce d) y2).eval fun y3 =>
 some (y3.2.1,y3.2.2.1,y3.2.2.2,y3.1)
theorem q1cz (d:Nat):COK prog (q1cc (q1cy d)):=by
 have hm:prog.follows .mixedOrders=true:=mixed
 have hT:=tys
 have hC0:OrcOK prog (orc (q1cf (q1ce d))):=qde (by
  intro S hS
  simp only [q1cf,List.mem_cons,List.not_mem_nil,or_false] at hS
  subst hS;exact q19a d)
 have hC:OrcOK prog (orc (q1cf (q1ce d))):=hC0
 refine q93 (c:=qdk f116) (fn:=f116) hT (by kernel_rfl) (by kernel_rfl) (by decide) fun x r h w0 φ0 Q hend=>?_
 replace h:q1cy d x=some r:=h
 unfold q1cy at h
 show Run prog w0 φ0 31 (qdk f116) ⟨[(0,.agg [.bool x.1.1,.int .u64 x.1.2.1,.int .u64 x.1.2.2.1]),(1,.int .u64 x.2.1.1)],[]⟩ Q
 refine q3pf hm hT hC (q1cl (q1ce d) (x.1.1,x.1.2.1,x.1.2.2.1,x.2.1.1)) h fun y0 h=>?_
 refine q3pf hm hT hC (q1cp (q1ce d) y0) h fun y1 h=>?_
 refine q3pf hm hT hC (q1ct (q1ce d) y1) h fun y2 h=>?_
 refine q3pf hm hT hC (q1cx (q1ce d) y2) h fun y3 h=>?_
 refine q8l ?_
 cases h
 exact (hend _ (by kernel_rfl)).2
abbrev q1d0:List Pk:=[.row Rbuu true,.row Ru false,.row Ru false]
abbrev q1d1:Type:=Dbuu×Du×Du×Unit
abbrev q1d2:Type:=Int×Int×Int
def q1d3 (r:q1d2):LV×List Ob:=(.tup [.agg [.int .i64 r.1,.int .i64 r.2.1],.int .i64 r.2.2],[])
def q1d4 (F:q1d1→Option q1d2):Go.Tx.Spec:=⟨117,q1d0,q1d2,F,q1d3⟩
abbrev q1d5:Type:=Unit
def q1d6 (_d:Nat):q1d5:=()
def q1d7 (C:q1d5):List Go.Tx.Spec:=[]
abbrev q1d8:Type:=Bool×Int×Int×Int×Int
def q1d9 (v:q1d8):St:=⟨[(0,.agg [.bool v.1,u6 v.2.1,u6 v.2.2.1]),(1,u6 v.2.2.2.1),(2,u6 v.2.2.2.2)],[]⟩
abbrev q1da:Type:=Int×Int×Bool×Int×Int×Int×Int
def q1db (v:q1da):St:=⟨[(1,u6 v.1),(2,u6 v.2.1),(3,.ptr 0 0),(6,.ptr 1 0)],[.cells [.bool v.2.2.1,u6 v.2.2.2.1,u6 v.2.2.2.2.1],.cells [i6 v.2.2.2.2.2.1,i6 v.2.2.2.2.2.2]]⟩
def q1dc (C:q1d5) (v:q1d8):Dt q1da:=(Dt.ret (v.2.2.2.1,v.2.2.2.2,v.1,v.2.1,v.2.2.1,(0:Int),(0:Int)))
abbrev q3pw {V Y:Type}:=@rg q1d5 V Y tysT (fun C=>(orc (q1d7 C))) 39
theorem q1dd C v:q3pw (regO (qdk f117) 0) false (an [1,2,3,6]) q1d9 q1dc q1db C v:=rgI (by kernel_rfl)
abbrev q1de:Type:=Int×Bool×Bool×Int×Int×Int×Int
def q1df (v:q1de):St:=⟨[(2,u6 v.1),(3,.ptr 0 0),(6,.ptr 1 0),(24,.bool v.2.1)],[.cells [.bool v.2.2.1,u6 v.2.2.2.1,u6 v.2.2.2.2.1],.cells [i6 v.2.2.2.2.2.1,i6 v.2.2.2.2.2.2]]⟩
def q1dg (C:q1d5) (v:q1da):Dt q1de:=(Dt.ite (decide (v.2.2.2.1 > (0:Int))) (Dt.ret (v.2.1,true,v.2.2.1,v.2.2.2.1,v.2.2.2.2.1,v.2.2.2.2.2.1,v.2.2.2.2.2.2)) (Dt.ite (decide (v.2.2.2.2.1 > (9223372036854775807:Int))) (Dt.ret (v.2.1,true,v.2.2.1,v.2.2.2.1,v.2.2.2.2.1,v.2.2.2.2.2.1,v.2.2.2.2.2.2)) (Dt.ite (decide (v.1 > (0:Int))) (Dt.ret (v.2.1,true,v.2.2.1,v.2.2.2.1,v.2.2.2.2.1,v.2.2.2.2.2.1,v.2.2.2.2.2.2)) (Dt.ret (v.2.1,(decide (v.2.1 > (9223372036854775807:Int))),v.2.2.1,v.2.2.2.1,v.2.2.2.2.1,v.2.2.2.2.2.1,v.2.2.2.2.2.2)))))
theorem q1dh C v:q3pw (regO (qdk f117) 1) false (an [2,3,6,24]) q1db q1dg q1df C v:=rgI (by kernel_rfl)
abbrev q1di:Type:=Int×Int×Int
def q1dj (v:q1di):St:=⟨[(6,.ptr 0 0),(7,i6 v.1)],[.cells [i6 v.2.1,i6 v.2.2]]⟩
def q1dk (C:q1d5) (v:q1de):Dt q1di:=(Dt.ret ((16:Int),(0:Int),(0:Int)))
theorem q1dl C v:q3pw (regO (qdk f117) 2) false (an [6,7]) q1df q1dk q1dj C v:=rgI (by kernel_rfl)
abbrev q1dm:Type:=Bool×Int×Int×Int×Int×Int×Int
def q1dn (v:q1dm):St:=⟨[(3,.ptr 0 0),(6,.ptr 1 0),(8,.ptr 2 0)],[.cells [.bool v.1,u6 v.2.1,u6 v.2.2.1],.cells [i6 v.2.2.2.1,i6 v.2.2.2.2.1],.cells [i6 v.2.2.2.2.2.1,i6 v.2.2.2.2.2.2]]⟩
def q1do (C:q1d5) (v:q1de):Dt q1dm:=(Dt.ret (v.2.2.1,v.2.2.2.1,v.2.2.2.2.1,v.2.2.2.2.2.1,v.2.2.2.2.2.2,(IntKind.wrap .i64 v.2.2.2.2.1),(IntKind.wrap .i64 v.1)))
theorem q1dp C v:q3pw (regO (qdk f117) 3) false (an [3,6,8]) q1df q1do q1dn C v:=rgI (by kernel_rfl)
abbrev q1dq:Type:=Bool×Int×Int×Int×Int
def q1dr (v:q1dq):St:=⟨[(6,.ptr 0 0),(8,.ptr 1 0),(33,.bool v.1)],[.cells [i6 v.2.1,i6 v.2.2.1],.cells [i6 v.2.2.2.1,i6 v.2.2.2.2]]⟩
def q1ds (C:q1d5) (v:q1dm):Dt q1dq:=(Dt.ret (v.1,v.2.2.2.1,v.2.2.2.2.1,v.2.2.2.2.2.1,v.2.2.2.2.2.2))
theorem q1dt C v:q3pw (regO (qdk f117) 4) false (an [6,8,33]) q1dn q1ds q1dr C v:=rgI (by kernel_rfl)
abbrev q1du:Type:=Int×Int×Int×Int
def q1dv (v:q1du):St:=⟨[(6,.ptr 0 0),(8,.ptr 1 0)],[.cells [i6 v.1,i6 v.2.1],.cells [i6 v.2.2.1,i6 v.2.2.2]]⟩
def q1dw (C:q1d5) (v:q1dq):Dt q1du:=(Dt.ret (v.2.1,v.2.2.1,(IntKind.wrap .i64 (0 - v.2.2.2.1)),v.2.2.2.2))
theorem q1dx C v:q3pw (regO (qdk f117) 5) false (an [6,8]) q1dr q1dw q1dv C v:=rgI (by kernel_rfl)
def q1dy (C:q1d5) (v:q1du):Dt q1di:=(Dt.ret ((0:Int),v.2.2.1,v.2.2.2))
theorem q1dz C v:q3pw (regO (qdk f117) 6) false (an [6,7]) q1dv q1dy q1dj C v:=rgI (by kernel_rfl)
def q1e0  (d:Nat)  (z:Int×Int×Int×Int):Option (q1d2) :=
 (q1dy (q1d6 d) z).eval fun y6 =>
 some (y6.2.1,y6.2.2,y6.1)
def q1e1 (d:Nat) (x:q1d1):Option q1d2 :=
 (q1dc (q1d6 d) (x.1.1,x.1.2.1,x.1.2.2.1,x.2.1.1,x.2.2.1.1)).eval fun y0 =>
 (q1dg (q1d6 d) y0).eval fun y1 =>
 bif y1.2.1 then ((q1dk (q1d6 d) y1).eval fun y2 =>
 some (y2.2.1,y2.2.2,y2.1)) else ((q1do (q1d6 d) y1).eval fun y3 =>
 (q1ds (q1d6 d) y3).eval fun y4 =>
 bif y4.1 then ((q1dw (q1d6 d) y4).eval fun y5 =>
 q1e0 d  y5) else (q1e0 d  y4.2))
theorem q1e2 (d:Nat):COK prog (q1d4 (q1e1 d)):=by
 have hm:prog.follows .mixedOrders=true:=mixed
 have hT:=tys
 have hC0:OrcOK prog (orc (q1d7 (q1d6 d))):=qde (by
  intro S hS
  simp only [q1d7,List.mem_cons,List.not_mem_nil,or_false] at hS
  all_goals first | cases hS | exact hS.elim)
 have hC:OrcOK prog (orc (q1d7 (q1d6 d))):=hC0
 refine q93 (c:=qdk f117) (fn:=f117) hT (by kernel_rfl) (by kernel_rfl) (by decide) fun x r h w0 φ0 Q hend=>?_
 replace h:q1e1 d x=some r:=h
 unfold q1e1 at h
 show Run prog w0 φ0 39 (qdk f117) ⟨[(0,.agg [.bool x.1.1,.int .u64 x.1.2.1,.int .u64 x.1.2.2.1]),(1,.int .u64 x.2.1.1),(2,.int .u64 x.2.2.1.1)],[]⟩ Q
 refine q3pf hm hT hC (q1dd (q1d6 d) (x.1.1,x.1.2.1,x.1.2.2.1,x.2.1.1,x.2.2.1.1)) h fun y0 h=>?_
 refine q8m ?_
 refine q3pf hm hT hC (q1dh (q1d6 d) y0) h fun y1 h=>?_
 refine q8q (v:=y1.2.1) (by kernel_rfl) h ?_ ?_
 ·
  intro h
  refine q3pf hm hT hC (q1dl (q1d6 d) y1) h fun y2 h=>?_
  refine q8l (q8a ?_)
  cases h
  exact (hend _ (by kernel_rfl)).2
 ·
  intro h
  refine q8i (q88 ?_)
  refine q3pf hm hT hC (q1dp (q1d6 d) y1) h fun y3 h=>?_
  refine q8p (r:=r) (F:=q1e0 d ) (S:=(fun z=>⟨[(6,.ptr 0 0),(8,.ptr 1 0)],[.cells [i6 z.1,i6 z.2.1],.cells [i6 z.2.2.1,i6 z.2.2.2]]⟩:q1du→St)) ?_ ?_
  ·
   intro z h
   unfold q1e0 at h
   refine q3pf hm hT hC (q1dz (q1d6 d) z) h fun y6 h=>?_
   refine q8l ?_
   cases h
   exact (hend _ (by kernel_rfl)).2
  intro hj1
  refine q3pf hm hT hC (q1dt (q1d6 d) y3) h fun y4 h=>?_
  refine q8q (v:=y4.1) (by kernel_rfl) h ?_ ?_
  ·
   intro h
   refine q8r hm hT hC (q1dx (q1d6 d) y4) h ?_
   intro y5 h
   exact hj1 _ h
  ·
   intro h
   refine q8i ?_
   refine qdj (s:=⟨[(6,.ptr 0 0),(8,.ptr 1 0)],[.cells [.int .i64 y4.2.1,.int .i64 y4.2.2.1],.cells [.int .i64 y4.2.2.2.1,.int .i64 y4.2.2.2.2]]⟩) [33] (by kernel_rfl) ?_
   exact hj1 _ h
abbrev q1e3:List Pk:=[.row Rii true,.row Rii true]
abbrev q1e4:Type:=Dii×Dii×Unit
abbrev q1e5:Type:=Int×Int×Int
def q1e6 (r:q1e5):LV×List Ob:=(.tup [.agg [.int .i64 r.1,.int .i64 r.2.1],.int .i64 r.2.2],[])
def q1e7 (F:q1e4→Option q1e5):Go.Tx.Spec:=⟨90,q1e3,q1e5,F,q1e6⟩
abbrev q1e8:Type:=(q1a7→Option q1a8)×(qw1→Option qw2)×(qzb→Option qzc)×(qmq→Option qmr)×(q1aw→Option q1ax)×(q1c9→Option q1ca)×(q1d1→Option q1d2)×Unit
def q1e9 (d:Nat):q1e8:=(q1at d,qwi d,qzw d,qmv d,q1c6 d,q1cy d,q1e1 d,())
def q1ea (C:q1e8):List Go.Tx.Spec:=[q1aa C.1,qw4 C.2.1,qze C.2.2.1,qmt C.2.2.2.1,q1az C.2.2.2.2.1,q1cc C.2.2.2.2.2.1,q1d4 C.2.2.2.2.2.2.1]
abbrev q1eb:Type:=Int×Int×Int×Int
def q1ec (v:q1eb):St:=⟨[(0,.agg [i6 v.1,i6 v.2.1]),(1,.agg [i6 v.2.2.1,i6 v.2.2.2])],[]⟩
abbrev q1ed:Type:=Int×Int×Int×Int×Int×Int
def q1ee (v:q1ed):St:=⟨[(2,.ptr 0 0),(3,.ptr 1 0),(4,.ptr 2 0)],[.cells [i6 v.1,i6 v.2.1],.cells [i6 v.2.2.1,i6 v.2.2.2.1],.cells [i6 v.2.2.2.2.1,i6 v.2.2.2.2.2]]⟩
def q1ef (C:q1e8) (v:q1eb):Dt q1ed:=(Dt.ret (v.1,v.2.1,v.2.2.1,v.2.2.2,(0:Int),(0:Int)))
abbrev q3px {V Y:Type}:=@rg q1e8 V Y tysT (fun C=>(orc (q1ea C))) 81
theorem q1eg C v:q3px (regO (qdk f90) 0) false (an [2,3,4]) q1ec q1ef q1ee C v:=rgI (by kernel_rfl)
abbrev q1eh:Type:=Int×Int×Int×Int×Int×Int×Int
def q1ei (v:q1eh):St:=⟨[(2,.ptr 0 0),(3,.ptr 1 0),(4,.ptr 2 0),(6,i6 v.1)],[.cells [i6 v.2.1,i6 v.2.2.1],.cells [i6 v.2.2.2.1,i6 v.2.2.2.2.1],.cells [i6 v.2.2.2.2.2.1,i6 v.2.2.2.2.2.2]]⟩
def q1ej (C:q1e8) (v:q1ed):Dt q1eh:=(Dt.bnd (C.2.1 ((v.1,v.2.1,()),(v.2.2.1,v.2.2.2.1,()),())) fun r1=>(Dt.ret (r1,v.1,v.2.1,v.2.2.1,v.2.2.2.1,v.2.2.2.2.1,v.2.2.2.2.2)))
theorem q1ek C v:q3px (regO (qdk f90) 1) false (an [2,3,4,6]) q1ee q1ej q1ei C v:=rgI (by kernel_rfl)
abbrev q1el:Type:=Int×Bool×Int×Int×Int×Int×Int×Int
def q1em (v:q1el):St:=⟨[(2,.ptr 0 0),(3,.ptr 1 0),(4,.ptr 2 0),(6,i6 v.1),(18,.bool v.2.1)],[.cells [i6 v.2.2.1,i6 v.2.2.2.1],.cells [i6 v.2.2.2.2.1,i6 v.2.2.2.2.2.1],.cells [i6 v.2.2.2.2.2.2.1,i6 v.2.2.2.2.2.2.2]]⟩
def q1en (C:q1e8) (v:q1eh):Dt q1el:=(Dt.ret (v.1,(v.1 != (0:Int)),v.2.1,v.2.2.1,v.2.2.2.1,v.2.2.2.2.1,v.2.2.2.2.2.1,v.2.2.2.2.2.2))
theorem q1eo C v:q3px (regO (qdk f90) 2) false (an [2,3,4,6,18]) q1ei q1en q1em C v:=rgI (by kernel_rfl)
abbrev q1ep:Type:=Int×Int×Int
def q1eq (v:q1ep):St:=⟨[(4,.ptr 0 0),(5,i6 v.1)],[.cells [i6 v.2.1,i6 v.2.2]]⟩
def q1er (C:q1e8) (v:q1el):Dt q1ep:=(Dt.ret (v.1,(0:Int),(0:Int)))
theorem q1es C v:q3px (regO (qdk f90) 3) false (an [4,5]) q1em q1er q1eq C v:=rgI (by kernel_rfl)
abbrev q1et:Type:=Int×Int×Int×Int×Int×Int×Int
def q1eu (v:q1et):St:=⟨[(2,.ptr 0 0),(3,.ptr 1 0),(4,.ptr 2 0),(7,i6 v.1)],[.cells [i6 v.2.1,i6 v.2.2.1],.cells [i6 v.2.2.2.1,i6 v.2.2.2.2.1],.cells [i6 v.2.2.2.2.2.1,i6 v.2.2.2.2.2.2]]⟩
def q1ev (C:q1e8) (v:q1el):Dt q1et:=(Dt.bnd (C.1 (((IntKind.wrap .u64 v.2.2.2.1),()),((IntKind.wrap .u64 v.2.2.2.2.2.1),()),())) fun r1=>(Dt.ret ((IntKind.wrap .i64 r1),v.2.2.1,v.2.2.2.1,v.2.2.2.2.1,v.2.2.2.2.2.1,v.2.2.2.2.2.2.1,v.2.2.2.2.2.2.2)))
theorem q1ew C v:q3px (regO (qdk f90) 4) false (an [2,3,4,7]) q1em q1ev q1eu C v:=rgI (by kernel_rfl)
abbrev q1ex:Type:=Int×Int×Int×Int×Int×Int×Int×Bool×Int×Int
def q1ey (v:q1ex):St:=⟨[(2,.ptr 0 0),(3,.ptr 1 0),(4,.ptr 2 0),(7,i6 v.1),(8,.ptr 3 0)],[.cells [i6 v.2.1,i6 v.2.2.1],.cells [i6 v.2.2.2.1,i6 v.2.2.2.2.1],.cells [i6 v.2.2.2.2.2.1,i6 v.2.2.2.2.2.2.1],.cells [.bool v.2.2.2.2.2.2.2.1,u6 v.2.2.2.2.2.2.2.2.1,u6 v.2.2.2.2.2.2.2.2.2]]⟩
def q1ez (C:q1e8) (v:q1et):Dt q1ex:=(Dt.ite (v.1 == (0:Int)) Dt.fail (Dt.bnd (C.2.2.1 ((v.2.1,()),((IntKind.wrap .i64 (Int.tdiv v.2.2.2.2.1 v.1)),()),())) fun r1=>(Dt.ite (v.1 == (0:Int)) Dt.fail (Dt.bnd (C.2.2.1 ((v.2.2.2.1,()),((IntKind.wrap .i64 (Int.tdiv v.2.2.1 v.1)),()),())) fun r2=>(Dt.bnd (C.2.2.2.2.1 ((r1.1,r1.2.1,r1.2.2,()),(r2.1,r2.2.1,r2.2.2,()),())) fun r3=>(Dt.ret (v.1,v.2.1,v.2.2.1,v.2.2.2.1,v.2.2.2.2.1,v.2.2.2.2.2.1,v.2.2.2.2.2.2,r3.1,r3.2.1,r3.2.2)))))))
theorem q1f0 C v:q3px (regO (qdk f90) 5) true (an [2,3,4,7,8]) q1eu q1ez q1ey C v:=rgI (by kernel_rfl)
abbrev q1f1:Type:=Int×Int×Int×Int×Int×Int×Int×Int×Bool×Int×Int
def q1f2 (v:q1f1):St:=⟨[(2,.ptr 0 0),(3,.ptr 1 0),(4,.ptr 2 0),(7,i6 v.1),(8,.ptr 3 0),(10,u6 v.2.1)],[.cells [i6 v.2.2.1,i6 v.2.2.2.1],.cells [i6 v.2.2.2.2.1,i6 v.2.2.2.2.2.1],.cells [i6 v.2.2.2.2.2.2.1,i6 v.2.2.2.2.2.2.2.1],.cells [.bool v.2.2.2.2.2.2.2.2.1,u6 v.2.2.2.2.2.2.2.2.2.1,u6 v.2.2.2.2.2.2.2.2.2.2]]⟩
def q1f3 (C:q1e8) (v:q1ex):Dt q1f1:=(Dt.bnd (C.2.2.2.2.2.1 ((v.2.2.2.2.2.2.2.1,v.2.2.2.2.2.2.2.2.1,v.2.2.2.2.2.2.2.2.2,()),((IntKind.wrap .u64 v.1),()),())) fun r1=>(Dt.ret (v.1,r1.2.2.2,v.2.1,v.2.2.1,v.2.2.2.1,v.2.2.2.2.1,v.2.2.2.2.2.1,v.2.2.2.2.2.2.1,v.2.2.2.2.2.2.2.1,v.2.2.2.2.2.2.2.2.1,v.2.2.2.2.2.2.2.2.2)))
theorem q1f4 C v:q3px (regO (qdk f90) 6) false (an [2,3,4,7,8,10]) q1ey q1f3 q1f2 C v:=rgI (by kernel_rfl)
abbrev q1f5:Type:=Int×Int×Int×Int×Int×Int×Int×Int×Bool×Int×Int
def q1f6 (v:q1f5):St:=⟨[(2,.ptr 0 0),(3,.ptr 1 0),(4,.ptr 2 0),(7,i6 v.1),(8,.ptr 3 0),(11,u6 v.2.1)],[.cells [i6 v.2.2.1,i6 v.2.2.2.1],.cells [i6 v.2.2.2.2.1,i6 v.2.2.2.2.2.1],.cells [i6 v.2.2.2.2.2.2.1,i6 v.2.2.2.2.2.2.2.1],.cells [.bool v.2.2.2.2.2.2.2.2.1,u6 v.2.2.2.2.2.2.2.2.2.1,u6 v.2.2.2.2.2.2.2.2.2.2]]⟩
def q1f7 (C:q1e8) (v:q1f1):Dt q1f5:=(Dt.bnd (C.1 (((IntKind.wrap .u64 v.1),()),(v.2.1,()),())) fun r1=>(Dt.ret (v.1,r1,v.2.2.1,v.2.2.2.1,v.2.2.2.2.1,v.2.2.2.2.2.1,v.2.2.2.2.2.2.1,v.2.2.2.2.2.2.2.1,v.2.2.2.2.2.2.2.2.1,v.2.2.2.2.2.2.2.2.2.1,v.2.2.2.2.2.2.2.2.2.2)))
theorem q1f8 C v:q3px (regO (qdk f90) 7) false (an [2,3,4,7,8,11]) q1f2 q1f7 q1f6 C v:=rgI (by kernel_rfl)
def q1f9 (C:q1e8) (v:q1f5):Dt q1f5:=(Dt.bnd (C.2.2.2.2.2.1 ((v.2.2.2.2.2.2.2.2.1,v.2.2.2.2.2.2.2.2.2.1,v.2.2.2.2.2.2.2.2.2.2,()),(v.2.1,()),())) fun r1=>(Dt.ret (v.1,v.2.1,v.2.2.1,v.2.2.2.1,v.2.2.2.2.1,v.2.2.2.2.2.1,v.2.2.2.2.2.2.1,v.2.2.2.2.2.2.2.1,r1.1,r1.2.1,r1.2.2.1)))
theorem q1fa C v:q3px (regO (qdk f90) 8) false (an [2,3,4,7,8,11]) q1f6 q1f9 q1f6 C v:=rgI (by kernel_rfl)
abbrev q1fb:Type:=Int×Int×Int×Int×Bool×Int×Int
def q1fc (v:q1fb):St:=⟨[(4,.ptr 0 0),(8,.ptr 1 0),(12,u6 v.1),(13,u6 v.2.1)],[.cells [i6 v.2.2.1,i6 v.2.2.2.1],.cells [.bool v.2.2.2.2.1,u6 v.2.2.2.2.2.1,u6 v.2.2.2.2.2.2]]⟩
def q1fd (C:q1e8) (v:q1f5):Dt q1fb:=(Dt.ite (v.1 == (0:Int)) Dt.fail (Dt.ite (v.2.1 == (0:Int)) Dt.fail (Dt.bnd (C.2.2.2.1 (((IntKind.wrap .u64 (IntKind.wrap .i64 (Int.tdiv v.2.2.2.1 v.1))),()),((IntKind.wrap .u64 (Int.tdiv (IntKind.wrap .u64 v.2.2.2.2.2.1) v.2.1)),()),())) fun r1=>(Dt.ret (r1.1,r1.2,v.2.2.2.2.2.2.1,v.2.2.2.2.2.2.2.1,v.2.2.2.2.2.2.2.2.1,v.2.2.2.2.2.2.2.2.2.1,v.2.2.2.2.2.2.2.2.2.2)))))
theorem q1fe C v:q3px (regO (qdk f90) 9) true (an [4,8,12,13]) q1f6 q1fd q1fc C v:=rgI (by kernel_rfl)
def q1ff (C:q1e8) (v:q1fb):Dt q1ep:=(Dt.bnd (C.2.2.2.2.2.2.1 ((v.2.2.2.2.1,v.2.2.2.2.2.1,v.2.2.2.2.2.2,()),(v.1,()),(v.2.1,()),())) fun r1=>(Dt.ret (r1.2.2,r1.1,r1.2.1)))
theorem q1fg C v:q3px (regO (qdk f90) 10) false (an [4,5]) q1fc q1ff q1eq C v:=rgI (by kernel_rfl)
def q1fh (d:Nat) (x:q1e4):Option q1e5 :=
 (q1ef (q1e9 d) (x.1.1,x.1.2.1,x.2.1.1,x.2.1.2.1)).eval fun y0 =>
 (q1ej (q1e9 d) y0).eval fun y1 =>
 (q1en (q1e9 d) y1).eval fun y2 =>
 bif y2.2.1 then ((q1er (q1e9 d) y2).eval fun y3 =>
 some (y3.2.1,y3.2.2,y3.1)) else ((q1ev (q1e9 d) y2).eval fun y4 =>
 (q1ez (q1e9 d) y4).eval fun y5 =>
 (q1f3 (q1e9 d) y5).eval fun y6 =>
 (q1f7 (q1e9 d) y6).eval fun y7 =>
 (q1f9 (q1e9 d) y7).eval fun y8 =>
 (q1fd (q1e9 d) y8).eval fun y9 =>
 (q1ff (q1e9 d) y9).eval fun y10 =>
 some (y10.2.1,y10.2.2,y10.1))
theorem q1fi (d:Nat):COK prog (q1e7 (q1fh d)):=by
 have hm:prog.follows .mixedOrders=true:=mixed
 have hT:=tys
 have hC0:OrcOK prog (orc (q1ea (q1e9 d))):=qde (by
  intro S hS
  simp only [q1ea,List.mem_cons,List.not_mem_nil,or_false] at hS
  rcases hS with rfl | rfl | rfl | rfl | rfl | rfl | rfl
  · exact q1au d
  · exact qwj d
  · exact qzx d
  · exact qmx d
  · exact q1c7 d
  · exact q1cz d
  · exact q1e2 d)
 have hC:OrcOK prog (orc (q1ea (q1e9 d))):=hC0
 refine q93 (c:=qdk f90) (fn:=f90) hT (by kernel_rfl) (by kernel_rfl) (by decide) fun x r h w0 φ0 Q hend=>?_
 replace h:q1fh d x=some r:=h
 unfold q1fh at h
 show Run prog w0 φ0 81 (qdk f90) ⟨[(0,.agg [.int .i64 x.1.1,.int .i64 x.1.2.1]),(1,.agg [.int .i64 x.2.1.1,.int .i64 x.2.1.2.1])],[]⟩ Q
 refine q3pf hm hT hC (q1eg (q1e9 d) (x.1.1,x.1.2.1,x.2.1.1,x.2.1.2.1)) h fun y0 h=>?_
 refine q8m ?_
 refine q3pf hm hT hC (q1ek (q1e9 d) y0) h fun y1 h=>?_
 refine q3pf hm hT hC (q1eo (q1e9 d) y1) h fun y2 h=>?_
 refine q8q (v:=y2.2.1) (by kernel_rfl) h ?_ ?_
 ·
  intro h
  refine q3pf hm hT hC (q1es (q1e9 d) y2) h fun y3 h=>?_
  refine q8l (q8a ?_)
  cases h
  exact (hend _ (by kernel_rfl)).2
 ·
  intro h
  refine q8i (q88 ?_)
  refine q3pf hm hT hC (q1ew (q1e9 d) y2) h fun y4 h=>?_
  refine q3pf hm hT hC (q1f0 (q1e9 d) y4) h fun y5 h=>?_
  refine q3pf hm hT hC (q1f4 (q1e9 d) y5) h fun y6 h=>?_
  refine q3pf hm hT hC (q1f8 (q1e9 d) y6) h fun y7 h=>?_
  refine q3pf hm hT hC (q1fa (q1e9 d) y7) h fun y8 h=>?_
  refine q3pf hm hT hC (q1fe (q1e9 d) y8) h fun y9 h=>?_
  refine q3pf hm hT hC (q1fg (q1e9 d) y9) h fun y10 h=>?_
  refine q8l ?_
  cases h
  exact (hend _ (by kernel_rfl)).2
abbrev q1fj:List Pk:=[.row Rii true,.row Rii true]
abbrev q1fk:Type:=Dii×Dii×Unit
abbrev q1fl:Type:=Int×Int×Int
def q1fm (r:q1fl):LV×List Ob:=(.tup [.agg [.int .i64 r.1,.int .i64 r.2.1],.int .i64 r.2.2],[])
def q1fn (F:q1fk→Option q1fl):Go.Tx.Spec:=⟨60,q1fj,q1fl,F,q1fm⟩
abbrev q1fo:Type:=(qw1→Option qw2)×(q1e4→Option q1e5)×Unit
def q1fp (d:Nat):q1fo:=(qwi d,q1fh d,())
def q1fq (C:q1fo):List Go.Tx.Spec:=[qw4 C.1,q1e7 C.2.1]
abbrev q1fr:Type:=Int×Int×Int×Int
def q1fs (v:q1fr):St:=⟨[(0,.agg [i6 v.1,i6 v.2.1]),(1,.agg [i6 v.2.2.1,i6 v.2.2.2])],[]⟩
abbrev q1ft:Type:=Int×Int×Int×Int×Int×Int
def q1fu (v:q1ft):St:=⟨[(2,.ptr 0 0),(3,.ptr 1 0),(4,.ptr 2 0)],[.cells [i6 v.1,i6 v.2.1],.cells [i6 v.2.2.1,i6 v.2.2.2.1],.cells [i6 v.2.2.2.2.1,i6 v.2.2.2.2.2]]⟩
def q1fv (C:q1fo) (v:q1fr):Dt q1ft:=(Dt.ret (v.1,v.2.1,v.2.2.1,v.2.2.2,(0:Int),(0:Int)))
abbrev q3py {V Y:Type}:=@rg q1fo V Y tysT (fun C=>(orc (q1fq C))) 23
theorem q1fw C v:q3py (regO (qdk f60) 0) false (an [2,3,4]) q1fs q1fv q1fu C v:=rgI (by kernel_rfl)
abbrev q1fx:Type:=Int×Int×Int×Int×Int×Int×Int
def q1fy (v:q1fx):St:=⟨[(2,.ptr 0 0),(3,.ptr 1 0),(4,.ptr 2 0),(6,i6 v.1)],[.cells [i6 v.2.1,i6 v.2.2.1],.cells [i6 v.2.2.2.1,i6 v.2.2.2.2.1],.cells [i6 v.2.2.2.2.2.1,i6 v.2.2.2.2.2.2]]⟩
def q1fz (C:q1fo) (v:q1ft):Dt q1fx:=(Dt.bnd (C.1 ((v.1,v.2.1,()),(v.2.2.1,v.2.2.2.1,()),())) fun r1=>(Dt.ret (r1,v.1,v.2.1,v.2.2.1,v.2.2.2.1,v.2.2.2.2.1,v.2.2.2.2.2)))
theorem q1g0 C v:q3py (regO (qdk f60) 1) false (an [2,3,4,6]) q1fu q1fz q1fy C v:=rgI (by kernel_rfl)
abbrev q1g1:Type:=Int×Bool×Int×Int×Int×Int×Int×Int
def q1g2 (v:q1g1):St:=⟨[(2,.ptr 0 0),(3,.ptr 1 0),(4,.ptr 2 0),(6,i6 v.1),(11,.bool v.2.1)],[.cells [i6 v.2.2.1,i6 v.2.2.2.1],.cells [i6 v.2.2.2.2.1,i6 v.2.2.2.2.2.1],.cells [i6 v.2.2.2.2.2.2.1,i6 v.2.2.2.2.2.2.2]]⟩
def q1g3 (C:q1fo) (v:q1fx):Dt q1g1:=(Dt.ret (v.1,(v.1 != (0:Int)),v.2.1,v.2.2.1,v.2.2.2.1,v.2.2.2.2.1,v.2.2.2.2.2.1,v.2.2.2.2.2.2))
theorem q1g4 C v:q3py (regO (qdk f60) 2) false (an [2,3,4,6,11]) q1fy q1g3 q1g2 C v:=rgI (by kernel_rfl)
abbrev q1g5:Type:=Int×Int×Int
def q1g6 (v:q1g5):St:=⟨[(4,.ptr 0 0),(5,i6 v.1)],[.cells [i6 v.2.1,i6 v.2.2]]⟩
def q1g7 (C:q1fo) (v:q1g1):Dt q1g5:=(Dt.ret (v.1,(0:Int),(0:Int)))
theorem q1g8 C v:q3py (regO (qdk f60) 3) false (an [4,5]) q1g2 q1g7 q1g6 C v:=rgI (by kernel_rfl)
def q1g9 (C:q1fo) (v:q1g1):Dt q1ft:=(Dt.ret (v.2.2.1,v.2.2.2.1,(IntKind.wrap .i64 (0 - v.2.2.2.2.1)),v.2.2.2.2.2.1,v.2.2.2.2.2.2.1,v.2.2.2.2.2.2.2))
theorem q1ga C v:q3py (regO (qdk f60) 4) false (an [2,3,4]) q1g2 q1g9 q1fu C v:=rgI (by kernel_rfl)
def q1gb (C:q1fo) (v:q1ft):Dt q1g5:=(Dt.bnd (C.2.1 ((v.1,v.2.1,()),(v.2.2.1,v.2.2.2.1,()),())) fun r1=>(Dt.ret (r1.2.2,r1.1,r1.2.1)))
theorem q1gc C v:q3py (regO (qdk f60) 5) false (an [4,5]) q1fu q1gb q1g6 C v:=rgI (by kernel_rfl)
def q1gd (d:Nat) (x:q1fk):Option q1fl :=
 (q1fv (q1fp d) (x.1.1,x.1.2.1,x.2.1.1,x.2.1.2.1)).eval fun y0 =>
 (q1fz (q1fp d) y0).eval fun y1 =>
 (q1g3 (q1fp d) y1).eval fun y2 =>
 bif y2.2.1 then ((q1g7 (q1fp d) y2).eval fun y3 =>
 some (y3.2.1,y3.2.2,y3.1)) else ((q1g9 (q1fp d) y2).eval fun y4 =>
 (q1gb (q1fp d) y4).eval fun y5 =>
 some (y5.2.1,y5.2.2,y5.1))
theorem q1ge (d:Nat):COK prog (q1fn (q1gd d)):=by
 have hm:prog.follows .mixedOrders=true:=mixed
 have hT:=tys
 have hC0:OrcOK prog (orc (q1fq (q1fp d))):=qde (by
  intro S hS
  simp only [q1fq,List.mem_cons,List.not_mem_nil,or_false] at hS
  rcases hS with rfl | rfl
  · exact qwj d
  · exact q1fi d)
 have hC:OrcOK prog (orc (q1fq (q1fp d))):=hC0
 refine q93 (c:=qdk f60) (fn:=f60) hT (by kernel_rfl) (by kernel_rfl) (by decide) fun x r h w0 φ0 Q hend=>?_
 replace h:q1gd d x=some r:=h
 unfold q1gd at h
 show Run prog w0 φ0 23 (qdk f60) ⟨[(0,.agg [.int .i64 x.1.1,.int .i64 x.1.2.1]),(1,.agg [.int .i64 x.2.1.1,.int .i64 x.2.1.2.1])],[]⟩ Q
 refine q3pf hm hT hC (q1fw (q1fp d) (x.1.1,x.1.2.1,x.2.1.1,x.2.1.2.1)) h fun y0 h=>?_
 refine q8m ?_
 refine q3pf hm hT hC (q1g0 (q1fp d) y0) h fun y1 h=>?_
 refine q3pf hm hT hC (q1g4 (q1fp d) y1) h fun y2 h=>?_
 refine q8q (v:=y2.2.1) (by kernel_rfl) h ?_ ?_
 ·
  intro h
  refine q3pf hm hT hC (q1g8 (q1fp d) y2) h fun y3 h=>?_
  refine q8l (q8a ?_)
  cases h
  exact (hend _ (by kernel_rfl)).2
 ·
  intro h
  refine q8i (q88 ?_)
  refine q3pf hm hT hC (q1ga (q1fp d) y2) h fun y4 h=>?_
  refine q3pf hm hT hC (q1gc (q1fp d) y4) h fun y5 h=>?_
  refine q8l ?_
  cases h
  exact (hend _ (by kernel_rfl)).2
abbrev q1gf:List Pk:=[.row Riii true,.row Rii true]
abbrev q1gg:Type:=Diii×Dii×Unit
abbrev q1gh:Type:=Int×Int×Int
def q1gi (r:q1gh):LV×List Ob:=(.tup [.agg [.int .i64 r.1,.int .i64 r.2.1],.int .i64 r.2.2],[])
def q1gj (F:q1gg→Option q1gh):Go.Tx.Spec:=⟨59,q1gf,q1gh,F,q1gi⟩
abbrev q1gk:Type:=(qn8→Option qn9)×(qnq→Option qnr)×(q19y→Option q19z)×(q19c→Option q19d)×(q168→Option q169)×Unit
def q1gl (d:Nat):q1gk:=(qnd d,qnv d,q1a3 d,q19v d,q199 d,())
def q1gm (C:q1gk):List Go.Tx.Spec:=[qnb C.1,qnt C.2.1,q1a1 C.2.2.1,q19f C.2.2.2.1,q16b C.2.2.2.2.1]
abbrev q1gn:Type:=Int×Int×Int×Int×Int
def q1go (v:q1gn):St:=⟨[(0,.agg [i6 v.1,i6 v.2.1,i6 v.2.2.1]),(1,.agg [i6 v.2.2.2.1,i6 v.2.2.2.2])],[]⟩
abbrev q1gp:Type:=Int×Int×Int×Int×Int×Int×Int
def q1gq (v:q1gp):St:=⟨[(2,.ptr 0 0),(3,.ptr 1 0),(4,.ptr 2 0)],[.cells [i6 v.1,i6 v.2.1,i6 v.2.2.1],.cells [i6 v.2.2.2.1,i6 v.2.2.2.2.1],.cells [i6 v.2.2.2.2.2.1,i6 v.2.2.2.2.2.2]]⟩
def q1gr (C:q1gk) (v:q1gn):Dt q1gp:=(Dt.ret (v.1,v.2.1,v.2.2.1,v.2.2.2.1,v.2.2.2.2,(0:Int),(0:Int)))
abbrev q3pz {V Y:Type}:=@rg q1gk V Y tysT (fun C=>(orcI 87 q148 (orc (q1gm C)))) 111
theorem q1gs C v:q3pz (regO (qdk f59) 0) false (an [2,3,4]) q1go q1gr q1gq C v:=rgI (by kernel_rfl)
abbrev q1gt:Type:=Int×Int×Int×Int×Int×Int×Int×Int
def q1gu (v:q1gt):St:=⟨[(2,.ptr 0 0),(3,.ptr 1 0),(4,.ptr 2 0),(6,i6 v.1)],[.cells [i6 v.2.1,i6 v.2.2.1,i6 v.2.2.2.1],.cells [i6 v.2.2.2.2.1,i6 v.2.2.2.2.2.1],.cells [i6 v.2.2.2.2.2.2.1,i6 v.2.2.2.2.2.2.2]]⟩
def q1gv (C:q1gk) (v:q1gp):Dt q1gt:=(Dt.bnd (C.2.1 ((v.1,v.2.1,v.2.2.1,()),())) fun r1=>(Dt.bnd (C.1 ((v.2.2.2.1,v.2.2.2.2.1,()),())) fun r2=>(Dt.ret ((tmax r1 r2),v.1,v.2.1,v.2.2.1,v.2.2.2.1,v.2.2.2.2.1,v.2.2.2.2.2.1,v.2.2.2.2.2.2))))
theorem q1gw C v:q3pz (regO (qdk f59) 1) true (an [2,3,4,6]) q1gq q1gv q1gu C v:=rgI (by kernel_rfl)
abbrev q1gx:Type:=Int×Bool×Int×Int×Int×Int×Int×Int×Int
def q1gy (v:q1gx):St:=⟨[(2,.ptr 0 0),(3,.ptr 1 0),(4,.ptr 2 0),(6,i6 v.1),(24,.bool v.2.1)],[.cells [i6 v.2.2.1,i6 v.2.2.2.1,i6 v.2.2.2.2.1],.cells [i6 v.2.2.2.2.2.1,i6 v.2.2.2.2.2.2.1],.cells [i6 v.2.2.2.2.2.2.2.1,i6 v.2.2.2.2.2.2.2.2]]⟩
def q1gz (C:q1gk) (v:q1gt):Dt q1gx:=(Dt.ret (v.1,(v.1 != (0:Int)),v.2.1,v.2.2.1,v.2.2.2.1,v.2.2.2.2.1,v.2.2.2.2.2.1,v.2.2.2.2.2.2.1,v.2.2.2.2.2.2.2))
theorem q1h0 C v:q3pz (regO (qdk f59) 2) false (an [2,3,4,6,24]) q1gu q1gz q1gy C v:=rgI (by kernel_rfl)
abbrev q1h1:Type:=Int×Int×Int
def q1h2 (v:q1h1):St:=⟨[(4,.ptr 0 0),(5,i6 v.1)],[.cells [i6 v.2.1,i6 v.2.2]]⟩
def q1h3 (C:q1gk) (v:q1gx):Dt q1h1:=(Dt.ret (v.1,(0:Int),(0:Int)))
theorem q1h4 C v:q3pz (regO (qdk f59) 3) false (an [4,5]) q1gy q1h3 q1h2 C v:=rgI (by kernel_rfl)
abbrev q1h5:Type:=Int×Int×Int×Int×Int×Int
def q1h6 (v:q1h5):St:=⟨[(3,.ptr 0 0),(4,.ptr 1 0),(7,.ptr 2 0)],[.cells [i6 v.1,i6 v.2.1],.cells [i6 v.2.2.1,i6 v.2.2.2.1],.cells [i6 v.2.2.2.2.1,u6 v.2.2.2.2.2]]⟩
def q1h7 (C:q1gk) (v:q1gx):Dt q1h5:=(Dt.bnd (C.2.2.1 ((v.2.2.2.1,v.2.2.2.2.2.2.1,v.2.2.2.2.1,v.2.2.2.2.2.1,()),())) fun r1=>(Dt.ret (v.2.2.2.2.2.1,v.2.2.2.2.2.2.1,v.2.2.2.2.2.2.2.1,v.2.2.2.2.2.2.2.2,r1.1,r1.2)))
theorem q1h8 C v:q3pz (regO (qdk f59) 4) false (an [3,4,7]) q1gy q1h7 q1h6 C v:=rgI (by kernel_rfl)
abbrev q1h9:Type:=Bool×Int×Int×Int×Int×Int×Int
def q1ha (v:q1h9):St:=⟨[(3,.ptr 0 0),(4,.ptr 1 0),(7,.ptr 2 0),(8,.bool v.1)],[.cells [i6 v.2.1,i6 v.2.2.1],.cells [i6 v.2.2.2.1,i6 v.2.2.2.2.1],.cells [i6 v.2.2.2.2.2.1,u6 v.2.2.2.2.2.2]]⟩
def q1hb (C:q1gk) (v:q1h5):Dt q1h9:=(Dt.ret ((decide (v.2.2.2.2.1<(0:Int))),v.1,v.2.1,v.2.2.1,v.2.2.2.1,v.2.2.2.2.1,v.2.2.2.2.2))
theorem q1hc C v:q3pz (regO (qdk f59) 5) false (an [3,4,7,8]) q1h6 q1hb q1ha C v:=rgI (by kernel_rfl)
abbrev q1hd:Type:=Bool×Bool×Int×Int×Int×Int×Int×Int
def q1he (v:q1hd):St:=⟨[(3,.ptr 0 0),(4,.ptr 1 0),(7,.ptr 2 0),(8,.bool v.1),(42,.bool v.2.1)],[.cells [i6 v.2.2.1,i6 v.2.2.2.1],.cells [i6 v.2.2.2.2.1,i6 v.2.2.2.2.2.1],.cells [i6 v.2.2.2.2.2.2.1,u6 v.2.2.2.2.2.2.2]]⟩
def q1hf (C:q1gk) (v:q1h9):Dt q1hd:=(Dt.ret (v.1,v.1,v.2.1,v.2.2.1,v.2.2.2.1,v.2.2.2.2.1,v.2.2.2.2.2.1,v.2.2.2.2.2.2))
theorem q1hg C v:q3pz (regO (qdk f59) 6) false (an [3,4,7,8,42]) q1ha q1hf q1he C v:=rgI (by kernel_rfl)
abbrev q1hh:Type:=Bool×Int×Int×Int×Int×Int×Int×Int×Int
def q1hi (v:q1hh):St:=⟨[(3,.ptr 0 0),(4,.ptr 1 0),(7,.ptr 2 0),(8,.bool v.1),(9,u6 v.2.1),(10,u6 v.2.2.1)],[.cells [i6 v.2.2.2.1,i6 v.2.2.2.2.1],.cells [i6 v.2.2.2.2.2.1,i6 v.2.2.2.2.2.2.1],.cells [i6 v.2.2.2.2.2.2.2.1,u6 v.2.2.2.2.2.2.2.2]]⟩
def q1hj (C:q1gk) (v:q1hd):Dt q1hh:=(Dt.bnd (q148 ((0:Int)) (v.2.2.2.2.2.2.2) ((0:Int))) fun r1=>(Dt.ret (v.1,r1.1,r1.2,v.2.2.1,v.2.2.2.1,v.2.2.2.2.1,v.2.2.2.2.2.1,v.2.2.2.2.2.2.1,v.2.2.2.2.2.2.2)))
theorem q1hk C v:q3pz (regO (qdk f59) 7) false (an [3,4,7,8,9,10]) q1he q1hj q1hi C v:=rgI (by kernel_rfl)
def q1hl (C:q1gk) (v:q1hh):Dt q1h9:=(Dt.ret (v.1,v.2.2.2.1,v.2.2.2.2.1,v.2.2.2.2.2.1,v.2.2.2.2.2.2.1,(IntKind.wrap .i64 ((IntKind.wrap .i64 (0 - v.2.2.2.2.2.2.2.1)) - (IntKind.wrap .i64 v.2.2.1))),v.2.1))
theorem q1hm C v:q3pz (regO (qdk f59) 8) false (an [3,4,7,8]) q1hi q1hl q1ha C v:=rgI (by kernel_rfl)
abbrev q1hn:Type:=Bool×Int×Int×Int×Int×Int
def q1ho (v:q1hn):St:=⟨[(4,.ptr 0 0),(7,.ptr 1 0),(8,.bool v.1),(11,u6 v.2.1)],[.cells [i6 v.2.2.1,i6 v.2.2.2.1],.cells [i6 v.2.2.2.2.1,u6 v.2.2.2.2.2]]⟩
def q1hp (C:q1gk) (v:q1h9):Dt q1hn:=(Dt.ret (v.1,(IntKind.wrap .u64 v.2.2.1),v.2.2.2.1,v.2.2.2.2.1,v.2.2.2.2.2.1,v.2.2.2.2.2.2))
theorem q1hq C v:q3pz (regO (qdk f59) 9) false (an [4,7,8,11]) q1ha q1hp q1ho C v:=rgI (by kernel_rfl)
abbrev q1hr:Type:=Bool×Int×Int×Int×Int×Int×Int
def q1hs (v:q1hr):St:=⟨[(4,.ptr 0 0),(7,.ptr 1 0),(8,.bool v.1),(11,u6 v.2.1),(12,u6 v.2.2.1)],[.cells [i6 v.2.2.2.1,i6 v.2.2.2.2.1],.cells [i6 v.2.2.2.2.2.1,u6 v.2.2.2.2.2.2]]⟩
def q1ht (C:q1gk) (v:q1hn):Dt q1hr:=(Dt.bnd (C.2.2.2.1 (((IntKind.wrap .u64 v.2.2.2.2.1),()),(v.2.2.2.2.2,()),(v.2.1,()),())) fun r1=>(Dt.ret (v.1,v.2.1,r1,v.2.2.1,v.2.2.2.1,v.2.2.2.2.1,v.2.2.2.2.2)))
theorem q1hu C v:q3pz (regO (qdk f59) 10) false (an [4,7,8,11,12]) q1ho q1ht q1hs C v:=rgI (by kernel_rfl)
abbrev q1hv:Type:=Bool×Int×Int×Int×Int×Int×Int×Int
def q1hw (v:q1hv):St:=⟨[(4,.ptr 0 0),(7,.ptr 1 0),(8,.bool v.1),(11,u6 v.2.1),(12,u6 v.2.2.1),(13,u6 v.2.2.2.1)],[.cells [i6 v.2.2.2.2.1,i6 v.2.2.2.2.2.1],.cells [i6 v.2.2.2.2.2.2.1,u6 v.2.2.2.2.2.2.2]]⟩
def q1hx (C:q1gk) (v:q1hr):Dt q1hv:=(Dt.ret (v.1,v.2.1,v.2.2.1,v.2.1,v.2.2.2.1,v.2.2.2.2.1,v.2.2.2.2.2.1,v.2.2.2.2.2.2))
theorem q1hy C v:q3pz (regO (qdk f59) 11) false (an [4,7,8,11,12,13]) q1hs q1hx q1hw C v:=rgI (by kernel_rfl)
abbrev q1hz:Type:=Bool×Int×Int×Int×Bool×Int×Int×Int×Int
def q1i0 (v:q1hz):St:=⟨[(4,.ptr 0 0),(7,.ptr 1 0),(8,.bool v.1),(11,u6 v.2.1),(12,u6 v.2.2.1),(13,u6 v.2.2.2.1),(69,.bool v.2.2.2.2.1)],[.cells [i6 v.2.2.2.2.2.1,i6 v.2.2.2.2.2.2.1],.cells [i6 v.2.2.2.2.2.2.2.1,u6 v.2.2.2.2.2.2.2.2]]⟩
def q1i1 (C:q1gk) (v:q1hv):Dt q1hz:=(Dt.ret (v.1,v.2.1,v.2.2.1,v.2.2.2.1,(decide (v.2.2.1 > (0:Int))),v.2.2.2.2.1,v.2.2.2.2.2.1,v.2.2.2.2.2.2.1,v.2.2.2.2.2.2.2))
theorem q1i2 C v:q3pz (regO (qdk f59) 12) false (an [4,7,8,11,12,13,69]) q1hw q1i1 q1i0 C v:=rgI (by kernel_rfl)
def q1i3 (C:q1gk) (v:q1hz):Dt q1hv:=(Dt.ite (v.2.2.1 == (0:Int)) Dt.fail (Dt.ret (v.1,v.2.1,(Int.tmod v.2.2.2.1 v.2.2.1),v.2.2.1,v.2.2.2.2.2.1,v.2.2.2.2.2.2.1,v.2.2.2.2.2.2.2.1,v.2.2.2.2.2.2.2.2)))
theorem q1i4 C v:q3pz (regO (qdk f59) 13) true (an [4,7,8,11,12,13]) q1i0 q1i3 q1hw C v:=rgI (by kernel_rfl)
abbrev q1i5:Type:=Bool×Int×Int×Int×Int×Int×Int×Int
def q1i6 (v:q1i5):St:=⟨[(4,.ptr 0 0),(7,.ptr 1 0),(8,.bool v.1),(11,u6 v.2.1),(13,u6 v.2.2.1),(14,u6 v.2.2.2.1)],[.cells [i6 v.2.2.2.2.1,i6 v.2.2.2.2.2.1],.cells [i6 v.2.2.2.2.2.2.1,u6 v.2.2.2.2.2.2.2]]⟩
def q1i7 (C:q1gk) (v:q1hz):Dt q1i5:=(Dt.ite (v.2.2.2.1 == (0:Int)) Dt.fail (Dt.ret (v.1,v.2.1,v.2.2.2.1,(IntKind.wrap .u64 (Int.tdiv (IntKind.wrap .u64 v.2.2.2.2.2.2.2.1) v.2.2.2.1)),v.2.2.2.2.2.1,v.2.2.2.2.2.2.1,v.2.2.2.2.2.2.2.1,v.2.2.2.2.2.2.2.2)))
theorem q1i8 C v:q3pz (regO (qdk f59) 14) false (an [4,7,8,11,13,14]) q1i0 q1i7 q1i6 C v:=rgI (by kernel_rfl)
abbrev q1i9:Type:=Bool×Int×Int×Int×Int×Int×Int
def q1ia (v:q1i9):St:=⟨[(4,.ptr 0 0),(8,.bool v.1),(11,u6 v.2.1),(13,u6 v.2.2.1),(14,u6 v.2.2.2.1),(15,u6 v.2.2.2.2.1)],[.cells [i6 v.2.2.2.2.2.1,i6 v.2.2.2.2.2.2]]⟩
def q1ib (C:q1gk) (v:q1i5):Dt q1i9:=(Dt.ite (v.2.2.1 == (0:Int)) Dt.fail (Dt.bnd (C.2.2.2.2.1 (((Int.tmod (IntKind.wrap .u64 v.2.2.2.2.2.2.1) v.2.2.1),()),(v.2.2.2.2.2.2.2,()),(v.2.2.1,()),())) fun r1=>(Dt.ret (v.1,v.2.1,v.2.2.1,v.2.2.2.1,r1.1,v.2.2.2.2.1,v.2.2.2.2.2.1))))
theorem q1ic C v:q3pz (regO (qdk f59) 15) true (an [4,8,11,13,14,15]) q1i6 q1ib q1ia C v:=rgI (by kernel_rfl)
abbrev q1id:Type:=Bool×Int×Int×Int×Bool×Int×Int
def q1ie (v:q1id):St:=⟨[(4,.ptr 0 0),(8,.bool v.1),(11,u6 v.2.1),(13,u6 v.2.2.1),(15,u6 v.2.2.2.1),(96,.bool v.2.2.2.2.1)],[.cells [i6 v.2.2.2.2.2.1,i6 v.2.2.2.2.2.2]]⟩
def q1if (C:q1gk) (v:q1i9):Dt q1id:=(Dt.ite (decide (v.2.2.2.1 > (0:Int))) (Dt.ret (v.1,v.2.1,v.2.2.1,v.2.2.2.2.1,true,v.2.2.2.2.2.1,v.2.2.2.2.2.2)) (Dt.ret (v.1,v.2.1,v.2.2.1,v.2.2.2.2.1,(decide (v.2.2.2.2.1 > (9223372036854775807:Int))),v.2.2.2.2.2.1,v.2.2.2.2.2.2)))
theorem q1ig C v:q3pz (regO (qdk f59) 16) false (an [4,8,11,13,15,96]) q1ia q1if q1ie C v:=rgI (by kernel_rfl)
def q1ih (C:q1gk) (v:q1id):Dt q1h1:=(Dt.ret ((16:Int),(0:Int),(0:Int)))
theorem q1ii C v:q3pz (regO (qdk f59) 17) false (an [4,5]) q1ie q1ih q1h2 C v:=rgI (by kernel_rfl)
abbrev q1ij:Type:=Bool×Int×Int×Int×Int
def q1ik (v:q1ij):St:=⟨[(4,.ptr 0 0),(8,.bool v.1),(17,.ptr 1 0)],[.cells [i6 v.2.1,i6 v.2.2.1],.cells [i6 v.2.2.2.1,i6 v.2.2.2.2]]⟩
def q1il (C:q1gk) (v:q1id):Dt q1ij:=(Dt.ite (v.2.2.1 == (0:Int)) Dt.fail (Dt.ret (v.1,v.2.2.2.2.2.1,v.2.2.2.2.2.2,(IntKind.wrap .i64 v.2.2.2.1),(IntKind.wrap .i64 (IntKind.wrap .u64 (Int.tdiv v.2.1 v.2.2.1))))))
theorem q1im C v:q3pz (regO (qdk f59) 18) false (an [4,8,17]) q1ie q1il q1ik C v:=rgI (by kernel_rfl)
abbrev q1in:Type:=Bool×Int×Int×Int×Int
def q1io (v:q1in):St:=⟨[(4,.ptr 0 0),(17,.ptr 1 0),(105,.bool v.1)],[.cells [i6 v.2.1,i6 v.2.2.1],.cells [i6 v.2.2.2.1,i6 v.2.2.2.2]]⟩
def q1ip (C:q1gk) (v:q1ij):Dt q1in:=(Dt.ret (v.1,v.2.1,v.2.2.1,v.2.2.2.1,v.2.2.2.2))
theorem q1iq C v:q3pz (regO (qdk f59) 19) false (an [4,17,105]) q1ik q1ip q1io C v:=rgI (by kernel_rfl)
abbrev q1ir:Type:=Int×Int×Int×Int
def q1is (v:q1ir):St:=⟨[(4,.ptr 0 0),(17,.ptr 1 0)],[.cells [i6 v.1,i6 v.2.1],.cells [i6 v.2.2.1,i6 v.2.2.2]]⟩
def q1it (C:q1gk) (v:q1in):Dt q1ir:=(Dt.ret (v.2.1,v.2.2.1,(IntKind.wrap .i64 (0 - v.2.2.2.1)),v.2.2.2.2))
theorem q1iu C v:q3pz (regO (qdk f59) 20) false (an [4,17]) q1io q1it q1is C v:=rgI (by kernel_rfl)
def q1iv (C:q1gk) (v:q1ir):Dt q1h1:=(Dt.ret ((0:Int),v.2.2.1,v.2.2.2))
theorem q1iw C v:q3pz (regO (qdk f59) 21) false (an [4,5]) q1is q1iv q1h2 C v:=rgI (by kernel_rfl)
def q1ix  (d:Nat)  (z:Int×Int×Int×Int):Option (q1gh) :=
 (q1iv (q1gl d) z).eval fun y21 =>
 some (y21.2.1,y21.2.2,y21.1)
def q1iy (d:Nat) (self2:(Bool×Int×Int×Int×Int×Int×Int×Int)→Option q1gh) (x2:Bool×Int×Int×Int×Int×Int×Int×Int):Option q1gh :=
 (q1i1 (q1gl d) x2).eval fun y12 =>
 bif y12.2.2.2.2.1 then ((q1i3 (q1gl d) y12).eval fun y13 =>
 self2 y13) else ((q1i7 (q1gl d) y12).eval fun y14 =>
 (q1ib (q1gl d) y14).eval fun y15 =>
 (q1if (q1gl d) y15).eval fun y16 =>
 bif y16.2.2.2.2.1 then ((q1ih (q1gl d) y16).eval fun y17 =>
 some (y17.2.1,y17.2.2,y17.1)) else ((q1il (q1gl d) y16).eval fun y18 =>
 (q1ip (q1gl d) y18).eval fun y19 =>
 bif y19.1 then ((q1it (q1gl d) y19).eval fun y20 =>
 q1ix d  y20) else (q1ix d  y19.2)))
def q1iz  (d:Nat)  (z:Bool×Int×Int×Int×Int×Int×Int):Option (q1gh) :=
 (q1hp (q1gl d) z).eval fun y9 =>
 (q1ht (q1gl d) y9).eval fun y10 =>
 (q1hx (q1gl d) y10).eval fun y11 =>
 iter (q1iy d ) d y11
def q1j0 (d:Nat) (x:q1gg):Option q1gh :=
 (q1gr (q1gl d) (x.1.1,x.1.2.1,x.1.2.2.1,x.2.1.1,x.2.1.2.1)).eval fun y0 =>
 (q1gv (q1gl d) y0).eval fun y1 =>
 (q1gz (q1gl d) y1).eval fun y2 =>
 bif y2.2.1 then ((q1h3 (q1gl d) y2).eval fun y3 =>
 some (y3.2.1,y3.2.2,y3.1)) else ((q1h7 (q1gl d) y2).eval fun y4 =>
 (q1hb (q1gl d) y4).eval fun y5 =>
 (q1hf (q1gl d) y5).eval fun y6 =>
 bif y6.2.1 then ((q1hj (q1gl d) y6).eval fun y7 =>
 (q1hl (q1gl d) y7).eval fun y8 =>
 q1iz d  y8) else (q1iz d  (y6.1,y6.2.2.1,y6.2.2.2.1,y6.2.2.2.2.1,y6.2.2.2.2.2.1,y6.2.2.2.2.2.2.1,y6.2.2.2.2.2.2.2)))
theorem q1j1 (d:Nat):COK prog (q1gj (q1j0 d)):=by
 have hm:prog.follows .mixedOrders=true:=mixed
 have hT:=tys
 have hC0:OrcOK prog (orc (q1gm (q1gl d))):=qde (by
  intro S hS
  simp only [q1gm,List.mem_cons,List.not_mem_nil,or_false] at hS
  rcases hS with rfl | rfl | rfl | rfl | rfl
  · exact qnf d
  · exact qnx d
  · exact q1a5 d
  · exact q19w d
  · exact q19a d)
 have hC:OrcOK prog (orcI 87 q148 (orc (q1gm (q1gl d)))):=(q149 q14d hC0)
 refine q93 (c:=qdk f59) (fn:=f59) hT (by kernel_rfl) (by kernel_rfl) (by decide) fun x r h w0 φ0 Q hend=>?_
 replace h:q1j0 d x=some r:=h
 unfold q1j0 at h
 show Run prog w0 φ0 111 (qdk f59) ⟨[(0,.agg [.int .i64 x.1.1,.int .i64 x.1.2.1,.int .i64 x.1.2.2.1]),(1,.agg [.int .i64 x.2.1.1,.int .i64 x.2.1.2.1])],[]⟩ Q
 refine q3pf hm hT hC (q1gs (q1gl d) (x.1.1,x.1.2.1,x.1.2.2.1,x.2.1.1,x.2.1.2.1)) h fun y0 h=>?_
 refine q8m ?_
 refine q3pf hm hT hC (q1gw (q1gl d) y0) h fun y1 h=>?_
 refine q3pf hm hT hC (q1h0 (q1gl d) y1) h fun y2 h=>?_
 refine q8q (v:=y2.2.1) (by kernel_rfl) h ?_ ?_
 ·
  intro h
  refine q3pf hm hT hC (q1h4 (q1gl d) y2) h fun y3 h=>?_
  refine q8l (q8a ?_)
  cases h
  exact (hend _ (by kernel_rfl)).2
 ·
  intro h
  refine q8i (q88 ?_)
  refine q3pf hm hT hC (q1h8 (q1gl d) y2) h fun y4 h=>?_
  refine q3pf hm hT hC (q1hc (q1gl d) y4) h fun y5 h=>?_
  refine q8p (r:=r) (F:=q1iz d ) (S:=(fun z=>⟨[(3,.ptr 0 0),(4,.ptr 1 0),(7,.ptr 2 0),(8,.bool z.1)],[.cells [i6 z.2.1,i6 z.2.2.1],.cells [i6 z.2.2.2.1,i6 z.2.2.2.2.1],.cells [i6 z.2.2.2.2.2.1,u6 z.2.2.2.2.2.2]]⟩:q1dm→St)) ?_ ?_
  ·
   intro z h
   unfold q1iz at h
   refine q3pf hm hT hC (q1hq (q1gl d) z) h fun y9 h=>?_
   refine q3pf hm hT hC (q1hu (q1gl d) y9) h fun y10 h=>?_
   refine q3pf hm hT hC (q1hy (q1gl d) y10) h fun y11 h=>?_
   refine q8m (q8n ?_)
   refine q8s (G:=iter (q1iy d )) (S:=(fun x2=>⟨[(4,.ptr 0 0),(7,.ptr 1 0),(8,.bool x2.1),(11,u6 x2.2.1),(12,u6 x2.2.2.1),(13,u6 x2.2.2.2.1)],[.cells [i6 x2.2.2.2.2.1,i6 x2.2.2.2.2.2.1],.cells [i6 x2.2.2.2.2.2.2.1,u6 x2.2.2.2.2.2.2.2]]⟩:q1hv→St)) (fun _=>rfl) ?_ d _ h
   intro n2 x2 h K2 hn2
   replace h:q1iy d  (iter (q1iy d ) n2) x2=some r:=h
   generalize iter (q1iy d ) n2=self2 at h hn2
   unfold q1iy at h
   refine q8m ?_
   refine q3pf hm hT hC (q1i2 (q1gl d) x2) h fun y12 h=>?_
   refine q8q (v:=y12.2.2.2.2.1) (by kernel_rfl) h ?_ ?_
   ·
    intro h
    refine q8i (q88 (q8n ?_))
    refine q8r hm hT hC (q1i4 (q1gl d) y12) h ?_
    intro y13 h
    refine q8b ?_
    exact hn2 _ h
   ·
    intro h
    refine q8k (q89 (q89 (q8d (q88 ?_))))
    refine q3pf hm hT hC (q1i8 (q1gl d) y12) h fun y14 h=>?_
    refine q3pf hm hT hC (q1ic (q1gl d) y14) h fun y15 h=>?_
    refine q8m ?_
    refine q3pf hm hT hC (q1ig (q1gl d) y15) h fun y16 h=>?_
    refine q8q (v:=y16.2.2.2.2.1) (by kernel_rfl) h ?_ ?_
    ·
     intro h
     refine q3pf hm hT hC (q1ii (q1gl d) y16) h fun y17 h=>?_
     refine q8l (q8a ?_)
     cases h
     exact (hend _ (by kernel_rfl)).2
    ·
     intro h
     refine q8i (q88 ?_)
     refine q3pf hm hT hC (q1im (q1gl d) y16) h fun y18 h=>?_
     refine q8p (r:=r) (F:=q1ix d ) (S:=(fun z=>⟨[(4,.ptr 0 0),(17,.ptr 1 0)],[.cells [i6 z.1,i6 z.2.1],.cells [i6 z.2.2.1,i6 z.2.2.2]]⟩:q1du→St)) ?_ ?_
     ·
      intro z h
      unfold q1ix at h
      refine q3pf hm hT hC (q1iw (q1gl d) z) h fun y21 h=>?_
      refine q8l ?_
      cases h
      exact (hend _ (by kernel_rfl)).2
     intro hj3
     refine q3pf hm hT hC (q1iq (q1gl d) y18) h fun y19 h=>?_
     refine q8q (v:=y19.1) (by kernel_rfl) h ?_ ?_
     ·
      intro h
      refine q8r hm hT hC (q1iu (q1gl d) y19) h ?_
      intro y20 h
      exact hj3 _ h
     ·
      intro h
      refine q8i ?_
      refine qdj (s:=⟨[(4,.ptr 0 0),(17,.ptr 1 0)],[.cells [.int .i64 y19.2.1,.int .i64 y19.2.2.1],.cells [.int .i64 y19.2.2.2.1,.int .i64 y19.2.2.2.2]]⟩) [105] (by kernel_rfl) ?_
      exact hj3 _ h
  intro hj1
  refine q3pf hm hT hC (q1hg (q1gl d) y5) h fun y6 h=>?_
  refine q8q (v:=y6.2.1) (by kernel_rfl) h ?_ ?_
  ·
   intro h
   refine q3pf hm hT hC (q1hk (q1gl d) y6) h fun y7 h=>?_
   refine q8r hm hT hC (q1hm (q1gl d) y7) h ?_
   intro y8 h
   exact hj1 _ h
  ·
   intro h
   refine q8i ?_
   refine qdj (s:=⟨[(3,.ptr 0 0),(4,.ptr 1 0),(7,.ptr 2 0),(8,.bool y6.1)],[.cells [.int .i64 y6.2.2.1,.int .i64 y6.2.2.2.1],.cells [.int .i64 y6.2.2.2.2.1,.int .i64 y6.2.2.2.2.2.1],.cells [.int .i64 y6.2.2.2.2.2.2.1,.int .u64 y6.2.2.2.2.2.2.2]]⟩) [42] (by kernel_rfl) ?_
   exact hj1 _ h
abbrev q1j2:List Pk:=[.row Rii true,.row Rii true]
abbrev q1j3:Type:=Dii×Dii×Unit
abbrev q1j4:Type:=Int
def q1j5 (r:q1j4):LV×List Ob:=(.int .i64 r,[])
def q1j6 (F:q1j3→Option q1j4):Go.Tx.Spec:=⟨83,q1j2,q1j4,F,q1j5⟩
abbrev q1j7:Type:=(qnh→Option qni)×Unit
def q1j8 (d:Nat):q1j7:=(qnm d,())
def q1j9 (C:q1j7):List Go.Tx.Spec:=[qnk C.1]
abbrev q1ja:Type:=Int×Int×Int×Int
def q1jb (v:q1ja):St:=⟨[(0,.agg [i6 v.1,i6 v.2.1]),(1,.agg [i6 v.2.2.1,i6 v.2.2.2])],[]⟩
abbrev q1jc:Type:=Int×Int×Int×Int
def q1jd (v:q1jc):St:=⟨[(2,.ptr 0 0),(3,.ptr 1 0)],[.cells [i6 v.1,i6 v.2.1],.cells [i6 v.2.2.1,i6 v.2.2.2]]⟩
def q1je (C:q1j7) (v:q1ja):Dt q1jc:=(Dt.ret (v.1,v.2.1,v.2.2.1,v.2.2.2))
abbrev q3q0 {V Y:Type}:=@rg q1j7 V Y tysT (fun C=>(orc (q1j9 C))) 12
theorem q1jf C v:q3q0 (regO (qdk f83) 0) false (an [2,3]) q1jb q1je q1jd C v:=rgI (by kernel_rfl)
abbrev q1jg:Type:=Bool×Int×Int×Int×Int
def q1jh (v:q1jg):St:=⟨[(2,.ptr 0 0),(3,.ptr 1 0),(7,.bool v.1)],[.cells [i6 v.2.1,i6 v.2.2.1],.cells [i6 v.2.2.2.1,i6 v.2.2.2.2]]⟩
def q1ji (C:q1j7) (v:q1jc):Dt q1jg:=(Dt.bnd (C.1 ((v.1,v.2.1,()),())) fun r1=>(Dt.ret ((r1 != (0:Int)),v.1,v.2.1,v.2.2.1,v.2.2.2)))
theorem q1jj C v:q3q0 (regO (qdk f83) 1) false (an [2,3,7]) q1jd q1ji q1jh C v:=rgI (by kernel_rfl)
abbrev q1jk:Type:=Int
def q1jl (v:q1jk):St:=⟨[(4,i6 v)],[]⟩
def q1jm (C:q1j7) (v:q1jg):Dt q1jk:=(Dt.bnd (C.1 ((v.2.1,v.2.2.1,()),())) fun r1=>(Dt.ret r1))
theorem q1jn C v:q3q0 (regO (qdk f83) 2) false [(4,.any)] q1jh q1jm q1jl C v:=rgI (by kernel_rfl)
def q1jo (C:q1j7) (v:q1jg):Dt q1jk:=(Dt.bnd (C.1 ((v.2.2.2.1,v.2.2.2.2,()),())) fun r1=>(Dt.ret r1))
theorem q1jp C v:q3q0 (regO (qdk f83) 3) false [(4,.any)] q1jh q1jo q1jl C v:=rgI (by kernel_rfl)
def q1jq (d:Nat) (x:q1j3):Option q1j4 :=
 (q1je (q1j8 d) (x.1.1,x.1.2.1,x.2.1.1,x.2.1.2.1)).eval fun y0 =>
 (q1ji (q1j8 d) y0).eval fun y1 =>
 bif y1.1 then ((q1jm (q1j8 d) y1).eval fun y2 =>
 some y2) else ((q1jo (q1j8 d) y1).eval fun y3 =>
 some y3)
theorem q1jr (d:Nat):COK prog (q1j6 (q1jq d)):=by
 have hm:prog.follows .mixedOrders=true:=mixed
 have hT:=tys
 have hC0:OrcOK prog (orc (q1j9 (q1j8 d))):=qde (by
  intro S hS
  simp only [q1j9,List.mem_cons,List.not_mem_nil,or_false] at hS
  subst hS;exact qno d)
 have hC:OrcOK prog (orc (q1j9 (q1j8 d))):=hC0
 refine q93 (c:=qdk f83) (fn:=f83) hT (by kernel_rfl) (by kernel_rfl) (by decide) fun x r h w0 φ0 Q hend=>?_
 replace h:q1jq d x=some r:=h
 unfold q1jq at h
 show Run prog w0 φ0 12 (qdk f83) ⟨[(0,.agg [.int .i64 x.1.1,.int .i64 x.1.2.1]),(1,.agg [.int .i64 x.2.1.1,.int .i64 x.2.1.2.1])],[]⟩ Q
 refine q3pf hm hT hC (q1jf (q1j8 d) (x.1.1,x.1.2.1,x.2.1.1,x.2.1.2.1)) h fun y0 h=>?_
 refine q8m ?_
 refine q3pf hm hT hC (q1jj (q1j8 d) y0) h fun y1 h=>?_
 refine q8q (v:=y1.1) (by kernel_rfl) h ?_ ?_
 ·
  intro h
  refine q3pf hm hT hC (q1jn (q1j8 d) y1) h fun y2 h=>?_
  refine q8l (q8a ?_)
  cases h
  exact (hend _ (by kernel_rfl)).2
 ·
  intro h
  refine q8i (q88 ?_)
  refine q3pf hm hT hC (q1jp (q1j8 d) y1) h fun y3 h=>?_
  refine q8l ?_
  cases h
  exact (hend _ (by kernel_rfl)).2
abbrev q1js:List Pk:=[.row Ru false,.row Ru false]
abbrev q1jt:Type:=Du×Du×Unit
abbrev q1ju:Type:=Int
def q1jv (r:q1ju):LV×List Ob:=(.int .u64 r,[])
def q1jw (F:q1jt→Option q1ju):Go.Tx.Spec:=⟨45,q1js,q1ju,F,q1jv⟩
abbrev q1jx:Type:=Unit
def q1jy (_d:Nat):q1jx:=()
def q1jz (C:q1jx):List Go.Tx.Spec:=[]
abbrev q1k0:Type:=Int×Int
def q1k1 (v:q1k0):St:=⟨[(0,u6 v.1),(1,u6 v.2)],[]⟩
def q1k2 (C:q1jx) (v:q1k0):Dt q1k0:=(Dt.ret (v.1,v.2))
abbrev q3q1 {V Y:Type}:=@rg q1jx V Y tysT (fun C=>(orc (q1jz C))) 12
theorem q1k3 C v:q3q1 (regO (qdk f45) 0) false (an [0,1]) q1k1 q1k2 q1k1 C v:=rgI (by kernel_rfl)
abbrev q1k4:Type:=Int×Int×Bool
def q1k5 (v:q1k4):St:=⟨[(0,u6 v.1),(1,u6 v.2.1),(6,.bool v.2.2)],[]⟩
def q1k6 (C:q1jx) (v:q1k0):Dt q1k4:=(Dt.ret (v.1,v.2,(v.2 != (0:Int))))
theorem q1k7 C v:q3q1 (regO (qdk f45) 1) false (an [0,1,6]) q1k1 q1k6 q1k5 C v:=rgI (by kernel_rfl)
def q1k8 (C:q1jx) (v:q1k4):Dt q1k0:=(Dt.ite (v.2.1 == (0:Int)) Dt.fail (Dt.ret (v.2.1,(Int.tmod v.1 v.2.1))))
theorem q1k9 C v:q3q1 (regO (qdk f45) 2) true (an [0,1]) q1k5 q1k8 q1k1 C v:=rgI (by kernel_rfl)
abbrev q1ka:Type:=Int
def q1kb (v:q1ka):St:=⟨[(4,u6 v)],[]⟩
def q1kc (C:q1jx) (v:q1k4):Dt q1ka:=(Dt.ret v.1)
theorem q1kd C v:q3q1 (regO (qdk f45) 3) false [(4,.any)] q1k5 q1kc q1kb C v:=rgI (by kernel_rfl)
def q1ke (d:Nat) (self1:(Int×Int)→Option q1ju) (x1:Int×Int):Option q1ju :=
 (q1k6 (q1jy d) x1).eval fun y1 =>
 bif y1.2.2 then ((q1k8 (q1jy d) y1).eval fun y2 =>
 self1 y2) else ((q1kc (q1jy d) y1).eval fun y3 =>
 some y3)
def q1kf (d:Nat) (x:q1jt):Option q1ju :=
 (q1k2 (q1jy d) (x.1.1,x.2.1.1)).eval fun y0 =>
 iter (q1ke d ) d y0
theorem q1kg (d:Nat):COK prog (q1jw (q1kf d)):=by
 have hm:prog.follows .mixedOrders=true:=mixed
 have hT:=tys
 have hC0:OrcOK prog (orc (q1jz (q1jy d))):=qde (by
  intro S hS
  simp only [q1jz,List.mem_cons,List.not_mem_nil,or_false] at hS
  all_goals first | cases hS | exact hS.elim)
 have hC:OrcOK prog (orc (q1jz (q1jy d))):=hC0
 refine q93 (c:=qdk f45) (fn:=f45) hT (by kernel_rfl) (by kernel_rfl) (by decide) fun x r h w0 φ0 Q hend=>?_
 replace h:q1kf d x=some r:=h
 unfold q1kf at h
 show Run prog w0 φ0 12 (qdk f45) ⟨[(0,.int .u64 x.1.1),(1,.int .u64 x.2.1.1)],[]⟩ Q
 refine q3pf hm hT hC (q1k3 (q1jy d) (x.1.1,x.2.1.1)) h fun y0 h=>?_
 refine q8m (q8n ?_)
 refine q8s (G:=iter (q1ke d )) (S:=(fun x1=>⟨[(0,u6 x1.1),(1,u6 x1.2)],[]⟩:Int×Int→St)) (fun _=>rfl) ?_ d _ h
 intro n1 x1 h K1 hn1
 replace h:q1ke d  (iter (q1ke d ) n1) x1=some r:=h
 generalize iter (q1ke d ) n1=self1 at h hn1
 unfold q1ke at h
 refine q8m ?_
 refine q3pf hm hT hC (q1k7 (q1jy d) x1) h fun y1 h=>?_
 refine q8q (v:=y1.2.2) (by kernel_rfl) h ?_ ?_
 ·
  intro h
  refine q8i (q88 (q8n ?_))
  refine q8r hm hT hC (q1k9 (q1jy d) y1) h ?_
  intro y2 h
  refine q8b ?_
  exact hn1 _ h
 ·
  intro h
  refine q8k (q89 (q89 (q8d (q88 ?_))))
  refine q3pf hm hT hC (q1kd (q1jy d) y1) h fun y3 h=>?_
  refine q8l ?_
  cases h
  exact (hend _ (by kernel_rfl)).2
abbrev q1kh:List Pk:=[.row Rbuu true,.row Rbuu true]
abbrev q1ki:Type:=Dbuu×Dbuu×Unit
abbrev q1kj:Type:=Int
def q1kk (r:q1kj):LV×List Ob:=(.int .i64 r,[])
def q1kl (F:q1ki→Option q1kj):Go.Tx.Spec:=⟨49,q1kh,q1kj,F,q1kk⟩
abbrev q1km:Type:=Unit
def q1kn (_d:Nat):q1km:=()
def q1ko (C:q1km):List Go.Tx.Spec:=[]
abbrev q1kp:Type:=Bool×Int×Int×Bool×Int×Int
def q1kq (v:q1kp):St:=⟨[(0,.agg [.bool v.1,u6 v.2.1,u6 v.2.2.1]),(1,.agg [.bool v.2.2.2.1,u6 v.2.2.2.2.1,u6 v.2.2.2.2.2])],[]⟩
abbrev q1kr:Type:=Bool×Int×Int×Bool×Int×Int
def q1ks (v:q1kr):St:=⟨[(2,.ptr 0 0),(3,.ptr 1 0)],[.cells [.bool v.1,u6 v.2.1,u6 v.2.2.1],.cells [.bool v.2.2.2.1,u6 v.2.2.2.2.1,u6 v.2.2.2.2.2]]⟩
def q1kt (C:q1km) (v:q1kp):Dt q1kr:=(Dt.ret (v.1,v.2.1,v.2.2.1,v.2.2.2.1,v.2.2.2.2.1,v.2.2.2.2.2))
abbrev q3q2 {V Y:Type}:=@rg q1km V Y tysT (fun C=>(orc (q1ko C))) 25
theorem q1ku C v:q3q2 (regO (qdk f49) 0) false (an [2,3]) q1kq q1kt q1ks C v:=rgI (by kernel_rfl)
abbrev q1kv:Type:=Bool×Bool×Int×Int×Bool×Int×Int
def q1kw (v:q1kv):St:=⟨[(2,.ptr 0 0),(3,.ptr 1 0),(9,.bool v.1)],[.cells [.bool v.2.1,u6 v.2.2.1,u6 v.2.2.2.1],.cells [.bool v.2.2.2.2.1,u6 v.2.2.2.2.2.1,u6 v.2.2.2.2.2.2]]⟩
def q1kx (C:q1km) (v:q1kr):Dt q1kv:=(Dt.ret ((v.2.1 != v.2.2.2.2.1),v.1,v.2.1,v.2.2.1,v.2.2.2.1,v.2.2.2.2.1,v.2.2.2.2.2))
theorem q1ky C v:q3q2 (regO (qdk f49) 1) false (an [2,3,9]) q1ks q1kx q1kw C v:=rgI (by kernel_rfl)
abbrev q1kz:Type:=Bool
def q1l0 (v:q1kz):St:=⟨[(14,.bool v)],[]⟩
def q1l1 (C:q1km) (v:q1kv):Dt q1kz:=(Dt.ret (decide (v.2.2.1<v.2.2.2.2.2.1)))
theorem q1l2 C v:q3q2 (regO (qdk f49) 2) false [(14,.any)] q1kw q1l1 q1l0 C v:=rgI (by kernel_rfl)
abbrev q1l3:Type:=Int
def q1l4 (v:q1l3):St:=⟨[(4,i6 v)],[]⟩
def q1l5 (C:q1km) (v:q1kz):Dt q1l3:=(Dt.ret (-1:Int))
theorem q1l6 C v:q3q2 (regO (qdk f49) 3) false [(4,.any)] q1l0 q1l5 q1l4 C v:=rgI (by kernel_rfl)
def q1l7 (C:q1km) (v:q1kz):Dt q1l3:=(Dt.ret (1:Int))
theorem q1l8 C v:q3q2 (regO (qdk f49) 4) false [(4,.any)] q1l0 q1l7 q1l4 C v:=rgI (by kernel_rfl)
abbrev q1l9:Type:=Bool×Bool×Int×Int×Bool×Int×Int
def q1la (v:q1l9):St:=⟨[(2,.ptr 0 0),(3,.ptr 1 0),(19,.bool v.1)],[.cells [.bool v.2.1,u6 v.2.2.1,u6 v.2.2.2.1],.cells [.bool v.2.2.2.2.1,u6 v.2.2.2.2.2.1,u6 v.2.2.2.2.2.2]]⟩
def q1lb (C:q1km) (v:q1kv):Dt q1l9:=(Dt.ret ((v.2.2.2.1 != v.2.2.2.2.2.2),v.2.1,v.2.2.1,v.2.2.2.1,v.2.2.2.2.1,v.2.2.2.2.2.1,v.2.2.2.2.2.2))
theorem q1lc C v:q3q2 (regO (qdk f49) 5) false (an [2,3,19]) q1kw q1lb q1la C v:=rgI (by kernel_rfl)
abbrev q1ld:Type:=Bool
def q1le (v:q1ld):St:=⟨[(24,.bool v)],[]⟩
def q1lf (C:q1km) (v:q1l9):Dt q1ld:=(Dt.ret (decide (v.2.2.2.1<v.2.2.2.2.2.2)))
theorem q1lg C v:q3q2 (regO (qdk f49) 6) false [(24,.any)] q1la q1lf q1le C v:=rgI (by kernel_rfl)
def q1lh (C:q1km) (v:q1ld):Dt q1l3:=(Dt.ret (-1:Int))
theorem q1li C v:q3q2 (regO (qdk f49) 7) false [(4,.any)] q1le q1lh q1l4 C v:=rgI (by kernel_rfl)
def q1lj (C:q1km) (v:q1ld):Dt q1l3:=(Dt.ret (1:Int))
theorem q1lk C v:q3q2 (regO (qdk f49) 8) false [(4,.any)] q1le q1lj q1l4 C v:=rgI (by kernel_rfl)
def q1ll (C:q1km) (v:q1l9):Dt q1l3:=(Dt.ret (0:Int))
theorem q1lm C v:q3q2 (regO (qdk f49) 9) false [(4,.any)] q1la q1ll q1l4 C v:=rgI (by kernel_rfl)
def q1ln (d:Nat) (x:q1ki):Option q1kj :=
 (q1kt (q1kn d) (x.1.1,x.1.2.1,x.1.2.2.1,x.2.1.1,x.2.1.2.1,x.2.1.2.2.1)).eval fun y0 =>
 (q1kx (q1kn d) y0).eval fun y1 =>
 bif y1.1 then ((q1l1 (q1kn d) y1).eval fun y2 =>
 bif y2 then ((q1l5 (q1kn d) y2).eval fun y3 =>
 some y3) else ((q1l7 (q1kn d) y2).eval fun y4 =>
 some y4)) else ((q1lb (q1kn d) y1).eval fun y5 =>
 bif y5.1 then ((q1lf (q1kn d) y5).eval fun y6 =>
 bif y6 then ((q1lh (q1kn d) y6).eval fun y7 =>
 some y7) else ((q1lj (q1kn d) y6).eval fun y8 =>
 some y8)) else ((q1ll (q1kn d) y5).eval fun y9 =>
 some y9))
theorem q1lo (d:Nat):COK prog (q1kl (q1ln d)):=by
 have hm:prog.follows .mixedOrders=true:=mixed
 have hT:=tys
 have hC0:OrcOK prog (orc (q1ko (q1kn d))):=qde (by
  intro S hS
  simp only [q1ko,List.mem_cons,List.not_mem_nil,or_false] at hS
  all_goals first | cases hS | exact hS.elim)
 have hC:OrcOK prog (orc (q1ko (q1kn d))):=hC0
 refine q93 (c:=qdk f49) (fn:=f49) hT (by kernel_rfl) (by kernel_rfl) (by decide) fun x r h w0 φ0 Q hend=>?_
 replace h:q1ln d x=some r:=h
 unfold q1ln at h
 show Run prog w0 φ0 25 (qdk f49) ⟨[(0,.agg [.bool x.1.1,.int .u64 x.1.2.1,.int .u64 x.1.2.2.1]),(1,.agg [.bool x.2.1.1,.int .u64 x.2.1.2.1,.int .u64 x.2.1.2.2.1])],[]⟩ Q
 refine q3pf hm hT hC (q1ku (q1kn d) (x.1.1,x.1.2.1,x.1.2.2.1,x.2.1.1,x.2.1.2.1,x.2.1.2.2.1)) h fun y0 h=>?_
 refine q8m ?_
 refine q3pf hm hT hC (q1ky (q1kn d) y0) h fun y1 h=>?_
 refine q8q (v:=y1.1) (by kernel_rfl) h ?_ ?_
 ·
  intro h
  refine q8m ?_
  refine q3pf hm hT hC (q1l2 (q1kn d) y1) h fun y2 h=>?_
  refine q8q (v:=y2) (by kernel_rfl) h ?_ ?_
  ·
   intro h
   refine q3pf hm hT hC (q1l6 (q1kn d) y2) h fun y3 h=>?_
   refine q8l (q8a (q8a ?_))
   cases h
   exact (hend _ (by kernel_rfl)).2
  ·
   intro h
   refine q8i (q88 ?_)
   refine q3pf hm hT hC (q1l8 (q1kn d) y2) h fun y4 h=>?_
   refine q8l (q8a ?_)
   cases h
   exact (hend _ (by kernel_rfl)).2
 ·
  intro h
  refine q8i (q88 (q8m ?_))
  refine q3pf hm hT hC (q1lc (q1kn d) y1) h fun y5 h=>?_
  refine q8q (v:=y5.1) (by kernel_rfl) h ?_ ?_
  ·
   intro h
   refine q8m ?_
   refine q3pf hm hT hC (q1lg (q1kn d) y5) h fun y6 h=>?_
   refine q8q (v:=y6) (by kernel_rfl) h ?_ ?_
   ·
    intro h
    refine q3pf hm hT hC (q1li (q1kn d) y6) h fun y7 h=>?_
    refine q8l (q8a (q8a ?_))
    cases h
    exact (hend _ (by kernel_rfl)).2
   ·
    intro h
    refine q8i (q88 ?_)
    refine q3pf hm hT hC (q1lk (q1kn d) y6) h fun y8 h=>?_
    refine q8l (q8a ?_)
    cases h
    exact (hend _ (by kernel_rfl)).2
  ·
   intro h
   refine q8i (q88 ?_)
   refine q3pf hm hT hC (q1lm (q1kn d) y5) h fun y9 h=>?_
   refine q8l ?_
   cases h
   exact (hend _ (by kernel_rfl)).2
abbrev q1lp:List Pk:=[.row Rbuu true,.row Rbuu true]
abbrev q1lq:Type:=Dbuu×Dbuu×Unit
abbrev q1lr:Type:=Bool×Int×Int
def q1ls (r:q1lr):LV×List Ob:=(.agg [.bool r.1,.int .u64 r.2.1,.int .u64 r.2.2],[])
def q1lt (F:q1lq→Option q1lr):Go.Tx.Spec:=⟨110,q1lp,q1lr,F,q1ls⟩
abbrev q1lu:Type:=Unit
def q1lv (_d:Nat):q1lu:=()
def q1lw (C:q1lu):List Go.Tx.Spec:=[]
abbrev q1lx:Type:=Bool×Int×Int×Bool×Int×Int
def q1ly (v:q1lx):St:=⟨[(0,.agg [.bool v.1,u6 v.2.1,u6 v.2.2.1]),(1,.agg [.bool v.2.2.2.1,u6 v.2.2.2.2.1,u6 v.2.2.2.2.2])],[]⟩
abbrev q1lz:Type:=Bool×Int×Int×Bool×Int×Int×Bool×Int×Int
def q1m0 (v:q1lz):St:=⟨[(2,.ptr 0 0),(3,.ptr 1 0),(4,.ptr 2 0)],[.cells [.bool v.1,u6 v.2.1,u6 v.2.2.1],.cells [.bool v.2.2.2.1,u6 v.2.2.2.2.1,u6 v.2.2.2.2.2.1],.cells [.bool v.2.2.2.2.2.2.1,u6 v.2.2.2.2.2.2.2.1,u6 v.2.2.2.2.2.2.2.2]]⟩
def q1m1 (C:q1lu) (v:q1lx):Dt q1lz:=(Dt.ret (v.1,v.2.1,v.2.2.1,v.2.2.2.1,v.2.2.2.2.1,v.2.2.2.2.2,false,(0:Int),(0:Int)))
abbrev q3q3 {V Y:Type}:=@rg q1lu V Y tysT (fun C=>(orc (q1lw C))) 27
theorem q1m2 C v:q3q3 (regO (qdk f110) 0) false (an [2,3,4]) q1ly q1m1 q1m0 C v:=rgI (by kernel_rfl)
abbrev q1m3:Type:=Bool×Int×Int×Bool×Int×Int×Bool×Int×Int×Bool×Int×Int
def q1m4 (v:q1m3):St:=⟨[(2,.ptr 0 0),(3,.ptr 1 0),(4,.ptr 2 0),(5,.ptr 3 0)],[.cells [.bool v.1,u6 v.2.1,u6 v.2.2.1],.cells [.bool v.2.2.2.1,u6 v.2.2.2.2.1,u6 v.2.2.2.2.2.1],.cells [.bool v.2.2.2.2.2.2.1,u6 v.2.2.2.2.2.2.2.1,u6 v.2.2.2.2.2.2.2.2.1],.cells [.bool v.2.2.2.2.2.2.2.2.2.1,u6 v.2.2.2.2.2.2.2.2.2.2.1,u6 v.2.2.2.2.2.2.2.2.2.2.2]]⟩
def q1m5 (C:q1lu) (v:q1lz):Dt q1m3:=(Dt.ret (v.1,v.2.1,v.2.2.1,v.2.2.2.1,v.2.2.2.2.1,v.2.2.2.2.2.1,v.2.2.2.2.2.2.1,v.2.2.2.2.2.2.2.1,v.2.2.2.2.2.2.2.2,false,(IntKind.wrap .u64 (v.2.1 - v.2.2.2.2.1)),(IntKind.wrap .u64 (v.2.2.1 - v.2.2.2.2.2.1))))
theorem q1m6 C v:q3q3 (regO (qdk f110) 1) false (an [2,3,4,5]) q1m0 q1m5 q1m4 C v:=rgI (by kernel_rfl)
abbrev q1m7:Type:=Bool×Bool×Int×Int×Bool×Int×Int
def q1m8 (v:q1m7):St:=⟨[(4,.ptr 0 0),(5,.ptr 1 0),(21,.bool v.1)],[.cells [.bool v.2.1,u6 v.2.2.1,u6 v.2.2.2.1],.cells [.bool v.2.2.2.2.1,u6 v.2.2.2.2.2.1,u6 v.2.2.2.2.2.2]]⟩
def q1m9 (C:q1lu) (v:q1m3):Dt q1m7:=(Dt.ret ((decide (v.2.2.1<v.2.2.2.2.2.1)),v.2.2.2.2.2.2.1,v.2.2.2.2.2.2.2.1,v.2.2.2.2.2.2.2.2.1,v.2.2.2.2.2.2.2.2.2.1,v.2.2.2.2.2.2.2.2.2.2.1,v.2.2.2.2.2.2.2.2.2.2.2))
theorem q1ma C v:q3q3 (regO (qdk f110) 2) false (an [4,5,21]) q1m4 q1m9 q1m8 C v:=rgI (by kernel_rfl)
abbrev q1mb:Type:=Bool×Int×Int×Bool×Int×Int
def q1mc (v:q1mb):St:=⟨[(4,.ptr 0 0),(5,.ptr 1 0)],[.cells [.bool v.1,u6 v.2.1,u6 v.2.2.1],.cells [.bool v.2.2.2.1,u6 v.2.2.2.2.1,u6 v.2.2.2.2.2]]⟩
def q1md (C:q1lu) (v:q1m7):Dt q1mb:=(Dt.ret (v.2.1,v.2.2.1,v.2.2.2.1,v.2.2.2.2.1,(IntKind.wrap .u64 (v.2.2.2.2.2.1 - (1:Int))),v.2.2.2.2.2.2))
theorem q1me C v:q3q3 (regO (qdk f110) 3) false (an [4,5]) q1m8 q1md q1mc C v:=rgI (by kernel_rfl)
abbrev q1mf:Type:=Bool×Int×Int
def q1mg (v:q1mf):St:=⟨[(4,.ptr 0 0)],[.cells [.bool v.1,u6 v.2.1,u6 v.2.2]]⟩
def q1mh (C:q1lu) (v:q1mb):Dt q1mf:=(Dt.ret (v.2.2.2.1,v.2.2.2.2.1,v.2.2.2.2.2))
theorem q1mi C v:q3q3 (regO (qdk f110) 4) false [(4,.any)] q1mc q1mh q1mg C v:=rgI (by kernel_rfl)
def q1mj  (d:Nat)  (z:Bool×Int×Int×Bool×Int×Int):Option (q1lr) :=
 (q1mh (q1lv d) z).eval fun y4 =>
 some y4
def q1mk (d:Nat) (x:q1lq):Option q1lr :=
 (q1m1 (q1lv d) (x.1.1,x.1.2.1,x.1.2.2.1,x.2.1.1,x.2.1.2.1,x.2.1.2.2.1)).eval fun y0 =>
 (q1m5 (q1lv d) y0).eval fun y1 =>
 (q1m9 (q1lv d) y1).eval fun y2 =>
 bif y2.1 then ((q1md (q1lv d) y2).eval fun y3 =>
 q1mj d  y3) else (q1mj d  y2.2)
theorem q1ml (d:Nat):COK prog (q1lt (q1mk d)):=by
 have hm:prog.follows .mixedOrders=true:=mixed
 have hT:=tys
 have hC0:OrcOK prog (orc (q1lw (q1lv d))):=qde (by
  intro S hS
  simp only [q1lw,List.mem_cons,List.not_mem_nil,or_false] at hS
  all_goals first | cases hS | exact hS.elim)
 have hC:OrcOK prog (orc (q1lw (q1lv d))):=hC0
 refine q93 (c:=qdk f110) (fn:=f110) hT (by kernel_rfl) (by kernel_rfl) (by decide) fun x r h w0 φ0 Q hend=>?_
 replace h:q1mk d x=some r:=h
 unfold q1mk at h
 show Run prog w0 φ0 27 (qdk f110) ⟨[(0,.agg [.bool x.1.1,.int .u64 x.1.2.1,.int .u64 x.1.2.2.1]),(1,.agg [.bool x.2.1.1,.int .u64 x.2.1.2.1,.int .u64 x.2.1.2.2.1])],[]⟩ Q
 refine q3pf hm hT hC (q1m2 (q1lv d) (x.1.1,x.1.2.1,x.1.2.2.1,x.2.1.1,x.2.1.2.1,x.2.1.2.2.1)) h fun y0 h=>?_
 refine q3pf hm hT hC (q1m6 (q1lv d) y0) h fun y1 h=>?_
 refine q8p (r:=r) (F:=q1mj d ) (S:=(fun z=>⟨[(4,.ptr 0 0),(5,.ptr 1 0)],[.cells [.bool z.1,u6 z.2.1,u6 z.2.2.1],.cells [.bool z.2.2.2.1,u6 z.2.2.2.2.1,u6 z.2.2.2.2.2]]⟩:q1b3→St)) ?_ ?_
 ·
  intro z h
  unfold q1mj at h
  refine q3pf hm hT hC (q1mi (q1lv d) z) h fun y4 h=>?_
  refine q8l ?_
  cases h
  exact (hend _ (by kernel_rfl)).2
 intro hj1
 refine q3pf hm hT hC (q1ma (q1lv d) y1) h fun y2 h=>?_
 refine q8q (v:=y2.1) (by kernel_rfl) h ?_ ?_
 ·
  intro h
  refine q8r hm hT hC (q1me (q1lv d) y2) h ?_
  intro y3 h
  exact hj1 _ h
 ·
  intro h
  refine q8i ?_
  refine qdj (s:=⟨[(4,.ptr 0 0),(5,.ptr 1 0)],[.cells [.bool y2.2.1,.int .u64 y2.2.2.1,.int .u64 y2.2.2.2.1],.cells [.bool y2.2.2.2.2.1,.int .u64 y2.2.2.2.2.2.1,.int .u64 y2.2.2.2.2.2.2]]⟩) [21] (by kernel_rfl) ?_
  exact hj1 _ h
abbrev q1mm:List Pk:=[.row Rbuu true,.row Rbuu true]
abbrev q1mn:Type:=Dbuu×Dbuu×Unit
abbrev q1mo:Type:=Bool×Int×Int
def q1mp (r:q1mo):LV×List Ob:=(.agg [.bool r.1,.int .u64 r.2.1,.int .u64 r.2.2],[])
def q1mq (F:q1mn→Option q1mo):Go.Tx.Spec:=⟨81,q1mm,q1mo,F,q1mp⟩
abbrev q1mr:Type:=(q1ki→Option q1kj)×(q1lq→Option q1lr)×Unit
def q1ms (d:Nat):q1mr:=(q1ln d,q1mk d,())
def q1mt (C:q1mr):List Go.Tx.Spec:=[q1kl C.1,q1lt C.2.1]
abbrev q1mu:Type:=Bool×Int×Int×Bool×Int×Int
def q1mv (v:q1mu):St:=⟨[(0,.agg [.bool v.1,u6 v.2.1,u6 v.2.2.1]),(1,.agg [.bool v.2.2.2.1,u6 v.2.2.2.2.1,u6 v.2.2.2.2.2])],[]⟩
abbrev q1mw:Type:=Bool×Int×Int×Bool×Int×Int×Bool×Int×Int
def q1mx (v:q1mw):St:=⟨[(2,.ptr 0 0),(3,.ptr 1 0),(4,.ptr 2 0)],[.cells [.bool v.1,u6 v.2.1,u6 v.2.2.1],.cells [.bool v.2.2.2.1,u6 v.2.2.2.2.1,u6 v.2.2.2.2.2.1],.cells [.bool v.2.2.2.2.2.2.1,u6 v.2.2.2.2.2.2.2.1,u6 v.2.2.2.2.2.2.2.2]]⟩
def q1my (C:q1mr) (v:q1mu):Dt q1mw:=(Dt.ret (v.1,v.2.1,v.2.2.1,v.2.2.2.1,v.2.2.2.2.1,v.2.2.2.2.2,false,(0:Int),(0:Int)))
abbrev q3q4 {V Y:Type}:=@rg q1mr V Y tysT (fun C=>(orc (q1mt C))) 64
theorem q1mz C v:q3q4 (regO (qdk f81) 0) false (an [2,3,4]) q1mv q1my q1mx C v:=rgI (by kernel_rfl)
abbrev q1n0:Type:=Bool×Bool×Int×Int×Bool×Int×Int×Bool×Int×Int
def q1n1 (v:q1n0):St:=⟨[(2,.ptr 0 0),(3,.ptr 1 0),(4,.ptr 2 0),(12,.bool v.1)],[.cells [.bool v.2.1,u6 v.2.2.1,u6 v.2.2.2.1],.cells [.bool v.2.2.2.2.1,u6 v.2.2.2.2.2.1,u6 v.2.2.2.2.2.2.1],.cells [.bool v.2.2.2.2.2.2.2.1,u6 v.2.2.2.2.2.2.2.2.1,u6 v.2.2.2.2.2.2.2.2.2]]⟩
def q1n2 (C:q1mr) (v:q1mw):Dt q1n0:=(Dt.ret ((v.1 == v.2.2.2.1),v.1,v.2.1,v.2.2.1,v.2.2.2.1,v.2.2.2.2.1,v.2.2.2.2.2.1,v.2.2.2.2.2.2.1,v.2.2.2.2.2.2.2.1,v.2.2.2.2.2.2.2.2))
theorem q1n3 C v:q3q4 (regO (qdk f81) 1) false (an [2,3,4,12]) q1mx q1n2 q1n1 C v:=rgI (by kernel_rfl)
abbrev q1n4:Type:=Bool×Int×Int×Bool×Int×Int×Bool×Int×Int
def q1n5 (v:q1n4):St:=⟨[(2,.ptr 0 0),(4,.ptr 1 0),(5,.ptr 2 0)],[.cells [.bool v.1,u6 v.2.1,u6 v.2.2.1],.cells [.bool v.2.2.2.1,u6 v.2.2.2.2.1,u6 v.2.2.2.2.2.1],.cells [.bool v.2.2.2.2.2.2.1,u6 v.2.2.2.2.2.2.2.1,u6 v.2.2.2.2.2.2.2.2]]⟩
def q1n6 (C:q1mr) (v:q1n0):Dt q1n4:=(Dt.ret (v.2.1,v.2.2.1,v.2.2.2.1,v.2.2.2.2.2.2.2.1,v.2.2.2.2.2.2.2.2.1,v.2.2.2.2.2.2.2.2.2,v.2.1,(IntKind.wrap .u64 (v.2.2.1+v.2.2.2.2.2.1)),(IntKind.wrap .u64 (v.2.2.2.1+v.2.2.2.2.2.2.1))))
theorem q1n7 C v:q3q4 (regO (qdk f81) 2) false (an [2,4,5]) q1n1 q1n6 q1n5 C v:=rgI (by kernel_rfl)
abbrev q1n8:Type:=Bool×Bool×Int×Int×Bool×Int×Int
def q1n9 (v:q1n8):St:=⟨[(4,.ptr 0 0),(5,.ptr 1 0),(30,.bool v.1)],[.cells [.bool v.2.1,u6 v.2.2.1,u6 v.2.2.2.1],.cells [.bool v.2.2.2.2.1,u6 v.2.2.2.2.2.1,u6 v.2.2.2.2.2.2]]⟩
def q1na (C:q1mr) (v:q1n4):Dt q1n8:=(Dt.ret ((decide (v.2.2.2.2.2.2.2.2<v.2.2.1)),v.2.2.2.1,v.2.2.2.2.1,v.2.2.2.2.2.1,v.2.2.2.2.2.2.1,v.2.2.2.2.2.2.2.1,v.2.2.2.2.2.2.2.2))
theorem q1nb C v:q3q4 (regO (qdk f81) 3) false (an [4,5,30]) q1n5 q1na q1n9 C v:=rgI (by kernel_rfl)
abbrev q1nc:Type:=Bool×Int×Int×Bool×Int×Int
def q1nd (v:q1nc):St:=⟨[(4,.ptr 0 0),(5,.ptr 1 0)],[.cells [.bool v.1,u6 v.2.1,u6 v.2.2.1],.cells [.bool v.2.2.2.1,u6 v.2.2.2.2.1,u6 v.2.2.2.2.2]]⟩
def q1ne (C:q1mr) (v:q1n8):Dt q1nc:=(Dt.ret (v.2.1,v.2.2.1,v.2.2.2.1,v.2.2.2.2.1,(IntKind.wrap .u64 (v.2.2.2.2.2.1+(1:Int))),v.2.2.2.2.2.2))
theorem q1nf C v:q3q4 (regO (qdk f81) 4) false (an [4,5]) q1n9 q1ne q1nd C v:=rgI (by kernel_rfl)
abbrev q1ng:Type:=Bool×Int×Int
def q1nh (v:q1ng):St:=⟨[(4,.ptr 0 0)],[.cells [.bool v.1,u6 v.2.1,u6 v.2.2]]⟩
def q1ni (C:q1mr) (v:q1nc):Dt q1ng:=(Dt.ret (v.2.2.2.1,v.2.2.2.2.1,v.2.2.2.2.2))
theorem q1nj C v:q3q4 (regO (qdk f81) 5) false [(4,.any)] q1nd q1ni q1nh C v:=rgI (by kernel_rfl)
def q1nk  (d:Nat)  (z:Bool×Int×Int×Bool×Int×Int):Option (q1mo) :=
 (q1ni (q1ms d) z).eval fun y5 =>
 some y5
abbrev q1nl:Type:=Bool×Bool×Int×Int×Bool×Int×Int×Bool×Int×Int
def q1nm (v:q1nl):St:=⟨[(2,.ptr 0 0),(3,.ptr 1 0),(4,.ptr 2 0),(39,.bool v.1)],[.cells [.bool v.2.1,u6 v.2.2.1,u6 v.2.2.2.1],.cells [.bool v.2.2.2.2.1,u6 v.2.2.2.2.2.1,u6 v.2.2.2.2.2.2.1],.cells [.bool v.2.2.2.2.2.2.2.1,u6 v.2.2.2.2.2.2.2.2.1,u6 v.2.2.2.2.2.2.2.2.2]]⟩
def q1nn (C:q1mr) (v:q1n0):Dt q1nl:=(Dt.bnd (C.1 ((v.2.1,v.2.2.1,v.2.2.2.1,()),(v.2.2.2.2.1,v.2.2.2.2.2.1,v.2.2.2.2.2.2.1,()),())) fun r1=>(Dt.ret ((decide (r1≥(0:Int))),v.2.1,v.2.2.1,v.2.2.2.1,v.2.2.2.2.1,v.2.2.2.2.2.1,v.2.2.2.2.2.2.1,v.2.2.2.2.2.2.2.1,v.2.2.2.2.2.2.2.2.1,v.2.2.2.2.2.2.2.2.2)))
theorem q1no C v:q3q4 (regO (qdk f81) 6) false (an [2,3,4,39]) q1n1 q1nn q1nm C v:=rgI (by kernel_rfl)
abbrev q1np:Type:=Bool×Int×Int×Bool×Int×Int×Bool×Int×Int
def q1nq (v:q1np):St:=⟨[(2,.ptr 0 0),(4,.ptr 1 0),(6,.ptr 2 0)],[.cells [.bool v.1,u6 v.2.1,u6 v.2.2.1],.cells [.bool v.2.2.2.1,u6 v.2.2.2.2.1,u6 v.2.2.2.2.2.1],.cells [.bool v.2.2.2.2.2.2.1,u6 v.2.2.2.2.2.2.2.1,u6 v.2.2.2.2.2.2.2.2]]⟩
def q1nr (C:q1mr) (v:q1nl):Dt q1np:=(Dt.bnd (C.2.1 ((v.2.1,v.2.2.1,v.2.2.2.1,()),(v.2.2.2.2.1,v.2.2.2.2.2.1,v.2.2.2.2.2.2.1,()),())) fun r1=>(Dt.ret (v.2.1,v.2.2.1,v.2.2.2.1,v.2.2.2.2.2.2.2.1,v.2.2.2.2.2.2.2.2.1,v.2.2.2.2.2.2.2.2.2,r1.1,r1.2.1,r1.2.2)))
theorem q1ns C v:q3q4 (regO (qdk f81) 7) false (an [2,4,6]) q1nm q1nr q1nq C v:=rgI (by kernel_rfl)
abbrev q1nt:Type:=Bool×Int×Int×Bool×Int×Int
def q1nu (v:q1nt):St:=⟨[(4,.ptr 0 0),(6,.ptr 1 0)],[.cells [.bool v.1,u6 v.2.1,u6 v.2.2.1],.cells [.bool v.2.2.2.1,u6 v.2.2.2.2.1,u6 v.2.2.2.2.2]]⟩
def q1nv (C:q1mr) (v:q1np):Dt q1nt:=(Dt.ite v.1 (Dt.ite (decide (v.2.2.2.2.2.2.2.1 > (0:Int))) (Dt.ret (v.2.2.2.1,v.2.2.2.2.1,v.2.2.2.2.2.1,true,v.2.2.2.2.2.2.2.1,v.2.2.2.2.2.2.2.2)) (Dt.ret (v.2.2.2.1,v.2.2.2.2.1,v.2.2.2.2.2.1,(decide (v.2.2.2.2.2.2.2.2 > (0:Int))),v.2.2.2.2.2.2.2.1,v.2.2.2.2.2.2.2.2))) (Dt.ret (v.2.2.2.1,v.2.2.2.2.1,v.2.2.2.2.2.1,false,v.2.2.2.2.2.2.2.1,v.2.2.2.2.2.2.2.2)))
theorem q1nw C v:q3q4 (regO (qdk f81) 8) false (an [4,6]) q1nq q1nv q1nu C v:=rgI (by kernel_rfl)
def q1nx (C:q1mr) (v:q1nt):Dt q1ng:=(Dt.ret (v.2.2.2.1,v.2.2.2.2.1,v.2.2.2.2.2))
theorem q1ny C v:q3q4 (regO (qdk f81) 9) false [(4,.any)] q1nu q1nx q1nh C v:=rgI (by kernel_rfl)
abbrev q1nz:Type:=Bool×Int×Int×Bool×Int×Int×Bool×Int×Int
def q1o0 (v:q1nz):St:=⟨[(3,.ptr 0 0),(4,.ptr 1 0),(7,.ptr 2 0)],[.cells [.bool v.1,u6 v.2.1,u6 v.2.2.1],.cells [.bool v.2.2.2.1,u6 v.2.2.2.2.1,u6 v.2.2.2.2.2.1],.cells [.bool v.2.2.2.2.2.2.1,u6 v.2.2.2.2.2.2.2.1,u6 v.2.2.2.2.2.2.2.2]]⟩
def q1o1 (C:q1mr) (v:q1nl):Dt q1nz:=(Dt.bnd (C.2.1 ((v.2.2.2.2.1,v.2.2.2.2.2.1,v.2.2.2.2.2.2.1,()),(v.2.1,v.2.2.1,v.2.2.2.1,()),())) fun r1=>(Dt.ret (v.2.2.2.2.1,v.2.2.2.2.2.1,v.2.2.2.2.2.2.1,v.2.2.2.2.2.2.2.1,v.2.2.2.2.2.2.2.2.1,v.2.2.2.2.2.2.2.2.2,r1.1,r1.2.1,r1.2.2)))
theorem q1o2 C v:q3q4 (regO (qdk f81) 10) false (an [3,4,7]) q1nm q1o1 q1o0 C v:=rgI (by kernel_rfl)
abbrev q1o3:Type:=Bool×Int×Int×Bool×Int×Int
def q1o4 (v:q1o3):St:=⟨[(4,.ptr 0 0),(7,.ptr 1 0)],[.cells [.bool v.1,u6 v.2.1,u6 v.2.2.1],.cells [.bool v.2.2.2.1,u6 v.2.2.2.2.1,u6 v.2.2.2.2.2]]⟩
def q1o5 (C:q1mr) (v:q1nz):Dt q1o3:=(Dt.ret (v.2.2.2.1,v.2.2.2.2.1,v.2.2.2.2.2.1,v.1,v.2.2.2.2.2.2.2.1,v.2.2.2.2.2.2.2.2))
theorem q1o6 C v:q3q4 (regO (qdk f81) 11) false (an [4,7]) q1o0 q1o5 q1o4 C v:=rgI (by kernel_rfl)
def q1o7 (C:q1mr) (v:q1o3):Dt q1ng:=(Dt.ret (v.2.2.2.1,v.2.2.2.2.1,v.2.2.2.2.2))
theorem q1o8 C v:q3q4 (regO (qdk f81) 12) false [(4,.any)] q1o4 q1o7 q1nh C v:=rgI (by kernel_rfl)
def q1o9 (d:Nat) (x:q1mn):Option q1mo :=
 (q1my (q1ms d) (x.1.1,x.1.2.1,x.1.2.2.1,x.2.1.1,x.2.1.2.1,x.2.1.2.2.1)).eval fun y0 =>
 (q1n2 (q1ms d) y0).eval fun y1 =>
 bif y1.1 then ((q1n6 (q1ms d) y1).eval fun y2 =>
 (q1na (q1ms d) y2).eval fun y3 =>
 bif y3.1 then ((q1ne (q1ms d) y3).eval fun y4 =>
 q1nk d  y4) else (q1nk d  y3.2)) else ((q1nn (q1ms d) y1).eval fun y6 =>
 bif y6.1 then ((q1nr (q1ms d) y6).eval fun y7 =>
 (q1nv (q1ms d) y7).eval fun y8 =>
 (q1nx (q1ms d) y8).eval fun y9 =>
 some y9) else ((q1o1 (q1ms d) y6).eval fun y10 =>
 (q1o5 (q1ms d) y10).eval fun y11 =>
 (q1o7 (q1ms d) y11).eval fun y12 =>
 some y12))
theorem q1oa (d:Nat):COK prog (q1mq (q1o9 d)):=by
 have hm:prog.follows .mixedOrders=true:=mixed
 have hT:=tys
 have hC0:OrcOK prog (orc (q1mt (q1ms d))):=qde (by
  intro S hS
  simp only [q1mt,List.mem_cons,List.not_mem_nil,or_false] at hS
  rcases hS with rfl | rfl
  · exact q1lo d
  · exact q1ml d)
 have hC:OrcOK prog (orc (q1mt (q1ms d))):=hC0
 refine q93 (c:=qdk f81) (fn:=f81) hT (by kernel_rfl) (by kernel_rfl) (by decide) fun x r h w0 φ0 Q hend=>?_
 replace h:q1o9 d x=some r:=h
 unfold q1o9 at h
 show Run prog w0 φ0 64 (qdk f81) ⟨[(0,.agg [.bool x.1.1,.int .u64 x.1.2.1,.int .u64 x.1.2.2.1]),(1,.agg [.bool x.2.1.1,.int .u64 x.2.1.2.1,.int .u64 x.2.1.2.2.1])],[]⟩ Q
 refine q3pf hm hT hC (q1mz (q1ms d) (x.1.1,x.1.2.1,x.1.2.2.1,x.2.1.1,x.2.1.2.1,x.2.1.2.2.1)) h fun y0 h=>?_
 refine q8m ?_
 refine q3pf hm hT hC (q1n3 (q1ms d) y0) h fun y1 h=>?_
 refine q8q (v:=y1.1) (by kernel_rfl) h ?_ ?_
 ·
  intro h
  refine q3pf hm hT hC (q1n7 (q1ms d) y1) h fun y2 h=>?_
  refine q8p (r:=r) (F:=q1nk d ) (S:=(fun z=>⟨[(4,.ptr 0 0),(5,.ptr 1 0)],[.cells [.bool z.1,u6 z.2.1,u6 z.2.2.1],.cells [.bool z.2.2.2.1,u6 z.2.2.2.2.1,u6 z.2.2.2.2.2]]⟩:q1b3→St)) ?_ ?_
  ·
   intro z h
   unfold q1nk at h
   refine q3pf hm hT hC (q1nj (q1ms d) z) h fun y5 h=>?_
   refine q8l (q8a ?_)
   cases h
   exact (hend _ (by kernel_rfl)).2
  intro hj1
  refine q3pf hm hT hC (q1nb (q1ms d) y2) h fun y3 h=>?_
  refine q8q (v:=y3.1) (by kernel_rfl) h ?_ ?_
  ·
   intro h
   refine q8r hm hT hC (q1nf (q1ms d) y3) h ?_
   intro y4 h
   exact hj1 _ h
  ·
   intro h
   refine q8i ?_
   refine qdj (s:=⟨[(4,.ptr 0 0),(5,.ptr 1 0)],[.cells [.bool y3.2.1,.int .u64 y3.2.2.1,.int .u64 y3.2.2.2.1],.cells [.bool y3.2.2.2.2.1,.int .u64 y3.2.2.2.2.2.1,.int .u64 y3.2.2.2.2.2.2]]⟩) [30] (by kernel_rfl) ?_
   exact hj1 _ h
 ·
  intro h
  refine q8i (q88 (q8m ?_))
  refine q3pf hm hT hC (q1no (q1ms d) y1) h fun y6 h=>?_
  refine q8q (v:=y6.1) (by kernel_rfl) h ?_ ?_
  ·
   intro h
   refine q3pf hm hT hC (q1ns (q1ms d) y6) h fun y7 h=>?_
   refine q3pf hm hT hC (q1nw (q1ms d) y7) h fun y8 h=>?_
   refine q3pf hm hT hC (q1ny (q1ms d) y8) h fun y9 h=>?_
   refine q8l (q8a ?_)
   cases h
   exact (hend _ (by kernel_rfl)).2
  ·
   intro h
   refine q8i (q88 ?_)
   refine q3pf hm hT hC (q1o2 (q1ms d) y6) h fun y10 h=>?_
   refine q3pf hm hT hC (q1o6 (q1ms d) y10) h fun y11 h=>?_
   refine q3pf hm hT hC (q1o8 (q1ms d) y11) h fun y12 h=>?_
   refine q8l ?_
   cases h
   exact (hend _ (by kernel_rfl)).2
abbrev q1ob:List Pk:=[.row Rbuu true,.row Ru false]
abbrev q1oc:Type:=Dbuu×Du×Unit
abbrev q1od:Type:=Bool×Int×Int×Int
def q1oe (r:q1od):LV×List Ob:=(.tup [.agg [.bool r.1,.int .u64 r.2.1,.int .u64 r.2.2.1],.int .u64 r.2.2.2],[])
def q1of (F:q1oc→Option q1od):Go.Tx.Spec:=⟨109,q1ob,q1od,F,q1oe⟩
abbrev q1og:Type:=Unit
def q1oh (_d:Nat):q1og:=()
def q1oi (C:q1og):List Go.Tx.Spec:=[]
abbrev q1oj:Type:=Bool×Int×Int×Int
def q1ok (v:q1oj):St:=⟨[(0,.agg [.bool v.1,u6 v.2.1,u6 v.2.2.1]),(1,u6 v.2.2.2)],[]⟩
abbrev q1ol:Type:=Int×Bool×Int×Int×Bool×Int×Int
def q1om (v:q1ol):St:=⟨[(1,u6 v.1),(2,.ptr 0 0),(4,.ptr 1 0)],[.cells [.bool v.2.1,u6 v.2.2.1,u6 v.2.2.2.1],.cells [.bool v.2.2.2.2.1,u6 v.2.2.2.2.2.1,u6 v.2.2.2.2.2.2]]⟩
def q1on (C:q1og) (v:q1oj):Dt q1ol:=(Dt.ret (v.2.2.2,v.1,v.2.1,v.2.2.1,false,(0:Int),(0:Int)))
abbrev q3q5 {V Y:Type}:=@rg q1og V Y tysT (fun C=>(orc (q1oi C))) 54
theorem q1oo C v:q3q5 (regO (qdk f109) 0) false (an [1,2,4]) q1ok q1on q1om C v:=rgI (by kernel_rfl)
abbrev q1op:Type:=Int×Bool×Int×Int×Bool×Int×Int×Bool×Int×Int
def q1oq (v:q1op):St:=⟨[(1,u6 v.1),(2,.ptr 0 0),(4,.ptr 1 0),(6,.ptr 2 0)],[.cells [.bool v.2.1,u6 v.2.2.1,u6 v.2.2.2.1],.cells [.bool v.2.2.2.2.1,u6 v.2.2.2.2.2.1,u6 v.2.2.2.2.2.2.1],.cells [.bool v.2.2.2.2.2.2.2.1,u6 v.2.2.2.2.2.2.2.2.1,u6 v.2.2.2.2.2.2.2.2.2]]⟩
def q1or (C:q1og) (v:q1ol):Dt q1op:=(Dt.ret (v.1,v.2.1,v.2.2.1,v.2.2.2.1,v.2.2.2.2.1,v.2.2.2.2.2.1,v.2.2.2.2.2.2,false,(0:Int),(0:Int)))
theorem q1os C v:q3q5 (regO (qdk f109) 1) false (an [1,2,4,6]) q1om q1or q1oq C v:=rgI (by kernel_rfl)
abbrev q1ot:Type:=Int×Int×Bool×Int×Int×Bool×Int×Int×Bool×Int×Int
def q1ou (v:q1ot):St:=⟨[(1,u6 v.1),(2,.ptr 0 0),(4,.ptr 1 0),(6,.ptr 2 0),(7,u6 v.2.1)],[.cells [.bool v.2.2.1,u6 v.2.2.2.1,u6 v.2.2.2.2.1],.cells [.bool v.2.2.2.2.2.1,u6 v.2.2.2.2.2.2.1,u6 v.2.2.2.2.2.2.2.1],.cells [.bool v.2.2.2.2.2.2.2.2.1,u6 v.2.2.2.2.2.2.2.2.2.1,u6 v.2.2.2.2.2.2.2.2.2.2]]⟩
def q1ov (C:q1og) (v:q1op):Dt q1ot:=(Dt.ret (v.1,(0:Int),v.2.1,v.2.2.1,v.2.2.2.1,v.2.2.2.2.1,v.2.2.2.2.2.1,v.2.2.2.2.2.2.1,v.2.2.2.2.2.2.2.1,v.2.2.2.2.2.2.2.2.1,v.2.2.2.2.2.2.2.2.2))
theorem q1ow C v:q3q5 (regO (qdk f109) 2) false (an [1,2,4,6,7]) q1oq q1ov q1ou C v:=rgI (by kernel_rfl)
abbrev q1ox:Type:=Int×Int×Int×Bool×Int×Int×Bool×Int×Int×Bool×Int×Int
def q1oy (v:q1ox):St:=⟨[(1,u6 v.1),(2,.ptr 0 0),(4,.ptr 1 0),(6,.ptr 2 0),(7,u6 v.2.1),(8,i6 v.2.2.1)],[.cells [.bool v.2.2.2.1,u6 v.2.2.2.2.1,u6 v.2.2.2.2.2.1],.cells [.bool v.2.2.2.2.2.2.1,u6 v.2.2.2.2.2.2.2.1,u6 v.2.2.2.2.2.2.2.2.1],.cells [.bool v.2.2.2.2.2.2.2.2.2.1,u6 v.2.2.2.2.2.2.2.2.2.2.1,u6 v.2.2.2.2.2.2.2.2.2.2.2]]⟩
def q1oz (C:q1og) (v:q1ot):Dt q1ox:=(Dt.ret (v.1,v.2.1,(127:Int),v.2.2.1,v.2.2.2.1,v.2.2.2.2.1,v.2.2.2.2.2.1,v.2.2.2.2.2.2.1,v.2.2.2.2.2.2.2.1,v.2.2.2.2.2.2.2.2.1,v.2.2.2.2.2.2.2.2.2.1,v.2.2.2.2.2.2.2.2.2.2))
theorem q1p0 C v:q3q5 (regO (qdk f109) 3) false (an [1,2,4,6,7,8]) q1ou q1oz q1oy C v:=rgI (by kernel_rfl)
abbrev q1p1:Type:=Int×Int×Int×Bool×Bool×Int×Int×Bool×Int×Int×Bool×Int×Int
def q1p2 (v:q1p1):St:=⟨[(1,u6 v.1),(2,.ptr 0 0),(4,.ptr 1 0),(6,.ptr 2 0),(7,u6 v.2.1),(8,i6 v.2.2.1),(11,.bool v.2.2.2.1)],[.cells [.bool v.2.2.2.2.1,u6 v.2.2.2.2.2.1,u6 v.2.2.2.2.2.2.1],.cells [.bool v.2.2.2.2.2.2.2.1,u6 v.2.2.2.2.2.2.2.2.1,u6 v.2.2.2.2.2.2.2.2.2.1],.cells [.bool v.2.2.2.2.2.2.2.2.2.2.1,u6 v.2.2.2.2.2.2.2.2.2.2.2.1,u6 v.2.2.2.2.2.2.2.2.2.2.2.2]]⟩
def q1p3 (C:q1og) (v:q1ox):Dt q1p1:=(Dt.ret (v.1,v.2.1,v.2.2.1,(decide (v.2.2.1≥(0:Int))),v.2.2.2.1,v.2.2.2.2.1,v.2.2.2.2.2.1,v.2.2.2.2.2.2.1,v.2.2.2.2.2.2.2.1,v.2.2.2.2.2.2.2.2.1,v.2.2.2.2.2.2.2.2.2.1,v.2.2.2.2.2.2.2.2.2.2.1,v.2.2.2.2.2.2.2.2.2.2.2))
theorem q1p4 C v:q3q5 (regO (qdk f109) 4) false (an [1,2,4,6,7,8,11]) q1oy q1p3 q1p2 C v:=rgI (by kernel_rfl)
abbrev q1p5:Type:=Int×Int×Int×Int×Bool×Int×Int×Bool×Int×Int×Bool×Int×Int
def q1p6 (v:q1p5):St:=⟨[(1,u6 v.1),(2,.ptr 0 0),(4,.ptr 1 0),(6,.ptr 2 0),(7,u6 v.2.1),(8,i6 v.2.2.1),(9,u6 v.2.2.2.1)],[.cells [.bool v.2.2.2.2.1,u6 v.2.2.2.2.2.1,u6 v.2.2.2.2.2.2.1],.cells [.bool v.2.2.2.2.2.2.2.1,u6 v.2.2.2.2.2.2.2.2.1,u6 v.2.2.2.2.2.2.2.2.2.1],.cells [.bool v.2.2.2.2.2.2.2.2.2.2.1,u6 v.2.2.2.2.2.2.2.2.2.2.2.1,u6 v.2.2.2.2.2.2.2.2.2.2.2.2]]⟩
def q1p7 (C:q1og) (v:q1p1):Dt q1p5:=(Dt.ite (decide (v.2.2.1<0)) Dt.fail (Dt.ret (v.1,v.2.1,v.2.2.1,(andI .u64 (shrI .u64 v.2.2.2.2.2.2.1 v.2.2.1) (1:Int)),v.2.2.2.2.1,v.2.2.2.2.2.1,v.2.2.2.2.2.2.1,v.2.2.2.2.2.2.2.1,v.2.2.2.2.2.2.2.2.1,v.2.2.2.2.2.2.2.2.2.1,v.2.2.2.2.2.2.2.2.2.2.1,v.2.2.2.2.2.2.2.2.2.2.2.1,v.2.2.2.2.2.2.2.2.2.2.2.2)))
theorem q1p8 C v:q3q5 (regO (qdk f109) 6) false (an [1,2,4,6,7,8,9]) q1p2 q1p7 q1p6 C v:=rgI (by kernel_rfl)
abbrev q1p9:Type:=Int×Int×Int×Int×Bool×Bool×Int×Int×Bool×Int×Int×Bool×Int×Int
def q1pa (v:q1p9):St:=⟨[(1,u6 v.1),(2,.ptr 0 0),(4,.ptr 1 0),(6,.ptr 2 0),(7,u6 v.2.1),(8,i6 v.2.2.1),(9,u6 v.2.2.2.1),(20,.bool v.2.2.2.2.1)],[.cells [.bool v.2.2.2.2.2.1,u6 v.2.2.2.2.2.2.1,u6 v.2.2.2.2.2.2.2.1],.cells [.bool v.2.2.2.2.2.2.2.2.1,u6 v.2.2.2.2.2.2.2.2.2.1,u6 v.2.2.2.2.2.2.2.2.2.2.1],.cells [.bool v.2.2.2.2.2.2.2.2.2.2.2.1,u6 v.2.2.2.2.2.2.2.2.2.2.2.2.1,u6 v.2.2.2.2.2.2.2.2.2.2.2.2.2]]⟩
def q1pb (C:q1og) (v:q1p5):Dt q1p9:=(Dt.ret (v.1,v.2.1,v.2.2.1,v.2.2.2.1,(decide (v.2.2.1≥(64:Int))),v.2.2.2.2.1,v.2.2.2.2.2.1,v.2.2.2.2.2.2.1,v.2.2.2.2.2.2.2.1,v.2.2.2.2.2.2.2.2.1,v.2.2.2.2.2.2.2.2.2.1,v.2.2.2.2.2.2.2.2.2.2.1,v.2.2.2.2.2.2.2.2.2.2.2.1,v.2.2.2.2.2.2.2.2.2.2.2.2))
theorem q1pc C v:q3q5 (regO (qdk f109) 7) false (an [1,2,4,6,7,8,9,20]) q1p6 q1pb q1pa C v:=rgI (by kernel_rfl)
def q1pd (C:q1og) (v:q1p9):Dt q1p5:=(Dt.ite (decide ((IntKind.wrap .i64 (v.2.2.1 - (64:Int)))<0)) Dt.fail (Dt.ret (v.1,v.2.1,v.2.2.1,(andI .u64 (shrI .u64 v.2.2.2.2.2.2.1 (IntKind.wrap .i64 (v.2.2.1 - (64:Int)))) (1:Int)),v.2.2.2.2.2.1,v.2.2.2.2.2.2.1,v.2.2.2.2.2.2.2.1,v.2.2.2.2.2.2.2.2.1,v.2.2.2.2.2.2.2.2.2.1,v.2.2.2.2.2.2.2.2.2.2.1,v.2.2.2.2.2.2.2.2.2.2.2.1,v.2.2.2.2.2.2.2.2.2.2.2.2.1,v.2.2.2.2.2.2.2.2.2.2.2.2.2)))
theorem q1pe C v:q3q5 (regO (qdk f109) 8) false (an [1,2,4,6,7,8,9]) q1pa q1pd q1p6 C v:=rgI (by kernel_rfl)
def q1pf (C:q1og) (v:q1p5):Dt q1ox:=(Dt.ret (v.1,(IntKind.wrap .u64 ((IntKind.wrap .u64 ((2:Int)*v.2.1))+v.2.2.2.1)),v.2.2.1,v.2.2.2.2.1,v.2.2.2.2.2.1,v.2.2.2.2.2.2.1,v.2.2.2.2.2.2.2.1,v.2.2.2.2.2.2.2.2.1,v.2.2.2.2.2.2.2.2.2.1,v.2.2.2.2.2.2.2.2.2.2.1,v.2.2.2.2.2.2.2.2.2.2.2.1,v.2.2.2.2.2.2.2.2.2.2.2.2))
theorem q1pg C v:q3q5 (regO (qdk f109) 9) false (an [1,2,4,6,7,8]) q1p6 q1pf q1oy C v:=rgI (by kernel_rfl)
abbrev q1ph:Type:=Int×Int×Int×Bool×Bool×Int×Int×Bool×Int×Int×Bool×Int×Int
def q1pi (v:q1ph):St:=⟨[(1,u6 v.1),(2,.ptr 0 0),(4,.ptr 1 0),(6,.ptr 2 0),(7,u6 v.2.1),(8,i6 v.2.2.1),(33,.bool v.2.2.2.1)],[.cells [.bool v.2.2.2.2.1,u6 v.2.2.2.2.2.1,u6 v.2.2.2.2.2.2.1],.cells [.bool v.2.2.2.2.2.2.2.1,u6 v.2.2.2.2.2.2.2.2.1,u6 v.2.2.2.2.2.2.2.2.2.1],.cells [.bool v.2.2.2.2.2.2.2.2.2.2.1,u6 v.2.2.2.2.2.2.2.2.2.2.2.1,u6 v.2.2.2.2.2.2.2.2.2.2.2.2]]⟩
def q1pj (C:q1og) (v:q1ox):Dt q1ph:=(Dt.ret (v.1,v.2.1,v.2.2.1,(decide (v.2.1≥v.1)),v.2.2.2.1,v.2.2.2.2.1,v.2.2.2.2.2.1,v.2.2.2.2.2.2.1,v.2.2.2.2.2.2.2.1,v.2.2.2.2.2.2.2.2.1,v.2.2.2.2.2.2.2.2.2.1,v.2.2.2.2.2.2.2.2.2.2.1,v.2.2.2.2.2.2.2.2.2.2.2))
theorem q1pk C v:q3q5 (regO (qdk f109) 10) false (an [1,2,4,6,7,8,33]) q1oy q1pj q1pi C v:=rgI (by kernel_rfl)
def q1pl (C:q1og) (v:q1ph):Dt q1ox:=(Dt.ret (v.1,(IntKind.wrap .u64 (v.2.1 - v.1)),v.2.2.1,v.2.2.2.2.1,v.2.2.2.2.2.1,v.2.2.2.2.2.2.1,v.2.2.2.2.2.2.2.1,v.2.2.2.2.2.2.2.2.1,v.2.2.2.2.2.2.2.2.2.1,v.2.2.2.2.2.2.2.2.2.2.1,v.2.2.2.2.2.2.2.2.2.2.2.1,v.2.2.2.2.2.2.2.2.2.2.2.2))
theorem q1pm C v:q3q5 (regO (qdk f109) 11) false (an [1,2,4,6,7,8]) q1pi q1pl q1oy C v:=rgI (by kernel_rfl)
abbrev q1pn:Type:=Int×Int×Int×Bool×Bool×Int×Int×Bool×Int×Int×Bool×Int×Int
def q1po (v:q1pn):St:=⟨[(1,u6 v.1),(2,.ptr 0 0),(4,.ptr 1 0),(6,.ptr 2 0),(7,u6 v.2.1),(8,i6 v.2.2.1),(38,.bool v.2.2.2.1)],[.cells [.bool v.2.2.2.2.1,u6 v.2.2.2.2.2.1,u6 v.2.2.2.2.2.2.1],.cells [.bool v.2.2.2.2.2.2.2.1,u6 v.2.2.2.2.2.2.2.2.1,u6 v.2.2.2.2.2.2.2.2.2.1],.cells [.bool v.2.2.2.2.2.2.2.2.2.2.1,u6 v.2.2.2.2.2.2.2.2.2.2.2.1,u6 v.2.2.2.2.2.2.2.2.2.2.2.2]]⟩
def q1pp (C:q1og) (v:q1ox):Dt q1pn:=(Dt.ret (v.1,v.2.1,v.2.2.1,(decide (v.2.2.1≥(64:Int))),v.2.2.2.1,v.2.2.2.2.1,v.2.2.2.2.2.1,v.2.2.2.2.2.2.1,v.2.2.2.2.2.2.2.1,v.2.2.2.2.2.2.2.2.1,v.2.2.2.2.2.2.2.2.2.1,v.2.2.2.2.2.2.2.2.2.2.1,v.2.2.2.2.2.2.2.2.2.2.2))
theorem q1pq C v:q3q5 (regO (qdk f109) 12) false (an [1,2,4,6,7,8,38]) q1oy q1pp q1po C v:=rgI (by kernel_rfl)
def q1pr (C:q1og) (v:q1pn):Dt q1ox:=(Dt.ite (decide ((IntKind.wrap .i64 (v.2.2.1 - (64:Int)))<0)) Dt.fail (Dt.ret (v.1,v.2.1,v.2.2.1,v.2.2.2.2.1,v.2.2.2.2.2.1,v.2.2.2.2.2.2.1,v.2.2.2.2.2.2.2.1,v.2.2.2.2.2.2.2.2.1,v.2.2.2.2.2.2.2.2.2.1,v.2.2.2.2.2.2.2.2.2.2.1,(orI .u64 v.2.2.2.2.2.2.2.2.2.2.2.1 (shlI .u64 (1:Int) (IntKind.wrap .i64 (v.2.2.1 - (64:Int))))),v.2.2.2.2.2.2.2.2.2.2.2.2)))
theorem q1ps C v:q3q5 (regO (qdk f109) 13) true (an [1,2,4,6,7,8]) q1po q1pr q1oy C v:=rgI (by kernel_rfl)
def q1pt (C:q1og) (v:q1ox):Dt q1ox:=(Dt.ret (v.1,v.2.1,(IntKind.wrap .i64 (v.2.2.1 - (1:Int))),v.2.2.2.1,v.2.2.2.2.1,v.2.2.2.2.2.1,v.2.2.2.2.2.2.1,v.2.2.2.2.2.2.2.1,v.2.2.2.2.2.2.2.2.1,v.2.2.2.2.2.2.2.2.2.1,v.2.2.2.2.2.2.2.2.2.2.1,v.2.2.2.2.2.2.2.2.2.2.2))
theorem q1pu C v:q3q5 (regO (qdk f109) 5) false (an [1,2,4,6,7,8]) q1oy q1pt q1oy C v:=rgI (by kernel_rfl)
def q1pv  (d:Nat) (self1:(Int×Int×Int×Bool×Int×Int×Bool×Int×Int×Bool×Int×Int)→Option q1od) (z:Int×Int×Int×Bool×Int×Int×Bool×Int×Int×Bool×Int×Int):Option (q1od) :=
 (q1pt (q1oh d) z).eval fun y5 =>
 self1 y5
def q1pw (C:q1og) (v:q1pn):Dt q1ox:=(Dt.ite (decide (v.2.2.1<0)) Dt.fail (Dt.ret (v.1,v.2.1,v.2.2.1,v.2.2.2.2.1,v.2.2.2.2.2.1,v.2.2.2.2.2.2.1,v.2.2.2.2.2.2.2.1,v.2.2.2.2.2.2.2.2.1,v.2.2.2.2.2.2.2.2.2.1,v.2.2.2.2.2.2.2.2.2.2.1,v.2.2.2.2.2.2.2.2.2.2.2.1,(orI .u64 v.2.2.2.2.2.2.2.2.2.2.2.2 (shlI .u64 (1:Int) v.2.2.1)))))
theorem q1px C v:q3q5 (regO (qdk f109) 14) true (an [1,2,4,6,7,8]) q1po q1pw q1oy C v:=rgI (by kernel_rfl)
def q1py  (d:Nat) (self1:(Int×Int×Int×Bool×Int×Int×Bool×Int×Int×Bool×Int×Int)→Option q1od) (z:Int×Int×Int×Int×Bool×Int×Int×Bool×Int×Int×Bool×Int×Int):Option (q1od) :=
 (q1pf (q1oh d) z).eval fun y9 =>
 (q1pj (q1oh d) y9).eval fun y10 =>
 bif y10.2.2.2.1 then ((q1pl (q1oh d) y10).eval fun y11 =>
 (q1pp (q1oh d) y11).eval fun y12 =>
 bif y12.2.2.2.1 then ((q1pr (q1oh d) y12).eval fun y13 =>
 q1pv d self1 y13) else ((q1pw (q1oh d) y12).eval fun y14 =>
 q1pv d self1 y14)) else (q1pv d self1 (y10.1,y10.2.1,y10.2.2.1,y10.2.2.2.2.1,y10.2.2.2.2.2.1,y10.2.2.2.2.2.2.1,y10.2.2.2.2.2.2.2.1,y10.2.2.2.2.2.2.2.2.1,y10.2.2.2.2.2.2.2.2.2.1,y10.2.2.2.2.2.2.2.2.2.2.1,y10.2.2.2.2.2.2.2.2.2.2.2.1,y10.2.2.2.2.2.2.2.2.2.2.2.2))
abbrev q1pz:Type:=Int×Bool×Int×Int
def q1q0 (v:q1pz):St:=⟨[(4,.ptr 0 0),(5,u6 v.1)],[.cells [.bool v.2.1,u6 v.2.2.1,u6 v.2.2.2]]⟩
def q1q1 (C:q1og) (v:q1p1):Dt q1pz:=(Dt.ret (v.2.1,v.2.2.2.2.2.2.2.2.2.2.1,v.2.2.2.2.2.2.2.2.2.2.2.1,v.2.2.2.2.2.2.2.2.2.2.2.2))
theorem q1q2 C v:q3q5 (regO (qdk f109) 15) false (an [4,5]) q1p2 q1q1 q1q0 C v:=rgI (by kernel_rfl)
def q1q3 (d:Nat) (self1:(Int×Int×Int×Bool×Int×Int×Bool×Int×Int×Bool×Int×Int)→Option q1od) (x1:Int×Int×Int×Bool×Int×Int×Bool×Int×Int×Bool×Int×Int):Option q1od :=
 (q1p3 (q1oh d) x1).eval fun y4 =>
 bif y4.2.2.2.1 then ((q1p7 (q1oh d) y4).eval fun y6 =>
 (q1pb (q1oh d) y6).eval fun y7 =>
 bif y7.2.2.2.2.1 then ((q1pd (q1oh d) y7).eval fun y8 =>
 q1py d self1 y8) else (q1py d self1 (y7.1,y7.2.1,y7.2.2.1,y7.2.2.2.1,y7.2.2.2.2.2.1,y7.2.2.2.2.2.2.1,y7.2.2.2.2.2.2.2.1,y7.2.2.2.2.2.2.2.2.1,y7.2.2.2.2.2.2.2.2.2.1,y7.2.2.2.2.2.2.2.2.2.2.1,y7.2.2.2.2.2.2.2.2.2.2.2.1,y7.2.2.2.2.2.2.2.2.2.2.2.2.1,y7.2.2.2.2.2.2.2.2.2.2.2.2.2))) else ((q1q1 (q1oh d) y4).eval fun y15 =>
 some (y15.2.1,y15.2.2.1,y15.2.2.2,y15.1))
def q1q4 (d:Nat) (x:q1oc):Option q1od :=
 (q1on (q1oh d) (x.1.1,x.1.2.1,x.1.2.2.1,x.2.1.1)).eval fun y0 =>
 (q1or (q1oh d) y0).eval fun y1 =>
 (q1ov (q1oh d) y1).eval fun y2 =>
 (q1oz (q1oh d) y2).eval fun y3 =>
 iter (q1q3 d ) d y3
theorem q1q5 (d:Nat):COK prog (q1of (q1q4 d)):=by
 have hm:prog.follows .mixedOrders=true:=mixed
 have hT:=tys
 have hC0:OrcOK prog (orc (q1oi (q1oh d))):=qde (by
  intro S hS
  simp only [q1oi,List.mem_cons,List.not_mem_nil,or_false] at hS
  all_goals first | cases hS | exact hS.elim)
 have hC:OrcOK prog (orc (q1oi (q1oh d))):=hC0
 refine q93 (c:=qdk f109) (fn:=f109) hT (by kernel_rfl) (by kernel_rfl) (by decide) fun x r h w0 φ0 Q hend=>?_
 replace h:q1q4 d x=some r:=h
 unfold q1q4 at h
 show Run prog w0 φ0 54 (qdk f109) ⟨[(0,.agg [.bool x.1.1,.int .u64 x.1.2.1,.int .u64 x.1.2.2.1]),(1,.int .u64 x.2.1.1)],[]⟩ Q
 refine q3pf hm hT hC (q1oo (q1oh d) (x.1.1,x.1.2.1,x.1.2.2.1,x.2.1.1)) h fun y0 h=>?_
 refine q3pf hm hT hC (q1os (q1oh d) y0) h fun y1 h=>?_
 refine q3pf hm hT hC (q1ow (q1oh d) y1) h fun y2 h=>?_
 refine q8m ?_
 refine q3pf hm hT hC (q1p0 (q1oh d) y2) h fun y3 h=>?_
 refine q8n ?_
 refine q8s (G:=iter (q1q3 d )) (S:=(fun x1=>⟨[(1,u6 x1.1),(2,.ptr 0 0),(4,.ptr 1 0),(6,.ptr 2 0),(7,u6 x1.2.1),(8,i6 x1.2.2.1)],[.cells [.bool x1.2.2.2.1,u6 x1.2.2.2.2.1,u6 x1.2.2.2.2.2.1],.cells [.bool x1.2.2.2.2.2.2.1,u6 x1.2.2.2.2.2.2.2.1,u6 x1.2.2.2.2.2.2.2.2.1],.cells [.bool x1.2.2.2.2.2.2.2.2.2.1,u6 x1.2.2.2.2.2.2.2.2.2.2.1,u6 x1.2.2.2.2.2.2.2.2.2.2.2]]⟩:q1ox→St)) (fun _=>rfl) ?_ d _ h
 intro n1 x1 h K1 hn1
 replace h:q1q3 d  (iter (q1q3 d ) n1) x1=some r:=h
 generalize iter (q1q3 d ) n1=self1 at h hn1
 unfold q1q3 at h
 refine q8m ?_
 refine q3pf hm hT hC (q1p4 (q1oh d) x1) h fun y4 h=>?_
 refine q8q (v:=y4.2.2.2.1) (by kernel_rfl) h ?_ ?_
 ·
  intro h
  refine q8i (q88 ?_)
  refine q8p (r:=r) (F:=q1pv d self1) (S:=(fun z=>⟨[(1,u6 z.1),(2,.ptr 0 0),(4,.ptr 1 0),(6,.ptr 2 0),(7,u6 z.2.1),(8,i6 z.2.2.1)],[.cells [.bool z.2.2.2.1,u6 z.2.2.2.2.1,u6 z.2.2.2.2.2.1],.cells [.bool z.2.2.2.2.2.2.1,u6 z.2.2.2.2.2.2.2.1,u6 z.2.2.2.2.2.2.2.2.1],.cells [.bool z.2.2.2.2.2.2.2.2.2.1,u6 z.2.2.2.2.2.2.2.2.2.2.1,u6 z.2.2.2.2.2.2.2.2.2.2.2]]⟩:q1ox→St)) ?_ ?_
  ·
   intro z h
   unfold q1pv at h
   refine q8r hm hT hC (q1pu (q1oh d) z) h ?_
   intro y5 h
   exact hn1 _ h
  intro hj2
  refine q8n ?_
  refine q3pf hm hT hC (q1p8 (q1oh d) y4) h fun y6 h=>?_
  refine q8p (r:=r) (F:=q1py d self1) (S:=(fun z=>⟨[(1,u6 z.1),(2,.ptr 0 0),(4,.ptr 1 0),(6,.ptr 2 0),(7,u6 z.2.1),(8,i6 z.2.2.1),(9,u6 z.2.2.2.1)],[.cells [.bool z.2.2.2.2.1,u6 z.2.2.2.2.2.1,u6 z.2.2.2.2.2.2.1],.cells [.bool z.2.2.2.2.2.2.2.1,u6 z.2.2.2.2.2.2.2.2.1,u6 z.2.2.2.2.2.2.2.2.2.1],.cells [.bool z.2.2.2.2.2.2.2.2.2.2.1,u6 z.2.2.2.2.2.2.2.2.2.2.2.1,u6 z.2.2.2.2.2.2.2.2.2.2.2.2]]⟩:q1p5→St)) ?_ ?_
  ·
   intro z h
   unfold q1py at h
   refine q3pf hm hT hC (q1pg (q1oh d) z) h fun y9 h=>?_
   refine q3pf hm hT hC (q1pk (q1oh d) y9) h fun y10 h=>?_
   refine q8q (v:=y10.2.2.2.1) (by kernel_rfl) h ?_ ?_
   ·
    intro h
    refine q3pf hm hT hC (q1pm (q1oh d) y10) h fun y11 h=>?_
    refine q3pf hm hT hC (q1pq (q1oh d) y11) h fun y12 h=>?_
    refine q8q (v:=y12.2.2.2.1) (by kernel_rfl) h ?_ ?_
    ·
     intro h
     refine q8r hm hT hC (q1ps (q1oh d) y12) h ?_
     intro y13 h
     refine q8b ?_
     exact hj2 _ h
    ·
     intro h
     refine q8r hm hT hC (q1px (q1oh d) y12) h ?_
     intro y14 h
     refine q8b ?_
     exact hj2 _ h
   ·
    intro h
    refine q8i (q8b ?_)
    refine qdj (s:=⟨[(1,.int .u64 y10.1),(2,.ptr 0 0),(4,.ptr 1 0),(6,.ptr 2 0),(7,.int .u64 y10.2.1),(8,.int .i64 y10.2.2.1)],[.cells [.bool y10.2.2.2.2.1,.int .u64 y10.2.2.2.2.2.1,.int .u64 y10.2.2.2.2.2.2.1],.cells [.bool y10.2.2.2.2.2.2.2.1,.int .u64 y10.2.2.2.2.2.2.2.2.1,.int .u64 y10.2.2.2.2.2.2.2.2.2.1],.cells [.bool y10.2.2.2.2.2.2.2.2.2.2.1,.int .u64 y10.2.2.2.2.2.2.2.2.2.2.2.1,.int .u64 y10.2.2.2.2.2.2.2.2.2.2.2.2]]⟩) [33] (by kernel_rfl) ?_
    exact hj2 _ h
  intro hj3
  refine q3pf hm hT hC (q1pc (q1oh d) y6) h fun y7 h=>?_
  refine q8q (v:=y7.2.2.2.2.1) (by kernel_rfl) h ?_ ?_
  ·
   intro h
   refine q8r hm hT hC (q1pe (q1oh d) y7) h ?_
   intro y8 h
   exact hj3 _ h
  ·
   intro h
   refine q8i ?_
   refine qdj (s:=⟨[(1,.int .u64 y7.1),(2,.ptr 0 0),(4,.ptr 1 0),(6,.ptr 2 0),(7,.int .u64 y7.2.1),(8,.int .i64 y7.2.2.1),(9,.int .u64 y7.2.2.2.1)],[.cells [.bool y7.2.2.2.2.2.1,.int .u64 y7.2.2.2.2.2.2.1,.int .u64 y7.2.2.2.2.2.2.2.1],.cells [.bool y7.2.2.2.2.2.2.2.2.1,.int .u64 y7.2.2.2.2.2.2.2.2.2.1,.int .u64 y7.2.2.2.2.2.2.2.2.2.2.1],.cells [.bool y7.2.2.2.2.2.2.2.2.2.2.2.1,.int .u64 y7.2.2.2.2.2.2.2.2.2.2.2.2.1,.int .u64 y7.2.2.2.2.2.2.2.2.2.2.2.2.2]]⟩) [20] (by kernel_rfl) ?_
   exact hj3 _ h
 ·
  intro h
  refine q8k (q89 (q89 (q8d (q88 ?_))))
  refine q3pf hm hT hC (q1q2 (q1oh d) y4) h fun y15 h=>?_
  refine q8l ?_
  cases h
  exact (hend _ (by kernel_rfl)).2
abbrev q1q6:List Pk:=[.row Ru false,.row Ru false]
abbrev q1q7:Type:=Du×Du×Unit
abbrev q1q8:Type:=Bool×Int×Int
def q1q9 (r:q1q8):LV×List Ob:=(.agg [.bool r.1,.int .u64 r.2.1,.int .u64 r.2.2],[])
def q1qa (F:q1q7→Option q1q8):Go.Tx.Spec:=⟨71,q1q6,q1q8,F,q1q9⟩
abbrev q1qb:Type:=Unit
def q1qc (_d:Nat):q1qb:=()
def q1qd (C:q1qb):List Go.Tx.Spec:=[]
abbrev q1qe:Type:=Int×Int
def q1qf (v:q1qe):St:=⟨[(0,u6 v.1),(1,u6 v.2)],[]⟩
abbrev q1qg:Type:=Int×Int×Bool×Int×Int
def q1qh (v:q1qg):St:=⟨[(0,u6 v.1),(1,u6 v.2.1),(4,.ptr 0 0)],[.cells [.bool v.2.2.1,u6 v.2.2.2.1,u6 v.2.2.2.2]]⟩
def q1qi (C:q1qb) (v:q1qe):Dt q1qg:=(Dt.ret (v.1,v.2,false,(0:Int),(0:Int)))
abbrev q3q6 {V Y:Type}:=@rg q1qb V Y tysT (fun C=>(orc (q1qd C))) 51
theorem q1qj C v:q3q6 (regO (qdk f71) 0) false (an [0,1,4]) q1qf q1qi q1qh C v:=rgI (by kernel_rfl)
abbrev q1qk:Type:=Int×Int×Int×Int×Bool×Int×Int
def q1ql (v:q1qk):St:=⟨[(4,.ptr 0 0),(5,u6 v.1),(6,u6 v.2.1),(7,u6 v.2.2.1),(8,u6 v.2.2.2.1)],[.cells [.bool v.2.2.2.2.1,u6 v.2.2.2.2.2.1,u6 v.2.2.2.2.2.2]]⟩
def q1qm (C:q1qb) (v:q1qg):Dt q1qk:=(Dt.ite ((4294967296:Int) == (0:Int)) Dt.fail (Dt.ite ((4294967296:Int) == (0:Int)) Dt.fail (Dt.ite ((4294967296:Int) == (0:Int)) Dt.fail (Dt.ite ((4294967296:Int) == (0:Int)) Dt.fail (Dt.ret ((IntKind.wrap .u64 (Int.tdiv v.1 (4294967296:Int))),(Int.tmod v.1 (4294967296:Int)),(IntKind.wrap .u64 (Int.tdiv v.2.1 (4294967296:Int))),(Int.tmod v.2.1 (4294967296:Int)),v.2.2.1,v.2.2.2.1,v.2.2.2.2))))))
theorem q1qn C v:q3q6 (regO (qdk f71) 1) false (an [4,5,6,7,8]) q1qh q1qm q1ql C v:=rgI (by kernel_rfl)
abbrev q1qo:Type:=Int×Int×Int×Int×Int×Bool×Int×Int
def q1qp (v:q1qo):St:=⟨[(4,.ptr 0 0),(5,u6 v.1),(6,u6 v.2.1),(7,u6 v.2.2.1),(8,u6 v.2.2.2.1),(9,u6 v.2.2.2.2.1)],[.cells [.bool v.2.2.2.2.2.1,u6 v.2.2.2.2.2.2.1,u6 v.2.2.2.2.2.2.2]]⟩
def q1qq (C:q1qb) (v:q1qk):Dt q1qo:=(Dt.ret (v.1,v.2.1,v.2.2.1,v.2.2.2.1,(IntKind.wrap .u64 (v.2.1*v.2.2.2.1)),v.2.2.2.2.1,v.2.2.2.2.2.1,v.2.2.2.2.2.2))
theorem q1qr C v:q3q6 (regO (qdk f71) 2) false (an [4,5,6,7,8,9]) q1ql q1qq q1qp C v:=rgI (by kernel_rfl)
abbrev q1qs:Type:=Int×Int×Int×Int×Int×Bool×Int×Int
def q1qt (v:q1qs):St:=⟨[(4,.ptr 0 0),(5,u6 v.1),(6,u6 v.2.1),(7,u6 v.2.2.1),(9,u6 v.2.2.2.1),(10,u6 v.2.2.2.2.1)],[.cells [.bool v.2.2.2.2.2.1,u6 v.2.2.2.2.2.2.1,u6 v.2.2.2.2.2.2.2]]⟩
def q1qu (C:q1qb) (v:q1qo):Dt q1qs:=(Dt.ite ((4294967296:Int) == (0:Int)) Dt.fail (Dt.ret (v.1,v.2.1,v.2.2.1,v.2.2.2.2.1,(IntKind.wrap .u64 ((IntKind.wrap .u64 (v.1*v.2.2.2.1))+(IntKind.wrap .u64 (Int.tdiv v.2.2.2.2.1 (4294967296:Int))))),v.2.2.2.2.2.1,v.2.2.2.2.2.2.1,v.2.2.2.2.2.2.2)))
theorem q1qv C v:q3q6 (regO (qdk f71) 3) false (an [4,5,6,7,9,10]) q1qp q1qu q1qt C v:=rgI (by kernel_rfl)
abbrev q1qw:Type:=Int×Int×Int×Int×Int×Bool×Int×Int
def q1qx (v:q1qw):St:=⟨[(4,.ptr 0 0),(5,u6 v.1),(7,u6 v.2.1),(9,u6 v.2.2.1),(10,u6 v.2.2.2.1),(11,u6 v.2.2.2.2.1)],[.cells [.bool v.2.2.2.2.2.1,u6 v.2.2.2.2.2.2.1,u6 v.2.2.2.2.2.2.2]]⟩
def q1qy (C:q1qb) (v:q1qs):Dt q1qw:=(Dt.ite ((4294967296:Int) == (0:Int)) Dt.fail (Dt.ret (v.1,v.2.2.1,v.2.2.2.1,v.2.2.2.2.1,(IntKind.wrap .u64 ((IntKind.wrap .u64 (v.2.1*v.2.2.1))+(Int.tmod v.2.2.2.2.1 (4294967296:Int)))),v.2.2.2.2.2.1,v.2.2.2.2.2.2.1,v.2.2.2.2.2.2.2)))
theorem q1qz C v:q3q6 (regO (qdk f71) 4) false (an [4,5,7,9,10,11]) q1qt q1qy q1qx C v:=rgI (by kernel_rfl)
abbrev q1r0:Type:=Bool×Int×Int
def q1r1 (v:q1r0):St:=⟨[(4,.ptr 0 0)],[.cells [.bool v.1,u6 v.2.1,u6 v.2.2]]⟩
def q1r2 (C:q1qb) (v:q1qw):Dt q1r0:=(Dt.ite ((4294967296:Int) == (0:Int)) Dt.fail (Dt.ite ((4294967296:Int) == (0:Int)) Dt.fail (Dt.ite ((4294967296:Int) == (0:Int)) Dt.fail (Dt.ite ((4294967296:Int) == (0:Int)) Dt.fail (Dt.ret (false,(IntKind.wrap .u64 ((IntKind.wrap .u64 ((IntKind.wrap .u64 (v.1*v.2.1))+(IntKind.wrap .u64 (Int.tdiv v.2.2.2.1 (4294967296:Int)))))+(IntKind.wrap .u64 (Int.tdiv v.2.2.2.2.1 (4294967296:Int))))),(IntKind.wrap .u64 ((IntKind.wrap .u64 ((Int.tmod v.2.2.2.2.1 (4294967296:Int))*(4294967296:Int)))+(Int.tmod v.2.2.1 (4294967296:Int))))))))))
theorem q1r3 C v:q3q6 (regO (qdk f71) 5) false [(4,.any)] q1qx q1r2 q1r1 C v:=rgI (by kernel_rfl)
def q1r4 (d:Nat) (x:q1q7):Option q1q8 :=
 (q1qi (q1qc d) (x.1.1,x.2.1.1)).eval fun y0 =>
 (q1qm (q1qc d) y0).eval fun y1 =>
 (q1qq (q1qc d) y1).eval fun y2 =>
 (q1qu (q1qc d) y2).eval fun y3 =>
 (q1qy (q1qc d) y3).eval fun y4 =>
 (q1r2 (q1qc d) y4).eval fun y5 =>
 some y5
theorem q1r5 (d:Nat):COK prog (q1qa (q1r4 d)):=by
 have hm:prog.follows .mixedOrders=true:=mixed
 have hT:=tys
 have hC0:OrcOK prog (orc (q1qd (q1qc d))):=qde (by
  intro S hS
  simp only [q1qd,List.mem_cons,List.not_mem_nil,or_false] at hS
  all_goals first | cases hS | exact hS.elim)
 have hC:OrcOK prog (orc (q1qd (q1qc d))):=hC0
 refine q93 (c:=qdk f71) (fn:=f71) hT (by kernel_rfl) (by kernel_rfl) (by decide) fun x r h w0 φ0 Q hend=>?_
 replace h:q1r4 d x=some r:=h
 unfold q1r4 at h
 show Run prog w0 φ0 51 (qdk f71) ⟨[(0,.int .u64 x.1.1),(1,.int .u64 x.2.1.1)],[]⟩ Q
 refine q3pf hm hT hC (q1qj (q1qc d) (x.1.1,x.2.1.1)) h fun y0 h=>?_
 refine q3pf hm hT hC (q1qn (q1qc d) y0) h fun y1 h=>?_
 refine q3pf hm hT hC (q1qr (q1qc d) y1) h fun y2 h=>?_
 refine q3pf hm hT hC (q1qv (q1qc d) y2) h fun y3 h=>?_
 refine q3pf hm hT hC (q1qz (q1qc d) y3) h fun y4 h=>?_
 refine q3pf hm hT hC (q1r3 (q1qc d) y4) h fun y5 h=>?_
 refine q8l ?_
 cases h
 exact (hend _ (by kernel_rfl)).2
abbrev q1r6:List Pk:=[.row Rb false,.row Rbuu true,.row Rbuu true]
abbrev q1r7:Type:=Db×Dbuu×Dbuu×Unit
abbrev q1r8:Type:=Int×Int×Int
def q1r9 (r:q1r8):LV×List Ob:=(.tup [.agg [.int .i64 r.1,.int .i64 r.2.1],.int .i64 r.2.2],[])
def q1ra (F:q1r7→Option q1r8):Go.Tx.Spec:=⟨108,q1r6,q1r8,F,q1r9⟩
abbrev q1rb:Type:=Unit
def q1rc (_d:Nat):q1rb:=()
def q1rd (C:q1rb):List Go.Tx.Spec:=[]
abbrev q1re:Type:=Bool×Bool×Int×Int×Bool×Int×Int
def q1rf (v:q1re):St:=⟨[(0,.bool v.1),(1,.agg [.bool v.2.1,u6 v.2.2.1,u6 v.2.2.2.1]),(2,.agg [.bool v.2.2.2.2.1,u6 v.2.2.2.2.2.1,u6 v.2.2.2.2.2.2])],[]⟩
abbrev q1rg:Type:=Bool×Bool×Int×Int×Bool×Int×Int×Int×Int
def q1rh (v:q1rg):St:=⟨[(0,.bool v.1),(4,.ptr 0 0),(5,.ptr 1 0),(6,.ptr 2 0)],[.cells [.bool v.2.1,u6 v.2.2.1,u6 v.2.2.2.1],.cells [.bool v.2.2.2.2.1,u6 v.2.2.2.2.2.1,u6 v.2.2.2.2.2.2.1],.cells [i6 v.2.2.2.2.2.2.2.1,i6 v.2.2.2.2.2.2.2.2]]⟩
def q1ri (C:q1rb) (v:q1re):Dt q1rg:=(Dt.ret (v.1,v.2.1,v.2.2.1,v.2.2.2.1,v.2.2.2.2.1,v.2.2.2.2.2.1,v.2.2.2.2.2.2,(0:Int),(0:Int)))
abbrev q3q7 {V Y:Type}:=@rg q1rb V Y tysT (fun C=>(orc (q1rd C))) 43
theorem q1rj C v:q3q7 (regO (qdk f108) 0) false (an [0,4,5,6]) q1rf q1ri q1rh C v:=rgI (by kernel_rfl)
abbrev q1rk:Type:=Bool×Bool×Bool×Int×Int×Bool×Int×Int×Int×Int
def q1rl (v:q1rk):St:=⟨[(0,.bool v.1),(4,.ptr 0 0),(5,.ptr 1 0),(6,.ptr 2 0),(25,.bool v.2.1)],[.cells [.bool v.2.2.1,u6 v.2.2.2.1,u6 v.2.2.2.2.1],.cells [.bool v.2.2.2.2.2.1,u6 v.2.2.2.2.2.2.1,u6 v.2.2.2.2.2.2.2.1],.cells [i6 v.2.2.2.2.2.2.2.2.1,i6 v.2.2.2.2.2.2.2.2.2]]⟩
def q1rm (C:q1rb) (v:q1rg):Dt q1rk:=(Dt.ite (decide (v.2.2.1 > (0:Int))) (Dt.ret (v.1,true,v.2.1,v.2.2.1,v.2.2.2.1,v.2.2.2.2.1,v.2.2.2.2.2.1,v.2.2.2.2.2.2.1,v.2.2.2.2.2.2.2.1,v.2.2.2.2.2.2.2.2)) (Dt.ite (decide (v.2.2.2.1 > (9223372036854775807:Int))) (Dt.ret (v.1,true,v.2.1,v.2.2.1,v.2.2.2.1,v.2.2.2.2.1,v.2.2.2.2.2.1,v.2.2.2.2.2.2.1,v.2.2.2.2.2.2.2.1,v.2.2.2.2.2.2.2.2)) (Dt.ite (decide (v.2.2.2.2.2.1 > (0:Int))) (Dt.ret (v.1,true,v.2.1,v.2.2.1,v.2.2.2.1,v.2.2.2.2.1,v.2.2.2.2.2.1,v.2.2.2.2.2.2.1,v.2.2.2.2.2.2.2.1,v.2.2.2.2.2.2.2.2)) (Dt.ret (v.1,(decide (v.2.2.2.2.2.2.1 > (9223372036854775807:Int))),v.2.1,v.2.2.1,v.2.2.2.1,v.2.2.2.2.1,v.2.2.2.2.2.1,v.2.2.2.2.2.2.1,v.2.2.2.2.2.2.2.1,v.2.2.2.2.2.2.2.2)))))
theorem q1rn C v:q3q7 (regO (qdk f108) 1) false (an [0,4,5,6,25]) q1rh q1rm q1rl C v:=rgI (by kernel_rfl)
abbrev q1ro:Type:=Int×Int×Int
def q1rp (v:q1ro):St:=⟨[(6,.ptr 0 0),(7,i6 v.1)],[.cells [i6 v.2.1,i6 v.2.2]]⟩
def q1rq (C:q1rb) (v:q1rk):Dt q1ro:=(Dt.ret ((16:Int),(0:Int),(0:Int)))
theorem q1rr C v:q3q7 (regO (qdk f108) 2) false (an [6,7]) q1rl q1rq q1rp C v:=rgI (by kernel_rfl)
abbrev q1rs:Type:=Bool×Bool×Int×Int×Bool×Int×Int×Int×Int
def q1rt (v:q1rs):St:=⟨[(4,.ptr 0 0),(5,.ptr 1 0),(6,.ptr 2 0),(27,.bool v.1)],[.cells [.bool v.2.1,u6 v.2.2.1,u6 v.2.2.2.1],.cells [.bool v.2.2.2.2.1,u6 v.2.2.2.2.2.1,u6 v.2.2.2.2.2.2.1],.cells [i6 v.2.2.2.2.2.2.2.1,i6 v.2.2.2.2.2.2.2.2]]⟩
def q1ru (C:q1rb) (v:q1rk):Dt q1rs:=(Dt.ret (v.1,v.2.2.1,v.2.2.2.1,v.2.2.2.2.1,v.2.2.2.2.2.1,v.2.2.2.2.2.2.1,v.2.2.2.2.2.2.2.1,v.2.2.2.2.2.2.2.2.1,v.2.2.2.2.2.2.2.2.2))
theorem q1rv C v:q3q7 (regO (qdk f108) 3) false (an [4,5,6,27]) q1rl q1ru q1rt C v:=rgI (by kernel_rfl)
def q1rw (C:q1rb) (v:q1rs):Dt q1ro:=(Dt.ret ((0:Int),(IntKind.wrap .i64 (0 - (IntKind.wrap .i64 v.2.2.2.1))),(IntKind.wrap .i64 v.2.2.2.2.2.2.1)))
theorem q1rx C v:q3q7 (regO (qdk f108) 4) false (an [6,7]) q1rt q1rw q1rp C v:=rgI (by kernel_rfl)
def q1ry (C:q1rb) (v:q1rs):Dt q1ro:=(Dt.ret ((0:Int),(IntKind.wrap .i64 v.2.2.2.1),(IntKind.wrap .i64 v.2.2.2.2.2.2.1)))
theorem q1rz C v:q3q7 (regO (qdk f108) 5) false (an [6,7]) q1rt q1ry q1rp C v:=rgI (by kernel_rfl)
def q1s0 (d:Nat) (x:q1r7):Option q1r8 :=
 (q1ri (q1rc d) (x.1.1,x.2.1.1,x.2.1.2.1,x.2.1.2.2.1,x.2.2.1.1,x.2.2.1.2.1,x.2.2.1.2.2.1)).eval fun y0 =>
 (q1rm (q1rc d) y0).eval fun y1 =>
 bif y1.2.1 then ((q1rq (q1rc d) y1).eval fun y2 =>
 some (y2.2.1,y2.2.2,y2.1)) else ((q1ru (q1rc d) y1).eval fun y3 =>
 bif y3.1 then ((q1rw (q1rc d) y3).eval fun y4 =>
 some (y4.2.1,y4.2.2,y4.1)) else ((q1ry (q1rc d) y3).eval fun y5 =>
 some (y5.2.1,y5.2.2,y5.1)))
theorem q1s1 (d:Nat):COK prog (q1ra (q1s0 d)):=by
 have hm:prog.follows .mixedOrders=true:=mixed
 have hT:=tys
 have hC0:OrcOK prog (orc (q1rd (q1rc d))):=qde (by
  intro S hS
  simp only [q1rd,List.mem_cons,List.not_mem_nil,or_false] at hS
  all_goals first | cases hS | exact hS.elim)
 have hC:OrcOK prog (orc (q1rd (q1rc d))):=hC0
 refine q93 (c:=qdk f108) (fn:=f108) hT (by kernel_rfl) (by kernel_rfl) (by decide) fun x r h w0 φ0 Q hend=>?_
 replace h:q1s0 d x=some r:=h
 unfold q1s0 at h
 show Run prog w0 φ0 43 (qdk f108) ⟨[(0,.bool x.1.1),(1,.agg [.bool x.2.1.1,.int .u64 x.2.1.2.1,.int .u64 x.2.1.2.2.1]),(2,.agg [.bool x.2.2.1.1,.int .u64 x.2.2.1.2.1,.int .u64 x.2.2.1.2.2.1])],[]⟩ Q
 refine q3pf hm hT hC (q1rj (q1rc d) (x.1.1,x.2.1.1,x.2.1.2.1,x.2.1.2.2.1,x.2.2.1.1,x.2.2.1.2.1,x.2.2.1.2.2.1)) h fun y0 h=>?_
 refine q8m ?_
 refine q3pf hm hT hC (q1rn (q1rc d) y0) h fun y1 h=>?_
 refine q8q (v:=y1.2.1) (by kernel_rfl) h ?_ ?_
 ·
  intro h
  refine q3pf hm hT hC (q1rr (q1rc d) y1) h fun y2 h=>?_
  refine q8l (q8a ?_)
  cases h
  exact (hend _ (by kernel_rfl)).2
 ·
  intro h
  refine q8i (q88 (q8m ?_))
  refine q3pf hm hT hC (q1rv (q1rc d) y1) h fun y3 h=>?_
  refine q8q (v:=y3.1) (by kernel_rfl) h ?_ ?_
  ·
   intro h
   refine q3pf hm hT hC (q1rx (q1rc d) y3) h fun y4 h=>?_
   refine q8l (q8a ?_)
   cases h
   exact (hend _ (by kernel_rfl)).2
  ·
   intro h
   refine q8i (q88 ?_)
   refine q3pf hm hT hC (q1rz (q1rc d) y3) h fun y5 h=>?_
   refine q8l ?_
   cases h
   exact (hend _ (by kernel_rfl)).2
abbrev q1s2:List Pk:=[.row Rii true,.row Rii true]
abbrev q1s3:Type:=Dii×Dii×Unit
abbrev q1s4:Type:=Int×Int×Int
def q1s5 (r:q1s4):LV×List Ob:=(.tup [.agg [.int .i64 r.1,.int .i64 r.2.1],.int .i64 r.2.2],[])
def q1s6 (F:q1s3→Option q1s4):Go.Tx.Spec:=⟨80,q1s2,q1s4,F,q1s5⟩
abbrev q1s7:Type:=(q1jt→Option q1ju)×(qmz→Option qn0)×(q1q7→Option q1q8)×(q1mn→Option q1mo)×(q1j3→Option q1j4)×(q1r7→Option q1r8)×(q1oc→Option q1od)×Unit
def q1s8 (d:Nat):q1s7:=(q1kf d,qn4 d,q1r4 d,q1o9 d,q1jq d,q1s0 d,q1q4 d,())
def q1s9 (C:q1s7):List Go.Tx.Spec:=[q1jw C.1,qn2 C.2.1,q1qa C.2.2.1,q1mq C.2.2.2.1,q1j6 C.2.2.2.2.1,q1ra C.2.2.2.2.2.1,q1of C.2.2.2.2.2.2.1]
abbrev q1sa:Type:=Int×Int×Int×Int
def q1sb (v:q1sa):St:=⟨[(0,.agg [i6 v.1,i6 v.2.1]),(1,.agg [i6 v.2.2.1,i6 v.2.2.2])],[]⟩
abbrev q1sc:Type:=Int×Int×Int×Int×Int×Int
def q1sd (v:q1sc):St:=⟨[(2,.ptr 0 0),(3,.ptr 1 0),(4,.ptr 2 0)],[.cells [i6 v.1,i6 v.2.1],.cells [i6 v.2.2.1,i6 v.2.2.2.1],.cells [i6 v.2.2.2.2.1,i6 v.2.2.2.2.2]]⟩
def q1se (C:q1s7) (v:q1sa):Dt q1sc:=(Dt.ret (v.1,v.2.1,v.2.2.1,v.2.2.2,(0:Int),(0:Int)))
abbrev q3q8 {V Y:Type}:=@rg q1s7 V Y tysT (fun C=>(orc (q1s9 C))) 78
theorem q1sf C v:q3q8 (regO (qdk f80) 0) false (an [2,3,4]) q1sb q1se q1sd C v:=rgI (by kernel_rfl)
abbrev q1sg:Type:=Bool×Int×Int×Int×Int×Int×Int
def q1sh (v:q1sg):St:=⟨[(2,.ptr 0 0),(3,.ptr 1 0),(4,.ptr 2 0),(16,.bool v.1)],[.cells [i6 v.2.1,i6 v.2.2.1],.cells [i6 v.2.2.2.1,i6 v.2.2.2.2.1],.cells [i6 v.2.2.2.2.2.1,i6 v.2.2.2.2.2.2]]⟩
def q1si (C:q1s7) (v:q1sc):Dt q1sg:=(Dt.bnd (C.2.2.2.2.1 ((v.1,v.2.1,()),(v.2.2.1,v.2.2.2.1,()),())) fun r1=>(Dt.ret ((r1 != (0:Int)),v.1,v.2.1,v.2.2.1,v.2.2.2.1,v.2.2.2.2.1,v.2.2.2.2.2)))
theorem q1sj C v:q3q8 (regO (qdk f80) 1) false (an [2,3,4,16]) q1sd q1si q1sh C v:=rgI (by kernel_rfl)
abbrev q1sk:Type:=Int×Int×Int
def q1sl (v:q1sk):St:=⟨[(4,.ptr 0 0),(5,i6 v.1)],[.cells [i6 v.2.1,i6 v.2.2]]⟩
def q1sm (C:q1s7) (v:q1sg):Dt q1sk:=(Dt.bnd (C.2.2.2.2.1 ((v.2.1,v.2.2.1,()),(v.2.2.2.1,v.2.2.2.2.1,()),())) fun r1=>(Dt.ret (r1,(0:Int),(0:Int))))
theorem q1sn C v:q3q8 (regO (qdk f80) 2) false (an [4,5]) q1sh q1sm q1sl C v:=rgI (by kernel_rfl)
abbrev q1so:Type:=Int×Int×Int×Int×Int×Int×Int
def q1sp (v:q1so):St:=⟨[(2,.ptr 0 0),(3,.ptr 1 0),(4,.ptr 2 0),(6,i6 v.1)],[.cells [i6 v.2.1,i6 v.2.2.1],.cells [i6 v.2.2.2.1,i6 v.2.2.2.2.1],.cells [i6 v.2.2.2.2.2.1,i6 v.2.2.2.2.2.2]]⟩
def q1sq (C:q1s7) (v:q1sg):Dt q1so:=(Dt.bnd (C.1 (((IntKind.wrap .u64 v.2.2.1),()),((IntKind.wrap .u64 v.2.2.2.2.1),()),())) fun r1=>(Dt.ret ((IntKind.wrap .i64 r1),v.2.1,v.2.2.1,v.2.2.2.1,v.2.2.2.2.1,v.2.2.2.2.2.1,v.2.2.2.2.2.2)))
theorem q1sr C v:q3q8 (regO (qdk f80) 3) false (an [2,3,4,6]) q1sh q1sq q1sp C v:=rgI (by kernel_rfl)
abbrev q1ss:Type:=Int×Int×Int×Int×Int×Int×Int×Bool×Int×Int
def q1st (v:q1ss):St:=⟨[(2,.ptr 0 0),(3,.ptr 1 0),(4,.ptr 2 0),(6,i6 v.1),(7,.ptr 3 0)],[.cells [i6 v.2.1,i6 v.2.2.1],.cells [i6 v.2.2.2.1,i6 v.2.2.2.2.1],.cells [i6 v.2.2.2.2.2.1,i6 v.2.2.2.2.2.2.1],.cells [.bool v.2.2.2.2.2.2.2.1,u6 v.2.2.2.2.2.2.2.2.1,u6 v.2.2.2.2.2.2.2.2.2]]⟩
def q1su (C:q1s7) (v:q1so):Dt q1ss:=(Dt.ite (v.1 == (0:Int)) Dt.fail (Dt.bnd (C.2.1 ((v.2.1,()),((IntKind.wrap .i64 (Int.tdiv v.2.2.2.2.1 v.1)),()),())) fun r1=>(Dt.ite (v.1 == (0:Int)) Dt.fail (Dt.bnd (C.2.1 ((v.2.2.2.1,()),((IntKind.wrap .i64 (Int.tdiv v.2.2.1 v.1)),()),())) fun r2=>(Dt.bnd (C.2.2.2.1 ((r1.1,r1.2.1,r1.2.2,()),(r2.1,r2.2.1,r2.2.2,()),())) fun r3=>(Dt.ret (v.1,v.2.1,v.2.2.1,v.2.2.2.1,v.2.2.2.2.1,v.2.2.2.2.2.1,v.2.2.2.2.2.2,r3.1,r3.2.1,r3.2.2)))))))
theorem q1sv C v:q3q8 (regO (qdk f80) 4) true (an [2,3,4,6,7]) q1sp q1su q1st C v:=rgI (by kernel_rfl)
abbrev q1sw:Type:=Int×Int×Int×Int×Int×Int×Int×Int×Bool×Int×Int
def q1sx (v:q1sw):St:=⟨[(2,.ptr 0 0),(3,.ptr 1 0),(4,.ptr 2 0),(6,i6 v.1),(7,.ptr 3 0),(9,u6 v.2.1)],[.cells [i6 v.2.2.1,i6 v.2.2.2.1],.cells [i6 v.2.2.2.2.1,i6 v.2.2.2.2.2.1],.cells [i6 v.2.2.2.2.2.2.1,i6 v.2.2.2.2.2.2.2.1],.cells [.bool v.2.2.2.2.2.2.2.2.1,u6 v.2.2.2.2.2.2.2.2.2.1,u6 v.2.2.2.2.2.2.2.2.2.2]]⟩
def q1sy (C:q1s7) (v:q1ss):Dt q1sw:=(Dt.bnd (C.2.2.2.2.2.2.1 ((v.2.2.2.2.2.2.2.1,v.2.2.2.2.2.2.2.2.1,v.2.2.2.2.2.2.2.2.2,()),((IntKind.wrap .u64 v.1),()),())) fun r1=>(Dt.ret (v.1,r1.2.2.2,v.2.1,v.2.2.1,v.2.2.2.1,v.2.2.2.2.1,v.2.2.2.2.2.1,v.2.2.2.2.2.2.1,v.2.2.2.2.2.2.2.1,v.2.2.2.2.2.2.2.2.1,v.2.2.2.2.2.2.2.2.2)))
theorem q1sz C v:q3q8 (regO (qdk f80) 5) false (an [2,3,4,6,7,9]) q1st q1sy q1sx C v:=rgI (by kernel_rfl)
abbrev q1t0:Type:=Int×Int×Int×Int×Int×Int×Int×Int×Bool×Int×Int
def q1t1 (v:q1t0):St:=⟨[(2,.ptr 0 0),(3,.ptr 1 0),(4,.ptr 2 0),(6,i6 v.1),(7,.ptr 3 0),(10,u6 v.2.1)],[.cells [i6 v.2.2.1,i6 v.2.2.2.1],.cells [i6 v.2.2.2.2.1,i6 v.2.2.2.2.2.1],.cells [i6 v.2.2.2.2.2.2.1,i6 v.2.2.2.2.2.2.2.1],.cells [.bool v.2.2.2.2.2.2.2.2.1,u6 v.2.2.2.2.2.2.2.2.2.1,u6 v.2.2.2.2.2.2.2.2.2.2]]⟩
def q1t2 (C:q1s7) (v:q1sw):Dt q1t0:=(Dt.bnd (C.1 (((IntKind.wrap .u64 v.1),()),(v.2.1,()),())) fun r1=>(Dt.ret (v.1,r1,v.2.2.1,v.2.2.2.1,v.2.2.2.2.1,v.2.2.2.2.2.1,v.2.2.2.2.2.2.1,v.2.2.2.2.2.2.2.1,v.2.2.2.2.2.2.2.2.1,v.2.2.2.2.2.2.2.2.2.1,v.2.2.2.2.2.2.2.2.2.2)))
theorem q1t3 C v:q3q8 (regO (qdk f80) 6) false (an [2,3,4,6,7,10]) q1sx q1t2 q1t1 C v:=rgI (by kernel_rfl)
abbrev q1t4:Type:=Int×Int×Int×Int×Int×Int×Int×Int×Bool×Int×Int×Bool×Int×Int
def q1t5 (v:q1t4):St:=⟨[(2,.ptr 0 0),(3,.ptr 1 0),(4,.ptr 2 0),(6,i6 v.1),(7,.ptr 3 0),(10,u6 v.2.1),(11,.ptr 4 0)],[.cells [i6 v.2.2.1,i6 v.2.2.2.1],.cells [i6 v.2.2.2.2.1,i6 v.2.2.2.2.2.1],.cells [i6 v.2.2.2.2.2.2.1,i6 v.2.2.2.2.2.2.2.1],.cells [.bool v.2.2.2.2.2.2.2.2.1,u6 v.2.2.2.2.2.2.2.2.2.1,u6 v.2.2.2.2.2.2.2.2.2.2.1],.cells [.bool v.2.2.2.2.2.2.2.2.2.2.2.1,u6 v.2.2.2.2.2.2.2.2.2.2.2.2.1,u6 v.2.2.2.2.2.2.2.2.2.2.2.2.2]]⟩
def q1t6 (C:q1s7) (v:q1t0):Dt q1t4:=(Dt.bnd (C.2.2.2.2.2.2.1 ((v.2.2.2.2.2.2.2.2.1,v.2.2.2.2.2.2.2.2.2.1,v.2.2.2.2.2.2.2.2.2.2,()),(v.2.1,()),())) fun r1=>(Dt.ret (v.1,v.2.1,v.2.2.1,v.2.2.2.1,v.2.2.2.2.1,v.2.2.2.2.2.1,v.2.2.2.2.2.2.1,v.2.2.2.2.2.2.2.1,v.2.2.2.2.2.2.2.2.1,v.2.2.2.2.2.2.2.2.2.1,v.2.2.2.2.2.2.2.2.2.2,r1.1,r1.2.1,r1.2.2.1)))
theorem q1t7 C v:q3q8 (regO (qdk f80) 7) false (an [2,3,4,6,7,10,11]) q1t1 q1t6 q1t5 C v:=rgI (by kernel_rfl)
def q1t8 (C:q1s7) (v:q1t4):Dt q1sk:=(Dt.ite (v.1 == (0:Int)) Dt.fail (Dt.ite (v.2.1 == (0:Int)) Dt.fail (Dt.bnd (C.2.2.1 (((IntKind.wrap .u64 (IntKind.wrap .i64 (Int.tdiv v.2.2.2.1 v.1))),()),((IntKind.wrap .u64 (Int.tdiv (IntKind.wrap .u64 v.2.2.2.2.2.1) v.2.1)),()),())) fun r1=>(Dt.bnd (C.2.2.2.2.2.1 ((v.2.2.2.2.2.2.2.2.1,()),(v.2.2.2.2.2.2.2.2.2.2.2.1,v.2.2.2.2.2.2.2.2.2.2.2.2.1,v.2.2.2.2.2.2.2.2.2.2.2.2.2,()),(r1.1,r1.2.1,r1.2.2,()),())) fun r2=>(Dt.ret (r2.2.2,r2.1,r2.2.1))))))
theorem q1t9 C v:q3q8 (regO (qdk f80) 8) true (an [4,5]) q1t5 q1t8 q1sl C v:=rgI (by kernel_rfl)
def q1ta (d:Nat) (x:q1s3):Option q1s4 :=
 (q1se (q1s8 d) (x.1.1,x.1.2.1,x.2.1.1,x.2.1.2.1)).eval fun y0 =>
 (q1si (q1s8 d) y0).eval fun y1 =>
 bif y1.1 then ((q1sm (q1s8 d) y1).eval fun y2 =>
 some (y2.2.1,y2.2.2,y2.1)) else ((q1sq (q1s8 d) y1).eval fun y3 =>
 (q1su (q1s8 d) y3).eval fun y4 =>
 (q1sy (q1s8 d) y4).eval fun y5 =>
 (q1t2 (q1s8 d) y5).eval fun y6 =>
 (q1t6 (q1s8 d) y6).eval fun y7 =>
 (q1t8 (q1s8 d) y7).eval fun y8 =>
 some (y8.2.1,y8.2.2,y8.1))
theorem q1tb (d:Nat):COK prog (q1s6 (q1ta d)):=by
 have hm:prog.follows .mixedOrders=true:=mixed
 have hT:=tys
 have hC0:OrcOK prog (orc (q1s9 (q1s8 d))):=qde (by
  intro S hS
  simp only [q1s9,List.mem_cons,List.not_mem_nil,or_false] at hS
  rcases hS with rfl | rfl | rfl | rfl | rfl | rfl | rfl
  · exact q1kg d
  · exact qn6 d
  · exact q1r5 d
  · exact q1oa d
  · exact q1jr d
  · exact q1s1 d
  · exact q1q5 d)
 have hC:OrcOK prog (orc (q1s9 (q1s8 d))):=hC0
 refine q93 (c:=qdk f80) (fn:=f80) hT (by kernel_rfl) (by kernel_rfl) (by decide) fun x r h w0 φ0 Q hend=>?_
 replace h:q1ta d x=some r:=h
 unfold q1ta at h
 show Run prog w0 φ0 78 (qdk f80) ⟨[(0,.agg [.int .i64 x.1.1,.int .i64 x.1.2.1]),(1,.agg [.int .i64 x.2.1.1,.int .i64 x.2.1.2.1])],[]⟩ Q
 refine q3pf hm hT hC (q1sf (q1s8 d) (x.1.1,x.1.2.1,x.2.1.1,x.2.1.2.1)) h fun y0 h=>?_
 refine q8m ?_
 refine q3pf hm hT hC (q1sj (q1s8 d) y0) h fun y1 h=>?_
 refine q8q (v:=y1.1) (by kernel_rfl) h ?_ ?_
 ·
  intro h
  refine q3pf hm hT hC (q1sn (q1s8 d) y1) h fun y2 h=>?_
  refine q8l (q8a ?_)
  cases h
  exact (hend _ (by kernel_rfl)).2
 ·
  intro h
  refine q8i (q88 ?_)
  refine q3pf hm hT hC (q1sr (q1s8 d) y1) h fun y3 h=>?_
  refine q3pf hm hT hC (q1sv (q1s8 d) y3) h fun y4 h=>?_
  refine q3pf hm hT hC (q1sz (q1s8 d) y4) h fun y5 h=>?_
  refine q3pf hm hT hC (q1t3 (q1s8 d) y5) h fun y6 h=>?_
  refine q3pf hm hT hC (q1t7 (q1s8 d) y6) h fun y7 h=>?_
  refine q3pf hm hT hC (q1t9 (q1s8 d) y7) h fun y8 h=>?_
  refine q8l ?_
  cases h
  exact (hend _ (by kernel_rfl)).2
abbrev q1tc:List Pk:=[.row Rii true,.row Rii true]
abbrev q1td:Type:=Dii×Dii×Unit
abbrev q1te:Type:=Int×Int×Int
def q1tf (r:q1te):LV×List Ob:=(.tup [.agg [.int .i64 r.1,.int .i64 r.2.1],.int .i64 r.2.2],[])
def q1tg (F:q1td→Option q1te):Go.Tx.Spec:=⟨57,q1tc,q1te,F,q1tf⟩
abbrev q1th:Type:=(q1s3→Option q1s4)×(q1j3→Option q1j4)×Unit
def q1ti (d:Nat):q1th:=(q1ta d,q1jq d,())
def q1tj (C:q1th):List Go.Tx.Spec:=[q1s6 C.1,q1j6 C.2.1]
abbrev q1tk:Type:=Int×Int×Int×Int
def q1tl (v:q1tk):St:=⟨[(0,.agg [i6 v.1,i6 v.2.1]),(1,.agg [i6 v.2.2.1,i6 v.2.2.2])],[]⟩
abbrev q1tm:Type:=Int×Int×Int×Int×Int×Int
def q1tn (v:q1tm):St:=⟨[(2,.ptr 0 0),(3,.ptr 1 0),(4,.ptr 2 0)],[.cells [i6 v.1,i6 v.2.1],.cells [i6 v.2.2.1,i6 v.2.2.2.1],.cells [i6 v.2.2.2.2.1,i6 v.2.2.2.2.2]]⟩
def q1to (C:q1th) (v:q1tk):Dt q1tm:=(Dt.ret (v.1,v.2.1,v.2.2.1,v.2.2.2,(0:Int),(0:Int)))
abbrev q3q9 {V Y:Type}:=@rg q1th V Y tysT (fun C=>(orc (q1tj C))) 24
theorem q1tp C v:q3q9 (regO (qdk f57) 0) false (an [2,3,4]) q1tl q1to q1tn C v:=rgI (by kernel_rfl)
abbrev q1tq:Type:=Bool×Int×Int×Int×Int×Int×Int
def q1tr (v:q1tq):St:=⟨[(2,.ptr 0 0),(3,.ptr 1 0),(4,.ptr 2 0),(9,.bool v.1)],[.cells [i6 v.2.1,i6 v.2.2.1],.cells [i6 v.2.2.2.1,i6 v.2.2.2.2.1],.cells [i6 v.2.2.2.2.2.1,i6 v.2.2.2.2.2.2]]⟩
def q1ts (C:q1th) (v:q1tm):Dt q1tq:=(Dt.bnd (C.2.1 ((v.1,v.2.1,()),(v.2.2.1,v.2.2.2.1,()),())) fun r1=>(Dt.ret ((r1 != (0:Int)),v.1,v.2.1,v.2.2.1,v.2.2.2.1,v.2.2.2.2.1,v.2.2.2.2.2)))
theorem q1tt C v:q3q9 (regO (qdk f57) 1) false (an [2,3,4,9]) q1tn q1ts q1tr C v:=rgI (by kernel_rfl)
abbrev q1tu:Type:=Int×Int×Int
def q1tv (v:q1tu):St:=⟨[(4,.ptr 0 0),(5,i6 v.1)],[.cells [i6 v.2.1,i6 v.2.2]]⟩
def q1tw (C:q1th) (v:q1tq):Dt q1tu:=(Dt.bnd (C.2.1 ((v.2.1,v.2.2.1,()),(v.2.2.2.1,v.2.2.2.2.1,()),())) fun r1=>(Dt.ret (r1,(0:Int),(0:Int))))
theorem q1tx C v:q3q9 (regO (qdk f57) 2) false (an [4,5]) q1tr q1tw q1tv C v:=rgI (by kernel_rfl)
def q1ty (C:q1th) (v:q1tq):Dt q1tu:=(Dt.bnd (C.1 ((v.2.1,v.2.2.1,()),((IntKind.wrap .i64 (0 - v.2.2.2.1)),v.2.2.2.2.1,()),())) fun r1=>(Dt.ret (r1.2.2,r1.1,r1.2.1)))
theorem q1tz C v:q3q9 (regO (qdk f57) 3) false (an [4,5]) q1tr q1ty q1tv C v:=rgI (by kernel_rfl)
def q1u0 (d:Nat) (x:q1td):Option q1te :=
 (q1to (q1ti d) (x.1.1,x.1.2.1,x.2.1.1,x.2.1.2.1)).eval fun y0 =>
 (q1ts (q1ti d) y0).eval fun y1 =>
 bif y1.1 then ((q1tw (q1ti d) y1).eval fun y2 =>
 some (y2.2.1,y2.2.2,y2.1)) else ((q1ty (q1ti d) y1).eval fun y3 =>
 some (y3.2.1,y3.2.2,y3.1))
theorem q1u1 (d:Nat):COK prog (q1tg (q1u0 d)):=by
 have hm:prog.follows .mixedOrders=true:=mixed
 have hT:=tys
 have hC0:OrcOK prog (orc (q1tj (q1ti d))):=qde (by
  intro S hS
  simp only [q1tj,List.mem_cons,List.not_mem_nil,or_false] at hS
  rcases hS with rfl | rfl
  · exact q1tb d
  · exact q1jr d)
 have hC:OrcOK prog (orc (q1tj (q1ti d))):=hC0
 refine q93 (c:=qdk f57) (fn:=f57) hT (by kernel_rfl) (by kernel_rfl) (by decide) fun x r h w0 φ0 Q hend=>?_
 replace h:q1u0 d x=some r:=h
 unfold q1u0 at h
 show Run prog w0 φ0 24 (qdk f57) ⟨[(0,.agg [.int .i64 x.1.1,.int .i64 x.1.2.1]),(1,.agg [.int .i64 x.2.1.1,.int .i64 x.2.1.2.1])],[]⟩ Q
 refine q3pf hm hT hC (q1tp (q1ti d) (x.1.1,x.1.2.1,x.2.1.1,x.2.1.2.1)) h fun y0 h=>?_
 refine q8m ?_
 refine q3pf hm hT hC (q1tt (q1ti d) y0) h fun y1 h=>?_
 refine q8q (v:=y1.1) (by kernel_rfl) h ?_ ?_
 ·
  intro h
  refine q3pf hm hT hC (q1tx (q1ti d) y1) h fun y2 h=>?_
  refine q8l (q8a ?_)
  cases h
  exact (hend _ (by kernel_rfl)).2
 ·
  intro h
  refine q8i (q88 ?_)
  refine q3pf hm hT hC (q1tz (q1ti d) y1) h fun y3 h=>?_
  refine q8l ?_
  cases h
  exact (hend _ (by kernel_rfl)).2
abbrev q1u2:List Pk:=[.row Ri false]
abbrev q1u3:Type:=Di×Unit
abbrev q1u4:Type:=Int
def q1u5 (r:q1u4):LV×List Ob:=(.int .u64 r,[])
def q1u6 (F:q1u3→Option q1u4):Go.Tx.Spec:=⟨46,q1u2,q1u4,F,q1u5⟩
abbrev q1u7:Type:=Unit
def q1u8 (_d:Nat):q1u7:=()
def q1u9 (C:q1u7):List Go.Tx.Spec:=[]
abbrev q1ua:Type:=Int
def q1ub (v:q1ua):St:=⟨[(0,i6 v)],[]⟩
def q1uc (C:q1u7) (v:q1ua):Dt q1ua:=(Dt.ret v)
abbrev q3qa {V Y:Type}:=@rg q1u7 V Y tysT (fun C=>(orc (q1u9 C))) 12
theorem q1ud C v:q3qa (regO (qdk f46) 0) false [(0,.any)] q1ub q1uc q1ub C v:=rgI (by kernel_rfl)
abbrev q1ue:Type:=Int×Bool
def q1uf (v:q1ue):St:=⟨[(0,i6 v.1),(4,.bool v.2)],[]⟩
def q1ug (C:q1u7) (v:q1ua):Dt q1ue:=(Dt.ret (v,(decide (v<(0:Int)))))
theorem q1uh C v:q3qa (regO (qdk f46) 1) false (an [0,4]) q1ub q1ug q1uf C v:=rgI (by kernel_rfl)
abbrev q1ui:Type:=Int
def q1uj (v:q1ui):St:=⟨[(2,u6 v)],[]⟩
def q1uk (C:q1u7) (v:q1ue):Dt q1ui:=(Dt.ret (IntKind.wrap .u64 ((IntKind.wrap .u64 (IntKind.wrap .i64 (0 - (IntKind.wrap .i64 (v.1+(1:Int))))))+(1:Int))))
theorem q1ul C v:q3qa (regO (qdk f46) 2) false [(2,.any)] q1uf q1uk q1uj C v:=rgI (by kernel_rfl)
def q1um (C:q1u7) (v:q1ue):Dt q1ui:=(Dt.ret (IntKind.wrap .u64 v.1))
theorem q1un C v:q3qa (regO (qdk f46) 3) false [(2,.any)] q1uf q1um q1uj C v:=rgI (by kernel_rfl)
def q1uo (d:Nat) (x:q1u3):Option q1u4 :=
 (q1uc (q1u8 d) x.1.1).eval fun y0 =>
 (q1ug (q1u8 d) y0).eval fun y1 =>
 bif y1.2 then ((q1uk (q1u8 d) y1).eval fun y2 =>
 some y2) else ((q1um (q1u8 d) y1).eval fun y3 =>
 some y3)
theorem q1up (d:Nat):COK prog (q1u6 (q1uo d)):=by
 have hm:prog.follows .mixedOrders=true:=mixed
 have hT:=tys
 have hC0:OrcOK prog (orc (q1u9 (q1u8 d))):=qde (by
  intro S hS
  simp only [q1u9,List.mem_cons,List.not_mem_nil,or_false] at hS
  all_goals first | cases hS | exact hS.elim)
 have hC:OrcOK prog (orc (q1u9 (q1u8 d))):=hC0
 refine q93 (c:=qdk f46) (fn:=f46) hT (by kernel_rfl) (by kernel_rfl) (by decide) fun x r h w0 φ0 Q hend=>?_
 replace h:q1uo d x=some r:=h
 unfold q1uo at h
 show Run prog w0 φ0 12 (qdk f46) ⟨[(0,.int .i64 x.1.1)],[]⟩ Q
 refine q3pf hm hT hC (q1ud (q1u8 d) x.1.1) h fun y0 h=>?_
 refine q8m ?_
 refine q3pf hm hT hC (q1uh (q1u8 d) y0) h fun y1 h=>?_
 refine q8q (v:=y1.2) (by kernel_rfl) h ?_ ?_
 ·
  intro h
  refine q3pf hm hT hC (q1ul (q1u8 d) y1) h fun y2 h=>?_
  refine q8l (q8a ?_)
  cases h
  exact (hend _ (by kernel_rfl)).2
 ·
  intro h
  refine q8i (q88 ?_)
  refine q3pf hm hT hC (q1un (q1u8 d) y1) h fun y3 h=>?_
  refine q8l ?_
  cases h
  exact (hend _ (by kernel_rfl)).2
abbrev q1uq:List Pk:=[.row Rii true,.row Rii true]
abbrev q1ur:Type:=Dii×Dii×Unit
abbrev q1us:Type:=Int×Int×Int
def q1ut (r:q1us):LV×List Ob:=(.tup [.agg [.int .i64 r.1,.int .i64 r.2.1],.int .i64 r.2.2],[])
def q1uu (F:q1ur→Option q1us):Go.Tx.Spec:=⟨79,q1uq,q1us,F,q1ut⟩
abbrev q1uv:Type:=(q1jt→Option q1ju)×(q1u3→Option q1u4)×(q1q7→Option q1q8)×(q1j3→Option q1j4)×(q1r7→Option q1r8)×Unit
def q1uw (d:Nat):q1uv:=(q1kf d,q1uo d,q1r4 d,q1jq d,q1s0 d,())
def q1ux (C:q1uv):List Go.Tx.Spec:=[q1jw C.1,q1u6 C.2.1,q1qa C.2.2.1,q1j6 C.2.2.2.1,q1ra C.2.2.2.2.1]
abbrev q1uy:Type:=Int×Int×Int×Int
def q1uz (v:q1uy):St:=⟨[(0,.agg [i6 v.1,i6 v.2.1]),(1,.agg [i6 v.2.2.1,i6 v.2.2.2])],[]⟩
abbrev q1v0:Type:=Int×Int×Int×Int×Int×Int
def q1v1 (v:q1v0):St:=⟨[(2,.ptr 0 0),(3,.ptr 1 0),(4,.ptr 2 0)],[.cells [i6 v.1,i6 v.2.1],.cells [i6 v.2.2.1,i6 v.2.2.2.1],.cells [i6 v.2.2.2.2.1,i6 v.2.2.2.2.2]]⟩
def q1v2 (C:q1uv) (v:q1uy):Dt q1v0:=(Dt.ret (v.1,v.2.1,v.2.2.1,v.2.2.2,(0:Int),(0:Int)))
abbrev q3qb {V Y:Type}:=@rg q1uv V Y tysT (fun C=>(orc (q1ux C))) 72
theorem q1v3 C v:q3qb (regO (qdk f79) 0) false (an [2,3,4]) q1uz q1v2 q1v1 C v:=rgI (by kernel_rfl)
abbrev q1v4:Type:=Bool×Int×Int×Int×Int×Int×Int
def q1v5 (v:q1v4):St:=⟨[(2,.ptr 0 0),(3,.ptr 1 0),(4,.ptr 2 0),(11,.bool v.1)],[.cells [i6 v.2.1,i6 v.2.2.1],.cells [i6 v.2.2.2.1,i6 v.2.2.2.2.1],.cells [i6 v.2.2.2.2.2.1,i6 v.2.2.2.2.2.2]]⟩
def q1v6 (C:q1uv) (v:q1v0):Dt q1v4:=(Dt.bnd (C.2.2.2.1 ((v.1,v.2.1,()),(v.2.2.1,v.2.2.2.1,()),())) fun r1=>(Dt.ret ((r1 != (0:Int)),v.1,v.2.1,v.2.2.1,v.2.2.2.1,v.2.2.2.2.1,v.2.2.2.2.2)))
theorem q1v7 C v:q3qb (regO (qdk f79) 1) false (an [2,3,4,11]) q1v1 q1v6 q1v5 C v:=rgI (by kernel_rfl)
abbrev q1v8:Type:=Int×Int×Int
def q1v9 (v:q1v8):St:=⟨[(4,.ptr 0 0),(5,i6 v.1)],[.cells [i6 v.2.1,i6 v.2.2]]⟩
def q1va (C:q1uv) (v:q1v4):Dt q1v8:=(Dt.bnd (C.2.2.2.1 ((v.2.1,v.2.2.1,()),(v.2.2.2.1,v.2.2.2.2.1,()),())) fun r1=>(Dt.ret (r1,(0:Int),(0:Int))))
theorem q1vb C v:q3qb (regO (qdk f79) 2) false (an [4,5]) q1v5 q1va q1v9 C v:=rgI (by kernel_rfl)
abbrev q1vc:Type:=Int×Int×Int×Int×Int×Int×Int×Int
def q1vd (v:q1vc):St:=⟨[(2,.ptr 0 0),(3,.ptr 1 0),(4,.ptr 2 0),(6,u6 v.1),(7,u6 v.2.1)],[.cells [i6 v.2.2.1,i6 v.2.2.2.1],.cells [i6 v.2.2.2.2.1,i6 v.2.2.2.2.2.1],.cells [i6 v.2.2.2.2.2.2.1,i6 v.2.2.2.2.2.2.2]]⟩
def q1ve (C:q1uv) (v:q1v4):Dt q1vc:=(Dt.bnd (C.2.1 ((v.2.1,()),())) fun r1=>(Dt.bnd (C.1 ((r1,()),((IntKind.wrap .u64 v.2.2.2.2.1),()),())) fun r2=>(Dt.bnd (C.2.1 ((v.2.2.2.1,()),())) fun r3=>(Dt.bnd (C.1 ((r3,()),((IntKind.wrap .u64 v.2.2.1),()),())) fun r4=>(Dt.ret (r2,r4,v.2.1,v.2.2.1,v.2.2.2.1,v.2.2.2.2.1,v.2.2.2.2.2.1,v.2.2.2.2.2.2))))))
theorem q1vf C v:q3qb (regO (qdk f79) 3) true (an [2,3,4,6,7]) q1v5 q1ve q1vd C v:=rgI (by kernel_rfl)
def q1vg (C:q1uv) (v:q1vc):Dt q1v8:=(Dt.ite (!((decide (v.2.2.1<(0:Int))) == (decide (v.2.2.2.2.1<(0:Int))))) (Dt.ite (v.2.2.1 != (0:Int)) (Dt.bnd (C.2.1 ((v.2.2.1,()),())) fun r1=>(Dt.ite (v.1 == (0:Int)) Dt.fail (Dt.bnd (C.2.1 ((v.2.2.2.2.1,()),())) fun r2=>(Dt.ite (v.2.1 == (0:Int)) Dt.fail (Dt.bnd (C.2.2.1 (((IntKind.wrap .u64 (Int.tdiv r1 v.1)),()),((IntKind.wrap .u64 (Int.tdiv r2 v.2.1)),()),())) fun r3=>(Dt.ite (v.2.1 == (0:Int)) Dt.fail (Dt.ite (v.1 == (0:Int)) Dt.fail (Dt.bnd (C.2.2.1 (((IntKind.wrap .u64 (Int.tdiv (IntKind.wrap .u64 v.2.2.2.1) v.2.1)),()),((IntKind.wrap .u64 (Int.tdiv (IntKind.wrap .u64 v.2.2.2.2.2.1) v.1)),()),())) fun r4=>(Dt.bnd (C.2.2.2.2.1 (((v.2.2.2.2.1 != (0:Int)),()),(r3.1,r3.2.1,r3.2.2,()),(r4.1,r4.2.1,r4.2.2,()),())) fun r5=>(Dt.ret (r5.2.2,r5.1,r5.2.1))))))))))) (Dt.bnd (C.2.1 ((v.2.2.1,()),())) fun r6=>(Dt.ite (v.1 == (0:Int)) Dt.fail (Dt.bnd (C.2.1 ((v.2.2.2.2.1,()),())) fun r7=>(Dt.ite (v.2.1 == (0:Int)) Dt.fail (Dt.bnd (C.2.2.1 (((IntKind.wrap .u64 (Int.tdiv r6 v.1)),()),((IntKind.wrap .u64 (Int.tdiv r7 v.2.1)),()),())) fun r8=>(Dt.ite (v.2.1 == (0:Int)) Dt.fail (Dt.ite (v.1 == (0:Int)) Dt.fail (Dt.bnd (C.2.2.1 (((IntKind.wrap .u64 (Int.tdiv (IntKind.wrap .u64 v.2.2.2.1) v.2.1)),()),((IntKind.wrap .u64 (Int.tdiv (IntKind.wrap .u64 v.2.2.2.2.2.1) v.1)),()),())) fun r9=>(Dt.bnd (C.2.2.2.2.1 ((false,()),(r8.1,r8.2.1,r8.2.2,()),(r9.1,r9.2.1,r9.2.2,()),())) fun r10=>(Dt.ret (r10.2.2,r10.1,r10.2.1)))))))))))) (Dt.bnd (C.2.1 ((v.2.2.1,()),())) fun r11=>(Dt.ite (v.1 == (0:Int)) Dt.fail (Dt.bnd (C.2.1 ((v.2.2.2.2.1,()),())) fun r12=>(Dt.ite (v.2.1 == (0:Int)) Dt.fail (Dt.bnd (C.2.2.1 (((IntKind.wrap .u64 (Int.tdiv r11 v.1)),()),((IntKind.wrap .u64 (Int.tdiv r12 v.2.1)),()),())) fun r13=>(Dt.ite (v.2.1 == (0:Int)) Dt.fail (Dt.ite (v.1 == (0:Int)) Dt.fail (Dt.bnd (C.2.2.1 (((IntKind.wrap .u64 (Int.tdiv (IntKind.wrap .u64 v.2.2.2.1) v.2.1)),()),((IntKind.wrap .u64 (Int.tdiv (IntKind.wrap .u64 v.2.2.2.2.2.1) v.1)),()),())) fun r14=>(Dt.bnd (C.2.2.2.2.1 ((false,()),(r13.1,r13.2.1,r13.2.2,()),(r14.1,r14.2.1,r14.2.2,()),())) fun r15=>(Dt.ret (r15.2.2,r15.1,r15.2.1))))))))))))
theorem q1vh C v:q3qb (regO (qdk f79) 4) true (an [4,5]) q1vd q1vg q1v9 C v:=rgI (by kernel_rfl)
def q1vi (d:Nat) (x:q1ur):Option q1us :=
 (q1v2 (q1uw d) (x.1.1,x.1.2.1,x.2.1.1,x.2.1.2.1)).eval fun y0 =>
 (q1v6 (q1uw d) y0).eval fun y1 =>
 bif y1.1 then ((q1va (q1uw d) y1).eval fun y2 =>
 some (y2.2.1,y2.2.2,y2.1)) else ((q1ve (q1uw d) y1).eval fun y3 =>
 (q1vg (q1uw d) y3).eval fun y4 =>
 some (y4.2.1,y4.2.2,y4.1))
theorem q1vj (d:Nat):COK prog (q1uu (q1vi d)):=by
 have hm:prog.follows .mixedOrders=true:=mixed
 have hT:=tys
 have hC0:OrcOK prog (orc (q1ux (q1uw d))):=qde (by
  intro S hS
  simp only [q1ux,List.mem_cons,List.not_mem_nil,or_false] at hS
  rcases hS with rfl | rfl | rfl | rfl | rfl
  · exact q1kg d
  · exact q1up d
  · exact q1r5 d
  · exact q1jr d
  · exact q1s1 d)
 have hC:OrcOK prog (orc (q1ux (q1uw d))):=hC0
 refine q93 (c:=qdk f79) (fn:=f79) hT (by kernel_rfl) (by kernel_rfl) (by decide) fun x r h w0 φ0 Q hend=>?_
 replace h:q1vi d x=some r:=h
 unfold q1vi at h
 show Run prog w0 φ0 72 (qdk f79) ⟨[(0,.agg [.int .i64 x.1.1,.int .i64 x.1.2.1]),(1,.agg [.int .i64 x.2.1.1,.int .i64 x.2.1.2.1])],[]⟩ Q
 refine q3pf hm hT hC (q1v3 (q1uw d) (x.1.1,x.1.2.1,x.2.1.1,x.2.1.2.1)) h fun y0 h=>?_
 refine q8m ?_
 refine q3pf hm hT hC (q1v7 (q1uw d) y0) h fun y1 h=>?_
 refine q8q (v:=y1.1) (by kernel_rfl) h ?_ ?_
 ·
  intro h
  refine q3pf hm hT hC (q1vb (q1uw d) y1) h fun y2 h=>?_
  refine q8l (q8a ?_)
  cases h
  exact (hend _ (by kernel_rfl)).2
 ·
  intro h
  refine q8i (q88 ?_)
  refine q3pf hm hT hC (q1vf (q1uw d) y1) h fun y3 h=>?_
  refine q3pf hm hT hC (q1vh (q1uw d) y3) h fun y4 h=>?_
  refine q8l ?_
  cases h
  exact (hend _ (by kernel_rfl)).2
abbrev q1vk:List Pk:=[.row Rbuu true,.row Ri false]
abbrev q1vl:Type:=Dbuu×Di×Unit
abbrev q1vm:Type:=Int×Int×Int
def q1vn (r:q1vm):LV×List Ob:=(.tup [.agg [.int .i64 r.1,.int .i64 r.2.1],.int .i64 r.2.2],[])
def q1vo (F:q1vl→Option q1vm):Go.Tx.Spec:=⟨82,q1vk,q1vm,F,q1vn⟩
abbrev q1vp:Type:=(q1jt→Option q1ju)×(q1r7→Option q1r8)×(q1oc→Option q1od)×Unit
def q1vq (d:Nat):q1vp:=(q1kf d,q1s0 d,q1q4 d,())
def q1vr (C:q1vp):List Go.Tx.Spec:=[q1jw C.1,q1ra C.2.1,q1of C.2.2.1]
abbrev q1vs:Type:=Bool×Int×Int×Int
def q1vt (v:q1vs):St:=⟨[(0,.agg [.bool v.1,u6 v.2.1,u6 v.2.2.1]),(1,i6 v.2.2.2)],[]⟩
abbrev q1vu:Type:=Int×Bool×Int×Int×Int×Int
def q1vv (v:q1vu):St:=⟨[(1,i6 v.1),(2,.ptr 0 0),(4,.ptr 1 0)],[.cells [.bool v.2.1,u6 v.2.2.1,u6 v.2.2.2.1],.cells [i6 v.2.2.2.2.1,i6 v.2.2.2.2.2]]⟩
def q1vw (C:q1vp) (v:q1vs):Dt q1vu:=(Dt.ret (v.2.2.2,v.1,v.2.1,v.2.2.1,(0:Int),(0:Int)))
abbrev q3qc {V Y:Type}:=@rg q1vp V Y tysT (fun C=>(orc (q1vr C))) 39
theorem q1vx C v:q3qc (regO (qdk f82) 0) false (an [1,2,4]) q1vt q1vw q1vv C v:=rgI (by kernel_rfl)
abbrev q1vy:Type:=Int×Int×Bool×Int×Int×Int×Int
def q1vz (v:q1vy):St:=⟨[(1,i6 v.1),(2,.ptr 0 0),(4,.ptr 1 0),(7,u6 v.2.1)],[.cells [.bool v.2.2.1,u6 v.2.2.2.1,u6 v.2.2.2.2.1],.cells [i6 v.2.2.2.2.2.1,i6 v.2.2.2.2.2.2]]⟩
def q1w0 (C:q1vp) (v:q1vu):Dt q1vy:=(Dt.bnd (C.2.2.1 ((v.2.1,v.2.2.1,v.2.2.2.1,()),((IntKind.wrap .u64 v.1),()),())) fun r1=>(Dt.ret (v.1,r1.2.2.2,v.2.1,v.2.2.1,v.2.2.2.1,v.2.2.2.2.1,v.2.2.2.2.2)))
theorem q1w1 C v:q3qc (regO (qdk f82) 1) false (an [1,2,4,7]) q1vv q1w0 q1vz C v:=rgI (by kernel_rfl)
abbrev q1w2:Type:=Int×Int×Bool×Int×Int×Int×Int
def q1w3 (v:q1w2):St:=⟨[(1,i6 v.1),(2,.ptr 0 0),(4,.ptr 1 0),(8,u6 v.2.1)],[.cells [.bool v.2.2.1,u6 v.2.2.2.1,u6 v.2.2.2.2.1],.cells [i6 v.2.2.2.2.2.1,i6 v.2.2.2.2.2.2]]⟩
def q1w4 (C:q1vp) (v:q1vy):Dt q1w2:=(Dt.bnd (C.1 (((IntKind.wrap .u64 v.1),()),(v.2.1,()),())) fun r1=>(Dt.ret (v.1,r1,v.2.2.1,v.2.2.2.1,v.2.2.2.2.1,v.2.2.2.2.2.1,v.2.2.2.2.2.2)))
theorem q1w5 C v:q3qc (regO (qdk f82) 2) false (an [1,2,4,8]) q1vz q1w4 q1w3 C v:=rgI (by kernel_rfl)
abbrev q1w6:Type:=Int×Int×Bool×Int×Int×Int×Int×Bool×Int×Int
def q1w7 (v:q1w6):St:=⟨[(1,i6 v.1),(2,.ptr 0 0),(4,.ptr 1 0),(8,u6 v.2.1),(9,.ptr 2 0)],[.cells [.bool v.2.2.1,u6 v.2.2.2.1,u6 v.2.2.2.2.1],.cells [i6 v.2.2.2.2.2.1,i6 v.2.2.2.2.2.2.1],.cells [.bool v.2.2.2.2.2.2.2.1,u6 v.2.2.2.2.2.2.2.2.1,u6 v.2.2.2.2.2.2.2.2.2]]⟩
def q1w8 (C:q1vp) (v:q1w2):Dt q1w6:=(Dt.bnd (C.2.2.1 ((v.2.2.1,v.2.2.2.1,v.2.2.2.2.1,()),(v.2.1,()),())) fun r1=>(Dt.ret (v.1,v.2.1,v.2.2.1,v.2.2.2.1,v.2.2.2.2.1,v.2.2.2.2.2.1,v.2.2.2.2.2.2,r1.1,r1.2.1,r1.2.2.1)))
theorem q1w9 C v:q3qc (regO (qdk f82) 3) false (an [1,2,4,8,9]) q1w3 q1w8 q1w7 C v:=rgI (by kernel_rfl)
abbrev q1wa:Type:=Int×Int×Int
def q1wb (v:q1wa):St:=⟨[(4,.ptr 0 0),(5,i6 v.1)],[.cells [i6 v.2.1,i6 v.2.2]]⟩
def q1wc (C:q1vp) (v:q1w6):Dt q1wa:=(Dt.ite (v.2.1 == (0:Int)) Dt.fail (Dt.bnd (C.2.1 ((v.2.2.1,()),(v.2.2.2.2.2.2.2.1,v.2.2.2.2.2.2.2.2.1,v.2.2.2.2.2.2.2.2.2,()),(false,(0:Int),(IntKind.wrap .u64 (Int.tdiv (IntKind.wrap .u64 v.1) v.2.1)),()),())) fun r1=>(Dt.ret (r1.2.2,r1.1,r1.2.1))))
theorem q1wd C v:q3qc (regO (qdk f82) 4) true (an [4,5]) q1w7 q1wc q1wb C v:=rgI (by kernel_rfl)
def q1we (d:Nat) (x:q1vl):Option q1vm :=
 (q1vw (q1vq d) (x.1.1,x.1.2.1,x.1.2.2.1,x.2.1.1)).eval fun y0 =>
 (q1w0 (q1vq d) y0).eval fun y1 =>
 (q1w4 (q1vq d) y1).eval fun y2 =>
 (q1w8 (q1vq d) y2).eval fun y3 =>
 (q1wc (q1vq d) y3).eval fun y4 =>
 some (y4.2.1,y4.2.2,y4.1)
theorem q1wf (d:Nat):COK prog (q1vo (q1we d)):=by
 have hm:prog.follows .mixedOrders=true:=mixed
 have hT:=tys
 have hC0:OrcOK prog (orc (q1vr (q1vq d))):=qde (by
  intro S hS
  simp only [q1vr,List.mem_cons,List.not_mem_nil,or_false] at hS
  rcases hS with rfl | rfl | rfl
  · exact q1kg d
  · exact q1s1 d
  · exact q1q5 d)
 have hC:OrcOK prog (orc (q1vr (q1vq d))):=hC0
 refine q93 (c:=qdk f82) (fn:=f82) hT (by kernel_rfl) (by kernel_rfl) (by decide) fun x r h w0 φ0 Q hend=>?_
 replace h:q1we d x=some r:=h
 unfold q1we at h
 show Run prog w0 φ0 39 (qdk f82) ⟨[(0,.agg [.bool x.1.1,.int .u64 x.1.2.1,.int .u64 x.1.2.2.1]),(1,.int .i64 x.2.1.1)],[]⟩ Q
 refine q3pf hm hT hC (q1vx (q1vq d) (x.1.1,x.1.2.1,x.1.2.2.1,x.2.1.1)) h fun y0 h=>?_
 refine q3pf hm hT hC (q1w1 (q1vq d) y0) h fun y1 h=>?_
 refine q3pf hm hT hC (q1w5 (q1vq d) y1) h fun y2 h=>?_
 refine q3pf hm hT hC (q1w9 (q1vq d) y2) h fun y3 h=>?_
 refine q3pf hm hT hC (q1wd (q1vq d) y3) h fun y4 h=>?_
 refine q8l ?_
 cases h
 exact (hend _ (by kernel_rfl)).2
abbrev q1wg:List Pk:=[.row Riii true,.row Rii true]
abbrev q1wh:Type:=Diii×Dii×Unit
abbrev q1wi:Type:=Int×Int×Int
def q1wj (r:q1wi):LV×List Ob:=(.tup [.agg [.int .i64 r.1,.int .i64 r.2.1],.int .i64 r.2.2],[])
def q1wk (F:q1wh→Option q1wi):Go.Tx.Spec:=⟨56,q1wg,q1wi,F,q1wj⟩
abbrev q1wl:Type:=(qnh→Option qni)×(qmz→Option qn0)×(qnz→Option qo0)×(q1ur→Option q1us)×(q1s3→Option q1s4)×(q1mn→Option q1mo)×(q1vl→Option q1vm)×Unit
def q1wm (d:Nat):q1wl:=(qnm d,qn4 d,qo4 d,q1vi d,q1ta d,q1o9 d,q1we d,())
def q1wn (C:q1wl):List Go.Tx.Spec:=[qnk C.1,qn2 C.2.1,qo2 C.2.2.1,q1uu C.2.2.2.1,q1s6 C.2.2.2.2.1,q1mq C.2.2.2.2.2.1,q1vo C.2.2.2.2.2.2.1]
abbrev q1wo:Type:=Int×Int×Int×Int×Int
def q1wp (v:q1wo):St:=⟨[(0,.agg [i6 v.1,i6 v.2.1,i6 v.2.2.1]),(1,.agg [i6 v.2.2.2.1,i6 v.2.2.2.2])],[]⟩
abbrev q1wq:Type:=Int×Int×Int×Int×Int×Int×Int
def q1wr (v:q1wq):St:=⟨[(2,.ptr 0 0),(3,.ptr 1 0),(4,.ptr 2 0)],[.cells [i6 v.1,i6 v.2.1,i6 v.2.2.1],.cells [i6 v.2.2.2.1,i6 v.2.2.2.2.1],.cells [i6 v.2.2.2.2.2.1,i6 v.2.2.2.2.2.2]]⟩
def q1ws (C:q1wl) (v:q1wo):Dt q1wq:=(Dt.ret (v.1,v.2.1,v.2.2.1,v.2.2.2.1,v.2.2.2.2,(0:Int),(0:Int)))
abbrev q3qd {V Y:Type}:=@rg q1wl V Y tysT (fun C=>(orc (q1wn C))) 52
theorem q1wt C v:q3qd (regO (qdk f56) 0) false (an [2,3,4]) q1wp q1ws q1wr C v:=rgI (by kernel_rfl)
abbrev q1wu:Type:=Bool×Int×Int×Int×Int×Int×Int×Int
def q1wv (v:q1wu):St:=⟨[(2,.ptr 0 0),(3,.ptr 1 0),(4,.ptr 2 0),(16,.bool v.1)],[.cells [i6 v.2.1,i6 v.2.2.1,i6 v.2.2.2.1],.cells [i6 v.2.2.2.2.1,i6 v.2.2.2.2.2.1],.cells [i6 v.2.2.2.2.2.2.1,i6 v.2.2.2.2.2.2.2]]⟩
def q1ww (C:q1wl) (v:q1wq):Dt q1wu:=(Dt.bnd (C.2.2.1 ((v.1,v.2.1,v.2.2.1,()),())) fun r1=>(Dt.ite (r1 != (0:Int)) (Dt.ret (true,v.1,v.2.1,v.2.2.1,v.2.2.2.1,v.2.2.2.2.1,v.2.2.2.2.2.1,v.2.2.2.2.2.2)) (Dt.bnd (C.1 ((v.2.2.2.1,v.2.2.2.2.1,()),())) fun r2=>(Dt.ret ((r2 != (0:Int)),v.1,v.2.1,v.2.2.1,v.2.2.2.1,v.2.2.2.2.1,v.2.2.2.2.2.1,v.2.2.2.2.2.2)))))
theorem q1wx C v:q3qd (regO (qdk f56) 1) false (an [2,3,4,16]) q1wr q1ww q1wv C v:=rgI (by kernel_rfl)
abbrev q1wy:Type:=Int×Int×Int
def q1wz (v:q1wy):St:=⟨[(4,.ptr 0 0),(5,i6 v.1)],[.cells [i6 v.2.1,i6 v.2.2]]⟩
def q1x0 (C:q1wl) (v:q1wu):Dt q1wy:=(Dt.ret ((8:Int),(0:Int),(0:Int)))
theorem q1x1 C v:q3qd (regO (qdk f56) 2) false (an [4,5]) q1wv q1x0 q1wz C v:=rgI (by kernel_rfl)
abbrev q1x2:Type:=Int×Int×Int×Int×Int×Int×Int×Int×Int×Int
def q1x3 (v:q1x2):St:=⟨[(2,.ptr 0 0),(3,.ptr 1 0),(4,.ptr 2 0),(6,.ptr 3 0),(7,i6 v.1)],[.cells [i6 v.2.1,i6 v.2.2.1,i6 v.2.2.2.1],.cells [i6 v.2.2.2.2.1,i6 v.2.2.2.2.2.1],.cells [i6 v.2.2.2.2.2.2.1,i6 v.2.2.2.2.2.2.2.1],.cells [i6 v.2.2.2.2.2.2.2.2.1,i6 v.2.2.2.2.2.2.2.2.2]]⟩
def q1x4 (C:q1wl) (v:q1wu):Dt q1x2:=(Dt.bnd (C.2.2.2.1 ((v.2.2.2.1,(1:Int),()),(v.2.2.2.2.1,v.2.2.2.2.2.1,()),())) fun r1=>(Dt.ret (r1.2.2,v.2.1,v.2.2.1,v.2.2.2.1,v.2.2.2.2.1,v.2.2.2.2.2.1,v.2.2.2.2.2.2.1,v.2.2.2.2.2.2.2,r1.1,r1.2.1)))
theorem q1x5 C v:q3qd (regO (qdk f56) 3) false (an [2,3,4,6,7]) q1wv q1x4 q1x3 C v:=rgI (by kernel_rfl)
abbrev q1x6:Type:=Bool×Int×Int×Int×Int×Int×Int×Int×Int×Int
def q1x7 (v:q1x6):St:=⟨[(2,.ptr 0 0),(3,.ptr 1 0),(4,.ptr 2 0),(6,.ptr 3 0),(27,.bool v.1)],[.cells [i6 v.2.1,i6 v.2.2.1,i6 v.2.2.2.1],.cells [i6 v.2.2.2.2.1,i6 v.2.2.2.2.2.1],.cells [i6 v.2.2.2.2.2.2.1,i6 v.2.2.2.2.2.2.2.1],.cells [i6 v.2.2.2.2.2.2.2.2.1,i6 v.2.2.2.2.2.2.2.2.2]]⟩
def q1x8 (C:q1wl) (v:q1x2):Dt q1x6:=(Dt.ret ((v.1 == (0:Int)),v.2.1,v.2.2.1,v.2.2.2.1,v.2.2.2.2.1,v.2.2.2.2.2.1,v.2.2.2.2.2.2.1,v.2.2.2.2.2.2.2.1,v.2.2.2.2.2.2.2.2.1,v.2.2.2.2.2.2.2.2.2))
theorem q1x9 C v:q3qd (regO (qdk f56) 4) false (an [2,3,4,6,27]) q1x3 q1x8 q1x7 C v:=rgI (by kernel_rfl)
def q1xa (C:q1wl) (v:q1x6):Dt q1wy:=(Dt.bnd (C.2.2.2.2.1 ((v.2.2.1,(1:Int),()),(v.2.2.2.2.2.2.2.2.1,v.2.2.2.2.2.2.2.2.2,()),())) fun r1=>(Dt.ret (r1.2.2,r1.1,r1.2.1)))
theorem q1xb C v:q3qd (regO (qdk f56) 5) false (an [4,5]) q1x7 q1xa q1wz C v:=rgI (by kernel_rfl)
abbrev q1xc:Type:=Int×Int×Int×Int×Bool×Int×Int
def q1xd (v:q1xc):St:=⟨[(3,.ptr 0 0),(4,.ptr 1 0),(8,.ptr 2 0)],[.cells [i6 v.1,i6 v.2.1],.cells [i6 v.2.2.1,i6 v.2.2.2.1],.cells [.bool v.2.2.2.2.1,u6 v.2.2.2.2.2.1,u6 v.2.2.2.2.2.2]]⟩
def q1xe (C:q1wl) (v:q1x6):Dt q1xc:=(Dt.bnd (C.2.1 ((v.2.2.1,()),(v.2.2.2.2.2.1,()),())) fun r1=>(Dt.bnd (C.2.1 ((v.2.2.2.1,()),(v.2.2.2.2.1,()),())) fun r2=>(Dt.bnd (C.2.2.2.2.2.1 ((r1.1,r1.2.1,r1.2.2,()),(r2.1,r2.2.1,r2.2.2,()),())) fun r3=>(Dt.ret (v.2.2.2.2.1,v.2.2.2.2.2.1,v.2.2.2.2.2.2.1,v.2.2.2.2.2.2.2.1,r3.1,r3.2.1,r3.2.2)))))
theorem q1xf C v:q3qd (regO (qdk f56) 6) true (an [3,4,8]) q1x7 q1xe q1xd C v:=rgI (by kernel_rfl)
def q1xg (C:q1wl) (v:q1xc):Dt q1wy:=(Dt.bnd (C.2.2.2.2.2.2.1 ((v.2.2.2.2.1,v.2.2.2.2.2.1,v.2.2.2.2.2.2,()),(v.2.1,()),())) fun r1=>(Dt.ret (r1.2.2,r1.1,r1.2.1)))
theorem q1xh C v:q3qd (regO (qdk f56) 7) false (an [4,5]) q1xd q1xg q1wz C v:=rgI (by kernel_rfl)
def q1xi (d:Nat) (x:q1wh):Option q1wi :=
 (q1ws (q1wm d) (x.1.1,x.1.2.1,x.1.2.2.1,x.2.1.1,x.2.1.2.1)).eval fun y0 =>
 (q1ww (q1wm d) y0).eval fun y1 =>
 bif y1.1 then ((q1x0 (q1wm d) y1).eval fun y2 =>
 some (y2.2.1,y2.2.2,y2.1)) else ((q1x4 (q1wm d) y1).eval fun y3 =>
 (q1x8 (q1wm d) y3).eval fun y4 =>
 bif y4.1 then ((q1xa (q1wm d) y4).eval fun y5 =>
 some (y5.2.1,y5.2.2,y5.1)) else ((q1xe (q1wm d) y4).eval fun y6 =>
 (q1xg (q1wm d) y6).eval fun y7 =>
 some (y7.2.1,y7.2.2,y7.1)))
theorem q1xj (d:Nat):COK prog (q1wk (q1xi d)):=by
 have hm:prog.follows .mixedOrders=true:=mixed
 have hT:=tys
 have hC0:OrcOK prog (orc (q1wn (q1wm d))):=qde (by
  intro S hS
  simp only [q1wn,List.mem_cons,List.not_mem_nil,or_false] at hS
  rcases hS with rfl | rfl | rfl | rfl | rfl | rfl | rfl
  · exact qno d
  · exact qn6 d
  · exact qo6 d
  · exact q1vj d
  · exact q1tb d
  · exact q1oa d
  · exact q1wf d)
 have hC:OrcOK prog (orc (q1wn (q1wm d))):=hC0
 refine q93 (c:=qdk f56) (fn:=f56) hT (by kernel_rfl) (by kernel_rfl) (by decide) fun x r h w0 φ0 Q hend=>?_
 replace h:q1xi d x=some r:=h
 unfold q1xi at h
 show Run prog w0 φ0 52 (qdk f56) ⟨[(0,.agg [.int .i64 x.1.1,.int .i64 x.1.2.1,.int .i64 x.1.2.2.1]),(1,.agg [.int .i64 x.2.1.1,.int .i64 x.2.1.2.1])],[]⟩ Q
 refine q3pf hm hT hC (q1wt (q1wm d) (x.1.1,x.1.2.1,x.1.2.2.1,x.2.1.1,x.2.1.2.1)) h fun y0 h=>?_
 refine q8m ?_
 refine q3pf hm hT hC (q1wx (q1wm d) y0) h fun y1 h=>?_
 refine q8q (v:=y1.1) (by kernel_rfl) h ?_ ?_
 ·
  intro h
  refine q3pf hm hT hC (q1x1 (q1wm d) y1) h fun y2 h=>?_
  refine q8l (q8a ?_)
  cases h
  exact (hend _ (by kernel_rfl)).2
 ·
  intro h
  refine q8i (q88 ?_)
  refine q3pf hm hT hC (q1x5 (q1wm d) y1) h fun y3 h=>?_
  refine q8m ?_
  refine q3pf hm hT hC (q1x9 (q1wm d) y3) h fun y4 h=>?_
  refine q8q (v:=y4.1) (by kernel_rfl) h ?_ ?_
  ·
   intro h
   refine q3pf hm hT hC (q1xb (q1wm d) y4) h fun y5 h=>?_
   refine q8l (q8a ?_)
   cases h
   exact (hend _ (by kernel_rfl)).2
  ·
   intro h
   refine q8i (q88 ?_)
   refine q3pf hm hT hC (q1xf (q1wm d) y4) h fun y6 h=>?_
   refine q3pf hm hT hC (q1xh (q1wm d) y6) h fun y7 h=>?_
   refine q8l ?_
   cases h
   exact (hend _ (by kernel_rfl)).2
end Go.Proofs.YtbjpmdhdoggobaaGreat
