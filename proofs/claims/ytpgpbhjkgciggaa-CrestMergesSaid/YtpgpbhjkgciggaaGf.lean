/- Walks of the references; the orders agree; examples. -/
import Derived.Test.YtpgpbhjkgciggaaRows
import Derived.ProofKit
import Derived.OpenShut
import Derived.ShutString
import Derived.ChangeOld
import Derived.Deep.Slices
import Derived.Test.YtpgpbhjkgciggaaGe
set_option linter.unusedSimpArgs false
set_option linter.unusedVariables false
namespace Go.Proofs.Ytpgpbhjkgciggaa
open Go Go.Tx Go.Proofs.Try
set_option maxRecDepth 100000
set_option maxHeartbeats 0
abbrev q1tf:List Pk:=[.row Rbuu true]
abbrev q1tg:Type:=Dbuu×Unit
abbrev q1th:Type:=Int
def q1ti (r:q1th):LV×List Ob:=(.int .i64 r,[])
def q1tj (F:q1tg→Option q1th):Go.Tx.Spec:=⟨85,q1tf,q1th,F,q1ti⟩
abbrev q1tk:Type:=Unit
def q1tl (_d:Nat):q1tk:=()
def q1tm (C:q1tk):List Go.Tx.Spec:=[]
abbrev q1tn:Type:=Bool×Int×Int
def q1to (v:q1tn):St:=⟨[(0,.agg [.bool v.1,u6 v.2.1,u6 v.2.2])],[]⟩
abbrev q1tp:Type:=Bool×Int×Int
def q1tq (v:q1tp):St:=⟨[(1,.ptr 0 0)],[.cells [.bool v.1,u6 v.2.1,u6 v.2.2]]⟩
def q1tr (C:q1tk) (v:q1tn):Dt q1tp:=(Dt.ret (v.1,v.2.1,v.2.2))
abbrev q2kj {V Y:Type}:=@rg q1tk V Y tysT (fun C=>(orc (q1tm C))) 13
theorem q1ts C v:q2kj (regO (qdv f85) 0) false [(1,.any)] q1to q1tr q1tq C v:=rgI (by kernel_rfl)
abbrev q1tt:Type:=Bool×Bool×Int×Int
def q1tu (v:q1tt):St:=⟨[(1,.ptr 0 0),(10,.bool v.1)],[.cells [.bool v.2.1,u6 v.2.2.1,u6 v.2.2.2]]⟩
def q1tv (C:q1tk) (v:q1tp):Dt q1tt:=(Dt.ite (v.2.1 == (0:Int)) (Dt.ret ((v.2.2 == (0:Int)),v.1,v.2.1,v.2.2)) (Dt.ret (false,v.1,v.2.1,v.2.2)))
theorem q1tw C v:q2kj (regO (qdv f85) 1) false (an [1,10]) q1tq q1tv q1tu C v:=rgI (by kernel_rfl)
abbrev q1tx:Type:=Int
def q1ty (v:q1tx):St:=⟨[(2,i6 v)],[]⟩
def q1tz (C:q1tk) (v:q1tt):Dt q1tx:=(Dt.ret (0:Int))
theorem q1u0 C v:q2kj (regO (qdv f85) 2) false [(2,.any)] q1tu q1tz q1ty C v:=rgI (by kernel_rfl)
abbrev q1u1:Type:=Bool
def q1u2 (v:q1u1):St:=⟨[(12,.bool v)],[]⟩
def q1u3 (C:q1tk) (v:q1tt):Dt q1u1:=(Dt.ret v.2.1)
theorem q1u4 C v:q2kj (regO (qdv f85) 3) false [(12,.any)] q1tu q1u3 q1u2 C v:=rgI (by kernel_rfl)
def q1u5 (C:q1tk) (v:q1u1):Dt q1tx:=(Dt.ret (-1:Int))
theorem q1u6 C v:q2kj (regO (qdv f85) 4) false [(2,.any)] q1u2 q1u5 q1ty C v:=rgI (by kernel_rfl)
def q1u7 (C:q1tk) (v:q1u1):Dt q1tx:=(Dt.ret (1:Int))
theorem q1u8 C v:q2kj (regO (qdv f85) 5) false [(2,.any)] q1u2 q1u7 q1ty C v:=rgI (by kernel_rfl)
def q1u9 (d:Nat) (x:q1tg):Option q1th :=
 (q1tr (q1tl d) (x.1.1,x.1.2.1,x.1.2.2.1)).eval fun y0 =>
 (q1tv (q1tl d) y0).eval fun y1 =>
 bif y1.1 then ((q1tz (q1tl d) y1).eval fun y2 =>
 some y2) else ((q1u3 (q1tl d) y1).eval fun y3 =>
 bif y3 then ((q1u5 (q1tl d) y3).eval fun y4 =>
 some y4) else ((q1u7 (q1tl d) y3).eval fun y5 =>
 some y5))
theorem q1ua (d:Nat):COK prog (q1tj (q1u9 d)):=by
 have hm:prog.follows .mixedOrders=true:=mixed
 have hT:=tys
 have hC0:OrcOK prog (orc (q1tm (q1tl d))):=qdp (by
  intro S hS
  simp only [q1tm,List.mem_cons,List.not_mem_nil,or_false] at hS
  all_goals first | cases hS | exact hS.elim)
 have hC:OrcOK prog (orc (q1tm (q1tl d))):=hC0
 refine q9e (c:=qdv f85) (fn:=f85) hT (by kernel_rfl) (by kernel_rfl) (by decide) fun x r h w0 φ0 Q hend=>?_
 replace h:q1u9 d x=some r:=h
 unfold q1u9 at h
 show Run prog w0 φ0 13 (qdv f85) ⟨[(0,.agg [.bool x.1.1,.int .u64 x.1.2.1,.int .u64 x.1.2.2.1])],[]⟩ Q
 refine q2jr hm hT hC (q1ts (q1tl d) (x.1.1,x.1.2.1,x.1.2.2.1)) h fun y0 h=>?_
 refine q8x ?_
 refine q2jr hm hT hC (q1tw (q1tl d) y0) h fun y1 h=>?_
 refine q91 (v:=y1.1) (by kernel_rfl) h ?_ ?_
 ·
  intro h
  refine q2jr hm hT hC (q1u0 (q1tl d) y1) h fun y2 h=>?_
  refine q8w (q8l ?_)
  cases h
  exact (hend _ (by kernel_rfl)).2
 ·
  intro h
  refine q8t (q8j (q8x ?_))
  refine q2jr hm hT hC (q1u4 (q1tl d) y1) h fun y3 h=>?_
  refine q91 (v:=y3) (by kernel_rfl) h ?_ ?_
  ·
   intro h
   refine q2jr hm hT hC (q1u6 (q1tl d) y3) h fun y4 h=>?_
   refine q8w (q8l ?_)
   cases h
   exact (hend _ (by kernel_rfl)).2
  ·
   intro h
   refine q8t (q8j ?_)
   refine q2jr hm hT hC (q1u8 (q1tl d) y3) h fun y5 h=>?_
   refine q8w ?_
   cases h
   exact (hend _ (by kernel_rfl)).2
abbrev q1ub:List Pk:=[.row Rbuu true,.row Rbuu true]
abbrev q1uc:Type:=Dbuu×Dbuu×Unit
abbrev q1ud:Type:=Int
def q1ue (r:q1ud):LV×List Ob:=(.int .i64 r,[])
def q1uf (F:q1uc→Option q1ud):Go.Tx.Spec:=⟨86,q1ub,q1ud,F,q1ue⟩
abbrev q1ug:Type:=Unit
def q1uh (_d:Nat):q1ug:=()
def q1ui (C:q1ug):List Go.Tx.Spec:=[]
abbrev q1uj:Type:=Bool×Int×Int×Bool×Int×Int
def q1uk (v:q1uj):St:=⟨[(0,.agg [.bool v.1,u6 v.2.1,u6 v.2.2.1]),(1,.agg [.bool v.2.2.2.1,u6 v.2.2.2.2.1,u6 v.2.2.2.2.2])],[]⟩
abbrev q1ul:Type:=Bool×Int×Int×Bool×Int×Int
def q1um (v:q1ul):St:=⟨[(2,.ptr 0 0),(3,.ptr 1 0)],[.cells [.bool v.1,u6 v.2.1,u6 v.2.2.1],.cells [.bool v.2.2.2.1,u6 v.2.2.2.2.1,u6 v.2.2.2.2.2]]⟩
def q1un (C:q1ug) (v:q1uj):Dt q1ul:=(Dt.ret (v.1,v.2.1,v.2.2.1,v.2.2.2.1,v.2.2.2.2.1,v.2.2.2.2.2))
abbrev q2kk {V Y:Type}:=@rg q1ug V Y tysT (fun C=>(orc (q1ui C))) 25
theorem q1uo C v:q2kk (regO (qdv f86) 0) false (an [2,3]) q1uk q1un q1um C v:=rgI (by kernel_rfl)
abbrev q1up:Type:=Bool×Bool×Int×Int×Bool×Int×Int
def q1uq (v:q1up):St:=⟨[(2,.ptr 0 0),(3,.ptr 1 0),(9,.bool v.1)],[.cells [.bool v.2.1,u6 v.2.2.1,u6 v.2.2.2.1],.cells [.bool v.2.2.2.2.1,u6 v.2.2.2.2.2.1,u6 v.2.2.2.2.2.2]]⟩
def q1ur (C:q1ug) (v:q1ul):Dt q1up:=(Dt.ret ((v.2.1 != v.2.2.2.2.1),v.1,v.2.1,v.2.2.1,v.2.2.2.1,v.2.2.2.2.1,v.2.2.2.2.2))
theorem q1us C v:q2kk (regO (qdv f86) 1) false (an [2,3,9]) q1um q1ur q1uq C v:=rgI (by kernel_rfl)
abbrev q1ut:Type:=Bool
def q1uu (v:q1ut):St:=⟨[(14,.bool v)],[]⟩
def q1uv (C:q1ug) (v:q1up):Dt q1ut:=(Dt.ret (decide (v.2.2.1<v.2.2.2.2.2.1)))
theorem q1uw C v:q2kk (regO (qdv f86) 2) false [(14,.any)] q1uq q1uv q1uu C v:=rgI (by kernel_rfl)
abbrev q1ux:Type:=Int
def q1uy (v:q1ux):St:=⟨[(4,i6 v)],[]⟩
def q1uz (C:q1ug) (v:q1ut):Dt q1ux:=(Dt.ret (-1:Int))
theorem q1v0 C v:q2kk (regO (qdv f86) 3) false [(4,.any)] q1uu q1uz q1uy C v:=rgI (by kernel_rfl)
def q1v1 (C:q1ug) (v:q1ut):Dt q1ux:=(Dt.ret (1:Int))
theorem q1v2 C v:q2kk (regO (qdv f86) 4) false [(4,.any)] q1uu q1v1 q1uy C v:=rgI (by kernel_rfl)
abbrev q1v3:Type:=Bool×Bool×Int×Int×Bool×Int×Int
def q1v4 (v:q1v3):St:=⟨[(2,.ptr 0 0),(3,.ptr 1 0),(19,.bool v.1)],[.cells [.bool v.2.1,u6 v.2.2.1,u6 v.2.2.2.1],.cells [.bool v.2.2.2.2.1,u6 v.2.2.2.2.2.1,u6 v.2.2.2.2.2.2]]⟩
def q1v5 (C:q1ug) (v:q1up):Dt q1v3:=(Dt.ret ((v.2.2.2.1 != v.2.2.2.2.2.2),v.2.1,v.2.2.1,v.2.2.2.1,v.2.2.2.2.1,v.2.2.2.2.2.1,v.2.2.2.2.2.2))
theorem q1v6 C v:q2kk (regO (qdv f86) 5) false (an [2,3,19]) q1uq q1v5 q1v4 C v:=rgI (by kernel_rfl)
abbrev q1v7:Type:=Bool
def q1v8 (v:q1v7):St:=⟨[(24,.bool v)],[]⟩
def q1v9 (C:q1ug) (v:q1v3):Dt q1v7:=(Dt.ret (decide (v.2.2.2.1<v.2.2.2.2.2.2)))
theorem q1va C v:q2kk (regO (qdv f86) 6) false [(24,.any)] q1v4 q1v9 q1v8 C v:=rgI (by kernel_rfl)
def q1vb (C:q1ug) (v:q1v7):Dt q1ux:=(Dt.ret (-1:Int))
theorem q1vc C v:q2kk (regO (qdv f86) 7) false [(4,.any)] q1v8 q1vb q1uy C v:=rgI (by kernel_rfl)
def q1vd (C:q1ug) (v:q1v7):Dt q1ux:=(Dt.ret (1:Int))
theorem q1ve C v:q2kk (regO (qdv f86) 8) false [(4,.any)] q1v8 q1vd q1uy C v:=rgI (by kernel_rfl)
def q1vf (C:q1ug) (v:q1v3):Dt q1ux:=(Dt.ret (0:Int))
theorem q1vg C v:q2kk (regO (qdv f86) 9) false [(4,.any)] q1v4 q1vf q1uy C v:=rgI (by kernel_rfl)
def q1vh (d:Nat) (x:q1uc):Option q1ud :=
 (q1un (q1uh d) (x.1.1,x.1.2.1,x.1.2.2.1,x.2.1.1,x.2.1.2.1,x.2.1.2.2.1)).eval fun y0 =>
 (q1ur (q1uh d) y0).eval fun y1 =>
 bif y1.1 then ((q1uv (q1uh d) y1).eval fun y2 =>
 bif y2 then ((q1uz (q1uh d) y2).eval fun y3 =>
 some y3) else ((q1v1 (q1uh d) y2).eval fun y4 =>
 some y4)) else ((q1v5 (q1uh d) y1).eval fun y5 =>
 bif y5.1 then ((q1v9 (q1uh d) y5).eval fun y6 =>
 bif y6 then ((q1vb (q1uh d) y6).eval fun y7 =>
 some y7) else ((q1vd (q1uh d) y6).eval fun y8 =>
 some y8)) else ((q1vf (q1uh d) y5).eval fun y9 =>
 some y9))
theorem q1vi (d:Nat):COK prog (q1uf (q1vh d)):=by
 have hm:prog.follows .mixedOrders=true:=mixed
 have hT:=tys
 have hC0:OrcOK prog (orc (q1ui (q1uh d))):=qdp (by
  intro S hS
  simp only [q1ui,List.mem_cons,List.not_mem_nil,or_false] at hS
  all_goals first | cases hS | exact hS.elim)
 have hC:OrcOK prog (orc (q1ui (q1uh d))):=hC0
 refine q9e (c:=qdv f86) (fn:=f86) hT (by kernel_rfl) (by kernel_rfl) (by decide) fun x r h w0 φ0 Q hend=>?_
 replace h:q1vh d x=some r:=h
 unfold q1vh at h
 show Run prog w0 φ0 25 (qdv f86) ⟨[(0,.agg [.bool x.1.1,.int .u64 x.1.2.1,.int .u64 x.1.2.2.1]),(1,.agg [.bool x.2.1.1,.int .u64 x.2.1.2.1,.int .u64 x.2.1.2.2.1])],[]⟩ Q
 refine q2jr hm hT hC (q1uo (q1uh d) (x.1.1,x.1.2.1,x.1.2.2.1,x.2.1.1,x.2.1.2.1,x.2.1.2.2.1)) h fun y0 h=>?_
 refine q8x ?_
 refine q2jr hm hT hC (q1us (q1uh d) y0) h fun y1 h=>?_
 refine q91 (v:=y1.1) (by kernel_rfl) h ?_ ?_
 ·
  intro h
  refine q8x ?_
  refine q2jr hm hT hC (q1uw (q1uh d) y1) h fun y2 h=>?_
  refine q91 (v:=y2) (by kernel_rfl) h ?_ ?_
  ·
   intro h
   refine q2jr hm hT hC (q1v0 (q1uh d) y2) h fun y3 h=>?_
   refine q8w (q8l (q8l ?_))
   cases h
   exact (hend _ (by kernel_rfl)).2
  ·
   intro h
   refine q8t (q8j ?_)
   refine q2jr hm hT hC (q1v2 (q1uh d) y2) h fun y4 h=>?_
   refine q8w (q8l ?_)
   cases h
   exact (hend _ (by kernel_rfl)).2
 ·
  intro h
  refine q8t (q8j (q8x ?_))
  refine q2jr hm hT hC (q1v6 (q1uh d) y1) h fun y5 h=>?_
  refine q91 (v:=y5.1) (by kernel_rfl) h ?_ ?_
  ·
   intro h
   refine q8x ?_
   refine q2jr hm hT hC (q1va (q1uh d) y5) h fun y6 h=>?_
   refine q91 (v:=y6) (by kernel_rfl) h ?_ ?_
   ·
    intro h
    refine q2jr hm hT hC (q1vc (q1uh d) y6) h fun y7 h=>?_
    refine q8w (q8l (q8l ?_))
    cases h
    exact (hend _ (by kernel_rfl)).2
   ·
    intro h
    refine q8t (q8j ?_)
    refine q2jr hm hT hC (q1ve (q1uh d) y6) h fun y8 h=>?_
    refine q8w (q8l ?_)
    cases h
    exact (hend _ (by kernel_rfl)).2
  ·
   intro h
   refine q8t (q8j ?_)
   refine q2jr hm hT hC (q1vg (q1uh d) y5) h fun y9 h=>?_
   refine q8w ?_
   cases h
   exact (hend _ (by kernel_rfl)).2
abbrev q1vj:List Pk:=[.row Rii true,.row Rii true]
abbrev q1vk:Type:=Dii×Dii×Unit
abbrev q1vl:Type:=Int
def q1vm (r:q1vl):LV×List Ob:=(.int .i64 r,[])
def q1vn (F:q1vk→Option q1vl):Go.Tx.Spec:=⟨53,q1vj,q1vl,F,q1vm⟩
abbrev q1vo:Type:=(qng→Option qnh)×(q1tg→Option q1th)×(q1uc→Option q1ud)×Unit
def q1vp (d:Nat):q1vo:=(qnl d,q1u9 d,q1vh d,())
def q1vq (C:q1vo):List Go.Tx.Spec:=[qnj C.1,q1tj C.2.1,q1uf C.2.2.1]
abbrev q1vr:Type:=Int×Int×Int×Int
def q1vs (v:q1vr):St:=⟨[(0,.agg [i6 v.1,i6 v.2.1]),(1,.agg [i6 v.2.2.1,i6 v.2.2.2])],[]⟩
abbrev q1vt:Type:=Int×Int×Int×Int
def q1vu (v:q1vt):St:=⟨[(2,.ptr 0 0),(3,.ptr 1 0)],[.cells [i6 v.1,i6 v.2.1],.cells [i6 v.2.2.1,i6 v.2.2.2]]⟩
def q1vv (C:q1vo) (v:q1vr):Dt q1vt:=(Dt.ret (v.1,v.2.1,v.2.2.1,v.2.2.2))
abbrev q2kl {V Y:Type}:=@rg q1vo V Y tysT (fun C=>(orc (q1vq C))) 36
theorem q1vw C v:q2kl (regO (qdv f53) 0) false (an [2,3]) q1vs q1vv q1vu C v:=rgI (by kernel_rfl)
abbrev q1vx:Type:=Bool×Int×Int×Bool×Int×Int
def q1vy (v:q1vx):St:=⟨[(5,.ptr 0 0),(6,.ptr 1 0)],[.cells [.bool v.1,u6 v.2.1,u6 v.2.2.1],.cells [.bool v.2.2.2.1,u6 v.2.2.2.2.1,u6 v.2.2.2.2.2]]⟩
def q1vz (C:q1vo) (v:q1vt):Dt q1vx:=(Dt.bnd (C.1 ((v.1,()),(v.2.2.2,()),())) fun r1=>(Dt.bnd (C.1 ((v.2.2.1,()),(v.2.1,()),())) fun r2=>(Dt.ret (r1.1,r1.2.1,r1.2.2,r2.1,r2.2.1,r2.2.2))))
theorem q1w0 C v:q2kl (regO (qdv f53) 1) true (an [5,6]) q1vu q1vz q1vy C v:=rgI (by kernel_rfl)
abbrev q1w1:Type:=Bool×Bool×Int×Int×Bool×Int×Int
def q1w2 (v:q1w1):St:=⟨[(5,.ptr 0 0),(6,.ptr 1 0),(21,.bool v.1)],[.cells [.bool v.2.1,u6 v.2.2.1,u6 v.2.2.2.1],.cells [.bool v.2.2.2.2.1,u6 v.2.2.2.2.2.1,u6 v.2.2.2.2.2.2]]⟩
def q1w3 (C:q1vo) (v:q1vx):Dt q1w1:=(Dt.bnd (C.2.1 ((v.1,v.2.1,v.2.2.1,()),())) fun r1=>(Dt.bnd (C.2.1 ((v.2.2.2.1,v.2.2.2.2.1,v.2.2.2.2.2,()),())) fun r2=>(Dt.ret ((r1 != r2),v.1,v.2.1,v.2.2.1,v.2.2.2.1,v.2.2.2.2.1,v.2.2.2.2.2))))
theorem q1w4 C v:q2kl (regO (qdv f53) 2) true (an [5,6,21]) q1vy q1w3 q1w2 C v:=rgI (by kernel_rfl)
abbrev q1w5:Type:=Bool
def q1w6 (v:q1w5):St:=⟨[(26,.bool v)],[]⟩
def q1w7 (C:q1vo) (v:q1w1):Dt q1w5:=(Dt.bnd (C.2.1 ((v.2.1,v.2.2.1,v.2.2.2.1,()),())) fun r1=>(Dt.bnd (C.2.1 ((v.2.2.2.2.1,v.2.2.2.2.2.1,v.2.2.2.2.2.2,()),())) fun r2=>(Dt.ret (decide (r1<r2)))))
theorem q1w8 C v:q2kl (regO (qdv f53) 3) true [(26,.any)] q1w2 q1w7 q1w6 C v:=rgI (by kernel_rfl)
abbrev q1w9:Type:=Int
def q1wa (v:q1w9):St:=⟨[(4,i6 v)],[]⟩
def q1wb (C:q1vo) (v:q1w5):Dt q1w9:=(Dt.ret (-1:Int))
theorem q1wc C v:q2kl (regO (qdv f53) 4) false [(4,.any)] q1w6 q1wb q1wa C v:=rgI (by kernel_rfl)
def q1wd (C:q1vo) (v:q1w5):Dt q1w9:=(Dt.ret (1:Int))
theorem q1we C v:q2kl (regO (qdv f53) 5) false [(4,.any)] q1w6 q1wd q1wa C v:=rgI (by kernel_rfl)
abbrev q1wf:Type:=Bool×Bool×Int×Int×Bool×Int×Int
def q1wg (v:q1wf):St:=⟨[(5,.ptr 0 0),(6,.ptr 1 0),(29,.bool v.1)],[.cells [.bool v.2.1,u6 v.2.2.1,u6 v.2.2.2.1],.cells [.bool v.2.2.2.2.1,u6 v.2.2.2.2.2.1,u6 v.2.2.2.2.2.2]]⟩
def q1wh (C:q1vo) (v:q1w1):Dt q1wf:=(Dt.bnd (C.2.1 ((v.2.1,v.2.2.1,v.2.2.2.1,()),())) fun r1=>(Dt.ret ((decide (r1<(0:Int))),v.2.1,v.2.2.1,v.2.2.2.1,v.2.2.2.2.1,v.2.2.2.2.2.1,v.2.2.2.2.2.2)))
theorem q1wi C v:q2kl (regO (qdv f53) 6) false (an [5,6,29]) q1w2 q1wh q1wg C v:=rgI (by kernel_rfl)
def q1wj (C:q1vo) (v:q1wf):Dt q1w9:=(Dt.bnd (C.2.2.1 ((v.2.2.2.2.1,v.2.2.2.2.2.1,v.2.2.2.2.2.2,()),(v.2.1,v.2.2.1,v.2.2.2.1,()),())) fun r1=>(Dt.ret r1))
theorem q1wk C v:q2kl (regO (qdv f53) 7) false [(4,.any)] q1wg q1wj q1wa C v:=rgI (by kernel_rfl)
def q1wl (C:q1vo) (v:q1wf):Dt q1w9:=(Dt.bnd (C.2.2.1 ((v.2.1,v.2.2.1,v.2.2.2.1,()),(v.2.2.2.2.1,v.2.2.2.2.2.1,v.2.2.2.2.2.2,()),())) fun r1=>(Dt.ret r1))
theorem q1wm C v:q2kl (regO (qdv f53) 8) false [(4,.any)] q1wg q1wl q1wa C v:=rgI (by kernel_rfl)
def q1wn (d:Nat) (x:q1vk):Option q1vl :=
 (q1vv (q1vp d) (x.1.1,x.1.2.1,x.2.1.1,x.2.1.2.1)).eval fun y0 =>
 (q1vz (q1vp d) y0).eval fun y1 =>
 (q1w3 (q1vp d) y1).eval fun y2 =>
 bif y2.1 then ((q1w7 (q1vp d) y2).eval fun y3 =>
 bif y3 then ((q1wb (q1vp d) y3).eval fun y4 =>
 some y4) else ((q1wd (q1vp d) y3).eval fun y5 =>
 some y5)) else ((q1wh (q1vp d) y2).eval fun y6 =>
 bif y6.1 then ((q1wj (q1vp d) y6).eval fun y7 =>
 some y7) else ((q1wl (q1vp d) y6).eval fun y8 =>
 some y8))
theorem q1wo (d:Nat):COK prog (q1vn (q1wn d)):=by
 have hm:prog.follows .mixedOrders=true:=mixed
 have hT:=tys
 have hC0:OrcOK prog (orc (q1vq (q1vp d))):=qdp (by
  intro S hS
  simp only [q1vq,List.mem_cons,List.not_mem_nil,or_false] at hS
  rcases hS with rfl | rfl | rfl
  · exact qnn d
  · exact q1ua d
  · exact q1vi d)
 have hC:OrcOK prog (orc (q1vq (q1vp d))):=hC0
 refine q9e (c:=qdv f53) (fn:=f53) hT (by kernel_rfl) (by kernel_rfl) (by decide) fun x r h w0 φ0 Q hend=>?_
 replace h:q1wn d x=some r:=h
 unfold q1wn at h
 show Run prog w0 φ0 36 (qdv f53) ⟨[(0,.agg [.int .i64 x.1.1,.int .i64 x.1.2.1]),(1,.agg [.int .i64 x.2.1.1,.int .i64 x.2.1.2.1])],[]⟩ Q
 refine q2jr hm hT hC (q1vw (q1vp d) (x.1.1,x.1.2.1,x.2.1.1,x.2.1.2.1)) h fun y0 h=>?_
 refine q2jr hm hT hC (q1w0 (q1vp d) y0) h fun y1 h=>?_
 refine q8x ?_
 refine q2jr hm hT hC (q1w4 (q1vp d) y1) h fun y2 h=>?_
 refine q91 (v:=y2.1) (by kernel_rfl) h ?_ ?_
 ·
  intro h
  refine q8x ?_
  refine q2jr hm hT hC (q1w8 (q1vp d) y2) h fun y3 h=>?_
  refine q91 (v:=y3) (by kernel_rfl) h ?_ ?_
  ·
   intro h
   refine q2jr hm hT hC (q1wc (q1vp d) y3) h fun y4 h=>?_
   refine q8w (q8l (q8l ?_))
   cases h
   exact (hend _ (by kernel_rfl)).2
  ·
   intro h
   refine q8t (q8j ?_)
   refine q2jr hm hT hC (q1we (q1vp d) y3) h fun y5 h=>?_
   refine q8w (q8l ?_)
   cases h
   exact (hend _ (by kernel_rfl)).2
 ·
  intro h
  refine q8t (q8j (q8x ?_))
  refine q2jr hm hT hC (q1wi (q1vp d) y2) h fun y6 h=>?_
  refine q91 (v:=y6.1) (by kernel_rfl) h ?_ ?_
  ·
   intro h
   refine q2jr hm hT hC (q1wk (q1vp d) y6) h fun y7 h=>?_
   refine q8w (q8l ?_)
   cases h
   exact (hend _ (by kernel_rfl)).2
  ·
   intro h
   refine q8t (q8j ?_)
   refine q2jr hm hT hC (q1wm (q1vp d) y6) h fun y8 h=>?_
   refine q8w ?_
   cases h
   exact (hend _ (by kernel_rfl)).2
abbrev q1wp:List Pk:=[.row qka false]
abbrev q1wq:Type:=qkb×Unit
abbrev q1wr:Type:=Int
def q1ws (r:q1wr):LV×List Ob:=(.int .i64 r,[])
def q1wt (F:q1wq→Option q1wr):Go.Tx.Spec:=⟨31,q1wp,q1wr,F,q1ws⟩
abbrev q1wu:Type:=(qny→Option qnz)×(q1vk→Option q1vl)×Unit
def q1wv (d:Nat):q1wu:=(qo3 d,q1wn d,())
def q1ww (C:q1wu):List Go.Tx.Spec:=[qo1 C.1,q1vn C.2.1]
abbrev q1wx:Type:=List Diii
def q1wy (v:q1wx):St:=⟨[(0,.fz Riii v)],[]⟩
def q1wz (C:q1wu) (v:q1wx):Dt q1wx:=(Dt.ret v)
abbrev q2km {V Y:Type}:=@rg q1wu V Y tysT (fun C=>(orc (q1ww C))) 72
theorem q1x0 C v:q2km (regO (qdv f31) 0) false [(0,(.val Riii))] q1wy q1wz q1wy C v:=rgI (by kernel_rfl)
abbrev q1x1:Type:=List Diii×Bool
def q1x2 (v:q1x1):St:=⟨[(0,.fz Riii v.1),(11,.bool v.2)],[]⟩
def q1x3 (C:q1wu) (v:q1wx):Dt q1x1:=(Dt.ite (decide ((List.length v:Int)<(1:Int))) (Dt.ret (v,true)) (Dt.ret (v,(decide ((List.length v:Int) > (300:Int))))))
theorem q1x4 C v:q2km (regO (qdv f31) 1) false [(0,(.val Riii)),(11,.any)] q1wy q1x3 q1x2 C v:=rgI (by kernel_rfl)
abbrev q1x5:Type:=Int
def q1x6 (v:q1x5):St:=⟨[(2,i6 v)],[]⟩
def q1x7 (C:q1wu) (v:q1x1):Dt q1x5:=(Dt.ret (8:Int))
theorem q1x8 C v:q2km (regO (qdv f31) 2) false [(2,.any)] q1x2 q1x7 q1x6 C v:=rgI (by kernel_rfl)
abbrev q1x9:Type:=List Diii×Int
def q1xa (v:q1x9):St:=⟨[(0,.fz Riii v.1),(3,i6 v.2)],[]⟩
def q1xb (C:q1wu) (v:q1x1):Dt q1x9:=(Dt.ret (v.1,(0:Int)))
theorem q1xc C v:q2km (regO (qdv f31) 3) false [(0,(.val Riii)),(3,.any)] q1x2 q1xb q1xa C v:=rgI (by kernel_rfl)
abbrev q1xd:Type:=List Diii×Int×Bool
def q1xe (v:q1xd):St:=⟨[(0,.fz Riii v.1),(3,i6 v.2.1),(15,.bool v.2.2)],[]⟩
def q1xf (C:q1wu) (v:q1x9):Dt q1xd:=(Dt.ret (v.1,v.2,(decide (v.2<(List.length v.1:Int)))))
theorem q1xg C v:q2km (regO (qdv f31) 4) false [(0,(.val Riii)),(3,.any),(15,.any)] q1xa q1xf q1xe C v:=rgI (by kernel_rfl)
abbrev q1xh:Type:=List Diii×Int×Bool
def q1xi (v:q1xh):St:=⟨[(0,.fz Riii v.1),(3,i6 v.2.1),(40,.bool v.2.2)],[]⟩
def q1xj (C:q1wu) (v:q1xd):Dt q1xh:=(Dt.ite (inB v.2.1 (List.length v.1)) (Dt.bnd (C.1 (((elt ziii v.1 (v.2.1).toNat).1,(elt ziii v.1 (v.2.1).toNat).2.1,()),())) fun r1=>(Dt.ite (r1 != (0:Int)) (Dt.ret (v.1,v.2.1,true)) (Dt.ite (inB v.2.1 (List.length v.1)) (Dt.ite (decide ((elt ziii v.1 (v.2.1).toNat).2.2.1<(0:Int))) (Dt.ret (v.1,v.2.1,true)) (Dt.ite (inB v.2.1 (List.length v.1)) (Dt.ret (v.1,v.2.1,(decide ((elt ziii v.1 (v.2.1).toNat).2.2.1 > (65535:Int))))) Dt.fail)) Dt.fail))) Dt.fail)
theorem q1xk C v:q2km (regO (qdv f31) 6) false [(0,(.val Riii)),(3,.any),(40,.any)] q1xe q1xj q1xi C v:=rgI (by kernel_rfl)
def q1xl (C:q1wu) (v:q1xh):Dt q1x5:=(Dt.ret (8:Int))
theorem q1xm C v:q2km (regO (qdv f31) 7) false [(2,.any)] q1xi q1xl q1x6 C v:=rgI (by kernel_rfl)
abbrev q1xn:Type:=List Diii×Int×Bool
def q1xo (v:q1xn):St:=⟨[(0,.fz Riii v.1),(3,i6 v.2.1),(71,.bool v.2.2)],[]⟩
def q1xp (C:q1wu) (v:q1xh):Dt q1xn:=(Dt.ite (decide (v.2.1 > (0:Int))) (Dt.ite (inB (IntKind.wrap .i64 (v.2.1 - (1:Int))) (List.length v.1)) (Dt.ite (inB v.2.1 (List.length v.1)) (Dt.bnd (C.2.1 (((elt ziii v.1 ((IntKind.wrap .i64 (v.2.1 - (1:Int)))).toNat).1,(elt ziii v.1 ((IntKind.wrap .i64 (v.2.1 - (1:Int)))).toNat).2.1,()),((elt ziii v.1 (v.2.1).toNat).1,(elt ziii v.1 (v.2.1).toNat).2.1,()),())) fun r1=>(Dt.ite (decide (r1≥(0:Int))) (Dt.ret (v.1,v.2.1,true)) (Dt.ite (inB (IntKind.wrap .i64 (v.2.1 - (1:Int))) (List.length v.1)) (Dt.ite (inB v.2.1 (List.length v.1)) (Dt.ret (v.1,v.2.1,((elt ziii v.1 ((IntKind.wrap .i64 (v.2.1 - (1:Int)))).toNat).2.2.1 == (elt ziii v.1 (v.2.1).toNat).2.2.1))) Dt.fail) Dt.fail))) Dt.fail) Dt.fail) (Dt.ret (v.1,v.2.1,false)))
theorem q1xq C v:q2km (regO (qdv f31) 8) true [(0,(.val Riii)),(3,.any),(71,.any)] q1xi q1xp q1xo C v:=rgI (by kernel_rfl)
def q1xr (C:q1wu) (v:q1xn):Dt q1x5:=(Dt.ret (8:Int))
theorem q1xs C v:q2km (regO (qdv f31) 9) false [(2,.any)] q1xo q1xr q1x6 C v:=rgI (by kernel_rfl)
def q1xt (C:q1wu) (v:q1xn):Dt q1x9:=(Dt.ret (v.1,(IntKind.wrap .i64 (v.2.1+(1:Int)))))
theorem q1xu C v:q2km (regO (qdv f31) 5) false [(0,(.val Riii)),(3,.any)] q1xo q1xt q1xa C v:=rgI (by kernel_rfl)
def q1xv (C:q1wu) (v:q1xd):Dt q1x5:=(Dt.ret (0:Int))
theorem q1xw C v:q2km (regO (qdv f31) 10) false [(2,.any)] q1xe q1xv q1x6 C v:=rgI (by kernel_rfl)
def q1xx (d:Nat) (self1:(List Diii×Int)→Option q1wr) (x1:List Diii×Int):Option q1wr :=
 (q1xf (q1wv d) x1).eval fun y4 =>
 bif y4.2.2 then ((q1xj (q1wv d) y4).eval fun y6 =>
 bif y6.2.2 then ((q1xl (q1wv d) y6).eval fun y7 =>
 some y7) else ((q1xp (q1wv d) y6).eval fun y8 =>
 bif y8.2.2 then ((q1xr (q1wv d) y8).eval fun y9 =>
 some y9) else ((q1xt (q1wv d) y8).eval fun y5 =>
 self1 y5))) else ((q1xv (q1wv d) y4).eval fun y10 =>
 some y10)
def q1xy (d:Nat) (x:q1wq):Option q1wr :=
 (q1wz (q1wv d) x.1.1).eval fun y0 =>
 (q1x3 (q1wv d) y0).eval fun y1 =>
 bif y1.2 then ((q1x7 (q1wv d) y1).eval fun y2 =>
 some y2) else ((q1xb (q1wv d) y1).eval fun y3 =>
 iter (q1xx d ) d y3)
theorem q1xz (d:Nat):COK prog (q1wt (q1xy d)):=by
 have hm:prog.follows .mixedOrders=true:=mixed
 have hT:=tys
 have hC0:OrcOK prog (orc (q1ww (q1wv d))):=qdp (by
  intro S hS
  simp only [q1ww,List.mem_cons,List.not_mem_nil,or_false] at hS
  rcases hS with rfl | rfl
  · exact qo5 d
  · exact q1wo d)
 have hC:OrcOK prog (orc (q1ww (q1wv d))):=hC0
 refine q9e (c:=qdv f31) (fn:=f31) hT (by kernel_rfl) (by kernel_rfl) (by decide) fun x r h w0 φ0 Q hend=>?_
 replace h:q1xy d x=some r:=h
 unfold q1xy at h
 show Run prog w0 φ0 72 (qdv f31) ⟨[(0,.fz Riii x.1.1)],[]⟩ Q
 refine q2jr hm hT hC (q1x0 (q1wv d) x.1.1) h fun y0 h=>?_
 refine q8x ?_
 refine q2jr hm hT hC (q1x4 (q1wv d) y0) h fun y1 h=>?_
 refine q91 (v:=y1.2) (by kernel_rfl) h ?_ ?_
 ·
  intro h
  refine q2jr hm hT hC (q1x8 (q1wv d) y1) h fun y2 h=>?_
  refine q8w (q8l ?_)
  cases h
  exact (hend _ (by kernel_rfl)).2
 ·
  intro h
  refine q8t (q8j (q8x ?_))
  refine q2jr hm hT hC (q1xc (q1wv d) y1) h fun y3 h=>?_
  refine q8y ?_
  refine q93 (G:=iter (q1xx d )) (S:=(fun x1=>⟨[(0,.fz Riii x1.1),(3,i6 x1.2)],[]⟩:List Diii×Int→St)) (fun _=>rfl) ?_ d _ h
  intro n1 x1 h K1 hn1
  replace h:q1xx d  (iter (q1xx d ) n1) x1=some r:=h
  generalize iter (q1xx d ) n1=self1 at h hn1
  unfold q1xx at h
  refine q8x ?_
  refine q2jr hm hT hC (q1xg (q1wv d) x1) h fun y4 h=>?_
  refine q91 (v:=y4.2.2) (by kernel_rfl) h ?_ ?_
  ·
   intro h
   refine q8t (q8j (q8x (q8y (q8x ?_))))
   refine q2jr hm hT hC (q1xk (q1wv d) y4) h fun y6 h=>?_
   refine q91 (v:=y6.2.2) (by kernel_rfl) h ?_ ?_
   ·
    intro h
    refine q2jr hm hT hC (q1xm (q1wv d) y6) h fun y7 h=>?_
    refine q8w (q8l (q8n (q8l (q8l (q8n (q8l ?_))))))
    cases h
    exact (hend _ (by kernel_rfl)).2
   ·
    intro h
    refine q8t (q8j ?_)
    refine q2jr hm hT hC (q1xq (q1wv d) y6) h fun y8 h=>?_
    refine q91 (v:=y8.2.2) (by kernel_rfl) h ?_ ?_
    ·
     intro h
     refine q2jr hm hT hC (q1xs (q1wv d) y8) h fun y9 h=>?_
     refine q8w (q8n (q8l (q8l (q8n (q8l ?_)))))
     cases h
     exact (hend _ (by kernel_rfl)).2
    ·
     intro h
     refine q8t (q8m (q8j ?_))
     refine q92 hm hT hC (q1xu (q1wv d) y8) h ?_
     intro y5 h
     exact hn1 _ h
  ·
   intro h
   refine q8v (q8k (q8k (q8o (q8j ?_))))
   refine q2jr hm hT hC (q1xw (q1wv d) y4) h fun y10 h=>?_
   refine q8w ?_
   cases h
   exact (hend _ (by kernel_rfl)).2
abbrev q1y0:List Pk:=[.row qka false,.row qka false]
abbrev q1y1:Type:=qkb×qkb×Unit
abbrev q1y2:Type:=Bool
def q1y3 (r:q1y2):LV×List Ob:=(.bool r,[])
def q1y4 (F:q1y1→Option q1y2):Go.Tx.Spec:=⟨10,q1y0,q1y2,F,q1y3⟩
abbrev q1y5:Type:=Unit
def q1y6 (_d:Nat):q1y5:=()
def q1y7 (C:q1y5):List Go.Tx.Spec:=[]
abbrev q1y8:Type:=List Diii×List Diii
def q1y9 (v:q1y8):St:=⟨[(0,.fz Riii v.1),(1,.fz Riii v.2)],[]⟩
def q1ya (C:q1y5) (v:q1y8):Dt q1y8:=(Dt.ret (v.1,v.2))
abbrev q2kn {V Y:Type}:=@rg q1y5 V Y tysT (fun C=>(orc (q1y7 C))) 26
theorem q1yb C v:q2kn (regO (qdv f10) 0) false [(0,(.val Riii)),(1,(.val Riii))] q1y9 q1ya q1y9 C v:=rgI (by kernel_rfl)
abbrev q1yc:Type:=List Diii×List Diii×Bool
def q1yd (v:q1yc):St:=⟨[(0,.fz Riii v.1),(1,.fz Riii v.2.1),(10,.bool v.2.2)],[]⟩
def q1ye (C:q1y5) (v:q1y8):Dt q1yc:=(Dt.ret (v.1,v.2,((List.length v.1:Int) != (List.length v.2:Int))))
theorem q1yf C v:q2kn (regO (qdv f10) 1) false [(0,(.val Riii)),(1,(.val Riii)),(10,.any)] q1y9 q1ye q1yd C v:=rgI (by kernel_rfl)
abbrev q1yg:Type:=Bool
def q1yh (v:q1yg):St:=⟨[(4,.bool v)],[]⟩
def q1yi (C:q1y5) (v:q1yc):Dt q1yg:=(Dt.ret false)
theorem q1yj C v:q2kn (regO (qdv f10) 2) false [(4,.any)] q1yd q1yi q1yh C v:=rgI (by kernel_rfl)
abbrev q1yk:Type:=List Diii×List Diii×Int
def q1yl (v:q1yk):St:=⟨[(0,.fz Riii v.1),(1,.fz Riii v.2.1),(5,i6 v.2.2)],[]⟩
def q1ym (C:q1y5) (v:q1yc):Dt q1yk:=(Dt.ret (v.1,v.2.1,(0:Int)))
theorem q1yn C v:q2kn (regO (qdv f10) 3) false [(0,(.val Riii)),(1,(.val Riii)),(5,.any)] q1yd q1ym q1yl C v:=rgI (by kernel_rfl)
abbrev q1yo:Type:=List Diii×List Diii×Int×Bool
def q1yp (v:q1yo):St:=⟨[(0,.fz Riii v.1),(1,.fz Riii v.2.1),(5,i6 v.2.2.1),(14,.bool v.2.2.2)],[]⟩
def q1yq (C:q1y5) (v:q1yk):Dt q1yo:=(Dt.ret (v.1,v.2.1,v.2.2,(decide (v.2.2<(List.length v.1:Int)))))
theorem q1yr C v:q2kn (regO (qdv f10) 4) false [(0,(.val Riii)),(1,(.val Riii)),(5,.any),(14,.any)] q1yl q1yq q1yp C v:=rgI (by kernel_rfl)
abbrev q1ys:Type:=List Diii×List Diii×Int×Bool
def q1yt (v:q1ys):St:=⟨[(0,.fz Riii v.1),(1,.fz Riii v.2.1),(5,i6 v.2.2.1),(25,.bool v.2.2.2)],[]⟩
def q1yu (C:q1y5) (v:q1yo):Dt q1ys:=(Dt.ite (inB v.2.2.1 (List.length v.1)) (Dt.ite (inB v.2.2.1 (List.length v.2.1)) (Dt.ret (v.1,v.2.1,v.2.2.1,(!(((elt ziii v.1 (v.2.2.1).toNat).1 == (elt ziii v.2.1 (v.2.2.1).toNat).1)&&(((elt ziii v.1 (v.2.2.1).toNat).2.1 == (elt ziii v.2.1 (v.2.2.1).toNat).2.1)&&(((elt ziii v.1 (v.2.2.1).toNat).2.2.1 == (elt ziii v.2.1 (v.2.2.1).toNat).2.2.1)&&true)))))) Dt.fail) Dt.fail)
theorem q1yv C v:q2kn (regO (qdv f10) 6) true [(0,(.val Riii)),(1,(.val Riii)),(5,.any),(25,.any)] q1yp q1yu q1yt C v:=rgI (by kernel_rfl)
def q1yw (C:q1y5) (v:q1ys):Dt q1yg:=(Dt.ret false)
theorem q1yx C v:q2kn (regO (qdv f10) 7) false [(4,.any)] q1yt q1yw q1yh C v:=rgI (by kernel_rfl)
def q1yy (C:q1y5) (v:q1ys):Dt q1yk:=(Dt.ret (v.1,v.2.1,(IntKind.wrap .i64 (v.2.2.1+(1:Int)))))
theorem q1yz C v:q2kn (regO (qdv f10) 5) false [(0,(.val Riii)),(1,(.val Riii)),(5,.any)] q1yt q1yy q1yl C v:=rgI (by kernel_rfl)
def q1z0 (C:q1y5) (v:q1yo):Dt q1yg:=(Dt.ret true)
theorem q1z1 C v:q2kn (regO (qdv f10) 8) false [(4,.any)] q1yp q1z0 q1yh C v:=rgI (by kernel_rfl)
def q1z2 (d:Nat) (self1:(List Diii×List Diii×Int)→Option q1y2) (x1:List Diii×List Diii×Int):Option q1y2 :=
 (q1yq (q1y6 d) x1).eval fun y4 =>
 bif y4.2.2.2 then ((q1yu (q1y6 d) y4).eval fun y6 =>
 bif y6.2.2.2 then ((q1yw (q1y6 d) y6).eval fun y7 =>
 some y7) else ((q1yy (q1y6 d) y6).eval fun y5 =>
 self1 y5)) else ((q1z0 (q1y6 d) y4).eval fun y8 =>
 some y8)
def q1z3 (d:Nat) (x:q1y1):Option q1y2 :=
 (q1ya (q1y6 d) (x.1.1,x.2.1.1)).eval fun y0 =>
 (q1ye (q1y6 d) y0).eval fun y1 =>
 bif y1.2.2 then ((q1yi (q1y6 d) y1).eval fun y2 =>
 some y2) else ((q1ym (q1y6 d) y1).eval fun y3 =>
 iter (q1z2 d ) d y3)
theorem q1z4 (d:Nat):COK prog (q1y4 (q1z3 d)):=by
 have hm:prog.follows .mixedOrders=true:=mixed
 have hT:=tys
 have hC0:OrcOK prog (orc (q1y7 (q1y6 d))):=qdp (by
  intro S hS
  simp only [q1y7,List.mem_cons,List.not_mem_nil,or_false] at hS
  all_goals first | cases hS | exact hS.elim)
 have hC:OrcOK prog (orc (q1y7 (q1y6 d))):=hC0
 refine q9e (c:=qdv f10) (fn:=f10) hT (by kernel_rfl) (by kernel_rfl) (by decide) fun x r h w0 φ0 Q hend=>?_
 replace h:q1z3 d x=some r:=h
 unfold q1z3 at h
 show Run prog w0 φ0 26 (qdv f10) ⟨[(0,.fz Riii x.1.1),(1,.fz Riii x.2.1.1)],[]⟩ Q
 refine q2jr hm hT hC (q1yb (q1y6 d) (x.1.1,x.2.1.1)) h fun y0 h=>?_
 refine q8x ?_
 refine q2jr hm hT hC (q1yf (q1y6 d) y0) h fun y1 h=>?_
 refine q91 (v:=y1.2.2) (by kernel_rfl) h ?_ ?_
 ·
  intro h
  refine q2jr hm hT hC (q1yj (q1y6 d) y1) h fun y2 h=>?_
  refine q8w (q8l ?_)
  cases h
  exact (hend _ (by kernel_rfl)).2
 ·
  intro h
  refine q8t (q8j (q8x ?_))
  refine q2jr hm hT hC (q1yn (q1y6 d) y1) h fun y3 h=>?_
  refine q8y ?_
  refine q93 (G:=iter (q1z2 d )) (S:=(fun x1=>⟨[(0,.fz Riii x1.1),(1,.fz Riii x1.2.1),(5,i6 x1.2.2)],[]⟩:List Diii×List Diii×Int→St)) (fun _=>rfl) ?_ d _ h
  intro n1 x1 h K1 hn1
  replace h:q1z2 d  (iter (q1z2 d ) n1) x1=some r:=h
  generalize iter (q1z2 d ) n1=self1 at h hn1
  unfold q1z2 at h
  refine q8x ?_
  refine q2jr hm hT hC (q1yr (q1y6 d) x1) h fun y4 h=>?_
  refine q91 (v:=y4.2.2.2) (by kernel_rfl) h ?_ ?_
  ·
   intro h
   refine q8t (q8j (q8x (q8y ?_)))
   refine q2jr hm hT hC (q1yv (q1y6 d) y4) h fun y6 h=>?_
   refine q91 (v:=y6.2.2.2) (by kernel_rfl) h ?_ ?_
   ·
    intro h
    refine q2jr hm hT hC (q1yx (q1y6 d) y6) h fun y7 h=>?_
    refine q8w (q8n (q8l (q8l (q8n (q8l ?_)))))
    cases h
    exact (hend _ (by kernel_rfl)).2
   ·
    intro h
    refine q8t (q8m (q8j ?_))
    refine q92 hm hT hC (q1yz (q1y6 d) y6) h ?_
    intro y5 h
    exact hn1 _ h
  ·
   intro h
   refine q8v (q8k (q8k (q8o (q8j ?_))))
   refine q2jr hm hT hC (q1z1 (q1y6 d) y4) h fun y8 h=>?_
   refine q8w ?_
   cases h
   exact (hend _ (by kernel_rfl)).2
abbrev q1z5:List Pk:=[.row qka true,.row qka false]
abbrev q1z6:Type:=qkb×qkb×Unit
abbrev q1z7:Type:=Bool
def q1z8 (r:q1z7):LV×List Ob:=(.bool r,[])
def q1z9 (F:q1z6→Option q1z7):Go.Tx.Spec:=⟨32,q1z5,q1z7,F,q1z8⟩
abbrev q1za:Type:=(qqp→Option qqq)×Unit
def q1zb (d:Nat):q1za:=(qqu d,())
def q1zc (C:q1za):List Go.Tx.Spec:=[qqs C.1]
abbrev q1zd:Type:=List Diii×List Diii
def q1ze (v:q1zd):St:=⟨[(0,.agg [.fz Riii v.1]),(1,.fz Riii v.2)],[]⟩
abbrev q1zf:Type:=List Diii×List Diii
def q1zg (v:q1zf):St:=⟨[(1,.fz Riii v.1),(2,.ptr 0 0)],[.cells [.fz Riii v.2]]⟩
def q1zh (C:q1za) (v:q1zd):Dt q1zf:=(Dt.ret (v.2,v.1))
abbrev q2ko {V Y:Type}:=@rg q1za V Y tysT (fun C=>(orc (q1zc C))) 20
theorem q1zi C v:q2ko (regO (qdv f32) 0) false [(1,(.val Riii)),(2,(.box [.val Riii]))] q1ze q1zh q1zg C v:=rgI (by kernel_rfl)
abbrev q1zj:Type:=List Diii×Int×List Diii
def q1zk (v:q1zj):St:=⟨[(1,.fz Riii v.1),(2,.ptr 0 0),(5,i6 v.2.1)],[.cells [.fz Riii v.2.2]]⟩
def q1zl (C:q1za) (v:q1zf):Dt q1zj:=(Dt.ret (v.1,(0:Int),v.2))
theorem q1zm C v:q2ko (regO (qdv f32) 1) false [(1,(.val Riii)),(2,(.box [.val Riii])),(5,.any)] q1zg q1zl q1zk C v:=rgI (by kernel_rfl)
abbrev q1zn:Type:=List Diii×Int×Bool×List Diii
def q1zo (v:q1zn):St:=⟨[(1,.fz Riii v.1),(2,.ptr 0 0),(5,i6 v.2.1),(9,.bool v.2.2.1)],[.cells [.fz Riii v.2.2.2]]⟩
def q1zp (C:q1za) (v:q1zj):Dt q1zn:=(Dt.ret (v.1,v.2.1,(decide (v.2.1<(List.length v.1:Int))),v.2.2))
theorem q1zq C v:q2ko (regO (qdv f32) 2) false [(1,(.val Riii)),(2,(.box [.val Riii])),(5,.any),(9,.any)] q1zk q1zp q1zo C v:=rgI (by kernel_rfl)
abbrev q1zr:Type:=List Diii×Int×Bool×List Diii
def q1zs (v:q1zr):St:=⟨[(1,.fz Riii v.1),(2,.ptr 0 0),(5,i6 v.2.1),(19,.bool v.2.2.1)],[.cells [.fz Riii v.2.2.2]]⟩
def q1zt (C:q1za) (v:q1zn):Dt q1zr:=(Dt.ite (inB v.2.1 (List.length v.1)) (Dt.bnd (C.1 ((v.2.2.2,()),((elt ziii v.1 (v.2.1).toNat).2.2.1,()),())) fun r1=>(Dt.ret (v.1,v.2.1,(decide (r1<(0:Int))),v.2.2.2))) Dt.fail)
theorem q1zu C v:q2ko (regO (qdv f32) 4) true [(1,(.val Riii)),(2,(.box [.val Riii])),(5,.any),(19,.any)] q1zo q1zt q1zs C v:=rgI (by kernel_rfl)
abbrev q1zv:Type:=Bool
def q1zw (v:q1zv):St:=⟨[(4,.bool v)],[]⟩
def q1zx (C:q1za) (v:q1zr):Dt q1zv:=(Dt.ret false)
theorem q1zy C v:q2ko (regO (qdv f32) 5) false [(4,.any)] q1zs q1zx q1zw C v:=rgI (by kernel_rfl)
def q1zz (C:q1za) (v:q1zr):Dt q1zj:=(Dt.ret (v.1,(IntKind.wrap .i64 (v.2.1+(1:Int))),v.2.2.2))
theorem q200 C v:q2ko (regO (qdv f32) 3) false [(1,(.val Riii)),(2,(.box [.val Riii])),(5,.any)] q1zs q1zz q1zk C v:=rgI (by kernel_rfl)
def q201 (C:q1za) (v:q1zn):Dt q1zv:=(Dt.ret true)
theorem q202 C v:q2ko (regO (qdv f32) 6) false [(4,.any)] q1zo q201 q1zw C v:=rgI (by kernel_rfl)
def q203 (d:Nat) (self1:(List Diii×Int×List Diii)→Option q1z7) (x1:List Diii×Int×List Diii):Option q1z7 :=
 (q1zp (q1zb d) x1).eval fun y2 =>
 bif y2.2.2.1 then ((q1zt (q1zb d) y2).eval fun y4 =>
 bif y4.2.2.1 then ((q1zx (q1zb d) y4).eval fun y5 =>
 some y5) else ((q1zz (q1zb d) y4).eval fun y3 =>
 self1 y3)) else ((q201 (q1zb d) y2).eval fun y6 =>
 some y6)
def q204 (d:Nat) (x:q1z6):Option q1z7 :=
 (q1zh (q1zb d) (x.1.1,x.2.1.1)).eval fun y0 =>
 (q1zl (q1zb d) y0).eval fun y1 =>
 iter (q203 d ) d y1
theorem q205 (d:Nat):COK prog (q1z9 (q204 d)):=by
 have hm:prog.follows .mixedOrders=true:=mixed
 have hT:=tys
 have hC0:OrcOK prog (orc (q1zc (q1zb d))):=qdp (by
  intro S hS
  simp only [q1zc,List.mem_cons,List.not_mem_nil,or_false] at hS
  subst hS;exact qqw d)
 have hC:OrcOK prog (orc (q1zc (q1zb d))):=hC0
 refine q9e (c:=qdv f32) (fn:=f32) hT (by kernel_rfl) (by kernel_rfl) (by decide) fun x r h w0 φ0 Q hend=>?_
 replace h:q204 d x=some r:=h
 unfold q204 at h
 show Run prog w0 φ0 20 (qdv f32) ⟨[(0,.agg [.fz Riii x.1.1]),(1,.fz Riii x.2.1.1)],[]⟩ Q
 refine q2jr hm hT hC (q1zi (q1zb d) (x.1.1,x.2.1.1)) h fun y0 h=>?_
 refine q8x ?_
 refine q2jr hm hT hC (q1zm (q1zb d) y0) h fun y1 h=>?_
 refine q8y ?_
 refine q93 (G:=iter (q203 d )) (S:=(fun x1=>⟨[(1,.fz Riii x1.1),(2,.ptr 0 0),(5,i6 x1.2.1)],[.cells [.fz Riii x1.2.2]]⟩:List Diii×Int×List Diii→St)) (fun _=>rfl) ?_ d _ h
 intro n1 x1 h K1 hn1
 replace h:q203 d  (iter (q203 d ) n1) x1=some r:=h
 generalize iter (q203 d ) n1=self1 at h hn1
 unfold q203 at h
 refine q8x ?_
 refine q2jr hm hT hC (q1zq (q1zb d) x1) h fun y2 h=>?_
 refine q91 (v:=y2.2.2.1) (by kernel_rfl) h ?_ ?_
 ·
  intro h
  refine q8t (q8j (q8x (q8y ?_)))
  refine q2jr hm hT hC (q1zu (q1zb d) y2) h fun y4 h=>?_
  refine q91 (v:=y4.2.2.1) (by kernel_rfl) h ?_ ?_
  ·
   intro h
   refine q2jr hm hT hC (q1zy (q1zb d) y4) h fun y5 h=>?_
   refine q8w (q8n (q8l (q8l (q8n (q8l ?_)))))
   cases h
   exact (hend _ (by kernel_rfl)).2
  ·
   intro h
   refine q8t (q8m (q8j ?_))
   refine q92 hm hT hC (q200 (q1zb d) y4) h ?_
   intro y3 h
   exact hn1 _ h
 ·
  intro h
  refine q8v (q8k (q8k (q8o (q8j ?_))))
  refine q2jr hm hT hC (q202 (q1zb d) y2) h fun y6 h=>?_
  refine q8w ?_
  cases h
  exact (hend _ (by kernel_rfl)).2
abbrev q206:List Pk:=[.row qka false,.row Rii true]
abbrev q207:Type:=qkb×Dii×Unit
abbrev q208:Type:=Int
def q209 (r:q208):LV×List Ob:=(.int .i64 r,[])
def q20a (F:q207→Option q208):Go.Tx.Spec:=⟨55,q206,q208,F,q209⟩
abbrev q20b:Type:=(q1vk→Option q1vl)×Unit
def q20c (d:Nat):q20b:=(q1wn d,())
def q20d (C:q20b):List Go.Tx.Spec:=[q1vn C.1]
abbrev q20e:Type:=List Diii×Int×Int
def q20f (v:q20e):St:=⟨[(0,.fz Riii v.1),(1,.agg [i6 v.2.1,i6 v.2.2])],[]⟩
abbrev q20g:Type:=List Diii×Int×Int
def q20h (v:q20g):St:=⟨[(0,.fz Riii v.1),(3,.ptr 0 0)],[.cells [i6 v.2.1,i6 v.2.2]]⟩
def q20i (C:q20b) (v:q20e):Dt q20g:=(Dt.ret (v.1,v.2.1,v.2.2))
abbrev q2kp {V Y:Type}:=@rg q20b V Y tysT (fun C=>(orc (q20d C))) 23
theorem q20j C v:q2kp (regO (qdv f55) 0) false [(0,(.val Riii)),(3,.any)] q20f q20i q20h C v:=rgI (by kernel_rfl)
abbrev q20k:Type:=List Diii×Int×Int×Int
def q20l (v:q20k):St:=⟨[(0,.fz Riii v.1),(3,.ptr 0 0),(5,i6 v.2.1)],[.cells [i6 v.2.2.1,i6 v.2.2.2]]⟩
def q20m (C:q20b) (v:q20g):Dt q20k:=(Dt.ret (v.1,(0:Int),v.2.1,v.2.2))
theorem q20n C v:q2kp (regO (qdv f55) 1) false [(0,(.val Riii)),(3,.any),(5,.any)] q20h q20m q20l C v:=rgI (by kernel_rfl)
abbrev q20o:Type:=List Diii×Int×Int×Int×Int
def q20p (v:q20o):St:=⟨[(0,.fz Riii v.1),(3,.ptr 0 0),(5,i6 v.2.1),(6,i6 v.2.2.1)],[.cells [i6 v.2.2.2.1,i6 v.2.2.2.2]]⟩
def q20q (C:q20b) (v:q20k):Dt q20o:=(Dt.ret (v.1,v.2.1,(0:Int),v.2.2.1,v.2.2.2))
theorem q20r C v:q2kp (regO (qdv f55) 2) false [(0,(.val Riii)),(3,.any),(5,.any),(6,.any)] q20l q20q q20p C v:=rgI (by kernel_rfl)
abbrev q20s:Type:=List Diii×Int×Int×Bool×Int×Int
def q20t (v:q20s):St:=⟨[(0,.fz Riii v.1),(3,.ptr 0 0),(5,i6 v.2.1),(6,i6 v.2.2.1),(10,.bool v.2.2.2.1)],[.cells [i6 v.2.2.2.2.1,i6 v.2.2.2.2.2]]⟩
def q20u (C:q20b) (v:q20o):Dt q20s:=(Dt.ret (v.1,v.2.1,v.2.2.1,(decide (v.2.2.1<(List.length v.1:Int))),v.2.2.2.1,v.2.2.2.2))
theorem q20v C v:q2kp (regO (qdv f55) 3) false [(0,(.val Riii)),(3,.any),(5,.any),(6,.any),(10,.any)] q20p q20u q20t C v:=rgI (by kernel_rfl)
abbrev q20w:Type:=List Diii×Int×Int×Bool×Int×Int
def q20x (v:q20w):St:=⟨[(0,.fz Riii v.1),(3,.ptr 0 0),(5,i6 v.2.1),(6,i6 v.2.2.1),(20,.bool v.2.2.2.1)],[.cells [i6 v.2.2.2.2.1,i6 v.2.2.2.2.2]]⟩
def q20y (C:q20b) (v:q20s):Dt q20w:=(Dt.ite (inB v.2.2.1 (List.length v.1)) (Dt.bnd (C.1 (((elt ziii v.1 (v.2.2.1).toNat).1,(elt ziii v.1 (v.2.2.1).toNat).2.1,()),(v.2.2.2.2.1,v.2.2.2.2.2,()),())) fun r1=>(Dt.ret (v.1,v.2.1,v.2.2.1,(decide (r1≤(0:Int))),v.2.2.2.2.1,v.2.2.2.2.2))) Dt.fail)
theorem q20z C v:q2kp (regO (qdv f55) 5) true [(0,(.val Riii)),(3,.any),(5,.any),(6,.any),(20,.any)] q20t q20y q20x C v:=rgI (by kernel_rfl)
def q210 (C:q20b) (v:q20w):Dt q20o:=(Dt.ret (v.1,v.2.2.1,v.2.2.1,v.2.2.2.2.1,v.2.2.2.2.2))
theorem q211 C v:q2kp (regO (qdv f55) 6) false [(0,(.val Riii)),(3,.any),(5,.any),(6,.any)] q20x q210 q20p C v:=rgI (by kernel_rfl)
def q212 (C:q20b) (v:q20o):Dt q20o:=(Dt.ret (v.1,v.2.1,(IntKind.wrap .i64 (v.2.2.1+(1:Int))),v.2.2.2.1,v.2.2.2.2))
theorem q213 C v:q2kp (regO (qdv f55) 4) false [(0,(.val Riii)),(3,.any),(5,.any),(6,.any)] q20p q212 q20p C v:=rgI (by kernel_rfl)
def q214  (d:Nat) (self1:(List Diii×Int×Int×Int×Int)→Option q208) (z:List Diii×Int×Int×Int×Int):Option (q208) :=
 (q212 (q20c d) z).eval fun y4 =>
 self1 y4
abbrev q215:Type:=Int
def q216 (v:q215):St:=⟨[(4,i6 v)],[]⟩
def q217 (C:q20b) (v:q20s):Dt q215:=(Dt.ret v.2.1)
theorem q218 C v:q2kp (regO (qdv f55) 7) false [(4,.any)] q20t q217 q216 C v:=rgI (by kernel_rfl)
def q219 (d:Nat) (self1:(List Diii×Int×Int×Int×Int)→Option q208) (x1:List Diii×Int×Int×Int×Int):Option q208 :=
 (q20u (q20c d) x1).eval fun y3 =>
 bif y3.2.2.2.1 then ((q20y (q20c d) y3).eval fun y5 =>
 bif y5.2.2.2.1 then ((q210 (q20c d) y5).eval fun y6 =>
 q214 d self1 y6) else (q214 d self1 (y5.1,y5.2.1,y5.2.2.1,y5.2.2.2.2.1,y5.2.2.2.2.2))) else ((q217 (q20c d) y3).eval fun y7 =>
 some y7)
def q21a (d:Nat) (x:q207):Option q208 :=
 (q20i (q20c d) (x.1.1,x.2.1.1,x.2.1.2.1)).eval fun y0 =>
 (q20m (q20c d) y0).eval fun y1 =>
 (q20q (q20c d) y1).eval fun y2 =>
 iter (q219 d ) d y2
theorem q21b (d:Nat):COK prog (q20a (q21a d)):=by
 have hm:prog.follows .mixedOrders=true:=mixed
 have hT:=tys
 have hC0:OrcOK prog (orc (q20d (q20c d))):=qdp (by
  intro S hS
  simp only [q20d,List.mem_cons,List.not_mem_nil,or_false] at hS
  subst hS;exact q1wo d)
 have hC:OrcOK prog (orc (q20d (q20c d))):=hC0
 refine q9e (c:=qdv f55) (fn:=f55) hT (by kernel_rfl) (by kernel_rfl) (by decide) fun x r h w0 φ0 Q hend=>?_
 replace h:q21a d x=some r:=h
 unfold q21a at h
 show Run prog w0 φ0 23 (qdv f55) ⟨[(0,.fz Riii x.1.1),(1,.agg [.int .i64 x.2.1.1,.int .i64 x.2.1.2.1])],[]⟩ Q
 refine q2jr hm hT hC (q20j (q20c d) (x.1.1,x.2.1.1,x.2.1.2.1)) h fun y0 h=>?_
 refine q2jr hm hT hC (q20n (q20c d) y0) h fun y1 h=>?_
 refine q8x ?_
 refine q2jr hm hT hC (q20r (q20c d) y1) h fun y2 h=>?_
 refine q8y ?_
 refine q93 (G:=iter (q219 d )) (S:=(fun x1=>⟨[(0,.fz Riii x1.1),(3,.ptr 0 0),(5,i6 x1.2.1),(6,i6 x1.2.2.1)],[.cells [i6 x1.2.2.2.1,i6 x1.2.2.2.2]]⟩:List Diii×Int×Int×Int×Int→St)) (fun _=>rfl) ?_ d _ h
 intro n1 x1 h K1 hn1
 replace h:q219 d  (iter (q219 d ) n1) x1=some r:=h
 generalize iter (q219 d ) n1=self1 at h hn1
 unfold q219 at h
 refine q8x ?_
 refine q2jr hm hT hC (q20v (q20c d) x1) h fun y3 h=>?_
 refine q91 (v:=y3.2.2.2.1) (by kernel_rfl) h ?_ ?_
 ·
  intro h
  refine q8t (q8j ?_)
  refine q90 (r:=r) (F:=q214 d self1) (S:=(fun z=>⟨[(0,.fz Riii z.1),(3,.ptr 0 0),(5,i6 z.2.1),(6,i6 z.2.2.1)],[.cells [i6 z.2.2.2.1,i6 z.2.2.2.2]]⟩:List Diii×Int×Int×Int×Int→St)) ?_ ?_
  ·
   intro z h
   unfold q214 at h
   refine q92 hm hT hC (q213 (q20c d) z) h ?_
   intro y4 h
   exact hn1 _ h
  intro hj2
  refine q8y ?_
  refine q2jr hm hT hC (q20z (q20c d) y3) h fun y5 h=>?_
  refine q91 (v:=y5.2.2.2.1) (by kernel_rfl) h ?_ ?_
  ·
   intro h
   refine q92 hm hT hC (q211 (q20c d) y5) h ?_
   intro y6 h
   refine q8m ?_
   exact hj2 _ h
  ·
   intro h
   refine q8t (q8m ?_)
   refine qdu (s:=⟨[(0,.fz Riii y5.1),(3,.ptr 0 0),(5,.int .i64 y5.2.1),(6,.int .i64 y5.2.2.1)],[.cells [.int .i64 y5.2.2.2.2.1,.int .i64 y5.2.2.2.2.2]]⟩) [20] (by kernel_rfl) ?_
   exact hj2 _ h
 ·
  intro h
  refine q8v (q8k (q8k (q8o (q8j ?_))))
  refine q2jr hm hT hC (q218 (q20c d) y3) h fun y7 h=>?_
  refine q8w ?_
  cases h
  exact (hend _ (by kernel_rfl)).2
abbrev q21c:List Pk:=[.row Riii true,.row Riii true]
abbrev q21d:Type:=Diii×Diii×Unit
abbrev q21e:Type:=Int×Int
def q21f (r:q21e):LV×List Ob:=(.agg [.int .i64 r.1,.int .i64 r.2],[])
def q21g (F:q21d→Option q21e):Go.Tx.Spec:=⟨88,q21c,q21e,F,q21f⟩
abbrev q21h:Type:=(qog→Option qoh)×Unit
def q21i (d:Nat):q21h:=(qol d,())
def q21j (C:q21h):List Go.Tx.Spec:=[qoj C.1]
abbrev q21k:Type:=Int×Int×Int×Int×Int×Int
def q21l (v:q21k):St:=⟨[(0,.agg [i6 v.1,i6 v.2.1,i6 v.2.2.1]),(1,.agg [i6 v.2.2.2.1,i6 v.2.2.2.2.1,i6 v.2.2.2.2.2])],[]⟩
abbrev q21m:Type:=Int×Int×Int×Int×Int×Int×Int×Int
def q21n (v:q21m):St:=⟨[(2,.ptr 0 0),(3,.ptr 1 0),(4,.ptr 2 0)],[.cells [i6 v.1,i6 v.2.1,i6 v.2.2.1],.cells [i6 v.2.2.2.1,i6 v.2.2.2.2.1,i6 v.2.2.2.2.2.1],.cells [i6 v.2.2.2.2.2.2.1,i6 v.2.2.2.2.2.2.2]]⟩
def q21o (C:q21h) (v:q21k):Dt q21m:=(Dt.ret (v.1,v.2.1,v.2.2.1,v.2.2.2.1,v.2.2.2.2.1,v.2.2.2.2.2,(0:Int),(0:Int)))
abbrev q2kq {V Y:Type}:=@rg q21h V Y tysT (fun C=>(orc (q21j C))) 22
theorem q21p C v:q2kq (regO (qdv f88) 0) false (an [2,3,4]) q21l q21o q21n C v:=rgI (by kernel_rfl)
abbrev q21q:Type:=Int×Int×Int×Int
def q21r (v:q21q):St:=⟨[(4,.ptr 0 0),(5,.ptr 1 0)],[.cells [i6 v.1,i6 v.2.1],.cells [i6 v.2.2.1,i6 v.2.2.2]]⟩
def q21s (C:q21h) (v:q21m):Dt q21q:=(Dt.bnd (C.1 (((IntKind.wrap .i64 (v.2.1 - v.2.2.2.2.1)),()),((IntKind.wrap .i64 (v.2.2.2.2.2.1 - v.2.2.1)),()),())) fun r1=>(Dt.ret (v.2.2.2.2.2.2.1,v.2.2.2.2.2.2.2,r1.1,r1.2.1)))
theorem q21t C v:q2kq (regO (qdv f88) 1) false (an [4,5]) q21n q21s q21r C v:=rgI (by kernel_rfl)
abbrev q21u:Type:=Int×Int
def q21v (v:q21u):St:=⟨[(4,.ptr 0 0)],[.cells [i6 v.1,i6 v.2]]⟩
def q21w (C:q21h) (v:q21q):Dt q21u:=(Dt.ret (v.2.2.1,v.2.2.2))
theorem q21x C v:q2kq (regO (qdv f88) 2) false [(4,.any)] q21r q21w q21v C v:=rgI (by kernel_rfl)
def q21y (d:Nat) (x:q21d):Option q21e :=
 (q21o (q21i d) (x.1.1,x.1.2.1,x.1.2.2.1,x.2.1.1,x.2.1.2.1,x.2.1.2.2.1)).eval fun y0 =>
 (q21s (q21i d) y0).eval fun y1 =>
 (q21w (q21i d) y1).eval fun y2 =>
 some y2
theorem q21z (d:Nat):COK prog (q21g (q21y d)):=by
 have hm:prog.follows .mixedOrders=true:=mixed
 have hT:=tys
 have hC0:OrcOK prog (orc (q21j (q21i d))):=qdp (by
  intro S hS
  simp only [q21j,List.mem_cons,List.not_mem_nil,or_false] at hS
  subst hS;exact qon d)
 have hC:OrcOK prog (orc (q21j (q21i d))):=hC0
 refine q9e (c:=qdv f88) (fn:=f88) hT (by kernel_rfl) (by kernel_rfl) (by decide) fun x r h w0 φ0 Q hend=>?_
 replace h:q21y d x=some r:=h
 unfold q21y at h
 show Run prog w0 φ0 22 (qdv f88) ⟨[(0,.agg [.int .i64 x.1.1,.int .i64 x.1.2.1,.int .i64 x.1.2.2.1]),(1,.agg [.int .i64 x.2.1.1,.int .i64 x.2.1.2.1,.int .i64 x.2.1.2.2.1])],[]⟩ Q
 refine q2jr hm hT hC (q21p (q21i d) (x.1.1,x.1.2.1,x.1.2.2.1,x.2.1.1,x.2.1.2.1,x.2.1.2.2.1)) h fun y0 h=>?_
 refine q2jr hm hT hC (q21t (q21i d) y0) h fun y1 h=>?_
 refine q2jr hm hT hC (q21x (q21i d) y1) h fun y2 h=>?_
 refine q8w ?_
 cases h
 exact (hend _ (by kernel_rfl)).2
abbrev q220:List Pk:=[.row Riii true,.row Riii true,.row Rii true]
abbrev q221:Type:=Diii×Diii×Dii×Unit
abbrev q222:Type:=Int×Int×Bool
def q223 (r:q222):LV×List Ob:=(.tup [.agg [.int .i64 r.1,.int .i64 r.2.1],.bool r.2.2],[])
def q224 (F:q221→Option q222):Go.Tx.Spec:=⟨57,q220,q222,F,q223⟩
abbrev q225:Type:=(qp7→Option qp8)×(q21d→Option q21e)×Unit
def q226 (d:Nat):q225:=(qpc d,q21y d,())
def q227 (C:q225):List Go.Tx.Spec:=[qpa C.1,q21g C.2.1]
abbrev q228:Type:=Int×Int×Int×Int×Int×Int×Int×Int
def q229 (v:q228):St:=⟨[(0,.agg [i6 v.1,i6 v.2.1,i6 v.2.2.1]),(1,.agg [i6 v.2.2.2.1,i6 v.2.2.2.2.1,i6 v.2.2.2.2.2.1]),(2,.agg [i6 v.2.2.2.2.2.2.1,i6 v.2.2.2.2.2.2.2])],[]⟩
abbrev q22a:Type:=Int×Int×Int×Int×Int×Int×Int×Int×Int×Int
def q22b (v:q22a):St:=⟨[(3,.ptr 0 0),(4,.ptr 1 0),(5,.ptr 2 0),(6,.ptr 3 0)],[.cells [i6 v.1,i6 v.2.1,i6 v.2.2.1],.cells [i6 v.2.2.2.1,i6 v.2.2.2.2.1,i6 v.2.2.2.2.2.1],.cells [i6 v.2.2.2.2.2.2.1,i6 v.2.2.2.2.2.2.2.1],.cells [i6 v.2.2.2.2.2.2.2.2.1,i6 v.2.2.2.2.2.2.2.2.2]]⟩
def q22c (C:q225) (v:q228):Dt q22a:=(Dt.ret (v.1,v.2.1,v.2.2.1,v.2.2.2.1,v.2.2.2.2.1,v.2.2.2.2.2.1,v.2.2.2.2.2.2.1,v.2.2.2.2.2.2.2,(0:Int),(0:Int)))
abbrev q2kr {V Y:Type}:=@rg q225 V Y tysT (fun C=>(orc (q227 C))) 22
theorem q22d C v:q2kr (regO (qdv f57) 0) false (an [3,4,5,6]) q229 q22c q22b C v:=rgI (by kernel_rfl)
abbrev q22e:Type:=Bool×Int×Int×Int×Int×Int×Int×Int×Int×Int×Int
def q22f (v:q22e):St:=⟨[(3,.ptr 0 0),(4,.ptr 1 0),(5,.ptr 2 0),(6,.ptr 3 0),(11,.bool v.1)],[.cells [i6 v.2.1,i6 v.2.2.1,i6 v.2.2.2.1],.cells [i6 v.2.2.2.2.1,i6 v.2.2.2.2.2.1,i6 v.2.2.2.2.2.2.1],.cells [i6 v.2.2.2.2.2.2.2.1,i6 v.2.2.2.2.2.2.2.2.1],.cells [i6 v.2.2.2.2.2.2.2.2.2.1,i6 v.2.2.2.2.2.2.2.2.2.2]]⟩
def q22g (C:q225) (v:q22a):Dt q22e:=(Dt.bnd (C.1 ((v.2.2.2.1,v.2.2.2.2.1,v.2.2.2.2.2.1,()),(v.1,v.2.1,v.2.2.1,()),(v.2.2.2.2.2.2.1,v.2.2.2.2.2.2.2.1,()),())) fun r1=>(Dt.ret (r1,v.1,v.2.1,v.2.2.1,v.2.2.2.1,v.2.2.2.2.1,v.2.2.2.2.2.1,v.2.2.2.2.2.2.1,v.2.2.2.2.2.2.2.1,v.2.2.2.2.2.2.2.2.1,v.2.2.2.2.2.2.2.2.2)))
theorem q22h C v:q2kr (regO (qdv f57) 1) false (an [3,4,5,6,11]) q22b q22g q22f C v:=rgI (by kernel_rfl)
abbrev q22i:Type:=Bool×Int×Int
def q22j (v:q22i):St:=⟨[(6,.ptr 0 0),(7,.bool v.1)],[.cells [i6 v.2.1,i6 v.2.2]]⟩
def q22k (C:q225) (v:q22e):Dt q22i:=(Dt.ret (true,v.2.2.2.2.2.2.2.1,v.2.2.2.2.2.2.2.2.1))
theorem q22l C v:q2kr (regO (qdv f57) 2) false (an [6,7]) q22f q22k q22j C v:=rgI (by kernel_rfl)
abbrev q22m:Type:=Bool×Int×Int×Int×Int×Int×Int×Int×Int
def q22n (v:q22m):St:=⟨[(3,.ptr 0 0),(4,.ptr 1 0),(6,.ptr 2 0),(17,.bool v.1)],[.cells [i6 v.2.1,i6 v.2.2.1,i6 v.2.2.2.1],.cells [i6 v.2.2.2.2.1,i6 v.2.2.2.2.2.1,i6 v.2.2.2.2.2.2.1],.cells [i6 v.2.2.2.2.2.2.2.1,i6 v.2.2.2.2.2.2.2.2]]⟩
def q22o (C:q225) (v:q22e):Dt q22m:=(Dt.ret ((decide (v.2.2.2.2.2.2.1 > v.2.2.2.1)),v.2.1,v.2.2.1,v.2.2.2.1,v.2.2.2.2.1,v.2.2.2.2.2.1,v.2.2.2.2.2.2.1,v.2.2.2.2.2.2.2.2.2.1,v.2.2.2.2.2.2.2.2.2.2))
theorem q22p C v:q2kr (regO (qdv f57) 3) false (an [3,4,6,17]) q22f q22o q22n C v:=rgI (by kernel_rfl)
def q22q (C:q225) (v:q22m):Dt q22i:=(Dt.bnd (C.2.1 ((v.2.1,v.2.2.1,v.2.2.2.1,()),(v.2.2.2.2.1,v.2.2.2.2.2.1,v.2.2.2.2.2.2.1,()),())) fun r1=>(Dt.ret (true,r1.1,r1.2)))
theorem q22r C v:q2kr (regO (qdv f57) 4) false (an [6,7]) q22n q22q q22j C v:=rgI (by kernel_rfl)
def q22s (C:q225) (v:q22m):Dt q22i:=(Dt.ret (false,(0:Int),(0:Int)))
theorem q22t C v:q2kr (regO (qdv f57) 5) false (an [6,7]) q22n q22s q22j C v:=rgI (by kernel_rfl)
def q22u (d:Nat) (x:q221):Option q222 :=
 (q22c (q226 d) (x.1.1,x.1.2.1,x.1.2.2.1,x.2.1.1,x.2.1.2.1,x.2.1.2.2.1,x.2.2.1.1,x.2.2.1.2.1)).eval fun y0 =>
 (q22g (q226 d) y0).eval fun y1 =>
 bif y1.1 then ((q22k (q226 d) y1).eval fun y2 =>
 some (y2.2.1,y2.2.2,y2.1)) else ((q22o (q226 d) y1).eval fun y3 =>
 bif y3.1 then ((q22q (q226 d) y3).eval fun y4 =>
 some (y4.2.1,y4.2.2,y4.1)) else ((q22s (q226 d) y3).eval fun y5 =>
 some (y5.2.1,y5.2.2,y5.1)))
theorem q22v (d:Nat):COK prog (q224 (q22u d)):=by
 have hm:prog.follows .mixedOrders=true:=mixed
 have hT:=tys
 have hC0:OrcOK prog (orc (q227 (q226 d))):=qdp (by
  intro S hS
  simp only [q227,List.mem_cons,List.not_mem_nil,or_false] at hS
  rcases hS with rfl | rfl
  · exact qpe d
  · exact q21z d)
 have hC:OrcOK prog (orc (q227 (q226 d))):=hC0
 refine q9e (c:=qdv f57) (fn:=f57) hT (by kernel_rfl) (by kernel_rfl) (by decide) fun x r h w0 φ0 Q hend=>?_
 replace h:q22u d x=some r:=h
 unfold q22u at h
 show Run prog w0 φ0 22 (qdv f57) ⟨[(0,.agg [.int .i64 x.1.1,.int .i64 x.1.2.1,.int .i64 x.1.2.2.1]),(1,.agg [.int .i64 x.2.1.1,.int .i64 x.2.1.2.1,.int .i64 x.2.1.2.2.1]),(2,.agg [.int .i64 x.2.2.1.1,.int .i64 x.2.2.1.2.1])],[]⟩ Q
 refine q2jr hm hT hC (q22d (q226 d) (x.1.1,x.1.2.1,x.1.2.2.1,x.2.1.1,x.2.1.2.1,x.2.1.2.2.1,x.2.2.1.1,x.2.2.1.2.1)) h fun y0 h=>?_
 refine q8x ?_
 refine q2jr hm hT hC (q22h (q226 d) y0) h fun y1 h=>?_
 refine q91 (v:=y1.1) (by kernel_rfl) h ?_ ?_
 ·
  intro h
  refine q2jr hm hT hC (q22l (q226 d) y1) h fun y2 h=>?_
  refine q8w (q8l ?_)
  cases h
  exact (hend _ (by kernel_rfl)).2
 ·
  intro h
  refine q8t (q8j (q8x ?_))
  refine q2jr hm hT hC (q22p (q226 d) y1) h fun y3 h=>?_
  refine q91 (v:=y3.1) (by kernel_rfl) h ?_ ?_
  ·
   intro h
   refine q2jr hm hT hC (q22r (q226 d) y3) h fun y4 h=>?_
   refine q8w (q8l ?_)
   cases h
   exact (hend _ (by kernel_rfl)).2
  ·
   intro h
   refine q8t (q8j ?_)
   refine q2jr hm hT hC (q22t (q226 d) y3) h fun y5 h=>?_
   refine q8w ?_
   cases h
   exact (hend _ (by kernel_rfl)).2
abbrev q22w:List Pk:=[.row qka false,.row Rii true,.row Rii true,.row Rb false]
abbrev q22x:Type:=qkb×Dii×Dii×Db×Unit
abbrev q22y:Type:=Int×Int×Bool
def q22z (r:q22y):LV×List Ob:=(.tup [.agg [.int .i64 r.1,.int .i64 r.2.1],.bool r.2.2],[])
def q230 (F:q22x→Option q22y):Go.Tx.Spec:=⟨58,q22w,q22y,F,q22z⟩
abbrev q231:Type:=(q1vk→Option q1vl)×(q207→Option q208)×Unit
def q232 (d:Nat):q231:=(q1wn d,q21a d,())
def q233 (C:q231):List Go.Tx.Spec:=[q1vn C.1,q20a C.2.1]
abbrev q234:Type:=List Diii×Int×Int×Int×Int×Bool
def q235 (v:q234):St:=⟨[(0,.fz Riii v.1),(1,.agg [i6 v.2.1,i6 v.2.2.1]),(2,.agg [i6 v.2.2.2.1,i6 v.2.2.2.2.1]),(3,.bool v.2.2.2.2.2)],[]⟩
abbrev q236:Type:=List Diii×Bool×Int×Int×Int×Int×Int×Int
def q237 (v:q236):St:=⟨[(0,.fz Riii v.1),(3,.bool v.2.1),(5,.ptr 0 0),(6,.ptr 1 0),(8,.ptr 2 0)],[.cells [i6 v.2.2.1,i6 v.2.2.2.1],.cells [i6 v.2.2.2.2.1,i6 v.2.2.2.2.2.1],.cells [i6 v.2.2.2.2.2.2.1,i6 v.2.2.2.2.2.2.2]]⟩
def q238 (C:q231) (v:q234):Dt q236:=(Dt.ret (v.1,v.2.2.2.2.2,v.2.1,v.2.2.1,v.2.2.2.1,v.2.2.2.2.1,(0:Int),(0:Int)))
abbrev q2ks {V Y:Type}:=@rg q231 V Y tysT (fun C=>(orc (q233 C))) 40
theorem q239 C v:q2ks (regO (qdv f58) 0) false [(0,(.val Riii)),(3,.any),(5,.any),(6,.any),(8,.any)] q235 q238 q237 C v:=rgI (by kernel_rfl)
abbrev q23a:Type:=List Diii×Bool×Int×Int×Int×Int×Int
def q23b (v:q23a):St:=⟨[(0,.fz Riii v.1),(3,.bool v.2.1),(6,.ptr 0 0),(8,.ptr 1 0),(10,i6 v.2.2.1)],[.cells [i6 v.2.2.2.1,i6 v.2.2.2.2.1],.cells [i6 v.2.2.2.2.2.1,i6 v.2.2.2.2.2.2]]⟩
def q23c (C:q231) (v:q236):Dt q23a:=(Dt.bnd (C.2.1 ((v.1,()),(v.2.2.1,v.2.2.2.1,()),())) fun r1=>(Dt.ret (v.1,v.2.1,(IntKind.wrap .i64 (r1+(1:Int))),v.2.2.2.2.1,v.2.2.2.2.2.1,v.2.2.2.2.2.2.1,v.2.2.2.2.2.2.2)))
theorem q23d C v:q2ks (regO (qdv f58) 1) false [(0,(.val Riii)),(3,.any),(6,.any),(8,.any),(10,.any)] q237 q23c q23b C v:=rgI (by kernel_rfl)
abbrev q23e:Type:=List Diii×Bool×Int×Bool×Int×Int×Int×Int
def q23f (v:q23e):St:=⟨[(0,.fz Riii v.1),(3,.bool v.2.1),(6,.ptr 0 0),(8,.ptr 1 0),(10,i6 v.2.2.1),(32,.bool v.2.2.2.1)],[.cells [i6 v.2.2.2.2.1,i6 v.2.2.2.2.2.1],.cells [i6 v.2.2.2.2.2.2.1,i6 v.2.2.2.2.2.2.2]]⟩
def q23g (C:q231) (v:q23a):Dt q23e:=(Dt.ite (decide (v.2.2.1<(List.length v.1:Int))) (Dt.ite (!v.2.1) (Dt.ret (v.1,v.2.1,v.2.2.1,true,v.2.2.2.1,v.2.2.2.2.1,v.2.2.2.2.2.1,v.2.2.2.2.2.2)) (Dt.ite (inB v.2.2.1 (List.length v.1)) (Dt.bnd (C.1 (((elt ziii v.1 (v.2.2.1).toNat).1,(elt ziii v.1 (v.2.2.1).toNat).2.1,()),(v.2.2.2.1,v.2.2.2.2.1,()),())) fun r1=>(Dt.ret (v.1,v.2.1,v.2.2.1,(decide (r1<(0:Int))),v.2.2.2.1,v.2.2.2.2.1,v.2.2.2.2.2.1,v.2.2.2.2.2.2))) Dt.fail)) (Dt.ret (v.1,v.2.1,v.2.2.1,false,v.2.2.2.1,v.2.2.2.2.1,v.2.2.2.2.2.1,v.2.2.2.2.2.2)))
theorem q23h C v:q2ks (regO (qdv f58) 2) true [(0,(.val Riii)),(3,.any),(6,.any),(8,.any),(10,.any),(32,.any)] q23b q23g q23f C v:=rgI (by kernel_rfl)
abbrev q23i:Type:=Bool×Int×Int
def q23j (v:q23i):St:=⟨[(8,.ptr 0 0),(9,.bool v.1)],[.cells [i6 v.2.1,i6 v.2.2]]⟩
def q23k (C:q231) (v:q23e):Dt q23i:=(Dt.ite (inB v.2.2.1 (List.length v.1)) (Dt.ret (true,(elt ziii v.1 (v.2.2.1).toNat).1,(elt ziii v.1 (v.2.2.1).toNat).2.1)) Dt.fail)
theorem q23l C v:q2ks (regO (qdv f58) 3) false (an [8,9]) q23f q23k q23j C v:=rgI (by kernel_rfl)
def q23m (C:q231) (v:q23e):Dt q23i:=(Dt.ret (v.2.1,v.2.2.2.2.1,v.2.2.2.2.2.1))
theorem q23n C v:q2ks (regO (qdv f58) 4) false (an [8,9]) q23f q23m q23j C v:=rgI (by kernel_rfl)
def q23o (d:Nat) (x:q22x):Option q22y :=
 (q238 (q232 d) (x.1.1,x.2.1.1,x.2.1.2.1,x.2.2.1.1,x.2.2.1.2.1,x.2.2.2.1.1)).eval fun y0 =>
 (q23c (q232 d) y0).eval fun y1 =>
 (q23g (q232 d) y1).eval fun y2 =>
 bif y2.2.2.2.1 then ((q23k (q232 d) y2).eval fun y3 =>
 some (y3.2.1,y3.2.2,y3.1)) else ((q23m (q232 d) y2).eval fun y4 =>
 some (y4.2.1,y4.2.2,y4.1))
theorem q23p (d:Nat):COK prog (q230 (q23o d)):=by
 have hm:prog.follows .mixedOrders=true:=mixed
 have hT:=tys
 have hC0:OrcOK prog (orc (q233 (q232 d))):=qdp (by
  intro S hS
  simp only [q233,List.mem_cons,List.not_mem_nil,or_false] at hS
  rcases hS with rfl | rfl
  · exact q1wo d
  · exact q21b d)
 have hC:OrcOK prog (orc (q233 (q232 d))):=hC0
 refine q9e (c:=qdv f58) (fn:=f58) hT (by kernel_rfl) (by kernel_rfl) (by decide) fun x r h w0 φ0 Q hend=>?_
 replace h:q23o d x=some r:=h
 unfold q23o at h
 show Run prog w0 φ0 40 (qdv f58) ⟨[(0,.fz Riii x.1.1),(1,.agg [.int .i64 x.2.1.1,.int .i64 x.2.1.2.1]),(2,.agg [.int .i64 x.2.2.1.1,.int .i64 x.2.2.1.2.1]),(3,.bool x.2.2.2.1.1)],[]⟩ Q
 refine q2jr hm hT hC (q239 (q232 d) (x.1.1,x.2.1.1,x.2.1.2.1,x.2.2.1.1,x.2.2.1.2.1,x.2.2.2.1.1)) h fun y0 h=>?_
 refine q2jr hm hT hC (q23d (q232 d) y0) h fun y1 h=>?_
 refine q8x ?_
 refine q2jr hm hT hC (q23h (q232 d) y1) h fun y2 h=>?_
 refine q91 (v:=y2.2.2.2.1) (by kernel_rfl) h ?_ ?_
 ·
  intro h
  refine q2jr hm hT hC (q23l (q232 d) y2) h fun y3 h=>?_
  refine q8w (q8l ?_)
  cases h
  exact (hend _ (by kernel_rfl)).2
 ·
  intro h
  refine q8t (q8j ?_)
  refine q2jr hm hT hC (q23n (q232 d) y2) h fun y4 h=>?_
  refine q8w ?_
  cases h
  exact (hend _ (by kernel_rfl)).2
abbrev q23q:List Pk:=[.row qka true,.row qka false,.row qka false]
abbrev q23r:Type:=qkb×qkb×qkb×Unit
abbrev q23s:Type:=List Diii
def q23t (r:q23s):LV×List Ob:=(.rs 0,[.rows Riii r])
def q23u (F:q23r→Option q23s):Go.Tx.Spec:=⟨33,q23q,q23s,F,q23t⟩
abbrev q23v:Type:=(qqp→Option qqq)×(q207→Option q208)×(qp7→Option qp8)×(q221→Option q222)×(q22x→Option q22y)×Unit
def q23w (d:Nat):q23v:=(qqu d,q21a d,qpc d,q22u d,q23o d,())
def q23x (C:q23v):List Go.Tx.Spec:=[qqs C.1,q20a C.2.1,qpa C.2.2.1,q224 C.2.2.2.1,q230 C.2.2.2.2.1]
abbrev q23y:Type:=List Diii×List Diii×List Diii
def q23z (v:q23y):St:=⟨[(0,.agg [.fz Riii v.1]),(1,.fz Riii v.2.1),(2,.fz Riii v.2.2)],[]⟩
abbrev q240:Type:=List Diii×List Diii×List Diii
def q241 (v:q240):St:=⟨[(1,.fz Riii v.1),(2,.fz Riii v.2.1),(3,.ptr 0 0)],[.cells [.fz Riii v.2.2]]⟩
def q242 (C:q23v) (v:q23y):Dt q240:=(Dt.ret (v.2.1,v.2.2,v.1))
abbrev q2kt {V Y:Type}:=@rg q23v V Y tysT (fun C=>(orc (q23x C))) 111
theorem q243 C v:q2kt (regO (qdv f33) 0) false [(1,(.val Riii)),(2,(.val Riii)),(3,(.box [.val Riii]))] q23z q242 q241 C v:=rgI (by kernel_rfl)
abbrev q244:Type:=List Diii×List Diii×List Diii×Int×Int
def q245 (v:q244):St:=⟨[(1,.fz Riii v.1),(2,.fz Riii v.2.1),(3,.ptr 0 0),(7,.ptr 1 0)],[.cells [.fz Riii v.2.2.1],.cells [i6 v.2.2.2.1,i6 v.2.2.2.2]]⟩
def q246 (C:q23v) (v:q240):Dt q244:=(Dt.ite (inB (0:Int) (List.length v.1)) (Dt.ret (v.1,v.2.1,v.2.2,(elt ziii v.1 ((0:Int)).toNat).1,(elt ziii v.1 ((0:Int)).toNat).2.1)) Dt.fail)
theorem q247 C v:q2kt (regO (qdv f33) 1) false [(1,(.val Riii)),(2,(.val Riii)),(3,(.box [.val Riii])),(7,.any)] q241 q246 q245 C v:=rgI (by kernel_rfl)
abbrev q248:Type:=List Diii×List Diii×List Diii×Int×Int×List Diii
def q249 (v:q248):St:=⟨[(1,.fz Riii v.1),(2,.fz Riii v.2.1),(3,.ptr 0 0),(7,.ptr 1 0),(8,.rs 2)],[.cells [.fz Riii v.2.2.1],.cells [i6 v.2.2.2.1,i6 v.2.2.2.2.1],.rows Riii v.2.2.2.2.2]⟩
def q24a (C:q23v) (v:q244):Dt q248:=(Dt.ret (v.1,v.2.1,v.2.2.1,v.2.2.2.1,v.2.2.2.2,([]:List Diii)))
theorem q24b C v:q2kt (regO (qdv f33) 2) false [(1,(.val Riii)),(2,(.val Riii)),(3,(.box [.val Riii])),(7,.any),(8,(.own Riii))] q245 q24a q249 C v:=rgI (by kernel_rfl)
abbrev q24c:Type:=List Diii×List Diii×List Diii×Int×Int×List Diii×Int×Int×Int
def q24d (v:q24c):St:=⟨[(1,.fz Riii v.1),(2,.fz Riii v.2.1),(3,.ptr 0 0),(7,.ptr 1 0),(8,.rs 2),(9,.ptr 3 0)],[.cells [.fz Riii v.2.2.1],.cells [i6 v.2.2.2.1,i6 v.2.2.2.2.1],.rows Riii v.2.2.2.2.2.1,.cells [i6 v.2.2.2.2.2.2.1,i6 v.2.2.2.2.2.2.2.1,i6 v.2.2.2.2.2.2.2.2]]⟩
def q24e (C:q23v) (v:q248):Dt q24c:=(Dt.bnd (C.2.1 ((v.1,()),(v.2.2.2.1,v.2.2.2.2.1,()),())) fun r1=>(Dt.ite (inB r1 (List.length v.1)) (Dt.bnd (C.1 ((v.2.2.1,()),((elt ziii v.1 (r1).toNat).2.2.1,()),())) fun r2=>(Dt.ite (inB r2 (List.length v.2.2.1)) (Dt.ret (v.1,v.2.1,v.2.2.1,v.2.2.2.1,v.2.2.2.2.1,v.2.2.2.2.2,(elt ziii v.2.2.1 (r2).toNat).1,(elt ziii v.2.2.1 (r2).toNat).2.1,(elt ziii v.2.2.1 (r2).toNat).2.2.1)) Dt.fail)) Dt.fail))
theorem q24f C v:q2kt (regO (qdv f33) 3) true [(1,(.val Riii)),(2,(.val Riii)),(3,(.box [.val Riii])),(7,.any),(8,(.own Riii)),(9,.any)] q249 q24e q24d C v:=rgI (by kernel_rfl)
abbrev q24g:Type:=List Diii×List Diii×List Diii×Int×Int×List Diii×Int×Int×Int×Int×Int×Int
def q24h (v:q24g):St:=⟨[(1,.fz Riii v.1),(2,.fz Riii v.2.1),(3,.ptr 0 0),(7,.ptr 1 0),(8,.rs 2),(9,.ptr 3 0),(10,.ptr 4 0)],[.cells [.fz Riii v.2.2.1],.cells [i6 v.2.2.2.1,i6 v.2.2.2.2.1],.rows Riii v.2.2.2.2.2.1,.cells [i6 v.2.2.2.2.2.2.1,i6 v.2.2.2.2.2.2.2.1,i6 v.2.2.2.2.2.2.2.2.1],.cells [i6 v.2.2.2.2.2.2.2.2.2.1,i6 v.2.2.2.2.2.2.2.2.2.2.1,i6 v.2.2.2.2.2.2.2.2.2.2.2]]⟩
def q24i (C:q23v) (v:q24c):Dt q24g:=(Dt.bnd (C.2.1 ((v.2.1,()),(v.2.2.2.1,v.2.2.2.2.1,()),())) fun r1=>(Dt.ite (inB r1 (List.length v.2.1)) (Dt.bnd (C.1 ((v.2.2.1,()),((elt ziii v.2.1 (r1).toNat).2.2.1,()),())) fun r2=>(Dt.ite (inB r2 (List.length v.2.2.1)) (Dt.ret (v.1,v.2.1,v.2.2.1,v.2.2.2.1,v.2.2.2.2.1,v.2.2.2.2.2.1,v.2.2.2.2.2.2.1,v.2.2.2.2.2.2.2.1,v.2.2.2.2.2.2.2.2,(elt ziii v.2.2.1 (r2).toNat).1,(elt ziii v.2.2.1 (r2).toNat).2.1,(elt ziii v.2.2.1 (r2).toNat).2.2.1)) Dt.fail)) Dt.fail))
theorem q24j C v:q2kt (regO (qdv f33) 4) true [(1,(.val Riii)),(2,(.val Riii)),(3,(.box [.val Riii])),(7,.any),(8,(.own Riii)),(9,.any),(10,.any)] q24d q24i q24h C v:=rgI (by kernel_rfl)
abbrev q24k:Type:=List Diii×List Diii×Bool×List Diii×Int×Int×List Diii×Int×Int×Int×Int×Int×Int×Int×Int
def q24l (v:q24k):St:=⟨[(1,.fz Riii v.1),(2,.fz Riii v.2.1),(3,.ptr 0 0),(7,.ptr 1 0),(8,.rs 2),(9,.ptr 3 0),(10,.ptr 4 0),(11,.ptr 5 0),(12,.bool v.2.2.1)],[.cells [.fz Riii v.2.2.2.1],.cells [i6 v.2.2.2.2.1,i6 v.2.2.2.2.2.1],.rows Riii v.2.2.2.2.2.2.1,.cells [i6 v.2.2.2.2.2.2.2.1,i6 v.2.2.2.2.2.2.2.2.1,i6 v.2.2.2.2.2.2.2.2.2.1],.cells [i6 v.2.2.2.2.2.2.2.2.2.2.1,i6 v.2.2.2.2.2.2.2.2.2.2.2.1,i6 v.2.2.2.2.2.2.2.2.2.2.2.2.1],.cells [i6 v.2.2.2.2.2.2.2.2.2.2.2.2.2.1,i6 v.2.2.2.2.2.2.2.2.2.2.2.2.2.2]]⟩
def q24m (C:q23v) (v:q24g):Dt q24k:=(Dt.ret (v.1,v.2.1,false,v.2.2.1,v.2.2.2.1,v.2.2.2.2.1,v.2.2.2.2.2.1,v.2.2.2.2.2.2.1,v.2.2.2.2.2.2.2.1,v.2.2.2.2.2.2.2.2.1,v.2.2.2.2.2.2.2.2.2.1,v.2.2.2.2.2.2.2.2.2.2.1,v.2.2.2.2.2.2.2.2.2.2.2,(0:Int),(0:Int)))
theorem q24n C v:q2kt (regO (qdv f33) 5) false [(1,(.val Riii)),(2,(.val Riii)),(3,(.box [.val Riii])),(7,.any),(8,(.own Riii)),(9,.any),(10,.any),(11,.any),(12,.any)] q24h q24m q24l C v:=rgI (by kernel_rfl)
abbrev q24o:Type:=List Diii×List Diii×Bool×Bool×List Diii×Int×Int×List Diii×Int×Int×Int×Int×Int×Int×Int×Int
def q24p (v:q24o):St:=⟨[(1,.fz Riii v.1),(2,.fz Riii v.2.1),(3,.ptr 0 0),(7,.ptr 1 0),(8,.rs 2),(9,.ptr 3 0),(10,.ptr 4 0),(11,.ptr 5 0),(12,.bool v.2.2.1),(54,.bool v.2.2.2.1)],[.cells [.fz Riii v.2.2.2.2.1],.cells [i6 v.2.2.2.2.2.1,i6 v.2.2.2.2.2.2.1],.rows Riii v.2.2.2.2.2.2.2.1,.cells [i6 v.2.2.2.2.2.2.2.2.1,i6 v.2.2.2.2.2.2.2.2.2.1,i6 v.2.2.2.2.2.2.2.2.2.2.1],.cells [i6 v.2.2.2.2.2.2.2.2.2.2.2.1,i6 v.2.2.2.2.2.2.2.2.2.2.2.2.1,i6 v.2.2.2.2.2.2.2.2.2.2.2.2.2.1],.cells [i6 v.2.2.2.2.2.2.2.2.2.2.2.2.2.2.1,i6 v.2.2.2.2.2.2.2.2.2.2.2.2.2.2.2]]⟩
def q24q (C:q23v) (v:q24k):Dt q24o:=(Dt.ite (v.2.2.2.2.2.2.2.1 != v.2.2.2.2.2.2.2.2.2.2.1) (Dt.bnd (C.2.2.1 ((v.2.2.2.2.2.2.2.2.2.2.1,v.2.2.2.2.2.2.2.2.2.2.2.1,v.2.2.2.2.2.2.2.2.2.2.2.2.1,()),(v.2.2.2.2.2.2.2.1,v.2.2.2.2.2.2.2.2.1,v.2.2.2.2.2.2.2.2.2.1,()),(v.2.2.2.2.1,v.2.2.2.2.2.1,()),())) fun r1=>(Dt.ret (v.1,v.2.1,v.2.2.1,r1,v.2.2.2.1,v.2.2.2.2.1,v.2.2.2.2.2.1,v.2.2.2.2.2.2.1,v.2.2.2.2.2.2.2.1,v.2.2.2.2.2.2.2.2.1,v.2.2.2.2.2.2.2.2.2.1,v.2.2.2.2.2.2.2.2.2.2.1,v.2.2.2.2.2.2.2.2.2.2.2.1,v.2.2.2.2.2.2.2.2.2.2.2.2.1,v.2.2.2.2.2.2.2.2.2.2.2.2.2.1,v.2.2.2.2.2.2.2.2.2.2.2.2.2.2))) (Dt.ret (v.1,v.2.1,v.2.2.1,false,v.2.2.2.1,v.2.2.2.2.1,v.2.2.2.2.2.1,v.2.2.2.2.2.2.1,v.2.2.2.2.2.2.2.1,v.2.2.2.2.2.2.2.2.1,v.2.2.2.2.2.2.2.2.2.1,v.2.2.2.2.2.2.2.2.2.2.1,v.2.2.2.2.2.2.2.2.2.2.2.1,v.2.2.2.2.2.2.2.2.2.2.2.2.1,v.2.2.2.2.2.2.2.2.2.2.2.2.2.1,v.2.2.2.2.2.2.2.2.2.2.2.2.2.2)))
theorem q24r C v:q2kt (regO (qdv f33) 6) false [(1,(.val Riii)),(2,(.val Riii)),(3,(.box [.val Riii])),(7,.any),(8,(.own Riii)),(9,.any),(10,.any),(11,.any),(12,.any),(54,.any)] q24l q24q q24p C v:=rgI (by kernel_rfl)
def q24s (C:q23v) (v:q24o):Dt q24k:=(Dt.ret (v.1,v.2.1,v.2.2.1,v.2.2.2.2.1,v.2.2.2.2.2.1,v.2.2.2.2.2.2.1,v.2.2.2.2.2.2.2.1,v.2.2.2.2.2.2.2.2.2.2.2.1,v.2.2.2.2.2.2.2.2.2.2.2.2.1,v.2.2.2.2.2.2.2.2.2.2.2.2.2.1,v.2.2.2.2.2.2.2.2.1,v.2.2.2.2.2.2.2.2.2.1,v.2.2.2.2.2.2.2.2.2.2.1,v.2.2.2.2.2.2.2.2.2.2.2.2.2.2.1,v.2.2.2.2.2.2.2.2.2.2.2.2.2.2.2))
theorem q24t C v:q2kt (regO (qdv f33) 7) false [(1,(.val Riii)),(2,(.val Riii)),(3,(.box [.val Riii])),(7,.any),(8,(.own Riii)),(9,.any),(10,.any),(11,.any),(12,.any)] q24p q24s q24l C v:=rgI (by kernel_rfl)
abbrev q24u:Type:=List Diii×List Diii×Bool×Bool×List Diii×Int×Int×List Diii×Int×Int×Int×Int×Int×Int×Int×Int
def q24v (v:q24u):St:=⟨[(1,.fz Riii v.1),(2,.fz Riii v.2.1),(3,.ptr 0 0),(7,.ptr 1 0),(8,.rs 2),(9,.ptr 3 0),(10,.ptr 4 0),(11,.ptr 5 0),(12,.bool v.2.2.1),(61,.bool v.2.2.2.1)],[.cells [.fz Riii v.2.2.2.2.1],.cells [i6 v.2.2.2.2.2.1,i6 v.2.2.2.2.2.2.1],.rows Riii v.2.2.2.2.2.2.2.1,.cells [i6 v.2.2.2.2.2.2.2.2.1,i6 v.2.2.2.2.2.2.2.2.2.1,i6 v.2.2.2.2.2.2.2.2.2.2.1],.cells [i6 v.2.2.2.2.2.2.2.2.2.2.2.1,i6 v.2.2.2.2.2.2.2.2.2.2.2.2.1,i6 v.2.2.2.2.2.2.2.2.2.2.2.2.2.1],.cells [i6 v.2.2.2.2.2.2.2.2.2.2.2.2.2.2.1,i6 v.2.2.2.2.2.2.2.2.2.2.2.2.2.2.2]]⟩
def q24w (C:q23v) (v:q24k):Dt q24u:=(Dt.ret (v.1,v.2.1,v.2.2.1,(v.2.2.2.2.2.2.2.1 != v.2.2.2.2.2.2.2.2.2.2.1),v.2.2.2.1,v.2.2.2.2.1,v.2.2.2.2.2.1,v.2.2.2.2.2.2.1,v.2.2.2.2.2.2.2.1,v.2.2.2.2.2.2.2.2.1,v.2.2.2.2.2.2.2.2.2.1,v.2.2.2.2.2.2.2.2.2.2.1,v.2.2.2.2.2.2.2.2.2.2.2.1,v.2.2.2.2.2.2.2.2.2.2.2.2.1,v.2.2.2.2.2.2.2.2.2.2.2.2.2.1,v.2.2.2.2.2.2.2.2.2.2.2.2.2.2))
theorem q24x C v:q2kt (regO (qdv f33) 8) false [(1,(.val Riii)),(2,(.val Riii)),(3,(.box [.val Riii])),(7,.any),(8,(.own Riii)),(9,.any),(10,.any),(11,.any),(12,.any),(61,.any)] q24l q24w q24v C v:=rgI (by kernel_rfl)
abbrev q24y:Type:=List Diii×List Diii×Bool×List Diii×Int×Int×List Diii×Int×Int×Int×Int×Int
def q24z (v:q24y):St:=⟨[(1,.fz Riii v.1),(2,.fz Riii v.2.1),(3,.ptr 0 0),(7,.ptr 1 0),(8,.rs 2),(9,.ptr 3 0),(11,.ptr 4 0),(12,.bool v.2.2.1)],[.cells [.fz Riii v.2.2.2.1],.cells [i6 v.2.2.2.2.1,i6 v.2.2.2.2.2.1],.rows Riii v.2.2.2.2.2.2.1,.cells [i6 v.2.2.2.2.2.2.2.1,i6 v.2.2.2.2.2.2.2.2.1,i6 v.2.2.2.2.2.2.2.2.2.1],.cells [i6 v.2.2.2.2.2.2.2.2.2.2.1,i6 v.2.2.2.2.2.2.2.2.2.2.2]]⟩
def q250 (C:q23v) (v:q24u):Dt q24y:=(Dt.bnd (C.2.2.2.1 ((v.2.2.2.2.2.2.2.2.1,v.2.2.2.2.2.2.2.2.2.1,v.2.2.2.2.2.2.2.2.2.2.1,()),(v.2.2.2.2.2.2.2.2.2.2.2.1,v.2.2.2.2.2.2.2.2.2.2.2.2.1,v.2.2.2.2.2.2.2.2.2.2.2.2.2.1,()),(v.2.2.2.2.2.1,v.2.2.2.2.2.2.1,()),())) fun r1=>(Dt.ret (v.1,v.2.1,r1.2.2,v.2.2.2.2.1,v.2.2.2.2.2.1,v.2.2.2.2.2.2.1,v.2.2.2.2.2.2.2.1,v.2.2.2.2.2.2.2.2.1,v.2.2.2.2.2.2.2.2.2.1,v.2.2.2.2.2.2.2.2.2.2.1,r1.1,r1.2.1)))
theorem q251 C v:q2kt (regO (qdv f33) 9) false [(1,(.val Riii)),(2,(.val Riii)),(3,(.box [.val Riii])),(7,.any),(8,(.own Riii)),(9,.any),(11,.any),(12,.any)] q24v q250 q24z C v:=rgI (by kernel_rfl)
abbrev q252:Type:=List Diii×List Diii×Bool×Bool×List Diii×Int×Int×List Diii×Int×Int×Int×Int×Int
def q253 (v:q252):St:=⟨[(1,.fz Riii v.1),(2,.fz Riii v.2.1),(3,.ptr 0 0),(7,.ptr 1 0),(8,.rs 2),(9,.ptr 3 0),(11,.ptr 4 0),(12,.bool v.2.2.1),(83,.bool v.2.2.2.1)],[.cells [.fz Riii v.2.2.2.2.1],.cells [i6 v.2.2.2.2.2.1,i6 v.2.2.2.2.2.2.1],.rows Riii v.2.2.2.2.2.2.2.1,.cells [i6 v.2.2.2.2.2.2.2.2.1,i6 v.2.2.2.2.2.2.2.2.2.1,i6 v.2.2.2.2.2.2.2.2.2.2.1],.cells [i6 v.2.2.2.2.2.2.2.2.2.2.2.1,i6 v.2.2.2.2.2.2.2.2.2.2.2.2]]⟩
def q254 (C:q23v) (v:q24y):Dt q252:=(Dt.ite ((List.length v.2.2.2.2.2.2.1:Int) == (0:Int)) (Dt.ret (v.1,v.2.1,v.2.2.1,true,v.2.2.2.1,v.2.2.2.2.1,v.2.2.2.2.2.1,v.2.2.2.2.2.2.1,v.2.2.2.2.2.2.2.1,v.2.2.2.2.2.2.2.2.1,v.2.2.2.2.2.2.2.2.2.1,v.2.2.2.2.2.2.2.2.2.2.1,v.2.2.2.2.2.2.2.2.2.2.2)) (Dt.ite (inB (IntKind.wrap .i64 ((List.length v.2.2.2.2.2.2.1:Int) - (1:Int))) (List.length v.2.2.2.2.2.2.1)) (Dt.ret (v.1,v.2.1,v.2.2.1,((elt ziii v.2.2.2.2.2.2.1 ((IntKind.wrap .i64 ((List.length v.2.2.2.2.2.2.1:Int) - (1:Int)))).toNat).2.2.1 != v.2.2.2.2.2.2.2.1),v.2.2.2.1,v.2.2.2.2.1,v.2.2.2.2.2.1,v.2.2.2.2.2.2.1,v.2.2.2.2.2.2.2.1,v.2.2.2.2.2.2.2.2.1,v.2.2.2.2.2.2.2.2.2.1,v.2.2.2.2.2.2.2.2.2.2.1,v.2.2.2.2.2.2.2.2.2.2.2)) Dt.fail))
theorem q255 C v:q2kt (regO (qdv f33) 10) true [(1,(.val Riii)),(2,(.val Riii)),(3,(.box [.val Riii])),(7,.any),(8,(.own Riii)),(9,.any),(11,.any),(12,.any),(83,.any)] q24z q254 q253 C v:=rgI (by kernel_rfl)
abbrev q256:Type:=List Diii×List Diii×Bool×List Diii×Int×Int×List Diii×Int×Int
def q257 (v:q256):St:=⟨[(1,.fz Riii v.1),(2,.fz Riii v.2.1),(3,.ptr 0 0),(7,.ptr 1 0),(8,.rs 2),(11,.ptr 3 0),(12,.bool v.2.2.1)],[.cells [.fz Riii v.2.2.2.1],.cells [i6 v.2.2.2.2.1,i6 v.2.2.2.2.2.1],.rows Riii v.2.2.2.2.2.2.1,.cells [i6 v.2.2.2.2.2.2.2.1,i6 v.2.2.2.2.2.2.2.2]]⟩
def q258 (C:q23v) (v:q252):Dt q256:=(Dt.ite (apB (List.length v.2.2.2.2.2.2.2.1) (List.length ([(v.2.2.2.2.2.1,v.2.2.2.2.2.2.1,v.2.2.2.2.2.2.2.2.1,())]:List Diii))) (Dt.ret (v.1,v.2.1,v.2.2.1,v.2.2.2.2.1,v.2.2.2.2.2.1,v.2.2.2.2.2.2.1,(v.2.2.2.2.2.2.2.1++([(v.2.2.2.2.2.1,v.2.2.2.2.2.2.1,v.2.2.2.2.2.2.2.2.1,())]:List Diii)),v.2.2.2.2.2.2.2.2.2.2.2.1,v.2.2.2.2.2.2.2.2.2.2.2.2)) Dt.fail)
theorem q259 C v:q2kt (regO (qdv f33) 11) false [(1,(.val Riii)),(2,(.val Riii)),(3,(.box [.val Riii])),(7,.any),(8,(.own Riii)),(11,.any),(12,.any)] q253 q258 q257 C v:=rgI (by kernel_rfl)
def q25a (C:q23v) (v:q256):Dt q256:=(Dt.bnd (C.2.2.2.2.1 ((v.1,()),(v.2.2.2.2.1,v.2.2.2.2.2.1,()),(v.2.2.2.2.2.2.2.1,v.2.2.2.2.2.2.2.2,()),(v.2.2.1,()),())) fun r1=>(Dt.ret (v.1,v.2.1,r1.2.2,v.2.2.2.1,v.2.2.2.2.1,v.2.2.2.2.2.1,v.2.2.2.2.2.2.1,r1.1,r1.2.1)))
theorem q25b C v:q2kt (regO (qdv f33) 12) false [(1,(.val Riii)),(2,(.val Riii)),(3,(.box [.val Riii])),(7,.any),(8,(.own Riii)),(11,.any),(12,.any)] q257 q25a q257 C v:=rgI (by kernel_rfl)
def q25c (C:q23v) (v:q256):Dt q256:=(Dt.bnd (C.2.2.2.2.1 ((v.2.1,()),(v.2.2.2.2.1,v.2.2.2.2.2.1,()),(v.2.2.2.2.2.2.2.1,v.2.2.2.2.2.2.2.2,()),(v.2.2.1,()),())) fun r1=>(Dt.ret (v.1,v.2.1,r1.2.2,v.2.2.2.1,v.2.2.2.2.1,v.2.2.2.2.2.1,v.2.2.2.2.2.2.1,r1.1,r1.2.1)))
theorem q25d C v:q2kt (regO (qdv f33) 13) false [(1,(.val Riii)),(2,(.val Riii)),(3,(.box [.val Riii])),(7,.any),(8,(.own Riii)),(11,.any),(12,.any)] q257 q25c q257 C v:=rgI (by kernel_rfl)
abbrev q25e:Type:=List Diii×List Diii×Bool×List Diii×Int×Int×List Diii×Int×Int
def q25f (v:q25e):St:=⟨[(1,.fz Riii v.1),(2,.fz Riii v.2.1),(3,.ptr 0 0),(7,.ptr 1 0),(8,.rs 2),(11,.ptr 3 0),(108,.bool v.2.2.1)],[.cells [.fz Riii v.2.2.2.1],.cells [i6 v.2.2.2.2.1,i6 v.2.2.2.2.2.1],.rows Riii v.2.2.2.2.2.2.1,.cells [i6 v.2.2.2.2.2.2.2.1,i6 v.2.2.2.2.2.2.2.2]]⟩
def q25g (C:q23v) (v:q256):Dt q25e:=(Dt.ret (v.1,v.2.1,(!v.2.2.1),v.2.2.2.1,v.2.2.2.2.1,v.2.2.2.2.2.1,v.2.2.2.2.2.2.1,v.2.2.2.2.2.2.2.1,v.2.2.2.2.2.2.2.2))
theorem q25h C v:q2kt (regO (qdv f33) 14) false [(1,(.val Riii)),(2,(.val Riii)),(3,(.box [.val Riii])),(7,.any),(8,(.own Riii)),(11,.any),(108,.any)] q257 q25g q25f C v:=rgI (by kernel_rfl)
abbrev q25i:Type:=List Diii
def q25j (v:q25i):St:=⟨[(6,.rs 0)],[.rows Riii v]⟩
def q25k (C:q23v) (v:q25e):Dt q25i:=(Dt.ret v.2.2.2.2.2.2.1)
theorem q25l C v:q2kt (regO (qdv f33) 15) false [(6,(.own Riii))] q25f q25k q25j C v:=rgI (by kernel_rfl)
def q25m (C:q23v) (v:q25e):Dt q248:=(Dt.ret (v.1,v.2.1,v.2.2.2.1,v.2.2.2.2.2.2.2.1,v.2.2.2.2.2.2.2.2,v.2.2.2.2.2.2.1))
theorem q25n C v:q2kt (regO (qdv f33) 16) false [(1,(.val Riii)),(2,(.val Riii)),(3,(.box [.val Riii])),(7,.any),(8,(.own Riii))] q25f q25m q249 C v:=rgI (by kernel_rfl)
def q25o  (d:Nat) (self1:(List Diii×List Diii×List Diii×Int×Int×List Diii)→Option q23s) (z:List Diii×List Diii×Bool×List Diii×Int×Int×List Diii×Int×Int):Option (q23s) :=
 (q25a (q23w d) z).eval fun y12 =>
 (q25c (q23w d) y12).eval fun y13 =>
 (q25g (q23w d) y13).eval fun y14 =>
 bif y14.2.2.1 then ((q25k (q23w d) y14).eval fun y15 =>
 some y15) else ((q25m (q23w d) y14).eval fun y16 =>
 self1 y16)
def q25p  (d:Nat) (self1:(List Diii×List Diii×List Diii×Int×Int×List Diii)→Option q23s) (z:List Diii×List Diii×Bool×List Diii×Int×Int×List Diii×Int×Int×Int×Int×Int):Option (q23s) :=
 (q254 (q23w d) z).eval fun y10 =>
 bif y10.2.2.2.1 then ((q258 (q23w d) y10).eval fun y11 =>
 q25o d self1 y11) else (q25o d self1 (y10.1,y10.2.1,y10.2.2.1,y10.2.2.2.2.1,y10.2.2.2.2.2.1,y10.2.2.2.2.2.2.1,y10.2.2.2.2.2.2.2.1,y10.2.2.2.2.2.2.2.2.2.2.2.1,y10.2.2.2.2.2.2.2.2.2.2.2.2))
def q25q  (d:Nat) (self1:(List Diii×List Diii×List Diii×Int×Int×List Diii)→Option q23s) (z:List Diii×List Diii×Bool×List Diii×Int×Int×List Diii×Int×Int×Int×Int×Int×Int×Int×Int):Option (q23s) :=
 (q24w (q23w d) z).eval fun y8 =>
 bif y8.2.2.2.1 then ((q250 (q23w d) y8).eval fun y9 =>
 q25p d self1 y9) else (q25p d self1 (y8.1,y8.2.1,y8.2.2.1,y8.2.2.2.2.1,y8.2.2.2.2.2.1,y8.2.2.2.2.2.2.1,y8.2.2.2.2.2.2.2.1,y8.2.2.2.2.2.2.2.2.1,y8.2.2.2.2.2.2.2.2.2.1,y8.2.2.2.2.2.2.2.2.2.2.1,y8.2.2.2.2.2.2.2.2.2.2.2.2.2.2.1,y8.2.2.2.2.2.2.2.2.2.2.2.2.2.2.2))
def q25r (d:Nat) (self1:(List Diii×List Diii×List Diii×Int×Int×List Diii)→Option q23s) (x1:List Diii×List Diii×List Diii×Int×Int×List Diii):Option q23s :=
 (q24e (q23w d) x1).eval fun y3 =>
 (q24i (q23w d) y3).eval fun y4 =>
 (q24m (q23w d) y4).eval fun y5 =>
 (q24q (q23w d) y5).eval fun y6 =>
 bif y6.2.2.2.1 then ((q24s (q23w d) y6).eval fun y7 =>
 q25q d self1 y7) else (q25q d self1 (y6.1,y6.2.1,y6.2.2.1,y6.2.2.2.2.1,y6.2.2.2.2.2.1,y6.2.2.2.2.2.2.1,y6.2.2.2.2.2.2.2.1,y6.2.2.2.2.2.2.2.2.1,y6.2.2.2.2.2.2.2.2.2.1,y6.2.2.2.2.2.2.2.2.2.2.1,y6.2.2.2.2.2.2.2.2.2.2.2.1,y6.2.2.2.2.2.2.2.2.2.2.2.2.1,y6.2.2.2.2.2.2.2.2.2.2.2.2.2.1,y6.2.2.2.2.2.2.2.2.2.2.2.2.2.2.1,y6.2.2.2.2.2.2.2.2.2.2.2.2.2.2.2))
def q25s (d:Nat) (x:q23r):Option q23s :=
 (q242 (q23w d) (x.1.1,x.2.1.1,x.2.2.1.1)).eval fun y0 =>
 (q246 (q23w d) y0).eval fun y1 =>
 (q24a (q23w d) y1).eval fun y2 =>
 iter (q25r d ) d y2
theorem q25t (d:Nat):COK prog (q23u (q25s d)):=by
 have hm:prog.follows .mixedOrders=true:=mixed
 have hT:=tys
 have hC0:OrcOK prog (orc (q23x (q23w d))):=qdp (by
  intro S hS
  simp only [q23x,List.mem_cons,List.not_mem_nil,or_false] at hS
  rcases hS with rfl | rfl | rfl | rfl | rfl
  · exact qqw d
  · exact q21b d
  · exact qpe d
  · exact q22v d
  · exact q23p d)
 have hC:OrcOK prog (orc (q23x (q23w d))):=hC0
 refine q9e (c:=qdv f33) (fn:=f33) hT (by kernel_rfl) (by kernel_rfl) (by decide) fun x r h w0 φ0 Q hend=>?_
 replace h:q25s d x=some r:=h
 unfold q25s at h
 show Run prog w0 φ0 111 (qdv f33) ⟨[(0,.agg [.fz Riii x.1.1]),(1,.fz Riii x.2.1.1),(2,.fz Riii x.2.2.1.1)],[]⟩ Q
 refine q2jr hm hT hC (q243 (q23w d) (x.1.1,x.2.1.1,x.2.2.1.1)) h fun y0 h=>?_
 refine q2jr hm hT hC (q247 (q23w d) y0) h fun y1 h=>?_
 refine q2jr hm hT hC (q24b (q23w d) y1) h fun y2 h=>?_
 refine q8y ?_
 refine q93 (G:=iter (q25r d )) (S:=(fun x1=>⟨[(1,.fz Riii x1.1),(2,.fz Riii x1.2.1),(3,.ptr 0 0),(7,.ptr 1 0),(8,.rs 2)],[.cells [.fz Riii x1.2.2.1],.cells [i6 x1.2.2.2.1,i6 x1.2.2.2.2.1],.rows Riii x1.2.2.2.2.2]⟩:List Diii×List Diii×List Diii×Int×Int×List Diii→St)) (fun _=>rfl) ?_ d _ h
 intro n1 x1 h K1 hn1
 replace h:q25r d  (iter (q25r d ) n1) x1=some r:=h
 generalize iter (q25r d ) n1=self1 at h hn1
 unfold q25r at h
 refine q8y ?_
 refine q2jr hm hT hC (q24f (q23w d) x1) h fun y3 h=>?_
 refine q2jr hm hT hC (q24j (q23w d) y3) h fun y4 h=>?_
 refine q2jr hm hT hC (q24n (q23w d) y4) h fun y5 h=>?_
 refine q90 (r:=r) (F:=q25q d self1) (S:=(fun z=>⟨[(1,.fz Riii z.1),(2,.fz Riii z.2.1),(3,.ptr 0 0),(7,.ptr 1 0),(8,.rs 2),(9,.ptr 3 0),(10,.ptr 4 0),(11,.ptr 5 0),(12,.bool z.2.2.1)],[.cells [.fz Riii z.2.2.2.1],.cells [i6 z.2.2.2.2.1,i6 z.2.2.2.2.2.1],.rows Riii z.2.2.2.2.2.2.1,.cells [i6 z.2.2.2.2.2.2.2.1,i6 z.2.2.2.2.2.2.2.2.1,i6 z.2.2.2.2.2.2.2.2.2.1],.cells [i6 z.2.2.2.2.2.2.2.2.2.2.1,i6 z.2.2.2.2.2.2.2.2.2.2.2.1,i6 z.2.2.2.2.2.2.2.2.2.2.2.2.1],.cells [i6 z.2.2.2.2.2.2.2.2.2.2.2.2.2.1,i6 z.2.2.2.2.2.2.2.2.2.2.2.2.2.2]]⟩:List Diii×List Diii×Bool×List Diii×Int×Int×List Diii×Int×Int×Int×Int×Int×Int×Int×Int→St)) ?_ ?_
 ·
  intro z h
  unfold q25q at h
  refine q90 (r:=r) (F:=q25p d self1) (S:=(fun z=>⟨[(1,.fz Riii z.1),(2,.fz Riii z.2.1),(3,.ptr 0 0),(7,.ptr 1 0),(8,.rs 2),(9,.ptr 3 0),(11,.ptr 4 0),(12,.bool z.2.2.1)],[.cells [.fz Riii z.2.2.2.1],.cells [i6 z.2.2.2.2.1,i6 z.2.2.2.2.2.1],.rows Riii z.2.2.2.2.2.2.1,.cells [i6 z.2.2.2.2.2.2.2.1,i6 z.2.2.2.2.2.2.2.2.1,i6 z.2.2.2.2.2.2.2.2.2.1],.cells [i6 z.2.2.2.2.2.2.2.2.2.2.1,i6 z.2.2.2.2.2.2.2.2.2.2.2]]⟩:List Diii×List Diii×Bool×List Diii×Int×Int×List Diii×Int×Int×Int×Int×Int→St)) ?_ ?_
  ·
   intro z h
   unfold q25p at h
   refine q90 (r:=r) (F:=q25o d self1) (S:=(fun z=>⟨[(1,.fz Riii z.1),(2,.fz Riii z.2.1),(3,.ptr 0 0),(7,.ptr 1 0),(8,.rs 2),(11,.ptr 3 0),(12,.bool z.2.2.1)],[.cells [.fz Riii z.2.2.2.1],.cells [i6 z.2.2.2.2.1,i6 z.2.2.2.2.2.1],.rows Riii z.2.2.2.2.2.2.1,.cells [i6 z.2.2.2.2.2.2.2.1,i6 z.2.2.2.2.2.2.2.2]]⟩:List Diii×List Diii×Bool×List Diii×Int×Int×List Diii×Int×Int→St)) ?_ ?_
   ·
    intro z h
    unfold q25o at h
    refine q2jr hm hT hC (q25b (q23w d) z) h fun y12 h=>?_
    refine q2jr hm hT hC (q25d (q23w d) y12) h fun y13 h=>?_
    refine q8x ?_
    refine q2jr hm hT hC (q25h (q23w d) y13) h fun y14 h=>?_
    refine q91 (v:=y14.2.2.1) (by kernel_rfl) h ?_ ?_
    ·
     intro h
     refine q2jr hm hT hC (q25l (q23w d) y14) h fun y15 h=>?_
     refine q8w (q8l (q8n (q8l (q8n ?_))))
     cases h
     exact (hend _ (by kernel_rfl)).2
    ·
     intro h
     refine q8t (q8j ?_)
     refine q92 hm hT hC (q25n (q23w d) y14) h ?_
     intro y16 h
     refine q8m ?_
     exact hn1 _ h
   intro hj4
   refine q2jr hm hT hC (q255 (q23w d) z) h fun y10 h=>?_
   refine q91 (v:=y10.2.2.2.1) (by kernel_rfl) h ?_ ?_
   ·
    intro h
    refine q92 hm hT hC (q259 (q23w d) y10) h ?_
    intro y11 h
    exact hj4 _ h
   ·
    intro h
    refine q8t ?_
    refine qdu (s:=⟨[(1,.fz Riii y10.1),(2,.fz Riii y10.2.1),(3,.ptr 0 0),(7,.ptr 1 0),(8,.rs 2),(11,.ptr 3 0),(12,.bool y10.2.2.1)],[.cells [.fz Riii y10.2.2.2.2.1],.cells [.int .i64 y10.2.2.2.2.2.1,.int .i64 y10.2.2.2.2.2.2.1],.rows Riii y10.2.2.2.2.2.2.2.1,.cells [.int .i64 y10.2.2.2.2.2.2.2.2.2.2.2.1,.int .i64 y10.2.2.2.2.2.2.2.2.2.2.2.2]]⟩) [9,83] (by kernel_rfl) ?_
    exact hj4 _ h
  intro hj3
  refine q2jr hm hT hC (q24x (q23w d) z) h fun y8 h=>?_
  refine q91 (v:=y8.2.2.2.1) (by kernel_rfl) h ?_ ?_
  ·
   intro h
   refine q92 hm hT hC (q251 (q23w d) y8) h ?_
   intro y9 h
   exact hj3 _ h
  ·
   intro h
   refine q8t ?_
   refine qdu (s:=⟨[(1,.fz Riii y8.1),(2,.fz Riii y8.2.1),(3,.ptr 0 0),(7,.ptr 1 0),(8,.rs 2),(9,.ptr 3 0),(11,.ptr 4 0),(12,.bool y8.2.2.1)],[.cells [.fz Riii y8.2.2.2.2.1],.cells [.int .i64 y8.2.2.2.2.2.1,.int .i64 y8.2.2.2.2.2.2.1],.rows Riii y8.2.2.2.2.2.2.2.1,.cells [.int .i64 y8.2.2.2.2.2.2.2.2.1,.int .i64 y8.2.2.2.2.2.2.2.2.2.1,.int .i64 y8.2.2.2.2.2.2.2.2.2.2.1],.cells [.int .i64 y8.2.2.2.2.2.2.2.2.2.2.2.2.2.2.1,.int .i64 y8.2.2.2.2.2.2.2.2.2.2.2.2.2.2.2]]⟩) [10,61] (by kernel_rfl) ?_
   exact hj3 _ h
 intro hj2
 refine q2jr hm hT hC (q24r (q23w d) y5) h fun y6 h=>?_
 refine q91 (v:=y6.2.2.2.1) (by kernel_rfl) h ?_ ?_
 ·
  intro h
  refine q92 hm hT hC (q24t (q23w d) y6) h ?_
  intro y7 h
  exact hj2 _ h
 ·
  intro h
  refine q8t ?_
  refine qdu (s:=⟨[(1,.fz Riii y6.1),(2,.fz Riii y6.2.1),(3,.ptr 0 0),(7,.ptr 1 0),(8,.rs 2),(9,.ptr 3 0),(10,.ptr 4 0),(11,.ptr 5 0),(12,.bool y6.2.2.1)],[.cells [.fz Riii y6.2.2.2.2.1],.cells [.int .i64 y6.2.2.2.2.2.1,.int .i64 y6.2.2.2.2.2.2.1],.rows Riii y6.2.2.2.2.2.2.2.1,.cells [.int .i64 y6.2.2.2.2.2.2.2.2.1,.int .i64 y6.2.2.2.2.2.2.2.2.2.1,.int .i64 y6.2.2.2.2.2.2.2.2.2.2.1],.cells [.int .i64 y6.2.2.2.2.2.2.2.2.2.2.2.1,.int .i64 y6.2.2.2.2.2.2.2.2.2.2.2.2.1,.int .i64 y6.2.2.2.2.2.2.2.2.2.2.2.2.2.1],.cells [.int .i64 y6.2.2.2.2.2.2.2.2.2.2.2.2.2.2.1,.int .i64 y6.2.2.2.2.2.2.2.2.2.2.2.2.2.2.2]]⟩) [54] (by kernel_rfl) ?_
  exact hj2 _ h
abbrev q25u:List Pk:=[.row qka true,.row qka false,.row qka false]
abbrev q25v:Type:=qkb×qkb×qkb×Unit
abbrev q25w:Type:=List Diii×Int
def q25x (r:q25w):LV×List Ob:=(.tup [.rs 0,.int .i64 r.2],[.rows Riii r.1])
def q25y (F:q25v→Option q25w):Go.Tx.Spec:=⟨9,q25u,q25w,F,q25x⟩
abbrev q25z:Type:=(qqg→Option qqh)×(q1wq→Option q1wr)×(q1z6→Option q1z7)×(q23r→Option q23s)×Unit
def q260 (d:Nat):q25z:=(qql d,q1xy d,q204 d,q25s d,())
def q261 (C:q25z):List Go.Tx.Spec:=[qqj C.1,q1wt C.2.1,q1z9 C.2.2.1,q23u C.2.2.2.1]
abbrev q262:Type:=List Diii×List Diii×List Diii
def q263 (v:q262):St:=⟨[(0,.agg [.fz Riii v.1]),(1,.fz Riii v.2.1),(2,.fz Riii v.2.2)],[]⟩
abbrev q264:Type:=List Diii×List Diii×List Diii
def q265 (v:q264):St:=⟨[(1,.fz Riii v.1),(2,.fz Riii v.2.1),(3,.ptr 0 0)],[.cells [.fz Riii v.2.2]]⟩
def q266 (C:q25z) (v:q262):Dt q264:=(Dt.ret (v.2.1,v.2.2,v.1))
abbrev q2ku {V Y:Type}:=@rg q25z V Y tysT (fun C=>(orc (q261 C))) 45
theorem q267 C v:q2ku (regO (qdv f9) 0) false [(1,(.val Riii)),(2,(.val Riii)),(3,(.box [.val Riii]))] q263 q266 q265 C v:=rgI (by kernel_rfl)
abbrev q268:Type:=List Diii×List Diii×Int×List Diii
def q269 (v:q268):St:=⟨[(1,.fz Riii v.1),(2,.fz Riii v.2.1),(3,.ptr 0 0),(8,i6 v.2.2.1)],[.cells [.fz Riii v.2.2.2]]⟩
def q26a (C:q25z) (v:q264):Dt q268:=(Dt.bnd (C.1 ((v.2.2,()),())) fun r1=>(Dt.ret (v.1,v.2.1,r1,v.2.2)))
theorem q26b C v:q2ku (regO (qdv f9) 1) false [(1,(.val Riii)),(2,(.val Riii)),(3,(.box [.val Riii])),(8,.any)] q265 q26a q269 C v:=rgI (by kernel_rfl)
abbrev q26c:Type:=List Diii×List Diii×Int×Bool×List Diii
def q26d (v:q26c):St:=⟨[(1,.fz Riii v.1),(2,.fz Riii v.2.1),(3,.ptr 0 0),(8,i6 v.2.2.1),(12,.bool v.2.2.2.1)],[.cells [.fz Riii v.2.2.2.2]]⟩
def q26e (C:q25z) (v:q268):Dt q26c:=(Dt.ret (v.1,v.2.1,v.2.2.1,(v.2.2.1 != (0:Int)),v.2.2.2))
theorem q26f C v:q2ku (regO (qdv f9) 2) false [(1,(.val Riii)),(2,(.val Riii)),(3,(.box [.val Riii])),(8,.any),(12,.any)] q269 q26e q26d C v:=rgI (by kernel_rfl)
abbrev q26g:Type:=Int×List Diii
def q26h (v:q26g):St:=⟨[(6,.rs 0),(7,i6 v.1)],[.rows Riii v.2]⟩
def q26i (C:q25z) (v:q26c):Dt q26g:=(Dt.ret (v.2.2.1,([]:List Diii)))
theorem q26j C v:q2ku (regO (qdv f9) 3) false [(6,(.own Riii)),(7,.any)] q26d q26i q26h C v:=rgI (by kernel_rfl)
abbrev q26k:Type:=List Diii×List Diii×Bool×List Diii
def q26l (v:q26k):St:=⟨[(1,.fz Riii v.1),(2,.fz Riii v.2.1),(3,.ptr 0 0),(21,.bool v.2.2.1)],[.cells [.fz Riii v.2.2.2]]⟩
def q26m (C:q25z) (v:q26c):Dt q26k:=(Dt.bnd (C.2.1 ((v.1,()),())) fun r1=>(Dt.ite (r1 != (0:Int)) (Dt.ret (v.1,v.2.1,true,v.2.2.2.2)) (Dt.bnd (C.2.1 ((v.2.1,()),())) fun r2=>(Dt.ret (v.1,v.2.1,(r2 != (0:Int)),v.2.2.2.2)))))
theorem q26n C v:q2ku (regO (qdv f9) 4) false [(1,(.val Riii)),(2,(.val Riii)),(3,(.box [.val Riii])),(21,.any)] q26d q26m q26l C v:=rgI (by kernel_rfl)
def q26o (C:q25z) (v:q26k):Dt q26g:=(Dt.ret ((8:Int),([]:List Diii)))
theorem q26p C v:q2ku (regO (qdv f9) 5) false [(6,(.own Riii)),(7,.any)] q26l q26o q26h C v:=rgI (by kernel_rfl)
abbrev q26q:Type:=List Diii×List Diii×Bool×List Diii
def q26r (v:q26q):St:=⟨[(1,.fz Riii v.1),(2,.fz Riii v.2.1),(3,.ptr 0 0),(30,.bool v.2.2.1)],[.cells [.fz Riii v.2.2.2]]⟩
def q26s (C:q25z) (v:q26k):Dt q26q:=(Dt.ite (inB (0:Int) (List.length v.1)) (Dt.ite (inB (0:Int) (List.length v.2.1)) (Dt.ret (v.1,v.2.1,(!(((elt ziii v.1 ((0:Int)).toNat).1 == (elt ziii v.2.1 ((0:Int)).toNat).1)&&(((elt ziii v.1 ((0:Int)).toNat).2.1 == (elt ziii v.2.1 ((0:Int)).toNat).2.1)&&true))),v.2.2.2)) Dt.fail) Dt.fail)
theorem q26t C v:q2ku (regO (qdv f9) 6) true [(1,(.val Riii)),(2,(.val Riii)),(3,(.box [.val Riii])),(30,.any)] q26l q26s q26r C v:=rgI (by kernel_rfl)
def q26u (C:q25z) (v:q26q):Dt q26g:=(Dt.ret ((2:Int),([]:List Diii)))
theorem q26v C v:q2ku (regO (qdv f9) 7) false [(6,(.own Riii)),(7,.any)] q26r q26u q26h C v:=rgI (by kernel_rfl)
abbrev q26w:Type:=List Diii×List Diii×Bool×List Diii
def q26x (v:q26w):St:=⟨[(1,.fz Riii v.1),(2,.fz Riii v.2.1),(3,.ptr 0 0),(40,.bool v.2.2.1)],[.cells [.fz Riii v.2.2.2]]⟩
def q26y (C:q25z) (v:q26q):Dt q26w:=(Dt.bnd (C.2.2.1 ((v.2.2.2,()),(v.1,()),())) fun r1=>(Dt.ite (!r1) (Dt.ret (v.1,v.2.1,true,v.2.2.2)) (Dt.bnd (C.2.2.1 ((v.2.2.2,()),(v.2.1,()),())) fun r2=>(Dt.ret (v.1,v.2.1,(!r2),v.2.2.2)))))
theorem q26z C v:q2ku (regO (qdv f9) 8) false [(1,(.val Riii)),(2,(.val Riii)),(3,(.box [.val Riii])),(40,.any)] q26r q26y q26x C v:=rgI (by kernel_rfl)
def q270 (C:q25z) (v:q26w):Dt q26g:=(Dt.ret ((6:Int),([]:List Diii)))
theorem q271 C v:q2ku (regO (qdv f9) 9) false [(6,(.own Riii)),(7,.any)] q26x q270 q26h C v:=rgI (by kernel_rfl)
def q272 (C:q25z) (v:q26w):Dt q26g:=(Dt.bnd (C.2.2.2.1 ((v.2.2.2,()),(v.1,()),(v.2.1,()),())) fun r1=>(Dt.ret ((0:Int),r1)))
theorem q273 C v:q2ku (regO (qdv f9) 10) false [(6,(.own Riii)),(7,.any)] q26x q272 q26h C v:=rgI (by kernel_rfl)
def q274 (d:Nat) (x:q25v):Option q25w :=
 (q266 (q260 d) (x.1.1,x.2.1.1,x.2.2.1.1)).eval fun y0 =>
 (q26a (q260 d) y0).eval fun y1 =>
 (q26e (q260 d) y1).eval fun y2 =>
 bif y2.2.2.2.1 then ((q26i (q260 d) y2).eval fun y3 =>
 some (y3.2,y3.1)) else ((q26m (q260 d) y2).eval fun y4 =>
 bif y4.2.2.1 then ((q26o (q260 d) y4).eval fun y5 =>
 some (y5.2,y5.1)) else ((q26s (q260 d) y4).eval fun y6 =>
 bif y6.2.2.1 then ((q26u (q260 d) y6).eval fun y7 =>
 some (y7.2,y7.1)) else ((q26y (q260 d) y6).eval fun y8 =>
 bif y8.2.2.1 then ((q270 (q260 d) y8).eval fun y9 =>
 some (y9.2,y9.1)) else ((q272 (q260 d) y8).eval fun y10 =>
 some (y10.2,y10.1)))))
theorem q275 (d:Nat):COK prog (q25y (q274 d)):=by
 have hm:prog.follows .mixedOrders=true:=mixed
 have hT:=tys
 have hC0:OrcOK prog (orc (q261 (q260 d))):=qdp (by
  intro S hS
  simp only [q261,List.mem_cons,List.not_mem_nil,or_false] at hS
  rcases hS with rfl | rfl | rfl | rfl
  · exact qqn d
  · exact q1xz d
  · exact q205 d
  · exact q25t d)
 have hC:OrcOK prog (orc (q261 (q260 d))):=hC0
 refine q9e (c:=qdv f9) (fn:=f9) hT (by kernel_rfl) (by kernel_rfl) (by decide) fun x r h w0 φ0 Q hend=>?_
 replace h:q274 d x=some r:=h
 unfold q274 at h
 show Run prog w0 φ0 45 (qdv f9) ⟨[(0,.agg [.fz Riii x.1.1]),(1,.fz Riii x.2.1.1),(2,.fz Riii x.2.2.1.1)],[]⟩ Q
 refine q2jr hm hT hC (q267 (q260 d) (x.1.1,x.2.1.1,x.2.2.1.1)) h fun y0 h=>?_
 refine q8x ?_
 refine q2jr hm hT hC (q26b (q260 d) y0) h fun y1 h=>?_
 refine q2jr hm hT hC (q26f (q260 d) y1) h fun y2 h=>?_
 refine q91 (v:=y2.2.2.2.1) (by kernel_rfl) h ?_ ?_
 ·
  intro h
  refine q2jr hm hT hC (q26j (q260 d) y2) h fun y3 h=>?_
  refine q8w (q8l ?_)
  cases h
  exact (hend _ (by kernel_rfl)).2
 ·
  intro h
  refine q8t (q8j (q8x ?_))
  refine q2jr hm hT hC (q26n (q260 d) y2) h fun y4 h=>?_
  refine q91 (v:=y4.2.2.1) (by kernel_rfl) h ?_ ?_
  ·
   intro h
   refine q2jr hm hT hC (q26p (q260 d) y4) h fun y5 h=>?_
   refine q8w (q8l ?_)
   cases h
   exact (hend _ (by kernel_rfl)).2
  ·
   intro h
   refine q8t (q8j (q8x ?_))
   refine q2jr hm hT hC (q26t (q260 d) y4) h fun y6 h=>?_
   refine q91 (v:=y6.2.2.1) (by kernel_rfl) h ?_ ?_
   ·
    intro h
    refine q2jr hm hT hC (q26v (q260 d) y6) h fun y7 h=>?_
    refine q8w (q8l ?_)
    cases h
    exact (hend _ (by kernel_rfl)).2
   ·
    intro h
    refine q8t (q8j (q8x ?_))
    refine q2jr hm hT hC (q26z (q260 d) y6) h fun y8 h=>?_
    refine q91 (v:=y8.2.2.1) (by kernel_rfl) h ?_ ?_
    ·
     intro h
     refine q2jr hm hT hC (q271 (q260 d) y8) h fun y9 h=>?_
     refine q8w (q8l ?_)
     cases h
     exact (hend _ (by kernel_rfl)).2
    ·
     intro h
     refine q8t (q8j ?_)
     refine q2jr hm hT hC (q273 (q260 d) y8) h fun y10 h=>?_
     refine q8w ?_
     cases h
     exact (hend _ (by kernel_rfl)).2
end Go.Proofs.Ytpgpbhjkgciggaa

namespace Go.Proofs.Ytpgpbhjkgciggaa
open Go Go.Tx Go.Proofs.Try
set_option maxRecDepth 100000
set_option maxHeartbeats 0
abbrev q276:List Pk:=[.row qka false]
abbrev q277:Type:=qkb×Unit
abbrev q278:Type:=Bool
def q279 (r:q278):LV×List Ob:=(.bool r,[])
def q27a (F:q277→Option q278):Go.Tx.Spec:=⟨7,q276,q278,F,q279⟩
abbrev q27b:Type:=Unit
def q27c (_d:Nat):q27b:=()
def q27d (C:q27b):List Go.Tx.Spec:=[]
abbrev q27e:Type:=List Diii
def q27f (v:q27e):St:=⟨[(0,.fz Riii v)],[]⟩
def q27g (C:q27b) (v:q27e):Dt q27e:=(Dt.ret v)
abbrev q2kv {V Y:Type}:=@rg q27b V Y tysT (fun C=>(orc (q27d C))) 16
theorem q27h C v:q2kv (regO (qdv f7) 0) false [(0,(.val Riii))] q27f q27g q27f C v:=rgI (by kernel_rfl)
abbrev q27i:Type:=Bool
def q27j (v:q27i):St:=⟨[(2,.bool v)],[]⟩
def q27k (C:q27b) (v:q27e):Dt q27i:=(Dt.ite (decide ((List.length v:Int) > (40:Int))) (Dt.ite (decide ((List.length v:Int)≤(300:Int))) (Dt.ret true) (Dt.ret (decide ((List.length v:Int) > (310:Int))))) (Dt.ret (decide ((List.length v:Int) > (310:Int)))))
theorem q27l C v:q2kv (regO (qdv f7) 1) false [(2,.any)] q27f q27k q27j C v:=rgI (by kernel_rfl)
def q27m (d:Nat) (x:q277):Option q278 :=
 (q27g (q27c d) x.1.1).eval fun y0 =>
 (q27k (q27c d) y0).eval fun y1 =>
 some y1
theorem q27n (d:Nat):COK prog (q27a (q27m d)):=by
 have hm:prog.follows .mixedOrders=true:=mixed
 have hT:=tys
 have hC0:OrcOK prog (orc (q27d (q27c d))):=qdp (by
  intro S hS
  simp only [q27d,List.mem_cons,List.not_mem_nil,or_false] at hS
  all_goals first | cases hS | exact hS.elim)
 have hC:OrcOK prog (orc (q27d (q27c d))):=hC0
 refine q9e (c:=qdv f7) (fn:=f7) hT (by kernel_rfl) (by kernel_rfl) (by decide) fun x r h w0 φ0 Q hend=>?_
 replace h:q27m d x=some r:=h
 unfold q27m at h
 show Run prog w0 φ0 16 (qdv f7) ⟨[(0,.fz Riii x.1.1)],[]⟩ Q
 refine q2jr hm hT hC (q27h (q27c d) x.1.1) h fun y0 h=>?_
 refine q2jr hm hT hC (q27l (q27c d) y0) h fun y1 h=>?_
 refine q8w ?_
 cases h
 exact (hend _ (by kernel_rfl)).2
abbrev q27o:List Pk:=[.row qka true,.row qka false,.row qka false]
abbrev q27p:Type:=qkb×qkb×qkb×Unit
abbrev q27q:Type:=Bool
def q27r (r:q27q):LV×List Ob:=(.bool r,[])
def q27s (F:q27p→Option q27q):Go.Tx.Spec:=⟨3,q27o,q27q,F,q27r⟩
abbrev q27t:Type:=(qpy→Option qpz)×(q277→Option q278)×(q1oo→Option q1op)×(q25v→Option q25w)×(q1y1→Option q1y2)×Unit
def q27u (d:Nat):q27t:=(qq3 d,q27m d,q1td d,q274 d,q1z3 d,())
def q27v (C:q27t):List Go.Tx.Spec:=[qq1 C.1,q27a C.2.1,q1or C.2.2.1,q25y C.2.2.2.1,q1y4 C.2.2.2.2.1]
abbrev q27w:Type:=List Diii×List Diii×List Diii
def q27x (v:q27w):St:=⟨[(0,.agg [.fz Riii v.1]),(1,.fz Riii v.2.1),(2,.fz Riii v.2.2)],[]⟩
abbrev q27y:Type:=List Diii×List Diii×List Diii
def q27z (v:q27y):St:=⟨[(1,.fz Riii v.1),(2,.fz Riii v.2.1),(3,.ptr 0 0)],[.cells [.fz Riii v.2.2]]⟩
def q280 (C:q27t) (v:q27w):Dt q27y:=(Dt.ret (v.2.1,v.2.2,v.1))
abbrev q2kw {V Y:Type}:=@rg q27t V Y tysT (fun C=>(orc (q27v C))) 61
theorem q281 C v:q2kw (regO (qdv f3) 0) false [(1,(.val Riii)),(2,(.val Riii)),(3,(.box [.val Riii]))] q27x q280 q27z C v:=rgI (by kernel_rfl)
abbrev q282:Type:=List Diii×List Diii×Bool×List Diii
def q283 (v:q282):St:=⟨[(1,.fz Riii v.1),(2,.fz Riii v.2.1),(3,.ptr 0 0),(22,.bool v.2.2.1)],[.cells [.fz Riii v.2.2.2]]⟩
def q284 (C:q27t) (v:q27y):Dt q282:=(Dt.bnd (C.1 ((v.2.2,()),())) fun r1=>(Dt.ite r1 (Dt.ret (v.1,v.2.1,true,v.2.2)) (Dt.bnd (C.2.1 ((v.1,()),())) fun r2=>(Dt.ite r2 (Dt.ret (v.1,v.2.1,true,v.2.2)) (Dt.bnd (C.2.1 ((v.2.1,()),())) fun r3=>(Dt.ret (v.1,v.2.1,r3,v.2.2)))))))
theorem q285 C v:q2kw (regO (qdv f3) 1) false [(1,(.val Riii)),(2,(.val Riii)),(3,(.box [.val Riii])),(22,.any)] q27z q284 q283 C v:=rgI (by kernel_rfl)
abbrev q286:Type:=Bool
def q287 (v:q286):St:=⟨[(6,.bool v)],[]⟩
def q288 (C:q27t) (v:q282):Dt q286:=(Dt.ret true)
theorem q289 C v:q2kw (regO (qdv f3) 2) false [(6,.any)] q283 q288 q287 C v:=rgI (by kernel_rfl)
abbrev q28a:Type:=List Diii×List Diii×List Diii×List Diii×List Diii
def q28b (v:q28a):St:=⟨[(1,.fz Riii v.1),(2,.fz Riii v.2.1),(3,.ptr 0 0),(7,.rs 1),(8,.rs 2)],[.cells [.fz Riii v.2.2.1],.rows Riii v.2.2.2.1,.rows Riii v.2.2.2.2]⟩
def q28c (C:q27t) (v:q282):Dt q28a:=(Dt.ite (apB (List.length ([]:List Diii)) (List.length v.1)) (Dt.ite (apB (List.length ([]:List Diii)) (List.length v.2.1)) (Dt.ret (v.1,v.2.1,v.2.2.2,(([]:List Diii)++v.1),(([]:List Diii)++v.2.1))) Dt.fail) Dt.fail)
theorem q28d C v:q2kw (regO (qdv f3) 3) false [(1,(.val Riii)),(2,(.val Riii)),(3,(.box [.val Riii])),(7,(.own Riii)),(8,(.own Riii))] q283 q28c q28b C v:=rgI (by kernel_rfl)
abbrev q28e:Type:=List Diii×List Diii×Int×List Diii×List Diii×List Diii×List Diii
def q28f (v:q28e):St:=⟨[(1,.fz Riii v.1),(2,.fz Riii v.2.1),(3,.ptr 0 0),(7,.rs 1),(8,.rs 2),(9,.rs 3),(10,i6 v.2.2.1)],[.cells [.fz Riii v.2.2.2.1],.rows Riii v.2.2.2.2.1,.rows Riii v.2.2.2.2.2.1,.rows Riii v.2.2.2.2.2.2]⟩
def q28g (C:q27t) (v:q28a):Dt q28e:=(Dt.bnd (C.2.2.1 ((v.2.2.1,()),(v.1,()),(v.2.1,()),())) fun r1=>(Dt.ret (v.1,v.2.1,r1.2,v.2.2.1,v.2.2.2.1,v.2.2.2.2,r1.1)))
theorem q28h C v:q2kw (regO (qdv f3) 4) false [(1,(.val Riii)),(2,(.val Riii)),(3,(.box [.val Riii])),(7,(.own Riii)),(8,(.own Riii)),(9,(.own Riii)),(10,.any)] q28b q28g q28f C v:=rgI (by kernel_rfl)
abbrev q28i:Type:=List Diii×List Diii×Int×Int×List Diii×List Diii×List Diii×List Diii
def q28j (v:q28i):St:=⟨[(1,.fz Riii v.1),(2,.fz Riii v.2.1),(7,.rs 0),(8,.rs 1),(9,.rs 2),(10,i6 v.2.2.1),(11,.rs 3),(12,i6 v.2.2.2.1)],[.rows Riii v.2.2.2.2.1,.rows Riii v.2.2.2.2.2.1,.rows Riii v.2.2.2.2.2.2.1,.rows Riii v.2.2.2.2.2.2.2]⟩
def q28k (C:q27t) (v:q28e):Dt q28i:=(Dt.bnd (C.2.2.2.1 ((v.2.2.2.1,()),(v.2.2.2.2.1,()),(v.2.2.2.2.2.1,()),())) fun r1=>(Dt.ret (v.1,v.2.1,v.2.2.1,r1.2,v.2.2.2.2.1,v.2.2.2.2.2.1,v.2.2.2.2.2.2,r1.1)))
theorem q28l C v:q2kw (regO (qdv f3) 5) false [(1,(.val Riii)),(2,(.val Riii)),(7,(.own Riii)),(8,(.own Riii)),(9,(.own Riii)),(10,.any),(11,(.own Riii)),(12,.any)] q28f q28k q28j C v:=rgI (by kernel_rfl)
def q28m (C:q27t) (v:q28i):Dt q286:=(Dt.bnd (C.2.2.2.2.1 ((v.2.2.2.2.2.2.1,()),(v.2.2.2.2.2.2.2,()),())) fun r1=>(Dt.ite r1 (Dt.ite (v.2.2.1 == v.2.2.2.1) (Dt.bnd (C.2.2.2.2.1 ((v.1,()),(v.2.2.2.2.1,()),())) fun r2=>(Dt.ite r2 (Dt.bnd (C.2.2.2.2.1 ((v.2.1,()),(v.2.2.2.2.2.1,()),())) fun r3=>(Dt.ret r3)) (Dt.ret false))) (Dt.ret false)) (Dt.ret false)))
theorem q28n C v:q2kw (regO (qdv f3) 6) false [(6,.any)] q28j q28m q287 C v:=rgI (by kernel_rfl)
def q28o (d:Nat) (x:q27p):Option q27q :=
 (q280 (q27u d) (x.1.1,x.2.1.1,x.2.2.1.1)).eval fun y0 =>
 (q284 (q27u d) y0).eval fun y1 =>
 bif y1.2.2.1 then ((q288 (q27u d) y1).eval fun y2 =>
 some y2) else ((q28c (q27u d) y1).eval fun y3 =>
 (q28g (q27u d) y3).eval fun y4 =>
 (q28k (q27u d) y4).eval fun y5 =>
 (q28m (q27u d) y5).eval fun y6 =>
 some y6)
theorem q28p (d:Nat):COK prog (q27s (q28o d)):=by
 have hm:prog.follows .mixedOrders=true:=mixed
 have hT:=tys
 have hC0:OrcOK prog (orc (q27v (q27u d))):=qdp (by
  intro S hS
  simp only [q27v,List.mem_cons,List.not_mem_nil,or_false] at hS
  rcases hS with rfl | rfl | rfl | rfl | rfl
  · exact qq5 d
  · exact q27n d
  · exact q1te d
  · exact q275 d
  · exact q1z4 d)
 have hC:OrcOK prog (orc (q27v (q27u d))):=hC0
 refine q9e (c:=qdv f3) (fn:=f3) hT (by kernel_rfl) (by kernel_rfl) (by decide) fun x r h w0 φ0 Q hend=>?_
 replace h:q28o d x=some r:=h
 unfold q28o at h
 show Run prog w0 φ0 61 (qdv f3) ⟨[(0,.agg [.fz Riii x.1.1]),(1,.fz Riii x.2.1.1),(2,.fz Riii x.2.2.1.1)],[]⟩ Q
 refine q2jr hm hT hC (q281 (q27u d) (x.1.1,x.2.1.1,x.2.2.1.1)) h fun y0 h=>?_
 refine q8x ?_
 refine q2jr hm hT hC (q285 (q27u d) y0) h fun y1 h=>?_
 refine q91 (v:=y1.2.2.1) (by kernel_rfl) h ?_ ?_
 ·
  intro h
  refine q2jr hm hT hC (q289 (q27u d) y1) h fun y2 h=>?_
  refine q8w (q8l ?_)
  cases h
  exact (hend _ (by kernel_rfl)).2
 ·
  intro h
  refine q8t (q8j ?_)
  refine q2jr hm hT hC (q28d (q27u d) y1) h fun y3 h=>?_
  refine q2jr hm hT hC (q28h (q27u d) y3) h fun y4 h=>?_
  refine q2jr hm hT hC (q28l (q27u d) y4) h fun y5 h=>?_
  refine q2jr hm hT hC (q28n (q27u d) y5) h fun y6 h=>?_
  refine q8w ?_
  cases h
  exact (hend _ (by kernel_rfl)).2
end Go.Proofs.Ytpgpbhjkgciggaa

namespace Go
open Go.ChangeShapes Go.WideShapes Go.ChangeAt Go.RowKit
section
variable {H:Type} {enc:TypeId×Value→H} {P:Program} {w:World} {base:Nat} {spare:Nat→Bool} {held:Bool}
theorem q2iy {t:TypeId} {fs:Array Field} {fuel:Nat} {cs:List Value} {x:DataW H×List MemPlace} (hs:P.underlying t=some (.struct fs)) (h:DataW.trod enc P w base spare held fuel t cs=some x)
    {i:Nat} {f:Field} (hf:fs[i]?=some f) {off n:Nat} {ft:TypeId} (ho:f.offset=off) (ht:f.type=ft) (hn:P.cellsOf ft=n):∃ m y,DataW.trod enc P w base spare held m ft ((cs.drop off).take n)=some y:=by
  obtain ⟨xs,m,_,_,_,hlen,hg⟩:=DataW.trod_struct hs h
  have h1:=hg i f hf
  subst ho ht hn
  have hi:i<xs.length:=by rw [hlen];exact (Array.getElem?_eq_some_iff.1 hf).1
  exact ⟨m,xs[i],by rw [h1,List.getElem?_eq_getElem hi]⟩
theorem q2iz {t:TypeId} {k:IntKind} {fuel:Nat} {cs:List Value} {x:DataW H×List MemPlace} (ht:P.underlying t=some (.int k)) (h:DataW.trod enc P w base spare held fuel t cs=some x):∃ n,cs=[.int k n]∧(Lit.int k n).wf=true:=by
  obtain ⟨n,h1,_,h2⟩:=DataW.trod_int ht h;exact ⟨n,h1,h2⟩
theorem q2j0 {n:Int} (h:(Lit.int .i64 n).wf=true):-9223372036854775808≤n∧n≤9223372036854775807:=bounds_i64 h
end
end Go
namespace Go.Proofs.Ytpgpbhjkgciggaa
open Go.ChangeShapes Go.WideShapes Go.ChangeAt Go.RowKit
theorem q2j4:ownKnob Try.prog.godebug=none:=by kernel_rfl
theorem q2j5:laidOutB Try.prog=true:=by kernel_rfl
end Go.Proofs.Ytpgpbhjkgciggaa

namespace Go
open Go.ChangeShapes Go.WideShapes Go.ChangeAt Go.RowKit Go.Deep
theorem q2j6 {α:Type} {p:Nat→α→Prop}:∀ n:Nat,(∀ i,i<n→∃ v,p i v)→∃ l:List α,l.length=n∧∀ (i:Nat) (x:α),l[i]?=some x→p i x
  | 0,_=>⟨[],rfl,fun i x h=>by simp at h⟩
  | n + 1, h => by
    obtain ⟨l,hl,hp⟩:=q2j6 n fun i hi=>h i (by omega)
    obtain ⟨v,hv⟩:=h n (by omega)
    refine ⟨l ++ [v],by simp [hl],fun i x hx=>?_⟩
    rcases Nat.lt_or_ge i n with hi | hi
    · rw [List.getElem?_append_left (by omega)] at hx;exact hp i x hx
    · rw [List.getElem?_append_right (by omega)] at hx
      have:i=n:=by
        have:=(List.getElem?_eq_some_iff.1 hx).1
        simp at this;omega
      subst this
      simp [hl] at hx
      subst hx;exact hv
theorem qd {α:Type} {cells:α→List Value} {k:Nat} (hk:∀ a,(cells a).length=k) (h0:0<k):∀ (l:List α) (j:Nat) (u:Value),(l.flatMap cells)[j]?=some u→∃ x,l[j / k]?=some x∧(cells x)[j % k]?=some u
  | [],j,u,h=>by simp at h
  | x :: l, j, u, h => by
    rw [List.flatMap_cons] at h
    rcases Nat.lt_or_ge j k with hj | hj
    · rw [List.getElem?_append_left (by rw [hk]; exact hj)] at h
      rw [Nat.div_eq_of_lt hj,Nat.mod_eq_of_lt hj]
      exact ⟨x,rfl,h⟩
    · rw [List.getElem?_append_right (by rw [hk]; exact hj), hk] at h
      obtain ⟨y,hy,hu⟩:=qd hk h0 l (j - k) u h
      obtain ⟨m,rfl⟩:∃ m,j=m+k:=⟨j - k,by omega⟩
      rw [Nat.add_sub_cancel] at hy hu
      rw [Nat.add_div_right _ h0,Nat.add_mod_right]
      exact ⟨y,by simpa using hy,hu⟩
theorem q9 {α:Type} {cells:α→List Value} {k:Nat} (hk:∀ a,(cells a).length=k) (l:List α):(l.flatMap cells).length=l.length*k:=by
  induction l with
  | nil=>simp
  | cons x l ih=>rw [List.flatMap_cons,List.length_append,ih,hk,List.length_cons,Nat.add_mul];omega
section
variable {H:Type} {enc:TypeId×Value→H} {P:Program} {w:World} {base:Nat} {held:Bool}
theorem q2j7 {t e:TypeId} {fuel:Nat} {A:Option Addr} {n c:Nat} {x:DataW H×List MemPlace} (ht:P.underlying t=some (.slice e))
    (h:DataW.trod enc P w base (fun _=>true) held fuel t [Value.slice A n c]=some x):A=none→c=0:=by
  rcases open_slice ht h with ⟨hcs,_⟩ | ⟨a,len,cap,m,q,D,Pl,hcs,_⟩
  · simp only [List.cons.injEq, and_true] at hcs
    injection hcs with h1 h2 h3
    intro _;exact h3
  · simp only [List.cons.injEq, and_true] at hcs
    injection hcs with h1 h2 h3
    subst h1;intro h;cases h
theorem q2j8 {α:Type} (cells:α→List Value) (ok:α→Prop) {t e:TypeId} {k fuel:Nat} {A:Option Addr} {n c:Nat} {x:DataW H×List MemPlace}
    (ht:P.underlying t=some (.slice e)) (hC:P.cellsOf e=k) (h0:0<k) (hk:∀ a,(cells a).length=k)
    (hR:∀ (m:Nat) (l:List Value) (y:DataW H×List MemPlace),DataW.trod enc P w base (fun _=>true) held m e l=some y→l.length=k→∃ a,l=cells a∧ok a)
    (h:DataW.trod enc P w base (fun _=>true) held fuel t [Value.slice A n c]=some x) :
    ∃ l:List α,l.length=n∧Sl w k A l.length c (l.flatMap cells)∧(∀ a∈l,ok a)∧(A=none→c=0)∧c≤maxLen:=by
  rcases open_slice ht h with ⟨hcs,_⟩ | ⟨a,len,cap,m,q,D,Pl,hcs,_,hl,hmx,hm,_,hi⟩
  · simp only [List.cons.injEq, and_true] at hcs
    injection hcs with h1 h2 h3
    subst h1 h2 h3
    exact ⟨[],rfl,Sl.nil_ _ _ _ _,(fun _ h=>by cases h),(fun _=>rfl),Nat.zero_le _⟩
  · simp only [List.cons.injEq, and_true] at hcs
    injection hcs with h1 h2 h3
    subst h1 h2 h3
    simp only [if_true] at hm
    subst hm
    obtain ⟨l,hll,hp⟩:=q2j6 (α:=α) (p:=fun i v=>(∀ j u,(cells v)[j]?=some u→w.cell? (a.add (i*k+j))=some u)∧ok v) n (fun i hin=>by
      obtain ⟨cs',hc,ht'⟩:=hi i (by omega)
      rw [hC] at hc
      obtain ⟨_,hcl,hat⟩:=World.cells?_some hc
      obtain ⟨v,rfl,hv⟩:=hR _ _ _ ht' hcl
      refine ⟨v,fun j u hu=>?_,hv⟩
      have hj:j<k:=by rw [← hk v];exact (List.getElem?_eq_some_iff.1 hu).1
      rw [← Go.Deep.add_add,hat j hj,hu])
    refine ⟨l,hll,⟨by omega,by rw [q9 hk,hll],fun hn=>?_⟩,fun v hv=>?_,(fun h=>by cases h),hmx⟩
    · obtain ⟨v0, hv0⟩ : ∃ v, l[0]? = some v := ⟨_, List.getElem?_eq_getElem (by omega)⟩
      obtain ⟨u0,hu0⟩:∃ u,(cells v0)[0]?=some u:=⟨_,List.getElem?_eq_getElem (by rw [hk];exact h0)⟩
      have hc0:=(hp 0 v0 hv0).1 0 u0 hu0
      obtain ⟨b,o,spot⟩:=a
      have hspot:spot=none:=by simpa [Addr.add] using World.cell?_spot hc0
      subst hspot
      refine ⟨b,o,rfl,?_,fun j u hu=>?_⟩
      · have hb := World.block_lt_of_cell? w _ hc0
        simpa [Addr.add] using hb
      · obtain ⟨v, hv, huv⟩ := qd hk h0 l j u hu
        have h1:=(hp _ v hv).1 _ u huv
        have e0:j / k*k+j % k=j:=by rw [Nat.mul_comm];exact Nat.div_add_mod j k
        rw [e0] at h1
        have e1:(⟨b,o,none⟩:Addr).add j=⟨b,o+j,none⟩:=by
          unfold Addr.add;split
          · rename_i h0;rw [h0];rfl
          · rfl
        rw [e1] at h1;exact h1
    · obtain ⟨i, hi'⟩ := List.getElem?_of_mem hv
      exact (hp i v hi').2
end
end Go

namespace Go.Proofs.Ytpgpbhjkgciggaa
open Go.ChangeShapes Go.WideShapes Go.ChangeAt Go.RowKit Go.Pel Go.Deep
theorem q2j9 {α:Type} (l:List α) (h:l.length=1):∃ a,l=[a]:=by
  match l,h with
  | [a],_=>exact ⟨a,rfl⟩
theorem q2ja {α:Type} (l:List α) (h:l.length=2):∃ a b,l=[a,b]:=by
  match l,h with
  | [a,b],_=>exact ⟨a,b,rfl⟩
theorem q2jb {α:Type} (l:List α) (h:l.length=3):∃ a b c,l=[a,b,c]:=by
  match l,h with
  | [a,b,c],_=>exact ⟨a,b,c,rfl⟩
section
variable {H:Type} {enc:TypeId×Value→H} {w:World} {base:Nat} {spare:Nat→Bool} {held:Bool}
theorem q2jc:Try.prog.cellsOf 3=1:=by kernel_rfl
theorem q2jd:Try.prog.cellsOf 2=1:=by kernel_rfl
theorem q2je:Try.prog.cellsOf 42=3:=by kernel_rfl
theorem q2jf:Try.prog.cellsOf 24=1:=by kernel_rfl
theorem q2jg:Try.prog.cellsOf 22=1:=by kernel_rfl
theorem q2jh {fuel:Nat} {l:List Value} {x:DataW H×List MemPlace} (h:DataW.trod enc Try.prog w base spare held fuel 42 l=some x) (hl:l.length=3) :
    ∃ p:Pt,l=[.int .i64 p.id,.int .i64 p.a,.int .i64 p.b]∧p.Fits:=by
  obtain ⟨c0,c1,c2,rfl⟩:=q2jb l hl
  obtain ⟨m4,y4,h4⟩:=q2iy Try.underlying42 h (i:=0) rfl rfl rfl q2jc
  obtain ⟨m5,y5,h5⟩:=q2iy Try.underlying42 h (i:=1) rfl rfl rfl q2jd
  obtain ⟨m6,y6,h6⟩:=q2iy Try.underlying42 h (i:=2) rfl rfl rfl q2jd
  obtain ⟨i,e4,w4⟩:=q2iz Try.underlying3 h4
  obtain ⟨a,e5,w5⟩:=q2iz Try.underlying2 h5
  obtain ⟨b,e6,w6⟩:=q2iz Try.underlying2 h6
  simp at e4 e5 e6
  subst e4 e5 e6
  exact ⟨⟨i,a,b⟩,rfl,⟨q2j0 w4,q2j0 w5,q2j0 w6⟩⟩
theorem q2ji (fuel:Nat) (l:List Value) (x:DataW H×List MemPlace) (h:DataW.trod enc Try.prog w base spare held fuel 42 l=some x) (hl:l.length=3):∃ p:Pt,l=p.cells∧p.Fits:=q2jh h hl
theorem q2jj {fuel:Nat} {l:List Value} {x:DataW H×List MemPlace} (h:DataW.trod enc Try.prog w base (fun _=>true) held fuel 24 l=some x) (hl:l.length=1) :
    ∃ (A:Option Addr) (c:Nat) (m:List Pt),l=[.slice A m.length c]∧Sl w 3 A m.length c (vp m)∧(A=none→c=0)∧∀ p∈m,p.Fits:=by
  obtain ⟨c0,rfl⟩:=q2j9 l hl
  obtain ⟨m0,y0,h0⟩:=q2iy Try.underlying24 h (i:=0) rfl rfl rfl q2jg
  have h0':DataW.trod enc Try.prog w base (fun _=>true) held m0 22 [c0]=some y0:=by simpa using h0
  obtain ⟨A,n,c,rfl⟩:∃ A n c,c0=Value.slice A n c:=by
    rcases open_slice Try.underlying22 h0' with ⟨hcs,_⟩ | ⟨a,len,cap,m,q,D,Pl,hcs,_⟩
    · simp only [List.cons.injEq,and_true] at hcs;exact ⟨_,_,_,hcs⟩
    · simp only [List.cons.injEq,and_true] at hcs;exact ⟨_,_,_,hcs⟩
  have hn:=q2j7 Try.underlying22 h0'
  obtain ⟨pts,rfl,hs,hok,_,_⟩:=q2j8 Pt.cells Pt.Fits Try.underlying22 q2je (by decide) (fun _=>rfl) q2ji h0'
  exact ⟨A,c,pts,rfl,hs,hn,hok⟩
theorem q2jk:Try.prog.cellsOf 36=2:=by kernel_rfl
theorem q2jl {fuel:Nat} {l:List Value} {x:DataW H×List MemPlace} (h:DataW.trod enc Try.prog w base spare held fuel 36 l=some x) (hl:l.length=2) :
    ∃ n d:Int,l=[.int .i64 n,.int .i64 d]∧(-9223372036854775808≤n∧n≤9223372036854775807)∧(-9223372036854775808≤d∧d≤9223372036854775807):=by
  obtain ⟨c0,c1,rfl⟩:=q2ja l hl
  obtain ⟨m4,y4,h4⟩:=q2iy Try.underlying36 h (i:=0) rfl rfl rfl q2jd
  obtain ⟨m5,y5,h5⟩:=q2iy Try.underlying36 h (i:=1) rfl rfl rfl q2jd
  obtain ⟨n,e4,w4⟩:=q2iz Try.underlying2 h4
  obtain ⟨d,e5,w5⟩:=q2iz Try.underlying2 h5
  simp at e4 e5
  subst e4 e5
  exact ⟨n,d,rfl,q2j0 w4,q2j0 w5⟩
end
end Go.Proofs.Ytpgpbhjkgciggaa
