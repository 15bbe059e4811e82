/- Walks of the references; the orders agree; examples. -/
import Derived.Test.YtbjpmdhdoggobaaRows
import Derived.ProofKit
import Derived.OpenShut
import Derived.ShutString
import Derived.ChangeOld
import Derived.Deep.Slices
import Derived.Test.YtbjpmdhdoggobaaGd
set_option linter.unusedSimpArgs false
set_option linter.unusedVariables false
namespace Go.Proofs.Ytbjpmdhdoggobaa
open Go Go.Tx Go.Proofs.Try
set_option maxRecDepth 100000
set_option maxHeartbeats 0
abbrev q1fy:List Pk:=[.row qjy true,.row Rii true]
abbrev q1fz:Type:=qjz×Dii×Unit
abbrev q1g0:Type:=List Di×List Dii×Int
def q1g1 (r:q1g0):LV×List Ob:=(.tup [.rs 0,.rs 1,.int .i64 r.2.2],[.rows Ri r.1,.rows Rii r.2.1])
def q1g2 (F:q1fz→Option q1g0):Go.Tx.Spec:=⟨13,q1fy,q1g0,F,q1g1⟩
abbrev q1g3:Type:=(qsm→Option qsn)×(qsd→Option qse)×(q1dc→Option q1dd)×(q1cg→Option q1ch)×Unit
def q1g4 (d:Nat):q1g3:=(qsr d,qsi d,q1fw d,q1d9 d,())
def q1g5 (C:q1g3):List Go.Tx.Spec:=[qsp C.1,qsg C.2.1,q1df C.2.2.1,q1cj C.2.2.2.1]
abbrev q1g6:Type:=List Diii×Int×Int
def q1g7 (v:q1g6):St:=⟨[(0,.agg [.fz Riii v.1]),(1,.agg [i6 v.2.1,i6 v.2.2])],[]⟩
abbrev q1g8:Type:=List Diii×Int×Int
def q1g9 (v:q1g8):St:=⟨[(2,.ptr 0 0),(3,.ptr 1 0)],[.cells [.fz Riii v.1],.cells [i6 v.2.1,i6 v.2.2]]⟩
def q1ga (C:q1g3) (v:q1g6):Dt q1g8:=(Dt.ret (v.1,v.2.1,v.2.2))
abbrev q24w {V Y:Type}:=@rg q1g3 V Y tysT (fun C=>(orc (q1g5 C))) 83
theorem q1gb C v:q24w (regO (qdk f13) 0) false [(2,(.box [.val Riii])),(3,.any)] q1g7 q1ga q1g9 C v:=rgI (by kernel_rfl)
abbrev q1gc:Type:=Int×List Diii×Int×Int×List Di
def q1gd (v:q1gc):St:=⟨[(2,.ptr 0 0),(3,.ptr 1 0),(7,.rs 2),(8,i6 v.1)],[.cells [.fz Riii v.2.1],.cells [i6 v.2.2.1,i6 v.2.2.2.1],.rows Ri v.2.2.2.2]⟩
def q1ge (C:q1g3) (v:q1g8):Dt q1gc:=(Dt.bnd (C.1 ((v.1,()),(v.2.1,v.2.2,()),())) fun r1=>(Dt.ret (r1.2,v.1,v.2.1,v.2.2,r1.1)))
theorem q1gf C v:q24w (regO (qdk f13) 1) false [(2,(.box [.val Riii])),(3,.any),(7,(.own Ri)),(8,.any)] q1g9 q1ge q1gd C v:=rgI (by kernel_rfl)
abbrev q1gg:Type:=Int×Bool×List Diii×Int×Int×List Di
def q1gh (v:q1gg):St:=⟨[(2,.ptr 0 0),(3,.ptr 1 0),(7,.rs 2),(8,i6 v.1),(27,.bool v.2.1)],[.cells [.fz Riii v.2.2.1],.cells [i6 v.2.2.2.1,i6 v.2.2.2.2.1],.rows Ri v.2.2.2.2.2]⟩
def q1gi (C:q1g3) (v:q1gc):Dt q1gg:=(Dt.ret (v.1,(v.1 != (0:Int)),v.2.1,v.2.2.1,v.2.2.2.1,v.2.2.2.2))
theorem q1gj C v:q24w (regO (qdk f13) 2) false [(2,(.box [.val Riii])),(3,.any),(7,(.own Ri)),(8,.any),(27,.any)] q1gd q1gi q1gh C v:=rgI (by kernel_rfl)
abbrev q1gk:Type:=Int×List Di×List Dii
def q1gl (v:q1gk):St:=⟨[(4,.rs 0),(5,.rs 1),(6,i6 v.1)],[.rows Ri v.2.1,.rows Rii v.2.2]⟩
def q1gm (C:q1g3) (v:q1gg):Dt q1gk:=(Dt.ret (v.1,([]:List Di),([]:List Dii)))
theorem q1gn C v:q24w (regO (qdk f13) 3) false [(4,(.own Ri)),(5,(.own Rii)),(6,.any)] q1gh q1gm q1gl C v:=rgI (by kernel_rfl)
abbrev q1go:Type:=List Diii×Int×Int×List Di×List Dii×List Dii
def q1gp (v:q1go):St:=⟨[(2,.ptr 0 0),(3,.ptr 1 0),(7,.rs 2),(9,.rs 3),(10,.rs 4)],[.cells [.fz Riii v.1],.cells [i6 v.2.1,i6 v.2.2.1],.rows Ri v.2.2.2.1,.rows Rii v.2.2.2.2.1,.rows Rii v.2.2.2.2.2]⟩
def q1gq (C:q1g3) (v:q1gg):Dt q1go:=(Dt.ret (v.2.2.1,v.2.2.2.1,v.2.2.2.2.1,v.2.2.2.2.2,([]:List Dii),([]:List Dii)))
theorem q1gr C v:q24w (regO (qdk f13) 4) false [(2,(.box [.val Riii])),(3,.any),(7,(.own Ri)),(9,(.own Rii)),(10,(.own Rii))] q1gh q1gq q1gp C v:=rgI (by kernel_rfl)
abbrev q1gs:Type:=Int×Int×List Diii×Int×Int×List Di×List Dii×List Dii
def q1gt (v:q1gs):St:=⟨[(2,.ptr 0 0),(3,.ptr 1 0),(7,.rs 2),(9,.rs 3),(10,.rs 4),(29,.rs 2),(30,i6 v.1),(31,i6 v.2.1)],[.cells [.fz Riii v.2.2.1],.cells [i6 v.2.2.2.1,i6 v.2.2.2.2.1],.rows Ri v.2.2.2.2.2.1,.rows Rii v.2.2.2.2.2.2.1,.rows Rii v.2.2.2.2.2.2.2]⟩
def q1gu (C:q1g3) (v:q1go):Dt q1gs:=(Dt.ret ((List.length v.2.2.2.1:Int),(0:Int),v.1,v.2.1,v.2.2.1,v.2.2.2.1,v.2.2.2.2.1,v.2.2.2.2.2))
theorem q1gv C v:q24w (regO (qdk f13) 5) false [(2,(.box [.val Riii])),(3,.any),(7,(.own Ri)),(9,(.own Rii)),(10,(.own Rii)),(29,(.own Ri)),(30,.any),(31,.any)] q1gp q1gu q1gt C v:=rgI (by kernel_rfl)
abbrev q1gw:Type:=Int×Int×Bool×List Diii×Int×Int×List Di×List Dii×List Dii
def q1gx (v:q1gw):St:=⟨[(2,.ptr 0 0),(3,.ptr 1 0),(7,.rs 2),(9,.rs 3),(10,.rs 4),(29,.rs 2),(30,i6 v.1),(31,i6 v.2.1),(32,.bool v.2.2.1)],[.cells [.fz Riii v.2.2.2.1],.cells [i6 v.2.2.2.2.1,i6 v.2.2.2.2.2.1],.rows Ri v.2.2.2.2.2.2.1,.rows Rii v.2.2.2.2.2.2.2.1,.rows Rii v.2.2.2.2.2.2.2.2]⟩
def q1gy (C:q1g3) (v:q1gs):Dt q1gw:=(Dt.ret (v.1,v.2.1,(decide (v.2.1<v.1)),v.2.2.1,v.2.2.2.1,v.2.2.2.2.1,v.2.2.2.2.2.1,v.2.2.2.2.2.2.1,v.2.2.2.2.2.2.2))
theorem q1gz C v:q24w (regO (qdk f13) 6) false [(2,(.box [.val Riii])),(3,.any),(7,(.own Ri)),(9,(.own Rii)),(10,(.own Rii)),(29,(.own Ri)),(30,.any),(31,.any),(32,.any)] q1gt q1gy q1gx C v:=rgI (by kernel_rfl)
abbrev q1h0:Type:=Int×Int×Int×List Diii×Int×Int×List Di×List Dii×List Dii
def q1h1 (v:q1h0):St:=⟨[(2,.ptr 0 0),(3,.ptr 1 0),(7,.rs 2),(9,.rs 3),(10,.rs 4),(12,i6 v.1),(29,.rs 2),(30,i6 v.2.1),(31,i6 v.2.2.1)],[.cells [.fz Riii v.2.2.2.1],.cells [i6 v.2.2.2.2.1,i6 v.2.2.2.2.2.1],.rows Ri v.2.2.2.2.2.2.1,.rows Rii v.2.2.2.2.2.2.2.1,.rows Rii v.2.2.2.2.2.2.2.2]⟩
def q1h2 (C:q1g3) (v:q1gw):Dt q1h0:=(Dt.ite (inB v.2.1 (List.length v.2.2.2.2.2.2.1)) (Dt.ret ((elt zi v.2.2.2.2.2.2.1 (v.2.1).toNat).1,v.1,v.2.1,v.2.2.2.1,v.2.2.2.2.1,v.2.2.2.2.2.1,v.2.2.2.2.2.2.1,v.2.2.2.2.2.2.2.1,v.2.2.2.2.2.2.2.2)) Dt.fail)
theorem q1h3 C v:q24w (regO (qdk f13) 7) false [(2,(.box [.val Riii])),(3,.any),(7,(.own Ri)),(9,(.own Rii)),(10,(.own Rii)),(12,.any),(29,(.own Ri)),(30,.any),(31,.any)] q1gx q1h2 q1h1 C v:=rgI (by kernel_rfl)
abbrev q1h4:Type:=Int×Int×List Diii×Int×Int×List Di×List Dii×List Dii×Int×Int×Int
def q1h5 (v:q1h4):St:=⟨[(2,.ptr 0 0),(3,.ptr 1 0),(7,.rs 2),(9,.rs 3),(10,.rs 4),(13,.ptr 5 0),(29,.rs 2),(30,i6 v.1),(31,i6 v.2.1)],[.cells [.fz Riii v.2.2.1],.cells [i6 v.2.2.2.1,i6 v.2.2.2.2.1],.rows Ri v.2.2.2.2.2.1,.rows Rii v.2.2.2.2.2.2.1,.rows Rii v.2.2.2.2.2.2.2.1,.cells [i6 v.2.2.2.2.2.2.2.2.1,i6 v.2.2.2.2.2.2.2.2.2.1,i6 v.2.2.2.2.2.2.2.2.2.2]]⟩
def q1h6 (C:q1g3) (v:q1h0):Dt q1h4:=(Dt.bnd (C.2.1 ((v.2.2.2.1,()),(v.1,()),())) fun r1=>(Dt.ret (v.2.1,v.2.2.1,v.2.2.2.1,v.2.2.2.2.1,v.2.2.2.2.2.1,v.2.2.2.2.2.2.1,v.2.2.2.2.2.2.2.1,v.2.2.2.2.2.2.2.2,r1.1,r1.2.1,r1.2.2.1)))
theorem q1h7 C v:q24w (regO (qdk f13) 8) false [(2,(.box [.val Riii])),(3,.any),(7,(.own Ri)),(9,(.own Rii)),(10,(.own Rii)),(13,.any),(29,(.own Ri)),(30,.any),(31,.any)] q1h1 q1h6 q1h5 C v:=rgI (by kernel_rfl)
abbrev q1h8:Type:=Int×Int×Int×List Diii×Int×Int×List Di×List Dii×List Dii×Int×Int
def q1h9 (v:q1h8):St:=⟨[(2,.ptr 0 0),(3,.ptr 1 0),(7,.rs 2),(9,.rs 3),(10,.rs 4),(15,.ptr 5 0),(16,i6 v.1),(29,.rs 2),(30,i6 v.2.1),(31,i6 v.2.2.1)],[.cells [.fz Riii v.2.2.2.1],.cells [i6 v.2.2.2.2.1,i6 v.2.2.2.2.2.1],.rows Ri v.2.2.2.2.2.2.1,.rows Rii v.2.2.2.2.2.2.2.1,.rows Rii v.2.2.2.2.2.2.2.2.1,.cells [i6 v.2.2.2.2.2.2.2.2.2.1,i6 v.2.2.2.2.2.2.2.2.2.2]]⟩
def q1ha (C:q1g3) (v:q1h4):Dt q1h8:=(Dt.bnd (C.2.2.1 ((v.2.2.2.2.2.2.2.2.1,v.2.2.2.2.2.2.2.2.2.1,v.2.2.2.2.2.2.2.2.2.2,()),(v.2.2.2.1,v.2.2.2.2.1,()),())) fun r1=>(Dt.ret (r1.2.2,v.1,v.2.1,v.2.2.1,v.2.2.2.1,v.2.2.2.2.1,v.2.2.2.2.2.1,v.2.2.2.2.2.2.1,v.2.2.2.2.2.2.2.1,r1.1,r1.2.1)))
theorem q1hb C v:q24w (regO (qdk f13) 9) false [(2,(.box [.val Riii])),(3,.any),(7,(.own Ri)),(9,(.own Rii)),(10,(.own Rii)),(15,.any),(16,.any),(29,(.own Ri)),(30,.any),(31,.any)] q1h5 q1ha q1h9 C v:=rgI (by kernel_rfl)
abbrev q1hc:Type:=Int×Int×Int×Bool×List Diii×Int×Int×List Di×List Dii×List Dii×Int×Int
def q1hd (v:q1hc):St:=⟨[(2,.ptr 0 0),(3,.ptr 1 0),(7,.rs 2),(9,.rs 3),(10,.rs 4),(15,.ptr 5 0),(16,i6 v.1),(29,.rs 2),(30,i6 v.2.1),(31,i6 v.2.2.1),(48,.bool v.2.2.2.1)],[.cells [.fz Riii v.2.2.2.2.1],.cells [i6 v.2.2.2.2.2.1,i6 v.2.2.2.2.2.2.1],.rows Ri v.2.2.2.2.2.2.2.1,.rows Rii v.2.2.2.2.2.2.2.2.1,.rows Rii v.2.2.2.2.2.2.2.2.2.1,.cells [i6 v.2.2.2.2.2.2.2.2.2.2.1,i6 v.2.2.2.2.2.2.2.2.2.2.2]]⟩
def q1he (C:q1g3) (v:q1h8):Dt q1hc:=(Dt.ret (v.1,v.2.1,v.2.2.1,(v.1 != (0:Int)),v.2.2.2.1,v.2.2.2.2.1,v.2.2.2.2.2.1,v.2.2.2.2.2.2.1,v.2.2.2.2.2.2.2.1,v.2.2.2.2.2.2.2.2.1,v.2.2.2.2.2.2.2.2.2.1,v.2.2.2.2.2.2.2.2.2.2))
theorem q1hf C v:q24w (regO (qdk f13) 10) false [(2,(.box [.val Riii])),(3,.any),(7,(.own Ri)),(9,(.own Rii)),(10,(.own Rii)),(15,.any),(16,.any),(29,(.own Ri)),(30,.any),(31,.any),(48,.any)] q1h9 q1he q1hd C v:=rgI (by kernel_rfl)
def q1hg (C:q1g3) (v:q1hc):Dt q1gk:=(Dt.ret (v.1,([]:List Di),([]:List Dii)))
theorem q1hh C v:q24w (regO (qdk f13) 11) false [(4,(.own Ri)),(5,(.own Rii)),(6,.any)] q1hd q1hg q1gl C v:=rgI (by kernel_rfl)
def q1hi (C:q1g3) (v:q1hc):Dt q1gs:=(Dt.ite (apB (List.length v.2.2.2.2.2.2.2.2.1) (List.length ([(v.2.2.2.2.2.2.2.2.2.2.1,v.2.2.2.2.2.2.2.2.2.2.2,())]:List Dii))) (Dt.ret (v.2.1,v.2.2.1,v.2.2.2.2.1,v.2.2.2.2.2.1,v.2.2.2.2.2.2.1,v.2.2.2.2.2.2.2.1,(v.2.2.2.2.2.2.2.2.1++([(v.2.2.2.2.2.2.2.2.2.2.1,v.2.2.2.2.2.2.2.2.2.2.2,())]:List Dii)),v.2.2.2.2.2.2.2.2.2.1)) Dt.fail)
theorem q1hj C v:q24w (regO (qdk f13) 12) false [(2,(.box [.val Riii])),(3,.any),(7,(.own Ri)),(9,(.own Rii)),(10,(.own Rii)),(29,(.own Ri)),(30,.any),(31,.any)] q1hd q1hi q1gt C v:=rgI (by kernel_rfl)
def q1hk (C:q1g3) (v:q1gs):Dt q1gs:=(Dt.ret (v.1,(IntKind.wrap .i64 (v.2.1+(1:Int))),v.2.2.1,v.2.2.2.1,v.2.2.2.2.1,v.2.2.2.2.2.1,v.2.2.2.2.2.2.1,v.2.2.2.2.2.2.2))
theorem q1hl C v:q24w (regO (qdk f13) 13) false [(2,(.box [.val Riii])),(3,.any),(7,(.own Ri)),(9,(.own Rii)),(10,(.own Rii)),(29,(.own Ri)),(30,.any),(31,.any)] q1gt q1hk q1gt C v:=rgI (by kernel_rfl)
abbrev q1hm:Type:=Int×List Di×List Dii×List Dii
def q1hn (v:q1hm):St:=⟨[(7,.rs 0),(9,.rs 1),(10,.rs 2),(17,i6 v.1)],[.rows Ri v.2.1,.rows Rii v.2.2.1,.rows Rii v.2.2.2]⟩
def q1ho (C:q1g3) (v:q1gw):Dt q1hm:=(Dt.ret ((1:Int),v.2.2.2.2.2.2.1,v.2.2.2.2.2.2.2.1,v.2.2.2.2.2.2.2.2))
theorem q1hp C v:q24w (regO (qdk f13) 14) false [(7,(.own Ri)),(9,(.own Rii)),(10,(.own Rii)),(17,.any)] q1gx q1ho q1hn C v:=rgI (by kernel_rfl)
abbrev q1hq:Type:=Int×Bool×List Di×List Dii×List Dii
def q1hr (v:q1hq):St:=⟨[(7,.rs 0),(9,.rs 1),(10,.rs 2),(17,i6 v.1),(58,.bool v.2.1)],[.rows Ri v.2.2.1,.rows Rii v.2.2.2.1,.rows Rii v.2.2.2.2]⟩
def q1hs (C:q1g3) (v:q1hm):Dt q1hq:=(Dt.ret (v.1,(decide (v.1<(List.length v.2.2.1:Int))),v.2.1,v.2.2.1,v.2.2.2))
theorem q1ht C v:q24w (regO (qdk f13) 15) false [(7,(.own Ri)),(9,(.own Rii)),(10,(.own Rii)),(17,.any),(58,.any)] q1hn q1hs q1hr C v:=rgI (by kernel_rfl)
abbrev q1hu:Type:=Int×Int×List Di×List Dii×List Dii×Int×Int
def q1hv (v:q1hu):St:=⟨[(7,.rs 0),(9,.rs 1),(10,.rs 2),(17,i6 v.1),(18,.ptr 3 0),(19,i6 v.2.1)],[.rows Ri v.2.2.1,.rows Rii v.2.2.2.1,.rows Rii v.2.2.2.2.1,.cells [i6 v.2.2.2.2.2.1,i6 v.2.2.2.2.2.2]]⟩
def q1hw (C:q1g3) (v:q1hq):Dt q1hu:=(Dt.ite (inB (IntKind.wrap .i64 (v.1 - (1:Int))) (List.length v.2.2.2.1)) (Dt.ite (inB v.1 (List.length v.2.2.2.1)) (Dt.bnd (C.2.2.2.1 (((elt zii v.2.2.2.1 ((IntKind.wrap .i64 (v.1 - (1:Int)))).toNat).1,(elt zii v.2.2.2.1 ((IntKind.wrap .i64 (v.1 - (1:Int)))).toNat).2.1,()),((elt zii v.2.2.2.1 (v.1).toNat).1,(elt zii v.2.2.2.1 (v.1).toNat).2.1,()),())) fun r1=>(Dt.ret (v.1,r1.2.2,v.2.2.1,v.2.2.2.1,v.2.2.2.2,r1.1,r1.2.1))) Dt.fail) Dt.fail)
theorem q1hx C v:q24w (regO (qdk f13) 17) true [(7,(.own Ri)),(9,(.own Rii)),(10,(.own Rii)),(17,.any),(18,.any),(19,.any)] q1hr q1hw q1hv C v:=rgI (by kernel_rfl)
abbrev q1hy:Type:=Int×Int×Bool×List Di×List Dii×List Dii×Int×Int
def q1hz (v:q1hy):St:=⟨[(7,.rs 0),(9,.rs 1),(10,.rs 2),(17,i6 v.1),(18,.ptr 3 0),(19,i6 v.2.1),(75,.bool v.2.2.1)],[.rows Ri v.2.2.2.1,.rows Rii v.2.2.2.2.1,.rows Rii v.2.2.2.2.2.1,.cells [i6 v.2.2.2.2.2.2.1,i6 v.2.2.2.2.2.2.2]]⟩
def q1i0 (C:q1g3) (v:q1hu):Dt q1hy:=(Dt.ret (v.1,v.2.1,(v.2.1 != (0:Int)),v.2.2.1,v.2.2.2.1,v.2.2.2.2.1,v.2.2.2.2.2.1,v.2.2.2.2.2.2))
theorem q1i1 C v:q24w (regO (qdk f13) 18) false [(7,(.own Ri)),(9,(.own Rii)),(10,(.own Rii)),(17,.any),(18,.any),(19,.any),(75,.any)] q1hv q1i0 q1hz C v:=rgI (by kernel_rfl)
def q1i2 (C:q1g3) (v:q1hy):Dt q1gk:=(Dt.ret (v.2.1,([]:List Di),([]:List Dii)))
theorem q1i3 C v:q24w (regO (qdk f13) 19) false [(4,(.own Ri)),(5,(.own Rii)),(6,.any)] q1hz q1i2 q1gl C v:=rgI (by kernel_rfl)
def q1i4 (C:q1g3) (v:q1hy):Dt q1hm:=(Dt.ite (apB (List.length v.2.2.2.2.2.1) (List.length ([(v.2.2.2.2.2.2.1,v.2.2.2.2.2.2.2,())]:List Dii))) (Dt.ret (v.1,v.2.2.2.1,v.2.2.2.2.1,(v.2.2.2.2.2.1++([(v.2.2.2.2.2.2.1,v.2.2.2.2.2.2.2,())]:List Dii)))) Dt.fail)
theorem q1i5 C v:q24w (regO (qdk f13) 20) false [(7,(.own Ri)),(9,(.own Rii)),(10,(.own Rii)),(17,.any)] q1hz q1i4 q1hn C v:=rgI (by kernel_rfl)
def q1i6 (C:q1g3) (v:q1hm):Dt q1hm:=(Dt.ret ((IntKind.wrap .i64 (v.1+(1:Int))),v.2.1,v.2.2.1,v.2.2.2))
theorem q1i7 C v:q24w (regO (qdk f13) 16) false [(7,(.own Ri)),(9,(.own Rii)),(10,(.own Rii)),(17,.any)] q1hn q1i6 q1hn C v:=rgI (by kernel_rfl)
def q1i8 (C:q1g3) (v:q1hq):Dt q1gk:=(Dt.ret ((0:Int),v.2.2.1,v.2.2.2.2))
theorem q1i9 C v:q24w (regO (qdk f13) 21) false [(4,(.own Ri)),(5,(.own Rii)),(6,.any)] q1hr q1i8 q1gl C v:=rgI (by kernel_rfl)
def q1ia (d:Nat) (self2:(Int×List Di×List Dii×List Dii)→Option q1g0) (x2:Int×List Di×List Dii×List Dii):Option q1g0 :=
 (q1hs (q1g4 d) x2).eval fun y15 =>
 bif y15.2.1 then ((q1hw (q1g4 d) y15).eval fun y17 =>
 (q1i0 (q1g4 d) y17).eval fun y18 =>
 bif y18.2.2.1 then ((q1i2 (q1g4 d) y18).eval fun y19 =>
 some (y19.2.1,y19.2.2,y19.1)) else ((q1i4 (q1g4 d) y18).eval fun y20 =>
 (q1i6 (q1g4 d) y20).eval fun y16 =>
 self2 y16)) else ((q1i8 (q1g4 d) y15).eval fun y21 =>
 some (y21.2.1,y21.2.2,y21.1))
def q1ib (d:Nat) (self1:(Int×Int×List Diii×Int×Int×List Di×List Dii×List Dii)→Option q1g0) (x1:Int×Int×List Diii×Int×Int×List Di×List Dii×List Dii):Option q1g0 :=
 (q1gy (q1g4 d) x1).eval fun y6 =>
 bif y6.2.2.1 then ((q1h2 (q1g4 d) y6).eval fun y7 =>
 (q1h6 (q1g4 d) y7).eval fun y8 =>
 (q1ha (q1g4 d) y8).eval fun y9 =>
 (q1he (q1g4 d) y9).eval fun y10 =>
 bif y10.2.2.2.1 then ((q1hg (q1g4 d) y10).eval fun y11 =>
 some (y11.2.1,y11.2.2,y11.1)) else ((q1hi (q1g4 d) y10).eval fun y12 =>
 (q1hk (q1g4 d) y12).eval fun y13 =>
 self1 y13)) else ((q1ho (q1g4 d) y6).eval fun y14 =>
 iter (q1ia d ) d y14)
def q1ic (d:Nat) (x:q1fz):Option q1g0 :=
 (q1ga (q1g4 d) (x.1.1,x.2.1.1,x.2.1.2.1)).eval fun y0 =>
 (q1ge (q1g4 d) y0).eval fun y1 =>
 (q1gi (q1g4 d) y1).eval fun y2 =>
 bif y2.2.1 then ((q1gm (q1g4 d) y2).eval fun y3 =>
 some (y3.2.1,y3.2.2,y3.1)) else ((q1gq (q1g4 d) y2).eval fun y4 =>
 (q1gu (q1g4 d) y4).eval fun y5 =>
 iter (q1ib d ) d y5)
theorem q1id (d:Nat):COK prog (q1g2 (q1ic d)):=by
 have hm:prog.follows .mixedOrders=true:=mixed
 have hT:=tys
 have hC0:OrcOK prog (orc (q1g5 (q1g4 d))):=qde (by
  intro S hS
  simp only [q1g5,List.mem_cons,List.not_mem_nil,or_false] at hS
  rcases hS with rfl | rfl | rfl | rfl
  · exact qst d
  · exact qsk d
  · exact q1fx d
  · exact q1da d)
 have hC:OrcOK prog (orc (q1g5 (q1g4 d))):=hC0
 refine q93 (c:=qdk f13) (fn:=f13) hT (by kernel_rfl) (by kernel_rfl) (by decide) fun x r h w0 φ0 Q hend=>?_
 replace h:q1ic d x=some r:=h
 unfold q1ic at h
 show Run prog w0 φ0 83 (qdk f13) ⟨[(0,.agg [.fz Riii x.1.1]),(1,.agg [.int .i64 x.2.1.1,.int .i64 x.2.1.2.1])],[]⟩ Q
 refine q24b hm hT hC (q1gb (q1g4 d) (x.1.1,x.2.1.1,x.2.1.2.1)) h fun y0 h=>?_
 refine q24b hm hT hC (q1gf (q1g4 d) y0) h fun y1 h=>?_
 refine q8m ?_
 refine q24b hm hT hC (q1gj (q1g4 d) y1) h fun y2 h=>?_
 refine q8q (v:=y2.2.1) (by kernel_rfl) h ?_ ?_
 ·
  intro h
  refine q24b hm hT hC (q1gn (q1g4 d) y2) h fun y3 h=>?_
  refine q8l (q8a ?_)
  cases h
  exact (hend _ (by kernel_rfl)).2
 ·
  intro h
  refine q8i (q88 ?_)
  refine q24b hm hT hC (q1gr (q1g4 d) y2) h fun y4 h=>?_
  refine q8m ?_
  refine q24b hm hT hC (q1gv (q1g4 d) y4) h fun y5 h=>?_
  refine q8n ?_
  refine q8s (G:=iter (q1ib d )) (S:=(fun x1=>⟨[(2,.ptr 0 0),(3,.ptr 1 0),(7,.rs 2),(9,.rs 3),(10,.rs 4),(29,.rs 2),(30,i6 x1.1),(31,i6 x1.2.1)],[.cells [.fz Riii x1.2.2.1],.cells [i6 x1.2.2.2.1,i6 x1.2.2.2.2.1],.rows Ri x1.2.2.2.2.2.1,.rows Rii x1.2.2.2.2.2.2.1,.rows Rii x1.2.2.2.2.2.2.2]⟩:Int×Int×List Diii×Int×Int×List Di×List Dii×List Dii→St)) (fun _=>rfl) ?_ d _ h
  intro n1 x1 h K1 hn1
  replace h:q1ib d  (iter (q1ib d ) n1) x1=some r:=h
  generalize iter (q1ib d ) n1=self1 at h hn1
  unfold q1ib at h
  refine q24b hm hT hC (q1gz (q1g4 d) x1) h fun y6 h=>?_
  refine q8m ?_
  refine q8q (v:=y6.2.2.1) (by kernel_rfl) h ?_ ?_
  ·
   intro h
   refine q8i (q88 (q8m (q8n ?_)))
   refine q24b hm hT hC (q1h3 (q1g4 d) y6) h fun y7 h=>?_
   refine q24b hm hT hC (q1h7 (q1g4 d) y7) h fun y8 h=>?_
   refine q24b hm hT hC (q1hb (q1g4 d) y8) h fun y9 h=>?_
   refine q8m ?_
   refine q24b hm hT hC (q1hf (q1g4 d) y9) h fun y10 h=>?_
   refine q8q (v:=y10.2.2.2.1) (by kernel_rfl) h ?_ ?_
   ·
    intro h
    refine q24b hm hT hC (q1hh (q1g4 d) y10) h fun y11 h=>?_
    refine q8l (q8a (q8c (q8a (q8a (q8c (q8a ?_))))))
    cases h
    exact (hend _ (by kernel_rfl)).2
   ·
    intro h
    refine q8i (q88 ?_)
    refine q8r hm hT hC (q1hj (q1g4 d) y10) h ?_
    intro y12 h
    refine q8b (q88 ?_)
    refine q8r hm hT hC (q1hl (q1g4 d) y12) h ?_
    intro y13 h
    exact hn1 _ h
  ·
   intro h
   refine q8k (q89 (q89 (q8d (q88 (q8m ?_)))))
   refine q24b hm hT hC (q1hp (q1g4 d) y6) h fun y14 h=>?_
   refine q8n ?_
   refine q8s (G:=iter (q1ia d )) (S:=(fun x2=>⟨[(7,.rs 0),(9,.rs 1),(10,.rs 2),(17,i6 x2.1)],[.rows Ri x2.2.1,.rows Rii x2.2.2.1,.rows Rii x2.2.2.2]⟩:Int×List Di×List Dii×List Dii→St)) (fun _=>rfl) ?_ d _ h
   intro n2 x2 h K2 hn2
   replace h:q1ia d  (iter (q1ia d ) n2) x2=some r:=h
   generalize iter (q1ia d ) n2=self2 at h hn2
   unfold q1ia at h
   refine q8m ?_
   refine q24b hm hT hC (q1ht (q1g4 d) x2) h fun y15 h=>?_
   refine q8q (v:=y15.2.1) (by kernel_rfl) h ?_ ?_
   ·
    intro h
    refine q8i (q88 (q8m (q8n ?_)))
    refine q24b hm hT hC (q1hx (q1g4 d) y15) h fun y17 h=>?_
    refine q8m ?_
    refine q24b hm hT hC (q1i1 (q1g4 d) y17) h fun y18 h=>?_
    refine q8q (v:=y18.2.2.1) (by kernel_rfl) h ?_ ?_
    ·
     intro h
     refine q24b hm hT hC (q1i3 (q1g4 d) y18) h fun y19 h=>?_
     refine q8l (q8a (q8c (q8a (q8a (q8c (q8a ?_))))))
     cases h
     exact (hend _ (by kernel_rfl)).2
    ·
     intro h
     refine q8i (q88 ?_)
     refine q8r hm hT hC (q1i5 (q1g4 d) y18) h ?_
     intro y20 h
     refine q8b (q88 ?_)
     refine q8r hm hT hC (q1i7 (q1g4 d) y20) h ?_
     intro y16 h
     exact hn2 _ h
   ·
    intro h
    refine q8k (q89 (q89 (q8d (q88 ?_))))
    refine q24b hm hT hC (q1i9 (q1g4 d) y15) h fun y21 h=>?_
    refine q8l ?_
    cases h
    exact (hend _ (by kernel_rfl)).2
abbrev q1ie:List Pk:=[.row qjy true,.row Rii true]
abbrev q1if:Type:=qjz×Dii×Unit
abbrev q1ig:Type:=List Dii×Int
def q1ih (r:q1ig):LV×List Ob:=(.tup [.rs 0,.int .i64 r.2],[.rows Rii r.1])
def q1ii (F:q1if→Option q1ig):Go.Tx.Spec:=⟨5,q1ie,q1ig,F,q1ih⟩
abbrev q1ij:Type:=(q1fz→Option q1g0)×Unit
def q1ik (d:Nat):q1ij:=(q1ic d,())
def q1il (C:q1ij):List Go.Tx.Spec:=[q1g2 C.1]
abbrev q1im:Type:=List Diii×Int×Int
def q1in (v:q1im):St:=⟨[(0,.agg [.fz Riii v.1]),(1,.agg [i6 v.2.1,i6 v.2.2])],[]⟩
abbrev q1io:Type:=List Diii×Int×Int
def q1ip (v:q1io):St:=⟨[(2,.ptr 0 0),(3,.ptr 1 0)],[.cells [.fz Riii v.1],.cells [i6 v.2.1,i6 v.2.2]]⟩
def q1iq (C:q1ij) (v:q1im):Dt q1io:=(Dt.ret (v.1,v.2.1,v.2.2))
abbrev q24x {V Y:Type}:=@rg q1ij V Y tysT (fun C=>(orc (q1il C))) 18
theorem q1ir C v:q24x (regO (qdk f5) 0) false [(2,(.box [.val Riii])),(3,.any)] q1in q1iq q1ip C v:=rgI (by kernel_rfl)
abbrev q1is:Type:=Int×List Dii
def q1it (v:q1is):St:=⟨[(7,.rs 0),(8,i6 v.1)],[.rows Rii v.2]⟩
def q1iu (C:q1ij) (v:q1io):Dt q1is:=(Dt.bnd (C.1 ((v.1,()),(v.2.1,v.2.2,()),())) fun r1=>(Dt.ret (r1.2.2,r1.2.1)))
theorem q1iv C v:q24x (regO (qdk f5) 1) false [(7,(.own Rii)),(8,.any)] q1ip q1iu q1it C v:=rgI (by kernel_rfl)
abbrev q1iw:Type:=Int×List Dii
def q1ix (v:q1iw):St:=⟨[(4,.rs 0),(5,i6 v.1)],[.rows Rii v.2]⟩
def q1iy (C:q1ij) (v:q1is):Dt q1iw:=(Dt.ret (v.1,v.2))
theorem q1iz C v:q24x (regO (qdk f5) 2) false [(4,(.own Rii)),(5,.any)] q1it q1iy q1ix C v:=rgI (by kernel_rfl)
def q1j0 (d:Nat) (x:q1if):Option q1ig :=
 (q1iq (q1ik d) (x.1.1,x.2.1.1,x.2.1.2.1)).eval fun y0 =>
 (q1iu (q1ik d) y0).eval fun y1 =>
 (q1iy (q1ik d) y1).eval fun y2 =>
 some (y2.2,y2.1)
theorem q1j1 (d:Nat):COK prog (q1ii (q1j0 d)):=by
 have hm:prog.follows .mixedOrders=true:=mixed
 have hT:=tys
 have hC0:OrcOK prog (orc (q1il (q1ik d))):=qde (by
  intro S hS
  simp only [q1il,List.mem_cons,List.not_mem_nil,or_false] at hS
  subst hS;exact q1id d)
 have hC:OrcOK prog (orc (q1il (q1ik d))):=hC0
 refine q93 (c:=qdk f5) (fn:=f5) hT (by kernel_rfl) (by kernel_rfl) (by decide) fun x r h w0 φ0 Q hend=>?_
 replace h:q1j0 d x=some r:=h
 unfold q1j0 at h
 show Run prog w0 φ0 18 (qdk f5) ⟨[(0,.agg [.fz Riii x.1.1]),(1,.agg [.int .i64 x.2.1.1,.int .i64 x.2.1.2.1])],[]⟩ Q
 refine q24b hm hT hC (q1ir (q1ik d) (x.1.1,x.2.1.1,x.2.1.2.1)) h fun y0 h=>?_
 refine q24b hm hT hC (q1iv (q1ik d) y0) h fun y1 h=>?_
 refine q24b hm hT hC (q1iz (q1ik d) y1) h fun y2 h=>?_
 refine q8l ?_
 cases h
 exact (hend _ (by kernel_rfl)).2
abbrev q1j2:List Pk:=[.row Rii true,.row Rii true]
abbrev q1j3:Type:=Dii×Dii×Unit
abbrev q1j4:Type:=Bool
def q1j5 (r:q1j4):LV×List Ob:=(.bool r,[])
def q1j6 (F:q1j3→Option q1j4):Go.Tx.Spec:=⟨16,q1j2,q1j4,F,q1j5⟩
abbrev q1j7:Type:=(qzr→Option qzs)×Unit
def q1j8 (d:Nat):q1j7:=(q111 d,())
def q1j9 (C:q1j7):List Go.Tx.Spec:=[qzu C.1]
abbrev q1ja:Type:=Int×Int×Int×Int
def q1jb (v:q1ja):St:=⟨[(0,.agg [i6 v.1,i6 v.2.1]),(1,.agg [i6 v.2.2.1,i6 v.2.2.2])],[]⟩
abbrev q1jc:Type:=Int×Int×Int×Int
def q1jd (v:q1jc):St:=⟨[(2,.ptr 0 0),(3,.ptr 1 0)],[.cells [i6 v.1,i6 v.2.1],.cells [i6 v.2.2.1,i6 v.2.2.2]]⟩
def q1je (C:q1j7) (v:q1ja):Dt q1jc:=(Dt.ret (v.1,v.2.1,v.2.2.1,v.2.2.2))
abbrev q24y {V Y:Type}:=@rg q1j7 V Y tysT (fun C=>(orc (q1j9 C))) 15
theorem q1jf C v:q24y (regO (qdk f16) 0) false (an [2,3]) q1jb q1je q1jd C v:=rgI (by kernel_rfl)
abbrev q1jg:Type:=Int
def q1jh (v:q1jg):St:=⟨[(5,i6 v)],[]⟩
def q1ji (C:q1j7) (v:q1jc):Dt q1jg:=(Dt.bnd (C.1 ((v.1,v.2.1,()),(v.2.2.1,v.2.2.2,()),())) fun r1=>(Dt.ret r1.1))
theorem q1jj C v:q24y (regO (qdk f16) 1) false [(5,.any)] q1jd q1ji q1jh C v:=rgI (by kernel_rfl)
abbrev q1jk:Type:=Bool
def q1jl (v:q1jk):St:=⟨[(4,.bool v)],[]⟩
def q1jm (C:q1j7) (v:q1jg):Dt q1jk:=(Dt.ret (decide (v > (0:Int))))
theorem q1jn C v:q24y (regO (qdk f16) 2) false [(4,.any)] q1jh q1jm q1jl C v:=rgI (by kernel_rfl)
def q1jo (d:Nat) (x:q1j3):Option q1j4 :=
 (q1je (q1j8 d) (x.1.1,x.1.2.1,x.2.1.1,x.2.1.2.1)).eval fun y0 =>
 (q1ji (q1j8 d) y0).eval fun y1 =>
 (q1jm (q1j8 d) y1).eval fun y2 =>
 some y2
theorem q1jp (d:Nat):COK prog (q1j6 (q1jo d)):=by
 have hm:prog.follows .mixedOrders=true:=mixed
 have hT:=tys
 have hC0:OrcOK prog (orc (q1j9 (q1j8 d))):=qde (by
  intro S hS
  simp only [q1j9,List.mem_cons,List.not_mem_nil,or_false] at hS
  subst hS;exact q112 d)
 have hC:OrcOK prog (orc (q1j9 (q1j8 d))):=hC0
 refine q93 (c:=qdk f16) (fn:=f16) hT (by kernel_rfl) (by kernel_rfl) (by decide) fun x r h w0 φ0 Q hend=>?_
 replace h:q1jo d x=some r:=h
 unfold q1jo at h
 show Run prog w0 φ0 15 (qdk f16) ⟨[(0,.agg [.int .i64 x.1.1,.int .i64 x.1.2.1]),(1,.agg [.int .i64 x.2.1.1,.int .i64 x.2.1.2.1])],[]⟩ Q
 refine q24b hm hT hC (q1jf (q1j8 d) (x.1.1,x.1.2.1,x.2.1.1,x.2.1.2.1)) h fun y0 h=>?_
 refine q24b hm hT hC (q1jj (q1j8 d) y0) h fun y1 h=>?_
 refine q24b hm hT hC (q1jn (q1j8 d) y1) h fun y2 h=>?_
 refine q8l ?_
 cases h
 exact (hend _ (by kernel_rfl)).2
abbrev q1jq:List Pk:=[.row qjy true,.row Rii true,.row Rii true]
abbrev q1jr:Type:=qjz×Dii×Dii×Unit
abbrev q1js:Type:=List DLiE×Int
def q1jt (r:q1js):LV×List Ob:=(.tup [.fz RLiE r.1,.int .i64 r.2],[])
def q1ju (F:q1jr→Option q1js):Go.Tx.Spec:=⟨6,q1jq,q1js,F,q1jt⟩
abbrev q1jv:Type:=(q1fz→Option q1g0)×(qsm→Option qsn)×(qmi→Option qmj)×(q1j3→Option q1j4)×Unit
def q1jw (d:Nat):q1jv:=(q1ic d,qsr d,qmn d,q1jo d,())
def q1jx (C:q1jv):List Go.Tx.Spec:=[q1g2 C.1,qsp C.2.1,qml C.2.2.1,q1j6 C.2.2.2.1]
abbrev q1jy:Type:=List Diii×Int×Int×Int×Int
def q1jz (v:q1jy):St:=⟨[(0,.agg [.fz Riii v.1]),(1,.agg [i6 v.2.1,i6 v.2.2.1]),(2,.agg [i6 v.2.2.2.1,i6 v.2.2.2.2])],[]⟩
abbrev q1k0:Type:=List Diii×Int×Int×Int×Int
def q1k1 (v:q1k0):St:=⟨[(3,.ptr 0 0),(4,.ptr 1 0),(5,.ptr 2 0)],[.cells [.fz Riii v.1],.cells [i6 v.2.1,i6 v.2.2.1],.cells [i6 v.2.2.2.1,i6 v.2.2.2.2]]⟩
def q1k2 (C:q1jv) (v:q1jy):Dt q1k0:=(Dt.ret (v.1,v.2.1,v.2.2.1,v.2.2.2.1,v.2.2.2.2))
theorem q1k3 (C:q1jv) (v:q1jy):treg (litT 34 tysT) (orc (q1jx C)) 81 (regO (qdk f6) 0) false [(3,(.box [.val Riii])),(4,.any),(5,.any)] (q1jz v) some=(q1k2 C v).eval fun y=>some (q1k1 y):=by kernel_rfl
abbrev q1k4:Type:=Int×List Diii×Int×Int×Int×Int
def q1k5 (v:q1k4):St:=⟨[(3,.ptr 0 0),(4,.ptr 1 0),(5,.ptr 2 0),(9,i6 v.1)],[.cells [.fz Riii v.2.1],.cells [i6 v.2.2.1,i6 v.2.2.2.1],.cells [i6 v.2.2.2.2.1,i6 v.2.2.2.2.2]]⟩
def q1k6 (C:q1jv) (v:q1k0):Dt q1k4:=(Dt.bnd (C.2.1 ((v.1,()),(v.2.1,v.2.2.1,()),())) fun r1=>(Dt.ret (r1.2,v.1,v.2.1,v.2.2.1,v.2.2.2.1,v.2.2.2.2)))
theorem q1k7 (C:q1jv) (v:q1k0):treg (litT 34 tysT) (orc (q1jx C)) 81 (regO (qdk f6) 1) false [(3,(.box [.val Riii])),(4,.any),(5,.any),(9,.any)] (q1k1 v) some=(q1k6 C v).eval fun y=>some (q1k5 y):=by kernel_rfl
abbrev q1k8:Type:=Int×Bool×List Diii×Int×Int×Int×Int
def q1k9 (v:q1k8):St:=⟨[(3,.ptr 0 0),(4,.ptr 1 0),(5,.ptr 2 0),(9,i6 v.1),(23,.bool v.2.1)],[.cells [.fz Riii v.2.2.1],.cells [i6 v.2.2.2.1,i6 v.2.2.2.2.1],.cells [i6 v.2.2.2.2.2.1,i6 v.2.2.2.2.2.2]]⟩
def q1ka (C:q1jv) (v:q1k4):Dt q1k8:=(Dt.ret (v.1,(v.1 != (0:Int)),v.2.1,v.2.2.1,v.2.2.2.1,v.2.2.2.2.1,v.2.2.2.2.2))
theorem q1kb (C:q1jv) (v:q1k4):treg (litT 34 tysT) (orc (q1jx C)) 81 (regO (qdk f6) 2) false [(3,(.box [.val Riii])),(4,.any),(5,.any),(9,.any),(23,.any)] (q1k5 v) some=(q1ka C v).eval fun y=>some (q1k9 y):=by kernel_rfl
abbrev q1kc:Type:=List DLiE×Int
def q1kd (v:q1kc):St:=⟨[(6,.fz RLiE v.1),(7,i6 v.2)],[]⟩
def q1ke (C:q1jv) (v:q1k8):Dt q1kc:=(Dt.ret (([]:List DLiE),v.1))
theorem q1kf (C:q1jv) (v:q1k8):treg (litT 34 tysT) (orc (q1jx C)) 81 (regO (qdk f6) 3) false [(6,(.val RLiE)),(7,.any)] (q1k9 v) some=(q1ke C v).eval fun y=>some (q1kd y):=by kernel_rfl
abbrev q1kg:Type:=Bool×List Diii×Int×Int×Int×Int
def q1kh (v:q1kg):St:=⟨[(3,.ptr 0 0),(4,.ptr 1 0),(5,.ptr 2 0),(27,.bool v.1)],[.cells [.fz Riii v.2.1],.cells [i6 v.2.2.1,i6 v.2.2.2.1],.cells [i6 v.2.2.2.2.1,i6 v.2.2.2.2.2]]⟩
def q1ki (C:q1jv) (v:q1k8):Dt q1kg:=(Dt.bnd (C.2.2.1 ((v.2.2.2.2.2.1,v.2.2.2.2.2.2,()),())) fun r1=>(Dt.ret ((r1 != (0:Int)),v.2.2.1,v.2.2.2.1,v.2.2.2.2.1,v.2.2.2.2.2.1,v.2.2.2.2.2.2)))
theorem q1kj (C:q1jv) (v:q1k8):treg (litT 34 tysT) (orc (q1jx C)) 81 (regO (qdk f6) 4) false [(3,(.box [.val Riii])),(4,.any),(5,.any),(27,.any)] (q1k9 v) some=(q1ki C v).eval fun y=>some (q1kh y):=by kernel_rfl
def q1kk (C:q1jv) (v:q1kg):Dt q1kc:=(Dt.ret (([]:List DLiE),(8:Int)))
theorem q1kl (C:q1jv) (v:q1kg):treg (litT 34 tysT) (orc (q1jx C)) 81 (regO (qdk f6) 5) false [(6,(.val RLiE)),(7,.any)] (q1kh v) some=(q1kk C v).eval fun y=>some (q1kd y):=by kernel_rfl
abbrev q1km:Type:=Bool×List Diii×Int×Int×Int×Int
def q1kn (v:q1km):St:=⟨[(3,.ptr 0 0),(4,.ptr 1 0),(5,.ptr 2 0),(30,.bool v.1)],[.cells [.fz Riii v.2.1],.cells [i6 v.2.2.1,i6 v.2.2.2.1],.cells [i6 v.2.2.2.2.1,i6 v.2.2.2.2.2]]⟩
def q1ko (C:q1jv) (v:q1kg):Dt q1km:=(Dt.ret ((decide (v.2.2.2.2.1<(0:Int))),v.2.1,v.2.2.1,v.2.2.2.1,v.2.2.2.2.1,v.2.2.2.2.2))
theorem q1kp (C:q1jv) (v:q1kg):treg (litT 34 tysT) (orc (q1jx C)) 81 (regO (qdk f6) 6) false [(3,(.box [.val Riii])),(4,.any),(5,.any),(30,.any)] (q1kh v) some=(q1ko C v).eval fun y=>some (q1kn y):=by kernel_rfl
def q1kq (C:q1jv) (v:q1km):Dt q1kc:=(Dt.ret (([]:List DLiE),(2:Int)))
theorem q1kr (C:q1jv) (v:q1km):treg (litT 34 tysT) (orc (q1jx C)) 81 (regO (qdk f6) 7) false [(6,(.val RLiE)),(7,.any)] (q1kn v) some=(q1kq C v).eval fun y=>some (q1kd y):=by kernel_rfl
abbrev q1ks:Type:=Int×Int×Int×List Di×List Dii
def q1kt (v:q1ks):St:=⟨[(5,.ptr 0 0),(10,.rs 1),(11,.rs 2),(12,i6 v.1)],[.cells [i6 v.2.1,i6 v.2.2.1],.rows Ri v.2.2.2.1,.rows Rii v.2.2.2.2]⟩
def q1ku (C:q1jv) (v:q1km):Dt q1ks:=(Dt.bnd (C.1 ((v.2.1,()),(v.2.2.1,v.2.2.2.1,()),())) fun r1=>(Dt.ret (r1.2.2,v.2.2.2.2.1,v.2.2.2.2.2,r1.1,r1.2.1)))
theorem q1kv (C:q1jv) (v:q1km):treg (litT 34 tysT) (orc (q1jx C)) 81 (regO (qdk f6) 8) false [(5,.any),(10,(.own Ri)),(11,(.own Rii)),(12,.any)] (q1kn v) some=(q1ku C v).eval fun y=>some (q1kt y):=by kernel_rfl
abbrev q1kw:Type:=Int×Bool×Int×Int×List Di×List Dii
def q1kx (v:q1kw):St:=⟨[(5,.ptr 0 0),(10,.rs 1),(11,.rs 2),(12,i6 v.1),(39,.bool v.2.1)],[.cells [i6 v.2.2.1,i6 v.2.2.2.1],.rows Ri v.2.2.2.2.1,.rows Rii v.2.2.2.2.2]⟩
def q1ky (C:q1jv) (v:q1ks):Dt q1kw:=(Dt.ret (v.1,(v.1 != (0:Int)),v.2.1,v.2.2.1,v.2.2.2.1,v.2.2.2.2))
theorem q1kz (C:q1jv) (v:q1ks):treg (litT 34 tysT) (orc (q1jx C)) 81 (regO (qdk f6) 9) false [(5,.any),(10,(.own Ri)),(11,(.own Rii)),(12,.any),(39,.any)] (q1kt v) some=(q1ky C v).eval fun y=>some (q1kx y):=by kernel_rfl
def q1l0 (C:q1jv) (v:q1kw):Dt q1kc:=(Dt.ret (([]:List DLiE),v.1))
theorem q1l1 (C:q1jv) (v:q1kw):treg (litT 34 tysT) (orc (q1jx C)) 81 (regO (qdk f6) 10) false [(6,(.val RLiE)),(7,.any)] (q1kx v) some=(q1l0 C v).eval fun y=>some (q1kd y):=by kernel_rfl
abbrev q1l2:Type:=Int×Int×List Di×List Dii×List DLiE
def q1l3 (v:q1l2):St:=⟨[(5,.ptr 0 0),(10,.rs 1),(11,.rs 2),(13,.rs 3)],[.cells [i6 v.1,i6 v.2.1],.rows Ri v.2.2.1,.rows Rii v.2.2.2.1,.rows RLiE v.2.2.2.2]⟩
def q1l4 (C:q1jv) (v:q1kw):Dt q1l2:=(Dt.ret (v.2.2.1,v.2.2.2.1,v.2.2.2.2.1,v.2.2.2.2.2,([]:List DLiE)))
theorem q1l5 (C:q1jv) (v:q1kw):treg (litT 34 tysT) (orc (q1jx C)) 81 (regO (qdk f6) 11) false [(5,.any),(10,(.own Ri)),(11,(.own Rii)),(13,(.own RLiE))] (q1kx v) some=(q1l4 C v).eval fun y=>some (q1l3 y):=by kernel_rfl
abbrev q1l6:Type:=Int×Int×Int×Int×List Dii×List DLiE×List Di
def q1l7 (v:q1l6):St:=⟨[(5,.ptr 0 0),(11,.rs 1),(13,.rs 2),(41,.rs 3),(42,i6 v.1),(43,i6 v.2.1)],[.cells [i6 v.2.2.1,i6 v.2.2.2.1],.rows Rii v.2.2.2.2.1,.rows RLiE v.2.2.2.2.2.1,.rows Ri v.2.2.2.2.2.2]⟩
def q1l8 (C:q1jv) (v:q1l2):Dt q1l6:=(Dt.ret ((List.length v.2.2.1:Int),(0:Int),v.1,v.2.1,v.2.2.2.1,v.2.2.2.2,v.2.2.1))
theorem q1l9 (C:q1jv) (v:q1l2):treg (litT 34 tysT) (orc (q1jx C)) 81 (regO (qdk f6) 12) false [(5,.any),(11,(.own Rii)),(13,(.own RLiE)),(41,(.own Ri)),(42,.any),(43,.any)] (q1l3 v) some=(q1l8 C v).eval fun y=>some (q1l7 y):=by kernel_rfl
abbrev q1la:Type:=Int×Int×Bool×Int×Int×List Dii×List DLiE×List Di
def q1lb (v:q1la):St:=⟨[(5,.ptr 0 0),(11,.rs 1),(13,.rs 2),(41,.rs 3),(42,i6 v.1),(43,i6 v.2.1),(44,.bool v.2.2.1)],[.cells [i6 v.2.2.2.1,i6 v.2.2.2.2.1],.rows Rii v.2.2.2.2.2.1,.rows RLiE v.2.2.2.2.2.2.1,.rows Ri v.2.2.2.2.2.2.2]⟩
def q1lc (C:q1jv) (v:q1l6):Dt q1la:=(Dt.ret (v.1,v.2.1,(decide (v.2.1<v.1)),v.2.2.1,v.2.2.2.1,v.2.2.2.2.1,v.2.2.2.2.2.1,v.2.2.2.2.2.2))
theorem q1ld (C:q1jv) (v:q1l6):treg (litT 34 tysT) (orc (q1jx C)) 81 (regO (qdk f6) 13) false [(5,.any),(11,(.own Rii)),(13,(.own RLiE)),(41,(.own Ri)),(42,.any),(43,.any),(44,.any)] (q1l7 v) some=(q1lc C v).eval fun y=>some (q1lb y):=by kernel_rfl
abbrev q1le:Type:=Int×Int×Int×Int×Int×Int×List Dii×List DLiE×List Di
def q1lf (v:q1le):St:=⟨[(5,.ptr 0 0),(11,.rs 1),(13,.rs 2),(14,i6 v.1),(15,i6 v.2.1),(41,.rs 3),(42,i6 v.2.2.1),(43,i6 v.2.2.2.1)],[.cells [i6 v.2.2.2.2.1,i6 v.2.2.2.2.2.1],.rows Rii v.2.2.2.2.2.2.1,.rows RLiE v.2.2.2.2.2.2.2.1,.rows Ri v.2.2.2.2.2.2.2.2]⟩
def q1lg (C:q1jv) (v:q1la):Dt q1le:=(Dt.ite (inB v.2.1 (List.length v.2.2.2.2.2.2.2)) (Dt.ret (v.2.1,(elt zi v.2.2.2.2.2.2.2 (v.2.1).toNat).1,v.1,v.2.1,v.2.2.2.1,v.2.2.2.2.1,v.2.2.2.2.2.1,v.2.2.2.2.2.2.1,v.2.2.2.2.2.2.2)) Dt.fail)
theorem q1lh (C:q1jv) (v:q1la):treg (litT 34 tysT) (orc (q1jx C)) 81 (regO (qdk f6) 14) false [(5,.any),(11,(.own Rii)),(13,(.own RLiE)),(14,.any),(15,.any),(41,(.own Ri)),(42,.any),(43,.any)] (q1lb v) some=(q1lg C v).eval fun y=>some (q1lf y):=by kernel_rfl
abbrev q1li:Type:=Int×Int×Int×Bool×Int×Int×List Dii×List DLiE×List Di
def q1lj (v:q1li):St:=⟨[(5,.ptr 0 0),(11,.rs 1),(13,.rs 2),(15,i6 v.1),(41,.rs 3),(42,i6 v.2.1),(43,i6 v.2.2.1),(59,.bool v.2.2.2.1)],[.cells [i6 v.2.2.2.2.1,i6 v.2.2.2.2.2.1],.rows Rii v.2.2.2.2.2.2.1,.rows RLiE v.2.2.2.2.2.2.2.1,.rows Ri v.2.2.2.2.2.2.2.2]⟩
def q1lk (C:q1jv) (v:q1le):Dt q1li:=(Dt.ite (decide (v.1 > (0:Int))) (Dt.ite (inB (IntKind.wrap .i64 (v.1 - (1:Int))) (List.length v.2.2.2.2.2.2.1)) (Dt.bnd (C.2.2.2.1 (((elt zii v.2.2.2.2.2.2.1 ((IntKind.wrap .i64 (v.1 - (1:Int)))).toNat).1,(elt zii v.2.2.2.2.2.2.1 ((IntKind.wrap .i64 (v.1 - (1:Int)))).toNat).2.1,()),(v.2.2.2.2.1,v.2.2.2.2.2.1,()),())) fun r1=>(Dt.ret (v.2.1,v.2.2.1,v.2.2.2.1,(!r1),v.2.2.2.2.1,v.2.2.2.2.2.1,v.2.2.2.2.2.2.1,v.2.2.2.2.2.2.2.1,v.2.2.2.2.2.2.2.2))) Dt.fail) (Dt.ret (v.2.1,v.2.2.1,v.2.2.2.1,false,v.2.2.2.2.1,v.2.2.2.2.2.1,v.2.2.2.2.2.2.1,v.2.2.2.2.2.2.2.1,v.2.2.2.2.2.2.2.2)))
theorem q1ll (C:q1jv) (v:q1le):treg (litT 34 tysT) (orc (q1jx C)) 81 (regO (qdk f6) 15) true [(5,.any),(11,(.own Rii)),(13,(.own RLiE)),(15,.any),(41,(.own Ri)),(42,.any),(43,.any),(59,.any)] (q1lf v) some=(q1lk C v).eval fun y=>some (q1lj y):=by kernel_rfl
abbrev q1lm:Type:=Int×Int×Int×Int×List Dii×List (List Di)×List Di×List Di
def q1ln (v:q1lm):St:=⟨[(5,.ptr 0 0),(11,.rs 1),(13,.rs 2),(41,.rs 4),(42,i6 v.1),(43,i6 v.2.1)],[.cells [i6 v.2.2.1,i6 v.2.2.2.1],.rows Rii v.2.2.2.2.1,.rowl Ri v.2.2.2.2.2.1 (some 3),.rows Ri v.2.2.2.2.2.2.1,.rows Ri v.2.2.2.2.2.2.2]⟩
def q1lo (C:q1jv) (v:q1li):Dt q1lm:=(Dt.ite (Nat.ble (List.length v.2.2.2.2.2.2.2.1) 90000) (Dt.ret (v.2.1,v.2.2.1,v.2.2.2.2.1,v.2.2.2.2.2.1,v.2.2.2.2.2.2.1,(q4q (e:=Ri) v.2.2.2.2.2.2.2.1),([(v.1,())]:List Di),v.2.2.2.2.2.2.2.2)) Dt.fail)
theorem q1lp (C:q1jv) (v:q1li):treg (litT 34 tysT) (orc (q1jx C)) 81 (regO (qdk f6) 17) false [(5,.any),(11,(.own Rii)),(13,(.own RLiE)),(41,(.own Ri)),(42,.any),(43,.any)] (q1lj v) some=(q1lo C v).eval fun y=>some (q1ln y):=by kernel_rfl
def q1lq (C:q1jv) (v:q1lm):Dt q1lm:=(Dt.ret (v.1,(IntKind.wrap .i64 (v.2.1+(1:Int))),v.2.2.1,v.2.2.2.1,v.2.2.2.2.1,v.2.2.2.2.2.1,v.2.2.2.2.2.2.1,v.2.2.2.2.2.2.2))
theorem q1lr (C:q1jv) (v:q1lm):treg (litT 34 tysT) (orc (q1jx C)) 81 (regO (qdk f6) 18) false [(5,.any),(11,(.own Rii)),(13,(.own RLiE)),(41,(.own Ri)),(42,.any),(43,.any)] (q1ln v) some=(q1lq C v).eval fun y=>some (q1ln y):=by kernel_rfl
abbrev q1ls:Type:=Int×Int×Bool×Int×Int×List Dii×List (List Di)×List Di×List Di
def q1lt (v:q1ls):St:=⟨[(5,.ptr 0 0),(11,.rs 1),(13,.rs 2),(41,.rs 4),(42,i6 v.1),(43,i6 v.2.1),(44,.bool v.2.2.1)],[.cells [i6 v.2.2.2.1,i6 v.2.2.2.2.1],.rows Rii v.2.2.2.2.2.1,.rowl Ri v.2.2.2.2.2.2.1 (some 3),.rows Ri v.2.2.2.2.2.2.2.1,.rows Ri v.2.2.2.2.2.2.2.2]⟩
def q1lu (C:q1jv) (v:q1lm):Dt q1ls:=(Dt.ret (v.1,v.2.1,(decide (v.2.1<v.1)),v.2.2.1,v.2.2.2.1,v.2.2.2.2.1,v.2.2.2.2.2.1,v.2.2.2.2.2.2.1,v.2.2.2.2.2.2.2))
theorem q1lv (C:q1jv) (v:q1lm):treg (litT 34 tysT) (orc (q1jx C)) 81 (regO (qdk f6) 13) false [(5,.any),(11,(.own Rii)),(13,(.own RLiE)),(41,(.own Ri)),(42,.any),(43,.any),(44,.any)] (q1ln v) some=(q1lu C v).eval fun y=>some (q1lt y):=by kernel_rfl
abbrev q1lw:Type:=Int×Int×Int×Int×Int×Int×List Dii×List (List Di)×List Di×List Di
def q1lx (v:q1lw):St:=⟨[(5,.ptr 0 0),(11,.rs 1),(13,.rs 2),(14,i6 v.1),(15,i6 v.2.1),(41,.rs 4),(42,i6 v.2.2.1),(43,i6 v.2.2.2.1)],[.cells [i6 v.2.2.2.2.1,i6 v.2.2.2.2.2.1],.rows Rii v.2.2.2.2.2.2.1,.rowl Ri v.2.2.2.2.2.2.2.1 (some 3),.rows Ri v.2.2.2.2.2.2.2.2.1,.rows Ri v.2.2.2.2.2.2.2.2.2]⟩
def q1ly (C:q1jv) (v:q1ls):Dt q1lw:=(Dt.ite (inB v.2.1 (List.length v.2.2.2.2.2.2.2.2)) (Dt.ret (v.2.1,(elt zi v.2.2.2.2.2.2.2.2 (v.2.1).toNat).1,v.1,v.2.1,v.2.2.2.1,v.2.2.2.2.1,v.2.2.2.2.2.1,v.2.2.2.2.2.2.1,v.2.2.2.2.2.2.2.1,v.2.2.2.2.2.2.2.2)) Dt.fail)
theorem q1lz (C:q1jv) (v:q1ls):treg (litT 34 tysT) (orc (q1jx C)) 81 (regO (qdk f6) 14) false [(5,.any),(11,(.own Rii)),(13,(.own RLiE)),(14,.any),(15,.any),(41,(.own Ri)),(42,.any),(43,.any)] (q1lt v) some=(q1ly C v).eval fun y=>some (q1lx y):=by kernel_rfl
abbrev q1m0:Type:=Int×Int×Int×Bool×Int×Int×List Dii×List (List Di)×List Di×List Di
def q1m1 (v:q1m0):St:=⟨[(5,.ptr 0 0),(11,.rs 1),(13,.rs 2),(15,i6 v.1),(41,.rs 4),(42,i6 v.2.1),(43,i6 v.2.2.1),(59,.bool v.2.2.2.1)],[.cells [i6 v.2.2.2.2.1,i6 v.2.2.2.2.2.1],.rows Rii v.2.2.2.2.2.2.1,.rowl Ri v.2.2.2.2.2.2.2.1 (some 3),.rows Ri v.2.2.2.2.2.2.2.2.1,.rows Ri v.2.2.2.2.2.2.2.2.2]⟩
def q1m2 (C:q1jv) (v:q1lw):Dt q1m0:=(Dt.ite (decide (v.1 > (0:Int))) (Dt.ite (inB (IntKind.wrap .i64 (v.1 - (1:Int))) (List.length v.2.2.2.2.2.2.1)) (Dt.bnd (C.2.2.2.1 (((elt zii v.2.2.2.2.2.2.1 ((IntKind.wrap .i64 (v.1 - (1:Int)))).toNat).1,(elt zii v.2.2.2.2.2.2.1 ((IntKind.wrap .i64 (v.1 - (1:Int)))).toNat).2.1,()),(v.2.2.2.2.1,v.2.2.2.2.2.1,()),())) fun r1=>(Dt.ret (v.2.1,v.2.2.1,v.2.2.2.1,(!r1),v.2.2.2.2.1,v.2.2.2.2.2.1,v.2.2.2.2.2.2.1,v.2.2.2.2.2.2.2.1,v.2.2.2.2.2.2.2.2.1,v.2.2.2.2.2.2.2.2.2))) Dt.fail) (Dt.ret (v.2.1,v.2.2.1,v.2.2.2.1,false,v.2.2.2.2.1,v.2.2.2.2.2.1,v.2.2.2.2.2.2.1,v.2.2.2.2.2.2.2.1,v.2.2.2.2.2.2.2.2.1,v.2.2.2.2.2.2.2.2.2)))
theorem q1m3 (C:q1jv) (v:q1lw):treg (litT 34 tysT) (orc (q1jx C)) 81 (regO (qdk f6) 15) true [(5,.any),(11,(.own Rii)),(13,(.own RLiE)),(15,.any),(41,(.own Ri)),(42,.any),(43,.any),(59,.any)] (q1lx v) some=(q1m2 C v).eval fun y=>some (q1m1 y):=by kernel_rfl
def q1m4 (C:q1jv) (v:q1m0):Dt q1lm:=(Dt.ite (inB (IntKind.wrap .i64 (((List.length v.2.2.2.2.2.2.2.1+1:Nat):Int) - (1:Int))) ((List.length v.2.2.2.2.2.2.2.1)+1)) (Dt.ite (Nat.beq ((IntKind.wrap .i64 (((List.length v.2.2.2.2.2.2.2.1+1:Nat):Int) - (1:Int)))).toNat (List.length v.2.2.2.2.2.2.2.1)) (Dt.ite (apB (List.length v.2.2.2.2.2.2.2.2.1) (List.length ([(v.1,())]:List Di))) (Dt.ite (inB (IntKind.wrap .i64 (((List.length v.2.2.2.2.2.2.2.1+1:Nat):Int) - (1:Int))) ((List.length v.2.2.2.2.2.2.2.1)+1)) (Dt.ite (Nat.beq ((IntKind.wrap .i64 (((List.length v.2.2.2.2.2.2.2.1+1:Nat):Int) - (1:Int)))).toNat (List.length v.2.2.2.2.2.2.2.1)) (Dt.ret (v.2.1,v.2.2.1,v.2.2.2.2.1,v.2.2.2.2.2.1,v.2.2.2.2.2.2.1,v.2.2.2.2.2.2.2.1,(v.2.2.2.2.2.2.2.2.1++([(v.1,())]:List Di)),v.2.2.2.2.2.2.2.2.2)) Dt.fail) Dt.fail) Dt.fail) Dt.fail) Dt.fail)
theorem q1m5 (C:q1jv) (v:q1m0):treg (litT 34 tysT) (orc (q1jx C)) 81 (regO (qdk f6) 16) false [(5,.any),(11,(.own Rii)),(13,(.own RLiE)),(41,(.own Ri)),(42,.any),(43,.any)] (q1m1 v) some=(q1m4 C v).eval fun y=>some (q1ln y):=by kernel_rfl
def q1m6 (C:q1jv) (v:q1lm):Dt q1lm:=(Dt.ret (v.1,(IntKind.wrap .i64 (v.2.1+(1:Int))),v.2.2.1,v.2.2.2.1,v.2.2.2.2.1,v.2.2.2.2.2.1,v.2.2.2.2.2.2.1,v.2.2.2.2.2.2.2))
theorem q1m7 (C:q1jv) (v:q1lm):treg (litT 34 tysT) (orc (q1jx C)) 81 (regO (qdk f6) 18) false [(5,.any),(11,(.own Rii)),(13,(.own RLiE)),(41,(.own Ri)),(42,.any),(43,.any)] (q1ln v) some=(q1m6 C v).eval fun y=>some (q1ln y):=by kernel_rfl
def q1m8  (d:Nat) (self1:(Int×Int×Int×Int×List Dii×List (List Di)×List Di×List Di)→Option q1js) (z:Int×Int×Int×Int×List Dii×List (List Di)×List Di×List Di):Option (q1js) :=
 (q1m6 (q1jw d) z).eval fun y18 =>
 self1 y18
def q1m9 (C:q1jv) (v:q1m0):Dt q1lm:=(Dt.ite (Nat.ble (List.length (v.2.2.2.2.2.2.2.1 ++ [v.2.2.2.2.2.2.2.2.1])) 90000) (Dt.ret (v.2.1,v.2.2.1,v.2.2.2.2.1,v.2.2.2.2.2.1,v.2.2.2.2.2.2.1,(v.2.2.2.2.2.2.2.1 ++ [v.2.2.2.2.2.2.2.2.1]),([(v.1,())]:List Di),v.2.2.2.2.2.2.2.2.2)) Dt.fail)
theorem q1ma (C:q1jv) (v:q1m0):treg (litT 34 tysT) (orc (q1jx C)) 81 (regO (qdk f6) 17) false [(5,.any),(11,(.own Rii)),(13,(.own RLiE)),(41,(.own Ri)),(42,.any),(43,.any)] (q1m1 v) some=(q1m9 C v).eval fun y=>some (q1ln y):=by kernel_rfl
def q1mb (C:q1jv) (v:q1ls):Dt q1kc:=(Dt.ret ((ql (e:=Ri) (v.2.2.2.2.2.2.1 ++ [v.2.2.2.2.2.2.2.1])),(0:Int)))
theorem q1mc (C:q1jv) (v:q1ls):treg (litT 34 tysT) (orc (q1jx C)) 81 (regO (qdk f6) 19) false [(6,(.val RLiE)),(7,.any)] (q1lt v) some=(q1mb C v).eval fun y=>some (q1kd y):=by kernel_rfl
def q1md (d:Nat) (self1:(Int×Int×Int×Int×List Dii×List (List Di)×List Di×List Di)→Option q1js) (x1:Int×Int×Int×Int×List Dii×List (List Di)×List Di×List Di):Option q1js :=
 (q1lu (q1jw d) x1).eval fun y13 =>
 bif y13.2.2.1 then ((q1ly (q1jw d) y13).eval fun y14 =>
 (q1m2 (q1jw d) y14).eval fun y15 =>
 bif y15.2.2.2.1 then ((q1m4 (q1jw d) y15).eval fun y16 =>
 q1m8 d self1 y16) else ((q1m9 (q1jw d) y15).eval fun y17 =>
 q1m8 d self1 y17)) else ((q1mb (q1jw d) y13).eval fun y19 =>
 some y19)
def q1me  (d:Nat)  (z:Int×Int×Int×Int×List Dii×List (List Di)×List Di×List Di):Option (q1js) :=
 (q1lq (q1jw d) z).eval fun y18p =>
 iter (q1md d) d y18p
def q1mf (C:q1jv) (v:q1la):Dt q1kc:=(Dt.ret (v.2.2.2.2.2.2.1,(0:Int)))
theorem q1mg (C:q1jv) (v:q1la):treg (litT 34 tysT) (orc (q1jx C)) 81 (regO (qdk f6) 19) false [(6,(.val RLiE)),(7,.any)] (q1lb v) some=(q1mf C v).eval fun y=>some (q1kd y):=by kernel_rfl
def q1mh (d:Nat) (x:q1jr):Option q1js :=
 (q1k2 (q1jw d) (x.1.1,x.2.1.1,x.2.1.2.1,x.2.2.1.1,x.2.2.1.2.1)).eval fun y0 =>
 (q1k6 (q1jw d) y0).eval fun y1 =>
 (q1ka (q1jw d) y1).eval fun y2 =>
 bif y2.2.1 then ((q1ke (q1jw d) y2).eval fun y3 =>
 some y3) else ((q1ki (q1jw d) y2).eval fun y4 =>
 bif y4.1 then ((q1kk (q1jw d) y4).eval fun y5 =>
 some y5) else ((q1ko (q1jw d) y4).eval fun y6 =>
 bif y6.1 then ((q1kq (q1jw d) y6).eval fun y7 =>
 some y7) else ((q1ku (q1jw d) y6).eval fun y8 =>
 (q1ky (q1jw d) y8).eval fun y9 =>
 bif y9.2.1 then ((q1l0 (q1jw d) y9).eval fun y10 =>
 some y10) else ((q1l4 (q1jw d) y9).eval fun y11 =>
 (q1l8 (q1jw d) y11).eval fun y12 =>
 (q1lc (q1jw d) y12).eval fun y13p =>
 bif y13p.2.2.1 then ((q1lg (q1jw d) y13p).eval fun y14p =>
 (q1lk (q1jw d) y14p).eval fun y15p =>
 bif y15p.2.2.2.1 then (none) else ((q1lo (q1jw d) y15p).eval fun y17p =>
 q1me d  y17p)) else ((q1mf (q1jw d) y13p).eval fun y19p =>
 some y19p)))))
theorem q1mi (d:Nat):COK prog (q1ju (q1mh d)):=by
 have hm:prog.follows .mixedOrders=true:=mixed
 have hT:=q1w tys 34
 have hC0:OrcOK prog (orc (q1jx (q1jw d))):=qde (by
  intro S hS
  simp only [q1jx,List.mem_cons,List.not_mem_nil,or_false] at hS
  rcases hS with rfl | rfl | rfl | rfl
  · exact q1id d
  · exact qst d
  · exact qmp d
  · exact q1jp d)
 have hC:OrcOK prog (orc (q1jx (q1jw d))):=hC0
 refine q93 (c:=qdk f6) (fn:=f6) hT (by kernel_rfl) (by kernel_rfl) (by decide) fun x r h w0 φ0 Q hend=>?_
 replace h:q1mh d x=some r:=h
 unfold q1mh at h
 show Run prog w0 φ0 81 (qdk f6) ⟨[(0,.agg [.fz Riii x.1.1]),(1,.agg [.int .i64 x.2.1.1,.int .i64 x.2.1.2.1]),(2,.agg [.int .i64 x.2.2.1.1,.int .i64 x.2.2.1.2.1])],[]⟩ Q
 refine q24b hm hT hC (q1k3 (q1jw d) (x.1.1,x.2.1.1,x.2.1.2.1,x.2.2.1.1,x.2.2.1.2.1)) h fun y0 h=>?_
 refine q8m ?_
 refine q24b hm hT hC (q1k7 (q1jw d) y0) h fun y1 h=>?_
 refine q24b hm hT hC (q1kb (q1jw d) y1) h fun y2 h=>?_
 refine q8q (v:=y2.2.1) (by kernel_rfl) h ?_ ?_
 ·
  intro h
  refine q24b hm hT hC (q1kf (q1jw d) y2) h fun y3 h=>?_
  refine q8l (q8a ?_)
  cases h
  exact (hend _ (by kernel_rfl)).2
 ·
  intro h
  refine q8i (q88 (q8m ?_))
  refine q24b hm hT hC (q1kj (q1jw d) y2) h fun y4 h=>?_
  refine q8q (v:=y4.1) (by kernel_rfl) h ?_ ?_
  ·
   intro h
   refine q24b hm hT hC (q1kl (q1jw d) y4) h fun y5 h=>?_
   refine q8l (q8a ?_)
   cases h
   exact (hend _ (by kernel_rfl)).2
  ·
   intro h
   refine q8i (q88 (q8m ?_))
   refine q24b hm hT hC (q1kp (q1jw d) y4) h fun y6 h=>?_
   refine q8q (v:=y6.1) (by kernel_rfl) h ?_ ?_
   ·
    intro h
    refine q24b hm hT hC (q1kr (q1jw d) y6) h fun y7 h=>?_
    refine q8l (q8a ?_)
    cases h
    exact (hend _ (by kernel_rfl)).2
   ·
    intro h
    refine q8i (q88 ?_)
    refine q24b hm hT hC (q1kv (q1jw d) y6) h fun y8 h=>?_
    refine q8m ?_
    refine q24b hm hT hC (q1kz (q1jw d) y8) h fun y9 h=>?_
    refine q8q (v:=y9.2.1) (by kernel_rfl) h ?_ ?_
    ·
     intro h
     refine q24b hm hT hC (q1l1 (q1jw d) y9) h fun y10 h=>?_
     refine q8l (q8a ?_)
     cases h
     exact (hend _ (by kernel_rfl)).2
    ·
     intro h
     refine q8i (q88 ?_)
     refine q24b hm hT hC (q1l5 (q1jw d) y9) h fun y11 h=>?_
     refine q8m ?_
     refine q24b hm hT hC (q1l9 (q1jw d) y11) h fun y12 h=>?_
     refine q8n ?_
     refine q8t (r:=r) (G:=iter (q1md d)) (S:=(fun x1=>⟨[(5,.ptr 0 0),(11,.rs 1),(13,.rs 2),(41,.rs 4),(42,i6 x1.1),(43,i6 x1.2.1)],[.cells [i6 x1.2.2.1,i6 x1.2.2.2.1],.rows Rii x1.2.2.2.2.1,.rowl Ri x1.2.2.2.2.2.1 (some 3),.rows Ri x1.2.2.2.2.2.2.1,.rows Ri x1.2.2.2.2.2.2.2]⟩:Int×Int×Int×Int×List Dii×List (List Di)×List Di×List Di→St)) d (fun _=>rfl) ?_ ?_
     ·
      intro n1 x1 h K1 hn1
      replace h:q1md d (iter (q1md d) n1) x1=some r:=h
      generalize hG1:iter (q1md d) n1=self1 at h
      unfold q1md at h
      refine q24b hm hT hC (q1lv (q1jw d) x1) h fun y13 h=>?_
      refine q8m ?_
      refine q8q (v:=y13.2.2.1) (by kernel_rfl) h ?_ ?_
      ·
       intro h
       refine q8i (q88 ?_)
       refine q8p (r:=r) (F:=q1m8 d self1) (S:=(fun z=>⟨[(5,.ptr 0 0),(11,.rs 1),(13,.rs 2),(41,.rs 4),(42,i6 z.1),(43,i6 z.2.1)],[.cells [i6 z.2.2.1,i6 z.2.2.2.1],.rows Rii z.2.2.2.2.1,.rowl Ri z.2.2.2.2.2.1 (some 3),.rows Ri z.2.2.2.2.2.2.1,.rows Ri z.2.2.2.2.2.2.2]⟩:Int×Int×Int×Int×List Dii×List (List Di)×List Di×List Di→St)) ?_ ?_
       ·
        intro z h
        unfold q1m8 at h
        refine q8r hm hT hC (q1m7 (q1jw d) z) h ?_
        intro y18 h
        exact hn1 _ ((congrFun hG1 _).trans h)
       intro hj3
       refine q8n ?_
       refine q24b hm hT hC (q1lz (q1jw d) y13) h fun y14 h=>?_
       refine q8m ?_
       refine q24b hm hT hC (q1m3 (q1jw d) y14) h fun y15 h=>?_
       refine q8q (v:=y15.2.2.2.1) (by kernel_rfl) h ?_ ?_
       ·
        intro h
        refine q24b hm hT hC (q1m5 (q1jw d) y15) h fun y16 h=>?_
        refine q8k (q89 (q8d ?_))
        exact hj3 _ h
       ·
        intro h
        refine q8i (q88 ?_)
        refine q8r hm hT hC (q1ma (q1jw d) y15) h ?_
        intro y17 h
        refine q8b ?_
        exact hj3 _ h
      ·
       intro h
       refine q8k (q89 (q89 (q8d (q88 ?_))))
       refine q24b hm hT hC (q1mc (q1jw d) y13) h fun y19 h=>?_
       refine q8l ?_
       cases h
       exact (hend _ (by kernel_rfl)).2
     ·
      intro K1 hn1
      refine q8m ?_
      refine q8r hm hT hC (q1ld (q1jw d) y12) h ?_
      intro y13p h
      refine q88 (q8m ?_)
      refine q8q (v:=y13p.2.2.1) (by kernel_rfl) h ?_ ?_
      ·
       intro h
       refine q8i (q88 ?_)
       refine q8p (r:=r) (F:=q1me d ) (S:=(fun z=>⟨[(5,.ptr 0 0),(11,.rs 1),(13,.rs 2),(41,.rs 4),(42,i6 z.1),(43,i6 z.2.1)],[.cells [i6 z.2.2.1,i6 z.2.2.2.1],.rows Rii z.2.2.2.2.1,.rowl Ri z.2.2.2.2.2.1 (some 3),.rows Ri z.2.2.2.2.2.2.1,.rows Ri z.2.2.2.2.2.2.2]⟩:Int×Int×Int×Int×List Dii×List (List Di)×List Di×List Di→St)) ?_ ?_
       ·
        intro z h
        unfold q1me at h
        refine q8r hm hT hC (q1lr (q1jw d) z) h ?_
        intro y18p h
        exact hn1 _ h
       intro hj2
       refine q8n (q8m ?_)
       refine q8r hm hT hC (q1lh (q1jw d) y13p) h ?_
       intro y14p h
       refine q88 (q8m (q8m ?_))
       refine q8r hm hT hC (q1ll (q1jw d) y14p) h ?_
       intro y15p h
       refine q88 ?_
       refine q8q (v:=y15p.2.2.2.1) (by kernel_rfl) h ?_ ?_
       ·
        intro h
        refine q8m ?_
        cases h
       ·
        intro h
        refine q8i (q88 ?_)
        refine q8r hm hT hC (q1lp (q1jw d) y15p) h ?_
        intro y17p h
        refine q8b ?_
        exact hj2 _ h
      ·
       intro h
       refine q8k (q89 (q89 (q8d (q88 (q8m ?_)))))
       refine q8r hm hT hC (q1mg (q1jw d) y13p) h ?_
       intro y19p h
       refine q88 (q8l ?_)
       cases h
       exact (hend _ (by kernel_rfl)).2
abbrev q1mj:List Pk:=[.row RLiE false,.row Ri false]
abbrev q1mk:Type:=DLiE×Di×Unit
abbrev q1ml:Type:=Int
def q1mm (r:q1ml):LV×List Ob:=(.int .i64 r,[])
def q1mn (F:q1mk→Option q1ml):Go.Tx.Spec:=⟨32,q1mj,q1ml,F,q1mm⟩
abbrev q1mo:Type:=Unit
def q1mp (_d:Nat):q1mo:=()
def q1mq (C:q1mo):List Go.Tx.Spec:=[]
abbrev q1mr:Type:=List Di×Int
def q1ms (v:q1mr):St:=⟨[(0,.fz Ri v.1),(1,i6 v.2)],[]⟩
def q1mt (C:q1mo) (v:q1mr):Dt q1mr:=(Dt.ret (v.1,v.2))
abbrev q250 {V Y:Type}:=@rg q1mo V Y tysT (fun C=>(orc (q1mq C))) 19
theorem q1mu C v:q250 (regO (qdk f32) 0) false [(0,(.val Ri)),(1,.any)] q1ms q1mt q1ms C v:=rgI (by kernel_rfl)
abbrev q1mv:Type:=List Di×Int×Int×Int
def q1mw (v:q1mv):St:=⟨[(0,.fz Ri v.1),(1,i6 v.2.1),(7,i6 v.2.2.1),(8,i6 v.2.2.2)],[]⟩
def q1mx (C:q1mo) (v:q1mr):Dt q1mv:=(Dt.ret (v.1,v.2,(List.length v.1:Int),(0:Int)))
theorem q1my C v:q250 (regO (qdk f32) 1) false [(0,(.val Ri)),(1,.any),(7,.any),(8,.any)] q1ms q1mx q1mw C v:=rgI (by kernel_rfl)
abbrev q1mz:Type:=List Di×Int×Int×Int×Bool
def q1n0 (v:q1mz):St:=⟨[(0,.fz Ri v.1),(1,i6 v.2.1),(7,i6 v.2.2.1),(8,i6 v.2.2.2.1),(9,.bool v.2.2.2.2)],[]⟩
def q1n1 (C:q1mo) (v:q1mv):Dt q1mz:=(Dt.ret (v.1,v.2.1,v.2.2.1,v.2.2.2,(decide (v.2.2.2<v.2.2.1))))
theorem q1n2 C v:q250 (regO (qdk f32) 2) false [(0,(.val Ri)),(1,.any),(7,.any),(8,.any),(9,.any)] q1mw q1n1 q1n0 C v:=rgI (by kernel_rfl)
abbrev q1n3:Type:=List Di×Int×Int×Int×Int
def q1n4 (v:q1n3):St:=⟨[(0,.fz Ri v.1),(1,i6 v.2.1),(5,i6 v.2.2.1),(7,i6 v.2.2.2.1),(8,i6 v.2.2.2.2)],[]⟩
def q1n5 (C:q1mo) (v:q1mz):Dt q1n3:=(Dt.ret (v.1,v.2.1,v.2.2.2.1,v.2.2.1,v.2.2.2.1))
theorem q1n6 C v:q250 (regO (qdk f32) 3) false [(0,(.val Ri)),(1,.any),(5,.any),(7,.any),(8,.any)] q1n0 q1n5 q1n4 C v:=rgI (by kernel_rfl)
abbrev q1n7:Type:=List Di×Int×Int×Int×Int×Bool
def q1n8 (v:q1n7):St:=⟨[(0,.fz Ri v.1),(1,i6 v.2.1),(5,i6 v.2.2.1),(7,i6 v.2.2.2.1),(8,i6 v.2.2.2.2.1),(16,.bool v.2.2.2.2.2)],[]⟩
def q1n9 (C:q1mo) (v:q1n3):Dt q1n7:=(Dt.ite (inB v.2.2.1 (List.length v.1)) (Dt.ret (v.1,v.2.1,v.2.2.1,v.2.2.2.1,v.2.2.2.2,(v.2.1 == (elt zi v.1 (v.2.2.1).toNat).1))) Dt.fail)
theorem q1na C v:q250 (regO (qdk f32) 4) false [(0,(.val Ri)),(1,.any),(5,.any),(7,.any),(8,.any),(16,.any)] q1n4 q1n9 q1n8 C v:=rgI (by kernel_rfl)
abbrev q1nb:Type:=Int
def q1nc (v:q1nb):St:=⟨[(4,i6 v)],[]⟩
def q1nd (C:q1mo) (v:q1n7):Dt q1nb:=(Dt.ret v.2.2.1)
theorem q1ne C v:q250 (regO (qdk f32) 5) false [(4,.any)] q1n8 q1nd q1nc C v:=rgI (by kernel_rfl)
def q1nf (C:q1mo) (v:q1n7):Dt q1mv:=(Dt.ret (v.1,v.2.1,v.2.2.2.1,(IntKind.wrap .i64 (v.2.2.2.2.1+(1:Int)))))
theorem q1ng C v:q250 (regO (qdk f32) 6) false [(0,(.val Ri)),(1,.any),(7,.any),(8,.any)] q1n8 q1nf q1mw C v:=rgI (by kernel_rfl)
def q1nh (C:q1mo) (v:q1mz):Dt q1nb:=(Dt.ret (-1:Int))
theorem q1ni C v:q250 (regO (qdk f32) 7) false [(4,.any)] q1n0 q1nh q1nc C v:=rgI (by kernel_rfl)
def q1nj (d:Nat) (self1:(List Di×Int×Int×Int)→Option q1ml) (x1:List Di×Int×Int×Int):Option q1ml :=
 (q1n1 (q1mp d) x1).eval fun y2 =>
 bif y2.2.2.2.2 then ((q1n5 (q1mp d) y2).eval fun y3 =>
 (q1n9 (q1mp d) y3).eval fun y4 =>
 bif y4.2.2.2.2.2 then ((q1nd (q1mp d) y4).eval fun y5 =>
 some y5) else ((q1nf (q1mp d) y4).eval fun y6 =>
 self1 y6)) else ((q1nh (q1mp d) y2).eval fun y7 =>
 some y7)
def q1nk (d:Nat) (x:q1mk):Option q1ml :=
 (q1mt (q1mp d) (x.1.1,x.2.1.1)).eval fun y0 =>
 (q1mx (q1mp d) y0).eval fun y1 =>
 iter (q1nj d ) d y1
theorem q1nl (d:Nat):COK prog (q1mn (q1nk d)):=by
 have hm:prog.follows .mixedOrders=true:=mixed
 have hT:=tys
 have hC0:OrcOK prog (orc (q1mq (q1mp d))):=qde (by
  intro S hS
  simp only [q1mq,List.mem_cons,List.not_mem_nil,or_false] at hS
  all_goals first | cases hS | exact hS.elim)
 have hC:OrcOK prog (orc (q1mq (q1mp d))):=hC0
 refine q93 (c:=qdk f32) (fn:=f32) hT (by kernel_rfl) (by kernel_rfl) (by decide) fun x r h w0 φ0 Q hend=>?_
 replace h:q1nk d x=some r:=h
 unfold q1nk at h
 show Run prog w0 φ0 19 (qdk f32) ⟨[(0,.fz Ri x.1.1),(1,.int .i64 x.2.1.1)],[]⟩ Q
 refine q24b hm hT hC (q1mu (q1mp d) (x.1.1,x.2.1.1)) h fun y0 h=>?_
 refine q8m ?_
 refine q24b hm hT hC (q1my (q1mp d) y0) h fun y1 h=>?_
 refine q8n ?_
 refine q8s (G:=iter (q1nj d )) (S:=(fun x1=>⟨[(0,.fz Ri x1.1),(1,i6 x1.2.1),(7,i6 x1.2.2.1),(8,i6 x1.2.2.2)],[]⟩:List Di×Int×Int×Int→St)) (fun _=>rfl) ?_ d _ h
 intro n1 x1 h K1 hn1
 replace h:q1nj d  (iter (q1nj d ) n1) x1=some r:=h
 generalize iter (q1nj d ) n1=self1 at h hn1
 unfold q1nj at h
 refine q24b hm hT hC (q1n2 (q1mp d) x1) h fun y2 h=>?_
 refine q8m ?_
 refine q8q (v:=y2.2.2.2.2) (by kernel_rfl) h ?_ ?_
 ·
  intro h
  refine q8i (q88 (q8m (q8n ?_)))
  refine q24b hm hT hC (q1n6 (q1mp d) y2) h fun y3 h=>?_
  refine q24b hm hT hC (q1na (q1mp d) y3) h fun y4 h=>?_
  refine q8q (v:=y4.2.2.2.2.2) (by kernel_rfl) h ?_ ?_
  ·
   intro h
   refine q24b hm hT hC (q1ne (q1mp d) y4) h fun y5 h=>?_
   refine q8l (q8c (q8a (q8a (q8c (q8a ?_)))))
   cases h
   exact (hend _ (by kernel_rfl)).2
  ·
   intro h
   refine q8i (q8b (q88 ?_))
   refine q8r hm hT hC (q1ng (q1mp d) y4) h ?_
   intro y6 h
   exact hn1 _ h
 ·
  intro h
  refine q8k (q89 (q89 (q8d (q88 ?_))))
  refine q24b hm hT hC (q1ni (q1mp d) y2) h fun y7 h=>?_
  refine q8l ?_
  cases h
  exact (hend _ (by kernel_rfl)).2
abbrev q1nm:List Pk:=[.row RLiE false,.row Ri false]
abbrev q1nn:Type:=DLiE×Di×Unit
abbrev q1no:Type:=Bool
def q1np (r:q1no):LV×List Ob:=(.bool r,[])
def q1nq (F:q1nn→Option q1no):Go.Tx.Spec:=⟨19,q1nm,q1no,F,q1np⟩
abbrev q1nr:Type:=(q1mk→Option q1ml)×Unit
def q1ns (d:Nat):q1nr:=(q1nk d,())
def q1nt (C:q1nr):List Go.Tx.Spec:=[q1mn C.1]
abbrev q1nu:Type:=List Di×Int
def q1nv (v:q1nu):St:=⟨[(0,.fz Ri v.1),(1,i6 v.2)],[]⟩
def q1nw (C:q1nr) (v:q1nu):Dt q1nu:=(Dt.ret (v.1,v.2))
abbrev q251 {V Y:Type}:=@rg q1nr V Y tysT (fun C=>(orc (q1nt C))) 9
theorem q1nx C v:q251 (regO (qdk f19) 0) false [(0,(.val Ri)),(1,.any)] q1nv q1nw q1nv C v:=rgI (by kernel_rfl)
abbrev q1ny:Type:=Bool
def q1nz (v:q1ny):St:=⟨[(4,.bool v)],[]⟩
def q1o0 (C:q1nr) (v:q1nu):Dt q1ny:=(Dt.bnd (C.1 ((v.1,()),(v.2,()),())) fun r1=>(Dt.ret (decide (r1≥(0:Int)))))
theorem q1o1 C v:q251 (regO (qdk f19) 1) false [(4,.any)] q1nv q1o0 q1nz C v:=rgI (by kernel_rfl)
def q1o2 (d:Nat) (x:q1nn):Option q1no :=
 (q1nw (q1ns d) (x.1.1,x.2.1.1)).eval fun y0 =>
 (q1o0 (q1ns d) y0).eval fun y1 =>
 some y1
theorem q1o3 (d:Nat):COK prog (q1nq (q1o2 d)):=by
 have hm:prog.follows .mixedOrders=true:=mixed
 have hT:=tys
 have hC0:OrcOK prog (orc (q1nt (q1ns d))):=qde (by
  intro S hS
  simp only [q1nt,List.mem_cons,List.not_mem_nil,or_false] at hS
  subst hS;exact q1nl d)
 have hC:OrcOK prog (orc (q1nt (q1ns d))):=hC0
 refine q93 (c:=qdk f19) (fn:=f19) hT (by kernel_rfl) (by kernel_rfl) (by decide) fun x r h w0 φ0 Q hend=>?_
 replace h:q1o2 d x=some r:=h
 unfold q1o2 at h
 show Run prog w0 φ0 9 (qdk f19) ⟨[(0,.fz Ri x.1.1),(1,.int .i64 x.2.1.1)],[]⟩ Q
 refine q24b hm hT hC (q1nx (q1ns d) (x.1.1,x.2.1.1)) h fun y0 h=>?_
 refine q24b hm hT hC (q1o1 (q1ns d) y0) h fun y1 h=>?_
 refine q8l ?_
 cases h
 exact (hend _ (by kernel_rfl)).2
abbrev q1o4:List Pk:=[.row RLiE false,.ref Ri]
abbrev q1o5:Type:=DLiE×Di×Unit
abbrev q1o6:Type:=Bool
def q1o7 (r:q1o6):LV×List Ob:=(.bool r,[])
def q1o8 (F:q1o5→Option q1o6):Go.Tx.Spec:=⟨18,q1o4,q1o6,F,q1o7⟩
abbrev q1o9:Type:=(q1nn→Option q1no)×Unit
def q1oa (d:Nat):q1o9:=(q1o2 d,())
def q1ob (C:q1o9):List Go.Tx.Spec:=[q1nq C.1]
abbrev q1oc:Type:=List Di×Di
def q1od (v:q1oc):St:=⟨[(0,.fz Ri v.1),(1,.fp Ri v.2 0)],[]⟩
def q1oe (C:q1o9) (v:q1oc):Dt q1oc:=(Dt.ret (v.1,v.2))
abbrev q252 {V Y:Type}:=@rg q1o9 V Y tysT (fun C=>(orc (q1ob C))) 7
theorem q1of C v:q252 (regO (qdk f18) 0) false [(0,(.val Ri)),(1,.any)] q1od q1oe q1od C v:=rgI (by kernel_rfl)
abbrev q1og:Type:=Bool
def q1oh (v:q1og):St:=⟨[(3,.bool v)],[]⟩
def q1oi (C:q1o9) (v:q1oc):Dt q1og:=(Dt.bnd (C.1 ((v.1,()),(v.2.1,()),())) fun r1=>(Dt.ret r1))
theorem q1oj C v:q252 (regO (qdk f18) 1) false [(3,.any)] q1od q1oi q1oh C v:=rgI (by kernel_rfl)
def q1ok (d:Nat) (x:q1o5):Option q1o6 :=
 (q1oe (q1oa d) (x.1.1,x.2.1)).eval fun y0 =>
 (q1oi (q1oa d) y0).eval fun y1 =>
 some y1
theorem q1ol (d:Nat):COK prog (q1o8 (q1ok d)):=by
 have hm:prog.follows .mixedOrders=true:=mixed
 have hT:=tys
 have hC0:OrcOK prog (orc (q1ob (q1oa d))):=qde (by
  intro S hS
  simp only [q1ob,List.mem_cons,List.not_mem_nil,or_false] at hS
  subst hS;exact q1o3 d)
 have hC:OrcOK prog (orc (q1ob (q1oa d))):=hC0
 refine q93 (c:=qdk f18) (fn:=f18) hT (by kernel_rfl) (by kernel_rfl) (by decide) fun x r h w0 φ0 Q hend=>?_
 replace h:q1ok d x=some r:=h
 unfold q1ok at h
 show Run prog w0 φ0 7 (qdk f18) ⟨[(0,.fz Ri x.1.1),(1,.fp Ri x.2.1 0)],[]⟩ Q
 refine q24b hm hT hC (q1of (q1oa d) (x.1.1,x.2.1)) h fun y0 h=>?_
 refine q24b hm hT hC (q1oj (q1oa d) y0) h fun y1 h=>?_
 refine q8l ?_
 cases h
 exact (hend _ (by kernel_rfl)).2
abbrev q1om:List Pk:=[.row qk4 false,.fn 18 [Ri]]
abbrev q1on:Type:=qk5×(Di×Unit)×Unit
abbrev q1oo:Type:=Int
def q1op (r:q1oo):LV×List Ob:=(.int .i64 r,[])
def q1oq (F:q1on→Option q1oo):Go.Tx.Spec:=⟨17,q1om,q1oo,F,q1op⟩
abbrev q1or:Type:=(q1o5→Option q1o6)×Unit
def q1os (d:Nat):q1or:=(q1ok d,())
def q1ot (C:q1or):List Go.Tx.Spec:=[q1o8 C.1]
abbrev q1ou:Type:=List DLiE×Di
def q1ov (v:q1ou):St:=⟨[(0,.fz RLiE v.1),(1,.fn 18 [.fp Ri v.2 0])],[]⟩
def q1ow (C:q1or) (v:q1ou):Dt q1ou:=(Dt.ret (v.1,v.2))
abbrev q253 {V Y:Type}:=@rg q1or V Y tysT (fun C=>(orc (q1ot C))) 19
theorem q1ox C v:q253 (regO (qdk f17) 0) false [(0,(.val RLiE)),(1,.any)] q1ov q1ow q1ov C v:=rgI (by kernel_rfl)
abbrev q1oy:Type:=List DLiE×Di×Int×Int
def q1oz (v:q1oy):St:=⟨[(0,.fz RLiE v.1),(1,.fn 18 [.fp Ri v.2.1 0]),(7,i6 v.2.2.1),(8,i6 v.2.2.2)],[]⟩
def q1p0 (C:q1or) (v:q1ou):Dt q1oy:=(Dt.ret (v.1,v.2,(List.length v.1:Int),(0:Int)))
theorem q1p1 C v:q253 (regO (qdk f17) 1) false [(0,(.val RLiE)),(1,.any),(7,.any),(8,.any)] q1ov q1p0 q1oz C v:=rgI (by kernel_rfl)
abbrev q1p2:Type:=List DLiE×Di×Int×Int×Bool
def q1p3 (v:q1p2):St:=⟨[(0,.fz RLiE v.1),(1,.fn 18 [.fp Ri v.2.1 0]),(7,i6 v.2.2.1),(8,i6 v.2.2.2.1),(9,.bool v.2.2.2.2)],[]⟩
def q1p4 (C:q1or) (v:q1oy):Dt q1p2:=(Dt.ret (v.1,v.2.1,v.2.2.1,v.2.2.2,(decide (v.2.2.2<v.2.2.1))))
theorem q1p5 C v:q253 (regO (qdk f17) 2) false [(0,(.val RLiE)),(1,.any),(7,.any),(8,.any),(9,.any)] q1oz q1p4 q1p3 C v:=rgI (by kernel_rfl)
abbrev q1p6:Type:=List DLiE×Di×Int×Int×Int
def q1p7 (v:q1p6):St:=⟨[(0,.fz RLiE v.1),(1,.fn 18 [.fp Ri v.2.1 0]),(5,i6 v.2.2.1),(7,i6 v.2.2.2.1),(8,i6 v.2.2.2.2)],[]⟩
def q1p8 (C:q1or) (v:q1p2):Dt q1p6:=(Dt.ret (v.1,v.2.1,v.2.2.2.1,v.2.2.1,v.2.2.2.1))
theorem q1p9 C v:q253 (regO (qdk f17) 3) false [(0,(.val RLiE)),(1,.any),(5,.any),(7,.any),(8,.any)] q1p3 q1p8 q1p7 C v:=rgI (by kernel_rfl)
abbrev q1pa:Type:=List DLiE×Di×Int×Int×Int×Bool
def q1pb (v:q1pa):St:=⟨[(0,.fz RLiE v.1),(1,.fn 18 [.fp Ri v.2.1 0]),(5,i6 v.2.2.1),(7,i6 v.2.2.2.1),(8,i6 v.2.2.2.2.1),(16,.bool v.2.2.2.2.2)],[]⟩
def q1pc (C:q1or) (v:q1p6):Dt q1pa:=(Dt.ite (inB v.2.2.1 (List.length v.1)) (Dt.bnd (C.1 (((elt zLiE v.1 (v.2.2.1).toNat).1,()),v.2.1,())) fun r1=>(Dt.ret (v.1,v.2.1,v.2.2.1,v.2.2.2.1,v.2.2.2.2,r1))) Dt.fail)
theorem q1pd C v:q253 (regO (qdk f17) 4) false [(0,(.val RLiE)),(1,.any),(5,.any),(7,.any),(8,.any),(16,.any)] q1p7 q1pc q1pb C v:=rgI (by kernel_rfl)
abbrev q1pe:Type:=Int
def q1pf (v:q1pe):St:=⟨[(4,i6 v)],[]⟩
def q1pg (C:q1or) (v:q1pa):Dt q1pe:=(Dt.ret v.2.2.1)
theorem q1ph C v:q253 (regO (qdk f17) 5) false [(4,.any)] q1pb q1pg q1pf C v:=rgI (by kernel_rfl)
def q1pi (C:q1or) (v:q1pa):Dt q1oy:=(Dt.ret (v.1,v.2.1,v.2.2.2.1,(IntKind.wrap .i64 (v.2.2.2.2.1+(1:Int)))))
theorem q1pj C v:q253 (regO (qdk f17) 6) false [(0,(.val RLiE)),(1,.any),(7,.any),(8,.any)] q1pb q1pi q1oz C v:=rgI (by kernel_rfl)
def q1pk (C:q1or) (v:q1p2):Dt q1pe:=(Dt.ret (-1:Int))
theorem q1pl C v:q253 (regO (qdk f17) 7) false [(4,.any)] q1p3 q1pk q1pf C v:=rgI (by kernel_rfl)
def q1pm (d:Nat) (self1:(List DLiE×Di×Int×Int)→Option q1oo) (x1:List DLiE×Di×Int×Int):Option q1oo :=
 (q1p4 (q1os d) x1).eval fun y2 =>
 bif y2.2.2.2.2 then ((q1p8 (q1os d) y2).eval fun y3 =>
 (q1pc (q1os d) y3).eval fun y4 =>
 bif y4.2.2.2.2.2 then ((q1pg (q1os d) y4).eval fun y5 =>
 some y5) else ((q1pi (q1os d) y4).eval fun y6 =>
 self1 y6)) else ((q1pk (q1os d) y2).eval fun y7 =>
 some y7)
def q1pn (d:Nat) (x:q1on):Option q1oo :=
 (q1ow (q1os d) (x.1.1,x.2.1.1)).eval fun y0 =>
 (q1p0 (q1os d) y0).eval fun y1 =>
 iter (q1pm d ) d y1
theorem q1po (d:Nat):COK prog (q1oq (q1pn d)):=by
 have hm:prog.follows .mixedOrders=true:=mixed
 have hT:=tys
 have hC0:OrcOK prog (orc (q1ot (q1os d))):=qde (by
  intro S hS
  simp only [q1ot,List.mem_cons,List.not_mem_nil,or_false] at hS
  subst hS;exact q1ol d)
 have hC:OrcOK prog (orc (q1ot (q1os d))):=hC0
 refine q93 (c:=qdk f17) (fn:=f17) hT (by kernel_rfl) (by kernel_rfl) (by decide) fun x r h w0 φ0 Q hend=>?_
 replace h:q1pn d x=some r:=h
 unfold q1pn at h
 show Run prog w0 φ0 19 (qdk f17) ⟨[(0,.fz RLiE x.1.1),(1,.fn 18 [.fp Ri x.2.1.1 0])],[]⟩ Q
 refine q24b hm hT hC (q1ox (q1os d) (x.1.1,x.2.1.1)) h fun y0 h=>?_
 refine q8m ?_
 refine q24b hm hT hC (q1p1 (q1os d) y0) h fun y1 h=>?_
 refine q8n ?_
 refine q8s (G:=iter (q1pm d )) (S:=(fun x1=>⟨[(0,.fz RLiE x1.1),(1,.fn 18 [.fp Ri x1.2.1 0]),(7,i6 x1.2.2.1),(8,i6 x1.2.2.2)],[]⟩:List DLiE×Di×Int×Int→St)) (fun _=>rfl) ?_ d _ h
 intro n1 x1 h K1 hn1
 replace h:q1pm d  (iter (q1pm d ) n1) x1=some r:=h
 generalize iter (q1pm d ) n1=self1 at h hn1
 unfold q1pm at h
 refine q24b hm hT hC (q1p5 (q1os d) x1) h fun y2 h=>?_
 refine q8m ?_
 refine q8q (v:=y2.2.2.2.2) (by kernel_rfl) h ?_ ?_
 ·
  intro h
  refine q8i (q88 (q8m (q8n ?_)))
  refine q24b hm hT hC (q1p9 (q1os d) y2) h fun y3 h=>?_
  refine q24b hm hT hC (q1pd (q1os d) y3) h fun y4 h=>?_
  refine q8q (v:=y4.2.2.2.2.2) (by kernel_rfl) h ?_ ?_
  ·
   intro h
   refine q24b hm hT hC (q1ph (q1os d) y4) h fun y5 h=>?_
   refine q8l (q8c (q8a (q8a (q8c (q8a ?_)))))
   cases h
   exact (hend _ (by kernel_rfl)).2
  ·
   intro h
   refine q8i (q8b (q88 ?_))
   refine q8r hm hT hC (q1pj (q1os d) y4) h ?_
   intro y6 h
   exact hn1 _ h
 ·
  intro h
  refine q8k (q89 (q89 (q8d (q88 ?_))))
  refine q24b hm hT hC (q1pl (q1os d) y2) h fun y7 h=>?_
  refine q8l ?_
  cases h
  exact (hend _ (by kernel_rfl)).2
abbrev q1pp:List Pk:=[.row RLiE false,.ref Ri]
abbrev q1pq:Type:=DLiE×Di×Unit
abbrev q1pr:Type:=Bool
def q1ps (r:q1pr):LV×List Ob:=(.bool r,[])
def q1pt (F:q1pq→Option q1pr):Go.Tx.Spec:=⟨20,q1pp,q1pr,F,q1ps⟩
abbrev q1pu:Type:=(q1nn→Option q1no)×Unit
def q1pv (d:Nat):q1pu:=(q1o2 d,())
def q1pw (C:q1pu):List Go.Tx.Spec:=[q1nq C.1]
abbrev q1px:Type:=List Di×Di
def q1py (v:q1px):St:=⟨[(0,.fz Ri v.1),(1,.fp Ri v.2 0)],[]⟩
def q1pz (C:q1pu) (v:q1px):Dt q1px:=(Dt.ret (v.1,v.2))
abbrev q254 {V Y:Type}:=@rg q1pu V Y tysT (fun C=>(orc (q1pw C))) 7
theorem q1q0 C v:q254 (regO (qdk f20) 0) false [(0,(.val Ri)),(1,.any)] q1py q1pz q1py C v:=rgI (by kernel_rfl)
abbrev q1q1:Type:=Bool
def q1q2 (v:q1q1):St:=⟨[(3,.bool v)],[]⟩
def q1q3 (C:q1pu) (v:q1px):Dt q1q1:=(Dt.bnd (C.1 ((v.1,()),(v.2.1,()),())) fun r1=>(Dt.ret r1))
theorem q1q4 C v:q254 (regO (qdk f20) 1) false [(3,.any)] q1py q1q3 q1q2 C v:=rgI (by kernel_rfl)
def q1q5 (d:Nat) (x:q1pq):Option q1pr :=
 (q1pz (q1pv d) (x.1.1,x.2.1)).eval fun y0 =>
 (q1q3 (q1pv d) y0).eval fun y1 =>
 some y1
theorem q1q6 (d:Nat):COK prog (q1pt (q1q5 d)):=by
 have hm:prog.follows .mixedOrders=true:=mixed
 have hT:=tys
 have hC0:OrcOK prog (orc (q1pw (q1pv d))):=qde (by
  intro S hS
  simp only [q1pw,List.mem_cons,List.not_mem_nil,or_false] at hS
  subst hS;exact q1o3 d)
 have hC:OrcOK prog (orc (q1pw (q1pv d))):=hC0
 refine q93 (c:=qdk f20) (fn:=f20) hT (by kernel_rfl) (by kernel_rfl) (by decide) fun x r h w0 φ0 Q hend=>?_
 replace h:q1q5 d x=some r:=h
 unfold q1q5 at h
 show Run prog w0 φ0 7 (qdk f20) ⟨[(0,.fz Ri x.1.1),(1,.fp Ri x.2.1 0)],[]⟩ Q
 refine q24b hm hT hC (q1q0 (q1pv d) (x.1.1,x.2.1)) h fun y0 h=>?_
 refine q24b hm hT hC (q1q4 (q1pv d) y0) h fun y1 h=>?_
 refine q8l ?_
 cases h
 exact (hend _ (by kernel_rfl)).2
abbrev q1q7:List Pk:=[.row qk4 false,.fn 20 [Ri]]
abbrev q1q8:Type:=qk5×(Di×Unit)×Unit
abbrev q1q9:Type:=Int
def q1qa (r:q1q9):LV×List Ob:=(.int .i64 r,[])
def q1qb (F:q1q8→Option q1q9):Go.Tx.Spec:=⟨17,q1q7,q1q9,F,q1qa⟩
abbrev q1qc:Type:=(q1pq→Option q1pr)×Unit
def q1qd (d:Nat):q1qc:=(q1q5 d,())
def q1qe (C:q1qc):List Go.Tx.Spec:=[q1pt C.1]
abbrev q1qf:Type:=List DLiE×Di
def q1qg (v:q1qf):St:=⟨[(0,.fz RLiE v.1),(1,.fn 20 [.fp Ri v.2 0])],[]⟩
def q1qh (C:q1qc) (v:q1qf):Dt q1qf:=(Dt.ret (v.1,v.2))
abbrev q255 {V Y:Type}:=@rg q1qc V Y tysT (fun C=>(orc (q1qe C))) 19
theorem q1qi C v:q255 (regO (qdk f17) 0) false [(0,(.val RLiE)),(1,.any)] q1qg q1qh q1qg C v:=rgI (by kernel_rfl)
abbrev q1qj:Type:=List DLiE×Di×Int×Int
def q1qk (v:q1qj):St:=⟨[(0,.fz RLiE v.1),(1,.fn 20 [.fp Ri v.2.1 0]),(7,i6 v.2.2.1),(8,i6 v.2.2.2)],[]⟩
def q1ql (C:q1qc) (v:q1qf):Dt q1qj:=(Dt.ret (v.1,v.2,(List.length v.1:Int),(0:Int)))
theorem q1qm C v:q255 (regO (qdk f17) 1) false [(0,(.val RLiE)),(1,.any),(7,.any),(8,.any)] q1qg q1ql q1qk C v:=rgI (by kernel_rfl)
abbrev q1qn:Type:=List DLiE×Di×Int×Int×Bool
def q1qo (v:q1qn):St:=⟨[(0,.fz RLiE v.1),(1,.fn 20 [.fp Ri v.2.1 0]),(7,i6 v.2.2.1),(8,i6 v.2.2.2.1),(9,.bool v.2.2.2.2)],[]⟩
def q1qp (C:q1qc) (v:q1qj):Dt q1qn:=(Dt.ret (v.1,v.2.1,v.2.2.1,v.2.2.2,(decide (v.2.2.2<v.2.2.1))))
theorem q1qq C v:q255 (regO (qdk f17) 2) false [(0,(.val RLiE)),(1,.any),(7,.any),(8,.any),(9,.any)] q1qk q1qp q1qo C v:=rgI (by kernel_rfl)
abbrev q1qr:Type:=List DLiE×Di×Int×Int×Int
def q1qs (v:q1qr):St:=⟨[(0,.fz RLiE v.1),(1,.fn 20 [.fp Ri v.2.1 0]),(5,i6 v.2.2.1),(7,i6 v.2.2.2.1),(8,i6 v.2.2.2.2)],[]⟩
def q1qt (C:q1qc) (v:q1qn):Dt q1qr:=(Dt.ret (v.1,v.2.1,v.2.2.2.1,v.2.2.1,v.2.2.2.1))
theorem q1qu C v:q255 (regO (qdk f17) 3) false [(0,(.val RLiE)),(1,.any),(5,.any),(7,.any),(8,.any)] q1qo q1qt q1qs C v:=rgI (by kernel_rfl)
abbrev q1qv:Type:=List DLiE×Di×Int×Int×Int×Bool
def q1qw (v:q1qv):St:=⟨[(0,.fz RLiE v.1),(1,.fn 20 [.fp Ri v.2.1 0]),(5,i6 v.2.2.1),(7,i6 v.2.2.2.1),(8,i6 v.2.2.2.2.1),(16,.bool v.2.2.2.2.2)],[]⟩
def q1qx (C:q1qc) (v:q1qr):Dt q1qv:=(Dt.ite (inB v.2.2.1 (List.length v.1)) (Dt.bnd (C.1 (((elt zLiE v.1 (v.2.2.1).toNat).1,()),v.2.1,())) fun r1=>(Dt.ret (v.1,v.2.1,v.2.2.1,v.2.2.2.1,v.2.2.2.2,r1))) Dt.fail)
theorem q1qy C v:q255 (regO (qdk f17) 4) false [(0,(.val RLiE)),(1,.any),(5,.any),(7,.any),(8,.any),(16,.any)] q1qs q1qx q1qw C v:=rgI (by kernel_rfl)
abbrev q1qz:Type:=Int
def q1r0 (v:q1qz):St:=⟨[(4,i6 v)],[]⟩
def q1r1 (C:q1qc) (v:q1qv):Dt q1qz:=(Dt.ret v.2.2.1)
theorem q1r2 C v:q255 (regO (qdk f17) 5) false [(4,.any)] q1qw q1r1 q1r0 C v:=rgI (by kernel_rfl)
def q1r3 (C:q1qc) (v:q1qv):Dt q1qj:=(Dt.ret (v.1,v.2.1,v.2.2.2.1,(IntKind.wrap .i64 (v.2.2.2.2.1+(1:Int)))))
theorem q1r4 C v:q255 (regO (qdk f17) 6) false [(0,(.val RLiE)),(1,.any),(7,.any),(8,.any)] q1qw q1r3 q1qk C v:=rgI (by kernel_rfl)
def q1r5 (C:q1qc) (v:q1qn):Dt q1qz:=(Dt.ret (-1:Int))
theorem q1r6 C v:q255 (regO (qdk f17) 7) false [(4,.any)] q1qo q1r5 q1r0 C v:=rgI (by kernel_rfl)
def q1r7 (d:Nat) (self1:(List DLiE×Di×Int×Int)→Option q1q9) (x1:List DLiE×Di×Int×Int):Option q1q9 :=
 (q1qp (q1qd d) x1).eval fun y2 =>
 bif y2.2.2.2.2 then ((q1qt (q1qd d) y2).eval fun y3 =>
 (q1qx (q1qd d) y3).eval fun y4 =>
 bif y4.2.2.2.2.2 then ((q1r1 (q1qd d) y4).eval fun y5 =>
 some y5) else ((q1r3 (q1qd d) y4).eval fun y6 =>
 self1 y6)) else ((q1r5 (q1qd d) y2).eval fun y7 =>
 some y7)
def q1r8 (d:Nat) (x:q1q8):Option q1q9 :=
 (q1qh (q1qd d) (x.1.1,x.2.1.1)).eval fun y0 =>
 (q1ql (q1qd d) y0).eval fun y1 =>
 iter (q1r7 d ) d y1
theorem q1r9 (d:Nat):COK prog (q1qb (q1r8 d)):=by
 have hm:prog.follows .mixedOrders=true:=mixed
 have hT:=tys
 have hC0:OrcOK prog (orc (q1qe (q1qd d))):=qde (by
  intro S hS
  simp only [q1qe,List.mem_cons,List.not_mem_nil,or_false] at hS
  subst hS;exact q1q6 d)
 have hC:OrcOK prog (orc (q1qe (q1qd d))):=hC0
 refine q93 (c:=qdk f17) (fn:=f17) hT (by kernel_rfl) (by kernel_rfl) (by decide) fun x r h w0 φ0 Q hend=>?_
 replace h:q1r8 d x=some r:=h
 unfold q1r8 at h
 show Run prog w0 φ0 19 (qdk f17) ⟨[(0,.fz RLiE x.1.1),(1,.fn 20 [.fp Ri x.2.1.1 0])],[]⟩ Q
 refine q24b hm hT hC (q1qi (q1qd d) (x.1.1,x.2.1.1)) h fun y0 h=>?_
 refine q8m ?_
 refine q24b hm hT hC (q1qm (q1qd d) y0) h fun y1 h=>?_
 refine q8n ?_
 refine q8s (G:=iter (q1r7 d )) (S:=(fun x1=>⟨[(0,.fz RLiE x1.1),(1,.fn 20 [.fp Ri x1.2.1 0]),(7,i6 x1.2.2.1),(8,i6 x1.2.2.2)],[]⟩:List DLiE×Di×Int×Int→St)) (fun _=>rfl) ?_ d _ h
 intro n1 x1 h K1 hn1
 replace h:q1r7 d  (iter (q1r7 d ) n1) x1=some r:=h
 generalize iter (q1r7 d ) n1=self1 at h hn1
 unfold q1r7 at h
 refine q24b hm hT hC (q1qq (q1qd d) x1) h fun y2 h=>?_
 refine q8m ?_
 refine q8q (v:=y2.2.2.2.2) (by kernel_rfl) h ?_ ?_
 ·
  intro h
  refine q8i (q88 (q8m (q8n ?_)))
  refine q24b hm hT hC (q1qu (q1qd d) y2) h fun y3 h=>?_
  refine q24b hm hT hC (q1qy (q1qd d) y3) h fun y4 h=>?_
  refine q8q (v:=y4.2.2.2.2.2) (by kernel_rfl) h ?_ ?_
  ·
   intro h
   refine q24b hm hT hC (q1r2 (q1qd d) y4) h fun y5 h=>?_
   refine q8l (q8c (q8a (q8a (q8c (q8a ?_)))))
   cases h
   exact (hend _ (by kernel_rfl)).2
  ·
   intro h
   refine q8i (q8b (q88 ?_))
   refine q8r hm hT hC (q1r4 (q1qd d) y4) h ?_
   intro y6 h
   exact hn1 _ h
 ·
  intro h
  refine q8k (q89 (q89 (q8d (q88 ?_))))
  refine q24b hm hT hC (q1r6 (q1qd d) y2) h fun y7 h=>?_
  refine q8l ?_
  cases h
  exact (hend _ (by kernel_rfl)).2
abbrev q1ra:List Pk:=[.row qjy true,.row Rii true,.row Rii true,.row Ri false,.row Ri false]
abbrev q1rb:Type:=qjz×Dii×Dii×Di×Di×Unit
abbrev q1rc:Type:=Bool×Int
def q1rd (r:q1rc):LV×List Ob:=(.tup [.bool r.1,.int .i64 r.2],[])
def q1re (F:q1rb→Option q1rc):Go.Tx.Spec:=⟨7,q1ra,q1rc,F,q1rd⟩
abbrev q1rf:Type:=(q1jr→Option q1js)×(q1on→Option q1oo)×(q1q8→Option q1q9)×Unit
def q1rg (d:Nat):q1rf:=(q1mh d,q1pn d,q1r8 d,())
def q1rh (C:q1rf):List Go.Tx.Spec:=[q1ju C.1,q1oq C.2.1,q1qb C.2.2.1]
abbrev q1ri:Type:=List Diii×Int×Int×Int×Int×Int×Int
def q1rj (v:q1ri):St:=⟨[(0,.agg [.fz Riii v.1]),(1,.agg [i6 v.2.1,i6 v.2.2.1]),(2,.agg [i6 v.2.2.2.1,i6 v.2.2.2.2.1]),(3,i6 v.2.2.2.2.2.1),(4,i6 v.2.2.2.2.2.2)],[]⟩
abbrev q1rk:Type:=List Diii×Int×Int×Int×Int×Int×Int
def q1rl (v:q1rk):St:=⟨[(5,.ptr 0 0),(6,.ptr 1 0),(7,.ptr 2 0),(8,.ptr 3 0),(9,.ptr 4 0)],[.cells [.fz Riii v.1],.cells [i6 v.2.1,i6 v.2.2.1],.cells [i6 v.2.2.2.1,i6 v.2.2.2.2.1],.cells [i6 v.2.2.2.2.2.1],.cells [i6 v.2.2.2.2.2.2]]⟩
def q1rm (C:q1rf) (v:q1ri):Dt q1rk:=(Dt.ret (v.1,v.2.1,v.2.2.1,v.2.2.2.1,v.2.2.2.2.1,v.2.2.2.2.2.1,v.2.2.2.2.2.2))
abbrev q256 {V Y:Type}:=@rg q1rf V Y tysT (fun C=>(orc (q1rh C))) 41
theorem q1rn C v:q256 (regO (qdk f7) 0) false [(5,(.box [.val Riii])),(6,.any),(7,.any),(8,.any),(9,.any)] q1rj q1rm q1rl C v:=rgI (by kernel_rfl)
abbrev q1ro:Type:=List DLiE×Int×Int×Int
def q1rp (v:q1ro):St:=⟨[(8,.ptr 0 0),(9,.ptr 1 0),(12,.fz RLiE v.1),(13,i6 v.2.1)],[.cells [i6 v.2.2.1],.cells [i6 v.2.2.2]]⟩
def q1rq (C:q1rf) (v:q1rk):Dt q1ro:=(Dt.bnd (C.1 ((v.1,()),(v.2.1,v.2.2.1,()),(v.2.2.2.1,v.2.2.2.2.1,()),())) fun r1=>(Dt.ret (r1.1,r1.2,v.2.2.2.2.2.1,v.2.2.2.2.2.2)))
theorem q1rr C v:q256 (regO (qdk f7) 1) false [(8,.any),(9,.any),(12,(.val RLiE)),(13,.any)] q1rl q1rq q1rp C v:=rgI (by kernel_rfl)
abbrev q1rs:Type:=List DLiE×Int×Bool×Int×Int
def q1rt (v:q1rs):St:=⟨[(8,.ptr 0 0),(9,.ptr 1 0),(12,.fz RLiE v.1),(13,i6 v.2.1),(24,.bool v.2.2.1)],[.cells [i6 v.2.2.2.1],.cells [i6 v.2.2.2.2]]⟩
def q1ru (C:q1rf) (v:q1ro):Dt q1rs:=(Dt.ret (v.1,v.2.1,(v.2.1 != (0:Int)),v.2.2.1,v.2.2.2))
theorem q1rv C v:q256 (regO (qdk f7) 2) false [(8,.any),(9,.any),(12,(.val RLiE)),(13,.any),(24,.any)] q1rp q1ru q1rt C v:=rgI (by kernel_rfl)
abbrev q1rw:Type:=Bool×Int
def q1rx (v:q1rw):St:=⟨[(10,.bool v.1),(11,i6 v.2)],[]⟩
def q1ry (C:q1rf) (v:q1rs):Dt q1rw:=(Dt.ret (false,v.2.1))
theorem q1rz C v:q256 (regO (qdk f7) 3) false (an [10,11]) q1rt q1ry q1rx C v:=rgI (by kernel_rfl)
abbrev q1s0:Type:=List DLiE×Int×Int
def q1s1 (v:q1s0):St:=⟨[(9,.ptr 0 0),(12,.fz RLiE v.1),(14,i6 v.2.1)],[.cells [i6 v.2.2]]⟩
def q1s2 (C:q1rf) (v:q1rs):Dt q1s0:=(Dt.bnd (C.2.1 ((v.1,()),((v.2.2.2.1,()),()),())) fun r1=>(Dt.ret (v.1,r1,v.2.2.2.2)))
theorem q1s3 C v:q256 (regO (qdk f7) 4) false [(9,.any),(12,(.val RLiE)),(14,.any)] q1rt q1s2 q1s1 C v:=rgI (by kernel_rfl)
abbrev q1s4:Type:=Int×Int
def q1s5 (v:q1s4):St:=⟨[(14,i6 v.1),(15,i6 v.2)],[]⟩
def q1s6 (C:q1rf) (v:q1s0):Dt q1s4:=(Dt.bnd (C.2.2.1 ((v.1,()),((v.2.2,()),()),())) fun r1=>(Dt.ret (v.2.1,r1)))
theorem q1s7 C v:q256 (regO (qdk f7) 5) false (an [14,15]) q1s1 q1s6 q1s5 C v:=rgI (by kernel_rfl)
abbrev q1s8:Type:=Int×Int×Bool
def q1s9 (v:q1s8):St:=⟨[(14,i6 v.1),(15,i6 v.2.1),(37,.bool v.2.2)],[]⟩
def q1sa (C:q1rf) (v:q1s4):Dt q1s8:=(Dt.ite (decide (v.1<(0:Int))) (Dt.ret (v.1,v.2,true)) (Dt.ret (v.1,v.2,(decide (v.2<(0:Int))))))
theorem q1sb C v:q256 (regO (qdk f7) 6) false (an [14,15,37]) q1s5 q1sa q1s9 C v:=rgI (by kernel_rfl)
def q1sc (C:q1rf) (v:q1s8):Dt q1rw:=(Dt.ret (false,(6:Int)))
theorem q1sd C v:q256 (regO (qdk f7) 7) false (an [10,11]) q1s9 q1sc q1rx C v:=rgI (by kernel_rfl)
def q1se (C:q1rf) (v:q1s8):Dt q1rw:=(Dt.ret ((v.1 == v.2.1),(0:Int)))
theorem q1sf C v:q256 (regO (qdk f7) 8) false (an [10,11]) q1s9 q1se q1rx C v:=rgI (by kernel_rfl)
def q1sg (d:Nat) (x:q1rb):Option q1rc :=
 (q1rm (q1rg d) (x.1.1,x.2.1.1,x.2.1.2.1,x.2.2.1.1,x.2.2.1.2.1,x.2.2.2.1.1,x.2.2.2.2.1.1)).eval fun y0 =>
 (q1rq (q1rg d) y0).eval fun y1 =>
 (q1ru (q1rg d) y1).eval fun y2 =>
 bif y2.2.2.1 then ((q1ry (q1rg d) y2).eval fun y3 =>
 some y3) else ((q1s2 (q1rg d) y2).eval fun y4 =>
 (q1s6 (q1rg d) y4).eval fun y5 =>
 (q1sa (q1rg d) y5).eval fun y6 =>
 bif y6.2.2 then ((q1sc (q1rg d) y6).eval fun y7 =>
 some y7) else ((q1se (q1rg d) y6).eval fun y8 =>
 some y8))
theorem q1sh (d:Nat):COK prog (q1re (q1sg d)):=by
 have hm:prog.follows .mixedOrders=true:=mixed
 have hT:=tys
 have hC0:OrcOK prog (orc (q1rh (q1rg d))):=qde (by
  intro S hS
  simp only [q1rh,List.mem_cons,List.not_mem_nil,or_false] at hS
  rcases hS with rfl | rfl | rfl
  · exact q1mi d
  · exact q1po d
  · exact q1r9 d)
 have hC:OrcOK prog (orc (q1rh (q1rg d))):=hC0
 refine q93 (c:=qdk f7) (fn:=f7) hT (by kernel_rfl) (by kernel_rfl) (by decide) fun x r h w0 φ0 Q hend=>?_
 replace h:q1sg d x=some r:=h
 unfold q1sg at h
 show Run prog w0 φ0 41 (qdk f7) ⟨[(0,.agg [.fz Riii x.1.1]),(1,.agg [.int .i64 x.2.1.1,.int .i64 x.2.1.2.1]),(2,.agg [.int .i64 x.2.2.1.1,.int .i64 x.2.2.1.2.1]),(3,.int .i64 x.2.2.2.1.1),(4,.int .i64 x.2.2.2.2.1.1)],[]⟩ Q
 refine q24b hm hT hC (q1rn (q1rg d) (x.1.1,x.2.1.1,x.2.1.2.1,x.2.2.1.1,x.2.2.1.2.1,x.2.2.2.1.1,x.2.2.2.2.1.1)) h fun y0 h=>?_
 refine q24b hm hT hC (q1rr (q1rg d) y0) h fun y1 h=>?_
 refine q8m ?_
 refine q24b hm hT hC (q1rv (q1rg d) y1) h fun y2 h=>?_
 refine q8q (v:=y2.2.2.1) (by kernel_rfl) h ?_ ?_
 ·
  intro h
  refine q24b hm hT hC (q1rz (q1rg d) y2) h fun y3 h=>?_
  refine q8l (q8a ?_)
  cases h
  exact (hend _ (by kernel_rfl)).2
 ·
  intro h
  refine q8i (q88 ?_)
  refine q24b hm hT hC (q1s3 (q1rg d) y2) h fun y4 h=>?_
  refine q24b hm hT hC (q1s7 (q1rg d) y4) h fun y5 h=>?_
  refine q8m ?_
  refine q24b hm hT hC (q1sb (q1rg d) y5) h fun y6 h=>?_
  refine q8q (v:=y6.2.2) (by kernel_rfl) h ?_ ?_
  ·
   intro h
   refine q24b hm hT hC (q1sd (q1rg d) y6) h fun y7 h=>?_
   refine q8l (q8a ?_)
   cases h
   exact (hend _ (by kernel_rfl)).2
  ·
   intro h
   refine q8i (q88 ?_)
   refine q24b hm hT hC (q1sf (q1rg d) y6) h fun y8 h=>?_
   refine q8l ?_
   cases h
   exact (hend _ (by kernel_rfl)).2
abbrev q1si:List Pk:=[.row qjy true,.row Rii true,.row Rii true]
abbrev q1sj:Type:=qjz×Dii×Dii×Unit
abbrev q1sk:Type:=List Di×Int
def q1sl (r:q1sk):LV×List Ob:=(.tup [.fz Ri r.1,.int .i64 r.2],[])
def q1sm (F:q1sj→Option q1sk):Go.Tx.Spec:=⟨9,q1si,q1sk,F,q1sl⟩
abbrev q1sn:Type:=(q1jr→Option q1js)×Unit
def q1so (d:Nat):q1sn:=(q1mh d,())
def q1sp (C:q1sn):List Go.Tx.Spec:=[q1ju C.1]
abbrev q1sq:Type:=List Diii×Int×Int×Int×Int
def q1sr (v:q1sq):St:=⟨[(0,.agg [.fz Riii v.1]),(1,.agg [i6 v.2.1,i6 v.2.2.1]),(2,.agg [i6 v.2.2.2.1,i6 v.2.2.2.2])],[]⟩
abbrev q1ss:Type:=List Diii×Int×Int×Int×Int
def q1st (v:q1ss):St:=⟨[(3,.ptr 0 0),(4,.ptr 1 0),(5,.ptr 2 0)],[.cells [.fz Riii v.1],.cells [i6 v.2.1,i6 v.2.2.1],.cells [i6 v.2.2.2.1,i6 v.2.2.2.2]]⟩
def q1su (C:q1sn) (v:q1sq):Dt q1ss:=(Dt.ret (v.1,v.2.1,v.2.2.1,v.2.2.2.1,v.2.2.2.2))
abbrev q257 {V Y:Type}:=@rg q1sn V Y tysT (fun C=>(orc (q1sp C))) 43
theorem q1sv C v:q257 (regO (qdk f9) 0) false [(3,(.box [.val Riii])),(4,.any),(5,.any)] q1sr q1su q1st C v:=rgI (by kernel_rfl)
abbrev q1sw:Type:=List DLiE×Int
def q1sx (v:q1sw):St:=⟨[(8,.fz RLiE v.1),(9,i6 v.2)],[]⟩
def q1sy (C:q1sn) (v:q1ss):Dt q1sw:=(Dt.bnd (C.1 ((v.1,()),(v.2.1,v.2.2.1,()),(v.2.2.2.1,v.2.2.2.2,()),())) fun r1=>(Dt.ret (r1.1,r1.2)))
theorem q1sz C v:q257 (regO (qdk f9) 1) false [(8,(.val RLiE)),(9,.any)] q1st q1sy q1sx C v:=rgI (by kernel_rfl)
abbrev q1t0:Type:=List DLiE×Int×Bool
def q1t1 (v:q1t0):St:=⟨[(8,.fz RLiE v.1),(9,i6 v.2.1),(21,.bool v.2.2)],[]⟩
def q1t2 (C:q1sn) (v:q1sw):Dt q1t0:=(Dt.ret (v.1,v.2,(v.2 != (0:Int))))
theorem q1t3 C v:q257 (regO (qdk f9) 2) false [(8,(.val RLiE)),(9,.any),(21,.any)] q1sx q1t2 q1t1 C v:=rgI (by kernel_rfl)
abbrev q1t4:Type:=List Di×Int
def q1t5 (v:q1t4):St:=⟨[(6,.fz Ri v.1),(7,i6 v.2)],[]⟩
def q1t6 (C:q1sn) (v:q1t0):Dt q1t4:=(Dt.ret (([]:List Di),v.2.1))
theorem q1t7 C v:q257 (regO (qdk f9) 3) false [(6,(.val Ri)),(7,.any)] q1t1 q1t6 q1t5 C v:=rgI (by kernel_rfl)
abbrev q1t8:Type:=List DLiE×Bool
def q1t9 (v:q1t8):St:=⟨[(8,.fz RLiE v.1),(25,.bool v.2)],[]⟩
def q1ta (C:q1sn) (v:q1t0):Dt q1t8:=(Dt.ret (v.1,((List.length v.1:Int) == (0:Int))))
theorem q1tb C v:q257 (regO (qdk f9) 4) false [(8,(.val RLiE)),(25,.any)] q1t1 q1ta q1t9 C v:=rgI (by kernel_rfl)
def q1tc (C:q1sn) (v:q1t8):Dt q1t4:=(Dt.ret (([]:List Di),(42:Int)))
theorem q1td C v:q257 (regO (qdk f9) 5) false [(6,(.val Ri)),(7,.any)] q1t9 q1tc q1t5 C v:=rgI (by kernel_rfl)
abbrev q1te:Type:=List DLiE×List Di
def q1tf (v:q1te):St:=⟨[(8,.fz RLiE v.1),(10,.fz Ri v.2)],[]⟩
def q1tg (C:q1sn) (v:q1t8):Dt q1te:=(Dt.ite (inB (0:Int) (List.length v.1)) (Dt.ret (v.1,(elt zLiE v.1 ((0:Int)).toNat).1)) Dt.fail)
theorem q1th C v:q257 (regO (qdk f9) 6) false [(8,(.val RLiE)),(10,(.val Ri))] q1t9 q1tg q1tf C v:=rgI (by kernel_rfl)
abbrev q1ti:Type:=List Di×List DLiE×Int×Int
def q1tj (v:q1ti):St:=⟨[(10,.fz Ri v.1),(29,.fz RLiE v.2.1),(30,i6 v.2.2.1),(31,i6 v.2.2.2)],[]⟩
def q1tk (C:q1sn) (v:q1te):Dt q1ti:=(Dt.ret (v.2,v.1,(List.length v.1:Int),(0:Int)))
theorem q1tl C v:q257 (regO (qdk f9) 7) false [(10,(.val Ri)),(29,(.val RLiE)),(30,.any),(31,.any)] q1tf q1tk q1tj C v:=rgI (by kernel_rfl)
abbrev q1tm:Type:=List Di×List DLiE×Int×Int×Bool
def q1tn (v:q1tm):St:=⟨[(10,.fz Ri v.1),(29,.fz RLiE v.2.1),(30,i6 v.2.2.1),(31,i6 v.2.2.2.1),(32,.bool v.2.2.2.2)],[]⟩
def q1to (C:q1sn) (v:q1ti):Dt q1tm:=(Dt.ret (v.1,v.2.1,v.2.2.1,v.2.2.2,(decide (v.2.2.2<v.2.2.1))))
theorem q1tp C v:q257 (regO (qdk f9) 8) false [(10,(.val Ri)),(29,(.val RLiE)),(30,.any),(31,.any),(32,.any)] q1tj q1to q1tn C v:=rgI (by kernel_rfl)
abbrev q1tq:Type:=List Di×List Di×List DLiE×Int×Int
def q1tr (v:q1tq):St:=⟨[(10,.fz Ri v.1),(12,.fz Ri v.2.1),(29,.fz RLiE v.2.2.1),(30,i6 v.2.2.2.1),(31,i6 v.2.2.2.2)],[]⟩
def q1ts (C:q1sn) (v:q1tm):Dt q1tq:=(Dt.ite (inB v.2.2.2.1 (List.length v.2.1)) (Dt.ret (v.1,(elt zLiE v.2.1 (v.2.2.2.1).toNat).1,v.2.1,v.2.2.1,v.2.2.2.1)) Dt.fail)
theorem q1tt C v:q257 (regO (qdk f9) 9) false [(10,(.val Ri)),(12,(.val Ri)),(29,(.val RLiE)),(30,.any),(31,.any)] q1tn q1ts q1tr C v:=rgI (by kernel_rfl)
abbrev q1tu:Type:=List Di×List Di×List DLiE×Int×Int×Bool
def q1tv (v:q1tu):St:=⟨[(10,.fz Ri v.1),(12,.fz Ri v.2.1),(29,.fz RLiE v.2.2.1),(30,i6 v.2.2.2.1),(31,i6 v.2.2.2.2.1),(39,.bool v.2.2.2.2.2)],[]⟩
def q1tw (C:q1sn) (v:q1tq):Dt q1tu:=(Dt.ret (v.1,v.2.1,v.2.2.1,v.2.2.2.1,v.2.2.2.2,(decide ((List.length v.2.1:Int) > (List.length v.1:Int)))))
theorem q1tx C v:q257 (regO (qdk f9) 10) false [(10,(.val Ri)),(12,(.val Ri)),(29,(.val RLiE)),(30,.any),(31,.any),(39,.any)] q1tr q1tw q1tv C v:=rgI (by kernel_rfl)
def q1ty (C:q1sn) (v:q1tu):Dt q1ti:=(Dt.ret (v.2.1,v.2.2.1,v.2.2.2.1,v.2.2.2.2.1))
theorem q1tz C v:q257 (regO (qdk f9) 11) false [(10,(.val Ri)),(29,(.val RLiE)),(30,.any),(31,.any)] q1tv q1ty q1tj C v:=rgI (by kernel_rfl)
def q1u0 (C:q1sn) (v:q1ti):Dt q1ti:=(Dt.ret (v.1,v.2.1,v.2.2.1,(IntKind.wrap .i64 (v.2.2.2+(1:Int)))))
theorem q1u1 C v:q257 (regO (qdk f9) 12) false [(10,(.val Ri)),(29,(.val RLiE)),(30,.any),(31,.any)] q1tj q1u0 q1tj C v:=rgI (by kernel_rfl)
def q1u2  (d:Nat) (self1:(List Di×List DLiE×Int×Int)→Option q1sk) (z:List Di×List DLiE×Int×Int):Option (q1sk) :=
 (q1u0 (q1so d) z).eval fun y12 =>
 self1 y12
def q1u3 (C:q1sn) (v:q1tm):Dt q1t4:=(Dt.ret (v.1,(0:Int)))
theorem q1u4 C v:q257 (regO (qdk f9) 13) false [(6,(.val Ri)),(7,.any)] q1tn q1u3 q1t5 C v:=rgI (by kernel_rfl)
def q1u5 (d:Nat) (self1:(List Di×List DLiE×Int×Int)→Option q1sk) (x1:List Di×List DLiE×Int×Int):Option q1sk :=
 (q1to (q1so d) x1).eval fun y8 =>
 bif y8.2.2.2.2 then ((q1ts (q1so d) y8).eval fun y9 =>
 (q1tw (q1so d) y9).eval fun y10 =>
 bif y10.2.2.2.2.2 then ((q1ty (q1so d) y10).eval fun y11 =>
 q1u2 d self1 y11) else (q1u2 d self1 (y10.1,y10.2.2.1,y10.2.2.2.1,y10.2.2.2.2.1))) else ((q1u3 (q1so d) y8).eval fun y13 =>
 some y13)
def q1u6 (d:Nat) (x:q1sj):Option q1sk :=
 (q1su (q1so d) (x.1.1,x.2.1.1,x.2.1.2.1,x.2.2.1.1,x.2.2.1.2.1)).eval fun y0 =>
 (q1sy (q1so d) y0).eval fun y1 =>
 (q1t2 (q1so d) y1).eval fun y2 =>
 bif y2.2.2 then ((q1t6 (q1so d) y2).eval fun y3 =>
 some y3) else ((q1ta (q1so d) y2).eval fun y4 =>
 bif y4.2 then ((q1tc (q1so d) y4).eval fun y5 =>
 some y5) else ((q1tg (q1so d) y4).eval fun y6 =>
 (q1tk (q1so d) y6).eval fun y7 =>
 iter (q1u5 d ) d y7))
theorem q1u7 (d:Nat):COK prog (q1sm (q1u6 d)):=by
 have hm:prog.follows .mixedOrders=true:=mixed
 have hT:=tys
 have hC0:OrcOK prog (orc (q1sp (q1so d))):=qde (by
  intro S hS
  simp only [q1sp,List.mem_cons,List.not_mem_nil,or_false] at hS
  subst hS;exact q1mi d)
 have hC:OrcOK prog (orc (q1sp (q1so d))):=hC0
 refine q93 (c:=qdk f9) (fn:=f9) hT (by kernel_rfl) (by kernel_rfl) (by decide) fun x r h w0 φ0 Q hend=>?_
 replace h:q1u6 d x=some r:=h
 unfold q1u6 at h
 show Run prog w0 φ0 43 (qdk f9) ⟨[(0,.agg [.fz Riii x.1.1]),(1,.agg [.int .i64 x.2.1.1,.int .i64 x.2.1.2.1]),(2,.agg [.int .i64 x.2.2.1.1,.int .i64 x.2.2.1.2.1])],[]⟩ Q
 refine q24b hm hT hC (q1sv (q1so d) (x.1.1,x.2.1.1,x.2.1.2.1,x.2.2.1.1,x.2.2.1.2.1)) h fun y0 h=>?_
 refine q24b hm hT hC (q1sz (q1so d) y0) h fun y1 h=>?_
 refine q8m ?_
 refine q24b hm hT hC (q1t3 (q1so d) y1) h fun y2 h=>?_
 refine q8q (v:=y2.2.2) (by kernel_rfl) h ?_ ?_
 ·
  intro h
  refine q24b hm hT hC (q1t7 (q1so d) y2) h fun y3 h=>?_
  refine q8l (q8a ?_)
  cases h
  exact (hend _ (by kernel_rfl)).2
 ·
  intro h
  refine q8i (q88 (q8m ?_))
  refine q24b hm hT hC (q1tb (q1so d) y2) h fun y4 h=>?_
  refine q8q (v:=y4.2) (by kernel_rfl) h ?_ ?_
  ·
   intro h
   refine q24b hm hT hC (q1td (q1so d) y4) h fun y5 h=>?_
   refine q8l (q8a ?_)
   cases h
   exact (hend _ (by kernel_rfl)).2
  ·
   intro h
   refine q8i (q88 ?_)
   refine q24b hm hT hC (q1th (q1so d) y4) h fun y6 h=>?_
   refine q8m ?_
   refine q24b hm hT hC (q1tl (q1so d) y6) h fun y7 h=>?_
   refine q8n ?_
   refine q8s (G:=iter (q1u5 d )) (S:=(fun x1=>⟨[(10,.fz Ri x1.1),(29,.fz RLiE x1.2.1),(30,i6 x1.2.2.1),(31,i6 x1.2.2.2)],[]⟩:List Di×List DLiE×Int×Int→St)) (fun _=>rfl) ?_ d _ h
   intro n1 x1 h K1 hn1
   replace h:q1u5 d  (iter (q1u5 d ) n1) x1=some r:=h
   generalize iter (q1u5 d ) n1=self1 at h hn1
   unfold q1u5 at h
   refine q24b hm hT hC (q1tp (q1so d) x1) h fun y8 h=>?_
   refine q8m ?_
   refine q8q (v:=y8.2.2.2.2) (by kernel_rfl) h ?_ ?_
   ·
    intro h
    refine q8i (q88 ?_)
    refine q8p (r:=r) (F:=q1u2 d self1) (S:=(fun z=>⟨[(10,.fz Ri z.1),(29,.fz RLiE z.2.1),(30,i6 z.2.2.1),(31,i6 z.2.2.2)],[]⟩:List Di×List DLiE×Int×Int→St)) ?_ ?_
    ·
     intro z h
     unfold q1u2 at h
     refine q8r hm hT hC (q1u1 (q1so d) z) h ?_
     intro y12 h
     exact hn1 _ h
    intro hj2
    refine q8n ?_
    refine q24b hm hT hC (q1tt (q1so d) y8) h fun y9 h=>?_
    refine q24b hm hT hC (q1tx (q1so d) y9) h fun y10 h=>?_
    refine q8q (v:=y10.2.2.2.2.2) (by kernel_rfl) h ?_ ?_
    ·
     intro h
     refine q8r hm hT hC (q1tz (q1so d) y10) h ?_
     intro y11 h
     refine q8b ?_
     exact hj2 _ h
    ·
     intro h
     refine q8i (q8b ?_)
     refine qdj (s:=⟨[(10,.fz Ri y10.1),(29,.fz RLiE y10.2.2.1),(30,.int .i64 y10.2.2.2.1),(31,.int .i64 y10.2.2.2.2.1)],[]⟩) [12,39] (by kernel_rfl) ?_
     exact hj2 _ h
   ·
    intro h
    refine q8k (q89 (q89 (q8d (q88 ?_))))
    refine q24b hm hT hC (q1u4 (q1so d) y8) h fun y13 h=>?_
    refine q8l ?_
    cases h
    exact (hend _ (by kernel_rfl)).2
abbrev q1u8:List Pk:=[.row Rii true,.row Rii true]
abbrev q1u9:Type:=Dii×Dii×Unit
abbrev q1ua:Type:=Int
def q1ub (r:q1ua):LV×List Ob:=(.int .i64 r,[])
def q1uc (F:q1u9→Option q1ua):Go.Tx.Spec:=⟨22,q1u8,q1ua,F,q1ub⟩
abbrev q1ud:Type:=(qzr→Option qzs)×Unit
def q1ue (d:Nat):q1ud:=(q111 d,())
def q1uf (C:q1ud):List Go.Tx.Spec:=[qzu C.1]
abbrev q1ug:Type:=Int×Int×Int×Int
def q1uh (v:q1ug):St:=⟨[(0,.agg [i6 v.1,i6 v.2.1]),(1,.agg [i6 v.2.2.1,i6 v.2.2.2])],[]⟩
abbrev q1ui:Type:=Int×Int×Int×Int
def q1uj (v:q1ui):St:=⟨[(2,.ptr 0 0),(3,.ptr 1 0)],[.cells [i6 v.1,i6 v.2.1],.cells [i6 v.2.2.1,i6 v.2.2.2]]⟩
def q1uk (C:q1ud) (v:q1ug):Dt q1ui:=(Dt.ret (v.1,v.2.1,v.2.2.1,v.2.2.2))
abbrev q258 {V Y:Type}:=@rg q1ud V Y tysT (fun C=>(orc (q1uf C))) 14
theorem q1ul C v:q258 (regO (qdk f22) 0) false (an [2,3]) q1uh q1uk q1uj C v:=rgI (by kernel_rfl)
abbrev q1um:Type:=Int
def q1un (v:q1um):St:=⟨[(5,i6 v)],[]⟩
def q1uo (C:q1ud) (v:q1ui):Dt q1um:=(Dt.bnd (C.1 ((v.2.2.1,v.2.2.2,()),(v.1,v.2.1,()),())) fun r1=>(Dt.ret r1.1))
theorem q1up C v:q258 (regO (qdk f22) 1) false [(5,.any)] q1uj q1uo q1un C v:=rgI (by kernel_rfl)
abbrev q1uq:Type:=Int
def q1ur (v:q1uq):St:=⟨[(4,i6 v)],[]⟩
def q1us (C:q1ud) (v:q1um):Dt q1uq:=(Dt.ret v)
theorem q1ut C v:q258 (regO (qdk f22) 2) false [(4,.any)] q1un q1us q1ur C v:=rgI (by kernel_rfl)
def q1uu (d:Nat) (x:q1u9):Option q1ua :=
 (q1uk (q1ue d) (x.1.1,x.1.2.1,x.2.1.1,x.2.1.2.1)).eval fun y0 =>
 (q1uo (q1ue d) y0).eval fun y1 =>
 (q1us (q1ue d) y1).eval fun y2 =>
 some y2
theorem q1uv (d:Nat):COK prog (q1uc (q1uu d)):=by
 have hm:prog.follows .mixedOrders=true:=mixed
 have hT:=tys
 have hC0:OrcOK prog (orc (q1uf (q1ue d))):=qde (by
  intro S hS
  simp only [q1uf,List.mem_cons,List.not_mem_nil,or_false] at hS
  subst hS;exact q112 d)
 have hC:OrcOK prog (orc (q1uf (q1ue d))):=hC0
 refine q93 (c:=qdk f22) (fn:=f22) hT (by kernel_rfl) (by kernel_rfl) (by decide) fun x r h w0 φ0 Q hend=>?_
 replace h:q1uu d x=some r:=h
 unfold q1uu at h
 show Run prog w0 φ0 14 (qdk f22) ⟨[(0,.agg [.int .i64 x.1.1,.int .i64 x.1.2.1]),(1,.agg [.int .i64 x.2.1.1,.int .i64 x.2.1.2.1])],[]⟩ Q
 refine q24b hm hT hC (q1ul (q1ue d) (x.1.1,x.1.2.1,x.2.1.1,x.2.1.2.1)) h fun y0 h=>?_
 refine q24b hm hT hC (q1up (q1ue d) y0) h fun y1 h=>?_
 refine q24b hm hT hC (q1ut (q1ue d) y1) h fun y2 h=>?_
 refine q8l ?_
 cases h
 exact (hend _ (by kernel_rfl)).2
abbrev q1uw:List Pk:=[.row qjy true,.row Rii true,.row Ri false]
abbrev q1ux:Type:=qjz×Dii×Di×Unit
abbrev q1uy:Type:=Int×Int×Int
def q1uz (r:q1uy):LV×List Ob:=(.tup [.agg [.int .i64 r.1,.int .i64 r.2.1],.int .i64 r.2.2],[])
def q1v0 (F:q1ux→Option q1uy):Go.Tx.Spec:=⟨10,q1uw,q1uy,F,q1uz⟩
abbrev q1v1:Type:=(q1fz→Option q1g0)×(q1u9→Option q1ua)×Unit
def q1v2 (d:Nat):q1v1:=(q1ic d,q1uu d,())
def q1v3 (C:q1v1):List Go.Tx.Spec:=[q1g2 C.1,q1uc C.2.1]
abbrev q1v4:Type:=List Diii×Int×Int×Int
def q1v5 (v:q1v4):St:=⟨[(0,.agg [.fz Riii v.1]),(1,.agg [i6 v.2.1,i6 v.2.2.1]),(2,i6 v.2.2.2)],[]⟩
abbrev q1v6:Type:=Int×List Diii×Int×Int×Int×Int
def q1v7 (v:q1v6):St:=⟨[(2,i6 v.1),(3,.ptr 0 0),(4,.ptr 1 0),(6,.ptr 2 0)],[.cells [.fz Riii v.2.1],.cells [i6 v.2.2.1,i6 v.2.2.2.1],.cells [i6 v.2.2.2.2.1,i6 v.2.2.2.2.2]]⟩
def q1v8 (C:q1v1) (v:q1v4):Dt q1v6:=(Dt.ret (v.2.2.2,v.1,v.2.1,v.2.2.1,(0:Int),(0:Int)))
abbrev q259 {V Y:Type}:=@rg q1v1 V Y tysT (fun C=>(orcS 21 22 Rii C.2.1 (orc (q1v3 C)))) 37
theorem q1v9 C v:q259 (regO (qdk f10) 0) false [(2,.any),(3,(.box [.val Riii])),(4,.any),(6,.any)] q1v5 q1v8 q1v7 C v:=rgI (by kernel_rfl)
abbrev q1va:Type:=Int×Int×Int×Int×List Dii
def q1vb (v:q1va):St:=⟨[(2,i6 v.1),(6,.ptr 0 0),(9,.rs 1),(10,i6 v.2.1)],[.cells [i6 v.2.2.1,i6 v.2.2.2.1],.rows Rii v.2.2.2.2]⟩
def q1vc (C:q1v1) (v:q1v6):Dt q1va:=(Dt.bnd (C.1 ((v.2.1,()),(v.2.2.1,v.2.2.2.1,()),())) fun r1=>(Dt.ret (v.1,r1.2.2,v.2.2.2.2.1,v.2.2.2.2.2,r1.2.1)))
theorem q1vd C v:q259 (regO (qdk f10) 1) false [(2,.any),(6,.any),(9,(.own Rii)),(10,.any)] q1v7 q1vc q1vb C v:=rgI (by kernel_rfl)
abbrev q1ve:Type:=Int×Int×Bool×Int×Int×List Dii
def q1vf (v:q1ve):St:=⟨[(2,i6 v.1),(6,.ptr 0 0),(9,.rs 1),(10,i6 v.2.1),(19,.bool v.2.2.1)],[.cells [i6 v.2.2.2.1,i6 v.2.2.2.2.1],.rows Rii v.2.2.2.2.2]⟩
def q1vg (C:q1v1) (v:q1va):Dt q1ve:=(Dt.ret (v.1,v.2.1,(v.2.1 != (0:Int)),v.2.2.1,v.2.2.2.1,v.2.2.2.2))
theorem q1vh C v:q259 (regO (qdk f10) 2) false [(2,.any),(6,.any),(9,(.own Rii)),(10,.any),(19,.any)] q1vb q1vg q1vf C v:=rgI (by kernel_rfl)
abbrev q1vi:Type:=Int×Int×Int
def q1vj (v:q1vi):St:=⟨[(6,.ptr 0 0),(7,i6 v.1)],[.cells [i6 v.2.1,i6 v.2.2]]⟩
def q1vk (C:q1v1) (v:q1ve):Dt q1vi:=(Dt.ret (v.2.1,(0:Int),(0:Int)))
theorem q1vl C v:q259 (regO (qdk f10) 3) false (an [6,7]) q1vf q1vk q1vj C v:=rgI (by kernel_rfl)
abbrev q1vm:Type:=Int×Bool×Int×Int×List Dii
def q1vn (v:q1vm):St:=⟨[(2,i6 v.1),(6,.ptr 0 0),(9,.rs 1),(23,.bool v.2.1)],[.cells [i6 v.2.2.1,i6 v.2.2.2.1],.rows Rii v.2.2.2.2]⟩
def q1vo (C:q1v1) (v:q1ve):Dt q1vm:=(Dt.ret (v.1,(decide (v.1<(1:Int))),v.2.2.2.1,v.2.2.2.2.1,v.2.2.2.2.2))
theorem q1vp C v:q259 (regO (qdk f10) 4) false [(2,.any),(6,.any),(9,(.own Rii)),(23,.any)] q1vf q1vo q1vn C v:=rgI (by kernel_rfl)
def q1vq (C:q1v1) (v:q1vm):Dt q1vi:=(Dt.ret ((2:Int),(0:Int),(0:Int)))
theorem q1vr C v:q259 (regO (qdk f10) 5) false (an [6,7]) q1vn q1vq q1vj C v:=rgI (by kernel_rfl)
abbrev q1vs:Type:=Int×Int×Int×List Dii
def q1vt (v:q1vs):St:=⟨[(2,i6 v.1),(6,.ptr 0 0),(9,.rs 1)],[.cells [i6 v.2.1,i6 v.2.2.1],.rows Rii v.2.2.2]⟩
def q1vu (C:q1v1) (v:q1vm):Dt q1vs:=(Dt.bnd (qr1 (τ:=Rii) C.2.1 v.2.2.2.2) fun r1=>(Dt.ret (v.1,v.2.2.1,v.2.2.2.1,r1)))
theorem q1vv C v:q259 (regO (qdk f10) 6) false [(2,.any),(6,.any),(9,(.own Rii))] q1vn q1vu q1vt C v:=rgI (by kernel_rfl)
abbrev q1vw:Type:=Int×Bool×Int×Int×List Dii
def q1vx (v:q1vw):St:=⟨[(2,i6 v.1),(6,.ptr 0 0),(9,.rs 1),(30,.bool v.2.1)],[.cells [i6 v.2.2.1,i6 v.2.2.2.1],.rows Rii v.2.2.2.2]⟩
def q1vy (C:q1v1) (v:q1vs):Dt q1vw:=(Dt.ret (v.1,(decide (v.1 > (List.length v.2.2.2:Int))),v.2.1,v.2.2.1,v.2.2.2))
theorem q1vz C v:q259 (regO (qdk f10) 7) false [(2,.any),(6,.any),(9,(.own Rii)),(30,.any)] q1vt q1vy q1vx C v:=rgI (by kernel_rfl)
def q1w0 (C:q1v1) (v:q1vw):Dt q1vi:=(Dt.ret ((0:Int),(0:Int),(1:Int)))
theorem q1w1 C v:q259 (regO (qdk f10) 8) false (an [6,7]) q1vx q1w0 q1vj C v:=rgI (by kernel_rfl)
def q1w2 (C:q1v1) (v:q1vw):Dt q1vi:=(Dt.ite (inB (IntKind.wrap .i64 (v.1 - (1:Int))) (List.length v.2.2.2.2)) (Dt.ret ((0:Int),(elt zii v.2.2.2.2 ((IntKind.wrap .i64 (v.1 - (1:Int)))).toNat).1,(elt zii v.2.2.2.2 ((IntKind.wrap .i64 (v.1 - (1:Int)))).toNat).2.1)) Dt.fail)
theorem q1w3 C v:q259 (regO (qdk f10) 9) false (an [6,7]) q1vx q1w2 q1vj C v:=rgI (by kernel_rfl)
def q1w4 (d:Nat) (x:q1ux):Option q1uy :=
 (q1v8 (q1v2 d) (x.1.1,x.2.1.1,x.2.1.2.1,x.2.2.1.1)).eval fun y0 =>
 (q1vc (q1v2 d) y0).eval fun y1 =>
 (q1vg (q1v2 d) y1).eval fun y2 =>
 bif y2.2.2.1 then ((q1vk (q1v2 d) y2).eval fun y3 =>
 some (y3.2.1,y3.2.2,y3.1)) else ((q1vo (q1v2 d) y2).eval fun y4 =>
 bif y4.2.1 then ((q1vq (q1v2 d) y4).eval fun y5 =>
 some (y5.2.1,y5.2.2,y5.1)) else ((q1vu (q1v2 d) y4).eval fun y6 =>
 (q1vy (q1v2 d) y6).eval fun y7 =>
 bif y7.2.1 then ((q1w0 (q1v2 d) y7).eval fun y8 =>
 some (y8.2.1,y8.2.2,y8.1)) else ((q1w2 (q1v2 d) y7).eval fun y9 =>
 some (y9.2.1,y9.2.2,y9.1))))
theorem q1w5 (d:Nat):COK prog (q1v0 (q1w4 d)):=by
 have hm:prog.follows .mixedOrders=true:=mixed
 have hT:=tys
 have hC0:OrcOK prog (orc (q1v3 (q1v2 d))):=qde (by
  intro S hS
  simp only [q1v3,List.mem_cons,List.not_mem_nil,or_false] at hS
  rcases hS with rfl | rfl
  · exact q1id d
  · exact q1uv d)
 have hC:OrcOK prog (orcS 21 22 Rii (q1v2 d).2.1 (orc (q1v3 (q1v2 d)))):=(qsu (q1uv d) hC0)
 refine q93 (c:=qdk f10) (fn:=f10) hT (by kernel_rfl) (by kernel_rfl) (by decide) fun x r h w0 φ0 Q hend=>?_
 replace h:q1w4 d x=some r:=h
 unfold q1w4 at h
 show Run prog w0 φ0 37 (qdk f10) ⟨[(0,.agg [.fz Riii x.1.1]),(1,.agg [.int .i64 x.2.1.1,.int .i64 x.2.1.2.1]),(2,.int .i64 x.2.2.1.1)],[]⟩ Q
 refine q24b hm hT hC (q1v9 (q1v2 d) (x.1.1,x.2.1.1,x.2.1.2.1,x.2.2.1.1)) h fun y0 h=>?_
 refine q24b hm hT hC (q1vd (q1v2 d) y0) h fun y1 h=>?_
 refine q8m ?_
 refine q24b hm hT hC (q1vh (q1v2 d) y1) h fun y2 h=>?_
 refine q8q (v:=y2.2.2.1) (by kernel_rfl) h ?_ ?_
 ·
  intro h
  refine q24b hm hT hC (q1vl (q1v2 d) y2) h fun y3 h=>?_
  refine q8l (q8a ?_)
  cases h
  exact (hend _ (by kernel_rfl)).2
 ·
  intro h
  refine q8i (q88 (q8m ?_))
  refine q24b hm hT hC (q1vp (q1v2 d) y2) h fun y4 h=>?_
  refine q8q (v:=y4.2.1) (by kernel_rfl) h ?_ ?_
  ·
   intro h
   refine q24b hm hT hC (q1vr (q1v2 d) y4) h fun y5 h=>?_
   refine q8l (q8a ?_)
   cases h
   exact (hend _ (by kernel_rfl)).2
  ·
   intro h
   refine q8i (q88 ?_)
   refine q24b hm hT hC (q1vv (q1v2 d) y4) h fun y6 h=>?_
   refine q8m ?_
   refine q24b hm hT hC (q1vz (q1v2 d) y6) h fun y7 h=>?_
   refine q8q (v:=y7.2.1) (by kernel_rfl) h ?_ ?_
   ·
    intro h
    refine q24b hm hT hC (q1w1 (q1v2 d) y7) h fun y8 h=>?_
    refine q8l (q8a ?_)
    cases h
    exact (hend _ (by kernel_rfl)).2
   ·
    intro h
    refine q8i (q88 ?_)
    refine q24b hm hT hC (q1w3 (q1v2 d) y7) h fun y9 h=>?_
    refine q8l ?_
    cases h
    exact (hend _ (by kernel_rfl)).2
end Go.Proofs.Ytbjpmdhdoggobaa

namespace Go.Proofs.Ytbjpmdhdoggobaa
open Go Go.Tx Go.Proofs.Try
set_option maxRecDepth 100000
set_option maxHeartbeats 0
abbrev q1w6:List Pk:=[.row qk4 false,.row qk4 false]
abbrev q1w7:Type:=qk5×qk5×Unit
abbrev q1w8:Type:=Bool
def q1w9 (r:q1w8):LV×List Ob:=(.bool r,[])
def q1wa (F:q1w7→Option q1w8):Go.Tx.Spec:=⟨25,q1w6,q1w8,F,q1w9⟩
abbrev q1wb:Type:=(qs4→Option qs5)×Unit
def q1wc (d:Nat):q1wb:=(qs9 d,())
def q1wd (C:q1wb):List Go.Tx.Spec:=[qs7 C.1]
abbrev q1we:Type:=List DLiE×List DLiE
def q1wf (v:q1we):St:=⟨[(0,.fz RLiE v.1),(1,.fz RLiE v.2)],[]⟩
def q1wg (C:q1wb) (v:q1we):Dt q1we:=(Dt.ret (v.1,v.2))
abbrev q25a {V Y:Type}:=@rg q1wb V Y tysT (fun C=>(orc (q1wd C))) 27
theorem q1wh C v:q25a (regO (qdk f25) 0) false [(0,(.val RLiE)),(1,(.val RLiE))] q1wf q1wg q1wf C v:=rgI (by kernel_rfl)
abbrev q1wi:Type:=List DLiE×List DLiE×Bool
def q1wj (v:q1wi):St:=⟨[(0,.fz RLiE v.1),(1,.fz RLiE v.2.1),(10,.bool v.2.2)],[]⟩
def q1wk (C:q1wb) (v:q1we):Dt q1wi:=(Dt.ret (v.1,v.2,((List.length v.1:Int) != (List.length v.2:Int))))
theorem q1wl C v:q25a (regO (qdk f25) 1) false [(0,(.val RLiE)),(1,(.val RLiE)),(10,.any)] q1wf q1wk q1wj C v:=rgI (by kernel_rfl)
abbrev q1wm:Type:=Bool
def q1wn (v:q1wm):St:=⟨[(4,.bool v)],[]⟩
def q1wo (C:q1wb) (v:q1wi):Dt q1wm:=(Dt.ret false)
theorem q1wp C v:q25a (regO (qdk f25) 2) false [(4,.any)] q1wj q1wo q1wn C v:=rgI (by kernel_rfl)
abbrev q1wq:Type:=List DLiE×List DLiE×Int
def q1wr (v:q1wq):St:=⟨[(0,.fz RLiE v.1),(1,.fz RLiE v.2.1),(5,i6 v.2.2)],[]⟩
def q1ws (C:q1wb) (v:q1wi):Dt q1wq:=(Dt.ret (v.1,v.2.1,(0:Int)))
theorem q1wt C v:q25a (regO (qdk f25) 3) false [(0,(.val RLiE)),(1,(.val RLiE)),(5,.any)] q1wj q1ws q1wr C v:=rgI (by kernel_rfl)
abbrev q1wu:Type:=List DLiE×List DLiE×Int×Bool
def q1wv (v:q1wu):St:=⟨[(0,.fz RLiE v.1),(1,.fz RLiE v.2.1),(5,i6 v.2.2.1),(14,.bool v.2.2.2)],[]⟩
def q1ww (C:q1wb) (v:q1wq):Dt q1wu:=(Dt.ret (v.1,v.2.1,v.2.2,(decide (v.2.2<(List.length v.1:Int)))))
theorem q1wx C v:q25a (regO (qdk f25) 4) false [(0,(.val RLiE)),(1,(.val RLiE)),(5,.any),(14,.any)] q1wr q1ww q1wv C v:=rgI (by kernel_rfl)
abbrev q1wy:Type:=List DLiE×List DLiE×Int×Bool
def q1wz (v:q1wy):St:=⟨[(0,.fz RLiE v.1),(1,.fz RLiE v.2.1),(5,i6 v.2.2.1),(26,.bool v.2.2.2)],[]⟩
def q1x0 (C:q1wb) (v:q1wu):Dt q1wy:=(Dt.ite (inB v.2.2.1 (List.length v.1)) (Dt.ite (inB v.2.2.1 (List.length v.2.1)) (Dt.bnd (C.1 (((elt zLiE v.1 (v.2.2.1).toNat).1,()),((elt zLiE v.2.1 (v.2.2.1).toNat).1,()),())) fun r1=>(Dt.ret (v.1,v.2.1,v.2.2.1,(!r1)))) Dt.fail) Dt.fail)
theorem q1x1 C v:q25a (regO (qdk f25) 6) true [(0,(.val RLiE)),(1,(.val RLiE)),(5,.any),(26,.any)] q1wv q1x0 q1wz C v:=rgI (by kernel_rfl)
def q1x2 (C:q1wb) (v:q1wy):Dt q1wm:=(Dt.ret false)
theorem q1x3 C v:q25a (regO (qdk f25) 7) false [(4,.any)] q1wz q1x2 q1wn C v:=rgI (by kernel_rfl)
def q1x4 (C:q1wb) (v:q1wy):Dt q1wq:=(Dt.ret (v.1,v.2.1,(IntKind.wrap .i64 (v.2.2.1+(1:Int)))))
theorem q1x5 C v:q25a (regO (qdk f25) 5) false [(0,(.val RLiE)),(1,(.val RLiE)),(5,.any)] q1wz q1x4 q1wr C v:=rgI (by kernel_rfl)
def q1x6 (C:q1wb) (v:q1wu):Dt q1wm:=(Dt.ret true)
theorem q1x7 C v:q25a (regO (qdk f25) 8) false [(4,.any)] q1wv q1x6 q1wn C v:=rgI (by kernel_rfl)
def q1x8 (d:Nat) (self1:(List DLiE×List DLiE×Int)→Option q1w8) (x1:List DLiE×List DLiE×Int):Option q1w8 :=
 (q1ww (q1wc d) x1).eval fun y4 =>
 bif y4.2.2.2 then ((q1x0 (q1wc d) y4).eval fun y6 =>
 bif y6.2.2.2 then ((q1x2 (q1wc d) y6).eval fun y7 =>
 some y7) else ((q1x4 (q1wc d) y6).eval fun y5 =>
 self1 y5)) else ((q1x6 (q1wc d) y4).eval fun y8 =>
 some y8)
def q1x9 (d:Nat) (x:q1w7):Option q1w8 :=
 (q1wg (q1wc d) (x.1.1,x.2.1.1)).eval fun y0 =>
 (q1wk (q1wc d) y0).eval fun y1 =>
 bif y1.2.2 then ((q1wo (q1wc d) y1).eval fun y2 =>
 some y2) else ((q1ws (q1wc d) y1).eval fun y3 =>
 iter (q1x8 d ) d y3)
theorem q1xa (d:Nat):COK prog (q1wa (q1x9 d)):=by
 have hm:prog.follows .mixedOrders=true:=mixed
 have hT:=tys
 have hC0:OrcOK prog (orc (q1wd (q1wc d))):=qde (by
  intro S hS
  simp only [q1wd,List.mem_cons,List.not_mem_nil,or_false] at hS
  subst hS;exact qsb d)
 have hC:OrcOK prog (orc (q1wd (q1wc d))):=hC0
 refine q93 (c:=qdk f25) (fn:=f25) hT (by kernel_rfl) (by kernel_rfl) (by decide) fun x r h w0 φ0 Q hend=>?_
 replace h:q1x9 d x=some r:=h
 unfold q1x9 at h
 show Run prog w0 φ0 27 (qdk f25) ⟨[(0,.fz RLiE x.1.1),(1,.fz RLiE x.2.1.1)],[]⟩ Q
 refine q24b hm hT hC (q1wh (q1wc d) (x.1.1,x.2.1.1)) h fun y0 h=>?_
 refine q8m ?_
 refine q24b hm hT hC (q1wl (q1wc d) y0) h fun y1 h=>?_
 refine q8q (v:=y1.2.2) (by kernel_rfl) h ?_ ?_
 ·
  intro h
  refine q24b hm hT hC (q1wp (q1wc d) y1) h fun y2 h=>?_
  refine q8l (q8a ?_)
  cases h
  exact (hend _ (by kernel_rfl)).2
 ·
  intro h
  refine q8i (q88 (q8m ?_))
  refine q24b hm hT hC (q1wt (q1wc d) y1) h fun y3 h=>?_
  refine q8n ?_
  refine q8s (G:=iter (q1x8 d )) (S:=(fun x1=>⟨[(0,.fz RLiE x1.1),(1,.fz RLiE x1.2.1),(5,i6 x1.2.2)],[]⟩:List DLiE×List DLiE×Int→St)) (fun _=>rfl) ?_ d _ h
  intro n1 x1 h K1 hn1
  replace h:q1x8 d  (iter (q1x8 d ) n1) x1=some r:=h
  generalize iter (q1x8 d ) n1=self1 at h hn1
  unfold q1x8 at h
  refine q8m ?_
  refine q24b hm hT hC (q1wx (q1wc d) x1) h fun y4 h=>?_
  refine q8q (v:=y4.2.2.2) (by kernel_rfl) h ?_ ?_
  ·
   intro h
   refine q8i (q88 (q8m (q8n ?_)))
   refine q24b hm hT hC (q1x1 (q1wc d) y4) h fun y6 h=>?_
   refine q8q (v:=y6.2.2.2) (by kernel_rfl) h ?_ ?_
   ·
    intro h
    refine q24b hm hT hC (q1x3 (q1wc d) y6) h fun y7 h=>?_
    refine q8l (q8c (q8a (q8a (q8c (q8a ?_)))))
    cases h
    exact (hend _ (by kernel_rfl)).2
   ·
    intro h
    refine q8i (q8b (q88 ?_))
    refine q8r hm hT hC (q1x5 (q1wc d) y6) h ?_
    intro y5 h
    exact hn1 _ h
  ·
   intro h
   refine q8k (q89 (q89 (q8d (q88 ?_))))
   refine q24b hm hT hC (q1x7 (q1wc d) y4) h fun y8 h=>?_
   refine q8l ?_
   cases h
   exact (hend _ (by kernel_rfl)).2
abbrev q1xb:List Pk:=[.row qk1 false,.row qk1 false]
abbrev q1xc:Type:=qk2×qk2×Unit
abbrev q1xd:Type:=Bool
def q1xe (r:q1xd):LV×List Ob:=(.bool r,[])
def q1xf (F:q1xc→Option q1xd):Go.Tx.Spec:=⟨24,q1xb,q1xd,F,q1xe⟩
abbrev q1xg:Type:=Unit
def q1xh (_d:Nat):q1xg:=()
def q1xi (C:q1xg):List Go.Tx.Spec:=[]
abbrev q1xj:Type:=List Dii×List Dii
def q1xk (v:q1xj):St:=⟨[(0,.fz Rii v.1),(1,.fz Rii v.2)],[]⟩
def q1xl (C:q1xg) (v:q1xj):Dt q1xj:=(Dt.ret (v.1,v.2))
abbrev q25b {V Y:Type}:=@rg q1xg V Y tysT (fun C=>(orc (q1xi C))) 26
theorem q1xm C v:q25b (regO (qdk f24) 0) false [(0,(.val Rii)),(1,(.val Rii))] q1xk q1xl q1xk C v:=rgI (by kernel_rfl)
abbrev q1xn:Type:=List Dii×List Dii×Bool
def q1xo (v:q1xn):St:=⟨[(0,.fz Rii v.1),(1,.fz Rii v.2.1),(10,.bool v.2.2)],[]⟩
def q1xp (C:q1xg) (v:q1xj):Dt q1xn:=(Dt.ret (v.1,v.2,((List.length v.1:Int) != (List.length v.2:Int))))
theorem q1xq C v:q25b (regO (qdk f24) 1) false [(0,(.val Rii)),(1,(.val Rii)),(10,.any)] q1xk q1xp q1xo C v:=rgI (by kernel_rfl)
abbrev q1xr:Type:=Bool
def q1xs (v:q1xr):St:=⟨[(4,.bool v)],[]⟩
def q1xt (C:q1xg) (v:q1xn):Dt q1xr:=(Dt.ret false)
theorem q1xu C v:q25b (regO (qdk f24) 2) false [(4,.any)] q1xo q1xt q1xs C v:=rgI (by kernel_rfl)
abbrev q1xv:Type:=List Dii×List Dii×Int
def q1xw (v:q1xv):St:=⟨[(0,.fz Rii v.1),(1,.fz Rii v.2.1),(5,i6 v.2.2)],[]⟩
def q1xx (C:q1xg) (v:q1xn):Dt q1xv:=(Dt.ret (v.1,v.2.1,(0:Int)))
theorem q1xy C v:q25b (regO (qdk f24) 3) false [(0,(.val Rii)),(1,(.val Rii)),(5,.any)] q1xo q1xx q1xw C v:=rgI (by kernel_rfl)
abbrev q1xz:Type:=List Dii×List Dii×Int×Bool
def q1y0 (v:q1xz):St:=⟨[(0,.fz Rii v.1),(1,.fz Rii v.2.1),(5,i6 v.2.2.1),(14,.bool v.2.2.2)],[]⟩
def q1y1 (C:q1xg) (v:q1xv):Dt q1xz:=(Dt.ret (v.1,v.2.1,v.2.2,(decide (v.2.2<(List.length v.1:Int)))))
theorem q1y2 C v:q25b (regO (qdk f24) 4) false [(0,(.val Rii)),(1,(.val Rii)),(5,.any),(14,.any)] q1xw q1y1 q1y0 C v:=rgI (by kernel_rfl)
abbrev q1y3:Type:=List Dii×List Dii×Int×Bool
def q1y4 (v:q1y3):St:=⟨[(0,.fz Rii v.1),(1,.fz Rii v.2.1),(5,i6 v.2.2.1),(25,.bool v.2.2.2)],[]⟩
def q1y5 (C:q1xg) (v:q1xz):Dt q1y3:=(Dt.ite (inB v.2.2.1 (List.length v.1)) (Dt.ite (inB v.2.2.1 (List.length v.2.1)) (Dt.ret (v.1,v.2.1,v.2.2.1,(!(((elt zii v.1 (v.2.2.1).toNat).1 == (elt zii v.2.1 (v.2.2.1).toNat).1)&&(((elt zii v.1 (v.2.2.1).toNat).2.1 == (elt zii v.2.1 (v.2.2.1).toNat).2.1)&&true))))) Dt.fail) Dt.fail)
theorem q1y6 C v:q25b (regO (qdk f24) 6) true [(0,(.val Rii)),(1,(.val Rii)),(5,.any),(25,.any)] q1y0 q1y5 q1y4 C v:=rgI (by kernel_rfl)
def q1y7 (C:q1xg) (v:q1y3):Dt q1xr:=(Dt.ret false)
theorem q1y8 C v:q25b (regO (qdk f24) 7) false [(4,.any)] q1y4 q1y7 q1xs C v:=rgI (by kernel_rfl)
def q1y9 (C:q1xg) (v:q1y3):Dt q1xv:=(Dt.ret (v.1,v.2.1,(IntKind.wrap .i64 (v.2.2.1+(1:Int)))))
theorem q1ya C v:q25b (regO (qdk f24) 5) false [(0,(.val Rii)),(1,(.val Rii)),(5,.any)] q1y4 q1y9 q1xw C v:=rgI (by kernel_rfl)
def q1yb (C:q1xg) (v:q1xz):Dt q1xr:=(Dt.ret true)
theorem q1yc C v:q25b (regO (qdk f24) 8) false [(4,.any)] q1y0 q1yb q1xs C v:=rgI (by kernel_rfl)
def q1yd (d:Nat) (self1:(List Dii×List Dii×Int)→Option q1xd) (x1:List Dii×List Dii×Int):Option q1xd :=
 (q1y1 (q1xh d) x1).eval fun y4 =>
 bif y4.2.2.2 then ((q1y5 (q1xh d) y4).eval fun y6 =>
 bif y6.2.2.2 then ((q1y7 (q1xh d) y6).eval fun y7 =>
 some y7) else ((q1y9 (q1xh d) y6).eval fun y5 =>
 self1 y5)) else ((q1yb (q1xh d) y4).eval fun y8 =>
 some y8)
def q1ye (d:Nat) (x:q1xc):Option q1xd :=
 (q1xl (q1xh d) (x.1.1,x.2.1.1)).eval fun y0 =>
 (q1xp (q1xh d) y0).eval fun y1 =>
 bif y1.2.2 then ((q1xt (q1xh d) y1).eval fun y2 =>
 some y2) else ((q1xx (q1xh d) y1).eval fun y3 =>
 iter (q1yd d ) d y3)
theorem q1yf (d:Nat):COK prog (q1xf (q1ye d)):=by
 have hm:prog.follows .mixedOrders=true:=mixed
 have hT:=tys
 have hC0:OrcOK prog (orc (q1xi (q1xh d))):=qde (by
  intro S hS
  simp only [q1xi,List.mem_cons,List.not_mem_nil,or_false] at hS
  all_goals first | cases hS | exact hS.elim)
 have hC:OrcOK prog (orc (q1xi (q1xh d))):=hC0
 refine q93 (c:=qdk f24) (fn:=f24) hT (by kernel_rfl) (by kernel_rfl) (by decide) fun x r h w0 φ0 Q hend=>?_
 replace h:q1ye d x=some r:=h
 unfold q1ye at h
 show Run prog w0 φ0 26 (qdk f24) ⟨[(0,.fz Rii x.1.1),(1,.fz Rii x.2.1.1)],[]⟩ Q
 refine q24b hm hT hC (q1xm (q1xh d) (x.1.1,x.2.1.1)) h fun y0 h=>?_
 refine q8m ?_
 refine q24b hm hT hC (q1xq (q1xh d) y0) h fun y1 h=>?_
 refine q8q (v:=y1.2.2) (by kernel_rfl) h ?_ ?_
 ·
  intro h
  refine q24b hm hT hC (q1xu (q1xh d) y1) h fun y2 h=>?_
  refine q8l (q8a ?_)
  cases h
  exact (hend _ (by kernel_rfl)).2
 ·
  intro h
  refine q8i (q88 (q8m ?_))
  refine q24b hm hT hC (q1xy (q1xh d) y1) h fun y3 h=>?_
  refine q8n ?_
  refine q8s (G:=iter (q1yd d )) (S:=(fun x1=>⟨[(0,.fz Rii x1.1),(1,.fz Rii x1.2.1),(5,i6 x1.2.2)],[]⟩:List Dii×List Dii×Int→St)) (fun _=>rfl) ?_ d _ h
  intro n1 x1 h K1 hn1
  replace h:q1yd d  (iter (q1yd d ) n1) x1=some r:=h
  generalize iter (q1yd d ) n1=self1 at h hn1
  unfold q1yd at h
  refine q8m ?_
  refine q24b hm hT hC (q1y2 (q1xh d) x1) h fun y4 h=>?_
  refine q8q (v:=y4.2.2.2) (by kernel_rfl) h ?_ ?_
  ·
   intro h
   refine q8i (q88 (q8m (q8n ?_)))
   refine q24b hm hT hC (q1y6 (q1xh d) y4) h fun y6 h=>?_
   refine q8q (v:=y6.2.2.2) (by kernel_rfl) h ?_ ?_
   ·
    intro h
    refine q24b hm hT hC (q1y8 (q1xh d) y6) h fun y7 h=>?_
    refine q8l (q8c (q8a (q8a (q8c (q8a ?_)))))
    cases h
    exact (hend _ (by kernel_rfl)).2
   ·
    intro h
    refine q8i (q8b (q88 ?_))
    refine q8r hm hT hC (q1ya (q1xh d) y6) h ?_
    intro y5 h
    exact hn1 _ h
  ·
   intro h
   refine q8k (q89 (q89 (q8d (q88 ?_))))
   refine q24b hm hT hC (q1yc (q1xh d) y4) h fun y8 h=>?_
   refine q8l ?_
   cases h
   exact (hend _ (by kernel_rfl)).2
end Go.Proofs.Ytbjpmdhdoggobaa

namespace Go.Proofs.Ytbjpmdhdoggobaa
open Go Go.Tx Go.Proofs.Try
set_option maxRecDepth 100000
set_option maxHeartbeats 0
abbrev q1yg:List Pk:=[.row Ri false]
abbrev q1yh:Type:=Di×Unit
abbrev q1yi:Type:=Int×Int
def q1yj (r:q1yi):LV×List Ob:=(.agg [.int .i64 r.1,.int .i64 r.2],[])
def q1yk (F:q1yh→Option q1yi):Go.Tx.Spec:=⟨4,q1yg,q1yi,F,q1yj⟩
abbrev q1yl:Type:=Unit
def q1ym (_d:Nat):q1yl:=()
def q1yn (C:q1yl):List Go.Tx.Spec:=[]
abbrev q1yo:Type:=Int
def q1yp (v:q1yo):St:=⟨[(0,i6 v)],[]⟩
abbrev q1yq:Type:=Int×Int×Int
def q1yr (v:q1yq):St:=⟨[(0,i6 v.1),(2,.ptr 0 0)],[.cells [i6 v.2.1,i6 v.2.2]]⟩
def q1ys (C:q1yl) (v:q1yo):Dt q1yq:=(Dt.ret (v,(0:Int),(0:Int)))
abbrev q25c {V Y:Type}:=@rg q1yl V Y tysT (fun C=>(orc (q1yn C))) 5
theorem q1yt C v:q25c (regO (qdk f4) 0) false (an [0,2]) q1yp q1ys q1yr C v:=rgI (by kernel_rfl)
abbrev q1yu:Type:=Int×Int
def q1yv (v:q1yu):St:=⟨[(2,.ptr 0 0)],[.cells [i6 v.1,i6 v.2]]⟩
def q1yw (C:q1yl) (v:q1yq):Dt q1yu:=(Dt.ret (v.1,(1:Int)))
theorem q1yx C v:q25c (regO (qdk f4) 1) false [(2,.any)] q1yr q1yw q1yv C v:=rgI (by kernel_rfl)
def q1yy (d:Nat) (x:q1yh):Option q1yi :=
 (q1ys (q1ym d) x.1.1).eval fun y0 =>
 (q1yw (q1ym d) y0).eval fun y1 =>
 some y1
theorem q1yz (d:Nat):COK prog (q1yk (q1yy d)):=by
 have hm:prog.follows .mixedOrders=true:=mixed
 have hT:=tys
 have hC0:OrcOK prog (orc (q1yn (q1ym d))):=qde (by
  intro S hS
  simp only [q1yn,List.mem_cons,List.not_mem_nil,or_false] at hS
  all_goals first | cases hS | exact hS.elim)
 have hC:OrcOK prog (orc (q1yn (q1ym d))):=hC0
 refine q93 (c:=qdk f4) (fn:=f4) hT (by kernel_rfl) (by kernel_rfl) (by decide) fun x r h w0 φ0 Q hend=>?_
 replace h:q1yy d x=some r:=h
 unfold q1yy at h
 show Run prog w0 φ0 5 (qdk f4) ⟨[(0,.int .i64 x.1.1)],[]⟩ Q
 refine q24b hm hT hC (q1yt (q1ym d) x.1.1) h fun y0 h=>?_
 refine q24b hm hT hC (q1yx (q1ym d) y0) h fun y1 h=>?_
 refine q8l ?_
 cases h
 exact (hend _ (by kernel_rfl)).2
abbrev q1z0:List Pk:=[]
abbrev q1z1:Type:=Unit
abbrev q1z2:Type:=List Diii
def q1z3 (r:q1z2):LV×List Ob:=(.agg [.rs 0],[.rows Riii r])
def q1z4 (F:q1z1→Option q1z2):Go.Tx.Spec:=⟨8,q1z0,q1z2,F,q1z3⟩
abbrev q1z5:Type:=Unit
def q1z6 (_d:Nat):q1z5:=()
def q1z7 (C:q1z5):List Go.Tx.Spec:=[]
abbrev q1z8:Type:=Unit
def q1z9 (v:q1z8):St:=⟨[],[]⟩
abbrev q1za:Type:=List Diii
def q1zb (v:q1za):St:=⟨[(0,.ptr 0 0)],[.cells [.rs 1],.rows Riii v]⟩
def q1zc (C:q1z5) (v:q1z8):Dt q1za:=(Dt.ret ([]:List Diii))
abbrev q25d {V Y:Type}:=@rg q1z5 V Y tysT (fun C=>(orc (q1z7 C))) 6
theorem q1zd C v:q25d (regO (qdk f8) 0) false [(0,(.box [.own Riii]))] q1z9 q1zc q1zb C v:=rgI (by kernel_rfl)
def q1ze (C:q1z5) (v:q1za):Dt q1za:=(Dt.ret ([((1:Int),(0:Int),(2:Int),()),((2:Int),(6:Int),(-1:Int),()),((5:Int),(0:Int),(0:Int),())]:List Diii))
theorem q1zf C v:q25d (regO (qdk f8) 1) false [(0,(.box [.own Riii]))] q1zb q1ze q1zb C v:=rgI (by kernel_rfl)
def q1zg (d:Nat) (x:q1z1):Option q1z2 :=
 (q1zc (q1z6 d) ()).eval fun y0 =>
 (q1ze (q1z6 d) y0).eval fun y1 =>
 some y1
theorem q1zh (d:Nat):COK prog (q1z4 (q1zg d)):=by
 have hm:prog.follows .mixedOrders=true:=mixed
 have hT:=tys
 have hC0:OrcOK prog (orc (q1z7 (q1z6 d))):=qde (by
  intro S hS
  simp only [q1z7,List.mem_cons,List.not_mem_nil,or_false] at hS
  all_goals first | cases hS | exact hS.elim)
 have hC:OrcOK prog (orc (q1z7 (q1z6 d))):=hC0
 refine q93 (c:=qdk f8) (fn:=f8) hT (by kernel_rfl) (by kernel_rfl) (by decide) fun x r h w0 φ0 Q hend=>?_
 replace h:q1zg d x=some r:=h
 unfold q1zg at h
 show Run prog w0 φ0 6 (qdk f8) ⟨[],[]⟩ Q
 refine q24b hm hT hC (q1zd (q1z6 d) ()) h fun y0 h=>?_
 refine q24b hm hT hC (q1zf (q1z6 d) y0) h fun y1 h=>?_
 refine q8l ?_
 cases h
 exact (hend _ (by kernel_rfl)).2
abbrev q1zi:List Pk:=[]
abbrev q1zj:Type:=Unit
abbrev q1zk:Type:=Bool
def q1zl (r:q1zk):LV×List Ob:=(.bool r,[])
def q1zm (F:q1zj→Option q1zk):Go.Tx.Spec:=⟨11,q1zi,q1zk,F,q1zl⟩
abbrev q1zn:Type:=(q1yh→Option q1yi)×(q1if→Option q1ig)×(q1jr→Option q1js)×(q1z1→Option q1z2)×(q1ux→Option q1uy)×(q1xc→Option q1xd)×(q1w7→Option q1w8)×Unit
def q1zo (d:Nat):q1zn:=(q1yy d,q1j0 d,q1mh d,q1zg d,q1w4 d,q1ye d,q1x9 d,())
def q1zp (C:q1zn):List Go.Tx.Spec:=[q1yk C.1,q1ii C.2.1,q1ju C.2.2.1,q1z4 C.2.2.2.1,q1v0 C.2.2.2.2.1,q1xf C.2.2.2.2.2.1,q1wa C.2.2.2.2.2.2.1]
abbrev q1zq:Type:=Unit
def q1zr (v:q1zq):St:=⟨[],[]⟩
def q1zs (C:q1zn) (v:q1zq):Dt q1zq:=(Dt.ret ())
abbrev q25e {V Y:Type}:=@rg q1zn V Y tysT (fun C=>(orc (q1zp C))) 113
theorem q1zt C v:q25e (regO (qdk f11) 0) false [] q1zr q1zs q1zr C v:=rgI (by kernel_rfl)
abbrev q1zu:Type:=List Diii
def q1zv (v:q1zu):St:=⟨[(1,.ptr 0 0)],[.cells [.fz Riii v]]⟩
def q1zw (C:q1zn) (v:q1zq):Dt q1zu:=(Dt.bnd (C.2.2.2.1 (())) fun r1=>(Dt.ret r1))
theorem q1zx C v:q25e (regO (qdk f11) 1) false [(1,(.box [.val Riii]))] q1zr q1zw q1zv C v:=rgI (by kernel_rfl)
abbrev q1zy:Type:=Int×List Diii×List Dii
def q1zz (v:q1zy):St:=⟨[(1,.ptr 0 0),(2,.rs 1),(3,i6 v.1)],[.cells [.fz Riii v.2.1],.rows Rii v.2.2]⟩
def q200 (C:q1zn) (v:q1zu):Dt q1zy:=(Dt.bnd (C.1 (((0:Int),()),())) fun r1=>(Dt.bnd (C.2.1 ((v,()),(r1.1,r1.2,()),())) fun r2=>(Dt.ret (r2.2,v,r2.1))))
theorem q201 C v:q25e (regO (qdk f11) 2) true [(1,(.box [.val Riii])),(2,(.own Rii)),(3,.any)] q1zv q200 q1zz C v:=rgI (by kernel_rfl)
abbrev q202:Type:=Int×List DLiE×Int×List Diii×List Dii
def q203 (v:q202):St:=⟨[(1,.ptr 0 0),(2,.rs 1),(3,i6 v.1),(4,.fz RLiE v.2.1),(5,i6 v.2.2.1)],[.cells [.fz Riii v.2.2.2.1],.rows Rii v.2.2.2.2]⟩
def q204 (C:q1zn) (v:q1zy):Dt q202:=(Dt.bnd (C.1 (((0:Int),()),())) fun r1=>(Dt.bnd (C.1 (((5:Int),()),())) fun r2=>(Dt.bnd (C.2.2.1 ((v.2.1,()),(r1.1,r1.2,()),(r2.1,r2.2,()),())) fun r3=>(Dt.ret (v.1,r3.1,r3.2,v.2.1,v.2.2)))))
theorem q205 C v:q25e (regO (qdk f11) 3) true [(1,(.box [.val Riii])),(2,(.own Rii)),(3,.any),(4,(.val RLiE)),(5,.any)] q1zz q204 q203 C v:=rgI (by kernel_rfl)
abbrev q206:Type:=Int×List DLiE×Int×List DLiE×Int×List Diii×List Dii
def q207 (v:q206):St:=⟨[(1,.ptr 0 0),(2,.rs 1),(3,i6 v.1),(4,.fz RLiE v.2.1),(5,i6 v.2.2.1),(6,.fz RLiE v.2.2.2.1),(7,i6 v.2.2.2.2.1)],[.cells [.fz Riii v.2.2.2.2.2.1],.rows Rii v.2.2.2.2.2.2]⟩
def q208 (C:q1zn) (v:q202):Dt q206:=(Dt.bnd (C.1 (((0:Int),()),())) fun r1=>(Dt.bnd (C.1 (((6:Int),()),())) fun r2=>(Dt.bnd (C.2.2.1 ((v.2.2.2.1,()),(r1.1,r1.2,()),(r2.1,r2.2,()),())) fun r3=>(Dt.ret (v.1,v.2.1,v.2.2.1,r3.1,r3.2,v.2.2.2.1,v.2.2.2.2)))))
theorem q209 C v:q25e (regO (qdk f11) 4) true [(1,(.box [.val Riii])),(2,(.own Rii)),(3,.any),(4,(.val RLiE)),(5,.any),(6,(.val RLiE)),(7,.any)] q203 q208 q207 C v:=rgI (by kernel_rfl)
abbrev q20a:Type:=Int×List DLiE×Int×List DLiE×Int×List DLiE×Int×List Diii×List Dii
def q20b (v:q20a):St:=⟨[(1,.ptr 0 0),(2,.rs 1),(3,i6 v.1),(4,.fz RLiE v.2.1),(5,i6 v.2.2.1),(6,.fz RLiE v.2.2.2.1),(7,i6 v.2.2.2.2.1),(8,.fz RLiE v.2.2.2.2.2.1),(9,i6 v.2.2.2.2.2.2.1)],[.cells [.fz Riii v.2.2.2.2.2.2.2.1],.rows Rii v.2.2.2.2.2.2.2.2]⟩
def q20c (C:q1zn) (v:q206):Dt q20a:=(Dt.bnd (C.1 (((0:Int),()),())) fun r1=>(Dt.bnd (C.1 (((0:Int),()),())) fun r2=>(Dt.bnd (C.2.2.1 ((v.2.2.2.2.2.1,()),(r1.1,r1.2,()),(r2.1,r2.2,()),())) fun r3=>(Dt.ret (v.1,v.2.1,v.2.2.1,v.2.2.2.1,v.2.2.2.2.1,r3.1,r3.2,v.2.2.2.2.2.1,v.2.2.2.2.2.2)))))
theorem q20d C v:q25e (regO (qdk f11) 5) true [(1,(.box [.val Riii])),(2,(.own Rii)),(3,.any),(4,(.val RLiE)),(5,.any),(6,(.val RLiE)),(7,.any),(8,(.val RLiE)),(9,.any)] q207 q20c q20b C v:=rgI (by kernel_rfl)
abbrev q20e:Type:=Int×List DLiE×Int×List DLiE×Int×List DLiE×Int×Int×List Diii×List Dii×Int×Int
def q20f (v:q20e):St:=⟨[(1,.ptr 0 0),(2,.rs 1),(3,i6 v.1),(4,.fz RLiE v.2.1),(5,i6 v.2.2.1),(6,.fz RLiE v.2.2.2.1),(7,i6 v.2.2.2.2.1),(8,.fz RLiE v.2.2.2.2.2.1),(9,i6 v.2.2.2.2.2.2.1),(10,.ptr 2 0),(11,i6 v.2.2.2.2.2.2.2.1)],[.cells [.fz Riii v.2.2.2.2.2.2.2.2.1],.rows Rii v.2.2.2.2.2.2.2.2.2.1,.cells [i6 v.2.2.2.2.2.2.2.2.2.2.1,i6 v.2.2.2.2.2.2.2.2.2.2.2]]⟩
def q20g (C:q1zn) (v:q20a):Dt q20e:=(Dt.bnd (C.1 (((0:Int),()),())) fun r1=>(Dt.bnd (C.2.2.2.2.1 ((v.2.2.2.2.2.2.2.1,()),(r1.1,r1.2,()),((1:Int),()),())) fun r2=>(Dt.ret (v.1,v.2.1,v.2.2.1,v.2.2.2.1,v.2.2.2.2.1,v.2.2.2.2.2.1,v.2.2.2.2.2.2.1,r2.2.2,v.2.2.2.2.2.2.2.1,v.2.2.2.2.2.2.2.2,r2.1,r2.2.1))))
theorem q20h C v:q25e (regO (qdk f11) 6) true [(1,(.box [.val Riii])),(2,(.own Rii)),(3,.any),(4,(.val RLiE)),(5,.any),(6,(.val RLiE)),(7,.any),(8,(.val RLiE)),(9,.any),(10,.any),(11,.any)] q20b q20g q20f C v:=rgI (by kernel_rfl)
abbrev q20i:Type:=Int×List DLiE×Int×List DLiE×Int×List DLiE×Int×Int×Int×List Dii×Int×Int×Int×Int
def q20j (v:q20i):St:=⟨[(2,.rs 0),(3,i6 v.1),(4,.fz RLiE v.2.1),(5,i6 v.2.2.1),(6,.fz RLiE v.2.2.2.1),(7,i6 v.2.2.2.2.1),(8,.fz RLiE v.2.2.2.2.2.1),(9,i6 v.2.2.2.2.2.2.1),(10,.ptr 1 0),(11,i6 v.2.2.2.2.2.2.2.1),(12,.ptr 2 0),(13,i6 v.2.2.2.2.2.2.2.2.1)],[.rows Rii v.2.2.2.2.2.2.2.2.2.1,.cells [i6 v.2.2.2.2.2.2.2.2.2.2.1,i6 v.2.2.2.2.2.2.2.2.2.2.2.1],.cells [i6 v.2.2.2.2.2.2.2.2.2.2.2.2.1,i6 v.2.2.2.2.2.2.2.2.2.2.2.2.2]]⟩
def q20k (C:q1zn) (v:q20e):Dt q20i:=(Dt.bnd (C.1 (((0:Int),()),())) fun r1=>(Dt.bnd (C.2.2.2.2.1 ((v.2.2.2.2.2.2.2.2.1,()),(r1.1,r1.2,()),((2:Int),()),())) fun r2=>(Dt.ret (v.1,v.2.1,v.2.2.1,v.2.2.2.1,v.2.2.2.2.1,v.2.2.2.2.2.1,v.2.2.2.2.2.2.1,v.2.2.2.2.2.2.2.1,r2.2.2,v.2.2.2.2.2.2.2.2.2.1,v.2.2.2.2.2.2.2.2.2.2.1,v.2.2.2.2.2.2.2.2.2.2.2,r2.1,r2.2.1))))
theorem q20l C v:q25e (regO (qdk f11) 7) true [(2,(.own Rii)),(3,.any),(4,(.val RLiE)),(5,.any),(6,(.val RLiE)),(7,.any),(8,(.val RLiE)),(9,.any),(10,.any),(11,.any),(12,.any),(13,.any)] q20f q20k q20j C v:=rgI (by kernel_rfl)
abbrev q20m:Type:=Int×List DLiE×Int×List DLiE×Int×List DLiE×Int×Int×Int×List Dii×Int×Int×Int×Int×List DLiE
def q20n (v:q20m):St:=⟨[(2,.rs 0),(3,i6 v.1),(4,.fz RLiE v.2.1),(5,i6 v.2.2.1),(6,.fz RLiE v.2.2.2.1),(7,i6 v.2.2.2.2.1),(8,.fz RLiE v.2.2.2.2.2.1),(9,i6 v.2.2.2.2.2.2.1),(10,.ptr 1 0),(11,i6 v.2.2.2.2.2.2.2.1),(12,.ptr 2 0),(13,i6 v.2.2.2.2.2.2.2.2.1),(14,.rs 3)],[.rows Rii v.2.2.2.2.2.2.2.2.2.1,.cells [i6 v.2.2.2.2.2.2.2.2.2.2.1,i6 v.2.2.2.2.2.2.2.2.2.2.2.1],.cells [i6 v.2.2.2.2.2.2.2.2.2.2.2.2.1,i6 v.2.2.2.2.2.2.2.2.2.2.2.2.2.1],.rows RLiE v.2.2.2.2.2.2.2.2.2.2.2.2.2.2]⟩
def q20o (C:q1zn) (v:q20i):Dt q20m:=(Dt.ret (v.1,v.2.1,v.2.2.1,v.2.2.2.1,v.2.2.2.2.1,v.2.2.2.2.2.1,v.2.2.2.2.2.2.1,v.2.2.2.2.2.2.2.1,v.2.2.2.2.2.2.2.2.1,v.2.2.2.2.2.2.2.2.2.1,v.2.2.2.2.2.2.2.2.2.2.1,v.2.2.2.2.2.2.2.2.2.2.2.1,v.2.2.2.2.2.2.2.2.2.2.2.2.1,v.2.2.2.2.2.2.2.2.2.2.2.2.2,([(([((2:Int),())]:List Di),()),(([((1:Int),()),((5:Int),())]:List Di),())]:List DLiE)))
theorem q20p C v:q25e (regO (qdk f11) 8) false [(2,(.own Rii)),(3,.any),(4,(.val RLiE)),(5,.any),(6,(.val RLiE)),(7,.any),(8,(.val RLiE)),(9,.any),(10,.any),(11,.any),(12,.any),(13,.any),(14,(.own RLiE))] q20j q20o q20n C v:=rgI (by kernel_rfl)
abbrev q20q:Type:=Bool
def q20r (v:q20q):St:=⟨[(0,.bool v)],[]⟩
def q20s (C:q1zn) (v:q20m):Dt q20q:=(Dt.ite (v.1 == (0:Int)) (Dt.bnd (C.1 (((6:Int),()),())) fun r1=>(Dt.bnd (C.1 (((0:Int),()),())) fun r2=>(Dt.bnd (C.2.2.2.2.2.1 ((v.2.2.2.2.2.2.2.2.2.1,()),(([(r1.1,r1.2,()),(r2.1,r2.2,())]:List Dii),()),())) fun r3=>(Dt.ite r3 (Dt.ite (v.2.2.1 == (0:Int)) (Dt.bnd (C.2.2.2.2.2.2.1 ((v.2.1,()),(v.2.2.2.2.2.2.2.2.2.2.2.2.2.2,()),())) fun r4=>(Dt.ite r4 (Dt.ite (v.2.2.2.2.1 == (0:Int)) (Dt.bnd (C.2.2.2.2.2.2.1 ((v.2.2.2.1,()),(([(([((2:Int),()),((1:Int),()),((5:Int),())]:List Di),())]:List DLiE),()),())) fun r5=>(Dt.ite r5 (Dt.ite (v.2.2.2.2.2.2.1 == (0:Int)) (Dt.bnd (C.2.2.2.2.2.2.1 ((v.2.2.2.2.2.1,()),(v.2.2.2.2.2.2.2.2.2.2.2.2.2.2,()),())) fun r6=>(Dt.ite r6 (Dt.ite (v.2.2.2.2.2.2.2.1 == (0:Int)) (Dt.bnd (C.1 (((6:Int),()),())) fun r7=>(Dt.ite ((v.2.2.2.2.2.2.2.2.2.2.1 == r7.1)&&((v.2.2.2.2.2.2.2.2.2.2.2.1 == r7.2)&&true)) (Dt.ite (v.2.2.2.2.2.2.2.2.1 == (0:Int)) (Dt.bnd (C.1 (((0:Int),()),())) fun r8=>(Dt.ret ((v.2.2.2.2.2.2.2.2.2.2.2.2.1 == r8.1)&&((v.2.2.2.2.2.2.2.2.2.2.2.2.2.1 == r8.2)&&true)))) (Dt.ret false)) (Dt.ret false))) (Dt.ret false)) (Dt.ret false))) (Dt.ret false)) (Dt.ret false))) (Dt.ret false)) (Dt.ret false))) (Dt.ret false)) (Dt.ret false))))) (Dt.ret false))
theorem q20t C v:q25e (regO (qdk f11) 9) true [(0,.any)] q20n q20s q20r C v:=rgI (by kernel_rfl)
def q20u (d:Nat) (x:q1zj):Option q1zk :=
 (q1zs (q1zo d) ()).eval fun y0 =>
 (q1zw (q1zo d) ()).eval fun y1 =>
 (q200 (q1zo d) y1).eval fun y2 =>
 (q204 (q1zo d) y2).eval fun y3 =>
 (q208 (q1zo d) y3).eval fun y4 =>
 (q20c (q1zo d) y4).eval fun y5 =>
 (q20g (q1zo d) y5).eval fun y6 =>
 (q20k (q1zo d) y6).eval fun y7 =>
 (q20o (q1zo d) y7).eval fun y8 =>
 (q20s (q1zo d) y8).eval fun y9 =>
 some y9
theorem q20v (d:Nat):COK prog (q1zm (q20u d)):=by
 have hm:prog.follows .mixedOrders=true:=mixed
 have hT:=tys
 have hC0:OrcOK prog (orc (q1zp (q1zo d))):=qde (by
  intro S hS
  simp only [q1zp,List.mem_cons,List.not_mem_nil,or_false] at hS
  rcases hS with rfl | rfl | rfl | rfl | rfl | rfl | rfl
  · exact q1yz d
  · exact q1j1 d
  · exact q1mi d
  · exact q1zh d
  · exact q1w5 d
  · exact q1yf d
  · exact q1xa d)
 have hC:OrcOK prog (orc (q1zp (q1zo d))):=hC0
 refine q93 (c:=qdk f11) (fn:=f11) hT (by kernel_rfl) (by kernel_rfl) (by decide) fun x r h w0 φ0 Q hend=>?_
 replace h:q20u d x=some r:=h
 unfold q20u at h
 show Run prog w0 φ0 113 (qdk f11) ⟨[],[]⟩ Q
 refine q24b hm hT hC (q1zt (q1zo d) ()) h fun y0 h=>?_
 refine q24b hm hT hC (q1zx (q1zo d) ()) h fun y1 h=>?_
 refine q24b hm hT hC (q201 (q1zo d) y1) h fun y2 h=>?_
 refine q24b hm hT hC (q205 (q1zo d) y2) h fun y3 h=>?_
 refine q24b hm hT hC (q209 (q1zo d) y3) h fun y4 h=>?_
 refine q24b hm hT hC (q20d (q1zo d) y4) h fun y5 h=>?_
 refine q24b hm hT hC (q20h (q1zo d) y5) h fun y6 h=>?_
 refine q24b hm hT hC (q20l (q1zo d) y6) h fun y7 h=>?_
 refine q24b hm hT hC (q20p (q1zo d) y7) h fun y8 h=>?_
 refine q24b hm hT hC (q20t (q1zo d) y8) h fun y9 h=>?_
 refine q8l ?_
 cases h
 exact (hend _ (by kernel_rfl)).2
abbrev q20w:List Pk:=[]
abbrev q20x:Type:=Unit
abbrev q20y:Type:=Bool
def q20z (r:q20y):LV×List Ob:=(.bool r,[])
def q210 (F:q20x→Option q20y):Go.Tx.Spec:=⟨3,q20w,q20y,F,q20z⟩
abbrev q211:Type:=(q1yh→Option q1yi)×(q1if→Option q1ig)×(q1jr→Option q1js)×(q1rb→Option q1rc)×(q1z1→Option q1z2)×(q1sj→Option q1sk)×(q1ux→Option q1uy)×(q1zj→Option q1zk)×(qs4→Option qs5)×Unit
def q212 (d:Nat):q211:=(q1yy d,q1j0 d,q1mh d,q1sg d,q1zg d,q1u6 d,q1w4 d,q20u d,qs9 d,())
def q213 (C:q211):List Go.Tx.Spec:=[q1yk C.1,q1ii C.2.1,q1ju C.2.2.1,q1re C.2.2.2.1,q1z4 C.2.2.2.2.1,q1sm C.2.2.2.2.2.1,q1v0 C.2.2.2.2.2.2.1,q1zm C.2.2.2.2.2.2.2.1,qs7 C.2.2.2.2.2.2.2.2.1]
abbrev q214:Type:=Unit
def q215 (v:q214):St:=⟨[],[]⟩
def q216 (C:q211) (v:q214):Dt q214:=(Dt.ret ())
abbrev q25f {V Y:Type}:=@rg q211 V Y tysT (fun C=>(orc (q213 C))) 227
theorem q217 C v:q25f (regO (qdk f3) 0) false [] q215 q216 q215 C v:=rgI (by kernel_rfl)
abbrev q218:Type:=List Diii
def q219 (v:q218):St:=⟨[(1,.ptr 0 0)],[.cells [.fz Riii v]]⟩
def q21a (C:q211) (v:q214):Dt q218:=(Dt.ret ([]:List Diii))
theorem q21b C v:q25f (regO (qdk f3) 1) false [(1,(.box [.val Riii]))] q215 q21a q219 C v:=rgI (by kernel_rfl)
abbrev q21c:Type:=List Diii×List Diii
def q21d (v:q21c):St:=⟨[(1,.ptr 0 0),(2,.ptr 1 0)],[.cells [.fz Riii v.1],.cells [.rs 2],.rows Riii v.2]⟩
def q21e (C:q211) (v:q218):Dt q21c:=(Dt.ret (v,([((2:Int),(0:Int),(0:Int),()),((1:Int),(0:Int),(0:Int),())]:List Diii)))
theorem q21f C v:q25f (regO (qdk f3) 2) false [(1,(.box [.val Riii])),(2,(.box [.own Riii]))] q219 q21e q21d C v:=rgI (by kernel_rfl)
abbrev q21g:Type:=List Diii×List Diii×Int×Int
def q21h (v:q21g):St:=⟨[(1,.ptr 0 0),(2,.ptr 1 0),(3,.ptr 3 0)],[.cells [.fz Riii v.1],.cells [.rs 2],.rows Riii v.2.1,.cells [i6 v.2.2.1,i6 v.2.2.2]]⟩
def q21i (C:q211) (v:q21c):Dt q21g:=(Dt.bnd (C.1 (((1125899906842624:Int),()),())) fun r1=>(Dt.ret (v.1,v.2,r1.1,r1.2)))
theorem q21j C v:q25f (regO (qdk f3) 3) false [(1,(.box [.val Riii])),(2,(.box [.own Riii])),(3,.any)] q21d q21i q21h C v:=rgI (by kernel_rfl)
abbrev q21k:Type:=List Diii×List Diii×Int×Int×List Diii
def q21l (v:q21k):St:=⟨[(1,.ptr 0 0),(2,.ptr 1 0),(3,.ptr 3 0),(4,.ptr 4 0)],[.cells [.fz Riii v.1],.cells [.rs 2],.rows Riii v.2.1,.cells [i6 v.2.2.1,i6 v.2.2.2.1],.cells [.fz Riii v.2.2.2.2]]⟩
def q21m (C:q211) (v:q21g):Dt q21k:=(Dt.ret (v.1,v.2.1,v.2.2.1,v.2.2.2,([((1:Int),(0:Int),(1048576:Int),())]:List Diii)))
theorem q21n C v:q25f (regO (qdk f3) 4) false [(1,(.box [.val Riii])),(2,(.box [.own Riii])),(3,.any),(4,(.box [.val Riii]))] q21h q21m q21l C v:=rgI (by kernel_rfl)
abbrev q21o:Type:=Int×List Diii×Int×Int×List Diii
def q21p (v:q21o):St:=⟨[(1,.ptr 0 0),(3,.ptr 1 0),(4,.ptr 2 0),(6,i6 v.1)],[.cells [.fz Riii v.2.1],.cells [i6 v.2.2.1,i6 v.2.2.2.1],.cells [.fz Riii v.2.2.2.2]]⟩
def q21q (C:q211) (v:q21k):Dt q21o:=(Dt.bnd (C.2.1 ((v.2.1,()),((0:Int),(0:Int),()),())) fun r1=>(Dt.ret (r1.2,v.1,v.2.2.1,v.2.2.2.1,v.2.2.2.2)))
theorem q21r C v:q25f (regO (qdk f3) 5) false [(1,(.box [.val Riii])),(3,.any),(4,(.box [.val Riii])),(6,.any)] q21l q21q q21p C v:=rgI (by kernel_rfl)
abbrev q21s:Type:=Int×Int×List Diii×Int×Int×List Diii
def q21t (v:q21s):St:=⟨[(1,.ptr 0 0),(3,.ptr 1 0),(4,.ptr 2 0),(6,i6 v.1),(8,i6 v.2.1)],[.cells [.fz Riii v.2.2.1],.cells [i6 v.2.2.2.1,i6 v.2.2.2.2.1],.cells [.fz Riii v.2.2.2.2.2]]⟩
def q21u (C:q211) (v:q21o):Dt q21s:=(Dt.bnd (C.2.1 ((v.2.1,()),((0:Int),(0:Int),()),())) fun r1=>(Dt.ret (v.1,r1.2,v.2.1,v.2.2.1,v.2.2.2.1,v.2.2.2.2)))
theorem q21v C v:q25f (regO (qdk f3) 6) false [(1,(.box [.val Riii])),(3,.any),(4,(.box [.val Riii])),(6,.any),(8,.any)] q21p q21u q21t C v:=rgI (by kernel_rfl)
abbrev q21w:Type:=Int×Int×Int×List Diii×Int×Int×List Diii
def q21x (v:q21w):St:=⟨[(1,.ptr 0 0),(3,.ptr 1 0),(4,.ptr 2 0),(6,i6 v.1),(8,i6 v.2.1),(10,i6 v.2.2.1)],[.cells [.fz Riii v.2.2.2.1],.cells [i6 v.2.2.2.2.1,i6 v.2.2.2.2.2.1],.cells [.fz Riii v.2.2.2.2.2.2]]⟩
def q21y (C:q211) (v:q21s):Dt q21w:=(Dt.bnd (C.2.1 ((v.2.2.2.2.2,()),(v.2.2.2.1,v.2.2.2.2.1,()),())) fun r1=>(Dt.ret (v.1,v.2.1,r1.2,v.2.2.1,v.2.2.2.1,v.2.2.2.2.1,v.2.2.2.2.2)))
theorem q21z C v:q25f (regO (qdk f3) 7) false [(1,(.box [.val Riii])),(3,.any),(4,(.box [.val Riii])),(6,.any),(8,.any),(10,.any)] q21t q21y q21x C v:=rgI (by kernel_rfl)
abbrev q220:Type:=Int×Int×Int×Int×List Diii×Int×Int×List Diii
def q221 (v:q220):St:=⟨[(1,.ptr 0 0),(3,.ptr 1 0),(4,.ptr 2 0),(6,i6 v.1),(8,i6 v.2.1),(10,i6 v.2.2.1),(12,i6 v.2.2.2.1)],[.cells [.fz Riii v.2.2.2.2.1],.cells [i6 v.2.2.2.2.2.1,i6 v.2.2.2.2.2.2.1],.cells [.fz Riii v.2.2.2.2.2.2.2]]⟩
def q222 (C:q211) (v:q21w):Dt q220:=(Dt.bnd (C.2.2.1 ((v.2.2.2.2.2.2,()),(v.2.2.2.2.1,v.2.2.2.2.2.1,()),((0:Int),(0:Int),()),())) fun r1=>(Dt.ret (v.1,v.2.1,v.2.2.1,r1.2,v.2.2.2.1,v.2.2.2.2.1,v.2.2.2.2.2.1,v.2.2.2.2.2.2)))
theorem q223 C v:q25f (regO (qdk f3) 8) false [(1,(.box [.val Riii])),(3,.any),(4,(.box [.val Riii])),(6,.any),(8,.any),(10,.any),(12,.any)] q21x q222 q221 C v:=rgI (by kernel_rfl)
abbrev q224:Type:=Int×Int×Int×Int×Int×List Diii×Int×Int×List Diii
def q225 (v:q224):St:=⟨[(1,.ptr 0 0),(3,.ptr 1 0),(4,.ptr 2 0),(6,i6 v.1),(8,i6 v.2.1),(10,i6 v.2.2.1),(12,i6 v.2.2.2.1),(14,i6 v.2.2.2.2.1)],[.cells [.fz Riii v.2.2.2.2.2.1],.cells [i6 v.2.2.2.2.2.2.1,i6 v.2.2.2.2.2.2.2.1],.cells [.fz Riii v.2.2.2.2.2.2.2.2]]⟩
def q226 (C:q211) (v:q220):Dt q224:=(Dt.bnd (C.1 (((-1:Int),()),())) fun r1=>(Dt.bnd (C.2.2.1 ((v.2.2.2.2.2.2.2,()),(v.2.2.2.2.2.1,v.2.2.2.2.2.2.1,()),(r1.1,r1.2,()),())) fun r2=>(Dt.ret (v.1,v.2.1,v.2.2.1,v.2.2.2.1,r2.2,v.2.2.2.2.1,v.2.2.2.2.2.1,v.2.2.2.2.2.2.1,v.2.2.2.2.2.2.2))))
theorem q227 C v:q25f (regO (qdk f3) 9) true [(1,(.box [.val Riii])),(3,.any),(4,(.box [.val Riii])),(6,.any),(8,.any),(10,.any),(12,.any),(14,.any)] q221 q226 q225 C v:=rgI (by kernel_rfl)
abbrev q228:Type:=Int×Int×Int×Int×Int×Int×List Diii×Int×Int×List Diii
def q229 (v:q228):St:=⟨[(1,.ptr 0 0),(3,.ptr 1 0),(4,.ptr 2 0),(6,i6 v.1),(8,i6 v.2.1),(10,i6 v.2.2.1),(12,i6 v.2.2.2.1),(14,i6 v.2.2.2.2.1),(16,i6 v.2.2.2.2.2.1)],[.cells [.fz Riii v.2.2.2.2.2.2.1],.cells [i6 v.2.2.2.2.2.2.2.1,i6 v.2.2.2.2.2.2.2.2.1],.cells [.fz Riii v.2.2.2.2.2.2.2.2.2]]⟩
def q22a (C:q211) (v:q224):Dt q228:=(Dt.bnd (C.1 (((0:Int),()),())) fun r1=>(Dt.bnd (C.2.2.1 ((v.2.2.2.2.2.2.2.2,()),(v.2.2.2.2.2.2.1,v.2.2.2.2.2.2.2.1,()),(r1.1,r1.2,()),())) fun r2=>(Dt.ret (v.1,v.2.1,v.2.2.1,v.2.2.2.1,v.2.2.2.2.1,r2.2,v.2.2.2.2.2.1,v.2.2.2.2.2.2.1,v.2.2.2.2.2.2.2.1,v.2.2.2.2.2.2.2.2))))
theorem q22b C v:q25f (regO (qdk f3) 10) true [(1,(.box [.val Riii])),(3,.any),(4,(.box [.val Riii])),(6,.any),(8,.any),(10,.any),(12,.any),(14,.any),(16,.any)] q225 q22a q229 C v:=rgI (by kernel_rfl)
abbrev q22c:Type:=Int×Int×Int×Int×Int×Int×Int×List Diii×Int×Int×List Diii
def q22d (v:q22c):St:=⟨[(1,.ptr 0 0),(3,.ptr 1 0),(4,.ptr 2 0),(6,i6 v.1),(8,i6 v.2.1),(10,i6 v.2.2.1),(12,i6 v.2.2.2.1),(14,i6 v.2.2.2.2.1),(16,i6 v.2.2.2.2.2.1),(18,i6 v.2.2.2.2.2.2.1)],[.cells [.fz Riii v.2.2.2.2.2.2.2.1],.cells [i6 v.2.2.2.2.2.2.2.2.1,i6 v.2.2.2.2.2.2.2.2.2.1],.cells [.fz Riii v.2.2.2.2.2.2.2.2.2.2]]⟩
def q22e (C:q211) (v:q228):Dt q22c:=(Dt.bnd (C.2.2.2.2.1 (())) fun r1=>(Dt.bnd (C.1 (((0:Int),()),())) fun r2=>(Dt.bnd (C.1 (((0:Int),()),())) fun r3=>(Dt.bnd (C.2.2.2.1 ((r1,()),(r2.1,r2.2,()),(r3.1,r3.2,()),((1:Int),()),((3:Int),()),())) fun r4=>(Dt.ret (v.1,v.2.1,v.2.2.1,v.2.2.2.1,v.2.2.2.2.1,v.2.2.2.2.2.1,r4.2,v.2.2.2.2.2.2.1,v.2.2.2.2.2.2.2.1,v.2.2.2.2.2.2.2.2.1,v.2.2.2.2.2.2.2.2.2))))))
theorem q22f C v:q25f (regO (qdk f3) 11) false [(1,(.box [.val Riii])),(3,.any),(4,(.box [.val Riii])),(6,.any),(8,.any),(10,.any),(12,.any),(14,.any),(16,.any),(18,.any)] q229 q22e q22d C v:=rgI (by kernel_rfl)
abbrev q22g:Type:=Int×Int×Int×Int×Int×Int×Int×Bool×Int×List Diii×Int×Int×List Diii
def q22h (v:q22g):St:=⟨[(1,.ptr 0 0),(3,.ptr 1 0),(4,.ptr 2 0),(6,i6 v.1),(8,i6 v.2.1),(10,i6 v.2.2.1),(12,i6 v.2.2.2.1),(14,i6 v.2.2.2.2.1),(16,i6 v.2.2.2.2.2.1),(18,i6 v.2.2.2.2.2.2.1),(19,.bool v.2.2.2.2.2.2.2.1),(20,i6 v.2.2.2.2.2.2.2.2.1)],[.cells [.fz Riii v.2.2.2.2.2.2.2.2.2.1],.cells [i6 v.2.2.2.2.2.2.2.2.2.2.1,i6 v.2.2.2.2.2.2.2.2.2.2.2.1],.cells [.fz Riii v.2.2.2.2.2.2.2.2.2.2.2.2]]⟩
def q22i (C:q211) (v:q22c):Dt q22g:=(Dt.bnd (C.2.2.2.2.1 (())) fun r1=>(Dt.bnd (C.1 (((0:Int),()),())) fun r2=>(Dt.bnd (C.1 (((0:Int),()),())) fun r3=>(Dt.bnd (C.2.2.2.1 ((r1,()),(r2.1,r2.2,()),(r3.1,r3.2,()),((2:Int),()),((2:Int),()),())) fun r4=>(Dt.ret (v.1,v.2.1,v.2.2.1,v.2.2.2.1,v.2.2.2.2.1,v.2.2.2.2.2.1,v.2.2.2.2.2.2.1,r4.1,r4.2,v.2.2.2.2.2.2.2.1,v.2.2.2.2.2.2.2.2.1,v.2.2.2.2.2.2.2.2.2.1,v.2.2.2.2.2.2.2.2.2.2))))))
theorem q22j C v:q25f (regO (qdk f3) 12) false [(1,(.box [.val Riii])),(3,.any),(4,(.box [.val Riii])),(6,.any),(8,.any),(10,.any),(12,.any),(14,.any),(16,.any),(18,.any),(19,.any),(20,.any)] q22d q22i q22h C v:=rgI (by kernel_rfl)
abbrev q22k:Type:=Int×Int×Int×Int×Int×Int×Int×Bool×Int×Int×List Diii×Int×Int×List Diii
def q22l (v:q22k):St:=⟨[(1,.ptr 0 0),(3,.ptr 1 0),(4,.ptr 2 0),(6,i6 v.1),(8,i6 v.2.1),(10,i6 v.2.2.1),(12,i6 v.2.2.2.1),(14,i6 v.2.2.2.2.1),(16,i6 v.2.2.2.2.2.1),(18,i6 v.2.2.2.2.2.2.1),(19,.bool v.2.2.2.2.2.2.2.1),(20,i6 v.2.2.2.2.2.2.2.2.1),(22,i6 v.2.2.2.2.2.2.2.2.2.1)],[.cells [.fz Riii v.2.2.2.2.2.2.2.2.2.2.1],.cells [i6 v.2.2.2.2.2.2.2.2.2.2.2.1,i6 v.2.2.2.2.2.2.2.2.2.2.2.2.1],.cells [.fz Riii v.2.2.2.2.2.2.2.2.2.2.2.2.2]]⟩
def q22m (C:q211) (v:q22g):Dt q22k:=(Dt.bnd (C.1 (((0:Int),()),())) fun r1=>(Dt.bnd (C.1 (((0:Int),()),())) fun r2=>(Dt.bnd (C.2.2.2.2.2.1 ((v.2.2.2.2.2.2.2.2.2.1,()),(r1.1,r1.2,()),(r2.1,r2.2,()),())) fun r3=>(Dt.ret (v.1,v.2.1,v.2.2.1,v.2.2.2.1,v.2.2.2.2.1,v.2.2.2.2.2.1,v.2.2.2.2.2.2.1,v.2.2.2.2.2.2.2.1,v.2.2.2.2.2.2.2.2.1,r3.2,v.2.2.2.2.2.2.2.2.2.1,v.2.2.2.2.2.2.2.2.2.2.1,v.2.2.2.2.2.2.2.2.2.2.2.1,v.2.2.2.2.2.2.2.2.2.2.2.2)))))
theorem q22n C v:q25f (regO (qdk f3) 13) true [(1,(.box [.val Riii])),(3,.any),(4,(.box [.val Riii])),(6,.any),(8,.any),(10,.any),(12,.any),(14,.any),(16,.any),(18,.any),(19,.any),(20,.any),(22,.any)] q22h q22m q22l C v:=rgI (by kernel_rfl)
abbrev q22o:Type:=Int×Int×Int×Int×Int×Int×Int×Bool×Int×Int×Int×List Diii
def q22p (v:q22o):St:=⟨[(1,.ptr 0 0),(6,i6 v.1),(8,i6 v.2.1),(10,i6 v.2.2.1),(12,i6 v.2.2.2.1),(14,i6 v.2.2.2.2.1),(16,i6 v.2.2.2.2.2.1),(18,i6 v.2.2.2.2.2.2.1),(19,.bool v.2.2.2.2.2.2.2.1),(20,i6 v.2.2.2.2.2.2.2.2.1),(22,i6 v.2.2.2.2.2.2.2.2.2.1),(24,i6 v.2.2.2.2.2.2.2.2.2.2.1)],[.cells [.fz Riii v.2.2.2.2.2.2.2.2.2.2.2]]⟩
def q22q (C:q211) (v:q22k):Dt q22o:=(Dt.bnd (C.2.2.2.2.2.2.1 ((v.2.2.2.2.2.2.2.2.2.2.2.2.2,()),(v.2.2.2.2.2.2.2.2.2.2.2.1,v.2.2.2.2.2.2.2.2.2.2.2.2.1,()),((0:Int),()),())) fun r1=>(Dt.ret (v.1,v.2.1,v.2.2.1,v.2.2.2.1,v.2.2.2.2.1,v.2.2.2.2.2.1,v.2.2.2.2.2.2.1,v.2.2.2.2.2.2.2.1,v.2.2.2.2.2.2.2.2.1,v.2.2.2.2.2.2.2.2.2.1,r1.2.2,v.2.2.2.2.2.2.2.2.2.2.1)))
theorem q22r C v:q25f (regO (qdk f3) 14) false [(1,(.box [.val Riii])),(6,.any),(8,.any),(10,.any),(12,.any),(14,.any),(16,.any),(18,.any),(19,.any),(20,.any),(22,.any),(24,.any)] q22l q22q q22p C v:=rgI (by kernel_rfl)
abbrev q22s:Type:=Int×Int×Int×Int×Int×Int×Int×Bool×Int×Int×Int×Int×List Diii
def q22t (v:q22s):St:=⟨[(1,.ptr 0 0),(6,i6 v.1),(8,i6 v.2.1),(10,i6 v.2.2.1),(12,i6 v.2.2.2.1),(14,i6 v.2.2.2.2.1),(16,i6 v.2.2.2.2.2.1),(18,i6 v.2.2.2.2.2.2.1),(19,.bool v.2.2.2.2.2.2.2.1),(20,i6 v.2.2.2.2.2.2.2.2.1),(22,i6 v.2.2.2.2.2.2.2.2.2.1),(24,i6 v.2.2.2.2.2.2.2.2.2.2.1),(26,i6 v.2.2.2.2.2.2.2.2.2.2.2.1)],[.cells [.fz Riii v.2.2.2.2.2.2.2.2.2.2.2.2]]⟩
def q22u (C:q211) (v:q22o):Dt q22s:=(Dt.bnd (C.1 (((0:Int),()),())) fun r1=>(Dt.bnd (C.2.2.2.2.2.2.1 ((v.2.2.2.2.2.2.2.2.2.2.2,()),(r1.1,r1.2,()),((0:Int),()),())) fun r2=>(Dt.ret (v.1,v.2.1,v.2.2.1,v.2.2.2.1,v.2.2.2.2.1,v.2.2.2.2.2.1,v.2.2.2.2.2.2.1,v.2.2.2.2.2.2.2.1,v.2.2.2.2.2.2.2.2.1,v.2.2.2.2.2.2.2.2.2.1,v.2.2.2.2.2.2.2.2.2.2.1,r2.2.2,v.2.2.2.2.2.2.2.2.2.2.2))))
theorem q22v C v:q25f (regO (qdk f3) 15) true [(1,(.box [.val Riii])),(6,.any),(8,.any),(10,.any),(12,.any),(14,.any),(16,.any),(18,.any),(19,.any),(20,.any),(22,.any),(24,.any),(26,.any)] q22p q22u q22t C v:=rgI (by kernel_rfl)
abbrev q22w:Type:=Int×Int×Int×Int×Int×Int×Int×Bool×Int×Int×Int×Int×Int×List Diii×Int×Int
def q22x (v:q22w):St:=⟨[(1,.ptr 0 0),(6,i6 v.1),(8,i6 v.2.1),(10,i6 v.2.2.1),(12,i6 v.2.2.2.1),(14,i6 v.2.2.2.2.1),(16,i6 v.2.2.2.2.2.1),(18,i6 v.2.2.2.2.2.2.1),(19,.bool v.2.2.2.2.2.2.2.1),(20,i6 v.2.2.2.2.2.2.2.2.1),(22,i6 v.2.2.2.2.2.2.2.2.2.1),(24,i6 v.2.2.2.2.2.2.2.2.2.2.1),(26,i6 v.2.2.2.2.2.2.2.2.2.2.2.1),(27,.ptr 1 0),(28,i6 v.2.2.2.2.2.2.2.2.2.2.2.2.1)],[.cells [.fz Riii v.2.2.2.2.2.2.2.2.2.2.2.2.2.1],.cells [i6 v.2.2.2.2.2.2.2.2.2.2.2.2.2.2.1,i6 v.2.2.2.2.2.2.2.2.2.2.2.2.2.2.2]]⟩
def q22y (C:q211) (v:q22s):Dt q22w:=(Dt.bnd (C.1 (((0:Int),()),())) fun r1=>(Dt.bnd (C.2.2.2.2.2.2.1 ((v.2.2.2.2.2.2.2.2.2.2.2.2,()),(r1.1,r1.2,()),((1:Int),()),())) fun r2=>(Dt.ret (v.1,v.2.1,v.2.2.1,v.2.2.2.1,v.2.2.2.2.1,v.2.2.2.2.2.1,v.2.2.2.2.2.2.1,v.2.2.2.2.2.2.2.1,v.2.2.2.2.2.2.2.2.1,v.2.2.2.2.2.2.2.2.2.1,v.2.2.2.2.2.2.2.2.2.2.1,v.2.2.2.2.2.2.2.2.2.2.2.1,r2.2.2,v.2.2.2.2.2.2.2.2.2.2.2.2,r2.1,r2.2.1))))
theorem q22z C v:q25f (regO (qdk f3) 16) true [(1,(.box [.val Riii])),(6,.any),(8,.any),(10,.any),(12,.any),(14,.any),(16,.any),(18,.any),(19,.any),(20,.any),(22,.any),(24,.any),(26,.any),(27,.any),(28,.any)] q22t q22y q22x C v:=rgI (by kernel_rfl)
abbrev q230:Type:=Int×Int×Int×Int×Int×Int×Int×Bool×Int×Int×Int×Int×Int×List DLiE×Int×Int×Int
def q231 (v:q230):St:=⟨[(6,i6 v.1),(8,i6 v.2.1),(10,i6 v.2.2.1),(12,i6 v.2.2.2.1),(14,i6 v.2.2.2.2.1),(16,i6 v.2.2.2.2.2.1),(18,i6 v.2.2.2.2.2.2.1),(19,.bool v.2.2.2.2.2.2.2.1),(20,i6 v.2.2.2.2.2.2.2.2.1),(22,i6 v.2.2.2.2.2.2.2.2.2.1),(24,i6 v.2.2.2.2.2.2.2.2.2.2.1),(26,i6 v.2.2.2.2.2.2.2.2.2.2.2.1),(27,.ptr 0 0),(28,i6 v.2.2.2.2.2.2.2.2.2.2.2.2.1),(29,.fz RLiE v.2.2.2.2.2.2.2.2.2.2.2.2.2.1),(30,i6 v.2.2.2.2.2.2.2.2.2.2.2.2.2.2.1)],[.cells [i6 v.2.2.2.2.2.2.2.2.2.2.2.2.2.2.2.1,i6 v.2.2.2.2.2.2.2.2.2.2.2.2.2.2.2.2]]⟩
def q232 (C:q211) (v:q22w):Dt q230:=(Dt.bnd (C.1 (((0:Int),()),())) fun r1=>(Dt.bnd (C.1 (((0:Int),()),())) fun r2=>(Dt.bnd (C.2.2.1 ((v.2.2.2.2.2.2.2.2.2.2.2.2.2.1,()),(r1.1,r1.2,()),(r2.1,r2.2,()),())) fun r3=>(Dt.ret (v.1,v.2.1,v.2.2.1,v.2.2.2.1,v.2.2.2.2.1,v.2.2.2.2.2.1,v.2.2.2.2.2.2.1,v.2.2.2.2.2.2.2.1,v.2.2.2.2.2.2.2.2.1,v.2.2.2.2.2.2.2.2.2.1,v.2.2.2.2.2.2.2.2.2.2.1,v.2.2.2.2.2.2.2.2.2.2.2.1,v.2.2.2.2.2.2.2.2.2.2.2.2.1,r3.1,r3.2,v.2.2.2.2.2.2.2.2.2.2.2.2.2.2.1,v.2.2.2.2.2.2.2.2.2.2.2.2.2.2.2)))))
theorem q233 C v:q25f (regO (qdk f3) 17) true [(6,.any),(8,.any),(10,.any),(12,.any),(14,.any),(16,.any),(18,.any),(19,.any),(20,.any),(22,.any),(24,.any),(26,.any),(27,.any),(28,.any),(29,(.val RLiE)),(30,.any)] q22x q232 q231 C v:=rgI (by kernel_rfl)
abbrev q234:Type:=Int×Int×Int×Int×Int×Int×Int×Bool×Int×Int×Int×Int×Int×List DLiE×Int×List Di×Int×Int×Int
def q235 (v:q234):St:=⟨[(6,i6 v.1),(8,i6 v.2.1),(10,i6 v.2.2.1),(12,i6 v.2.2.2.1),(14,i6 v.2.2.2.2.1),(16,i6 v.2.2.2.2.2.1),(18,i6 v.2.2.2.2.2.2.1),(19,.bool v.2.2.2.2.2.2.2.1),(20,i6 v.2.2.2.2.2.2.2.2.1),(22,i6 v.2.2.2.2.2.2.2.2.2.1),(24,i6 v.2.2.2.2.2.2.2.2.2.2.1),(26,i6 v.2.2.2.2.2.2.2.2.2.2.2.1),(27,.ptr 0 0),(28,i6 v.2.2.2.2.2.2.2.2.2.2.2.2.1),(29,.fz RLiE v.2.2.2.2.2.2.2.2.2.2.2.2.2.1),(30,i6 v.2.2.2.2.2.2.2.2.2.2.2.2.2.2.1),(31,.fz Ri v.2.2.2.2.2.2.2.2.2.2.2.2.2.2.2.1),(32,i6 v.2.2.2.2.2.2.2.2.2.2.2.2.2.2.2.2.1)],[.cells [i6 v.2.2.2.2.2.2.2.2.2.2.2.2.2.2.2.2.2.1,i6 v.2.2.2.2.2.2.2.2.2.2.2.2.2.2.2.2.2.2]]⟩
def q236 (C:q211) (v:q230):Dt q234:=(Dt.bnd (C.2.2.2.2.1 (())) fun r1=>(Dt.bnd (C.1 (((0:Int),()),())) fun r2=>(Dt.bnd (C.1 (((1:Int),()),())) fun r3=>(Dt.bnd (C.2.2.2.2.2.1 ((r1,()),(r2.1,r2.2,()),(r3.1,r3.2,()),())) fun r4=>(Dt.ret (v.1,v.2.1,v.2.2.1,v.2.2.2.1,v.2.2.2.2.1,v.2.2.2.2.2.1,v.2.2.2.2.2.2.1,v.2.2.2.2.2.2.2.1,v.2.2.2.2.2.2.2.2.1,v.2.2.2.2.2.2.2.2.2.1,v.2.2.2.2.2.2.2.2.2.2.1,v.2.2.2.2.2.2.2.2.2.2.2.1,v.2.2.2.2.2.2.2.2.2.2.2.2.1,v.2.2.2.2.2.2.2.2.2.2.2.2.2.1,v.2.2.2.2.2.2.2.2.2.2.2.2.2.2.1,r4.1,r4.2,v.2.2.2.2.2.2.2.2.2.2.2.2.2.2.2.1,v.2.2.2.2.2.2.2.2.2.2.2.2.2.2.2.2))))))
theorem q237 C v:q25f (regO (qdk f3) 18) false [(6,.any),(8,.any),(10,.any),(12,.any),(14,.any),(16,.any),(18,.any),(19,.any),(20,.any),(22,.any),(24,.any),(26,.any),(27,.any),(28,.any),(29,(.val RLiE)),(30,.any),(31,(.val Ri)),(32,.any)] q231 q236 q235 C v:=rgI (by kernel_rfl)
abbrev q238:Type:=Int×Int×Int×Int×Int×Int×Int×Bool×Int×Int×Int×Int×Int×List DLiE×Int×List Di×Int×List Di×Int×Int×Int
def q239 (v:q238):St:=⟨[(6,i6 v.1),(8,i6 v.2.1),(10,i6 v.2.2.1),(12,i6 v.2.2.2.1),(14,i6 v.2.2.2.2.1),(16,i6 v.2.2.2.2.2.1),(18,i6 v.2.2.2.2.2.2.1),(19,.bool v.2.2.2.2.2.2.2.1),(20,i6 v.2.2.2.2.2.2.2.2.1),(22,i6 v.2.2.2.2.2.2.2.2.2.1),(24,i6 v.2.2.2.2.2.2.2.2.2.2.1),(26,i6 v.2.2.2.2.2.2.2.2.2.2.2.1),(27,.ptr 0 0),(28,i6 v.2.2.2.2.2.2.2.2.2.2.2.2.1),(29,.fz RLiE v.2.2.2.2.2.2.2.2.2.2.2.2.2.1),(30,i6 v.2.2.2.2.2.2.2.2.2.2.2.2.2.2.1),(31,.fz Ri v.2.2.2.2.2.2.2.2.2.2.2.2.2.2.2.1),(32,i6 v.2.2.2.2.2.2.2.2.2.2.2.2.2.2.2.2.1),(33,.fz Ri v.2.2.2.2.2.2.2.2.2.2.2.2.2.2.2.2.2.1),(34,i6 v.2.2.2.2.2.2.2.2.2.2.2.2.2.2.2.2.2.2.1)],[.cells [i6 v.2.2.2.2.2.2.2.2.2.2.2.2.2.2.2.2.2.2.2.1,i6 v.2.2.2.2.2.2.2.2.2.2.2.2.2.2.2.2.2.2.2.2]]⟩
def q23a (C:q211) (v:q234):Dt q238:=(Dt.bnd (C.2.2.2.2.1 (())) fun r1=>(Dt.bnd (C.1 (((9:Int),()),())) fun r2=>(Dt.bnd (C.1 (((0:Int),()),())) fun r3=>(Dt.bnd (C.2.2.2.2.2.1 ((r1,()),(r2.1,r2.2,()),(r3.1,r3.2,()),())) fun r4=>(Dt.ret (v.1,v.2.1,v.2.2.1,v.2.2.2.1,v.2.2.2.2.1,v.2.2.2.2.2.1,v.2.2.2.2.2.2.1,v.2.2.2.2.2.2.2.1,v.2.2.2.2.2.2.2.2.1,v.2.2.2.2.2.2.2.2.2.1,v.2.2.2.2.2.2.2.2.2.2.1,v.2.2.2.2.2.2.2.2.2.2.2.1,v.2.2.2.2.2.2.2.2.2.2.2.2.1,v.2.2.2.2.2.2.2.2.2.2.2.2.2.1,v.2.2.2.2.2.2.2.2.2.2.2.2.2.2.1,v.2.2.2.2.2.2.2.2.2.2.2.2.2.2.2.1,v.2.2.2.2.2.2.2.2.2.2.2.2.2.2.2.2.1,r4.1,r4.2,v.2.2.2.2.2.2.2.2.2.2.2.2.2.2.2.2.2.1,v.2.2.2.2.2.2.2.2.2.2.2.2.2.2.2.2.2.2))))))
theorem q23b C v:q25f (regO (qdk f3) 19) false [(6,.any),(8,.any),(10,.any),(12,.any),(14,.any),(16,.any),(18,.any),(19,.any),(20,.any),(22,.any),(24,.any),(26,.any),(27,.any),(28,.any),(29,(.val RLiE)),(30,.any),(31,(.val Ri)),(32,.any),(33,(.val Ri)),(34,.any)] q235 q23a q239 C v:=rgI (by kernel_rfl)
abbrev q23c:Type:=Bool
def q23d (v:q23c):St:=⟨[(0,.bool v)],[]⟩
def q23e (C:q211) (v:q238):Dt q23c:=(Dt.bnd (C.2.2.2.2.2.2.2.1 (())) fun r1=>(Dt.ite r1 (Dt.ite (v.1 == (32:Int)) (Dt.ite (v.2.1 == (8:Int)) (Dt.ite (v.2.2.1 == (16:Int)) (Dt.ite (v.2.2.2.1 == (8:Int)) (Dt.ite (v.2.2.2.2.1 == (2:Int)) (Dt.ite (v.2.2.2.2.2.1 == (16:Int)) (Dt.ite (v.2.2.2.2.2.2.1 == (6:Int)) (Dt.ite (v.2.2.2.2.2.2.2.2.1 == (0:Int)) (Dt.ite v.2.2.2.2.2.2.2.1 (Dt.ite (v.2.2.2.2.2.2.2.2.2.1 == (42:Int)) (Dt.ite (v.2.2.2.2.2.2.2.2.2.2.1 == (16:Int)) (Dt.ite (v.2.2.2.2.2.2.2.2.2.2.2.1 == (2:Int)) (Dt.ite (v.2.2.2.2.2.2.2.2.2.2.2.2.1 == (0:Int)) (Dt.bnd (C.1 (((0:Int),()),())) fun r2=>(Dt.ite ((v.2.2.2.2.2.2.2.2.2.2.2.2.2.2.2.2.2.2.2.1 == r2.1)&&((v.2.2.2.2.2.2.2.2.2.2.2.2.2.2.2.2.2.2.2.2 == r2.2)&&true)) (Dt.ite (v.2.2.2.2.2.2.2.2.2.2.2.2.2.2.1 == (0:Int)) (Dt.ite ((List.length v.2.2.2.2.2.2.2.2.2.2.2.2.2.1:Int) == (0:Int)) (Dt.ite (v.2.2.2.2.2.2.2.2.2.2.2.2.2.2.2.2.1 == (0:Int)) (Dt.bnd (C.2.2.2.2.2.2.2.2.1 ((v.2.2.2.2.2.2.2.2.2.2.2.2.2.2.2.1,()),(([((1:Int),()),((5:Int),())]:List Di),()),())) fun r3=>(Dt.ite r3 (Dt.ite (v.2.2.2.2.2.2.2.2.2.2.2.2.2.2.2.2.2.2.1 == (0:Int)) (Dt.bnd (C.2.2.2.2.2.2.2.2.1 ((v.2.2.2.2.2.2.2.2.2.2.2.2.2.2.2.2.2.1,()),(([((1:Int),())]:List Di),()),())) fun r4=>(Dt.ret r4)) (Dt.ret false)) (Dt.ret false))) (Dt.ret false)) (Dt.ret false)) (Dt.ret false)) (Dt.ret false))) (Dt.ret false)) (Dt.ret false)) (Dt.ret false)) (Dt.ret false)) (Dt.ret false)) (Dt.ret false)) (Dt.ret false)) (Dt.ret false)) (Dt.ret false)) (Dt.ret false)) (Dt.ret false)) (Dt.ret false)) (Dt.ret false)) (Dt.ret false)))
theorem q23f C v:q25f (regO (qdk f3) 20) true [(0,.any)] q239 q23e q23d C v:=rgI (by kernel_rfl)
def q23g (d:Nat) (x:q20x):Option q20y :=
 (q216 (q212 d) ()).eval fun y0 =>
 (q21a (q212 d) ()).eval fun y1 =>
 (q21e (q212 d) y1).eval fun y2 =>
 (q21i (q212 d) y2).eval fun y3 =>
 (q21m (q212 d) y3).eval fun y4 =>
 (q21q (q212 d) y4).eval fun y5 =>
 (q21u (q212 d) y5).eval fun y6 =>
 (q21y (q212 d) y6).eval fun y7 =>
 (q222 (q212 d) y7).eval fun y8 =>
 (q226 (q212 d) y8).eval fun y9 =>
 (q22a (q212 d) y9).eval fun y10 =>
 (q22e (q212 d) y10).eval fun y11 =>
 (q22i (q212 d) y11).eval fun y12 =>
 (q22m (q212 d) y12).eval fun y13 =>
 (q22q (q212 d) y13).eval fun y14 =>
 (q22u (q212 d) y14).eval fun y15 =>
 (q22y (q212 d) y15).eval fun y16 =>
 (q232 (q212 d) y16).eval fun y17 =>
 (q236 (q212 d) y17).eval fun y18 =>
 (q23a (q212 d) y18).eval fun y19 =>
 (q23e (q212 d) y19).eval fun y20 =>
 some y20
theorem q23h (d:Nat):COK prog (q210 (q23g d)):=by
 have hm:prog.follows .mixedOrders=true:=mixed
 have hT:=tys
 have hC0:OrcOK prog (orc (q213 (q212 d))):=qde (by
  intro S hS
  simp only [q213,List.mem_cons,List.not_mem_nil,or_false] at hS
  rcases hS with rfl | rfl | rfl | rfl | rfl | rfl | rfl | rfl | rfl
  · exact q1yz d
  · exact q1j1 d
  · exact q1mi d
  · exact q1sh d
  · exact q1zh d
  · exact q1u7 d
  · exact q1w5 d
  · exact q20v d
  · exact qsb d)
 have hC:OrcOK prog (orc (q213 (q212 d))):=hC0
 refine q93 (c:=qdk f3) (fn:=f3) hT (by kernel_rfl) (by kernel_rfl) (by decide) fun x r h w0 φ0 Q hend=>?_
 replace h:q23g d x=some r:=h
 unfold q23g at h
 show Run prog w0 φ0 227 (qdk f3) ⟨[],[]⟩ Q
 refine q24b hm hT hC (q217 (q212 d) ()) h fun y0 h=>?_
 refine q24b hm hT hC (q21b (q212 d) ()) h fun y1 h=>?_
 refine q24b hm hT hC (q21f (q212 d) y1) h fun y2 h=>?_
 refine q24b hm hT hC (q21j (q212 d) y2) h fun y3 h=>?_
 refine q24b hm hT hC (q21n (q212 d) y3) h fun y4 h=>?_
 refine q24b hm hT hC (q21r (q212 d) y4) h fun y5 h=>?_
 refine q24b hm hT hC (q21v (q212 d) y5) h fun y6 h=>?_
 refine q24b hm hT hC (q21z (q212 d) y6) h fun y7 h=>?_
 refine q24b hm hT hC (q223 (q212 d) y7) h fun y8 h=>?_
 refine q24b hm hT hC (q227 (q212 d) y8) h fun y9 h=>?_
 refine q24b hm hT hC (q22b (q212 d) y9) h fun y10 h=>?_
 refine q24b hm hT hC (q22f (q212 d) y10) h fun y11 h=>?_
 refine q24b hm hT hC (q22j (q212 d) y11) h fun y12 h=>?_
 refine q24b hm hT hC (q22n (q212 d) y12) h fun y13 h=>?_
 refine q24b hm hT hC (q22r (q212 d) y13) h fun y14 h=>?_
 refine q24b hm hT hC (q22v (q212 d) y14) h fun y15 h=>?_
 refine q24b hm hT hC (q22z (q212 d) y15) h fun y16 h=>?_
 refine q24b hm hT hC (q233 (q212 d) y16) h fun y17 h=>?_
 refine q24b hm hT hC (q237 (q212 d) y17) h fun y18 h=>?_
 refine q24b hm hT hC (q23b (q212 d) y18) h fun y19 h=>?_
 refine q24b hm hT hC (q23f (q212 d) y19) h fun y20 h=>?_
 refine q8l ?_
 cases h
 exact (hend _ (by kernel_rfl)).2
end Go.Proofs.Ytbjpmdhdoggobaa

namespace Go
open Go.ChangeShapes Go.WideShapes Go.ChangeAt Go.RowKit
section
variable {H:Type} {enc:TypeId×Value→H} {P:Program} {w:World} {base:Nat} {spare:Nat→Bool} {held:Bool}
end
end Go
namespace Go.Proofs.Ytbjpmdhdoggobaa
open Go.ChangeShapes Go.WideShapes Go.ChangeAt Go.RowKit
theorem q23o:ownKnob Try.prog.godebug=none:=by kernel_rfl
end Go.Proofs.Ytbjpmdhdoggobaa

namespace Go
open Go.ChangeShapes Go.WideShapes Go.ChangeAt Go.RowKit Go.Deep
theorem qd {α:Type} {cells:α→List Value} {k:Nat} (hk:∀ a,(cells a).length=k) (h0:0<k):∀ (l:List α) (j:Nat) (u:Value),(l.flatMap cells)[j]?=some u→∃ x,l[j / k]?=some x∧(cells x)[j % k]?=some u
  | [],j,u,h=>by simp at h
  | x :: l, j, u, h => by
    rw [List.flatMap_cons] at h
    rcases Nat.lt_or_ge j k with hj | hj
    · rw [List.getElem?_append_left (by rw [hk]; exact hj)] at h
      rw [Nat.div_eq_of_lt hj,Nat.mod_eq_of_lt hj]
      exact ⟨x,rfl,h⟩
    · rw [List.getElem?_append_right (by rw [hk]; exact hj), hk] at h
      obtain ⟨y,hy,hu⟩:=qd hk h0 l (j - k) u h
      obtain ⟨m,rfl⟩:∃ m,j=m+k:=⟨j - k,by omega⟩
      rw [Nat.add_sub_cancel] at hy hu
      rw [Nat.add_div_right _ h0,Nat.add_mod_right]
      exact ⟨y,by simpa using hy,hu⟩
theorem q9 {α:Type} {cells:α→List Value} {k:Nat} (hk:∀ a,(cells a).length=k) (l:List α):(l.flatMap cells).length=l.length*k:=by
  induction l with
  | nil=>simp
  | cons x l ih=>rw [List.flatMap_cons,List.length_append,ih,hk,List.length_cons,Nat.add_mul];omega
section
variable {H:Type} {enc:TypeId×Value→H} {P:Program} {w:World} {base:Nat} {held:Bool}
end
end Go

namespace Go.Proofs.Ytbjpmdhdoggobaa
open Go.ChangeShapes Go.WideShapes Go.ChangeAt Go.RowKit Go.Pel Go.Deep
section
variable {H:Type} {enc:TypeId×Value→H} {w:World} {base:Nat} {spare:Nat→Bool} {held:Bool}
end
end Go.Proofs.Ytbjpmdhdoggobaa
