/- Walks of the references; the orders agree; examples. -/
import Derived.Test.YtbjpmdhdoggobaaGreatGe
set_option linter.unusedSimpArgs false
set_option linter.unusedVariables false
namespace Go.Proofs.YtbjpmdhdoggobaaGreat
open Go Go.Tx Go.Proofs.Tryz
set_option maxRecDepth 100000
set_option maxHeartbeats 0
abbrev q1xk:List Pk:=[.row qjw true,.row Rii true]
abbrev q1xl:Type:=qjx×Dii×Unit
abbrev q1xm:Type:=List Di×List Dii×Int
def q1xn (r:q1xm):LV×List Ob:=(.tup [.rs 0,.rs 1,.int .i64 r.2.2],[.rows Ri r.1,.rows Rii r.2.1])
def q1xo (F:q1xl→Option q1xm):Go.Tx.Spec:=⟨35,q1xk,q1xm,F,q1xn⟩
abbrev q1xp:Type:=(qvi→Option qvj)×(qv0→Option qv1)×(q1gg→Option q1gh)×(q1fk→Option q1fl)×Unit
def q1xq (d:Nat):q1xp:=(qvn d,qv5 d,q1j0 d,q1gd d,())
def q1xr (C:q1xp):List Go.Tx.Spec:=[qvl C.1,qv3 C.2.1,q1gj C.2.2.1,q1fn C.2.2.2.1]
abbrev q1xs:Type:=List Diii×Int×Int
def q1xt (v:q1xs):St:=⟨[(0,.agg [.fz Riii v.1]),(1,.agg [i6 v.2.1,i6 v.2.2])],[]⟩
abbrev q1xu:Type:=List Diii×Int×Int
def q1xv (v:q1xu):St:=⟨[(2,.ptr 0 0),(3,.ptr 1 0)],[.cells [.fz Riii v.1],.cells [i6 v.2.1,i6 v.2.2]]⟩
def q1xw (C:q1xp) (v:q1xs):Dt q1xu:=(Dt.ret (v.1,v.2.1,v.2.2))
abbrev q3qe {V Y:Type}:=@rg q1xp V Y tysT (fun C=>(orc (q1xr C))) 83
theorem q1xx C v:q3qe (regO (qdk f35) 0) false [(2,(.box [.val Riii])),(3,.any)] q1xt q1xw q1xv C v:=rgI (by kernel_rfl)
abbrev q1xy:Type:=Int×List Diii×Int×Int×List Di
def q1xz (v:q1xy):St:=⟨[(2,.ptr 0 0),(3,.ptr 1 0),(7,.rs 2),(8,i6 v.1)],[.cells [.fz Riii v.2.1],.cells [i6 v.2.2.1,i6 v.2.2.2.1],.rows Ri v.2.2.2.2]⟩
def q1y0 (C:q1xp) (v:q1xu):Dt q1xy:=(Dt.bnd (C.1 ((v.1,()),(v.2.1,v.2.2,()),())) fun r1=>(Dt.ret (r1.2,v.1,v.2.1,v.2.2,r1.1)))
theorem q1y1 C v:q3qe (regO (qdk f35) 1) false [(2,(.box [.val Riii])),(3,.any),(7,(.own Ri)),(8,.any)] q1xv q1y0 q1xz C v:=rgI (by kernel_rfl)
abbrev q1y2:Type:=Int×Bool×List Diii×Int×Int×List Di
def q1y3 (v:q1y2):St:=⟨[(2,.ptr 0 0),(3,.ptr 1 0),(7,.rs 2),(8,i6 v.1),(27,.bool v.2.1)],[.cells [.fz Riii v.2.2.1],.cells [i6 v.2.2.2.1,i6 v.2.2.2.2.1],.rows Ri v.2.2.2.2.2]⟩
def q1y4 (C:q1xp) (v:q1xy):Dt q1y2:=(Dt.ret (v.1,(v.1 != (0:Int)),v.2.1,v.2.2.1,v.2.2.2.1,v.2.2.2.2))
theorem q1y5 C v:q3qe (regO (qdk f35) 2) false [(2,(.box [.val Riii])),(3,.any),(7,(.own Ri)),(8,.any),(27,.any)] q1xz q1y4 q1y3 C v:=rgI (by kernel_rfl)
abbrev q1y6:Type:=Int×List Di×List Dii
def q1y7 (v:q1y6):St:=⟨[(4,.rs 0),(5,.rs 1),(6,i6 v.1)],[.rows Ri v.2.1,.rows Rii v.2.2]⟩
def q1y8 (C:q1xp) (v:q1y2):Dt q1y6:=(Dt.ret (v.1,([]:List Di),([]:List Dii)))
theorem q1y9 C v:q3qe (regO (qdk f35) 3) false [(4,(.own Ri)),(5,(.own Rii)),(6,.any)] q1y3 q1y8 q1y7 C v:=rgI (by kernel_rfl)
abbrev q1ya:Type:=List Diii×Int×Int×List Di×List Dii×List Dii
def q1yb (v:q1ya):St:=⟨[(2,.ptr 0 0),(3,.ptr 1 0),(7,.rs 2),(9,.rs 3),(10,.rs 4)],[.cells [.fz Riii v.1],.cells [i6 v.2.1,i6 v.2.2.1],.rows Ri v.2.2.2.1,.rows Rii v.2.2.2.2.1,.rows Rii v.2.2.2.2.2]⟩
def q1yc (C:q1xp) (v:q1y2):Dt q1ya:=(Dt.ret (v.2.2.1,v.2.2.2.1,v.2.2.2.2.1,v.2.2.2.2.2,([]:List Dii),([]:List Dii)))
theorem q1yd C v:q3qe (regO (qdk f35) 4) false [(2,(.box [.val Riii])),(3,.any),(7,(.own Ri)),(9,(.own Rii)),(10,(.own Rii))] q1y3 q1yc q1yb C v:=rgI (by kernel_rfl)
abbrev q1ye:Type:=Int×Int×List Diii×Int×Int×List Di×List Dii×List Dii
def q1yf (v:q1ye):St:=⟨[(2,.ptr 0 0),(3,.ptr 1 0),(7,.rs 2),(9,.rs 3),(10,.rs 4),(29,.rs 2),(30,i6 v.1),(31,i6 v.2.1)],[.cells [.fz Riii v.2.2.1],.cells [i6 v.2.2.2.1,i6 v.2.2.2.2.1],.rows Ri v.2.2.2.2.2.1,.rows Rii v.2.2.2.2.2.2.1,.rows Rii v.2.2.2.2.2.2.2]⟩
def q1yg (C:q1xp) (v:q1ya):Dt q1ye:=(Dt.ret ((List.length v.2.2.2.1:Int),(0:Int),v.1,v.2.1,v.2.2.1,v.2.2.2.1,v.2.2.2.2.1,v.2.2.2.2.2))
theorem q1yh C v:q3qe (regO (qdk f35) 5) false [(2,(.box [.val Riii])),(3,.any),(7,(.own Ri)),(9,(.own Rii)),(10,(.own Rii)),(29,(.own Ri)),(30,.any),(31,.any)] q1yb q1yg q1yf C v:=rgI (by kernel_rfl)
abbrev q1yi:Type:=Int×Int×Bool×List Diii×Int×Int×List Di×List Dii×List Dii
def q1yj (v:q1yi):St:=⟨[(2,.ptr 0 0),(3,.ptr 1 0),(7,.rs 2),(9,.rs 3),(10,.rs 4),(29,.rs 2),(30,i6 v.1),(31,i6 v.2.1),(32,.bool v.2.2.1)],[.cells [.fz Riii v.2.2.2.1],.cells [i6 v.2.2.2.2.1,i6 v.2.2.2.2.2.1],.rows Ri v.2.2.2.2.2.2.1,.rows Rii v.2.2.2.2.2.2.2.1,.rows Rii v.2.2.2.2.2.2.2.2]⟩
def q1yk (C:q1xp) (v:q1ye):Dt q1yi:=(Dt.ret (v.1,v.2.1,(decide (v.2.1<v.1)),v.2.2.1,v.2.2.2.1,v.2.2.2.2.1,v.2.2.2.2.2.1,v.2.2.2.2.2.2.1,v.2.2.2.2.2.2.2))
theorem q1yl C v:q3qe (regO (qdk f35) 6) false [(2,(.box [.val Riii])),(3,.any),(7,(.own Ri)),(9,(.own Rii)),(10,(.own Rii)),(29,(.own Ri)),(30,.any),(31,.any),(32,.any)] q1yf q1yk q1yj C v:=rgI (by kernel_rfl)
abbrev q1ym:Type:=Int×Int×Int×List Diii×Int×Int×List Di×List Dii×List Dii
def q1yn (v:q1ym):St:=⟨[(2,.ptr 0 0),(3,.ptr 1 0),(7,.rs 2),(9,.rs 3),(10,.rs 4),(12,i6 v.1),(29,.rs 2),(30,i6 v.2.1),(31,i6 v.2.2.1)],[.cells [.fz Riii v.2.2.2.1],.cells [i6 v.2.2.2.2.1,i6 v.2.2.2.2.2.1],.rows Ri v.2.2.2.2.2.2.1,.rows Rii v.2.2.2.2.2.2.2.1,.rows Rii v.2.2.2.2.2.2.2.2]⟩
def q1yo (C:q1xp) (v:q1yi):Dt q1ym:=(Dt.ite (inB v.2.1 (List.length v.2.2.2.2.2.2.1)) (Dt.ret ((elt zi v.2.2.2.2.2.2.1 (v.2.1).toNat).1,v.1,v.2.1,v.2.2.2.1,v.2.2.2.2.1,v.2.2.2.2.2.1,v.2.2.2.2.2.2.1,v.2.2.2.2.2.2.2.1,v.2.2.2.2.2.2.2.2)) Dt.fail)
theorem q1yp C v:q3qe (regO (qdk f35) 7) false [(2,(.box [.val Riii])),(3,.any),(7,(.own Ri)),(9,(.own Rii)),(10,(.own Rii)),(12,.any),(29,(.own Ri)),(30,.any),(31,.any)] q1yj q1yo q1yn C v:=rgI (by kernel_rfl)
abbrev q1yq:Type:=Int×Int×List Diii×Int×Int×List Di×List Dii×List Dii×Int×Int×Int
def q1yr (v:q1yq):St:=⟨[(2,.ptr 0 0),(3,.ptr 1 0),(7,.rs 2),(9,.rs 3),(10,.rs 4),(13,.ptr 5 0),(29,.rs 2),(30,i6 v.1),(31,i6 v.2.1)],[.cells [.fz Riii v.2.2.1],.cells [i6 v.2.2.2.1,i6 v.2.2.2.2.1],.rows Ri v.2.2.2.2.2.1,.rows Rii v.2.2.2.2.2.2.1,.rows Rii v.2.2.2.2.2.2.2.1,.cells [i6 v.2.2.2.2.2.2.2.2.1,i6 v.2.2.2.2.2.2.2.2.2.1,i6 v.2.2.2.2.2.2.2.2.2.2]]⟩
def q1ys (C:q1xp) (v:q1ym):Dt q1yq:=(Dt.bnd (C.2.1 ((v.2.2.2.1,()),(v.1,()),())) fun r1=>(Dt.ret (v.2.1,v.2.2.1,v.2.2.2.1,v.2.2.2.2.1,v.2.2.2.2.2.1,v.2.2.2.2.2.2.1,v.2.2.2.2.2.2.2.1,v.2.2.2.2.2.2.2.2,r1.1,r1.2.1,r1.2.2.1)))
theorem q1yt C v:q3qe (regO (qdk f35) 8) false [(2,(.box [.val Riii])),(3,.any),(7,(.own Ri)),(9,(.own Rii)),(10,(.own Rii)),(13,.any),(29,(.own Ri)),(30,.any),(31,.any)] q1yn q1ys q1yr C v:=rgI (by kernel_rfl)
abbrev q1yu:Type:=Int×Int×Int×List Diii×Int×Int×List Di×List Dii×List Dii×Int×Int
def q1yv (v:q1yu):St:=⟨[(2,.ptr 0 0),(3,.ptr 1 0),(7,.rs 2),(9,.rs 3),(10,.rs 4),(15,.ptr 5 0),(16,i6 v.1),(29,.rs 2),(30,i6 v.2.1),(31,i6 v.2.2.1)],[.cells [.fz Riii v.2.2.2.1],.cells [i6 v.2.2.2.2.1,i6 v.2.2.2.2.2.1],.rows Ri v.2.2.2.2.2.2.1,.rows Rii v.2.2.2.2.2.2.2.1,.rows Rii v.2.2.2.2.2.2.2.2.1,.cells [i6 v.2.2.2.2.2.2.2.2.2.1,i6 v.2.2.2.2.2.2.2.2.2.2]]⟩
def q1yw (C:q1xp) (v:q1yq):Dt q1yu:=(Dt.bnd (C.2.2.1 ((v.2.2.2.2.2.2.2.2.1,v.2.2.2.2.2.2.2.2.2.1,v.2.2.2.2.2.2.2.2.2.2,()),(v.2.2.2.1,v.2.2.2.2.1,()),())) fun r1=>(Dt.ret (r1.2.2,v.1,v.2.1,v.2.2.1,v.2.2.2.1,v.2.2.2.2.1,v.2.2.2.2.2.1,v.2.2.2.2.2.2.1,v.2.2.2.2.2.2.2.1,r1.1,r1.2.1)))
theorem q1yx C v:q3qe (regO (qdk f35) 9) false [(2,(.box [.val Riii])),(3,.any),(7,(.own Ri)),(9,(.own Rii)),(10,(.own Rii)),(15,.any),(16,.any),(29,(.own Ri)),(30,.any),(31,.any)] q1yr q1yw q1yv C v:=rgI (by kernel_rfl)
abbrev q1yy:Type:=Int×Int×Int×Bool×List Diii×Int×Int×List Di×List Dii×List Dii×Int×Int
def q1yz (v:q1yy):St:=⟨[(2,.ptr 0 0),(3,.ptr 1 0),(7,.rs 2),(9,.rs 3),(10,.rs 4),(15,.ptr 5 0),(16,i6 v.1),(29,.rs 2),(30,i6 v.2.1),(31,i6 v.2.2.1),(48,.bool v.2.2.2.1)],[.cells [.fz Riii v.2.2.2.2.1],.cells [i6 v.2.2.2.2.2.1,i6 v.2.2.2.2.2.2.1],.rows Ri v.2.2.2.2.2.2.2.1,.rows Rii v.2.2.2.2.2.2.2.2.1,.rows Rii v.2.2.2.2.2.2.2.2.2.1,.cells [i6 v.2.2.2.2.2.2.2.2.2.2.1,i6 v.2.2.2.2.2.2.2.2.2.2.2]]⟩
def q1z0 (C:q1xp) (v:q1yu):Dt q1yy:=(Dt.ret (v.1,v.2.1,v.2.2.1,(v.1 != (0:Int)),v.2.2.2.1,v.2.2.2.2.1,v.2.2.2.2.2.1,v.2.2.2.2.2.2.1,v.2.2.2.2.2.2.2.1,v.2.2.2.2.2.2.2.2.1,v.2.2.2.2.2.2.2.2.2.1,v.2.2.2.2.2.2.2.2.2.2))
theorem q1z1 C v:q3qe (regO (qdk f35) 10) false [(2,(.box [.val Riii])),(3,.any),(7,(.own Ri)),(9,(.own Rii)),(10,(.own Rii)),(15,.any),(16,.any),(29,(.own Ri)),(30,.any),(31,.any),(48,.any)] q1yv q1z0 q1yz C v:=rgI (by kernel_rfl)
def q1z2 (C:q1xp) (v:q1yy):Dt q1y6:=(Dt.ret (v.1,([]:List Di),([]:List Dii)))
theorem q1z3 C v:q3qe (regO (qdk f35) 11) false [(4,(.own Ri)),(5,(.own Rii)),(6,.any)] q1yz q1z2 q1y7 C v:=rgI (by kernel_rfl)
def q1z4 (C:q1xp) (v:q1yy):Dt q1ye:=(Dt.ite (apB (List.length v.2.2.2.2.2.2.2.2.1) (List.length ([(v.2.2.2.2.2.2.2.2.2.2.1,v.2.2.2.2.2.2.2.2.2.2.2,())]:List Dii))) (Dt.ret (v.2.1,v.2.2.1,v.2.2.2.2.1,v.2.2.2.2.2.1,v.2.2.2.2.2.2.1,v.2.2.2.2.2.2.2.1,(v.2.2.2.2.2.2.2.2.1++([(v.2.2.2.2.2.2.2.2.2.2.1,v.2.2.2.2.2.2.2.2.2.2.2,())]:List Dii)),v.2.2.2.2.2.2.2.2.2.1)) Dt.fail)
theorem q1z5 C v:q3qe (regO (qdk f35) 12) false [(2,(.box [.val Riii])),(3,.any),(7,(.own Ri)),(9,(.own Rii)),(10,(.own Rii)),(29,(.own Ri)),(30,.any),(31,.any)] q1yz q1z4 q1yf C v:=rgI (by kernel_rfl)
def q1z6 (C:q1xp) (v:q1ye):Dt q1ye:=(Dt.ret (v.1,(IntKind.wrap .i64 (v.2.1+(1:Int))),v.2.2.1,v.2.2.2.1,v.2.2.2.2.1,v.2.2.2.2.2.1,v.2.2.2.2.2.2.1,v.2.2.2.2.2.2.2))
theorem q1z7 C v:q3qe (regO (qdk f35) 13) false [(2,(.box [.val Riii])),(3,.any),(7,(.own Ri)),(9,(.own Rii)),(10,(.own Rii)),(29,(.own Ri)),(30,.any),(31,.any)] q1yf q1z6 q1yf C v:=rgI (by kernel_rfl)
abbrev q1z8:Type:=Int×List Di×List Dii×List Dii
def q1z9 (v:q1z8):St:=⟨[(7,.rs 0),(9,.rs 1),(10,.rs 2),(17,i6 v.1)],[.rows Ri v.2.1,.rows Rii v.2.2.1,.rows Rii v.2.2.2]⟩
def q1za (C:q1xp) (v:q1yi):Dt q1z8:=(Dt.ret ((1:Int),v.2.2.2.2.2.2.1,v.2.2.2.2.2.2.2.1,v.2.2.2.2.2.2.2.2))
theorem q1zb C v:q3qe (regO (qdk f35) 14) false [(7,(.own Ri)),(9,(.own Rii)),(10,(.own Rii)),(17,.any)] q1yj q1za q1z9 C v:=rgI (by kernel_rfl)
abbrev q1zc:Type:=Int×Bool×List Di×List Dii×List Dii
def q1zd (v:q1zc):St:=⟨[(7,.rs 0),(9,.rs 1),(10,.rs 2),(17,i6 v.1),(58,.bool v.2.1)],[.rows Ri v.2.2.1,.rows Rii v.2.2.2.1,.rows Rii v.2.2.2.2]⟩
def q1ze (C:q1xp) (v:q1z8):Dt q1zc:=(Dt.ret (v.1,(decide (v.1<(List.length v.2.2.1:Int))),v.2.1,v.2.2.1,v.2.2.2))
theorem q1zf C v:q3qe (regO (qdk f35) 15) false [(7,(.own Ri)),(9,(.own Rii)),(10,(.own Rii)),(17,.any),(58,.any)] q1z9 q1ze q1zd C v:=rgI (by kernel_rfl)
abbrev q1zg:Type:=Int×Int×List Di×List Dii×List Dii×Int×Int
def q1zh (v:q1zg):St:=⟨[(7,.rs 0),(9,.rs 1),(10,.rs 2),(17,i6 v.1),(18,.ptr 3 0),(19,i6 v.2.1)],[.rows Ri v.2.2.1,.rows Rii v.2.2.2.1,.rows Rii v.2.2.2.2.1,.cells [i6 v.2.2.2.2.2.1,i6 v.2.2.2.2.2.2]]⟩
def q1zi (C:q1xp) (v:q1zc):Dt q1zg:=(Dt.ite (inB (IntKind.wrap .i64 (v.1 - (1:Int))) (List.length v.2.2.2.1)) (Dt.ite (inB v.1 (List.length v.2.2.2.1)) (Dt.bnd (C.2.2.2.1 (((elt zii v.2.2.2.1 ((IntKind.wrap .i64 (v.1 - (1:Int)))).toNat).1,(elt zii v.2.2.2.1 ((IntKind.wrap .i64 (v.1 - (1:Int)))).toNat).2.1,()),((elt zii v.2.2.2.1 (v.1).toNat).1,(elt zii v.2.2.2.1 (v.1).toNat).2.1,()),())) fun r1=>(Dt.ret (v.1,r1.2.2,v.2.2.1,v.2.2.2.1,v.2.2.2.2,r1.1,r1.2.1))) Dt.fail) Dt.fail)
theorem q1zj C v:q3qe (regO (qdk f35) 17) true [(7,(.own Ri)),(9,(.own Rii)),(10,(.own Rii)),(17,.any),(18,.any),(19,.any)] q1zd q1zi q1zh C v:=rgI (by kernel_rfl)
abbrev q1zk:Type:=Int×Int×Bool×List Di×List Dii×List Dii×Int×Int
def q1zl (v:q1zk):St:=⟨[(7,.rs 0),(9,.rs 1),(10,.rs 2),(17,i6 v.1),(18,.ptr 3 0),(19,i6 v.2.1),(75,.bool v.2.2.1)],[.rows Ri v.2.2.2.1,.rows Rii v.2.2.2.2.1,.rows Rii v.2.2.2.2.2.1,.cells [i6 v.2.2.2.2.2.2.1,i6 v.2.2.2.2.2.2.2]]⟩
def q1zm (C:q1xp) (v:q1zg):Dt q1zk:=(Dt.ret (v.1,v.2.1,(v.2.1 != (0:Int)),v.2.2.1,v.2.2.2.1,v.2.2.2.2.1,v.2.2.2.2.2.1,v.2.2.2.2.2.2))
theorem q1zn C v:q3qe (regO (qdk f35) 18) false [(7,(.own Ri)),(9,(.own Rii)),(10,(.own Rii)),(17,.any),(18,.any),(19,.any),(75,.any)] q1zh q1zm q1zl C v:=rgI (by kernel_rfl)
def q1zo (C:q1xp) (v:q1zk):Dt q1y6:=(Dt.ret (v.2.1,([]:List Di),([]:List Dii)))
theorem q1zp C v:q3qe (regO (qdk f35) 19) false [(4,(.own Ri)),(5,(.own Rii)),(6,.any)] q1zl q1zo q1y7 C v:=rgI (by kernel_rfl)
def q1zq (C:q1xp) (v:q1zk):Dt q1z8:=(Dt.ite (apB (List.length v.2.2.2.2.2.1) (List.length ([(v.2.2.2.2.2.2.1,v.2.2.2.2.2.2.2,())]:List Dii))) (Dt.ret (v.1,v.2.2.2.1,v.2.2.2.2.1,(v.2.2.2.2.2.1++([(v.2.2.2.2.2.2.1,v.2.2.2.2.2.2.2,())]:List Dii)))) Dt.fail)
theorem q1zr C v:q3qe (regO (qdk f35) 20) false [(7,(.own Ri)),(9,(.own Rii)),(10,(.own Rii)),(17,.any)] q1zl q1zq q1z9 C v:=rgI (by kernel_rfl)
def q1zs (C:q1xp) (v:q1z8):Dt q1z8:=(Dt.ret ((IntKind.wrap .i64 (v.1+(1:Int))),v.2.1,v.2.2.1,v.2.2.2))
theorem q1zt C v:q3qe (regO (qdk f35) 16) false [(7,(.own Ri)),(9,(.own Rii)),(10,(.own Rii)),(17,.any)] q1z9 q1zs q1z9 C v:=rgI (by kernel_rfl)
def q1zu (C:q1xp) (v:q1zc):Dt q1y6:=(Dt.ret ((0:Int),v.2.2.1,v.2.2.2.2))
theorem q1zv C v:q3qe (regO (qdk f35) 21) false [(4,(.own Ri)),(5,(.own Rii)),(6,.any)] q1zd q1zu q1y7 C v:=rgI (by kernel_rfl)
def q1zw (d:Nat) (self2:(Int×List Di×List Dii×List Dii)→Option q1xm) (x2:Int×List Di×List Dii×List Dii):Option q1xm :=
 (q1ze (q1xq d) x2).eval fun y15 =>
 bif y15.2.1 then ((q1zi (q1xq d) y15).eval fun y17 =>
 (q1zm (q1xq d) y17).eval fun y18 =>
 bif y18.2.2.1 then ((q1zo (q1xq d) y18).eval fun y19 =>
 some (y19.2.1,y19.2.2,y19.1)) else ((q1zq (q1xq d) y18).eval fun y20 =>
 (q1zs (q1xq d) y20).eval fun y16 =>
 self2 y16)) else ((q1zu (q1xq d) y15).eval fun y21 =>
 some (y21.2.1,y21.2.2,y21.1))
def q1zx (d:Nat) (self1:(Int×Int×List Diii×Int×Int×List Di×List Dii×List Dii)→Option q1xm) (x1:Int×Int×List Diii×Int×Int×List Di×List Dii×List Dii):Option q1xm :=
 (q1yk (q1xq d) x1).eval fun y6 =>
 bif y6.2.2.1 then ((q1yo (q1xq d) y6).eval fun y7 =>
 (q1ys (q1xq d) y7).eval fun y8 =>
 (q1yw (q1xq d) y8).eval fun y9 =>
 (q1z0 (q1xq d) y9).eval fun y10 =>
 bif y10.2.2.2.1 then ((q1z2 (q1xq d) y10).eval fun y11 =>
 some (y11.2.1,y11.2.2,y11.1)) else ((q1z4 (q1xq d) y10).eval fun y12 =>
 (q1z6 (q1xq d) y12).eval fun y13 =>
 self1 y13)) else ((q1za (q1xq d) y6).eval fun y14 =>
 iter (q1zw d ) d y14)
def q1zy (d:Nat) (x:q1xl):Option q1xm :=
 (q1xw (q1xq d) (x.1.1,x.2.1.1,x.2.1.2.1)).eval fun y0 =>
 (q1y0 (q1xq d) y0).eval fun y1 =>
 (q1y4 (q1xq d) y1).eval fun y2 =>
 bif y2.2.1 then ((q1y8 (q1xq d) y2).eval fun y3 =>
 some (y3.2.1,y3.2.2,y3.1)) else ((q1yc (q1xq d) y2).eval fun y4 =>
 (q1yg (q1xq d) y4).eval fun y5 =>
 iter (q1zx d ) d y5)
theorem q1zz (d:Nat):COK prog (q1xo (q1zy d)):=by
 have hm:prog.follows .mixedOrders=true:=mixed
 have hT:=tys
 have hC0:OrcOK prog (orc (q1xr (q1xq d))):=qde (by
  intro S hS
  simp only [q1xr,List.mem_cons,List.not_mem_nil,or_false] at hS
  rcases hS with rfl | rfl | rfl | rfl
  · exact qvp d
  · exact qv7 d
  · exact q1j1 d
  · exact q1ge d)
 have hC:OrcOK prog (orc (q1xr (q1xq d))):=hC0
 refine q93 (c:=qdk f35) (fn:=f35) hT (by kernel_rfl) (by kernel_rfl) (by decide) fun x r h w0 φ0 Q hend=>?_
 replace h:q1zy d x=some r:=h
 unfold q1zy at h
 show Run prog w0 φ0 83 (qdk f35) ⟨[(0,.agg [.fz Riii x.1.1]),(1,.agg [.int .i64 x.2.1.1,.int .i64 x.2.1.2.1])],[]⟩ Q
 refine q3pf hm hT hC (q1xx (q1xq d) (x.1.1,x.2.1.1,x.2.1.2.1)) h fun y0 h=>?_
 refine q3pf hm hT hC (q1y1 (q1xq d) y0) h fun y1 h=>?_
 refine q8m ?_
 refine q3pf hm hT hC (q1y5 (q1xq d) y1) h fun y2 h=>?_
 refine q8q (v:=y2.2.1) (by kernel_rfl) h ?_ ?_
 ·
  intro h
  refine q3pf hm hT hC (q1y9 (q1xq d) y2) h fun y3 h=>?_
  refine q8l (q8a ?_)
  cases h
  exact (hend _ (by kernel_rfl)).2
 ·
  intro h
  refine q8i (q88 ?_)
  refine q3pf hm hT hC (q1yd (q1xq d) y2) h fun y4 h=>?_
  refine q8m ?_
  refine q3pf hm hT hC (q1yh (q1xq d) y4) h fun y5 h=>?_
  refine q8n ?_
  refine q8s (G:=iter (q1zx d )) (S:=(fun x1=>⟨[(2,.ptr 0 0),(3,.ptr 1 0),(7,.rs 2),(9,.rs 3),(10,.rs 4),(29,.rs 2),(30,i6 x1.1),(31,i6 x1.2.1)],[.cells [.fz Riii x1.2.2.1],.cells [i6 x1.2.2.2.1,i6 x1.2.2.2.2.1],.rows Ri x1.2.2.2.2.2.1,.rows Rii x1.2.2.2.2.2.2.1,.rows Rii x1.2.2.2.2.2.2.2]⟩:Int×Int×List Diii×Int×Int×List Di×List Dii×List Dii→St)) (fun _=>rfl) ?_ d _ h
  intro n1 x1 h K1 hn1
  replace h:q1zx d  (iter (q1zx d ) n1) x1=some r:=h
  generalize iter (q1zx d ) n1=self1 at h hn1
  unfold q1zx at h
  refine q3pf hm hT hC (q1yl (q1xq d) x1) h fun y6 h=>?_
  refine q8m ?_
  refine q8q (v:=y6.2.2.1) (by kernel_rfl) h ?_ ?_
  ·
   intro h
   refine q8i (q88 (q8m (q8n ?_)))
   refine q3pf hm hT hC (q1yp (q1xq d) y6) h fun y7 h=>?_
   refine q3pf hm hT hC (q1yt (q1xq d) y7) h fun y8 h=>?_
   refine q3pf hm hT hC (q1yx (q1xq d) y8) h fun y9 h=>?_
   refine q8m ?_
   refine q3pf hm hT hC (q1z1 (q1xq d) y9) h fun y10 h=>?_
   refine q8q (v:=y10.2.2.2.1) (by kernel_rfl) h ?_ ?_
   ·
    intro h
    refine q3pf hm hT hC (q1z3 (q1xq d) y10) h fun y11 h=>?_
    refine q8l (q8a (q8c (q8a (q8a (q8c (q8a ?_))))))
    cases h
    exact (hend _ (by kernel_rfl)).2
   ·
    intro h
    refine q8i (q88 ?_)
    refine q8r hm hT hC (q1z5 (q1xq d) y10) h ?_
    intro y12 h
    refine q8b (q88 ?_)
    refine q8r hm hT hC (q1z7 (q1xq d) y12) h ?_
    intro y13 h
    exact hn1 _ h
  ·
   intro h
   refine q8k (q89 (q89 (q8d (q88 (q8m ?_)))))
   refine q3pf hm hT hC (q1zb (q1xq d) y6) h fun y14 h=>?_
   refine q8n ?_
   refine q8s (G:=iter (q1zw d )) (S:=(fun x2=>⟨[(7,.rs 0),(9,.rs 1),(10,.rs 2),(17,i6 x2.1)],[.rows Ri x2.2.1,.rows Rii x2.2.2.1,.rows Rii x2.2.2.2]⟩:Int×List Di×List Dii×List Dii→St)) (fun _=>rfl) ?_ d _ h
   intro n2 x2 h K2 hn2
   replace h:q1zw d  (iter (q1zw d ) n2) x2=some r:=h
   generalize iter (q1zw d ) n2=self2 at h hn2
   unfold q1zw at h
   refine q8m ?_
   refine q3pf hm hT hC (q1zf (q1xq d) x2) h fun y15 h=>?_
   refine q8q (v:=y15.2.1) (by kernel_rfl) h ?_ ?_
   ·
    intro h
    refine q8i (q88 (q8m (q8n ?_)))
    refine q3pf hm hT hC (q1zj (q1xq d) y15) h fun y17 h=>?_
    refine q8m ?_
    refine q3pf hm hT hC (q1zn (q1xq d) y17) h fun y18 h=>?_
    refine q8q (v:=y18.2.2.1) (by kernel_rfl) h ?_ ?_
    ·
     intro h
     refine q3pf hm hT hC (q1zp (q1xq d) y18) h fun y19 h=>?_
     refine q8l (q8a (q8c (q8a (q8a (q8c (q8a ?_))))))
     cases h
     exact (hend _ (by kernel_rfl)).2
    ·
     intro h
     refine q8i (q88 ?_)
     refine q8r hm hT hC (q1zr (q1xq d) y18) h ?_
     intro y20 h
     refine q8b (q88 ?_)
     refine q8r hm hT hC (q1zt (q1xq d) y20) h ?_
     intro y16 h
     exact hn2 _ h
   ·
    intro h
    refine q8k (q89 (q89 (q8d (q88 ?_))))
    refine q3pf hm hT hC (q1zv (q1xq d) y15) h fun y21 h=>?_
    refine q8l ?_
    cases h
    exact (hend _ (by kernel_rfl)).2
abbrev q200:List Pk:=[.row qjw true,.row Rii true]
abbrev q201:Type:=qjx×Dii×Unit
abbrev q202:Type:=List Dii×Int
def q203 (r:q202):LV×List Ob:=(.tup [.rs 0,.int .i64 r.2],[.rows Rii r.1])
def q204 (F:q201→Option q202):Go.Tx.Spec:=⟨11,q200,q202,F,q203⟩
abbrev q205:Type:=(q1xl→Option q1xm)×Unit
def q206 (d:Nat):q205:=(q1zy d,())
def q207 (C:q205):List Go.Tx.Spec:=[q1xo C.1]
abbrev q208:Type:=List Diii×Int×Int
def q209 (v:q208):St:=⟨[(0,.agg [.fz Riii v.1]),(1,.agg [i6 v.2.1,i6 v.2.2])],[]⟩
abbrev q20a:Type:=List Diii×Int×Int
def q20b (v:q20a):St:=⟨[(2,.ptr 0 0),(3,.ptr 1 0)],[.cells [.fz Riii v.1],.cells [i6 v.2.1,i6 v.2.2]]⟩
def q20c (C:q205) (v:q208):Dt q20a:=(Dt.ret (v.1,v.2.1,v.2.2))
abbrev q3qf {V Y:Type}:=@rg q205 V Y tysT (fun C=>(orc (q207 C))) 18
theorem q20d C v:q3qf (regO (qdk f11) 0) false [(2,(.box [.val Riii])),(3,.any)] q209 q20c q20b C v:=rgI (by kernel_rfl)
abbrev q20e:Type:=Int×List Dii
def q20f (v:q20e):St:=⟨[(7,.rs 0),(8,i6 v.1)],[.rows Rii v.2]⟩
def q20g (C:q205) (v:q20a):Dt q20e:=(Dt.bnd (C.1 ((v.1,()),(v.2.1,v.2.2,()),())) fun r1=>(Dt.ret (r1.2.2,r1.2.1)))
theorem q20h C v:q3qf (regO (qdk f11) 1) false [(7,(.own Rii)),(8,.any)] q20b q20g q20f C v:=rgI (by kernel_rfl)
abbrev q20i:Type:=Int×List Dii
def q20j (v:q20i):St:=⟨[(4,.rs 0),(5,i6 v.1)],[.rows Rii v.2]⟩
def q20k (C:q205) (v:q20e):Dt q20i:=(Dt.ret (v.1,v.2))
theorem q20l C v:q3qf (regO (qdk f11) 2) false [(4,(.own Rii)),(5,.any)] q20f q20k q20j C v:=rgI (by kernel_rfl)
def q20m (d:Nat) (x:q201):Option q202 :=
 (q20c (q206 d) (x.1.1,x.2.1.1,x.2.1.2.1)).eval fun y0 =>
 (q20g (q206 d) y0).eval fun y1 =>
 (q20k (q206 d) y1).eval fun y2 =>
 some (y2.2,y2.1)
theorem q20n (d:Nat):COK prog (q204 (q20m d)):=by
 have hm:prog.follows .mixedOrders=true:=mixed
 have hT:=tys
 have hC0:OrcOK prog (orc (q207 (q206 d))):=qde (by
  intro S hS
  simp only [q207,List.mem_cons,List.not_mem_nil,or_false] at hS
  subst hS;exact q1zz d)
 have hC:OrcOK prog (orc (q207 (q206 d))):=hC0
 refine q93 (c:=qdk f11) (fn:=f11) hT (by kernel_rfl) (by kernel_rfl) (by decide) fun x r h w0 φ0 Q hend=>?_
 replace h:q20m d x=some r:=h
 unfold q20m at h
 show Run prog w0 φ0 18 (qdk f11) ⟨[(0,.agg [.fz Riii x.1.1]),(1,.agg [.int .i64 x.2.1.1,.int .i64 x.2.1.2.1])],[]⟩ Q
 refine q3pf hm hT hC (q20d (q206 d) (x.1.1,x.2.1.1,x.2.1.2.1)) h fun y0 h=>?_
 refine q3pf hm hT hC (q20h (q206 d) y0) h fun y1 h=>?_
 refine q3pf hm hT hC (q20l (q206 d) y1) h fun y2 h=>?_
 refine q8l ?_
 cases h
 exact (hend _ (by kernel_rfl)).2
abbrev q20o:List Pk:=[.row Rii true,.row Rii true]
abbrev q20p:Type:=Dii×Dii×Unit
abbrev q20q:Type:=Bool
def q20r (r:q20q):LV×List Ob:=(.bool r,[])
def q20s (F:q20p→Option q20q):Go.Tx.Spec:=⟨39,q20o,q20q,F,q20r⟩
abbrev q20t:Type:=(q12v→Option q12w)×Unit
def q20u (d:Nat):q20t:=(q145 d,())
def q20v (C:q20t):List Go.Tx.Spec:=[q12y C.1]
abbrev q20w:Type:=Int×Int×Int×Int
def q20x (v:q20w):St:=⟨[(0,.agg [i6 v.1,i6 v.2.1]),(1,.agg [i6 v.2.2.1,i6 v.2.2.2])],[]⟩
abbrev q20y:Type:=Int×Int×Int×Int
def q20z (v:q20y):St:=⟨[(2,.ptr 0 0),(3,.ptr 1 0)],[.cells [i6 v.1,i6 v.2.1],.cells [i6 v.2.2.1,i6 v.2.2.2]]⟩
def q210 (C:q20t) (v:q20w):Dt q20y:=(Dt.ret (v.1,v.2.1,v.2.2.1,v.2.2.2))
abbrev q3qg {V Y:Type}:=@rg q20t V Y tysT (fun C=>(orc (q20v C))) 15
theorem q211 C v:q3qg (regO (qdk f39) 0) false (an [2,3]) q20x q210 q20z C v:=rgI (by kernel_rfl)
abbrev q212:Type:=Int
def q213 (v:q212):St:=⟨[(5,i6 v)],[]⟩
def q214 (C:q20t) (v:q20y):Dt q212:=(Dt.bnd (C.1 ((v.1,v.2.1,()),(v.2.2.1,v.2.2.2,()),())) fun r1=>(Dt.ret r1.1))
theorem q215 C v:q3qg (regO (qdk f39) 1) false [(5,.any)] q20z q214 q213 C v:=rgI (by kernel_rfl)
abbrev q216:Type:=Bool
def q217 (v:q216):St:=⟨[(4,.bool v)],[]⟩
def q218 (C:q20t) (v:q212):Dt q216:=(Dt.ret (decide (v > (0:Int))))
theorem q219 C v:q3qg (regO (qdk f39) 2) false [(4,.any)] q213 q218 q217 C v:=rgI (by kernel_rfl)
def q21a (d:Nat) (x:q20p):Option q20q :=
 (q210 (q20u d) (x.1.1,x.1.2.1,x.2.1.1,x.2.1.2.1)).eval fun y0 =>
 (q214 (q20u d) y0).eval fun y1 =>
 (q218 (q20u d) y1).eval fun y2 =>
 some y2
theorem q21b (d:Nat):COK prog (q20s (q21a d)):=by
 have hm:prog.follows .mixedOrders=true:=mixed
 have hT:=tys
 have hC0:OrcOK prog (orc (q20v (q20u d))):=qde (by
  intro S hS
  simp only [q20v,List.mem_cons,List.not_mem_nil,or_false] at hS
  subst hS;exact q146 d)
 have hC:OrcOK prog (orc (q20v (q20u d))):=hC0
 refine q93 (c:=qdk f39) (fn:=f39) hT (by kernel_rfl) (by kernel_rfl) (by decide) fun x r h w0 φ0 Q hend=>?_
 replace h:q21a d x=some r:=h
 unfold q21a at h
 show Run prog w0 φ0 15 (qdk f39) ⟨[(0,.agg [.int .i64 x.1.1,.int .i64 x.1.2.1]),(1,.agg [.int .i64 x.2.1.1,.int .i64 x.2.1.2.1])],[]⟩ Q
 refine q3pf hm hT hC (q211 (q20u d) (x.1.1,x.1.2.1,x.2.1.1,x.2.1.2.1)) h fun y0 h=>?_
 refine q3pf hm hT hC (q215 (q20u d) y0) h fun y1 h=>?_
 refine q3pf hm hT hC (q219 (q20u d) y1) h fun y2 h=>?_
 refine q8l ?_
 cases h
 exact (hend _ (by kernel_rfl)).2
abbrev q21c:List Pk:=[.row qjw true,.row Rii true,.row Rii true]
abbrev q21d:Type:=qjx×Dii×Dii×Unit
abbrev q21e:Type:=List DLiE×Int
def q21f (r:q21e):LV×List Ob:=(.tup [.fz RLiE r.1,.int .i64 r.2],[])
def q21g (F:q21d→Option q21e):Go.Tx.Spec:=⟨13,q21c,q21e,F,q21f⟩
abbrev q21h:Type:=(qvi→Option qvj)×(q1xl→Option q1xm)×(qn8→Option qn9)×(q20p→Option q20q)×Unit
def q21i (d:Nat):q21h:=(qvn d,q1zy d,qnd d,q21a d,())
def q21j (C:q21h):List Go.Tx.Spec:=[qvl C.1,q1xo C.2.1,qnb C.2.2.1,q20s C.2.2.2.1]
abbrev q21k:Type:=List Diii×Int×Int×Int×Int
def q21l (v:q21k):St:=⟨[(0,.agg [.fz Riii v.1]),(1,.agg [i6 v.2.1,i6 v.2.2.1]),(2,.agg [i6 v.2.2.2.1,i6 v.2.2.2.2])],[]⟩
abbrev q21m:Type:=List Diii×Int×Int×Int×Int
def q21n (v:q21m):St:=⟨[(3,.ptr 0 0),(4,.ptr 1 0),(5,.ptr 2 0)],[.cells [.fz Riii v.1],.cells [i6 v.2.1,i6 v.2.2.1],.cells [i6 v.2.2.2.1,i6 v.2.2.2.2]]⟩
def q21o (C:q21h) (v:q21k):Dt q21m:=(Dt.ret (v.1,v.2.1,v.2.2.1,v.2.2.2.1,v.2.2.2.2))
theorem q21p (C:q21h) (v:q21k):treg (litT 35 tysT) (orc (q21j C)) 81 (regO (qdk f13) 0) false [(3,(.box [.val Riii])),(4,.any),(5,.any)] (q21l v) some=(q21o C v).eval fun y=>some (q21n y):=by kernel_rfl
abbrev q21q:Type:=Int×List Diii×Int×Int×Int×Int
def q21r (v:q21q):St:=⟨[(3,.ptr 0 0),(4,.ptr 1 0),(5,.ptr 2 0),(9,i6 v.1)],[.cells [.fz Riii v.2.1],.cells [i6 v.2.2.1,i6 v.2.2.2.1],.cells [i6 v.2.2.2.2.1,i6 v.2.2.2.2.2]]⟩
def q21s (C:q21h) (v:q21m):Dt q21q:=(Dt.bnd (C.1 ((v.1,()),(v.2.1,v.2.2.1,()),())) fun r1=>(Dt.ret (r1.2,v.1,v.2.1,v.2.2.1,v.2.2.2.1,v.2.2.2.2)))
theorem q21t (C:q21h) (v:q21m):treg (litT 35 tysT) (orc (q21j C)) 81 (regO (qdk f13) 1) false [(3,(.box [.val Riii])),(4,.any),(5,.any),(9,.any)] (q21n v) some=(q21s C v).eval fun y=>some (q21r y):=by kernel_rfl
abbrev q21u:Type:=Int×Bool×List Diii×Int×Int×Int×Int
def q21v (v:q21u):St:=⟨[(3,.ptr 0 0),(4,.ptr 1 0),(5,.ptr 2 0),(9,i6 v.1),(23,.bool v.2.1)],[.cells [.fz Riii v.2.2.1],.cells [i6 v.2.2.2.1,i6 v.2.2.2.2.1],.cells [i6 v.2.2.2.2.2.1,i6 v.2.2.2.2.2.2]]⟩
def q21w (C:q21h) (v:q21q):Dt q21u:=(Dt.ret (v.1,(v.1 != (0:Int)),v.2.1,v.2.2.1,v.2.2.2.1,v.2.2.2.2.1,v.2.2.2.2.2))
theorem q21x (C:q21h) (v:q21q):treg (litT 35 tysT) (orc (q21j C)) 81 (regO (qdk f13) 2) false [(3,(.box [.val Riii])),(4,.any),(5,.any),(9,.any),(23,.any)] (q21r v) some=(q21w C v).eval fun y=>some (q21v y):=by kernel_rfl
abbrev q21y:Type:=List DLiE×Int
def q21z (v:q21y):St:=⟨[(6,.fz RLiE v.1),(7,i6 v.2)],[]⟩
def q220 (C:q21h) (v:q21u):Dt q21y:=(Dt.ret (([]:List DLiE),v.1))
theorem q221 (C:q21h) (v:q21u):treg (litT 35 tysT) (orc (q21j C)) 81 (regO (qdk f13) 3) false [(6,(.val RLiE)),(7,.any)] (q21v v) some=(q220 C v).eval fun y=>some (q21z y):=by kernel_rfl
abbrev q222:Type:=Bool×List Diii×Int×Int×Int×Int
def q223 (v:q222):St:=⟨[(3,.ptr 0 0),(4,.ptr 1 0),(5,.ptr 2 0),(27,.bool v.1)],[.cells [.fz Riii v.2.1],.cells [i6 v.2.2.1,i6 v.2.2.2.1],.cells [i6 v.2.2.2.2.1,i6 v.2.2.2.2.2]]⟩
def q224 (C:q21h) (v:q21u):Dt q222:=(Dt.bnd (C.2.2.1 ((v.2.2.2.2.2.1,v.2.2.2.2.2.2,()),())) fun r1=>(Dt.ret ((r1 != (0:Int)),v.2.2.1,v.2.2.2.1,v.2.2.2.2.1,v.2.2.2.2.2.1,v.2.2.2.2.2.2)))
theorem q225 (C:q21h) (v:q21u):treg (litT 35 tysT) (orc (q21j C)) 81 (regO (qdk f13) 4) false [(3,(.box [.val Riii])),(4,.any),(5,.any),(27,.any)] (q21v v) some=(q224 C v).eval fun y=>some (q223 y):=by kernel_rfl
def q226 (C:q21h) (v:q222):Dt q21y:=(Dt.ret (([]:List DLiE),(8:Int)))
theorem q227 (C:q21h) (v:q222):treg (litT 35 tysT) (orc (q21j C)) 81 (regO (qdk f13) 5) false [(6,(.val RLiE)),(7,.any)] (q223 v) some=(q226 C v).eval fun y=>some (q21z y):=by kernel_rfl
abbrev q228:Type:=Bool×List Diii×Int×Int×Int×Int
def q229 (v:q228):St:=⟨[(3,.ptr 0 0),(4,.ptr 1 0),(5,.ptr 2 0),(30,.bool v.1)],[.cells [.fz Riii v.2.1],.cells [i6 v.2.2.1,i6 v.2.2.2.1],.cells [i6 v.2.2.2.2.1,i6 v.2.2.2.2.2]]⟩
def q22a (C:q21h) (v:q222):Dt q228:=(Dt.ret ((decide (v.2.2.2.2.1<(0:Int))),v.2.1,v.2.2.1,v.2.2.2.1,v.2.2.2.2.1,v.2.2.2.2.2))
theorem q22b (C:q21h) (v:q222):treg (litT 35 tysT) (orc (q21j C)) 81 (regO (qdk f13) 6) false [(3,(.box [.val Riii])),(4,.any),(5,.any),(30,.any)] (q223 v) some=(q22a C v).eval fun y=>some (q229 y):=by kernel_rfl
def q22c (C:q21h) (v:q228):Dt q21y:=(Dt.ret (([]:List DLiE),(2:Int)))
theorem q22d (C:q21h) (v:q228):treg (litT 35 tysT) (orc (q21j C)) 81 (regO (qdk f13) 7) false [(6,(.val RLiE)),(7,.any)] (q229 v) some=(q22c C v).eval fun y=>some (q21z y):=by kernel_rfl
abbrev q22e:Type:=Int×Int×Int×List Di×List Dii
def q22f (v:q22e):St:=⟨[(5,.ptr 0 0),(10,.rs 1),(11,.rs 2),(12,i6 v.1)],[.cells [i6 v.2.1,i6 v.2.2.1],.rows Ri v.2.2.2.1,.rows Rii v.2.2.2.2]⟩
def q22g (C:q21h) (v:q228):Dt q22e:=(Dt.bnd (C.2.1 ((v.2.1,()),(v.2.2.1,v.2.2.2.1,()),())) fun r1=>(Dt.ret (r1.2.2,v.2.2.2.2.1,v.2.2.2.2.2,r1.1,r1.2.1)))
theorem q22h (C:q21h) (v:q228):treg (litT 35 tysT) (orc (q21j C)) 81 (regO (qdk f13) 8) false [(5,.any),(10,(.own Ri)),(11,(.own Rii)),(12,.any)] (q229 v) some=(q22g C v).eval fun y=>some (q22f y):=by kernel_rfl
abbrev q22i:Type:=Int×Bool×Int×Int×List Di×List Dii
def q22j (v:q22i):St:=⟨[(5,.ptr 0 0),(10,.rs 1),(11,.rs 2),(12,i6 v.1),(39,.bool v.2.1)],[.cells [i6 v.2.2.1,i6 v.2.2.2.1],.rows Ri v.2.2.2.2.1,.rows Rii v.2.2.2.2.2]⟩
def q22k (C:q21h) (v:q22e):Dt q22i:=(Dt.ret (v.1,(v.1 != (0:Int)),v.2.1,v.2.2.1,v.2.2.2.1,v.2.2.2.2))
theorem q22l (C:q21h) (v:q22e):treg (litT 35 tysT) (orc (q21j C)) 81 (regO (qdk f13) 9) false [(5,.any),(10,(.own Ri)),(11,(.own Rii)),(12,.any),(39,.any)] (q22f v) some=(q22k C v).eval fun y=>some (q22j y):=by kernel_rfl
def q22m (C:q21h) (v:q22i):Dt q21y:=(Dt.ret (([]:List DLiE),v.1))
theorem q22n (C:q21h) (v:q22i):treg (litT 35 tysT) (orc (q21j C)) 81 (regO (qdk f13) 10) false [(6,(.val RLiE)),(7,.any)] (q22j v) some=(q22m C v).eval fun y=>some (q21z y):=by kernel_rfl
abbrev q22o:Type:=Int×Int×List Di×List Dii×List DLiE
def q22p (v:q22o):St:=⟨[(5,.ptr 0 0),(10,.rs 1),(11,.rs 2),(13,.rs 3)],[.cells [i6 v.1,i6 v.2.1],.rows Ri v.2.2.1,.rows Rii v.2.2.2.1,.rows RLiE v.2.2.2.2]⟩
def q22q (C:q21h) (v:q22i):Dt q22o:=(Dt.ret (v.2.2.1,v.2.2.2.1,v.2.2.2.2.1,v.2.2.2.2.2,([]:List DLiE)))
theorem q22r (C:q21h) (v:q22i):treg (litT 35 tysT) (orc (q21j C)) 81 (regO (qdk f13) 11) false [(5,.any),(10,(.own Ri)),(11,(.own Rii)),(13,(.own RLiE))] (q22j v) some=(q22q C v).eval fun y=>some (q22p y):=by kernel_rfl
abbrev q22s:Type:=Int×Int×Int×Int×List Dii×List DLiE×List Di
def q22t (v:q22s):St:=⟨[(5,.ptr 0 0),(11,.rs 1),(13,.rs 2),(41,.rs 3),(42,i6 v.1),(43,i6 v.2.1)],[.cells [i6 v.2.2.1,i6 v.2.2.2.1],.rows Rii v.2.2.2.2.1,.rows RLiE v.2.2.2.2.2.1,.rows Ri v.2.2.2.2.2.2]⟩
def q22u (C:q21h) (v:q22o):Dt q22s:=(Dt.ret ((List.length v.2.2.1:Int),(0:Int),v.1,v.2.1,v.2.2.2.1,v.2.2.2.2,v.2.2.1))
theorem q22v (C:q21h) (v:q22o):treg (litT 35 tysT) (orc (q21j C)) 81 (regO (qdk f13) 12) false [(5,.any),(11,(.own Rii)),(13,(.own RLiE)),(41,(.own Ri)),(42,.any),(43,.any)] (q22p v) some=(q22u C v).eval fun y=>some (q22t y):=by kernel_rfl
abbrev q22w:Type:=Int×Int×Bool×Int×Int×List Dii×List DLiE×List Di
def q22x (v:q22w):St:=⟨[(5,.ptr 0 0),(11,.rs 1),(13,.rs 2),(41,.rs 3),(42,i6 v.1),(43,i6 v.2.1),(44,.bool v.2.2.1)],[.cells [i6 v.2.2.2.1,i6 v.2.2.2.2.1],.rows Rii v.2.2.2.2.2.1,.rows RLiE v.2.2.2.2.2.2.1,.rows Ri v.2.2.2.2.2.2.2]⟩
def q22y (C:q21h) (v:q22s):Dt q22w:=(Dt.ret (v.1,v.2.1,(decide (v.2.1<v.1)),v.2.2.1,v.2.2.2.1,v.2.2.2.2.1,v.2.2.2.2.2.1,v.2.2.2.2.2.2))
theorem q22z (C:q21h) (v:q22s):treg (litT 35 tysT) (orc (q21j C)) 81 (regO (qdk f13) 13) false [(5,.any),(11,(.own Rii)),(13,(.own RLiE)),(41,(.own Ri)),(42,.any),(43,.any),(44,.any)] (q22t v) some=(q22y C v).eval fun y=>some (q22x y):=by kernel_rfl
abbrev q230:Type:=Int×Int×Int×Int×Int×Int×List Dii×List DLiE×List Di
def q231 (v:q230):St:=⟨[(5,.ptr 0 0),(11,.rs 1),(13,.rs 2),(14,i6 v.1),(15,i6 v.2.1),(41,.rs 3),(42,i6 v.2.2.1),(43,i6 v.2.2.2.1)],[.cells [i6 v.2.2.2.2.1,i6 v.2.2.2.2.2.1],.rows Rii v.2.2.2.2.2.2.1,.rows RLiE v.2.2.2.2.2.2.2.1,.rows Ri v.2.2.2.2.2.2.2.2]⟩
def q232 (C:q21h) (v:q22w):Dt q230:=(Dt.ite (inB v.2.1 (List.length v.2.2.2.2.2.2.2)) (Dt.ret (v.2.1,(elt zi v.2.2.2.2.2.2.2 (v.2.1).toNat).1,v.1,v.2.1,v.2.2.2.1,v.2.2.2.2.1,v.2.2.2.2.2.1,v.2.2.2.2.2.2.1,v.2.2.2.2.2.2.2)) Dt.fail)
theorem q233 (C:q21h) (v:q22w):treg (litT 35 tysT) (orc (q21j C)) 81 (regO (qdk f13) 14) false [(5,.any),(11,(.own Rii)),(13,(.own RLiE)),(14,.any),(15,.any),(41,(.own Ri)),(42,.any),(43,.any)] (q22x v) some=(q232 C v).eval fun y=>some (q231 y):=by kernel_rfl
abbrev q234:Type:=Int×Int×Int×Bool×Int×Int×List Dii×List DLiE×List Di
def q235 (v:q234):St:=⟨[(5,.ptr 0 0),(11,.rs 1),(13,.rs 2),(15,i6 v.1),(41,.rs 3),(42,i6 v.2.1),(43,i6 v.2.2.1),(59,.bool v.2.2.2.1)],[.cells [i6 v.2.2.2.2.1,i6 v.2.2.2.2.2.1],.rows Rii v.2.2.2.2.2.2.1,.rows RLiE v.2.2.2.2.2.2.2.1,.rows Ri v.2.2.2.2.2.2.2.2]⟩
def q236 (C:q21h) (v:q230):Dt q234:=(Dt.ite (decide (v.1 > (0:Int))) (Dt.ite (inB (IntKind.wrap .i64 (v.1 - (1:Int))) (List.length v.2.2.2.2.2.2.1)) (Dt.bnd (C.2.2.2.1 (((elt zii v.2.2.2.2.2.2.1 ((IntKind.wrap .i64 (v.1 - (1:Int)))).toNat).1,(elt zii v.2.2.2.2.2.2.1 ((IntKind.wrap .i64 (v.1 - (1:Int)))).toNat).2.1,()),(v.2.2.2.2.1,v.2.2.2.2.2.1,()),())) fun r1=>(Dt.ret (v.2.1,v.2.2.1,v.2.2.2.1,(!r1),v.2.2.2.2.1,v.2.2.2.2.2.1,v.2.2.2.2.2.2.1,v.2.2.2.2.2.2.2.1,v.2.2.2.2.2.2.2.2))) Dt.fail) (Dt.ret (v.2.1,v.2.2.1,v.2.2.2.1,false,v.2.2.2.2.1,v.2.2.2.2.2.1,v.2.2.2.2.2.2.1,v.2.2.2.2.2.2.2.1,v.2.2.2.2.2.2.2.2)))
theorem q237 (C:q21h) (v:q230):treg (litT 35 tysT) (orc (q21j C)) 81 (regO (qdk f13) 15) true [(5,.any),(11,(.own Rii)),(13,(.own RLiE)),(15,.any),(41,(.own Ri)),(42,.any),(43,.any),(59,.any)] (q231 v) some=(q236 C v).eval fun y=>some (q235 y):=by kernel_rfl
abbrev q238:Type:=Int×Int×Int×Int×List Dii×List (List Di)×List Di×List Di
def q239 (v:q238):St:=⟨[(5,.ptr 0 0),(11,.rs 1),(13,.rs 2),(41,.rs 4),(42,i6 v.1),(43,i6 v.2.1)],[.cells [i6 v.2.2.1,i6 v.2.2.2.1],.rows Rii v.2.2.2.2.1,.rowl Ri v.2.2.2.2.2.1 (some 3),.rows Ri v.2.2.2.2.2.2.1,.rows Ri v.2.2.2.2.2.2.2]⟩
def q23a (C:q21h) (v:q234):Dt q238:=(Dt.ite (Nat.ble (List.length v.2.2.2.2.2.2.2.1) 90000) (Dt.ret (v.2.1,v.2.2.1,v.2.2.2.2.1,v.2.2.2.2.2.1,v.2.2.2.2.2.2.1,(q4q (e:=Ri) v.2.2.2.2.2.2.2.1),([(v.1,())]:List Di),v.2.2.2.2.2.2.2.2)) Dt.fail)
theorem q23b (C:q21h) (v:q234):treg (litT 35 tysT) (orc (q21j C)) 81 (regO (qdk f13) 17) false [(5,.any),(11,(.own Rii)),(13,(.own RLiE)),(41,(.own Ri)),(42,.any),(43,.any)] (q235 v) some=(q23a C v).eval fun y=>some (q239 y):=by kernel_rfl
def q23c (C:q21h) (v:q238):Dt q238:=(Dt.ret (v.1,(IntKind.wrap .i64 (v.2.1+(1:Int))),v.2.2.1,v.2.2.2.1,v.2.2.2.2.1,v.2.2.2.2.2.1,v.2.2.2.2.2.2.1,v.2.2.2.2.2.2.2))
theorem q23d (C:q21h) (v:q238):treg (litT 35 tysT) (orc (q21j C)) 81 (regO (qdk f13) 18) false [(5,.any),(11,(.own Rii)),(13,(.own RLiE)),(41,(.own Ri)),(42,.any),(43,.any)] (q239 v) some=(q23c C v).eval fun y=>some (q239 y):=by kernel_rfl
abbrev q23e:Type:=Int×Int×Bool×Int×Int×List Dii×List (List Di)×List Di×List Di
def q23f (v:q23e):St:=⟨[(5,.ptr 0 0),(11,.rs 1),(13,.rs 2),(41,.rs 4),(42,i6 v.1),(43,i6 v.2.1),(44,.bool v.2.2.1)],[.cells [i6 v.2.2.2.1,i6 v.2.2.2.2.1],.rows Rii v.2.2.2.2.2.1,.rowl Ri v.2.2.2.2.2.2.1 (some 3),.rows Ri v.2.2.2.2.2.2.2.1,.rows Ri v.2.2.2.2.2.2.2.2]⟩
def q23g (C:q21h) (v:q238):Dt q23e:=(Dt.ret (v.1,v.2.1,(decide (v.2.1<v.1)),v.2.2.1,v.2.2.2.1,v.2.2.2.2.1,v.2.2.2.2.2.1,v.2.2.2.2.2.2.1,v.2.2.2.2.2.2.2))
theorem q23h (C:q21h) (v:q238):treg (litT 35 tysT) (orc (q21j C)) 81 (regO (qdk f13) 13) false [(5,.any),(11,(.own Rii)),(13,(.own RLiE)),(41,(.own Ri)),(42,.any),(43,.any),(44,.any)] (q239 v) some=(q23g C v).eval fun y=>some (q23f y):=by kernel_rfl
abbrev q23i:Type:=Int×Int×Int×Int×Int×Int×List Dii×List (List Di)×List Di×List Di
def q23j (v:q23i):St:=⟨[(5,.ptr 0 0),(11,.rs 1),(13,.rs 2),(14,i6 v.1),(15,i6 v.2.1),(41,.rs 4),(42,i6 v.2.2.1),(43,i6 v.2.2.2.1)],[.cells [i6 v.2.2.2.2.1,i6 v.2.2.2.2.2.1],.rows Rii v.2.2.2.2.2.2.1,.rowl Ri v.2.2.2.2.2.2.2.1 (some 3),.rows Ri v.2.2.2.2.2.2.2.2.1,.rows Ri v.2.2.2.2.2.2.2.2.2]⟩
def q23k (C:q21h) (v:q23e):Dt q23i:=(Dt.ite (inB v.2.1 (List.length v.2.2.2.2.2.2.2.2)) (Dt.ret (v.2.1,(elt zi v.2.2.2.2.2.2.2.2 (v.2.1).toNat).1,v.1,v.2.1,v.2.2.2.1,v.2.2.2.2.1,v.2.2.2.2.2.1,v.2.2.2.2.2.2.1,v.2.2.2.2.2.2.2.1,v.2.2.2.2.2.2.2.2)) Dt.fail)
theorem q23l (C:q21h) (v:q23e):treg (litT 35 tysT) (orc (q21j C)) 81 (regO (qdk f13) 14) false [(5,.any),(11,(.own Rii)),(13,(.own RLiE)),(14,.any),(15,.any),(41,(.own Ri)),(42,.any),(43,.any)] (q23f v) some=(q23k C v).eval fun y=>some (q23j y):=by kernel_rfl
abbrev q23m:Type:=Int×Int×Int×Bool×Int×Int×List Dii×List (List Di)×List Di×List Di
def q23n (v:q23m):St:=⟨[(5,.ptr 0 0),(11,.rs 1),(13,.rs 2),(15,i6 v.1),(41,.rs 4),(42,i6 v.2.1),(43,i6 v.2.2.1),(59,.bool v.2.2.2.1)],[.cells [i6 v.2.2.2.2.1,i6 v.2.2.2.2.2.1],.rows Rii v.2.2.2.2.2.2.1,.rowl Ri v.2.2.2.2.2.2.2.1 (some 3),.rows Ri v.2.2.2.2.2.2.2.2.1,.rows Ri v.2.2.2.2.2.2.2.2.2]⟩
def q23o (C:q21h) (v:q23i):Dt q23m:=(Dt.ite (decide (v.1 > (0:Int))) (Dt.ite (inB (IntKind.wrap .i64 (v.1 - (1:Int))) (List.length v.2.2.2.2.2.2.1)) (Dt.bnd (C.2.2.2.1 (((elt zii v.2.2.2.2.2.2.1 ((IntKind.wrap .i64 (v.1 - (1:Int)))).toNat).1,(elt zii v.2.2.2.2.2.2.1 ((IntKind.wrap .i64 (v.1 - (1:Int)))).toNat).2.1,()),(v.2.2.2.2.1,v.2.2.2.2.2.1,()),())) fun r1=>(Dt.ret (v.2.1,v.2.2.1,v.2.2.2.1,(!r1),v.2.2.2.2.1,v.2.2.2.2.2.1,v.2.2.2.2.2.2.1,v.2.2.2.2.2.2.2.1,v.2.2.2.2.2.2.2.2.1,v.2.2.2.2.2.2.2.2.2))) Dt.fail) (Dt.ret (v.2.1,v.2.2.1,v.2.2.2.1,false,v.2.2.2.2.1,v.2.2.2.2.2.1,v.2.2.2.2.2.2.1,v.2.2.2.2.2.2.2.1,v.2.2.2.2.2.2.2.2.1,v.2.2.2.2.2.2.2.2.2)))
theorem q23p (C:q21h) (v:q23i):treg (litT 35 tysT) (orc (q21j C)) 81 (regO (qdk f13) 15) true [(5,.any),(11,(.own Rii)),(13,(.own RLiE)),(15,.any),(41,(.own Ri)),(42,.any),(43,.any),(59,.any)] (q23j v) some=(q23o C v).eval fun y=>some (q23n y):=by kernel_rfl
def q23q (C:q21h) (v:q23m):Dt q238:=(Dt.ite (inB (IntKind.wrap .i64 (((List.length v.2.2.2.2.2.2.2.1+1:Nat):Int) - (1:Int))) ((List.length v.2.2.2.2.2.2.2.1)+1)) (Dt.ite (Nat.beq ((IntKind.wrap .i64 (((List.length v.2.2.2.2.2.2.2.1+1:Nat):Int) - (1:Int)))).toNat (List.length v.2.2.2.2.2.2.2.1)) (Dt.ite (apB (List.length v.2.2.2.2.2.2.2.2.1) (List.length ([(v.1,())]:List Di))) (Dt.ite (inB (IntKind.wrap .i64 (((List.length v.2.2.2.2.2.2.2.1+1:Nat):Int) - (1:Int))) ((List.length v.2.2.2.2.2.2.2.1)+1)) (Dt.ite (Nat.beq ((IntKind.wrap .i64 (((List.length v.2.2.2.2.2.2.2.1+1:Nat):Int) - (1:Int)))).toNat (List.length v.2.2.2.2.2.2.2.1)) (Dt.ret (v.2.1,v.2.2.1,v.2.2.2.2.1,v.2.2.2.2.2.1,v.2.2.2.2.2.2.1,v.2.2.2.2.2.2.2.1,(v.2.2.2.2.2.2.2.2.1++([(v.1,())]:List Di)),v.2.2.2.2.2.2.2.2.2)) Dt.fail) Dt.fail) Dt.fail) Dt.fail) Dt.fail)
theorem q23r (C:q21h) (v:q23m):treg (litT 35 tysT) (orc (q21j C)) 81 (regO (qdk f13) 16) false [(5,.any),(11,(.own Rii)),(13,(.own RLiE)),(41,(.own Ri)),(42,.any),(43,.any)] (q23n v) some=(q23q C v).eval fun y=>some (q239 y):=by kernel_rfl
def q23s (C:q21h) (v:q238):Dt q238:=(Dt.ret (v.1,(IntKind.wrap .i64 (v.2.1+(1:Int))),v.2.2.1,v.2.2.2.1,v.2.2.2.2.1,v.2.2.2.2.2.1,v.2.2.2.2.2.2.1,v.2.2.2.2.2.2.2))
theorem q23t (C:q21h) (v:q238):treg (litT 35 tysT) (orc (q21j C)) 81 (regO (qdk f13) 18) false [(5,.any),(11,(.own Rii)),(13,(.own RLiE)),(41,(.own Ri)),(42,.any),(43,.any)] (q239 v) some=(q23s C v).eval fun y=>some (q239 y):=by kernel_rfl
def q23u  (d:Nat) (self1:(Int×Int×Int×Int×List Dii×List (List Di)×List Di×List Di)→Option q21e) (z:Int×Int×Int×Int×List Dii×List (List Di)×List Di×List Di):Option (q21e) :=
 (q23s (q21i d) z).eval fun y18 =>
 self1 y18
def q23v (C:q21h) (v:q23m):Dt q238:=(Dt.ite (Nat.ble (List.length (v.2.2.2.2.2.2.2.1 ++ [v.2.2.2.2.2.2.2.2.1])) 90000) (Dt.ret (v.2.1,v.2.2.1,v.2.2.2.2.1,v.2.2.2.2.2.1,v.2.2.2.2.2.2.1,(v.2.2.2.2.2.2.2.1 ++ [v.2.2.2.2.2.2.2.2.1]),([(v.1,())]:List Di),v.2.2.2.2.2.2.2.2.2)) Dt.fail)
theorem q23w (C:q21h) (v:q23m):treg (litT 35 tysT) (orc (q21j C)) 81 (regO (qdk f13) 17) false [(5,.any),(11,(.own Rii)),(13,(.own RLiE)),(41,(.own Ri)),(42,.any),(43,.any)] (q23n v) some=(q23v C v).eval fun y=>some (q239 y):=by kernel_rfl
def q23x (C:q21h) (v:q23e):Dt q21y:=(Dt.ret ((ql (e:=Ri) (v.2.2.2.2.2.2.1 ++ [v.2.2.2.2.2.2.2.1])),(0:Int)))
theorem q23y (C:q21h) (v:q23e):treg (litT 35 tysT) (orc (q21j C)) 81 (regO (qdk f13) 19) false [(6,(.val RLiE)),(7,.any)] (q23f v) some=(q23x C v).eval fun y=>some (q21z y):=by kernel_rfl
def q23z (d:Nat) (self1:(Int×Int×Int×Int×List Dii×List (List Di)×List Di×List Di)→Option q21e) (x1:Int×Int×Int×Int×List Dii×List (List Di)×List Di×List Di):Option q21e :=
 (q23g (q21i d) x1).eval fun y13 =>
 bif y13.2.2.1 then ((q23k (q21i d) y13).eval fun y14 =>
 (q23o (q21i d) y14).eval fun y15 =>
 bif y15.2.2.2.1 then ((q23q (q21i d) y15).eval fun y16 =>
 q23u d self1 y16) else ((q23v (q21i d) y15).eval fun y17 =>
 q23u d self1 y17)) else ((q23x (q21i d) y13).eval fun y19 =>
 some y19)
def q240  (d:Nat)  (z:Int×Int×Int×Int×List Dii×List (List Di)×List Di×List Di):Option (q21e) :=
 (q23c (q21i d) z).eval fun y18p =>
 iter (q23z d) d y18p
def q241 (C:q21h) (v:q22w):Dt q21y:=(Dt.ret (v.2.2.2.2.2.2.1,(0:Int)))
theorem q242 (C:q21h) (v:q22w):treg (litT 35 tysT) (orc (q21j C)) 81 (regO (qdk f13) 19) false [(6,(.val RLiE)),(7,.any)] (q22x v) some=(q241 C v).eval fun y=>some (q21z y):=by kernel_rfl
def q243 (d:Nat) (x:q21d):Option q21e :=
 (q21o (q21i d) (x.1.1,x.2.1.1,x.2.1.2.1,x.2.2.1.1,x.2.2.1.2.1)).eval fun y0 =>
 (q21s (q21i d) y0).eval fun y1 =>
 (q21w (q21i d) y1).eval fun y2 =>
 bif y2.2.1 then ((q220 (q21i d) y2).eval fun y3 =>
 some y3) else ((q224 (q21i d) y2).eval fun y4 =>
 bif y4.1 then ((q226 (q21i d) y4).eval fun y5 =>
 some y5) else ((q22a (q21i d) y4).eval fun y6 =>
 bif y6.1 then ((q22c (q21i d) y6).eval fun y7 =>
 some y7) else ((q22g (q21i d) y6).eval fun y8 =>
 (q22k (q21i d) y8).eval fun y9 =>
 bif y9.2.1 then ((q22m (q21i d) y9).eval fun y10 =>
 some y10) else ((q22q (q21i d) y9).eval fun y11 =>
 (q22u (q21i d) y11).eval fun y12 =>
 (q22y (q21i d) y12).eval fun y13p =>
 bif y13p.2.2.1 then ((q232 (q21i d) y13p).eval fun y14p =>
 (q236 (q21i d) y14p).eval fun y15p =>
 bif y15p.2.2.2.1 then (none) else ((q23a (q21i d) y15p).eval fun y17p =>
 q240 d  y17p)) else ((q241 (q21i d) y13p).eval fun y19p =>
 some y19p)))))
theorem q244 (d:Nat):COK prog (q21g (q243 d)):=by
 have hm:prog.follows .mixedOrders=true:=mixed
 have hT:=q1w tys 35
 have hC0:OrcOK prog (orc (q21j (q21i d))):=qde (by
  intro S hS
  simp only [q21j,List.mem_cons,List.not_mem_nil,or_false] at hS
  rcases hS with rfl | rfl | rfl | rfl
  · exact qvp d
  · exact q1zz d
  · exact qnf d
  · exact q21b d)
 have hC:OrcOK prog (orc (q21j (q21i d))):=hC0
 refine q93 (c:=qdk f13) (fn:=f13) hT (by kernel_rfl) (by kernel_rfl) (by decide) fun x r h w0 φ0 Q hend=>?_
 replace h:q243 d x=some r:=h
 unfold q243 at h
 show Run prog w0 φ0 81 (qdk f13) ⟨[(0,.agg [.fz Riii x.1.1]),(1,.agg [.int .i64 x.2.1.1,.int .i64 x.2.1.2.1]),(2,.agg [.int .i64 x.2.2.1.1,.int .i64 x.2.2.1.2.1])],[]⟩ Q
 refine q3pf hm hT hC (q21p (q21i d) (x.1.1,x.2.1.1,x.2.1.2.1,x.2.2.1.1,x.2.2.1.2.1)) h fun y0 h=>?_
 refine q8m ?_
 refine q3pf hm hT hC (q21t (q21i d) y0) h fun y1 h=>?_
 refine q3pf hm hT hC (q21x (q21i d) y1) h fun y2 h=>?_
 refine q8q (v:=y2.2.1) (by kernel_rfl) h ?_ ?_
 ·
  intro h
  refine q3pf hm hT hC (q221 (q21i d) y2) h fun y3 h=>?_
  refine q8l (q8a ?_)
  cases h
  exact (hend _ (by kernel_rfl)).2
 ·
  intro h
  refine q8i (q88 (q8m ?_))
  refine q3pf hm hT hC (q225 (q21i d) y2) h fun y4 h=>?_
  refine q8q (v:=y4.1) (by kernel_rfl) h ?_ ?_
  ·
   intro h
   refine q3pf hm hT hC (q227 (q21i d) y4) h fun y5 h=>?_
   refine q8l (q8a ?_)
   cases h
   exact (hend _ (by kernel_rfl)).2
  ·
   intro h
   refine q8i (q88 (q8m ?_))
   refine q3pf hm hT hC (q22b (q21i d) y4) h fun y6 h=>?_
   refine q8q (v:=y6.1) (by kernel_rfl) h ?_ ?_
   ·
    intro h
    refine q3pf hm hT hC (q22d (q21i d) y6) h fun y7 h=>?_
    refine q8l (q8a ?_)
    cases h
    exact (hend _ (by kernel_rfl)).2
   ·
    intro h
    refine q8i (q88 ?_)
    refine q3pf hm hT hC (q22h (q21i d) y6) h fun y8 h=>?_
    refine q8m ?_
    refine q3pf hm hT hC (q22l (q21i d) y8) h fun y9 h=>?_
    refine q8q (v:=y9.2.1) (by kernel_rfl) h ?_ ?_
    ·
     intro h
     refine q3pf hm hT hC (q22n (q21i d) y9) h fun y10 h=>?_
     refine q8l (q8a ?_)
     cases h
     exact (hend _ (by kernel_rfl)).2
    ·
     intro h
     refine q8i (q88 ?_)
     refine q3pf hm hT hC (q22r (q21i d) y9) h fun y11 h=>?_
     refine q8m ?_
     refine q3pf hm hT hC (q22v (q21i d) y11) h fun y12 h=>?_
     refine q8n ?_
     refine q8t (r:=r) (G:=iter (q23z d)) (S:=(fun x1=>⟨[(5,.ptr 0 0),(11,.rs 1),(13,.rs 2),(41,.rs 4),(42,i6 x1.1),(43,i6 x1.2.1)],[.cells [i6 x1.2.2.1,i6 x1.2.2.2.1],.rows Rii x1.2.2.2.2.1,.rowl Ri x1.2.2.2.2.2.1 (some 3),.rows Ri x1.2.2.2.2.2.2.1,.rows Ri x1.2.2.2.2.2.2.2]⟩:Int×Int×Int×Int×List Dii×List (List Di)×List Di×List Di→St)) d (fun _=>rfl) ?_ ?_
     ·
      intro n1 x1 h K1 hn1
      replace h:q23z d (iter (q23z d) n1) x1=some r:=h
      generalize hG1:iter (q23z d) n1=self1 at h
      unfold q23z at h
      refine q3pf hm hT hC (q23h (q21i d) x1) h fun y13 h=>?_
      refine q8m ?_
      refine q8q (v:=y13.2.2.1) (by kernel_rfl) h ?_ ?_
      ·
       intro h
       refine q8i (q88 ?_)
       refine q8p (r:=r) (F:=q23u d self1) (S:=(fun z=>⟨[(5,.ptr 0 0),(11,.rs 1),(13,.rs 2),(41,.rs 4),(42,i6 z.1),(43,i6 z.2.1)],[.cells [i6 z.2.2.1,i6 z.2.2.2.1],.rows Rii z.2.2.2.2.1,.rowl Ri z.2.2.2.2.2.1 (some 3),.rows Ri z.2.2.2.2.2.2.1,.rows Ri z.2.2.2.2.2.2.2]⟩:Int×Int×Int×Int×List Dii×List (List Di)×List Di×List Di→St)) ?_ ?_
       ·
        intro z h
        unfold q23u at h
        refine q8r hm hT hC (q23t (q21i d) z) h ?_
        intro y18 h
        exact hn1 _ ((congrFun hG1 _).trans h)
       intro hj3
       refine q8n ?_
       refine q3pf hm hT hC (q23l (q21i d) y13) h fun y14 h=>?_
       refine q8m ?_
       refine q3pf hm hT hC (q23p (q21i d) y14) h fun y15 h=>?_
       refine q8q (v:=y15.2.2.2.1) (by kernel_rfl) h ?_ ?_
       ·
        intro h
        refine q3pf hm hT hC (q23r (q21i d) y15) h fun y16 h=>?_
        refine q8k (q89 (q8d ?_))
        exact hj3 _ h
       ·
        intro h
        refine q8i (q88 ?_)
        refine q8r hm hT hC (q23w (q21i d) y15) h ?_
        intro y17 h
        refine q8b ?_
        exact hj3 _ h
      ·
       intro h
       refine q8k (q89 (q89 (q8d (q88 ?_))))
       refine q3pf hm hT hC (q23y (q21i d) y13) h fun y19 h=>?_
       refine q8l ?_
       cases h
       exact (hend _ (by kernel_rfl)).2
     ·
      intro K1 hn1
      refine q8m ?_
      refine q8r hm hT hC (q22z (q21i d) y12) h ?_
      intro y13p h
      refine q88 (q8m ?_)
      refine q8q (v:=y13p.2.2.1) (by kernel_rfl) h ?_ ?_
      ·
       intro h
       refine q8i (q88 ?_)
       refine q8p (r:=r) (F:=q240 d ) (S:=(fun z=>⟨[(5,.ptr 0 0),(11,.rs 1),(13,.rs 2),(41,.rs 4),(42,i6 z.1),(43,i6 z.2.1)],[.cells [i6 z.2.2.1,i6 z.2.2.2.1],.rows Rii z.2.2.2.2.1,.rowl Ri z.2.2.2.2.2.1 (some 3),.rows Ri z.2.2.2.2.2.2.1,.rows Ri z.2.2.2.2.2.2.2]⟩:Int×Int×Int×Int×List Dii×List (List Di)×List Di×List Di→St)) ?_ ?_
       ·
        intro z h
        unfold q240 at h
        refine q8r hm hT hC (q23d (q21i d) z) h ?_
        intro y18p h
        exact hn1 _ h
       intro hj2
       refine q8n (q8m ?_)
       refine q8r hm hT hC (q233 (q21i d) y13p) h ?_
       intro y14p h
       refine q88 (q8m (q8m ?_))
       refine q8r hm hT hC (q237 (q21i d) y14p) h ?_
       intro y15p h
       refine q88 ?_
       refine q8q (v:=y15p.2.2.2.1) (by kernel_rfl) h ?_ ?_
       ·
        intro h
        refine q8m ?_
        cases h
       ·
        intro h
        refine q8i (q88 ?_)
        refine q8r hm hT hC (q23b (q21i d) y15p) h ?_
        intro y17p h
        refine q8b ?_
        exact hj2 _ h
      ·
       intro h
       refine q8k (q89 (q89 (q8d (q88 (q8m ?_)))))
       refine q8r hm hT hC (q242 (q21i d) y13p) h ?_
       intro y19p h
       refine q88 (q8l ?_)
       cases h
       exact (hend _ (by kernel_rfl)).2
abbrev q245:List Pk:=[.row qjw true,.row Rii true,.row Rii true]
abbrev q246:Type:=qjx×Dii×Dii×Unit
abbrev q247:Type:=Int×Int
def q248 (r:q247):LV×List Ob:=(.tup [.int .i64 r.1,.int .i64 r.2],[])
def q249 (F:q246→Option q247):Go.Tx.Spec:=⟨15,q245,q247,F,q248⟩
abbrev q24a:Type:=(q21d→Option q21e)×Unit
def q24b (d:Nat):q24a:=(q243 d,())
def q24c (C:q24a):List Go.Tx.Spec:=[q21g C.1]
abbrev q24d:Type:=List Diii×Int×Int×Int×Int
def q24e (v:q24d):St:=⟨[(0,.agg [.fz Riii v.1]),(1,.agg [i6 v.2.1,i6 v.2.2.1]),(2,.agg [i6 v.2.2.2.1,i6 v.2.2.2.2])],[]⟩
abbrev q24f:Type:=List Diii×Int×Int×Int×Int
def q24g (v:q24f):St:=⟨[(3,.ptr 0 0),(4,.ptr 1 0),(5,.ptr 2 0)],[.cells [.fz Riii v.1],.cells [i6 v.2.1,i6 v.2.2.1],.cells [i6 v.2.2.2.1,i6 v.2.2.2.2]]⟩
def q24h (C:q24a) (v:q24d):Dt q24f:=(Dt.ret (v.1,v.2.1,v.2.2.1,v.2.2.2.1,v.2.2.2.2))
abbrev q3qi {V Y:Type}:=@rg q24a V Y tysT (fun C=>(orc (q24c C))) 20
theorem q24i C v:q3qi (regO (qdk f15) 0) false [(3,(.box [.val Riii])),(4,.any),(5,.any)] q24e q24h q24g C v:=rgI (by kernel_rfl)
abbrev q24j:Type:=List DLiE×Int
def q24k (v:q24j):St:=⟨[(8,.fz RLiE v.1),(9,i6 v.2)],[]⟩
def q24l (C:q24a) (v:q24f):Dt q24j:=(Dt.bnd (C.1 ((v.1,()),(v.2.1,v.2.2.1,()),(v.2.2.2.1,v.2.2.2.2,()),())) fun r1=>(Dt.ret (r1.1,r1.2)))
theorem q24m C v:q3qi (regO (qdk f15) 1) false [(8,(.val RLiE)),(9,.any)] q24g q24l q24k C v:=rgI (by kernel_rfl)
abbrev q24n:Type:=Int×Int
def q24o (v:q24n):St:=⟨[(6,i6 v.1),(7,i6 v.2)],[]⟩
def q24p (C:q24a) (v:q24j):Dt q24n:=(Dt.ret ((List.length v.1:Int),v.2))
theorem q24q C v:q3qi (regO (qdk f15) 2) false (an [6,7]) q24k q24p q24o C v:=rgI (by kernel_rfl)
def q24r (d:Nat) (x:q246):Option q247 :=
 (q24h (q24b d) (x.1.1,x.2.1.1,x.2.1.2.1,x.2.2.1.1,x.2.2.1.2.1)).eval fun y0 =>
 (q24l (q24b d) y0).eval fun y1 =>
 (q24p (q24b d) y1).eval fun y2 =>
 some y2
theorem q24s (d:Nat):COK prog (q249 (q24r d)):=by
 have hm:prog.follows .mixedOrders=true:=mixed
 have hT:=tys
 have hC0:OrcOK prog (orc (q24c (q24b d))):=qde (by
  intro S hS
  simp only [q24c,List.mem_cons,List.not_mem_nil,or_false] at hS
  subst hS;exact q244 d)
 have hC:OrcOK prog (orc (q24c (q24b d))):=hC0
 refine q93 (c:=qdk f15) (fn:=f15) hT (by kernel_rfl) (by kernel_rfl) (by decide) fun x r h w0 φ0 Q hend=>?_
 replace h:q24r d x=some r:=h
 unfold q24r at h
 show Run prog w0 φ0 20 (qdk f15) ⟨[(0,.agg [.fz Riii x.1.1]),(1,.agg [.int .i64 x.2.1.1,.int .i64 x.2.1.2.1]),(2,.agg [.int .i64 x.2.2.1.1,.int .i64 x.2.2.1.2.1])],[]⟩ Q
 refine q3pf hm hT hC (q24i (q24b d) (x.1.1,x.2.1.1,x.2.1.2.1,x.2.2.1.1,x.2.2.1.2.1)) h fun y0 h=>?_
 refine q3pf hm hT hC (q24m (q24b d) y0) h fun y1 h=>?_
 refine q3pf hm hT hC (q24q (q24b d) y1) h fun y2 h=>?_
 refine q8l ?_
 cases h
 exact (hend _ (by kernel_rfl)).2
abbrev q24t:List Pk:=[.row RLiE false,.row Ri false]
abbrev q24u:Type:=DLiE×Di×Unit
abbrev q24v:Type:=Int
def q24w (r:q24v):LV×List Ob:=(.int .i64 r,[])
def q24x (F:q24u→Option q24v):Go.Tx.Spec:=⟨72,q24t,q24v,F,q24w⟩
abbrev q24y:Type:=Unit
def q24z (_d:Nat):q24y:=()
def q250 (C:q24y):List Go.Tx.Spec:=[]
abbrev q251:Type:=List Di×Int
def q252 (v:q251):St:=⟨[(0,.fz Ri v.1),(1,i6 v.2)],[]⟩
def q253 (C:q24y) (v:q251):Dt q251:=(Dt.ret (v.1,v.2))
abbrev q3qj {V Y:Type}:=@rg q24y V Y tysT (fun C=>(orc (q250 C))) 19
theorem q254 C v:q3qj (regO (qdk f72) 0) false [(0,(.val Ri)),(1,.any)] q252 q253 q252 C v:=rgI (by kernel_rfl)
abbrev q255:Type:=List Di×Int×Int×Int
def q256 (v:q255):St:=⟨[(0,.fz Ri v.1),(1,i6 v.2.1),(7,i6 v.2.2.1),(8,i6 v.2.2.2)],[]⟩
def q257 (C:q24y) (v:q251):Dt q255:=(Dt.ret (v.1,v.2,(List.length v.1:Int),(0:Int)))
theorem q258 C v:q3qj (regO (qdk f72) 1) false [(0,(.val Ri)),(1,.any),(7,.any),(8,.any)] q252 q257 q256 C v:=rgI (by kernel_rfl)
abbrev q259:Type:=List Di×Int×Int×Int×Bool
def q25a (v:q259):St:=⟨[(0,.fz Ri v.1),(1,i6 v.2.1),(7,i6 v.2.2.1),(8,i6 v.2.2.2.1),(9,.bool v.2.2.2.2)],[]⟩
def q25b (C:q24y) (v:q255):Dt q259:=(Dt.ret (v.1,v.2.1,v.2.2.1,v.2.2.2,(decide (v.2.2.2<v.2.2.1))))
theorem q25c C v:q3qj (regO (qdk f72) 2) false [(0,(.val Ri)),(1,.any),(7,.any),(8,.any),(9,.any)] q256 q25b q25a C v:=rgI (by kernel_rfl)
abbrev q25d:Type:=List Di×Int×Int×Int×Int
def q25e (v:q25d):St:=⟨[(0,.fz Ri v.1),(1,i6 v.2.1),(5,i6 v.2.2.1),(7,i6 v.2.2.2.1),(8,i6 v.2.2.2.2)],[]⟩
def q25f (C:q24y) (v:q259):Dt q25d:=(Dt.ret (v.1,v.2.1,v.2.2.2.1,v.2.2.1,v.2.2.2.1))
theorem q25g C v:q3qj (regO (qdk f72) 3) false [(0,(.val Ri)),(1,.any),(5,.any),(7,.any),(8,.any)] q25a q25f q25e C v:=rgI (by kernel_rfl)
abbrev q25h:Type:=List Di×Int×Int×Int×Int×Bool
def q25i (v:q25h):St:=⟨[(0,.fz Ri v.1),(1,i6 v.2.1),(5,i6 v.2.2.1),(7,i6 v.2.2.2.1),(8,i6 v.2.2.2.2.1),(16,.bool v.2.2.2.2.2)],[]⟩
def q25j (C:q24y) (v:q25d):Dt q25h:=(Dt.ite (inB v.2.2.1 (List.length v.1)) (Dt.ret (v.1,v.2.1,v.2.2.1,v.2.2.2.1,v.2.2.2.2,(v.2.1 == (elt zi v.1 (v.2.2.1).toNat).1))) Dt.fail)
theorem q25k C v:q3qj (regO (qdk f72) 4) false [(0,(.val Ri)),(1,.any),(5,.any),(7,.any),(8,.any),(16,.any)] q25e q25j q25i C v:=rgI (by kernel_rfl)
abbrev q25l:Type:=Int
def q25m (v:q25l):St:=⟨[(4,i6 v)],[]⟩
def q25n (C:q24y) (v:q25h):Dt q25l:=(Dt.ret v.2.2.1)
theorem q25o C v:q3qj (regO (qdk f72) 5) false [(4,.any)] q25i q25n q25m C v:=rgI (by kernel_rfl)
def q25p (C:q24y) (v:q25h):Dt q255:=(Dt.ret (v.1,v.2.1,v.2.2.2.1,(IntKind.wrap .i64 (v.2.2.2.2.1+(1:Int)))))
theorem q25q C v:q3qj (regO (qdk f72) 6) false [(0,(.val Ri)),(1,.any),(7,.any),(8,.any)] q25i q25p q256 C v:=rgI (by kernel_rfl)
def q25r (C:q24y) (v:q259):Dt q25l:=(Dt.ret (-1:Int))
theorem q25s C v:q3qj (regO (qdk f72) 7) false [(4,.any)] q25a q25r q25m C v:=rgI (by kernel_rfl)
def q25t (d:Nat) (self1:(List Di×Int×Int×Int)→Option q24v) (x1:List Di×Int×Int×Int):Option q24v :=
 (q25b (q24z d) x1).eval fun y2 =>
 bif y2.2.2.2.2 then ((q25f (q24z d) y2).eval fun y3 =>
 (q25j (q24z d) y3).eval fun y4 =>
 bif y4.2.2.2.2.2 then ((q25n (q24z d) y4).eval fun y5 =>
 some y5) else ((q25p (q24z d) y4).eval fun y6 =>
 self1 y6)) else ((q25r (q24z d) y2).eval fun y7 =>
 some y7)
def q25u (d:Nat) (x:q24u):Option q24v :=
 (q253 (q24z d) (x.1.1,x.2.1.1)).eval fun y0 =>
 (q257 (q24z d) y0).eval fun y1 =>
 iter (q25t d ) d y1
theorem q25v (d:Nat):COK prog (q24x (q25u d)):=by
 have hm:prog.follows .mixedOrders=true:=mixed
 have hT:=tys
 have hC0:OrcOK prog (orc (q250 (q24z d))):=qde (by
  intro S hS
  simp only [q250,List.mem_cons,List.not_mem_nil,or_false] at hS
  all_goals first | cases hS | exact hS.elim)
 have hC:OrcOK prog (orc (q250 (q24z d))):=hC0
 refine q93 (c:=qdk f72) (fn:=f72) hT (by kernel_rfl) (by kernel_rfl) (by decide) fun x r h w0 φ0 Q hend=>?_
 replace h:q25u d x=some r:=h
 unfold q25u at h
 show Run prog w0 φ0 19 (qdk f72) ⟨[(0,.fz Ri x.1.1),(1,.int .i64 x.2.1.1)],[]⟩ Q
 refine q3pf hm hT hC (q254 (q24z d) (x.1.1,x.2.1.1)) h fun y0 h=>?_
 refine q8m ?_
 refine q3pf hm hT hC (q258 (q24z d) y0) h fun y1 h=>?_
 refine q8n ?_
 refine q8s (G:=iter (q25t d )) (S:=(fun x1=>⟨[(0,.fz Ri x1.1),(1,i6 x1.2.1),(7,i6 x1.2.2.1),(8,i6 x1.2.2.2)],[]⟩:List Di×Int×Int×Int→St)) (fun _=>rfl) ?_ d _ h
 intro n1 x1 h K1 hn1
 replace h:q25t d  (iter (q25t d ) n1) x1=some r:=h
 generalize iter (q25t d ) n1=self1 at h hn1
 unfold q25t at h
 refine q3pf hm hT hC (q25c (q24z d) x1) h fun y2 h=>?_
 refine q8m ?_
 refine q8q (v:=y2.2.2.2.2) (by kernel_rfl) h ?_ ?_
 ·
  intro h
  refine q8i (q88 (q8m (q8n ?_)))
  refine q3pf hm hT hC (q25g (q24z d) y2) h fun y3 h=>?_
  refine q3pf hm hT hC (q25k (q24z d) y3) h fun y4 h=>?_
  refine q8q (v:=y4.2.2.2.2.2) (by kernel_rfl) h ?_ ?_
  ·
   intro h
   refine q3pf hm hT hC (q25o (q24z d) y4) h fun y5 h=>?_
   refine q8l (q8c (q8a (q8a (q8c (q8a ?_)))))
   cases h
   exact (hend _ (by kernel_rfl)).2
  ·
   intro h
   refine q8i (q8b (q88 ?_))
   refine q8r hm hT hC (q25q (q24z d) y4) h ?_
   intro y6 h
   exact hn1 _ h
 ·
  intro h
  refine q8k (q89 (q89 (q8d (q88 ?_))))
  refine q3pf hm hT hC (q25s (q24z d) y2) h fun y7 h=>?_
  refine q8l ?_
  cases h
  exact (hend _ (by kernel_rfl)).2
abbrev q25w:List Pk:=[.row RLiE false,.row Ri false]
abbrev q25x:Type:=DLiE×Di×Unit
abbrev q25y:Type:=Bool
def q25z (r:q25y):LV×List Ob:=(.bool r,[])
def q260 (F:q25x→Option q25y):Go.Tx.Spec:=⟨52,q25w,q25y,F,q25z⟩
abbrev q261:Type:=(q24u→Option q24v)×Unit
def q262 (d:Nat):q261:=(q25u d,())
def q263 (C:q261):List Go.Tx.Spec:=[q24x C.1]
abbrev q264:Type:=List Di×Int
def q265 (v:q264):St:=⟨[(0,.fz Ri v.1),(1,i6 v.2)],[]⟩
def q266 (C:q261) (v:q264):Dt q264:=(Dt.ret (v.1,v.2))
abbrev q3qk {V Y:Type}:=@rg q261 V Y tysT (fun C=>(orc (q263 C))) 9
theorem q267 C v:q3qk (regO (qdk f52) 0) false [(0,(.val Ri)),(1,.any)] q265 q266 q265 C v:=rgI (by kernel_rfl)
abbrev q268:Type:=Bool
def q269 (v:q268):St:=⟨[(4,.bool v)],[]⟩
def q26a (C:q261) (v:q264):Dt q268:=(Dt.bnd (C.1 ((v.1,()),(v.2,()),())) fun r1=>(Dt.ret (decide (r1≥(0:Int)))))
theorem q26b C v:q3qk (regO (qdk f52) 1) false [(4,.any)] q265 q26a q269 C v:=rgI (by kernel_rfl)
def q26c (d:Nat) (x:q25x):Option q25y :=
 (q266 (q262 d) (x.1.1,x.2.1.1)).eval fun y0 =>
 (q26a (q262 d) y0).eval fun y1 =>
 some y1
theorem q26d (d:Nat):COK prog (q260 (q26c d)):=by
 have hm:prog.follows .mixedOrders=true:=mixed
 have hT:=tys
 have hC0:OrcOK prog (orc (q263 (q262 d))):=qde (by
  intro S hS
  simp only [q263,List.mem_cons,List.not_mem_nil,or_false] at hS
  subst hS;exact q25v d)
 have hC:OrcOK prog (orc (q263 (q262 d))):=hC0
 refine q93 (c:=qdk f52) (fn:=f52) hT (by kernel_rfl) (by kernel_rfl) (by decide) fun x r h w0 φ0 Q hend=>?_
 replace h:q26c d x=some r:=h
 unfold q26c at h
 show Run prog w0 φ0 9 (qdk f52) ⟨[(0,.fz Ri x.1.1),(1,.int .i64 x.2.1.1)],[]⟩ Q
 refine q3pf hm hT hC (q267 (q262 d) (x.1.1,x.2.1.1)) h fun y0 h=>?_
 refine q3pf hm hT hC (q26b (q262 d) y0) h fun y1 h=>?_
 refine q8l ?_
 cases h
 exact (hend _ (by kernel_rfl)).2
abbrev q26e:List Pk:=[.row RLiE false,.ref Ri]
abbrev q26f:Type:=DLiE×Di×Unit
abbrev q26g:Type:=Bool
def q26h (r:q26g):LV×List Ob:=(.bool r,[])
def q26i (F:q26f→Option q26g):Go.Tx.Spec:=⟨51,q26e,q26g,F,q26h⟩
abbrev q26j:Type:=(q25x→Option q25y)×Unit
def q26k (d:Nat):q26j:=(q26c d,())
def q26l (C:q26j):List Go.Tx.Spec:=[q260 C.1]
abbrev q26m:Type:=List Di×Di
def q26n (v:q26m):St:=⟨[(0,.fz Ri v.1),(1,.fp Ri v.2 0)],[]⟩
def q26o (C:q26j) (v:q26m):Dt q26m:=(Dt.ret (v.1,v.2))
abbrev q3ql {V Y:Type}:=@rg q26j V Y tysT (fun C=>(orc (q26l C))) 7
theorem q26p C v:q3ql (regO (qdk f51) 0) false [(0,(.val Ri)),(1,.any)] q26n q26o q26n C v:=rgI (by kernel_rfl)
abbrev q26q:Type:=Bool
def q26r (v:q26q):St:=⟨[(3,.bool v)],[]⟩
def q26s (C:q26j) (v:q26m):Dt q26q:=(Dt.bnd (C.1 ((v.1,()),(v.2.1,()),())) fun r1=>(Dt.ret r1))
theorem q26t C v:q3ql (regO (qdk f51) 1) false [(3,.any)] q26n q26s q26r C v:=rgI (by kernel_rfl)
def q26u (d:Nat) (x:q26f):Option q26g :=
 (q26o (q26k d) (x.1.1,x.2.1)).eval fun y0 =>
 (q26s (q26k d) y0).eval fun y1 =>
 some y1
theorem q26v (d:Nat):COK prog (q26i (q26u d)):=by
 have hm:prog.follows .mixedOrders=true:=mixed
 have hT:=tys
 have hC0:OrcOK prog (orc (q26l (q26k d))):=qde (by
  intro S hS
  simp only [q26l,List.mem_cons,List.not_mem_nil,or_false] at hS
  subst hS;exact q26d d)
 have hC:OrcOK prog (orc (q26l (q26k d))):=hC0
 refine q93 (c:=qdk f51) (fn:=f51) hT (by kernel_rfl) (by kernel_rfl) (by decide) fun x r h w0 φ0 Q hend=>?_
 replace h:q26u d x=some r:=h
 unfold q26u at h
 show Run prog w0 φ0 7 (qdk f51) ⟨[(0,.fz Ri x.1.1),(1,.fp Ri x.2.1 0)],[]⟩ Q
 refine q3pf hm hT hC (q26p (q26k d) (x.1.1,x.2.1)) h fun y0 h=>?_
 refine q3pf hm hT hC (q26t (q26k d) y0) h fun y1 h=>?_
 refine q8l ?_
 cases h
 exact (hend _ (by kernel_rfl)).2
abbrev q26w:List Pk:=[.row qk2 false,.fn 51 [Ri]]
abbrev q26x:Type:=qk3×(Di×Unit)×Unit
abbrev q26y:Type:=Int
def q26z (r:q26y):LV×List Ob:=(.int .i64 r,[])
def q270 (F:q26x→Option q26y):Go.Tx.Spec:=⟨50,q26w,q26y,F,q26z⟩
abbrev q271:Type:=(q26f→Option q26g)×Unit
def q272 (d:Nat):q271:=(q26u d,())
def q273 (C:q271):List Go.Tx.Spec:=[q26i C.1]
abbrev q274:Type:=List DLiE×Di
def q275 (v:q274):St:=⟨[(0,.fz RLiE v.1),(1,.fn 51 [.fp Ri v.2 0])],[]⟩
def q276 (C:q271) (v:q274):Dt q274:=(Dt.ret (v.1,v.2))
abbrev q3qm {V Y:Type}:=@rg q271 V Y tysT (fun C=>(orc (q273 C))) 19
theorem q277 C v:q3qm (regO (qdk f50) 0) false [(0,(.val RLiE)),(1,.any)] q275 q276 q275 C v:=rgI (by kernel_rfl)
abbrev q278:Type:=List DLiE×Di×Int×Int
def q279 (v:q278):St:=⟨[(0,.fz RLiE v.1),(1,.fn 51 [.fp Ri v.2.1 0]),(7,i6 v.2.2.1),(8,i6 v.2.2.2)],[]⟩
def q27a (C:q271) (v:q274):Dt q278:=(Dt.ret (v.1,v.2,(List.length v.1:Int),(0:Int)))
theorem q27b C v:q3qm (regO (qdk f50) 1) false [(0,(.val RLiE)),(1,.any),(7,.any),(8,.any)] q275 q27a q279 C v:=rgI (by kernel_rfl)
abbrev q27c:Type:=List DLiE×Di×Int×Int×Bool
def q27d (v:q27c):St:=⟨[(0,.fz RLiE v.1),(1,.fn 51 [.fp Ri v.2.1 0]),(7,i6 v.2.2.1),(8,i6 v.2.2.2.1),(9,.bool v.2.2.2.2)],[]⟩
def q27e (C:q271) (v:q278):Dt q27c:=(Dt.ret (v.1,v.2.1,v.2.2.1,v.2.2.2,(decide (v.2.2.2<v.2.2.1))))
theorem q27f C v:q3qm (regO (qdk f50) 2) false [(0,(.val RLiE)),(1,.any),(7,.any),(8,.any),(9,.any)] q279 q27e q27d C v:=rgI (by kernel_rfl)
abbrev q27g:Type:=List DLiE×Di×Int×Int×Int
def q27h (v:q27g):St:=⟨[(0,.fz RLiE v.1),(1,.fn 51 [.fp Ri v.2.1 0]),(5,i6 v.2.2.1),(7,i6 v.2.2.2.1),(8,i6 v.2.2.2.2)],[]⟩
def q27i (C:q271) (v:q27c):Dt q27g:=(Dt.ret (v.1,v.2.1,v.2.2.2.1,v.2.2.1,v.2.2.2.1))
theorem q27j C v:q3qm (regO (qdk f50) 3) false [(0,(.val RLiE)),(1,.any),(5,.any),(7,.any),(8,.any)] q27d q27i q27h C v:=rgI (by kernel_rfl)
abbrev q27k:Type:=List DLiE×Di×Int×Int×Int×Bool
def q27l (v:q27k):St:=⟨[(0,.fz RLiE v.1),(1,.fn 51 [.fp Ri v.2.1 0]),(5,i6 v.2.2.1),(7,i6 v.2.2.2.1),(8,i6 v.2.2.2.2.1),(16,.bool v.2.2.2.2.2)],[]⟩
def q27m (C:q271) (v:q27g):Dt q27k:=(Dt.ite (inB v.2.2.1 (List.length v.1)) (Dt.bnd (C.1 (((elt zLiE v.1 (v.2.2.1).toNat).1,()),v.2.1,())) fun r1=>(Dt.ret (v.1,v.2.1,v.2.2.1,v.2.2.2.1,v.2.2.2.2,r1))) Dt.fail)
theorem q27n C v:q3qm (regO (qdk f50) 4) false [(0,(.val RLiE)),(1,.any),(5,.any),(7,.any),(8,.any),(16,.any)] q27h q27m q27l C v:=rgI (by kernel_rfl)
abbrev q27o:Type:=Int
def q27p (v:q27o):St:=⟨[(4,i6 v)],[]⟩
def q27q (C:q271) (v:q27k):Dt q27o:=(Dt.ret v.2.2.1)
theorem q27r C v:q3qm (regO (qdk f50) 5) false [(4,.any)] q27l q27q q27p C v:=rgI (by kernel_rfl)
def q27s (C:q271) (v:q27k):Dt q278:=(Dt.ret (v.1,v.2.1,v.2.2.2.1,(IntKind.wrap .i64 (v.2.2.2.2.1+(1:Int)))))
theorem q27t C v:q3qm (regO (qdk f50) 6) false [(0,(.val RLiE)),(1,.any),(7,.any),(8,.any)] q27l q27s q279 C v:=rgI (by kernel_rfl)
def q27u (C:q271) (v:q27c):Dt q27o:=(Dt.ret (-1:Int))
theorem q27v C v:q3qm (regO (qdk f50) 7) false [(4,.any)] q27d q27u q27p C v:=rgI (by kernel_rfl)
def q27w (d:Nat) (self1:(List DLiE×Di×Int×Int)→Option q26y) (x1:List DLiE×Di×Int×Int):Option q26y :=
 (q27e (q272 d) x1).eval fun y2 =>
 bif y2.2.2.2.2 then ((q27i (q272 d) y2).eval fun y3 =>
 (q27m (q272 d) y3).eval fun y4 =>
 bif y4.2.2.2.2.2 then ((q27q (q272 d) y4).eval fun y5 =>
 some y5) else ((q27s (q272 d) y4).eval fun y6 =>
 self1 y6)) else ((q27u (q272 d) y2).eval fun y7 =>
 some y7)
def q27x (d:Nat) (x:q26x):Option q26y :=
 (q276 (q272 d) (x.1.1,x.2.1.1)).eval fun y0 =>
 (q27a (q272 d) y0).eval fun y1 =>
 iter (q27w d ) d y1
theorem q27y (d:Nat):COK prog (q270 (q27x d)):=by
 have hm:prog.follows .mixedOrders=true:=mixed
 have hT:=tys
 have hC0:OrcOK prog (orc (q273 (q272 d))):=qde (by
  intro S hS
  simp only [q273,List.mem_cons,List.not_mem_nil,or_false] at hS
  subst hS;exact q26v d)
 have hC:OrcOK prog (orc (q273 (q272 d))):=hC0
 refine q93 (c:=qdk f50) (fn:=f50) hT (by kernel_rfl) (by kernel_rfl) (by decide) fun x r h w0 φ0 Q hend=>?_
 replace h:q27x d x=some r:=h
 unfold q27x at h
 show Run prog w0 φ0 19 (qdk f50) ⟨[(0,.fz RLiE x.1.1),(1,.fn 51 [.fp Ri x.2.1.1 0])],[]⟩ Q
 refine q3pf hm hT hC (q277 (q272 d) (x.1.1,x.2.1.1)) h fun y0 h=>?_
 refine q8m ?_
 refine q3pf hm hT hC (q27b (q272 d) y0) h fun y1 h=>?_
 refine q8n ?_
 refine q8s (G:=iter (q27w d )) (S:=(fun x1=>⟨[(0,.fz RLiE x1.1),(1,.fn 51 [.fp Ri x1.2.1 0]),(7,i6 x1.2.2.1),(8,i6 x1.2.2.2)],[]⟩:List DLiE×Di×Int×Int→St)) (fun _=>rfl) ?_ d _ h
 intro n1 x1 h K1 hn1
 replace h:q27w d  (iter (q27w d ) n1) x1=some r:=h
 generalize iter (q27w d ) n1=self1 at h hn1
 unfold q27w at h
 refine q3pf hm hT hC (q27f (q272 d) x1) h fun y2 h=>?_
 refine q8m ?_
 refine q8q (v:=y2.2.2.2.2) (by kernel_rfl) h ?_ ?_
 ·
  intro h
  refine q8i (q88 (q8m (q8n ?_)))
  refine q3pf hm hT hC (q27j (q272 d) y2) h fun y3 h=>?_
  refine q3pf hm hT hC (q27n (q272 d) y3) h fun y4 h=>?_
  refine q8q (v:=y4.2.2.2.2.2) (by kernel_rfl) h ?_ ?_
  ·
   intro h
   refine q3pf hm hT hC (q27r (q272 d) y4) h fun y5 h=>?_
   refine q8l (q8c (q8a (q8a (q8c (q8a ?_)))))
   cases h
   exact (hend _ (by kernel_rfl)).2
  ·
   intro h
   refine q8i (q8b (q88 ?_))
   refine q8r hm hT hC (q27t (q272 d) y4) h ?_
   intro y6 h
   exact hn1 _ h
 ·
  intro h
  refine q8k (q89 (q89 (q8d (q88 ?_))))
  refine q3pf hm hT hC (q27v (q272 d) y2) h fun y7 h=>?_
  refine q8l ?_
  cases h
  exact (hend _ (by kernel_rfl)).2
abbrev q27z:List Pk:=[.row RLiE false,.ref Ri]
abbrev q280:Type:=DLiE×Di×Unit
abbrev q281:Type:=Bool
def q282 (r:q281):LV×List Ob:=(.bool r,[])
def q283 (F:q280→Option q281):Go.Tx.Spec:=⟨53,q27z,q281,F,q282⟩
abbrev q284:Type:=(q25x→Option q25y)×Unit
def q285 (d:Nat):q284:=(q26c d,())
def q286 (C:q284):List Go.Tx.Spec:=[q260 C.1]
abbrev q287:Type:=List Di×Di
def q288 (v:q287):St:=⟨[(0,.fz Ri v.1),(1,.fp Ri v.2 0)],[]⟩
def q289 (C:q284) (v:q287):Dt q287:=(Dt.ret (v.1,v.2))
abbrev q3qn {V Y:Type}:=@rg q284 V Y tysT (fun C=>(orc (q286 C))) 7
theorem q28a C v:q3qn (regO (qdk f53) 0) false [(0,(.val Ri)),(1,.any)] q288 q289 q288 C v:=rgI (by kernel_rfl)
abbrev q28b:Type:=Bool
def q28c (v:q28b):St:=⟨[(3,.bool v)],[]⟩
def q28d (C:q284) (v:q287):Dt q28b:=(Dt.bnd (C.1 ((v.1,()),(v.2.1,()),())) fun r1=>(Dt.ret r1))
theorem q28e C v:q3qn (regO (qdk f53) 1) false [(3,.any)] q288 q28d q28c C v:=rgI (by kernel_rfl)
def q28f (d:Nat) (x:q280):Option q281 :=
 (q289 (q285 d) (x.1.1,x.2.1)).eval fun y0 =>
 (q28d (q285 d) y0).eval fun y1 =>
 some y1
theorem q28g (d:Nat):COK prog (q283 (q28f d)):=by
 have hm:prog.follows .mixedOrders=true:=mixed
 have hT:=tys
 have hC0:OrcOK prog (orc (q286 (q285 d))):=qde (by
  intro S hS
  simp only [q286,List.mem_cons,List.not_mem_nil,or_false] at hS
  subst hS;exact q26d d)
 have hC:OrcOK prog (orc (q286 (q285 d))):=hC0
 refine q93 (c:=qdk f53) (fn:=f53) hT (by kernel_rfl) (by kernel_rfl) (by decide) fun x r h w0 φ0 Q hend=>?_
 replace h:q28f d x=some r:=h
 unfold q28f at h
 show Run prog w0 φ0 7 (qdk f53) ⟨[(0,.fz Ri x.1.1),(1,.fp Ri x.2.1 0)],[]⟩ Q
 refine q3pf hm hT hC (q28a (q285 d) (x.1.1,x.2.1)) h fun y0 h=>?_
 refine q3pf hm hT hC (q28e (q285 d) y0) h fun y1 h=>?_
 refine q8l ?_
 cases h
 exact (hend _ (by kernel_rfl)).2
abbrev q28h:List Pk:=[.row qk2 false,.fn 53 [Ri]]
abbrev q28i:Type:=qk3×(Di×Unit)×Unit
abbrev q28j:Type:=Int
def q28k (r:q28j):LV×List Ob:=(.int .i64 r,[])
def q28l (F:q28i→Option q28j):Go.Tx.Spec:=⟨50,q28h,q28j,F,q28k⟩
abbrev q28m:Type:=(q280→Option q281)×Unit
def q28n (d:Nat):q28m:=(q28f d,())
def q28o (C:q28m):List Go.Tx.Spec:=[q283 C.1]
abbrev q28p:Type:=List DLiE×Di
def q28q (v:q28p):St:=⟨[(0,.fz RLiE v.1),(1,.fn 53 [.fp Ri v.2 0])],[]⟩
def q28r (C:q28m) (v:q28p):Dt q28p:=(Dt.ret (v.1,v.2))
abbrev q3qo {V Y:Type}:=@rg q28m V Y tysT (fun C=>(orc (q28o C))) 19
theorem q28s C v:q3qo (regO (qdk f50) 0) false [(0,(.val RLiE)),(1,.any)] q28q q28r q28q C v:=rgI (by kernel_rfl)
abbrev q28t:Type:=List DLiE×Di×Int×Int
def q28u (v:q28t):St:=⟨[(0,.fz RLiE v.1),(1,.fn 53 [.fp Ri v.2.1 0]),(7,i6 v.2.2.1),(8,i6 v.2.2.2)],[]⟩
def q28v (C:q28m) (v:q28p):Dt q28t:=(Dt.ret (v.1,v.2,(List.length v.1:Int),(0:Int)))
theorem q28w C v:q3qo (regO (qdk f50) 1) false [(0,(.val RLiE)),(1,.any),(7,.any),(8,.any)] q28q q28v q28u C v:=rgI (by kernel_rfl)
abbrev q28x:Type:=List DLiE×Di×Int×Int×Bool
def q28y (v:q28x):St:=⟨[(0,.fz RLiE v.1),(1,.fn 53 [.fp Ri v.2.1 0]),(7,i6 v.2.2.1),(8,i6 v.2.2.2.1),(9,.bool v.2.2.2.2)],[]⟩
def q28z (C:q28m) (v:q28t):Dt q28x:=(Dt.ret (v.1,v.2.1,v.2.2.1,v.2.2.2,(decide (v.2.2.2<v.2.2.1))))
theorem q290 C v:q3qo (regO (qdk f50) 2) false [(0,(.val RLiE)),(1,.any),(7,.any),(8,.any),(9,.any)] q28u q28z q28y C v:=rgI (by kernel_rfl)
abbrev q291:Type:=List DLiE×Di×Int×Int×Int
def q292 (v:q291):St:=⟨[(0,.fz RLiE v.1),(1,.fn 53 [.fp Ri v.2.1 0]),(5,i6 v.2.2.1),(7,i6 v.2.2.2.1),(8,i6 v.2.2.2.2)],[]⟩
def q293 (C:q28m) (v:q28x):Dt q291:=(Dt.ret (v.1,v.2.1,v.2.2.2.1,v.2.2.1,v.2.2.2.1))
theorem q294 C v:q3qo (regO (qdk f50) 3) false [(0,(.val RLiE)),(1,.any),(5,.any),(7,.any),(8,.any)] q28y q293 q292 C v:=rgI (by kernel_rfl)
abbrev q295:Type:=List DLiE×Di×Int×Int×Int×Bool
def q296 (v:q295):St:=⟨[(0,.fz RLiE v.1),(1,.fn 53 [.fp Ri v.2.1 0]),(5,i6 v.2.2.1),(7,i6 v.2.2.2.1),(8,i6 v.2.2.2.2.1),(16,.bool v.2.2.2.2.2)],[]⟩
def q297 (C:q28m) (v:q291):Dt q295:=(Dt.ite (inB v.2.2.1 (List.length v.1)) (Dt.bnd (C.1 (((elt zLiE v.1 (v.2.2.1).toNat).1,()),v.2.1,())) fun r1=>(Dt.ret (v.1,v.2.1,v.2.2.1,v.2.2.2.1,v.2.2.2.2,r1))) Dt.fail)
theorem q298 C v:q3qo (regO (qdk f50) 4) false [(0,(.val RLiE)),(1,.any),(5,.any),(7,.any),(8,.any),(16,.any)] q292 q297 q296 C v:=rgI (by kernel_rfl)
abbrev q299:Type:=Int
def q29a (v:q299):St:=⟨[(4,i6 v)],[]⟩
def q29b (C:q28m) (v:q295):Dt q299:=(Dt.ret v.2.2.1)
theorem q29c C v:q3qo (regO (qdk f50) 5) false [(4,.any)] q296 q29b q29a C v:=rgI (by kernel_rfl)
def q29d (C:q28m) (v:q295):Dt q28t:=(Dt.ret (v.1,v.2.1,v.2.2.2.1,(IntKind.wrap .i64 (v.2.2.2.2.1+(1:Int)))))
theorem q29e C v:q3qo (regO (qdk f50) 6) false [(0,(.val RLiE)),(1,.any),(7,.any),(8,.any)] q296 q29d q28u C v:=rgI (by kernel_rfl)
def q29f (C:q28m) (v:q28x):Dt q299:=(Dt.ret (-1:Int))
theorem q29g C v:q3qo (regO (qdk f50) 7) false [(4,.any)] q28y q29f q29a C v:=rgI (by kernel_rfl)
def q29h (d:Nat) (self1:(List DLiE×Di×Int×Int)→Option q28j) (x1:List DLiE×Di×Int×Int):Option q28j :=
 (q28z (q28n d) x1).eval fun y2 =>
 bif y2.2.2.2.2 then ((q293 (q28n d) y2).eval fun y3 =>
 (q297 (q28n d) y3).eval fun y4 =>
 bif y4.2.2.2.2.2 then ((q29b (q28n d) y4).eval fun y5 =>
 some y5) else ((q29d (q28n d) y4).eval fun y6 =>
 self1 y6)) else ((q29f (q28n d) y2).eval fun y7 =>
 some y7)
def q29i (d:Nat) (x:q28i):Option q28j :=
 (q28r (q28n d) (x.1.1,x.2.1.1)).eval fun y0 =>
 (q28v (q28n d) y0).eval fun y1 =>
 iter (q29h d ) d y1
theorem q29j (d:Nat):COK prog (q28l (q29i d)):=by
 have hm:prog.follows .mixedOrders=true:=mixed
 have hT:=tys
 have hC0:OrcOK prog (orc (q28o (q28n d))):=qde (by
  intro S hS
  simp only [q28o,List.mem_cons,List.not_mem_nil,or_false] at hS
  subst hS;exact q28g d)
 have hC:OrcOK prog (orc (q28o (q28n d))):=hC0
 refine q93 (c:=qdk f50) (fn:=f50) hT (by kernel_rfl) (by kernel_rfl) (by decide) fun x r h w0 φ0 Q hend=>?_
 replace h:q29i d x=some r:=h
 unfold q29i at h
 show Run prog w0 φ0 19 (qdk f50) ⟨[(0,.fz RLiE x.1.1),(1,.fn 53 [.fp Ri x.2.1.1 0])],[]⟩ Q
 refine q3pf hm hT hC (q28s (q28n d) (x.1.1,x.2.1.1)) h fun y0 h=>?_
 refine q8m ?_
 refine q3pf hm hT hC (q28w (q28n d) y0) h fun y1 h=>?_
 refine q8n ?_
 refine q8s (G:=iter (q29h d )) (S:=(fun x1=>⟨[(0,.fz RLiE x1.1),(1,.fn 53 [.fp Ri x1.2.1 0]),(7,i6 x1.2.2.1),(8,i6 x1.2.2.2)],[]⟩:List DLiE×Di×Int×Int→St)) (fun _=>rfl) ?_ d _ h
 intro n1 x1 h K1 hn1
 replace h:q29h d  (iter (q29h d ) n1) x1=some r:=h
 generalize iter (q29h d ) n1=self1 at h hn1
 unfold q29h at h
 refine q3pf hm hT hC (q290 (q28n d) x1) h fun y2 h=>?_
 refine q8m ?_
 refine q8q (v:=y2.2.2.2.2) (by kernel_rfl) h ?_ ?_
 ·
  intro h
  refine q8i (q88 (q8m (q8n ?_)))
  refine q3pf hm hT hC (q294 (q28n d) y2) h fun y3 h=>?_
  refine q3pf hm hT hC (q298 (q28n d) y3) h fun y4 h=>?_
  refine q8q (v:=y4.2.2.2.2.2) (by kernel_rfl) h ?_ ?_
  ·
   intro h
   refine q3pf hm hT hC (q29c (q28n d) y4) h fun y5 h=>?_
   refine q8l (q8c (q8a (q8a (q8c (q8a ?_)))))
   cases h
   exact (hend _ (by kernel_rfl)).2
  ·
   intro h
   refine q8i (q8b (q88 ?_))
   refine q8r hm hT hC (q29e (q28n d) y4) h ?_
   intro y6 h
   exact hn1 _ h
 ·
  intro h
  refine q8k (q89 (q89 (q8d (q88 ?_))))
  refine q3pf hm hT hC (q29g (q28n d) y2) h fun y7 h=>?_
  refine q8l ?_
  cases h
  exact (hend _ (by kernel_rfl)).2
abbrev q29k:List Pk:=[.row qjw true,.row Rii true,.row Rii true,.row Ri false,.row Ri false]
abbrev q29l:Type:=qjx×Dii×Dii×Di×Di×Unit
abbrev q29m:Type:=Bool×Int
def q29n (r:q29m):LV×List Ob:=(.tup [.bool r.1,.int .i64 r.2],[])
def q29o (F:q29l→Option q29m):Go.Tx.Spec:=⟨29,q29k,q29m,F,q29n⟩
abbrev q29p:Type:=(q21d→Option q21e)×(q26x→Option q26y)×(q28i→Option q28j)×Unit
def q29q (d:Nat):q29p:=(q243 d,q27x d,q29i d,())
def q29r (C:q29p):List Go.Tx.Spec:=[q21g C.1,q270 C.2.1,q28l C.2.2.1]
abbrev q29s:Type:=List Diii×Int×Int×Int×Int×Int×Int
def q29t (v:q29s):St:=⟨[(0,.agg [.fz Riii v.1]),(1,.agg [i6 v.2.1,i6 v.2.2.1]),(2,.agg [i6 v.2.2.2.1,i6 v.2.2.2.2.1]),(3,i6 v.2.2.2.2.2.1),(4,i6 v.2.2.2.2.2.2)],[]⟩
abbrev q29u:Type:=List Diii×Int×Int×Int×Int×Int×Int
def q29v (v:q29u):St:=⟨[(5,.ptr 0 0),(6,.ptr 1 0),(7,.ptr 2 0),(8,.ptr 3 0),(9,.ptr 4 0)],[.cells [.fz Riii v.1],.cells [i6 v.2.1,i6 v.2.2.1],.cells [i6 v.2.2.2.1,i6 v.2.2.2.2.1],.cells [i6 v.2.2.2.2.2.1],.cells [i6 v.2.2.2.2.2.2]]⟩
def q29w (C:q29p) (v:q29s):Dt q29u:=(Dt.ret (v.1,v.2.1,v.2.2.1,v.2.2.2.1,v.2.2.2.2.1,v.2.2.2.2.2.1,v.2.2.2.2.2.2))
abbrev q3qp {V Y:Type}:=@rg q29p V Y tysT (fun C=>(orc (q29r C))) 41
theorem q29x C v:q3qp (regO (qdk f29) 0) false [(5,(.box [.val Riii])),(6,.any),(7,.any),(8,.any),(9,.any)] q29t q29w q29v C v:=rgI (by kernel_rfl)
abbrev q29y:Type:=List DLiE×Int×Int×Int
def q29z (v:q29y):St:=⟨[(8,.ptr 0 0),(9,.ptr 1 0),(12,.fz RLiE v.1),(13,i6 v.2.1)],[.cells [i6 v.2.2.1],.cells [i6 v.2.2.2]]⟩
def q2a0 (C:q29p) (v:q29u):Dt q29y:=(Dt.bnd (C.1 ((v.1,()),(v.2.1,v.2.2.1,()),(v.2.2.2.1,v.2.2.2.2.1,()),())) fun r1=>(Dt.ret (r1.1,r1.2,v.2.2.2.2.2.1,v.2.2.2.2.2.2)))
theorem q2a1 C v:q3qp (regO (qdk f29) 1) false [(8,.any),(9,.any),(12,(.val RLiE)),(13,.any)] q29v q2a0 q29z C v:=rgI (by kernel_rfl)
abbrev q2a2:Type:=List DLiE×Int×Bool×Int×Int
def q2a3 (v:q2a2):St:=⟨[(8,.ptr 0 0),(9,.ptr 1 0),(12,.fz RLiE v.1),(13,i6 v.2.1),(24,.bool v.2.2.1)],[.cells [i6 v.2.2.2.1],.cells [i6 v.2.2.2.2]]⟩
def q2a4 (C:q29p) (v:q29y):Dt q2a2:=(Dt.ret (v.1,v.2.1,(v.2.1 != (0:Int)),v.2.2.1,v.2.2.2))
theorem q2a5 C v:q3qp (regO (qdk f29) 2) false [(8,.any),(9,.any),(12,(.val RLiE)),(13,.any),(24,.any)] q29z q2a4 q2a3 C v:=rgI (by kernel_rfl)
abbrev q2a6:Type:=Bool×Int
def q2a7 (v:q2a6):St:=⟨[(10,.bool v.1),(11,i6 v.2)],[]⟩
def q2a8 (C:q29p) (v:q2a2):Dt q2a6:=(Dt.ret (false,v.2.1))
theorem q2a9 C v:q3qp (regO (qdk f29) 3) false (an [10,11]) q2a3 q2a8 q2a7 C v:=rgI (by kernel_rfl)
abbrev q2aa:Type:=List DLiE×Int×Int
def q2ab (v:q2aa):St:=⟨[(9,.ptr 0 0),(12,.fz RLiE v.1),(14,i6 v.2.1)],[.cells [i6 v.2.2]]⟩
def q2ac (C:q29p) (v:q2a2):Dt q2aa:=(Dt.bnd (C.2.1 ((v.1,()),((v.2.2.2.1,()),()),())) fun r1=>(Dt.ret (v.1,r1,v.2.2.2.2)))
theorem q2ad C v:q3qp (regO (qdk f29) 4) false [(9,.any),(12,(.val RLiE)),(14,.any)] q2a3 q2ac q2ab C v:=rgI (by kernel_rfl)
abbrev q2ae:Type:=Int×Int
def q2af (v:q2ae):St:=⟨[(14,i6 v.1),(15,i6 v.2)],[]⟩
def q2ag (C:q29p) (v:q2aa):Dt q2ae:=(Dt.bnd (C.2.2.1 ((v.1,()),((v.2.2,()),()),())) fun r1=>(Dt.ret (v.2.1,r1)))
theorem q2ah C v:q3qp (regO (qdk f29) 5) false (an [14,15]) q2ab q2ag q2af C v:=rgI (by kernel_rfl)
abbrev q2ai:Type:=Int×Int×Bool
def q2aj (v:q2ai):St:=⟨[(14,i6 v.1),(15,i6 v.2.1),(37,.bool v.2.2)],[]⟩
def q2ak (C:q29p) (v:q2ae):Dt q2ai:=(Dt.ite (decide (v.1<(0:Int))) (Dt.ret (v.1,v.2,true)) (Dt.ret (v.1,v.2,(decide (v.2<(0:Int))))))
theorem q2al C v:q3qp (regO (qdk f29) 6) false (an [14,15,37]) q2af q2ak q2aj C v:=rgI (by kernel_rfl)
def q2am (C:q29p) (v:q2ai):Dt q2a6:=(Dt.ret (false,(6:Int)))
theorem q2an C v:q3qp (regO (qdk f29) 7) false (an [10,11]) q2aj q2am q2a7 C v:=rgI (by kernel_rfl)
def q2ao (C:q29p) (v:q2ai):Dt q2a6:=(Dt.ret ((v.1 == v.2.1),(0:Int)))
theorem q2ap C v:q3qp (regO (qdk f29) 8) false (an [10,11]) q2aj q2ao q2a7 C v:=rgI (by kernel_rfl)
def q2aq (d:Nat) (x:q29l):Option q29m :=
 (q29w (q29q d) (x.1.1,x.2.1.1,x.2.1.2.1,x.2.2.1.1,x.2.2.1.2.1,x.2.2.2.1.1,x.2.2.2.2.1.1)).eval fun y0 =>
 (q2a0 (q29q d) y0).eval fun y1 =>
 (q2a4 (q29q d) y1).eval fun y2 =>
 bif y2.2.2.1 then ((q2a8 (q29q d) y2).eval fun y3 =>
 some y3) else ((q2ac (q29q d) y2).eval fun y4 =>
 (q2ag (q29q d) y4).eval fun y5 =>
 (q2ak (q29q d) y5).eval fun y6 =>
 bif y6.2.2 then ((q2am (q29q d) y6).eval fun y7 =>
 some y7) else ((q2ao (q29q d) y6).eval fun y8 =>
 some y8))
theorem q2ar (d:Nat):COK prog (q29o (q2aq d)):=by
 have hm:prog.follows .mixedOrders=true:=mixed
 have hT:=tys
 have hC0:OrcOK prog (orc (q29r (q29q d))):=qde (by
  intro S hS
  simp only [q29r,List.mem_cons,List.not_mem_nil,or_false] at hS
  rcases hS with rfl | rfl | rfl
  · exact q244 d
  · exact q27y d
  · exact q29j d)
 have hC:OrcOK prog (orc (q29r (q29q d))):=hC0
 refine q93 (c:=qdk f29) (fn:=f29) hT (by kernel_rfl) (by kernel_rfl) (by decide) fun x r h w0 φ0 Q hend=>?_
 replace h:q2aq d x=some r:=h
 unfold q2aq at h
 show Run prog w0 φ0 41 (qdk f29) ⟨[(0,.agg [.fz Riii x.1.1]),(1,.agg [.int .i64 x.2.1.1,.int .i64 x.2.1.2.1]),(2,.agg [.int .i64 x.2.2.1.1,.int .i64 x.2.2.1.2.1]),(3,.int .i64 x.2.2.2.1.1),(4,.int .i64 x.2.2.2.2.1.1)],[]⟩ Q
 refine q3pf hm hT hC (q29x (q29q d) (x.1.1,x.2.1.1,x.2.1.2.1,x.2.2.1.1,x.2.2.1.2.1,x.2.2.2.1.1,x.2.2.2.2.1.1)) h fun y0 h=>?_
 refine q3pf hm hT hC (q2a1 (q29q d) y0) h fun y1 h=>?_
 refine q8m ?_
 refine q3pf hm hT hC (q2a5 (q29q d) y1) h fun y2 h=>?_
 refine q8q (v:=y2.2.2.1) (by kernel_rfl) h ?_ ?_
 ·
  intro h
  refine q3pf hm hT hC (q2a9 (q29q d) y2) h fun y3 h=>?_
  refine q8l (q8a ?_)
  cases h
  exact (hend _ (by kernel_rfl)).2
 ·
  intro h
  refine q8i (q88 ?_)
  refine q3pf hm hT hC (q2ad (q29q d) y2) h fun y4 h=>?_
  refine q3pf hm hT hC (q2ah (q29q d) y4) h fun y5 h=>?_
  refine q8m ?_
  refine q3pf hm hT hC (q2al (q29q d) y5) h fun y6 h=>?_
  refine q8q (v:=y6.2.2) (by kernel_rfl) h ?_ ?_
  ·
   intro h
   refine q3pf hm hT hC (q2an (q29q d) y6) h fun y7 h=>?_
   refine q8l (q8a ?_)
   cases h
   exact (hend _ (by kernel_rfl)).2
  ·
   intro h
   refine q8i (q88 ?_)
   refine q3pf hm hT hC (q2ap (q29q d) y6) h fun y8 h=>?_
   refine q8l ?_
   cases h
   exact (hend _ (by kernel_rfl)).2
abbrev q2as:List Pk:=[.row qjw true,.row Rii true,.row Rii true]
abbrev q2at:Type:=qjx×Dii×Dii×Unit
abbrev q2au:Type:=List Di×Int
def q2av (r:q2au):LV×List Ob:=(.tup [.fz Ri r.1,.int .i64 r.2],[])
def q2aw (F:q2at→Option q2au):Go.Tx.Spec:=⟨17,q2as,q2au,F,q2av⟩
abbrev q2ax:Type:=(q21d→Option q21e)×Unit
def q2ay (d:Nat):q2ax:=(q243 d,())
def q2az (C:q2ax):List Go.Tx.Spec:=[q21g C.1]
abbrev q2b0:Type:=List Diii×Int×Int×Int×Int
def q2b1 (v:q2b0):St:=⟨[(0,.agg [.fz Riii v.1]),(1,.agg [i6 v.2.1,i6 v.2.2.1]),(2,.agg [i6 v.2.2.2.1,i6 v.2.2.2.2])],[]⟩
abbrev q2b2:Type:=List Diii×Int×Int×Int×Int
def q2b3 (v:q2b2):St:=⟨[(3,.ptr 0 0),(4,.ptr 1 0),(5,.ptr 2 0)],[.cells [.fz Riii v.1],.cells [i6 v.2.1,i6 v.2.2.1],.cells [i6 v.2.2.2.1,i6 v.2.2.2.2]]⟩
def q2b4 (C:q2ax) (v:q2b0):Dt q2b2:=(Dt.ret (v.1,v.2.1,v.2.2.1,v.2.2.2.1,v.2.2.2.2))
abbrev q3qq {V Y:Type}:=@rg q2ax V Y tysT (fun C=>(orc (q2az C))) 43
theorem q2b5 C v:q3qq (regO (qdk f17) 0) false [(3,(.box [.val Riii])),(4,.any),(5,.any)] q2b1 q2b4 q2b3 C v:=rgI (by kernel_rfl)
abbrev q2b6:Type:=List DLiE×Int
def q2b7 (v:q2b6):St:=⟨[(8,.fz RLiE v.1),(9,i6 v.2)],[]⟩
def q2b8 (C:q2ax) (v:q2b2):Dt q2b6:=(Dt.bnd (C.1 ((v.1,()),(v.2.1,v.2.2.1,()),(v.2.2.2.1,v.2.2.2.2,()),())) fun r1=>(Dt.ret (r1.1,r1.2)))
theorem q2b9 C v:q3qq (regO (qdk f17) 1) false [(8,(.val RLiE)),(9,.any)] q2b3 q2b8 q2b7 C v:=rgI (by kernel_rfl)
abbrev q2ba:Type:=List DLiE×Int×Bool
def q2bb (v:q2ba):St:=⟨[(8,.fz RLiE v.1),(9,i6 v.2.1),(21,.bool v.2.2)],[]⟩
def q2bc (C:q2ax) (v:q2b6):Dt q2ba:=(Dt.ret (v.1,v.2,(v.2 != (0:Int))))
theorem q2bd C v:q3qq (regO (qdk f17) 2) false [(8,(.val RLiE)),(9,.any),(21,.any)] q2b7 q2bc q2bb C v:=rgI (by kernel_rfl)
abbrev q2be:Type:=List Di×Int
def q2bf (v:q2be):St:=⟨[(6,.fz Ri v.1),(7,i6 v.2)],[]⟩
def q2bg (C:q2ax) (v:q2ba):Dt q2be:=(Dt.ret (([]:List Di),v.2.1))
theorem q2bh C v:q3qq (regO (qdk f17) 3) false [(6,(.val Ri)),(7,.any)] q2bb q2bg q2bf C v:=rgI (by kernel_rfl)
abbrev q2bi:Type:=List DLiE×Bool
def q2bj (v:q2bi):St:=⟨[(8,.fz RLiE v.1),(25,.bool v.2)],[]⟩
def q2bk (C:q2ax) (v:q2ba):Dt q2bi:=(Dt.ret (v.1,((List.length v.1:Int) == (0:Int))))
theorem q2bl C v:q3qq (regO (qdk f17) 4) false [(8,(.val RLiE)),(25,.any)] q2bb q2bk q2bj C v:=rgI (by kernel_rfl)
def q2bm (C:q2ax) (v:q2bi):Dt q2be:=(Dt.ret (([]:List Di),(42:Int)))
theorem q2bn C v:q3qq (regO (qdk f17) 5) false [(6,(.val Ri)),(7,.any)] q2bj q2bm q2bf C v:=rgI (by kernel_rfl)
abbrev q2bo:Type:=List DLiE×List Di
def q2bp (v:q2bo):St:=⟨[(8,.fz RLiE v.1),(10,.fz Ri v.2)],[]⟩
def q2bq (C:q2ax) (v:q2bi):Dt q2bo:=(Dt.ite (inB (0:Int) (List.length v.1)) (Dt.ret (v.1,(elt zLiE v.1 ((0:Int)).toNat).1)) Dt.fail)
theorem q2br C v:q3qq (regO (qdk f17) 6) false [(8,(.val RLiE)),(10,(.val Ri))] q2bj q2bq q2bp C v:=rgI (by kernel_rfl)
abbrev q2bs:Type:=List Di×List DLiE×Int×Int
def q2bt (v:q2bs):St:=⟨[(10,.fz Ri v.1),(29,.fz RLiE v.2.1),(30,i6 v.2.2.1),(31,i6 v.2.2.2)],[]⟩
def q2bu (C:q2ax) (v:q2bo):Dt q2bs:=(Dt.ret (v.2,v.1,(List.length v.1:Int),(0:Int)))
theorem q2bv C v:q3qq (regO (qdk f17) 7) false [(10,(.val Ri)),(29,(.val RLiE)),(30,.any),(31,.any)] q2bp q2bu q2bt C v:=rgI (by kernel_rfl)
abbrev q2bw:Type:=List Di×List DLiE×Int×Int×Bool
def q2bx (v:q2bw):St:=⟨[(10,.fz Ri v.1),(29,.fz RLiE v.2.1),(30,i6 v.2.2.1),(31,i6 v.2.2.2.1),(32,.bool v.2.2.2.2)],[]⟩
def q2by (C:q2ax) (v:q2bs):Dt q2bw:=(Dt.ret (v.1,v.2.1,v.2.2.1,v.2.2.2,(decide (v.2.2.2<v.2.2.1))))
theorem q2bz C v:q3qq (regO (qdk f17) 8) false [(10,(.val Ri)),(29,(.val RLiE)),(30,.any),(31,.any),(32,.any)] q2bt q2by q2bx C v:=rgI (by kernel_rfl)
abbrev q2c0:Type:=List Di×List Di×List DLiE×Int×Int
def q2c1 (v:q2c0):St:=⟨[(10,.fz Ri v.1),(12,.fz Ri v.2.1),(29,.fz RLiE v.2.2.1),(30,i6 v.2.2.2.1),(31,i6 v.2.2.2.2)],[]⟩
def q2c2 (C:q2ax) (v:q2bw):Dt q2c0:=(Dt.ite (inB v.2.2.2.1 (List.length v.2.1)) (Dt.ret (v.1,(elt zLiE v.2.1 (v.2.2.2.1).toNat).1,v.2.1,v.2.2.1,v.2.2.2.1)) Dt.fail)
theorem q2c3 C v:q3qq (regO (qdk f17) 9) false [(10,(.val Ri)),(12,(.val Ri)),(29,(.val RLiE)),(30,.any),(31,.any)] q2bx q2c2 q2c1 C v:=rgI (by kernel_rfl)
abbrev q2c4:Type:=List Di×List Di×List DLiE×Int×Int×Bool
def q2c5 (v:q2c4):St:=⟨[(10,.fz Ri v.1),(12,.fz Ri v.2.1),(29,.fz RLiE v.2.2.1),(30,i6 v.2.2.2.1),(31,i6 v.2.2.2.2.1),(39,.bool v.2.2.2.2.2)],[]⟩
def q2c6 (C:q2ax) (v:q2c0):Dt q2c4:=(Dt.ret (v.1,v.2.1,v.2.2.1,v.2.2.2.1,v.2.2.2.2,(decide ((List.length v.2.1:Int) > (List.length v.1:Int)))))
theorem q2c7 C v:q3qq (regO (qdk f17) 10) false [(10,(.val Ri)),(12,(.val Ri)),(29,(.val RLiE)),(30,.any),(31,.any),(39,.any)] q2c1 q2c6 q2c5 C v:=rgI (by kernel_rfl)
def q2c8 (C:q2ax) (v:q2c4):Dt q2bs:=(Dt.ret (v.2.1,v.2.2.1,v.2.2.2.1,v.2.2.2.2.1))
theorem q2c9 C v:q3qq (regO (qdk f17) 11) false [(10,(.val Ri)),(29,(.val RLiE)),(30,.any),(31,.any)] q2c5 q2c8 q2bt C v:=rgI (by kernel_rfl)
def q2ca (C:q2ax) (v:q2bs):Dt q2bs:=(Dt.ret (v.1,v.2.1,v.2.2.1,(IntKind.wrap .i64 (v.2.2.2+(1:Int)))))
theorem q2cb C v:q3qq (regO (qdk f17) 12) false [(10,(.val Ri)),(29,(.val RLiE)),(30,.any),(31,.any)] q2bt q2ca q2bt C v:=rgI (by kernel_rfl)
def q2cc  (d:Nat) (self1:(List Di×List DLiE×Int×Int)→Option q2au) (z:List Di×List DLiE×Int×Int):Option (q2au) :=
 (q2ca (q2ay d) z).eval fun y12 =>
 self1 y12
def q2cd (C:q2ax) (v:q2bw):Dt q2be:=(Dt.ret (v.1,(0:Int)))
theorem q2ce C v:q3qq (regO (qdk f17) 13) false [(6,(.val Ri)),(7,.any)] q2bx q2cd q2bf C v:=rgI (by kernel_rfl)
def q2cf (d:Nat) (self1:(List Di×List DLiE×Int×Int)→Option q2au) (x1:List Di×List DLiE×Int×Int):Option q2au :=
 (q2by (q2ay d) x1).eval fun y8 =>
 bif y8.2.2.2.2 then ((q2c2 (q2ay d) y8).eval fun y9 =>
 (q2c6 (q2ay d) y9).eval fun y10 =>
 bif y10.2.2.2.2.2 then ((q2c8 (q2ay d) y10).eval fun y11 =>
 q2cc d self1 y11) else (q2cc d self1 (y10.1,y10.2.2.1,y10.2.2.2.1,y10.2.2.2.2.1))) else ((q2cd (q2ay d) y8).eval fun y13 =>
 some y13)
def q2cg (d:Nat) (x:q2at):Option q2au :=
 (q2b4 (q2ay d) (x.1.1,x.2.1.1,x.2.1.2.1,x.2.2.1.1,x.2.2.1.2.1)).eval fun y0 =>
 (q2b8 (q2ay d) y0).eval fun y1 =>
 (q2bc (q2ay d) y1).eval fun y2 =>
 bif y2.2.2 then ((q2bg (q2ay d) y2).eval fun y3 =>
 some y3) else ((q2bk (q2ay d) y2).eval fun y4 =>
 bif y4.2 then ((q2bm (q2ay d) y4).eval fun y5 =>
 some y5) else ((q2bq (q2ay d) y4).eval fun y6 =>
 (q2bu (q2ay d) y6).eval fun y7 =>
 iter (q2cf d ) d y7))
theorem q2ch (d:Nat):COK prog (q2aw (q2cg d)):=by
 have hm:prog.follows .mixedOrders=true:=mixed
 have hT:=tys
 have hC0:OrcOK prog (orc (q2az (q2ay d))):=qde (by
  intro S hS
  simp only [q2az,List.mem_cons,List.not_mem_nil,or_false] at hS
  subst hS;exact q244 d)
 have hC:OrcOK prog (orc (q2az (q2ay d))):=hC0
 refine q93 (c:=qdk f17) (fn:=f17) hT (by kernel_rfl) (by kernel_rfl) (by decide) fun x r h w0 φ0 Q hend=>?_
 replace h:q2cg d x=some r:=h
 unfold q2cg at h
 show Run prog w0 φ0 43 (qdk f17) ⟨[(0,.agg [.fz Riii x.1.1]),(1,.agg [.int .i64 x.2.1.1,.int .i64 x.2.1.2.1]),(2,.agg [.int .i64 x.2.2.1.1,.int .i64 x.2.2.1.2.1])],[]⟩ Q
 refine q3pf hm hT hC (q2b5 (q2ay d) (x.1.1,x.2.1.1,x.2.1.2.1,x.2.2.1.1,x.2.2.1.2.1)) h fun y0 h=>?_
 refine q3pf hm hT hC (q2b9 (q2ay d) y0) h fun y1 h=>?_
 refine q8m ?_
 refine q3pf hm hT hC (q2bd (q2ay d) y1) h fun y2 h=>?_
 refine q8q (v:=y2.2.2) (by kernel_rfl) h ?_ ?_
 ·
  intro h
  refine q3pf hm hT hC (q2bh (q2ay d) y2) h fun y3 h=>?_
  refine q8l (q8a ?_)
  cases h
  exact (hend _ (by kernel_rfl)).2
 ·
  intro h
  refine q8i (q88 (q8m ?_))
  refine q3pf hm hT hC (q2bl (q2ay d) y2) h fun y4 h=>?_
  refine q8q (v:=y4.2) (by kernel_rfl) h ?_ ?_
  ·
   intro h
   refine q3pf hm hT hC (q2bn (q2ay d) y4) h fun y5 h=>?_
   refine q8l (q8a ?_)
   cases h
   exact (hend _ (by kernel_rfl)).2
  ·
   intro h
   refine q8i (q88 ?_)
   refine q3pf hm hT hC (q2br (q2ay d) y4) h fun y6 h=>?_
   refine q8m ?_
   refine q3pf hm hT hC (q2bv (q2ay d) y6) h fun y7 h=>?_
   refine q8n ?_
   refine q8s (G:=iter (q2cf d )) (S:=(fun x1=>⟨[(10,.fz Ri x1.1),(29,.fz RLiE x1.2.1),(30,i6 x1.2.2.1),(31,i6 x1.2.2.2)],[]⟩:List Di×List DLiE×Int×Int→St)) (fun _=>rfl) ?_ d _ h
   intro n1 x1 h K1 hn1
   replace h:q2cf d  (iter (q2cf d ) n1) x1=some r:=h
   generalize iter (q2cf d ) n1=self1 at h hn1
   unfold q2cf at h
   refine q3pf hm hT hC (q2bz (q2ay d) x1) h fun y8 h=>?_
   refine q8m ?_
   refine q8q (v:=y8.2.2.2.2) (by kernel_rfl) h ?_ ?_
   ·
    intro h
    refine q8i (q88 ?_)
    refine q8p (r:=r) (F:=q2cc d self1) (S:=(fun z=>⟨[(10,.fz Ri z.1),(29,.fz RLiE z.2.1),(30,i6 z.2.2.1),(31,i6 z.2.2.2)],[]⟩:List Di×List DLiE×Int×Int→St)) ?_ ?_
    ·
     intro z h
     unfold q2cc at h
     refine q8r hm hT hC (q2cb (q2ay d) z) h ?_
     intro y12 h
     exact hn1 _ h
    intro hj2
    refine q8n ?_
    refine q3pf hm hT hC (q2c3 (q2ay d) y8) h fun y9 h=>?_
    refine q3pf hm hT hC (q2c7 (q2ay d) y9) h fun y10 h=>?_
    refine q8q (v:=y10.2.2.2.2.2) (by kernel_rfl) h ?_ ?_
    ·
     intro h
     refine q8r hm hT hC (q2c9 (q2ay d) y10) h ?_
     intro y11 h
     refine q8b ?_
     exact hj2 _ h
    ·
     intro h
     refine q8i (q8b ?_)
     refine qdj (s:=⟨[(10,.fz Ri y10.1),(29,.fz RLiE y10.2.2.1),(30,.int .i64 y10.2.2.2.1),(31,.int .i64 y10.2.2.2.2.1)],[]⟩) [12,39] (by kernel_rfl) ?_
     exact hj2 _ h
   ·
    intro h
    refine q8k (q89 (q89 (q8d (q88 ?_))))
    refine q3pf hm hT hC (q2ce (q2ay d) y8) h fun y13 h=>?_
    refine q8l ?_
    cases h
    exact (hend _ (by kernel_rfl)).2
abbrev q2ci:List Pk:=[.row Rii true,.row Rii true]
abbrev q2cj:Type:=Dii×Dii×Unit
abbrev q2ck:Type:=Int
def q2cl (r:q2ck):LV×List Ob:=(.int .i64 r,[])
def q2cm (F:q2cj→Option q2ck):Go.Tx.Spec:=⟨43,q2ci,q2ck,F,q2cl⟩
abbrev q2cn:Type:=(q12v→Option q12w)×Unit
def q2co (d:Nat):q2cn:=(q145 d,())
def q2cp (C:q2cn):List Go.Tx.Spec:=[q12y C.1]
abbrev q2cq:Type:=Int×Int×Int×Int
def q2cr (v:q2cq):St:=⟨[(0,.agg [i6 v.1,i6 v.2.1]),(1,.agg [i6 v.2.2.1,i6 v.2.2.2])],[]⟩
abbrev q2cs:Type:=Int×Int×Int×Int
def q2ct (v:q2cs):St:=⟨[(2,.ptr 0 0),(3,.ptr 1 0)],[.cells [i6 v.1,i6 v.2.1],.cells [i6 v.2.2.1,i6 v.2.2.2]]⟩
def q2cu (C:q2cn) (v:q2cq):Dt q2cs:=(Dt.ret (v.1,v.2.1,v.2.2.1,v.2.2.2))
abbrev q3qr {V Y:Type}:=@rg q2cn V Y tysT (fun C=>(orc (q2cp C))) 14
theorem q2cv C v:q3qr (regO (qdk f43) 0) false (an [2,3]) q2cr q2cu q2ct C v:=rgI (by kernel_rfl)
abbrev q2cw:Type:=Int
def q2cx (v:q2cw):St:=⟨[(5,i6 v)],[]⟩
def q2cy (C:q2cn) (v:q2cs):Dt q2cw:=(Dt.bnd (C.1 ((v.2.2.1,v.2.2.2,()),(v.1,v.2.1,()),())) fun r1=>(Dt.ret r1.1))
theorem q2cz C v:q3qr (regO (qdk f43) 1) false [(5,.any)] q2ct q2cy q2cx C v:=rgI (by kernel_rfl)
abbrev q2d0:Type:=Int
def q2d1 (v:q2d0):St:=⟨[(4,i6 v)],[]⟩
def q2d2 (C:q2cn) (v:q2cw):Dt q2d0:=(Dt.ret v)
theorem q2d3 C v:q3qr (regO (qdk f43) 2) false [(4,.any)] q2cx q2d2 q2d1 C v:=rgI (by kernel_rfl)
def q2d4 (d:Nat) (x:q2cj):Option q2ck :=
 (q2cu (q2co d) (x.1.1,x.1.2.1,x.2.1.1,x.2.1.2.1)).eval fun y0 =>
 (q2cy (q2co d) y0).eval fun y1 =>
 (q2d2 (q2co d) y1).eval fun y2 =>
 some y2
theorem q2d5 (d:Nat):COK prog (q2cm (q2d4 d)):=by
 have hm:prog.follows .mixedOrders=true:=mixed
 have hT:=tys
 have hC0:OrcOK prog (orc (q2cp (q2co d))):=qde (by
  intro S hS
  simp only [q2cp,List.mem_cons,List.not_mem_nil,or_false] at hS
  subst hS;exact q146 d)
 have hC:OrcOK prog (orc (q2cp (q2co d))):=hC0
 refine q93 (c:=qdk f43) (fn:=f43) hT (by kernel_rfl) (by kernel_rfl) (by decide) fun x r h w0 φ0 Q hend=>?_
 replace h:q2d4 d x=some r:=h
 unfold q2d4 at h
 show Run prog w0 φ0 14 (qdk f43) ⟨[(0,.agg [.int .i64 x.1.1,.int .i64 x.1.2.1]),(1,.agg [.int .i64 x.2.1.1,.int .i64 x.2.1.2.1])],[]⟩ Q
 refine q3pf hm hT hC (q2cv (q2co d) (x.1.1,x.1.2.1,x.2.1.1,x.2.1.2.1)) h fun y0 h=>?_
 refine q3pf hm hT hC (q2cz (q2co d) y0) h fun y1 h=>?_
 refine q3pf hm hT hC (q2d3 (q2co d) y1) h fun y2 h=>?_
 refine q8l ?_
 cases h
 exact (hend _ (by kernel_rfl)).2
abbrev q2d6:List Pk:=[.row qjw true,.row Rii true,.row Ri false]
abbrev q2d7:Type:=qjx×Dii×Di×Unit
abbrev q2d8:Type:=Int×Int×Int
def q2d9 (r:q2d8):LV×List Ob:=(.tup [.agg [.int .i64 r.1,.int .i64 r.2.1],.int .i64 r.2.2],[])
def q2da (F:q2d7→Option q2d8):Go.Tx.Spec:=⟨26,q2d6,q2d8,F,q2d9⟩
abbrev q2db:Type:=(q1xl→Option q1xm)×(q2cj→Option q2ck)×Unit
def q2dc (d:Nat):q2db:=(q1zy d,q2d4 d,())
def q2dd (C:q2db):List Go.Tx.Spec:=[q1xo C.1,q2cm C.2.1]
abbrev q2de:Type:=List Diii×Int×Int×Int
def q2df (v:q2de):St:=⟨[(0,.agg [.fz Riii v.1]),(1,.agg [i6 v.2.1,i6 v.2.2.1]),(2,i6 v.2.2.2)],[]⟩
abbrev q2dg:Type:=Int×List Diii×Int×Int×Int×Int
def q2dh (v:q2dg):St:=⟨[(2,i6 v.1),(3,.ptr 0 0),(4,.ptr 1 0),(6,.ptr 2 0)],[.cells [.fz Riii v.2.1],.cells [i6 v.2.2.1,i6 v.2.2.2.1],.cells [i6 v.2.2.2.2.1,i6 v.2.2.2.2.2]]⟩
def q2di (C:q2db) (v:q2de):Dt q2dg:=(Dt.ret (v.2.2.2,v.1,v.2.1,v.2.2.1,(0:Int),(0:Int)))
abbrev q3qs {V Y:Type}:=@rg q2db V Y tysT (fun C=>(orcS 42 43 Rii C.2.1 (orc (q2dd C)))) 37
theorem q2dj C v:q3qs (regO (qdk f26) 0) false [(2,.any),(3,(.box [.val Riii])),(4,.any),(6,.any)] q2df q2di q2dh C v:=rgI (by kernel_rfl)
abbrev q2dk:Type:=Int×Int×Int×Int×List Dii
def q2dl (v:q2dk):St:=⟨[(2,i6 v.1),(6,.ptr 0 0),(9,.rs 1),(10,i6 v.2.1)],[.cells [i6 v.2.2.1,i6 v.2.2.2.1],.rows Rii v.2.2.2.2]⟩
def q2dm (C:q2db) (v:q2dg):Dt q2dk:=(Dt.bnd (C.1 ((v.2.1,()),(v.2.2.1,v.2.2.2.1,()),())) fun r1=>(Dt.ret (v.1,r1.2.2,v.2.2.2.2.1,v.2.2.2.2.2,r1.2.1)))
theorem q2dn C v:q3qs (regO (qdk f26) 1) false [(2,.any),(6,.any),(9,(.own Rii)),(10,.any)] q2dh q2dm q2dl C v:=rgI (by kernel_rfl)
abbrev q2do:Type:=Int×Int×Bool×Int×Int×List Dii
def q2dp (v:q2do):St:=⟨[(2,i6 v.1),(6,.ptr 0 0),(9,.rs 1),(10,i6 v.2.1),(19,.bool v.2.2.1)],[.cells [i6 v.2.2.2.1,i6 v.2.2.2.2.1],.rows Rii v.2.2.2.2.2]⟩
def q2dq (C:q2db) (v:q2dk):Dt q2do:=(Dt.ret (v.1,v.2.1,(v.2.1 != (0:Int)),v.2.2.1,v.2.2.2.1,v.2.2.2.2))
theorem q2dr C v:q3qs (regO (qdk f26) 2) false [(2,.any),(6,.any),(9,(.own Rii)),(10,.any),(19,.any)] q2dl q2dq q2dp C v:=rgI (by kernel_rfl)
abbrev q2ds:Type:=Int×Int×Int
def q2dt (v:q2ds):St:=⟨[(6,.ptr 0 0),(7,i6 v.1)],[.cells [i6 v.2.1,i6 v.2.2]]⟩
def q2du (C:q2db) (v:q2do):Dt q2ds:=(Dt.ret (v.2.1,(0:Int),(0:Int)))
theorem q2dv C v:q3qs (regO (qdk f26) 3) false (an [6,7]) q2dp q2du q2dt C v:=rgI (by kernel_rfl)
abbrev q2dw:Type:=Int×Bool×Int×Int×List Dii
def q2dx (v:q2dw):St:=⟨[(2,i6 v.1),(6,.ptr 0 0),(9,.rs 1),(23,.bool v.2.1)],[.cells [i6 v.2.2.1,i6 v.2.2.2.1],.rows Rii v.2.2.2.2]⟩
def q2dy (C:q2db) (v:q2do):Dt q2dw:=(Dt.ret (v.1,(decide (v.1<(1:Int))),v.2.2.2.1,v.2.2.2.2.1,v.2.2.2.2.2))
theorem q2dz C v:q3qs (regO (qdk f26) 4) false [(2,.any),(6,.any),(9,(.own Rii)),(23,.any)] q2dp q2dy q2dx C v:=rgI (by kernel_rfl)
def q2e0 (C:q2db) (v:q2dw):Dt q2ds:=(Dt.ret ((2:Int),(0:Int),(0:Int)))
theorem q2e1 C v:q3qs (regO (qdk f26) 5) false (an [6,7]) q2dx q2e0 q2dt C v:=rgI (by kernel_rfl)
abbrev q2e2:Type:=Int×Int×Int×List Dii
def q2e3 (v:q2e2):St:=⟨[(2,i6 v.1),(6,.ptr 0 0),(9,.rs 1)],[.cells [i6 v.2.1,i6 v.2.2.1],.rows Rii v.2.2.2]⟩
def q2e4 (C:q2db) (v:q2dw):Dt q2e2:=(Dt.bnd (qtn (τ:=Rii) C.2.1 v.2.2.2.2) fun r1=>(Dt.ret (v.1,v.2.2.1,v.2.2.2.1,r1)))
theorem q2e5 C v:q3qs (regO (qdk f26) 6) false [(2,.any),(6,.any),(9,(.own Rii))] q2dx q2e4 q2e3 C v:=rgI (by kernel_rfl)
abbrev q2e6:Type:=Int×Bool×Int×Int×List Dii
def q2e7 (v:q2e6):St:=⟨[(2,i6 v.1),(6,.ptr 0 0),(9,.rs 1),(30,.bool v.2.1)],[.cells [i6 v.2.2.1,i6 v.2.2.2.1],.rows Rii v.2.2.2.2]⟩
def q2e8 (C:q2db) (v:q2e2):Dt q2e6:=(Dt.ret (v.1,(decide (v.1 > (List.length v.2.2.2:Int))),v.2.1,v.2.2.1,v.2.2.2))
theorem q2e9 C v:q3qs (regO (qdk f26) 7) false [(2,.any),(6,.any),(9,(.own Rii)),(30,.any)] q2e3 q2e8 q2e7 C v:=rgI (by kernel_rfl)
def q2ea (C:q2db) (v:q2e6):Dt q2ds:=(Dt.ret ((0:Int),(0:Int),(1:Int)))
theorem q2eb C v:q3qs (regO (qdk f26) 8) false (an [6,7]) q2e7 q2ea q2dt C v:=rgI (by kernel_rfl)
def q2ec (C:q2db) (v:q2e6):Dt q2ds:=(Dt.ite (inB (IntKind.wrap .i64 (v.1 - (1:Int))) (List.length v.2.2.2.2)) (Dt.ret ((0:Int),(elt zii v.2.2.2.2 ((IntKind.wrap .i64 (v.1 - (1:Int)))).toNat).1,(elt zii v.2.2.2.2 ((IntKind.wrap .i64 (v.1 - (1:Int)))).toNat).2.1)) Dt.fail)
theorem q2ed C v:q3qs (regO (qdk f26) 9) false (an [6,7]) q2e7 q2ec q2dt C v:=rgI (by kernel_rfl)
def q2ee (d:Nat) (x:q2d7):Option q2d8 :=
 (q2di (q2dc d) (x.1.1,x.2.1.1,x.2.1.2.1,x.2.2.1.1)).eval fun y0 =>
 (q2dm (q2dc d) y0).eval fun y1 =>
 (q2dq (q2dc d) y1).eval fun y2 =>
 bif y2.2.2.1 then ((q2du (q2dc d) y2).eval fun y3 =>
 some (y3.2.1,y3.2.2,y3.1)) else ((q2dy (q2dc d) y2).eval fun y4 =>
 bif y4.2.1 then ((q2e0 (q2dc d) y4).eval fun y5 =>
 some (y5.2.1,y5.2.2,y5.1)) else ((q2e4 (q2dc d) y4).eval fun y6 =>
 (q2e8 (q2dc d) y6).eval fun y7 =>
 bif y7.2.1 then ((q2ea (q2dc d) y7).eval fun y8 =>
 some (y8.2.1,y8.2.2,y8.1)) else ((q2ec (q2dc d) y7).eval fun y9 =>
 some (y9.2.1,y9.2.2,y9.1))))
theorem q2ef (d:Nat):COK prog (q2da (q2ee d)):=by
 have hm:prog.follows .mixedOrders=true:=mixed
 have hT:=tys
 have hC0:OrcOK prog (orc (q2dd (q2dc d))):=qde (by
  intro S hS
  simp only [q2dd,List.mem_cons,List.not_mem_nil,or_false] at hS
  rcases hS with rfl | rfl
  · exact q1zz d
  · exact q2d5 d)
 have hC:OrcOK prog (orcS 42 43 Rii (q2dc d).2.1 (orc (q2dd (q2dc d)))):=(qvz (q2d5 d) hC0)
 refine q93 (c:=qdk f26) (fn:=f26) hT (by kernel_rfl) (by kernel_rfl) (by decide) fun x r h w0 φ0 Q hend=>?_
 replace h:q2ee d x=some r:=h
 unfold q2ee at h
 show Run prog w0 φ0 37 (qdk f26) ⟨[(0,.agg [.fz Riii x.1.1]),(1,.agg [.int .i64 x.2.1.1,.int .i64 x.2.1.2.1]),(2,.int .i64 x.2.2.1.1)],[]⟩ Q
 refine q3pf hm hT hC (q2dj (q2dc d) (x.1.1,x.2.1.1,x.2.1.2.1,x.2.2.1.1)) h fun y0 h=>?_
 refine q3pf hm hT hC (q2dn (q2dc d) y0) h fun y1 h=>?_
 refine q8m ?_
 refine q3pf hm hT hC (q2dr (q2dc d) y1) h fun y2 h=>?_
 refine q8q (v:=y2.2.2.1) (by kernel_rfl) h ?_ ?_
 ·
  intro h
  refine q3pf hm hT hC (q2dv (q2dc d) y2) h fun y3 h=>?_
  refine q8l (q8a ?_)
  cases h
  exact (hend _ (by kernel_rfl)).2
 ·
  intro h
  refine q8i (q88 (q8m ?_))
  refine q3pf hm hT hC (q2dz (q2dc d) y2) h fun y4 h=>?_
  refine q8q (v:=y4.2.1) (by kernel_rfl) h ?_ ?_
  ·
   intro h
   refine q3pf hm hT hC (q2e1 (q2dc d) y4) h fun y5 h=>?_
   refine q8l (q8a ?_)
   cases h
   exact (hend _ (by kernel_rfl)).2
  ·
   intro h
   refine q8i (q88 ?_)
   refine q3pf hm hT hC (q2e5 (q2dc d) y4) h fun y6 h=>?_
   refine q8m ?_
   refine q3pf hm hT hC (q2e9 (q2dc d) y6) h fun y7 h=>?_
   refine q8q (v:=y7.2.1) (by kernel_rfl) h ?_ ?_
   ·
    intro h
    refine q3pf hm hT hC (q2eb (q2dc d) y7) h fun y8 h=>?_
    refine q8l (q8a ?_)
    cases h
    exact (hend _ (by kernel_rfl)).2
   ·
    intro h
    refine q8i (q88 ?_)
    refine q3pf hm hT hC (q2ed (q2dc d) y7) h fun y9 h=>?_
    refine q8l ?_
    cases h
    exact (hend _ (by kernel_rfl)).2
end Go.Proofs.YtbjpmdhdoggobaaGreat
