/- Walks of the references; the orders agree; examples. -/
import Derived.Test.YtbjpmdhdoggobaaGreatGg
set_option linter.unusedSimpArgs false
set_option linter.unusedVariables false
namespace Go.Proofs.YtbjpmdhdoggobaaGreat
open Go Go.Tx Go.Proofs.Tryz
set_option maxRecDepth 100000
set_option maxHeartbeats 0
abbrev q2w1:List Pk:=[.row qjw true]
abbrev q2w2:Type:=qjx×Unit
abbrev q2w3:Type:=Bool
def q2w4 (r:q2w3):LV×List Ob:=(.bool r,[])
def q2w5 (F:q2w2→Option q2w3):Go.Tx.Spec:=⟨9,q2w1,q2w3,F,q2w4⟩
abbrev q2w6:Type:=Unit
def q2w7 (_d:Nat):q2w6:=()
def q2w8 (C:q2w6):List Go.Tx.Spec:=[]
abbrev q2w9:Type:=List Diii
def q2wa (v:q2w9):St:=⟨[(0,.agg [.fz Riii v])],[]⟩
abbrev q2wb:Type:=List Diii
def q2wc (v:q2wb):St:=⟨[(1,.ptr 0 0)],[.cells [.fz Riii v]]⟩
def q2wd (C:q2w6) (v:q2w9):Dt q2wb:=(Dt.ret v)
abbrev q3r6 {V Y:Type}:=@rg q2w6 V Y tysT (fun C=>(orc (q2w8 C))) 19
theorem q2we C v:q3r6 (regO (qdk f9) 0) false [(1,(.box [.val Riii]))] q2wa q2wd q2wc C v:=rgI (by kernel_rfl)
abbrev q2wf:Type:=Bool
def q2wg (v:q2wf):St:=⟨[(2,.bool v)],[]⟩
def q2wh (C:q2w6) (v:q2wb):Dt q2wf:=(Dt.ite (decide ((List.length v:Int) > (16:Int))) (Dt.ite (decide ((List.length v:Int)≤(64:Int))) (Dt.ret true) (Dt.ret (decide ((List.length v:Int) > (70:Int))))) (Dt.ret (decide ((List.length v:Int) > (70:Int)))))
theorem q2wi C v:q3r6 (regO (qdk f9) 1) false [(2,.any)] q2wc q2wh q2wg C v:=rgI (by kernel_rfl)
def q2wj (d:Nat) (x:q2w2):Option q2w3 :=
 (q2wd (q2w7 d) x.1.1).eval fun y0 =>
 (q2wh (q2w7 d) y0).eval fun y1 =>
 some y1
theorem q2wk (d:Nat):COK prog (q2w5 (q2wj d)):=by
 have hm:prog.follows .mixedOrders=true:=mixed
 have hT:=tys
 have hC0:OrcOK prog (orc (q2w8 (q2w7 d))):=qde (by
  intro S hS
  simp only [q2w8,List.mem_cons,List.not_mem_nil,or_false] at hS
  all_goals first | cases hS | exact hS.elim)
 have hC:OrcOK prog (orc (q2w8 (q2w7 d))):=hC0
 refine q93 (c:=qdk f9) (fn:=f9) hT (by kernel_rfl) (by kernel_rfl) (by decide) fun x r h w0 φ0 Q hend=>?_
 replace h:q2wj d x=some r:=h
 unfold q2wj at h
 show Run prog w0 φ0 19 (qdk f9) ⟨[(0,.agg [.fz Riii x.1.1])],[]⟩ Q
 refine q3pf hm hT hC (q2we (q2w7 d) x.1.1) h fun y0 h=>?_
 refine q3pf hm hT hC (q2wi (q2w7 d) y0) h fun y1 h=>?_
 refine q8l ?_
 cases h
 exact (hend _ (by kernel_rfl)).2
abbrev q2wl:List Pk:=[.row qjw true,.row Rii true,.row Rii true]
abbrev q2wm:Type:=qjx×Dii×Dii×Unit
abbrev q2wn:Type:=Bool
def q2wo (r:q2wn):LV×List Ob:=(.bool r,[])
def q2wp (F:q2wm→Option q2wn):Go.Tx.Spec:=⟨3,q2wl,q2wn,F,q2wo⟩
abbrev q2wq:Type:=(q2w2→Option q2w3)×(qpq→Option qpr)×(q201→Option q202)×(q2jb→Option q2jc)×(q21d→Option q21e)×(q2k9→Option q2ka)×(q246→Option q247)×(q2n0→Option q2n1)×(q2at→Option q2au)×(q2py→Option q2pz)×(q2ux→Option q2uy)×(q2ts→Option q2tt)×(qur→Option qus)×(qpz→Option qq0)×Unit
def q2wr (d:Nat):q2wq:=(q2wj d,qpv d,q20m d,q2k6 d,q243 d,q2mx d,q24r d,q2nl d,q2cg d,q2rh d,q2vz d,q2uu d,quw d,qq4 d,())
def q2ws (C:q2wq):List Go.Tx.Spec:=[q2w5 C.1,qpt C.2.1,q204 C.2.2.1,q2je C.2.2.2.1,q21g C.2.2.2.2.1,q2kc C.2.2.2.2.2.1,q249 C.2.2.2.2.2.2.1,q2n3 C.2.2.2.2.2.2.2.1,q2aw C.2.2.2.2.2.2.2.2.1,q2q1 C.2.2.2.2.2.2.2.2.2.1,q2v0 C.2.2.2.2.2.2.2.2.2.2.1,q2tv C.2.2.2.2.2.2.2.2.2.2.2.1,quu C.2.2.2.2.2.2.2.2.2.2.2.2.1,qq2 C.2.2.2.2.2.2.2.2.2.2.2.2.2.1]
abbrev q2wt:Type:=List Diii×Int×Int×Int×Int
def q2wu (v:q2wt):St:=⟨[(0,.agg [.fz Riii v.1]),(1,.agg [i6 v.2.1,i6 v.2.2.1]),(2,.agg [i6 v.2.2.2.1,i6 v.2.2.2.2])],[]⟩
abbrev q2wv:Type:=List Diii×Int×Int×Int×Int
def q2ww (v:q2wv):St:=⟨[(3,.ptr 0 0),(4,.ptr 1 0),(5,.ptr 2 0)],[.cells [.fz Riii v.1],.cells [i6 v.2.1,i6 v.2.2.1],.cells [i6 v.2.2.2.1,i6 v.2.2.2.2]]⟩
def q2wx (C:q2wq) (v:q2wt):Dt q2wv:=(Dt.ret (v.1,v.2.1,v.2.2.1,v.2.2.2.1,v.2.2.2.2))
abbrev q3r7 {V Y:Type}:=@rg q2wq V Y tysT (fun C=>(orc (q2ws C))) 125
theorem q2wy C v:q3r7 (regO (qdk f3) 0) false [(3,(.box [.val Riii])),(4,.any),(5,.any)] q2wu q2wx q2ww C v:=rgI (by kernel_rfl)
abbrev q2wz:Type:=Bool×List Diii×Int×Int×Int×Int
def q2x0 (v:q2wz):St:=⟨[(3,.ptr 0 0),(4,.ptr 1 0),(5,.ptr 2 0),(25,.bool v.1)],[.cells [.fz Riii v.2.1],.cells [i6 v.2.2.1,i6 v.2.2.2.1],.cells [i6 v.2.2.2.2.1,i6 v.2.2.2.2.2]]⟩
def q2x1 (C:q2wq) (v:q2wv):Dt q2wz:=(Dt.bnd (C.1 ((v.1,()),())) fun r1=>(Dt.ret (r1,v.1,v.2.1,v.2.2.1,v.2.2.2.1,v.2.2.2.2)))
theorem q2x2 C v:q3r7 (regO (qdk f3) 1) false [(3,(.box [.val Riii])),(4,.any),(5,.any),(25,.any)] q2ww q2x1 q2x0 C v:=rgI (by kernel_rfl)
abbrev q2x3:Type:=Bool
def q2x4 (v:q2x3):St:=⟨[(6,.bool v)],[]⟩
def q2x5 (C:q2wq) (v:q2wz):Dt q2x3:=(Dt.ret true)
theorem q2x6 C v:q3r7 (regO (qdk f3) 2) false [(6,.any)] q2x0 q2x5 q2x4 C v:=rgI (by kernel_rfl)
abbrev q2x7:Type:=List Diii×Int×Int×Int×Int×List Diii
def q2x8 (v:q2x7):St:=⟨[(3,.ptr 0 0),(4,.ptr 1 0),(5,.ptr 2 0),(7,.ptr 3 0)],[.cells [.fz Riii v.1],.cells [i6 v.2.1,i6 v.2.2.1],.cells [i6 v.2.2.2.1,i6 v.2.2.2.2.1],.cells [.fz Riii v.2.2.2.2.2]]⟩
def q2x9 (C:q2wq) (v:q2wz):Dt q2x7:=(Dt.bnd (C.2.1 ((v.2.1,()),())) fun r1=>(Dt.ret (v.2.1,v.2.2.1,v.2.2.2.1,v.2.2.2.2.1,v.2.2.2.2.2,r1)))
theorem q2xa C v:q3r7 (regO (qdk f3) 3) false [(3,(.box [.val Riii])),(4,.any),(5,.any),(7,(.box [.val Riii]))] q2x0 q2x9 q2x8 C v:=rgI (by kernel_rfl)
abbrev q2xb:Type:=Int×List Diii×Int×Int×Int×Int×List Diii×List Dii
def q2xc (v:q2xb):St:=⟨[(3,.ptr 0 0),(4,.ptr 1 0),(5,.ptr 2 0),(7,.ptr 3 0),(8,.rs 4),(9,i6 v.1)],[.cells [.fz Riii v.2.1],.cells [i6 v.2.2.1,i6 v.2.2.2.1],.cells [i6 v.2.2.2.2.1,i6 v.2.2.2.2.2.1],.cells [.fz Riii v.2.2.2.2.2.2.1],.rows Rii v.2.2.2.2.2.2.2]⟩
def q2xd (C:q2wq) (v:q2x7):Dt q2xb:=(Dt.bnd (C.2.2.1 ((v.1,()),(v.2.1,v.2.2.1,()),())) fun r1=>(Dt.ret (r1.2,v.1,v.2.1,v.2.2.1,v.2.2.2.1,v.2.2.2.2.1,v.2.2.2.2.2,r1.1)))
theorem q2xe C v:q3r7 (regO (qdk f3) 4) false [(3,(.box [.val Riii])),(4,.any),(5,.any),(7,(.box [.val Riii])),(8,(.own Rii)),(9,.any)] q2x8 q2xd q2xc C v:=rgI (by kernel_rfl)
abbrev q2xf:Type:=Int×Int×List Diii×Int×Int×Int×Int×List Diii×List Dii×List Dii
def q2xg (v:q2xf):St:=⟨[(3,.ptr 0 0),(4,.ptr 1 0),(5,.ptr 2 0),(7,.ptr 3 0),(8,.rs 4),(9,i6 v.1),(10,.rs 5),(11,i6 v.2.1)],[.cells [.fz Riii v.2.2.1],.cells [i6 v.2.2.2.1,i6 v.2.2.2.2.1],.cells [i6 v.2.2.2.2.2.1,i6 v.2.2.2.2.2.2.1],.cells [.fz Riii v.2.2.2.2.2.2.2.1],.rows Rii v.2.2.2.2.2.2.2.2.1,.rows Rii v.2.2.2.2.2.2.2.2.2]⟩
def q2xh (C:q2wq) (v:q2xb):Dt q2xf:=(Dt.bnd (C.2.2.2.1 ((v.2.2.2.2.2.2.1,()),(v.2.2.1,v.2.2.2.1,()),())) fun r1=>(Dt.ret (v.1,r1.2,v.2.1,v.2.2.1,v.2.2.2.1,v.2.2.2.2.1,v.2.2.2.2.2.1,v.2.2.2.2.2.2.1,v.2.2.2.2.2.2.2,r1.1)))
theorem q2xi C v:q3r7 (regO (qdk f3) 5) false [(3,(.box [.val Riii])),(4,.any),(5,.any),(7,(.box [.val Riii])),(8,(.own Rii)),(9,.any),(10,(.own Rii)),(11,.any)] q2xc q2xh q2xg C v:=rgI (by kernel_rfl)
abbrev q2xj:Type:=Int×Int×List DLiE×Int×List Diii×Int×Int×Int×Int×List Diii×List Dii×List Dii
def q2xk (v:q2xj):St:=⟨[(3,.ptr 0 0),(4,.ptr 1 0),(5,.ptr 2 0),(7,.ptr 3 0),(8,.rs 4),(9,i6 v.1),(10,.rs 5),(11,i6 v.2.1),(12,.fz RLiE v.2.2.1),(13,i6 v.2.2.2.1)],[.cells [.fz Riii v.2.2.2.2.1],.cells [i6 v.2.2.2.2.2.1,i6 v.2.2.2.2.2.2.1],.cells [i6 v.2.2.2.2.2.2.2.1,i6 v.2.2.2.2.2.2.2.2.1],.cells [.fz Riii v.2.2.2.2.2.2.2.2.2.1],.rows Rii v.2.2.2.2.2.2.2.2.2.2.1,.rows Rii v.2.2.2.2.2.2.2.2.2.2.2]⟩
def q2xl (C:q2wq) (v:q2xf):Dt q2xj:=(Dt.bnd (C.2.2.2.2.1 ((v.2.2.1,()),(v.2.2.2.1,v.2.2.2.2.1,()),(v.2.2.2.2.2.1,v.2.2.2.2.2.2.1,()),())) fun r1=>(Dt.ret (v.1,v.2.1,r1.1,r1.2,v.2.2.1,v.2.2.2.1,v.2.2.2.2.1,v.2.2.2.2.2.1,v.2.2.2.2.2.2.1,v.2.2.2.2.2.2.2.1,v.2.2.2.2.2.2.2.2.1,v.2.2.2.2.2.2.2.2.2)))
theorem q2xm C v:q3r7 (regO (qdk f3) 6) false [(3,(.box [.val Riii])),(4,.any),(5,.any),(7,(.box [.val Riii])),(8,(.own Rii)),(9,.any),(10,(.own Rii)),(11,.any),(12,(.val RLiE)),(13,.any)] q2xg q2xl q2xk C v:=rgI (by kernel_rfl)
abbrev q2xn:Type:=Int×Int×List DLiE×Int×List DLiE×Int×List Diii×Int×Int×Int×Int×List Diii×List Dii×List Dii
def q2xo (v:q2xn):St:=⟨[(3,.ptr 0 0),(4,.ptr 1 0),(5,.ptr 2 0),(7,.ptr 3 0),(8,.rs 4),(9,i6 v.1),(10,.rs 5),(11,i6 v.2.1),(12,.fz RLiE v.2.2.1),(13,i6 v.2.2.2.1),(14,.fz RLiE v.2.2.2.2.1),(15,i6 v.2.2.2.2.2.1)],[.cells [.fz Riii v.2.2.2.2.2.2.1],.cells [i6 v.2.2.2.2.2.2.2.1,i6 v.2.2.2.2.2.2.2.2.1],.cells [i6 v.2.2.2.2.2.2.2.2.2.1,i6 v.2.2.2.2.2.2.2.2.2.2.1],.cells [.fz Riii v.2.2.2.2.2.2.2.2.2.2.2.1],.rows Rii v.2.2.2.2.2.2.2.2.2.2.2.2.1,.rows Rii v.2.2.2.2.2.2.2.2.2.2.2.2.2]⟩
def q2xp (C:q2wq) (v:q2xj):Dt q2xn:=(Dt.bnd (C.2.2.2.2.2.1 ((v.2.2.2.2.2.2.2.2.2.1,()),(v.2.2.2.2.2.1,v.2.2.2.2.2.2.1,()),(v.2.2.2.2.2.2.2.1,v.2.2.2.2.2.2.2.2.1,()),())) fun r1=>(Dt.ret (v.1,v.2.1,v.2.2.1,v.2.2.2.1,r1.1,r1.2,v.2.2.2.2.1,v.2.2.2.2.2.1,v.2.2.2.2.2.2.1,v.2.2.2.2.2.2.2.1,v.2.2.2.2.2.2.2.2.1,v.2.2.2.2.2.2.2.2.2.1,v.2.2.2.2.2.2.2.2.2.2.1,v.2.2.2.2.2.2.2.2.2.2.2)))
theorem q2xq C v:q3r7 (regO (qdk f3) 7) false [(3,(.box [.val Riii])),(4,.any),(5,.any),(7,(.box [.val Riii])),(8,(.own Rii)),(9,.any),(10,(.own Rii)),(11,.any),(12,(.val RLiE)),(13,.any),(14,(.val RLiE)),(15,.any)] q2xk q2xp q2xo C v:=rgI (by kernel_rfl)
abbrev q2xr:Type:=Int×Int×List DLiE×Int×List DLiE×Int×Int×Int×List Diii×Int×Int×Int×Int×List Diii×List Dii×List Dii
def q2xs (v:q2xr):St:=⟨[(3,.ptr 0 0),(4,.ptr 1 0),(5,.ptr 2 0),(7,.ptr 3 0),(8,.rs 4),(9,i6 v.1),(10,.rs 5),(11,i6 v.2.1),(12,.fz RLiE v.2.2.1),(13,i6 v.2.2.2.1),(14,.fz RLiE v.2.2.2.2.1),(15,i6 v.2.2.2.2.2.1),(16,i6 v.2.2.2.2.2.2.1),(17,i6 v.2.2.2.2.2.2.2.1)],[.cells [.fz Riii v.2.2.2.2.2.2.2.2.1],.cells [i6 v.2.2.2.2.2.2.2.2.2.1,i6 v.2.2.2.2.2.2.2.2.2.2.1],.cells [i6 v.2.2.2.2.2.2.2.2.2.2.2.1,i6 v.2.2.2.2.2.2.2.2.2.2.2.2.1],.cells [.fz Riii v.2.2.2.2.2.2.2.2.2.2.2.2.2.1],.rows Rii v.2.2.2.2.2.2.2.2.2.2.2.2.2.2.1,.rows Rii v.2.2.2.2.2.2.2.2.2.2.2.2.2.2.2]⟩
def q2xt (C:q2wq) (v:q2xn):Dt q2xr:=(Dt.bnd (C.2.2.2.2.2.2.1 ((v.2.2.2.2.2.2.1,()),(v.2.2.2.2.2.2.2.1,v.2.2.2.2.2.2.2.2.1,()),(v.2.2.2.2.2.2.2.2.2.1,v.2.2.2.2.2.2.2.2.2.2.1,()),())) fun r1=>(Dt.ret (v.1,v.2.1,v.2.2.1,v.2.2.2.1,v.2.2.2.2.1,v.2.2.2.2.2.1,r1.1,r1.2,v.2.2.2.2.2.2.1,v.2.2.2.2.2.2.2.1,v.2.2.2.2.2.2.2.2.1,v.2.2.2.2.2.2.2.2.2.1,v.2.2.2.2.2.2.2.2.2.2.1,v.2.2.2.2.2.2.2.2.2.2.2.1,v.2.2.2.2.2.2.2.2.2.2.2.2.1,v.2.2.2.2.2.2.2.2.2.2.2.2.2)))
theorem q2xu C v:q3r7 (regO (qdk f3) 8) false [(3,(.box [.val Riii])),(4,.any),(5,.any),(7,(.box [.val Riii])),(8,(.own Rii)),(9,.any),(10,(.own Rii)),(11,.any),(12,(.val RLiE)),(13,.any),(14,(.val RLiE)),(15,.any),(16,.any),(17,.any)] q2xo q2xt q2xs C v:=rgI (by kernel_rfl)
abbrev q2xv:Type:=Int×Int×List DLiE×Int×List DLiE×Int×Int×Int×Int×Int×List Diii×Int×Int×Int×Int×List Diii×List Dii×List Dii
def q2xw (v:q2xv):St:=⟨[(3,.ptr 0 0),(4,.ptr 1 0),(5,.ptr 2 0),(7,.ptr 3 0),(8,.rs 4),(9,i6 v.1),(10,.rs 5),(11,i6 v.2.1),(12,.fz RLiE v.2.2.1),(13,i6 v.2.2.2.1),(14,.fz RLiE v.2.2.2.2.1),(15,i6 v.2.2.2.2.2.1),(16,i6 v.2.2.2.2.2.2.1),(17,i6 v.2.2.2.2.2.2.2.1),(18,i6 v.2.2.2.2.2.2.2.2.1),(19,i6 v.2.2.2.2.2.2.2.2.2.1)],[.cells [.fz Riii v.2.2.2.2.2.2.2.2.2.2.1],.cells [i6 v.2.2.2.2.2.2.2.2.2.2.2.1,i6 v.2.2.2.2.2.2.2.2.2.2.2.2.1],.cells [i6 v.2.2.2.2.2.2.2.2.2.2.2.2.2.1,i6 v.2.2.2.2.2.2.2.2.2.2.2.2.2.2.1],.cells [.fz Riii v.2.2.2.2.2.2.2.2.2.2.2.2.2.2.2.1],.rows Rii v.2.2.2.2.2.2.2.2.2.2.2.2.2.2.2.2.1,.rows Rii v.2.2.2.2.2.2.2.2.2.2.2.2.2.2.2.2.2]⟩
def q2xx (C:q2wq) (v:q2xr):Dt q2xv:=(Dt.bnd (C.2.2.2.2.2.2.2.1 ((v.2.2.2.2.2.2.2.2.2.2.2.2.2.1,()),(v.2.2.2.2.2.2.2.2.2.1,v.2.2.2.2.2.2.2.2.2.2.1,()),(v.2.2.2.2.2.2.2.2.2.2.2.1,v.2.2.2.2.2.2.2.2.2.2.2.2.1,()),())) fun r1=>(Dt.ret (v.1,v.2.1,v.2.2.1,v.2.2.2.1,v.2.2.2.2.1,v.2.2.2.2.2.1,v.2.2.2.2.2.2.1,v.2.2.2.2.2.2.2.1,r1.1,r1.2,v.2.2.2.2.2.2.2.2.1,v.2.2.2.2.2.2.2.2.2.1,v.2.2.2.2.2.2.2.2.2.2.1,v.2.2.2.2.2.2.2.2.2.2.2.1,v.2.2.2.2.2.2.2.2.2.2.2.2.1,v.2.2.2.2.2.2.2.2.2.2.2.2.2.1,v.2.2.2.2.2.2.2.2.2.2.2.2.2.2.1,v.2.2.2.2.2.2.2.2.2.2.2.2.2.2.2)))
theorem q2xy C v:q3r7 (regO (qdk f3) 9) false [(3,(.box [.val Riii])),(4,.any),(5,.any),(7,(.box [.val Riii])),(8,(.own Rii)),(9,.any),(10,(.own Rii)),(11,.any),(12,(.val RLiE)),(13,.any),(14,(.val RLiE)),(15,.any),(16,.any),(17,.any),(18,.any),(19,.any)] q2xs q2xx q2xw C v:=rgI (by kernel_rfl)
abbrev q2xz:Type:=Int×Int×List DLiE×Int×List DLiE×Int×Int×Int×Int×Int×List Di×Int×List Diii×Int×Int×Int×Int×List Diii×List Dii×List Dii
def q2y0 (v:q2xz):St:=⟨[(3,.ptr 0 0),(4,.ptr 1 0),(5,.ptr 2 0),(7,.ptr 3 0),(8,.rs 4),(9,i6 v.1),(10,.rs 5),(11,i6 v.2.1),(12,.fz RLiE v.2.2.1),(13,i6 v.2.2.2.1),(14,.fz RLiE v.2.2.2.2.1),(15,i6 v.2.2.2.2.2.1),(16,i6 v.2.2.2.2.2.2.1),(17,i6 v.2.2.2.2.2.2.2.1),(18,i6 v.2.2.2.2.2.2.2.2.1),(19,i6 v.2.2.2.2.2.2.2.2.2.1),(20,.fz Ri v.2.2.2.2.2.2.2.2.2.2.1),(21,i6 v.2.2.2.2.2.2.2.2.2.2.2.1)],[.cells [.fz Riii v.2.2.2.2.2.2.2.2.2.2.2.2.1],.cells [i6 v.2.2.2.2.2.2.2.2.2.2.2.2.2.1,i6 v.2.2.2.2.2.2.2.2.2.2.2.2.2.2.1],.cells [i6 v.2.2.2.2.2.2.2.2.2.2.2.2.2.2.2.1,i6 v.2.2.2.2.2.2.2.2.2.2.2.2.2.2.2.2.1],.cells [.fz Riii v.2.2.2.2.2.2.2.2.2.2.2.2.2.2.2.2.2.1],.rows Rii v.2.2.2.2.2.2.2.2.2.2.2.2.2.2.2.2.2.2.1,.rows Rii v.2.2.2.2.2.2.2.2.2.2.2.2.2.2.2.2.2.2.2]⟩
def q2y1 (C:q2wq) (v:q2xv):Dt q2xz:=(Dt.bnd (C.2.2.2.2.2.2.2.2.1 ((v.2.2.2.2.2.2.2.2.2.2.1,()),(v.2.2.2.2.2.2.2.2.2.2.2.1,v.2.2.2.2.2.2.2.2.2.2.2.2.1,()),(v.2.2.2.2.2.2.2.2.2.2.2.2.2.1,v.2.2.2.2.2.2.2.2.2.2.2.2.2.2.1,()),())) fun r1=>(Dt.ret (v.1,v.2.1,v.2.2.1,v.2.2.2.1,v.2.2.2.2.1,v.2.2.2.2.2.1,v.2.2.2.2.2.2.1,v.2.2.2.2.2.2.2.1,v.2.2.2.2.2.2.2.2.1,v.2.2.2.2.2.2.2.2.2.1,r1.1,r1.2,v.2.2.2.2.2.2.2.2.2.2.1,v.2.2.2.2.2.2.2.2.2.2.2.1,v.2.2.2.2.2.2.2.2.2.2.2.2.1,v.2.2.2.2.2.2.2.2.2.2.2.2.2.1,v.2.2.2.2.2.2.2.2.2.2.2.2.2.2.1,v.2.2.2.2.2.2.2.2.2.2.2.2.2.2.2.1,v.2.2.2.2.2.2.2.2.2.2.2.2.2.2.2.2.1,v.2.2.2.2.2.2.2.2.2.2.2.2.2.2.2.2.2)))
theorem q2y2 C v:q3r7 (regO (qdk f3) 10) false [(3,(.box [.val Riii])),(4,.any),(5,.any),(7,(.box [.val Riii])),(8,(.own Rii)),(9,.any),(10,(.own Rii)),(11,.any),(12,(.val RLiE)),(13,.any),(14,(.val RLiE)),(15,.any),(16,.any),(17,.any),(18,.any),(19,.any),(20,(.val Ri)),(21,.any)] q2xw q2y1 q2y0 C v:=rgI (by kernel_rfl)
abbrev q2y3:Type:=Int×Int×List DLiE×Int×List DLiE×Int×Int×Int×Int×Int×List Di×Int×List Di×Int×List Diii×List Diii×List Dii×List Dii
def q2y4 (v:q2y3):St:=⟨[(3,.ptr 0 0),(7,.ptr 1 0),(8,.rs 2),(9,i6 v.1),(10,.rs 3),(11,i6 v.2.1),(12,.fz RLiE v.2.2.1),(13,i6 v.2.2.2.1),(14,.fz RLiE v.2.2.2.2.1),(15,i6 v.2.2.2.2.2.1),(16,i6 v.2.2.2.2.2.2.1),(17,i6 v.2.2.2.2.2.2.2.1),(18,i6 v.2.2.2.2.2.2.2.2.1),(19,i6 v.2.2.2.2.2.2.2.2.2.1),(20,.fz Ri v.2.2.2.2.2.2.2.2.2.2.1),(21,i6 v.2.2.2.2.2.2.2.2.2.2.2.1),(22,.fz Ri v.2.2.2.2.2.2.2.2.2.2.2.2.1),(23,i6 v.2.2.2.2.2.2.2.2.2.2.2.2.2.1)],[.cells [.fz Riii v.2.2.2.2.2.2.2.2.2.2.2.2.2.2.1],.cells [.fz Riii v.2.2.2.2.2.2.2.2.2.2.2.2.2.2.2.1],.rows Rii v.2.2.2.2.2.2.2.2.2.2.2.2.2.2.2.2.1,.rows Rii v.2.2.2.2.2.2.2.2.2.2.2.2.2.2.2.2.2]⟩
def q2y5 (C:q2wq) (v:q2xz):Dt q2y3:=(Dt.bnd (C.2.2.2.2.2.2.2.2.2.1 ((v.2.2.2.2.2.2.2.2.2.2.2.2.2.2.2.2.2.1,()),(v.2.2.2.2.2.2.2.2.2.2.2.2.2.1,v.2.2.2.2.2.2.2.2.2.2.2.2.2.2.1,()),(v.2.2.2.2.2.2.2.2.2.2.2.2.2.2.2.1,v.2.2.2.2.2.2.2.2.2.2.2.2.2.2.2.2.1,()),())) fun r1=>(Dt.ret (v.1,v.2.1,v.2.2.1,v.2.2.2.1,v.2.2.2.2.1,v.2.2.2.2.2.1,v.2.2.2.2.2.2.1,v.2.2.2.2.2.2.2.1,v.2.2.2.2.2.2.2.2.1,v.2.2.2.2.2.2.2.2.2.1,v.2.2.2.2.2.2.2.2.2.2.1,v.2.2.2.2.2.2.2.2.2.2.2.1,r1.1,r1.2,v.2.2.2.2.2.2.2.2.2.2.2.2.1,v.2.2.2.2.2.2.2.2.2.2.2.2.2.2.2.2.2.1,v.2.2.2.2.2.2.2.2.2.2.2.2.2.2.2.2.2.2.1,v.2.2.2.2.2.2.2.2.2.2.2.2.2.2.2.2.2.2.2)))
theorem q2y6 C v:q3r7 (regO (qdk f3) 11) false [(3,(.box [.val Riii])),(7,(.box [.val Riii])),(8,(.own Rii)),(9,.any),(10,(.own Rii)),(11,.any),(12,(.val RLiE)),(13,.any),(14,(.val RLiE)),(15,.any),(16,.any),(17,.any),(18,.any),(19,.any),(20,(.val Ri)),(21,.any),(22,(.val Ri)),(23,.any)] q2y0 q2y5 q2y4 C v:=rgI (by kernel_rfl)
def q2y7 (C:q2wq) (v:q2y3):Dt q2x3:=(Dt.bnd (C.2.2.2.2.2.2.2.2.2.2.1 ((v.2.2.2.2.2.2.2.2.2.2.2.2.2.2.2.2.1,()),(v.2.2.2.2.2.2.2.2.2.2.2.2.2.2.2.2.2,()),())) fun r1=>(Dt.ite r1 (Dt.ite (v.1 == v.2.1) (Dt.bnd (C.2.2.2.2.2.2.2.2.2.2.2.1 ((v.2.2.1,()),(v.2.2.2.2.1,()),())) fun r2=>(Dt.ite r2 (Dt.ite (v.2.2.2.1 == v.2.2.2.2.2.1) (Dt.ite (v.2.2.2.2.2.2.1 == v.2.2.2.2.2.2.2.2.1) (Dt.ite (v.2.2.2.2.2.2.2.1 == v.2.2.2.2.2.2.2.2.2.1) (Dt.bnd (C.2.2.2.2.2.2.2.2.2.2.2.2.1 ((v.2.2.2.2.2.2.2.2.2.2.1,()),(v.2.2.2.2.2.2.2.2.2.2.2.2.1,()),())) fun r3=>(Dt.ite r3 (Dt.ite (v.2.2.2.2.2.2.2.2.2.2.2.1 == v.2.2.2.2.2.2.2.2.2.2.2.2.2.1) (Dt.bnd (C.2.2.2.2.2.2.2.2.2.2.2.2.2.1 ((v.2.2.2.2.2.2.2.2.2.2.2.2.2.2.1,()),(v.2.2.2.2.2.2.2.2.2.2.2.2.2.2.2.1,()),())) fun r4=>(Dt.ret r4)) (Dt.ret false)) (Dt.ret false))) (Dt.ret false)) (Dt.ret false)) (Dt.ret false)) (Dt.ret false))) (Dt.ret false)) (Dt.ret false)))
theorem q2y8 C v:q3r7 (regO (qdk f3) 12) false [(6,.any)] q2y4 q2y7 q2x4 C v:=rgI (by kernel_rfl)
def q2y9 (d:Nat) (x:q2wm):Option q2wn :=
 (q2wx (q2wr d) (x.1.1,x.2.1.1,x.2.1.2.1,x.2.2.1.1,x.2.2.1.2.1)).eval fun y0 =>
 (q2x1 (q2wr d) y0).eval fun y1 =>
 bif y1.1 then ((q2x5 (q2wr d) y1).eval fun y2 =>
 some y2) else ((q2x9 (q2wr d) y1).eval fun y3 =>
 (q2xd (q2wr d) y3).eval fun y4 =>
 (q2xh (q2wr d) y4).eval fun y5 =>
 (q2xl (q2wr d) y5).eval fun y6 =>
 (q2xp (q2wr d) y6).eval fun y7 =>
 (q2xt (q2wr d) y7).eval fun y8 =>
 (q2xx (q2wr d) y8).eval fun y9 =>
 (q2y1 (q2wr d) y9).eval fun y10 =>
 (q2y5 (q2wr d) y10).eval fun y11 =>
 (q2y7 (q2wr d) y11).eval fun y12 =>
 some y12)
theorem q2ya (d:Nat):COK prog (q2wp (q2y9 d)):=by
 have hm:prog.follows .mixedOrders=true:=mixed
 have hT:=tys
 have hC0:OrcOK prog (orc (q2ws (q2wr d))):=qde (by
  intro S hS
  simp only [q2ws,List.mem_cons,List.not_mem_nil,or_false] at hS
  rcases hS with rfl | rfl | rfl | rfl | rfl | rfl | rfl | rfl | rfl | rfl | rfl | rfl | rfl | rfl
  · exact q2wk d
  · exact qpx d
  · exact q20n d
  · exact q2k7 d
  · exact q244 d
  · exact q2my d
  · exact q24s d
  · exact q2nm d
  · exact q2ch d
  · exact q2ri d
  · exact q2w0 d
  · exact q2uv d
  · exact quy d
  · exact qq6 d)
 have hC:OrcOK prog (orc (q2ws (q2wr d))):=hC0
 refine q93 (c:=qdk f3) (fn:=f3) hT (by kernel_rfl) (by kernel_rfl) (by decide) fun x r h w0 φ0 Q hend=>?_
 replace h:q2y9 d x=some r:=h
 unfold q2y9 at h
 show Run prog w0 φ0 125 (qdk f3) ⟨[(0,.agg [.fz Riii x.1.1]),(1,.agg [.int .i64 x.2.1.1,.int .i64 x.2.1.2.1]),(2,.agg [.int .i64 x.2.2.1.1,.int .i64 x.2.2.1.2.1])],[]⟩ Q
 refine q3pf hm hT hC (q2wy (q2wr d) (x.1.1,x.2.1.1,x.2.1.2.1,x.2.2.1.1,x.2.2.1.2.1)) h fun y0 h=>?_
 refine q8m ?_
 refine q3pf hm hT hC (q2x2 (q2wr d) y0) h fun y1 h=>?_
 refine q8q (v:=y1.1) (by kernel_rfl) h ?_ ?_
 ·
  intro h
  refine q3pf hm hT hC (q2x6 (q2wr d) y1) h fun y2 h=>?_
  refine q8l (q8a ?_)
  cases h
  exact (hend _ (by kernel_rfl)).2
 ·
  intro h
  refine q8i (q88 ?_)
  refine q3pf hm hT hC (q2xa (q2wr d) y1) h fun y3 h=>?_
  refine q3pf hm hT hC (q2xe (q2wr d) y3) h fun y4 h=>?_
  refine q3pf hm hT hC (q2xi (q2wr d) y4) h fun y5 h=>?_
  refine q3pf hm hT hC (q2xm (q2wr d) y5) h fun y6 h=>?_
  refine q3pf hm hT hC (q2xq (q2wr d) y6) h fun y7 h=>?_
  refine q3pf hm hT hC (q2xu (q2wr d) y7) h fun y8 h=>?_
  refine q3pf hm hT hC (q2xy (q2wr d) y8) h fun y9 h=>?_
  refine q3pf hm hT hC (q2y2 (q2wr d) y9) h fun y10 h=>?_
  refine q3pf hm hT hC (q2y6 (q2wr d) y10) h fun y11 h=>?_
  refine q3pf hm hT hC (q2y8 (q2wr d) y11) h fun y12 h=>?_
  refine q8l ?_
  cases h
  exact (hend _ (by kernel_rfl)).2
abbrev q2yb:List Pk:=[.row qjw true,.row Rii true,.row Rii true,.row Ri false,.row Ri false,.row Ri false]
abbrev q2yc:Type:=qjx×Dii×Dii×Di×Di×Di×Unit
abbrev q2yd:Type:=Bool
def q2ye (r:q2yd):LV×List Ob:=(.bool r,[])
def q2yf (F:q2yc→Option q2yd):Go.Tx.Spec:=⟨5,q2yb,q2yd,F,q2ye⟩
abbrev q2yg:Type:=(q2w2→Option q2w3)×(q2d7→Option q2d8)×(q29l→Option q29m)×(q2oy→Option q2oz)×(q2rk→Option q2rl)×Unit
def q2yh (d:Nat):q2yg:=(q2wj d,q2ee d,q2aq d,q2pv d,q2tp d,())
def q2yi (C:q2yg):List Go.Tx.Spec:=[q2w5 C.1,q2da C.2.1,q29o C.2.2.1,q2p1 C.2.2.2.1,q2rn C.2.2.2.2.1]
abbrev q2yj:Type:=List Diii×Int×Int×Int×Int×Int×Int×Int
def q2yk (v:q2yj):St:=⟨[(0,.agg [.fz Riii v.1]),(1,.agg [i6 v.2.1,i6 v.2.2.1]),(2,.agg [i6 v.2.2.2.1,i6 v.2.2.2.2.1]),(3,i6 v.2.2.2.2.2.1),(4,i6 v.2.2.2.2.2.2.1),(5,i6 v.2.2.2.2.2.2.2)],[]⟩
abbrev q2yl:Type:=Int×Int×Int×List Diii×Int×Int×Int×Int
def q2ym (v:q2yl):St:=⟨[(3,i6 v.1),(4,i6 v.2.1),(5,i6 v.2.2.1),(6,.ptr 0 0),(7,.ptr 1 0),(8,.ptr 2 0)],[.cells [.fz Riii v.2.2.2.1],.cells [i6 v.2.2.2.2.1,i6 v.2.2.2.2.2.1],.cells [i6 v.2.2.2.2.2.2.1,i6 v.2.2.2.2.2.2.2]]⟩
def q2yn (C:q2yg) (v:q2yj):Dt q2yl:=(Dt.ret (v.2.2.2.2.2.1,v.2.2.2.2.2.2.1,v.2.2.2.2.2.2.2,v.1,v.2.1,v.2.2.1,v.2.2.2.1,v.2.2.2.2.1))
abbrev q3r8 {V Y:Type}:=@rg q2yg V Y tysT (fun C=>(orc (q2yi C))) 73
theorem q2yo C v:q3r8 (regO (qdk f5) 0) false [(3,.any),(4,.any),(5,.any),(6,(.box [.val Riii])),(7,.any),(8,.any)] q2yk q2yn q2ym C v:=rgI (by kernel_rfl)
abbrev q2yp:Type:=Int×Int×Int×Bool×List Diii×Int×Int×Int×Int
def q2yq (v:q2yp):St:=⟨[(3,i6 v.1),(4,i6 v.2.1),(5,i6 v.2.2.1),(6,.ptr 0 0),(7,.ptr 1 0),(8,.ptr 2 0),(22,.bool v.2.2.2.1)],[.cells [.fz Riii v.2.2.2.2.1],.cells [i6 v.2.2.2.2.2.1,i6 v.2.2.2.2.2.2.1],.cells [i6 v.2.2.2.2.2.2.2.1,i6 v.2.2.2.2.2.2.2.2]]⟩
def q2yr (C:q2yg) (v:q2yl):Dt q2yp:=(Dt.bnd (C.1 ((v.2.2.2.1,()),())) fun r1=>(Dt.ret (v.1,v.2.1,v.2.2.1,r1,v.2.2.2.1,v.2.2.2.2.1,v.2.2.2.2.2.1,v.2.2.2.2.2.2.1,v.2.2.2.2.2.2.2)))
theorem q2ys C v:q3r8 (regO (qdk f5) 1) false [(3,.any),(4,.any),(5,.any),(6,(.box [.val Riii])),(7,.any),(8,.any),(22,.any)] q2ym q2yr q2yq C v:=rgI (by kernel_rfl)
abbrev q2yt:Type:=Bool
def q2yu (v:q2yt):St:=⟨[(12,.bool v)],[]⟩
def q2yv (C:q2yg) (v:q2yp):Dt q2yt:=(Dt.ret true)
theorem q2yw C v:q3r8 (regO (qdk f5) 2) false [(12,.any)] q2yq q2yv q2yu C v:=rgI (by kernel_rfl)
abbrev q2yx:Type:=Int×Int×Int×Bool×Int×List Diii×Int×Int×Int×Int
def q2yy (v:q2yx):St:=⟨[(3,i6 v.1),(4,i6 v.2.1),(5,i6 v.2.2.1),(6,.ptr 0 0),(7,.ptr 1 0),(8,.ptr 2 0),(13,.bool v.2.2.2.1),(14,i6 v.2.2.2.2.1)],[.cells [.fz Riii v.2.2.2.2.2.1],.cells [i6 v.2.2.2.2.2.2.1,i6 v.2.2.2.2.2.2.2.1],.cells [i6 v.2.2.2.2.2.2.2.2.1,i6 v.2.2.2.2.2.2.2.2.2]]⟩
def q2yz (C:q2yg) (v:q2yp):Dt q2yx:=(Dt.bnd (C.2.2.1 ((v.2.2.2.2.1,()),(v.2.2.2.2.2.1,v.2.2.2.2.2.2.1,()),(v.2.2.2.2.2.2.2.1,v.2.2.2.2.2.2.2.2,()),(v.1,()),(v.2.1,()),())) fun r1=>(Dt.ret (v.1,v.2.1,v.2.2.1,r1.1,r1.2,v.2.2.2.2.1,v.2.2.2.2.2.1,v.2.2.2.2.2.2.1,v.2.2.2.2.2.2.2.1,v.2.2.2.2.2.2.2.2)))
theorem q2z0 C v:q3r8 (regO (qdk f5) 3) false [(3,.any),(4,.any),(5,.any),(6,(.box [.val Riii])),(7,.any),(8,.any),(13,.any),(14,.any)] q2yq q2yz q2yy C v:=rgI (by kernel_rfl)
abbrev q2z1:Type:=Int×Bool×Int×Bool×Int×List Diii×Int×Int
def q2z2 (v:q2z1):St:=⟨[(5,i6 v.1),(6,.ptr 0 0),(7,.ptr 1 0),(13,.bool v.2.1),(14,i6 v.2.2.1),(15,.bool v.2.2.2.1),(16,i6 v.2.2.2.2.1)],[.cells [.fz Riii v.2.2.2.2.2.1],.cells [i6 v.2.2.2.2.2.2.1,i6 v.2.2.2.2.2.2.2]]⟩
def q2z3 (C:q2yg) (v:q2yx):Dt q2z1:=(Dt.bnd (C.2.2.2.1 ((v.2.2.2.2.2.1,()),(v.2.2.2.2.2.2.1,v.2.2.2.2.2.2.2.1,()),(v.2.2.2.2.2.2.2.2.1,v.2.2.2.2.2.2.2.2.2,()),(v.1,()),(v.2.1,()),())) fun r1=>(Dt.ret (v.2.2.1,v.2.2.2.1,v.2.2.2.2.1,r1.1,r1.2,v.2.2.2.2.2.1,v.2.2.2.2.2.2.1,v.2.2.2.2.2.2.2.1)))
theorem q2z4 C v:q3r8 (regO (qdk f5) 4) false [(5,.any),(6,(.box [.val Riii])),(7,.any),(13,.any),(14,.any),(15,.any),(16,.any)] q2yy q2z3 q2z2 C v:=rgI (by kernel_rfl)
abbrev q2z5:Type:=Int×Bool×Int×Bool×Int×Int×List Diii×Int×Int×Int×Int
def q2z6 (v:q2z5):St:=⟨[(5,i6 v.1),(6,.ptr 0 0),(7,.ptr 1 0),(13,.bool v.2.1),(14,i6 v.2.2.1),(15,.bool v.2.2.2.1),(16,i6 v.2.2.2.2.1),(17,.ptr 2 0),(18,i6 v.2.2.2.2.2.1)],[.cells [.fz Riii v.2.2.2.2.2.2.1],.cells [i6 v.2.2.2.2.2.2.2.1,i6 v.2.2.2.2.2.2.2.2.1],.cells [i6 v.2.2.2.2.2.2.2.2.2.1,i6 v.2.2.2.2.2.2.2.2.2.2]]⟩
def q2z7 (C:q2yg) (v:q2z1):Dt q2z5:=(Dt.bnd (C.2.1 ((v.2.2.2.2.2.1,()),(v.2.2.2.2.2.2.1,v.2.2.2.2.2.2.2,()),(v.1,()),())) fun r1=>(Dt.ret (v.1,v.2.1,v.2.2.1,v.2.2.2.1,v.2.2.2.2.1,r1.2.2,v.2.2.2.2.2.1,v.2.2.2.2.2.2.1,v.2.2.2.2.2.2.2,r1.1,r1.2.1)))
theorem q2z8 C v:q3r8 (regO (qdk f5) 5) false [(5,.any),(6,(.box [.val Riii])),(7,.any),(13,.any),(14,.any),(15,.any),(16,.any),(17,.any),(18,.any)] q2z2 q2z7 q2z6 C v:=rgI (by kernel_rfl)
abbrev q2z9:Type:=Bool×Int×Bool×Int×Int×Int×Int×Int×Int×Int
def q2za (v:q2z9):St:=⟨[(13,.bool v.1),(14,i6 v.2.1),(15,.bool v.2.2.1),(16,i6 v.2.2.2.1),(17,.ptr 0 0),(18,i6 v.2.2.2.2.1),(19,.ptr 1 0),(20,i6 v.2.2.2.2.2.1)],[.cells [i6 v.2.2.2.2.2.2.1,i6 v.2.2.2.2.2.2.2.1],.cells [i6 v.2.2.2.2.2.2.2.2.1,i6 v.2.2.2.2.2.2.2.2.2]]⟩
def q2zb (C:q2yg) (v:q2z5):Dt q2z9:=(Dt.bnd (C.2.2.2.2.1 ((v.2.2.2.2.2.2.1,()),(v.2.2.2.2.2.2.2.1,v.2.2.2.2.2.2.2.2.1,()),(v.1,()),())) fun r1=>(Dt.ret (v.2.1,v.2.2.1,v.2.2.2.1,v.2.2.2.2.1,v.2.2.2.2.2.1,r1.2.2,v.2.2.2.2.2.2.2.2.2.1,v.2.2.2.2.2.2.2.2.2.2,r1.1,r1.2.1)))
theorem q2zc C v:q3r8 (regO (qdk f5) 6) false (an [13,14,15,16,17,18,19,20]) q2z6 q2zb q2za C v:=rgI (by kernel_rfl)
def q2zd (C:q2yg) (v:q2z9):Dt q2yt:=(Dt.ite (v.1 == v.2.2.1) (Dt.ite (v.2.1 == v.2.2.2.1) (Dt.ite ((v.2.2.2.2.2.2.1 == v.2.2.2.2.2.2.2.2.1)&&((v.2.2.2.2.2.2.2.1 == v.2.2.2.2.2.2.2.2.2)&&true)) (Dt.ret (v.2.2.2.2.1 == v.2.2.2.2.2.1)) (Dt.ret false)) (Dt.ret false)) (Dt.ret false))
theorem q2ze C v:q3r8 (regO (qdk f5) 7) false [(12,.any)] q2za q2zd q2yu C v:=rgI (by kernel_rfl)
def q2zf (d:Nat) (x:q2yc):Option q2yd :=
 (q2yn (q2yh d) (x.1.1,x.2.1.1,x.2.1.2.1,x.2.2.1.1,x.2.2.1.2.1,x.2.2.2.1.1,x.2.2.2.2.1.1,x.2.2.2.2.2.1.1)).eval fun y0 =>
 (q2yr (q2yh d) y0).eval fun y1 =>
 bif y1.2.2.2.1 then ((q2yv (q2yh d) y1).eval fun y2 =>
 some y2) else ((q2yz (q2yh d) y1).eval fun y3 =>
 (q2z3 (q2yh d) y3).eval fun y4 =>
 (q2z7 (q2yh d) y4).eval fun y5 =>
 (q2zb (q2yh d) y5).eval fun y6 =>
 (q2zd (q2yh d) y6).eval fun y7 =>
 some y7)
theorem q2zg (d:Nat):COK prog (q2yf (q2zf d)):=by
 have hm:prog.follows .mixedOrders=true:=mixed
 have hT:=tys
 have hC0:OrcOK prog (orc (q2yi (q2yh d))):=qde (by
  intro S hS
  simp only [q2yi,List.mem_cons,List.not_mem_nil,or_false] at hS
  rcases hS with rfl | rfl | rfl | rfl | rfl
  · exact q2wk d
  · exact q2ef d
  · exact q2ar d
  · exact q2pw d
  · exact q2tq d)
 have hC:OrcOK prog (orc (q2yi (q2yh d))):=hC0
 refine q93 (c:=qdk f5) (fn:=f5) hT (by kernel_rfl) (by kernel_rfl) (by decide) fun x r h w0 φ0 Q hend=>?_
 replace h:q2zf d x=some r:=h
 unfold q2zf at h
 show Run prog w0 φ0 73 (qdk f5) ⟨[(0,.agg [.fz Riii x.1.1]),(1,.agg [.int .i64 x.2.1.1,.int .i64 x.2.1.2.1]),(2,.agg [.int .i64 x.2.2.1.1,.int .i64 x.2.2.1.2.1]),(3,.int .i64 x.2.2.2.1.1),(4,.int .i64 x.2.2.2.2.1.1),(5,.int .i64 x.2.2.2.2.2.1.1)],[]⟩ Q
 refine q3pf hm hT hC (q2yo (q2yh d) (x.1.1,x.2.1.1,x.2.1.2.1,x.2.2.1.1,x.2.2.1.2.1,x.2.2.2.1.1,x.2.2.2.2.1.1,x.2.2.2.2.2.1.1)) h fun y0 h=>?_
 refine q8m ?_
 refine q3pf hm hT hC (q2ys (q2yh d) y0) h fun y1 h=>?_
 refine q8q (v:=y1.2.2.2.1) (by kernel_rfl) h ?_ ?_
 ·
  intro h
  refine q3pf hm hT hC (q2yw (q2yh d) y1) h fun y2 h=>?_
  refine q8l (q8a ?_)
  cases h
  exact (hend _ (by kernel_rfl)).2
 ·
  intro h
  refine q8i (q88 ?_)
  refine q3pf hm hT hC (q2z0 (q2yh d) y1) h fun y3 h=>?_
  refine q3pf hm hT hC (q2z4 (q2yh d) y3) h fun y4 h=>?_
  refine q3pf hm hT hC (q2z8 (q2yh d) y4) h fun y5 h=>?_
  refine q3pf hm hT hC (q2zc (q2yh d) y5) h fun y6 h=>?_
  refine q3pf hm hT hC (q2ze (q2yh d) y6) h fun y7 h=>?_
  refine q8l ?_
  cases h
  exact (hend _ (by kernel_rfl)).2
end Go.Proofs.YtbjpmdhdoggobaaGreat

namespace Go.Proofs.YtbjpmdhdoggobaaGreat
open Go Go.Tx Go.Pel
theorem q3eb (d:Nat) (a b:Int):qyk d ((a,()),(b,()),())=some (cmpZ a b):=by
  simp only [qyk,qx8,qxc,qxg,qxk,qxo,qxs,qxw,qxy,qy2,qy4,qy8,qya,qye,qyg,qyi,qx0,qwq,qwu,qwy,Dt.eval,bne_self_eq_false,cond_false]
  unfold cmpZ
  by_cases h1:a<b
  · simp only [h1,decide_true,cond_true,if_true]
  · by_cases h2 : b < a
    · simp only [h1,h2,gt_iff_lt,decide_true,decide_false,cond_true,cond_false,if_true,if_false]
    · simp only [h1,h2,gt_iff_lt,decide_false,cond_false,if_false]
theorem q3ec (d:Nat) (a b:Int):q11y d ((a,()),(b,()),())=some (cmpZ a b):=by
  simp only [q11y,q10m,q10q,q10u,q10y,q112,q116,q11a,q11c,q11g,q11i,q11m,q11o,q11s,q11u,q11w,q10e,q104,q108,q10c,Dt.eval,bne_self_eq_false,cond_false]
  unfold cmpZ
  by_cases h1:a<b
  · simp only [h1,decide_true,cond_true,if_true]
  · by_cases h2 : b < a
    · simp only [h1,h2,gt_iff_lt,decide_true,decide_false,cond_true,cond_false,if_true,if_false]
    · simp only [h1,h2,gt_iff_lt,decide_false,cond_false,if_false]
theorem q3ed (d:Nat) (a:Int) (h:i64B a=true):qz8 d ((a,()),())=some (a.natAbs:Int):=by
  have h:=qjh h
  simp only [qz8,qys,qyw,qz0,qz4,qz6,Dt.eval]
  by_cases h1:a<0
  · simp only [h1, decide_true, cond_true, IntKind.wrap_u64]
    exact congrArg some (by omega:((0:Int) - a % 18446744073709551616) % 18446744073709551616=(a.natAbs:Int))
  · simp only [h1, decide_false, cond_false, IntKind.wrap_u64]
    exact congrArg some (by omega:(a % 18446744073709551616:Int)=(a.natAbs:Int))
theorem q3ef (d:Nat) (a b:Int) (ha:i64B a=true) (hb:i64B b=true):qzw d ((a,()),(b,()),())=some (!((decide (a<0)) == (decide (b<0))),(((a*b).natAbs / 18446744073709551616:Nat):Int),(((a*b).natAbs % 18446744073709551616:Nat):Int)):=by
  have e1:=q3ed d a ha
  have e2:=q3ed d b hb
  have ha':=qjh ha
  have hb':=qjh hb
  have e3:qmv d (((a.natAbs:Int),()),((b.natAbs:Int),()),())=some (((a.natAbs:Int)*(b.natAbs:Int)) / 18446744073709551616,((a.natAbs:Int)*(b.natAbs:Int)) % 18446744073709551616):=by
    rw [qmw _ _ (by unfold qmu u64B;simp only [Bool.and_eq_true,decide_eq_true_eq];omega)]
  simp only [qzw,qzg,qzm,qzq,qzu,Dt.eval,e1,e2,e3]
  rw [Int.natAbs_mul]
  simp
theorem ltZ (a b:Int):cmpZ a b=-1∧a<b∨cmpZ a b=0∧a=b∨cmpZ a b=1∧b<a:=by
  unfold cmpZ
  repeat' split
  all_goals omega
theorem q3eg (d:Nat) (n1 n2:Bool) (P Q:Nat):q12s d ((n1,((P / 18446744073709551616:Nat):Int),((P % 18446744073709551616:Nat):Int),()),(n2,((Q / 18446744073709551616:Nat):Int),((Q % 18446744073709551616:Nat):Int),()),())=some (cmpZ (P:Int) (Q:Int)):=by
  simp only [q12s,q126,q12c,q12g,q12k,q12o,q12q,Dt.eval,q3ec]
  rcases ltZ ((P / 18446744073709551616:Nat):Int) ((Q / 18446744073709551616:Nat):Int) with ⟨h1,h2⟩ | ⟨h1,h2⟩ | ⟨h1,h2⟩
  · simp only [h1, show ((-1 : Int) != 0) = true from rfl, cond_true]
    rw [qkw (by omega)]
  · simp only [h1, show ((0 : Int) != 0) = false from rfl, cond_false]
    rcases ltZ (P:Int) (Q:Int) with ⟨k1,k2⟩ | ⟨k1,k2⟩ | ⟨k1,k2⟩
    · rw [k1,qkw (by omega)]
    · rw [k1,qky (by omega)]
    · rw [k1,qkx (by omega)]
  · simp only [h1, show ((1 : Int) != 0) = true from rfl, cond_true]
    rw [qkx (by omega)]
theorem q3eh (d:Nat) (n1 d1 n2 d2:Int) (h1:i64B n1=true) (h2:i64B d1=true) (h3:i64B n2=true) (h4:i64B d2=true):qwi d ((n1,d1,()),(n2,d2,()),())=some (tmax (qdm n1 d1) (qdm n2 d2)):=by
  have e1:qnd d ((n1,d1,()),())=some (qdm n1 d1):=qne _ _ (by unfold qnc;simp only [h1,h2,Bool.and_self])
  have e2:qnd d ((n2,d2,()),())=some (qdm n2 d2):=qne _ _ (by unfold qnc;simp only [h3,h4,Bool.and_self])
  simp only [qwi,qw6,qwc,qwg,Dt.eval,e1,e2]
def cmpR (n1 d1 n2 d2:Int):Int×Int:=if qdm n1 d1=0∧qdm n2 d2=0 then (cmpQ n1 d1 n2 d2,0) else (0,8)
theorem q3ei (d:Nat) (n1 d1 n2 d2:Int) (h1:i64B n1=true) (h2:i64B d1=true) (h3:i64B n2=true) (h4:i64B d2=true):q145 d ((n1,d1,()),(n2,d2,()),())=some (cmpR n1 d1 n2 d2):=by
  unfold cmpR
  have e0:=q3eh d n1 d1 n2 d2 h1 h2 h3 h4
  by_cases hc:qdm n1 d1=0∧qdm n2 d2=0
  · rw [if_pos hc]
    rw [hc.1,hc.2] at e0
    obtain ⟨g1,_,_⟩:=qdt hc.1
    obtain ⟨g2,_,_⟩:=qdt hc.2
    have e1:=q3ef d n1 d2 h1 h4
    have e2:=q3ef d n2 d1 h3 h2
    have e3:=q3eb d n1 n2
    simp only [q145,q130,q136,q13a,q13e,q13i,q13m,q13o,q13s,q13w,q140,q142,q144,Dt.eval,e0,e1,e2,e3,q3eg,show tmax 0 0=0 from rfl,show ((0:Int) != 0)=false from rfl,cond_false]
    unfold cmpQ
    have p1:0<d1:=by omega
    have p2:0<d2:=by omega
    have s1:(n1<0→n1*d2<0)∧(0≤n1→0≤n1*d2):=⟨fun h=>Int.mul_neg_of_neg_of_pos h p2,fun h=>Int.mul_nonneg h (by omega)⟩
    have s2:(n2<0→n2*d1<0)∧(0≤n2→0≤n2*d1):=⟨fun h=>Int.mul_neg_of_neg_of_pos h p1,fun h=>Int.mul_nonneg h (by omega)⟩
    generalize n1*d2=P at *
    generalize n2*d1=Q at *
    by_cases k1:n1<0<;>by_cases k2:n2<0<;>simp only [k1,k2,decide_true,decide_false,beq_self_eq_true,Bool.not_true,Bool.not_false,cond_true,cond_false,Bool.false_beq,Bool.true_beq]
    · have := s1.1 k1
      have:=s2.1 k2
      rcases ltZ (P.natAbs:Int) (Q.natAbs:Int) with ⟨g1,g2⟩ | ⟨g1,g2⟩ | ⟨g1,g2⟩
      · rw [g1,qkx (a:=P) (b:=Q) (by omega)];rfl
      · rw [g1,qky (a:=P) (b:=Q) (by omega)];rfl
      · rw [g1,qkw (a:=P) (b:=Q) (by omega)];rfl
    · have := s1.1 k1
      have:=s2.2 (by omega)
      rw [qkw (by omega),qkw (by omega)]
    · have := s1.2 (by omega)
      have:=s2.1 k2
      rw [qkx (by omega),qkx (by omega)]
    · have := s1.2 (by omega)
      have:=s2.2 (by omega)
      rw [show (P.natAbs:Int)=P by omega,show (Q.natAbs:Int)=Q by omega]
  · rw [if_neg hc]
    have e1:tmax (qdm n1 d1) (qdm n2 d2)=8:=by
      unfold tmax
      rcases qds n1 d1 with q1 | q1<;>rcases qds n2 d2 with q2 | q2
      · exact absurd ⟨q1,q2⟩ hc
      all_goals rw [q1,q2];rfl
    rw [e1] at e0
    simp only [q145,q130,q136,q13a,q13e,q13i,Dt.eval,e0,show ((8:Int) != 0)=true from rfl,cond_true]
theorem q3ej (d:Nat) (P:Int):q2fa d ((decide (P<0),((P.natAbs / 18446744073709551616:Nat):Int),((P.natAbs % 18446744073709551616:Nat):Int),()),())=some (cmpZ P 0):=by
  simp only [q2fa,q2em,q2es,q2ew,q2f0,q2f4,q2f6,q2f8,Dt.eval]
  by_cases h0:P=0
  · subst h0;rfl
  · have hne : ¬ (((P.natAbs / 18446744073709551616 : Nat) : Int) = 0 ∧ ((P.natAbs % 18446744073709551616 : Nat) : Int) = 0) := by omega
    have hh:(bif (((P.natAbs / 18446744073709551616:Nat):Int) == 0) then (((P.natAbs % 18446744073709551616:Nat):Int) == 0) else false)=false:=by
      cases h1:(((P.natAbs / 18446744073709551616:Nat):Int) == 0) with
      | false=>rfl
      | true=>rw [cond_true,beq_eq_false_iff_ne];rw [beq_iff_eq] at h1;intro h2;exact hne ⟨h1,h2⟩
    cases h1:(((P.natAbs / 18446744073709551616:Nat):Int) == 0) with
    | false =>
      simp only [cond_false]
      rcases ltZ P 0 with ⟨k1,k2⟩ | ⟨k1,k2⟩ | ⟨k1,k2⟩
      · simp only [k1,k2,decide_true,cond_true]
      · exact absurd k2 h0
      · simp only [k1,show ¬ P<0 by omega,decide_false,cond_false]
    | true =>
      rw [h1,cond_true] at hh
      simp only [cond_true,hh,cond_false]
      rcases ltZ P 0 with ⟨k1,k2⟩ | ⟨k1,k2⟩ | ⟨k1,k2⟩
      · simp only [k1,k2,decide_true,cond_true]
      · exact absurd k2 h0
      · simp only [k1,show ¬ P<0 by omega,decide_false,cond_false]
theorem q3ek (d:Nat) (n1 n2:Bool) (P Q:Nat):q1ln d ((n1,((P / 18446744073709551616:Nat):Int),((P % 18446744073709551616:Nat):Int),()),(n2,((Q / 18446744073709551616:Nat):Int),((Q % 18446744073709551616:Nat):Int),()),())=some (cmpZ (P:Int) (Q:Int)):=by
  simp only [q1ln,q1kn,q1kt,q1kx,q1l1,q1l5,q1l7,q1lb,q1lf,q1lh,q1lj,q1ll,Dt.eval]
  obtain ⟨a,ha⟩:∃ a:Int,((P / 18446744073709551616:Nat):Int)=a:=⟨_,rfl⟩
  obtain ⟨b,hb⟩:∃ a:Int,((P % 18446744073709551616:Nat):Int)=a:=⟨_,rfl⟩
  obtain ⟨c,hc⟩:∃ a:Int,((Q / 18446744073709551616:Nat):Int)=a:=⟨_,rfl⟩
  obtain ⟨e,he⟩:∃ a:Int,((Q % 18446744073709551616:Nat):Int)=a:=⟨_,rfl⟩
  rw [ha,hb,hc,he]
  rcases ltZ a c with ⟨_,k2⟩ | ⟨_,k2⟩ | ⟨_,k2⟩
  · have e1 : (a != c) = true := by simp; omega
    simp only [e1,k2,decide_true,cond_true]
    rw [qkw (by omega)]
  · have e1 : (a != c) = false := by simp; omega
    simp only [e1,cond_false]
    rcases ltZ b e with ⟨_,g2⟩ | ⟨_,g2⟩ | ⟨_,g2⟩
    · have e2 : (b != e) = true := by simp; omega
      simp only [e2,g2,decide_true,cond_true]
      rw [qkw (by omega)]
    · have e2 : (b != e) = false := by simp; omega
      simp only [e2,cond_false]
      rw [qky (by omega)]
    · have e2 : (b != e) = true := by simp; omega
      simp only [e2,show ¬ b<e by omega,decide_false,cond_true,cond_false]
      rw [qkx (by omega)]
  · have e1 : (a != c) = true := by simp; omega
    simp only [e1,show ¬ a<c by omega,decide_false,cond_true,cond_false]
    rw [qkx (by omega)]
theorem q3el (d:Nat) (n1 d1 n2 d2:Int) (h1:i64B n1=true) (h2:i64B d1=true) (h3:i64B n2=true) (h4:i64B d2=true):q2gg d ((n1,d1,()),(n2,d2,()),())=some (cmpQ n1 d1 n2 d2):=by
  have e1:qn4 d ((n1,()),(d2,()),())=some (decide (n1*d2<0),(((n1*d2).natAbs / 18446744073709551616:Nat):Int),(((n1*d2).natAbs % 18446744073709551616:Nat):Int)):=qn5 _ _ (by unfold qn3;simp only [h1,h4,Bool.and_self])
  have e2:qn4 d ((n2,()),(d1,()),())=some (decide (n2*d1<0),(((n2*d1).natAbs / 18446744073709551616:Nat):Int),(((n2*d1).natAbs % 18446744073709551616:Nat):Int)):=qn5 _ _ (by unfold qn3;simp only [h3,h2,Bool.and_self])
  unfold cmpQ
  generalize n1*d2=P at *
  generalize n2*d1=Q at *
  have hs:=@qmi P Q
  have hn:=@qmj P Q
  have hp:=@qmk P Q
  simp only [q2gg,q2fi,q2fo,q2fs,q2fw,q2g0,q2g4,q2g6,q2ga,q2gc,q2ge,Dt.eval,e1,e2,q3ej,q3ek]
  by_cases hg:cmpZ P 0=cmpZ Q 0
  · have g1 : (cmpZ P 0 != cmpZ Q 0) = false := by simp [hg]
    simp only [g1,cond_false]
    by_cases h0:cmpZ P 0<0
    · simp only [h0,decide_true,cond_true];rw [hn hg h0]
    · simp only [h0,decide_false,cond_false];rw [hp hg h0]
  · have g1 : (cmpZ P 0 != cmpZ Q 0) = true := by simp [hg]
    simp only [g1,cond_true]
    have:=hs hg
    by_cases h0:cmpZ P 0<cmpZ Q 0
    · rw [if_pos h0] at this;simp only [h0,decide_true,cond_true];rw [this]
    · rw [if_neg h0] at this;simp only [h0,decide_false,cond_false];rw [this]
end Go.Proofs.YtbjpmdhdoggobaaGreat

namespace Go.Tx
open Go
end Go.Tx

namespace Go.Pel
open Go Go.Tx
abbrev T3:Type:=Int×Int×Int×Unit
abbrev M4:Type:=Int×Int×Int×Int×Unit
theorem q_le {a b c d1 d2 d3:Int} (h1:1≤d1) (h2:1≤d2) (h3:1≤d3) (h:a*d2≤b*d1) (k:b*d3≤c*d2):a*d3≤c*d1:=by
  have e1:a*d3*d2≤c*d1*d2:=by
    have:=Int.mul_le_mul_of_nonneg_right h (show (0:Int)≤d3 by omega)
    have:=Int.mul_le_mul_of_nonneg_right k (show (0:Int)≤d1 by omega)
    rw [Int.mul_right_comm a d3 d2,Int.mul_right_comm c d1 d2]
    have e:b*d1*d3=b*d3*d1:=Int.mul_right_comm b d1 d3
    omega
  exact Int.le_of_mul_le_mul_right e1 (by omega)
theorem q_lt {a b c d1 d2 d3:Int} (h1:1≤d1) (h2:1≤d2) (h3:1≤d3) (h:a*d2<b*d1) (k:b*d3≤c*d2):a*d3<c*d1:=by
  have e1:a*d3*d2<c*d1*d2:=by
    have:=Int.mul_lt_mul_of_pos_right h (show (0:Int)<d3 by omega)
    have:=Int.mul_le_mul_of_nonneg_right k (show (0:Int)≤d1 by omega)
    rw [Int.mul_right_comm a d3 d2,Int.mul_right_comm c d1 d2]
    have e:b*d1*d3=b*d3*d1:=Int.mul_right_comm b d1 d3
    omega
  exact Int.lt_of_mul_lt_mul_right e1 (by omega)
theorem q3ep {a b c d1 d2 d3:Int} (h1:1≤d1) (h2:1≤d2) (h3:1≤d3) (h:a*d2≤b*d1) (k:b*d3<c*d2):a*d3<c*d1:=by
  have e1:a*d3*d2<c*d1*d2:=by
    have:=Int.mul_le_mul_of_nonneg_right h (show (0:Int)≤d3 by omega)
    have:=Int.mul_lt_mul_of_pos_right k (show (0:Int)<d1 by omega)
    rw [Int.mul_right_comm a d3 d2,Int.mul_right_comm c d1 d2]
    have e:b*d1*d3=b*d3*d1:=Int.mul_right_comm b d1 d3
    omega
  exact Int.lt_of_mul_lt_mul_right e1 (by omega)
theorem q_eq {a b d1 d2:Int} (h1:qdm a d1=0) (h2:qdm b d2=0) (h:a*d2=b*d1):a=b∧d1=d2:=by
  obtain ⟨p1,_,g1⟩:=qdt h1
  obtain ⟨p2,_,g2⟩:=qdt h2
  have hn:a.natAbs*d2.toNat=b.natAbs*d1.toNat:=by
    have:=congrArg Int.natAbs h
    rw [Int.natAbs_mul,Int.natAbs_mul] at this
    rwa [show d2.natAbs=d2.toNat by omega,show d1.natAbs=d1.toNat by omega] at this
  have k1:d1.toNat ∣ d2.toNat:=Nat.Coprime.dvd_of_dvd_mul_left (k:=d1.toNat) (m:=a.natAbs) (n:=d2.toNat) g1 ⟨b.natAbs,by rw [hn,Nat.mul_comm]⟩
  have k2:d2.toNat ∣ d1.toNat:=Nat.Coprime.dvd_of_dvd_mul_left (k:=d2.toNat) (m:=b.natAbs) (n:=d1.toNat) g2 ⟨a.natAbs,by rw [← hn,Nat.mul_comm]⟩
  have e:d1.toNat=d2.toNat:=Nat.dvd_antisymm k1 k2
  have e':d1=d2:=by omega
  subst e'
  exact ⟨Int.eq_of_mul_eq_mul_right (by omega) h,rfl⟩
def okM (x:M4):Prop:=qdm x.1 x.2.1=0
theorem q3ey {n d:Int} (hd:d≠0) (hn:n.natAbs≤4194304) (hd2:d.natAbs≤4194304):(mk n d).2.2=0∧qdm (mk n d).1 (mk n d).2.1=0∧(mk n d).1.natAbs≤4194304∧(mk n d).2.1≤4194304:=by
  have hg:=qei (n:=n) hd
  rw [qeh hd]
  have b1:n.natAbs / Nat.gcd n.natAbs d.natAbs≤n.natAbs:=Nat.div_le_self _ _
  have b2:d.natAbs / Nat.gcd n.natAbs d.natAbs≤d.natAbs:=Nat.div_le_self _ _
  have b3:1≤d.natAbs / Nat.gcd n.natAbs d.natAbs:=Nat.div_pos (Nat.gcd_le_right _ (by omega)) hg
  have hc:Nat.gcd (d.natAbs / Nat.gcd n.natAbs d.natAbs) (n.natAbs / Nat.gcd n.natAbs d.natAbs)=1:=by
    rw [Nat.gcd_comm];exact Nat.coprime_div_gcd_div_gcd hg
  generalize n.natAbs / Nat.gcd n.natAbs d.natAbs=A at *
  generalize d.natAbs / Nat.gcd n.natAbs d.natAbs=B at *
  have hno:¬ (0<0∨9223372036854775807<A∨0<0∨9223372036854775807<B):=by omega
  cases (decide (n<0) != decide (d<0)) with
  | true =>
    rw [qed hno]
    refine ⟨rfl,qdp (by simp only;omega) (by simp only;omega) ?_,by simp only;omega,by simp only;omega⟩
    simp only [Int.toNat_natCast,Int.natAbs_neg,Int.natAbs_natCast];exact hc
  | false =>
    rw [qee hno]
    refine ⟨rfl,qdp (by simp only;omega) (by simp only;omega) ?_,by simp only;omega,by simp only;omega⟩
    simp only [Int.toNat_natCast,Int.natAbs_natCast];exact hc
def mtP (x:T3×T3):Option M4:=if x.1.2.2.1=x.2.2.2.1 then none else some ((mk (x.1.2.1 - x.2.2.1) (x.2.2.2.1 - x.1.2.2.1)).1,(mk (x.1.2.1 - x.2.2.1) (x.2.2.2.1 - x.1.2.2.1)).2.1,x.1.1,x.2.1,())
def okP (p:T3):Prop:=(ofP p).chk=0
structure FldOk (l:List T3):Prop where
  len:l.length≤64
  ok:∀ p∈l,okP p
  inc:l.Pairwise fun p q=>p.1<q.1
end Go.Pel

namespace Go.Tx
theorem q3fa {α:Type} {f g:α→α→Bool} {x:α}:∀ {l:List α},(∀ a∈l,f x a=g x a)→insL f x l=insL g x l
  | [],_=>rfl
  | y :: ys, h => by
    rw [insL,insL,h y (List.mem_cons_self ..),q3fa fun a ha=>h a (List.mem_cons_of_mem _ ha)]
theorem q3fb {α:Type} {f g:α→α→Bool}:∀ {l:List α},(∀ a∈l,∀ b∈l,f a b=g a b)→qtm f l=qtm g l
  | [],_=>rfl
  | x :: xs, h => by
    rw [qtm,qtm,q3fb fun a ha b hb=>h a (List.mem_cons_of_mem _ ha) b (List.mem_cons_of_mem _ hb)]
    exact q3fa fun a ha=>h x (List.mem_cons_self ..) a (List.mem_cons_of_mem _ ((qtp g xs).mem_iff.1 ha))
theorem q3fd {τ:Row} {F:den τ×den τ×Unit→Option Int} {S:den τ→Prop} {lt:den τ→den τ→Bool} {c:den τ→den τ→Int} {xs:List (den τ)} (hS:∀ x∈xs,S x) (hF:∀ x y,S x→S y→F (x,y,())=some (c x y)) (hc:∀ x y,lt x y=decide (c x y<0)) (hi:∀ x,lt x x=false)
    (ht:∀ x y z,S x→S y→S z→lt x y=true→lt y z=true→lt x z=true) (hn:∀ x y z,S x→S y→S z→lt x y=false→lt y z=false→lt x z=false) (he:∀ x y,S x→S y→lt x y=false→lt y x=false→eqR τ x y=true) (hl:xs.length≤1000000):qtn F xs=some (qtm lt xs):=by
  have hlt:∀ x y,S x→S y→ltV F x y=lt x y:=fun x y hx hy=>by unfold ltV cmpV;rw [hF x y hx hy,hc]
  have hB:qtl F xs=true:=by
    unfold qtl
    simp only [Bool.and_eq_true,List.all_eq_true,Bool.or_eq_true,Bool.not_eq_true']
    refine ⟨⟨⟨⟨fun x hx y hy=>?_,fun x hx=>?_⟩,fun x hx y hy=>?_⟩,fun x hx y hy=>?_⟩,fun x hx y hy=>?_⟩
    · rw [hF x y (hS x hx) (hS y hy)];rfl
    · rw [hlt x x (hS x hx) (hS x hx)];exact hi x
    · rw [hlt x y (hS x hx) (hS y hy)]
      cases hxy:lt x y with
      | false=>exact .inl rfl
      | true =>
        refine .inr fun z hz=>?_
        rw [hlt y z (hS y hy) (hS z hz),hlt x z (hS x hx) (hS z hz)]
        cases hyz:lt y z with
        | false=>exact .inl rfl
        | true=>exact .inr (ht x y z (hS x hx) (hS y hy) (hS z hz) hxy hyz)
    · rw [hlt x y (hS x hx) (hS y hy)]
      cases hxy:lt x y with
      | true=>exact .inl rfl
      | false =>
        refine .inr fun z hz=>?_
        rw [hlt y z (hS y hy) (hS z hz),hlt x z (hS x hx) (hS z hz)]
        cases hyz:lt y z with
        | true=>exact .inl rfl
        | false=>exact .inr (hn x y z (hS x hx) (hS y hy) (hS z hz) hxy hyz)
    · rw [hlt x y (hS x hx) (hS y hy), hlt y x (hS y hy) (hS x hx)]
      cases hxy:lt x y with
      | true=>exact .inl (.inl rfl)
      | false =>
        cases hyx:lt y x with
        | true=>exact .inl (.inr rfl)
        | false=>exact .inr (he x y (hS x hx) (hS y hy) hxy hyx)
  unfold qtn
  rw [hB,show Nat.ble xs.length 1000000=true by rw [Nat.ble_eq];exact hl]
  exact congrArg some (q3fb fun a ha b hb=>hlt a b (hS a ha) (hS b hb))
end Go.Tx
namespace Go.Proofs.YtbjpmdhdoggobaaGreat
open Go Go.Tx Go.Pel
theorem q3fe {a:Int} (h:a.natAbs≤9223372036854775807):i64B a=true:=by
  unfold i64B;simp only [Bool.and_eq_true,decide_eq_true_eq];omega
structure okW (x:M4):Prop where
  ok:okM x
  n:x.1.natAbs≤4194304
  d:x.2.1≤4194304
theorem okW.b1 {x:M4} (h:okW x):i64B x.1=true:=q3fe (by have:=h.n;omega)
theorem okW.b2 {x:M4} (h:okW x):i64B x.2.1=true:=q3fe (by have:=h.d;have:=(qdt h.ok).1;omega)
end Go.Proofs.YtbjpmdhdoggobaaGreat
