/- Walks of the references; the orders agree; examples. -/
import Derived.Test.YtbjpmdhdoggobaaGreatGg
set_option linter.unusedSimpArgs false
set_option linter.unusedVariables false
namespace Go.Proofs.YtbjpmdhdoggobaaGreat
open Go Go.Tx Go.Proofs.Tryz
set_option maxRecDepth 100000
set_option maxHeartbeats 0
abbrev q2w1:List Pk:=[.row qjw true]
abbrev q2w2:Type:=qjx×Unit
abbrev q2w3:Type:=Bool
def q2w4 (r:q2w3):LV×List Ob:=(.bool r,[])
def q2w5 (F:q2w2→Option q2w3):Go.Tx.Spec:=⟨9,q2w1,q2w3,F,q2w4⟩
abbrev q2w6:Type:=Unit
def q2w7 (_d:Nat):q2w6:=()
def q2w8 (C:q2w6):List Go.Tx.Spec:=[]
abbrev q2w9:Type:=List Diii
def q2wa (v:q2w9):St:=⟨[(0,.agg [.fz Riii v])],[]⟩
abbrev q2wb:Type:=List Diii
def q2wc (v:q2wb):St:=⟨[(1,.ptr 0 0)],[.cells [.fz Riii v]]⟩
def q2wd (C:q2w6) (v:q2w9):Dt q2wb:=(Dt.ret v)
abbrev q3r6 {V Y:Type}:=@rg q2w6 V Y tysT (fun C=>(orc (q2w8 C))) 19
theorem q2we C v:q3r6 (regO (qdk f9) 0) false [(1,(.box [.val Riii]))] q2wa q2wd q2wc C v:=rgI (by kernel_rfl)
abbrev q2wf:Type:=Bool
def q2wg (v:q2wf):St:=⟨[(2,.bool v)],[]⟩
def q2wh (C:q2w6) (v:q2wb):Dt q2wf:=(Dt.ite (decide ((List.length v:Int) > (16:Int))) (Dt.ite (decide ((List.length v:Int)≤(64:Int))) (Dt.ret true) (Dt.ret (decide ((List.length v:Int) > (70:Int))))) (Dt.ret (decide ((List.length v:Int) > (70:Int)))))
theorem q2wi C v:q3r6 (regO (qdk f9) 1) false [(2,.any)] q2wc q2wh q2wg C v:=rgI (by kernel_rfl)
def q2wj (d:Nat) (x:q2w2):Option q2w3 :=
 (q2wd (q2w7 d) x.1.1).eval fun y0 =>
 (q2wh (q2w7 d) y0).eval fun y1 =>
 some y1
theorem q2wk (d:Nat):COK prog (q2w5 (q2wj d)):=by
 have hm:prog.follows .mixedOrders=true:=mixed
 have hT:=tys
 have hC0:OrcOK prog (orc (q2w8 (q2w7 d))):=qde (by
  intro S hS
  simp only [q2w8,List.mem_cons,List.not_mem_nil,or_false] at hS
  all_goals first | cases hS | exact hS.elim)
 have hC:OrcOK prog (orc (q2w8 (q2w7 d))):=hC0
 refine q93 (c:=qdk f9) (fn:=f9) hT (by kernel_rfl) (by kernel_rfl) (by decide) fun x r h w0 φ0 Q hend=>?_
 replace h:q2wj d x=some r:=h
 unfold q2wj at h
 show Run prog w0 φ0 19 (qdk f9) ⟨[(0,.agg [.fz Riii x.1.1])],[]⟩ Q
 refine q3pf hm hT hC (q2we (q2w7 d) x.1.1) h fun y0 h=>?_
 refine q3pf hm hT hC (q2wi (q2w7 d) y0) h fun y1 h=>?_
 refine q8l ?_
 cases h
 exact (hend _ (by kernel_rfl)).2
abbrev q2zh:List Pk:=[]
abbrev q2zi:Type:=Unit
abbrev q2zj:Type:=List Diii
def q2zk (r:q2zj):LV×List Ob:=(.agg [.rs 0],[.rows Riii r])
def q2zl (F:q2zi→Option q2zj):Go.Tx.Spec:=⟨40,q2zh,q2zj,F,q2zk⟩
abbrev q2zm:Type:=Unit
def q2zn (_d:Nat):q2zm:=()
def q2zo (C:q2zm):List Go.Tx.Spec:=[]
abbrev q2zp:Type:=Unit
def q2zq (v:q2zp):St:=⟨[],[]⟩
abbrev q2zr:Type:=List Diii
def q2zs (v:q2zr):St:=⟨[(0,.ptr 0 0)],[.cells [.rs 1],.rows Riii v]⟩
def q2zt (C:q2zm) (v:q2zp):Dt q2zr:=(Dt.ret ([]:List Diii))
abbrev q3r9 {V Y:Type}:=@rg q2zm V Y tysT (fun C=>(orc (q2zo C))) 6
theorem q2zu C v:q3r9 (regO (qdk f40) 0) false [(0,(.box [.own Riii]))] q2zq q2zt q2zs C v:=rgI (by kernel_rfl)
def q2zv (C:q2zm) (v:q2zr):Dt q2zr:=(Dt.ret ([((1:Int),(0:Int),(2:Int),()),((2:Int),(6:Int),(-1:Int),()),((5:Int),(0:Int),(0:Int),())]:List Diii))
theorem q2zw C v:q3r9 (regO (qdk f40) 1) false [(0,(.box [.own Riii]))] q2zs q2zv q2zs C v:=rgI (by kernel_rfl)
def q2zx (d:Nat) (x:q2zi):Option q2zj :=
 (q2zt (q2zn d) ()).eval fun y0 =>
 (q2zv (q2zn d) y0).eval fun y1 =>
 some y1
theorem q2zy (d:Nat):COK prog (q2zl (q2zx d)):=by
 have hm:prog.follows .mixedOrders=true:=mixed
 have hT:=tys
 have hC0:OrcOK prog (orc (q2zo (q2zn d))):=qde (by
  intro S hS
  simp only [q2zo,List.mem_cons,List.not_mem_nil,or_false] at hS
  all_goals first | cases hS | exact hS.elim)
 have hC:OrcOK prog (orc (q2zo (q2zn d))):=hC0
 refine q93 (c:=qdk f40) (fn:=f40) hT (by kernel_rfl) (by kernel_rfl) (by decide) fun x r h w0 φ0 Q hend=>?_
 replace h:q2zx d x=some r:=h
 unfold q2zx at h
 show Run prog w0 φ0 6 (qdk f40) ⟨[],[]⟩ Q
 refine q3pf hm hT hC (q2zu (q2zn d) ()) h fun y0 h=>?_
 refine q3pf hm hT hC (q2zw (q2zn d) y0) h fun y1 h=>?_
 refine q8l ?_
 cases h
 exact (hend _ (by kernel_rfl)).2
abbrev q2zz:List Pk:=[.row Ri false]
abbrev q300:Type:=Di×Unit
abbrev q301:Type:=Int×Int
def q302 (r:q301):LV×List Ob:=(.agg [.int .i64 r.1,.int .i64 r.2],[])
def q303 (F:q300→Option q301):Go.Tx.Spec:=⟨25,q2zz,q301,F,q302⟩
abbrev q304:Type:=Unit
def q305 (_d:Nat):q304:=()
def q306 (C:q304):List Go.Tx.Spec:=[]
abbrev q307:Type:=Int
def q308 (v:q307):St:=⟨[(0,i6 v)],[]⟩
abbrev q309:Type:=Int×Int×Int
def q30a (v:q309):St:=⟨[(0,i6 v.1),(2,.ptr 0 0)],[.cells [i6 v.2.1,i6 v.2.2]]⟩
def q30b (C:q304) (v:q307):Dt q309:=(Dt.ret (v,(0:Int),(0:Int)))
abbrev q3ra {V Y:Type}:=@rg q304 V Y tysT (fun C=>(orc (q306 C))) 5
theorem q30c C v:q3ra (regO (qdk f25) 0) false (an [0,2]) q308 q30b q30a C v:=rgI (by kernel_rfl)
abbrev q30d:Type:=Int×Int
def q30e (v:q30d):St:=⟨[(2,.ptr 0 0)],[.cells [i6 v.1,i6 v.2]]⟩
def q30f (C:q304) (v:q309):Dt q30d:=(Dt.ret (v.1,(1:Int)))
theorem q30g C v:q3ra (regO (qdk f25) 1) false [(2,.any)] q30a q30f q30e C v:=rgI (by kernel_rfl)
def q30h (d:Nat) (x:q300):Option q301 :=
 (q30b (q305 d) x.1.1).eval fun y0 =>
 (q30f (q305 d) y0).eval fun y1 =>
 some y1
theorem q30i (d:Nat):COK prog (q303 (q30h d)):=by
 have hm:prog.follows .mixedOrders=true:=mixed
 have hT:=tys
 have hC0:OrcOK prog (orc (q306 (q305 d))):=qde (by
  intro S hS
  simp only [q306,List.mem_cons,List.not_mem_nil,or_false] at hS
  all_goals first | cases hS | exact hS.elim)
 have hC:OrcOK prog (orc (q306 (q305 d))):=hC0
 refine q93 (c:=qdk f25) (fn:=f25) hT (by kernel_rfl) (by kernel_rfl) (by decide) fun x r h w0 φ0 Q hend=>?_
 replace h:q30h d x=some r:=h
 unfold q30h at h
 show Run prog w0 φ0 5 (qdk f25) ⟨[(0,.int .i64 x.1.1)],[]⟩ Q
 refine q3pf hm hT hC (q30c (q305 d) x.1.1) h fun y0 h=>?_
 refine q3pf hm hT hC (q30g (q305 d) y0) h fun y1 h=>?_
 refine q8l ?_
 cases h
 exact (hend _ (by kernel_rfl)).2
abbrev q30j:List Pk:=[]
abbrev q30k:Type:=Unit
abbrev q30l:Type:=Bool
def q30m (r:q30l):LV×List Ob:=(.bool r,[])
def q30n (F:q30k→Option q30l):Go.Tx.Spec:=⟨23,q30j,q30l,F,q30m⟩
abbrev q30o:Type:=(q201→Option q202)×(q21d→Option q21e)×(q2ux→Option q2uy)×(q2ts→Option q2tt)×(q300→Option q301)×(q2d7→Option q2d8)×(q2zi→Option q2zj)×Unit
def q30p (d:Nat):q30o:=(q20m d,q243 d,q2vz d,q2uu d,q30h d,q2ee d,q2zx d,())
def q30q (C:q30o):List Go.Tx.Spec:=[q204 C.1,q21g C.2.1,q2v0 C.2.2.1,q2tv C.2.2.2.1,q303 C.2.2.2.2.1,q2da C.2.2.2.2.2.1,q2zl C.2.2.2.2.2.2.1]
abbrev q30r:Type:=Unit
def q30s (v:q30r):St:=⟨[],[]⟩
def q30t (C:q30o) (v:q30r):Dt q30r:=(Dt.ret ())
abbrev q3rb {V Y:Type}:=@rg q30o V Y tysT (fun C=>(orc (q30q C))) 113
theorem q30u C v:q3rb (regO (qdk f23) 0) false [] q30s q30t q30s C v:=rgI (by kernel_rfl)
abbrev q30v:Type:=List Diii
def q30w (v:q30v):St:=⟨[(1,.ptr 0 0)],[.cells [.fz Riii v]]⟩
def q30x (C:q30o) (v:q30r):Dt q30v:=(Dt.bnd (C.2.2.2.2.2.2.1 (())) fun r1=>(Dt.ret r1))
theorem q30y C v:q3rb (regO (qdk f23) 1) false [(1,(.box [.val Riii]))] q30s q30x q30w C v:=rgI (by kernel_rfl)
abbrev q30z:Type:=Int×List Diii×List Dii
def q310 (v:q30z):St:=⟨[(1,.ptr 0 0),(2,.rs 1),(3,i6 v.1)],[.cells [.fz Riii v.2.1],.rows Rii v.2.2]⟩
def q311 (C:q30o) (v:q30v):Dt q30z:=(Dt.bnd (C.2.2.2.2.1 (((0:Int),()),())) fun r1=>(Dt.bnd (C.1 ((v,()),(r1.1,r1.2,()),())) fun r2=>(Dt.ret (r2.2,v,r2.1))))
theorem q312 C v:q3rb (regO (qdk f23) 2) true [(1,(.box [.val Riii])),(2,(.own Rii)),(3,.any)] q30w q311 q310 C v:=rgI (by kernel_rfl)
abbrev q313:Type:=Int×List DLiE×Int×List Diii×List Dii
def q314 (v:q313):St:=⟨[(1,.ptr 0 0),(2,.rs 1),(3,i6 v.1),(4,.fz RLiE v.2.1),(5,i6 v.2.2.1)],[.cells [.fz Riii v.2.2.2.1],.rows Rii v.2.2.2.2]⟩
def q315 (C:q30o) (v:q30z):Dt q313:=(Dt.bnd (C.2.2.2.2.1 (((0:Int),()),())) fun r1=>(Dt.bnd (C.2.2.2.2.1 (((5:Int),()),())) fun r2=>(Dt.bnd (C.2.1 ((v.2.1,()),(r1.1,r1.2,()),(r2.1,r2.2,()),())) fun r3=>(Dt.ret (v.1,r3.1,r3.2,v.2.1,v.2.2)))))
theorem q316 C v:q3rb (regO (qdk f23) 3) true [(1,(.box [.val Riii])),(2,(.own Rii)),(3,.any),(4,(.val RLiE)),(5,.any)] q310 q315 q314 C v:=rgI (by kernel_rfl)
abbrev q317:Type:=Int×List DLiE×Int×List DLiE×Int×List Diii×List Dii
def q318 (v:q317):St:=⟨[(1,.ptr 0 0),(2,.rs 1),(3,i6 v.1),(4,.fz RLiE v.2.1),(5,i6 v.2.2.1),(6,.fz RLiE v.2.2.2.1),(7,i6 v.2.2.2.2.1)],[.cells [.fz Riii v.2.2.2.2.2.1],.rows Rii v.2.2.2.2.2.2]⟩
def q319 (C:q30o) (v:q313):Dt q317:=(Dt.bnd (C.2.2.2.2.1 (((0:Int),()),())) fun r1=>(Dt.bnd (C.2.2.2.2.1 (((6:Int),()),())) fun r2=>(Dt.bnd (C.2.1 ((v.2.2.2.1,()),(r1.1,r1.2,()),(r2.1,r2.2,()),())) fun r3=>(Dt.ret (v.1,v.2.1,v.2.2.1,r3.1,r3.2,v.2.2.2.1,v.2.2.2.2)))))
theorem q31a C v:q3rb (regO (qdk f23) 4) true [(1,(.box [.val Riii])),(2,(.own Rii)),(3,.any),(4,(.val RLiE)),(5,.any),(6,(.val RLiE)),(7,.any)] q314 q319 q318 C v:=rgI (by kernel_rfl)
abbrev q31b:Type:=Int×List DLiE×Int×List DLiE×Int×List DLiE×Int×List Diii×List Dii
def q31c (v:q31b):St:=⟨[(1,.ptr 0 0),(2,.rs 1),(3,i6 v.1),(4,.fz RLiE v.2.1),(5,i6 v.2.2.1),(6,.fz RLiE v.2.2.2.1),(7,i6 v.2.2.2.2.1),(8,.fz RLiE v.2.2.2.2.2.1),(9,i6 v.2.2.2.2.2.2.1)],[.cells [.fz Riii v.2.2.2.2.2.2.2.1],.rows Rii v.2.2.2.2.2.2.2.2]⟩
def q31d (C:q30o) (v:q317):Dt q31b:=(Dt.bnd (C.2.2.2.2.1 (((0:Int),()),())) fun r1=>(Dt.bnd (C.2.2.2.2.1 (((0:Int),()),())) fun r2=>(Dt.bnd (C.2.1 ((v.2.2.2.2.2.1,()),(r1.1,r1.2,()),(r2.1,r2.2,()),())) fun r3=>(Dt.ret (v.1,v.2.1,v.2.2.1,v.2.2.2.1,v.2.2.2.2.1,r3.1,r3.2,v.2.2.2.2.2.1,v.2.2.2.2.2.2)))))
theorem q31e C v:q3rb (regO (qdk f23) 5) true [(1,(.box [.val Riii])),(2,(.own Rii)),(3,.any),(4,(.val RLiE)),(5,.any),(6,(.val RLiE)),(7,.any),(8,(.val RLiE)),(9,.any)] q318 q31d q31c C v:=rgI (by kernel_rfl)
abbrev q31f:Type:=Int×List DLiE×Int×List DLiE×Int×List DLiE×Int×Int×List Diii×List Dii×Int×Int
def q31g (v:q31f):St:=⟨[(1,.ptr 0 0),(2,.rs 1),(3,i6 v.1),(4,.fz RLiE v.2.1),(5,i6 v.2.2.1),(6,.fz RLiE v.2.2.2.1),(7,i6 v.2.2.2.2.1),(8,.fz RLiE v.2.2.2.2.2.1),(9,i6 v.2.2.2.2.2.2.1),(10,.ptr 2 0),(11,i6 v.2.2.2.2.2.2.2.1)],[.cells [.fz Riii v.2.2.2.2.2.2.2.2.1],.rows Rii v.2.2.2.2.2.2.2.2.2.1,.cells [i6 v.2.2.2.2.2.2.2.2.2.2.1,i6 v.2.2.2.2.2.2.2.2.2.2.2]]⟩
def q31h (C:q30o) (v:q31b):Dt q31f:=(Dt.bnd (C.2.2.2.2.1 (((0:Int),()),())) fun r1=>(Dt.bnd (C.2.2.2.2.2.1 ((v.2.2.2.2.2.2.2.1,()),(r1.1,r1.2,()),((1:Int),()),())) fun r2=>(Dt.ret (v.1,v.2.1,v.2.2.1,v.2.2.2.1,v.2.2.2.2.1,v.2.2.2.2.2.1,v.2.2.2.2.2.2.1,r2.2.2,v.2.2.2.2.2.2.2.1,v.2.2.2.2.2.2.2.2,r2.1,r2.2.1))))
theorem q31i C v:q3rb (regO (qdk f23) 6) true [(1,(.box [.val Riii])),(2,(.own Rii)),(3,.any),(4,(.val RLiE)),(5,.any),(6,(.val RLiE)),(7,.any),(8,(.val RLiE)),(9,.any),(10,.any),(11,.any)] q31c q31h q31g C v:=rgI (by kernel_rfl)
abbrev q31j:Type:=Int×List DLiE×Int×List DLiE×Int×List DLiE×Int×Int×Int×List Dii×Int×Int×Int×Int
def q31k (v:q31j):St:=⟨[(2,.rs 0),(3,i6 v.1),(4,.fz RLiE v.2.1),(5,i6 v.2.2.1),(6,.fz RLiE v.2.2.2.1),(7,i6 v.2.2.2.2.1),(8,.fz RLiE v.2.2.2.2.2.1),(9,i6 v.2.2.2.2.2.2.1),(10,.ptr 1 0),(11,i6 v.2.2.2.2.2.2.2.1),(12,.ptr 2 0),(13,i6 v.2.2.2.2.2.2.2.2.1)],[.rows Rii v.2.2.2.2.2.2.2.2.2.1,.cells [i6 v.2.2.2.2.2.2.2.2.2.2.1,i6 v.2.2.2.2.2.2.2.2.2.2.2.1],.cells [i6 v.2.2.2.2.2.2.2.2.2.2.2.2.1,i6 v.2.2.2.2.2.2.2.2.2.2.2.2.2]]⟩
def q31l (C:q30o) (v:q31f):Dt q31j:=(Dt.bnd (C.2.2.2.2.1 (((0:Int),()),())) fun r1=>(Dt.bnd (C.2.2.2.2.2.1 ((v.2.2.2.2.2.2.2.2.1,()),(r1.1,r1.2,()),((2:Int),()),())) fun r2=>(Dt.ret (v.1,v.2.1,v.2.2.1,v.2.2.2.1,v.2.2.2.2.1,v.2.2.2.2.2.1,v.2.2.2.2.2.2.1,v.2.2.2.2.2.2.2.1,r2.2.2,v.2.2.2.2.2.2.2.2.2.1,v.2.2.2.2.2.2.2.2.2.2.1,v.2.2.2.2.2.2.2.2.2.2.2,r2.1,r2.2.1))))
theorem q31m C v:q3rb (regO (qdk f23) 7) true [(2,(.own Rii)),(3,.any),(4,(.val RLiE)),(5,.any),(6,(.val RLiE)),(7,.any),(8,(.val RLiE)),(9,.any),(10,.any),(11,.any),(12,.any),(13,.any)] q31g q31l q31k C v:=rgI (by kernel_rfl)
abbrev q31n:Type:=Int×List DLiE×Int×List DLiE×Int×List DLiE×Int×Int×Int×List Dii×Int×Int×Int×Int×List DLiE
def q31o (v:q31n):St:=⟨[(2,.rs 0),(3,i6 v.1),(4,.fz RLiE v.2.1),(5,i6 v.2.2.1),(6,.fz RLiE v.2.2.2.1),(7,i6 v.2.2.2.2.1),(8,.fz RLiE v.2.2.2.2.2.1),(9,i6 v.2.2.2.2.2.2.1),(10,.ptr 1 0),(11,i6 v.2.2.2.2.2.2.2.1),(12,.ptr 2 0),(13,i6 v.2.2.2.2.2.2.2.2.1),(14,.rs 3)],[.rows Rii v.2.2.2.2.2.2.2.2.2.1,.cells [i6 v.2.2.2.2.2.2.2.2.2.2.1,i6 v.2.2.2.2.2.2.2.2.2.2.2.1],.cells [i6 v.2.2.2.2.2.2.2.2.2.2.2.2.1,i6 v.2.2.2.2.2.2.2.2.2.2.2.2.2.1],.rows RLiE v.2.2.2.2.2.2.2.2.2.2.2.2.2.2]⟩
def q31p (C:q30o) (v:q31j):Dt q31n:=(Dt.ret (v.1,v.2.1,v.2.2.1,v.2.2.2.1,v.2.2.2.2.1,v.2.2.2.2.2.1,v.2.2.2.2.2.2.1,v.2.2.2.2.2.2.2.1,v.2.2.2.2.2.2.2.2.1,v.2.2.2.2.2.2.2.2.2.1,v.2.2.2.2.2.2.2.2.2.2.1,v.2.2.2.2.2.2.2.2.2.2.2.1,v.2.2.2.2.2.2.2.2.2.2.2.2.1,v.2.2.2.2.2.2.2.2.2.2.2.2.2,([(([((2:Int),())]:List Di),()),(([((1:Int),()),((5:Int),())]:List Di),())]:List DLiE)))
theorem q31q C v:q3rb (regO (qdk f23) 8) false [(2,(.own Rii)),(3,.any),(4,(.val RLiE)),(5,.any),(6,(.val RLiE)),(7,.any),(8,(.val RLiE)),(9,.any),(10,.any),(11,.any),(12,.any),(13,.any),(14,(.own RLiE))] q31k q31p q31o C v:=rgI (by kernel_rfl)
abbrev q31r:Type:=Bool
def q31s (v:q31r):St:=⟨[(0,.bool v)],[]⟩
def q31t (C:q30o) (v:q31n):Dt q31r:=(Dt.ite (v.1 == (0:Int)) (Dt.bnd (C.2.2.2.2.1 (((6:Int),()),())) fun r1=>(Dt.bnd (C.2.2.2.2.1 (((0:Int),()),())) fun r2=>(Dt.bnd (C.2.2.1 ((v.2.2.2.2.2.2.2.2.2.1,()),(([(r1.1,r1.2,()),(r2.1,r2.2,())]:List Dii),()),())) fun r3=>(Dt.ite r3 (Dt.ite (v.2.2.1 == (0:Int)) (Dt.bnd (C.2.2.2.1 ((v.2.1,()),(v.2.2.2.2.2.2.2.2.2.2.2.2.2.2,()),())) fun r4=>(Dt.ite r4 (Dt.ite (v.2.2.2.2.1 == (0:Int)) (Dt.bnd (C.2.2.2.1 ((v.2.2.2.1,()),(([(([((2:Int),()),((1:Int),()),((5:Int),())]:List Di),())]:List DLiE),()),())) fun r5=>(Dt.ite r5 (Dt.ite (v.2.2.2.2.2.2.1 == (0:Int)) (Dt.bnd (C.2.2.2.1 ((v.2.2.2.2.2.1,()),(v.2.2.2.2.2.2.2.2.2.2.2.2.2.2,()),())) fun r6=>(Dt.ite r6 (Dt.ite (v.2.2.2.2.2.2.2.1 == (0:Int)) (Dt.bnd (C.2.2.2.2.1 (((6:Int),()),())) fun r7=>(Dt.ite ((v.2.2.2.2.2.2.2.2.2.2.1 == r7.1)&&((v.2.2.2.2.2.2.2.2.2.2.2.1 == r7.2)&&true)) (Dt.ite (v.2.2.2.2.2.2.2.2.1 == (0:Int)) (Dt.bnd (C.2.2.2.2.1 (((0:Int),()),())) fun r8=>(Dt.ret ((v.2.2.2.2.2.2.2.2.2.2.2.2.1 == r8.1)&&((v.2.2.2.2.2.2.2.2.2.2.2.2.2.1 == r8.2)&&true)))) (Dt.ret false)) (Dt.ret false))) (Dt.ret false)) (Dt.ret false))) (Dt.ret false)) (Dt.ret false))) (Dt.ret false)) (Dt.ret false))) (Dt.ret false)) (Dt.ret false))))) (Dt.ret false))
theorem q31u C v:q3rb (regO (qdk f23) 9) true [(0,.any)] q31o q31t q31s C v:=rgI (by kernel_rfl)
def q31v (d:Nat) (x:q30k):Option q30l :=
 (q30t (q30p d) ()).eval fun y0 =>
 (q30x (q30p d) ()).eval fun y1 =>
 (q311 (q30p d) y1).eval fun y2 =>
 (q315 (q30p d) y2).eval fun y3 =>
 (q319 (q30p d) y3).eval fun y4 =>
 (q31d (q30p d) y4).eval fun y5 =>
 (q31h (q30p d) y5).eval fun y6 =>
 (q31l (q30p d) y6).eval fun y7 =>
 (q31p (q30p d) y7).eval fun y8 =>
 (q31t (q30p d) y8).eval fun y9 =>
 some y9
theorem q31w (d:Nat):COK prog (q30n (q31v d)):=by
 have hm:prog.follows .mixedOrders=true:=mixed
 have hT:=tys
 have hC0:OrcOK prog (orc (q30q (q30p d))):=qde (by
  intro S hS
  simp only [q30q,List.mem_cons,List.not_mem_nil,or_false] at hS
  rcases hS with rfl | rfl | rfl | rfl | rfl | rfl | rfl
  · exact q20n d
  · exact q244 d
  · exact q2w0 d
  · exact q2uv d
  · exact q30i d
  · exact q2ef d
  · exact q2zy d)
 have hC:OrcOK prog (orc (q30q (q30p d))):=hC0
 refine q93 (c:=qdk f23) (fn:=f23) hT (by kernel_rfl) (by kernel_rfl) (by decide) fun x r h w0 φ0 Q hend=>?_
 replace h:q31v d x=some r:=h
 unfold q31v at h
 show Run prog w0 φ0 113 (qdk f23) ⟨[],[]⟩ Q
 refine q3pf hm hT hC (q30u (q30p d) ()) h fun y0 h=>?_
 refine q3pf hm hT hC (q30y (q30p d) ()) h fun y1 h=>?_
 refine q3pf hm hT hC (q312 (q30p d) y1) h fun y2 h=>?_
 refine q3pf hm hT hC (q316 (q30p d) y2) h fun y3 h=>?_
 refine q3pf hm hT hC (q31a (q30p d) y3) h fun y4 h=>?_
 refine q3pf hm hT hC (q31e (q30p d) y4) h fun y5 h=>?_
 refine q3pf hm hT hC (q31i (q30p d) y5) h fun y6 h=>?_
 refine q3pf hm hT hC (q31m (q30p d) y6) h fun y7 h=>?_
 refine q3pf hm hT hC (q31q (q30p d) y7) h fun y8 h=>?_
 refine q3pf hm hT hC (q31u (q30p d) y8) h fun y9 h=>?_
 refine q8l ?_
 cases h
 exact (hend _ (by kernel_rfl)).2
abbrev q31x:List Pk:=[.row Rii true]
abbrev q31y:Type:=Dii×Unit
abbrev q31z:Type:=Int
def q320 (r:q31z):LV×List Ob:=(.int .i64 r,[])
def q321 (F:q31y→Option q31z):Go.Tx.Spec:=⟨41,q31x,q31z,F,q320⟩
abbrev q322:Type:=(qnh→Option qni)×Unit
def q323 (d:Nat):q322:=(qnm d,())
def q324 (C:q322):List Go.Tx.Spec:=[qnk C.1]
abbrev q325:Type:=Int×Int
def q326 (v:q325):St:=⟨[(0,.agg [i6 v.1,i6 v.2])],[]⟩
abbrev q327:Type:=Int×Int
def q328 (v:q327):St:=⟨[(1,.ptr 0 0)],[.cells [i6 v.1,i6 v.2]]⟩
def q329 (C:q322) (v:q325):Dt q327:=(Dt.ret (v.1,v.2))
abbrev q3rc {V Y:Type}:=@rg q322 V Y tysT (fun C=>(orc (q324 C))) 21
theorem q32a C v:q3rc (regO (qdk f41) 0) false [(1,.any)] q326 q329 q328 C v:=rgI (by kernel_rfl)
abbrev q32b:Type:=Bool×Int×Int
def q32c (v:q32b):St:=⟨[(1,.ptr 0 0),(5,.bool v.1)],[.cells [i6 v.2.1,i6 v.2.2]]⟩
def q32d (C:q322) (v:q327):Dt q32b:=(Dt.bnd (C.1 ((v.1,v.2,()),())) fun r1=>(Dt.ret ((r1 != (0:Int)),v.1,v.2)))
theorem q32e C v:q3rc (regO (qdk f41) 1) false (an [1,5]) q328 q32d q32c C v:=rgI (by kernel_rfl)
abbrev q32f:Type:=Int
def q32g (v:q32f):St:=⟨[(2,i6 v)],[]⟩
def q32h (C:q322) (v:q32b):Dt q32f:=(Dt.bnd (C.1 ((v.2.1,v.2.2,()),())) fun r1=>(Dt.ret r1))
theorem q32i C v:q3rc (regO (qdk f41) 2) false [(2,.any)] q32c q32h q32g C v:=rgI (by kernel_rfl)
abbrev q32j:Type:=Bool
def q32k (v:q32j):St:=⟨[(20,.bool v)],[]⟩
def q32l (C:q322) (v:q32b):Dt q32j:=(Dt.ite (decide (v.2.1 > (1073741824:Int))) (Dt.ret true) (Dt.ite (decide (v.2.1<(-1073741824:Int))) (Dt.ret true) (Dt.ret (decide (v.2.2 > (1024:Int))))))
theorem q32m C v:q3rc (regO (qdk f41) 3) false [(20,.any)] q32c q32l q32k C v:=rgI (by kernel_rfl)
def q32n (C:q322) (v:q32j):Dt q32f:=(Dt.ret (2:Int))
theorem q32o C v:q3rc (regO (qdk f41) 4) false [(2,.any)] q32k q32n q32g C v:=rgI (by kernel_rfl)
def q32p (C:q322) (v:q32j):Dt q32f:=(Dt.ret (0:Int))
theorem q32q C v:q3rc (regO (qdk f41) 5) false [(2,.any)] q32k q32p q32g C v:=rgI (by kernel_rfl)
def q32r (d:Nat) (x:q31y):Option q31z :=
 (q329 (q323 d) (x.1.1,x.1.2.1)).eval fun y0 =>
 (q32d (q323 d) y0).eval fun y1 =>
 bif y1.1 then ((q32h (q323 d) y1).eval fun y2 =>
 some y2) else ((q32l (q323 d) y1).eval fun y3 =>
 bif y3 then ((q32n (q323 d) y3).eval fun y4 =>
 some y4) else ((q32p (q323 d) y3).eval fun y5 =>
 some y5))
theorem q32s (d:Nat):COK prog (q321 (q32r d)):=by
 have hm:prog.follows .mixedOrders=true:=mixed
 have hT:=tys
 have hC0:OrcOK prog (orc (q324 (q323 d))):=qde (by
  intro S hS
  simp only [q324,List.mem_cons,List.not_mem_nil,or_false] at hS
  subst hS;exact qno d)
 have hC:OrcOK prog (orc (q324 (q323 d))):=hC0
 refine q93 (c:=qdk f41) (fn:=f41) hT (by kernel_rfl) (by kernel_rfl) (by decide) fun x r h w0 φ0 Q hend=>?_
 replace h:q32r d x=some r:=h
 unfold q32r at h
 show Run prog w0 φ0 21 (qdk f41) ⟨[(0,.agg [.int .i64 x.1.1,.int .i64 x.1.2.1])],[]⟩ Q
 refine q3pf hm hT hC (q32a (q323 d) (x.1.1,x.1.2.1)) h fun y0 h=>?_
 refine q8m ?_
 refine q3pf hm hT hC (q32e (q323 d) y0) h fun y1 h=>?_
 refine q8q (v:=y1.1) (by kernel_rfl) h ?_ ?_
 ·
  intro h
  refine q3pf hm hT hC (q32i (q323 d) y1) h fun y2 h=>?_
  refine q8l (q8a ?_)
  cases h
  exact (hend _ (by kernel_rfl)).2
 ·
  intro h
  refine q8i (q88 (q8m ?_))
  refine q3pf hm hT hC (q32m (q323 d) y1) h fun y3 h=>?_
  refine q8q (v:=y3) (by kernel_rfl) h ?_ ?_
  ·
   intro h
   refine q3pf hm hT hC (q32o (q323 d) y3) h fun y4 h=>?_
   refine q8l (q8a ?_)
   cases h
   exact (hend _ (by kernel_rfl)).2
  ·
   intro h
   refine q8i (q88 ?_)
   refine q3pf hm hT hC (q32q (q323 d) y3) h fun y5 h=>?_
   refine q8l ?_
   cases h
   exact (hend _ (by kernel_rfl)).2
abbrev q32t:List Pk:=[.row qjw true,.row Rii true,.row Rii true]
abbrev q32u:Type:=qjx×Dii×Dii×Unit
abbrev q32v:Type:=Bool
def q32w (r:q32v):LV×List Ob:=(.bool r,[])
def q32x (F:q32u→Option q32v):Go.Tx.Spec:=⟨24,q32t,q32v,F,q32w⟩
abbrev q32y:Type:=(q2w2→Option q2w3)×(qnh→Option qni)×(qv9→Option qva)×(q31y→Option q31z)×Unit
def q32z (d:Nat):q32y:=(q2wj d,qnm d,qve d,q32r d,())
def q330 (C:q32y):List Go.Tx.Spec:=[q2w5 C.1,qnk C.2.1,qvc C.2.2.1,q321 C.2.2.2.1]
abbrev q331:Type:=List Diii×Int×Int×Int×Int
def q332 (v:q331):St:=⟨[(0,.agg [.fz Riii v.1]),(1,.agg [i6 v.2.1,i6 v.2.2.1]),(2,.agg [i6 v.2.2.2.1,i6 v.2.2.2.2])],[]⟩
abbrev q333:Type:=List Diii×Int×Int×Int×Int
def q334 (v:q333):St:=⟨[(3,.ptr 0 0),(4,.ptr 1 0),(5,.ptr 2 0)],[.cells [.fz Riii v.1],.cells [i6 v.2.1,i6 v.2.2.1],.cells [i6 v.2.2.2.1,i6 v.2.2.2.2]]⟩
def q335 (C:q32y) (v:q331):Dt q333:=(Dt.ret (v.1,v.2.1,v.2.2.1,v.2.2.2.1,v.2.2.2.2))
abbrev q3rd {V Y:Type}:=@rg q32y V Y tysT (fun C=>(orc (q330 C))) 31
theorem q336 C v:q3rd (regO (qdk f24) 0) false [(3,(.box [.val Riii])),(4,.any),(5,.any)] q332 q335 q334 C v:=rgI (by kernel_rfl)
abbrev q337:Type:=Bool
def q338 (v:q337):St:=⟨[(6,.bool v)],[]⟩
def q339 (C:q32y) (v:q333):Dt q337:=(Dt.bnd (C.1 ((v.1,()),())) fun r1=>(Dt.ite (!r1) (Dt.bnd (C.2.2.1 ((v.1,()),(v.2.1,v.2.2.1,()),())) fun r2=>(Dt.ite (r2 == (0:Int)) (Dt.bnd (C.2.2.2.1 ((v.2.1,v.2.2.1,()),())) fun r3=>(Dt.ite (r3 == (0:Int)) (Dt.bnd (C.2.1 ((v.2.2.2.1,v.2.2.2.2,()),())) fun r4=>(Dt.ite (r4 == (0:Int)) (Dt.ret (decide (v.2.2.2.1≥(0:Int)))) (Dt.ret false))) (Dt.ret false))) (Dt.ret false))) (Dt.ret false)))
theorem q33a C v:q3rd (regO (qdk f24) 1) false [(6,.any)] q334 q339 q338 C v:=rgI (by kernel_rfl)
def q33b (d:Nat) (x:q32u):Option q32v :=
 (q335 (q32z d) (x.1.1,x.2.1.1,x.2.1.2.1,x.2.2.1.1,x.2.2.1.2.1)).eval fun y0 =>
 (q339 (q32z d) y0).eval fun y1 =>
 some y1
theorem q33c (d:Nat):COK prog (q32x (q33b d)):=by
 have hm:prog.follows .mixedOrders=true:=mixed
 have hT:=tys
 have hC0:OrcOK prog (orc (q330 (q32z d))):=qde (by
  intro S hS
  simp only [q330,List.mem_cons,List.not_mem_nil,or_false] at hS
  rcases hS with rfl | rfl | rfl | rfl
  · exact q2wk d
  · exact qno d
  · exact qvg d
  · exact q32s d)
 have hC:OrcOK prog (orc (q330 (q32z d))):=hC0
 refine q93 (c:=qdk f24) (fn:=f24) hT (by kernel_rfl) (by kernel_rfl) (by decide) fun x r h w0 φ0 Q hend=>?_
 replace h:q33b d x=some r:=h
 unfold q33b at h
 show Run prog w0 φ0 31 (qdk f24) ⟨[(0,.agg [.fz Riii x.1.1]),(1,.agg [.int .i64 x.2.1.1,.int .i64 x.2.1.2.1]),(2,.agg [.int .i64 x.2.2.1.1,.int .i64 x.2.2.1.2.1])],[]⟩ Q
 refine q3pf hm hT hC (q336 (q32z d) (x.1.1,x.2.1.1,x.2.1.2.1,x.2.2.1.1,x.2.2.1.2.1)) h fun y0 h=>?_
 refine q3pf hm hT hC (q33a (q32z d) y0) h fun y1 h=>?_
 refine q8l ?_
 cases h
 exact (hend _ (by kernel_rfl)).2
abbrev q33d:List Pk:=[.row qjw true,.row Rii true,.row Rii true]
abbrev q33e:Type:=qjx×Dii×Dii×Unit
abbrev q33f:Type:=Bool
def q33g (r:q33f):LV×List Ob:=(.bool r,[])
def q33h (F:q33e→Option q33f):Go.Tx.Spec:=⟨6,q33d,q33f,F,q33g⟩
abbrev q33i:Type:=(q21d→Option q21e)×(qur→Option qus)×(q30k→Option q30l)×(q32u→Option q32v)×(q29l→Option q29m)×(qvi→Option qvj)×Unit
def q33j (d:Nat):q33i:=(q243 d,quw d,q31v d,q33b d,q2aq d,qvn d,())
def q33k (C:q33i):List Go.Tx.Spec:=[q21g C.1,quu C.2.1,q30n C.2.2.1,q32x C.2.2.2.1,q29o C.2.2.2.2.1,qvl C.2.2.2.2.2.1]
abbrev q33l:Type:=List Diii×Int×Int×Int×Int
def q33m (v:q33l):St:=⟨[(0,.agg [.fz Riii v.1]),(1,.agg [i6 v.2.1,i6 v.2.2.1]),(2,.agg [i6 v.2.2.2.1,i6 v.2.2.2.2])],[]⟩
abbrev q33n:Type:=List Diii×Int×Int×Int×Int
def q33o (v:q33n):St:=⟨[(3,.ptr 0 0),(4,.ptr 1 0),(5,.ptr 2 0)],[.cells [.fz Riii v.1],.cells [i6 v.2.1,i6 v.2.2.1],.cells [i6 v.2.2.2.1,i6 v.2.2.2.2]]⟩
def q33p (C:q33i) (v:q33l):Dt q33n:=(Dt.ret (v.1,v.2.1,v.2.2.1,v.2.2.2.1,v.2.2.2.2))
abbrev q3re {V Y:Type}:=@rg q33i V Y tysT (fun C=>(orc (q33k C))) 170
theorem q33q C v:q3re (regO (qdk f6) 0) false [(3,(.box [.val Riii])),(4,.any),(5,.any)] q33m q33p q33o C v:=rgI (by kernel_rfl)
abbrev q33r:Type:=Bool×List Diii×Int×Int×Int×Int
def q33s (v:q33r):St:=⟨[(3,.ptr 0 0),(4,.ptr 1 0),(5,.ptr 2 0),(7,.bool v.1)],[.cells [.fz Riii v.2.1],.cells [i6 v.2.2.1,i6 v.2.2.2.1],.cells [i6 v.2.2.2.2.1,i6 v.2.2.2.2.2]]⟩
def q33t (C:q33i) (v:q33n):Dt q33r:=(Dt.bnd (C.2.2.1 (())) fun r1=>(Dt.ret (r1,v.1,v.2.1,v.2.2.1,v.2.2.2.1,v.2.2.2.2)))
theorem q33u C v:q3re (regO (qdk f6) 1) false [(3,(.box [.val Riii])),(4,.any),(5,.any),(7,.any)] q33o q33t q33s C v:=rgI (by kernel_rfl)
abbrev q33v:Type:=Bool×Bool×List Diii×Int×Int×Int×Int
def q33w (v:q33v):St:=⟨[(3,.ptr 0 0),(4,.ptr 1 0),(5,.ptr 2 0),(7,.bool v.1),(31,.bool v.2.1)],[.cells [.fz Riii v.2.2.1],.cells [i6 v.2.2.2.1,i6 v.2.2.2.2.1],.cells [i6 v.2.2.2.2.2.1,i6 v.2.2.2.2.2.2]]⟩
def q33x (C:q33i) (v:q33r):Dt q33v:=(Dt.bnd (C.2.2.2.1 ((v.2.1,()),(v.2.2.1,v.2.2.2.1,()),(v.2.2.2.2.1,v.2.2.2.2.2,()),())) fun r1=>(Dt.ite (!r1) (Dt.ret (v.1,true,v.2.1,v.2.2.1,v.2.2.2.1,v.2.2.2.2.1,v.2.2.2.2.2)) (Dt.ret (v.1,(!v.1),v.2.1,v.2.2.1,v.2.2.2.1,v.2.2.2.2.1,v.2.2.2.2.2))))
theorem q33y C v:q3re (regO (qdk f6) 2) false [(3,(.box [.val Riii])),(4,.any),(5,.any),(7,.any),(31,.any)] q33s q33x q33w C v:=rgI (by kernel_rfl)
abbrev q33z:Type:=Bool
def q340 (v:q33z):St:=⟨[(6,.bool v)],[]⟩
def q341 (C:q33i) (v:q33v):Dt q33z:=(Dt.ret v.1)
theorem q342 C v:q3re (regO (qdk f6) 3) false [(6,.any)] q33w q341 q340 C v:=rgI (by kernel_rfl)
abbrev q343:Type:=Bool×List DLiE×Int×List Diii×Int×Int×Int×Int
def q344 (v:q343):St:=⟨[(3,.ptr 0 0),(4,.ptr 1 0),(5,.ptr 2 0),(7,.bool v.1),(8,.fz RLiE v.2.1),(9,i6 v.2.2.1)],[.cells [.fz Riii v.2.2.2.1],.cells [i6 v.2.2.2.2.1,i6 v.2.2.2.2.2.1],.cells [i6 v.2.2.2.2.2.2.1,i6 v.2.2.2.2.2.2.2]]⟩
def q345 (C:q33i) (v:q33v):Dt q343:=(Dt.bnd (C.1 ((v.2.2.1,()),(v.2.2.2.1,v.2.2.2.2.1,()),(v.2.2.2.2.2.1,v.2.2.2.2.2.2,()),())) fun r1=>(Dt.ret (v.1,r1.1,r1.2,v.2.2.1,v.2.2.2.1,v.2.2.2.2.1,v.2.2.2.2.2.1,v.2.2.2.2.2.2)))
theorem q346 C v:q3re (regO (qdk f6) 4) false [(3,(.box [.val Riii])),(4,.any),(5,.any),(7,.any),(8,(.val RLiE)),(9,.any)] q33w q345 q344 C v:=rgI (by kernel_rfl)
abbrev q347:Type:=Bool×List DLiE×Int×Int×List Diii×Int×Int×Int×Int×List Di
def q348 (v:q347):St:=⟨[(3,.ptr 0 0),(4,.ptr 1 0),(5,.ptr 2 0),(7,.bool v.1),(8,.fz RLiE v.2.1),(9,i6 v.2.2.1),(10,.rs 3),(11,i6 v.2.2.2.1)],[.cells [.fz Riii v.2.2.2.2.1],.cells [i6 v.2.2.2.2.2.1,i6 v.2.2.2.2.2.2.1],.cells [i6 v.2.2.2.2.2.2.2.1,i6 v.2.2.2.2.2.2.2.2.1],.rows Ri v.2.2.2.2.2.2.2.2.2]⟩
def q349 (C:q33i) (v:q343):Dt q347:=(Dt.bnd (C.2.2.2.2.2.1 ((v.2.2.2.1,()),(v.2.2.2.2.1,v.2.2.2.2.2.1,()),())) fun r1=>(Dt.ret (v.1,v.2.1,v.2.2.1,r1.2,v.2.2.2.1,v.2.2.2.2.1,v.2.2.2.2.2.1,v.2.2.2.2.2.2.1,v.2.2.2.2.2.2.2,r1.1)))
theorem q34a C v:q3re (regO (qdk f6) 5) false [(3,(.box [.val Riii])),(4,.any),(5,.any),(7,.any),(8,(.val RLiE)),(9,.any),(10,(.own Ri)),(11,.any)] q344 q349 q348 C v:=rgI (by kernel_rfl)
abbrev q34b:Type:=Bool×List DLiE×Bool×List Diii×Int×Int×Int×Int×List Di
def q34c (v:q34b):St:=⟨[(3,.ptr 0 0),(4,.ptr 1 0),(5,.ptr 2 0),(7,.bool v.1),(8,.fz RLiE v.2.1),(10,.rs 3),(59,.bool v.2.2.1)],[.cells [.fz Riii v.2.2.2.1],.cells [i6 v.2.2.2.2.1,i6 v.2.2.2.2.2.1],.cells [i6 v.2.2.2.2.2.2.1,i6 v.2.2.2.2.2.2.2.1],.rows Ri v.2.2.2.2.2.2.2.2]⟩
def q34d (C:q33i) (v:q347):Dt q34b:=(Dt.ite (v.2.2.1 != (0:Int)) (Dt.ret (v.1,v.2.1,true,v.2.2.2.2.1,v.2.2.2.2.2.1,v.2.2.2.2.2.2.1,v.2.2.2.2.2.2.2.1,v.2.2.2.2.2.2.2.2.1,v.2.2.2.2.2.2.2.2.2)) (Dt.ite (v.2.2.2.1 != (0:Int)) (Dt.ret (v.1,v.2.1,true,v.2.2.2.2.1,v.2.2.2.2.2.1,v.2.2.2.2.2.2.1,v.2.2.2.2.2.2.2.1,v.2.2.2.2.2.2.2.2.1,v.2.2.2.2.2.2.2.2.2)) (Dt.ret (v.1,v.2.1,((List.length v.2.2.2.2.2.2.2.2.2:Int) != (List.length v.2.2.2.2.1:Int)),v.2.2.2.2.1,v.2.2.2.2.2.1,v.2.2.2.2.2.2.1,v.2.2.2.2.2.2.2.1,v.2.2.2.2.2.2.2.2.1,v.2.2.2.2.2.2.2.2.2))))
theorem q34e C v:q3re (regO (qdk f6) 6) false [(3,(.box [.val Riii])),(4,.any),(5,.any),(7,.any),(8,(.val RLiE)),(10,(.own Ri)),(59,.any)] q348 q34d q34c C v:=rgI (by kernel_rfl)
def q34f (C:q33i) (v:q34b):Dt q33z:=(Dt.ret false)
theorem q34g C v:q3re (regO (qdk f6) 7) false [(6,.any)] q34c q34f q340 C v:=rgI (by kernel_rfl)
abbrev q34h:Type:=Bool×List DLiE×List Diii×Int×Int×Int×Int×List Di×List Di×List Di
def q34i (v:q34h):St:=⟨[(3,.ptr 0 0),(4,.ptr 1 0),(5,.ptr 2 0),(7,.bool v.1),(8,.fz RLiE v.2.1),(10,.rs 3),(12,.rs 4),(13,.rs 5)],[.cells [.fz Riii v.2.2.1],.cells [i6 v.2.2.2.1,i6 v.2.2.2.2.1],.cells [i6 v.2.2.2.2.2.1,i6 v.2.2.2.2.2.2.1],.rows Ri v.2.2.2.2.2.2.2.1,.rows Ri v.2.2.2.2.2.2.2.2.1,.rows Ri v.2.2.2.2.2.2.2.2.2]⟩
def q34j (C:q33i) (v:q34b):Dt q34h:=(Dt.ret (v.1,v.2.1,v.2.2.2.1,v.2.2.2.2.1,v.2.2.2.2.2.1,v.2.2.2.2.2.2.1,v.2.2.2.2.2.2.2.1,v.2.2.2.2.2.2.2.2,([]:List Di),([]:List Di)))
theorem q34k C v:q3re (regO (qdk f6) 8) false [(3,(.box [.val Riii])),(4,.any),(5,.any),(7,.any),(8,(.val RLiE)),(10,(.own Ri)),(12,(.own Ri)),(13,(.own Ri))] q34c q34j q34i C v:=rgI (by kernel_rfl)
abbrev q34l:Type:=Bool×List DLiE×Int×List Diii×Int×Int×Int×Int×List Di×List Di×List Di
def q34m (v:q34l):St:=⟨[(3,.ptr 0 0),(4,.ptr 1 0),(5,.ptr 2 0),(7,.bool v.1),(8,.fz RLiE v.2.1),(10,.rs 3),(12,.rs 4),(13,.rs 5),(14,i6 v.2.2.1)],[.cells [.fz Riii v.2.2.2.1],.cells [i6 v.2.2.2.2.1,i6 v.2.2.2.2.2.1],.cells [i6 v.2.2.2.2.2.2.1,i6 v.2.2.2.2.2.2.2.1],.rows Ri v.2.2.2.2.2.2.2.2.1,.rows Ri v.2.2.2.2.2.2.2.2.2.1,.rows Ri v.2.2.2.2.2.2.2.2.2.2]⟩
def q34n (C:q33i) (v:q34h):Dt q34l:=(Dt.ret (v.1,v.2.1,(0:Int),v.2.2.1,v.2.2.2.1,v.2.2.2.2.1,v.2.2.2.2.2.1,v.2.2.2.2.2.2.1,v.2.2.2.2.2.2.2.1,v.2.2.2.2.2.2.2.2.1,v.2.2.2.2.2.2.2.2.2))
theorem q34o C v:q3re (regO (qdk f6) 9) false [(3,(.box [.val Riii])),(4,.any),(5,.any),(7,.any),(8,(.val RLiE)),(10,(.own Ri)),(12,(.own Ri)),(13,(.own Ri)),(14,.any)] q34i q34n q34m C v:=rgI (by kernel_rfl)
abbrev q34p:Type:=Bool×List DLiE×Int×Bool×List Diii×Int×Int×Int×Int×List Di×List Di×List Di
def q34q (v:q34p):St:=⟨[(3,.ptr 0 0),(4,.ptr 1 0),(5,.ptr 2 0),(7,.bool v.1),(8,.fz RLiE v.2.1),(10,.rs 3),(12,.rs 4),(13,.rs 5),(14,i6 v.2.2.1),(63,.bool v.2.2.2.1)],[.cells [.fz Riii v.2.2.2.2.1],.cells [i6 v.2.2.2.2.2.1,i6 v.2.2.2.2.2.2.1],.cells [i6 v.2.2.2.2.2.2.2.1,i6 v.2.2.2.2.2.2.2.2.1],.rows Ri v.2.2.2.2.2.2.2.2.2.1,.rows Ri v.2.2.2.2.2.2.2.2.2.2.1,.rows Ri v.2.2.2.2.2.2.2.2.2.2.2]⟩
def q34r (C:q33i) (v:q34l):Dt q34p:=(Dt.ret (v.1,v.2.1,v.2.2.1,(decide (v.2.2.1<(List.length v.2.1:Int))),v.2.2.2.1,v.2.2.2.2.1,v.2.2.2.2.2.1,v.2.2.2.2.2.2.1,v.2.2.2.2.2.2.2.1,v.2.2.2.2.2.2.2.2.1,v.2.2.2.2.2.2.2.2.2.1,v.2.2.2.2.2.2.2.2.2.2))
theorem q34s C v:q3re (regO (qdk f6) 10) false [(3,(.box [.val Riii])),(4,.any),(5,.any),(7,.any),(8,(.val RLiE)),(10,(.own Ri)),(12,(.own Ri)),(13,(.own Ri)),(14,.any),(63,.any)] q34m q34r q34q C v:=rgI (by kernel_rfl)
abbrev q34t:Type:=Bool×List DLiE×Int×Bool×List Diii×Int×Int×Int×Int×List Di×List Di×List Di
def q34u (v:q34t):St:=⟨[(3,.ptr 0 0),(4,.ptr 1 0),(5,.ptr 2 0),(7,.bool v.1),(8,.fz RLiE v.2.1),(10,.rs 3),(12,.rs 4),(13,.rs 5),(14,i6 v.2.2.1),(71,.bool v.2.2.2.1)],[.cells [.fz Riii v.2.2.2.2.1],.cells [i6 v.2.2.2.2.2.1,i6 v.2.2.2.2.2.2.1],.cells [i6 v.2.2.2.2.2.2.2.1,i6 v.2.2.2.2.2.2.2.2.1],.rows Ri v.2.2.2.2.2.2.2.2.2.1,.rows Ri v.2.2.2.2.2.2.2.2.2.2.1,.rows Ri v.2.2.2.2.2.2.2.2.2.2.2]⟩
def q34v (C:q33i) (v:q34p):Dt q34t:=(Dt.ite (inB v.2.2.1 (List.length v.2.1)) (Dt.ret (v.1,v.2.1,v.2.2.1,((List.length (elt zLiE v.2.1 (v.2.2.1).toNat).1:Int) == (0:Int)),v.2.2.2.2.1,v.2.2.2.2.2.1,v.2.2.2.2.2.2.1,v.2.2.2.2.2.2.2.1,v.2.2.2.2.2.2.2.2.1,v.2.2.2.2.2.2.2.2.2.1,v.2.2.2.2.2.2.2.2.2.2.1,v.2.2.2.2.2.2.2.2.2.2.2)) Dt.fail)
theorem q34w C v:q3re (regO (qdk f6) 12) false [(3,(.box [.val Riii])),(4,.any),(5,.any),(7,.any),(8,(.val RLiE)),(10,(.own Ri)),(12,(.own Ri)),(13,(.own Ri)),(14,.any),(71,.any)] q34q q34v q34u C v:=rgI (by kernel_rfl)
def q34x (C:q33i) (v:q34t):Dt q33z:=(Dt.ret false)
theorem q34y C v:q3re (regO (qdk f6) 13) false [(6,.any)] q34u q34x q340 C v:=rgI (by kernel_rfl)
abbrev q34z:Type:=Bool×List DLiE×Int×Int×List Diii×Int×Int×Int×Int×List Di×List Di×List Di
def q350 (v:q34z):St:=⟨[(3,.ptr 0 0),(4,.ptr 1 0),(5,.ptr 2 0),(7,.bool v.1),(8,.fz RLiE v.2.1),(10,.rs 3),(12,.rs 4),(13,.rs 5),(14,i6 v.2.2.1),(15,i6 v.2.2.2.1)],[.cells [.fz Riii v.2.2.2.2.1],.cells [i6 v.2.2.2.2.2.1,i6 v.2.2.2.2.2.2.1],.cells [i6 v.2.2.2.2.2.2.2.1,i6 v.2.2.2.2.2.2.2.2.1],.rows Ri v.2.2.2.2.2.2.2.2.2.1,.rows Ri v.2.2.2.2.2.2.2.2.2.2.1,.rows Ri v.2.2.2.2.2.2.2.2.2.2.2]⟩
def q351 (C:q33i) (v:q34t):Dt q34z:=(Dt.ret (v.1,v.2.1,v.2.2.1,(0:Int),v.2.2.2.2.1,v.2.2.2.2.2.1,v.2.2.2.2.2.2.1,v.2.2.2.2.2.2.2.1,v.2.2.2.2.2.2.2.2.1,v.2.2.2.2.2.2.2.2.2.1,v.2.2.2.2.2.2.2.2.2.2.1,v.2.2.2.2.2.2.2.2.2.2.2))
theorem q352 C v:q3re (regO (qdk f6) 14) false [(3,(.box [.val Riii])),(4,.any),(5,.any),(7,.any),(8,(.val RLiE)),(10,(.own Ri)),(12,(.own Ri)),(13,(.own Ri)),(14,.any),(15,.any)] q34u q351 q350 C v:=rgI (by kernel_rfl)
abbrev q353:Type:=Bool×List DLiE×Int×Int×Bool×List Diii×Int×Int×Int×Int×List Di×List Di×List Di
def q354 (v:q353):St:=⟨[(3,.ptr 0 0),(4,.ptr 1 0),(5,.ptr 2 0),(7,.bool v.1),(8,.fz RLiE v.2.1),(10,.rs 3),(12,.rs 4),(13,.rs 5),(14,i6 v.2.2.1),(15,i6 v.2.2.2.1),(78,.bool v.2.2.2.2.1)],[.cells [.fz Riii v.2.2.2.2.2.1],.cells [i6 v.2.2.2.2.2.2.1,i6 v.2.2.2.2.2.2.2.1],.cells [i6 v.2.2.2.2.2.2.2.2.1,i6 v.2.2.2.2.2.2.2.2.2.1],.rows Ri v.2.2.2.2.2.2.2.2.2.2.1,.rows Ri v.2.2.2.2.2.2.2.2.2.2.2.1,.rows Ri v.2.2.2.2.2.2.2.2.2.2.2.2]⟩
def q355 (C:q33i) (v:q34z):Dt q353:=(Dt.ite (inB v.2.2.1 (List.length v.2.1)) (Dt.ret (v.1,v.2.1,v.2.2.1,v.2.2.2.1,(decide (v.2.2.2.1<(List.length (elt zLiE v.2.1 (v.2.2.1).toNat).1:Int))),v.2.2.2.2.1,v.2.2.2.2.2.1,v.2.2.2.2.2.2.1,v.2.2.2.2.2.2.2.1,v.2.2.2.2.2.2.2.2.1,v.2.2.2.2.2.2.2.2.2.1,v.2.2.2.2.2.2.2.2.2.2.1,v.2.2.2.2.2.2.2.2.2.2.2)) Dt.fail)
theorem q356 C v:q3re (regO (qdk f6) 15) false [(3,(.box [.val Riii])),(4,.any),(5,.any),(7,.any),(8,(.val RLiE)),(10,(.own Ri)),(12,(.own Ri)),(13,(.own Ri)),(14,.any),(15,.any),(78,.any)] q350 q355 q354 C v:=rgI (by kernel_rfl)
def q357 (C:q33i) (v:q353):Dt q34z:=(Dt.ite (inB v.2.2.1 (List.length v.2.1)) (Dt.ite (inB v.2.2.2.1 (List.length (elt zLiE v.2.1 (v.2.2.1).toNat).1)) (Dt.ite (apB (List.length v.2.2.2.2.2.2.2.2.2.2.2.1) (List.length ([((elt zi (elt zLiE v.2.1 (v.2.2.1).toNat).1 (v.2.2.2.1).toNat).1,())]:List Di))) (Dt.ite (apB (List.length v.2.2.2.2.2.2.2.2.2.2.2.2) (List.length ([(v.2.2.1,())]:List Di))) (Dt.ret (v.1,v.2.1,v.2.2.1,v.2.2.2.1,v.2.2.2.2.2.1,v.2.2.2.2.2.2.1,v.2.2.2.2.2.2.2.1,v.2.2.2.2.2.2.2.2.1,v.2.2.2.2.2.2.2.2.2.1,v.2.2.2.2.2.2.2.2.2.2.1,(v.2.2.2.2.2.2.2.2.2.2.2.1++([((elt zi (elt zLiE v.2.1 (v.2.2.1).toNat).1 (v.2.2.2.1).toNat).1,())]:List Di)),(v.2.2.2.2.2.2.2.2.2.2.2.2++([(v.2.2.1,())]:List Di)))) Dt.fail) Dt.fail) Dt.fail) Dt.fail)
theorem q358 C v:q3re (regO (qdk f6) 17) false [(3,(.box [.val Riii])),(4,.any),(5,.any),(7,.any),(8,(.val RLiE)),(10,(.own Ri)),(12,(.own Ri)),(13,(.own Ri)),(14,.any),(15,.any)] q354 q357 q350 C v:=rgI (by kernel_rfl)
def q359 (C:q33i) (v:q34z):Dt q34z:=(Dt.ret (v.1,v.2.1,v.2.2.1,(IntKind.wrap .i64 (v.2.2.2.1+(1:Int))),v.2.2.2.2.1,v.2.2.2.2.2.1,v.2.2.2.2.2.2.1,v.2.2.2.2.2.2.2.1,v.2.2.2.2.2.2.2.2.1,v.2.2.2.2.2.2.2.2.2.1,v.2.2.2.2.2.2.2.2.2.2.1,v.2.2.2.2.2.2.2.2.2.2.2))
theorem q35a C v:q3re (regO (qdk f6) 16) false [(3,(.box [.val Riii])),(4,.any),(5,.any),(7,.any),(8,(.val RLiE)),(10,(.own Ri)),(12,(.own Ri)),(13,(.own Ri)),(14,.any),(15,.any)] q350 q359 q350 C v:=rgI (by kernel_rfl)
def q35b (C:q33i) (v:q353):Dt q34l:=(Dt.ret (v.1,v.2.1,(IntKind.wrap .i64 (v.2.2.1+(1:Int))),v.2.2.2.2.2.1,v.2.2.2.2.2.2.1,v.2.2.2.2.2.2.2.1,v.2.2.2.2.2.2.2.2.1,v.2.2.2.2.2.2.2.2.2.1,v.2.2.2.2.2.2.2.2.2.2.1,v.2.2.2.2.2.2.2.2.2.2.2.1,v.2.2.2.2.2.2.2.2.2.2.2.2))
theorem q35c C v:q3re (regO (qdk f6) 11) false [(3,(.box [.val Riii])),(4,.any),(5,.any),(7,.any),(8,(.val RLiE)),(10,(.own Ri)),(12,(.own Ri)),(13,(.own Ri)),(14,.any)] q354 q35b q34m C v:=rgI (by kernel_rfl)
def q35d (d:Nat) (self1:(Bool×List DLiE×Int×List Diii×Int×Int×Int×Int×List Di×List Di×List Di)→Option q33f) (self2:(Bool×List DLiE×Int×Int×List Diii×Int×Int×Int×Int×List Di×List Di×List Di)→Option q33f) (x2:Bool×List DLiE×Int×Int×List Diii×Int×Int×Int×Int×List Di×List Di×List Di):Option q33f :=
 (q355 (q33j d) x2).eval fun y15 =>
 bif y15.2.2.2.2.1 then ((q357 (q33j d) y15).eval fun y17 =>
 (q359 (q33j d) y17).eval fun y16 =>
 self2 y16) else ((q35b (q33j d) y15).eval fun y11 =>
 self1 y11)
abbrev q35e:Type:=Bool×Bool×List Diii×Int×Int×Int×Int×List Di×List Di
def q35f (v:q35e):St:=⟨[(3,.ptr 0 0),(4,.ptr 1 0),(5,.ptr 2 0),(7,.bool v.1),(12,.rs 3),(13,.rs 4),(98,.bool v.2.1)],[.cells [.fz Riii v.2.2.1],.cells [i6 v.2.2.2.1,i6 v.2.2.2.2.1],.cells [i6 v.2.2.2.2.2.1,i6 v.2.2.2.2.2.2.1],.rows Ri v.2.2.2.2.2.2.2.1,.rows Ri v.2.2.2.2.2.2.2.2]⟩
def q35g (C:q33i) (v:q34p):Dt q35e:=(Dt.bnd (C.2.1 ((v.2.2.2.2.2.2.2.2.2.2.1,()),(v.2.2.2.2.2.2.2.2.2.1,()),())) fun r1=>(Dt.ret (v.1,(!r1),v.2.2.2.2.1,v.2.2.2.2.2.1,v.2.2.2.2.2.2.1,v.2.2.2.2.2.2.2.1,v.2.2.2.2.2.2.2.2.1,v.2.2.2.2.2.2.2.2.2.2.1,v.2.2.2.2.2.2.2.2.2.2.2)))
theorem q35h C v:q3re (regO (qdk f6) 18) false [(3,(.box [.val Riii])),(4,.any),(5,.any),(7,.any),(12,(.own Ri)),(13,(.own Ri)),(98,.any)] q34q q35g q35f C v:=rgI (by kernel_rfl)
def q35i (C:q33i) (v:q35e):Dt q33z:=(Dt.ret false)
theorem q35j C v:q3re (regO (qdk f6) 19) false [(6,.any)] q35f q35i q340 C v:=rgI (by kernel_rfl)
abbrev q35k:Type:=Bool×Int×List Diii×Int×Int×Int×Int×List Di×List Di
def q35l (v:q35k):St:=⟨[(3,.ptr 0 0),(4,.ptr 1 0),(5,.ptr 2 0),(7,.bool v.1),(12,.rs 3),(13,.rs 4),(16,i6 v.2.1)],[.cells [.fz Riii v.2.2.1],.cells [i6 v.2.2.2.1,i6 v.2.2.2.2.1],.cells [i6 v.2.2.2.2.2.1,i6 v.2.2.2.2.2.2.1],.rows Ri v.2.2.2.2.2.2.2.1,.rows Ri v.2.2.2.2.2.2.2.2]⟩
def q35m (C:q33i) (v:q35e):Dt q35k:=(Dt.ret (v.1,(0:Int),v.2.2.1,v.2.2.2.1,v.2.2.2.2.1,v.2.2.2.2.2.1,v.2.2.2.2.2.2.1,v.2.2.2.2.2.2.2.1,v.2.2.2.2.2.2.2.2))
theorem q35n C v:q3re (regO (qdk f6) 20) false [(3,(.box [.val Riii])),(4,.any),(5,.any),(7,.any),(12,(.own Ri)),(13,(.own Ri)),(16,.any)] q35f q35m q35l C v:=rgI (by kernel_rfl)
abbrev q35o:Type:=Bool×Int×Bool×List Diii×Int×Int×Int×Int×List Di×List Di
def q35p (v:q35o):St:=⟨[(3,.ptr 0 0),(4,.ptr 1 0),(5,.ptr 2 0),(7,.bool v.1),(12,.rs 3),(13,.rs 4),(16,i6 v.2.1),(102,.bool v.2.2.1)],[.cells [.fz Riii v.2.2.2.1],.cells [i6 v.2.2.2.2.1,i6 v.2.2.2.2.2.1],.cells [i6 v.2.2.2.2.2.2.1,i6 v.2.2.2.2.2.2.2.1],.rows Ri v.2.2.2.2.2.2.2.2.1,.rows Ri v.2.2.2.2.2.2.2.2.2]⟩
def q35q (C:q33i) (v:q35k):Dt q35o:=(Dt.ret (v.1,v.2.1,(decide (v.2.1<(List.length v.2.2.2.2.2.2.2.1:Int))),v.2.2.1,v.2.2.2.1,v.2.2.2.2.1,v.2.2.2.2.2.1,v.2.2.2.2.2.2.1,v.2.2.2.2.2.2.2.1,v.2.2.2.2.2.2.2.2))
theorem q35r C v:q3re (regO (qdk f6) 21) false [(3,(.box [.val Riii])),(4,.any),(5,.any),(7,.any),(12,(.own Ri)),(13,(.own Ri)),(16,.any),(102,.any)] q35l q35q q35p C v:=rgI (by kernel_rfl)
abbrev q35s:Type:=Bool×Int×Int×List Diii×Int×Int×Int×Int×List Di×List Di
def q35t (v:q35s):St:=⟨[(3,.ptr 0 0),(4,.ptr 1 0),(5,.ptr 2 0),(7,.bool v.1),(12,.rs 3),(13,.rs 4),(16,i6 v.2.1),(17,i6 v.2.2.1)],[.cells [.fz Riii v.2.2.2.1],.cells [i6 v.2.2.2.2.1,i6 v.2.2.2.2.2.1],.cells [i6 v.2.2.2.2.2.2.1,i6 v.2.2.2.2.2.2.2.1],.rows Ri v.2.2.2.2.2.2.2.2.1,.rows Ri v.2.2.2.2.2.2.2.2.2]⟩
def q35u (C:q33i) (v:q35o):Dt q35s:=(Dt.ret (v.1,v.2.1,(0:Int),v.2.2.2.1,v.2.2.2.2.1,v.2.2.2.2.2.1,v.2.2.2.2.2.2.1,v.2.2.2.2.2.2.2.1,v.2.2.2.2.2.2.2.2.1,v.2.2.2.2.2.2.2.2.2))
theorem q35v C v:q3re (regO (qdk f6) 23) false [(3,(.box [.val Riii])),(4,.any),(5,.any),(7,.any),(12,(.own Ri)),(13,(.own Ri)),(16,.any),(17,.any)] q35p q35u q35t C v:=rgI (by kernel_rfl)
abbrev q35w:Type:=Bool×Int×Int×Bool×List Diii×Int×Int×Int×Int×List Di×List Di
def q35x (v:q35w):St:=⟨[(3,.ptr 0 0),(4,.ptr 1 0),(5,.ptr 2 0),(7,.bool v.1),(12,.rs 3),(13,.rs 4),(16,i6 v.2.1),(17,i6 v.2.2.1),(108,.bool v.2.2.2.1)],[.cells [.fz Riii v.2.2.2.2.1],.cells [i6 v.2.2.2.2.2.1,i6 v.2.2.2.2.2.2.1],.cells [i6 v.2.2.2.2.2.2.2.1,i6 v.2.2.2.2.2.2.2.2.1],.rows Ri v.2.2.2.2.2.2.2.2.2.1,.rows Ri v.2.2.2.2.2.2.2.2.2.2]⟩
def q35y (C:q33i) (v:q35s):Dt q35w:=(Dt.ret (v.1,v.2.1,v.2.2.1,(decide (v.2.2.1<(List.length v.2.2.2.2.2.2.2.2.1:Int))),v.2.2.2.1,v.2.2.2.2.1,v.2.2.2.2.2.1,v.2.2.2.2.2.2.1,v.2.2.2.2.2.2.2.1,v.2.2.2.2.2.2.2.2.1,v.2.2.2.2.2.2.2.2.2))
theorem q35z C v:q3re (regO (qdk f6) 24) false [(3,(.box [.val Riii])),(4,.any),(5,.any),(7,.any),(12,(.own Ri)),(13,(.own Ri)),(16,.any),(17,.any),(108,.any)] q35t q35y q35x C v:=rgI (by kernel_rfl)
abbrev q360:Type:=Bool×Int×Int×Bool×Int×List Diii×Int×Int×Int×Int×List Di×List Di
def q361 (v:q360):St:=⟨[(3,.ptr 0 0),(4,.ptr 1 0),(5,.ptr 2 0),(7,.bool v.1),(12,.rs 3),(13,.rs 4),(16,i6 v.2.1),(17,i6 v.2.2.1),(18,.bool v.2.2.2.1),(19,i6 v.2.2.2.2.1)],[.cells [.fz Riii v.2.2.2.2.2.1],.cells [i6 v.2.2.2.2.2.2.1,i6 v.2.2.2.2.2.2.2.1],.cells [i6 v.2.2.2.2.2.2.2.2.1,i6 v.2.2.2.2.2.2.2.2.2.1],.rows Ri v.2.2.2.2.2.2.2.2.2.2.1,.rows Ri v.2.2.2.2.2.2.2.2.2.2.2]⟩
def q362 (C:q33i) (v:q35w):Dt q360:=(Dt.ite (inB v.2.1 (List.length v.2.2.2.2.2.2.2.2.2.1)) (Dt.ite (inB v.2.2.1 (List.length v.2.2.2.2.2.2.2.2.2.1)) (Dt.bnd (C.2.2.2.2.1 ((v.2.2.2.2.1,()),(v.2.2.2.2.2.1,v.2.2.2.2.2.2.1,()),(v.2.2.2.2.2.2.2.1,v.2.2.2.2.2.2.2.2.1,()),((elt zi v.2.2.2.2.2.2.2.2.2.1 (v.2.1).toNat).1,()),((elt zi v.2.2.2.2.2.2.2.2.2.1 (v.2.2.1).toNat).1,()),())) fun r1=>(Dt.ret (v.1,v.2.1,v.2.2.1,r1.1,r1.2,v.2.2.2.2.1,v.2.2.2.2.2.1,v.2.2.2.2.2.2.1,v.2.2.2.2.2.2.2.1,v.2.2.2.2.2.2.2.2.1,v.2.2.2.2.2.2.2.2.2.1,v.2.2.2.2.2.2.2.2.2.2))) Dt.fail) Dt.fail)
theorem q363 C v:q3re (regO (qdk f6) 26) true [(3,(.box [.val Riii])),(4,.any),(5,.any),(7,.any),(12,(.own Ri)),(13,(.own Ri)),(16,.any),(17,.any),(18,.any),(19,.any)] q35x q362 q361 C v:=rgI (by kernel_rfl)
abbrev q364:Type:=Bool×Int×Int×Bool×Int×Bool×Int×List Diii×Int×Int×Int×Int×List Di×List Di
def q365 (v:q364):St:=⟨[(3,.ptr 0 0),(4,.ptr 1 0),(5,.ptr 2 0),(7,.bool v.1),(12,.rs 3),(13,.rs 4),(16,i6 v.2.1),(17,i6 v.2.2.1),(18,.bool v.2.2.2.1),(19,i6 v.2.2.2.2.1),(20,.bool v.2.2.2.2.2.1),(21,i6 v.2.2.2.2.2.2.1)],[.cells [.fz Riii v.2.2.2.2.2.2.2.1],.cells [i6 v.2.2.2.2.2.2.2.2.1,i6 v.2.2.2.2.2.2.2.2.2.1],.cells [i6 v.2.2.2.2.2.2.2.2.2.2.1,i6 v.2.2.2.2.2.2.2.2.2.2.2.1],.rows Ri v.2.2.2.2.2.2.2.2.2.2.2.2.1,.rows Ri v.2.2.2.2.2.2.2.2.2.2.2.2.2]⟩
def q366 (C:q33i) (v:q360):Dt q364:=(Dt.ite (inB v.2.2.1 (List.length v.2.2.2.2.2.2.2.2.2.2.1)) (Dt.ite (inB v.2.1 (List.length v.2.2.2.2.2.2.2.2.2.2.1)) (Dt.bnd (C.2.2.2.2.1 ((v.2.2.2.2.2.1,()),(v.2.2.2.2.2.2.1,v.2.2.2.2.2.2.2.1,()),(v.2.2.2.2.2.2.2.2.1,v.2.2.2.2.2.2.2.2.2.1,()),((elt zi v.2.2.2.2.2.2.2.2.2.2.1 (v.2.2.1).toNat).1,()),((elt zi v.2.2.2.2.2.2.2.2.2.2.1 (v.2.1).toNat).1,()),())) fun r1=>(Dt.ret (v.1,v.2.1,v.2.2.1,v.2.2.2.1,v.2.2.2.2.1,r1.1,r1.2,v.2.2.2.2.2.1,v.2.2.2.2.2.2.1,v.2.2.2.2.2.2.2.1,v.2.2.2.2.2.2.2.2.1,v.2.2.2.2.2.2.2.2.2.1,v.2.2.2.2.2.2.2.2.2.2.1,v.2.2.2.2.2.2.2.2.2.2.2))) Dt.fail) Dt.fail)
theorem q367 C v:q3re (regO (qdk f6) 27) true [(3,(.box [.val Riii])),(4,.any),(5,.any),(7,.any),(12,(.own Ri)),(13,(.own Ri)),(16,.any),(17,.any),(18,.any),(19,.any),(20,.any),(21,.any)] q361 q366 q365 C v:=rgI (by kernel_rfl)
abbrev q368:Type:=Bool×Int×Int×Bool×List Diii×Int×Int×Int×Int×List Di×List Di
def q369 (v:q368):St:=⟨[(3,.ptr 0 0),(4,.ptr 1 0),(5,.ptr 2 0),(7,.bool v.1),(12,.rs 3),(13,.rs 4),(16,i6 v.2.1),(17,i6 v.2.2.1),(168,.bool v.2.2.2.1)],[.cells [.fz Riii v.2.2.2.2.1],.cells [i6 v.2.2.2.2.2.1,i6 v.2.2.2.2.2.2.1],.cells [i6 v.2.2.2.2.2.2.2.1,i6 v.2.2.2.2.2.2.2.2.1],.rows Ri v.2.2.2.2.2.2.2.2.2.1,.rows Ri v.2.2.2.2.2.2.2.2.2.2]⟩
def q36a (C:q33i) (v:q364):Dt q368:=(Dt.ite (v.2.2.2.2.1 != (0:Int)) (Dt.ret (v.1,v.2.1,v.2.2.1,true,v.2.2.2.2.2.2.2.1,v.2.2.2.2.2.2.2.2.1,v.2.2.2.2.2.2.2.2.2.1,v.2.2.2.2.2.2.2.2.2.2.1,v.2.2.2.2.2.2.2.2.2.2.2.1,v.2.2.2.2.2.2.2.2.2.2.2.2.1,v.2.2.2.2.2.2.2.2.2.2.2.2.2)) (Dt.ite (v.2.2.2.2.2.2.1 != (0:Int)) (Dt.ret (v.1,v.2.1,v.2.2.1,true,v.2.2.2.2.2.2.2.1,v.2.2.2.2.2.2.2.2.1,v.2.2.2.2.2.2.2.2.2.1,v.2.2.2.2.2.2.2.2.2.2.1,v.2.2.2.2.2.2.2.2.2.2.2.1,v.2.2.2.2.2.2.2.2.2.2.2.2.1,v.2.2.2.2.2.2.2.2.2.2.2.2.2)) (Dt.ite (!(v.2.2.2.1 == v.2.2.2.2.2.1)) (Dt.ret (v.1,v.2.1,v.2.2.1,true,v.2.2.2.2.2.2.2.1,v.2.2.2.2.2.2.2.2.1,v.2.2.2.2.2.2.2.2.2.1,v.2.2.2.2.2.2.2.2.2.2.1,v.2.2.2.2.2.2.2.2.2.2.2.1,v.2.2.2.2.2.2.2.2.2.2.2.2.1,v.2.2.2.2.2.2.2.2.2.2.2.2.2)) (Dt.ite (inB v.2.1 (List.length v.2.2.2.2.2.2.2.2.2.2.2.2.2)) (Dt.ite (inB v.2.2.1 (List.length v.2.2.2.2.2.2.2.2.2.2.2.2.2)) (Dt.ret (v.1,v.2.1,v.2.2.1,(!(v.2.2.2.1 == ((elt zi v.2.2.2.2.2.2.2.2.2.2.2.2.2 (v.2.1).toNat).1 == (elt zi v.2.2.2.2.2.2.2.2.2.2.2.2.2 (v.2.2.1).toNat).1))),v.2.2.2.2.2.2.2.1,v.2.2.2.2.2.2.2.2.1,v.2.2.2.2.2.2.2.2.2.1,v.2.2.2.2.2.2.2.2.2.2.1,v.2.2.2.2.2.2.2.2.2.2.2.1,v.2.2.2.2.2.2.2.2.2.2.2.2.1,v.2.2.2.2.2.2.2.2.2.2.2.2.2)) Dt.fail) Dt.fail))))
theorem q36b C v:q3re (regO (qdk f6) 28) true [(3,(.box [.val Riii])),(4,.any),(5,.any),(7,.any),(12,(.own Ri)),(13,(.own Ri)),(16,.any),(17,.any),(168,.any)] q365 q36a q369 C v:=rgI (by kernel_rfl)
def q36c (C:q33i) (v:q368):Dt q33z:=(Dt.ret false)
theorem q36d C v:q3re (regO (qdk f6) 29) false [(6,.any)] q369 q36c q340 C v:=rgI (by kernel_rfl)
def q36e (C:q33i) (v:q368):Dt q35s:=(Dt.ite ((5:Int) == (0:Int)) Dt.fail (Dt.ret (v.1,v.2.1,(IntKind.wrap .i64 (v.2.2.1+(IntKind.wrap .i64 ((1:Int)+(IntKind.wrap .i64 (Int.tdiv (List.length v.2.2.2.2.2.2.2.2.2.1:Int) (5:Int))))))),v.2.2.2.2.1,v.2.2.2.2.2.1,v.2.2.2.2.2.2.1,v.2.2.2.2.2.2.2.1,v.2.2.2.2.2.2.2.2.1,v.2.2.2.2.2.2.2.2.2.1,v.2.2.2.2.2.2.2.2.2.2)))
theorem q36f C v:q3re (regO (qdk f6) 25) false [(3,(.box [.val Riii])),(4,.any),(5,.any),(7,.any),(12,(.own Ri)),(13,(.own Ri)),(16,.any),(17,.any)] q369 q36e q35t C v:=rgI (by kernel_rfl)
def q36g (C:q33i) (v:q35w):Dt q35k:=(Dt.ret (v.1,(IntKind.wrap .i64 (v.2.1+(1:Int))),v.2.2.2.2.1,v.2.2.2.2.2.1,v.2.2.2.2.2.2.1,v.2.2.2.2.2.2.2.1,v.2.2.2.2.2.2.2.2.1,v.2.2.2.2.2.2.2.2.2.1,v.2.2.2.2.2.2.2.2.2.2))
theorem q36h C v:q3re (regO (qdk f6) 22) false [(3,(.box [.val Riii])),(4,.any),(5,.any),(7,.any),(12,(.own Ri)),(13,(.own Ri)),(16,.any)] q35x q36g q35l C v:=rgI (by kernel_rfl)
def q36i (d:Nat) (self3:(Bool×Int×List Diii×Int×Int×Int×Int×List Di×List Di)→Option q33f) (self4:(Bool×Int×Int×List Diii×Int×Int×Int×Int×List Di×List Di)→Option q33f) (x4:Bool×Int×Int×List Diii×Int×Int×Int×Int×List Di×List Di):Option q33f :=
 (q35y (q33j d) x4).eval fun y24 =>
 bif y24.2.2.2.1 then ((q362 (q33j d) y24).eval fun y26 =>
 (q366 (q33j d) y26).eval fun y27 =>
 (q36a (q33j d) y27).eval fun y28 =>
 bif y28.2.2.2.1 then ((q36c (q33j d) y28).eval fun y29 =>
 some y29) else ((q36e (q33j d) y28).eval fun y25 =>
 self4 y25)) else ((q36g (q33j d) y24).eval fun y22 =>
 self3 y22)
def q36j (C:q33i) (v:q35o):Dt q33z:=(Dt.ret v.1)
theorem q36k C v:q3re (regO (qdk f6) 30) false [(6,.any)] q35p q36j q340 C v:=rgI (by kernel_rfl)
def q36l (d:Nat) (self3:(Bool×Int×List Diii×Int×Int×Int×Int×List Di×List Di)→Option q33f) (x3:Bool×Int×List Diii×Int×Int×Int×Int×List Di×List Di):Option q33f :=
 (q35q (q33j d) x3).eval fun y21 =>
 bif y21.2.2.1 then ((q35u (q33j d) y21).eval fun y23 =>
 iter (q36i d self3) d y23) else ((q36j (q33j d) y21).eval fun y30 =>
 some y30)
def q36m (d:Nat) (self1:(Bool×List DLiE×Int×List Diii×Int×Int×Int×Int×List Di×List Di×List Di)→Option q33f) (x1:Bool×List DLiE×Int×List Diii×Int×Int×Int×Int×List Di×List Di×List Di):Option q33f :=
 (q34r (q33j d) x1).eval fun y10 =>
 bif y10.2.2.2.1 then ((q34v (q33j d) y10).eval fun y12 =>
 bif y12.2.2.2.1 then ((q34x (q33j d) y12).eval fun y13 =>
 some y13) else ((q351 (q33j d) y12).eval fun y14 =>
 iter (q35d d self1) d y14)) else ((q35g (q33j d) y10).eval fun y18 =>
 bif y18.2.1 then ((q35i (q33j d) y18).eval fun y19 =>
 some y19) else ((q35m (q33j d) y18).eval fun y20 =>
 iter (q36l d ) d y20))
def q36n (d:Nat) (x:q33e):Option q33f :=
 (q33p (q33j d) (x.1.1,x.2.1.1,x.2.1.2.1,x.2.2.1.1,x.2.2.1.2.1)).eval fun y0 =>
 (q33t (q33j d) y0).eval fun y1 =>
 (q33x (q33j d) y1).eval fun y2 =>
 bif y2.2.1 then ((q341 (q33j d) y2).eval fun y3 =>
 some y3) else ((q345 (q33j d) y2).eval fun y4 =>
 (q349 (q33j d) y4).eval fun y5 =>
 (q34d (q33j d) y5).eval fun y6 =>
 bif y6.2.2.1 then ((q34f (q33j d) y6).eval fun y7 =>
 some y7) else ((q34j (q33j d) y6).eval fun y8 =>
 (q34n (q33j d) y8).eval fun y9 =>
 iter (q36m d ) d y9))
theorem q36o (d:Nat):COK prog (q33h (q36n d)):=by
 have hm:prog.follows .mixedOrders=true:=mixed
 have hT:=tys
 have hC0:OrcOK prog (orc (q33k (q33j d))):=qde (by
  intro S hS
  simp only [q33k,List.mem_cons,List.not_mem_nil,or_false] at hS
  rcases hS with rfl | rfl | rfl | rfl | rfl | rfl
  · exact q244 d
  · exact quy d
  · exact q31w d
  · exact q33c d
  · exact q2ar d
  · exact qvp d)
 have hC:OrcOK prog (orc (q33k (q33j d))):=hC0
 refine q93 (c:=qdk f6) (fn:=f6) hT (by kernel_rfl) (by kernel_rfl) (by decide) fun x r h w0 φ0 Q hend=>?_
 replace h:q36n d x=some r:=h
 unfold q36n at h
 show Run prog w0 φ0 170 (qdk f6) ⟨[(0,.agg [.fz Riii x.1.1]),(1,.agg [.int .i64 x.2.1.1,.int .i64 x.2.1.2.1]),(2,.agg [.int .i64 x.2.2.1.1,.int .i64 x.2.2.1.2.1])],[]⟩ Q
 refine q3pf hm hT hC (q33q (q33j d) (x.1.1,x.2.1.1,x.2.1.2.1,x.2.2.1.1,x.2.2.1.2.1)) h fun y0 h=>?_
 refine q3pf hm hT hC (q33u (q33j d) y0) h fun y1 h=>?_
 refine q8m ?_
 refine q3pf hm hT hC (q33y (q33j d) y1) h fun y2 h=>?_
 refine q8q (v:=y2.2.1) (by kernel_rfl) h ?_ ?_
 ·
  intro h
  refine q3pf hm hT hC (q342 (q33j d) y2) h fun y3 h=>?_
  refine q8l (q8a ?_)
  cases h
  exact (hend _ (by kernel_rfl)).2
 ·
  intro h
  refine q8i (q88 ?_)
  refine q3pf hm hT hC (q346 (q33j d) y2) h fun y4 h=>?_
  refine q3pf hm hT hC (q34a (q33j d) y4) h fun y5 h=>?_
  refine q8m ?_
  refine q3pf hm hT hC (q34e (q33j d) y5) h fun y6 h=>?_
  refine q8q (v:=y6.2.2.1) (by kernel_rfl) h ?_ ?_
  ·
   intro h
   refine q3pf hm hT hC (q34g (q33j d) y6) h fun y7 h=>?_
   refine q8l (q8a ?_)
   cases h
   exact (hend _ (by kernel_rfl)).2
  ·
   intro h
   refine q8i (q88 ?_)
   refine q3pf hm hT hC (q34k (q33j d) y6) h fun y8 h=>?_
   refine q8m ?_
   refine q3pf hm hT hC (q34o (q33j d) y8) h fun y9 h=>?_
   refine q8n ?_
   refine q8s (G:=iter (q36m d )) (S:=(fun x1=>⟨[(3,.ptr 0 0),(4,.ptr 1 0),(5,.ptr 2 0),(7,.bool x1.1),(8,.fz RLiE x1.2.1),(10,.rs 3),(12,.rs 4),(13,.rs 5),(14,i6 x1.2.2.1)],[.cells [.fz Riii x1.2.2.2.1],.cells [i6 x1.2.2.2.2.1,i6 x1.2.2.2.2.2.1],.cells [i6 x1.2.2.2.2.2.2.1,i6 x1.2.2.2.2.2.2.2.1],.rows Ri x1.2.2.2.2.2.2.2.2.1,.rows Ri x1.2.2.2.2.2.2.2.2.2.1,.rows Ri x1.2.2.2.2.2.2.2.2.2.2]⟩:Bool×List DLiE×Int×List Diii×Int×Int×Int×Int×List Di×List Di×List Di→St)) (fun _=>rfl) ?_ d _ h
   intro n1 x1 h K1 hn1
   replace h:q36m d  (iter (q36m d ) n1) x1=some r:=h
   generalize iter (q36m d ) n1=self1 at h hn1
   unfold q36m at h
   refine q8m ?_
   refine q3pf hm hT hC (q34s (q33j d) x1) h fun y10 h=>?_
   refine q8q (v:=y10.2.2.2.1) (by kernel_rfl) h ?_ ?_
   ·
    intro h
    refine q8i (q88 (q8m (q8n (q8m ?_))))
    refine q3pf hm hT hC (q34w (q33j d) y10) h fun y12 h=>?_
    refine q8q (v:=y12.2.2.2.1) (by kernel_rfl) h ?_ ?_
    ·
     intro h
     refine q3pf hm hT hC (q34y (q33j d) y12) h fun y13 h=>?_
     refine q8l (q8a (q8c (q8a (q8a (q8c (q8a ?_))))))
     cases h
     exact (hend _ (by kernel_rfl)).2
    ·
     intro h
     refine q8i (q88 ?_)
     refine q3pf hm hT hC (q352 (q33j d) y12) h fun y14 h=>?_
     refine q8n ?_
     refine q8s (G:=iter (q35d d self1)) (S:=(fun x2=>⟨[(3,.ptr 0 0),(4,.ptr 1 0),(5,.ptr 2 0),(7,.bool x2.1),(8,.fz RLiE x2.2.1),(10,.rs 3),(12,.rs 4),(13,.rs 5),(14,i6 x2.2.2.1),(15,i6 x2.2.2.2.1)],[.cells [.fz Riii x2.2.2.2.2.1],.cells [i6 x2.2.2.2.2.2.1,i6 x2.2.2.2.2.2.2.1],.cells [i6 x2.2.2.2.2.2.2.2.1,i6 x2.2.2.2.2.2.2.2.2.1],.rows Ri x2.2.2.2.2.2.2.2.2.2.1,.rows Ri x2.2.2.2.2.2.2.2.2.2.2.1,.rows Ri x2.2.2.2.2.2.2.2.2.2.2.2]⟩:Bool×List DLiE×Int×Int×List Diii×Int×Int×Int×Int×List Di×List Di×List Di→St)) (fun _=>rfl) ?_ d _ h
     intro n2 x2 h K2 hn2
     replace h:q35d d self1 (iter (q35d d self1) n2) x2=some r:=h
     generalize iter (q35d d self1) n2=self2 at h hn2
     unfold q35d at h
     refine q8m ?_
     refine q3pf hm hT hC (q356 (q33j d) x2) h fun y15 h=>?_
     refine q8q (v:=y15.2.2.2.2.1) (by kernel_rfl) h ?_ ?_
     ·
      intro h
      refine q8i (q88 (q8m (q8n ?_)))
      refine q8r hm hT hC (q358 (q33j d) y15) h ?_
      intro y17 h
      refine q8b (q88 ?_)
      refine q8r hm hT hC (q35a (q33j d) y17) h ?_
      intro y16 h
      exact hn2 _ h
     ·
      intro h
      refine q8k (q89 (q89 (q8d (q8b (q88 ?_)))))
      refine q8r hm hT hC (q35c (q33j d) y15) h ?_
      intro y11 h
      exact hn1 _ h
   ·
    intro h
    refine q8k (q89 (q89 (q8d (q88 (q8m ?_)))))
    refine q3pf hm hT hC (q35h (q33j d) y10) h fun y18 h=>?_
    refine q8q (v:=y18.2.1) (by kernel_rfl) h ?_ ?_
    ·
     intro h
     refine q3pf hm hT hC (q35j (q33j d) y18) h fun y19 h=>?_
     refine q8l (q8a ?_)
     cases h
     exact (hend _ (by kernel_rfl)).2
    ·
     intro h
     refine q8i (q88 (q8m ?_))
     refine q3pf hm hT hC (q35n (q33j d) y18) h fun y20 h=>?_
     refine q8n ?_
     refine q8s (G:=iter (q36l d )) (S:=(fun x3=>⟨[(3,.ptr 0 0),(4,.ptr 1 0),(5,.ptr 2 0),(7,.bool x3.1),(12,.rs 3),(13,.rs 4),(16,i6 x3.2.1)],[.cells [.fz Riii x3.2.2.1],.cells [i6 x3.2.2.2.1,i6 x3.2.2.2.2.1],.cells [i6 x3.2.2.2.2.2.1,i6 x3.2.2.2.2.2.2.1],.rows Ri x3.2.2.2.2.2.2.2.1,.rows Ri x3.2.2.2.2.2.2.2.2]⟩:Bool×Int×List Diii×Int×Int×Int×Int×List Di×List Di→St)) (fun _=>rfl) ?_ d _ h
     intro n3 x3 h K3 hn3
     replace h:q36l d  (iter (q36l d ) n3) x3=some r:=h
     generalize iter (q36l d ) n3=self3 at h hn3
     unfold q36l at h
     refine q8m ?_
     refine q3pf hm hT hC (q35r (q33j d) x3) h fun y21 h=>?_
     refine q8q (v:=y21.2.2.1) (by kernel_rfl) h ?_ ?_
     ·
      intro h
      refine q8i (q88 (q8m (q8n ?_)))
      refine q3pf hm hT hC (q35v (q33j d) y21) h fun y23 h=>?_
      refine q8n ?_
      refine q8s (G:=iter (q36i d self3)) (S:=(fun x4=>⟨[(3,.ptr 0 0),(4,.ptr 1 0),(5,.ptr 2 0),(7,.bool x4.1),(12,.rs 3),(13,.rs 4),(16,i6 x4.2.1),(17,i6 x4.2.2.1)],[.cells [.fz Riii x4.2.2.2.1],.cells [i6 x4.2.2.2.2.1,i6 x4.2.2.2.2.2.1],.cells [i6 x4.2.2.2.2.2.2.1,i6 x4.2.2.2.2.2.2.2.1],.rows Ri x4.2.2.2.2.2.2.2.2.1,.rows Ri x4.2.2.2.2.2.2.2.2.2]⟩:Bool×Int×Int×List Diii×Int×Int×Int×Int×List Di×List Di→St)) (fun _=>rfl) ?_ d _ h
      intro n4 x4 h K4 hn4
      replace h:q36i d self3 (iter (q36i d self3) n4) x4=some r:=h
      generalize iter (q36i d self3) n4=self4 at h hn4
      unfold q36i at h
      refine q8m ?_
      refine q3pf hm hT hC (q35z (q33j d) x4) h fun y24 h=>?_
      refine q8q (v:=y24.2.2.2.1) (by kernel_rfl) h ?_ ?_
      ·
       intro h
       refine q8i (q88 (q8m (q8n ?_)))
       refine q3pf hm hT hC (q363 (q33j d) y24) h fun y26 h=>?_
       refine q3pf hm hT hC (q367 (q33j d) y26) h fun y27 h=>?_
       refine q3pf hm hT hC (q36b (q33j d) y27) h fun y28 h=>?_
       refine q8q (v:=y28.2.2.2.1) (by kernel_rfl) h ?_ ?_
       ·
        intro h
        refine q3pf hm hT hC (q36d (q33j d) y28) h fun y29 h=>?_
        refine q8l (q8c (q8a (q8a (q8c (q8c (q8a (q8a (q8c (q8a ?_)))))))))
        cases h
        exact (hend _ (by kernel_rfl)).2
       ·
        intro h
        refine q8i (q8b (q88 ?_))
        refine q8r hm hT hC (q36f (q33j d) y28) h ?_
        intro y25 h
        exact hn4 _ h
      ·
       intro h
       refine q8k (q89 (q89 (q8d (q8b (q88 ?_)))))
       refine q8r hm hT hC (q36h (q33j d) y24) h ?_
       intro y22 h
       exact hn3 _ h
     ·
      intro h
      refine q8k (q89 (q89 (q8d (q88 ?_))))
      refine q3pf hm hT hC (q36k (q33j d) y21) h fun y30 h=>?_
      refine q8l ?_
      cases h
      exact (hend _ (by kernel_rfl)).2
abbrev q3bn:List Pk:=[.row qjw true,.row Rii true,.row Ri false]
abbrev q3bo:Type:=qjx×Dii×Di×Unit
abbrev q3bp:Type:=Bool
def q3bq (r:q3bp):LV×List Ob:=(.bool r,[])
def q3br (F:q3bo→Option q3bp):Go.Tx.Spec:=⟨4,q3bn,q3bp,F,q3bq⟩
abbrev q3bs:Type:=(q201→Option q202)×(q246→Option q247)×(q30k→Option q30l)×(q32u→Option q32v)×(q300→Option q301)×(q2d7→Option q2d8)×(qnh→Option qni)×(q2fd→Option q2fe)×Unit
def q3bt (d:Nat):q3bs:=(q20m d,q24r d,q31v d,q33b d,q30h d,q2ee d,qnm d,q2gg d,())
def q3bu (C:q3bs):List Go.Tx.Spec:=[q204 C.1,q249 C.2.1,q30n C.2.2.1,q32x C.2.2.2.1,q303 C.2.2.2.2.1,q2da C.2.2.2.2.2.1,qnk C.2.2.2.2.2.2.1,q2fg C.2.2.2.2.2.2.2.1]
abbrev q3bv:Type:=List Diii×Int×Int×Int
def q3bw (v:q3bv):St:=⟨[(0,.agg [.fz Riii v.1]),(1,.agg [i6 v.2.1,i6 v.2.2.1]),(2,i6 v.2.2.2)],[]⟩
abbrev q3bx:Type:=Int×List Diii×Int×Int
def q3by (v:q3bx):St:=⟨[(2,i6 v.1),(3,.ptr 0 0),(4,.ptr 1 0)],[.cells [.fz Riii v.2.1],.cells [i6 v.2.2.1,i6 v.2.2.2]]⟩
def q3bz (C:q3bs) (v:q3bv):Dt q3bx:=(Dt.ret (v.2.2.2,v.1,v.2.1,v.2.2.1))
abbrev q3rh {V Y:Type}:=@rg q3bs V Y tysT (fun C=>(orc (q3bu C))) 138
theorem q3c0 C v:q3rh (regO (qdk f4) 0) false [(2,.any),(3,(.box [.val Riii])),(4,.any)] q3bw q3bz q3by C v:=rgI (by kernel_rfl)
abbrev q3c1:Type:=Int×Bool×List Diii×Int×Int
def q3c2 (v:q3c1):St:=⟨[(2,i6 v.1),(3,.ptr 0 0),(4,.ptr 1 0),(7,.bool v.2.1)],[.cells [.fz Riii v.2.2.1],.cells [i6 v.2.2.2.1,i6 v.2.2.2.2]]⟩
def q3c3 (C:q3bs) (v:q3bx):Dt q3c1:=(Dt.bnd (C.2.2.1 (())) fun r1=>(Dt.ret (v.1,r1,v.2.1,v.2.2.1,v.2.2.2)))
theorem q3c4 C v:q3rh (regO (qdk f4) 1) false [(2,.any),(3,(.box [.val Riii])),(4,.any),(7,.any)] q3by q3c3 q3c2 C v:=rgI (by kernel_rfl)
abbrev q3c5:Type:=Int×Bool×Bool×List Diii×Int×Int
def q3c6 (v:q3c5):St:=⟨[(2,i6 v.1),(3,.ptr 0 0),(4,.ptr 1 0),(7,.bool v.2.1),(32,.bool v.2.2.1)],[.cells [.fz Riii v.2.2.2.1],.cells [i6 v.2.2.2.2.1,i6 v.2.2.2.2.2]]⟩
def q3c7 (C:q3bs) (v:q3c1):Dt q3c5:=(Dt.bnd (C.2.2.2.2.1 (((0:Int),()),())) fun r1=>(Dt.bnd (C.2.2.2.1 ((v.2.2.1,()),(v.2.2.2.1,v.2.2.2.2,()),(r1.1,r1.2,()),())) fun r2=>(Dt.ite (!r2) (Dt.ret (v.1,v.2.1,true,v.2.2.1,v.2.2.2.1,v.2.2.2.2)) (Dt.ite (decide (v.1<(1:Int))) (Dt.ret (v.1,v.2.1,true,v.2.2.1,v.2.2.2.1,v.2.2.2.2)) (Dt.ret (v.1,v.2.1,(!v.2.1),v.2.2.1,v.2.2.2.1,v.2.2.2.2))))))
theorem q3c8 C v:q3rh (regO (qdk f4) 2) true [(2,.any),(3,(.box [.val Riii])),(4,.any),(7,.any),(32,.any)] q3c2 q3c7 q3c6 C v:=rgI (by kernel_rfl)
abbrev q3c9:Type:=Bool
def q3ca (v:q3c9):St:=⟨[(6,.bool v)],[]⟩
def q3cb (C:q3bs) (v:q3c5):Dt q3c9:=(Dt.ret v.2.1)
theorem q3cc C v:q3rh (regO (qdk f4) 3) false [(6,.any)] q3c6 q3cb q3ca C v:=rgI (by kernel_rfl)
abbrev q3cd:Type:=Int×Bool×Int×List Diii×Int×Int×Int×Int
def q3ce (v:q3cd):St:=⟨[(2,i6 v.1),(3,.ptr 0 0),(4,.ptr 1 0),(7,.bool v.2.1),(8,.ptr 2 0),(9,i6 v.2.2.1)],[.cells [.fz Riii v.2.2.2.1],.cells [i6 v.2.2.2.2.1,i6 v.2.2.2.2.2.1],.cells [i6 v.2.2.2.2.2.2.1,i6 v.2.2.2.2.2.2.2]]⟩
def q3cf (C:q3bs) (v:q3c5):Dt q3cd:=(Dt.bnd (C.2.2.2.2.2.1 ((v.2.2.2.1,()),(v.2.2.2.2.1,v.2.2.2.2.2,()),(v.1,()),())) fun r1=>(Dt.ret (v.1,v.2.1,r1.2.2,v.2.2.2.1,v.2.2.2.2.1,v.2.2.2.2.2,r1.1,r1.2.1)))
theorem q3cg C v:q3rh (regO (qdk f4) 4) false [(2,.any),(3,(.box [.val Riii])),(4,.any),(7,.any),(8,.any),(9,.any)] q3c6 q3cf q3ce C v:=rgI (by kernel_rfl)
abbrev q3ch:Type:=Int×Bool×Int×Int×List Diii×Int×Int×Int×Int×List Dii
def q3ci (v:q3ch):St:=⟨[(2,i6 v.1),(3,.ptr 0 0),(4,.ptr 1 0),(7,.bool v.2.1),(8,.ptr 2 0),(9,i6 v.2.2.1),(10,.rs 3),(11,i6 v.2.2.2.1)],[.cells [.fz Riii v.2.2.2.2.1],.cells [i6 v.2.2.2.2.2.1,i6 v.2.2.2.2.2.2.1],.cells [i6 v.2.2.2.2.2.2.2.1,i6 v.2.2.2.2.2.2.2.2.1],.rows Rii v.2.2.2.2.2.2.2.2.2]⟩
def q3cj (C:q3bs) (v:q3cd):Dt q3ch:=(Dt.bnd (C.1 ((v.2.2.2.1,()),(v.2.2.2.2.1,v.2.2.2.2.2.1,()),())) fun r1=>(Dt.ret (v.1,v.2.1,v.2.2.1,r1.2,v.2.2.2.1,v.2.2.2.2.1,v.2.2.2.2.2.1,v.2.2.2.2.2.2.1,v.2.2.2.2.2.2.2,r1.1)))
theorem q3ck C v:q3rh (regO (qdk f4) 5) false [(2,.any),(3,(.box [.val Riii])),(4,.any),(7,.any),(8,.any),(9,.any),(10,(.own Rii)),(11,.any)] q3ce q3cj q3ci C v:=rgI (by kernel_rfl)
abbrev q3cl:Type:=Int×Bool×Bool×List Diii×Int×Int×Int×Int×List Dii
def q3cm (v:q3cl):St:=⟨[(2,i6 v.1),(3,.ptr 0 0),(4,.ptr 1 0),(7,.bool v.2.1),(8,.ptr 2 0),(10,.rs 3),(62,.bool v.2.2.1)],[.cells [.fz Riii v.2.2.2.1],.cells [i6 v.2.2.2.2.1,i6 v.2.2.2.2.2.1],.cells [i6 v.2.2.2.2.2.2.1,i6 v.2.2.2.2.2.2.2.1],.rows Rii v.2.2.2.2.2.2.2.2]⟩
def q3cn (C:q3bs) (v:q3ch):Dt q3cl:=(Dt.ite (v.2.2.1 != (0:Int)) (Dt.ret (v.1,v.2.1,true,v.2.2.2.2.1,v.2.2.2.2.2.1,v.2.2.2.2.2.2.1,v.2.2.2.2.2.2.2.1,v.2.2.2.2.2.2.2.2.1,v.2.2.2.2.2.2.2.2.2)) (Dt.ite (v.2.2.2.1 != (0:Int)) (Dt.ret (v.1,v.2.1,true,v.2.2.2.2.1,v.2.2.2.2.2.1,v.2.2.2.2.2.2.1,v.2.2.2.2.2.2.2.1,v.2.2.2.2.2.2.2.2.1,v.2.2.2.2.2.2.2.2.2)) (Dt.bnd (C.2.2.2.2.2.2.1 ((v.2.2.2.2.2.2.2.1,v.2.2.2.2.2.2.2.2.1,()),())) fun r1=>(Dt.ite (r1 != (0:Int)) (Dt.ret (v.1,v.2.1,true,v.2.2.2.2.1,v.2.2.2.2.2.1,v.2.2.2.2.2.2.1,v.2.2.2.2.2.2.2.1,v.2.2.2.2.2.2.2.2.1,v.2.2.2.2.2.2.2.2.2)) (Dt.ret (v.1,v.2.1,(decide (v.2.2.2.2.2.2.2.1<(0:Int))),v.2.2.2.2.1,v.2.2.2.2.2.1,v.2.2.2.2.2.2.1,v.2.2.2.2.2.2.2.1,v.2.2.2.2.2.2.2.2.1,v.2.2.2.2.2.2.2.2.2))))))
theorem q3co C v:q3rh (regO (qdk f4) 6) false [(2,.any),(3,(.box [.val Riii])),(4,.any),(7,.any),(8,.any),(10,(.own Rii)),(62,.any)] q3ci q3cn q3cm C v:=rgI (by kernel_rfl)
def q3cp (C:q3bs) (v:q3cl):Dt q3c9:=(Dt.ret false)
theorem q3cq C v:q3rh (regO (qdk f4) 7) false [(6,.any)] q3cm q3cp q3ca C v:=rgI (by kernel_rfl)
abbrev q3cr:Type:=Int×Bool×Int×Int×List Diii×Int×Int×Int×Int×List Dii
def q3cs (v:q3cr):St:=⟨[(2,i6 v.1),(3,.ptr 0 0),(4,.ptr 1 0),(7,.bool v.2.1),(8,.ptr 2 0),(10,.rs 3),(12,i6 v.2.2.1),(13,i6 v.2.2.2.1)],[.cells [.fz Riii v.2.2.2.2.1],.cells [i6 v.2.2.2.2.2.1,i6 v.2.2.2.2.2.2.1],.cells [i6 v.2.2.2.2.2.2.2.1,i6 v.2.2.2.2.2.2.2.2.1],.rows Rii v.2.2.2.2.2.2.2.2.2]⟩
def q3ct (C:q3bs) (v:q3cl):Dt q3cr:=(Dt.bnd (C.2.1 ((v.2.2.2.1,()),(v.2.2.2.2.1,v.2.2.2.2.2.1,()),(v.2.2.2.2.2.2.1,v.2.2.2.2.2.2.2.1,()),())) fun r1=>(Dt.ret (v.1,v.2.1,r1.1,r1.2,v.2.2.2.1,v.2.2.2.2.1,v.2.2.2.2.2.1,v.2.2.2.2.2.2.1,v.2.2.2.2.2.2.2.1,v.2.2.2.2.2.2.2.2)))
theorem q3cu C v:q3rh (regO (qdk f4) 8) false [(2,.any),(3,(.box [.val Riii])),(4,.any),(7,.any),(8,.any),(10,(.own Rii)),(12,.any),(13,.any)] q3cm q3ct q3cs C v:=rgI (by kernel_rfl)
abbrev q3cv:Type:=Int×Bool×Bool×List Diii×Int×Int×Int×Int×List Dii
def q3cw (v:q3cv):St:=⟨[(2,i6 v.1),(3,.ptr 0 0),(4,.ptr 1 0),(7,.bool v.2.1),(8,.ptr 2 0),(10,.rs 3),(76,.bool v.2.2.1)],[.cells [.fz Riii v.2.2.2.1],.cells [i6 v.2.2.2.2.1,i6 v.2.2.2.2.2.1],.cells [i6 v.2.2.2.2.2.2.1,i6 v.2.2.2.2.2.2.2.1],.rows Rii v.2.2.2.2.2.2.2.2]⟩
def q3cx (C:q3bs) (v:q3cr):Dt q3cv:=(Dt.ite (v.2.2.2.1 != (0:Int)) (Dt.ret (v.1,v.2.1,true,v.2.2.2.2.1,v.2.2.2.2.2.1,v.2.2.2.2.2.2.1,v.2.2.2.2.2.2.2.1,v.2.2.2.2.2.2.2.2.1,v.2.2.2.2.2.2.2.2.2)) (Dt.ret (v.1,v.2.1,(decide (v.2.2.1 > v.1)),v.2.2.2.2.1,v.2.2.2.2.2.1,v.2.2.2.2.2.2.1,v.2.2.2.2.2.2.2.1,v.2.2.2.2.2.2.2.2.1,v.2.2.2.2.2.2.2.2.2)))
theorem q3cy C v:q3rh (regO (qdk f4) 9) false [(2,.any),(3,(.box [.val Riii])),(4,.any),(7,.any),(8,.any),(10,(.own Rii)),(76,.any)] q3cs q3cx q3cw C v:=rgI (by kernel_rfl)
def q3cz (C:q3bs) (v:q3cv):Dt q3c9:=(Dt.ret false)
theorem q3d0 C v:q3rh (regO (qdk f4) 10) false [(6,.any)] q3cw q3cz q3ca C v:=rgI (by kernel_rfl)
abbrev q3d1:Type:=Int×Bool×List Diii×Int×Int×Int×Int×List Dii
def q3d2 (v:q3d1):St:=⟨[(2,i6 v.1),(3,.ptr 0 0),(4,.ptr 1 0),(7,.bool v.2.1),(8,.ptr 2 0),(14,.rs 3)],[.cells [.fz Riii v.2.2.1],.cells [i6 v.2.2.2.1,i6 v.2.2.2.2.1],.cells [i6 v.2.2.2.2.2.1,i6 v.2.2.2.2.2.2.1],.rows Rii v.2.2.2.2.2.2.2]⟩
def q3d3 (C:q3bs) (v:q3cv):Dt q3d1:=(Dt.bnd (C.2.2.2.2.1 (((0:Int),()),())) fun r1=>(Dt.ite (apB (List.length ([(r1.1,r1.2,())]:List Dii)) (List.length v.2.2.2.2.2.2.2.2)) (Dt.ret (v.1,v.2.1,v.2.2.2.1,v.2.2.2.2.1,v.2.2.2.2.2.1,v.2.2.2.2.2.2.1,v.2.2.2.2.2.2.2.1,(([(r1.1,r1.2,())]:List Dii)++v.2.2.2.2.2.2.2.2))) Dt.fail))
theorem q3d4 C v:q3rh (regO (qdk f4) 11) false [(2,.any),(3,(.box [.val Riii])),(4,.any),(7,.any),(8,.any),(14,(.own Rii))] q3cw q3d3 q3d2 C v:=rgI (by kernel_rfl)
abbrev q3d5:Type:=Int×Bool×Bool×List Diii×Int×Int×Int×Int×List Dii
def q3d6 (v:q3d5):St:=⟨[(2,i6 v.1),(3,.ptr 0 0),(4,.ptr 1 0),(7,.bool v.2.1),(8,.ptr 2 0),(14,.rs 3),(15,.bool v.2.2.1)],[.cells [.fz Riii v.2.2.2.1],.cells [i6 v.2.2.2.2.1,i6 v.2.2.2.2.2.1],.cells [i6 v.2.2.2.2.2.2.1,i6 v.2.2.2.2.2.2.2.1],.rows Rii v.2.2.2.2.2.2.2.2]⟩
def q3d7 (C:q3bs) (v:q3d1):Dt q3d5:=(Dt.ret (v.1,v.2.1,false,v.2.2.1,v.2.2.2.1,v.2.2.2.2.1,v.2.2.2.2.2.1,v.2.2.2.2.2.2.1,v.2.2.2.2.2.2.2))
theorem q3d8 C v:q3rh (regO (qdk f4) 12) false [(2,.any),(3,(.box [.val Riii])),(4,.any),(7,.any),(8,.any),(14,(.own Rii)),(15,.any)] q3d2 q3d7 q3d6 C v:=rgI (by kernel_rfl)
abbrev q3d9:Type:=Int×Bool×Bool×Int×List Diii×Int×Int×Int×Int×List Dii
def q3da (v:q3d9):St:=⟨[(2,i6 v.1),(3,.ptr 0 0),(4,.ptr 1 0),(7,.bool v.2.1),(8,.ptr 2 0),(14,.rs 3),(15,.bool v.2.2.1),(16,i6 v.2.2.2.1)],[.cells [.fz Riii v.2.2.2.2.1],.cells [i6 v.2.2.2.2.2.1,i6 v.2.2.2.2.2.2.1],.cells [i6 v.2.2.2.2.2.2.2.1,i6 v.2.2.2.2.2.2.2.2.1],.rows Rii v.2.2.2.2.2.2.2.2.2]⟩
def q3db (C:q3bs) (v:q3d5):Dt q3d9:=(Dt.ret (v.1,v.2.1,v.2.2.1,(0:Int),v.2.2.2.1,v.2.2.2.2.1,v.2.2.2.2.2.1,v.2.2.2.2.2.2.1,v.2.2.2.2.2.2.2.1,v.2.2.2.2.2.2.2.2))
theorem q3dc C v:q3rh (regO (qdk f4) 13) false [(2,.any),(3,(.box [.val Riii])),(4,.any),(7,.any),(8,.any),(14,(.own Rii)),(15,.any),(16,.any)] q3d6 q3db q3da C v:=rgI (by kernel_rfl)
abbrev q3dd:Type:=Int×Bool×Bool×Int×Bool×List Diii×Int×Int×Int×Int×List Dii
def q3de (v:q3dd):St:=⟨[(2,i6 v.1),(3,.ptr 0 0),(4,.ptr 1 0),(7,.bool v.2.1),(8,.ptr 2 0),(14,.rs 3),(15,.bool v.2.2.1),(16,i6 v.2.2.2.1),(84,.bool v.2.2.2.2.1)],[.cells [.fz Riii v.2.2.2.2.2.1],.cells [i6 v.2.2.2.2.2.2.1,i6 v.2.2.2.2.2.2.2.1],.cells [i6 v.2.2.2.2.2.2.2.2.1,i6 v.2.2.2.2.2.2.2.2.2.1],.rows Rii v.2.2.2.2.2.2.2.2.2.2]⟩
def q3df (C:q3bs) (v:q3d9):Dt q3dd:=(Dt.ret (v.1,v.2.1,v.2.2.1,v.2.2.2.1,(decide (v.2.2.2.1<(List.length v.2.2.2.2.2.2.2.2.2:Int))),v.2.2.2.2.1,v.2.2.2.2.2.1,v.2.2.2.2.2.2.1,v.2.2.2.2.2.2.2.1,v.2.2.2.2.2.2.2.2.1,v.2.2.2.2.2.2.2.2.2))
theorem q3dg C v:q3rh (regO (qdk f4) 14) false [(2,.any),(3,(.box [.val Riii])),(4,.any),(7,.any),(8,.any),(14,(.own Rii)),(15,.any),(16,.any),(84,.any)] q3da q3df q3de C v:=rgI (by kernel_rfl)
abbrev q3dh:Type:=Int×Bool×Bool×Int×Bool×List Diii×Int×Int×Int×Int×List Dii
def q3di (v:q3dh):St:=⟨[(2,i6 v.1),(3,.ptr 0 0),(4,.ptr 1 0),(7,.bool v.2.1),(8,.ptr 2 0),(14,.rs 3),(15,.bool v.2.2.1),(16,i6 v.2.2.2.1),(100,.bool v.2.2.2.2.1)],[.cells [.fz Riii v.2.2.2.2.2.1],.cells [i6 v.2.2.2.2.2.2.1,i6 v.2.2.2.2.2.2.2.1],.cells [i6 v.2.2.2.2.2.2.2.2.1,i6 v.2.2.2.2.2.2.2.2.2.1],.rows Rii v.2.2.2.2.2.2.2.2.2.2]⟩
def q3dj (C:q3bs) (v:q3dd):Dt q3dh:=(Dt.ite (inB v.2.2.2.1 (List.length v.2.2.2.2.2.2.2.2.2.2)) (Dt.bnd (C.2.2.2.2.2.2.1 (((elt zii v.2.2.2.2.2.2.2.2.2.2 (v.2.2.2.1).toNat).1,(elt zii v.2.2.2.2.2.2.2.2.2.2 (v.2.2.2.1).toNat).2.1,()),())) fun r1=>(Dt.ite (r1 != (0:Int)) (Dt.ret (v.1,v.2.1,v.2.2.1,v.2.2.2.1,true,v.2.2.2.2.2.1,v.2.2.2.2.2.2.1,v.2.2.2.2.2.2.2.1,v.2.2.2.2.2.2.2.2.1,v.2.2.2.2.2.2.2.2.2.1,v.2.2.2.2.2.2.2.2.2.2)) (Dt.ite (inB v.2.2.2.1 (List.length v.2.2.2.2.2.2.2.2.2.2)) (Dt.ret (v.1,v.2.1,v.2.2.1,v.2.2.2.1,(decide ((elt zii v.2.2.2.2.2.2.2.2.2.2 (v.2.2.2.1).toNat).1<(0:Int))),v.2.2.2.2.2.1,v.2.2.2.2.2.2.1,v.2.2.2.2.2.2.2.1,v.2.2.2.2.2.2.2.2.1,v.2.2.2.2.2.2.2.2.2.1,v.2.2.2.2.2.2.2.2.2.2)) Dt.fail))) Dt.fail)
theorem q3dk C v:q3rh (regO (qdk f4) 16) false [(2,.any),(3,(.box [.val Riii])),(4,.any),(7,.any),(8,.any),(14,(.own Rii)),(15,.any),(16,.any),(100,.any)] q3de q3dj q3di C v:=rgI (by kernel_rfl)
def q3dl (C:q3bs) (v:q3dh):Dt q3c9:=(Dt.ret false)
theorem q3dm C v:q3rh (regO (qdk f4) 17) false [(6,.any)] q3di q3dl q3ca C v:=rgI (by kernel_rfl)
def q3dn (C:q3bs) (v:q3dh):Dt q3d9:=(Dt.ite v.2.2.1 (Dt.ret (v.1,v.2.1,true,v.2.2.2.1,v.2.2.2.2.2.1,v.2.2.2.2.2.2.1,v.2.2.2.2.2.2.2.1,v.2.2.2.2.2.2.2.2.1,v.2.2.2.2.2.2.2.2.2.1,v.2.2.2.2.2.2.2.2.2.2)) (Dt.ite (inB v.2.2.2.1 (List.length v.2.2.2.2.2.2.2.2.2.2)) (Dt.ret (v.1,v.2.1,(((elt zii v.2.2.2.2.2.2.2.2.2.2 (v.2.2.2.1).toNat).1 == v.2.2.2.2.2.2.2.2.1)&&(((elt zii v.2.2.2.2.2.2.2.2.2.2 (v.2.2.2.1).toNat).2.1 == v.2.2.2.2.2.2.2.2.2.1)&&true)),v.2.2.2.1,v.2.2.2.2.2.1,v.2.2.2.2.2.2.1,v.2.2.2.2.2.2.2.1,v.2.2.2.2.2.2.2.2.1,v.2.2.2.2.2.2.2.2.2.1,v.2.2.2.2.2.2.2.2.2.2)) Dt.fail))
theorem q3do C v:q3rh (regO (qdk f4) 18) true [(2,.any),(3,(.box [.val Riii])),(4,.any),(7,.any),(8,.any),(14,(.own Rii)),(15,.any),(16,.any)] q3di q3dn q3da C v:=rgI (by kernel_rfl)
abbrev q3dp:Type:=Int×Bool×Bool×Int×Bool×List Diii×Int×Int×Int×Int×List Dii
def q3dq (v:q3dp):St:=⟨[(2,i6 v.1),(3,.ptr 0 0),(4,.ptr 1 0),(7,.bool v.2.1),(8,.ptr 2 0),(14,.rs 3),(15,.bool v.2.2.1),(16,i6 v.2.2.2.1),(116,.bool v.2.2.2.2.1)],[.cells [.fz Riii v.2.2.2.2.2.1],.cells [i6 v.2.2.2.2.2.2.1,i6 v.2.2.2.2.2.2.2.1],.cells [i6 v.2.2.2.2.2.2.2.2.1,i6 v.2.2.2.2.2.2.2.2.2.1],.rows Rii v.2.2.2.2.2.2.2.2.2.2]⟩
def q3dr (C:q3bs) (v:q3d9):Dt q3dp:=(Dt.ite (inB v.2.2.2.1 (List.length v.2.2.2.2.2.2.2.2.2)) (Dt.bnd (C.2.2.2.2.2.2.2.1 (((elt zii v.2.2.2.2.2.2.2.2.2 (v.2.2.2.1).toNat).1,(elt zii v.2.2.2.2.2.2.2.2.2 (v.2.2.2.1).toNat).2.1,()),(v.2.2.2.2.2.2.2.1,v.2.2.2.2.2.2.2.2.1,()),())) fun r1=>(Dt.ret (v.1,v.2.1,v.2.2.1,v.2.2.2.1,(decide (r1<(0:Int))),v.2.2.2.2.1,v.2.2.2.2.2.1,v.2.2.2.2.2.2.1,v.2.2.2.2.2.2.2.1,v.2.2.2.2.2.2.2.2.1,v.2.2.2.2.2.2.2.2.2))) Dt.fail)
theorem q3ds C v:q3rh (regO (qdk f4) 19) true [(2,.any),(3,(.box [.val Riii])),(4,.any),(7,.any),(8,.any),(14,(.own Rii)),(15,.any),(16,.any),(116,.any)] q3da q3dr q3dq C v:=rgI (by kernel_rfl)
abbrev q3dt:Type:=Int×Bool×Bool×Int×Int×Int×List Diii×Int×Int×Int×Int×List Dii
def q3du (v:q3dt):St:=⟨[(2,i6 v.1),(3,.ptr 0 0),(4,.ptr 1 0),(7,.bool v.2.1),(8,.ptr 2 0),(14,.rs 3),(15,.bool v.2.2.1),(16,i6 v.2.2.2.1),(17,i6 v.2.2.2.2.1),(18,i6 v.2.2.2.2.2.1)],[.cells [.fz Riii v.2.2.2.2.2.2.1],.cells [i6 v.2.2.2.2.2.2.2.1,i6 v.2.2.2.2.2.2.2.2.1],.cells [i6 v.2.2.2.2.2.2.2.2.2.1,i6 v.2.2.2.2.2.2.2.2.2.2.1],.rows Rii v.2.2.2.2.2.2.2.2.2.2.2]⟩
def q3dv (C:q3bs) (v:q3dp):Dt q3dt:=(Dt.ite (inB v.2.2.2.1 (List.length v.2.2.2.2.2.2.2.2.2.2)) (Dt.bnd (C.2.1 ((v.2.2.2.2.2.1,()),(v.2.2.2.2.2.2.1,v.2.2.2.2.2.2.2.1,()),((elt zii v.2.2.2.2.2.2.2.2.2.2 (v.2.2.2.1).toNat).1,(elt zii v.2.2.2.2.2.2.2.2.2.2 (v.2.2.2.1).toNat).2.1,()),())) fun r1=>(Dt.ret (v.1,v.2.1,v.2.2.1,v.2.2.2.1,r1.1,r1.2,v.2.2.2.2.2.1,v.2.2.2.2.2.2.1,v.2.2.2.2.2.2.2.1,v.2.2.2.2.2.2.2.2.1,v.2.2.2.2.2.2.2.2.2.1,v.2.2.2.2.2.2.2.2.2.2))) Dt.fail)
theorem q3dw C v:q3rh (regO (qdk f4) 20) true [(2,.any),(3,(.box [.val Riii])),(4,.any),(7,.any),(8,.any),(14,(.own Rii)),(15,.any),(16,.any),(17,.any),(18,.any)] q3dq q3dv q3du C v:=rgI (by kernel_rfl)
abbrev q3dx:Type:=Int×Bool×Bool×Int×Bool×List Diii×Int×Int×Int×Int×List Dii
def q3dy (v:q3dx):St:=⟨[(2,i6 v.1),(3,.ptr 0 0),(4,.ptr 1 0),(7,.bool v.2.1),(8,.ptr 2 0),(14,.rs 3),(15,.bool v.2.2.1),(16,i6 v.2.2.2.1),(133,.bool v.2.2.2.2.1)],[.cells [.fz Riii v.2.2.2.2.2.1],.cells [i6 v.2.2.2.2.2.2.1,i6 v.2.2.2.2.2.2.2.1],.cells [i6 v.2.2.2.2.2.2.2.2.1,i6 v.2.2.2.2.2.2.2.2.2.1],.rows Rii v.2.2.2.2.2.2.2.2.2.2]⟩
def q3dz (C:q3bs) (v:q3dt):Dt q3dx:=(Dt.ite (v.2.2.2.2.2.1 != (0:Int)) (Dt.ret (v.1,v.2.1,v.2.2.1,v.2.2.2.1,true,v.2.2.2.2.2.2.1,v.2.2.2.2.2.2.2.1,v.2.2.2.2.2.2.2.2.1,v.2.2.2.2.2.2.2.2.2.1,v.2.2.2.2.2.2.2.2.2.2.1,v.2.2.2.2.2.2.2.2.2.2.2)) (Dt.ret (v.1,v.2.1,v.2.2.1,v.2.2.2.1,(decide (v.2.2.2.2.1≤v.1)),v.2.2.2.2.2.2.1,v.2.2.2.2.2.2.2.1,v.2.2.2.2.2.2.2.2.1,v.2.2.2.2.2.2.2.2.2.1,v.2.2.2.2.2.2.2.2.2.2.1,v.2.2.2.2.2.2.2.2.2.2.2)))
theorem q3e0 C v:q3rh (regO (qdk f4) 21) false [(2,.any),(3,(.box [.val Riii])),(4,.any),(7,.any),(8,.any),(14,(.own Rii)),(15,.any),(16,.any),(133,.any)] q3du q3dz q3dy C v:=rgI (by kernel_rfl)
def q3e1 (C:q3bs) (v:q3dx):Dt q3c9:=(Dt.ret false)
theorem q3e2 C v:q3rh (regO (qdk f4) 22) false [(6,.any)] q3dy q3e1 q3ca C v:=rgI (by kernel_rfl)
def q3e3 (C:q3bs) (v:q3d9):Dt q3d9:=(Dt.ret (v.1,v.2.1,v.2.2.1,(IntKind.wrap .i64 (v.2.2.2.1+(1:Int))),v.2.2.2.2.1,v.2.2.2.2.2.1,v.2.2.2.2.2.2.1,v.2.2.2.2.2.2.2.1,v.2.2.2.2.2.2.2.2.1,v.2.2.2.2.2.2.2.2.2))
theorem q3e4 C v:q3rh (regO (qdk f4) 15) false [(2,.any),(3,(.box [.val Riii])),(4,.any),(7,.any),(8,.any),(14,(.own Rii)),(15,.any),(16,.any)] q3da q3e3 q3da C v:=rgI (by kernel_rfl)
def q3e5  (d:Nat) (self1:(Int×Bool×Bool×Int×List Diii×Int×Int×Int×Int×List Dii)→Option q3bp) (z:Int×Bool×Bool×Int×List Diii×Int×Int×Int×Int×List Dii):Option (q3bp) :=
 (q3e3 (q3bt d) z).eval fun y15 =>
 self1 y15
def q3e6 (C:q3bs) (v:q3dd):Dt q3c9:=(Dt.ite v.2.1 (Dt.ret v.2.2.1) (Dt.ret false))
theorem q3e7 C v:q3rh (regO (qdk f4) 23) false [(6,.any)] q3de q3e6 q3ca C v:=rgI (by kernel_rfl)
def q3e8 (d:Nat) (self1:(Int×Bool×Bool×Int×List Diii×Int×Int×Int×Int×List Dii)→Option q3bp) (x1:Int×Bool×Bool×Int×List Diii×Int×Int×Int×Int×List Dii):Option q3bp :=
 (q3df (q3bt d) x1).eval fun y14 =>
 bif y14.2.2.2.2.1 then ((q3dj (q3bt d) y14).eval fun y16 =>
 bif y16.2.2.2.2.1 then ((q3dl (q3bt d) y16).eval fun y17 =>
 some y17) else ((q3dn (q3bt d) y16).eval fun y18 =>
 (q3dr (q3bt d) y18).eval fun y19 =>
 bif y19.2.2.2.2.1 then ((q3dv (q3bt d) y19).eval fun y20 =>
 (q3dz (q3bt d) y20).eval fun y21 =>
 bif y21.2.2.2.2.1 then ((q3e1 (q3bt d) y21).eval fun y22 =>
 some y22) else (q3e5 d self1 (y21.1,y21.2.1,y21.2.2.1,y21.2.2.2.1,y21.2.2.2.2.2.1,y21.2.2.2.2.2.2.1,y21.2.2.2.2.2.2.2.1,y21.2.2.2.2.2.2.2.2.1,y21.2.2.2.2.2.2.2.2.2.1,y21.2.2.2.2.2.2.2.2.2.2))) else (q3e5 d self1 (y19.1,y19.2.1,y19.2.2.1,y19.2.2.2.1,y19.2.2.2.2.2.1,y19.2.2.2.2.2.2.1,y19.2.2.2.2.2.2.2.1,y19.2.2.2.2.2.2.2.2.1,y19.2.2.2.2.2.2.2.2.2.1,y19.2.2.2.2.2.2.2.2.2.2)))) else ((q3e6 (q3bt d) y14).eval fun y23 =>
 some y23)
def q3e9 (d:Nat) (x:q3bo):Option q3bp :=
 (q3bz (q3bt d) (x.1.1,x.2.1.1,x.2.1.2.1,x.2.2.1.1)).eval fun y0 =>
 (q3c3 (q3bt d) y0).eval fun y1 =>
 (q3c7 (q3bt d) y1).eval fun y2 =>
 bif y2.2.2.1 then ((q3cb (q3bt d) y2).eval fun y3 =>
 some y3) else ((q3cf (q3bt d) y2).eval fun y4 =>
 (q3cj (q3bt d) y4).eval fun y5 =>
 (q3cn (q3bt d) y5).eval fun y6 =>
 bif y6.2.2.1 then ((q3cp (q3bt d) y6).eval fun y7 =>
 some y7) else ((q3ct (q3bt d) y6).eval fun y8 =>
 (q3cx (q3bt d) y8).eval fun y9 =>
 bif y9.2.2.1 then ((q3cz (q3bt d) y9).eval fun y10 =>
 some y10) else ((q3d3 (q3bt d) y9).eval fun y11 =>
 (q3d7 (q3bt d) y11).eval fun y12 =>
 (q3db (q3bt d) y12).eval fun y13 =>
 iter (q3e8 d ) d y13)))
theorem q3ea (d:Nat):COK prog (q3br (q3e9 d)):=by
 have hm:prog.follows .mixedOrders=true:=mixed
 have hT:=tys
 have hC0:OrcOK prog (orc (q3bu (q3bt d))):=qde (by
  intro S hS
  simp only [q3bu,List.mem_cons,List.not_mem_nil,or_false] at hS
  rcases hS with rfl | rfl | rfl | rfl | rfl | rfl | rfl | rfl
  · exact q20n d
  · exact q24s d
  · exact q31w d
  · exact q33c d
  · exact q30i d
  · exact q2ef d
  · exact qno d
  · exact q2gh d)
 have hC:OrcOK prog (orc (q3bu (q3bt d))):=hC0
 refine q93 (c:=qdk f4) (fn:=f4) hT (by kernel_rfl) (by kernel_rfl) (by decide) fun x r h w0 φ0 Q hend=>?_
 replace h:q3e9 d x=some r:=h
 unfold q3e9 at h
 show Run prog w0 φ0 138 (qdk f4) ⟨[(0,.agg [.fz Riii x.1.1]),(1,.agg [.int .i64 x.2.1.1,.int .i64 x.2.1.2.1]),(2,.int .i64 x.2.2.1.1)],[]⟩ Q
 refine q3pf hm hT hC (q3c0 (q3bt d) (x.1.1,x.2.1.1,x.2.1.2.1,x.2.2.1.1)) h fun y0 h=>?_
 refine q3pf hm hT hC (q3c4 (q3bt d) y0) h fun y1 h=>?_
 refine q8m ?_
 refine q3pf hm hT hC (q3c8 (q3bt d) y1) h fun y2 h=>?_
 refine q8q (v:=y2.2.2.1) (by kernel_rfl) h ?_ ?_
 ·
  intro h
  refine q3pf hm hT hC (q3cc (q3bt d) y2) h fun y3 h=>?_
  refine q8l (q8a ?_)
  cases h
  exact (hend _ (by kernel_rfl)).2
 ·
  intro h
  refine q8i (q88 ?_)
  refine q3pf hm hT hC (q3cg (q3bt d) y2) h fun y4 h=>?_
  refine q3pf hm hT hC (q3ck (q3bt d) y4) h fun y5 h=>?_
  refine q8m ?_
  refine q3pf hm hT hC (q3co (q3bt d) y5) h fun y6 h=>?_
  refine q8q (v:=y6.2.2.1) (by kernel_rfl) h ?_ ?_
  ·
   intro h
   refine q3pf hm hT hC (q3cq (q3bt d) y6) h fun y7 h=>?_
   refine q8l (q8a ?_)
   cases h
   exact (hend _ (by kernel_rfl)).2
  ·
   intro h
   refine q8i (q88 ?_)
   refine q3pf hm hT hC (q3cu (q3bt d) y6) h fun y8 h=>?_
   refine q8m ?_
   refine q3pf hm hT hC (q3cy (q3bt d) y8) h fun y9 h=>?_
   refine q8q (v:=y9.2.2.1) (by kernel_rfl) h ?_ ?_
   ·
    intro h
    refine q3pf hm hT hC (q3d0 (q3bt d) y9) h fun y10 h=>?_
    refine q8l (q8a ?_)
    cases h
    exact (hend _ (by kernel_rfl)).2
   ·
    intro h
    refine q8i (q88 ?_)
    refine q3pf hm hT hC (q3d4 (q3bt d) y9) h fun y11 h=>?_
    refine q3pf hm hT hC (q3d8 (q3bt d) y11) h fun y12 h=>?_
    refine q8m ?_
    refine q3pf hm hT hC (q3dc (q3bt d) y12) h fun y13 h=>?_
    refine q8n ?_
    refine q8s (G:=iter (q3e8 d )) (S:=(fun x1=>⟨[(2,i6 x1.1),(3,.ptr 0 0),(4,.ptr 1 0),(7,.bool x1.2.1),(8,.ptr 2 0),(14,.rs 3),(15,.bool x1.2.2.1),(16,i6 x1.2.2.2.1)],[.cells [.fz Riii x1.2.2.2.2.1],.cells [i6 x1.2.2.2.2.2.1,i6 x1.2.2.2.2.2.2.1],.cells [i6 x1.2.2.2.2.2.2.2.1,i6 x1.2.2.2.2.2.2.2.2.1],.rows Rii x1.2.2.2.2.2.2.2.2.2]⟩:Int×Bool×Bool×Int×List Diii×Int×Int×Int×Int×List Dii→St)) (fun _=>rfl) ?_ d _ h
    intro n1 x1 h K1 hn1
    replace h:q3e8 d  (iter (q3e8 d ) n1) x1=some r:=h
    generalize iter (q3e8 d ) n1=self1 at h hn1
    unfold q3e8 at h
    refine q8m ?_
    refine q3pf hm hT hC (q3dg (q3bt d) x1) h fun y14 h=>?_
    refine q8q (v:=y14.2.2.2.2.1) (by kernel_rfl) h ?_ ?_
    ·
     intro h
     refine q8i (q88 ?_)
     refine q8p (r:=r) (F:=q3e5 d self1) (S:=(fun z=>⟨[(2,i6 z.1),(3,.ptr 0 0),(4,.ptr 1 0),(7,.bool z.2.1),(8,.ptr 2 0),(14,.rs 3),(15,.bool z.2.2.1),(16,i6 z.2.2.2.1)],[.cells [.fz Riii z.2.2.2.2.1],.cells [i6 z.2.2.2.2.2.1,i6 z.2.2.2.2.2.2.1],.cells [i6 z.2.2.2.2.2.2.2.1,i6 z.2.2.2.2.2.2.2.2.1],.rows Rii z.2.2.2.2.2.2.2.2.2]⟩:Int×Bool×Bool×Int×List Diii×Int×Int×Int×Int×List Dii→St)) ?_ ?_
     ·
      intro z h
      unfold q3e5 at h
      refine q8r hm hT hC (q3e4 (q3bt d) z) h ?_
      intro y15 h
      exact hn1 _ h
     intro hj2
     refine q8n (q8m ?_)
     refine q3pf hm hT hC (q3dk (q3bt d) y14) h fun y16 h=>?_
     refine q8q (v:=y16.2.2.2.2.1) (by kernel_rfl) h ?_ ?_
     ·
      intro h
      refine q3pf hm hT hC (q3dm (q3bt d) y16) h fun y17 h=>?_
      refine q8l (q8a (q8c (q8a (q8a (q8c (q8a ?_))))))
      cases h
      exact (hend _ (by kernel_rfl)).2
     ·
      intro h
      refine q8i (q88 ?_)
      refine q3pf hm hT hC (q3do (q3bt d) y16) h fun y18 h=>?_
      refine q3pf hm hT hC (q3ds (q3bt d) y18) h fun y19 h=>?_
      refine q8q (v:=y19.2.2.2.2.1) (by kernel_rfl) h ?_ ?_
      ·
       intro h
       refine q3pf hm hT hC (q3dw (q3bt d) y19) h fun y20 h=>?_
       refine q3pf hm hT hC (q3e0 (q3bt d) y20) h fun y21 h=>?_
       refine q8q (v:=y21.2.2.2.2.1) (by kernel_rfl) h ?_ ?_
       ·
        intro h
        refine q3pf hm hT hC (q3e2 (q3bt d) y21) h fun y22 h=>?_
        refine q8l (q8c (q8a (q8a (q8c (q8a ?_)))))
        cases h
        exact (hend _ (by kernel_rfl)).2
       ·
        intro h
        refine q8i (q8b ?_)
        refine qdj (s:=⟨[(2,.int .i64 y21.1),(3,.ptr 0 0),(4,.ptr 1 0),(7,.bool y21.2.1),(8,.ptr 2 0),(14,.rs 3),(15,.bool y21.2.2.1),(16,.int .i64 y21.2.2.2.1)],[.cells [.fz Riii y21.2.2.2.2.2.1],.cells [.int .i64 y21.2.2.2.2.2.2.1,.int .i64 y21.2.2.2.2.2.2.2.1],.cells [.int .i64 y21.2.2.2.2.2.2.2.2.1,.int .i64 y21.2.2.2.2.2.2.2.2.2.1],.rows Rii y21.2.2.2.2.2.2.2.2.2.2]⟩) [133] (by kernel_rfl) ?_
        exact hj2 _ h
      ·
       intro h
       refine q8i (q8b ?_)
       refine qdj (s:=⟨[(2,.int .i64 y19.1),(3,.ptr 0 0),(4,.ptr 1 0),(7,.bool y19.2.1),(8,.ptr 2 0),(14,.rs 3),(15,.bool y19.2.2.1),(16,.int .i64 y19.2.2.2.1)],[.cells [.fz Riii y19.2.2.2.2.2.1],.cells [.int .i64 y19.2.2.2.2.2.2.1,.int .i64 y19.2.2.2.2.2.2.2.1],.cells [.int .i64 y19.2.2.2.2.2.2.2.2.1,.int .i64 y19.2.2.2.2.2.2.2.2.2.1],.rows Rii y19.2.2.2.2.2.2.2.2.2.2]⟩) [116] (by kernel_rfl) ?_
       exact hj2 _ h
    ·
     intro h
     refine q8k (q89 (q89 (q8d (q88 ?_))))
     refine q3pf hm hT hC (q3e7 (q3bt d) y14) h fun y23 h=>?_
     refine q8l ?_
     cases h
     exact (hend _ (by kernel_rfl)).2
end Go.Proofs.YtbjpmdhdoggobaaGreat

namespace Go.Proofs.YtbjpmdhdoggobaaGreat
open Go Go.Tx Go.Pel
theorem q3eb (d:Nat) (a b:Int):qyk d ((a,()),(b,()),())=some (cmpZ a b):=by
  simp only [qyk,qx8,qxc,qxg,qxk,qxo,qxs,qxw,qxy,qy2,qy4,qy8,qya,qye,qyg,qyi,qx0,qwq,qwu,qwy,Dt.eval,bne_self_eq_false,cond_false]
  unfold cmpZ
  by_cases h1:a<b
  · simp only [h1,decide_true,cond_true,if_true]
  · by_cases h2 : b < a
    · simp only [h1,h2,gt_iff_lt,decide_true,decide_false,cond_true,cond_false,if_true,if_false]
    · simp only [h1,h2,gt_iff_lt,decide_false,cond_false,if_false]
theorem q3ec (d:Nat) (a b:Int):q11y d ((a,()),(b,()),())=some (cmpZ a b):=by
  simp only [q11y,q10m,q10q,q10u,q10y,q112,q116,q11a,q11c,q11g,q11i,q11m,q11o,q11s,q11u,q11w,q10e,q104,q108,q10c,Dt.eval,bne_self_eq_false,cond_false]
  unfold cmpZ
  by_cases h1:a<b
  · simp only [h1,decide_true,cond_true,if_true]
  · by_cases h2 : b < a
    · simp only [h1,h2,gt_iff_lt,decide_true,decide_false,cond_true,cond_false,if_true,if_false]
    · simp only [h1,h2,gt_iff_lt,decide_false,cond_false,if_false]
theorem q3ed (d:Nat) (a:Int) (h:i64B a=true):qz8 d ((a,()),())=some (a.natAbs:Int):=by
  have h:=qjh h
  simp only [qz8,qys,qyw,qz0,qz4,qz6,Dt.eval]
  by_cases h1:a<0
  · simp only [h1, decide_true, cond_true, IntKind.wrap_u64]
    exact congrArg some (by omega:((0:Int) - a % 18446744073709551616) % 18446744073709551616=(a.natAbs:Int))
  · simp only [h1, decide_false, cond_false, IntKind.wrap_u64]
    exact congrArg some (by omega:(a % 18446744073709551616:Int)=(a.natAbs:Int))
theorem q3ef (d:Nat) (a b:Int) (ha:i64B a=true) (hb:i64B b=true):qzw d ((a,()),(b,()),())=some (!((decide (a<0)) == (decide (b<0))),(((a*b).natAbs / 18446744073709551616:Nat):Int),(((a*b).natAbs % 18446744073709551616:Nat):Int)):=by
  have e1:=q3ed d a ha
  have e2:=q3ed d b hb
  have ha':=qjh ha
  have hb':=qjh hb
  have e3:qmv d (((a.natAbs:Int),()),((b.natAbs:Int),()),())=some (((a.natAbs:Int)*(b.natAbs:Int)) / 18446744073709551616,((a.natAbs:Int)*(b.natAbs:Int)) % 18446744073709551616):=by
    rw [qmw _ _ (by unfold qmu u64B;simp only [Bool.and_eq_true,decide_eq_true_eq];omega)]
  simp only [qzw,qzg,qzm,qzq,qzu,Dt.eval,e1,e2,e3]
  rw [Int.natAbs_mul]
  simp
theorem ltZ (a b:Int):cmpZ a b=-1∧a<b∨cmpZ a b=0∧a=b∨cmpZ a b=1∧b<a:=by
  unfold cmpZ
  repeat' split
  all_goals omega
theorem q3eg (d:Nat) (n1 n2:Bool) (P Q:Nat):q12s d ((n1,((P / 18446744073709551616:Nat):Int),((P % 18446744073709551616:Nat):Int),()),(n2,((Q / 18446744073709551616:Nat):Int),((Q % 18446744073709551616:Nat):Int),()),())=some (cmpZ (P:Int) (Q:Int)):=by
  simp only [q12s,q126,q12c,q12g,q12k,q12o,q12q,Dt.eval,q3ec]
  rcases ltZ ((P / 18446744073709551616:Nat):Int) ((Q / 18446744073709551616:Nat):Int) with ⟨h1,h2⟩ | ⟨h1,h2⟩ | ⟨h1,h2⟩
  · simp only [h1, show ((-1 : Int) != 0) = true from rfl, cond_true]
    rw [qkw (by omega)]
  · simp only [h1, show ((0 : Int) != 0) = false from rfl, cond_false]
    rcases ltZ (P:Int) (Q:Int) with ⟨k1,k2⟩ | ⟨k1,k2⟩ | ⟨k1,k2⟩
    · rw [k1,qkw (by omega)]
    · rw [k1,qky (by omega)]
    · rw [k1,qkx (by omega)]
  · simp only [h1, show ((1 : Int) != 0) = true from rfl, cond_true]
    rw [qkx (by omega)]
theorem q3eh (d:Nat) (n1 d1 n2 d2:Int) (h1:i64B n1=true) (h2:i64B d1=true) (h3:i64B n2=true) (h4:i64B d2=true):qwi d ((n1,d1,()),(n2,d2,()),())=some (tmax (qdm n1 d1) (qdm n2 d2)):=by
  have e1:qnd d ((n1,d1,()),())=some (qdm n1 d1):=qne _ _ (by unfold qnc;simp only [h1,h2,Bool.and_self])
  have e2:qnd d ((n2,d2,()),())=some (qdm n2 d2):=qne _ _ (by unfold qnc;simp only [h3,h4,Bool.and_self])
  simp only [qwi,qw6,qwc,qwg,Dt.eval,e1,e2]
def cmpR (n1 d1 n2 d2:Int):Int×Int:=if qdm n1 d1=0∧qdm n2 d2=0 then (cmpQ n1 d1 n2 d2,0) else (0,8)
theorem q3ei (d:Nat) (n1 d1 n2 d2:Int) (h1:i64B n1=true) (h2:i64B d1=true) (h3:i64B n2=true) (h4:i64B d2=true):q145 d ((n1,d1,()),(n2,d2,()),())=some (cmpR n1 d1 n2 d2):=by
  unfold cmpR
  have e0:=q3eh d n1 d1 n2 d2 h1 h2 h3 h4
  by_cases hc:qdm n1 d1=0∧qdm n2 d2=0
  · rw [if_pos hc]
    rw [hc.1,hc.2] at e0
    obtain ⟨g1,_,_⟩:=qdt hc.1
    obtain ⟨g2,_,_⟩:=qdt hc.2
    have e1:=q3ef d n1 d2 h1 h4
    have e2:=q3ef d n2 d1 h3 h2
    have e3:=q3eb d n1 n2
    simp only [q145,q130,q136,q13a,q13e,q13i,q13m,q13o,q13s,q13w,q140,q142,q144,Dt.eval,e0,e1,e2,e3,q3eg,show tmax 0 0=0 from rfl,show ((0:Int) != 0)=false from rfl,cond_false]
    unfold cmpQ
    have p1:0<d1:=by omega
    have p2:0<d2:=by omega
    have s1:(n1<0→n1*d2<0)∧(0≤n1→0≤n1*d2):=⟨fun h=>Int.mul_neg_of_neg_of_pos h p2,fun h=>Int.mul_nonneg h (by omega)⟩
    have s2:(n2<0→n2*d1<0)∧(0≤n2→0≤n2*d1):=⟨fun h=>Int.mul_neg_of_neg_of_pos h p1,fun h=>Int.mul_nonneg h (by omega)⟩
    generalize n1*d2=P at *
    generalize n2*d1=Q at *
    by_cases k1:n1<0<;>by_cases k2:n2<0<;>simp only [k1,k2,decide_true,decide_false,beq_self_eq_true,Bool.not_true,Bool.not_false,cond_true,cond_false,Bool.false_beq,Bool.true_beq]
    · have := s1.1 k1
      have:=s2.1 k2
      rcases ltZ (P.natAbs:Int) (Q.natAbs:Int) with ⟨g1,g2⟩ | ⟨g1,g2⟩ | ⟨g1,g2⟩
      · rw [g1,qkx (a:=P) (b:=Q) (by omega)];rfl
      · rw [g1,qky (a:=P) (b:=Q) (by omega)];rfl
      · rw [g1,qkw (a:=P) (b:=Q) (by omega)];rfl
    · have := s1.1 k1
      have:=s2.2 (by omega)
      rw [qkw (by omega),qkw (by omega)]
    · have := s1.2 (by omega)
      have:=s2.1 k2
      rw [qkx (by omega),qkx (by omega)]
    · have := s1.2 (by omega)
      have:=s2.2 (by omega)
      rw [show (P.natAbs:Int)=P by omega,show (Q.natAbs:Int)=Q by omega]
  · rw [if_neg hc]
    have e1:tmax (qdm n1 d1) (qdm n2 d2)=8:=by
      unfold tmax
      rcases qds n1 d1 with q1 | q1<;>rcases qds n2 d2 with q2 | q2
      · exact absurd ⟨q1,q2⟩ hc
      all_goals rw [q1,q2];rfl
    rw [e1] at e0
    simp only [q145,q130,q136,q13a,q13e,q13i,Dt.eval,e0,show ((8:Int) != 0)=true from rfl,cond_true]
theorem q3ej (d:Nat) (P:Int):q2fa d ((decide (P<0),((P.natAbs / 18446744073709551616:Nat):Int),((P.natAbs % 18446744073709551616:Nat):Int),()),())=some (cmpZ P 0):=by
  simp only [q2fa,q2em,q2es,q2ew,q2f0,q2f4,q2f6,q2f8,Dt.eval]
  by_cases h0:P=0
  · subst h0;rfl
  · have hne : ¬ (((P.natAbs / 18446744073709551616 : Nat) : Int) = 0 ∧ ((P.natAbs % 18446744073709551616 : Nat) : Int) = 0) := by omega
    have hh:(bif (((P.natAbs / 18446744073709551616:Nat):Int) == 0) then (((P.natAbs % 18446744073709551616:Nat):Int) == 0) else false)=false:=by
      cases h1:(((P.natAbs / 18446744073709551616:Nat):Int) == 0) with
      | false=>rfl
      | true=>rw [cond_true,beq_eq_false_iff_ne];rw [beq_iff_eq] at h1;intro h2;exact hne ⟨h1,h2⟩
    cases h1:(((P.natAbs / 18446744073709551616:Nat):Int) == 0) with
    | false =>
      simp only [cond_false]
      rcases ltZ P 0 with ⟨k1,k2⟩ | ⟨k1,k2⟩ | ⟨k1,k2⟩
      · simp only [k1,k2,decide_true,cond_true]
      · exact absurd k2 h0
      · simp only [k1,show ¬ P<0 by omega,decide_false,cond_false]
    | true =>
      rw [h1,cond_true] at hh
      simp only [cond_true,hh,cond_false]
      rcases ltZ P 0 with ⟨k1,k2⟩ | ⟨k1,k2⟩ | ⟨k1,k2⟩
      · simp only [k1,k2,decide_true,cond_true]
      · exact absurd k2 h0
      · simp only [k1,show ¬ P<0 by omega,decide_false,cond_false]
theorem q3ek (d:Nat) (n1 n2:Bool) (P Q:Nat):q1ln d ((n1,((P / 18446744073709551616:Nat):Int),((P % 18446744073709551616:Nat):Int),()),(n2,((Q / 18446744073709551616:Nat):Int),((Q % 18446744073709551616:Nat):Int),()),())=some (cmpZ (P:Int) (Q:Int)):=by
  simp only [q1ln,q1kn,q1kt,q1kx,q1l1,q1l5,q1l7,q1lb,q1lf,q1lh,q1lj,q1ll,Dt.eval]
  obtain ⟨a,ha⟩:∃ a:Int,((P / 18446744073709551616:Nat):Int)=a:=⟨_,rfl⟩
  obtain ⟨b,hb⟩:∃ a:Int,((P % 18446744073709551616:Nat):Int)=a:=⟨_,rfl⟩
  obtain ⟨c,hc⟩:∃ a:Int,((Q / 18446744073709551616:Nat):Int)=a:=⟨_,rfl⟩
  obtain ⟨e,he⟩:∃ a:Int,((Q % 18446744073709551616:Nat):Int)=a:=⟨_,rfl⟩
  rw [ha,hb,hc,he]
  rcases ltZ a c with ⟨_,k2⟩ | ⟨_,k2⟩ | ⟨_,k2⟩
  · have e1 : (a != c) = true := by simp; omega
    simp only [e1,k2,decide_true,cond_true]
    rw [qkw (by omega)]
  · have e1 : (a != c) = false := by simp; omega
    simp only [e1,cond_false]
    rcases ltZ b e with ⟨_,g2⟩ | ⟨_,g2⟩ | ⟨_,g2⟩
    · have e2 : (b != e) = true := by simp; omega
      simp only [e2,g2,decide_true,cond_true]
      rw [qkw (by omega)]
    · have e2 : (b != e) = false := by simp; omega
      simp only [e2,cond_false]
      rw [qky (by omega)]
    · have e2 : (b != e) = true := by simp; omega
      simp only [e2,show ¬ b<e by omega,decide_false,cond_true,cond_false]
      rw [qkx (by omega)]
  · have e1 : (a != c) = true := by simp; omega
    simp only [e1,show ¬ a<c by omega,decide_false,cond_true,cond_false]
    rw [qkx (by omega)]
theorem q3el (d:Nat) (n1 d1 n2 d2:Int) (h1:i64B n1=true) (h2:i64B d1=true) (h3:i64B n2=true) (h4:i64B d2=true):q2gg d ((n1,d1,()),(n2,d2,()),())=some (cmpQ n1 d1 n2 d2):=by
  have e1:qn4 d ((n1,()),(d2,()),())=some (decide (n1*d2<0),(((n1*d2).natAbs / 18446744073709551616:Nat):Int),(((n1*d2).natAbs % 18446744073709551616:Nat):Int)):=qn5 _ _ (by unfold qn3;simp only [h1,h4,Bool.and_self])
  have e2:qn4 d ((n2,()),(d1,()),())=some (decide (n2*d1<0),(((n2*d1).natAbs / 18446744073709551616:Nat):Int),(((n2*d1).natAbs % 18446744073709551616:Nat):Int)):=qn5 _ _ (by unfold qn3;simp only [h3,h2,Bool.and_self])
  unfold cmpQ
  generalize n1*d2=P at *
  generalize n2*d1=Q at *
  have hs:=@qmi P Q
  have hn:=@qmj P Q
  have hp:=@qmk P Q
  simp only [q2gg,q2fi,q2fo,q2fs,q2fw,q2g0,q2g4,q2g6,q2ga,q2gc,q2ge,Dt.eval,e1,e2,q3ej,q3ek]
  by_cases hg:cmpZ P 0=cmpZ Q 0
  · have g1 : (cmpZ P 0 != cmpZ Q 0) = false := by simp [hg]
    simp only [g1,cond_false]
    by_cases h0:cmpZ P 0<0
    · simp only [h0,decide_true,cond_true];rw [hn hg h0]
    · simp only [h0,decide_false,cond_false];rw [hp hg h0]
  · have g1 : (cmpZ P 0 != cmpZ Q 0) = true := by simp [hg]
    simp only [g1,cond_true]
    have:=hs hg
    by_cases h0:cmpZ P 0<cmpZ Q 0
    · rw [if_pos h0] at this;simp only [h0,decide_true,cond_true];rw [this]
    · rw [if_neg h0] at this;simp only [h0,decide_false,cond_false];rw [this]
end Go.Proofs.YtbjpmdhdoggobaaGreat

namespace Go.Tx
open Go
end Go.Tx

namespace Go.Pel
open Go Go.Tx
abbrev T3:Type:=Int×Int×Int×Unit
abbrev M4:Type:=Int×Int×Int×Int×Unit
theorem q_le {a b c d1 d2 d3:Int} (h1:1≤d1) (h2:1≤d2) (h3:1≤d3) (h:a*d2≤b*d1) (k:b*d3≤c*d2):a*d3≤c*d1:=by
  have e1:a*d3*d2≤c*d1*d2:=by
    have:=Int.mul_le_mul_of_nonneg_right h (show (0:Int)≤d3 by omega)
    have:=Int.mul_le_mul_of_nonneg_right k (show (0:Int)≤d1 by omega)
    rw [Int.mul_right_comm a d3 d2,Int.mul_right_comm c d1 d2]
    have e:b*d1*d3=b*d3*d1:=Int.mul_right_comm b d1 d3
    omega
  exact Int.le_of_mul_le_mul_right e1 (by omega)
theorem q_lt {a b c d1 d2 d3:Int} (h1:1≤d1) (h2:1≤d2) (h3:1≤d3) (h:a*d2<b*d1) (k:b*d3≤c*d2):a*d3<c*d1:=by
  have e1:a*d3*d2<c*d1*d2:=by
    have:=Int.mul_lt_mul_of_pos_right h (show (0:Int)<d3 by omega)
    have:=Int.mul_le_mul_of_nonneg_right k (show (0:Int)≤d1 by omega)
    rw [Int.mul_right_comm a d3 d2,Int.mul_right_comm c d1 d2]
    have e:b*d1*d3=b*d3*d1:=Int.mul_right_comm b d1 d3
    omega
  exact Int.lt_of_mul_lt_mul_right e1 (by omega)
theorem q3ep {a b c d1 d2 d3:Int} (h1:1≤d1) (h2:1≤d2) (h3:1≤d3) (h:a*d2≤b*d1) (k:b*d3<c*d2):a*d3<c*d1:=by
  have e1:a*d3*d2<c*d1*d2:=by
    have:=Int.mul_le_mul_of_nonneg_right h (show (0:Int)≤d3 by omega)
    have:=Int.mul_lt_mul_of_pos_right k (show (0:Int)<d1 by omega)
    rw [Int.mul_right_comm a d3 d2,Int.mul_right_comm c d1 d2]
    have e:b*d1*d3=b*d3*d1:=Int.mul_right_comm b d1 d3
    omega
  exact Int.lt_of_mul_lt_mul_right e1 (by omega)
theorem q_eq {a b d1 d2:Int} (h1:qdm a d1=0) (h2:qdm b d2=0) (h:a*d2=b*d1):a=b∧d1=d2:=by
  obtain ⟨p1,_,g1⟩:=qdt h1
  obtain ⟨p2,_,g2⟩:=qdt h2
  have hn:a.natAbs*d2.toNat=b.natAbs*d1.toNat:=by
    have:=congrArg Int.natAbs h
    rw [Int.natAbs_mul,Int.natAbs_mul] at this
    rwa [show d2.natAbs=d2.toNat by omega,show d1.natAbs=d1.toNat by omega] at this
  have k1:d1.toNat ∣ d2.toNat:=Nat.Coprime.dvd_of_dvd_mul_left (k:=d1.toNat) (m:=a.natAbs) (n:=d2.toNat) g1 ⟨b.natAbs,by rw [hn,Nat.mul_comm]⟩
  have k2:d2.toNat ∣ d1.toNat:=Nat.Coprime.dvd_of_dvd_mul_left (k:=d2.toNat) (m:=b.natAbs) (n:=d1.toNat) g2 ⟨a.natAbs,by rw [← hn,Nat.mul_comm]⟩
  have e:d1.toNat=d2.toNat:=Nat.dvd_antisymm k1 k2
  have e':d1=d2:=by omega
  subst e'
  exact ⟨Int.eq_of_mul_eq_mul_right (by omega) h,rfl⟩
def okM (x:M4):Prop:=qdm x.1 x.2.1=0
theorem q3ey {n d:Int} (hd:d≠0) (hn:n.natAbs≤4194304) (hd2:d.natAbs≤4194304):(mk n d).2.2=0∧qdm (mk n d).1 (mk n d).2.1=0∧(mk n d).1.natAbs≤4194304∧(mk n d).2.1≤4194304:=by
  have hg:=qei (n:=n) hd
  rw [qeh hd]
  have b1:n.natAbs / Nat.gcd n.natAbs d.natAbs≤n.natAbs:=Nat.div_le_self _ _
  have b2:d.natAbs / Nat.gcd n.natAbs d.natAbs≤d.natAbs:=Nat.div_le_self _ _
  have b3:1≤d.natAbs / Nat.gcd n.natAbs d.natAbs:=Nat.div_pos (Nat.gcd_le_right _ (by omega)) hg
  have hc:Nat.gcd (d.natAbs / Nat.gcd n.natAbs d.natAbs) (n.natAbs / Nat.gcd n.natAbs d.natAbs)=1:=by
    rw [Nat.gcd_comm];exact Nat.coprime_div_gcd_div_gcd hg
  generalize n.natAbs / Nat.gcd n.natAbs d.natAbs=A at *
  generalize d.natAbs / Nat.gcd n.natAbs d.natAbs=B at *
  have hno:¬ (0<0∨9223372036854775807<A∨0<0∨9223372036854775807<B):=by omega
  cases (decide (n<0) != decide (d<0)) with
  | true =>
    rw [qed hno]
    refine ⟨rfl,qdp (by simp only;omega) (by simp only;omega) ?_,by simp only;omega,by simp only;omega⟩
    simp only [Int.toNat_natCast,Int.natAbs_neg,Int.natAbs_natCast];exact hc
  | false =>
    rw [qee hno]
    refine ⟨rfl,qdp (by simp only;omega) (by simp only;omega) ?_,by simp only;omega,by simp only;omega⟩
    simp only [Int.toNat_natCast,Int.natAbs_natCast];exact hc
def mtP (x:T3×T3):Option M4:=if x.1.2.2.1=x.2.2.2.1 then none else some ((mk (x.1.2.1 - x.2.2.1) (x.2.2.2.1 - x.1.2.2.1)).1,(mk (x.1.2.1 - x.2.2.1) (x.2.2.2.1 - x.1.2.2.1)).2.1,x.1.1,x.2.1,())
def okP (p:T3):Prop:=(ofP p).chk=0
structure FldOk (l:List T3):Prop where
  len:l.length≤64
  ok:∀ p∈l,okP p
  inc:l.Pairwise fun p q=>p.1<q.1
end Go.Pel

namespace Go.Tx
theorem q3fa {α:Type} {f g:α→α→Bool} {x:α}:∀ {l:List α},(∀ a∈l,f x a=g x a)→insL f x l=insL g x l
  | [],_=>rfl
  | y :: ys, h => by
    rw [insL,insL,h y (List.mem_cons_self ..),q3fa fun a ha=>h a (List.mem_cons_of_mem _ ha)]
theorem q3fb {α:Type} {f g:α→α→Bool}:∀ {l:List α},(∀ a∈l,∀ b∈l,f a b=g a b)→qtm f l=qtm g l
  | [],_=>rfl
  | x :: xs, h => by
    rw [qtm,qtm,q3fb fun a ha b hb=>h a (List.mem_cons_of_mem _ ha) b (List.mem_cons_of_mem _ hb)]
    exact q3fa fun a ha=>h x (List.mem_cons_self ..) a (List.mem_cons_of_mem _ ((qtp g xs).mem_iff.1 ha))
theorem q3fd {τ:Row} {F:den τ×den τ×Unit→Option Int} {S:den τ→Prop} {lt:den τ→den τ→Bool} {c:den τ→den τ→Int} {xs:List (den τ)} (hS:∀ x∈xs,S x) (hF:∀ x y,S x→S y→F (x,y,())=some (c x y)) (hc:∀ x y,lt x y=decide (c x y<0)) (hi:∀ x,lt x x=false)
    (ht:∀ x y z,S x→S y→S z→lt x y=true→lt y z=true→lt x z=true) (hn:∀ x y z,S x→S y→S z→lt x y=false→lt y z=false→lt x z=false) (he:∀ x y,S x→S y→lt x y=false→lt y x=false→eqR τ x y=true) (hl:xs.length≤1000000):qtn F xs=some (qtm lt xs):=by
  have hlt:∀ x y,S x→S y→ltV F x y=lt x y:=fun x y hx hy=>by unfold ltV cmpV;rw [hF x y hx hy,hc]
  have hB:qtl F xs=true:=by
    unfold qtl
    simp only [Bool.and_eq_true,List.all_eq_true,Bool.or_eq_true,Bool.not_eq_true']
    refine ⟨⟨⟨⟨fun x hx y hy=>?_,fun x hx=>?_⟩,fun x hx y hy=>?_⟩,fun x hx y hy=>?_⟩,fun x hx y hy=>?_⟩
    · rw [hF x y (hS x hx) (hS y hy)];rfl
    · rw [hlt x x (hS x hx) (hS x hx)];exact hi x
    · rw [hlt x y (hS x hx) (hS y hy)]
      cases hxy:lt x y with
      | false=>exact .inl rfl
      | true =>
        refine .inr fun z hz=>?_
        rw [hlt y z (hS y hy) (hS z hz),hlt x z (hS x hx) (hS z hz)]
        cases hyz:lt y z with
        | false=>exact .inl rfl
        | true=>exact .inr (ht x y z (hS x hx) (hS y hy) (hS z hz) hxy hyz)
    · rw [hlt x y (hS x hx) (hS y hy)]
      cases hxy:lt x y with
      | true=>exact .inl rfl
      | false =>
        refine .inr fun z hz=>?_
        rw [hlt y z (hS y hy) (hS z hz),hlt x z (hS x hx) (hS z hz)]
        cases hyz:lt y z with
        | true=>exact .inl rfl
        | false=>exact .inr (hn x y z (hS x hx) (hS y hy) (hS z hz) hxy hyz)
    · rw [hlt x y (hS x hx) (hS y hy), hlt y x (hS y hy) (hS x hx)]
      cases hxy:lt x y with
      | true=>exact .inl (.inl rfl)
      | false =>
        cases hyx:lt y x with
        | true=>exact .inl (.inr rfl)
        | false=>exact .inr (he x y (hS x hx) (hS y hy) hxy hyx)
  unfold qtn
  rw [hB,show Nat.ble xs.length 1000000=true by rw [Nat.ble_eq];exact hl]
  exact congrArg some (q3fb fun a ha b hb=>hlt a b (hS a ha) (hS b hb))
end Go.Tx
namespace Go.Proofs.YtbjpmdhdoggobaaGreat
open Go Go.Tx Go.Pel
theorem q3fe {a:Int} (h:a.natAbs≤9223372036854775807):i64B a=true:=by
  unfold i64B;simp only [Bool.and_eq_true,decide_eq_true_eq];omega
structure okW (x:M4):Prop where
  ok:okM x
  n:x.1.natAbs≤4194304
  d:x.2.1≤4194304
theorem okW.b1 {x:M4} (h:okW x):i64B x.1=true:=q3fe (by have:=h.n;omega)
theorem okW.b2 {x:M4} (h:okW x):i64B x.2.1=true:=q3fe (by have:=h.d;have:=(qdt h.ok).1;omega)
theorem q3ff {p:T3} (h:okP p):0≤p.1∧p.1≤65535∧-1048576≤p.2.1∧p.2.1≤1048576∧-1048576≤p.2.2.1∧p.2.2.1≤1048576:=qe4 (show qe0 p.1 p.2.1 p.2.2.1=0 from h)
end Go.Proofs.YtbjpmdhdoggobaaGreat
