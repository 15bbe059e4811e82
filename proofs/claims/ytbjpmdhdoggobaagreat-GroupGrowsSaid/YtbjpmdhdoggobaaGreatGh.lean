/- Walks of the references; the orders agree; examples. -/
import Derived.Test.YtbjpmdhdoggobaaGreatGg
set_option linter.unusedSimpArgs false
set_option linter.unusedVariables false
namespace Go.Proofs.YtbjpmdhdoggobaaGreat
open Go Go.Tx Go.Proofs.Tryz
set_option maxRecDepth 100000
set_option maxHeartbeats 0
abbrev q2w1:List Pk:=[.row qjw true]
abbrev q2w2:Type:=qjx×Unit
abbrev q2w3:Type:=Bool
def q2w4 (r:q2w3):LV×List Ob:=(.bool r,[])
def q2w5 (F:q2w2→Option q2w3):Go.Tx.Spec:=⟨9,q2w1,q2w3,F,q2w4⟩
abbrev q2w6:Type:=Unit
def q2w7 (_d:Nat):q2w6:=()
def q2w8 (C:q2w6):List Go.Tx.Spec:=[]
abbrev q2w9:Type:=List Diii
def q2wa (v:q2w9):St:=⟨[(0,.agg [.fz Riii v])],[]⟩
abbrev q2wb:Type:=List Diii
def q2wc (v:q2wb):St:=⟨[(1,.ptr 0 0)],[.cells [.fz Riii v]]⟩
def q2wd (C:q2w6) (v:q2w9):Dt q2wb:=(Dt.ret v)
abbrev q3r6 {V Y:Type}:=@rg q2w6 V Y tysT (fun C=>(orc (q2w8 C))) 19
theorem q2we C v:q3r6 (regO (qdk f9) 0) false [(1,(.box [.val Riii]))] q2wa q2wd q2wc C v:=rgI (by kernel_rfl)
abbrev q2wf:Type:=Bool
def q2wg (v:q2wf):St:=⟨[(2,.bool v)],[]⟩
def q2wh (C:q2w6) (v:q2wb):Dt q2wf:=(Dt.ite (decide ((List.length v:Int) > (16:Int))) (Dt.ite (decide ((List.length v:Int)≤(64:Int))) (Dt.ret true) (Dt.ret (decide ((List.length v:Int) > (70:Int))))) (Dt.ret (decide ((List.length v:Int) > (70:Int)))))
theorem q2wi C v:q3r6 (regO (qdk f9) 1) false [(2,.any)] q2wc q2wh q2wg C v:=rgI (by kernel_rfl)
def q2wj (d:Nat) (x:q2w2):Option q2w3 :=
 (q2wd (q2w7 d) x.1.1).eval fun y0 =>
 (q2wh (q2w7 d) y0).eval fun y1 =>
 some y1
theorem q2wk (d:Nat):COK prog (q2w5 (q2wj d)):=by
 have hm:prog.follows .mixedOrders=true:=mixed
 have hT:=tys
 have hC0:OrcOK prog (orc (q2w8 (q2w7 d))):=qde (by
  intro S hS
  simp only [q2w8,List.mem_cons,List.not_mem_nil,or_false] at hS
  all_goals first | cases hS | exact hS.elim)
 have hC:OrcOK prog (orc (q2w8 (q2w7 d))):=hC0
 refine q93 (c:=qdk f9) (fn:=f9) hT (by kernel_rfl) (by kernel_rfl) (by decide) fun x r h w0 φ0 Q hend=>?_
 replace h:q2wj d x=some r:=h
 unfold q2wj at h
 show Run prog w0 φ0 19 (qdk f9) ⟨[(0,.agg [.fz Riii x.1.1])],[]⟩ Q
 refine q3pf hm hT hC (q2we (q2w7 d) x.1.1) h fun y0 h=>?_
 refine q3pf hm hT hC (q2wi (q2w7 d) y0) h fun y1 h=>?_
 refine q8l ?_
 cases h
 exact (hend _ (by kernel_rfl)).2
abbrev q2zh:List Pk:=[]
abbrev q2zi:Type:=Unit
abbrev q2zj:Type:=List Diii
def q2zk (r:q2zj):LV×List Ob:=(.agg [.rs 0],[.rows Riii r])
def q2zl (F:q2zi→Option q2zj):Go.Tx.Spec:=⟨40,q2zh,q2zj,F,q2zk⟩
abbrev q2zm:Type:=Unit
def q2zn (_d:Nat):q2zm:=()
def q2zo (C:q2zm):List Go.Tx.Spec:=[]
abbrev q2zp:Type:=Unit
def q2zq (v:q2zp):St:=⟨[],[]⟩
abbrev q2zr:Type:=List Diii
def q2zs (v:q2zr):St:=⟨[(0,.ptr 0 0)],[.cells [.rs 1],.rows Riii v]⟩
def q2zt (C:q2zm) (v:q2zp):Dt q2zr:=(Dt.ret ([]:List Diii))
abbrev q3r9 {V Y:Type}:=@rg q2zm V Y tysT (fun C=>(orc (q2zo C))) 6
theorem q2zu C v:q3r9 (regO (qdk f40) 0) false [(0,(.box [.own Riii]))] q2zq q2zt q2zs C v:=rgI (by kernel_rfl)
def q2zv (C:q2zm) (v:q2zr):Dt q2zr:=(Dt.ret ([((1:Int),(0:Int),(2:Int),()),((2:Int),(6:Int),(-1:Int),()),((5:Int),(0:Int),(0:Int),())]:List Diii))
theorem q2zw C v:q3r9 (regO (qdk f40) 1) false [(0,(.box [.own Riii]))] q2zs q2zv q2zs C v:=rgI (by kernel_rfl)
def q2zx (d:Nat) (x:q2zi):Option q2zj :=
 (q2zt (q2zn d) ()).eval fun y0 =>
 (q2zv (q2zn d) y0).eval fun y1 =>
 some y1
theorem q2zy (d:Nat):COK prog (q2zl (q2zx d)):=by
 have hm:prog.follows .mixedOrders=true:=mixed
 have hT:=tys
 have hC0:OrcOK prog (orc (q2zo (q2zn d))):=qde (by
  intro S hS
  simp only [q2zo,List.mem_cons,List.not_mem_nil,or_false] at hS
  all_goals first | cases hS | exact hS.elim)
 have hC:OrcOK prog (orc (q2zo (q2zn d))):=hC0
 refine q93 (c:=qdk f40) (fn:=f40) hT (by kernel_rfl) (by kernel_rfl) (by decide) fun x r h w0 φ0 Q hend=>?_
 replace h:q2zx d x=some r:=h
 unfold q2zx at h
 show Run prog w0 φ0 6 (qdk f40) ⟨[],[]⟩ Q
 refine q3pf hm hT hC (q2zu (q2zn d) ()) h fun y0 h=>?_
 refine q3pf hm hT hC (q2zw (q2zn d) y0) h fun y1 h=>?_
 refine q8l ?_
 cases h
 exact (hend _ (by kernel_rfl)).2
abbrev q2zz:List Pk:=[.row Ri false]
abbrev q300:Type:=Di×Unit
abbrev q301:Type:=Int×Int
def q302 (r:q301):LV×List Ob:=(.agg [.int .i64 r.1,.int .i64 r.2],[])
def q303 (F:q300→Option q301):Go.Tx.Spec:=⟨25,q2zz,q301,F,q302⟩
abbrev q304:Type:=Unit
def q305 (_d:Nat):q304:=()
def q306 (C:q304):List Go.Tx.Spec:=[]
abbrev q307:Type:=Int
def q308 (v:q307):St:=⟨[(0,i6 v)],[]⟩
abbrev q309:Type:=Int×Int×Int
def q30a (v:q309):St:=⟨[(0,i6 v.1),(2,.ptr 0 0)],[.cells [i6 v.2.1,i6 v.2.2]]⟩
def q30b (C:q304) (v:q307):Dt q309:=(Dt.ret (v,(0:Int),(0:Int)))
abbrev q3ra {V Y:Type}:=@rg q304 V Y tysT (fun C=>(orc (q306 C))) 5
theorem q30c C v:q3ra (regO (qdk f25) 0) false (an [0,2]) q308 q30b q30a C v:=rgI (by kernel_rfl)
abbrev q30d:Type:=Int×Int
def q30e (v:q30d):St:=⟨[(2,.ptr 0 0)],[.cells [i6 v.1,i6 v.2]]⟩
def q30f (C:q304) (v:q309):Dt q30d:=(Dt.ret (v.1,(1:Int)))
theorem q30g C v:q3ra (regO (qdk f25) 1) false [(2,.any)] q30a q30f q30e C v:=rgI (by kernel_rfl)
def q30h (d:Nat) (x:q300):Option q301 :=
 (q30b (q305 d) x.1.1).eval fun y0 =>
 (q30f (q305 d) y0).eval fun y1 =>
 some y1
theorem q30i (d:Nat):COK prog (q303 (q30h d)):=by
 have hm:prog.follows .mixedOrders=true:=mixed
 have hT:=tys
 have hC0:OrcOK prog (orc (q306 (q305 d))):=qde (by
  intro S hS
  simp only [q306,List.mem_cons,List.not_mem_nil,or_false] at hS
  all_goals first | cases hS | exact hS.elim)
 have hC:OrcOK prog (orc (q306 (q305 d))):=hC0
 refine q93 (c:=qdk f25) (fn:=f25) hT (by kernel_rfl) (by kernel_rfl) (by decide) fun x r h w0 φ0 Q hend=>?_
 replace h:q30h d x=some r:=h
 unfold q30h at h
 show Run prog w0 φ0 5 (qdk f25) ⟨[(0,.int .i64 x.1.1)],[]⟩ Q
 refine q3pf hm hT hC (q30c (q305 d) x.1.1) h fun y0 h=>?_
 refine q3pf hm hT hC (q30g (q305 d) y0) h fun y1 h=>?_
 refine q8l ?_
 cases h
 exact (hend _ (by kernel_rfl)).2
abbrev q30j:List Pk:=[]
abbrev q30k:Type:=Unit
abbrev q30l:Type:=Bool
def q30m (r:q30l):LV×List Ob:=(.bool r,[])
def q30n (F:q30k→Option q30l):Go.Tx.Spec:=⟨23,q30j,q30l,F,q30m⟩
abbrev q30o:Type:=(q201→Option q202)×(q21d→Option q21e)×(q2ux→Option q2uy)×(q2ts→Option q2tt)×(q300→Option q301)×(q2d7→Option q2d8)×(q2zi→Option q2zj)×Unit
def q30p (d:Nat):q30o:=(q20m d,q243 d,q2vz d,q2uu d,q30h d,q2ee d,q2zx d,())
def q30q (C:q30o):List Go.Tx.Spec:=[q204 C.1,q21g C.2.1,q2v0 C.2.2.1,q2tv C.2.2.2.1,q303 C.2.2.2.2.1,q2da C.2.2.2.2.2.1,q2zl C.2.2.2.2.2.2.1]
abbrev q30r:Type:=Unit
def q30s (v:q30r):St:=⟨[],[]⟩
def q30t (C:q30o) (v:q30r):Dt q30r:=(Dt.ret ())
abbrev q3rb {V Y:Type}:=@rg q30o V Y tysT (fun C=>(orc (q30q C))) 113
theorem q30u C v:q3rb (regO (qdk f23) 0) false [] q30s q30t q30s C v:=rgI (by kernel_rfl)
abbrev q30v:Type:=List Diii
def q30w (v:q30v):St:=⟨[(1,.ptr 0 0)],[.cells [.fz Riii v]]⟩
def q30x (C:q30o) (v:q30r):Dt q30v:=(Dt.bnd (C.2.2.2.2.2.2.1 (())) fun r1=>(Dt.ret r1))
theorem q30y C v:q3rb (regO (qdk f23) 1) false [(1,(.box [.val Riii]))] q30s q30x q30w C v:=rgI (by kernel_rfl)
abbrev q30z:Type:=Int×List Diii×List Dii
def q310 (v:q30z):St:=⟨[(1,.ptr 0 0),(2,.rs 1),(3,i6 v.1)],[.cells [.fz Riii v.2.1],.rows Rii v.2.2]⟩
def q311 (C:q30o) (v:q30v):Dt q30z:=(Dt.bnd (C.2.2.2.2.1 (((0:Int),()),())) fun r1=>(Dt.bnd (C.1 ((v,()),(r1.1,r1.2,()),())) fun r2=>(Dt.ret (r2.2,v,r2.1))))
theorem q312 C v:q3rb (regO (qdk f23) 2) true [(1,(.box [.val Riii])),(2,(.own Rii)),(3,.any)] q30w q311 q310 C v:=rgI (by kernel_rfl)
abbrev q313:Type:=Int×List DLiE×Int×List Diii×List Dii
def q314 (v:q313):St:=⟨[(1,.ptr 0 0),(2,.rs 1),(3,i6 v.1),(4,.fz RLiE v.2.1),(5,i6 v.2.2.1)],[.cells [.fz Riii v.2.2.2.1],.rows Rii v.2.2.2.2]⟩
def q315 (C:q30o) (v:q30z):Dt q313:=(Dt.bnd (C.2.2.2.2.1 (((0:Int),()),())) fun r1=>(Dt.bnd (C.2.2.2.2.1 (((5:Int),()),())) fun r2=>(Dt.bnd (C.2.1 ((v.2.1,()),(r1.1,r1.2,()),(r2.1,r2.2,()),())) fun r3=>(Dt.ret (v.1,r3.1,r3.2,v.2.1,v.2.2)))))
theorem q316 C v:q3rb (regO (qdk f23) 3) true [(1,(.box [.val Riii])),(2,(.own Rii)),(3,.any),(4,(.val RLiE)),(5,.any)] q310 q315 q314 C v:=rgI (by kernel_rfl)
abbrev q317:Type:=Int×List DLiE×Int×List DLiE×Int×List Diii×List Dii
def q318 (v:q317):St:=⟨[(1,.ptr 0 0),(2,.rs 1),(3,i6 v.1),(4,.fz RLiE v.2.1),(5,i6 v.2.2.1),(6,.fz RLiE v.2.2.2.1),(7,i6 v.2.2.2.2.1)],[.cells [.fz Riii v.2.2.2.2.2.1],.rows Rii v.2.2.2.2.2.2]⟩
def q319 (C:q30o) (v:q313):Dt q317:=(Dt.bnd (C.2.2.2.2.1 (((0:Int),()),())) fun r1=>(Dt.bnd (C.2.2.2.2.1 (((6:Int),()),())) fun r2=>(Dt.bnd (C.2.1 ((v.2.2.2.1,()),(r1.1,r1.2,()),(r2.1,r2.2,()),())) fun r3=>(Dt.ret (v.1,v.2.1,v.2.2.1,r3.1,r3.2,v.2.2.2.1,v.2.2.2.2)))))
theorem q31a C v:q3rb (regO (qdk f23) 4) true [(1,(.box [.val Riii])),(2,(.own Rii)),(3,.any),(4,(.val RLiE)),(5,.any),(6,(.val RLiE)),(7,.any)] q314 q319 q318 C v:=rgI (by kernel_rfl)
abbrev q31b:Type:=Int×List DLiE×Int×List DLiE×Int×List DLiE×Int×List Diii×List Dii
def q31c (v:q31b):St:=⟨[(1,.ptr 0 0),(2,.rs 1),(3,i6 v.1),(4,.fz RLiE v.2.1),(5,i6 v.2.2.1),(6,.fz RLiE v.2.2.2.1),(7,i6 v.2.2.2.2.1),(8,.fz RLiE v.2.2.2.2.2.1),(9,i6 v.2.2.2.2.2.2.1)],[.cells [.fz Riii v.2.2.2.2.2.2.2.1],.rows Rii v.2.2.2.2.2.2.2.2]⟩
def q31d (C:q30o) (v:q317):Dt q31b:=(Dt.bnd (C.2.2.2.2.1 (((0:Int),()),())) fun r1=>(Dt.bnd (C.2.2.2.2.1 (((0:Int),()),())) fun r2=>(Dt.bnd (C.2.1 ((v.2.2.2.2.2.1,()),(r1.1,r1.2,()),(r2.1,r2.2,()),())) fun r3=>(Dt.ret (v.1,v.2.1,v.2.2.1,v.2.2.2.1,v.2.2.2.2.1,r3.1,r3.2,v.2.2.2.2.2.1,v.2.2.2.2.2.2)))))
theorem q31e C v:q3rb (regO (qdk f23) 5) true [(1,(.box [.val Riii])),(2,(.own Rii)),(3,.any),(4,(.val RLiE)),(5,.any),(6,(.val RLiE)),(7,.any),(8,(.val RLiE)),(9,.any)] q318 q31d q31c C v:=rgI (by kernel_rfl)
abbrev q31f:Type:=Int×List DLiE×Int×List DLiE×Int×List DLiE×Int×Int×List Diii×List Dii×Int×Int
def q31g (v:q31f):St:=⟨[(1,.ptr 0 0),(2,.rs 1),(3,i6 v.1),(4,.fz RLiE v.2.1),(5,i6 v.2.2.1),(6,.fz RLiE v.2.2.2.1),(7,i6 v.2.2.2.2.1),(8,.fz RLiE v.2.2.2.2.2.1),(9,i6 v.2.2.2.2.2.2.1),(10,.ptr 2 0),(11,i6 v.2.2.2.2.2.2.2.1)],[.cells [.fz Riii v.2.2.2.2.2.2.2.2.1],.rows Rii v.2.2.2.2.2.2.2.2.2.1,.cells [i6 v.2.2.2.2.2.2.2.2.2.2.1,i6 v.2.2.2.2.2.2.2.2.2.2.2]]⟩
def q31h (C:q30o) (v:q31b):Dt q31f:=(Dt.bnd (C.2.2.2.2.1 (((0:Int),()),())) fun r1=>(Dt.bnd (C.2.2.2.2.2.1 ((v.2.2.2.2.2.2.2.1,()),(r1.1,r1.2,()),((1:Int),()),())) fun r2=>(Dt.ret (v.1,v.2.1,v.2.2.1,v.2.2.2.1,v.2.2.2.2.1,v.2.2.2.2.2.1,v.2.2.2.2.2.2.1,r2.2.2,v.2.2.2.2.2.2.2.1,v.2.2.2.2.2.2.2.2,r2.1,r2.2.1))))
theorem q31i C v:q3rb (regO (qdk f23) 6) true [(1,(.box [.val Riii])),(2,(.own Rii)),(3,.any),(4,(.val RLiE)),(5,.any),(6,(.val RLiE)),(7,.any),(8,(.val RLiE)),(9,.any),(10,.any),(11,.any)] q31c q31h q31g C v:=rgI (by kernel_rfl)
abbrev q31j:Type:=Int×List DLiE×Int×List DLiE×Int×List DLiE×Int×Int×Int×List Dii×Int×Int×Int×Int
def q31k (v:q31j):St:=⟨[(2,.rs 0),(3,i6 v.1),(4,.fz RLiE v.2.1),(5,i6 v.2.2.1),(6,.fz RLiE v.2.2.2.1),(7,i6 v.2.2.2.2.1),(8,.fz RLiE v.2.2.2.2.2.1),(9,i6 v.2.2.2.2.2.2.1),(10,.ptr 1 0),(11,i6 v.2.2.2.2.2.2.2.1),(12,.ptr 2 0),(13,i6 v.2.2.2.2.2.2.2.2.1)],[.rows Rii v.2.2.2.2.2.2.2.2.2.1,.cells [i6 v.2.2.2.2.2.2.2.2.2.2.1,i6 v.2.2.2.2.2.2.2.2.2.2.2.1],.cells [i6 v.2.2.2.2.2.2.2.2.2.2.2.2.1,i6 v.2.2.2.2.2.2.2.2.2.2.2.2.2]]⟩
def q31l (C:q30o) (v:q31f):Dt q31j:=(Dt.bnd (C.2.2.2.2.1 (((0:Int),()),())) fun r1=>(Dt.bnd (C.2.2.2.2.2.1 ((v.2.2.2.2.2.2.2.2.1,()),(r1.1,r1.2,()),((2:Int),()),())) fun r2=>(Dt.ret (v.1,v.2.1,v.2.2.1,v.2.2.2.1,v.2.2.2.2.1,v.2.2.2.2.2.1,v.2.2.2.2.2.2.1,v.2.2.2.2.2.2.2.1,r2.2.2,v.2.2.2.2.2.2.2.2.2.1,v.2.2.2.2.2.2.2.2.2.2.1,v.2.2.2.2.2.2.2.2.2.2.2,r2.1,r2.2.1))))
theorem q31m C v:q3rb (regO (qdk f23) 7) true [(2,(.own Rii)),(3,.any),(4,(.val RLiE)),(5,.any),(6,(.val RLiE)),(7,.any),(8,(.val RLiE)),(9,.any),(10,.any),(11,.any),(12,.any),(13,.any)] q31g q31l q31k C v:=rgI (by kernel_rfl)
abbrev q31n:Type:=Int×List DLiE×Int×List DLiE×Int×List DLiE×Int×Int×Int×List Dii×Int×Int×Int×Int×List DLiE
def q31o (v:q31n):St:=⟨[(2,.rs 0),(3,i6 v.1),(4,.fz RLiE v.2.1),(5,i6 v.2.2.1),(6,.fz RLiE v.2.2.2.1),(7,i6 v.2.2.2.2.1),(8,.fz RLiE v.2.2.2.2.2.1),(9,i6 v.2.2.2.2.2.2.1),(10,.ptr 1 0),(11,i6 v.2.2.2.2.2.2.2.1),(12,.ptr 2 0),(13,i6 v.2.2.2.2.2.2.2.2.1),(14,.rs 3)],[.rows Rii v.2.2.2.2.2.2.2.2.2.1,.cells [i6 v.2.2.2.2.2.2.2.2.2.2.1,i6 v.2.2.2.2.2.2.2.2.2.2.2.1],.cells [i6 v.2.2.2.2.2.2.2.2.2.2.2.2.1,i6 v.2.2.2.2.2.2.2.2.2.2.2.2.2.1],.rows RLiE v.2.2.2.2.2.2.2.2.2.2.2.2.2.2]⟩
def q31p (C:q30o) (v:q31j):Dt q31n:=(Dt.ret (v.1,v.2.1,v.2.2.1,v.2.2.2.1,v.2.2.2.2.1,v.2.2.2.2.2.1,v.2.2.2.2.2.2.1,v.2.2.2.2.2.2.2.1,v.2.2.2.2.2.2.2.2.1,v.2.2.2.2.2.2.2.2.2.1,v.2.2.2.2.2.2.2.2.2.2.1,v.2.2.2.2.2.2.2.2.2.2.2.1,v.2.2.2.2.2.2.2.2.2.2.2.2.1,v.2.2.2.2.2.2.2.2.2.2.2.2.2,([(([((2:Int),())]:List Di),()),(([((1:Int),()),((5:Int),())]:List Di),())]:List DLiE)))
theorem q31q C v:q3rb (regO (qdk f23) 8) false [(2,(.own Rii)),(3,.any),(4,(.val RLiE)),(5,.any),(6,(.val RLiE)),(7,.any),(8,(.val RLiE)),(9,.any),(10,.any),(11,.any),(12,.any),(13,.any),(14,(.own RLiE))] q31k q31p q31o C v:=rgI (by kernel_rfl)
abbrev q31r:Type:=Bool
def q31s (v:q31r):St:=⟨[(0,.bool v)],[]⟩
def q31t (C:q30o) (v:q31n):Dt q31r:=(Dt.ite (v.1 == (0:Int)) (Dt.bnd (C.2.2.2.2.1 (((6:Int),()),())) fun r1=>(Dt.bnd (C.2.2.2.2.1 (((0:Int),()),())) fun r2=>(Dt.bnd (C.2.2.1 ((v.2.2.2.2.2.2.2.2.2.1,()),(([(r1.1,r1.2,()),(r2.1,r2.2,())]:List Dii),()),())) fun r3=>(Dt.ite r3 (Dt.ite (v.2.2.1 == (0:Int)) (Dt.bnd (C.2.2.2.1 ((v.2.1,()),(v.2.2.2.2.2.2.2.2.2.2.2.2.2.2,()),())) fun r4=>(Dt.ite r4 (Dt.ite (v.2.2.2.2.1 == (0:Int)) (Dt.bnd (C.2.2.2.1 ((v.2.2.2.1,()),(([(([((2:Int),()),((1:Int),()),((5:Int),())]:List Di),())]:List DLiE),()),())) fun r5=>(Dt.ite r5 (Dt.ite (v.2.2.2.2.2.2.1 == (0:Int)) (Dt.bnd (C.2.2.2.1 ((v.2.2.2.2.2.1,()),(v.2.2.2.2.2.2.2.2.2.2.2.2.2.2,()),())) fun r6=>(Dt.ite r6 (Dt.ite (v.2.2.2.2.2.2.2.1 == (0:Int)) (Dt.bnd (C.2.2.2.2.1 (((6:Int),()),())) fun r7=>(Dt.ite ((v.2.2.2.2.2.2.2.2.2.2.1 == r7.1)&&((v.2.2.2.2.2.2.2.2.2.2.2.1 == r7.2)&&true)) (Dt.ite (v.2.2.2.2.2.2.2.2.1 == (0:Int)) (Dt.bnd (C.2.2.2.2.1 (((0:Int),()),())) fun r8=>(Dt.ret ((v.2.2.2.2.2.2.2.2.2.2.2.2.1 == r8.1)&&((v.2.2.2.2.2.2.2.2.2.2.2.2.2.1 == r8.2)&&true)))) (Dt.ret false)) (Dt.ret false))) (Dt.ret false)) (Dt.ret false))) (Dt.ret false)) (Dt.ret false))) (Dt.ret false)) (Dt.ret false))) (Dt.ret false)) (Dt.ret false))))) (Dt.ret false))
theorem q31u C v:q3rb (regO (qdk f23) 9) true [(0,.any)] q31o q31t q31s C v:=rgI (by kernel_rfl)
def q31v (d:Nat) (x:q30k):Option q30l :=
 (q30t (q30p d) ()).eval fun y0 =>
 (q30x (q30p d) ()).eval fun y1 =>
 (q311 (q30p d) y1).eval fun y2 =>
 (q315 (q30p d) y2).eval fun y3 =>
 (q319 (q30p d) y3).eval fun y4 =>
 (q31d (q30p d) y4).eval fun y5 =>
 (q31h (q30p d) y5).eval fun y6 =>
 (q31l (q30p d) y6).eval fun y7 =>
 (q31p (q30p d) y7).eval fun y8 =>
 (q31t (q30p d) y8).eval fun y9 =>
 some y9
theorem q31w (d:Nat):COK prog (q30n (q31v d)):=by
 have hm:prog.follows .mixedOrders=true:=mixed
 have hT:=tys
 have hC0:OrcOK prog (orc (q30q (q30p d))):=qde (by
  intro S hS
  simp only [q30q,List.mem_cons,List.not_mem_nil,or_false] at hS
  rcases hS with rfl | rfl | rfl | rfl | rfl | rfl | rfl
  · exact q20n d
  · exact q244 d
  · exact q2w0 d
  · exact q2uv d
  · exact q30i d
  · exact q2ef d
  · exact q2zy d)
 have hC:OrcOK prog (orc (q30q (q30p d))):=hC0
 refine q93 (c:=qdk f23) (fn:=f23) hT (by kernel_rfl) (by kernel_rfl) (by decide) fun x r h w0 φ0 Q hend=>?_
 replace h:q31v d x=some r:=h
 unfold q31v at h
 show Run prog w0 φ0 113 (qdk f23) ⟨[],[]⟩ Q
 refine q3pf hm hT hC (q30u (q30p d) ()) h fun y0 h=>?_
 refine q3pf hm hT hC (q30y (q30p d) ()) h fun y1 h=>?_
 refine q3pf hm hT hC (q312 (q30p d) y1) h fun y2 h=>?_
 refine q3pf hm hT hC (q316 (q30p d) y2) h fun y3 h=>?_
 refine q3pf hm hT hC (q31a (q30p d) y3) h fun y4 h=>?_
 refine q3pf hm hT hC (q31e (q30p d) y4) h fun y5 h=>?_
 refine q3pf hm hT hC (q31i (q30p d) y5) h fun y6 h=>?_
 refine q3pf hm hT hC (q31m (q30p d) y6) h fun y7 h=>?_
 refine q3pf hm hT hC (q31q (q30p d) y7) h fun y8 h=>?_
 refine q3pf hm hT hC (q31u (q30p d) y8) h fun y9 h=>?_
 refine q8l ?_
 cases h
 exact (hend _ (by kernel_rfl)).2
abbrev q31x:List Pk:=[.row Rii true]
abbrev q31y:Type:=Dii×Unit
abbrev q31z:Type:=Int
def q320 (r:q31z):LV×List Ob:=(.int .i64 r,[])
def q321 (F:q31y→Option q31z):Go.Tx.Spec:=⟨41,q31x,q31z,F,q320⟩
abbrev q322:Type:=(qnh→Option qni)×Unit
def q323 (d:Nat):q322:=(qnm d,())
def q324 (C:q322):List Go.Tx.Spec:=[qnk C.1]
abbrev q325:Type:=Int×Int
def q326 (v:q325):St:=⟨[(0,.agg [i6 v.1,i6 v.2])],[]⟩
abbrev q327:Type:=Int×Int
def q328 (v:q327):St:=⟨[(1,.ptr 0 0)],[.cells [i6 v.1,i6 v.2]]⟩
def q329 (C:q322) (v:q325):Dt q327:=(Dt.ret (v.1,v.2))
abbrev q3rc {V Y:Type}:=@rg q322 V Y tysT (fun C=>(orc (q324 C))) 21
theorem q32a C v:q3rc (regO (qdk f41) 0) false [(1,.any)] q326 q329 q328 C v:=rgI (by kernel_rfl)
abbrev q32b:Type:=Bool×Int×Int
def q32c (v:q32b):St:=⟨[(1,.ptr 0 0),(5,.bool v.1)],[.cells [i6 v.2.1,i6 v.2.2]]⟩
def q32d (C:q322) (v:q327):Dt q32b:=(Dt.bnd (C.1 ((v.1,v.2,()),())) fun r1=>(Dt.ret ((r1 != (0:Int)),v.1,v.2)))
theorem q32e C v:q3rc (regO (qdk f41) 1) false (an [1,5]) q328 q32d q32c C v:=rgI (by kernel_rfl)
abbrev q32f:Type:=Int
def q32g (v:q32f):St:=⟨[(2,i6 v)],[]⟩
def q32h (C:q322) (v:q32b):Dt q32f:=(Dt.bnd (C.1 ((v.2.1,v.2.2,()),())) fun r1=>(Dt.ret r1))
theorem q32i C v:q3rc (regO (qdk f41) 2) false [(2,.any)] q32c q32h q32g C v:=rgI (by kernel_rfl)
abbrev q32j:Type:=Bool
def q32k (v:q32j):St:=⟨[(20,.bool v)],[]⟩
def q32l (C:q322) (v:q32b):Dt q32j:=(Dt.ite (decide (v.2.1 > (1073741824:Int))) (Dt.ret true) (Dt.ite (decide (v.2.1<(-1073741824:Int))) (Dt.ret true) (Dt.ret (decide (v.2.2 > (1024:Int))))))
theorem q32m C v:q3rc (regO (qdk f41) 3) false [(20,.any)] q32c q32l q32k C v:=rgI (by kernel_rfl)
def q32n (C:q322) (v:q32j):Dt q32f:=(Dt.ret (2:Int))
theorem q32o C v:q3rc (regO (qdk f41) 4) false [(2,.any)] q32k q32n q32g C v:=rgI (by kernel_rfl)
def q32p (C:q322) (v:q32j):Dt q32f:=(Dt.ret (0:Int))
theorem q32q C v:q3rc (regO (qdk f41) 5) false [(2,.any)] q32k q32p q32g C v:=rgI (by kernel_rfl)
def q32r (d:Nat) (x:q31y):Option q31z :=
 (q329 (q323 d) (x.1.1,x.1.2.1)).eval fun y0 =>
 (q32d (q323 d) y0).eval fun y1 =>
 bif y1.1 then ((q32h (q323 d) y1).eval fun y2 =>
 some y2) else ((q32l (q323 d) y1).eval fun y3 =>
 bif y3 then ((q32n (q323 d) y3).eval fun y4 =>
 some y4) else ((q32p (q323 d) y3).eval fun y5 =>
 some y5))
theorem q32s (d:Nat):COK prog (q321 (q32r d)):=by
 have hm:prog.follows .mixedOrders=true:=mixed
 have hT:=tys
 have hC0:OrcOK prog (orc (q324 (q323 d))):=qde (by
  intro S hS
  simp only [q324,List.mem_cons,List.not_mem_nil,or_false] at hS
  subst hS;exact qno d)
 have hC:OrcOK prog (orc (q324 (q323 d))):=hC0
 refine q93 (c:=qdk f41) (fn:=f41) hT (by kernel_rfl) (by kernel_rfl) (by decide) fun x r h w0 φ0 Q hend=>?_
 replace h:q32r d x=some r:=h
 unfold q32r at h
 show Run prog w0 φ0 21 (qdk f41) ⟨[(0,.agg [.int .i64 x.1.1,.int .i64 x.1.2.1])],[]⟩ Q
 refine q3pf hm hT hC (q32a (q323 d) (x.1.1,x.1.2.1)) h fun y0 h=>?_
 refine q8m ?_
 refine q3pf hm hT hC (q32e (q323 d) y0) h fun y1 h=>?_
 refine q8q (v:=y1.1) (by kernel_rfl) h ?_ ?_
 ·
  intro h
  refine q3pf hm hT hC (q32i (q323 d) y1) h fun y2 h=>?_
  refine q8l (q8a ?_)
  cases h
  exact (hend _ (by kernel_rfl)).2
 ·
  intro h
  refine q8i (q88 (q8m ?_))
  refine q3pf hm hT hC (q32m (q323 d) y1) h fun y3 h=>?_
  refine q8q (v:=y3) (by kernel_rfl) h ?_ ?_
  ·
   intro h
   refine q3pf hm hT hC (q32o (q323 d) y3) h fun y4 h=>?_
   refine q8l (q8a ?_)
   cases h
   exact (hend _ (by kernel_rfl)).2
  ·
   intro h
   refine q8i (q88 ?_)
   refine q3pf hm hT hC (q32q (q323 d) y3) h fun y5 h=>?_
   refine q8l ?_
   cases h
   exact (hend _ (by kernel_rfl)).2
abbrev q32t:List Pk:=[.row qjw true,.row Rii true,.row Rii true]
abbrev q32u:Type:=qjx×Dii×Dii×Unit
abbrev q32v:Type:=Bool
def q32w (r:q32v):LV×List Ob:=(.bool r,[])
def q32x (F:q32u→Option q32v):Go.Tx.Spec:=⟨24,q32t,q32v,F,q32w⟩
abbrev q32y:Type:=(q2w2→Option q2w3)×(qnh→Option qni)×(qv9→Option qva)×(q31y→Option q31z)×Unit
def q32z (d:Nat):q32y:=(q2wj d,qnm d,qve d,q32r d,())
def q330 (C:q32y):List Go.Tx.Spec:=[q2w5 C.1,qnk C.2.1,qvc C.2.2.1,q321 C.2.2.2.1]
abbrev q331:Type:=List Diii×Int×Int×Int×Int
def q332 (v:q331):St:=⟨[(0,.agg [.fz Riii v.1]),(1,.agg [i6 v.2.1,i6 v.2.2.1]),(2,.agg [i6 v.2.2.2.1,i6 v.2.2.2.2])],[]⟩
abbrev q333:Type:=List Diii×Int×Int×Int×Int
def q334 (v:q333):St:=⟨[(3,.ptr 0 0),(4,.ptr 1 0),(5,.ptr 2 0)],[.cells [.fz Riii v.1],.cells [i6 v.2.1,i6 v.2.2.1],.cells [i6 v.2.2.2.1,i6 v.2.2.2.2]]⟩
def q335 (C:q32y) (v:q331):Dt q333:=(Dt.ret (v.1,v.2.1,v.2.2.1,v.2.2.2.1,v.2.2.2.2))
abbrev q3rd {V Y:Type}:=@rg q32y V Y tysT (fun C=>(orc (q330 C))) 31
theorem q336 C v:q3rd (regO (qdk f24) 0) false [(3,(.box [.val Riii])),(4,.any),(5,.any)] q332 q335 q334 C v:=rgI (by kernel_rfl)
abbrev q337:Type:=Bool
def q338 (v:q337):St:=⟨[(6,.bool v)],[]⟩
def q339 (C:q32y) (v:q333):Dt q337:=(Dt.bnd (C.1 ((v.1,()),())) fun r1=>(Dt.ite (!r1) (Dt.bnd (C.2.2.1 ((v.1,()),(v.2.1,v.2.2.1,()),())) fun r2=>(Dt.ite (r2 == (0:Int)) (Dt.bnd (C.2.2.2.1 ((v.2.1,v.2.2.1,()),())) fun r3=>(Dt.ite (r3 == (0:Int)) (Dt.bnd (C.2.1 ((v.2.2.2.1,v.2.2.2.2,()),())) fun r4=>(Dt.ite (r4 == (0:Int)) (Dt.ret (decide (v.2.2.2.1≥(0:Int)))) (Dt.ret false))) (Dt.ret false))) (Dt.ret false))) (Dt.ret false)))
theorem q33a C v:q3rd (regO (qdk f24) 1) false [(6,.any)] q334 q339 q338 C v:=rgI (by kernel_rfl)
def q33b (d:Nat) (x:q32u):Option q32v :=
 (q335 (q32z d) (x.1.1,x.2.1.1,x.2.1.2.1,x.2.2.1.1,x.2.2.1.2.1)).eval fun y0 =>
 (q339 (q32z d) y0).eval fun y1 =>
 some y1
theorem q33c (d:Nat):COK prog (q32x (q33b d)):=by
 have hm:prog.follows .mixedOrders=true:=mixed
 have hT:=tys
 have hC0:OrcOK prog (orc (q330 (q32z d))):=qde (by
  intro S hS
  simp only [q330,List.mem_cons,List.not_mem_nil,or_false] at hS
  rcases hS with rfl | rfl | rfl | rfl
  · exact q2wk d
  · exact qno d
  · exact qvg d
  · exact q32s d)
 have hC:OrcOK prog (orc (q330 (q32z d))):=hC0
 refine q93 (c:=qdk f24) (fn:=f24) hT (by kernel_rfl) (by kernel_rfl) (by decide) fun x r h w0 φ0 Q hend=>?_
 replace h:q33b d x=some r:=h
 unfold q33b at h
 show Run prog w0 φ0 31 (qdk f24) ⟨[(0,.agg [.fz Riii x.1.1]),(1,.agg [.int .i64 x.2.1.1,.int .i64 x.2.1.2.1]),(2,.agg [.int .i64 x.2.2.1.1,.int .i64 x.2.2.1.2.1])],[]⟩ Q
 refine q3pf hm hT hC (q336 (q32z d) (x.1.1,x.2.1.1,x.2.1.2.1,x.2.2.1.1,x.2.2.1.2.1)) h fun y0 h=>?_
 refine q3pf hm hT hC (q33a (q32z d) y0) h fun y1 h=>?_
 refine q8l ?_
 cases h
 exact (hend _ (by kernel_rfl)).2
abbrev q36p:List Pk:=[.row qjw true,.row Rii true,.row Rii true]
abbrev q36q:Type:=qjx×Dii×Dii×Unit
abbrev q36r:Type:=Bool
def q36s (r:q36r):LV×List Ob:=(.bool r,[])
def q36t (F:q36q→Option q36r):Go.Tx.Spec:=⟨7,q36p,q36r,F,q36s⟩
abbrev q36u:Type:=(q201→Option q202)×(q246→Option q247)×(q30k→Option q30l)×(q32u→Option q32v)×(qnh→Option qni)×(q2fd→Option q2fe)×(q29l→Option q29m)×(qvi→Option qvj)×(qph→Option qpi)×(q2gj→Option q2gk)×Unit
def q36v (d:Nat):q36u:=(q20m d,q24r d,q31v d,q33b d,qnm d,q2gg d,q2aq d,qvn d,qpm d,q2hk d,())
def q36w (C:q36u):List Go.Tx.Spec:=[q204 C.1,q249 C.2.1,q30n C.2.2.1,q32x C.2.2.2.1,qnk C.2.2.2.2.1,q2fg C.2.2.2.2.2.1,q29o C.2.2.2.2.2.2.1,qvl C.2.2.2.2.2.2.2.1,qpk C.2.2.2.2.2.2.2.2.1,q2gm C.2.2.2.2.2.2.2.2.2.1]
abbrev q36x:Type:=List Diii×Int×Int×Int×Int
def q36y (v:q36x):St:=⟨[(0,.agg [.fz Riii v.1]),(1,.agg [i6 v.2.1,i6 v.2.2.1]),(2,.agg [i6 v.2.2.2.1,i6 v.2.2.2.2])],[]⟩
abbrev q36z:Type:=List Diii×Int×Int×Int×Int
def q370 (v:q36z):St:=⟨[(3,.ptr 0 0),(4,.ptr 1 0),(5,.ptr 2 0)],[.cells [.fz Riii v.1],.cells [i6 v.2.1,i6 v.2.2.1],.cells [i6 v.2.2.2.1,i6 v.2.2.2.2]]⟩
def q371 (C:q36u) (v:q36x):Dt q36z:=(Dt.ret (v.1,v.2.1,v.2.2.1,v.2.2.2.1,v.2.2.2.2))
abbrev q3rf {V Y:Type}:=@rg q36u V Y tysT (fun C=>(orc (q36w C))) 190
theorem q372 C v:q3rf (regO (qdk f7) 0) false [(3,(.box [.val Riii])),(4,.any),(5,.any)] q36y q371 q370 C v:=rgI (by kernel_rfl)
abbrev q373:Type:=Bool×List Diii×Int×Int×Int×Int
def q374 (v:q373):St:=⟨[(3,.ptr 0 0),(4,.ptr 1 0),(5,.ptr 2 0),(7,.bool v.1)],[.cells [.fz Riii v.2.1],.cells [i6 v.2.2.1,i6 v.2.2.2.1],.cells [i6 v.2.2.2.2.1,i6 v.2.2.2.2.2]]⟩
def q375 (C:q36u) (v:q36z):Dt q373:=(Dt.bnd (C.2.2.1 (())) fun r1=>(Dt.ret (r1,v.1,v.2.1,v.2.2.1,v.2.2.2.1,v.2.2.2.2)))
theorem q376 C v:q3rf (regO (qdk f7) 1) false [(3,(.box [.val Riii])),(4,.any),(5,.any),(7,.any)] q370 q375 q374 C v:=rgI (by kernel_rfl)
abbrev q377:Type:=Bool×Bool×List Diii×Int×Int×Int×Int
def q378 (v:q377):St:=⟨[(3,.ptr 0 0),(4,.ptr 1 0),(5,.ptr 2 0),(7,.bool v.1),(31,.bool v.2.1)],[.cells [.fz Riii v.2.2.1],.cells [i6 v.2.2.2.1,i6 v.2.2.2.2.1],.cells [i6 v.2.2.2.2.2.1,i6 v.2.2.2.2.2.2]]⟩
def q379 (C:q36u) (v:q373):Dt q377:=(Dt.bnd (C.2.2.2.1 ((v.2.1,()),(v.2.2.1,v.2.2.2.1,()),(v.2.2.2.2.1,v.2.2.2.2.2,()),())) fun r1=>(Dt.ite (!r1) (Dt.ret (v.1,true,v.2.1,v.2.2.1,v.2.2.2.1,v.2.2.2.2.1,v.2.2.2.2.2)) (Dt.ret (v.1,(!v.1),v.2.1,v.2.2.1,v.2.2.2.1,v.2.2.2.2.1,v.2.2.2.2.2))))
theorem q37a C v:q3rf (regO (qdk f7) 2) false [(3,(.box [.val Riii])),(4,.any),(5,.any),(7,.any),(31,.any)] q374 q379 q378 C v:=rgI (by kernel_rfl)
abbrev q37b:Type:=Bool
def q37c (v:q37b):St:=⟨[(6,.bool v)],[]⟩
def q37d (C:q36u) (v:q377):Dt q37b:=(Dt.ret v.1)
theorem q37e C v:q3rf (regO (qdk f7) 3) false [(6,.any)] q378 q37d q37c C v:=rgI (by kernel_rfl)
abbrev q37f:Type:=Bool×Int×List Diii×Int×Int×Int×Int×List Dii
def q37g (v:q37f):St:=⟨[(3,.ptr 0 0),(4,.ptr 1 0),(5,.ptr 2 0),(7,.bool v.1),(8,.rs 3),(9,i6 v.2.1)],[.cells [.fz Riii v.2.2.1],.cells [i6 v.2.2.2.1,i6 v.2.2.2.2.1],.cells [i6 v.2.2.2.2.2.1,i6 v.2.2.2.2.2.2.1],.rows Rii v.2.2.2.2.2.2.2]⟩
def q37h (C:q36u) (v:q377):Dt q37f:=(Dt.bnd (C.1 ((v.2.2.1,()),(v.2.2.2.1,v.2.2.2.2.1,()),())) fun r1=>(Dt.ret (v.1,r1.2,v.2.2.1,v.2.2.2.1,v.2.2.2.2.1,v.2.2.2.2.2.1,v.2.2.2.2.2.2,r1.1)))
theorem q37i C v:q3rf (regO (qdk f7) 4) false [(3,(.box [.val Riii])),(4,.any),(5,.any),(7,.any),(8,(.own Rii)),(9,.any)] q378 q37h q37g C v:=rgI (by kernel_rfl)
abbrev q37j:Type:=Bool×Int×Int×List Diii×Int×Int×Int×Int×List Dii×List Di
def q37k (v:q37j):St:=⟨[(3,.ptr 0 0),(4,.ptr 1 0),(5,.ptr 2 0),(7,.bool v.1),(8,.rs 3),(9,i6 v.2.1),(10,.rs 4),(11,i6 v.2.2.1)],[.cells [.fz Riii v.2.2.2.1],.cells [i6 v.2.2.2.2.1,i6 v.2.2.2.2.2.1],.cells [i6 v.2.2.2.2.2.2.1,i6 v.2.2.2.2.2.2.2.1],.rows Rii v.2.2.2.2.2.2.2.2.1,.rows Ri v.2.2.2.2.2.2.2.2.2]⟩
def q37l (C:q36u) (v:q37f):Dt q37j:=(Dt.bnd (C.2.2.2.2.2.2.2.1 ((v.2.2.1,()),(v.2.2.2.1,v.2.2.2.2.1,()),())) fun r1=>(Dt.ret (v.1,v.2.1,r1.2,v.2.2.1,v.2.2.2.1,v.2.2.2.2.1,v.2.2.2.2.2.1,v.2.2.2.2.2.2.1,v.2.2.2.2.2.2.2,r1.1)))
theorem q37m C v:q3rf (regO (qdk f7) 5) false [(3,(.box [.val Riii])),(4,.any),(5,.any),(7,.any),(8,(.own Rii)),(9,.any),(10,(.own Ri)),(11,.any)] q37g q37l q37k C v:=rgI (by kernel_rfl)
abbrev q37n:Type:=Bool×Bool×List Diii×Int×Int×Int×Int×List Dii×List Di
def q37o (v:q37n):St:=⟨[(3,.ptr 0 0),(4,.ptr 1 0),(5,.ptr 2 0),(7,.bool v.1),(8,.rs 3),(10,.rs 4),(67,.bool v.2.1)],[.cells [.fz Riii v.2.2.1],.cells [i6 v.2.2.2.1,i6 v.2.2.2.2.1],.cells [i6 v.2.2.2.2.2.1,i6 v.2.2.2.2.2.2.1],.rows Rii v.2.2.2.2.2.2.2.1,.rows Ri v.2.2.2.2.2.2.2.2]⟩
def q37p (C:q36u) (v:q37j):Dt q37n:=(Dt.ite (v.2.1 != (0:Int)) (Dt.ret (v.1,true,v.2.2.2.1,v.2.2.2.2.1,v.2.2.2.2.2.1,v.2.2.2.2.2.2.1,v.2.2.2.2.2.2.2.1,v.2.2.2.2.2.2.2.2.1,v.2.2.2.2.2.2.2.2.2)) (Dt.ite (v.2.2.1 != (0:Int)) (Dt.ret (v.1,true,v.2.2.2.1,v.2.2.2.2.1,v.2.2.2.2.2.1,v.2.2.2.2.2.2.1,v.2.2.2.2.2.2.2.1,v.2.2.2.2.2.2.2.2.1,v.2.2.2.2.2.2.2.2.2)) (Dt.ite ((List.length v.2.2.2.2.2.2.2.2.2:Int) != (List.length v.2.2.2.1:Int)) (Dt.ret (v.1,true,v.2.2.2.1,v.2.2.2.2.1,v.2.2.2.2.2.1,v.2.2.2.2.2.2.1,v.2.2.2.2.2.2.2.1,v.2.2.2.2.2.2.2.2.1,v.2.2.2.2.2.2.2.2.2)) (Dt.ret (v.1,((List.length v.2.2.2.2.2.2.2.2.1:Int) != (tmax (0:Int) (IntKind.wrap .i64 ((List.length v.2.2.2.2.2.2.2.2.2:Int) - (1:Int))))),v.2.2.2.1,v.2.2.2.2.1,v.2.2.2.2.2.1,v.2.2.2.2.2.2.1,v.2.2.2.2.2.2.2.1,v.2.2.2.2.2.2.2.2.1,v.2.2.2.2.2.2.2.2.2)))))
theorem q37q C v:q3rf (regO (qdk f7) 6) false [(3,(.box [.val Riii])),(4,.any),(5,.any),(7,.any),(8,(.own Rii)),(10,(.own Ri)),(67,.any)] q37k q37p q37o C v:=rgI (by kernel_rfl)
def q37r (C:q36u) (v:q37n):Dt q37b:=(Dt.ret false)
theorem q37s C v:q3rf (regO (qdk f7) 7) false [(6,.any)] q37o q37r q37c C v:=rgI (by kernel_rfl)
abbrev q37t:Type:=Bool×Int×List Diii×Int×Int×Int×Int×List Dii×List Di
def q37u (v:q37t):St:=⟨[(3,.ptr 0 0),(4,.ptr 1 0),(5,.ptr 2 0),(7,.bool v.1),(8,.rs 3),(10,.rs 4),(12,i6 v.2.1)],[.cells [.fz Riii v.2.2.1],.cells [i6 v.2.2.2.1,i6 v.2.2.2.2.1],.cells [i6 v.2.2.2.2.2.1,i6 v.2.2.2.2.2.2.1],.rows Rii v.2.2.2.2.2.2.2.1,.rows Ri v.2.2.2.2.2.2.2.2]⟩
def q37v (C:q36u) (v:q37n):Dt q37t:=(Dt.ret (v.1,(0:Int),v.2.2.1,v.2.2.2.1,v.2.2.2.2.1,v.2.2.2.2.2.1,v.2.2.2.2.2.2.1,v.2.2.2.2.2.2.2.1,v.2.2.2.2.2.2.2.2))
theorem q37w C v:q3rf (regO (qdk f7) 8) false [(3,(.box [.val Riii])),(4,.any),(5,.any),(7,.any),(8,(.own Rii)),(10,(.own Ri)),(12,.any)] q37o q37v q37u C v:=rgI (by kernel_rfl)
abbrev q37x:Type:=Bool×Int×Int×List Diii×Int×Int×Int×Int×List Dii×List Di
def q37y (v:q37x):St:=⟨[(3,.ptr 0 0),(4,.ptr 1 0),(5,.ptr 2 0),(7,.bool v.1),(8,.rs 3),(10,.rs 4),(12,i6 v.2.1),(13,i6 v.2.2.1)],[.cells [.fz Riii v.2.2.2.1],.cells [i6 v.2.2.2.2.1,i6 v.2.2.2.2.2.1],.cells [i6 v.2.2.2.2.2.2.1,i6 v.2.2.2.2.2.2.2.1],.rows Rii v.2.2.2.2.2.2.2.2.1,.rows Ri v.2.2.2.2.2.2.2.2.2]⟩
def q37z (C:q36u) (v:q37t):Dt q37x:=(Dt.ret (v.1,v.2.1,(0:Int),v.2.2.1,v.2.2.2.1,v.2.2.2.2.1,v.2.2.2.2.2.1,v.2.2.2.2.2.2.1,v.2.2.2.2.2.2.2.1,v.2.2.2.2.2.2.2.2))
theorem q380 C v:q3rf (regO (qdk f7) 9) false [(3,(.box [.val Riii])),(4,.any),(5,.any),(7,.any),(8,(.own Rii)),(10,(.own Ri)),(12,.any),(13,.any)] q37u q37z q37y C v:=rgI (by kernel_rfl)
abbrev q381:Type:=Bool×Int×Int×Bool×List Diii×Int×Int×Int×Int×List Dii×List Di
def q382 (v:q381):St:=⟨[(3,.ptr 0 0),(4,.ptr 1 0),(5,.ptr 2 0),(7,.bool v.1),(8,.rs 3),(10,.rs 4),(12,i6 v.2.1),(13,i6 v.2.2.1),(71,.bool v.2.2.2.1)],[.cells [.fz Riii v.2.2.2.2.1],.cells [i6 v.2.2.2.2.2.1,i6 v.2.2.2.2.2.2.1],.cells [i6 v.2.2.2.2.2.2.2.1,i6 v.2.2.2.2.2.2.2.2.1],.rows Rii v.2.2.2.2.2.2.2.2.2.1,.rows Ri v.2.2.2.2.2.2.2.2.2.2]⟩
def q383 (C:q36u) (v:q37x):Dt q381:=(Dt.ret (v.1,v.2.1,v.2.2.1,(decide (v.2.2.1<(List.length v.2.2.2.2.2.2.2.2.1:Int))),v.2.2.2.1,v.2.2.2.2.1,v.2.2.2.2.2.1,v.2.2.2.2.2.2.1,v.2.2.2.2.2.2.2.1,v.2.2.2.2.2.2.2.2.1,v.2.2.2.2.2.2.2.2.2))
theorem q384 C v:q3rf (regO (qdk f7) 10) false [(3,(.box [.val Riii])),(4,.any),(5,.any),(7,.any),(8,(.own Rii)),(10,(.own Ri)),(12,.any),(13,.any),(71,.any)] q37y q383 q382 C v:=rgI (by kernel_rfl)
abbrev q385:Type:=Bool×Int×Int×Int×Int×List Diii×Int×Int×Int×Int×List Dii×List Di
def q386 (v:q385):St:=⟨[(3,.ptr 0 0),(4,.ptr 1 0),(5,.ptr 2 0),(7,.bool v.1),(8,.rs 3),(10,.rs 4),(12,i6 v.2.1),(13,i6 v.2.2.1),(14,i6 v.2.2.2.1),(15,i6 v.2.2.2.2.1)],[.cells [.fz Riii v.2.2.2.2.2.1],.cells [i6 v.2.2.2.2.2.2.1,i6 v.2.2.2.2.2.2.2.1],.cells [i6 v.2.2.2.2.2.2.2.2.1,i6 v.2.2.2.2.2.2.2.2.2.1],.rows Rii v.2.2.2.2.2.2.2.2.2.2.1,.rows Ri v.2.2.2.2.2.2.2.2.2.2.2]⟩
def q387 (C:q36u) (v:q381):Dt q385:=(Dt.ite (inB v.2.2.1 (List.length v.2.2.2.2.2.2.2.2.2.2)) (Dt.bnd (C.2.2.2.2.2.2.2.2.1 ((v.2.2.2.2.1,()),((elt zi v.2.2.2.2.2.2.2.2.2.2 (v.2.2.1).toNat).1,()),())) fun r1=>(Dt.ite (inB (IntKind.wrap .i64 (v.2.2.1+(1:Int))) (List.length v.2.2.2.2.2.2.2.2.2.2)) (Dt.bnd (C.2.2.2.2.2.2.2.2.1 ((v.2.2.2.2.1,()),((elt zi v.2.2.2.2.2.2.2.2.2.2 ((IntKind.wrap .i64 (v.2.2.1+(1:Int)))).toNat).1,()),())) fun r2=>(Dt.ret (v.1,v.2.1,v.2.2.1,r1,r2,v.2.2.2.2.1,v.2.2.2.2.2.1,v.2.2.2.2.2.2.1,v.2.2.2.2.2.2.2.1,v.2.2.2.2.2.2.2.2.1,v.2.2.2.2.2.2.2.2.2.1,v.2.2.2.2.2.2.2.2.2.2))) Dt.fail)) Dt.fail)
theorem q388 C v:q3rf (regO (qdk f7) 12) true [(3,(.box [.val Riii])),(4,.any),(5,.any),(7,.any),(8,(.own Rii)),(10,(.own Ri)),(12,.any),(13,.any),(14,.any),(15,.any)] q382 q387 q386 C v:=rgI (by kernel_rfl)
abbrev q389:Type:=Bool×Int×Int×Int×Int×Bool×List Diii×Int×Int×Int×Int×List Dii×List Di
def q38a (v:q389):St:=⟨[(3,.ptr 0 0),(4,.ptr 1 0),(5,.ptr 2 0),(7,.bool v.1),(8,.rs 3),(10,.rs 4),(12,i6 v.2.1),(13,i6 v.2.2.1),(14,i6 v.2.2.2.1),(15,i6 v.2.2.2.2.1),(108,.bool v.2.2.2.2.2.1)],[.cells [.fz Riii v.2.2.2.2.2.2.1],.cells [i6 v.2.2.2.2.2.2.2.1,i6 v.2.2.2.2.2.2.2.2.1],.cells [i6 v.2.2.2.2.2.2.2.2.2.1,i6 v.2.2.2.2.2.2.2.2.2.2.1],.rows Rii v.2.2.2.2.2.2.2.2.2.2.2.1,.rows Ri v.2.2.2.2.2.2.2.2.2.2.2.2]⟩
def q38b (C:q36u) (v:q385):Dt q389:=(Dt.ite (decide (v.2.2.2.1<(0:Int))) (Dt.ret (v.1,v.2.1,v.2.2.1,v.2.2.2.1,v.2.2.2.2.1,true,v.2.2.2.2.2.1,v.2.2.2.2.2.2.1,v.2.2.2.2.2.2.2.1,v.2.2.2.2.2.2.2.2.1,v.2.2.2.2.2.2.2.2.2.1,v.2.2.2.2.2.2.2.2.2.2.1,v.2.2.2.2.2.2.2.2.2.2.2)) (Dt.ite (decide (v.2.2.2.2.1<(0:Int))) (Dt.ret (v.1,v.2.1,v.2.2.1,v.2.2.2.1,v.2.2.2.2.1,true,v.2.2.2.2.2.1,v.2.2.2.2.2.2.1,v.2.2.2.2.2.2.2.1,v.2.2.2.2.2.2.2.2.1,v.2.2.2.2.2.2.2.2.2.1,v.2.2.2.2.2.2.2.2.2.2.1,v.2.2.2.2.2.2.2.2.2.2.2)) (Dt.ite (inB v.2.2.1 (List.length v.2.2.2.2.2.2.2.2.2.2.1)) (Dt.bnd (C.2.2.2.2.1 (((elt zii v.2.2.2.2.2.2.2.2.2.2.1 (v.2.2.1).toNat).1,(elt zii v.2.2.2.2.2.2.2.2.2.2.1 (v.2.2.1).toNat).2.1,()),())) fun r1=>(Dt.ite (r1 != (0:Int)) (Dt.ret (v.1,v.2.1,v.2.2.1,v.2.2.2.1,v.2.2.2.2.1,true,v.2.2.2.2.2.1,v.2.2.2.2.2.2.1,v.2.2.2.2.2.2.2.1,v.2.2.2.2.2.2.2.2.1,v.2.2.2.2.2.2.2.2.2.1,v.2.2.2.2.2.2.2.2.2.2.1,v.2.2.2.2.2.2.2.2.2.2.2)) (Dt.ite (inB v.2.2.1 (List.length v.2.2.2.2.2.2.2.2.2.2.1)) (Dt.ret (v.1,v.2.1,v.2.2.1,v.2.2.2.1,v.2.2.2.2.1,(decide ((elt zii v.2.2.2.2.2.2.2.2.2.2.1 (v.2.2.1).toNat).1<(0:Int))),v.2.2.2.2.2.1,v.2.2.2.2.2.2.1,v.2.2.2.2.2.2.2.1,v.2.2.2.2.2.2.2.2.1,v.2.2.2.2.2.2.2.2.2.1,v.2.2.2.2.2.2.2.2.2.2.1,v.2.2.2.2.2.2.2.2.2.2.2)) Dt.fail))) Dt.fail)))
theorem q38c C v:q3rf (regO (qdk f7) 13) false [(3,(.box [.val Riii])),(4,.any),(5,.any),(7,.any),(8,(.own Rii)),(10,(.own Ri)),(12,.any),(13,.any),(14,.any),(15,.any),(108,.any)] q386 q38b q38a C v:=rgI (by kernel_rfl)
def q38d (C:q36u) (v:q389):Dt q37b:=(Dt.ret false)
theorem q38e C v:q3rf (regO (qdk f7) 14) false [(6,.any)] q38a q38d q37c C v:=rgI (by kernel_rfl)
abbrev q38f:Type:=Bool×Int×Int×Int×List Diii×Int×Int×Int×Int×List Dii×List Di×Int×Int
def q38g (v:q38f):St:=⟨[(3,.ptr 0 0),(4,.ptr 1 0),(5,.ptr 2 0),(7,.bool v.1),(8,.rs 3),(10,.rs 4),(12,i6 v.2.1),(13,i6 v.2.2.1),(16,.ptr 5 0),(17,i6 v.2.2.2.1)],[.cells [.fz Riii v.2.2.2.2.1],.cells [i6 v.2.2.2.2.2.1,i6 v.2.2.2.2.2.2.1],.cells [i6 v.2.2.2.2.2.2.2.1,i6 v.2.2.2.2.2.2.2.2.1],.rows Rii v.2.2.2.2.2.2.2.2.2.1,.rows Ri v.2.2.2.2.2.2.2.2.2.2.1,.cells [i6 v.2.2.2.2.2.2.2.2.2.2.2.1,i6 v.2.2.2.2.2.2.2.2.2.2.2.2]]⟩
def q38h (C:q36u) (v:q389):Dt q38f:=(Dt.ite (inB v.2.2.2.1 (List.length v.2.2.2.2.2.2.1)) (Dt.ite (inB v.2.2.2.2.1 (List.length v.2.2.2.2.2.2.1)) (Dt.bnd (C.2.2.2.2.2.2.2.2.2.1 (((elt ziii v.2.2.2.2.2.2.1 (v.2.2.2.1).toNat).1,(elt ziii v.2.2.2.2.2.2.1 (v.2.2.2.1).toNat).2.1,(elt ziii v.2.2.2.2.2.2.1 (v.2.2.2.1).toNat).2.2.1,()),((elt ziii v.2.2.2.2.2.2.1 (v.2.2.2.2.1).toNat).1,(elt ziii v.2.2.2.2.2.2.1 (v.2.2.2.2.1).toNat).2.1,(elt ziii v.2.2.2.2.2.2.1 (v.2.2.2.2.1).toNat).2.2.1,()),(v.2.2.2.2.2.2.2.1,v.2.2.2.2.2.2.2.2.1,()),())) fun r1=>(Dt.ret (v.1,v.2.1,v.2.2.1,r1.2.2,v.2.2.2.2.2.2.1,v.2.2.2.2.2.2.2.1,v.2.2.2.2.2.2.2.2.1,v.2.2.2.2.2.2.2.2.2.1,v.2.2.2.2.2.2.2.2.2.2.1,v.2.2.2.2.2.2.2.2.2.2.2.1,v.2.2.2.2.2.2.2.2.2.2.2.2,r1.1,r1.2.1))) Dt.fail) Dt.fail)
theorem q38i C v:q3rf (regO (qdk f7) 15) true [(3,(.box [.val Riii])),(4,.any),(5,.any),(7,.any),(8,(.own Rii)),(10,(.own Ri)),(12,.any),(13,.any),(16,.any),(17,.any)] q38a q38h q38g C v:=rgI (by kernel_rfl)
abbrev q38j:Type:=Bool×Int×Int×Int×Bool×Int×List Diii×Int×Int×Int×Int×List Dii×List Di×Int×Int
def q38k (v:q38j):St:=⟨[(3,.ptr 0 0),(4,.ptr 1 0),(5,.ptr 2 0),(7,.bool v.1),(8,.rs 3),(10,.rs 4),(12,i6 v.2.1),(13,i6 v.2.2.1),(16,.ptr 5 0),(17,i6 v.2.2.2.1),(18,.bool v.2.2.2.2.1),(19,i6 v.2.2.2.2.2.1)],[.cells [.fz Riii v.2.2.2.2.2.2.1],.cells [i6 v.2.2.2.2.2.2.2.1,i6 v.2.2.2.2.2.2.2.2.1],.cells [i6 v.2.2.2.2.2.2.2.2.2.1,i6 v.2.2.2.2.2.2.2.2.2.2.1],.rows Rii v.2.2.2.2.2.2.2.2.2.2.2.1,.rows Ri v.2.2.2.2.2.2.2.2.2.2.2.2.1,.cells [i6 v.2.2.2.2.2.2.2.2.2.2.2.2.2.1,i6 v.2.2.2.2.2.2.2.2.2.2.2.2.2.2]]⟩
def q38l (C:q36u) (v:q38f):Dt q38j:=(Dt.ite (inB v.2.2.1 (List.length v.2.2.2.2.2.2.2.2.2.2.1)) (Dt.ite (inB (IntKind.wrap .i64 (v.2.2.1+(1:Int))) (List.length v.2.2.2.2.2.2.2.2.2.2.1)) (Dt.bnd (C.2.2.2.2.2.2.1 ((v.2.2.2.2.1,()),(v.2.2.2.2.2.1,v.2.2.2.2.2.2.1,()),(v.2.2.2.2.2.2.2.1,v.2.2.2.2.2.2.2.2.1,()),((elt zi v.2.2.2.2.2.2.2.2.2.2.1 (v.2.2.1).toNat).1,()),((elt zi v.2.2.2.2.2.2.2.2.2.2.1 ((IntKind.wrap .i64 (v.2.2.1+(1:Int)))).toNat).1,()),())) fun r1=>(Dt.ret (v.1,v.2.1,v.2.2.1,v.2.2.2.1,r1.1,r1.2,v.2.2.2.2.1,v.2.2.2.2.2.1,v.2.2.2.2.2.2.1,v.2.2.2.2.2.2.2.1,v.2.2.2.2.2.2.2.2.1,v.2.2.2.2.2.2.2.2.2.1,v.2.2.2.2.2.2.2.2.2.2.1,v.2.2.2.2.2.2.2.2.2.2.2.1,v.2.2.2.2.2.2.2.2.2.2.2.2))) Dt.fail) Dt.fail)
theorem q38m C v:q3rf (regO (qdk f7) 16) true [(3,(.box [.val Riii])),(4,.any),(5,.any),(7,.any),(8,(.own Rii)),(10,(.own Ri)),(12,.any),(13,.any),(16,.any),(17,.any),(18,.any),(19,.any)] q38g q38l q38k C v:=rgI (by kernel_rfl)
abbrev q38n:Type:=Bool×Int×Int×Bool×Bool×List Diii×Int×Int×Int×Int×List Dii×List Di
def q38o (v:q38n):St:=⟨[(3,.ptr 0 0),(4,.ptr 1 0),(5,.ptr 2 0),(7,.bool v.1),(8,.rs 3),(10,.rs 4),(12,i6 v.2.1),(13,i6 v.2.2.1),(18,.bool v.2.2.2.1),(164,.bool v.2.2.2.2.1)],[.cells [.fz Riii v.2.2.2.2.2.1],.cells [i6 v.2.2.2.2.2.2.1,i6 v.2.2.2.2.2.2.2.1],.cells [i6 v.2.2.2.2.2.2.2.2.1,i6 v.2.2.2.2.2.2.2.2.2.1],.rows Rii v.2.2.2.2.2.2.2.2.2.2.1,.rows Ri v.2.2.2.2.2.2.2.2.2.2.2]⟩
def q38p (C:q36u) (v:q38j):Dt q38n:=(Dt.ite (v.2.2.2.1 != (0:Int)) (Dt.ret (v.1,v.2.1,v.2.2.1,v.2.2.2.2.1,true,v.2.2.2.2.2.2.1,v.2.2.2.2.2.2.2.1,v.2.2.2.2.2.2.2.2.1,v.2.2.2.2.2.2.2.2.2.1,v.2.2.2.2.2.2.2.2.2.2.1,v.2.2.2.2.2.2.2.2.2.2.2.1,v.2.2.2.2.2.2.2.2.2.2.2.2.1)) (Dt.ite (inB v.2.2.1 (List.length v.2.2.2.2.2.2.2.2.2.2.2.1)) (Dt.ite (!(((elt zii v.2.2.2.2.2.2.2.2.2.2.2.1 (v.2.2.1).toNat).1 == v.2.2.2.2.2.2.2.2.2.2.2.2.2.1)&&(((elt zii v.2.2.2.2.2.2.2.2.2.2.2.1 (v.2.2.1).toNat).2.1 == v.2.2.2.2.2.2.2.2.2.2.2.2.2.2)&&true))) (Dt.ret (v.1,v.2.1,v.2.2.1,v.2.2.2.2.1,true,v.2.2.2.2.2.2.1,v.2.2.2.2.2.2.2.1,v.2.2.2.2.2.2.2.2.1,v.2.2.2.2.2.2.2.2.2.1,v.2.2.2.2.2.2.2.2.2.2.1,v.2.2.2.2.2.2.2.2.2.2.2.1,v.2.2.2.2.2.2.2.2.2.2.2.2.1)) (Dt.ite (v.2.2.2.2.2.1 != (0:Int)) (Dt.ret (v.1,v.2.1,v.2.2.1,v.2.2.2.2.1,true,v.2.2.2.2.2.2.1,v.2.2.2.2.2.2.2.1,v.2.2.2.2.2.2.2.2.1,v.2.2.2.2.2.2.2.2.2.1,v.2.2.2.2.2.2.2.2.2.2.1,v.2.2.2.2.2.2.2.2.2.2.2.1,v.2.2.2.2.2.2.2.2.2.2.2.2.1)) (Dt.ite (inB v.2.2.1 (List.length v.2.2.2.2.2.2.2.2.2.2.2.1)) (Dt.bnd (C.2.2.2.2.2.1 (((elt zii v.2.2.2.2.2.2.2.2.2.2.2.1 (v.2.2.1).toNat).1,(elt zii v.2.2.2.2.2.2.2.2.2.2.2.1 (v.2.2.1).toNat).2.1,()),(v.2.2.2.2.2.2.2.2.2.1,v.2.2.2.2.2.2.2.2.2.2.1,()),())) fun r1=>(Dt.ret (v.1,v.2.1,v.2.2.1,v.2.2.2.2.1,(v.2.2.2.2.1 == (decide (r1 > (0:Int)))),v.2.2.2.2.2.2.1,v.2.2.2.2.2.2.2.1,v.2.2.2.2.2.2.2.2.1,v.2.2.2.2.2.2.2.2.2.1,v.2.2.2.2.2.2.2.2.2.2.1,v.2.2.2.2.2.2.2.2.2.2.2.1,v.2.2.2.2.2.2.2.2.2.2.2.2.1))) Dt.fail))) Dt.fail))
theorem q38q C v:q3rf (regO (qdk f7) 17) true [(3,(.box [.val Riii])),(4,.any),(5,.any),(7,.any),(8,(.own Rii)),(10,(.own Ri)),(12,.any),(13,.any),(18,.any),(164,.any)] q38k q38p q38o C v:=rgI (by kernel_rfl)
def q38r (C:q36u) (v:q38n):Dt q37b:=(Dt.ret false)
theorem q38s C v:q3rf (regO (qdk f7) 18) false [(6,.any)] q38o q38r q37c C v:=rgI (by kernel_rfl)
abbrev q38t:Type:=Bool×Int×Int×Bool×List Diii×Int×Int×Int×Int×List Dii×List Di
def q38u (v:q38t):St:=⟨[(3,.ptr 0 0),(4,.ptr 1 0),(5,.ptr 2 0),(7,.bool v.1),(8,.rs 3),(10,.rs 4),(12,i6 v.2.1),(13,i6 v.2.2.1),(166,.bool v.2.2.2.1)],[.cells [.fz Riii v.2.2.2.2.1],.cells [i6 v.2.2.2.2.2.1,i6 v.2.2.2.2.2.2.1],.cells [i6 v.2.2.2.2.2.2.2.1,i6 v.2.2.2.2.2.2.2.2.1],.rows Rii v.2.2.2.2.2.2.2.2.2.1,.rows Ri v.2.2.2.2.2.2.2.2.2.2]⟩
def q38v (C:q36u) (v:q38n):Dt q38t:=(Dt.ret (v.1,v.2.1,v.2.2.1,(!v.2.2.2.1),v.2.2.2.2.2.1,v.2.2.2.2.2.2.1,v.2.2.2.2.2.2.2.1,v.2.2.2.2.2.2.2.2.1,v.2.2.2.2.2.2.2.2.2.1,v.2.2.2.2.2.2.2.2.2.2.1,v.2.2.2.2.2.2.2.2.2.2.2))
theorem q38w C v:q3rf (regO (qdk f7) 19) false [(3,(.box [.val Riii])),(4,.any),(5,.any),(7,.any),(8,(.own Rii)),(10,(.own Ri)),(12,.any),(13,.any),(166,.any)] q38o q38v q38u C v:=rgI (by kernel_rfl)
def q38x (C:q36u) (v:q38t):Dt q37x:=(Dt.ret (v.1,(IntKind.wrap .i64 (v.2.1+(1:Int))),v.2.2.1,v.2.2.2.2.1,v.2.2.2.2.2.1,v.2.2.2.2.2.2.1,v.2.2.2.2.2.2.2.1,v.2.2.2.2.2.2.2.2.1,v.2.2.2.2.2.2.2.2.2.1,v.2.2.2.2.2.2.2.2.2.2))
theorem q38y C v:q3rf (regO (qdk f7) 20) false [(3,(.box [.val Riii])),(4,.any),(5,.any),(7,.any),(8,(.own Rii)),(10,(.own Ri)),(12,.any),(13,.any)] q38u q38x q37y C v:=rgI (by kernel_rfl)
def q38z (C:q36u) (v:q37x):Dt q37x:=(Dt.ret (v.1,v.2.1,(IntKind.wrap .i64 (v.2.2.1+(1:Int))),v.2.2.2.1,v.2.2.2.2.1,v.2.2.2.2.2.1,v.2.2.2.2.2.2.1,v.2.2.2.2.2.2.2.1,v.2.2.2.2.2.2.2.2.1,v.2.2.2.2.2.2.2.2.2))
theorem q390 C v:q3rf (regO (qdk f7) 11) false [(3,(.box [.val Riii])),(4,.any),(5,.any),(7,.any),(8,(.own Rii)),(10,(.own Ri)),(12,.any),(13,.any)] q37y q38z q37y C v:=rgI (by kernel_rfl)
def q391  (d:Nat) (self1:(Bool×Int×Int×List Diii×Int×Int×Int×Int×List Dii×List Di)→Option q36r) (z:Bool×Int×Int×List Diii×Int×Int×Int×Int×List Dii×List Di):Option (q36r) :=
 (q38z (q36v d) z).eval fun y11 =>
 self1 y11
abbrev q392:Type:=Bool×Int×Int×Int×List Di
def q393 (v:q392):St:=⟨[(7,.bool v.1),(10,.rs 0),(12,i6 v.2.1),(20,i6 v.2.2.1),(21,i6 v.2.2.2.1)],[.rows Ri v.2.2.2.2]⟩
def q394 (C:q36u) (v:q381):Dt q392:=(Dt.bnd (C.2.1 ((v.2.2.2.2.1,()),(v.2.2.2.2.2.1,v.2.2.2.2.2.2.1,()),(v.2.2.2.2.2.2.2.1,v.2.2.2.2.2.2.2.2.1,()),())) fun r1=>(Dt.ret (v.1,v.2.1,r1.1,r1.2,v.2.2.2.2.2.2.2.2.2.2)))
theorem q395 C v:q3rf (regO (qdk f7) 21) false [(7,.any),(10,(.own Ri)),(12,.any),(20,.any),(21,.any)] q382 q394 q393 C v:=rgI (by kernel_rfl)
def q396 (C:q36u) (v:q392):Dt q37b:=(Dt.ite v.1 (Dt.ite (v.2.2.2.1 == (0:Int)) (Dt.ret (v.2.2.1 == (tmin (List.length v.2.2.2.2:Int) (IntKind.wrap .i64 (v.2.1+(1:Int)))))) (Dt.ret false)) (Dt.ret false))
theorem q397 C v:q3rf (regO (qdk f7) 22) false [(6,.any)] q393 q396 q37c C v:=rgI (by kernel_rfl)
def q398 (d:Nat) (self1:(Bool×Int×Int×List Diii×Int×Int×Int×Int×List Dii×List Di)→Option q36r) (x1:Bool×Int×Int×List Diii×Int×Int×Int×Int×List Dii×List Di):Option q36r :=
 (q383 (q36v d) x1).eval fun y10 =>
 bif y10.2.2.2.1 then ((q387 (q36v d) y10).eval fun y12 =>
 (q38b (q36v d) y12).eval fun y13 =>
 bif y13.2.2.2.2.2.1 then ((q38d (q36v d) y13).eval fun y14 =>
 some y14) else ((q38h (q36v d) y13).eval fun y15 =>
 (q38l (q36v d) y15).eval fun y16 =>
 (q38p (q36v d) y16).eval fun y17 =>
 bif y17.2.2.2.2.1 then ((q38r (q36v d) y17).eval fun y18 =>
 some y18) else ((q38v (q36v d) y17).eval fun y19 =>
 bif y19.2.2.2.1 then ((q38x (q36v d) y19).eval fun y20 =>
 q391 d self1 y20) else (q391 d self1 (y19.1,y19.2.1,y19.2.2.1,y19.2.2.2.2.1,y19.2.2.2.2.2.1,y19.2.2.2.2.2.2.1,y19.2.2.2.2.2.2.2.1,y19.2.2.2.2.2.2.2.2.1,y19.2.2.2.2.2.2.2.2.2.1,y19.2.2.2.2.2.2.2.2.2.2))))) else ((q394 (q36v d) y10).eval fun y21 =>
 (q396 (q36v d) y21).eval fun y22 =>
 some y22)
def q399 (d:Nat) (x:q36q):Option q36r :=
 (q371 (q36v d) (x.1.1,x.2.1.1,x.2.1.2.1,x.2.2.1.1,x.2.2.1.2.1)).eval fun y0 =>
 (q375 (q36v d) y0).eval fun y1 =>
 (q379 (q36v d) y1).eval fun y2 =>
 bif y2.2.1 then ((q37d (q36v d) y2).eval fun y3 =>
 some y3) else ((q37h (q36v d) y2).eval fun y4 =>
 (q37l (q36v d) y4).eval fun y5 =>
 (q37p (q36v d) y5).eval fun y6 =>
 bif y6.2.1 then ((q37r (q36v d) y6).eval fun y7 =>
 some y7) else ((q37v (q36v d) y6).eval fun y8 =>
 (q37z (q36v d) y8).eval fun y9 =>
 iter (q398 d ) d y9))
theorem q39a (d:Nat):COK prog (q36t (q399 d)):=by
 have hm:prog.follows .mixedOrders=true:=mixed
 have hT:=tys
 have hC0:OrcOK prog (orc (q36w (q36v d))):=qde (by
  intro S hS
  simp only [q36w,List.mem_cons,List.not_mem_nil,or_false] at hS
  rcases hS with rfl | rfl | rfl | rfl | rfl | rfl | rfl | rfl | rfl | rfl
  · exact q20n d
  · exact q24s d
  · exact q31w d
  · exact q33c d
  · exact qno d
  · exact q2gh d
  · exact q2ar d
  · exact qvp d
  · exact qpo d
  · exact q2hl d)
 have hC:OrcOK prog (orc (q36w (q36v d))):=hC0
 refine q93 (c:=qdk f7) (fn:=f7) hT (by kernel_rfl) (by kernel_rfl) (by decide) fun x r h w0 φ0 Q hend=>?_
 replace h:q399 d x=some r:=h
 unfold q399 at h
 show Run prog w0 φ0 190 (qdk f7) ⟨[(0,.agg [.fz Riii x.1.1]),(1,.agg [.int .i64 x.2.1.1,.int .i64 x.2.1.2.1]),(2,.agg [.int .i64 x.2.2.1.1,.int .i64 x.2.2.1.2.1])],[]⟩ Q
 refine q3pf hm hT hC (q372 (q36v d) (x.1.1,x.2.1.1,x.2.1.2.1,x.2.2.1.1,x.2.2.1.2.1)) h fun y0 h=>?_
 refine q3pf hm hT hC (q376 (q36v d) y0) h fun y1 h=>?_
 refine q8m ?_
 refine q3pf hm hT hC (q37a (q36v d) y1) h fun y2 h=>?_
 refine q8q (v:=y2.2.1) (by kernel_rfl) h ?_ ?_
 ·
  intro h
  refine q3pf hm hT hC (q37e (q36v d) y2) h fun y3 h=>?_
  refine q8l (q8a ?_)
  cases h
  exact (hend _ (by kernel_rfl)).2
 ·
  intro h
  refine q8i (q88 ?_)
  refine q3pf hm hT hC (q37i (q36v d) y2) h fun y4 h=>?_
  refine q3pf hm hT hC (q37m (q36v d) y4) h fun y5 h=>?_
  refine q8m ?_
  refine q3pf hm hT hC (q37q (q36v d) y5) h fun y6 h=>?_
  refine q8q (v:=y6.2.1) (by kernel_rfl) h ?_ ?_
  ·
   intro h
   refine q3pf hm hT hC (q37s (q36v d) y6) h fun y7 h=>?_
   refine q8l (q8a ?_)
   cases h
   exact (hend _ (by kernel_rfl)).2
  ·
   intro h
   refine q8i (q88 ?_)
   refine q3pf hm hT hC (q37w (q36v d) y6) h fun y8 h=>?_
   refine q8m ?_
   refine q3pf hm hT hC (q380 (q36v d) y8) h fun y9 h=>?_
   refine q8n ?_
   refine q8s (G:=iter (q398 d )) (S:=(fun x1=>⟨[(3,.ptr 0 0),(4,.ptr 1 0),(5,.ptr 2 0),(7,.bool x1.1),(8,.rs 3),(10,.rs 4),(12,i6 x1.2.1),(13,i6 x1.2.2.1)],[.cells [.fz Riii x1.2.2.2.1],.cells [i6 x1.2.2.2.2.1,i6 x1.2.2.2.2.2.1],.cells [i6 x1.2.2.2.2.2.2.1,i6 x1.2.2.2.2.2.2.2.1],.rows Rii x1.2.2.2.2.2.2.2.2.1,.rows Ri x1.2.2.2.2.2.2.2.2.2]⟩:Bool×Int×Int×List Diii×Int×Int×Int×Int×List Dii×List Di→St)) (fun _=>rfl) ?_ d _ h
   intro n1 x1 h K1 hn1
   replace h:q398 d  (iter (q398 d ) n1) x1=some r:=h
   generalize iter (q398 d ) n1=self1 at h hn1
   unfold q398 at h
   refine q8m ?_
   refine q3pf hm hT hC (q384 (q36v d) x1) h fun y10 h=>?_
   refine q8q (v:=y10.2.2.2.1) (by kernel_rfl) h ?_ ?_
   ·
    intro h
    refine q8i (q88 ?_)
    refine q8p (r:=r) (F:=q391 d self1) (S:=(fun z=>⟨[(3,.ptr 0 0),(4,.ptr 1 0),(5,.ptr 2 0),(7,.bool z.1),(8,.rs 3),(10,.rs 4),(12,i6 z.2.1),(13,i6 z.2.2.1)],[.cells [.fz Riii z.2.2.2.1],.cells [i6 z.2.2.2.2.1,i6 z.2.2.2.2.2.1],.cells [i6 z.2.2.2.2.2.2.1,i6 z.2.2.2.2.2.2.2.1],.rows Rii z.2.2.2.2.2.2.2.2.1,.rows Ri z.2.2.2.2.2.2.2.2.2]⟩:Bool×Int×Int×List Diii×Int×Int×Int×Int×List Dii×List Di→St)) ?_ ?_
    ·
     intro z h
     unfold q391 at h
     refine q8r hm hT hC (q390 (q36v d) z) h ?_
     intro y11 h
     exact hn1 _ h
    intro hj2
    refine q8n ?_
    refine q3pf hm hT hC (q388 (q36v d) y10) h fun y12 h=>?_
    refine q8m ?_
    refine q3pf hm hT hC (q38c (q36v d) y12) h fun y13 h=>?_
    refine q8q (v:=y13.2.2.2.2.2.1) (by kernel_rfl) h ?_ ?_
    ·
     intro h
     refine q3pf hm hT hC (q38e (q36v d) y13) h fun y14 h=>?_
     refine q8l (q8a (q8c (q8a (q8a (q8c (q8a ?_))))))
     cases h
     exact (hend _ (by kernel_rfl)).2
    ·
     intro h
     refine q8i (q88 ?_)
     refine q3pf hm hT hC (q38i (q36v d) y13) h fun y15 h=>?_
     refine q3pf hm hT hC (q38m (q36v d) y15) h fun y16 h=>?_
     refine q8m ?_
     refine q3pf hm hT hC (q38q (q36v d) y16) h fun y17 h=>?_
     refine q8q (v:=y17.2.2.2.2.1) (by kernel_rfl) h ?_ ?_
     ·
      intro h
      refine q3pf hm hT hC (q38s (q36v d) y17) h fun y18 h=>?_
      refine q8l (q8a (q8c (q8a (q8a (q8c (q8a ?_))))))
      cases h
      exact (hend _ (by kernel_rfl)).2
     ·
      intro h
      refine q8i (q88 ?_)
      refine q3pf hm hT hC (q38w (q36v d) y17) h fun y19 h=>?_
      refine q8q (v:=y19.2.2.2.1) (by kernel_rfl) h ?_ ?_
      ·
       intro h
       refine q8r hm hT hC (q38y (q36v d) y19) h ?_
       intro y20 h
       refine q8b ?_
       exact hj2 _ h
      ·
       intro h
       refine q8i (q8b ?_)
       refine qdj (s:=⟨[(3,.ptr 0 0),(4,.ptr 1 0),(5,.ptr 2 0),(7,.bool y19.1),(8,.rs 3),(10,.rs 4),(12,.int .i64 y19.2.1),(13,.int .i64 y19.2.2.1)],[.cells [.fz Riii y19.2.2.2.2.1],.cells [.int .i64 y19.2.2.2.2.2.1,.int .i64 y19.2.2.2.2.2.2.1],.cells [.int .i64 y19.2.2.2.2.2.2.2.1,.int .i64 y19.2.2.2.2.2.2.2.2.1],.rows Rii y19.2.2.2.2.2.2.2.2.2.1,.rows Ri y19.2.2.2.2.2.2.2.2.2.2]⟩) [166] (by kernel_rfl) ?_
       exact hj2 _ h
   ·
    intro h
    refine q8k (q89 (q89 (q8d (q88 ?_))))
    refine q3pf hm hT hC (q395 (q36v d) y10) h fun y21 h=>?_
    refine q3pf hm hT hC (q397 (q36v d) y21) h fun y22 h=>?_
    refine q8l ?_
    cases h
    exact (hend _ (by kernel_rfl)).2
abbrev q39b:List Pk:=[.row qjw true,.row Rii true,.row Rii true,.row Rii true]
abbrev q39c:Type:=qjx×Dii×Dii×Dii×Unit
abbrev q39d:Type:=Bool
def q39e (r:q39d):LV×List Ob:=(.bool r,[])
def q39f (F:q39c→Option q39d):Go.Tx.Spec:=⟨8,q39b,q39d,F,q39e⟩
abbrev q39g:Type:=(q21d→Option q21e)×(q2at→Option q2au)×(q30k→Option q30l)×(q32u→Option q32v)×(q2fd→Option q2fe)×(q29l→Option q29m)×Unit
def q39h (d:Nat):q39g:=(q243 d,q2cg d,q31v d,q33b d,q2gg d,q2aq d,())
def q39i (C:q39g):List Go.Tx.Spec:=[q21g C.1,q2aw C.2.1,q30n C.2.2.1,q32x C.2.2.2.1,q2fg C.2.2.2.2.1,q29o C.2.2.2.2.2.1]
abbrev q39j:Type:=List Diii×Int×Int×Int×Int×Int×Int
def q39k (v:q39j):St:=⟨[(0,.agg [.fz Riii v.1]),(1,.agg [i6 v.2.1,i6 v.2.2.1]),(2,.agg [i6 v.2.2.2.1,i6 v.2.2.2.2.1]),(3,.agg [i6 v.2.2.2.2.2.1,i6 v.2.2.2.2.2.2])],[]⟩
abbrev q39l:Type:=List Diii×Int×Int×Int×Int×Int×Int
def q39m (v:q39l):St:=⟨[(4,.ptr 0 0),(5,.ptr 1 0),(6,.ptr 2 0),(7,.ptr 3 0)],[.cells [.fz Riii v.1],.cells [i6 v.2.1,i6 v.2.2.1],.cells [i6 v.2.2.2.1,i6 v.2.2.2.2.1],.cells [i6 v.2.2.2.2.2.1,i6 v.2.2.2.2.2.2]]⟩
def q39n (C:q39g) (v:q39j):Dt q39l:=(Dt.ret (v.1,v.2.1,v.2.2.1,v.2.2.2.1,v.2.2.2.2.1,v.2.2.2.2.2.1,v.2.2.2.2.2.2))
abbrev q3rg {V Y:Type}:=@rg q39g V Y tysT (fun C=>(orc (q39i C))) 158
theorem q39o C v:q3rg (regO (qdk f8) 0) false [(4,(.box [.val Riii])),(5,.any),(6,.any),(7,.any)] q39k q39n q39m C v:=rgI (by kernel_rfl)
abbrev q39p:Type:=Bool×List Diii×Int×Int×Int×Int×Int×Int
def q39q (v:q39p):St:=⟨[(4,.ptr 0 0),(5,.ptr 1 0),(6,.ptr 2 0),(7,.ptr 3 0),(9,.bool v.1)],[.cells [.fz Riii v.2.1],.cells [i6 v.2.2.1,i6 v.2.2.2.1],.cells [i6 v.2.2.2.2.1,i6 v.2.2.2.2.2.1],.cells [i6 v.2.2.2.2.2.2.1,i6 v.2.2.2.2.2.2.2]]⟩
def q39r (C:q39g) (v:q39l):Dt q39p:=(Dt.bnd (C.2.2.1 (())) fun r1=>(Dt.ret (r1,v.1,v.2.1,v.2.2.1,v.2.2.2.1,v.2.2.2.2.1,v.2.2.2.2.2.1,v.2.2.2.2.2.2)))
theorem q39s C v:q3rg (regO (qdk f8) 1) false [(4,(.box [.val Riii])),(5,.any),(6,.any),(7,.any),(9,.any)] q39m q39r q39q C v:=rgI (by kernel_rfl)
abbrev q39t:Type:=Bool×Bool×List Diii×Int×Int×Int×Int×Int×Int
def q39u (v:q39t):St:=⟨[(4,.ptr 0 0),(5,.ptr 1 0),(6,.ptr 2 0),(7,.ptr 3 0),(9,.bool v.1),(44,.bool v.2.1)],[.cells [.fz Riii v.2.2.1],.cells [i6 v.2.2.2.1,i6 v.2.2.2.2.1],.cells [i6 v.2.2.2.2.2.1,i6 v.2.2.2.2.2.2.1],.cells [i6 v.2.2.2.2.2.2.2.1,i6 v.2.2.2.2.2.2.2.2]]⟩
def q39v (C:q39g) (v:q39p):Dt q39t:=(Dt.bnd (C.2.2.2.1 ((v.2.1,()),(v.2.2.1,v.2.2.2.1,()),(v.2.2.2.2.1,v.2.2.2.2.2.1,()),())) fun r1=>(Dt.ite (!r1) (Dt.ret (v.1,true,v.2.1,v.2.2.1,v.2.2.2.1,v.2.2.2.2.1,v.2.2.2.2.2.1,v.2.2.2.2.2.2.1,v.2.2.2.2.2.2.2)) (Dt.bnd (C.2.2.2.1 ((v.2.1,()),(v.2.2.1,v.2.2.2.1,()),(v.2.2.2.2.2.2.1,v.2.2.2.2.2.2.2,()),())) fun r2=>(Dt.ite (!r2) (Dt.ret (v.1,true,v.2.1,v.2.2.1,v.2.2.2.1,v.2.2.2.2.1,v.2.2.2.2.2.1,v.2.2.2.2.2.2.1,v.2.2.2.2.2.2.2)) (Dt.bnd (C.2.2.2.2.1 ((v.2.2.2.2.1,v.2.2.2.2.2.1,()),(v.2.2.2.2.2.2.1,v.2.2.2.2.2.2.2,()),())) fun r3=>(Dt.ite (decide (r3 > (0:Int))) (Dt.ret (v.1,true,v.2.1,v.2.2.1,v.2.2.2.1,v.2.2.2.2.1,v.2.2.2.2.2.1,v.2.2.2.2.2.2.1,v.2.2.2.2.2.2.2)) (Dt.ret (v.1,(!v.1),v.2.1,v.2.2.1,v.2.2.2.1,v.2.2.2.2.1,v.2.2.2.2.2.1,v.2.2.2.2.2.2.1,v.2.2.2.2.2.2.2))))))))
theorem q39w C v:q3rg (regO (qdk f8) 2) false [(4,(.box [.val Riii])),(5,.any),(6,.any),(7,.any),(9,.any),(44,.any)] q39q q39v q39u C v:=rgI (by kernel_rfl)
abbrev q39x:Type:=Bool
def q39y (v:q39x):St:=⟨[(8,.bool v)],[]⟩
def q39z (C:q39g) (v:q39t):Dt q39x:=(Dt.ret v.1)
theorem q3a0 C v:q3rg (regO (qdk f8) 3) false [(8,.any)] q39u q39z q39y C v:=rgI (by kernel_rfl)
abbrev q3a1:Type:=Bool×List DLiE×Int×List Diii×Int×Int×Int×Int×Int×Int
def q3a2 (v:q3a1):St:=⟨[(4,.ptr 0 0),(5,.ptr 1 0),(6,.ptr 2 0),(7,.ptr 3 0),(9,.bool v.1),(10,.fz RLiE v.2.1),(11,i6 v.2.2.1)],[.cells [.fz Riii v.2.2.2.1],.cells [i6 v.2.2.2.2.1,i6 v.2.2.2.2.2.1],.cells [i6 v.2.2.2.2.2.2.1,i6 v.2.2.2.2.2.2.2.1],.cells [i6 v.2.2.2.2.2.2.2.2.1,i6 v.2.2.2.2.2.2.2.2.2]]⟩
def q3a3 (C:q39g) (v:q39t):Dt q3a1:=(Dt.bnd (C.1 ((v.2.2.1,()),(v.2.2.2.1,v.2.2.2.2.1,()),(v.2.2.2.2.2.1,v.2.2.2.2.2.2.1,()),())) fun r1=>(Dt.ret (v.1,r1.1,r1.2,v.2.2.1,v.2.2.2.1,v.2.2.2.2.1,v.2.2.2.2.2.1,v.2.2.2.2.2.2.1,v.2.2.2.2.2.2.2.1,v.2.2.2.2.2.2.2.2)))
theorem q3a4 C v:q3rg (regO (qdk f8) 4) false [(4,(.box [.val Riii])),(5,.any),(6,.any),(7,.any),(9,.any),(10,(.val RLiE)),(11,.any)] q39u q3a3 q3a2 C v:=rgI (by kernel_rfl)
abbrev q3a5:Type:=Bool×List DLiE×Int×List DLiE×Int×List Diii×Int×Int×Int×Int×Int×Int
def q3a6 (v:q3a5):St:=⟨[(4,.ptr 0 0),(5,.ptr 1 0),(6,.ptr 2 0),(7,.ptr 3 0),(9,.bool v.1),(10,.fz RLiE v.2.1),(11,i6 v.2.2.1),(12,.fz RLiE v.2.2.2.1),(13,i6 v.2.2.2.2.1)],[.cells [.fz Riii v.2.2.2.2.2.1],.cells [i6 v.2.2.2.2.2.2.1,i6 v.2.2.2.2.2.2.2.1],.cells [i6 v.2.2.2.2.2.2.2.2.1,i6 v.2.2.2.2.2.2.2.2.2.1],.cells [i6 v.2.2.2.2.2.2.2.2.2.2.1,i6 v.2.2.2.2.2.2.2.2.2.2.2]]⟩
def q3a7 (C:q39g) (v:q3a1):Dt q3a5:=(Dt.bnd (C.1 ((v.2.2.2.1,()),(v.2.2.2.2.1,v.2.2.2.2.2.1,()),(v.2.2.2.2.2.2.2.2.1,v.2.2.2.2.2.2.2.2.2,()),())) fun r1=>(Dt.ret (v.1,v.2.1,v.2.2.1,r1.1,r1.2,v.2.2.2.1,v.2.2.2.2.1,v.2.2.2.2.2.1,v.2.2.2.2.2.2.1,v.2.2.2.2.2.2.2.1,v.2.2.2.2.2.2.2.2.1,v.2.2.2.2.2.2.2.2.2)))
theorem q3a8 C v:q3rg (regO (qdk f8) 5) false [(4,(.box [.val Riii])),(5,.any),(6,.any),(7,.any),(9,.any),(10,(.val RLiE)),(11,.any),(12,(.val RLiE)),(13,.any)] q3a2 q3a7 q3a6 C v:=rgI (by kernel_rfl)
abbrev q3a9:Type:=Bool×List DLiE×Bool×List Diii×Int×Int×Int×Int×Int×Int
def q3aa (v:q3a9):St:=⟨[(4,.ptr 0 0),(5,.ptr 1 0),(6,.ptr 2 0),(7,.ptr 3 0),(9,.bool v.1),(10,.fz RLiE v.2.1),(72,.bool v.2.2.1)],[.cells [.fz Riii v.2.2.2.1],.cells [i6 v.2.2.2.2.1,i6 v.2.2.2.2.2.1],.cells [i6 v.2.2.2.2.2.2.1,i6 v.2.2.2.2.2.2.2.1],.cells [i6 v.2.2.2.2.2.2.2.2.1,i6 v.2.2.2.2.2.2.2.2.2]]⟩
def q3ab (C:q39g) (v:q3a5):Dt q3a9:=(Dt.ite (v.2.2.1 != (0:Int)) (Dt.ret (v.1,v.2.1,true,v.2.2.2.2.2.1,v.2.2.2.2.2.2.1,v.2.2.2.2.2.2.2.1,v.2.2.2.2.2.2.2.2.1,v.2.2.2.2.2.2.2.2.2.1,v.2.2.2.2.2.2.2.2.2.2.1,v.2.2.2.2.2.2.2.2.2.2.2)) (Dt.ite (v.2.2.2.2.1 != (0:Int)) (Dt.ret (v.1,v.2.1,true,v.2.2.2.2.2.1,v.2.2.2.2.2.2.1,v.2.2.2.2.2.2.2.1,v.2.2.2.2.2.2.2.2.1,v.2.2.2.2.2.2.2.2.2.1,v.2.2.2.2.2.2.2.2.2.2.1,v.2.2.2.2.2.2.2.2.2.2.2)) (Dt.ret (v.1,v.2.1,(decide ((List.length v.2.2.2.1:Int) > (List.length v.2.1:Int))),v.2.2.2.2.2.1,v.2.2.2.2.2.2.1,v.2.2.2.2.2.2.2.1,v.2.2.2.2.2.2.2.2.1,v.2.2.2.2.2.2.2.2.2.1,v.2.2.2.2.2.2.2.2.2.2.1,v.2.2.2.2.2.2.2.2.2.2.2))))
theorem q3ac C v:q3rg (regO (qdk f8) 6) false [(4,(.box [.val Riii])),(5,.any),(6,.any),(7,.any),(9,.any),(10,(.val RLiE)),(72,.any)] q3a6 q3ab q3aa C v:=rgI (by kernel_rfl)
def q3ad (C:q39g) (v:q3a9):Dt q39x:=(Dt.ret false)
theorem q3ae C v:q3rg (regO (qdk f8) 7) false [(8,.any)] q3aa q3ad q39y C v:=rgI (by kernel_rfl)
abbrev q3af:Type:=Bool×List DLiE×Int×List Diii×Int×Int×Int×Int×Int×Int
def q3ag (v:q3af):St:=⟨[(4,.ptr 0 0),(5,.ptr 1 0),(6,.ptr 2 0),(7,.ptr 3 0),(9,.bool v.1),(10,.fz RLiE v.2.1),(14,i6 v.2.2.1)],[.cells [.fz Riii v.2.2.2.1],.cells [i6 v.2.2.2.2.1,i6 v.2.2.2.2.2.1],.cells [i6 v.2.2.2.2.2.2.1,i6 v.2.2.2.2.2.2.2.1],.cells [i6 v.2.2.2.2.2.2.2.2.1,i6 v.2.2.2.2.2.2.2.2.2]]⟩
def q3ah (C:q39g) (v:q3a9):Dt q3af:=(Dt.ret (v.1,v.2.1,(0:Int),v.2.2.2.1,v.2.2.2.2.1,v.2.2.2.2.2.1,v.2.2.2.2.2.2.1,v.2.2.2.2.2.2.2.1,v.2.2.2.2.2.2.2.2.1,v.2.2.2.2.2.2.2.2.2))
theorem q3ai C v:q3rg (regO (qdk f8) 8) false [(4,(.box [.val Riii])),(5,.any),(6,.any),(7,.any),(9,.any),(10,(.val RLiE)),(14,.any)] q3aa q3ah q3ag C v:=rgI (by kernel_rfl)
abbrev q3aj:Type:=Bool×List DLiE×Int×Bool×List Diii×Int×Int×Int×Int×Int×Int
def q3ak (v:q3aj):St:=⟨[(4,.ptr 0 0),(5,.ptr 1 0),(6,.ptr 2 0),(7,.ptr 3 0),(9,.bool v.1),(10,.fz RLiE v.2.1),(14,i6 v.2.2.1),(76,.bool v.2.2.2.1)],[.cells [.fz Riii v.2.2.2.2.1],.cells [i6 v.2.2.2.2.2.1,i6 v.2.2.2.2.2.2.1],.cells [i6 v.2.2.2.2.2.2.2.1,i6 v.2.2.2.2.2.2.2.2.1],.cells [i6 v.2.2.2.2.2.2.2.2.2.1,i6 v.2.2.2.2.2.2.2.2.2.2]]⟩
def q3al (C:q39g) (v:q3af):Dt q3aj:=(Dt.ret (v.1,v.2.1,v.2.2.1,(decide (v.2.2.1<(List.length v.2.1:Int))),v.2.2.2.1,v.2.2.2.2.1,v.2.2.2.2.2.1,v.2.2.2.2.2.2.1,v.2.2.2.2.2.2.2.1,v.2.2.2.2.2.2.2.2.1,v.2.2.2.2.2.2.2.2.2))
theorem q3am C v:q3rg (regO (qdk f8) 9) false [(4,(.box [.val Riii])),(5,.any),(6,.any),(7,.any),(9,.any),(10,(.val RLiE)),(14,.any),(76,.any)] q3ag q3al q3ak C v:=rgI (by kernel_rfl)
abbrev q3an:Type:=Bool×List DLiE×Int×Int×List Diii×Int×Int×Int×Int×Int×Int
def q3ao (v:q3an):St:=⟨[(4,.ptr 0 0),(5,.ptr 1 0),(6,.ptr 2 0),(7,.ptr 3 0),(9,.bool v.1),(10,.fz RLiE v.2.1),(14,i6 v.2.2.1),(15,i6 v.2.2.2.1)],[.cells [.fz Riii v.2.2.2.2.1],.cells [i6 v.2.2.2.2.2.1,i6 v.2.2.2.2.2.2.1],.cells [i6 v.2.2.2.2.2.2.2.1,i6 v.2.2.2.2.2.2.2.2.1],.cells [i6 v.2.2.2.2.2.2.2.2.2.1,i6 v.2.2.2.2.2.2.2.2.2.2]]⟩
def q3ap (C:q39g) (v:q3aj):Dt q3an:=(Dt.ret (v.1,v.2.1,v.2.2.1,(1:Int),v.2.2.2.2.1,v.2.2.2.2.2.1,v.2.2.2.2.2.2.1,v.2.2.2.2.2.2.2.1,v.2.2.2.2.2.2.2.2.1,v.2.2.2.2.2.2.2.2.2.1,v.2.2.2.2.2.2.2.2.2.2))
theorem q3aq C v:q3rg (regO (qdk f8) 11) false [(4,(.box [.val Riii])),(5,.any),(6,.any),(7,.any),(9,.any),(10,(.val RLiE)),(14,.any),(15,.any)] q3ak q3ap q3ao C v:=rgI (by kernel_rfl)
abbrev q3ar:Type:=Bool×List DLiE×Int×Int×Bool×List Diii×Int×Int×Int×Int×Int×Int
def q3as (v:q3ar):St:=⟨[(4,.ptr 0 0),(5,.ptr 1 0),(6,.ptr 2 0),(7,.ptr 3 0),(9,.bool v.1),(10,.fz RLiE v.2.1),(14,i6 v.2.2.1),(15,i6 v.2.2.2.1),(85,.bool v.2.2.2.2.1)],[.cells [.fz Riii v.2.2.2.2.2.1],.cells [i6 v.2.2.2.2.2.2.1,i6 v.2.2.2.2.2.2.2.1],.cells [i6 v.2.2.2.2.2.2.2.2.1,i6 v.2.2.2.2.2.2.2.2.2.1],.cells [i6 v.2.2.2.2.2.2.2.2.2.2.1,i6 v.2.2.2.2.2.2.2.2.2.2.2]]⟩
def q3at (C:q39g) (v:q3an):Dt q3ar:=(Dt.ite (inB v.2.2.1 (List.length v.2.1)) (Dt.ret (v.1,v.2.1,v.2.2.1,v.2.2.2.1,(decide (v.2.2.2.1<(List.length (elt zLiE v.2.1 (v.2.2.1).toNat).1:Int))),v.2.2.2.2.1,v.2.2.2.2.2.1,v.2.2.2.2.2.2.1,v.2.2.2.2.2.2.2.1,v.2.2.2.2.2.2.2.2.1,v.2.2.2.2.2.2.2.2.2.1,v.2.2.2.2.2.2.2.2.2.2)) Dt.fail)
theorem q3au C v:q3rg (regO (qdk f8) 12) false [(4,(.box [.val Riii])),(5,.any),(6,.any),(7,.any),(9,.any),(10,(.val RLiE)),(14,.any),(15,.any),(85,.any)] q3ao q3at q3as C v:=rgI (by kernel_rfl)
abbrev q3av:Type:=Bool×List DLiE×Int×Int×Bool×Int×List Diii×Int×Int×Int×Int×Int×Int
def q3aw (v:q3av):St:=⟨[(4,.ptr 0 0),(5,.ptr 1 0),(6,.ptr 2 0),(7,.ptr 3 0),(9,.bool v.1),(10,.fz RLiE v.2.1),(14,i6 v.2.2.1),(15,i6 v.2.2.2.1),(16,.bool v.2.2.2.2.1),(17,i6 v.2.2.2.2.2.1)],[.cells [.fz Riii v.2.2.2.2.2.2.1],.cells [i6 v.2.2.2.2.2.2.2.1,i6 v.2.2.2.2.2.2.2.2.1],.cells [i6 v.2.2.2.2.2.2.2.2.2.1,i6 v.2.2.2.2.2.2.2.2.2.2.1],.cells [i6 v.2.2.2.2.2.2.2.2.2.2.2.1,i6 v.2.2.2.2.2.2.2.2.2.2.2.2]]⟩
def q3ax (C:q39g) (v:q3ar):Dt q3av:=(Dt.ite (inB v.2.2.1 (List.length v.2.1)) (Dt.ite (inB (0:Int) (List.length (elt zLiE v.2.1 (v.2.2.1).toNat).1)) (Dt.ite (inB v.2.2.1 (List.length v.2.1)) (Dt.ite (inB v.2.2.2.1 (List.length (elt zLiE v.2.1 (v.2.2.1).toNat).1)) (Dt.bnd (C.2.2.2.2.2.1 ((v.2.2.2.2.2.1,()),(v.2.2.2.2.2.2.1,v.2.2.2.2.2.2.2.1,()),(v.2.2.2.2.2.2.2.2.2.2.1,v.2.2.2.2.2.2.2.2.2.2.2,()),((elt zi (elt zLiE v.2.1 (v.2.2.1).toNat).1 ((0:Int)).toNat).1,()),((elt zi (elt zLiE v.2.1 (v.2.2.1).toNat).1 (v.2.2.2.1).toNat).1,()),())) fun r1=>(Dt.ret (v.1,v.2.1,v.2.2.1,v.2.2.2.1,r1.1,r1.2,v.2.2.2.2.2.1,v.2.2.2.2.2.2.1,v.2.2.2.2.2.2.2.1,v.2.2.2.2.2.2.2.2.1,v.2.2.2.2.2.2.2.2.2.1,v.2.2.2.2.2.2.2.2.2.2.1,v.2.2.2.2.2.2.2.2.2.2.2))) Dt.fail) Dt.fail) Dt.fail) Dt.fail)
theorem q3ay C v:q3rg (regO (qdk f8) 14) true [(4,(.box [.val Riii])),(5,.any),(6,.any),(7,.any),(9,.any),(10,(.val RLiE)),(14,.any),(15,.any),(16,.any),(17,.any)] q3as q3ax q3aw C v:=rgI (by kernel_rfl)
abbrev q3az:Type:=Bool×List DLiE×Int×Int×Bool×List Diii×Int×Int×Int×Int×Int×Int
def q3b0 (v:q3az):St:=⟨[(4,.ptr 0 0),(5,.ptr 1 0),(6,.ptr 2 0),(7,.ptr 3 0),(9,.bool v.1),(10,.fz RLiE v.2.1),(14,i6 v.2.2.1),(15,i6 v.2.2.2.1),(113,.bool v.2.2.2.2.1)],[.cells [.fz Riii v.2.2.2.2.2.1],.cells [i6 v.2.2.2.2.2.2.1,i6 v.2.2.2.2.2.2.2.1],.cells [i6 v.2.2.2.2.2.2.2.2.1,i6 v.2.2.2.2.2.2.2.2.2.1],.cells [i6 v.2.2.2.2.2.2.2.2.2.2.1,i6 v.2.2.2.2.2.2.2.2.2.2.2]]⟩
def q3b1 (C:q39g) (v:q3av):Dt q3az:=(Dt.ite (v.2.2.2.2.2.1 != (0:Int)) (Dt.ret (v.1,v.2.1,v.2.2.1,v.2.2.2.1,true,v.2.2.2.2.2.2.1,v.2.2.2.2.2.2.2.1,v.2.2.2.2.2.2.2.2.1,v.2.2.2.2.2.2.2.2.2.1,v.2.2.2.2.2.2.2.2.2.2.1,v.2.2.2.2.2.2.2.2.2.2.2.1,v.2.2.2.2.2.2.2.2.2.2.2.2)) (Dt.ret (v.1,v.2.1,v.2.2.1,v.2.2.2.1,(!v.2.2.2.2.1),v.2.2.2.2.2.2.1,v.2.2.2.2.2.2.2.1,v.2.2.2.2.2.2.2.2.1,v.2.2.2.2.2.2.2.2.2.1,v.2.2.2.2.2.2.2.2.2.2.1,v.2.2.2.2.2.2.2.2.2.2.2.1,v.2.2.2.2.2.2.2.2.2.2.2.2)))
theorem q3b2 C v:q3rg (regO (qdk f8) 15) false [(4,(.box [.val Riii])),(5,.any),(6,.any),(7,.any),(9,.any),(10,(.val RLiE)),(14,.any),(15,.any),(113,.any)] q3aw q3b1 q3b0 C v:=rgI (by kernel_rfl)
def q3b3 (C:q39g) (v:q3az):Dt q39x:=(Dt.ret false)
theorem q3b4 C v:q3rg (regO (qdk f8) 16) false [(8,.any)] q3b0 q3b3 q39y C v:=rgI (by kernel_rfl)
def q3b5 (C:q39g) (v:q3az):Dt q3an:=(Dt.ret (v.1,v.2.1,v.2.2.1,(IntKind.wrap .i64 (v.2.2.2.1+(1:Int))),v.2.2.2.2.2.1,v.2.2.2.2.2.2.1,v.2.2.2.2.2.2.2.1,v.2.2.2.2.2.2.2.2.1,v.2.2.2.2.2.2.2.2.2.1,v.2.2.2.2.2.2.2.2.2.2.1,v.2.2.2.2.2.2.2.2.2.2.2))
theorem q3b6 C v:q3rg (regO (qdk f8) 13) false [(4,(.box [.val Riii])),(5,.any),(6,.any),(7,.any),(9,.any),(10,(.val RLiE)),(14,.any),(15,.any)] q3b0 q3b5 q3ao C v:=rgI (by kernel_rfl)
def q3b7 (C:q39g) (v:q3ar):Dt q3af:=(Dt.ret (v.1,v.2.1,(IntKind.wrap .i64 (v.2.2.1+(1:Int))),v.2.2.2.2.2.1,v.2.2.2.2.2.2.1,v.2.2.2.2.2.2.2.1,v.2.2.2.2.2.2.2.2.1,v.2.2.2.2.2.2.2.2.2.1,v.2.2.2.2.2.2.2.2.2.2.1,v.2.2.2.2.2.2.2.2.2.2.2))
theorem q3b8 C v:q3rg (regO (qdk f8) 10) false [(4,(.box [.val Riii])),(5,.any),(6,.any),(7,.any),(9,.any),(10,(.val RLiE)),(14,.any)] q3as q3b7 q3ag C v:=rgI (by kernel_rfl)
def q3b9 (d:Nat) (self1:(Bool×List DLiE×Int×List Diii×Int×Int×Int×Int×Int×Int)→Option q39d) (self2:(Bool×List DLiE×Int×Int×List Diii×Int×Int×Int×Int×Int×Int)→Option q39d) (x2:Bool×List DLiE×Int×Int×List Diii×Int×Int×Int×Int×Int×Int):Option q39d :=
 (q3at (q39h d) x2).eval fun y12 =>
 bif y12.2.2.2.2.1 then ((q3ax (q39h d) y12).eval fun y14 =>
 (q3b1 (q39h d) y14).eval fun y15 =>
 bif y15.2.2.2.2.1 then ((q3b3 (q39h d) y15).eval fun y16 =>
 some y16) else ((q3b5 (q39h d) y15).eval fun y13 =>
 self2 y13)) else ((q3b7 (q39h d) y12).eval fun y10 =>
 self1 y10)
abbrev q3ba:Type:=Bool×List Di×Int×List Diii×Int×Int×Int×Int
def q3bb (v:q3ba):St:=⟨[(4,.ptr 0 0),(5,.ptr 1 0),(7,.ptr 2 0),(9,.bool v.1),(18,.fz Ri v.2.1),(19,i6 v.2.2.1)],[.cells [.fz Riii v.2.2.2.1],.cells [i6 v.2.2.2.2.1,i6 v.2.2.2.2.2.1],.cells [i6 v.2.2.2.2.2.2.1,i6 v.2.2.2.2.2.2.2]]⟩
def q3bc (C:q39g) (v:q3aj):Dt q3ba:=(Dt.bnd (C.2.1 ((v.2.2.2.2.1,()),(v.2.2.2.2.2.1,v.2.2.2.2.2.2.1,()),(v.2.2.2.2.2.2.2.1,v.2.2.2.2.2.2.2.2.1,()),())) fun r1=>(Dt.ret (v.1,r1.1,r1.2,v.2.2.2.2.1,v.2.2.2.2.2.1,v.2.2.2.2.2.2.1,v.2.2.2.2.2.2.2.2.2.1,v.2.2.2.2.2.2.2.2.2.2)))
theorem q3bd C v:q3rg (regO (qdk f8) 17) false [(4,(.box [.val Riii])),(5,.any),(7,.any),(9,.any),(18,(.val Ri)),(19,.any)] q3ak q3bc q3bb C v:=rgI (by kernel_rfl)
abbrev q3be:Type:=Bool×List Di×Int×List Di×Int×List Diii
def q3bf (v:q3be):St:=⟨[(4,.ptr 0 0),(9,.bool v.1),(18,.fz Ri v.2.1),(19,i6 v.2.2.1),(20,.fz Ri v.2.2.2.1),(21,i6 v.2.2.2.2.1)],[.cells [.fz Riii v.2.2.2.2.2]]⟩
def q3bg (C:q39g) (v:q3ba):Dt q3be:=(Dt.bnd (C.2.1 ((v.2.2.2.1,()),(v.2.2.2.2.1,v.2.2.2.2.2.1,()),(v.2.2.2.2.2.2.1,v.2.2.2.2.2.2.2,()),())) fun r1=>(Dt.ret (v.1,v.2.1,v.2.2.1,r1.1,r1.2,v.2.2.2.1)))
theorem q3bh C v:q3rg (regO (qdk f8) 18) false [(4,(.box [.val Riii])),(9,.any),(18,(.val Ri)),(19,.any),(20,(.val Ri)),(21,.any)] q3bb q3bg q3bf C v:=rgI (by kernel_rfl)
def q3bi (C:q39g) (v:q3be):Dt q39x:=(Dt.ite v.1 (Dt.ite ((List.length v.2.2.2.2.2:Int) == (0:Int)) (Dt.ite (v.2.2.1 == (42:Int)) (Dt.ite (v.2.2.2.2.1 == (42:Int)) (Dt.ret true) (Dt.ite (v.2.2.1 == (0:Int)) (Dt.ite (v.2.2.2.2.1 == (0:Int)) (Dt.ret (decide ((List.length v.2.1:Int)≤(List.length v.2.2.2.1:Int)))) (Dt.ret false)) (Dt.ret false))) (Dt.ite (v.2.2.1 == (0:Int)) (Dt.ite (v.2.2.2.2.1 == (0:Int)) (Dt.ret (decide ((List.length v.2.1:Int)≤(List.length v.2.2.2.1:Int)))) (Dt.ret false)) (Dt.ret false))) (Dt.ite (v.2.2.1 == (0:Int)) (Dt.ite (v.2.2.2.2.1 == (0:Int)) (Dt.ret (decide ((List.length v.2.1:Int)≤(List.length v.2.2.2.1:Int)))) (Dt.ret false)) (Dt.ret false))) (Dt.ret false))
theorem q3bj C v:q3rg (regO (qdk f8) 19) false [(8,.any)] q3bf q3bi q39y C v:=rgI (by kernel_rfl)
def q3bk (d:Nat) (self1:(Bool×List DLiE×Int×List Diii×Int×Int×Int×Int×Int×Int)→Option q39d) (x1:Bool×List DLiE×Int×List Diii×Int×Int×Int×Int×Int×Int):Option q39d :=
 (q3al (q39h d) x1).eval fun y9 =>
 bif y9.2.2.2.1 then ((q3ap (q39h d) y9).eval fun y11 =>
 iter (q3b9 d self1) d y11) else ((q3bc (q39h d) y9).eval fun y17 =>
 (q3bg (q39h d) y17).eval fun y18 =>
 (q3bi (q39h d) y18).eval fun y19 =>
 some y19)
def q3bl (d:Nat) (x:q39c):Option q39d :=
 (q39n (q39h d) (x.1.1,x.2.1.1,x.2.1.2.1,x.2.2.1.1,x.2.2.1.2.1,x.2.2.2.1.1,x.2.2.2.1.2.1)).eval fun y0 =>
 (q39r (q39h d) y0).eval fun y1 =>
 (q39v (q39h d) y1).eval fun y2 =>
 bif y2.2.1 then ((q39z (q39h d) y2).eval fun y3 =>
 some y3) else ((q3a3 (q39h d) y2).eval fun y4 =>
 (q3a7 (q39h d) y4).eval fun y5 =>
 (q3ab (q39h d) y5).eval fun y6 =>
 bif y6.2.2.1 then ((q3ad (q39h d) y6).eval fun y7 =>
 some y7) else ((q3ah (q39h d) y6).eval fun y8 =>
 iter (q3bk d ) d y8))
theorem q3bm (d:Nat):COK prog (q39f (q3bl d)):=by
 have hm:prog.follows .mixedOrders=true:=mixed
 have hT:=tys
 have hC0:OrcOK prog (orc (q39i (q39h d))):=qde (by
  intro S hS
  simp only [q39i,List.mem_cons,List.not_mem_nil,or_false] at hS
  rcases hS with rfl | rfl | rfl | rfl | rfl | rfl
  · exact q244 d
  · exact q2ch d
  · exact q31w d
  · exact q33c d
  · exact q2gh d
  · exact q2ar d)
 have hC:OrcOK prog (orc (q39i (q39h d))):=hC0
 refine q93 (c:=qdk f8) (fn:=f8) hT (by kernel_rfl) (by kernel_rfl) (by decide) fun x r h w0 φ0 Q hend=>?_
 replace h:q3bl d x=some r:=h
 unfold q3bl at h
 show Run prog w0 φ0 158 (qdk f8) ⟨[(0,.agg [.fz Riii x.1.1]),(1,.agg [.int .i64 x.2.1.1,.int .i64 x.2.1.2.1]),(2,.agg [.int .i64 x.2.2.1.1,.int .i64 x.2.2.1.2.1]),(3,.agg [.int .i64 x.2.2.2.1.1,.int .i64 x.2.2.2.1.2.1])],[]⟩ Q
 refine q3pf hm hT hC (q39o (q39h d) (x.1.1,x.2.1.1,x.2.1.2.1,x.2.2.1.1,x.2.2.1.2.1,x.2.2.2.1.1,x.2.2.2.1.2.1)) h fun y0 h=>?_
 refine q3pf hm hT hC (q39s (q39h d) y0) h fun y1 h=>?_
 refine q8m ?_
 refine q3pf hm hT hC (q39w (q39h d) y1) h fun y2 h=>?_
 refine q8q (v:=y2.2.1) (by kernel_rfl) h ?_ ?_
 ·
  intro h
  refine q3pf hm hT hC (q3a0 (q39h d) y2) h fun y3 h=>?_
  refine q8l (q8a ?_)
  cases h
  exact (hend _ (by kernel_rfl)).2
 ·
  intro h
  refine q8i (q88 ?_)
  refine q3pf hm hT hC (q3a4 (q39h d) y2) h fun y4 h=>?_
  refine q3pf hm hT hC (q3a8 (q39h d) y4) h fun y5 h=>?_
  refine q8m ?_
  refine q3pf hm hT hC (q3ac (q39h d) y5) h fun y6 h=>?_
  refine q8q (v:=y6.2.2.1) (by kernel_rfl) h ?_ ?_
  ·
   intro h
   refine q3pf hm hT hC (q3ae (q39h d) y6) h fun y7 h=>?_
   refine q8l (q8a ?_)
   cases h
   exact (hend _ (by kernel_rfl)).2
  ·
   intro h
   refine q8i (q88 (q8m ?_))
   refine q3pf hm hT hC (q3ai (q39h d) y6) h fun y8 h=>?_
   refine q8n ?_
   refine q8s (G:=iter (q3bk d )) (S:=(fun x1=>⟨[(4,.ptr 0 0),(5,.ptr 1 0),(6,.ptr 2 0),(7,.ptr 3 0),(9,.bool x1.1),(10,.fz RLiE x1.2.1),(14,i6 x1.2.2.1)],[.cells [.fz Riii x1.2.2.2.1],.cells [i6 x1.2.2.2.2.1,i6 x1.2.2.2.2.2.1],.cells [i6 x1.2.2.2.2.2.2.1,i6 x1.2.2.2.2.2.2.2.1],.cells [i6 x1.2.2.2.2.2.2.2.2.1,i6 x1.2.2.2.2.2.2.2.2.2]]⟩:Bool×List DLiE×Int×List Diii×Int×Int×Int×Int×Int×Int→St)) (fun _=>rfl) ?_ d _ h
   intro n1 x1 h K1 hn1
   replace h:q3bk d  (iter (q3bk d ) n1) x1=some r:=h
   generalize iter (q3bk d ) n1=self1 at h hn1
   unfold q3bk at h
   refine q8m ?_
   refine q3pf hm hT hC (q3am (q39h d) x1) h fun y9 h=>?_
   refine q8q (v:=y9.2.2.2.1) (by kernel_rfl) h ?_ ?_
   ·
    intro h
    refine q8i (q88 (q8m (q8n ?_)))
    refine q3pf hm hT hC (q3aq (q39h d) y9) h fun y11 h=>?_
    refine q8n ?_
    refine q8s (G:=iter (q3b9 d self1)) (S:=(fun x2=>⟨[(4,.ptr 0 0),(5,.ptr 1 0),(6,.ptr 2 0),(7,.ptr 3 0),(9,.bool x2.1),(10,.fz RLiE x2.2.1),(14,i6 x2.2.2.1),(15,i6 x2.2.2.2.1)],[.cells [.fz Riii x2.2.2.2.2.1],.cells [i6 x2.2.2.2.2.2.1,i6 x2.2.2.2.2.2.2.1],.cells [i6 x2.2.2.2.2.2.2.2.1,i6 x2.2.2.2.2.2.2.2.2.1],.cells [i6 x2.2.2.2.2.2.2.2.2.2.1,i6 x2.2.2.2.2.2.2.2.2.2.2]]⟩:Bool×List DLiE×Int×Int×List Diii×Int×Int×Int×Int×Int×Int→St)) (fun _=>rfl) ?_ d _ h
    intro n2 x2 h K2 hn2
    replace h:q3b9 d self1 (iter (q3b9 d self1) n2) x2=some r:=h
    generalize iter (q3b9 d self1) n2=self2 at h hn2
    unfold q3b9 at h
    refine q8m ?_
    refine q3pf hm hT hC (q3au (q39h d) x2) h fun y12 h=>?_
    refine q8q (v:=y12.2.2.2.2.1) (by kernel_rfl) h ?_ ?_
    ·
     intro h
     refine q8i (q88 (q8m (q8n ?_)))
     refine q3pf hm hT hC (q3ay (q39h d) y12) h fun y14 h=>?_
     refine q3pf hm hT hC (q3b2 (q39h d) y14) h fun y15 h=>?_
     refine q8q (v:=y15.2.2.2.2.1) (by kernel_rfl) h ?_ ?_
     ·
      intro h
      refine q3pf hm hT hC (q3b4 (q39h d) y15) h fun y16 h=>?_
      refine q8l (q8c (q8a (q8a (q8c (q8c (q8a (q8a (q8c (q8a ?_)))))))))
      cases h
      exact (hend _ (by kernel_rfl)).2
     ·
      intro h
      refine q8i (q8b (q88 ?_))
      refine q8r hm hT hC (q3b6 (q39h d) y15) h ?_
      intro y13 h
      exact hn2 _ h
    ·
     intro h
     refine q8k (q89 (q89 (q8d (q8b (q88 ?_)))))
     refine q8r hm hT hC (q3b8 (q39h d) y12) h ?_
     intro y10 h
     exact hn1 _ h
   ·
    intro h
    refine q8k (q89 (q89 (q8d (q88 ?_))))
    refine q3pf hm hT hC (q3bd (q39h d) y9) h fun y17 h=>?_
    refine q3pf hm hT hC (q3bh (q39h d) y17) h fun y18 h=>?_
    refine q3pf hm hT hC (q3bj (q39h d) y18) h fun y19 h=>?_
    refine q8l ?_
    cases h
    exact (hend _ (by kernel_rfl)).2
end Go.Proofs.YtbjpmdhdoggobaaGreat

namespace Go.Proofs.YtbjpmdhdoggobaaGreat
open Go Go.Tx Go.Pel
theorem q3eb (d:Nat) (a b:Int):qyk d ((a,()),(b,()),())=some (cmpZ a b):=by
  simp only [qyk,qx8,qxc,qxg,qxk,qxo,qxs,qxw,qxy,qy2,qy4,qy8,qya,qye,qyg,qyi,qx0,qwq,qwu,qwy,Dt.eval,bne_self_eq_false,cond_false]
  unfold cmpZ
  by_cases h1:a<b
  · simp only [h1,decide_true,cond_true,if_true]
  · by_cases h2 : b < a
    · simp only [h1,h2,gt_iff_lt,decide_true,decide_false,cond_true,cond_false,if_true,if_false]
    · simp only [h1,h2,gt_iff_lt,decide_false,cond_false,if_false]
theorem q3ec (d:Nat) (a b:Int):q11y d ((a,()),(b,()),())=some (cmpZ a b):=by
  simp only [q11y,q10m,q10q,q10u,q10y,q112,q116,q11a,q11c,q11g,q11i,q11m,q11o,q11s,q11u,q11w,q10e,q104,q108,q10c,Dt.eval,bne_self_eq_false,cond_false]
  unfold cmpZ
  by_cases h1:a<b
  · simp only [h1,decide_true,cond_true,if_true]
  · by_cases h2 : b < a
    · simp only [h1,h2,gt_iff_lt,decide_true,decide_false,cond_true,cond_false,if_true,if_false]
    · simp only [h1,h2,gt_iff_lt,decide_false,cond_false,if_false]
theorem q3ed (d:Nat) (a:Int) (h:i64B a=true):qz8 d ((a,()),())=some (a.natAbs:Int):=by
  have h:=qjh h
  simp only [qz8,qys,qyw,qz0,qz4,qz6,Dt.eval]
  by_cases h1:a<0
  · simp only [h1, decide_true, cond_true, IntKind.wrap_u64]
    exact congrArg some (by omega:((0:Int) - a % 18446744073709551616) % 18446744073709551616=(a.natAbs:Int))
  · simp only [h1, decide_false, cond_false, IntKind.wrap_u64]
    exact congrArg some (by omega:(a % 18446744073709551616:Int)=(a.natAbs:Int))
theorem q3ef (d:Nat) (a b:Int) (ha:i64B a=true) (hb:i64B b=true):qzw d ((a,()),(b,()),())=some (!((decide (a<0)) == (decide (b<0))),(((a*b).natAbs / 18446744073709551616:Nat):Int),(((a*b).natAbs % 18446744073709551616:Nat):Int)):=by
  have e1:=q3ed d a ha
  have e2:=q3ed d b hb
  have ha':=qjh ha
  have hb':=qjh hb
  have e3:qmv d (((a.natAbs:Int),()),((b.natAbs:Int),()),())=some (((a.natAbs:Int)*(b.natAbs:Int)) / 18446744073709551616,((a.natAbs:Int)*(b.natAbs:Int)) % 18446744073709551616):=by
    rw [qmw _ _ (by unfold qmu u64B;simp only [Bool.and_eq_true,decide_eq_true_eq];omega)]
  simp only [qzw,qzg,qzm,qzq,qzu,Dt.eval,e1,e2,e3]
  rw [Int.natAbs_mul]
  simp
theorem ltZ (a b:Int):cmpZ a b=-1∧a<b∨cmpZ a b=0∧a=b∨cmpZ a b=1∧b<a:=by
  unfold cmpZ
  repeat' split
  all_goals omega
theorem q3eg (d:Nat) (n1 n2:Bool) (P Q:Nat):q12s d ((n1,((P / 18446744073709551616:Nat):Int),((P % 18446744073709551616:Nat):Int),()),(n2,((Q / 18446744073709551616:Nat):Int),((Q % 18446744073709551616:Nat):Int),()),())=some (cmpZ (P:Int) (Q:Int)):=by
  simp only [q12s,q126,q12c,q12g,q12k,q12o,q12q,Dt.eval,q3ec]
  rcases ltZ ((P / 18446744073709551616:Nat):Int) ((Q / 18446744073709551616:Nat):Int) with ⟨h1,h2⟩ | ⟨h1,h2⟩ | ⟨h1,h2⟩
  · simp only [h1, show ((-1 : Int) != 0) = true from rfl, cond_true]
    rw [qkw (by omega)]
  · simp only [h1, show ((0 : Int) != 0) = false from rfl, cond_false]
    rcases ltZ (P:Int) (Q:Int) with ⟨k1,k2⟩ | ⟨k1,k2⟩ | ⟨k1,k2⟩
    · rw [k1,qkw (by omega)]
    · rw [k1,qky (by omega)]
    · rw [k1,qkx (by omega)]
  · simp only [h1, show ((1 : Int) != 0) = true from rfl, cond_true]
    rw [qkx (by omega)]
theorem q3eh (d:Nat) (n1 d1 n2 d2:Int) (h1:i64B n1=true) (h2:i64B d1=true) (h3:i64B n2=true) (h4:i64B d2=true):qwi d ((n1,d1,()),(n2,d2,()),())=some (tmax (qdm n1 d1) (qdm n2 d2)):=by
  have e1:qnd d ((n1,d1,()),())=some (qdm n1 d1):=qne _ _ (by unfold qnc;simp only [h1,h2,Bool.and_self])
  have e2:qnd d ((n2,d2,()),())=some (qdm n2 d2):=qne _ _ (by unfold qnc;simp only [h3,h4,Bool.and_self])
  simp only [qwi,qw6,qwc,qwg,Dt.eval,e1,e2]
def cmpR (n1 d1 n2 d2:Int):Int×Int:=if qdm n1 d1=0∧qdm n2 d2=0 then (cmpQ n1 d1 n2 d2,0) else (0,8)
theorem q3ei (d:Nat) (n1 d1 n2 d2:Int) (h1:i64B n1=true) (h2:i64B d1=true) (h3:i64B n2=true) (h4:i64B d2=true):q145 d ((n1,d1,()),(n2,d2,()),())=some (cmpR n1 d1 n2 d2):=by
  unfold cmpR
  have e0:=q3eh d n1 d1 n2 d2 h1 h2 h3 h4
  by_cases hc:qdm n1 d1=0∧qdm n2 d2=0
  · rw [if_pos hc]
    rw [hc.1,hc.2] at e0
    obtain ⟨g1,_,_⟩:=qdt hc.1
    obtain ⟨g2,_,_⟩:=qdt hc.2
    have e1:=q3ef d n1 d2 h1 h4
    have e2:=q3ef d n2 d1 h3 h2
    have e3:=q3eb d n1 n2
    simp only [q145,q130,q136,q13a,q13e,q13i,q13m,q13o,q13s,q13w,q140,q142,q144,Dt.eval,e0,e1,e2,e3,q3eg,show tmax 0 0=0 from rfl,show ((0:Int) != 0)=false from rfl,cond_false]
    unfold cmpQ
    have p1:0<d1:=by omega
    have p2:0<d2:=by omega
    have s1:(n1<0→n1*d2<0)∧(0≤n1→0≤n1*d2):=⟨fun h=>Int.mul_neg_of_neg_of_pos h p2,fun h=>Int.mul_nonneg h (by omega)⟩
    have s2:(n2<0→n2*d1<0)∧(0≤n2→0≤n2*d1):=⟨fun h=>Int.mul_neg_of_neg_of_pos h p1,fun h=>Int.mul_nonneg h (by omega)⟩
    generalize n1*d2=P at *
    generalize n2*d1=Q at *
    by_cases k1:n1<0<;>by_cases k2:n2<0<;>simp only [k1,k2,decide_true,decide_false,beq_self_eq_true,Bool.not_true,Bool.not_false,cond_true,cond_false,Bool.false_beq,Bool.true_beq]
    · have := s1.1 k1
      have:=s2.1 k2
      rcases ltZ (P.natAbs:Int) (Q.natAbs:Int) with ⟨g1,g2⟩ | ⟨g1,g2⟩ | ⟨g1,g2⟩
      · rw [g1,qkx (a:=P) (b:=Q) (by omega)];rfl
      · rw [g1,qky (a:=P) (b:=Q) (by omega)];rfl
      · rw [g1,qkw (a:=P) (b:=Q) (by omega)];rfl
    · have := s1.1 k1
      have:=s2.2 (by omega)
      rw [qkw (by omega),qkw (by omega)]
    · have := s1.2 (by omega)
      have:=s2.1 k2
      rw [qkx (by omega),qkx (by omega)]
    · have := s1.2 (by omega)
      have:=s2.2 (by omega)
      rw [show (P.natAbs:Int)=P by omega,show (Q.natAbs:Int)=Q by omega]
  · rw [if_neg hc]
    have e1:tmax (qdm n1 d1) (qdm n2 d2)=8:=by
      unfold tmax
      rcases qds n1 d1 with q1 | q1<;>rcases qds n2 d2 with q2 | q2
      · exact absurd ⟨q1,q2⟩ hc
      all_goals rw [q1,q2];rfl
    rw [e1] at e0
    simp only [q145,q130,q136,q13a,q13e,q13i,Dt.eval,e0,show ((8:Int) != 0)=true from rfl,cond_true]
theorem q3ej (d:Nat) (P:Int):q2fa d ((decide (P<0),((P.natAbs / 18446744073709551616:Nat):Int),((P.natAbs % 18446744073709551616:Nat):Int),()),())=some (cmpZ P 0):=by
  simp only [q2fa,q2em,q2es,q2ew,q2f0,q2f4,q2f6,q2f8,Dt.eval]
  by_cases h0:P=0
  · subst h0;rfl
  · have hne : ¬ (((P.natAbs / 18446744073709551616 : Nat) : Int) = 0 ∧ ((P.natAbs % 18446744073709551616 : Nat) : Int) = 0) := by omega
    have hh:(bif (((P.natAbs / 18446744073709551616:Nat):Int) == 0) then (((P.natAbs % 18446744073709551616:Nat):Int) == 0) else false)=false:=by
      cases h1:(((P.natAbs / 18446744073709551616:Nat):Int) == 0) with
      | false=>rfl
      | true=>rw [cond_true,beq_eq_false_iff_ne];rw [beq_iff_eq] at h1;intro h2;exact hne ⟨h1,h2⟩
    cases h1:(((P.natAbs / 18446744073709551616:Nat):Int) == 0) with
    | false =>
      simp only [cond_false]
      rcases ltZ P 0 with ⟨k1,k2⟩ | ⟨k1,k2⟩ | ⟨k1,k2⟩
      · simp only [k1,k2,decide_true,cond_true]
      · exact absurd k2 h0
      · simp only [k1,show ¬ P<0 by omega,decide_false,cond_false]
    | true =>
      rw [h1,cond_true] at hh
      simp only [cond_true,hh,cond_false]
      rcases ltZ P 0 with ⟨k1,k2⟩ | ⟨k1,k2⟩ | ⟨k1,k2⟩
      · simp only [k1,k2,decide_true,cond_true]
      · exact absurd k2 h0
      · simp only [k1,show ¬ P<0 by omega,decide_false,cond_false]
theorem q3ek (d:Nat) (n1 n2:Bool) (P Q:Nat):q1ln d ((n1,((P / 18446744073709551616:Nat):Int),((P % 18446744073709551616:Nat):Int),()),(n2,((Q / 18446744073709551616:Nat):Int),((Q % 18446744073709551616:Nat):Int),()),())=some (cmpZ (P:Int) (Q:Int)):=by
  simp only [q1ln,q1kn,q1kt,q1kx,q1l1,q1l5,q1l7,q1lb,q1lf,q1lh,q1lj,q1ll,Dt.eval]
  obtain ⟨a,ha⟩:∃ a:Int,((P / 18446744073709551616:Nat):Int)=a:=⟨_,rfl⟩
  obtain ⟨b,hb⟩:∃ a:Int,((P % 18446744073709551616:Nat):Int)=a:=⟨_,rfl⟩
  obtain ⟨c,hc⟩:∃ a:Int,((Q / 18446744073709551616:Nat):Int)=a:=⟨_,rfl⟩
  obtain ⟨e,he⟩:∃ a:Int,((Q % 18446744073709551616:Nat):Int)=a:=⟨_,rfl⟩
  rw [ha,hb,hc,he]
  rcases ltZ a c with ⟨_,k2⟩ | ⟨_,k2⟩ | ⟨_,k2⟩
  · have e1 : (a != c) = true := by simp; omega
    simp only [e1,k2,decide_true,cond_true]
    rw [qkw (by omega)]
  · have e1 : (a != c) = false := by simp; omega
    simp only [e1,cond_false]
    rcases ltZ b e with ⟨_,g2⟩ | ⟨_,g2⟩ | ⟨_,g2⟩
    · have e2 : (b != e) = true := by simp; omega
      simp only [e2,g2,decide_true,cond_true]
      rw [qkw (by omega)]
    · have e2 : (b != e) = false := by simp; omega
      simp only [e2,cond_false]
      rw [qky (by omega)]
    · have e2 : (b != e) = true := by simp; omega
      simp only [e2,show ¬ b<e by omega,decide_false,cond_true,cond_false]
      rw [qkx (by omega)]
  · have e1 : (a != c) = true := by simp; omega
    simp only [e1,show ¬ a<c by omega,decide_false,cond_true,cond_false]
    rw [qkx (by omega)]
theorem q3el (d:Nat) (n1 d1 n2 d2:Int) (h1:i64B n1=true) (h2:i64B d1=true) (h3:i64B n2=true) (h4:i64B d2=true):q2gg d ((n1,d1,()),(n2,d2,()),())=some (cmpQ n1 d1 n2 d2):=by
  have e1:qn4 d ((n1,()),(d2,()),())=some (decide (n1*d2<0),(((n1*d2).natAbs / 18446744073709551616:Nat):Int),(((n1*d2).natAbs % 18446744073709551616:Nat):Int)):=qn5 _ _ (by unfold qn3;simp only [h1,h4,Bool.and_self])
  have e2:qn4 d ((n2,()),(d1,()),())=some (decide (n2*d1<0),(((n2*d1).natAbs / 18446744073709551616:Nat):Int),(((n2*d1).natAbs % 18446744073709551616:Nat):Int)):=qn5 _ _ (by unfold qn3;simp only [h3,h2,Bool.and_self])
  unfold cmpQ
  generalize n1*d2=P at *
  generalize n2*d1=Q at *
  have hs:=@qmi P Q
  have hn:=@qmj P Q
  have hp:=@qmk P Q
  simp only [q2gg,q2fi,q2fo,q2fs,q2fw,q2g0,q2g4,q2g6,q2ga,q2gc,q2ge,Dt.eval,e1,e2,q3ej,q3ek]
  by_cases hg:cmpZ P 0=cmpZ Q 0
  · have g1 : (cmpZ P 0 != cmpZ Q 0) = false := by simp [hg]
    simp only [g1,cond_false]
    by_cases h0:cmpZ P 0<0
    · simp only [h0,decide_true,cond_true];rw [hn hg h0]
    · simp only [h0,decide_false,cond_false];rw [hp hg h0]
  · have g1 : (cmpZ P 0 != cmpZ Q 0) = true := by simp [hg]
    simp only [g1,cond_true]
    have:=hs hg
    by_cases h0:cmpZ P 0<cmpZ Q 0
    · rw [if_pos h0] at this;simp only [h0,decide_true,cond_true];rw [this]
    · rw [if_neg h0] at this;simp only [h0,decide_false,cond_false];rw [this]
end Go.Proofs.YtbjpmdhdoggobaaGreat

namespace Go.Tx
open Go
end Go.Tx

namespace Go.Pel
open Go Go.Tx
abbrev T3:Type:=Int×Int×Int×Unit
abbrev M4:Type:=Int×Int×Int×Int×Unit
theorem q3ep {a b c d1 d2 d3:Int} (h1:1≤d1) (h2:1≤d2) (h3:1≤d3) (h:a*d2≤b*d1) (k:b*d3<c*d2):a*d3<c*d1:=by
  have e1:a*d3*d2<c*d1*d2:=by
    have:=Int.mul_le_mul_of_nonneg_right h (show (0:Int)≤d3 by omega)
    have:=Int.mul_lt_mul_of_pos_right k (show (0:Int)<d1 by omega)
    rw [Int.mul_right_comm a d3 d2,Int.mul_right_comm c d1 d2]
    have e:b*d1*d3=b*d3*d1:=Int.mul_right_comm b d1 d3
    omega
  exact Int.lt_of_mul_lt_mul_right e1 (by omega)
def okM (x:M4):Prop:=qdm x.1 x.2.1=0
theorem q3ey {n d:Int} (hd:d≠0) (hn:n.natAbs≤4194304) (hd2:d.natAbs≤4194304):(mk n d).2.2=0∧qdm (mk n d).1 (mk n d).2.1=0∧(mk n d).1.natAbs≤4194304∧(mk n d).2.1≤4194304:=by
  have hg:=qei (n:=n) hd
  rw [qeh hd]
  have b1:n.natAbs / Nat.gcd n.natAbs d.natAbs≤n.natAbs:=Nat.div_le_self _ _
  have b2:d.natAbs / Nat.gcd n.natAbs d.natAbs≤d.natAbs:=Nat.div_le_self _ _
  have b3:1≤d.natAbs / Nat.gcd n.natAbs d.natAbs:=Nat.div_pos (Nat.gcd_le_right _ (by omega)) hg
  have hc:Nat.gcd (d.natAbs / Nat.gcd n.natAbs d.natAbs) (n.natAbs / Nat.gcd n.natAbs d.natAbs)=1:=by
    rw [Nat.gcd_comm];exact Nat.coprime_div_gcd_div_gcd hg
  generalize n.natAbs / Nat.gcd n.natAbs d.natAbs=A at *
  generalize d.natAbs / Nat.gcd n.natAbs d.natAbs=B at *
  have hno:¬ (0<0∨9223372036854775807<A∨0<0∨9223372036854775807<B):=by omega
  cases (decide (n<0) != decide (d<0)) with
  | true =>
    rw [qed hno]
    refine ⟨rfl,qdp (by simp only;omega) (by simp only;omega) ?_,by simp only;omega,by simp only;omega⟩
    simp only [Int.toNat_natCast,Int.natAbs_neg,Int.natAbs_natCast];exact hc
  | false =>
    rw [qee hno]
    refine ⟨rfl,qdp (by simp only;omega) (by simp only;omega) ?_,by simp only;omega,by simp only;omega⟩
    simp only [Int.toNat_natCast,Int.natAbs_natCast];exact hc
def mtP (x:T3×T3):Option M4:=if x.1.2.2.1=x.2.2.2.1 then none else some ((mk (x.1.2.1 - x.2.2.1) (x.2.2.2.1 - x.1.2.2.1)).1,(mk (x.1.2.1 - x.2.2.1) (x.2.2.2.1 - x.1.2.2.1)).2.1,x.1.1,x.2.1,())
def okP (p:T3):Prop:=(ofP p).chk=0
structure FldOk (l:List T3):Prop where
  len:l.length≤64
  ok:∀ p∈l,okP p
  inc:l.Pairwise fun p q=>p.1<q.1
end Go.Pel

namespace Go.Tx
end Go.Tx
namespace Go.Proofs.YtbjpmdhdoggobaaGreat
open Go Go.Tx Go.Pel
theorem q3fe {a:Int} (h:a.natAbs≤9223372036854775807):i64B a=true:=by
  unfold i64B;simp only [Bool.and_eq_true,decide_eq_true_eq];omega
structure okW (x:M4):Prop where
  ok:okM x
  n:x.1.natAbs≤4194304
  d:x.2.1≤4194304
theorem okW.b1 {x:M4} (h:okW x):i64B x.1=true:=q3fe (by have:=h.n;omega)
theorem okW.b2 {x:M4} (h:okW x):i64B x.2.1=true:=q3fe (by have:=h.d;have:=(qdt h.ok).1;omega)
theorem q3ff {p:T3} (h:okP p):0≤p.1∧p.1≤65535∧-1048576≤p.2.1∧p.2.1≤1048576∧-1048576≤p.2.2.1∧p.2.2.1≤1048576:=qe4 (show qe0 p.1 p.2.1 p.2.2.1=0 from h)
end Go.Proofs.YtbjpmdhdoggobaaGreat
