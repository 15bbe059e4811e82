/- Walks of the references; the orders agree; examples. -/
import Derived.Test.YtpgpbhjkgciggaaGd
set_option linter.unusedSimpArgs false
set_option linter.unusedVariables false
namespace Go.Proofs.Ytpgpbhjkgciggaa
open Go Go.Tx Go.Proofs.Try
set_option maxRecDepth 100000
set_option maxHeartbeats 0
abbrev q168:List Pk:=[.row Rii true,.row Rii true]
abbrev q169:Type:=Dii×Dii×Unit
abbrev q16a:Type:=Int
def q16b (r:q16a):LV×List Ob:=(.int .i64 r,[])
def q16c (F:q169→Option q16a):Go.Tx.Spec:=⟨24,q168,q16a,F,q16b⟩
abbrev q16d:Type:=(q12h→Option q12i)×Unit
def q16e (d:Nat):q16d:=(q13r d,())
def q16f (C:q16d):List Go.Tx.Spec:=[q12k C.1]
abbrev q16g:Type:=Int×Int×Int×Int
def q16h (v:q16g):St:=⟨[(0,.agg [i6 v.1,i6 v.2.1]),(1,.agg [i6 v.2.2.1,i6 v.2.2.2])],[]⟩
abbrev q16i:Type:=Int×Int×Int×Int
def q16j (v:q16i):St:=⟨[(2,.ptr 0 0),(3,.ptr 1 0)],[.cells [i6 v.1,i6 v.2.1],.cells [i6 v.2.2.1,i6 v.2.2.2]]⟩
def q16k (C:q16d) (v:q16g):Dt q16i:=(Dt.ret (v.1,v.2.1,v.2.2.1,v.2.2.2))
abbrev q2k3 {V Y:Type}:=@rg q16d V Y tysT (fun C=>(orc (q16f C))) 14
theorem q16l C v:q2k3 (regO (qdv f24) 0) false (an [2,3]) q16h q16k q16j C v:=rgI (by kernel_rfl)
abbrev q16m:Type:=Int
def q16n (v:q16m):St:=⟨[(5,i6 v)],[]⟩
def q16o (C:q16d) (v:q16i):Dt q16m:=(Dt.bnd (C.1 ((v.1,v.2.1,()),(v.2.2.1,v.2.2.2,()),())) fun r1=>(Dt.ret r1.1))
theorem q16p C v:q2k3 (regO (qdv f24) 1) false [(5,.any)] q16j q16o q16n C v:=rgI (by kernel_rfl)
abbrev q16q:Type:=Int
def q16r (v:q16q):St:=⟨[(4,i6 v)],[]⟩
def q16s (C:q16d) (v:q16m):Dt q16q:=(Dt.ret v)
theorem q16t C v:q2k3 (regO (qdv f24) 2) false [(4,.any)] q16n q16s q16r C v:=rgI (by kernel_rfl)
def q16u (d:Nat) (x:q169):Option q16a :=
 (q16k (q16e d) (x.1.1,x.1.2.1,x.2.1.1,x.2.1.2.1)).eval fun y0 =>
 (q16o (q16e d) y0).eval fun y1 =>
 (q16s (q16e d) y1).eval fun y2 =>
 some y2
theorem q16v (d:Nat):COK prog (q16c (q16u d)):=by
 have hm:prog.follows .mixedOrders=true:=mixed
 have hT:=tys
 have hC0:OrcOK prog (orc (q16f (q16e d))):=qdp (by
  intro S hS
  simp only [q16f,List.mem_cons,List.not_mem_nil,or_false] at hS
  subst hS;exact q13s d)
 have hC:OrcOK prog (orc (q16f (q16e d))):=hC0
 refine q9e (c:=qdv f24) (fn:=f24) hT (by kernel_rfl) (by kernel_rfl) (by decide) fun x r h w0 φ0 Q hend=>?_
 replace h:q16u d x=some r:=h
 unfold q16u at h
 show Run prog w0 φ0 14 (qdv f24) ⟨[(0,.agg [.int .i64 x.1.1,.int .i64 x.1.2.1]),(1,.agg [.int .i64 x.2.1.1,.int .i64 x.2.1.2.1])],[]⟩ Q
 refine q2jr hm hT hC (q16l (q16e d) (x.1.1,x.1.2.1,x.2.1.1,x.2.1.2.1)) h fun y0 h=>?_
 refine q2jr hm hT hC (q16p (q16e d) y0) h fun y1 h=>?_
 refine q2jr hm hT hC (q16t (q16e d) y1) h fun y2 h=>?_
 refine q8w ?_
 cases h
 exact (hend _ (by kernel_rfl)).2
abbrev q16w:List Pk:=[.row qka true,.row Rii true]
abbrev q16x:Type:=qkb×Dii×Unit
abbrev q16y:Type:=List Diii×Int
def q16z (r:q16y):LV×List Ob:=(.tup [.rs 0,.int .i64 r.2],[.rows Riii r.1])
def q170 (F:q16x→Option q16y):Go.Tx.Spec:=⟨14,q16w,q16y,F,q16z⟩
abbrev q171:Type:=(q169→Option q16a)×(qpp→Option qpq)×(q13u→Option q13v)×(quc→Option qud)×(qtu→Option qtv)×Unit
def q172 (d:Nat):q171:=(q16u d,qpu d,q151 d,quh d,qtz d,())
def q173 (C:q171):List Go.Tx.Spec:=[q16c C.1,qps C.2.1,q13x C.2.2.1,quf C.2.2.2.1,qtx C.2.2.2.2.1]
abbrev q174:Type:=List Diii×Int×Int
def q175 (v:q174):St:=⟨[(0,.agg [.fz Riii v.1]),(1,.agg [i6 v.2.1,i6 v.2.2])],[]⟩
abbrev q176:Type:=List Diii×Int×Int
def q177 (v:q176):St:=⟨[(2,.ptr 0 0),(3,.ptr 1 0)],[.cells [.fz Riii v.1],.cells [i6 v.2.1,i6 v.2.2]]⟩
def q178 (C:q171) (v:q174):Dt q176:=(Dt.ret (v.1,v.2.1,v.2.2))
abbrev q2k4 {V Y:Type}:=@rg q171 V Y tysT (fun C=>(orc (q173 C))) 101
theorem q179 C v:q2k4 (regO (qdv f14) 0) false [(2,(.box [.val Riii])),(3,.any)] q175 q178 q177 C v:=rgI (by kernel_rfl)
abbrev q17a:Type:=Int×List Diii×Int×Int×List Di
def q17b (v:q17a):St:=⟨[(2,.ptr 0 0),(3,.ptr 1 0),(6,.rs 2),(7,i6 v.1)],[.cells [.fz Riii v.2.1],.cells [i6 v.2.2.1,i6 v.2.2.2.1],.rows Ri v.2.2.2.2]⟩
def q17c (C:q171) (v:q176):Dt q17a:=(Dt.bnd (C.2.2.2.1 ((v.1,()),(v.2.1,v.2.2,()),())) fun r1=>(Dt.ret (r1.2,v.1,v.2.1,v.2.2,r1.1)))
theorem q17d C v:q2k4 (regO (qdv f14) 1) false [(2,(.box [.val Riii])),(3,.any),(6,(.own Ri)),(7,.any)] q177 q17c q17b C v:=rgI (by kernel_rfl)
abbrev q17e:Type:=Int×Bool×List Diii×Int×Int×List Di
def q17f (v:q17e):St:=⟨[(2,.ptr 0 0),(3,.ptr 1 0),(6,.rs 2),(7,i6 v.1),(28,.bool v.2.1)],[.cells [.fz Riii v.2.2.1],.cells [i6 v.2.2.2.1,i6 v.2.2.2.2.1],.rows Ri v.2.2.2.2.2]⟩
def q17g (C:q171) (v:q17a):Dt q17e:=(Dt.ret (v.1,(v.1 != (0:Int)),v.2.1,v.2.2.1,v.2.2.2.1,v.2.2.2.2))
theorem q17h C v:q2k4 (regO (qdv f14) 2) false [(2,(.box [.val Riii])),(3,.any),(6,(.own Ri)),(7,.any),(28,.any)] q17b q17g q17f C v:=rgI (by kernel_rfl)
abbrev q17i:Type:=Int×List Diii
def q17j (v:q17i):St:=⟨[(4,.rs 0),(5,i6 v.1)],[.rows Riii v.2]⟩
def q17k (C:q171) (v:q17e):Dt q17i:=(Dt.ret (v.1,([]:List Diii)))
theorem q17l C v:q2k4 (regO (qdv f14) 3) false [(4,(.own Riii)),(5,.any)] q17f q17k q17j C v:=rgI (by kernel_rfl)
abbrev q17m:Type:=Bool×List Diii×Int×Int×List Di
def q17n (v:q17m):St:=⟨[(2,.ptr 0 0),(3,.ptr 1 0),(6,.rs 2),(32,.bool v.1)],[.cells [.fz Riii v.2.1],.cells [i6 v.2.2.1,i6 v.2.2.2.1],.rows Ri v.2.2.2.2]⟩
def q17o (C:q171) (v:q17e):Dt q17m:=(Dt.ret (((List.length v.2.2.2.2.2:Int) == (0:Int)),v.2.2.1,v.2.2.2.1,v.2.2.2.2.1,v.2.2.2.2.2))
theorem q17p C v:q2k4 (regO (qdv f14) 4) false [(2,(.box [.val Riii])),(3,.any),(6,(.own Ri)),(32,.any)] q17f q17o q17n C v:=rgI (by kernel_rfl)
def q17q (C:q171) (v:q17m):Dt q17i:=(Dt.ret ((42:Int),([]:List Diii)))
theorem q17r C v:q2k4 (regO (qdv f14) 5) false [(4,(.own Riii)),(5,.any)] q17n q17q q17j C v:=rgI (by kernel_rfl)
abbrev q17s:Type:=List Diii×Int×Int×Int×Int×Int
def q17t (v:q17s):St:=⟨[(2,.ptr 0 0),(3,.ptr 1 0),(8,.ptr 2 0)],[.cells [.fz Riii v.1],.cells [i6 v.2.1,i6 v.2.2.1],.cells [i6 v.2.2.2.1,i6 v.2.2.2.2.1,i6 v.2.2.2.2.2]]⟩
def q17u (C:q171) (v:q17m):Dt q17s:=(Dt.ite (inB (0:Int) (List.length v.2.2.2.2)) (Dt.bnd (C.2.2.2.2.1 ((v.2.1,()),((elt zi v.2.2.2.2 ((0:Int)).toNat).1,()),())) fun r1=>(Dt.ret (v.2.1,v.2.2.1,v.2.2.2.1,r1.1,r1.2.1,r1.2.2.1))) Dt.fail)
theorem q17v C v:q2k4 (regO (qdv f14) 6) true [(2,(.box [.val Riii])),(3,.any),(8,.any)] q17n q17u q17t C v:=rgI (by kernel_rfl)
abbrev q17w:Type:=List Diii×Int×Int×Int×Int×Int×List Diii
def q17x (v:q17w):St:=⟨[(2,.ptr 0 0),(3,.ptr 1 0),(8,.ptr 2 0),(10,.rs 3)],[.cells [.fz Riii v.1],.cells [i6 v.2.1,i6 v.2.2.1],.cells [i6 v.2.2.2.1,i6 v.2.2.2.2.1,i6 v.2.2.2.2.2.1],.rows Riii v.2.2.2.2.2.2]⟩
def q17y (C:q171) (v:q17s):Dt q17w:=(Dt.ret (v.1,v.2.1,v.2.2.1,v.2.2.2.1,v.2.2.2.2.1,v.2.2.2.2.2,([(v.2.1,v.2.2.1,v.2.2.2.1,())]:List Diii)))
theorem q17z C v:q2k4 (regO (qdv f14) 7) false [(2,(.box [.val Riii])),(3,.any),(8,.any),(10,(.own Riii))] q17t q17y q17x C v:=rgI (by kernel_rfl)
abbrev q180:Type:=List Diii×Int×Int×Int×Int×Int×List Diii×Int×Int×Int
def q181 (v:q180):St:=⟨[(2,.ptr 0 0),(3,.ptr 1 0),(8,.ptr 2 0),(10,.rs 3),(11,.ptr 4 0)],[.cells [.fz Riii v.1],.cells [i6 v.2.1,i6 v.2.2.1],.cells [i6 v.2.2.2.1,i6 v.2.2.2.2.1,i6 v.2.2.2.2.2.1],.rows Riii v.2.2.2.2.2.2.1,.cells [i6 v.2.2.2.2.2.2.2.1,i6 v.2.2.2.2.2.2.2.2.1,i6 v.2.2.2.2.2.2.2.2.2]]⟩
def q182 (C:q171) (v:q17w):Dt q180:=(Dt.ret (v.1,v.2.1,v.2.2.1,v.2.2.2.1,v.2.2.2.2.1,v.2.2.2.2.2.1,v.2.2.2.2.2.2,(0:Int),(0:Int),(0:Int)))
theorem q183 C v:q2k4 (regO (qdv f14) 8) false [(2,(.box [.val Riii])),(3,.any),(8,.any),(10,(.own Riii)),(11,.any)] q17x q182 q181 C v:=rgI (by kernel_rfl)
abbrev q184:Type:=List Diii×Int×Int×Int×Int×Int×List Diii×Int×Int×Int×Int×Int
def q185 (v:q184):St:=⟨[(2,.ptr 0 0),(3,.ptr 1 0),(8,.ptr 2 0),(10,.rs 3),(11,.ptr 4 0),(12,.ptr 5 0)],[.cells [.fz Riii v.1],.cells [i6 v.2.1,i6 v.2.2.1],.cells [i6 v.2.2.2.1,i6 v.2.2.2.2.1,i6 v.2.2.2.2.2.1],.rows Riii v.2.2.2.2.2.2.1,.cells [i6 v.2.2.2.2.2.2.2.1,i6 v.2.2.2.2.2.2.2.2.1,i6 v.2.2.2.2.2.2.2.2.2.1],.cells [i6 v.2.2.2.2.2.2.2.2.2.2.1,i6 v.2.2.2.2.2.2.2.2.2.2.2]]⟩
def q186 (C:q171) (v:q180):Dt q184:=(Dt.ret (v.1,v.2.1,v.2.2.1,v.2.2.2.1,v.2.2.2.2.1,v.2.2.2.2.2.1,v.2.2.2.2.2.2.1,v.2.2.2.2.2.2.2.1,v.2.2.2.2.2.2.2.2.1,v.2.2.2.2.2.2.2.2.2,(0:Int),(0:Int)))
theorem q187 C v:q2k4 (regO (qdv f14) 9) false [(2,(.box [.val Riii])),(3,.any),(8,.any),(10,(.own Riii)),(11,.any),(12,.any)] q181 q186 q185 C v:=rgI (by kernel_rfl)
abbrev q188:Type:=List Diii×Int×Int×List Diii×Int×Int×Int×Int×Int×List Diii×Int×Int×Int×Int×Int
def q189 (v:q188):St:=⟨[(2,.ptr 0 0),(3,.ptr 1 0),(8,.ptr 2 0),(10,.rs 3),(11,.ptr 4 0),(12,.ptr 5 0),(47,.fz Riii v.1),(48,i6 v.2.1),(49,i6 v.2.2.1)],[.cells [.fz Riii v.2.2.2.1],.cells [i6 v.2.2.2.2.1,i6 v.2.2.2.2.2.1],.cells [i6 v.2.2.2.2.2.2.1,i6 v.2.2.2.2.2.2.2.1,i6 v.2.2.2.2.2.2.2.2.1],.rows Riii v.2.2.2.2.2.2.2.2.2.1,.cells [i6 v.2.2.2.2.2.2.2.2.2.2.1,i6 v.2.2.2.2.2.2.2.2.2.2.2.1,i6 v.2.2.2.2.2.2.2.2.2.2.2.2.1],.cells [i6 v.2.2.2.2.2.2.2.2.2.2.2.2.2.1,i6 v.2.2.2.2.2.2.2.2.2.2.2.2.2.2]]⟩
def q18a (C:q171) (v:q184):Dt q188:=(Dt.ret (v.1,(List.length v.1:Int),(0:Int),v.1,v.2.1,v.2.2.1,v.2.2.2.1,v.2.2.2.2.1,v.2.2.2.2.2.1,v.2.2.2.2.2.2.1,v.2.2.2.2.2.2.2.1,v.2.2.2.2.2.2.2.2.1,v.2.2.2.2.2.2.2.2.2.1,v.2.2.2.2.2.2.2.2.2.2.1,v.2.2.2.2.2.2.2.2.2.2.2))
theorem q18b C v:q2k4 (regO (qdv f14) 10) false [(2,(.box [.val Riii])),(3,.any),(8,.any),(10,(.own Riii)),(11,.any),(12,.any),(47,(.val Riii)),(48,.any),(49,.any)] q185 q18a q189 C v:=rgI (by kernel_rfl)
abbrev q18c:Type:=List Diii×Int×Int×Bool×List Diii×Int×Int×Int×Int×Int×List Diii×Int×Int×Int×Int×Int
def q18d (v:q18c):St:=⟨[(2,.ptr 0 0),(3,.ptr 1 0),(8,.ptr 2 0),(10,.rs 3),(11,.ptr 4 0),(12,.ptr 5 0),(47,.fz Riii v.1),(48,i6 v.2.1),(49,i6 v.2.2.1),(50,.bool v.2.2.2.1)],[.cells [.fz Riii v.2.2.2.2.1],.cells [i6 v.2.2.2.2.2.1,i6 v.2.2.2.2.2.2.1],.cells [i6 v.2.2.2.2.2.2.2.1,i6 v.2.2.2.2.2.2.2.2.1,i6 v.2.2.2.2.2.2.2.2.2.1],.rows Riii v.2.2.2.2.2.2.2.2.2.2.1,.cells [i6 v.2.2.2.2.2.2.2.2.2.2.2.1,i6 v.2.2.2.2.2.2.2.2.2.2.2.2.1,i6 v.2.2.2.2.2.2.2.2.2.2.2.2.2.1],.cells [i6 v.2.2.2.2.2.2.2.2.2.2.2.2.2.2.1,i6 v.2.2.2.2.2.2.2.2.2.2.2.2.2.2.2]]⟩
def q18e (C:q171) (v:q188):Dt q18c:=(Dt.ret (v.1,v.2.1,v.2.2.1,(decide (v.2.2.1<v.2.1)),v.2.2.2.1,v.2.2.2.2.1,v.2.2.2.2.2.1,v.2.2.2.2.2.2.1,v.2.2.2.2.2.2.2.1,v.2.2.2.2.2.2.2.2.1,v.2.2.2.2.2.2.2.2.2.1,v.2.2.2.2.2.2.2.2.2.2.1,v.2.2.2.2.2.2.2.2.2.2.2.1,v.2.2.2.2.2.2.2.2.2.2.2.2.1,v.2.2.2.2.2.2.2.2.2.2.2.2.2.1,v.2.2.2.2.2.2.2.2.2.2.2.2.2.2))
theorem q18f C v:q2k4 (regO (qdv f14) 11) false [(2,(.box [.val Riii])),(3,.any),(8,.any),(10,(.own Riii)),(11,.any),(12,.any),(47,(.val Riii)),(48,.any),(49,.any),(50,.any)] q189 q18e q18d C v:=rgI (by kernel_rfl)
abbrev q18g:Type:=List Diii×Int×Int×List Diii×Int×Int×Int×Int×Int×List Diii×Int×Int×Int×Int×Int×Int×Int×Int
def q18h (v:q18g):St:=⟨[(2,.ptr 0 0),(3,.ptr 1 0),(8,.ptr 2 0),(10,.rs 3),(11,.ptr 4 0),(12,.ptr 5 0),(14,.ptr 6 0),(47,.fz Riii v.1),(48,i6 v.2.1),(49,i6 v.2.2.1)],[.cells [.fz Riii v.2.2.2.1],.cells [i6 v.2.2.2.2.1,i6 v.2.2.2.2.2.1],.cells [i6 v.2.2.2.2.2.2.1,i6 v.2.2.2.2.2.2.2.1,i6 v.2.2.2.2.2.2.2.2.1],.rows Riii v.2.2.2.2.2.2.2.2.2.1,.cells [i6 v.2.2.2.2.2.2.2.2.2.2.1,i6 v.2.2.2.2.2.2.2.2.2.2.2.1,i6 v.2.2.2.2.2.2.2.2.2.2.2.2.1],.cells [i6 v.2.2.2.2.2.2.2.2.2.2.2.2.2.1,i6 v.2.2.2.2.2.2.2.2.2.2.2.2.2.2.1],.cells [i6 v.2.2.2.2.2.2.2.2.2.2.2.2.2.2.2.1,i6 v.2.2.2.2.2.2.2.2.2.2.2.2.2.2.2.2.1,i6 v.2.2.2.2.2.2.2.2.2.2.2.2.2.2.2.2.2]]⟩
def q18i (C:q171) (v:q18c):Dt q18g:=(Dt.ite (inB v.2.2.1 (List.length v.1)) (Dt.ret (v.1,v.2.1,v.2.2.1,v.2.2.2.2.1,v.2.2.2.2.2.1,v.2.2.2.2.2.2.1,v.2.2.2.2.2.2.2.1,v.2.2.2.2.2.2.2.2.1,v.2.2.2.2.2.2.2.2.2.1,v.2.2.2.2.2.2.2.2.2.2.1,v.2.2.2.2.2.2.2.2.2.2.2.1,v.2.2.2.2.2.2.2.2.2.2.2.2.1,v.2.2.2.2.2.2.2.2.2.2.2.2.2.1,v.2.2.2.2.2.2.2.2.2.2.2.2.2.2.1,v.2.2.2.2.2.2.2.2.2.2.2.2.2.2.2,(elt ziii v.1 (v.2.2.1).toNat).1,(elt ziii v.1 (v.2.2.1).toNat).2.1,(elt ziii v.1 (v.2.2.1).toNat).2.2.1)) Dt.fail)
theorem q18j C v:q2k4 (regO (qdv f14) 12) false [(2,(.box [.val Riii])),(3,.any),(8,.any),(10,(.own Riii)),(11,.any),(12,.any),(14,.any),(47,(.val Riii)),(48,.any),(49,.any)] q18d q18i q18h C v:=rgI (by kernel_rfl)
abbrev q18k:Type:=Bool×Int×List Diii×Int×Int×List Diii×Int×Int×Int×Int×Int×List Diii×Int×Int×Int×Int×Int×Int×Int×Int×Int×Int
def q18l (v:q18k):St:=⟨[(2,.ptr 0 0),(3,.ptr 1 0),(8,.ptr 2 0),(10,.rs 3),(11,.ptr 4 0),(12,.ptr 5 0),(14,.ptr 6 0),(15,.ptr 7 0),(16,.bool v.1),(17,i6 v.2.1),(47,.fz Riii v.2.2.1),(48,i6 v.2.2.2.1),(49,i6 v.2.2.2.2.1)],[.cells [.fz Riii v.2.2.2.2.2.1],.cells [i6 v.2.2.2.2.2.2.1,i6 v.2.2.2.2.2.2.2.1],.cells [i6 v.2.2.2.2.2.2.2.2.1,i6 v.2.2.2.2.2.2.2.2.2.1,i6 v.2.2.2.2.2.2.2.2.2.2.1],.rows Riii v.2.2.2.2.2.2.2.2.2.2.2.1,.cells [i6 v.2.2.2.2.2.2.2.2.2.2.2.2.1,i6 v.2.2.2.2.2.2.2.2.2.2.2.2.2.1,i6 v.2.2.2.2.2.2.2.2.2.2.2.2.2.2.1],.cells [i6 v.2.2.2.2.2.2.2.2.2.2.2.2.2.2.2.1,i6 v.2.2.2.2.2.2.2.2.2.2.2.2.2.2.2.2.1],.cells [i6 v.2.2.2.2.2.2.2.2.2.2.2.2.2.2.2.2.2.1,i6 v.2.2.2.2.2.2.2.2.2.2.2.2.2.2.2.2.2.2.1,i6 v.2.2.2.2.2.2.2.2.2.2.2.2.2.2.2.2.2.2.2.1],.cells [i6 v.2.2.2.2.2.2.2.2.2.2.2.2.2.2.2.2.2.2.2.2.1,i6 v.2.2.2.2.2.2.2.2.2.2.2.2.2.2.2.2.2.2.2.2.2]]⟩
def q18m (C:q171) (v:q18g):Dt q18k:=(Dt.bnd (C.2.2.1 ((v.2.2.2.2.2.2.1,v.2.2.2.2.2.2.2.1,v.2.2.2.2.2.2.2.2.1,()),(v.2.2.2.2.2.2.2.2.2.2.2.2.2.2.2.1,v.2.2.2.2.2.2.2.2.2.2.2.2.2.2.2.2.1,v.2.2.2.2.2.2.2.2.2.2.2.2.2.2.2.2.2,()),(v.2.2.2.2.1,v.2.2.2.2.2.1,()),())) fun r1=>(Dt.ret (r1.2.2.1,r1.2.2.2,v.1,v.2.1,v.2.2.1,v.2.2.2.1,v.2.2.2.2.1,v.2.2.2.2.2.1,v.2.2.2.2.2.2.1,v.2.2.2.2.2.2.2.1,v.2.2.2.2.2.2.2.2.1,v.2.2.2.2.2.2.2.2.2.1,v.2.2.2.2.2.2.2.2.2.2.1,v.2.2.2.2.2.2.2.2.2.2.2.1,v.2.2.2.2.2.2.2.2.2.2.2.2.1,v.2.2.2.2.2.2.2.2.2.2.2.2.2.1,v.2.2.2.2.2.2.2.2.2.2.2.2.2.2.1,v.2.2.2.2.2.2.2.2.2.2.2.2.2.2.2.1,v.2.2.2.2.2.2.2.2.2.2.2.2.2.2.2.2.1,v.2.2.2.2.2.2.2.2.2.2.2.2.2.2.2.2.2,r1.1,r1.2.1)))
theorem q18n C v:q2k4 (regO (qdv f14) 13) false [(2,(.box [.val Riii])),(3,.any),(8,.any),(10,(.own Riii)),(11,.any),(12,.any),(14,.any),(15,.any),(16,.any),(17,.any),(47,(.val Riii)),(48,.any),(49,.any)] q18h q18m q18l C v:=rgI (by kernel_rfl)
abbrev q18o:Type:=List Diii×Int×Int×Bool×List Diii×Int×Int×Int×Int×Int×List Diii×Int×Int×Int×Int×Int×Int×Int×Int×Int×Int
def q18p (v:q18o):St:=⟨[(2,.ptr 0 0),(3,.ptr 1 0),(8,.ptr 2 0),(10,.rs 3),(11,.ptr 4 0),(12,.ptr 5 0),(14,.ptr 6 0),(15,.ptr 7 0),(47,.fz Riii v.1),(48,i6 v.2.1),(49,i6 v.2.2.1),(66,.bool v.2.2.2.1)],[.cells [.fz Riii v.2.2.2.2.1],.cells [i6 v.2.2.2.2.2.1,i6 v.2.2.2.2.2.2.1],.cells [i6 v.2.2.2.2.2.2.2.1,i6 v.2.2.2.2.2.2.2.2.1,i6 v.2.2.2.2.2.2.2.2.2.1],.rows Riii v.2.2.2.2.2.2.2.2.2.2.1,.cells [i6 v.2.2.2.2.2.2.2.2.2.2.2.1,i6 v.2.2.2.2.2.2.2.2.2.2.2.2.1,i6 v.2.2.2.2.2.2.2.2.2.2.2.2.2.1],.cells [i6 v.2.2.2.2.2.2.2.2.2.2.2.2.2.2.1,i6 v.2.2.2.2.2.2.2.2.2.2.2.2.2.2.2.1],.cells [i6 v.2.2.2.2.2.2.2.2.2.2.2.2.2.2.2.2.1,i6 v.2.2.2.2.2.2.2.2.2.2.2.2.2.2.2.2.2.1,i6 v.2.2.2.2.2.2.2.2.2.2.2.2.2.2.2.2.2.2.1],.cells [i6 v.2.2.2.2.2.2.2.2.2.2.2.2.2.2.2.2.2.2.2.1,i6 v.2.2.2.2.2.2.2.2.2.2.2.2.2.2.2.2.2.2.2.2]]⟩
def q18q (C:q171) (v:q18k):Dt q18o:=(Dt.ite (v.2.1 != (0:Int)) (Dt.ret (v.2.2.1,v.2.2.2.1,v.2.2.2.2.1,true,v.2.2.2.2.2.1,v.2.2.2.2.2.2.1,v.2.2.2.2.2.2.2.1,v.2.2.2.2.2.2.2.2.1,v.2.2.2.2.2.2.2.2.2.1,v.2.2.2.2.2.2.2.2.2.2.1,v.2.2.2.2.2.2.2.2.2.2.2.1,v.2.2.2.2.2.2.2.2.2.2.2.2.1,v.2.2.2.2.2.2.2.2.2.2.2.2.2.1,v.2.2.2.2.2.2.2.2.2.2.2.2.2.2.1,v.2.2.2.2.2.2.2.2.2.2.2.2.2.2.2.1,v.2.2.2.2.2.2.2.2.2.2.2.2.2.2.2.2.1,v.2.2.2.2.2.2.2.2.2.2.2.2.2.2.2.2.2.1,v.2.2.2.2.2.2.2.2.2.2.2.2.2.2.2.2.2.2.1,v.2.2.2.2.2.2.2.2.2.2.2.2.2.2.2.2.2.2.2.1,v.2.2.2.2.2.2.2.2.2.2.2.2.2.2.2.2.2.2.2.2.1,v.2.2.2.2.2.2.2.2.2.2.2.2.2.2.2.2.2.2.2.2.2)) (Dt.ret (v.2.2.1,v.2.2.2.1,v.2.2.2.2.1,(!v.1),v.2.2.2.2.2.1,v.2.2.2.2.2.2.1,v.2.2.2.2.2.2.2.1,v.2.2.2.2.2.2.2.2.1,v.2.2.2.2.2.2.2.2.2.1,v.2.2.2.2.2.2.2.2.2.2.1,v.2.2.2.2.2.2.2.2.2.2.2.1,v.2.2.2.2.2.2.2.2.2.2.2.2.1,v.2.2.2.2.2.2.2.2.2.2.2.2.2.1,v.2.2.2.2.2.2.2.2.2.2.2.2.2.2.1,v.2.2.2.2.2.2.2.2.2.2.2.2.2.2.2.1,v.2.2.2.2.2.2.2.2.2.2.2.2.2.2.2.2.1,v.2.2.2.2.2.2.2.2.2.2.2.2.2.2.2.2.2.1,v.2.2.2.2.2.2.2.2.2.2.2.2.2.2.2.2.2.2.1,v.2.2.2.2.2.2.2.2.2.2.2.2.2.2.2.2.2.2.2.1,v.2.2.2.2.2.2.2.2.2.2.2.2.2.2.2.2.2.2.2.2.1,v.2.2.2.2.2.2.2.2.2.2.2.2.2.2.2.2.2.2.2.2.2)))
theorem q18r C v:q2k4 (regO (qdv f14) 14) false [(2,(.box [.val Riii])),(3,.any),(8,.any),(10,(.own Riii)),(11,.any),(12,.any),(14,.any),(15,.any),(47,(.val Riii)),(48,.any),(49,.any),(66,.any)] q18l q18q q18p C v:=rgI (by kernel_rfl)
def q18s (C:q171) (v:q188):Dt q188:=(Dt.ret (v.1,v.2.1,(IntKind.wrap .i64 (v.2.2.1+(1:Int))),v.2.2.2.1,v.2.2.2.2.1,v.2.2.2.2.2.1,v.2.2.2.2.2.2.1,v.2.2.2.2.2.2.2.1,v.2.2.2.2.2.2.2.2.1,v.2.2.2.2.2.2.2.2.2.1,v.2.2.2.2.2.2.2.2.2.2.1,v.2.2.2.2.2.2.2.2.2.2.2.1,v.2.2.2.2.2.2.2.2.2.2.2.2.1,v.2.2.2.2.2.2.2.2.2.2.2.2.2.1,v.2.2.2.2.2.2.2.2.2.2.2.2.2.2))
theorem q18t C v:q2k4 (regO (qdv f14) 24) false [(2,(.box [.val Riii])),(3,.any),(8,.any),(10,(.own Riii)),(11,.any),(12,.any),(47,(.val Riii)),(48,.any),(49,.any)] q189 q18s q189 C v:=rgI (by kernel_rfl)
def q18u  (d:Nat) (self1:(List Diii×Int×Int×Int×Int×Int×List Diii)→Option q16y) (self2:(List Diii×Int×Int×List Diii×Int×Int×Int×Int×Int×List Diii×Int×Int×Int×Int×Int)→Option q16y) (z:List Diii×Int×Int×List Diii×Int×Int×Int×Int×Int×List Diii×Int×Int×Int×Int×Int):Option (q16y) :=
 (q18s (q172 d) z).eval fun y24 =>
 self2 y24
abbrev q18v:Type:=Int×List Diii×Int×Int×List Diii×Int×Int×Int×Int×Int×List Diii×Int×Int×Int×Int×Int×Int×Int×Int×Int×Int
def q18w (v:q18v):St:=⟨[(2,.ptr 0 0),(3,.ptr 1 0),(8,.ptr 2 0),(10,.rs 3),(11,.ptr 4 0),(12,.ptr 5 0),(14,.ptr 6 0),(15,.ptr 7 0),(18,i6 v.1),(47,.fz Riii v.2.1),(48,i6 v.2.2.1),(49,i6 v.2.2.2.1)],[.cells [.fz Riii v.2.2.2.2.1],.cells [i6 v.2.2.2.2.2.1,i6 v.2.2.2.2.2.2.1],.cells [i6 v.2.2.2.2.2.2.2.1,i6 v.2.2.2.2.2.2.2.2.1,i6 v.2.2.2.2.2.2.2.2.2.1],.rows Riii v.2.2.2.2.2.2.2.2.2.2.1,.cells [i6 v.2.2.2.2.2.2.2.2.2.2.2.1,i6 v.2.2.2.2.2.2.2.2.2.2.2.2.1,i6 v.2.2.2.2.2.2.2.2.2.2.2.2.2.1],.cells [i6 v.2.2.2.2.2.2.2.2.2.2.2.2.2.2.1,i6 v.2.2.2.2.2.2.2.2.2.2.2.2.2.2.2.1],.cells [i6 v.2.2.2.2.2.2.2.2.2.2.2.2.2.2.2.2.1,i6 v.2.2.2.2.2.2.2.2.2.2.2.2.2.2.2.2.2.1,i6 v.2.2.2.2.2.2.2.2.2.2.2.2.2.2.2.2.2.2.1],.cells [i6 v.2.2.2.2.2.2.2.2.2.2.2.2.2.2.2.2.2.2.2.1,i6 v.2.2.2.2.2.2.2.2.2.2.2.2.2.2.2.2.2.2.2.2]]⟩
def q18x (C:q171) (v:q18o):Dt q18v:=(Dt.ret ((-1:Int),v.1,v.2.1,v.2.2.1,v.2.2.2.2.1,v.2.2.2.2.2.1,v.2.2.2.2.2.2.1,v.2.2.2.2.2.2.2.1,v.2.2.2.2.2.2.2.2.1,v.2.2.2.2.2.2.2.2.2.1,v.2.2.2.2.2.2.2.2.2.2.1,v.2.2.2.2.2.2.2.2.2.2.2.1,v.2.2.2.2.2.2.2.2.2.2.2.2.1,v.2.2.2.2.2.2.2.2.2.2.2.2.2.1,v.2.2.2.2.2.2.2.2.2.2.2.2.2.2.1,v.2.2.2.2.2.2.2.2.2.2.2.2.2.2.2.1,v.2.2.2.2.2.2.2.2.2.2.2.2.2.2.2.2.1,v.2.2.2.2.2.2.2.2.2.2.2.2.2.2.2.2.2.1,v.2.2.2.2.2.2.2.2.2.2.2.2.2.2.2.2.2.2.1,v.2.2.2.2.2.2.2.2.2.2.2.2.2.2.2.2.2.2.2.1,v.2.2.2.2.2.2.2.2.2.2.2.2.2.2.2.2.2.2.2.2))
theorem q18y C v:q2k4 (regO (qdv f14) 15) false [(2,(.box [.val Riii])),(3,.any),(8,.any),(10,(.own Riii)),(11,.any),(12,.any),(14,.any),(15,.any),(18,.any),(47,(.val Riii)),(48,.any),(49,.any)] q18p q18x q18w C v:=rgI (by kernel_rfl)
abbrev q18z:Type:=Int×List Diii×Int×Int×Bool×List Diii×Int×Int×Int×Int×Int×List Diii×Int×Int×Int×Int×Int×Int×Int×Int×Int×Int
def q190 (v:q18z):St:=⟨[(2,.ptr 0 0),(3,.ptr 1 0),(8,.ptr 2 0),(10,.rs 3),(11,.ptr 4 0),(12,.ptr 5 0),(14,.ptr 6 0),(15,.ptr 7 0),(18,i6 v.1),(47,.fz Riii v.2.1),(48,i6 v.2.2.1),(49,i6 v.2.2.2.1),(69,.bool v.2.2.2.2.1)],[.cells [.fz Riii v.2.2.2.2.2.1],.cells [i6 v.2.2.2.2.2.2.1,i6 v.2.2.2.2.2.2.2.1],.cells [i6 v.2.2.2.2.2.2.2.2.1,i6 v.2.2.2.2.2.2.2.2.2.1,i6 v.2.2.2.2.2.2.2.2.2.2.1],.rows Riii v.2.2.2.2.2.2.2.2.2.2.2.1,.cells [i6 v.2.2.2.2.2.2.2.2.2.2.2.2.1,i6 v.2.2.2.2.2.2.2.2.2.2.2.2.2.1,i6 v.2.2.2.2.2.2.2.2.2.2.2.2.2.2.1],.cells [i6 v.2.2.2.2.2.2.2.2.2.2.2.2.2.2.2.1,i6 v.2.2.2.2.2.2.2.2.2.2.2.2.2.2.2.2.1],.cells [i6 v.2.2.2.2.2.2.2.2.2.2.2.2.2.2.2.2.2.1,i6 v.2.2.2.2.2.2.2.2.2.2.2.2.2.2.2.2.2.2.1,i6 v.2.2.2.2.2.2.2.2.2.2.2.2.2.2.2.2.2.2.2.1],.cells [i6 v.2.2.2.2.2.2.2.2.2.2.2.2.2.2.2.2.2.2.2.2.1,i6 v.2.2.2.2.2.2.2.2.2.2.2.2.2.2.2.2.2.2.2.2.2]]⟩
def q191 (C:q171) (v:q18v):Dt q18z:=(Dt.ret (v.1,v.2.1,v.2.2.1,v.2.2.2.1,(decide (v.2.2.2.2.2.2.2.2.2.2.2.2.2.2.2.1 > (0:Int))),v.2.2.2.2.1,v.2.2.2.2.2.1,v.2.2.2.2.2.2.1,v.2.2.2.2.2.2.2.1,v.2.2.2.2.2.2.2.2.1,v.2.2.2.2.2.2.2.2.2.1,v.2.2.2.2.2.2.2.2.2.2.1,v.2.2.2.2.2.2.2.2.2.2.2.1,v.2.2.2.2.2.2.2.2.2.2.2.2.1,v.2.2.2.2.2.2.2.2.2.2.2.2.2.1,v.2.2.2.2.2.2.2.2.2.2.2.2.2.2.1,v.2.2.2.2.2.2.2.2.2.2.2.2.2.2.2.1,v.2.2.2.2.2.2.2.2.2.2.2.2.2.2.2.2.1,v.2.2.2.2.2.2.2.2.2.2.2.2.2.2.2.2.2.1,v.2.2.2.2.2.2.2.2.2.2.2.2.2.2.2.2.2.2.1,v.2.2.2.2.2.2.2.2.2.2.2.2.2.2.2.2.2.2.2.1,v.2.2.2.2.2.2.2.2.2.2.2.2.2.2.2.2.2.2.2.2))
theorem q192 C v:q2k4 (regO (qdv f14) 16) false [(2,(.box [.val Riii])),(3,.any),(8,.any),(10,(.own Riii)),(11,.any),(12,.any),(14,.any),(15,.any),(18,.any),(47,(.val Riii)),(48,.any),(49,.any),(69,.any)] q18w q191 q190 C v:=rgI (by kernel_rfl)
def q193 (C:q171) (v:q18z):Dt q18v:=(Dt.bnd (C.1 ((v.2.2.2.2.2.2.2.2.2.2.2.2.2.2.2.2.2.2.2.2.1,v.2.2.2.2.2.2.2.2.2.2.2.2.2.2.2.2.2.2.2.2.2,()),(v.2.2.2.2.2.2.2.2.2.2.2.2.2.2.2.1,v.2.2.2.2.2.2.2.2.2.2.2.2.2.2.2.2.1,()),())) fun r1=>(Dt.ret (r1,v.2.1,v.2.2.1,v.2.2.2.1,v.2.2.2.2.2.1,v.2.2.2.2.2.2.1,v.2.2.2.2.2.2.2.1,v.2.2.2.2.2.2.2.2.1,v.2.2.2.2.2.2.2.2.2.1,v.2.2.2.2.2.2.2.2.2.2.1,v.2.2.2.2.2.2.2.2.2.2.2.1,v.2.2.2.2.2.2.2.2.2.2.2.2.1,v.2.2.2.2.2.2.2.2.2.2.2.2.2.1,v.2.2.2.2.2.2.2.2.2.2.2.2.2.2.1,v.2.2.2.2.2.2.2.2.2.2.2.2.2.2.2.1,v.2.2.2.2.2.2.2.2.2.2.2.2.2.2.2.2.1,v.2.2.2.2.2.2.2.2.2.2.2.2.2.2.2.2.2.1,v.2.2.2.2.2.2.2.2.2.2.2.2.2.2.2.2.2.2.1,v.2.2.2.2.2.2.2.2.2.2.2.2.2.2.2.2.2.2.2.1,v.2.2.2.2.2.2.2.2.2.2.2.2.2.2.2.2.2.2.2.2.1,v.2.2.2.2.2.2.2.2.2.2.2.2.2.2.2.2.2.2.2.2.2)))
theorem q194 C v:q2k4 (regO (qdv f14) 17) false [(2,(.box [.val Riii])),(3,.any),(8,.any),(10,(.own Riii)),(11,.any),(12,.any),(14,.any),(15,.any),(18,.any),(47,(.val Riii)),(48,.any),(49,.any)] q190 q193 q18w C v:=rgI (by kernel_rfl)
abbrev q195:Type:=Int×List Diii×Int×Int×Bool×List Diii×Int×Int×Int×Int×Int×List Diii×Int×Int×Int×Int×Int×Int×Int×Int×Int×Int
def q196 (v:q195):St:=⟨[(2,.ptr 0 0),(3,.ptr 1 0),(8,.ptr 2 0),(10,.rs 3),(11,.ptr 4 0),(12,.ptr 5 0),(14,.ptr 6 0),(15,.ptr 7 0),(18,i6 v.1),(47,.fz Riii v.2.1),(48,i6 v.2.2.1),(49,i6 v.2.2.2.1),(74,.bool v.2.2.2.2.1)],[.cells [.fz Riii v.2.2.2.2.2.1],.cells [i6 v.2.2.2.2.2.2.1,i6 v.2.2.2.2.2.2.2.1],.cells [i6 v.2.2.2.2.2.2.2.2.1,i6 v.2.2.2.2.2.2.2.2.2.1,i6 v.2.2.2.2.2.2.2.2.2.2.1],.rows Riii v.2.2.2.2.2.2.2.2.2.2.2.1,.cells [i6 v.2.2.2.2.2.2.2.2.2.2.2.2.1,i6 v.2.2.2.2.2.2.2.2.2.2.2.2.2.1,i6 v.2.2.2.2.2.2.2.2.2.2.2.2.2.2.1],.cells [i6 v.2.2.2.2.2.2.2.2.2.2.2.2.2.2.2.1,i6 v.2.2.2.2.2.2.2.2.2.2.2.2.2.2.2.2.1],.cells [i6 v.2.2.2.2.2.2.2.2.2.2.2.2.2.2.2.2.2.1,i6 v.2.2.2.2.2.2.2.2.2.2.2.2.2.2.2.2.2.2.1,i6 v.2.2.2.2.2.2.2.2.2.2.2.2.2.2.2.2.2.2.2.1],.cells [i6 v.2.2.2.2.2.2.2.2.2.2.2.2.2.2.2.2.2.2.2.2.1,i6 v.2.2.2.2.2.2.2.2.2.2.2.2.2.2.2.2.2.2.2.2.2]]⟩
def q197 (C:q171) (v:q18v):Dt q195:=(Dt.ret (v.1,v.2.1,v.2.2.1,v.2.2.2.1,(v.1 == (0:Int)),v.2.2.2.2.1,v.2.2.2.2.2.1,v.2.2.2.2.2.2.1,v.2.2.2.2.2.2.2.1,v.2.2.2.2.2.2.2.2.1,v.2.2.2.2.2.2.2.2.2.1,v.2.2.2.2.2.2.2.2.2.2.1,v.2.2.2.2.2.2.2.2.2.2.2.1,v.2.2.2.2.2.2.2.2.2.2.2.2.1,v.2.2.2.2.2.2.2.2.2.2.2.2.2.1,v.2.2.2.2.2.2.2.2.2.2.2.2.2.2.1,v.2.2.2.2.2.2.2.2.2.2.2.2.2.2.2.1,v.2.2.2.2.2.2.2.2.2.2.2.2.2.2.2.2.1,v.2.2.2.2.2.2.2.2.2.2.2.2.2.2.2.2.2.1,v.2.2.2.2.2.2.2.2.2.2.2.2.2.2.2.2.2.2.1,v.2.2.2.2.2.2.2.2.2.2.2.2.2.2.2.2.2.2.2.1,v.2.2.2.2.2.2.2.2.2.2.2.2.2.2.2.2.2.2.2.2))
theorem q198 C v:q2k4 (regO (qdv f14) 18) false [(2,(.box [.val Riii])),(3,.any),(8,.any),(10,(.own Riii)),(11,.any),(12,.any),(14,.any),(15,.any),(18,.any),(47,(.val Riii)),(48,.any),(49,.any),(74,.any)] q18w q197 q196 C v:=rgI (by kernel_rfl)
abbrev q199:Type:=Int×Bool×List Diii×Int×Int×List Diii×Int×Int×Int×Int×Int×List Diii×Int×Int×Int×Int×Int×Int×Int×Int×Int×Int
def q19a (v:q199):St:=⟨[(2,.ptr 0 0),(3,.ptr 1 0),(8,.ptr 2 0),(10,.rs 3),(11,.ptr 4 0),(12,.ptr 5 0),(14,.ptr 6 0),(15,.ptr 7 0),(18,i6 v.1),(19,.bool v.2.1),(47,.fz Riii v.2.2.1),(48,i6 v.2.2.2.1),(49,i6 v.2.2.2.2.1)],[.cells [.fz Riii v.2.2.2.2.2.1],.cells [i6 v.2.2.2.2.2.2.1,i6 v.2.2.2.2.2.2.2.1],.cells [i6 v.2.2.2.2.2.2.2.2.1,i6 v.2.2.2.2.2.2.2.2.2.1,i6 v.2.2.2.2.2.2.2.2.2.2.1],.rows Riii v.2.2.2.2.2.2.2.2.2.2.2.1,.cells [i6 v.2.2.2.2.2.2.2.2.2.2.2.2.1,i6 v.2.2.2.2.2.2.2.2.2.2.2.2.2.1,i6 v.2.2.2.2.2.2.2.2.2.2.2.2.2.2.1],.cells [i6 v.2.2.2.2.2.2.2.2.2.2.2.2.2.2.2.1,i6 v.2.2.2.2.2.2.2.2.2.2.2.2.2.2.2.2.1],.cells [i6 v.2.2.2.2.2.2.2.2.2.2.2.2.2.2.2.2.2.1,i6 v.2.2.2.2.2.2.2.2.2.2.2.2.2.2.2.2.2.2.1,i6 v.2.2.2.2.2.2.2.2.2.2.2.2.2.2.2.2.2.2.2.1],.cells [i6 v.2.2.2.2.2.2.2.2.2.2.2.2.2.2.2.2.2.2.2.2.1,i6 v.2.2.2.2.2.2.2.2.2.2.2.2.2.2.2.2.2.2.2.2.2]]⟩
def q19b (C:q171) (v:q195):Dt q199:=(Dt.bnd (C.2.1 ((v.2.2.2.2.2.2.2.2.2.2.2.2.2.2.2.2.2.1,v.2.2.2.2.2.2.2.2.2.2.2.2.2.2.2.2.2.2.1,v.2.2.2.2.2.2.2.2.2.2.2.2.2.2.2.2.2.2.2.1,()),(v.2.2.2.2.2.2.2.2.2.2.2.2.1,v.2.2.2.2.2.2.2.2.2.2.2.2.2.1,v.2.2.2.2.2.2.2.2.2.2.2.2.2.2.1,()),(v.2.2.2.2.2.2.2.2.2.2.2.2.2.2.2.2.2.2.2.2.1,v.2.2.2.2.2.2.2.2.2.2.2.2.2.2.2.2.2.2.2.2.2,()),())) fun r1=>(Dt.ret (v.1,r1.1,v.2.1,v.2.2.1,v.2.2.2.1,v.2.2.2.2.2.1,v.2.2.2.2.2.2.1,v.2.2.2.2.2.2.2.1,v.2.2.2.2.2.2.2.2.1,v.2.2.2.2.2.2.2.2.2.1,v.2.2.2.2.2.2.2.2.2.2.1,v.2.2.2.2.2.2.2.2.2.2.2.1,v.2.2.2.2.2.2.2.2.2.2.2.2.1,v.2.2.2.2.2.2.2.2.2.2.2.2.2.1,v.2.2.2.2.2.2.2.2.2.2.2.2.2.2.1,v.2.2.2.2.2.2.2.2.2.2.2.2.2.2.2.1,v.2.2.2.2.2.2.2.2.2.2.2.2.2.2.2.2.1,v.2.2.2.2.2.2.2.2.2.2.2.2.2.2.2.2.2.1,v.2.2.2.2.2.2.2.2.2.2.2.2.2.2.2.2.2.2.1,v.2.2.2.2.2.2.2.2.2.2.2.2.2.2.2.2.2.2.2.1,v.2.2.2.2.2.2.2.2.2.2.2.2.2.2.2.2.2.2.2.2.1,v.2.2.2.2.2.2.2.2.2.2.2.2.2.2.2.2.2.2.2.2.2)))
theorem q19c C v:q2k4 (regO (qdv f14) 19) false [(2,(.box [.val Riii])),(3,.any),(8,.any),(10,(.own Riii)),(11,.any),(12,.any),(14,.any),(15,.any),(18,.any),(19,.any),(47,(.val Riii)),(48,.any),(49,.any)] q196 q19b q19a C v:=rgI (by kernel_rfl)
abbrev q19d:Type:=Int×List Diii×Int×Int×Bool×List Diii×Int×Int×Int×Int×Int×List Diii×Int×Int×Int×Int×Int×Int×Int×Int×Int×Int
def q19e (v:q19d):St:=⟨[(2,.ptr 0 0),(3,.ptr 1 0),(8,.ptr 2 0),(10,.rs 3),(11,.ptr 4 0),(12,.ptr 5 0),(14,.ptr 6 0),(15,.ptr 7 0),(18,i6 v.1),(47,.fz Riii v.2.1),(48,i6 v.2.2.1),(49,i6 v.2.2.2.1),(82,.bool v.2.2.2.2.1)],[.cells [.fz Riii v.2.2.2.2.2.1],.cells [i6 v.2.2.2.2.2.2.1,i6 v.2.2.2.2.2.2.2.1],.cells [i6 v.2.2.2.2.2.2.2.2.1,i6 v.2.2.2.2.2.2.2.2.2.1,i6 v.2.2.2.2.2.2.2.2.2.2.1],.rows Riii v.2.2.2.2.2.2.2.2.2.2.2.1,.cells [i6 v.2.2.2.2.2.2.2.2.2.2.2.2.1,i6 v.2.2.2.2.2.2.2.2.2.2.2.2.2.1,i6 v.2.2.2.2.2.2.2.2.2.2.2.2.2.2.1],.cells [i6 v.2.2.2.2.2.2.2.2.2.2.2.2.2.2.2.1,i6 v.2.2.2.2.2.2.2.2.2.2.2.2.2.2.2.2.1],.cells [i6 v.2.2.2.2.2.2.2.2.2.2.2.2.2.2.2.2.2.1,i6 v.2.2.2.2.2.2.2.2.2.2.2.2.2.2.2.2.2.2.1,i6 v.2.2.2.2.2.2.2.2.2.2.2.2.2.2.2.2.2.2.2.1],.cells [i6 v.2.2.2.2.2.2.2.2.2.2.2.2.2.2.2.2.2.2.2.2.1,i6 v.2.2.2.2.2.2.2.2.2.2.2.2.2.2.2.2.2.2.2.2.2]]⟩
def q19f (C:q171) (v:q199):Dt q19d:=(Dt.ret (v.1,v.2.2.1,v.2.2.2.1,v.2.2.2.2.1,v.2.1,v.2.2.2.2.2.1,v.2.2.2.2.2.2.1,v.2.2.2.2.2.2.2.1,v.2.2.2.2.2.2.2.2.1,v.2.2.2.2.2.2.2.2.2.1,v.2.2.2.2.2.2.2.2.2.2.1,v.2.2.2.2.2.2.2.2.2.2.2.1,v.2.2.2.2.2.2.2.2.2.2.2.2.1,v.2.2.2.2.2.2.2.2.2.2.2.2.2.1,v.2.2.2.2.2.2.2.2.2.2.2.2.2.2.1,v.2.2.2.2.2.2.2.2.2.2.2.2.2.2.2.1,v.2.2.2.2.2.2.2.2.2.2.2.2.2.2.2.2.1,v.2.2.2.2.2.2.2.2.2.2.2.2.2.2.2.2.2.1,v.2.2.2.2.2.2.2.2.2.2.2.2.2.2.2.2.2.2.1,v.2.2.2.2.2.2.2.2.2.2.2.2.2.2.2.2.2.2.2.1,v.2.2.2.2.2.2.2.2.2.2.2.2.2.2.2.2.2.2.2.2.1,v.2.2.2.2.2.2.2.2.2.2.2.2.2.2.2.2.2.2.2.2.2))
theorem q19g C v:q2k4 (regO (qdv f14) 20) false [(2,(.box [.val Riii])),(3,.any),(8,.any),(10,(.own Riii)),(11,.any),(12,.any),(14,.any),(15,.any),(18,.any),(47,(.val Riii)),(48,.any),(49,.any),(82,.any)] q19a q19f q19e C v:=rgI (by kernel_rfl)
def q19h (C:q171) (v:q19d):Dt q18v:=(Dt.ret ((-1:Int),v.2.1,v.2.2.1,v.2.2.2.1,v.2.2.2.2.2.1,v.2.2.2.2.2.2.1,v.2.2.2.2.2.2.2.1,v.2.2.2.2.2.2.2.2.1,v.2.2.2.2.2.2.2.2.2.1,v.2.2.2.2.2.2.2.2.2.2.1,v.2.2.2.2.2.2.2.2.2.2.2.1,v.2.2.2.2.2.2.2.2.2.2.2.2.1,v.2.2.2.2.2.2.2.2.2.2.2.2.2.1,v.2.2.2.2.2.2.2.2.2.2.2.2.2.2.1,v.2.2.2.2.2.2.2.2.2.2.2.2.2.2.2.1,v.2.2.2.2.2.2.2.2.2.2.2.2.2.2.2.2.1,v.2.2.2.2.2.2.2.2.2.2.2.2.2.2.2.2.2.1,v.2.2.2.2.2.2.2.2.2.2.2.2.2.2.2.2.2.2.1,v.2.2.2.2.2.2.2.2.2.2.2.2.2.2.2.2.2.2.2.1,v.2.2.2.2.2.2.2.2.2.2.2.2.2.2.2.2.2.2.2.2.1,v.2.2.2.2.2.2.2.2.2.2.2.2.2.2.2.2.2.2.2.2.2))
theorem q19i C v:q2k4 (regO (qdv f14) 21) false [(2,(.box [.val Riii])),(3,.any),(8,.any),(10,(.own Riii)),(11,.any),(12,.any),(14,.any),(15,.any),(18,.any),(47,(.val Riii)),(48,.any),(49,.any)] q19e q19h q18w C v:=rgI (by kernel_rfl)
abbrev q19j:Type:=List Diii×Int×Int×Bool×List Diii×Int×Int×Int×Int×Int×List Diii×Int×Int×Int×Int×Int×Int×Int×Int×Int×Int
def q19k (v:q19j):St:=⟨[(2,.ptr 0 0),(3,.ptr 1 0),(8,.ptr 2 0),(10,.rs 3),(11,.ptr 4 0),(12,.ptr 5 0),(14,.ptr 6 0),(15,.ptr 7 0),(47,.fz Riii v.1),(48,i6 v.2.1),(49,i6 v.2.2.1),(84,.bool v.2.2.2.1)],[.cells [.fz Riii v.2.2.2.2.1],.cells [i6 v.2.2.2.2.2.1,i6 v.2.2.2.2.2.2.1],.cells [i6 v.2.2.2.2.2.2.2.1,i6 v.2.2.2.2.2.2.2.2.1,i6 v.2.2.2.2.2.2.2.2.2.1],.rows Riii v.2.2.2.2.2.2.2.2.2.2.1,.cells [i6 v.2.2.2.2.2.2.2.2.2.2.2.1,i6 v.2.2.2.2.2.2.2.2.2.2.2.2.1,i6 v.2.2.2.2.2.2.2.2.2.2.2.2.2.1],.cells [i6 v.2.2.2.2.2.2.2.2.2.2.2.2.2.2.1,i6 v.2.2.2.2.2.2.2.2.2.2.2.2.2.2.2.1],.cells [i6 v.2.2.2.2.2.2.2.2.2.2.2.2.2.2.2.2.1,i6 v.2.2.2.2.2.2.2.2.2.2.2.2.2.2.2.2.2.1,i6 v.2.2.2.2.2.2.2.2.2.2.2.2.2.2.2.2.2.2.1],.cells [i6 v.2.2.2.2.2.2.2.2.2.2.2.2.2.2.2.2.2.2.2.1,i6 v.2.2.2.2.2.2.2.2.2.2.2.2.2.2.2.2.2.2.2.2]]⟩
def q19l (C:q171) (v:q18v):Dt q19j:=(Dt.ret (v.2.1,v.2.2.1,v.2.2.2.1,(decide (v.1<(0:Int))),v.2.2.2.2.1,v.2.2.2.2.2.1,v.2.2.2.2.2.2.1,v.2.2.2.2.2.2.2.1,v.2.2.2.2.2.2.2.2.1,v.2.2.2.2.2.2.2.2.2.1,v.2.2.2.2.2.2.2.2.2.2.1,v.2.2.2.2.2.2.2.2.2.2.2.1,v.2.2.2.2.2.2.2.2.2.2.2.2.1,v.2.2.2.2.2.2.2.2.2.2.2.2.2.1,v.2.2.2.2.2.2.2.2.2.2.2.2.2.2.1,v.2.2.2.2.2.2.2.2.2.2.2.2.2.2.2.1,v.2.2.2.2.2.2.2.2.2.2.2.2.2.2.2.2.1,v.2.2.2.2.2.2.2.2.2.2.2.2.2.2.2.2.2.1,v.2.2.2.2.2.2.2.2.2.2.2.2.2.2.2.2.2.2.1,v.2.2.2.2.2.2.2.2.2.2.2.2.2.2.2.2.2.2.2.1,v.2.2.2.2.2.2.2.2.2.2.2.2.2.2.2.2.2.2.2.2))
theorem q19m C v:q2k4 (regO (qdv f14) 22) false [(2,(.box [.val Riii])),(3,.any),(8,.any),(10,(.own Riii)),(11,.any),(12,.any),(14,.any),(15,.any),(47,(.val Riii)),(48,.any),(49,.any),(84,.any)] q18w q19l q19k C v:=rgI (by kernel_rfl)
def q19n (C:q171) (v:q19j):Dt q188:=(Dt.ret (v.1,v.2.1,v.2.2.1,v.2.2.2.2.1,v.2.2.2.2.2.1,v.2.2.2.2.2.2.1,v.2.2.2.2.2.2.2.1,v.2.2.2.2.2.2.2.2.1,v.2.2.2.2.2.2.2.2.2.1,v.2.2.2.2.2.2.2.2.2.2.1,v.2.2.2.2.2.2.2.2.2.2.2.2.2.2.2.2.1,v.2.2.2.2.2.2.2.2.2.2.2.2.2.2.2.2.2.1,v.2.2.2.2.2.2.2.2.2.2.2.2.2.2.2.2.2.2.1,v.2.2.2.2.2.2.2.2.2.2.2.2.2.2.2.2.2.2.2.1,v.2.2.2.2.2.2.2.2.2.2.2.2.2.2.2.2.2.2.2.2))
theorem q19o C v:q2k4 (regO (qdv f14) 23) true [(2,(.box [.val Riii])),(3,.any),(8,.any),(10,(.own Riii)),(11,.any),(12,.any),(47,(.val Riii)),(48,.any),(49,.any)] q19k q19n q189 C v:=rgI (by kernel_rfl)
def q19p  (d:Nat) (self1:(List Diii×Int×Int×Int×Int×Int×List Diii)→Option q16y) (self2:(List Diii×Int×Int×List Diii×Int×Int×Int×Int×Int×List Diii×Int×Int×Int×Int×Int)→Option q16y) (z:Int×List Diii×Int×Int×List Diii×Int×Int×Int×Int×Int×List Diii×Int×Int×Int×Int×Int×Int×Int×Int×Int×Int):Option (q16y) :=
 (q19l (q172 d) z).eval fun y22 =>
 bif y22.2.2.2.1 then ((q19n (q172 d) y22).eval fun y23 =>
 q18u d self1 self2 y23) else (q18u d self1 self2 (y22.1,y22.2.1,y22.2.2.1,y22.2.2.2.2.1,y22.2.2.2.2.2.1,y22.2.2.2.2.2.2.1,y22.2.2.2.2.2.2.2.1,y22.2.2.2.2.2.2.2.2.1,y22.2.2.2.2.2.2.2.2.2.1,y22.2.2.2.2.2.2.2.2.2.2.1,y22.2.2.2.2.2.2.2.2.2.2.2.1,y22.2.2.2.2.2.2.2.2.2.2.2.2.1,y22.2.2.2.2.2.2.2.2.2.2.2.2.2.1,y22.2.2.2.2.2.2.2.2.2.2.2.2.2.2.1,y22.2.2.2.2.2.2.2.2.2.2.2.2.2.2.2.1))
def q19q  (d:Nat) (self1:(List Diii×Int×Int×Int×Int×Int×List Diii)→Option q16y) (self2:(List Diii×Int×Int×List Diii×Int×Int×Int×Int×Int×List Diii×Int×Int×Int×Int×Int)→Option q16y) (z:Int×List Diii×Int×Int×List Diii×Int×Int×Int×Int×Int×List Diii×Int×Int×Int×Int×Int×Int×Int×Int×Int×Int):Option (q16y) :=
 (q197 (q172 d) z).eval fun y18 =>
 bif y18.2.2.2.2.1 then ((q19b (q172 d) y18).eval fun y19 =>
 (q19f (q172 d) y19).eval fun y20 =>
 bif y20.2.2.2.2.1 then ((q19h (q172 d) y20).eval fun y21 =>
 q19p d self1 self2 y21) else (q19p d self1 self2 (y20.1,y20.2.1,y20.2.2.1,y20.2.2.2.1,y20.2.2.2.2.2.1,y20.2.2.2.2.2.2.1,y20.2.2.2.2.2.2.2.1,y20.2.2.2.2.2.2.2.2.1,y20.2.2.2.2.2.2.2.2.2.1,y20.2.2.2.2.2.2.2.2.2.2.1,y20.2.2.2.2.2.2.2.2.2.2.2.1,y20.2.2.2.2.2.2.2.2.2.2.2.2.1,y20.2.2.2.2.2.2.2.2.2.2.2.2.2.1,y20.2.2.2.2.2.2.2.2.2.2.2.2.2.2.1,y20.2.2.2.2.2.2.2.2.2.2.2.2.2.2.2.1,y20.2.2.2.2.2.2.2.2.2.2.2.2.2.2.2.2.1,y20.2.2.2.2.2.2.2.2.2.2.2.2.2.2.2.2.2.1,y20.2.2.2.2.2.2.2.2.2.2.2.2.2.2.2.2.2.2.1,y20.2.2.2.2.2.2.2.2.2.2.2.2.2.2.2.2.2.2.2.1,y20.2.2.2.2.2.2.2.2.2.2.2.2.2.2.2.2.2.2.2.2.1,y20.2.2.2.2.2.2.2.2.2.2.2.2.2.2.2.2.2.2.2.2.2))) else (q19p d self1 self2 (y18.1,y18.2.1,y18.2.2.1,y18.2.2.2.1,y18.2.2.2.2.2.1,y18.2.2.2.2.2.2.1,y18.2.2.2.2.2.2.2.1,y18.2.2.2.2.2.2.2.2.1,y18.2.2.2.2.2.2.2.2.2.1,y18.2.2.2.2.2.2.2.2.2.2.1,y18.2.2.2.2.2.2.2.2.2.2.2.1,y18.2.2.2.2.2.2.2.2.2.2.2.2.1,y18.2.2.2.2.2.2.2.2.2.2.2.2.2.1,y18.2.2.2.2.2.2.2.2.2.2.2.2.2.2.1,y18.2.2.2.2.2.2.2.2.2.2.2.2.2.2.2.1,y18.2.2.2.2.2.2.2.2.2.2.2.2.2.2.2.2.1,y18.2.2.2.2.2.2.2.2.2.2.2.2.2.2.2.2.2.1,y18.2.2.2.2.2.2.2.2.2.2.2.2.2.2.2.2.2.2.1,y18.2.2.2.2.2.2.2.2.2.2.2.2.2.2.2.2.2.2.2.1,y18.2.2.2.2.2.2.2.2.2.2.2.2.2.2.2.2.2.2.2.2.1,y18.2.2.2.2.2.2.2.2.2.2.2.2.2.2.2.2.2.2.2.2.2))
abbrev q19r:Type:=Bool×List Diii×Int×Int×Int×Int×Int×List Diii×Int×Int×Int×Int×Int
def q19s (v:q19r):St:=⟨[(2,.ptr 0 0),(3,.ptr 1 0),(8,.ptr 2 0),(10,.rs 3),(11,.ptr 4 0),(12,.ptr 5 0),(90,.bool v.1)],[.cells [.fz Riii v.2.1],.cells [i6 v.2.2.1,i6 v.2.2.2.1],.cells [i6 v.2.2.2.2.1,i6 v.2.2.2.2.2.1,i6 v.2.2.2.2.2.2.1],.rows Riii v.2.2.2.2.2.2.2.1,.cells [i6 v.2.2.2.2.2.2.2.2.1,i6 v.2.2.2.2.2.2.2.2.2.1,i6 v.2.2.2.2.2.2.2.2.2.2.1],.cells [i6 v.2.2.2.2.2.2.2.2.2.2.2.1,i6 v.2.2.2.2.2.2.2.2.2.2.2.2]]⟩
def q19t (C:q171) (v:q18c):Dt q19r:=(Dt.ret ((v.2.2.2.2.2.2.2.2.2.2.2.2.2.2.2 == (0:Int)),v.2.2.2.2.1,v.2.2.2.2.2.1,v.2.2.2.2.2.2.1,v.2.2.2.2.2.2.2.1,v.2.2.2.2.2.2.2.2.1,v.2.2.2.2.2.2.2.2.2.1,v.2.2.2.2.2.2.2.2.2.2.1,v.2.2.2.2.2.2.2.2.2.2.2.1,v.2.2.2.2.2.2.2.2.2.2.2.2.1,v.2.2.2.2.2.2.2.2.2.2.2.2.2.1,v.2.2.2.2.2.2.2.2.2.2.2.2.2.2.1,v.2.2.2.2.2.2.2.2.2.2.2.2.2.2.2))
theorem q19u C v:q2k4 (regO (qdv f14) 25) false [(2,(.box [.val Riii])),(3,.any),(8,.any),(10,(.own Riii)),(11,.any),(12,.any),(90,.any)] q18d q19t q19s C v:=rgI (by kernel_rfl)
def q19v (C:q171) (v:q19r):Dt q17i:=(Dt.ret ((0:Int),v.2.2.2.2.2.2.2.1))
theorem q19w C v:q2k4 (regO (qdv f14) 26) false [(4,(.own Riii)),(5,.any)] q19s q19v q17j C v:=rgI (by kernel_rfl)
def q19x (C:q171) (v:q19r):Dt q184:=(Dt.ret (v.2.1,v.2.2.2.2.2.2.2.2.2.2.2.1,v.2.2.2.2.2.2.2.2.2.2.2.2,v.2.2.2.2.2.2.2.2.1,v.2.2.2.2.2.2.2.2.2.1,v.2.2.2.2.2.2.2.2.2.2.1,v.2.2.2.2.2.2.2.1,v.2.2.2.2.2.2.2.2.1,v.2.2.2.2.2.2.2.2.2.1,v.2.2.2.2.2.2.2.2.2.2.1,v.2.2.2.2.2.2.2.2.2.2.2.1,v.2.2.2.2.2.2.2.2.2.2.2.2))
theorem q19y C v:q2k4 (regO (qdv f14) 27) true [(2,(.box [.val Riii])),(3,.any),(8,.any),(10,(.own Riii)),(11,.any),(12,.any)] q19s q19x q185 C v:=rgI (by kernel_rfl)
def q19z (C:q171) (v:q184):Dt q17w:=(Dt.ite (apB (List.length v.2.2.2.2.2.2.1) (List.length ([(v.2.2.2.2.2.2.2.2.2.2.1,v.2.2.2.2.2.2.2.2.2.2.2,v.2.2.2.2.2.2.2.1,())]:List Diii))) (Dt.ret (v.1,v.2.1,v.2.2.1,v.2.2.2.1,v.2.2.2.2.1,v.2.2.2.2.2.1,(v.2.2.2.2.2.2.1++([(v.2.2.2.2.2.2.2.2.2.2.1,v.2.2.2.2.2.2.2.2.2.2.2,v.2.2.2.2.2.2.2.1,())]:List Diii)))) Dt.fail)
theorem q1a0 C v:q2k4 (regO (qdv f14) 28) false [(2,(.box [.val Riii])),(3,.any),(8,.any),(10,(.own Riii))] q185 q19z q17x C v:=rgI (by kernel_rfl)
def q1a1 (d:Nat) (self1:(List Diii×Int×Int×Int×Int×Int×List Diii)→Option q16y) (self2:(List Diii×Int×Int×List Diii×Int×Int×Int×Int×Int×List Diii×Int×Int×Int×Int×Int)→Option q16y) (x2:List Diii×Int×Int×List Diii×Int×Int×Int×Int×Int×List Diii×Int×Int×Int×Int×Int):Option q16y :=
 (q18e (q172 d) x2).eval fun y11 =>
 bif y11.2.2.2.1 then ((q18i (q172 d) y11).eval fun y12 =>
 (q18m (q172 d) y12).eval fun y13 =>
 (q18q (q172 d) y13).eval fun y14 =>
 bif y14.2.2.2.1 then (q18u d self1 self2 (y14.1,y14.2.1,y14.2.2.1,y14.2.2.2.2.1,y14.2.2.2.2.2.1,y14.2.2.2.2.2.2.1,y14.2.2.2.2.2.2.2.1,y14.2.2.2.2.2.2.2.2.1,y14.2.2.2.2.2.2.2.2.2.1,y14.2.2.2.2.2.2.2.2.2.2.1,y14.2.2.2.2.2.2.2.2.2.2.2.1,y14.2.2.2.2.2.2.2.2.2.2.2.2.1,y14.2.2.2.2.2.2.2.2.2.2.2.2.2.1,y14.2.2.2.2.2.2.2.2.2.2.2.2.2.2.1,y14.2.2.2.2.2.2.2.2.2.2.2.2.2.2.2.1)) else ((q18x (q172 d) y14).eval fun y15 =>
 (q191 (q172 d) y15).eval fun y16 =>
 bif y16.2.2.2.2.1 then ((q193 (q172 d) y16).eval fun y17 =>
 q19q d self1 self2 y17) else (q19q d self1 self2 (y16.1,y16.2.1,y16.2.2.1,y16.2.2.2.1,y16.2.2.2.2.2.1,y16.2.2.2.2.2.2.1,y16.2.2.2.2.2.2.2.1,y16.2.2.2.2.2.2.2.2.1,y16.2.2.2.2.2.2.2.2.2.1,y16.2.2.2.2.2.2.2.2.2.2.1,y16.2.2.2.2.2.2.2.2.2.2.2.1,y16.2.2.2.2.2.2.2.2.2.2.2.2.1,y16.2.2.2.2.2.2.2.2.2.2.2.2.2.1,y16.2.2.2.2.2.2.2.2.2.2.2.2.2.2.1,y16.2.2.2.2.2.2.2.2.2.2.2.2.2.2.2.1,y16.2.2.2.2.2.2.2.2.2.2.2.2.2.2.2.2.1,y16.2.2.2.2.2.2.2.2.2.2.2.2.2.2.2.2.2.1,y16.2.2.2.2.2.2.2.2.2.2.2.2.2.2.2.2.2.2.1,y16.2.2.2.2.2.2.2.2.2.2.2.2.2.2.2.2.2.2.2.1,y16.2.2.2.2.2.2.2.2.2.2.2.2.2.2.2.2.2.2.2.2.1,y16.2.2.2.2.2.2.2.2.2.2.2.2.2.2.2.2.2.2.2.2.2)))) else ((q19t (q172 d) y11).eval fun y25 =>
 bif y25.1 then ((q19v (q172 d) y25).eval fun y26 =>
 some (y26.2,y26.1)) else ((q19x (q172 d) y25).eval fun y27 =>
 (q19z (q172 d) y27).eval fun y28 =>
 self1 y28))
def q1a2 (d:Nat) (self1:(List Diii×Int×Int×Int×Int×Int×List Diii)→Option q16y) (x1:List Diii×Int×Int×Int×Int×Int×List Diii):Option q16y :=
 (q182 (q172 d) x1).eval fun y8 =>
 (q186 (q172 d) y8).eval fun y9 =>
 (q18a (q172 d) y9).eval fun y10 =>
 iter (q1a1 d self1) d y10
def q1a3 (d:Nat) (x:q16x):Option q16y :=
 (q178 (q172 d) (x.1.1,x.2.1.1,x.2.1.2.1)).eval fun y0 =>
 (q17c (q172 d) y0).eval fun y1 =>
 (q17g (q172 d) y1).eval fun y2 =>
 bif y2.2.1 then ((q17k (q172 d) y2).eval fun y3 =>
 some (y3.2,y3.1)) else ((q17o (q172 d) y2).eval fun y4 =>
 bif y4.1 then ((q17q (q172 d) y4).eval fun y5 =>
 some (y5.2,y5.1)) else ((q17u (q172 d) y4).eval fun y6 =>
 (q17y (q172 d) y6).eval fun y7 =>
 iter (q1a2 d ) d y7))
theorem q1a4 (d:Nat):COK prog (q170 (q1a3 d)):=by
 have hm:prog.follows .mixedOrders=true:=mixed
 have hT:=tys
 have hC0:OrcOK prog (orc (q173 (q172 d))):=qdp (by
  intro S hS
  simp only [q173,List.mem_cons,List.not_mem_nil,or_false] at hS
  rcases hS with rfl | rfl | rfl | rfl | rfl
  · exact q16v d
  · exact qpw d
  · exact q152 d
  · exact quj d
  · exact qu1 d)
 have hC:OrcOK prog (orc (q173 (q172 d))):=hC0
 refine q9e (c:=qdv f14) (fn:=f14) hT (by kernel_rfl) (by kernel_rfl) (by decide) fun x r h w0 φ0 Q hend=>?_
 replace h:q1a3 d x=some r:=h
 unfold q1a3 at h
 show Run prog w0 φ0 101 (qdv f14) ⟨[(0,.agg [.fz Riii x.1.1]),(1,.agg [.int .i64 x.2.1.1,.int .i64 x.2.1.2.1])],[]⟩ Q
 refine q2jr hm hT hC (q179 (q172 d) (x.1.1,x.2.1.1,x.2.1.2.1)) h fun y0 h=>?_
 refine q2jr hm hT hC (q17d (q172 d) y0) h fun y1 h=>?_
 refine q8x ?_
 refine q2jr hm hT hC (q17h (q172 d) y1) h fun y2 h=>?_
 refine q91 (v:=y2.2.1) (by kernel_rfl) h ?_ ?_
 ·
  intro h
  refine q2jr hm hT hC (q17l (q172 d) y2) h fun y3 h=>?_
  refine q8w (q8l ?_)
  cases h
  exact (hend _ (by kernel_rfl)).2
 ·
  intro h
  refine q8t (q8j (q8x ?_))
  refine q2jr hm hT hC (q17p (q172 d) y2) h fun y4 h=>?_
  refine q91 (v:=y4.1) (by kernel_rfl) h ?_ ?_
  ·
   intro h
   refine q2jr hm hT hC (q17r (q172 d) y4) h fun y5 h=>?_
   refine q8w (q8l ?_)
   cases h
   exact (hend _ (by kernel_rfl)).2
  ·
   intro h
   refine q8t (q8j ?_)
   refine q2jr hm hT hC (q17v (q172 d) y4) h fun y6 h=>?_
   refine q2jr hm hT hC (q17z (q172 d) y6) h fun y7 h=>?_
   refine q8y ?_
   refine q93 (G:=iter (q1a2 d )) (S:=(fun x1=>⟨[(2,.ptr 0 0),(3,.ptr 1 0),(8,.ptr 2 0),(10,.rs 3)],[.cells [.fz Riii x1.1],.cells [i6 x1.2.1,i6 x1.2.2.1],.cells [i6 x1.2.2.2.1,i6 x1.2.2.2.2.1,i6 x1.2.2.2.2.2.1],.rows Riii x1.2.2.2.2.2.2]⟩:List Diii×Int×Int×Int×Int×Int×List Diii→St)) (fun _=>rfl) ?_ d _ h
   intro n1 x1 h K1 hn1
   replace h:q1a2 d  (iter (q1a2 d ) n1) x1=some r:=h
   generalize iter (q1a2 d ) n1=self1 at h hn1
   unfold q1a2 at h
   refine q8y ?_
   refine q2jr hm hT hC (q183 (q172 d) x1) h fun y8 h=>?_
   refine q2jr hm hT hC (q187 (q172 d) y8) h fun y9 h=>?_
   refine q8x ?_
   refine q2jr hm hT hC (q18b (q172 d) y9) h fun y10 h=>?_
   refine q8y ?_
   refine q93 (G:=iter (q1a1 d self1)) (S:=(fun x2=>⟨[(2,.ptr 0 0),(3,.ptr 1 0),(8,.ptr 2 0),(10,.rs 3),(11,.ptr 4 0),(12,.ptr 5 0),(47,.fz Riii x2.1),(48,i6 x2.2.1),(49,i6 x2.2.2.1)],[.cells [.fz Riii x2.2.2.2.1],.cells [i6 x2.2.2.2.2.1,i6 x2.2.2.2.2.2.1],.cells [i6 x2.2.2.2.2.2.2.1,i6 x2.2.2.2.2.2.2.2.1,i6 x2.2.2.2.2.2.2.2.2.1],.rows Riii x2.2.2.2.2.2.2.2.2.2.1,.cells [i6 x2.2.2.2.2.2.2.2.2.2.2.1,i6 x2.2.2.2.2.2.2.2.2.2.2.2.1,i6 x2.2.2.2.2.2.2.2.2.2.2.2.2.1],.cells [i6 x2.2.2.2.2.2.2.2.2.2.2.2.2.2.1,i6 x2.2.2.2.2.2.2.2.2.2.2.2.2.2.2]]⟩:List Diii×Int×Int×List Diii×Int×Int×Int×Int×Int×List Diii×Int×Int×Int×Int×Int→St)) (fun _=>rfl) ?_ d _ h
   intro n2 x2 h K2 hn2
   replace h:q1a1 d self1 (iter (q1a1 d self1) n2) x2=some r:=h
   generalize iter (q1a1 d self1) n2=self2 at h hn2
   unfold q1a1 at h
   refine q2jr hm hT hC (q18f (q172 d) x2) h fun y11 h=>?_
   refine q8x ?_
   refine q91 (v:=y11.2.2.2.1) (by kernel_rfl) h ?_ ?_
   ·
    intro h
    refine q8t (q8j ?_)
    refine q90 (r:=r) (F:=q18u d self1 self2) (S:=(fun z=>⟨[(2,.ptr 0 0),(3,.ptr 1 0),(8,.ptr 2 0),(10,.rs 3),(11,.ptr 4 0),(12,.ptr 5 0),(47,.fz Riii z.1),(48,i6 z.2.1),(49,i6 z.2.2.1)],[.cells [.fz Riii z.2.2.2.1],.cells [i6 z.2.2.2.2.1,i6 z.2.2.2.2.2.1],.cells [i6 z.2.2.2.2.2.2.1,i6 z.2.2.2.2.2.2.2.1,i6 z.2.2.2.2.2.2.2.2.1],.rows Riii z.2.2.2.2.2.2.2.2.2.1,.cells [i6 z.2.2.2.2.2.2.2.2.2.2.1,i6 z.2.2.2.2.2.2.2.2.2.2.2.1,i6 z.2.2.2.2.2.2.2.2.2.2.2.2.1],.cells [i6 z.2.2.2.2.2.2.2.2.2.2.2.2.2.1,i6 z.2.2.2.2.2.2.2.2.2.2.2.2.2.2]]⟩:List Diii×Int×Int×List Diii×Int×Int×Int×Int×Int×List Diii×Int×Int×Int×Int×Int→St)) ?_ ?_
    ·
     intro z h
     unfold q18u at h
     refine q92 hm hT hC (q18t (q172 d) z) h ?_
     intro y24 h
     exact hn2 _ h
    intro hj3
    refine q8y ?_
    refine q2jr hm hT hC (q18j (q172 d) y11) h fun y12 h=>?_
    refine q2jr hm hT hC (q18n (q172 d) y12) h fun y13 h=>?_
    refine q8x ?_
    refine q2jr hm hT hC (q18r (q172 d) y13) h fun y14 h=>?_
    refine q91 (v:=y14.2.2.2.1) (by kernel_rfl) h ?_ ?_
    ·
     intro h
     refine q8v (q8k (q8o ?_))
     refine qdu (s:=⟨[(2,.ptr 0 0),(3,.ptr 1 0),(8,.ptr 2 0),(10,.rs 3),(11,.ptr 4 0),(12,.ptr 5 0),(47,.fz Riii y14.1),(48,.int .i64 y14.2.1),(49,.int .i64 y14.2.2.1)],[.cells [.fz Riii y14.2.2.2.2.1],.cells [.int .i64 y14.2.2.2.2.2.1,.int .i64 y14.2.2.2.2.2.2.1],.cells [.int .i64 y14.2.2.2.2.2.2.2.1,.int .i64 y14.2.2.2.2.2.2.2.2.1,.int .i64 y14.2.2.2.2.2.2.2.2.2.1],.rows Riii y14.2.2.2.2.2.2.2.2.2.2.1,.cells [.int .i64 y14.2.2.2.2.2.2.2.2.2.2.2.1,.int .i64 y14.2.2.2.2.2.2.2.2.2.2.2.2.1,.int .i64 y14.2.2.2.2.2.2.2.2.2.2.2.2.2.1],.cells [.int .i64 y14.2.2.2.2.2.2.2.2.2.2.2.2.2.2.1,.int .i64 y14.2.2.2.2.2.2.2.2.2.2.2.2.2.2.2.1]]⟩) [14,15,66] (by kernel_rfl) ?_
     exact hj3 _ h
    ·
     intro h
     refine q8t (q8j ?_)
     refine q2jr hm hT hC (q18y (q172 d) y14) h fun y15 h=>?_
     refine q90 (r:=r) (F:=q19q d self1 self2) (S:=(fun z=>⟨[(2,.ptr 0 0),(3,.ptr 1 0),(8,.ptr 2 0),(10,.rs 3),(11,.ptr 4 0),(12,.ptr 5 0),(14,.ptr 6 0),(15,.ptr 7 0),(18,i6 z.1),(47,.fz Riii z.2.1),(48,i6 z.2.2.1),(49,i6 z.2.2.2.1)],[.cells [.fz Riii z.2.2.2.2.1],.cells [i6 z.2.2.2.2.2.1,i6 z.2.2.2.2.2.2.1],.cells [i6 z.2.2.2.2.2.2.2.1,i6 z.2.2.2.2.2.2.2.2.1,i6 z.2.2.2.2.2.2.2.2.2.1],.rows Riii z.2.2.2.2.2.2.2.2.2.2.1,.cells [i6 z.2.2.2.2.2.2.2.2.2.2.2.1,i6 z.2.2.2.2.2.2.2.2.2.2.2.2.1,i6 z.2.2.2.2.2.2.2.2.2.2.2.2.2.1],.cells [i6 z.2.2.2.2.2.2.2.2.2.2.2.2.2.2.1,i6 z.2.2.2.2.2.2.2.2.2.2.2.2.2.2.2.1],.cells [i6 z.2.2.2.2.2.2.2.2.2.2.2.2.2.2.2.2.1,i6 z.2.2.2.2.2.2.2.2.2.2.2.2.2.2.2.2.2.1,i6 z.2.2.2.2.2.2.2.2.2.2.2.2.2.2.2.2.2.2.1],.cells [i6 z.2.2.2.2.2.2.2.2.2.2.2.2.2.2.2.2.2.2.2.1,i6 z.2.2.2.2.2.2.2.2.2.2.2.2.2.2.2.2.2.2.2.2]]⟩:Int×List Diii×Int×Int×List Diii×Int×Int×Int×Int×Int×List Diii×Int×Int×Int×Int×Int×Int×Int×Int×Int×Int→St)) ?_ ?_
     ·
      intro z h
      unfold q19q at h
      refine q90 (r:=r) (F:=q19p d self1 self2) (S:=(fun z=>⟨[(2,.ptr 0 0),(3,.ptr 1 0),(8,.ptr 2 0),(10,.rs 3),(11,.ptr 4 0),(12,.ptr 5 0),(14,.ptr 6 0),(15,.ptr 7 0),(18,i6 z.1),(47,.fz Riii z.2.1),(48,i6 z.2.2.1),(49,i6 z.2.2.2.1)],[.cells [.fz Riii z.2.2.2.2.1],.cells [i6 z.2.2.2.2.2.1,i6 z.2.2.2.2.2.2.1],.cells [i6 z.2.2.2.2.2.2.2.1,i6 z.2.2.2.2.2.2.2.2.1,i6 z.2.2.2.2.2.2.2.2.2.1],.rows Riii z.2.2.2.2.2.2.2.2.2.2.1,.cells [i6 z.2.2.2.2.2.2.2.2.2.2.2.1,i6 z.2.2.2.2.2.2.2.2.2.2.2.2.1,i6 z.2.2.2.2.2.2.2.2.2.2.2.2.2.1],.cells [i6 z.2.2.2.2.2.2.2.2.2.2.2.2.2.2.1,i6 z.2.2.2.2.2.2.2.2.2.2.2.2.2.2.2.1],.cells [i6 z.2.2.2.2.2.2.2.2.2.2.2.2.2.2.2.2.1,i6 z.2.2.2.2.2.2.2.2.2.2.2.2.2.2.2.2.2.1,i6 z.2.2.2.2.2.2.2.2.2.2.2.2.2.2.2.2.2.2.1],.cells [i6 z.2.2.2.2.2.2.2.2.2.2.2.2.2.2.2.2.2.2.2.1,i6 z.2.2.2.2.2.2.2.2.2.2.2.2.2.2.2.2.2.2.2.2]]⟩:Int×List Diii×Int×Int×List Diii×Int×Int×Int×Int×Int×List Diii×Int×Int×Int×Int×Int×Int×Int×Int×Int×Int→St)) ?_ ?_
      ·
       intro z h
       unfold q19p at h
       refine q2jr hm hT hC (q19m (q172 d) z) h fun y22 h=>?_
       refine q91 (v:=y22.2.2.2.1) (by kernel_rfl) h ?_ ?_
       ·
        intro h
        refine q92 hm hT hC (q19o (q172 d) y22) h ?_
        intro y23 h
        refine q8m ?_
        exact hj3 _ h
       ·
        intro h
        refine q8t (q8m ?_)
        refine qdu (s:=⟨[(2,.ptr 0 0),(3,.ptr 1 0),(8,.ptr 2 0),(10,.rs 3),(11,.ptr 4 0),(12,.ptr 5 0),(47,.fz Riii y22.1),(48,.int .i64 y22.2.1),(49,.int .i64 y22.2.2.1),(84,.bool y22.2.2.2.1)],[.cells [.fz Riii y22.2.2.2.2.1],.cells [.int .i64 y22.2.2.2.2.2.1,.int .i64 y22.2.2.2.2.2.2.1],.cells [.int .i64 y22.2.2.2.2.2.2.2.1,.int .i64 y22.2.2.2.2.2.2.2.2.1,.int .i64 y22.2.2.2.2.2.2.2.2.2.1],.rows Riii y22.2.2.2.2.2.2.2.2.2.2.1,.cells [.int .i64 y22.2.2.2.2.2.2.2.2.2.2.2.1,.int .i64 y22.2.2.2.2.2.2.2.2.2.2.2.2.1,.int .i64 y22.2.2.2.2.2.2.2.2.2.2.2.2.2.1],.cells [.int .i64 y22.2.2.2.2.2.2.2.2.2.2.2.2.2.2.1,.int .i64 y22.2.2.2.2.2.2.2.2.2.2.2.2.2.2.2.1]]⟩) [14,15] (by kernel_rfl) ?_
        refine qdu (s:=⟨[(2,.ptr 0 0),(3,.ptr 1 0),(8,.ptr 2 0),(10,.rs 3),(11,.ptr 4 0),(12,.ptr 5 0),(47,.fz Riii y22.1),(48,.int .i64 y22.2.1),(49,.int .i64 y22.2.2.1)],[.cells [.fz Riii y22.2.2.2.2.1],.cells [.int .i64 y22.2.2.2.2.2.1,.int .i64 y22.2.2.2.2.2.2.1],.cells [.int .i64 y22.2.2.2.2.2.2.2.1,.int .i64 y22.2.2.2.2.2.2.2.2.1,.int .i64 y22.2.2.2.2.2.2.2.2.2.1],.rows Riii y22.2.2.2.2.2.2.2.2.2.2.1,.cells [.int .i64 y22.2.2.2.2.2.2.2.2.2.2.2.1,.int .i64 y22.2.2.2.2.2.2.2.2.2.2.2.2.1,.int .i64 y22.2.2.2.2.2.2.2.2.2.2.2.2.2.1],.cells [.int .i64 y22.2.2.2.2.2.2.2.2.2.2.2.2.2.2.1,.int .i64 y22.2.2.2.2.2.2.2.2.2.2.2.2.2.2.2.1]]⟩) [84] (by kernel_rfl) ?_
        exact hj3 _ h
      intro hj5
      refine q2jr hm hT hC (q198 (q172 d) z) h fun y18 h=>?_
      refine q91 (v:=y18.2.2.2.2.1) (by kernel_rfl) h ?_ ?_
      ·
       intro h
       refine q2jr hm hT hC (q19c (q172 d) y18) h fun y19 h=>?_
       refine q2jr hm hT hC (q19g (q172 d) y19) h fun y20 h=>?_
       refine q91 (v:=y20.2.2.2.2.1) (by kernel_rfl) h ?_ ?_
       ·
        intro h
        refine q92 hm hT hC (q19i (q172 d) y20) h ?_
        intro y21 h
        exact hj5 _ h
       ·
        intro h
        refine q8t ?_
        refine qdu (s:=⟨[(2,.ptr 0 0),(3,.ptr 1 0),(8,.ptr 2 0),(10,.rs 3),(11,.ptr 4 0),(12,.ptr 5 0),(14,.ptr 6 0),(15,.ptr 7 0),(18,.int .i64 y20.1),(47,.fz Riii y20.2.1),(48,.int .i64 y20.2.2.1),(49,.int .i64 y20.2.2.2.1)],[.cells [.fz Riii y20.2.2.2.2.2.1],.cells [.int .i64 y20.2.2.2.2.2.2.1,.int .i64 y20.2.2.2.2.2.2.2.1],.cells [.int .i64 y20.2.2.2.2.2.2.2.2.1,.int .i64 y20.2.2.2.2.2.2.2.2.2.1,.int .i64 y20.2.2.2.2.2.2.2.2.2.2.1],.rows Riii y20.2.2.2.2.2.2.2.2.2.2.2.1,.cells [.int .i64 y20.2.2.2.2.2.2.2.2.2.2.2.2.1,.int .i64 y20.2.2.2.2.2.2.2.2.2.2.2.2.2.1,.int .i64 y20.2.2.2.2.2.2.2.2.2.2.2.2.2.2.1],.cells [.int .i64 y20.2.2.2.2.2.2.2.2.2.2.2.2.2.2.2.1,.int .i64 y20.2.2.2.2.2.2.2.2.2.2.2.2.2.2.2.2.1],.cells [.int .i64 y20.2.2.2.2.2.2.2.2.2.2.2.2.2.2.2.2.2.1,.int .i64 y20.2.2.2.2.2.2.2.2.2.2.2.2.2.2.2.2.2.2.1,.int .i64 y20.2.2.2.2.2.2.2.2.2.2.2.2.2.2.2.2.2.2.2.1],.cells [.int .i64 y20.2.2.2.2.2.2.2.2.2.2.2.2.2.2.2.2.2.2.2.2.1,.int .i64 y20.2.2.2.2.2.2.2.2.2.2.2.2.2.2.2.2.2.2.2.2.2]]⟩) [82] (by kernel_rfl) ?_
        exact hj5 _ h
      ·
       intro h
       refine q8t ?_
       refine qdu (s:=⟨[(2,.ptr 0 0),(3,.ptr 1 0),(8,.ptr 2 0),(10,.rs 3),(11,.ptr 4 0),(12,.ptr 5 0),(14,.ptr 6 0),(15,.ptr 7 0),(18,.int .i64 y18.1),(47,.fz Riii y18.2.1),(48,.int .i64 y18.2.2.1),(49,.int .i64 y18.2.2.2.1)],[.cells [.fz Riii y18.2.2.2.2.2.1],.cells [.int .i64 y18.2.2.2.2.2.2.1,.int .i64 y18.2.2.2.2.2.2.2.1],.cells [.int .i64 y18.2.2.2.2.2.2.2.2.1,.int .i64 y18.2.2.2.2.2.2.2.2.2.1,.int .i64 y18.2.2.2.2.2.2.2.2.2.2.1],.rows Riii y18.2.2.2.2.2.2.2.2.2.2.2.1,.cells [.int .i64 y18.2.2.2.2.2.2.2.2.2.2.2.2.1,.int .i64 y18.2.2.2.2.2.2.2.2.2.2.2.2.2.1,.int .i64 y18.2.2.2.2.2.2.2.2.2.2.2.2.2.2.1],.cells [.int .i64 y18.2.2.2.2.2.2.2.2.2.2.2.2.2.2.2.1,.int .i64 y18.2.2.2.2.2.2.2.2.2.2.2.2.2.2.2.2.1],.cells [.int .i64 y18.2.2.2.2.2.2.2.2.2.2.2.2.2.2.2.2.2.1,.int .i64 y18.2.2.2.2.2.2.2.2.2.2.2.2.2.2.2.2.2.2.1,.int .i64 y18.2.2.2.2.2.2.2.2.2.2.2.2.2.2.2.2.2.2.2.1],.cells [.int .i64 y18.2.2.2.2.2.2.2.2.2.2.2.2.2.2.2.2.2.2.2.2.1,.int .i64 y18.2.2.2.2.2.2.2.2.2.2.2.2.2.2.2.2.2.2.2.2.2]]⟩) [74] (by kernel_rfl) ?_
       exact hj5 _ h
     intro hj4
     refine q2jr hm hT hC (q192 (q172 d) y15) h fun y16 h=>?_
     refine q91 (v:=y16.2.2.2.2.1) (by kernel_rfl) h ?_ ?_
     ·
      intro h
      refine q92 hm hT hC (q194 (q172 d) y16) h ?_
      intro y17 h
      exact hj4 _ h
     ·
      intro h
      refine q8t ?_
      refine qdu (s:=⟨[(2,.ptr 0 0),(3,.ptr 1 0),(8,.ptr 2 0),(10,.rs 3),(11,.ptr 4 0),(12,.ptr 5 0),(14,.ptr 6 0),(15,.ptr 7 0),(18,.int .i64 y16.1),(47,.fz Riii y16.2.1),(48,.int .i64 y16.2.2.1),(49,.int .i64 y16.2.2.2.1)],[.cells [.fz Riii y16.2.2.2.2.2.1],.cells [.int .i64 y16.2.2.2.2.2.2.1,.int .i64 y16.2.2.2.2.2.2.2.1],.cells [.int .i64 y16.2.2.2.2.2.2.2.2.1,.int .i64 y16.2.2.2.2.2.2.2.2.2.1,.int .i64 y16.2.2.2.2.2.2.2.2.2.2.1],.rows Riii y16.2.2.2.2.2.2.2.2.2.2.2.1,.cells [.int .i64 y16.2.2.2.2.2.2.2.2.2.2.2.2.1,.int .i64 y16.2.2.2.2.2.2.2.2.2.2.2.2.2.1,.int .i64 y16.2.2.2.2.2.2.2.2.2.2.2.2.2.2.1],.cells [.int .i64 y16.2.2.2.2.2.2.2.2.2.2.2.2.2.2.2.1,.int .i64 y16.2.2.2.2.2.2.2.2.2.2.2.2.2.2.2.2.1],.cells [.int .i64 y16.2.2.2.2.2.2.2.2.2.2.2.2.2.2.2.2.2.1,.int .i64 y16.2.2.2.2.2.2.2.2.2.2.2.2.2.2.2.2.2.2.1,.int .i64 y16.2.2.2.2.2.2.2.2.2.2.2.2.2.2.2.2.2.2.2.1],.cells [.int .i64 y16.2.2.2.2.2.2.2.2.2.2.2.2.2.2.2.2.2.2.2.2.1,.int .i64 y16.2.2.2.2.2.2.2.2.2.2.2.2.2.2.2.2.2.2.2.2.2]]⟩) [69] (by kernel_rfl) ?_
      exact hj4 _ h
   ·
    intro h
    refine q8v (q8k (q8k (q8o (q8j (q8x ?_)))))
    refine q2jr hm hT hC (q19u (q172 d) y11) h fun y25 h=>?_
    refine q91 (v:=y25.1) (by kernel_rfl) h ?_ ?_
    ·
     intro h
     refine q2jr hm hT hC (q19w (q172 d) y25) h fun y26 h=>?_
     refine q8w (q8l (q8n (q8l (q8n ?_))))
     cases h
     exact (hend _ (by kernel_rfl)).2
    ·
     intro h
     refine q8t (q8j ?_)
     refine q2jr hm hT hC (q19y (q172 d) y25) h fun y27 h=>?_
     refine q92 hm hT hC (q1a0 (q172 d) y27) h ?_
     intro y28 h
     refine q8m ?_
     exact hn1 _ h
abbrev q1a5:List Pk:=[.row qka false]
abbrev q1a6:Type:=qkb×Unit
abbrev q1a7:Type:=Int
def q1a8 (r:q1a7):LV×List Ob:=(.int .i64 r,[])
def q1a9 (F:q1a6→Option q1a7):Go.Tx.Spec:=⟨19,q1a5,q1a7,F,q1a8⟩
abbrev q1aa:Type:=(q169→Option q16a)×(qnp→Option qnq)×Unit
def q1ab (d:Nat):q1aa:=(q16u d,qnu d,())
def q1ac (C:q1aa):List Go.Tx.Spec:=[q16c C.1,qns C.2.1]
abbrev q1ad:Type:=List Diii
def q1ae (v:q1ad):St:=⟨[(0,.fz Riii v)],[]⟩
def q1af (C:q1aa) (v:q1ad):Dt q1ad:=(Dt.ret v)
abbrev q2k5 {V Y:Type}:=@rg q1aa V Y tysT (fun C=>(orc (q1ac C))) 60
theorem q1ag C v:q2k5 (regO (qdv f19) 0) false [(0,(.val Riii))] q1ae q1af q1ae C v:=rgI (by kernel_rfl)
abbrev q1ah:Type:=List Diii×Bool
def q1ai (v:q1ah):St:=⟨[(0,.fz Riii v.1),(12,.bool v.2)],[]⟩
def q1aj (C:q1aa) (v:q1ad):Dt q1ah:=(Dt.ite (decide ((List.length v:Int)<(1:Int))) (Dt.ret (v,true)) (Dt.ret (v,(decide ((List.length v:Int) > (300:Int))))))
theorem q1ak C v:q2k5 (regO (qdv f19) 1) false [(0,(.val Riii)),(12,.any)] q1ae q1aj q1ai C v:=rgI (by kernel_rfl)
abbrev q1al:Type:=Int
def q1am (v:q1al):St:=⟨[(2,i6 v)],[]⟩
def q1an (C:q1aa) (v:q1ah):Dt q1al:=(Dt.ret (8:Int))
theorem q1ao C v:q2k5 (regO (qdv f19) 2) false [(2,.any)] q1ai q1an q1am C v:=rgI (by kernel_rfl)
abbrev q1ap:Type:=List Diii×List Diii×Int×Int
def q1aq (v:q1ap):St:=⟨[(0,.fz Riii v.1),(13,.fz Riii v.2.1),(14,i6 v.2.2.1),(15,i6 v.2.2.2)],[]⟩
def q1ar (C:q1aa) (v:q1ah):Dt q1ap:=(Dt.ret (v.1,v.1,(List.length v.1:Int),(0:Int)))
theorem q1as C v:q2k5 (regO (qdv f19) 3) false [(0,(.val Riii)),(13,(.val Riii)),(14,.any),(15,.any)] q1ai q1ar q1aq C v:=rgI (by kernel_rfl)
abbrev q1at:Type:=List Diii×List Diii×Int×Int×Bool
def q1au (v:q1at):St:=⟨[(0,.fz Riii v.1),(13,.fz Riii v.2.1),(14,i6 v.2.2.1),(15,i6 v.2.2.2.1),(16,.bool v.2.2.2.2)],[]⟩
def q1av (C:q1aa) (v:q1ap):Dt q1at:=(Dt.ret (v.1,v.2.1,v.2.2.1,v.2.2.2,(decide (v.2.2.2<v.2.2.1))))
theorem q1aw C v:q2k5 (regO (qdv f19) 4) false [(0,(.val Riii)),(13,(.val Riii)),(14,.any),(15,.any),(16,.any)] q1aq q1av q1au C v:=rgI (by kernel_rfl)
abbrev q1ax:Type:=List Diii×Int×List Diii×Int×Int×Int×Int×Int
def q1ay (v:q1ax):St:=⟨[(0,.fz Riii v.1),(3,i6 v.2.1),(4,.ptr 0 0),(13,.fz Riii v.2.2.1),(14,i6 v.2.2.2.1),(15,i6 v.2.2.2.2.1)],[.cells [i6 v.2.2.2.2.2.1,i6 v.2.2.2.2.2.2.1,i6 v.2.2.2.2.2.2.2]]⟩
def q1az (C:q1aa) (v:q1at):Dt q1ax:=(Dt.ite (inB v.2.2.2.1 (List.length v.2.1)) (Dt.ret (v.1,v.2.2.2.1,v.2.1,v.2.2.1,v.2.2.2.1,(elt ziii v.2.1 (v.2.2.2.1).toNat).1,(elt ziii v.2.1 (v.2.2.2.1).toNat).2.1,(elt ziii v.2.1 (v.2.2.2.1).toNat).2.2.1)) Dt.fail)
theorem q1b0 C v:q2k5 (regO (qdv f19) 5) false [(0,(.val Riii)),(3,.any),(4,.any),(13,(.val Riii)),(14,.any),(15,.any)] q1au q1az q1ay C v:=rgI (by kernel_rfl)
abbrev q1b1:Type:=List Diii×Int×List Diii×Int×Int×Bool×Int×Int×Int
def q1b2 (v:q1b1):St:=⟨[(0,.fz Riii v.1),(3,i6 v.2.1),(4,.ptr 0 0),(13,.fz Riii v.2.2.1),(14,i6 v.2.2.2.1),(15,i6 v.2.2.2.2.1),(33,.bool v.2.2.2.2.2.1)],[.cells [i6 v.2.2.2.2.2.2.1,i6 v.2.2.2.2.2.2.2.1,i6 v.2.2.2.2.2.2.2.2]]⟩
def q1b3 (C:q1aa) (v:q1ax):Dt q1b1:=(Dt.bnd (C.2.1 ((v.2.2.2.2.2.1,v.2.2.2.2.2.2.1,()),())) fun r1=>(Dt.ite (r1 != (0:Int)) (Dt.ret (v.1,v.2.1,v.2.2.1,v.2.2.2.1,v.2.2.2.2.1,true,v.2.2.2.2.2.1,v.2.2.2.2.2.2.1,v.2.2.2.2.2.2.2)) (Dt.ite (decide (v.2.2.2.2.2.2.2<(0:Int))) (Dt.ret (v.1,v.2.1,v.2.2.1,v.2.2.2.1,v.2.2.2.2.1,true,v.2.2.2.2.2.1,v.2.2.2.2.2.2.1,v.2.2.2.2.2.2.2)) (Dt.ret (v.1,v.2.1,v.2.2.1,v.2.2.2.1,v.2.2.2.2.1,(decide (v.2.2.2.2.2.2.2 > (65535:Int))),v.2.2.2.2.2.1,v.2.2.2.2.2.2.1,v.2.2.2.2.2.2.2)))))
theorem q1b4 C v:q2k5 (regO (qdv f19) 6) false [(0,(.val Riii)),(3,.any),(4,.any),(13,(.val Riii)),(14,.any),(15,.any),(33,.any)] q1ay q1b3 q1b2 C v:=rgI (by kernel_rfl)
def q1b5 (C:q1aa) (v:q1b1):Dt q1al:=(Dt.ret (8:Int))
theorem q1b6 C v:q2k5 (regO (qdv f19) 7) false [(2,.any)] q1b2 q1b5 q1am C v:=rgI (by kernel_rfl)
abbrev q1b7:Type:=List Diii×List Diii×Int×Int×Bool
def q1b8 (v:q1b7):St:=⟨[(0,.fz Riii v.1),(13,.fz Riii v.2.1),(14,i6 v.2.2.1),(15,i6 v.2.2.2.1),(58,.bool v.2.2.2.2)],[]⟩
def q1b9 (C:q1aa) (v:q1b1):Dt q1b7:=(Dt.ite (decide (v.2.1 > (0:Int))) (Dt.ite (inB (IntKind.wrap .i64 (v.2.1 - (1:Int))) (List.length v.1)) (Dt.bnd (C.1 (((elt ziii v.1 ((IntKind.wrap .i64 (v.2.1 - (1:Int)))).toNat).1,(elt ziii v.1 ((IntKind.wrap .i64 (v.2.1 - (1:Int)))).toNat).2.1,()),(v.2.2.2.2.2.2.1,v.2.2.2.2.2.2.2.1,()),())) fun r1=>(Dt.ite (decide (r1≥(0:Int))) (Dt.ret (v.1,v.2.2.1,v.2.2.2.1,v.2.2.2.2.1,true)) (Dt.ite (inB (IntKind.wrap .i64 (v.2.1 - (1:Int))) (List.length v.1)) (Dt.ret (v.1,v.2.2.1,v.2.2.2.1,v.2.2.2.2.1,((elt ziii v.1 ((IntKind.wrap .i64 (v.2.1 - (1:Int)))).toNat).2.2.1 == v.2.2.2.2.2.2.2.2))) Dt.fail))) Dt.fail) (Dt.ret (v.1,v.2.2.1,v.2.2.2.1,v.2.2.2.2.1,false)))
theorem q1ba C v:q2k5 (regO (qdv f19) 8) true [(0,(.val Riii)),(13,(.val Riii)),(14,.any),(15,.any),(58,.any)] q1b2 q1b9 q1b8 C v:=rgI (by kernel_rfl)
def q1bb (C:q1aa) (v:q1b7):Dt q1al:=(Dt.ret (8:Int))
theorem q1bc C v:q2k5 (regO (qdv f19) 9) false [(2,.any)] q1b8 q1bb q1am C v:=rgI (by kernel_rfl)
def q1bd (C:q1aa) (v:q1b7):Dt q1ap:=(Dt.ret (v.1,v.2.1,v.2.2.1,(IntKind.wrap .i64 (v.2.2.2.1+(1:Int)))))
theorem q1be C v:q2k5 (regO (qdv f19) 10) false [(0,(.val Riii)),(13,(.val Riii)),(14,.any),(15,.any)] q1b8 q1bd q1aq C v:=rgI (by kernel_rfl)
def q1bf (C:q1aa) (v:q1at):Dt q1al:=(Dt.ret (0:Int))
theorem q1bg C v:q2k5 (regO (qdv f19) 11) false [(2,.any)] q1au q1bf q1am C v:=rgI (by kernel_rfl)
def q1bh (d:Nat) (self1:(List Diii×List Diii×Int×Int)→Option q1a7) (x1:List Diii×List Diii×Int×Int):Option q1a7 :=
 (q1av (q1ab d) x1).eval fun y4 =>
 bif y4.2.2.2.2 then ((q1az (q1ab d) y4).eval fun y5 =>
 (q1b3 (q1ab d) y5).eval fun y6 =>
 bif y6.2.2.2.2.2.1 then ((q1b5 (q1ab d) y6).eval fun y7 =>
 some y7) else ((q1b9 (q1ab d) y6).eval fun y8 =>
 bif y8.2.2.2.2 then ((q1bb (q1ab d) y8).eval fun y9 =>
 some y9) else ((q1bd (q1ab d) y8).eval fun y10 =>
 self1 y10))) else ((q1bf (q1ab d) y4).eval fun y11 =>
 some y11)
def q1bi (d:Nat) (x:q1a6):Option q1a7 :=
 (q1af (q1ab d) x.1.1).eval fun y0 =>
 (q1aj (q1ab d) y0).eval fun y1 =>
 bif y1.2 then ((q1an (q1ab d) y1).eval fun y2 =>
 some y2) else ((q1ar (q1ab d) y1).eval fun y3 =>
 iter (q1bh d ) d y3)
theorem q1bj (d:Nat):COK prog (q1a9 (q1bi d)):=by
 have hm:prog.follows .mixedOrders=true:=mixed
 have hT:=tys
 have hC0:OrcOK prog (orc (q1ac (q1ab d))):=qdp (by
  intro S hS
  simp only [q1ac,List.mem_cons,List.not_mem_nil,or_false] at hS
  rcases hS with rfl | rfl
  · exact q16v d
  · exact qnw d)
 have hC:OrcOK prog (orc (q1ac (q1ab d))):=hC0
 refine q9e (c:=qdv f19) (fn:=f19) hT (by kernel_rfl) (by kernel_rfl) (by decide) fun x r h w0 φ0 Q hend=>?_
 replace h:q1bi d x=some r:=h
 unfold q1bi at h
 show Run prog w0 φ0 60 (qdv f19) ⟨[(0,.fz Riii x.1.1)],[]⟩ Q
 refine q2jr hm hT hC (q1ag (q1ab d) x.1.1) h fun y0 h=>?_
 refine q8x ?_
 refine q2jr hm hT hC (q1ak (q1ab d) y0) h fun y1 h=>?_
 refine q91 (v:=y1.2) (by kernel_rfl) h ?_ ?_
 ·
  intro h
  refine q2jr hm hT hC (q1ao (q1ab d) y1) h fun y2 h=>?_
  refine q8w (q8l ?_)
  cases h
  exact (hend _ (by kernel_rfl)).2
 ·
  intro h
  refine q8t (q8j (q8x ?_))
  refine q2jr hm hT hC (q1as (q1ab d) y1) h fun y3 h=>?_
  refine q8y ?_
  refine q93 (G:=iter (q1bh d )) (S:=(fun x1=>⟨[(0,.fz Riii x1.1),(13,.fz Riii x1.2.1),(14,i6 x1.2.2.1),(15,i6 x1.2.2.2)],[]⟩:List Diii×List Diii×Int×Int→St)) (fun _=>rfl) ?_ d _ h
  intro n1 x1 h K1 hn1
  replace h:q1bh d  (iter (q1bh d ) n1) x1=some r:=h
  generalize iter (q1bh d ) n1=self1 at h hn1
  unfold q1bh at h
  refine q2jr hm hT hC (q1aw (q1ab d) x1) h fun y4 h=>?_
  refine q8x ?_
  refine q91 (v:=y4.2.2.2.2) (by kernel_rfl) h ?_ ?_
  ·
   intro h
   refine q8t (q8j (q8x (q8y ?_)))
   refine q2jr hm hT hC (q1b0 (q1ab d) y4) h fun y5 h=>?_
   refine q8x ?_
   refine q2jr hm hT hC (q1b4 (q1ab d) y5) h fun y6 h=>?_
   refine q91 (v:=y6.2.2.2.2.2.1) (by kernel_rfl) h ?_ ?_
   ·
    intro h
    refine q2jr hm hT hC (q1b6 (q1ab d) y6) h fun y7 h=>?_
    refine q8w (q8l (q8n (q8l (q8l (q8n (q8l ?_))))))
    cases h
    exact (hend _ (by kernel_rfl)).2
   ·
    intro h
    refine q8t (q8j ?_)
    refine q2jr hm hT hC (q1ba (q1ab d) y6) h fun y8 h=>?_
    refine q91 (v:=y8.2.2.2.2) (by kernel_rfl) h ?_ ?_
    ·
     intro h
     refine q2jr hm hT hC (q1bc (q1ab d) y8) h fun y9 h=>?_
     refine q8w (q8n (q8l (q8l (q8n (q8l ?_)))))
     cases h
     exact (hend _ (by kernel_rfl)).2
    ·
     intro h
     refine q8t (q8m (q8j ?_))
     refine q92 hm hT hC (q1be (q1ab d) y8) h ?_
     intro y10 h
     exact hn1 _ h
  ·
   intro h
   refine q8v (q8k (q8k (q8o (q8j ?_))))
   refine q2jr hm hT hC (q1bg (q1ab d) y4) h fun y11 h=>?_
   refine q8w ?_
   cases h
   exact (hend _ (by kernel_rfl)).2
abbrev q1bk:List Pk:=[.row Riii true,.row Rii true]
abbrev q1bl:Type:=Diii×Dii×Unit
abbrev q1bm:Type:=Int
def q1bn (r:q1bm):LV×List Ob:=(.int .i64 r,[])
def q1bo (F:q1bl→Option q1bm):Go.Tx.Spec:=⟨47,q1bk,q1bm,F,q1bn⟩
abbrev q1bp:Type:=(q169→Option q16a)×Unit
def q1bq (d:Nat):q1bp:=(q16u d,())
def q1br (C:q1bp):List Go.Tx.Spec:=[q16c C.1]
abbrev q1bs:Type:=Int×Int×Int×Int×Int
def q1bt (v:q1bs):St:=⟨[(0,.agg [i6 v.1,i6 v.2.1,i6 v.2.2.1]),(1,.agg [i6 v.2.2.2.1,i6 v.2.2.2.2])],[]⟩
abbrev q1bu:Type:=Int×Int×Int×Int×Int
def q1bv (v:q1bu):St:=⟨[(2,.ptr 0 0),(3,.ptr 1 0)],[.cells [i6 v.1,i6 v.2.1,i6 v.2.2.1],.cells [i6 v.2.2.2.1,i6 v.2.2.2.2]]⟩
def q1bw (C:q1bp) (v:q1bs):Dt q1bu:=(Dt.ret (v.1,v.2.1,v.2.2.1,v.2.2.2.1,v.2.2.2.2))
abbrev q2k6 {V Y:Type}:=@rg q1bp V Y tysT (fun C=>(orc (q1br C))) 9
theorem q1bx C v:q2k6 (regO (qdv f47) 0) false (an [2,3]) q1bt q1bw q1bv C v:=rgI (by kernel_rfl)
abbrev q1by:Type:=Int
def q1bz (v:q1by):St:=⟨[(4,i6 v)],[]⟩
def q1c0 (C:q1bp) (v:q1bu):Dt q1by:=(Dt.bnd (C.1 ((v.1,v.2.1,()),(v.2.2.2.1,v.2.2.2.2,()),())) fun r1=>(Dt.ret r1))
theorem q1c1 C v:q2k6 (regO (qdv f47) 1) false [(4,.any)] q1bv q1c0 q1bz C v:=rgI (by kernel_rfl)
def q1c2 (d:Nat) (x:q1bl):Option q1bm :=
 (q1bw (q1bq d) (x.1.1,x.1.2.1,x.1.2.2.1,x.2.1.1,x.2.1.2.1)).eval fun y0 =>
 (q1c0 (q1bq d) y0).eval fun y1 =>
 some y1
theorem q1c3 (d:Nat):COK prog (q1bo (q1c2 d)):=by
 have hm:prog.follows .mixedOrders=true:=mixed
 have hT:=tys
 have hC0:OrcOK prog (orc (q1br (q1bq d))):=qdp (by
  intro S hS
  simp only [q1br,List.mem_cons,List.not_mem_nil,or_false] at hS
  subst hS;exact q16v d)
 have hC:OrcOK prog (orc (q1br (q1bq d))):=hC0
 refine q9e (c:=qdv f47) (fn:=f47) hT (by kernel_rfl) (by kernel_rfl) (by decide) fun x r h w0 φ0 Q hend=>?_
 replace h:q1c2 d x=some r:=h
 unfold q1c2 at h
 show Run prog w0 φ0 9 (qdv f47) ⟨[(0,.agg [.int .i64 x.1.1,.int .i64 x.1.2.1,.int .i64 x.1.2.2.1]),(1,.agg [.int .i64 x.2.1.1,.int .i64 x.2.1.2.1])],[]⟩ Q
 refine q2jr hm hT hC (q1bx (q1bq d) (x.1.1,x.1.2.1,x.1.2.2.1,x.2.1.1,x.2.1.2.1)) h fun y0 h=>?_
 refine q2jr hm hT hC (q1c1 (q1bq d) y0) h fun y1 h=>?_
 refine q8w ?_
 cases h
 exact (hend _ (by kernel_rfl)).2
abbrev q1c4:List Pk:=[.row qka false,.row Rii true,.fn 47 []]
abbrev q1c5:Type:=qkb×Dii×(Unit)×Unit
abbrev q1c6:Type:=Int×Bool
def q1c7 (r:q1c6):LV×List Ob:=(.tup [.int .i64 r.1,.bool r.2],[])
def q1c8 (F:q1c5→Option q1c6):Go.Tx.Spec:=⟨46,q1c4,q1c6,F,q1c7⟩
abbrev q1c9:Type:=(q1bl→Option q1bm)×Unit
def q1ca (d:Nat):q1c9:=(q1c2 d,())
def q1cb (C:q1c9):List Go.Tx.Spec:=[q1bo C.1]
abbrev q1cc:Type:=List Diii×Int×Int
def q1cd (v:q1cc):St:=⟨[(0,.fz Riii v.1),(1,.agg [i6 v.2.1,i6 v.2.2]),(2,.fn 47 [])],[]⟩
abbrev q1ce:Type:=List Diii×Int×Int
def q1cf (v:q1ce):St:=⟨[(0,.fz Riii v.1),(2,.fn 47 []),(4,.ptr 0 0)],[.cells [i6 v.2.1,i6 v.2.2]]⟩
def q1cg (C:q1c9) (v:q1cc):Dt q1ce:=(Dt.ret (v.1,v.2.1,v.2.2))
abbrev q2k7 {V Y:Type}:=@rg q1c9 V Y tysT (fun C=>(orc (q1cb C))) 49
theorem q1ch C v:q2k7 (regO (qdv f46) 0) false [(0,(.val Riii)),(2,.any),(4,.any)] q1cd q1cg q1cf C v:=rgI (by kernel_rfl)
abbrev q1ci:Type:=List Diii×Int×Int×Int
def q1cj (v:q1ci):St:=⟨[(0,.fz Riii v.1),(2,.fn 47 []),(4,.ptr 0 0),(8,i6 v.2.1)],[.cells [i6 v.2.2.1,i6 v.2.2.2]]⟩
def q1ck (C:q1c9) (v:q1ce):Dt q1ci:=(Dt.ret (v.1,(List.length v.1:Int),v.2.1,v.2.2))
theorem q1cl C v:q2k7 (regO (qdv f46) 1) false [(0,(.val Riii)),(2,.any),(4,.any),(8,.any)] q1cf q1ck q1cj C v:=rgI (by kernel_rfl)
abbrev q1cm:Type:=List Diii×Int×Int×Int×Int×Int
def q1cn (v:q1cm):St:=⟨[(0,.fz Riii v.1),(2,.fn 47 []),(4,.ptr 0 0),(8,i6 v.2.1),(9,i6 v.2.2.1),(10,i6 v.2.2.2.1)],[.cells [i6 v.2.2.2.2.1,i6 v.2.2.2.2.2]]⟩
def q1co (C:q1c9) (v:q1ci):Dt q1cm:=(Dt.ret (v.1,v.2.1,(0:Int),v.2.1,v.2.2.1,v.2.2.2))
theorem q1cp C v:q2k7 (regO (qdv f46) 2) false [(0,(.val Riii)),(2,.any),(4,.any),(8,.any),(9,.any),(10,.any)] q1cj q1co q1cn C v:=rgI (by kernel_rfl)
abbrev q1cq:Type:=List Diii×Int×Int×Int×Bool×Int×Int
def q1cr (v:q1cq):St:=⟨[(0,.fz Riii v.1),(2,.fn 47 []),(4,.ptr 0 0),(8,i6 v.2.1),(9,i6 v.2.2.1),(10,i6 v.2.2.2.1),(17,.bool v.2.2.2.2.1)],[.cells [i6 v.2.2.2.2.2.1,i6 v.2.2.2.2.2.2]]⟩
def q1cs (C:q1c9) (v:q1cm):Dt q1cq:=(Dt.ret (v.1,v.2.1,v.2.2.1,v.2.2.2.1,(decide (v.2.2.1<v.2.2.2.1)),v.2.2.2.2.1,v.2.2.2.2.2))
theorem q1ct C v:q2k7 (regO (qdv f46) 3) false [(0,(.val Riii)),(2,.any),(4,.any),(8,.any),(9,.any),(10,.any),(17,.any)] q1cn q1cs q1cr C v:=rgI (by kernel_rfl)
abbrev q1cu:Type:=List Diii×Int×Int×Int×Int×Int×Int
def q1cv (v:q1cu):St:=⟨[(0,.fz Riii v.1),(2,.fn 47 []),(4,.ptr 0 0),(8,i6 v.2.1),(9,i6 v.2.2.1),(10,i6 v.2.2.2.1),(11,i6 v.2.2.2.2.1)],[.cells [i6 v.2.2.2.2.2.1,i6 v.2.2.2.2.2.2]]⟩
def q1cw (C:q1c9) (v:q1cq):Dt q1cu:=(Dt.ret (v.1,v.2.1,v.2.2.1,v.2.2.2.1,(IntKind.wrap .i64 (shrI .u64 (IntKind.wrap .u64 (IntKind.wrap .i64 (v.2.2.1+v.2.2.2.1))) (1:Int))),v.2.2.2.2.2.1,v.2.2.2.2.2.2))
theorem q1cx C v:q2k7 (regO (qdv f46) 4) false [(0,(.val Riii)),(2,.any),(4,.any),(8,.any),(9,.any),(10,.any),(11,.any)] q1cr q1cw q1cv C v:=rgI (by kernel_rfl)
abbrev q1cy:Type:=List Diii×Int×Int×Int×Int×Bool×Int×Int
def q1cz (v:q1cy):St:=⟨[(0,.fz Riii v.1),(2,.fn 47 []),(4,.ptr 0 0),(8,i6 v.2.1),(9,i6 v.2.2.1),(10,i6 v.2.2.2.1),(11,i6 v.2.2.2.2.1),(31,.bool v.2.2.2.2.2.1)],[.cells [i6 v.2.2.2.2.2.2.1,i6 v.2.2.2.2.2.2.2]]⟩
def q1d0 (C:q1c9) (v:q1cu):Dt q1cy:=(Dt.ite (inB v.2.2.2.2.1 (List.length v.1)) (Dt.bnd (C.1 (((elt ziii v.1 (v.2.2.2.2.1).toNat).1,(elt ziii v.1 (v.2.2.2.2.1).toNat).2.1,(elt ziii v.1 (v.2.2.2.2.1).toNat).2.2.1,()),(v.2.2.2.2.2.1,v.2.2.2.2.2.2,()),())) fun r1=>(Dt.ret (v.1,v.2.1,v.2.2.1,v.2.2.2.1,v.2.2.2.2.1,(decide (r1<(0:Int))),v.2.2.2.2.2.1,v.2.2.2.2.2.2))) Dt.fail)
theorem q1d1 C v:q2k7 (regO (qdv f46) 5) true [(0,(.val Riii)),(2,.any),(4,.any),(8,.any),(9,.any),(10,.any),(11,.any),(31,.any)] q1cv q1d0 q1cz C v:=rgI (by kernel_rfl)
def q1d2 (C:q1c9) (v:q1cy):Dt q1cm:=(Dt.ret (v.1,v.2.1,(IntKind.wrap .i64 (v.2.2.2.2.1+(1:Int))),v.2.2.2.1,v.2.2.2.2.2.2.1,v.2.2.2.2.2.2.2))
theorem q1d3 C v:q2k7 (regO (qdv f46) 6) false [(0,(.val Riii)),(2,.any),(4,.any),(8,.any),(9,.any),(10,.any)] q1cz q1d2 q1cn C v:=rgI (by kernel_rfl)
def q1d4 (C:q1c9) (v:q1cy):Dt q1cm:=(Dt.ret (v.1,v.2.1,v.2.2.1,v.2.2.2.2.1,v.2.2.2.2.2.2.1,v.2.2.2.2.2.2.2))
theorem q1d5 C v:q2k7 (regO (qdv f46) 7) false [(0,(.val Riii)),(2,.any),(4,.any),(8,.any),(9,.any),(10,.any)] q1cz q1d4 q1cn C v:=rgI (by kernel_rfl)
abbrev q1d6:Type:=Int×Bool
def q1d7 (v:q1d6):St:=⟨[(6,i6 v.1),(7,.bool v.2)],[]⟩
def q1d8 (C:q1c9) (v:q1cq):Dt q1d6:=(Dt.ite (decide (v.2.2.1<v.2.1)) (Dt.ite (inB v.2.2.1 (List.length v.1)) (Dt.bnd (C.1 (((elt ziii v.1 (v.2.2.1).toNat).1,(elt ziii v.1 (v.2.2.1).toNat).2.1,(elt ziii v.1 (v.2.2.1).toNat).2.2.1,()),(v.2.2.2.2.2.1,v.2.2.2.2.2.2,()),())) fun r1=>(Dt.ret (v.2.2.1,(r1 == (0:Int))))) Dt.fail) (Dt.ret (v.2.2.1,false)))
theorem q1d9 C v:q2k7 (regO (qdv f46) 8) true (an [6,7]) q1cr q1d8 q1d7 C v:=rgI (by kernel_rfl)
def q1da (d:Nat) (self1:(List Diii×Int×Int×Int×Int×Int)→Option q1c6) (x1:List Diii×Int×Int×Int×Int×Int):Option q1c6 :=
 (q1cs (q1ca d) x1).eval fun y3 =>
 bif y3.2.2.2.2.1 then ((q1cw (q1ca d) y3).eval fun y4 =>
 (q1d0 (q1ca d) y4).eval fun y5 =>
 bif y5.2.2.2.2.2.1 then ((q1d2 (q1ca d) y5).eval fun y6 =>
 self1 y6) else ((q1d4 (q1ca d) y5).eval fun y7 =>
 self1 y7)) else ((q1d8 (q1ca d) y3).eval fun y8 =>
 some y8)
def q1db (d:Nat) (x:q1c5):Option q1c6 :=
 (q1cg (q1ca d) (x.1.1,x.2.1.1,x.2.1.2.1)).eval fun y0 =>
 (q1ck (q1ca d) y0).eval fun y1 =>
 (q1co (q1ca d) y1).eval fun y2 =>
 iter (q1da d ) d y2
theorem q1dc (d:Nat):COK prog (q1c8 (q1db d)):=by
 have hm:prog.follows .mixedOrders=true:=mixed
 have hT:=tys
 have hC0:OrcOK prog (orc (q1cb (q1ca d))):=qdp (by
  intro S hS
  simp only [q1cb,List.mem_cons,List.not_mem_nil,or_false] at hS
  subst hS;exact q1c3 d)
 have hC:OrcOK prog (orc (q1cb (q1ca d))):=hC0
 refine q9e (c:=qdv f46) (fn:=f46) hT (by kernel_rfl) (by kernel_rfl) (by decide) fun x r h w0 φ0 Q hend=>?_
 replace h:q1db d x=some r:=h
 unfold q1db at h
 show Run prog w0 φ0 49 (qdv f46) ⟨[(0,.fz Riii x.1.1),(1,.agg [.int .i64 x.2.1.1,.int .i64 x.2.1.2.1]),(2,.fn 47 [])],[]⟩ Q
 refine q2jr hm hT hC (q1ch (q1ca d) (x.1.1,x.2.1.1,x.2.1.2.1)) h fun y0 h=>?_
 refine q2jr hm hT hC (q1cl (q1ca d) y0) h fun y1 h=>?_
 refine q2jr hm hT hC (q1cp (q1ca d) y1) h fun y2 h=>?_
 refine q8x (q8y ?_)
 refine q93 (G:=iter (q1da d )) (S:=(fun x1=>⟨[(0,.fz Riii x1.1),(2,.fn 47 []),(4,.ptr 0 0),(8,i6 x1.2.1),(9,i6 x1.2.2.1),(10,i6 x1.2.2.2.1)],[.cells [i6 x1.2.2.2.2.1,i6 x1.2.2.2.2.2]]⟩:List Diii×Int×Int×Int×Int×Int→St)) (fun _=>rfl) ?_ d _ h
 intro n1 x1 h K1 hn1
 replace h:q1da d  (iter (q1da d ) n1) x1=some r:=h
 generalize iter (q1da d ) n1=self1 at h hn1
 unfold q1da at h
 refine q8x ?_
 refine q2jr hm hT hC (q1ct (q1ca d) x1) h fun y3 h=>?_
 refine q91 (v:=y3.2.2.2.2.1) (by kernel_rfl) h ?_ ?_
 ·
  intro h
  refine q8t (q8j (q8y ?_))
  refine q2jr hm hT hC (q1cx (q1ca d) y3) h fun y4 h=>?_
  refine q2jr hm hT hC (q1d1 (q1ca d) y4) h fun y5 h=>?_
  refine q91 (v:=y5.2.2.2.2.2.1) (by kernel_rfl) h ?_ ?_
  ·
   intro h
   refine q92 hm hT hC (q1d3 (q1ca d) y5) h ?_
   intro y6 h
   refine q8m ?_
   exact hn1 _ h
  ·
   intro h
   refine q92 hm hT hC (q1d5 (q1ca d) y5) h ?_
   intro y7 h
   refine q8m ?_
   exact hn1 _ h
 ·
  intro h
  refine q8v (q8k (q8k (q8o (q8j ?_))))
  refine q2jr hm hT hC (q1d9 (q1ca d) y3) h fun y8 h=>?_
  refine q8w ?_
  cases h
  exact (hend _ (by kernel_rfl)).2
abbrev q1dd:List Pk:=[.row qka false,.row Rii true]
abbrev q1de:Type:=qkb×Dii×Unit
abbrev q1df:Type:=Int
def q1dg (r:q1df):LV×List Ob:=(.int .i64 r,[])
def q1dh (F:q1de→Option q1df):Go.Tx.Spec:=⟨27,q1dd,q1df,F,q1dg⟩
abbrev q1di:Type:=(q1c5→Option q1c6)×Unit
def q1dj (d:Nat):q1di:=(q1db d,())
def q1dk (C:q1di):List Go.Tx.Spec:=[q1c8 C.1]
abbrev q1dl:Type:=List Diii×Int×Int
def q1dm (v:q1dl):St:=⟨[(0,.fz Riii v.1),(1,.agg [i6 v.2.1,i6 v.2.2])],[]⟩
abbrev q1dn:Type:=List Diii×Int×Int
def q1do (v:q1dn):St:=⟨[(0,.fz Riii v.1),(3,.ptr 0 0)],[.cells [i6 v.2.1,i6 v.2.2]]⟩
def q1dp (C:q1di) (v:q1dl):Dt q1dn:=(Dt.ret (v.1,v.2.1,v.2.2))
abbrev q2k8 {V Y:Type}:=@rg q1di V Y tysT (fun C=>(orc (q1dk C))) 18
theorem q1dq C v:q2k8 (regO (qdv f27) 0) false [(0,(.val Riii)),(3,.any)] q1dm q1dp q1do C v:=rgI (by kernel_rfl)
abbrev q1dr:Type:=Int×Bool
def q1ds (v:q1dr):St:=⟨[(5,i6 v.1),(6,.bool v.2)],[]⟩
def q1dt (C:q1di) (v:q1dn):Dt q1dr:=(Dt.bnd (C.1 ((v.1,()),(v.2.1,v.2.2,()),(()),())) fun r1=>(Dt.ret (r1.1,r1.2)))
theorem q1du C v:q2k8 (regO (qdv f27) 1) false (an [5,6]) q1do q1dt q1ds C v:=rgI (by kernel_rfl)
abbrev q1dv:Type:=Int×Bool
def q1dw (v:q1dv):St:=⟨[(5,i6 v.1),(14,.bool v.2)],[]⟩
def q1dx (C:q1di) (v:q1dr):Dt q1dv:=(Dt.ret (v.1,(!v.2)))
theorem q1dy C v:q2k8 (regO (qdv f27) 2) false (an [5,14]) q1ds q1dx q1dw C v:=rgI (by kernel_rfl)
abbrev q1dz:Type:=Int
def q1e0 (v:q1dz):St:=⟨[(5,i6 v)],[]⟩
def q1e1 (C:q1di) (v:q1dv):Dt q1dz:=(Dt.ret (IntKind.wrap .i64 (v.1 - (1:Int))))
theorem q1e2 C v:q2k8 (regO (qdv f27) 3) false [(5,.any)] q1dw q1e1 q1e0 C v:=rgI (by kernel_rfl)
abbrev q1e3:Type:=Int
def q1e4 (v:q1e3):St:=⟨[(4,i6 v)],[]⟩
def q1e5 (C:q1di) (v:q1dz):Dt q1e3:=(Dt.ret v)
theorem q1e6 C v:q2k8 (regO (qdv f27) 4) false [(4,.any)] q1e0 q1e5 q1e4 C v:=rgI (by kernel_rfl)
def q1e7  (d:Nat)  (z:Int):Option (q1df) :=
 (q1e5 (q1dj d) z).eval fun y4 =>
 some y4
def q1e8 (d:Nat) (x:q1de):Option q1df :=
 (q1dp (q1dj d) (x.1.1,x.2.1.1,x.2.1.2.1)).eval fun y0 =>
 (q1dt (q1dj d) y0).eval fun y1 =>
 (q1dx (q1dj d) y1).eval fun y2 =>
 bif y2.2 then ((q1e1 (q1dj d) y2).eval fun y3 =>
 q1e7 d  y3) else (q1e7 d  y2.1)
theorem q1e9 (d:Nat):COK prog (q1dh (q1e8 d)):=by
 have hm:prog.follows .mixedOrders=true:=mixed
 have hT:=tys
 have hC0:OrcOK prog (orc (q1dk (q1dj d))):=qdp (by
  intro S hS
  simp only [q1dk,List.mem_cons,List.not_mem_nil,or_false] at hS
  subst hS;exact q1dc d)
 have hC:OrcOK prog (orc (q1dk (q1dj d))):=hC0
 refine q9e (c:=qdv f27) (fn:=f27) hT (by kernel_rfl) (by kernel_rfl) (by decide) fun x r h w0 φ0 Q hend=>?_
 replace h:q1e8 d x=some r:=h
 unfold q1e8 at h
 show Run prog w0 φ0 18 (qdv f27) ⟨[(0,.fz Riii x.1.1),(1,.agg [.int .i64 x.2.1.1,.int .i64 x.2.1.2.1])],[]⟩ Q
 refine q2jr hm hT hC (q1dq (q1dj d) (x.1.1,x.2.1.1,x.2.1.2.1)) h fun y0 h=>?_
 refine q2jr hm hT hC (q1du (q1dj d) y0) h fun y1 h=>?_
 refine q90 (r:=r) (F:=q1e7 d ) (S:=(fun z=>⟨[(5,i6 z)],[]⟩:Int→St)) ?_ ?_
 ·
  intro z h
  unfold q1e7 at h
  refine q2jr hm hT hC (q1e6 (q1dj d) z) h fun y4 h=>?_
  refine q8w ?_
  cases h
  exact (hend _ (by kernel_rfl)).2
 intro hj1
 refine q2jr hm hT hC (q1dy (q1dj d) y1) h fun y2 h=>?_
 refine q91 (v:=y2.2) (by kernel_rfl) h ?_ ?_
 ·
  intro h
  refine q92 hm hT hC (q1e2 (q1dj d) y2) h ?_
  intro y3 h
  exact hj1 _ h
 ·
  intro h
  refine q8t ?_
  refine qdu (s:=⟨[(5,.int .i64 y2.1)],[]⟩) [14] (by kernel_rfl) ?_
  exact hj1 _ h
abbrev q1ea:List Pk:=[.row qka false,.row Rii true]
abbrev q1eb:Type:=qkb×Dii×Unit
abbrev q1ec:Type:=Int×Int
def q1ed (r:q1ec):LV×List Ob:=(.tup [.int .i64 r.1,.int .i64 r.2],[])
def q1ee (F:q1eb→Option q1ec):Go.Tx.Spec:=⟨18,q1ea,q1ec,F,q1ed⟩
abbrev q1ef:Type:=(q1a6→Option q1a7)×(q1de→Option q1df)×(qnp→Option qnq)×Unit
def q1eg (d:Nat):q1ef:=(q1bi d,q1e8 d,qnu d,())
def q1eh (C:q1ef):List Go.Tx.Spec:=[q1a9 C.1,q1dh C.2.1,qns C.2.2.1]
abbrev q1ei:Type:=List Diii×Int×Int
def q1ej (v:q1ei):St:=⟨[(0,.fz Riii v.1),(1,.agg [i6 v.2.1,i6 v.2.2])],[]⟩
abbrev q1ek:Type:=List Diii×Int×Int
def q1el (v:q1ek):St:=⟨[(0,.fz Riii v.1),(3,.ptr 0 0)],[.cells [i6 v.2.1,i6 v.2.2]]⟩
def q1em (C:q1ef) (v:q1ei):Dt q1ek:=(Dt.ret (v.1,v.2.1,v.2.2))
abbrev q2k9 {V Y:Type}:=@rg q1ef V Y tysT (fun C=>(orc (q1eh C))) 26
theorem q1en C v:q2k9 (regO (qdv f18) 0) false [(0,(.val Riii)),(3,.any)] q1ej q1em q1el C v:=rgI (by kernel_rfl)
abbrev q1eo:Type:=List Diii×Int×Int×Int
def q1ep (v:q1eo):St:=⟨[(0,.fz Riii v.1),(3,.ptr 0 0),(6,i6 v.2.1)],[.cells [i6 v.2.2.1,i6 v.2.2.2]]⟩
def q1eq (C:q1ef) (v:q1ek):Dt q1eo:=(Dt.bnd (C.1 ((v.1,()),())) fun r1=>(Dt.bnd (C.2.2.1 ((v.2.1,v.2.2,()),())) fun r2=>(Dt.ret (v.1,(tmax r1 r2),v.2.1,v.2.2))))
theorem q1er C v:q2k9 (regO (qdv f18) 1) true [(0,(.val Riii)),(3,.any),(6,.any)] q1el q1eq q1ep C v:=rgI (by kernel_rfl)
abbrev q1es:Type:=List Diii×Int×Bool×Int×Int
def q1et (v:q1es):St:=⟨[(0,.fz Riii v.1),(3,.ptr 0 0),(6,i6 v.2.1),(14,.bool v.2.2.1)],[.cells [i6 v.2.2.2.1,i6 v.2.2.2.2]]⟩
def q1eu (C:q1ef) (v:q1eo):Dt q1es:=(Dt.ret (v.1,v.2.1,(v.2.1 != (0:Int)),v.2.2.1,v.2.2.2))
theorem q1ev C v:q2k9 (regO (qdv f18) 2) false [(0,(.val Riii)),(3,.any),(6,.any),(14,.any)] q1ep q1eu q1et C v:=rgI (by kernel_rfl)
abbrev q1ew:Type:=Int×Int
def q1ex (v:q1ew):St:=⟨[(4,i6 v.1),(5,i6 v.2)],[]⟩
def q1ey (C:q1ef) (v:q1es):Dt q1ew:=(Dt.ret ((0:Int),v.2.1))
theorem q1ez C v:q2k9 (regO (qdv f18) 3) false (an [4,5]) q1et q1ey q1ex C v:=rgI (by kernel_rfl)
abbrev q1f0:Type:=List Diii×Int
def q1f1 (v:q1f0):St:=⟨[(0,.fz Riii v.1),(7,i6 v.2)],[]⟩
def q1f2 (C:q1ef) (v:q1es):Dt q1f0:=(Dt.bnd (C.2.1 ((v.1,()),(v.2.2.2.1,v.2.2.2.2,()),())) fun r1=>(Dt.ret (v.1,r1)))
theorem q1f3 C v:q2k9 (regO (qdv f18) 4) false [(0,(.val Riii)),(7,.any)] q1et q1f2 q1f1 C v:=rgI (by kernel_rfl)
abbrev q1f4:Type:=List Diii×Int×Bool
def q1f5 (v:q1f4):St:=⟨[(0,.fz Riii v.1),(7,i6 v.2.1),(20,.bool v.2.2)],[]⟩
def q1f6 (C:q1ef) (v:q1f0):Dt q1f4:=(Dt.ret (v.1,v.2,(decide (v.2<(0:Int)))))
theorem q1f7 C v:q2k9 (regO (qdv f18) 5) false [(0,(.val Riii)),(7,.any),(20,.any)] q1f1 q1f6 q1f5 C v:=rgI (by kernel_rfl)
def q1f8 (C:q1ef) (v:q1f4):Dt q1ew:=(Dt.ret ((0:Int),(44:Int)))
theorem q1f9 C v:q2k9 (regO (qdv f18) 6) false (an [4,5]) q1f5 q1f8 q1ex C v:=rgI (by kernel_rfl)
def q1fa (C:q1ef) (v:q1f4):Dt q1ew:=(Dt.ite (inB v.2.1 (List.length v.1)) (Dt.ret ((elt ziii v.1 (v.2.1).toNat).2.2.1,(0:Int))) Dt.fail)
theorem q1fb C v:q2k9 (regO (qdv f18) 7) false (an [4,5]) q1f5 q1fa q1ex C v:=rgI (by kernel_rfl)
def q1fc (d:Nat) (x:q1eb):Option q1ec :=
 (q1em (q1eg d) (x.1.1,x.2.1.1,x.2.1.2.1)).eval fun y0 =>
 (q1eq (q1eg d) y0).eval fun y1 =>
 (q1eu (q1eg d) y1).eval fun y2 =>
 bif y2.2.2.1 then ((q1ey (q1eg d) y2).eval fun y3 =>
 some y3) else ((q1f2 (q1eg d) y2).eval fun y4 =>
 (q1f6 (q1eg d) y4).eval fun y5 =>
 bif y5.2.2 then ((q1f8 (q1eg d) y5).eval fun y6 =>
 some y6) else ((q1fa (q1eg d) y5).eval fun y7 =>
 some y7))
theorem q1fd (d:Nat):COK prog (q1ee (q1fc d)):=by
 have hm:prog.follows .mixedOrders=true:=mixed
 have hT:=tys
 have hC0:OrcOK prog (orc (q1eh (q1eg d))):=qdp (by
  intro S hS
  simp only [q1eh,List.mem_cons,List.not_mem_nil,or_false] at hS
  rcases hS with rfl | rfl | rfl
  · exact q1bj d
  · exact q1e9 d
  · exact qnw d)
 have hC:OrcOK prog (orc (q1eh (q1eg d))):=hC0
 refine q9e (c:=qdv f18) (fn:=f18) hT (by kernel_rfl) (by kernel_rfl) (by decide) fun x r h w0 φ0 Q hend=>?_
 replace h:q1fc d x=some r:=h
 unfold q1fc at h
 show Run prog w0 φ0 26 (qdv f18) ⟨[(0,.fz Riii x.1.1),(1,.agg [.int .i64 x.2.1.1,.int .i64 x.2.1.2.1])],[]⟩ Q
 refine q2jr hm hT hC (q1en (q1eg d) (x.1.1,x.2.1.1,x.2.1.2.1)) h fun y0 h=>?_
 refine q8x ?_
 refine q2jr hm hT hC (q1er (q1eg d) y0) h fun y1 h=>?_
 refine q2jr hm hT hC (q1ev (q1eg d) y1) h fun y2 h=>?_
 refine q91 (v:=y2.2.2.1) (by kernel_rfl) h ?_ ?_
 ·
  intro h
  refine q2jr hm hT hC (q1ez (q1eg d) y2) h fun y3 h=>?_
  refine q8w (q8l ?_)
  cases h
  exact (hend _ (by kernel_rfl)).2
 ·
  intro h
  refine q8t (q8j ?_)
  refine q2jr hm hT hC (q1f3 (q1eg d) y2) h fun y4 h=>?_
  refine q8x ?_
  refine q2jr hm hT hC (q1f7 (q1eg d) y4) h fun y5 h=>?_
  refine q91 (v:=y5.2.2) (by kernel_rfl) h ?_ ?_
  ·
   intro h
   refine q2jr hm hT hC (q1f9 (q1eg d) y5) h fun y6 h=>?_
   refine q8w (q8l ?_)
   cases h
   exact (hend _ (by kernel_rfl)).2
  ·
   intro h
   refine q8t (q8j ?_)
   refine q2jr hm hT hC (q1fb (q1eg d) y5) h fun y7 h=>?_
   refine q8w ?_
   cases h
   exact (hend _ (by kernel_rfl)).2
abbrev q1fe:List Pk:=[]
abbrev q1ff:List Pk:=[]
abbrev q1fg:Type:=(Unit)×(Unit)×List Dii
abbrev q1fh:Type:=List Dii
def q1fi (F:q1fg→Option q1fh):CSpec:=⟨25,q1fe,q1ff,Rii,fun a b c=>F (a,b,c)⟩
abbrev q1fj:Type:=Unit
def q1fk (_d:Nat):q1fj:=()
def q1fl (C:q1fj):List Go.Tx.Spec:=[]
abbrev q1fm:Type:=List Dii
def q1fn (v:q1fm):St:=⟨[(0,.rs 0)],[.rows Rii v]⟩
def q1fo (C:q1fj) (v:q1fm):Dt q1fm:=(Dt.ret v)
theorem q1fp (C:q1fj) (v:q1fm):treg (litT 56 tysT) (orc (q1fl C)) 61 (regO (qdv f25) 0) false [(0,(.own Rii))] (q1fn v) some=(q1fo C v).eval fun y=>some (q1fn y):=by kernel_rfl
abbrev q1fq:Type:=Bool×List Dii
def q1fr (v:q1fq):St:=⟨[(0,.rs 0),(8,.bool v.1)],[.rows Rii v.2]⟩
def q1fs (C:q1fj) (v:q1fm):Dt q1fq:=(Dt.ret ((decide ((List.length v:Int)<(2:Int))),v))
theorem q1ft (C:q1fj) (v:q1fm):treg (litT 56 tysT) (orc (q1fl C)) 61 (regO (qdv f25) 1) false [(0,(.own Rii)),(8,.any)] (q1fn v) some=(q1fs C v).eval fun y=>some (q1fr y):=by kernel_rfl
abbrev q1fu:Type:=List Dii
def q1fv (v:q1fu):St:=⟨[(2,.rs 0)],[.rows Rii v]⟩
def q1fw (C:q1fj) (v:q1fq):Dt q1fu:=(Dt.ret v.2)
theorem q1fx (C:q1fj) (v:q1fq):treg (litT 56 tysT) (orc (q1fl C)) 61 (regO (qdv f25) 2) false [(2,(.own Rii))] (q1fr v) some=(q1fw C v).eval fun y=>some (q1fv y):=by kernel_rfl
abbrev q1fy:Type:=Int×List Dii
def q1fz (v:q1fy):St:=⟨[(0,.rs 0),(3,i6 v.1)],[.rows Rii v.2]⟩
def q1g0 (C:q1fj) (v:q1fq):Dt q1fy:=(Dt.ret ((1:Int),v.2))
theorem q1g1 (C:q1fj) (v:q1fq):treg (litT 56 tysT) (orc (q1fl C)) 61 (regO (qdv f25) 3) false [(0,(.own Rii)),(3,.any)] (q1fr v) some=(q1g0 C v).eval fun y=>some (q1fz y):=by kernel_rfl
abbrev q1g2:Type:=Int×Bool×List Dii
def q1g3 (v:q1g2):St:=⟨[(0,.rs 0),(3,i6 v.1),(13,.bool v.2.1)],[.rows Rii v.2.2]⟩
def q1g4 (C:q1fj) (v:q1fy):Dt q1g2:=(Dt.ret (v.1,(decide (v.1<(List.length v.2:Int))),v.2))
theorem q1g5 (C:q1fj) (v:q1fy):treg (litT 56 tysT) (orc (q1fl C)) 61 (regO (qdv f25) 4) false [(0,(.own Rii)),(3,.any),(13,.any)] (q1fz v) some=(q1g4 C v).eval fun y=>some (q1g3 y):=by kernel_rfl
abbrev q1g6:Type:=Int×Bool×List Dii
def q1g7 (v:q1g6):St:=⟨[(0,.rs 0),(3,i6 v.1),(25,.bool v.2.1)],[.rows Rii v.2.2]⟩
def q1g8 (C:q1fj) (v:q1g2):Dt q1g6:=(Dt.ite (inB v.1 (List.length v.2.2)) (Dt.ite (inB (IntKind.wrap .i64 (v.1 - (1:Int))) (List.length v.2.2)) (Dt.ret (v.1,(((elt zii v.2.2 (v.1).toNat).1 == (elt zii v.2.2 ((IntKind.wrap .i64 (v.1 - (1:Int)))).toNat).1)&&(((elt zii v.2.2 (v.1).toNat).2.1 == (elt zii v.2.2 ((IntKind.wrap .i64 (v.1 - (1:Int)))).toNat).2.1)&&true)),v.2.2)) Dt.fail) Dt.fail)
theorem q1g9 (C:q1fj) (v:q1g2):treg (litT 56 tysT) (orc (q1fl C)) 61 (regO (qdv f25) 6) true [(0,(.own Rii)),(3,.any),(25,.any)] (q1g3 v) some=(q1g8 C v).eval fun y=>some (q1g7 y):=by kernel_rfl
abbrev q1ga:Type:=Int×List Dii×Nat
def q1gb (v:q1ga):St:=⟨[(0,.rs 0),(3,i6 v.1),(4,.rs 1)],[.rows Rii v.2.1,.view 0 v.2.2 2]⟩
def q1gc (C:q1fj) (v:q1g6):Dt q1ga:=(Dt.ite (decide (0≤v.1)&&decide (v.1<(List.length v.2.2:Int))) (Dt.ret (v.1,v.2.2,(v.1).toNat)) Dt.fail)
theorem q1gd (C:q1fj) (v:q1g6):treg (litT 56 tysT) (orc (q1fl C)) 61 (regO (qdv f25) 7) false [(0,(.own Rii)),(3,.any),(4,.any)] (q1g7 v) some=(q1gc C v).eval fun y=>some (q1gb y):=by kernel_rfl
abbrev q1ge:Type:=Int×Int×List Dii×Nat
def q1gf (v:q1ge):St:=⟨[(0,.rs 0),(3,i6 v.1),(4,.rs 1),(5,i6 v.2.1)],[.rows Rii v.2.2.1,.view 0 v.2.2.2 2]⟩
def q1gg (C:q1fj) (v:q1ga):Dt q1ge:=(Dt.ret (v.1,(1:Int),v.2.1,v.2.2))
theorem q1gh (C:q1fj) (v:q1ga):treg (litT 56 tysT) (orc (q1fl C)) 61 (regO (qdv f25) 8) false [(0,(.own Rii)),(3,.any),(4,.any),(5,.any)] (q1gb v) some=(q1gg C v).eval fun y=>some (q1gf y):=by kernel_rfl
abbrev q1gi:Type:=Int×Int×Bool×List Dii×Nat
def q1gj (v:q1gi):St:=⟨[(0,.rs 0),(3,i6 v.1),(4,.rs 1),(5,i6 v.2.1),(32,.bool v.2.2.1)],[.rows Rii v.2.2.2.1,.view 0 v.2.2.2.2 2]⟩
def q1gk (C:q1fj) (v:q1ge):Dt q1gi:=(Dt.ret (v.1,v.2.1,(decide (v.2.1<((List.length v.2.2.1 - v.2.2.2:Nat):Int))),v.2.2.1,v.2.2.2))
theorem q1gl (C:q1fj) (v:q1ge):treg (litT 56 tysT) (orc (q1fl C)) 61 (regO (qdv f25) 9) false [(0,(.own Rii)),(3,.any),(4,.any),(5,.any),(32,.any)] (q1gf v) some=(q1gk C v).eval fun y=>some (q1gj y):=by kernel_rfl
abbrev q1gm:Type:=Int×Int×Bool×List Dii×Nat
def q1gn (v:q1gm):St:=⟨[(0,.rs 0),(3,i6 v.1),(4,.rs 1),(5,i6 v.2.1),(44,.bool v.2.2.1)],[.rows Rii v.2.2.2.1,.view 0 v.2.2.2.2 2]⟩
def q1go (C:q1fj) (v:q1gi):Dt q1gm:=(Dt.ite (inB v.2.1 ((List.length v.2.2.2.1) - v.2.2.2.2)) (Dt.ite (inB (IntKind.wrap .i64 (v.2.1 - (1:Int))) ((List.length v.2.2.2.1) - v.2.2.2.2)) (Dt.ret (v.1,v.2.1,(!(((elt zii v.2.2.2.1 (v.2.2.2.2+(v.2.1).toNat)).1 == (elt zii v.2.2.2.1 (v.2.2.2.2+((IntKind.wrap .i64 (v.2.1 - (1:Int)))).toNat)).1)&&(((elt zii v.2.2.2.1 (v.2.2.2.2+(v.2.1).toNat)).2.1 == (elt zii v.2.2.2.1 (v.2.2.2.2+((IntKind.wrap .i64 (v.2.1 - (1:Int)))).toNat)).2.1)&&true))),v.2.2.2.1,v.2.2.2.2)) Dt.fail) Dt.fail)
theorem q1gp (C:q1fj) (v:q1gi):treg (litT 56 tysT) (orc (q1fl C)) 61 (regO (qdv f25) 11) true [(0,(.own Rii)),(3,.any),(4,.any),(5,.any),(44,.any)] (q1gj v) some=(q1go C v).eval fun y=>some (q1gn y):=by kernel_rfl
def q1gq (C:q1fj) (v:q1gm):Dt q1ge:=(Dt.ite (inB v.2.1 ((List.length v.2.2.2.1) - v.2.2.2.2)) (Dt.ite (inB v.1 (List.length v.2.2.2.1)) (Dt.ret (v.1,v.2.1,(List.set v.2.2.2.1 (v.1).toNat ((elt zii v.2.2.2.1 (v.2.2.2.2+(v.2.1).toNat)).1,(elt zii v.2.2.2.1 (v.2.2.2.2+(v.2.1).toNat)).2.1,())),v.2.2.2.2)) Dt.fail) Dt.fail)
theorem q1gr (C:q1fj) (v:q1gm):treg (litT 56 tysT) (orc (q1fl C)) 61 (regO (qdv f25) 12) false [(0,(.own Rii)),(3,.any),(4,.any),(5,.any)] (q1gn v) some=(q1gq C v).eval fun y=>some (q1gf y):=by kernel_rfl
def q1gs (C:q1fj) (v:q1ge):Dt q1ge:=(Dt.ret ((IntKind.wrap .i64 (v.1+(1:Int))),v.2.1,v.2.2.1,v.2.2.2))
theorem q1gt (C:q1fj) (v:q1ge):treg (litT 56 tysT) (orc (q1fl C)) 61 (regO (qdv f25) 13) false [(0,(.own Rii)),(3,.any),(4,.any),(5,.any)] (q1gf v) some=(q1gs C v).eval fun y=>some (q1gf y):=by kernel_rfl
def q1gu (C:q1fj) (v:q1ge):Dt q1ge:=(Dt.ret (v.1,(IntKind.wrap .i64 (v.2.1+(1:Int))),v.2.2.1,v.2.2.2))
theorem q1gv (C:q1fj) (v:q1ge):treg (litT 56 tysT) (orc (q1fl C)) 61 (regO (qdv f25) 10) false [(0,(.own Rii)),(3,.any),(4,.any),(5,.any)] (q1gf v) some=(q1gu C v).eval fun y=>some (q1gf y):=by kernel_rfl
def q1gw  (d:Nat) (self1:(Int×List Dii)→Option q1fh) (self2:(Int×Int×List Dii×Nat)→Option q1fh) (z:Int×Int×List Dii×Nat):Option (q1fh) :=
 (q1gu (q1fk d) z).eval fun y10 =>
 self2 y10
def q1gx (C:q1fj) (v:q1gi):Dt q1fy:=(Dt.ite (decide (0≤v.1)&&decide (v.1<(List.length v.2.2.2.1:Int))) (Dt.ite (Nat.ble (v.1).toNat (List.length v.2.2.2.1)) (Dt.ret (v.1,(List.take (v.1).toNat v.2.2.2.1++List.replicate (List.length v.2.2.2.1 - (v.1).toNat) zii))) Dt.fail) Dt.fail)
theorem q1gy (C:q1fj) (v:q1gi):treg (litT 56 tysT) (orc (q1fl C)) 61 (regO (qdv f25) 14) false [(0,(.own Rii)),(3,.any)] (q1gj v) some=(q1gx C v).eval fun y=>some (q1fz y):=by kernel_rfl
def q1gz (C:q1fj) (v:q1fy):Dt q1fu:=(Dt.ite (decide (0≤v.1)&&decide (v.1≤(List.length v.2:Int))) (Dt.ret (List.take (v.1).toNat v.2)) Dt.fail)
theorem q1h0 (C:q1fj) (v:q1fy):treg (litT 56 tysT) (orc (q1fl C)) 61 (regO (qdv f25) 15) false [(2,(.own Rii))] (q1fz v) some=(q1gz C v).eval fun y=>some (q1fv y):=by kernel_rfl
def q1h1 (d:Nat) (self1:(Int×List Dii)→Option q1fh) (self2:(Int×Int×List Dii×Nat)→Option q1fh) (x2:Int×Int×List Dii×Nat):Option q1fh :=
 (q1gk (q1fk d) x2).eval fun y9 =>
 bif y9.2.2.1 then ((q1go (q1fk d) y9).eval fun y11 =>
 bif y11.2.2.1 then ((q1gq (q1fk d) y11).eval fun y12 =>
 (q1gs (q1fk d) y12).eval fun y13 =>
 q1gw d self1 self2 y13) else (q1gw d self1 self2 (y11.1,y11.2.1,y11.2.2.2.1,y11.2.2.2.2))) else ((q1gx (q1fk d) y9).eval fun y14 =>
 (q1gz (q1fk d) y14).eval fun y15 =>
 some y15)
def q1h2 (C:q1fj) (v:q1g6):Dt q1fy:=(Dt.ret ((IntKind.wrap .i64 (v.1+(1:Int))),v.2.2))
theorem q1h3 (C:q1fj) (v:q1g6):treg (litT 56 tysT) (orc (q1fl C)) 61 (regO (qdv f25) 5) false [(0,(.own Rii)),(3,.any)] (q1g7 v) some=(q1h2 C v).eval fun y=>some (q1fz y):=by kernel_rfl
def q1h4 (C:q1fj) (v:q1g2):Dt q1fu:=(Dt.ret v.2.2)
theorem q1h5 (C:q1fj) (v:q1g2):treg (litT 56 tysT) (orc (q1fl C)) 61 (regO (qdv f25) 16) false [(2,(.own Rii))] (q1g3 v) some=(q1h4 C v).eval fun y=>some (q1fv y):=by kernel_rfl
def q1h6 (d:Nat) (self1:(Int×List Dii)→Option q1fh) (x1:Int×List Dii):Option q1fh :=
 (q1g4 (q1fk d) x1).eval fun y4 =>
 bif y4.2.1 then ((q1g8 (q1fk d) y4).eval fun y6 =>
 bif y6.2.1 then ((q1gc (q1fk d) y6).eval fun y7 =>
 (q1gg (q1fk d) y7).eval fun y8 =>
 iter (q1h1 d self1) d y8) else ((q1h2 (q1fk d) y6).eval fun y5 =>
 self1 y5)) else ((q1h4 (q1fk d) y4).eval fun y16 =>
 some y16)
def q1h7 (d:Nat) (x:q1fg):Option q1fh :=
 (q1fo (q1fk d) x.2.2).eval fun y0 =>
 (q1fs (q1fk d) y0).eval fun y1 =>
 bif y1.1 then ((q1fw (q1fk d) y1).eval fun y2 =>
 some y2) else ((q1g0 (q1fk d) y1).eval fun y3 =>
 iter (q1h6 d ) d y3)
theorem q1h8 (d:Nat):COKC prog (q1fi (q1h7 d)):=by
 have hm:prog.follows .mixedOrders=true:=mixed
 have hT:=q1w tys 56
 have hC0:OrcOK prog (orc (q1fl (q1fk d))):=qdp (by
  intro S hS
  simp only [q1fl,List.mem_cons,List.not_mem_nil,or_false] at hS
  all_goals first | cases hS | exact hS.elim)
 have hC:OrcOK prog (orc (q1fl (q1fk d))):=hC0
 refine q167 (c:=qdv f25) (fn:=f25) hT (by kernel_rfl) (by kernel_rfl) (by decide) fun x r h w0 φ0 Q hend=>?_
 replace h:q1h7 d x=some r:=h
 unfold q1h7 at h
 show Run prog w0 φ0 61 (qdv f25) ⟨[(0,.rs 0)],[.rows Rii x.2.2]⟩ Q
 refine q2jr hm hT hC (q1fp (q1fk d) x.2.2) h fun y0 h=>?_
 refine q8x ?_
 refine q2jr hm hT hC (q1ft (q1fk d) y0) h fun y1 h=>?_
 refine q91 (v:=y1.1) (by kernel_rfl) h ?_ ?_
 ·
  intro h
  refine q2jr hm hT hC (q1fx (q1fk d) y1) h fun y2 h=>?_
  refine q8w (q8l ?_)
  cases h
  exact (hend _ (by kernel_rfl)).2
 ·
  intro h
  refine q8t (q8j (q8x ?_))
  refine q2jr hm hT hC (q1g1 (q1fk d) y1) h fun y3 h=>?_
  refine q8y ?_
  refine q93 (G:=iter (q1h6 d )) (S:=(fun x1=>⟨[(0,.rs 0),(3,i6 x1.1)],[.rows Rii x1.2]⟩:Int×List Dii→St)) (fun _=>rfl) ?_ d _ h
  intro n1 x1 h K1 hn1
  replace h:q1h6 d  (iter (q1h6 d ) n1) x1=some r:=h
  generalize iter (q1h6 d ) n1=self1 at h hn1
  unfold q1h6 at h
  refine q8x ?_
  refine q2jr hm hT hC (q1g5 (q1fk d) x1) h fun y4 h=>?_
  refine q91 (v:=y4.2.1) (by kernel_rfl) h ?_ ?_
  ·
   intro h
   refine q8t (q8j (q8x (q8y ?_)))
   refine q2jr hm hT hC (q1g9 (q1fk d) y4) h fun y6 h=>?_
   refine q91 (v:=y6.2.1) (by kernel_rfl) h ?_ ?_
   ·
    intro h
    refine q2jr hm hT hC (q1gd (q1fk d) y6) h fun y7 h=>?_
    refine q8x ?_
    refine q2jr hm hT hC (q1gh (q1fk d) y7) h fun y8 h=>?_
    refine q8y ?_
    refine q93 (G:=iter (q1h1 d self1)) (S:=(fun x2=>⟨[(0,.rs 0),(3,i6 x2.1),(4,.rs 1),(5,i6 x2.2.1)],[.rows Rii x2.2.2.1,.view 0 x2.2.2.2 2]⟩:Int×Int×List Dii×Nat→St)) (fun _=>rfl) ?_ d _ h
    intro n2 x2 h K2 hn2
    replace h:q1h1 d self1 (iter (q1h1 d self1) n2) x2=some r:=h
    generalize iter (q1h1 d self1) n2=self2 at h hn2
    unfold q1h1 at h
    refine q8x ?_
    refine q2jr hm hT hC (q1gl (q1fk d) x2) h fun y9 h=>?_
    refine q91 (v:=y9.2.2.1) (by kernel_rfl) h ?_ ?_
    ·
     intro h
     refine q8t (q8j ?_)
     refine q90 (r:=r) (F:=q1gw d self1 self2) (S:=(fun z=>⟨[(0,.rs 0),(3,i6 z.1),(4,.rs 1),(5,i6 z.2.1)],[.rows Rii z.2.2.1,.view 0 z.2.2.2 2]⟩:Int×Int×List Dii×Nat→St)) ?_ ?_
     ·
      intro z h
      unfold q1gw at h
      refine q92 hm hT hC (q1gv (q1fk d) z) h ?_
      intro y10 h
      exact hn2 _ h
     intro hj3
     refine q8y ?_
     refine q2jr hm hT hC (q1gp (q1fk d) y9) h fun y11 h=>?_
     refine q91 (v:=y11.2.2.1) (by kernel_rfl) h ?_ ?_
     ·
      intro h
      refine q2jr hm hT hC (q1gr (q1fk d) y11) h fun y12 h=>?_
      refine q92 hm hT hC (q1gt (q1fk d) y12) h ?_
      intro y13 h
      refine q8m ?_
      exact hj3 _ h
     ·
      intro h
      refine q8t (q8m ?_)
      refine qdu (s:=⟨[(0,.rs 0),(3,.int .i64 y11.1),(4,.rs 1),(5,.int .i64 y11.2.1)],[.rows Rii y11.2.2.2.1,.view 0 y11.2.2.2.2 2]⟩) [44] (by kernel_rfl) ?_
      exact hj3 _ h
    ·
     intro h
     refine q8v (q8k (q8k (q8o (q8j ?_))))
     refine q2jr hm hT hC (q1gy (q1fk d) y9) h fun y14 h=>?_
     refine q2jr hm hT hC (q1h0 (q1fk d) y14) h fun y15 h=>?_
     refine q8w (q8n (q8l (q8l (q8n (q8l ?_)))))
     cases h
     exact (hend _ (by kernel_rfl)).2
   ·
    intro h
    refine q8t (q8m (q8j ?_))
    refine q92 hm hT hC (q1h3 (q1fk d) y6) h ?_
    intro y5 h
    exact hn1 _ h
  ·
   intro h
   refine q8v (q8k (q8k (q8o (q8j ?_))))
   refine q2jr hm hT hC (q1h5 (q1fk d) y4) h fun y16 h=>?_
   refine q8w ?_
   cases h
   exact (hend _ (by kernel_rfl)).2
abbrev q1h9:List Pk:=[.nil,.row Ri false]
abbrev q1ha:Type:=Unit×Di×Unit
abbrev q1hb:Type:=List Diii
def q1hc (r:q1hb):LV×List Ob:=(.rs 0,[.rows Riii r])
def q1hd (F:q1ha→Option q1hb):Go.Tx.Spec:=⟨42,q1h9,q1hb,F,q1hc⟩
abbrev q1he:Type:=Unit
def q1hf (_d:Nat):q1he:=()
def q1hg (C:q1he):List Go.Tx.Spec:=[]
abbrev q1hh:Type:=Int
def q1hi (v:q1hh):St:=⟨[(0,.nils),(1,i6 v)],[]⟩
def q1hj (C:q1he) (v:q1hh):Dt q1hh:=(Dt.ret v)
theorem q1hk (C:q1he) (v:q1hh):treg (litT 25 tysT) (orc (q1hg C)) 27 (regO (qdv f42) 0) false [(0,.any),(1,.any)] (q1hi v) some=(q1hj C v).eval fun y=>some (q1hi y):=by kernel_rfl
abbrev q1hl:Type:=Int×Bool
def q1hm (v:q1hl):St:=⟨[(0,.nils),(1,i6 v.1),(6,.bool v.2)],[]⟩
def q1hn (C:q1he) (v:q1hh):Dt q1hl:=(Dt.ret (v,(decide (v<(0:Int)))))
theorem q1ho (C:q1he) (v:q1hh):treg (litT 25 tysT) (orc (q1hg C)) 27 (regO (qdv f42) 1) false [(0,.any),(1,.any),(6,.any)] (q1hi v) some=(q1hn C v).eval fun y=>some (q1hm y):=by kernel_rfl
def q1hp (C:q1he) (v:q1hl):Dt q1hh:=(Dt.ret (IntKind.wrap .i64 (v.1 - (IntKind.wrap .i64 ((0:Int) - (0:Int))))))
theorem q1hq (C:q1he) (v:q1hl):treg (litT 25 tysT) (orc (q1hg C)) 27 (regO (qdv f42) 3) false [(0,.any),(1,.any)] (q1hm v) some=(q1hp C v).eval fun y=>some (q1hi y):=by kernel_rfl
abbrev q1hr:Type:=Int×Bool
def q1hs (v:q1hr):St:=⟨[(0,.nils),(1,i6 v.1),(16,.bool v.2)],[]⟩
def q1ht (C:q1he) (v:q1hh):Dt q1hr:=(Dt.ret (v,(decide (v > (0:Int)))))
theorem q1hu (C:q1he) (v:q1hh):treg (litT 25 tysT) (orc (q1hg C)) 27 (regO (qdv f42) 4) false [(0,.any),(1,.any),(16,.any)] (q1hi v) some=(q1ht C v).eval fun y=>some (q1hs y):=by kernel_rfl
abbrev q1hv:Type:=List Diii
def q1hw (v:q1hv):St:=⟨[(0,.rs 0)],[.rows Riii v]⟩
def q1hx (C:q1he) (v:q1hr):Dt q1hv:=(Dt.ite (decide (0<v.1)&&decide (v.1≤100000)) (Dt.ite (decide (0≤(0:Int))&&decide ((0:Int)≤(List.length (List.replicate (v.1).toNat ziii):Int))) (Dt.ret (List.take ((0:Int)).toNat (List.replicate (v.1).toNat ziii))) Dt.fail) Dt.fail)
theorem q1hy (C:q1he) (v:q1hr):treg (litT 25 tysT) (orc (q1hg C)) 27 (regO (qdv f42) 5) false [(0,(.own Riii))] (q1hs v) some=(q1hx C v).eval fun y=>some (q1hw y):=by kernel_rfl
abbrev q1hz:Type:=List Diii
def q1i0 (v:q1hz):St:=⟨[(4,.rs 0)],[.rows Riii v]⟩
def q1i1 (C:q1he) (v:q1hv):Dt q1hz:=(Dt.ret v)
theorem q1i2 (C:q1he) (v:q1hv):treg (litT 25 tysT) (orc (q1hg C)) 27 (regO (qdv f42) 6) false [(4,(.own Riii))] (q1hw v) some=(q1i1 C v).eval fun y=>some (q1i0 y):=by kernel_rfl
def q1i3  (d:Nat)  (z:List Diii):Option (q1hb) :=
 (q1i1 (q1hf d) z).eval fun y6 =>
 some y6
def q1i4  (d:Nat)  (z:Int×Bool):Option (q1hb) :=
 (q1hp (q1hf d) z).eval fun y3 =>
 (q1ht (q1hf d) y3).eval fun y4 =>
 bif y4.2 then ((q1hx (q1hf d) y4).eval fun y5 =>
 q1i3 d  y5) else (q1i3 d  ([]:List Diii))
def q1i5 (d:Nat) (x:q1ha):Option q1hb :=
 (q1hj (q1hf d) x.2.1.1).eval fun y0 =>
 (q1hn (q1hf d) y0).eval fun y1 =>
 bif y1.2 then (none) else (q1i4 d  y1)
theorem q1i6 (d:Nat):COK prog (q1hd (q1i5 d)):=by
 have hm:prog.follows .mixedOrders=true:=mixed
 have hT:=q1w tys 25
 have hC0:OrcOK prog (orc (q1hg (q1hf d))):=qdp (by
  intro S hS
  simp only [q1hg,List.mem_cons,List.not_mem_nil,or_false] at hS
  all_goals first | cases hS | exact hS.elim)
 have hC:OrcOK prog (orc (q1hg (q1hf d))):=hC0
 refine q9e (c:=qdv f42) (fn:=f42) hT (by kernel_rfl) (by kernel_rfl) (by decide) fun x r h w0 φ0 Q hend=>?_
 replace h:q1i5 d x=some r:=h
 unfold q1i5 at h
 show Run prog w0 φ0 27 (qdv f42) ⟨[(0,.nils),(1,.int .i64 x.2.1.1)],[]⟩ Q
 refine q2jr hm hT hC (q1hk (q1hf d) x.2.1.1) h fun y0 h=>?_
 refine q90 (r:=r) (F:=q1i4 d ) (S:=(fun z=>⟨[(0,.nils),(1,i6 z.1),(6,.bool z.2)],[]⟩:Int×Bool→St)) ?_ ?_
 ·
  intro z h
  unfold q1i4 at h
  refine q90 (r:=r) (F:=q1i3 d ) (S:=(fun z=>⟨[(0,.rs 0)],[.rows Riii z]⟩:List Diii→St)) ?_ ?_
  ·
   intro z h
   unfold q1i3 at h
   refine q2jr hm hT hC (q1i2 (q1hf d) z) h fun y6 h=>?_
   refine q8w ?_
   cases h
   exact (hend _ (by kernel_rfl)).2
  intro hj2
  refine q2jr hm hT hC (q1hq (q1hf d) z) h fun y3 h=>?_
  refine q2jr hm hT hC (q1hu (q1hf d) y3) h fun y4 h=>?_
  refine q91 (v:=y4.2) (by kernel_rfl) h ?_ ?_
  ·
   intro h
   refine q92 hm hT hC (q1hy (q1hf d) y4) h ?_
   intro y5 h
   exact hj2 _ h
  ·
   intro h
   refine q8t ?_
   refine qdx (s:=⟨[(0,.rs 0),(1,.int .i64 y4.1),(16,.bool y4.2)],[.rows Riii ([]:List Diii)]⟩) [(0,.own Riii),(1,.any),(16,.any)] (by kernel_rfl) ?_
   refine qdu (s:=⟨[(0,.rs 0)],[.rows Riii ([]:List Diii)]⟩) [1,16] (by kernel_rfl) ?_
   exact hj2 _ h
 intro hj1
 refine q2jr hm hT hC (q1ho (q1hf d) y0) h fun y1 h=>?_
 refine q91 (v:=y1.2) (by kernel_rfl) h ?_ ?_
 ·
  intro h
  cases h
 ·
  intro h
  refine q8t ?_
  exact hj1 _ h
abbrev q1i7:List Pk:=[.row qkd false]
abbrev q1i8:Type:=qke×Unit
abbrev q1i9:Type:=List Diii
def q1ia (r:q1i9):LV×List Ob:=(.rs 0,[.rows Riii r])
def q1ib (F:q1i8→Option q1i9):Go.Tx.Spec:=⟨22,q1i7,q1i9,F,q1ia⟩
abbrev q1ic:Type:=(q1ha→Option q1hb)×Unit
def q1id (d:Nat):q1ic:=(q1i5 d,())
def q1ie (C:q1ic):List Go.Tx.Spec:=[q1hd C.1]
abbrev q1if:Type:=List qkb
def q1ig (v:q1if):St:=⟨[(0,.fz qka v)],[]⟩
def q1ih (C:q1ic) (v:q1if):Dt q1if:=(Dt.ret v)
abbrev q2kc {V Y:Type}:=@rg q1ic V Y tysT (fun C=>(orc (q1ie C))) 36
theorem q1ii C v:q2kc (regO (qdv f22) 0) false [(0,(.val qka))] q1ig q1ih q1ig C v:=rgI (by kernel_rfl)
abbrev q1ij:Type:=List qkb×Int
def q1ik (v:q1ij):St:=⟨[(0,.fz qka v.1),(3,i6 v.2)],[]⟩
def q1il (C:q1ic) (v:q1if):Dt q1ij:=(Dt.ret (v,(0:Int)))
theorem q1im C v:q2kc (regO (qdv f22) 1) false [(0,(.val qka)),(3,.any)] q1ig q1il q1ik C v:=rgI (by kernel_rfl)
abbrev q1in:Type:=List qkb×Int×List qkb×Int×Int
def q1io (v:q1in):St:=⟨[(0,.fz qka v.1),(3,i6 v.2.1),(9,.fz qka v.2.2.1),(10,i6 v.2.2.2.1),(11,i6 v.2.2.2.2)],[]⟩
def q1ip (C:q1ic) (v:q1ij):Dt q1in:=(Dt.ret (v.1,v.2,v.1,(List.length v.1:Int),(0:Int)))
theorem q1iq C v:q2kc (regO (qdv f22) 2) false [(0,(.val qka)),(3,.any),(9,(.val qka)),(10,.any),(11,.any)] q1ik q1ip q1io C v:=rgI (by kernel_rfl)
abbrev q1ir:Type:=List qkb×Int×List qkb×Int×Int×Bool
def q1is (v:q1ir):St:=⟨[(0,.fz qka v.1),(3,i6 v.2.1),(9,.fz qka v.2.2.1),(10,i6 v.2.2.2.1),(11,i6 v.2.2.2.2.1),(12,.bool v.2.2.2.2.2)],[]⟩
def q1it (C:q1ic) (v:q1in):Dt q1ir:=(Dt.ret (v.1,v.2.1,v.2.2.1,v.2.2.2.1,v.2.2.2.2,(decide (v.2.2.2.2<v.2.2.2.1))))
theorem q1iu C v:q2kc (regO (qdv f22) 3) false [(0,(.val qka)),(3,.any),(9,(.val qka)),(10,.any),(11,.any),(12,.any)] q1io q1it q1is C v:=rgI (by kernel_rfl)
abbrev q1iv:Type:=List qkb×Int×List Diii×List qkb×Int×Int
def q1iw (v:q1iv):St:=⟨[(0,.fz qka v.1),(3,i6 v.2.1),(5,.fz Riii v.2.2.1),(9,.fz qka v.2.2.2.1),(10,i6 v.2.2.2.2.1),(11,i6 v.2.2.2.2.2)],[]⟩
def q1ix (C:q1ic) (v:q1ir):Dt q1iv:=(Dt.ite (inB v.2.2.2.2.1 (List.length v.2.2.1)) (Dt.ret (v.1,v.2.1,(elt qkc v.2.2.1 (v.2.2.2.2.1).toNat).1,v.2.2.1,v.2.2.2.1,v.2.2.2.2.1)) Dt.fail)
theorem q1iy C v:q2kc (regO (qdv f22) 4) false [(0,(.val qka)),(3,.any),(5,(.val Riii)),(9,(.val qka)),(10,.any),(11,.any)] q1is q1ix q1iw C v:=rgI (by kernel_rfl)
def q1iz (C:q1ic) (v:q1iv):Dt q1in:=(Dt.ret (v.1,(IntKind.wrap .i64 (v.2.1+(List.length v.2.2.1:Int))),v.2.2.2.1,v.2.2.2.2.1,v.2.2.2.2.2))
theorem q1j0 C v:q2kc (regO (qdv f22) 5) false [(0,(.val qka)),(3,.any),(9,(.val qka)),(10,.any),(11,.any)] q1iw q1iz q1io C v:=rgI (by kernel_rfl)
abbrev q1j1:Type:=List qkb×Int×List qkb×Int×Int×Bool
def q1j2 (v:q1j1):St:=⟨[(0,.fz qka v.1),(3,i6 v.2.1),(9,.fz qka v.2.2.1),(10,i6 v.2.2.2.1),(11,i6 v.2.2.2.2.1),(20,.bool v.2.2.2.2.2)],[]⟩
def q1j3 (C:q1ic) (v:q1in):Dt q1j1:=(Dt.ret (v.1,v.2.1,v.2.2.1,v.2.2.2.1,v.2.2.2.2,(decide (v.2.1<(0:Int)))))
theorem q1j4 C v:q2kc (regO (qdv f22) 6) false [(0,(.val qka)),(3,.any),(9,(.val qka)),(10,.any),(11,.any),(20,.any)] q1io q1j3 q1j2 C v:=rgI (by kernel_rfl)
def q1j5 (C:q1ic) (v:q1j1):Dt q1in:=(Dt.ret (v.1,v.2.1,v.2.2.1,v.2.2.2.1,(IntKind.wrap .i64 (v.2.2.2.2.1+(1:Int)))))
theorem q1j6 C v:q2kc (regO (qdv f22) 8) false [(0,(.val qka)),(3,.any),(9,(.val qka)),(10,.any),(11,.any)] q1j2 q1j5 q1io C v:=rgI (by kernel_rfl)
def q1j7  (d:Nat) (self1:(List qkb×Int×List qkb×Int×Int)→Option q1i9) (z:List qkb×Int×List qkb×Int×Int×Bool):Option (q1i9) :=
 (q1j5 (q1id d) z).eval fun y8 =>
 self1 y8
abbrev q1j8:Type:=List qkb×List Diii
def q1j9 (v:q1j8):St:=⟨[(0,.fz qka v.1),(6,.rs 0)],[.rows Riii v.2]⟩
def q1ja (C:q1ic) (v:q1ir):Dt q1j8:=(Dt.bnd (C.1 ((),(v.2.1,()),())) fun r1=>(Dt.ret (v.1,r1)))
theorem q1jb C v:q2kc (regO (qdv f22) 9) false [(0,(.val qka)),(6,(.own Riii))] q1is q1ja q1j9 C v:=rgI (by kernel_rfl)
abbrev q1jc:Type:=List qkb×Int×Int×List Diii
def q1jd (v:q1jc):St:=⟨[(6,.rs 0),(25,.fz qka v.1),(26,i6 v.2.1),(27,i6 v.2.2.1)],[.rows Riii v.2.2.2]⟩
def q1je (C:q1ic) (v:q1j8):Dt q1jc:=(Dt.ret (v.1,(List.length v.1:Int),(0:Int),v.2))
theorem q1jf C v:q2kc (regO (qdv f22) 10) false [(6,(.own Riii)),(25,(.val qka)),(26,.any),(27,.any)] q1j9 q1je q1jd C v:=rgI (by kernel_rfl)
abbrev q1jg:Type:=List qkb×Int×Int×Bool×List Diii
def q1jh (v:q1jg):St:=⟨[(6,.rs 0),(25,.fz qka v.1),(26,i6 v.2.1),(27,i6 v.2.2.1),(28,.bool v.2.2.2.1)],[.rows Riii v.2.2.2.2]⟩
def q1ji (C:q1ic) (v:q1jc):Dt q1jg:=(Dt.ret (v.1,v.2.1,v.2.2.1,(decide (v.2.2.1<v.2.1)),v.2.2.2))
theorem q1jj C v:q2kc (regO (qdv f22) 11) false [(6,(.own Riii)),(25,(.val qka)),(26,.any),(27,.any),(28,.any)] q1jd q1ji q1jh C v:=rgI (by kernel_rfl)
abbrev q1jk:Type:=List Diii×List qkb×Int×Int×List Diii
def q1jl (v:q1jk):St:=⟨[(6,.rs 0),(8,.fz Riii v.1),(25,.fz qka v.2.1),(26,i6 v.2.2.1),(27,i6 v.2.2.2.1)],[.rows Riii v.2.2.2.2]⟩
def q1jm (C:q1ic) (v:q1jg):Dt q1jk:=(Dt.ite (inB v.2.2.1 (List.length v.1)) (Dt.ret ((elt qkc v.1 (v.2.2.1).toNat).1,v.1,v.2.1,v.2.2.1,v.2.2.2.2)) Dt.fail)
theorem q1jn C v:q2kc (regO (qdv f22) 12) false [(6,(.own Riii)),(8,(.val Riii)),(25,(.val qka)),(26,.any),(27,.any)] q1jh q1jm q1jl C v:=rgI (by kernel_rfl)
def q1jo (C:q1ic) (v:q1jk):Dt q1jc:=(Dt.ite (apB (List.length v.2.2.2.2) (List.length v.1)) (Dt.ret (v.2.1,v.2.2.1,v.2.2.2.1,(v.2.2.2.2++v.1))) Dt.fail)
theorem q1jp C v:q2kc (regO (qdv f22) 13) false [(6,(.own Riii)),(25,(.val qka)),(26,.any),(27,.any)] q1jl q1jo q1jd C v:=rgI (by kernel_rfl)
def q1jq (C:q1ic) (v:q1jc):Dt q1jc:=(Dt.ret (v.1,v.2.1,(IntKind.wrap .i64 (v.2.2.1+(1:Int))),v.2.2.2))
theorem q1jr C v:q2kc (regO (qdv f22) 14) false [(6,(.own Riii)),(25,(.val qka)),(26,.any),(27,.any)] q1jd q1jq q1jd C v:=rgI (by kernel_rfl)
abbrev q1js:Type:=List Diii
def q1jt (v:q1js):St:=⟨[(2,.rs 0)],[.rows Riii v]⟩
def q1ju (C:q1ic) (v:q1jg):Dt q1js:=(Dt.ret v.2.2.2.2)
theorem q1jv C v:q2kc (regO (qdv f22) 15) false [(2,(.own Riii))] q1jh q1ju q1jt C v:=rgI (by kernel_rfl)
def q1jw (d:Nat) (self3:(List qkb×Int×Int×List Diii)→Option q1i9) (x3:List qkb×Int×Int×List Diii):Option q1i9 :=
 (q1ji (q1id d) x3).eval fun y11 =>
 bif y11.2.2.2.1 then ((q1jm (q1id d) y11).eval fun y12 =>
 (q1jo (q1id d) y12).eval fun y13 =>
 (q1jq (q1id d) y13).eval fun y14 =>
 self3 y14) else ((q1ju (q1id d) y11).eval fun y15 =>
 some y15)
def q1jx (d:Nat) (self1:(List qkb×Int×List qkb×Int×Int)→Option q1i9) (x1:List qkb×Int×List qkb×Int×Int):Option q1i9 :=
 (q1it (q1id d) x1).eval fun y3 =>
 bif y3.2.2.2.2.2 then ((q1ix (q1id d) y3).eval fun y4 =>
 (q1iz (q1id d) y4).eval fun y5 =>
 (q1j3 (q1id d) y5).eval fun y6 =>
 bif y6.2.2.2.2.2 then (none) else (q1j7 d self1 y6)) else ((q1ja (q1id d) y3).eval fun y9 =>
 (q1je (q1id d) y9).eval fun y10 =>
 iter (q1jw d ) d y10)
def q1jy (d:Nat) (x:q1i8):Option q1i9 :=
 (q1ih (q1id d) x.1.1).eval fun y0 =>
 (q1il (q1id d) y0).eval fun y1 =>
 (q1ip (q1id d) y1).eval fun y2 =>
 iter (q1jx d ) d y2
theorem q1jz (d:Nat):COK prog (q1ib (q1jy d)):=by
 have hm:prog.follows .mixedOrders=true:=mixed
 have hT:=tys
 have hC0:OrcOK prog (orc (q1ie (q1id d))):=qdp (by
  intro S hS
  simp only [q1ie,List.mem_cons,List.not_mem_nil,or_false] at hS
  subst hS;exact q1i6 d)
 have hC:OrcOK prog (orc (q1ie (q1id d))):=hC0
 refine q9e (c:=qdv f22) (fn:=f22) hT (by kernel_rfl) (by kernel_rfl) (by decide) fun x r h w0 φ0 Q hend=>?_
 replace h:q1jy d x=some r:=h
 unfold q1jy at h
 show Run prog w0 φ0 36 (qdv f22) ⟨[(0,.fz qka x.1.1)],[]⟩ Q
 refine q2jr hm hT hC (q1ii (q1id d) x.1.1) h fun y0 h=>?_
 refine q2jr hm hT hC (q1im (q1id d) y0) h fun y1 h=>?_
 refine q8x ?_
 refine q2jr hm hT hC (q1iq (q1id d) y1) h fun y2 h=>?_
 refine q8y ?_
 refine q93 (G:=iter (q1jx d )) (S:=(fun x1=>⟨[(0,.fz qka x1.1),(3,i6 x1.2.1),(9,.fz qka x1.2.2.1),(10,i6 x1.2.2.2.1),(11,i6 x1.2.2.2.2)],[]⟩:List qkb×Int×List qkb×Int×Int→St)) (fun _=>rfl) ?_ d _ h
 intro n1 x1 h K1 hn1
 replace h:q1jx d  (iter (q1jx d ) n1) x1=some r:=h
 generalize iter (q1jx d ) n1=self1 at h hn1
 unfold q1jx at h
 refine q2jr hm hT hC (q1iu (q1id d) x1) h fun y3 h=>?_
 refine q8x ?_
 refine q91 (v:=y3.2.2.2.2.2) (by kernel_rfl) h ?_ ?_
 ·
  intro h
  refine q8t (q8j ?_)
  refine q90 (r:=r) (F:=q1j7 d self1) (S:=(fun z=>⟨[(0,.fz qka z.1),(3,i6 z.2.1),(9,.fz qka z.2.2.1),(10,i6 z.2.2.2.1),(11,i6 z.2.2.2.2.1),(20,.bool z.2.2.2.2.2)],[]⟩:List qkb×Int×List qkb×Int×Int×Bool→St)) ?_ ?_
  ·
   intro z h
   unfold q1j7 at h
   refine q92 hm hT hC (q1j6 (q1id d) z) h ?_
   intro y8 h
   exact hn1 _ h
  intro hj2
  refine q8y ?_
  refine q2jr hm hT hC (q1iy (q1id d) y3) h fun y4 h=>?_
  refine q2jr hm hT hC (q1j0 (q1id d) y4) h fun y5 h=>?_
  refine q2jr hm hT hC (q1j4 (q1id d) y5) h fun y6 h=>?_
  refine q91 (v:=y6.2.2.2.2.2) (by kernel_rfl) h ?_ ?_
  ·
   intro h
   cases h
  ·
   intro h
   refine q8t (q8m ?_)
   exact hj2 _ h
 ·
  intro h
  refine q8v (q8k (q8k (q8o (q8j ?_))))
  refine q2jr hm hT hC (q1jb (q1id d) y3) h fun y9 h=>?_
  refine q8x ?_
  refine q2jr hm hT hC (q1jf (q1id d) y9) h fun y10 h=>?_
  refine q8y ?_
  refine q93 (G:=iter (q1jw d )) (S:=(fun x3=>⟨[(6,.rs 0),(25,.fz qka x3.1),(26,i6 x3.2.1),(27,i6 x3.2.2.1)],[.rows Riii x3.2.2.2]⟩:List qkb×Int×Int×List Diii→St)) (fun _=>rfl) ?_ d _ h
  intro n3 x3 h K3 hn3
  replace h:q1jw d  (iter (q1jw d ) n3) x3=some r:=h
  generalize iter (q1jw d ) n3=self3 at h hn3
  unfold q1jw at h
  refine q2jr hm hT hC (q1jj (q1id d) x3) h fun y11 h=>?_
  refine q8x ?_
  refine q91 (v:=y11.2.2.2.1) (by kernel_rfl) h ?_ ?_
  ·
   intro h
   refine q8t (q8j (q8x (q8y ?_)))
   refine q2jr hm hT hC (q1jn (q1id d) y11) h fun y12 h=>?_
   refine q92 hm hT hC (q1jp (q1id d) y12) h ?_
   intro y13 h
   refine q8m (q8j ?_)
   refine q92 hm hT hC (q1jr (q1id d) y13) h ?_
   intro y14 h
   exact hn3 _ h
  ·
   intro h
   refine q8v (q8k (q8k (q8o (q8j ?_))))
   refine q2jr hm hT hC (q1jv (q1id d) y11) h fun y15 h=>?_
   refine q8w ?_
   cases h
   exact (hend _ (by kernel_rfl)).2
abbrev q1k0:List Pk:=[.row Ri false]
abbrev q1k1:Type:=Di×Unit
abbrev q1k2:Type:=Bool
def q1k3 (r:q1k2):LV×List Ob:=(.bool r,[])
def q1k4 (F:q1k1→Option q1k2):Go.Tx.Spec:=⟨64,q1k0,q1k2,F,q1k3⟩
abbrev q1k5:Type:=Unit
def q1k6 (_d:Nat):q1k5:=()
def q1k7 (C:q1k5):List Go.Tx.Spec:=[]
abbrev q1k8:Type:=Int
def q1k9 (v:q1k8):St:=⟨[(0,i6 v)],[]⟩
def q1ka (C:q1k5) (v:q1k8):Dt q1k8:=(Dt.ret v)
abbrev q2kd {V Y:Type}:=@rg q1k5 V Y tysT (fun C=>(orc (q1k7 C))) 6
theorem q1kb C v:q2kd (regO (qdv f64) 0) false [(0,.any)] q1k9 q1ka q1k9 C v:=rgI (by kernel_rfl)
abbrev q1kc:Type:=Bool
def q1kd (v:q1kc):St:=⟨[(2,.bool v)],[]⟩
def q1ke (C:q1k5) (v:q1k8):Dt q1kc:=(Dt.ret (v != v))
theorem q1kf C v:q2kd (regO (qdv f64) 1) false [(2,.any)] q1k9 q1ke q1kd C v:=rgI (by kernel_rfl)
def q1kg (d:Nat) (x:q1k1):Option q1k2 :=
 (q1ka (q1k6 d) x.1.1).eval fun y0 =>
 (q1ke (q1k6 d) y0).eval fun y1 =>
 some y1
theorem q1kh (d:Nat):COK prog (q1k4 (q1kg d)):=by
 have hm:prog.follows .mixedOrders=true:=mixed
 have hT:=tys
 have hC0:OrcOK prog (orc (q1k7 (q1k6 d))):=qdp (by
  intro S hS
  simp only [q1k7,List.mem_cons,List.not_mem_nil,or_false] at hS
  all_goals first | cases hS | exact hS.elim)
 have hC:OrcOK prog (orc (q1k7 (q1k6 d))):=hC0
 refine q9e (c:=qdv f64) (fn:=f64) hT (by kernel_rfl) (by kernel_rfl) (by decide) fun x r h w0 φ0 Q hend=>?_
 replace h:q1kg d x=some r:=h
 unfold q1kg at h
 show Run prog w0 φ0 6 (qdv f64) ⟨[(0,.int .i64 x.1.1)],[]⟩ Q
 refine q2jr hm hT hC (q1kb (q1k6 d) x.1.1) h fun y0 h=>?_
 refine q2jr hm hT hC (q1kf (q1k6 d) y0) h fun y1 h=>?_
 refine q8w ?_
 cases h
 exact (hend _ (by kernel_rfl)).2
abbrev q1ki:List Pk:=[.row Ri false,.row Ri false]
abbrev q1kj:Type:=Di×Di×Unit
abbrev q1kk:Type:=Int
def q1kl (r:q1kk):LV×List Ob:=(.int .i64 r,[])
def q1km (F:q1kj→Option q1kk):Go.Tx.Spec:=⟨41,q1ki,q1kk,F,q1kl⟩
abbrev q1kn:Type:=(q1k1→Option q1k2)×Unit
def q1ko (d:Nat):q1kn:=(q1kg d,())
def q1kp (C:q1kn):List Go.Tx.Spec:=[q1k4 C.1]
abbrev q1kq:Type:=Int×Int
def q1kr (v:q1kq):St:=⟨[(0,i6 v.1),(1,i6 v.2)],[]⟩
def q1ks (C:q1kn) (v:q1kq):Dt q1kq:=(Dt.ret (v.1,v.2))
abbrev q2ke {V Y:Type}:=@rg q1kn V Y tysT (fun C=>(orc (q1kp C))) 20
theorem q1kt C v:q2ke (regO (qdv f41) 0) false (an [0,1]) q1kr q1ks q1kr C v:=rgI (by kernel_rfl)
abbrev q1ku:Type:=Int×Int×Bool
def q1kv (v:q1ku):St:=⟨[(0,i6 v.1),(1,i6 v.2.1),(5,.bool v.2.2)],[]⟩
def q1kw (C:q1kn) (v:q1kq):Dt q1ku:=(Dt.bnd (C.1 ((v.1,()),())) fun r1=>(Dt.ret (v.1,v.2,r1)))
theorem q1kx C v:q2ke (regO (qdv f41) 1) false (an [0,1,5]) q1kr q1kw q1kv C v:=rgI (by kernel_rfl)
abbrev q1ky:Type:=Int×Int×Bool×Bool
def q1kz (v:q1ky):St:=⟨[(0,i6 v.1),(1,i6 v.2.1),(5,.bool v.2.2.1),(6,.bool v.2.2.2)],[]⟩
def q1l0 (C:q1kn) (v:q1ku):Dt q1ky:=(Dt.bnd (C.1 ((v.2.1,()),())) fun r1=>(Dt.ret (v.1,v.2.1,v.2.2,r1)))
theorem q1l1 C v:q2ke (regO (qdv f41) 2) false (an [0,1,5,6]) q1kv q1l0 q1kz C v:=rgI (by kernel_rfl)
abbrev q1l2:Type:=Int×Int×Bool×Bool
def q1l3 (v:q1l2):St:=⟨[(0,i6 v.1),(1,i6 v.2.1),(6,.bool v.2.2.1),(11,.bool v.2.2.2)],[]⟩
def q1l4 (C:q1kn) (v:q1ky):Dt q1l2:=(Dt.ret (v.1,v.2.1,v.2.2.2,v.2.2.1))
theorem q1l5 C v:q2ke (regO (qdv f41) 3) false (an [0,1,6,11]) q1kz q1l4 q1l3 C v:=rgI (by kernel_rfl)
abbrev q1l6:Type:=Bool
def q1l7 (v:q1l6):St:=⟨[(12,.bool v)],[]⟩
def q1l8 (C:q1kn) (v:q1l2):Dt q1l6:=(Dt.ret v.2.2.1)
theorem q1l9 C v:q2ke (regO (qdv f41) 4) false [(12,.any)] q1l3 q1l8 q1l7 C v:=rgI (by kernel_rfl)
abbrev q1la:Type:=Int
def q1lb (v:q1la):St:=⟨[(4,i6 v)],[]⟩
def q1lc (C:q1kn) (v:q1l6):Dt q1la:=(Dt.ret (0:Int))
theorem q1ld C v:q2ke (regO (qdv f41) 5) false [(4,.any)] q1l7 q1lc q1lb C v:=rgI (by kernel_rfl)
def q1le (C:q1kn) (v:q1l6):Dt q1la:=(Dt.ret (-1:Int))
theorem q1lf C v:q2ke (regO (qdv f41) 6) false [(4,.any)] q1l7 q1le q1lb C v:=rgI (by kernel_rfl)
abbrev q1lg:Type:=Int×Int×Bool
def q1lh (v:q1lg):St:=⟨[(0,i6 v.1),(1,i6 v.2.1),(13,.bool v.2.2)],[]⟩
def q1li (C:q1kn) (v:q1l2):Dt q1lg:=(Dt.ret (v.1,v.2.1,v.2.2.1))
theorem q1lj C v:q2ke (regO (qdv f41) 7) false (an [0,1,13]) q1l3 q1li q1lh C v:=rgI (by kernel_rfl)
def q1lk (C:q1kn) (v:q1lg):Dt q1la:=(Dt.ret (1:Int))
theorem q1ll C v:q2ke (regO (qdv f41) 8) false [(4,.any)] q1lh q1lk q1lb C v:=rgI (by kernel_rfl)
abbrev q1lm:Type:=Int×Int×Bool
def q1ln (v:q1lm):St:=⟨[(0,i6 v.1),(1,i6 v.2.1),(16,.bool v.2.2)],[]⟩
def q1lo (C:q1kn) (v:q1lg):Dt q1lm:=(Dt.ret (v.1,v.2.1,(decide (v.1<v.2.1))))
theorem q1lp C v:q2ke (regO (qdv f41) 9) false (an [0,1,16]) q1lh q1lo q1ln C v:=rgI (by kernel_rfl)
def q1lq (C:q1kn) (v:q1lm):Dt q1la:=(Dt.ret (-1:Int))
theorem q1lr C v:q2ke (regO (qdv f41) 10) false [(4,.any)] q1ln q1lq q1lb C v:=rgI (by kernel_rfl)
abbrev q1ls:Type:=Bool
def q1lt (v:q1ls):St:=⟨[(19,.bool v)],[]⟩
def q1lu (C:q1kn) (v:q1lm):Dt q1ls:=(Dt.ret (decide (v.1 > v.2.1)))
theorem q1lv C v:q2ke (regO (qdv f41) 11) false [(19,.any)] q1ln q1lu q1lt C v:=rgI (by kernel_rfl)
def q1lw (C:q1kn) (v:q1ls):Dt q1la:=(Dt.ret (1:Int))
theorem q1lx C v:q2ke (regO (qdv f41) 12) false [(4,.any)] q1lt q1lw q1lb C v:=rgI (by kernel_rfl)
def q1ly (C:q1kn) (v:q1ls):Dt q1la:=(Dt.ret (0:Int))
theorem q1lz C v:q2ke (regO (qdv f41) 13) false [(4,.any)] q1lt q1ly q1lb C v:=rgI (by kernel_rfl)
def q1m0 (d:Nat) (x:q1kj):Option q1kk :=
 (q1ks (q1ko d) (x.1.1,x.2.1.1)).eval fun y0 =>
 (q1kw (q1ko d) y0).eval fun y1 =>
 (q1l0 (q1ko d) y1).eval fun y2 =>
 (q1l4 (q1ko d) y2).eval fun y3 =>
 bif y3.2.2.2 then ((q1l8 (q1ko d) y3).eval fun y4 =>
 bif y4 then ((q1lc (q1ko d) y4).eval fun y5 =>
 some y5) else ((q1le (q1ko d) y4).eval fun y6 =>
 some y6)) else ((q1li (q1ko d) y3).eval fun y7 =>
 bif y7.2.2 then ((q1lk (q1ko d) y7).eval fun y8 =>
 some y8) else ((q1lo (q1ko d) y7).eval fun y9 =>
 bif y9.2.2 then ((q1lq (q1ko d) y9).eval fun y10 =>
 some y10) else ((q1lu (q1ko d) y9).eval fun y11 =>
 bif y11 then ((q1lw (q1ko d) y11).eval fun y12 =>
 some y12) else ((q1ly (q1ko d) y11).eval fun y13 =>
 some y13))))
theorem q1m1 (d:Nat):COK prog (q1km (q1m0 d)):=by
 have hm:prog.follows .mixedOrders=true:=mixed
 have hT:=tys
 have hC0:OrcOK prog (orc (q1kp (q1ko d))):=qdp (by
  intro S hS
  simp only [q1kp,List.mem_cons,List.not_mem_nil,or_false] at hS
  subst hS;exact q1kh d)
 have hC:OrcOK prog (orc (q1kp (q1ko d))):=hC0
 refine q9e (c:=qdv f41) (fn:=f41) hT (by kernel_rfl) (by kernel_rfl) (by decide) fun x r h w0 φ0 Q hend=>?_
 replace h:q1m0 d x=some r:=h
 unfold q1m0 at h
 show Run prog w0 φ0 20 (qdv f41) ⟨[(0,.int .i64 x.1.1),(1,.int .i64 x.2.1.1)],[]⟩ Q
 refine q2jr hm hT hC (q1kt (q1ko d) (x.1.1,x.2.1.1)) h fun y0 h=>?_
 refine q2jr hm hT hC (q1kx (q1ko d) y0) h fun y1 h=>?_
 refine q2jr hm hT hC (q1l1 (q1ko d) y1) h fun y2 h=>?_
 refine q8x ?_
 refine q2jr hm hT hC (q1l5 (q1ko d) y2) h fun y3 h=>?_
 refine q91 (v:=y3.2.2.2) (by kernel_rfl) h ?_ ?_
 ·
  intro h
  refine q8x ?_
  refine q2jr hm hT hC (q1l9 (q1ko d) y3) h fun y4 h=>?_
  refine q91 (v:=y4) (by kernel_rfl) h ?_ ?_
  ·
   intro h
   refine q2jr hm hT hC (q1ld (q1ko d) y4) h fun y5 h=>?_
   refine q8w (q8l (q8l ?_))
   cases h
   exact (hend _ (by kernel_rfl)).2
  ·
   intro h
   refine q8t (q8j ?_)
   refine q2jr hm hT hC (q1lf (q1ko d) y4) h fun y6 h=>?_
   refine q8w (q8l ?_)
   cases h
   exact (hend _ (by kernel_rfl)).2
 ·
  intro h
  refine q8t (q8j (q8x ?_))
  refine q2jr hm hT hC (q1lj (q1ko d) y3) h fun y7 h=>?_
  refine q91 (v:=y7.2.2) (by kernel_rfl) h ?_ ?_
  ·
   intro h
   refine q2jr hm hT hC (q1ll (q1ko d) y7) h fun y8 h=>?_
   refine q8w (q8l ?_)
   cases h
   exact (hend _ (by kernel_rfl)).2
  ·
   intro h
   refine q8t (q8j (q8x ?_))
   refine q2jr hm hT hC (q1lp (q1ko d) y7) h fun y9 h=>?_
   refine q91 (v:=y9.2.2) (by kernel_rfl) h ?_ ?_
   ·
    intro h
    refine q2jr hm hT hC (q1lr (q1ko d) y9) h fun y10 h=>?_
    refine q8w (q8l ?_)
    cases h
    exact (hend _ (by kernel_rfl)).2
   ·
    intro h
    refine q8t (q8j (q8x ?_))
    refine q2jr hm hT hC (q1lv (q1ko d) y9) h fun y11 h=>?_
    refine q91 (v:=y11) (by kernel_rfl) h ?_ ?_
    ·
     intro h
     refine q2jr hm hT hC (q1lx (q1ko d) y11) h fun y12 h=>?_
     refine q8w (q8l ?_)
     cases h
     exact (hend _ (by kernel_rfl)).2
    ·
     intro h
     refine q8t (q8j ?_)
     refine q2jr hm hT hC (q1lz (q1ko d) y11) h fun y13 h=>?_
     refine q8w ?_
     cases h
     exact (hend _ (by kernel_rfl)).2
abbrev q1m2:List Pk:=[.row Riii true,.row Ri false]
abbrev q1m3:Type:=Diii×Di×Unit
abbrev q1m4:Type:=Int
def q1m5 (r:q1m4):LV×List Ob:=(.int .i64 r,[])
def q1m6 (F:q1m3→Option q1m4):Go.Tx.Spec:=⟨40,q1m2,q1m4,F,q1m5⟩
abbrev q1m7:Type:=(q1kj→Option q1kk)×Unit
def q1m8 (d:Nat):q1m7:=(q1m0 d,())
def q1m9 (C:q1m7):List Go.Tx.Spec:=[q1km C.1]
abbrev q1ma:Type:=Int×Int×Int×Int
def q1mb (v:q1ma):St:=⟨[(0,.agg [i6 v.1,i6 v.2.1,i6 v.2.2.1]),(1,i6 v.2.2.2)],[]⟩
abbrev q1mc:Type:=Int×Int×Int×Int
def q1md (v:q1mc):St:=⟨[(1,i6 v.1),(2,.ptr 0 0)],[.cells [i6 v.2.1,i6 v.2.2.1,i6 v.2.2.2]]⟩
def q1me (C:q1m7) (v:q1ma):Dt q1mc:=(Dt.ret (v.2.2.2,v.1,v.2.1,v.2.2.1))
abbrev q2kf {V Y:Type}:=@rg q1m7 V Y tysT (fun C=>(orc (q1m9 C))) 9
theorem q1mf C v:q2kf (regO (qdv f40) 0) false (an [1,2]) q1mb q1me q1md C v:=rgI (by kernel_rfl)
abbrev q1mg:Type:=Int
def q1mh (v:q1mg):St:=⟨[(4,i6 v)],[]⟩
def q1mi (C:q1m7) (v:q1mc):Dt q1mg:=(Dt.bnd (C.1 ((v.2.1,()),(v.1,()),())) fun r1=>(Dt.ret r1))
theorem q1mj C v:q2kf (regO (qdv f40) 1) false [(4,.any)] q1md q1mi q1mh C v:=rgI (by kernel_rfl)
def q1mk (d:Nat) (x:q1m3):Option q1m4 :=
 (q1me (q1m8 d) (x.1.1,x.1.2.1,x.1.2.2.1,x.2.1.1)).eval fun y0 =>
 (q1mi (q1m8 d) y0).eval fun y1 =>
 some y1
theorem q1ml (d:Nat):COK prog (q1m6 (q1mk d)):=by
 have hm:prog.follows .mixedOrders=true:=mixed
 have hT:=tys
 have hC0:OrcOK prog (orc (q1m9 (q1m8 d))):=qdp (by
  intro S hS
  simp only [q1m9,List.mem_cons,List.not_mem_nil,or_false] at hS
  subst hS;exact q1m1 d)
 have hC:OrcOK prog (orc (q1m9 (q1m8 d))):=hC0
 refine q9e (c:=qdv f40) (fn:=f40) hT (by kernel_rfl) (by kernel_rfl) (by decide) fun x r h w0 φ0 Q hend=>?_
 replace h:q1mk d x=some r:=h
 unfold q1mk at h
 show Run prog w0 φ0 9 (qdv f40) ⟨[(0,.agg [.int .i64 x.1.1,.int .i64 x.1.2.1,.int .i64 x.1.2.2.1]),(1,.int .i64 x.2.1.1)],[]⟩ Q
 refine q2jr hm hT hC (q1mf (q1m8 d) (x.1.1,x.1.2.1,x.1.2.2.1,x.2.1.1)) h fun y0 h=>?_
 refine q2jr hm hT hC (q1mj (q1m8 d) y0) h fun y1 h=>?_
 refine q8w ?_
 cases h
 exact (hend _ (by kernel_rfl)).2
abbrev q1mm:List Pk:=[.row qka false,.row Ri false,.fn 40 []]
abbrev q1mn:Type:=qkb×Di×(Unit)×Unit
abbrev q1mo:Type:=Int×Bool
def q1mp (r:q1mo):LV×List Ob:=(.tup [.int .i64 r.1,.bool r.2],[])
def q1mq (F:q1mn→Option q1mo):Go.Tx.Spec:=⟨39,q1mm,q1mo,F,q1mp⟩
abbrev q1mr:Type:=(q1m3→Option q1m4)×Unit
def q1ms (d:Nat):q1mr:=(q1mk d,())
def q1mt (C:q1mr):List Go.Tx.Spec:=[q1m6 C.1]
abbrev q1mu:Type:=List Diii×Int
def q1mv (v:q1mu):St:=⟨[(0,.fz Riii v.1),(1,i6 v.2),(2,.fn 40 [])],[]⟩
def q1mw (C:q1mr) (v:q1mu):Dt q1mu:=(Dt.ret (v.1,v.2))
abbrev q2kg {V Y:Type}:=@rg q1mr V Y tysT (fun C=>(orc (q1mt C))) 49
theorem q1mx C v:q2kg (regO (qdv f39) 0) false [(0,(.val Riii)),(1,.any),(2,.any)] q1mv q1mw q1mv C v:=rgI (by kernel_rfl)
abbrev q1my:Type:=List Diii×Int×Int
def q1mz (v:q1my):St:=⟨[(0,.fz Riii v.1),(1,i6 v.2.1),(2,.fn 40 []),(8,i6 v.2.2)],[]⟩
def q1n0 (C:q1mr) (v:q1mu):Dt q1my:=(Dt.ret (v.1,v.2,(List.length v.1:Int)))
theorem q1n1 C v:q2kg (regO (qdv f39) 1) false [(0,(.val Riii)),(1,.any),(2,.any),(8,.any)] q1mv q1n0 q1mz C v:=rgI (by kernel_rfl)
abbrev q1n2:Type:=List Diii×Int×Int×Int×Int
def q1n3 (v:q1n2):St:=⟨[(0,.fz Riii v.1),(1,i6 v.2.1),(2,.fn 40 []),(8,i6 v.2.2.1),(9,i6 v.2.2.2.1),(10,i6 v.2.2.2.2)],[]⟩
def q1n4 (C:q1mr) (v:q1my):Dt q1n2:=(Dt.ret (v.1,v.2.1,v.2.2,(0:Int),v.2.2))
theorem q1n5 C v:q2kg (regO (qdv f39) 2) false [(0,(.val Riii)),(1,.any),(2,.any),(8,.any),(9,.any),(10,.any)] q1mz q1n4 q1n3 C v:=rgI (by kernel_rfl)
abbrev q1n6:Type:=List Diii×Int×Int×Int×Int×Bool
def q1n7 (v:q1n6):St:=⟨[(0,.fz Riii v.1),(1,i6 v.2.1),(2,.fn 40 []),(8,i6 v.2.2.1),(9,i6 v.2.2.2.1),(10,i6 v.2.2.2.2.1),(17,.bool v.2.2.2.2.2)],[]⟩
def q1n8 (C:q1mr) (v:q1n2):Dt q1n6:=(Dt.ret (v.1,v.2.1,v.2.2.1,v.2.2.2.1,v.2.2.2.2,(decide (v.2.2.2.1<v.2.2.2.2))))
theorem q1n9 C v:q2kg (regO (qdv f39) 3) false [(0,(.val Riii)),(1,.any),(2,.any),(8,.any),(9,.any),(10,.any),(17,.any)] q1n3 q1n8 q1n7 C v:=rgI (by kernel_rfl)
abbrev q1na:Type:=List Diii×Int×Int×Int×Int×Int
def q1nb (v:q1na):St:=⟨[(0,.fz Riii v.1),(1,i6 v.2.1),(2,.fn 40 []),(8,i6 v.2.2.1),(9,i6 v.2.2.2.1),(10,i6 v.2.2.2.2.1),(11,i6 v.2.2.2.2.2)],[]⟩
def q1nc (C:q1mr) (v:q1n6):Dt q1na:=(Dt.ret (v.1,v.2.1,v.2.2.1,v.2.2.2.1,v.2.2.2.2.1,(IntKind.wrap .i64 (shrI .u64 (IntKind.wrap .u64 (IntKind.wrap .i64 (v.2.2.2.1+v.2.2.2.2.1))) (1:Int)))))
theorem q1nd C v:q2kg (regO (qdv f39) 4) false [(0,(.val Riii)),(1,.any),(2,.any),(8,.any),(9,.any),(10,.any),(11,.any)] q1n7 q1nc q1nb C v:=rgI (by kernel_rfl)
abbrev q1ne:Type:=List Diii×Int×Int×Int×Int×Int×Bool
def q1nf (v:q1ne):St:=⟨[(0,.fz Riii v.1),(1,i6 v.2.1),(2,.fn 40 []),(8,i6 v.2.2.1),(9,i6 v.2.2.2.1),(10,i6 v.2.2.2.2.1),(11,i6 v.2.2.2.2.2.1),(31,.bool v.2.2.2.2.2.2)],[]⟩
def q1ng (C:q1mr) (v:q1na):Dt q1ne:=(Dt.ite (inB v.2.2.2.2.2 (List.length v.1)) (Dt.bnd (C.1 (((elt ziii v.1 (v.2.2.2.2.2).toNat).1,(elt ziii v.1 (v.2.2.2.2.2).toNat).2.1,(elt ziii v.1 (v.2.2.2.2.2).toNat).2.2.1,()),(v.2.1,()),())) fun r1=>(Dt.ret (v.1,v.2.1,v.2.2.1,v.2.2.2.1,v.2.2.2.2.1,v.2.2.2.2.2,(decide (r1<(0:Int)))))) Dt.fail)
theorem q1nh C v:q2kg (regO (qdv f39) 5) false [(0,(.val Riii)),(1,.any),(2,.any),(8,.any),(9,.any),(10,.any),(11,.any),(31,.any)] q1nb q1ng q1nf C v:=rgI (by kernel_rfl)
def q1ni (C:q1mr) (v:q1ne):Dt q1n2:=(Dt.ret (v.1,v.2.1,v.2.2.1,(IntKind.wrap .i64 (v.2.2.2.2.2.1+(1:Int))),v.2.2.2.2.1))
theorem q1nj C v:q2kg (regO (qdv f39) 6) false [(0,(.val Riii)),(1,.any),(2,.any),(8,.any),(9,.any),(10,.any)] q1nf q1ni q1n3 C v:=rgI (by kernel_rfl)
def q1nk (C:q1mr) (v:q1ne):Dt q1n2:=(Dt.ret (v.1,v.2.1,v.2.2.1,v.2.2.2.1,v.2.2.2.2.2.1))
theorem q1nl C v:q2kg (regO (qdv f39) 7) false [(0,(.val Riii)),(1,.any),(2,.any),(8,.any),(9,.any),(10,.any)] q1nf q1nk q1n3 C v:=rgI (by kernel_rfl)
abbrev q1nm:Type:=Int×Bool
def q1nn (v:q1nm):St:=⟨[(6,i6 v.1),(7,.bool v.2)],[]⟩
def q1no (C:q1mr) (v:q1n6):Dt q1nm:=(Dt.ite (decide (v.2.2.2.1<v.2.2.1)) (Dt.ite (inB v.2.2.2.1 (List.length v.1)) (Dt.bnd (C.1 (((elt ziii v.1 (v.2.2.2.1).toNat).1,(elt ziii v.1 (v.2.2.2.1).toNat).2.1,(elt ziii v.1 (v.2.2.2.1).toNat).2.2.1,()),(v.2.1,()),())) fun r1=>(Dt.ret (v.2.2.2.1,(r1 == (0:Int))))) Dt.fail) (Dt.ret (v.2.2.2.1,false)))
theorem q1np C v:q2kg (regO (qdv f39) 8) false (an [6,7]) q1n7 q1no q1nn C v:=rgI (by kernel_rfl)
def q1nq (d:Nat) (self1:(List Diii×Int×Int×Int×Int)→Option q1mo) (x1:List Diii×Int×Int×Int×Int):Option q1mo :=
 (q1n8 (q1ms d) x1).eval fun y3 =>
 bif y3.2.2.2.2.2 then ((q1nc (q1ms d) y3).eval fun y4 =>
 (q1ng (q1ms d) y4).eval fun y5 =>
 bif y5.2.2.2.2.2.2 then ((q1ni (q1ms d) y5).eval fun y6 =>
 self1 y6) else ((q1nk (q1ms d) y5).eval fun y7 =>
 self1 y7)) else ((q1no (q1ms d) y3).eval fun y8 =>
 some y8)
def q1nr (d:Nat) (x:q1mn):Option q1mo :=
 (q1mw (q1ms d) (x.1.1,x.2.1.1)).eval fun y0 =>
 (q1n0 (q1ms d) y0).eval fun y1 =>
 (q1n4 (q1ms d) y1).eval fun y2 =>
 iter (q1nq d ) d y2
theorem q1ns (d:Nat):COK prog (q1mq (q1nr d)):=by
 have hm:prog.follows .mixedOrders=true:=mixed
 have hT:=tys
 have hC0:OrcOK prog (orc (q1mt (q1ms d))):=qdp (by
  intro S hS
  simp only [q1mt,List.mem_cons,List.not_mem_nil,or_false] at hS
  subst hS;exact q1ml d)
 have hC:OrcOK prog (orc (q1mt (q1ms d))):=hC0
 refine q9e (c:=qdv f39) (fn:=f39) hT (by kernel_rfl) (by kernel_rfl) (by decide) fun x r h w0 φ0 Q hend=>?_
 replace h:q1nr d x=some r:=h
 unfold q1nr at h
 show Run prog w0 φ0 49 (qdv f39) ⟨[(0,.fz Riii x.1.1),(1,.int .i64 x.2.1.1),(2,.fn 40 [])],[]⟩ Q
 refine q2jr hm hT hC (q1mx (q1ms d) (x.1.1,x.2.1.1)) h fun y0 h=>?_
 refine q2jr hm hT hC (q1n1 (q1ms d) y0) h fun y1 h=>?_
 refine q2jr hm hT hC (q1n5 (q1ms d) y1) h fun y2 h=>?_
 refine q8x (q8y ?_)
 refine q93 (G:=iter (q1nq d )) (S:=(fun x1=>⟨[(0,.fz Riii x1.1),(1,i6 x1.2.1),(2,.fn 40 []),(8,i6 x1.2.2.1),(9,i6 x1.2.2.2.1),(10,i6 x1.2.2.2.2)],[]⟩:List Diii×Int×Int×Int×Int→St)) (fun _=>rfl) ?_ d _ h
 intro n1 x1 h K1 hn1
 replace h:q1nq d  (iter (q1nq d ) n1) x1=some r:=h
 generalize iter (q1nq d ) n1=self1 at h hn1
 unfold q1nq at h
 refine q8x ?_
 refine q2jr hm hT hC (q1n9 (q1ms d) x1) h fun y3 h=>?_
 refine q91 (v:=y3.2.2.2.2.2) (by kernel_rfl) h ?_ ?_
 ·
  intro h
  refine q8t (q8j (q8y ?_))
  refine q2jr hm hT hC (q1nd (q1ms d) y3) h fun y4 h=>?_
  refine q2jr hm hT hC (q1nh (q1ms d) y4) h fun y5 h=>?_
  refine q91 (v:=y5.2.2.2.2.2.2) (by kernel_rfl) h ?_ ?_
  ·
   intro h
   refine q92 hm hT hC (q1nj (q1ms d) y5) h ?_
   intro y6 h
   refine q8m ?_
   exact hn1 _ h
  ·
   intro h
   refine q92 hm hT hC (q1nl (q1ms d) y5) h ?_
   intro y7 h
   refine q8m ?_
   exact hn1 _ h
 ·
  intro h
  refine q8v (q8k (q8k (q8o (q8j ?_))))
  refine q2jr hm hT hC (q1np (q1ms d) y3) h fun y8 h=>?_
  refine q8w ?_
  cases h
  exact (hend _ (by kernel_rfl)).2
abbrev q1nt:List Pk:=[.row qka true,.row Ri false]
abbrev q1nu:Type:=qkb×Di×Unit
abbrev q1nv:Type:=Int×Int×Int×Bool
def q1nw (r:q1nv):LV×List Ob:=(.tup [.agg [.int .i64 r.1,.int .i64 r.2.1,.int .i64 r.2.2.1],.bool r.2.2.2],[])
def q1nx (F:q1nu→Option q1nv):Go.Tx.Spec:=⟨21,q1nt,q1nv,F,q1nw⟩
abbrev q1ny:Type:=(q1mn→Option q1mo)×Unit
def q1nz (d:Nat):q1ny:=(q1nr d,())
def q1o0 (C:q1ny):List Go.Tx.Spec:=[q1mq C.1]
abbrev q1o1:Type:=List Diii×Int
def q1o2 (v:q1o1):St:=⟨[(0,.agg [.fz Riii v.1]),(1,i6 v.2)],[]⟩
abbrev q1o3:Type:=Int×List Diii×Int×Int×Int
def q1o4 (v:q1o3):St:=⟨[(1,i6 v.1),(2,.ptr 0 0),(4,.ptr 1 0)],[.cells [.fz Riii v.2.1],.cells [i6 v.2.2.1,i6 v.2.2.2.1,i6 v.2.2.2.2]]⟩
def q1o5 (C:q1ny) (v:q1o1):Dt q1o3:=(Dt.ret (v.2,v.1,(0:Int),(0:Int),(0:Int)))
abbrev q2kh {V Y:Type}:=@rg q1ny V Y tysT (fun C=>(orc (q1o0 C))) 23
theorem q1o6 C v:q2kh (regO (qdv f21) 0) false [(1,.any),(2,(.box [.val Riii])),(4,.any)] q1o2 q1o5 q1o4 C v:=rgI (by kernel_rfl)
abbrev q1o7:Type:=Int×Bool×List Diii×Int×Int×Int
def q1o8 (v:q1o7):St:=⟨[(2,.ptr 0 0),(4,.ptr 1 0),(6,i6 v.1),(7,.bool v.2.1)],[.cells [.fz Riii v.2.2.1],.cells [i6 v.2.2.2.1,i6 v.2.2.2.2.1,i6 v.2.2.2.2.2]]⟩
def q1o9 (C:q1ny) (v:q1o3):Dt q1o7:=(Dt.bnd (C.1 ((v.2.1,()),(v.1,()),(()),())) fun r1=>(Dt.ret (r1.1,r1.2,v.2.1,v.2.2.1,v.2.2.2.1,v.2.2.2.2)))
theorem q1oa C v:q2kh (regO (qdv f21) 1) false [(2,(.box [.val Riii])),(4,.any),(6,.any),(7,.any)] q1o4 q1o9 q1o8 C v:=rgI (by kernel_rfl)
abbrev q1ob:Type:=Int×Bool×List Diii×Int×Int×Int
def q1oc (v:q1ob):St:=⟨[(2,.ptr 0 0),(4,.ptr 1 0),(6,i6 v.1),(16,.bool v.2.1)],[.cells [.fz Riii v.2.2.1],.cells [i6 v.2.2.2.1,i6 v.2.2.2.2.1,i6 v.2.2.2.2.2]]⟩
def q1od (C:q1ny) (v:q1o7):Dt q1ob:=(Dt.ret (v.1,(!v.2.1),v.2.2.1,v.2.2.2.1,v.2.2.2.2.1,v.2.2.2.2.2))
theorem q1oe C v:q2kh (regO (qdv f21) 2) false [(2,(.box [.val Riii])),(4,.any),(6,.any),(16,.any)] q1o8 q1od q1oc C v:=rgI (by kernel_rfl)
abbrev q1of:Type:=Bool×Int×Int×Int
def q1og (v:q1of):St:=⟨[(4,.ptr 0 0),(5,.bool v.1)],[.cells [i6 v.2.1,i6 v.2.2.1,i6 v.2.2.2]]⟩
def q1oh (C:q1ny) (v:q1ob):Dt q1of:=(Dt.ret (false,(0:Int),(0:Int),(0:Int)))
theorem q1oi C v:q2kh (regO (qdv f21) 3) false (an [4,5]) q1oc q1oh q1og C v:=rgI (by kernel_rfl)
def q1oj (C:q1ny) (v:q1ob):Dt q1of:=(Dt.ite (inB v.1 (List.length v.2.2.1)) (Dt.ret (true,(elt ziii v.2.2.1 (v.1).toNat).1,(elt ziii v.2.2.1 (v.1).toNat).2.1,(elt ziii v.2.2.1 (v.1).toNat).2.2.1)) Dt.fail)
theorem q1ok C v:q2kh (regO (qdv f21) 4) false (an [4,5]) q1oc q1oj q1og C v:=rgI (by kernel_rfl)
def q1ol (d:Nat) (x:q1nu):Option q1nv :=
 (q1o5 (q1nz d) (x.1.1,x.2.1.1)).eval fun y0 =>
 (q1o9 (q1nz d) y0).eval fun y1 =>
 (q1od (q1nz d) y1).eval fun y2 =>
 bif y2.2.1 then ((q1oh (q1nz d) y2).eval fun y3 =>
 some (y3.2.1,y3.2.2.1,y3.2.2.2,y3.1)) else ((q1oj (q1nz d) y2).eval fun y4 =>
 some (y4.2.1,y4.2.2.1,y4.2.2.2,y4.1))
theorem q1om (d:Nat):COK prog (q1nx (q1ol d)):=by
 have hm:prog.follows .mixedOrders=true:=mixed
 have hT:=tys
 have hC0:OrcOK prog (orc (q1o0 (q1nz d))):=qdp (by
  intro S hS
  simp only [q1o0,List.mem_cons,List.not_mem_nil,or_false] at hS
  subst hS;exact q1ns d)
 have hC:OrcOK prog (orc (q1o0 (q1nz d))):=hC0
 refine q9e (c:=qdv f21) (fn:=f21) hT (by kernel_rfl) (by kernel_rfl) (by decide) fun x r h w0 φ0 Q hend=>?_
 replace h:q1ol d x=some r:=h
 unfold q1ol at h
 show Run prog w0 φ0 23 (qdv f21) ⟨[(0,.agg [.fz Riii x.1.1]),(1,.int .i64 x.2.1.1)],[]⟩ Q
 refine q2jr hm hT hC (q1o6 (q1nz d) (x.1.1,x.2.1.1)) h fun y0 h=>?_
 refine q2jr hm hT hC (q1oa (q1nz d) y0) h fun y1 h=>?_
 refine q8x ?_
 refine q2jr hm hT hC (q1oe (q1nz d) y1) h fun y2 h=>?_
 refine q91 (v:=y2.2.1) (by kernel_rfl) h ?_ ?_
 ·
  intro h
  refine q2jr hm hT hC (q1oi (q1nz d) y2) h fun y3 h=>?_
  refine q8w (q8l ?_)
  cases h
  exact (hend _ (by kernel_rfl)).2
 ·
  intro h
  refine q8t (q8j ?_)
  refine q2jr hm hT hC (q1ok (q1nz d) y2) h fun y4 h=>?_
  refine q8w ?_
  cases h
  exact (hend _ (by kernel_rfl)).2
abbrev q1on:List Pk:=[.row qka true,.row qka false,.row qka false]
abbrev q1oo:Type:=qkb×qkb×qkb×Unit
abbrev q1op:Type:=List Diii×Int
def q1oq (r:q1op):LV×List Ob:=(.tup [.rs 0,.int .i64 r.2],[.rows Riii r.1])
def q1or (F:q1oo→Option q1op):Go.Tx.Spec:=⟨8,q1on,q1op,F,q1oq⟩
abbrev q1os:Type:=(q1a6→Option q1a7)×(qq7→Option qq8)×(q1nu→Option q1nv)×(q1i8→Option q1i9)×(q169→Option q16a)×(q1fg→Option q1fh)×(q15v→Option q15w)×(q1de→Option q1df)×(qpp→Option qpq)×(q13u→Option q13v)×Unit
def q1ot (d:Nat):q1os:=(q1bi d,qqc d,q1ol d,q1jy d,q16u d,q1h7 d,q160 d,q1e8 d,qpu d,q151 d,())
def q1ou (C:q1os):List Go.Tx.Spec:=[q1a9 C.1,qqa C.2.1,q1nx C.2.2.1,q1ib C.2.2.2.1,q16c C.2.2.2.2.1,q1dh C.2.2.2.2.2.2.2.1,qps C.2.2.2.2.2.2.2.2.1,q13x C.2.2.2.2.2.2.2.2.2.1]
abbrev q1ov:Type:=List Diii×List Diii×List Diii
def q1ow (v:q1ov):St:=⟨[(0,.agg [.fz Riii v.1]),(1,.fz Riii v.2.1),(2,.fz Riii v.2.2)],[]⟩
abbrev q1ox:Type:=List Diii×List Diii×List Diii
def q1oy (v:q1ox):St:=⟨[(1,.fz Riii v.1),(2,.fz Riii v.2.1),(3,.ptr 0 0)],[.cells [.fz Riii v.2.2]]⟩
def q1oz (C:q1os) (v:q1ov):Dt q1ox:=(Dt.ret (v.2.1,v.2.2,v.1))
abbrev q2ki {V Y:Type}:=@rg q1os V Y tysT (fun C=>(orcW (q15x C.2.2.2.2.2.2.1) (orcC (q1fi C.2.2.2.2.2.1) (orcS 23 24 Rii C.2.2.2.2.1 (orc (q1ou C)))))) 188
theorem q1p0 C v:q2ki (regO (qdv f8) 0) false [(1,(.val Riii)),(2,(.val Riii)),(3,(.box [.val Riii]))] q1ow q1oz q1oy C v:=rgI (by kernel_rfl)
abbrev q1p1:Type:=List Diii×List Diii×Int×List Diii
def q1p2 (v:q1p1):St:=⟨[(1,.fz Riii v.1),(2,.fz Riii v.2.1),(3,.ptr 0 0),(8,i6 v.2.2.1)],[.cells [.fz Riii v.2.2.2]]⟩
def q1p3 (C:q1os) (v:q1ox):Dt q1p1:=(Dt.bnd (C.2.1 ((v.2.2,()),())) fun r1=>(Dt.ret (v.1,v.2.1,r1,v.2.2)))
theorem q1p4 C v:q2ki (regO (qdv f8) 1) false [(1,(.val Riii)),(2,(.val Riii)),(3,(.box [.val Riii])),(8,.any)] q1oy q1p3 q1p2 C v:=rgI (by kernel_rfl)
abbrev q1p5:Type:=List Diii×List Diii×Int×Bool×List Diii
def q1p6 (v:q1p5):St:=⟨[(1,.fz Riii v.1),(2,.fz Riii v.2.1),(3,.ptr 0 0),(8,i6 v.2.2.1),(35,.bool v.2.2.2.1)],[.cells [.fz Riii v.2.2.2.2]]⟩
def q1p7 (C:q1os) (v:q1p1):Dt q1p5:=(Dt.ret (v.1,v.2.1,v.2.2.1,(v.2.2.1 != (0:Int)),v.2.2.2))
theorem q1p8 C v:q2ki (regO (qdv f8) 2) false [(1,(.val Riii)),(2,(.val Riii)),(3,(.box [.val Riii])),(8,.any),(35,.any)] q1p2 q1p7 q1p6 C v:=rgI (by kernel_rfl)
abbrev q1p9:Type:=Int×List Diii
def q1pa (v:q1p9):St:=⟨[(6,.rs 0),(7,i6 v.1)],[.rows Riii v.2]⟩
def q1pb (C:q1os) (v:q1p5):Dt q1p9:=(Dt.ret (v.2.2.1,([]:List Diii)))
theorem q1pc C v:q2ki (regO (qdv f8) 3) false [(6,(.own Riii)),(7,.any)] q1p6 q1pb q1pa C v:=rgI (by kernel_rfl)
abbrev q1pd:Type:=List Diii×List Diii×Int×List Diii
def q1pe (v:q1pd):St:=⟨[(1,.fz Riii v.1),(2,.fz Riii v.2.1),(3,.ptr 0 0),(9,i6 v.2.2.1)],[.cells [.fz Riii v.2.2.2]]⟩
def q1pf (C:q1os) (v:q1p5):Dt q1pd:=(Dt.bnd (C.1 ((v.1,()),())) fun r1=>(Dt.bnd (C.1 ((v.2.1,()),())) fun r2=>(Dt.ret (v.1,v.2.1,(tmax r1 r2),v.2.2.2.2))))
theorem q1pg C v:q2ki (regO (qdv f8) 4) false [(1,(.val Riii)),(2,(.val Riii)),(3,(.box [.val Riii])),(9,.any)] q1p6 q1pf q1pe C v:=rgI (by kernel_rfl)
abbrev q1ph:Type:=List Diii×List Diii×Int×Bool×List Diii
def q1pi (v:q1ph):St:=⟨[(1,.fz Riii v.1),(2,.fz Riii v.2.1),(3,.ptr 0 0),(9,i6 v.2.2.1),(43,.bool v.2.2.2.1)],[.cells [.fz Riii v.2.2.2.2]]⟩
def q1pj (C:q1os) (v:q1pd):Dt q1ph:=(Dt.ret (v.1,v.2.1,v.2.2.1,(v.2.2.1 != (0:Int)),v.2.2.2))
theorem q1pk C v:q2ki (regO (qdv f8) 5) false [(1,(.val Riii)),(2,(.val Riii)),(3,(.box [.val Riii])),(9,.any),(43,.any)] q1pe q1pj q1pi C v:=rgI (by kernel_rfl)
def q1pl (C:q1os) (v:q1ph):Dt q1p9:=(Dt.ret (v.2.2.1,([]:List Diii)))
theorem q1pm C v:q2ki (regO (qdv f8) 6) false [(6,(.own Riii)),(7,.any)] q1pi q1pl q1pa C v:=rgI (by kernel_rfl)
abbrev q1pn:Type:=List Diii×List Diii×Bool×List Diii
def q1po (v:q1pn):St:=⟨[(1,.fz Riii v.1),(2,.fz Riii v.2.1),(3,.ptr 0 0),(53,.bool v.2.2.1)],[.cells [.fz Riii v.2.2.2]]⟩
def q1pp (C:q1os) (v:q1ph):Dt q1pn:=(Dt.ite (inB (0:Int) (List.length v.1)) (Dt.ite (inB (0:Int) (List.length v.2.1)) (Dt.ret (v.1,v.2.1,(!(((elt ziii v.1 ((0:Int)).toNat).1 == (elt ziii v.2.1 ((0:Int)).toNat).1)&&(((elt ziii v.1 ((0:Int)).toNat).2.1 == (elt ziii v.2.1 ((0:Int)).toNat).2.1)&&true))),v.2.2.2.2)) Dt.fail) Dt.fail)
theorem q1pq C v:q2ki (regO (qdv f8) 7) true [(1,(.val Riii)),(2,(.val Riii)),(3,(.box [.val Riii])),(53,.any)] q1pi q1pp q1po C v:=rgI (by kernel_rfl)
def q1pr (C:q1os) (v:q1pn):Dt q1p9:=(Dt.ret ((2:Int),([]:List Diii)))
theorem q1ps C v:q2ki (regO (qdv f8) 8) false [(6,(.own Riii)),(7,.any)] q1po q1pr q1pa C v:=rgI (by kernel_rfl)
abbrev q1pt:Type:=List Diii×List Diii×Int×Int×List Diii×List qkb
def q1pu (v:q1pt):St:=⟨[(1,.fz Riii v.1),(2,.fz Riii v.2.1),(3,.ptr 0 0),(56,.rs 1),(57,i6 v.2.2.1),(58,i6 v.2.2.2.1)],[.cells [.fz Riii v.2.2.2.2.1],.rows qka v.2.2.2.2.2]⟩
def q1pv (C:q1os) (v:q1pn):Dt q1pt:=(Dt.ret (v.1,v.2.1,(List.length ([(v.1,()),(v.2.1,())]:List qkb):Int),(0:Int),v.2.2.2,([(v.1,()),(v.2.1,())]:List qkb)))
theorem q1pw C v:q2ki (regO (qdv f8) 9) false [(1,(.val Riii)),(2,(.val Riii)),(3,(.box [.val Riii])),(56,(.own qka)),(57,.any),(58,.any)] q1po q1pv q1pu C v:=rgI (by kernel_rfl)
abbrev q1px:Type:=List Diii×List Diii×Int×Int×Bool×List Diii×List qkb
def q1py (v:q1px):St:=⟨[(1,.fz Riii v.1),(2,.fz Riii v.2.1),(3,.ptr 0 0),(56,.rs 1),(57,i6 v.2.2.1),(58,i6 v.2.2.2.1),(59,.bool v.2.2.2.2.1)],[.cells [.fz Riii v.2.2.2.2.2.1],.rows qka v.2.2.2.2.2.2]⟩
def q1pz (C:q1os) (v:q1pt):Dt q1px:=(Dt.ret (v.1,v.2.1,v.2.2.1,v.2.2.2.1,(decide (v.2.2.2.1<v.2.2.1)),v.2.2.2.2.1,v.2.2.2.2.2))
theorem q1q0 C v:q2ki (regO (qdv f8) 10) false [(1,(.val Riii)),(2,(.val Riii)),(3,(.box [.val Riii])),(56,(.own qka)),(57,.any),(58,.any),(59,.any)] q1pu q1pz q1py C v:=rgI (by kernel_rfl)
abbrev q1q1:Type:=List Diii×List Diii×List Diii×Int×Int×List Diii×List qkb
def q1q2 (v:q1q1):St:=⟨[(1,.fz Riii v.1),(2,.fz Riii v.2.1),(3,.ptr 0 0),(11,.fz Riii v.2.2.1),(56,.rs 1),(57,i6 v.2.2.2.1),(58,i6 v.2.2.2.2.1)],[.cells [.fz Riii v.2.2.2.2.2.1],.rows qka v.2.2.2.2.2.2]⟩
def q1q3 (C:q1os) (v:q1px):Dt q1q1:=(Dt.ite (inB v.2.2.2.1 (List.length v.2.2.2.2.2.2)) (Dt.ret (v.1,v.2.1,(elt qkc v.2.2.2.2.2.2 (v.2.2.2.1).toNat).1,v.2.2.1,v.2.2.2.1,v.2.2.2.2.2.1,v.2.2.2.2.2.2)) Dt.fail)
theorem q1q4 C v:q2ki (regO (qdv f8) 11) false [(1,(.val Riii)),(2,(.val Riii)),(3,(.box [.val Riii])),(11,(.val Riii)),(56,(.own qka)),(57,.any),(58,.any)] q1py q1q3 q1q2 C v:=rgI (by kernel_rfl)
abbrev q1q5:Type:=List Diii×List Diii×Int×Int×List Diii×Int×Int×List Diii×List qkb
def q1q6 (v:q1q5):St:=⟨[(1,.fz Riii v.1),(2,.fz Riii v.2.1),(3,.ptr 0 0),(56,.rs 1),(57,i6 v.2.2.1),(58,i6 v.2.2.2.1),(62,.fz Riii v.2.2.2.2.1),(63,i6 v.2.2.2.2.2.1),(64,i6 v.2.2.2.2.2.2.1)],[.cells [.fz Riii v.2.2.2.2.2.2.2.1],.rows qka v.2.2.2.2.2.2.2.2]⟩
def q1q7 (C:q1os) (v:q1q1):Dt q1q5:=(Dt.ret (v.1,v.2.1,v.2.2.2.1,v.2.2.2.2.1,v.2.2.1,(List.length v.2.2.1:Int),(0:Int),v.2.2.2.2.2.1,v.2.2.2.2.2.2))
theorem q1q8 C v:q2ki (regO (qdv f8) 12) false [(1,(.val Riii)),(2,(.val Riii)),(3,(.box [.val Riii])),(56,(.own qka)),(57,.any),(58,.any),(62,(.val Riii)),(63,.any),(64,.any)] q1q2 q1q7 q1q6 C v:=rgI (by kernel_rfl)
abbrev q1q9:Type:=List Diii×List Diii×Int×Int×List Diii×Int×Int×Bool×List Diii×List qkb
def q1qa (v:q1q9):St:=⟨[(1,.fz Riii v.1),(2,.fz Riii v.2.1),(3,.ptr 0 0),(56,.rs 1),(57,i6 v.2.2.1),(58,i6 v.2.2.2.1),(62,.fz Riii v.2.2.2.2.1),(63,i6 v.2.2.2.2.2.1),(64,i6 v.2.2.2.2.2.2.1),(65,.bool v.2.2.2.2.2.2.2.1)],[.cells [.fz Riii v.2.2.2.2.2.2.2.2.1],.rows qka v.2.2.2.2.2.2.2.2.2]⟩
def q1qb (C:q1os) (v:q1q5):Dt q1q9:=(Dt.ret (v.1,v.2.1,v.2.2.1,v.2.2.2.1,v.2.2.2.2.1,v.2.2.2.2.2.1,v.2.2.2.2.2.2.1,(decide (v.2.2.2.2.2.2.1<v.2.2.2.2.2.1)),v.2.2.2.2.2.2.2.1,v.2.2.2.2.2.2.2.2))
theorem q1qc C v:q2ki (regO (qdv f8) 13) false [(1,(.val Riii)),(2,(.val Riii)),(3,(.box [.val Riii])),(56,(.own qka)),(57,.any),(58,.any),(62,(.val Riii)),(63,.any),(64,.any),(65,.any)] q1q6 q1qb q1qa C v:=rgI (by kernel_rfl)
abbrev q1qd:Type:=List Diii×List Diii×Int×Int×List Diii×Int×Int×List Diii×Int×Int×Int×List qkb
def q1qe (v:q1qd):St:=⟨[(1,.fz Riii v.1),(2,.fz Riii v.2.1),(3,.ptr 0 0),(13,.ptr 1 0),(56,.rs 2),(57,i6 v.2.2.1),(58,i6 v.2.2.2.1),(62,.fz Riii v.2.2.2.2.1),(63,i6 v.2.2.2.2.2.1),(64,i6 v.2.2.2.2.2.2.1)],[.cells [.fz Riii v.2.2.2.2.2.2.2.1],.cells [i6 v.2.2.2.2.2.2.2.2.1,i6 v.2.2.2.2.2.2.2.2.2.1,i6 v.2.2.2.2.2.2.2.2.2.2.1],.rows qka v.2.2.2.2.2.2.2.2.2.2.2]⟩
def q1qf (C:q1os) (v:q1q9):Dt q1qd:=(Dt.ite (inB v.2.2.2.2.2.2.1 (List.length v.2.2.2.2.1)) (Dt.ret (v.1,v.2.1,v.2.2.1,v.2.2.2.1,v.2.2.2.2.1,v.2.2.2.2.2.1,v.2.2.2.2.2.2.1,v.2.2.2.2.2.2.2.2.1,(elt ziii v.2.2.2.2.1 (v.2.2.2.2.2.2.1).toNat).1,(elt ziii v.2.2.2.2.1 (v.2.2.2.2.2.2.1).toNat).2.1,(elt ziii v.2.2.2.2.1 (v.2.2.2.2.2.2.1).toNat).2.2.1,v.2.2.2.2.2.2.2.2.2)) Dt.fail)
theorem q1qg C v:q2ki (regO (qdv f8) 14) false [(1,(.val Riii)),(2,(.val Riii)),(3,(.box [.val Riii])),(13,.any),(56,(.own qka)),(57,.any),(58,.any),(62,(.val Riii)),(63,.any),(64,.any)] q1qa q1qf q1qe C v:=rgI (by kernel_rfl)
abbrev q1qh:Type:=List Diii×List Diii×Bool×Int×Int×List Diii×Int×Int×List Diii×List qkb
def q1qi (v:q1qh):St:=⟨[(1,.fz Riii v.1),(2,.fz Riii v.2.1),(3,.ptr 0 0),(15,.bool v.2.2.1),(56,.rs 1),(57,i6 v.2.2.2.1),(58,i6 v.2.2.2.2.1),(62,.fz Riii v.2.2.2.2.2.1),(63,i6 v.2.2.2.2.2.2.1),(64,i6 v.2.2.2.2.2.2.2.1)],[.cells [.fz Riii v.2.2.2.2.2.2.2.2.1],.rows qka v.2.2.2.2.2.2.2.2.2]⟩
def q1qj (C:q1os) (v:q1qd):Dt q1qh:=(Dt.bnd (C.2.2.1 ((v.2.2.2.2.2.2.2.1,()),(v.2.2.2.2.2.2.2.2.2.2.1,()),())) fun r1=>(Dt.ret (v.1,v.2.1,r1.2.2.2,v.2.2.1,v.2.2.2.1,v.2.2.2.2.1,v.2.2.2.2.2.1,v.2.2.2.2.2.2.1,v.2.2.2.2.2.2.2.1,v.2.2.2.2.2.2.2.2.2.2.2)))
theorem q1qk C v:q2ki (regO (qdv f8) 15) false [(1,(.val Riii)),(2,(.val Riii)),(3,(.box [.val Riii])),(15,.any),(56,(.own qka)),(57,.any),(58,.any),(62,(.val Riii)),(63,.any),(64,.any)] q1qe q1qj q1qi C v:=rgI (by kernel_rfl)
abbrev q1ql:Type:=List Diii×List Diii×Int×Int×List Diii×Int×Int×Bool×List Diii×List qkb
def q1qm (v:q1ql):St:=⟨[(1,.fz Riii v.1),(2,.fz Riii v.2.1),(3,.ptr 0 0),(56,.rs 1),(57,i6 v.2.2.1),(58,i6 v.2.2.2.1),(62,.fz Riii v.2.2.2.2.1),(63,i6 v.2.2.2.2.2.1),(64,i6 v.2.2.2.2.2.2.1),(76,.bool v.2.2.2.2.2.2.2.1)],[.cells [.fz Riii v.2.2.2.2.2.2.2.2.1],.rows qka v.2.2.2.2.2.2.2.2.2]⟩
def q1qn (C:q1os) (v:q1qh):Dt q1ql:=(Dt.ret (v.1,v.2.1,v.2.2.2.1,v.2.2.2.2.1,v.2.2.2.2.2.1,v.2.2.2.2.2.2.1,v.2.2.2.2.2.2.2.1,(!v.2.2.1),v.2.2.2.2.2.2.2.2.1,v.2.2.2.2.2.2.2.2.2))
theorem q1qo C v:q2ki (regO (qdv f8) 16) false [(1,(.val Riii)),(2,(.val Riii)),(3,(.box [.val Riii])),(56,(.own qka)),(57,.any),(58,.any),(62,(.val Riii)),(63,.any),(64,.any),(76,.any)] q1qi q1qn q1qm C v:=rgI (by kernel_rfl)
def q1qp (C:q1os) (v:q1ql):Dt q1p9:=(Dt.ret ((6:Int),([]:List Diii)))
theorem q1qq C v:q2ki (regO (qdv f8) 17) false [(6,(.own Riii)),(7,.any)] q1qm q1qp q1pa C v:=rgI (by kernel_rfl)
def q1qr (C:q1os) (v:q1ql):Dt q1q5:=(Dt.ret (v.1,v.2.1,v.2.2.1,v.2.2.2.1,v.2.2.2.2.1,v.2.2.2.2.2.1,(IntKind.wrap .i64 (v.2.2.2.2.2.2.1+(1:Int))),v.2.2.2.2.2.2.2.2.1,v.2.2.2.2.2.2.2.2.2))
theorem q1qs C v:q2ki (regO (qdv f8) 18) false [(1,(.val Riii)),(2,(.val Riii)),(3,(.box [.val Riii])),(56,(.own qka)),(57,.any),(58,.any),(62,(.val Riii)),(63,.any),(64,.any)] q1qm q1qr q1q6 C v:=rgI (by kernel_rfl)
def q1qt (C:q1os) (v:q1q9):Dt q1pt:=(Dt.ret (v.1,v.2.1,v.2.2.1,(IntKind.wrap .i64 (v.2.2.2.1+(1:Int))),v.2.2.2.2.2.2.2.2.1,v.2.2.2.2.2.2.2.2.2))
theorem q1qu C v:q2ki (regO (qdv f8) 19) false [(1,(.val Riii)),(2,(.val Riii)),(3,(.box [.val Riii])),(56,(.own qka)),(57,.any),(58,.any)] q1qa q1qt q1pu C v:=rgI (by kernel_rfl)
def q1qv (d:Nat) (self1:(List Diii×List Diii×Int×Int×List Diii×List qkb)→Option q1op) (self2:(List Diii×List Diii×Int×Int×List Diii×Int×Int×List Diii×List qkb)→Option q1op) (x2:List Diii×List Diii×Int×Int×List Diii×Int×Int×List Diii×List qkb):Option q1op :=
 (q1qb (q1ot d) x2).eval fun y13 =>
 bif y13.2.2.2.2.2.2.2.1 then ((q1qf (q1ot d) y13).eval fun y14 =>
 (q1qj (q1ot d) y14).eval fun y15 =>
 (q1qn (q1ot d) y15).eval fun y16 =>
 bif y16.2.2.2.2.2.2.2.1 then ((q1qp (q1ot d) y16).eval fun y17 =>
 some (y17.2,y17.1)) else ((q1qr (q1ot d) y16).eval fun y18 =>
 self2 y18)) else ((q1qt (q1ot d) y13).eval fun y19 =>
 self1 y19)
abbrev q1qw:Type:=List Diii×List Diii×List Diii×List Dii
def q1qx (v:q1qw):St:=⟨[(1,.fz Riii v.1),(2,.fz Riii v.2.1),(3,.ptr 0 0),(16,.rs 1)],[.cells [.fz Riii v.2.2.1],.rows Rii v.2.2.2]⟩
def q1qy (C:q1os) (v:q1px):Dt q1qw:=(Dt.ret (v.1,v.2.1,v.2.2.2.2.2.1,([]:List Dii)))
theorem q1qz C v:q2ki (regO (qdv f8) 20) false [(1,(.val Riii)),(2,(.val Riii)),(3,(.box [.val Riii])),(16,(.own Rii))] q1py q1qy q1qx C v:=rgI (by kernel_rfl)
abbrev q1r0:Type:=List Diii×List Diii×Int×Int×List Diii×List Dii×List Diii
def q1r1 (v:q1r0):St:=⟨[(1,.fz Riii v.1),(2,.fz Riii v.2.1),(3,.ptr 0 0),(16,.rs 1),(82,.rs 2),(83,i6 v.2.2.1),(84,i6 v.2.2.2.1)],[.cells [.fz Riii v.2.2.2.2.1],.rows Rii v.2.2.2.2.2.1,.rows Riii v.2.2.2.2.2.2]⟩
def q1r2 (C:q1os) (v:q1qw):Dt q1r0:=(Dt.bnd (C.2.2.2.1 ((([(v.1,()),(v.2.1,())]:List qkb),()),())) fun r1=>(Dt.ret (v.1,v.2.1,(List.length r1:Int),(0:Int),v.2.2.1,v.2.2.2,r1)))
theorem q1r3 C v:q2ki (regO (qdv f8) 21) false [(1,(.val Riii)),(2,(.val Riii)),(3,(.box [.val Riii])),(16,(.own Rii)),(82,(.own Riii)),(83,.any),(84,.any)] q1qx q1r2 q1r1 C v:=rgI (by kernel_rfl)
abbrev q1r4:Type:=List Diii×List Diii×Int×Int×Bool×List Diii×List Dii×List Diii
def q1r5 (v:q1r4):St:=⟨[(1,.fz Riii v.1),(2,.fz Riii v.2.1),(3,.ptr 0 0),(16,.rs 1),(82,.rs 2),(83,i6 v.2.2.1),(84,i6 v.2.2.2.1),(85,.bool v.2.2.2.2.1)],[.cells [.fz Riii v.2.2.2.2.2.1],.rows Rii v.2.2.2.2.2.2.1,.rows Riii v.2.2.2.2.2.2.2]⟩
def q1r6 (C:q1os) (v:q1r0):Dt q1r4:=(Dt.ret (v.1,v.2.1,v.2.2.1,v.2.2.2.1,(decide (v.2.2.2.1<v.2.2.1)),v.2.2.2.2.1,v.2.2.2.2.2.1,v.2.2.2.2.2.2))
theorem q1r7 C v:q2ki (regO (qdv f8) 22) false [(1,(.val Riii)),(2,(.val Riii)),(3,(.box [.val Riii])),(16,(.own Rii)),(82,(.own Riii)),(83,.any),(84,.any),(85,.any)] q1r1 q1r6 q1r5 C v:=rgI (by kernel_rfl)
abbrev q1r8:Type:=List Diii×List Diii×Int×Int×List Diii×List Dii×Int×Int×Int×List Diii
def q1r9 (v:q1r8):St:=⟨[(1,.fz Riii v.1),(2,.fz Riii v.2.1),(3,.ptr 0 0),(16,.rs 1),(18,.ptr 2 0),(82,.rs 3),(83,i6 v.2.2.1),(84,i6 v.2.2.2.1)],[.cells [.fz Riii v.2.2.2.2.1],.rows Rii v.2.2.2.2.2.1,.cells [i6 v.2.2.2.2.2.2.1,i6 v.2.2.2.2.2.2.2.1,i6 v.2.2.2.2.2.2.2.2.1],.rows Riii v.2.2.2.2.2.2.2.2.2]⟩
def q1ra (C:q1os) (v:q1r4):Dt q1r8:=(Dt.ite (inB v.2.2.2.1 (List.length v.2.2.2.2.2.2.2)) (Dt.ret (v.1,v.2.1,v.2.2.1,v.2.2.2.1,v.2.2.2.2.2.1,v.2.2.2.2.2.2.1,(elt ziii v.2.2.2.2.2.2.2 (v.2.2.2.1).toNat).1,(elt ziii v.2.2.2.2.2.2.2 (v.2.2.2.1).toNat).2.1,(elt ziii v.2.2.2.2.2.2.2 (v.2.2.2.1).toNat).2.2.1,v.2.2.2.2.2.2.2)) Dt.fail)
theorem q1rb C v:q2ki (regO (qdv f8) 23) false [(1,(.val Riii)),(2,(.val Riii)),(3,(.box [.val Riii])),(16,(.own Rii)),(18,.any),(82,(.own Riii)),(83,.any),(84,.any)] q1r5 q1ra q1r9 C v:=rgI (by kernel_rfl)
def q1rc (C:q1os) (v:q1r8):Dt q1r0:=(Dt.ite (apB (List.length v.2.2.2.2.2.1) (List.length ([(v.2.2.2.2.2.2.1,v.2.2.2.2.2.2.2.1,())]:List Dii))) (Dt.ret (v.1,v.2.1,v.2.2.1,v.2.2.2.1,v.2.2.2.2.1,(v.2.2.2.2.2.1++([(v.2.2.2.2.2.2.1,v.2.2.2.2.2.2.2.1,())]:List Dii)),v.2.2.2.2.2.2.2.2.2)) Dt.fail)
theorem q1rd C v:q2ki (regO (qdv f8) 24) false [(1,(.val Riii)),(2,(.val Riii)),(3,(.box [.val Riii])),(16,(.own Rii)),(82,(.own Riii)),(83,.any),(84,.any)] q1r9 q1rc q1r1 C v:=rgI (by kernel_rfl)
def q1re (C:q1os) (v:q1r0):Dt q1r0:=(Dt.ret (v.1,v.2.1,v.2.2.1,(IntKind.wrap .i64 (v.2.2.2.1+(1:Int))),v.2.2.2.2.1,v.2.2.2.2.2.1,v.2.2.2.2.2.2))
theorem q1rf C v:q2ki (regO (qdv f8) 25) false [(1,(.val Riii)),(2,(.val Riii)),(3,(.box [.val Riii])),(16,(.own Rii)),(82,(.own Riii)),(83,.any),(84,.any)] q1r1 q1re q1r1 C v:=rgI (by kernel_rfl)
def q1rg (C:q1os) (v:q1r4):Dt q1qw:=(Dt.bnd (qsr (τ:=Rii) C.2.2.2.2.1 v.2.2.2.2.2.2.1) fun r1=>(Dt.ret (v.1,v.2.1,v.2.2.2.2.2.1,r1)))
theorem q1rh C v:q2ki (regO (qdv f8) 26) false [(1,(.val Riii)),(2,(.val Riii)),(3,(.box [.val Riii])),(16,(.own Rii))] q1r5 q1rg q1qx C v:=rgI (by kernel_rfl)
def q1ri (C:q1os) (v:q1qw):Dt q1qw:=(Dt.bnd (C.2.2.2.2.2.1 ((()),(()),v.2.2.2)) fun r1=>(Dt.ret (v.1,v.2.1,v.2.2.1,r1)))
theorem q1rj C v:q2ki (regO (qdv f8) 27) false [(1,(.val Riii)),(2,(.val Riii)),(3,(.box [.val Riii])),(16,(.own Rii))] q1qx q1ri q1qx C v:=rgI (by kernel_rfl)
abbrev q1rk:Type:=List Diii×List Diii×List Diii×List Dii×List Diii
def q1rl (v:q1rk):St:=⟨[(1,.fz Riii v.1),(2,.fz Riii v.2.1),(3,.ptr 0 0),(16,.rs 1),(19,.ptr 2 0)],[.cells [.fz Riii v.2.2.1],.rows Rii v.2.2.2.1,.cells [.rs 3],.rows Riii v.2.2.2.2]⟩
def q1rm (C:q1os) (v:q1qw):Dt q1rk:=(Dt.ret (v.1,v.2.1,v.2.2.1,v.2.2.2,([]:List Diii)))
theorem q1rn C v:q2ki (regO (qdv f8) 28) false [(1,(.val Riii)),(2,(.val Riii)),(3,(.box [.val Riii])),(16,(.own Rii)),(19,(.box [.own Riii]))] q1qx q1rm q1rl C v:=rgI (by kernel_rfl)
abbrev q1ro:Type:=List Diii×List Diii×List Diii×List Dii×List Diii
def q1rp (v:q1ro):St:=⟨[(1,.fz Riii v.1),(2,.fz Riii v.2.1),(3,.ptr 0 0),(16,.rs 1),(19,.ptr 2 0),(20,.fn 26 [.ptr 2 0])],[.cells [.fz Riii v.2.2.1],.rows Rii v.2.2.2.1,.cells [.rs 3],.rows Riii v.2.2.2.2]⟩
def q1rq (C:q1os) (v:q1rk):Dt q1ro:=(Dt.ret (v.1,v.2.1,v.2.2.1,v.2.2.2.1,v.2.2.2.2))
theorem q1rr C v:q2ki (regO (qdv f8) 29) false [(1,(.val Riii)),(2,(.val Riii)),(3,(.box [.val Riii])),(16,(.own Rii)),(19,(.box [.own Riii])),(20,.any)] q1rl q1rq q1rp C v:=rgI (by kernel_rfl)
abbrev q1rs:Type:=List Diii×List Diii×Int×Int×List Diii×List Dii×List Diii
def q1rt (v:q1rs):St:=⟨[(1,.fz Riii v.1),(2,.fz Riii v.2.1),(3,.ptr 0 0),(16,.rs 1),(19,.ptr 2 0),(20,.fn 26 [.ptr 2 0]),(99,.rs 1),(100,i6 v.2.2.1),(101,i6 v.2.2.2.1)],[.cells [.fz Riii v.2.2.2.2.1],.rows Rii v.2.2.2.2.2.1,.cells [.rs 3],.rows Riii v.2.2.2.2.2.2]⟩
def q1ru (C:q1os) (v:q1ro):Dt q1rs:=(Dt.ret (v.1,v.2.1,(List.length v.2.2.2.1:Int),(0:Int),v.2.2.1,v.2.2.2.1,v.2.2.2.2))
theorem q1rv C v:q2ki (regO (qdv f8) 30) false [(1,(.val Riii)),(2,(.val Riii)),(3,(.box [.val Riii])),(16,(.own Rii)),(19,(.box [.own Riii])),(20,.any),(99,(.own Rii)),(100,.any),(101,.any)] q1rp q1ru q1rt C v:=rgI (by kernel_rfl)
abbrev q1rw:Type:=List Diii×List Diii×Int×Int×Bool×List Diii×List Dii×List Diii
def q1rx (v:q1rw):St:=⟨[(1,.fz Riii v.1),(2,.fz Riii v.2.1),(3,.ptr 0 0),(16,.rs 1),(19,.ptr 2 0),(20,.fn 26 [.ptr 2 0]),(99,.rs 1),(100,i6 v.2.2.1),(101,i6 v.2.2.2.1),(102,.bool v.2.2.2.2.1)],[.cells [.fz Riii v.2.2.2.2.2.1],.rows Rii v.2.2.2.2.2.2.1,.cells [.rs 3],.rows Riii v.2.2.2.2.2.2.2]⟩
def q1ry (C:q1os) (v:q1rs):Dt q1rw:=(Dt.ret (v.1,v.2.1,v.2.2.1,v.2.2.2.1,(decide (v.2.2.2.1<v.2.2.1)),v.2.2.2.2.1,v.2.2.2.2.2.1,v.2.2.2.2.2.2))
theorem q1rz C v:q2ki (regO (qdv f8) 31) false [(1,(.val Riii)),(2,(.val Riii)),(3,(.box [.val Riii])),(16,(.own Rii)),(19,(.box [.own Riii])),(20,.any),(99,(.own Rii)),(100,.any),(101,.any),(102,.any)] q1rt q1ry q1rx C v:=rgI (by kernel_rfl)
abbrev q1s0:Type:=List Diii×List Diii×Int×Int×Int×List Diii×List Dii×List Diii×Int×Int
def q1s1 (v:q1s0):St:=⟨[(1,.fz Riii v.1),(2,.fz Riii v.2.1),(3,.ptr 0 0),(16,.rs 1),(19,.ptr 2 0),(20,.fn 26 [.ptr 2 0]),(21,i6 v.2.2.1),(22,.ptr 4 0),(99,.rs 1),(100,i6 v.2.2.2.1),(101,i6 v.2.2.2.2.1)],[.cells [.fz Riii v.2.2.2.2.2.1],.rows Rii v.2.2.2.2.2.2.1,.cells [.rs 3],.rows Riii v.2.2.2.2.2.2.2.1,.cells [i6 v.2.2.2.2.2.2.2.2.1,i6 v.2.2.2.2.2.2.2.2.2]]⟩
def q1s2 (C:q1os) (v:q1rw):Dt q1s0:=(Dt.ite (inB v.2.2.2.1 (List.length v.2.2.2.2.2.2.1)) (Dt.ret (v.1,v.2.1,v.2.2.2.1,v.2.2.1,v.2.2.2.1,v.2.2.2.2.2.1,v.2.2.2.2.2.2.1,v.2.2.2.2.2.2.2,(elt zii v.2.2.2.2.2.2.1 (v.2.2.2.1).toNat).1,(elt zii v.2.2.2.2.2.2.1 (v.2.2.2.1).toNat).2.1)) Dt.fail)
theorem q1s3 C v:q2ki (regO (qdv f8) 32) false [(1,(.val Riii)),(2,(.val Riii)),(3,(.box [.val Riii])),(16,(.own Rii)),(19,(.box [.own Riii])),(20,.any),(21,.any),(22,.any),(99,(.own Rii)),(100,.any),(101,.any)] q1rx q1s2 q1s1 C v:=rgI (by kernel_rfl)
abbrev q1s4:Type:=List Diii×List Diii×Int×Int×Int×List Diii×List Dii×List Diii×Int×Int×Int×Int×Int
def q1s5 (v:q1s4):St:=⟨[(1,.fz Riii v.1),(2,.fz Riii v.2.1),(3,.ptr 0 0),(16,.rs 1),(19,.ptr 2 0),(20,.fn 26 [.ptr 2 0]),(21,i6 v.2.2.1),(22,.ptr 4 0),(23,.ptr 5 0),(99,.rs 1),(100,i6 v.2.2.2.1),(101,i6 v.2.2.2.2.1)],[.cells [.fz Riii v.2.2.2.2.2.1],.rows Rii v.2.2.2.2.2.2.1,.cells [.rs 3],.rows Riii v.2.2.2.2.2.2.2.1,.cells [i6 v.2.2.2.2.2.2.2.2.1,i6 v.2.2.2.2.2.2.2.2.2.1],.cells [i6 v.2.2.2.2.2.2.2.2.2.2.1,i6 v.2.2.2.2.2.2.2.2.2.2.2.1,i6 v.2.2.2.2.2.2.2.2.2.2.2.2]]⟩
def q1s6 (C:q1os) (v:q1s0):Dt q1s4:=(Dt.bnd (C.2.2.2.2.2.2.2.1 ((v.1,()),(v.2.2.2.2.2.2.2.2.1,v.2.2.2.2.2.2.2.2.2,()),())) fun r1=>(Dt.ite (inB r1 (List.length v.1)) (Dt.bnd (C.2.2.1 ((v.2.2.2.2.2.1,()),((elt ziii v.1 (r1).toNat).2.2.1,()),())) fun r2=>(Dt.ret (v.1,v.2.1,v.2.2.1,v.2.2.2.1,v.2.2.2.2.1,v.2.2.2.2.2.1,v.2.2.2.2.2.2.1,v.2.2.2.2.2.2.2.1,v.2.2.2.2.2.2.2.2.1,v.2.2.2.2.2.2.2.2.2,r2.1,r2.2.1,r2.2.2.1))) Dt.fail))
theorem q1s7 C v:q2ki (regO (qdv f8) 33) true [(1,(.val Riii)),(2,(.val Riii)),(3,(.box [.val Riii])),(16,(.own Rii)),(19,(.box [.own Riii])),(20,.any),(21,.any),(22,.any),(23,.any),(99,(.own Rii)),(100,.any),(101,.any)] q1s1 q1s6 q1s5 C v:=rgI (by kernel_rfl)
abbrev q1s8:Type:=List Diii×List Diii×Int×Int×Int×List Diii×List Dii×List Diii×Int×Int×Int×Int×Int×Int×Int×Int
def q1s9 (v:q1s8):St:=⟨[(1,.fz Riii v.1),(2,.fz Riii v.2.1),(3,.ptr 0 0),(16,.rs 1),(19,.ptr 2 0),(20,.fn 26 [.ptr 2 0]),(21,i6 v.2.2.1),(22,.ptr 4 0),(23,.ptr 5 0),(25,.ptr 6 0),(99,.rs 1),(100,i6 v.2.2.2.1),(101,i6 v.2.2.2.2.1)],[.cells [.fz Riii v.2.2.2.2.2.1],.rows Rii v.2.2.2.2.2.2.1,.cells [.rs 3],.rows Riii v.2.2.2.2.2.2.2.1,.cells [i6 v.2.2.2.2.2.2.2.2.1,i6 v.2.2.2.2.2.2.2.2.2.1],.cells [i6 v.2.2.2.2.2.2.2.2.2.2.1,i6 v.2.2.2.2.2.2.2.2.2.2.2.1,i6 v.2.2.2.2.2.2.2.2.2.2.2.2.1],.cells [i6 v.2.2.2.2.2.2.2.2.2.2.2.2.2.1,i6 v.2.2.2.2.2.2.2.2.2.2.2.2.2.2.1,i6 v.2.2.2.2.2.2.2.2.2.2.2.2.2.2.2]]⟩
def q1sa (C:q1os) (v:q1s4):Dt q1s8:=(Dt.bnd (C.2.2.2.2.2.2.2.1 ((v.2.1,()),(v.2.2.2.2.2.2.2.2.1,v.2.2.2.2.2.2.2.2.2.1,()),())) fun r1=>(Dt.ite (inB r1 (List.length v.2.1)) (Dt.bnd (C.2.2.1 ((v.2.2.2.2.2.1,()),((elt ziii v.2.1 (r1).toNat).2.2.1,()),())) fun r2=>(Dt.ret (v.1,v.2.1,v.2.2.1,v.2.2.2.1,v.2.2.2.2.1,v.2.2.2.2.2.1,v.2.2.2.2.2.2.1,v.2.2.2.2.2.2.2.1,v.2.2.2.2.2.2.2.2.1,v.2.2.2.2.2.2.2.2.2.1,v.2.2.2.2.2.2.2.2.2.2.1,v.2.2.2.2.2.2.2.2.2.2.2.1,v.2.2.2.2.2.2.2.2.2.2.2.2,r2.1,r2.2.1,r2.2.2.1))) Dt.fail))
theorem q1sb C v:q2ki (regO (qdv f8) 34) true [(1,(.val Riii)),(2,(.val Riii)),(3,(.box [.val Riii])),(16,(.own Rii)),(19,(.box [.own Riii])),(20,.any),(21,.any),(22,.any),(23,.any),(25,.any),(99,(.own Rii)),(100,.any),(101,.any)] q1s5 q1sa q1s9 C v:=rgI (by kernel_rfl)
abbrev q1sc:Type:=List Diii×List Diii×Int×Int×Int×Bool×List Diii×List Dii×List Diii×Int×Int×Int×Int×Int×Int×Int×Int
def q1sd (v:q1sc):St:=⟨[(1,.fz Riii v.1),(2,.fz Riii v.2.1),(3,.ptr 0 0),(16,.rs 1),(19,.ptr 2 0),(20,.fn 26 [.ptr 2 0]),(21,i6 v.2.2.1),(22,.ptr 4 0),(23,.ptr 5 0),(25,.ptr 6 0),(99,.rs 1),(100,i6 v.2.2.2.1),(101,i6 v.2.2.2.2.1),(134,.bool v.2.2.2.2.2.1)],[.cells [.fz Riii v.2.2.2.2.2.2.1],.rows Rii v.2.2.2.2.2.2.2.1,.cells [.rs 3],.rows Riii v.2.2.2.2.2.2.2.2.1,.cells [i6 v.2.2.2.2.2.2.2.2.2.1,i6 v.2.2.2.2.2.2.2.2.2.2.1],.cells [i6 v.2.2.2.2.2.2.2.2.2.2.2.1,i6 v.2.2.2.2.2.2.2.2.2.2.2.2.1,i6 v.2.2.2.2.2.2.2.2.2.2.2.2.2.1],.cells [i6 v.2.2.2.2.2.2.2.2.2.2.2.2.2.2.1,i6 v.2.2.2.2.2.2.2.2.2.2.2.2.2.2.2.1,i6 v.2.2.2.2.2.2.2.2.2.2.2.2.2.2.2.2]]⟩
def q1se (C:q1os) (v:q1s8):Dt q1sc:=(Dt.ret (v.1,v.2.1,v.2.2.1,v.2.2.2.1,v.2.2.2.2.1,(v.2.2.2.2.2.2.2.2.2.2.1 == v.2.2.2.2.2.2.2.2.2.2.2.2.2.1),v.2.2.2.2.2.1,v.2.2.2.2.2.2.1,v.2.2.2.2.2.2.2.1,v.2.2.2.2.2.2.2.2.1,v.2.2.2.2.2.2.2.2.2.1,v.2.2.2.2.2.2.2.2.2.2.1,v.2.2.2.2.2.2.2.2.2.2.2.1,v.2.2.2.2.2.2.2.2.2.2.2.2.1,v.2.2.2.2.2.2.2.2.2.2.2.2.2.1,v.2.2.2.2.2.2.2.2.2.2.2.2.2.2.1,v.2.2.2.2.2.2.2.2.2.2.2.2.2.2.2))
theorem q1sf C v:q2ki (regO (qdv f8) 35) false [(1,(.val Riii)),(2,(.val Riii)),(3,(.box [.val Riii])),(16,(.own Rii)),(19,(.box [.own Riii])),(20,.any),(21,.any),(22,.any),(23,.any),(25,.any),(99,(.own Rii)),(100,.any),(101,.any),(134,.any)] q1s9 q1se q1sd C v:=rgI (by kernel_rfl)
def q1sg (C:q1os) (v:q1sc):Dt q1rs:=(Dt.bnd (C.2.2.2.2.2.2.1 (((v.2.2.2.2.2.2.2.2.2.1,v.2.2.2.2.2.2.2.2.2.2.1,()),(v.2.2.2.2.2.2.2.2.2.2.2.1,()),()),(()),v.2.2.2.2.2.2.2.2.1)) fun r1=>(Dt.ret (v.1,v.2.1,v.2.2.2.1,v.2.2.2.2.1,v.2.2.2.2.2.2.1,v.2.2.2.2.2.2.2.1,r1)))
theorem q1sh C v:q2ki (regO (qdv f8) 36) false [(1,(.val Riii)),(2,(.val Riii)),(3,(.box [.val Riii])),(16,(.own Rii)),(19,(.box [.own Riii])),(20,.any),(99,(.own Rii)),(100,.any),(101,.any)] q1sd q1sg q1rt C v:=rgI (by kernel_rfl)
def q1si (C:q1os) (v:q1rs):Dt q1rs:=(Dt.ret (v.1,v.2.1,v.2.2.1,(IntKind.wrap .i64 (v.2.2.2.1+(1:Int))),v.2.2.2.2.1,v.2.2.2.2.2.1,v.2.2.2.2.2.2))
theorem q1sj C v:q2ki (regO (qdv f8) 44) false [(1,(.val Riii)),(2,(.val Riii)),(3,(.box [.val Riii])),(16,(.own Rii)),(19,(.box [.own Riii])),(20,.any),(99,(.own Rii)),(100,.any),(101,.any)] q1rt q1si q1rt C v:=rgI (by kernel_rfl)
def q1sk  (d:Nat) (self4:(List Diii×List Diii×Int×Int×List Diii×List Dii×List Diii)→Option q1op) (z:List Diii×List Diii×Int×Int×List Diii×List Dii×List Diii):Option (q1op) :=
 (q1si (q1ot d) z).eval fun y44 =>
 self4 y44
abbrev q1sl:Type:=List Diii×List Diii×Int×Bool×Int×Int×List Diii×List Dii×List Diii×Int×Int×Int×Int×Int×Int×Int×Int
def q1sm (v:q1sl):St:=⟨[(1,.fz Riii v.1),(2,.fz Riii v.2.1),(3,.ptr 0 0),(16,.rs 1),(19,.ptr 2 0),(20,.fn 26 [.ptr 2 0]),(21,i6 v.2.2.1),(22,.ptr 4 0),(23,.ptr 5 0),(25,.ptr 6 0),(27,.bool v.2.2.2.1),(99,.rs 1),(100,i6 v.2.2.2.2.1),(101,i6 v.2.2.2.2.2.1)],[.cells [.fz Riii v.2.2.2.2.2.2.1],.rows Rii v.2.2.2.2.2.2.2.1,.cells [.rs 3],.rows Riii v.2.2.2.2.2.2.2.2.1,.cells [i6 v.2.2.2.2.2.2.2.2.2.1,i6 v.2.2.2.2.2.2.2.2.2.2.1],.cells [i6 v.2.2.2.2.2.2.2.2.2.2.2.1,i6 v.2.2.2.2.2.2.2.2.2.2.2.2.1,i6 v.2.2.2.2.2.2.2.2.2.2.2.2.2.1],.cells [i6 v.2.2.2.2.2.2.2.2.2.2.2.2.2.2.1,i6 v.2.2.2.2.2.2.2.2.2.2.2.2.2.2.2.1,i6 v.2.2.2.2.2.2.2.2.2.2.2.2.2.2.2.2]]⟩
def q1sn (C:q1os) (v:q1sc):Dt q1sl:=(Dt.bnd (C.2.2.2.2.2.2.2.2.1 ((v.2.2.2.2.2.2.2.2.2.2.2.2.2.2.1,v.2.2.2.2.2.2.2.2.2.2.2.2.2.2.2.1,v.2.2.2.2.2.2.2.2.2.2.2.2.2.2.2.2,()),(v.2.2.2.2.2.2.2.2.2.2.2.1,v.2.2.2.2.2.2.2.2.2.2.2.2.1,v.2.2.2.2.2.2.2.2.2.2.2.2.2.1,()),(v.2.2.2.2.2.2.2.2.2.1,v.2.2.2.2.2.2.2.2.2.2.1,()),())) fun r1=>(Dt.ret (v.1,v.2.1,v.2.2.1,r1.1,v.2.2.2.1,v.2.2.2.2.1,v.2.2.2.2.2.2.1,v.2.2.2.2.2.2.2.1,v.2.2.2.2.2.2.2.2.1,v.2.2.2.2.2.2.2.2.2.1,v.2.2.2.2.2.2.2.2.2.2.1,v.2.2.2.2.2.2.2.2.2.2.2.1,v.2.2.2.2.2.2.2.2.2.2.2.2.1,v.2.2.2.2.2.2.2.2.2.2.2.2.2.1,v.2.2.2.2.2.2.2.2.2.2.2.2.2.2.1,v.2.2.2.2.2.2.2.2.2.2.2.2.2.2.2.1,v.2.2.2.2.2.2.2.2.2.2.2.2.2.2.2.2)))
theorem q1so C v:q2ki (regO (qdv f8) 37) false [(1,(.val Riii)),(2,(.val Riii)),(3,(.box [.val Riii])),(16,(.own Rii)),(19,(.box [.own Riii])),(20,.any),(21,.any),(22,.any),(23,.any),(25,.any),(27,.any),(99,(.own Rii)),(100,.any),(101,.any)] q1sd q1sn q1sm C v:=rgI (by kernel_rfl)
abbrev q1sp:Type:=List Diii×List Diii×Int×Int×Int×Bool×List Diii×List Dii×List Diii×Int×Int×Int×Int×Int×Int×Int×Int
def q1sq (v:q1sp):St:=⟨[(1,.fz Riii v.1),(2,.fz Riii v.2.1),(3,.ptr 0 0),(16,.rs 1),(19,.ptr 2 0),(20,.fn 26 [.ptr 2 0]),(21,i6 v.2.2.1),(22,.ptr 4 0),(23,.ptr 5 0),(25,.ptr 6 0),(99,.rs 1),(100,i6 v.2.2.2.1),(101,i6 v.2.2.2.2.1),(147,.bool v.2.2.2.2.2.1)],[.cells [.fz Riii v.2.2.2.2.2.2.1],.rows Rii v.2.2.2.2.2.2.2.1,.cells [.rs 3],.rows Riii v.2.2.2.2.2.2.2.2.1,.cells [i6 v.2.2.2.2.2.2.2.2.2.1,i6 v.2.2.2.2.2.2.2.2.2.2.1],.cells [i6 v.2.2.2.2.2.2.2.2.2.2.2.1,i6 v.2.2.2.2.2.2.2.2.2.2.2.2.1,i6 v.2.2.2.2.2.2.2.2.2.2.2.2.2.1],.cells [i6 v.2.2.2.2.2.2.2.2.2.2.2.2.2.2.1,i6 v.2.2.2.2.2.2.2.2.2.2.2.2.2.2.2.1,i6 v.2.2.2.2.2.2.2.2.2.2.2.2.2.2.2.2]]⟩
def q1sr (C:q1os) (v:q1sl):Dt q1sp:=(Dt.ret (v.1,v.2.1,v.2.2.1,v.2.2.2.2.1,v.2.2.2.2.2.1,v.2.2.2.1,v.2.2.2.2.2.2.1,v.2.2.2.2.2.2.2.1,v.2.2.2.2.2.2.2.2.1,v.2.2.2.2.2.2.2.2.2.1,v.2.2.2.2.2.2.2.2.2.2.1,v.2.2.2.2.2.2.2.2.2.2.2.1,v.2.2.2.2.2.2.2.2.2.2.2.2.1,v.2.2.2.2.2.2.2.2.2.2.2.2.2.1,v.2.2.2.2.2.2.2.2.2.2.2.2.2.2.1,v.2.2.2.2.2.2.2.2.2.2.2.2.2.2.2.1,v.2.2.2.2.2.2.2.2.2.2.2.2.2.2.2.2))
theorem q1ss C v:q2ki (regO (qdv f8) 38) false [(1,(.val Riii)),(2,(.val Riii)),(3,(.box [.val Riii])),(16,(.own Rii)),(19,(.box [.own Riii])),(20,.any),(21,.any),(22,.any),(23,.any),(25,.any),(99,(.own Rii)),(100,.any),(101,.any),(147,.any)] q1sm q1sr q1sq C v:=rgI (by kernel_rfl)
def q1st (C:q1os) (v:q1sp):Dt q1s8:=(Dt.ret (v.1,v.2.1,v.2.2.1,v.2.2.2.1,v.2.2.2.2.1,v.2.2.2.2.2.2.1,v.2.2.2.2.2.2.2.1,v.2.2.2.2.2.2.2.2.1,v.2.2.2.2.2.2.2.2.2.1,v.2.2.2.2.2.2.2.2.2.2.1,v.2.2.2.2.2.2.2.2.2.2.2.2.2.2.1,v.2.2.2.2.2.2.2.2.2.2.2.2.2.2.2.1,v.2.2.2.2.2.2.2.2.2.2.2.2.2.2.2.2,v.2.2.2.2.2.2.2.2.2.2.2.1,v.2.2.2.2.2.2.2.2.2.2.2.2.1,v.2.2.2.2.2.2.2.2.2.2.2.2.2.1))
theorem q1su C v:q2ki (regO (qdv f8) 39) false [(1,(.val Riii)),(2,(.val Riii)),(3,(.box [.val Riii])),(16,(.own Rii)),(19,(.box [.own Riii])),(20,.any),(21,.any),(22,.any),(23,.any),(25,.any),(99,(.own Rii)),(100,.any),(101,.any)] q1sq q1st q1s9 C v:=rgI (by kernel_rfl)
def q1sv (C:q1os) (v:q1s8):Dt q1s8:=(Dt.bnd (C.2.2.2.2.2.2.1 (((v.2.2.2.2.2.2.2.2.1,v.2.2.2.2.2.2.2.2.2.1,()),(v.2.2.2.2.2.2.2.2.2.2.1,()),()),(()),v.2.2.2.2.2.2.2.1)) fun r1=>(Dt.ret (v.1,v.2.1,v.2.2.1,v.2.2.2.1,v.2.2.2.2.1,v.2.2.2.2.2.1,v.2.2.2.2.2.2.1,r1,v.2.2.2.2.2.2.2.2.1,v.2.2.2.2.2.2.2.2.2.1,v.2.2.2.2.2.2.2.2.2.2.1,v.2.2.2.2.2.2.2.2.2.2.2.1,v.2.2.2.2.2.2.2.2.2.2.2.2.1,v.2.2.2.2.2.2.2.2.2.2.2.2.2.1,v.2.2.2.2.2.2.2.2.2.2.2.2.2.2.1,v.2.2.2.2.2.2.2.2.2.2.2.2.2.2.2)))
theorem q1sw C v:q2ki (regO (qdv f8) 40) false [(1,(.val Riii)),(2,(.val Riii)),(3,(.box [.val Riii])),(16,(.own Rii)),(19,(.box [.own Riii])),(20,.any),(21,.any),(22,.any),(23,.any),(25,.any),(99,(.own Rii)),(100,.any),(101,.any)] q1s9 q1sv q1s9 C v:=rgI (by kernel_rfl)
abbrev q1sx:Type:=List Diii×List Diii×Int×Bool×Int×Int×List Diii×List Dii×List Diii×Int×Int×Int×Int×Int
def q1sy (v:q1sx):St:=⟨[(1,.fz Riii v.1),(2,.fz Riii v.2.1),(3,.ptr 0 0),(16,.rs 1),(19,.ptr 2 0),(20,.fn 26 [.ptr 2 0]),(21,i6 v.2.2.1),(25,.ptr 4 0),(29,.ptr 5 0),(30,.bool v.2.2.2.1),(99,.rs 1),(100,i6 v.2.2.2.2.1),(101,i6 v.2.2.2.2.2.1)],[.cells [.fz Riii v.2.2.2.2.2.2.1],.rows Rii v.2.2.2.2.2.2.2.1,.cells [.rs 3],.rows Riii v.2.2.2.2.2.2.2.2.1,.cells [i6 v.2.2.2.2.2.2.2.2.2.1,i6 v.2.2.2.2.2.2.2.2.2.2.1,i6 v.2.2.2.2.2.2.2.2.2.2.2.1],.cells [i6 v.2.2.2.2.2.2.2.2.2.2.2.2.1,i6 v.2.2.2.2.2.2.2.2.2.2.2.2.2]]⟩
def q1sz (C:q1os) (v:q1s8):Dt q1sx:=(Dt.bnd (C.2.2.2.2.2.2.2.2.2.1 ((v.2.2.2.2.2.2.2.2.2.2.1,v.2.2.2.2.2.2.2.2.2.2.2.1,v.2.2.2.2.2.2.2.2.2.2.2.2.1,()),(v.2.2.2.2.2.2.2.2.2.2.2.2.2.1,v.2.2.2.2.2.2.2.2.2.2.2.2.2.2.1,v.2.2.2.2.2.2.2.2.2.2.2.2.2.2.2,()),(v.2.2.2.2.2.2.2.2.1,v.2.2.2.2.2.2.2.2.2.1,()),())) fun r1=>(Dt.ret (v.1,v.2.1,v.2.2.1,r1.2.2.1,v.2.2.2.1,v.2.2.2.2.1,v.2.2.2.2.2.1,v.2.2.2.2.2.2.1,v.2.2.2.2.2.2.2.1,v.2.2.2.2.2.2.2.2.2.2.2.2.2.1,v.2.2.2.2.2.2.2.2.2.2.2.2.2.2.1,v.2.2.2.2.2.2.2.2.2.2.2.2.2.2.2,r1.1,r1.2.1)))
theorem q1t0 C v:q2ki (regO (qdv f8) 41) false [(1,(.val Riii)),(2,(.val Riii)),(3,(.box [.val Riii])),(16,(.own Rii)),(19,(.box [.own Riii])),(20,.any),(21,.any),(25,.any),(29,.any),(30,.any),(99,(.own Rii)),(100,.any),(101,.any)] q1s9 q1sz q1sy C v:=rgI (by kernel_rfl)
abbrev q1t1:Type:=List Diii×List Diii×Int×Int×Bool×List Diii×List Dii×List Diii×Int×Int×Int×Int×Int
def q1t2 (v:q1t1):St:=⟨[(1,.fz Riii v.1),(2,.fz Riii v.2.1),(3,.ptr 0 0),(16,.rs 1),(19,.ptr 2 0),(20,.fn 26 [.ptr 2 0]),(25,.ptr 4 0),(29,.ptr 5 0),(99,.rs 1),(100,i6 v.2.2.1),(101,i6 v.2.2.2.1),(180,.bool v.2.2.2.2.1)],[.cells [.fz Riii v.2.2.2.2.2.1],.rows Rii v.2.2.2.2.2.2.1,.cells [.rs 3],.rows Riii v.2.2.2.2.2.2.2.1,.cells [i6 v.2.2.2.2.2.2.2.2.1,i6 v.2.2.2.2.2.2.2.2.2.1,i6 v.2.2.2.2.2.2.2.2.2.2.1],.cells [i6 v.2.2.2.2.2.2.2.2.2.2.2.1,i6 v.2.2.2.2.2.2.2.2.2.2.2.2]]⟩
def q1t3 (C:q1os) (v:q1sx):Dt q1t1:=(Dt.ite v.2.2.2.1 (Dt.ite ((IntKind.wrap .i64 (v.2.2.1+(1:Int))) == (List.length v.2.2.2.2.2.2.2.1:Int)) (Dt.ret (v.1,v.2.1,v.2.2.2.2.1,v.2.2.2.2.2.1,true,v.2.2.2.2.2.2.1,v.2.2.2.2.2.2.2.1,v.2.2.2.2.2.2.2.2.1,v.2.2.2.2.2.2.2.2.2.1,v.2.2.2.2.2.2.2.2.2.2.1,v.2.2.2.2.2.2.2.2.2.2.2.1,v.2.2.2.2.2.2.2.2.2.2.2.2.1,v.2.2.2.2.2.2.2.2.2.2.2.2.2)) (Dt.ite (inB (IntKind.wrap .i64 (v.2.2.1+(1:Int))) (List.length v.2.2.2.2.2.2.2.1)) (Dt.bnd (C.2.2.2.2.1 ((v.2.2.2.2.2.2.2.2.2.2.2.2.1,v.2.2.2.2.2.2.2.2.2.2.2.2.2,()),((elt zii v.2.2.2.2.2.2.2.1 ((IntKind.wrap .i64 (v.2.2.1+(1:Int)))).toNat).1,(elt zii v.2.2.2.2.2.2.2.1 ((IntKind.wrap .i64 (v.2.2.1+(1:Int)))).toNat).2.1,()),())) fun r1=>(Dt.ret (v.1,v.2.1,v.2.2.2.2.1,v.2.2.2.2.2.1,(decide (r1<(0:Int))),v.2.2.2.2.2.2.1,v.2.2.2.2.2.2.2.1,v.2.2.2.2.2.2.2.2.1,v.2.2.2.2.2.2.2.2.2.1,v.2.2.2.2.2.2.2.2.2.2.1,v.2.2.2.2.2.2.2.2.2.2.2.1,v.2.2.2.2.2.2.2.2.2.2.2.2.1,v.2.2.2.2.2.2.2.2.2.2.2.2.2))) Dt.fail)) (Dt.ret (v.1,v.2.1,v.2.2.2.2.1,v.2.2.2.2.2.1,false,v.2.2.2.2.2.2.1,v.2.2.2.2.2.2.2.1,v.2.2.2.2.2.2.2.2.1,v.2.2.2.2.2.2.2.2.2.1,v.2.2.2.2.2.2.2.2.2.2.1,v.2.2.2.2.2.2.2.2.2.2.2.1,v.2.2.2.2.2.2.2.2.2.2.2.2.1,v.2.2.2.2.2.2.2.2.2.2.2.2.2)))
theorem q1t4 C v:q2ki (regO (qdv f8) 42) true [(1,(.val Riii)),(2,(.val Riii)),(3,(.box [.val Riii])),(16,(.own Rii)),(19,(.box [.own Riii])),(20,.any),(25,.any),(29,.any),(99,(.own Rii)),(100,.any),(101,.any),(180,.any)] q1sy q1t3 q1t2 C v:=rgI (by kernel_rfl)
def q1t5 (C:q1os) (v:q1t1):Dt q1rs:=(Dt.bnd (C.2.2.2.2.2.2.1 (((v.2.2.2.2.2.2.2.2.2.2.2.1,v.2.2.2.2.2.2.2.2.2.2.2.2,()),(v.2.2.2.2.2.2.2.2.1,()),()),(()),v.2.2.2.2.2.2.2.1)) fun r1=>(Dt.ret (v.1,v.2.1,v.2.2.1,v.2.2.2.1,v.2.2.2.2.2.1,v.2.2.2.2.2.2.1,r1)))
theorem q1t6 C v:q2ki (regO (qdv f8) 43) false [(1,(.val Riii)),(2,(.val Riii)),(3,(.box [.val Riii])),(16,(.own Rii)),(19,(.box [.own Riii])),(20,.any),(99,(.own Rii)),(100,.any),(101,.any)] q1t2 q1t5 q1rt C v:=rgI (by kernel_rfl)
def q1t7  (d:Nat) (self4:(List Diii×List Diii×Int×Int×List Diii×List Dii×List Diii)→Option q1op) (z:List Diii×List Diii×Int×Int×Int×List Diii×List Dii×List Diii×Int×Int×Int×Int×Int×Int×Int×Int):Option (q1op) :=
 (q1sv (q1ot d) z).eval fun y40 =>
 (q1sz (q1ot d) y40).eval fun y41 =>
 (q1t3 (q1ot d) y41).eval fun y42 =>
 bif y42.2.2.2.2.1 then ((q1t5 (q1ot d) y42).eval fun y43 =>
 q1sk d self4 y43) else (q1sk d self4 (y42.1,y42.2.1,y42.2.2.1,y42.2.2.2.1,y42.2.2.2.2.2.1,y42.2.2.2.2.2.2.1,y42.2.2.2.2.2.2.2.1))
def q1t8 (C:q1os) (v:q1rw):Dt q1p9:=(Dt.ret ((0:Int),v.2.2.2.2.2.2.2))
theorem q1t9 C v:q2ki (regO (qdv f8) 45) false [(6,(.own Riii)),(7,.any)] q1rx q1t8 q1pa C v:=rgI (by kernel_rfl)
def q1ta (d:Nat) (self4:(List Diii×List Diii×Int×Int×List Diii×List Dii×List Diii)→Option q1op) (x4:List Diii×List Diii×Int×Int×List Diii×List Dii×List Diii):Option q1op :=
 (q1ry (q1ot d) x4).eval fun y31 =>
 bif y31.2.2.2.2.1 then ((q1s2 (q1ot d) y31).eval fun y32 =>
 (q1s6 (q1ot d) y32).eval fun y33 =>
 (q1sa (q1ot d) y33).eval fun y34 =>
 (q1se (q1ot d) y34).eval fun y35 =>
 bif y35.2.2.2.2.2.1 then ((q1sg (q1ot d) y35).eval fun y36 =>
 q1sk d self4 y36) else ((q1sn (q1ot d) y35).eval fun y37 =>
 (q1sr (q1ot d) y37).eval fun y38 =>
 bif y38.2.2.2.2.2.1 then ((q1st (q1ot d) y38).eval fun y39 =>
 q1t7 d self4 y39) else (q1t7 d self4 (y38.1,y38.2.1,y38.2.2.1,y38.2.2.2.1,y38.2.2.2.2.1,y38.2.2.2.2.2.2.1,y38.2.2.2.2.2.2.2.1,y38.2.2.2.2.2.2.2.2.1,y38.2.2.2.2.2.2.2.2.2.1,y38.2.2.2.2.2.2.2.2.2.2.1,y38.2.2.2.2.2.2.2.2.2.2.2.1,y38.2.2.2.2.2.2.2.2.2.2.2.2.1,y38.2.2.2.2.2.2.2.2.2.2.2.2.2.1,y38.2.2.2.2.2.2.2.2.2.2.2.2.2.2.1,y38.2.2.2.2.2.2.2.2.2.2.2.2.2.2.2.1,y38.2.2.2.2.2.2.2.2.2.2.2.2.2.2.2.2)))) else ((q1t8 (q1ot d) y31).eval fun y45 =>
 some (y45.2,y45.1))
def q1tb (d:Nat) (self3:(List Diii×List Diii×Int×Int×List Diii×List Dii×List Diii)→Option q1op) (x3:List Diii×List Diii×Int×Int×List Diii×List Dii×List Diii):Option q1op :=
 (q1r6 (q1ot d) x3).eval fun y22 =>
 bif y22.2.2.2.2.1 then ((q1ra (q1ot d) y22).eval fun y23 =>
 (q1rc (q1ot d) y23).eval fun y24 =>
 (q1re (q1ot d) y24).eval fun y25 =>
 self3 y25) else ((q1rg (q1ot d) y22).eval fun y26 =>
 (q1ri (q1ot d) y26).eval fun y27 =>
 (q1rm (q1ot d) y27).eval fun y28 =>
 (q1rq (q1ot d) y28).eval fun y29 =>
 (q1ru (q1ot d) y29).eval fun y30 =>
 iter (q1ta d ) d y30)
def q1tc (d:Nat) (self1:(List Diii×List Diii×Int×Int×List Diii×List qkb)→Option q1op) (x1:List Diii×List Diii×Int×Int×List Diii×List qkb):Option q1op :=
 (q1pz (q1ot d) x1).eval fun y10 =>
 bif y10.2.2.2.2.1 then ((q1q3 (q1ot d) y10).eval fun y11 =>
 (q1q7 (q1ot d) y11).eval fun y12 =>
 iter (q1qv d self1) d y12) else ((q1qy (q1ot d) y10).eval fun y20 =>
 (q1r2 (q1ot d) y20).eval fun y21 =>
 iter (q1tb d ) d y21)
def q1td (d:Nat) (x:q1oo):Option q1op :=
 (q1oz (q1ot d) (x.1.1,x.2.1.1,x.2.2.1.1)).eval fun y0 =>
 (q1p3 (q1ot d) y0).eval fun y1 =>
 (q1p7 (q1ot d) y1).eval fun y2 =>
 bif y2.2.2.2.1 then ((q1pb (q1ot d) y2).eval fun y3 =>
 some (y3.2,y3.1)) else ((q1pf (q1ot d) y2).eval fun y4 =>
 (q1pj (q1ot d) y4).eval fun y5 =>
 bif y5.2.2.2.1 then ((q1pl (q1ot d) y5).eval fun y6 =>
 some (y6.2,y6.1)) else ((q1pp (q1ot d) y5).eval fun y7 =>
 bif y7.2.2.1 then ((q1pr (q1ot d) y7).eval fun y8 =>
 some (y8.2,y8.1)) else ((q1pv (q1ot d) y7).eval fun y9 =>
 iter (q1tc d ) d y9)))
theorem q1te (d:Nat):COK prog (q1or (q1td d)):=by
 have hm:prog.follows .mixedOrders=true:=mixed
 have hT:=tys
 have hC0:OrcOK prog (orc (q1ou (q1ot d))):=qdp (by
  intro S hS
  simp only [q1ou,List.mem_cons,List.not_mem_nil,or_false] at hS
  rcases hS with rfl | rfl | rfl | rfl | rfl | rfl | rfl | rfl
  · exact q1bj d
  · exact qqe d
  · exact q1om d
  · exact q1jz d
  · exact q16v d
  · exact q1e9 d
  · exact qpw d
  · exact q152 d)
 have hC:OrcOK prog (orcW (q15x (q1ot d).2.2.2.2.2.2.1) (orcC (q1fi (q1ot d).2.2.2.2.2.1) (orcS 23 24 Rii (q1ot d).2.2.2.2.1 (orc (q1ou (q1ot d)))))):=(q156 (q161 d) rfl (q165 (q1h8 d) rfl (quk (q16v d) hC0)))
 refine q9e (c:=qdv f8) (fn:=f8) hT (by kernel_rfl) (by kernel_rfl) (by decide) fun x r h w0 φ0 Q hend=>?_
 replace h:q1td d x=some r:=h
 unfold q1td at h
 show Run prog w0 φ0 188 (qdv f8) ⟨[(0,.agg [.fz Riii x.1.1]),(1,.fz Riii x.2.1.1),(2,.fz Riii x.2.2.1.1)],[]⟩ Q
 refine q2jr hm hT hC (q1p0 (q1ot d) (x.1.1,x.2.1.1,x.2.2.1.1)) h fun y0 h=>?_
 refine q8x ?_
 refine q2jr hm hT hC (q1p4 (q1ot d) y0) h fun y1 h=>?_
 refine q2jr hm hT hC (q1p8 (q1ot d) y1) h fun y2 h=>?_
 refine q91 (v:=y2.2.2.2.1) (by kernel_rfl) h ?_ ?_
 ·
  intro h
  refine q2jr hm hT hC (q1pc (q1ot d) y2) h fun y3 h=>?_
  refine q8w (q8l ?_)
  cases h
  exact (hend _ (by kernel_rfl)).2
 ·
  intro h
  refine q8t (q8j (q8x ?_))
  refine q2jr hm hT hC (q1pg (q1ot d) y2) h fun y4 h=>?_
  refine q2jr hm hT hC (q1pk (q1ot d) y4) h fun y5 h=>?_
  refine q91 (v:=y5.2.2.2.1) (by kernel_rfl) h ?_ ?_
  ·
   intro h
   refine q2jr hm hT hC (q1pm (q1ot d) y5) h fun y6 h=>?_
   refine q8w (q8l ?_)
   cases h
   exact (hend _ (by kernel_rfl)).2
  ·
   intro h
   refine q8t (q8j (q8x ?_))
   refine q2jr hm hT hC (q1pq (q1ot d) y5) h fun y7 h=>?_
   refine q91 (v:=y7.2.2.1) (by kernel_rfl) h ?_ ?_
   ·
    intro h
    refine q2jr hm hT hC (q1ps (q1ot d) y7) h fun y8 h=>?_
    refine q8w (q8l ?_)
    cases h
    exact (hend _ (by kernel_rfl)).2
   ·
    intro h
    refine q8t (q8j (q8x ?_))
    refine q2jr hm hT hC (q1pw (q1ot d) y7) h fun y9 h=>?_
    refine q8y ?_
    refine q93 (G:=iter (q1tc d )) (S:=(fun x1=>⟨[(1,.fz Riii x1.1),(2,.fz Riii x1.2.1),(3,.ptr 0 0),(56,.rs 1),(57,i6 x1.2.2.1),(58,i6 x1.2.2.2.1)],[.cells [.fz Riii x1.2.2.2.2.1],.rows qka x1.2.2.2.2.2]⟩:List Diii×List Diii×Int×Int×List Diii×List qkb→St)) (fun _=>rfl) ?_ d _ h
    intro n1 x1 h K1 hn1
    replace h:q1tc d  (iter (q1tc d ) n1) x1=some r:=h
    generalize iter (q1tc d ) n1=self1 at h hn1
    unfold q1tc at h
    refine q2jr hm hT hC (q1q0 (q1ot d) x1) h fun y10 h=>?_
    refine q8x ?_
    refine q91 (v:=y10.2.2.2.2.1) (by kernel_rfl) h ?_ ?_
    ·
     intro h
     refine q8t (q8j (q8x (q8y ?_)))
     refine q2jr hm hT hC (q1q4 (q1ot d) y10) h fun y11 h=>?_
     refine q2jr hm hT hC (q1q8 (q1ot d) y11) h fun y12 h=>?_
     refine q8y ?_
     refine q93 (G:=iter (q1qv d self1)) (S:=(fun x2=>⟨[(1,.fz Riii x2.1),(2,.fz Riii x2.2.1),(3,.ptr 0 0),(56,.rs 1),(57,i6 x2.2.2.1),(58,i6 x2.2.2.2.1),(62,.fz Riii x2.2.2.2.2.1),(63,i6 x2.2.2.2.2.2.1),(64,i6 x2.2.2.2.2.2.2.1)],[.cells [.fz Riii x2.2.2.2.2.2.2.2.1],.rows qka x2.2.2.2.2.2.2.2.2]⟩:List Diii×List Diii×Int×Int×List Diii×Int×Int×List Diii×List qkb→St)) (fun _=>rfl) ?_ d _ h
     intro n2 x2 h K2 hn2
     replace h:q1qv d self1 (iter (q1qv d self1) n2) x2=some r:=h
     generalize iter (q1qv d self1) n2=self2 at h hn2
     unfold q1qv at h
     refine q2jr hm hT hC (q1qc (q1ot d) x2) h fun y13 h=>?_
     refine q8x ?_
     refine q91 (v:=y13.2.2.2.2.2.2.2.1) (by kernel_rfl) h ?_ ?_
     ·
      intro h
      refine q8t (q8j (q8x (q8y ?_)))
      refine q2jr hm hT hC (q1qg (q1ot d) y13) h fun y14 h=>?_
      refine q2jr hm hT hC (q1qk (q1ot d) y14) h fun y15 h=>?_
      refine q2jr hm hT hC (q1qo (q1ot d) y15) h fun y16 h=>?_
      refine q91 (v:=y16.2.2.2.2.2.2.2.1) (by kernel_rfl) h ?_ ?_
      ·
       intro h
       refine q2jr hm hT hC (q1qq (q1ot d) y16) h fun y17 h=>?_
       refine q8w (q8n (q8l (q8l (q8n (q8n (q8l (q8l (q8n (q8l ?_)))))))))
       cases h
       exact (hend _ (by kernel_rfl)).2
      ·
       intro h
       refine q8t (q8m (q8j ?_))
       refine q92 hm hT hC (q1qs (q1ot d) y16) h ?_
       intro y18 h
       exact hn2 _ h
     ·
      intro h
      refine q8v (q8k (q8k (q8o (q8m (q8j ?_)))))
      refine q92 hm hT hC (q1qu (q1ot d) y13) h ?_
      intro y19 h
      exact hn1 _ h
    ·
     intro h
     refine q8v (q8k (q8k (q8o (q8j ?_))))
     refine q2jr hm hT hC (q1qz (q1ot d) y10) h fun y20 h=>?_
     refine q8x ?_
     refine q2jr hm hT hC (q1r3 (q1ot d) y20) h fun y21 h=>?_
     refine q8y ?_
     refine q93 (G:=iter (q1tb d )) (S:=(fun x3=>⟨[(1,.fz Riii x3.1),(2,.fz Riii x3.2.1),(3,.ptr 0 0),(16,.rs 1),(82,.rs 2),(83,i6 x3.2.2.1),(84,i6 x3.2.2.2.1)],[.cells [.fz Riii x3.2.2.2.2.1],.rows Rii x3.2.2.2.2.2.1,.rows Riii x3.2.2.2.2.2.2]⟩:List Diii×List Diii×Int×Int×List Diii×List Dii×List Diii→St)) (fun _=>rfl) ?_ d _ h
     intro n3 x3 h K3 hn3
     replace h:q1tb d  (iter (q1tb d ) n3) x3=some r:=h
     generalize iter (q1tb d ) n3=self3 at h hn3
     unfold q1tb at h
     refine q2jr hm hT hC (q1r7 (q1ot d) x3) h fun y22 h=>?_
     refine q8x ?_
     refine q91 (v:=y22.2.2.2.2.1) (by kernel_rfl) h ?_ ?_
     ·
      intro h
      refine q8t (q8j (q8x (q8y ?_)))
      refine q2jr hm hT hC (q1rb (q1ot d) y22) h fun y23 h=>?_
      refine q92 hm hT hC (q1rd (q1ot d) y23) h ?_
      intro y24 h
      refine q8m (q8j ?_)
      refine q92 hm hT hC (q1rf (q1ot d) y24) h ?_
      intro y25 h
      exact hn3 _ h
     ·
      intro h
      refine q8v (q8k (q8k (q8o (q8j ?_))))
      refine q2jr hm hT hC (q1rh (q1ot d) y22) h fun y26 h=>?_
      refine q2jr hm hT hC (q1rj (q1ot d) y26) h fun y27 h=>?_
      refine q2jr hm hT hC (q1rn (q1ot d) y27) h fun y28 h=>?_
      refine q2jr hm hT hC (q1rr (q1ot d) y28) h fun y29 h=>?_
      refine q8x ?_
      refine q2jr hm hT hC (q1rv (q1ot d) y29) h fun y30 h=>?_
      refine q8y ?_
      refine q93 (G:=iter (q1ta d )) (S:=(fun x4=>⟨[(1,.fz Riii x4.1),(2,.fz Riii x4.2.1),(3,.ptr 0 0),(16,.rs 1),(19,.ptr 2 0),(20,.fn 26 [.ptr 2 0]),(99,.rs 1),(100,i6 x4.2.2.1),(101,i6 x4.2.2.2.1)],[.cells [.fz Riii x4.2.2.2.2.1],.rows Rii x4.2.2.2.2.2.1,.cells [.rs 3],.rows Riii x4.2.2.2.2.2.2]⟩:List Diii×List Diii×Int×Int×List Diii×List Dii×List Diii→St)) (fun _=>rfl) ?_ d _ h
      intro n4 x4 h K4 hn4
      replace h:q1ta d  (iter (q1ta d ) n4) x4=some r:=h
      generalize iter (q1ta d ) n4=self4 at h hn4
      unfold q1ta at h
      refine q2jr hm hT hC (q1rz (q1ot d) x4) h fun y31 h=>?_
      refine q8x ?_
      refine q91 (v:=y31.2.2.2.2.1) (by kernel_rfl) h ?_ ?_
      ·
       intro h
       refine q8t (q8j ?_)
       refine q90 (r:=r) (F:=q1sk d self4) (S:=(fun z=>⟨[(1,.fz Riii z.1),(2,.fz Riii z.2.1),(3,.ptr 0 0),(16,.rs 1),(19,.ptr 2 0),(20,.fn 26 [.ptr 2 0]),(99,.rs 1),(100,i6 z.2.2.1),(101,i6 z.2.2.2.1)],[.cells [.fz Riii z.2.2.2.2.1],.rows Rii z.2.2.2.2.2.1,.cells [.rs 3],.rows Riii z.2.2.2.2.2.2]⟩:List Diii×List Diii×Int×Int×List Diii×List Dii×List Diii→St)) ?_ ?_
       ·
        intro z h
        unfold q1sk at h
        refine q92 hm hT hC (q1sj (q1ot d) z) h ?_
        intro y44 h
        exact hn4 _ h
       intro hj5
       refine q8y ?_
       refine q2jr hm hT hC (q1s3 (q1ot d) y31) h fun y32 h=>?_
       refine q2jr hm hT hC (q1s7 (q1ot d) y32) h fun y33 h=>?_
       refine q2jr hm hT hC (q1sb (q1ot d) y33) h fun y34 h=>?_
       refine q8x ?_
       refine q2jr hm hT hC (q1sf (q1ot d) y34) h fun y35 h=>?_
       refine q91 (v:=y35.2.2.2.2.2.1) (by kernel_rfl) h ?_ ?_
       ·
        intro h
        refine q2jr hm hT hC (q1sh (q1ot d) y35) h fun y36 h=>?_
        refine q8v (q8k (q8o ?_))
        exact hj5 _ h
       ·
        intro h
        refine q8t (q8j ?_)
        refine q90 (r:=r) (F:=q1t7 d self4) (S:=(fun z=>⟨[(1,.fz Riii z.1),(2,.fz Riii z.2.1),(3,.ptr 0 0),(16,.rs 1),(19,.ptr 2 0),(20,.fn 26 [.ptr 2 0]),(21,i6 z.2.2.1),(22,.ptr 4 0),(23,.ptr 5 0),(25,.ptr 6 0),(99,.rs 1),(100,i6 z.2.2.2.1),(101,i6 z.2.2.2.2.1)],[.cells [.fz Riii z.2.2.2.2.2.1],.rows Rii z.2.2.2.2.2.2.1,.cells [.rs 3],.rows Riii z.2.2.2.2.2.2.2.1,.cells [i6 z.2.2.2.2.2.2.2.2.1,i6 z.2.2.2.2.2.2.2.2.2.1],.cells [i6 z.2.2.2.2.2.2.2.2.2.2.1,i6 z.2.2.2.2.2.2.2.2.2.2.2.1,i6 z.2.2.2.2.2.2.2.2.2.2.2.2.1],.cells [i6 z.2.2.2.2.2.2.2.2.2.2.2.2.2.1,i6 z.2.2.2.2.2.2.2.2.2.2.2.2.2.2.1,i6 z.2.2.2.2.2.2.2.2.2.2.2.2.2.2.2]]⟩:List Diii×List Diii×Int×Int×Int×List Diii×List Dii×List Diii×Int×Int×Int×Int×Int×Int×Int×Int→St)) ?_ ?_
        ·
         intro z h
         unfold q1t7 at h
         refine q2jr hm hT hC (q1sw (q1ot d) z) h fun y40 h=>?_
         refine q2jr hm hT hC (q1t0 (q1ot d) y40) h fun y41 h=>?_
         refine q2jr hm hT hC (q1t4 (q1ot d) y41) h fun y42 h=>?_
         refine q91 (v:=y42.2.2.2.2.1) (by kernel_rfl) h ?_ ?_
         ·
          intro h
          refine q92 hm hT hC (q1t6 (q1ot d) y42) h ?_
          intro y43 h
          refine q8m ?_
          exact hj5 _ h
         ·
          intro h
          refine q8t (q8m ?_)
          refine qdu (s:=⟨[(1,.fz Riii y42.1),(2,.fz Riii y42.2.1),(3,.ptr 0 0),(16,.rs 1),(19,.ptr 2 0),(20,.fn 26 [.ptr 2 0]),(99,.rs 1),(100,.int .i64 y42.2.2.1),(101,.int .i64 y42.2.2.2.1)],[.cells [.fz Riii y42.2.2.2.2.2.1],.rows Rii y42.2.2.2.2.2.2.1,.cells [.rs 3],.rows Riii y42.2.2.2.2.2.2.2.1]⟩) [25,29,180] (by kernel_rfl) ?_
          exact hj5 _ h
        intro hj6
        refine q2jr hm hT hC (q1so (q1ot d) y35) h fun y37 h=>?_
        refine q2jr hm hT hC (q1ss (q1ot d) y37) h fun y38 h=>?_
        refine q91 (v:=y38.2.2.2.2.2.1) (by kernel_rfl) h ?_ ?_
        ·
         intro h
         refine q92 hm hT hC (q1su (q1ot d) y38) h ?_
         intro y39 h
         exact hj6 _ h
        ·
         intro h
         refine q8t ?_
         refine qdu (s:=⟨[(1,.fz Riii y38.1),(2,.fz Riii y38.2.1),(3,.ptr 0 0),(16,.rs 1),(19,.ptr 2 0),(20,.fn 26 [.ptr 2 0]),(21,.int .i64 y38.2.2.1),(22,.ptr 4 0),(23,.ptr 5 0),(25,.ptr 6 0),(99,.rs 1),(100,.int .i64 y38.2.2.2.1),(101,.int .i64 y38.2.2.2.2.1)],[.cells [.fz Riii y38.2.2.2.2.2.2.1],.rows Rii y38.2.2.2.2.2.2.2.1,.cells [.rs 3],.rows Riii y38.2.2.2.2.2.2.2.2.1,.cells [.int .i64 y38.2.2.2.2.2.2.2.2.2.1,.int .i64 y38.2.2.2.2.2.2.2.2.2.2.1],.cells [.int .i64 y38.2.2.2.2.2.2.2.2.2.2.2.1,.int .i64 y38.2.2.2.2.2.2.2.2.2.2.2.2.1,.int .i64 y38.2.2.2.2.2.2.2.2.2.2.2.2.2.1],.cells [.int .i64 y38.2.2.2.2.2.2.2.2.2.2.2.2.2.2.1,.int .i64 y38.2.2.2.2.2.2.2.2.2.2.2.2.2.2.2.1,.int .i64 y38.2.2.2.2.2.2.2.2.2.2.2.2.2.2.2.2]]⟩) [147] (by kernel_rfl) ?_
         exact hj6 _ h
      ·
       intro h
       refine q8v (q8k (q8k (q8o (q8j ?_))))
       refine q2jr hm hT hC (q1t9 (q1ot d) y31) h fun y45 h=>?_
       refine q8w ?_
       cases h
       exact (hend _ (by kernel_rfl)).2
end Go.Proofs.Ytpgpbhjkgciggaa
