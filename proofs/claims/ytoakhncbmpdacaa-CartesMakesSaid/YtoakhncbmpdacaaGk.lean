/- Walks of the references; the orders agree; examples. -/
import Derived.Test.YtoakhncbmpdacaaGj
set_option linter.unusedSimpArgs false
set_option linter.unusedVariables false
namespace Go.Proofs.Ytoakhncbmpdacaa
open Go Go.Tx Go.Proofs.Try
set_option maxRecDepth 100000
set_option maxHeartbeats 0
abbrev q38r:List Pk:=[.row qks true,.row Rii true,.row qkv true,.row qkv true,.row Ri false]
abbrev q38s:Type:=qkt×Dii×qkw×qkw×Di×Unit
abbrev q38t:Type:=Bool
def q38u (r:q38t):LV×List Ob:=(.bool r,[])
def q38v (F:q38s→Option q38t):Go.Tx.Spec:=⟨3,q38r,q38t,F,q38u⟩
abbrev q38w:Type:=(qq2→Option qq3)×(q1ch→Option q1ci)×(q1aq→Option q1ar)×(qr2→Option qr3)×(q132→Option q133)×(q1w8→Option q1w9)×(qz1→Option qz2)×(q1q4→Option q1q5)×(q19m→Option q19n)×(q1x2→Option q1x3)×(q10g→Option q10h)×(q1qy→Option q1qz)×(q188→Option q189)×(q1ry→Option q1rz)×(q1ba→Option q1bb)×(qwp→Option qwq)×(q1mr→Option q1ms)×(qub→Option quc)×(qrb→Option qrc)×Unit
def q38x (d:Nat):q38w:=(qq7 d,q1cy d,q1b7 d,qr7 d,q15h d,q1wz d,q10d d,q1qv d,q1an d,q1y3 d,q125 d,q1rv d,q19j d,q1sz d,q1ce d,qyy d,q1ow d,qug d,qrg d,())
def q38y (C:q38w):List Go.Tx.Spec:=[qq5 C.1,q1ck C.2.1,q1at C.2.2.1,qr5 C.2.2.2.1,q135 C.2.2.2.2.1,q1wb C.2.2.2.2.2.1,qz4 C.2.2.2.2.2.2.1,q1q7 C.2.2.2.2.2.2.2.1,q19p C.2.2.2.2.2.2.2.2.1,q1x5 C.2.2.2.2.2.2.2.2.2.1,q10j C.2.2.2.2.2.2.2.2.2.2.1,q1r1 C.2.2.2.2.2.2.2.2.2.2.2.1,q18b C.2.2.2.2.2.2.2.2.2.2.2.2.1,q1s1 C.2.2.2.2.2.2.2.2.2.2.2.2.2.1,q1bd C.2.2.2.2.2.2.2.2.2.2.2.2.2.2.1,qws C.2.2.2.2.2.2.2.2.2.2.2.2.2.2.2.1,q1mu C.2.2.2.2.2.2.2.2.2.2.2.2.2.2.2.2.1,que C.2.2.2.2.2.2.2.2.2.2.2.2.2.2.2.2.2.1,qre C.2.2.2.2.2.2.2.2.2.2.2.2.2.2.2.2.2.2.1]
abbrev q38z:Type:=List Diii×Int×Int×Int×List Diii×Int×List Diii×Int
def q390 (v:q38z):St:=⟨[(0,.agg [.fz Riii v.1]),(1,.agg [i6 v.2.1,i6 v.2.2.1]),(2,.agg [i6 v.2.2.2.1,.fz Riii v.2.2.2.2.1]),(3,.agg [i6 v.2.2.2.2.2.1,.fz Riii v.2.2.2.2.2.2.1]),(4,i6 v.2.2.2.2.2.2.2)],[]⟩
abbrev q391:Type:=Int×List Diii×Int×Int×Int×List Diii×Int×List Diii
def q392 (v:q391):St:=⟨[(4,i6 v.1),(5,.ptr 0 0),(6,.ptr 1 0),(7,.ptr 2 0),(8,.ptr 3 0)],[.cells [.fz Riii v.2.1],.cells [i6 v.2.2.1,i6 v.2.2.2.1],.cells [i6 v.2.2.2.2.1,.fz Riii v.2.2.2.2.2.1],.cells [i6 v.2.2.2.2.2.2.1,.fz Riii v.2.2.2.2.2.2.2]]⟩
def q393 (C:q38w) (v:q38z):Dt q391:=(Dt.ret (v.2.2.2.2.2.2.2,v.1,v.2.1,v.2.2.1,v.2.2.2.1,v.2.2.2.2.1,v.2.2.2.2.2.1,v.2.2.2.2.2.2.1))
abbrev q3nz {V Y:Type}:=@rg q38w V Y tysT (fun C=>(orc (q38y C))) 172
theorem q394 C v:q3nz (regO (qea f3) 0) false [(4,.any),(5,(.box [.val Riii])),(6,.any),(7,(.box [.any,.val Riii])),(8,(.box [.any,.val Riii]))] q390 q393 q392 C v:=rgI (by kernel_rfl)
abbrev q395:Type:=Int×Bool×List Diii×Int×Int×Int×List Diii×Int×List Diii
def q396 (v:q395):St:=⟨[(4,i6 v.1),(5,.ptr 0 0),(6,.ptr 1 0),(7,.ptr 2 0),(8,.ptr 3 0),(42,.bool v.2.1)],[.cells [.fz Riii v.2.2.1],.cells [i6 v.2.2.2.1,i6 v.2.2.2.2.1],.cells [i6 v.2.2.2.2.2.1,.fz Riii v.2.2.2.2.2.2.1],.cells [i6 v.2.2.2.2.2.2.2.1,.fz Riii v.2.2.2.2.2.2.2.2]]⟩
def q397 (C:q38w) (v:q391):Dt q395:=(Dt.bnd (C.1 ((v.2.1,()),())) fun r1=>(Dt.ite r1 (Dt.ret (v.1,true,v.2.1,v.2.2.1,v.2.2.2.1,v.2.2.2.2.1,v.2.2.2.2.2.1,v.2.2.2.2.2.2.1,v.2.2.2.2.2.2.2)) (Dt.bnd (C.2.1 ((v.2.2.2.2.1,v.2.2.2.2.2.1,()),())) fun r2=>(Dt.ite r2 (Dt.ret (v.1,true,v.2.1,v.2.2.1,v.2.2.2.1,v.2.2.2.2.1,v.2.2.2.2.2.1,v.2.2.2.2.2.2.1,v.2.2.2.2.2.2.2)) (Dt.bnd (C.2.1 ((v.2.2.2.2.2.2.1,v.2.2.2.2.2.2.2,()),())) fun r3=>(Dt.ret (v.1,r3,v.2.1,v.2.2.1,v.2.2.2.1,v.2.2.2.2.1,v.2.2.2.2.2.1,v.2.2.2.2.2.2.1,v.2.2.2.2.2.2.2)))))))
theorem q398 C v:q3nz (regO (qea f3) 1) false [(4,.any),(5,(.box [.val Riii])),(6,.any),(7,(.box [.any,.val Riii])),(8,(.box [.any,.val Riii])),(42,.any)] q392 q397 q396 C v:=rgI (by kernel_rfl)
abbrev q399:Type:=Bool
def q39a (v:q399):St:=⟨[(10,.bool v)],[]⟩
def q39b (C:q38w) (v:q395):Dt q399:=(Dt.ret true)
theorem q39c C v:q3nz (regO (qea f3) 2) false [(10,.any)] q396 q39b q39a C v:=rgI (by kernel_rfl)
abbrev q39d:Type:=Int×List Diii×Int×Int×Int×List Diii×Int×List Diii×Int×List Diii×List Diii
def q39e (v:q39d):St:=⟨[(4,i6 v.1),(5,.ptr 0 0),(6,.ptr 1 0),(7,.ptr 2 0),(8,.ptr 3 0),(11,.ptr 4 0),(12,.ptr 6 0)],[.cells [.fz Riii v.2.1],.cells [i6 v.2.2.1,i6 v.2.2.2.1],.cells [i6 v.2.2.2.2.1,.fz Riii v.2.2.2.2.2.1],.cells [i6 v.2.2.2.2.2.2.1,.fz Riii v.2.2.2.2.2.2.2.1],.cells [i6 v.2.2.2.2.2.2.2.2.1,.rs 5],.rows Riii v.2.2.2.2.2.2.2.2.2.1,.cells [.rs 7],.rows Riii v.2.2.2.2.2.2.2.2.2.2]⟩
def q39f (C:q38w) (v:q395):Dt q39d:=(Dt.bnd (C.2.2.1 ((v.2.2.2.2.2.1,v.2.2.2.2.2.2.1,()),())) fun r1=>(Dt.bnd (C.2.2.2.1 ((v.2.2.1,()),())) fun r2=>(Dt.ret (v.1,v.2.2.1,v.2.2.2.1,v.2.2.2.2.1,v.2.2.2.2.2.1,v.2.2.2.2.2.2.1,v.2.2.2.2.2.2.2.1,v.2.2.2.2.2.2.2.2,r1.1,r1.2,r2))))
theorem q39g C v:q3nz (regO (qea f3) 3) true [(4,.any),(5,(.box [.val Riii])),(6,.any),(7,(.box [.any,.val Riii])),(8,(.box [.any,.val Riii])),(11,(.box [.any,.own Riii])),(12,(.box [.own Riii]))] q396 q39f q39e C v:=rgI (by kernel_rfl)
abbrev q39h:Type:=Int×Int×List Diii×Int×Int×Int×List Diii×Int×List Diii×Int×List Diii×List Diii×Int×List Diii
def q39i (v:q39h):St:=⟨[(4,i6 v.1),(5,.ptr 0 0),(6,.ptr 1 0),(7,.ptr 2 0),(8,.ptr 3 0),(11,.ptr 4 0),(12,.ptr 6 0),(13,.ptr 8 0),(14,i6 v.2.1)],[.cells [.fz Riii v.2.2.1],.cells [i6 v.2.2.2.1,i6 v.2.2.2.2.1],.cells [i6 v.2.2.2.2.2.1,.fz Riii v.2.2.2.2.2.2.1],.cells [i6 v.2.2.2.2.2.2.2.1,.fz Riii v.2.2.2.2.2.2.2.2.1],.cells [i6 v.2.2.2.2.2.2.2.2.2.1,.rs 5],.rows Riii v.2.2.2.2.2.2.2.2.2.2.1,.cells [.rs 7],.rows Riii v.2.2.2.2.2.2.2.2.2.2.2.1,.cells [i6 v.2.2.2.2.2.2.2.2.2.2.2.2.1,.rs 9],.rows Riii v.2.2.2.2.2.2.2.2.2.2.2.2.2]⟩
def q39j (C:q38w) (v:q39d):Dt q39h:=(Dt.bnd (C.2.2.2.2.1 ((v.2.2.2.2.2.2.2.2.2.2,()),(v.2.2.1,v.2.2.2.1,()),())) fun r1=>(Dt.ret (v.1,r1.2.2,v.2.1,v.2.2.1,v.2.2.2.1,v.2.2.2.2.1,v.2.2.2.2.2.1,v.2.2.2.2.2.2.1,v.2.2.2.2.2.2.2.1,v.2.2.2.2.2.2.2.2.1,v.2.2.2.2.2.2.2.2.2.1,v.2.2.2.2.2.2.2.2.2.2,r1.1,r1.2.1)))
theorem q39k C v:q3nz (regO (qea f3) 4) false [(4,.any),(5,(.box [.val Riii])),(6,.any),(7,(.box [.any,.val Riii])),(8,(.box [.any,.val Riii])),(11,(.box [.any,.own Riii])),(12,(.box [.own Riii])),(13,(.box [.any,.own Riii])),(14,.any)] q39e q39j q39i C v:=rgI (by kernel_rfl)
abbrev q39l:Type:=Int×Int×Int×List Diii×Int×Int×Int×List Diii×Int×List Diii×Int×List Diii×List Diii×Int×List Diii×Int×List Diii
def q39m (v:q39l):St:=⟨[(4,i6 v.1),(5,.ptr 0 0),(6,.ptr 1 0),(7,.ptr 2 0),(8,.ptr 3 0),(11,.ptr 4 0),(12,.ptr 6 0),(13,.ptr 8 0),(14,i6 v.2.1),(15,.ptr 10 0),(16,i6 v.2.2.1)],[.cells [.fz Riii v.2.2.2.1],.cells [i6 v.2.2.2.2.1,i6 v.2.2.2.2.2.1],.cells [i6 v.2.2.2.2.2.2.1,.fz Riii v.2.2.2.2.2.2.2.1],.cells [i6 v.2.2.2.2.2.2.2.2.1,.fz Riii v.2.2.2.2.2.2.2.2.2.1],.cells [i6 v.2.2.2.2.2.2.2.2.2.2.1,.rs 5],.rows Riii v.2.2.2.2.2.2.2.2.2.2.2.1,.cells [.rs 7],.rows Riii v.2.2.2.2.2.2.2.2.2.2.2.2.1,.cells [i6 v.2.2.2.2.2.2.2.2.2.2.2.2.2.1,.rs 9],.rows Riii v.2.2.2.2.2.2.2.2.2.2.2.2.2.2.1,.cells [i6 v.2.2.2.2.2.2.2.2.2.2.2.2.2.2.2.1,.rs 11],.rows Riii v.2.2.2.2.2.2.2.2.2.2.2.2.2.2.2.2]⟩
def q39n (C:q38w) (v:q39h):Dt q39l:=(Dt.bnd (C.2.2.2.2.2.1 ((v.2.2.1,()),(v.2.2.2.1,v.2.2.2.2.1,()),())) fun r1=>(Dt.ret (v.1,v.2.1,r1.2.2,v.2.2.1,v.2.2.2.1,v.2.2.2.2.1,v.2.2.2.2.2.1,v.2.2.2.2.2.2.1,v.2.2.2.2.2.2.2.1,v.2.2.2.2.2.2.2.2.1,v.2.2.2.2.2.2.2.2.2.1,v.2.2.2.2.2.2.2.2.2.2.1,v.2.2.2.2.2.2.2.2.2.2.2.1,v.2.2.2.2.2.2.2.2.2.2.2.2.1,v.2.2.2.2.2.2.2.2.2.2.2.2.2,r1.1,r1.2.1)))
theorem q39o C v:q3nz (regO (qea f3) 5) false [(4,.any),(5,(.box [.val Riii])),(6,.any),(7,(.box [.any,.val Riii])),(8,(.box [.any,.val Riii])),(11,(.box [.any,.own Riii])),(12,(.box [.own Riii])),(13,(.box [.any,.own Riii])),(14,.any),(15,(.box [.any,.own Riii])),(16,.any)] q39i q39n q39m C v:=rgI (by kernel_rfl)
abbrev q39p:Type:=Int×Int×Int×Int×List Diii×Int×Int×Int×List Diii×Int×List Diii×Int×List Diii×List Diii×Int×List Diii×Int×List Diii×List Di
def q39q (v:q39p):St:=⟨[(4,i6 v.1),(5,.ptr 0 0),(6,.ptr 1 0),(7,.ptr 2 0),(8,.ptr 3 0),(11,.ptr 4 0),(12,.ptr 6 0),(13,.ptr 8 0),(14,i6 v.2.1),(15,.ptr 10 0),(16,i6 v.2.2.1),(17,.rs 12),(18,i6 v.2.2.2.1)],[.cells [.fz Riii v.2.2.2.2.1],.cells [i6 v.2.2.2.2.2.1,i6 v.2.2.2.2.2.2.1],.cells [i6 v.2.2.2.2.2.2.2.1,.fz Riii v.2.2.2.2.2.2.2.2.1],.cells [i6 v.2.2.2.2.2.2.2.2.2.1,.fz Riii v.2.2.2.2.2.2.2.2.2.2.1],.cells [i6 v.2.2.2.2.2.2.2.2.2.2.2.1,.rs 5],.rows Riii v.2.2.2.2.2.2.2.2.2.2.2.2.1,.cells [.rs 7],.rows Riii v.2.2.2.2.2.2.2.2.2.2.2.2.2.1,.cells [i6 v.2.2.2.2.2.2.2.2.2.2.2.2.2.2.1,.rs 9],.rows Riii v.2.2.2.2.2.2.2.2.2.2.2.2.2.2.2.1,.cells [i6 v.2.2.2.2.2.2.2.2.2.2.2.2.2.2.2.2.1,.rs 11],.rows Riii v.2.2.2.2.2.2.2.2.2.2.2.2.2.2.2.2.2.1,.rows Ri v.2.2.2.2.2.2.2.2.2.2.2.2.2.2.2.2.2.2]⟩
def q39r (C:q38w) (v:q39l):Dt q39p:=(Dt.bnd (C.2.2.2.2.2.2.1 ((v.2.2.2.2.2.2.2.2.2.2.1,v.2.2.2.2.2.2.2.2.2.2.2.1,()),())) fun r1=>(Dt.ret (v.1,v.2.1,v.2.2.1,r1.2,v.2.2.2.1,v.2.2.2.2.1,v.2.2.2.2.2.1,v.2.2.2.2.2.2.1,v.2.2.2.2.2.2.2.1,v.2.2.2.2.2.2.2.2.1,v.2.2.2.2.2.2.2.2.2.1,v.2.2.2.2.2.2.2.2.2.2.1,v.2.2.2.2.2.2.2.2.2.2.2.1,v.2.2.2.2.2.2.2.2.2.2.2.2.1,v.2.2.2.2.2.2.2.2.2.2.2.2.2.1,v.2.2.2.2.2.2.2.2.2.2.2.2.2.2.1,v.2.2.2.2.2.2.2.2.2.2.2.2.2.2.2.1,v.2.2.2.2.2.2.2.2.2.2.2.2.2.2.2.2,r1.1)))
theorem q39s C v:q3nz (regO (qea f3) 6) false [(4,.any),(5,(.box [.val Riii])),(6,.any),(7,(.box [.any,.val Riii])),(8,(.box [.any,.val Riii])),(11,(.box [.any,.own Riii])),(12,(.box [.own Riii])),(13,(.box [.any,.own Riii])),(14,.any),(15,(.box [.any,.own Riii])),(16,.any),(17,(.own Ri)),(18,.any)] q39m q39r q39q C v:=rgI (by kernel_rfl)
abbrev q39t:Type:=Int×Int×Int×Int×Int×List Diii×Int×Int×Int×List Diii×Int×List Diii×Int×List Diii×List Diii×Int×List Diii×Int×List Diii×List Di×List Di
def q39u (v:q39t):St:=⟨[(4,i6 v.1),(5,.ptr 0 0),(6,.ptr 1 0),(7,.ptr 2 0),(8,.ptr 3 0),(11,.ptr 4 0),(12,.ptr 6 0),(13,.ptr 8 0),(14,i6 v.2.1),(15,.ptr 10 0),(16,i6 v.2.2.1),(17,.rs 12),(18,i6 v.2.2.2.1),(19,.rs 13),(20,i6 v.2.2.2.2.1)],[.cells [.fz Riii v.2.2.2.2.2.1],.cells [i6 v.2.2.2.2.2.2.1,i6 v.2.2.2.2.2.2.2.1],.cells [i6 v.2.2.2.2.2.2.2.2.1,.fz Riii v.2.2.2.2.2.2.2.2.2.1],.cells [i6 v.2.2.2.2.2.2.2.2.2.2.1,.fz Riii v.2.2.2.2.2.2.2.2.2.2.2.1],.cells [i6 v.2.2.2.2.2.2.2.2.2.2.2.2.1,.rs 5],.rows Riii v.2.2.2.2.2.2.2.2.2.2.2.2.2.1,.cells [.rs 7],.rows Riii v.2.2.2.2.2.2.2.2.2.2.2.2.2.2.1,.cells [i6 v.2.2.2.2.2.2.2.2.2.2.2.2.2.2.2.1,.rs 9],.rows Riii v.2.2.2.2.2.2.2.2.2.2.2.2.2.2.2.2.1,.cells [i6 v.2.2.2.2.2.2.2.2.2.2.2.2.2.2.2.2.2.1,.rs 11],.rows Riii v.2.2.2.2.2.2.2.2.2.2.2.2.2.2.2.2.2.2.1,.rows Ri v.2.2.2.2.2.2.2.2.2.2.2.2.2.2.2.2.2.2.2.1,.rows Ri v.2.2.2.2.2.2.2.2.2.2.2.2.2.2.2.2.2.2.2.2]⟩
def q39v (C:q38w) (v:q39p):Dt q39t:=(Dt.bnd (C.2.2.2.2.2.2.2.1 ((v.2.2.2.2.2.2.2.1,v.2.2.2.2.2.2.2.2.1,()),())) fun r1=>(Dt.ret (v.1,v.2.1,v.2.2.1,v.2.2.2.1,r1.2,v.2.2.2.2.1,v.2.2.2.2.2.1,v.2.2.2.2.2.2.1,v.2.2.2.2.2.2.2.1,v.2.2.2.2.2.2.2.2.1,v.2.2.2.2.2.2.2.2.2.1,v.2.2.2.2.2.2.2.2.2.2.1,v.2.2.2.2.2.2.2.2.2.2.2.1,v.2.2.2.2.2.2.2.2.2.2.2.2.1,v.2.2.2.2.2.2.2.2.2.2.2.2.2.1,v.2.2.2.2.2.2.2.2.2.2.2.2.2.2.1,v.2.2.2.2.2.2.2.2.2.2.2.2.2.2.2.1,v.2.2.2.2.2.2.2.2.2.2.2.2.2.2.2.2.1,v.2.2.2.2.2.2.2.2.2.2.2.2.2.2.2.2.2.1,v.2.2.2.2.2.2.2.2.2.2.2.2.2.2.2.2.2.2,r1.1)))
theorem q39w C v:q3nz (regO (qea f3) 7) false [(4,.any),(5,(.box [.val Riii])),(6,.any),(7,(.box [.any,.val Riii])),(8,(.box [.any,.val Riii])),(11,(.box [.any,.own Riii])),(12,(.box [.own Riii])),(13,(.box [.any,.own Riii])),(14,.any),(15,(.box [.any,.own Riii])),(16,.any),(17,(.own Ri)),(18,.any),(19,(.own Ri)),(20,.any)] q39q q39v q39u C v:=rgI (by kernel_rfl)
abbrev q39x:Type:=Int×Int×Int×Int×Int×Bool×Int×List Diii×Int×Int×Int×List Diii×Int×List Diii×Int×List Diii×List Diii×Int×List Diii×Int×List Diii×List Di×List Di
def q39y (v:q39x):St:=⟨[(4,i6 v.1),(5,.ptr 0 0),(6,.ptr 1 0),(7,.ptr 2 0),(8,.ptr 3 0),(11,.ptr 4 0),(12,.ptr 6 0),(13,.ptr 8 0),(14,i6 v.2.1),(15,.ptr 10 0),(16,i6 v.2.2.1),(17,.rs 12),(18,i6 v.2.2.2.1),(19,.rs 13),(20,i6 v.2.2.2.2.1),(21,.bool v.2.2.2.2.2.1),(22,i6 v.2.2.2.2.2.2.1)],[.cells [.fz Riii v.2.2.2.2.2.2.2.1],.cells [i6 v.2.2.2.2.2.2.2.2.1,i6 v.2.2.2.2.2.2.2.2.2.1],.cells [i6 v.2.2.2.2.2.2.2.2.2.2.1,.fz Riii v.2.2.2.2.2.2.2.2.2.2.2.1],.cells [i6 v.2.2.2.2.2.2.2.2.2.2.2.2.1,.fz Riii v.2.2.2.2.2.2.2.2.2.2.2.2.2.1],.cells [i6 v.2.2.2.2.2.2.2.2.2.2.2.2.2.2.1,.rs 5],.rows Riii v.2.2.2.2.2.2.2.2.2.2.2.2.2.2.2.1,.cells [.rs 7],.rows Riii v.2.2.2.2.2.2.2.2.2.2.2.2.2.2.2.2.1,.cells [i6 v.2.2.2.2.2.2.2.2.2.2.2.2.2.2.2.2.2.1,.rs 9],.rows Riii v.2.2.2.2.2.2.2.2.2.2.2.2.2.2.2.2.2.2.1,.cells [i6 v.2.2.2.2.2.2.2.2.2.2.2.2.2.2.2.2.2.2.2.1,.rs 11],.rows Riii v.2.2.2.2.2.2.2.2.2.2.2.2.2.2.2.2.2.2.2.2.1,.rows Ri v.2.2.2.2.2.2.2.2.2.2.2.2.2.2.2.2.2.2.2.2.2.1,.rows Ri v.2.2.2.2.2.2.2.2.2.2.2.2.2.2.2.2.2.2.2.2.2.2]⟩
def q39z (C:q38w) (v:q39t):Dt q39x:=(Dt.bnd (C.2.2.2.2.2.2.2.2.1 ((v.2.2.2.2.2.2.2.2.2.2.2.2.1,v.2.2.2.2.2.2.2.2.2.2.2.2.2.1,()),(v.2.2.2.2.2.1,()),(v.2.2.2.2.2.2.1,v.2.2.2.2.2.2.2.1,()),())) fun r1=>(Dt.ret (v.1,v.2.1,v.2.2.1,v.2.2.2.1,v.2.2.2.2.1,r1.1,r1.2,v.2.2.2.2.2.1,v.2.2.2.2.2.2.1,v.2.2.2.2.2.2.2.1,v.2.2.2.2.2.2.2.2.1,v.2.2.2.2.2.2.2.2.2.1,v.2.2.2.2.2.2.2.2.2.2.1,v.2.2.2.2.2.2.2.2.2.2.2.1,v.2.2.2.2.2.2.2.2.2.2.2.2.1,v.2.2.2.2.2.2.2.2.2.2.2.2.2.1,v.2.2.2.2.2.2.2.2.2.2.2.2.2.2.1,v.2.2.2.2.2.2.2.2.2.2.2.2.2.2.2.1,v.2.2.2.2.2.2.2.2.2.2.2.2.2.2.2.2.1,v.2.2.2.2.2.2.2.2.2.2.2.2.2.2.2.2.2.1,v.2.2.2.2.2.2.2.2.2.2.2.2.2.2.2.2.2.2.1,v.2.2.2.2.2.2.2.2.2.2.2.2.2.2.2.2.2.2.2.1,v.2.2.2.2.2.2.2.2.2.2.2.2.2.2.2.2.2.2.2.2)))
theorem q3a0 C v:q3nz (regO (qea f3) 8) false [(4,.any),(5,(.box [.val Riii])),(6,.any),(7,(.box [.any,.val Riii])),(8,(.box [.any,.val Riii])),(11,(.box [.any,.own Riii])),(12,(.box [.own Riii])),(13,(.box [.any,.own Riii])),(14,.any),(15,(.box [.any,.own Riii])),(16,.any),(17,(.own Ri)),(18,.any),(19,(.own Ri)),(20,.any),(21,.any),(22,.any)] q39u q39z q39y C v:=rgI (by kernel_rfl)
abbrev q3a1:Type:=Int×Int×Int×Int×Int×Bool×Int×Bool×Int×List Diii×Int×List Diii×Int×List Diii×Int×List Diii×List Diii×Int×List Diii×Int×List Diii×List Di×List Di
def q3a2 (v:q3a1):St:=⟨[(4,i6 v.1),(5,.ptr 0 0),(7,.ptr 1 0),(8,.ptr 2 0),(11,.ptr 3 0),(12,.ptr 5 0),(13,.ptr 7 0),(14,i6 v.2.1),(15,.ptr 9 0),(16,i6 v.2.2.1),(17,.rs 11),(18,i6 v.2.2.2.1),(19,.rs 12),(20,i6 v.2.2.2.2.1),(21,.bool v.2.2.2.2.2.1),(22,i6 v.2.2.2.2.2.2.1),(23,.bool v.2.2.2.2.2.2.2.1),(24,i6 v.2.2.2.2.2.2.2.2.1)],[.cells [.fz Riii v.2.2.2.2.2.2.2.2.2.1],.cells [i6 v.2.2.2.2.2.2.2.2.2.2.1,.fz Riii v.2.2.2.2.2.2.2.2.2.2.2.1],.cells [i6 v.2.2.2.2.2.2.2.2.2.2.2.2.1,.fz Riii v.2.2.2.2.2.2.2.2.2.2.2.2.2.1],.cells [i6 v.2.2.2.2.2.2.2.2.2.2.2.2.2.2.1,.rs 4],.rows Riii v.2.2.2.2.2.2.2.2.2.2.2.2.2.2.2.1,.cells [.rs 6],.rows Riii v.2.2.2.2.2.2.2.2.2.2.2.2.2.2.2.2.1,.cells [i6 v.2.2.2.2.2.2.2.2.2.2.2.2.2.2.2.2.2.1,.rs 8],.rows Riii v.2.2.2.2.2.2.2.2.2.2.2.2.2.2.2.2.2.2.1,.cells [i6 v.2.2.2.2.2.2.2.2.2.2.2.2.2.2.2.2.2.2.2.1,.rs 10],.rows Riii v.2.2.2.2.2.2.2.2.2.2.2.2.2.2.2.2.2.2.2.2.1,.rows Ri v.2.2.2.2.2.2.2.2.2.2.2.2.2.2.2.2.2.2.2.2.2.1,.rows Ri v.2.2.2.2.2.2.2.2.2.2.2.2.2.2.2.2.2.2.2.2.2.2]⟩
def q3a3 (C:q38w) (v:q39x):Dt q3a1:=(Dt.bnd (C.2.2.2.2.2.2.2.2.2.1 ((v.2.2.2.2.2.2.2.2.2.2.1,v.2.2.2.2.2.2.2.2.2.2.2.1,()),(v.2.2.2.2.2.2.2.1,()),(v.2.2.2.2.2.2.2.2.1,v.2.2.2.2.2.2.2.2.2.1,()),())) fun r1=>(Dt.ret (v.1,v.2.1,v.2.2.1,v.2.2.2.1,v.2.2.2.2.1,v.2.2.2.2.2.1,v.2.2.2.2.2.2.1,r1.1,r1.2,v.2.2.2.2.2.2.2.1,v.2.2.2.2.2.2.2.2.2.2.1,v.2.2.2.2.2.2.2.2.2.2.2.1,v.2.2.2.2.2.2.2.2.2.2.2.2.1,v.2.2.2.2.2.2.2.2.2.2.2.2.2.1,v.2.2.2.2.2.2.2.2.2.2.2.2.2.2.1,v.2.2.2.2.2.2.2.2.2.2.2.2.2.2.2.1,v.2.2.2.2.2.2.2.2.2.2.2.2.2.2.2.2.1,v.2.2.2.2.2.2.2.2.2.2.2.2.2.2.2.2.2.1,v.2.2.2.2.2.2.2.2.2.2.2.2.2.2.2.2.2.2.1,v.2.2.2.2.2.2.2.2.2.2.2.2.2.2.2.2.2.2.2.1,v.2.2.2.2.2.2.2.2.2.2.2.2.2.2.2.2.2.2.2.2.1,v.2.2.2.2.2.2.2.2.2.2.2.2.2.2.2.2.2.2.2.2.2.1,v.2.2.2.2.2.2.2.2.2.2.2.2.2.2.2.2.2.2.2.2.2.2)))
theorem q3a4 C v:q3nz (regO (qea f3) 9) false [(4,.any),(5,(.box [.val Riii])),(7,(.box [.any,.val Riii])),(8,(.box [.any,.val Riii])),(11,(.box [.any,.own Riii])),(12,(.box [.own Riii])),(13,(.box [.any,.own Riii])),(14,.any),(15,(.box [.any,.own Riii])),(16,.any),(17,(.own Ri)),(18,.any),(19,(.own Ri)),(20,.any),(21,.any),(22,.any),(23,.any),(24,.any)] q39y q3a3 q3a2 C v:=rgI (by kernel_rfl)
abbrev q3a5:Type:=Int×Int×Int×Int×Int×Bool×Int×Bool×Int×Int×Int×List Diii×Int×List Diii×Int×List Diii×Int×List Diii×List Diii×Int×List Diii×Int×List Diii×List Di×List Di
def q3a6 (v:q3a5):St:=⟨[(4,i6 v.1),(5,.ptr 0 0),(7,.ptr 1 0),(8,.ptr 2 0),(11,.ptr 3 0),(12,.ptr 5 0),(13,.ptr 7 0),(14,i6 v.2.1),(15,.ptr 9 0),(16,i6 v.2.2.1),(17,.rs 11),(18,i6 v.2.2.2.1),(19,.rs 12),(20,i6 v.2.2.2.2.1),(21,.bool v.2.2.2.2.2.1),(22,i6 v.2.2.2.2.2.2.1),(23,.bool v.2.2.2.2.2.2.2.1),(24,i6 v.2.2.2.2.2.2.2.2.1),(25,i6 v.2.2.2.2.2.2.2.2.2.1),(26,i6 v.2.2.2.2.2.2.2.2.2.2.1)],[.cells [.fz Riii v.2.2.2.2.2.2.2.2.2.2.2.1],.cells [i6 v.2.2.2.2.2.2.2.2.2.2.2.2.1,.fz Riii v.2.2.2.2.2.2.2.2.2.2.2.2.2.1],.cells [i6 v.2.2.2.2.2.2.2.2.2.2.2.2.2.2.1,.fz Riii v.2.2.2.2.2.2.2.2.2.2.2.2.2.2.2.1],.cells [i6 v.2.2.2.2.2.2.2.2.2.2.2.2.2.2.2.2.1,.rs 4],.rows Riii v.2.2.2.2.2.2.2.2.2.2.2.2.2.2.2.2.2.1,.cells [.rs 6],.rows Riii v.2.2.2.2.2.2.2.2.2.2.2.2.2.2.2.2.2.2.1,.cells [i6 v.2.2.2.2.2.2.2.2.2.2.2.2.2.2.2.2.2.2.2.1,.rs 8],.rows Riii v.2.2.2.2.2.2.2.2.2.2.2.2.2.2.2.2.2.2.2.2.1,.cells [i6 v.2.2.2.2.2.2.2.2.2.2.2.2.2.2.2.2.2.2.2.2.2.1,.rs 10],.rows Riii v.2.2.2.2.2.2.2.2.2.2.2.2.2.2.2.2.2.2.2.2.2.2.1,.rows Ri v.2.2.2.2.2.2.2.2.2.2.2.2.2.2.2.2.2.2.2.2.2.2.2.1,.rows Ri v.2.2.2.2.2.2.2.2.2.2.2.2.2.2.2.2.2.2.2.2.2.2.2.2]⟩
def q3a7 (C:q38w) (v:q3a1):Dt q3a5:=(Dt.bnd (C.2.2.2.2.2.2.2.2.2.2.1 ((v.2.2.2.2.2.2.2.2.2.2.2.2.2.2.1,v.2.2.2.2.2.2.2.2.2.2.2.2.2.2.2.1,()),(v.1,()),())) fun r1=>(Dt.ret (v.1,v.2.1,v.2.2.1,v.2.2.2.1,v.2.2.2.2.1,v.2.2.2.2.2.1,v.2.2.2.2.2.2.1,v.2.2.2.2.2.2.2.1,v.2.2.2.2.2.2.2.2.1,r1.1,r1.2,v.2.2.2.2.2.2.2.2.2.1,v.2.2.2.2.2.2.2.2.2.2.1,v.2.2.2.2.2.2.2.2.2.2.2.1,v.2.2.2.2.2.2.2.2.2.2.2.2.1,v.2.2.2.2.2.2.2.2.2.2.2.2.2.1,v.2.2.2.2.2.2.2.2.2.2.2.2.2.2.1,v.2.2.2.2.2.2.2.2.2.2.2.2.2.2.2.1,v.2.2.2.2.2.2.2.2.2.2.2.2.2.2.2.2.1,v.2.2.2.2.2.2.2.2.2.2.2.2.2.2.2.2.2.1,v.2.2.2.2.2.2.2.2.2.2.2.2.2.2.2.2.2.2.1,v.2.2.2.2.2.2.2.2.2.2.2.2.2.2.2.2.2.2.2.1,v.2.2.2.2.2.2.2.2.2.2.2.2.2.2.2.2.2.2.2.2.1,v.2.2.2.2.2.2.2.2.2.2.2.2.2.2.2.2.2.2.2.2.2.1,v.2.2.2.2.2.2.2.2.2.2.2.2.2.2.2.2.2.2.2.2.2.2)))
theorem q3a8 C v:q3nz (regO (qea f3) 10) false [(4,.any),(5,(.box [.val Riii])),(7,(.box [.any,.val Riii])),(8,(.box [.any,.val Riii])),(11,(.box [.any,.own Riii])),(12,(.box [.own Riii])),(13,(.box [.any,.own Riii])),(14,.any),(15,(.box [.any,.own Riii])),(16,.any),(17,(.own Ri)),(18,.any),(19,(.own Ri)),(20,.any),(21,.any),(22,.any),(23,.any),(24,.any),(25,.any),(26,.any)] q3a2 q3a7 q3a6 C v:=rgI (by kernel_rfl)
abbrev q3a9:Type:=Int×Int×Int×Int×Bool×Int×Bool×Int×Int×Int×Int×Int×List Diii×Int×List Diii×Int×List Diii×Int×List Diii×List Diii×Int×List Diii×Int×List Diii×List Di×List Di
def q3aa (v:q3a9):St:=⟨[(5,.ptr 0 0),(7,.ptr 1 0),(8,.ptr 2 0),(11,.ptr 3 0),(12,.ptr 5 0),(13,.ptr 7 0),(14,i6 v.1),(15,.ptr 9 0),(16,i6 v.2.1),(17,.rs 11),(18,i6 v.2.2.1),(19,.rs 12),(20,i6 v.2.2.2.1),(21,.bool v.2.2.2.2.1),(22,i6 v.2.2.2.2.2.1),(23,.bool v.2.2.2.2.2.2.1),(24,i6 v.2.2.2.2.2.2.2.1),(25,i6 v.2.2.2.2.2.2.2.2.1),(26,i6 v.2.2.2.2.2.2.2.2.2.1),(27,i6 v.2.2.2.2.2.2.2.2.2.2.1),(28,i6 v.2.2.2.2.2.2.2.2.2.2.2.1)],[.cells [.fz Riii v.2.2.2.2.2.2.2.2.2.2.2.2.1],.cells [i6 v.2.2.2.2.2.2.2.2.2.2.2.2.2.1,.fz Riii v.2.2.2.2.2.2.2.2.2.2.2.2.2.2.1],.cells [i6 v.2.2.2.2.2.2.2.2.2.2.2.2.2.2.2.1,.fz Riii v.2.2.2.2.2.2.2.2.2.2.2.2.2.2.2.2.1],.cells [i6 v.2.2.2.2.2.2.2.2.2.2.2.2.2.2.2.2.2.1,.rs 4],.rows Riii v.2.2.2.2.2.2.2.2.2.2.2.2.2.2.2.2.2.2.1,.cells [.rs 6],.rows Riii v.2.2.2.2.2.2.2.2.2.2.2.2.2.2.2.2.2.2.2.1,.cells [i6 v.2.2.2.2.2.2.2.2.2.2.2.2.2.2.2.2.2.2.2.2.1,.rs 8],.rows Riii v.2.2.2.2.2.2.2.2.2.2.2.2.2.2.2.2.2.2.2.2.2.1,.cells [i6 v.2.2.2.2.2.2.2.2.2.2.2.2.2.2.2.2.2.2.2.2.2.2.1,.rs 10],.rows Riii v.2.2.2.2.2.2.2.2.2.2.2.2.2.2.2.2.2.2.2.2.2.2.2.1,.rows Ri v.2.2.2.2.2.2.2.2.2.2.2.2.2.2.2.2.2.2.2.2.2.2.2.2.1,.rows Ri v.2.2.2.2.2.2.2.2.2.2.2.2.2.2.2.2.2.2.2.2.2.2.2.2.2]⟩
def q3ab (C:q38w) (v:q3a5):Dt q3a9:=(Dt.bnd (C.2.2.2.2.2.2.2.2.2.2.2.1 ((v.2.2.2.2.2.2.2.2.2.2.2.2.1,v.2.2.2.2.2.2.2.2.2.2.2.2.2.1,()),(v.1,()),())) fun r1=>(Dt.ret (v.2.1,v.2.2.1,v.2.2.2.1,v.2.2.2.2.1,v.2.2.2.2.2.1,v.2.2.2.2.2.2.1,v.2.2.2.2.2.2.2.1,v.2.2.2.2.2.2.2.2.1,v.2.2.2.2.2.2.2.2.2.1,v.2.2.2.2.2.2.2.2.2.2.1,r1.1,r1.2,v.2.2.2.2.2.2.2.2.2.2.2.1,v.2.2.2.2.2.2.2.2.2.2.2.2.1,v.2.2.2.2.2.2.2.2.2.2.2.2.2.1,v.2.2.2.2.2.2.2.2.2.2.2.2.2.2.1,v.2.2.2.2.2.2.2.2.2.2.2.2.2.2.2.1,v.2.2.2.2.2.2.2.2.2.2.2.2.2.2.2.2.1,v.2.2.2.2.2.2.2.2.2.2.2.2.2.2.2.2.2.1,v.2.2.2.2.2.2.2.2.2.2.2.2.2.2.2.2.2.2.1,v.2.2.2.2.2.2.2.2.2.2.2.2.2.2.2.2.2.2.2.1,v.2.2.2.2.2.2.2.2.2.2.2.2.2.2.2.2.2.2.2.2.1,v.2.2.2.2.2.2.2.2.2.2.2.2.2.2.2.2.2.2.2.2.2.1,v.2.2.2.2.2.2.2.2.2.2.2.2.2.2.2.2.2.2.2.2.2.2.1,v.2.2.2.2.2.2.2.2.2.2.2.2.2.2.2.2.2.2.2.2.2.2.2.1,v.2.2.2.2.2.2.2.2.2.2.2.2.2.2.2.2.2.2.2.2.2.2.2.2)))
theorem q3ac C v:q3nz (regO (qea f3) 11) false [(5,(.box [.val Riii])),(7,(.box [.any,.val Riii])),(8,(.box [.any,.val Riii])),(11,(.box [.any,.own Riii])),(12,(.box [.own Riii])),(13,(.box [.any,.own Riii])),(14,.any),(15,(.box [.any,.own Riii])),(16,.any),(17,(.own Ri)),(18,.any),(19,(.own Ri)),(20,.any),(21,.any),(22,.any),(23,.any),(24,.any),(25,.any),(26,.any),(27,.any),(28,.any)] q3a6 q3ab q3aa C v:=rgI (by kernel_rfl)
abbrev q3ad:Type:=Int×Int×Int×Int×Bool×Int×Bool×Int×Int×Int×Int×Int×Bool×Int×List Diii×Int×List Diii×Int×List Diii×Int×List Diii×List Diii×Int×List Diii×Int×List Diii×List Di×List Di
def q3ae (v:q3ad):St:=⟨[(5,.ptr 0 0),(7,.ptr 1 0),(8,.ptr 2 0),(11,.ptr 3 0),(12,.ptr 5 0),(13,.ptr 7 0),(14,i6 v.1),(15,.ptr 9 0),(16,i6 v.2.1),(17,.rs 11),(18,i6 v.2.2.1),(19,.rs 12),(20,i6 v.2.2.2.1),(21,.bool v.2.2.2.2.1),(22,i6 v.2.2.2.2.2.1),(23,.bool v.2.2.2.2.2.2.1),(24,i6 v.2.2.2.2.2.2.2.1),(25,i6 v.2.2.2.2.2.2.2.2.1),(26,i6 v.2.2.2.2.2.2.2.2.2.1),(27,i6 v.2.2.2.2.2.2.2.2.2.2.1),(28,i6 v.2.2.2.2.2.2.2.2.2.2.2.1),(29,.bool v.2.2.2.2.2.2.2.2.2.2.2.2.1),(30,i6 v.2.2.2.2.2.2.2.2.2.2.2.2.2.1)],[.cells [.fz Riii v.2.2.2.2.2.2.2.2.2.2.2.2.2.2.1],.cells [i6 v.2.2.2.2.2.2.2.2.2.2.2.2.2.2.2.1,.fz Riii v.2.2.2.2.2.2.2.2.2.2.2.2.2.2.2.2.1],.cells [i6 v.2.2.2.2.2.2.2.2.2.2.2.2.2.2.2.2.2.1,.fz Riii v.2.2.2.2.2.2.2.2.2.2.2.2.2.2.2.2.2.2.1],.cells [i6 v.2.2.2.2.2.2.2.2.2.2.2.2.2.2.2.2.2.2.2.1,.rs 4],.rows Riii v.2.2.2.2.2.2.2.2.2.2.2.2.2.2.2.2.2.2.2.2.1,.cells [.rs 6],.rows Riii v.2.2.2.2.2.2.2.2.2.2.2.2.2.2.2.2.2.2.2.2.2.1,.cells [i6 v.2.2.2.2.2.2.2.2.2.2.2.2.2.2.2.2.2.2.2.2.2.2.1,.rs 8],.rows Riii v.2.2.2.2.2.2.2.2.2.2.2.2.2.2.2.2.2.2.2.2.2.2.2.1,.cells [i6 v.2.2.2.2.2.2.2.2.2.2.2.2.2.2.2.2.2.2.2.2.2.2.2.2.1,.rs 10],.rows Riii v.2.2.2.2.2.2.2.2.2.2.2.2.2.2.2.2.2.2.2.2.2.2.2.2.2.1,.rows Ri v.2.2.2.2.2.2.2.2.2.2.2.2.2.2.2.2.2.2.2.2.2.2.2.2.2.2.1,.rows Ri v.2.2.2.2.2.2.2.2.2.2.2.2.2.2.2.2.2.2.2.2.2.2.2.2.2.2.2]⟩
def q3af (C:q38w) (v:q3a9):Dt q3ad:=(Dt.bnd (C.2.2.2.2.2.2.2.2.2.2.2.2.1 ((v.2.2.2.2.2.2.2.2.2.2.2.2.2.2.2.2.2.1,v.2.2.2.2.2.2.2.2.2.2.2.2.2.2.2.2.2.2.1,()),(v.2.2.2.2.2.2.2.2.2.2.2.2.2.2.2.1,v.2.2.2.2.2.2.2.2.2.2.2.2.2.2.2.2.1,()),())) fun r1=>(Dt.ret (v.1,v.2.1,v.2.2.1,v.2.2.2.1,v.2.2.2.2.1,v.2.2.2.2.2.1,v.2.2.2.2.2.2.1,v.2.2.2.2.2.2.2.1,v.2.2.2.2.2.2.2.2.1,v.2.2.2.2.2.2.2.2.2.1,v.2.2.2.2.2.2.2.2.2.2.1,v.2.2.2.2.2.2.2.2.2.2.2.1,r1.1,r1.2,v.2.2.2.2.2.2.2.2.2.2.2.2.1,v.2.2.2.2.2.2.2.2.2.2.2.2.2.1,v.2.2.2.2.2.2.2.2.2.2.2.2.2.2.1,v.2.2.2.2.2.2.2.2.2.2.2.2.2.2.2.1,v.2.2.2.2.2.2.2.2.2.2.2.2.2.2.2.2.1,v.2.2.2.2.2.2.2.2.2.2.2.2.2.2.2.2.2.1,v.2.2.2.2.2.2.2.2.2.2.2.2.2.2.2.2.2.2.1,v.2.2.2.2.2.2.2.2.2.2.2.2.2.2.2.2.2.2.2.1,v.2.2.2.2.2.2.2.2.2.2.2.2.2.2.2.2.2.2.2.2.1,v.2.2.2.2.2.2.2.2.2.2.2.2.2.2.2.2.2.2.2.2.2.1,v.2.2.2.2.2.2.2.2.2.2.2.2.2.2.2.2.2.2.2.2.2.2.1,v.2.2.2.2.2.2.2.2.2.2.2.2.2.2.2.2.2.2.2.2.2.2.2.1,v.2.2.2.2.2.2.2.2.2.2.2.2.2.2.2.2.2.2.2.2.2.2.2.2.1,v.2.2.2.2.2.2.2.2.2.2.2.2.2.2.2.2.2.2.2.2.2.2.2.2.2)))
theorem q3ag C v:q3nz (regO (qea f3) 12) false [(5,(.box [.val Riii])),(7,(.box [.any,.val Riii])),(8,(.box [.any,.val Riii])),(11,(.box [.any,.own Riii])),(12,(.box [.own Riii])),(13,(.box [.any,.own Riii])),(14,.any),(15,(.box [.any,.own Riii])),(16,.any),(17,(.own Ri)),(18,.any),(19,(.own Ri)),(20,.any),(21,.any),(22,.any),(23,.any),(24,.any),(25,.any),(26,.any),(27,.any),(28,.any),(29,.any),(30,.any)] q3aa q3af q3ae C v:=rgI (by kernel_rfl)
abbrev q3ah:Type:=Int×Int×Int×Int×Bool×Int×Bool×Int×Int×Int×Int×Int×Bool×Int×Bool×Int×List Diii×Int×List Diii×Int×List Diii×List Diii×Int×List Diii×Int×List Diii×List Di×List Di
def q3ai (v:q3ah):St:=⟨[(5,.ptr 0 0),(7,.ptr 1 0),(11,.ptr 2 0),(12,.ptr 4 0),(13,.ptr 6 0),(14,i6 v.1),(15,.ptr 8 0),(16,i6 v.2.1),(17,.rs 10),(18,i6 v.2.2.1),(19,.rs 11),(20,i6 v.2.2.2.1),(21,.bool v.2.2.2.2.1),(22,i6 v.2.2.2.2.2.1),(23,.bool v.2.2.2.2.2.2.1),(24,i6 v.2.2.2.2.2.2.2.1),(25,i6 v.2.2.2.2.2.2.2.2.1),(26,i6 v.2.2.2.2.2.2.2.2.2.1),(27,i6 v.2.2.2.2.2.2.2.2.2.2.1),(28,i6 v.2.2.2.2.2.2.2.2.2.2.2.1),(29,.bool v.2.2.2.2.2.2.2.2.2.2.2.2.1),(30,i6 v.2.2.2.2.2.2.2.2.2.2.2.2.2.1),(31,.bool v.2.2.2.2.2.2.2.2.2.2.2.2.2.2.1),(32,i6 v.2.2.2.2.2.2.2.2.2.2.2.2.2.2.2.1)],[.cells [.fz Riii v.2.2.2.2.2.2.2.2.2.2.2.2.2.2.2.2.1],.cells [i6 v.2.2.2.2.2.2.2.2.2.2.2.2.2.2.2.2.2.1,.fz Riii v.2.2.2.2.2.2.2.2.2.2.2.2.2.2.2.2.2.2.1],.cells [i6 v.2.2.2.2.2.2.2.2.2.2.2.2.2.2.2.2.2.2.2.1,.rs 3],.rows Riii v.2.2.2.2.2.2.2.2.2.2.2.2.2.2.2.2.2.2.2.2.1,.cells [.rs 5],.rows Riii v.2.2.2.2.2.2.2.2.2.2.2.2.2.2.2.2.2.2.2.2.2.1,.cells [i6 v.2.2.2.2.2.2.2.2.2.2.2.2.2.2.2.2.2.2.2.2.2.2.1,.rs 7],.rows Riii v.2.2.2.2.2.2.2.2.2.2.2.2.2.2.2.2.2.2.2.2.2.2.2.1,.cells [i6 v.2.2.2.2.2.2.2.2.2.2.2.2.2.2.2.2.2.2.2.2.2.2.2.2.1,.rs 9],.rows Riii v.2.2.2.2.2.2.2.2.2.2.2.2.2.2.2.2.2.2.2.2.2.2.2.2.2.1,.rows Ri v.2.2.2.2.2.2.2.2.2.2.2.2.2.2.2.2.2.2.2.2.2.2.2.2.2.2.1,.rows Ri v.2.2.2.2.2.2.2.2.2.2.2.2.2.2.2.2.2.2.2.2.2.2.2.2.2.2.2]⟩
def q3aj (C:q38w) (v:q3ad):Dt q3ah:=(Dt.bnd (C.2.2.2.2.2.2.2.2.2.2.2.2.2.1 ((v.2.2.2.2.2.2.2.2.2.2.2.2.2.2.2.1,v.2.2.2.2.2.2.2.2.2.2.2.2.2.2.2.2.1,()),(v.2.2.2.2.2.2.2.2.2.2.2.2.2.2.2.2.2.1,v.2.2.2.2.2.2.2.2.2.2.2.2.2.2.2.2.2.2.1,()),())) fun r1=>(Dt.ret (v.1,v.2.1,v.2.2.1,v.2.2.2.1,v.2.2.2.2.1,v.2.2.2.2.2.1,v.2.2.2.2.2.2.1,v.2.2.2.2.2.2.2.1,v.2.2.2.2.2.2.2.2.1,v.2.2.2.2.2.2.2.2.2.1,v.2.2.2.2.2.2.2.2.2.2.1,v.2.2.2.2.2.2.2.2.2.2.2.1,v.2.2.2.2.2.2.2.2.2.2.2.2.1,v.2.2.2.2.2.2.2.2.2.2.2.2.2.1,r1.1,r1.2,v.2.2.2.2.2.2.2.2.2.2.2.2.2.2.1,v.2.2.2.2.2.2.2.2.2.2.2.2.2.2.2.1,v.2.2.2.2.2.2.2.2.2.2.2.2.2.2.2.2.1,v.2.2.2.2.2.2.2.2.2.2.2.2.2.2.2.2.2.2.2.1,v.2.2.2.2.2.2.2.2.2.2.2.2.2.2.2.2.2.2.2.2.1,v.2.2.2.2.2.2.2.2.2.2.2.2.2.2.2.2.2.2.2.2.2.1,v.2.2.2.2.2.2.2.2.2.2.2.2.2.2.2.2.2.2.2.2.2.2.1,v.2.2.2.2.2.2.2.2.2.2.2.2.2.2.2.2.2.2.2.2.2.2.2.1,v.2.2.2.2.2.2.2.2.2.2.2.2.2.2.2.2.2.2.2.2.2.2.2.2.1,v.2.2.2.2.2.2.2.2.2.2.2.2.2.2.2.2.2.2.2.2.2.2.2.2.2.1,v.2.2.2.2.2.2.2.2.2.2.2.2.2.2.2.2.2.2.2.2.2.2.2.2.2.2.1,v.2.2.2.2.2.2.2.2.2.2.2.2.2.2.2.2.2.2.2.2.2.2.2.2.2.2.2)))
theorem q3ak C v:q3nz (regO (qea f3) 13) false [(5,(.box [.val Riii])),(7,(.box [.any,.val Riii])),(11,(.box [.any,.own Riii])),(12,(.box [.own Riii])),(13,(.box [.any,.own Riii])),(14,.any),(15,(.box [.any,.own Riii])),(16,.any),(17,(.own Ri)),(18,.any),(19,(.own Ri)),(20,.any),(21,.any),(22,.any),(23,.any),(24,.any),(25,.any),(26,.any),(27,.any),(28,.any),(29,.any),(30,.any),(31,.any),(32,.any)] q3ae q3aj q3ai C v:=rgI (by kernel_rfl)
def q3al (C:q38w) (v:q3ah):Dt q399:=(Dt.bnd (C.2.2.2.2.2.2.2.2.2.2.2.2.2.2.1 ((v.2.2.2.2.2.2.2.2.2.2.2.2.2.2.2.2.2.2.2.2.2.2.1,v.2.2.2.2.2.2.2.2.2.2.2.2.2.2.2.2.2.2.2.2.2.2.2.1,()),(v.2.2.2.2.2.2.2.2.2.2.2.2.2.2.2.2.2.2.2.2.2.2.2.2.1,v.2.2.2.2.2.2.2.2.2.2.2.2.2.2.2.2.2.2.2.2.2.2.2.2.2.1,()),())) fun r1=>(Dt.ite r1 (Dt.ite (v.1 == v.2.1) (Dt.bnd (C.2.2.2.2.2.2.2.2.2.2.2.2.2.2.2.1 ((v.2.2.2.2.2.2.2.2.2.2.2.2.2.2.2.2.2.2.2.1,v.2.2.2.2.2.2.2.2.2.2.2.2.2.2.2.2.2.2.2.2.1,()),())) fun r2=>(Dt.bnd (C.2.2.2.2.2.2.2.2.2.2.2.2.2.2.2.2.1 ((v.2.2.2.2.2.2.2.2.2.2.2.2.2.2.2.2.2.1,v.2.2.2.2.2.2.2.2.2.2.2.2.2.2.2.2.2.2.1,()),())) fun r3=>(Dt.ite (r2 == r3) (Dt.bnd (C.2.2.2.2.2.2.2.2.2.2.2.2.2.2.2.2.2.1 ((v.2.2.2.2.2.2.2.2.2.2.2.2.2.2.2.2.2.2.2.2.2.2.2.2.2.2.1,()),(v.2.2.2.2.2.2.2.2.2.2.2.2.2.2.2.2.2.2.2.2.2.2.2.2.2.2.2,()),())) fun r4=>(Dt.ite r4 (Dt.ite (v.2.2.1 == v.2.2.2.1) (Dt.ite (v.2.2.2.2.1 == v.2.2.2.2.2.2.1) (Dt.ite (v.2.2.2.2.2.1 == v.2.2.2.2.2.2.2.1) (Dt.ite (v.2.2.2.2.2.2.2.2.1 == v.2.2.2.2.2.2.2.2.2.2.1) (Dt.ite (v.2.2.2.2.2.2.2.2.2.1 == v.2.2.2.2.2.2.2.2.2.2.2.1) (Dt.ite (v.2.2.2.2.2.2.2.2.2.2.2.2.1 == v.2.2.2.2.2.2.2.2.2.2.2.2.2.2.1) (Dt.ite (v.2.2.2.2.2.2.2.2.2.2.2.2.2.1 == v.2.2.2.2.2.2.2.2.2.2.2.2.2.2.2.1) (Dt.bnd (C.2.2.2.2.2.2.2.2.2.2.2.2.2.2.1 ((v.2.2.2.2.2.2.2.2.2.2.2.2.2.2.2.2.2.2.2.1,v.2.2.2.2.2.2.2.2.2.2.2.2.2.2.2.2.2.2.2.2.1,()),(v.2.2.2.2.2.2.2.2.2.2.2.2.2.2.2.2.2.1,v.2.2.2.2.2.2.2.2.2.2.2.2.2.2.2.2.2.2.1,()),())) fun r5=>(Dt.ite r5 (Dt.bnd (C.2.2.2.2.2.2.2.2.2.2.2.2.2.2.2.2.2.2.1 ((v.2.2.2.2.2.2.2.2.2.2.2.2.2.2.2.2.2.2.2.2.2.1,()),(v.2.2.2.2.2.2.2.2.2.2.2.2.2.2.2.2.1,()),())) fun r6=>(Dt.ret r6)) (Dt.ret false))) (Dt.ret false)) (Dt.ret false)) (Dt.ret false)) (Dt.ret false)) (Dt.ret false)) (Dt.ret false)) (Dt.ret false)) (Dt.ret false))) (Dt.ret false)))) (Dt.ret false)) (Dt.ret false)))
theorem q3am C v:q3nz (regO (qea f3) 14) true [(10,.any)] q3ai q3al q39a C v:=rgI (by kernel_rfl)
def q3an (d:Nat) (x:q38s):Option q38t :=
 (q393 (q38x d) (x.1.1,x.2.1.1,x.2.1.2.1,x.2.2.1.1,x.2.2.1.2.1,x.2.2.2.1.1,x.2.2.2.1.2.1,x.2.2.2.2.1.1)).eval fun y0 =>
 (q397 (q38x d) y0).eval fun y1 =>
 bif y1.2.1 then ((q39b (q38x d) y1).eval fun y2 =>
 some y2) else ((q39f (q38x d) y1).eval fun y3 =>
 (q39j (q38x d) y3).eval fun y4 =>
 (q39n (q38x d) y4).eval fun y5 =>
 (q39r (q38x d) y5).eval fun y6 =>
 (q39v (q38x d) y6).eval fun y7 =>
 (q39z (q38x d) y7).eval fun y8 =>
 (q3a3 (q38x d) y8).eval fun y9 =>
 (q3a7 (q38x d) y9).eval fun y10 =>
 (q3ab (q38x d) y10).eval fun y11 =>
 (q3af (q38x d) y11).eval fun y12 =>
 (q3aj (q38x d) y12).eval fun y13 =>
 (q3al (q38x d) y13).eval fun y14 =>
 some y14)
theorem q3ao (d:Nat):COK prog (q38v (q3an d)):=by
 have hm:prog.follows .mixedOrders=true:=mixed
 have hT:=tys
 have hC0:OrcOK prog (orc (q38y (q38x d))):=qe4 (by
  intro S hS
  simp only [q38y,List.mem_cons,List.not_mem_nil,or_false] at hS
  rcases hS with rfl | rfl | rfl | rfl | rfl | rfl | rfl | rfl | rfl | rfl | rfl | rfl | rfl | rfl | rfl | rfl | rfl | rfl | rfl
  · exact qq9 d
  · exact q1cz d
  · exact q1b8 d
  · exact qr9 d
  · exact q15i d
  · exact q1x0 d
  · exact q10e d
  · exact q1qw d
  · exact q1ao d
  · exact q1y4 d
  · exact q126 d
  · exact q1rw d
  · exact q19k d
  · exact q1t0 d
  · exact q1cf d
  · exact qyz d
  · exact q1ox d
  · exact qui d
  · exact qri d)
 have hC:OrcOK prog (orc (q38y (q38x d))):=hC0
 refine q9t (c:=qea f3) (fn:=f3) hT (by kernel_rfl) (by kernel_rfl) (by decide) fun x r h w0 φ0 Q hend=>?_
 replace h:q3an d x=some r:=h
 unfold q3an at h
 show Run prog w0 φ0 172 (qea f3) ⟨[(0,.agg [.fz Riii x.1.1]),(1,.agg [.int .i64 x.2.1.1,.int .i64 x.2.1.2.1]),(2,.agg [.int .i64 x.2.2.1.1,.fz Riii x.2.2.1.2.1]),(3,.agg [.int .i64 x.2.2.2.1.1,.fz Riii x.2.2.2.1.2.1]),(4,.int .i64 x.2.2.2.2.1.1)],[]⟩ Q
 refine q344 hm hT hC (q394 (q38x d) (x.1.1,x.2.1.1,x.2.1.2.1,x.2.2.1.1,x.2.2.1.2.1,x.2.2.2.1.1,x.2.2.2.1.2.1,x.2.2.2.2.1.1)) h fun y0 h=>?_
 refine q9d ?_
 refine q344 hm hT hC (q398 (q38x d) y0) h fun y1 h=>?_
 refine q9h (v:=y1.2.1) (by kernel_rfl) h ?_ ?_
 ·
  intro h
  refine q344 hm hT hC (q39c (q38x d) y1) h fun y2 h=>?_
  refine q9c (q91 ?_)
  cases h
  exact (hend _ (by kernel_rfl)).2
 ·
  intro h
  refine q99 (q8z ?_)
  refine q344 hm hT hC (q39g (q38x d) y1) h fun y3 h=>?_
  refine q344 hm hT hC (q39k (q38x d) y3) h fun y4 h=>?_
  refine q344 hm hT hC (q39o (q38x d) y4) h fun y5 h=>?_
  refine q344 hm hT hC (q39s (q38x d) y5) h fun y6 h=>?_
  refine q344 hm hT hC (q39w (q38x d) y6) h fun y7 h=>?_
  refine q344 hm hT hC (q3a0 (q38x d) y7) h fun y8 h=>?_
  refine q344 hm hT hC (q3a4 (q38x d) y8) h fun y9 h=>?_
  refine q344 hm hT hC (q3a8 (q38x d) y9) h fun y10 h=>?_
  refine q344 hm hT hC (q3ac (q38x d) y10) h fun y11 h=>?_
  refine q344 hm hT hC (q3ag (q38x d) y11) h fun y12 h=>?_
  refine q344 hm hT hC (q3ak (q38x d) y12) h fun y13 h=>?_
  refine q344 hm hT hC (q3am (q38x d) y13) h fun y14 h=>?_
  refine q9c ?_
  cases h
  exact (hend _ (by kernel_rfl)).2
end Go.Proofs.Ytoakhncbmpdacaa

namespace Go.Proofs.Ytoakhncbmpdacaa
open Go Go.Tx Go.Pel
def rowI (N:List N3) (l:List Nat):List (Int×Unit):=l.map fun k=>(idN N k,())
theorem q3n9 (N:List N3) (l:List Nat):(rowI N l).length=l.length:=List.length_map _
theorem q3na (d:Nat) {root:Int} {N:List N3} {l:List Nat} (hv:VT root N l):∀ (f i:Nat),l.length - i<f→i≤l.length →
    iter (q10c d) f ((l.length:Int),(i:Int),root,N,rowI N (l.take i)++nodL (l.drop i))=some (rowI N l,0)
  | 0,i,h,_=>by omega
  | f + 1, i, hf, hi => by
    have ih:=q3na d hv f (i+1)
    rw [iter]
    revert ih
    generalize iter (q10c d) f=self
    intro ih
    unfold q10c
    have hln:=hv.ln
    have hlen:=hv.len
    by_cases hl:i<l.length
    · obtain ⟨k, hk⟩ : ∃ k, l[i]? = some k := ⟨_, List.getElem?_eq_getElem hl⟩
      have hkN:=hv.lt k (List.mem_of_getElem? hk)
      obtain ⟨x,hx⟩:∃ x,N[k]?=some x:=⟨_,List.getElem?_eq_getElem hkN⟩
      have hid:=(q37y hx).1
      have hw:=q36l (show i<1000000 by omega)
      have hdr:nodL (l.drop i)=((k:Int),()) :: nodL (l.drop (i+1)):=by
        obtain ⟨h1,rfl⟩:=List.getElem?_eq_some_iff.1 hk
        rw [List.drop_eq_getElem_cons h1];rfl
      have htk:rowI N (l.take (i+1))=rowI N (l.take i) ++ [(x.1,())]:=by
        unfold rowI
        rw [List.take_add_one,hk,List.map_append]
        congr 1
        show [(idN N k,())]=_
        rw [hid]
      have ha:(rowI N (l.take i)).length=i:=by rw [q3n9,List.length_take];omega
      have:=ih (by omega) (by omega)
      rw [htk,List.append_assoc] at this
      rw [hdr]
      generalize rowI N (l.take i)=A at ha this
      have hB:(nodL (l.drop (i+1))).length=l.length - (i+1):=by rw [q363,List.length_drop]
      generalize nodL (l.drop (i+1))=B at hB this
      have hg:(A++((k:Int),()) :: B)[i]?=some ((k:Int),()):=by rw [List.getElem?_append_right (by omega),ha,Nat.sub_self];rfl
      have hl1:(A++((k:Int),()) :: B).length=l.length:=by rw [List.length_append,ha,List.length_cons,hB];omega
      have hset:∀ v,(A++((k:Int),()) :: B).set i v=A++v :: B:=fun v=>by rw [List.set_append_right _ _ (by omega),ha,Nat.sub_self];rfl
      simp only [q100,q104,q106,q108,Dt.eval,decK hl,cond_true,hl1,inbK hl,eltK hg,q368 hg,inbK hkN,eltK hx,q368 hx,Int.toNat_natCast,hset,hw]
      exact this
    · have hie : i = l.length := by omega
      subst hie
      simp only [q100,q10a,Dt.eval,decN hl,cond_false,List.take_length,List.drop_length]
      rw [show nodL ([]:List Nat)=[] from rfl,List.append_nil]
def idsV (root:Int) (N:List N3):List (Int×Unit)×Int:=if chkT root N≠0 then ([],chkT root N) else (rowI N (wkR N root).1,0)
theorem q3nb (d:Nat) (hd:5000≤d) (root:Int) (N:List N3):q10d d ((root,N,()),())=some (idsV root N):=by
  have e1:=q36w d hd root N
  unfold idsV
  by_cases c:chkT root N=0
  · obtain ⟨l, hv⟩ := q37u c
    have hlen:=hv.len
    have hln:=hv.ln
    have e2:=q36a d hv.lk (by omega) hd hv.lkr hv.wk
    have e3:=q3na d hv d 0 (by omega) (Nat.zero_le _)
    rw [List.take_zero,List.drop_zero] at e3
    have e3':iter (q10c d) d ((l.length:Int),0,root,N,nodL l)=_:=e3
    rw [if_neg (by rw [c];decide),hv.wkE]
    simp only [q10d,qz6,qzc,qzg,qzk,qzs,qzw,Dt.eval,e1,c,show ((0:Int) != 0)=false from rfl,cond_false,e2,resW,q363]
    exact e3'
  · rw [if_pos c]
    simp only [q10d,qz6,qzc,qzg,qzk,qzo,Dt.eval,e1,show (chkT root N != 0)=true from bne_iff_ne.2 c,cond_true]
theorem q3nc (d:Nat) {root:Int} {N:List N3} {l:List Nat} (hv:VT root N l):∀ (f i:Nat),l.length - i<f→i≤l.length →
    iter (q1q0 d) f ((i:Int),root,N,rowI N (l.take i),nodL l)=some (rowI N l)
  | 0,i,h,_=>by omega
  | f + 1, i, hf, hi => by
    have ih:=q3nc d hv f (i+1)
    rw [iter]
    revert ih
    generalize iter (q1q0 d) f=self
    intro ih
    unfold q1q0
    have hln:=hv.ln
    have hlen:=hv.len
    by_cases hl:i<l.length
    · obtain ⟨k, hk⟩ : ∃ k, l[i]? = some k := ⟨_, List.getElem?_eq_getElem hl⟩
      have hkN:=hv.lt k (List.mem_of_getElem? hk)
      obtain ⟨x,hx⟩:∃ x,N[k]?=some x:=⟨_,List.getElem?_eq_getElem hkN⟩
      have hid:=(q37y hx).1
      have hw:=q36l (show i<1000000 by omega)
      have htk:rowI N (l.take (i+1))=rowI N (l.take i) ++ [(x.1,())]:=by
        unfold rowI
        rw [List.take_add_one,hk,List.map_append]
        congr 1
        show [(idN N k,())]=_
        rw [hid]
      have hap:apB (rowI N (l.take i)).length 1=true:=by unfold apB;rw [Nat.ble_eq,q3n9,List.length_take];omega
      have:=ih (by omega) (by omega)
      rw [htk] at this
      simp only [q1pq,q1pu,q1ps,Dt.eval,q363,decK hl,cond_true,inbK hl,eltK (q36r hk),inbK hkN,eltK hx,List.length_singleton,hap,hw]
      exact this
    · have hie : i = l.length := by omega
      subst hie
      simp only [q1pq,q1py,Dt.eval,q363,decN hl,cond_false,List.take_length]
theorem q3nd (d:Nat) (hd:5000≤d) {root:Int} {N:List N3} {l:List Nat} (hv:VT root N l):q1q1 d ((root,N,()),())=some (rowI N l):=by
  have hlen:=hv.len
  have hln:=hv.ln
  have e2:=q36d d hd (by omega) hv.tr hv.nd
  have e4:q1mo d ((root,N,()),())=some (nodL l):=by simp only [q1mo,q1mc,q1mi,q1mm,Dt.eval,e2]
  have e3:=q3nc d hv d 0 (by omega) (Nat.zero_le _)
  simp only [q1q1,q1p4,q1pa,q1pe,q1pi,q1pm,Dt.eval,e4]
  exact e3
theorem q3ne (d:Nat) (hd:5000≤d) (root:Int) (N:List N3):q1qv d ((root,N,()),())=some (idsV root N):=by
  have e1:=q36z d hd root N
  unfold idsV
  by_cases c:chkT root N=0
  · obtain ⟨l, hv⟩ := q37u c
    have e5:=q3nd d hd hv
    rw [if_neg (by rw [c];decide),hv.wkE]
    simp only [q1qv,q1q9,q1qf,q1qj,q1qn,q1qt,Dt.eval,e1,c,show ((0:Int) != 0)=false from rfl,cond_false,e5]
  · rw [if_pos c]
    simp only [q1qv,q1q9,q1qf,q1qj,q1qn,q1qr,Dt.eval,e1,show (chkT root N != 0)=true from bne_iff_ne.2 c,cond_true]
theorem Gr.links {P:List N3} {n d:Int} {N:List N3} {i:Int} {a b:Nat} (h:Gr P n d N i a b):-1≤i∧i<b∧(i<0↔b≤a)∧∀ k,a≤k→k<b→-1≤lfN N k∧lfN N k<b∧-1≤rtN N k∧rtN N k<b:=by
  induction h with
  | leaf a b h=>exact ⟨by omega,by omega,by omega,fun k h1 h2=>by omega⟩
  | node k a b x h1 h2 h3 h4 _ _ ih1 ih2 =>
    obtain ⟨a1,a2,a3,a4⟩:=ih1
    obtain ⟨b1,b2,b3,b4⟩:=ih2
    refine ⟨by omega,by omega,by omega,fun m m1 m2=>?_⟩
    obtain ⟨_,e2,e3⟩:=q37y h3
    rcases Nat.lt_trichotomy m k with h5 | h5 | h5
    · have:=a4 m m1 h5;omega
    · subst h5;rw [e2,e3];omega
    · have:=b4 m (by omega) m2;omega
theorem q3nf {P:List N3} (hP:FOk P) {n d:Int} {N:List N3} {r:Int} (hg:Gr P n d N r 0 P.length) (hN:N.length=P.length) (hid:∀ j,j<P.length→idN N j=(ptA P j).1):VT r N (List.range P.length):=by
  have hlen:=hP.len
  obtain ⟨g1,g2,g3,g4⟩:=hg.links
  refine ⟨by omega,?_,?_,?_,List.nodup_range,by rw [List.length_range,hN],?_⟩
  · simp only [not_or]
    refine ⟨by omega,by omega,?_⟩
    simp only [ne_eq,Decidable.not_not,eq_iff_iff]
    omega
  · rw [List.all_eq_true]
    intro x hx
    obtain ⟨j,hj,rfl⟩:=List.mem_iff_getElem.1 hx
    have hx2:N[j]?=some N[j]:=List.getElem?_eq_getElem hj
    obtain ⟨e1,e2,e3⟩:=q37y hx2
    have h5:=g4 j (Nat.zero_le _) (by omega)
    have h6:=hid j (by omega)
    have h7:=hP.ok _ (q371 (show j<P.length by omega))
    have h8:=qey (i:=(ptA P j).1) (a:=(ptA P j).2.1) (b:=(ptA P j).2.2.1) h7
    rw [q36q]
    rw [e2,e3] at h5
    rw [e1] at h6
    omega
  · have := hg.tr
    rw [Nat.sub_zero,← List.range_eq_range'] at this
    exact this
  · refine q37x ?_
    unfold incL
    rw [List.pairwise_iff_getElem]
    intro i j hi hj hij
    rw [List.length_range] at hi hj
    rw [List.getElem_range,List.getElem_range,hid i hi,hid j hj]
    exact hP.inc i j hij hj
theorem q3ng (d:Nat) (hd:5000≤d) (r:Int) (N P:List N3) (hlen:P.length≤1000000) {n dd:Int} (hn:i64B n=true) (hdd:i64B dd=true):q1y3 d ((r,N,()),(P,()),(n,dd,()),())=q1an d ((r,N,()),(P,()),(n,dd,()),())∧∃ v,q1an d ((r,N,()),(P,()),(n,dd,()),())=some v:=by
  have e1:=q36w d hd r N
  have e2:=q36z d hd r N
  have e3:quq d ((P,()),(n,dd,()),())=some (qsv (ptsL P) n dd):=qur d _ (by unfold qup ptsL;simp only [hn,hdd,Bool.true_and,List.length_map];exact decide_eq_true hlen)
  by_cases c:chkT r N=0
  · rcases q37s d hd P hn hdd with ⟨h, e⟩ | ⟨h, hP, hT, r', M, e, g1, g2, g3⟩
    · have hne : (qsv (ptsL P) n dd != 0) = true := bne_iff_ne.2 h
      have v1:q1an d ((r,N,()),(P,()),(n,dd,()),())=some (false,qsv (ptsL P) n dd):=by
        simp only [q1an,q19r,q19x,q1a1,q1a5,q1ad,q1ah,q1aj,Dt.eval,e1,c,show ((0:Int) != 0)=false from rfl,cond_false,e,hne,cond_true]
      have v2:q1y3 d ((r,N,()),(P,()),(n,dd,()),())=some (false,qsv (ptsL P) n dd):=by
        simp only [q1y3,q1x7,q1xd,q1xh,q1xl,q1xt,q1xx,q1xz,Dt.eval,e2,c,show ((0:Int) != 0)=false from rfl,cond_false,e3,hne,cond_true]
      exact ⟨v2.trans v1.symm,_,v1⟩
    · obtain ⟨r2, M2, k1, k2, k3, k4⟩ := q37i d hd hP hT
      obtain ⟨u1,u2⟩:=g1.uniq k2
      have hNM:M=M2:=ext3 (by omega) fun j hj=>⟨by rw [g3 j (by omega),k4 j (by omega)],u2 j (Nat.zero_le _) (by omega)⟩
      subst u1 hNM
      have hvt:=q3nf hP g1 g2 g3
      have e4:=q38q d hd r r' N M
      have e5:=q38g d hd c hvt.chk
      have e6:q38f r N r' M=(decide (dlw r N=dlw r' M),0):=by
        unfold q38f;rw [if_neg (by rw [c];decide),if_neg (by rw [hvt.chk];decide)]
      rw [e6] at e4
      have v1:q1an d ((r,N,()),(P,()),(n,dd,()),())=some (decide (dlw r N=dlw r' M),0):=by
        simp only [q1an,q19r,q19x,q1a1,q1a5,q1ad,q1ah,q1al,Dt.eval,e1,c,show ((0:Int) != 0)=false from rfl,cond_false,e,e4]
      have v2:q1y3 d ((r,N,()),(P,()),(n,dd,()),())=some (decide (dlw r N=dlw r' M),0):=by
        simp only [q1y3,q1x7,q1xd,q1xh,q1xl,q1xt,q1xx,q1y1,Dt.eval,e2,c,show ((0:Int) != 0)=false from rfl,cond_false,e3,h,k1,e5]
      exact ⟨v2.trans v1.symm,_,v1⟩
  · have hne : (chkT r N != 0) = true := bne_iff_ne.2 c
    have v1:q1an d ((r,N,()),(P,()),(n,dd,()),())=some (false,chkT r N):=by
      simp only [q1an,q19r,q19x,q1a1,q1a5,q1a9,Dt.eval,e1,hne,cond_true]
    have v2:q1y3 d ((r,N,()),(P,()),(n,dd,()),())=some (false,chkT r N):=by
      simp only [q1y3,q1x7,q1xd,q1xh,q1xl,q1xp,Dt.eval,e2,hne,cond_true]
    exact ⟨v2.trans v1.symm,_,v1⟩
theorem q3nh (d:Nat) (r:Int) (N:List N3) (hn:N.length<1000):∀ (f i:Nat),N.length - i<f→i≤N.length→iter (q1cd d) f ((i:Int),r,N,r,N)=some true
  | 0,i,h,_=>by omega
  | f + 1, i, hf, hi => by
    have ih:=q3nh d r N hn f (i+1)
    rw [iter]
    revert ih
    generalize iter (q1cd d) f=self
    intro ih
    unfold q1cd
    by_cases hl:i<N.length
    · have hw := q36l (show i < 1000000 by omega)
      simp only [q1c1,q1c9,q1c5,Dt.eval,decK hl,cond_true,inbK hl,beq_self_eq_true,Bool.and_self,Bool.not_true,cond_false,hw]
      exact ih (by omega) (by omega)
    · simp only [q1c1,q1cb,Dt.eval,decN hl,cond_false]
theorem q3ni (d:Nat) (hd:5000≤d) (r:Int) (N:List N3) (hn:N.length<1000):q1ce d ((r,N,()),(r,N,()),())=some true:=by
  have e:=q3nh d r N hn d 0 (by omega) (Nat.zero_le _)
  have e':iter (q1cd d) d (0,r,N,r,N)=_:=e
  simp only [q1ce,q1bl,q1bp,q1bx,Dt.eval,bne_self_eq_false,cond_false]
  exact e'
theorem q3nj (d:Nat) (r:Int) (N:List N3) (hn:N.length≤100000):q1b7 d ((r,N,()),())=some (r,N):=by
  have hap:apB 0 N.length=true:=by unfold apB;rw [Nat.ble_eq];omega
  simp only [q1b7,q1av,q1b1,q1b5,Dt.eval,List.length_nil,hap,cond_true,List.nil_append]
theorem q3nk (d:Nat) (r:Int) (N:List N3):q1cy d ((r,N,()),())=some (decide ((N.length:Int) > 70)):=by
  simp only [q1cy,q1cm,q1cs,q1cw,Dt.eval]
theorem q3nl {m:Nat} (h:great m=false):m≤70:=by
  unfold great at h
  rw [Bool.or_eq_false_iff] at h
  have:=of_decide_eq_false h.2
  omega
theorem q3nm (l:List N3):toPs (ptsL l)=l:=by
  unfold toPs ptsL
  rw [List.map_map]
  exact List.map_id _
theorem q3nn (d:Nat) (hd:5000≤d) (P:List N3) {n dd:Int} (hn:i64B n=true) (hdd:i64B dd=true) (r1:Int) (N:List N3) (r2:Int) (M:List N3) (id:Int) :
    q3an d ((P,()),(n,dd,()),(r1,N,()),(r2,M,()),(id,()),())=some true:=by
  have e1:qq7 d ((P,()),())=some (great (ptsL P).length):=qq8 d _ rfl
  have e2:=q3nk d r1 N
  have e3:=q3nk d r2 M
  have hpl:(ptsL P).length=P.length:=List.length_map _
  simp only [q3an,q38x,q393,q397,q39b,Dt.eval,e1]
  cases g1:great (ptsL P).length with
  | true=>simp only [cond_true]
  | false =>
    simp only [cond_false,e2]
    have gl:=q3nl g1
    by_cases g2:(N.length:Int) > 70
    · simp only [decide_eq_true g2,cond_true,cond_false,Dt.eval]
    simp only [decide_eq_false g2,cond_false,e3]
    by_cases g3:(M.length:Int) > 70
    · simp only [decide_eq_true g3,cond_true,cond_false,Dt.eval]
    have e4:=q3nj d r1 N (by omega)
    have e5:qr7 d ((P,()),())=some P:=by
      rw [qr8 d _ (by unfold qr6;exact decide_eq_true (by show (ptsL P).length≤1000000;omega))]
      exact congrArg some (q3nm P)
    have e6:=q37t d hd P (by omega) hn hdd
    obtain ⟨v1,w1,hof⟩:∃ r' N' ,∃ e,q15h d ((P,()),(n,dd,()),())=some (r',N',e)∧N'.length<1000:=by
      rcases q37s d hd P hn hdd with ⟨_,e⟩ | ⟨_,hP,_,r,N',e,_,g2,_⟩
      · exact ⟨_,_,_,e,by decide⟩
      · exact ⟨_,_,_,e,by omega⟩
    obtain ⟨z1,hof,hofl⟩:=hof
    have e7:=q3nb d hd r1 N
    have e8:=q3ne d hd r1 N
    obtain ⟨e9,vr,e10⟩:=q3ng d hd r1 N P (by omega) hn hdd
    have e11:=q386 d hd r1 N id
    have e12:=q389 d hd r1 N id
    have e13:=q38q d hd r1 r2 N M
    have e14:=q38h d hd r1 r2 N M
    have e15:=q3ni d hd v1 w1 hofl
    have e16:=q36w d hd r1 N
    have e17:=q36z d hd r1 N
    have hidl:(idsV r1 N).1.length≤1000000:=by
      unfold idsV
      split
      · exact Nat.zero_le _
      · rename_i c
        obtain ⟨l,hv⟩:=q37u (Decidable.not_not.1 c)
        have h1:=hv.len
        have h2:=hv.ln
        rw [hv.wkE,q3n9];show l.length≤1000000;omega
    have e18:qug d (((idsV r1 N).1,()),((idsV r1 N).1,()),())=some true:=by
      rw [quh d _ (by
        unfold quf idsI
        simp only [List.length_map,Bool.and_self]
        exact decide_eq_true hidl),decide_eq_true rfl]
    have e19:=q3ni d hd r1 N (by omega)
    have e20:qrg d ((P,()),(P,()),())=some true:=by
      rw [qrh d _ (by
        unfold qrf
        simp only [Bool.and_self]
        exact decide_eq_true (by show (ptsL P).length≤1000000;omega)),decide_eq_true rfl]
    simp only [decide_eq_false g3,cond_false,Dt.eval,q39f,q39j,q39n,q39r,q39v,q39z,q3a3,q3a7,q3ab,q3af,q3aj,q3al,e4,e5,e6,hof,e7,e8,e9,e10,e11,e12,e13,e14,e15,e16,e17,e18,e19,e20,cond_true,beq_self_eq_true]
end Go.Proofs.Ytoakhncbmpdacaa

namespace Go.Proofs.Ytoakhncbmpdacaa
open Go.ChangeShapes Go.WideShapes Go.ChangeAt Go.RowKit Go.Pel Go.Deep
theorem q3no {a:Int} (h:-9223372036854775808≤a∧a≤9223372036854775807):Go.Tx.i64B a=true:=by
  unfold Go.Tx.i64B;rw [decide_eq_true h.1,decide_eq_true h.2];rfl
section
variable {H:Type} {enc:TypeId×Value→H} {w:World} {base:Nat} {spare:Nat→Bool} {held:Bool}
theorem q3np:Try.prog.cellsOf 67=3:=by kernel_rfl
theorem q3nq:Try.prog.cellsOf 29=2:=by kernel_rfl
theorem q3nr:Try.prog.cellsOf 27=1:=by kernel_rfl
theorem q3ns {fuel:Nat} {l:List Value} {x:DataW H×List MemPlace} (h:DataW.trod enc Try.prog w base spare held fuel 67 l=some x) (hl:l.length=3) :
    ∃ p:Pt,l=[.int .i64 p.id,.int .i64 p.a,.int .i64 p.b]∧p.Fits:=by
  obtain ⟨c0,c1,c2,rfl⟩:=q33o l hl
  obtain ⟨m4,y4,h4⟩:=q33b Try.underlying67 h (i:=0) rfl rfl rfl q33p
  obtain ⟨m5,y5,h5⟩:=q33b Try.underlying67 h (i:=1) rfl rfl rfl q33p
  obtain ⟨m6,y6,h6⟩:=q33b Try.underlying67 h (i:=2) rfl rfl rfl q33p
  obtain ⟨i,e4,w4⟩:=q33c Try.underlying3 h4
  obtain ⟨a,e5,w5⟩:=q33c Try.underlying3 h5
  obtain ⟨b,e6,w6⟩:=q33c Try.underlying3 h6
  simp at e4 e5 e6
  subst e4 e5 e6
  exact ⟨⟨i,a,b⟩,rfl,⟨q33d w4,q33d w5,q33d w6⟩⟩
theorem q3nt (fuel:Nat) (l:List Value) (x:DataW H×List MemPlace) (h:DataW.trod enc Try.prog w base spare held fuel 67 l=some x) (hl:l.length=3):∃ p:Pt,l=p.cells∧p.Fits:=q3ns h hl
theorem q3nu {fuel:Nat} {l:List Value} {x:DataW H×List MemPlace} (h:DataW.trod enc Try.prog w base (fun _=>true) held fuel 29 l=some x) (hl:l.length=2) :
    ∃ (r:Int) (A:Option Addr) (c:Nat) (m:List Pt),l=[.int .i64 r,.slice A m.length c]∧Sl w 3 A m.length c (vp m)∧(A=none→c=0)∧∀ p∈m,p.Fits:=by
  obtain ⟨c0,c1,rfl⟩:=q33n l hl
  obtain ⟨m0,y0,h0⟩:=q33b Try.underlying29 h (i:=0) rfl rfl rfl q33p
  obtain ⟨m1,y1,h1⟩:=q33b Try.underlying29 h (i:=1) rfl rfl rfl q3nr
  obtain ⟨r,e0,_⟩:=q33c Try.underlying3 h0
  have h1':DataW.trod enc Try.prog w base (fun _=>true) held m1 27 [c1]=some y1:=by simpa using h1
  obtain ⟨A,n,c,rfl⟩:∃ A n c,c1=Value.slice A n c:=by
    rcases open_slice Try.underlying27 h1' with ⟨hcs,_⟩ | ⟨a,len,cap,m,q,D,Pl,hcs,_⟩
    · simp only [List.cons.injEq,and_true] at hcs;exact ⟨_,_,_,hcs⟩
    · simp only [List.cons.injEq,and_true] at hcs;exact ⟨_,_,_,hcs⟩
  have hn:=q33k Try.underlying27 h1'
  obtain ⟨pts,rfl,hs,hok,_,_⟩:=q33l Pt.cells Pt.Fits Try.underlying27 q3np (by decide) (fun _=>rfl) q3nt h1'
  simp at e0
  subst e0
  exact ⟨r,A,c,pts,rfl,hs,hn,hok⟩
theorem q3nv {w:World} {r:Int} {A:Option Addr} {c:Nat} {l:List Pt} (hs:Sl w 3 A l.length c (vp l)) (h0:A=none→c=0):Go.Tx.VR (Go.Tx.Emb.fro fun k=>w.heap[k]?) (.agg [.int .i64 r,.fz Go.Tx.RP (Go.Tx.toPs l)]) (.agg #[.int .i64 r,.slice A l.length c]) :=
  Go.Tx.VR.aggL (Go.Tx.VRs.cons (.int _ _) (Go.Tx.VRs.cons (Go.Tx.sl_fz (τ:=Go.Tx.RP) rfl (Go.Tx.toPs_len l) (Go.Tx.valsL_toP l) hs h0) Go.Tx.VRs.nil))
end
end Go.Proofs.Ytoakhncbmpdacaa
