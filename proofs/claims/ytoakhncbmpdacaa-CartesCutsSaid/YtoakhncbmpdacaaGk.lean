/- Walks of the references; the orders agree; examples. -/
import Derived.Test.YtoakhncbmpdacaaGj
set_option linter.unusedSimpArgs false
set_option linter.unusedVariables false
namespace Go.Proofs.Ytoakhncbmpdacaa
open Go Go.Tx Go.Proofs.Try
set_option maxRecDepth 100000
set_option maxHeartbeats 0
abbrev q3ap:List Pk:=[.row qkv true,.row qkv true,.row Ri false,.row qks true,.row Rii true]
abbrev q3aq:Type:=qkw×qkw×Di×qkt×Dii×Unit
abbrev q3ar:Type:=Bool
def q3as (r:q3ar):LV×List Ob:=(.bool r,[])
def q3at (F:q3aq→Option q3ar):Go.Tx.Spec:=⟨4,q3ap,q3ar,F,q3as⟩
abbrev q3au:Type:=(qq2→Option qq3)×(q1ch→Option q1ci)×(q1aq→Option q1ar)×(q1ba→Option q1bb)×(q2fw→Option q2fx)×(q25r→Option q25s)×(q2kh→Option q2ki)×(q2s0→Option q2s1)×Unit
def q3av (d:Nat):q3au:=(qq7 d,q1cy d,q1b7 d,q1ce d,q2ke d,q26z d,q2qw d,q2u5 d,())
def q3aw (C:q3au):List Go.Tx.Spec:=[qq5 C.1,q1ck C.2.1,q1at C.2.2.1,q1bd C.2.2.2.1,q2fz C.2.2.2.2.1,q25u C.2.2.2.2.2.1,q2kk C.2.2.2.2.2.2.1,q2s3 C.2.2.2.2.2.2.2.1]
abbrev q3ax:Type:=Int×List Diii×Int×List Diii×Int×List Diii×Int×Int
def q3ay (v:q3ax):St:=⟨[(0,.agg [i6 v.1,.fz Riii v.2.1]),(1,.agg [i6 v.2.2.1,.fz Riii v.2.2.2.1]),(2,i6 v.2.2.2.2.1),(3,.agg [.fz Riii v.2.2.2.2.2.1]),(4,.agg [i6 v.2.2.2.2.2.2.1,i6 v.2.2.2.2.2.2.2])],[]⟩
abbrev q3az:Type:=Int×Int×List Diii×Int×List Diii×List Diii×Int×Int
def q3b0 (v:q3az):St:=⟨[(2,i6 v.1),(5,.ptr 0 0),(6,.ptr 1 0),(8,.ptr 2 0),(9,.ptr 3 0)],[.cells [i6 v.2.1,.fz Riii v.2.2.1],.cells [i6 v.2.2.2.1,.fz Riii v.2.2.2.2.1],.cells [.fz Riii v.2.2.2.2.2.1],.cells [i6 v.2.2.2.2.2.2.1,i6 v.2.2.2.2.2.2.2]]⟩
def q3b1 (C:q3au) (v:q3ax):Dt q3az:=(Dt.ret (v.2.2.2.2.1,v.1,v.2.1,v.2.2.1,v.2.2.2.1,v.2.2.2.2.2.1,v.2.2.2.2.2.2.1,v.2.2.2.2.2.2.2))
abbrev q3o0 {V Y:Type}:=@rg q3au V Y tysT (fun C=>(orc (q3aw C))) 134
theorem q3b2 C v:q3o0 (regO (qea f4) 0) false [(2,.any),(5,(.box [.any,.val Riii])),(6,(.box [.any,.val Riii])),(8,(.box [.val Riii])),(9,.any)] q3ay q3b1 q3b0 C v:=rgI (by kernel_rfl)
abbrev q3b3:Type:=Int×Bool×Int×List Diii×Int×List Diii×List Diii×Int×Int
def q3b4 (v:q3b3):St:=⟨[(2,i6 v.1),(5,.ptr 0 0),(6,.ptr 1 0),(8,.ptr 2 0),(9,.ptr 3 0),(34,.bool v.2.1)],[.cells [i6 v.2.2.1,.fz Riii v.2.2.2.1],.cells [i6 v.2.2.2.2.1,.fz Riii v.2.2.2.2.2.1],.cells [.fz Riii v.2.2.2.2.2.2.1],.cells [i6 v.2.2.2.2.2.2.2.1,i6 v.2.2.2.2.2.2.2.2]]⟩
def q3b5 (C:q3au) (v:q3az):Dt q3b3:=(Dt.bnd (C.1 ((v.2.2.2.2.2.1,()),())) fun r1=>(Dt.ite r1 (Dt.ret (v.1,true,v.2.1,v.2.2.1,v.2.2.2.1,v.2.2.2.2.1,v.2.2.2.2.2.1,v.2.2.2.2.2.2.1,v.2.2.2.2.2.2.2)) (Dt.bnd (C.2.1 ((v.2.1,v.2.2.1,()),())) fun r2=>(Dt.ite r2 (Dt.ret (v.1,true,v.2.1,v.2.2.1,v.2.2.2.1,v.2.2.2.2.1,v.2.2.2.2.2.1,v.2.2.2.2.2.2.1,v.2.2.2.2.2.2.2)) (Dt.bnd (C.2.1 ((v.2.2.2.1,v.2.2.2.2.1,()),())) fun r3=>(Dt.ret (v.1,r3,v.2.1,v.2.2.1,v.2.2.2.1,v.2.2.2.2.1,v.2.2.2.2.2.1,v.2.2.2.2.2.2.1,v.2.2.2.2.2.2.2)))))))
theorem q3b6 C v:q3o0 (regO (qea f4) 1) false [(2,.any),(5,(.box [.any,.val Riii])),(6,(.box [.any,.val Riii])),(8,(.box [.val Riii])),(9,.any),(34,.any)] q3b0 q3b5 q3b4 C v:=rgI (by kernel_rfl)
abbrev q3b7:Type:=Bool
def q3b8 (v:q3b7):St:=⟨[(10,.bool v)],[]⟩
def q3b9 (C:q3au) (v:q3b3):Dt q3b7:=(Dt.ret true)
theorem q3ba C v:q3o0 (regO (qea f4) 2) false [(10,.any)] q3b4 q3b9 q3b8 C v:=rgI (by kernel_rfl)
abbrev q3bb:Type:=Int×Int×List Diii×Int×List Diii×List Diii×Int×Int×Int×List Diii×Int×List Diii
def q3bc (v:q3bb):St:=⟨[(2,i6 v.1),(5,.ptr 0 0),(6,.ptr 1 0),(8,.ptr 2 0),(9,.ptr 3 0),(11,.ptr 4 0),(12,.ptr 6 0)],[.cells [i6 v.2.1,.fz Riii v.2.2.1],.cells [i6 v.2.2.2.1,.fz Riii v.2.2.2.2.1],.cells [.fz Riii v.2.2.2.2.2.1],.cells [i6 v.2.2.2.2.2.2.1,i6 v.2.2.2.2.2.2.2.1],.cells [i6 v.2.2.2.2.2.2.2.2.1,.rs 5],.rows Riii v.2.2.2.2.2.2.2.2.2.1,.cells [i6 v.2.2.2.2.2.2.2.2.2.2.1,.rs 7],.rows Riii v.2.2.2.2.2.2.2.2.2.2.2]⟩
def q3bd (C:q3au) (v:q3b3):Dt q3bb:=(Dt.bnd (C.2.2.1 ((v.2.2.1,v.2.2.2.1,()),())) fun r1=>(Dt.bnd (C.2.2.1 ((v.2.2.2.2.1,v.2.2.2.2.2.1,()),())) fun r2=>(Dt.ret (v.1,v.2.2.1,v.2.2.2.1,v.2.2.2.2.1,v.2.2.2.2.2.1,v.2.2.2.2.2.2.1,v.2.2.2.2.2.2.2.1,v.2.2.2.2.2.2.2.2,r1.1,r1.2,r2.1,r2.2))))
theorem q3be C v:q3o0 (regO (qea f4) 3) true [(2,.any),(5,(.box [.any,.val Riii])),(6,(.box [.any,.val Riii])),(8,(.box [.val Riii])),(9,.any),(11,(.box [.any,.own Riii])),(12,(.box [.any,.own Riii]))] q3b4 q3bd q3bc C v:=rgI (by kernel_rfl)
abbrev q3bf:Type:=Int×Int×Int×List Diii×Int×List Diii×List Diii×Int×Int×Int×List Diii×Int×List Diii×Int×List Diii×Int×List Diii
def q3bg (v:q3bf):St:=⟨[(2,i6 v.1),(5,.ptr 0 0),(6,.ptr 1 0),(8,.ptr 2 0),(9,.ptr 3 0),(11,.ptr 4 0),(12,.ptr 6 0),(13,.ptr 8 0),(14,.ptr 10 0),(15,i6 v.2.1)],[.cells [i6 v.2.2.1,.fz Riii v.2.2.2.1],.cells [i6 v.2.2.2.2.1,.fz Riii v.2.2.2.2.2.1],.cells [.fz Riii v.2.2.2.2.2.2.1],.cells [i6 v.2.2.2.2.2.2.2.1,i6 v.2.2.2.2.2.2.2.2.1],.cells [i6 v.2.2.2.2.2.2.2.2.2.1,.rs 5],.rows Riii v.2.2.2.2.2.2.2.2.2.2.1,.cells [i6 v.2.2.2.2.2.2.2.2.2.2.2.1,.rs 7],.rows Riii v.2.2.2.2.2.2.2.2.2.2.2.2.1,.cells [i6 v.2.2.2.2.2.2.2.2.2.2.2.2.2.1,.rs 9],.rows Riii v.2.2.2.2.2.2.2.2.2.2.2.2.2.2.1,.cells [i6 v.2.2.2.2.2.2.2.2.2.2.2.2.2.2.2.1,.rs 11],.rows Riii v.2.2.2.2.2.2.2.2.2.2.2.2.2.2.2.2]⟩
def q3bh (C:q3au) (v:q3bb):Dt q3bf:=(Dt.bnd (C.2.2.2.2.1 ((v.2.2.2.2.2.2.2.2.1,v.2.2.2.2.2.2.2.2.2.1,()),(v.1,()),())) fun r1=>(Dt.ret (v.1,r1.2.2.2.2,v.2.1,v.2.2.1,v.2.2.2.1,v.2.2.2.2.1,v.2.2.2.2.2.1,v.2.2.2.2.2.2.1,v.2.2.2.2.2.2.2.1,v.2.2.2.2.2.2.2.2.1,v.2.2.2.2.2.2.2.2.2.1,v.2.2.2.2.2.2.2.2.2.2.1,v.2.2.2.2.2.2.2.2.2.2.2,r1.1,r1.2.1,r1.2.2.1,r1.2.2.2.1)))
theorem q3bi C v:q3o0 (regO (qea f4) 4) false [(2,.any),(5,(.box [.any,.val Riii])),(6,(.box [.any,.val Riii])),(8,(.box [.val Riii])),(9,.any),(11,(.box [.any,.own Riii])),(12,(.box [.any,.own Riii])),(13,(.box [.any,.own Riii])),(14,(.box [.any,.own Riii])),(15,.any)] q3bc q3bh q3bg C v:=rgI (by kernel_rfl)
abbrev q3bj:Type:=Int×Int×Int×List Diii×Int×List Diii×List Diii×Int×Int×Int×List Diii×Int×List Diii×Int×List Diii×Int×List Diii×Int×List Diii×Int×List Diii
def q3bk (v:q3bj):St:=⟨[(5,.ptr 0 0),(6,.ptr 1 0),(8,.ptr 2 0),(9,.ptr 3 0),(11,.ptr 4 0),(12,.ptr 6 0),(13,.ptr 8 0),(14,.ptr 10 0),(15,i6 v.1),(16,.ptr 12 0),(17,.ptr 14 0),(18,i6 v.2.1)],[.cells [i6 v.2.2.1,.fz Riii v.2.2.2.1],.cells [i6 v.2.2.2.2.1,.fz Riii v.2.2.2.2.2.1],.cells [.fz Riii v.2.2.2.2.2.2.1],.cells [i6 v.2.2.2.2.2.2.2.1,i6 v.2.2.2.2.2.2.2.2.1],.cells [i6 v.2.2.2.2.2.2.2.2.2.1,.rs 5],.rows Riii v.2.2.2.2.2.2.2.2.2.2.1,.cells [i6 v.2.2.2.2.2.2.2.2.2.2.2.1,.rs 7],.rows Riii v.2.2.2.2.2.2.2.2.2.2.2.2.1,.cells [i6 v.2.2.2.2.2.2.2.2.2.2.2.2.2.1,.rs 9],.rows Riii v.2.2.2.2.2.2.2.2.2.2.2.2.2.2.1,.cells [i6 v.2.2.2.2.2.2.2.2.2.2.2.2.2.2.2.1,.rs 11],.rows Riii v.2.2.2.2.2.2.2.2.2.2.2.2.2.2.2.2.1,.cells [i6 v.2.2.2.2.2.2.2.2.2.2.2.2.2.2.2.2.2.1,.rs 13],.rows Riii v.2.2.2.2.2.2.2.2.2.2.2.2.2.2.2.2.2.2.1,.cells [i6 v.2.2.2.2.2.2.2.2.2.2.2.2.2.2.2.2.2.2.2.1,.rs 15],.rows Riii v.2.2.2.2.2.2.2.2.2.2.2.2.2.2.2.2.2.2.2.2]⟩
def q3bl (C:q3au) (v:q3bf):Dt q3bj:=(Dt.bnd (C.2.2.2.2.2.1 ((v.2.2.1,v.2.2.2.1,()),(v.1,()),())) fun r1=>(Dt.ret (v.2.1,r1.2.2.2.2,v.2.2.1,v.2.2.2.1,v.2.2.2.2.1,v.2.2.2.2.2.1,v.2.2.2.2.2.2.1,v.2.2.2.2.2.2.2.1,v.2.2.2.2.2.2.2.2.1,v.2.2.2.2.2.2.2.2.2.1,v.2.2.2.2.2.2.2.2.2.2.1,v.2.2.2.2.2.2.2.2.2.2.2.1,v.2.2.2.2.2.2.2.2.2.2.2.2.1,v.2.2.2.2.2.2.2.2.2.2.2.2.2.1,v.2.2.2.2.2.2.2.2.2.2.2.2.2.2.1,v.2.2.2.2.2.2.2.2.2.2.2.2.2.2.2.1,v.2.2.2.2.2.2.2.2.2.2.2.2.2.2.2.2,r1.1,r1.2.1,r1.2.2.1,r1.2.2.2.1)))
theorem q3bm C v:q3o0 (regO (qea f4) 5) false [(5,(.box [.any,.val Riii])),(6,(.box [.any,.val Riii])),(8,(.box [.val Riii])),(9,.any),(11,(.box [.any,.own Riii])),(12,(.box [.any,.own Riii])),(13,(.box [.any,.own Riii])),(14,(.box [.any,.own Riii])),(15,.any),(16,(.box [.any,.own Riii])),(17,(.box [.any,.own Riii])),(18,.any)] q3bg q3bl q3bk C v:=rgI (by kernel_rfl)
abbrev q3bn:Type:=Int×Int×Int×Int×List Diii×Int×List Diii×List Diii×Int×Int×Int×List Diii×Int×List Diii×Int×List Diii×Int×List Diii×Int×List Diii×Int×List Diii×Int×List Diii
def q3bo (v:q3bn):St:=⟨[(5,.ptr 0 0),(6,.ptr 1 0),(8,.ptr 2 0),(9,.ptr 3 0),(11,.ptr 4 0),(12,.ptr 6 0),(13,.ptr 8 0),(14,.ptr 10 0),(15,i6 v.1),(16,.ptr 12 0),(17,.ptr 14 0),(18,i6 v.2.1),(19,.ptr 16 0),(20,i6 v.2.2.1)],[.cells [i6 v.2.2.2.1,.fz Riii v.2.2.2.2.1],.cells [i6 v.2.2.2.2.2.1,.fz Riii v.2.2.2.2.2.2.1],.cells [.fz Riii v.2.2.2.2.2.2.2.1],.cells [i6 v.2.2.2.2.2.2.2.2.1,i6 v.2.2.2.2.2.2.2.2.2.1],.cells [i6 v.2.2.2.2.2.2.2.2.2.2.1,.rs 5],.rows Riii v.2.2.2.2.2.2.2.2.2.2.2.1,.cells [i6 v.2.2.2.2.2.2.2.2.2.2.2.2.1,.rs 7],.rows Riii v.2.2.2.2.2.2.2.2.2.2.2.2.2.1,.cells [i6 v.2.2.2.2.2.2.2.2.2.2.2.2.2.2.1,.rs 9],.rows Riii v.2.2.2.2.2.2.2.2.2.2.2.2.2.2.2.1,.cells [i6 v.2.2.2.2.2.2.2.2.2.2.2.2.2.2.2.2.1,.rs 11],.rows Riii v.2.2.2.2.2.2.2.2.2.2.2.2.2.2.2.2.2.1,.cells [i6 v.2.2.2.2.2.2.2.2.2.2.2.2.2.2.2.2.2.2.1,.rs 13],.rows Riii v.2.2.2.2.2.2.2.2.2.2.2.2.2.2.2.2.2.2.2.1,.cells [i6 v.2.2.2.2.2.2.2.2.2.2.2.2.2.2.2.2.2.2.2.2.1,.rs 15],.rows Riii v.2.2.2.2.2.2.2.2.2.2.2.2.2.2.2.2.2.2.2.2.2.1,.cells [i6 v.2.2.2.2.2.2.2.2.2.2.2.2.2.2.2.2.2.2.2.2.2.2.1,.rs 17],.rows Riii v.2.2.2.2.2.2.2.2.2.2.2.2.2.2.2.2.2.2.2.2.2.2.2]⟩
def q3bp (C:q3au) (v:q3bj):Dt q3bn:=(Dt.bnd (C.2.2.2.2.2.2.1 ((v.2.2.2.2.2.2.2.2.2.1,v.2.2.2.2.2.2.2.2.2.2.1,()),(v.2.2.2.2.2.2.2.2.2.2.2.1,v.2.2.2.2.2.2.2.2.2.2.2.2.1,()),(v.2.2.2.2.2.2.1,()),(v.2.2.2.2.2.2.2.1,v.2.2.2.2.2.2.2.2.1,()),())) fun r1=>(Dt.ret (v.1,v.2.1,r1.2.2,v.2.2.1,v.2.2.2.1,v.2.2.2.2.1,v.2.2.2.2.2.1,v.2.2.2.2.2.2.1,v.2.2.2.2.2.2.2.1,v.2.2.2.2.2.2.2.2.1,v.2.2.2.2.2.2.2.2.2.1,v.2.2.2.2.2.2.2.2.2.2.1,v.2.2.2.2.2.2.2.2.2.2.2.1,v.2.2.2.2.2.2.2.2.2.2.2.2.1,v.2.2.2.2.2.2.2.2.2.2.2.2.2.1,v.2.2.2.2.2.2.2.2.2.2.2.2.2.2.1,v.2.2.2.2.2.2.2.2.2.2.2.2.2.2.2.1,v.2.2.2.2.2.2.2.2.2.2.2.2.2.2.2.2.1,v.2.2.2.2.2.2.2.2.2.2.2.2.2.2.2.2.2.1,v.2.2.2.2.2.2.2.2.2.2.2.2.2.2.2.2.2.2.1,v.2.2.2.2.2.2.2.2.2.2.2.2.2.2.2.2.2.2.2.1,v.2.2.2.2.2.2.2.2.2.2.2.2.2.2.2.2.2.2.2.2,r1.1,r1.2.1)))
theorem q3bq C v:q3o0 (regO (qea f4) 6) false [(5,(.box [.any,.val Riii])),(6,(.box [.any,.val Riii])),(8,(.box [.val Riii])),(9,.any),(11,(.box [.any,.own Riii])),(12,(.box [.any,.own Riii])),(13,(.box [.any,.own Riii])),(14,(.box [.any,.own Riii])),(15,.any),(16,(.box [.any,.own Riii])),(17,(.box [.any,.own Riii])),(18,.any),(19,(.box [.any,.own Riii])),(20,.any)] q3bk q3bp q3bo C v:=rgI (by kernel_rfl)
abbrev q3br:Type:=Int×Int×Int×Int×Int×List Diii×Int×List Diii×Int×List Diii×Int×List Diii×Int×List Diii×Int×List Diii×Int×List Diii×Int×List Diii×Int×List Diii×Int×List Diii
def q3bs (v:q3br):St:=⟨[(5,.ptr 0 0),(6,.ptr 1 0),(11,.ptr 2 0),(12,.ptr 4 0),(13,.ptr 6 0),(14,.ptr 8 0),(15,i6 v.1),(16,.ptr 10 0),(17,.ptr 12 0),(18,i6 v.2.1),(19,.ptr 14 0),(20,i6 v.2.2.1),(21,.ptr 16 0),(22,i6 v.2.2.2.1)],[.cells [i6 v.2.2.2.2.1,.fz Riii v.2.2.2.2.2.1],.cells [i6 v.2.2.2.2.2.2.1,.fz Riii v.2.2.2.2.2.2.2.1],.cells [i6 v.2.2.2.2.2.2.2.2.1,.rs 3],.rows Riii v.2.2.2.2.2.2.2.2.2.1,.cells [i6 v.2.2.2.2.2.2.2.2.2.2.1,.rs 5],.rows Riii v.2.2.2.2.2.2.2.2.2.2.2.1,.cells [i6 v.2.2.2.2.2.2.2.2.2.2.2.2.1,.rs 7],.rows Riii v.2.2.2.2.2.2.2.2.2.2.2.2.2.1,.cells [i6 v.2.2.2.2.2.2.2.2.2.2.2.2.2.2.1,.rs 9],.rows Riii v.2.2.2.2.2.2.2.2.2.2.2.2.2.2.2.1,.cells [i6 v.2.2.2.2.2.2.2.2.2.2.2.2.2.2.2.2.1,.rs 11],.rows Riii v.2.2.2.2.2.2.2.2.2.2.2.2.2.2.2.2.2.1,.cells [i6 v.2.2.2.2.2.2.2.2.2.2.2.2.2.2.2.2.2.2.1,.rs 13],.rows Riii v.2.2.2.2.2.2.2.2.2.2.2.2.2.2.2.2.2.2.2.1,.cells [i6 v.2.2.2.2.2.2.2.2.2.2.2.2.2.2.2.2.2.2.2.2.1,.rs 15],.rows Riii v.2.2.2.2.2.2.2.2.2.2.2.2.2.2.2.2.2.2.2.2.2.1,.cells [i6 v.2.2.2.2.2.2.2.2.2.2.2.2.2.2.2.2.2.2.2.2.2.2.1,.rs 17],.rows Riii v.2.2.2.2.2.2.2.2.2.2.2.2.2.2.2.2.2.2.2.2.2.2.2]⟩
def q3bt (C:q3au) (v:q3bn):Dt q3br:=(Dt.bnd (C.2.2.2.2.2.2.2.1 ((v.2.2.2.1,v.2.2.2.2.1,()),(v.2.2.2.2.2.1,v.2.2.2.2.2.2.1,()),(v.2.2.2.2.2.2.2.1,()),(v.2.2.2.2.2.2.2.2.1,v.2.2.2.2.2.2.2.2.2.1,()),())) fun r1=>(Dt.ret (v.1,v.2.1,v.2.2.1,r1.2.2,v.2.2.2.1,v.2.2.2.2.1,v.2.2.2.2.2.1,v.2.2.2.2.2.2.1,v.2.2.2.2.2.2.2.2.2.2.1,v.2.2.2.2.2.2.2.2.2.2.2.1,v.2.2.2.2.2.2.2.2.2.2.2.2.1,v.2.2.2.2.2.2.2.2.2.2.2.2.2.1,v.2.2.2.2.2.2.2.2.2.2.2.2.2.2.1,v.2.2.2.2.2.2.2.2.2.2.2.2.2.2.2.1,v.2.2.2.2.2.2.2.2.2.2.2.2.2.2.2.2.1,v.2.2.2.2.2.2.2.2.2.2.2.2.2.2.2.2.2.1,v.2.2.2.2.2.2.2.2.2.2.2.2.2.2.2.2.2.2.1,v.2.2.2.2.2.2.2.2.2.2.2.2.2.2.2.2.2.2.2.1,v.2.2.2.2.2.2.2.2.2.2.2.2.2.2.2.2.2.2.2.2.1,v.2.2.2.2.2.2.2.2.2.2.2.2.2.2.2.2.2.2.2.2.2.1,v.2.2.2.2.2.2.2.2.2.2.2.2.2.2.2.2.2.2.2.2.2.2.1,v.2.2.2.2.2.2.2.2.2.2.2.2.2.2.2.2.2.2.2.2.2.2.2,r1.1,r1.2.1)))
theorem q3bu C v:q3o0 (regO (qea f4) 7) false [(5,(.box [.any,.val Riii])),(6,(.box [.any,.val Riii])),(11,(.box [.any,.own Riii])),(12,(.box [.any,.own Riii])),(13,(.box [.any,.own Riii])),(14,(.box [.any,.own Riii])),(15,.any),(16,(.box [.any,.own Riii])),(17,(.box [.any,.own Riii])),(18,.any),(19,(.box [.any,.own Riii])),(20,.any),(21,(.box [.any,.own Riii])),(22,.any)] q3bo q3bt q3bs C v:=rgI (by kernel_rfl)
abbrev q3bv:Type:=Int×Int×Int×Int×Bool×Int×List Diii×Int×List Diii×Int×List Diii×Int×List Diii×Int×List Diii×Int×List Diii×Int×List Diii×Int×List Diii
def q3bw (v:q3bv):St:=⟨[(11,.ptr 0 0),(12,.ptr 2 0),(13,.ptr 4 0),(14,.ptr 6 0),(15,i6 v.1),(16,.ptr 8 0),(17,.ptr 10 0),(18,i6 v.2.1),(19,.ptr 12 0),(20,i6 v.2.2.1),(21,.ptr 14 0),(22,i6 v.2.2.2.1),(78,.bool v.2.2.2.2.1)],[.cells [i6 v.2.2.2.2.2.1,.rs 1],.rows Riii v.2.2.2.2.2.2.1,.cells [i6 v.2.2.2.2.2.2.2.1,.rs 3],.rows Riii v.2.2.2.2.2.2.2.2.1,.cells [i6 v.2.2.2.2.2.2.2.2.2.1,.rs 5],.rows Riii v.2.2.2.2.2.2.2.2.2.2.1,.cells [i6 v.2.2.2.2.2.2.2.2.2.2.2.1,.rs 7],.rows Riii v.2.2.2.2.2.2.2.2.2.2.2.2.1,.cells [i6 v.2.2.2.2.2.2.2.2.2.2.2.2.2.1,.rs 9],.rows Riii v.2.2.2.2.2.2.2.2.2.2.2.2.2.2.1,.cells [i6 v.2.2.2.2.2.2.2.2.2.2.2.2.2.2.2.1,.rs 11],.rows Riii v.2.2.2.2.2.2.2.2.2.2.2.2.2.2.2.2.1,.cells [i6 v.2.2.2.2.2.2.2.2.2.2.2.2.2.2.2.2.2.1,.rs 13],.rows Riii v.2.2.2.2.2.2.2.2.2.2.2.2.2.2.2.2.2.2.1,.cells [i6 v.2.2.2.2.2.2.2.2.2.2.2.2.2.2.2.2.2.2.2.1,.rs 15],.rows Riii v.2.2.2.2.2.2.2.2.2.2.2.2.2.2.2.2.2.2.2.2]⟩
def q3bx (C:q3au) (v:q3br):Dt q3bv:=(Dt.bnd (C.2.2.2.1 ((v.2.2.2.2.2.2.2.2.1,v.2.2.2.2.2.2.2.2.2.1,()),(v.2.2.2.2.1,v.2.2.2.2.2.1,()),())) fun r1=>(Dt.ite (!r1) (Dt.ret (v.1,v.2.1,v.2.2.1,v.2.2.2.1,true,v.2.2.2.2.2.2.2.2.1,v.2.2.2.2.2.2.2.2.2.1,v.2.2.2.2.2.2.2.2.2.2.1,v.2.2.2.2.2.2.2.2.2.2.2.1,v.2.2.2.2.2.2.2.2.2.2.2.2.1,v.2.2.2.2.2.2.2.2.2.2.2.2.2.1,v.2.2.2.2.2.2.2.2.2.2.2.2.2.2.1,v.2.2.2.2.2.2.2.2.2.2.2.2.2.2.2.1,v.2.2.2.2.2.2.2.2.2.2.2.2.2.2.2.2.1,v.2.2.2.2.2.2.2.2.2.2.2.2.2.2.2.2.2.1,v.2.2.2.2.2.2.2.2.2.2.2.2.2.2.2.2.2.2.1,v.2.2.2.2.2.2.2.2.2.2.2.2.2.2.2.2.2.2.2.1,v.2.2.2.2.2.2.2.2.2.2.2.2.2.2.2.2.2.2.2.2.1,v.2.2.2.2.2.2.2.2.2.2.2.2.2.2.2.2.2.2.2.2.2.1,v.2.2.2.2.2.2.2.2.2.2.2.2.2.2.2.2.2.2.2.2.2.2.1,v.2.2.2.2.2.2.2.2.2.2.2.2.2.2.2.2.2.2.2.2.2.2.2)) (Dt.bnd (C.2.2.2.1 ((v.2.2.2.2.2.2.2.2.2.2.1,v.2.2.2.2.2.2.2.2.2.2.2.1,()),(v.2.2.2.2.2.2.1,v.2.2.2.2.2.2.2.1,()),())) fun r2=>(Dt.ret (v.1,v.2.1,v.2.2.1,v.2.2.2.1,(!r2),v.2.2.2.2.2.2.2.2.1,v.2.2.2.2.2.2.2.2.2.1,v.2.2.2.2.2.2.2.2.2.2.1,v.2.2.2.2.2.2.2.2.2.2.2.1,v.2.2.2.2.2.2.2.2.2.2.2.2.1,v.2.2.2.2.2.2.2.2.2.2.2.2.2.1,v.2.2.2.2.2.2.2.2.2.2.2.2.2.2.1,v.2.2.2.2.2.2.2.2.2.2.2.2.2.2.2.1,v.2.2.2.2.2.2.2.2.2.2.2.2.2.2.2.2.1,v.2.2.2.2.2.2.2.2.2.2.2.2.2.2.2.2.2.1,v.2.2.2.2.2.2.2.2.2.2.2.2.2.2.2.2.2.2.1,v.2.2.2.2.2.2.2.2.2.2.2.2.2.2.2.2.2.2.2.1,v.2.2.2.2.2.2.2.2.2.2.2.2.2.2.2.2.2.2.2.2.1,v.2.2.2.2.2.2.2.2.2.2.2.2.2.2.2.2.2.2.2.2.2.1,v.2.2.2.2.2.2.2.2.2.2.2.2.2.2.2.2.2.2.2.2.2.2.1,v.2.2.2.2.2.2.2.2.2.2.2.2.2.2.2.2.2.2.2.2.2.2.2)))))
theorem q3by C v:q3o0 (regO (qea f4) 8) false [(11,(.box [.any,.own Riii])),(12,(.box [.any,.own Riii])),(13,(.box [.any,.own Riii])),(14,(.box [.any,.own Riii])),(15,.any),(16,(.box [.any,.own Riii])),(17,(.box [.any,.own Riii])),(18,.any),(19,(.box [.any,.own Riii])),(20,.any),(21,(.box [.any,.own Riii])),(22,.any),(78,.any)] q3bs q3bx q3bw C v:=rgI (by kernel_rfl)
def q3bz (C:q3au) (v:q3bv):Dt q3b7:=(Dt.ret false)
theorem q3c0 C v:q3o0 (regO (qea f4) 9) false [(10,.any)] q3bw q3bz q3b8 C v:=rgI (by kernel_rfl)
abbrev q3c1:Type:=Int×Int×Int×Int×Int×Int×List Diii×Int×List Diii×Int×List Diii×Int×List Diii×Int×List Diii×Int×List Diii×Int×List Diii×Int×List Diii
def q3c2 (v:q3c1):St:=⟨[(11,.ptr 0 0),(12,.ptr 2 0),(13,.ptr 4 0),(14,.ptr 6 0),(15,i6 v.1),(16,.ptr 8 0),(17,.ptr 10 0),(18,i6 v.2.1),(19,.ptr 12 0),(20,i6 v.2.2.1),(21,.ptr 14 0),(22,i6 v.2.2.2.1),(23,i6 v.2.2.2.2.1)],[.cells [i6 v.2.2.2.2.2.1,.rs 1],.rows Riii v.2.2.2.2.2.2.1,.cells [i6 v.2.2.2.2.2.2.2.1,.rs 3],.rows Riii v.2.2.2.2.2.2.2.2.1,.cells [i6 v.2.2.2.2.2.2.2.2.2.1,.rs 5],.rows Riii v.2.2.2.2.2.2.2.2.2.2.1,.cells [i6 v.2.2.2.2.2.2.2.2.2.2.2.1,.rs 7],.rows Riii v.2.2.2.2.2.2.2.2.2.2.2.2.1,.cells [i6 v.2.2.2.2.2.2.2.2.2.2.2.2.2.1,.rs 9],.rows Riii v.2.2.2.2.2.2.2.2.2.2.2.2.2.2.1,.cells [i6 v.2.2.2.2.2.2.2.2.2.2.2.2.2.2.2.1,.rs 11],.rows Riii v.2.2.2.2.2.2.2.2.2.2.2.2.2.2.2.2.1,.cells [i6 v.2.2.2.2.2.2.2.2.2.2.2.2.2.2.2.2.2.1,.rs 13],.rows Riii v.2.2.2.2.2.2.2.2.2.2.2.2.2.2.2.2.2.2.1,.cells [i6 v.2.2.2.2.2.2.2.2.2.2.2.2.2.2.2.2.2.2.2.1,.rs 15],.rows Riii v.2.2.2.2.2.2.2.2.2.2.2.2.2.2.2.2.2.2.2.2]⟩
def q3c3 (C:q3au) (v:q3bv):Dt q3c1:=(Dt.ret (v.1,v.2.1,v.2.2.1,v.2.2.2.1,(0:Int),v.2.2.2.2.2.1,v.2.2.2.2.2.2.1,v.2.2.2.2.2.2.2.1,v.2.2.2.2.2.2.2.2.1,v.2.2.2.2.2.2.2.2.2.1,v.2.2.2.2.2.2.2.2.2.2.1,v.2.2.2.2.2.2.2.2.2.2.2.1,v.2.2.2.2.2.2.2.2.2.2.2.2.1,v.2.2.2.2.2.2.2.2.2.2.2.2.2.1,v.2.2.2.2.2.2.2.2.2.2.2.2.2.2.1,v.2.2.2.2.2.2.2.2.2.2.2.2.2.2.2.1,v.2.2.2.2.2.2.2.2.2.2.2.2.2.2.2.2.1,v.2.2.2.2.2.2.2.2.2.2.2.2.2.2.2.2.2.1,v.2.2.2.2.2.2.2.2.2.2.2.2.2.2.2.2.2.2.1,v.2.2.2.2.2.2.2.2.2.2.2.2.2.2.2.2.2.2.2.1,v.2.2.2.2.2.2.2.2.2.2.2.2.2.2.2.2.2.2.2.2))
theorem q3c4 C v:q3o0 (regO (qea f4) 10) false [(11,(.box [.any,.own Riii])),(12,(.box [.any,.own Riii])),(13,(.box [.any,.own Riii])),(14,(.box [.any,.own Riii])),(15,.any),(16,(.box [.any,.own Riii])),(17,(.box [.any,.own Riii])),(18,.any),(19,(.box [.any,.own Riii])),(20,.any),(21,(.box [.any,.own Riii])),(22,.any),(23,.any)] q3bw q3c3 q3c2 C v:=rgI (by kernel_rfl)
abbrev q3c5:Type:=Int×Int×Int×Int×Int×Bool×Int×List Diii×Int×List Diii×Int×List Diii×Int×List Diii×Int×List Diii×Int×List Diii×Int×List Diii×Int×List Diii
def q3c6 (v:q3c5):St:=⟨[(11,.ptr 0 0),(12,.ptr 2 0),(13,.ptr 4 0),(14,.ptr 6 0),(15,i6 v.1),(16,.ptr 8 0),(17,.ptr 10 0),(18,i6 v.2.1),(19,.ptr 12 0),(20,i6 v.2.2.1),(21,.ptr 14 0),(22,i6 v.2.2.2.1),(23,i6 v.2.2.2.2.1),(83,.bool v.2.2.2.2.2.1)],[.cells [i6 v.2.2.2.2.2.2.1,.rs 1],.rows Riii v.2.2.2.2.2.2.2.1,.cells [i6 v.2.2.2.2.2.2.2.2.1,.rs 3],.rows Riii v.2.2.2.2.2.2.2.2.2.1,.cells [i6 v.2.2.2.2.2.2.2.2.2.2.1,.rs 5],.rows Riii v.2.2.2.2.2.2.2.2.2.2.2.1,.cells [i6 v.2.2.2.2.2.2.2.2.2.2.2.2.1,.rs 7],.rows Riii v.2.2.2.2.2.2.2.2.2.2.2.2.2.1,.cells [i6 v.2.2.2.2.2.2.2.2.2.2.2.2.2.2.1,.rs 9],.rows Riii v.2.2.2.2.2.2.2.2.2.2.2.2.2.2.2.1,.cells [i6 v.2.2.2.2.2.2.2.2.2.2.2.2.2.2.2.2.1,.rs 11],.rows Riii v.2.2.2.2.2.2.2.2.2.2.2.2.2.2.2.2.2.1,.cells [i6 v.2.2.2.2.2.2.2.2.2.2.2.2.2.2.2.2.2.2.1,.rs 13],.rows Riii v.2.2.2.2.2.2.2.2.2.2.2.2.2.2.2.2.2.2.2.1,.cells [i6 v.2.2.2.2.2.2.2.2.2.2.2.2.2.2.2.2.2.2.2.2.1,.rs 15],.rows Riii v.2.2.2.2.2.2.2.2.2.2.2.2.2.2.2.2.2.2.2.2.2]⟩
def q3c7 (C:q3au) (v:q3c1):Dt q3c5:=(Dt.ret (v.1,v.2.1,v.2.2.1,v.2.2.2.1,v.2.2.2.2.1,(decide (v.2.2.2.2.1<(List.length v.2.2.2.2.2.2.1:Int))),v.2.2.2.2.2.1,v.2.2.2.2.2.2.1,v.2.2.2.2.2.2.2.1,v.2.2.2.2.2.2.2.2.1,v.2.2.2.2.2.2.2.2.2.1,v.2.2.2.2.2.2.2.2.2.2.1,v.2.2.2.2.2.2.2.2.2.2.2.1,v.2.2.2.2.2.2.2.2.2.2.2.2.1,v.2.2.2.2.2.2.2.2.2.2.2.2.2.1,v.2.2.2.2.2.2.2.2.2.2.2.2.2.2.1,v.2.2.2.2.2.2.2.2.2.2.2.2.2.2.2.1,v.2.2.2.2.2.2.2.2.2.2.2.2.2.2.2.2.1,v.2.2.2.2.2.2.2.2.2.2.2.2.2.2.2.2.2.1,v.2.2.2.2.2.2.2.2.2.2.2.2.2.2.2.2.2.2.1,v.2.2.2.2.2.2.2.2.2.2.2.2.2.2.2.2.2.2.2.1,v.2.2.2.2.2.2.2.2.2.2.2.2.2.2.2.2.2.2.2.2))
theorem q3c8 C v:q3o0 (regO (qea f4) 11) false [(11,(.box [.any,.own Riii])),(12,(.box [.any,.own Riii])),(13,(.box [.any,.own Riii])),(14,(.box [.any,.own Riii])),(15,.any),(16,(.box [.any,.own Riii])),(17,(.box [.any,.own Riii])),(18,.any),(19,(.box [.any,.own Riii])),(20,.any),(21,(.box [.any,.own Riii])),(22,.any),(23,.any),(83,.any)] q3c2 q3c7 q3c6 C v:=rgI (by kernel_rfl)
def q3c9 (C:q3au) (v:q3c5):Dt q3c1:=(Dt.ite (inB v.2.2.2.2.1 (List.length v.2.2.2.2.2.2.2.1)) (Dt.ite (inB v.2.2.2.2.1 (List.length v.2.2.2.2.2.2.2.1)) (Dt.ret (v.1,v.2.1,v.2.2.1,v.2.2.2.1,v.2.2.2.2.1,v.2.2.2.2.2.2.1,(List.set v.2.2.2.2.2.2.2.1 (v.2.2.2.2.1).toNat ((IntKind.wrap .i64 ((elt ziii v.2.2.2.2.2.2.2.1 (v.2.2.2.2.1).toNat).1+(1:Int))),(elt ziii v.2.2.2.2.2.2.2.1 (v.2.2.2.2.1).toNat).2.1,(elt ziii v.2.2.2.2.2.2.2.1 (v.2.2.2.2.1).toNat).2.2.1,())),v.2.2.2.2.2.2.2.2.1,v.2.2.2.2.2.2.2.2.2.1,v.2.2.2.2.2.2.2.2.2.2.1,v.2.2.2.2.2.2.2.2.2.2.2.1,v.2.2.2.2.2.2.2.2.2.2.2.2.1,v.2.2.2.2.2.2.2.2.2.2.2.2.2.1,v.2.2.2.2.2.2.2.2.2.2.2.2.2.2.1,v.2.2.2.2.2.2.2.2.2.2.2.2.2.2.2.1,v.2.2.2.2.2.2.2.2.2.2.2.2.2.2.2.2.1,v.2.2.2.2.2.2.2.2.2.2.2.2.2.2.2.2.2.1,v.2.2.2.2.2.2.2.2.2.2.2.2.2.2.2.2.2.2.1,v.2.2.2.2.2.2.2.2.2.2.2.2.2.2.2.2.2.2.2.1,v.2.2.2.2.2.2.2.2.2.2.2.2.2.2.2.2.2.2.2.2.1,v.2.2.2.2.2.2.2.2.2.2.2.2.2.2.2.2.2.2.2.2.2)) Dt.fail) Dt.fail)
theorem q3ca C v:q3o0 (regO (qea f4) 13) false [(11,(.box [.any,.own Riii])),(12,(.box [.any,.own Riii])),(13,(.box [.any,.own Riii])),(14,(.box [.any,.own Riii])),(15,.any),(16,(.box [.any,.own Riii])),(17,(.box [.any,.own Riii])),(18,.any),(19,(.box [.any,.own Riii])),(20,.any),(21,(.box [.any,.own Riii])),(22,.any),(23,.any)] q3c6 q3c9 q3c2 C v:=rgI (by kernel_rfl)
def q3cb (C:q3au) (v:q3c1):Dt q3c1:=(Dt.ret (v.1,v.2.1,v.2.2.1,v.2.2.2.1,(IntKind.wrap .i64 (v.2.2.2.2.1+(1:Int))),v.2.2.2.2.2.1,v.2.2.2.2.2.2.1,v.2.2.2.2.2.2.2.1,v.2.2.2.2.2.2.2.2.1,v.2.2.2.2.2.2.2.2.2.1,v.2.2.2.2.2.2.2.2.2.2.1,v.2.2.2.2.2.2.2.2.2.2.2.1,v.2.2.2.2.2.2.2.2.2.2.2.2.1,v.2.2.2.2.2.2.2.2.2.2.2.2.2.1,v.2.2.2.2.2.2.2.2.2.2.2.2.2.2.1,v.2.2.2.2.2.2.2.2.2.2.2.2.2.2.2.1,v.2.2.2.2.2.2.2.2.2.2.2.2.2.2.2.2.1,v.2.2.2.2.2.2.2.2.2.2.2.2.2.2.2.2.2.1,v.2.2.2.2.2.2.2.2.2.2.2.2.2.2.2.2.2.2.1,v.2.2.2.2.2.2.2.2.2.2.2.2.2.2.2.2.2.2.2.1,v.2.2.2.2.2.2.2.2.2.2.2.2.2.2.2.2.2.2.2.2))
theorem q3cc C v:q3o0 (regO (qea f4) 12) false [(11,(.box [.any,.own Riii])),(12,(.box [.any,.own Riii])),(13,(.box [.any,.own Riii])),(14,(.box [.any,.own Riii])),(15,.any),(16,(.box [.any,.own Riii])),(17,(.box [.any,.own Riii])),(18,.any),(19,(.box [.any,.own Riii])),(20,.any),(21,(.box [.any,.own Riii])),(22,.any),(23,.any)] q3c2 q3cb q3c2 C v:=rgI (by kernel_rfl)
abbrev q3cd:Type:=Int×Int×Int×Int×Int×Int×List Diii×Int×List Diii×Int×List Diii×Int×List Diii×Int×List Diii×Int×List Diii×Int×List Diii
def q3ce (v:q3cd):St:=⟨[(12,.ptr 0 0),(13,.ptr 2 0),(14,.ptr 4 0),(15,i6 v.1),(16,.ptr 6 0),(17,.ptr 8 0),(18,i6 v.2.1),(19,.ptr 10 0),(20,i6 v.2.2.1),(21,.ptr 12 0),(22,i6 v.2.2.2.1),(24,i6 v.2.2.2.2.1)],[.cells [i6 v.2.2.2.2.2.1,.rs 1],.rows Riii v.2.2.2.2.2.2.1,.cells [i6 v.2.2.2.2.2.2.2.1,.rs 3],.rows Riii v.2.2.2.2.2.2.2.2.1,.cells [i6 v.2.2.2.2.2.2.2.2.2.1,.rs 5],.rows Riii v.2.2.2.2.2.2.2.2.2.2.1,.cells [i6 v.2.2.2.2.2.2.2.2.2.2.2.1,.rs 7],.rows Riii v.2.2.2.2.2.2.2.2.2.2.2.2.1,.cells [i6 v.2.2.2.2.2.2.2.2.2.2.2.2.2.1,.rs 9],.rows Riii v.2.2.2.2.2.2.2.2.2.2.2.2.2.2.1,.cells [i6 v.2.2.2.2.2.2.2.2.2.2.2.2.2.2.2.1,.rs 11],.rows Riii v.2.2.2.2.2.2.2.2.2.2.2.2.2.2.2.2.1,.cells [i6 v.2.2.2.2.2.2.2.2.2.2.2.2.2.2.2.2.2.1,.rs 13],.rows Riii v.2.2.2.2.2.2.2.2.2.2.2.2.2.2.2.2.2.2]⟩
def q3cf (C:q3au) (v:q3c5):Dt q3cd:=(Dt.ret (v.1,v.2.1,v.2.2.1,v.2.2.2.1,(0:Int),v.2.2.2.2.2.2.2.2.1,v.2.2.2.2.2.2.2.2.2.1,v.2.2.2.2.2.2.2.2.2.2.1,v.2.2.2.2.2.2.2.2.2.2.2.1,v.2.2.2.2.2.2.2.2.2.2.2.2.1,v.2.2.2.2.2.2.2.2.2.2.2.2.2.1,v.2.2.2.2.2.2.2.2.2.2.2.2.2.2.1,v.2.2.2.2.2.2.2.2.2.2.2.2.2.2.2.1,v.2.2.2.2.2.2.2.2.2.2.2.2.2.2.2.2.1,v.2.2.2.2.2.2.2.2.2.2.2.2.2.2.2.2.2.1,v.2.2.2.2.2.2.2.2.2.2.2.2.2.2.2.2.2.2.1,v.2.2.2.2.2.2.2.2.2.2.2.2.2.2.2.2.2.2.2.1,v.2.2.2.2.2.2.2.2.2.2.2.2.2.2.2.2.2.2.2.2.1,v.2.2.2.2.2.2.2.2.2.2.2.2.2.2.2.2.2.2.2.2.2))
theorem q3cg C v:q3o0 (regO (qea f4) 14) false [(12,(.box [.any,.own Riii])),(13,(.box [.any,.own Riii])),(14,(.box [.any,.own Riii])),(15,.any),(16,(.box [.any,.own Riii])),(17,(.box [.any,.own Riii])),(18,.any),(19,(.box [.any,.own Riii])),(20,.any),(21,(.box [.any,.own Riii])),(22,.any),(24,.any)] q3c6 q3cf q3ce C v:=rgI (by kernel_rfl)
abbrev q3ch:Type:=Int×Int×Int×Int×Int×Bool×Int×List Diii×Int×List Diii×Int×List Diii×Int×List Diii×Int×List Diii×Int×List Diii×Int×List Diii
def q3ci (v:q3ch):St:=⟨[(12,.ptr 0 0),(13,.ptr 2 0),(14,.ptr 4 0),(15,i6 v.1),(16,.ptr 6 0),(17,.ptr 8 0),(18,i6 v.2.1),(19,.ptr 10 0),(20,i6 v.2.2.1),(21,.ptr 12 0),(22,i6 v.2.2.2.1),(24,i6 v.2.2.2.2.1),(99,.bool v.2.2.2.2.2.1)],[.cells [i6 v.2.2.2.2.2.2.1,.rs 1],.rows Riii v.2.2.2.2.2.2.2.1,.cells [i6 v.2.2.2.2.2.2.2.2.1,.rs 3],.rows Riii v.2.2.2.2.2.2.2.2.2.1,.cells [i6 v.2.2.2.2.2.2.2.2.2.2.1,.rs 5],.rows Riii v.2.2.2.2.2.2.2.2.2.2.2.1,.cells [i6 v.2.2.2.2.2.2.2.2.2.2.2.2.1,.rs 7],.rows Riii v.2.2.2.2.2.2.2.2.2.2.2.2.2.1,.cells [i6 v.2.2.2.2.2.2.2.2.2.2.2.2.2.2.1,.rs 9],.rows Riii v.2.2.2.2.2.2.2.2.2.2.2.2.2.2.2.1,.cells [i6 v.2.2.2.2.2.2.2.2.2.2.2.2.2.2.2.2.1,.rs 11],.rows Riii v.2.2.2.2.2.2.2.2.2.2.2.2.2.2.2.2.2.1,.cells [i6 v.2.2.2.2.2.2.2.2.2.2.2.2.2.2.2.2.2.2.1,.rs 13],.rows Riii v.2.2.2.2.2.2.2.2.2.2.2.2.2.2.2.2.2.2.2]⟩
def q3cj (C:q3au) (v:q3cd):Dt q3ch:=(Dt.ret (v.1,v.2.1,v.2.2.1,v.2.2.2.1,v.2.2.2.2.1,(decide (v.2.2.2.2.1<(List.length v.2.2.2.2.2.2.1:Int))),v.2.2.2.2.2.1,v.2.2.2.2.2.2.1,v.2.2.2.2.2.2.2.1,v.2.2.2.2.2.2.2.2.1,v.2.2.2.2.2.2.2.2.2.1,v.2.2.2.2.2.2.2.2.2.2.1,v.2.2.2.2.2.2.2.2.2.2.2.1,v.2.2.2.2.2.2.2.2.2.2.2.2.1,v.2.2.2.2.2.2.2.2.2.2.2.2.2.1,v.2.2.2.2.2.2.2.2.2.2.2.2.2.2.1,v.2.2.2.2.2.2.2.2.2.2.2.2.2.2.2.1,v.2.2.2.2.2.2.2.2.2.2.2.2.2.2.2.2.1,v.2.2.2.2.2.2.2.2.2.2.2.2.2.2.2.2.2.1,v.2.2.2.2.2.2.2.2.2.2.2.2.2.2.2.2.2.2))
theorem q3ck C v:q3o0 (regO (qea f4) 15) false [(12,(.box [.any,.own Riii])),(13,(.box [.any,.own Riii])),(14,(.box [.any,.own Riii])),(15,.any),(16,(.box [.any,.own Riii])),(17,(.box [.any,.own Riii])),(18,.any),(19,(.box [.any,.own Riii])),(20,.any),(21,(.box [.any,.own Riii])),(22,.any),(24,.any),(99,.any)] q3ce q3cj q3ci C v:=rgI (by kernel_rfl)
def q3cl (C:q3au) (v:q3ch):Dt q3cd:=(Dt.ite (inB v.2.2.2.2.1 (List.length v.2.2.2.2.2.2.2.1)) (Dt.ite (inB v.2.2.2.2.1 (List.length v.2.2.2.2.2.2.2.1)) (Dt.ret (v.1,v.2.1,v.2.2.1,v.2.2.2.1,v.2.2.2.2.1,v.2.2.2.2.2.2.1,(List.set v.2.2.2.2.2.2.2.1 (v.2.2.2.2.1).toNat ((IntKind.wrap .i64 ((elt ziii v.2.2.2.2.2.2.2.1 (v.2.2.2.2.1).toNat).1+(1:Int))),(elt ziii v.2.2.2.2.2.2.2.1 (v.2.2.2.2.1).toNat).2.1,(elt ziii v.2.2.2.2.2.2.2.1 (v.2.2.2.2.1).toNat).2.2.1,())),v.2.2.2.2.2.2.2.2.1,v.2.2.2.2.2.2.2.2.2.1,v.2.2.2.2.2.2.2.2.2.2.1,v.2.2.2.2.2.2.2.2.2.2.2.1,v.2.2.2.2.2.2.2.2.2.2.2.2.1,v.2.2.2.2.2.2.2.2.2.2.2.2.2.1,v.2.2.2.2.2.2.2.2.2.2.2.2.2.2.1,v.2.2.2.2.2.2.2.2.2.2.2.2.2.2.2.1,v.2.2.2.2.2.2.2.2.2.2.2.2.2.2.2.2.1,v.2.2.2.2.2.2.2.2.2.2.2.2.2.2.2.2.2.1,v.2.2.2.2.2.2.2.2.2.2.2.2.2.2.2.2.2.2.1,v.2.2.2.2.2.2.2.2.2.2.2.2.2.2.2.2.2.2.2)) Dt.fail) Dt.fail)
theorem q3cm C v:q3o0 (regO (qea f4) 17) false [(12,(.box [.any,.own Riii])),(13,(.box [.any,.own Riii])),(14,(.box [.any,.own Riii])),(15,.any),(16,(.box [.any,.own Riii])),(17,(.box [.any,.own Riii])),(18,.any),(19,(.box [.any,.own Riii])),(20,.any),(21,(.box [.any,.own Riii])),(22,.any),(24,.any)] q3ci q3cl q3ce C v:=rgI (by kernel_rfl)
def q3cn (C:q3au) (v:q3cd):Dt q3cd:=(Dt.ret (v.1,v.2.1,v.2.2.1,v.2.2.2.1,(IntKind.wrap .i64 (v.2.2.2.2.1+(1:Int))),v.2.2.2.2.2.1,v.2.2.2.2.2.2.1,v.2.2.2.2.2.2.2.1,v.2.2.2.2.2.2.2.2.1,v.2.2.2.2.2.2.2.2.2.1,v.2.2.2.2.2.2.2.2.2.2.1,v.2.2.2.2.2.2.2.2.2.2.2.1,v.2.2.2.2.2.2.2.2.2.2.2.2.1,v.2.2.2.2.2.2.2.2.2.2.2.2.2.1,v.2.2.2.2.2.2.2.2.2.2.2.2.2.2.1,v.2.2.2.2.2.2.2.2.2.2.2.2.2.2.2.1,v.2.2.2.2.2.2.2.2.2.2.2.2.2.2.2.2.1,v.2.2.2.2.2.2.2.2.2.2.2.2.2.2.2.2.2.1,v.2.2.2.2.2.2.2.2.2.2.2.2.2.2.2.2.2.2))
theorem q3co C v:q3o0 (regO (qea f4) 16) false [(12,(.box [.any,.own Riii])),(13,(.box [.any,.own Riii])),(14,(.box [.any,.own Riii])),(15,.any),(16,(.box [.any,.own Riii])),(17,(.box [.any,.own Riii])),(18,.any),(19,(.box [.any,.own Riii])),(20,.any),(21,(.box [.any,.own Riii])),(22,.any),(24,.any)] q3ce q3cn q3ce C v:=rgI (by kernel_rfl)
def q3cp (C:q3au) (v:q3ch):Dt q3b7:=(Dt.bnd (C.2.2.2.1 ((v.2.2.2.2.2.2.2.2.1,v.2.2.2.2.2.2.2.2.2.1,()),(v.2.2.2.2.2.2.2.2.2.2.2.2.1,v.2.2.2.2.2.2.2.2.2.2.2.2.2.1,()),())) fun r1=>(Dt.ite r1 (Dt.bnd (C.2.2.2.1 ((v.2.2.2.2.2.2.2.2.2.2.1,v.2.2.2.2.2.2.2.2.2.2.2.1,()),(v.2.2.2.2.2.2.2.2.2.2.2.2.2.2.1,v.2.2.2.2.2.2.2.2.2.2.2.2.2.2.2.1,()),())) fun r2=>(Dt.ite r2 (Dt.ite (v.1 == v.2.1) (Dt.bnd (C.2.2.2.1 ((v.2.2.2.2.2.2.2.2.2.2.2.2.2.2.2.2.1,v.2.2.2.2.2.2.2.2.2.2.2.2.2.2.2.2.2.1,()),(v.2.2.2.2.2.2.2.2.2.2.2.2.2.2.2.2.2.2.1,v.2.2.2.2.2.2.2.2.2.2.2.2.2.2.2.2.2.2.2,()),())) fun r3=>(Dt.ite r3 (Dt.ret (v.2.2.1 == v.2.2.2.1)) (Dt.ret false))) (Dt.ret false)) (Dt.ret false))) (Dt.ret false)))
theorem q3cq C v:q3o0 (regO (qea f4) 18) false [(10,.any)] q3ci q3cp q3b8 C v:=rgI (by kernel_rfl)
def q3cr (d:Nat) (self2:(Int×Int×Int×Int×Int×Int×List Diii×Int×List Diii×Int×List Diii×Int×List Diii×Int×List Diii×Int×List Diii×Int×List Diii)→Option q3ar) (x2:Int×Int×Int×Int×Int×Int×List Diii×Int×List Diii×Int×List Diii×Int×List Diii×Int×List Diii×Int×List Diii×Int×List Diii):Option q3ar :=
 (q3cj (q3av d) x2).eval fun y15 =>
 bif y15.2.2.2.2.2.1 then ((q3cl (q3av d) y15).eval fun y17 =>
 (q3cn (q3av d) y17).eval fun y16 =>
 self2 y16) else ((q3cp (q3av d) y15).eval fun y18 =>
 some y18)
def q3cs (d:Nat) (self1:(Int×Int×Int×Int×Int×Int×List Diii×Int×List Diii×Int×List Diii×Int×List Diii×Int×List Diii×Int×List Diii×Int×List Diii×Int×List Diii)→Option q3ar) (x1:Int×Int×Int×Int×Int×Int×List Diii×Int×List Diii×Int×List Diii×Int×List Diii×Int×List Diii×Int×List Diii×Int×List Diii×Int×List Diii):Option q3ar :=
 (q3c7 (q3av d) x1).eval fun y11 =>
 bif y11.2.2.2.2.2.1 then ((q3c9 (q3av d) y11).eval fun y13 =>
 (q3cb (q3av d) y13).eval fun y12 =>
 self1 y12) else ((q3cf (q3av d) y11).eval fun y14 =>
 iter (q3cr d ) d y14)
def q3ct (d:Nat) (x:q3aq):Option q3ar :=
 (q3b1 (q3av d) (x.1.1,x.1.2.1,x.2.1.1,x.2.1.2.1,x.2.2.1.1,x.2.2.2.1.1,x.2.2.2.2.1.1,x.2.2.2.2.1.2.1)).eval fun y0 =>
 (q3b5 (q3av d) y0).eval fun y1 =>
 bif y1.2.1 then ((q3b9 (q3av d) y1).eval fun y2 =>
 some y2) else ((q3bd (q3av d) y1).eval fun y3 =>
 (q3bh (q3av d) y3).eval fun y4 =>
 (q3bl (q3av d) y4).eval fun y5 =>
 (q3bp (q3av d) y5).eval fun y6 =>
 (q3bt (q3av d) y6).eval fun y7 =>
 (q3bx (q3av d) y7).eval fun y8 =>
 bif y8.2.2.2.2.1 then ((q3bz (q3av d) y8).eval fun y9 =>
 some y9) else ((q3c3 (q3av d) y8).eval fun y10 =>
 iter (q3cs d ) d y10))
theorem q3cu (d:Nat):COK prog (q3at (q3ct d)):=by
 have hm:prog.follows .mixedOrders=true:=mixed
 have hT:=tys
 have hC0:OrcOK prog (orc (q3aw (q3av d))):=qe4 (by
  intro S hS
  simp only [q3aw,List.mem_cons,List.not_mem_nil,or_false] at hS
  rcases hS with rfl | rfl | rfl | rfl | rfl | rfl | rfl | rfl
  · exact qq9 d
  · exact q1cz d
  · exact q1b8 d
  · exact q1cf d
  · exact q2kf d
  · exact q270 d
  · exact q2qx d
  · exact q2u6 d)
 have hC:OrcOK prog (orc (q3aw (q3av d))):=hC0
 refine q9t (c:=qea f4) (fn:=f4) hT (by kernel_rfl) (by kernel_rfl) (by decide) fun x r h w0 φ0 Q hend=>?_
 replace h:q3ct d x=some r:=h
 unfold q3ct at h
 show Run prog w0 φ0 134 (qea f4) ⟨[(0,.agg [.int .i64 x.1.1,.fz Riii x.1.2.1]),(1,.agg [.int .i64 x.2.1.1,.fz Riii x.2.1.2.1]),(2,.int .i64 x.2.2.1.1),(3,.agg [.fz Riii x.2.2.2.1.1]),(4,.agg [.int .i64 x.2.2.2.2.1.1,.int .i64 x.2.2.2.2.1.2.1])],[]⟩ Q
 refine q344 hm hT hC (q3b2 (q3av d) (x.1.1,x.1.2.1,x.2.1.1,x.2.1.2.1,x.2.2.1.1,x.2.2.2.1.1,x.2.2.2.2.1.1,x.2.2.2.2.1.2.1)) h fun y0 h=>?_
 refine q9d ?_
 refine q344 hm hT hC (q3b6 (q3av d) y0) h fun y1 h=>?_
 refine q9h (v:=y1.2.1) (by kernel_rfl) h ?_ ?_
 ·
  intro h
  refine q344 hm hT hC (q3ba (q3av d) y1) h fun y2 h=>?_
  refine q9c (q91 ?_)
  cases h
  exact (hend _ (by kernel_rfl)).2
 ·
  intro h
  refine q99 (q8z ?_)
  refine q344 hm hT hC (q3be (q3av d) y1) h fun y3 h=>?_
  refine q344 hm hT hC (q3bi (q3av d) y3) h fun y4 h=>?_
  refine q344 hm hT hC (q3bm (q3av d) y4) h fun y5 h=>?_
  refine q344 hm hT hC (q3bq (q3av d) y5) h fun y6 h=>?_
  refine q344 hm hT hC (q3bu (q3av d) y6) h fun y7 h=>?_
  refine q9d ?_
  refine q344 hm hT hC (q3by (q3av d) y7) h fun y8 h=>?_
  refine q9h (v:=y8.2.2.2.2.1) (by kernel_rfl) h ?_ ?_
  ·
   intro h
   refine q344 hm hT hC (q3c0 (q3av d) y8) h fun y9 h=>?_
   refine q9c (q91 ?_)
   cases h
   exact (hend _ (by kernel_rfl)).2
  ·
   intro h
   refine q99 (q8z (q9d ?_))
   refine q344 hm hT hC (q3c4 (q3av d) y8) h fun y10 h=>?_
   refine q9e ?_
   refine q9j (G:=iter (q3cs d )) (S:=(fun x1=>⟨[(11,.ptr 0 0),(12,.ptr 2 0),(13,.ptr 4 0),(14,.ptr 6 0),(15,i6 x1.1),(16,.ptr 8 0),(17,.ptr 10 0),(18,i6 x1.2.1),(19,.ptr 12 0),(20,i6 x1.2.2.1),(21,.ptr 14 0),(22,i6 x1.2.2.2.1),(23,i6 x1.2.2.2.2.1)],[.cells [i6 x1.2.2.2.2.2.1,.rs 1],.rows Riii x1.2.2.2.2.2.2.1,.cells [i6 x1.2.2.2.2.2.2.2.1,.rs 3],.rows Riii x1.2.2.2.2.2.2.2.2.1,.cells [i6 x1.2.2.2.2.2.2.2.2.2.1,.rs 5],.rows Riii x1.2.2.2.2.2.2.2.2.2.2.1,.cells [i6 x1.2.2.2.2.2.2.2.2.2.2.2.1,.rs 7],.rows Riii x1.2.2.2.2.2.2.2.2.2.2.2.2.1,.cells [i6 x1.2.2.2.2.2.2.2.2.2.2.2.2.2.1,.rs 9],.rows Riii x1.2.2.2.2.2.2.2.2.2.2.2.2.2.2.1,.cells [i6 x1.2.2.2.2.2.2.2.2.2.2.2.2.2.2.2.1,.rs 11],.rows Riii x1.2.2.2.2.2.2.2.2.2.2.2.2.2.2.2.2.1,.cells [i6 x1.2.2.2.2.2.2.2.2.2.2.2.2.2.2.2.2.2.1,.rs 13],.rows Riii x1.2.2.2.2.2.2.2.2.2.2.2.2.2.2.2.2.2.2.1,.cells [i6 x1.2.2.2.2.2.2.2.2.2.2.2.2.2.2.2.2.2.2.2.1,.rs 15],.rows Riii x1.2.2.2.2.2.2.2.2.2.2.2.2.2.2.2.2.2.2.2.2]⟩:Int×Int×Int×Int×Int×Int×List Diii×Int×List Diii×Int×List Diii×Int×List Diii×Int×List Diii×Int×List Diii×Int×List Diii×Int×List Diii→St)) (fun _=>rfl) ?_ d _ h
   intro n1 x1 h K1 hn1
   replace h:q3cs d  (iter (q3cs d ) n1) x1=some r:=h
   generalize iter (q3cs d ) n1=self1 at h hn1
   unfold q3cs at h
   refine q9d ?_
   refine q344 hm hT hC (q3c8 (q3av d) x1) h fun y11 h=>?_
   refine q9h (v:=y11.2.2.2.2.2.1) (by kernel_rfl) h ?_ ?_
   ·
    intro h
    refine q99 (q8z (q9d (q9e ?_)))
    refine q9i hm hT hC (q3ca (q3av d) y11) h ?_
    intro y13 h
    refine q92 (q8z ?_)
    refine q9i hm hT hC (q3cc (q3av d) y13) h ?_
    intro y12 h
    exact hn1 _ h
   ·
    intro h
    refine q9b (q90 (q90 (q94 (q8z (q9d ?_)))))
    refine q344 hm hT hC (q3cg (q3av d) y11) h fun y14 h=>?_
    refine q9e ?_
    refine q9j (G:=iter (q3cr d )) (S:=(fun x2=>⟨[(12,.ptr 0 0),(13,.ptr 2 0),(14,.ptr 4 0),(15,i6 x2.1),(16,.ptr 6 0),(17,.ptr 8 0),(18,i6 x2.2.1),(19,.ptr 10 0),(20,i6 x2.2.2.1),(21,.ptr 12 0),(22,i6 x2.2.2.2.1),(24,i6 x2.2.2.2.2.1)],[.cells [i6 x2.2.2.2.2.2.1,.rs 1],.rows Riii x2.2.2.2.2.2.2.1,.cells [i6 x2.2.2.2.2.2.2.2.1,.rs 3],.rows Riii x2.2.2.2.2.2.2.2.2.1,.cells [i6 x2.2.2.2.2.2.2.2.2.2.1,.rs 5],.rows Riii x2.2.2.2.2.2.2.2.2.2.2.1,.cells [i6 x2.2.2.2.2.2.2.2.2.2.2.2.1,.rs 7],.rows Riii x2.2.2.2.2.2.2.2.2.2.2.2.2.1,.cells [i6 x2.2.2.2.2.2.2.2.2.2.2.2.2.2.1,.rs 9],.rows Riii x2.2.2.2.2.2.2.2.2.2.2.2.2.2.2.1,.cells [i6 x2.2.2.2.2.2.2.2.2.2.2.2.2.2.2.2.1,.rs 11],.rows Riii x2.2.2.2.2.2.2.2.2.2.2.2.2.2.2.2.2.1,.cells [i6 x2.2.2.2.2.2.2.2.2.2.2.2.2.2.2.2.2.2.1,.rs 13],.rows Riii x2.2.2.2.2.2.2.2.2.2.2.2.2.2.2.2.2.2.2]⟩:Int×Int×Int×Int×Int×Int×List Diii×Int×List Diii×Int×List Diii×Int×List Diii×Int×List Diii×Int×List Diii×Int×List Diii→St)) (fun _=>rfl) ?_ d _ h
    intro n2 x2 h K2 hn2
    replace h:q3cr d  (iter (q3cr d ) n2) x2=some r:=h
    generalize iter (q3cr d ) n2=self2 at h hn2
    unfold q3cr at h
    refine q9d ?_
    refine q344 hm hT hC (q3ck (q3av d) x2) h fun y15 h=>?_
    refine q9h (v:=y15.2.2.2.2.2.1) (by kernel_rfl) h ?_ ?_
    ·
     intro h
     refine q99 (q8z (q9d (q9e ?_)))
     refine q9i hm hT hC (q3cm (q3av d) y15) h ?_
     intro y17 h
     refine q92 (q8z ?_)
     refine q9i hm hT hC (q3co (q3av d) y17) h ?_
     intro y16 h
     exact hn2 _ h
    ·
     intro h
     refine q9b (q90 (q90 (q94 (q8z ?_))))
     refine q344 hm hT hC (q3cq (q3av d) y15) h fun y18 h=>?_
     refine q9c ?_
     cases h
     exact (hend _ (by kernel_rfl)).2
end Go.Proofs.Ytoakhncbmpdacaa

namespace Go.Proofs.Ytoakhncbmpdacaa
open Go Go.Tx Go.Pel
theorem Gr.links {P:List N3} {n d:Int} {N:List N3} {i:Int} {a b:Nat} (h:Gr P n d N i a b):-1≤i∧i<b∧(i<0↔b≤a)∧∀ k,a≤k→k<b→-1≤lfN N k∧lfN N k<b∧-1≤rtN N k∧rtN N k<b:=by
  induction h with
  | leaf a b h=>exact ⟨by omega,by omega,by omega,fun k h1 h2=>by omega⟩
  | node k a b x h1 h2 h3 h4 _ _ ih1 ih2 =>
    obtain ⟨a1,a2,a3,a4⟩:=ih1
    obtain ⟨b1,b2,b3,b4⟩:=ih2
    refine ⟨by omega,by omega,by omega,fun m m1 m2=>?_⟩
    obtain ⟨_,e2,e3⟩:=q37y h3
    rcases Nat.lt_trichotomy m k with h5 | h5 | h5
    · have:=a4 m m1 h5;omega
    · subst h5;rw [e2,e3];omega
    · have:=b4 m (by omega) m2;omega
theorem q3nh (d:Nat) (r:Int) (N:List N3) (hn:N.length<1000):∀ (f i:Nat),N.length - i<f→i≤N.length→iter (q1cd d) f ((i:Int),r,N,r,N)=some true
  | 0,i,h,_=>by omega
  | f + 1, i, hf, hi => by
    have ih:=q3nh d r N hn f (i+1)
    rw [iter]
    revert ih
    generalize iter (q1cd d) f=self
    intro ih
    unfold q1cd
    by_cases hl:i<N.length
    · have hw := q36l (show i < 1000000 by omega)
      simp only [q1c1,q1c9,q1c5,Dt.eval,decK hl,cond_true,inbK hl,beq_self_eq_true,Bool.and_self,Bool.not_true,cond_false,hw]
      exact ih (by omega) (by omega)
    · simp only [q1c1,q1cb,Dt.eval,decN hl,cond_false]
theorem q3ni (d:Nat) (hd:5000≤d) (r:Int) (N:List N3) (hn:N.length<1000):q1ce d ((r,N,()),(r,N,()),())=some true:=by
  have e:=q3nh d r N hn d 0 (by omega) (Nat.zero_le _)
  have e':iter (q1cd d) d (0,r,N,r,N)=_:=e
  simp only [q1ce,q1bl,q1bp,q1bx,Dt.eval,bne_self_eq_false,cond_false]
  exact e'
theorem q3nj (d:Nat) (r:Int) (N:List N3) (hn:N.length≤100000):q1b7 d ((r,N,()),())=some (r,N):=by
  have hap:apB 0 N.length=true:=by unfold apB;rw [Nat.ble_eq];omega
  simp only [q1b7,q1av,q1b1,q1b5,Dt.eval,List.length_nil,hap,cond_true,List.nil_append]
theorem q3nk (d:Nat) (r:Int) (N:List N3):q1cy d ((r,N,()),())=some (decide ((N.length:Int) > 70)):=by
  simp only [q1cy,q1cm,q1cs,q1cw,Dt.eval]
end Go.Proofs.Ytoakhncbmpdacaa

namespace Go.Proofs.Ytoakhncbmpdacaa
open Go.ChangeShapes Go.WideShapes Go.ChangeAt Go.RowKit Go.Pel Go.Deep
theorem q3no {a:Int} (h:-9223372036854775808≤a∧a≤9223372036854775807):Go.Tx.i64B a=true:=by
  unfold Go.Tx.i64B;rw [decide_eq_true h.1,decide_eq_true h.2];rfl
section
variable {H:Type} {enc:TypeId×Value→H} {w:World} {base:Nat} {spare:Nat→Bool} {held:Bool}
theorem q3np:Try.prog.cellsOf 67=3:=by kernel_rfl
theorem q3nq:Try.prog.cellsOf 29=2:=by kernel_rfl
theorem q3nr:Try.prog.cellsOf 27=1:=by kernel_rfl
theorem q3ns {fuel:Nat} {l:List Value} {x:DataW H×List MemPlace} (h:DataW.trod enc Try.prog w base spare held fuel 67 l=some x) (hl:l.length=3) :
    ∃ p:Pt,l=[.int .i64 p.id,.int .i64 p.a,.int .i64 p.b]∧p.Fits:=by
  obtain ⟨c0,c1,c2,rfl⟩:=q33o l hl
  obtain ⟨m4,y4,h4⟩:=q33b Try.underlying67 h (i:=0) rfl rfl rfl q33p
  obtain ⟨m5,y5,h5⟩:=q33b Try.underlying67 h (i:=1) rfl rfl rfl q33p
  obtain ⟨m6,y6,h6⟩:=q33b Try.underlying67 h (i:=2) rfl rfl rfl q33p
  obtain ⟨i,e4,w4⟩:=q33c Try.underlying3 h4
  obtain ⟨a,e5,w5⟩:=q33c Try.underlying3 h5
  obtain ⟨b,e6,w6⟩:=q33c Try.underlying3 h6
  simp at e4 e5 e6
  subst e4 e5 e6
  exact ⟨⟨i,a,b⟩,rfl,⟨q33d w4,q33d w5,q33d w6⟩⟩
theorem q3nt (fuel:Nat) (l:List Value) (x:DataW H×List MemPlace) (h:DataW.trod enc Try.prog w base spare held fuel 67 l=some x) (hl:l.length=3):∃ p:Pt,l=p.cells∧p.Fits:=q3ns h hl
theorem q3nu {fuel:Nat} {l:List Value} {x:DataW H×List MemPlace} (h:DataW.trod enc Try.prog w base (fun _=>true) held fuel 29 l=some x) (hl:l.length=2) :
    ∃ (r:Int) (A:Option Addr) (c:Nat) (m:List Pt),l=[.int .i64 r,.slice A m.length c]∧Sl w 3 A m.length c (vp m)∧(A=none→c=0)∧∀ p∈m,p.Fits:=by
  obtain ⟨c0,c1,rfl⟩:=q33n l hl
  obtain ⟨m0,y0,h0⟩:=q33b Try.underlying29 h (i:=0) rfl rfl rfl q33p
  obtain ⟨m1,y1,h1⟩:=q33b Try.underlying29 h (i:=1) rfl rfl rfl q3nr
  obtain ⟨r,e0,_⟩:=q33c Try.underlying3 h0
  have h1':DataW.trod enc Try.prog w base (fun _=>true) held m1 27 [c1]=some y1:=by simpa using h1
  obtain ⟨A,n,c,rfl⟩:∃ A n c,c1=Value.slice A n c:=by
    rcases open_slice Try.underlying27 h1' with ⟨hcs,_⟩ | ⟨a,len,cap,m,q,D,Pl,hcs,_⟩
    · simp only [List.cons.injEq,and_true] at hcs;exact ⟨_,_,_,hcs⟩
    · simp only [List.cons.injEq,and_true] at hcs;exact ⟨_,_,_,hcs⟩
  have hn:=q33k Try.underlying27 h1'
  obtain ⟨pts,rfl,hs,hok,_,_⟩:=q33l Pt.cells Pt.Fits Try.underlying27 q3np (by decide) (fun _=>rfl) q3nt h1'
  simp at e0
  subst e0
  exact ⟨r,A,c,pts,rfl,hs,hn,hok⟩
theorem q3nv {w:World} {r:Int} {A:Option Addr} {c:Nat} {l:List Pt} (hs:Sl w 3 A l.length c (vp l)) (h0:A=none→c=0):Go.Tx.VR (Go.Tx.Emb.fro fun k=>w.heap[k]?) (.agg [.int .i64 r,.fz Go.Tx.RP (Go.Tx.toPs l)]) (.agg #[.int .i64 r,.slice A l.length c]) :=
  Go.Tx.VR.aggL (Go.Tx.VRs.cons (.int _ _) (Go.Tx.VRs.cons (Go.Tx.sl_fz (τ:=Go.Tx.RP) rfl (Go.Tx.toPs_len l) (Go.Tx.valsL_toP l) hs h0) Go.Tx.VRs.nil))
end
end Go.Proofs.Ytoakhncbmpdacaa
