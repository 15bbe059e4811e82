/- Walks of the references; the orders agree; examples. -/
import Derived.Test.YtoakhncbmpdacaaGj
set_option linter.unusedSimpArgs false
set_option linter.unusedVariables false
namespace Go.Proofs.Ytoakhncbmpdacaa
open Go Go.Tx Go.Proofs.Try
set_option maxRecDepth 100000
set_option maxHeartbeats 0
abbrev q3cv:List Pk:=[.row qks true,.row Rii true]
abbrev q3cw:Type:=qkt×Dii×Unit
abbrev q3cx:Type:=Bool
def q3cy (r:q3cx):LV×List Ob:=(.bool r,[])
def q3cz (F:q3cw→Option q3cx):Go.Tx.Spec:=⟨32,q3cv,q3cx,F,q3cy⟩
abbrev q3d0:Type:=(qq2→Option qq3)×(quk→Option qul)×Unit
def q3d1 (d:Nat):q3d0:=(qq7 d,quq d,())
def q3d2 (C:q3d0):List Go.Tx.Spec:=[qq5 C.1,qun C.2.1]
abbrev q3d3:Type:=List Diii×Int×Int
def q3d4 (v:q3d3):St:=⟨[(0,.agg [.fz Riii v.1]),(1,.agg [i6 v.2.1,i6 v.2.2])],[]⟩
abbrev q3d5:Type:=List Diii×Int×Int
def q3d6 (v:q3d5):St:=⟨[(2,.ptr 0 0),(3,.ptr 1 0)],[.cells [.fz Riii v.1],.cells [i6 v.2.1,i6 v.2.2]]⟩
def q3d7 (C:q3d0) (v:q3d3):Dt q3d5:=(Dt.ret (v.1,v.2.1,v.2.2))
abbrev q3o1 {V Y:Type}:=@rg q3d0 V Y tysT (fun C=>(orc (q3d2 C))) 14
theorem q3d8 C v:q3o1 (regO (qea f32) 0) false [(2,(.box [.val Riii])),(3,.any)] q3d4 q3d7 q3d6 C v:=rgI (by kernel_rfl)
abbrev q3d9:Type:=Bool
def q3da (v:q3d9):St:=⟨[(4,.bool v)],[]⟩
def q3db (C:q3d0) (v:q3d5):Dt q3d9:=(Dt.bnd (C.1 ((v.1,()),())) fun r1=>(Dt.ite (!r1) (Dt.bnd (C.2.1 ((v.1,()),(v.2.1,v.2.2,()),())) fun r2=>(Dt.ret (r2 == (0:Int)))) (Dt.ret false)))
theorem q3dc C v:q3o1 (regO (qea f32) 1) false [(4,.any)] q3d6 q3db q3da C v:=rgI (by kernel_rfl)
def q3dd (d:Nat) (x:q3cw):Option q3cx :=
 (q3d7 (q3d1 d) (x.1.1,x.2.1.1,x.2.1.2.1)).eval fun y0 =>
 (q3db (q3d1 d) y0).eval fun y1 =>
 some y1
theorem q3de (d:Nat):COK prog (q3cz (q3dd d)):=by
 have hm:prog.follows .mixedOrders=true:=mixed
 have hT:=tys
 have hC0:OrcOK prog (orc (q3d2 (q3d1 d))):=qe4 (by
  intro S hS
  simp only [q3d2,List.mem_cons,List.not_mem_nil,or_false] at hS
  rcases hS with rfl | rfl
  · exact qq9 d
  · exact qus d)
 have hC:OrcOK prog (orc (q3d2 (q3d1 d))):=hC0
 refine q9t (c:=qea f32) (fn:=f32) hT (by kernel_rfl) (by kernel_rfl) (by decide) fun x r h w0 φ0 Q hend=>?_
 replace h:q3dd d x=some r:=h
 unfold q3dd at h
 show Run prog w0 φ0 14 (qea f32) ⟨[(0,.agg [.fz Riii x.1.1]),(1,.agg [.int .i64 x.2.1.1,.int .i64 x.2.1.2.1])],[]⟩ Q
 refine q344 hm hT hC (q3d8 (q3d1 d) (x.1.1,x.2.1.1,x.2.1.2.1)) h fun y0 h=>?_
 refine q344 hm hT hC (q3dc (q3d1 d) y0) h fun y1 h=>?_
 refine q9c ?_
 cases h
 exact (hend _ (by kernel_rfl)).2
abbrev q3hx:List Pk:=[.row qks true,.row Rii true,.row Ri false]
abbrev q3hy:Type:=qkt×Dii×Di×Unit
abbrev q3hz:Type:=Bool
def q3i0 (r:q3hz):LV×List Ob:=(.bool r,[])
def q3i1 (F:q3hy→Option q3hz):Go.Tx.Spec:=⟨6,q3hx,q3hz,F,q3i0⟩
abbrev q3i2:Type:=(q132→Option q133)×(q1ba→Option q1bb)×(q2fw→Option q2fx)×(q2kh→Option q2ki)×(q3cw→Option q3cx)×(q2vy→Option q2vz)×Unit
def q3i3 (d:Nat):q3i2:=(q15h d,q1ce d,q2ke d,q2qw d,q3dd d,q2wt d,())
def q3i4 (C:q3i2):List Go.Tx.Spec:=[q135 C.1,q1bd C.2.1,q2fz C.2.2.1,q2kk C.2.2.2.1,q3cz C.2.2.2.2.1,q2w1 C.2.2.2.2.2.1]
abbrev q3i5:Type:=List Diii×Int×Int×Int
def q3i6 (v:q3i5):St:=⟨[(0,.agg [.fz Riii v.1]),(1,.agg [i6 v.2.1,i6 v.2.2.1]),(2,i6 v.2.2.2)],[]⟩
abbrev q3i7:Type:=Int×List Diii×Int×Int
def q3i8 (v:q3i7):St:=⟨[(2,i6 v.1),(3,.ptr 0 0),(4,.ptr 1 0)],[.cells [.fz Riii v.2.1],.cells [i6 v.2.2.1,i6 v.2.2.2]]⟩
def q3i9 (C:q3i2) (v:q3i5):Dt q3i7:=(Dt.ret (v.2.2.2,v.1,v.2.1,v.2.2.1))
abbrev q3o5 {V Y:Type}:=@rg q3i2 V Y tysT (fun C=>(orc (q3i4 C))) 130
theorem q3ia C v:q3o5 (regO (qea f6) 0) false [(2,.any),(3,(.box [.val Riii])),(4,.any)] q3i6 q3i9 q3i8 C v:=rgI (by kernel_rfl)
abbrev q3ib:Type:=Int×Bool×List Diii×Int×Int
def q3ic (v:q3ib):St:=⟨[(2,i6 v.1),(3,.ptr 0 0),(4,.ptr 1 0),(24,.bool v.2.1)],[.cells [.fz Riii v.2.2.1],.cells [i6 v.2.2.2.1,i6 v.2.2.2.2]]⟩
def q3id (C:q3i2) (v:q3i7):Dt q3ib:=(Dt.bnd (C.2.2.2.2.1 ((v.2.1,()),(v.2.2.1,v.2.2.2,()),())) fun r1=>(Dt.ret (v.1,(!r1),v.2.1,v.2.2.1,v.2.2.2)))
theorem q3ie C v:q3o5 (regO (qea f6) 1) false [(2,.any),(3,(.box [.val Riii])),(4,.any),(24,.any)] q3i8 q3id q3ic C v:=rgI (by kernel_rfl)
abbrev q3if:Type:=Bool
def q3ig (v:q3if):St:=⟨[(6,.bool v)],[]⟩
def q3ih (C:q3i2) (v:q3ib):Dt q3if:=(Dt.bnd (C.2.2.2.2.2.1 (())) fun r1=>(Dt.ret r1))
theorem q3ii C v:q3o5 (regO (qea f6) 2) false [(6,.any)] q3ic q3ih q3ig C v:=rgI (by kernel_rfl)
abbrev q3ij:Type:=Int×List Diii×Int×Int×List Diii×List Diii
def q3ik (v:q3ij):St:=⟨[(2,i6 v.1),(3,.ptr 0 0),(4,.ptr 1 0),(7,.ptr 2 0),(8,.ptr 4 0)],[.cells [.fz Riii v.2.1],.cells [i6 v.2.2.1,i6 v.2.2.2.1],.cells [.rs 3],.rows Riii v.2.2.2.2.1,.cells [.rs 5],.rows Riii v.2.2.2.2.2]⟩
def q3il (C:q3i2) (v:q3ib):Dt q3ij:=(Dt.ret (v.1,v.2.2.1,v.2.2.2.1,v.2.2.2.2,([]:List Diii),([]:List Diii)))
theorem q3im C v:q3o5 (regO (qea f6) 3) false [(2,.any),(3,(.box [.val Riii])),(4,.any),(7,(.box [.own Riii])),(8,(.box [.own Riii]))] q3ic q3il q3ik C v:=rgI (by kernel_rfl)
abbrev q3in:Type:=Int×Int×List Diii×Int×Int×List Diii×List Diii
def q3io (v:q3in):St:=⟨[(2,i6 v.1),(3,.ptr 0 0),(4,.ptr 1 0),(7,.ptr 2 0),(8,.ptr 4 0),(9,i6 v.2.1)],[.cells [.fz Riii v.2.2.1],.cells [i6 v.2.2.2.1,i6 v.2.2.2.2.1],.cells [.rs 3],.rows Riii v.2.2.2.2.2.1,.cells [.rs 5],.rows Riii v.2.2.2.2.2.2]⟩
def q3ip (C:q3i2) (v:q3ij):Dt q3in:=(Dt.ret (v.1,(0:Int),v.2.1,v.2.2.1,v.2.2.2.1,v.2.2.2.2.1,v.2.2.2.2.2))
theorem q3iq C v:q3o5 (regO (qea f6) 4) false [(2,.any),(3,(.box [.val Riii])),(4,.any),(7,(.box [.own Riii])),(8,(.box [.own Riii])),(9,.any)] q3ik q3ip q3io C v:=rgI (by kernel_rfl)
abbrev q3ir:Type:=Int×Int×Bool×List Diii×Int×Int×List Diii×List Diii
def q3is (v:q3ir):St:=⟨[(2,i6 v.1),(3,.ptr 0 0),(4,.ptr 1 0),(7,.ptr 2 0),(8,.ptr 4 0),(9,i6 v.2.1),(30,.bool v.2.2.1)],[.cells [.fz Riii v.2.2.2.1],.cells [i6 v.2.2.2.2.1,i6 v.2.2.2.2.2.1],.cells [.rs 3],.rows Riii v.2.2.2.2.2.2.1,.cells [.rs 5],.rows Riii v.2.2.2.2.2.2.2]⟩
def q3it (C:q3i2) (v:q3in):Dt q3ir:=(Dt.ret (v.1,v.2.1,(decide (v.2.1<(List.length v.2.2.1:Int))),v.2.2.1,v.2.2.2.1,v.2.2.2.2.1,v.2.2.2.2.2.1,v.2.2.2.2.2.2))
theorem q3iu C v:q3o5 (regO (qea f6) 5) false [(2,.any),(3,(.box [.val Riii])),(4,.any),(7,(.box [.own Riii])),(8,(.box [.own Riii])),(9,.any),(30,.any)] q3io q3it q3is C v:=rgI (by kernel_rfl)
abbrev q3iv:Type:=Int×Int×Bool×List Diii×Int×Int×List Diii×List Diii
def q3iw (v:q3iv):St:=⟨[(2,i6 v.1),(3,.ptr 0 0),(4,.ptr 1 0),(7,.ptr 2 0),(8,.ptr 4 0),(9,i6 v.2.1),(40,.bool v.2.2.1)],[.cells [.fz Riii v.2.2.2.1],.cells [i6 v.2.2.2.2.1,i6 v.2.2.2.2.2.1],.cells [.rs 3],.rows Riii v.2.2.2.2.2.2.1,.cells [.rs 5],.rows Riii v.2.2.2.2.2.2.2]⟩
def q3ix (C:q3i2) (v:q3ir):Dt q3iv:=(Dt.ite (inB v.2.1 (List.length v.2.2.2.1)) (Dt.ret (v.1,v.2.1,(decide ((elt ziii v.2.2.2.1 (v.2.1).toNat).1<v.1)),v.2.2.2.1,v.2.2.2.2.1,v.2.2.2.2.2.1,v.2.2.2.2.2.2.1,v.2.2.2.2.2.2.2)) Dt.fail)
theorem q3iy C v:q3o5 (regO (qea f6) 7) false [(2,.any),(3,(.box [.val Riii])),(4,.any),(7,(.box [.own Riii])),(8,(.box [.own Riii])),(9,.any),(40,.any)] q3is q3ix q3iw C v:=rgI (by kernel_rfl)
def q3iz (C:q3i2) (v:q3iv):Dt q3in:=(Dt.ite (inB v.2.1 (List.length v.2.2.2.1)) (Dt.ite (apB (List.length v.2.2.2.2.2.2.1) (List.length ([((elt ziii v.2.2.2.1 (v.2.1).toNat).1,(elt ziii v.2.2.2.1 (v.2.1).toNat).2.1,(elt ziii v.2.2.2.1 (v.2.1).toNat).2.2.1,())]:List Diii))) (Dt.ret (v.1,v.2.1,v.2.2.2.1,v.2.2.2.2.1,v.2.2.2.2.2.1,(v.2.2.2.2.2.2.1++([((elt ziii v.2.2.2.1 (v.2.1).toNat).1,(elt ziii v.2.2.2.1 (v.2.1).toNat).2.1,(elt ziii v.2.2.2.1 (v.2.1).toNat).2.2.1,())]:List Diii)),v.2.2.2.2.2.2.2)) Dt.fail) Dt.fail)
theorem q3j0 C v:q3o5 (regO (qea f6) 8) true [(2,.any),(3,(.box [.val Riii])),(4,.any),(7,(.box [.own Riii])),(8,(.box [.own Riii])),(9,.any)] q3iw q3iz q3io C v:=rgI (by kernel_rfl)
def q3j1 (C:q3i2) (v:q3in):Dt q3in:=(Dt.ret (v.1,(IntKind.wrap .i64 (v.2.1+(1:Int))),v.2.2.1,v.2.2.2.1,v.2.2.2.2.1,v.2.2.2.2.2.1,v.2.2.2.2.2.2))
theorem q3j2 C v:q3o5 (regO (qea f6) 6) false [(2,.any),(3,(.box [.val Riii])),(4,.any),(7,(.box [.own Riii])),(8,(.box [.own Riii])),(9,.any)] q3io q3j1 q3io C v:=rgI (by kernel_rfl)
def q3j3  (d:Nat) (self1:(Int×Int×List Diii×Int×Int×List Diii×List Diii)→Option q3hz) (z:Int×Int×List Diii×Int×Int×List Diii×List Diii):Option (q3hz) :=
 (q3j1 (q3i3 d) z).eval fun y6 =>
 self1 y6
def q3j4 (C:q3i2) (v:q3iv):Dt q3in:=(Dt.ite (inB v.2.1 (List.length v.2.2.2.1)) (Dt.ite (apB (List.length v.2.2.2.2.2.2.2) (List.length ([((elt ziii v.2.2.2.1 (v.2.1).toNat).1,(elt ziii v.2.2.2.1 (v.2.1).toNat).2.1,(elt ziii v.2.2.2.1 (v.2.1).toNat).2.2.1,())]:List Diii))) (Dt.ret (v.1,v.2.1,v.2.2.2.1,v.2.2.2.2.1,v.2.2.2.2.2.1,v.2.2.2.2.2.2.1,(v.2.2.2.2.2.2.2++([((elt ziii v.2.2.2.1 (v.2.1).toNat).1,(elt ziii v.2.2.2.1 (v.2.1).toNat).2.1,(elt ziii v.2.2.2.1 (v.2.1).toNat).2.2.1,())]:List Diii)))) Dt.fail) Dt.fail)
theorem q3j5 C v:q3o5 (regO (qea f6) 9) true [(2,.any),(3,(.box [.val Riii])),(4,.any),(7,(.box [.own Riii])),(8,(.box [.own Riii])),(9,.any)] q3iw q3j4 q3io C v:=rgI (by kernel_rfl)
abbrev q3j6:Type:=Int×Int×List Diii×Int×Int×List Diii×List Diii×Int×List Diii
def q3j7 (v:q3j6):St:=⟨[(2,i6 v.1),(3,.ptr 0 0),(4,.ptr 1 0),(7,.ptr 2 0),(8,.ptr 4 0),(10,.ptr 6 0),(11,i6 v.2.1)],[.cells [.fz Riii v.2.2.1],.cells [i6 v.2.2.2.1,i6 v.2.2.2.2.1],.cells [.rs 3],.rows Riii v.2.2.2.2.2.1,.cells [.rs 5],.rows Riii v.2.2.2.2.2.2.1,.cells [i6 v.2.2.2.2.2.2.2.1,.rs 7],.rows Riii v.2.2.2.2.2.2.2.2]⟩
def q3j8 (C:q3i2) (v:q3ir):Dt q3j6:=(Dt.bnd (C.1 ((v.2.2.2.1,()),(v.2.2.2.2.1,v.2.2.2.2.2.1,()),())) fun r1=>(Dt.ret (v.1,r1.2.2,v.2.2.2.1,v.2.2.2.2.1,v.2.2.2.2.2.1,v.2.2.2.2.2.2.1,v.2.2.2.2.2.2.2,r1.1,r1.2.1)))
theorem q3j9 C v:q3o5 (regO (qea f6) 10) false [(2,.any),(3,(.box [.val Riii])),(4,.any),(7,(.box [.own Riii])),(8,(.box [.own Riii])),(10,(.box [.any,.own Riii])),(11,.any)] q3is q3j8 q3j7 C v:=rgI (by kernel_rfl)
abbrev q3ja:Type:=Int×Int×Int×List Diii×Int×Int×List Diii×Int×List Diii×Int×List Diii
def q3jb (v:q3ja):St:=⟨[(2,i6 v.1),(3,.ptr 0 0),(4,.ptr 1 0),(8,.ptr 2 0),(10,.ptr 4 0),(11,i6 v.2.1),(12,.ptr 6 0),(13,i6 v.2.2.1)],[.cells [.fz Riii v.2.2.2.1],.cells [i6 v.2.2.2.2.1,i6 v.2.2.2.2.2.1],.cells [.rs 3],.rows Riii v.2.2.2.2.2.2.1,.cells [i6 v.2.2.2.2.2.2.2.1,.rs 5],.rows Riii v.2.2.2.2.2.2.2.2.1,.cells [i6 v.2.2.2.2.2.2.2.2.2.1,.rs 7],.rows Riii v.2.2.2.2.2.2.2.2.2.2]⟩
def q3jc (C:q3i2) (v:q3j6):Dt q3ja:=(Dt.bnd (C.1 ((v.2.2.2.2.2.1,()),(v.2.2.2.1,v.2.2.2.2.1,()),())) fun r1=>(Dt.ret (v.1,v.2.1,r1.2.2,v.2.2.1,v.2.2.2.1,v.2.2.2.2.1,v.2.2.2.2.2.2.1,v.2.2.2.2.2.2.2.1,v.2.2.2.2.2.2.2.2,r1.1,r1.2.1)))
theorem q3jd C v:q3o5 (regO (qea f6) 11) false [(2,.any),(3,(.box [.val Riii])),(4,.any),(8,(.box [.own Riii])),(10,(.box [.any,.own Riii])),(11,.any),(12,(.box [.any,.own Riii])),(13,.any)] q3j7 q3jc q3jb C v:=rgI (by kernel_rfl)
abbrev q3je:Type:=Int×Int×Int×Int×List Diii×Int×Int×Int×List Diii×Int×List Diii×Int×List Diii
def q3jf (v:q3je):St:=⟨[(2,i6 v.1),(3,.ptr 0 0),(4,.ptr 1 0),(10,.ptr 2 0),(11,i6 v.2.1),(12,.ptr 4 0),(13,i6 v.2.2.1),(14,.ptr 6 0),(15,i6 v.2.2.2.1)],[.cells [.fz Riii v.2.2.2.2.1],.cells [i6 v.2.2.2.2.2.1,i6 v.2.2.2.2.2.2.1],.cells [i6 v.2.2.2.2.2.2.2.1,.rs 3],.rows Riii v.2.2.2.2.2.2.2.2.1,.cells [i6 v.2.2.2.2.2.2.2.2.2.1,.rs 5],.rows Riii v.2.2.2.2.2.2.2.2.2.2.1,.cells [i6 v.2.2.2.2.2.2.2.2.2.2.2.1,.rs 7],.rows Riii v.2.2.2.2.2.2.2.2.2.2.2.2]⟩
def q3jg (C:q3i2) (v:q3ja):Dt q3je:=(Dt.bnd (C.1 ((v.2.2.2.2.2.2.1,()),(v.2.2.2.2.1,v.2.2.2.2.2.1,()),())) fun r1=>(Dt.ret (v.1,v.2.1,v.2.2.1,r1.2.2,v.2.2.2.1,v.2.2.2.2.1,v.2.2.2.2.2.1,v.2.2.2.2.2.2.2.1,v.2.2.2.2.2.2.2.2.1,v.2.2.2.2.2.2.2.2.2.1,v.2.2.2.2.2.2.2.2.2.2,r1.1,r1.2.1)))
theorem q3jh C v:q3o5 (regO (qea f6) 12) false [(2,.any),(3,(.box [.val Riii])),(4,.any),(10,(.box [.any,.own Riii])),(11,.any),(12,(.box [.any,.own Riii])),(13,.any),(14,(.box [.any,.own Riii])),(15,.any)] q3jb q3jg q3jf C v:=rgI (by kernel_rfl)
abbrev q3ji:Type:=Int×Int×Int×Int×List Diii×Int×Int×Int×List Diii×Int×List Diii×Int×List Diii×Int×List Diii×Int×List Diii
def q3jj (v:q3ji):St:=⟨[(3,.ptr 0 0),(4,.ptr 1 0),(10,.ptr 2 0),(11,i6 v.1),(12,.ptr 4 0),(13,i6 v.2.1),(14,.ptr 6 0),(15,i6 v.2.2.1),(16,.ptr 8 0),(17,.ptr 10 0),(18,i6 v.2.2.2.1)],[.cells [.fz Riii v.2.2.2.2.1],.cells [i6 v.2.2.2.2.2.1,i6 v.2.2.2.2.2.2.1],.cells [i6 v.2.2.2.2.2.2.2.1,.rs 3],.rows Riii v.2.2.2.2.2.2.2.2.1,.cells [i6 v.2.2.2.2.2.2.2.2.2.1,.rs 5],.rows Riii v.2.2.2.2.2.2.2.2.2.2.1,.cells [i6 v.2.2.2.2.2.2.2.2.2.2.2.1,.rs 7],.rows Riii v.2.2.2.2.2.2.2.2.2.2.2.2.1,.cells [i6 v.2.2.2.2.2.2.2.2.2.2.2.2.2.1,.rs 9],.rows Riii v.2.2.2.2.2.2.2.2.2.2.2.2.2.2.1,.cells [i6 v.2.2.2.2.2.2.2.2.2.2.2.2.2.2.2.1,.rs 11],.rows Riii v.2.2.2.2.2.2.2.2.2.2.2.2.2.2.2.2]⟩
def q3jk (C:q3i2) (v:q3je):Dt q3ji:=(Dt.bnd (C.2.2.1 ((v.2.2.2.2.2.2.2.1,v.2.2.2.2.2.2.2.2.1,()),(v.1,()),())) fun r1=>(Dt.ret (v.2.1,v.2.2.1,v.2.2.2.1,r1.2.2.2.2,v.2.2.2.2.1,v.2.2.2.2.2.1,v.2.2.2.2.2.2.1,v.2.2.2.2.2.2.2.1,v.2.2.2.2.2.2.2.2.1,v.2.2.2.2.2.2.2.2.2.1,v.2.2.2.2.2.2.2.2.2.2.1,v.2.2.2.2.2.2.2.2.2.2.2.1,v.2.2.2.2.2.2.2.2.2.2.2.2,r1.1,r1.2.1,r1.2.2.1,r1.2.2.2.1)))
theorem q3jl C v:q3o5 (regO (qea f6) 13) false [(3,(.box [.val Riii])),(4,.any),(10,(.box [.any,.own Riii])),(11,.any),(12,(.box [.any,.own Riii])),(13,.any),(14,(.box [.any,.own Riii])),(15,.any),(16,(.box [.any,.own Riii])),(17,(.box [.any,.own Riii])),(18,.any)] q3jf q3jk q3jj C v:=rgI (by kernel_rfl)
abbrev q3jm:Type:=Int×Int×Int×Int×Int×Int×List Diii×Int×List Diii×Int×List Diii×Int×List Diii×Int×List Diii×Int×List Diii
def q3jn (v:q3jm):St:=⟨[(10,.ptr 0 0),(11,i6 v.1),(12,.ptr 2 0),(13,i6 v.2.1),(14,.ptr 4 0),(15,i6 v.2.2.1),(16,.ptr 6 0),(17,.ptr 8 0),(18,i6 v.2.2.2.1),(19,.ptr 10 0),(20,i6 v.2.2.2.2.1)],[.cells [i6 v.2.2.2.2.2.1,.rs 1],.rows Riii v.2.2.2.2.2.2.1,.cells [i6 v.2.2.2.2.2.2.2.1,.rs 3],.rows Riii v.2.2.2.2.2.2.2.2.1,.cells [i6 v.2.2.2.2.2.2.2.2.2.1,.rs 5],.rows Riii v.2.2.2.2.2.2.2.2.2.2.1,.cells [i6 v.2.2.2.2.2.2.2.2.2.2.2.1,.rs 7],.rows Riii v.2.2.2.2.2.2.2.2.2.2.2.2.1,.cells [i6 v.2.2.2.2.2.2.2.2.2.2.2.2.2.1,.rs 9],.rows Riii v.2.2.2.2.2.2.2.2.2.2.2.2.2.2.1,.cells [i6 v.2.2.2.2.2.2.2.2.2.2.2.2.2.2.2.1,.rs 11],.rows Riii v.2.2.2.2.2.2.2.2.2.2.2.2.2.2.2.2]⟩
def q3jo (C:q3i2) (v:q3ji):Dt q3jm:=(Dt.bnd (C.2.2.2.1 ((v.2.2.2.2.2.2.2.2.2.1,v.2.2.2.2.2.2.2.2.2.2.1,()),(v.2.2.2.2.2.2.2.2.2.2.2.1,v.2.2.2.2.2.2.2.2.2.2.2.2.1,()),(v.2.2.2.2.1,()),(v.2.2.2.2.2.1,v.2.2.2.2.2.2.1,()),())) fun r1=>(Dt.ret (v.1,v.2.1,v.2.2.1,v.2.2.2.1,r1.2.2,v.2.2.2.2.2.2.2.1,v.2.2.2.2.2.2.2.2.1,v.2.2.2.2.2.2.2.2.2.1,v.2.2.2.2.2.2.2.2.2.2.1,v.2.2.2.2.2.2.2.2.2.2.2.1,v.2.2.2.2.2.2.2.2.2.2.2.2.1,v.2.2.2.2.2.2.2.2.2.2.2.2.2.1,v.2.2.2.2.2.2.2.2.2.2.2.2.2.2.1,v.2.2.2.2.2.2.2.2.2.2.2.2.2.2.2.1,v.2.2.2.2.2.2.2.2.2.2.2.2.2.2.2.2,r1.1,r1.2.1)))
theorem q3jp C v:q3o5 (regO (qea f6) 14) false [(10,(.box [.any,.own Riii])),(11,.any),(12,(.box [.any,.own Riii])),(13,.any),(14,(.box [.any,.own Riii])),(15,.any),(16,(.box [.any,.own Riii])),(17,(.box [.any,.own Riii])),(18,.any),(19,(.box [.any,.own Riii])),(20,.any)] q3jj q3jo q3jn C v:=rgI (by kernel_rfl)
def q3jq (C:q3i2) (v:q3jm):Dt q3if:=(Dt.ite (v.1 == (0:Int)) (Dt.ite (v.2.1 == (0:Int)) (Dt.ite (v.2.2.1 == (0:Int)) (Dt.ite (v.2.2.2.1 == (0:Int)) (Dt.ite (v.2.2.2.2.1 == (0:Int)) (Dt.bnd (C.2.1 ((v.2.2.2.2.2.2.2.2.2.2.2.1,v.2.2.2.2.2.2.2.2.2.2.2.2.1,()),(v.2.2.2.2.2.2.2.1,v.2.2.2.2.2.2.2.2.1,()),())) fun r1=>(Dt.ite r1 (Dt.bnd (C.2.1 ((v.2.2.2.2.2.2.2.2.2.2.2.2.2.1,v.2.2.2.2.2.2.2.2.2.2.2.2.2.2.1,()),(v.2.2.2.2.2.2.2.2.2.1,v.2.2.2.2.2.2.2.2.2.2.1,()),())) fun r2=>(Dt.ite r2 (Dt.bnd (C.2.1 ((v.2.2.2.2.2.2.2.2.2.2.2.2.2.2.2.1,v.2.2.2.2.2.2.2.2.2.2.2.2.2.2.2.2,()),(v.2.2.2.2.2.1,v.2.2.2.2.2.2.1,()),())) fun r3=>(Dt.ite r3 (Dt.bnd (C.2.2.2.2.2.1 (())) fun r4=>(Dt.ret r4)) (Dt.ret false))) (Dt.ret false))) (Dt.ret false))) (Dt.ret false)) (Dt.ret false)) (Dt.ret false)) (Dt.ret false)) (Dt.ret false))
theorem q3jr C v:q3o5 (regO (qea f6) 15) false [(6,.any)] q3jn q3jq q3ig C v:=rgI (by kernel_rfl)
def q3js (d:Nat) (self1:(Int×Int×List Diii×Int×Int×List Diii×List Diii)→Option q3hz) (x1:Int×Int×List Diii×Int×Int×List Diii×List Diii):Option q3hz :=
 (q3it (q3i3 d) x1).eval fun y5 =>
 bif y5.2.2.1 then ((q3ix (q3i3 d) y5).eval fun y7 =>
 bif y7.2.2.1 then ((q3iz (q3i3 d) y7).eval fun y8 =>
 q3j3 d self1 y8) else ((q3j4 (q3i3 d) y7).eval fun y9 =>
 q3j3 d self1 y9)) else ((q3j8 (q3i3 d) y5).eval fun y10 =>
 (q3jc (q3i3 d) y10).eval fun y11 =>
 (q3jg (q3i3 d) y11).eval fun y12 =>
 (q3jk (q3i3 d) y12).eval fun y13 =>
 (q3jo (q3i3 d) y13).eval fun y14 =>
 (q3jq (q3i3 d) y14).eval fun y15 =>
 some y15)
def q3jt (d:Nat) (x:q3hy):Option q3hz :=
 (q3i9 (q3i3 d) (x.1.1,x.2.1.1,x.2.1.2.1,x.2.2.1.1)).eval fun y0 =>
 (q3id (q3i3 d) y0).eval fun y1 =>
 bif y1.2.1 then ((q3ih (q3i3 d) y1).eval fun y2 =>
 some y2) else ((q3il (q3i3 d) y1).eval fun y3 =>
 (q3ip (q3i3 d) y3).eval fun y4 =>
 iter (q3js d ) d y4)
theorem q3ju (d:Nat):COK prog (q3i1 (q3jt d)):=by
 have hm:prog.follows .mixedOrders=true:=mixed
 have hT:=tys
 have hC0:OrcOK prog (orc (q3i4 (q3i3 d))):=qe4 (by
  intro S hS
  simp only [q3i4,List.mem_cons,List.not_mem_nil,or_false] at hS
  rcases hS with rfl | rfl | rfl | rfl | rfl | rfl
  · exact q15i d
  · exact q1cf d
  · exact q2kf d
  · exact q2qx d
  · exact q3de d
  · exact q2wu d)
 have hC:OrcOK prog (orc (q3i4 (q3i3 d))):=hC0
 refine q9t (c:=qea f6) (fn:=f6) hT (by kernel_rfl) (by kernel_rfl) (by decide) fun x r h w0 φ0 Q hend=>?_
 replace h:q3jt d x=some r:=h
 unfold q3jt at h
 show Run prog w0 φ0 130 (qea f6) ⟨[(0,.agg [.fz Riii x.1.1]),(1,.agg [.int .i64 x.2.1.1,.int .i64 x.2.1.2.1]),(2,.int .i64 x.2.2.1.1)],[]⟩ Q
 refine q344 hm hT hC (q3ia (q3i3 d) (x.1.1,x.2.1.1,x.2.1.2.1,x.2.2.1.1)) h fun y0 h=>?_
 refine q9d ?_
 refine q344 hm hT hC (q3ie (q3i3 d) y0) h fun y1 h=>?_
 refine q9h (v:=y1.2.1) (by kernel_rfl) h ?_ ?_
 ·
  intro h
  refine q344 hm hT hC (q3ii (q3i3 d) y1) h fun y2 h=>?_
  refine q9c (q91 ?_)
  cases h
  exact (hend _ (by kernel_rfl)).2
 ·
  intro h
  refine q99 (q8z ?_)
  refine q344 hm hT hC (q3im (q3i3 d) y1) h fun y3 h=>?_
  refine q9d ?_
  refine q344 hm hT hC (q3iq (q3i3 d) y3) h fun y4 h=>?_
  refine q9e ?_
  refine q9j (G:=iter (q3js d )) (S:=(fun x1=>⟨[(2,i6 x1.1),(3,.ptr 0 0),(4,.ptr 1 0),(7,.ptr 2 0),(8,.ptr 4 0),(9,i6 x1.2.1)],[.cells [.fz Riii x1.2.2.1],.cells [i6 x1.2.2.2.1,i6 x1.2.2.2.2.1],.cells [.rs 3],.rows Riii x1.2.2.2.2.2.1,.cells [.rs 5],.rows Riii x1.2.2.2.2.2.2]⟩:Int×Int×List Diii×Int×Int×List Diii×List Diii→St)) (fun _=>rfl) ?_ d _ h
  intro n1 x1 h K1 hn1
  replace h:q3js d  (iter (q3js d ) n1) x1=some r:=h
  generalize iter (q3js d ) n1=self1 at h hn1
  unfold q3js at h
  refine q9d ?_
  refine q344 hm hT hC (q3iu (q3i3 d) x1) h fun y5 h=>?_
  refine q9h (v:=y5.2.2.1) (by kernel_rfl) h ?_ ?_
  ·
   intro h
   refine q99 (q8z ?_)
   refine q9g (r:=r) (F:=q3j3 d self1) (S:=(fun z=>⟨[(2,i6 z.1),(3,.ptr 0 0),(4,.ptr 1 0),(7,.ptr 2 0),(8,.ptr 4 0),(9,i6 z.2.1)],[.cells [.fz Riii z.2.2.1],.cells [i6 z.2.2.2.1,i6 z.2.2.2.2.1],.cells [.rs 3],.rows Riii z.2.2.2.2.2.1,.cells [.rs 5],.rows Riii z.2.2.2.2.2.2]⟩:Int×Int×List Diii×Int×Int×List Diii×List Diii→St)) ?_ ?_
   ·
    intro z h
    unfold q3j3 at h
    refine q9i hm hT hC (q3j2 (q3i3 d) z) h ?_
    intro y6 h
    exact hn1 _ h
   intro hj2
   refine q9e ?_
   refine q344 hm hT hC (q3iy (q3i3 d) y5) h fun y7 h=>?_
   refine q9h (v:=y7.2.2.1) (by kernel_rfl) h ?_ ?_
   ·
    intro h
    refine q9i hm hT hC (q3j0 (q3i3 d) y7) h ?_
    intro y8 h
    refine q92 ?_
    exact hj2 _ h
   ·
    intro h
    refine q9i hm hT hC (q3j5 (q3i3 d) y7) h ?_
    intro y9 h
    refine q92 ?_
    exact hj2 _ h
  ·
   intro h
   refine q9b (q90 (q90 (q94 (q8z ?_))))
   refine q344 hm hT hC (q3j9 (q3i3 d) y5) h fun y10 h=>?_
   refine q344 hm hT hC (q3jd (q3i3 d) y10) h fun y11 h=>?_
   refine q344 hm hT hC (q3jh (q3i3 d) y11) h fun y12 h=>?_
   refine q344 hm hT hC (q3jl (q3i3 d) y12) h fun y13 h=>?_
   refine q344 hm hT hC (q3jp (q3i3 d) y13) h fun y14 h=>?_
   refine q344 hm hT hC (q3jr (q3i3 d) y14) h fun y15 h=>?_
   refine q9c ?_
   cases h
   exact (hend _ (by kernel_rfl)).2
end Go.Proofs.Ytoakhncbmpdacaa

namespace Go.Proofs.Ytoakhncbmpdacaa
open Go Go.Tx Go.Pel
theorem Gr.links {P:List N3} {n d:Int} {N:List N3} {i:Int} {a b:Nat} (h:Gr P n d N i a b):-1≤i∧i<b∧(i<0↔b≤a)∧∀ k,a≤k→k<b→-1≤lfN N k∧lfN N k<b∧-1≤rtN N k∧rtN N k<b:=by
  induction h with
  | leaf a b h=>exact ⟨by omega,by omega,by omega,fun k h1 h2=>by omega⟩
  | node k a b x h1 h2 h3 h4 _ _ ih1 ih2 =>
    obtain ⟨a1,a2,a3,a4⟩:=ih1
    obtain ⟨b1,b2,b3,b4⟩:=ih2
    refine ⟨by omega,by omega,by omega,fun m m1 m2=>?_⟩
    obtain ⟨_,e2,e3⟩:=q37y h3
    rcases Nat.lt_trichotomy m k with h5 | h5 | h5
    · have:=a4 m m1 h5;omega
    · subst h5;rw [e2,e3];omega
    · have:=b4 m (by omega) m2;omega
theorem q3nf {P:List N3} (hP:FOk P) {n d:Int} {N:List N3} {r:Int} (hg:Gr P n d N r 0 P.length) (hN:N.length=P.length) (hid:∀ j,j<P.length→idN N j=(ptA P j).1):VT r N (List.range P.length):=by
  have hlen:=hP.len
  obtain ⟨g1,g2,g3,g4⟩:=hg.links
  refine ⟨by omega,?_,?_,?_,List.nodup_range,by rw [List.length_range,hN],?_⟩
  · simp only [not_or]
    refine ⟨by omega,by omega,?_⟩
    simp only [ne_eq,Decidable.not_not,eq_iff_iff]
    omega
  · rw [List.all_eq_true]
    intro x hx
    obtain ⟨j,hj,rfl⟩:=List.mem_iff_getElem.1 hx
    have hx2:N[j]?=some N[j]:=List.getElem?_eq_getElem hj
    obtain ⟨e1,e2,e3⟩:=q37y hx2
    have h5:=g4 j (Nat.zero_le _) (by omega)
    have h6:=hid j (by omega)
    have h7:=hP.ok _ (q371 (show j<P.length by omega))
    have h8:=qey (i:=(ptA P j).1) (a:=(ptA P j).2.1) (b:=(ptA P j).2.2.1) h7
    rw [q36q]
    rw [e2,e3] at h5
    rw [e1] at h6
    omega
  · have := hg.tr
    rw [Nat.sub_zero,← List.range_eq_range'] at this
    exact this
  · refine q37x ?_
    unfold incL
    rw [List.pairwise_iff_getElem]
    intro i j hi hj hij
    rw [List.length_range] at hi hj
    rw [List.getElem_range,List.getElem_range,hid i hi,hid j hj]
    exact hP.inc i j hij hj
theorem q3nh (d:Nat) (r:Int) (N:List N3) (hn:N.length<1000):∀ (f i:Nat),N.length - i<f→i≤N.length→iter (q1cd d) f ((i:Int),r,N,r,N)=some true
  | 0,i,h,_=>by omega
  | f + 1, i, hf, hi => by
    have ih:=q3nh d r N hn f (i+1)
    rw [iter]
    revert ih
    generalize iter (q1cd d) f=self
    intro ih
    unfold q1cd
    by_cases hl:i<N.length
    · have hw := q36l (show i < 1000000 by omega)
      simp only [q1c1,q1c9,q1c5,Dt.eval,decK hl,cond_true,inbK hl,beq_self_eq_true,Bool.and_self,Bool.not_true,cond_false,hw]
      exact ih (by omega) (by omega)
    · simp only [q1c1,q1cb,Dt.eval,decN hl,cond_false]
theorem q3ni (d:Nat) (hd:5000≤d) (r:Int) (N:List N3) (hn:N.length<1000):q1ce d ((r,N,()),(r,N,()),())=some true:=by
  have e:=q3nh d r N hn d 0 (by omega) (Nat.zero_le _)
  have e':iter (q1cd d) d (0,r,N,r,N)=_:=e
  simp only [q1ce,q1bl,q1bp,q1bx,Dt.eval,bne_self_eq_false,cond_false]
  exact e'
theorem q3nl {m:Nat} (h:great m=false):m≤70:=by
  unfold great at h
  rw [Bool.or_eq_false_iff] at h
  have:=of_decide_eq_false h.2
  omega
end Go.Proofs.Ytoakhncbmpdacaa

namespace Go.Proofs.Ytoakhncbmpdacaa
open Go.ChangeShapes Go.WideShapes Go.ChangeAt Go.RowKit Go.Pel Go.Deep
theorem q3no {a:Int} (h:-9223372036854775808≤a∧a≤9223372036854775807):Go.Tx.i64B a=true:=by
  unfold Go.Tx.i64B;rw [decide_eq_true h.1,decide_eq_true h.2];rfl
section
variable {H:Type} {enc:TypeId×Value→H} {w:World} {base:Nat} {spare:Nat→Bool} {held:Bool}
end
end Go.Proofs.Ytoakhncbmpdacaa
