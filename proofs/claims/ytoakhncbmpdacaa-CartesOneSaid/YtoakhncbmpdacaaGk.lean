/- Walks of the references; the orders agree; examples. -/
import Derived.Test.YtoakhncbmpdacaaGj
set_option linter.unusedSimpArgs false
set_option linter.unusedVariables false
namespace Go.Proofs.Ytoakhncbmpdacaa
open Go Go.Tx Go.Proofs.Try
set_option maxRecDepth 100000
set_option maxHeartbeats 0
abbrev q3cv:List Pk:=[.row qks true,.row Rii true]
abbrev q3cw:Type:=qkt×Dii×Unit
abbrev q3cx:Type:=Bool
def q3cy (r:q3cx):LV×List Ob:=(.bool r,[])
def q3cz (F:q3cw→Option q3cx):Go.Tx.Spec:=⟨32,q3cv,q3cx,F,q3cy⟩
abbrev q3d0:Type:=(qq2→Option qq3)×(quk→Option qul)×Unit
def q3d1 (d:Nat):q3d0:=(qq7 d,quq d,())
def q3d2 (C:q3d0):List Go.Tx.Spec:=[qq5 C.1,qun C.2.1]
abbrev q3d3:Type:=List Diii×Int×Int
def q3d4 (v:q3d3):St:=⟨[(0,.agg [.fz Riii v.1]),(1,.agg [i6 v.2.1,i6 v.2.2])],[]⟩
abbrev q3d5:Type:=List Diii×Int×Int
def q3d6 (v:q3d5):St:=⟨[(2,.ptr 0 0),(3,.ptr 1 0)],[.cells [.fz Riii v.1],.cells [i6 v.2.1,i6 v.2.2]]⟩
def q3d7 (C:q3d0) (v:q3d3):Dt q3d5:=(Dt.ret (v.1,v.2.1,v.2.2))
abbrev q3o1 {V Y:Type}:=@rg q3d0 V Y tysT (fun C=>(orc (q3d2 C))) 14
theorem q3d8 C v:q3o1 (regO (qea f32) 0) false [(2,(.box [.val Riii])),(3,.any)] q3d4 q3d7 q3d6 C v:=rgI (by kernel_rfl)
abbrev q3d9:Type:=Bool
def q3da (v:q3d9):St:=⟨[(4,.bool v)],[]⟩
def q3db (C:q3d0) (v:q3d5):Dt q3d9:=(Dt.bnd (C.1 ((v.1,()),())) fun r1=>(Dt.ite (!r1) (Dt.bnd (C.2.1 ((v.1,()),(v.2.1,v.2.2,()),())) fun r2=>(Dt.ret (r2 == (0:Int)))) (Dt.ret false)))
theorem q3dc C v:q3o1 (regO (qea f32) 1) false [(4,.any)] q3d6 q3db q3da C v:=rgI (by kernel_rfl)
def q3dd (d:Nat) (x:q3cw):Option q3cx :=
 (q3d7 (q3d1 d) (x.1.1,x.2.1.1,x.2.1.2.1)).eval fun y0 =>
 (q3db (q3d1 d) y0).eval fun y1 =>
 some y1
theorem q3de (d:Nat):COK prog (q3cz (q3dd d)):=by
 have hm:prog.follows .mixedOrders=true:=mixed
 have hT:=tys
 have hC0:OrcOK prog (orc (q3d2 (q3d1 d))):=qe4 (by
  intro S hS
  simp only [q3d2,List.mem_cons,List.not_mem_nil,or_false] at hS
  rcases hS with rfl | rfl
  · exact qq9 d
  · exact qus d)
 have hC:OrcOK prog (orc (q3d2 (q3d1 d))):=hC0
 refine q9t (c:=qea f32) (fn:=f32) hT (by kernel_rfl) (by kernel_rfl) (by decide) fun x r h w0 φ0 Q hend=>?_
 replace h:q3dd d x=some r:=h
 unfold q3dd at h
 show Run prog w0 φ0 14 (qea f32) ⟨[(0,.agg [.fz Riii x.1.1]),(1,.agg [.int .i64 x.2.1.1,.int .i64 x.2.1.2.1])],[]⟩ Q
 refine q344 hm hT hC (q3d8 (q3d1 d) (x.1.1,x.2.1.1,x.2.1.2.1)) h fun y0 h=>?_
 refine q344 hm hT hC (q3dc (q3d1 d) y0) h fun y1 h=>?_
 refine q9c ?_
 cases h
 exact (hend _ (by kernel_rfl)).2
abbrev q3df:List Pk:=[.row qkv true,.row qks true]
abbrev q3dg:Type:=qkw×qkt×Unit
abbrev q3dh:Type:=Bool
def q3di (r:q3dh):LV×List Ob:=(.bool r,[])
def q3dj (F:q3dg→Option q3dh):Go.Tx.Spec:=⟨35,q3df,q3dh,F,q3di⟩
abbrev q3dk:Type:=(q1oz→Option q1p0)×Unit
def q3dl (d:Nat):q3dk:=(q1q1 d,())
def q3dm (C:q3dk):List Go.Tx.Spec:=[q1p2 C.1]
abbrev q3dn:Type:=Int×List Diii×List Diii
def q3do (v:q3dn):St:=⟨[(0,.agg [i6 v.1,.fz Riii v.2.1]),(1,.agg [.fz Riii v.2.2])],[]⟩
abbrev q3dp:Type:=Int×List Diii×List Diii
def q3dq (v:q3dp):St:=⟨[(2,.ptr 0 0),(3,.ptr 1 0)],[.cells [i6 v.1,.fz Riii v.2.1],.cells [.fz Riii v.2.2]]⟩
def q3dr (C:q3dk) (v:q3dn):Dt q3dp:=(Dt.ret (v.1,v.2.1,v.2.2))
abbrev q3o2 {V Y:Type}:=@rg q3dk V Y tysT (fun C=>(orc (q3dm C))) 32
theorem q3ds C v:q3o2 (regO (qea f35) 0) false [(2,(.box [.any,.val Riii])),(3,(.box [.val Riii]))] q3do q3dr q3dq C v:=rgI (by kernel_rfl)
abbrev q3dt:Type:=List Diii×List Di
def q3du (v:q3dt):St:=⟨[(3,.ptr 0 0),(5,.rs 1)],[.cells [.fz Riii v.1],.rows Ri v.2]⟩
def q3dv (C:q3dk) (v:q3dp):Dt q3dt:=(Dt.bnd (C.1 ((v.1,v.2.1,()),())) fun r1=>(Dt.ret (v.2.2,r1)))
theorem q3dw C v:q3o2 (regO (qea f35) 1) false [(3,(.box [.val Riii])),(5,(.own Ri))] q3dq q3dv q3du C v:=rgI (by kernel_rfl)
abbrev q3dx:Type:=Bool×List Diii×List Di
def q3dy (v:q3dx):St:=⟨[(3,.ptr 0 0),(5,.rs 1),(14,.bool v.1)],[.cells [.fz Riii v.2.1],.rows Ri v.2.2]⟩
def q3dz (C:q3dk) (v:q3dt):Dt q3dx:=(Dt.ret (((List.length v.2:Int) != (List.length v.1:Int)),v.1,v.2))
theorem q3e0 C v:q3o2 (regO (qea f35) 2) false [(3,(.box [.val Riii])),(5,(.own Ri)),(14,.any)] q3du q3dz q3dy C v:=rgI (by kernel_rfl)
abbrev q3e1:Type:=Bool
def q3e2 (v:q3e1):St:=⟨[(4,.bool v)],[]⟩
def q3e3 (C:q3dk) (v:q3dx):Dt q3e1:=(Dt.ret false)
theorem q3e4 C v:q3o2 (regO (qea f35) 3) false [(4,.any)] q3dy q3e3 q3e2 C v:=rgI (by kernel_rfl)
abbrev q3e5:Type:=Int×List Diii×List Di
def q3e6 (v:q3e5):St:=⟨[(3,.ptr 0 0),(5,.rs 1),(6,i6 v.1)],[.cells [.fz Riii v.2.1],.rows Ri v.2.2]⟩
def q3e7 (C:q3dk) (v:q3dx):Dt q3e5:=(Dt.ret ((0:Int),v.2.1,v.2.2))
theorem q3e8 C v:q3o2 (regO (qea f35) 4) false [(3,(.box [.val Riii])),(5,(.own Ri)),(6,.any)] q3dy q3e7 q3e6 C v:=rgI (by kernel_rfl)
abbrev q3e9:Type:=Int×Bool×List Diii×List Di
def q3ea (v:q3e9):St:=⟨[(3,.ptr 0 0),(5,.rs 1),(6,i6 v.1),(18,.bool v.2.1)],[.cells [.fz Riii v.2.2.1],.rows Ri v.2.2.2]⟩
def q3eb (C:q3dk) (v:q3e5):Dt q3e9:=(Dt.ret (v.1,(decide (v.1<(List.length v.2.2:Int))),v.2.1,v.2.2))
theorem q3ec C v:q3o2 (regO (qea f35) 5) false [(3,(.box [.val Riii])),(5,(.own Ri)),(6,.any),(18,.any)] q3e6 q3eb q3ea C v:=rgI (by kernel_rfl)
abbrev q3ed:Type:=Int×Bool×List Diii×List Di
def q3ee (v:q3ed):St:=⟨[(3,.ptr 0 0),(5,.rs 1),(6,i6 v.1),(31,.bool v.2.1)],[.cells [.fz Riii v.2.2.1],.rows Ri v.2.2.2]⟩
def q3ef (C:q3dk) (v:q3e9):Dt q3ed:=(Dt.ite (inB v.1 (List.length v.2.2.2)) (Dt.ite (inB v.1 (List.length v.2.2.1)) (Dt.ret (v.1,((elt zi v.2.2.2 (v.1).toNat).1 != (elt ziii v.2.2.1 (v.1).toNat).1),v.2.2.1,v.2.2.2)) Dt.fail) Dt.fail)
theorem q3eg C v:q3o2 (regO (qea f35) 7) true [(3,(.box [.val Riii])),(5,(.own Ri)),(6,.any),(31,.any)] q3ea q3ef q3ee C v:=rgI (by kernel_rfl)
def q3eh (C:q3dk) (v:q3ed):Dt q3e1:=(Dt.ret false)
theorem q3ei C v:q3o2 (regO (qea f35) 8) false [(4,.any)] q3ee q3eh q3e2 C v:=rgI (by kernel_rfl)
def q3ej (C:q3dk) (v:q3ed):Dt q3e5:=(Dt.ret ((IntKind.wrap .i64 (v.1+(1:Int))),v.2.2.1,v.2.2.2))
theorem q3ek C v:q3o2 (regO (qea f35) 6) false [(3,(.box [.val Riii])),(5,(.own Ri)),(6,.any)] q3ee q3ej q3e6 C v:=rgI (by kernel_rfl)
def q3el (C:q3dk) (v:q3e9):Dt q3e1:=(Dt.ret true)
theorem q3em C v:q3o2 (regO (qea f35) 9) false [(4,.any)] q3ea q3el q3e2 C v:=rgI (by kernel_rfl)
def q3en (d:Nat) (self1:(Int×List Diii×List Di)→Option q3dh) (x1:Int×List Diii×List Di):Option q3dh :=
 (q3eb (q3dl d) x1).eval fun y5 =>
 bif y5.2.1 then ((q3ef (q3dl d) y5).eval fun y7 =>
 bif y7.2.1 then ((q3eh (q3dl d) y7).eval fun y8 =>
 some y8) else ((q3ej (q3dl d) y7).eval fun y6 =>
 self1 y6)) else ((q3el (q3dl d) y5).eval fun y9 =>
 some y9)
def q3eo (d:Nat) (x:q3dg):Option q3dh :=
 (q3dr (q3dl d) (x.1.1,x.1.2.1,x.2.1.1)).eval fun y0 =>
 (q3dv (q3dl d) y0).eval fun y1 =>
 (q3dz (q3dl d) y1).eval fun y2 =>
 bif y2.1 then ((q3e3 (q3dl d) y2).eval fun y3 =>
 some y3) else ((q3e7 (q3dl d) y2).eval fun y4 =>
 iter (q3en d ) d y4)
theorem q3ep (d:Nat):COK prog (q3dj (q3eo d)):=by
 have hm:prog.follows .mixedOrders=true:=mixed
 have hT:=tys
 have hC0:OrcOK prog (orc (q3dm (q3dl d))):=qe4 (by
  intro S hS
  simp only [q3dm,List.mem_cons,List.not_mem_nil,or_false] at hS
  subst hS;exact q1q2 d)
 have hC:OrcOK prog (orc (q3dm (q3dl d))):=hC0
 refine q9t (c:=qea f35) (fn:=f35) hT (by kernel_rfl) (by kernel_rfl) (by decide) fun x r h w0 φ0 Q hend=>?_
 replace h:q3eo d x=some r:=h
 unfold q3eo at h
 show Run prog w0 φ0 32 (qea f35) ⟨[(0,.agg [.int .i64 x.1.1,.fz Riii x.1.2.1]),(1,.agg [.fz Riii x.2.1.1])],[]⟩ Q
 refine q344 hm hT hC (q3ds (q3dl d) (x.1.1,x.1.2.1,x.2.1.1)) h fun y0 h=>?_
 refine q344 hm hT hC (q3dw (q3dl d) y0) h fun y1 h=>?_
 refine q9d ?_
 refine q344 hm hT hC (q3e0 (q3dl d) y1) h fun y2 h=>?_
 refine q9h (v:=y2.1) (by kernel_rfl) h ?_ ?_
 ·
  intro h
  refine q344 hm hT hC (q3e4 (q3dl d) y2) h fun y3 h=>?_
  refine q9c (q91 ?_)
  cases h
  exact (hend _ (by kernel_rfl)).2
 ·
  intro h
  refine q99 (q8z (q9d ?_))
  refine q344 hm hT hC (q3e8 (q3dl d) y2) h fun y4 h=>?_
  refine q9e ?_
  refine q9j (G:=iter (q3en d )) (S:=(fun x1=>⟨[(3,.ptr 0 0),(5,.rs 1),(6,i6 x1.1)],[.cells [.fz Riii x1.2.1],.rows Ri x1.2.2]⟩:Int×List Diii×List Di→St)) (fun _=>rfl) ?_ d _ h
  intro n1 x1 h K1 hn1
  replace h:q3en d  (iter (q3en d ) n1) x1=some r:=h
  generalize iter (q3en d ) n1=self1 at h hn1
  unfold q3en at h
  refine q9d ?_
  refine q344 hm hT hC (q3ec (q3dl d) x1) h fun y5 h=>?_
  refine q9h (v:=y5.2.1) (by kernel_rfl) h ?_ ?_
  ·
   intro h
   refine q99 (q8z (q9d (q9e ?_)))
   refine q344 hm hT hC (q3eg (q3dl d) y5) h fun y7 h=>?_
   refine q9h (v:=y7.2.1) (by kernel_rfl) h ?_ ?_
   ·
    intro h
    refine q344 hm hT hC (q3ei (q3dl d) y7) h fun y8 h=>?_
    refine q9c (q93 (q91 (q91 (q93 (q91 ?_)))))
    cases h
    exact (hend _ (by kernel_rfl)).2
   ·
    intro h
    refine q99 (q92 (q8z ?_))
    refine q9i hm hT hC (q3ek (q3dl d) y7) h ?_
    intro y6 h
    exact hn1 _ h
  ·
   intro h
   refine q9b (q90 (q90 (q94 (q8z ?_))))
   refine q344 hm hT hC (q3em (q3dl d) y5) h fun y9 h=>?_
   refine q9c ?_
   cases h
   exact (hend _ (by kernel_rfl)).2
abbrev q3eq:List Pk:=[.row qkv true,.row qks true,.row Rii true]
abbrev q3er:Type:=qkw×qkt×Dii×Unit
abbrev q3es:Type:=Bool
def q3et (r:q3es):LV×List Ob:=(.bool r,[])
def q3eu (F:q3er→Option q3es):Go.Tx.Spec:=⟨36,q3eq,q3es,F,q3et⟩
abbrev q3ev:Type:=(qqt→Option qqu)×(qpt→Option qpu)×Unit
def q3ew (d:Nat):q3ev:=(qqy d,qpy d,())
def q3ex (C:q3ev):List Go.Tx.Spec:=[qqw C.1,qpw C.2.1]
abbrev q3ey:Type:=Int×List Diii×List Diii×Int×Int
def q3ez (v:q3ey):St:=⟨[(0,.agg [i6 v.1,.fz Riii v.2.1]),(1,.agg [.fz Riii v.2.2.1]),(2,.agg [i6 v.2.2.2.1,i6 v.2.2.2.2])],[]⟩
abbrev q3f0:Type:=Int×List Diii×List Diii×Int×Int
def q3f1 (v:q3f0):St:=⟨[(3,.ptr 0 0),(4,.ptr 1 0),(5,.ptr 2 0)],[.cells [i6 v.1,.fz Riii v.2.1],.cells [.fz Riii v.2.2.1],.cells [i6 v.2.2.2.1,i6 v.2.2.2.2]]⟩
def q3f2 (C:q3ev) (v:q3ey):Dt q3f0:=(Dt.ret (v.1,v.2.1,v.2.2.1,v.2.2.2.1,v.2.2.2.2))
abbrev q3o3 {V Y:Type}:=@rg q3ev V Y tysT (fun C=>(orc (q3ex C))) 81
theorem q3f3 C v:q3o3 (regO (qea f36) 0) false [(3,(.box [.any,.val Riii])),(4,(.box [.val Riii])),(5,.any)] q3ez q3f2 q3f1 C v:=rgI (by kernel_rfl)
abbrev q3f4:Type:=Int×Int×List Diii×List Diii×Int×Int
def q3f5 (v:q3f4):St:=⟨[(3,.ptr 0 0),(4,.ptr 1 0),(5,.ptr 2 0),(7,i6 v.1)],[.cells [i6 v.2.1,.fz Riii v.2.2.1],.cells [.fz Riii v.2.2.2.1],.cells [i6 v.2.2.2.2.1,i6 v.2.2.2.2.2]]⟩
def q3f6 (C:q3ev) (v:q3f0):Dt q3f4:=(Dt.ret ((0:Int),v.1,v.2.1,v.2.2.1,v.2.2.2.1,v.2.2.2.2))
theorem q3f7 C v:q3o3 (regO (qea f36) 1) false [(3,(.box [.any,.val Riii])),(4,(.box [.val Riii])),(5,.any),(7,.any)] q3f1 q3f6 q3f5 C v:=rgI (by kernel_rfl)
abbrev q3f8:Type:=Int×Bool×Int×List Diii×List Diii×Int×Int
def q3f9 (v:q3f8):St:=⟨[(3,.ptr 0 0),(4,.ptr 1 0),(5,.ptr 2 0),(7,i6 v.1),(17,.bool v.2.1)],[.cells [i6 v.2.2.1,.fz Riii v.2.2.2.1],.cells [.fz Riii v.2.2.2.2.1],.cells [i6 v.2.2.2.2.2.1,i6 v.2.2.2.2.2.2]]⟩
def q3fa (C:q3ev) (v:q3f4):Dt q3f8:=(Dt.ret (v.1,(decide (v.1<(List.length v.2.2.1:Int))),v.2.1,v.2.2.1,v.2.2.2.1,v.2.2.2.2.1,v.2.2.2.2.2))
theorem q3fb C v:q3o3 (regO (qea f36) 2) false [(3,(.box [.any,.val Riii])),(4,(.box [.val Riii])),(5,.any),(7,.any),(17,.any)] q3f5 q3fa q3f9 C v:=rgI (by kernel_rfl)
abbrev q3fc:Type:=Int×Int×List Diii×List Diii×Int×Int×Int×Int×Int
def q3fd (v:q3fc):St:=⟨[(3,.ptr 0 0),(4,.ptr 1 0),(5,.ptr 2 0),(7,i6 v.1),(8,.ptr 3 0)],[.cells [i6 v.2.1,.fz Riii v.2.2.1],.cells [.fz Riii v.2.2.2.1],.cells [i6 v.2.2.2.2.1,i6 v.2.2.2.2.2.1],.cells [i6 v.2.2.2.2.2.2.1,i6 v.2.2.2.2.2.2.2.1,i6 v.2.2.2.2.2.2.2.2]]⟩
def q3fe (C:q3ev) (v:q3f8):Dt q3fc:=(Dt.ite (inB v.1 (List.length v.2.2.2.1)) (Dt.bnd (C.1 ((v.2.2.2.2.1,()),((elt ziii v.2.2.2.1 (v.1).toNat).1,()),())) fun r1=>(Dt.ite (inB r1 (List.length v.2.2.2.2.1)) (Dt.ret (v.1,v.2.2.1,v.2.2.2.1,v.2.2.2.2.1,v.2.2.2.2.2.1,v.2.2.2.2.2.2,(elt ziii v.2.2.2.2.1 (r1).toNat).1,(elt ziii v.2.2.2.2.1 (r1).toNat).2.1,(elt ziii v.2.2.2.2.1 (r1).toNat).2.2.1)) Dt.fail)) Dt.fail)
theorem q3ff C v:q3o3 (regO (qea f36) 4) true [(3,(.box [.any,.val Riii])),(4,(.box [.val Riii])),(5,.any),(7,.any),(8,.any)] q3f9 q3fe q3fd C v:=rgI (by kernel_rfl)
abbrev q3fg:Type:=Int×Int×List Diii×List Diii×Int×Int×Int×Int×Int×List Di
def q3fh (v:q3fg):St:=⟨[(3,.ptr 0 0),(4,.ptr 1 0),(5,.ptr 2 0),(7,i6 v.1),(8,.ptr 3 0),(9,.rs 4)],[.cells [i6 v.2.1,.fz Riii v.2.2.1],.cells [.fz Riii v.2.2.2.1],.cells [i6 v.2.2.2.2.1,i6 v.2.2.2.2.2.1],.cells [i6 v.2.2.2.2.2.2.1,i6 v.2.2.2.2.2.2.2.1,i6 v.2.2.2.2.2.2.2.2.1],.rows Ri v.2.2.2.2.2.2.2.2.2]⟩
def q3fi (C:q3ev) (v:q3fc):Dt q3fg:=(Dt.ite (inB v.1 (List.length v.2.2.1)) (Dt.ite (inB v.1 (List.length v.2.2.1)) (Dt.ret (v.1,v.2.1,v.2.2.1,v.2.2.2.1,v.2.2.2.2.1,v.2.2.2.2.2.1,v.2.2.2.2.2.2.1,v.2.2.2.2.2.2.2.1,v.2.2.2.2.2.2.2.2,([((elt ziii v.2.2.1 (v.1).toNat).2.1,()),((elt ziii v.2.2.1 (v.1).toNat).2.2.1,())]:List Di))) Dt.fail) Dt.fail)
theorem q3fj C v:q3o3 (regO (qea f36) 5) true [(3,(.box [.any,.val Riii])),(4,(.box [.val Riii])),(5,.any),(7,.any),(8,.any),(9,(.own Ri))] q3fd q3fi q3fh C v:=rgI (by kernel_rfl)
abbrev q3fk:Type:=Int×Int×Int×List Diii×List Diii×Int×Int×Int×Int×Int×List Di
def q3fl (v:q3fk):St:=⟨[(3,.ptr 0 0),(4,.ptr 1 0),(5,.ptr 2 0),(7,i6 v.1),(8,.ptr 3 0),(9,.rs 4),(10,i6 v.2.1)],[.cells [i6 v.2.2.1,.fz Riii v.2.2.2.1],.cells [.fz Riii v.2.2.2.2.1],.cells [i6 v.2.2.2.2.2.1,i6 v.2.2.2.2.2.2.1],.cells [i6 v.2.2.2.2.2.2.2.1,i6 v.2.2.2.2.2.2.2.2.1,i6 v.2.2.2.2.2.2.2.2.2.1],.rows Ri v.2.2.2.2.2.2.2.2.2.2]⟩
def q3fm (C:q3ev) (v:q3fg):Dt q3fk:=(Dt.ret (v.1,(0:Int),v.2.1,v.2.2.1,v.2.2.2.1,v.2.2.2.2.1,v.2.2.2.2.2.1,v.2.2.2.2.2.2.1,v.2.2.2.2.2.2.2.1,v.2.2.2.2.2.2.2.2.1,v.2.2.2.2.2.2.2.2.2))
theorem q3fn C v:q3o3 (regO (qea f36) 6) false [(3,(.box [.any,.val Riii])),(4,(.box [.val Riii])),(5,.any),(7,.any),(8,.any),(9,(.own Ri)),(10,.any)] q3fh q3fm q3fl C v:=rgI (by kernel_rfl)
abbrev q3fo:Type:=Int×Int×Bool×Int×List Diii×List Diii×Int×Int×Int×Int×Int×List Di
def q3fp (v:q3fo):St:=⟨[(3,.ptr 0 0),(4,.ptr 1 0),(5,.ptr 2 0),(7,i6 v.1),(8,.ptr 3 0),(9,.rs 4),(10,i6 v.2.1),(46,.bool v.2.2.1)],[.cells [i6 v.2.2.2.1,.fz Riii v.2.2.2.2.1],.cells [.fz Riii v.2.2.2.2.2.1],.cells [i6 v.2.2.2.2.2.2.1,i6 v.2.2.2.2.2.2.2.1],.cells [i6 v.2.2.2.2.2.2.2.2.1,i6 v.2.2.2.2.2.2.2.2.2.1,i6 v.2.2.2.2.2.2.2.2.2.2.1],.rows Ri v.2.2.2.2.2.2.2.2.2.2.2]⟩
def q3fq (C:q3ev) (v:q3fk):Dt q3fo:=(Dt.ret (v.1,v.2.1,(decide (v.2.1<(2:Int))),v.2.2.1,v.2.2.2.1,v.2.2.2.2.1,v.2.2.2.2.2.1,v.2.2.2.2.2.2.1,v.2.2.2.2.2.2.2.1,v.2.2.2.2.2.2.2.2.1,v.2.2.2.2.2.2.2.2.2.1,v.2.2.2.2.2.2.2.2.2.2))
theorem q3fr C v:q3o3 (regO (qea f36) 7) false [(3,(.box [.any,.val Riii])),(4,(.box [.val Riii])),(5,.any),(7,.any),(8,.any),(9,(.own Ri)),(10,.any),(46,.any)] q3fl q3fq q3fp C v:=rgI (by kernel_rfl)
abbrev q3fs:Type:=Int×Int×Bool×Int×List Diii×List Diii×Int×Int×Int×Int×Int×List Di
def q3ft (v:q3fs):St:=⟨[(3,.ptr 0 0),(4,.ptr 1 0),(5,.ptr 2 0),(7,i6 v.1),(8,.ptr 3 0),(9,.rs 4),(10,i6 v.2.1),(53,.bool v.2.2.1)],[.cells [i6 v.2.2.2.1,.fz Riii v.2.2.2.2.1],.cells [.fz Riii v.2.2.2.2.2.1],.cells [i6 v.2.2.2.2.2.2.1,i6 v.2.2.2.2.2.2.2.1],.cells [i6 v.2.2.2.2.2.2.2.2.1,i6 v.2.2.2.2.2.2.2.2.2.1,i6 v.2.2.2.2.2.2.2.2.2.2.1],.rows Ri v.2.2.2.2.2.2.2.2.2.2.2]⟩
def q3fu (C:q3ev) (v:q3fo):Dt q3fs:=(Dt.ite (inB v.2.1 (List.length v.2.2.2.2.2.2.2.2.2.2.2)) (Dt.ret (v.1,v.2.1,(decide ((elt zi v.2.2.2.2.2.2.2.2.2.2.2 (v.2.1).toNat).1<(0:Int))),v.2.2.2.1,v.2.2.2.2.1,v.2.2.2.2.2.1,v.2.2.2.2.2.2.1,v.2.2.2.2.2.2.2.1,v.2.2.2.2.2.2.2.2.1,v.2.2.2.2.2.2.2.2.2.1,v.2.2.2.2.2.2.2.2.2.2.1,v.2.2.2.2.2.2.2.2.2.2.2)) Dt.fail)
theorem q3fv C v:q3o3 (regO (qea f36) 9) false [(3,(.box [.any,.val Riii])),(4,(.box [.val Riii])),(5,.any),(7,.any),(8,.any),(9,(.own Ri)),(10,.any),(53,.any)] q3fp q3fu q3ft C v:=rgI (by kernel_rfl)
def q3fw (C:q3ev) (v:q3fk):Dt q3fk:=(Dt.ret (v.1,(IntKind.wrap .i64 (v.2.1+(1:Int))),v.2.2.1,v.2.2.2.1,v.2.2.2.2.1,v.2.2.2.2.2.1,v.2.2.2.2.2.2.1,v.2.2.2.2.2.2.2.1,v.2.2.2.2.2.2.2.2.1,v.2.2.2.2.2.2.2.2.2.1,v.2.2.2.2.2.2.2.2.2.2))
theorem q3fx C v:q3o3 (regO (qea f36) 8) false [(3,(.box [.any,.val Riii])),(4,(.box [.val Riii])),(5,.any),(7,.any),(8,.any),(9,(.own Ri)),(10,.any)] q3fl q3fw q3fl C v:=rgI (by kernel_rfl)
def q3fy  (d:Nat) (self1:(Int×Int×List Diii×List Diii×Int×Int)→Option q3es) (self2:(Int×Int×Int×List Diii×List Diii×Int×Int×Int×Int×Int×List Di)→Option q3es) (z:Int×Int×Int×List Diii×List Diii×Int×Int×Int×Int×Int×List Di):Option (q3es) :=
 (q3fw (q3ew d) z).eval fun y8 =>
 self2 y8
abbrev q3fz:Type:=Int×Int×Bool×Int×Int×List Diii×List Diii×Int×Int×Int×Int×Int×List Di
def q3g0 (v:q3fz):St:=⟨[(3,.ptr 0 0),(4,.ptr 1 0),(5,.ptr 2 0),(7,i6 v.1),(8,.ptr 3 0),(9,.rs 4),(10,i6 v.2.1),(11,.bool v.2.2.1),(12,i6 v.2.2.2.1)],[.cells [i6 v.2.2.2.2.1,.fz Riii v.2.2.2.2.2.1],.cells [.fz Riii v.2.2.2.2.2.2.1],.cells [i6 v.2.2.2.2.2.2.2.1,i6 v.2.2.2.2.2.2.2.2.1],.cells [i6 v.2.2.2.2.2.2.2.2.2.1,i6 v.2.2.2.2.2.2.2.2.2.2.1,i6 v.2.2.2.2.2.2.2.2.2.2.2.1],.rows Ri v.2.2.2.2.2.2.2.2.2.2.2.2]⟩
def q3g1 (C:q3ev) (v:q3fs):Dt q3fz:=(Dt.ite (inB v.2.1 (List.length v.2.2.2.2.2.2.2.2.2.2.2)) (Dt.ite (inB (elt zi v.2.2.2.2.2.2.2.2.2.2.2 (v.2.1).toNat).1 (List.length v.2.2.2.2.1)) (Dt.bnd (C.1 ((v.2.2.2.2.2.1,()),((elt ziii v.2.2.2.2.1 ((elt zi v.2.2.2.2.2.2.2.2.2.2.2 (v.2.1).toNat).1).toNat).1,()),())) fun r1=>(Dt.ite (inB r1 (List.length v.2.2.2.2.2.1)) (Dt.bnd (C.2.1 ((v.2.2.2.2.2.2.2.2.1,v.2.2.2.2.2.2.2.2.2.1,v.2.2.2.2.2.2.2.2.2.2.1,()),((elt ziii v.2.2.2.2.2.1 (r1).toNat).1,(elt ziii v.2.2.2.2.2.1 (r1).toNat).2.1,(elt ziii v.2.2.2.2.2.1 (r1).toNat).2.2.1,()),(v.2.2.2.2.2.2.1,v.2.2.2.2.2.2.2.1,()),())) fun r2=>(Dt.ret (v.1,v.2.1,r2.1,r2.2,v.2.2.2.1,v.2.2.2.2.1,v.2.2.2.2.2.1,v.2.2.2.2.2.2.1,v.2.2.2.2.2.2.2.1,v.2.2.2.2.2.2.2.2.1,v.2.2.2.2.2.2.2.2.2.1,v.2.2.2.2.2.2.2.2.2.2.1,v.2.2.2.2.2.2.2.2.2.2.2))) Dt.fail)) Dt.fail) Dt.fail)
theorem q3g2 C v:q3o3 (regO (qea f36) 10) true [(3,(.box [.any,.val Riii])),(4,(.box [.val Riii])),(5,.any),(7,.any),(8,.any),(9,(.own Ri)),(10,.any),(11,.any),(12,.any)] q3ft q3g1 q3g0 C v:=rgI (by kernel_rfl)
abbrev q3g3:Type:=Int×Int×Bool×Int×List Diii×List Diii×Int×Int×Int×Int×Int×List Di
def q3g4 (v:q3g3):St:=⟨[(3,.ptr 0 0),(4,.ptr 1 0),(5,.ptr 2 0),(7,i6 v.1),(8,.ptr 3 0),(9,.rs 4),(10,i6 v.2.1),(80,.bool v.2.2.1)],[.cells [i6 v.2.2.2.1,.fz Riii v.2.2.2.2.1],.cells [.fz Riii v.2.2.2.2.2.1],.cells [i6 v.2.2.2.2.2.2.1,i6 v.2.2.2.2.2.2.2.1],.cells [i6 v.2.2.2.2.2.2.2.2.1,i6 v.2.2.2.2.2.2.2.2.2.1,i6 v.2.2.2.2.2.2.2.2.2.2.1],.rows Ri v.2.2.2.2.2.2.2.2.2.2.2]⟩
def q3g5 (C:q3ev) (v:q3fz):Dt q3g3:=(Dt.ite (v.2.2.2.1 != (0:Int)) (Dt.ret (v.1,v.2.1,true,v.2.2.2.2.1,v.2.2.2.2.2.1,v.2.2.2.2.2.2.1,v.2.2.2.2.2.2.2.1,v.2.2.2.2.2.2.2.2.1,v.2.2.2.2.2.2.2.2.2.1,v.2.2.2.2.2.2.2.2.2.2.1,v.2.2.2.2.2.2.2.2.2.2.2.1,v.2.2.2.2.2.2.2.2.2.2.2.2)) (Dt.ret (v.1,v.2.1,(!v.2.2.1),v.2.2.2.2.1,v.2.2.2.2.2.1,v.2.2.2.2.2.2.1,v.2.2.2.2.2.2.2.1,v.2.2.2.2.2.2.2.2.1,v.2.2.2.2.2.2.2.2.2.1,v.2.2.2.2.2.2.2.2.2.2.1,v.2.2.2.2.2.2.2.2.2.2.2.1,v.2.2.2.2.2.2.2.2.2.2.2.2)))
theorem q3g6 C v:q3o3 (regO (qea f36) 11) false [(3,(.box [.any,.val Riii])),(4,(.box [.val Riii])),(5,.any),(7,.any),(8,.any),(9,(.own Ri)),(10,.any),(80,.any)] q3g0 q3g5 q3g4 C v:=rgI (by kernel_rfl)
abbrev q3g7:Type:=Bool
def q3g8 (v:q3g7):St:=⟨[(6,.bool v)],[]⟩
def q3g9 (C:q3ev) (v:q3g3):Dt q3g7:=(Dt.ret false)
theorem q3ga C v:q3o3 (regO (qea f36) 12) false [(6,.any)] q3g4 q3g9 q3g8 C v:=rgI (by kernel_rfl)
def q3gb (C:q3ev) (v:q3fo):Dt q3f4:=(Dt.ret ((IntKind.wrap .i64 (v.1+(1:Int))),v.2.2.2.1,v.2.2.2.2.1,v.2.2.2.2.2.1,v.2.2.2.2.2.2.1,v.2.2.2.2.2.2.2.1))
theorem q3gc C v:q3o3 (regO (qea f36) 3) false [(3,(.box [.any,.val Riii])),(4,(.box [.val Riii])),(5,.any),(7,.any)] q3fp q3gb q3f5 C v:=rgI (by kernel_rfl)
def q3gd (d:Nat) (self1:(Int×Int×List Diii×List Diii×Int×Int)→Option q3es) (self2:(Int×Int×Int×List Diii×List Diii×Int×Int×Int×Int×Int×List Di)→Option q3es) (x2:Int×Int×Int×List Diii×List Diii×Int×Int×Int×Int×Int×List Di):Option q3es :=
 (q3fq (q3ew d) x2).eval fun y7 =>
 bif y7.2.2.1 then ((q3fu (q3ew d) y7).eval fun y9 =>
 bif y9.2.2.1 then (q3fy d self1 self2 (y9.1,y9.2.1,y9.2.2.2.1,y9.2.2.2.2.1,y9.2.2.2.2.2.1,y9.2.2.2.2.2.2.1,y9.2.2.2.2.2.2.2.1,y9.2.2.2.2.2.2.2.2.1,y9.2.2.2.2.2.2.2.2.2.1,y9.2.2.2.2.2.2.2.2.2.2.1,y9.2.2.2.2.2.2.2.2.2.2.2)) else ((q3g1 (q3ew d) y9).eval fun y10 =>
 (q3g5 (q3ew d) y10).eval fun y11 =>
 bif y11.2.2.1 then ((q3g9 (q3ew d) y11).eval fun y12 =>
 some y12) else (q3fy d self1 self2 (y11.1,y11.2.1,y11.2.2.2.1,y11.2.2.2.2.1,y11.2.2.2.2.2.1,y11.2.2.2.2.2.2.1,y11.2.2.2.2.2.2.2.1,y11.2.2.2.2.2.2.2.2.1,y11.2.2.2.2.2.2.2.2.2.1,y11.2.2.2.2.2.2.2.2.2.2.1,y11.2.2.2.2.2.2.2.2.2.2.2)))) else ((q3gb (q3ew d) y7).eval fun y3 =>
 self1 y3)
def q3ge (C:q3ev) (v:q3f8):Dt q3g7:=(Dt.ret true)
theorem q3gf C v:q3o3 (regO (qea f36) 13) false [(6,.any)] q3f9 q3ge q3g8 C v:=rgI (by kernel_rfl)
def q3gg (d:Nat) (self1:(Int×Int×List Diii×List Diii×Int×Int)→Option q3es) (x1:Int×Int×List Diii×List Diii×Int×Int):Option q3es :=
 (q3fa (q3ew d) x1).eval fun y2 =>
 bif y2.2.1 then ((q3fe (q3ew d) y2).eval fun y4 =>
 (q3fi (q3ew d) y4).eval fun y5 =>
 (q3fm (q3ew d) y5).eval fun y6 =>
 iter (q3gd d self1) d y6) else ((q3ge (q3ew d) y2).eval fun y13 =>
 some y13)
def q3gh (d:Nat) (x:q3er):Option q3es :=
 (q3f2 (q3ew d) (x.1.1,x.1.2.1,x.2.1.1,x.2.2.1.1,x.2.2.1.2.1)).eval fun y0 =>
 (q3f6 (q3ew d) y0).eval fun y1 =>
 iter (q3gg d ) d y1
theorem q3gi (d:Nat):COK prog (q3eu (q3gh d)):=by
 have hm:prog.follows .mixedOrders=true:=mixed
 have hT:=tys
 have hC0:OrcOK prog (orc (q3ex (q3ew d))):=qe4 (by
  intro S hS
  simp only [q3ex,List.mem_cons,List.not_mem_nil,or_false] at hS
  rcases hS with rfl | rfl
  · exact qr0 d
  · exact qq0 d)
 have hC:OrcOK prog (orc (q3ex (q3ew d))):=hC0
 refine q9t (c:=qea f36) (fn:=f36) hT (by kernel_rfl) (by kernel_rfl) (by decide) fun x r h w0 φ0 Q hend=>?_
 replace h:q3gh d x=some r:=h
 unfold q3gh at h
 show Run prog w0 φ0 81 (qea f36) ⟨[(0,.agg [.int .i64 x.1.1,.fz Riii x.1.2.1]),(1,.agg [.fz Riii x.2.1.1]),(2,.agg [.int .i64 x.2.2.1.1,.int .i64 x.2.2.1.2.1])],[]⟩ Q
 refine q344 hm hT hC (q3f3 (q3ew d) (x.1.1,x.1.2.1,x.2.1.1,x.2.2.1.1,x.2.2.1.2.1)) h fun y0 h=>?_
 refine q9d ?_
 refine q344 hm hT hC (q3f7 (q3ew d) y0) h fun y1 h=>?_
 refine q9e ?_
 refine q9j (G:=iter (q3gg d )) (S:=(fun x1=>⟨[(3,.ptr 0 0),(4,.ptr 1 0),(5,.ptr 2 0),(7,i6 x1.1)],[.cells [i6 x1.2.1,.fz Riii x1.2.2.1],.cells [.fz Riii x1.2.2.2.1],.cells [i6 x1.2.2.2.2.1,i6 x1.2.2.2.2.2]]⟩:Int×Int×List Diii×List Diii×Int×Int→St)) (fun _=>rfl) ?_ d _ h
 intro n1 x1 h K1 hn1
 replace h:q3gg d  (iter (q3gg d ) n1) x1=some r:=h
 generalize iter (q3gg d ) n1=self1 at h hn1
 unfold q3gg at h
 refine q9d ?_
 refine q344 hm hT hC (q3fb (q3ew d) x1) h fun y2 h=>?_
 refine q9h (v:=y2.2.1) (by kernel_rfl) h ?_ ?_
 ·
  intro h
  refine q99 (q8z (q9d (q9e ?_)))
  refine q344 hm hT hC (q3ff (q3ew d) y2) h fun y4 h=>?_
  refine q344 hm hT hC (q3fj (q3ew d) y4) h fun y5 h=>?_
  refine q344 hm hT hC (q3fn (q3ew d) y5) h fun y6 h=>?_
  refine q9e ?_
  refine q9j (G:=iter (q3gd d self1)) (S:=(fun x2=>⟨[(3,.ptr 0 0),(4,.ptr 1 0),(5,.ptr 2 0),(7,i6 x2.1),(8,.ptr 3 0),(9,.rs 4),(10,i6 x2.2.1)],[.cells [i6 x2.2.2.1,.fz Riii x2.2.2.2.1],.cells [.fz Riii x2.2.2.2.2.1],.cells [i6 x2.2.2.2.2.2.1,i6 x2.2.2.2.2.2.2.1],.cells [i6 x2.2.2.2.2.2.2.2.1,i6 x2.2.2.2.2.2.2.2.2.1,i6 x2.2.2.2.2.2.2.2.2.2.1],.rows Ri x2.2.2.2.2.2.2.2.2.2.2]⟩:Int×Int×Int×List Diii×List Diii×Int×Int×Int×Int×Int×List Di→St)) (fun _=>rfl) ?_ d _ h
  intro n2 x2 h K2 hn2
  replace h:q3gd d self1 (iter (q3gd d self1) n2) x2=some r:=h
  generalize iter (q3gd d self1) n2=self2 at h hn2
  unfold q3gd at h
  refine q9d ?_
  refine q344 hm hT hC (q3fr (q3ew d) x2) h fun y7 h=>?_
  refine q9h (v:=y7.2.2.1) (by kernel_rfl) h ?_ ?_
  ·
   intro h
   refine q99 (q8z ?_)
   refine q9g (r:=r) (F:=q3fy d self1 self2) (S:=(fun z=>⟨[(3,.ptr 0 0),(4,.ptr 1 0),(5,.ptr 2 0),(7,i6 z.1),(8,.ptr 3 0),(9,.rs 4),(10,i6 z.2.1)],[.cells [i6 z.2.2.1,.fz Riii z.2.2.2.1],.cells [.fz Riii z.2.2.2.2.1],.cells [i6 z.2.2.2.2.2.1,i6 z.2.2.2.2.2.2.1],.cells [i6 z.2.2.2.2.2.2.2.1,i6 z.2.2.2.2.2.2.2.2.1,i6 z.2.2.2.2.2.2.2.2.2.1],.rows Ri z.2.2.2.2.2.2.2.2.2.2]⟩:Int×Int×Int×List Diii×List Diii×Int×Int×Int×Int×Int×List Di→St)) ?_ ?_
   ·
    intro z h
    unfold q3fy at h
    refine q9i hm hT hC (q3fx (q3ew d) z) h ?_
    intro y8 h
    exact hn2 _ h
   intro hj3
   refine q9e (q9d ?_)
   refine q344 hm hT hC (q3fv (q3ew d) y7) h fun y9 h=>?_
   refine q9h (v:=y9.2.2.1) (by kernel_rfl) h ?_ ?_
   ·
    intro h
    refine q9b (q90 (q94 ?_))
    refine qe9 (s:=⟨[(3,.ptr 0 0),(4,.ptr 1 0),(5,.ptr 2 0),(7,.int .i64 y9.1),(8,.ptr 3 0),(9,.rs 4),(10,.int .i64 y9.2.1)],[.cells [.int .i64 y9.2.2.2.1,.fz Riii y9.2.2.2.2.1],.cells [.fz Riii y9.2.2.2.2.2.1],.cells [.int .i64 y9.2.2.2.2.2.2.1,.int .i64 y9.2.2.2.2.2.2.2.1],.cells [.int .i64 y9.2.2.2.2.2.2.2.2.1,.int .i64 y9.2.2.2.2.2.2.2.2.2.1,.int .i64 y9.2.2.2.2.2.2.2.2.2.2.1],.rows Ri y9.2.2.2.2.2.2.2.2.2.2.2]⟩) [53] (by kernel_rfl) ?_
    exact hj3 _ h
   ·
    intro h
    refine q99 (q8z ?_)
    refine q344 hm hT hC (q3g2 (q3ew d) y9) h fun y10 h=>?_
    refine q344 hm hT hC (q3g6 (q3ew d) y10) h fun y11 h=>?_
    refine q9h (v:=y11.2.2.1) (by kernel_rfl) h ?_ ?_
    ·
     intro h
     refine q344 hm hT hC (q3ga (q3ew d) y11) h fun y12 h=>?_
     refine q9c (q93 (q91 (q91 (q93 (q93 (q91 (q91 (q93 (q91 ?_)))))))))
     cases h
     exact (hend _ (by kernel_rfl)).2
    ·
     intro h
     refine q99 (q92 ?_)
     refine qe9 (s:=⟨[(3,.ptr 0 0),(4,.ptr 1 0),(5,.ptr 2 0),(7,.int .i64 y11.1),(8,.ptr 3 0),(9,.rs 4),(10,.int .i64 y11.2.1)],[.cells [.int .i64 y11.2.2.2.1,.fz Riii y11.2.2.2.2.1],.cells [.fz Riii y11.2.2.2.2.2.1],.cells [.int .i64 y11.2.2.2.2.2.2.1,.int .i64 y11.2.2.2.2.2.2.2.1],.cells [.int .i64 y11.2.2.2.2.2.2.2.2.1,.int .i64 y11.2.2.2.2.2.2.2.2.2.1,.int .i64 y11.2.2.2.2.2.2.2.2.2.2.1],.rows Ri y11.2.2.2.2.2.2.2.2.2.2.2]⟩) [80] (by kernel_rfl) ?_
     exact hj3 _ h
  ·
   intro h
   refine q9b (q90 (q90 (q94 (q92 (q8z ?_)))))
   refine q9i hm hT hC (q3gc (q3ew d) y7) h ?_
   intro y3 h
   exact hn1 _ h
 ·
  intro h
  refine q9b (q90 (q90 (q94 (q8z ?_))))
  refine q344 hm hT hC (q3gf (q3ew d) y2) h fun y13 h=>?_
  refine q9c ?_
  cases h
  exact (hend _ (by kernel_rfl)).2
abbrev q3gj:List Pk:=[.row qks true,.row Rii true,.row qkv true]
abbrev q3gk:Type:=qkt×Dii×qkw×Unit
abbrev q3gl:Type:=Bool
def q3gm (r:q3gl):LV×List Ob:=(.bool r,[])
def q3gn (F:q3gk→Option q3gl):Go.Tx.Spec:=⟨5,q3gj,q3gl,F,q3gm⟩
abbrev q3go:Type:=(q1ch→Option q1ci)×(q132→Option q133)×(q19m→Option q19n)×(q188→Option q189)×(q1mr→Option q1ms)×(q3cw→Option q3cx)×(q2vy→Option q2vz)×(q220→Option q221)×(q3dg→Option q3dh)×(q3er→Option q3es)×Unit
def q3gp (d:Nat):q3go:=(q1cy d,q15h d,q1an d,q19j d,q1ow d,q3dd d,q2wt d,q22y d,q3eo d,q3gh d,())
def q3gq (C:q3go):List Go.Tx.Spec:=[q1ck C.1,q135 C.2.1,q19p C.2.2.1,q18b C.2.2.2.1,q1mu C.2.2.2.2.1,q3cz C.2.2.2.2.2.1,q2w1 C.2.2.2.2.2.2.1,q223 C.2.2.2.2.2.2.2.1,q3dj C.2.2.2.2.2.2.2.2.1,q3eu C.2.2.2.2.2.2.2.2.2.1]
abbrev q3gr:Type:=List Diii×Int×Int×Int×List Diii
def q3gs (v:q3gr):St:=⟨[(0,.agg [.fz Riii v.1]),(1,.agg [i6 v.2.1,i6 v.2.2.1]),(2,.agg [i6 v.2.2.2.1,.fz Riii v.2.2.2.2])],[]⟩
abbrev q3gt:Type:=List Diii×Int×Int×Int×List Diii
def q3gu (v:q3gt):St:=⟨[(3,.ptr 0 0),(4,.ptr 1 0),(5,.ptr 2 0)],[.cells [.fz Riii v.1],.cells [i6 v.2.1,i6 v.2.2.1],.cells [i6 v.2.2.2.1,.fz Riii v.2.2.2.2]]⟩
def q3gv (C:q3go) (v:q3gr):Dt q3gt:=(Dt.ret (v.1,v.2.1,v.2.2.1,v.2.2.2.1,v.2.2.2.2))
abbrev q3o4 {V Y:Type}:=@rg q3go V Y tysT (fun C=>(orc (q3gq C))) 98
theorem q3gw C v:q3o4 (regO (qea f5) 0) false [(3,(.box [.val Riii])),(4,.any),(5,(.box [.any,.val Riii]))] q3gs q3gv q3gu C v:=rgI (by kernel_rfl)
abbrev q3gx:Type:=Bool×List Diii×Int×Int×Int×List Diii
def q3gy (v:q3gx):St:=⟨[(3,.ptr 0 0),(4,.ptr 1 0),(5,.ptr 2 0),(20,.bool v.1)],[.cells [.fz Riii v.2.1],.cells [i6 v.2.2.1,i6 v.2.2.2.1],.cells [i6 v.2.2.2.2.1,.fz Riii v.2.2.2.2.2]]⟩
def q3gz (C:q3go) (v:q3gt):Dt q3gx:=(Dt.bnd (C.2.2.2.2.2.1 ((v.1,()),(v.2.1,v.2.2.1,()),())) fun r1=>(Dt.ite (!r1) (Dt.ret (true,v.1,v.2.1,v.2.2.1,v.2.2.2.1,v.2.2.2.2)) (Dt.bnd (C.1 ((v.2.2.2.1,v.2.2.2.2,()),())) fun r2=>(Dt.ret (r2,v.1,v.2.1,v.2.2.1,v.2.2.2.1,v.2.2.2.2)))))
theorem q3h0 C v:q3o4 (regO (qea f5) 1) false [(3,(.box [.val Riii])),(4,.any),(5,(.box [.any,.val Riii])),(20,.any)] q3gu q3gz q3gy C v:=rgI (by kernel_rfl)
abbrev q3h1:Type:=Bool
def q3h2 (v:q3h1):St:=⟨[(6,.bool v)],[]⟩
def q3h3 (C:q3go) (v:q3gx):Dt q3h1:=(Dt.bnd (C.2.2.2.2.2.2.1 (())) fun r1=>(Dt.ret r1))
theorem q3h4 C v:q3o4 (regO (qea f5) 2) false [(6,.any)] q3gy q3h3 q3h2 C v:=rgI (by kernel_rfl)
abbrev q3h5:Type:=Int×List Diii×Int×Int×Int×List Diii×Int×List Diii
def q3h6 (v:q3h5):St:=⟨[(3,.ptr 0 0),(4,.ptr 1 0),(5,.ptr 2 0),(7,.ptr 3 0),(8,i6 v.1)],[.cells [.fz Riii v.2.1],.cells [i6 v.2.2.1,i6 v.2.2.2.1],.cells [i6 v.2.2.2.2.1,.fz Riii v.2.2.2.2.2.1],.cells [i6 v.2.2.2.2.2.2.1,.rs 4],.rows Riii v.2.2.2.2.2.2.2]⟩
def q3h7 (C:q3go) (v:q3gx):Dt q3h5:=(Dt.bnd (C.2.1 ((v.2.1,()),(v.2.2.1,v.2.2.2.1,()),())) fun r1=>(Dt.ret (r1.2.2,v.2.1,v.2.2.1,v.2.2.2.1,v.2.2.2.2.1,v.2.2.2.2.2,r1.1,r1.2.1)))
theorem q3h8 C v:q3o4 (regO (qea f5) 3) false [(3,(.box [.val Riii])),(4,.any),(5,(.box [.any,.val Riii])),(7,(.box [.any,.own Riii])),(8,.any)] q3gy q3h7 q3h6 C v:=rgI (by kernel_rfl)
abbrev q3h9:Type:=Bool×List Diii×Int×Int×Int×List Diii×Int×List Diii
def q3ha (v:q3h9):St:=⟨[(3,.ptr 0 0),(4,.ptr 1 0),(5,.ptr 2 0),(7,.ptr 3 0),(52,.bool v.1)],[.cells [.fz Riii v.2.1],.cells [i6 v.2.2.1,i6 v.2.2.2.1],.cells [i6 v.2.2.2.2.1,.fz Riii v.2.2.2.2.2.1],.cells [i6 v.2.2.2.2.2.2.1,.rs 4],.rows Riii v.2.2.2.2.2.2.2]⟩
def q3hb (C:q3go) (v:q3h5):Dt q3h9:=(Dt.ite (v.1 != (0:Int)) (Dt.ret (true,v.2.1,v.2.2.1,v.2.2.2.1,v.2.2.2.2.1,v.2.2.2.2.2.1,v.2.2.2.2.2.2.1,v.2.2.2.2.2.2.2)) (Dt.bnd (C.2.2.2.2.1 ((v.2.2.2.2.2.2.1,v.2.2.2.2.2.2.2,()),())) fun r1=>(Dt.ite (r1 != (0:Int)) (Dt.ret (true,v.2.1,v.2.2.1,v.2.2.2.1,v.2.2.2.2.1,v.2.2.2.2.2.1,v.2.2.2.2.2.2.1,v.2.2.2.2.2.2.2)) (Dt.bnd (C.2.2.2.2.2.2.2.1 ((v.2.2.2.2.2.2.1,v.2.2.2.2.2.2.2,()),())) fun r2=>(Dt.ite (!r2) (Dt.ret (true,v.2.1,v.2.2.1,v.2.2.2.1,v.2.2.2.2.1,v.2.2.2.2.2.1,v.2.2.2.2.2.2.1,v.2.2.2.2.2.2.2)) (Dt.bnd (C.2.2.2.2.2.2.2.2.1 ((v.2.2.2.2.2.2.1,v.2.2.2.2.2.2.2,()),(v.2.1,()),())) fun r3=>(Dt.ite (!r3) (Dt.ret (true,v.2.1,v.2.2.1,v.2.2.2.1,v.2.2.2.2.1,v.2.2.2.2.2.1,v.2.2.2.2.2.2.1,v.2.2.2.2.2.2.2)) (Dt.bnd (C.2.2.2.2.2.2.2.2.2.1 ((v.2.2.2.2.2.2.1,v.2.2.2.2.2.2.2,()),(v.2.1,()),(v.2.2.1,v.2.2.2.1,()),())) fun r4=>(Dt.ret ((!r4),v.2.1,v.2.2.1,v.2.2.2.1,v.2.2.2.2.1,v.2.2.2.2.2.1,v.2.2.2.2.2.2.1,v.2.2.2.2.2.2.2))))))))))
theorem q3hc C v:q3o4 (regO (qea f5) 4) false [(3,(.box [.val Riii])),(4,.any),(5,(.box [.any,.val Riii])),(7,(.box [.any,.own Riii])),(52,.any)] q3h6 q3hb q3ha C v:=rgI (by kernel_rfl)
def q3hd (C:q3go) (v:q3h9):Dt q3h1:=(Dt.ret false)
theorem q3he C v:q3o4 (regO (qea f5) 5) false [(6,.any)] q3ha q3hd q3h2 C v:=rgI (by kernel_rfl)
abbrev q3hf:Type:=Bool×List Diii×Int×Int×Int×List Diii×Int×List Diii
def q3hg (v:q3hf):St:=⟨[(3,.ptr 0 0),(4,.ptr 1 0),(5,.ptr 2 0),(7,.ptr 3 0),(61,.bool v.1)],[.cells [.fz Riii v.2.1],.cells [i6 v.2.2.1,i6 v.2.2.2.1],.cells [i6 v.2.2.2.2.1,.fz Riii v.2.2.2.2.2.1],.cells [i6 v.2.2.2.2.2.2.1,.rs 4],.rows Riii v.2.2.2.2.2.2.2]⟩
def q3hh (C:q3go) (v:q3h9):Dt q3hf:=(Dt.bnd (C.2.2.2.2.1 ((v.2.2.2.2.1,v.2.2.2.2.2.1,()),())) fun r1=>(Dt.ite (r1 != (0:Int)) (Dt.ret (true,v.2.1,v.2.2.1,v.2.2.2.1,v.2.2.2.2.1,v.2.2.2.2.2.1,v.2.2.2.2.2.2.1,v.2.2.2.2.2.2.2)) (Dt.bnd (C.2.2.2.2.2.2.2.2.1 ((v.2.2.2.2.1,v.2.2.2.2.2.1,()),(v.2.1,()),())) fun r2=>(Dt.ret ((!r2),v.2.1,v.2.2.1,v.2.2.2.1,v.2.2.2.2.1,v.2.2.2.2.2.1,v.2.2.2.2.2.2.1,v.2.2.2.2.2.2.2)))))
theorem q3hi C v:q3o4 (regO (qea f5) 6) false [(3,(.box [.val Riii])),(4,.any),(5,(.box [.any,.val Riii])),(7,(.box [.any,.own Riii])),(61,.any)] q3ha q3hh q3hg C v:=rgI (by kernel_rfl)
def q3hj (C:q3go) (v:q3hf):Dt q3h1:=(Dt.bnd (C.2.2.2.2.2.2.1 (())) fun r1=>(Dt.ret r1))
theorem q3hk C v:q3o4 (regO (qea f5) 7) false [(6,.any)] q3hg q3hj q3h2 C v:=rgI (by kernel_rfl)
abbrev q3hl:Type:=Bool×Int×List Diii×Int×Int×Int×List Diii
def q3hm (v:q3hl):St:=⟨[(3,.ptr 0 0),(4,.ptr 1 0),(5,.ptr 2 0),(9,.bool v.1),(10,i6 v.2.1)],[.cells [.fz Riii v.2.2.1],.cells [i6 v.2.2.2.1,i6 v.2.2.2.2.1],.cells [i6 v.2.2.2.2.2.1,.fz Riii v.2.2.2.2.2.2]]⟩
def q3hn (C:q3go) (v:q3hf):Dt q3hl:=(Dt.bnd (C.2.2.2.1 ((v.2.2.2.2.2.2.1,v.2.2.2.2.2.2.2,()),(v.2.2.2.2.1,v.2.2.2.2.2.1,()),())) fun r1=>(Dt.ret (r1.1,r1.2,v.2.1,v.2.2.1,v.2.2.2.1,v.2.2.2.2.1,v.2.2.2.2.2.1)))
theorem q3ho C v:q3o4 (regO (qea f5) 8) false [(3,(.box [.val Riii])),(4,.any),(5,(.box [.any,.val Riii])),(9,.any),(10,.any)] q3hg q3hn q3hm C v:=rgI (by kernel_rfl)
abbrev q3hp:Type:=Bool×Int×Bool×Int×List Diii×Int×Int×Int×List Diii
def q3hq (v:q3hp):St:=⟨[(3,.ptr 0 0),(4,.ptr 1 0),(5,.ptr 2 0),(9,.bool v.1),(10,i6 v.2.1),(11,.bool v.2.2.1),(12,i6 v.2.2.2.1)],[.cells [.fz Riii v.2.2.2.2.1],.cells [i6 v.2.2.2.2.2.1,i6 v.2.2.2.2.2.2.1],.cells [i6 v.2.2.2.2.2.2.2.1,.fz Riii v.2.2.2.2.2.2.2.2]]⟩
def q3hr (C:q3go) (v:q3hl):Dt q3hp:=(Dt.bnd (C.2.2.1 ((v.2.2.2.2.2.1,v.2.2.2.2.2.2,()),(v.2.2.1,()),(v.2.2.2.1,v.2.2.2.2.1,()),())) fun r1=>(Dt.ret (v.1,v.2.1,r1.1,r1.2,v.2.2.1,v.2.2.2.1,v.2.2.2.2.1,v.2.2.2.2.2.1,v.2.2.2.2.2.2)))
theorem q3hs C v:q3o4 (regO (qea f5) 9) false [(3,(.box [.val Riii])),(4,.any),(5,(.box [.any,.val Riii])),(9,.any),(10,.any),(11,.any),(12,.any)] q3hm q3hr q3hq C v:=rgI (by kernel_rfl)
def q3ht (C:q3go) (v:q3hp):Dt q3h1:=(Dt.ite (v.2.1 == (0:Int)) (Dt.ite (v.2.2.2.1 == (0:Int)) (Dt.bnd (C.2.2.2.2.2.2.2.2.2.1 ((v.2.2.2.2.2.2.2.1,v.2.2.2.2.2.2.2.2,()),(v.2.2.2.2.1,()),(v.2.2.2.2.2.1,v.2.2.2.2.2.2.1,()),())) fun r1=>(Dt.ite (v.1 == r1) (Dt.ite (v.2.2.1 == v.1) (Dt.bnd (C.2.2.2.2.2.2.1 (())) fun r2=>(Dt.ret r2)) (Dt.ret false)) (Dt.ret false))) (Dt.ret false)) (Dt.ret false))
theorem q3hu C v:q3o4 (regO (qea f5) 10) false [(6,.any)] q3hq q3ht q3h2 C v:=rgI (by kernel_rfl)
def q3hv (d:Nat) (x:q3gk):Option q3gl :=
 (q3gv (q3gp d) (x.1.1,x.2.1.1,x.2.1.2.1,x.2.2.1.1,x.2.2.1.2.1)).eval fun y0 =>
 (q3gz (q3gp d) y0).eval fun y1 =>
 bif y1.1 then ((q3h3 (q3gp d) y1).eval fun y2 =>
 some y2) else ((q3h7 (q3gp d) y1).eval fun y3 =>
 (q3hb (q3gp d) y3).eval fun y4 =>
 bif y4.1 then ((q3hd (q3gp d) y4).eval fun y5 =>
 some y5) else ((q3hh (q3gp d) y4).eval fun y6 =>
 bif y6.1 then ((q3hj (q3gp d) y6).eval fun y7 =>
 some y7) else ((q3hn (q3gp d) y6).eval fun y8 =>
 (q3hr (q3gp d) y8).eval fun y9 =>
 (q3ht (q3gp d) y9).eval fun y10 =>
 some y10)))
theorem q3hw (d:Nat):COK prog (q3gn (q3hv d)):=by
 have hm:prog.follows .mixedOrders=true:=mixed
 have hT:=tys
 have hC0:OrcOK prog (orc (q3gq (q3gp d))):=qe4 (by
  intro S hS
  simp only [q3gq,List.mem_cons,List.not_mem_nil,or_false] at hS
  rcases hS with rfl | rfl | rfl | rfl | rfl | rfl | rfl | rfl | rfl | rfl
  · exact q1cz d
  · exact q15i d
  · exact q1ao d
  · exact q19k d
  · exact q1ox d
  · exact q3de d
  · exact q2wu d
  · exact q22z d
  · exact q3ep d
  · exact q3gi d)
 have hC:OrcOK prog (orc (q3gq (q3gp d))):=hC0
 refine q9t (c:=qea f5) (fn:=f5) hT (by kernel_rfl) (by kernel_rfl) (by decide) fun x r h w0 φ0 Q hend=>?_
 replace h:q3hv d x=some r:=h
 unfold q3hv at h
 show Run prog w0 φ0 98 (qea f5) ⟨[(0,.agg [.fz Riii x.1.1]),(1,.agg [.int .i64 x.2.1.1,.int .i64 x.2.1.2.1]),(2,.agg [.int .i64 x.2.2.1.1,.fz Riii x.2.2.1.2.1])],[]⟩ Q
 refine q344 hm hT hC (q3gw (q3gp d) (x.1.1,x.2.1.1,x.2.1.2.1,x.2.2.1.1,x.2.2.1.2.1)) h fun y0 h=>?_
 refine q9d ?_
 refine q344 hm hT hC (q3h0 (q3gp d) y0) h fun y1 h=>?_
 refine q9h (v:=y1.1) (by kernel_rfl) h ?_ ?_
 ·
  intro h
  refine q344 hm hT hC (q3h4 (q3gp d) y1) h fun y2 h=>?_
  refine q9c (q91 ?_)
  cases h
  exact (hend _ (by kernel_rfl)).2
 ·
  intro h
  refine q99 (q8z ?_)
  refine q344 hm hT hC (q3h8 (q3gp d) y1) h fun y3 h=>?_
  refine q9d ?_
  refine q344 hm hT hC (q3hc (q3gp d) y3) h fun y4 h=>?_
  refine q9h (v:=y4.1) (by kernel_rfl) h ?_ ?_
  ·
   intro h
   refine q344 hm hT hC (q3he (q3gp d) y4) h fun y5 h=>?_
   refine q9c (q91 ?_)
   cases h
   exact (hend _ (by kernel_rfl)).2
  ·
   intro h
   refine q99 (q8z (q9d ?_))
   refine q344 hm hT hC (q3hi (q3gp d) y4) h fun y6 h=>?_
   refine q9h (v:=y6.1) (by kernel_rfl) h ?_ ?_
   ·
    intro h
    refine q344 hm hT hC (q3hk (q3gp d) y6) h fun y7 h=>?_
    refine q9c (q91 ?_)
    cases h
    exact (hend _ (by kernel_rfl)).2
   ·
    intro h
    refine q99 (q8z ?_)
    refine q344 hm hT hC (q3ho (q3gp d) y6) h fun y8 h=>?_
    refine q344 hm hT hC (q3hs (q3gp d) y8) h fun y9 h=>?_
    refine q344 hm hT hC (q3hu (q3gp d) y9) h fun y10 h=>?_
    refine q9c ?_
    cases h
    exact (hend _ (by kernel_rfl)).2
end Go.Proofs.Ytoakhncbmpdacaa

namespace Go.Proofs.Ytoakhncbmpdacaa
open Go Go.Tx Go.Pel
def rowI (N:List N3) (l:List Nat):List (Int×Unit):=l.map fun k=>(idN N k,())
theorem q3n9 (N:List N3) (l:List Nat):(rowI N l).length=l.length:=List.length_map _
theorem q3nc (d:Nat) {root:Int} {N:List N3} {l:List Nat} (hv:VT root N l):∀ (f i:Nat),l.length - i<f→i≤l.length →
    iter (q1q0 d) f ((i:Int),root,N,rowI N (l.take i),nodL l)=some (rowI N l)
  | 0,i,h,_=>by omega
  | f + 1, i, hf, hi => by
    have ih:=q3nc d hv f (i+1)
    rw [iter]
    revert ih
    generalize iter (q1q0 d) f=self
    intro ih
    unfold q1q0
    have hln:=hv.ln
    have hlen:=hv.len
    by_cases hl:i<l.length
    · obtain ⟨k, hk⟩ : ∃ k, l[i]? = some k := ⟨_, List.getElem?_eq_getElem hl⟩
      have hkN:=hv.lt k (List.mem_of_getElem? hk)
      obtain ⟨x,hx⟩:∃ x,N[k]?=some x:=⟨_,List.getElem?_eq_getElem hkN⟩
      have hid:=(q37y hx).1
      have hw:=q36l (show i<1000000 by omega)
      have htk:rowI N (l.take (i+1))=rowI N (l.take i) ++ [(x.1,())]:=by
        unfold rowI
        rw [List.take_add_one,hk,List.map_append]
        congr 1
        show [(idN N k,())]=_
        rw [hid]
      have hap:apB (rowI N (l.take i)).length 1=true:=by unfold apB;rw [Nat.ble_eq,q3n9,List.length_take];omega
      have:=ih (by omega) (by omega)
      rw [htk] at this
      simp only [q1pq,q1pu,q1ps,Dt.eval,q363,decK hl,cond_true,inbK hl,eltK (q36r hk),inbK hkN,eltK hx,List.length_singleton,hap,hw]
      exact this
    · have hie : i = l.length := by omega
      subst hie
      simp only [q1pq,q1py,Dt.eval,q363,decN hl,cond_false,List.take_length]
theorem q3nd (d:Nat) (hd:5000≤d) {root:Int} {N:List N3} {l:List Nat} (hv:VT root N l):q1q1 d ((root,N,()),())=some (rowI N l):=by
  have hlen:=hv.len
  have hln:=hv.ln
  have e2:=q36d d hd (by omega) hv.tr hv.nd
  have e4:q1mo d ((root,N,()),())=some (nodL l):=by simp only [q1mo,q1mc,q1mi,q1mm,Dt.eval,e2]
  have e3:=q3nc d hv d 0 (by omega) (Nat.zero_le _)
  simp only [q1q1,q1p4,q1pa,q1pe,q1pi,q1pm,Dt.eval,e4]
  exact e3
theorem Gr.links {P:List N3} {n d:Int} {N:List N3} {i:Int} {a b:Nat} (h:Gr P n d N i a b):-1≤i∧i<b∧(i<0↔b≤a)∧∀ k,a≤k→k<b→-1≤lfN N k∧lfN N k<b∧-1≤rtN N k∧rtN N k<b:=by
  induction h with
  | leaf a b h=>exact ⟨by omega,by omega,by omega,fun k h1 h2=>by omega⟩
  | node k a b x h1 h2 h3 h4 _ _ ih1 ih2 =>
    obtain ⟨a1,a2,a3,a4⟩:=ih1
    obtain ⟨b1,b2,b3,b4⟩:=ih2
    refine ⟨by omega,by omega,by omega,fun m m1 m2=>?_⟩
    obtain ⟨_,e2,e3⟩:=q37y h3
    rcases Nat.lt_trichotomy m k with h5 | h5 | h5
    · have:=a4 m m1 h5;omega
    · subst h5;rw [e2,e3];omega
    · have:=b4 m (by omega) m2;omega
theorem q3nf {P:List N3} (hP:FOk P) {n d:Int} {N:List N3} {r:Int} (hg:Gr P n d N r 0 P.length) (hN:N.length=P.length) (hid:∀ j,j<P.length→idN N j=(ptA P j).1):VT r N (List.range P.length):=by
  have hlen:=hP.len
  obtain ⟨g1,g2,g3,g4⟩:=hg.links
  refine ⟨by omega,?_,?_,?_,List.nodup_range,by rw [List.length_range,hN],?_⟩
  · simp only [not_or]
    refine ⟨by omega,by omega,?_⟩
    simp only [ne_eq,Decidable.not_not,eq_iff_iff]
    omega
  · rw [List.all_eq_true]
    intro x hx
    obtain ⟨j,hj,rfl⟩:=List.mem_iff_getElem.1 hx
    have hx2:N[j]?=some N[j]:=List.getElem?_eq_getElem hj
    obtain ⟨e1,e2,e3⟩:=q37y hx2
    have h5:=g4 j (Nat.zero_le _) (by omega)
    have h6:=hid j (by omega)
    have h7:=hP.ok _ (q371 (show j<P.length by omega))
    have h8:=qey (i:=(ptA P j).1) (a:=(ptA P j).2.1) (b:=(ptA P j).2.2.1) h7
    rw [q36q]
    rw [e2,e3] at h5
    rw [e1] at h6
    omega
  · have := hg.tr
    rw [Nat.sub_zero,← List.range_eq_range'] at this
    exact this
  · refine q37x ?_
    unfold incL
    rw [List.pairwise_iff_getElem]
    intro i j hi hj hij
    rw [List.length_range] at hi hj
    rw [List.getElem_range,List.getElem_range,hid i hi,hid j hj]
    exact hP.inc i j hij hj
theorem q3nk (d:Nat) (r:Int) (N:List N3):q1cy d ((r,N,()),())=some (decide ((N.length:Int) > 70)):=by
  simp only [q1cy,q1cm,q1cs,q1cw,Dt.eval]
theorem q3nl {m:Nat} (h:great m=false):m≤70:=by
  unfold great at h
  rw [Bool.or_eq_false_iff] at h
  have:=of_decide_eq_false h.2
  omega
end Go.Proofs.Ytoakhncbmpdacaa

namespace Go.Proofs.Ytoakhncbmpdacaa
open Go.ChangeShapes Go.WideShapes Go.ChangeAt Go.RowKit Go.Pel Go.Deep
theorem q3no {a:Int} (h:-9223372036854775808≤a∧a≤9223372036854775807):Go.Tx.i64B a=true:=by
  unfold Go.Tx.i64B;rw [decide_eq_true h.1,decide_eq_true h.2];rfl
section
variable {H:Type} {enc:TypeId×Value→H} {w:World} {base:Nat} {spare:Nat→Bool} {held:Bool}
theorem q3np:Try.prog.cellsOf 67=3:=by kernel_rfl
theorem q3nq:Try.prog.cellsOf 29=2:=by kernel_rfl
theorem q3nr:Try.prog.cellsOf 27=1:=by kernel_rfl
theorem q3ns {fuel:Nat} {l:List Value} {x:DataW H×List MemPlace} (h:DataW.trod enc Try.prog w base spare held fuel 67 l=some x) (hl:l.length=3) :
    ∃ p:Pt,l=[.int .i64 p.id,.int .i64 p.a,.int .i64 p.b]∧p.Fits:=by
  obtain ⟨c0,c1,c2,rfl⟩:=q33o l hl
  obtain ⟨m4,y4,h4⟩:=q33b Try.underlying67 h (i:=0) rfl rfl rfl q33p
  obtain ⟨m5,y5,h5⟩:=q33b Try.underlying67 h (i:=1) rfl rfl rfl q33p
  obtain ⟨m6,y6,h6⟩:=q33b Try.underlying67 h (i:=2) rfl rfl rfl q33p
  obtain ⟨i,e4,w4⟩:=q33c Try.underlying3 h4
  obtain ⟨a,e5,w5⟩:=q33c Try.underlying3 h5
  obtain ⟨b,e6,w6⟩:=q33c Try.underlying3 h6
  simp at e4 e5 e6
  subst e4 e5 e6
  exact ⟨⟨i,a,b⟩,rfl,⟨q33d w4,q33d w5,q33d w6⟩⟩
theorem q3nt (fuel:Nat) (l:List Value) (x:DataW H×List MemPlace) (h:DataW.trod enc Try.prog w base spare held fuel 67 l=some x) (hl:l.length=3):∃ p:Pt,l=p.cells∧p.Fits:=q3ns h hl
theorem q3nu {fuel:Nat} {l:List Value} {x:DataW H×List MemPlace} (h:DataW.trod enc Try.prog w base (fun _=>true) held fuel 29 l=some x) (hl:l.length=2) :
    ∃ (r:Int) (A:Option Addr) (c:Nat) (m:List Pt),l=[.int .i64 r,.slice A m.length c]∧Sl w 3 A m.length c (vp m)∧(A=none→c=0)∧∀ p∈m,p.Fits:=by
  obtain ⟨c0,c1,rfl⟩:=q33n l hl
  obtain ⟨m0,y0,h0⟩:=q33b Try.underlying29 h (i:=0) rfl rfl rfl q33p
  obtain ⟨m1,y1,h1⟩:=q33b Try.underlying29 h (i:=1) rfl rfl rfl q3nr
  obtain ⟨r,e0,_⟩:=q33c Try.underlying3 h0
  have h1':DataW.trod enc Try.prog w base (fun _=>true) held m1 27 [c1]=some y1:=by simpa using h1
  obtain ⟨A,n,c,rfl⟩:∃ A n c,c1=Value.slice A n c:=by
    rcases open_slice Try.underlying27 h1' with ⟨hcs,_⟩ | ⟨a,len,cap,m,q,D,Pl,hcs,_⟩
    · simp only [List.cons.injEq,and_true] at hcs;exact ⟨_,_,_,hcs⟩
    · simp only [List.cons.injEq,and_true] at hcs;exact ⟨_,_,_,hcs⟩
  have hn:=q33k Try.underlying27 h1'
  obtain ⟨pts,rfl,hs,hok,_,_⟩:=q33l Pt.cells Pt.Fits Try.underlying27 q3np (by decide) (fun _=>rfl) q3nt h1'
  simp at e0
  subst e0
  exact ⟨r,A,c,pts,rfl,hs,hn,hok⟩
theorem q3nv {w:World} {r:Int} {A:Option Addr} {c:Nat} {l:List Pt} (hs:Sl w 3 A l.length c (vp l)) (h0:A=none→c=0):Go.Tx.VR (Go.Tx.Emb.fro fun k=>w.heap[k]?) (.agg [.int .i64 r,.fz Go.Tx.RP (Go.Tx.toPs l)]) (.agg #[.int .i64 r,.slice A l.length c]) :=
  Go.Tx.VR.aggL (Go.Tx.VRs.cons (.int _ _) (Go.Tx.VRs.cons (Go.Tx.sl_fz (τ:=Go.Tx.RP) rfl (Go.Tx.toPs_len l) (Go.Tx.valsL_toP l) hs h0) Go.Tx.VRs.nil))
end
end Go.Proofs.Ytoakhncbmpdacaa
