/- Walks of the references; the orders agree; examples. -/
import Derived.Test.YtoakhncbmpdacaaGj
set_option linter.unusedSimpArgs false
set_option linter.unusedVariables false
namespace Go.Proofs.Ytoakhncbmpdacaa
open Go Go.Tx Go.Proofs.Try
set_option maxRecDepth 100000
set_option maxHeartbeats 0
abbrev q3cv:List Pk:=[.row qks true,.row Rii true]
abbrev q3cw:Type:=qkt×Dii×Unit
abbrev q3cx:Type:=Bool
def q3cy (r:q3cx):LV×List Ob:=(.bool r,[])
def q3cz (F:q3cw→Option q3cx):Go.Tx.Spec:=⟨32,q3cv,q3cx,F,q3cy⟩
abbrev q3d0:Type:=(qq2→Option qq3)×(quk→Option qul)×Unit
def q3d1 (d:Nat):q3d0:=(qq7 d,quq d,())
def q3d2 (C:q3d0):List Go.Tx.Spec:=[qq5 C.1,qun C.2.1]
abbrev q3d3:Type:=List Diii×Int×Int
def q3d4 (v:q3d3):St:=⟨[(0,.agg [.fz Riii v.1]),(1,.agg [i6 v.2.1,i6 v.2.2])],[]⟩
abbrev q3d5:Type:=List Diii×Int×Int
def q3d6 (v:q3d5):St:=⟨[(2,.ptr 0 0),(3,.ptr 1 0)],[.cells [.fz Riii v.1],.cells [i6 v.2.1,i6 v.2.2]]⟩
def q3d7 (C:q3d0) (v:q3d3):Dt q3d5:=(Dt.ret (v.1,v.2.1,v.2.2))
abbrev q3o1 {V Y:Type}:=@rg q3d0 V Y tysT (fun C=>(orc (q3d2 C))) 14
theorem q3d8 C v:q3o1 (regO (qea f32) 0) false [(2,(.box [.val Riii])),(3,.any)] q3d4 q3d7 q3d6 C v:=rgI (by kernel_rfl)
abbrev q3d9:Type:=Bool
def q3da (v:q3d9):St:=⟨[(4,.bool v)],[]⟩
def q3db (C:q3d0) (v:q3d5):Dt q3d9:=(Dt.bnd (C.1 ((v.1,()),())) fun r1=>(Dt.ite (!r1) (Dt.bnd (C.2.1 ((v.1,()),(v.2.1,v.2.2,()),())) fun r2=>(Dt.ret (r2 == (0:Int)))) (Dt.ret false)))
theorem q3dc C v:q3o1 (regO (qea f32) 1) false [(4,.any)] q3d6 q3db q3da C v:=rgI (by kernel_rfl)
def q3dd (d:Nat) (x:q3cw):Option q3cx :=
 (q3d7 (q3d1 d) (x.1.1,x.2.1.1,x.2.1.2.1)).eval fun y0 =>
 (q3db (q3d1 d) y0).eval fun y1 =>
 some y1
theorem q3de (d:Nat):COK prog (q3cz (q3dd d)):=by
 have hm:prog.follows .mixedOrders=true:=mixed
 have hT:=tys
 have hC0:OrcOK prog (orc (q3d2 (q3d1 d))):=qe4 (by
  intro S hS
  simp only [q3d2,List.mem_cons,List.not_mem_nil,or_false] at hS
  rcases hS with rfl | rfl
  · exact qq9 d
  · exact qus d)
 have hC:OrcOK prog (orc (q3d2 (q3d1 d))):=hC0
 refine q9t (c:=qea f32) (fn:=f32) hT (by kernel_rfl) (by kernel_rfl) (by decide) fun x r h w0 φ0 Q hend=>?_
 replace h:q3dd d x=some r:=h
 unfold q3dd at h
 show Run prog w0 φ0 14 (qea f32) ⟨[(0,.agg [.fz Riii x.1.1]),(1,.agg [.int .i64 x.2.1.1,.int .i64 x.2.1.2.1])],[]⟩ Q
 refine q344 hm hT hC (q3d8 (q3d1 d) (x.1.1,x.2.1.1,x.2.1.2.1)) h fun y0 h=>?_
 refine q344 hm hT hC (q3dc (q3d1 d) y0) h fun y1 h=>?_
 refine q9c ?_
 cases h
 exact (hend _ (by kernel_rfl)).2
abbrev q3jv:List Pk:=[.row qks true,.row Rii true,.row Ri false,.row Ri false]
abbrev q3jw:Type:=qkt×Dii×Di×Di×Unit
abbrev q3jx:Type:=Bool
def q3jy (r:q3jx):LV×List Ob:=(.bool r,[])
def q3jz (F:q3jw→Option q3jx):Go.Tx.Spec:=⟨44,q3jv,q3jx,F,q3jy⟩
abbrev q3k0:Type:=(qpt→Option qpu)×Unit
def q3k1 (d:Nat):q3k0:=(qpy d,())
def q3k2 (C:q3k0):List Go.Tx.Spec:=[qpw C.1]
abbrev q3k3:Type:=List Diii×Int×Int×Int×Int
def q3k4 (v:q3k3):St:=⟨[(0,.agg [.fz Riii v.1]),(1,.agg [i6 v.2.1,i6 v.2.2.1]),(2,i6 v.2.2.2.1),(3,i6 v.2.2.2.2)],[]⟩
abbrev q3k5:Type:=Int×Int×List Diii×Int×Int
def q3k6 (v:q3k5):St:=⟨[(2,i6 v.1),(3,i6 v.2.1),(4,.ptr 0 0),(5,.ptr 1 0)],[.cells [.fz Riii v.2.2.1],.cells [i6 v.2.2.2.1,i6 v.2.2.2.2]]⟩
def q3k7 (C:q3k0) (v:q3k3):Dt q3k5:=(Dt.ret (v.2.2.2.1,v.2.2.2.2,v.1,v.2.1,v.2.2.1))
abbrev q3o6 {V Y:Type}:=@rg q3k0 V Y tysT (fun C=>(orc (q3k2 C))) 46
theorem q3k8 C v:q3o6 (regO (qea f44) 0) false [(2,.any),(3,.any),(4,(.box [.val Riii])),(5,.any)] q3k4 q3k7 q3k6 C v:=rgI (by kernel_rfl)
abbrev q3k9:Type:=Int×Int×Int×List Diii×Int×Int
def q3ka (v:q3k9):St:=⟨[(2,i6 v.1),(3,i6 v.2.1),(4,.ptr 0 0),(5,.ptr 1 0),(9,i6 v.2.2.1)],[.cells [.fz Riii v.2.2.2.1],.cells [i6 v.2.2.2.2.1,i6 v.2.2.2.2.2]]⟩
def q3kb (C:q3k0) (v:q3k5):Dt q3k9:=(Dt.ret (v.1,v.2.1,(tmin v.1 v.2.1),v.2.2.1,v.2.2.2.1,v.2.2.2.2))
theorem q3kc C v:q3o6 (regO (qea f44) 1) false [(2,.any),(3,.any),(4,(.box [.val Riii])),(5,.any),(9,.any)] q3k6 q3kb q3ka C v:=rgI (by kernel_rfl)
abbrev q3kd:Type:=Int×Int×Int×Bool×List Diii×Int×Int
def q3ke (v:q3kd):St:=⟨[(2,i6 v.1),(3,i6 v.2.1),(4,.ptr 0 0),(5,.ptr 1 0),(9,i6 v.2.2.1),(19,.bool v.2.2.2.1)],[.cells [.fz Riii v.2.2.2.2.1],.cells [i6 v.2.2.2.2.2.1,i6 v.2.2.2.2.2.2]]⟩
def q3kf (C:q3k0) (v:q3k9):Dt q3kd:=(Dt.ret (v.1,v.2.1,v.2.2.1,(decide (v.2.2.1≤(tmax v.1 v.2.1))),v.2.2.2.1,v.2.2.2.2.1,v.2.2.2.2.2))
theorem q3kg C v:q3o6 (regO (qea f44) 2) false [(2,.any),(3,.any),(4,(.box [.val Riii])),(5,.any),(9,.any),(19,.any)] q3ka q3kf q3ke C v:=rgI (by kernel_rfl)
abbrev q3kh:Type:=Int×Int×Int×Bool×List Diii×Int×Int
def q3ki (v:q3kh):St:=⟨[(2,i6 v.1),(3,i6 v.2.1),(4,.ptr 0 0),(5,.ptr 1 0),(9,i6 v.2.2.1),(24,.bool v.2.2.2.1)],[.cells [.fz Riii v.2.2.2.2.1],.cells [i6 v.2.2.2.2.2.1,i6 v.2.2.2.2.2.2]]⟩
def q3kj (C:q3k0) (v:q3kd):Dt q3kh:=(Dt.ret (v.1,v.2.1,v.2.2.1,(v.2.2.1 == v.1),v.2.2.2.2.1,v.2.2.2.2.2.1,v.2.2.2.2.2.2))
theorem q3kk C v:q3o6 (regO (qea f44) 4) false [(2,.any),(3,.any),(4,(.box [.val Riii])),(5,.any),(9,.any),(24,.any)] q3ke q3kj q3ki C v:=rgI (by kernel_rfl)
def q3kl (C:q3k0) (v:q3k9):Dt q3k9:=(Dt.ret (v.1,v.2.1,(IntKind.wrap .i64 (v.2.2.1+(1:Int))),v.2.2.2.1,v.2.2.2.2.1,v.2.2.2.2.2))
theorem q3km C v:q3o6 (regO (qea f44) 3) false [(2,.any),(3,.any),(4,(.box [.val Riii])),(5,.any),(9,.any)] q3ka q3kl q3ka C v:=rgI (by kernel_rfl)
def q3kn  (d:Nat) (self1:(Int×Int×Int×List Diii×Int×Int)→Option q3jx) (z:Int×Int×Int×List Diii×Int×Int):Option (q3jx) :=
 (q3kl (q3k1 d) z).eval fun y3 =>
 self1 y3
abbrev q3ko:Type:=Int×Int×Int×Bool×Int×List Diii×Int×Int
def q3kp (v:q3ko):St:=⟨[(2,i6 v.1),(3,i6 v.2.1),(4,.ptr 0 0),(5,.ptr 1 0),(9,i6 v.2.2.1),(10,.bool v.2.2.2.1),(11,i6 v.2.2.2.2.1)],[.cells [.fz Riii v.2.2.2.2.2.1],.cells [i6 v.2.2.2.2.2.2.1,i6 v.2.2.2.2.2.2.2]]⟩
def q3kq (C:q3k0) (v:q3kh):Dt q3ko:=(Dt.ite (inB v.1 (List.length v.2.2.2.2.1)) (Dt.ite (inB v.2.2.1 (List.length v.2.2.2.2.1)) (Dt.bnd (C.1 (((elt ziii v.2.2.2.2.1 (v.1).toNat).1,(elt ziii v.2.2.2.2.1 (v.1).toNat).2.1,(elt ziii v.2.2.2.2.1 (v.1).toNat).2.2.1,()),((elt ziii v.2.2.2.2.1 (v.2.2.1).toNat).1,(elt ziii v.2.2.2.2.1 (v.2.2.1).toNat).2.1,(elt ziii v.2.2.2.2.1 (v.2.2.1).toNat).2.2.1,()),(v.2.2.2.2.2.1,v.2.2.2.2.2.2,()),())) fun r1=>(Dt.ret (v.1,v.2.1,v.2.2.1,r1.1,r1.2,v.2.2.2.2.1,v.2.2.2.2.2.1,v.2.2.2.2.2.2))) Dt.fail) Dt.fail)
theorem q3kr C v:q3o6 (regO (qea f44) 5) true [(2,.any),(3,.any),(4,(.box [.val Riii])),(5,.any),(9,.any),(10,.any),(11,.any)] q3ki q3kq q3kp C v:=rgI (by kernel_rfl)
abbrev q3ks:Type:=Int×Int×Int×Bool×List Diii×Int×Int
def q3kt (v:q3ks):St:=⟨[(2,i6 v.1),(3,i6 v.2.1),(4,.ptr 0 0),(5,.ptr 1 0),(9,i6 v.2.2.1),(45,.bool v.2.2.2.1)],[.cells [.fz Riii v.2.2.2.2.1],.cells [i6 v.2.2.2.2.2.1,i6 v.2.2.2.2.2.2]]⟩
def q3ku (C:q3k0) (v:q3ko):Dt q3ks:=(Dt.ite (v.2.2.2.2.1 != (0:Int)) (Dt.ret (v.1,v.2.1,v.2.2.1,true,v.2.2.2.2.2.1,v.2.2.2.2.2.2.1,v.2.2.2.2.2.2.2)) (Dt.ret (v.1,v.2.1,v.2.2.1,(!v.2.2.2.1),v.2.2.2.2.2.1,v.2.2.2.2.2.2.1,v.2.2.2.2.2.2.2)))
theorem q3kv C v:q3o6 (regO (qea f44) 6) false [(2,.any),(3,.any),(4,(.box [.val Riii])),(5,.any),(9,.any),(45,.any)] q3kp q3ku q3kt C v:=rgI (by kernel_rfl)
abbrev q3kw:Type:=Bool
def q3kx (v:q3kw):St:=⟨[(8,.bool v)],[]⟩
def q3ky (C:q3k0) (v:q3ks):Dt q3kw:=(Dt.ret false)
theorem q3kz C v:q3o6 (regO (qea f44) 7) false [(8,.any)] q3kt q3ky q3kx C v:=rgI (by kernel_rfl)
def q3l0 (C:q3k0) (v:q3kd):Dt q3kw:=(Dt.ret true)
theorem q3l1 C v:q3o6 (regO (qea f44) 8) false [(8,.any)] q3ke q3l0 q3kx C v:=rgI (by kernel_rfl)
def q3l2 (d:Nat) (self1:(Int×Int×Int×List Diii×Int×Int)→Option q3jx) (x1:Int×Int×Int×List Diii×Int×Int):Option q3jx :=
 (q3kf (q3k1 d) x1).eval fun y2 =>
 bif y2.2.2.2.1 then ((q3kj (q3k1 d) y2).eval fun y4 =>
 bif y4.2.2.2.1 then (q3kn d self1 (y4.1,y4.2.1,y4.2.2.1,y4.2.2.2.2.1,y4.2.2.2.2.2.1,y4.2.2.2.2.2.2)) else ((q3kq (q3k1 d) y4).eval fun y5 =>
 (q3ku (q3k1 d) y5).eval fun y6 =>
 bif y6.2.2.2.1 then ((q3ky (q3k1 d) y6).eval fun y7 =>
 some y7) else (q3kn d self1 (y6.1,y6.2.1,y6.2.2.1,y6.2.2.2.2.1,y6.2.2.2.2.2.1,y6.2.2.2.2.2.2)))) else ((q3l0 (q3k1 d) y2).eval fun y8 =>
 some y8)
def q3l3 (d:Nat) (x:q3jw):Option q3jx :=
 (q3k7 (q3k1 d) (x.1.1,x.2.1.1,x.2.1.2.1,x.2.2.1.1,x.2.2.2.1.1)).eval fun y0 =>
 (q3kb (q3k1 d) y0).eval fun y1 =>
 iter (q3l2 d ) d y1
theorem q3l4 (d:Nat):COK prog (q3jz (q3l3 d)):=by
 have hm:prog.follows .mixedOrders=true:=mixed
 have hT:=tys
 have hC0:OrcOK prog (orc (q3k2 (q3k1 d))):=qe4 (by
  intro S hS
  simp only [q3k2,List.mem_cons,List.not_mem_nil,or_false] at hS
  subst hS;exact qq0 d)
 have hC:OrcOK prog (orc (q3k2 (q3k1 d))):=hC0
 refine q9t (c:=qea f44) (fn:=f44) hT (by kernel_rfl) (by kernel_rfl) (by decide) fun x r h w0 φ0 Q hend=>?_
 replace h:q3l3 d x=some r:=h
 unfold q3l3 at h
 show Run prog w0 φ0 46 (qea f44) ⟨[(0,.agg [.fz Riii x.1.1]),(1,.agg [.int .i64 x.2.1.1,.int .i64 x.2.1.2.1]),(2,.int .i64 x.2.2.1.1),(3,.int .i64 x.2.2.2.1.1)],[]⟩ Q
 refine q344 hm hT hC (q3k8 (q3k1 d) (x.1.1,x.2.1.1,x.2.1.2.1,x.2.2.1.1,x.2.2.2.1.1)) h fun y0 h=>?_
 refine q9d ?_
 refine q344 hm hT hC (q3kc (q3k1 d) y0) h fun y1 h=>?_
 refine q9e ?_
 refine q9j (G:=iter (q3l2 d )) (S:=(fun x1=>⟨[(2,i6 x1.1),(3,i6 x1.2.1),(4,.ptr 0 0),(5,.ptr 1 0),(9,i6 x1.2.2.1)],[.cells [.fz Riii x1.2.2.2.1],.cells [i6 x1.2.2.2.2.1,i6 x1.2.2.2.2.2]]⟩:Int×Int×Int×List Diii×Int×Int→St)) (fun _=>rfl) ?_ d _ h
 intro n1 x1 h K1 hn1
 replace h:q3l2 d  (iter (q3l2 d ) n1) x1=some r:=h
 generalize iter (q3l2 d ) n1=self1 at h hn1
 unfold q3l2 at h
 refine q9d ?_
 refine q344 hm hT hC (q3kg (q3k1 d) x1) h fun y2 h=>?_
 refine q9h (v:=y2.2.2.2.1) (by kernel_rfl) h ?_ ?_
 ·
  intro h
  refine q99 (q8z ?_)
  refine q9g (r:=r) (F:=q3kn d self1) (S:=(fun z=>⟨[(2,i6 z.1),(3,i6 z.2.1),(4,.ptr 0 0),(5,.ptr 1 0),(9,i6 z.2.2.1)],[.cells [.fz Riii z.2.2.2.1],.cells [i6 z.2.2.2.2.1,i6 z.2.2.2.2.2]]⟩:Int×Int×Int×List Diii×Int×Int→St)) ?_ ?_
  ·
   intro z h
   unfold q3kn at h
   refine q9i hm hT hC (q3km (q3k1 d) z) h ?_
   intro y3 h
   exact hn1 _ h
  intro hj2
  refine q9e (q9d ?_)
  refine q344 hm hT hC (q3kk (q3k1 d) y2) h fun y4 h=>?_
  refine q9h (v:=y4.2.2.2.1) (by kernel_rfl) h ?_ ?_
  ·
   intro h
   refine q9b (q90 (q94 ?_))
   refine qe9 (s:=⟨[(2,.int .i64 y4.1),(3,.int .i64 y4.2.1),(4,.ptr 0 0),(5,.ptr 1 0),(9,.int .i64 y4.2.2.1)],[.cells [.fz Riii y4.2.2.2.2.1],.cells [.int .i64 y4.2.2.2.2.2.1,.int .i64 y4.2.2.2.2.2.2]]⟩) [24] (by kernel_rfl) ?_
   exact hj2 _ h
  ·
   intro h
   refine q99 (q8z ?_)
   refine q344 hm hT hC (q3kr (q3k1 d) y4) h fun y5 h=>?_
   refine q344 hm hT hC (q3kv (q3k1 d) y5) h fun y6 h=>?_
   refine q9h (v:=y6.2.2.2.1) (by kernel_rfl) h ?_ ?_
   ·
    intro h
    refine q344 hm hT hC (q3kz (q3k1 d) y6) h fun y7 h=>?_
    refine q9c (q93 (q91 (q91 (q93 (q91 ?_)))))
    cases h
    exact (hend _ (by kernel_rfl)).2
   ·
    intro h
    refine q99 (q92 ?_)
    refine qe9 (s:=⟨[(2,.int .i64 y6.1),(3,.int .i64 y6.2.1),(4,.ptr 0 0),(5,.ptr 1 0),(9,.int .i64 y6.2.2.1)],[.cells [.fz Riii y6.2.2.2.2.1],.cells [.int .i64 y6.2.2.2.2.2.1,.int .i64 y6.2.2.2.2.2.2]]⟩) [45] (by kernel_rfl) ?_
    exact hj2 _ h
 ·
  intro h
  refine q9b (q90 (q90 (q94 (q8z ?_))))
  refine q344 hm hT hC (q3l1 (q3k1 d) y2) h fun y8 h=>?_
  refine q9c ?_
  cases h
  exact (hend _ (by kernel_rfl)).2
abbrev q3l5:List Pk:=[.row qks true,.row Rii true,.row Ri false]
abbrev q3l6:Type:=qkt×Dii×Di×Unit
abbrev q3l7:Type:=Bool
def q3l8 (r:q3l7):LV×List Ob:=(.bool r,[])
def q3l9 (F:q3l6→Option q3l7):Go.Tx.Spec:=⟨8,q3l5,q3l7,F,q3l8⟩
abbrev q3la:Type:=(q132→Option q133)×(q10g→Option q10h)×(q1mr→Option q1ms)×(q3cw→Option q3cx)×(q2vy→Option q2vz)×(quu→Option quv)×(qqt→Option qqu)×(q3jw→Option q3jx)×Unit
def q3lb (d:Nat):q3la:=(q15h d,q125 d,q1ow d,q3dd d,q2wt d,quz d,qqy d,q3l3 d,())
def q3lc (C:q3la):List Go.Tx.Spec:=[q135 C.1,q10j C.2.1,q1mu C.2.2.1,q3cz C.2.2.2.1,q2w1 C.2.2.2.2.1,qux C.2.2.2.2.2.1,qqw C.2.2.2.2.2.2.1,q3jz C.2.2.2.2.2.2.2.1]
abbrev q3ld:Type:=List Diii×Int×Int×Int
def q3le (v:q3ld):St:=⟨[(0,.agg [.fz Riii v.1]),(1,.agg [i6 v.2.1,i6 v.2.2.1]),(2,i6 v.2.2.2)],[]⟩
abbrev q3lf:Type:=Int×List Diii×Int×Int
def q3lg (v:q3lf):St:=⟨[(2,i6 v.1),(3,.ptr 0 0),(4,.ptr 1 0)],[.cells [.fz Riii v.2.1],.cells [i6 v.2.2.1,i6 v.2.2.2]]⟩
def q3lh (C:q3la) (v:q3ld):Dt q3lf:=(Dt.ret (v.2.2.2,v.1,v.2.1,v.2.2.1))
abbrev q3o7 {V Y:Type}:=@rg q3la V Y tysT (fun C=>(orc (q3lc C))) 123
theorem q3li C v:q3o7 (regO (qea f8) 0) false [(2,.any),(3,(.box [.val Riii])),(4,.any)] q3le q3lh q3lg C v:=rgI (by kernel_rfl)
abbrev q3lj:Type:=Int×Bool×List Diii×Int×Int
def q3lk (v:q3lj):St:=⟨[(2,i6 v.1),(3,.ptr 0 0),(4,.ptr 1 0),(19,.bool v.2.1)],[.cells [.fz Riii v.2.2.1],.cells [i6 v.2.2.2.1,i6 v.2.2.2.2]]⟩
def q3ll (C:q3la) (v:q3lf):Dt q3lj:=(Dt.bnd (C.2.2.2.1 ((v.2.1,()),(v.2.2.1,v.2.2.2,()),())) fun r1=>(Dt.ret (v.1,(!r1),v.2.1,v.2.2.1,v.2.2.2)))
theorem q3lm C v:q3o7 (regO (qea f8) 1) false [(2,.any),(3,(.box [.val Riii])),(4,.any),(19,.any)] q3lg q3ll q3lk C v:=rgI (by kernel_rfl)
abbrev q3ln:Type:=Bool
def q3lo (v:q3ln):St:=⟨[(6,.bool v)],[]⟩
def q3lp (C:q3la) (v:q3lj):Dt q3ln:=(Dt.bnd (C.2.2.2.2.1 (())) fun r1=>(Dt.ret r1))
theorem q3lq C v:q3o7 (regO (qea f8) 2) false [(6,.any)] q3lk q3lp q3lo C v:=rgI (by kernel_rfl)
abbrev q3lr:Type:=Int×Int×List Diii×Int×Int×Int×List Diii
def q3ls (v:q3lr):St:=⟨[(2,i6 v.1),(3,.ptr 0 0),(4,.ptr 1 0),(7,.ptr 2 0),(8,i6 v.2.1)],[.cells [.fz Riii v.2.2.1],.cells [i6 v.2.2.2.1,i6 v.2.2.2.2.1],.cells [i6 v.2.2.2.2.2.1,.rs 3],.rows Riii v.2.2.2.2.2.2]⟩
def q3lt (C:q3la) (v:q3lj):Dt q3lr:=(Dt.bnd (C.1 ((v.2.2.1,()),(v.2.2.2.1,v.2.2.2.2,()),())) fun r1=>(Dt.ret (v.1,r1.2.2,v.2.2.1,v.2.2.2.1,v.2.2.2.2,r1.1,r1.2.1)))
theorem q3lu C v:q3o7 (regO (qea f8) 3) false [(2,.any),(3,(.box [.val Riii])),(4,.any),(7,(.box [.any,.own Riii])),(8,.any)] q3lk q3lt q3ls C v:=rgI (by kernel_rfl)
abbrev q3lv:Type:=Int×Int×Int×Int×List Diii×Int×Int×Int×List Diii
def q3lw (v:q3lv):St:=⟨[(2,i6 v.1),(3,.ptr 0 0),(4,.ptr 1 0),(7,.ptr 2 0),(8,i6 v.2.1),(9,i6 v.2.2.1),(10,i6 v.2.2.2.1)],[.cells [.fz Riii v.2.2.2.2.1],.cells [i6 v.2.2.2.2.2.1,i6 v.2.2.2.2.2.2.1],.cells [i6 v.2.2.2.2.2.2.2.1,.rs 3],.rows Riii v.2.2.2.2.2.2.2.2]⟩
def q3lx (C:q3la) (v:q3lr):Dt q3lv:=(Dt.bnd (C.2.2.2.2.2.1 ((v.2.2.1,()),(v.2.2.2.1,v.2.2.2.2.1,()),())) fun r1=>(Dt.ret (v.1,v.2.1,r1.1,r1.2,v.2.2.1,v.2.2.2.1,v.2.2.2.2.1,v.2.2.2.2.2.1,v.2.2.2.2.2.2)))
theorem q3ly C v:q3o7 (regO (qea f8) 4) false [(2,.any),(3,(.box [.val Riii])),(4,.any),(7,(.box [.any,.own Riii])),(8,.any),(9,.any),(10,.any)] q3ls q3lx q3lw C v:=rgI (by kernel_rfl)
abbrev q3lz:Type:=Int×Int×Int×Int×Int×Int×List Diii×Int×Int×Int×List Diii
def q3m0 (v:q3lz):St:=⟨[(2,i6 v.1),(3,.ptr 0 0),(4,.ptr 1 0),(7,.ptr 2 0),(8,i6 v.2.1),(9,i6 v.2.2.1),(10,i6 v.2.2.2.1),(11,i6 v.2.2.2.2.1),(12,i6 v.2.2.2.2.2.1)],[.cells [.fz Riii v.2.2.2.2.2.2.1],.cells [i6 v.2.2.2.2.2.2.2.1,i6 v.2.2.2.2.2.2.2.2.1],.cells [i6 v.2.2.2.2.2.2.2.2.2.1,.rs 3],.rows Riii v.2.2.2.2.2.2.2.2.2.2]⟩
def q3m1 (C:q3la) (v:q3lv):Dt q3lz:=(Dt.bnd (C.2.1 ((v.2.2.2.2.2.2.2.1,v.2.2.2.2.2.2.2.2,()),(v.1,()),())) fun r1=>(Dt.ret (v.1,v.2.1,v.2.2.1,v.2.2.2.1,r1.1,r1.2,v.2.2.2.2.1,v.2.2.2.2.2.1,v.2.2.2.2.2.2.1,v.2.2.2.2.2.2.2.1,v.2.2.2.2.2.2.2.2)))
theorem q3m2 C v:q3o7 (regO (qea f8) 5) false [(2,.any),(3,(.box [.val Riii])),(4,.any),(7,(.box [.any,.own Riii])),(8,.any),(9,.any),(10,.any),(11,.any),(12,.any)] q3lw q3m1 q3m0 C v:=rgI (by kernel_rfl)
abbrev q3m3:Type:=Int×Int×Int×Int×Int×Int×List Diii×Int×Int×Int×List Diii
def q3m4 (v:q3m3):St:=⟨[(3,.ptr 0 0),(4,.ptr 1 0),(7,.ptr 2 0),(8,i6 v.1),(9,i6 v.2.1),(10,i6 v.2.2.1),(11,i6 v.2.2.2.1),(12,i6 v.2.2.2.2.1),(13,i6 v.2.2.2.2.2.1)],[.cells [.fz Riii v.2.2.2.2.2.2.1],.cells [i6 v.2.2.2.2.2.2.2.1,i6 v.2.2.2.2.2.2.2.2.1],.cells [i6 v.2.2.2.2.2.2.2.2.2.1,.rs 3],.rows Riii v.2.2.2.2.2.2.2.2.2.2]⟩
def q3m5 (C:q3la) (v:q3lz):Dt q3m3:=(Dt.bnd (C.2.2.2.2.2.2.1 ((v.2.2.2.2.2.2.1,()),(v.1,()),())) fun r1=>(Dt.ret (v.2.1,v.2.2.1,v.2.2.2.1,v.2.2.2.2.1,v.2.2.2.2.2.1,r1,v.2.2.2.2.2.2.1,v.2.2.2.2.2.2.2.1,v.2.2.2.2.2.2.2.2.1,v.2.2.2.2.2.2.2.2.2.1,v.2.2.2.2.2.2.2.2.2.2)))
theorem q3m6 C v:q3o7 (regO (qea f8) 6) false [(3,(.box [.val Riii])),(4,.any),(7,(.box [.any,.own Riii])),(8,.any),(9,.any),(10,.any),(11,.any),(12,.any),(13,.any)] q3m0 q3m5 q3m4 C v:=rgI (by kernel_rfl)
abbrev q3m7:Type:=Int×Int×Int×Int×Bool×List Diii×Int×Int×Int×List Diii
def q3m8 (v:q3m7):St:=⟨[(3,.ptr 0 0),(4,.ptr 1 0),(7,.ptr 2 0),(9,i6 v.1),(11,i6 v.2.1),(12,i6 v.2.2.1),(13,i6 v.2.2.2.1),(73,.bool v.2.2.2.2.1)],[.cells [.fz Riii v.2.2.2.2.2.1],.cells [i6 v.2.2.2.2.2.2.1,i6 v.2.2.2.2.2.2.2.1],.cells [i6 v.2.2.2.2.2.2.2.2.1,.rs 3],.rows Riii v.2.2.2.2.2.2.2.2.2]⟩
def q3m9 (C:q3la) (v:q3m3):Dt q3m7:=(Dt.ite (v.1 != (0:Int)) (Dt.ret (v.2.1,v.2.2.2.1,v.2.2.2.2.1,v.2.2.2.2.2.1,true,v.2.2.2.2.2.2.1,v.2.2.2.2.2.2.2.1,v.2.2.2.2.2.2.2.2.1,v.2.2.2.2.2.2.2.2.2.1,v.2.2.2.2.2.2.2.2.2.2)) (Dt.bnd (C.2.2.1 ((v.2.2.2.2.2.2.2.2.2.1,v.2.2.2.2.2.2.2.2.2.2,()),())) fun r1=>(Dt.ite (r1 != (0:Int)) (Dt.ret (v.2.1,v.2.2.2.1,v.2.2.2.2.1,v.2.2.2.2.2.1,true,v.2.2.2.2.2.2.1,v.2.2.2.2.2.2.2.1,v.2.2.2.2.2.2.2.2.1,v.2.2.2.2.2.2.2.2.2.1,v.2.2.2.2.2.2.2.2.2.2)) (Dt.ite ((List.length v.2.2.2.2.2.2.2.2.2.2:Int) != (List.length v.2.2.2.2.2.2.1:Int)) (Dt.ret (v.2.1,v.2.2.2.1,v.2.2.2.2.1,v.2.2.2.2.2.1,true,v.2.2.2.2.2.2.1,v.2.2.2.2.2.2.2.1,v.2.2.2.2.2.2.2.2.1,v.2.2.2.2.2.2.2.2.2.1,v.2.2.2.2.2.2.2.2.2.2)) (Dt.ite (!((v.2.2.1 == (0:Int)) == (decide ((List.length v.2.2.2.2.2.2.1:Int) > (0:Int))))) (Dt.ret (v.2.1,v.2.2.2.1,v.2.2.2.2.1,v.2.2.2.2.2.1,true,v.2.2.2.2.2.2.1,v.2.2.2.2.2.2.2.1,v.2.2.2.2.2.2.2.2.1,v.2.2.2.2.2.2.2.2.2.1,v.2.2.2.2.2.2.2.2.2.2)) (Dt.ret (v.2.1,v.2.2.2.1,v.2.2.2.2.1,v.2.2.2.2.2.1,(!((v.2.2.2.2.1 == (0:Int)) == (decide (v.2.2.2.2.2.1≥(0:Int))))),v.2.2.2.2.2.2.1,v.2.2.2.2.2.2.2.1,v.2.2.2.2.2.2.2.2.1,v.2.2.2.2.2.2.2.2.2.1,v.2.2.2.2.2.2.2.2.2.2)))))))
theorem q3ma C v:q3o7 (regO (qea f8) 7) false [(3,(.box [.val Riii])),(4,.any),(7,(.box [.any,.own Riii])),(9,.any),(11,.any),(12,.any),(13,.any),(73,.any)] q3m4 q3m9 q3m8 C v:=rgI (by kernel_rfl)
def q3mb (C:q3la) (v:q3m7):Dt q3ln:=(Dt.ret false)
theorem q3mc C v:q3o7 (regO (qea f8) 8) false [(6,.any)] q3m8 q3mb q3lo C v:=rgI (by kernel_rfl)
abbrev q3md:Type:=Int×Int×Int×Int×Bool×List Diii×Int×Int×Int×List Diii
def q3me (v:q3md):St:=⟨[(3,.ptr 0 0),(4,.ptr 1 0),(7,.ptr 2 0),(9,i6 v.1),(11,i6 v.2.1),(12,i6 v.2.2.1),(13,i6 v.2.2.2.1),(81,.bool v.2.2.2.2.1)],[.cells [.fz Riii v.2.2.2.2.2.1],.cells [i6 v.2.2.2.2.2.2.1,i6 v.2.2.2.2.2.2.2.1],.cells [i6 v.2.2.2.2.2.2.2.2.1,.rs 3],.rows Riii v.2.2.2.2.2.2.2.2.2]⟩
def q3mf (C:q3la) (v:q3m7):Dt q3md:=(Dt.ite ((List.length v.2.2.2.2.2.1:Int) == (0:Int)) (Dt.ret (v.1,v.2.1,v.2.2.1,v.2.2.2.1,true,v.2.2.2.2.2.1,v.2.2.2.2.2.2.1,v.2.2.2.2.2.2.2.1,v.2.2.2.2.2.2.2.2.1,v.2.2.2.2.2.2.2.2.2)) (Dt.ret (v.1,v.2.1,v.2.2.1,v.2.2.2.1,(decide (v.2.2.2.1<(0:Int))),v.2.2.2.2.2.1,v.2.2.2.2.2.2.1,v.2.2.2.2.2.2.2.1,v.2.2.2.2.2.2.2.2.1,v.2.2.2.2.2.2.2.2.2)))
theorem q3mg C v:q3o7 (regO (qea f8) 9) false [(3,(.box [.val Riii])),(4,.any),(7,(.box [.any,.own Riii])),(9,.any),(11,.any),(12,.any),(13,.any),(81,.any)] q3m8 q3mf q3me C v:=rgI (by kernel_rfl)
def q3mh (C:q3la) (v:q3md):Dt q3ln:=(Dt.ite (v.2.2.1 == (6:Int)) (Dt.bnd (C.2.2.2.2.1 (())) fun r1=>(Dt.ret r1)) (Dt.ret false))
theorem q3mi C v:q3o7 (regO (qea f8) 10) false [(6,.any)] q3me q3mh q3lo C v:=rgI (by kernel_rfl)
abbrev q3mj:Type:=Int×Int×Int×Int×List Diii×Int×Int×Int×List Diii
def q3mk (v:q3mj):St:=⟨[(3,.ptr 0 0),(4,.ptr 1 0),(7,.ptr 2 0),(9,i6 v.1),(11,i6 v.2.1),(13,i6 v.2.2.1),(14,i6 v.2.2.2.1)],[.cells [.fz Riii v.2.2.2.2.1],.cells [i6 v.2.2.2.2.2.1,i6 v.2.2.2.2.2.2.1],.cells [i6 v.2.2.2.2.2.2.2.1,.rs 3],.rows Riii v.2.2.2.2.2.2.2.2]⟩
def q3ml (C:q3la) (v:q3md):Dt q3mj:=(Dt.ret (v.1,v.2.1,v.2.2.2.1,(0:Int),v.2.2.2.2.2.1,v.2.2.2.2.2.2.1,v.2.2.2.2.2.2.2.1,v.2.2.2.2.2.2.2.2.1,v.2.2.2.2.2.2.2.2.2))
theorem q3mm C v:q3o7 (regO (qea f8) 11) false [(3,(.box [.val Riii])),(4,.any),(7,(.box [.any,.own Riii])),(9,.any),(11,.any),(13,.any),(14,.any)] q3me q3ml q3mk C v:=rgI (by kernel_rfl)
abbrev q3mn:Type:=Int×Int×Int×Int×Int×List Diii×Int×Int×Int×List Diii
def q3mo (v:q3mn):St:=⟨[(3,.ptr 0 0),(4,.ptr 1 0),(7,.ptr 2 0),(9,i6 v.1),(11,i6 v.2.1),(13,i6 v.2.2.1),(14,i6 v.2.2.2.1),(15,i6 v.2.2.2.2.1)],[.cells [.fz Riii v.2.2.2.2.2.1],.cells [i6 v.2.2.2.2.2.2.1,i6 v.2.2.2.2.2.2.2.1],.cells [i6 v.2.2.2.2.2.2.2.2.1,.rs 3],.rows Riii v.2.2.2.2.2.2.2.2.2]⟩
def q3mp (C:q3la) (v:q3mj):Dt q3mn:=(Dt.ret (v.1,v.2.1,v.2.2.1,v.2.2.2.1,(0:Int),v.2.2.2.2.1,v.2.2.2.2.2.1,v.2.2.2.2.2.2.1,v.2.2.2.2.2.2.2.1,v.2.2.2.2.2.2.2.2))
theorem q3mq C v:q3o7 (regO (qea f8) 12) false [(3,(.box [.val Riii])),(4,.any),(7,(.box [.any,.own Riii])),(9,.any),(11,.any),(13,.any),(14,.any),(15,.any)] q3mk q3mp q3mo C v:=rgI (by kernel_rfl)
abbrev q3mr:Type:=Int×Int×Int×Int×Int×Bool×List Diii×Int×Int×Int×List Diii
def q3ms (v:q3mr):St:=⟨[(3,.ptr 0 0),(4,.ptr 1 0),(7,.ptr 2 0),(9,i6 v.1),(11,i6 v.2.1),(13,i6 v.2.2.1),(14,i6 v.2.2.2.1),(15,i6 v.2.2.2.2.1),(91,.bool v.2.2.2.2.2.1)],[.cells [.fz Riii v.2.2.2.2.2.2.1],.cells [i6 v.2.2.2.2.2.2.2.1,i6 v.2.2.2.2.2.2.2.2.1],.cells [i6 v.2.2.2.2.2.2.2.2.2.1,.rs 3],.rows Riii v.2.2.2.2.2.2.2.2.2.2]⟩
def q3mt (C:q3la) (v:q3mn):Dt q3mr:=(Dt.ret (v.1,v.2.1,v.2.2.1,v.2.2.2.1,v.2.2.2.2.1,(decide (v.2.2.2.2.1<(List.length v.2.2.2.2.2.1:Int))),v.2.2.2.2.2.1,v.2.2.2.2.2.2.1,v.2.2.2.2.2.2.2.1,v.2.2.2.2.2.2.2.2.1,v.2.2.2.2.2.2.2.2.2))
theorem q3mu C v:q3o7 (regO (qea f8) 13) false [(3,(.box [.val Riii])),(4,.any),(7,(.box [.any,.own Riii])),(9,.any),(11,.any),(13,.any),(14,.any),(15,.any),(91,.any)] q3mo q3mt q3ms C v:=rgI (by kernel_rfl)
abbrev q3mv:Type:=Int×Int×Int×Int×Int×Bool×List Diii×Int×Int×Int×List Diii
def q3mw (v:q3mv):St:=⟨[(3,.ptr 0 0),(4,.ptr 1 0),(7,.ptr 2 0),(9,i6 v.1),(11,i6 v.2.1),(13,i6 v.2.2.1),(14,i6 v.2.2.2.1),(15,i6 v.2.2.2.2.1),(103,.bool v.2.2.2.2.2.1)],[.cells [.fz Riii v.2.2.2.2.2.2.1],.cells [i6 v.2.2.2.2.2.2.2.1,i6 v.2.2.2.2.2.2.2.2.1],.cells [i6 v.2.2.2.2.2.2.2.2.2.1,.rs 3],.rows Riii v.2.2.2.2.2.2.2.2.2.2]⟩
def q3mx (C:q3la) (v:q3mr):Dt q3mv:=(Dt.ite (v.2.2.2.2.1 != v.2.2.1) (Dt.bnd (C.2.2.2.2.2.2.2.1 ((v.2.2.2.2.2.2.1,()),(v.2.2.2.2.2.2.2.1,v.2.2.2.2.2.2.2.2.1,()),(v.2.2.2.2.1,()),(v.2.2.1,()),())) fun r1=>(Dt.ret (v.1,v.2.1,v.2.2.1,v.2.2.2.1,v.2.2.2.2.1,r1,v.2.2.2.2.2.2.1,v.2.2.2.2.2.2.2.1,v.2.2.2.2.2.2.2.2.1,v.2.2.2.2.2.2.2.2.2.1,v.2.2.2.2.2.2.2.2.2.2))) (Dt.ret (v.1,v.2.1,v.2.2.1,v.2.2.2.1,v.2.2.2.2.1,false,v.2.2.2.2.2.2.1,v.2.2.2.2.2.2.2.1,v.2.2.2.2.2.2.2.2.1,v.2.2.2.2.2.2.2.2.2.1,v.2.2.2.2.2.2.2.2.2.2)))
theorem q3my C v:q3o7 (regO (qea f8) 15) false [(3,(.box [.val Riii])),(4,.any),(7,(.box [.any,.own Riii])),(9,.any),(11,.any),(13,.any),(14,.any),(15,.any),(103,.any)] q3ms q3mx q3mw C v:=rgI (by kernel_rfl)
def q3mz (C:q3la) (v:q3mv):Dt q3mn:=(Dt.ret (v.1,v.2.1,v.2.2.1,(IntKind.wrap .i64 (v.2.2.2.1+(1:Int))),v.2.2.2.2.1,v.2.2.2.2.2.2.1,v.2.2.2.2.2.2.2.1,v.2.2.2.2.2.2.2.2.1,v.2.2.2.2.2.2.2.2.2.1,v.2.2.2.2.2.2.2.2.2.2))
theorem q3n0 C v:q3o7 (regO (qea f8) 16) false [(3,(.box [.val Riii])),(4,.any),(7,(.box [.any,.own Riii])),(9,.any),(11,.any),(13,.any),(14,.any),(15,.any)] q3mw q3mz q3mo C v:=rgI (by kernel_rfl)
def q3n1 (C:q3la) (v:q3mn):Dt q3mn:=(Dt.ret (v.1,v.2.1,v.2.2.1,v.2.2.2.1,(IntKind.wrap .i64 (v.2.2.2.2.1+(1:Int))),v.2.2.2.2.2.1,v.2.2.2.2.2.2.1,v.2.2.2.2.2.2.2.1,v.2.2.2.2.2.2.2.2.1,v.2.2.2.2.2.2.2.2.2))
theorem q3n2 C v:q3o7 (regO (qea f8) 14) false [(3,(.box [.val Riii])),(4,.any),(7,(.box [.any,.own Riii])),(9,.any),(11,.any),(13,.any),(14,.any),(15,.any)] q3mo q3n1 q3mo C v:=rgI (by kernel_rfl)
def q3n3  (d:Nat) (self1:(Int×Int×Int×Int×Int×List Diii×Int×Int×Int×List Diii)→Option q3l7) (z:Int×Int×Int×Int×Int×List Diii×Int×Int×Int×List Diii):Option (q3l7) :=
 (q3n1 (q3lb d) z).eval fun y14 =>
 self1 y14
def q3n4 (C:q3la) (v:q3mr):Dt q3ln:=(Dt.ite (inB v.2.2.2.2.2.2.2.2.2.1 (List.length v.2.2.2.2.2.2.2.2.2.2)) (Dt.ite ((elt ziii v.2.2.2.2.2.2.2.2.2.2 (v.2.2.2.2.2.2.2.2.2.1).toNat).1 == v.1) (Dt.ite (v.2.1 == v.2.2.2.1) (Dt.bnd (C.2.2.2.2.1 (())) fun r1=>(Dt.ret r1)) (Dt.ret false)) (Dt.ret false)) Dt.fail)
theorem q3n5 C v:q3o7 (regO (qea f8) 17) false [(6,.any)] q3ms q3n4 q3lo C v:=rgI (by kernel_rfl)
def q3n6 (d:Nat) (self1:(Int×Int×Int×Int×Int×List Diii×Int×Int×Int×List Diii)→Option q3l7) (x1:Int×Int×Int×Int×Int×List Diii×Int×Int×Int×List Diii):Option q3l7 :=
 (q3mt (q3lb d) x1).eval fun y13 =>
 bif y13.2.2.2.2.2.1 then ((q3mx (q3lb d) y13).eval fun y15 =>
 bif y15.2.2.2.2.2.1 then ((q3mz (q3lb d) y15).eval fun y16 =>
 q3n3 d self1 y16) else (q3n3 d self1 (y15.1,y15.2.1,y15.2.2.1,y15.2.2.2.1,y15.2.2.2.2.1,y15.2.2.2.2.2.2.1,y15.2.2.2.2.2.2.2.1,y15.2.2.2.2.2.2.2.2.1,y15.2.2.2.2.2.2.2.2.2.1,y15.2.2.2.2.2.2.2.2.2.2))) else ((q3n4 (q3lb d) y13).eval fun y17 =>
 some y17)
def q3n7 (d:Nat) (x:q3l6):Option q3l7 :=
 (q3lh (q3lb d) (x.1.1,x.2.1.1,x.2.1.2.1,x.2.2.1.1)).eval fun y0 =>
 (q3ll (q3lb d) y0).eval fun y1 =>
 bif y1.2.1 then ((q3lp (q3lb d) y1).eval fun y2 =>
 some y2) else ((q3lt (q3lb d) y1).eval fun y3 =>
 (q3lx (q3lb d) y3).eval fun y4 =>
 (q3m1 (q3lb d) y4).eval fun y5 =>
 (q3m5 (q3lb d) y5).eval fun y6 =>
 (q3m9 (q3lb d) y6).eval fun y7 =>
 bif y7.2.2.2.2.1 then ((q3mb (q3lb d) y7).eval fun y8 =>
 some y8) else ((q3mf (q3lb d) y7).eval fun y9 =>
 bif y9.2.2.2.2.1 then ((q3mh (q3lb d) y9).eval fun y10 =>
 some y10) else ((q3ml (q3lb d) y9).eval fun y11 =>
 (q3mp (q3lb d) y11).eval fun y12 =>
 iter (q3n6 d ) d y12)))
theorem q3n8 (d:Nat):COK prog (q3l9 (q3n7 d)):=by
 have hm:prog.follows .mixedOrders=true:=mixed
 have hT:=tys
 have hC0:OrcOK prog (orc (q3lc (q3lb d))):=qe4 (by
  intro S hS
  simp only [q3lc,List.mem_cons,List.not_mem_nil,or_false] at hS
  rcases hS with rfl | rfl | rfl | rfl | rfl | rfl | rfl | rfl
  · exact q15i d
  · exact q126 d
  · exact q1ox d
  · exact q3de d
  · exact q2wu d
  · exact qv1 d
  · exact qr0 d
  · exact q3l4 d)
 have hC:OrcOK prog (orc (q3lc (q3lb d))):=hC0
 refine q9t (c:=qea f8) (fn:=f8) hT (by kernel_rfl) (by kernel_rfl) (by decide) fun x r h w0 φ0 Q hend=>?_
 replace h:q3n7 d x=some r:=h
 unfold q3n7 at h
 show Run prog w0 φ0 123 (qea f8) ⟨[(0,.agg [.fz Riii x.1.1]),(1,.agg [.int .i64 x.2.1.1,.int .i64 x.2.1.2.1]),(2,.int .i64 x.2.2.1.1)],[]⟩ Q
 refine q344 hm hT hC (q3li (q3lb d) (x.1.1,x.2.1.1,x.2.1.2.1,x.2.2.1.1)) h fun y0 h=>?_
 refine q9d ?_
 refine q344 hm hT hC (q3lm (q3lb d) y0) h fun y1 h=>?_
 refine q9h (v:=y1.2.1) (by kernel_rfl) h ?_ ?_
 ·
  intro h
  refine q344 hm hT hC (q3lq (q3lb d) y1) h fun y2 h=>?_
  refine q9c (q91 ?_)
  cases h
  exact (hend _ (by kernel_rfl)).2
 ·
  intro h
  refine q99 (q8z ?_)
  refine q344 hm hT hC (q3lu (q3lb d) y1) h fun y3 h=>?_
  refine q344 hm hT hC (q3ly (q3lb d) y3) h fun y4 h=>?_
  refine q344 hm hT hC (q3m2 (q3lb d) y4) h fun y5 h=>?_
  refine q344 hm hT hC (q3m6 (q3lb d) y5) h fun y6 h=>?_
  refine q9d ?_
  refine q344 hm hT hC (q3ma (q3lb d) y6) h fun y7 h=>?_
  refine q9h (v:=y7.2.2.2.2.1) (by kernel_rfl) h ?_ ?_
  ·
   intro h
   refine q344 hm hT hC (q3mc (q3lb d) y7) h fun y8 h=>?_
   refine q9c (q91 ?_)
   cases h
   exact (hend _ (by kernel_rfl)).2
  ·
   intro h
   refine q99 (q8z (q9d ?_))
   refine q344 hm hT hC (q3mg (q3lb d) y7) h fun y9 h=>?_
   refine q9h (v:=y9.2.2.2.2.1) (by kernel_rfl) h ?_ ?_
   ·
    intro h
    refine q344 hm hT hC (q3mi (q3lb d) y9) h fun y10 h=>?_
    refine q9c (q91 ?_)
    cases h
    exact (hend _ (by kernel_rfl)).2
   ·
    intro h
    refine q99 (q8z ?_)
    refine q344 hm hT hC (q3mm (q3lb d) y9) h fun y11 h=>?_
    refine q9d ?_
    refine q344 hm hT hC (q3mq (q3lb d) y11) h fun y12 h=>?_
    refine q9e ?_
    refine q9j (G:=iter (q3n6 d )) (S:=(fun x1=>⟨[(3,.ptr 0 0),(4,.ptr 1 0),(7,.ptr 2 0),(9,i6 x1.1),(11,i6 x1.2.1),(13,i6 x1.2.2.1),(14,i6 x1.2.2.2.1),(15,i6 x1.2.2.2.2.1)],[.cells [.fz Riii x1.2.2.2.2.2.1],.cells [i6 x1.2.2.2.2.2.2.1,i6 x1.2.2.2.2.2.2.2.1],.cells [i6 x1.2.2.2.2.2.2.2.2.1,.rs 3],.rows Riii x1.2.2.2.2.2.2.2.2.2]⟩:Int×Int×Int×Int×Int×List Diii×Int×Int×Int×List Diii→St)) (fun _=>rfl) ?_ d _ h
    intro n1 x1 h K1 hn1
    replace h:q3n6 d  (iter (q3n6 d ) n1) x1=some r:=h
    generalize iter (q3n6 d ) n1=self1 at h hn1
    unfold q3n6 at h
    refine q9d ?_
    refine q344 hm hT hC (q3mu (q3lb d) x1) h fun y13 h=>?_
    refine q9h (v:=y13.2.2.2.2.2.1) (by kernel_rfl) h ?_ ?_
    ·
     intro h
     refine q99 (q8z ?_)
     refine q9g (r:=r) (F:=q3n3 d self1) (S:=(fun z=>⟨[(3,.ptr 0 0),(4,.ptr 1 0),(7,.ptr 2 0),(9,i6 z.1),(11,i6 z.2.1),(13,i6 z.2.2.1),(14,i6 z.2.2.2.1),(15,i6 z.2.2.2.2.1)],[.cells [.fz Riii z.2.2.2.2.2.1],.cells [i6 z.2.2.2.2.2.2.1,i6 z.2.2.2.2.2.2.2.1],.cells [i6 z.2.2.2.2.2.2.2.2.1,.rs 3],.rows Riii z.2.2.2.2.2.2.2.2.2]⟩:Int×Int×Int×Int×Int×List Diii×Int×Int×Int×List Diii→St)) ?_ ?_
     ·
      intro z h
      unfold q3n3 at h
      refine q9i hm hT hC (q3n2 (q3lb d) z) h ?_
      intro y14 h
      exact hn1 _ h
     intro hj2
     refine q9e ?_
     refine q344 hm hT hC (q3my (q3lb d) y13) h fun y15 h=>?_
     refine q9h (v:=y15.2.2.2.2.2.1) (by kernel_rfl) h ?_ ?_
     ·
      intro h
      refine q9i hm hT hC (q3n0 (q3lb d) y15) h ?_
      intro y16 h
      refine q92 ?_
      exact hj2 _ h
     ·
      intro h
      refine q99 (q92 ?_)
      refine qe9 (s:=⟨[(3,.ptr 0 0),(4,.ptr 1 0),(7,.ptr 2 0),(9,.int .i64 y15.1),(11,.int .i64 y15.2.1),(13,.int .i64 y15.2.2.1),(14,.int .i64 y15.2.2.2.1),(15,.int .i64 y15.2.2.2.2.1)],[.cells [.fz Riii y15.2.2.2.2.2.2.1],.cells [.int .i64 y15.2.2.2.2.2.2.2.1,.int .i64 y15.2.2.2.2.2.2.2.2.1],.cells [.int .i64 y15.2.2.2.2.2.2.2.2.2.1,.rs 3],.rows Riii y15.2.2.2.2.2.2.2.2.2.2]⟩) [103] (by kernel_rfl) ?_
      exact hj2 _ h
    ·
     intro h
     refine q9b (q90 (q90 (q94 (q8z ?_))))
     refine q344 hm hT hC (q3n5 (q3lb d) y13) h fun y17 h=>?_
     refine q9c ?_
     cases h
     exact (hend _ (by kernel_rfl)).2
end Go.Proofs.Ytoakhncbmpdacaa

namespace Go.Proofs.Ytoakhncbmpdacaa
open Go Go.Tx Go.Pel
theorem Gr.links {P:List N3} {n d:Int} {N:List N3} {i:Int} {a b:Nat} (h:Gr P n d N i a b):-1≤i∧i<b∧(i<0↔b≤a)∧∀ k,a≤k→k<b→-1≤lfN N k∧lfN N k<b∧-1≤rtN N k∧rtN N k<b:=by
  induction h with
  | leaf a b h=>exact ⟨by omega,by omega,by omega,fun k h1 h2=>by omega⟩
  | node k a b x h1 h2 h3 h4 _ _ ih1 ih2 =>
    obtain ⟨a1,a2,a3,a4⟩:=ih1
    obtain ⟨b1,b2,b3,b4⟩:=ih2
    refine ⟨by omega,by omega,by omega,fun m m1 m2=>?_⟩
    obtain ⟨_,e2,e3⟩:=q37y h3
    rcases Nat.lt_trichotomy m k with h5 | h5 | h5
    · have:=a4 m m1 h5;omega
    · subst h5;rw [e2,e3];omega
    · have:=b4 m (by omega) m2;omega
theorem q3nf {P:List N3} (hP:FOk P) {n d:Int} {N:List N3} {r:Int} (hg:Gr P n d N r 0 P.length) (hN:N.length=P.length) (hid:∀ j,j<P.length→idN N j=(ptA P j).1):VT r N (List.range P.length):=by
  have hlen:=hP.len
  obtain ⟨g1,g2,g3,g4⟩:=hg.links
  refine ⟨by omega,?_,?_,?_,List.nodup_range,by rw [List.length_range,hN],?_⟩
  · simp only [not_or]
    refine ⟨by omega,by omega,?_⟩
    simp only [ne_eq,Decidable.not_not,eq_iff_iff]
    omega
  · rw [List.all_eq_true]
    intro x hx
    obtain ⟨j,hj,rfl⟩:=List.mem_iff_getElem.1 hx
    have hx2:N[j]?=some N[j]:=List.getElem?_eq_getElem hj
    obtain ⟨e1,e2,e3⟩:=q37y hx2
    have h5:=g4 j (Nat.zero_le _) (by omega)
    have h6:=hid j (by omega)
    have h7:=hP.ok _ (q371 (show j<P.length by omega))
    have h8:=qey (i:=(ptA P j).1) (a:=(ptA P j).2.1) (b:=(ptA P j).2.2.1) h7
    rw [q36q]
    rw [e2,e3] at h5
    rw [e1] at h6
    omega
  · have := hg.tr
    rw [Nat.sub_zero,← List.range_eq_range'] at this
    exact this
  · refine q37x ?_
    unfold incL
    rw [List.pairwise_iff_getElem]
    intro i j hi hj hij
    rw [List.length_range] at hi hj
    rw [List.getElem_range,List.getElem_range,hid i hi,hid j hj]
    exact hP.inc i j hij hj
theorem q3nl {m:Nat} (h:great m=false):m≤70:=by
  unfold great at h
  rw [Bool.or_eq_false_iff] at h
  have:=of_decide_eq_false h.2
  omega
end Go.Proofs.Ytoakhncbmpdacaa

namespace Go.Proofs.Ytoakhncbmpdacaa
open Go.ChangeShapes Go.WideShapes Go.ChangeAt Go.RowKit Go.Pel Go.Deep
theorem q3no {a:Int} (h:-9223372036854775808≤a∧a≤9223372036854775807):Go.Tx.i64B a=true:=by
  unfold Go.Tx.i64B;rw [decide_eq_true h.1,decide_eq_true h.2];rfl
section
variable {H:Type} {enc:TypeId×Value→H} {w:World} {base:Nat} {spare:Nat→Bool} {held:Bool}
end
end Go.Proofs.Ytoakhncbmpdacaa
