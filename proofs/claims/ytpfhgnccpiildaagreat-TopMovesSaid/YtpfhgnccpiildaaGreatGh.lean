/- Walks of the references; the orders agree; examples. -/
import Derived.Test.YtpfhgnccpiildaaGreatGg
set_option linter.unusedSimpArgs false
set_option linter.unusedVariables false
namespace Go.Proofs.YtpfhgnccpiildaaGreat
open Go Go.Tx Go.Proofs.Tryz
set_option maxRecDepth 100000
set_option maxHeartbeats 0
abbrev q2se:List Pk:=[]
abbrev q2sf:Type:=Unit
abbrev q2sg:Type:=Bool
def q2sh (r:q2sg):LV×List Ob:=(.bool r,[])
def q2si (F:q2sf→Option q2sg):Go.Tx.Spec:=⟨12,q2se,q2sg,F,q2sh⟩
abbrev q2sj:Type:=(q26c→Option q26d)×(q26l→Option q26m)×(q2fa→Option q2fb)×(q1p2→Option q1p3)×Unit
def q2sk (d:Nat):q2sj:=(q26h d,q270 d,q2ig d,q1rm d,())
def q2sl (C:q2sj):List Go.Tx.Spec:=[q26f C.1,q26o C.2.1,q2fd C.2.2.1,q1p5 C.2.2.2.1]
abbrev q2sm:Type:=Unit
def q2sn (v:q2sm):St:=⟨[],[]⟩
def q2so (C:q2sj) (v:q2sm):Dt q2sm:=(Dt.ret ())
abbrev q3gs {V Y:Type}:=@rg q2sj V Y tysT (fun C=>(orc (q2sl C))) 58
theorem q2sp C v:q3gs (regO (qct f12) 0) false [] q2sn q2so q2sn C v:=rgI (by kernel_rfl)
abbrev q2sq:Type:=Int×List Diii
def q2sr (v:q2sq):St:=⟨[(1,.ptr 0 0),(2,i6 v.1)],[.cells [.rs 1],.rows Riii v.2]⟩
def q2ss (C:q2sj) (v:q2sm):Dt q2sq:=(Dt.bnd (C.2.1 (())) fun r1=>(Dt.bnd (C.1 ((r1,()),((3:Int),(1:Int),(2:Int),()),())) fun r2=>(Dt.ret (r2.2,r2.1))))
theorem q2st C v:q3gs (regO (qct f12) 1) false [(1,(.box [.own Riii])),(2,.any)] q2sn q2ss q2sr C v:=rgI (by kernel_rfl)
abbrev q2su:Type:=Int×Int×List Diii×List Diii
def q2sv (v:q2su):St:=⟨[(1,.ptr 0 0),(2,i6 v.1),(3,.rs 2),(4,i6 v.2.1)],[.cells [.rs 1],.rows Riii v.2.2.1,.rows Riii v.2.2.2]⟩
def q2sw (C:q2sj) (v:q2sq):Dt q2su:=(Dt.bnd (C.2.2.1 ((v.2,()),((1:Int),(2:Int),()),())) fun r1=>(Dt.ret (v.1,r1.2,v.2,r1.1)))
theorem q2sx C v:q3gs (regO (qct f12) 2) false [(1,(.box [.own Riii])),(2,.any),(3,(.own Riii)),(4,.any)] q2sr q2sw q2sv C v:=rgI (by kernel_rfl)
abbrev q2sy:Type:=Int×Int×Int×List Diii×List Diii×Int×Int
def q2sz (v:q2sy):St:=⟨[(1,.ptr 0 0),(2,i6 v.1),(3,.rs 2),(4,i6 v.2.1),(5,.ptr 3 0),(6,i6 v.2.2.1)],[.cells [.rs 1],.rows Riii v.2.2.2.1,.rows Riii v.2.2.2.2.1,.cells [i6 v.2.2.2.2.2.1,i6 v.2.2.2.2.2.2]]⟩
def q2t0 (C:q2sj) (v:q2su):Dt q2sy:=(Dt.bnd (C.2.2.2.1 (((3:Int),(1:Int),(2:Int),()),((1:Int),(2:Int),()),())) fun r1=>(Dt.ret (v.1,v.2.1,r1.2.2,v.2.2.1,v.2.2.2,r1.1,r1.2.1)))
theorem q2t1 C v:q3gs (regO (qct f12) 3) false [(1,(.box [.own Riii])),(2,.any),(3,(.own Riii)),(4,.any),(5,.any),(6,.any)] q2sv q2t0 q2sz C v:=rgI (by kernel_rfl)
abbrev q2t2:Type:=Bool
def q2t3 (v:q2t2):St:=⟨[(0,.bool v)],[]⟩
def q2t4 (C:q2sj) (v:q2sy):Dt q2t2:=(Dt.ite ((List.length v.2.2.2.1:Int) == (1:Int)) (Dt.ite (v.1 == (0:Int)) (Dt.ite (v.2.1 == (0:Int)) (Dt.ite ((List.length v.2.2.2.2.1:Int) == (1:Int)) (Dt.ite (inB (0:Int) (List.length v.2.2.2.2.1)) (Dt.ite ((elt ziii v.2.2.2.2.1 ((0:Int)).toNat).2.2.1 == (3:Int)) (Dt.ite (v.2.2.1 == (0:Int)) (Dt.ret ((v.2.2.2.2.2.1 == (2:Int))&&((v.2.2.2.2.2.2 == (1:Int))&&true))) (Dt.ret false)) (Dt.ret false)) Dt.fail) (Dt.ret false)) (Dt.ret false)) (Dt.ret false)) (Dt.ret false))
theorem q2t5 C v:q3gs (regO (qct f12) 4) false [(0,.any)] q2sz q2t4 q2t3 C v:=rgI (by kernel_rfl)
def q2t6 (d:Nat) (x:q2sf):Option q2sg :=
 (q2so (q2sk d) ()).eval fun y0 =>
 (q2ss (q2sk d) ()).eval fun y1 =>
 (q2sw (q2sk d) y1).eval fun y2 =>
 (q2t0 (q2sk d) y2).eval fun y3 =>
 (q2t4 (q2sk d) y3).eval fun y4 =>
 some y4
theorem q2t7 (d:Nat):COK prog (q2si (q2t6 d)):=by
 have hm:prog.follows .mixedOrders=true:=mixed
 have hT:=tys
 have hC0:OrcOK prog (orc (q2sl (q2sk d))):=qcn (by
  intro S hS
  simp only [q2sl,List.mem_cons,List.not_mem_nil,or_false] at hS
  rcases hS with rfl | rfl | rfl | rfl
  · exact q26j d
  · exact q271 d
  · exact q2ih d
  · exact q1rn d)
 have hC:OrcOK prog (orc (q2sl (q2sk d))):=hC0
 refine q8c (c:=qct f12) (fn:=f12) hT (by kernel_rfl) (by kernel_rfl) (by decide) fun x r h w0 φ0 Q hend=>?_
 replace h:q2t6 d x=some r:=h
 unfold q2t6 at h
 show Run prog w0 φ0 58 (qct f12) ⟨[],[]⟩ Q
 refine q3f2 hm hT hC (q2sp (q2sk d) ()) h fun y0 h=>?_
 refine q3f2 hm hT hC (q2st (q2sk d) ()) h fun y1 h=>?_
 refine q3f2 hm hT hC (q2sx (q2sk d) y1) h fun y2 h=>?_
 refine q3f2 hm hT hC (q2t1 (q2sk d) y2) h fun y3 h=>?_
 refine q3f2 hm hT hC (q2t5 (q2sk d) y3) h fun y4 h=>?_
 refine q7v ?_
 cases h
 exact (hend _ (by kernel_rfl)).2
abbrev q2t8:List Pk:=[.row RLiE false,.row Ri false]
abbrev q2t9:Type:=DLiE×Di×Unit
abbrev q2ta:Type:=Int
def q2tb (r:q2ta):LV×List Ob:=(.int .i64 r,[])
def q2tc (F:q2t9→Option q2ta):Go.Tx.Spec:=⟨59,q2t8,q2ta,F,q2tb⟩
abbrev q2td:Type:=Unit
def q2te (_d:Nat):q2td:=()
def q2tf (C:q2td):List Go.Tx.Spec:=[]
abbrev q2tg:Type:=List Di×Int
def q2th (v:q2tg):St:=⟨[(0,.fz Ri v.1),(1,i6 v.2)],[]⟩
def q2ti (C:q2td) (v:q2tg):Dt q2tg:=(Dt.ret (v.1,v.2))
abbrev q3gt {V Y:Type}:=@rg q2td V Y tysT (fun C=>(orc (q2tf C))) 19
theorem q2tj C v:q3gt (regO (qct f59) 0) false [(0,(.val Ri)),(1,.any)] q2th q2ti q2th C v:=rgI (by kernel_rfl)
abbrev q2tk:Type:=List Di×Int×Int
def q2tl (v:q2tk):St:=⟨[(0,.fz Ri v.1),(1,i6 v.2.1),(5,i6 v.2.2)],[]⟩
def q2tm (C:q2td) (v:q2tg):Dt q2tk:=(Dt.ret (v.1,v.2,(0:Int)))
theorem q2tn C v:q3gt (regO (qct f59) 1) false [(0,(.val Ri)),(1,.any),(5,.any)] q2th q2tm q2tl C v:=rgI (by kernel_rfl)
abbrev q2to:Type:=List Di×Int×Int×Bool
def q2tp (v:q2to):St:=⟨[(0,.fz Ri v.1),(1,i6 v.2.1),(5,i6 v.2.2.1),(9,.bool v.2.2.2)],[]⟩
def q2tq (C:q2td) (v:q2tk):Dt q2to:=(Dt.ret (v.1,v.2.1,v.2.2,(decide (v.2.2<(List.length v.1:Int)))))
theorem q2tr C v:q3gt (regO (qct f59) 2) false [(0,(.val Ri)),(1,.any),(5,.any),(9,.any)] q2tl q2tq q2tp C v:=rgI (by kernel_rfl)
abbrev q2ts:Type:=List Di×Int×Int×Bool
def q2tt (v:q2ts):St:=⟨[(0,.fz Ri v.1),(1,i6 v.2.1),(5,i6 v.2.2.1),(17,.bool v.2.2.2)],[]⟩
def q2tu (C:q2td) (v:q2to):Dt q2ts:=(Dt.ite (inB v.2.2.1 (List.length v.1)) (Dt.ret (v.1,v.2.1,v.2.2.1,((elt zi v.1 (v.2.2.1).toNat).1 == v.2.1))) Dt.fail)
theorem q2tv C v:q3gt (regO (qct f59) 4) false [(0,(.val Ri)),(1,.any),(5,.any),(17,.any)] q2tp q2tu q2tt C v:=rgI (by kernel_rfl)
abbrev q2tw:Type:=Int
def q2tx (v:q2tw):St:=⟨[(4,i6 v)],[]⟩
def q2ty (C:q2td) (v:q2ts):Dt q2tw:=(Dt.ret v.2.2.1)
theorem q2tz C v:q3gt (regO (qct f59) 5) false [(4,.any)] q2tt q2ty q2tx C v:=rgI (by kernel_rfl)
def q2u0 (C:q2td) (v:q2ts):Dt q2tk:=(Dt.ret (v.1,v.2.1,(IntKind.wrap .i64 (v.2.2.1+(1:Int)))))
theorem q2u1 C v:q3gt (regO (qct f59) 3) false [(0,(.val Ri)),(1,.any),(5,.any)] q2tt q2u0 q2tl C v:=rgI (by kernel_rfl)
def q2u2 (C:q2td) (v:q2to):Dt q2tw:=(Dt.ret (-1:Int))
theorem q2u3 C v:q3gt (regO (qct f59) 6) false [(4,.any)] q2tp q2u2 q2tx C v:=rgI (by kernel_rfl)
def q2u4 (d:Nat) (self1:(List Di×Int×Int)→Option q2ta) (x1:List Di×Int×Int):Option q2ta :=
 (q2tq (q2te d) x1).eval fun y2 =>
 bif y2.2.2.2 then ((q2tu (q2te d) y2).eval fun y4 =>
 bif y4.2.2.2 then ((q2ty (q2te d) y4).eval fun y5 =>
 some y5) else ((q2u0 (q2te d) y4).eval fun y3 =>
 self1 y3)) else ((q2u2 (q2te d) y2).eval fun y6 =>
 some y6)
def q2u5 (d:Nat) (x:q2t9):Option q2ta :=
 (q2ti (q2te d) (x.1.1,x.2.1.1)).eval fun y0 =>
 (q2tm (q2te d) y0).eval fun y1 =>
 iter (q2u4 d ) d y1
theorem q2u6 (d:Nat):COK prog (q2tc (q2u5 d)):=by
 have hm:prog.follows .mixedOrders=true:=mixed
 have hT:=tys
 have hC0:OrcOK prog (orc (q2tf (q2te d))):=qcn (by
  intro S hS
  simp only [q2tf,List.mem_cons,List.not_mem_nil,or_false] at hS
  all_goals first | cases hS | exact hS.elim)
 have hC:OrcOK prog (orc (q2tf (q2te d))):=hC0
 refine q8c (c:=qct f59) (fn:=f59) hT (by kernel_rfl) (by kernel_rfl) (by decide) fun x r h w0 φ0 Q hend=>?_
 replace h:q2u5 d x=some r:=h
 unfold q2u5 at h
 show Run prog w0 φ0 19 (qct f59) ⟨[(0,.fz Ri x.1.1),(1,.int .i64 x.2.1.1)],[]⟩ Q
 refine q3f2 hm hT hC (q2tj (q2te d) (x.1.1,x.2.1.1)) h fun y0 h=>?_
 refine q7w ?_
 refine q3f2 hm hT hC (q2tn (q2te d) y0) h fun y1 h=>?_
 refine q7x ?_
 refine q82 (G:=iter (q2u4 d )) (S:=(fun x1=>⟨[(0,.fz Ri x1.1),(1,i6 x1.2.1),(5,i6 x1.2.2)],[]⟩:List Di×Int×Int→St)) (fun _=>rfl) ?_ d _ h
 intro n1 x1 h K1 hn1
 replace h:q2u4 d  (iter (q2u4 d ) n1) x1=some r:=h
 generalize iter (q2u4 d ) n1=self1 at h hn1
 unfold q2u4 at h
 refine q7w ?_
 refine q3f2 hm hT hC (q2tr (q2te d) x1) h fun y2 h=>?_
 refine q80 (v:=y2.2.2.2) (by kernel_rfl) h ?_ ?_
 ·
  intro h
  refine q7s (q7i (q7w (q7x ?_)))
  refine q3f2 hm hT hC (q2tv (q2te d) y2) h fun y4 h=>?_
  refine q80 (v:=y4.2.2.2) (by kernel_rfl) h ?_ ?_
  ·
   intro h
   refine q3f2 hm hT hC (q2tz (q2te d) y4) h fun y5 h=>?_
   refine q7v (q7m (q7k (q7k (q7m (q7k ?_)))))
   cases h
   exact (hend _ (by kernel_rfl)).2
  ·
   intro h
   refine q7s (q7l (q7i ?_))
   refine q81 hm hT hC (q2u1 (q2te d) y4) h ?_
   intro y3 h
   exact hn1 _ h
 ·
  intro h
  refine q7u (q7j (q7j (q7n (q7i ?_))))
  refine q3f2 hm hT hC (q2u3 (q2te d) y2) h fun y6 h=>?_
  refine q7v ?_
  cases h
  exact (hend _ (by kernel_rfl)).2
abbrev q2u7:List Pk:=[.row qj5 true,.row RLiE false,.row RLiE false,.row qjb false]
abbrev q2u8:Type:=qj6×DLiE×DLiE×qjc×Unit
abbrev q2u9:Type:=Bool
def q2ua (r:q2u9):LV×List Ob:=(.bool r,[])
def q2ub (F:q2u8→Option q2u9):Go.Tx.Spec:=⟨16,q2u7,q2u9,F,q2ua⟩
abbrev q2uc:Type:=(q1p2→Option q1p3)×(q2t9→Option q2ta)×(qvf→Option qvg)×(q1o6→Option q1o7)×Unit
def q2ud (d:Nat):q2uc:=(q1rm d,q2u5 d,qvk d,q1oz d,())
def q2ue (C:q2uc):List Go.Tx.Spec:=[q1p5 C.1,q2tc C.2.1,qvi C.2.2.1,q1o9 C.2.2.2.1]
abbrev q2uf:Type:=List Diii×List Di×List Di×List qj9
def q2ug (v:q2uf):St:=⟨[(0,.agg [.fz Riii v.1]),(1,.fz Ri v.2.1),(2,.fz Ri v.2.2.1),(3,.fz qj8 v.2.2.2)],[]⟩
abbrev q2uh:Type:=List Di×List Di×List qj9×List Diii
def q2ui (v:q2uh):St:=⟨[(1,.fz Ri v.1),(2,.fz Ri v.2.1),(3,.fz qj8 v.2.2.1),(4,.ptr 0 0)],[.cells [.fz Riii v.2.2.2]]⟩
def q2uj (C:q2uc) (v:q2uf):Dt q2uh:=(Dt.ret (v.2.1,v.2.2.1,v.2.2.2,v.1))
abbrev q3gu {V Y:Type}:=@rg q2uc V Y tysT (fun C=>(orc (q2ue C))) 184
theorem q2uk C v:q3gu (regO (qct f16) 0) false [(1,(.val Ri)),(2,(.val Ri)),(3,(.val qj8)),(4,(.box [.val Riii]))] q2ug q2uj q2ui C v:=rgI (by kernel_rfl)
abbrev q2ul:Type:=List Di×List Di×List qj9×Int×List Diii
def q2um (v:q2ul):St:=⟨[(1,.fz Ri v.1),(2,.fz Ri v.2.1),(3,.fz qj8 v.2.2.1),(4,.ptr 0 0),(9,i6 v.2.2.2.1)],[.cells [.fz Riii v.2.2.2.2]]⟩
def q2un (C:q2uc) (v:q2uh):Dt q2ul:=(Dt.ret (v.1,v.2.1,v.2.2.1,(0:Int),v.2.2.2))
theorem q2uo C v:q3gu (regO (qct f16) 1) false [(1,(.val Ri)),(2,(.val Ri)),(3,(.val qj8)),(4,(.box [.val Riii])),(9,.any)] q2ui q2un q2um C v:=rgI (by kernel_rfl)
abbrev q2up:Type:=List Di×List Di×List qj9×Int×Int×List Diii
def q2uq (v:q2up):St:=⟨[(1,.fz Ri v.1),(2,.fz Ri v.2.1),(3,.fz qj8 v.2.2.1),(4,.ptr 0 0),(9,i6 v.2.2.2.1),(10,i6 v.2.2.2.2.1)],[.cells [.fz Riii v.2.2.2.2.2]]⟩
def q2ur (C:q2uc) (v:q2ul):Dt q2up:=(Dt.ret (v.1,v.2.1,v.2.2.1,v.2.2.2.1,(0:Int),v.2.2.2.2))
theorem q2us C v:q3gu (regO (qct f16) 2) false [(1,(.val Ri)),(2,(.val Ri)),(3,(.val qj8)),(4,(.box [.val Riii])),(9,.any),(10,.any)] q2um q2ur q2uq C v:=rgI (by kernel_rfl)
abbrev q2ut:Type:=List Di×List Di×List qj9×Int×Int×Bool×List Diii
def q2uu (v:q2ut):St:=⟨[(1,.fz Ri v.1),(2,.fz Ri v.2.1),(3,.fz qj8 v.2.2.1),(4,.ptr 0 0),(9,i6 v.2.2.2.1),(10,i6 v.2.2.2.2.1),(28,.bool v.2.2.2.2.2.1)],[.cells [.fz Riii v.2.2.2.2.2.2]]⟩
def q2uv (C:q2uc) (v:q2up):Dt q2ut:=(Dt.ret (v.1,v.2.1,v.2.2.1,v.2.2.2.1,v.2.2.2.2.1,(decide (v.2.2.2.2.1<(List.length v.1:Int))),v.2.2.2.2.2))
theorem q2uw C v:q3gu (regO (qct f16) 3) false [(1,(.val Ri)),(2,(.val Ri)),(3,(.val qj8)),(4,(.box [.val Riii])),(9,.any),(10,.any),(28,.any)] q2uq q2uv q2uu C v:=rgI (by kernel_rfl)
abbrev q2ux:Type:=List Di×List Di×List qj9×Int×Int×Int×List Diii
def q2uy (v:q2ux):St:=⟨[(1,.fz Ri v.1),(2,.fz Ri v.2.1),(3,.fz qj8 v.2.2.1),(4,.ptr 0 0),(9,i6 v.2.2.2.1),(10,i6 v.2.2.2.2.1),(11,i6 v.2.2.2.2.2.1)],[.cells [.fz Riii v.2.2.2.2.2.2]]⟩
def q2uz (C:q2uc) (v:q2ut):Dt q2ux:=(Dt.ret (v.1,v.2.1,v.2.2.1,v.2.2.2.1,v.2.2.2.2.1,(IntKind.wrap .i64 (v.2.2.2.2.1+(1:Int))),v.2.2.2.2.2.2))
theorem q2v0 C v:q3gu (regO (qct f16) 5) false [(1,(.val Ri)),(2,(.val Ri)),(3,(.val qj8)),(4,(.box [.val Riii])),(9,.any),(10,.any),(11,.any)] q2uu q2uz q2uy C v:=rgI (by kernel_rfl)
abbrev q2v1:Type:=List Di×List Di×List qj9×Int×Int×Int×Bool×List Diii
def q2v2 (v:q2v1):St:=⟨[(1,.fz Ri v.1),(2,.fz Ri v.2.1),(3,.fz qj8 v.2.2.1),(4,.ptr 0 0),(9,i6 v.2.2.2.1),(10,i6 v.2.2.2.2.1),(11,i6 v.2.2.2.2.2.1),(36,.bool v.2.2.2.2.2.2.1)],[.cells [.fz Riii v.2.2.2.2.2.2.2]]⟩
def q2v3 (C:q2uc) (v:q2ux):Dt q2v1:=(Dt.ret (v.1,v.2.1,v.2.2.1,v.2.2.2.1,v.2.2.2.2.1,v.2.2.2.2.2.1,(decide (v.2.2.2.2.2.1<(List.length v.1:Int))),v.2.2.2.2.2.2))
theorem q2v4 C v:q3gu (regO (qct f16) 6) false [(1,(.val Ri)),(2,(.val Ri)),(3,(.val qj8)),(4,(.box [.val Riii])),(9,.any),(10,.any),(11,.any),(36,.any)] q2uy q2v3 q2v2 C v:=rgI (by kernel_rfl)
abbrev q2v5:Type:=List Di×List Di×List qj9×Int×Int×Int×Bool×List Diii
def q2v6 (v:q2v5):St:=⟨[(1,.fz Ri v.1),(2,.fz Ri v.2.1),(3,.fz qj8 v.2.2.1),(4,.ptr 0 0),(9,i6 v.2.2.2.1),(10,i6 v.2.2.2.2.1),(11,i6 v.2.2.2.2.2.1),(51,.bool v.2.2.2.2.2.2.1)],[.cells [.fz Riii v.2.2.2.2.2.2.2]]⟩
def q2v7 (C:q2uc) (v:q2v1):Dt q2v5:=(Dt.ite (inB v.2.2.2.2.1 (List.length v.1)) (Dt.bnd (C.2.1 ((v.2.1,()),((elt zi v.1 (v.2.2.2.2.1).toNat).1,()),())) fun r1=>(Dt.ite (inB v.2.2.2.2.2.1 (List.length v.1)) (Dt.bnd (C.2.1 ((v.2.1,()),((elt zi v.1 (v.2.2.2.2.2.1).toNat).1,()),())) fun r2=>(Dt.ret (v.1,v.2.1,v.2.2.1,v.2.2.2.1,v.2.2.2.2.1,v.2.2.2.2.2.1,(decide (r1 > r2)),v.2.2.2.2.2.2.2))) Dt.fail)) Dt.fail)
theorem q2v8 C v:q3gu (regO (qct f16) 8) true [(1,(.val Ri)),(2,(.val Ri)),(3,(.val qj8)),(4,(.box [.val Riii])),(9,.any),(10,.any),(11,.any),(51,.any)] q2v2 q2v7 q2v6 C v:=rgI (by kernel_rfl)
def q2v9 (C:q2uc) (v:q2v5):Dt q2ux:=(Dt.ret (v.1,v.2.1,v.2.2.1,(IntKind.wrap .i64 (v.2.2.2.1+(1:Int))),v.2.2.2.2.1,v.2.2.2.2.2.1,v.2.2.2.2.2.2.2))
theorem q2va C v:q3gu (regO (qct f16) 9) false [(1,(.val Ri)),(2,(.val Ri)),(3,(.val qj8)),(4,(.box [.val Riii])),(9,.any),(10,.any),(11,.any)] q2v6 q2v9 q2uy C v:=rgI (by kernel_rfl)
def q2vb (C:q2uc) (v:q2ux):Dt q2ux:=(Dt.ret (v.1,v.2.1,v.2.2.1,v.2.2.2.1,v.2.2.2.2.1,(IntKind.wrap .i64 (v.2.2.2.2.2.1+(1:Int))),v.2.2.2.2.2.2))
theorem q2vc C v:q3gu (regO (qct f16) 7) false [(1,(.val Ri)),(2,(.val Ri)),(3,(.val qj8)),(4,(.box [.val Riii])),(9,.any),(10,.any),(11,.any)] q2uy q2vb q2uy C v:=rgI (by kernel_rfl)
def q2vd  (d:Nat) (self1:(List Di×List Di×List qj9×Int×Int×List Diii)→Option q2u9) (self2:(List Di×List Di×List qj9×Int×Int×Int×List Diii)→Option q2u9) (z:List Di×List Di×List qj9×Int×Int×Int×List Diii):Option (q2u9) :=
 (q2vb (q2ud d) z).eval fun y7 =>
 self2 y7
def q2ve (C:q2uc) (v:q2v1):Dt q2up:=(Dt.ret (v.1,v.2.1,v.2.2.1,v.2.2.2.1,(IntKind.wrap .i64 (v.2.2.2.2.1+(1:Int))),v.2.2.2.2.2.2.2))
theorem q2vf C v:q3gu (regO (qct f16) 4) false [(1,(.val Ri)),(2,(.val Ri)),(3,(.val qj8)),(4,(.box [.val Riii])),(9,.any),(10,.any)] q2v2 q2ve q2uq C v:=rgI (by kernel_rfl)
def q2vg (d:Nat) (self1:(List Di×List Di×List qj9×Int×Int×List Diii)→Option q2u9) (self2:(List Di×List Di×List qj9×Int×Int×Int×List Diii)→Option q2u9) (x2:List Di×List Di×List qj9×Int×Int×Int×List Diii):Option q2u9 :=
 (q2v3 (q2ud d) x2).eval fun y6 =>
 bif y6.2.2.2.2.2.2.1 then ((q2v7 (q2ud d) y6).eval fun y8 =>
 bif y8.2.2.2.2.2.2.1 then ((q2v9 (q2ud d) y8).eval fun y9 =>
 q2vd d self1 self2 y9) else (q2vd d self1 self2 (y8.1,y8.2.1,y8.2.2.1,y8.2.2.2.1,y8.2.2.2.2.1,y8.2.2.2.2.2.1,y8.2.2.2.2.2.2.2))) else ((q2ve (q2ud d) y6).eval fun y4 =>
 self1 y4)
abbrev q2vh:Type:=List Di×List Di×List qj9×Int×Int×List Diii
def q2vi (v:q2vh):St:=⟨[(1,.fz Ri v.1),(2,.fz Ri v.2.1),(3,.fz qj8 v.2.2.1),(4,.ptr 0 0),(9,i6 v.2.2.2.1),(12,i6 v.2.2.2.2.1)],[.cells [.fz Riii v.2.2.2.2.2]]⟩
def q2vj (C:q2uc) (v:q2ut):Dt q2vh:=(Dt.ret (v.1,v.2.1,v.2.2.1,v.2.2.2.1,(0:Int),v.2.2.2.2.2.2))
theorem q2vk C v:q3gu (regO (qct f16) 10) false [(1,(.val Ri)),(2,(.val Ri)),(3,(.val qj8)),(4,(.box [.val Riii])),(9,.any),(12,.any)] q2uu q2vj q2vi C v:=rgI (by kernel_rfl)
abbrev q2vl:Type:=List Di×List Di×List qj9×Int×Int×Bool×List Diii
def q2vm (v:q2vl):St:=⟨[(1,.fz Ri v.1),(2,.fz Ri v.2.1),(3,.fz qj8 v.2.2.1),(4,.ptr 0 0),(9,i6 v.2.2.2.1),(12,i6 v.2.2.2.2.1),(57,.bool v.2.2.2.2.2.1)],[.cells [.fz Riii v.2.2.2.2.2.2]]⟩
def q2vn (C:q2uc) (v:q2vh):Dt q2vl:=(Dt.ret (v.1,v.2.1,v.2.2.1,v.2.2.2.1,v.2.2.2.2.1,(decide (v.2.2.2.2.1<(List.length v.2.2.1:Int))),v.2.2.2.2.2))
theorem q2vo C v:q3gu (regO (qct f16) 11) false [(1,(.val Ri)),(2,(.val Ri)),(3,(.val qj8)),(4,(.box [.val Riii])),(9,.any),(12,.any),(57,.any)] q2vi q2vn q2vm C v:=rgI (by kernel_rfl)
abbrev q2vp:Type:=List Di×List Di×List qj9×Int×Int×Int×List Diii×Int×Int×Int
def q2vq (v:q2vp):St:=⟨[(1,.fz Ri v.1),(2,.fz Ri v.2.1),(3,.fz qj8 v.2.2.1),(4,.ptr 0 0),(9,i6 v.2.2.2.1),(12,i6 v.2.2.2.2.1),(13,.ptr 1 0),(14,i6 v.2.2.2.2.2.1)],[.cells [.fz Riii v.2.2.2.2.2.2.1],.cells [i6 v.2.2.2.2.2.2.2.1,i6 v.2.2.2.2.2.2.2.2.1,i6 v.2.2.2.2.2.2.2.2.2]]⟩
def q2vr (C:q2uc) (v:q2vl):Dt q2vp:=(Dt.ite (inB v.2.2.2.2.1 (List.length v.2.2.1)) (Dt.bnd (C.2.2.1 ((v.2.2.2.2.2.2,()),((elt qja v.2.2.1 (v.2.2.2.2.1).toNat).2.2.1,()),())) fun r1=>(Dt.ret (v.1,v.2.1,v.2.2.1,v.2.2.2.1,v.2.2.2.2.1,r1.2.2.2,v.2.2.2.2.2.2,r1.1,r1.2.1,r1.2.2.1))) Dt.fail)
theorem q2vs C v:q3gu (regO (qct f16) 13) true [(1,(.val Ri)),(2,(.val Ri)),(3,(.val qj8)),(4,(.box [.val Riii])),(9,.any),(12,.any),(13,.any),(14,.any)] q2vm q2vr q2vq C v:=rgI (by kernel_rfl)
abbrev q2vt:Type:=List Di×List Di×List qj9×Int×Int×Int×Int×List Diii×Int×Int×Int×Int×Int×Int
def q2vu (v:q2vt):St:=⟨[(1,.fz Ri v.1),(2,.fz Ri v.2.1),(3,.fz qj8 v.2.2.1),(4,.ptr 0 0),(9,i6 v.2.2.2.1),(12,i6 v.2.2.2.2.1),(13,.ptr 1 0),(14,i6 v.2.2.2.2.2.1),(15,.ptr 2 0),(16,i6 v.2.2.2.2.2.2.1)],[.cells [.fz Riii v.2.2.2.2.2.2.2.1],.cells [i6 v.2.2.2.2.2.2.2.2.1,i6 v.2.2.2.2.2.2.2.2.2.1,i6 v.2.2.2.2.2.2.2.2.2.2.1],.cells [i6 v.2.2.2.2.2.2.2.2.2.2.2.1,i6 v.2.2.2.2.2.2.2.2.2.2.2.2.1,i6 v.2.2.2.2.2.2.2.2.2.2.2.2.2]]⟩
def q2vv (C:q2uc) (v:q2vp):Dt q2vt:=(Dt.ite (inB v.2.2.2.2.1 (List.length v.2.2.1)) (Dt.bnd (C.2.2.1 ((v.2.2.2.2.2.2.1,()),((elt qja v.2.2.1 (v.2.2.2.2.1).toNat).2.2.2.1,()),())) fun r1=>(Dt.ret (v.1,v.2.1,v.2.2.1,v.2.2.2.1,v.2.2.2.2.1,v.2.2.2.2.2.1,r1.2.2.2,v.2.2.2.2.2.2.1,v.2.2.2.2.2.2.2.1,v.2.2.2.2.2.2.2.2.1,v.2.2.2.2.2.2.2.2.2,r1.1,r1.2.1,r1.2.2.1))) Dt.fail)
theorem q2vw C v:q3gu (regO (qct f16) 14) true [(1,(.val Ri)),(2,(.val Ri)),(3,(.val qj8)),(4,(.box [.val Riii])),(9,.any),(12,.any),(13,.any),(14,.any),(15,.any),(16,.any)] q2vq q2vv q2vu C v:=rgI (by kernel_rfl)
abbrev q2vx:Type:=List Di×List Di×List qj9×Int×Int×Int×Int×Int×List Diii×Int×Int×Int×Int×Int×Int×Int×Int
def q2vy (v:q2vx):St:=⟨[(1,.fz Ri v.1),(2,.fz Ri v.2.1),(3,.fz qj8 v.2.2.1),(4,.ptr 0 0),(9,i6 v.2.2.2.1),(12,i6 v.2.2.2.2.1),(13,.ptr 1 0),(14,i6 v.2.2.2.2.2.1),(15,.ptr 2 0),(16,i6 v.2.2.2.2.2.2.1),(17,.ptr 3 0),(18,i6 v.2.2.2.2.2.2.2.1)],[.cells [.fz Riii v.2.2.2.2.2.2.2.2.1],.cells [i6 v.2.2.2.2.2.2.2.2.2.1,i6 v.2.2.2.2.2.2.2.2.2.2.1,i6 v.2.2.2.2.2.2.2.2.2.2.2.1],.cells [i6 v.2.2.2.2.2.2.2.2.2.2.2.2.1,i6 v.2.2.2.2.2.2.2.2.2.2.2.2.2.1,i6 v.2.2.2.2.2.2.2.2.2.2.2.2.2.2.1],.cells [i6 v.2.2.2.2.2.2.2.2.2.2.2.2.2.2.2.1,i6 v.2.2.2.2.2.2.2.2.2.2.2.2.2.2.2.2]]⟩
def q2vz (C:q2uc) (v:q2vt):Dt q2vx:=(Dt.ite (inB v.2.2.2.2.1 (List.length v.2.2.1)) (Dt.bnd (C.1 ((v.2.2.2.2.2.2.2.2.1,v.2.2.2.2.2.2.2.2.2.1,v.2.2.2.2.2.2.2.2.2.2.1,()),((elt qja v.2.2.1 (v.2.2.2.2.1).toNat).1,(elt qja v.2.2.1 (v.2.2.2.2.1).toNat).2.1,()),())) fun r1=>(Dt.ret (v.1,v.2.1,v.2.2.1,v.2.2.2.1,v.2.2.2.2.1,v.2.2.2.2.2.1,v.2.2.2.2.2.2.1,r1.2.2,v.2.2.2.2.2.2.2.1,v.2.2.2.2.2.2.2.2.1,v.2.2.2.2.2.2.2.2.2.1,v.2.2.2.2.2.2.2.2.2.2.1,v.2.2.2.2.2.2.2.2.2.2.2.1,v.2.2.2.2.2.2.2.2.2.2.2.2.1,v.2.2.2.2.2.2.2.2.2.2.2.2.2,r1.1,r1.2.1))) Dt.fail)
theorem q2w0 C v:q3gu (regO (qct f16) 15) true [(1,(.val Ri)),(2,(.val Ri)),(3,(.val qj8)),(4,(.box [.val Riii])),(9,.any),(12,.any),(13,.any),(14,.any),(15,.any),(16,.any),(17,.any),(18,.any)] q2vu q2vz q2vy C v:=rgI (by kernel_rfl)
abbrev q2w1:Type:=List Di×List Di×List qj9×Int×Int×Int×Int×Int×Int×List Diii×Int×Int×Int×Int×Int×Int×Int×Int×Int×Int
def q2w2 (v:q2w1):St:=⟨[(1,.fz Ri v.1),(2,.fz Ri v.2.1),(3,.fz qj8 v.2.2.1),(4,.ptr 0 0),(9,i6 v.2.2.2.1),(12,i6 v.2.2.2.2.1),(13,.ptr 1 0),(14,i6 v.2.2.2.2.2.1),(15,.ptr 2 0),(16,i6 v.2.2.2.2.2.2.1),(17,.ptr 3 0),(18,i6 v.2.2.2.2.2.2.2.1),(19,.ptr 4 0),(20,i6 v.2.2.2.2.2.2.2.2.1)],[.cells [.fz Riii v.2.2.2.2.2.2.2.2.2.1],.cells [i6 v.2.2.2.2.2.2.2.2.2.2.1,i6 v.2.2.2.2.2.2.2.2.2.2.2.1,i6 v.2.2.2.2.2.2.2.2.2.2.2.2.1],.cells [i6 v.2.2.2.2.2.2.2.2.2.2.2.2.2.1,i6 v.2.2.2.2.2.2.2.2.2.2.2.2.2.2.1,i6 v.2.2.2.2.2.2.2.2.2.2.2.2.2.2.2.1],.cells [i6 v.2.2.2.2.2.2.2.2.2.2.2.2.2.2.2.2.1,i6 v.2.2.2.2.2.2.2.2.2.2.2.2.2.2.2.2.2.1],.cells [i6 v.2.2.2.2.2.2.2.2.2.2.2.2.2.2.2.2.2.2.1,i6 v.2.2.2.2.2.2.2.2.2.2.2.2.2.2.2.2.2.2.2]]⟩
def q2w3 (C:q2uc) (v:q2vx):Dt q2w1:=(Dt.ite (inB v.2.2.2.2.1 (List.length v.2.2.1)) (Dt.bnd (C.1 ((v.2.2.2.2.2.2.2.2.2.2.2.2.1,v.2.2.2.2.2.2.2.2.2.2.2.2.2.1,v.2.2.2.2.2.2.2.2.2.2.2.2.2.2.1,()),((elt qja v.2.2.1 (v.2.2.2.2.1).toNat).1,(elt qja v.2.2.1 (v.2.2.2.2.1).toNat).2.1,()),())) fun r1=>(Dt.ret (v.1,v.2.1,v.2.2.1,v.2.2.2.1,v.2.2.2.2.1,v.2.2.2.2.2.1,v.2.2.2.2.2.2.1,v.2.2.2.2.2.2.2.1,r1.2.2,v.2.2.2.2.2.2.2.2.1,v.2.2.2.2.2.2.2.2.2.1,v.2.2.2.2.2.2.2.2.2.2.1,v.2.2.2.2.2.2.2.2.2.2.2.1,v.2.2.2.2.2.2.2.2.2.2.2.2.1,v.2.2.2.2.2.2.2.2.2.2.2.2.2.1,v.2.2.2.2.2.2.2.2.2.2.2.2.2.2.1,v.2.2.2.2.2.2.2.2.2.2.2.2.2.2.2.1,v.2.2.2.2.2.2.2.2.2.2.2.2.2.2.2.2,r1.1,r1.2.1))) Dt.fail)
theorem q2w4 C v:q3gu (regO (qct f16) 16) true [(1,(.val Ri)),(2,(.val Ri)),(3,(.val qj8)),(4,(.box [.val Riii])),(9,.any),(12,.any),(13,.any),(14,.any),(15,.any),(16,.any),(17,.any),(18,.any),(19,.any),(20,.any)] q2vy q2w3 q2w2 C v:=rgI (by kernel_rfl)
abbrev q2w5:Type:=List Di×List Di×List qj9×Int×Int×Int×Int×Int×Int×Int×List Diii×Int×Int×Int×Int×Int×Int×Int×Int
def q2w6 (v:q2w5):St:=⟨[(1,.fz Ri v.1),(2,.fz Ri v.2.1),(3,.fz qj8 v.2.2.1),(4,.ptr 0 0),(9,i6 v.2.2.2.1),(12,i6 v.2.2.2.2.1),(13,.ptr 1 0),(14,i6 v.2.2.2.2.2.1),(15,.ptr 2 0),(16,i6 v.2.2.2.2.2.2.1),(18,i6 v.2.2.2.2.2.2.2.1),(20,i6 v.2.2.2.2.2.2.2.2.1),(21,.ptr 3 0),(22,i6 v.2.2.2.2.2.2.2.2.2.1)],[.cells [.fz Riii v.2.2.2.2.2.2.2.2.2.2.1],.cells [i6 v.2.2.2.2.2.2.2.2.2.2.2.1,i6 v.2.2.2.2.2.2.2.2.2.2.2.2.1,i6 v.2.2.2.2.2.2.2.2.2.2.2.2.2.1],.cells [i6 v.2.2.2.2.2.2.2.2.2.2.2.2.2.2.1,i6 v.2.2.2.2.2.2.2.2.2.2.2.2.2.2.2.1,i6 v.2.2.2.2.2.2.2.2.2.2.2.2.2.2.2.2.1],.cells [i6 v.2.2.2.2.2.2.2.2.2.2.2.2.2.2.2.2.2.1,i6 v.2.2.2.2.2.2.2.2.2.2.2.2.2.2.2.2.2.2]]⟩
def q2w7 (C:q2uc) (v:q2w1):Dt q2w5:=(Dt.bnd (C.2.2.2.1 ((v.2.2.2.2.2.2.2.2.2.2.2.2.2.2.2.2.1,v.2.2.2.2.2.2.2.2.2.2.2.2.2.2.2.2.2.1,()),(v.2.2.2.2.2.2.2.2.2.2.2.2.2.2.2.2.2.2.1,v.2.2.2.2.2.2.2.2.2.2.2.2.2.2.2.2.2.2.2,()),())) fun r1=>(Dt.ret (v.1,v.2.1,v.2.2.1,v.2.2.2.1,v.2.2.2.2.1,v.2.2.2.2.2.1,v.2.2.2.2.2.2.1,v.2.2.2.2.2.2.2.1,v.2.2.2.2.2.2.2.2.1,r1.2.2,v.2.2.2.2.2.2.2.2.2.1,v.2.2.2.2.2.2.2.2.2.2.1,v.2.2.2.2.2.2.2.2.2.2.2.1,v.2.2.2.2.2.2.2.2.2.2.2.2.1,v.2.2.2.2.2.2.2.2.2.2.2.2.2.1,v.2.2.2.2.2.2.2.2.2.2.2.2.2.2.1,v.2.2.2.2.2.2.2.2.2.2.2.2.2.2.2.1,r1.1,r1.2.1)))
theorem q2w8 C v:q3gu (regO (qct f16) 17) false [(1,(.val Ri)),(2,(.val Ri)),(3,(.val qj8)),(4,(.box [.val Riii])),(9,.any),(12,.any),(13,.any),(14,.any),(15,.any),(16,.any),(18,.any),(20,.any),(21,.any),(22,.any)] q2w2 q2w7 q2w6 C v:=rgI (by kernel_rfl)
abbrev q2w9:Type:=List Di×List Di×List qj9×Int×Int×Int×Int×Int×Int×Int×Bool×List Diii×Int×Int×Int×Int×Int×Int×Int×Int
def q2wa (v:q2w9):St:=⟨[(1,.fz Ri v.1),(2,.fz Ri v.2.1),(3,.fz qj8 v.2.2.1),(4,.ptr 0 0),(9,i6 v.2.2.2.1),(12,i6 v.2.2.2.2.1),(13,.ptr 1 0),(14,i6 v.2.2.2.2.2.1),(15,.ptr 2 0),(16,i6 v.2.2.2.2.2.2.1),(18,i6 v.2.2.2.2.2.2.2.1),(20,i6 v.2.2.2.2.2.2.2.2.1),(21,.ptr 3 0),(22,i6 v.2.2.2.2.2.2.2.2.2.1),(23,.bool v.2.2.2.2.2.2.2.2.2.2.1)],[.cells [.fz Riii v.2.2.2.2.2.2.2.2.2.2.2.1],.cells [i6 v.2.2.2.2.2.2.2.2.2.2.2.2.1,i6 v.2.2.2.2.2.2.2.2.2.2.2.2.2.1,i6 v.2.2.2.2.2.2.2.2.2.2.2.2.2.2.1],.cells [i6 v.2.2.2.2.2.2.2.2.2.2.2.2.2.2.2.1,i6 v.2.2.2.2.2.2.2.2.2.2.2.2.2.2.2.2.1,i6 v.2.2.2.2.2.2.2.2.2.2.2.2.2.2.2.2.2.1],.cells [i6 v.2.2.2.2.2.2.2.2.2.2.2.2.2.2.2.2.2.2.1,i6 v.2.2.2.2.2.2.2.2.2.2.2.2.2.2.2.2.2.2.2]]⟩
def q2wb (C:q2uc) (v:q2w5):Dt q2w9:=(Dt.ite (inB v.2.2.2.2.1 (List.length v.2.2.1)) (Dt.bnd (C.2.1 ((v.1,()),((elt qja v.2.2.1 (v.2.2.2.2.1).toNat).2.2.1,()),())) fun r1=>(Dt.ite (inB v.2.2.2.2.1 (List.length v.2.2.1)) (Dt.bnd (C.2.1 ((v.1,()),((elt qja v.2.2.1 (v.2.2.2.2.1).toNat).2.2.2.1,()),())) fun r2=>(Dt.ret (v.1,v.2.1,v.2.2.1,v.2.2.2.1,v.2.2.2.2.1,v.2.2.2.2.2.1,v.2.2.2.2.2.2.1,v.2.2.2.2.2.2.2.1,v.2.2.2.2.2.2.2.2.1,v.2.2.2.2.2.2.2.2.2.1,(decide (r1<r2)),v.2.2.2.2.2.2.2.2.2.2.1,v.2.2.2.2.2.2.2.2.2.2.2.1,v.2.2.2.2.2.2.2.2.2.2.2.2.1,v.2.2.2.2.2.2.2.2.2.2.2.2.2.1,v.2.2.2.2.2.2.2.2.2.2.2.2.2.2.1,v.2.2.2.2.2.2.2.2.2.2.2.2.2.2.2.1,v.2.2.2.2.2.2.2.2.2.2.2.2.2.2.2.2.1,v.2.2.2.2.2.2.2.2.2.2.2.2.2.2.2.2.2.1,v.2.2.2.2.2.2.2.2.2.2.2.2.2.2.2.2.2.2))) Dt.fail)) Dt.fail)
theorem q2wc C v:q3gu (regO (qct f16) 18) true [(1,(.val Ri)),(2,(.val Ri)),(3,(.val qj8)),(4,(.box [.val Riii])),(9,.any),(12,.any),(13,.any),(14,.any),(15,.any),(16,.any),(18,.any),(20,.any),(21,.any),(22,.any),(23,.any)] q2w6 q2wb q2wa C v:=rgI (by kernel_rfl)
abbrev q2wd:Type:=List Di×List Di×List qj9×Int×Int×Int×Int×Int×Int×Int×Bool×Bool×List Diii×Int×Int×Int×Int×Int×Int×Int×Int
def q2we (v:q2wd):St:=⟨[(1,.fz Ri v.1),(2,.fz Ri v.2.1),(3,.fz qj8 v.2.2.1),(4,.ptr 0 0),(9,i6 v.2.2.2.1),(12,i6 v.2.2.2.2.1),(13,.ptr 1 0),(14,i6 v.2.2.2.2.2.1),(15,.ptr 2 0),(16,i6 v.2.2.2.2.2.2.1),(18,i6 v.2.2.2.2.2.2.2.1),(20,i6 v.2.2.2.2.2.2.2.2.1),(21,.ptr 3 0),(22,i6 v.2.2.2.2.2.2.2.2.2.1),(23,.bool v.2.2.2.2.2.2.2.2.2.2.1),(24,.bool v.2.2.2.2.2.2.2.2.2.2.2.1)],[.cells [.fz Riii v.2.2.2.2.2.2.2.2.2.2.2.2.1],.cells [i6 v.2.2.2.2.2.2.2.2.2.2.2.2.2.1,i6 v.2.2.2.2.2.2.2.2.2.2.2.2.2.2.1,i6 v.2.2.2.2.2.2.2.2.2.2.2.2.2.2.2.1],.cells [i6 v.2.2.2.2.2.2.2.2.2.2.2.2.2.2.2.2.1,i6 v.2.2.2.2.2.2.2.2.2.2.2.2.2.2.2.2.2.1,i6 v.2.2.2.2.2.2.2.2.2.2.2.2.2.2.2.2.2.2.1],.cells [i6 v.2.2.2.2.2.2.2.2.2.2.2.2.2.2.2.2.2.2.2.1,i6 v.2.2.2.2.2.2.2.2.2.2.2.2.2.2.2.2.2.2.2.2]]⟩
def q2wf (C:q2uc) (v:q2w9):Dt q2wd:=(Dt.ite (inB v.2.2.2.2.1 (List.length v.2.2.1)) (Dt.bnd (C.2.1 ((v.2.1,()),((elt qja v.2.2.1 (v.2.2.2.2.1).toNat).2.2.1,()),())) fun r1=>(Dt.ite (inB v.2.2.2.2.1 (List.length v.2.2.1)) (Dt.bnd (C.2.1 ((v.2.1,()),((elt qja v.2.2.1 (v.2.2.2.2.1).toNat).2.2.2.1,()),())) fun r2=>(Dt.ret (v.1,v.2.1,v.2.2.1,v.2.2.2.1,v.2.2.2.2.1,v.2.2.2.2.2.1,v.2.2.2.2.2.2.1,v.2.2.2.2.2.2.2.1,v.2.2.2.2.2.2.2.2.1,v.2.2.2.2.2.2.2.2.2.1,v.2.2.2.2.2.2.2.2.2.2.1,(decide (r1<r2)),v.2.2.2.2.2.2.2.2.2.2.2.1,v.2.2.2.2.2.2.2.2.2.2.2.2.1,v.2.2.2.2.2.2.2.2.2.2.2.2.2.1,v.2.2.2.2.2.2.2.2.2.2.2.2.2.2.1,v.2.2.2.2.2.2.2.2.2.2.2.2.2.2.2.1,v.2.2.2.2.2.2.2.2.2.2.2.2.2.2.2.2.1,v.2.2.2.2.2.2.2.2.2.2.2.2.2.2.2.2.2.1,v.2.2.2.2.2.2.2.2.2.2.2.2.2.2.2.2.2.2.1,v.2.2.2.2.2.2.2.2.2.2.2.2.2.2.2.2.2.2.2))) Dt.fail)) Dt.fail)
theorem q2wg C v:q3gu (regO (qct f16) 19) true [(1,(.val Ri)),(2,(.val Ri)),(3,(.val qj8)),(4,(.box [.val Riii])),(9,.any),(12,.any),(13,.any),(14,.any),(15,.any),(16,.any),(18,.any),(20,.any),(21,.any),(22,.any),(23,.any),(24,.any)] q2wa q2wf q2we C v:=rgI (by kernel_rfl)
abbrev q2wh:Type:=List Di×List Di×List qj9×Int×Int×Bool×List Diii
def q2wi (v:q2wh):St:=⟨[(1,.fz Ri v.1),(2,.fz Ri v.2.1),(3,.fz qj8 v.2.2.1),(4,.ptr 0 0),(9,i6 v.2.2.2.1),(12,i6 v.2.2.2.2.1),(172,.bool v.2.2.2.2.2.1)],[.cells [.fz Riii v.2.2.2.2.2.2]]⟩
def q2wj (C:q2uc) (v:q2wd):Dt q2wh:=(Dt.ite (v.2.2.2.2.2.1 != (0:Int)) (Dt.ret (v.1,v.2.1,v.2.2.1,v.2.2.2.1,v.2.2.2.2.1,true,v.2.2.2.2.2.2.2.2.2.2.2.2.1)) (Dt.ite (v.2.2.2.2.2.2.1 != (0:Int)) (Dt.ret (v.1,v.2.1,v.2.2.1,v.2.2.2.1,v.2.2.2.2.1,true,v.2.2.2.2.2.2.2.2.2.2.2.2.1)) (Dt.ite (v.2.2.2.2.2.2.2.1 != (0:Int)) (Dt.ret (v.1,v.2.1,v.2.2.1,v.2.2.2.1,v.2.2.2.2.1,true,v.2.2.2.2.2.2.2.2.2.2.2.2.1)) (Dt.ite (v.2.2.2.2.2.2.2.2.1 != (0:Int)) (Dt.ret (v.1,v.2.1,v.2.2.1,v.2.2.2.1,v.2.2.2.2.1,true,v.2.2.2.2.2.2.2.2.2.2.2.2.1)) (Dt.ite (v.2.2.2.2.2.2.2.2.2.1 != (0:Int)) (Dt.ret (v.1,v.2.1,v.2.2.1,v.2.2.2.1,v.2.2.2.2.1,true,v.2.2.2.2.2.2.2.2.2.2.2.2.1)) (Dt.ite (v.2.2.2.2.2.2.2.2.2.2.2.2.2.2.2.2.2.2.2.1 != (0:Int)) (Dt.ret (v.1,v.2.1,v.2.2.1,v.2.2.2.1,v.2.2.2.2.1,true,v.2.2.2.2.2.2.2.2.2.2.2.2.1)) (Dt.ite (v.2.2.2.2.2.2.2.2.2.2.1 == v.2.2.2.2.2.2.2.2.2.2.2.1) (Dt.ret (v.1,v.2.1,v.2.2.1,v.2.2.2.1,v.2.2.2.2.1,true,v.2.2.2.2.2.2.2.2.2.2.2.2.1)) (Dt.ret (v.1,v.2.1,v.2.2.1,v.2.2.2.1,v.2.2.2.2.1,(!(v.2.2.2.2.2.2.2.2.2.2.2.1 == (decide (v.2.2.2.2.2.2.2.2.2.2.2.2.2.2.2.1 > v.2.2.2.2.2.2.2.2.2.2.2.2.2.2.2.2.2.2.1)))),v.2.2.2.2.2.2.2.2.2.2.2.2.1)))))))))
theorem q2wk C v:q3gu (regO (qct f16) 20) false [(1,(.val Ri)),(2,(.val Ri)),(3,(.val qj8)),(4,(.box [.val Riii])),(9,.any),(12,.any),(172,.any)] q2we q2wj q2wi C v:=rgI (by kernel_rfl)
abbrev q2wl:Type:=Bool
def q2wm (v:q2wl):St:=⟨[(8,.bool v)],[]⟩
def q2wn (C:q2uc) (v:q2wh):Dt q2wl:=(Dt.ret false)
theorem q2wo C v:q3gu (regO (qct f16) 21) false [(8,.any)] q2wi q2wn q2wm C v:=rgI (by kernel_rfl)
def q2wp (C:q2uc) (v:q2wh):Dt q2vh:=(Dt.ret (v.1,v.2.1,v.2.2.1,v.2.2.2.1,(IntKind.wrap .i64 (v.2.2.2.2.1+(1:Int))),v.2.2.2.2.2.2))
theorem q2wq C v:q3gu (regO (qct f16) 12) false [(1,(.val Ri)),(2,(.val Ri)),(3,(.val qj8)),(4,(.box [.val Riii])),(9,.any),(12,.any)] q2wi q2wp q2vi C v:=rgI (by kernel_rfl)
def q2wr (C:q2uc) (v:q2vl):Dt q2wl:=(Dt.ite (v.2.2.2.1 == (List.length v.2.2.1:Int)) (Dt.ret ((List.length v.2.1:Int) == (List.length v.1:Int))) (Dt.ret false))
theorem q2ws C v:q3gu (regO (qct f16) 22) false [(8,.any)] q2vm q2wr q2wm C v:=rgI (by kernel_rfl)
def q2wt (d:Nat) (self4:(List Di×List Di×List qj9×Int×Int×List Diii)→Option q2u9) (x4:List Di×List Di×List qj9×Int×Int×List Diii):Option q2u9 :=
 (q2vn (q2ud d) x4).eval fun y11 =>
 bif y11.2.2.2.2.2.1 then ((q2vr (q2ud d) y11).eval fun y13 =>
 (q2vv (q2ud d) y13).eval fun y14 =>
 (q2vz (q2ud d) y14).eval fun y15 =>
 (q2w3 (q2ud d) y15).eval fun y16 =>
 (q2w7 (q2ud d) y16).eval fun y17 =>
 (q2wb (q2ud d) y17).eval fun y18 =>
 (q2wf (q2ud d) y18).eval fun y19 =>
 (q2wj (q2ud d) y19).eval fun y20 =>
 bif y20.2.2.2.2.2.1 then ((q2wn (q2ud d) y20).eval fun y21 =>
 some y21) else ((q2wp (q2ud d) y20).eval fun y12 =>
 self4 y12)) else ((q2wr (q2ud d) y11).eval fun y22 =>
 some y22)
def q2wu (d:Nat) (self1:(List Di×List Di×List qj9×Int×Int×List Diii)→Option q2u9) (x1:List Di×List Di×List qj9×Int×Int×List Diii):Option q2u9 :=
 (q2uv (q2ud d) x1).eval fun y3 =>
 bif y3.2.2.2.2.2.1 then ((q2uz (q2ud d) y3).eval fun y5 =>
 iter (q2vg d self1) d y5) else ((q2vj (q2ud d) y3).eval fun y10 =>
 iter (q2wt d ) d y10)
def q2wv (d:Nat) (x:q2u8):Option q2u9 :=
 (q2uj (q2ud d) (x.1.1,x.2.1.1,x.2.2.1.1,x.2.2.2.1.1)).eval fun y0 =>
 (q2un (q2ud d) y0).eval fun y1 =>
 (q2ur (q2ud d) y1).eval fun y2 =>
 iter (q2wu d ) d y2
theorem q2ww (d:Nat):COK prog (q2ub (q2wv d)):=by
 have hm:prog.follows .mixedOrders=true:=mixed
 have hT:=tys
 have hC0:OrcOK prog (orc (q2ue (q2ud d))):=qcn (by
  intro S hS
  simp only [q2ue,List.mem_cons,List.not_mem_nil,or_false] at hS
  rcases hS with rfl | rfl | rfl | rfl
  · exact q1rn d
  · exact q2u6 d
  · exact qvm d
  · exact q1p0 d)
 have hC:OrcOK prog (orc (q2ue (q2ud d))):=hC0
 refine q8c (c:=qct f16) (fn:=f16) hT (by kernel_rfl) (by kernel_rfl) (by decide) fun x r h w0 φ0 Q hend=>?_
 replace h:q2wv d x=some r:=h
 unfold q2wv at h
 show Run prog w0 φ0 184 (qct f16) ⟨[(0,.agg [.fz Riii x.1.1]),(1,.fz Ri x.2.1.1),(2,.fz Ri x.2.2.1.1),(3,.fz qj8 x.2.2.2.1.1)],[]⟩ Q
 refine q3f2 hm hT hC (q2uk (q2ud d) (x.1.1,x.2.1.1,x.2.2.1.1,x.2.2.2.1.1)) h fun y0 h=>?_
 refine q3f2 hm hT hC (q2uo (q2ud d) y0) h fun y1 h=>?_
 refine q7w ?_
 refine q3f2 hm hT hC (q2us (q2ud d) y1) h fun y2 h=>?_
 refine q7x ?_
 refine q82 (G:=iter (q2wu d )) (S:=(fun x1=>⟨[(1,.fz Ri x1.1),(2,.fz Ri x1.2.1),(3,.fz qj8 x1.2.2.1),(4,.ptr 0 0),(9,i6 x1.2.2.2.1),(10,i6 x1.2.2.2.2.1)],[.cells [.fz Riii x1.2.2.2.2.2]]⟩:List Di×List Di×List qj9×Int×Int×List Diii→St)) (fun _=>rfl) ?_ d _ h
 intro n1 x1 h K1 hn1
 replace h:q2wu d  (iter (q2wu d ) n1) x1=some r:=h
 generalize iter (q2wu d ) n1=self1 at h hn1
 unfold q2wu at h
 refine q7w ?_
 refine q3f2 hm hT hC (q2uw (q2ud d) x1) h fun y3 h=>?_
 refine q80 (v:=y3.2.2.2.2.2.1) (by kernel_rfl) h ?_ ?_
 ·
  intro h
  refine q7s (q7i (q7w (q7x ?_)))
  refine q3f2 hm hT hC (q2v0 (q2ud d) y3) h fun y5 h=>?_
  refine q7x ?_
  refine q82 (G:=iter (q2vg d self1)) (S:=(fun x2=>⟨[(1,.fz Ri x2.1),(2,.fz Ri x2.2.1),(3,.fz qj8 x2.2.2.1),(4,.ptr 0 0),(9,i6 x2.2.2.2.1),(10,i6 x2.2.2.2.2.1),(11,i6 x2.2.2.2.2.2.1)],[.cells [.fz Riii x2.2.2.2.2.2.2]]⟩:List Di×List Di×List qj9×Int×Int×Int×List Diii→St)) (fun _=>rfl) ?_ d _ h
  intro n2 x2 h K2 hn2
  replace h:q2vg d self1 (iter (q2vg d self1) n2) x2=some r:=h
  generalize iter (q2vg d self1) n2=self2 at h hn2
  unfold q2vg at h
  refine q7w ?_
  refine q3f2 hm hT hC (q2v4 (q2ud d) x2) h fun y6 h=>?_
  refine q80 (v:=y6.2.2.2.2.2.2.1) (by kernel_rfl) h ?_ ?_
  ·
   intro h
   refine q7s (q7i ?_)
   refine q7z (r:=r) (F:=q2vd d self1 self2) (S:=(fun z=>⟨[(1,.fz Ri z.1),(2,.fz Ri z.2.1),(3,.fz qj8 z.2.2.1),(4,.ptr 0 0),(9,i6 z.2.2.2.1),(10,i6 z.2.2.2.2.1),(11,i6 z.2.2.2.2.2.1)],[.cells [.fz Riii z.2.2.2.2.2.2]]⟩:List Di×List Di×List qj9×Int×Int×Int×List Diii→St)) ?_ ?_
   ·
    intro z h
    unfold q2vd at h
    refine q81 hm hT hC (q2vc (q2ud d) z) h ?_
    intro y7 h
    exact hn2 _ h
   intro hj3
   refine q7x ?_
   refine q3f2 hm hT hC (q2v8 (q2ud d) y6) h fun y8 h=>?_
   refine q80 (v:=y8.2.2.2.2.2.2.1) (by kernel_rfl) h ?_ ?_
   ·
    intro h
    refine q81 hm hT hC (q2va (q2ud d) y8) h ?_
    intro y9 h
    refine q7l ?_
    exact hj3 _ h
   ·
    intro h
    refine q7s (q7l ?_)
    refine qcs (s:=⟨[(1,.fz Ri y8.1),(2,.fz Ri y8.2.1),(3,.fz qj8 y8.2.2.1),(4,.ptr 0 0),(9,.int .i64 y8.2.2.2.1),(10,.int .i64 y8.2.2.2.2.1),(11,.int .i64 y8.2.2.2.2.2.1)],[.cells [.fz Riii y8.2.2.2.2.2.2.2]]⟩) [51] (by kernel_rfl) ?_
    exact hj3 _ h
  ·
   intro h
   refine q7u (q7j (q7j (q7n (q7l (q7i ?_)))))
   refine q81 hm hT hC (q2vf (q2ud d) y6) h ?_
   intro y4 h
   exact hn1 _ h
 ·
  intro h
  refine q7u (q7j (q7j (q7n (q7i (q7w ?_)))))
  refine q3f2 hm hT hC (q2vk (q2ud d) y3) h fun y10 h=>?_
  refine q7x ?_
  refine q82 (G:=iter (q2wt d )) (S:=(fun x4=>⟨[(1,.fz Ri x4.1),(2,.fz Ri x4.2.1),(3,.fz qj8 x4.2.2.1),(4,.ptr 0 0),(9,i6 x4.2.2.2.1),(12,i6 x4.2.2.2.2.1)],[.cells [.fz Riii x4.2.2.2.2.2]]⟩:List Di×List Di×List qj9×Int×Int×List Diii→St)) (fun _=>rfl) ?_ d _ h
  intro n4 x4 h K4 hn4
  replace h:q2wt d  (iter (q2wt d ) n4) x4=some r:=h
  generalize iter (q2wt d ) n4=self4 at h hn4
  unfold q2wt at h
  refine q7w ?_
  refine q3f2 hm hT hC (q2vo (q2ud d) x4) h fun y11 h=>?_
  refine q80 (v:=y11.2.2.2.2.2.1) (by kernel_rfl) h ?_ ?_
  ·
   intro h
   refine q7s (q7i (q7w (q7x ?_)))
   refine q3f2 hm hT hC (q2vs (q2ud d) y11) h fun y13 h=>?_
   refine q3f2 hm hT hC (q2vw (q2ud d) y13) h fun y14 h=>?_
   refine q3f2 hm hT hC (q2w0 (q2ud d) y14) h fun y15 h=>?_
   refine q3f2 hm hT hC (q2w4 (q2ud d) y15) h fun y16 h=>?_
   refine q3f2 hm hT hC (q2w8 (q2ud d) y16) h fun y17 h=>?_
   refine q3f2 hm hT hC (q2wc (q2ud d) y17) h fun y18 h=>?_
   refine q3f2 hm hT hC (q2wg (q2ud d) y18) h fun y19 h=>?_
   refine q3f2 hm hT hC (q2wk (q2ud d) y19) h fun y20 h=>?_
   refine q80 (v:=y20.2.2.2.2.2.1) (by kernel_rfl) h ?_ ?_
   ·
    intro h
    refine q3f2 hm hT hC (q2wo (q2ud d) y20) h fun y21 h=>?_
    refine q7v (q7m (q7k (q7k (q7m (q7k ?_)))))
    cases h
    exact (hend _ (by kernel_rfl)).2
   ·
    intro h
    refine q7s (q7l (q7i ?_))
    refine q81 hm hT hC (q2wq (q2ud d) y20) h ?_
    intro y12 h
    exact hn4 _ h
  ·
   intro h
   refine q7u (q7j (q7j (q7n (q7i ?_))))
   refine q3f2 hm hT hC (q2ws (q2ud d) y11) h fun y22 h=>?_
   refine q7v ?_
   cases h
   exact (hend _ (by kernel_rfl)).2
abbrev q2wx:List Pk:=[.row qj5 true,.row RLiE false,.row Rii true,.row qjb false,.row Ri false,.row Rii true]
abbrev q2wy:Type:=qj6×DLiE×Dii×qjc×Di×Dii×Unit
abbrev q2wz:Type:=Bool
def q2x0 (r:q2wz):LV×List Ob:=(.bool r,[])
def q2x1 (F:q2wy→Option q2wz):Go.Tx.Spec:=⟨17,q2wx,q2wz,F,q2x0⟩
abbrev q2x2:Type:=(qw6→Option qw7)×(qv6→Option qv7)×(q1mq→Option q1mr)×(q273→Option q274)×(q14r→Option q14s)×Unit
def q2x3 (d:Nat):q2x2:=(qwb d,qvb d,q1o3 d,q282 d,q161 d,())
def q2x4 (C:q2x2):List Go.Tx.Spec:=[qw9 C.1,qv9 C.2.1,q1mt C.2.2.1,q276 C.2.2.2.1,q14u C.2.2.2.2.1]
abbrev q2x5:Type:=List Diii×List Di×Int×Int×List qj9×Int×Int×Int
def q2x6 (v:q2x5):St:=⟨[(0,.agg [.fz Riii v.1]),(1,.fz Ri v.2.1),(2,.agg [i6 v.2.2.1,i6 v.2.2.2.1]),(3,.fz qj8 v.2.2.2.2.1),(4,i6 v.2.2.2.2.2.1),(5,.agg [i6 v.2.2.2.2.2.2.1,i6 v.2.2.2.2.2.2.2])],[]⟩
abbrev q2x7:Type:=List Di×List qj9×Int×List Diii×Int×Int×Int×Int
def q2x8 (v:q2x7):St:=⟨[(1,.fz Ri v.1),(3,.fz qj8 v.2.1),(4,i6 v.2.2.1),(6,.ptr 0 0),(8,.ptr 1 0),(11,.ptr 2 0)],[.cells [.fz Riii v.2.2.2.1],.cells [i6 v.2.2.2.2.1,i6 v.2.2.2.2.2.1],.cells [i6 v.2.2.2.2.2.2.1,i6 v.2.2.2.2.2.2.2]]⟩
def q2x9 (C:q2x2) (v:q2x5):Dt q2x7:=(Dt.ret (v.2.1,v.2.2.2.2.1,v.2.2.2.2.2.1,v.1,v.2.2.1,v.2.2.2.1,v.2.2.2.2.2.2.1,v.2.2.2.2.2.2.2))
abbrev q3gv {V Y:Type}:=@rg q2x2 V Y tysT (fun C=>(orc (q2x4 C))) 75
theorem q2xa C v:q3gv (regO (qct f17) 0) false [(1,(.val Ri)),(3,(.val qj8)),(4,.any),(6,(.box [.val Riii])),(8,.any),(11,.any)] q2x6 q2x9 q2x8 C v:=rgI (by kernel_rfl)
abbrev q2xb:Type:=List Di×List qj9×Int×Bool×List Diii×Int×Int×Int×Int
def q2xc (v:q2xb):St:=⟨[(1,.fz Ri v.1),(3,.fz qj8 v.2.1),(4,i6 v.2.2.1),(6,.ptr 0 0),(8,.ptr 1 0),(11,.ptr 2 0),(24,.bool v.2.2.2.1)],[.cells [.fz Riii v.2.2.2.2.1],.cells [i6 v.2.2.2.2.2.1,i6 v.2.2.2.2.2.2.1],.cells [i6 v.2.2.2.2.2.2.2.1,i6 v.2.2.2.2.2.2.2.2]]⟩
def q2xd (C:q2x2) (v:q2x7):Dt q2xb:=(Dt.ret (v.1,v.2.1,v.2.2.1,(decide (v.2.2.1<(List.length v.2.1:Int))),v.2.2.2.1,v.2.2.2.2.1,v.2.2.2.2.2.1,v.2.2.2.2.2.2.1,v.2.2.2.2.2.2.2))
theorem q2xe C v:q3gv (regO (qct f17) 1) false [(1,(.val Ri)),(3,(.val qj8)),(4,.any),(6,(.box [.val Riii])),(8,.any),(11,.any),(24,.any)] q2x8 q2xd q2xc C v:=rgI (by kernel_rfl)
abbrev q2xf:Type:=List Di×List Diii×Int×Int×Int×Int
def q2xg (v:q2xf):St:=⟨[(1,.fz Ri v.1),(6,.ptr 0 0),(8,.ptr 1 0),(11,.ptr 2 0)],[.cells [.fz Riii v.2.1],.cells [i6 v.2.2.1,i6 v.2.2.2.1],.cells [i6 v.2.2.2.2.1,i6 v.2.2.2.2.2]]⟩
def q2xh (C:q2x2) (v:q2xb):Dt q2xf:=(Dt.ite (inB v.2.2.1 (List.length v.2.1)) (Dt.ret (v.1,v.2.2.2.2.1,v.2.2.2.2.2.1,v.2.2.2.2.2.2.1,(elt qja v.2.1 (v.2.2.1).toNat).1,(elt qja v.2.1 (v.2.2.1).toNat).2.1)) Dt.fail)
theorem q2xi C v:q3gv (regO (qct f17) 2) false [(1,(.val Ri)),(6,(.box [.val Riii])),(8,.any),(11,.any)] q2xc q2xh q2xg C v:=rgI (by kernel_rfl)
abbrev q2xj:Type:=List Di×Int×List Diii×Int×Int×Int×Int
def q2xk (v:q2xj):St:=⟨[(1,.fz Ri v.1),(6,.ptr 0 0),(11,.ptr 1 0),(13,.ptr 2 0),(14,i6 v.2.1)],[.cells [.fz Riii v.2.2.1],.cells [i6 v.2.2.2.1,i6 v.2.2.2.2.1],.cells [i6 v.2.2.2.2.2.1,i6 v.2.2.2.2.2.2]]⟩
def q2xl (C:q2x2) (v:q2xf):Dt q2xj:=(Dt.bnd (C.2.2.1 ((v.2.2.1,v.2.2.2.1,()),(v.2.2.2.2.1,v.2.2.2.2.2,()),())) fun r1=>(Dt.ret (v.1,r1.2.2,v.2.1,v.2.2.2.2.1,v.2.2.2.2.2,r1.1,r1.2.1)))
theorem q2xm C v:q3gv (regO (qct f17) 3) false [(1,(.val Ri)),(6,(.box [.val Riii])),(11,.any),(13,.any),(14,.any)] q2xg q2xl q2xk C v:=rgI (by kernel_rfl)
abbrev q2xn:Type:=List Di×Int×Int×List Diii×Int×Int×Int×Int
def q2xo (v:q2xn):St:=⟨[(1,.fz Ri v.1),(6,.ptr 0 0),(11,.ptr 1 0),(14,i6 v.2.1),(15,.ptr 2 0),(16,i6 v.2.2.1)],[.cells [.fz Riii v.2.2.2.1],.cells [i6 v.2.2.2.2.1,i6 v.2.2.2.2.2.1],.cells [i6 v.2.2.2.2.2.2.1,i6 v.2.2.2.2.2.2.2]]⟩
def q2xp (C:q2x2) (v:q2xj):Dt q2xn:=(Dt.bnd (C.2.2.2.1 ((v.2.2.2.2.2.1,v.2.2.2.2.2.2,()),((1:Int),(2:Int),()),())) fun r1=>(Dt.ret (v.1,v.2.1,r1.2.2,v.2.2.1,v.2.2.2.1,v.2.2.2.2.1,r1.1,r1.2.1)))
theorem q2xq C v:q3gv (regO (qct f17) 4) false [(1,(.val Ri)),(6,(.box [.val Riii])),(11,.any),(14,.any),(15,.any),(16,.any)] q2xk q2xp q2xo C v:=rgI (by kernel_rfl)
abbrev q2xr:Type:=List Di×Bool×List Diii×Int×Int×Int×Int
def q2xs (v:q2xr):St:=⟨[(1,.fz Ri v.1),(6,.ptr 0 0),(11,.ptr 1 0),(15,.ptr 2 0),(47,.bool v.2.1)],[.cells [.fz Riii v.2.2.1],.cells [i6 v.2.2.2.1,i6 v.2.2.2.2.1],.cells [i6 v.2.2.2.2.2.1,i6 v.2.2.2.2.2.2]]⟩
def q2xt (C:q2x2) (v:q2xn):Dt q2xr:=(Dt.ite (v.2.1 != (0:Int)) (Dt.ret (v.1,true,v.2.2.2.1,v.2.2.2.2.1,v.2.2.2.2.2.1,v.2.2.2.2.2.2.1,v.2.2.2.2.2.2.2)) (Dt.ret (v.1,(v.2.2.1 != (0:Int)),v.2.2.2.1,v.2.2.2.2.1,v.2.2.2.2.2.1,v.2.2.2.2.2.2.1,v.2.2.2.2.2.2.2)))
theorem q2xu C v:q3gv (regO (qct f17) 5) false [(1,(.val Ri)),(6,(.box [.val Riii])),(11,.any),(15,.any),(47,.any)] q2xo q2xt q2xs C v:=rgI (by kernel_rfl)
abbrev q2xv:Type:=Bool
def q2xw (v:q2xv):St:=⟨[(12,.bool v)],[]⟩
def q2xx (C:q2x2) (v:q2xr):Dt q2xv:=(Dt.ret true)
theorem q2xy C v:q3gv (regO (qct f17) 6) false [(12,.any)] q2xs q2xx q2xw C v:=rgI (by kernel_rfl)
abbrev q2xz:Type:=List Di×Int×Int×List Diii×Int×Int
def q2y0 (v:q2xz):St:=⟨[(1,.fz Ri v.1),(6,.ptr 0 0),(15,.ptr 1 0),(17,i6 v.2.1),(18,i6 v.2.2.1)],[.cells [.fz Riii v.2.2.2.1],.cells [i6 v.2.2.2.2.1,i6 v.2.2.2.2.2]]⟩
def q2y1 (C:q2x2) (v:q2xr):Dt q2xz:=(Dt.bnd (C.2.2.2.2.1 ((v.2.2.2.2.2.1,v.2.2.2.2.2.2,()),(v.2.2.2.1,v.2.2.2.2.1,()),())) fun r1=>(Dt.ret (v.1,r1.1,r1.2,v.2.2.1,v.2.2.2.2.2.1,v.2.2.2.2.2.2)))
theorem q2y2 C v:q3gv (regO (qct f17) 7) false [(1,(.val Ri)),(6,(.box [.val Riii])),(15,.any),(17,.any),(18,.any)] q2xs q2y1 q2y0 C v:=rgI (by kernel_rfl)
abbrev q2y3:Type:=List Di×Int×Int×Int×List Di
def q2y4 (v:q2y3):St:=⟨[(1,.fz Ri v.1),(17,i6 v.2.1),(18,i6 v.2.2.1),(19,.rs 0),(20,i6 v.2.2.2.1)],[.rows Ri v.2.2.2.2]⟩
def q2y5 (C:q2x2) (v:q2xz):Dt q2y3:=(Dt.bnd (C.1 ((v.2.2.2.1,()),(v.2.2.2.2.1,v.2.2.2.2.2,()),())) fun r1=>(Dt.ret (v.1,v.2.1,v.2.2.1,r1.2,r1.1)))
theorem q2y6 C v:q3gv (regO (qct f17) 8) false [(1,(.val Ri)),(17,.any),(18,.any),(19,(.own Ri)),(20,.any)] q2y0 q2y5 q2y4 C v:=rgI (by kernel_rfl)
def q2y7 (C:q2x2) (v:q2y3):Dt q2xv:=(Dt.ite (v.2.2.1 == (0:Int)) (Dt.ite (v.2.2.2.1 == (0:Int)) (Dt.ite (v.2.1 == (0:Int)) (Dt.ret true) (Dt.bnd (C.2.1 ((v.2.2.2.2,()),(v.1,()),())) fun r1=>(Dt.ret r1))) (Dt.ret false)) (Dt.ret false))
theorem q2y8 C v:q3gv (regO (qct f17) 9) false [(12,.any)] q2y4 q2y7 q2xw C v:=rgI (by kernel_rfl)
def q2y9  (d:Nat)  (z:List Di×List Diii×Int×Int×Int×Int):Option (q2wz) :=
 (q2xl (q2x3 d) z).eval fun y3 =>
 (q2xp (q2x3 d) y3).eval fun y4 =>
 (q2xt (q2x3 d) y4).eval fun y5 =>
 bif y5.2.1 then ((q2xx (q2x3 d) y5).eval fun y6 =>
 some y6) else ((q2y1 (q2x3 d) y5).eval fun y7 =>
 (q2y5 (q2x3 d) y7).eval fun y8 =>
 (q2y7 (q2x3 d) y8).eval fun y9 =>
 some y9)
def q2ya (d:Nat) (x:q2wy):Option q2wz :=
 (q2x9 (q2x3 d) (x.1.1,x.2.1.1,x.2.2.1.1,x.2.2.1.2.1,x.2.2.2.1.1,x.2.2.2.2.1.1,x.2.2.2.2.2.1.1,x.2.2.2.2.2.1.2.1)).eval fun y0 =>
 (q2xd (q2x3 d) y0).eval fun y1 =>
 bif y1.2.2.2.1 then ((q2xh (q2x3 d) y1).eval fun y2 =>
 q2y9 d  y2) else (q2y9 d  (y1.1,y1.2.2.2.2.1,y1.2.2.2.2.2.1,y1.2.2.2.2.2.2.1,y1.2.2.2.2.2.2.2.1,y1.2.2.2.2.2.2.2.2))
theorem q2yb (d:Nat):COK prog (q2x1 (q2ya d)):=by
 have hm:prog.follows .mixedOrders=true:=mixed
 have hT:=tys
 have hC0:OrcOK prog (orc (q2x4 (q2x3 d))):=qcn (by
  intro S hS
  simp only [q2x4,List.mem_cons,List.not_mem_nil,or_false] at hS
  rcases hS with rfl | rfl | rfl | rfl | rfl
  · exact qwd d
  · exact qvd d
  · exact q1o4 d
  · exact q283 d
  · exact q162 d)
 have hC:OrcOK prog (orc (q2x4 (q2x3 d))):=hC0
 refine q8c (c:=qct f17) (fn:=f17) hT (by kernel_rfl) (by kernel_rfl) (by decide) fun x r h w0 φ0 Q hend=>?_
 replace h:q2ya d x=some r:=h
 unfold q2ya at h
 show Run prog w0 φ0 75 (qct f17) ⟨[(0,.agg [.fz Riii x.1.1]),(1,.fz Ri x.2.1.1),(2,.agg [.int .i64 x.2.2.1.1,.int .i64 x.2.2.1.2.1]),(3,.fz qj8 x.2.2.2.1.1),(4,.int .i64 x.2.2.2.2.1.1),(5,.agg [.int .i64 x.2.2.2.2.2.1.1,.int .i64 x.2.2.2.2.2.1.2.1])],[]⟩ Q
 refine q3f2 hm hT hC (q2xa (q2x3 d) (x.1.1,x.2.1.1,x.2.2.1.1,x.2.2.1.2.1,x.2.2.2.1.1,x.2.2.2.2.1.1,x.2.2.2.2.2.1.1,x.2.2.2.2.2.1.2.1)) h fun y0 h=>?_
 refine q7z (r:=r) (F:=q2y9 d ) (S:=(fun z=>⟨[(1,.fz Ri z.1),(6,.ptr 0 0),(8,.ptr 1 0),(11,.ptr 2 0)],[.cells [.fz Riii z.2.1],.cells [i6 z.2.2.1,i6 z.2.2.2.1],.cells [i6 z.2.2.2.2.1,i6 z.2.2.2.2.2]]⟩:List Di×List Diii×Int×Int×Int×Int→St)) ?_ ?_
 ·
  intro z h
  unfold q2y9 at h
  refine q3f2 hm hT hC (q2xm (q2x3 d) z) h fun y3 h=>?_
  refine q3f2 hm hT hC (q2xq (q2x3 d) y3) h fun y4 h=>?_
  refine q7w ?_
  refine q3f2 hm hT hC (q2xu (q2x3 d) y4) h fun y5 h=>?_
  refine q80 (v:=y5.2.1) (by kernel_rfl) h ?_ ?_
  ·
   intro h
   refine q3f2 hm hT hC (q2xy (q2x3 d) y5) h fun y6 h=>?_
   refine q7v (q7k ?_)
   cases h
   exact (hend _ (by kernel_rfl)).2
  ·
   intro h
   refine q7s (q7i ?_)
   refine q3f2 hm hT hC (q2y2 (q2x3 d) y5) h fun y7 h=>?_
   refine q3f2 hm hT hC (q2y6 (q2x3 d) y7) h fun y8 h=>?_
   refine q3f2 hm hT hC (q2y8 (q2x3 d) y8) h fun y9 h=>?_
   refine q7v ?_
   cases h
   exact (hend _ (by kernel_rfl)).2
 intro hj1
 refine q3f2 hm hT hC (q2xe (q2x3 d) y0) h fun y1 h=>?_
 refine q80 (v:=y1.2.2.2.1) (by kernel_rfl) h ?_ ?_
 ·
  intro h
  refine q81 hm hT hC (q2xi (q2x3 d) y1) h ?_
  intro y2 h
  exact hj1 _ h
 ·
  intro h
  refine q7s ?_
  refine qcs (s:=⟨[(1,.fz Ri y1.1),(6,.ptr 0 0),(8,.ptr 1 0),(11,.ptr 2 0)],[.cells [.fz Riii y1.2.2.2.2.1],.cells [.int .i64 y1.2.2.2.2.2.1,.int .i64 y1.2.2.2.2.2.2.1],.cells [.int .i64 y1.2.2.2.2.2.2.2.1,.int .i64 y1.2.2.2.2.2.2.2.2]]⟩) [3,4,24] (by kernel_rfl) ?_
  exact hj1 _ h
abbrev q2yc:List Pk:=[.row qj5 true,.row Rii true,.row Rii true,.row RLiE false]
abbrev q2yd:Type:=qj6×Dii×Dii×DLiE×Unit
abbrev q2ye:Type:=Bool
def q2yf (r:q2ye):LV×List Ob:=(.bool r,[])
def q2yg (F:q2yd→Option q2ye):Go.Tx.Spec:=⟨19,q2yc,q2ye,F,q2yf⟩
abbrev q2yh:Type:=(q2fa→Option q2fb)×(q2mo→Option q2mp)×(q2r4→Option q2r5)×(qvx→Option qvy)×Unit
def q2yi (d:Nat):q2yh:=(q2ig d,q2np d,q2sc d,qw2 d,())
def q2yj (C:q2yh):List Go.Tx.Spec:=[q2fd C.1,q2mr C.2.1,q2r7 C.2.2.1,qw0 C.2.2.2.1]
abbrev q2yk:Type:=List Diii×Int×Int×Int×Int×List Di
def q2yl (v:q2yk):St:=⟨[(0,.agg [.fz Riii v.1]),(1,.agg [i6 v.2.1,i6 v.2.2.1]),(2,.agg [i6 v.2.2.2.1,i6 v.2.2.2.2.1]),(3,.fz Ri v.2.2.2.2.2)],[]⟩
abbrev q2ym:Type:=List Di×List Diii×Int×Int×Int×Int
def q2yn (v:q2ym):St:=⟨[(3,.fz Ri v.1),(4,.ptr 0 0),(5,.ptr 1 0),(6,.ptr 2 0)],[.cells [.fz Riii v.2.1],.cells [i6 v.2.2.1,i6 v.2.2.2.1],.cells [i6 v.2.2.2.2.1,i6 v.2.2.2.2.2]]⟩
def q2yo (C:q2yh) (v:q2yk):Dt q2ym:=(Dt.ret (v.2.2.2.2.2,v.1,v.2.1,v.2.2.1,v.2.2.2.1,v.2.2.2.2.1))
abbrev q3gw {V Y:Type}:=@rg q2yh V Y tysT (fun C=>(orc (q2yj C))) 84
theorem q2yp C v:q3gw (regO (qct f19) 0) false [(3,(.val Ri)),(4,(.box [.val Riii])),(5,.any),(6,.any)] q2yl q2yo q2yn C v:=rgI (by kernel_rfl)
abbrev q2yq:Type:=List Di×Int×List Diii×Int×Int×List Diii
def q2yr (v:q2yq):St:=⟨[(3,.fz Ri v.1),(4,.ptr 0 0),(6,.ptr 1 0),(9,.rs 2),(10,i6 v.2.1)],[.cells [.fz Riii v.2.2.1],.cells [i6 v.2.2.2.1,i6 v.2.2.2.2.1],.rows Riii v.2.2.2.2.2]⟩
def q2ys (C:q2yh) (v:q2ym):Dt q2yq:=(Dt.bnd (C.1 ((v.2.1,()),(v.2.2.1,v.2.2.2.1,()),())) fun r1=>(Dt.ret (v.1,r1.2,v.2.1,v.2.2.2.2.1,v.2.2.2.2.2,r1.1)))
theorem q2yt C v:q3gw (regO (qct f19) 1) false [(3,(.val Ri)),(4,(.box [.val Riii])),(6,.any),(9,(.own Riii)),(10,.any)] q2yn q2ys q2yr C v:=rgI (by kernel_rfl)
abbrev q2yu:Type:=List Di×Int×Bool×List Diii×Int×Int×List Diii
def q2yv (v:q2yu):St:=⟨[(3,.fz Ri v.1),(4,.ptr 0 0),(6,.ptr 1 0),(9,.rs 2),(10,i6 v.2.1),(25,.bool v.2.2.1)],[.cells [.fz Riii v.2.2.2.1],.cells [i6 v.2.2.2.2.1,i6 v.2.2.2.2.2.1],.rows Riii v.2.2.2.2.2.2]⟩
def q2yw (C:q2yh) (v:q2yq):Dt q2yu:=(Dt.ret (v.1,v.2.1,((List.length v.2.2.1:Int) == (0:Int)),v.2.2.1,v.2.2.2.1,v.2.2.2.2.1,v.2.2.2.2.2))
theorem q2yx C v:q3gw (regO (qct f19) 2) false [(3,(.val Ri)),(4,(.box [.val Riii])),(6,.any),(9,(.own Riii)),(10,.any),(25,.any)] q2yr q2yw q2yv C v:=rgI (by kernel_rfl)
abbrev q2yy:Type:=Bool
def q2yz (v:q2yy):St:=⟨[(8,.bool v)],[]⟩
def q2z0 (C:q2yh) (v:q2yu):Dt q2yy:=(Dt.ret (v.2.1 == (42:Int)))
theorem q2z1 C v:q3gw (regO (qct f19) 3) false [(8,.any)] q2yv q2z0 q2yz C v:=rgI (by kernel_rfl)
abbrev q2z2:Type:=List Di×Int×Int×Int×List Diii×List Diii
def q2z3 (v:q2z2):St:=⟨[(3,.fz Ri v.1),(4,.ptr 0 0),(9,.rs 1),(10,i6 v.2.1),(11,i6 v.2.2.1),(12,i6 v.2.2.2.1)],[.cells [.fz Riii v.2.2.2.2.1],.rows Riii v.2.2.2.2.2]⟩
def q2z4 (C:q2yh) (v:q2yu):Dt q2z2:=(Dt.bnd (C.2.1 ((v.2.2.2.2.2.2,()),(v.2.2.2.2.1,v.2.2.2.2.2.1,()),())) fun r1=>(Dt.ret (v.1,v.2.1,r1.1,r1.2,v.2.2.2.1,v.2.2.2.2.2.2)))
theorem q2z5 C v:q3gw (regO (qct f19) 4) false [(3,(.val Ri)),(4,(.box [.val Riii])),(9,(.own Riii)),(10,.any),(11,.any),(12,.any)] q2yv q2z4 q2z3 C v:=rgI (by kernel_rfl)
abbrev q2z6:Type:=Bool×List Diii×List Diii
def q2z7 (v:q2z6):St:=⟨[(4,.ptr 0 0),(9,.rs 1),(56,.bool v.1)],[.cells [.fz Riii v.2.1],.rows Riii v.2.2]⟩
def q2z8 (C:q2yh) (v:q2z2):Dt q2z6:=(Dt.ite (v.2.1 != (0:Int)) (Dt.ret (true,v.2.2.2.2.1,v.2.2.2.2.2)) (Dt.ite (v.2.2.2.1 != (0:Int)) (Dt.ret (true,v.2.2.2.2.1,v.2.2.2.2.2)) (Dt.ite ((List.length v.1:Int) == (0:Int)) (Dt.ret (true,v.2.2.2.2.1,v.2.2.2.2.2)) (Dt.ite (inB (0:Int) (List.length v.1)) (Dt.ite (v.2.2.1 != (elt zi v.1 ((0:Int)).toNat).1) (Dt.ret (true,v.2.2.2.2.1,v.2.2.2.2.2)) (Dt.bnd (C.2.2.1 ((v.2.2.2.2.2,()),())) fun r1=>(Dt.ret ((r1 != (0:Int)),v.2.2.2.2.1,v.2.2.2.2.2)))) Dt.fail))))
theorem q2z9 C v:q3gw (regO (qct f19) 5) false [(4,(.box [.val Riii])),(9,(.own Riii)),(56,.any)] q2z3 q2z8 q2z7 C v:=rgI (by kernel_rfl)
def q2za (C:q2yh) (v:q2z6):Dt q2yy:=(Dt.ret false)
theorem q2zb C v:q3gw (regO (qct f19) 6) false [(8,.any)] q2z7 q2za q2yz C v:=rgI (by kernel_rfl)
abbrev q2zc:Type:=Int×List Diii×List Diii
def q2zd (v:q2zc):St:=⟨[(4,.ptr 0 0),(9,.rs 1),(13,i6 v.1)],[.cells [.fz Riii v.2.1],.rows Riii v.2.2]⟩
def q2ze (C:q2yh) (v:q2z6):Dt q2zc:=(Dt.ret ((0:Int),v.2.1,v.2.2))
theorem q2zf C v:q3gw (regO (qct f19) 7) false [(4,(.box [.val Riii])),(9,(.own Riii)),(13,.any)] q2z7 q2ze q2zd C v:=rgI (by kernel_rfl)
abbrev q2zg:Type:=Int×Bool×List Diii×List Diii
def q2zh (v:q2zg):St:=⟨[(4,.ptr 0 0),(9,.rs 1),(13,i6 v.1),(60,.bool v.2.1)],[.cells [.fz Riii v.2.2.1],.rows Riii v.2.2.2]⟩
def q2zi (C:q2yh) (v:q2zc):Dt q2zg:=(Dt.ret (v.1,(decide (v.1<(List.length v.2.2:Int))),v.2.1,v.2.2))
theorem q2zj C v:q3gw (regO (qct f19) 8) false [(4,(.box [.val Riii])),(9,(.own Riii)),(13,.any),(60,.any)] q2zd q2zi q2zh C v:=rgI (by kernel_rfl)
abbrev q2zk:Type:=Int×Int×Int×List Diii×List Diii
def q2zl (v:q2zk):St:=⟨[(4,.ptr 0 0),(9,.rs 1),(13,i6 v.1),(14,i6 v.2.1),(15,i6 v.2.2.1)],[.cells [.fz Riii v.2.2.2.1],.rows Riii v.2.2.2.2]⟩
def q2zm (C:q2yh) (v:q2zg):Dt q2zk:=(Dt.ite (inB v.1 (List.length v.2.2.2)) (Dt.bnd (C.2.2.2.1 ((v.2.2.1,()),((elt ziii v.2.2.2 (v.1).toNat).1,(elt ziii v.2.2.2 (v.1).toNat).2.1,()),())) fun r1=>(Dt.ret (v.1,r1.1,r1.2,v.2.2.1,v.2.2.2))) Dt.fail)
theorem q2zn C v:q3gw (regO (qct f19) 10) true [(4,(.box [.val Riii])),(9,(.own Riii)),(13,.any),(14,.any),(15,.any)] q2zh q2zm q2zl C v:=rgI (by kernel_rfl)
abbrev q2zo:Type:=Int×Bool×List Diii×List Diii
def q2zp (v:q2zo):St:=⟨[(4,.ptr 0 0),(9,.rs 1),(13,i6 v.1),(83,.bool v.2.1)],[.cells [.fz Riii v.2.2.1],.rows Riii v.2.2.2]⟩
def q2zq (C:q2yh) (v:q2zk):Dt q2zo:=(Dt.ite (v.2.2.1 != (0:Int)) (Dt.ret (v.1,true,v.2.2.2.1,v.2.2.2.2)) (Dt.ite (inB v.1 (List.length v.2.2.2.2)) (Dt.ret (v.1,(v.2.1 != (elt ziii v.2.2.2.2 (v.1).toNat).2.2.1),v.2.2.2.1,v.2.2.2.2)) Dt.fail))
theorem q2zr C v:q3gw (regO (qct f19) 11) false [(4,(.box [.val Riii])),(9,(.own Riii)),(13,.any),(83,.any)] q2zl q2zq q2zp C v:=rgI (by kernel_rfl)
def q2zs (C:q2yh) (v:q2zo):Dt q2yy:=(Dt.ret false)
theorem q2zt C v:q3gw (regO (qct f19) 12) false [(8,.any)] q2zp q2zs q2yz C v:=rgI (by kernel_rfl)
def q2zu (C:q2yh) (v:q2zo):Dt q2zc:=(Dt.ret ((IntKind.wrap .i64 (v.1+(1:Int))),v.2.2.1,v.2.2.2))
theorem q2zv C v:q3gw (regO (qct f19) 9) false [(4,(.box [.val Riii])),(9,(.own Riii)),(13,.any)] q2zp q2zu q2zd C v:=rgI (by kernel_rfl)
def q2zw (C:q2yh) (v:q2zg):Dt q2yy:=(Dt.ret true)
theorem q2zx C v:q3gw (regO (qct f19) 13) false [(8,.any)] q2zh q2zw q2yz C v:=rgI (by kernel_rfl)
def q2zy (d:Nat) (self1:(Int×List Diii×List Diii)→Option q2ye) (x1:Int×List Diii×List Diii):Option q2ye :=
 (q2zi (q2yi d) x1).eval fun y8 =>
 bif y8.2.1 then ((q2zm (q2yi d) y8).eval fun y10 =>
 (q2zq (q2yi d) y10).eval fun y11 =>
 bif y11.2.1 then ((q2zs (q2yi d) y11).eval fun y12 =>
 some y12) else ((q2zu (q2yi d) y11).eval fun y9 =>
 self1 y9)) else ((q2zw (q2yi d) y8).eval fun y13 =>
 some y13)
def q2zz (d:Nat) (x:q2yd):Option q2ye :=
 (q2yo (q2yi d) (x.1.1,x.2.1.1,x.2.1.2.1,x.2.2.1.1,x.2.2.1.2.1,x.2.2.2.1.1)).eval fun y0 =>
 (q2ys (q2yi d) y0).eval fun y1 =>
 (q2yw (q2yi d) y1).eval fun y2 =>
 bif y2.2.2.1 then ((q2z0 (q2yi d) y2).eval fun y3 =>
 some y3) else ((q2z4 (q2yi d) y2).eval fun y4 =>
 (q2z8 (q2yi d) y4).eval fun y5 =>
 bif y5.1 then ((q2za (q2yi d) y5).eval fun y6 =>
 some y6) else ((q2ze (q2yi d) y5).eval fun y7 =>
 iter (q2zy d ) d y7))
theorem q300 (d:Nat):COK prog (q2yg (q2zz d)):=by
 have hm:prog.follows .mixedOrders=true:=mixed
 have hT:=tys
 have hC0:OrcOK prog (orc (q2yj (q2yi d))):=qcn (by
  intro S hS
  simp only [q2yj,List.mem_cons,List.not_mem_nil,or_false] at hS
  rcases hS with rfl | rfl | rfl | rfl
  · exact q2ih d
  · exact q2nq d
  · exact q2sd d
  · exact qw4 d)
 have hC:OrcOK prog (orc (q2yj (q2yi d))):=hC0
 refine q8c (c:=qct f19) (fn:=f19) hT (by kernel_rfl) (by kernel_rfl) (by decide) fun x r h w0 φ0 Q hend=>?_
 replace h:q2zz d x=some r:=h
 unfold q2zz at h
 show Run prog w0 φ0 84 (qct f19) ⟨[(0,.agg [.fz Riii x.1.1]),(1,.agg [.int .i64 x.2.1.1,.int .i64 x.2.1.2.1]),(2,.agg [.int .i64 x.2.2.1.1,.int .i64 x.2.2.1.2.1]),(3,.fz Ri x.2.2.2.1.1)],[]⟩ Q
 refine q3f2 hm hT hC (q2yp (q2yi d) (x.1.1,x.2.1.1,x.2.1.2.1,x.2.2.1.1,x.2.2.1.2.1,x.2.2.2.1.1)) h fun y0 h=>?_
 refine q3f2 hm hT hC (q2yt (q2yi d) y0) h fun y1 h=>?_
 refine q7w ?_
 refine q3f2 hm hT hC (q2yx (q2yi d) y1) h fun y2 h=>?_
 refine q80 (v:=y2.2.2.1) (by kernel_rfl) h ?_ ?_
 ·
  intro h
  refine q3f2 hm hT hC (q2z1 (q2yi d) y2) h fun y3 h=>?_
  refine q7v (q7k ?_)
  cases h
  exact (hend _ (by kernel_rfl)).2
 ·
  intro h
  refine q7s (q7i ?_)
  refine q3f2 hm hT hC (q2z5 (q2yi d) y2) h fun y4 h=>?_
  refine q7w ?_
  refine q3f2 hm hT hC (q2z9 (q2yi d) y4) h fun y5 h=>?_
  refine q80 (v:=y5.1) (by kernel_rfl) h ?_ ?_
  ·
   intro h
   refine q3f2 hm hT hC (q2zb (q2yi d) y5) h fun y6 h=>?_
   refine q7v (q7k ?_)
   cases h
   exact (hend _ (by kernel_rfl)).2
  ·
   intro h
   refine q7s (q7i (q7w ?_))
   refine q3f2 hm hT hC (q2zf (q2yi d) y5) h fun y7 h=>?_
   refine q7x ?_
   refine q82 (G:=iter (q2zy d )) (S:=(fun x1=>⟨[(4,.ptr 0 0),(9,.rs 1),(13,i6 x1.1)],[.cells [.fz Riii x1.2.1],.rows Riii x1.2.2]⟩:Int×List Diii×List Diii→St)) (fun _=>rfl) ?_ d _ h
   intro n1 x1 h K1 hn1
   replace h:q2zy d  (iter (q2zy d ) n1) x1=some r:=h
   generalize iter (q2zy d ) n1=self1 at h hn1
   unfold q2zy at h
   refine q7w ?_
   refine q3f2 hm hT hC (q2zj (q2yi d) x1) h fun y8 h=>?_
   refine q80 (v:=y8.2.1) (by kernel_rfl) h ?_ ?_
   ·
    intro h
    refine q7s (q7i (q7w (q7x ?_)))
    refine q3f2 hm hT hC (q2zn (q2yi d) y8) h fun y10 h=>?_
    refine q3f2 hm hT hC (q2zr (q2yi d) y10) h fun y11 h=>?_
    refine q80 (v:=y11.2.1) (by kernel_rfl) h ?_ ?_
    ·
     intro h
     refine q3f2 hm hT hC (q2zt (q2yi d) y11) h fun y12 h=>?_
     refine q7v (q7m (q7k (q7k (q7m (q7k ?_)))))
     cases h
     exact (hend _ (by kernel_rfl)).2
    ·
     intro h
     refine q7s (q7l (q7i ?_))
     refine q81 hm hT hC (q2zv (q2yi d) y11) h ?_
     intro y9 h
     exact hn1 _ h
   ·
    intro h
    refine q7u (q7j (q7j (q7n (q7i ?_))))
    refine q3f2 hm hT hC (q2zx (q2yi d) y8) h fun y13 h=>?_
    refine q7v ?_
    cases h
    exact (hend _ (by kernel_rfl)).2
abbrev q301:List Pk:=[.row qj5 true,.row Rii true,.row Rii true]
abbrev q302:Type:=qj6×Dii×Dii×Unit
abbrev q303:Type:=Bool
def q304 (r:q303):LV×List Ob:=(.bool r,[])
def q305 (F:q302→Option q303):Go.Tx.Spec:=⟨3,q301,q303,F,q304⟩
abbrev q306:Type:=(qoz→Option qp0)×(q2pu→Option q2pv)×(q2sf→Option q2sg)×(q2ca→Option q2cb)×(qw6→Option qw7)×(qmz→Option qn0)×(q2u8→Option q2u9)×(q2wy→Option q2wz)×(qv6→Option qv7)×(q2yd→Option q2ye)×Unit
def q307 (d:Nat):q306:=(qp4 d,q2r1 d,q2t6 d,q2d9 d,qwb d,qn4 d,q2wv d,q2ya d,qvb d,q2zz d,())
def q308 (C:q306):List Go.Tx.Spec:=[qp2 C.1,q2px C.2.1,q2si C.2.2.1,q2cd C.2.2.2.1,qw9 C.2.2.2.2.1,qn2 C.2.2.2.2.2.1,q2ub C.2.2.2.2.2.2.1,q2x1 C.2.2.2.2.2.2.2.1,qv9 C.2.2.2.2.2.2.2.2.1,q2yg C.2.2.2.2.2.2.2.2.2.1]
abbrev q309:Type:=List Diii×Int×Int×Int×Int
def q30a (v:q309):St:=⟨[(0,.agg [.fz Riii v.1]),(1,.agg [i6 v.2.1,i6 v.2.2.1]),(2,.agg [i6 v.2.2.2.1,i6 v.2.2.2.2])],[]⟩
abbrev q30b:Type:=List Diii×Int×Int×Int×Int
def q30c (v:q30b):St:=⟨[(3,.ptr 0 0),(4,.ptr 1 0),(5,.ptr 2 0)],[.cells [.fz Riii v.1],.cells [i6 v.2.1,i6 v.2.2.1],.cells [i6 v.2.2.2.1,i6 v.2.2.2.2]]⟩
def q30d (C:q306) (v:q309):Dt q30b:=(Dt.ret (v.1,v.2.1,v.2.2.1,v.2.2.2.1,v.2.2.2.2))
abbrev q3gx {V Y:Type}:=@rg q306 V Y tysT (fun C=>(orc (q308 C))) 151
theorem q30e C v:q3gx (regO (qct f3) 0) false [(3,(.box [.val Riii])),(4,.any),(5,.any)] q30a q30d q30c C v:=rgI (by kernel_rfl)
abbrev q30f:Type:=Bool×List Diii×Int×Int×Int×Int
def q30g (v:q30f):St:=⟨[(3,.ptr 0 0),(4,.ptr 1 0),(5,.ptr 2 0),(31,.bool v.1)],[.cells [.fz Riii v.2.1],.cells [i6 v.2.2.1,i6 v.2.2.2.1],.cells [i6 v.2.2.2.2.1,i6 v.2.2.2.2.2]]⟩
def q30h (C:q306) (v:q30b):Dt q30f:=(Dt.bnd (C.1 ((v.1,()),())) fun r1=>(Dt.ite r1 (Dt.ret (true,v.1,v.2.1,v.2.2.1,v.2.2.2.1,v.2.2.2.2)) (Dt.ite (decide ((List.length v.1:Int) > (16:Int))) (Dt.ret (true,v.1,v.2.1,v.2.2.1,v.2.2.2.1,v.2.2.2.2)) (Dt.bnd (C.2.1 ((v.1,()),(v.2.1,v.2.2.1,()),(v.2.2.2.1,v.2.2.2.2,()),())) fun r2=>(Dt.ret ((r2 != (0:Int)),v.1,v.2.1,v.2.2.1,v.2.2.2.1,v.2.2.2.2))))))
theorem q30i C v:q3gx (regO (qct f3) 1) false [(3,(.box [.val Riii])),(4,.any),(5,.any),(31,.any)] q30c q30h q30g C v:=rgI (by kernel_rfl)
abbrev q30j:Type:=Bool
def q30k (v:q30j):St:=⟨[(6,.bool v)],[]⟩
def q30l (C:q306) (v:q30f):Dt q30j:=(Dt.ret true)
theorem q30m C v:q3gx (regO (qct f3) 2) false [(6,.any)] q30g q30l q30k C v:=rgI (by kernel_rfl)
abbrev q30n:Type:=Bool×List Diii×Int×Int×Int×Int
def q30o (v:q30n):St:=⟨[(3,.ptr 0 0),(4,.ptr 1 0),(5,.ptr 2 0),(33,.bool v.1)],[.cells [.fz Riii v.2.1],.cells [i6 v.2.2.1,i6 v.2.2.2.1],.cells [i6 v.2.2.2.2.1,i6 v.2.2.2.2.2]]⟩
def q30p (C:q306) (v:q30f):Dt q30n:=(Dt.bnd (C.2.2.1 (())) fun r1=>(Dt.ret ((!r1),v.2.1,v.2.2.1,v.2.2.2.1,v.2.2.2.2.1,v.2.2.2.2.2)))
theorem q30q C v:q3gx (regO (qct f3) 3) false [(3,(.box [.val Riii])),(4,.any),(5,.any),(33,.any)] q30g q30p q30o C v:=rgI (by kernel_rfl)
def q30r (C:q306) (v:q30n):Dt q30j:=(Dt.ret false)
theorem q30s C v:q3gx (regO (qct f3) 4) false [(6,.any)] q30o q30r q30k C v:=rgI (by kernel_rfl)
abbrev q30t:Type:=List qj9×Int×List Diii×Int×Int×Int×Int
def q30u (v:q30t):St:=⟨[(3,.ptr 0 0),(4,.ptr 1 0),(5,.ptr 2 0),(7,.fz qj8 v.1),(8,i6 v.2.1)],[.cells [.fz Riii v.2.2.1],.cells [i6 v.2.2.2.1,i6 v.2.2.2.2.1],.cells [i6 v.2.2.2.2.2.1,i6 v.2.2.2.2.2.2]]⟩
def q30v (C:q306) (v:q30n):Dt q30t:=(Dt.bnd (C.2.2.2.1 ((v.2.1,()),(v.2.2.1,v.2.2.2.1,()),(v.2.2.2.2.1,v.2.2.2.2.2,()),())) fun r1=>(Dt.ret (r1.1,r1.2,v.2.1,v.2.2.1,v.2.2.2.1,v.2.2.2.2.1,v.2.2.2.2.2)))
theorem q30w C v:q3gx (regO (qct f3) 5) false [(3,(.box [.val Riii])),(4,.any),(5,.any),(7,(.val qj8)),(8,.any)] q30o q30v q30u C v:=rgI (by kernel_rfl)
abbrev q30x:Type:=List qj9×Int×Int×List Diii×Int×Int×Int×Int×List Di
def q30y (v:q30x):St:=⟨[(3,.ptr 0 0),(4,.ptr 1 0),(5,.ptr 2 0),(7,.fz qj8 v.1),(8,i6 v.2.1),(9,.rs 3),(10,i6 v.2.2.1)],[.cells [.fz Riii v.2.2.2.1],.cells [i6 v.2.2.2.2.1,i6 v.2.2.2.2.2.1],.cells [i6 v.2.2.2.2.2.2.1,i6 v.2.2.2.2.2.2.2.1],.rows Ri v.2.2.2.2.2.2.2.2]⟩
def q30z (C:q306) (v:q30t):Dt q30x:=(Dt.bnd (C.2.2.2.2.1 ((v.2.2.1,()),(v.2.2.2.1,v.2.2.2.2.1,()),())) fun r1=>(Dt.ret (v.1,v.2.1,r1.2,v.2.2.1,v.2.2.2.1,v.2.2.2.2.1,v.2.2.2.2.2.1,v.2.2.2.2.2.2,r1.1)))
theorem q310 C v:q3gx (regO (qct f3) 6) false [(3,(.box [.val Riii])),(4,.any),(5,.any),(7,(.val qj8)),(8,.any),(9,(.own Ri)),(10,.any)] q30u q30z q30y C v:=rgI (by kernel_rfl)
abbrev q311:Type:=List qj9×Int×Int×Int×List Diii×Int×Int×Int×Int×List Di×List Di
def q312 (v:q311):St:=⟨[(3,.ptr 0 0),(4,.ptr 1 0),(5,.ptr 2 0),(7,.fz qj8 v.1),(8,i6 v.2.1),(9,.rs 3),(10,i6 v.2.2.1),(11,.rs 4),(12,i6 v.2.2.2.1)],[.cells [.fz Riii v.2.2.2.2.1],.cells [i6 v.2.2.2.2.2.1,i6 v.2.2.2.2.2.2.1],.cells [i6 v.2.2.2.2.2.2.2.1,i6 v.2.2.2.2.2.2.2.2.1],.rows Ri v.2.2.2.2.2.2.2.2.2.1,.rows Ri v.2.2.2.2.2.2.2.2.2.2]⟩
def q313 (C:q306) (v:q30x):Dt q311:=(Dt.bnd (C.2.2.2.2.1 ((v.2.2.2.1,()),(v.2.2.2.2.2.2.1,v.2.2.2.2.2.2.2.1,()),())) fun r1=>(Dt.ret (v.1,v.2.1,v.2.2.1,r1.2,v.2.2.2.1,v.2.2.2.2.1,v.2.2.2.2.2.1,v.2.2.2.2.2.2.1,v.2.2.2.2.2.2.2.1,v.2.2.2.2.2.2.2.2,r1.1)))
theorem q314 C v:q3gx (regO (qct f3) 7) false [(3,(.box [.val Riii])),(4,.any),(5,.any),(7,(.val qj8)),(8,.any),(9,(.own Ri)),(10,.any),(11,(.own Ri)),(12,.any)] q30y q313 q312 C v:=rgI (by kernel_rfl)
abbrev q315:Type:=List qj9×Bool×List Diii×Int×Int×Int×Int×List Di×List Di
def q316 (v:q315):St:=⟨[(3,.ptr 0 0),(4,.ptr 1 0),(5,.ptr 2 0),(7,.fz qj8 v.1),(9,.rs 3),(11,.rs 4),(70,.bool v.2.1)],[.cells [.fz Riii v.2.2.1],.cells [i6 v.2.2.2.1,i6 v.2.2.2.2.1],.cells [i6 v.2.2.2.2.2.1,i6 v.2.2.2.2.2.2.1],.rows Ri v.2.2.2.2.2.2.2.1,.rows Ri v.2.2.2.2.2.2.2.2]⟩
def q317 (C:q306) (v:q311):Dt q315:=(Dt.ite (v.2.1 != (0:Int)) (Dt.ret (v.1,true,v.2.2.2.2.1,v.2.2.2.2.2.1,v.2.2.2.2.2.2.1,v.2.2.2.2.2.2.2.1,v.2.2.2.2.2.2.2.2.1,v.2.2.2.2.2.2.2.2.2.1,v.2.2.2.2.2.2.2.2.2.2)) (Dt.ite (v.2.2.1 != (0:Int)) (Dt.ret (v.1,true,v.2.2.2.2.1,v.2.2.2.2.2.1,v.2.2.2.2.2.2.1,v.2.2.2.2.2.2.2.1,v.2.2.2.2.2.2.2.2.1,v.2.2.2.2.2.2.2.2.2.1,v.2.2.2.2.2.2.2.2.2.2)) (Dt.ite (v.2.2.2.1 != (0:Int)) (Dt.ret (v.1,true,v.2.2.2.2.1,v.2.2.2.2.2.1,v.2.2.2.2.2.2.1,v.2.2.2.2.2.2.2.1,v.2.2.2.2.2.2.2.2.1,v.2.2.2.2.2.2.2.2.2.1,v.2.2.2.2.2.2.2.2.2.2)) (Dt.ret (v.1,((List.length v.2.2.2.2.2.2.2.2.2.1:Int) != (List.length v.2.2.2.2.1:Int)),v.2.2.2.2.1,v.2.2.2.2.2.1,v.2.2.2.2.2.2.1,v.2.2.2.2.2.2.2.1,v.2.2.2.2.2.2.2.2.1,v.2.2.2.2.2.2.2.2.2.1,v.2.2.2.2.2.2.2.2.2.2)))))
theorem q318 C v:q3gx (regO (qct f3) 8) false [(3,(.box [.val Riii])),(4,.any),(5,.any),(7,(.val qj8)),(9,(.own Ri)),(11,(.own Ri)),(70,.any)] q312 q317 q316 C v:=rgI (by kernel_rfl)
def q319 (C:q306) (v:q315):Dt q30j:=(Dt.ret false)
theorem q31a C v:q3gx (regO (qct f3) 9) false [(6,.any)] q316 q319 q30k C v:=rgI (by kernel_rfl)
abbrev q31b:Type:=List qj9×Int×List Diii×Int×Int×Int×Int×List Di×List Di
def q31c (v:q31b):St:=⟨[(3,.ptr 0 0),(4,.ptr 1 0),(5,.ptr 2 0),(7,.fz qj8 v.1),(9,.rs 3),(11,.rs 4),(13,i6 v.2.1)],[.cells [.fz Riii v.2.2.1],.cells [i6 v.2.2.2.1,i6 v.2.2.2.2.1],.cells [i6 v.2.2.2.2.2.1,i6 v.2.2.2.2.2.2.1],.rows Ri v.2.2.2.2.2.2.2.1,.rows Ri v.2.2.2.2.2.2.2.2]⟩
def q31d (C:q306) (v:q315):Dt q31b:=(Dt.ret (v.1,(0:Int),v.2.2.1,v.2.2.2.1,v.2.2.2.2.1,v.2.2.2.2.2.1,v.2.2.2.2.2.2.1,v.2.2.2.2.2.2.2.1,v.2.2.2.2.2.2.2.2))
theorem q31e C v:q3gx (regO (qct f3) 10) false [(3,(.box [.val Riii])),(4,.any),(5,.any),(7,(.val qj8)),(9,(.own Ri)),(11,(.own Ri)),(13,.any)] q316 q31d q31c C v:=rgI (by kernel_rfl)
abbrev q31f:Type:=List qj9×Int×Bool×List Diii×Int×Int×Int×Int×List Di×List Di
def q31g (v:q31f):St:=⟨[(3,.ptr 0 0),(4,.ptr 1 0),(5,.ptr 2 0),(7,.fz qj8 v.1),(9,.rs 3),(11,.rs 4),(13,i6 v.2.1),(74,.bool v.2.2.1)],[.cells [.fz Riii v.2.2.2.1],.cells [i6 v.2.2.2.2.1,i6 v.2.2.2.2.2.1],.cells [i6 v.2.2.2.2.2.2.1,i6 v.2.2.2.2.2.2.2.1],.rows Ri v.2.2.2.2.2.2.2.2.1,.rows Ri v.2.2.2.2.2.2.2.2.2]⟩
def q31h (C:q306) (v:q31b):Dt q31f:=(Dt.ret (v.1,v.2.1,(decide (v.2.1<(List.length v.1:Int))),v.2.2.1,v.2.2.2.1,v.2.2.2.2.1,v.2.2.2.2.2.1,v.2.2.2.2.2.2.1,v.2.2.2.2.2.2.2.1,v.2.2.2.2.2.2.2.2))
theorem q31i C v:q3gx (regO (qct f3) 11) false [(3,(.box [.val Riii])),(4,.any),(5,.any),(7,(.val qj8)),(9,(.own Ri)),(11,(.own Ri)),(13,.any),(74,.any)] q31c q31h q31g C v:=rgI (by kernel_rfl)
abbrev q31j:Type:=List qj9×Int×Bool×List Diii×Int×Int×Int×Int×List Di×List Di
def q31k (v:q31j):St:=⟨[(3,.ptr 0 0),(4,.ptr 1 0),(5,.ptr 2 0),(7,.fz qj8 v.1),(9,.rs 3),(11,.rs 4),(13,i6 v.2.1),(81,.bool v.2.2.1)],[.cells [.fz Riii v.2.2.2.1],.cells [i6 v.2.2.2.2.1,i6 v.2.2.2.2.2.1],.cells [i6 v.2.2.2.2.2.2.1,i6 v.2.2.2.2.2.2.2.1],.rows Ri v.2.2.2.2.2.2.2.2.1,.rows Ri v.2.2.2.2.2.2.2.2.2]⟩
def q31l (C:q306) (v:q31f):Dt q31j:=(Dt.ite (inB v.2.1 (List.length v.1)) (Dt.bnd (C.2.2.2.2.2.1 (((elt qja v.1 (v.2.1).toNat).1,(elt qja v.1 (v.2.1).toNat).2.1,()),())) fun r1=>(Dt.ret (v.1,v.2.1,(r1 != (0:Int)),v.2.2.2.1,v.2.2.2.2.1,v.2.2.2.2.2.1,v.2.2.2.2.2.2.1,v.2.2.2.2.2.2.2.1,v.2.2.2.2.2.2.2.2.1,v.2.2.2.2.2.2.2.2.2))) Dt.fail)
theorem q31m C v:q3gx (regO (qct f3) 12) false [(3,(.box [.val Riii])),(4,.any),(5,.any),(7,(.val qj8)),(9,(.own Ri)),(11,(.own Ri)),(13,.any),(81,.any)] q31g q31l q31k C v:=rgI (by kernel_rfl)
def q31n (C:q306) (v:q31j):Dt q30j:=(Dt.ret false)
theorem q31o C v:q3gx (regO (qct f3) 13) false [(6,.any)] q31k q31n q30k C v:=rgI (by kernel_rfl)
abbrev q31p:Type:=List qj9×Int×Int×List Diii×Int×Int×Int×Int×List Di×List Di
def q31q (v:q31p):St:=⟨[(3,.ptr 0 0),(4,.ptr 1 0),(5,.ptr 2 0),(7,.fz qj8 v.1),(9,.rs 3),(11,.rs 4),(13,i6 v.2.1),(14,i6 v.2.2.1)],[.cells [.fz Riii v.2.2.2.1],.cells [i6 v.2.2.2.2.1,i6 v.2.2.2.2.2.1],.cells [i6 v.2.2.2.2.2.2.1,i6 v.2.2.2.2.2.2.2.1],.rows Ri v.2.2.2.2.2.2.2.2.1,.rows Ri v.2.2.2.2.2.2.2.2.2]⟩
def q31r (C:q306) (v:q31j):Dt q31p:=(Dt.ret (v.1,v.2.1,v.2.1,v.2.2.2.1,v.2.2.2.2.1,v.2.2.2.2.2.1,v.2.2.2.2.2.2.1,v.2.2.2.2.2.2.2.1,v.2.2.2.2.2.2.2.2.1,v.2.2.2.2.2.2.2.2.2))
theorem q31s C v:q3gx (regO (qct f3) 14) false [(3,(.box [.val Riii])),(4,.any),(5,.any),(7,(.val qj8)),(9,(.own Ri)),(11,(.own Ri)),(13,.any),(14,.any)] q31k q31r q31q C v:=rgI (by kernel_rfl)
abbrev q31t:Type:=List qj9×Int×Int×Bool×List Diii×Int×Int×Int×Int×List Di×List Di
def q31u (v:q31t):St:=⟨[(3,.ptr 0 0),(4,.ptr 1 0),(5,.ptr 2 0),(7,.fz qj8 v.1),(9,.rs 3),(11,.rs 4),(13,i6 v.2.1),(14,i6 v.2.2.1),(99,.bool v.2.2.2.1)],[.cells [.fz Riii v.2.2.2.2.1],.cells [i6 v.2.2.2.2.2.1,i6 v.2.2.2.2.2.2.1],.cells [i6 v.2.2.2.2.2.2.2.1,i6 v.2.2.2.2.2.2.2.2.1],.rows Ri v.2.2.2.2.2.2.2.2.2.1,.rows Ri v.2.2.2.2.2.2.2.2.2.2]⟩
def q31v (C:q306) (v:q31p):Dt q31t:=(Dt.ite (decide (v.2.2.1<(List.length v.1:Int))) (Dt.ite (inB v.2.2.1 (List.length v.1)) (Dt.ite (inB v.2.1 (List.length v.1)) (Dt.ret (v.1,v.2.1,v.2.2.1,(((elt qja v.1 (v.2.2.1).toNat).1 == (elt qja v.1 (v.2.1).toNat).1)&&(((elt qja v.1 (v.2.2.1).toNat).2.1 == (elt qja v.1 (v.2.1).toNat).2.1)&&true)),v.2.2.2.1,v.2.2.2.2.1,v.2.2.2.2.2.1,v.2.2.2.2.2.2.1,v.2.2.2.2.2.2.2.1,v.2.2.2.2.2.2.2.2.1,v.2.2.2.2.2.2.2.2.2)) Dt.fail) Dt.fail) (Dt.ret (v.1,v.2.1,v.2.2.1,false,v.2.2.2.1,v.2.2.2.2.1,v.2.2.2.2.2.1,v.2.2.2.2.2.2.1,v.2.2.2.2.2.2.2.1,v.2.2.2.2.2.2.2.2.1,v.2.2.2.2.2.2.2.2.2)))
theorem q31w C v:q3gx (regO (qct f3) 15) true [(3,(.box [.val Riii])),(4,.any),(5,.any),(7,(.val qj8)),(9,(.own Ri)),(11,(.own Ri)),(13,.any),(14,.any),(99,.any)] q31q q31v q31u C v:=rgI (by kernel_rfl)
def q31x (C:q306) (v:q31t):Dt q31p:=(Dt.ret (v.1,v.2.1,(IntKind.wrap .i64 (v.2.2.1+(1:Int))),v.2.2.2.2.1,v.2.2.2.2.2.1,v.2.2.2.2.2.2.1,v.2.2.2.2.2.2.2.1,v.2.2.2.2.2.2.2.2.1,v.2.2.2.2.2.2.2.2.2.1,v.2.2.2.2.2.2.2.2.2.2))
theorem q31y C v:q3gx (regO (qct f3) 16) false [(3,(.box [.val Riii])),(4,.any),(5,.any),(7,(.val qj8)),(9,(.own Ri)),(11,(.own Ri)),(13,.any),(14,.any)] q31u q31x q31q C v:=rgI (by kernel_rfl)
abbrev q31z:Type:=List qj9×Int×Int×Int×List Diii×Int×Int×Int×Int×List Di×List Di×List Di
def q320 (v:q31z):St:=⟨[(3,.ptr 0 0),(4,.ptr 1 0),(5,.ptr 2 0),(7,.fz qj8 v.1),(9,.rs 3),(11,.rs 4),(13,i6 v.2.1),(14,i6 v.2.2.1),(15,.rs 5),(16,i6 v.2.2.2.1)],[.cells [.fz Riii v.2.2.2.2.1],.cells [i6 v.2.2.2.2.2.1,i6 v.2.2.2.2.2.2.1],.cells [i6 v.2.2.2.2.2.2.2.1,i6 v.2.2.2.2.2.2.2.2.1],.rows Ri v.2.2.2.2.2.2.2.2.2.1,.rows Ri v.2.2.2.2.2.2.2.2.2.2.1,.rows Ri v.2.2.2.2.2.2.2.2.2.2.2]⟩
def q321 (C:q306) (v:q31t):Dt q31z:=(Dt.ite (inB v.2.1 (List.length v.1)) (Dt.bnd (C.2.2.2.2.1 ((v.2.2.2.2.1,()),((elt qja v.1 (v.2.1).toNat).1,(elt qja v.1 (v.2.1).toNat).2.1,()),())) fun r1=>(Dt.ret (v.1,v.2.1,v.2.2.1,r1.2,v.2.2.2.2.1,v.2.2.2.2.2.1,v.2.2.2.2.2.2.1,v.2.2.2.2.2.2.2.1,v.2.2.2.2.2.2.2.2.1,v.2.2.2.2.2.2.2.2.2.1,v.2.2.2.2.2.2.2.2.2.2,r1.1))) Dt.fail)
theorem q322 C v:q3gx (regO (qct f3) 17) true [(3,(.box [.val Riii])),(4,.any),(5,.any),(7,(.val qj8)),(9,(.own Ri)),(11,(.own Ri)),(13,.any),(14,.any),(15,(.own Ri)),(16,.any)] q31u q321 q320 C v:=rgI (by kernel_rfl)
abbrev q323:Type:=List qj9×Int×Bool×List Diii×Int×Int×Int×Int×List Di×List Di
def q324 (v:q323):St:=⟨[(3,.ptr 0 0),(4,.ptr 1 0),(5,.ptr 2 0),(7,.fz qj8 v.1),(11,.rs 3),(14,i6 v.2.1),(15,.rs 4),(138,.bool v.2.2.1)],[.cells [.fz Riii v.2.2.2.1],.cells [i6 v.2.2.2.2.1,i6 v.2.2.2.2.2.1],.cells [i6 v.2.2.2.2.2.2.1,i6 v.2.2.2.2.2.2.2.1],.rows Ri v.2.2.2.2.2.2.2.2.1,.rows Ri v.2.2.2.2.2.2.2.2.2]⟩
def q325 (C:q306) (v:q31z):Dt q323:=(Dt.ite (v.2.2.2.1 != (0:Int)) (Dt.ret (v.1,v.2.2.1,true,v.2.2.2.2.1,v.2.2.2.2.2.1,v.2.2.2.2.2.2.1,v.2.2.2.2.2.2.2.1,v.2.2.2.2.2.2.2.2.1,v.2.2.2.2.2.2.2.2.2.2.1,v.2.2.2.2.2.2.2.2.2.2.2)) (Dt.ite (decide (0≤v.2.1)&&decide (v.2.1≤v.2.2.1)&&decide (v.2.2.1≤(List.length v.1:Int))) (Dt.bnd (C.2.2.2.2.2.2.1 ((v.2.2.2.2.1,()),(v.2.2.2.2.2.2.2.2.2.1,()),(v.2.2.2.2.2.2.2.2.2.2.2,()),((List.drop (v.2.1).toNat (List.take (v.2.2.1).toNat v.1)),()),())) fun r1=>(Dt.ite (!r1) (Dt.ret (v.1,v.2.2.1,true,v.2.2.2.2.1,v.2.2.2.2.2.1,v.2.2.2.2.2.2.1,v.2.2.2.2.2.2.2.1,v.2.2.2.2.2.2.2.2.1,v.2.2.2.2.2.2.2.2.2.2.1,v.2.2.2.2.2.2.2.2.2.2.2)) (Dt.ite (inB v.2.1 (List.length v.1)) (Dt.bnd (C.2.2.2.2.2.2.2.1 ((v.2.2.2.2.1,()),(v.2.2.2.2.2.2.2.2.2.2.2,()),((elt qja v.1 (v.2.1).toNat).1,(elt qja v.1 (v.2.1).toNat).2.1,()),(v.1,()),(v.2.2.1,()),(v.2.2.2.2.2.2.2.1,v.2.2.2.2.2.2.2.2.1,()),())) fun r2=>(Dt.ret (v.1,v.2.2.1,(!r2),v.2.2.2.2.1,v.2.2.2.2.2.1,v.2.2.2.2.2.2.1,v.2.2.2.2.2.2.2.1,v.2.2.2.2.2.2.2.2.1,v.2.2.2.2.2.2.2.2.2.2.1,v.2.2.2.2.2.2.2.2.2.2.2))) Dt.fail))) Dt.fail))
theorem q326 C v:q3gx (regO (qct f3) 18) true [(3,(.box [.val Riii])),(4,.any),(5,.any),(7,(.val qj8)),(11,(.own Ri)),(14,.any),(15,(.own Ri)),(138,.any)] q320 q325 q324 C v:=rgI (by kernel_rfl)
def q327 (C:q306) (v:q323):Dt q30j:=(Dt.ret false)
theorem q328 C v:q3gx (regO (qct f3) 19) false [(6,.any)] q324 q327 q30k C v:=rgI (by kernel_rfl)
def q329 (C:q306) (v:q323):Dt q31b:=(Dt.ret (v.1,v.2.1,v.2.2.2.1,v.2.2.2.2.1,v.2.2.2.2.2.1,v.2.2.2.2.2.2.1,v.2.2.2.2.2.2.2.1,v.2.2.2.2.2.2.2.2.2,v.2.2.2.2.2.2.2.2.1))
theorem q32a C v:q3gx (regO (qct f3) 20) false [(3,(.box [.val Riii])),(4,.any),(5,.any),(7,(.val qj8)),(9,(.own Ri)),(11,(.own Ri)),(13,.any)] q324 q329 q31c C v:=rgI (by kernel_rfl)
def q32b (d:Nat) (self1:(List qj9×Int×List Diii×Int×Int×Int×Int×List Di×List Di)→Option q303) (self2:(List qj9×Int×Int×List Diii×Int×Int×Int×Int×List Di×List Di)→Option q303) (x2:List qj9×Int×Int×List Diii×Int×Int×Int×Int×List Di×List Di):Option q303 :=
 (q31v (q307 d) x2).eval fun y15 =>
 bif y15.2.2.2.1 then ((q31x (q307 d) y15).eval fun y16 =>
 self2 y16) else ((q321 (q307 d) y15).eval fun y17 =>
 (q325 (q307 d) y17).eval fun y18 =>
 bif y18.2.2.1 then ((q327 (q307 d) y18).eval fun y19 =>
 some y19) else ((q329 (q307 d) y18).eval fun y20 =>
 self1 y20))
def q32c (C:q306) (v:q31f):Dt q30j:=(Dt.bnd (C.2.2.2.2.2.2.2.2.1 ((v.2.2.2.2.2.2.2.2.1,()),(v.2.2.2.2.2.2.2.2.2,()),())) fun r1=>(Dt.ite r1 (Dt.bnd (C.2.2.2.2.2.2.2.2.2.1 ((v.2.2.2.1,()),(v.2.2.2.2.1,v.2.2.2.2.2.1,()),(v.2.2.2.2.2.2.1,v.2.2.2.2.2.2.2.1,()),(v.2.2.2.2.2.2.2.2.2,()),())) fun r2=>(Dt.ret r2)) (Dt.ret false)))
theorem q32d C v:q3gx (regO (qct f3) 21) false [(6,.any)] q31g q32c q30k C v:=rgI (by kernel_rfl)
def q32e (d:Nat) (self1:(List qj9×Int×List Diii×Int×Int×Int×Int×List Di×List Di)→Option q303) (x1:List qj9×Int×List Diii×Int×Int×Int×Int×List Di×List Di):Option q303 :=
 (q31h (q307 d) x1).eval fun y11 =>
 bif y11.2.2.1 then ((q31l (q307 d) y11).eval fun y12 =>
 bif y12.2.2.1 then ((q31n (q307 d) y12).eval fun y13 =>
 some y13) else ((q31r (q307 d) y12).eval fun y14 =>
 iter (q32b d self1) d y14)) else ((q32c (q307 d) y11).eval fun y21 =>
 some y21)
def q32f (d:Nat) (x:q302):Option q303 :=
 (q30d (q307 d) (x.1.1,x.2.1.1,x.2.1.2.1,x.2.2.1.1,x.2.2.1.2.1)).eval fun y0 =>
 (q30h (q307 d) y0).eval fun y1 =>
 bif y1.1 then ((q30l (q307 d) y1).eval fun y2 =>
 some y2) else ((q30p (q307 d) y1).eval fun y3 =>
 bif y3.1 then ((q30r (q307 d) y3).eval fun y4 =>
 some y4) else ((q30v (q307 d) y3).eval fun y5 =>
 (q30z (q307 d) y5).eval fun y6 =>
 (q313 (q307 d) y6).eval fun y7 =>
 (q317 (q307 d) y7).eval fun y8 =>
 bif y8.2.1 then ((q319 (q307 d) y8).eval fun y9 =>
 some y9) else ((q31d (q307 d) y8).eval fun y10 =>
 iter (q32e d ) d y10)))
theorem q32g (d:Nat):COK prog (q305 (q32f d)):=by
 have hm:prog.follows .mixedOrders=true:=mixed
 have hT:=tys
 have hC0:OrcOK prog (orc (q308 (q307 d))):=qcn (by
  intro S hS
  simp only [q308,List.mem_cons,List.not_mem_nil,or_false] at hS
  rcases hS with rfl | rfl | rfl | rfl | rfl | rfl | rfl | rfl | rfl | rfl
  · exact qp6 d
  · exact q2r2 d
  · exact q2t7 d
  · exact q2da d
  · exact qwd d
  · exact qn6 d
  · exact q2ww d
  · exact q2yb d
  · exact qvd d
  · exact q300 d)
 have hC:OrcOK prog (orc (q308 (q307 d))):=hC0
 refine q8c (c:=qct f3) (fn:=f3) hT (by kernel_rfl) (by kernel_rfl) (by decide) fun x r h w0 φ0 Q hend=>?_
 replace h:q32f d x=some r:=h
 unfold q32f at h
 show Run prog w0 φ0 151 (qct f3) ⟨[(0,.agg [.fz Riii x.1.1]),(1,.agg [.int .i64 x.2.1.1,.int .i64 x.2.1.2.1]),(2,.agg [.int .i64 x.2.2.1.1,.int .i64 x.2.2.1.2.1])],[]⟩ Q
 refine q3f2 hm hT hC (q30e (q307 d) (x.1.1,x.2.1.1,x.2.1.2.1,x.2.2.1.1,x.2.2.1.2.1)) h fun y0 h=>?_
 refine q7w ?_
 refine q3f2 hm hT hC (q30i (q307 d) y0) h fun y1 h=>?_
 refine q80 (v:=y1.1) (by kernel_rfl) h ?_ ?_
 ·
  intro h
  refine q3f2 hm hT hC (q30m (q307 d) y1) h fun y2 h=>?_
  refine q7v (q7k ?_)
  cases h
  exact (hend _ (by kernel_rfl)).2
 ·
  intro h
  refine q7s (q7i (q7w ?_))
  refine q3f2 hm hT hC (q30q (q307 d) y1) h fun y3 h=>?_
  refine q80 (v:=y3.1) (by kernel_rfl) h ?_ ?_
  ·
   intro h
   refine q3f2 hm hT hC (q30s (q307 d) y3) h fun y4 h=>?_
   refine q7v (q7k ?_)
   cases h
   exact (hend _ (by kernel_rfl)).2
  ·
   intro h
   refine q7s (q7i ?_)
   refine q3f2 hm hT hC (q30w (q307 d) y3) h fun y5 h=>?_
   refine q3f2 hm hT hC (q310 (q307 d) y5) h fun y6 h=>?_
   refine q3f2 hm hT hC (q314 (q307 d) y6) h fun y7 h=>?_
   refine q7w ?_
   refine q3f2 hm hT hC (q318 (q307 d) y7) h fun y8 h=>?_
   refine q80 (v:=y8.2.1) (by kernel_rfl) h ?_ ?_
   ·
    intro h
    refine q3f2 hm hT hC (q31a (q307 d) y8) h fun y9 h=>?_
    refine q7v (q7k ?_)
    cases h
    exact (hend _ (by kernel_rfl)).2
   ·
    intro h
    refine q7s (q7i (q7w ?_))
    refine q3f2 hm hT hC (q31e (q307 d) y8) h fun y10 h=>?_
    refine q7x ?_
    refine q82 (G:=iter (q32e d )) (S:=(fun x1=>⟨[(3,.ptr 0 0),(4,.ptr 1 0),(5,.ptr 2 0),(7,.fz qj8 x1.1),(9,.rs 3),(11,.rs 4),(13,i6 x1.2.1)],[.cells [.fz Riii x1.2.2.1],.cells [i6 x1.2.2.2.1,i6 x1.2.2.2.2.1],.cells [i6 x1.2.2.2.2.2.1,i6 x1.2.2.2.2.2.2.1],.rows Ri x1.2.2.2.2.2.2.2.1,.rows Ri x1.2.2.2.2.2.2.2.2]⟩:List qj9×Int×List Diii×Int×Int×Int×Int×List Di×List Di→St)) (fun _=>rfl) ?_ d _ h
    intro n1 x1 h K1 hn1
    replace h:q32e d  (iter (q32e d ) n1) x1=some r:=h
    generalize iter (q32e d ) n1=self1 at h hn1
    unfold q32e at h
    refine q7w ?_
    refine q3f2 hm hT hC (q31i (q307 d) x1) h fun y11 h=>?_
    refine q80 (v:=y11.2.2.1) (by kernel_rfl) h ?_ ?_
    ·
     intro h
     refine q7s (q7i (q7x (q7w ?_)))
     refine q3f2 hm hT hC (q31m (q307 d) y11) h fun y12 h=>?_
     refine q80 (v:=y12.2.2.1) (by kernel_rfl) h ?_ ?_
     ·
      intro h
      refine q3f2 hm hT hC (q31o (q307 d) y12) h fun y13 h=>?_
      refine q7v (q7k (q7m (q7k (q7m (q7k ?_)))))
      cases h
      exact (hend _ (by kernel_rfl)).2
     ·
      intro h
      refine q7s (q7i ?_)
      refine q3f2 hm hT hC (q31s (q307 d) y12) h fun y14 h=>?_
      refine q7w (q7x ?_)
      refine q82 (G:=iter (q32b d self1)) (S:=(fun x2=>⟨[(3,.ptr 0 0),(4,.ptr 1 0),(5,.ptr 2 0),(7,.fz qj8 x2.1),(9,.rs 3),(11,.rs 4),(13,i6 x2.2.1),(14,i6 x2.2.2.1)],[.cells [.fz Riii x2.2.2.2.1],.cells [i6 x2.2.2.2.2.1,i6 x2.2.2.2.2.2.1],.cells [i6 x2.2.2.2.2.2.2.1,i6 x2.2.2.2.2.2.2.2.1],.rows Ri x2.2.2.2.2.2.2.2.2.1,.rows Ri x2.2.2.2.2.2.2.2.2.2]⟩:List qj9×Int×Int×List Diii×Int×Int×Int×Int×List Di×List Di→St)) (fun _=>rfl) ?_ d _ h
      intro n2 x2 h K2 hn2
      replace h:q32b d self1 (iter (q32b d self1) n2) x2=some r:=h
      generalize iter (q32b d self1) n2=self2 at h hn2
      unfold q32b at h
      refine q7w ?_
      refine q3f2 hm hT hC (q31w (q307 d) x2) h fun y15 h=>?_
      refine q80 (v:=y15.2.2.2.1) (by kernel_rfl) h ?_ ?_
      ·
       intro h
       refine q7s (q7i (q7x ?_))
       refine q81 hm hT hC (q31y (q307 d) y15) h ?_
       intro y16 h
       refine q7l ?_
       exact hn2 _ h
      ·
       intro h
       refine q7u (q7j (q7j (q7n (q7i ?_))))
       refine q3f2 hm hT hC (q322 (q307 d) y15) h fun y17 h=>?_
       refine q7w ?_
       refine q3f2 hm hT hC (q326 (q307 d) y17) h fun y18 h=>?_
       refine q80 (v:=y18.2.2.1) (by kernel_rfl) h ?_ ?_
       ·
        intro h
        refine q3f2 hm hT hC (q328 (q307 d) y18) h fun y19 h=>?_
        refine q7v (q7k (q7m (q7k (q7m (q7k ?_)))))
        cases h
        exact (hend _ (by kernel_rfl)).2
       ·
        intro h
        refine q7s (q7i ?_)
        refine q81 hm hT hC (q32a (q307 d) y18) h ?_
        intro y20 h
        refine q7l ?_
        exact hn1 _ h
    ·
     intro h
     refine q7u (q7j (q7j (q7n (q7i ?_))))
     refine q3f2 hm hT hC (q32d (q307 d) y11) h fun y21 h=>?_
     refine q7v ?_
     cases h
     exact (hend _ (by kernel_rfl)).2
end Go.Proofs.YtpfhgnccpiildaaGreat

namespace Go.Proofs.YtpfhgnccpiildaaGreat
open Go Go.Tx Go.Pel
theorem q32h (d:Nat) (a b:Int):q10g d ((a,()),(b,()),())=some (cmpZ a b):=by
  simp only [q10g,qz4,qz8,qzc,qzg,qzk,qzo,qzs,qzu,qzy,q100,q104,q106,q10a,q10c,q10e,qyw,qym,qyq,qyu,Dt.eval,bne_self_eq_false,cond_false]
  unfold cmpZ
  by_cases h1:a<b
  · simp only [h1,decide_true,cond_true,if_true]
  · by_cases h2 : b < a
    · simp only [h1,h2,gt_iff_lt,decide_true,decide_false,cond_true,cond_false,if_true,if_false]
    · simp only [h1,h2,gt_iff_lt,decide_false,cond_false,if_false]
theorem q32i (d:Nat) (a b:Int):q13u d ((a,()),(b,()),())=some (cmpZ a b):=by
  simp only [q13u,q12i,q12m,q12q,q12u,q12y,q132,q136,q138,q13c,q13e,q13i,q13k,q13o,q13q,q13s,q12a,q120,q124,q128,Dt.eval,bne_self_eq_false,cond_false]
  unfold cmpZ
  by_cases h1:a<b
  · simp only [h1,decide_true,cond_true,if_true]
  · by_cases h2 : b < a
    · simp only [h1,h2,gt_iff_lt,decide_true,decide_false,cond_true,cond_false,if_true,if_false]
    · simp only [h1,h2,gt_iff_lt,decide_false,cond_false,if_false]
theorem q32j (d:Nat) (a b:Int):q1b0 d ((a,()),(b,()),())=some (cmpZ a b):=by
  simp only [q1b0,q19o,q19s,q19w,q1a0,q1a4,q1a8,q1ac,q1ae,q1ai,q1ak,q1ao,q1aq,q1au,q1aw,q1ay,q19g,q196,q19a,q19e,Dt.eval,bne_self_eq_false,cond_false]
  unfold cmpZ
  by_cases h1:a<b
  · simp only [h1,decide_true,cond_true,if_true]
  · by_cases h2 : b < a
    · simp only [h1,h2,gt_iff_lt,decide_true,decide_false,cond_true,cond_false,if_true,if_false]
    · simp only [h1,h2,gt_iff_lt,decide_false,cond_false,if_false]
theorem q32k (d:Nat) (a:Int) (h:i64B a=true):q114 d ((a,()),())=some (a.natAbs:Int):=by
  have h:=qiq h
  simp only [q114,q10o,q10s,q10w,q110,q112,Dt.eval]
  by_cases h1:a<0
  · simp only [h1, decide_true, cond_true, IntKind.wrap_u64]
    exact congrArg some (by omega:((0:Int) - a % 18446744073709551616) % 18446744073709551616=(a.natAbs:Int))
  · simp only [h1, decide_false, cond_false, IntKind.wrap_u64]
    exact congrArg some (by omega:(a % 18446744073709551616:Int)=(a.natAbs:Int))
theorem q32l {a b:Int} (ha:i64B a=true) (hb:i64B b=true):(a*b).natAbs<340282366920938463463374607431768211456:=by
  have ha:=qiq ha
  have hb:=qiq hb
  rw [Int.natAbs_mul]
  have:=Nat.mul_le_mul (show a.natAbs≤9223372036854775808 by omega) (show b.natAbs≤9223372036854775808 by omega)
  omega
theorem q32m (d:Nat) (a b:Int) (ha:i64B a=true) (hb:i64B b=true):q11s d ((a,()),(b,()),())=some (!((decide (a<0)) == (decide (b<0))),(((a*b).natAbs / 18446744073709551616:Nat):Int),(((a*b).natAbs % 18446744073709551616:Nat):Int)):=by
  have e1:=q32k d a ha
  have e2:=q32k d b hb
  have ha':=qiq ha
  have hb':=qiq hb
  have e3:qmd d (((a.natAbs:Int),()),((b.natAbs:Int),()),())=some (((a.natAbs:Int)*(b.natAbs:Int)) / 18446744073709551616,((a.natAbs:Int)*(b.natAbs:Int)) % 18446744073709551616):=by
    rw [qme _ _ (by unfold qmc u64B;simp only [Bool.and_eq_true,decide_eq_true_eq];omega)]
  simp only [q11s,q11c,q11i,q11m,q11q,Dt.eval,e1,e2,e3]
  rw [Int.natAbs_mul]
  simp
theorem ltZ (a b:Int):cmpZ a b=-1∧a<b∨cmpZ a b=0∧a=b∨cmpZ a b=1∧b<a:=by
  unfold cmpZ
  repeat' split
  all_goals omega
theorem q32n (d:Nat) (n1 n2:Bool) (P Q:Nat):q14o d ((n1,((P / 18446744073709551616:Nat):Int),((P % 18446744073709551616:Nat):Int),()),(n2,((Q / 18446744073709551616:Nat):Int),((Q % 18446744073709551616:Nat):Int),()),())=some (cmpZ (P:Int) (Q:Int)):=by
  simp only [q14o,q142,q148,q14c,q14g,q14k,q14m,Dt.eval,q32i]
  rcases ltZ ((P / 18446744073709551616:Nat):Int) ((Q / 18446744073709551616:Nat):Int) with ⟨h1,h2⟩ | ⟨h1,h2⟩ | ⟨h1,h2⟩
  · simp only [h1, show ((-1 : Int) != 0) = true from rfl, cond_true]
    rw [qkd (by omega)]
  · simp only [h1, show ((0 : Int) != 0) = false from rfl, cond_false]
    rcases ltZ (P:Int) (Q:Int) with ⟨k1,k2⟩ | ⟨k1,k2⟩ | ⟨k1,k2⟩
    · rw [k1,qkd (by omega)]
    · rw [k1,qkf (by omega)]
    · rw [k1,qke (by omega)]
  · simp only [h1, show ((1 : Int) != 0) = true from rfl, cond_true]
    rw [qke (by omega)]
theorem q32o (d:Nat) (n1 d1 n2 d2:Int) (h1:i64B n1=true) (h2:i64B d1=true) (h3:i64B n2=true) (h4:i64B d2=true):qye d ((n1,d1,()),(n2,d2,()),())=some (tmax (qcv n1 d1) (qcv n2 d2)):=by
  have e1:qmv d ((n1,d1,()),())=some (qcv n1 d1):=qmw _ _ (by unfold qmu;simp only [h1,h2,Bool.and_self])
  have e2:qmv d ((n2,d2,()),())=some (qcv n2 d2):=qmw _ _ (by unfold qmu;simp only [h3,h4,Bool.and_self])
  simp only [qye,qy2,qy8,qyc,Dt.eval,e1,e2]
def cmpR (n1 d1 n2 d2:Int):Int×Int:=if qcv n1 d1=0∧qcv n2 d2=0 then (cmpQ n1 d1 n2 d2,0) else (0,8)
theorem q32p (d:Nat) (n1 d1 n2 d2:Int) (h1:i64B n1=true) (h2:i64B d1=true) (h3:i64B n2=true) (h4:i64B d2=true):q161 d ((n1,d1,()),(n2,d2,()),())=some (cmpR n1 d1 n2 d2):=by
  unfold cmpR
  have e0:=q32o d n1 d1 n2 d2 h1 h2 h3 h4
  by_cases hc:qcv n1 d1=0∧qcv n2 d2=0
  · rw [if_pos hc]
    rw [hc.1,hc.2] at e0
    obtain ⟨g1,_,_⟩:=qd2 hc.1
    obtain ⟨g2,_,_⟩:=qd2 hc.2
    have e1:=q32m d n1 d2 h1 h4
    have e2:=q32m d n2 d1 h3 h2
    have e3:=q32h d n1 n2
    simp only [q161,q14w,q152,q156,q15a,q15e,q15i,q15k,q15o,q15s,q15w,q15y,q160,Dt.eval,e0,e1,e2,e3,q32n,show tmax 0 0=0 from rfl,show ((0:Int) != 0)=false from rfl,cond_false]
    unfold cmpQ
    have p1:0<d1:=by omega
    have p2:0<d2:=by omega
    have s1:(n1<0→n1*d2<0)∧(0≤n1→0≤n1*d2):=⟨fun h=>Int.mul_neg_of_neg_of_pos h p2,fun h=>Int.mul_nonneg h (by omega)⟩
    have s2:(n2<0→n2*d1<0)∧(0≤n2→0≤n2*d1):=⟨fun h=>Int.mul_neg_of_neg_of_pos h p1,fun h=>Int.mul_nonneg h (by omega)⟩
    generalize n1*d2=P at *
    generalize n2*d1=Q at *
    by_cases k1:n1<0<;>by_cases k2:n2<0<;>simp only [k1,k2,decide_true,decide_false,beq_self_eq_true,Bool.not_true,Bool.not_false,cond_true,cond_false,Bool.false_beq,Bool.true_beq]
    · have := s1.1 k1
      have:=s2.1 k2
      rcases ltZ (P.natAbs:Int) (Q.natAbs:Int) with ⟨g1,g2⟩ | ⟨g1,g2⟩ | ⟨g1,g2⟩
      · rw [g1,qke (a:=P) (b:=Q) (by omega)];rfl
      · rw [g1,qkf (a:=P) (b:=Q) (by omega)];rfl
      · rw [g1,qkd (a:=P) (b:=Q) (by omega)];rfl
    · have := s1.1 k1
      have:=s2.2 (by omega)
      rw [qkd (by omega),qkd (by omega)]
    · have := s1.2 (by omega)
      have:=s2.1 k2
      rw [qke (by omega),qke (by omega)]
    · have := s1.2 (by omega)
      have:=s2.2 (by omega)
      rw [show (P.natAbs:Int)=P by omega,show (Q.natAbs:Int)=Q by omega]
  · rw [if_neg hc]
    have e1:tmax (qcv n1 d1) (qcv n2 d2)=8:=by
      unfold tmax
      rcases qd1 n1 d1 with q1 | q1<;>rcases qd1 n2 d2 with q2 | q2
      · exact absurd ⟨q1,q2⟩ hc
      all_goals rw [q1,q2];rfl
    rw [e1] at e0
    simp only [q161,q14w,q152,q156,q15a,q15e,Dt.eval,e0,show ((8:Int) != 0)=true from rfl,cond_true]
theorem q32q (d:Nat) (n1 d1 n2 d2:Int) (h1:i64B n1=true) (h2:i64B d1=true) (h3:i64B n2=true) (h4:i64B d2=true):q16p d ((n1,d1,()),(n2,d2,()),())=some (cmpR n1 d1 n2 d2).1:=by
  have e1:=q32p d n1 d1 n2 d2 h1 h2 h3 h4
  simp only [q16p,q169,q16f,q16j,q16n,Dt.eval,e1]
theorem q32r (d:Nat) (P:Int):q2ol d ((decide (P<0),((P.natAbs / 18446744073709551616:Nat):Int),((P.natAbs % 18446744073709551616:Nat):Int),()),())=some (cmpZ P 0):=by
  simp only [q2ol,q2nx,q2o3,q2o7,q2ob,q2of,q2oh,q2oj,Dt.eval]
  by_cases h0:P=0
  · subst h0;rfl
  · have hne : ¬ (((P.natAbs / 18446744073709551616 : Nat) : Int) = 0 ∧ ((P.natAbs % 18446744073709551616 : Nat) : Int) = 0) := by omega
    have hh:(bif (((P.natAbs / 18446744073709551616:Nat):Int) == 0) then (((P.natAbs % 18446744073709551616:Nat):Int) == 0) else false)=false:=by
      cases h1:(((P.natAbs / 18446744073709551616:Nat):Int) == 0) with
      | false=>rfl
      | true=>rw [cond_true,beq_eq_false_iff_ne];rw [beq_iff_eq] at h1;intro h2;exact hne ⟨h1,h2⟩
    cases h1:(((P.natAbs / 18446744073709551616:Nat):Int) == 0) with
    | false =>
      simp only [cond_false]
      rcases ltZ P 0 with ⟨k1,k2⟩ | ⟨k1,k2⟩ | ⟨k1,k2⟩
      · simp only [k1,k2,decide_true,cond_true]
      · exact absurd k2 h0
      · simp only [k1,show ¬ P<0 by omega,decide_false,cond_false]
    | true =>
      rw [h1,cond_true] at hh
      simp only [cond_true,hh,cond_false]
      rcases ltZ P 0 with ⟨k1,k2⟩ | ⟨k1,k2⟩ | ⟨k1,k2⟩
      · simp only [k1,k2,decide_true,cond_true]
      · exact absurd k2 h0
      · simp only [k1,show ¬ P<0 by omega,decide_false,cond_false]
theorem q32s (d:Nat) (n1 n2:Bool) (P Q:Nat):q1u9 d ((n1,((P / 18446744073709551616:Nat):Int),((P % 18446744073709551616:Nat):Int),()),(n2,((Q / 18446744073709551616:Nat):Int),((Q % 18446744073709551616:Nat):Int),()),())=some (cmpZ (P:Int) (Q:Int)):=by
  simp only [q1u9,q1t9,q1tf,q1tj,q1tn,q1tr,q1tt,q1tx,q1u1,q1u3,q1u5,q1u7,Dt.eval]
  obtain ⟨a,ha⟩:∃ a:Int,((P / 18446744073709551616:Nat):Int)=a:=⟨_,rfl⟩
  obtain ⟨b,hb⟩:∃ a:Int,((P % 18446744073709551616:Nat):Int)=a:=⟨_,rfl⟩
  obtain ⟨c,hc⟩:∃ a:Int,((Q / 18446744073709551616:Nat):Int)=a:=⟨_,rfl⟩
  obtain ⟨e,he⟩:∃ a:Int,((Q % 18446744073709551616:Nat):Int)=a:=⟨_,rfl⟩
  rw [ha,hb,hc,he]
  rcases ltZ a c with ⟨_,k2⟩ | ⟨_,k2⟩ | ⟨_,k2⟩
  · have e1 : (a != c) = true := by simp; omega
    simp only [e1,k2,decide_true,cond_true]
    rw [qkd (by omega)]
  · have e1 : (a != c) = false := by simp; omega
    simp only [e1,cond_false]
    rcases ltZ b e with ⟨_,g2⟩ | ⟨_,g2⟩ | ⟨_,g2⟩
    · have e2 : (b != e) = true := by simp; omega
      simp only [e2,g2,decide_true,cond_true]
      rw [qkd (by omega)]
    · have e2 : (b != e) = false := by simp; omega
      simp only [e2,cond_false]
      rw [qkf (by omega)]
    · have e2 : (b != e) = true := by simp; omega
      simp only [e2,show ¬ b<e by omega,decide_false,cond_true,cond_false]
      rw [qke (by omega)]
  · have e1 : (a != c) = true := by simp; omega
    simp only [e1,show ¬ a<c by omega,decide_false,cond_true,cond_false]
    rw [qke (by omega)]
theorem q32t (d:Nat) (n1 d1 n2 d2:Int) (h1:i64B n1=true) (h2:i64B d1=true) (h3:i64B n2=true) (h4:i64B d2=true):q2pr d ((n1,d1,()),(n2,d2,()),())=some (cmpQ n1 d1 n2 d2):=by
  have e1:qmm d ((n1,()),(d2,()),())=some (decide (n1*d2<0),(((n1*d2).natAbs / 18446744073709551616:Nat):Int),(((n1*d2).natAbs % 18446744073709551616:Nat):Int)):=qmn _ _ (by unfold qml;simp only [h1,h4,Bool.and_self])
  have e2:qmm d ((n2,()),(d1,()),())=some (decide (n2*d1<0),(((n2*d1).natAbs / 18446744073709551616:Nat):Int),(((n2*d1).natAbs % 18446744073709551616:Nat):Int)):=qmn _ _ (by unfold qml;simp only [h3,h2,Bool.and_self])
  unfold cmpQ
  generalize n1*d2=P at *
  generalize n2*d1=Q at *
  have hs:=@qm0 P Q
  have hn:=@qm1 P Q
  have hp:=@qm2 P Q
  simp only [q2pr,q2ot,q2oz,q2p3,q2p7,q2pb,q2pf,q2ph,q2pl,q2pn,q2pp,Dt.eval,e1,e2,q32r,q32s]
  by_cases hg:cmpZ P 0=cmpZ Q 0
  · have g1 : (cmpZ P 0 != cmpZ Q 0) = false := by simp [hg]
    simp only [g1,cond_false]
    by_cases h0:cmpZ P 0<0
    · simp only [h0,decide_true,cond_true];rw [hn hg h0]
    · simp only [h0,decide_false,cond_false];rw [hp hg h0]
  · have g1 : (cmpZ P 0 != cmpZ Q 0) = true := by simp [hg]
    simp only [g1,cond_true]
    have:=hs hg
    by_cases h0:cmpZ P 0<cmpZ Q 0
    · rw [if_pos h0] at this;simp only [h0,decide_true,cond_true];rw [this]
    · rw [if_neg h0] at this;simp only [h0,decide_false,cond_false];rw [this]
end Go.Proofs.YtpfhgnccpiildaaGreat

namespace Go.Pel
open Go Go.Tx
abbrev T3:Type:=Int×Int×Int×Unit
abbrev M4:Type:=Int×Int×Int×Int×Unit
theorem q_le {a b c d1 d2 d3:Int} (h1:1≤d1) (h2:1≤d2) (h3:1≤d3) (h:a*d2≤b*d1) (k:b*d3≤c*d2):a*d3≤c*d1:=by
  have e1:a*d3*d2≤c*d1*d2:=by
    have:=Int.mul_le_mul_of_nonneg_right h (show (0:Int)≤d3 by omega)
    have:=Int.mul_le_mul_of_nonneg_right k (show (0:Int)≤d1 by omega)
    rw [Int.mul_right_comm a d3 d2,Int.mul_right_comm c d1 d2]
    have e:b*d1*d3=b*d3*d1:=Int.mul_right_comm b d1 d3
    omega
  exact Int.le_of_mul_le_mul_right e1 (by omega)
theorem q_lt {a b c d1 d2 d3:Int} (h1:1≤d1) (h2:1≤d2) (h3:1≤d3) (h:a*d2<b*d1) (k:b*d3≤c*d2):a*d3<c*d1:=by
  have e1:a*d3*d2<c*d1*d2:=by
    have:=Int.mul_lt_mul_of_pos_right h (show (0:Int)<d3 by omega)
    have:=Int.mul_le_mul_of_nonneg_right k (show (0:Int)≤d1 by omega)
    rw [Int.mul_right_comm a d3 d2,Int.mul_right_comm c d1 d2]
    have e:b*d1*d3=b*d3*d1:=Int.mul_right_comm b d1 d3
    omega
  exact Int.lt_of_mul_lt_mul_right e1 (by omega)
theorem q32u {a b c d1 d2 d3:Int} (h1:1≤d1) (h2:1≤d2) (h3:1≤d3) (h:a*d2≤b*d1) (k:b*d3<c*d2):a*d3<c*d1:=by
  have e1:a*d3*d2<c*d1*d2:=by
    have:=Int.mul_le_mul_of_nonneg_right h (show (0:Int)≤d3 by omega)
    have:=Int.mul_lt_mul_of_pos_right k (show (0:Int)<d1 by omega)
    rw [Int.mul_right_comm a d3 d2,Int.mul_right_comm c d1 d2]
    have e:b*d1*d3=b*d3*d1:=Int.mul_right_comm b d1 d3
    omega
  exact Int.lt_of_mul_lt_mul_right e1 (by omega)
theorem q_eq {a b d1 d2:Int} (h1:qcv a d1=0) (h2:qcv b d2=0) (h:a*d2=b*d1):a=b∧d1=d2:=by
  obtain ⟨p1,_,g1⟩:=qd2 h1
  obtain ⟨p2,_,g2⟩:=qd2 h2
  have hn:a.natAbs*d2.toNat=b.natAbs*d1.toNat:=by
    have:=congrArg Int.natAbs h
    rw [Int.natAbs_mul,Int.natAbs_mul] at this
    rwa [show d2.natAbs=d2.toNat by omega,show d1.natAbs=d1.toNat by omega] at this
  have k1:d1.toNat ∣ d2.toNat:=Nat.Coprime.dvd_of_dvd_mul_left (k:=d1.toNat) (m:=a.natAbs) (n:=d2.toNat) g1 ⟨b.natAbs,by rw [hn,Nat.mul_comm]⟩
  have k2:d2.toNat ∣ d1.toNat:=Nat.Coprime.dvd_of_dvd_mul_left (k:=d2.toNat) (m:=b.natAbs) (n:=d1.toNat) g2 ⟨a.natAbs,by rw [← hn,Nat.mul_comm]⟩
  have e:d1.toNat=d2.toNat:=Nat.dvd_antisymm k1 k2
  have e':d1=d2:=by omega
  subst e'
  exact ⟨Int.eq_of_mul_eq_mul_right (by omega) h,rfl⟩
def okM (x:M4):Prop:=qcv x.1 x.2.1=0
def cmpM (x y:M4):Int:=orZ (cmpQ x.1 x.2.1 y.1 y.2.1) (orZ (cmpZ x.2.2.1 y.2.2.1) (cmpZ x.2.2.2.1 y.2.2.2.1))
def ltM (x y:M4):Bool:=decide (cmpM x y<0)
theorem q32v (x y:M4):ltM x y=true↔x.1*y.2.1<y.1*x.2.1∨(x.1*y.2.1=y.1*x.2.1∧(x.2.2.1<y.2.2.1∨(x.2.2.1=y.2.2.1∧x.2.2.2.1<y.2.2.2.1))):=by
  unfold ltM cmpM cmpQ orZ cmpZ
  rw [decide_eq_true_eq]
  generalize x.1*y.2.1=P
  generalize y.1*x.2.1=Q
  repeat' split
  all_goals omega
theorem q32w (x y:M4) (h:ltM x y=false):¬ (x.1*y.2.1<y.1*x.2.1∨(x.1*y.2.1=y.1*x.2.1∧(x.2.2.1<y.2.2.1∨(x.2.2.1=y.2.2.1∧x.2.2.2.1<y.2.2.2.1)))):=by
  intro k;rw [(q32v x y).2 k] at h;cases h
theorem q32x (x:M4):ltM x x=false:=by
  rw [← Bool.not_eq_true,q32v];omega
theorem q32y {x y:M4} (h:ltM x y=true):ltM y x=false:=by
  rw [q32v] at h
  rw [← Bool.not_eq_true,q32v];omega
theorem q32z {x y z:M4} (hx:okM x) (hy:okM y) (hz:okM z) (h:ltM x y=true) (k:ltM y z=true):ltM x z=true:=by
  obtain ⟨p1,_,_⟩:=qd2 hx
  obtain ⟨p2,_,_⟩:=qd2 hy
  obtain ⟨p3,_,_⟩:=qd2 hz
  rw [q32v] at h k ⊢
  have a1:=@q_lt x.1 y.1 z.1 x.2.1 y.2.1 z.2.1 p1 p2 p3
  have a2:=@q32u x.1 y.1 z.1 x.2.1 y.2.1 z.2.1 p1 p2 p3
  have a3:=@q_le x.1 y.1 z.1 x.2.1 y.2.1 z.2.1 p1 p2 p3
  have a4:=@q_le z.1 y.1 x.1 z.2.1 y.2.1 x.2.1 p3 p2 p1
  generalize x.1*y.2.1=A at *
  generalize y.1*x.2.1=B at *
  generalize y.1*z.2.1=C at *
  generalize z.1*y.2.1=D at *
  generalize x.1*z.2.1=E at *
  generalize z.1*x.2.1=G at *
  rcases h with h | ⟨h,h'⟩
  · left
    refine a1 h ?_
    rcases k with k | ⟨k,_⟩<;>omega
  · rcases k with k | ⟨k, k'⟩
    · left;exact a2 (by omega) k
    · right
      refine ⟨Int.le_antisymm (a3 (by omega) (by omega)) (a4 (by omega) (by omega)),by omega⟩
theorem q330 {x y z:M4} (hx:okM x) (hy:okM y) (hz:okM z) (h:ltM x y=false) (k:ltM y z=false):ltM x z=false:=by
  obtain ⟨p1,_,_⟩:=qd2 hx
  obtain ⟨p2,_,_⟩:=qd2 hy
  obtain ⟨p3,_,_⟩:=qd2 hz
  have h:=q32w _ _ h
  have k:=q32w _ _ k
  rw [← Bool.not_eq_true,q32v]
  have a1:=@q_lt z.1 y.1 x.1 z.2.1 y.2.1 x.2.1 p3 p2 p1
  have a2:=@q32u z.1 y.1 x.1 z.2.1 y.2.1 x.2.1 p3 p2 p1
  have a3:=@q_le x.1 y.1 z.1 x.2.1 y.2.1 z.2.1 p1 p2 p3
  have a4:=@q_le z.1 y.1 x.1 z.2.1 y.2.1 x.2.1 p3 p2 p1
  generalize x.1*y.2.1=A at *
  generalize y.1*x.2.1=B at *
  generalize y.1*z.2.1=C at *
  generalize z.1*y.2.1=D at *
  generalize x.1*z.2.1=E at *
  generalize z.1*x.2.1=G at *
  have f4:=a4 (by omega) (by omega)
  intro q
  have hE:E=G:=by omega
  have hAB:A=B:=by
    rcases Int.lt_or_eq_of_le (show B≤A by omega) with h5 | h5
    · have:=a2 (by omega) h5;omega
    · omega
  have hCD:C=D:=by
    rcases Int.lt_or_eq_of_le (show D≤C by omega) with h5 | h5
    · have:=a1 h5 (by omega);omega
    · omega
  omega
theorem q331 {x y:M4} (hx:okM x) (hy:okM y) (h:ltM x y=false) (k:ltM y x=false):x=y:=by
  have h:=q32w _ _ h
  have k:=q32w _ _ k
  obtain ⟨e1,e2⟩:=q_eq hx hy (by omega)
  obtain ⟨a,b,c,e,⟨⟩⟩:=x
  obtain ⟨a',b',c',e',⟨⟩⟩:=y
  simp only at e1 e2 h k
  subst e1 e2
  have:c=c':=by omega
  have:e=e':=by omega
  subst_vars;rfl
theorem q333 {n d:Int} (hd:d≠0) (hn:n.natAbs≤4194304) (hd2:d.natAbs≤4194304):(mk n d).2.2=0∧qcv (mk n d).1 (mk n d).2.1=0∧(mk n d).1.natAbs≤4194304∧(mk n d).2.1≤4194304:=by
  have hg:=qdr (n:=n) hd
  rw [qdq hd]
  have b1:n.natAbs / Nat.gcd n.natAbs d.natAbs≤n.natAbs:=Nat.div_le_self _ _
  have b2:d.natAbs / Nat.gcd n.natAbs d.natAbs≤d.natAbs:=Nat.div_le_self _ _
  have b3:1≤d.natAbs / Nat.gcd n.natAbs d.natAbs:=Nat.div_pos (Nat.gcd_le_right _ (by omega)) hg
  have hc:Nat.gcd (d.natAbs / Nat.gcd n.natAbs d.natAbs) (n.natAbs / Nat.gcd n.natAbs d.natAbs)=1:=by
    rw [Nat.gcd_comm];exact Nat.coprime_div_gcd_div_gcd hg
  generalize n.natAbs / Nat.gcd n.natAbs d.natAbs=A at *
  generalize d.natAbs / Nat.gcd n.natAbs d.natAbs=B at *
  have hno:¬ (0<0∨9223372036854775807<A∨0<0∨9223372036854775807<B):=by omega
  cases (decide (n<0) != decide (d<0)) with
  | true =>
    rw [qdm hno]
    refine ⟨rfl,qcy (by simp only;omega) (by simp only;omega) ?_,by simp only;omega,by simp only;omega⟩
    simp only [Int.toNat_natCast,Int.natAbs_neg,Int.natAbs_natCast];exact hc
  | false =>
    rw [qdn hno]
    refine ⟨rfl,qcy (by simp only;omega) (by simp only;omega) ?_,by simp only;omega,by simp only;omega⟩
    simp only [Int.toNat_natCast,Int.natAbs_natCast];exact hc
def mtP (x:T3×T3):Option M4:=if x.1.2.2.1=x.2.2.2.1 then none else some ((mk (x.1.2.1 - x.2.2.1) (x.2.2.2.1 - x.1.2.2.1)).1,(mk (x.1.2.1 - x.2.2.1) (x.2.2.2.1 - x.1.2.2.1)).2.1,x.1.1,x.2.1,())
def q334 (l:List T3):List M4:=(qwo l).filterMap mtP
def allM (l:List T3):List M4:=qu1 ltM (q334 l)
def okP (p:T3):Prop:=(ofP p).chk=0
theorem q335 {α:Type} {R:α→α→Prop}:∀ {l:List α} {x:α×α},x∈qwo l→l.Pairwise R→x.1∈l∧x.2∈l∧R x.1 x.2
  | [],x,h,_=>by cases h
  | p :: r, x, h, hR => by
    obtain ⟨h1,h2⟩:=List.pairwise_cons.1 hR
    rw [qwo] at h
    rcases List.mem_append.1 h with h | h
    · obtain ⟨q, hq, rfl⟩ := List.mem_map.1 h
      exact ⟨List.mem_cons_self ..,List.mem_cons_of_mem _ hq,h1 q hq⟩
    · obtain ⟨a, b, c⟩ := q335 h h2
      exact ⟨List.mem_cons_of_mem _ a,List.mem_cons_of_mem _ b,c⟩
theorem q336 {α:Type}:∀ l:List α,(qwo l).length≤l.length*l.length
  | []=>Nat.le_refl _
  | p :: r => by
    have:=q336 r
    rw [qwo,List.length_append,List.length_map,List.length_cons]
    have e:(r.length+1)*(r.length+1)=r.length*r.length+2*r.length+1:=by
      rw [Nat.mul_add,Nat.add_mul];omega
    omega
theorem q337 {x:T3×T3} {y:M4} (h1:okP x.1) (h2:okP x.2) (h:mtP x=some y):okM y∧y.1.natAbs≤4194304∧y.2.1≤4194304:=by
  unfold mtP at h
  split at h
  · cases h
  · rename_i hb
    injection h with h;subst h
    obtain ⟨_,_,a1,a2,a3,a4⟩:=qdd (show qd9 x.1.1 x.1.2.1 x.1.2.2.1=0 from h1)
    obtain ⟨_,_,b1,b2,b3,b4⟩:=qdd (show qd9 x.2.1 x.2.2.1 x.2.2.2.1=0 from h2)
    obtain ⟨_,k1,k2,k3⟩:=q333 (n:=x.1.2.1 - x.2.2.1) (d:=x.2.2.2.1 - x.1.2.2.1) (by omega) (by omega) (by omega)
    exact ⟨k1,k2,k3⟩
structure FldOk (l:List T3):Prop where
  len:l.length≤64
  ok:∀ p∈l,okP p
  inc:l.Pairwise fun p q=>p.1<q.1
theorem q338 {l:List T3} (h:FldOk l) {y:M4} (hy:y∈q334 l):okM y∧y.1.natAbs≤4194304∧y.2.1≤4194304:=by
  obtain ⟨x,hx,he⟩:=List.mem_filterMap.1 hy
  obtain ⟨h1,h2,_⟩:=q335 hx h.inc
  exact q337 (h.ok _ h1) (h.ok _ h2) he
theorem q339 {l:List T3} (h:FldOk l):(q334 l).length≤4096:=by
  have h1:=List.length_filterMap_le mtP (qwo l)
  have h2:=q336 l
  have h3:=Nat.mul_le_mul h.len h.len
  unfold q334;omega
theorem q33a (l:List T3):(allM l).Perm (q334 l):=qu4 _ _
theorem q33b {l:List T3} (h:FldOk l) {y:M4} (hy:y∈allM l):okM y∧y.1.natAbs≤4194304∧y.2.1≤4194304:=q338 h ((q33a l).mem_iff.1 hy)
theorem q33c {l:List T3} (h:FldOk l):(allM l).length≤4096:=by rw [(q33a l).length_eq];exact q339 h
theorem q33d {l:List T3} (h:FldOk l):(allM l).Pairwise fun a b=>ltM b a=false :=
  qu6 (S:=okM) (fun a b _ _ h=>q32y h) (fun a b c ha hb hc h k=>q330 ha hb hc h k) _ fun a ha=>(q338 h ha).1
end Go.Pel

namespace Go.Tx
theorem q33f {α:Type} {f g:α→α→Bool} {x:α}:∀ {l:List α},(∀ a∈l,f x a=g x a)→insL f x l=insL g x l
  | [],_=>rfl
  | y :: ys, h => by
    rw [insL,insL,h y (List.mem_cons_self ..),q33f fun a ha=>h a (List.mem_cons_of_mem _ ha)]
theorem q33g {α:Type} {f g:α→α→Bool}:∀ {l:List α},(∀ a∈l,∀ b∈l,f a b=g a b)→qu1 f l=qu1 g l
  | [],_=>rfl
  | x :: xs, h => by
    rw [qu1,qu1,q33g fun a ha b hb=>h a (List.mem_cons_of_mem _ ha) b (List.mem_cons_of_mem _ hb)]
    exact q33f fun a ha=>h x (List.mem_cons_self ..) a (List.mem_cons_of_mem _ ((qu4 g xs).mem_iff.1 ha))
theorem q33h {α β:Type} {step:α→List β→Option (List β)} {g:α→Option β} {P:α→Prop} (hs:∀ a acc,P a→acc.length≤99999→step a acc=some (acc++(g a).toList)):∀ (l:List α) (acc:List β),(∀ a∈l,P a)→acc.length+l.length≤99999→qti step l acc=some (acc++l.filterMap g)
  | [],acc,_,_=>by simp [qti]
  | a :: l, acc, h, hl => by
    rw [List.length_cons] at hl
    have h1:(g a).toList.length≤1:=by cases g a<;>simp
    rw [qti,hs a acc (h a (List.mem_cons_self ..)) (by omega)]
    show qti step l (acc++(g a).toList)=_
    rw [q33h hs l _ (fun b hb=>h b (List.mem_cons_of_mem _ hb)) (by rw [List.length_append];omega)]
    cases hg:g a<;>simp [hg]
theorem q33i {τ:Row} {F:den τ×den τ×Unit→Option Int} {S:den τ→Prop} {lt:den τ→den τ→Bool} {c:den τ→den τ→Int} {xs:List (den τ)} (hS:∀ x∈xs,S x) (hF:∀ x y,S x→S y→F (x,y,())=some (c x y)) (hc:∀ x y,lt x y=decide (c x y<0)) (hi:∀ x,lt x x=false)
    (ht:∀ x y z,S x→S y→S z→lt x y=true→lt y z=true→lt x z=true) (hn:∀ x y z,S x→S y→S z→lt x y=false→lt y z=false→lt x z=false) (he:∀ x y,S x→S y→lt x y=false→lt y x=false→eqR τ x y=true) (hl:xs.length≤1000000):qu2 F xs=some (qu1 lt xs):=by
  have hlt:∀ x y,S x→S y→ltV F x y=lt x y:=fun x y hx hy=>by unfold ltV cmpV;rw [hF x y hx hy,hc]
  have hB:qu0 F xs=true:=by
    unfold qu0
    simp only [Bool.and_eq_true,List.all_eq_true,Bool.or_eq_true,Bool.not_eq_true']
    refine ⟨⟨⟨⟨fun x hx y hy=>?_,fun x hx=>?_⟩,fun x hx y hy=>?_⟩,fun x hx y hy=>?_⟩,fun x hx y hy=>?_⟩
    · rw [hF x y (hS x hx) (hS y hy)];rfl
    · rw [hlt x x (hS x hx) (hS x hx)];exact hi x
    · rw [hlt x y (hS x hx) (hS y hy)]
      cases hxy:lt x y with
      | false=>exact .inl rfl
      | true =>
        refine .inr fun z hz=>?_
        rw [hlt y z (hS y hy) (hS z hz),hlt x z (hS x hx) (hS z hz)]
        cases hyz:lt y z with
        | false=>exact .inl rfl
        | true=>exact .inr (ht x y z (hS x hx) (hS y hy) (hS z hz) hxy hyz)
    · rw [hlt x y (hS x hx) (hS y hy)]
      cases hxy:lt x y with
      | true=>exact .inl rfl
      | false =>
        refine .inr fun z hz=>?_
        rw [hlt y z (hS y hy) (hS z hz),hlt x z (hS x hx) (hS z hz)]
        cases hyz:lt y z with
        | true=>exact .inl rfl
        | false=>exact .inr (hn x y z (hS x hx) (hS y hy) (hS z hz) hxy hyz)
    · rw [hlt x y (hS x hx) (hS y hy), hlt y x (hS y hy) (hS x hx)]
      cases hxy:lt x y with
      | true=>exact .inl (.inl rfl)
      | false =>
        cases hyx:lt y x with
        | true=>exact .inl (.inr rfl)
        | false=>exact .inr (he x y (hS x hx) (hS y hy) hxy hyx)
  unfold qu2
  rw [hB,show Nat.ble xs.length 1000000=true by rw [Nat.ble_eq];exact hl]
  exact congrArg some (q33g fun a ha b hb=>hlt a b (hS a ha) (hS b hb))
end Go.Tx
namespace Go.Proofs.YtpfhgnccpiildaaGreat
open Go Go.Tx Go.Pel
theorem q33j {a:Int} (h:a.natAbs≤9223372036854775807):i64B a=true:=by
  unfold i64B;simp only [Bool.and_eq_true,decide_eq_true_eq];omega
theorem q33k (d:Nat) (hd:5≤d) (a b c:Int):q1c7 d (([(a,()),(b,()),(c,())],()),())=some (orZ a (orZ b c)):=by
  obtain ⟨n,rfl⟩:∃ n,d=n+5:=⟨d - 5,by omega⟩
  have w1:IntKind.wrap .i64 ((0:Int)+1)=1:=by decide
  have w2:IntKind.wrap .i64 ((1:Int)+1)=2:=by decide
  have w3:IntKind.wrap .i64 ((2:Int)+1)=3:=by decide
  have w4:IntKind.wrap .i64 (1:Int)=1:=by decide
  have w5:IntKind.wrap .i64 (2:Int)=2:=by decide
  have w6:IntKind.wrap .i64 (3:Int)=3:=by decide
  have b0:inB 0 3=true:=by decide
  have b1:inB 1 3=true:=by decide
  have b2:inB 2 3=true:=by decide
  unfold orZ
  by_cases ha:a=0
  · by_cases hb : b = 0
    · by_cases hc : c = 0
      · subst ha hb hc
        simp [q1c7,q1b8,q1bc,q1bg,q1bk,q1bo,q1bs,q1bw,q1c0,q1c2,q1c4,q1c6,iter,Dt.eval,w1,w2,w3,w4,w5,w6,b0,b1,b2,elt]
      · subst ha hb
        simp [q1c7,q1b8,q1bc,q1bg,q1bk,q1bo,q1bs,q1bw,q1c0,q1c2,q1c4,q1c6,iter,Dt.eval,w1,w2,w3,w4,w5,w6,b0,b1,b2,elt,show (c != 0)=true by simpa using hc]
    · subst ha
      simp [q1c7,q1b8,q1bc,q1bg,q1bk,q1bo,q1bs,q1bw,q1c0,q1c2,q1c4,q1c6,iter,Dt.eval,w1,w2,w3,w4,w5,w6,b0,b1,b2,elt,show (b != 0)=true by simpa using hb]
      intro h;exact absurd h hb
  · simp [q1c7, q1b8, q1bc, q1bg, q1bk, q1bo, q1bs, q1bw, q1c0, q1c2, q1c4, q1c6, iter, Dt.eval, w1, w2, w3, w4, w5, w6, b0, b1, b2, elt, show (a != 0) = true by simpa using ha]
    intro h;exact absurd h ha
structure okW (x:M4):Prop where
  ok:okM x
  n:x.1.natAbs≤4194304
  d:x.2.1≤4194304
theorem okW.b1 {x:M4} (h:okW x):i64B x.1=true:=q33j (by have:=h.n;omega)
theorem okW.b2 {x:M4} (h:okW x):i64B x.2.1=true:=q33j (by have:=h.d;have:=(qd2 h.ok).1;omega)
theorem q33l (d:Nat) (hd:5≤d) {x y:M4} (hx:okW x) (hy:okW y):q1cr d (x,y,())=some (cmpM x y):=by
  have e1:q16p d ((x.1,x.2.1,()),(y.1,y.2.1,()),())=some (cmpQ x.1 x.2.1 y.1 y.2.1):=by
    rw [q32q d _ _ _ _ hx.b1 hx.b2 hy.b1 hy.b2];unfold cmpR;rw [if_pos ⟨hx.ok,hy.ok⟩]
  have e2:=q32j d x.2.2.1 y.2.2.1
  have e3:=q32j d x.2.2.2.1 y.2.2.2.1
  simp only [q1cr,q1cf,q1cl,q1cp,Dt.eval,e1,e2,e3,q33k d hd]
  rfl
theorem q33m (d:Nat) (hd:5≤d) {xs:List M4} (h:∀ x∈xs,okW x) (hl:xs.length≤1000000):qu2 (τ:=qj8) (q1cr d) xs=some (qu1 ltM xs) :=
  q33i (τ:=qj8) (S:=okW) (lt:=ltM) (c:=cmpM) h (fun x y hx hy=>q33l d hd hx hy) (fun _ _=>rfl) q32x (fun x y z hx hy hz=>q32z hx.ok hy.ok hz.ok) (fun x y z hx hy hz=>q330 hx.ok hy.ok hz.ok) (fun x y hx hy h1 h2=>by
    have:=q331 hx.ok hy.ok h1 h2
    subst this
    show (x.1 == x.1&&(x.2.1 == x.2.1&&(x.2.2.1 == x.2.2.1&&(x.2.2.2.1 == x.2.2.2.1&&true))))=true
    simp only [beq_self_eq_true,Bool.and_self]) hl
theorem q33n {p:T3} (h:okP p):0≤p.1∧p.1≤65535∧-1048576≤p.2.1∧p.2.1≤1048576∧-1048576≤p.2.2.1∧p.2.2.1≤1048576:=qdd (show qd9 p.1 p.2.1 p.2.2.1=0 from h)
theorem q33o (d:Nat) {p q:T3} (hp:okP p) (hq:okP q) (hi:p.1≠q.1):qxu d ((p.1,p.2.1,p.2.2.1,()),(q.1,q.2.1,q.2.2.1,()),()) =
    some (if p.2.2.1=q.2.2.1 then (0,0,6) else ((mk (p.2.1 - q.2.1) (q.2.2.1 - p.2.2.1)).1,(mk (p.2.1 - q.2.1) (q.2.2.1 - p.2.2.1)).2.1,0)):=by
  obtain ⟨_,_,a1,a2,a3,a4⟩:=q33n hp
  obtain ⟨_,_,b1,b2,b3,b4⟩:=q33n hq
  have e1:qom d ((p.1,p.2.1,p.2.2.1,()),(q.1,q.2.1,q.2.2.1,()),((0:Int),(1:Int),()),())=some 0:=by
    rw [qon _ _ (by rfl)]
    exact congrArg some (qkq ⟨hp,hq,show qcv 0 1=0 by decide⟩ hi)
  have w1:IntKind.wrap .i64 (p.2.1 - q.2.1)=p.2.1 - q.2.1:=IntWalk.i64_in _ (by omega)
  have w2:IntKind.wrap .i64 (q.2.2.1 - p.2.2.1)=q.2.2.1 - p.2.2.1:=IntWalk.i64_in _ (by omega)
  have e2:qnd d ((p.2.1 - q.2.1,()),(q.2.2.1 - p.2.2.1,()),())=some ((mk (p.2.1 - q.2.1) (q.2.2.1 - p.2.2.1)).1,(mk (p.2.1 - q.2.1) (q.2.2.1 - p.2.2.1)).2.1,(mk (p.2.1 - q.2.1) (q.2.2.1 - p.2.2.1)).2.2) :=
    qne _ _ (by unfold qnc;simp only;rw [q33j (by omega),q33j (by omega)];rfl)
  simp only [qxu,qx2,qx8,qxc,qxg,qxk,qxo,qxq,qxs,Dt.eval,e1,show ((0:Int) != 0)=false from rfl,cond_false]
  by_cases hb:p.2.2.1=q.2.2.1
  · simp only [hb,beq_self_eq_true,cond_true,if_true]
  · have hb' : (p.2.2.1 == q.2.2.1) = false := by simpa using hb
    have h0:=(q333 (n:=p.2.1 - q.2.1) (d:=q.2.2.1 - p.2.2.1) (by omega) (by omega) (by omega)).1
    simp only [hb',cond_false,hb,if_false,w1,w2,e2,h0]
    rfl
theorem q33p (d:Nat) (hd:5≤d) {l:List T3} (h:FldOk l):q29k d ((l,()),())=some (allM l):=by
  have hlen:=q336 l
  have hl4:=Nat.mul_le_mul h.len h.len
  have e1:q18y d ((l,()),())=some l:=by simp only [q18y,q18m,q18s,q18w,Dt.eval]
  have hp:qwp l=true:=by unfold qwp;rw [Nat.ble_eq];have:=h.len;omega
  have hstep:∀ (x:T3×T3) (acc:List M4),(okP x.1∧okP x.2∧x.1.1≠x.2.1)→acc.length≤99999→qtl (q29c d) (q29d d) x acc=some (acc++(mtP x).toList):=by
    rintro x acc ⟨h1,h2,h3⟩ hacc
    have e2:=q33o d h1 h2 h3
    have ha:apB acc.length 1=true:=by unfold apB;rw [Nat.ble_eq];omega
    unfold qtl q29c q29d mtP
    simp only [q28u,q28y,q292,q296,q29a,Dt.eval,q28a,e2,Option.bind_some]
    by_cases hb:x.1.2.2.1=x.2.2.2.1
    · simp only [hb, if_true, show ((6 : Int) == 0) = false from rfl, cond_false]
      simp
    · simp only [hb, if_false, show ((0 : Int) == 0) = true from rfl, cond_true, List.length_cons, List.length_nil, Nat.zero_add, ha]
      simp
  have e3:=q33h hstep (qwo l) [] (fun x hx=>by
    obtain ⟨g1,g2,g3⟩:=q335 hx h.inc
    exact ⟨h.ok _ g1,h.ok _ g2,by omega⟩) (by simp;omega)
  have e4:=q33m d hd (xs:=q334 l) (fun x hx=>⟨(q338 h hx).1,(q338 h hx).2.1,(q338 h hx).2.2⟩) (by have:=q339 h;omega)
  simp only [q29k,q28a,q28g,q28k,q28o,q29e,q29i,Dt.eval,e1,hp,cond_true]
  rw [e3]
  simp only [Option.bind_some,List.nil_append]
  rw [show (qwo l).filterMap mtP=q334 l from rfl,e4]
  rfl
end Go.Proofs.YtpfhgnccpiildaaGreat

namespace Go.Pel
open Go Go.Tx
def gtM (n dd:Int) (x:M4):Bool:=decide (0<cmpQ x.1 x.2.1 n dd)
theorem q33q (n dd:Int) (x:M4):gtM n dd x=true↔n*x.2.1<x.1*dd:=by
  unfold gtM cmpQ cmpZ
  rw [decide_eq_true_eq]
  repeat' split
  all_goals omega
theorem q33r {n dd:Int} (hd:1≤dd) {L:List M4} (hL:∀ x∈L,okM x) (hs:L.Pairwise fun a b=>ltM b a=false) {i j:Nat} {x y:M4} (hij:i≤j) (hx:L[i]?=some x) (hy:L[j]?=some y) (h:gtM n dd x=true):gtM n dd y=true:=by
  rcases Nat.lt_or_eq_of_le hij with hlt | rfl
  · obtain ⟨hi, rfl⟩ := List.getElem?_eq_some_iff.1 hx
    obtain ⟨hj,rfl⟩:=List.getElem?_eq_some_iff.1 hy
    have hp:=q32w _ _ ((List.pairwise_iff_getElem.1 hs) i j hi hj hlt)
    have o1:=(qd2 (hL _ (List.getElem_mem hi))).1
    have o2:=(qd2 (hL _ (List.getElem_mem hj))).1
    rw [q33q] at h ⊢
    exact q_lt hd o1 o2 h (by omega)
  · rw [hx] at hy;injection hy with hy;subst hy;exact h
def idxM (n dd:Int) (L:List M4):Nat:=L.findIdx (gtM n dd)
theorem q33s {n dd:Int} {L:List M4} {k:Nat} (hk:k≤L.length) (h1:∀ j x,j<k→L[j]?=some x→gtM n dd x=false) (h2:∀ x,L[k]?=some x→gtM n dd x=true):idxM n dd L=k:=by
  unfold idxM
  rcases Nat.lt_or_eq_of_le hk with hlt | rfl
  · rw [List.findIdx_eq hlt]
    refine ⟨h2 _ (List.getElem?_eq_getElem hlt),fun j hj=>?_⟩
    exact h1 j _ hj (List.getElem?_eq_getElem (by omega))
  · rw [List.findIdx_eq_length]
    intro x hx
    obtain ⟨j,hj,rfl⟩:=List.mem_iff_getElem.1 hx
    exact h1 j _ hj (List.getElem?_eq_getElem hj)
end Go.Pel
namespace Go.Proofs.YtpfhgnccpiildaaGreat
open Go Go.Tx Go.Pel
theorem q33t (d:Nat) {x:M4} {n dd:Int} (hx:okW x) (hn:i64B n=true) (hd:i64B dd=true) (hr:qcv n dd=0):q2aa d ((x.1,x.2.1,x.2.2.1,x.2.2.2.1,()),(n,dd,()),())=some (if gtM n dd x=true then 1 else -1):=by
  have e1:q16p d ((x.1,x.2.1,()),(n,dd,()),())=some (cmpQ x.1 x.2.1 n dd):=by
    rw [q32q d _ _ _ _ hx.b1 hx.b2 hn hd];unfold cmpR;rw [if_pos ⟨hx.ok,hr⟩]
  simp only [q2aa,q29s,q29y,q2a2,q2a6,q2a8,Dt.eval,e1]
  unfold gtM
  by_cases h:0<cmpQ x.1 x.2.1 n dd
  · simp only [h,gt_iff_lt,decide_true,cond_true,if_true]
  · simp only [h, gt_iff_lt, decide_false, cond_false]
    rfl
abbrev bsX:Type:=List qj9×Int×Int×Int×Int×Int
theorem q33u (d:Nat) {L:List M4} {n dd:Int} (hL:∀ x∈L,okW x) (hlen:L.length≤4096) (hs:L.Pairwise fun a b=>ltM b a=false) (hn:i64B n=true) (hd:i64B dd=true) (hr:qcv n dd=0):∀ (f lo hi:Nat),hi - lo<f→lo≤hi→hi≤L.length→(∀ j x,j<lo→L[j]?=some x→gtM n dd x=false)→(∀ j x,hi≤j→L[j]?=some x→gtM n dd x=true) →
    ∃ b,iter (q2bi d) f ((L,(L.length:Int),(lo:Int),(hi:Int),n,dd):bsX)=some ((idxM n dd L:Int),b)
  | 0,lo,hi,h,_,_,_,_=>by omega
  | f + 1, lo, hi, h, hle, hhi, h1, h2 => by
    have hD:=(qd2 hr).1
    rw [iter]
    have ih:=q33u d hL hlen hs hn hd hr f
    revert ih
    generalize iter (q2bi d) f=self
    intro ih
    unfold q2bi
    simp only [q2b0,q2b4,q2b8,q2ba,q2bc,q2bg,Dt.eval]
    by_cases hlt:lo<hi
    · have c1 : decide ((lo : Int) < (hi : Int)) = true := by rw [decide_eq_true_eq]; omega
      have wm:IntKind.wrap .i64 (shrI .u64 (IntKind.wrap .u64 (IntKind.wrap .i64 ((lo:Int)+(hi:Int)))) 1)=(((lo+hi) / 2:Nat):Int):=by
        rw [show IntKind.wrap .i64 ((lo:Int)+(hi:Int))=(lo:Int)+(hi:Int) from IntWalk.i64_in _ (by omega),show IntKind.wrap .u64 ((lo:Int)+(hi:Int))=((lo+hi:Nat):Int) by rw [IntKind.wrap_u64];omega]
        have:shrI .u64 ((lo+hi:Nat):Int) 1=(((lo+hi) / 2:Nat):Int):=by
          unfold shrI
          rw [show (2:Int) ^ (min (1:Int).toNat IntKind.u64.bits)=2 from by decide,Int.fdiv_eq_ediv_of_nonneg _ (by omega)];omega
        rw [this];exact IntWalk.i64_in _ (by omega)
      obtain ⟨m,hm⟩:∃ m,(lo+hi) / 2=m:=⟨_,rfl⟩
      rw [hm] at wm
      have hml:m<L.length:=by omega
      obtain ⟨x,hx⟩:∃ x,L[m]?=some x:=⟨_,List.getElem?_eq_getElem hml⟩
      have hxw:=hL x (List.mem_of_getElem? hx)
      have ib:inB (m:Int) L.length=true:=q32.2 ⟨by omega,by omega⟩
      have ee:elt qja L (m:Int).toNat=x:=by unfold elt;rw [Int.toNat_natCast,hx];rfl
      have e1:=q33t d hxw hn hd hr
      cases hg:gtM n dd x with
      | true =>
        rw [hg,if_pos rfl] at e1
        simp only [c1,cond_true,wm,ib,ee,q2ai,e1,show decide ((1:Int)<0)=false from rfl,cond_false]
        exact ih lo m (by omega) (by omega) (by omega) h1 fun j y hj hy=>q33r hD (fun x hx=>(hL x hx).ok) hs hj hx hy hg
      | false =>
        have wm1:IntKind.wrap .i64 ((m:Int)+1)=((m+1:Nat):Int):=by rw [IntWalk.i64_in _ (by omega)];omega
        rw [hg,if_neg (by decide)] at e1
        simp only [c1,cond_true,wm,ib,ee,q2ai,e1,show decide ((-1:Int)<0)=true from rfl,wm1,Dt.eval,cond_true]
        refine ih (m+1) hi (by omega) (by omega) (by omega) (fun j y hj hy=>?_) h2
        cases hgy:gtM n dd y with
        | false=>rfl
        | true=>rw [q33r hD (fun x hx=>(hL x hx).ok) hs (show j≤m by omega) hy hx hgy] at hg;cases hg
    · obtain rfl : lo = hi := by omega
      have c1:decide ((lo:Int)<(lo:Int))=false:=by rw [decide_eq_false_iff_not];omega
      have hidx:idxM n dd L=lo:=q33s hhi h1 fun x hx=>h2 lo x (Nat.le_refl _) hx
      simp only [c1,cond_false]
      rw [hidx]
      by_cases hll:lo<L.length
      · have c2 : decide ((lo : Int) < (L.length : Int)) = true := by rw [decide_eq_true_eq]; omega
        obtain ⟨x,hx⟩:∃ x,L[lo]?=some x:=⟨_,List.getElem?_eq_getElem hll⟩
        have hxw:=hL x (List.mem_of_getElem? hx)
        have ib:inB (lo:Int) L.length=true:=q32.2 ⟨by omega,by omega⟩
        have ee:elt qja L (lo:Int).toNat=x:=by unfold elt;rw [Int.toNat_natCast,hx];rfl
        have e1:=q33t d hxw hn hd hr
        simp only [c2,cond_true,ib,ee,q2ai,e1]
        exact ⟨_,rfl⟩
      · have c2 : decide ((lo : Int) < (L.length : Int)) = false := by rw [decide_eq_false_iff_not]; omega
        simp only [c2,cond_false]
        exact ⟨_,rfl⟩
theorem q33v (d:Nat) (hf:5000≤d) {L:List M4} {n dd:Int} (hL:∀ x∈L,okW x) (hlen:L.length≤4096) (hs:L.Pairwise fun a b=>ltM b a=false) (hn:i64B n=true) (hd:i64B dd=true) (hr:qcv n dd=0):q2c7 d ((L,()),(n,dd,()),())=some (idxM n dd L:Int):=by
  obtain ⟨b,hb⟩:=q33u d hL hlen hs hn hd hr d 0 L.length (by omega) (by omega) (Nat.le_refl _) (fun j x hj=>by omega) (fun j x hj hx=>by have:=(List.getElem?_eq_some_iff.1 hx).1;omega)
  have e1:q2bj d ((L,()),(n,dd,()),(),())=some ((idxM n dd L:Int),b):=by
    simp only [q2bj,q2ai,q2ao,q2as,q2aw,Dt.eval]
    exact hb
  simp only [q2c7,q2br,q2bx,q2c1,q2c5,Dt.eval,e1]
def chk1 (l:List T3) (n dd:Int):Int:=if qfx (ptsL l)≠0 then qfx (ptsL l) else qcv n dd
def chk2 (l:List T3) (n dd n' dd':Int):Int:=if qfx (ptsL l)≠0 then qfx (ptsL l) else if qcv n dd≠0 then qcv n dd else if qcv n' dd'≠0 then qcv n' dd' else if 0<cmpQ n dd n' dd' then 2 else 0
theorem q33y (d:Nat) (hf:5≤d) (l:List T3) (n dd n' dd':Int) (hn:i64B n=true) (hd:i64B dd=true) (hn':i64B n'=true) (hd':i64B dd'=true):q18e d ((l,()),([(n,dd,()),(n',dd',())],()),())=some (chk2 l n dd n' dd'):=by
  obtain ⟨k,rfl⟩:∃ k,d=k+5:=⟨d - 5,by omega⟩
  have e1:qpd (k+5) ((l,()),())=some (qfx (ptsL l)):=qpe _ _ rfl
  have e2:qmv (k+5) ((n,dd,()),())=some (qcv n dd):=qmw _ _ (by unfold qmu;simp only [hn,hd,Bool.and_self])
  have e3:qmv (k+5) ((n',dd',()),())=some (qcv n' dd'):=qmw _ _ (by unfold qmu;simp only [hn',hd',Bool.and_self])
  have e4:=q32q (k+5) n dd n' dd' hn hd hn' hd'
  have w1:IntKind.wrap .i64 (1:Int)=1:=by decide
  have w2:IntKind.wrap .i64 (2:Int)=2:=by decide
  have b0:inB 0 2=true:=by decide
  have b1:inB 1 2=true:=by decide
  unfold chk2
  simp only [q18e,q16x,q173,q177,q17b,q17f,q17j,Dt.eval,e1]
  by_cases h:qfx (ptsL l)=0
  · rw [h]
    by_cases h2:qcv n dd=0
    · by_cases h3 : qcv n' dd' = 0
      · unfold cmpR at e4
        rw [if_pos ⟨h2,h3⟩] at e4
        by_cases h4:0<cmpQ n dd n' dd'
        · simp [iter,q18d,q17n,q17r,q17v,q17z,q181,q183,q187,q189,q18b,Dt.eval,q16x,e2,e3,e4,h2,h3,h4,w1,w2,b0,b1,elt]
        · simp [iter,q18d,q17n,q17r,q17v,q17z,q181,q183,q187,q189,q18b,Dt.eval,q16x,e2,e3,e4,h2,h3,h4,w1,w2,b0,b1,elt]
      · simp [iter,q18d,q17n,q17r,q17v,q17z,q181,q183,q187,q189,q18b,Dt.eval,q16x,e2,e3,h2,h3,w1,w2,b0,b1,elt,show (qcv n' dd' != 0)=true by simpa using h3]
    · simp [iter,q18d,q17n,q17r,q17v,q17z,q181,q183,q187,q189,q18b,Dt.eval,q16x,e2,h2,w1,b0,elt,show (qcv n dd != 0)=true by simpa using h2]
  · have hb : (qfx (ptsL l) != 0) = true := by simpa using h
    simp only [hb,cond_true,ne_eq,h,not_false_eq_true,if_true]
theorem q33z {l:List T3} (h:qfx (ptsL l)=0):FldOk l:=by
  obtain ⟨h1,h2,h3⟩:=qg2 h
  rw [qil] at h1
  refine ⟨h1,fun p hp=>h2 _ (List.mem_map_of_mem hp),?_⟩
  rw [List.pairwise_iff_getElem]
  intro i j hi hj hij
  have hg:∀ k (hk:k<l.length),(ptsL l)[k]?=some (ofP l[k]):=fun k hk=>by unfold ptsL;rw [List.getElem?_map,List.getElem?_eq_getElem hk];rfl
  exact qfw h3 hij (hg i hi) (hg j hj)
theorem q340 {l:List T3} (h:FldOk l):∀ x∈allM l,okW x:=fun x hx=>⟨(q33b h hx).1,(q33b h hx).2.1,(q33b h hx).2.2⟩
end Go.Proofs.YtpfhgnccpiildaaGreat

namespace Go.Pel
open Go Go.Tx
end Go.Pel
namespace Go.Proofs.YtpfhgnccpiildaaGreat
open Go Go.Tx Go.Pel
theorem q347 {k:Nat} (h:k<1000000):IntKind.wrap .i64 ((k:Int)+1)=((k+1:Nat):Int):=by rw [IntWalk.i64_in _ (by omega)];omega
theorem q348 {α:Type} {z:α} {l:List α} {k:Nat} {x:α} (h:l[k]?=some x):elt z l (k:Int).toNat=x:=by unfold elt;rw [Int.toNat_natCast,h];rfl
theorem q349 {k n:Nat} (h:k<n):inB (k:Int) n=true:=q32.2 ⟨by omega,by omega⟩
theorem q34a {a b:Nat} (h:a<b):decide ((a:Int)<(b:Int))=true:=by rw [decide_eq_true_eq];omega
theorem q34b {a b:Nat} (h:¬ a<b):decide ((a:Int)<(b:Int))=false:=by rw [decide_eq_false_iff_not];omega
theorem q34c {α:Type} {l:List α} {k:Nat} {x:α} (h:l[k]?=some x):l.drop k=x :: l.drop (k+1):=by
  obtain ⟨h1,rfl⟩:=List.getElem?_eq_some_iff.1 h
  exact List.drop_eq_getElem_cons h1
end Go.Proofs.YtpfhgnccpiildaaGreat

namespace Go.Proofs.YtpfhgnccpiildaaGreat
open Go Go.Tx Go.Pel
theorem q34d (d:Nat) {n dd:Int} (hn:i64B n=true) (hd:i64B dd=true):qn4 d ((n,dd,()),())=some (qcv n dd):=qn5 _ _ (by unfold qn3;simp only [hn,hd,Bool.and_self])
theorem q34e (d:Nat) {n dd n' dd':Int} (hn:i64B n=true) (hd:i64B dd=true) (hn':i64B n'=true) (hd':i64B dd'=true):q1sc d ((n,dd,()),(n',dd',()),())=some (if qcv n dd≠0 then qcv n dd else qcv n' dd'):=by
  have e1:=q34d d hn hd
  have e2:=q34d d hn' hd'
  simp only [q1sc,q1ru,q1s0,q1s4,q1s8,q1sa,Dt.eval,e1,e2]
  by_cases h:qcv n dd=0
  · simp only [h,show ((0:Int) != 0)=false from rfl,cond_false,ne_eq,not_true_eq_false,if_false]
  · simp only [show (qcv n dd != 0)=true by simpa using h,cond_true,ne_eq,h,not_false_eq_true,if_true]
theorem q34f (d:Nat) (l:List T3) {n dd n' dd':Int} (hn:i64B n=true) (hd:i64B dd=true) (hn':i64B n'=true) (hd':i64B dd'=true):q2r1 d ((l,()),(n,dd,()),(n',dd',()),())=some (chk2 l n dd n' dd'):=by
  have e1:qpm d ((l,()),())=some (qfx (ptsL l)):=qpn _ _ rfl
  have e2:=q34e d hn hd hn' hd'
  have e3:=q32t d n dd n' dd' hn hd hn' hd'
  unfold chk2
  simp only [q2r1,q2pz,q2q5,q2q9,q2qd,q2qh,q2ql,q2qp,q2qr,q2qv,q2qx,q2qz,Dt.eval,e1,e2,e3]
  by_cases h:qfx (ptsL l)=0
  · simp only [h, show ((0 : Int) != 0) = false from rfl, cond_false, ne_eq, not_true_eq_false, if_false]
    by_cases h2:qcv n dd=0
    · simp only [h2, not_true_eq_false, if_false]
      by_cases h3:qcv n' dd'=0
      · simp only [h3, show ((0 : Int) != 0) = false from rfl, cond_false, not_true_eq_false, if_false]
        by_cases h4:0<cmpQ n dd n' dd'
        · simp only [gt_iff_lt,h4,decide_true,cond_true,if_true]
        · simp only [gt_iff_lt,h4,decide_false,cond_false,if_false]
      · simp only [show (qcv n' dd' != 0)=true by simpa using h3,cond_true,h3,not_false_eq_true,if_true]
    · simp only [show (qcv n dd != 0)=true by simpa using h2,cond_true,h2,not_false_eq_true,if_true]
  · simp only [show (qfx (ptsL l) != 0)=true by simpa using h,cond_true,ne_eq,h,not_false_eq_true,if_true]
theorem q34i {a:Int} (h:-9223372036854775808≤a∧a≤9223372036854775807):i64B a=true:=by
  unfold i64B;simp only [Bool.and_eq_true,decide_eq_true_eq];exact h
end Go.Proofs.YtpfhgnccpiildaaGreat

namespace Go.Pel
open Go Go.Tx
theorem q34k {α:Type} {p:α→Bool}:∀ {L:List α},(L.Pairwise fun a b=>p a=true→p b=true)→L.filter p=L.drop (L.findIdx p)
  | [],_=>rfl
  | x :: xs, h => by
    obtain ⟨h1,h2⟩:=List.pairwise_cons.1 h
    rw [List.findIdx_cons]
    cases hp:p x with
    | true =>
      rw [cond_true,List.drop_zero,List.filter_eq_self]
      intro y hy
      rcases List.mem_cons.1 hy with rfl | hy
      · exact hp
      · exact h1 y hy hp
    | false =>
      rw [cond_false,List.drop_succ_cons,List.filter_cons_of_neg (by rw [hp];decide),q34k h2]
theorem q34l {α:Type} {p:α→Bool}:∀ {L:List α},(L.Pairwise fun a b=>p a=true→p b=true)→L.filter (fun x=>!p x)=L.take (L.findIdx p)
  | [],_=>rfl
  | x :: xs, h => by
    obtain ⟨h1,h2⟩:=List.pairwise_cons.1 h
    rw [List.findIdx_cons]
    cases hp:p x with
    | true =>
      rw [cond_true,List.take_zero,List.filter_eq_nil_iff]
      intro y hy
      rcases List.mem_cons.1 hy with rfl | hy
      · rw [hp];decide
      · rw [h1 y hy hp];decide
    | false =>
      rw [cond_false,List.take_succ_cons,List.filter_cons_of_pos (by rw [hp];decide),q34l h2]
theorem q34m {n dd:Int} (hd:1≤dd) {L:List M4} (hL:∀ x∈L,okM x) (hs:L.Pairwise fun a b=>ltM b a=false):L.Pairwise fun a b=>gtM n dd a=true→gtM n dd b=true:=by
  rw [List.pairwise_iff_getElem] at hs ⊢
  intro i j hi hj hij h
  exact q33r hd hL (List.pairwise_iff_getElem.2 hs) (Nat.le_of_lt hij) (List.getElem?_eq_getElem hi) (List.getElem?_eq_getElem hj) h
def leQ (n dd n' dd':Int):Prop:=n*dd'≤n'*dd
theorem q34n (n dd n' dd':Int):leQ n dd n' dd' ↔ ¬ 0<cmpQ n dd n' dd':=by
  unfold leQ cmpQ cmpZ
  repeat' split
  all_goals omega
theorem q34o {n dd n' dd':Int} (hd:1≤dd) (hd':1≤dd') (hle:leQ n dd n' dd') {x:M4} (hx:okM x) (h:gtM n' dd' x=true):gtM n dd x=true:=by
  have o1:=(qd2 hx).1
  rw [q33q] at h ⊢
  exact q32u hd hd' o1 hle h
theorem q34p {n dd n' dd':Int} (hd:1≤dd) (hd':1≤dd') (hle:leQ n dd n' dd') {L:List M4} (hL:∀ x∈L,okM x):idxM n dd L≤idxM n' dd' L:=by
  unfold idxM
  induction L with
  | nil=>exact Nat.le_refl _
  | cons x xs ih =>
    have:=ih fun y hy=>hL y (List.mem_cons_of_mem _ hy)
    rw [List.findIdx_cons,List.findIdx_cons]
    cases h1:gtM n dd x with
    | true=>rw [cond_true];omega
    | false =>
      cases h2:gtM n' dd' x with
      | true=>rw [q34o hd hd' hle (hL x (List.mem_cons_self ..)) h2] at h1;cases h1
      | false=>rw [cond_false,cond_false];omega
theorem q34q (n dd:Int) (L:List M4):idxM n dd L≤L.length:=List.findIdx_le_length
def cutM (L:List M4) (n dd n' dd':Int):List M4:=(L.take (idxM n' dd' L)).drop (idxM n dd L)
def inM (n dd n' dd':Int) (x:M4):Bool:=gtM n dd x && !gtM n' dd' x
theorem q34r {n dd n' dd':Int} (hd:1≤dd) (hd':1≤dd') (hle:leQ n dd n' dd') {L:List M4} (hL:∀ x∈L,okM x) (hs:L.Pairwise fun a b=>ltM b a=false):L.filter (inM n dd n' dd')=cutM L n dd n' dd':=by
  have e1:L.filter (inM n dd n' dd')=(L.filter fun x=>!gtM n' dd' x).filter (gtM n dd):=by rw [List.filter_filter];rfl
  have e2:=q34l (q34m (n:=n') (dd:=dd') hd' hL hs)
  have hp:(L.take (idxM n' dd' L)).Pairwise fun a b=>gtM n dd a=true→gtM n dd b=true:=(q34m hd hL hs).sublist (List.take_sublist _ _)
  have h3:=q34p hd hd' hle hL
  rw [e1,e2]
  unfold cutM
  rw [show L.findIdx (gtM n' dd')=idxM n' dd' L from rfl,q34k hp,List.findIdx_take]
  congr 1
  unfold idxM at h3 ⊢
  omega
theorem q34s (L:List M4) (n dd n' dd':Int):(cutM L n dd n' dd').length≤L.length:=by unfold cutM;rw [List.length_drop,List.length_take];omega
end Go.Pel
namespace Go.Proofs.YtpfhgnccpiildaaGreat
open Go Go.Tx Go.Pel
theorem q34t {l:List T3} {n dd n' dd':Int} (h:chk2 l n dd n' dd'=0):FldOk l∧qcv n dd=0∧qcv n' dd'=0∧leQ n dd n' dd':=by
  unfold chk2 at h
  by_cases h1:qfx (ptsL l)=0
  · rw [if_neg (by simpa using h1)] at h
    by_cases h2:qcv n dd=0
    · rw [if_neg (by simpa using h2)] at h
      by_cases h3:qcv n' dd'=0
      · rw [if_neg (by simpa using h3)] at h
        by_cases h4:0<cmpQ n dd n' dd'
        · rw [if_pos h4] at h;cases h
        · exact ⟨q33z h1,h2,h3,(q34n ..).2 h4⟩
      · rw [if_pos h3] at h;exact absurd h h3
    · rw [if_pos h2] at h;exact absurd h h2
  · rw [if_pos h1] at h;exact absurd h h1
def allV (l:List T3) (n dd n' dd':Int):List M4×Int:=if chk2 l n dd n' dd'≠0 then ([],chk2 l n dd n' dd') else (cutM (allM l) n dd n' dd',0)
theorem q34u (d:Nat) (hf:5000≤d) (l:List T3) {n dd n' dd':Int} (hn:i64B n=true) (hd:i64B dd=true) (hn':i64B n'=true) (hd':i64B dd'=true):q2d9 d ((l,()),(n,dd,()),(n',dd',()),())=some (allV l n dd n' dd'):=by
  have e1:=q33y d (by omega) l n dd n' dd' hn hd hn' hd'
  unfold allV
  simp only [q2d9,q2cf,q2cl,q2cp,q2ct,q2cx,q2d1,q2d5,q2d7,Dt.eval,e1]
  by_cases h:chk2 l n dd n' dd'=0
  · obtain ⟨hok, h2, h3, h4⟩ := q34t h
    have e2:=q33p d (by omega) hok
    have e3:=q33v d hf (q340 hok) (q33c hok) (q33d hok) hn hd h2
    have e4:=q33v d hf (q340 hok) (q33c hok) (q33d hok) hn' hd' h3
    have hle:=q34p (qd2 h2).1 (qd2 h3).1 h4 fun x hx=>(q340 hok x hx).ok
    have hln:=q34q n' dd' (allM l)
    have hc:q3i (idxM n dd (allM l):Int) (idxM n' dd' (allM l):Int) (idxM n' dd' (allM l):Int) (allM l).length=true:=by
      unfold q3i;simp only [Bool.and_eq_true,decide_eq_true_eq];omega
    simp only [h,show ((0:Int) != 0)=false from rfl,cond_false,Dt.eval,e2,e3,e4,ne_eq,not_true_eq_false,if_false,hc,cond_true,Int.toNat_natCast]
    rfl
  · have hb : (chk2 l n dd n' dd' != 0) = true := by simpa using h
    simp only [hb,cond_true,ne_eq,h,not_false_eq_true,if_true]
end Go.Proofs.YtpfhgnccpiildaaGreat

namespace Go.Tx
end Go.Tx
namespace Go.Proofs.YtpfhgnccpiildaaGreat
open Go Go.Tx Go.Pel
theorem q34x (d:Nat) {p q:T3} (hp:okP p) (hq:okP q) (hi:p.1≠q.1) {n dd:Int} (hn:i64B n=true) (hd:i64B dd=true) (hr:qcv n dd=0):qov d ((p.1,p.2.1,p.2.2.1,()),(q.1,q.2.1,q.2.2.1,()),(n,dd,()),())=some (leads (ofP p) (ofP q) n dd,0):=by
  rw [qow _ _ (by unfold qou;simp only [hn,hd,Bool.and_self])]
  have h:qkn (ofP p) (ofP q) n dd=0:=qkq ⟨hp,hq,hr⟩ hi
  show some ((qks (ofP p) (ofP q) n dd).1,(qks (ofP p) (ofP q) n dd).2)=_
  unfold qks
  rw [if_pos h]
def swP (n dd n' dd':Int) (x:T3×T3):Bool:=!(leads (ofP x.1) (ofP x.2) n dd == leads (ofP x.1) (ofP x.2) n' dd')
theorem q351 (l:List T3):toPs (ptsL l)=l:=by
  unfold toPs ptsL
  rw [List.map_map]
  exact List.map_id _
end Go.Proofs.YtpfhgnccpiildaaGreat

namespace Go.Pel
open Go Go.Tx
theorem q353 {a b c d1 d2 d3:Int} (h1:1≤d1) (h2:1≤d2) (h3:1≤d3) (h:leQ a d1 b d2) (k:leQ b d2 c d3):leQ a d1 c d3:=q_le h1 h2 h3 h k
theorem q2d {α:Type} {L:List α} {f t:Nat} (h1:f<t):((L.take t).drop f)[0]?=L[f]?:=by
  rw [List.getElem?_drop,Nat.add_zero,List.getElem?_take,if_pos h1]
end Go.Pel
namespace Go.Proofs.YtpfhgnccpiildaaGreat
open Go Go.Tx Go.Pel
theorem q357 {l:List T3} {n dd n' dd':Int} (h:chk2 l n dd n' dd'=0):qfx (ptsL l)=0:=by
  unfold chk2 at h
  by_cases h1:qfx (ptsL l)=0
  · exact h1
  · rw [if_pos h1] at h;exact absurd h h1
end Go.Proofs.YtpfhgnccpiildaaGreat

namespace Go.Pel
open Go Go.Tx
def anyO {β:Type} (P:β→Bool):Option β→Bool
  | some m=>P m
  | none=>false
theorem q358 {n d:Int} (hd:d≠0) (hn:n.natAbs≤4194304) (hd2:d.natAbs≤4194304):(mk n d).1*d=n*(mk n d).2.1:=by
  have hg:=qdr (n:=n) hd
  rw [qdq hd]
  have b1:n.natAbs / Nat.gcd n.natAbs d.natAbs≤n.natAbs:=Nat.div_le_self _ _
  have b2:d.natAbs / Nat.gcd n.natAbs d.natAbs≤d.natAbs:=Nat.div_le_self _ _
  have e1:Nat.gcd n.natAbs d.natAbs*(n.natAbs / Nat.gcd n.natAbs d.natAbs)=n.natAbs:=Nat.mul_div_cancel' (Nat.gcd_dvd_left _ _)
  have e2:Nat.gcd n.natAbs d.natAbs*(d.natAbs / Nat.gcd n.natAbs d.natAbs)=d.natAbs:=Nat.mul_div_cancel' (Nat.gcd_dvd_right _ _)
  have e3:=(fun (G A B N D:Nat) (k1:G*A=N) (k2:G*B=D)=>(by subst k1 k2;rw [Nat.mul_left_comm,Nat.mul_assoc]:A*D=N*B)) _ _ _ _ _ e1 e2
  generalize n.natAbs / Nat.gcd n.natAbs d.natAbs=A at *
  generalize d.natAbs / Nat.gcd n.natAbs d.natAbs=B at *
  have e4:(A:Int)*(d.natAbs:Int)=(n.natAbs:Int)*(B:Int):=by exact_mod_cast e3
  have hno:¬ (0<0∨9223372036854775807<A∨0<0∨9223372036854775807<B):=by omega
  by_cases h1:n<0<;>by_cases h2:d<0
  · rw [show (decide (n < 0) != decide (d < 0)) = false by simp [h1, h2], qdn hno]
    rw [show (d.natAbs:Int)=-d by omega,show (n.natAbs:Int)=-n by omega,Int.mul_neg,Int.neg_mul] at e4
    show (A:Int)*d=n*(B:Int)
    omega
  · rw [show (decide (n < 0) != decide (d < 0)) = true by simp [h1, h2], qdm hno]
    rw [show (d.natAbs:Int)=d by omega,show (n.natAbs:Int)=-n by omega,Int.neg_mul] at e4
    show -(A:Int)*d=n*(B:Int)
    rw [Int.neg_mul];omega
  · rw [show (decide (n < 0) != decide (d < 0)) = true by simp [h1, h2], qdm hno]
    rw [show (d.natAbs:Int)=-d by omega,show (n.natAbs:Int)=n by omega,Int.mul_neg] at e4
    show -(A:Int)*d=n*(B:Int)
    rw [Int.neg_mul];omega
  · rw [show (decide (n < 0) != decide (d < 0)) = false by simp [h1, h2], qdn hno]
    rw [show (d.natAbs:Int)=d by omega,show (n.natAbs:Int)=n by omega] at e4
    exact e4
theorem q359 {F D B X:Int} (hD:0<D) (hB:0<B) (h:F*D=B*X):(0<F↔0<X)∧(F=0↔X=0):=by
  have f:(0<F∧0<F*D)∨(F=0∧F*D=0)∨(F<0∧F*D<0):=by
    rcases (by omega:0<F∨F=0∨F<0) with k | k | k
    · exact .inl ⟨k,Int.mul_pos k hD⟩
    · exact .inr (.inl ⟨k,by rw [k,Int.zero_mul]⟩)
    · exact .inr (.inr ⟨k,Int.mul_neg_of_neg_of_pos k hD⟩)
  have g:(0<X∧0<B*X)∨(X=0∧B*X=0)∨(X<0∧B*X<0):=by
    rcases (by omega:0<X∨X=0∨X<0) with k | k | k
    · exact .inl ⟨k,Int.mul_pos hB k⟩
    · exact .inr (.inl ⟨k,by rw [k,Int.mul_zero]⟩)
    · exact .inr (.inr ⟨k,Int.mul_neg_of_pos_of_neg hB k⟩)
  generalize F*D=U at *
  generalize B*X=V at *
  omega
theorem q35a {F D B X:Int} (hD:0<D) (hB:B<0) (h:F*D=B*X):(0<F↔X<0)∧(F=0↔X=0):=by
  have:=q359 (F:=F) (B:=-B) (X:=-X) hD (by omega) (by rw [Int.neg_mul_neg];exact h)
  omega
theorem q35b {p q:Pt} {n d:Int}:leads p q n d=true↔0<farD p q n d∨(farD p q n d=0∧(q.b<p.b∨(p.b=q.b∧p.id<q.id))):=by
  unfold leads
  by_cases h:farD p q n d=0
  · rw [if_neg (by omega)]
    by_cases hb:p.b=q.b
    · rw [if_neg (by omega),decide_eq_true_eq];omega
    · rw [if_pos hb,decide_eq_true_eq];omega
  · rw [if_pos h,decide_eq_true_eq];omega
theorem q35c {p:T3} (h:okP p):0≤p.1∧p.1≤65535∧-1048576≤p.2.1∧p.2.1≤1048576∧-1048576≤p.2.2.1∧p.2.2.1≤1048576:=qdd (show qd9 p.1 p.2.1 p.2.2.1=0 from h)
theorem q35d {x:T3×T3} (hp:okP x.1) (hq:okP x.2) {m:M4} (h:mtP x=some m):x.1.2.2.1≠x.2.2.2.1∧okM m∧m.1.natAbs≤4194304∧m.2.1≤4194304∧m.2.2.1=x.1.1∧m.2.2.2.1=x.2.1∧(x.1.2.1 - x.2.2.1)*m.2.1+(x.1.2.2.1 - x.2.2.2.1)*m.1=0:=by
  obtain ⟨_,_,a1,a2,a3,a4⟩:=q35c hp
  obtain ⟨_,_,b1,b2,b3,b4⟩:=q35c hq
  unfold mtP at h
  by_cases hb:x.1.2.2.1=x.2.2.2.1
  · rw [if_pos hb] at h;cases h
  · rw [if_neg hb] at h
    injection h with h
    subst h
    obtain ⟨_,h2,h3,h4⟩:=q333 (n:=x.1.2.1 - x.2.2.1) (d:=x.2.2.2.1 - x.1.2.2.1) (by omega) (by omega) (by omega)
    have h5:=q358 (n:=x.1.2.1 - x.2.2.1) (d:=x.2.2.2.1 - x.1.2.2.1) (by omega) (by omega) (by omega)
    refine ⟨hb,h2,h3,h4,rfl,rfl,?_⟩
    show (x.1.2.1 - x.2.2.1)*(mk (x.1.2.1 - x.2.2.1) (x.2.2.2.1 - x.1.2.2.1)).2.1+(x.1.2.2.1 - x.2.2.2.1)*(mk (x.1.2.1 - x.2.2.1) (x.2.2.2.1 - x.1.2.2.1)).1=0
    rw [← h5,Int.mul_comm (x.1.2.2.1 - x.2.2.2.1),← Int.mul_add,show x.2.2.2.1 - x.1.2.2.1+(x.1.2.2.1 - x.2.2.2.1)=0 by omega,Int.mul_zero]
theorem q35e {x:T3×T3} (hp:okP x.1) (hq:okP x.2) {m:M4} (h:mtP x=some m) {n dd:Int}:leads (ofP x.1) (ofP x.2) n dd=(if x.2.2.2.1<x.1.2.2.1 then !gtM n dd m else gtM n dd m):=by
  obtain ⟨hb,hm,_,_,_,_,e⟩:=q35d hp hq h
  have hD:=(qd2 hm).1
  have key:farD (ofP x.1) (ofP x.2) n dd*m.2.1=(x.1.2.2.1 - x.2.2.2.1)*(n*m.2.1 - m.1*dd):=by
    show ((x.1.2.1 - x.2.2.1)*dd+(x.1.2.2.1 - x.2.2.2.1)*n)*m.2.1=_
    rw [Int.add_mul,Int.mul_sub,Int.mul_right_comm (x.1.2.1 - x.2.2.1),show (x.1.2.1 - x.2.2.1)*m.2.1=-((x.1.2.2.1 - x.2.2.2.1)*m.1) by omega,Int.neg_mul,Int.mul_assoc,Int.mul_assoc]
    omega
  have hg:=q33q n dd m
  have hl:=q35b (p:=ofP x.1) (q:=ofP x.2) (n:=n) (d:=dd)
  have hbb:(ofP x.2).b<(ofP x.1).b↔x.2.2.2.1<x.1.2.2.1:=Iff.rfl
  have hbe:(ofP x.1).b=(ofP x.2).b↔x.1.2.2.1=x.2.2.2.1:=Iff.rfl
  by_cases hlt:x.2.2.2.1<x.1.2.2.1
  · obtain ⟨s1, s2⟩ := q359 (by omega : 0 < m.2.1) (by omega : 0 < x.1.2.2.1 - x.2.2.2.1) key
    rw [if_pos hlt]
    cases h1:gtM n dd m with
    | true =>
      rw [h1] at hg
      have:=hg.1 rfl
      cases h2:leads (ofP x.1) (ofP x.2) n dd with
      | false=>rfl
      | true=>rw [h2] at hl;have:=hl.1 rfl;omega
    | false =>
      rw [h1] at hg
      have:¬ n*m.2.1<m.1*dd:=fun k=>by cases hg.2 k
      exact hl.2 (by omega)
  · obtain ⟨s1, s2⟩ := q35a (by omega : 0 < m.2.1) (by omega : x.1.2.2.1 - x.2.2.2.1 < 0) key
    rw [if_neg hlt]
    cases h1:gtM n dd m with
    | true =>
      rw [h1] at hg
      have:=hg.1 rfl
      exact hl.2 (by omega)
    | false =>
      rw [h1] at hg
      have:¬ n*m.2.1<m.1*dd:=fun k=>by cases hg.2 k
      cases h2:leads (ofP x.1) (ofP x.2) n dd with
      | false=>rfl
      | true=>rw [h2] at hl;have:=hl.1 rfl;omega
theorem q35f {p q:T3} (hb:p.2.2.1=q.2.2.1) {n dd n' dd':Int} (hd:1≤dd) (hd':1≤dd'):leads (ofP p) (ofP q) n dd=leads (ofP p) (ofP q) n' dd':=by
  have f:∀ {n d:Int},1≤d→(0<farD (ofP p) (ofP q) n d↔0<p.2.1 - q.2.1)∧(farD (ofP p) (ofP q) n d=0↔p.2.1 - q.2.1=0):=fun {n d} h=>by
    have e:farD (ofP p) (ofP q) n d=(p.2.1 - q.2.1)*d:=by
      show (p.2.1 - q.2.1)*d+(p.2.2.1 - q.2.2.1)*n=_
      rw [hb,Int.sub_self,Int.zero_mul,Int.add_zero]
    have:=q359 (F:=p.2.1 - q.2.1) (D:=d) (B:=1) (X:=farD (ofP p) (ofP q) n d) (by omega) (by omega) (by rw [e,Int.one_mul])
    omega
  obtain ⟨f1,f2⟩:=f (n:=n) hd
  obtain ⟨g1,g2⟩:=f (n:=n') hd'
  rw [Bool.eq_iff_iff,q35b,q35b]
  have hbb:(ofP p).b=(ofP q).b:=hb
  omega
theorem q35g {x:T3×T3} (hp:okP x.1) (hq:okP x.2) {n dd n' dd':Int} (hd:1≤dd) (hd':1≤dd') (hle:leQ n dd n' dd'):(!(leads (ofP x.1) (ofP x.2) n dd == leads (ofP x.1) (ofP x.2) n' dd'))=anyO (inM n dd n' dd') (mtP x):=by
  cases h:mtP x with
  | none =>
    have hb:x.1.2.2.1=x.2.2.2.1:=by
      unfold mtP at h
      by_cases hb:x.1.2.2.1=x.2.2.2.1
      · exact hb
      · rw [if_neg hb] at h;cases h
    rw [q35f hb hd hd',beq_self_eq_true];rfl
  | some m =>
    have hm:=(q35d hp hq h).2.1
    rw [q35e hp hq h,q35e hp hq h]
    show _=(gtM n dd m && !gtM n' dd' m)
    have hi:gtM n' dd' m=true→gtM n dd m=true:=q34o hd hd' hle hm
    by_cases hlt:x.2.2.2.1<x.1.2.2.1
    · rw [if_pos hlt, if_pos hlt]
      cases h1:gtM n dd m<;>cases h2:gtM n' dd' m
      · rfl
      · rw [hi h2] at h1;cases h1
      · rfl
      · rfl
    · rw [if_neg hlt, if_neg hlt]
      cases h1:gtM n dd m<;>cases h2:gtM n' dd' m
      · rfl
      · rw [hi h2] at h1;cases h1
      · rfl
      · rfl
theorem q35h {α β:Type} {f:α→Option β} {P:β→Bool}:∀ l:List α,(l.filterMap f).countP P=l.countP (fun x=>anyO P (f x))
  | []=>rfl
  | a :: l => by
    rw [List.filterMap_cons,List.countP_cons,← q35h l]
    cases h:f a with
    | none=>simp [anyO]
    | some b=>rw [List.countP_cons];rfl
theorem q35i {α:Type}:∀ {l:List α} {x:α×α},x∈qwo l→∃ i j:Nat,i<j∧l[i]?=some x.1∧l[j]?=some x.2
  | [],x,h=>by cases h
  | p :: r, x, h => by
    rw [qwo,List.mem_append,List.mem_map] at h
    rcases h with ⟨q,hq,rfl⟩ | h
    · obtain ⟨j, hj, rfl⟩ := List.mem_iff_getElem.1 hq
      exact ⟨0,j+1,by omega,rfl,by simp⟩
    · obtain ⟨i, j, h1, h2, h3⟩ := q35i h
      exact ⟨i+1,j+1,by omega,by simpa using h2,by simpa using h3⟩
theorem q35l {l:List T3} (h:FldOk l) {m:M4} (hm:m∈allM l):∃ (i j:Nat) (p q:T3),i<j∧l[i]?=some p∧l[j]?=some q∧mtP (p,q)=some m:=by
  have:=(q33a l).mem_iff.1 hm
  unfold q334 at this
  obtain ⟨x,hx,hxm⟩:=List.mem_filterMap.1 this
  obtain ⟨i,j,h1,h2,h3⟩:=q35i hx
  exact ⟨i,j,x.1,x.2,h1,h2,h3,hxm⟩
end Go.Pel
namespace Go.Proofs.YtpfhgnccpiildaaGreat
open Go Go.Tx Go.Pel
theorem q35n {l:List T3} (h:FldOk l) {n dd n' dd':Int} (hd:1≤dd) (hd':1≤dd') (hle:leQ n dd n' dd'):(qwo l).countP (swP n dd n' dd')=(cutM (allM l) n dd n' dd').length:=by
  rw [← q34r hd hd' hle (fun x hx=>(q33b h hx).1) (q33d h),← List.countP_eq_length_filter,(q33a l).countP_eq]
  unfold q334
  rw [q35h]
  refine List.countP_congr fun x hx=>?_
  obtain ⟨g1,g2,_⟩:=q335 hx h.inc
  exact Bool.eq_iff_iff.1 (q35g (h.ok _ g1) (h.ok _ g2) hd hd' hle)
end Go.Proofs.YtpfhgnccpiildaaGreat

namespace Go.Pel
open Go Go.Tx
theorem q35o (p:Pt) (n d:Int):leads p p n d=false:=by
  cases h:leads p p n d with
  | false=>rfl
  | true =>
    have:=q35b.1 h
    have e:farD p p n d=0:=by unfold farD;rw [Int.sub_self,Int.sub_self,Int.zero_mul,Int.zero_mul];rfl
    omega
theorem q35p {p q:Pt} {n d:Int} (hi:p.id≠q.id):leads q p n d=!leads p q n d:=by
  have e:farD q p n d=-farD p q n d:=by
    unfold farD
    rw [show q.a - p.a=-(p.a - q.a) by omega,show q.b - p.b=-(p.b - q.b) by omega,Int.neg_mul,Int.neg_mul]
    omega
  have h1:=q35b (p:=p) (q:=q) (n:=n) (d:=d)
  have h2:=q35b (p:=q) (q:=p) (n:=n) (d:=d)
  cases k1:leads p q n d<;>cases k2:leads q p n d
  · rw [k1] at h1; rw [k2] at h2
    have a1:¬ (0<farD p q n d∨(farD p q n d=0∧(q.b<p.b∨(p.b=q.b∧p.id<q.id)))):=fun k=>by cases h1.2 k
    have a2:¬ (0<farD q p n d∨(farD q p n d=0∧(p.b<q.b∨(q.b=p.b∧q.id<p.id)))):=fun k=>by cases h2.2 k
    omega
  · rfl
  · rfl
  · have a1 := h1.1 k1
    have a2:=h2.1 k2
    omega
theorem q35q {α:Type}:∀ {l:List α} {i j:Nat} {p q:α},i<j→l[i]?=some p→l[j]?=some q→(p,q)∈qwo l
  | [],i,j,p,q,_,h,_=>by simp at h
  | x :: r, 0, j + 1, p, q, _, h1, h2 => by
    rw [qwo,List.mem_append,List.mem_map]
    simp only [List.getElem?_cons_zero,Option.some.injEq] at h1
    rw [List.getElem?_cons_succ] at h2
    exact .inl ⟨q,List.mem_of_getElem? h2,by rw [h1]⟩
  | x :: r, i + 1, j + 1, p, q, h, h1, h2 => by
    rw [qwo,List.mem_append]
    rw [List.getElem?_cons_succ] at h1 h2
    exact .inr (q35q (by omega) h1 h2)
theorem q35r {l:List T3} {i j:Nat} {p q:T3} (h:i<j) (hp:l[i]?=some p) (hq:l[j]?=some q) {m:M4} (hm:mtP (p,q)=some m):m∈allM l:=by
  rw [(q33a l).mem_iff]
  unfold q334
  exact List.mem_filterMap.2 ⟨_,q35q h hp hq,hm⟩
theorem q35t {l:List T3} (h:FldOk l) {i j:Nat} {p q:T3} (hij:i<j) (hp:l[i]?=some p) (hq:l[j]?=some q):p.1<q.1:=by
  obtain ⟨h1,rfl⟩:=List.getElem?_eq_some_iff.1 hp
  obtain ⟨h2,rfl⟩:=List.getElem?_eq_some_iff.1 hq
  exact (List.pairwise_iff_getElem.1 h.inc) i j h1 h2 hij
theorem q35w {l:List T3} {P:Pt} (h:P∈ptsL l):∃ p∈l,ofP p=P:=List.mem_map.1 h
theorem q35y {l:List T3} (h:FldOk l) (h0:qfx (ptsL l)=0) {p:T3} (hp:p∈l):qgf (ptsL l) p.1=(ofP p,0):=by
  have hb:hasB (ptsL l) p.1=true:=by
    unfold hasB
    rw [List.any_eq_true]
    exact ⟨ofP p,List.mem_map_of_mem hp,decide_eq_true rfl⟩
  obtain ⟨_,P,h1,h2⟩:=qge (qg2 h0).2.2 hb
  unfold qgf
  rw [if_neg (by simpa using h0),if_pos hb,List.getD_eq_getElem?_getD,h1]
  unfold ptsL at h1
  rw [List.getElem?_map] at h1
  cases hq:l[lowB (List.map ofP l) p.1]? with
  | none=>rw [hq] at h1;cases h1
  | some q =>
    rw [hq] at h1
    injection h1 with h1
    subst h1
    obtain ⟨i,hi⟩:=List.mem_iff_getElem?.1 hp
    have h2:q.1=p.1:=h2
    rcases (by omega:i<lowB (List.map ofP l) p.1∨i=lowB (List.map ofP l) p.1∨lowB (List.map ofP l) p.1<i) with k | k | k
    · have:=q35t h k hi hq;omega
    · rw [← k,hi] at hq;injection hq with hq;subst hq;rfl
    · have:=q35t h k hq hi;omega
end Go.Pel
namespace Go.Proofs.YtpfhgnccpiildaaGreat
open Go Go.Tx Go.Pel
theorem q360 (d:Nat) {l:List T3} (hl:l.length≤64) (h0:qfx (ptsL l)=0) {n dd:Int} (hn:i64B n=true) (hd:i64B dd=true) (hr:qcv n dd=0):qwb d ((l,()),(n,dd,()),())=some (unI ((ordI n dd (ptsL l)).map Pt.id),0):=by
  rw [qwc _ _ (by unfold qwa;simp only [hn,hd,Bool.and_self,Bool.true_and,decide_eq_true_eq];rw [qil];omega)]
  have e:quq (ptsL l) n dd=((ordI n dd (ptsL l)).map Pt.id,0):=by unfold quq;rw [if_neg (by simpa using h0),if_neg (by simpa using hr)]
  show some (unI (quq (ptsL l) n dd).1,(quq (ptsL l) n dd).2)=_
  rw [e]
theorem q361 (d:Nat) {l:List T3} (h:FldOk l) (h0:qfx (ptsL l)=0) {p:T3} (hp:p∈l):qvk d ((l,()),(p.1,()),())=some (p.1,p.2.1,p.2.2.1,0):=by
  rw [qvl _ _ rfl]
  show some ((qgf (ptsL l) p.1).1.id,(qgf (ptsL l) p.1).1.a,(qgf (ptsL l) p.1).1.b,(qgf (ptsL l) p.1).2)=_
  rw [q35y h h0 hp]
  rfl
end Go.Proofs.YtpfhgnccpiildaaGreat

namespace Go.Pel
open Go Go.Tx
def Lead (l:List T3) (n dd:Int) (p:T3):Prop:=p∈l∧∀ q∈l,leads (ofP q) (ofP p) n dd=false
theorem q362 {l:List T3} (h:FldOk l) {p q:T3} (hp:p∈l) (hq:q∈l) (hi:p.1=q.1):p=q:=by
  obtain ⟨i,hi'⟩:=List.mem_iff_getElem?.1 hp
  obtain ⟨j,hj⟩:=List.mem_iff_getElem?.1 hq
  rcases (by omega:i<j∨i=j∨j<i) with k | k | k
  · have:=q35t h k hi' hj;omega
  · subst k;rw [hi'] at hj;exact Option.some.inj hj
  · have:=q35t h k hj hi';omega
theorem Lead.uniq {l:List T3} (h:FldOk l) {n dd:Int} {p q:T3} (hp:Lead l n dd p) (hq:Lead l n dd q):p=q:=by
  by_cases hi:p.1=q.1
  · exact q362 h hp.1 hq.1 hi
  · have h1 := hp.2 q hq.1
    have h2:=hq.2 p hp.1
    rw [q35p (p:=ofP p) (q:=ofP q) hi,h2] at h1
    cases h1
theorem Lead.ahead {l:List T3} (h:FldOk l) {n dd:Int} {p q:T3} (hp:Lead l n dd p) (hq:q∈l) (hne:q.1≠p.1):leads (ofP p) (ofP q) n dd=true:=by
  rw [q35p (p:=ofP q) (q:=ofP p) hne,hp.2 q hq];rfl
def ldT (l:List T3) (n dd:Int):T3:=toP ((ordI n dd (ptsL l)).headD Pt.zero)
theorem q363 {l:List T3} (hl:l ≠ []) (n dd:Int):Lead l n dd (ldT l n dd):=by
  have hp:=qur n dd (ptsL l)
  have hpw:=qut n dd (ptsL l)
  unfold Lead ldT
  cases ho:ordI n dd (ptsL l) with
  | nil =>
    rw [ho] at hp
    have:=hp.length_eq
    rw [qil] at this
    exact absurd (List.eq_nil_of_length_eq_zero this.symm) hl
  | cons P r =>
    rw [ho] at hp hpw
    obtain ⟨p,hpl,rfl⟩:=q35w (hp.mem_iff.1 (List.mem_cons_self ..))
    show toP (ofP p)∈l∧∀ q∈l,leads (ofP q) (ofP (toP (ofP p))) n dd=false
    rw [show toP (ofP p)=p from rfl]
    refine ⟨hpl,fun q hq=>?_⟩
    have hq2:ofP q∈ofP p :: r:=hp.mem_iff.2 (List.mem_map_of_mem hq)
    rcases List.mem_cons.1 hq2 with e | hr
    · rw [e];exact q35o _ _ _
    · exact (List.pairwise_cons.1 hpw).1 _ hr
theorem q364 {l:List T3} (hl:l ≠ []) (n dd:Int):∃ r,(ordI n dd (ptsL l)).map Pt.id=(ldT l n dd).1 :: r:=by
  have hp:=qur n dd (ptsL l)
  unfold ldT
  cases ho:ordI n dd (ptsL l) with
  | nil =>
    rw [ho] at hp
    have:=hp.length_eq
    rw [qil] at this
    exact absurd (List.eq_nil_of_length_eq_zero this.symm) hl
  | cons P r=>exact ⟨r.map Pt.id,rfl⟩
theorem q365 {p q:T3} (hb:p.2.2.1≠q.2.2.1):∃ m,mtP (p,q)=some m:=by
  unfold mtP
  simp only [hb,if_false]
  exact ⟨_,rfl⟩
theorem q366 {p q:T3} (hp:okP p) (hq:okP q) {n dd n' dd':Int} (hd:1≤dd) (hd':1≤dd') (hle:leQ n dd n' dd') (hb:¬ p.2.2.1<q.2.2.1) (h:leads (ofP p) (ofP q) n dd=true):leads (ofP p) (ofP q) n' dd'=true:=by
  by_cases he:p.2.2.1=q.2.2.1
  · rw [← q35f he hd hd'];exact h
  · obtain ⟨m, hm⟩ := q365 he
    have k1:=q35e (x:=(p,q)) hp hq hm (n:=n) (dd:=dd)
    have k2:=q35e (x:=(p,q)) hp hq hm (n:=n') (dd:=dd')
    simp only [show q.2.2.1<p.2.2.1 by omega,if_true] at k1 k2
    rw [h] at k1
    rw [k2]
    cases hg:gtM n' dd' m with
    | false=>rfl
    | true =>
      rw [q34o hd hd' hle (q35d (x:=(p,q)) hp hq hm).2.1 hg] at k1
      cases k1
theorem q367 {p q:T3} (hp:okP p) (hq:okP q) (hb:p.2.2.1<q.2.2.1) {m:M4} (hm:mtP (p,q)=some m) (n dd:Int):leads (ofP p) (ofP q) n dd=gtM n dd m:=by
  have k1:=q35e (x:=(p,q)) hp hq hm (n:=n) (dd:=dd)
  simp only [show ¬ q.2.2.1<p.2.2.1 by omega,if_false] at k1
  exact k1
def q368 (l:List T3) (p:T3):Prop:=∀ q∈l,¬ p.2.2.1<q.2.2.1
def Nxt (l:List T3) (p:T3) (n dd:Int):Prop:=(∃ q∈l,∃ m,p.2.2.1<q.2.2.1∧mtP (p,q)=some m∧m.1=n∧m.2.1=dd)∧∀ q∈l,∀ m,p.2.2.1<q.2.2.1→mtP (p,q)=some m→¬ m.1*dd<n*m.2.1
theorem Nxt.ok {l:List T3} (h:FldOk l) {p:T3} (hp:p∈l) {n dd:Int} (k:Nxt l p n dd):qcv n dd=0∧n.natAbs≤4194304∧dd≤4194304:=by
  obtain ⟨q,hq,m,hb,hm,rfl,rfl⟩:=k.1
  obtain ⟨_,h1,h2,h3,_⟩:=q35d (x:=(p,q)) (h.ok p hp) (h.ok q hq) hm
  exact ⟨h1,h2,h3⟩
theorem Nxt.uniq {l:List T3} (h:FldOk l) {p:T3} (hp:p∈l) {n dd n' dd':Int} (k:Nxt l p n dd) (k':Nxt l p n' dd'):n=n'∧dd=dd':=by
  obtain ⟨q,hq,m,hb,hm,rfl,rfl⟩:=k.1
  obtain ⟨q',hq',m',hb',hm',rfl,rfl⟩:=k'.1
  have h1:=k.2 q' hq' m' hb' hm'
  have h2:=k'.2 q hq m hb hm
  exact q_eq (q35d (x:=(p,q)) (h.ok p hp) (h.ok q hq) hm).2.1 (q35d (x:=(p,q')) (h.ok p hp) (h.ok q' hq') hm').2.1 (by omega)
theorem Nxt.not {l:List T3} {p:T3} {n dd:Int} (k:Nxt l p n dd) (k':q368 l p):False:=by
  obtain ⟨q,hq,m,hb,_⟩:=k.1
  exact k' q hq hb
theorem q369 {l:List T3} (h:FldOk l) {p:T3} {n dd n' dd':Int} (hd:1≤dd) (hd':1≤dd') (hle:leQ n dd n' dd') (hp:Lead l n dd p) (hmin:∀ q∈l,∀ m,p.2.2.1<q.2.2.1→mtP (p,q)=some m→¬ m.1*dd'<n'*m.2.1) {q:T3} (hq:q∈l):q.2.1*dd'+q.2.2.1*n'≤p.2.1*dd'+p.2.2.1*n':=by
  have hpo:=h.ok p hp.1
  have hqo:=h.ok q hq
  by_cases hi:q.1=p.1
  · rw [q362 h hq hp.1 hi];exact Int.le_refl _
  · have ha := hp.ahead h hq hi
    by_cases hb:p.2.2.1<q.2.2.1
    · obtain ⟨m, hm⟩ := q365 (p := p) (q := q) (by omega)
      have k:=hmin q hq m hb hm
      obtain ⟨_,hmo,_,_,_,_,e⟩:=q35d (x:=(p,q)) hpo hqo hm
      have hl:=q367 hpo hqo hb hm n' dd'
      cases hg:gtM n' dd' m with
      | true =>
        rw [hg] at hl
        rcases (qup ..).1 hl with k1 | ⟨k1,k2⟩
        · have : q.2.1 * dd' + q.2.2.1 * n' < p.2.1 * dd' + p.2.2.1 * n' := k1
          omega
        · have : q.2.1 * dd' + q.2.2.1 * n' = p.2.1 * dd' + p.2.2.1 * n' := k1
          omega
      | false =>
        -- the meeting is at the time itself
        have hg':¬ n'*m.2.1<m.1*dd':=fun k=>by rw [(q33q n' dd' m).2 k] at hg;cases hg
        have hD:=(qd2 hmo).1
        have key:farD (ofP p) (ofP q) n' dd'*m.2.1=(p.2.2.1 - q.2.2.1)*(n'*m.2.1 - m.1*dd'):=by
          show ((p.2.1 - q.2.1)*dd'+(p.2.2.1 - q.2.2.1)*n')*m.2.1=_
          simp only at e
          rw [Int.add_mul,Int.mul_sub,Int.mul_right_comm (p.2.1 - q.2.1),show (p.2.1 - q.2.1)*m.2.1=-((p.2.2.1 - q.2.2.1)*m.1) by omega,Int.neg_mul,Int.mul_assoc,Int.mul_assoc]
          omega
        rw [show n'*m.2.1 - m.1*dd'=0 by omega,Int.mul_zero] at key
        have hz:farD (ofP p) (ofP q) n' dd'=0:=by
          rcases Int.mul_eq_zero.1 key with k | k
          · exact k
          · omega
        have:farD (ofP p) (ofP q) n' dd'=(p.2.1*dd'+p.2.2.1*n') - (q.2.1*dd'+q.2.2.1*n'):=by
          show (p.2.1 - q.2.1)*dd'+(p.2.2.1 - q.2.2.1)*n'=_
          rw [Int.sub_mul,Int.sub_mul];omega
        omega
    · have hl := q366 hpo hqo hd hd' hle hb ha
      rcases (qup ..).1 hl with k1 | ⟨k1,k2⟩
      · have : q.2.1 * dd' + q.2.2.1 * n' < p.2.1 * dd' + p.2.2.1 * n' := k1
        omega
      · have : q.2.1 * dd' + q.2.2.1 * n' = p.2.1 * dd' + p.2.2.1 * n' := k1
        omega
theorem q36a {p q:T3} (hp:okP p) (hq:okP q) {m:M4} (hm:mtP (p,q)=some m):q.2.1*m.2.1+q.2.2.1*m.1=p.2.1*m.2.1+p.2.2.1*m.1:=by
  obtain ⟨_,_,_,_,_,_,e⟩:=q35d (x:=(p,q)) hp hq hm
  simp only at e
  rw [Int.sub_mul,Int.sub_mul] at e
  omega
theorem q36b {l:List T3} (h:FldOk l) {p q:T3} {n dd:Int} (hp:Lead l n dd p) (hq:q∈l) (hb:p.2.2.1<q.2.2.1) {m:M4} (hm:mtP (p,q)=some m):gtM n dd m=true:=by
  have hi:q.1≠p.1:=fun hi=>by rw [q362 h hq hp.1 hi] at hb;omega
  rw [← q367 (h.ok p hp.1) (h.ok q hq) hb hm]
  exact hp.ahead h hq hi
theorem q36c {n dd:Int} {m:M4} (h:gtM n dd m=true):leQ n dd m.1 m.2.1:=by have:=(q33q n dd m).1 h;unfold leQ;omega
theorem q36d {l:List T3} (h:FldOk l) {p b:T3} {n dd:Int} (hd:1≤dd) (hp:Lead l n dd p) (hb:b∈l) (hf:p.2.2.1<b.2.2.1) {m:M4} (hm:mtP (p,b)=some m)
    (hbest:∀ q∈l,∀ m',p.2.2.1<q.2.2.1→mtP (p,q)=some m'→¬ (m'.1*m.2.1<m.1*m'.2.1∨(m'.1*m.2.1=m.1*m'.2.1∧leads (ofP q) (ofP b) m.1 m.2.1=true))):Nxt l p m.1 m.2.1∧Lead l m.1 m.2.1 b:=by
  have hpo:=h.ok p hp.1
  have hbo:=h.ok b hb
  obtain ⟨_,hmo,_⟩:=q35d (x:=(p,b)) hpo hbo hm
  have hD:=(qd2 hmo).1
  have hmin:∀ q∈l,∀ m',p.2.2.1<q.2.2.1→mtP (p,q)=some m'→¬ m'.1*m.2.1<m.1*m'.2.1:=fun q hq m' h1 h2 k=>hbest q hq m' h1 h2 (.inl k)
  refine ⟨⟨⟨b,hb,m,hf,hm,rfl,rfl⟩,hmin⟩,hb,fun q hq=>?_⟩
  have hle:=q36c (q36b h hp hb hf hm)
  have hfar:=q369 h hd hD hle hp hmin hq
  have hpl:=q36a hpo hbo hm
  cases hl:leads (ofP q) (ofP b) m.1 m.2.1 with
  | false=>rfl
  | true =>
    have k0:=(qup ..).1 hl
    have k:(b.2.1*m.2.1+b.2.2.1*m.1<q.2.1*m.2.1+q.2.2.1*m.1)∨(b.2.1*m.2.1+b.2.2.1*m.1=q.2.1*m.2.1+q.2.2.1*m.1∧(b.2.2.1<q.2.2.1∨(b.2.2.1=q.2.2.1∧q.1<b.1))):=k0
    have hfq:p.2.2.1<q.2.2.1:=by omega
    obtain ⟨m',hm'⟩:=q365 (p:=p) (q:=q) (by omega)
    have hqo:=h.ok q hq
    obtain ⟨_,hmo',_,_,_,_,e⟩:=q35d (x:=(p,q)) hpo hqo hm'
    -- q is met at the same time
    have h1:=hmin q hq m' hfq hm'
    have h2:=hbest q hq m' hfq hm'
    have hst:=q367 hpo hqo hfq hm' m.1 m.2.1
    have hg:gtM m.1 m.2.1 m'=false:=by
      cases hg:gtM m.1 m.2.1 m' with
      | false=>rfl
      | true =>
        rw [hg] at hst
        have k1:=(qup ..).1 hst
        have k2:(q.2.1*m.2.1+q.2.2.1*m.1<p.2.1*m.2.1+p.2.2.1*m.1)∨(q.2.1*m.2.1+q.2.2.1*m.1=p.2.1*m.2.1+p.2.2.1*m.1∧(q.2.2.1<p.2.2.1∨(q.2.2.1=p.2.2.1∧p.1<q.1))):=k1
        omega
    have hg':¬ m.1*m'.2.1<m'.1*m.2.1:=fun k=>by rw [(q33q m.1 m.2.1 m').2 k] at hg;cases hg
    exact absurd (.inr ⟨by omega,hl⟩) h2
inductive Crest (l:List T3):T3→Int→Int→List T3→Prop
  | last (p:T3) (n dd:Int):q368 l p→Crest l p n dd [(n,dd,p.1,())]
  | next (p:T3) (n dd n' dd':Int) (p':T3) (r:List T3):Nxt l p n' dd'→Lead l n' dd' p'→Crest l p' n' dd' r→Crest l p n dd ((n,dd,p.1,()) :: r)
theorem Crest.uniq {l:List T3} (h:FldOk l) {p:T3} {n dd:Int} {a b:List T3} (ha:Crest l p n dd a) (hp:p∈l) (hb:Crest l p n dd b):a=b:=by
  induction ha generalizing b with
  | last p n dd hn =>
    cases hb with
    | last _ _ _ _=>rfl
    | next _ _ _ n' dd' p' r h1 _ _=>exact (h1.not hn).elim
  | next p n dd n' dd' p' r h1 h2 _ ih =>
    cases hb with
    | last _ _ _ hn=>exact (h1.not hn).elim
    | next _ _ _ n'' dd'' p'' r' k1 k2 k3 =>
      obtain ⟨rfl,rfl⟩:=h1.uniq h hp k1
      obtain rfl:=h2.uniq h k2
      rw [ih h2.1 k3]
theorem Crest.head {l:List T3} {p:T3} {n dd:Int} {a:List T3} (ha:Crest l p n dd a):∃ r,a=(n,dd,p.1,()) :: r:=by
  cases ha with
  | last _ _ _ _=>exact ⟨_,rfl⟩
  | next _ _ _ _ _ _ r _ _ _=>exact ⟨r,rfl⟩
theorem q36e {l:List T3} (h:FldOk l) {p p':T3} {n dd n' dd':Int} (hd:1≤dd) (hp:Lead l n dd p) (h1:Nxt l p n' dd') (h2:Lead l n' dd' p'):p.2.2.1<p'.2.2.1:=by
  obtain ⟨q,hq,m,hb,hm,rfl,rfl⟩:=h1.1
  have hpo:=h.ok p hp.1
  have hqo:=h.ok q hq
  have hmo:=(q35d (x:=(p,q)) hpo hqo hm).2.1
  have hD:=(qd2 hmo).1
  have hle:=q36c (q36b h hp hq hb hm)
  have hfar:=q369 h hd hD hle hp h1.2 h2.1
  have hpl:=q36a hpo hqo hm
  have hl:=h2.2 q hq
  have k:¬ ((p'.2.1*m.2.1+p'.2.2.1*m.1<q.2.1*m.2.1+q.2.2.1*m.1)∨(p'.2.1*m.2.1+p'.2.2.1*m.1=q.2.1*m.2.1+q.2.2.1*m.1∧(p'.2.2.1<q.2.2.1∨(p'.2.2.1=q.2.2.1∧q.1<p'.1)))):=qus hl
  omega
def q36f (l:List T3) (p:T3):Nat:=l.countP fun q=>decide (p.2.2.1<q.2.2.1)
theorem q36g {l:List T3} {p p':T3} (hp:p'∈l) (hb:p.2.2.1<p'.2.2.1):q36f l p'<q36f l p:=by
  unfold q36f
  induction l with
  | nil=>cases hp
  | cons x xs ih =>
    rw [List.countP_cons,List.countP_cons]
    have hmono:xs.countP (fun q=>decide (p'.2.2.1<q.2.2.1))≤xs.countP (fun q=>decide (p.2.2.1<q.2.2.1)):=List.countP_mono_left fun q _ hq=>by
      rw [decide_eq_true_eq] at hq ⊢;omega
    rcases List.mem_cons.1 hp with rfl | hp
    · rw [if_neg (by rw [decide_eq_true_eq];omega),if_pos (by rw [decide_eq_true_eq];omega)];omega
    · have := ih hp
      by_cases h1:p'.2.2.1<x.2.2.1
      · rw [if_pos (by rw [decide_eq_true_eq];omega),if_pos (by rw [decide_eq_true_eq];omega)];omega
      · rw [if_neg (by rw [decide_eq_true_eq]; omega)]
        split<;>omega
theorem q36h (l:List T3) (p:T3):q36f l p≤l.length:=List.countP_le_length
theorem Crest.len {l:List T3} (h:FldOk l) {p:T3} {n dd:Int} {a:List T3} (ha:Crest l p n dd a) (hr:qcv n dd=0) (hp:Lead l n dd p):a.length≤q36f l p+1:=by
  induction ha with
  | last p n dd hn=>simp
  | next p n dd n' dd' p' r h1 h2 _ ih =>
    have:=ih (h1.ok h hp.1).1 h2
    have:=q36g h2.1 (q36e h (qd2 hr).1 hp h1 h2)
    rw [List.length_cons];omega
end Go.Pel

namespace Go.Pel
open Go Go.Tx
def gtL (n dd:Int) (x:T3):Bool:=decide (0<cmpQ x.1 x.2.1 n dd)
theorem q36j (n dd:Int) (x:T3):gtL n dd x=true↔n*x.2.1<x.1*dd:=q33q n dd (x.1,x.2.1,0,0,())
def idxL (n dd:Int) (a:List T3):Nat:=a.findIdx (gtL n dd)
def okL (x:T3):Bool:=decide (qcv x.1 x.2.1=0)&&decide (0≤x.2.2.1)&&decide (x.2.2.1≤65535)
theorem q36k {x:T3}:okL x=true↔qcv x.1 x.2.1=0∧0≤x.2.2.1∧x.2.2.1≤65535:=by
  unfold okL
  simp only [Bool.and_eq_true,decide_eq_true_eq,and_assoc]
def nxB (x y:T3):Bool:=decide (cmpQ x.1 x.2.1 y.1 y.2.1<0)&&decide (x.2.2.1≠y.2.2.1)
theorem q36l {x y:T3}:nxB x y=true↔x.1*y.2.1<y.1*x.2.1∧x.2.2.1≠y.2.2.1:=by
  unfold nxB cmpQ cmpZ
  simp only [Bool.and_eq_true,decide_eq_true_eq]
  repeat' split
  all_goals omega
def chkR:Option T3→List T3→Bool
  | _,[]=>true
  | o,x :: r=>okL x&&(match o with | none=>true | some y=>nxB y x)&&chkR (some x) r
def chkL (a:List T3):Int:=if a.length<1∨300<a.length then 8 else if chkR none a=true then 0 else 8
theorem q36m {a:List T3} (h:chkL a=0):1≤a.length∧a.length≤300∧chkR none a=true:=by
  unfold chkL at h
  split at h
  · cases h
  · split at h
    · next k=>exact ⟨by omega,by omega,k⟩
    · cases h
theorem q36n:∀ {o:Option T3} {a:List T3},chkR o a=true→(∀ x∈a,okL x=true)∧(a.Pairwise fun x y=>x.1*y.2.1<y.1*x.2.1)∧(∀ y,o=some y→okL y=true→∀ x∈a,y.1*x.2.1<x.1*y.2.1)
  | o,[],_=>⟨fun x h=>(by cases h),List.Pairwise.nil,fun y _ _ x h=>(by cases h)⟩
  | o, x :: r, h => by
    unfold chkR at h
    simp only [Bool.and_eq_true] at h
    obtain ⟨⟨h1,h2⟩,h3⟩:=h
    obtain ⟨k1,k2,k3⟩:=q36n h3
    refine ⟨fun y hy=>?_,List.pairwise_cons.2 ⟨fun y hy=>k3 x rfl h1 y hy,k2⟩,fun y hy hyo z hz=>?_⟩
    · rcases List.mem_cons.1 hy with rfl | hy
      · exact h1
      · exact k1 y hy
    · subst hy
      have hyx:=(q36l.1 h2).1
      rcases List.mem_cons.1 hz with rfl | hz
      · exact hyx
      · have o1 := (qd2 (q36k.1 hyo).1).1
        have o2:=(qd2 (q36k.1 h1).1).1
        have o3:=(qd2 (q36k.1 (k1 z hz)).1).1
        have:=k3 x rfl h1 z hz
        exact q_lt o1 o2 o3 hyx (by omega)
def atV (a:List T3) (n dd:Int):Int×Int:=if chkL a≠0∨qcv n dd≠0 then (0,8) else if idxL n dd a=0 then (0,44) else (((a[idxL n dd a - 1]?).getD (0,0,0,())).2.2.1,0)
theorem q36p {n dd:Int} {L:List T3} {k:Nat} (hk:k≤L.length) (h1:∀ j x,j<k→L[j]?=some x→gtL n dd x=false) (h2:∀ x,L[k]?=some x→gtL n dd x=true):idxL n dd L=k:=by
  unfold idxL
  rcases Nat.lt_or_eq_of_le hk with hlt | rfl
  · rw [List.findIdx_eq hlt]
    refine ⟨h2 _ (List.getElem?_eq_getElem hlt),fun j hj=>?_⟩
    exact h1 j _ hj (List.getElem?_eq_getElem (by omega))
  · rw [List.findIdx_eq_length]
    intro x hx
    obtain ⟨j,hj,rfl⟩:=List.mem_iff_getElem.1 hx
    exact h1 j _ hj (List.getElem?_eq_getElem hj)
theorem q36q (n dd:Int) (a:List T3):idxL n dd a≤a.length:=List.findIdx_le_length
theorem q36t {l:List T3} (h:FldOk l) {p:T3} (hp:p∈l):0≤p.1∧p.1≤65535:=by
  have:=q35c (h.ok p hp);omega
theorem q36u {l:List T3} (h:FldOk l) {p:T3} {n dd:Int} {a:List T3} (ha:Crest l p n dd a) (hr:qcv n dd=0) (hp:Lead l n dd p) (o:Option T3) (ho:∀ y,o=some y→nxB y (n,dd,p.1,())=true):chkR o a=true:=by
  induction ha generalizing o with
  | last p n dd hn =>
    unfold chkR chkR
    simp only [Bool.and_eq_true,Bool.and_true]
    refine ⟨q36k.2 ⟨hr,q36t h hp.1⟩,?_⟩
    cases o with
    | none=>rfl
    | some y=>exact ho y rfl
  | next p n dd n' dd' p' r h1 h2 _ ih =>
    unfold chkR
    simp only [Bool.and_eq_true]
    refine ⟨⟨q36k.2 ⟨hr,q36t h hp.1⟩,?_⟩,ih (h1.ok h hp.1).1 h2 _ fun y hy=>?_⟩
    · cases o with
      | none=>rfl
      | some y=>exact ho y rfl
    · injection hy with hy
      subst hy
      have hf:=q36e h (qd2 hr).1 hp h1 h2
      rw [q36l]
      refine ⟨?_,fun e=>?_⟩
      · obtain ⟨q, hq, m, hb, hm, rfl, rfl⟩ := h1.1
        exact (q33q n dd m).1 (q36b h hp hq hb hm)
      · rw [q362 h hp.1 h2.1 e] at hf;omega
theorem q36v {l:List T3} (h:FldOk l) {p:T3} {n dd:Int} {a:List T3} (ha:Crest l p n dd a) (hr:qcv n dd=0) (hp:Lead l n dd p):chkL a=0:=by
  have h1:=ha.len h hr hp
  have h2:=q36h l p
  have h3:=h.len
  obtain ⟨r,rfl⟩:=ha.head
  unfold chkL
  rw [if_neg (by rw [List.length_cons] at h1 ⊢;omega),if_pos (q36u h ha hr hp none fun y hy=>by cases hy)]
theorem q36w {l:List T3} (h:FldOk l) {p:T3} {n dd n' dd':Int} (hd:1≤dd) (hd':1≤dd') (hle:leQ n dd n' dd') (hp:Lead l n dd p) (hm:∀ q∈l,∀ m,p.2.2.1<q.2.2.1→mtP (p,q)=some m→gtM n' dd' m=true):Lead l n' dd' p:=by
  refine ⟨hp.1,fun q hq=>?_⟩
  by_cases hi:q.1=p.1
  · rw [q362 h hq hp.1 hi];exact q35o _ _ _
  · have hpo := h.ok p hp.1
    have hqo:=h.ok q hq
    have ha:=hp.ahead h hq hi
    have:leads (ofP p) (ofP q) n' dd'=true:=by
      by_cases hb:p.2.2.1<q.2.2.1
      · obtain ⟨m, hm'⟩ := q365 (p := p) (q := q) (by omega)
        rw [q367 hpo hqo hb hm']
        exact hm q hq m hb hm'
      · exact q366 hpo hqo hd hd' hle hb ha
    rw [q35p (p:=ofP p) (q:=ofP q) (fun e=>hi e.symm),this];rfl
theorem q36x {l:List T3} (h:FldOk l) {p:T3} {n dd:Int} {a:List T3} (ha:Crest l p n dd a) (hr:qcv n dd=0) (hp:Lead l n dd p) {t u:Int} (hu:1≤u) (hle:leQ n dd t u):∃ q x r,1≤idxL t u a∧a.drop (idxL t u a - 1)=x :: r∧x.2.2.1=q.1∧Lead l t u q∧Crest l q t u ((t,u,q.1,()) :: r):=by
  have hng:∀ {n dd:Int} {i:Int},leQ n dd t u→gtL t u (n,dd,i,())=false:=fun {n dd i} hle=>by
    cases hg:gtL t u (n,dd,i,()) with
    | false=>rfl
    | true =>
      have:=(q36j t u (n,dd,i,())).1 hg
      simp only at this
      unfold leQ at hle
      omega
  induction ha with
  | last p n dd hn =>
    have hd:=(qd2 hr).1
    refine ⟨p,(n,dd,p.1,()),[],?_,?_,rfl,q36w h hd hu hle hp (fun q hq m hb=>absurd hb (hn q hq)),.last p t u hn⟩
    · unfold idxL;rw [List.findIdx_cons,hng hle];simp
    · unfold idxL;rw [List.findIdx_cons,hng hle];simp
  | next p n dd n' dd' p' r h1 h2 h3 ih =>
    have hd:=(qd2 hr).1
    have hd':=(qd2 (h1.ok h hp.1).1).1
    by_cases hlt:leQ n' dd' t u
    · obtain ⟨q, x, r', k1, k2, k3, k4, k5⟩ := ih (h1.ok h hp.1).1 h2 hlt
      have hi:idxL t u ((n,dd,p.1,()) :: r)=idxL t u r+1:=by unfold idxL;rw [List.findIdx_cons,hng hle];rfl
      refine ⟨q,x,r',by omega,?_,k3,k4,k5⟩
      rw [hi,show idxL t u r+1 - 1=(idxL t u r - 1)+1 by omega,List.drop_succ_cons]
      exact k2
    · have hst:=q36w h hd hu hle hp (fun q hq m hb hm=>by
        have k:=h1.2 q hq m hb hm
        have o:=(qd2 (q35d (x:=(p,q)) (h.ok p hp.1) (h.ok q hq) hm).2.1).1
        rw [q33q]
        unfold leQ at hlt
        exact q_lt (b:=n') hu hd' o (by omega) (by omega))
      obtain ⟨r',hr'⟩:=h3.head
      have hg:gtL t u (n',dd',p'.1,())=true:=by
        rw [q36j]
        unfold leQ at hlt
        simp only
        omega
      have hi:idxL t u ((n,dd,p.1,()) :: r)=1:=by
        unfold idxL;rw [List.findIdx_cons,hng hle,hr',List.findIdx_cons,hg];rfl
      refine ⟨p,(n,dd,p.1,()),r,by omega,by rw [hi];rfl,rfl,hst,.next p t u n' dd' p' r h1 h2 h3⟩
theorem q36y {l:List T3} (h:FldOk l) {p:T3} {n dd:Int} {a:List T3} (ha:Crest l p n dd a) (hr:qcv n dd=0) (hp:Lead l n dd p):∃ ps:List T3,ps.length=a.length∧ps.head?=some p∧(∀ (i:Nat) (x q:T3),a[i]?=some x→ps[i]?=some q→x.2.2.1=q.1∧qcv x.1 x.2.1=0∧leQ n dd x.1 x.2.1∧Lead l x.1 x.2.1 q)∧(∀ (i:Nat) (q q':T3),ps[i]?=some q→ps[i+1]?=some q'→q.2.2.1<q'.2.2.1)∧(∀ q:T3,ps[ps.length - 1]?=some q→q368 l q):=by
  induction ha with
  | last p n dd hn =>
    refine ⟨[p],rfl,rfl,fun i x q hx hq=>?_,fun i q q' hq hq'=>?_,fun q hq=>?_⟩
    · cases i with
      | zero =>
        simp only [List.getElem?_cons_zero,Option.some.injEq] at hx hq
        subst hx hq
        exact ⟨rfl,hr,Int.le_refl _,hp⟩
      | succ i=>simp at hx
    · simp at hq'
    · simp at hq;subst hq;exact hn
  | next p n dd n' dd' p' r h1 h2 h3 ih =>
    have hr':=(h1.ok h hp.1).1
    obtain ⟨ps,k1,k2,k3,k4,k5⟩:=ih hr' h2
    have hle:leQ n dd n' dd':=by
      obtain ⟨q,hq,m,hb,hm,rfl,rfl⟩:=h1.1
      exact q36c (q36b h hp hq hb hm)
    refine ⟨p :: ps,by rw [List.length_cons,List.length_cons,k1],rfl,fun i x q hx hq=>?_,fun i q q' hq hq'=>?_,fun q hq=>?_⟩
    · cases i with
      | zero =>
        simp only [List.getElem?_cons_zero,Option.some.injEq] at hx hq
        subst hx hq
        exact ⟨rfl,hr,Int.le_refl _,hp⟩
      | succ i =>
        rw [List.getElem?_cons_succ] at hx hq
        obtain ⟨g1,g2,g3,g4⟩:=k3 i x q hx hq
        exact ⟨g1,g2,q353 (qd2 hr).1 (qd2 hr').1 (qd2 g2).1 hle g3,g4⟩
    · cases i with
      | zero =>
        simp only [List.getElem?_cons_zero,Option.some.injEq,List.getElem?_cons_succ] at hq hq'
        subst hq
        rw [List.head?_eq_getElem?,hq'] at k2
        injection k2 with k2
        subst k2
        exact q36e h (qd2 hr).1 hp h1 h2
      | succ i =>
        rw [List.getElem?_cons_succ] at hq hq'
        exact k4 i q q' hq hq'
    · have hl:0<ps.length:=by
        cases ps with
        | nil=>cases k2
        | cons _ _=>simp
      rw [List.length_cons,show ps.length+1 - 1=(ps.length - 1)+1 by omega,List.getElem?_cons_succ] at hq
      exact k5 q hq
end Go.Pel

namespace Go.Pel
open Go Go.Tx
def q36z (l:List T3) (p:T3) (i:Nat) (b:T3) (a1 a2:Int):Prop :=
  (a2=0∧∀ k q,k<i→l[k]?=some q→¬ p.2.2.1<q.2.2.1) ∨
  (∃ m:M4,m.1=a1∧m.2.1=a2∧okM m∧m.1.natAbs≤4194304∧m.2.1≤4194304∧(∃ j,j<i∧l[j]?=some b)∧p.2.2.1<b.2.2.1∧mtP (p,b)=some m∧∀ k q m',k<i→l[k]?=some q→p.2.2.1<q.2.2.1→mtP (p,q)=some m'→¬ (m'.1*m.2.1<m.1*m'.2.1∨(m'.1*m.2.1=m.1*m'.2.1∧leads (ofP q) (ofP b) m.1 m.2.1=true)))
theorem q36z.skip {l:List T3} {p:T3} {i:Nat} {b:T3} {a1 a2:Int} (h:q36z l p i b a1 a2) {q:T3} (hq:l[i]?=some q) (hs:¬ p.2.2.1<q.2.2.1):q36z l p (i+1) b a1 a2:=by
  rcases h with ⟨h1,h2⟩ | ⟨m,h1,h2,h3,h4,h5,⟨j,h6,h7⟩,h8,h9,h10⟩
  · refine .inl ⟨h1, fun k x hk hx => ?_⟩
    rcases (by omega:k<i∨k=i) with k' | rfl
    · exact h2 k x k' hx
    · rw [hq] at hx;injection hx with hx;subst hx;exact hs
  · refine .inr ⟨m, h1, h2, h3, h4, h5, ⟨j, by omega, h7⟩, h8, h9, fun k x m' hk hx hf => ?_⟩
    rcases (by omega:k<i∨k=i) with k' | rfl
    · exact h10 k x m' k' hx hf
    · rw [hq] at hx;injection hx with hx;subst hx;exact absurd hf hs
theorem q36z.first {l:List T3} (h:FldOk l) {p:T3} (hp:p∈l) {i:Nat} {b:T3} {a1:Int} (hB:q36z l p i b a1 0) {q:T3} (hq:l[i]?=some q) (hf:p.2.2.1<q.2.2.1) {m:M4} (hm:mtP (p,q)=some m):q36z l p (i+1) q m.1 m.2.1:=by
  obtain ⟨_,g1,g2,g3,_⟩:=q35d (x:=(p,q)) (h.ok p hp) (h.ok q (List.mem_of_getElem? hq)) hm
  rcases hB with ⟨_,h2⟩ | ⟨m',_,h2,h3,_⟩
  · refine .inr ⟨m, rfl, rfl, g1, g2, g3, ⟨i, by omega, hq⟩, hf, hm, fun k x m' hk hx hfx hm' => ?_⟩
    rcases (by omega:k<i∨k=i) with k' | rfl
    · exact absurd hfx (h2 k x k' hx)
    · rw [hq] at hx; injection hx with hx; subst hx
      rw [hm] at hm';injection hm' with hm';subst hm'
      rw [q35o]
      rintro (k | ⟨_,k⟩)
      · omega
      · cases k
  · have:=(qd2 h3).1;omega
theorem q36z.take {l:List T3} (h:FldOk l) {p:T3} (hp:p∈l) {i:Nat} {b:T3} {a1 a2:Int} (ha:0<a2) (hB:q36z l p i b a1 a2) {q:T3} (hq:l[i]?=some q) (hf:p.2.2.1<q.2.2.1) {m:M4} (hm:mtP (p,q)=some m) (hR:m.1*a2<a1*m.2.1∨(m.1*a2=a1*m.2.1∧leads (ofP q) (ofP b) m.1 m.2.1=true)):q36z l p (i+1) q m.1 m.2.1:=by
  have hqo:=h.ok q (List.mem_of_getElem? hq)
  have hpo:=h.ok p hp
  obtain ⟨_,g1,g2,g3,_⟩:=q35d (x:=(p,q)) hpo hqo hm
  rcases hB with ⟨h1,_⟩ | ⟨mb,rfl,rfl,h3,_,_,⟨j,h6,h7⟩,h8,h9,h10⟩
  · omega
  · have oD := (qd2 g1).1
    have oB:=(qd2 h3).1
    refine .inr ⟨m,rfl,rfl,g1,g2,g3,⟨i,by omega,hq⟩,hf,hm,fun k x m' hk hx hfx hm'=>?_⟩
    rcases (by omega:k<i∨k=i) with k' | rfl
    · have hxo := h.ok x (List.mem_of_getElem? hx)
      have gx:=(q35d (x:=(p,x)) hpo hxo hm').2.1
      have oX:=(qd2 gx).1
      have hno:=h10 k x m' k' hx hfx hm'
      rintro (k1 | ⟨k1,k2⟩)
      · -- x is met before q, which is not behind b
        have:m'.1*mb.2.1<mb.1*m'.2.1:=q_lt oX oD oB k1 (by omega)
        exact hno (.inl this)
      · rcases hR with hR | ⟨hR, hR2⟩
        · have : m'.1 * mb.2.1 < mb.1 * m'.2.1 := q32u oX oD oB (by omega) hR
          exact hno (.inl this)
        · -- all three at the same time
          obtain ⟨e1,e2⟩:=q_eq g1 h3 hR
          obtain ⟨e3,e4⟩:=q_eq gx g1 k1
          refine hno (.inr ⟨by rw [e3,e4,e1,e2],?_⟩)
          rw [← e1,← e2,qup]
          have k3:=(qup ..).1 hR2
          have k4:=(qup ..).1 k2
          omega
    · rw [hq] at hx; injection hx with hx; subst hx
      rw [hm] at hm';injection hm' with hm';subst hm'
      rw [q35o]
      rintro (k | ⟨_,k⟩)
      · omega
      · cases k
theorem q36z.keep {l:List T3} (h:FldOk l) {p:T3} (hp:p∈l) {i:Nat} {b:T3} {a1 a2:Int} (ha:0<a2) (hB:q36z l p i b a1 a2) {q:T3} (hq:l[i]?=some q) (hf:p.2.2.1<q.2.2.1) {m:M4} (hm:mtP (p,q)=some m) (hR:¬ (m.1*a2<a1*m.2.1∨(m.1*a2=a1*m.2.1∧leads (ofP q) (ofP b) m.1 m.2.1=true))):q36z l p (i+1) b a1 a2:=by
  have g1:=(q35d (x:=(p,q)) (h.ok p hp) (h.ok q (List.mem_of_getElem? hq)) hm).2.1
  rcases hB with ⟨h1,_⟩ | ⟨mb,rfl,rfl,h3,h4,h5,⟨j,h6,h7⟩,h8,h9,h10⟩
  · omega
  · refine .inr ⟨mb, rfl, rfl, h3, h4, h5, ⟨j, by omega, h7⟩, h8, h9, fun k x m' hk hx hfx hm' => ?_⟩
    rcases (by omega:k<i∨k=i) with k' | rfl
    · exact h10 k x m' k' hx hfx hm'
    · rw [hq] at hx; injection hx with hx; subst hx
      rw [hm] at hm';injection hm' with hm';subst hm'
      rintro (k1 | ⟨k1,k2⟩)
      · exact hR (.inl k1)
      · obtain ⟨e1, e2⟩ := q_eq g1 h3 k1
        exact hR (.inr ⟨k1,by rw [e1,e2];exact k2⟩)
theorem q36z.zero (l:List T3) (p b:T3) (a1:Int):q36z l p 0 b a1 0:=.inl ⟨rfl,fun k q hk=>by omega⟩
theorem q36z.none {l:List T3} {p b:T3} {a1:Int} (h:q36z l p l.length b a1 0):q368 l p:=by
  rcases h with ⟨_,h2⟩ | ⟨m,_,h2,h3,_⟩
  · intro q hq
    obtain ⟨k,hk⟩:=List.mem_iff_getElem?.1 hq
    exact h2 k q (List.getElem?_eq_some_iff.1 hk).1 hk
  · have:=(qd2 h3).1;omega
theorem q36z.some {l:List T3} (hl:FldOk l) {p b:T3} {n dd a1 a2:Int} (hd:1≤dd) (hp:Lead l n dd p) (ha:a2≠0) (h:q36z l p l.length b a1 a2):Nxt l p a1 a2∧Lead l a1 a2 b:=by
  rcases h with ⟨h1,_⟩ | ⟨m,rfl,rfl,_,_,_,⟨j,_,h7⟩,h8,h9,h10⟩
  · exact absurd h1 ha
  · refine q36d hl hd hp (List.mem_of_getElem? h7) h8 h9 fun q hq m' hf hm' => ?_
    obtain ⟨k,hk⟩:=List.mem_iff_getElem?.1 hq
    exact h10 k q m' (List.getElem?_eq_some_iff.1 hk).1 hk hf hm'
end Go.Pel
namespace Go.Proofs.YtpfhgnccpiildaaGreat
open Go Go.Tx Go.Pel
theorem q370 (d:Nat) (n1 d1 n2 d2:Int) (h1:i64B n1=true) (h2:i64B d1=true) (h3:i64B n2=true) (h4:i64B d2=true):q2f7 d ((n1,d1,()),(n2,d2,()),())=some (cmpR n1 d1 n2 d2).1:=by
  have e:=q32p d n1 d1 n2 d2 h1 h2 h3 h4
  simp only [q2f7,q2er,q2ex,q2f1,q2f5,Dt.eval,e]
theorem q371 (d:Nat) {p q:T3} (hp:okP p) (hq:okP q) {n dd:Int} (hn:i64B n=true) (hd:i64B dd=true) (hr:qcv n dd=0) (hl:leads (ofP q) (ofP p) n dd=false):q2ej d ((p.1,p.2.1,p.2.2.1,()),(q.1,q.2.1,q.2.2.1,()),(n,dd,()),()) =
    some (if p.1=q.1 then (0,0,false,2) else if p.2.2.1<q.2.2.1 then ((mk (p.2.1 - q.2.1) (q.2.2.1 - p.2.2.1)).1,(mk (p.2.1 - q.2.1) (q.2.2.1 - p.2.2.1)).2.1,true,0) else (0,0,false,0)):=by
  have e1:qom d ((p.1,p.2.1,p.2.2.1,()),(q.1,q.2.1,q.2.2.1,()),(n,dd,()),())=some (if p.1=q.1 then 2 else 0):=by
    rw [qon _ _ (by unfold qol;simp only [hn,hd,Bool.and_self])]
    refine congrArg some ?_
    show qkn (ofP p) (ofP q) n dd=_
    unfold qkn
    rw [if_pos ⟨hp,hq,hr⟩]
    rfl
  have e2:qv2 d ((q.1,q.2.1,q.2.2.1,()),(p.1,p.2.1,p.2.2.1,()),(n,dd,()),())=some (cmpC (ofP q) (ofP p) n dd) :=
    qv3 _ _ (qm6 (qle (p:=ofP q) (q:=ofP p) hq hp hr (qiq hn) (qiq hd)))
  have e3:decide (cmpC (ofP q) (ofP p) n dd > 0)=false:=by rw [← hl];exact qkm ..
  simp only [q2ej,q2dh,q2dn,q2dr,q2dv,q2dz,q2e3,q2e5,q2e9,q2eb,q2ef,q2eh,Dt.eval,e1]
  by_cases hi:p.1=q.1
  · simp only [hi,if_true,show ((2:Int) != 0)=true from rfl,cond_true]
  · simp only [hi, if_false, show ((0 : Int) != 0) = false from rfl, cond_false, e2, e3, Dt.eval]
    by_cases hb:p.2.2.1<q.2.2.1
    · have e4 := q33o d hp hq hi
      rw [if_neg (show ¬ p.2.2.1=q.2.2.1 by omega)] at e4
      simp only [show decide (q.2.2.1≤p.2.2.1)=false by rw [decide_eq_false_iff_not];omega,cond_false,e4,Dt.eval,hb,if_true,show ((0:Int) == 0)=true from rfl]
    · simp only [show decide (q.2.2.1≤p.2.2.1)=true by rw [decide_eq_true_eq];omega,cond_true,hb,if_false]
set_option maxHeartbeats 4000000 in
theorem q372 (d:Nat) {l:List T3} (h:FldOk l) {p:T3} {n dd:Int} (hn:i64B n=true) (hd:i64B dd=true) (hr:qcv n dd=0) (hp:Lead l n dd p) (self1:(List Diii×Int×Int×Int×Int×Int×List Diii)→Option q2fb) (out:List T3):∀ (f i:Nat) (b:T3) (a1 a2:Int),l.length - i<f→i≤l.length→q36z l p i b a1 a2 →
    ∃ b' a1' a2',q36z l p l.length b' a1' a2'∧iter (q2ie d self1) f (l,(l.length:Int),(i:Int),l,n,dd,p.1,p.2.1,p.2.2.1,out,b.1,b.2.1,b.2.2.1,a1,a2) =
      (if a2'=0 then some (out,0) else bif apB out.length 1 then self1 (l,a1',a2',b'.1,b'.2.1,b'.2.2.1,out ++ [(a1',a2',b'.1,())]) else none)
  | 0,i,b,a1,a2,hf,_,_=>by omega
  | f + 1, i, b, a1, a2, hf, hi, hB => by
    have hl:=h.len
    have hpo:=h.ok p hp.1
    have ih:=fun b a1 a2=>q372 d h hn hd hr hp self1 out f (i+1) b a1 a2
    rw [iter]
    revert ih
    generalize iter (q2ie d self1) f=self
    intro ih
    unfold q2ie
    by_cases hlt:i<l.length
    · obtain ⟨q, hq⟩ : ∃ q, l[i]? = some q := ⟨_, List.getElem?_eq_getElem hlt⟩
      have hqm:=List.mem_of_getElem? hq
      have hqo:=h.ok q hqm
      have e1:=q371 d hpo hqo hn hd hr (hp.2 q hqm)
      have wi:=q347 (show i<1000000 by omega)
      simp only [q2gr,Dt.eval,q34a hlt,cond_true]
      simp only [q2gv,Dt.eval,q349 hlt,cond_true,q348 hq]
      by_cases hid:p.1=q.1
      · have hs : ¬ p.2.2.1 < q.2.2.1 := by rw [q362 h hp.1 hqm hid]; omega
        rw [if_pos hid] at e1
        simp only [q2gz,q2ff,e1,Dt.eval]
        simp only [q2h3,show ((2:Int) != 0)=true from rfl,cond_true,Dt.eval]
        simp only [q2h7,q2h5,Dt.eval,wi]
        exact ih b a1 a2 (by omega) (by omega) (hB.skip hq hs)
      · rw [if_neg hid] at e1
        by_cases hb:p.2.2.1<q.2.2.1
        · obtain ⟨m, hm⟩ := q365 (p := p) (q := q) (by omega)
          have hm0:=hm
          unfold mtP at hm0
          simp only [show ¬ p.2.2.1=q.2.2.1 by omega,if_false,Option.some.injEq] at hm0
          have m1:(mk (p.2.1 - q.2.1) (q.2.2.1 - p.2.2.1)).1=m.1:=by rw [← hm0]
          have m2:(mk (p.2.1 - q.2.1) (q.2.2.1 - p.2.2.1)).2.1=m.2.1:=by rw [← hm0]
          rw [if_pos hb,m1,m2] at e1
          obtain ⟨_,gm,gn,gd,_⟩:=q35d (x:=(p,q)) hpo hqo hm
          have oM:=(qd2 gm).1
          simp only [q2gz,q2ff,e1,Dt.eval]
          simp only [q2h3,show ((0:Int) != 0)=false from rfl,cond_false,Dt.eval,Bool.not_true]
          simp only [q2ha,Dt.eval]
          by_cases ha:a2=0
          · subst ha
            simp only [q2he,Dt.eval,show decide ((0:Int) > 0)=false from rfl,cond_false]
            simp only [q2i3,q2hk,Dt.eval,show ((-1:Int) == 0)=false from rfl,cond_false]
            simp only [q2i2,q2hy,Dt.eval,show decide ((-1:Int)<0)=true from rfl,cond_true]
            simp only [q2i0,Dt.eval]
            simp only [q2h7,q2h5,Dt.eval,wi]
            exact ih q m.1 m.2.1 (by omega) (by omega) (hB.first h hp.1 hq hb hm)
          · have hpos:0<a2∧qcv a1 a2=0∧i64B a1=true∧i64B a2=true∧(∃ j,j<i∧l[j]?=some b):=by
              rcases hB with ⟨k,_⟩ | ⟨mb,rfl,rfl,h3,h4,h5,h6,_⟩
              · exact absurd k ha
              · have := (qd2 h3).1
                exact ⟨by omega,h3,q33j (by omega),q33j (by omega),h6⟩
            obtain ⟨ha0,hra,hi1,hi2,j,hj,hjb⟩:=hpos
            have hbm:=List.mem_of_getElem? hjb
            have e2:q2f7 d ((m.1,m.2.1,()),(a1,a2,()),())=some (cmpZ (m.1*a2) (a1*m.2.1)):=by
              rw [q370 d _ _ _ _ (q33j (show m.1.natAbs≤_ by omega)) (q33j (show m.2.1.natAbs≤_ by omega)) hi1 hi2];unfold cmpR;rw [if_pos ⟨gm,hra⟩];rfl
            have hqb:q.1≠b.1:=by have:=q35t h hj hjb hq;omega
            have e3:=q34x d hqo (h.ok b hbm) hqb (q33j (show m.1.natAbs≤_ by omega)) (q33j (show m.2.1.natAbs≤_ by omega)) gm
            simp only [q2he,Dt.eval,show decide (a2 > 0)=true from decide_eq_true ha0,cond_true]
            simp only [q2hg,q2ff,e2,Dt.eval]
            rcases ltZ (m.1*a2) (a1*m.2.1) with ⟨k1,k2⟩ | ⟨k1,k2⟩ | ⟨k1,k2⟩
            · simp only [q2i3, q2hk, Dt.eval, k1, show ((-1 : Int) == 0) = false from rfl, cond_false]
              simp only [q2i2,q2hy,Dt.eval,show decide ((-1:Int)<0)=true from rfl,cond_true]
              simp only [q2i0,Dt.eval]
              simp only [q2h7,q2h5,Dt.eval,wi]
              exact ih q m.1 m.2.1 (by omega) (by omega) (hB.take h hp.1 ha0 hq hb hm (.inl k2))
            · simp only [q2i3, q2hk, Dt.eval, k1, show ((0 : Int) == 0) = true from rfl, cond_true]
              simp only [q2ho,q2ff,e3,Dt.eval]
              cases hah:leads (ofP q) (ofP b) m.1 m.2.1 with
              | true =>
                simp only [q2hs,Dt.eval,cond_true]
                simp only [q2hu,Dt.eval]
                simp only [q2i2,q2hy,Dt.eval,show decide ((-1:Int)<0)=true from rfl,cond_true]
                simp only [q2i0,Dt.eval]
                simp only [q2h7,q2h5,Dt.eval,wi]
                exact ih q m.1 m.2.1 (by omega) (by omega) (hB.take h hp.1 ha0 hq hb hm (.inr ⟨k2,hah⟩))
              | false =>
                simp only [q2hs,Dt.eval,cond_false]
                simp only [q2i2,q2hy,Dt.eval,show decide ((0:Int)<0)=false from rfl,cond_false]
                simp only [q2h7,q2h5,Dt.eval,wi]
                exact ih b a1 a2 (by omega) (by omega) (hB.keep h hp.1 ha0 hq hb hm (by rw [hah];rintro (k | ⟨_,k⟩);omega;cases k))
            · simp only [q2i3, q2hk, Dt.eval, k1, show ((1 : Int) == 0) = false from rfl, cond_false]
              simp only [q2i2,q2hy,Dt.eval,show decide ((1:Int)<0)=false from rfl,cond_false]
              simp only [q2h7,q2h5,Dt.eval,wi]
              exact ih b a1 a2 (by omega) (by omega) (hB.keep h hp.1 ha0 hq hb hm (by rintro (k | ⟨k,_⟩)<;>omega))
        · rw [if_neg hb] at e1
          simp only [q2gz,q2ff,e1,Dt.eval]
          simp only [q2h3,show ((0:Int) != 0)=false from rfl,cond_false,Dt.eval,Bool.not_false,cond_true]
          simp only [q2h7,q2h5,Dt.eval,wi]
          exact ih b a1 a2 (by omega) (by omega) (hB.skip hq hb)
    · have hkl : i = l.length := by omega
      subst hkl
      refine ⟨b,a1,a2,hB,?_⟩
      simp only [q2gr,Dt.eval,q34b hlt,cond_false]
      simp only [q2i6,Dt.eval]
      by_cases ha:a2=0
      · simp only [ha,beq_self_eq_true,cond_true,if_true,q2i8,Dt.eval]
      · have hb : (a2 == 0) = false := by rw [beq_eq_false_iff_ne]; exact ha
        simp only [hb,cond_false,ha,if_false]
        simp only [q2ia,Dt.eval]
        simp only [q2ic,Dt.eval,List.length_cons,List.length_nil,Nat.zero_add]
theorem q373 (d:Nat) (hf5:5000≤d) {l:List T3} (h:FldOk l):∀ (f:Nat) (p:T3) (n dd:Int) (out:List T3),q36f l p<f→Lead l n dd p→qcv n dd=0→i64B n=true→i64B dd=true→out.length+q36f l p≤200 →
    ∃ r,Crest l p n dd ((n,dd,p.1,()) :: r)∧iter (q2if d) f (l,n,dd,p.1,p.2.1,p.2.2.1,out)=some (out++r,0)
  | 0,p,n,dd,out,hf,_,_,_,_,_=>by omega
  | f + 1, p, n, dd, out, hf, hp, hr, hn, hd, ho => by
    have hl:=h.len
    have ih:=fun p n dd out=>q373 d hf5 h f p n dd out
    rw [iter]
    revert ih
    generalize iter (q2if d) f=self
    intro ih
    unfold q2if
    simp only [q2gf,q2gj,q2gn,Dt.eval]
    obtain ⟨b,a1,a2,hB,e⟩:=q372 d h hn hd hr hp self out d 0 (0,0,0,()) 0 0 (by omega) (by omega) (q36z.zero ..)
    have e':iter (q2ie d self) d (l,(l.length:Int),(0:Int),l,n,dd,p.1,p.2.1,p.2.2.1,out,(0:Int),(0:Int),(0:Int),(0:Int),(0:Int))=_:=e
    rw [e']
    by_cases ha:a2=0
    · subst ha
      refine ⟨[],.last p n dd hB.none,?_⟩
      rw [if_pos rfl,List.append_nil]
    · obtain ⟨h1, h2⟩ := hB.some h (qd2 hr).1 hp ha
      obtain ⟨g1,g2,g3⟩:=h1.ok h hp.1
      have hD:=(qd2 g1).1
      have hlt:=q36g h2.1 (q36e h (qd2 hr).1 hp h1 h2)
      have hap:apB out.length 1=true:=by unfold apB;rw [Nat.ble_eq];omega
      obtain ⟨r,k1,k2⟩:=ih b a1 a2 (out ++ [(a1,a2,b.1,())]) (by omega) h2 g1 (q33j (by omega)) (q33j (by omega)) (by rw [List.length_append];simp;omega)
      refine ⟨(a1,a2,b.1,()) :: r,.next p n dd a1 a2 b _ h1 h2 k1,?_⟩
      rw [if_neg ha,hap,cond_true,k2,List.append_assoc]
      rfl
theorem q375 (d:Nat) {n dd:Int} (hn:i64B n=true) (hd:i64B dd=true) (hr:qcv n dd=0):q2ig d (([],()),(n,dd,()),())=some ([],42):=by
  have e1:=q360 d (l:=[]) (by simp) (by decide) hn hd hr
  simp only [q2ig,q2ff,q2fl,q2fp,q2ft,q2fx,q2g1,q2g3,q2g7,q2gb,Dt.eval,e1,show ((0:Int) != 0)=false from rfl,cond_false]
  rfl
theorem q376 (d:Nat) (hf:5000≤d) {l:List T3} (hl:l ≠ []) {n dd:Int} (hn:i64B n=true) (hd:i64B dd=true) (hc:chk1 l n dd=0):∃ a,Crest l (ldT l n dd) n dd a∧q2ig d ((l,()),(n,dd,()),())=some (a,0):=by
  have h0:qfx (ptsL l)=0:=by
    unfold chk1 at hc
    by_cases h0:qfx (ptsL l)=0
    · exact h0
    · rw [if_pos h0] at hc;exact absurd hc h0
  have hr:qcv n dd=0:=by
    unfold chk1 at hc
    rw [if_neg (by simpa using h0)] at hc;exact hc
  have h:=q33z h0
  have hl64:=h.len
  have hL:=q363 hl n dd
  obtain ⟨r0,hr0⟩:=q364 hl n dd
  have e1:=q360 d hl64 h0 hn hd hr
  rw [hr0] at e1
  have e2:=q361 d h h0 hL.1
  have hN:=q36h l (ldT l n dd)
  obtain ⟨r,k1,k2⟩:=q373 d hf h d (ldT l n dd) n dd [(n,dd,(ldT l n dd).1,())] (by omega) hL hr hn hd (by simp;omega)
  refine ⟨_,k1,?_⟩
  have hlen:((unI ((ldT l n dd).1 :: r0)).length:Int)≠0:=by rw [qij,List.length_cons];omega
  have c1:(((unI ((ldT l n dd).1 :: r0)).length:Int) == 0)=false:=by rw [beq_eq_false_iff_ne];exact hlen
  have c2:inB 0 (unI ((ldT l n dd).1 :: r0)).length=true:=q349 (k:=0) (by rw [qij];simp)
  have c3:elt zi (unI ((ldT l n dd).1 :: r0)) (0:Int).toNat=((ldT l n dd).1,()):=q348 (k:=0) rfl
  simp only [q2ig,q2ff,q2fl,q2fp,q2ft,q2fx,q2g1,q2g3,q2g7,q2gb,Dt.eval,e1,show ((0:Int) != 0)=false from rfl,cond_false,c1,c2,c3,cond_true,e2]
  exact k2
end Go.Proofs.YtpfhgnccpiildaaGreat
