/- Walks of the references; the orders agree; examples. -/
import Derived.Test.YtoakhncbmpdacaaGd
set_option linter.unusedSimpArgs false
set_option linter.unusedVariables false
namespace Go.Proofs.Ytoakhncbmpdacaa
open Go Go.Tx Go.Proofs.Try
set_option maxRecDepth 100000
set_option maxHeartbeats 0
abbrev qwo:List Pk:=[.row qkv true]
abbrev qwp:Type:=qkw×Unit
abbrev qwq:Type:=Int
def qwr (r:qwq):LV×List Ob:=(.int .i64 r,[])
def qws (F:qwp→Option qwq):Go.Tx.Spec:=⟨24,qwo,qwq,F,qwr⟩
abbrev qwt:Type:=(qv3→Option qv4)×Unit
def qwu (d:Nat):qwt:=(qwm d,())
def qwv (C:qwt):List Go.Tx.Spec:=[qv6 C.1]
abbrev qww:Type:=Int×List Diii
def qwx (v:qww):St:=⟨[(0,.agg [i6 v.1,.fz Riii v.2])],[]⟩
abbrev qwy:Type:=Int×List Diii
def qwz (v:qwy):St:=⟨[(1,.ptr 0 0)],[.cells [i6 v.1,.fz Riii v.2]]⟩
def qx0 (C:qwt) (v:qww):Dt qwy:=(Dt.ret (v.1,v.2))
abbrev q346 {V Y:Type}:=@rg qwt V Y tysT (fun C=>(orc (qwv C))) 102
theorem qx1 C v:q346 (regO (qea f24) 0) false [(1,(.box [.any,.val Riii]))] qwx qx0 qwz C v:=rgI (by kernel_rfl)
abbrev qx2:Type:=Int×Int×List Diii
def qx3 (v:qx2):St:=⟨[(1,.ptr 0 0),(3,i6 v.1)],[.cells [i6 v.2.1,.fz Riii v.2.2]]⟩
def qx4 (C:qwt) (v:qwy):Dt qx2:=(Dt.ret ((List.length v.2:Int),v.1,v.2))
theorem qx5 C v:q346 (regO (qea f24) 1) false [(1,(.box [.any,.val Riii])),(3,.any)] qwz qx4 qx3 C v:=rgI (by kernel_rfl)
abbrev qx6:Type:=Int×Bool×Int×List Diii
def qx7 (v:qx6):St:=⟨[(1,.ptr 0 0),(3,i6 v.1),(13,.bool v.2.1)],[.cells [i6 v.2.2.1,.fz Riii v.2.2.2]]⟩
def qx8 (C:qwt) (v:qx2):Dt qx6:=(Dt.ret (v.1,(decide (v.1 > (64:Int))),v.2.1,v.2.2))
theorem qx9 C v:q346 (regO (qea f24) 2) false [(1,(.box [.any,.val Riii])),(3,.any),(13,.any)] qx3 qx8 qx7 C v:=rgI (by kernel_rfl)
abbrev qxa:Type:=Int
def qxb (v:qxa):St:=⟨[(2,i6 v)],[]⟩
def qxc (C:qwt) (v:qx6):Dt qxa:=(Dt.ret (4:Int))
theorem qxd C v:q346 (regO (qea f24) 3) false [(2,.any)] qx7 qxc qxb C v:=rgI (by kernel_rfl)
abbrev qxe:Type:=Int×Bool×Int×List Diii
def qxf (v:qxe):St:=⟨[(1,.ptr 0 0),(3,i6 v.1),(30,.bool v.2.1)],[.cells [i6 v.2.2.1,.fz Riii v.2.2.2]]⟩
def qxg (C:qwt) (v:qx6):Dt qxe:=(Dt.ite (decide (v.2.2.1<(-1:Int))) (Dt.ret (v.1,true,v.2.2.1,v.2.2.2)) (Dt.ite (decide (v.2.2.1≥v.1)) (Dt.ret (v.1,true,v.2.2.1,v.2.2.2)) (Dt.ret (v.1,(!((decide (v.2.2.1<(0:Int))) == (v.1 == (0:Int)))),v.2.2.1,v.2.2.2))))
theorem qxh C v:q346 (regO (qea f24) 4) false [(1,(.box [.any,.val Riii])),(3,.any),(30,.any)] qx7 qxg qxf C v:=rgI (by kernel_rfl)
def qxi (C:qwt) (v:qxe):Dt qxa:=(Dt.ret (8:Int))
theorem qxj C v:q346 (regO (qea f24) 5) false [(2,.any)] qxf qxi qxb C v:=rgI (by kernel_rfl)
abbrev qxk:Type:=Int×List Diii×Int×Int×Int×List Diii
def qxl (v:qxk):St:=⟨[(1,.ptr 0 0),(3,i6 v.1),(32,.fz Riii v.2.1),(33,i6 v.2.2.1),(34,i6 v.2.2.2.1)],[.cells [i6 v.2.2.2.2.1,.fz Riii v.2.2.2.2.2]]⟩
def qxm (C:qwt) (v:qxe):Dt qxk:=(Dt.ret (v.1,v.2.2.2,(List.length v.2.2.2:Int),(0:Int),v.2.2.1,v.2.2.2))
theorem qxn C v:q346 (regO (qea f24) 6) false [(1,(.box [.any,.val Riii])),(3,.any),(32,(.val Riii)),(33,.any),(34,.any)] qxf qxm qxl C v:=rgI (by kernel_rfl)
abbrev qxo:Type:=Int×List Diii×Int×Int×Bool×Int×List Diii
def qxp (v:qxo):St:=⟨[(1,.ptr 0 0),(3,i6 v.1),(32,.fz Riii v.2.1),(33,i6 v.2.2.1),(34,i6 v.2.2.2.1),(35,.bool v.2.2.2.2.1)],[.cells [i6 v.2.2.2.2.2.1,.fz Riii v.2.2.2.2.2.2]]⟩
def qxq (C:qwt) (v:qxk):Dt qxo:=(Dt.ret (v.1,v.2.1,v.2.2.1,v.2.2.2.1,(decide (v.2.2.2.1<v.2.2.1)),v.2.2.2.2.1,v.2.2.2.2.2))
theorem qxr C v:q346 (regO (qea f24) 7) false [(1,(.box [.any,.val Riii])),(3,.any),(32,(.val Riii)),(33,.any),(34,.any),(35,.any)] qxl qxq qxp C v:=rgI (by kernel_rfl)
abbrev qxs:Type:=Int×List Diii×Int×Int×Int×List Diii×Int×Int×Int
def qxt (v:qxs):St:=⟨[(1,.ptr 0 0),(3,i6 v.1),(5,.ptr 1 0),(32,.fz Riii v.2.1),(33,i6 v.2.2.1),(34,i6 v.2.2.2.1)],[.cells [i6 v.2.2.2.2.1,.fz Riii v.2.2.2.2.2.1],.cells [i6 v.2.2.2.2.2.2.1,i6 v.2.2.2.2.2.2.2.1,i6 v.2.2.2.2.2.2.2.2]]⟩
def qxu (C:qwt) (v:qxo):Dt qxs:=(Dt.ite (inB v.2.2.2.1 (List.length v.2.1)) (Dt.ret (v.1,v.2.1,v.2.2.1,v.2.2.2.1,v.2.2.2.2.2.1,v.2.2.2.2.2.2,(elt ziii v.2.1 (v.2.2.2.1).toNat).1,(elt ziii v.2.1 (v.2.2.2.1).toNat).2.1,(elt ziii v.2.1 (v.2.2.2.1).toNat).2.2.1)) Dt.fail)
theorem qxv C v:q346 (regO (qea f24) 8) false [(1,(.box [.any,.val Riii])),(3,.any),(5,.any),(32,(.val Riii)),(33,.any),(34,.any)] qxp qxu qxt C v:=rgI (by kernel_rfl)
abbrev qxw:Type:=Int×List Diii×Int×Int×Bool×Int×List Diii
def qxx (v:qxw):St:=⟨[(1,.ptr 0 0),(3,i6 v.1),(32,.fz Riii v.2.1),(33,i6 v.2.2.1),(34,i6 v.2.2.2.1),(62,.bool v.2.2.2.2.1)],[.cells [i6 v.2.2.2.2.2.1,.fz Riii v.2.2.2.2.2.2]]⟩
def qxy (C:qwt) (v:qxs):Dt qxw:=(Dt.ite (decide ((tmin v.2.2.2.2.2.2.2.1 v.2.2.2.2.2.2.2.2)<(-1:Int))) (Dt.ret (v.1,v.2.1,v.2.2.1,v.2.2.2.1,true,v.2.2.2.2.1,v.2.2.2.2.2.1)) (Dt.ite (decide ((tmax v.2.2.2.2.2.2.2.1 v.2.2.2.2.2.2.2.2)≥v.1)) (Dt.ret (v.1,v.2.1,v.2.2.1,v.2.2.2.1,true,v.2.2.2.2.1,v.2.2.2.2.2.1)) (Dt.ite (decide (v.2.2.2.2.2.2.1<(0:Int))) (Dt.ret (v.1,v.2.1,v.2.2.1,v.2.2.2.1,true,v.2.2.2.2.1,v.2.2.2.2.2.1)) (Dt.ret (v.1,v.2.1,v.2.2.1,v.2.2.2.1,(decide (v.2.2.2.2.2.2.1 > (65535:Int))),v.2.2.2.2.1,v.2.2.2.2.2.1)))))
theorem qxz C v:q346 (regO (qea f24) 9) false [(1,(.box [.any,.val Riii])),(3,.any),(32,(.val Riii)),(33,.any),(34,.any),(62,.any)] qxt qxy qxx C v:=rgI (by kernel_rfl)
def qy0 (C:qwt) (v:qxw):Dt qxa:=(Dt.ret (8:Int))
theorem qy1 C v:q346 (regO (qea f24) 10) false [(2,.any)] qxx qy0 qxb C v:=rgI (by kernel_rfl)
def qy2 (C:qwt) (v:qxw):Dt qxk:=(Dt.ret (v.1,v.2.1,v.2.2.1,(IntKind.wrap .i64 (v.2.2.2.1+(1:Int))),v.2.2.2.2.2.1,v.2.2.2.2.2.2))
theorem qy3 C v:q346 (regO (qea f24) 11) false [(1,(.box [.any,.val Riii])),(3,.any),(32,(.val Riii)),(33,.any),(34,.any)] qxx qy2 qxl C v:=rgI (by kernel_rfl)
abbrev qy4:Type:=Int×Bool×Int×List Diii×List Di
def qy5 (v:qy4):St:=⟨[(1,.ptr 0 0),(3,i6 v.1),(6,.rs 1),(7,.bool v.2.1)],[.cells [i6 v.2.2.1,.fz Riii v.2.2.2.1],.rows Ri v.2.2.2.2]⟩
def qy6 (C:qwt) (v:qxo):Dt qy4:=(Dt.bnd (C.1 ((v.2.2.2.2.2.1,v.2.2.2.2.2.2,()),())) fun r1=>(Dt.ret (v.1,r1.2,v.2.2.2.2.2.1,v.2.2.2.2.2.2,r1.1)))
theorem qy7 C v:q346 (regO (qea f24) 12) false [(1,(.box [.any,.val Riii])),(3,.any),(6,(.own Ri)),(7,.any)] qxp qy6 qy5 C v:=rgI (by kernel_rfl)
abbrev qy8:Type:=Int×Bool×Int×List Diii×List Di
def qy9 (v:qy8):St:=⟨[(1,.ptr 0 0),(3,i6 v.1),(6,.rs 1),(76,.bool v.2.1)],[.cells [i6 v.2.2.1,.fz Riii v.2.2.2.1],.rows Ri v.2.2.2.2]⟩
def qya (C:qwt) (v:qy4):Dt qy8:=(Dt.ite (!v.2.1) (Dt.ret (v.1,true,v.2.2.1,v.2.2.2.1,v.2.2.2.2)) (Dt.ret (v.1,((List.length v.2.2.2.2:Int) != v.1),v.2.2.1,v.2.2.2.1,v.2.2.2.2)))
theorem qyb C v:q346 (regO (qea f24) 13) false [(1,(.box [.any,.val Riii])),(3,.any),(6,(.own Ri)),(76,.any)] qy5 qya qy9 C v:=rgI (by kernel_rfl)
def qyc (C:qwt) (v:qy8):Dt qxa:=(Dt.ret (8:Int))
theorem qyd C v:q346 (regO (qea f24) 14) false [(2,.any)] qy9 qyc qxb C v:=rgI (by kernel_rfl)
abbrev qye:Type:=Int×Int×Int×List Diii×List Di
def qyf (v:qye):St:=⟨[(1,.ptr 0 0),(3,i6 v.1),(6,.rs 1),(8,i6 v.2.1)],[.cells [i6 v.2.2.1,.fz Riii v.2.2.2.1],.rows Ri v.2.2.2.2]⟩
def qyg (C:qwt) (v:qy8):Dt qye:=(Dt.ret (v.1,(1:Int),v.2.2.1,v.2.2.2.1,v.2.2.2.2))
theorem qyh C v:q346 (regO (qea f24) 15) false [(1,(.box [.any,.val Riii])),(3,.any),(6,(.own Ri)),(8,.any)] qy9 qyg qyf C v:=rgI (by kernel_rfl)
abbrev qyi:Type:=Int×Int×Bool×Int×List Diii×List Di
def qyj (v:qyi):St:=⟨[(1,.ptr 0 0),(3,i6 v.1),(6,.rs 1),(8,i6 v.2.1),(79,.bool v.2.2.1)],[.cells [i6 v.2.2.2.1,.fz Riii v.2.2.2.2.1],.rows Ri v.2.2.2.2.2]⟩
def qyk (C:qwt) (v:qye):Dt qyi:=(Dt.ret (v.1,v.2.1,(decide (v.2.1<v.1)),v.2.2.1,v.2.2.2.1,v.2.2.2.2))
theorem qyl C v:q346 (regO (qea f24) 16) false [(1,(.box [.any,.val Riii])),(3,.any),(6,(.own Ri)),(8,.any),(79,.any)] qyf qyk qyj C v:=rgI (by kernel_rfl)
abbrev qym:Type:=Int×Int×Bool×Int×List Diii×List Di
def qyn (v:qym):St:=⟨[(1,.ptr 0 0),(3,i6 v.1),(6,.rs 1),(8,i6 v.2.1),(101,.bool v.2.2.1)],[.cells [i6 v.2.2.2.1,.fz Riii v.2.2.2.2.1],.rows Ri v.2.2.2.2.2]⟩
def qyo (C:qwt) (v:qyi):Dt qym:=(Dt.ite (inB (IntKind.wrap .i64 (v.2.1 - (1:Int))) (List.length v.2.2.2.2.2)) (Dt.ite (inB (elt zi v.2.2.2.2.2 ((IntKind.wrap .i64 (v.2.1 - (1:Int)))).toNat).1 (List.length v.2.2.2.2.1)) (Dt.ite (inB v.2.1 (List.length v.2.2.2.2.2)) (Dt.ite (inB (elt zi v.2.2.2.2.2 (v.2.1).toNat).1 (List.length v.2.2.2.2.1)) (Dt.ret (v.1,v.2.1,(decide ((elt ziii v.2.2.2.2.1 ((elt zi v.2.2.2.2.2 ((IntKind.wrap .i64 (v.2.1 - (1:Int)))).toNat).1).toNat).1≥(elt ziii v.2.2.2.2.1 ((elt zi v.2.2.2.2.2 (v.2.1).toNat).1).toNat).1)),v.2.2.2.1,v.2.2.2.2.1,v.2.2.2.2.2)) Dt.fail) Dt.fail) Dt.fail) Dt.fail)
theorem qyp C v:q346 (regO (qea f24) 18) true [(1,(.box [.any,.val Riii])),(3,.any),(6,(.own Ri)),(8,.any),(101,.any)] qyj qyo qyn C v:=rgI (by kernel_rfl)
def qyq (C:qwt) (v:qym):Dt qxa:=(Dt.ret (8:Int))
theorem qyr C v:q346 (regO (qea f24) 19) false [(2,.any)] qyn qyq qxb C v:=rgI (by kernel_rfl)
def qys (C:qwt) (v:qym):Dt qye:=(Dt.ret (v.1,(IntKind.wrap .i64 (v.2.1+(1:Int))),v.2.2.2.1,v.2.2.2.2.1,v.2.2.2.2.2))
theorem qyt C v:q346 (regO (qea f24) 17) false [(1,(.box [.any,.val Riii])),(3,.any),(6,(.own Ri)),(8,.any)] qyn qys qyf C v:=rgI (by kernel_rfl)
def qyu (C:qwt) (v:qyi):Dt qxa:=(Dt.ret (0:Int))
theorem qyv C v:q346 (regO (qea f24) 20) false [(2,.any)] qyj qyu qxb C v:=rgI (by kernel_rfl)
def qyw (d:Nat) (self2:(Int×Int×Int×List Diii×List Di)→Option qwq) (x2:Int×Int×Int×List Diii×List Di):Option qwq :=
 (qyk (qwu d) x2).eval fun y16 =>
 bif y16.2.2.1 then ((qyo (qwu d) y16).eval fun y18 =>
 bif y18.2.2.1 then ((qyq (qwu d) y18).eval fun y19 =>
 some y19) else ((qys (qwu d) y18).eval fun y17 =>
 self2 y17)) else ((qyu (qwu d) y16).eval fun y20 =>
 some y20)
def qyx (d:Nat) (self1:(Int×List Diii×Int×Int×Int×List Diii)→Option qwq) (x1:Int×List Diii×Int×Int×Int×List Diii):Option qwq :=
 (qxq (qwu d) x1).eval fun y7 =>
 bif y7.2.2.2.2.1 then ((qxu (qwu d) y7).eval fun y8 =>
 (qxy (qwu d) y8).eval fun y9 =>
 bif y9.2.2.2.2.1 then ((qy0 (qwu d) y9).eval fun y10 =>
 some y10) else ((qy2 (qwu d) y9).eval fun y11 =>
 self1 y11)) else ((qy6 (qwu d) y7).eval fun y12 =>
 (qya (qwu d) y12).eval fun y13 =>
 bif y13.2.1 then ((qyc (qwu d) y13).eval fun y14 =>
 some y14) else ((qyg (qwu d) y13).eval fun y15 =>
 iter (qyw d ) d y15))
def qyy (d:Nat) (x:qwp):Option qwq :=
 (qx0 (qwu d) (x.1.1,x.1.2.1)).eval fun y0 =>
 (qx4 (qwu d) y0).eval fun y1 =>
 (qx8 (qwu d) y1).eval fun y2 =>
 bif y2.2.1 then ((qxc (qwu d) y2).eval fun y3 =>
 some y3) else ((qxg (qwu d) y2).eval fun y4 =>
 bif y4.2.1 then ((qxi (qwu d) y4).eval fun y5 =>
 some y5) else ((qxm (qwu d) y4).eval fun y6 =>
 iter (qyx d ) d y6))
theorem qyz (d:Nat):COK prog (qws (qyy d)):=by
 have hm:prog.follows .mixedOrders=true:=mixed
 have hT:=tys
 have hC0:OrcOK prog (orc (qwv (qwu d))):=qe4 (by
  intro S hS
  simp only [qwv,List.mem_cons,List.not_mem_nil,or_false] at hS
  subst hS;exact qwn d)
 have hC:OrcOK prog (orc (qwv (qwu d))):=hC0
 refine q9t (c:=qea f24) (fn:=f24) hT (by kernel_rfl) (by kernel_rfl) (by decide) fun x r h w0 φ0 Q hend=>?_
 replace h:qyy d x=some r:=h
 unfold qyy at h
 show Run prog w0 φ0 102 (qea f24) ⟨[(0,.agg [.int .i64 x.1.1,.fz Riii x.1.2.1])],[]⟩ Q
 refine q344 hm hT hC (qx1 (qwu d) (x.1.1,x.1.2.1)) h fun y0 h=>?_
 refine q344 hm hT hC (qx5 (qwu d) y0) h fun y1 h=>?_
 refine q9d ?_
 refine q344 hm hT hC (qx9 (qwu d) y1) h fun y2 h=>?_
 refine q9h (v:=y2.2.1) (by kernel_rfl) h ?_ ?_
 ·
  intro h
  refine q344 hm hT hC (qxd (qwu d) y2) h fun y3 h=>?_
  refine q9c (q91 ?_)
  cases h
  exact (hend _ (by kernel_rfl)).2
 ·
  intro h
  refine q99 (q8z (q9d ?_))
  refine q344 hm hT hC (qxh (qwu d) y2) h fun y4 h=>?_
  refine q9h (v:=y4.2.1) (by kernel_rfl) h ?_ ?_
  ·
   intro h
   refine q344 hm hT hC (qxj (qwu d) y4) h fun y5 h=>?_
   refine q9c (q91 ?_)
   cases h
   exact (hend _ (by kernel_rfl)).2
  ·
   intro h
   refine q99 (q8z (q9d ?_))
   refine q344 hm hT hC (qxn (qwu d) y4) h fun y6 h=>?_
   refine q9e ?_
   refine q9j (G:=iter (qyx d )) (S:=(fun x1=>⟨[(1,.ptr 0 0),(3,i6 x1.1),(32,.fz Riii x1.2.1),(33,i6 x1.2.2.1),(34,i6 x1.2.2.2.1)],[.cells [i6 x1.2.2.2.2.1,.fz Riii x1.2.2.2.2.2]]⟩:Int×List Diii×Int×Int×Int×List Diii→St)) (fun _=>rfl) ?_ d _ h
   intro n1 x1 h K1 hn1
   replace h:qyx d  (iter (qyx d ) n1) x1=some r:=h
   generalize iter (qyx d ) n1=self1 at h hn1
   unfold qyx at h
   refine q344 hm hT hC (qxr (qwu d) x1) h fun y7 h=>?_
   refine q9d ?_
   refine q9h (v:=y7.2.2.2.2.1) (by kernel_rfl) h ?_ ?_
   ·
    intro h
    refine q99 (q8z (q9d (q9e ?_)))
    refine q344 hm hT hC (qxv (qwu d) y7) h fun y8 h=>?_
    refine q344 hm hT hC (qxz (qwu d) y8) h fun y9 h=>?_
    refine q9h (v:=y9.2.2.2.2.1) (by kernel_rfl) h ?_ ?_
    ·
     intro h
     refine q344 hm hT hC (qy1 (qwu d) y9) h fun y10 h=>?_
     refine q9c (q93 (q91 (q91 (q93 (q91 ?_)))))
     cases h
     exact (hend _ (by kernel_rfl)).2
    ·
     intro h
     refine q99 (q92 (q8z ?_))
     refine q9i hm hT hC (qy3 (qwu d) y9) h ?_
     intro y11 h
     exact hn1 _ h
   ·
    intro h
    refine q9b (q90 (q90 (q94 (q8z ?_))))
    refine q344 hm hT hC (qy7 (qwu d) y7) h fun y12 h=>?_
    refine q9d ?_
    refine q344 hm hT hC (qyb (qwu d) y12) h fun y13 h=>?_
    refine q9h (v:=y13.2.1) (by kernel_rfl) h ?_ ?_
    ·
     intro h
     refine q344 hm hT hC (qyd (qwu d) y13) h fun y14 h=>?_
     refine q9c (q91 ?_)
     cases h
     exact (hend _ (by kernel_rfl)).2
    ·
     intro h
     refine q99 (q8z (q9d ?_))
     refine q344 hm hT hC (qyh (qwu d) y13) h fun y15 h=>?_
     refine q9e ?_
     refine q9j (G:=iter (qyw d )) (S:=(fun x2=>⟨[(1,.ptr 0 0),(3,i6 x2.1),(6,.rs 1),(8,i6 x2.2.1)],[.cells [i6 x2.2.2.1,.fz Riii x2.2.2.2.1],.rows Ri x2.2.2.2.2]⟩:Int×Int×Int×List Diii×List Di→St)) (fun _=>rfl) ?_ d _ h
     intro n2 x2 h K2 hn2
     replace h:qyw d  (iter (qyw d ) n2) x2=some r:=h
     generalize iter (qyw d ) n2=self2 at h hn2
     unfold qyw at h
     refine q9d ?_
     refine q344 hm hT hC (qyl (qwu d) x2) h fun y16 h=>?_
     refine q9h (v:=y16.2.2.1) (by kernel_rfl) h ?_ ?_
     ·
      intro h
      refine q99 (q8z (q9d (q9e ?_)))
      refine q344 hm hT hC (qyp (qwu d) y16) h fun y18 h=>?_
      refine q9h (v:=y18.2.2.1) (by kernel_rfl) h ?_ ?_
      ·
       intro h
       refine q344 hm hT hC (qyr (qwu d) y18) h fun y19 h=>?_
       refine q9c (q93 (q91 (q91 (q93 (q91 ?_)))))
       cases h
       exact (hend _ (by kernel_rfl)).2
      ·
       intro h
       refine q99 (q92 (q8z ?_))
       refine q9i hm hT hC (qyt (qwu d) y18) h ?_
       intro y17 h
       exact hn2 _ h
     ·
      intro h
      refine q9b (q90 (q90 (q94 (q8z ?_))))
      refine q344 hm hT hC (qyv (qwu d) y16) h fun y20 h=>?_
      refine q9c ?_
      cases h
      exact (hend _ (by kernel_rfl)).2
abbrev q127:List Pk:=[.row qks true,.row Rii true]
abbrev q128:Type:=qkt×Dii×Unit
abbrev q129:Type:=Int
def q12a (r:q129):LV×List Ob:=(.int .i64 r,[])
def q12b (F:q128→Option q129):Go.Tx.Spec:=⟨45,q127,q129,F,q12a⟩
abbrev q12c:Type:=(qqb→Option qqc)×(qob→Option qoc)×Unit
def q12d (d:Nat):q12c:=(qqg d,qog d,())
def q12e (C:q12c):List Go.Tx.Spec:=[qqe C.1,qoe C.2.1]
abbrev q12f:Type:=List Diii×Int×Int
def q12g (v:q12f):St:=⟨[(0,.agg [.fz Riii v.1]),(1,.agg [i6 v.2.1,i6 v.2.2])],[]⟩
abbrev q12h:Type:=List Diii×Int×Int
def q12i (v:q12h):St:=⟨[(2,.ptr 0 0),(3,.ptr 1 0)],[.cells [.fz Riii v.1],.cells [i6 v.2.1,i6 v.2.2]]⟩
def q12j (C:q12c) (v:q12f):Dt q12h:=(Dt.ret (v.1,v.2.1,v.2.2))
abbrev q349 {V Y:Type}:=@rg q12c V Y tysT (fun C=>(orc (q12e C))) 13
theorem q12k C v:q349 (regO (qea f45) 0) false [(2,(.box [.val Riii])),(3,.any)] q12g q12j q12i C v:=rgI (by kernel_rfl)
abbrev q12l:Type:=Int×Int×Int
def q12m (v:q12l):St:=⟨[(3,.ptr 0 0),(5,i6 v.1)],[.cells [i6 v.2.1,i6 v.2.2]]⟩
def q12n (C:q12c) (v:q12h):Dt q12l:=(Dt.bnd (C.1 ((v.1,()),())) fun r1=>(Dt.ret (r1,v.2.1,v.2.2)))
theorem q12o C v:q349 (regO (qea f45) 1) false (an [3,5]) q12i q12n q12m C v:=rgI (by kernel_rfl)
abbrev q12p:Type:=Int×Bool×Int×Int
def q12q (v:q12p):St:=⟨[(3,.ptr 0 0),(5,i6 v.1),(9,.bool v.2.1)],[.cells [i6 v.2.2.1,i6 v.2.2.2]]⟩
def q12r (C:q12c) (v:q12l):Dt q12p:=(Dt.ret (v.1,(v.1 != (0:Int)),v.2.1,v.2.2))
theorem q12s C v:q349 (regO (qea f45) 2) false (an [3,5,9]) q12m q12r q12q C v:=rgI (by kernel_rfl)
abbrev q12t:Type:=Int
def q12u (v:q12t):St:=⟨[(4,i6 v)],[]⟩
def q12v (C:q12c) (v:q12p):Dt q12t:=(Dt.ret v.1)
theorem q12w C v:q349 (regO (qea f45) 3) false [(4,.any)] q12q q12v q12u C v:=rgI (by kernel_rfl)
def q12x (C:q12c) (v:q12p):Dt q12t:=(Dt.bnd (C.2.1 ((v.2.2.1,v.2.2.2,()),())) fun r1=>(Dt.ret r1))
theorem q12y C v:q349 (regO (qea f45) 4) false [(4,.any)] q12q q12x q12u C v:=rgI (by kernel_rfl)
def q12z (d:Nat) (x:q128):Option q129 :=
 (q12j (q12d d) (x.1.1,x.2.1.1,x.2.1.2.1)).eval fun y0 =>
 (q12n (q12d d) y0).eval fun y1 =>
 (q12r (q12d d) y1).eval fun y2 =>
 bif y2.2.1 then ((q12v (q12d d) y2).eval fun y3 =>
 some y3) else ((q12x (q12d d) y2).eval fun y4 =>
 some y4)
theorem q130 (d:Nat):COK prog (q12b (q12z d)):=by
 have hm:prog.follows .mixedOrders=true:=mixed
 have hT:=tys
 have hC0:OrcOK prog (orc (q12e (q12d d))):=qe4 (by
  intro S hS
  simp only [q12e,List.mem_cons,List.not_mem_nil,or_false] at hS
  rcases hS with rfl | rfl
  · exact qqi d
  · exact qoi d)
 have hC:OrcOK prog (orc (q12e (q12d d))):=hC0
 refine q9t (c:=qea f45) (fn:=f45) hT (by kernel_rfl) (by kernel_rfl) (by decide) fun x r h w0 φ0 Q hend=>?_
 replace h:q12z d x=some r:=h
 unfold q12z at h
 show Run prog w0 φ0 13 (qea f45) ⟨[(0,.agg [.fz Riii x.1.1]),(1,.agg [.int .i64 x.2.1.1,.int .i64 x.2.1.2.1])],[]⟩ Q
 refine q344 hm hT hC (q12k (q12d d) (x.1.1,x.2.1.1,x.2.1.2.1)) h fun y0 h=>?_
 refine q9d ?_
 refine q344 hm hT hC (q12o (q12d d) y0) h fun y1 h=>?_
 refine q344 hm hT hC (q12s (q12d d) y1) h fun y2 h=>?_
 refine q9h (v:=y2.2.1) (by kernel_rfl) h ?_ ?_
 ·
  intro h
  refine q344 hm hT hC (q12w (q12d d) y2) h fun y3 h=>?_
  refine q9c (q91 ?_)
  cases h
  exact (hend _ (by kernel_rfl)).2
 ·
  intro h
  refine q99 (q8z ?_)
  refine q344 hm hT hC (q12y (q12d d) y2) h fun y4 h=>?_
  refine q9c ?_
  cases h
  exact (hend _ (by kernel_rfl)).2
end Go.Proofs.Ytoakhncbmpdacaa

namespace Go.Proofs.Ytoakhncbmpdacaa
open Go Go.Tx Go.Proofs.Try
set_option maxRecDepth 100000
set_option maxHeartbeats 0
abbrev q1ap:List Pk:=[.row qkv true]
abbrev q1aq:Type:=qkw×Unit
abbrev q1ar:Type:=Int×List Diii
def q1as (r:q1ar):LV×List Ob:=(.agg [.int .i64 r.1,.rs 0],[.rows Riii r.2])
def q1at (F:q1aq→Option q1ar):Go.Tx.Spec:=⟨11,q1ap,q1ar,F,q1as⟩
abbrev q1au:Type:=Unit
def q1av (_d:Nat):q1au:=()
def q1aw (C:q1au):List Go.Tx.Spec:=[]
abbrev q1ax:Type:=Int×List Diii
def q1ay (v:q1ax):St:=⟨[(0,.agg [i6 v.1,.fz Riii v.2])],[]⟩
abbrev q1az:Type:=Int×List Diii×Int×List Diii
def q1b0 (v:q1az):St:=⟨[(1,.ptr 0 0),(2,.ptr 1 0)],[.cells [i6 v.1,.fz Riii v.2.1],.cells [i6 v.2.2.1,.rs 2],.rows Riii v.2.2.2]⟩
def q1b1 (C:q1au) (v:q1ax):Dt q1az:=(Dt.ret (v.1,v.2,(0:Int),([]:List Diii)))
abbrev q34f {V Y:Type}:=@rg q1au V Y tysT (fun C=>(orc (q1aw C))) 10
theorem q1b2 C v:q34f (regO (qea f11) 0) false [(1,(.box [.any,.val Riii])),(2,(.box [.any,.own Riii]))] q1ay q1b1 q1b0 C v:=rgI (by kernel_rfl)
abbrev q1b3:Type:=Int×List Diii
def q1b4 (v:q1b3):St:=⟨[(2,.ptr 0 0)],[.cells [i6 v.1,.rs 1],.rows Riii v.2]⟩
def q1b5 (C:q1au) (v:q1az):Dt q1b3:=(Dt.ite (apB (List.length ([]:List Diii)) (List.length v.2.1)) (Dt.ret (v.1,(([]:List Diii)++v.2.1))) Dt.fail)
theorem q1b6 C v:q34f (regO (qea f11) 1) true [(2,(.box [.any,.own Riii]))] q1b0 q1b5 q1b4 C v:=rgI (by kernel_rfl)
def q1b7 (d:Nat) (x:q1aq):Option q1ar :=
 (q1b1 (q1av d) (x.1.1,x.1.2.1)).eval fun y0 =>
 (q1b5 (q1av d) y0).eval fun y1 =>
 some y1
theorem q1b8 (d:Nat):COK prog (q1at (q1b7 d)):=by
 have hm:prog.follows .mixedOrders=true:=mixed
 have hT:=tys
 have hC0:OrcOK prog (orc (q1aw (q1av d))):=qe4 (by
  intro S hS
  simp only [q1aw,List.mem_cons,List.not_mem_nil,or_false] at hS
  all_goals first | cases hS | exact hS.elim)
 have hC:OrcOK prog (orc (q1aw (q1av d))):=hC0
 refine q9t (c:=qea f11) (fn:=f11) hT (by kernel_rfl) (by kernel_rfl) (by decide) fun x r h w0 φ0 Q hend=>?_
 replace h:q1b7 d x=some r:=h
 unfold q1b7 at h
 show Run prog w0 φ0 10 (qea f11) ⟨[(0,.agg [.int .i64 x.1.1,.fz Riii x.1.2.1])],[]⟩ Q
 refine q344 hm hT hC (q1b2 (q1av d) (x.1.1,x.1.2.1)) h fun y0 h=>?_
 refine q344 hm hT hC (q1b6 (q1av d) y0) h fun y1 h=>?_
 refine q9c ?_
 cases h
 exact (hend _ (by kernel_rfl)).2
abbrev q1b9:List Pk:=[.row qkv true,.row qkv true]
abbrev q1ba:Type:=qkw×qkw×Unit
abbrev q1bb:Type:=Bool
def q1bc (r:q1bb):LV×List Ob:=(.bool r,[])
def q1bd (F:q1ba→Option q1bb):Go.Tx.Spec:=⟨23,q1b9,q1bb,F,q1bc⟩
abbrev q1be:Type:=Unit
def q1bf (_d:Nat):q1be:=()
def q1bg (C:q1be):List Go.Tx.Spec:=[]
abbrev q1bh:Type:=Int×List Diii×Int×List Diii
def q1bi (v:q1bh):St:=⟨[(0,.agg [i6 v.1,.fz Riii v.2.1]),(1,.agg [i6 v.2.2.1,.fz Riii v.2.2.2])],[]⟩
abbrev q1bj:Type:=Int×List Diii×Int×List Diii
def q1bk (v:q1bj):St:=⟨[(2,.ptr 0 0),(3,.ptr 1 0)],[.cells [i6 v.1,.fz Riii v.2.1],.cells [i6 v.2.2.1,.fz Riii v.2.2.2]]⟩
def q1bl (C:q1be) (v:q1bh):Dt q1bj:=(Dt.ret (v.1,v.2.1,v.2.2.1,v.2.2.2))
abbrev q34g {V Y:Type}:=@rg q1be V Y tysT (fun C=>(orc (q1bg C))) 38
theorem q1bm C v:q34g (regO (qea f23) 0) false [(2,(.box [.any,.val Riii])),(3,(.box [.any,.val Riii]))] q1bi q1bl q1bk C v:=rgI (by kernel_rfl)
abbrev q1bn:Type:=Bool×Int×List Diii×Int×List Diii
def q1bo (v:q1bn):St:=⟨[(2,.ptr 0 0),(3,.ptr 1 0),(19,.bool v.1)],[.cells [i6 v.2.1,.fz Riii v.2.2.1],.cells [i6 v.2.2.2.1,.fz Riii v.2.2.2.2]]⟩
def q1bp (C:q1be) (v:q1bj):Dt q1bn:=(Dt.ite (v.1 != v.2.2.1) (Dt.ret (true,v.1,v.2.1,v.2.2.1,v.2.2.2)) (Dt.ret (((List.length v.2.1:Int) != (List.length v.2.2.2:Int)),v.1,v.2.1,v.2.2.1,v.2.2.2)))
theorem q1bq C v:q34g (regO (qea f23) 1) false [(2,(.box [.any,.val Riii])),(3,(.box [.any,.val Riii])),(19,.any)] q1bk q1bp q1bo C v:=rgI (by kernel_rfl)
abbrev q1br:Type:=Bool
def q1bs (v:q1br):St:=⟨[(4,.bool v)],[]⟩
def q1bt (C:q1be) (v:q1bn):Dt q1br:=(Dt.ret false)
theorem q1bu C v:q34g (regO (qea f23) 2) false [(4,.any)] q1bo q1bt q1bs C v:=rgI (by kernel_rfl)
abbrev q1bv:Type:=Int×Int×List Diii×Int×List Diii
def q1bw (v:q1bv):St:=⟨[(2,.ptr 0 0),(3,.ptr 1 0),(5,i6 v.1)],[.cells [i6 v.2.1,.fz Riii v.2.2.1],.cells [i6 v.2.2.2.1,.fz Riii v.2.2.2.2]]⟩
def q1bx (C:q1be) (v:q1bn):Dt q1bv:=(Dt.ret ((0:Int),v.2.1,v.2.2.1,v.2.2.2.1,v.2.2.2.2))
theorem q1by C v:q34g (regO (qea f23) 3) false [(2,(.box [.any,.val Riii])),(3,(.box [.any,.val Riii])),(5,.any)] q1bo q1bx q1bw C v:=rgI (by kernel_rfl)
abbrev q1bz:Type:=Int×Bool×Int×List Diii×Int×List Diii
def q1c0 (v:q1bz):St:=⟨[(2,.ptr 0 0),(3,.ptr 1 0),(5,i6 v.1),(24,.bool v.2.1)],[.cells [i6 v.2.2.1,.fz Riii v.2.2.2.1],.cells [i6 v.2.2.2.2.1,.fz Riii v.2.2.2.2.2]]⟩
def q1c1 (C:q1be) (v:q1bv):Dt q1bz:=(Dt.ret (v.1,(decide (v.1<(List.length v.2.2.1:Int))),v.2.1,v.2.2.1,v.2.2.2.1,v.2.2.2.2))
theorem q1c2 C v:q34g (regO (qea f23) 4) false [(2,(.box [.any,.val Riii])),(3,(.box [.any,.val Riii])),(5,.any),(24,.any)] q1bw q1c1 q1c0 C v:=rgI (by kernel_rfl)
abbrev q1c3:Type:=Int×Bool×Int×List Diii×Int×List Diii
def q1c4 (v:q1c3):St:=⟨[(2,.ptr 0 0),(3,.ptr 1 0),(5,i6 v.1),(37,.bool v.2.1)],[.cells [i6 v.2.2.1,.fz Riii v.2.2.2.1],.cells [i6 v.2.2.2.2.1,.fz Riii v.2.2.2.2.2]]⟩
def q1c5 (C:q1be) (v:q1bz):Dt q1c3:=(Dt.ite (inB v.1 (List.length v.2.2.2.1)) (Dt.ite (inB v.1 (List.length v.2.2.2.2.2)) (Dt.ret (v.1,(!(((elt ziii v.2.2.2.1 (v.1).toNat).1 == (elt ziii v.2.2.2.2.2 (v.1).toNat).1)&&(((elt ziii v.2.2.2.1 (v.1).toNat).2.1 == (elt ziii v.2.2.2.2.2 (v.1).toNat).2.1)&&(((elt ziii v.2.2.2.1 (v.1).toNat).2.2.1 == (elt ziii v.2.2.2.2.2 (v.1).toNat).2.2.1)&&true)))),v.2.2.1,v.2.2.2.1,v.2.2.2.2.1,v.2.2.2.2.2)) Dt.fail) Dt.fail)
theorem q1c6 C v:q34g (regO (qea f23) 6) true [(2,(.box [.any,.val Riii])),(3,(.box [.any,.val Riii])),(5,.any),(37,.any)] q1c0 q1c5 q1c4 C v:=rgI (by kernel_rfl)
def q1c7 (C:q1be) (v:q1c3):Dt q1br:=(Dt.ret false)
theorem q1c8 C v:q34g (regO (qea f23) 7) false [(4,.any)] q1c4 q1c7 q1bs C v:=rgI (by kernel_rfl)
def q1c9 (C:q1be) (v:q1c3):Dt q1bv:=(Dt.ret ((IntKind.wrap .i64 (v.1+(1:Int))),v.2.2.1,v.2.2.2.1,v.2.2.2.2.1,v.2.2.2.2.2))
theorem q1ca C v:q34g (regO (qea f23) 5) false [(2,(.box [.any,.val Riii])),(3,(.box [.any,.val Riii])),(5,.any)] q1c4 q1c9 q1bw C v:=rgI (by kernel_rfl)
def q1cb (C:q1be) (v:q1bz):Dt q1br:=(Dt.ret true)
theorem q1cc C v:q34g (regO (qea f23) 8) false [(4,.any)] q1c0 q1cb q1bs C v:=rgI (by kernel_rfl)
def q1cd (d:Nat) (self1:(Int×Int×List Diii×Int×List Diii)→Option q1bb) (x1:Int×Int×List Diii×Int×List Diii):Option q1bb :=
 (q1c1 (q1bf d) x1).eval fun y4 =>
 bif y4.2.1 then ((q1c5 (q1bf d) y4).eval fun y6 =>
 bif y6.2.1 then ((q1c7 (q1bf d) y6).eval fun y7 =>
 some y7) else ((q1c9 (q1bf d) y6).eval fun y5 =>
 self1 y5)) else ((q1cb (q1bf d) y4).eval fun y8 =>
 some y8)
def q1ce (d:Nat) (x:q1ba):Option q1bb :=
 (q1bl (q1bf d) (x.1.1,x.1.2.1,x.2.1.1,x.2.1.2.1)).eval fun y0 =>
 (q1bp (q1bf d) y0).eval fun y1 =>
 bif y1.1 then ((q1bt (q1bf d) y1).eval fun y2 =>
 some y2) else ((q1bx (q1bf d) y1).eval fun y3 =>
 iter (q1cd d ) d y3)
theorem q1cf (d:Nat):COK prog (q1bd (q1ce d)):=by
 have hm:prog.follows .mixedOrders=true:=mixed
 have hT:=tys
 have hC0:OrcOK prog (orc (q1bg (q1bf d))):=qe4 (by
  intro S hS
  simp only [q1bg,List.mem_cons,List.not_mem_nil,or_false] at hS
  all_goals first | cases hS | exact hS.elim)
 have hC:OrcOK prog (orc (q1bg (q1bf d))):=hC0
 refine q9t (c:=qea f23) (fn:=f23) hT (by kernel_rfl) (by kernel_rfl) (by decide) fun x r h w0 φ0 Q hend=>?_
 replace h:q1ce d x=some r:=h
 unfold q1ce at h
 show Run prog w0 φ0 38 (qea f23) ⟨[(0,.agg [.int .i64 x.1.1,.fz Riii x.1.2.1]),(1,.agg [.int .i64 x.2.1.1,.fz Riii x.2.1.2.1])],[]⟩ Q
 refine q344 hm hT hC (q1bm (q1bf d) (x.1.1,x.1.2.1,x.2.1.1,x.2.1.2.1)) h fun y0 h=>?_
 refine q9d ?_
 refine q344 hm hT hC (q1bq (q1bf d) y0) h fun y1 h=>?_
 refine q9h (v:=y1.1) (by kernel_rfl) h ?_ ?_
 ·
  intro h
  refine q344 hm hT hC (q1bu (q1bf d) y1) h fun y2 h=>?_
  refine q9c (q91 ?_)
  cases h
  exact (hend _ (by kernel_rfl)).2
 ·
  intro h
  refine q99 (q8z (q9d ?_))
  refine q344 hm hT hC (q1by (q1bf d) y1) h fun y3 h=>?_
  refine q9e ?_
  refine q9j (G:=iter (q1cd d )) (S:=(fun x1=>⟨[(2,.ptr 0 0),(3,.ptr 1 0),(5,i6 x1.1)],[.cells [i6 x1.2.1,.fz Riii x1.2.2.1],.cells [i6 x1.2.2.2.1,.fz Riii x1.2.2.2.2]]⟩:Int×Int×List Diii×Int×List Diii→St)) (fun _=>rfl) ?_ d _ h
  intro n1 x1 h K1 hn1
  replace h:q1cd d  (iter (q1cd d ) n1) x1=some r:=h
  generalize iter (q1cd d ) n1=self1 at h hn1
  unfold q1cd at h
  refine q9d ?_
  refine q344 hm hT hC (q1c2 (q1bf d) x1) h fun y4 h=>?_
  refine q9h (v:=y4.2.1) (by kernel_rfl) h ?_ ?_
  ·
   intro h
   refine q99 (q8z (q9d (q9e ?_)))
   refine q344 hm hT hC (q1c6 (q1bf d) y4) h fun y6 h=>?_
   refine q9h (v:=y6.2.1) (by kernel_rfl) h ?_ ?_
   ·
    intro h
    refine q344 hm hT hC (q1c8 (q1bf d) y6) h fun y7 h=>?_
    refine q9c (q93 (q91 (q91 (q93 (q91 ?_)))))
    cases h
    exact (hend _ (by kernel_rfl)).2
   ·
    intro h
    refine q99 (q92 (q8z ?_))
    refine q9i hm hT hC (q1ca (q1bf d) y6) h ?_
    intro y5 h
    exact hn1 _ h
  ·
   intro h
   refine q9b (q90 (q90 (q94 (q8z ?_))))
   refine q344 hm hT hC (q1cc (q1bf d) y4) h fun y8 h=>?_
   refine q9c ?_
   cases h
   exact (hend _ (by kernel_rfl)).2
abbrev q1cg:List Pk:=[.row qkv true]
abbrev q1ch:Type:=qkw×Unit
abbrev q1ci:Type:=Bool
def q1cj (r:q1ci):LV×List Ob:=(.bool r,[])
def q1ck (F:q1ch→Option q1ci):Go.Tx.Spec:=⟨10,q1cg,q1ci,F,q1cj⟩
abbrev q1cl:Type:=Unit
def q1cm (_d:Nat):q1cl:=()
def q1cn (C:q1cl):List Go.Tx.Spec:=[]
abbrev q1co:Type:=Int×List Diii
def q1cp (v:q1co):St:=⟨[(0,.agg [i6 v.1,.fz Riii v.2])],[]⟩
abbrev q1cq:Type:=Int×List Diii
def q1cr (v:q1cq):St:=⟨[(1,.ptr 0 0)],[.cells [i6 v.1,.fz Riii v.2]]⟩
def q1cs (C:q1cl) (v:q1co):Dt q1cq:=(Dt.ret (v.1,v.2))
abbrev q34h {V Y:Type}:=@rg q1cl V Y tysT (fun C=>(orc (q1cn C))) 7
theorem q1ct C v:q34h (regO (qea f10) 0) false [(1,(.box [.any,.val Riii]))] q1cp q1cs q1cr C v:=rgI (by kernel_rfl)
abbrev q1cu:Type:=Bool
def q1cv (v:q1cu):St:=⟨[(2,.bool v)],[]⟩
def q1cw (C:q1cl) (v:q1cq):Dt q1cu:=(Dt.ret (decide ((List.length v.2:Int) > (70:Int))))
theorem q1cx C v:q34h (regO (qea f10) 1) false [(2,.any)] q1cr q1cw q1cv C v:=rgI (by kernel_rfl)
def q1cy (d:Nat) (x:q1ch):Option q1ci :=
 (q1cs (q1cm d) (x.1.1,x.1.2.1)).eval fun y0 =>
 (q1cw (q1cm d) y0).eval fun y1 =>
 some y1
theorem q1cz (d:Nat):COK prog (q1ck (q1cy d)):=by
 have hm:prog.follows .mixedOrders=true:=mixed
 have hT:=tys
 have hC0:OrcOK prog (orc (q1cn (q1cm d))):=qe4 (by
  intro S hS
  simp only [q1cn,List.mem_cons,List.not_mem_nil,or_false] at hS
  all_goals first | cases hS | exact hS.elim)
 have hC:OrcOK prog (orc (q1cn (q1cm d))):=hC0
 refine q9t (c:=qea f10) (fn:=f10) hT (by kernel_rfl) (by kernel_rfl) (by decide) fun x r h w0 φ0 Q hend=>?_
 replace h:q1cy d x=some r:=h
 unfold q1cy at h
 show Run prog w0 φ0 7 (qea f10) ⟨[(0,.agg [.int .i64 x.1.1,.fz Riii x.1.2.1])],[]⟩ Q
 refine q344 hm hT hC (q1ct (q1cm d) (x.1.1,x.1.2.1)) h fun y0 h=>?_
 refine q344 hm hT hC (q1cx (q1cm d) y0) h fun y1 h=>?_
 refine q9c ?_
 cases h
 exact (hend _ (by kernel_rfl)).2
abbrev q1d0:List Pk:=[.row qkv true,.row Ri false]
abbrev q1d1:Type:=qkw×Di×Unit
abbrev q1d2:Type:=Bool
def q1d3 (r:q1d2):LV×List Ob:=(.bool r,[])
def q1d4 (F:q1d1→Option q1d2):Go.Tx.Spec:=⟨56,q1d0,q1d2,F,q1d3⟩
abbrev q1d5:Type:=Unit
def q1d6 (_d:Nat):q1d5:=()
def q1d7 (C:q1d5):List Go.Tx.Spec:=[]
abbrev q1d8:Type:=Int×List Diii×Int
def q1d9 (v:q1d8):St:=⟨[(0,.agg [i6 v.1,.fz Riii v.2.1]),(1,i6 v.2.2)],[]⟩
abbrev q1da:Type:=Int×Int×List Diii
def q1db (v:q1da):St:=⟨[(1,i6 v.1),(2,.ptr 0 0)],[.cells [i6 v.2.1,.fz Riii v.2.2]]⟩
def q1dc (C:q1d5) (v:q1d8):Dt q1da:=(Dt.ret (v.2.2,v.1,v.2.1))
abbrev q34i {V Y:Type}:=@rg q1d5 V Y tysT (fun C=>(orc (q1d7 C))) 14
theorem q1dd C v:q34i (regO (qea f56) 0) false [(1,.any),(2,(.box [.any,.val Riii]))] q1d9 q1dc q1db C v:=rgI (by kernel_rfl)
abbrev q1de:Type:=Bool
def q1df (v:q1de):St:=⟨[(4,.bool v)],[]⟩
def q1dg (C:q1d5) (v:q1da):Dt q1de:=(Dt.ite (decide (v.1≥(-1:Int))) (Dt.ret (decide (v.1<(List.length v.2.2:Int)))) (Dt.ret false))
theorem q1dh C v:q34i (regO (qea f56) 1) false [(4,.any)] q1db q1dg q1df C v:=rgI (by kernel_rfl)
def q1di (d:Nat) (x:q1d1):Option q1d2 :=
 (q1dc (q1d6 d) (x.1.1,x.1.2.1,x.2.1.1)).eval fun y0 =>
 (q1dg (q1d6 d) y0).eval fun y1 =>
 some y1
theorem q1dj (d:Nat):COK prog (q1d4 (q1di d)):=by
 have hm:prog.follows .mixedOrders=true:=mixed
 have hT:=tys
 have hC0:OrcOK prog (orc (q1d7 (q1d6 d))):=qe4 (by
  intro S hS
  simp only [q1d7,List.mem_cons,List.not_mem_nil,or_false] at hS
  all_goals first | cases hS | exact hS.elim)
 have hC:OrcOK prog (orc (q1d7 (q1d6 d))):=hC0
 refine q9t (c:=qea f56) (fn:=f56) hT (by kernel_rfl) (by kernel_rfl) (by decide) fun x r h w0 φ0 Q hend=>?_
 replace h:q1di d x=some r:=h
 unfold q1di at h
 show Run prog w0 φ0 14 (qea f56) ⟨[(0,.agg [.int .i64 x.1.1,.fz Riii x.1.2.1]),(1,.int .i64 x.2.1.1)],[]⟩ Q
 refine q344 hm hT hC (q1dd (q1d6 d) (x.1.1,x.1.2.1,x.2.1.1)) h fun y0 h=>?_
 refine q344 hm hT hC (q1dh (q1d6 d) y0) h fun y1 h=>?_
 refine q9c ?_
 cases h
 exact (hend _ (by kernel_rfl)).2
abbrev q1dk:List Pk:=[.row qkv true]
abbrev q1dl:Type:=qkw×Unit
abbrev q1dm:Type:=Bool
def q1dn (r:q1dm):LV×List Ob:=(.bool r,[])
def q1do (F:q1dl→Option q1dm):Go.Tx.Spec:=⟨57,q1dk,q1dm,F,q1dn⟩
abbrev q1dp:Type:=Unit
def q1dq (_d:Nat):q1dp:=()
def q1dr (C:q1dp):List Go.Tx.Spec:=[]
abbrev q1ds:Type:=Int×List Diii
def q1dt (v:q1ds):St:=⟨[(0,.agg [i6 v.1,.fz Riii v.2])],[]⟩
abbrev q1du:Type:=Int×List Diii
def q1dv (v:q1du):St:=⟨[(1,.ptr 0 0)],[.cells [i6 v.1,.fz Riii v.2]]⟩
def q1dw (C:q1dp) (v:q1ds):Dt q1du:=(Dt.ret (v.1,v.2))
abbrev q34j {V Y:Type}:=@rg q1dp V Y tysT (fun C=>(orc (q1dr C))) 77
theorem q1dx C v:q34j (regO (qea f57) 0) false [(1,(.box [.any,.val Riii]))] q1dt q1dw q1dv C v:=rgI (by kernel_rfl)
abbrev q1dy:Type:=Int×List Diii×List Di
def q1dz (v:q1dy):St:=⟨[(1,.ptr 0 0),(3,.rs 1)],[.cells [i6 v.1,.fz Riii v.2.1],.rows Ri v.2.2]⟩
def q1e0 (C:q1dp) (v:q1du):Dt q1dy:=(Dt.ite (mkB (List.length v.2:Int) (List.length v.2:Int)) (Dt.ret (v.1,v.2,(List.replicate ((List.length v.2:Int)).toNat zi))) Dt.fail)
theorem q1e1 C v:q34j (regO (qea f57) 1) false [(1,(.box [.any,.val Riii])),(3,(.own Ri))] q1dv q1e0 q1dz C v:=rgI (by kernel_rfl)
abbrev q1e2:Type:=Int×Int×List Diii×List Di
def q1e3 (v:q1e2):St:=⟨[(1,.ptr 0 0),(3,.rs 1),(4,i6 v.1)],[.cells [i6 v.2.1,.fz Riii v.2.2.1],.rows Ri v.2.2.2]⟩
def q1e4 (C:q1dp) (v:q1dy):Dt q1e2:=(Dt.ret ((0:Int),v.1,v.2.1,v.2.2))
theorem q1e5 C v:q34j (regO (qea f57) 2) false [(1,(.box [.any,.val Riii])),(3,(.own Ri)),(4,.any)] q1dz q1e4 q1e3 C v:=rgI (by kernel_rfl)
abbrev q1e6:Type:=Int×Bool×Int×List Diii×List Di
def q1e7 (v:q1e6):St:=⟨[(1,.ptr 0 0),(3,.rs 1),(4,i6 v.1),(16,.bool v.2.1)],[.cells [i6 v.2.2.1,.fz Riii v.2.2.2.1],.rows Ri v.2.2.2.2]⟩
def q1e8 (C:q1dp) (v:q1e2):Dt q1e6:=(Dt.ret (v.1,(decide (v.1<(List.length v.2.2.1:Int))),v.2.1,v.2.2.1,v.2.2.2))
theorem q1e9 C v:q34j (regO (qea f57) 3) false [(1,(.box [.any,.val Riii])),(3,(.own Ri)),(4,.any),(16,.any)] q1e3 q1e8 q1e7 C v:=rgI (by kernel_rfl)
abbrev q1ea:Type:=Int×Int×Int×List Diii×List Di
def q1eb (v:q1ea):St:=⟨[(1,.ptr 0 0),(3,.rs 1),(4,i6 v.1),(5,i6 v.2.1)],[.cells [i6 v.2.2.1,.fz Riii v.2.2.2.1],.rows Ri v.2.2.2.2]⟩
def q1ec (C:q1dp) (v:q1e6):Dt q1ea:=(Dt.ite (inB v.1 (List.length v.2.2.2.1)) (Dt.ret (v.1,(elt ziii v.2.2.2.1 (v.1).toNat).2.1,v.2.2.1,v.2.2.2.1,v.2.2.2.2)) Dt.fail)
theorem q1ed C v:q34j (regO (qea f57) 5) false [(1,(.box [.any,.val Riii])),(3,(.own Ri)),(4,.any),(5,.any)] q1e7 q1ec q1eb C v:=rgI (by kernel_rfl)
abbrev q1ee:Type:=Int×Int×Bool×Int×List Diii×List Di
def q1ef (v:q1ee):St:=⟨[(1,.ptr 0 0),(3,.rs 1),(4,i6 v.1),(5,i6 v.2.1),(26,.bool v.2.2.1)],[.cells [i6 v.2.2.2.1,.fz Riii v.2.2.2.2.1],.rows Ri v.2.2.2.2.2]⟩
def q1eg (C:q1dp) (v:q1ea):Dt q1ee:=(Dt.ret (v.1,v.2.1,(decide (v.2.1≥(0:Int))),v.2.2.1,v.2.2.2.1,v.2.2.2.2))
theorem q1eh C v:q34j (regO (qea f57) 6) false [(1,(.box [.any,.val Riii])),(3,(.own Ri)),(4,.any),(5,.any),(26,.any)] q1eb q1eg q1ef C v:=rgI (by kernel_rfl)
def q1ei (C:q1dp) (v:q1ee):Dt q1e2:=(Dt.ite (inB v.2.1 (List.length v.2.2.2.2.2)) (Dt.ite (inB v.2.1 (List.length v.2.2.2.2.2)) (Dt.ret (v.1,v.2.2.2.1,v.2.2.2.2.1,(List.set v.2.2.2.2.2 (v.2.1).toNat ((IntKind.wrap .i64 ((elt zi v.2.2.2.2.2 (v.2.1).toNat).1+(1:Int))),())))) Dt.fail) Dt.fail)
theorem q1ej C v:q34j (regO (qea f57) 7) false [(1,(.box [.any,.val Riii])),(3,(.own Ri)),(4,.any)] q1ef q1ei q1e3 C v:=rgI (by kernel_rfl)
abbrev q1ek:Type:=Int×Int×Int×List Diii×List Di
def q1el (v:q1ek):St:=⟨[(1,.ptr 0 0),(3,.rs 1),(4,i6 v.1),(6,i6 v.2.1)],[.cells [i6 v.2.2.1,.fz Riii v.2.2.2.1],.rows Ri v.2.2.2.2]⟩
def q1em (C:q1dp) (v:q1e2):Dt q1ek:=(Dt.ite (inB v.1 (List.length v.2.2.1)) (Dt.ret (v.1,(elt ziii v.2.2.1 (v.1).toNat).2.2.1,v.2.1,v.2.2.1,v.2.2.2)) Dt.fail)
theorem q1en C v:q34j (regO (qea f57) 8) false [(1,(.box [.any,.val Riii])),(3,(.own Ri)),(4,.any),(6,.any)] q1e3 q1em q1el C v:=rgI (by kernel_rfl)
abbrev q1eo:Type:=Int×Int×Bool×Int×List Diii×List Di
def q1ep (v:q1eo):St:=⟨[(1,.ptr 0 0),(3,.rs 1),(4,i6 v.1),(6,i6 v.2.1),(40,.bool v.2.2.1)],[.cells [i6 v.2.2.2.1,.fz Riii v.2.2.2.2.1],.rows Ri v.2.2.2.2.2]⟩
def q1eq (C:q1dp) (v:q1ek):Dt q1eo:=(Dt.ret (v.1,v.2.1,(decide (v.2.1≥(0:Int))),v.2.2.1,v.2.2.2.1,v.2.2.2.2))
theorem q1er C v:q34j (regO (qea f57) 9) false [(1,(.box [.any,.val Riii])),(3,(.own Ri)),(4,.any),(6,.any),(40,.any)] q1el q1eq q1ep C v:=rgI (by kernel_rfl)
def q1es (C:q1dp) (v:q1eo):Dt q1e2:=(Dt.ite (inB v.2.1 (List.length v.2.2.2.2.2)) (Dt.ite (inB v.2.1 (List.length v.2.2.2.2.2)) (Dt.ret (v.1,v.2.2.2.1,v.2.2.2.2.1,(List.set v.2.2.2.2.2 (v.2.1).toNat ((IntKind.wrap .i64 ((elt zi v.2.2.2.2.2 (v.2.1).toNat).1+(1:Int))),())))) Dt.fail) Dt.fail)
theorem q1et C v:q34j (regO (qea f57) 10) false [(1,(.box [.any,.val Riii])),(3,(.own Ri)),(4,.any)] q1ep q1es q1e3 C v:=rgI (by kernel_rfl)
def q1eu (C:q1dp) (v:q1e2):Dt q1e2:=(Dt.ret ((IntKind.wrap .i64 (v.1+(1:Int))),v.2.1,v.2.2.1,v.2.2.2))
theorem q1ev C v:q34j (regO (qea f57) 4) false [(1,(.box [.any,.val Riii])),(3,(.own Ri)),(4,.any)] q1e3 q1eu q1e3 C v:=rgI (by kernel_rfl)
def q1ew  (d:Nat) (self1:(Int×Int×List Diii×List Di)→Option q1dm) (z:Int×Int×List Diii×List Di):Option (q1dm) :=
 (q1eu (q1dq d) z).eval fun y4 =>
 self1 y4
def q1ex  (d:Nat) (self1:(Int×Int×List Diii×List Di)→Option q1dm) (z:Int×Int×List Diii×List Di):Option (q1dm) :=
 (q1em (q1dq d) z).eval fun y8 =>
 (q1eq (q1dq d) y8).eval fun y9 =>
 bif y9.2.2.1 then ((q1es (q1dq d) y9).eval fun y10 =>
 q1ew d self1 y10) else (q1ew d self1 (y9.1,y9.2.2.2.1,y9.2.2.2.2.1,y9.2.2.2.2.2))
abbrev q1ey:Type:=Int×Int×List Diii×List Di
def q1ez (v:q1ey):St:=⟨[(1,.ptr 0 0),(3,.rs 1),(7,i6 v.1)],[.cells [i6 v.2.1,.fz Riii v.2.2.1],.rows Ri v.2.2.2]⟩
def q1f0 (C:q1dp) (v:q1e6):Dt q1ey:=(Dt.ret ((0:Int),v.2.2.1,v.2.2.2.1,v.2.2.2.2))
theorem q1f1 C v:q34j (regO (qea f57) 11) false [(1,(.box [.any,.val Riii])),(3,(.own Ri)),(7,.any)] q1e7 q1f0 q1ez C v:=rgI (by kernel_rfl)
abbrev q1f2:Type:=Int×Bool×Int×List Diii×List Di
def q1f3 (v:q1f2):St:=⟨[(1,.ptr 0 0),(3,.rs 1),(7,i6 v.1),(50,.bool v.2.1)],[.cells [i6 v.2.2.1,.fz Riii v.2.2.2.1],.rows Ri v.2.2.2.2]⟩
def q1f4 (C:q1dp) (v:q1ey):Dt q1f2:=(Dt.ret (v.1,(decide (v.1<(List.length v.2.2.2:Int))),v.2.1,v.2.2.1,v.2.2.2))
theorem q1f5 C v:q34j (regO (qea f57) 12) false [(1,(.box [.any,.val Riii])),(3,(.own Ri)),(7,.any),(50,.any)] q1ez q1f4 q1f3 C v:=rgI (by kernel_rfl)
abbrev q1f6:Type:=Int×Bool×Int×List Diii×List Di
def q1f7 (v:q1f6):St:=⟨[(1,.ptr 0 0),(3,.rs 1),(7,i6 v.1),(76,.bool v.2.1)],[.cells [i6 v.2.2.1,.fz Riii v.2.2.2.1],.rows Ri v.2.2.2.2]⟩
def q1f8 (C:q1dp) (v:q1f2):Dt q1f6:=(Dt.ite (v.1 == v.2.2.1) (Dt.ite (inB v.1 (List.length v.2.2.2.2)) (Dt.ite ((elt zi v.2.2.2.2 (v.1).toNat).1 != (0:Int)) (Dt.ret (v.1,true,v.2.2.1,v.2.2.2.1,v.2.2.2.2)) (Dt.ite (v.1 != v.2.2.1) (Dt.ite (inB v.1 (List.length v.2.2.2.2)) (Dt.ret (v.1,((elt zi v.2.2.2.2 (v.1).toNat).1 != (1:Int)),v.2.2.1,v.2.2.2.1,v.2.2.2.2)) Dt.fail) (Dt.ret (v.1,false,v.2.2.1,v.2.2.2.1,v.2.2.2.2)))) Dt.fail) (Dt.ite (v.1 != v.2.2.1) (Dt.ite (inB v.1 (List.length v.2.2.2.2)) (Dt.ret (v.1,((elt zi v.2.2.2.2 (v.1).toNat).1 != (1:Int)),v.2.2.1,v.2.2.2.1,v.2.2.2.2)) Dt.fail) (Dt.ret (v.1,false,v.2.2.1,v.2.2.2.1,v.2.2.2.2))))
theorem q1f9 C v:q34j (regO (qea f57) 14) false [(1,(.box [.any,.val Riii])),(3,(.own Ri)),(7,.any),(76,.any)] q1f3 q1f8 q1f7 C v:=rgI (by kernel_rfl)
abbrev q1fa:Type:=Bool
def q1fb (v:q1fa):St:=⟨[(2,.bool v)],[]⟩
def q1fc (C:q1dp) (v:q1f6):Dt q1fa:=(Dt.ret false)
theorem q1fd C v:q34j (regO (qea f57) 15) false [(2,.any)] q1f7 q1fc q1fb C v:=rgI (by kernel_rfl)
def q1fe (C:q1dp) (v:q1f6):Dt q1ey:=(Dt.ret ((IntKind.wrap .i64 (v.1+(1:Int))),v.2.2.1,v.2.2.2.1,v.2.2.2.2))
theorem q1ff C v:q34j (regO (qea f57) 13) false [(1,(.box [.any,.val Riii])),(3,(.own Ri)),(7,.any)] q1f7 q1fe q1ez C v:=rgI (by kernel_rfl)
def q1fg (C:q1dp) (v:q1f2):Dt q1fa:=(Dt.ret true)
theorem q1fh C v:q34j (regO (qea f57) 16) false [(2,.any)] q1f3 q1fg q1fb C v:=rgI (by kernel_rfl)
def q1fi (d:Nat) (self4:(Int×Int×List Diii×List Di)→Option q1dm) (x4:Int×Int×List Diii×List Di):Option q1dm :=
 (q1f4 (q1dq d) x4).eval fun y12 =>
 bif y12.2.1 then ((q1f8 (q1dq d) y12).eval fun y14 =>
 bif y14.2.1 then ((q1fc (q1dq d) y14).eval fun y15 =>
 some y15) else ((q1fe (q1dq d) y14).eval fun y13 =>
 self4 y13)) else ((q1fg (q1dq d) y12).eval fun y16 =>
 some y16)
def q1fj (d:Nat) (self1:(Int×Int×List Diii×List Di)→Option q1dm) (x1:Int×Int×List Diii×List Di):Option q1dm :=
 (q1e8 (q1dq d) x1).eval fun y3 =>
 bif y3.2.1 then ((q1ec (q1dq d) y3).eval fun y5 =>
 (q1eg (q1dq d) y5).eval fun y6 =>
 bif y6.2.2.1 then ((q1ei (q1dq d) y6).eval fun y7 =>
 q1ex d self1 y7) else (q1ex d self1 (y6.1,y6.2.2.2.1,y6.2.2.2.2.1,y6.2.2.2.2.2))) else ((q1f0 (q1dq d) y3).eval fun y11 =>
 iter (q1fi d ) d y11)
def q1fk (d:Nat) (x:q1dl):Option q1dm :=
 (q1dw (q1dq d) (x.1.1,x.1.2.1)).eval fun y0 =>
 (q1e0 (q1dq d) y0).eval fun y1 =>
 (q1e4 (q1dq d) y1).eval fun y2 =>
 iter (q1fj d ) d y2
theorem q1fl (d:Nat):COK prog (q1do (q1fk d)):=by
 have hm:prog.follows .mixedOrders=true:=mixed
 have hT:=tys
 have hC0:OrcOK prog (orc (q1dr (q1dq d))):=qe4 (by
  intro S hS
  simp only [q1dr,List.mem_cons,List.not_mem_nil,or_false] at hS
  all_goals first | cases hS | exact hS.elim)
 have hC:OrcOK prog (orc (q1dr (q1dq d))):=hC0
 refine q9t (c:=qea f57) (fn:=f57) hT (by kernel_rfl) (by kernel_rfl) (by decide) fun x r h w0 φ0 Q hend=>?_
 replace h:q1fk d x=some r:=h
 unfold q1fk at h
 show Run prog w0 φ0 77 (qea f57) ⟨[(0,.agg [.int .i64 x.1.1,.fz Riii x.1.2.1])],[]⟩ Q
 refine q344 hm hT hC (q1dx (q1dq d) (x.1.1,x.1.2.1)) h fun y0 h=>?_
 refine q344 hm hT hC (q1e1 (q1dq d) y0) h fun y1 h=>?_
 refine q9d ?_
 refine q344 hm hT hC (q1e5 (q1dq d) y1) h fun y2 h=>?_
 refine q9e ?_
 refine q9j (G:=iter (q1fj d )) (S:=(fun x1=>⟨[(1,.ptr 0 0),(3,.rs 1),(4,i6 x1.1)],[.cells [i6 x1.2.1,.fz Riii x1.2.2.1],.rows Ri x1.2.2.2]⟩:Int×Int×List Diii×List Di→St)) (fun _=>rfl) ?_ d _ h
 intro n1 x1 h K1 hn1
 replace h:q1fj d  (iter (q1fj d ) n1) x1=some r:=h
 generalize iter (q1fj d ) n1=self1 at h hn1
 unfold q1fj at h
 refine q9d ?_
 refine q344 hm hT hC (q1e9 (q1dq d) x1) h fun y3 h=>?_
 refine q9h (v:=y3.2.1) (by kernel_rfl) h ?_ ?_
 ·
  intro h
  refine q99 (q8z ?_)
  refine q9g (r:=r) (F:=q1ew d self1) (S:=(fun z=>⟨[(1,.ptr 0 0),(3,.rs 1),(4,i6 z.1)],[.cells [i6 z.2.1,.fz Riii z.2.2.1],.rows Ri z.2.2.2]⟩:Int×Int×List Diii×List Di→St)) ?_ ?_
  ·
   intro z h
   unfold q1ew at h
   refine q9i hm hT hC (q1ev (q1dq d) z) h ?_
   intro y4 h
   exact hn1 _ h
  intro hj2
  refine q9e ?_
  refine q9g (r:=r) (F:=q1ex d self1) (S:=(fun z=>⟨[(1,.ptr 0 0),(3,.rs 1),(4,i6 z.1)],[.cells [i6 z.2.1,.fz Riii z.2.2.1],.rows Ri z.2.2.2]⟩:Int×Int×List Diii×List Di→St)) ?_ ?_
  ·
   intro z h
   unfold q1ex at h
   refine q344 hm hT hC (q1en (q1dq d) z) h fun y8 h=>?_
   refine q344 hm hT hC (q1er (q1dq d) y8) h fun y9 h=>?_
   refine q9h (v:=y9.2.2.1) (by kernel_rfl) h ?_ ?_
   ·
    intro h
    refine q9i hm hT hC (q1et (q1dq d) y9) h ?_
    intro y10 h
    refine q92 ?_
    exact hj2 _ h
   ·
    intro h
    refine q99 (q92 ?_)
    refine qe9 (s:=⟨[(1,.ptr 0 0),(3,.rs 1),(4,.int .i64 y9.1)],[.cells [.int .i64 y9.2.2.2.1,.fz Riii y9.2.2.2.2.1],.rows Ri y9.2.2.2.2.2]⟩) [6,40] (by kernel_rfl) ?_
    exact hj2 _ h
  intro hj3
  refine q344 hm hT hC (q1ed (q1dq d) y3) h fun y5 h=>?_
  refine q344 hm hT hC (q1eh (q1dq d) y5) h fun y6 h=>?_
  refine q9h (v:=y6.2.2.1) (by kernel_rfl) h ?_ ?_
  ·
   intro h
   refine q9i hm hT hC (q1ej (q1dq d) y6) h ?_
   intro y7 h
   exact hj3 _ h
  ·
   intro h
   refine q99 ?_
   refine qe9 (s:=⟨[(1,.ptr 0 0),(3,.rs 1),(4,.int .i64 y6.1)],[.cells [.int .i64 y6.2.2.2.1,.fz Riii y6.2.2.2.2.1],.rows Ri y6.2.2.2.2.2]⟩) [5,26] (by kernel_rfl) ?_
   exact hj3 _ h
 ·
  intro h
  refine q9b (q90 (q90 (q94 (q8z (q9d ?_)))))
  refine q344 hm hT hC (q1f1 (q1dq d) y3) h fun y11 h=>?_
  refine q9e ?_
  refine q9j (G:=iter (q1fi d )) (S:=(fun x4=>⟨[(1,.ptr 0 0),(3,.rs 1),(7,i6 x4.1)],[.cells [i6 x4.2.1,.fz Riii x4.2.2.1],.rows Ri x4.2.2.2]⟩:Int×Int×List Diii×List Di→St)) (fun _=>rfl) ?_ d _ h
  intro n4 x4 h K4 hn4
  replace h:q1fi d  (iter (q1fi d ) n4) x4=some r:=h
  generalize iter (q1fi d ) n4=self4 at h hn4
  unfold q1fi at h
  refine q9d ?_
  refine q344 hm hT hC (q1f5 (q1dq d) x4) h fun y12 h=>?_
  refine q9h (v:=y12.2.1) (by kernel_rfl) h ?_ ?_
  ·
   intro h
   refine q99 (q8z (q9d (q9e ?_)))
   refine q344 hm hT hC (q1f9 (q1dq d) y12) h fun y14 h=>?_
   refine q9h (v:=y14.2.1) (by kernel_rfl) h ?_ ?_
   ·
    intro h
    refine q344 hm hT hC (q1fd (q1dq d) y14) h fun y15 h=>?_
    refine q9c (q93 (q91 (q91 (q93 (q91 ?_)))))
    cases h
    exact (hend _ (by kernel_rfl)).2
   ·
    intro h
    refine q99 (q92 (q8z ?_))
    refine q9i hm hT hC (q1ff (q1dq d) y14) h ?_
    intro y13 h
    exact hn4 _ h
  ·
   intro h
   refine q9b (q90 (q90 (q94 (q8z ?_))))
   refine q344 hm hT hC (q1fh (q1dq d) y12) h fun y16 h=>?_
   refine q9c ?_
   cases h
   exact (hend _ (by kernel_rfl)).2
end Go.Proofs.Ytoakhncbmpdacaa

namespace Go.Tx
open Go
structure CSpec where
  g:FuncId
  τ1:List Pk
  τ2:List Pk
  σ:Row
  F:dens τ1→dens τ2→List (den σ)→Option (List (den σ))
def cmem {σ:Row} (xs:List (den σ)):LH:=q82 [.rows σ xs]
abbrev cFz {σ:Row} (xs:List (den σ)) (η:Emb):Fz0:=⟨η.fz,fun _ _=>False,[],fun k=>LB (cmem xs) η k⟩
structure COKC (P:Program) (S:CSpec):Prop where
  ok:∀ x1 x2 xs ys,S.F x1 x2 xs=some ys→∀ (w:World) (η:Emb) (vs:List Value),(∀ M,HR M η (cmem xs) w)→VRs η (q9o S.τ1 x1 ++ .rs 0 :: q9o S.τ2 x2) vs →
    Calls P S.g vs.toArray w fun e w'=>∃ v' η',e=.returned v'∧VR η' (.rs 0) v'∧(∀ M,HR M η' (cmem ys) w')∧Fr w (cFz xs η) (cmem ys) η' w'
  body:q5q P S.g
section
variable {P:Program} {M:Nat} {H:LH} {η:Emb} {w:World}
theorem q1ki {σ:Row} {xs:List (den σ)} {n:Nat} (hn:H.get n=some (.rows σ xs)):q8o H [n] [n]=some [.rows σ xs]:=by
  simp [q8o,hn,q8l]
theorem q1kj {σ:Row} {ys:List (den σ)} {n k:Nat} {ob:Ob} (h:((H.put n none).alloc (.rows σ ys)).get k=some ob):(k=H.next∧ob=.rows σ ys)∨(k≠H.next∧k≠n∧H.get k=some ob):=by
  rw [LH.get_alloc] at h
  have e:(H.put n none).next=H.next:=rfl
  rw [e] at h
  split at h
  · rename_i h1;injection h with h;exact .inl ⟨h1,h.symm⟩
  · rename_i h1
    rw [LH.get_put] at h
    split at h
    · cases h
    · rename_i h3;exact .inr ⟨h1,h3,h⟩
theorem q1kk {S:CSpec} (hS:COKC P S) (hp:qda S.σ=true) {a1 a2:List LV} {n:Nat} {xs ys:List (den S.σ)} {x1:dens S.τ1} {x2:dens S.τ2} (h1:decs H S.τ1 a1=some x1) (h2:decs H S.τ2 a2=some x2)
    (hn:H.get n=some (.rows S.σ xs)) (hA:n ∉ deep H ((a1++a2).flatMap q6l)) (hF:S.F x1 x2 xs=some ys) :
    q5p P S.g (a1 ++ .rs n :: a2) H (.rs H.next,(H.put n none).alloc (.rows S.σ ys)):=by
  generalize hAe:deep H ((a1++a2).flatMap q6l)=A at hA
  have hAm:∀ l∈a1++a2,∀ k∈deep H (q6l l),k∈A:=fun l hl k hk=>by rw [← hAe];exact qdv (fun m hm=>List.mem_flatMap.2 ⟨l,hl,hm⟩) hk
  refine ⟨(Logged.put H hn none).trans (Logged.alloc _ _),fun M η w vs h hM hv=>?_⟩
  have hM':H.next<M:=hM
  obtain ⟨φ,hph⟩:=qdp H η w A
  have hphi:∀ k ob,φ k=some ob→w.heap[k]?=some ob:=fun k ob hk=>by
    rcases hph.cases k ob hk with h1 | ⟨_,_,h1⟩
    · exact h.fz k ob h1
    · exact h1
  have hnd:q8s [n]=true:=rfl
  have hsub:=q8u hnd (q1ki hn) h
  let η0:Emb:=⟨(η.sub [n]).loc,(η.sub [n]).hdr,φ⟩
  have l0:η0.loc 0=η.loc n:=rfl
  have d0:η0.hdr 0=η.hdr n:=rfl
  have lx:∀ k,1≤k→η0.loc k=none:=fun k hk=>by
    show ([n][k]?).bind η.loc=none
    rw [List.getElem?_eq_none (by simpa using hk)];rfl
  have hle0:(η.sub [n]).le η0:=⟨fun _ _ h=>h,fun _ _ h=>h,fun k ob hk=>hph.fz k ob hk⟩
  have hlb0:∀ k,LB (cmem xs) η0 k→∃ L',η.loc n=some L'∧L'.block=k:=fun k ⟨j,ob,L',hj,hL',hk⟩=>by
    match j with
    | 0=>exact ⟨L',hL',hk⟩
    | j+1=>rw [lx _ (by omega)] at hL';cases hL'
  have hlbH:∀ k,LB (cmem xs) η0 k→LB H η k:=fun k hk=>let ⟨L',g2,g3⟩:=hlb0 k hk;⟨n,_,L',hn,g2,g3⟩
  have hsep0:∀ k,LB (cmem xs) η0 k→φ k=none:=fun k hk=>by
    cases hf:φ k with
    | none=>rfl
    | some o =>
      exfalso
      obtain ⟨L',g2,g3⟩:=hlb0 k hk
      rcases hph.cases k o hf with h3 | ⟨_,⟨m,hm,ob',L2,m1,m2,m3⟩,_⟩
      · rw [h.sep k (hlbH k hk)] at h3;cases h3
      · have := h.inj n m _ _ _ _ hn m1 g2 m2 (by rw [g3, m3])
        subst this
        exact hA hm
  have hr0:∀ M,HR M η0 (cmem xs) w:=fun M=>⟨(hsub M).dom,(hsub M).lt,fun j ob hj=>((hsub M).live j ob hj).move hle0 rfl (Nat.le_refl _) fun _ _=>rfl,(hsub M).inj,hphi,hsep0,(hsub M).ok⟩
  have hfro:(Emb.fro φ).le η0:=⟨fun _ _ h=>(by cases h),fun _ _ h=>(by cases h),fun _ _ h=>h⟩
  obtain ⟨us,v0,us2,rfl,q1,q0,q2⟩:∃ us v0 us2,vs=us++v0 :: us2∧VRs η a1 us∧VR η (.rs n) v0∧VRs η a2 us2:=by
    have t1:=hv.take a1.length
    have t2:=hv.drop a1.length
    rw [List.take_left] at t1
    rw [List.drop_left] at t2
    obtain ⟨v0,us2,e,g1,g2⟩:=t2.uncons
    exact ⟨vs.take a1.length,v0,us2,by rw [← e,List.take_append_drop],t1,g1,g2⟩
  have r1:=(qdy h hph h1 (fun l hl=>hAm l (List.mem_append_left _ hl)) q1).mono hfro
  have r2:=(qdy h hph h2 (fun l hl=>hAm l (List.mem_append_right _ hl)) q2).mono hfro
  have r0:VR η0 (.rs 0) v0:=by
    cases q0 with
    | rs hq=>exact .rs (by rw [d0];exact hq)
  refine Calls.mono (hS.ok x1 x2 xs ys hF w η0 _ hr0 (r1.append (VRs.cons r0 r2))) fun e w' ⟨v',η',e1,ev,e3,e4⟩=>?_
  have gm:(cmem ys).get 0=some (.rows S.σ ys):=by unfold cmem;rw [q85];rfl
  have hle:=h.le_put hM' (η'.loc 0) (η'.hdr 0)
  have hL0:∀ j ob L',H.get j=some ob→η.loc j=some L'→L'.block<w.heap.size:=fun j ob L' g1 g2=>(h.live j ob g1).lt g2
  have hkeep:∀ j ob,H.get j=some ob→j≠n→∀ L',η.loc j=some L'→¬ LB (cmem xs) η0 L'.block:=fun j ob g1 n2 L' g2 hl=>by
    obtain ⟨L2,k2,k3⟩:=hlb0 _ hl
    exact n2 (h.inj n j _ _ _ _ hn g1 k2 g2 k3).symm
  have hmblk:∀ L',η'.loc 0=some L'→w.heap.size≤L'.block∨LB (cmem xs) η0 L'.block:=fun L' hl=>e4.lb _ ⟨0,_,L',gm,hl,rfl⟩
  have hlb2:∀ k,LB ((H.put n none).alloc (.rows S.σ ys)) (η.put H.next (η'.loc 0) (η'.hdr 0)) k→LB H η k∨w.heap.size≤k:=fun k ⟨j,ob,L',hj,hL',hk⟩=>by
    rcases q1kj hj with ⟨rfl,_⟩ | ⟨d1,_,d4⟩
    · rw [Emb.put_loc] at hL'
      rcases hmblk _ hL' with t | t
      · exact .inr (hk ▸ t)
      · exact .inl (hk ▸ hlbH _ t)
    · rw [(η.put_ne _ _ d1).1] at hL';exact .inl ⟨j,_,L',d4,hL',hk⟩
  refine ⟨v',η.put H.next (η'.loc 0) (η'.hdr 0),e1,?_,hle,fun j hj=>η.put_ne _ _ (by
      have hnx:((H.put n none).alloc (.rows S.σ ys)).next=H.next+1:=rfl
      rw [hnx] at hj;omega),Nat.le_succ _,⟨fun j hj hjM=>?_,fun j ob hj=>?_,fun j ob hj=>?_,fun j1 j2 o1 o2 L1 L2 k1 k2 t1 t2 he=>?_,fun k ob hk=>?_,fun k hk=>?_,fun j v hj=>?_⟩,e4.size,fun k hk hl=>e4.same k hk fun hl0=>hl (hlbH k hl0),hlb2,fun k ob hk=>.inl hk,e4.os,e4.tape,e4.output,e4.drawn⟩
  · cases ev with
    | rs hq=>exact .rs (by rw [Emb.put_hdr];exact hq)
  · have hj' : H.next + 1 ≤ j := hj
    have:=η.put_ne (η'.loc 0) (η'.hdr 0) (show j≠H.next by omega)
    rw [this.1,this.2];exact h.dom j (by omega) hjM
  · show j < H.next + 1
    rcases q1kj hj with ⟨rfl,_⟩ | ⟨_,_,d4⟩
    · omega
    · have:=h.lt j _ d4;omega
  · rcases q1kj hj with ⟨rfl, rfl⟩ | ⟨d1, d3, d4⟩
    · cases (e3 0).live 0 _ gm with
      | rows k1 k2 k3 k4 k5=>exact .rows (by rw [Emb.put_loc];exact k1) (qe1 hp k2) (by rw [Emb.put_hdr];exact k3) k4 k5
      | none k1 k2=>exact .none (by rw [Emb.put_loc];exact k1) (by rw [Emb.put_hdr];exact k2)
    · exact (h.live j ob d4).move hle (η.put_ne _ _ d1).1 e4.size fun L' hL'=>e4.same _ (hL0 _ _ _ d4 hL') (hkeep _ _ d4 d3 L' hL')
  · have other:∀ j ob L',j≠n→H.get j=some ob→η.loc j=some L'→∀ L2,η'.loc 0=some L2→L'.block≠L2.block:=fun j ob L' c2 c3 t L2 hm2 he=>by
      rcases hmblk _ hm2 with t2 | t2
      · have:=hL0 _ _ _ c3 t;omega
      · rw [← he] at t2;exact hkeep j ob c3 c2 L' t t2
    rcases q1kj k1 with ⟨rfl,_⟩ | ⟨d1,d3,d4⟩<;>rcases q1kj k2 with ⟨rfl,_⟩ | ⟨c1,c3,c4⟩
    · rfl
    · rw [Emb.put_loc] at t1; rw [(η.put_ne _ _ c1).1] at t2
      exact absurd he.symm (other j2 o2 L2 c3 c4 t2 L1 t1)
    · rw [Emb.put_loc] at t2; rw [(η.put_ne _ _ d1).1] at t1
      exact absurd he (other j1 o1 L1 d3 d4 t1 L2 t2)
    · rw [(η.put_ne _ _ d1).1] at t1; rw [(η.put_ne _ _ c1).1] at t2
      exact h.inj _ _ _ _ _ _ d4 c4 t1 t2 he
  · exact (e3 0).fz k ob (e4.fz0 k ob (hph.fz k ob hk))
  · show η.fz k = none
    rcases hlb2 k hk with t | t
    · exact h.sep k t
    · cases hf : η.fz k with
      | none=>rfl
      | some o=>have:=(Array.getElem?_eq_some_iff.1 (h.fz k o hf)).1;omega
  · by_cases he : j = H.next
    · subst he;rw [Emb.put_hdr] at hj;exact (e3 0).ok 0 v hj
    · rw [(η.put_ne _ _ he).2] at hj;exact h.ok j v hj
theorem q1kl {g:FuncId} {σ:Row} {a1 a2:List LV} {r:LV×LH} (h:q5p P g (a1 ++ .rs H.next :: a2) (H.alloc (.rows σ [])) r):q5p P g (a1 ++ .nils :: a2) H r:=by
  refine ⟨(Logged.alloc _ _).trans h.1,fun M η w vs hr hM hv=>?_⟩
  have hn:(H.alloc (.rows σ [])).next≤r.2.next:=h.1.next
  have hadv:=q13 hr (Nat.le_trans hn hM) σ none
  obtain ⟨us,v0,us2,rfl,q1,q0,q2⟩:∃ us v0 us2,vs=us++v0 :: us2∧VRs η a1 us∧VR η .nils v0∧VRs η a2 us2:=by
    have t1:=hv.take a1.length
    have t2:=hv.drop a1.length
    rw [List.take_left] at t1
    rw [List.drop_left] at t2
    obtain ⟨v0,us2,e,g1,g2⟩:=t2.uncons
    exact ⟨vs.take a1.length,v0,us2,by rw [← e,List.take_append_drop],t1,g1,g2⟩
  cases q0
  refine Calls.mono (h.2 M _ w _ hadv.hr hM ((q1.mono hadv.le).append (VRs.cons (.rs (Emb.put_hdr ..)) (q2.mono hadv.le)))) fun e w' ⟨v',η',e1,ev,e3⟩=>⟨v',η',e1,ev,hadv.trans e3⟩
def orcC (S:CSpec) (C:Orc):Orc:=fun h args H =>
  bif Nat.beq h S.g then (match args.drop S.τ1.length with
    | .rs n :: a2=>(match H.get n with
        | some (.rows σ xs) => if e : σ = S.σ then (match decs H S.τ1 (args.take S.τ1.length), decs H S.τ2 a2 with
          | some x1, some x2 => bif memB (deep H ((args.take S.τ1.length ++ a2).flatMap q6l)) n then none else
            some ⟨List (den S.σ),S.F x1 x2 (e ▸ xs),fun ys=>(.rs H.next,(H.put n none).alloc (.rows S.σ ys))⟩
          | _,_=>none) else none
        | _=>none)
    | .nils :: a2=>(match decs (H.alloc (.rows S.σ [])) S.τ1 (args.take S.τ1.length),decs (H.alloc (.rows S.σ [])) S.τ2 a2 with
          | some x1, some x2 => bif memB (deep (H.alloc (.rows S.σ [])) ((args.take S.τ1.length ++ a2).flatMap q6l)) H.next then none else
            some ⟨List (den S.σ),S.F x1 x2 [],fun ys=>(.rs (H.next+1),((H.alloc (.rows S.σ [])).put H.next none).alloc (.rows S.σ ys))⟩
          | _,_=>none)
    | _=>none) else C h args H
theorem q1km {S:CSpec} (hS:COKC P S) (hp:qda S.σ=true) {C:Orc} (hC:OrcOK P C):OrcOK P (orcC S C):=by
  refine ⟨fun h args H p x hp' hx=>?_⟩
  unfold orcC at hp'
  rw [Bool.cond_eq_ite] at hp'
  split at hp'
  · rename_i he
    have he:=Nat.eq_of_beq_eq_true he
    subst he
    split at hp'
    · rename_i n a2 hdr
      split at hp'
      · rename_i σ xs hn
        split at hp'
        · rename_i e
          subst e
          split at hp'
          · rename_i x1 x2 d1 d2
            rw [Bool.cond_eq_ite] at hp'
            split at hp'
            · cases hp'
            · rename_i hc
              injection hp' with hp'
              subst hp'
              have hargs:args=args.take S.τ1.length ++ .rs n :: a2:=by rw [← hdr,List.take_append_drop]
              refine .inl ⟨?_,hS.body⟩
              have:=q1kk hS hp d1 d2 hn (fun hm=>hc (q6f.2 hm)) hx
              rw [← hargs] at this
              exact this
          · cases hp'
        · cases hp'
      · cases hp'
    · rename_i a2 hdr
      split at hp'
      · rename_i x1 x2 d1 d2
        rw [Bool.cond_eq_ite] at hp'
        split at hp'
        · cases hp'
        · rename_i hc
          injection hp' with hp'
          subst hp'
          have hargs:args=args.take S.τ1.length ++ .nils :: a2:=by rw [← hdr,List.take_append_drop]
          refine .inl ⟨?_,hS.body⟩
          have hn:(H.alloc (.rows S.σ [])).get H.next=some (.rows S.σ []):=by rw [LH.get_alloc,if_pos rfl]
          have:=q1kl (q1kk hS hp d1 d2 hn (fun hm=>hc (q6f.2 hm)) hx)
          rw [← hargs] at this
          exact this
      · cases hp'
    · cases hp'
  · exact hC.call h args H p x hp' hx
theorem q1kn {T : Tys} (hT : TysOK P T) {S : CSpec} {fn : Func} {c : Code} (hfn : P.funcs[S.g]? = some fn) (hc : fn.body = some c) (hname : ¬ fn.name = "runtime.NumGoroutine")
    (h:∀ x1 x2 xs ys,S.F x1 x2 xs=some ys→∀ w0 φ0 Q,End T w0 φ0 fn.ntmps fn.results.toList (.rs 0,[.rows S.σ ys]) Q→Run P w0 φ0 fn.ntmps c ⟨nums 0 (q9o S.τ1 x1 ++ .rs 0 :: q9o S.τ2 x2),[.rows S.σ xs]⟩ Q):COKC P S:=by
  refine ⟨fun x1 x2 xs ys hx w η vs hr hv=>?_,fn,c,hfn,hc,hname⟩
  refine calls_of_wp hfn hc ?_
  refine h x1 x2 xs ys hx w (cFz xs η) _ (fun s hs=>?_) _ w ⟨⟨η,hr,fun n l hl=>?_,⟨Nat.le_refl _,fun _ _ _=>rfl,fun k hk=>.inr hk,fun _ _ h=>h,fun _ _ h=>.inl h,rfl,rfl,rfl,Nat.le_refl _,fun _ _ h=>h.elim⟩⟩,?_,rfl⟩
  · have fin : ∀ a w', SS w (cFz xs η) fn.ntmps s a w' → _ := q9s (S := ⟨S.g, [], Unit, fun _ => none, fun _ => (.rs 0, [.rows S.σ ys])⟩) (r := ()) hT hs
    exact ⟨fun a w' hss=>fin a w' hss,fun a w' hss=>fin a w' hss⟩
  · obtain ⟨_, h2⟩ := q9p _ 0 n l hl
    rw [Nat.sub_zero] at h2
    obtain ⟨v,e1,e2⟩:=hv.get h2
    refine ⟨v,?_,e2⟩
    have hlt:=(List.getElem?_eq_some_iff.1 e1).1
    rw [Array.getElem?_append_left (by simpa using hlt)]
    simpa using e1
  · simp;omega
theorem q1ko {T : Tys} (hT : TysOK P T) {S : CSpec} {fn : Func} {c : Code} (hfn : P.funcs[S.g]? = some fn) (hc : fn.body = some c) (hname : ¬ fn.name = "runtime.NumGoroutine")
    (h:∀ (x:dens S.τ1×dens S.τ2×List (den S.σ)) (r:List (den S.σ)),S.F x.1 x.2.1 x.2.2=some r→∀ w0 φ0 Q,End T w0 φ0 fn.ntmps fn.results.toList (.rs 0,[.rows S.σ r]) Q→Run P w0 φ0 fn.ntmps c ⟨nums 0 (q9o S.τ1 x.1 ++ .rs 0 :: q9o S.τ2 x.2.1),[.rows S.σ x.2.2]⟩ Q):COKC P S :=
  q1kn hT hfn hc hname fun x1 x2 xs ys hx=>h (x1,x2,xs) ys hx
end
end Go.Tx
