/- Walks of the references; the orders agree; examples. -/
import Derived.Test.YtoakhncbmpdacaaGd
set_option linter.unusedSimpArgs false
set_option linter.unusedVariables false
namespace Go.Proofs.Ytoakhncbmpdacaa
open Go Go.Tx Go.Proofs.Try
set_option maxRecDepth 100000
set_option maxHeartbeats 0
abbrev qwo:List Pk:=[.row qkv true]
abbrev qwp:Type:=qkw×Unit
abbrev qwq:Type:=Int
def qwr (r:qwq):LV×List Ob:=(.int .i64 r,[])
def qws (F:qwp→Option qwq):Go.Tx.Spec:=⟨24,qwo,qwq,F,qwr⟩
abbrev qwt:Type:=(qv3→Option qv4)×Unit
def qwu (d:Nat):qwt:=(qwm d,())
def qwv (C:qwt):List Go.Tx.Spec:=[qv6 C.1]
abbrev qww:Type:=Int×List Diii
def qwx (v:qww):St:=⟨[(0,.agg [i6 v.1,.fz Riii v.2])],[]⟩
abbrev qwy:Type:=Int×List Diii
def qwz (v:qwy):St:=⟨[(1,.ptr 0 0)],[.cells [i6 v.1,.fz Riii v.2]]⟩
def qx0 (C:qwt) (v:qww):Dt qwy:=(Dt.ret (v.1,v.2))
abbrev q346 {V Y:Type}:=@rg qwt V Y tysT (fun C=>(orc (qwv C))) 102
theorem qx1 C v:q346 (regO (qea f24) 0) false [(1,(.box [.any,.val Riii]))] qwx qx0 qwz C v:=rgI (by kernel_rfl)
abbrev qx2:Type:=Int×Int×List Diii
def qx3 (v:qx2):St:=⟨[(1,.ptr 0 0),(3,i6 v.1)],[.cells [i6 v.2.1,.fz Riii v.2.2]]⟩
def qx4 (C:qwt) (v:qwy):Dt qx2:=(Dt.ret ((List.length v.2:Int),v.1,v.2))
theorem qx5 C v:q346 (regO (qea f24) 1) false [(1,(.box [.any,.val Riii])),(3,.any)] qwz qx4 qx3 C v:=rgI (by kernel_rfl)
abbrev qx6:Type:=Int×Bool×Int×List Diii
def qx7 (v:qx6):St:=⟨[(1,.ptr 0 0),(3,i6 v.1),(13,.bool v.2.1)],[.cells [i6 v.2.2.1,.fz Riii v.2.2.2]]⟩
def qx8 (C:qwt) (v:qx2):Dt qx6:=(Dt.ret (v.1,(decide (v.1 > (64:Int))),v.2.1,v.2.2))
theorem qx9 C v:q346 (regO (qea f24) 2) false [(1,(.box [.any,.val Riii])),(3,.any),(13,.any)] qx3 qx8 qx7 C v:=rgI (by kernel_rfl)
abbrev qxa:Type:=Int
def qxb (v:qxa):St:=⟨[(2,i6 v)],[]⟩
def qxc (C:qwt) (v:qx6):Dt qxa:=(Dt.ret (4:Int))
theorem qxd C v:q346 (regO (qea f24) 3) false [(2,.any)] qx7 qxc qxb C v:=rgI (by kernel_rfl)
abbrev qxe:Type:=Int×Bool×Int×List Diii
def qxf (v:qxe):St:=⟨[(1,.ptr 0 0),(3,i6 v.1),(30,.bool v.2.1)],[.cells [i6 v.2.2.1,.fz Riii v.2.2.2]]⟩
def qxg (C:qwt) (v:qx6):Dt qxe:=(Dt.ite (decide (v.2.2.1<(-1:Int))) (Dt.ret (v.1,true,v.2.2.1,v.2.2.2)) (Dt.ite (decide (v.2.2.1≥v.1)) (Dt.ret (v.1,true,v.2.2.1,v.2.2.2)) (Dt.ret (v.1,(!((decide (v.2.2.1<(0:Int))) == (v.1 == (0:Int)))),v.2.2.1,v.2.2.2))))
theorem qxh C v:q346 (regO (qea f24) 4) false [(1,(.box [.any,.val Riii])),(3,.any),(30,.any)] qx7 qxg qxf C v:=rgI (by kernel_rfl)
def qxi (C:qwt) (v:qxe):Dt qxa:=(Dt.ret (8:Int))
theorem qxj C v:q346 (regO (qea f24) 5) false [(2,.any)] qxf qxi qxb C v:=rgI (by kernel_rfl)
abbrev qxk:Type:=Int×List Diii×Int×Int×Int×List Diii
def qxl (v:qxk):St:=⟨[(1,.ptr 0 0),(3,i6 v.1),(32,.fz Riii v.2.1),(33,i6 v.2.2.1),(34,i6 v.2.2.2.1)],[.cells [i6 v.2.2.2.2.1,.fz Riii v.2.2.2.2.2]]⟩
def qxm (C:qwt) (v:qxe):Dt qxk:=(Dt.ret (v.1,v.2.2.2,(List.length v.2.2.2:Int),(0:Int),v.2.2.1,v.2.2.2))
theorem qxn C v:q346 (regO (qea f24) 6) false [(1,(.box [.any,.val Riii])),(3,.any),(32,(.val Riii)),(33,.any),(34,.any)] qxf qxm qxl C v:=rgI (by kernel_rfl)
abbrev qxo:Type:=Int×List Diii×Int×Int×Bool×Int×List Diii
def qxp (v:qxo):St:=⟨[(1,.ptr 0 0),(3,i6 v.1),(32,.fz Riii v.2.1),(33,i6 v.2.2.1),(34,i6 v.2.2.2.1),(35,.bool v.2.2.2.2.1)],[.cells [i6 v.2.2.2.2.2.1,.fz Riii v.2.2.2.2.2.2]]⟩
def qxq (C:qwt) (v:qxk):Dt qxo:=(Dt.ret (v.1,v.2.1,v.2.2.1,v.2.2.2.1,(decide (v.2.2.2.1<v.2.2.1)),v.2.2.2.2.1,v.2.2.2.2.2))
theorem qxr C v:q346 (regO (qea f24) 7) false [(1,(.box [.any,.val Riii])),(3,.any),(32,(.val Riii)),(33,.any),(34,.any),(35,.any)] qxl qxq qxp C v:=rgI (by kernel_rfl)
abbrev qxs:Type:=Int×List Diii×Int×Int×Int×List Diii×Int×Int×Int
def qxt (v:qxs):St:=⟨[(1,.ptr 0 0),(3,i6 v.1),(5,.ptr 1 0),(32,.fz Riii v.2.1),(33,i6 v.2.2.1),(34,i6 v.2.2.2.1)],[.cells [i6 v.2.2.2.2.1,.fz Riii v.2.2.2.2.2.1],.cells [i6 v.2.2.2.2.2.2.1,i6 v.2.2.2.2.2.2.2.1,i6 v.2.2.2.2.2.2.2.2]]⟩
def qxu (C:qwt) (v:qxo):Dt qxs:=(Dt.ite (inB v.2.2.2.1 (List.length v.2.1)) (Dt.ret (v.1,v.2.1,v.2.2.1,v.2.2.2.1,v.2.2.2.2.2.1,v.2.2.2.2.2.2,(elt ziii v.2.1 (v.2.2.2.1).toNat).1,(elt ziii v.2.1 (v.2.2.2.1).toNat).2.1,(elt ziii v.2.1 (v.2.2.2.1).toNat).2.2.1)) Dt.fail)
theorem qxv C v:q346 (regO (qea f24) 8) false [(1,(.box [.any,.val Riii])),(3,.any),(5,.any),(32,(.val Riii)),(33,.any),(34,.any)] qxp qxu qxt C v:=rgI (by kernel_rfl)
abbrev qxw:Type:=Int×List Diii×Int×Int×Bool×Int×List Diii
def qxx (v:qxw):St:=⟨[(1,.ptr 0 0),(3,i6 v.1),(32,.fz Riii v.2.1),(33,i6 v.2.2.1),(34,i6 v.2.2.2.1),(62,.bool v.2.2.2.2.1)],[.cells [i6 v.2.2.2.2.2.1,.fz Riii v.2.2.2.2.2.2]]⟩
def qxy (C:qwt) (v:qxs):Dt qxw:=(Dt.ite (decide ((tmin v.2.2.2.2.2.2.2.1 v.2.2.2.2.2.2.2.2)<(-1:Int))) (Dt.ret (v.1,v.2.1,v.2.2.1,v.2.2.2.1,true,v.2.2.2.2.1,v.2.2.2.2.2.1)) (Dt.ite (decide ((tmax v.2.2.2.2.2.2.2.1 v.2.2.2.2.2.2.2.2)≥v.1)) (Dt.ret (v.1,v.2.1,v.2.2.1,v.2.2.2.1,true,v.2.2.2.2.1,v.2.2.2.2.2.1)) (Dt.ite (decide (v.2.2.2.2.2.2.1<(0:Int))) (Dt.ret (v.1,v.2.1,v.2.2.1,v.2.2.2.1,true,v.2.2.2.2.1,v.2.2.2.2.2.1)) (Dt.ret (v.1,v.2.1,v.2.2.1,v.2.2.2.1,(decide (v.2.2.2.2.2.2.1 > (65535:Int))),v.2.2.2.2.1,v.2.2.2.2.2.1)))))
theorem qxz C v:q346 (regO (qea f24) 9) false [(1,(.box [.any,.val Riii])),(3,.any),(32,(.val Riii)),(33,.any),(34,.any),(62,.any)] qxt qxy qxx C v:=rgI (by kernel_rfl)
def qy0 (C:qwt) (v:qxw):Dt qxa:=(Dt.ret (8:Int))
theorem qy1 C v:q346 (regO (qea f24) 10) false [(2,.any)] qxx qy0 qxb C v:=rgI (by kernel_rfl)
def qy2 (C:qwt) (v:qxw):Dt qxk:=(Dt.ret (v.1,v.2.1,v.2.2.1,(IntKind.wrap .i64 (v.2.2.2.1+(1:Int))),v.2.2.2.2.2.1,v.2.2.2.2.2.2))
theorem qy3 C v:q346 (regO (qea f24) 11) false [(1,(.box [.any,.val Riii])),(3,.any),(32,(.val Riii)),(33,.any),(34,.any)] qxx qy2 qxl C v:=rgI (by kernel_rfl)
abbrev qy4:Type:=Int×Bool×Int×List Diii×List Di
def qy5 (v:qy4):St:=⟨[(1,.ptr 0 0),(3,i6 v.1),(6,.rs 1),(7,.bool v.2.1)],[.cells [i6 v.2.2.1,.fz Riii v.2.2.2.1],.rows Ri v.2.2.2.2]⟩
def qy6 (C:qwt) (v:qxo):Dt qy4:=(Dt.bnd (C.1 ((v.2.2.2.2.2.1,v.2.2.2.2.2.2,()),())) fun r1=>(Dt.ret (v.1,r1.2,v.2.2.2.2.2.1,v.2.2.2.2.2.2,r1.1)))
theorem qy7 C v:q346 (regO (qea f24) 12) false [(1,(.box [.any,.val Riii])),(3,.any),(6,(.own Ri)),(7,.any)] qxp qy6 qy5 C v:=rgI (by kernel_rfl)
abbrev qy8:Type:=Int×Bool×Int×List Diii×List Di
def qy9 (v:qy8):St:=⟨[(1,.ptr 0 0),(3,i6 v.1),(6,.rs 1),(76,.bool v.2.1)],[.cells [i6 v.2.2.1,.fz Riii v.2.2.2.1],.rows Ri v.2.2.2.2]⟩
def qya (C:qwt) (v:qy4):Dt qy8:=(Dt.ite (!v.2.1) (Dt.ret (v.1,true,v.2.2.1,v.2.2.2.1,v.2.2.2.2)) (Dt.ret (v.1,((List.length v.2.2.2.2:Int) != v.1),v.2.2.1,v.2.2.2.1,v.2.2.2.2)))
theorem qyb C v:q346 (regO (qea f24) 13) false [(1,(.box [.any,.val Riii])),(3,.any),(6,(.own Ri)),(76,.any)] qy5 qya qy9 C v:=rgI (by kernel_rfl)
def qyc (C:qwt) (v:qy8):Dt qxa:=(Dt.ret (8:Int))
theorem qyd C v:q346 (regO (qea f24) 14) false [(2,.any)] qy9 qyc qxb C v:=rgI (by kernel_rfl)
abbrev qye:Type:=Int×Int×Int×List Diii×List Di
def qyf (v:qye):St:=⟨[(1,.ptr 0 0),(3,i6 v.1),(6,.rs 1),(8,i6 v.2.1)],[.cells [i6 v.2.2.1,.fz Riii v.2.2.2.1],.rows Ri v.2.2.2.2]⟩
def qyg (C:qwt) (v:qy8):Dt qye:=(Dt.ret (v.1,(1:Int),v.2.2.1,v.2.2.2.1,v.2.2.2.2))
theorem qyh C v:q346 (regO (qea f24) 15) false [(1,(.box [.any,.val Riii])),(3,.any),(6,(.own Ri)),(8,.any)] qy9 qyg qyf C v:=rgI (by kernel_rfl)
abbrev qyi:Type:=Int×Int×Bool×Int×List Diii×List Di
def qyj (v:qyi):St:=⟨[(1,.ptr 0 0),(3,i6 v.1),(6,.rs 1),(8,i6 v.2.1),(79,.bool v.2.2.1)],[.cells [i6 v.2.2.2.1,.fz Riii v.2.2.2.2.1],.rows Ri v.2.2.2.2.2]⟩
def qyk (C:qwt) (v:qye):Dt qyi:=(Dt.ret (v.1,v.2.1,(decide (v.2.1<v.1)),v.2.2.1,v.2.2.2.1,v.2.2.2.2))
theorem qyl C v:q346 (regO (qea f24) 16) false [(1,(.box [.any,.val Riii])),(3,.any),(6,(.own Ri)),(8,.any),(79,.any)] qyf qyk qyj C v:=rgI (by kernel_rfl)
abbrev qym:Type:=Int×Int×Bool×Int×List Diii×List Di
def qyn (v:qym):St:=⟨[(1,.ptr 0 0),(3,i6 v.1),(6,.rs 1),(8,i6 v.2.1),(101,.bool v.2.2.1)],[.cells [i6 v.2.2.2.1,.fz Riii v.2.2.2.2.1],.rows Ri v.2.2.2.2.2]⟩
def qyo (C:qwt) (v:qyi):Dt qym:=(Dt.ite (inB (IntKind.wrap .i64 (v.2.1 - (1:Int))) (List.length v.2.2.2.2.2)) (Dt.ite (inB (elt zi v.2.2.2.2.2 ((IntKind.wrap .i64 (v.2.1 - (1:Int)))).toNat).1 (List.length v.2.2.2.2.1)) (Dt.ite (inB v.2.1 (List.length v.2.2.2.2.2)) (Dt.ite (inB (elt zi v.2.2.2.2.2 (v.2.1).toNat).1 (List.length v.2.2.2.2.1)) (Dt.ret (v.1,v.2.1,(decide ((elt ziii v.2.2.2.2.1 ((elt zi v.2.2.2.2.2 ((IntKind.wrap .i64 (v.2.1 - (1:Int)))).toNat).1).toNat).1≥(elt ziii v.2.2.2.2.1 ((elt zi v.2.2.2.2.2 (v.2.1).toNat).1).toNat).1)),v.2.2.2.1,v.2.2.2.2.1,v.2.2.2.2.2)) Dt.fail) Dt.fail) Dt.fail) Dt.fail)
theorem qyp C v:q346 (regO (qea f24) 18) true [(1,(.box [.any,.val Riii])),(3,.any),(6,(.own Ri)),(8,.any),(101,.any)] qyj qyo qyn C v:=rgI (by kernel_rfl)
def qyq (C:qwt) (v:qym):Dt qxa:=(Dt.ret (8:Int))
theorem qyr C v:q346 (regO (qea f24) 19) false [(2,.any)] qyn qyq qxb C v:=rgI (by kernel_rfl)
def qys (C:qwt) (v:qym):Dt qye:=(Dt.ret (v.1,(IntKind.wrap .i64 (v.2.1+(1:Int))),v.2.2.2.1,v.2.2.2.2.1,v.2.2.2.2.2))
theorem qyt C v:q346 (regO (qea f24) 17) false [(1,(.box [.any,.val Riii])),(3,.any),(6,(.own Ri)),(8,.any)] qyn qys qyf C v:=rgI (by kernel_rfl)
def qyu (C:qwt) (v:qyi):Dt qxa:=(Dt.ret (0:Int))
theorem qyv C v:q346 (regO (qea f24) 20) false [(2,.any)] qyj qyu qxb C v:=rgI (by kernel_rfl)
def qyw (d:Nat) (self2:(Int×Int×Int×List Diii×List Di)→Option qwq) (x2:Int×Int×Int×List Diii×List Di):Option qwq :=
 (qyk (qwu d) x2).eval fun y16 =>
 bif y16.2.2.1 then ((qyo (qwu d) y16).eval fun y18 =>
 bif y18.2.2.1 then ((qyq (qwu d) y18).eval fun y19 =>
 some y19) else ((qys (qwu d) y18).eval fun y17 =>
 self2 y17)) else ((qyu (qwu d) y16).eval fun y20 =>
 some y20)
def qyx (d:Nat) (self1:(Int×List Diii×Int×Int×Int×List Diii)→Option qwq) (x1:Int×List Diii×Int×Int×Int×List Diii):Option qwq :=
 (qxq (qwu d) x1).eval fun y7 =>
 bif y7.2.2.2.2.1 then ((qxu (qwu d) y7).eval fun y8 =>
 (qxy (qwu d) y8).eval fun y9 =>
 bif y9.2.2.2.2.1 then ((qy0 (qwu d) y9).eval fun y10 =>
 some y10) else ((qy2 (qwu d) y9).eval fun y11 =>
 self1 y11)) else ((qy6 (qwu d) y7).eval fun y12 =>
 (qya (qwu d) y12).eval fun y13 =>
 bif y13.2.1 then ((qyc (qwu d) y13).eval fun y14 =>
 some y14) else ((qyg (qwu d) y13).eval fun y15 =>
 iter (qyw d ) d y15))
def qyy (d:Nat) (x:qwp):Option qwq :=
 (qx0 (qwu d) (x.1.1,x.1.2.1)).eval fun y0 =>
 (qx4 (qwu d) y0).eval fun y1 =>
 (qx8 (qwu d) y1).eval fun y2 =>
 bif y2.2.1 then ((qxc (qwu d) y2).eval fun y3 =>
 some y3) else ((qxg (qwu d) y2).eval fun y4 =>
 bif y4.2.1 then ((qxi (qwu d) y4).eval fun y5 =>
 some y5) else ((qxm (qwu d) y4).eval fun y6 =>
 iter (qyx d ) d y6))
theorem qyz (d:Nat):COK prog (qws (qyy d)):=by
 have hm:prog.follows .mixedOrders=true:=mixed
 have hT:=tys
 have hC0:OrcOK prog (orc (qwv (qwu d))):=qe4 (by
  intro S hS
  simp only [qwv,List.mem_cons,List.not_mem_nil,or_false] at hS
  subst hS;exact qwn d)
 have hC:OrcOK prog (orc (qwv (qwu d))):=hC0
 refine q9t (c:=qea f24) (fn:=f24) hT (by kernel_rfl) (by kernel_rfl) (by decide) fun x r h w0 φ0 Q hend=>?_
 replace h:qyy d x=some r:=h
 unfold qyy at h
 show Run prog w0 φ0 102 (qea f24) ⟨[(0,.agg [.int .i64 x.1.1,.fz Riii x.1.2.1])],[]⟩ Q
 refine q344 hm hT hC (qx1 (qwu d) (x.1.1,x.1.2.1)) h fun y0 h=>?_
 refine q344 hm hT hC (qx5 (qwu d) y0) h fun y1 h=>?_
 refine q9d ?_
 refine q344 hm hT hC (qx9 (qwu d) y1) h fun y2 h=>?_
 refine q9h (v:=y2.2.1) (by kernel_rfl) h ?_ ?_
 ·
  intro h
  refine q344 hm hT hC (qxd (qwu d) y2) h fun y3 h=>?_
  refine q9c (q91 ?_)
  cases h
  exact (hend _ (by kernel_rfl)).2
 ·
  intro h
  refine q99 (q8z (q9d ?_))
  refine q344 hm hT hC (qxh (qwu d) y2) h fun y4 h=>?_
  refine q9h (v:=y4.2.1) (by kernel_rfl) h ?_ ?_
  ·
   intro h
   refine q344 hm hT hC (qxj (qwu d) y4) h fun y5 h=>?_
   refine q9c (q91 ?_)
   cases h
   exact (hend _ (by kernel_rfl)).2
  ·
   intro h
   refine q99 (q8z (q9d ?_))
   refine q344 hm hT hC (qxn (qwu d) y4) h fun y6 h=>?_
   refine q9e ?_
   refine q9j (G:=iter (qyx d )) (S:=(fun x1=>⟨[(1,.ptr 0 0),(3,i6 x1.1),(32,.fz Riii x1.2.1),(33,i6 x1.2.2.1),(34,i6 x1.2.2.2.1)],[.cells [i6 x1.2.2.2.2.1,.fz Riii x1.2.2.2.2.2]]⟩:Int×List Diii×Int×Int×Int×List Diii→St)) (fun _=>rfl) ?_ d _ h
   intro n1 x1 h K1 hn1
   replace h:qyx d  (iter (qyx d ) n1) x1=some r:=h
   generalize iter (qyx d ) n1=self1 at h hn1
   unfold qyx at h
   refine q344 hm hT hC (qxr (qwu d) x1) h fun y7 h=>?_
   refine q9d ?_
   refine q9h (v:=y7.2.2.2.2.1) (by kernel_rfl) h ?_ ?_
   ·
    intro h
    refine q99 (q8z (q9d (q9e ?_)))
    refine q344 hm hT hC (qxv (qwu d) y7) h fun y8 h=>?_
    refine q344 hm hT hC (qxz (qwu d) y8) h fun y9 h=>?_
    refine q9h (v:=y9.2.2.2.2.1) (by kernel_rfl) h ?_ ?_
    ·
     intro h
     refine q344 hm hT hC (qy1 (qwu d) y9) h fun y10 h=>?_
     refine q9c (q93 (q91 (q91 (q93 (q91 ?_)))))
     cases h
     exact (hend _ (by kernel_rfl)).2
    ·
     intro h
     refine q99 (q92 (q8z ?_))
     refine q9i hm hT hC (qy3 (qwu d) y9) h ?_
     intro y11 h
     exact hn1 _ h
   ·
    intro h
    refine q9b (q90 (q90 (q94 (q8z ?_))))
    refine q344 hm hT hC (qy7 (qwu d) y7) h fun y12 h=>?_
    refine q9d ?_
    refine q344 hm hT hC (qyb (qwu d) y12) h fun y13 h=>?_
    refine q9h (v:=y13.2.1) (by kernel_rfl) h ?_ ?_
    ·
     intro h
     refine q344 hm hT hC (qyd (qwu d) y13) h fun y14 h=>?_
     refine q9c (q91 ?_)
     cases h
     exact (hend _ (by kernel_rfl)).2
    ·
     intro h
     refine q99 (q8z (q9d ?_))
     refine q344 hm hT hC (qyh (qwu d) y13) h fun y15 h=>?_
     refine q9e ?_
     refine q9j (G:=iter (qyw d )) (S:=(fun x2=>⟨[(1,.ptr 0 0),(3,i6 x2.1),(6,.rs 1),(8,i6 x2.2.1)],[.cells [i6 x2.2.2.1,.fz Riii x2.2.2.2.1],.rows Ri x2.2.2.2.2]⟩:Int×Int×Int×List Diii×List Di→St)) (fun _=>rfl) ?_ d _ h
     intro n2 x2 h K2 hn2
     replace h:qyw d  (iter (qyw d ) n2) x2=some r:=h
     generalize iter (qyw d ) n2=self2 at h hn2
     unfold qyw at h
     refine q9d ?_
     refine q344 hm hT hC (qyl (qwu d) x2) h fun y16 h=>?_
     refine q9h (v:=y16.2.2.1) (by kernel_rfl) h ?_ ?_
     ·
      intro h
      refine q99 (q8z (q9d (q9e ?_)))
      refine q344 hm hT hC (qyp (qwu d) y16) h fun y18 h=>?_
      refine q9h (v:=y18.2.2.1) (by kernel_rfl) h ?_ ?_
      ·
       intro h
       refine q344 hm hT hC (qyr (qwu d) y18) h fun y19 h=>?_
       refine q9c (q93 (q91 (q91 (q93 (q91 ?_)))))
       cases h
       exact (hend _ (by kernel_rfl)).2
      ·
       intro h
       refine q99 (q92 (q8z ?_))
       refine q9i hm hT hC (qyt (qwu d) y18) h ?_
       intro y17 h
       exact hn2 _ h
     ·
      intro h
      refine q9b (q90 (q90 (q94 (q8z ?_))))
      refine q344 hm hT hC (qyv (qwu d) y16) h fun y20 h=>?_
      refine q9c ?_
      cases h
      exact (hend _ (by kernel_rfl)).2
abbrev qz0:List Pk:=[.row qkv true]
abbrev qz1:Type:=qkw×Unit
abbrev qz2:Type:=List Di×Int
def qz3 (r:qz2):LV×List Ob:=(.tup [.rs 0,.int .i64 r.2],[.rows Ri r.1])
def qz4 (F:qz1→Option qz2):Go.Tx.Spec:=⟨15,qz0,qz2,F,qz3⟩
abbrev qz5:Type:=(qwp→Option qwq)×(qv3→Option qv4)×Unit
def qz6 (d:Nat):qz5:=(qyy d,qwm d,())
def qz7 (C:qz5):List Go.Tx.Spec:=[qws C.1,qv6 C.2.1]
abbrev qz8:Type:=Int×List Diii
def qz9 (v:qz8):St:=⟨[(0,.agg [i6 v.1,.fz Riii v.2])],[]⟩
abbrev qza:Type:=Int×List Diii
def qzb (v:qza):St:=⟨[(1,.ptr 0 0)],[.cells [i6 v.1,.fz Riii v.2]]⟩
def qzc (C:qz5) (v:qz8):Dt qza:=(Dt.ret (v.1,v.2))
abbrev q347 {V Y:Type}:=@rg qz5 V Y tysT (fun C=>(orc (qz7 C))) 37
theorem qzd C v:q347 (regO (qea f15) 0) false [(1,(.box [.any,.val Riii]))] qz9 qzc qzb C v:=rgI (by kernel_rfl)
abbrev qze:Type:=Int×Int×List Diii
def qzf (v:qze):St:=⟨[(1,.ptr 0 0),(4,i6 v.1)],[.cells [i6 v.2.1,.fz Riii v.2.2]]⟩
def qzg (C:qz5) (v:qza):Dt qze:=(Dt.bnd (C.1 ((v.1,v.2,()),())) fun r1=>(Dt.ret (r1,v.1,v.2)))
theorem qzh C v:q347 (regO (qea f15) 1) false [(1,(.box [.any,.val Riii])),(4,.any)] qzb qzg qzf C v:=rgI (by kernel_rfl)
abbrev qzi:Type:=Int×Bool×Int×List Diii
def qzj (v:qzi):St:=⟨[(1,.ptr 0 0),(4,i6 v.1),(12,.bool v.2.1)],[.cells [i6 v.2.2.1,.fz Riii v.2.2.2]]⟩
def qzk (C:qz5) (v:qze):Dt qzi:=(Dt.ret (v.1,(v.1 != (0:Int)),v.2.1,v.2.2))
theorem qzl C v:q347 (regO (qea f15) 2) false [(1,(.box [.any,.val Riii])),(4,.any),(12,.any)] qzf qzk qzj C v:=rgI (by kernel_rfl)
abbrev qzm:Type:=Int×List Di
def qzn (v:qzm):St:=⟨[(2,.rs 0),(3,i6 v.1)],[.rows Ri v.2]⟩
def qzo (C:qz5) (v:qzi):Dt qzm:=(Dt.ret (v.1,([]:List Di)))
theorem qzp C v:q347 (regO (qea f15) 3) false [(2,(.own Ri)),(3,.any)] qzj qzo qzn C v:=rgI (by kernel_rfl)
abbrev qzq:Type:=Int×List Diii×List Di
def qzr (v:qzq):St:=⟨[(1,.ptr 0 0),(5,.rs 1)],[.cells [i6 v.1,.fz Riii v.2.1],.rows Ri v.2.2]⟩
def qzs (C:qz5) (v:qzi):Dt qzq:=(Dt.bnd (C.2.1 ((v.2.2.1,v.2.2.2,()),())) fun r1=>(Dt.ret (v.2.2.1,v.2.2.2,r1.1)))
theorem qzt C v:q347 (regO (qea f15) 4) false [(1,(.box [.any,.val Riii])),(5,(.own Ri))] qzj qzs qzr C v:=rgI (by kernel_rfl)
abbrev qzu:Type:=Int×Int×Int×List Diii×List Di
def qzv (v:qzu):St:=⟨[(1,.ptr 0 0),(5,.rs 1),(19,.rs 1),(20,i6 v.1),(21,i6 v.2.1)],[.cells [i6 v.2.2.1,.fz Riii v.2.2.2.1],.rows Ri v.2.2.2.2]⟩
def qzw (C:qz5) (v:qzq):Dt qzu:=(Dt.ret ((List.length v.2.2:Int),(0:Int),v.1,v.2.1,v.2.2))
theorem qzx C v:q347 (regO (qea f15) 5) false [(1,(.box [.any,.val Riii])),(5,(.own Ri)),(19,(.own Ri)),(20,.any),(21,.any)] qzr qzw qzv C v:=rgI (by kernel_rfl)
abbrev qzy:Type:=Int×Int×Bool×Int×List Diii×List Di
def qzz (v:qzy):St:=⟨[(1,.ptr 0 0),(5,.rs 1),(19,.rs 1),(20,i6 v.1),(21,i6 v.2.1),(22,.bool v.2.2.1)],[.cells [i6 v.2.2.2.1,.fz Riii v.2.2.2.2.1],.rows Ri v.2.2.2.2.2]⟩
def q100 (C:qz5) (v:qzu):Dt qzy:=(Dt.ret (v.1,v.2.1,(decide (v.2.1<v.1)),v.2.2.1,v.2.2.2.1,v.2.2.2.2))
theorem q101 C v:q347 (regO (qea f15) 6) false [(1,(.box [.any,.val Riii])),(5,(.own Ri)),(19,(.own Ri)),(20,.any),(21,.any),(22,.any)] qzv q100 qzz C v:=rgI (by kernel_rfl)
abbrev q102:Type:=Int×Int×Int×Int×Int×List Diii×List Di
def q103 (v:q102):St:=⟨[(1,.ptr 0 0),(5,.rs 1),(7,i6 v.1),(8,i6 v.2.1),(19,.rs 1),(20,i6 v.2.2.1),(21,i6 v.2.2.2.1)],[.cells [i6 v.2.2.2.2.1,.fz Riii v.2.2.2.2.2.1],.rows Ri v.2.2.2.2.2.2]⟩
def q104 (C:qz5) (v:qzy):Dt q102:=(Dt.ite (inB v.2.1 (List.length v.2.2.2.2.2)) (Dt.ret (v.2.1,(elt zi v.2.2.2.2.2 (v.2.1).toNat).1,v.1,v.2.1,v.2.2.2.1,v.2.2.2.2.1,v.2.2.2.2.2)) Dt.fail)
theorem q105 C v:q347 (regO (qea f15) 7) false [(1,(.box [.any,.val Riii])),(5,(.own Ri)),(7,.any),(8,.any),(19,(.own Ri)),(20,.any),(21,.any)] qzz q104 q103 C v:=rgI (by kernel_rfl)
def q106 (C:qz5) (v:q102):Dt qzu:=(Dt.ite (inB v.2.1 (List.length v.2.2.2.2.2.1)) (Dt.ite (inB v.1 (List.length v.2.2.2.2.2.2)) (Dt.ret (v.2.2.1,v.2.2.2.1,v.2.2.2.2.1,v.2.2.2.2.2.1,(List.set v.2.2.2.2.2.2 (v.1).toNat ((elt ziii v.2.2.2.2.2.1 (v.2.1).toNat).1,())))) Dt.fail) Dt.fail)
theorem q107 C v:q347 (regO (qea f15) 8) false [(1,(.box [.any,.val Riii])),(5,(.own Ri)),(19,(.own Ri)),(20,.any),(21,.any)] q103 q106 qzv C v:=rgI (by kernel_rfl)
def q108 (C:qz5) (v:qzu):Dt qzu:=(Dt.ret (v.1,(IntKind.wrap .i64 (v.2.1+(1:Int))),v.2.2.1,v.2.2.2.1,v.2.2.2.2))
theorem q109 C v:q347 (regO (qea f15) 9) false [(1,(.box [.any,.val Riii])),(5,(.own Ri)),(19,(.own Ri)),(20,.any),(21,.any)] qzv q108 qzv C v:=rgI (by kernel_rfl)
def q10a (C:qz5) (v:qzy):Dt qzm:=(Dt.ret ((0:Int),v.2.2.2.2.2))
theorem q10b C v:q347 (regO (qea f15) 10) false [(2,(.own Ri)),(3,.any)] qzz q10a qzn C v:=rgI (by kernel_rfl)
def q10c (d:Nat) (self1:(Int×Int×Int×List Diii×List Di)→Option qz2) (x1:Int×Int×Int×List Diii×List Di):Option qz2 :=
 (q100 (qz6 d) x1).eval fun y6 =>
 bif y6.2.2.1 then ((q104 (qz6 d) y6).eval fun y7 =>
 (q106 (qz6 d) y7).eval fun y8 =>
 (q108 (qz6 d) y8).eval fun y9 =>
 self1 y9) else ((q10a (qz6 d) y6).eval fun y10 =>
 some (y10.2,y10.1))
def q10d (d:Nat) (x:qz1):Option qz2 :=
 (qzc (qz6 d) (x.1.1,x.1.2.1)).eval fun y0 =>
 (qzg (qz6 d) y0).eval fun y1 =>
 (qzk (qz6 d) y1).eval fun y2 =>
 bif y2.2.1 then ((qzo (qz6 d) y2).eval fun y3 =>
 some (y3.2,y3.1)) else ((qzs (qz6 d) y2).eval fun y4 =>
 (qzw (qz6 d) y4).eval fun y5 =>
 iter (q10c d ) d y5)
theorem q10e (d:Nat):COK prog (qz4 (q10d d)):=by
 have hm:prog.follows .mixedOrders=true:=mixed
 have hT:=tys
 have hC0:OrcOK prog (orc (qz7 (qz6 d))):=qe4 (by
  intro S hS
  simp only [qz7,List.mem_cons,List.not_mem_nil,or_false] at hS
  rcases hS with rfl | rfl
  · exact qyz d
  · exact qwn d)
 have hC:OrcOK prog (orc (qz7 (qz6 d))):=hC0
 refine q9t (c:=qea f15) (fn:=f15) hT (by kernel_rfl) (by kernel_rfl) (by decide) fun x r h w0 φ0 Q hend=>?_
 replace h:q10d d x=some r:=h
 unfold q10d at h
 show Run prog w0 φ0 37 (qea f15) ⟨[(0,.agg [.int .i64 x.1.1,.fz Riii x.1.2.1])],[]⟩ Q
 refine q344 hm hT hC (qzd (qz6 d) (x.1.1,x.1.2.1)) h fun y0 h=>?_
 refine q9d ?_
 refine q344 hm hT hC (qzh (qz6 d) y0) h fun y1 h=>?_
 refine q344 hm hT hC (qzl (qz6 d) y1) h fun y2 h=>?_
 refine q9h (v:=y2.2.1) (by kernel_rfl) h ?_ ?_
 ·
  intro h
  refine q344 hm hT hC (qzp (qz6 d) y2) h fun y3 h=>?_
  refine q9c (q91 ?_)
  cases h
  exact (hend _ (by kernel_rfl)).2
 ·
  intro h
  refine q99 (q8z ?_)
  refine q344 hm hT hC (qzt (qz6 d) y2) h fun y4 h=>?_
  refine q9d ?_
  refine q344 hm hT hC (qzx (qz6 d) y4) h fun y5 h=>?_
  refine q9e ?_
  refine q9j (G:=iter (q10c d )) (S:=(fun x1=>⟨[(1,.ptr 0 0),(5,.rs 1),(19,.rs 1),(20,i6 x1.1),(21,i6 x1.2.1)],[.cells [i6 x1.2.2.1,.fz Riii x1.2.2.2.1],.rows Ri x1.2.2.2.2]⟩:Int×Int×Int×List Diii×List Di→St)) (fun _=>rfl) ?_ d _ h
  intro n1 x1 h K1 hn1
  replace h:q10c d  (iter (q10c d ) n1) x1=some r:=h
  generalize iter (q10c d ) n1=self1 at h hn1
  unfold q10c at h
  refine q344 hm hT hC (q101 (qz6 d) x1) h fun y6 h=>?_
  refine q9d ?_
  refine q9h (v:=y6.2.2.1) (by kernel_rfl) h ?_ ?_
  ·
   intro h
   refine q99 (q8z (q9d (q9e ?_)))
   refine q344 hm hT hC (q105 (qz6 d) y6) h fun y7 h=>?_
   refine q9i hm hT hC (q107 (qz6 d) y7) h ?_
   intro y8 h
   refine q92 (q8z ?_)
   refine q9i hm hT hC (q109 (qz6 d) y8) h ?_
   intro y9 h
   exact hn1 _ h
  ·
   intro h
   refine q9b (q90 (q90 (q94 (q8z ?_))))
   refine q344 hm hT hC (q10b (qz6 d) y6) h fun y10 h=>?_
   refine q9c ?_
   cases h
   exact (hend _ (by kernel_rfl)).2
abbrev q10f:List Pk:=[.row qkv true,.row Ri false]
abbrev q10g:Type:=qkw×Di×Unit
abbrev q10h:Type:=Int×Int
def q10i (r:q10h):LV×List Ob:=(.tup [.int .i64 r.1,.int .i64 r.2],[])
def q10j (F:q10g→Option q10h):Go.Tx.Spec:=⟨19,q10f,q10h,F,q10i⟩
abbrev q10k:Type:=(qwp→Option qwq)×Unit
def q10l (d:Nat):q10k:=(qyy d,())
def q10m (C:q10k):List Go.Tx.Spec:=[qws C.1]
abbrev q10n:Type:=Int×List Diii×Int
def q10o (v:q10n):St:=⟨[(0,.agg [i6 v.1,.fz Riii v.2.1]),(1,i6 v.2.2)],[]⟩
abbrev q10p:Type:=Int×Int×List Diii
def q10q (v:q10p):St:=⟨[(1,i6 v.1),(2,.ptr 0 0)],[.cells [i6 v.2.1,.fz Riii v.2.2]]⟩
def q10r (C:q10k) (v:q10n):Dt q10p:=(Dt.ret (v.2.2,v.1,v.2.1))
abbrev q348 {V Y:Type}:=@rg q10k V Y tysT (fun C=>(orc (q10m C))) 41
theorem q10s C v:q348 (regO (qea f19) 0) false [(1,.any),(2,(.box [.any,.val Riii]))] q10o q10r q10q C v:=rgI (by kernel_rfl)
abbrev q10t:Type:=Int×Int×Int×List Diii
def q10u (v:q10t):St:=⟨[(1,i6 v.1),(2,.ptr 0 0),(6,i6 v.2.1)],[.cells [i6 v.2.2.1,.fz Riii v.2.2.2]]⟩
def q10v (C:q10k) (v:q10p):Dt q10t:=(Dt.bnd (C.1 ((v.2.1,v.2.2,()),())) fun r1=>(Dt.ret (v.1,r1,v.2.1,v.2.2)))
theorem q10w C v:q348 (regO (qea f19) 1) false [(1,.any),(2,(.box [.any,.val Riii])),(6,.any)] q10q q10v q10u C v:=rgI (by kernel_rfl)
abbrev q10x:Type:=Int×Int×Bool×Int×List Diii
def q10y (v:q10x):St:=⟨[(1,i6 v.1),(2,.ptr 0 0),(6,i6 v.2.1),(13,.bool v.2.2.1)],[.cells [i6 v.2.2.2.1,.fz Riii v.2.2.2.2]]⟩
def q10z (C:q10k) (v:q10t):Dt q10x:=(Dt.ret (v.1,v.2.1,(v.2.1 != (0:Int)),v.2.2.1,v.2.2.2))
theorem q110 C v:q348 (regO (qea f19) 2) false [(1,.any),(2,(.box [.any,.val Riii])),(6,.any),(13,.any)] q10u q10z q10y C v:=rgI (by kernel_rfl)
abbrev q111:Type:=Int×Int
def q112 (v:q111):St:=⟨[(4,i6 v.1),(5,i6 v.2)],[]⟩
def q113 (C:q10k) (v:q10x):Dt q111:=(Dt.ret ((0:Int),v.2.1))
theorem q114 C v:q348 (regO (qea f19) 3) false (an [4,5]) q10y q113 q112 C v:=rgI (by kernel_rfl)
abbrev q115:Type:=Int×Int×Int×List Diii
def q116 (v:q115):St:=⟨[(1,i6 v.1),(2,.ptr 0 0),(7,i6 v.2.1)],[.cells [i6 v.2.2.1,.fz Riii v.2.2.2]]⟩
def q117 (C:q10k) (v:q10x):Dt q115:=(Dt.ret (v.1,(0:Int),v.2.2.2.1,v.2.2.2.2))
theorem q118 C v:q348 (regO (qea f19) 4) false [(1,.any),(2,(.box [.any,.val Riii])),(7,.any)] q10y q117 q116 C v:=rgI (by kernel_rfl)
abbrev q119:Type:=Int×Int×Int×Int×List Diii
def q11a (v:q119):St:=⟨[(1,i6 v.1),(2,.ptr 0 0),(7,i6 v.2.1),(8,i6 v.2.2.1)],[.cells [i6 v.2.2.2.1,.fz Riii v.2.2.2.2]]⟩
def q11b (C:q10k) (v:q115):Dt q119:=(Dt.ret (v.1,v.2.1,v.2.2.1,v.2.2.1,v.2.2.2))
theorem q11c C v:q348 (regO (qea f19) 5) false [(1,.any),(2,(.box [.any,.val Riii])),(7,.any),(8,.any)] q116 q11b q11a C v:=rgI (by kernel_rfl)
abbrev q11d:Type:=Int×Int×Int×Bool×Int×List Diii
def q11e (v:q11d):St:=⟨[(1,i6 v.1),(2,.ptr 0 0),(7,i6 v.2.1),(8,i6 v.2.2.1),(18,.bool v.2.2.2.1)],[.cells [i6 v.2.2.2.2.1,.fz Riii v.2.2.2.2.2]]⟩
def q11f (C:q10k) (v:q119):Dt q11d:=(Dt.ret (v.1,v.2.1,v.2.2.1,(decide (v.2.2.1≥(0:Int))),v.2.2.2.1,v.2.2.2.2))
theorem q11g C v:q348 (regO (qea f19) 6) false [(1,.any),(2,(.box [.any,.val Riii])),(7,.any),(8,.any),(18,.any)] q11a q11f q11e C v:=rgI (by kernel_rfl)
abbrev q11h:Type:=Int×Int×Int×List Diii×Int×Int×Int
def q11i (v:q11h):St:=⟨[(1,i6 v.1),(2,.ptr 0 0),(7,i6 v.2.1),(9,.ptr 1 0)],[.cells [i6 v.2.2.1,.fz Riii v.2.2.2.1],.cells [i6 v.2.2.2.2.1,i6 v.2.2.2.2.2.1,i6 v.2.2.2.2.2.2]]⟩
def q11j (C:q10k) (v:q11d):Dt q11h:=(Dt.ite (inB v.2.2.1 (List.length v.2.2.2.2.2)) (Dt.ret (v.1,v.2.1,v.2.2.2.2.1,v.2.2.2.2.2,(elt ziii v.2.2.2.2.2 (v.2.2.1).toNat).1,(elt ziii v.2.2.2.2.2 (v.2.2.1).toNat).2.1,(elt ziii v.2.2.2.2.2 (v.2.2.1).toNat).2.2.1)) Dt.fail)
theorem q11k C v:q348 (regO (qea f19) 8) false [(1,.any),(2,(.box [.any,.val Riii])),(7,.any),(9,.any)] q11e q11j q11i C v:=rgI (by kernel_rfl)
abbrev q11l:Type:=Int×Int×Bool×Int×List Diii×Int×Int×Int
def q11m (v:q11l):St:=⟨[(1,i6 v.1),(2,.ptr 0 0),(7,i6 v.2.1),(9,.ptr 1 0),(28,.bool v.2.2.1)],[.cells [i6 v.2.2.2.1,.fz Riii v.2.2.2.2.1],.cells [i6 v.2.2.2.2.2.1,i6 v.2.2.2.2.2.2.1,i6 v.2.2.2.2.2.2.2]]⟩
def q11n (C:q10k) (v:q11h):Dt q11l:=(Dt.ret (v.1,v.2.1,(v.1 == v.2.2.2.2.1),v.2.2.1,v.2.2.2.1,v.2.2.2.2.1,v.2.2.2.2.2.1,v.2.2.2.2.2.2))
theorem q11o C v:q348 (regO (qea f19) 10) false [(1,.any),(2,(.box [.any,.val Riii])),(7,.any),(9,.any),(28,.any)] q11i q11n q11m C v:=rgI (by kernel_rfl)
def q11p (C:q10k) (v:q11l):Dt q111:=(Dt.ret (v.2.1,(0:Int)))
theorem q11q C v:q348 (regO (qea f19) 11) false (an [4,5]) q11m q11p q112 C v:=rgI (by kernel_rfl)
abbrev q11r:Type:=Int×Int×Bool×Int×List Diii×Int×Int×Int
def q11s (v:q11r):St:=⟨[(1,i6 v.1),(2,.ptr 0 0),(7,i6 v.2.1),(9,.ptr 1 0),(34,.bool v.2.2.1)],[.cells [i6 v.2.2.2.1,.fz Riii v.2.2.2.2.1],.cells [i6 v.2.2.2.2.2.1,i6 v.2.2.2.2.2.2.1,i6 v.2.2.2.2.2.2.2]]⟩
def q11t (C:q10k) (v:q11l):Dt q11r:=(Dt.ret (v.1,v.2.1,(decide (v.1<v.2.2.2.2.2.1)),v.2.2.2.1,v.2.2.2.2.1,v.2.2.2.2.2.1,v.2.2.2.2.2.2.1,v.2.2.2.2.2.2.2))
theorem q11u C v:q348 (regO (qea f19) 12) false [(1,.any),(2,(.box [.any,.val Riii])),(7,.any),(9,.any),(34,.any)] q11m q11t q11s C v:=rgI (by kernel_rfl)
def q11v (C:q10k) (v:q11r):Dt q119:=(Dt.ret (v.1,v.2.1,v.2.2.2.2.2.2.1,v.2.2.2.1,v.2.2.2.2.1))
theorem q11w C v:q348 (regO (qea f19) 13) false [(1,.any),(2,(.box [.any,.val Riii])),(7,.any),(8,.any)] q11s q11v q11a C v:=rgI (by kernel_rfl)
def q11x (C:q10k) (v:q119):Dt q119:=(Dt.ret (v.1,(IntKind.wrap .i64 (v.2.1+(1:Int))),v.2.2.1,v.2.2.2.1,v.2.2.2.2))
theorem q11y C v:q348 (regO (qea f19) 7) false [(1,.any),(2,(.box [.any,.val Riii])),(7,.any),(8,.any)] q11a q11x q11a C v:=rgI (by kernel_rfl)
def q11z  (d:Nat) (self1:(Int×Int×Int×Int×List Diii)→Option q10h) (z:Int×Int×Int×Int×List Diii):Option (q10h) :=
 (q11x (q10l d) z).eval fun y7 =>
 self1 y7
def q120 (C:q10k) (v:q11r):Dt q119:=(Dt.ret (v.1,v.2.1,v.2.2.2.2.2.2.2,v.2.2.2.1,v.2.2.2.2.1))
theorem q121 C v:q348 (regO (qea f19) 9) false [(1,.any),(2,(.box [.any,.val Riii])),(7,.any),(8,.any)] q11s q120 q11a C v:=rgI (by kernel_rfl)
def q122 (C:q10k) (v:q11d):Dt q111:=(Dt.ret ((0:Int),(6:Int)))
theorem q123 C v:q348 (regO (qea f19) 14) false (an [4,5]) q11e q122 q112 C v:=rgI (by kernel_rfl)
def q124 (d:Nat) (self1:(Int×Int×Int×Int×List Diii)→Option q10h) (x1:Int×Int×Int×Int×List Diii):Option q10h :=
 (q11f (q10l d) x1).eval fun y6 =>
 bif y6.2.2.2.1 then ((q11j (q10l d) y6).eval fun y8 =>
 (q11n (q10l d) y8).eval fun y10 =>
 bif y10.2.2.1 then ((q11p (q10l d) y10).eval fun y11 =>
 some y11) else ((q11t (q10l d) y10).eval fun y12 =>
 bif y12.2.2.1 then ((q11v (q10l d) y12).eval fun y13 =>
 q11z d self1 y13) else ((q120 (q10l d) y12).eval fun y9 =>
 q11z d self1 y9))) else ((q122 (q10l d) y6).eval fun y14 =>
 some y14)
def q125 (d:Nat) (x:q10g):Option q10h :=
 (q10r (q10l d) (x.1.1,x.1.2.1,x.2.1.1)).eval fun y0 =>
 (q10v (q10l d) y0).eval fun y1 =>
 (q10z (q10l d) y1).eval fun y2 =>
 bif y2.2.2.1 then ((q113 (q10l d) y2).eval fun y3 =>
 some y3) else ((q117 (q10l d) y2).eval fun y4 =>
 (q11b (q10l d) y4).eval fun y5 =>
 iter (q124 d ) d y5)
theorem q126 (d:Nat):COK prog (q10j (q125 d)):=by
 have hm:prog.follows .mixedOrders=true:=mixed
 have hT:=tys
 have hC0:OrcOK prog (orc (q10m (q10l d))):=qe4 (by
  intro S hS
  simp only [q10m,List.mem_cons,List.not_mem_nil,or_false] at hS
  subst hS;exact qyz d)
 have hC:OrcOK prog (orc (q10m (q10l d))):=hC0
 refine q9t (c:=qea f19) (fn:=f19) hT (by kernel_rfl) (by kernel_rfl) (by decide) fun x r h w0 φ0 Q hend=>?_
 replace h:q125 d x=some r:=h
 unfold q125 at h
 show Run prog w0 φ0 41 (qea f19) ⟨[(0,.agg [.int .i64 x.1.1,.fz Riii x.1.2.1]),(1,.int .i64 x.2.1.1)],[]⟩ Q
 refine q344 hm hT hC (q10s (q10l d) (x.1.1,x.1.2.1,x.2.1.1)) h fun y0 h=>?_
 refine q9d ?_
 refine q344 hm hT hC (q10w (q10l d) y0) h fun y1 h=>?_
 refine q344 hm hT hC (q110 (q10l d) y1) h fun y2 h=>?_
 refine q9h (v:=y2.2.2.1) (by kernel_rfl) h ?_ ?_
 ·
  intro h
  refine q344 hm hT hC (q114 (q10l d) y2) h fun y3 h=>?_
  refine q9c (q91 ?_)
  cases h
  exact (hend _ (by kernel_rfl)).2
 ·
  intro h
  refine q99 (q8z ?_)
  refine q344 hm hT hC (q118 (q10l d) y2) h fun y4 h=>?_
  refine q9d ?_
  refine q344 hm hT hC (q11c (q10l d) y4) h fun y5 h=>?_
  refine q9e ?_
  refine q9j (G:=iter (q124 d )) (S:=(fun x1=>⟨[(1,i6 x1.1),(2,.ptr 0 0),(7,i6 x1.2.1),(8,i6 x1.2.2.1)],[.cells [i6 x1.2.2.2.1,.fz Riii x1.2.2.2.2]]⟩:Int×Int×Int×Int×List Diii→St)) (fun _=>rfl) ?_ d _ h
  intro n1 x1 h K1 hn1
  replace h:q124 d  (iter (q124 d ) n1) x1=some r:=h
  generalize iter (q124 d ) n1=self1 at h hn1
  unfold q124 at h
  refine q9d ?_
  refine q344 hm hT hC (q11g (q10l d) x1) h fun y6 h=>?_
  refine q9h (v:=y6.2.2.2.1) (by kernel_rfl) h ?_ ?_
  ·
   intro h
   refine q99 (q8z ?_)
   refine q9g (r:=r) (F:=q11z d self1) (S:=(fun z=>⟨[(1,i6 z.1),(2,.ptr 0 0),(7,i6 z.2.1),(8,i6 z.2.2.1)],[.cells [i6 z.2.2.2.1,.fz Riii z.2.2.2.2]]⟩:Int×Int×Int×Int×List Diii→St)) ?_ ?_
   ·
    intro z h
    unfold q11z at h
    refine q9i hm hT hC (q11y (q10l d) z) h ?_
    intro y7 h
    exact hn1 _ h
   intro hj2
   refine q9e ?_
   refine q344 hm hT hC (q11k (q10l d) y6) h fun y8 h=>?_
   refine q9e ?_
   refine q344 hm hT hC (q11o (q10l d) y8) h fun y10 h=>?_
   refine q9h (v:=y10.2.2.1) (by kernel_rfl) h ?_ ?_
   ·
    intro h
    refine q344 hm hT hC (q11q (q10l d) y10) h fun y11 h=>?_
    refine q9c (q93 (q93 (q91 (q91 (q93 (q91 ?_))))))
    cases h
    exact (hend _ (by kernel_rfl)).2
   ·
    intro h
    refine q344 hm hT hC (q11u (q10l d) y10) h fun y12 h=>?_
    refine q9h (v:=y12.2.2.1) (by kernel_rfl) h ?_ ?_
    ·
     intro h
     refine q9i hm hT hC (q11w (q10l d) y12) h ?_
     intro y13 h
     refine q92 (q92 ?_)
     exact hj2 _ h
    ·
     intro h
     refine q9i hm hT hC (q121 (q10l d) y12) h ?_
     intro y9 h
     refine q92 (q92 ?_)
     exact hj2 _ h
  ·
   intro h
   refine q9b (q90 (q90 (q94 (q8z ?_))))
   refine q344 hm hT hC (q123 (q10l d) y6) h fun y14 h=>?_
   refine q9c ?_
   cases h
   exact (hend _ (by kernel_rfl)).2
abbrev q127:List Pk:=[.row qks true,.row Rii true]
abbrev q128:Type:=qkt×Dii×Unit
abbrev q129:Type:=Int
def q12a (r:q129):LV×List Ob:=(.int .i64 r,[])
def q12b (F:q128→Option q129):Go.Tx.Spec:=⟨45,q127,q129,F,q12a⟩
abbrev q12c:Type:=(qqb→Option qqc)×(qob→Option qoc)×Unit
def q12d (d:Nat):q12c:=(qqg d,qog d,())
def q12e (C:q12c):List Go.Tx.Spec:=[qqe C.1,qoe C.2.1]
abbrev q12f:Type:=List Diii×Int×Int
def q12g (v:q12f):St:=⟨[(0,.agg [.fz Riii v.1]),(1,.agg [i6 v.2.1,i6 v.2.2])],[]⟩
abbrev q12h:Type:=List Diii×Int×Int
def q12i (v:q12h):St:=⟨[(2,.ptr 0 0),(3,.ptr 1 0)],[.cells [.fz Riii v.1],.cells [i6 v.2.1,i6 v.2.2]]⟩
def q12j (C:q12c) (v:q12f):Dt q12h:=(Dt.ret (v.1,v.2.1,v.2.2))
abbrev q349 {V Y:Type}:=@rg q12c V Y tysT (fun C=>(orc (q12e C))) 13
theorem q12k C v:q349 (regO (qea f45) 0) false [(2,(.box [.val Riii])),(3,.any)] q12g q12j q12i C v:=rgI (by kernel_rfl)
abbrev q12l:Type:=Int×Int×Int
def q12m (v:q12l):St:=⟨[(3,.ptr 0 0),(5,i6 v.1)],[.cells [i6 v.2.1,i6 v.2.2]]⟩
def q12n (C:q12c) (v:q12h):Dt q12l:=(Dt.bnd (C.1 ((v.1,()),())) fun r1=>(Dt.ret (r1,v.2.1,v.2.2)))
theorem q12o C v:q349 (regO (qea f45) 1) false (an [3,5]) q12i q12n q12m C v:=rgI (by kernel_rfl)
abbrev q12p:Type:=Int×Bool×Int×Int
def q12q (v:q12p):St:=⟨[(3,.ptr 0 0),(5,i6 v.1),(9,.bool v.2.1)],[.cells [i6 v.2.2.1,i6 v.2.2.2]]⟩
def q12r (C:q12c) (v:q12l):Dt q12p:=(Dt.ret (v.1,(v.1 != (0:Int)),v.2.1,v.2.2))
theorem q12s C v:q349 (regO (qea f45) 2) false (an [3,5,9]) q12m q12r q12q C v:=rgI (by kernel_rfl)
abbrev q12t:Type:=Int
def q12u (v:q12t):St:=⟨[(4,i6 v)],[]⟩
def q12v (C:q12c) (v:q12p):Dt q12t:=(Dt.ret v.1)
theorem q12w C v:q349 (regO (qea f45) 3) false [(4,.any)] q12q q12v q12u C v:=rgI (by kernel_rfl)
def q12x (C:q12c) (v:q12p):Dt q12t:=(Dt.bnd (C.2.1 ((v.2.2.1,v.2.2.2,()),())) fun r1=>(Dt.ret r1))
theorem q12y C v:q349 (regO (qea f45) 4) false [(4,.any)] q12q q12x q12u C v:=rgI (by kernel_rfl)
def q12z (d:Nat) (x:q128):Option q129 :=
 (q12j (q12d d) (x.1.1,x.2.1.1,x.2.1.2.1)).eval fun y0 =>
 (q12n (q12d d) y0).eval fun y1 =>
 (q12r (q12d d) y1).eval fun y2 =>
 bif y2.2.1 then ((q12v (q12d d) y2).eval fun y3 =>
 some y3) else ((q12x (q12d d) y2).eval fun y4 =>
 some y4)
theorem q130 (d:Nat):COK prog (q12b (q12z d)):=by
 have hm:prog.follows .mixedOrders=true:=mixed
 have hT:=tys
 have hC0:OrcOK prog (orc (q12e (q12d d))):=qe4 (by
  intro S hS
  simp only [q12e,List.mem_cons,List.not_mem_nil,or_false] at hS
  rcases hS with rfl | rfl
  · exact qqi d
  · exact qoi d)
 have hC:OrcOK prog (orc (q12e (q12d d))):=hC0
 refine q9t (c:=qea f45) (fn:=f45) hT (by kernel_rfl) (by kernel_rfl) (by decide) fun x r h w0 φ0 Q hend=>?_
 replace h:q12z d x=some r:=h
 unfold q12z at h
 show Run prog w0 φ0 13 (qea f45) ⟨[(0,.agg [.fz Riii x.1.1]),(1,.agg [.int .i64 x.2.1.1,.int .i64 x.2.1.2.1])],[]⟩ Q
 refine q344 hm hT hC (q12k (q12d d) (x.1.1,x.2.1.1,x.2.1.2.1)) h fun y0 h=>?_
 refine q9d ?_
 refine q344 hm hT hC (q12o (q12d d) y0) h fun y1 h=>?_
 refine q344 hm hT hC (q12s (q12d d) y1) h fun y2 h=>?_
 refine q9h (v:=y2.2.1) (by kernel_rfl) h ?_ ?_
 ·
  intro h
  refine q344 hm hT hC (q12w (q12d d) y2) h fun y3 h=>?_
  refine q9c (q91 ?_)
  cases h
  exact (hend _ (by kernel_rfl)).2
 ·
  intro h
  refine q99 (q8z ?_)
  refine q344 hm hT hC (q12y (q12d d) y2) h fun y4 h=>?_
  refine q9c ?_
  cases h
  exact (hend _ (by kernel_rfl)).2
abbrev q131:List Pk:=[.row qks true,.row Rii true]
abbrev q132:Type:=qkt×Dii×Unit
abbrev q133:Type:=Int×List Diii×Int
def q134 (r:q133):LV×List Ob:=(.tup [.agg [.int .i64 r.1,.rs 0],.int .i64 r.2.2],[.rows Riii r.2.1])
def q135 (F:q132→Option q133):Go.Tx.Spec:=⟨13,q131,q133,F,q134⟩
abbrev q136:Type:=(q128→Option q129)×(qpt→Option qpu)×Unit
def q137 (d:Nat):q136:=(q12z d,qpy d,())
def q138 (C:q136):List Go.Tx.Spec:=[q12b C.1,qpw C.2.1]
abbrev q139:Type:=List Diii×Int×Int
def q13a (v:q139):St:=⟨[(0,.agg [.fz Riii v.1]),(1,.agg [i6 v.2.1,i6 v.2.2])],[]⟩
abbrev q13b:Type:=List Diii×Int×Int×Int×List Diii
def q13c (v:q13b):St:=⟨[(2,.ptr 0 0),(3,.ptr 1 0),(4,.ptr 2 0)],[.cells [.fz Riii v.1],.cells [i6 v.2.1,i6 v.2.2.1],.cells [i6 v.2.2.2.1,.rs 3],.rows Riii v.2.2.2.2]⟩
def q13d (C:q136) (v:q139):Dt q13b:=(Dt.ret (v.1,v.2.1,v.2.2,(0:Int),([]:List Diii)))
theorem q13e (C:q136) (v:q139):treg (litT 39 tysT) (orc (q138 C)) 90 (regO (qea f13) 0) false [(2,(.box [.val Riii])),(3,.any),(4,(.box [.any,.own Riii]))] (q13a v) some=(q13d C v).eval fun y=>some (q13c y):=by kernel_rfl
abbrev q13f:Type:=Int×List Diii×Int×Int×Int×List Diii
def q13g (v:q13f):St:=⟨[(2,.ptr 0 0),(3,.ptr 1 0),(4,.ptr 2 0),(6,i6 v.1)],[.cells [.fz Riii v.2.1],.cells [i6 v.2.2.1,i6 v.2.2.2.1],.cells [i6 v.2.2.2.2.1,.rs 3],.rows Riii v.2.2.2.2.2]⟩
def q13h (C:q136) (v:q13b):Dt q13f:=(Dt.bnd (C.1 ((v.1,()),(v.2.1,v.2.2.1,()),())) fun r1=>(Dt.ret (r1,v.1,v.2.1,v.2.2.1,v.2.2.2.1,v.2.2.2.2)))
theorem q13i (C:q136) (v:q13b):treg (litT 39 tysT) (orc (q138 C)) 90 (regO (qea f13) 1) false [(2,(.box [.val Riii])),(3,.any),(4,(.box [.any,.own Riii])),(6,.any)] (q13c v) some=(q13h C v).eval fun y=>some (q13g y):=by kernel_rfl
abbrev q13j:Type:=Int×Bool×List Diii×Int×Int×Int×List Diii
def q13k (v:q13j):St:=⟨[(2,.ptr 0 0),(3,.ptr 1 0),(4,.ptr 2 0),(6,i6 v.1),(19,.bool v.2.1)],[.cells [.fz Riii v.2.2.1],.cells [i6 v.2.2.2.1,i6 v.2.2.2.2.1],.cells [i6 v.2.2.2.2.2.1,.rs 3],.rows Riii v.2.2.2.2.2.2]⟩
def q13l (C:q136) (v:q13f):Dt q13j:=(Dt.ret (v.1,(v.1 != (0:Int)),v.2.1,v.2.2.1,v.2.2.2.1,v.2.2.2.2.1,v.2.2.2.2.2))
theorem q13m (C:q136) (v:q13f):treg (litT 39 tysT) (orc (q138 C)) 90 (regO (qea f13) 2) false [(2,(.box [.val Riii])),(3,.any),(4,(.box [.any,.own Riii])),(6,.any),(19,.any)] (q13g v) some=(q13l C v).eval fun y=>some (q13k y):=by kernel_rfl
abbrev q13n:Type:=Int×Int×List Diii
def q13o (v:q13n):St:=⟨[(4,.ptr 0 0),(5,i6 v.1)],[.cells [i6 v.2.1,.rs 1],.rows Riii v.2.2]⟩
def q13p (C:q136) (v:q13j):Dt q13n:=(Dt.ret (v.1,(0:Int),([]:List Diii)))
theorem q13q (C:q136) (v:q13j):treg (litT 39 tysT) (orc (q138 C)) 90 (regO (qea f13) 3) false [(4,(.box [.any,.own Riii])),(5,.any)] (q13k v) some=(q13p C v).eval fun y=>some (q13o y):=by kernel_rfl
abbrev q13r:Type:=List Diii×Int×Int×Int×List Diii×Int×List Diii
def q13s (v:q13r):St:=⟨[(2,.ptr 0 0),(3,.ptr 1 0),(4,.ptr 2 0),(7,.ptr 4 0)],[.cells [.fz Riii v.1],.cells [i6 v.2.1,i6 v.2.2.1],.cells [i6 v.2.2.2.1,.rs 3],.rows Riii v.2.2.2.2.1,.cells [i6 v.2.2.2.2.2.1,.rs 5],.rows Riii v.2.2.2.2.2.2]⟩
def q13t (C:q136) (v:q13j):Dt q13r:=(Dt.ret (v.2.2.1,v.2.2.2.1,v.2.2.2.2.1,v.2.2.2.2.2.1,v.2.2.2.2.2.2,(-1:Int),([]:List Diii)))
theorem q13u (C:q136) (v:q13j):treg (litT 39 tysT) (orc (q138 C)) 90 (regO (qea f13) 4) false [(2,(.box [.val Riii])),(3,.any),(4,(.box [.any,.own Riii])),(7,(.box [.any,.own Riii]))] (q13k v) some=(q13t C v).eval fun y=>some (q13s y):=by kernel_rfl
abbrev q13v:Type:=List Diii×Int×Int×Int×List Diii×Int×List Diii×List Di
def q13w (v:q13v):St:=⟨[(2,.ptr 0 0),(3,.ptr 1 0),(4,.ptr 2 0),(7,.ptr 4 0),(8,.rs 6)],[.cells [.fz Riii v.1],.cells [i6 v.2.1,i6 v.2.2.1],.cells [i6 v.2.2.2.1,.rs 3],.rows Riii v.2.2.2.2.1,.cells [i6 v.2.2.2.2.2.1,.rs 5],.rows Riii v.2.2.2.2.2.2.1,.rows Ri v.2.2.2.2.2.2.2]⟩
def q13x (C:q136) (v:q13r):Dt q13v:=(Dt.ret (v.1,v.2.1,v.2.2.1,v.2.2.2.1,v.2.2.2.2.1,v.2.2.2.2.2.1,v.2.2.2.2.2.2,([]:List Di)))
theorem q13y (C:q136) (v:q13r):treg (litT 39 tysT) (orc (q138 C)) 90 (regO (qea f13) 5) false [(2,(.box [.val Riii])),(3,.any),(4,(.box [.any,.own Riii])),(7,(.box [.any,.own Riii])),(8,(.own Ri))] (q13s v) some=(q13x C v).eval fun y=>some (q13w y):=by kernel_rfl
abbrev q13z:Type:=List Diii×Int×Int×List Diii×Int×Int×Int×List Diii×Int×List Diii×List Di
def q140 (v:q13z):St:=⟨[(2,.ptr 0 0),(3,.ptr 1 0),(4,.ptr 2 0),(7,.ptr 4 0),(8,.rs 6),(24,.fz Riii v.1),(25,i6 v.2.1),(26,i6 v.2.2.1)],[.cells [.fz Riii v.2.2.2.1],.cells [i6 v.2.2.2.2.1,i6 v.2.2.2.2.2.1],.cells [i6 v.2.2.2.2.2.2.1,.rs 3],.rows Riii v.2.2.2.2.2.2.2.1,.cells [i6 v.2.2.2.2.2.2.2.2.1,.rs 5],.rows Riii v.2.2.2.2.2.2.2.2.2.1,.rows Ri v.2.2.2.2.2.2.2.2.2.2]⟩
def q141 (C:q136) (v:q13v):Dt q13z:=(Dt.ret (v.1,(List.length v.1:Int),(0:Int),v.1,v.2.1,v.2.2.1,v.2.2.2.1,v.2.2.2.2.1,v.2.2.2.2.2.1,v.2.2.2.2.2.2.1,v.2.2.2.2.2.2.2))
theorem q142 (C:q136) (v:q13v):treg (litT 39 tysT) (orc (q138 C)) 90 (regO (qea f13) 6) false [(2,(.box [.val Riii])),(3,.any),(4,(.box [.any,.own Riii])),(7,(.box [.any,.own Riii])),(8,(.own Ri)),(24,(.val Riii)),(25,.any),(26,.any)] (q13w v) some=(q141 C v).eval fun y=>some (q140 y):=by kernel_rfl
abbrev q143:Type:=List Diii×Int×Int×Bool×List Diii×Int×Int×Int×List Diii×Int×List Diii×List Di
def q144 (v:q143):St:=⟨[(2,.ptr 0 0),(3,.ptr 1 0),(4,.ptr 2 0),(7,.ptr 4 0),(8,.rs 6),(24,.fz Riii v.1),(25,i6 v.2.1),(26,i6 v.2.2.1),(27,.bool v.2.2.2.1)],[.cells [.fz Riii v.2.2.2.2.1],.cells [i6 v.2.2.2.2.2.1,i6 v.2.2.2.2.2.2.1],.cells [i6 v.2.2.2.2.2.2.2.1,.rs 3],.rows Riii v.2.2.2.2.2.2.2.2.1,.cells [i6 v.2.2.2.2.2.2.2.2.2.1,.rs 5],.rows Riii v.2.2.2.2.2.2.2.2.2.2.1,.rows Ri v.2.2.2.2.2.2.2.2.2.2.2]⟩
def q145 (C:q136) (v:q13z):Dt q143:=(Dt.ret (v.1,v.2.1,v.2.2.1,(decide (v.2.2.1<v.2.1)),v.2.2.2.1,v.2.2.2.2.1,v.2.2.2.2.2.1,v.2.2.2.2.2.2.1,v.2.2.2.2.2.2.2.1,v.2.2.2.2.2.2.2.2.1,v.2.2.2.2.2.2.2.2.2.1,v.2.2.2.2.2.2.2.2.2.2))
theorem q146 (C:q136) (v:q13z):treg (litT 39 tysT) (orc (q138 C)) 90 (regO (qea f13) 7) false [(2,(.box [.val Riii])),(3,.any),(4,(.box [.any,.own Riii])),(7,(.box [.any,.own Riii])),(8,(.own Ri)),(24,(.val Riii)),(25,.any),(26,.any),(27,.any)] (q140 v) some=(q145 C v).eval fun y=>some (q144 y):=by kernel_rfl
abbrev q147:Type:=Int×List Diii×Int×Int×List Diii×Int×Int×Int×List Diii×Int×List Diii×List Di×Int×Int×Int
def q148 (v:q147):St:=⟨[(2,.ptr 0 0),(3,.ptr 1 0),(4,.ptr 2 0),(7,.ptr 4 0),(8,.rs 6),(9,i6 v.1),(10,.ptr 7 0),(24,.fz Riii v.2.1),(25,i6 v.2.2.1),(26,i6 v.2.2.2.1)],[.cells [.fz Riii v.2.2.2.2.1],.cells [i6 v.2.2.2.2.2.1,i6 v.2.2.2.2.2.2.1],.cells [i6 v.2.2.2.2.2.2.2.1,.rs 3],.rows Riii v.2.2.2.2.2.2.2.2.1,.cells [i6 v.2.2.2.2.2.2.2.2.2.1,.rs 5],.rows Riii v.2.2.2.2.2.2.2.2.2.2.1,.rows Ri v.2.2.2.2.2.2.2.2.2.2.2.1,.cells [i6 v.2.2.2.2.2.2.2.2.2.2.2.2.1,i6 v.2.2.2.2.2.2.2.2.2.2.2.2.2.1,i6 v.2.2.2.2.2.2.2.2.2.2.2.2.2.2]]⟩
def q149 (C:q136) (v:q143):Dt q147:=(Dt.ite (inB v.2.2.1 (List.length v.1)) (Dt.ret (v.2.2.1,v.1,v.2.1,v.2.2.1,v.2.2.2.2.1,v.2.2.2.2.2.1,v.2.2.2.2.2.2.1,v.2.2.2.2.2.2.2.1,v.2.2.2.2.2.2.2.2.1,v.2.2.2.2.2.2.2.2.2.1,v.2.2.2.2.2.2.2.2.2.2.1,v.2.2.2.2.2.2.2.2.2.2.2,(elt ziii v.1 (v.2.2.1).toNat).1,(elt ziii v.1 (v.2.2.1).toNat).2.1,(elt ziii v.1 (v.2.2.1).toNat).2.2.1)) Dt.fail)
theorem q14a (C:q136) (v:q143):treg (litT 39 tysT) (orc (q138 C)) 90 (regO (qea f13) 8) false [(2,(.box [.val Riii])),(3,.any),(4,(.box [.any,.own Riii])),(7,(.box [.any,.own Riii])),(8,(.own Ri)),(9,.any),(10,.any),(24,(.val Riii)),(25,.any),(26,.any)] (q144 v) some=(q149 C v).eval fun y=>some (q148 y):=by kernel_rfl
abbrev q14b:Type:=Int×List Diii×Int×Int×List Diii×Int×Int×Int×List Diii×Int×List Diii×List Di×Int×Int×Int×Int×Int×Int
def q14c (v:q14b):St:=⟨[(2,.ptr 0 0),(3,.ptr 1 0),(4,.ptr 2 0),(7,.ptr 4 0),(8,.rs 6),(9,i6 v.1),(10,.ptr 7 0),(11,.ptr 8 0),(24,.fz Riii v.2.1),(25,i6 v.2.2.1),(26,i6 v.2.2.2.1)],[.cells [.fz Riii v.2.2.2.2.1],.cells [i6 v.2.2.2.2.2.1,i6 v.2.2.2.2.2.2.1],.cells [i6 v.2.2.2.2.2.2.2.1,.rs 3],.rows Riii v.2.2.2.2.2.2.2.2.1,.cells [i6 v.2.2.2.2.2.2.2.2.2.1,.rs 5],.rows Riii v.2.2.2.2.2.2.2.2.2.2.1,.rows Ri v.2.2.2.2.2.2.2.2.2.2.2.1,.cells [i6 v.2.2.2.2.2.2.2.2.2.2.2.2.1,i6 v.2.2.2.2.2.2.2.2.2.2.2.2.2.1,i6 v.2.2.2.2.2.2.2.2.2.2.2.2.2.2.1],.cells [i6 v.2.2.2.2.2.2.2.2.2.2.2.2.2.2.2.1,i6 v.2.2.2.2.2.2.2.2.2.2.2.2.2.2.2.2.1,i6 v.2.2.2.2.2.2.2.2.2.2.2.2.2.2.2.2.2]]⟩
def q14d (C:q136) (v:q147):Dt q14b:=(Dt.ret (v.1,v.2.1,v.2.2.1,v.2.2.2.1,v.2.2.2.2.1,v.2.2.2.2.2.1,v.2.2.2.2.2.2.1,v.2.2.2.2.2.2.2.1,v.2.2.2.2.2.2.2.2.1,v.2.2.2.2.2.2.2.2.2.1,v.2.2.2.2.2.2.2.2.2.2.1,v.2.2.2.2.2.2.2.2.2.2.2.1,v.2.2.2.2.2.2.2.2.2.2.2.2.1,v.2.2.2.2.2.2.2.2.2.2.2.2.2.1,v.2.2.2.2.2.2.2.2.2.2.2.2.2.2,v.2.2.2.2.2.2.2.2.2.2.2.2.1,(-1:Int),(-1:Int)))
theorem q14e (C:q136) (v:q147):treg (litT 39 tysT) (orc (q138 C)) 90 (regO (qea f13) 9) false [(2,(.box [.val Riii])),(3,.any),(4,(.box [.any,.own Riii])),(7,(.box [.any,.own Riii])),(8,(.own Ri)),(9,.any),(10,.any),(11,.any),(24,(.val Riii)),(25,.any),(26,.any)] (q148 v) some=(q14d C v).eval fun y=>some (q14c y):=by kernel_rfl
abbrev q14f:Type:=Int×List Diii×Int×Int×Bool×List Diii×Int×Int×Int×List Diii×Int×List Diii×List Di×Int×Int×Int×Int×Int×Int
def q14g (v:q14f):St:=⟨[(2,.ptr 0 0),(3,.ptr 1 0),(4,.ptr 2 0),(7,.ptr 4 0),(8,.rs 6),(9,i6 v.1),(10,.ptr 7 0),(11,.ptr 8 0),(24,.fz Riii v.2.1),(25,i6 v.2.2.1),(26,i6 v.2.2.2.1),(36,.bool v.2.2.2.2.1)],[.cells [.fz Riii v.2.2.2.2.2.1],.cells [i6 v.2.2.2.2.2.2.1,i6 v.2.2.2.2.2.2.2.1],.cells [i6 v.2.2.2.2.2.2.2.2.1,.rs 3],.rows Riii v.2.2.2.2.2.2.2.2.2.1,.cells [i6 v.2.2.2.2.2.2.2.2.2.2.1,.rs 5],.rows Riii v.2.2.2.2.2.2.2.2.2.2.2.1,.rows Ri v.2.2.2.2.2.2.2.2.2.2.2.2.1,.cells [i6 v.2.2.2.2.2.2.2.2.2.2.2.2.2.1,i6 v.2.2.2.2.2.2.2.2.2.2.2.2.2.2.1,i6 v.2.2.2.2.2.2.2.2.2.2.2.2.2.2.2.1],.cells [i6 v.2.2.2.2.2.2.2.2.2.2.2.2.2.2.2.2.1,i6 v.2.2.2.2.2.2.2.2.2.2.2.2.2.2.2.2.2.1,i6 v.2.2.2.2.2.2.2.2.2.2.2.2.2.2.2.2.2.2]]⟩
def q14h (C:q136) (v:q14b):Dt q14f:=(Dt.ret (v.1,v.2.1,v.2.2.1,v.2.2.2.1,(decide ((List.length v.2.2.2.2.2.2.2.2.2.2.2.1:Int) > (0:Int))),v.2.2.2.2.1,v.2.2.2.2.2.1,v.2.2.2.2.2.2.1,v.2.2.2.2.2.2.2.1,v.2.2.2.2.2.2.2.2.1,v.2.2.2.2.2.2.2.2.2.1,v.2.2.2.2.2.2.2.2.2.2.1,v.2.2.2.2.2.2.2.2.2.2.2.1,v.2.2.2.2.2.2.2.2.2.2.2.2.1,v.2.2.2.2.2.2.2.2.2.2.2.2.2.1,v.2.2.2.2.2.2.2.2.2.2.2.2.2.2.1,v.2.2.2.2.2.2.2.2.2.2.2.2.2.2.2.1,v.2.2.2.2.2.2.2.2.2.2.2.2.2.2.2.2.1,v.2.2.2.2.2.2.2.2.2.2.2.2.2.2.2.2.2))
theorem q14i (C:q136) (v:q14b):treg (litT 39 tysT) (orc (q138 C)) 90 (regO (qea f13) 10) false [(2,(.box [.val Riii])),(3,.any),(4,(.box [.any,.own Riii])),(7,(.box [.any,.own Riii])),(8,(.own Ri)),(9,.any),(10,.any),(11,.any),(24,(.val Riii)),(25,.any),(26,.any),(36,.any)] (q14c v) some=(q14h C v).eval fun y=>some (q14g y):=by kernel_rfl
abbrev q14j:Type:=Int×Int×List Diii×Int×Int×List Diii×Int×Int×Int×List Diii×Int×List Diii×List Di×Int×Int×Int×Int×Int×Int
def q14k (v:q14j):St:=⟨[(2,.ptr 0 0),(3,.ptr 1 0),(4,.ptr 2 0),(7,.ptr 4 0),(8,.rs 6),(9,i6 v.1),(10,.ptr 7 0),(11,.ptr 8 0),(12,i6 v.2.1),(24,.fz Riii v.2.2.1),(25,i6 v.2.2.2.1),(26,i6 v.2.2.2.2.1)],[.cells [.fz Riii v.2.2.2.2.2.1],.cells [i6 v.2.2.2.2.2.2.1,i6 v.2.2.2.2.2.2.2.1],.cells [i6 v.2.2.2.2.2.2.2.2.1,.rs 3],.rows Riii v.2.2.2.2.2.2.2.2.2.1,.cells [i6 v.2.2.2.2.2.2.2.2.2.2.1,.rs 5],.rows Riii v.2.2.2.2.2.2.2.2.2.2.2.1,.rows Ri v.2.2.2.2.2.2.2.2.2.2.2.2.1,.cells [i6 v.2.2.2.2.2.2.2.2.2.2.2.2.2.1,i6 v.2.2.2.2.2.2.2.2.2.2.2.2.2.2.1,i6 v.2.2.2.2.2.2.2.2.2.2.2.2.2.2.2.1],.cells [i6 v.2.2.2.2.2.2.2.2.2.2.2.2.2.2.2.2.1,i6 v.2.2.2.2.2.2.2.2.2.2.2.2.2.2.2.2.2.1,i6 v.2.2.2.2.2.2.2.2.2.2.2.2.2.2.2.2.2.2]]⟩
def q14l (C:q136) (v:q14f):Dt q14j:=(Dt.ite (inB (IntKind.wrap .i64 ((List.length v.2.2.2.2.2.2.2.2.2.2.2.2.1:Int) - (1:Int))) (List.length v.2.2.2.2.2.2.2.2.2.2.2.2.1)) (Dt.ret (v.1,(elt zi v.2.2.2.2.2.2.2.2.2.2.2.2.1 ((IntKind.wrap .i64 ((List.length v.2.2.2.2.2.2.2.2.2.2.2.2.1:Int) - (1:Int)))).toNat).1,v.2.1,v.2.2.1,v.2.2.2.1,v.2.2.2.2.2.1,v.2.2.2.2.2.2.1,v.2.2.2.2.2.2.2.1,v.2.2.2.2.2.2.2.2.1,v.2.2.2.2.2.2.2.2.2.1,v.2.2.2.2.2.2.2.2.2.2.1,v.2.2.2.2.2.2.2.2.2.2.2.1,v.2.2.2.2.2.2.2.2.2.2.2.2.1,v.2.2.2.2.2.2.2.2.2.2.2.2.2.1,v.2.2.2.2.2.2.2.2.2.2.2.2.2.2.1,v.2.2.2.2.2.2.2.2.2.2.2.2.2.2.2.1,v.2.2.2.2.2.2.2.2.2.2.2.2.2.2.2.2.1,v.2.2.2.2.2.2.2.2.2.2.2.2.2.2.2.2.2.1,v.2.2.2.2.2.2.2.2.2.2.2.2.2.2.2.2.2.2)) Dt.fail)
theorem q14m (C:q136) (v:q14f):treg (litT 39 tysT) (orc (q138 C)) 90 (regO (qea f13) 11) false [(2,(.box [.val Riii])),(3,.any),(4,(.box [.any,.own Riii])),(7,(.box [.any,.own Riii])),(8,(.own Ri)),(9,.any),(10,.any),(11,.any),(12,.any),(24,(.val Riii)),(25,.any),(26,.any)] (q14g v) some=(q14l C v).eval fun y=>some (q14k y):=by kernel_rfl
abbrev q14n:Type:=Int×Int×Bool×List Diii×Int×Int×List Diii×Int×Int×Int×List Diii×Int×List Diii×List Di×Int×Int×Int×Int×Int×Int
def q14o (v:q14n):St:=⟨[(2,.ptr 0 0),(3,.ptr 1 0),(4,.ptr 2 0),(7,.ptr 4 0),(8,.rs 6),(9,i6 v.1),(10,.ptr 7 0),(11,.ptr 8 0),(12,i6 v.2.1),(13,.bool v.2.2.1),(24,.fz Riii v.2.2.2.1),(25,i6 v.2.2.2.2.1),(26,i6 v.2.2.2.2.2.1)],[.cells [.fz Riii v.2.2.2.2.2.2.1],.cells [i6 v.2.2.2.2.2.2.2.1,i6 v.2.2.2.2.2.2.2.2.1],.cells [i6 v.2.2.2.2.2.2.2.2.2.1,.rs 3],.rows Riii v.2.2.2.2.2.2.2.2.2.2.1,.cells [i6 v.2.2.2.2.2.2.2.2.2.2.2.1,.rs 5],.rows Riii v.2.2.2.2.2.2.2.2.2.2.2.2.1,.rows Ri v.2.2.2.2.2.2.2.2.2.2.2.2.2.1,.cells [i6 v.2.2.2.2.2.2.2.2.2.2.2.2.2.2.1,i6 v.2.2.2.2.2.2.2.2.2.2.2.2.2.2.2.1,i6 v.2.2.2.2.2.2.2.2.2.2.2.2.2.2.2.2.1],.cells [i6 v.2.2.2.2.2.2.2.2.2.2.2.2.2.2.2.2.2.1,i6 v.2.2.2.2.2.2.2.2.2.2.2.2.2.2.2.2.2.2.1,i6 v.2.2.2.2.2.2.2.2.2.2.2.2.2.2.2.2.2.2.2]]⟩
def q14p (C:q136) (v:q14j):Dt q14n:=(Dt.ite (inB v.2.1 (List.length v.2.2.2.2.2.1)) (Dt.bnd (C.2.1 (((elt ziii v.2.2.2.2.2.1 (v.2.1).toNat).1,(elt ziii v.2.2.2.2.2.1 (v.2.1).toNat).2.1,(elt ziii v.2.2.2.2.2.1 (v.2.1).toNat).2.2.1,()),(v.2.2.2.2.2.2.2.2.2.2.2.2.2.1,v.2.2.2.2.2.2.2.2.2.2.2.2.2.2.1,v.2.2.2.2.2.2.2.2.2.2.2.2.2.2.2.1,()),(v.2.2.2.2.2.2.1,v.2.2.2.2.2.2.2.1,()),())) fun r1=>(Dt.ret (v.1,v.2.1,r1.1,v.2.2.1,v.2.2.2.1,v.2.2.2.2.1,v.2.2.2.2.2.1,v.2.2.2.2.2.2.1,v.2.2.2.2.2.2.2.1,v.2.2.2.2.2.2.2.2.1,v.2.2.2.2.2.2.2.2.2.1,v.2.2.2.2.2.2.2.2.2.2.1,v.2.2.2.2.2.2.2.2.2.2.2.1,v.2.2.2.2.2.2.2.2.2.2.2.2.1,v.2.2.2.2.2.2.2.2.2.2.2.2.2.1,v.2.2.2.2.2.2.2.2.2.2.2.2.2.2.1,v.2.2.2.2.2.2.2.2.2.2.2.2.2.2.2.1,v.2.2.2.2.2.2.2.2.2.2.2.2.2.2.2.2.1,v.2.2.2.2.2.2.2.2.2.2.2.2.2.2.2.2.2.1,v.2.2.2.2.2.2.2.2.2.2.2.2.2.2.2.2.2.2))) Dt.fail)
theorem q14q (C:q136) (v:q14j):treg (litT 39 tysT) (orc (q138 C)) 90 (regO (qea f13) 12) true [(2,(.box [.val Riii])),(3,.any),(4,(.box [.any,.own Riii])),(7,(.box [.any,.own Riii])),(8,(.own Ri)),(9,.any),(10,.any),(11,.any),(12,.any),(13,.any),(24,(.val Riii)),(25,.any),(26,.any)] (q14k v) some=(q14p C v).eval fun y=>some (q14o y):=by kernel_rfl
abbrev q14r:Type:=Int×Int×List Diii×Int×Int×Bool×List Diii×Int×Int×Int×List Diii×Int×List Diii×List Di×Int×Int×Int×Int×Int×Int
def q14s (v:q14r):St:=⟨[(2,.ptr 0 0),(3,.ptr 1 0),(4,.ptr 2 0),(7,.ptr 4 0),(8,.rs 6),(9,i6 v.1),(10,.ptr 7 0),(11,.ptr 8 0),(12,i6 v.2.1),(24,.fz Riii v.2.2.1),(25,i6 v.2.2.2.1),(26,i6 v.2.2.2.2.1),(54,.bool v.2.2.2.2.2.1)],[.cells [.fz Riii v.2.2.2.2.2.2.1],.cells [i6 v.2.2.2.2.2.2.2.1,i6 v.2.2.2.2.2.2.2.2.1],.cells [i6 v.2.2.2.2.2.2.2.2.2.1,.rs 3],.rows Riii v.2.2.2.2.2.2.2.2.2.2.1,.cells [i6 v.2.2.2.2.2.2.2.2.2.2.2.1,.rs 5],.rows Riii v.2.2.2.2.2.2.2.2.2.2.2.2.1,.rows Ri v.2.2.2.2.2.2.2.2.2.2.2.2.2.1,.cells [i6 v.2.2.2.2.2.2.2.2.2.2.2.2.2.2.1,i6 v.2.2.2.2.2.2.2.2.2.2.2.2.2.2.2.1,i6 v.2.2.2.2.2.2.2.2.2.2.2.2.2.2.2.2.1],.cells [i6 v.2.2.2.2.2.2.2.2.2.2.2.2.2.2.2.2.2.1,i6 v.2.2.2.2.2.2.2.2.2.2.2.2.2.2.2.2.2.2.1,i6 v.2.2.2.2.2.2.2.2.2.2.2.2.2.2.2.2.2.2.2]]⟩
def q14t (C:q136) (v:q14n):Dt q14r:=(Dt.ret (v.1,v.2.1,v.2.2.2.1,v.2.2.2.2.1,v.2.2.2.2.2.1,v.2.2.1,v.2.2.2.2.2.2.1,v.2.2.2.2.2.2.2.1,v.2.2.2.2.2.2.2.2.1,v.2.2.2.2.2.2.2.2.2.1,v.2.2.2.2.2.2.2.2.2.2.1,v.2.2.2.2.2.2.2.2.2.2.2.1,v.2.2.2.2.2.2.2.2.2.2.2.2.1,v.2.2.2.2.2.2.2.2.2.2.2.2.2.1,v.2.2.2.2.2.2.2.2.2.2.2.2.2.2.1,v.2.2.2.2.2.2.2.2.2.2.2.2.2.2.2.1,v.2.2.2.2.2.2.2.2.2.2.2.2.2.2.2.2.1,v.2.2.2.2.2.2.2.2.2.2.2.2.2.2.2.2.2.1,v.2.2.2.2.2.2.2.2.2.2.2.2.2.2.2.2.2.2.1,v.2.2.2.2.2.2.2.2.2.2.2.2.2.2.2.2.2.2.2))
theorem q14u (C:q136) (v:q14n):treg (litT 39 tysT) (orc (q138 C)) 90 (regO (qea f13) 13) false [(2,(.box [.val Riii])),(3,.any),(4,(.box [.any,.own Riii])),(7,(.box [.any,.own Riii])),(8,(.own Ri)),(9,.any),(10,.any),(11,.any),(12,.any),(24,(.val Riii)),(25,.any),(26,.any),(54,.any)] (q14o v) some=(q14t C v).eval fun y=>some (q14s y):=by kernel_rfl
abbrev q14v:Type:=Int×List Diii×Int×Int×Bool×List Diii×Int×Int×Int×List Diii×Int×List Diii×List Di×Int×Int×Int
def q14w (v:q14v):St:=⟨[(2,.ptr 0 0),(3,.ptr 1 0),(4,.ptr 2 0),(7,.ptr 4 0),(8,.rs 6),(9,i6 v.1),(11,.ptr 7 0),(24,.fz Riii v.2.1),(25,i6 v.2.2.1),(26,i6 v.2.2.2.1),(64,.bool v.2.2.2.2.1)],[.cells [.fz Riii v.2.2.2.2.2.1],.cells [i6 v.2.2.2.2.2.2.1,i6 v.2.2.2.2.2.2.2.1],.cells [i6 v.2.2.2.2.2.2.2.2.1,.rs 3],.rows Riii v.2.2.2.2.2.2.2.2.2.1,.cells [i6 v.2.2.2.2.2.2.2.2.2.2.1,.rs 5],.rows Riii v.2.2.2.2.2.2.2.2.2.2.2.1,.rows Ri v.2.2.2.2.2.2.2.2.2.2.2.2.1,.cells [i6 v.2.2.2.2.2.2.2.2.2.2.2.2.2.1,i6 v.2.2.2.2.2.2.2.2.2.2.2.2.2.2.1,i6 v.2.2.2.2.2.2.2.2.2.2.2.2.2.2.2]]⟩
def q14x (C:q136) (v:q14b):Dt q14v:=(Dt.ret (v.1,v.2.1,v.2.2.1,v.2.2.2.1,(decide ((List.length v.2.2.2.2.2.2.2.2.2.2.2.1:Int) > (0:Int))),v.2.2.2.2.1,v.2.2.2.2.2.1,v.2.2.2.2.2.2.1,v.2.2.2.2.2.2.2.1,v.2.2.2.2.2.2.2.2.1,v.2.2.2.2.2.2.2.2.2.1,v.2.2.2.2.2.2.2.2.2.2.1,v.2.2.2.2.2.2.2.2.2.2.2.1,v.2.2.2.2.2.2.2.2.2.2.2.2.2.2.2.1,v.2.2.2.2.2.2.2.2.2.2.2.2.2.2.2.2.1,v.2.2.2.2.2.2.2.2.2.2.2.2.2.2.2.2.2))
theorem q14y (C:q136) (v:q14b):treg (litT 39 tysT) (orc (q138 C)) 90 (regO (qea f13) 15) false [(2,(.box [.val Riii])),(3,.any),(4,(.box [.any,.own Riii])),(7,(.box [.any,.own Riii])),(8,(.own Ri)),(9,.any),(11,.any),(24,(.val Riii)),(25,.any),(26,.any),(64,.any)] (q14c v) some=(q14x C v).eval fun y=>some (q14w y):=by kernel_rfl
abbrev q14z:Type:=Int×List Diii×Int×Int×List Diii×Int×Int×Int×List Diii×Int×List Diii×List Di×Int×Int×Int
def q150 (v:q14z):St:=⟨[(2,.ptr 0 0),(3,.ptr 1 0),(4,.ptr 2 0),(7,.ptr 4 0),(8,.rs 6),(9,i6 v.1),(11,.ptr 7 0),(24,.fz Riii v.2.1),(25,i6 v.2.2.1),(26,i6 v.2.2.2.1)],[.cells [.fz Riii v.2.2.2.2.1],.cells [i6 v.2.2.2.2.2.1,i6 v.2.2.2.2.2.2.1],.cells [i6 v.2.2.2.2.2.2.2.1,.rs 3],.rows Riii v.2.2.2.2.2.2.2.2.1,.cells [i6 v.2.2.2.2.2.2.2.2.2.1,.rs 5],.rows Riii v.2.2.2.2.2.2.2.2.2.2.1,.rows Ri v.2.2.2.2.2.2.2.2.2.2.2.1,.cells [i6 v.2.2.2.2.2.2.2.2.2.2.2.2.1,i6 v.2.2.2.2.2.2.2.2.2.2.2.2.2.1,i6 v.2.2.2.2.2.2.2.2.2.2.2.2.2.2]]⟩
def q151 (C:q136) (v:q14v):Dt q14z:=(Dt.ite (inB (IntKind.wrap .i64 ((List.length v.2.2.2.2.2.2.2.2.2.2.2.2.1:Int) - (1:Int))) (List.length v.2.2.2.2.2.2.2.2.2.2.2.2.1)) (Dt.ite (inB (elt zi v.2.2.2.2.2.2.2.2.2.2.2.2.1 ((IntKind.wrap .i64 ((List.length v.2.2.2.2.2.2.2.2.2.2.2.2.1:Int) - (1:Int)))).toNat).1 (List.length v.2.2.2.2.2.2.2.2.2.2.2.1)) (Dt.ret (v.1,v.2.1,v.2.2.1,v.2.2.2.1,v.2.2.2.2.2.1,v.2.2.2.2.2.2.1,v.2.2.2.2.2.2.2.1,v.2.2.2.2.2.2.2.2.1,v.2.2.2.2.2.2.2.2.2.1,v.2.2.2.2.2.2.2.2.2.2.1,(List.set v.2.2.2.2.2.2.2.2.2.2.2.1 ((elt zi v.2.2.2.2.2.2.2.2.2.2.2.2.1 ((IntKind.wrap .i64 ((List.length v.2.2.2.2.2.2.2.2.2.2.2.2.1:Int) - (1:Int)))).toNat).1).toNat ((elt ziii v.2.2.2.2.2.2.2.2.2.2.2.1 ((elt zi v.2.2.2.2.2.2.2.2.2.2.2.2.1 ((IntKind.wrap .i64 ((List.length v.2.2.2.2.2.2.2.2.2.2.2.2.1:Int) - (1:Int)))).toNat).1).toNat).1,(elt ziii v.2.2.2.2.2.2.2.2.2.2.2.1 ((elt zi v.2.2.2.2.2.2.2.2.2.2.2.2.1 ((IntKind.wrap .i64 ((List.length v.2.2.2.2.2.2.2.2.2.2.2.2.1:Int) - (1:Int)))).toNat).1).toNat).2.1,v.1,())),v.2.2.2.2.2.2.2.2.2.2.2.2.1,v.2.2.2.2.2.2.2.2.2.2.2.2.2.1,v.2.2.2.2.2.2.2.2.2.2.2.2.2.2.1,v.2.2.2.2.2.2.2.2.2.2.2.2.2.2.2)) Dt.fail) Dt.fail)
theorem q152 (C:q136) (v:q14v):treg (litT 39 tysT) (orc (q138 C)) 90 (regO (qea f13) 16) true [(2,(.box [.val Riii])),(3,.any),(4,(.box [.any,.own Riii])),(7,(.box [.any,.own Riii])),(8,(.own Ri)),(9,.any),(11,.any),(24,(.val Riii)),(25,.any),(26,.any)] (q14w v) some=(q151 C v).eval fun y=>some (q150 y):=by kernel_rfl
def q153 (C:q136) (v:q14z):Dt q13z:=(Dt.ite (apB (List.length v.2.2.2.2.2.2.2.2.2.2.1) (List.length ([(v.2.2.2.2.2.2.2.2.2.2.2.2.1,v.2.2.2.2.2.2.2.2.2.2.2.2.2.1,v.2.2.2.2.2.2.2.2.2.2.2.2.2.2,())]:List Diii))) (Dt.ite (apB (List.length v.2.2.2.2.2.2.2.2.2.2.2.1) (List.length ([(v.1,())]:List Di))) (Dt.ret (v.2.1,v.2.2.1,v.2.2.2.1,v.2.2.2.2.1,v.2.2.2.2.2.1,v.2.2.2.2.2.2.1,v.2.2.2.2.2.2.2.1,v.2.2.2.2.2.2.2.2.1,v.2.2.2.2.2.2.2.2.2.1,(v.2.2.2.2.2.2.2.2.2.2.1++([(v.2.2.2.2.2.2.2.2.2.2.2.2.1,v.2.2.2.2.2.2.2.2.2.2.2.2.2.1,v.2.2.2.2.2.2.2.2.2.2.2.2.2.2,())]:List Diii)),(v.2.2.2.2.2.2.2.2.2.2.2.1++([(v.1,())]:List Di)))) Dt.fail) Dt.fail)
theorem q154 (C:q136) (v:q14z):treg (litT 39 tysT) (orc (q138 C)) 90 (regO (qea f13) 18) false [(2,(.box [.val Riii])),(3,.any),(4,(.box [.any,.own Riii])),(7,(.box [.any,.own Riii])),(8,(.own Ri)),(24,(.val Riii)),(25,.any),(26,.any)] (q150 v) some=(q153 C v).eval fun y=>some (q140 y):=by kernel_rfl
def q155 (C:q136) (v:q13z):Dt q13z:=(Dt.ret (v.1,v.2.1,(IntKind.wrap .i64 (v.2.2.1+(1:Int))),v.2.2.2.1,v.2.2.2.2.1,v.2.2.2.2.2.1,v.2.2.2.2.2.2.1,v.2.2.2.2.2.2.2.1,v.2.2.2.2.2.2.2.2.1,v.2.2.2.2.2.2.2.2.2.1,v.2.2.2.2.2.2.2.2.2.2))
theorem q156 (C:q136) (v:q13z):treg (litT 39 tysT) (orc (q138 C)) 90 (regO (qea f13) 19) false [(2,(.box [.val Riii])),(3,.any),(4,(.box [.any,.own Riii])),(7,(.box [.any,.own Riii])),(8,(.own Ri)),(24,(.val Riii)),(25,.any),(26,.any)] (q140 v) some=(q155 C v).eval fun y=>some (q140 y):=by kernel_rfl
def q157  (d:Nat) (self1:(List Diii×Int×Int×List Diii×Int×Int×Int×List Diii×Int×List Diii×List Di)→Option q133) (z:Int×List Diii×Int×Int×List Diii×Int×Int×Int×List Diii×Int×List Diii×List Di×Int×Int×Int):Option (q133) :=
 (q153 (q137 d) z).eval fun y18 =>
 (q155 (q137 d) y18).eval fun y19 =>
 self1 y19
def q158 (C:q136) (v:q14v):Dt q14z:=(Dt.ret (v.1,v.2.1,v.2.2.1,v.2.2.2.1,v.2.2.2.2.2.1,v.2.2.2.2.2.2.1,v.2.2.2.2.2.2.2.1,v.2.2.2.2.2.2.2.2.1,v.2.2.2.2.2.2.2.2.2.1,v.1,v.2.2.2.2.2.2.2.2.2.2.2.1,v.2.2.2.2.2.2.2.2.2.2.2.2.1,v.2.2.2.2.2.2.2.2.2.2.2.2.2.1,v.2.2.2.2.2.2.2.2.2.2.2.2.2.2.1,v.2.2.2.2.2.2.2.2.2.2.2.2.2.2.2))
theorem q159 (C:q136) (v:q14v):treg (litT 39 tysT) (orc (q138 C)) 90 (regO (qea f13) 17) false [(2,(.box [.val Riii])),(3,.any),(4,(.box [.any,.own Riii])),(7,(.box [.any,.own Riii])),(8,(.own Ri)),(9,.any),(11,.any),(24,(.val Riii)),(25,.any),(26,.any)] (q14w v) some=(q158 C v).eval fun y=>some (q150 y):=by kernel_rfl
def q15a  (d:Nat) (self1:(List Diii×Int×Int×List Diii×Int×Int×Int×List Diii×Int×List Diii×List Di)→Option q133) (z:Int×List Diii×Int×Int×List Diii×Int×Int×Int×List Diii×Int×List Diii×List Di×Int×Int×Int×Int×Int×Int):Option (q133) :=
 (q14x (q137 d) z).eval fun y15 =>
 bif y15.2.2.2.2.1 then ((q151 (q137 d) y15).eval fun y16 =>
 q157 d self1 y16) else ((q158 (q137 d) y15).eval fun y17 =>
 q157 d self1 y17)
def q15b (C:q136) (v:q14r):Dt q14b:=(Dt.ite (decide (0≤(IntKind.wrap .i64 ((List.length v.2.2.2.2.2.2.2.2.2.2.2.2.2.1:Int) - (1:Int))))&&decide ((IntKind.wrap .i64 ((List.length v.2.2.2.2.2.2.2.2.2.2.2.2.2.1:Int) - (1:Int)))≤(List.length v.2.2.2.2.2.2.2.2.2.2.2.2.2.1:Int))) (Dt.ret (v.1,v.2.2.1,v.2.2.2.1,v.2.2.2.2.1,v.2.2.2.2.2.2.1,v.2.2.2.2.2.2.2.1,v.2.2.2.2.2.2.2.2.1,v.2.2.2.2.2.2.2.2.2.1,v.2.2.2.2.2.2.2.2.2.2.1,v.2.2.2.2.2.2.2.2.2.2.2.1,v.2.2.2.2.2.2.2.2.2.2.2.2.1,(List.take ((IntKind.wrap .i64 ((List.length v.2.2.2.2.2.2.2.2.2.2.2.2.2.1:Int) - (1:Int)))).toNat v.2.2.2.2.2.2.2.2.2.2.2.2.2.1),v.2.2.2.2.2.2.2.2.2.2.2.2.2.2.1,v.2.2.2.2.2.2.2.2.2.2.2.2.2.2.2.1,v.2.2.2.2.2.2.2.2.2.2.2.2.2.2.2.2.1,v.2.2.2.2.2.2.2.2.2.2.2.2.2.2.2.2.2.1,v.2.1,v.2.2.2.2.2.2.2.2.2.2.2.2.2.2.2.2.2.2.2)) Dt.fail)
theorem q15c (C:q136) (v:q14r):treg (litT 39 tysT) (orc (q138 C)) 90 (regO (qea f13) 14) true [(2,(.box [.val Riii])),(3,.any),(4,(.box [.any,.own Riii])),(7,(.box [.any,.own Riii])),(8,(.own Ri)),(9,.any),(10,.any),(11,.any),(24,(.val Riii)),(25,.any),(26,.any)] (q14s v) some=(q15b C v).eval fun y=>some (q14c y):=by kernel_rfl
def q15d (d:Nat) (self1:(List Diii×Int×Int×List Diii×Int×Int×Int×List Diii×Int×List Diii×List Di)→Option q133) (self3:(Int×List Diii×Int×Int×List Diii×Int×Int×Int×List Diii×Int×List Diii×List Di×Int×Int×Int×Int×Int×Int)→Option q133) (x3:Int×List Diii×Int×Int×List Diii×Int×Int×Int×List Diii×Int×List Diii×List Di×Int×Int×Int×Int×Int×Int):Option q133 :=
 (q14h (q137 d) x3).eval fun y10 =>
 bif y10.2.2.2.2.1 then ((q14l (q137 d) y10).eval fun y11 =>
 (q14p (q137 d) y11).eval fun y12 =>
 (q14t (q137 d) y12).eval fun y13 =>
 bif y13.2.2.2.2.2.1 then (q15a d self1 (y13.1,y13.2.2.1,y13.2.2.2.1,y13.2.2.2.2.1,y13.2.2.2.2.2.2.1,y13.2.2.2.2.2.2.2.1,y13.2.2.2.2.2.2.2.2.1,y13.2.2.2.2.2.2.2.2.2.1,y13.2.2.2.2.2.2.2.2.2.2.1,y13.2.2.2.2.2.2.2.2.2.2.2.1,y13.2.2.2.2.2.2.2.2.2.2.2.2.1,y13.2.2.2.2.2.2.2.2.2.2.2.2.2.1,y13.2.2.2.2.2.2.2.2.2.2.2.2.2.2.1,y13.2.2.2.2.2.2.2.2.2.2.2.2.2.2.2.1,y13.2.2.2.2.2.2.2.2.2.2.2.2.2.2.2.2.1,y13.2.2.2.2.2.2.2.2.2.2.2.2.2.2.2.2.2.1,y13.2.2.2.2.2.2.2.2.2.2.2.2.2.2.2.2.2.2.1,y13.2.2.2.2.2.2.2.2.2.2.2.2.2.2.2.2.2.2.2)) else ((q15b (q137 d) y13).eval fun y14 =>
 self3 y14)) else (q15a d self1 (y10.1,y10.2.1,y10.2.2.1,y10.2.2.2.1,y10.2.2.2.2.2.1,y10.2.2.2.2.2.2.1,y10.2.2.2.2.2.2.2.1,y10.2.2.2.2.2.2.2.2.1,y10.2.2.2.2.2.2.2.2.2.1,y10.2.2.2.2.2.2.2.2.2.2.1,y10.2.2.2.2.2.2.2.2.2.2.2.1,y10.2.2.2.2.2.2.2.2.2.2.2.2.1,y10.2.2.2.2.2.2.2.2.2.2.2.2.2.1,y10.2.2.2.2.2.2.2.2.2.2.2.2.2.2.1,y10.2.2.2.2.2.2.2.2.2.2.2.2.2.2.2.1,y10.2.2.2.2.2.2.2.2.2.2.2.2.2.2.2.2.1,y10.2.2.2.2.2.2.2.2.2.2.2.2.2.2.2.2.2.1,y10.2.2.2.2.2.2.2.2.2.2.2.2.2.2.2.2.2.2))
def q15e (C:q136) (v:q143):Dt q13n:=(Dt.ret ((0:Int),v.2.2.2.2.2.2.2.2.2.1,v.2.2.2.2.2.2.2.2.2.2.1))
theorem q15f (C:q136) (v:q143):treg (litT 39 tysT) (orc (q138 C)) 90 (regO (qea f13) 20) false [(4,(.box [.any,.own Riii])),(5,.any)] (q144 v) some=(q15e C v).eval fun y=>some (q13o y):=by kernel_rfl
def q15g (d:Nat) (self1:(List Diii×Int×Int×List Diii×Int×Int×Int×List Diii×Int×List Diii×List Di)→Option q133) (x1:List Diii×Int×Int×List Diii×Int×Int×Int×List Diii×Int×List Diii×List Di):Option q133 :=
 (q145 (q137 d) x1).eval fun y7 =>
 bif y7.2.2.2.1 then ((q149 (q137 d) y7).eval fun y8 =>
 (q14d (q137 d) y8).eval fun y9 =>
 iter (q15d d self1) d y9) else ((q15e (q137 d) y7).eval fun y20 =>
 some (y20.2.1,y20.2.2,y20.1))
def q15h (d:Nat) (x:q132):Option q133 :=
 (q13d (q137 d) (x.1.1,x.2.1.1,x.2.1.2.1)).eval fun y0 =>
 (q13h (q137 d) y0).eval fun y1 =>
 (q13l (q137 d) y1).eval fun y2 =>
 bif y2.2.1 then ((q13p (q137 d) y2).eval fun y3 =>
 some (y3.2.1,y3.2.2,y3.1)) else ((q13t (q137 d) y2).eval fun y4 =>
 (q13x (q137 d) y4).eval fun y5 =>
 (q141 (q137 d) y5).eval fun y6 =>
 iter (q15g d ) d y6)
theorem q15i (d:Nat):COK prog (q135 (q15h d)):=by
 have hm:prog.follows .mixedOrders=true:=mixed
 have hT:=q1y tys 39
 have hC0:OrcOK prog (orc (q138 (q137 d))):=qe4 (by
  intro S hS
  simp only [q138,List.mem_cons,List.not_mem_nil,or_false] at hS
  rcases hS with rfl | rfl
  · exact q130 d
  · exact qq0 d)
 have hC:OrcOK prog (orc (q138 (q137 d))):=hC0
 refine q9t (c:=qea f13) (fn:=f13) hT (by kernel_rfl) (by kernel_rfl) (by decide) fun x r h w0 φ0 Q hend=>?_
 replace h:q15h d x=some r:=h
 unfold q15h at h
 show Run prog w0 φ0 90 (qea f13) ⟨[(0,.agg [.fz Riii x.1.1]),(1,.agg [.int .i64 x.2.1.1,.int .i64 x.2.1.2.1])],[]⟩ Q
 refine q344 hm hT hC (q13e (q137 d) (x.1.1,x.2.1.1,x.2.1.2.1)) h fun y0 h=>?_
 refine q9d ?_
 refine q344 hm hT hC (q13i (q137 d) y0) h fun y1 h=>?_
 refine q344 hm hT hC (q13m (q137 d) y1) h fun y2 h=>?_
 refine q9h (v:=y2.2.1) (by kernel_rfl) h ?_ ?_
 ·
  intro h
  refine q344 hm hT hC (q13q (q137 d) y2) h fun y3 h=>?_
  refine q9c (q91 ?_)
  cases h
  exact (hend _ (by kernel_rfl)).2
 ·
  intro h
  refine q99 (q8z ?_)
  refine q344 hm hT hC (q13u (q137 d) y2) h fun y4 h=>?_
  refine q344 hm hT hC (q13y (q137 d) y4) h fun y5 h=>?_
  refine q9d ?_
  refine q344 hm hT hC (q142 (q137 d) y5) h fun y6 h=>?_
  refine q9e ?_
  refine q9j (G:=iter (q15g d )) (S:=(fun x1=>⟨[(2,.ptr 0 0),(3,.ptr 1 0),(4,.ptr 2 0),(7,.ptr 4 0),(8,.rs 6),(24,.fz Riii x1.1),(25,i6 x1.2.1),(26,i6 x1.2.2.1)],[.cells [.fz Riii x1.2.2.2.1],.cells [i6 x1.2.2.2.2.1,i6 x1.2.2.2.2.2.1],.cells [i6 x1.2.2.2.2.2.2.1,.rs 3],.rows Riii x1.2.2.2.2.2.2.2.1,.cells [i6 x1.2.2.2.2.2.2.2.2.1,.rs 5],.rows Riii x1.2.2.2.2.2.2.2.2.2.1,.rows Ri x1.2.2.2.2.2.2.2.2.2.2]⟩:List Diii×Int×Int×List Diii×Int×Int×Int×List Diii×Int×List Diii×List Di→St)) (fun _=>rfl) ?_ d _ h
  intro n1 x1 h K1 hn1
  replace h:q15g d  (iter (q15g d ) n1) x1=some r:=h
  generalize iter (q15g d ) n1=self1 at h hn1
  unfold q15g at h
  refine q344 hm hT hC (q146 (q137 d) x1) h fun y7 h=>?_
  refine q9d ?_
  refine q9h (v:=y7.2.2.2.1) (by kernel_rfl) h ?_ ?_
  ·
   intro h
   refine q99 (q8z (q9d (q9e ?_)))
   refine q344 hm hT hC (q14a (q137 d) y7) h fun y8 h=>?_
   refine q344 hm hT hC (q14e (q137 d) y8) h fun y9 h=>?_
   refine q9g (r:=r) (F:=q15a d self1) (S:=(fun z=>⟨[(2,.ptr 0 0),(3,.ptr 1 0),(4,.ptr 2 0),(7,.ptr 4 0),(8,.rs 6),(9,i6 z.1),(10,.ptr 7 0),(11,.ptr 8 0),(24,.fz Riii z.2.1),(25,i6 z.2.2.1),(26,i6 z.2.2.2.1)],[.cells [.fz Riii z.2.2.2.2.1],.cells [i6 z.2.2.2.2.2.1,i6 z.2.2.2.2.2.2.1],.cells [i6 z.2.2.2.2.2.2.2.1,.rs 3],.rows Riii z.2.2.2.2.2.2.2.2.1,.cells [i6 z.2.2.2.2.2.2.2.2.2.1,.rs 5],.rows Riii z.2.2.2.2.2.2.2.2.2.2.1,.rows Ri z.2.2.2.2.2.2.2.2.2.2.2.1,.cells [i6 z.2.2.2.2.2.2.2.2.2.2.2.2.1,i6 z.2.2.2.2.2.2.2.2.2.2.2.2.2.1,i6 z.2.2.2.2.2.2.2.2.2.2.2.2.2.2.1],.cells [i6 z.2.2.2.2.2.2.2.2.2.2.2.2.2.2.2.1,i6 z.2.2.2.2.2.2.2.2.2.2.2.2.2.2.2.2.1,i6 z.2.2.2.2.2.2.2.2.2.2.2.2.2.2.2.2.2]]⟩:Int×List Diii×Int×Int×List Diii×Int×Int×Int×List Diii×Int×List Diii×List Di×Int×Int×Int×Int×Int×Int→St)) ?_ ?_
   ·
    intro z h
    unfold q15a at h
    refine q9g (r:=r) (F:=q157 d self1) (S:=(fun z=>⟨[(2,.ptr 0 0),(3,.ptr 1 0),(4,.ptr 2 0),(7,.ptr 4 0),(8,.rs 6),(9,i6 z.1),(11,.ptr 7 0),(24,.fz Riii z.2.1),(25,i6 z.2.2.1),(26,i6 z.2.2.2.1)],[.cells [.fz Riii z.2.2.2.2.1],.cells [i6 z.2.2.2.2.2.1,i6 z.2.2.2.2.2.2.1],.cells [i6 z.2.2.2.2.2.2.2.1,.rs 3],.rows Riii z.2.2.2.2.2.2.2.2.1,.cells [i6 z.2.2.2.2.2.2.2.2.2.1,.rs 5],.rows Riii z.2.2.2.2.2.2.2.2.2.2.1,.rows Ri z.2.2.2.2.2.2.2.2.2.2.2.1,.cells [i6 z.2.2.2.2.2.2.2.2.2.2.2.2.1,i6 z.2.2.2.2.2.2.2.2.2.2.2.2.2.1,i6 z.2.2.2.2.2.2.2.2.2.2.2.2.2.2]]⟩:Int×List Diii×Int×Int×List Diii×Int×Int×Int×List Diii×Int×List Diii×List Di×Int×Int×Int→St)) ?_ ?_
    ·
     intro z h
     unfold q157 at h
     refine q9i hm hT hC (q154 (q137 d) z) h ?_
     intro y18 h
     refine q92 (q8z ?_)
     refine q9i hm hT hC (q156 (q137 d) y18) h ?_
     intro y19 h
     exact hn1 _ h
    intro hj4
    refine q344 hm hT hC (q14y (q137 d) z) h fun y15 h=>?_
    refine q9h (v:=y15.2.2.2.2.1) (by kernel_rfl) h ?_ ?_
    ·
     intro h
     refine q9i hm hT hC (q152 (q137 d) y15) h ?_
     intro y16 h
     exact hj4 _ h
    ·
     intro h
     refine q9i hm hT hC (q159 (q137 d) y15) h ?_
     intro y17 h
     exact hj4 _ h
   intro hj2
   refine q9e ?_
   refine q9j (G:=iter (q15d d self1)) (S:=(fun x3=>⟨[(2,.ptr 0 0),(3,.ptr 1 0),(4,.ptr 2 0),(7,.ptr 4 0),(8,.rs 6),(9,i6 x3.1),(10,.ptr 7 0),(11,.ptr 8 0),(24,.fz Riii x3.2.1),(25,i6 x3.2.2.1),(26,i6 x3.2.2.2.1)],[.cells [.fz Riii x3.2.2.2.2.1],.cells [i6 x3.2.2.2.2.2.1,i6 x3.2.2.2.2.2.2.1],.cells [i6 x3.2.2.2.2.2.2.2.1,.rs 3],.rows Riii x3.2.2.2.2.2.2.2.2.1,.cells [i6 x3.2.2.2.2.2.2.2.2.2.1,.rs 5],.rows Riii x3.2.2.2.2.2.2.2.2.2.2.1,.rows Ri x3.2.2.2.2.2.2.2.2.2.2.2.1,.cells [i6 x3.2.2.2.2.2.2.2.2.2.2.2.2.1,i6 x3.2.2.2.2.2.2.2.2.2.2.2.2.2.1,i6 x3.2.2.2.2.2.2.2.2.2.2.2.2.2.2.1],.cells [i6 x3.2.2.2.2.2.2.2.2.2.2.2.2.2.2.2.1,i6 x3.2.2.2.2.2.2.2.2.2.2.2.2.2.2.2.2.1,i6 x3.2.2.2.2.2.2.2.2.2.2.2.2.2.2.2.2.2]]⟩:Int×List Diii×Int×Int×List Diii×Int×Int×Int×List Diii×Int×List Diii×List Di×Int×Int×Int×Int×Int×Int→St)) (fun _=>rfl) ?_ d _ h
   intro n3 x3 h K3 hn3
   replace h:q15d d self1 (iter (q15d d self1) n3) x3=some r:=h
   generalize iter (q15d d self1) n3=self3 at h hn3
   unfold q15d at h
   refine q9d ?_
   refine q344 hm hT hC (q14i (q137 d) x3) h fun y10 h=>?_
   refine q9h (v:=y10.2.2.2.2.1) (by kernel_rfl) h ?_ ?_
   ·
    intro h
    refine q99 (q8z (q9e ?_))
    refine q344 hm hT hC (q14m (q137 d) y10) h fun y11 h=>?_
    refine q9d ?_
    refine q344 hm hT hC (q14q (q137 d) y11) h fun y12 h=>?_
    refine q344 hm hT hC (q14u (q137 d) y12) h fun y13 h=>?_
    refine q9h (v:=y13.2.2.2.2.2.1) (by kernel_rfl) h ?_ ?_
    ·
     intro h
     refine q9b (q90 ?_)
     refine q95 (by rfl) ?_
     refine q90 (q94 ?_)
     refine qe9 (s:=⟨[(2,.ptr 0 0),(3,.ptr 1 0),(4,.ptr 2 0),(7,.ptr 4 0),(8,.rs 6),(9,.int .i64 y13.1),(10,.ptr 7 0),(11,.ptr 8 0),(24,.fz Riii y13.2.2.1),(25,.int .i64 y13.2.2.2.1),(26,.int .i64 y13.2.2.2.2.1)],[.cells [.fz Riii y13.2.2.2.2.2.2.1],.cells [.int .i64 y13.2.2.2.2.2.2.2.1,.int .i64 y13.2.2.2.2.2.2.2.2.1],.cells [.int .i64 y13.2.2.2.2.2.2.2.2.2.1,.rs 3],.rows Riii y13.2.2.2.2.2.2.2.2.2.2.1,.cells [.int .i64 y13.2.2.2.2.2.2.2.2.2.2.2.1,.rs 5],.rows Riii y13.2.2.2.2.2.2.2.2.2.2.2.2.1,.rows Ri y13.2.2.2.2.2.2.2.2.2.2.2.2.2.1,.cells [.int .i64 y13.2.2.2.2.2.2.2.2.2.2.2.2.2.2.1,.int .i64 y13.2.2.2.2.2.2.2.2.2.2.2.2.2.2.2.1,.int .i64 y13.2.2.2.2.2.2.2.2.2.2.2.2.2.2.2.2.1],.cells [.int .i64 y13.2.2.2.2.2.2.2.2.2.2.2.2.2.2.2.2.2.1,.int .i64 y13.2.2.2.2.2.2.2.2.2.2.2.2.2.2.2.2.2.2.1,.int .i64 y13.2.2.2.2.2.2.2.2.2.2.2.2.2.2.2.2.2.2.2]]⟩) [12,54] (by kernel_rfl) ?_
     exact hj2 _ h
    ·
     intro h
     refine q99 (q8z ?_)
     refine q9i hm hT hC (q15c (q137 d) y13) h ?_
     intro y14 h
     refine q92 ?_
     exact hn3 _ h
   ·
    intro h
    refine q9b (q90 (q90 (q94 ?_)))
    refine qe9 (s:=⟨[(2,.ptr 0 0),(3,.ptr 1 0),(4,.ptr 2 0),(7,.ptr 4 0),(8,.rs 6),(9,.int .i64 y10.1),(10,.ptr 7 0),(11,.ptr 8 0),(24,.fz Riii y10.2.1),(25,.int .i64 y10.2.2.1),(26,.int .i64 y10.2.2.2.1)],[.cells [.fz Riii y10.2.2.2.2.2.1],.cells [.int .i64 y10.2.2.2.2.2.2.1,.int .i64 y10.2.2.2.2.2.2.2.1],.cells [.int .i64 y10.2.2.2.2.2.2.2.2.1,.rs 3],.rows Riii y10.2.2.2.2.2.2.2.2.2.1,.cells [.int .i64 y10.2.2.2.2.2.2.2.2.2.2.1,.rs 5],.rows Riii y10.2.2.2.2.2.2.2.2.2.2.2.1,.rows Ri y10.2.2.2.2.2.2.2.2.2.2.2.2.1,.cells [.int .i64 y10.2.2.2.2.2.2.2.2.2.2.2.2.2.1,.int .i64 y10.2.2.2.2.2.2.2.2.2.2.2.2.2.2.1,.int .i64 y10.2.2.2.2.2.2.2.2.2.2.2.2.2.2.2.1],.cells [.int .i64 y10.2.2.2.2.2.2.2.2.2.2.2.2.2.2.2.2.1,.int .i64 y10.2.2.2.2.2.2.2.2.2.2.2.2.2.2.2.2.2.1,.int .i64 y10.2.2.2.2.2.2.2.2.2.2.2.2.2.2.2.2.2.2]]⟩) [36] (by kernel_rfl) ?_
    exact hj2 _ h
  ·
   intro h
   refine q9b (q90 (q90 (q94 (q8z ?_))))
   refine q344 hm hT hC (q15f (q137 d) y7) h fun y20 h=>?_
   refine q9c ?_
   cases h
   exact (hend _ (by kernel_rfl)).2
abbrev q15j:List Pk:=[.row qkv true]
abbrev q15k:Type:=qkw×Unit
abbrev q15l:Type:=List Dii
def q15m (r:q15l):LV×List Ob:=(.rs 0,[.rows Rii r])
def q15n (F:q15k→Option q15l):Go.Tx.Spec:=⟨54,q15j,q15l,F,q15m⟩
abbrev q15o:Type:=(q10g→Option q10h)×(qv3→Option qv4)×Unit
def q15p (d:Nat):q15o:=(q125 d,qwm d,())
def q15q (C:q15o):List Go.Tx.Spec:=[q10j C.1,qv6 C.2.1]
abbrev q15r:Type:=Int×List Diii
def q15s (v:q15r):St:=⟨[(0,.agg [i6 v.1,.fz Riii v.2])],[]⟩
abbrev q15t:Type:=Int×List Diii
def q15u (v:q15t):St:=⟨[(1,.ptr 0 0)],[.cells [i6 v.1,.fz Riii v.2]]⟩
def q15v (C:q15o) (v:q15r):Dt q15t:=(Dt.ret (v.1,v.2))
abbrev q34b {V Y:Type}:=@rg q15o V Y tysT (fun C=>(orc (q15q C))) 47
theorem q15w C v:q34b (regO (qea f54) 0) false [(1,(.box [.any,.val Riii]))] q15s q15v q15u C v:=rgI (by kernel_rfl)
abbrev q15x:Type:=Int×List Diii×List Di
def q15y (v:q15x):St:=⟨[(1,.ptr 0 0),(3,.rs 1)],[.cells [i6 v.1,.fz Riii v.2.1],.rows Ri v.2.2]⟩
def q15z (C:q15o) (v:q15t):Dt q15x:=(Dt.bnd (C.2.1 ((v.1,v.2,()),())) fun r1=>(Dt.ret (v.1,v.2,r1.1)))
theorem q160 C v:q34b (regO (qea f54) 1) false [(1,(.box [.any,.val Riii])),(3,(.own Ri))] q15u q15z q15y C v:=rgI (by kernel_rfl)
abbrev q161:Type:=Int×List Diii×List Di×List Dii
def q162 (v:q161):St:=⟨[(1,.ptr 0 0),(3,.rs 1),(5,.rs 2)],[.cells [i6 v.1,.fz Riii v.2.1],.rows Ri v.2.2.1,.rows Rii v.2.2.2]⟩
def q163 (C:q15o) (v:q15x):Dt q161:=(Dt.ite (mkB (List.length v.2.2:Int) (List.length v.2.2:Int)) (Dt.ret (v.1,v.2.1,v.2.2,(List.replicate ((List.length v.2.2:Int)).toNat zii))) Dt.fail)
theorem q164 C v:q34b (regO (qea f54) 2) false [(1,(.box [.any,.val Riii])),(3,(.own Ri)),(5,(.own Rii))] q15y q163 q162 C v:=rgI (by kernel_rfl)
abbrev q165:Type:=Int×Int×Int×List Diii×List Dii×List Di
def q166 (v:q165):St:=⟨[(1,.ptr 0 0),(5,.rs 1),(17,.rs 2),(18,i6 v.1),(19,i6 v.2.1)],[.cells [i6 v.2.2.1,.fz Riii v.2.2.2.1],.rows Rii v.2.2.2.2.1,.rows Ri v.2.2.2.2.2]⟩
def q167 (C:q15o) (v:q161):Dt q165:=(Dt.ret ((List.length v.2.2.1:Int),(0:Int),v.1,v.2.1,v.2.2.2,v.2.2.1))
theorem q168 C v:q34b (regO (qea f54) 3) false [(1,(.box [.any,.val Riii])),(5,(.own Rii)),(17,(.own Ri)),(18,.any),(19,.any)] q162 q167 q166 C v:=rgI (by kernel_rfl)
abbrev q169:Type:=Int×Int×Bool×Int×List Diii×List Dii×List Di
def q16a (v:q169):St:=⟨[(1,.ptr 0 0),(5,.rs 1),(17,.rs 2),(18,i6 v.1),(19,i6 v.2.1),(20,.bool v.2.2.1)],[.cells [i6 v.2.2.2.1,.fz Riii v.2.2.2.2.1],.rows Rii v.2.2.2.2.2.1,.rows Ri v.2.2.2.2.2.2]⟩
def q16b (C:q15o) (v:q165):Dt q169:=(Dt.ret (v.1,v.2.1,(decide (v.2.1<v.1)),v.2.2.1,v.2.2.2.1,v.2.2.2.2.1,v.2.2.2.2.2))
theorem q16c C v:q34b (regO (qea f54) 4) false [(1,(.box [.any,.val Riii])),(5,(.own Rii)),(17,(.own Ri)),(18,.any),(19,.any),(20,.any)] q166 q16b q16a C v:=rgI (by kernel_rfl)
abbrev q16d:Type:=Int×Int×Int×Int×Int×List Diii×List Dii×List Di
def q16e (v:q16d):St:=⟨[(1,.ptr 0 0),(5,.rs 1),(6,i6 v.1),(7,i6 v.2.1),(17,.rs 2),(18,i6 v.2.2.1),(19,i6 v.2.2.2.1)],[.cells [i6 v.2.2.2.2.1,.fz Riii v.2.2.2.2.2.1],.rows Rii v.2.2.2.2.2.2.1,.rows Ri v.2.2.2.2.2.2.2]⟩
def q16f (C:q15o) (v:q169):Dt q16d:=(Dt.ite (inB v.2.1 (List.length v.2.2.2.2.2.2)) (Dt.ret (v.2.1,(elt zi v.2.2.2.2.2.2 (v.2.1).toNat).1,v.1,v.2.1,v.2.2.2.1,v.2.2.2.2.1,v.2.2.2.2.2.1,v.2.2.2.2.2.2)) Dt.fail)
theorem q16g C v:q34b (regO (qea f54) 5) false [(1,(.box [.any,.val Riii])),(5,(.own Rii)),(6,.any),(7,.any),(17,(.own Ri)),(18,.any),(19,.any)] q16a q16f q16e C v:=rgI (by kernel_rfl)
abbrev q16h:Type:=Int×Int×Int×Int×Int×List Diii×List Dii×List Di
def q16i (v:q16h):St:=⟨[(1,.ptr 0 0),(5,.rs 1),(6,i6 v.1),(8,i6 v.2.1),(17,.rs 2),(18,i6 v.2.2.1),(19,i6 v.2.2.2.1)],[.cells [i6 v.2.2.2.2.1,.fz Riii v.2.2.2.2.2.1],.rows Rii v.2.2.2.2.2.2.1,.rows Ri v.2.2.2.2.2.2.2]⟩
def q16j (C:q15o) (v:q16d):Dt q16h:=(Dt.ite (inB v.2.1 (List.length v.2.2.2.2.2.1)) (Dt.ret (v.1,(elt ziii v.2.2.2.2.2.1 (v.2.1).toNat).1,v.2.2.1,v.2.2.2.1,v.2.2.2.2.1,v.2.2.2.2.2.1,v.2.2.2.2.2.2.1,v.2.2.2.2.2.2.2)) Dt.fail)
theorem q16k C v:q34b (regO (qea f54) 6) false [(1,(.box [.any,.val Riii])),(5,(.own Rii)),(6,.any),(8,.any),(17,(.own Ri)),(18,.any),(19,.any)] q16e q16j q16i C v:=rgI (by kernel_rfl)
def q16l (C:q15o) (v:q16h):Dt q16h:=(Dt.ite (inB v.1 (List.length v.2.2.2.2.2.2.1)) (Dt.ret (v.1,v.2.1,v.2.2.1,v.2.2.2.1,v.2.2.2.2.1,v.2.2.2.2.2.1,(List.set v.2.2.2.2.2.2.1 (v.1).toNat (v.2.1,(elt zii v.2.2.2.2.2.2.1 (v.1).toNat).2.1,())),v.2.2.2.2.2.2.2)) Dt.fail)
theorem q16m C v:q34b (regO (qea f54) 7) false [(1,(.box [.any,.val Riii])),(5,(.own Rii)),(6,.any),(8,.any),(17,(.own Ri)),(18,.any),(19,.any)] q16i q16l q16i C v:=rgI (by kernel_rfl)
def q16n (C:q15o) (v:q16h):Dt q165:=(Dt.bnd (C.1 ((v.2.2.2.2.1,v.2.2.2.2.2.1,()),(v.2.1,()),())) fun r1=>(Dt.ite (inB v.1 (List.length v.2.2.2.2.2.2.1)) (Dt.ret (v.2.2.1,v.2.2.2.1,v.2.2.2.2.1,v.2.2.2.2.2.1,(List.set v.2.2.2.2.2.2.1 (v.1).toNat ((elt zii v.2.2.2.2.2.2.1 (v.1).toNat).1,r1.1,())),v.2.2.2.2.2.2.2)) Dt.fail))
theorem q16o C v:q34b (regO (qea f54) 8) true [(1,(.box [.any,.val Riii])),(5,(.own Rii)),(17,(.own Ri)),(18,.any),(19,.any)] q16i q16n q166 C v:=rgI (by kernel_rfl)
def q16p (C:q15o) (v:q165):Dt q165:=(Dt.ret (v.1,(IntKind.wrap .i64 (v.2.1+(1:Int))),v.2.2.1,v.2.2.2.1,v.2.2.2.2.1,v.2.2.2.2.2))
theorem q16q C v:q34b (regO (qea f54) 9) false [(1,(.box [.any,.val Riii])),(5,(.own Rii)),(17,(.own Ri)),(18,.any),(19,.any)] q166 q16p q166 C v:=rgI (by kernel_rfl)
abbrev q16r:Type:=List Dii
def q16s (v:q16r):St:=⟨[(2,.rs 0)],[.rows Rii v]⟩
def q16t (C:q15o) (v:q169):Dt q16r:=(Dt.ret v.2.2.2.2.2.1)
theorem q16u C v:q34b (regO (qea f54) 10) false [(2,(.own Rii))] q16a q16t q16s C v:=rgI (by kernel_rfl)
def q16v (d:Nat) (self1:(Int×Int×Int×List Diii×List Dii×List Di)→Option q15l) (x1:Int×Int×Int×List Diii×List Dii×List Di):Option q15l :=
 (q16b (q15p d) x1).eval fun y4 =>
 bif y4.2.2.1 then ((q16f (q15p d) y4).eval fun y5 =>
 (q16j (q15p d) y5).eval fun y6 =>
 (q16l (q15p d) y6).eval fun y7 =>
 (q16n (q15p d) y7).eval fun y8 =>
 (q16p (q15p d) y8).eval fun y9 =>
 self1 y9) else ((q16t (q15p d) y4).eval fun y10 =>
 some y10)
def q16w (d:Nat) (x:q15k):Option q15l :=
 (q15v (q15p d) (x.1.1,x.1.2.1)).eval fun y0 =>
 (q15z (q15p d) y0).eval fun y1 =>
 (q163 (q15p d) y1).eval fun y2 =>
 (q167 (q15p d) y2).eval fun y3 =>
 iter (q16v d ) d y3
theorem q16x (d:Nat):COK prog (q15n (q16w d)):=by
 have hm:prog.follows .mixedOrders=true:=mixed
 have hT:=tys
 have hC0:OrcOK prog (orc (q15q (q15p d))):=qe4 (by
  intro S hS
  simp only [q15q,List.mem_cons,List.not_mem_nil,or_false] at hS
  rcases hS with rfl | rfl
  · exact q126 d
  · exact qwn d)
 have hC:OrcOK prog (orc (q15q (q15p d))):=hC0
 refine q9t (c:=qea f54) (fn:=f54) hT (by kernel_rfl) (by kernel_rfl) (by decide) fun x r h w0 φ0 Q hend=>?_
 replace h:q16w d x=some r:=h
 unfold q16w at h
 show Run prog w0 φ0 47 (qea f54) ⟨[(0,.agg [.int .i64 x.1.1,.fz Riii x.1.2.1])],[]⟩ Q
 refine q344 hm hT hC (q15w (q15p d) (x.1.1,x.1.2.1)) h fun y0 h=>?_
 refine q344 hm hT hC (q160 (q15p d) y0) h fun y1 h=>?_
 refine q344 hm hT hC (q164 (q15p d) y1) h fun y2 h=>?_
 refine q9d ?_
 refine q344 hm hT hC (q168 (q15p d) y2) h fun y3 h=>?_
 refine q9e ?_
 refine q9j (G:=iter (q16v d )) (S:=(fun x1=>⟨[(1,.ptr 0 0),(5,.rs 1),(17,.rs 2),(18,i6 x1.1),(19,i6 x1.2.1)],[.cells [i6 x1.2.2.1,.fz Riii x1.2.2.2.1],.rows Rii x1.2.2.2.2.1,.rows Ri x1.2.2.2.2.2]⟩:Int×Int×Int×List Diii×List Dii×List Di→St)) (fun _=>rfl) ?_ d _ h
 intro n1 x1 h K1 hn1
 replace h:q16v d  (iter (q16v d ) n1) x1=some r:=h
 generalize iter (q16v d ) n1=self1 at h hn1
 unfold q16v at h
 refine q344 hm hT hC (q16c (q15p d) x1) h fun y4 h=>?_
 refine q9d ?_
 refine q9h (v:=y4.2.2.1) (by kernel_rfl) h ?_ ?_
 ·
  intro h
  refine q99 (q8z (q9d (q9e ?_)))
  refine q344 hm hT hC (q16g (q15p d) y4) h fun y5 h=>?_
  refine q344 hm hT hC (q16k (q15p d) y5) h fun y6 h=>?_
  refine q344 hm hT hC (q16m (q15p d) y6) h fun y7 h=>?_
  refine q9i hm hT hC (q16o (q15p d) y7) h ?_
  intro y8 h
  refine q92 (q8z ?_)
  refine q9i hm hT hC (q16q (q15p d) y8) h ?_
  intro y9 h
  exact hn1 _ h
 ·
  intro h
  refine q9b (q90 (q90 (q94 (q8z ?_))))
  refine q344 hm hT hC (q16u (q15p d) y4) h fun y10 h=>?_
  refine q9c ?_
  cases h
  exact (hend _ (by kernel_rfl)).2
abbrev q16y:List Pk:=[.row ql1 false,.row ql1 false]
abbrev q16z:Type:=ql2×ql2×Unit
abbrev q170:Type:=Bool
def q171 (r:q170):LV×List Ob:=(.bool r,[])
def q172 (F:q16z→Option q170):Go.Tx.Spec:=⟨55,q16y,q170,F,q171⟩
abbrev q173:Type:=Unit
def q174 (_d:Nat):q173:=()
def q175 (C:q173):List Go.Tx.Spec:=[]
abbrev q176:Type:=List Dii×List Dii
def q177 (v:q176):St:=⟨[(0,.fz Rii v.1),(1,.fz Rii v.2)],[]⟩
def q178 (C:q173) (v:q176):Dt q176:=(Dt.ret (v.1,v.2))
abbrev q34c {V Y:Type}:=@rg q173 V Y tysT (fun C=>(orc (q175 C))) 26
theorem q179 C v:q34c (regO (qea f55) 0) false [(0,(.val Rii)),(1,(.val Rii))] q177 q178 q177 C v:=rgI (by kernel_rfl)
abbrev q17a:Type:=List Dii×List Dii×Bool
def q17b (v:q17a):St:=⟨[(0,.fz Rii v.1),(1,.fz Rii v.2.1),(10,.bool v.2.2)],[]⟩
def q17c (C:q173) (v:q176):Dt q17a:=(Dt.ret (v.1,v.2,((List.length v.1:Int) != (List.length v.2:Int))))
theorem q17d C v:q34c (regO (qea f55) 1) false [(0,(.val Rii)),(1,(.val Rii)),(10,.any)] q177 q17c q17b C v:=rgI (by kernel_rfl)
abbrev q17e:Type:=Bool
def q17f (v:q17e):St:=⟨[(4,.bool v)],[]⟩
def q17g (C:q173) (v:q17a):Dt q17e:=(Dt.ret false)
theorem q17h C v:q34c (regO (qea f55) 2) false [(4,.any)] q17b q17g q17f C v:=rgI (by kernel_rfl)
abbrev q17i:Type:=List Dii×List Dii×Int×Int
def q17j (v:q17i):St:=⟨[(0,.fz Rii v.1),(1,.fz Rii v.2.1),(12,i6 v.2.2.1),(13,i6 v.2.2.2)],[]⟩
def q17k (C:q173) (v:q17a):Dt q17i:=(Dt.ret (v.1,v.2.1,(List.length v.1:Int),(0:Int)))
theorem q17l C v:q34c (regO (qea f55) 3) false [(0,(.val Rii)),(1,(.val Rii)),(12,.any),(13,.any)] q17b q17k q17j C v:=rgI (by kernel_rfl)
abbrev q17m:Type:=List Dii×List Dii×Int×Int×Bool
def q17n (v:q17m):St:=⟨[(0,.fz Rii v.1),(1,.fz Rii v.2.1),(12,i6 v.2.2.1),(13,i6 v.2.2.2.1),(14,.bool v.2.2.2.2)],[]⟩
def q17o (C:q173) (v:q17i):Dt q17m:=(Dt.ret (v.1,v.2.1,v.2.2.1,v.2.2.2,(decide (v.2.2.2<v.2.2.1))))
theorem q17p C v:q34c (regO (qea f55) 4) false [(0,(.val Rii)),(1,(.val Rii)),(12,.any),(13,.any),(14,.any)] q17j q17o q17n C v:=rgI (by kernel_rfl)
abbrev q17q:Type:=List Dii×List Dii×Int×Int×Int
def q17r (v:q17q):St:=⟨[(0,.fz Rii v.1),(1,.fz Rii v.2.1),(5,i6 v.2.2.1),(12,i6 v.2.2.2.1),(13,i6 v.2.2.2.2)],[]⟩
def q17s (C:q173) (v:q17m):Dt q17q:=(Dt.ret (v.1,v.2.1,v.2.2.2.1,v.2.2.1,v.2.2.2.1))
theorem q17t C v:q34c (regO (qea f55) 5) false [(0,(.val Rii)),(1,(.val Rii)),(5,.any),(12,.any),(13,.any)] q17n q17s q17r C v:=rgI (by kernel_rfl)
abbrev q17u:Type:=List Dii×List Dii×Int×Int×Bool
def q17v (v:q17u):St:=⟨[(0,.fz Rii v.1),(1,.fz Rii v.2.1),(12,i6 v.2.2.1),(13,i6 v.2.2.2.1),(24,.bool v.2.2.2.2)],[]⟩
def q17w (C:q173) (v:q17q):Dt q17u:=(Dt.ite (inB v.2.2.1 (List.length v.1)) (Dt.ite (inB v.2.2.1 (List.length v.2.1)) (Dt.ret (v.1,v.2.1,v.2.2.2.1,v.2.2.2.2,(!(((elt zii v.1 (v.2.2.1).toNat).1 == (elt zii v.2.1 (v.2.2.1).toNat).1)&&(((elt zii v.1 (v.2.2.1).toNat).2.1 == (elt zii v.2.1 (v.2.2.1).toNat).2.1)&&true))))) Dt.fail) Dt.fail)
theorem q17x C v:q34c (regO (qea f55) 6) true [(0,(.val Rii)),(1,(.val Rii)),(12,.any),(13,.any),(24,.any)] q17r q17w q17v C v:=rgI (by kernel_rfl)
def q17y (C:q173) (v:q17u):Dt q17e:=(Dt.ret false)
theorem q17z C v:q34c (regO (qea f55) 7) false [(4,.any)] q17v q17y q17f C v:=rgI (by kernel_rfl)
def q180 (C:q173) (v:q17u):Dt q17i:=(Dt.ret (v.1,v.2.1,v.2.2.1,(IntKind.wrap .i64 (v.2.2.2.1+(1:Int)))))
theorem q181 C v:q34c (regO (qea f55) 8) false [(0,(.val Rii)),(1,(.val Rii)),(12,.any),(13,.any)] q17v q180 q17j C v:=rgI (by kernel_rfl)
def q182 (C:q173) (v:q17m):Dt q17e:=(Dt.ret true)
theorem q183 C v:q34c (regO (qea f55) 9) false [(4,.any)] q17n q182 q17f C v:=rgI (by kernel_rfl)
def q184 (d:Nat) (self1:(List Dii×List Dii×Int×Int)→Option q170) (x1:List Dii×List Dii×Int×Int):Option q170 :=
 (q17o (q174 d) x1).eval fun y4 =>
 bif y4.2.2.2.2 then ((q17s (q174 d) y4).eval fun y5 =>
 (q17w (q174 d) y5).eval fun y6 =>
 bif y6.2.2.2.2 then ((q17y (q174 d) y6).eval fun y7 =>
 some y7) else ((q180 (q174 d) y6).eval fun y8 =>
 self1 y8)) else ((q182 (q174 d) y4).eval fun y9 =>
 some y9)
def q185 (d:Nat) (x:q16z):Option q170 :=
 (q178 (q174 d) (x.1.1,x.2.1.1)).eval fun y0 =>
 (q17c (q174 d) y0).eval fun y1 =>
 bif y1.2.2 then ((q17g (q174 d) y1).eval fun y2 =>
 some y2) else ((q17k (q174 d) y1).eval fun y3 =>
 iter (q184 d ) d y3)
theorem q186 (d:Nat):COK prog (q172 (q185 d)):=by
 have hm:prog.follows .mixedOrders=true:=mixed
 have hT:=tys
 have hC0:OrcOK prog (orc (q175 (q174 d))):=qe4 (by
  intro S hS
  simp only [q175,List.mem_cons,List.not_mem_nil,or_false] at hS
  all_goals first | cases hS | exact hS.elim)
 have hC:OrcOK prog (orc (q175 (q174 d))):=hC0
 refine q9t (c:=qea f55) (fn:=f55) hT (by kernel_rfl) (by kernel_rfl) (by decide) fun x r h w0 φ0 Q hend=>?_
 replace h:q185 d x=some r:=h
 unfold q185 at h
 show Run prog w0 φ0 26 (qea f55) ⟨[(0,.fz Rii x.1.1),(1,.fz Rii x.2.1.1)],[]⟩ Q
 refine q344 hm hT hC (q179 (q174 d) (x.1.1,x.2.1.1)) h fun y0 h=>?_
 refine q9d ?_
 refine q344 hm hT hC (q17d (q174 d) y0) h fun y1 h=>?_
 refine q9h (v:=y1.2.2) (by kernel_rfl) h ?_ ?_
 ·
  intro h
  refine q344 hm hT hC (q17h (q174 d) y1) h fun y2 h=>?_
  refine q9c (q91 ?_)
  cases h
  exact (hend _ (by kernel_rfl)).2
 ·
  intro h
  refine q99 (q8z (q9d ?_))
  refine q344 hm hT hC (q17l (q174 d) y1) h fun y3 h=>?_
  refine q9e ?_
  refine q9j (G:=iter (q184 d )) (S:=(fun x1=>⟨[(0,.fz Rii x1.1),(1,.fz Rii x1.2.1),(12,i6 x1.2.2.1),(13,i6 x1.2.2.2)],[]⟩:List Dii×List Dii×Int×Int→St)) (fun _=>rfl) ?_ d _ h
  intro n1 x1 h K1 hn1
  replace h:q184 d  (iter (q184 d ) n1) x1=some r:=h
  generalize iter (q184 d ) n1=self1 at h hn1
  unfold q184 at h
  refine q344 hm hT hC (q17p (q174 d) x1) h fun y4 h=>?_
  refine q9d ?_
  refine q9h (v:=y4.2.2.2.2) (by kernel_rfl) h ?_ ?_
  ·
   intro h
   refine q99 (q8z (q9d (q9e ?_)))
   refine q344 hm hT hC (q17t (q174 d) y4) h fun y5 h=>?_
   refine q344 hm hT hC (q17x (q174 d) y5) h fun y6 h=>?_
   refine q9h (v:=y6.2.2.2.2) (by kernel_rfl) h ?_ ?_
   ·
    intro h
    refine q344 hm hT hC (q17z (q174 d) y6) h fun y7 h=>?_
    refine q9c (q93 (q91 (q91 (q93 (q91 ?_)))))
    cases h
    exact (hend _ (by kernel_rfl)).2
   ·
    intro h
    refine q99 (q92 (q8z ?_))
    refine q9i hm hT hC (q181 (q174 d) y6) h ?_
    intro y8 h
    exact hn1 _ h
  ·
   intro h
   refine q9b (q90 (q90 (q94 (q8z ?_))))
   refine q344 hm hT hC (q183 (q174 d) y4) h fun y9 h=>?_
   refine q9c ?_
   cases h
   exact (hend _ (by kernel_rfl)).2
abbrev q187:List Pk:=[.row qkv true,.row qkv true]
abbrev q188:Type:=qkw×qkw×Unit
abbrev q189:Type:=Bool×Int
def q18a (r:q189):LV×List Ob:=(.tup [.bool r.1,.int .i64 r.2],[])
def q18b (F:q188→Option q189):Go.Tx.Spec:=⟨21,q187,q189,F,q18a⟩
abbrev q18c:Type:=(qwp→Option qwq)×(q15k→Option q15l)×(q16z→Option q170)×Unit
def q18d (d:Nat):q18c:=(qyy d,q16w d,q185 d,())
def q18e (C:q18c):List Go.Tx.Spec:=[qws C.1,q15n C.2.1,q172 C.2.2.1]
abbrev q18f:Type:=Int×List Diii×Int×List Diii
def q18g (v:q18f):St:=⟨[(0,.agg [i6 v.1,.fz Riii v.2.1]),(1,.agg [i6 v.2.2.1,.fz Riii v.2.2.2])],[]⟩
abbrev q18h:Type:=Int×List Diii×Int×List Diii
def q18i (v:q18h):St:=⟨[(2,.ptr 0 0),(3,.ptr 1 0)],[.cells [i6 v.1,.fz Riii v.2.1],.cells [i6 v.2.2.1,.fz Riii v.2.2.2]]⟩
def q18j (C:q18c) (v:q18f):Dt q18h:=(Dt.ret (v.1,v.2.1,v.2.2.1,v.2.2.2))
abbrev q34d {V Y:Type}:=@rg q18c V Y tysT (fun C=>(orc (q18e C))) 34
theorem q18k C v:q34d (regO (qea f21) 0) false [(2,(.box [.any,.val Riii])),(3,(.box [.any,.val Riii]))] q18g q18j q18i C v:=rgI (by kernel_rfl)
abbrev q18l:Type:=Int×Int×List Diii×Int×List Diii
def q18m (v:q18l):St:=⟨[(2,.ptr 0 0),(3,.ptr 1 0),(6,i6 v.1)],[.cells [i6 v.2.1,.fz Riii v.2.2.1],.cells [i6 v.2.2.2.1,.fz Riii v.2.2.2.2]]⟩
def q18n (C:q18c) (v:q18h):Dt q18l:=(Dt.bnd (C.1 ((v.1,v.2.1,()),())) fun r1=>(Dt.ret (r1,v.1,v.2.1,v.2.2.1,v.2.2.2)))
theorem q18o C v:q34d (regO (qea f21) 1) false [(2,(.box [.any,.val Riii])),(3,(.box [.any,.val Riii])),(6,.any)] q18i q18n q18m C v:=rgI (by kernel_rfl)
abbrev q18p:Type:=Int×Bool×Int×List Diii×Int×List Diii
def q18q (v:q18p):St:=⟨[(2,.ptr 0 0),(3,.ptr 1 0),(6,i6 v.1),(13,.bool v.2.1)],[.cells [i6 v.2.2.1,.fz Riii v.2.2.2.1],.cells [i6 v.2.2.2.2.1,.fz Riii v.2.2.2.2.2]]⟩
def q18r (C:q18c) (v:q18l):Dt q18p:=(Dt.ret (v.1,(v.1 != (0:Int)),v.2.1,v.2.2.1,v.2.2.2.1,v.2.2.2.2))
theorem q18s C v:q34d (regO (qea f21) 2) false [(2,(.box [.any,.val Riii])),(3,(.box [.any,.val Riii])),(6,.any),(13,.any)] q18m q18r q18q C v:=rgI (by kernel_rfl)
abbrev q18t:Type:=Bool×Int
def q18u (v:q18t):St:=⟨[(4,.bool v.1),(5,i6 v.2)],[]⟩
def q18v (C:q18c) (v:q18p):Dt q18t:=(Dt.ret (false,v.1))
theorem q18w C v:q34d (regO (qea f21) 3) false (an [4,5]) q18q q18v q18u C v:=rgI (by kernel_rfl)
abbrev q18x:Type:=Int×Int×List Diii×Int×List Diii
def q18y (v:q18x):St:=⟨[(2,.ptr 0 0),(3,.ptr 1 0),(7,i6 v.1)],[.cells [i6 v.2.1,.fz Riii v.2.2.1],.cells [i6 v.2.2.2.1,.fz Riii v.2.2.2.2]]⟩
def q18z (C:q18c) (v:q18p):Dt q18x:=(Dt.bnd (C.1 ((v.2.2.2.2.1,v.2.2.2.2.2,()),())) fun r1=>(Dt.ret (r1,v.2.2.1,v.2.2.2.1,v.2.2.2.2.1,v.2.2.2.2.2)))
theorem q190 C v:q34d (regO (qea f21) 4) false [(2,(.box [.any,.val Riii])),(3,(.box [.any,.val Riii])),(7,.any)] q18q q18z q18y C v:=rgI (by kernel_rfl)
abbrev q191:Type:=Int×Bool×Int×List Diii×Int×List Diii
def q192 (v:q191):St:=⟨[(2,.ptr 0 0),(3,.ptr 1 0),(7,i6 v.1),(18,.bool v.2.1)],[.cells [i6 v.2.2.1,.fz Riii v.2.2.2.1],.cells [i6 v.2.2.2.2.1,.fz Riii v.2.2.2.2.2]]⟩
def q193 (C:q18c) (v:q18x):Dt q191:=(Dt.ret (v.1,(v.1 != (0:Int)),v.2.1,v.2.2.1,v.2.2.2.1,v.2.2.2.2))
theorem q194 C v:q34d (regO (qea f21) 5) false [(2,(.box [.any,.val Riii])),(3,(.box [.any,.val Riii])),(7,.any),(18,.any)] q18y q193 q192 C v:=rgI (by kernel_rfl)
def q195 (C:q18c) (v:q191):Dt q18t:=(Dt.ret (false,v.1))
theorem q196 C v:q34d (regO (qea f21) 6) false (an [4,5]) q192 q195 q18u C v:=rgI (by kernel_rfl)
abbrev q197:Type:=Bool×Int×List Diii×Int×List Diii
def q198 (v:q197):St:=⟨[(2,.ptr 0 0),(3,.ptr 1 0),(26,.bool v.1)],[.cells [i6 v.2.1,.fz Riii v.2.2.1],.cells [i6 v.2.2.2.1,.fz Riii v.2.2.2.2]]⟩
def q199 (C:q18c) (v:q191):Dt q197:=(Dt.ret (((List.length v.2.2.2.1:Int) != (List.length v.2.2.2.2.2:Int)),v.2.2.1,v.2.2.2.1,v.2.2.2.2.1,v.2.2.2.2.2))
theorem q19a C v:q34d (regO (qea f21) 7) false [(2,(.box [.any,.val Riii])),(3,(.box [.any,.val Riii])),(26,.any)] q192 q199 q198 C v:=rgI (by kernel_rfl)
def q19b (C:q18c) (v:q197):Dt q18t:=(Dt.ret (false,(0:Int)))
theorem q19c C v:q34d (regO (qea f21) 8) false (an [4,5]) q198 q19b q18u C v:=rgI (by kernel_rfl)
abbrev q19d:Type:=List Dii×List Dii
def q19e (v:q19d):St:=⟨[(8,.rs 0),(9,.rs 1)],[.rows Rii v.1,.rows Rii v.2]⟩
def q19f (C:q18c) (v:q197):Dt q19d:=(Dt.bnd (C.2.1 ((v.2.1,v.2.2.1,()),())) fun r1=>(Dt.bnd (C.2.1 ((v.2.2.2.1,v.2.2.2.2,()),())) fun r2=>(Dt.ret (r1,r2))))
theorem q19g C v:q34d (regO (qea f21) 9) true [(8,(.own Rii)),(9,(.own Rii))] q198 q19f q19e C v:=rgI (by kernel_rfl)
def q19h (C:q18c) (v:q19d):Dt q18t:=(Dt.bnd (C.2.2.1 ((v.1,()),(v.2,()),())) fun r1=>(Dt.ret (r1,(0:Int))))
theorem q19i C v:q34d (regO (qea f21) 10) false (an [4,5]) q19e q19h q18u C v:=rgI (by kernel_rfl)
def q19j (d:Nat) (x:q188):Option q189 :=
 (q18j (q18d d) (x.1.1,x.1.2.1,x.2.1.1,x.2.1.2.1)).eval fun y0 =>
 (q18n (q18d d) y0).eval fun y1 =>
 (q18r (q18d d) y1).eval fun y2 =>
 bif y2.2.1 then ((q18v (q18d d) y2).eval fun y3 =>
 some y3) else ((q18z (q18d d) y2).eval fun y4 =>
 (q193 (q18d d) y4).eval fun y5 =>
 bif y5.2.1 then ((q195 (q18d d) y5).eval fun y6 =>
 some y6) else ((q199 (q18d d) y5).eval fun y7 =>
 bif y7.1 then ((q19b (q18d d) y7).eval fun y8 =>
 some y8) else ((q19f (q18d d) y7).eval fun y9 =>
 (q19h (q18d d) y9).eval fun y10 =>
 some y10)))
theorem q19k (d:Nat):COK prog (q18b (q19j d)):=by
 have hm:prog.follows .mixedOrders=true:=mixed
 have hT:=tys
 have hC0:OrcOK prog (orc (q18e (q18d d))):=qe4 (by
  intro S hS
  simp only [q18e,List.mem_cons,List.not_mem_nil,or_false] at hS
  rcases hS with rfl | rfl | rfl
  · exact qyz d
  · exact q16x d
  · exact q186 d)
 have hC:OrcOK prog (orc (q18e (q18d d))):=hC0
 refine q9t (c:=qea f21) (fn:=f21) hT (by kernel_rfl) (by kernel_rfl) (by decide) fun x r h w0 φ0 Q hend=>?_
 replace h:q19j d x=some r:=h
 unfold q19j at h
 show Run prog w0 φ0 34 (qea f21) ⟨[(0,.agg [.int .i64 x.1.1,.fz Riii x.1.2.1]),(1,.agg [.int .i64 x.2.1.1,.fz Riii x.2.1.2.1])],[]⟩ Q
 refine q344 hm hT hC (q18k (q18d d) (x.1.1,x.1.2.1,x.2.1.1,x.2.1.2.1)) h fun y0 h=>?_
 refine q9d ?_
 refine q344 hm hT hC (q18o (q18d d) y0) h fun y1 h=>?_
 refine q344 hm hT hC (q18s (q18d d) y1) h fun y2 h=>?_
 refine q9h (v:=y2.2.1) (by kernel_rfl) h ?_ ?_
 ·
  intro h
  refine q344 hm hT hC (q18w (q18d d) y2) h fun y3 h=>?_
  refine q9c (q91 ?_)
  cases h
  exact (hend _ (by kernel_rfl)).2
 ·
  intro h
  refine q99 (q8z (q9d ?_))
  refine q344 hm hT hC (q190 (q18d d) y2) h fun y4 h=>?_
  refine q344 hm hT hC (q194 (q18d d) y4) h fun y5 h=>?_
  refine q9h (v:=y5.2.1) (by kernel_rfl) h ?_ ?_
  ·
   intro h
   refine q344 hm hT hC (q196 (q18d d) y5) h fun y6 h=>?_
   refine q9c (q91 ?_)
   cases h
   exact (hend _ (by kernel_rfl)).2
  ·
   intro h
   refine q99 (q8z (q9d ?_))
   refine q344 hm hT hC (q19a (q18d d) y5) h fun y7 h=>?_
   refine q9h (v:=y7.1) (by kernel_rfl) h ?_ ?_
   ·
    intro h
    refine q344 hm hT hC (q19c (q18d d) y7) h fun y8 h=>?_
    refine q9c (q91 ?_)
    cases h
    exact (hend _ (by kernel_rfl)).2
   ·
    intro h
    refine q99 (q8z ?_)
    refine q344 hm hT hC (q19g (q18d d) y7) h fun y9 h=>?_
    refine q344 hm hT hC (q19i (q18d d) y9) h fun y10 h=>?_
    refine q9c ?_
    cases h
    exact (hend _ (by kernel_rfl)).2
abbrev q19l:List Pk:=[.row qkv true,.row qks true,.row Rii true]
abbrev q19m:Type:=qkw×qkt×Dii×Unit
abbrev q19n:Type:=Bool×Int
def q19o (r:q19n):LV×List Ob:=(.tup [.bool r.1,.int .i64 r.2],[])
def q19p (F:q19m→Option q19n):Go.Tx.Spec:=⟨17,q19l,q19n,F,q19o⟩
abbrev q19q:Type:=(q132→Option q133)×(q188→Option q189)×(qwp→Option qwq)×Unit
def q19r (d:Nat):q19q:=(q15h d,q19j d,qyy d,())
def q19s (C:q19q):List Go.Tx.Spec:=[q135 C.1,q18b C.2.1,qws C.2.2.1]
abbrev q19t:Type:=Int×List Diii×List Diii×Int×Int
def q19u (v:q19t):St:=⟨[(0,.agg [i6 v.1,.fz Riii v.2.1]),(1,.agg [.fz Riii v.2.2.1]),(2,.agg [i6 v.2.2.2.1,i6 v.2.2.2.2])],[]⟩
abbrev q19v:Type:=Int×List Diii×List Diii×Int×Int
def q19w (v:q19v):St:=⟨[(3,.ptr 0 0),(4,.ptr 1 0),(5,.ptr 2 0)],[.cells [i6 v.1,.fz Riii v.2.1],.cells [.fz Riii v.2.2.1],.cells [i6 v.2.2.2.1,i6 v.2.2.2.2]]⟩
def q19x (C:q19q) (v:q19t):Dt q19v:=(Dt.ret (v.1,v.2.1,v.2.2.1,v.2.2.2.1,v.2.2.2.2))
abbrev q34e {V Y:Type}:=@rg q19q V Y tysT (fun C=>(orc (q19s C))) 30
theorem q19y C v:q34e (regO (qea f17) 0) false [(3,(.box [.any,.val Riii])),(4,(.box [.val Riii])),(5,.any)] q19u q19x q19w C v:=rgI (by kernel_rfl)
abbrev q19z:Type:=Int×Int×List Diii×List Diii×Int×Int
def q1a0 (v:q19z):St:=⟨[(3,.ptr 0 0),(4,.ptr 1 0),(5,.ptr 2 0),(8,i6 v.1)],[.cells [i6 v.2.1,.fz Riii v.2.2.1],.cells [.fz Riii v.2.2.2.1],.cells [i6 v.2.2.2.2.1,i6 v.2.2.2.2.2]]⟩
def q1a1 (C:q19q) (v:q19v):Dt q19z:=(Dt.bnd (C.2.2.1 ((v.1,v.2.1,()),())) fun r1=>(Dt.ret (r1,v.1,v.2.1,v.2.2.1,v.2.2.2.1,v.2.2.2.2)))
theorem q1a2 C v:q34e (regO (qea f17) 1) false [(3,(.box [.any,.val Riii])),(4,(.box [.val Riii])),(5,.any),(8,.any)] q19w q1a1 q1a0 C v:=rgI (by kernel_rfl)
abbrev q1a3:Type:=Int×Bool×Int×List Diii×List Diii×Int×Int
def q1a4 (v:q1a3):St:=⟨[(3,.ptr 0 0),(4,.ptr 1 0),(5,.ptr 2 0),(8,i6 v.1),(14,.bool v.2.1)],[.cells [i6 v.2.2.1,.fz Riii v.2.2.2.1],.cells [.fz Riii v.2.2.2.2.1],.cells [i6 v.2.2.2.2.2.1,i6 v.2.2.2.2.2.2]]⟩
def q1a5 (C:q19q) (v:q19z):Dt q1a3:=(Dt.ret (v.1,(v.1 != (0:Int)),v.2.1,v.2.2.1,v.2.2.2.1,v.2.2.2.2.1,v.2.2.2.2.2))
theorem q1a6 C v:q34e (regO (qea f17) 2) false [(3,(.box [.any,.val Riii])),(4,(.box [.val Riii])),(5,.any),(8,.any),(14,.any)] q1a0 q1a5 q1a4 C v:=rgI (by kernel_rfl)
abbrev q1a7:Type:=Bool×Int
def q1a8 (v:q1a7):St:=⟨[(6,.bool v.1),(7,i6 v.2)],[]⟩
def q1a9 (C:q19q) (v:q1a3):Dt q1a7:=(Dt.ret (false,v.1))
theorem q1aa C v:q34e (regO (qea f17) 3) false (an [6,7]) q1a4 q1a9 q1a8 C v:=rgI (by kernel_rfl)
abbrev q1ab:Type:=Int×Int×List Diii×Int×List Diii
def q1ac (v:q1ab):St:=⟨[(3,.ptr 0 0),(9,.ptr 1 0),(10,i6 v.1)],[.cells [i6 v.2.1,.fz Riii v.2.2.1],.cells [i6 v.2.2.2.1,.rs 2],.rows Riii v.2.2.2.2]⟩
def q1ad (C:q19q) (v:q1a3):Dt q1ab:=(Dt.bnd (C.1 ((v.2.2.2.2.1,()),(v.2.2.2.2.2.1,v.2.2.2.2.2.2,()),())) fun r1=>(Dt.ret (r1.2.2,v.2.2.1,v.2.2.2.1,r1.1,r1.2.1)))
theorem q1ae C v:q34e (regO (qea f17) 4) false [(3,(.box [.any,.val Riii])),(9,(.box [.any,.own Riii])),(10,.any)] q1a4 q1ad q1ac C v:=rgI (by kernel_rfl)
abbrev q1af:Type:=Int×Bool×Int×List Diii×Int×List Diii
def q1ag (v:q1af):St:=⟨[(3,.ptr 0 0),(9,.ptr 1 0),(10,i6 v.1),(23,.bool v.2.1)],[.cells [i6 v.2.2.1,.fz Riii v.2.2.2.1],.cells [i6 v.2.2.2.2.1,.rs 2],.rows Riii v.2.2.2.2.2]⟩
def q1ah (C:q19q) (v:q1ab):Dt q1af:=(Dt.ret (v.1,(v.1 != (0:Int)),v.2.1,v.2.2.1,v.2.2.2.1,v.2.2.2.2))
theorem q1ai C v:q34e (regO (qea f17) 5) false [(3,(.box [.any,.val Riii])),(9,(.box [.any,.own Riii])),(10,.any),(23,.any)] q1ac q1ah q1ag C v:=rgI (by kernel_rfl)
def q1aj (C:q19q) (v:q1af):Dt q1a7:=(Dt.ret (false,v.1))
theorem q1ak C v:q34e (regO (qea f17) 6) false (an [6,7]) q1ag q1aj q1a8 C v:=rgI (by kernel_rfl)
def q1al (C:q19q) (v:q1af):Dt q1a7:=(Dt.bnd (C.2.1 ((v.2.2.1,v.2.2.2.1,()),(v.2.2.2.2.1,v.2.2.2.2.2,()),())) fun r1=>(Dt.ret (r1.1,r1.2)))
theorem q1am C v:q34e (regO (qea f17) 7) false (an [6,7]) q1ag q1al q1a8 C v:=rgI (by kernel_rfl)
def q1an (d:Nat) (x:q19m):Option q19n :=
 (q19x (q19r d) (x.1.1,x.1.2.1,x.2.1.1,x.2.2.1.1,x.2.2.1.2.1)).eval fun y0 =>
 (q1a1 (q19r d) y0).eval fun y1 =>
 (q1a5 (q19r d) y1).eval fun y2 =>
 bif y2.2.1 then ((q1a9 (q19r d) y2).eval fun y3 =>
 some y3) else ((q1ad (q19r d) y2).eval fun y4 =>
 (q1ah (q19r d) y4).eval fun y5 =>
 bif y5.2.1 then ((q1aj (q19r d) y5).eval fun y6 =>
 some y6) else ((q1al (q19r d) y5).eval fun y7 =>
 some y7))
theorem q1ao (d:Nat):COK prog (q19p (q1an d)):=by
 have hm:prog.follows .mixedOrders=true:=mixed
 have hT:=tys
 have hC0:OrcOK prog (orc (q19s (q19r d))):=qe4 (by
  intro S hS
  simp only [q19s,List.mem_cons,List.not_mem_nil,or_false] at hS
  rcases hS with rfl | rfl | rfl
  · exact q15i d
  · exact q19k d
  · exact qyz d)
 have hC:OrcOK prog (orc (q19s (q19r d))):=hC0
 refine q9t (c:=qea f17) (fn:=f17) hT (by kernel_rfl) (by kernel_rfl) (by decide) fun x r h w0 φ0 Q hend=>?_
 replace h:q1an d x=some r:=h
 unfold q1an at h
 show Run prog w0 φ0 30 (qea f17) ⟨[(0,.agg [.int .i64 x.1.1,.fz Riii x.1.2.1]),(1,.agg [.fz Riii x.2.1.1]),(2,.agg [.int .i64 x.2.2.1.1,.int .i64 x.2.2.1.2.1])],[]⟩ Q
 refine q344 hm hT hC (q19y (q19r d) (x.1.1,x.1.2.1,x.2.1.1,x.2.2.1.1,x.2.2.1.2.1)) h fun y0 h=>?_
 refine q9d ?_
 refine q344 hm hT hC (q1a2 (q19r d) y0) h fun y1 h=>?_
 refine q344 hm hT hC (q1a6 (q19r d) y1) h fun y2 h=>?_
 refine q9h (v:=y2.2.1) (by kernel_rfl) h ?_ ?_
 ·
  intro h
  refine q344 hm hT hC (q1aa (q19r d) y2) h fun y3 h=>?_
  refine q9c (q91 ?_)
  cases h
  exact (hend _ (by kernel_rfl)).2
 ·
  intro h
  refine q99 (q8z ?_)
  refine q344 hm hT hC (q1ae (q19r d) y2) h fun y4 h=>?_
  refine q9d ?_
  refine q344 hm hT hC (q1ai (q19r d) y4) h fun y5 h=>?_
  refine q9h (v:=y5.2.1) (by kernel_rfl) h ?_ ?_
  ·
   intro h
   refine q344 hm hT hC (q1ak (q19r d) y5) h fun y6 h=>?_
   refine q9c (q91 ?_)
   cases h
   exact (hend _ (by kernel_rfl)).2
  ·
   intro h
   refine q99 (q8z ?_)
   refine q344 hm hT hC (q1am (q19r d) y5) h fun y7 h=>?_
   refine q9c ?_
   cases h
   exact (hend _ (by kernel_rfl)).2
end Go.Proofs.Ytoakhncbmpdacaa

namespace Go.Proofs.Ytoakhncbmpdacaa
open Go Go.Tx Go.Proofs.Try
set_option maxRecDepth 100000
set_option maxHeartbeats 0
abbrev q1b9:List Pk:=[.row qkv true,.row qkv true]
abbrev q1ba:Type:=qkw×qkw×Unit
abbrev q1bb:Type:=Bool
def q1bc (r:q1bb):LV×List Ob:=(.bool r,[])
def q1bd (F:q1ba→Option q1bb):Go.Tx.Spec:=⟨23,q1b9,q1bb,F,q1bc⟩
abbrev q1be:Type:=Unit
def q1bf (_d:Nat):q1be:=()
def q1bg (C:q1be):List Go.Tx.Spec:=[]
abbrev q1bh:Type:=Int×List Diii×Int×List Diii
def q1bi (v:q1bh):St:=⟨[(0,.agg [i6 v.1,.fz Riii v.2.1]),(1,.agg [i6 v.2.2.1,.fz Riii v.2.2.2])],[]⟩
abbrev q1bj:Type:=Int×List Diii×Int×List Diii
def q1bk (v:q1bj):St:=⟨[(2,.ptr 0 0),(3,.ptr 1 0)],[.cells [i6 v.1,.fz Riii v.2.1],.cells [i6 v.2.2.1,.fz Riii v.2.2.2]]⟩
def q1bl (C:q1be) (v:q1bh):Dt q1bj:=(Dt.ret (v.1,v.2.1,v.2.2.1,v.2.2.2))
abbrev q34g {V Y:Type}:=@rg q1be V Y tysT (fun C=>(orc (q1bg C))) 38
theorem q1bm C v:q34g (regO (qea f23) 0) false [(2,(.box [.any,.val Riii])),(3,(.box [.any,.val Riii]))] q1bi q1bl q1bk C v:=rgI (by kernel_rfl)
abbrev q1bn:Type:=Bool×Int×List Diii×Int×List Diii
def q1bo (v:q1bn):St:=⟨[(2,.ptr 0 0),(3,.ptr 1 0),(19,.bool v.1)],[.cells [i6 v.2.1,.fz Riii v.2.2.1],.cells [i6 v.2.2.2.1,.fz Riii v.2.2.2.2]]⟩
def q1bp (C:q1be) (v:q1bj):Dt q1bn:=(Dt.ite (v.1 != v.2.2.1) (Dt.ret (true,v.1,v.2.1,v.2.2.1,v.2.2.2)) (Dt.ret (((List.length v.2.1:Int) != (List.length v.2.2.2:Int)),v.1,v.2.1,v.2.2.1,v.2.2.2)))
theorem q1bq C v:q34g (regO (qea f23) 1) false [(2,(.box [.any,.val Riii])),(3,(.box [.any,.val Riii])),(19,.any)] q1bk q1bp q1bo C v:=rgI (by kernel_rfl)
abbrev q1br:Type:=Bool
def q1bs (v:q1br):St:=⟨[(4,.bool v)],[]⟩
def q1bt (C:q1be) (v:q1bn):Dt q1br:=(Dt.ret false)
theorem q1bu C v:q34g (regO (qea f23) 2) false [(4,.any)] q1bo q1bt q1bs C v:=rgI (by kernel_rfl)
abbrev q1bv:Type:=Int×Int×List Diii×Int×List Diii
def q1bw (v:q1bv):St:=⟨[(2,.ptr 0 0),(3,.ptr 1 0),(5,i6 v.1)],[.cells [i6 v.2.1,.fz Riii v.2.2.1],.cells [i6 v.2.2.2.1,.fz Riii v.2.2.2.2]]⟩
def q1bx (C:q1be) (v:q1bn):Dt q1bv:=(Dt.ret ((0:Int),v.2.1,v.2.2.1,v.2.2.2.1,v.2.2.2.2))
theorem q1by C v:q34g (regO (qea f23) 3) false [(2,(.box [.any,.val Riii])),(3,(.box [.any,.val Riii])),(5,.any)] q1bo q1bx q1bw C v:=rgI (by kernel_rfl)
abbrev q1bz:Type:=Int×Bool×Int×List Diii×Int×List Diii
def q1c0 (v:q1bz):St:=⟨[(2,.ptr 0 0),(3,.ptr 1 0),(5,i6 v.1),(24,.bool v.2.1)],[.cells [i6 v.2.2.1,.fz Riii v.2.2.2.1],.cells [i6 v.2.2.2.2.1,.fz Riii v.2.2.2.2.2]]⟩
def q1c1 (C:q1be) (v:q1bv):Dt q1bz:=(Dt.ret (v.1,(decide (v.1<(List.length v.2.2.1:Int))),v.2.1,v.2.2.1,v.2.2.2.1,v.2.2.2.2))
theorem q1c2 C v:q34g (regO (qea f23) 4) false [(2,(.box [.any,.val Riii])),(3,(.box [.any,.val Riii])),(5,.any),(24,.any)] q1bw q1c1 q1c0 C v:=rgI (by kernel_rfl)
abbrev q1c3:Type:=Int×Bool×Int×List Diii×Int×List Diii
def q1c4 (v:q1c3):St:=⟨[(2,.ptr 0 0),(3,.ptr 1 0),(5,i6 v.1),(37,.bool v.2.1)],[.cells [i6 v.2.2.1,.fz Riii v.2.2.2.1],.cells [i6 v.2.2.2.2.1,.fz Riii v.2.2.2.2.2]]⟩
def q1c5 (C:q1be) (v:q1bz):Dt q1c3:=(Dt.ite (inB v.1 (List.length v.2.2.2.1)) (Dt.ite (inB v.1 (List.length v.2.2.2.2.2)) (Dt.ret (v.1,(!(((elt ziii v.2.2.2.1 (v.1).toNat).1 == (elt ziii v.2.2.2.2.2 (v.1).toNat).1)&&(((elt ziii v.2.2.2.1 (v.1).toNat).2.1 == (elt ziii v.2.2.2.2.2 (v.1).toNat).2.1)&&(((elt ziii v.2.2.2.1 (v.1).toNat).2.2.1 == (elt ziii v.2.2.2.2.2 (v.1).toNat).2.2.1)&&true)))),v.2.2.1,v.2.2.2.1,v.2.2.2.2.1,v.2.2.2.2.2)) Dt.fail) Dt.fail)
theorem q1c6 C v:q34g (regO (qea f23) 6) true [(2,(.box [.any,.val Riii])),(3,(.box [.any,.val Riii])),(5,.any),(37,.any)] q1c0 q1c5 q1c4 C v:=rgI (by kernel_rfl)
def q1c7 (C:q1be) (v:q1c3):Dt q1br:=(Dt.ret false)
theorem q1c8 C v:q34g (regO (qea f23) 7) false [(4,.any)] q1c4 q1c7 q1bs C v:=rgI (by kernel_rfl)
def q1c9 (C:q1be) (v:q1c3):Dt q1bv:=(Dt.ret ((IntKind.wrap .i64 (v.1+(1:Int))),v.2.2.1,v.2.2.2.1,v.2.2.2.2.1,v.2.2.2.2.2))
theorem q1ca C v:q34g (regO (qea f23) 5) false [(2,(.box [.any,.val Riii])),(3,(.box [.any,.val Riii])),(5,.any)] q1c4 q1c9 q1bw C v:=rgI (by kernel_rfl)
def q1cb (C:q1be) (v:q1bz):Dt q1br:=(Dt.ret true)
theorem q1cc C v:q34g (regO (qea f23) 8) false [(4,.any)] q1c0 q1cb q1bs C v:=rgI (by kernel_rfl)
def q1cd (d:Nat) (self1:(Int×Int×List Diii×Int×List Diii)→Option q1bb) (x1:Int×Int×List Diii×Int×List Diii):Option q1bb :=
 (q1c1 (q1bf d) x1).eval fun y4 =>
 bif y4.2.1 then ((q1c5 (q1bf d) y4).eval fun y6 =>
 bif y6.2.1 then ((q1c7 (q1bf d) y6).eval fun y7 =>
 some y7) else ((q1c9 (q1bf d) y6).eval fun y5 =>
 self1 y5)) else ((q1cb (q1bf d) y4).eval fun y8 =>
 some y8)
def q1ce (d:Nat) (x:q1ba):Option q1bb :=
 (q1bl (q1bf d) (x.1.1,x.1.2.1,x.2.1.1,x.2.1.2.1)).eval fun y0 =>
 (q1bp (q1bf d) y0).eval fun y1 =>
 bif y1.1 then ((q1bt (q1bf d) y1).eval fun y2 =>
 some y2) else ((q1bx (q1bf d) y1).eval fun y3 =>
 iter (q1cd d ) d y3)
theorem q1cf (d:Nat):COK prog (q1bd (q1ce d)):=by
 have hm:prog.follows .mixedOrders=true:=mixed
 have hT:=tys
 have hC0:OrcOK prog (orc (q1bg (q1bf d))):=qe4 (by
  intro S hS
  simp only [q1bg,List.mem_cons,List.not_mem_nil,or_false] at hS
  all_goals first | cases hS | exact hS.elim)
 have hC:OrcOK prog (orc (q1bg (q1bf d))):=hC0
 refine q9t (c:=qea f23) (fn:=f23) hT (by kernel_rfl) (by kernel_rfl) (by decide) fun x r h w0 φ0 Q hend=>?_
 replace h:q1ce d x=some r:=h
 unfold q1ce at h
 show Run prog w0 φ0 38 (qea f23) ⟨[(0,.agg [.int .i64 x.1.1,.fz Riii x.1.2.1]),(1,.agg [.int .i64 x.2.1.1,.fz Riii x.2.1.2.1])],[]⟩ Q
 refine q344 hm hT hC (q1bm (q1bf d) (x.1.1,x.1.2.1,x.2.1.1,x.2.1.2.1)) h fun y0 h=>?_
 refine q9d ?_
 refine q344 hm hT hC (q1bq (q1bf d) y0) h fun y1 h=>?_
 refine q9h (v:=y1.1) (by kernel_rfl) h ?_ ?_
 ·
  intro h
  refine q344 hm hT hC (q1bu (q1bf d) y1) h fun y2 h=>?_
  refine q9c (q91 ?_)
  cases h
  exact (hend _ (by kernel_rfl)).2
 ·
  intro h
  refine q99 (q8z (q9d ?_))
  refine q344 hm hT hC (q1by (q1bf d) y1) h fun y3 h=>?_
  refine q9e ?_
  refine q9j (G:=iter (q1cd d )) (S:=(fun x1=>⟨[(2,.ptr 0 0),(3,.ptr 1 0),(5,i6 x1.1)],[.cells [i6 x1.2.1,.fz Riii x1.2.2.1],.cells [i6 x1.2.2.2.1,.fz Riii x1.2.2.2.2]]⟩:Int×Int×List Diii×Int×List Diii→St)) (fun _=>rfl) ?_ d _ h
  intro n1 x1 h K1 hn1
  replace h:q1cd d  (iter (q1cd d ) n1) x1=some r:=h
  generalize iter (q1cd d ) n1=self1 at h hn1
  unfold q1cd at h
  refine q9d ?_
  refine q344 hm hT hC (q1c2 (q1bf d) x1) h fun y4 h=>?_
  refine q9h (v:=y4.2.1) (by kernel_rfl) h ?_ ?_
  ·
   intro h
   refine q99 (q8z (q9d (q9e ?_)))
   refine q344 hm hT hC (q1c6 (q1bf d) y4) h fun y6 h=>?_
   refine q9h (v:=y6.2.1) (by kernel_rfl) h ?_ ?_
   ·
    intro h
    refine q344 hm hT hC (q1c8 (q1bf d) y6) h fun y7 h=>?_
    refine q9c (q93 (q91 (q91 (q93 (q91 ?_)))))
    cases h
    exact (hend _ (by kernel_rfl)).2
   ·
    intro h
    refine q99 (q92 (q8z ?_))
    refine q9i hm hT hC (q1ca (q1bf d) y6) h ?_
    intro y5 h
    exact hn1 _ h
  ·
   intro h
   refine q9b (q90 (q90 (q94 (q8z ?_))))
   refine q344 hm hT hC (q1cc (q1bf d) y4) h fun y8 h=>?_
   refine q9c ?_
   cases h
   exact (hend _ (by kernel_rfl)).2
end Go.Proofs.Ytoakhncbmpdacaa

namespace Go.Tx
open Go
structure CSpec where
  g:FuncId
  τ1:List Pk
  τ2:List Pk
  σ:Row
  F:dens τ1→dens τ2→List (den σ)→Option (List (den σ))
def cmem {σ:Row} (xs:List (den σ)):LH:=q82 [.rows σ xs]
abbrev cFz {σ:Row} (xs:List (den σ)) (η:Emb):Fz0:=⟨η.fz,fun _ _=>False,[],fun k=>LB (cmem xs) η k⟩
structure COKC (P:Program) (S:CSpec):Prop where
  ok:∀ x1 x2 xs ys,S.F x1 x2 xs=some ys→∀ (w:World) (η:Emb) (vs:List Value),(∀ M,HR M η (cmem xs) w)→VRs η (q9o S.τ1 x1 ++ .rs 0 :: q9o S.τ2 x2) vs →
    Calls P S.g vs.toArray w fun e w'=>∃ v' η',e=.returned v'∧VR η' (.rs 0) v'∧(∀ M,HR M η' (cmem ys) w')∧Fr w (cFz xs η) (cmem ys) η' w'
  body:q5q P S.g
section
variable {P:Program} {M:Nat} {H:LH} {η:Emb} {w:World}
end
end Go.Tx
