/- Walks of the references; the orders agree; examples. -/
import Derived.Test.YtoakhncbmpdacaaGd
set_option linter.unusedSimpArgs false
set_option linter.unusedVariables false
namespace Go.Proofs.Ytoakhncbmpdacaa
open Go Go.Tx Go.Proofs.Try
set_option maxRecDepth 100000
set_option maxHeartbeats 0
abbrev qwo:List Pk:=[.row qkv true]
abbrev qwp:Type:=qkw×Unit
abbrev qwq:Type:=Int
def qwr (r:qwq):LV×List Ob:=(.int .i64 r,[])
def qws (F:qwp→Option qwq):Go.Tx.Spec:=⟨24,qwo,qwq,F,qwr⟩
abbrev qwt:Type:=(qv3→Option qv4)×Unit
def qwu (d:Nat):qwt:=(qwm d,())
def qwv (C:qwt):List Go.Tx.Spec:=[qv6 C.1]
abbrev qww:Type:=Int×List Diii
def qwx (v:qww):St:=⟨[(0,.agg [i6 v.1,.fz Riii v.2])],[]⟩
abbrev qwy:Type:=Int×List Diii
def qwz (v:qwy):St:=⟨[(1,.ptr 0 0)],[.cells [i6 v.1,.fz Riii v.2]]⟩
def qx0 (C:qwt) (v:qww):Dt qwy:=(Dt.ret (v.1,v.2))
abbrev q346 {V Y:Type}:=@rg qwt V Y tysT (fun C=>(orc (qwv C))) 102
theorem qx1 C v:q346 (regO (qea f24) 0) false [(1,(.box [.any,.val Riii]))] qwx qx0 qwz C v:=rgI (by kernel_rfl)
abbrev qx2:Type:=Int×Int×List Diii
def qx3 (v:qx2):St:=⟨[(1,.ptr 0 0),(3,i6 v.1)],[.cells [i6 v.2.1,.fz Riii v.2.2]]⟩
def qx4 (C:qwt) (v:qwy):Dt qx2:=(Dt.ret ((List.length v.2:Int),v.1,v.2))
theorem qx5 C v:q346 (regO (qea f24) 1) false [(1,(.box [.any,.val Riii])),(3,.any)] qwz qx4 qx3 C v:=rgI (by kernel_rfl)
abbrev qx6:Type:=Int×Bool×Int×List Diii
def qx7 (v:qx6):St:=⟨[(1,.ptr 0 0),(3,i6 v.1),(13,.bool v.2.1)],[.cells [i6 v.2.2.1,.fz Riii v.2.2.2]]⟩
def qx8 (C:qwt) (v:qx2):Dt qx6:=(Dt.ret (v.1,(decide (v.1 > (64:Int))),v.2.1,v.2.2))
theorem qx9 C v:q346 (regO (qea f24) 2) false [(1,(.box [.any,.val Riii])),(3,.any),(13,.any)] qx3 qx8 qx7 C v:=rgI (by kernel_rfl)
abbrev qxa:Type:=Int
def qxb (v:qxa):St:=⟨[(2,i6 v)],[]⟩
def qxc (C:qwt) (v:qx6):Dt qxa:=(Dt.ret (4:Int))
theorem qxd C v:q346 (regO (qea f24) 3) false [(2,.any)] qx7 qxc qxb C v:=rgI (by kernel_rfl)
abbrev qxe:Type:=Int×Bool×Int×List Diii
def qxf (v:qxe):St:=⟨[(1,.ptr 0 0),(3,i6 v.1),(30,.bool v.2.1)],[.cells [i6 v.2.2.1,.fz Riii v.2.2.2]]⟩
def qxg (C:qwt) (v:qx6):Dt qxe:=(Dt.ite (decide (v.2.2.1<(-1:Int))) (Dt.ret (v.1,true,v.2.2.1,v.2.2.2)) (Dt.ite (decide (v.2.2.1≥v.1)) (Dt.ret (v.1,true,v.2.2.1,v.2.2.2)) (Dt.ret (v.1,(!((decide (v.2.2.1<(0:Int))) == (v.1 == (0:Int)))),v.2.2.1,v.2.2.2))))
theorem qxh C v:q346 (regO (qea f24) 4) false [(1,(.box [.any,.val Riii])),(3,.any),(30,.any)] qx7 qxg qxf C v:=rgI (by kernel_rfl)
def qxi (C:qwt) (v:qxe):Dt qxa:=(Dt.ret (8:Int))
theorem qxj C v:q346 (regO (qea f24) 5) false [(2,.any)] qxf qxi qxb C v:=rgI (by kernel_rfl)
abbrev qxk:Type:=Int×List Diii×Int×Int×Int×List Diii
def qxl (v:qxk):St:=⟨[(1,.ptr 0 0),(3,i6 v.1),(32,.fz Riii v.2.1),(33,i6 v.2.2.1),(34,i6 v.2.2.2.1)],[.cells [i6 v.2.2.2.2.1,.fz Riii v.2.2.2.2.2]]⟩
def qxm (C:qwt) (v:qxe):Dt qxk:=(Dt.ret (v.1,v.2.2.2,(List.length v.2.2.2:Int),(0:Int),v.2.2.1,v.2.2.2))
theorem qxn C v:q346 (regO (qea f24) 6) false [(1,(.box [.any,.val Riii])),(3,.any),(32,(.val Riii)),(33,.any),(34,.any)] qxf qxm qxl C v:=rgI (by kernel_rfl)
abbrev qxo:Type:=Int×List Diii×Int×Int×Bool×Int×List Diii
def qxp (v:qxo):St:=⟨[(1,.ptr 0 0),(3,i6 v.1),(32,.fz Riii v.2.1),(33,i6 v.2.2.1),(34,i6 v.2.2.2.1),(35,.bool v.2.2.2.2.1)],[.cells [i6 v.2.2.2.2.2.1,.fz Riii v.2.2.2.2.2.2]]⟩
def qxq (C:qwt) (v:qxk):Dt qxo:=(Dt.ret (v.1,v.2.1,v.2.2.1,v.2.2.2.1,(decide (v.2.2.2.1<v.2.2.1)),v.2.2.2.2.1,v.2.2.2.2.2))
theorem qxr C v:q346 (regO (qea f24) 7) false [(1,(.box [.any,.val Riii])),(3,.any),(32,(.val Riii)),(33,.any),(34,.any),(35,.any)] qxl qxq qxp C v:=rgI (by kernel_rfl)
abbrev qxs:Type:=Int×List Diii×Int×Int×Int×List Diii×Int×Int×Int
def qxt (v:qxs):St:=⟨[(1,.ptr 0 0),(3,i6 v.1),(5,.ptr 1 0),(32,.fz Riii v.2.1),(33,i6 v.2.2.1),(34,i6 v.2.2.2.1)],[.cells [i6 v.2.2.2.2.1,.fz Riii v.2.2.2.2.2.1],.cells [i6 v.2.2.2.2.2.2.1,i6 v.2.2.2.2.2.2.2.1,i6 v.2.2.2.2.2.2.2.2]]⟩
def qxu (C:qwt) (v:qxo):Dt qxs:=(Dt.ite (inB v.2.2.2.1 (List.length v.2.1)) (Dt.ret (v.1,v.2.1,v.2.2.1,v.2.2.2.1,v.2.2.2.2.2.1,v.2.2.2.2.2.2,(elt ziii v.2.1 (v.2.2.2.1).toNat).1,(elt ziii v.2.1 (v.2.2.2.1).toNat).2.1,(elt ziii v.2.1 (v.2.2.2.1).toNat).2.2.1)) Dt.fail)
theorem qxv C v:q346 (regO (qea f24) 8) false [(1,(.box [.any,.val Riii])),(3,.any),(5,.any),(32,(.val Riii)),(33,.any),(34,.any)] qxp qxu qxt C v:=rgI (by kernel_rfl)
abbrev qxw:Type:=Int×List Diii×Int×Int×Bool×Int×List Diii
def qxx (v:qxw):St:=⟨[(1,.ptr 0 0),(3,i6 v.1),(32,.fz Riii v.2.1),(33,i6 v.2.2.1),(34,i6 v.2.2.2.1),(62,.bool v.2.2.2.2.1)],[.cells [i6 v.2.2.2.2.2.1,.fz Riii v.2.2.2.2.2.2]]⟩
def qxy (C:qwt) (v:qxs):Dt qxw:=(Dt.ite (decide ((tmin v.2.2.2.2.2.2.2.1 v.2.2.2.2.2.2.2.2)<(-1:Int))) (Dt.ret (v.1,v.2.1,v.2.2.1,v.2.2.2.1,true,v.2.2.2.2.1,v.2.2.2.2.2.1)) (Dt.ite (decide ((tmax v.2.2.2.2.2.2.2.1 v.2.2.2.2.2.2.2.2)≥v.1)) (Dt.ret (v.1,v.2.1,v.2.2.1,v.2.2.2.1,true,v.2.2.2.2.1,v.2.2.2.2.2.1)) (Dt.ite (decide (v.2.2.2.2.2.2.1<(0:Int))) (Dt.ret (v.1,v.2.1,v.2.2.1,v.2.2.2.1,true,v.2.2.2.2.1,v.2.2.2.2.2.1)) (Dt.ret (v.1,v.2.1,v.2.2.1,v.2.2.2.1,(decide (v.2.2.2.2.2.2.1 > (65535:Int))),v.2.2.2.2.1,v.2.2.2.2.2.1)))))
theorem qxz C v:q346 (regO (qea f24) 9) false [(1,(.box [.any,.val Riii])),(3,.any),(32,(.val Riii)),(33,.any),(34,.any),(62,.any)] qxt qxy qxx C v:=rgI (by kernel_rfl)
def qy0 (C:qwt) (v:qxw):Dt qxa:=(Dt.ret (8:Int))
theorem qy1 C v:q346 (regO (qea f24) 10) false [(2,.any)] qxx qy0 qxb C v:=rgI (by kernel_rfl)
def qy2 (C:qwt) (v:qxw):Dt qxk:=(Dt.ret (v.1,v.2.1,v.2.2.1,(IntKind.wrap .i64 (v.2.2.2.1+(1:Int))),v.2.2.2.2.2.1,v.2.2.2.2.2.2))
theorem qy3 C v:q346 (regO (qea f24) 11) false [(1,(.box [.any,.val Riii])),(3,.any),(32,(.val Riii)),(33,.any),(34,.any)] qxx qy2 qxl C v:=rgI (by kernel_rfl)
abbrev qy4:Type:=Int×Bool×Int×List Diii×List Di
def qy5 (v:qy4):St:=⟨[(1,.ptr 0 0),(3,i6 v.1),(6,.rs 1),(7,.bool v.2.1)],[.cells [i6 v.2.2.1,.fz Riii v.2.2.2.1],.rows Ri v.2.2.2.2]⟩
def qy6 (C:qwt) (v:qxo):Dt qy4:=(Dt.bnd (C.1 ((v.2.2.2.2.2.1,v.2.2.2.2.2.2,()),())) fun r1=>(Dt.ret (v.1,r1.2,v.2.2.2.2.2.1,v.2.2.2.2.2.2,r1.1)))
theorem qy7 C v:q346 (regO (qea f24) 12) false [(1,(.box [.any,.val Riii])),(3,.any),(6,(.own Ri)),(7,.any)] qxp qy6 qy5 C v:=rgI (by kernel_rfl)
abbrev qy8:Type:=Int×Bool×Int×List Diii×List Di
def qy9 (v:qy8):St:=⟨[(1,.ptr 0 0),(3,i6 v.1),(6,.rs 1),(76,.bool v.2.1)],[.cells [i6 v.2.2.1,.fz Riii v.2.2.2.1],.rows Ri v.2.2.2.2]⟩
def qya (C:qwt) (v:qy4):Dt qy8:=(Dt.ite (!v.2.1) (Dt.ret (v.1,true,v.2.2.1,v.2.2.2.1,v.2.2.2.2)) (Dt.ret (v.1,((List.length v.2.2.2.2:Int) != v.1),v.2.2.1,v.2.2.2.1,v.2.2.2.2)))
theorem qyb C v:q346 (regO (qea f24) 13) false [(1,(.box [.any,.val Riii])),(3,.any),(6,(.own Ri)),(76,.any)] qy5 qya qy9 C v:=rgI (by kernel_rfl)
def qyc (C:qwt) (v:qy8):Dt qxa:=(Dt.ret (8:Int))
theorem qyd C v:q346 (regO (qea f24) 14) false [(2,.any)] qy9 qyc qxb C v:=rgI (by kernel_rfl)
abbrev qye:Type:=Int×Int×Int×List Diii×List Di
def qyf (v:qye):St:=⟨[(1,.ptr 0 0),(3,i6 v.1),(6,.rs 1),(8,i6 v.2.1)],[.cells [i6 v.2.2.1,.fz Riii v.2.2.2.1],.rows Ri v.2.2.2.2]⟩
def qyg (C:qwt) (v:qy8):Dt qye:=(Dt.ret (v.1,(1:Int),v.2.2.1,v.2.2.2.1,v.2.2.2.2))
theorem qyh C v:q346 (regO (qea f24) 15) false [(1,(.box [.any,.val Riii])),(3,.any),(6,(.own Ri)),(8,.any)] qy9 qyg qyf C v:=rgI (by kernel_rfl)
abbrev qyi:Type:=Int×Int×Bool×Int×List Diii×List Di
def qyj (v:qyi):St:=⟨[(1,.ptr 0 0),(3,i6 v.1),(6,.rs 1),(8,i6 v.2.1),(79,.bool v.2.2.1)],[.cells [i6 v.2.2.2.1,.fz Riii v.2.2.2.2.1],.rows Ri v.2.2.2.2.2]⟩
def qyk (C:qwt) (v:qye):Dt qyi:=(Dt.ret (v.1,v.2.1,(decide (v.2.1<v.1)),v.2.2.1,v.2.2.2.1,v.2.2.2.2))
theorem qyl C v:q346 (regO (qea f24) 16) false [(1,(.box [.any,.val Riii])),(3,.any),(6,(.own Ri)),(8,.any),(79,.any)] qyf qyk qyj C v:=rgI (by kernel_rfl)
abbrev qym:Type:=Int×Int×Bool×Int×List Diii×List Di
def qyn (v:qym):St:=⟨[(1,.ptr 0 0),(3,i6 v.1),(6,.rs 1),(8,i6 v.2.1),(101,.bool v.2.2.1)],[.cells [i6 v.2.2.2.1,.fz Riii v.2.2.2.2.1],.rows Ri v.2.2.2.2.2]⟩
def qyo (C:qwt) (v:qyi):Dt qym:=(Dt.ite (inB (IntKind.wrap .i64 (v.2.1 - (1:Int))) (List.length v.2.2.2.2.2)) (Dt.ite (inB (elt zi v.2.2.2.2.2 ((IntKind.wrap .i64 (v.2.1 - (1:Int)))).toNat).1 (List.length v.2.2.2.2.1)) (Dt.ite (inB v.2.1 (List.length v.2.2.2.2.2)) (Dt.ite (inB (elt zi v.2.2.2.2.2 (v.2.1).toNat).1 (List.length v.2.2.2.2.1)) (Dt.ret (v.1,v.2.1,(decide ((elt ziii v.2.2.2.2.1 ((elt zi v.2.2.2.2.2 ((IntKind.wrap .i64 (v.2.1 - (1:Int)))).toNat).1).toNat).1≥(elt ziii v.2.2.2.2.1 ((elt zi v.2.2.2.2.2 (v.2.1).toNat).1).toNat).1)),v.2.2.2.1,v.2.2.2.2.1,v.2.2.2.2.2)) Dt.fail) Dt.fail) Dt.fail) Dt.fail)
theorem qyp C v:q346 (regO (qea f24) 18) true [(1,(.box [.any,.val Riii])),(3,.any),(6,(.own Ri)),(8,.any),(101,.any)] qyj qyo qyn C v:=rgI (by kernel_rfl)
def qyq (C:qwt) (v:qym):Dt qxa:=(Dt.ret (8:Int))
theorem qyr C v:q346 (regO (qea f24) 19) false [(2,.any)] qyn qyq qxb C v:=rgI (by kernel_rfl)
def qys (C:qwt) (v:qym):Dt qye:=(Dt.ret (v.1,(IntKind.wrap .i64 (v.2.1+(1:Int))),v.2.2.2.1,v.2.2.2.2.1,v.2.2.2.2.2))
theorem qyt C v:q346 (regO (qea f24) 17) false [(1,(.box [.any,.val Riii])),(3,.any),(6,(.own Ri)),(8,.any)] qyn qys qyf C v:=rgI (by kernel_rfl)
def qyu (C:qwt) (v:qyi):Dt qxa:=(Dt.ret (0:Int))
theorem qyv C v:q346 (regO (qea f24) 20) false [(2,.any)] qyj qyu qxb C v:=rgI (by kernel_rfl)
def qyw (d:Nat) (self2:(Int×Int×Int×List Diii×List Di)→Option qwq) (x2:Int×Int×Int×List Diii×List Di):Option qwq :=
 (qyk (qwu d) x2).eval fun y16 =>
 bif y16.2.2.1 then ((qyo (qwu d) y16).eval fun y18 =>
 bif y18.2.2.1 then ((qyq (qwu d) y18).eval fun y19 =>
 some y19) else ((qys (qwu d) y18).eval fun y17 =>
 self2 y17)) else ((qyu (qwu d) y16).eval fun y20 =>
 some y20)
def qyx (d:Nat) (self1:(Int×List Diii×Int×Int×Int×List Diii)→Option qwq) (x1:Int×List Diii×Int×Int×Int×List Diii):Option qwq :=
 (qxq (qwu d) x1).eval fun y7 =>
 bif y7.2.2.2.2.1 then ((qxu (qwu d) y7).eval fun y8 =>
 (qxy (qwu d) y8).eval fun y9 =>
 bif y9.2.2.2.2.1 then ((qy0 (qwu d) y9).eval fun y10 =>
 some y10) else ((qy2 (qwu d) y9).eval fun y11 =>
 self1 y11)) else ((qy6 (qwu d) y7).eval fun y12 =>
 (qya (qwu d) y12).eval fun y13 =>
 bif y13.2.1 then ((qyc (qwu d) y13).eval fun y14 =>
 some y14) else ((qyg (qwu d) y13).eval fun y15 =>
 iter (qyw d ) d y15))
def qyy (d:Nat) (x:qwp):Option qwq :=
 (qx0 (qwu d) (x.1.1,x.1.2.1)).eval fun y0 =>
 (qx4 (qwu d) y0).eval fun y1 =>
 (qx8 (qwu d) y1).eval fun y2 =>
 bif y2.2.1 then ((qxc (qwu d) y2).eval fun y3 =>
 some y3) else ((qxg (qwu d) y2).eval fun y4 =>
 bif y4.2.1 then ((qxi (qwu d) y4).eval fun y5 =>
 some y5) else ((qxm (qwu d) y4).eval fun y6 =>
 iter (qyx d ) d y6))
theorem qyz (d:Nat):COK prog (qws (qyy d)):=by
 have hm:prog.follows .mixedOrders=true:=mixed
 have hT:=tys
 have hC0:OrcOK prog (orc (qwv (qwu d))):=qe4 (by
  intro S hS
  simp only [qwv,List.mem_cons,List.not_mem_nil,or_false] at hS
  subst hS;exact qwn d)
 have hC:OrcOK prog (orc (qwv (qwu d))):=hC0
 refine q9t (c:=qea f24) (fn:=f24) hT (by kernel_rfl) (by kernel_rfl) (by decide) fun x r h w0 φ0 Q hend=>?_
 replace h:qyy d x=some r:=h
 unfold qyy at h
 show Run prog w0 φ0 102 (qea f24) ⟨[(0,.agg [.int .i64 x.1.1,.fz Riii x.1.2.1])],[]⟩ Q
 refine q344 hm hT hC (qx1 (qwu d) (x.1.1,x.1.2.1)) h fun y0 h=>?_
 refine q344 hm hT hC (qx5 (qwu d) y0) h fun y1 h=>?_
 refine q9d ?_
 refine q344 hm hT hC (qx9 (qwu d) y1) h fun y2 h=>?_
 refine q9h (v:=y2.2.1) (by kernel_rfl) h ?_ ?_
 ·
  intro h
  refine q344 hm hT hC (qxd (qwu d) y2) h fun y3 h=>?_
  refine q9c (q91 ?_)
  cases h
  exact (hend _ (by kernel_rfl)).2
 ·
  intro h
  refine q99 (q8z (q9d ?_))
  refine q344 hm hT hC (qxh (qwu d) y2) h fun y4 h=>?_
  refine q9h (v:=y4.2.1) (by kernel_rfl) h ?_ ?_
  ·
   intro h
   refine q344 hm hT hC (qxj (qwu d) y4) h fun y5 h=>?_
   refine q9c (q91 ?_)
   cases h
   exact (hend _ (by kernel_rfl)).2
  ·
   intro h
   refine q99 (q8z (q9d ?_))
   refine q344 hm hT hC (qxn (qwu d) y4) h fun y6 h=>?_
   refine q9e ?_
   refine q9j (G:=iter (qyx d )) (S:=(fun x1=>⟨[(1,.ptr 0 0),(3,i6 x1.1),(32,.fz Riii x1.2.1),(33,i6 x1.2.2.1),(34,i6 x1.2.2.2.1)],[.cells [i6 x1.2.2.2.2.1,.fz Riii x1.2.2.2.2.2]]⟩:Int×List Diii×Int×Int×Int×List Diii→St)) (fun _=>rfl) ?_ d _ h
   intro n1 x1 h K1 hn1
   replace h:qyx d  (iter (qyx d ) n1) x1=some r:=h
   generalize iter (qyx d ) n1=self1 at h hn1
   unfold qyx at h
   refine q344 hm hT hC (qxr (qwu d) x1) h fun y7 h=>?_
   refine q9d ?_
   refine q9h (v:=y7.2.2.2.2.1) (by kernel_rfl) h ?_ ?_
   ·
    intro h
    refine q99 (q8z (q9d (q9e ?_)))
    refine q344 hm hT hC (qxv (qwu d) y7) h fun y8 h=>?_
    refine q344 hm hT hC (qxz (qwu d) y8) h fun y9 h=>?_
    refine q9h (v:=y9.2.2.2.2.1) (by kernel_rfl) h ?_ ?_
    ·
     intro h
     refine q344 hm hT hC (qy1 (qwu d) y9) h fun y10 h=>?_
     refine q9c (q93 (q91 (q91 (q93 (q91 ?_)))))
     cases h
     exact (hend _ (by kernel_rfl)).2
    ·
     intro h
     refine q99 (q92 (q8z ?_))
     refine q9i hm hT hC (qy3 (qwu d) y9) h ?_
     intro y11 h
     exact hn1 _ h
   ·
    intro h
    refine q9b (q90 (q90 (q94 (q8z ?_))))
    refine q344 hm hT hC (qy7 (qwu d) y7) h fun y12 h=>?_
    refine q9d ?_
    refine q344 hm hT hC (qyb (qwu d) y12) h fun y13 h=>?_
    refine q9h (v:=y13.2.1) (by kernel_rfl) h ?_ ?_
    ·
     intro h
     refine q344 hm hT hC (qyd (qwu d) y13) h fun y14 h=>?_
     refine q9c (q91 ?_)
     cases h
     exact (hend _ (by kernel_rfl)).2
    ·
     intro h
     refine q99 (q8z (q9d ?_))
     refine q344 hm hT hC (qyh (qwu d) y13) h fun y15 h=>?_
     refine q9e ?_
     refine q9j (G:=iter (qyw d )) (S:=(fun x2=>⟨[(1,.ptr 0 0),(3,i6 x2.1),(6,.rs 1),(8,i6 x2.2.1)],[.cells [i6 x2.2.2.1,.fz Riii x2.2.2.2.1],.rows Ri x2.2.2.2.2]⟩:Int×Int×Int×List Diii×List Di→St)) (fun _=>rfl) ?_ d _ h
     intro n2 x2 h K2 hn2
     replace h:qyw d  (iter (qyw d ) n2) x2=some r:=h
     generalize iter (qyw d ) n2=self2 at h hn2
     unfold qyw at h
     refine q9d ?_
     refine q344 hm hT hC (qyl (qwu d) x2) h fun y16 h=>?_
     refine q9h (v:=y16.2.2.1) (by kernel_rfl) h ?_ ?_
     ·
      intro h
      refine q99 (q8z (q9d (q9e ?_)))
      refine q344 hm hT hC (qyp (qwu d) y16) h fun y18 h=>?_
      refine q9h (v:=y18.2.2.1) (by kernel_rfl) h ?_ ?_
      ·
       intro h
       refine q344 hm hT hC (qyr (qwu d) y18) h fun y19 h=>?_
       refine q9c (q93 (q91 (q91 (q93 (q91 ?_)))))
       cases h
       exact (hend _ (by kernel_rfl)).2
      ·
       intro h
       refine q99 (q92 (q8z ?_))
       refine q9i hm hT hC (qyt (qwu d) y18) h ?_
       intro y17 h
       exact hn2 _ h
     ·
      intro h
      refine q9b (q90 (q90 (q94 (q8z ?_))))
      refine q344 hm hT hC (qyv (qwu d) y16) h fun y20 h=>?_
      refine q9c ?_
      cases h
      exact (hend _ (by kernel_rfl)).2
abbrev q10f:List Pk:=[.row qkv true,.row Ri false]
abbrev q10g:Type:=qkw×Di×Unit
abbrev q10h:Type:=Int×Int
def q10i (r:q10h):LV×List Ob:=(.tup [.int .i64 r.1,.int .i64 r.2],[])
def q10j (F:q10g→Option q10h):Go.Tx.Spec:=⟨19,q10f,q10h,F,q10i⟩
abbrev q10k:Type:=(qwp→Option qwq)×Unit
def q10l (d:Nat):q10k:=(qyy d,())
def q10m (C:q10k):List Go.Tx.Spec:=[qws C.1]
abbrev q10n:Type:=Int×List Diii×Int
def q10o (v:q10n):St:=⟨[(0,.agg [i6 v.1,.fz Riii v.2.1]),(1,i6 v.2.2)],[]⟩
abbrev q10p:Type:=Int×Int×List Diii
def q10q (v:q10p):St:=⟨[(1,i6 v.1),(2,.ptr 0 0)],[.cells [i6 v.2.1,.fz Riii v.2.2]]⟩
def q10r (C:q10k) (v:q10n):Dt q10p:=(Dt.ret (v.2.2,v.1,v.2.1))
abbrev q348 {V Y:Type}:=@rg q10k V Y tysT (fun C=>(orc (q10m C))) 41
theorem q10s C v:q348 (regO (qea f19) 0) false [(1,.any),(2,(.box [.any,.val Riii]))] q10o q10r q10q C v:=rgI (by kernel_rfl)
abbrev q10t:Type:=Int×Int×Int×List Diii
def q10u (v:q10t):St:=⟨[(1,i6 v.1),(2,.ptr 0 0),(6,i6 v.2.1)],[.cells [i6 v.2.2.1,.fz Riii v.2.2.2]]⟩
def q10v (C:q10k) (v:q10p):Dt q10t:=(Dt.bnd (C.1 ((v.2.1,v.2.2,()),())) fun r1=>(Dt.ret (v.1,r1,v.2.1,v.2.2)))
theorem q10w C v:q348 (regO (qea f19) 1) false [(1,.any),(2,(.box [.any,.val Riii])),(6,.any)] q10q q10v q10u C v:=rgI (by kernel_rfl)
abbrev q10x:Type:=Int×Int×Bool×Int×List Diii
def q10y (v:q10x):St:=⟨[(1,i6 v.1),(2,.ptr 0 0),(6,i6 v.2.1),(13,.bool v.2.2.1)],[.cells [i6 v.2.2.2.1,.fz Riii v.2.2.2.2]]⟩
def q10z (C:q10k) (v:q10t):Dt q10x:=(Dt.ret (v.1,v.2.1,(v.2.1 != (0:Int)),v.2.2.1,v.2.2.2))
theorem q110 C v:q348 (regO (qea f19) 2) false [(1,.any),(2,(.box [.any,.val Riii])),(6,.any),(13,.any)] q10u q10z q10y C v:=rgI (by kernel_rfl)
abbrev q111:Type:=Int×Int
def q112 (v:q111):St:=⟨[(4,i6 v.1),(5,i6 v.2)],[]⟩
def q113 (C:q10k) (v:q10x):Dt q111:=(Dt.ret ((0:Int),v.2.1))
theorem q114 C v:q348 (regO (qea f19) 3) false (an [4,5]) q10y q113 q112 C v:=rgI (by kernel_rfl)
abbrev q115:Type:=Int×Int×Int×List Diii
def q116 (v:q115):St:=⟨[(1,i6 v.1),(2,.ptr 0 0),(7,i6 v.2.1)],[.cells [i6 v.2.2.1,.fz Riii v.2.2.2]]⟩
def q117 (C:q10k) (v:q10x):Dt q115:=(Dt.ret (v.1,(0:Int),v.2.2.2.1,v.2.2.2.2))
theorem q118 C v:q348 (regO (qea f19) 4) false [(1,.any),(2,(.box [.any,.val Riii])),(7,.any)] q10y q117 q116 C v:=rgI (by kernel_rfl)
abbrev q119:Type:=Int×Int×Int×Int×List Diii
def q11a (v:q119):St:=⟨[(1,i6 v.1),(2,.ptr 0 0),(7,i6 v.2.1),(8,i6 v.2.2.1)],[.cells [i6 v.2.2.2.1,.fz Riii v.2.2.2.2]]⟩
def q11b (C:q10k) (v:q115):Dt q119:=(Dt.ret (v.1,v.2.1,v.2.2.1,v.2.2.1,v.2.2.2))
theorem q11c C v:q348 (regO (qea f19) 5) false [(1,.any),(2,(.box [.any,.val Riii])),(7,.any),(8,.any)] q116 q11b q11a C v:=rgI (by kernel_rfl)
abbrev q11d:Type:=Int×Int×Int×Bool×Int×List Diii
def q11e (v:q11d):St:=⟨[(1,i6 v.1),(2,.ptr 0 0),(7,i6 v.2.1),(8,i6 v.2.2.1),(18,.bool v.2.2.2.1)],[.cells [i6 v.2.2.2.2.1,.fz Riii v.2.2.2.2.2]]⟩
def q11f (C:q10k) (v:q119):Dt q11d:=(Dt.ret (v.1,v.2.1,v.2.2.1,(decide (v.2.2.1≥(0:Int))),v.2.2.2.1,v.2.2.2.2))
theorem q11g C v:q348 (regO (qea f19) 6) false [(1,.any),(2,(.box [.any,.val Riii])),(7,.any),(8,.any),(18,.any)] q11a q11f q11e C v:=rgI (by kernel_rfl)
abbrev q11h:Type:=Int×Int×Int×List Diii×Int×Int×Int
def q11i (v:q11h):St:=⟨[(1,i6 v.1),(2,.ptr 0 0),(7,i6 v.2.1),(9,.ptr 1 0)],[.cells [i6 v.2.2.1,.fz Riii v.2.2.2.1],.cells [i6 v.2.2.2.2.1,i6 v.2.2.2.2.2.1,i6 v.2.2.2.2.2.2]]⟩
def q11j (C:q10k) (v:q11d):Dt q11h:=(Dt.ite (inB v.2.2.1 (List.length v.2.2.2.2.2)) (Dt.ret (v.1,v.2.1,v.2.2.2.2.1,v.2.2.2.2.2,(elt ziii v.2.2.2.2.2 (v.2.2.1).toNat).1,(elt ziii v.2.2.2.2.2 (v.2.2.1).toNat).2.1,(elt ziii v.2.2.2.2.2 (v.2.2.1).toNat).2.2.1)) Dt.fail)
theorem q11k C v:q348 (regO (qea f19) 8) false [(1,.any),(2,(.box [.any,.val Riii])),(7,.any),(9,.any)] q11e q11j q11i C v:=rgI (by kernel_rfl)
abbrev q11l:Type:=Int×Int×Bool×Int×List Diii×Int×Int×Int
def q11m (v:q11l):St:=⟨[(1,i6 v.1),(2,.ptr 0 0),(7,i6 v.2.1),(9,.ptr 1 0),(28,.bool v.2.2.1)],[.cells [i6 v.2.2.2.1,.fz Riii v.2.2.2.2.1],.cells [i6 v.2.2.2.2.2.1,i6 v.2.2.2.2.2.2.1,i6 v.2.2.2.2.2.2.2]]⟩
def q11n (C:q10k) (v:q11h):Dt q11l:=(Dt.ret (v.1,v.2.1,(v.1 == v.2.2.2.2.1),v.2.2.1,v.2.2.2.1,v.2.2.2.2.1,v.2.2.2.2.2.1,v.2.2.2.2.2.2))
theorem q11o C v:q348 (regO (qea f19) 10) false [(1,.any),(2,(.box [.any,.val Riii])),(7,.any),(9,.any),(28,.any)] q11i q11n q11m C v:=rgI (by kernel_rfl)
def q11p (C:q10k) (v:q11l):Dt q111:=(Dt.ret (v.2.1,(0:Int)))
theorem q11q C v:q348 (regO (qea f19) 11) false (an [4,5]) q11m q11p q112 C v:=rgI (by kernel_rfl)
abbrev q11r:Type:=Int×Int×Bool×Int×List Diii×Int×Int×Int
def q11s (v:q11r):St:=⟨[(1,i6 v.1),(2,.ptr 0 0),(7,i6 v.2.1),(9,.ptr 1 0),(34,.bool v.2.2.1)],[.cells [i6 v.2.2.2.1,.fz Riii v.2.2.2.2.1],.cells [i6 v.2.2.2.2.2.1,i6 v.2.2.2.2.2.2.1,i6 v.2.2.2.2.2.2.2]]⟩
def q11t (C:q10k) (v:q11l):Dt q11r:=(Dt.ret (v.1,v.2.1,(decide (v.1<v.2.2.2.2.2.1)),v.2.2.2.1,v.2.2.2.2.1,v.2.2.2.2.2.1,v.2.2.2.2.2.2.1,v.2.2.2.2.2.2.2))
theorem q11u C v:q348 (regO (qea f19) 12) false [(1,.any),(2,(.box [.any,.val Riii])),(7,.any),(9,.any),(34,.any)] q11m q11t q11s C v:=rgI (by kernel_rfl)
def q11v (C:q10k) (v:q11r):Dt q119:=(Dt.ret (v.1,v.2.1,v.2.2.2.2.2.2.1,v.2.2.2.1,v.2.2.2.2.1))
theorem q11w C v:q348 (regO (qea f19) 13) false [(1,.any),(2,(.box [.any,.val Riii])),(7,.any),(8,.any)] q11s q11v q11a C v:=rgI (by kernel_rfl)
def q11x (C:q10k) (v:q119):Dt q119:=(Dt.ret (v.1,(IntKind.wrap .i64 (v.2.1+(1:Int))),v.2.2.1,v.2.2.2.1,v.2.2.2.2))
theorem q11y C v:q348 (regO (qea f19) 7) false [(1,.any),(2,(.box [.any,.val Riii])),(7,.any),(8,.any)] q11a q11x q11a C v:=rgI (by kernel_rfl)
def q11z  (d:Nat) (self1:(Int×Int×Int×Int×List Diii)→Option q10h) (z:Int×Int×Int×Int×List Diii):Option (q10h) :=
 (q11x (q10l d) z).eval fun y7 =>
 self1 y7
def q120 (C:q10k) (v:q11r):Dt q119:=(Dt.ret (v.1,v.2.1,v.2.2.2.2.2.2.2,v.2.2.2.1,v.2.2.2.2.1))
theorem q121 C v:q348 (regO (qea f19) 9) false [(1,.any),(2,(.box [.any,.val Riii])),(7,.any),(8,.any)] q11s q120 q11a C v:=rgI (by kernel_rfl)
def q122 (C:q10k) (v:q11d):Dt q111:=(Dt.ret ((0:Int),(6:Int)))
theorem q123 C v:q348 (regO (qea f19) 14) false (an [4,5]) q11e q122 q112 C v:=rgI (by kernel_rfl)
def q124 (d:Nat) (self1:(Int×Int×Int×Int×List Diii)→Option q10h) (x1:Int×Int×Int×Int×List Diii):Option q10h :=
 (q11f (q10l d) x1).eval fun y6 =>
 bif y6.2.2.2.1 then ((q11j (q10l d) y6).eval fun y8 =>
 (q11n (q10l d) y8).eval fun y10 =>
 bif y10.2.2.1 then ((q11p (q10l d) y10).eval fun y11 =>
 some y11) else ((q11t (q10l d) y10).eval fun y12 =>
 bif y12.2.2.1 then ((q11v (q10l d) y12).eval fun y13 =>
 q11z d self1 y13) else ((q120 (q10l d) y12).eval fun y9 =>
 q11z d self1 y9))) else ((q122 (q10l d) y6).eval fun y14 =>
 some y14)
def q125 (d:Nat) (x:q10g):Option q10h :=
 (q10r (q10l d) (x.1.1,x.1.2.1,x.2.1.1)).eval fun y0 =>
 (q10v (q10l d) y0).eval fun y1 =>
 (q10z (q10l d) y1).eval fun y2 =>
 bif y2.2.2.1 then ((q113 (q10l d) y2).eval fun y3 =>
 some y3) else ((q117 (q10l d) y2).eval fun y4 =>
 (q11b (q10l d) y4).eval fun y5 =>
 iter (q124 d ) d y5)
theorem q126 (d:Nat):COK prog (q10j (q125 d)):=by
 have hm:prog.follows .mixedOrders=true:=mixed
 have hT:=tys
 have hC0:OrcOK prog (orc (q10m (q10l d))):=qe4 (by
  intro S hS
  simp only [q10m,List.mem_cons,List.not_mem_nil,or_false] at hS
  subst hS;exact qyz d)
 have hC:OrcOK prog (orc (q10m (q10l d))):=hC0
 refine q9t (c:=qea f19) (fn:=f19) hT (by kernel_rfl) (by kernel_rfl) (by decide) fun x r h w0 φ0 Q hend=>?_
 replace h:q125 d x=some r:=h
 unfold q125 at h
 show Run prog w0 φ0 41 (qea f19) ⟨[(0,.agg [.int .i64 x.1.1,.fz Riii x.1.2.1]),(1,.int .i64 x.2.1.1)],[]⟩ Q
 refine q344 hm hT hC (q10s (q10l d) (x.1.1,x.1.2.1,x.2.1.1)) h fun y0 h=>?_
 refine q9d ?_
 refine q344 hm hT hC (q10w (q10l d) y0) h fun y1 h=>?_
 refine q344 hm hT hC (q110 (q10l d) y1) h fun y2 h=>?_
 refine q9h (v:=y2.2.2.1) (by kernel_rfl) h ?_ ?_
 ·
  intro h
  refine q344 hm hT hC (q114 (q10l d) y2) h fun y3 h=>?_
  refine q9c (q91 ?_)
  cases h
  exact (hend _ (by kernel_rfl)).2
 ·
  intro h
  refine q99 (q8z ?_)
  refine q344 hm hT hC (q118 (q10l d) y2) h fun y4 h=>?_
  refine q9d ?_
  refine q344 hm hT hC (q11c (q10l d) y4) h fun y5 h=>?_
  refine q9e ?_
  refine q9j (G:=iter (q124 d )) (S:=(fun x1=>⟨[(1,i6 x1.1),(2,.ptr 0 0),(7,i6 x1.2.1),(8,i6 x1.2.2.1)],[.cells [i6 x1.2.2.2.1,.fz Riii x1.2.2.2.2]]⟩:Int×Int×Int×Int×List Diii→St)) (fun _=>rfl) ?_ d _ h
  intro n1 x1 h K1 hn1
  replace h:q124 d  (iter (q124 d ) n1) x1=some r:=h
  generalize iter (q124 d ) n1=self1 at h hn1
  unfold q124 at h
  refine q9d ?_
  refine q344 hm hT hC (q11g (q10l d) x1) h fun y6 h=>?_
  refine q9h (v:=y6.2.2.2.1) (by kernel_rfl) h ?_ ?_
  ·
   intro h
   refine q99 (q8z ?_)
   refine q9g (r:=r) (F:=q11z d self1) (S:=(fun z=>⟨[(1,i6 z.1),(2,.ptr 0 0),(7,i6 z.2.1),(8,i6 z.2.2.1)],[.cells [i6 z.2.2.2.1,.fz Riii z.2.2.2.2]]⟩:Int×Int×Int×Int×List Diii→St)) ?_ ?_
   ·
    intro z h
    unfold q11z at h
    refine q9i hm hT hC (q11y (q10l d) z) h ?_
    intro y7 h
    exact hn1 _ h
   intro hj2
   refine q9e ?_
   refine q344 hm hT hC (q11k (q10l d) y6) h fun y8 h=>?_
   refine q9e ?_
   refine q344 hm hT hC (q11o (q10l d) y8) h fun y10 h=>?_
   refine q9h (v:=y10.2.2.1) (by kernel_rfl) h ?_ ?_
   ·
    intro h
    refine q344 hm hT hC (q11q (q10l d) y10) h fun y11 h=>?_
    refine q9c (q93 (q93 (q91 (q91 (q93 (q91 ?_))))))
    cases h
    exact (hend _ (by kernel_rfl)).2
   ·
    intro h
    refine q344 hm hT hC (q11u (q10l d) y10) h fun y12 h=>?_
    refine q9h (v:=y12.2.2.1) (by kernel_rfl) h ?_ ?_
    ·
     intro h
     refine q9i hm hT hC (q11w (q10l d) y12) h ?_
     intro y13 h
     refine q92 (q92 ?_)
     exact hj2 _ h
    ·
     intro h
     refine q9i hm hT hC (q121 (q10l d) y12) h ?_
     intro y9 h
     refine q92 (q92 ?_)
     exact hj2 _ h
  ·
   intro h
   refine q9b (q90 (q90 (q94 (q8z ?_))))
   refine q344 hm hT hC (q123 (q10l d) y6) h fun y14 h=>?_
   refine q9c ?_
   cases h
   exact (hend _ (by kernel_rfl)).2
abbrev q127:List Pk:=[.row qks true,.row Rii true]
abbrev q128:Type:=qkt×Dii×Unit
abbrev q129:Type:=Int
def q12a (r:q129):LV×List Ob:=(.int .i64 r,[])
def q12b (F:q128→Option q129):Go.Tx.Spec:=⟨45,q127,q129,F,q12a⟩
abbrev q12c:Type:=(qqb→Option qqc)×(qob→Option qoc)×Unit
def q12d (d:Nat):q12c:=(qqg d,qog d,())
def q12e (C:q12c):List Go.Tx.Spec:=[qqe C.1,qoe C.2.1]
abbrev q12f:Type:=List Diii×Int×Int
def q12g (v:q12f):St:=⟨[(0,.agg [.fz Riii v.1]),(1,.agg [i6 v.2.1,i6 v.2.2])],[]⟩
abbrev q12h:Type:=List Diii×Int×Int
def q12i (v:q12h):St:=⟨[(2,.ptr 0 0),(3,.ptr 1 0)],[.cells [.fz Riii v.1],.cells [i6 v.2.1,i6 v.2.2]]⟩
def q12j (C:q12c) (v:q12f):Dt q12h:=(Dt.ret (v.1,v.2.1,v.2.2))
abbrev q349 {V Y:Type}:=@rg q12c V Y tysT (fun C=>(orc (q12e C))) 13
theorem q12k C v:q349 (regO (qea f45) 0) false [(2,(.box [.val Riii])),(3,.any)] q12g q12j q12i C v:=rgI (by kernel_rfl)
abbrev q12l:Type:=Int×Int×Int
def q12m (v:q12l):St:=⟨[(3,.ptr 0 0),(5,i6 v.1)],[.cells [i6 v.2.1,i6 v.2.2]]⟩
def q12n (C:q12c) (v:q12h):Dt q12l:=(Dt.bnd (C.1 ((v.1,()),())) fun r1=>(Dt.ret (r1,v.2.1,v.2.2)))
theorem q12o C v:q349 (regO (qea f45) 1) false (an [3,5]) q12i q12n q12m C v:=rgI (by kernel_rfl)
abbrev q12p:Type:=Int×Bool×Int×Int
def q12q (v:q12p):St:=⟨[(3,.ptr 0 0),(5,i6 v.1),(9,.bool v.2.1)],[.cells [i6 v.2.2.1,i6 v.2.2.2]]⟩
def q12r (C:q12c) (v:q12l):Dt q12p:=(Dt.ret (v.1,(v.1 != (0:Int)),v.2.1,v.2.2))
theorem q12s C v:q349 (regO (qea f45) 2) false (an [3,5,9]) q12m q12r q12q C v:=rgI (by kernel_rfl)
abbrev q12t:Type:=Int
def q12u (v:q12t):St:=⟨[(4,i6 v)],[]⟩
def q12v (C:q12c) (v:q12p):Dt q12t:=(Dt.ret v.1)
theorem q12w C v:q349 (regO (qea f45) 3) false [(4,.any)] q12q q12v q12u C v:=rgI (by kernel_rfl)
def q12x (C:q12c) (v:q12p):Dt q12t:=(Dt.bnd (C.2.1 ((v.2.2.1,v.2.2.2,()),())) fun r1=>(Dt.ret r1))
theorem q12y C v:q349 (regO (qea f45) 4) false [(4,.any)] q12q q12x q12u C v:=rgI (by kernel_rfl)
def q12z (d:Nat) (x:q128):Option q129 :=
 (q12j (q12d d) (x.1.1,x.2.1.1,x.2.1.2.1)).eval fun y0 =>
 (q12n (q12d d) y0).eval fun y1 =>
 (q12r (q12d d) y1).eval fun y2 =>
 bif y2.2.1 then ((q12v (q12d d) y2).eval fun y3 =>
 some y3) else ((q12x (q12d d) y2).eval fun y4 =>
 some y4)
theorem q130 (d:Nat):COK prog (q12b (q12z d)):=by
 have hm:prog.follows .mixedOrders=true:=mixed
 have hT:=tys
 have hC0:OrcOK prog (orc (q12e (q12d d))):=qe4 (by
  intro S hS
  simp only [q12e,List.mem_cons,List.not_mem_nil,or_false] at hS
  rcases hS with rfl | rfl
  · exact qqi d
  · exact qoi d)
 have hC:OrcOK prog (orc (q12e (q12d d))):=hC0
 refine q9t (c:=qea f45) (fn:=f45) hT (by kernel_rfl) (by kernel_rfl) (by decide) fun x r h w0 φ0 Q hend=>?_
 replace h:q12z d x=some r:=h
 unfold q12z at h
 show Run prog w0 φ0 13 (qea f45) ⟨[(0,.agg [.fz Riii x.1.1]),(1,.agg [.int .i64 x.2.1.1,.int .i64 x.2.1.2.1])],[]⟩ Q
 refine q344 hm hT hC (q12k (q12d d) (x.1.1,x.2.1.1,x.2.1.2.1)) h fun y0 h=>?_
 refine q9d ?_
 refine q344 hm hT hC (q12o (q12d d) y0) h fun y1 h=>?_
 refine q344 hm hT hC (q12s (q12d d) y1) h fun y2 h=>?_
 refine q9h (v:=y2.2.1) (by kernel_rfl) h ?_ ?_
 ·
  intro h
  refine q344 hm hT hC (q12w (q12d d) y2) h fun y3 h=>?_
  refine q9c (q91 ?_)
  cases h
  exact (hend _ (by kernel_rfl)).2
 ·
  intro h
  refine q99 (q8z ?_)
  refine q344 hm hT hC (q12y (q12d d) y2) h fun y4 h=>?_
  refine q9c ?_
  cases h
  exact (hend _ (by kernel_rfl)).2
abbrev q131:List Pk:=[.row qks true,.row Rii true]
abbrev q132:Type:=qkt×Dii×Unit
abbrev q133:Type:=Int×List Diii×Int
def q134 (r:q133):LV×List Ob:=(.tup [.agg [.int .i64 r.1,.rs 0],.int .i64 r.2.2],[.rows Riii r.2.1])
def q135 (F:q132→Option q133):Go.Tx.Spec:=⟨13,q131,q133,F,q134⟩
abbrev q136:Type:=(q128→Option q129)×(qpt→Option qpu)×Unit
def q137 (d:Nat):q136:=(q12z d,qpy d,())
def q138 (C:q136):List Go.Tx.Spec:=[q12b C.1,qpw C.2.1]
abbrev q139:Type:=List Diii×Int×Int
def q13a (v:q139):St:=⟨[(0,.agg [.fz Riii v.1]),(1,.agg [i6 v.2.1,i6 v.2.2])],[]⟩
abbrev q13b:Type:=List Diii×Int×Int×Int×List Diii
def q13c (v:q13b):St:=⟨[(2,.ptr 0 0),(3,.ptr 1 0),(4,.ptr 2 0)],[.cells [.fz Riii v.1],.cells [i6 v.2.1,i6 v.2.2.1],.cells [i6 v.2.2.2.1,.rs 3],.rows Riii v.2.2.2.2]⟩
def q13d (C:q136) (v:q139):Dt q13b:=(Dt.ret (v.1,v.2.1,v.2.2,(0:Int),([]:List Diii)))
theorem q13e (C:q136) (v:q139):treg (litT 39 tysT) (orc (q138 C)) 90 (regO (qea f13) 0) false [(2,(.box [.val Riii])),(3,.any),(4,(.box [.any,.own Riii]))] (q13a v) some=(q13d C v).eval fun y=>some (q13c y):=by kernel_rfl
abbrev q13f:Type:=Int×List Diii×Int×Int×Int×List Diii
def q13g (v:q13f):St:=⟨[(2,.ptr 0 0),(3,.ptr 1 0),(4,.ptr 2 0),(6,i6 v.1)],[.cells [.fz Riii v.2.1],.cells [i6 v.2.2.1,i6 v.2.2.2.1],.cells [i6 v.2.2.2.2.1,.rs 3],.rows Riii v.2.2.2.2.2]⟩
def q13h (C:q136) (v:q13b):Dt q13f:=(Dt.bnd (C.1 ((v.1,()),(v.2.1,v.2.2.1,()),())) fun r1=>(Dt.ret (r1,v.1,v.2.1,v.2.2.1,v.2.2.2.1,v.2.2.2.2)))
theorem q13i (C:q136) (v:q13b):treg (litT 39 tysT) (orc (q138 C)) 90 (regO (qea f13) 1) false [(2,(.box [.val Riii])),(3,.any),(4,(.box [.any,.own Riii])),(6,.any)] (q13c v) some=(q13h C v).eval fun y=>some (q13g y):=by kernel_rfl
abbrev q13j:Type:=Int×Bool×List Diii×Int×Int×Int×List Diii
def q13k (v:q13j):St:=⟨[(2,.ptr 0 0),(3,.ptr 1 0),(4,.ptr 2 0),(6,i6 v.1),(19,.bool v.2.1)],[.cells [.fz Riii v.2.2.1],.cells [i6 v.2.2.2.1,i6 v.2.2.2.2.1],.cells [i6 v.2.2.2.2.2.1,.rs 3],.rows Riii v.2.2.2.2.2.2]⟩
def q13l (C:q136) (v:q13f):Dt q13j:=(Dt.ret (v.1,(v.1 != (0:Int)),v.2.1,v.2.2.1,v.2.2.2.1,v.2.2.2.2.1,v.2.2.2.2.2))
theorem q13m (C:q136) (v:q13f):treg (litT 39 tysT) (orc (q138 C)) 90 (regO (qea f13) 2) false [(2,(.box [.val Riii])),(3,.any),(4,(.box [.any,.own Riii])),(6,.any),(19,.any)] (q13g v) some=(q13l C v).eval fun y=>some (q13k y):=by kernel_rfl
abbrev q13n:Type:=Int×Int×List Diii
def q13o (v:q13n):St:=⟨[(4,.ptr 0 0),(5,i6 v.1)],[.cells [i6 v.2.1,.rs 1],.rows Riii v.2.2]⟩
def q13p (C:q136) (v:q13j):Dt q13n:=(Dt.ret (v.1,(0:Int),([]:List Diii)))
theorem q13q (C:q136) (v:q13j):treg (litT 39 tysT) (orc (q138 C)) 90 (regO (qea f13) 3) false [(4,(.box [.any,.own Riii])),(5,.any)] (q13k v) some=(q13p C v).eval fun y=>some (q13o y):=by kernel_rfl
abbrev q13r:Type:=List Diii×Int×Int×Int×List Diii×Int×List Diii
def q13s (v:q13r):St:=⟨[(2,.ptr 0 0),(3,.ptr 1 0),(4,.ptr 2 0),(7,.ptr 4 0)],[.cells [.fz Riii v.1],.cells [i6 v.2.1,i6 v.2.2.1],.cells [i6 v.2.2.2.1,.rs 3],.rows Riii v.2.2.2.2.1,.cells [i6 v.2.2.2.2.2.1,.rs 5],.rows Riii v.2.2.2.2.2.2]⟩
def q13t (C:q136) (v:q13j):Dt q13r:=(Dt.ret (v.2.2.1,v.2.2.2.1,v.2.2.2.2.1,v.2.2.2.2.2.1,v.2.2.2.2.2.2,(-1:Int),([]:List Diii)))
theorem q13u (C:q136) (v:q13j):treg (litT 39 tysT) (orc (q138 C)) 90 (regO (qea f13) 4) false [(2,(.box [.val Riii])),(3,.any),(4,(.box [.any,.own Riii])),(7,(.box [.any,.own Riii]))] (q13k v) some=(q13t C v).eval fun y=>some (q13s y):=by kernel_rfl
abbrev q13v:Type:=List Diii×Int×Int×Int×List Diii×Int×List Diii×List Di
def q13w (v:q13v):St:=⟨[(2,.ptr 0 0),(3,.ptr 1 0),(4,.ptr 2 0),(7,.ptr 4 0),(8,.rs 6)],[.cells [.fz Riii v.1],.cells [i6 v.2.1,i6 v.2.2.1],.cells [i6 v.2.2.2.1,.rs 3],.rows Riii v.2.2.2.2.1,.cells [i6 v.2.2.2.2.2.1,.rs 5],.rows Riii v.2.2.2.2.2.2.1,.rows Ri v.2.2.2.2.2.2.2]⟩
def q13x (C:q136) (v:q13r):Dt q13v:=(Dt.ret (v.1,v.2.1,v.2.2.1,v.2.2.2.1,v.2.2.2.2.1,v.2.2.2.2.2.1,v.2.2.2.2.2.2,([]:List Di)))
theorem q13y (C:q136) (v:q13r):treg (litT 39 tysT) (orc (q138 C)) 90 (regO (qea f13) 5) false [(2,(.box [.val Riii])),(3,.any),(4,(.box [.any,.own Riii])),(7,(.box [.any,.own Riii])),(8,(.own Ri))] (q13s v) some=(q13x C v).eval fun y=>some (q13w y):=by kernel_rfl
abbrev q13z:Type:=List Diii×Int×Int×List Diii×Int×Int×Int×List Diii×Int×List Diii×List Di
def q140 (v:q13z):St:=⟨[(2,.ptr 0 0),(3,.ptr 1 0),(4,.ptr 2 0),(7,.ptr 4 0),(8,.rs 6),(24,.fz Riii v.1),(25,i6 v.2.1),(26,i6 v.2.2.1)],[.cells [.fz Riii v.2.2.2.1],.cells [i6 v.2.2.2.2.1,i6 v.2.2.2.2.2.1],.cells [i6 v.2.2.2.2.2.2.1,.rs 3],.rows Riii v.2.2.2.2.2.2.2.1,.cells [i6 v.2.2.2.2.2.2.2.2.1,.rs 5],.rows Riii v.2.2.2.2.2.2.2.2.2.1,.rows Ri v.2.2.2.2.2.2.2.2.2.2]⟩
def q141 (C:q136) (v:q13v):Dt q13z:=(Dt.ret (v.1,(List.length v.1:Int),(0:Int),v.1,v.2.1,v.2.2.1,v.2.2.2.1,v.2.2.2.2.1,v.2.2.2.2.2.1,v.2.2.2.2.2.2.1,v.2.2.2.2.2.2.2))
theorem q142 (C:q136) (v:q13v):treg (litT 39 tysT) (orc (q138 C)) 90 (regO (qea f13) 6) false [(2,(.box [.val Riii])),(3,.any),(4,(.box [.any,.own Riii])),(7,(.box [.any,.own Riii])),(8,(.own Ri)),(24,(.val Riii)),(25,.any),(26,.any)] (q13w v) some=(q141 C v).eval fun y=>some (q140 y):=by kernel_rfl
abbrev q143:Type:=List Diii×Int×Int×Bool×List Diii×Int×Int×Int×List Diii×Int×List Diii×List Di
def q144 (v:q143):St:=⟨[(2,.ptr 0 0),(3,.ptr 1 0),(4,.ptr 2 0),(7,.ptr 4 0),(8,.rs 6),(24,.fz Riii v.1),(25,i6 v.2.1),(26,i6 v.2.2.1),(27,.bool v.2.2.2.1)],[.cells [.fz Riii v.2.2.2.2.1],.cells [i6 v.2.2.2.2.2.1,i6 v.2.2.2.2.2.2.1],.cells [i6 v.2.2.2.2.2.2.2.1,.rs 3],.rows Riii v.2.2.2.2.2.2.2.2.1,.cells [i6 v.2.2.2.2.2.2.2.2.2.1,.rs 5],.rows Riii v.2.2.2.2.2.2.2.2.2.2.1,.rows Ri v.2.2.2.2.2.2.2.2.2.2.2]⟩
def q145 (C:q136) (v:q13z):Dt q143:=(Dt.ret (v.1,v.2.1,v.2.2.1,(decide (v.2.2.1<v.2.1)),v.2.2.2.1,v.2.2.2.2.1,v.2.2.2.2.2.1,v.2.2.2.2.2.2.1,v.2.2.2.2.2.2.2.1,v.2.2.2.2.2.2.2.2.1,v.2.2.2.2.2.2.2.2.2.1,v.2.2.2.2.2.2.2.2.2.2))
theorem q146 (C:q136) (v:q13z):treg (litT 39 tysT) (orc (q138 C)) 90 (regO (qea f13) 7) false [(2,(.box [.val Riii])),(3,.any),(4,(.box [.any,.own Riii])),(7,(.box [.any,.own Riii])),(8,(.own Ri)),(24,(.val Riii)),(25,.any),(26,.any),(27,.any)] (q140 v) some=(q145 C v).eval fun y=>some (q144 y):=by kernel_rfl
abbrev q147:Type:=Int×List Diii×Int×Int×List Diii×Int×Int×Int×List Diii×Int×List Diii×List Di×Int×Int×Int
def q148 (v:q147):St:=⟨[(2,.ptr 0 0),(3,.ptr 1 0),(4,.ptr 2 0),(7,.ptr 4 0),(8,.rs 6),(9,i6 v.1),(10,.ptr 7 0),(24,.fz Riii v.2.1),(25,i6 v.2.2.1),(26,i6 v.2.2.2.1)],[.cells [.fz Riii v.2.2.2.2.1],.cells [i6 v.2.2.2.2.2.1,i6 v.2.2.2.2.2.2.1],.cells [i6 v.2.2.2.2.2.2.2.1,.rs 3],.rows Riii v.2.2.2.2.2.2.2.2.1,.cells [i6 v.2.2.2.2.2.2.2.2.2.1,.rs 5],.rows Riii v.2.2.2.2.2.2.2.2.2.2.1,.rows Ri v.2.2.2.2.2.2.2.2.2.2.2.1,.cells [i6 v.2.2.2.2.2.2.2.2.2.2.2.2.1,i6 v.2.2.2.2.2.2.2.2.2.2.2.2.2.1,i6 v.2.2.2.2.2.2.2.2.2.2.2.2.2.2]]⟩
def q149 (C:q136) (v:q143):Dt q147:=(Dt.ite (inB v.2.2.1 (List.length v.1)) (Dt.ret (v.2.2.1,v.1,v.2.1,v.2.2.1,v.2.2.2.2.1,v.2.2.2.2.2.1,v.2.2.2.2.2.2.1,v.2.2.2.2.2.2.2.1,v.2.2.2.2.2.2.2.2.1,v.2.2.2.2.2.2.2.2.2.1,v.2.2.2.2.2.2.2.2.2.2.1,v.2.2.2.2.2.2.2.2.2.2.2,(elt ziii v.1 (v.2.2.1).toNat).1,(elt ziii v.1 (v.2.2.1).toNat).2.1,(elt ziii v.1 (v.2.2.1).toNat).2.2.1)) Dt.fail)
theorem q14a (C:q136) (v:q143):treg (litT 39 tysT) (orc (q138 C)) 90 (regO (qea f13) 8) false [(2,(.box [.val Riii])),(3,.any),(4,(.box [.any,.own Riii])),(7,(.box [.any,.own Riii])),(8,(.own Ri)),(9,.any),(10,.any),(24,(.val Riii)),(25,.any),(26,.any)] (q144 v) some=(q149 C v).eval fun y=>some (q148 y):=by kernel_rfl
abbrev q14b:Type:=Int×List Diii×Int×Int×List Diii×Int×Int×Int×List Diii×Int×List Diii×List Di×Int×Int×Int×Int×Int×Int
def q14c (v:q14b):St:=⟨[(2,.ptr 0 0),(3,.ptr 1 0),(4,.ptr 2 0),(7,.ptr 4 0),(8,.rs 6),(9,i6 v.1),(10,.ptr 7 0),(11,.ptr 8 0),(24,.fz Riii v.2.1),(25,i6 v.2.2.1),(26,i6 v.2.2.2.1)],[.cells [.fz Riii v.2.2.2.2.1],.cells [i6 v.2.2.2.2.2.1,i6 v.2.2.2.2.2.2.1],.cells [i6 v.2.2.2.2.2.2.2.1,.rs 3],.rows Riii v.2.2.2.2.2.2.2.2.1,.cells [i6 v.2.2.2.2.2.2.2.2.2.1,.rs 5],.rows Riii v.2.2.2.2.2.2.2.2.2.2.1,.rows Ri v.2.2.2.2.2.2.2.2.2.2.2.1,.cells [i6 v.2.2.2.2.2.2.2.2.2.2.2.2.1,i6 v.2.2.2.2.2.2.2.2.2.2.2.2.2.1,i6 v.2.2.2.2.2.2.2.2.2.2.2.2.2.2.1],.cells [i6 v.2.2.2.2.2.2.2.2.2.2.2.2.2.2.2.1,i6 v.2.2.2.2.2.2.2.2.2.2.2.2.2.2.2.2.1,i6 v.2.2.2.2.2.2.2.2.2.2.2.2.2.2.2.2.2]]⟩
def q14d (C:q136) (v:q147):Dt q14b:=(Dt.ret (v.1,v.2.1,v.2.2.1,v.2.2.2.1,v.2.2.2.2.1,v.2.2.2.2.2.1,v.2.2.2.2.2.2.1,v.2.2.2.2.2.2.2.1,v.2.2.2.2.2.2.2.2.1,v.2.2.2.2.2.2.2.2.2.1,v.2.2.2.2.2.2.2.2.2.2.1,v.2.2.2.2.2.2.2.2.2.2.2.1,v.2.2.2.2.2.2.2.2.2.2.2.2.1,v.2.2.2.2.2.2.2.2.2.2.2.2.2.1,v.2.2.2.2.2.2.2.2.2.2.2.2.2.2,v.2.2.2.2.2.2.2.2.2.2.2.2.1,(-1:Int),(-1:Int)))
theorem q14e (C:q136) (v:q147):treg (litT 39 tysT) (orc (q138 C)) 90 (regO (qea f13) 9) false [(2,(.box [.val Riii])),(3,.any),(4,(.box [.any,.own Riii])),(7,(.box [.any,.own Riii])),(8,(.own Ri)),(9,.any),(10,.any),(11,.any),(24,(.val Riii)),(25,.any),(26,.any)] (q148 v) some=(q14d C v).eval fun y=>some (q14c y):=by kernel_rfl
abbrev q14f:Type:=Int×List Diii×Int×Int×Bool×List Diii×Int×Int×Int×List Diii×Int×List Diii×List Di×Int×Int×Int×Int×Int×Int
def q14g (v:q14f):St:=⟨[(2,.ptr 0 0),(3,.ptr 1 0),(4,.ptr 2 0),(7,.ptr 4 0),(8,.rs 6),(9,i6 v.1),(10,.ptr 7 0),(11,.ptr 8 0),(24,.fz Riii v.2.1),(25,i6 v.2.2.1),(26,i6 v.2.2.2.1),(36,.bool v.2.2.2.2.1)],[.cells [.fz Riii v.2.2.2.2.2.1],.cells [i6 v.2.2.2.2.2.2.1,i6 v.2.2.2.2.2.2.2.1],.cells [i6 v.2.2.2.2.2.2.2.2.1,.rs 3],.rows Riii v.2.2.2.2.2.2.2.2.2.1,.cells [i6 v.2.2.2.2.2.2.2.2.2.2.1,.rs 5],.rows Riii v.2.2.2.2.2.2.2.2.2.2.2.1,.rows Ri v.2.2.2.2.2.2.2.2.2.2.2.2.1,.cells [i6 v.2.2.2.2.2.2.2.2.2.2.2.2.2.1,i6 v.2.2.2.2.2.2.2.2.2.2.2.2.2.2.1,i6 v.2.2.2.2.2.2.2.2.2.2.2.2.2.2.2.1],.cells [i6 v.2.2.2.2.2.2.2.2.2.2.2.2.2.2.2.2.1,i6 v.2.2.2.2.2.2.2.2.2.2.2.2.2.2.2.2.2.1,i6 v.2.2.2.2.2.2.2.2.2.2.2.2.2.2.2.2.2.2]]⟩
def q14h (C:q136) (v:q14b):Dt q14f:=(Dt.ret (v.1,v.2.1,v.2.2.1,v.2.2.2.1,(decide ((List.length v.2.2.2.2.2.2.2.2.2.2.2.1:Int) > (0:Int))),v.2.2.2.2.1,v.2.2.2.2.2.1,v.2.2.2.2.2.2.1,v.2.2.2.2.2.2.2.1,v.2.2.2.2.2.2.2.2.1,v.2.2.2.2.2.2.2.2.2.1,v.2.2.2.2.2.2.2.2.2.2.1,v.2.2.2.2.2.2.2.2.2.2.2.1,v.2.2.2.2.2.2.2.2.2.2.2.2.1,v.2.2.2.2.2.2.2.2.2.2.2.2.2.1,v.2.2.2.2.2.2.2.2.2.2.2.2.2.2.1,v.2.2.2.2.2.2.2.2.2.2.2.2.2.2.2.1,v.2.2.2.2.2.2.2.2.2.2.2.2.2.2.2.2.1,v.2.2.2.2.2.2.2.2.2.2.2.2.2.2.2.2.2))
theorem q14i (C:q136) (v:q14b):treg (litT 39 tysT) (orc (q138 C)) 90 (regO (qea f13) 10) false [(2,(.box [.val Riii])),(3,.any),(4,(.box [.any,.own Riii])),(7,(.box [.any,.own Riii])),(8,(.own Ri)),(9,.any),(10,.any),(11,.any),(24,(.val Riii)),(25,.any),(26,.any),(36,.any)] (q14c v) some=(q14h C v).eval fun y=>some (q14g y):=by kernel_rfl
abbrev q14j:Type:=Int×Int×List Diii×Int×Int×List Diii×Int×Int×Int×List Diii×Int×List Diii×List Di×Int×Int×Int×Int×Int×Int
def q14k (v:q14j):St:=⟨[(2,.ptr 0 0),(3,.ptr 1 0),(4,.ptr 2 0),(7,.ptr 4 0),(8,.rs 6),(9,i6 v.1),(10,.ptr 7 0),(11,.ptr 8 0),(12,i6 v.2.1),(24,.fz Riii v.2.2.1),(25,i6 v.2.2.2.1),(26,i6 v.2.2.2.2.1)],[.cells [.fz Riii v.2.2.2.2.2.1],.cells [i6 v.2.2.2.2.2.2.1,i6 v.2.2.2.2.2.2.2.1],.cells [i6 v.2.2.2.2.2.2.2.2.1,.rs 3],.rows Riii v.2.2.2.2.2.2.2.2.2.1,.cells [i6 v.2.2.2.2.2.2.2.2.2.2.1,.rs 5],.rows Riii v.2.2.2.2.2.2.2.2.2.2.2.1,.rows Ri v.2.2.2.2.2.2.2.2.2.2.2.2.1,.cells [i6 v.2.2.2.2.2.2.2.2.2.2.2.2.2.1,i6 v.2.2.2.2.2.2.2.2.2.2.2.2.2.2.1,i6 v.2.2.2.2.2.2.2.2.2.2.2.2.2.2.2.1],.cells [i6 v.2.2.2.2.2.2.2.2.2.2.2.2.2.2.2.2.1,i6 v.2.2.2.2.2.2.2.2.2.2.2.2.2.2.2.2.2.1,i6 v.2.2.2.2.2.2.2.2.2.2.2.2.2.2.2.2.2.2]]⟩
def q14l (C:q136) (v:q14f):Dt q14j:=(Dt.ite (inB (IntKind.wrap .i64 ((List.length v.2.2.2.2.2.2.2.2.2.2.2.2.1:Int) - (1:Int))) (List.length v.2.2.2.2.2.2.2.2.2.2.2.2.1)) (Dt.ret (v.1,(elt zi v.2.2.2.2.2.2.2.2.2.2.2.2.1 ((IntKind.wrap .i64 ((List.length v.2.2.2.2.2.2.2.2.2.2.2.2.1:Int) - (1:Int)))).toNat).1,v.2.1,v.2.2.1,v.2.2.2.1,v.2.2.2.2.2.1,v.2.2.2.2.2.2.1,v.2.2.2.2.2.2.2.1,v.2.2.2.2.2.2.2.2.1,v.2.2.2.2.2.2.2.2.2.1,v.2.2.2.2.2.2.2.2.2.2.1,v.2.2.2.2.2.2.2.2.2.2.2.1,v.2.2.2.2.2.2.2.2.2.2.2.2.1,v.2.2.2.2.2.2.2.2.2.2.2.2.2.1,v.2.2.2.2.2.2.2.2.2.2.2.2.2.2.1,v.2.2.2.2.2.2.2.2.2.2.2.2.2.2.2.1,v.2.2.2.2.2.2.2.2.2.2.2.2.2.2.2.2.1,v.2.2.2.2.2.2.2.2.2.2.2.2.2.2.2.2.2.1,v.2.2.2.2.2.2.2.2.2.2.2.2.2.2.2.2.2.2)) Dt.fail)
theorem q14m (C:q136) (v:q14f):treg (litT 39 tysT) (orc (q138 C)) 90 (regO (qea f13) 11) false [(2,(.box [.val Riii])),(3,.any),(4,(.box [.any,.own Riii])),(7,(.box [.any,.own Riii])),(8,(.own Ri)),(9,.any),(10,.any),(11,.any),(12,.any),(24,(.val Riii)),(25,.any),(26,.any)] (q14g v) some=(q14l C v).eval fun y=>some (q14k y):=by kernel_rfl
abbrev q14n:Type:=Int×Int×Bool×List Diii×Int×Int×List Diii×Int×Int×Int×List Diii×Int×List Diii×List Di×Int×Int×Int×Int×Int×Int
def q14o (v:q14n):St:=⟨[(2,.ptr 0 0),(3,.ptr 1 0),(4,.ptr 2 0),(7,.ptr 4 0),(8,.rs 6),(9,i6 v.1),(10,.ptr 7 0),(11,.ptr 8 0),(12,i6 v.2.1),(13,.bool v.2.2.1),(24,.fz Riii v.2.2.2.1),(25,i6 v.2.2.2.2.1),(26,i6 v.2.2.2.2.2.1)],[.cells [.fz Riii v.2.2.2.2.2.2.1],.cells [i6 v.2.2.2.2.2.2.2.1,i6 v.2.2.2.2.2.2.2.2.1],.cells [i6 v.2.2.2.2.2.2.2.2.2.1,.rs 3],.rows Riii v.2.2.2.2.2.2.2.2.2.2.1,.cells [i6 v.2.2.2.2.2.2.2.2.2.2.2.1,.rs 5],.rows Riii v.2.2.2.2.2.2.2.2.2.2.2.2.1,.rows Ri v.2.2.2.2.2.2.2.2.2.2.2.2.2.1,.cells [i6 v.2.2.2.2.2.2.2.2.2.2.2.2.2.2.1,i6 v.2.2.2.2.2.2.2.2.2.2.2.2.2.2.2.1,i6 v.2.2.2.2.2.2.2.2.2.2.2.2.2.2.2.2.1],.cells [i6 v.2.2.2.2.2.2.2.2.2.2.2.2.2.2.2.2.2.1,i6 v.2.2.2.2.2.2.2.2.2.2.2.2.2.2.2.2.2.2.1,i6 v.2.2.2.2.2.2.2.2.2.2.2.2.2.2.2.2.2.2.2]]⟩
def q14p (C:q136) (v:q14j):Dt q14n:=(Dt.ite (inB v.2.1 (List.length v.2.2.2.2.2.1)) (Dt.bnd (C.2.1 (((elt ziii v.2.2.2.2.2.1 (v.2.1).toNat).1,(elt ziii v.2.2.2.2.2.1 (v.2.1).toNat).2.1,(elt ziii v.2.2.2.2.2.1 (v.2.1).toNat).2.2.1,()),(v.2.2.2.2.2.2.2.2.2.2.2.2.2.1,v.2.2.2.2.2.2.2.2.2.2.2.2.2.2.1,v.2.2.2.2.2.2.2.2.2.2.2.2.2.2.2.1,()),(v.2.2.2.2.2.2.1,v.2.2.2.2.2.2.2.1,()),())) fun r1=>(Dt.ret (v.1,v.2.1,r1.1,v.2.2.1,v.2.2.2.1,v.2.2.2.2.1,v.2.2.2.2.2.1,v.2.2.2.2.2.2.1,v.2.2.2.2.2.2.2.1,v.2.2.2.2.2.2.2.2.1,v.2.2.2.2.2.2.2.2.2.1,v.2.2.2.2.2.2.2.2.2.2.1,v.2.2.2.2.2.2.2.2.2.2.2.1,v.2.2.2.2.2.2.2.2.2.2.2.2.1,v.2.2.2.2.2.2.2.2.2.2.2.2.2.1,v.2.2.2.2.2.2.2.2.2.2.2.2.2.2.1,v.2.2.2.2.2.2.2.2.2.2.2.2.2.2.2.1,v.2.2.2.2.2.2.2.2.2.2.2.2.2.2.2.2.1,v.2.2.2.2.2.2.2.2.2.2.2.2.2.2.2.2.2.1,v.2.2.2.2.2.2.2.2.2.2.2.2.2.2.2.2.2.2))) Dt.fail)
theorem q14q (C:q136) (v:q14j):treg (litT 39 tysT) (orc (q138 C)) 90 (regO (qea f13) 12) true [(2,(.box [.val Riii])),(3,.any),(4,(.box [.any,.own Riii])),(7,(.box [.any,.own Riii])),(8,(.own Ri)),(9,.any),(10,.any),(11,.any),(12,.any),(13,.any),(24,(.val Riii)),(25,.any),(26,.any)] (q14k v) some=(q14p C v).eval fun y=>some (q14o y):=by kernel_rfl
abbrev q14r:Type:=Int×Int×List Diii×Int×Int×Bool×List Diii×Int×Int×Int×List Diii×Int×List Diii×List Di×Int×Int×Int×Int×Int×Int
def q14s (v:q14r):St:=⟨[(2,.ptr 0 0),(3,.ptr 1 0),(4,.ptr 2 0),(7,.ptr 4 0),(8,.rs 6),(9,i6 v.1),(10,.ptr 7 0),(11,.ptr 8 0),(12,i6 v.2.1),(24,.fz Riii v.2.2.1),(25,i6 v.2.2.2.1),(26,i6 v.2.2.2.2.1),(54,.bool v.2.2.2.2.2.1)],[.cells [.fz Riii v.2.2.2.2.2.2.1],.cells [i6 v.2.2.2.2.2.2.2.1,i6 v.2.2.2.2.2.2.2.2.1],.cells [i6 v.2.2.2.2.2.2.2.2.2.1,.rs 3],.rows Riii v.2.2.2.2.2.2.2.2.2.2.1,.cells [i6 v.2.2.2.2.2.2.2.2.2.2.2.1,.rs 5],.rows Riii v.2.2.2.2.2.2.2.2.2.2.2.2.1,.rows Ri v.2.2.2.2.2.2.2.2.2.2.2.2.2.1,.cells [i6 v.2.2.2.2.2.2.2.2.2.2.2.2.2.2.1,i6 v.2.2.2.2.2.2.2.2.2.2.2.2.2.2.2.1,i6 v.2.2.2.2.2.2.2.2.2.2.2.2.2.2.2.2.1],.cells [i6 v.2.2.2.2.2.2.2.2.2.2.2.2.2.2.2.2.2.1,i6 v.2.2.2.2.2.2.2.2.2.2.2.2.2.2.2.2.2.2.1,i6 v.2.2.2.2.2.2.2.2.2.2.2.2.2.2.2.2.2.2.2]]⟩
def q14t (C:q136) (v:q14n):Dt q14r:=(Dt.ret (v.1,v.2.1,v.2.2.2.1,v.2.2.2.2.1,v.2.2.2.2.2.1,v.2.2.1,v.2.2.2.2.2.2.1,v.2.2.2.2.2.2.2.1,v.2.2.2.2.2.2.2.2.1,v.2.2.2.2.2.2.2.2.2.1,v.2.2.2.2.2.2.2.2.2.2.1,v.2.2.2.2.2.2.2.2.2.2.2.1,v.2.2.2.2.2.2.2.2.2.2.2.2.1,v.2.2.2.2.2.2.2.2.2.2.2.2.2.1,v.2.2.2.2.2.2.2.2.2.2.2.2.2.2.1,v.2.2.2.2.2.2.2.2.2.2.2.2.2.2.2.1,v.2.2.2.2.2.2.2.2.2.2.2.2.2.2.2.2.1,v.2.2.2.2.2.2.2.2.2.2.2.2.2.2.2.2.2.1,v.2.2.2.2.2.2.2.2.2.2.2.2.2.2.2.2.2.2.1,v.2.2.2.2.2.2.2.2.2.2.2.2.2.2.2.2.2.2.2))
theorem q14u (C:q136) (v:q14n):treg (litT 39 tysT) (orc (q138 C)) 90 (regO (qea f13) 13) false [(2,(.box [.val Riii])),(3,.any),(4,(.box [.any,.own Riii])),(7,(.box [.any,.own Riii])),(8,(.own Ri)),(9,.any),(10,.any),(11,.any),(12,.any),(24,(.val Riii)),(25,.any),(26,.any),(54,.any)] (q14o v) some=(q14t C v).eval fun y=>some (q14s y):=by kernel_rfl
abbrev q14v:Type:=Int×List Diii×Int×Int×Bool×List Diii×Int×Int×Int×List Diii×Int×List Diii×List Di×Int×Int×Int
def q14w (v:q14v):St:=⟨[(2,.ptr 0 0),(3,.ptr 1 0),(4,.ptr 2 0),(7,.ptr 4 0),(8,.rs 6),(9,i6 v.1),(11,.ptr 7 0),(24,.fz Riii v.2.1),(25,i6 v.2.2.1),(26,i6 v.2.2.2.1),(64,.bool v.2.2.2.2.1)],[.cells [.fz Riii v.2.2.2.2.2.1],.cells [i6 v.2.2.2.2.2.2.1,i6 v.2.2.2.2.2.2.2.1],.cells [i6 v.2.2.2.2.2.2.2.2.1,.rs 3],.rows Riii v.2.2.2.2.2.2.2.2.2.1,.cells [i6 v.2.2.2.2.2.2.2.2.2.2.1,.rs 5],.rows Riii v.2.2.2.2.2.2.2.2.2.2.2.1,.rows Ri v.2.2.2.2.2.2.2.2.2.2.2.2.1,.cells [i6 v.2.2.2.2.2.2.2.2.2.2.2.2.2.1,i6 v.2.2.2.2.2.2.2.2.2.2.2.2.2.2.1,i6 v.2.2.2.2.2.2.2.2.2.2.2.2.2.2.2]]⟩
def q14x (C:q136) (v:q14b):Dt q14v:=(Dt.ret (v.1,v.2.1,v.2.2.1,v.2.2.2.1,(decide ((List.length v.2.2.2.2.2.2.2.2.2.2.2.1:Int) > (0:Int))),v.2.2.2.2.1,v.2.2.2.2.2.1,v.2.2.2.2.2.2.1,v.2.2.2.2.2.2.2.1,v.2.2.2.2.2.2.2.2.1,v.2.2.2.2.2.2.2.2.2.1,v.2.2.2.2.2.2.2.2.2.2.1,v.2.2.2.2.2.2.2.2.2.2.2.1,v.2.2.2.2.2.2.2.2.2.2.2.2.2.2.2.1,v.2.2.2.2.2.2.2.2.2.2.2.2.2.2.2.2.1,v.2.2.2.2.2.2.2.2.2.2.2.2.2.2.2.2.2))
theorem q14y (C:q136) (v:q14b):treg (litT 39 tysT) (orc (q138 C)) 90 (regO (qea f13) 15) false [(2,(.box [.val Riii])),(3,.any),(4,(.box [.any,.own Riii])),(7,(.box [.any,.own Riii])),(8,(.own Ri)),(9,.any),(11,.any),(24,(.val Riii)),(25,.any),(26,.any),(64,.any)] (q14c v) some=(q14x C v).eval fun y=>some (q14w y):=by kernel_rfl
abbrev q14z:Type:=Int×List Diii×Int×Int×List Diii×Int×Int×Int×List Diii×Int×List Diii×List Di×Int×Int×Int
def q150 (v:q14z):St:=⟨[(2,.ptr 0 0),(3,.ptr 1 0),(4,.ptr 2 0),(7,.ptr 4 0),(8,.rs 6),(9,i6 v.1),(11,.ptr 7 0),(24,.fz Riii v.2.1),(25,i6 v.2.2.1),(26,i6 v.2.2.2.1)],[.cells [.fz Riii v.2.2.2.2.1],.cells [i6 v.2.2.2.2.2.1,i6 v.2.2.2.2.2.2.1],.cells [i6 v.2.2.2.2.2.2.2.1,.rs 3],.rows Riii v.2.2.2.2.2.2.2.2.1,.cells [i6 v.2.2.2.2.2.2.2.2.2.1,.rs 5],.rows Riii v.2.2.2.2.2.2.2.2.2.2.1,.rows Ri v.2.2.2.2.2.2.2.2.2.2.2.1,.cells [i6 v.2.2.2.2.2.2.2.2.2.2.2.2.1,i6 v.2.2.2.2.2.2.2.2.2.2.2.2.2.1,i6 v.2.2.2.2.2.2.2.2.2.2.2.2.2.2]]⟩
def q151 (C:q136) (v:q14v):Dt q14z:=(Dt.ite (inB (IntKind.wrap .i64 ((List.length v.2.2.2.2.2.2.2.2.2.2.2.2.1:Int) - (1:Int))) (List.length v.2.2.2.2.2.2.2.2.2.2.2.2.1)) (Dt.ite (inB (elt zi v.2.2.2.2.2.2.2.2.2.2.2.2.1 ((IntKind.wrap .i64 ((List.length v.2.2.2.2.2.2.2.2.2.2.2.2.1:Int) - (1:Int)))).toNat).1 (List.length v.2.2.2.2.2.2.2.2.2.2.2.1)) (Dt.ret (v.1,v.2.1,v.2.2.1,v.2.2.2.1,v.2.2.2.2.2.1,v.2.2.2.2.2.2.1,v.2.2.2.2.2.2.2.1,v.2.2.2.2.2.2.2.2.1,v.2.2.2.2.2.2.2.2.2.1,v.2.2.2.2.2.2.2.2.2.2.1,(List.set v.2.2.2.2.2.2.2.2.2.2.2.1 ((elt zi v.2.2.2.2.2.2.2.2.2.2.2.2.1 ((IntKind.wrap .i64 ((List.length v.2.2.2.2.2.2.2.2.2.2.2.2.1:Int) - (1:Int)))).toNat).1).toNat ((elt ziii v.2.2.2.2.2.2.2.2.2.2.2.1 ((elt zi v.2.2.2.2.2.2.2.2.2.2.2.2.1 ((IntKind.wrap .i64 ((List.length v.2.2.2.2.2.2.2.2.2.2.2.2.1:Int) - (1:Int)))).toNat).1).toNat).1,(elt ziii v.2.2.2.2.2.2.2.2.2.2.2.1 ((elt zi v.2.2.2.2.2.2.2.2.2.2.2.2.1 ((IntKind.wrap .i64 ((List.length v.2.2.2.2.2.2.2.2.2.2.2.2.1:Int) - (1:Int)))).toNat).1).toNat).2.1,v.1,())),v.2.2.2.2.2.2.2.2.2.2.2.2.1,v.2.2.2.2.2.2.2.2.2.2.2.2.2.1,v.2.2.2.2.2.2.2.2.2.2.2.2.2.2.1,v.2.2.2.2.2.2.2.2.2.2.2.2.2.2.2)) Dt.fail) Dt.fail)
theorem q152 (C:q136) (v:q14v):treg (litT 39 tysT) (orc (q138 C)) 90 (regO (qea f13) 16) true [(2,(.box [.val Riii])),(3,.any),(4,(.box [.any,.own Riii])),(7,(.box [.any,.own Riii])),(8,(.own Ri)),(9,.any),(11,.any),(24,(.val Riii)),(25,.any),(26,.any)] (q14w v) some=(q151 C v).eval fun y=>some (q150 y):=by kernel_rfl
def q153 (C:q136) (v:q14z):Dt q13z:=(Dt.ite (apB (List.length v.2.2.2.2.2.2.2.2.2.2.1) (List.length ([(v.2.2.2.2.2.2.2.2.2.2.2.2.1,v.2.2.2.2.2.2.2.2.2.2.2.2.2.1,v.2.2.2.2.2.2.2.2.2.2.2.2.2.2,())]:List Diii))) (Dt.ite (apB (List.length v.2.2.2.2.2.2.2.2.2.2.2.1) (List.length ([(v.1,())]:List Di))) (Dt.ret (v.2.1,v.2.2.1,v.2.2.2.1,v.2.2.2.2.1,v.2.2.2.2.2.1,v.2.2.2.2.2.2.1,v.2.2.2.2.2.2.2.1,v.2.2.2.2.2.2.2.2.1,v.2.2.2.2.2.2.2.2.2.1,(v.2.2.2.2.2.2.2.2.2.2.1++([(v.2.2.2.2.2.2.2.2.2.2.2.2.1,v.2.2.2.2.2.2.2.2.2.2.2.2.2.1,v.2.2.2.2.2.2.2.2.2.2.2.2.2.2,())]:List Diii)),(v.2.2.2.2.2.2.2.2.2.2.2.1++([(v.1,())]:List Di)))) Dt.fail) Dt.fail)
theorem q154 (C:q136) (v:q14z):treg (litT 39 tysT) (orc (q138 C)) 90 (regO (qea f13) 18) false [(2,(.box [.val Riii])),(3,.any),(4,(.box [.any,.own Riii])),(7,(.box [.any,.own Riii])),(8,(.own Ri)),(24,(.val Riii)),(25,.any),(26,.any)] (q150 v) some=(q153 C v).eval fun y=>some (q140 y):=by kernel_rfl
def q155 (C:q136) (v:q13z):Dt q13z:=(Dt.ret (v.1,v.2.1,(IntKind.wrap .i64 (v.2.2.1+(1:Int))),v.2.2.2.1,v.2.2.2.2.1,v.2.2.2.2.2.1,v.2.2.2.2.2.2.1,v.2.2.2.2.2.2.2.1,v.2.2.2.2.2.2.2.2.1,v.2.2.2.2.2.2.2.2.2.1,v.2.2.2.2.2.2.2.2.2.2))
theorem q156 (C:q136) (v:q13z):treg (litT 39 tysT) (orc (q138 C)) 90 (regO (qea f13) 19) false [(2,(.box [.val Riii])),(3,.any),(4,(.box [.any,.own Riii])),(7,(.box [.any,.own Riii])),(8,(.own Ri)),(24,(.val Riii)),(25,.any),(26,.any)] (q140 v) some=(q155 C v).eval fun y=>some (q140 y):=by kernel_rfl
def q157  (d:Nat) (self1:(List Diii×Int×Int×List Diii×Int×Int×Int×List Diii×Int×List Diii×List Di)→Option q133) (z:Int×List Diii×Int×Int×List Diii×Int×Int×Int×List Diii×Int×List Diii×List Di×Int×Int×Int):Option (q133) :=
 (q153 (q137 d) z).eval fun y18 =>
 (q155 (q137 d) y18).eval fun y19 =>
 self1 y19
def q158 (C:q136) (v:q14v):Dt q14z:=(Dt.ret (v.1,v.2.1,v.2.2.1,v.2.2.2.1,v.2.2.2.2.2.1,v.2.2.2.2.2.2.1,v.2.2.2.2.2.2.2.1,v.2.2.2.2.2.2.2.2.1,v.2.2.2.2.2.2.2.2.2.1,v.1,v.2.2.2.2.2.2.2.2.2.2.2.1,v.2.2.2.2.2.2.2.2.2.2.2.2.1,v.2.2.2.2.2.2.2.2.2.2.2.2.2.1,v.2.2.2.2.2.2.2.2.2.2.2.2.2.2.1,v.2.2.2.2.2.2.2.2.2.2.2.2.2.2.2))
theorem q159 (C:q136) (v:q14v):treg (litT 39 tysT) (orc (q138 C)) 90 (regO (qea f13) 17) false [(2,(.box [.val Riii])),(3,.any),(4,(.box [.any,.own Riii])),(7,(.box [.any,.own Riii])),(8,(.own Ri)),(9,.any),(11,.any),(24,(.val Riii)),(25,.any),(26,.any)] (q14w v) some=(q158 C v).eval fun y=>some (q150 y):=by kernel_rfl
def q15a  (d:Nat) (self1:(List Diii×Int×Int×List Diii×Int×Int×Int×List Diii×Int×List Diii×List Di)→Option q133) (z:Int×List Diii×Int×Int×List Diii×Int×Int×Int×List Diii×Int×List Diii×List Di×Int×Int×Int×Int×Int×Int):Option (q133) :=
 (q14x (q137 d) z).eval fun y15 =>
 bif y15.2.2.2.2.1 then ((q151 (q137 d) y15).eval fun y16 =>
 q157 d self1 y16) else ((q158 (q137 d) y15).eval fun y17 =>
 q157 d self1 y17)
def q15b (C:q136) (v:q14r):Dt q14b:=(Dt.ite (decide (0≤(IntKind.wrap .i64 ((List.length v.2.2.2.2.2.2.2.2.2.2.2.2.2.1:Int) - (1:Int))))&&decide ((IntKind.wrap .i64 ((List.length v.2.2.2.2.2.2.2.2.2.2.2.2.2.1:Int) - (1:Int)))≤(List.length v.2.2.2.2.2.2.2.2.2.2.2.2.2.1:Int))) (Dt.ret (v.1,v.2.2.1,v.2.2.2.1,v.2.2.2.2.1,v.2.2.2.2.2.2.1,v.2.2.2.2.2.2.2.1,v.2.2.2.2.2.2.2.2.1,v.2.2.2.2.2.2.2.2.2.1,v.2.2.2.2.2.2.2.2.2.2.1,v.2.2.2.2.2.2.2.2.2.2.2.1,v.2.2.2.2.2.2.2.2.2.2.2.2.1,(List.take ((IntKind.wrap .i64 ((List.length v.2.2.2.2.2.2.2.2.2.2.2.2.2.1:Int) - (1:Int)))).toNat v.2.2.2.2.2.2.2.2.2.2.2.2.2.1),v.2.2.2.2.2.2.2.2.2.2.2.2.2.2.1,v.2.2.2.2.2.2.2.2.2.2.2.2.2.2.2.1,v.2.2.2.2.2.2.2.2.2.2.2.2.2.2.2.2.1,v.2.2.2.2.2.2.2.2.2.2.2.2.2.2.2.2.2.1,v.2.1,v.2.2.2.2.2.2.2.2.2.2.2.2.2.2.2.2.2.2.2)) Dt.fail)
theorem q15c (C:q136) (v:q14r):treg (litT 39 tysT) (orc (q138 C)) 90 (regO (qea f13) 14) true [(2,(.box [.val Riii])),(3,.any),(4,(.box [.any,.own Riii])),(7,(.box [.any,.own Riii])),(8,(.own Ri)),(9,.any),(10,.any),(11,.any),(24,(.val Riii)),(25,.any),(26,.any)] (q14s v) some=(q15b C v).eval fun y=>some (q14c y):=by kernel_rfl
def q15d (d:Nat) (self1:(List Diii×Int×Int×List Diii×Int×Int×Int×List Diii×Int×List Diii×List Di)→Option q133) (self3:(Int×List Diii×Int×Int×List Diii×Int×Int×Int×List Diii×Int×List Diii×List Di×Int×Int×Int×Int×Int×Int)→Option q133) (x3:Int×List Diii×Int×Int×List Diii×Int×Int×Int×List Diii×Int×List Diii×List Di×Int×Int×Int×Int×Int×Int):Option q133 :=
 (q14h (q137 d) x3).eval fun y10 =>
 bif y10.2.2.2.2.1 then ((q14l (q137 d) y10).eval fun y11 =>
 (q14p (q137 d) y11).eval fun y12 =>
 (q14t (q137 d) y12).eval fun y13 =>
 bif y13.2.2.2.2.2.1 then (q15a d self1 (y13.1,y13.2.2.1,y13.2.2.2.1,y13.2.2.2.2.1,y13.2.2.2.2.2.2.1,y13.2.2.2.2.2.2.2.1,y13.2.2.2.2.2.2.2.2.1,y13.2.2.2.2.2.2.2.2.2.1,y13.2.2.2.2.2.2.2.2.2.2.1,y13.2.2.2.2.2.2.2.2.2.2.2.1,y13.2.2.2.2.2.2.2.2.2.2.2.2.1,y13.2.2.2.2.2.2.2.2.2.2.2.2.2.1,y13.2.2.2.2.2.2.2.2.2.2.2.2.2.2.1,y13.2.2.2.2.2.2.2.2.2.2.2.2.2.2.2.1,y13.2.2.2.2.2.2.2.2.2.2.2.2.2.2.2.2.1,y13.2.2.2.2.2.2.2.2.2.2.2.2.2.2.2.2.2.1,y13.2.2.2.2.2.2.2.2.2.2.2.2.2.2.2.2.2.2.1,y13.2.2.2.2.2.2.2.2.2.2.2.2.2.2.2.2.2.2.2)) else ((q15b (q137 d) y13).eval fun y14 =>
 self3 y14)) else (q15a d self1 (y10.1,y10.2.1,y10.2.2.1,y10.2.2.2.1,y10.2.2.2.2.2.1,y10.2.2.2.2.2.2.1,y10.2.2.2.2.2.2.2.1,y10.2.2.2.2.2.2.2.2.1,y10.2.2.2.2.2.2.2.2.2.1,y10.2.2.2.2.2.2.2.2.2.2.1,y10.2.2.2.2.2.2.2.2.2.2.2.1,y10.2.2.2.2.2.2.2.2.2.2.2.2.1,y10.2.2.2.2.2.2.2.2.2.2.2.2.2.1,y10.2.2.2.2.2.2.2.2.2.2.2.2.2.2.1,y10.2.2.2.2.2.2.2.2.2.2.2.2.2.2.2.1,y10.2.2.2.2.2.2.2.2.2.2.2.2.2.2.2.2.1,y10.2.2.2.2.2.2.2.2.2.2.2.2.2.2.2.2.2.1,y10.2.2.2.2.2.2.2.2.2.2.2.2.2.2.2.2.2.2))
def q15e (C:q136) (v:q143):Dt q13n:=(Dt.ret ((0:Int),v.2.2.2.2.2.2.2.2.2.1,v.2.2.2.2.2.2.2.2.2.2.1))
theorem q15f (C:q136) (v:q143):treg (litT 39 tysT) (orc (q138 C)) 90 (regO (qea f13) 20) false [(4,(.box [.any,.own Riii])),(5,.any)] (q144 v) some=(q15e C v).eval fun y=>some (q13o y):=by kernel_rfl
def q15g (d:Nat) (self1:(List Diii×Int×Int×List Diii×Int×Int×Int×List Diii×Int×List Diii×List Di)→Option q133) (x1:List Diii×Int×Int×List Diii×Int×Int×Int×List Diii×Int×List Diii×List Di):Option q133 :=
 (q145 (q137 d) x1).eval fun y7 =>
 bif y7.2.2.2.1 then ((q149 (q137 d) y7).eval fun y8 =>
 (q14d (q137 d) y8).eval fun y9 =>
 iter (q15d d self1) d y9) else ((q15e (q137 d) y7).eval fun y20 =>
 some (y20.2.1,y20.2.2,y20.1))
def q15h (d:Nat) (x:q132):Option q133 :=
 (q13d (q137 d) (x.1.1,x.2.1.1,x.2.1.2.1)).eval fun y0 =>
 (q13h (q137 d) y0).eval fun y1 =>
 (q13l (q137 d) y1).eval fun y2 =>
 bif y2.2.1 then ((q13p (q137 d) y2).eval fun y3 =>
 some (y3.2.1,y3.2.2,y3.1)) else ((q13t (q137 d) y2).eval fun y4 =>
 (q13x (q137 d) y4).eval fun y5 =>
 (q141 (q137 d) y5).eval fun y6 =>
 iter (q15g d ) d y6)
theorem q15i (d:Nat):COK prog (q135 (q15h d)):=by
 have hm:prog.follows .mixedOrders=true:=mixed
 have hT:=q1y tys 39
 have hC0:OrcOK prog (orc (q138 (q137 d))):=qe4 (by
  intro S hS
  simp only [q138,List.mem_cons,List.not_mem_nil,or_false] at hS
  rcases hS with rfl | rfl
  · exact q130 d
  · exact qq0 d)
 have hC:OrcOK prog (orc (q138 (q137 d))):=hC0
 refine q9t (c:=qea f13) (fn:=f13) hT (by kernel_rfl) (by kernel_rfl) (by decide) fun x r h w0 φ0 Q hend=>?_
 replace h:q15h d x=some r:=h
 unfold q15h at h
 show Run prog w0 φ0 90 (qea f13) ⟨[(0,.agg [.fz Riii x.1.1]),(1,.agg [.int .i64 x.2.1.1,.int .i64 x.2.1.2.1])],[]⟩ Q
 refine q344 hm hT hC (q13e (q137 d) (x.1.1,x.2.1.1,x.2.1.2.1)) h fun y0 h=>?_
 refine q9d ?_
 refine q344 hm hT hC (q13i (q137 d) y0) h fun y1 h=>?_
 refine q344 hm hT hC (q13m (q137 d) y1) h fun y2 h=>?_
 refine q9h (v:=y2.2.1) (by kernel_rfl) h ?_ ?_
 ·
  intro h
  refine q344 hm hT hC (q13q (q137 d) y2) h fun y3 h=>?_
  refine q9c (q91 ?_)
  cases h
  exact (hend _ (by kernel_rfl)).2
 ·
  intro h
  refine q99 (q8z ?_)
  refine q344 hm hT hC (q13u (q137 d) y2) h fun y4 h=>?_
  refine q344 hm hT hC (q13y (q137 d) y4) h fun y5 h=>?_
  refine q9d ?_
  refine q344 hm hT hC (q142 (q137 d) y5) h fun y6 h=>?_
  refine q9e ?_
  refine q9j (G:=iter (q15g d )) (S:=(fun x1=>⟨[(2,.ptr 0 0),(3,.ptr 1 0),(4,.ptr 2 0),(7,.ptr 4 0),(8,.rs 6),(24,.fz Riii x1.1),(25,i6 x1.2.1),(26,i6 x1.2.2.1)],[.cells [.fz Riii x1.2.2.2.1],.cells [i6 x1.2.2.2.2.1,i6 x1.2.2.2.2.2.1],.cells [i6 x1.2.2.2.2.2.2.1,.rs 3],.rows Riii x1.2.2.2.2.2.2.2.1,.cells [i6 x1.2.2.2.2.2.2.2.2.1,.rs 5],.rows Riii x1.2.2.2.2.2.2.2.2.2.1,.rows Ri x1.2.2.2.2.2.2.2.2.2.2]⟩:List Diii×Int×Int×List Diii×Int×Int×Int×List Diii×Int×List Diii×List Di→St)) (fun _=>rfl) ?_ d _ h
  intro n1 x1 h K1 hn1
  replace h:q15g d  (iter (q15g d ) n1) x1=some r:=h
  generalize iter (q15g d ) n1=self1 at h hn1
  unfold q15g at h
  refine q344 hm hT hC (q146 (q137 d) x1) h fun y7 h=>?_
  refine q9d ?_
  refine q9h (v:=y7.2.2.2.1) (by kernel_rfl) h ?_ ?_
  ·
   intro h
   refine q99 (q8z (q9d (q9e ?_)))
   refine q344 hm hT hC (q14a (q137 d) y7) h fun y8 h=>?_
   refine q344 hm hT hC (q14e (q137 d) y8) h fun y9 h=>?_
   refine q9g (r:=r) (F:=q15a d self1) (S:=(fun z=>⟨[(2,.ptr 0 0),(3,.ptr 1 0),(4,.ptr 2 0),(7,.ptr 4 0),(8,.rs 6),(9,i6 z.1),(10,.ptr 7 0),(11,.ptr 8 0),(24,.fz Riii z.2.1),(25,i6 z.2.2.1),(26,i6 z.2.2.2.1)],[.cells [.fz Riii z.2.2.2.2.1],.cells [i6 z.2.2.2.2.2.1,i6 z.2.2.2.2.2.2.1],.cells [i6 z.2.2.2.2.2.2.2.1,.rs 3],.rows Riii z.2.2.2.2.2.2.2.2.1,.cells [i6 z.2.2.2.2.2.2.2.2.2.1,.rs 5],.rows Riii z.2.2.2.2.2.2.2.2.2.2.1,.rows Ri z.2.2.2.2.2.2.2.2.2.2.2.1,.cells [i6 z.2.2.2.2.2.2.2.2.2.2.2.2.1,i6 z.2.2.2.2.2.2.2.2.2.2.2.2.2.1,i6 z.2.2.2.2.2.2.2.2.2.2.2.2.2.2.1],.cells [i6 z.2.2.2.2.2.2.2.2.2.2.2.2.2.2.2.1,i6 z.2.2.2.2.2.2.2.2.2.2.2.2.2.2.2.2.1,i6 z.2.2.2.2.2.2.2.2.2.2.2.2.2.2.2.2.2]]⟩:Int×List Diii×Int×Int×List Diii×Int×Int×Int×List Diii×Int×List Diii×List Di×Int×Int×Int×Int×Int×Int→St)) ?_ ?_
   ·
    intro z h
    unfold q15a at h
    refine q9g (r:=r) (F:=q157 d self1) (S:=(fun z=>⟨[(2,.ptr 0 0),(3,.ptr 1 0),(4,.ptr 2 0),(7,.ptr 4 0),(8,.rs 6),(9,i6 z.1),(11,.ptr 7 0),(24,.fz Riii z.2.1),(25,i6 z.2.2.1),(26,i6 z.2.2.2.1)],[.cells [.fz Riii z.2.2.2.2.1],.cells [i6 z.2.2.2.2.2.1,i6 z.2.2.2.2.2.2.1],.cells [i6 z.2.2.2.2.2.2.2.1,.rs 3],.rows Riii z.2.2.2.2.2.2.2.2.1,.cells [i6 z.2.2.2.2.2.2.2.2.2.1,.rs 5],.rows Riii z.2.2.2.2.2.2.2.2.2.2.1,.rows Ri z.2.2.2.2.2.2.2.2.2.2.2.1,.cells [i6 z.2.2.2.2.2.2.2.2.2.2.2.2.1,i6 z.2.2.2.2.2.2.2.2.2.2.2.2.2.1,i6 z.2.2.2.2.2.2.2.2.2.2.2.2.2.2]]⟩:Int×List Diii×Int×Int×List Diii×Int×Int×Int×List Diii×Int×List Diii×List Di×Int×Int×Int→St)) ?_ ?_
    ·
     intro z h
     unfold q157 at h
     refine q9i hm hT hC (q154 (q137 d) z) h ?_
     intro y18 h
     refine q92 (q8z ?_)
     refine q9i hm hT hC (q156 (q137 d) y18) h ?_
     intro y19 h
     exact hn1 _ h
    intro hj4
    refine q344 hm hT hC (q14y (q137 d) z) h fun y15 h=>?_
    refine q9h (v:=y15.2.2.2.2.1) (by kernel_rfl) h ?_ ?_
    ·
     intro h
     refine q9i hm hT hC (q152 (q137 d) y15) h ?_
     intro y16 h
     exact hj4 _ h
    ·
     intro h
     refine q9i hm hT hC (q159 (q137 d) y15) h ?_
     intro y17 h
     exact hj4 _ h
   intro hj2
   refine q9e ?_
   refine q9j (G:=iter (q15d d self1)) (S:=(fun x3=>⟨[(2,.ptr 0 0),(3,.ptr 1 0),(4,.ptr 2 0),(7,.ptr 4 0),(8,.rs 6),(9,i6 x3.1),(10,.ptr 7 0),(11,.ptr 8 0),(24,.fz Riii x3.2.1),(25,i6 x3.2.2.1),(26,i6 x3.2.2.2.1)],[.cells [.fz Riii x3.2.2.2.2.1],.cells [i6 x3.2.2.2.2.2.1,i6 x3.2.2.2.2.2.2.1],.cells [i6 x3.2.2.2.2.2.2.2.1,.rs 3],.rows Riii x3.2.2.2.2.2.2.2.2.1,.cells [i6 x3.2.2.2.2.2.2.2.2.2.1,.rs 5],.rows Riii x3.2.2.2.2.2.2.2.2.2.2.1,.rows Ri x3.2.2.2.2.2.2.2.2.2.2.2.1,.cells [i6 x3.2.2.2.2.2.2.2.2.2.2.2.2.1,i6 x3.2.2.2.2.2.2.2.2.2.2.2.2.2.1,i6 x3.2.2.2.2.2.2.2.2.2.2.2.2.2.2.1],.cells [i6 x3.2.2.2.2.2.2.2.2.2.2.2.2.2.2.2.1,i6 x3.2.2.2.2.2.2.2.2.2.2.2.2.2.2.2.2.1,i6 x3.2.2.2.2.2.2.2.2.2.2.2.2.2.2.2.2.2]]⟩:Int×List Diii×Int×Int×List Diii×Int×Int×Int×List Diii×Int×List Diii×List Di×Int×Int×Int×Int×Int×Int→St)) (fun _=>rfl) ?_ d _ h
   intro n3 x3 h K3 hn3
   replace h:q15d d self1 (iter (q15d d self1) n3) x3=some r:=h
   generalize iter (q15d d self1) n3=self3 at h hn3
   unfold q15d at h
   refine q9d ?_
   refine q344 hm hT hC (q14i (q137 d) x3) h fun y10 h=>?_
   refine q9h (v:=y10.2.2.2.2.1) (by kernel_rfl) h ?_ ?_
   ·
    intro h
    refine q99 (q8z (q9e ?_))
    refine q344 hm hT hC (q14m (q137 d) y10) h fun y11 h=>?_
    refine q9d ?_
    refine q344 hm hT hC (q14q (q137 d) y11) h fun y12 h=>?_
    refine q344 hm hT hC (q14u (q137 d) y12) h fun y13 h=>?_
    refine q9h (v:=y13.2.2.2.2.2.1) (by kernel_rfl) h ?_ ?_
    ·
     intro h
     refine q9b (q90 ?_)
     refine q95 (by rfl) ?_
     refine q90 (q94 ?_)
     refine qe9 (s:=⟨[(2,.ptr 0 0),(3,.ptr 1 0),(4,.ptr 2 0),(7,.ptr 4 0),(8,.rs 6),(9,.int .i64 y13.1),(10,.ptr 7 0),(11,.ptr 8 0),(24,.fz Riii y13.2.2.1),(25,.int .i64 y13.2.2.2.1),(26,.int .i64 y13.2.2.2.2.1)],[.cells [.fz Riii y13.2.2.2.2.2.2.1],.cells [.int .i64 y13.2.2.2.2.2.2.2.1,.int .i64 y13.2.2.2.2.2.2.2.2.1],.cells [.int .i64 y13.2.2.2.2.2.2.2.2.2.1,.rs 3],.rows Riii y13.2.2.2.2.2.2.2.2.2.2.1,.cells [.int .i64 y13.2.2.2.2.2.2.2.2.2.2.2.1,.rs 5],.rows Riii y13.2.2.2.2.2.2.2.2.2.2.2.2.1,.rows Ri y13.2.2.2.2.2.2.2.2.2.2.2.2.2.1,.cells [.int .i64 y13.2.2.2.2.2.2.2.2.2.2.2.2.2.2.1,.int .i64 y13.2.2.2.2.2.2.2.2.2.2.2.2.2.2.2.1,.int .i64 y13.2.2.2.2.2.2.2.2.2.2.2.2.2.2.2.2.1],.cells [.int .i64 y13.2.2.2.2.2.2.2.2.2.2.2.2.2.2.2.2.2.1,.int .i64 y13.2.2.2.2.2.2.2.2.2.2.2.2.2.2.2.2.2.2.1,.int .i64 y13.2.2.2.2.2.2.2.2.2.2.2.2.2.2.2.2.2.2.2]]⟩) [12,54] (by kernel_rfl) ?_
     exact hj2 _ h
    ·
     intro h
     refine q99 (q8z ?_)
     refine q9i hm hT hC (q15c (q137 d) y13) h ?_
     intro y14 h
     refine q92 ?_
     exact hn3 _ h
   ·
    intro h
    refine q9b (q90 (q90 (q94 ?_)))
    refine qe9 (s:=⟨[(2,.ptr 0 0),(3,.ptr 1 0),(4,.ptr 2 0),(7,.ptr 4 0),(8,.rs 6),(9,.int .i64 y10.1),(10,.ptr 7 0),(11,.ptr 8 0),(24,.fz Riii y10.2.1),(25,.int .i64 y10.2.2.1),(26,.int .i64 y10.2.2.2.1)],[.cells [.fz Riii y10.2.2.2.2.2.1],.cells [.int .i64 y10.2.2.2.2.2.2.1,.int .i64 y10.2.2.2.2.2.2.2.1],.cells [.int .i64 y10.2.2.2.2.2.2.2.2.1,.rs 3],.rows Riii y10.2.2.2.2.2.2.2.2.2.1,.cells [.int .i64 y10.2.2.2.2.2.2.2.2.2.2.1,.rs 5],.rows Riii y10.2.2.2.2.2.2.2.2.2.2.2.1,.rows Ri y10.2.2.2.2.2.2.2.2.2.2.2.2.1,.cells [.int .i64 y10.2.2.2.2.2.2.2.2.2.2.2.2.2.1,.int .i64 y10.2.2.2.2.2.2.2.2.2.2.2.2.2.2.1,.int .i64 y10.2.2.2.2.2.2.2.2.2.2.2.2.2.2.2.1],.cells [.int .i64 y10.2.2.2.2.2.2.2.2.2.2.2.2.2.2.2.2.1,.int .i64 y10.2.2.2.2.2.2.2.2.2.2.2.2.2.2.2.2.2.1,.int .i64 y10.2.2.2.2.2.2.2.2.2.2.2.2.2.2.2.2.2.2]]⟩) [36] (by kernel_rfl) ?_
    exact hj2 _ h
  ·
   intro h
   refine q9b (q90 (q90 (q94 (q8z ?_))))
   refine q344 hm hT hC (q15f (q137 d) y7) h fun y20 h=>?_
   refine q9c ?_
   cases h
   exact (hend _ (by kernel_rfl)).2
end Go.Proofs.Ytoakhncbmpdacaa

namespace Go.Proofs.Ytoakhncbmpdacaa
open Go Go.Tx Go.Proofs.Try
set_option maxRecDepth 100000
set_option maxHeartbeats 0
abbrev q1b9:List Pk:=[.row qkv true,.row qkv true]
abbrev q1ba:Type:=qkw×qkw×Unit
abbrev q1bb:Type:=Bool
def q1bc (r:q1bb):LV×List Ob:=(.bool r,[])
def q1bd (F:q1ba→Option q1bb):Go.Tx.Spec:=⟨23,q1b9,q1bb,F,q1bc⟩
abbrev q1be:Type:=Unit
def q1bf (_d:Nat):q1be:=()
def q1bg (C:q1be):List Go.Tx.Spec:=[]
abbrev q1bh:Type:=Int×List Diii×Int×List Diii
def q1bi (v:q1bh):St:=⟨[(0,.agg [i6 v.1,.fz Riii v.2.1]),(1,.agg [i6 v.2.2.1,.fz Riii v.2.2.2])],[]⟩
abbrev q1bj:Type:=Int×List Diii×Int×List Diii
def q1bk (v:q1bj):St:=⟨[(2,.ptr 0 0),(3,.ptr 1 0)],[.cells [i6 v.1,.fz Riii v.2.1],.cells [i6 v.2.2.1,.fz Riii v.2.2.2]]⟩
def q1bl (C:q1be) (v:q1bh):Dt q1bj:=(Dt.ret (v.1,v.2.1,v.2.2.1,v.2.2.2))
abbrev q34g {V Y:Type}:=@rg q1be V Y tysT (fun C=>(orc (q1bg C))) 38
theorem q1bm C v:q34g (regO (qea f23) 0) false [(2,(.box [.any,.val Riii])),(3,(.box [.any,.val Riii]))] q1bi q1bl q1bk C v:=rgI (by kernel_rfl)
abbrev q1bn:Type:=Bool×Int×List Diii×Int×List Diii
def q1bo (v:q1bn):St:=⟨[(2,.ptr 0 0),(3,.ptr 1 0),(19,.bool v.1)],[.cells [i6 v.2.1,.fz Riii v.2.2.1],.cells [i6 v.2.2.2.1,.fz Riii v.2.2.2.2]]⟩
def q1bp (C:q1be) (v:q1bj):Dt q1bn:=(Dt.ite (v.1 != v.2.2.1) (Dt.ret (true,v.1,v.2.1,v.2.2.1,v.2.2.2)) (Dt.ret (((List.length v.2.1:Int) != (List.length v.2.2.2:Int)),v.1,v.2.1,v.2.2.1,v.2.2.2)))
theorem q1bq C v:q34g (regO (qea f23) 1) false [(2,(.box [.any,.val Riii])),(3,(.box [.any,.val Riii])),(19,.any)] q1bk q1bp q1bo C v:=rgI (by kernel_rfl)
abbrev q1br:Type:=Bool
def q1bs (v:q1br):St:=⟨[(4,.bool v)],[]⟩
def q1bt (C:q1be) (v:q1bn):Dt q1br:=(Dt.ret false)
theorem q1bu C v:q34g (regO (qea f23) 2) false [(4,.any)] q1bo q1bt q1bs C v:=rgI (by kernel_rfl)
abbrev q1bv:Type:=Int×Int×List Diii×Int×List Diii
def q1bw (v:q1bv):St:=⟨[(2,.ptr 0 0),(3,.ptr 1 0),(5,i6 v.1)],[.cells [i6 v.2.1,.fz Riii v.2.2.1],.cells [i6 v.2.2.2.1,.fz Riii v.2.2.2.2]]⟩
def q1bx (C:q1be) (v:q1bn):Dt q1bv:=(Dt.ret ((0:Int),v.2.1,v.2.2.1,v.2.2.2.1,v.2.2.2.2))
theorem q1by C v:q34g (regO (qea f23) 3) false [(2,(.box [.any,.val Riii])),(3,(.box [.any,.val Riii])),(5,.any)] q1bo q1bx q1bw C v:=rgI (by kernel_rfl)
abbrev q1bz:Type:=Int×Bool×Int×List Diii×Int×List Diii
def q1c0 (v:q1bz):St:=⟨[(2,.ptr 0 0),(3,.ptr 1 0),(5,i6 v.1),(24,.bool v.2.1)],[.cells [i6 v.2.2.1,.fz Riii v.2.2.2.1],.cells [i6 v.2.2.2.2.1,.fz Riii v.2.2.2.2.2]]⟩
def q1c1 (C:q1be) (v:q1bv):Dt q1bz:=(Dt.ret (v.1,(decide (v.1<(List.length v.2.2.1:Int))),v.2.1,v.2.2.1,v.2.2.2.1,v.2.2.2.2))
theorem q1c2 C v:q34g (regO (qea f23) 4) false [(2,(.box [.any,.val Riii])),(3,(.box [.any,.val Riii])),(5,.any),(24,.any)] q1bw q1c1 q1c0 C v:=rgI (by kernel_rfl)
abbrev q1c3:Type:=Int×Bool×Int×List Diii×Int×List Diii
def q1c4 (v:q1c3):St:=⟨[(2,.ptr 0 0),(3,.ptr 1 0),(5,i6 v.1),(37,.bool v.2.1)],[.cells [i6 v.2.2.1,.fz Riii v.2.2.2.1],.cells [i6 v.2.2.2.2.1,.fz Riii v.2.2.2.2.2]]⟩
def q1c5 (C:q1be) (v:q1bz):Dt q1c3:=(Dt.ite (inB v.1 (List.length v.2.2.2.1)) (Dt.ite (inB v.1 (List.length v.2.2.2.2.2)) (Dt.ret (v.1,(!(((elt ziii v.2.2.2.1 (v.1).toNat).1 == (elt ziii v.2.2.2.2.2 (v.1).toNat).1)&&(((elt ziii v.2.2.2.1 (v.1).toNat).2.1 == (elt ziii v.2.2.2.2.2 (v.1).toNat).2.1)&&(((elt ziii v.2.2.2.1 (v.1).toNat).2.2.1 == (elt ziii v.2.2.2.2.2 (v.1).toNat).2.2.1)&&true)))),v.2.2.1,v.2.2.2.1,v.2.2.2.2.1,v.2.2.2.2.2)) Dt.fail) Dt.fail)
theorem q1c6 C v:q34g (regO (qea f23) 6) true [(2,(.box [.any,.val Riii])),(3,(.box [.any,.val Riii])),(5,.any),(37,.any)] q1c0 q1c5 q1c4 C v:=rgI (by kernel_rfl)
def q1c7 (C:q1be) (v:q1c3):Dt q1br:=(Dt.ret false)
theorem q1c8 C v:q34g (regO (qea f23) 7) false [(4,.any)] q1c4 q1c7 q1bs C v:=rgI (by kernel_rfl)
def q1c9 (C:q1be) (v:q1c3):Dt q1bv:=(Dt.ret ((IntKind.wrap .i64 (v.1+(1:Int))),v.2.2.1,v.2.2.2.1,v.2.2.2.2.1,v.2.2.2.2.2))
theorem q1ca C v:q34g (regO (qea f23) 5) false [(2,(.box [.any,.val Riii])),(3,(.box [.any,.val Riii])),(5,.any)] q1c4 q1c9 q1bw C v:=rgI (by kernel_rfl)
def q1cb (C:q1be) (v:q1bz):Dt q1br:=(Dt.ret true)
theorem q1cc C v:q34g (regO (qea f23) 8) false [(4,.any)] q1c0 q1cb q1bs C v:=rgI (by kernel_rfl)
def q1cd (d:Nat) (self1:(Int×Int×List Diii×Int×List Diii)→Option q1bb) (x1:Int×Int×List Diii×Int×List Diii):Option q1bb :=
 (q1c1 (q1bf d) x1).eval fun y4 =>
 bif y4.2.1 then ((q1c5 (q1bf d) y4).eval fun y6 =>
 bif y6.2.1 then ((q1c7 (q1bf d) y6).eval fun y7 =>
 some y7) else ((q1c9 (q1bf d) y6).eval fun y5 =>
 self1 y5)) else ((q1cb (q1bf d) y4).eval fun y8 =>
 some y8)
def q1ce (d:Nat) (x:q1ba):Option q1bb :=
 (q1bl (q1bf d) (x.1.1,x.1.2.1,x.2.1.1,x.2.1.2.1)).eval fun y0 =>
 (q1bp (q1bf d) y0).eval fun y1 =>
 bif y1.1 then ((q1bt (q1bf d) y1).eval fun y2 =>
 some y2) else ((q1bx (q1bf d) y1).eval fun y3 =>
 iter (q1cd d ) d y3)
theorem q1cf (d:Nat):COK prog (q1bd (q1ce d)):=by
 have hm:prog.follows .mixedOrders=true:=mixed
 have hT:=tys
 have hC0:OrcOK prog (orc (q1bg (q1bf d))):=qe4 (by
  intro S hS
  simp only [q1bg,List.mem_cons,List.not_mem_nil,or_false] at hS
  all_goals first | cases hS | exact hS.elim)
 have hC:OrcOK prog (orc (q1bg (q1bf d))):=hC0
 refine q9t (c:=qea f23) (fn:=f23) hT (by kernel_rfl) (by kernel_rfl) (by decide) fun x r h w0 φ0 Q hend=>?_
 replace h:q1ce d x=some r:=h
 unfold q1ce at h
 show Run prog w0 φ0 38 (qea f23) ⟨[(0,.agg [.int .i64 x.1.1,.fz Riii x.1.2.1]),(1,.agg [.int .i64 x.2.1.1,.fz Riii x.2.1.2.1])],[]⟩ Q
 refine q344 hm hT hC (q1bm (q1bf d) (x.1.1,x.1.2.1,x.2.1.1,x.2.1.2.1)) h fun y0 h=>?_
 refine q9d ?_
 refine q344 hm hT hC (q1bq (q1bf d) y0) h fun y1 h=>?_
 refine q9h (v:=y1.1) (by kernel_rfl) h ?_ ?_
 ·
  intro h
  refine q344 hm hT hC (q1bu (q1bf d) y1) h fun y2 h=>?_
  refine q9c (q91 ?_)
  cases h
  exact (hend _ (by kernel_rfl)).2
 ·
  intro h
  refine q99 (q8z (q9d ?_))
  refine q344 hm hT hC (q1by (q1bf d) y1) h fun y3 h=>?_
  refine q9e ?_
  refine q9j (G:=iter (q1cd d )) (S:=(fun x1=>⟨[(2,.ptr 0 0),(3,.ptr 1 0),(5,i6 x1.1)],[.cells [i6 x1.2.1,.fz Riii x1.2.2.1],.cells [i6 x1.2.2.2.1,.fz Riii x1.2.2.2.2]]⟩:Int×Int×List Diii×Int×List Diii→St)) (fun _=>rfl) ?_ d _ h
  intro n1 x1 h K1 hn1
  replace h:q1cd d  (iter (q1cd d ) n1) x1=some r:=h
  generalize iter (q1cd d ) n1=self1 at h hn1
  unfold q1cd at h
  refine q9d ?_
  refine q344 hm hT hC (q1c2 (q1bf d) x1) h fun y4 h=>?_
  refine q9h (v:=y4.2.1) (by kernel_rfl) h ?_ ?_
  ·
   intro h
   refine q99 (q8z (q9d (q9e ?_)))
   refine q344 hm hT hC (q1c6 (q1bf d) y4) h fun y6 h=>?_
   refine q9h (v:=y6.2.1) (by kernel_rfl) h ?_ ?_
   ·
    intro h
    refine q344 hm hT hC (q1c8 (q1bf d) y6) h fun y7 h=>?_
    refine q9c (q93 (q91 (q91 (q93 (q91 ?_)))))
    cases h
    exact (hend _ (by kernel_rfl)).2
   ·
    intro h
    refine q99 (q92 (q8z ?_))
    refine q9i hm hT hC (q1ca (q1bf d) y6) h ?_
    intro y5 h
    exact hn1 _ h
  ·
   intro h
   refine q9b (q90 (q90 (q94 (q8z ?_))))
   refine q344 hm hT hC (q1cc (q1bf d) y4) h fun y8 h=>?_
   refine q9c ?_
   cases h
   exact (hend _ (by kernel_rfl)).2
end Go.Proofs.Ytoakhncbmpdacaa

namespace Go.Tx
open Go
structure CSpec where
  g:FuncId
  τ1:List Pk
  τ2:List Pk
  σ:Row
  F:dens τ1→dens τ2→List (den σ)→Option (List (den σ))
def cmem {σ:Row} (xs:List (den σ)):LH:=q82 [.rows σ xs]
abbrev cFz {σ:Row} (xs:List (den σ)) (η:Emb):Fz0:=⟨η.fz,fun _ _=>False,[],fun k=>LB (cmem xs) η k⟩
structure COKC (P:Program) (S:CSpec):Prop where
  ok:∀ x1 x2 xs ys,S.F x1 x2 xs=some ys→∀ (w:World) (η:Emb) (vs:List Value),(∀ M,HR M η (cmem xs) w)→VRs η (q9o S.τ1 x1 ++ .rs 0 :: q9o S.τ2 x2) vs →
    Calls P S.g vs.toArray w fun e w'=>∃ v' η',e=.returned v'∧VR η' (.rs 0) v'∧(∀ M,HR M η' (cmem ys) w')∧Fr w (cFz xs η) (cmem ys) η' w'
  body:q5q P S.g
section
variable {P:Program} {M:Nat} {H:LH} {η:Emb} {w:World}
end
end Go.Tx
