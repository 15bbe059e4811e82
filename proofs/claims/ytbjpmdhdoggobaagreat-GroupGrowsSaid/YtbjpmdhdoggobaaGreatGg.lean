/- Walks of the references; the orders agree; examples. -/
import Derived.Test.YtbjpmdhdoggobaaGreatGf
set_option linter.unusedSimpArgs false
set_option linter.unusedVariables false
namespace Go.Proofs.YtbjpmdhdoggobaaGreat
open Go Go.Tx Go.Proofs.Tryz
set_option maxRecDepth 100000
set_option maxHeartbeats 0
abbrev q2eg:List Pk:=[.row Rbuu true]
abbrev q2eh:Type:=Dbuu×Unit
abbrev q2ei:Type:=Int
def q2ej (r:q2ei):LV×List Ob:=(.int .i64 r,[])
def q2ek (F:q2eh→Option q2ei):Go.Tx.Spec:=⟨48,q2eg,q2ei,F,q2ej⟩
abbrev q2el:Type:=Unit
def q2em (_d:Nat):q2el:=()
def q2en (C:q2el):List Go.Tx.Spec:=[]
abbrev q2eo:Type:=Bool×Int×Int
def q2ep (v:q2eo):St:=⟨[(0,.agg [.bool v.1,u6 v.2.1,u6 v.2.2])],[]⟩
abbrev q2eq:Type:=Bool×Int×Int
def q2er (v:q2eq):St:=⟨[(1,.ptr 0 0)],[.cells [.bool v.1,u6 v.2.1,u6 v.2.2]]⟩
def q2es (C:q2el) (v:q2eo):Dt q2eq:=(Dt.ret (v.1,v.2.1,v.2.2))
abbrev q3qt {V Y:Type}:=@rg q2el V Y tysT (fun C=>(orc (q2en C))) 13
theorem q2et C v:q3qt (regO (qdk f48) 0) false [(1,.any)] q2ep q2es q2er C v:=rgI (by kernel_rfl)
abbrev q2eu:Type:=Bool×Bool×Int×Int
def q2ev (v:q2eu):St:=⟨[(1,.ptr 0 0),(10,.bool v.1)],[.cells [.bool v.2.1,u6 v.2.2.1,u6 v.2.2.2]]⟩
def q2ew (C:q2el) (v:q2eq):Dt q2eu:=(Dt.ite (v.2.1 == (0:Int)) (Dt.ret ((v.2.2 == (0:Int)),v.1,v.2.1,v.2.2)) (Dt.ret (false,v.1,v.2.1,v.2.2)))
theorem q2ex C v:q3qt (regO (qdk f48) 1) false (an [1,10]) q2er q2ew q2ev C v:=rgI (by kernel_rfl)
abbrev q2ey:Type:=Int
def q2ez (v:q2ey):St:=⟨[(2,i6 v)],[]⟩
def q2f0 (C:q2el) (v:q2eu):Dt q2ey:=(Dt.ret (0:Int))
theorem q2f1 C v:q3qt (regO (qdk f48) 2) false [(2,.any)] q2ev q2f0 q2ez C v:=rgI (by kernel_rfl)
abbrev q2f2:Type:=Bool
def q2f3 (v:q2f2):St:=⟨[(12,.bool v)],[]⟩
def q2f4 (C:q2el) (v:q2eu):Dt q2f2:=(Dt.ret v.2.1)
theorem q2f5 C v:q3qt (regO (qdk f48) 3) false [(12,.any)] q2ev q2f4 q2f3 C v:=rgI (by kernel_rfl)
def q2f6 (C:q2el) (v:q2f2):Dt q2ey:=(Dt.ret (-1:Int))
theorem q2f7 C v:q3qt (regO (qdk f48) 4) false [(2,.any)] q2f3 q2f6 q2ez C v:=rgI (by kernel_rfl)
def q2f8 (C:q2el) (v:q2f2):Dt q2ey:=(Dt.ret (1:Int))
theorem q2f9 C v:q3qt (regO (qdk f48) 5) false [(2,.any)] q2f3 q2f8 q2ez C v:=rgI (by kernel_rfl)
def q2fa (d:Nat) (x:q2eh):Option q2ei :=
 (q2es (q2em d) (x.1.1,x.1.2.1,x.1.2.2.1)).eval fun y0 =>
 (q2ew (q2em d) y0).eval fun y1 =>
 bif y1.1 then ((q2f0 (q2em d) y1).eval fun y2 =>
 some y2) else ((q2f4 (q2em d) y1).eval fun y3 =>
 bif y3 then ((q2f6 (q2em d) y3).eval fun y4 =>
 some y4) else ((q2f8 (q2em d) y3).eval fun y5 =>
 some y5))
theorem q2fb (d:Nat):COK prog (q2ek (q2fa d)):=by
 have hm:prog.follows .mixedOrders=true:=mixed
 have hT:=tys
 have hC0:OrcOK prog (orc (q2en (q2em d))):=qde (by
  intro S hS
  simp only [q2en,List.mem_cons,List.not_mem_nil,or_false] at hS
  all_goals first | cases hS | exact hS.elim)
 have hC:OrcOK prog (orc (q2en (q2em d))):=hC0
 refine q93 (c:=qdk f48) (fn:=f48) hT (by kernel_rfl) (by kernel_rfl) (by decide) fun x r h w0 φ0 Q hend=>?_
 replace h:q2fa d x=some r:=h
 unfold q2fa at h
 show Run prog w0 φ0 13 (qdk f48) ⟨[(0,.agg [.bool x.1.1,.int .u64 x.1.2.1,.int .u64 x.1.2.2.1])],[]⟩ Q
 refine q3pf hm hT hC (q2et (q2em d) (x.1.1,x.1.2.1,x.1.2.2.1)) h fun y0 h=>?_
 refine q8m ?_
 refine q3pf hm hT hC (q2ex (q2em d) y0) h fun y1 h=>?_
 refine q8q (v:=y1.1) (by kernel_rfl) h ?_ ?_
 ·
  intro h
  refine q3pf hm hT hC (q2f1 (q2em d) y1) h fun y2 h=>?_
  refine q8l (q8a ?_)
  cases h
  exact (hend _ (by kernel_rfl)).2
 ·
  intro h
  refine q8i (q88 (q8m ?_))
  refine q3pf hm hT hC (q2f5 (q2em d) y1) h fun y3 h=>?_
  refine q8q (v:=y3) (by kernel_rfl) h ?_ ?_
  ·
   intro h
   refine q3pf hm hT hC (q2f7 (q2em d) y3) h fun y4 h=>?_
   refine q8l (q8a ?_)
   cases h
   exact (hend _ (by kernel_rfl)).2
  ·
   intro h
   refine q8i (q88 ?_)
   refine q3pf hm hT hC (q2f9 (q2em d) y3) h fun y5 h=>?_
   refine q8l ?_
   cases h
   exact (hend _ (by kernel_rfl)).2
abbrev q2fc:List Pk:=[.row Rii true,.row Rii true]
abbrev q2fd:Type:=Dii×Dii×Unit
abbrev q2fe:Type:=Int
def q2ff (r:q2fe):LV×List Ob:=(.int .i64 r,[])
def q2fg (F:q2fd→Option q2fe):Go.Tx.Spec:=⟨28,q2fc,q2fe,F,q2ff⟩
abbrev q2fh:Type:=(qmz→Option qn0)×(q2eh→Option q2ei)×(q1ki→Option q1kj)×Unit
def q2fi (d:Nat):q2fh:=(qn4 d,q2fa d,q1ln d,())
def q2fj (C:q2fh):List Go.Tx.Spec:=[qn2 C.1,q2ek C.2.1,q1kl C.2.2.1]
abbrev q2fk:Type:=Int×Int×Int×Int
def q2fl (v:q2fk):St:=⟨[(0,.agg [i6 v.1,i6 v.2.1]),(1,.agg [i6 v.2.2.1,i6 v.2.2.2])],[]⟩
abbrev q2fm:Type:=Int×Int×Int×Int
def q2fn (v:q2fm):St:=⟨[(2,.ptr 0 0),(3,.ptr 1 0)],[.cells [i6 v.1,i6 v.2.1],.cells [i6 v.2.2.1,i6 v.2.2.2]]⟩
def q2fo (C:q2fh) (v:q2fk):Dt q2fm:=(Dt.ret (v.1,v.2.1,v.2.2.1,v.2.2.2))
abbrev q3qu {V Y:Type}:=@rg q2fh V Y tysT (fun C=>(orc (q2fj C))) 36
theorem q2fp C v:q3qu (regO (qdk f28) 0) false (an [2,3]) q2fl q2fo q2fn C v:=rgI (by kernel_rfl)
abbrev q2fq:Type:=Bool×Int×Int×Bool×Int×Int
def q2fr (v:q2fq):St:=⟨[(5,.ptr 0 0),(6,.ptr 1 0)],[.cells [.bool v.1,u6 v.2.1,u6 v.2.2.1],.cells [.bool v.2.2.2.1,u6 v.2.2.2.2.1,u6 v.2.2.2.2.2]]⟩
def q2fs (C:q2fh) (v:q2fm):Dt q2fq:=(Dt.bnd (C.1 ((v.1,()),(v.2.2.2,()),())) fun r1=>(Dt.bnd (C.1 ((v.2.2.1,()),(v.2.1,()),())) fun r2=>(Dt.ret (r1.1,r1.2.1,r1.2.2,r2.1,r2.2.1,r2.2.2))))
theorem q2ft C v:q3qu (regO (qdk f28) 1) true (an [5,6]) q2fn q2fs q2fr C v:=rgI (by kernel_rfl)
abbrev q2fu:Type:=Bool×Bool×Int×Int×Bool×Int×Int
def q2fv (v:q2fu):St:=⟨[(5,.ptr 0 0),(6,.ptr 1 0),(21,.bool v.1)],[.cells [.bool v.2.1,u6 v.2.2.1,u6 v.2.2.2.1],.cells [.bool v.2.2.2.2.1,u6 v.2.2.2.2.2.1,u6 v.2.2.2.2.2.2]]⟩
def q2fw (C:q2fh) (v:q2fq):Dt q2fu:=(Dt.bnd (C.2.1 ((v.1,v.2.1,v.2.2.1,()),())) fun r1=>(Dt.bnd (C.2.1 ((v.2.2.2.1,v.2.2.2.2.1,v.2.2.2.2.2,()),())) fun r2=>(Dt.ret ((r1 != r2),v.1,v.2.1,v.2.2.1,v.2.2.2.1,v.2.2.2.2.1,v.2.2.2.2.2))))
theorem q2fx C v:q3qu (regO (qdk f28) 2) true (an [5,6,21]) q2fr q2fw q2fv C v:=rgI (by kernel_rfl)
abbrev q2fy:Type:=Bool
def q2fz (v:q2fy):St:=⟨[(26,.bool v)],[]⟩
def q2g0 (C:q2fh) (v:q2fu):Dt q2fy:=(Dt.bnd (C.2.1 ((v.2.1,v.2.2.1,v.2.2.2.1,()),())) fun r1=>(Dt.bnd (C.2.1 ((v.2.2.2.2.1,v.2.2.2.2.2.1,v.2.2.2.2.2.2,()),())) fun r2=>(Dt.ret (decide (r1<r2)))))
theorem q2g1 C v:q3qu (regO (qdk f28) 3) true [(26,.any)] q2fv q2g0 q2fz C v:=rgI (by kernel_rfl)
abbrev q2g2:Type:=Int
def q2g3 (v:q2g2):St:=⟨[(4,i6 v)],[]⟩
def q2g4 (C:q2fh) (v:q2fy):Dt q2g2:=(Dt.ret (-1:Int))
theorem q2g5 C v:q3qu (regO (qdk f28) 4) false [(4,.any)] q2fz q2g4 q2g3 C v:=rgI (by kernel_rfl)
def q2g6 (C:q2fh) (v:q2fy):Dt q2g2:=(Dt.ret (1:Int))
theorem q2g7 C v:q3qu (regO (qdk f28) 5) false [(4,.any)] q2fz q2g6 q2g3 C v:=rgI (by kernel_rfl)
abbrev q2g8:Type:=Bool×Bool×Int×Int×Bool×Int×Int
def q2g9 (v:q2g8):St:=⟨[(5,.ptr 0 0),(6,.ptr 1 0),(29,.bool v.1)],[.cells [.bool v.2.1,u6 v.2.2.1,u6 v.2.2.2.1],.cells [.bool v.2.2.2.2.1,u6 v.2.2.2.2.2.1,u6 v.2.2.2.2.2.2]]⟩
def q2ga (C:q2fh) (v:q2fu):Dt q2g8:=(Dt.bnd (C.2.1 ((v.2.1,v.2.2.1,v.2.2.2.1,()),())) fun r1=>(Dt.ret ((decide (r1<(0:Int))),v.2.1,v.2.2.1,v.2.2.2.1,v.2.2.2.2.1,v.2.2.2.2.2.1,v.2.2.2.2.2.2)))
theorem q2gb C v:q3qu (regO (qdk f28) 6) false (an [5,6,29]) q2fv q2ga q2g9 C v:=rgI (by kernel_rfl)
def q2gc (C:q2fh) (v:q2g8):Dt q2g2:=(Dt.bnd (C.2.2.1 ((v.2.2.2.2.1,v.2.2.2.2.2.1,v.2.2.2.2.2.2,()),(v.2.1,v.2.2.1,v.2.2.2.1,()),())) fun r1=>(Dt.ret r1))
theorem q2gd C v:q3qu (regO (qdk f28) 7) false [(4,.any)] q2g9 q2gc q2g3 C v:=rgI (by kernel_rfl)
def q2ge (C:q2fh) (v:q2g8):Dt q2g2:=(Dt.bnd (C.2.2.1 ((v.2.1,v.2.2.1,v.2.2.2.1,()),(v.2.2.2.2.1,v.2.2.2.2.2.1,v.2.2.2.2.2.2,()),())) fun r1=>(Dt.ret r1))
theorem q2gf C v:q3qu (regO (qdk f28) 8) false [(4,.any)] q2g9 q2ge q2g3 C v:=rgI (by kernel_rfl)
def q2gg (d:Nat) (x:q2fd):Option q2fe :=
 (q2fo (q2fi d) (x.1.1,x.1.2.1,x.2.1.1,x.2.1.2.1)).eval fun y0 =>
 (q2fs (q2fi d) y0).eval fun y1 =>
 (q2fw (q2fi d) y1).eval fun y2 =>
 bif y2.1 then ((q2g0 (q2fi d) y2).eval fun y3 =>
 bif y3 then ((q2g4 (q2fi d) y3).eval fun y4 =>
 some y4) else ((q2g6 (q2fi d) y3).eval fun y5 =>
 some y5)) else ((q2ga (q2fi d) y2).eval fun y6 =>
 bif y6.1 then ((q2gc (q2fi d) y6).eval fun y7 =>
 some y7) else ((q2ge (q2fi d) y6).eval fun y8 =>
 some y8))
theorem q2gh (d:Nat):COK prog (q2fg (q2gg d)):=by
 have hm:prog.follows .mixedOrders=true:=mixed
 have hT:=tys
 have hC0:OrcOK prog (orc (q2fj (q2fi d))):=qde (by
  intro S hS
  simp only [q2fj,List.mem_cons,List.not_mem_nil,or_false] at hS
  rcases hS with rfl | rfl | rfl
  · exact qn6 d
  · exact q2fb d
  · exact q1lo d)
 have hC:OrcOK prog (orc (q2fj (q2fi d))):=hC0
 refine q93 (c:=qdk f28) (fn:=f28) hT (by kernel_rfl) (by kernel_rfl) (by decide) fun x r h w0 φ0 Q hend=>?_
 replace h:q2gg d x=some r:=h
 unfold q2gg at h
 show Run prog w0 φ0 36 (qdk f28) ⟨[(0,.agg [.int .i64 x.1.1,.int .i64 x.1.2.1]),(1,.agg [.int .i64 x.2.1.1,.int .i64 x.2.1.2.1])],[]⟩ Q
 refine q3pf hm hT hC (q2fp (q2fi d) (x.1.1,x.1.2.1,x.2.1.1,x.2.1.2.1)) h fun y0 h=>?_
 refine q3pf hm hT hC (q2ft (q2fi d) y0) h fun y1 h=>?_
 refine q8m ?_
 refine q3pf hm hT hC (q2fx (q2fi d) y1) h fun y2 h=>?_
 refine q8q (v:=y2.1) (by kernel_rfl) h ?_ ?_
 ·
  intro h
  refine q8m ?_
  refine q3pf hm hT hC (q2g1 (q2fi d) y2) h fun y3 h=>?_
  refine q8q (v:=y3) (by kernel_rfl) h ?_ ?_
  ·
   intro h
   refine q3pf hm hT hC (q2g5 (q2fi d) y3) h fun y4 h=>?_
   refine q8l (q8a (q8a ?_))
   cases h
   exact (hend _ (by kernel_rfl)).2
  ·
   intro h
   refine q8i (q88 ?_)
   refine q3pf hm hT hC (q2g7 (q2fi d) y3) h fun y5 h=>?_
   refine q8l (q8a ?_)
   cases h
   exact (hend _ (by kernel_rfl)).2
 ·
  intro h
  refine q8i (q88 (q8m ?_))
  refine q3pf hm hT hC (q2gb (q2fi d) y2) h fun y6 h=>?_
  refine q8q (v:=y6.1) (by kernel_rfl) h ?_ ?_
  ·
   intro h
   refine q3pf hm hT hC (q2gd (q2fi d) y6) h fun y7 h=>?_
   refine q8l (q8a ?_)
   cases h
   exact (hend _ (by kernel_rfl)).2
  ·
   intro h
   refine q8i (q88 ?_)
   refine q3pf hm hT hC (q2gf (q2fi d) y6) h fun y8 h=>?_
   refine q8l ?_
   cases h
   exact (hend _ (by kernel_rfl)).2
abbrev q2gi:List Pk:=[.row Riii true,.row Riii true,.row Rii true]
abbrev q2gj:Type:=Diii×Diii×Dii×Unit
abbrev q2gk:Type:=Int×Int×Int
def q2gl (r:q2gk):LV×List Ob:=(.tup [.agg [.int .i64 r.1,.int .i64 r.2.1],.int .i64 r.2.2],[])
def q2gm (F:q2gj→Option q2gk):Go.Tx.Spec:=⟨34,q2gi,q2gk,F,q2gl⟩
abbrev q2gn:Type:=(q1wh→Option q1wi)×(q1td→Option q1te)×Unit
def q2go (d:Nat):q2gn:=(q1xi d,q1u0 d,())
def q2gp (C:q2gn):List Go.Tx.Spec:=[q1wk C.1,q1tg C.2.1]
abbrev q2gq:Type:=Int×Int×Int×Int×Int×Int×Int×Int
def q2gr (v:q2gq):St:=⟨[(0,.agg [i6 v.1,i6 v.2.1,i6 v.2.2.1]),(1,.agg [i6 v.2.2.2.1,i6 v.2.2.2.2.1,i6 v.2.2.2.2.2.1]),(2,.agg [i6 v.2.2.2.2.2.2.1,i6 v.2.2.2.2.2.2.2])],[]⟩
abbrev q2gs:Type:=Int×Int×Int×Int×Int×Int×Int×Int×Int×Int
def q2gt (v:q2gs):St:=⟨[(3,.ptr 0 0),(4,.ptr 1 0),(5,.ptr 2 0),(6,.ptr 3 0)],[.cells [i6 v.1,i6 v.2.1,i6 v.2.2.1],.cells [i6 v.2.2.2.1,i6 v.2.2.2.2.1,i6 v.2.2.2.2.2.1],.cells [i6 v.2.2.2.2.2.2.1,i6 v.2.2.2.2.2.2.2.1],.cells [i6 v.2.2.2.2.2.2.2.2.1,i6 v.2.2.2.2.2.2.2.2.2]]⟩
def q2gu (C:q2gn) (v:q2gq):Dt q2gs:=(Dt.ret (v.1,v.2.1,v.2.2.1,v.2.2.2.1,v.2.2.2.2.1,v.2.2.2.2.2.1,v.2.2.2.2.2.2.1,v.2.2.2.2.2.2.2,(0:Int),(0:Int)))
abbrev q3qv {V Y:Type}:=@rg q2gn V Y tysT (fun C=>(orc (q2gp C))) 36
theorem q2gv C v:q3qv (regO (qdk f34) 0) false (an [3,4,5,6]) q2gr q2gu q2gt C v:=rgI (by kernel_rfl)
abbrev q2gw:Type:=Int×Int×Int×Int×Int×Int×Int×Int×Int×Int
def q2gx (v:q2gw):St:=⟨[(4,.ptr 0 0),(5,.ptr 1 0),(6,.ptr 2 0),(8,.ptr 3 0),(9,i6 v.1)],[.cells [i6 v.2.1,i6 v.2.2.1,i6 v.2.2.2.1],.cells [i6 v.2.2.2.2.1,i6 v.2.2.2.2.2.1],.cells [i6 v.2.2.2.2.2.2.1,i6 v.2.2.2.2.2.2.2.1],.cells [i6 v.2.2.2.2.2.2.2.2.1,i6 v.2.2.2.2.2.2.2.2.2]]⟩
def q2gy (C:q2gn) (v:q2gs):Dt q2gw:=(Dt.bnd (C.1 ((v.1,v.2.1,v.2.2.1,()),(v.2.2.2.2.2.2.1,v.2.2.2.2.2.2.2.1,()),())) fun r1=>(Dt.ret (r1.2.2,v.2.2.2.1,v.2.2.2.2.1,v.2.2.2.2.2.1,v.2.2.2.2.2.2.1,v.2.2.2.2.2.2.2.1,v.2.2.2.2.2.2.2.2.1,v.2.2.2.2.2.2.2.2.2,r1.1,r1.2.1)))
theorem q2gz C v:q3qv (regO (qdk f34) 1) false (an [4,5,6,8,9]) q2gt q2gy q2gx C v:=rgI (by kernel_rfl)
abbrev q2h0:Type:=Int×Bool×Int×Int×Int×Int×Int×Int×Int×Int×Int
def q2h1 (v:q2h0):St:=⟨[(4,.ptr 0 0),(5,.ptr 1 0),(6,.ptr 2 0),(8,.ptr 3 0),(9,i6 v.1),(18,.bool v.2.1)],[.cells [i6 v.2.2.1,i6 v.2.2.2.1,i6 v.2.2.2.2.1],.cells [i6 v.2.2.2.2.2.1,i6 v.2.2.2.2.2.2.1],.cells [i6 v.2.2.2.2.2.2.2.1,i6 v.2.2.2.2.2.2.2.2.1],.cells [i6 v.2.2.2.2.2.2.2.2.2.1,i6 v.2.2.2.2.2.2.2.2.2.2]]⟩
def q2h2 (C:q2gn) (v:q2gw):Dt q2h0:=(Dt.ret (v.1,(v.1 != (0:Int)),v.2.1,v.2.2.1,v.2.2.2.1,v.2.2.2.2.1,v.2.2.2.2.2.1,v.2.2.2.2.2.2.1,v.2.2.2.2.2.2.2.1,v.2.2.2.2.2.2.2.2.1,v.2.2.2.2.2.2.2.2.2))
theorem q2h3 C v:q3qv (regO (qdk f34) 2) false (an [4,5,6,8,9,18]) q2gx q2h2 q2h1 C v:=rgI (by kernel_rfl)
abbrev q2h4:Type:=Int×Int×Int
def q2h5 (v:q2h4):St:=⟨[(6,.ptr 0 0),(7,i6 v.1)],[.cells [i6 v.2.1,i6 v.2.2]]⟩
def q2h6 (C:q2gn) (v:q2h0):Dt q2h4:=(Dt.ret (v.1,(0:Int),(0:Int)))
theorem q2h7 C v:q3qv (regO (qdk f34) 3) false (an [6,7]) q2h1 q2h6 q2h5 C v:=rgI (by kernel_rfl)
abbrev q2h8:Type:=Int×Int×Int×Int×Int×Int×Int
def q2h9 (v:q2h8):St:=⟨[(6,.ptr 0 0),(8,.ptr 1 0),(9,i6 v.1),(10,.ptr 2 0)],[.cells [i6 v.2.1,i6 v.2.2.1],.cells [i6 v.2.2.2.1,i6 v.2.2.2.2.1],.cells [i6 v.2.2.2.2.2.1,i6 v.2.2.2.2.2.2]]⟩
def q2ha (C:q2gn) (v:q2h0):Dt q2h8:=(Dt.bnd (C.1 ((v.2.2.1,v.2.2.2.1,v.2.2.2.2.1,()),(v.2.2.2.2.2.1,v.2.2.2.2.2.2.1,()),())) fun r1=>(Dt.ret (r1.2.2,v.2.2.2.2.2.2.2.1,v.2.2.2.2.2.2.2.2.1,v.2.2.2.2.2.2.2.2.2.1,v.2.2.2.2.2.2.2.2.2.2,r1.1,r1.2.1)))
theorem q2hb C v:q3qv (regO (qdk f34) 4) false (an [6,8,9,10]) q2h1 q2ha q2h9 C v:=rgI (by kernel_rfl)
abbrev q2hc:Type:=Int×Bool×Int×Int×Int×Int×Int×Int
def q2hd (v:q2hc):St:=⟨[(6,.ptr 0 0),(8,.ptr 1 0),(9,i6 v.1),(10,.ptr 2 0),(28,.bool v.2.1)],[.cells [i6 v.2.2.1,i6 v.2.2.2.1],.cells [i6 v.2.2.2.2.1,i6 v.2.2.2.2.2.1],.cells [i6 v.2.2.2.2.2.2.1,i6 v.2.2.2.2.2.2.2]]⟩
def q2he (C:q2gn) (v:q2h8):Dt q2hc:=(Dt.ret (v.1,(v.1 != (0:Int)),v.2.1,v.2.2.1,v.2.2.2.1,v.2.2.2.2.1,v.2.2.2.2.2.1,v.2.2.2.2.2.2))
theorem q2hf C v:q3qv (regO (qdk f34) 5) false (an [6,8,9,10,28]) q2h9 q2he q2hd C v:=rgI (by kernel_rfl)
def q2hg (C:q2gn) (v:q2hc):Dt q2h4:=(Dt.ret (v.1,(0:Int),(0:Int)))
theorem q2hh C v:q3qv (regO (qdk f34) 6) false (an [6,7]) q2hd q2hg q2h5 C v:=rgI (by kernel_rfl)
def q2hi (C:q2gn) (v:q2hc):Dt q2h4:=(Dt.bnd (C.2.1 ((v.2.2.2.2.1,v.2.2.2.2.2.1,()),(v.2.2.2.2.2.2.1,v.2.2.2.2.2.2.2,()),())) fun r1=>(Dt.ret (r1.2.2,r1.1,r1.2.1)))
theorem q2hj C v:q3qv (regO (qdk f34) 7) false (an [6,7]) q2hd q2hi q2h5 C v:=rgI (by kernel_rfl)
def q2hk (d:Nat) (x:q2gj):Option q2gk :=
 (q2gu (q2go d) (x.1.1,x.1.2.1,x.1.2.2.1,x.2.1.1,x.2.1.2.1,x.2.1.2.2.1,x.2.2.1.1,x.2.2.1.2.1)).eval fun y0 =>
 (q2gy (q2go d) y0).eval fun y1 =>
 (q2h2 (q2go d) y1).eval fun y2 =>
 bif y2.2.1 then ((q2h6 (q2go d) y2).eval fun y3 =>
 some (y3.2.1,y3.2.2,y3.1)) else ((q2ha (q2go d) y2).eval fun y4 =>
 (q2he (q2go d) y4).eval fun y5 =>
 bif y5.2.1 then ((q2hg (q2go d) y5).eval fun y6 =>
 some (y6.2.1,y6.2.2,y6.1)) else ((q2hi (q2go d) y5).eval fun y7 =>
 some (y7.2.1,y7.2.2,y7.1)))
theorem q2hl (d:Nat):COK prog (q2gm (q2hk d)):=by
 have hm:prog.follows .mixedOrders=true:=mixed
 have hT:=tys
 have hC0:OrcOK prog (orc (q2gp (q2go d))):=qde (by
  intro S hS
  simp only [q2gp,List.mem_cons,List.not_mem_nil,or_false] at hS
  rcases hS with rfl | rfl
  · exact q1xj d
  · exact q1u1 d)
 have hC:OrcOK prog (orc (q2gp (q2go d))):=hC0
 refine q93 (c:=qdk f34) (fn:=f34) hT (by kernel_rfl) (by kernel_rfl) (by decide) fun x r h w0 φ0 Q hend=>?_
 replace h:q2hk d x=some r:=h
 unfold q2hk at h
 show Run prog w0 φ0 36 (qdk f34) ⟨[(0,.agg [.int .i64 x.1.1,.int .i64 x.1.2.1,.int .i64 x.1.2.2.1]),(1,.agg [.int .i64 x.2.1.1,.int .i64 x.2.1.2.1,.int .i64 x.2.1.2.2.1]),(2,.agg [.int .i64 x.2.2.1.1,.int .i64 x.2.2.1.2.1])],[]⟩ Q
 refine q3pf hm hT hC (q2gv (q2go d) (x.1.1,x.1.2.1,x.1.2.2.1,x.2.1.1,x.2.1.2.1,x.2.1.2.2.1,x.2.2.1.1,x.2.2.1.2.1)) h fun y0 h=>?_
 refine q3pf hm hT hC (q2gz (q2go d) y0) h fun y1 h=>?_
 refine q8m ?_
 refine q3pf hm hT hC (q2h3 (q2go d) y1) h fun y2 h=>?_
 refine q8q (v:=y2.2.1) (by kernel_rfl) h ?_ ?_
 ·
  intro h
  refine q3pf hm hT hC (q2h7 (q2go d) y2) h fun y3 h=>?_
  refine q8l (q8a ?_)
  cases h
  exact (hend _ (by kernel_rfl)).2
 ·
  intro h
  refine q8i (q88 ?_)
  refine q3pf hm hT hC (q2hb (q2go d) y2) h fun y4 h=>?_
  refine q8m ?_
  refine q3pf hm hT hC (q2hf (q2go d) y4) h fun y5 h=>?_
  refine q8q (v:=y5.2.1) (by kernel_rfl) h ?_ ?_
  ·
   intro h
   refine q3pf hm hT hC (q2hh (q2go d) y5) h fun y6 h=>?_
   refine q8l (q8a ?_)
   cases h
   exact (hend _ (by kernel_rfl)).2
  ·
   intro h
   refine q8i (q88 ?_)
   refine q3pf hm hT hC (q2hj (q2go d) y5) h fun y7 h=>?_
   refine q8l ?_
   cases h
   exact (hend _ (by kernel_rfl)).2
abbrev q2tr:List Pk:=[.row qk2 false,.row qk2 false]
abbrev q2ts:Type:=qk3×qk3×Unit
abbrev q2tt:Type:=Bool
def q2tu (r:q2tt):LV×List Ob:=(.bool r,[])
def q2tv (F:q2ts→Option q2tt):Go.Tx.Spec:=⟨20,q2tr,q2tt,F,q2tu⟩
abbrev q2tw:Type:=(qur→Option qus)×Unit
def q2tx (d:Nat):q2tw:=(quw d,())
def q2ty (C:q2tw):List Go.Tx.Spec:=[quu C.1]
abbrev q2tz:Type:=List DLiE×List DLiE
def q2u0 (v:q2tz):St:=⟨[(0,.fz RLiE v.1),(1,.fz RLiE v.2)],[]⟩
def q2u1 (C:q2tw) (v:q2tz):Dt q2tz:=(Dt.ret (v.1,v.2))
abbrev q3r4 {V Y:Type}:=@rg q2tw V Y tysT (fun C=>(orc (q2ty C))) 27
theorem q2u2 C v:q3r4 (regO (qdk f20) 0) false [(0,(.val RLiE)),(1,(.val RLiE))] q2u0 q2u1 q2u0 C v:=rgI (by kernel_rfl)
abbrev q2u3:Type:=List DLiE×List DLiE×Bool
def q2u4 (v:q2u3):St:=⟨[(0,.fz RLiE v.1),(1,.fz RLiE v.2.1),(10,.bool v.2.2)],[]⟩
def q2u5 (C:q2tw) (v:q2tz):Dt q2u3:=(Dt.ret (v.1,v.2,((List.length v.1:Int) != (List.length v.2:Int))))
theorem q2u6 C v:q3r4 (regO (qdk f20) 1) false [(0,(.val RLiE)),(1,(.val RLiE)),(10,.any)] q2u0 q2u5 q2u4 C v:=rgI (by kernel_rfl)
abbrev q2u7:Type:=Bool
def q2u8 (v:q2u7):St:=⟨[(4,.bool v)],[]⟩
def q2u9 (C:q2tw) (v:q2u3):Dt q2u7:=(Dt.ret false)
theorem q2ua C v:q3r4 (regO (qdk f20) 2) false [(4,.any)] q2u4 q2u9 q2u8 C v:=rgI (by kernel_rfl)
abbrev q2ub:Type:=List DLiE×List DLiE×Int
def q2uc (v:q2ub):St:=⟨[(0,.fz RLiE v.1),(1,.fz RLiE v.2.1),(5,i6 v.2.2)],[]⟩
def q2ud (C:q2tw) (v:q2u3):Dt q2ub:=(Dt.ret (v.1,v.2.1,(0:Int)))
theorem q2ue C v:q3r4 (regO (qdk f20) 3) false [(0,(.val RLiE)),(1,(.val RLiE)),(5,.any)] q2u4 q2ud q2uc C v:=rgI (by kernel_rfl)
abbrev q2uf:Type:=List DLiE×List DLiE×Int×Bool
def q2ug (v:q2uf):St:=⟨[(0,.fz RLiE v.1),(1,.fz RLiE v.2.1),(5,i6 v.2.2.1),(14,.bool v.2.2.2)],[]⟩
def q2uh (C:q2tw) (v:q2ub):Dt q2uf:=(Dt.ret (v.1,v.2.1,v.2.2,(decide (v.2.2<(List.length v.1:Int)))))
theorem q2ui C v:q3r4 (regO (qdk f20) 4) false [(0,(.val RLiE)),(1,(.val RLiE)),(5,.any),(14,.any)] q2uc q2uh q2ug C v:=rgI (by kernel_rfl)
abbrev q2uj:Type:=List DLiE×List DLiE×Int×Bool
def q2uk (v:q2uj):St:=⟨[(0,.fz RLiE v.1),(1,.fz RLiE v.2.1),(5,i6 v.2.2.1),(26,.bool v.2.2.2)],[]⟩
def q2ul (C:q2tw) (v:q2uf):Dt q2uj:=(Dt.ite (inB v.2.2.1 (List.length v.1)) (Dt.ite (inB v.2.2.1 (List.length v.2.1)) (Dt.bnd (C.1 (((elt zLiE v.1 (v.2.2.1).toNat).1,()),((elt zLiE v.2.1 (v.2.2.1).toNat).1,()),())) fun r1=>(Dt.ret (v.1,v.2.1,v.2.2.1,(!r1)))) Dt.fail) Dt.fail)
theorem q2um C v:q3r4 (regO (qdk f20) 6) true [(0,(.val RLiE)),(1,(.val RLiE)),(5,.any),(26,.any)] q2ug q2ul q2uk C v:=rgI (by kernel_rfl)
def q2un (C:q2tw) (v:q2uj):Dt q2u7:=(Dt.ret false)
theorem q2uo C v:q3r4 (regO (qdk f20) 7) false [(4,.any)] q2uk q2un q2u8 C v:=rgI (by kernel_rfl)
def q2up (C:q2tw) (v:q2uj):Dt q2ub:=(Dt.ret (v.1,v.2.1,(IntKind.wrap .i64 (v.2.2.1+(1:Int)))))
theorem q2uq C v:q3r4 (regO (qdk f20) 5) false [(0,(.val RLiE)),(1,(.val RLiE)),(5,.any)] q2uk q2up q2uc C v:=rgI (by kernel_rfl)
def q2ur (C:q2tw) (v:q2uf):Dt q2u7:=(Dt.ret true)
theorem q2us C v:q3r4 (regO (qdk f20) 8) false [(4,.any)] q2ug q2ur q2u8 C v:=rgI (by kernel_rfl)
def q2ut (d:Nat) (self1:(List DLiE×List DLiE×Int)→Option q2tt) (x1:List DLiE×List DLiE×Int):Option q2tt :=
 (q2uh (q2tx d) x1).eval fun y4 =>
 bif y4.2.2.2 then ((q2ul (q2tx d) y4).eval fun y6 =>
 bif y6.2.2.2 then ((q2un (q2tx d) y6).eval fun y7 =>
 some y7) else ((q2up (q2tx d) y6).eval fun y5 =>
 self1 y5)) else ((q2ur (q2tx d) y4).eval fun y8 =>
 some y8)
def q2uu (d:Nat) (x:q2ts):Option q2tt :=
 (q2u1 (q2tx d) (x.1.1,x.2.1.1)).eval fun y0 =>
 (q2u5 (q2tx d) y0).eval fun y1 =>
 bif y1.2.2 then ((q2u9 (q2tx d) y1).eval fun y2 =>
 some y2) else ((q2ud (q2tx d) y1).eval fun y3 =>
 iter (q2ut d ) d y3)
theorem q2uv (d:Nat):COK prog (q2tv (q2uu d)):=by
 have hm:prog.follows .mixedOrders=true:=mixed
 have hT:=tys
 have hC0:OrcOK prog (orc (q2ty (q2tx d))):=qde (by
  intro S hS
  simp only [q2ty,List.mem_cons,List.not_mem_nil,or_false] at hS
  subst hS;exact quy d)
 have hC:OrcOK prog (orc (q2ty (q2tx d))):=hC0
 refine q93 (c:=qdk f20) (fn:=f20) hT (by kernel_rfl) (by kernel_rfl) (by decide) fun x r h w0 φ0 Q hend=>?_
 replace h:q2uu d x=some r:=h
 unfold q2uu at h
 show Run prog w0 φ0 27 (qdk f20) ⟨[(0,.fz RLiE x.1.1),(1,.fz RLiE x.2.1.1)],[]⟩ Q
 refine q3pf hm hT hC (q2u2 (q2tx d) (x.1.1,x.2.1.1)) h fun y0 h=>?_
 refine q8m ?_
 refine q3pf hm hT hC (q2u6 (q2tx d) y0) h fun y1 h=>?_
 refine q8q (v:=y1.2.2) (by kernel_rfl) h ?_ ?_
 ·
  intro h
  refine q3pf hm hT hC (q2ua (q2tx d) y1) h fun y2 h=>?_
  refine q8l (q8a ?_)
  cases h
  exact (hend _ (by kernel_rfl)).2
 ·
  intro h
  refine q8i (q88 (q8m ?_))
  refine q3pf hm hT hC (q2ue (q2tx d) y1) h fun y3 h=>?_
  refine q8n ?_
  refine q8s (G:=iter (q2ut d )) (S:=(fun x1=>⟨[(0,.fz RLiE x1.1),(1,.fz RLiE x1.2.1),(5,i6 x1.2.2)],[]⟩:List DLiE×List DLiE×Int→St)) (fun _=>rfl) ?_ d _ h
  intro n1 x1 h K1 hn1
  replace h:q2ut d  (iter (q2ut d ) n1) x1=some r:=h
  generalize iter (q2ut d ) n1=self1 at h hn1
  unfold q2ut at h
  refine q8m ?_
  refine q3pf hm hT hC (q2ui (q2tx d) x1) h fun y4 h=>?_
  refine q8q (v:=y4.2.2.2) (by kernel_rfl) h ?_ ?_
  ·
   intro h
   refine q8i (q88 (q8m (q8n ?_)))
   refine q3pf hm hT hC (q2um (q2tx d) y4) h fun y6 h=>?_
   refine q8q (v:=y6.2.2.2) (by kernel_rfl) h ?_ ?_
   ·
    intro h
    refine q3pf hm hT hC (q2uo (q2tx d) y6) h fun y7 h=>?_
    refine q8l (q8c (q8a (q8a (q8c (q8a ?_)))))
    cases h
    exact (hend _ (by kernel_rfl)).2
   ·
    intro h
    refine q8i (q8b (q88 ?_))
    refine q8r hm hT hC (q2uq (q2tx d) y6) h ?_
    intro y5 h
    exact hn1 _ h
  ·
   intro h
   refine q8k (q89 (q89 (q8d (q88 ?_))))
   refine q3pf hm hT hC (q2us (q2tx d) y4) h fun y8 h=>?_
   refine q8l ?_
   cases h
   exact (hend _ (by kernel_rfl)).2
abbrev q2uw:List Pk:=[.row qjz false,.row qjz false]
abbrev q2ux:Type:=qk0×qk0×Unit
abbrev q2uy:Type:=Bool
def q2uz (r:q2uy):LV×List Ob:=(.bool r,[])
def q2v0 (F:q2ux→Option q2uy):Go.Tx.Spec:=⟨19,q2uw,q2uy,F,q2uz⟩
abbrev q2v1:Type:=Unit
def q2v2 (_d:Nat):q2v1:=()
def q2v3 (C:q2v1):List Go.Tx.Spec:=[]
abbrev q2v4:Type:=List Dii×List Dii
def q2v5 (v:q2v4):St:=⟨[(0,.fz Rii v.1),(1,.fz Rii v.2)],[]⟩
def q2v6 (C:q2v1) (v:q2v4):Dt q2v4:=(Dt.ret (v.1,v.2))
abbrev q3r5 {V Y:Type}:=@rg q2v1 V Y tysT (fun C=>(orc (q2v3 C))) 26
theorem q2v7 C v:q3r5 (regO (qdk f19) 0) false [(0,(.val Rii)),(1,(.val Rii))] q2v5 q2v6 q2v5 C v:=rgI (by kernel_rfl)
abbrev q2v8:Type:=List Dii×List Dii×Bool
def q2v9 (v:q2v8):St:=⟨[(0,.fz Rii v.1),(1,.fz Rii v.2.1),(10,.bool v.2.2)],[]⟩
def q2va (C:q2v1) (v:q2v4):Dt q2v8:=(Dt.ret (v.1,v.2,((List.length v.1:Int) != (List.length v.2:Int))))
theorem q2vb C v:q3r5 (regO (qdk f19) 1) false [(0,(.val Rii)),(1,(.val Rii)),(10,.any)] q2v5 q2va q2v9 C v:=rgI (by kernel_rfl)
abbrev q2vc:Type:=Bool
def q2vd (v:q2vc):St:=⟨[(4,.bool v)],[]⟩
def q2ve (C:q2v1) (v:q2v8):Dt q2vc:=(Dt.ret false)
theorem q2vf C v:q3r5 (regO (qdk f19) 2) false [(4,.any)] q2v9 q2ve q2vd C v:=rgI (by kernel_rfl)
abbrev q2vg:Type:=List Dii×List Dii×Int
def q2vh (v:q2vg):St:=⟨[(0,.fz Rii v.1),(1,.fz Rii v.2.1),(5,i6 v.2.2)],[]⟩
def q2vi (C:q2v1) (v:q2v8):Dt q2vg:=(Dt.ret (v.1,v.2.1,(0:Int)))
theorem q2vj C v:q3r5 (regO (qdk f19) 3) false [(0,(.val Rii)),(1,(.val Rii)),(5,.any)] q2v9 q2vi q2vh C v:=rgI (by kernel_rfl)
abbrev q2vk:Type:=List Dii×List Dii×Int×Bool
def q2vl (v:q2vk):St:=⟨[(0,.fz Rii v.1),(1,.fz Rii v.2.1),(5,i6 v.2.2.1),(14,.bool v.2.2.2)],[]⟩
def q2vm (C:q2v1) (v:q2vg):Dt q2vk:=(Dt.ret (v.1,v.2.1,v.2.2,(decide (v.2.2<(List.length v.1:Int)))))
theorem q2vn C v:q3r5 (regO (qdk f19) 4) false [(0,(.val Rii)),(1,(.val Rii)),(5,.any),(14,.any)] q2vh q2vm q2vl C v:=rgI (by kernel_rfl)
abbrev q2vo:Type:=List Dii×List Dii×Int×Bool
def q2vp (v:q2vo):St:=⟨[(0,.fz Rii v.1),(1,.fz Rii v.2.1),(5,i6 v.2.2.1),(25,.bool v.2.2.2)],[]⟩
def q2vq (C:q2v1) (v:q2vk):Dt q2vo:=(Dt.ite (inB v.2.2.1 (List.length v.1)) (Dt.ite (inB v.2.2.1 (List.length v.2.1)) (Dt.ret (v.1,v.2.1,v.2.2.1,(!(((elt zii v.1 (v.2.2.1).toNat).1 == (elt zii v.2.1 (v.2.2.1).toNat).1)&&(((elt zii v.1 (v.2.2.1).toNat).2.1 == (elt zii v.2.1 (v.2.2.1).toNat).2.1)&&true))))) Dt.fail) Dt.fail)
theorem q2vr C v:q3r5 (regO (qdk f19) 6) true [(0,(.val Rii)),(1,(.val Rii)),(5,.any),(25,.any)] q2vl q2vq q2vp C v:=rgI (by kernel_rfl)
def q2vs (C:q2v1) (v:q2vo):Dt q2vc:=(Dt.ret false)
theorem q2vt C v:q3r5 (regO (qdk f19) 7) false [(4,.any)] q2vp q2vs q2vd C v:=rgI (by kernel_rfl)
def q2vu (C:q2v1) (v:q2vo):Dt q2vg:=(Dt.ret (v.1,v.2.1,(IntKind.wrap .i64 (v.2.2.1+(1:Int)))))
theorem q2vv C v:q3r5 (regO (qdk f19) 5) false [(0,(.val Rii)),(1,(.val Rii)),(5,.any)] q2vp q2vu q2vh C v:=rgI (by kernel_rfl)
def q2vw (C:q2v1) (v:q2vk):Dt q2vc:=(Dt.ret true)
theorem q2vx C v:q3r5 (regO (qdk f19) 8) false [(4,.any)] q2vl q2vw q2vd C v:=rgI (by kernel_rfl)
def q2vy (d:Nat) (self1:(List Dii×List Dii×Int)→Option q2uy) (x1:List Dii×List Dii×Int):Option q2uy :=
 (q2vm (q2v2 d) x1).eval fun y4 =>
 bif y4.2.2.2 then ((q2vq (q2v2 d) y4).eval fun y6 =>
 bif y6.2.2.2 then ((q2vs (q2v2 d) y6).eval fun y7 =>
 some y7) else ((q2vu (q2v2 d) y6).eval fun y5 =>
 self1 y5)) else ((q2vw (q2v2 d) y4).eval fun y8 =>
 some y8)
def q2vz (d:Nat) (x:q2ux):Option q2uy :=
 (q2v6 (q2v2 d) (x.1.1,x.2.1.1)).eval fun y0 =>
 (q2va (q2v2 d) y0).eval fun y1 =>
 bif y1.2.2 then ((q2ve (q2v2 d) y1).eval fun y2 =>
 some y2) else ((q2vi (q2v2 d) y1).eval fun y3 =>
 iter (q2vy d ) d y3)
theorem q2w0 (d:Nat):COK prog (q2v0 (q2vz d)):=by
 have hm:prog.follows .mixedOrders=true:=mixed
 have hT:=tys
 have hC0:OrcOK prog (orc (q2v3 (q2v2 d))):=qde (by
  intro S hS
  simp only [q2v3,List.mem_cons,List.not_mem_nil,or_false] at hS
  all_goals first | cases hS | exact hS.elim)
 have hC:OrcOK prog (orc (q2v3 (q2v2 d))):=hC0
 refine q93 (c:=qdk f19) (fn:=f19) hT (by kernel_rfl) (by kernel_rfl) (by decide) fun x r h w0 φ0 Q hend=>?_
 replace h:q2vz d x=some r:=h
 unfold q2vz at h
 show Run prog w0 φ0 26 (qdk f19) ⟨[(0,.fz Rii x.1.1),(1,.fz Rii x.2.1.1)],[]⟩ Q
 refine q3pf hm hT hC (q2v7 (q2v2 d) (x.1.1,x.2.1.1)) h fun y0 h=>?_
 refine q8m ?_
 refine q3pf hm hT hC (q2vb (q2v2 d) y0) h fun y1 h=>?_
 refine q8q (v:=y1.2.2) (by kernel_rfl) h ?_ ?_
 ·
  intro h
  refine q3pf hm hT hC (q2vf (q2v2 d) y1) h fun y2 h=>?_
  refine q8l (q8a ?_)
  cases h
  exact (hend _ (by kernel_rfl)).2
 ·
  intro h
  refine q8i (q88 (q8m ?_))
  refine q3pf hm hT hC (q2vj (q2v2 d) y1) h fun y3 h=>?_
  refine q8n ?_
  refine q8s (G:=iter (q2vy d )) (S:=(fun x1=>⟨[(0,.fz Rii x1.1),(1,.fz Rii x1.2.1),(5,i6 x1.2.2)],[]⟩:List Dii×List Dii×Int→St)) (fun _=>rfl) ?_ d _ h
  intro n1 x1 h K1 hn1
  replace h:q2vy d  (iter (q2vy d ) n1) x1=some r:=h
  generalize iter (q2vy d ) n1=self1 at h hn1
  unfold q2vy at h
  refine q8m ?_
  refine q3pf hm hT hC (q2vn (q2v2 d) x1) h fun y4 h=>?_
  refine q8q (v:=y4.2.2.2) (by kernel_rfl) h ?_ ?_
  ·
   intro h
   refine q8i (q88 (q8m (q8n ?_)))
   refine q3pf hm hT hC (q2vr (q2v2 d) y4) h fun y6 h=>?_
   refine q8q (v:=y6.2.2.2) (by kernel_rfl) h ?_ ?_
   ·
    intro h
    refine q3pf hm hT hC (q2vt (q2v2 d) y6) h fun y7 h=>?_
    refine q8l (q8c (q8a (q8a (q8c (q8a ?_)))))
    cases h
    exact (hend _ (by kernel_rfl)).2
   ·
    intro h
    refine q8i (q8b (q88 ?_))
    refine q8r hm hT hC (q2vv (q2v2 d) y6) h ?_
    intro y5 h
    exact hn1 _ h
  ·
   intro h
   refine q8k (q89 (q89 (q8d (q88 ?_))))
   refine q3pf hm hT hC (q2vx (q2v2 d) y4) h fun y8 h=>?_
   refine q8l ?_
   cases h
   exact (hend _ (by kernel_rfl)).2
end Go.Proofs.YtbjpmdhdoggobaaGreat

namespace Go.Proofs.YtbjpmdhdoggobaaGreat
open Go Go.Tx Go.Pel Go.Proofs.Tryz
set_option maxRecDepth 100000
set_option maxHeartbeats 0
end Go.Proofs.YtbjpmdhdoggobaaGreat
