/- Walks of the references; the orders agree; examples. -/
import Derived.Test.YtbjpmdhdoggobaaGreatGf
set_option linter.unusedSimpArgs false
set_option linter.unusedVariables false
namespace Go.Proofs.YtbjpmdhdoggobaaGreat
open Go Go.Tx Go.Proofs.Tryz
set_option maxRecDepth 100000
set_option maxHeartbeats 0
abbrev q2eg:List Pk:=[.row Rbuu true]
abbrev q2eh:Type:=Dbuu×Unit
abbrev q2ei:Type:=Int
def q2ej (r:q2ei):LV×List Ob:=(.int .i64 r,[])
def q2ek (F:q2eh→Option q2ei):Go.Tx.Spec:=⟨48,q2eg,q2ei,F,q2ej⟩
abbrev q2el:Type:=Unit
def q2em (_d:Nat):q2el:=()
def q2en (C:q2el):List Go.Tx.Spec:=[]
abbrev q2eo:Type:=Bool×Int×Int
def q2ep (v:q2eo):St:=⟨[(0,.agg [.bool v.1,u6 v.2.1,u6 v.2.2])],[]⟩
abbrev q2eq:Type:=Bool×Int×Int
def q2er (v:q2eq):St:=⟨[(1,.ptr 0 0)],[.cells [.bool v.1,u6 v.2.1,u6 v.2.2]]⟩
def q2es (C:q2el) (v:q2eo):Dt q2eq:=(Dt.ret (v.1,v.2.1,v.2.2))
abbrev q3qt {V Y:Type}:=@rg q2el V Y tysT (fun C=>(orc (q2en C))) 13
theorem q2et C v:q3qt (regO (qdk f48) 0) false [(1,.any)] q2ep q2es q2er C v:=rgI (by kernel_rfl)
abbrev q2eu:Type:=Bool×Bool×Int×Int
def q2ev (v:q2eu):St:=⟨[(1,.ptr 0 0),(10,.bool v.1)],[.cells [.bool v.2.1,u6 v.2.2.1,u6 v.2.2.2]]⟩
def q2ew (C:q2el) (v:q2eq):Dt q2eu:=(Dt.ite (v.2.1 == (0:Int)) (Dt.ret ((v.2.2 == (0:Int)),v.1,v.2.1,v.2.2)) (Dt.ret (false,v.1,v.2.1,v.2.2)))
theorem q2ex C v:q3qt (regO (qdk f48) 1) false (an [1,10]) q2er q2ew q2ev C v:=rgI (by kernel_rfl)
abbrev q2ey:Type:=Int
def q2ez (v:q2ey):St:=⟨[(2,i6 v)],[]⟩
def q2f0 (C:q2el) (v:q2eu):Dt q2ey:=(Dt.ret (0:Int))
theorem q2f1 C v:q3qt (regO (qdk f48) 2) false [(2,.any)] q2ev q2f0 q2ez C v:=rgI (by kernel_rfl)
abbrev q2f2:Type:=Bool
def q2f3 (v:q2f2):St:=⟨[(12,.bool v)],[]⟩
def q2f4 (C:q2el) (v:q2eu):Dt q2f2:=(Dt.ret v.2.1)
theorem q2f5 C v:q3qt (regO (qdk f48) 3) false [(12,.any)] q2ev q2f4 q2f3 C v:=rgI (by kernel_rfl)
def q2f6 (C:q2el) (v:q2f2):Dt q2ey:=(Dt.ret (-1:Int))
theorem q2f7 C v:q3qt (regO (qdk f48) 4) false [(2,.any)] q2f3 q2f6 q2ez C v:=rgI (by kernel_rfl)
def q2f8 (C:q2el) (v:q2f2):Dt q2ey:=(Dt.ret (1:Int))
theorem q2f9 C v:q3qt (regO (qdk f48) 5) false [(2,.any)] q2f3 q2f8 q2ez C v:=rgI (by kernel_rfl)
def q2fa (d:Nat) (x:q2eh):Option q2ei :=
 (q2es (q2em d) (x.1.1,x.1.2.1,x.1.2.2.1)).eval fun y0 =>
 (q2ew (q2em d) y0).eval fun y1 =>
 bif y1.1 then ((q2f0 (q2em d) y1).eval fun y2 =>
 some y2) else ((q2f4 (q2em d) y1).eval fun y3 =>
 bif y3 then ((q2f6 (q2em d) y3).eval fun y4 =>
 some y4) else ((q2f8 (q2em d) y3).eval fun y5 =>
 some y5))
theorem q2fb (d:Nat):COK prog (q2ek (q2fa d)):=by
 have hm:prog.follows .mixedOrders=true:=mixed
 have hT:=tys
 have hC0:OrcOK prog (orc (q2en (q2em d))):=qde (by
  intro S hS
  simp only [q2en,List.mem_cons,List.not_mem_nil,or_false] at hS
  all_goals first | cases hS | exact hS.elim)
 have hC:OrcOK prog (orc (q2en (q2em d))):=hC0
 refine q93 (c:=qdk f48) (fn:=f48) hT (by kernel_rfl) (by kernel_rfl) (by decide) fun x r h w0 φ0 Q hend=>?_
 replace h:q2fa d x=some r:=h
 unfold q2fa at h
 show Run prog w0 φ0 13 (qdk f48) ⟨[(0,.agg [.bool x.1.1,.int .u64 x.1.2.1,.int .u64 x.1.2.2.1])],[]⟩ Q
 refine q3pf hm hT hC (q2et (q2em d) (x.1.1,x.1.2.1,x.1.2.2.1)) h fun y0 h=>?_
 refine q8m ?_
 refine q3pf hm hT hC (q2ex (q2em d) y0) h fun y1 h=>?_
 refine q8q (v:=y1.1) (by kernel_rfl) h ?_ ?_
 ·
  intro h
  refine q3pf hm hT hC (q2f1 (q2em d) y1) h fun y2 h=>?_
  refine q8l (q8a ?_)
  cases h
  exact (hend _ (by kernel_rfl)).2
 ·
  intro h
  refine q8i (q88 (q8m ?_))
  refine q3pf hm hT hC (q2f5 (q2em d) y1) h fun y3 h=>?_
  refine q8q (v:=y3) (by kernel_rfl) h ?_ ?_
  ·
   intro h
   refine q3pf hm hT hC (q2f7 (q2em d) y3) h fun y4 h=>?_
   refine q8l (q8a ?_)
   cases h
   exact (hend _ (by kernel_rfl)).2
  ·
   intro h
   refine q8i (q88 ?_)
   refine q3pf hm hT hC (q2f9 (q2em d) y3) h fun y5 h=>?_
   refine q8l ?_
   cases h
   exact (hend _ (by kernel_rfl)).2
abbrev q2fc:List Pk:=[.row Rii true,.row Rii true]
abbrev q2fd:Type:=Dii×Dii×Unit
abbrev q2fe:Type:=Int
def q2ff (r:q2fe):LV×List Ob:=(.int .i64 r,[])
def q2fg (F:q2fd→Option q2fe):Go.Tx.Spec:=⟨28,q2fc,q2fe,F,q2ff⟩
abbrev q2fh:Type:=(qmz→Option qn0)×(q2eh→Option q2ei)×(q1ki→Option q1kj)×Unit
def q2fi (d:Nat):q2fh:=(qn4 d,q2fa d,q1ln d,())
def q2fj (C:q2fh):List Go.Tx.Spec:=[qn2 C.1,q2ek C.2.1,q1kl C.2.2.1]
abbrev q2fk:Type:=Int×Int×Int×Int
def q2fl (v:q2fk):St:=⟨[(0,.agg [i6 v.1,i6 v.2.1]),(1,.agg [i6 v.2.2.1,i6 v.2.2.2])],[]⟩
abbrev q2fm:Type:=Int×Int×Int×Int
def q2fn (v:q2fm):St:=⟨[(2,.ptr 0 0),(3,.ptr 1 0)],[.cells [i6 v.1,i6 v.2.1],.cells [i6 v.2.2.1,i6 v.2.2.2]]⟩
def q2fo (C:q2fh) (v:q2fk):Dt q2fm:=(Dt.ret (v.1,v.2.1,v.2.2.1,v.2.2.2))
abbrev q3qu {V Y:Type}:=@rg q2fh V Y tysT (fun C=>(orc (q2fj C))) 36
theorem q2fp C v:q3qu (regO (qdk f28) 0) false (an [2,3]) q2fl q2fo q2fn C v:=rgI (by kernel_rfl)
abbrev q2fq:Type:=Bool×Int×Int×Bool×Int×Int
def q2fr (v:q2fq):St:=⟨[(5,.ptr 0 0),(6,.ptr 1 0)],[.cells [.bool v.1,u6 v.2.1,u6 v.2.2.1],.cells [.bool v.2.2.2.1,u6 v.2.2.2.2.1,u6 v.2.2.2.2.2]]⟩
def q2fs (C:q2fh) (v:q2fm):Dt q2fq:=(Dt.bnd (C.1 ((v.1,()),(v.2.2.2,()),())) fun r1=>(Dt.bnd (C.1 ((v.2.2.1,()),(v.2.1,()),())) fun r2=>(Dt.ret (r1.1,r1.2.1,r1.2.2,r2.1,r2.2.1,r2.2.2))))
theorem q2ft C v:q3qu (regO (qdk f28) 1) true (an [5,6]) q2fn q2fs q2fr C v:=rgI (by kernel_rfl)
abbrev q2fu:Type:=Bool×Bool×Int×Int×Bool×Int×Int
def q2fv (v:q2fu):St:=⟨[(5,.ptr 0 0),(6,.ptr 1 0),(21,.bool v.1)],[.cells [.bool v.2.1,u6 v.2.2.1,u6 v.2.2.2.1],.cells [.bool v.2.2.2.2.1,u6 v.2.2.2.2.2.1,u6 v.2.2.2.2.2.2]]⟩
def q2fw (C:q2fh) (v:q2fq):Dt q2fu:=(Dt.bnd (C.2.1 ((v.1,v.2.1,v.2.2.1,()),())) fun r1=>(Dt.bnd (C.2.1 ((v.2.2.2.1,v.2.2.2.2.1,v.2.2.2.2.2,()),())) fun r2=>(Dt.ret ((r1 != r2),v.1,v.2.1,v.2.2.1,v.2.2.2.1,v.2.2.2.2.1,v.2.2.2.2.2))))
theorem q2fx C v:q3qu (regO (qdk f28) 2) true (an [5,6,21]) q2fr q2fw q2fv C v:=rgI (by kernel_rfl)
abbrev q2fy:Type:=Bool
def q2fz (v:q2fy):St:=⟨[(26,.bool v)],[]⟩
def q2g0 (C:q2fh) (v:q2fu):Dt q2fy:=(Dt.bnd (C.2.1 ((v.2.1,v.2.2.1,v.2.2.2.1,()),())) fun r1=>(Dt.bnd (C.2.1 ((v.2.2.2.2.1,v.2.2.2.2.2.1,v.2.2.2.2.2.2,()),())) fun r2=>(Dt.ret (decide (r1<r2)))))
theorem q2g1 C v:q3qu (regO (qdk f28) 3) true [(26,.any)] q2fv q2g0 q2fz C v:=rgI (by kernel_rfl)
abbrev q2g2:Type:=Int
def q2g3 (v:q2g2):St:=⟨[(4,i6 v)],[]⟩
def q2g4 (C:q2fh) (v:q2fy):Dt q2g2:=(Dt.ret (-1:Int))
theorem q2g5 C v:q3qu (regO (qdk f28) 4) false [(4,.any)] q2fz q2g4 q2g3 C v:=rgI (by kernel_rfl)
def q2g6 (C:q2fh) (v:q2fy):Dt q2g2:=(Dt.ret (1:Int))
theorem q2g7 C v:q3qu (regO (qdk f28) 5) false [(4,.any)] q2fz q2g6 q2g3 C v:=rgI (by kernel_rfl)
abbrev q2g8:Type:=Bool×Bool×Int×Int×Bool×Int×Int
def q2g9 (v:q2g8):St:=⟨[(5,.ptr 0 0),(6,.ptr 1 0),(29,.bool v.1)],[.cells [.bool v.2.1,u6 v.2.2.1,u6 v.2.2.2.1],.cells [.bool v.2.2.2.2.1,u6 v.2.2.2.2.2.1,u6 v.2.2.2.2.2.2]]⟩
def q2ga (C:q2fh) (v:q2fu):Dt q2g8:=(Dt.bnd (C.2.1 ((v.2.1,v.2.2.1,v.2.2.2.1,()),())) fun r1=>(Dt.ret ((decide (r1<(0:Int))),v.2.1,v.2.2.1,v.2.2.2.1,v.2.2.2.2.1,v.2.2.2.2.2.1,v.2.2.2.2.2.2)))
theorem q2gb C v:q3qu (regO (qdk f28) 6) false (an [5,6,29]) q2fv q2ga q2g9 C v:=rgI (by kernel_rfl)
def q2gc (C:q2fh) (v:q2g8):Dt q2g2:=(Dt.bnd (C.2.2.1 ((v.2.2.2.2.1,v.2.2.2.2.2.1,v.2.2.2.2.2.2,()),(v.2.1,v.2.2.1,v.2.2.2.1,()),())) fun r1=>(Dt.ret r1))
theorem q2gd C v:q3qu (regO (qdk f28) 7) false [(4,.any)] q2g9 q2gc q2g3 C v:=rgI (by kernel_rfl)
def q2ge (C:q2fh) (v:q2g8):Dt q2g2:=(Dt.bnd (C.2.2.1 ((v.2.1,v.2.2.1,v.2.2.2.1,()),(v.2.2.2.2.1,v.2.2.2.2.2.1,v.2.2.2.2.2.2,()),())) fun r1=>(Dt.ret r1))
theorem q2gf C v:q3qu (regO (qdk f28) 8) false [(4,.any)] q2g9 q2ge q2g3 C v:=rgI (by kernel_rfl)
def q2gg (d:Nat) (x:q2fd):Option q2fe :=
 (q2fo (q2fi d) (x.1.1,x.1.2.1,x.2.1.1,x.2.1.2.1)).eval fun y0 =>
 (q2fs (q2fi d) y0).eval fun y1 =>
 (q2fw (q2fi d) y1).eval fun y2 =>
 bif y2.1 then ((q2g0 (q2fi d) y2).eval fun y3 =>
 bif y3 then ((q2g4 (q2fi d) y3).eval fun y4 =>
 some y4) else ((q2g6 (q2fi d) y3).eval fun y5 =>
 some y5)) else ((q2ga (q2fi d) y2).eval fun y6 =>
 bif y6.1 then ((q2gc (q2fi d) y6).eval fun y7 =>
 some y7) else ((q2ge (q2fi d) y6).eval fun y8 =>
 some y8))
theorem q2gh (d:Nat):COK prog (q2fg (q2gg d)):=by
 have hm:prog.follows .mixedOrders=true:=mixed
 have hT:=tys
 have hC0:OrcOK prog (orc (q2fj (q2fi d))):=qde (by
  intro S hS
  simp only [q2fj,List.mem_cons,List.not_mem_nil,or_false] at hS
  rcases hS with rfl | rfl | rfl
  · exact qn6 d
  · exact q2fb d
  · exact q1lo d)
 have hC:OrcOK prog (orc (q2fj (q2fi d))):=hC0
 refine q93 (c:=qdk f28) (fn:=f28) hT (by kernel_rfl) (by kernel_rfl) (by decide) fun x r h w0 φ0 Q hend=>?_
 replace h:q2gg d x=some r:=h
 unfold q2gg at h
 show Run prog w0 φ0 36 (qdk f28) ⟨[(0,.agg [.int .i64 x.1.1,.int .i64 x.1.2.1]),(1,.agg [.int .i64 x.2.1.1,.int .i64 x.2.1.2.1])],[]⟩ Q
 refine q3pf hm hT hC (q2fp (q2fi d) (x.1.1,x.1.2.1,x.2.1.1,x.2.1.2.1)) h fun y0 h=>?_
 refine q3pf hm hT hC (q2ft (q2fi d) y0) h fun y1 h=>?_
 refine q8m ?_
 refine q3pf hm hT hC (q2fx (q2fi d) y1) h fun y2 h=>?_
 refine q8q (v:=y2.1) (by kernel_rfl) h ?_ ?_
 ·
  intro h
  refine q8m ?_
  refine q3pf hm hT hC (q2g1 (q2fi d) y2) h fun y3 h=>?_
  refine q8q (v:=y3) (by kernel_rfl) h ?_ ?_
  ·
   intro h
   refine q3pf hm hT hC (q2g5 (q2fi d) y3) h fun y4 h=>?_
   refine q8l (q8a (q8a ?_))
   cases h
   exact (hend _ (by kernel_rfl)).2
  ·
   intro h
   refine q8i (q88 ?_)
   refine q3pf hm hT hC (q2g7 (q2fi d) y3) h fun y5 h=>?_
   refine q8l (q8a ?_)
   cases h
   exact (hend _ (by kernel_rfl)).2
 ·
  intro h
  refine q8i (q88 (q8m ?_))
  refine q3pf hm hT hC (q2gb (q2fi d) y2) h fun y6 h=>?_
  refine q8q (v:=y6.1) (by kernel_rfl) h ?_ ?_
  ·
   intro h
   refine q3pf hm hT hC (q2gd (q2fi d) y6) h fun y7 h=>?_
   refine q8l (q8a ?_)
   cases h
   exact (hend _ (by kernel_rfl)).2
  ·
   intro h
   refine q8i (q88 ?_)
   refine q3pf hm hT hC (q2gf (q2fi d) y6) h fun y8 h=>?_
   refine q8l ?_
   cases h
   exact (hend _ (by kernel_rfl)).2
abbrev q2gi:List Pk:=[.row Riii true,.row Riii true,.row Rii true]
abbrev q2gj:Type:=Diii×Diii×Dii×Unit
abbrev q2gk:Type:=Int×Int×Int
def q2gl (r:q2gk):LV×List Ob:=(.tup [.agg [.int .i64 r.1,.int .i64 r.2.1],.int .i64 r.2.2],[])
def q2gm (F:q2gj→Option q2gk):Go.Tx.Spec:=⟨34,q2gi,q2gk,F,q2gl⟩
abbrev q2gn:Type:=(q1wh→Option q1wi)×(q1td→Option q1te)×Unit
def q2go (d:Nat):q2gn:=(q1xi d,q1u0 d,())
def q2gp (C:q2gn):List Go.Tx.Spec:=[q1wk C.1,q1tg C.2.1]
abbrev q2gq:Type:=Int×Int×Int×Int×Int×Int×Int×Int
def q2gr (v:q2gq):St:=⟨[(0,.agg [i6 v.1,i6 v.2.1,i6 v.2.2.1]),(1,.agg [i6 v.2.2.2.1,i6 v.2.2.2.2.1,i6 v.2.2.2.2.2.1]),(2,.agg [i6 v.2.2.2.2.2.2.1,i6 v.2.2.2.2.2.2.2])],[]⟩
abbrev q2gs:Type:=Int×Int×Int×Int×Int×Int×Int×Int×Int×Int
def q2gt (v:q2gs):St:=⟨[(3,.ptr 0 0),(4,.ptr 1 0),(5,.ptr 2 0),(6,.ptr 3 0)],[.cells [i6 v.1,i6 v.2.1,i6 v.2.2.1],.cells [i6 v.2.2.2.1,i6 v.2.2.2.2.1,i6 v.2.2.2.2.2.1],.cells [i6 v.2.2.2.2.2.2.1,i6 v.2.2.2.2.2.2.2.1],.cells [i6 v.2.2.2.2.2.2.2.2.1,i6 v.2.2.2.2.2.2.2.2.2]]⟩
def q2gu (C:q2gn) (v:q2gq):Dt q2gs:=(Dt.ret (v.1,v.2.1,v.2.2.1,v.2.2.2.1,v.2.2.2.2.1,v.2.2.2.2.2.1,v.2.2.2.2.2.2.1,v.2.2.2.2.2.2.2,(0:Int),(0:Int)))
abbrev q3qv {V Y:Type}:=@rg q2gn V Y tysT (fun C=>(orc (q2gp C))) 36
theorem q2gv C v:q3qv (regO (qdk f34) 0) false (an [3,4,5,6]) q2gr q2gu q2gt C v:=rgI (by kernel_rfl)
abbrev q2gw:Type:=Int×Int×Int×Int×Int×Int×Int×Int×Int×Int
def q2gx (v:q2gw):St:=⟨[(4,.ptr 0 0),(5,.ptr 1 0),(6,.ptr 2 0),(8,.ptr 3 0),(9,i6 v.1)],[.cells [i6 v.2.1,i6 v.2.2.1,i6 v.2.2.2.1],.cells [i6 v.2.2.2.2.1,i6 v.2.2.2.2.2.1],.cells [i6 v.2.2.2.2.2.2.1,i6 v.2.2.2.2.2.2.2.1],.cells [i6 v.2.2.2.2.2.2.2.2.1,i6 v.2.2.2.2.2.2.2.2.2]]⟩
def q2gy (C:q2gn) (v:q2gs):Dt q2gw:=(Dt.bnd (C.1 ((v.1,v.2.1,v.2.2.1,()),(v.2.2.2.2.2.2.1,v.2.2.2.2.2.2.2.1,()),())) fun r1=>(Dt.ret (r1.2.2,v.2.2.2.1,v.2.2.2.2.1,v.2.2.2.2.2.1,v.2.2.2.2.2.2.1,v.2.2.2.2.2.2.2.1,v.2.2.2.2.2.2.2.2.1,v.2.2.2.2.2.2.2.2.2,r1.1,r1.2.1)))
theorem q2gz C v:q3qv (regO (qdk f34) 1) false (an [4,5,6,8,9]) q2gt q2gy q2gx C v:=rgI (by kernel_rfl)
abbrev q2h0:Type:=Int×Bool×Int×Int×Int×Int×Int×Int×Int×Int×Int
def q2h1 (v:q2h0):St:=⟨[(4,.ptr 0 0),(5,.ptr 1 0),(6,.ptr 2 0),(8,.ptr 3 0),(9,i6 v.1),(18,.bool v.2.1)],[.cells [i6 v.2.2.1,i6 v.2.2.2.1,i6 v.2.2.2.2.1],.cells [i6 v.2.2.2.2.2.1,i6 v.2.2.2.2.2.2.1],.cells [i6 v.2.2.2.2.2.2.2.1,i6 v.2.2.2.2.2.2.2.2.1],.cells [i6 v.2.2.2.2.2.2.2.2.2.1,i6 v.2.2.2.2.2.2.2.2.2.2]]⟩
def q2h2 (C:q2gn) (v:q2gw):Dt q2h0:=(Dt.ret (v.1,(v.1 != (0:Int)),v.2.1,v.2.2.1,v.2.2.2.1,v.2.2.2.2.1,v.2.2.2.2.2.1,v.2.2.2.2.2.2.1,v.2.2.2.2.2.2.2.1,v.2.2.2.2.2.2.2.2.1,v.2.2.2.2.2.2.2.2.2))
theorem q2h3 C v:q3qv (regO (qdk f34) 2) false (an [4,5,6,8,9,18]) q2gx q2h2 q2h1 C v:=rgI (by kernel_rfl)
abbrev q2h4:Type:=Int×Int×Int
def q2h5 (v:q2h4):St:=⟨[(6,.ptr 0 0),(7,i6 v.1)],[.cells [i6 v.2.1,i6 v.2.2]]⟩
def q2h6 (C:q2gn) (v:q2h0):Dt q2h4:=(Dt.ret (v.1,(0:Int),(0:Int)))
theorem q2h7 C v:q3qv (regO (qdk f34) 3) false (an [6,7]) q2h1 q2h6 q2h5 C v:=rgI (by kernel_rfl)
abbrev q2h8:Type:=Int×Int×Int×Int×Int×Int×Int
def q2h9 (v:q2h8):St:=⟨[(6,.ptr 0 0),(8,.ptr 1 0),(9,i6 v.1),(10,.ptr 2 0)],[.cells [i6 v.2.1,i6 v.2.2.1],.cells [i6 v.2.2.2.1,i6 v.2.2.2.2.1],.cells [i6 v.2.2.2.2.2.1,i6 v.2.2.2.2.2.2]]⟩
def q2ha (C:q2gn) (v:q2h0):Dt q2h8:=(Dt.bnd (C.1 ((v.2.2.1,v.2.2.2.1,v.2.2.2.2.1,()),(v.2.2.2.2.2.1,v.2.2.2.2.2.2.1,()),())) fun r1=>(Dt.ret (r1.2.2,v.2.2.2.2.2.2.2.1,v.2.2.2.2.2.2.2.2.1,v.2.2.2.2.2.2.2.2.2.1,v.2.2.2.2.2.2.2.2.2.2,r1.1,r1.2.1)))
theorem q2hb C v:q3qv (regO (qdk f34) 4) false (an [6,8,9,10]) q2h1 q2ha q2h9 C v:=rgI (by kernel_rfl)
abbrev q2hc:Type:=Int×Bool×Int×Int×Int×Int×Int×Int
def q2hd (v:q2hc):St:=⟨[(6,.ptr 0 0),(8,.ptr 1 0),(9,i6 v.1),(10,.ptr 2 0),(28,.bool v.2.1)],[.cells [i6 v.2.2.1,i6 v.2.2.2.1],.cells [i6 v.2.2.2.2.1,i6 v.2.2.2.2.2.1],.cells [i6 v.2.2.2.2.2.2.1,i6 v.2.2.2.2.2.2.2]]⟩
def q2he (C:q2gn) (v:q2h8):Dt q2hc:=(Dt.ret (v.1,(v.1 != (0:Int)),v.2.1,v.2.2.1,v.2.2.2.1,v.2.2.2.2.1,v.2.2.2.2.2.1,v.2.2.2.2.2.2))
theorem q2hf C v:q3qv (regO (qdk f34) 5) false (an [6,8,9,10,28]) q2h9 q2he q2hd C v:=rgI (by kernel_rfl)
def q2hg (C:q2gn) (v:q2hc):Dt q2h4:=(Dt.ret (v.1,(0:Int),(0:Int)))
theorem q2hh C v:q3qv (regO (qdk f34) 6) false (an [6,7]) q2hd q2hg q2h5 C v:=rgI (by kernel_rfl)
def q2hi (C:q2gn) (v:q2hc):Dt q2h4:=(Dt.bnd (C.2.1 ((v.2.2.2.2.1,v.2.2.2.2.2.1,()),(v.2.2.2.2.2.2.1,v.2.2.2.2.2.2.2,()),())) fun r1=>(Dt.ret (r1.2.2,r1.1,r1.2.1)))
theorem q2hj C v:q3qv (regO (qdk f34) 7) false (an [6,7]) q2hd q2hi q2h5 C v:=rgI (by kernel_rfl)
def q2hk (d:Nat) (x:q2gj):Option q2gk :=
 (q2gu (q2go d) (x.1.1,x.1.2.1,x.1.2.2.1,x.2.1.1,x.2.1.2.1,x.2.1.2.2.1,x.2.2.1.1,x.2.2.1.2.1)).eval fun y0 =>
 (q2gy (q2go d) y0).eval fun y1 =>
 (q2h2 (q2go d) y1).eval fun y2 =>
 bif y2.2.1 then ((q2h6 (q2go d) y2).eval fun y3 =>
 some (y3.2.1,y3.2.2,y3.1)) else ((q2ha (q2go d) y2).eval fun y4 =>
 (q2he (q2go d) y4).eval fun y5 =>
 bif y5.2.1 then ((q2hg (q2go d) y5).eval fun y6 =>
 some (y6.2.1,y6.2.2,y6.1)) else ((q2hi (q2go d) y5).eval fun y7 =>
 some (y7.2.1,y7.2.2,y7.1)))
theorem q2hl (d:Nat):COK prog (q2gm (q2hk d)):=by
 have hm:prog.follows .mixedOrders=true:=mixed
 have hT:=tys
 have hC0:OrcOK prog (orc (q2gp (q2go d))):=qde (by
  intro S hS
  simp only [q2gp,List.mem_cons,List.not_mem_nil,or_false] at hS
  rcases hS with rfl | rfl
  · exact q1xj d
  · exact q1u1 d)
 have hC:OrcOK prog (orc (q2gp (q2go d))):=hC0
 refine q93 (c:=qdk f34) (fn:=f34) hT (by kernel_rfl) (by kernel_rfl) (by decide) fun x r h w0 φ0 Q hend=>?_
 replace h:q2hk d x=some r:=h
 unfold q2hk at h
 show Run prog w0 φ0 36 (qdk f34) ⟨[(0,.agg [.int .i64 x.1.1,.int .i64 x.1.2.1,.int .i64 x.1.2.2.1]),(1,.agg [.int .i64 x.2.1.1,.int .i64 x.2.1.2.1,.int .i64 x.2.1.2.2.1]),(2,.agg [.int .i64 x.2.2.1.1,.int .i64 x.2.2.1.2.1])],[]⟩ Q
 refine q3pf hm hT hC (q2gv (q2go d) (x.1.1,x.1.2.1,x.1.2.2.1,x.2.1.1,x.2.1.2.1,x.2.1.2.2.1,x.2.2.1.1,x.2.2.1.2.1)) h fun y0 h=>?_
 refine q3pf hm hT hC (q2gz (q2go d) y0) h fun y1 h=>?_
 refine q8m ?_
 refine q3pf hm hT hC (q2h3 (q2go d) y1) h fun y2 h=>?_
 refine q8q (v:=y2.2.1) (by kernel_rfl) h ?_ ?_
 ·
  intro h
  refine q3pf hm hT hC (q2h7 (q2go d) y2) h fun y3 h=>?_
  refine q8l (q8a ?_)
  cases h
  exact (hend _ (by kernel_rfl)).2
 ·
  intro h
  refine q8i (q88 ?_)
  refine q3pf hm hT hC (q2hb (q2go d) y2) h fun y4 h=>?_
  refine q8m ?_
  refine q3pf hm hT hC (q2hf (q2go d) y4) h fun y5 h=>?_
  refine q8q (v:=y5.2.1) (by kernel_rfl) h ?_ ?_
  ·
   intro h
   refine q3pf hm hT hC (q2hh (q2go d) y5) h fun y6 h=>?_
   refine q8l (q8a ?_)
   cases h
   exact (hend _ (by kernel_rfl)).2
  ·
   intro h
   refine q8i (q88 ?_)
   refine q3pf hm hT hC (q2hj (q2go d) y5) h fun y7 h=>?_
   refine q8l ?_
   cases h
   exact (hend _ (by kernel_rfl)).2
abbrev q2hm:List Pk:=[.row qjw true,.row Rii true]
abbrev q2hn:Type:=qjx×Dii×Unit
abbrev q2ho:Type:=List Di×List Dii×Int
def q2hp (r:q2ho):LV×List Ob:=(.tup [.rs 0,.rs 1,.int .i64 r.2.2],[.rows Ri r.1,.rows Rii r.2.1])
def q2hq (F:q2hn→Option q2ho):Go.Tx.Spec:=⟨37,q2hm,q2ho,F,q2hp⟩
abbrev q2hr:Type:=(qph→Option qpi)×(q2gj→Option q2gk)×(qvr→Option qvs)×Unit
def q2hs (d:Nat):q2hr:=(qpm d,q2hk d,qvw d,())
def q2ht (C:q2hr):List Go.Tx.Spec:=[qpk C.1,q2gm C.2.1,qvu C.2.2.1]
abbrev q2hu:Type:=List Diii×Int×Int
def q2hv (v:q2hu):St:=⟨[(0,.agg [.fz Riii v.1]),(1,.agg [i6 v.2.1,i6 v.2.2])],[]⟩
abbrev q2hw:Type:=List Diii×Int×Int
def q2hx (v:q2hw):St:=⟨[(2,.ptr 0 0),(3,.ptr 1 0)],[.cells [.fz Riii v.1],.cells [i6 v.2.1,i6 v.2.2]]⟩
def q2hy (C:q2hr) (v:q2hu):Dt q2hw:=(Dt.ret (v.1,v.2.1,v.2.2))
abbrev q3qw {V Y:Type}:=@rg q2hr V Y tysT (fun C=>(orc (q2ht C))) 61
theorem q2hz C v:q3qw (regO (qdk f37) 0) false [(2,(.box [.val Riii])),(3,.any)] q2hv q2hy q2hx C v:=rgI (by kernel_rfl)
abbrev q2i0:Type:=List Diii×Int×Int×List Di
def q2i1 (v:q2i0):St:=⟨[(2,.ptr 0 0),(3,.ptr 1 0),(7,.rs 2)],[.cells [.fz Riii v.1],.cells [i6 v.2.1,i6 v.2.2.1],.rows Ri v.2.2.2]⟩
def q2i2 (C:q2hr) (v:q2hw):Dt q2i0:=(Dt.bnd (C.2.2.1 ((v.1,()),(v.2.1,v.2.2,()),())) fun r1=>(Dt.ret (v.1,v.2.1,v.2.2,r1)))
theorem q2i3 C v:q3qw (regO (qdk f37) 1) false [(2,(.box [.val Riii])),(3,.any),(7,(.own Ri))] q2hx q2i2 q2i1 C v:=rgI (by kernel_rfl)
abbrev q2i4:Type:=List Diii×Int×Int×List Di×List Dii
def q2i5 (v:q2i4):St:=⟨[(2,.ptr 0 0),(3,.ptr 1 0),(7,.rs 2),(8,.rs 3)],[.cells [.fz Riii v.1],.cells [i6 v.2.1,i6 v.2.2.1],.rows Ri v.2.2.2.1,.rows Rii v.2.2.2.2]⟩
def q2i6 (C:q2hr) (v:q2i0):Dt q2i4:=(Dt.ret (v.1,v.2.1,v.2.2.1,v.2.2.2,([]:List Dii)))
theorem q2i7 C v:q3qw (regO (qdk f37) 2) false [(2,(.box [.val Riii])),(3,.any),(7,(.own Ri)),(8,(.own Rii))] q2i1 q2i6 q2i5 C v:=rgI (by kernel_rfl)
abbrev q2i8:Type:=Int×List Diii×Int×Int×List Di×List Dii
def q2i9 (v:q2i8):St:=⟨[(2,.ptr 0 0),(3,.ptr 1 0),(7,.rs 2),(8,.rs 3),(9,i6 v.1)],[.cells [.fz Riii v.2.1],.cells [i6 v.2.2.1,i6 v.2.2.2.1],.rows Ri v.2.2.2.2.1,.rows Rii v.2.2.2.2.2]⟩
def q2ia (C:q2hr) (v:q2i4):Dt q2i8:=(Dt.ret ((0:Int),v.1,v.2.1,v.2.2.1,v.2.2.2.1,v.2.2.2.2))
theorem q2ib C v:q3qw (regO (qdk f37) 3) false [(2,(.box [.val Riii])),(3,.any),(7,(.own Ri)),(8,(.own Rii)),(9,.any)] q2i5 q2ia q2i9 C v:=rgI (by kernel_rfl)
abbrev q2ic:Type:=Int×Bool×List Diii×Int×Int×List Di×List Dii
def q2id (v:q2ic):St:=⟨[(2,.ptr 0 0),(3,.ptr 1 0),(7,.rs 2),(8,.rs 3),(9,i6 v.1),(19,.bool v.2.1)],[.cells [.fz Riii v.2.2.1],.cells [i6 v.2.2.2.1,i6 v.2.2.2.2.1],.rows Ri v.2.2.2.2.2.1,.rows Rii v.2.2.2.2.2.2]⟩
def q2ie (C:q2hr) (v:q2i8):Dt q2ic:=(Dt.ret (v.1,(decide (v.1<(List.length v.2.2.2.2.1:Int))),v.2.1,v.2.2.1,v.2.2.2.1,v.2.2.2.2.1,v.2.2.2.2.2))
theorem q2if C v:q3qw (regO (qdk f37) 4) false [(2,(.box [.val Riii])),(3,.any),(7,(.own Ri)),(8,(.own Rii)),(9,.any),(19,.any)] q2i9 q2ie q2id C v:=rgI (by kernel_rfl)
abbrev q2ig:Type:=Int×Int×List Diii×Int×Int×List Di×List Dii
def q2ih (v:q2ig):St:=⟨[(2,.ptr 0 0),(3,.ptr 1 0),(7,.rs 2),(8,.rs 3),(9,i6 v.1),(10,i6 v.2.1)],[.cells [.fz Riii v.2.2.1],.cells [i6 v.2.2.2.1,i6 v.2.2.2.2.1],.rows Ri v.2.2.2.2.2.1,.rows Rii v.2.2.2.2.2.2]⟩
def q2ii (C:q2hr) (v:q2ic):Dt q2ig:=(Dt.ret (v.1,(tmax (0:Int) (IntKind.wrap .i64 (v.1 - (1:Int)))),v.2.2.1,v.2.2.2.1,v.2.2.2.2.1,v.2.2.2.2.2.1,v.2.2.2.2.2.2))
theorem q2ij C v:q3qw (regO (qdk f37) 6) false [(2,(.box [.val Riii])),(3,.any),(7,(.own Ri)),(8,(.own Rii)),(9,.any),(10,.any)] q2id q2ii q2ih C v:=rgI (by kernel_rfl)
abbrev q2ik:Type:=Int×Int×List Diii×Int×Int×List Di×List Dii×Int×Int
def q2il (v:q2ik):St:=⟨[(2,.ptr 0 0),(3,.ptr 1 0),(7,.rs 2),(8,.rs 3),(9,i6 v.1),(11,.ptr 4 0),(12,i6 v.2.1)],[.cells [.fz Riii v.2.2.1],.cells [i6 v.2.2.2.1,i6 v.2.2.2.2.1],.rows Ri v.2.2.2.2.2.1,.rows Rii v.2.2.2.2.2.2.1,.cells [i6 v.2.2.2.2.2.2.2.1,i6 v.2.2.2.2.2.2.2.2]]⟩
def q2im (C:q2hr) (v:q2ig):Dt q2ik:=(Dt.ite (inB v.2.1 (List.length v.2.2.2.2.2.1)) (Dt.bnd (C.1 ((v.2.2.1,()),((elt zi v.2.2.2.2.2.1 (v.2.1).toNat).1,()),())) fun r1=>(Dt.ite (inB r1 (List.length v.2.2.1)) (Dt.ite (inB v.1 (List.length v.2.2.2.2.2.1)) (Dt.bnd (C.1 ((v.2.2.1,()),((elt zi v.2.2.2.2.2.1 (v.1).toNat).1,()),())) fun r2=>(Dt.ite (inB r2 (List.length v.2.2.1)) (Dt.bnd (C.2.1 (((elt ziii v.2.2.1 (r1).toNat).1,(elt ziii v.2.2.1 (r1).toNat).2.1,(elt ziii v.2.2.1 (r1).toNat).2.2.1,()),((elt ziii v.2.2.1 (r2).toNat).1,(elt ziii v.2.2.1 (r2).toNat).2.1,(elt ziii v.2.2.1 (r2).toNat).2.2.1,()),(v.2.2.2.1,v.2.2.2.2.1,()),())) fun r3=>(Dt.ret (v.1,r3.2.2,v.2.2.1,v.2.2.2.1,v.2.2.2.2.1,v.2.2.2.2.2.1,v.2.2.2.2.2.2,r3.1,r3.2.1))) Dt.fail)) Dt.fail) Dt.fail)) Dt.fail)
theorem q2in C v:q3qw (regO (qdk f37) 7) true [(2,(.box [.val Riii])),(3,.any),(7,(.own Ri)),(8,(.own Rii)),(9,.any),(11,.any),(12,.any)] q2ih q2im q2il C v:=rgI (by kernel_rfl)
abbrev q2io:Type:=Int×Int×Bool×List Diii×Int×Int×List Di×List Dii×Int×Int
def q2ip (v:q2io):St:=⟨[(2,.ptr 0 0),(3,.ptr 1 0),(7,.rs 2),(8,.rs 3),(9,i6 v.1),(11,.ptr 4 0),(12,i6 v.2.1),(51,.bool v.2.2.1)],[.cells [.fz Riii v.2.2.2.1],.cells [i6 v.2.2.2.2.1,i6 v.2.2.2.2.2.1],.rows Ri v.2.2.2.2.2.2.1,.rows Rii v.2.2.2.2.2.2.2.1,.cells [i6 v.2.2.2.2.2.2.2.2.1,i6 v.2.2.2.2.2.2.2.2.2]]⟩
def q2iq (C:q2hr) (v:q2ik):Dt q2io:=(Dt.ret (v.1,v.2.1,(v.2.1 != (0:Int)),v.2.2.1,v.2.2.2.1,v.2.2.2.2.1,v.2.2.2.2.2.1,v.2.2.2.2.2.2.1,v.2.2.2.2.2.2.2.1,v.2.2.2.2.2.2.2.2))
theorem q2ir C v:q3qw (regO (qdk f37) 8) false [(2,(.box [.val Riii])),(3,.any),(7,(.own Ri)),(8,(.own Rii)),(9,.any),(11,.any),(12,.any),(51,.any)] q2il q2iq q2ip C v:=rgI (by kernel_rfl)
abbrev q2is:Type:=Int×List Di×List Dii
def q2it (v:q2is):St:=⟨[(4,.rs 0),(5,.rs 1),(6,i6 v.1)],[.rows Ri v.2.1,.rows Rii v.2.2]⟩
def q2iu (C:q2hr) (v:q2io):Dt q2is:=(Dt.ret (v.2.1,([]:List Di),([]:List Dii)))
theorem q2iv C v:q3qw (regO (qdk f37) 9) false [(4,(.own Ri)),(5,(.own Rii)),(6,.any)] q2ip q2iu q2it C v:=rgI (by kernel_rfl)
abbrev q2iw:Type:=Int×Bool×List Diii×Int×Int×List Di×List Dii×Int×Int
def q2ix (v:q2iw):St:=⟨[(2,.ptr 0 0),(3,.ptr 1 0),(7,.rs 2),(8,.rs 3),(9,i6 v.1),(11,.ptr 4 0),(54,.bool v.2.1)],[.cells [.fz Riii v.2.2.1],.cells [i6 v.2.2.2.1,i6 v.2.2.2.2.1],.rows Ri v.2.2.2.2.2.1,.rows Rii v.2.2.2.2.2.2.1,.cells [i6 v.2.2.2.2.2.2.2.1,i6 v.2.2.2.2.2.2.2.2]]⟩
def q2iy (C:q2hr) (v:q2io):Dt q2iw:=(Dt.ret (v.1,(decide (v.1 > (0:Int))),v.2.2.2.1,v.2.2.2.2.1,v.2.2.2.2.2.1,v.2.2.2.2.2.2.1,v.2.2.2.2.2.2.2.1,v.2.2.2.2.2.2.2.2.1,v.2.2.2.2.2.2.2.2.2))
theorem q2iz C v:q3qw (regO (qdk f37) 10) false [(2,(.box [.val Riii])),(3,.any),(7,(.own Ri)),(8,(.own Rii)),(9,.any),(11,.any),(54,.any)] q2ip q2iy q2ix C v:=rgI (by kernel_rfl)
def q2j0 (C:q2hr) (v:q2iw):Dt q2i8:=(Dt.ite (apB (List.length v.2.2.2.2.2.2.1) (List.length ([(v.2.2.2.2.2.2.2.1,v.2.2.2.2.2.2.2.2,())]:List Dii))) (Dt.ret (v.1,v.2.2.1,v.2.2.2.1,v.2.2.2.2.1,v.2.2.2.2.2.1,(v.2.2.2.2.2.2.1++([(v.2.2.2.2.2.2.2.1,v.2.2.2.2.2.2.2.2,())]:List Dii)))) Dt.fail)
theorem q2j1 C v:q3qw (regO (qdk f37) 11) false [(2,(.box [.val Riii])),(3,.any),(7,(.own Ri)),(8,(.own Rii)),(9,.any)] q2ix q2j0 q2i9 C v:=rgI (by kernel_rfl)
def q2j2 (C:q2hr) (v:q2i8):Dt q2i8:=(Dt.ret ((IntKind.wrap .i64 (v.1+(1:Int))),v.2.1,v.2.2.1,v.2.2.2.1,v.2.2.2.2.1,v.2.2.2.2.2))
theorem q2j3 C v:q3qw (regO (qdk f37) 5) false [(2,(.box [.val Riii])),(3,.any),(7,(.own Ri)),(8,(.own Rii)),(9,.any)] q2i9 q2j2 q2i9 C v:=rgI (by kernel_rfl)
def q2j4  (d:Nat) (self1:(Int×List Diii×Int×Int×List Di×List Dii)→Option q2ho) (z:Int×List Diii×Int×Int×List Di×List Dii):Option (q2ho) :=
 (q2j2 (q2hs d) z).eval fun y5 =>
 self1 y5
def q2j5 (C:q2hr) (v:q2ic):Dt q2is:=(Dt.ret ((0:Int),v.2.2.2.2.2.1,v.2.2.2.2.2.2))
theorem q2j6 C v:q3qw (regO (qdk f37) 12) false [(4,(.own Ri)),(5,(.own Rii)),(6,.any)] q2id q2j5 q2it C v:=rgI (by kernel_rfl)
def q2j7 (d:Nat) (self1:(Int×List Diii×Int×Int×List Di×List Dii)→Option q2ho) (x1:Int×List Diii×Int×Int×List Di×List Dii):Option q2ho :=
 (q2ie (q2hs d) x1).eval fun y4 =>
 bif y4.2.1 then ((q2ii (q2hs d) y4).eval fun y6 =>
 (q2im (q2hs d) y6).eval fun y7 =>
 (q2iq (q2hs d) y7).eval fun y8 =>
 bif y8.2.2.1 then ((q2iu (q2hs d) y8).eval fun y9 =>
 some (y9.2.1,y9.2.2,y9.1)) else ((q2iy (q2hs d) y8).eval fun y10 =>
 bif y10.2.1 then ((q2j0 (q2hs d) y10).eval fun y11 =>
 q2j4 d self1 y11) else (q2j4 d self1 (y10.1,y10.2.2.1,y10.2.2.2.1,y10.2.2.2.2.1,y10.2.2.2.2.2.1,y10.2.2.2.2.2.2.1)))) else ((q2j5 (q2hs d) y4).eval fun y12 =>
 some (y12.2.1,y12.2.2,y12.1))
def q2j8 (d:Nat) (x:q2hn):Option q2ho :=
 (q2hy (q2hs d) (x.1.1,x.2.1.1,x.2.1.2.1)).eval fun y0 =>
 (q2i2 (q2hs d) y0).eval fun y1 =>
 (q2i6 (q2hs d) y1).eval fun y2 =>
 (q2ia (q2hs d) y2).eval fun y3 =>
 iter (q2j7 d ) d y3
theorem q2j9 (d:Nat):COK prog (q2hq (q2j8 d)):=by
 have hm:prog.follows .mixedOrders=true:=mixed
 have hT:=tys
 have hC0:OrcOK prog (orc (q2ht (q2hs d))):=qde (by
  intro S hS
  simp only [q2ht,List.mem_cons,List.not_mem_nil,or_false] at hS
  rcases hS with rfl | rfl | rfl
  · exact qpo d
  · exact q2hl d
  · exact qvy d)
 have hC:OrcOK prog (orc (q2ht (q2hs d))):=hC0
 refine q93 (c:=qdk f37) (fn:=f37) hT (by kernel_rfl) (by kernel_rfl) (by decide) fun x r h w0 φ0 Q hend=>?_
 replace h:q2j8 d x=some r:=h
 unfold q2j8 at h
 show Run prog w0 φ0 61 (qdk f37) ⟨[(0,.agg [.fz Riii x.1.1]),(1,.agg [.int .i64 x.2.1.1,.int .i64 x.2.1.2.1])],[]⟩ Q
 refine q3pf hm hT hC (q2hz (q2hs d) (x.1.1,x.2.1.1,x.2.1.2.1)) h fun y0 h=>?_
 refine q3pf hm hT hC (q2i3 (q2hs d) y0) h fun y1 h=>?_
 refine q3pf hm hT hC (q2i7 (q2hs d) y1) h fun y2 h=>?_
 refine q8m ?_
 refine q3pf hm hT hC (q2ib (q2hs d) y2) h fun y3 h=>?_
 refine q8n ?_
 refine q8s (G:=iter (q2j7 d )) (S:=(fun x1=>⟨[(2,.ptr 0 0),(3,.ptr 1 0),(7,.rs 2),(8,.rs 3),(9,i6 x1.1)],[.cells [.fz Riii x1.2.1],.cells [i6 x1.2.2.1,i6 x1.2.2.2.1],.rows Ri x1.2.2.2.2.1,.rows Rii x1.2.2.2.2.2]⟩:Int×List Diii×Int×Int×List Di×List Dii→St)) (fun _=>rfl) ?_ d _ h
 intro n1 x1 h K1 hn1
 replace h:q2j7 d  (iter (q2j7 d ) n1) x1=some r:=h
 generalize iter (q2j7 d ) n1=self1 at h hn1
 unfold q2j7 at h
 refine q8m ?_
 refine q3pf hm hT hC (q2if (q2hs d) x1) h fun y4 h=>?_
 refine q8q (v:=y4.2.1) (by kernel_rfl) h ?_ ?_
 ·
  intro h
  refine q8i (q88 ?_)
  refine q8p (r:=r) (F:=q2j4 d self1) (S:=(fun z=>⟨[(2,.ptr 0 0),(3,.ptr 1 0),(7,.rs 2),(8,.rs 3),(9,i6 z.1)],[.cells [.fz Riii z.2.1],.cells [i6 z.2.2.1,i6 z.2.2.2.1],.rows Ri z.2.2.2.2.1,.rows Rii z.2.2.2.2.2]⟩:Int×List Diii×Int×Int×List Di×List Dii→St)) ?_ ?_
  ·
   intro z h
   unfold q2j4 at h
   refine q8r hm hT hC (q2j3 (q2hs d) z) h ?_
   intro y5 h
   exact hn1 _ h
  intro hj2
  refine q8n ?_
  refine q3pf hm hT hC (q2ij (q2hs d) y4) h fun y6 h=>?_
  refine q3pf hm hT hC (q2in (q2hs d) y6) h fun y7 h=>?_
  refine q8m ?_
  refine q3pf hm hT hC (q2ir (q2hs d) y7) h fun y8 h=>?_
  refine q8q (v:=y8.2.2.1) (by kernel_rfl) h ?_ ?_
  ·
   intro h
   refine q3pf hm hT hC (q2iv (q2hs d) y8) h fun y9 h=>?_
   refine q8l (q8a (q8c (q8a (q8a (q8c (q8a ?_))))))
   cases h
   exact (hend _ (by kernel_rfl)).2
  ·
   intro h
   refine q8i (q88 ?_)
   refine q3pf hm hT hC (q2iz (q2hs d) y8) h fun y10 h=>?_
   refine q8q (v:=y10.2.1) (by kernel_rfl) h ?_ ?_
   ·
    intro h
    refine q8r hm hT hC (q2j1 (q2hs d) y10) h ?_
    intro y11 h
    refine q8b ?_
    exact hj2 _ h
   ·
    intro h
    refine q8i (q8b ?_)
    refine qdj (s:=⟨[(2,.ptr 0 0),(3,.ptr 1 0),(7,.rs 2),(8,.rs 3),(9,.int .i64 y10.1)],[.cells [.fz Riii y10.2.2.1],.cells [.int .i64 y10.2.2.2.1,.int .i64 y10.2.2.2.2.1],.rows Ri y10.2.2.2.2.2.1,.rows Rii y10.2.2.2.2.2.2.1]⟩) [11,54] (by kernel_rfl) ?_
    exact hj2 _ h
 ·
  intro h
  refine q8k (q89 (q89 (q8d (q88 ?_))))
  refine q3pf hm hT hC (q2j6 (q2hs d) y4) h fun y12 h=>?_
  refine q8l ?_
  cases h
  exact (hend _ (by kernel_rfl)).2
abbrev q2ja:List Pk:=[.row qjw true,.row Rii true]
abbrev q2jb:Type:=qjx×Dii×Unit
abbrev q2jc:Type:=List Dii×Int
def q2jd (r:q2jc):LV×List Ob:=(.tup [.rs 0,.int .i64 r.2],[.rows Rii r.1])
def q2je (F:q2jb→Option q2jc):Go.Tx.Spec:=⟨12,q2ja,q2jc,F,q2jd⟩
abbrev q2jf:Type:=(qv9→Option qva)×(q2hn→Option q2ho)×Unit
def q2jg (d:Nat):q2jf:=(qve d,q2j8 d,())
def q2jh (C:q2jf):List Go.Tx.Spec:=[qvc C.1,q2hq C.2.1]
abbrev q2ji:Type:=List Diii×Int×Int
def q2jj (v:q2ji):St:=⟨[(0,.agg [.fz Riii v.1]),(1,.agg [i6 v.2.1,i6 v.2.2])],[]⟩
abbrev q2jk:Type:=List Diii×Int×Int
def q2jl (v:q2jk):St:=⟨[(2,.ptr 0 0),(3,.ptr 1 0)],[.cells [.fz Riii v.1],.cells [i6 v.2.1,i6 v.2.2]]⟩
def q2jm (C:q2jf) (v:q2ji):Dt q2jk:=(Dt.ret (v.1,v.2.1,v.2.2))
abbrev q3qx {V Y:Type}:=@rg q2jf V Y tysT (fun C=>(orc (q2jh C))) 25
theorem q2jn C v:q3qx (regO (qdk f12) 0) false [(2,(.box [.val Riii])),(3,.any)] q2jj q2jm q2jl C v:=rgI (by kernel_rfl)
abbrev q2jo:Type:=Int×List Diii×Int×Int
def q2jp (v:q2jo):St:=⟨[(2,.ptr 0 0),(3,.ptr 1 0),(6,i6 v.1)],[.cells [.fz Riii v.2.1],.cells [i6 v.2.2.1,i6 v.2.2.2]]⟩
def q2jq (C:q2jf) (v:q2jk):Dt q2jo:=(Dt.bnd (C.1 ((v.1,()),(v.2.1,v.2.2,()),())) fun r1=>(Dt.ret (r1,v.1,v.2.1,v.2.2)))
theorem q2jr C v:q3qx (regO (qdk f12) 1) false [(2,(.box [.val Riii])),(3,.any),(6,.any)] q2jl q2jq q2jp C v:=rgI (by kernel_rfl)
abbrev q2js:Type:=Int×Bool×List Diii×Int×Int
def q2jt (v:q2js):St:=⟨[(2,.ptr 0 0),(3,.ptr 1 0),(6,i6 v.1),(14,.bool v.2.1)],[.cells [.fz Riii v.2.2.1],.cells [i6 v.2.2.2.1,i6 v.2.2.2.2]]⟩
def q2ju (C:q2jf) (v:q2jo):Dt q2js:=(Dt.ret (v.1,(v.1 != (0:Int)),v.2.1,v.2.2.1,v.2.2.2))
theorem q2jv C v:q3qx (regO (qdk f12) 2) false [(2,(.box [.val Riii])),(3,.any),(6,.any),(14,.any)] q2jp q2ju q2jt C v:=rgI (by kernel_rfl)
abbrev q2jw:Type:=Int×List Dii
def q2jx (v:q2jw):St:=⟨[(4,.rs 0),(5,i6 v.1)],[.rows Rii v.2]⟩
def q2jy (C:q2jf) (v:q2js):Dt q2jw:=(Dt.ret (v.1,([]:List Dii)))
theorem q2jz C v:q3qx (regO (qdk f12) 3) false [(4,(.own Rii)),(5,.any)] q2jt q2jy q2jx C v:=rgI (by kernel_rfl)
abbrev q2k0:Type:=Int×List Dii
def q2k1 (v:q2k0):St:=⟨[(8,.rs 0),(9,i6 v.1)],[.rows Rii v.2]⟩
def q2k2 (C:q2jf) (v:q2js):Dt q2k0:=(Dt.bnd (C.2.1 ((v.2.2.1,()),(v.2.2.2.1,v.2.2.2.2,()),())) fun r1=>(Dt.ret (r1.2.2,r1.2.1)))
theorem q2k3 C v:q3qx (regO (qdk f12) 4) false [(8,(.own Rii)),(9,.any)] q2jt q2k2 q2k1 C v:=rgI (by kernel_rfl)
def q2k4 (C:q2jf) (v:q2k0):Dt q2jw:=(Dt.ret (v.1,v.2))
theorem q2k5 C v:q3qx (regO (qdk f12) 5) false [(4,(.own Rii)),(5,.any)] q2k1 q2k4 q2jx C v:=rgI (by kernel_rfl)
def q2k6 (d:Nat) (x:q2jb):Option q2jc :=
 (q2jm (q2jg d) (x.1.1,x.2.1.1,x.2.1.2.1)).eval fun y0 =>
 (q2jq (q2jg d) y0).eval fun y1 =>
 (q2ju (q2jg d) y1).eval fun y2 =>
 bif y2.2.1 then ((q2jy (q2jg d) y2).eval fun y3 =>
 some (y3.2,y3.1)) else ((q2k2 (q2jg d) y2).eval fun y4 =>
 (q2k4 (q2jg d) y4).eval fun y5 =>
 some (y5.2,y5.1))
theorem q2k7 (d:Nat):COK prog (q2je (q2k6 d)):=by
 have hm:prog.follows .mixedOrders=true:=mixed
 have hT:=tys
 have hC0:OrcOK prog (orc (q2jh (q2jg d))):=qde (by
  intro S hS
  simp only [q2jh,List.mem_cons,List.not_mem_nil,or_false] at hS
  rcases hS with rfl | rfl
  · exact qvg d
  · exact q2j9 d)
 have hC:OrcOK prog (orc (q2jh (q2jg d))):=hC0
 refine q93 (c:=qdk f12) (fn:=f12) hT (by kernel_rfl) (by kernel_rfl) (by decide) fun x r h w0 φ0 Q hend=>?_
 replace h:q2k6 d x=some r:=h
 unfold q2k6 at h
 show Run prog w0 φ0 25 (qdk f12) ⟨[(0,.agg [.fz Riii x.1.1]),(1,.agg [.int .i64 x.2.1.1,.int .i64 x.2.1.2.1])],[]⟩ Q
 refine q3pf hm hT hC (q2jn (q2jg d) (x.1.1,x.2.1.1,x.2.1.2.1)) h fun y0 h=>?_
 refine q8m ?_
 refine q3pf hm hT hC (q2jr (q2jg d) y0) h fun y1 h=>?_
 refine q3pf hm hT hC (q2jv (q2jg d) y1) h fun y2 h=>?_
 refine q8q (v:=y2.2.1) (by kernel_rfl) h ?_ ?_
 ·
  intro h
  refine q3pf hm hT hC (q2jz (q2jg d) y2) h fun y3 h=>?_
  refine q8l (q8a ?_)
  cases h
  exact (hend _ (by kernel_rfl)).2
 ·
  intro h
  refine q8i (q88 ?_)
  refine q3pf hm hT hC (q2k3 (q2jg d) y2) h fun y4 h=>?_
  refine q3pf hm hT hC (q2k5 (q2jg d) y4) h fun y5 h=>?_
  refine q8l ?_
  cases h
  exact (hend _ (by kernel_rfl)).2
abbrev q2k8:List Pk:=[.row qjw true,.row Rii true,.row Rii true]
abbrev q2k9:Type:=qjx×Dii×Dii×Unit
abbrev q2ka:Type:=List DLiE×Int
def q2kb (r:q2ka):LV×List Ob:=(.tup [.fz RLiE r.1,.int .i64 r.2],[])
def q2kc (F:q2k9→Option q2ka):Go.Tx.Spec:=⟨14,q2k8,q2ka,F,q2kb⟩
abbrev q2kd:Type:=(qnh→Option qni)×(q2fd→Option q2fe)×(qv9→Option qva)×(q2hn→Option q2ho)×Unit
def q2ke (d:Nat):q2kd:=(qnm d,q2gg d,qve d,q2j8 d,())
def q2kf (C:q2kd):List Go.Tx.Spec:=[qnk C.1,q2fg C.2.1,qvc C.2.2.1,q2hq C.2.2.2.1]
abbrev q2kg:Type:=List Diii×Int×Int×Int×Int
def q2kh (v:q2kg):St:=⟨[(0,.agg [.fz Riii v.1]),(1,.agg [i6 v.2.1,i6 v.2.2.1]),(2,.agg [i6 v.2.2.2.1,i6 v.2.2.2.2])],[]⟩
abbrev q2ki:Type:=List Diii×Int×Int×Int×Int
def q2kj (v:q2ki):St:=⟨[(3,.ptr 0 0),(4,.ptr 1 0),(5,.ptr 2 0)],[.cells [.fz Riii v.1],.cells [i6 v.2.1,i6 v.2.2.1],.cells [i6 v.2.2.2.1,i6 v.2.2.2.2]]⟩
def q2kk (C:q2kd) (v:q2kg):Dt q2ki:=(Dt.ret (v.1,v.2.1,v.2.2.1,v.2.2.2.1,v.2.2.2.2))
theorem q2kl (C:q2kd) (v:q2kg):treg (litT 35 tysT) (orc (q2kf C)) 78 (regO (qdk f14) 0) false [(3,(.box [.val Riii])),(4,.any),(5,.any)] (q2kh v) some=(q2kk C v).eval fun y=>some (q2kj y):=by kernel_rfl
abbrev q2km:Type:=Int×List Diii×Int×Int×Int×Int
def q2kn (v:q2km):St:=⟨[(3,.ptr 0 0),(4,.ptr 1 0),(5,.ptr 2 0),(8,i6 v.1)],[.cells [.fz Riii v.2.1],.cells [i6 v.2.2.1,i6 v.2.2.2.1],.cells [i6 v.2.2.2.2.1,i6 v.2.2.2.2.2]]⟩
def q2ko (C:q2kd) (v:q2ki):Dt q2km:=(Dt.bnd (C.2.2.1 ((v.1,()),(v.2.1,v.2.2.1,()),())) fun r1=>(Dt.ret (r1,v.1,v.2.1,v.2.2.1,v.2.2.2.1,v.2.2.2.2)))
theorem q2kp (C:q2kd) (v:q2ki):treg (litT 35 tysT) (orc (q2kf C)) 78 (regO (qdk f14) 1) false [(3,(.box [.val Riii])),(4,.any),(5,.any),(8,.any)] (q2kj v) some=(q2ko C v).eval fun y=>some (q2kn y):=by kernel_rfl
abbrev q2kq:Type:=Int×Bool×List Diii×Int×Int×Int×Int
def q2kr (v:q2kq):St:=⟨[(3,.ptr 0 0),(4,.ptr 1 0),(5,.ptr 2 0),(8,i6 v.1),(19,.bool v.2.1)],[.cells [.fz Riii v.2.2.1],.cells [i6 v.2.2.2.1,i6 v.2.2.2.2.1],.cells [i6 v.2.2.2.2.2.1,i6 v.2.2.2.2.2.2]]⟩
def q2ks (C:q2kd) (v:q2km):Dt q2kq:=(Dt.ret (v.1,(v.1 != (0:Int)),v.2.1,v.2.2.1,v.2.2.2.1,v.2.2.2.2.1,v.2.2.2.2.2))
theorem q2kt (C:q2kd) (v:q2km):treg (litT 35 tysT) (orc (q2kf C)) 78 (regO (qdk f14) 2) false [(3,(.box [.val Riii])),(4,.any),(5,.any),(8,.any),(19,.any)] (q2kn v) some=(q2ks C v).eval fun y=>some (q2kr y):=by kernel_rfl
abbrev q2ku:Type:=List DLiE×Int
def q2kv (v:q2ku):St:=⟨[(6,.fz RLiE v.1),(7,i6 v.2)],[]⟩
def q2kw (C:q2kd) (v:q2kq):Dt q2ku:=(Dt.ret (([]:List DLiE),v.1))
theorem q2kx (C:q2kd) (v:q2kq):treg (litT 35 tysT) (orc (q2kf C)) 78 (regO (qdk f14) 3) false [(6,(.val RLiE)),(7,.any)] (q2kr v) some=(q2kw C v).eval fun y=>some (q2kv y):=by kernel_rfl
abbrev q2ky:Type:=Int×List Diii×Int×Int×Int×Int
def q2kz (v:q2ky):St:=⟨[(3,.ptr 0 0),(4,.ptr 1 0),(5,.ptr 2 0),(9,i6 v.1)],[.cells [.fz Riii v.2.1],.cells [i6 v.2.2.1,i6 v.2.2.2.1],.cells [i6 v.2.2.2.2.1,i6 v.2.2.2.2.2]]⟩
def q2l0 (C:q2kd) (v:q2kq):Dt q2ky:=(Dt.bnd (C.1 ((v.2.2.2.2.2.1,v.2.2.2.2.2.2,()),())) fun r1=>(Dt.ret (r1,v.2.2.1,v.2.2.2.1,v.2.2.2.2.1,v.2.2.2.2.2.1,v.2.2.2.2.2.2)))
theorem q2l1 (C:q2kd) (v:q2kq):treg (litT 35 tysT) (orc (q2kf C)) 78 (regO (qdk f14) 4) false [(3,(.box [.val Riii])),(4,.any),(5,.any),(9,.any)] (q2kr v) some=(q2l0 C v).eval fun y=>some (q2kz y):=by kernel_rfl
abbrev q2l2:Type:=Int×Bool×List Diii×Int×Int×Int×Int
def q2l3 (v:q2l2):St:=⟨[(3,.ptr 0 0),(4,.ptr 1 0),(5,.ptr 2 0),(9,i6 v.1),(24,.bool v.2.1)],[.cells [.fz Riii v.2.2.1],.cells [i6 v.2.2.2.1,i6 v.2.2.2.2.1],.cells [i6 v.2.2.2.2.2.1,i6 v.2.2.2.2.2.2]]⟩
def q2l4 (C:q2kd) (v:q2ky):Dt q2l2:=(Dt.ret (v.1,(v.1 != (0:Int)),v.2.1,v.2.2.1,v.2.2.2.1,v.2.2.2.2.1,v.2.2.2.2.2))
theorem q2l5 (C:q2kd) (v:q2ky):treg (litT 35 tysT) (orc (q2kf C)) 78 (regO (qdk f14) 5) false [(3,(.box [.val Riii])),(4,.any),(5,.any),(9,.any),(24,.any)] (q2kz v) some=(q2l4 C v).eval fun y=>some (q2l3 y):=by kernel_rfl
def q2l6 (C:q2kd) (v:q2l2):Dt q2ku:=(Dt.ret (([]:List DLiE),v.1))
theorem q2l7 (C:q2kd) (v:q2l2):treg (litT 35 tysT) (orc (q2kf C)) 78 (regO (qdk f14) 6) false [(6,(.val RLiE)),(7,.any)] (q2l3 v) some=(q2l6 C v).eval fun y=>some (q2kv y):=by kernel_rfl
abbrev q2l8:Type:=Bool×List Diii×Int×Int×Int×Int
def q2l9 (v:q2l8):St:=⟨[(3,.ptr 0 0),(4,.ptr 1 0),(5,.ptr 2 0),(28,.bool v.1)],[.cells [.fz Riii v.2.1],.cells [i6 v.2.2.1,i6 v.2.2.2.1],.cells [i6 v.2.2.2.2.1,i6 v.2.2.2.2.2]]⟩
def q2la (C:q2kd) (v:q2l2):Dt q2l8:=(Dt.ret ((decide (v.2.2.2.2.2.1<(0:Int))),v.2.2.1,v.2.2.2.1,v.2.2.2.2.1,v.2.2.2.2.2.1,v.2.2.2.2.2.2))
theorem q2lb (C:q2kd) (v:q2l2):treg (litT 35 tysT) (orc (q2kf C)) 78 (regO (qdk f14) 7) false [(3,(.box [.val Riii])),(4,.any),(5,.any),(28,.any)] (q2l3 v) some=(q2la C v).eval fun y=>some (q2l9 y):=by kernel_rfl
def q2lc (C:q2kd) (v:q2l8):Dt q2ku:=(Dt.ret (([]:List DLiE),(2:Int)))
theorem q2ld (C:q2kd) (v:q2l8):treg (litT 35 tysT) (orc (q2kf C)) 78 (regO (qdk f14) 8) false [(6,(.val RLiE)),(7,.any)] (q2l9 v) some=(q2lc C v).eval fun y=>some (q2kv y):=by kernel_rfl
abbrev q2le:Type:=Int×Int×Int×List Di×List Dii
def q2lf (v:q2le):St:=⟨[(5,.ptr 0 0),(10,.rs 1),(11,.rs 2),(12,i6 v.1)],[.cells [i6 v.2.1,i6 v.2.2.1],.rows Ri v.2.2.2.1,.rows Rii v.2.2.2.2]⟩
def q2lg (C:q2kd) (v:q2l8):Dt q2le:=(Dt.bnd (C.2.2.2.1 ((v.2.1,()),(v.2.2.1,v.2.2.2.1,()),())) fun r1=>(Dt.ret (r1.2.2,v.2.2.2.2.1,v.2.2.2.2.2,r1.1,r1.2.1)))
theorem q2lh (C:q2kd) (v:q2l8):treg (litT 35 tysT) (orc (q2kf C)) 78 (regO (qdk f14) 9) false [(5,.any),(10,(.own Ri)),(11,(.own Rii)),(12,.any)] (q2l9 v) some=(q2lg C v).eval fun y=>some (q2lf y):=by kernel_rfl
abbrev q2li:Type:=Int×Bool×Int×Int×List Di×List Dii
def q2lj (v:q2li):St:=⟨[(5,.ptr 0 0),(10,.rs 1),(11,.rs 2),(12,i6 v.1),(37,.bool v.2.1)],[.cells [i6 v.2.2.1,i6 v.2.2.2.1],.rows Ri v.2.2.2.2.1,.rows Rii v.2.2.2.2.2]⟩
def q2lk (C:q2kd) (v:q2le):Dt q2li:=(Dt.ret (v.1,(v.1 != (0:Int)),v.2.1,v.2.2.1,v.2.2.2.1,v.2.2.2.2))
theorem q2ll (C:q2kd) (v:q2le):treg (litT 35 tysT) (orc (q2kf C)) 78 (regO (qdk f14) 10) false [(5,.any),(10,(.own Ri)),(11,(.own Rii)),(12,.any),(37,.any)] (q2lf v) some=(q2lk C v).eval fun y=>some (q2lj y):=by kernel_rfl
def q2lm (C:q2kd) (v:q2li):Dt q2ku:=(Dt.ret (([]:List DLiE),v.1))
theorem q2ln (C:q2kd) (v:q2li):treg (litT 35 tysT) (orc (q2kf C)) 78 (regO (qdk f14) 11) false [(6,(.val RLiE)),(7,.any)] (q2lj v) some=(q2lm C v).eval fun y=>some (q2kv y):=by kernel_rfl
abbrev q2lo:Type:=Int×Int×List Di×List Dii×List DLiE
def q2lp (v:q2lo):St:=⟨[(5,.ptr 0 0),(10,.rs 1),(11,.rs 2),(13,.rs 3)],[.cells [i6 v.1,i6 v.2.1],.rows Ri v.2.2.1,.rows Rii v.2.2.2.1,.rows RLiE v.2.2.2.2]⟩
def q2lq (C:q2kd) (v:q2li):Dt q2lo:=(Dt.ret (v.2.2.1,v.2.2.2.1,v.2.2.2.2.1,v.2.2.2.2.2,([]:List DLiE)))
theorem q2lr (C:q2kd) (v:q2li):treg (litT 35 tysT) (orc (q2kf C)) 78 (regO (qdk f14) 12) false [(5,.any),(10,(.own Ri)),(11,(.own Rii)),(13,(.own RLiE))] (q2lj v) some=(q2lq C v).eval fun y=>some (q2lp y):=by kernel_rfl
abbrev q2ls:Type:=Int×Int×Int×List Di×List Dii×List DLiE
def q2lt (v:q2ls):St:=⟨[(5,.ptr 0 0),(10,.rs 1),(11,.rs 2),(13,.rs 3),(14,i6 v.1)],[.cells [i6 v.2.1,i6 v.2.2.1],.rows Ri v.2.2.2.1,.rows Rii v.2.2.2.2.1,.rows RLiE v.2.2.2.2.2]⟩
def q2lu (C:q2kd) (v:q2lo):Dt q2ls:=(Dt.ret ((0:Int),v.1,v.2.1,v.2.2.1,v.2.2.2.1,v.2.2.2.2))
theorem q2lv (C:q2kd) (v:q2lo):treg (litT 35 tysT) (orc (q2kf C)) 78 (regO (qdk f14) 13) false [(5,.any),(10,(.own Ri)),(11,(.own Rii)),(13,(.own RLiE)),(14,.any)] (q2lp v) some=(q2lu C v).eval fun y=>some (q2lt y):=by kernel_rfl
abbrev q2lw:Type:=Int×Bool×Int×Int×List Di×List Dii×List DLiE
def q2lx (v:q2lw):St:=⟨[(5,.ptr 0 0),(10,.rs 1),(11,.rs 2),(13,.rs 3),(14,i6 v.1),(42,.bool v.2.1)],[.cells [i6 v.2.2.1,i6 v.2.2.2.1],.rows Ri v.2.2.2.2.1,.rows Rii v.2.2.2.2.2.1,.rows RLiE v.2.2.2.2.2.2]⟩
def q2ly (C:q2kd) (v:q2ls):Dt q2lw:=(Dt.ret (v.1,(decide (v.1<(List.length v.2.2.2.1:Int))),v.2.1,v.2.2.1,v.2.2.2.1,v.2.2.2.2.1,v.2.2.2.2.2))
theorem q2lz (C:q2kd) (v:q2ls):treg (litT 35 tysT) (orc (q2kf C)) 78 (regO (qdk f14) 14) false [(5,.any),(10,(.own Ri)),(11,(.own Rii)),(13,(.own RLiE)),(14,.any),(42,.any)] (q2lt v) some=(q2ly C v).eval fun y=>some (q2lx y):=by kernel_rfl
abbrev q2m0:Type:=Int×Bool×Int×Int×List Di×List Dii×List DLiE
def q2m1 (v:q2m0):St:=⟨[(5,.ptr 0 0),(10,.rs 1),(11,.rs 2),(13,.rs 3),(14,i6 v.1),(56,.bool v.2.1)],[.cells [i6 v.2.2.1,i6 v.2.2.2.1],.rows Ri v.2.2.2.2.1,.rows Rii v.2.2.2.2.2.1,.rows RLiE v.2.2.2.2.2.2]⟩
def q2m2 (C:q2kd) (v:q2lw):Dt q2m0:=(Dt.ite (v.1 == (0:Int)) (Dt.ret (v.1,true,v.2.2.1,v.2.2.2.1,v.2.2.2.2.1,v.2.2.2.2.2.1,v.2.2.2.2.2.2)) (Dt.ite (inB (IntKind.wrap .i64 (v.1 - (1:Int))) (List.length v.2.2.2.2.2.1)) (Dt.bnd (C.2.1 (((elt zii v.2.2.2.2.2.1 ((IntKind.wrap .i64 (v.1 - (1:Int)))).toNat).1,(elt zii v.2.2.2.2.2.1 ((IntKind.wrap .i64 (v.1 - (1:Int)))).toNat).2.1,()),(v.2.2.1,v.2.2.2.1,()),())) fun r1=>(Dt.ret (v.1,(decide (r1 > (0:Int))),v.2.2.1,v.2.2.2.1,v.2.2.2.2.1,v.2.2.2.2.2.1,v.2.2.2.2.2.2))) Dt.fail))
theorem q2m3 (C:q2kd) (v:q2lw):treg (litT 35 tysT) (orc (q2kf C)) 78 (regO (qdk f14) 16) true [(5,.any),(10,(.own Ri)),(11,(.own Rii)),(13,(.own RLiE)),(14,.any),(56,.any)] (q2lx v) some=(q2m2 C v).eval fun y=>some (q2m1 y):=by kernel_rfl
abbrev q2m4:Type:=Int×Int×Int×List Di×List Dii×List (List Di)×List Di
def q2m5 (v:q2m4):St:=⟨[(5,.ptr 0 0),(10,.rs 1),(11,.rs 2),(13,.rs 3),(14,i6 v.1)],[.cells [i6 v.2.1,i6 v.2.2.1],.rows Ri v.2.2.2.1,.rows Rii v.2.2.2.2.1,.rowl Ri v.2.2.2.2.2.1 (some 4),.rows Ri v.2.2.2.2.2.2]⟩
def q2m6 (C:q2kd) (v:q2m0):Dt q2m4:=(Dt.ite (Nat.ble (List.length v.2.2.2.2.2.2) 90000) (Dt.ret (v.1,v.2.2.1,v.2.2.2.1,v.2.2.2.2.1,v.2.2.2.2.2.1,(q4q (e:=Ri) v.2.2.2.2.2.2),([]:List Di))) Dt.fail)
theorem q2m7 (C:q2kd) (v:q2m0):treg (litT 35 tysT) (orc (q2kf C)) 78 (regO (qdk f14) 17) false [(5,.any),(10,(.own Ri)),(11,(.own Rii)),(13,(.own RLiE)),(14,.any)] (q2m1 v) some=(q2m6 C v).eval fun y=>some (q2m5 y):=by kernel_rfl
def q2m8 (C:q2kd) (v:q2m4):Dt q2m4:=(Dt.ite (inB (IntKind.wrap .i64 (((List.length v.2.2.2.2.2.1+1:Nat):Int) - (1:Int))) ((List.length v.2.2.2.2.2.1)+1)) (Dt.ite (Nat.beq ((IntKind.wrap .i64 (((List.length v.2.2.2.2.2.1+1:Nat):Int) - (1:Int)))).toNat (List.length v.2.2.2.2.2.1)) (Dt.ite (inB v.1 (List.length v.2.2.2.1)) (Dt.ite (apB (List.length v.2.2.2.2.2.2) (List.length ([((elt zi v.2.2.2.1 (v.1).toNat).1,())]:List Di))) (Dt.ite (inB (IntKind.wrap .i64 (((List.length v.2.2.2.2.2.1+1:Nat):Int) - (1:Int))) ((List.length v.2.2.2.2.2.1)+1)) (Dt.ite (Nat.beq ((IntKind.wrap .i64 (((List.length v.2.2.2.2.2.1+1:Nat):Int) - (1:Int)))).toNat (List.length v.2.2.2.2.2.1)) (Dt.ret (v.1,v.2.1,v.2.2.1,v.2.2.2.1,v.2.2.2.2.1,v.2.2.2.2.2.1,(v.2.2.2.2.2.2++([((elt zi v.2.2.2.1 (v.1).toNat).1,())]:List Di)))) Dt.fail) Dt.fail) Dt.fail) Dt.fail) Dt.fail) Dt.fail)
theorem q2m9 (C:q2kd) (v:q2m4):treg (litT 35 tysT) (orc (q2kf C)) 78 (regO (qdk f14) 18) true [(5,.any),(10,(.own Ri)),(11,(.own Rii)),(13,(.own RLiE)),(14,.any)] (q2m5 v) some=(q2m8 C v).eval fun y=>some (q2m5 y):=by kernel_rfl
def q2ma (C:q2kd) (v:q2m4):Dt q2m4:=(Dt.ret ((IntKind.wrap .i64 (v.1+(1:Int))),v.2.1,v.2.2.1,v.2.2.2.1,v.2.2.2.2.1,v.2.2.2.2.2.1,v.2.2.2.2.2.2))
theorem q2mb (C:q2kd) (v:q2m4):treg (litT 35 tysT) (orc (q2kf C)) 78 (regO (qdk f14) 15) false [(5,.any),(10,(.own Ri)),(11,(.own Rii)),(13,(.own RLiE)),(14,.any)] (q2m5 v) some=(q2ma C v).eval fun y=>some (q2m5 y):=by kernel_rfl
abbrev q2mc:Type:=Int×Bool×Int×Int×List Di×List Dii×List (List Di)×List Di
def q2md (v:q2mc):St:=⟨[(5,.ptr 0 0),(10,.rs 1),(11,.rs 2),(13,.rs 3),(14,i6 v.1),(42,.bool v.2.1)],[.cells [i6 v.2.2.1,i6 v.2.2.2.1],.rows Ri v.2.2.2.2.1,.rows Rii v.2.2.2.2.2.1,.rowl Ri v.2.2.2.2.2.2.1 (some 4),.rows Ri v.2.2.2.2.2.2.2]⟩
def q2me (C:q2kd) (v:q2m4):Dt q2mc:=(Dt.ret (v.1,(decide (v.1<(List.length v.2.2.2.1:Int))),v.2.1,v.2.2.1,v.2.2.2.1,v.2.2.2.2.1,v.2.2.2.2.2.1,v.2.2.2.2.2.2))
theorem q2mf (C:q2kd) (v:q2m4):treg (litT 35 tysT) (orc (q2kf C)) 78 (regO (qdk f14) 14) false [(5,.any),(10,(.own Ri)),(11,(.own Rii)),(13,(.own RLiE)),(14,.any),(42,.any)] (q2m5 v) some=(q2me C v).eval fun y=>some (q2md y):=by kernel_rfl
abbrev q2mg:Type:=Int×Bool×Int×Int×List Di×List Dii×List (List Di)×List Di
def q2mh (v:q2mg):St:=⟨[(5,.ptr 0 0),(10,.rs 1),(11,.rs 2),(13,.rs 3),(14,i6 v.1),(56,.bool v.2.1)],[.cells [i6 v.2.2.1,i6 v.2.2.2.1],.rows Ri v.2.2.2.2.1,.rows Rii v.2.2.2.2.2.1,.rowl Ri v.2.2.2.2.2.2.1 (some 4),.rows Ri v.2.2.2.2.2.2.2]⟩
def q2mi (C:q2kd) (v:q2mc):Dt q2mg:=(Dt.ite (v.1 == (0:Int)) (Dt.ret (v.1,true,v.2.2.1,v.2.2.2.1,v.2.2.2.2.1,v.2.2.2.2.2.1,v.2.2.2.2.2.2.1,v.2.2.2.2.2.2.2)) (Dt.ite (inB (IntKind.wrap .i64 (v.1 - (1:Int))) (List.length v.2.2.2.2.2.1)) (Dt.bnd (C.2.1 (((elt zii v.2.2.2.2.2.1 ((IntKind.wrap .i64 (v.1 - (1:Int)))).toNat).1,(elt zii v.2.2.2.2.2.1 ((IntKind.wrap .i64 (v.1 - (1:Int)))).toNat).2.1,()),(v.2.2.1,v.2.2.2.1,()),())) fun r1=>(Dt.ret (v.1,(decide (r1 > (0:Int))),v.2.2.1,v.2.2.2.1,v.2.2.2.2.1,v.2.2.2.2.2.1,v.2.2.2.2.2.2.1,v.2.2.2.2.2.2.2))) Dt.fail))
theorem q2mj (C:q2kd) (v:q2mc):treg (litT 35 tysT) (orc (q2kf C)) 78 (regO (qdk f14) 16) true [(5,.any),(10,(.own Ri)),(11,(.own Rii)),(13,(.own RLiE)),(14,.any),(56,.any)] (q2md v) some=(q2mi C v).eval fun y=>some (q2mh y):=by kernel_rfl
def q2mk (C:q2kd) (v:q2mg):Dt q2m4:=(Dt.ite (Nat.ble (List.length (v.2.2.2.2.2.2.1 ++ [v.2.2.2.2.2.2.2])) 90000) (Dt.ret (v.1,v.2.2.1,v.2.2.2.1,v.2.2.2.2.1,v.2.2.2.2.2.1,(v.2.2.2.2.2.2.1 ++ [v.2.2.2.2.2.2.2]),([]:List Di))) Dt.fail)
theorem q2ml (C:q2kd) (v:q2mg):treg (litT 35 tysT) (orc (q2kf C)) 78 (regO (qdk f14) 17) false [(5,.any),(10,(.own Ri)),(11,(.own Rii)),(13,(.own RLiE)),(14,.any)] (q2mh v) some=(q2mk C v).eval fun y=>some (q2m5 y):=by kernel_rfl
def q2mm (C:q2kd) (v:q2m4):Dt q2m4:=(Dt.ite (inB (IntKind.wrap .i64 (((List.length v.2.2.2.2.2.1+1:Nat):Int) - (1:Int))) ((List.length v.2.2.2.2.2.1)+1)) (Dt.ite (Nat.beq ((IntKind.wrap .i64 (((List.length v.2.2.2.2.2.1+1:Nat):Int) - (1:Int)))).toNat (List.length v.2.2.2.2.2.1)) (Dt.ite (inB v.1 (List.length v.2.2.2.1)) (Dt.ite (apB (List.length v.2.2.2.2.2.2) (List.length ([((elt zi v.2.2.2.1 (v.1).toNat).1,())]:List Di))) (Dt.ite (inB (IntKind.wrap .i64 (((List.length v.2.2.2.2.2.1+1:Nat):Int) - (1:Int))) ((List.length v.2.2.2.2.2.1)+1)) (Dt.ite (Nat.beq ((IntKind.wrap .i64 (((List.length v.2.2.2.2.2.1+1:Nat):Int) - (1:Int)))).toNat (List.length v.2.2.2.2.2.1)) (Dt.ret (v.1,v.2.1,v.2.2.1,v.2.2.2.1,v.2.2.2.2.1,v.2.2.2.2.2.1,(v.2.2.2.2.2.2++([((elt zi v.2.2.2.1 (v.1).toNat).1,())]:List Di)))) Dt.fail) Dt.fail) Dt.fail) Dt.fail) Dt.fail) Dt.fail)
theorem q2mn (C:q2kd) (v:q2m4):treg (litT 35 tysT) (orc (q2kf C)) 78 (regO (qdk f14) 18) true [(5,.any),(10,(.own Ri)),(11,(.own Rii)),(13,(.own RLiE)),(14,.any)] (q2m5 v) some=(q2mm C v).eval fun y=>some (q2m5 y):=by kernel_rfl
def q2mo (C:q2kd) (v:q2m4):Dt q2m4:=(Dt.ret ((IntKind.wrap .i64 (v.1+(1:Int))),v.2.1,v.2.2.1,v.2.2.2.1,v.2.2.2.2.1,v.2.2.2.2.2.1,v.2.2.2.2.2.2))
theorem q2mp (C:q2kd) (v:q2m4):treg (litT 35 tysT) (orc (q2kf C)) 78 (regO (qdk f14) 15) false [(5,.any),(10,(.own Ri)),(11,(.own Rii)),(13,(.own RLiE)),(14,.any)] (q2m5 v) some=(q2mo C v).eval fun y=>some (q2m5 y):=by kernel_rfl
def q2mq  (d:Nat) (self1:(Int×Int×Int×List Di×List Dii×List (List Di)×List Di)→Option q2ka) (z:Int×Int×Int×List Di×List Dii×List (List Di)×List Di):Option (q2ka) :=
 (q2mm (q2ke d) z).eval fun y18 =>
 (q2mo (q2ke d) y18).eval fun y15 =>
 self1 y15
def q2mr (C:q2kd) (v:q2mc):Dt q2ku:=(Dt.ret ((ql (e:=Ri) (v.2.2.2.2.2.2.1 ++ [v.2.2.2.2.2.2.2])),(0:Int)))
theorem q2ms (C:q2kd) (v:q2mc):treg (litT 35 tysT) (orc (q2kf C)) 78 (regO (qdk f14) 19) false [(6,(.val RLiE)),(7,.any)] (q2md v) some=(q2mr C v).eval fun y=>some (q2kv y):=by kernel_rfl
def q2mt (d:Nat) (self1:(Int×Int×Int×List Di×List Dii×List (List Di)×List Di)→Option q2ka) (x1:Int×Int×Int×List Di×List Dii×List (List Di)×List Di):Option q2ka :=
 (q2me (q2ke d) x1).eval fun y14 =>
 bif y14.2.1 then ((q2mi (q2ke d) y14).eval fun y16 =>
 bif y16.2.1 then ((q2mk (q2ke d) y16).eval fun y17 =>
 q2mq d self1 y17) else (q2mq d self1 (y16.1,y16.2.2.1,y16.2.2.2.1,y16.2.2.2.2.1,y16.2.2.2.2.2.1,y16.2.2.2.2.2.2.1,y16.2.2.2.2.2.2.2))) else ((q2mr (q2ke d) y14).eval fun y19 =>
 some y19)
def q2mu  (d:Nat)  (z:Int×Int×Int×List Di×List Dii×List (List Di)×List Di):Option (q2ka) :=
 (q2m8 (q2ke d) z).eval fun y18p =>
 (q2ma (q2ke d) y18p).eval fun y15p =>
 iter (q2mt d) d y15p
def q2mv (C:q2kd) (v:q2lw):Dt q2ku:=(Dt.ret (v.2.2.2.2.2.2,(0:Int)))
theorem q2mw (C:q2kd) (v:q2lw):treg (litT 35 tysT) (orc (q2kf C)) 78 (regO (qdk f14) 19) false [(6,(.val RLiE)),(7,.any)] (q2lx v) some=(q2mv C v).eval fun y=>some (q2kv y):=by kernel_rfl
def q2mx (d:Nat) (x:q2k9):Option q2ka :=
 (q2kk (q2ke d) (x.1.1,x.2.1.1,x.2.1.2.1,x.2.2.1.1,x.2.2.1.2.1)).eval fun y0 =>
 (q2ko (q2ke d) y0).eval fun y1 =>
 (q2ks (q2ke d) y1).eval fun y2 =>
 bif y2.2.1 then ((q2kw (q2ke d) y2).eval fun y3 =>
 some y3) else ((q2l0 (q2ke d) y2).eval fun y4 =>
 (q2l4 (q2ke d) y4).eval fun y5 =>
 bif y5.2.1 then ((q2l6 (q2ke d) y5).eval fun y6 =>
 some y6) else ((q2la (q2ke d) y5).eval fun y7 =>
 bif y7.1 then ((q2lc (q2ke d) y7).eval fun y8 =>
 some y8) else ((q2lg (q2ke d) y7).eval fun y9 =>
 (q2lk (q2ke d) y9).eval fun y10 =>
 bif y10.2.1 then ((q2lm (q2ke d) y10).eval fun y11 =>
 some y11) else ((q2lq (q2ke d) y10).eval fun y12 =>
 (q2lu (q2ke d) y12).eval fun y13 =>
 (q2ly (q2ke d) y13).eval fun y14p =>
 bif y14p.2.1 then ((q2m2 (q2ke d) y14p).eval fun y16p =>
 bif y16p.2.1 then ((q2m6 (q2ke d) y16p).eval fun y17p =>
 q2mu d  y17p) else (none)) else ((q2mv (q2ke d) y14p).eval fun y19p =>
 some y19p)))))
theorem q2my (d:Nat):COK prog (q2kc (q2mx d)):=by
 have hm:prog.follows .mixedOrders=true:=mixed
 have hT:=q1w tys 35
 have hC0:OrcOK prog (orc (q2kf (q2ke d))):=qde (by
  intro S hS
  simp only [q2kf,List.mem_cons,List.not_mem_nil,or_false] at hS
  rcases hS with rfl | rfl | rfl | rfl
  · exact qno d
  · exact q2gh d
  · exact qvg d
  · exact q2j9 d)
 have hC:OrcOK prog (orc (q2kf (q2ke d))):=hC0
 refine q93 (c:=qdk f14) (fn:=f14) hT (by kernel_rfl) (by kernel_rfl) (by decide) fun x r h w0 φ0 Q hend=>?_
 replace h:q2mx d x=some r:=h
 unfold q2mx at h
 show Run prog w0 φ0 78 (qdk f14) ⟨[(0,.agg [.fz Riii x.1.1]),(1,.agg [.int .i64 x.2.1.1,.int .i64 x.2.1.2.1]),(2,.agg [.int .i64 x.2.2.1.1,.int .i64 x.2.2.1.2.1])],[]⟩ Q
 refine q3pf hm hT hC (q2kl (q2ke d) (x.1.1,x.2.1.1,x.2.1.2.1,x.2.2.1.1,x.2.2.1.2.1)) h fun y0 h=>?_
 refine q8m ?_
 refine q3pf hm hT hC (q2kp (q2ke d) y0) h fun y1 h=>?_
 refine q3pf hm hT hC (q2kt (q2ke d) y1) h fun y2 h=>?_
 refine q8q (v:=y2.2.1) (by kernel_rfl) h ?_ ?_
 ·
  intro h
  refine q3pf hm hT hC (q2kx (q2ke d) y2) h fun y3 h=>?_
  refine q8l (q8a ?_)
  cases h
  exact (hend _ (by kernel_rfl)).2
 ·
  intro h
  refine q8i (q88 (q8m ?_))
  refine q3pf hm hT hC (q2l1 (q2ke d) y2) h fun y4 h=>?_
  refine q3pf hm hT hC (q2l5 (q2ke d) y4) h fun y5 h=>?_
  refine q8q (v:=y5.2.1) (by kernel_rfl) h ?_ ?_
  ·
   intro h
   refine q3pf hm hT hC (q2l7 (q2ke d) y5) h fun y6 h=>?_
   refine q8l (q8a ?_)
   cases h
   exact (hend _ (by kernel_rfl)).2
  ·
   intro h
   refine q8i (q88 (q8m ?_))
   refine q3pf hm hT hC (q2lb (q2ke d) y5) h fun y7 h=>?_
   refine q8q (v:=y7.1) (by kernel_rfl) h ?_ ?_
   ·
    intro h
    refine q3pf hm hT hC (q2ld (q2ke d) y7) h fun y8 h=>?_
    refine q8l (q8a ?_)
    cases h
    exact (hend _ (by kernel_rfl)).2
   ·
    intro h
    refine q8i (q88 ?_)
    refine q3pf hm hT hC (q2lh (q2ke d) y7) h fun y9 h=>?_
    refine q8m ?_
    refine q3pf hm hT hC (q2ll (q2ke d) y9) h fun y10 h=>?_
    refine q8q (v:=y10.2.1) (by kernel_rfl) h ?_ ?_
    ·
     intro h
     refine q3pf hm hT hC (q2ln (q2ke d) y10) h fun y11 h=>?_
     refine q8l (q8a ?_)
     cases h
     exact (hend _ (by kernel_rfl)).2
    ·
     intro h
     refine q8i (q88 ?_)
     refine q3pf hm hT hC (q2lr (q2ke d) y10) h fun y12 h=>?_
     refine q8m ?_
     refine q3pf hm hT hC (q2lv (q2ke d) y12) h fun y13 h=>?_
     refine q8n ?_
     refine q8t (r:=r) (G:=iter (q2mt d)) (S:=(fun x1=>⟨[(5,.ptr 0 0),(10,.rs 1),(11,.rs 2),(13,.rs 3),(14,i6 x1.1)],[.cells [i6 x1.2.1,i6 x1.2.2.1],.rows Ri x1.2.2.2.1,.rows Rii x1.2.2.2.2.1,.rowl Ri x1.2.2.2.2.2.1 (some 4),.rows Ri x1.2.2.2.2.2.2]⟩:Int×Int×Int×List Di×List Dii×List (List Di)×List Di→St)) d (fun _=>rfl) ?_ ?_
     ·
      intro n1 x1 h K1 hn1
      replace h:q2mt d (iter (q2mt d) n1) x1=some r:=h
      generalize hG1:iter (q2mt d) n1=self1 at h
      unfold q2mt at h
      refine q8m ?_
      refine q3pf hm hT hC (q2mf (q2ke d) x1) h fun y14 h=>?_
      refine q8q (v:=y14.2.1) (by kernel_rfl) h ?_ ?_
      ·
       intro h
       refine q8i (q88 (q8m (q8n ?_)))
       refine q8p (r:=r) (F:=q2mq d self1) (S:=(fun z=>⟨[(5,.ptr 0 0),(10,.rs 1),(11,.rs 2),(13,.rs 3),(14,i6 z.1)],[.cells [i6 z.2.1,i6 z.2.2.1],.rows Ri z.2.2.2.1,.rows Rii z.2.2.2.2.1,.rowl Ri z.2.2.2.2.2.1 (some 4),.rows Ri z.2.2.2.2.2.2]⟩:Int×Int×Int×List Di×List Dii×List (List Di)×List Di→St)) ?_ ?_
       ·
        intro z h
        unfold q2mq at h
        refine q8r hm hT hC (q2mn (q2ke d) z) h ?_
        intro y18 h
        refine q8b (q88 ?_)
        refine q8r hm hT hC (q2mp (q2ke d) y18) h ?_
        intro y15 h
        exact hn1 _ ((congrFun hG1 _).trans h)
       intro hj3
       refine q3pf hm hT hC (q2mj (q2ke d) y14) h fun y16 h=>?_
       refine q8q (v:=y16.2.1) (by kernel_rfl) h ?_ ?_
       ·
        intro h
        refine q8r hm hT hC (q2ml (q2ke d) y16) h ?_
        intro y17 h
        exact hj3 _ h
       ·
        intro h
        refine q8i ?_
        refine qdj (s:=⟨[(5,.ptr 0 0),(10,.rs 1),(11,.rs 2),(13,.rs 3),(14,.int .i64 y16.1)],[.cells [.int .i64 y16.2.2.1,.int .i64 y16.2.2.2.1],.rows Ri y16.2.2.2.2.1,.rows Rii y16.2.2.2.2.2.1,.rowl Ri y16.2.2.2.2.2.2.1 (some 4),.rows Ri y16.2.2.2.2.2.2.2]⟩) [56] (by kernel_rfl) ?_
        exact hj3 _ h
      ·
       intro h
       refine q8k (q89 (q89 (q8d (q88 ?_))))
       refine q3pf hm hT hC (q2ms (q2ke d) y14) h fun y19 h=>?_
       refine q8l ?_
       cases h
       exact (hend _ (by kernel_rfl)).2
     ·
      intro K1 hn1
      refine q8m (q8m ?_)
      refine q8r hm hT hC (q2lz (q2ke d) y13) h ?_
      intro y14p h
      refine q88 ?_
      refine q8q (v:=y14p.2.1) (by kernel_rfl) h ?_ ?_
      ·
       intro h
       refine q8i (q88 (q8m (q8n ?_)))
       refine q8p (r:=r) (F:=q2mu d ) (S:=(fun z=>⟨[(5,.ptr 0 0),(10,.rs 1),(11,.rs 2),(13,.rs 3),(14,i6 z.1)],[.cells [i6 z.2.1,i6 z.2.2.1],.rows Ri z.2.2.2.1,.rows Rii z.2.2.2.2.1,.rowl Ri z.2.2.2.2.2.1 (some 4),.rows Ri z.2.2.2.2.2.2]⟩:Int×Int×Int×List Di×List Dii×List (List Di)×List Di→St)) ?_ ?_
       ·
        intro z h
        unfold q2mu at h
        refine q8r hm hT hC (q2m9 (q2ke d) z) h ?_
        intro y18p h
        refine q8b (q88 ?_)
        refine q8r hm hT hC (q2mb (q2ke d) y18p) h ?_
        intro y15p h
        exact hn1 _ h
       intro hj2
       refine q8m ?_
       refine q8r hm hT hC (q2m3 (q2ke d) y14p) h ?_
       intro y16p h
       refine q88 ?_
       refine q8q (v:=y16p.2.1) (by kernel_rfl) h ?_ ?_
       ·
        intro h
        refine q8r hm hT hC (q2m7 (q2ke d) y16p) h ?_
        intro y17p h
        exact hj2 _ h
       ·
        intro h
        refine q8i ?_
        cases h
      ·
       intro h
       refine q8k (q89 (q89 (q8d (q88 (q8m ?_)))))
       refine q8r hm hT hC (q2mw (q2ke d) y14p) h ?_
       intro y19p h
       refine q88 (q8l ?_)
       cases h
       exact (hend _ (by kernel_rfl)).2
abbrev q2mz:List Pk:=[.row qjw true,.row Rii true,.row Rii true]
abbrev q2n0:Type:=qjx×Dii×Dii×Unit
abbrev q2n1:Type:=Int×Int
def q2n2 (r:q2n1):LV×List Ob:=(.tup [.int .i64 r.1,.int .i64 r.2],[])
def q2n3 (F:q2n0→Option q2n1):Go.Tx.Spec:=⟨16,q2mz,q2n1,F,q2n2⟩
abbrev q2n4:Type:=(q2k9→Option q2ka)×Unit
def q2n5 (d:Nat):q2n4:=(q2mx d,())
def q2n6 (C:q2n4):List Go.Tx.Spec:=[q2kc C.1]
abbrev q2n7:Type:=List Diii×Int×Int×Int×Int
def q2n8 (v:q2n7):St:=⟨[(0,.agg [.fz Riii v.1]),(1,.agg [i6 v.2.1,i6 v.2.2.1]),(2,.agg [i6 v.2.2.2.1,i6 v.2.2.2.2])],[]⟩
abbrev q2n9:Type:=List Diii×Int×Int×Int×Int
def q2na (v:q2n9):St:=⟨[(3,.ptr 0 0),(4,.ptr 1 0),(5,.ptr 2 0)],[.cells [.fz Riii v.1],.cells [i6 v.2.1,i6 v.2.2.1],.cells [i6 v.2.2.2.1,i6 v.2.2.2.2]]⟩
def q2nb (C:q2n4) (v:q2n7):Dt q2n9:=(Dt.ret (v.1,v.2.1,v.2.2.1,v.2.2.2.1,v.2.2.2.2))
abbrev q3qz {V Y:Type}:=@rg q2n4 V Y tysT (fun C=>(orc (q2n6 C))) 20
theorem q2nc C v:q3qz (regO (qdk f16) 0) false [(3,(.box [.val Riii])),(4,.any),(5,.any)] q2n8 q2nb q2na C v:=rgI (by kernel_rfl)
abbrev q2nd:Type:=List DLiE×Int
def q2ne (v:q2nd):St:=⟨[(8,.fz RLiE v.1),(9,i6 v.2)],[]⟩
def q2nf (C:q2n4) (v:q2n9):Dt q2nd:=(Dt.bnd (C.1 ((v.1,()),(v.2.1,v.2.2.1,()),(v.2.2.2.1,v.2.2.2.2,()),())) fun r1=>(Dt.ret (r1.1,r1.2)))
theorem q2ng C v:q3qz (regO (qdk f16) 1) false [(8,(.val RLiE)),(9,.any)] q2na q2nf q2ne C v:=rgI (by kernel_rfl)
abbrev q2nh:Type:=Int×Int
def q2ni (v:q2nh):St:=⟨[(6,i6 v.1),(7,i6 v.2)],[]⟩
def q2nj (C:q2n4) (v:q2nd):Dt q2nh:=(Dt.ret ((List.length v.1:Int),v.2))
theorem q2nk C v:q3qz (regO (qdk f16) 2) false (an [6,7]) q2ne q2nj q2ni C v:=rgI (by kernel_rfl)
def q2nl (d:Nat) (x:q2n0):Option q2n1 :=
 (q2nb (q2n5 d) (x.1.1,x.2.1.1,x.2.1.2.1,x.2.2.1.1,x.2.2.1.2.1)).eval fun y0 =>
 (q2nf (q2n5 d) y0).eval fun y1 =>
 (q2nj (q2n5 d) y1).eval fun y2 =>
 some y2
theorem q2nm (d:Nat):COK prog (q2n3 (q2nl d)):=by
 have hm:prog.follows .mixedOrders=true:=mixed
 have hT:=tys
 have hC0:OrcOK prog (orc (q2n6 (q2n5 d))):=qde (by
  intro S hS
  simp only [q2n6,List.mem_cons,List.not_mem_nil,or_false] at hS
  subst hS;exact q2my d)
 have hC:OrcOK prog (orc (q2n6 (q2n5 d))):=hC0
 refine q93 (c:=qdk f16) (fn:=f16) hT (by kernel_rfl) (by kernel_rfl) (by decide) fun x r h w0 φ0 Q hend=>?_
 replace h:q2nl d x=some r:=h
 unfold q2nl at h
 show Run prog w0 φ0 20 (qdk f16) ⟨[(0,.agg [.fz Riii x.1.1]),(1,.agg [.int .i64 x.2.1.1,.int .i64 x.2.1.2.1]),(2,.agg [.int .i64 x.2.2.1.1,.int .i64 x.2.2.1.2.1])],[]⟩ Q
 refine q3pf hm hT hC (q2nc (q2n5 d) (x.1.1,x.2.1.1,x.2.1.2.1,x.2.2.1.1,x.2.2.1.2.1)) h fun y0 h=>?_
 refine q3pf hm hT hC (q2ng (q2n5 d) y0) h fun y1 h=>?_
 refine q3pf hm hT hC (q2nk (q2n5 d) y1) h fun y2 h=>?_
 refine q8l ?_
 cases h
 exact (hend _ (by kernel_rfl)).2
abbrev q2nn:List Pk:=[.row qk2 false,.row Ri false]
abbrev q2no:Type:=qk3×Di×Unit
abbrev q2np:Type:=Int
def q2nq (r:q2np):LV×List Ob:=(.int .i64 r,[])
def q2nr (F:q2no→Option q2np):Go.Tx.Spec:=⟨54,q2nn,q2np,F,q2nq⟩
abbrev q2ns:Type:=Unit
def q2nt (_d:Nat):q2ns:=()
def q2nu (C:q2ns):List Go.Tx.Spec:=[]
abbrev q2nv:Type:=List DLiE×Int
def q2nw (v:q2nv):St:=⟨[(0,.fz RLiE v.1),(1,i6 v.2)],[]⟩
def q2nx (C:q2ns) (v:q2nv):Dt q2nv:=(Dt.ret (v.1,v.2))
abbrev q3r0 {V Y:Type}:=@rg q2ns V Y tysT (fun C=>(orc (q2nu C))) 32
theorem q2ny C v:q3r0 (regO (qdk f54) 0) false [(0,(.val RLiE)),(1,.any)] q2nw q2nx q2nw C v:=rgI (by kernel_rfl)
abbrev q2nz:Type:=List DLiE×Int×Int
def q2o0 (v:q2nz):St:=⟨[(0,.fz RLiE v.1),(1,i6 v.2.1),(5,i6 v.2.2)],[]⟩
def q2o1 (C:q2ns) (v:q2nv):Dt q2nz:=(Dt.ret (v.1,v.2,(0:Int)))
theorem q2o2 C v:q3r0 (regO (qdk f54) 1) false [(0,(.val RLiE)),(1,.any),(5,.any)] q2nw q2o1 q2o0 C v:=rgI (by kernel_rfl)
abbrev q2o3:Type:=List DLiE×Int×Int×Bool
def q2o4 (v:q2o3):St:=⟨[(0,.fz RLiE v.1),(1,i6 v.2.1),(5,i6 v.2.2.1),(10,.bool v.2.2.2)],[]⟩
def q2o5 (C:q2ns) (v:q2nz):Dt q2o3:=(Dt.ret (v.1,v.2.1,v.2.2,(decide (v.2.2<(List.length v.1:Int)))))
theorem q2o6 C v:q3r0 (regO (qdk f54) 2) false [(0,(.val RLiE)),(1,.any),(5,.any),(10,.any)] q2o0 q2o5 q2o4 C v:=rgI (by kernel_rfl)
abbrev q2o7:Type:=List DLiE×Int×Int×Int
def q2o8 (v:q2o7):St:=⟨[(0,.fz RLiE v.1),(1,i6 v.2.1),(5,i6 v.2.2.1),(6,i6 v.2.2.2)],[]⟩
def q2o9 (C:q2ns) (v:q2o3):Dt q2o7:=(Dt.ret (v.1,v.2.1,v.2.2.1,(0:Int)))
theorem q2oa C v:q3r0 (regO (qdk f54) 4) false [(0,(.val RLiE)),(1,.any),(5,.any),(6,.any)] q2o4 q2o9 q2o8 C v:=rgI (by kernel_rfl)
abbrev q2ob:Type:=List DLiE×Int×Int×Int×Bool
def q2oc (v:q2ob):St:=⟨[(0,.fz RLiE v.1),(1,i6 v.2.1),(5,i6 v.2.2.1),(6,i6 v.2.2.2.1),(19,.bool v.2.2.2.2)],[]⟩
def q2od (C:q2ns) (v:q2o7):Dt q2ob:=(Dt.ite (inB v.2.2.1 (List.length v.1)) (Dt.ret (v.1,v.2.1,v.2.2.1,v.2.2.2,(decide (v.2.2.2<(List.length (elt zLiE v.1 (v.2.2.1).toNat).1:Int))))) Dt.fail)
theorem q2oe C v:q3r0 (regO (qdk f54) 5) false [(0,(.val RLiE)),(1,.any),(5,.any),(6,.any),(19,.any)] q2o8 q2od q2oc C v:=rgI (by kernel_rfl)
abbrev q2of:Type:=List DLiE×Int×Int×Int×Bool
def q2og (v:q2of):St:=⟨[(0,.fz RLiE v.1),(1,i6 v.2.1),(5,i6 v.2.2.1),(6,i6 v.2.2.2.1),(30,.bool v.2.2.2.2)],[]⟩
def q2oh (C:q2ns) (v:q2ob):Dt q2of:=(Dt.ite (inB v.2.2.1 (List.length v.1)) (Dt.ite (inB v.2.2.2.1 (List.length (elt zLiE v.1 (v.2.2.1).toNat).1)) (Dt.ret (v.1,v.2.1,v.2.2.1,v.2.2.2.1,((elt zi (elt zLiE v.1 (v.2.2.1).toNat).1 (v.2.2.2.1).toNat).1 == v.2.1))) Dt.fail) Dt.fail)
theorem q2oi C v:q3r0 (regO (qdk f54) 7) false [(0,(.val RLiE)),(1,.any),(5,.any),(6,.any),(30,.any)] q2oc q2oh q2og C v:=rgI (by kernel_rfl)
abbrev q2oj:Type:=Int
def q2ok (v:q2oj):St:=⟨[(4,i6 v)],[]⟩
def q2ol (C:q2ns) (v:q2of):Dt q2oj:=(Dt.ret v.2.2.1)
theorem q2om C v:q3r0 (regO (qdk f54) 8) false [(4,.any)] q2og q2ol q2ok C v:=rgI (by kernel_rfl)
def q2on (C:q2ns) (v:q2of):Dt q2o7:=(Dt.ret (v.1,v.2.1,v.2.2.1,(IntKind.wrap .i64 (v.2.2.2.1+(1:Int)))))
theorem q2oo C v:q3r0 (regO (qdk f54) 6) false [(0,(.val RLiE)),(1,.any),(5,.any),(6,.any)] q2og q2on q2o8 C v:=rgI (by kernel_rfl)
def q2op (C:q2ns) (v:q2ob):Dt q2nz:=(Dt.ret (v.1,v.2.1,(IntKind.wrap .i64 (v.2.2.1+(1:Int)))))
theorem q2oq C v:q3r0 (regO (qdk f54) 3) false [(0,(.val RLiE)),(1,.any),(5,.any)] q2oc q2op q2o0 C v:=rgI (by kernel_rfl)
def q2or (d:Nat) (self1:(List DLiE×Int×Int)→Option q2np) (self2:(List DLiE×Int×Int×Int)→Option q2np) (x2:List DLiE×Int×Int×Int):Option q2np :=
 (q2od (q2nt d) x2).eval fun y5 =>
 bif y5.2.2.2.2 then ((q2oh (q2nt d) y5).eval fun y7 =>
 bif y7.2.2.2.2 then ((q2ol (q2nt d) y7).eval fun y8 =>
 some y8) else ((q2on (q2nt d) y7).eval fun y6 =>
 self2 y6)) else ((q2op (q2nt d) y5).eval fun y3 =>
 self1 y3)
def q2os (C:q2ns) (v:q2o3):Dt q2oj:=(Dt.ret (-1:Int))
theorem q2ot C v:q3r0 (regO (qdk f54) 9) false [(4,.any)] q2o4 q2os q2ok C v:=rgI (by kernel_rfl)
def q2ou (d:Nat) (self1:(List DLiE×Int×Int)→Option q2np) (x1:List DLiE×Int×Int):Option q2np :=
 (q2o5 (q2nt d) x1).eval fun y2 =>
 bif y2.2.2.2 then ((q2o9 (q2nt d) y2).eval fun y4 =>
 iter (q2or d self1) d y4) else ((q2os (q2nt d) y2).eval fun y9 =>
 some y9)
def q2ov (d:Nat) (x:q2no):Option q2np :=
 (q2nx (q2nt d) (x.1.1,x.2.1.1)).eval fun y0 =>
 (q2o1 (q2nt d) y0).eval fun y1 =>
 iter (q2ou d ) d y1
theorem q2ow (d:Nat):COK prog (q2nr (q2ov d)):=by
 have hm:prog.follows .mixedOrders=true:=mixed
 have hT:=tys
 have hC0:OrcOK prog (orc (q2nu (q2nt d))):=qde (by
  intro S hS
  simp only [q2nu,List.mem_cons,List.not_mem_nil,or_false] at hS
  all_goals first | cases hS | exact hS.elim)
 have hC:OrcOK prog (orc (q2nu (q2nt d))):=hC0
 refine q93 (c:=qdk f54) (fn:=f54) hT (by kernel_rfl) (by kernel_rfl) (by decide) fun x r h w0 φ0 Q hend=>?_
 replace h:q2ov d x=some r:=h
 unfold q2ov at h
 show Run prog w0 φ0 32 (qdk f54) ⟨[(0,.fz RLiE x.1.1),(1,.int .i64 x.2.1.1)],[]⟩ Q
 refine q3pf hm hT hC (q2ny (q2nt d) (x.1.1,x.2.1.1)) h fun y0 h=>?_
 refine q8m ?_
 refine q3pf hm hT hC (q2o2 (q2nt d) y0) h fun y1 h=>?_
 refine q8n ?_
 refine q8s (G:=iter (q2ou d )) (S:=(fun x1=>⟨[(0,.fz RLiE x1.1),(1,i6 x1.2.1),(5,i6 x1.2.2)],[]⟩:List DLiE×Int×Int→St)) (fun _=>rfl) ?_ d _ h
 intro n1 x1 h K1 hn1
 replace h:q2ou d  (iter (q2ou d ) n1) x1=some r:=h
 generalize iter (q2ou d ) n1=self1 at h hn1
 unfold q2ou at h
 refine q8m ?_
 refine q3pf hm hT hC (q2o6 (q2nt d) x1) h fun y2 h=>?_
 refine q8q (v:=y2.2.2.2) (by kernel_rfl) h ?_ ?_
 ·
  intro h
  refine q8i (q88 (q8m (q8n ?_)))
  refine q3pf hm hT hC (q2oa (q2nt d) y2) h fun y4 h=>?_
  refine q8n ?_
  refine q8s (G:=iter (q2or d self1)) (S:=(fun x2=>⟨[(0,.fz RLiE x2.1),(1,i6 x2.2.1),(5,i6 x2.2.2.1),(6,i6 x2.2.2.2)],[]⟩:List DLiE×Int×Int×Int→St)) (fun _=>rfl) ?_ d _ h
  intro n2 x2 h K2 hn2
  replace h:q2or d self1 (iter (q2or d self1) n2) x2=some r:=h
  generalize iter (q2or d self1) n2=self2 at h hn2
  unfold q2or at h
  refine q8m ?_
  refine q3pf hm hT hC (q2oe (q2nt d) x2) h fun y5 h=>?_
  refine q8q (v:=y5.2.2.2.2) (by kernel_rfl) h ?_ ?_
  ·
   intro h
   refine q8i (q88 (q8m (q8n ?_)))
   refine q3pf hm hT hC (q2oi (q2nt d) y5) h fun y7 h=>?_
   refine q8q (v:=y7.2.2.2.2) (by kernel_rfl) h ?_ ?_
   ·
    intro h
    refine q3pf hm hT hC (q2om (q2nt d) y7) h fun y8 h=>?_
    refine q8l (q8c (q8a (q8a (q8c (q8c (q8a (q8a (q8c (q8a ?_)))))))))
    cases h
    exact (hend _ (by kernel_rfl)).2
   ·
    intro h
    refine q8i (q8b (q88 ?_))
    refine q8r hm hT hC (q2oo (q2nt d) y7) h ?_
    intro y6 h
    exact hn2 _ h
  ·
   intro h
   refine q8k (q89 (q89 (q8d (q8b (q88 ?_)))))
   refine q8r hm hT hC (q2oq (q2nt d) y5) h ?_
   intro y3 h
   exact hn1 _ h
 ·
  intro h
  refine q8k (q89 (q89 (q8d (q88 ?_))))
  refine q3pf hm hT hC (q2ot (q2nt d) y2) h fun y9 h=>?_
  refine q8l ?_
  cases h
  exact (hend _ (by kernel_rfl)).2
abbrev q2ox:List Pk:=[.row qjw true,.row Rii true,.row Rii true,.row Ri false,.row Ri false]
abbrev q2oy:Type:=qjx×Dii×Dii×Di×Di×Unit
abbrev q2oz:Type:=Bool×Int
def q2p0 (r:q2oz):LV×List Ob:=(.tup [.bool r.1,.int .i64 r.2],[])
def q2p1 (F:q2oy→Option q2oz):Go.Tx.Spec:=⟨30,q2ox,q2oz,F,q2p0⟩
abbrev q2p2:Type:=(q2k9→Option q2ka)×(q2no→Option q2np)×Unit
def q2p3 (d:Nat):q2p2:=(q2mx d,q2ov d,())
def q2p4 (C:q2p2):List Go.Tx.Spec:=[q2kc C.1,q2nr C.2.1]
abbrev q2p5:Type:=List Diii×Int×Int×Int×Int×Int×Int
def q2p6 (v:q2p5):St:=⟨[(0,.agg [.fz Riii v.1]),(1,.agg [i6 v.2.1,i6 v.2.2.1]),(2,.agg [i6 v.2.2.2.1,i6 v.2.2.2.2.1]),(3,i6 v.2.2.2.2.2.1),(4,i6 v.2.2.2.2.2.2)],[]⟩
abbrev q2p7:Type:=Int×Int×List Diii×Int×Int×Int×Int
def q2p8 (v:q2p7):St:=⟨[(3,i6 v.1),(4,i6 v.2.1),(5,.ptr 0 0),(6,.ptr 1 0),(7,.ptr 2 0)],[.cells [.fz Riii v.2.2.1],.cells [i6 v.2.2.2.1,i6 v.2.2.2.2.1],.cells [i6 v.2.2.2.2.2.1,i6 v.2.2.2.2.2.2]]⟩
def q2p9 (C:q2p2) (v:q2p5):Dt q2p7:=(Dt.ret (v.2.2.2.2.2.1,v.2.2.2.2.2.2,v.1,v.2.1,v.2.2.1,v.2.2.2.1,v.2.2.2.2.1))
abbrev q3r1 {V Y:Type}:=@rg q2p2 V Y tysT (fun C=>(orc (q2p4 C))) 41
theorem q2pa C v:q3r1 (regO (qdk f30) 0) false [(3,.any),(4,.any),(5,(.box [.val Riii])),(6,.any),(7,.any)] q2p6 q2p9 q2p8 C v:=rgI (by kernel_rfl)
abbrev q2pb:Type:=Int×Int×List DLiE×Int
def q2pc (v:q2pb):St:=⟨[(3,i6 v.1),(4,i6 v.2.1),(12,.fz RLiE v.2.2.1),(13,i6 v.2.2.2)],[]⟩
def q2pd (C:q2p2) (v:q2p7):Dt q2pb:=(Dt.bnd (C.1 ((v.2.2.1,()),(v.2.2.2.1,v.2.2.2.2.1,()),(v.2.2.2.2.2.1,v.2.2.2.2.2.2,()),())) fun r1=>(Dt.ret (v.1,v.2.1,r1.1,r1.2)))
theorem q2pe C v:q3r1 (regO (qdk f30) 1) false [(3,.any),(4,.any),(12,(.val RLiE)),(13,.any)] q2p8 q2pd q2pc C v:=rgI (by kernel_rfl)
abbrev q2pf:Type:=Int×Int×List DLiE×Int×Bool
def q2pg (v:q2pf):St:=⟨[(3,i6 v.1),(4,i6 v.2.1),(12,.fz RLiE v.2.2.1),(13,i6 v.2.2.2.1),(22,.bool v.2.2.2.2)],[]⟩
def q2ph (C:q2p2) (v:q2pb):Dt q2pf:=(Dt.ret (v.1,v.2.1,v.2.2.1,v.2.2.2,(v.2.2.2 != (0:Int))))
theorem q2pi C v:q3r1 (regO (qdk f30) 2) false [(3,.any),(4,.any),(12,(.val RLiE)),(13,.any),(22,.any)] q2pc q2ph q2pg C v:=rgI (by kernel_rfl)
abbrev q2pj:Type:=Bool×Int
def q2pk (v:q2pj):St:=⟨[(10,.bool v.1),(11,i6 v.2)],[]⟩
def q2pl (C:q2p2) (v:q2pf):Dt q2pj:=(Dt.ret (false,v.2.2.2.1))
theorem q2pm C v:q3r1 (regO (qdk f30) 3) false (an [10,11]) q2pg q2pl q2pk C v:=rgI (by kernel_rfl)
abbrev q2pn:Type:=Int×Int×List DLiE×Bool
def q2po (v:q2pn):St:=⟨[(3,i6 v.1),(4,i6 v.2.1),(12,.fz RLiE v.2.2.1),(33,.bool v.2.2.2)],[]⟩
def q2pp (C:q2p2) (v:q2pf):Dt q2pn:=(Dt.bnd (C.2.1 ((v.2.2.1,()),(v.1,()),())) fun r1=>(Dt.ite (decide (r1<(0:Int))) (Dt.ret (v.1,v.2.1,v.2.2.1,true)) (Dt.bnd (C.2.1 ((v.2.2.1,()),(v.2.1,()),())) fun r2=>(Dt.ret (v.1,v.2.1,v.2.2.1,(decide (r2<(0:Int))))))))
theorem q2pq C v:q3r1 (regO (qdk f30) 4) false [(3,.any),(4,.any),(12,(.val RLiE)),(33,.any)] q2pg q2pp q2po C v:=rgI (by kernel_rfl)
def q2pr (C:q2p2) (v:q2pn):Dt q2pj:=(Dt.ret (false,(6:Int)))
theorem q2ps C v:q3r1 (regO (qdk f30) 5) false (an [10,11]) q2po q2pr q2pk C v:=rgI (by kernel_rfl)
def q2pt (C:q2p2) (v:q2pn):Dt q2pj:=(Dt.bnd (C.2.1 ((v.2.2.1,()),(v.1,()),())) fun r1=>(Dt.bnd (C.2.1 ((v.2.2.1,()),(v.2.1,()),())) fun r2=>(Dt.ret ((r1 == r2),(0:Int)))))
theorem q2pu C v:q3r1 (regO (qdk f30) 6) false (an [10,11]) q2po q2pt q2pk C v:=rgI (by kernel_rfl)
def q2pv (d:Nat) (x:q2oy):Option q2oz :=
 (q2p9 (q2p3 d) (x.1.1,x.2.1.1,x.2.1.2.1,x.2.2.1.1,x.2.2.1.2.1,x.2.2.2.1.1,x.2.2.2.2.1.1)).eval fun y0 =>
 (q2pd (q2p3 d) y0).eval fun y1 =>
 (q2ph (q2p3 d) y1).eval fun y2 =>
 bif y2.2.2.2.2 then ((q2pl (q2p3 d) y2).eval fun y3 =>
 some y3) else ((q2pp (q2p3 d) y2).eval fun y4 =>
 bif y4.2.2.2 then ((q2pr (q2p3 d) y4).eval fun y5 =>
 some y5) else ((q2pt (q2p3 d) y4).eval fun y6 =>
 some y6))
theorem q2pw (d:Nat):COK prog (q2p1 (q2pv d)):=by
 have hm:prog.follows .mixedOrders=true:=mixed
 have hT:=tys
 have hC0:OrcOK prog (orc (q2p4 (q2p3 d))):=qde (by
  intro S hS
  simp only [q2p4,List.mem_cons,List.not_mem_nil,or_false] at hS
  rcases hS with rfl | rfl
  · exact q2my d
  · exact q2ow d)
 have hC:OrcOK prog (orc (q2p4 (q2p3 d))):=hC0
 refine q93 (c:=qdk f30) (fn:=f30) hT (by kernel_rfl) (by kernel_rfl) (by decide) fun x r h w0 φ0 Q hend=>?_
 replace h:q2pv d x=some r:=h
 unfold q2pv at h
 show Run prog w0 φ0 41 (qdk f30) ⟨[(0,.agg [.fz Riii x.1.1]),(1,.agg [.int .i64 x.2.1.1,.int .i64 x.2.1.2.1]),(2,.agg [.int .i64 x.2.2.1.1,.int .i64 x.2.2.1.2.1]),(3,.int .i64 x.2.2.2.1.1),(4,.int .i64 x.2.2.2.2.1.1)],[]⟩ Q
 refine q3pf hm hT hC (q2pa (q2p3 d) (x.1.1,x.2.1.1,x.2.1.2.1,x.2.2.1.1,x.2.2.1.2.1,x.2.2.2.1.1,x.2.2.2.2.1.1)) h fun y0 h=>?_
 refine q3pf hm hT hC (q2pe (q2p3 d) y0) h fun y1 h=>?_
 refine q8m ?_
 refine q3pf hm hT hC (q2pi (q2p3 d) y1) h fun y2 h=>?_
 refine q8q (v:=y2.2.2.2.2) (by kernel_rfl) h ?_ ?_
 ·
  intro h
  refine q3pf hm hT hC (q2pm (q2p3 d) y2) h fun y3 h=>?_
  refine q8l (q8a ?_)
  cases h
  exact (hend _ (by kernel_rfl)).2
 ·
  intro h
  refine q8i (q88 (q8m ?_))
  refine q3pf hm hT hC (q2pq (q2p3 d) y2) h fun y4 h=>?_
  refine q8q (v:=y4.2.2.2) (by kernel_rfl) h ?_ ?_
  ·
   intro h
   refine q3pf hm hT hC (q2ps (q2p3 d) y4) h fun y5 h=>?_
   refine q8l (q8a ?_)
   cases h
   exact (hend _ (by kernel_rfl)).2
  ·
   intro h
   refine q8i (q88 ?_)
   refine q3pf hm hT hC (q2pu (q2p3 d) y4) h fun y6 h=>?_
   refine q8l ?_
   cases h
   exact (hend _ (by kernel_rfl)).2
abbrev q2px:List Pk:=[.row qjw true,.row Rii true,.row Rii true]
abbrev q2py:Type:=qjx×Dii×Dii×Unit
abbrev q2pz:Type:=List Di×Int
def q2q0 (r:q2pz):LV×List Ob:=(.tup [.fz Ri r.1,.int .i64 r.2],[])
def q2q1 (F:q2py→Option q2pz):Go.Tx.Spec:=⟨18,q2px,q2pz,F,q2q0⟩
abbrev q2q2:Type:=(q2k9→Option q2ka)×Unit
def q2q3 (d:Nat):q2q2:=(q2mx d,())
def q2q4 (C:q2q2):List Go.Tx.Spec:=[q2kc C.1]
abbrev q2q5:Type:=List Diii×Int×Int×Int×Int
def q2q6 (v:q2q5):St:=⟨[(0,.agg [.fz Riii v.1]),(1,.agg [i6 v.2.1,i6 v.2.2.1]),(2,.agg [i6 v.2.2.2.1,i6 v.2.2.2.2])],[]⟩
abbrev q2q7:Type:=List Diii×Int×Int×Int×Int
def q2q8 (v:q2q7):St:=⟨[(3,.ptr 0 0),(4,.ptr 1 0),(5,.ptr 2 0)],[.cells [.fz Riii v.1],.cells [i6 v.2.1,i6 v.2.2.1],.cells [i6 v.2.2.2.1,i6 v.2.2.2.2]]⟩
def q2q9 (C:q2q2) (v:q2q5):Dt q2q7:=(Dt.ret (v.1,v.2.1,v.2.2.1,v.2.2.2.1,v.2.2.2.2))
abbrev q3r2 {V Y:Type}:=@rg q2q2 V Y tysT (fun C=>(orc (q2q4 C))) 47
theorem q2qa C v:q3r2 (regO (qdk f18) 0) false [(3,(.box [.val Riii])),(4,.any),(5,.any)] q2q6 q2q9 q2q8 C v:=rgI (by kernel_rfl)
abbrev q2qb:Type:=List DLiE×Int
def q2qc (v:q2qb):St:=⟨[(8,.fz RLiE v.1),(9,i6 v.2)],[]⟩
def q2qd (C:q2q2) (v:q2q7):Dt q2qb:=(Dt.bnd (C.1 ((v.1,()),(v.2.1,v.2.2.1,()),(v.2.2.2.1,v.2.2.2.2,()),())) fun r1=>(Dt.ret (r1.1,r1.2)))
theorem q2qe C v:q3r2 (regO (qdk f18) 1) false [(8,(.val RLiE)),(9,.any)] q2q8 q2qd q2qc C v:=rgI (by kernel_rfl)
abbrev q2qf:Type:=List DLiE×Int×Bool
def q2qg (v:q2qf):St:=⟨[(8,.fz RLiE v.1),(9,i6 v.2.1),(20,.bool v.2.2)],[]⟩
def q2qh (C:q2q2) (v:q2qb):Dt q2qf:=(Dt.ret (v.1,v.2,(v.2 != (0:Int))))
theorem q2qi C v:q3r2 (regO (qdk f18) 2) false [(8,(.val RLiE)),(9,.any),(20,.any)] q2qc q2qh q2qg C v:=rgI (by kernel_rfl)
abbrev q2qj:Type:=List Di×Int
def q2qk (v:q2qj):St:=⟨[(6,.fz Ri v.1),(7,i6 v.2)],[]⟩
def q2ql (C:q2q2) (v:q2qf):Dt q2qj:=(Dt.ret (([]:List Di),v.2.1))
theorem q2qm C v:q3r2 (regO (qdk f18) 3) false [(6,(.val Ri)),(7,.any)] q2qg q2ql q2qk C v:=rgI (by kernel_rfl)
abbrev q2qn:Type:=List DLiE×Bool
def q2qo (v:q2qn):St:=⟨[(8,.fz RLiE v.1),(24,.bool v.2)],[]⟩
def q2qp (C:q2q2) (v:q2qf):Dt q2qn:=(Dt.ret (v.1,((List.length v.1:Int) == (0:Int))))
theorem q2qq C v:q3r2 (regO (qdk f18) 4) false [(8,(.val RLiE)),(24,.any)] q2qg q2qp q2qo C v:=rgI (by kernel_rfl)
def q2qr (C:q2q2) (v:q2qn):Dt q2qj:=(Dt.ret (([]:List Di),(42:Int)))
theorem q2qs C v:q3r2 (regO (qdk f18) 5) false [(6,(.val Ri)),(7,.any)] q2qo q2qr q2qk C v:=rgI (by kernel_rfl)
abbrev q2qt:Type:=List DLiE×List Di
def q2qu (v:q2qt):St:=⟨[(8,.fz RLiE v.1),(10,.fz Ri v.2)],[]⟩
def q2qv (C:q2q2) (v:q2qn):Dt q2qt:=(Dt.ite (inB (0:Int) (List.length v.1)) (Dt.ret (v.1,(elt zLiE v.1 ((0:Int)).toNat).1)) Dt.fail)
theorem q2qw C v:q3r2 (regO (qdk f18) 6) false [(8,(.val RLiE)),(10,(.val Ri))] q2qo q2qv q2qu C v:=rgI (by kernel_rfl)
abbrev q2qx:Type:=List DLiE×List Di×Int
def q2qy (v:q2qx):St:=⟨[(8,.fz RLiE v.1),(10,.fz Ri v.2.1),(11,i6 v.2.2)],[]⟩
def q2qz (C:q2q2) (v:q2qt):Dt q2qx:=(Dt.ret (v.1,v.2,(1:Int)))
theorem q2r0 C v:q3r2 (regO (qdk f18) 7) false [(8,(.val RLiE)),(10,(.val Ri)),(11,.any)] q2qu q2qz q2qy C v:=rgI (by kernel_rfl)
abbrev q2r1:Type:=List DLiE×List Di×Int×Bool
def q2r2 (v:q2r1):St:=⟨[(8,.fz RLiE v.1),(10,.fz Ri v.2.1),(11,i6 v.2.2.1),(31,.bool v.2.2.2)],[]⟩
def q2r3 (C:q2q2) (v:q2qx):Dt q2r1:=(Dt.ret (v.1,v.2.1,v.2.2,(decide (v.2.2<(List.length v.1:Int)))))
theorem q2r4 C v:q3r2 (regO (qdk f18) 8) false [(8,(.val RLiE)),(10,(.val Ri)),(11,.any),(31,.any)] q2qy q2r3 q2r2 C v:=rgI (by kernel_rfl)
abbrev q2r5:Type:=List DLiE×List Di×Int×Bool
def q2r6 (v:q2r5):St:=⟨[(8,.fz RLiE v.1),(10,.fz Ri v.2.1),(11,i6 v.2.2.1),(41,.bool v.2.2.2)],[]⟩
def q2r7 (C:q2q2) (v:q2r1):Dt q2r5:=(Dt.ite (inB v.2.2.1 (List.length v.1)) (Dt.ret (v.1,v.2.1,v.2.2.1,(decide ((List.length (elt zLiE v.1 (v.2.2.1).toNat).1:Int) > (List.length v.2.1:Int))))) Dt.fail)
theorem q2r8 C v:q3r2 (regO (qdk f18) 10) false [(8,(.val RLiE)),(10,(.val Ri)),(11,.any),(41,.any)] q2r2 q2r7 q2r6 C v:=rgI (by kernel_rfl)
def q2r9 (C:q2q2) (v:q2r5):Dt q2qx:=(Dt.ite (inB v.2.2.1 (List.length v.1)) (Dt.ret (v.1,(elt zLiE v.1 (v.2.2.1).toNat).1,v.2.2.1)) Dt.fail)
theorem q2ra C v:q3r2 (regO (qdk f18) 11) false [(8,(.val RLiE)),(10,(.val Ri)),(11,.any)] q2r6 q2r9 q2qy C v:=rgI (by kernel_rfl)
def q2rb (C:q2q2) (v:q2qx):Dt q2qx:=(Dt.ret (v.1,v.2.1,(IntKind.wrap .i64 (v.2.2+(1:Int)))))
theorem q2rc C v:q3r2 (regO (qdk f18) 9) false [(8,(.val RLiE)),(10,(.val Ri)),(11,.any)] q2qy q2rb q2qy C v:=rgI (by kernel_rfl)
def q2rd  (d:Nat) (self1:(List DLiE×List Di×Int)→Option q2pz) (z:List DLiE×List Di×Int):Option (q2pz) :=
 (q2rb (q2q3 d) z).eval fun y9 =>
 self1 y9
def q2re (C:q2q2) (v:q2r1):Dt q2qj:=(Dt.ret (v.2.1,(0:Int)))
theorem q2rf C v:q3r2 (regO (qdk f18) 12) false [(6,(.val Ri)),(7,.any)] q2r2 q2re q2qk C v:=rgI (by kernel_rfl)
def q2rg (d:Nat) (self1:(List DLiE×List Di×Int)→Option q2pz) (x1:List DLiE×List Di×Int):Option q2pz :=
 (q2r3 (q2q3 d) x1).eval fun y8 =>
 bif y8.2.2.2 then ((q2r7 (q2q3 d) y8).eval fun y10 =>
 bif y10.2.2.2 then ((q2r9 (q2q3 d) y10).eval fun y11 =>
 q2rd d self1 y11) else (q2rd d self1 (y10.1,y10.2.1,y10.2.2.1))) else ((q2re (q2q3 d) y8).eval fun y12 =>
 some y12)
def q2rh (d:Nat) (x:q2py):Option q2pz :=
 (q2q9 (q2q3 d) (x.1.1,x.2.1.1,x.2.1.2.1,x.2.2.1.1,x.2.2.1.2.1)).eval fun y0 =>
 (q2qd (q2q3 d) y0).eval fun y1 =>
 (q2qh (q2q3 d) y1).eval fun y2 =>
 bif y2.2.2 then ((q2ql (q2q3 d) y2).eval fun y3 =>
 some y3) else ((q2qp (q2q3 d) y2).eval fun y4 =>
 bif y4.2 then ((q2qr (q2q3 d) y4).eval fun y5 =>
 some y5) else ((q2qv (q2q3 d) y4).eval fun y6 =>
 (q2qz (q2q3 d) y6).eval fun y7 =>
 iter (q2rg d ) d y7))
theorem q2ri (d:Nat):COK prog (q2q1 (q2rh d)):=by
 have hm:prog.follows .mixedOrders=true:=mixed
 have hT:=tys
 have hC0:OrcOK prog (orc (q2q4 (q2q3 d))):=qde (by
  intro S hS
  simp only [q2q4,List.mem_cons,List.not_mem_nil,or_false] at hS
  subst hS;exact q2my d)
 have hC:OrcOK prog (orc (q2q4 (q2q3 d))):=hC0
 refine q93 (c:=qdk f18) (fn:=f18) hT (by kernel_rfl) (by kernel_rfl) (by decide) fun x r h w0 φ0 Q hend=>?_
 replace h:q2rh d x=some r:=h
 unfold q2rh at h
 show Run prog w0 φ0 47 (qdk f18) ⟨[(0,.agg [.fz Riii x.1.1]),(1,.agg [.int .i64 x.2.1.1,.int .i64 x.2.1.2.1]),(2,.agg [.int .i64 x.2.2.1.1,.int .i64 x.2.2.1.2.1])],[]⟩ Q
 refine q3pf hm hT hC (q2qa (q2q3 d) (x.1.1,x.2.1.1,x.2.1.2.1,x.2.2.1.1,x.2.2.1.2.1)) h fun y0 h=>?_
 refine q3pf hm hT hC (q2qe (q2q3 d) y0) h fun y1 h=>?_
 refine q8m ?_
 refine q3pf hm hT hC (q2qi (q2q3 d) y1) h fun y2 h=>?_
 refine q8q (v:=y2.2.2) (by kernel_rfl) h ?_ ?_
 ·
  intro h
  refine q3pf hm hT hC (q2qm (q2q3 d) y2) h fun y3 h=>?_
  refine q8l (q8a ?_)
  cases h
  exact (hend _ (by kernel_rfl)).2
 ·
  intro h
  refine q8i (q88 (q8m ?_))
  refine q3pf hm hT hC (q2qq (q2q3 d) y2) h fun y4 h=>?_
  refine q8q (v:=y4.2) (by kernel_rfl) h ?_ ?_
  ·
   intro h
   refine q3pf hm hT hC (q2qs (q2q3 d) y4) h fun y5 h=>?_
   refine q8l (q8a ?_)
   cases h
   exact (hend _ (by kernel_rfl)).2
  ·
   intro h
   refine q8i (q88 ?_)
   refine q3pf hm hT hC (q2qw (q2q3 d) y4) h fun y6 h=>?_
   refine q8m ?_
   refine q3pf hm hT hC (q2r0 (q2q3 d) y6) h fun y7 h=>?_
   refine q8n ?_
   refine q8s (G:=iter (q2rg d )) (S:=(fun x1=>⟨[(8,.fz RLiE x1.1),(10,.fz Ri x1.2.1),(11,i6 x1.2.2)],[]⟩:List DLiE×List Di×Int→St)) (fun _=>rfl) ?_ d _ h
   intro n1 x1 h K1 hn1
   replace h:q2rg d  (iter (q2rg d ) n1) x1=some r:=h
   generalize iter (q2rg d ) n1=self1 at h hn1
   unfold q2rg at h
   refine q8m ?_
   refine q3pf hm hT hC (q2r4 (q2q3 d) x1) h fun y8 h=>?_
   refine q8q (v:=y8.2.2.2) (by kernel_rfl) h ?_ ?_
   ·
    intro h
    refine q8i (q88 ?_)
    refine q8p (r:=r) (F:=q2rd d self1) (S:=(fun z=>⟨[(8,.fz RLiE z.1),(10,.fz Ri z.2.1),(11,i6 z.2.2)],[]⟩:List DLiE×List Di×Int→St)) ?_ ?_
    ·
     intro z h
     unfold q2rd at h
     refine q8r hm hT hC (q2rc (q2q3 d) z) h ?_
     intro y9 h
     exact hn1 _ h
    intro hj2
    refine q8n ?_
    refine q3pf hm hT hC (q2r8 (q2q3 d) y8) h fun y10 h=>?_
    refine q8q (v:=y10.2.2.2) (by kernel_rfl) h ?_ ?_
    ·
     intro h
     refine q8r hm hT hC (q2ra (q2q3 d) y10) h ?_
     intro y11 h
     refine q8b ?_
     exact hj2 _ h
    ·
     intro h
     refine q8i (q8b ?_)
     refine qdj (s:=⟨[(8,.fz RLiE y10.1),(10,.fz Ri y10.2.1),(11,.int .i64 y10.2.2.1)],[]⟩) [41] (by kernel_rfl) ?_
     exact hj2 _ h
   ·
    intro h
    refine q8k (q89 (q89 (q8d (q88 ?_))))
    refine q3pf hm hT hC (q2rf (q2q3 d) y8) h fun y12 h=>?_
    refine q8l ?_
    cases h
    exact (hend _ (by kernel_rfl)).2
abbrev q2rj:List Pk:=[.row qjw true,.row Rii true,.row Ri false]
abbrev q2rk:Type:=qjx×Dii×Di×Unit
abbrev q2rl:Type:=Int×Int×Int
def q2rm (r:q2rl):LV×List Ob:=(.tup [.agg [.int .i64 r.1,.int .i64 r.2.1],.int .i64 r.2.2],[])
def q2rn (F:q2rk→Option q2rl):Go.Tx.Spec:=⟨31,q2rj,q2rl,F,q2rm⟩
abbrev q2ro:Type:=(q2n0→Option q2n1)×(q2fd→Option q2fe)×(qv9→Option qva)×(q2hn→Option q2ho)×Unit
def q2rp (d:Nat):q2ro:=(q2nl d,q2gg d,qve d,q2j8 d,())
def q2rq (C:q2ro):List Go.Tx.Spec:=[q2n3 C.1,q2fg C.2.1,qvc C.2.2.1,q2hq C.2.2.2.1]
abbrev q2rr:Type:=List Diii×Int×Int×Int
def q2rs (v:q2rr):St:=⟨[(0,.agg [.fz Riii v.1]),(1,.agg [i6 v.2.1,i6 v.2.2.1]),(2,i6 v.2.2.2)],[]⟩
abbrev q2rt:Type:=Int×List Diii×Int×Int×Int×Int
def q2ru (v:q2rt):St:=⟨[(2,i6 v.1),(3,.ptr 0 0),(4,.ptr 1 0),(6,.ptr 2 0)],[.cells [.fz Riii v.2.1],.cells [i6 v.2.2.1,i6 v.2.2.2.1],.cells [i6 v.2.2.2.2.1,i6 v.2.2.2.2.2]]⟩
def q2rv (C:q2ro) (v:q2rr):Dt q2rt:=(Dt.ret (v.2.2.2,v.1,v.2.1,v.2.2.1,(0:Int),(0:Int)))
abbrev q3r3 {V Y:Type}:=@rg q2ro V Y tysT (fun C=>(orc (q2rq C))) 80
theorem q2rw C v:q3r3 (regO (qdk f31) 0) false [(2,.any),(3,(.box [.val Riii])),(4,.any),(6,.any)] q2rs q2rv q2ru C v:=rgI (by kernel_rfl)
abbrev q2rx:Type:=Int×Int×List Diii×Int×Int×Int×Int
def q2ry (v:q2rx):St:=⟨[(2,i6 v.1),(3,.ptr 0 0),(4,.ptr 1 0),(6,.ptr 2 0),(8,i6 v.2.1)],[.cells [.fz Riii v.2.2.1],.cells [i6 v.2.2.2.1,i6 v.2.2.2.2.1],.cells [i6 v.2.2.2.2.2.1,i6 v.2.2.2.2.2.2]]⟩
def q2rz (C:q2ro) (v:q2rt):Dt q2rx:=(Dt.bnd (C.2.2.1 ((v.2.1,()),(v.2.2.1,v.2.2.2.1,()),())) fun r1=>(Dt.ret (v.1,r1,v.2.1,v.2.2.1,v.2.2.2.1,v.2.2.2.2.1,v.2.2.2.2.2)))
theorem q2s0 C v:q3r3 (regO (qdk f31) 1) false [(2,.any),(3,(.box [.val Riii])),(4,.any),(6,.any),(8,.any)] q2ru q2rz q2ry C v:=rgI (by kernel_rfl)
abbrev q2s1:Type:=Int×Int×Bool×List Diii×Int×Int×Int×Int
def q2s2 (v:q2s1):St:=⟨[(2,i6 v.1),(3,.ptr 0 0),(4,.ptr 1 0),(6,.ptr 2 0),(8,i6 v.2.1),(22,.bool v.2.2.1)],[.cells [.fz Riii v.2.2.2.1],.cells [i6 v.2.2.2.2.1,i6 v.2.2.2.2.2.1],.cells [i6 v.2.2.2.2.2.2.1,i6 v.2.2.2.2.2.2.2]]⟩
def q2s3 (C:q2ro) (v:q2rx):Dt q2s1:=(Dt.ret (v.1,v.2.1,(v.2.1 != (0:Int)),v.2.2.1,v.2.2.2.1,v.2.2.2.2.1,v.2.2.2.2.2.1,v.2.2.2.2.2.2))
theorem q2s4 C v:q3r3 (regO (qdk f31) 2) false [(2,.any),(3,(.box [.val Riii])),(4,.any),(6,.any),(8,.any),(22,.any)] q2ry q2s3 q2s2 C v:=rgI (by kernel_rfl)
abbrev q2s5:Type:=Int×Int×Int
def q2s6 (v:q2s5):St:=⟨[(6,.ptr 0 0),(7,i6 v.1)],[.cells [i6 v.2.1,i6 v.2.2]]⟩
def q2s7 (C:q2ro) (v:q2s1):Dt q2s5:=(Dt.ret (v.2.1,(0:Int),(0:Int)))
theorem q2s8 C v:q3r3 (regO (qdk f31) 3) false (an [6,7]) q2s2 q2s7 q2s6 C v:=rgI (by kernel_rfl)
abbrev q2s9:Type:=Int×Int×List Diii×Int×Int×Int×Int×List Dii
def q2sa (v:q2s9):St:=⟨[(2,i6 v.1),(3,.ptr 0 0),(4,.ptr 1 0),(6,.ptr 2 0),(10,.rs 3),(11,i6 v.2.1)],[.cells [.fz Riii v.2.2.1],.cells [i6 v.2.2.2.1,i6 v.2.2.2.2.1],.cells [i6 v.2.2.2.2.2.1,i6 v.2.2.2.2.2.2.1],.rows Rii v.2.2.2.2.2.2.2]⟩
def q2sb (C:q2ro) (v:q2s1):Dt q2s9:=(Dt.bnd (C.2.2.2.1 ((v.2.2.2.1,()),(v.2.2.2.2.1,v.2.2.2.2.2.1,()),())) fun r1=>(Dt.ret (v.1,r1.2.2,v.2.2.2.1,v.2.2.2.2.1,v.2.2.2.2.2.1,v.2.2.2.2.2.2.1,v.2.2.2.2.2.2.2,r1.2.1)))
theorem q2sc C v:q3r3 (regO (qdk f31) 4) false [(2,.any),(3,(.box [.val Riii])),(4,.any),(6,.any),(10,(.own Rii)),(11,.any)] q2s2 q2sb q2sa C v:=rgI (by kernel_rfl)
abbrev q2sd:Type:=Int×Int×Bool×List Diii×Int×Int×Int×Int×List Dii
def q2se (v:q2sd):St:=⟨[(2,i6 v.1),(3,.ptr 0 0),(4,.ptr 1 0),(6,.ptr 2 0),(10,.rs 3),(11,i6 v.2.1),(33,.bool v.2.2.1)],[.cells [.fz Riii v.2.2.2.1],.cells [i6 v.2.2.2.2.1,i6 v.2.2.2.2.2.1],.cells [i6 v.2.2.2.2.2.2.1,i6 v.2.2.2.2.2.2.2.1],.rows Rii v.2.2.2.2.2.2.2.2]⟩
def q2sf (C:q2ro) (v:q2s9):Dt q2sd:=(Dt.ret (v.1,v.2.1,(v.2.1 != (0:Int)),v.2.2.1,v.2.2.2.1,v.2.2.2.2.1,v.2.2.2.2.2.1,v.2.2.2.2.2.2.1,v.2.2.2.2.2.2.2))
theorem q2sg C v:q3r3 (regO (qdk f31) 5) false [(2,.any),(3,(.box [.val Riii])),(4,.any),(6,.any),(10,(.own Rii)),(11,.any),(33,.any)] q2sa q2sf q2se C v:=rgI (by kernel_rfl)
def q2sh (C:q2ro) (v:q2sd):Dt q2s5:=(Dt.ret (v.2.1,(0:Int),(0:Int)))
theorem q2si C v:q3r3 (regO (qdk f31) 6) false (an [6,7]) q2se q2sh q2s6 C v:=rgI (by kernel_rfl)
abbrev q2sj:Type:=Int×Bool×List Diii×Int×Int×Int×Int×List Dii
def q2sk (v:q2sj):St:=⟨[(2,i6 v.1),(3,.ptr 0 0),(4,.ptr 1 0),(6,.ptr 2 0),(10,.rs 3),(37,.bool v.2.1)],[.cells [.fz Riii v.2.2.1],.cells [i6 v.2.2.2.1,i6 v.2.2.2.2.1],.cells [i6 v.2.2.2.2.2.1,i6 v.2.2.2.2.2.2.1],.rows Rii v.2.2.2.2.2.2.2]⟩
def q2sl (C:q2ro) (v:q2sd):Dt q2sj:=(Dt.ret (v.1,(decide (v.1<(1:Int))),v.2.2.2.1,v.2.2.2.2.1,v.2.2.2.2.2.1,v.2.2.2.2.2.2.1,v.2.2.2.2.2.2.2.1,v.2.2.2.2.2.2.2.2))
theorem q2sm C v:q3r3 (regO (qdk f31) 7) false [(2,.any),(3,(.box [.val Riii])),(4,.any),(6,.any),(10,(.own Rii)),(37,.any)] q2se q2sl q2sk C v:=rgI (by kernel_rfl)
def q2sn (C:q2ro) (v:q2sj):Dt q2s5:=(Dt.ret ((2:Int),(0:Int),(0:Int)))
theorem q2so C v:q3r3 (regO (qdk f31) 8) false (an [6,7]) q2sk q2sn q2s6 C v:=rgI (by kernel_rfl)
abbrev q2sp:Type:=Int×List Diii×Int×Int×Int×Int×List Dii
def q2sq (v:q2sp):St:=⟨[(2,i6 v.1),(3,.ptr 0 0),(4,.ptr 1 0),(6,.ptr 2 0),(12,.rs 3)],[.cells [.fz Riii v.2.1],.cells [i6 v.2.2.1,i6 v.2.2.2.1],.cells [i6 v.2.2.2.2.1,i6 v.2.2.2.2.2.1],.rows Rii v.2.2.2.2.2.2]⟩
def q2sr (C:q2ro) (v:q2sj):Dt q2sp:=(Dt.ite (apB (List.length ([((0:Int),(1:Int),())]:List Dii)) (List.length v.2.2.2.2.2.2.2)) (Dt.ret (v.1,v.2.2.1,v.2.2.2.1,v.2.2.2.2.1,v.2.2.2.2.2.1,v.2.2.2.2.2.2.1,(([((0:Int),(1:Int),())]:List Dii)++v.2.2.2.2.2.2.2))) Dt.fail)
theorem q2ss C v:q3r3 (regO (qdk f31) 9) false [(2,.any),(3,(.box [.val Riii])),(4,.any),(6,.any),(12,(.own Rii))] q2sk q2sr q2sq C v:=rgI (by kernel_rfl)
abbrev q2st:Type:=Int×List Diii×Int×Int×Int×Int×List Dii×Int×Int
def q2su (v:q2st):St:=⟨[(2,i6 v.1),(3,.ptr 0 0),(4,.ptr 1 0),(6,.ptr 2 0),(12,.rs 3),(13,.ptr 4 0)],[.cells [.fz Riii v.2.1],.cells [i6 v.2.2.1,i6 v.2.2.2.1],.cells [i6 v.2.2.2.2.1,i6 v.2.2.2.2.2.1],.rows Rii v.2.2.2.2.2.2.1,.cells [i6 v.2.2.2.2.2.2.2.1,i6 v.2.2.2.2.2.2.2.2]]⟩
def q2sv (C:q2ro) (v:q2sp):Dt q2st:=(Dt.ret (v.1,v.2.1,v.2.2.1,v.2.2.2.1,v.2.2.2.2.1,v.2.2.2.2.2.1,v.2.2.2.2.2.2,(0:Int),(0:Int)))
theorem q2sw C v:q3r3 (regO (qdk f31) 10) false [(2,.any),(3,(.box [.val Riii])),(4,.any),(6,.any),(12,(.own Rii)),(13,.any)] q2sq q2sv q2su C v:=rgI (by kernel_rfl)
abbrev q2sx:Type:=Int×Bool×List Diii×Int×Int×Int×Int×List Dii×Int×Int
def q2sy (v:q2sx):St:=⟨[(2,i6 v.1),(3,.ptr 0 0),(4,.ptr 1 0),(6,.ptr 2 0),(12,.rs 3),(13,.ptr 4 0),(14,.bool v.2.1)],[.cells [.fz Riii v.2.2.1],.cells [i6 v.2.2.2.1,i6 v.2.2.2.2.1],.cells [i6 v.2.2.2.2.2.1,i6 v.2.2.2.2.2.2.1],.rows Rii v.2.2.2.2.2.2.2.1,.cells [i6 v.2.2.2.2.2.2.2.2.1,i6 v.2.2.2.2.2.2.2.2.2]]⟩
def q2sz (C:q2ro) (v:q2st):Dt q2sx:=(Dt.ret (v.1,false,v.2.1,v.2.2.1,v.2.2.2.1,v.2.2.2.2.1,v.2.2.2.2.2.1,v.2.2.2.2.2.2.1,v.2.2.2.2.2.2.2.1,v.2.2.2.2.2.2.2.2))
theorem q2t0 C v:q3r3 (regO (qdk f31) 11) false [(2,.any),(3,(.box [.val Riii])),(4,.any),(6,.any),(12,(.own Rii)),(13,.any),(14,.any)] q2su q2sz q2sy C v:=rgI (by kernel_rfl)
abbrev q2t1:Type:=Int×Bool×Int×List Diii×Int×Int×Int×Int×List Dii×Int×Int
def q2t2 (v:q2t1):St:=⟨[(2,i6 v.1),(3,.ptr 0 0),(4,.ptr 1 0),(6,.ptr 2 0),(12,.rs 3),(13,.ptr 4 0),(14,.bool v.2.1),(15,i6 v.2.2.1)],[.cells [.fz Riii v.2.2.2.1],.cells [i6 v.2.2.2.2.1,i6 v.2.2.2.2.2.1],.cells [i6 v.2.2.2.2.2.2.1,i6 v.2.2.2.2.2.2.2.1],.rows Rii v.2.2.2.2.2.2.2.2.1,.cells [i6 v.2.2.2.2.2.2.2.2.2.1,i6 v.2.2.2.2.2.2.2.2.2.2]]⟩
def q2t3 (C:q2ro) (v:q2sx):Dt q2t1:=(Dt.ret (v.1,v.2.1,(0:Int),v.2.2.1,v.2.2.2.1,v.2.2.2.2.1,v.2.2.2.2.2.1,v.2.2.2.2.2.2.1,v.2.2.2.2.2.2.2.1,v.2.2.2.2.2.2.2.2.1,v.2.2.2.2.2.2.2.2.2))
theorem q2t4 C v:q3r3 (regO (qdk f31) 12) false [(2,.any),(3,(.box [.val Riii])),(4,.any),(6,.any),(12,(.own Rii)),(13,.any),(14,.any),(15,.any)] q2sy q2t3 q2t2 C v:=rgI (by kernel_rfl)
abbrev q2t5:Type:=Int×Bool×Int×Bool×List Diii×Int×Int×Int×Int×List Dii×Int×Int
def q2t6 (v:q2t5):St:=⟨[(2,i6 v.1),(3,.ptr 0 0),(4,.ptr 1 0),(6,.ptr 2 0),(12,.rs 3),(13,.ptr 4 0),(14,.bool v.2.1),(15,i6 v.2.2.1),(46,.bool v.2.2.2.1)],[.cells [.fz Riii v.2.2.2.2.1],.cells [i6 v.2.2.2.2.2.1,i6 v.2.2.2.2.2.2.1],.cells [i6 v.2.2.2.2.2.2.2.1,i6 v.2.2.2.2.2.2.2.2.1],.rows Rii v.2.2.2.2.2.2.2.2.2.1,.cells [i6 v.2.2.2.2.2.2.2.2.2.2.1,i6 v.2.2.2.2.2.2.2.2.2.2.2]]⟩
def q2t7 (C:q2ro) (v:q2t1):Dt q2t5:=(Dt.ret (v.1,v.2.1,v.2.2.1,(decide (v.2.2.1<(List.length v.2.2.2.2.2.2.2.2.1:Int))),v.2.2.2.1,v.2.2.2.2.1,v.2.2.2.2.2.1,v.2.2.2.2.2.2.1,v.2.2.2.2.2.2.2.1,v.2.2.2.2.2.2.2.2.1,v.2.2.2.2.2.2.2.2.2.1,v.2.2.2.2.2.2.2.2.2.2))
theorem q2t8 C v:q3r3 (regO (qdk f31) 13) false [(2,.any),(3,(.box [.val Riii])),(4,.any),(6,.any),(12,(.own Rii)),(13,.any),(14,.any),(15,.any),(46,.any)] q2t2 q2t7 q2t6 C v:=rgI (by kernel_rfl)
abbrev q2t9:Type:=Int×Bool×Int×Int×List Diii×Int×Int×Int×Int×List Dii×Int×Int
def q2ta (v:q2t9):St:=⟨[(2,i6 v.1),(3,.ptr 0 0),(4,.ptr 1 0),(6,.ptr 2 0),(12,.rs 3),(13,.ptr 4 0),(14,.bool v.2.1),(15,i6 v.2.2.1),(16,i6 v.2.2.2.1)],[.cells [.fz Riii v.2.2.2.2.1],.cells [i6 v.2.2.2.2.2.1,i6 v.2.2.2.2.2.2.1],.cells [i6 v.2.2.2.2.2.2.2.1,i6 v.2.2.2.2.2.2.2.2.1],.rows Rii v.2.2.2.2.2.2.2.2.2.1,.cells [i6 v.2.2.2.2.2.2.2.2.2.2.1,i6 v.2.2.2.2.2.2.2.2.2.2.2]]⟩
def q2tb (C:q2ro) (v:q2t5):Dt q2t9:=(Dt.ite (inB v.2.2.1 (List.length v.2.2.2.2.2.2.2.2.2.1)) (Dt.bnd (C.1 ((v.2.2.2.2.1,()),(v.2.2.2.2.2.1,v.2.2.2.2.2.2.1,()),((elt zii v.2.2.2.2.2.2.2.2.2.1 (v.2.2.1).toNat).1,(elt zii v.2.2.2.2.2.2.2.2.2.1 (v.2.2.1).toNat).2.1,()),())) fun r1=>(Dt.ret (v.1,v.2.1,v.2.2.1,r1.1,v.2.2.2.2.1,v.2.2.2.2.2.1,v.2.2.2.2.2.2.1,v.2.2.2.2.2.2.2.1,v.2.2.2.2.2.2.2.2.1,v.2.2.2.2.2.2.2.2.2.1,v.2.2.2.2.2.2.2.2.2.2.1,v.2.2.2.2.2.2.2.2.2.2.2))) Dt.fail)
theorem q2tc C v:q3r3 (regO (qdk f31) 15) true [(2,.any),(3,(.box [.val Riii])),(4,.any),(6,.any),(12,(.own Rii)),(13,.any),(14,.any),(15,.any),(16,.any)] q2t6 q2tb q2ta C v:=rgI (by kernel_rfl)
abbrev q2td:Type:=Int×Bool×Int×Bool×List Diii×Int×Int×Int×Int×List Dii×Int×Int
def q2te (v:q2td):St:=⟨[(2,i6 v.1),(3,.ptr 0 0),(4,.ptr 1 0),(6,.ptr 2 0),(12,.rs 3),(13,.ptr 4 0),(14,.bool v.2.1),(15,i6 v.2.2.1),(74,.bool v.2.2.2.1)],[.cells [.fz Riii v.2.2.2.2.1],.cells [i6 v.2.2.2.2.2.1,i6 v.2.2.2.2.2.2.1],.cells [i6 v.2.2.2.2.2.2.2.1,i6 v.2.2.2.2.2.2.2.2.1],.rows Rii v.2.2.2.2.2.2.2.2.2.1,.cells [i6 v.2.2.2.2.2.2.2.2.2.2.1,i6 v.2.2.2.2.2.2.2.2.2.2.2]]⟩
def q2tf (C:q2ro) (v:q2t9):Dt q2td:=(Dt.ite (decide (v.2.2.2.1≤v.1)) (Dt.ite (!v.2.1) (Dt.ret (v.1,v.2.1,v.2.2.1,true,v.2.2.2.2.1,v.2.2.2.2.2.1,v.2.2.2.2.2.2.1,v.2.2.2.2.2.2.2.1,v.2.2.2.2.2.2.2.2.1,v.2.2.2.2.2.2.2.2.2.1,v.2.2.2.2.2.2.2.2.2.2.1,v.2.2.2.2.2.2.2.2.2.2.2)) (Dt.ite (inB v.2.2.1 (List.length v.2.2.2.2.2.2.2.2.2.1)) (Dt.bnd (C.2.1 (((elt zii v.2.2.2.2.2.2.2.2.2.1 (v.2.2.1).toNat).1,(elt zii v.2.2.2.2.2.2.2.2.2.1 (v.2.2.1).toNat).2.1,()),(v.2.2.2.2.2.2.2.2.2.2.1,v.2.2.2.2.2.2.2.2.2.2.2,()),())) fun r1=>(Dt.ret (v.1,v.2.1,v.2.2.1,(decide (r1<(0:Int))),v.2.2.2.2.1,v.2.2.2.2.2.1,v.2.2.2.2.2.2.1,v.2.2.2.2.2.2.2.1,v.2.2.2.2.2.2.2.2.1,v.2.2.2.2.2.2.2.2.2.1,v.2.2.2.2.2.2.2.2.2.2.1,v.2.2.2.2.2.2.2.2.2.2.2))) Dt.fail)) (Dt.ret (v.1,v.2.1,v.2.2.1,false,v.2.2.2.2.1,v.2.2.2.2.2.1,v.2.2.2.2.2.2.1,v.2.2.2.2.2.2.2.1,v.2.2.2.2.2.2.2.2.1,v.2.2.2.2.2.2.2.2.2.1,v.2.2.2.2.2.2.2.2.2.2.1,v.2.2.2.2.2.2.2.2.2.2.2)))
theorem q2tg C v:q3r3 (regO (qdk f31) 16) true [(2,.any),(3,(.box [.val Riii])),(4,.any),(6,.any),(12,(.own Rii)),(13,.any),(14,.any),(15,.any),(74,.any)] q2ta q2tf q2te C v:=rgI (by kernel_rfl)
def q2th (C:q2ro) (v:q2td):Dt q2t1:=(Dt.ite (inB v.2.2.1 (List.length v.2.2.2.2.2.2.2.2.2.1)) (Dt.ret (v.1,true,v.2.2.1,v.2.2.2.2.1,v.2.2.2.2.2.1,v.2.2.2.2.2.2.1,v.2.2.2.2.2.2.2.1,v.2.2.2.2.2.2.2.2.1,v.2.2.2.2.2.2.2.2.2.1,(elt zii v.2.2.2.2.2.2.2.2.2.1 (v.2.2.1).toNat).1,(elt zii v.2.2.2.2.2.2.2.2.2.1 (v.2.2.1).toNat).2.1)) Dt.fail)
theorem q2ti C v:q3r3 (regO (qdk f31) 17) false [(2,.any),(3,(.box [.val Riii])),(4,.any),(6,.any),(12,(.own Rii)),(13,.any),(14,.any),(15,.any)] q2te q2th q2t2 C v:=rgI (by kernel_rfl)
def q2tj (C:q2ro) (v:q2t1):Dt q2t1:=(Dt.ret (v.1,v.2.1,(IntKind.wrap .i64 (v.2.2.1+(1:Int))),v.2.2.2.1,v.2.2.2.2.1,v.2.2.2.2.2.1,v.2.2.2.2.2.2.1,v.2.2.2.2.2.2.2.1,v.2.2.2.2.2.2.2.2.1,v.2.2.2.2.2.2.2.2.2.1,v.2.2.2.2.2.2.2.2.2.2))
theorem q2tk C v:q3r3 (regO (qdk f31) 14) false [(2,.any),(3,(.box [.val Riii])),(4,.any),(6,.any),(12,(.own Rii)),(13,.any),(14,.any),(15,.any)] q2t2 q2tj q2t2 C v:=rgI (by kernel_rfl)
def q2tl  (d:Nat) (self1:(Int×Bool×Int×List Diii×Int×Int×Int×Int×List Dii×Int×Int)→Option q2rl) (z:Int×Bool×Int×List Diii×Int×Int×Int×Int×List Dii×Int×Int):Option (q2rl) :=
 (q2tj (q2rp d) z).eval fun y14 =>
 self1 y14
def q2tm (C:q2ro) (v:q2t5):Dt q2s5:=(Dt.ret ((0:Int),v.2.2.2.2.2.2.2.2.2.2.1,v.2.2.2.2.2.2.2.2.2.2.2))
theorem q2tn C v:q3r3 (regO (qdk f31) 18) false (an [6,7]) q2t6 q2tm q2s6 C v:=rgI (by kernel_rfl)
def q2to (d:Nat) (self1:(Int×Bool×Int×List Diii×Int×Int×Int×Int×List Dii×Int×Int)→Option q2rl) (x1:Int×Bool×Int×List Diii×Int×Int×Int×Int×List Dii×Int×Int):Option q2rl :=
 (q2t7 (q2rp d) x1).eval fun y13 =>
 bif y13.2.2.2.1 then ((q2tb (q2rp d) y13).eval fun y15 =>
 (q2tf (q2rp d) y15).eval fun y16 =>
 bif y16.2.2.2.1 then ((q2th (q2rp d) y16).eval fun y17 =>
 q2tl d self1 y17) else (q2tl d self1 (y16.1,y16.2.1,y16.2.2.1,y16.2.2.2.2.1,y16.2.2.2.2.2.1,y16.2.2.2.2.2.2.1,y16.2.2.2.2.2.2.2.1,y16.2.2.2.2.2.2.2.2.1,y16.2.2.2.2.2.2.2.2.2.1,y16.2.2.2.2.2.2.2.2.2.2.1,y16.2.2.2.2.2.2.2.2.2.2.2))) else ((q2tm (q2rp d) y13).eval fun y18 =>
 some (y18.2.1,y18.2.2,y18.1))
def q2tp (d:Nat) (x:q2rk):Option q2rl :=
 (q2rv (q2rp d) (x.1.1,x.2.1.1,x.2.1.2.1,x.2.2.1.1)).eval fun y0 =>
 (q2rz (q2rp d) y0).eval fun y1 =>
 (q2s3 (q2rp d) y1).eval fun y2 =>
 bif y2.2.2.1 then ((q2s7 (q2rp d) y2).eval fun y3 =>
 some (y3.2.1,y3.2.2,y3.1)) else ((q2sb (q2rp d) y2).eval fun y4 =>
 (q2sf (q2rp d) y4).eval fun y5 =>
 bif y5.2.2.1 then ((q2sh (q2rp d) y5).eval fun y6 =>
 some (y6.2.1,y6.2.2,y6.1)) else ((q2sl (q2rp d) y5).eval fun y7 =>
 bif y7.2.1 then ((q2sn (q2rp d) y7).eval fun y8 =>
 some (y8.2.1,y8.2.2,y8.1)) else ((q2sr (q2rp d) y7).eval fun y9 =>
 (q2sv (q2rp d) y9).eval fun y10 =>
 (q2sz (q2rp d) y10).eval fun y11 =>
 (q2t3 (q2rp d) y11).eval fun y12 =>
 iter (q2to d ) d y12)))
theorem q2tq (d:Nat):COK prog (q2rn (q2tp d)):=by
 have hm:prog.follows .mixedOrders=true:=mixed
 have hT:=tys
 have hC0:OrcOK prog (orc (q2rq (q2rp d))):=qde (by
  intro S hS
  simp only [q2rq,List.mem_cons,List.not_mem_nil,or_false] at hS
  rcases hS with rfl | rfl | rfl | rfl
  · exact q2nm d
  · exact q2gh d
  · exact qvg d
  · exact q2j9 d)
 have hC:OrcOK prog (orc (q2rq (q2rp d))):=hC0
 refine q93 (c:=qdk f31) (fn:=f31) hT (by kernel_rfl) (by kernel_rfl) (by decide) fun x r h w0 φ0 Q hend=>?_
 replace h:q2tp d x=some r:=h
 unfold q2tp at h
 show Run prog w0 φ0 80 (qdk f31) ⟨[(0,.agg [.fz Riii x.1.1]),(1,.agg [.int .i64 x.2.1.1,.int .i64 x.2.1.2.1]),(2,.int .i64 x.2.2.1.1)],[]⟩ Q
 refine q3pf hm hT hC (q2rw (q2rp d) (x.1.1,x.2.1.1,x.2.1.2.1,x.2.2.1.1)) h fun y0 h=>?_
 refine q8m ?_
 refine q3pf hm hT hC (q2s0 (q2rp d) y0) h fun y1 h=>?_
 refine q3pf hm hT hC (q2s4 (q2rp d) y1) h fun y2 h=>?_
 refine q8q (v:=y2.2.2.1) (by kernel_rfl) h ?_ ?_
 ·
  intro h
  refine q3pf hm hT hC (q2s8 (q2rp d) y2) h fun y3 h=>?_
  refine q8l (q8a ?_)
  cases h
  exact (hend _ (by kernel_rfl)).2
 ·
  intro h
  refine q8i (q88 ?_)
  refine q3pf hm hT hC (q2sc (q2rp d) y2) h fun y4 h=>?_
  refine q8m ?_
  refine q3pf hm hT hC (q2sg (q2rp d) y4) h fun y5 h=>?_
  refine q8q (v:=y5.2.2.1) (by kernel_rfl) h ?_ ?_
  ·
   intro h
   refine q3pf hm hT hC (q2si (q2rp d) y5) h fun y6 h=>?_
   refine q8l (q8a ?_)
   cases h
   exact (hend _ (by kernel_rfl)).2
  ·
   intro h
   refine q8i (q88 (q8m ?_))
   refine q3pf hm hT hC (q2sm (q2rp d) y5) h fun y7 h=>?_
   refine q8q (v:=y7.2.1) (by kernel_rfl) h ?_ ?_
   ·
    intro h
    refine q3pf hm hT hC (q2so (q2rp d) y7) h fun y8 h=>?_
    refine q8l (q8a ?_)
    cases h
    exact (hend _ (by kernel_rfl)).2
   ·
    intro h
    refine q8i (q88 ?_)
    refine q3pf hm hT hC (q2ss (q2rp d) y7) h fun y9 h=>?_
    refine q3pf hm hT hC (q2sw (q2rp d) y9) h fun y10 h=>?_
    refine q3pf hm hT hC (q2t0 (q2rp d) y10) h fun y11 h=>?_
    refine q8m ?_
    refine q3pf hm hT hC (q2t4 (q2rp d) y11) h fun y12 h=>?_
    refine q8n ?_
    refine q8s (G:=iter (q2to d )) (S:=(fun x1=>⟨[(2,i6 x1.1),(3,.ptr 0 0),(4,.ptr 1 0),(6,.ptr 2 0),(12,.rs 3),(13,.ptr 4 0),(14,.bool x1.2.1),(15,i6 x1.2.2.1)],[.cells [.fz Riii x1.2.2.2.1],.cells [i6 x1.2.2.2.2.1,i6 x1.2.2.2.2.2.1],.cells [i6 x1.2.2.2.2.2.2.1,i6 x1.2.2.2.2.2.2.2.1],.rows Rii x1.2.2.2.2.2.2.2.2.1,.cells [i6 x1.2.2.2.2.2.2.2.2.2.1,i6 x1.2.2.2.2.2.2.2.2.2.2]]⟩:Int×Bool×Int×List Diii×Int×Int×Int×Int×List Dii×Int×Int→St)) (fun _=>rfl) ?_ d _ h
    intro n1 x1 h K1 hn1
    replace h:q2to d  (iter (q2to d ) n1) x1=some r:=h
    generalize iter (q2to d ) n1=self1 at h hn1
    unfold q2to at h
    refine q8m ?_
    refine q3pf hm hT hC (q2t8 (q2rp d) x1) h fun y13 h=>?_
    refine q8q (v:=y13.2.2.2.1) (by kernel_rfl) h ?_ ?_
    ·
     intro h
     refine q8i (q88 ?_)
     refine q8p (r:=r) (F:=q2tl d self1) (S:=(fun z=>⟨[(2,i6 z.1),(3,.ptr 0 0),(4,.ptr 1 0),(6,.ptr 2 0),(12,.rs 3),(13,.ptr 4 0),(14,.bool z.2.1),(15,i6 z.2.2.1)],[.cells [.fz Riii z.2.2.2.1],.cells [i6 z.2.2.2.2.1,i6 z.2.2.2.2.2.1],.cells [i6 z.2.2.2.2.2.2.1,i6 z.2.2.2.2.2.2.2.1],.rows Rii z.2.2.2.2.2.2.2.2.1,.cells [i6 z.2.2.2.2.2.2.2.2.2.1,i6 z.2.2.2.2.2.2.2.2.2.2]]⟩:Int×Bool×Int×List Diii×Int×Int×Int×Int×List Dii×Int×Int→St)) ?_ ?_
     ·
      intro z h
      unfold q2tl at h
      refine q8r hm hT hC (q2tk (q2rp d) z) h ?_
      intro y14 h
      exact hn1 _ h
     intro hj2
     refine q8n ?_
     refine q3pf hm hT hC (q2tc (q2rp d) y13) h fun y15 h=>?_
     refine q3pf hm hT hC (q2tg (q2rp d) y15) h fun y16 h=>?_
     refine q8q (v:=y16.2.2.2.1) (by kernel_rfl) h ?_ ?_
     ·
      intro h
      refine q8r hm hT hC (q2ti (q2rp d) y16) h ?_
      intro y17 h
      refine q8b ?_
      exact hj2 _ h
     ·
      intro h
      refine q8i (q8b ?_)
      refine qdj (s:=⟨[(2,.int .i64 y16.1),(3,.ptr 0 0),(4,.ptr 1 0),(6,.ptr 2 0),(12,.rs 3),(13,.ptr 4 0),(14,.bool y16.2.1),(15,.int .i64 y16.2.2.1)],[.cells [.fz Riii y16.2.2.2.2.1],.cells [.int .i64 y16.2.2.2.2.2.1,.int .i64 y16.2.2.2.2.2.2.1],.cells [.int .i64 y16.2.2.2.2.2.2.2.1,.int .i64 y16.2.2.2.2.2.2.2.2.1],.rows Rii y16.2.2.2.2.2.2.2.2.2.1,.cells [.int .i64 y16.2.2.2.2.2.2.2.2.2.2.1,.int .i64 y16.2.2.2.2.2.2.2.2.2.2.2]]⟩) [74] (by kernel_rfl) ?_
      exact hj2 _ h
    ·
     intro h
     refine q8k (q89 (q89 (q8d (q88 ?_))))
     refine q3pf hm hT hC (q2tn (q2rp d) y13) h fun y18 h=>?_
     refine q8l ?_
     cases h
     exact (hend _ (by kernel_rfl)).2
abbrev q2tr:List Pk:=[.row qk2 false,.row qk2 false]
abbrev q2ts:Type:=qk3×qk3×Unit
abbrev q2tt:Type:=Bool
def q2tu (r:q2tt):LV×List Ob:=(.bool r,[])
def q2tv (F:q2ts→Option q2tt):Go.Tx.Spec:=⟨20,q2tr,q2tt,F,q2tu⟩
abbrev q2tw:Type:=(qur→Option qus)×Unit
def q2tx (d:Nat):q2tw:=(quw d,())
def q2ty (C:q2tw):List Go.Tx.Spec:=[quu C.1]
abbrev q2tz:Type:=List DLiE×List DLiE
def q2u0 (v:q2tz):St:=⟨[(0,.fz RLiE v.1),(1,.fz RLiE v.2)],[]⟩
def q2u1 (C:q2tw) (v:q2tz):Dt q2tz:=(Dt.ret (v.1,v.2))
abbrev q3r4 {V Y:Type}:=@rg q2tw V Y tysT (fun C=>(orc (q2ty C))) 27
theorem q2u2 C v:q3r4 (regO (qdk f20) 0) false [(0,(.val RLiE)),(1,(.val RLiE))] q2u0 q2u1 q2u0 C v:=rgI (by kernel_rfl)
abbrev q2u3:Type:=List DLiE×List DLiE×Bool
def q2u4 (v:q2u3):St:=⟨[(0,.fz RLiE v.1),(1,.fz RLiE v.2.1),(10,.bool v.2.2)],[]⟩
def q2u5 (C:q2tw) (v:q2tz):Dt q2u3:=(Dt.ret (v.1,v.2,((List.length v.1:Int) != (List.length v.2:Int))))
theorem q2u6 C v:q3r4 (regO (qdk f20) 1) false [(0,(.val RLiE)),(1,(.val RLiE)),(10,.any)] q2u0 q2u5 q2u4 C v:=rgI (by kernel_rfl)
abbrev q2u7:Type:=Bool
def q2u8 (v:q2u7):St:=⟨[(4,.bool v)],[]⟩
def q2u9 (C:q2tw) (v:q2u3):Dt q2u7:=(Dt.ret false)
theorem q2ua C v:q3r4 (regO (qdk f20) 2) false [(4,.any)] q2u4 q2u9 q2u8 C v:=rgI (by kernel_rfl)
abbrev q2ub:Type:=List DLiE×List DLiE×Int
def q2uc (v:q2ub):St:=⟨[(0,.fz RLiE v.1),(1,.fz RLiE v.2.1),(5,i6 v.2.2)],[]⟩
def q2ud (C:q2tw) (v:q2u3):Dt q2ub:=(Dt.ret (v.1,v.2.1,(0:Int)))
theorem q2ue C v:q3r4 (regO (qdk f20) 3) false [(0,(.val RLiE)),(1,(.val RLiE)),(5,.any)] q2u4 q2ud q2uc C v:=rgI (by kernel_rfl)
abbrev q2uf:Type:=List DLiE×List DLiE×Int×Bool
def q2ug (v:q2uf):St:=⟨[(0,.fz RLiE v.1),(1,.fz RLiE v.2.1),(5,i6 v.2.2.1),(14,.bool v.2.2.2)],[]⟩
def q2uh (C:q2tw) (v:q2ub):Dt q2uf:=(Dt.ret (v.1,v.2.1,v.2.2,(decide (v.2.2<(List.length v.1:Int)))))
theorem q2ui C v:q3r4 (regO (qdk f20) 4) false [(0,(.val RLiE)),(1,(.val RLiE)),(5,.any),(14,.any)] q2uc q2uh q2ug C v:=rgI (by kernel_rfl)
abbrev q2uj:Type:=List DLiE×List DLiE×Int×Bool
def q2uk (v:q2uj):St:=⟨[(0,.fz RLiE v.1),(1,.fz RLiE v.2.1),(5,i6 v.2.2.1),(26,.bool v.2.2.2)],[]⟩
def q2ul (C:q2tw) (v:q2uf):Dt q2uj:=(Dt.ite (inB v.2.2.1 (List.length v.1)) (Dt.ite (inB v.2.2.1 (List.length v.2.1)) (Dt.bnd (C.1 (((elt zLiE v.1 (v.2.2.1).toNat).1,()),((elt zLiE v.2.1 (v.2.2.1).toNat).1,()),())) fun r1=>(Dt.ret (v.1,v.2.1,v.2.2.1,(!r1)))) Dt.fail) Dt.fail)
theorem q2um C v:q3r4 (regO (qdk f20) 6) true [(0,(.val RLiE)),(1,(.val RLiE)),(5,.any),(26,.any)] q2ug q2ul q2uk C v:=rgI (by kernel_rfl)
def q2un (C:q2tw) (v:q2uj):Dt q2u7:=(Dt.ret false)
theorem q2uo C v:q3r4 (regO (qdk f20) 7) false [(4,.any)] q2uk q2un q2u8 C v:=rgI (by kernel_rfl)
def q2up (C:q2tw) (v:q2uj):Dt q2ub:=(Dt.ret (v.1,v.2.1,(IntKind.wrap .i64 (v.2.2.1+(1:Int)))))
theorem q2uq C v:q3r4 (regO (qdk f20) 5) false [(0,(.val RLiE)),(1,(.val RLiE)),(5,.any)] q2uk q2up q2uc C v:=rgI (by kernel_rfl)
def q2ur (C:q2tw) (v:q2uf):Dt q2u7:=(Dt.ret true)
theorem q2us C v:q3r4 (regO (qdk f20) 8) false [(4,.any)] q2ug q2ur q2u8 C v:=rgI (by kernel_rfl)
def q2ut (d:Nat) (self1:(List DLiE×List DLiE×Int)→Option q2tt) (x1:List DLiE×List DLiE×Int):Option q2tt :=
 (q2uh (q2tx d) x1).eval fun y4 =>
 bif y4.2.2.2 then ((q2ul (q2tx d) y4).eval fun y6 =>
 bif y6.2.2.2 then ((q2un (q2tx d) y6).eval fun y7 =>
 some y7) else ((q2up (q2tx d) y6).eval fun y5 =>
 self1 y5)) else ((q2ur (q2tx d) y4).eval fun y8 =>
 some y8)
def q2uu (d:Nat) (x:q2ts):Option q2tt :=
 (q2u1 (q2tx d) (x.1.1,x.2.1.1)).eval fun y0 =>
 (q2u5 (q2tx d) y0).eval fun y1 =>
 bif y1.2.2 then ((q2u9 (q2tx d) y1).eval fun y2 =>
 some y2) else ((q2ud (q2tx d) y1).eval fun y3 =>
 iter (q2ut d ) d y3)
theorem q2uv (d:Nat):COK prog (q2tv (q2uu d)):=by
 have hm:prog.follows .mixedOrders=true:=mixed
 have hT:=tys
 have hC0:OrcOK prog (orc (q2ty (q2tx d))):=qde (by
  intro S hS
  simp only [q2ty,List.mem_cons,List.not_mem_nil,or_false] at hS
  subst hS;exact quy d)
 have hC:OrcOK prog (orc (q2ty (q2tx d))):=hC0
 refine q93 (c:=qdk f20) (fn:=f20) hT (by kernel_rfl) (by kernel_rfl) (by decide) fun x r h w0 φ0 Q hend=>?_
 replace h:q2uu d x=some r:=h
 unfold q2uu at h
 show Run prog w0 φ0 27 (qdk f20) ⟨[(0,.fz RLiE x.1.1),(1,.fz RLiE x.2.1.1)],[]⟩ Q
 refine q3pf hm hT hC (q2u2 (q2tx d) (x.1.1,x.2.1.1)) h fun y0 h=>?_
 refine q8m ?_
 refine q3pf hm hT hC (q2u6 (q2tx d) y0) h fun y1 h=>?_
 refine q8q (v:=y1.2.2) (by kernel_rfl) h ?_ ?_
 ·
  intro h
  refine q3pf hm hT hC (q2ua (q2tx d) y1) h fun y2 h=>?_
  refine q8l (q8a ?_)
  cases h
  exact (hend _ (by kernel_rfl)).2
 ·
  intro h
  refine q8i (q88 (q8m ?_))
  refine q3pf hm hT hC (q2ue (q2tx d) y1) h fun y3 h=>?_
  refine q8n ?_
  refine q8s (G:=iter (q2ut d )) (S:=(fun x1=>⟨[(0,.fz RLiE x1.1),(1,.fz RLiE x1.2.1),(5,i6 x1.2.2)],[]⟩:List DLiE×List DLiE×Int→St)) (fun _=>rfl) ?_ d _ h
  intro n1 x1 h K1 hn1
  replace h:q2ut d  (iter (q2ut d ) n1) x1=some r:=h
  generalize iter (q2ut d ) n1=self1 at h hn1
  unfold q2ut at h
  refine q8m ?_
  refine q3pf hm hT hC (q2ui (q2tx d) x1) h fun y4 h=>?_
  refine q8q (v:=y4.2.2.2) (by kernel_rfl) h ?_ ?_
  ·
   intro h
   refine q8i (q88 (q8m (q8n ?_)))
   refine q3pf hm hT hC (q2um (q2tx d) y4) h fun y6 h=>?_
   refine q8q (v:=y6.2.2.2) (by kernel_rfl) h ?_ ?_
   ·
    intro h
    refine q3pf hm hT hC (q2uo (q2tx d) y6) h fun y7 h=>?_
    refine q8l (q8c (q8a (q8a (q8c (q8a ?_)))))
    cases h
    exact (hend _ (by kernel_rfl)).2
   ·
    intro h
    refine q8i (q8b (q88 ?_))
    refine q8r hm hT hC (q2uq (q2tx d) y6) h ?_
    intro y5 h
    exact hn1 _ h
  ·
   intro h
   refine q8k (q89 (q89 (q8d (q88 ?_))))
   refine q3pf hm hT hC (q2us (q2tx d) y4) h fun y8 h=>?_
   refine q8l ?_
   cases h
   exact (hend _ (by kernel_rfl)).2
abbrev q2uw:List Pk:=[.row qjz false,.row qjz false]
abbrev q2ux:Type:=qk0×qk0×Unit
abbrev q2uy:Type:=Bool
def q2uz (r:q2uy):LV×List Ob:=(.bool r,[])
def q2v0 (F:q2ux→Option q2uy):Go.Tx.Spec:=⟨19,q2uw,q2uy,F,q2uz⟩
abbrev q2v1:Type:=Unit
def q2v2 (_d:Nat):q2v1:=()
def q2v3 (C:q2v1):List Go.Tx.Spec:=[]
abbrev q2v4:Type:=List Dii×List Dii
def q2v5 (v:q2v4):St:=⟨[(0,.fz Rii v.1),(1,.fz Rii v.2)],[]⟩
def q2v6 (C:q2v1) (v:q2v4):Dt q2v4:=(Dt.ret (v.1,v.2))
abbrev q3r5 {V Y:Type}:=@rg q2v1 V Y tysT (fun C=>(orc (q2v3 C))) 26
theorem q2v7 C v:q3r5 (regO (qdk f19) 0) false [(0,(.val Rii)),(1,(.val Rii))] q2v5 q2v6 q2v5 C v:=rgI (by kernel_rfl)
abbrev q2v8:Type:=List Dii×List Dii×Bool
def q2v9 (v:q2v8):St:=⟨[(0,.fz Rii v.1),(1,.fz Rii v.2.1),(10,.bool v.2.2)],[]⟩
def q2va (C:q2v1) (v:q2v4):Dt q2v8:=(Dt.ret (v.1,v.2,((List.length v.1:Int) != (List.length v.2:Int))))
theorem q2vb C v:q3r5 (regO (qdk f19) 1) false [(0,(.val Rii)),(1,(.val Rii)),(10,.any)] q2v5 q2va q2v9 C v:=rgI (by kernel_rfl)
abbrev q2vc:Type:=Bool
def q2vd (v:q2vc):St:=⟨[(4,.bool v)],[]⟩
def q2ve (C:q2v1) (v:q2v8):Dt q2vc:=(Dt.ret false)
theorem q2vf C v:q3r5 (regO (qdk f19) 2) false [(4,.any)] q2v9 q2ve q2vd C v:=rgI (by kernel_rfl)
abbrev q2vg:Type:=List Dii×List Dii×Int
def q2vh (v:q2vg):St:=⟨[(0,.fz Rii v.1),(1,.fz Rii v.2.1),(5,i6 v.2.2)],[]⟩
def q2vi (C:q2v1) (v:q2v8):Dt q2vg:=(Dt.ret (v.1,v.2.1,(0:Int)))
theorem q2vj C v:q3r5 (regO (qdk f19) 3) false [(0,(.val Rii)),(1,(.val Rii)),(5,.any)] q2v9 q2vi q2vh C v:=rgI (by kernel_rfl)
abbrev q2vk:Type:=List Dii×List Dii×Int×Bool
def q2vl (v:q2vk):St:=⟨[(0,.fz Rii v.1),(1,.fz Rii v.2.1),(5,i6 v.2.2.1),(14,.bool v.2.2.2)],[]⟩
def q2vm (C:q2v1) (v:q2vg):Dt q2vk:=(Dt.ret (v.1,v.2.1,v.2.2,(decide (v.2.2<(List.length v.1:Int)))))
theorem q2vn C v:q3r5 (regO (qdk f19) 4) false [(0,(.val Rii)),(1,(.val Rii)),(5,.any),(14,.any)] q2vh q2vm q2vl C v:=rgI (by kernel_rfl)
abbrev q2vo:Type:=List Dii×List Dii×Int×Bool
def q2vp (v:q2vo):St:=⟨[(0,.fz Rii v.1),(1,.fz Rii v.2.1),(5,i6 v.2.2.1),(25,.bool v.2.2.2)],[]⟩
def q2vq (C:q2v1) (v:q2vk):Dt q2vo:=(Dt.ite (inB v.2.2.1 (List.length v.1)) (Dt.ite (inB v.2.2.1 (List.length v.2.1)) (Dt.ret (v.1,v.2.1,v.2.2.1,(!(((elt zii v.1 (v.2.2.1).toNat).1 == (elt zii v.2.1 (v.2.2.1).toNat).1)&&(((elt zii v.1 (v.2.2.1).toNat).2.1 == (elt zii v.2.1 (v.2.2.1).toNat).2.1)&&true))))) Dt.fail) Dt.fail)
theorem q2vr C v:q3r5 (regO (qdk f19) 6) true [(0,(.val Rii)),(1,(.val Rii)),(5,.any),(25,.any)] q2vl q2vq q2vp C v:=rgI (by kernel_rfl)
def q2vs (C:q2v1) (v:q2vo):Dt q2vc:=(Dt.ret false)
theorem q2vt C v:q3r5 (regO (qdk f19) 7) false [(4,.any)] q2vp q2vs q2vd C v:=rgI (by kernel_rfl)
def q2vu (C:q2v1) (v:q2vo):Dt q2vg:=(Dt.ret (v.1,v.2.1,(IntKind.wrap .i64 (v.2.2.1+(1:Int)))))
theorem q2vv C v:q3r5 (regO (qdk f19) 5) false [(0,(.val Rii)),(1,(.val Rii)),(5,.any)] q2vp q2vu q2vh C v:=rgI (by kernel_rfl)
def q2vw (C:q2v1) (v:q2vk):Dt q2vc:=(Dt.ret true)
theorem q2vx C v:q3r5 (regO (qdk f19) 8) false [(4,.any)] q2vl q2vw q2vd C v:=rgI (by kernel_rfl)
def q2vy (d:Nat) (self1:(List Dii×List Dii×Int)→Option q2uy) (x1:List Dii×List Dii×Int):Option q2uy :=
 (q2vm (q2v2 d) x1).eval fun y4 =>
 bif y4.2.2.2 then ((q2vq (q2v2 d) y4).eval fun y6 =>
 bif y6.2.2.2 then ((q2vs (q2v2 d) y6).eval fun y7 =>
 some y7) else ((q2vu (q2v2 d) y6).eval fun y5 =>
 self1 y5)) else ((q2vw (q2v2 d) y4).eval fun y8 =>
 some y8)
def q2vz (d:Nat) (x:q2ux):Option q2uy :=
 (q2v6 (q2v2 d) (x.1.1,x.2.1.1)).eval fun y0 =>
 (q2va (q2v2 d) y0).eval fun y1 =>
 bif y1.2.2 then ((q2ve (q2v2 d) y1).eval fun y2 =>
 some y2) else ((q2vi (q2v2 d) y1).eval fun y3 =>
 iter (q2vy d ) d y3)
theorem q2w0 (d:Nat):COK prog (q2v0 (q2vz d)):=by
 have hm:prog.follows .mixedOrders=true:=mixed
 have hT:=tys
 have hC0:OrcOK prog (orc (q2v3 (q2v2 d))):=qde (by
  intro S hS
  simp only [q2v3,List.mem_cons,List.not_mem_nil,or_false] at hS
  all_goals first | cases hS | exact hS.elim)
 have hC:OrcOK prog (orc (q2v3 (q2v2 d))):=hC0
 refine q93 (c:=qdk f19) (fn:=f19) hT (by kernel_rfl) (by kernel_rfl) (by decide) fun x r h w0 φ0 Q hend=>?_
 replace h:q2vz d x=some r:=h
 unfold q2vz at h
 show Run prog w0 φ0 26 (qdk f19) ⟨[(0,.fz Rii x.1.1),(1,.fz Rii x.2.1.1)],[]⟩ Q
 refine q3pf hm hT hC (q2v7 (q2v2 d) (x.1.1,x.2.1.1)) h fun y0 h=>?_
 refine q8m ?_
 refine q3pf hm hT hC (q2vb (q2v2 d) y0) h fun y1 h=>?_
 refine q8q (v:=y1.2.2) (by kernel_rfl) h ?_ ?_
 ·
  intro h
  refine q3pf hm hT hC (q2vf (q2v2 d) y1) h fun y2 h=>?_
  refine q8l (q8a ?_)
  cases h
  exact (hend _ (by kernel_rfl)).2
 ·
  intro h
  refine q8i (q88 (q8m ?_))
  refine q3pf hm hT hC (q2vj (q2v2 d) y1) h fun y3 h=>?_
  refine q8n ?_
  refine q8s (G:=iter (q2vy d )) (S:=(fun x1=>⟨[(0,.fz Rii x1.1),(1,.fz Rii x1.2.1),(5,i6 x1.2.2)],[]⟩:List Dii×List Dii×Int→St)) (fun _=>rfl) ?_ d _ h
  intro n1 x1 h K1 hn1
  replace h:q2vy d  (iter (q2vy d ) n1) x1=some r:=h
  generalize iter (q2vy d ) n1=self1 at h hn1
  unfold q2vy at h
  refine q8m ?_
  refine q3pf hm hT hC (q2vn (q2v2 d) x1) h fun y4 h=>?_
  refine q8q (v:=y4.2.2.2) (by kernel_rfl) h ?_ ?_
  ·
   intro h
   refine q8i (q88 (q8m (q8n ?_)))
   refine q3pf hm hT hC (q2vr (q2v2 d) y4) h fun y6 h=>?_
   refine q8q (v:=y6.2.2.2) (by kernel_rfl) h ?_ ?_
   ·
    intro h
    refine q3pf hm hT hC (q2vt (q2v2 d) y6) h fun y7 h=>?_
    refine q8l (q8c (q8a (q8a (q8c (q8a ?_)))))
    cases h
    exact (hend _ (by kernel_rfl)).2
   ·
    intro h
    refine q8i (q8b (q88 ?_))
    refine q8r hm hT hC (q2vv (q2v2 d) y6) h ?_
    intro y5 h
    exact hn1 _ h
  ·
   intro h
   refine q8k (q89 (q89 (q8d (q88 ?_))))
   refine q3pf hm hT hC (q2vx (q2v2 d) y4) h fun y8 h=>?_
   refine q8l ?_
   cases h
   exact (hend _ (by kernel_rfl)).2
end Go.Proofs.YtbjpmdhdoggobaaGreat

namespace Go.Proofs.YtbjpmdhdoggobaaGreat
open Go Go.Tx Go.Pel Go.Proofs.Tryz
set_option maxRecDepth 100000
set_option maxHeartbeats 0
end Go.Proofs.YtbjpmdhdoggobaaGreat
