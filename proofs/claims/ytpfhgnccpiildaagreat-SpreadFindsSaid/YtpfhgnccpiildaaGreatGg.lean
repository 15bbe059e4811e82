/- Walks of the references; the orders agree; examples. -/
import Derived.Test.YtpfhgnccpiildaaGreatGf
set_option linter.unusedSimpArgs false
set_option linter.unusedVariables false
namespace Go.Proofs.YtpfhgnccpiildaaGreat
open Go Go.Tx Go.Proofs.Tryz
set_option maxRecDepth 100000
set_option maxHeartbeats 0
abbrev q26f:List Pk:=[.row qjb true]
abbrev q26g:Type:=qjc×Unit
abbrev q26h:Type:=List qjf
def q26i (r:q26h):LV×List Ob:=(.rs 0,[.rows qje r])
def q26j (F:q26g→Option q26h):Go.Tx.Spec:=⟨54,q26f,q26h,F,q26i⟩
abbrev q26k:Type:=(q18q→Option q18r)×(qx6→Option qx7)×(q1cj→Option q1ck)×Unit
def q26l (d:Nat):q26k:=(q197 d,qy3 d,q1d0 d,())
def q26m (C:q26k):List Go.Tx.Spec:=[q18t C.1,qx9 C.2.1,q1cm C.2.2.1]
abbrev q26n:Type:=List Diii
def q26o (v:q26n):St:=⟨[(0,.agg [.fz Riii v])],[]⟩
abbrev q26p:Type:=List Diii
def q26q (v:q26p):St:=⟨[(1,.ptr 0 0)],[.cells [.fz Riii v]]⟩
def q26r (C:q26k) (v:q26n):Dt q26p:=(Dt.ret v)
abbrev q404 {V Y:Type}:=@rg q26k V Y tysT (fun C=>(orcS 112 113 qje C.2.2.1 (orc (q26m C)))) 32
theorem q26s C v:q404 (regO (qcy f54) 0) false [(1,(.box [.val Riii]))] q26o q26r q26q C v:=rgI (by kernel_rfl)
abbrev q26t:Type:=List Diii×List qjf
def q26u (v:q26t):St:=⟨[(1,.ptr 0 0),(3,.ptr 1 0)],[.cells [.fz Riii v.1],.cells [.rs 2],.rows qje v.2]⟩
def q26v (C:q26k) (v:q26p):Dt q26t:=(Dt.ret (v,([]:List qjf)))
theorem q26w C v:q404 (regO (qcy f54) 1) false [(1,(.box [.val Riii])),(3,(.box [.own qje]))] q26q q26v q26u C v:=rgI (by kernel_rfl)
abbrev q26x:Type:=List qjf×List Diii
def q26y (v:q26x):St:=⟨[(3,.ptr 0 0),(9,.fn 147 [.ptr 2 0])],[.cells [.rs 1],.rows qje v.1,.cells [.fz Riii v.2]]⟩
def q26z (C:q26k) (v:q26t):Dt q26x:=(Dt.bnd (C.1 ((v.1,()),())) fun r1=>(Dt.ret (v.2,r1)))
theorem q270 C v:q404 (regO (qcy f54) 2) false [(3,(.box [.own qje])),(9,.any)] q26u q26z q26y C v:=rgI (by kernel_rfl)
abbrev q271:Type:=Int×Int×Int×Int×Int×Int×List qjf
def q272 (v:q271):St:=⟨[(10,.agg [i6 v.1,i6 v.2.1,i6 v.2.2.1]),(11,.agg [i6 v.2.2.2.1,i6 v.2.2.2.2.1,i6 v.2.2.2.2.2.1]),(3,.ptr 0 0)],[.cells [.rs 1],.rows qje v.2.2.2.2.2.2]⟩
abbrev q273:Type:=Int×Int×Int×List qjf×Int×Int×Int
def q274 (v:q273):St:=⟨[(3,.ptr 0 0),(4,.ptr 2 0),(11,.agg [i6 v.1,i6 v.2.1,i6 v.2.2.1])],[.cells [.rs 1],.rows qje v.2.2.2.1,.cells [i6 v.2.2.2.2.1,i6 v.2.2.2.2.2.1,i6 v.2.2.2.2.2.2]]⟩
def q275 (C:q26k) (v:q271):Dt q273:=(Dt.ret (v.2.2.2.1,v.2.2.2.2.1,v.2.2.2.2.2.1,v.2.2.2.2.2.2,v.1,v.2.1,v.2.2.1))
theorem q276 C v:q404 (regO (qcy f54) 3) false [(3,(.box [.own qje])),(4,.any),(11,.any)] q272 q275 q274 C v:=rgI (by kernel_rfl)
abbrev q277:Type:=List qjf×Int×Int×Int×Int×Int×Int
def q278 (v:q277):St:=⟨[(3,.ptr 0 0),(4,.ptr 2 0),(5,.ptr 3 0)],[.cells [.rs 1],.rows qje v.1,.cells [i6 v.2.1,i6 v.2.2.1,i6 v.2.2.2.1],.cells [i6 v.2.2.2.2.1,i6 v.2.2.2.2.2.1,i6 v.2.2.2.2.2.2]]⟩
def q279 (C:q26k) (v:q273):Dt q277:=(Dt.ret (v.2.2.2.1,v.2.2.2.2.1,v.2.2.2.2.2.1,v.2.2.2.2.2.2,v.1,v.2.1,v.2.2.1))
theorem q27a C v:q404 (regO (qcy f54) 4) false [(3,(.box [.own qje])),(4,.any),(5,.any)] q274 q279 q278 C v:=rgI (by kernel_rfl)
abbrev q27b:Type:=Int×List qjf×Int×Int×Int×Int×Int×Int×Int×Int
def q27c (v:q27b):St:=⟨[(3,.ptr 0 0),(4,.ptr 2 0),(5,.ptr 3 0),(6,.ptr 4 0),(7,i6 v.1)],[.cells [.rs 1],.rows qje v.2.1,.cells [i6 v.2.2.1,i6 v.2.2.2.1,i6 v.2.2.2.2.1],.cells [i6 v.2.2.2.2.2.1,i6 v.2.2.2.2.2.2.1,i6 v.2.2.2.2.2.2.2.1],.cells [i6 v.2.2.2.2.2.2.2.2.1,i6 v.2.2.2.2.2.2.2.2.2]]⟩
def q27d (C:q26k) (v:q277):Dt q27b:=(Dt.bnd (C.2.1 ((v.2.1,v.2.2.1,v.2.2.2.1,()),(v.2.2.2.2.1,v.2.2.2.2.2.1,v.2.2.2.2.2.2,()),())) fun r1=>(Dt.ret (r1.2.2,v.1,v.2.1,v.2.2.1,v.2.2.2.1,v.2.2.2.2.1,v.2.2.2.2.2.1,v.2.2.2.2.2.2,r1.1,r1.2.1)))
theorem q27e C v:q404 (regO (qcy f54) 5) false [(3,(.box [.own qje])),(4,.any),(5,.any),(6,.any),(7,.any)] q278 q27d q27c C v:=rgI (by kernel_rfl)
abbrev q27f:Type:=Bool×List qjf×Int×Int×Int×Int×Int×Int×Int×Int
def q27g (v:q27f):St:=⟨[(3,.ptr 0 0),(4,.ptr 2 0),(5,.ptr 3 0),(6,.ptr 4 0),(19,.bool v.1)],[.cells [.rs 1],.rows qje v.2.1,.cells [i6 v.2.2.1,i6 v.2.2.2.1,i6 v.2.2.2.2.1],.cells [i6 v.2.2.2.2.2.1,i6 v.2.2.2.2.2.2.1,i6 v.2.2.2.2.2.2.2.1],.cells [i6 v.2.2.2.2.2.2.2.2.1,i6 v.2.2.2.2.2.2.2.2.2]]⟩
def q27h (C:q26k) (v:q27b):Dt q27f:=(Dt.ret ((v.1==(0:Int)),v.2.1,v.2.2.1,v.2.2.2.1,v.2.2.2.2.1,v.2.2.2.2.2.1,v.2.2.2.2.2.2.1,v.2.2.2.2.2.2.2.1,v.2.2.2.2.2.2.2.2.1,v.2.2.2.2.2.2.2.2.2))
theorem q27i C v:q404 (regO (qcy f54) 6) false [(3,(.box [.own qje])),(4,.any),(5,.any),(6,.any),(19,.any)] q27c q27h q27g C v:=rgI (by kernel_rfl)
abbrev q27j:Type:=List qjf
def q27k (v:q27j):St:=⟨[(3,.ptr 0 0)],[.cells [.rs 1],.rows qje v]⟩
def q27l (C:q26k) (v:q27f):Dt q27j:=(Dt.ite (apB (List.length v.2.1) (List.length ([(v.2.2.2.2.2.2.2.2.1,v.2.2.2.2.2.2.2.2.2,v.2.2.1,v.2.2.2.2.2.1,())]:List qjf))) (Dt.ret (v.2.1++([(v.2.2.2.2.2.2.2.2.1,v.2.2.2.2.2.2.2.2.2,v.2.2.1,v.2.2.2.2.2.1,())]:List qjf))) Dt.fail)
theorem q27m C v:q404 (regO (qcy f54) 7) false [(3,(.box [.own qje]))] q27g q27l q27k C v:=rgI (by kernel_rfl)
def q27n (d:Nat) (x:Diii×Diii) (y:List qjf):Option (List qjf×Int×Int×Int×Int×Int×Int) :=
 (q275 (q26l d) (x.1.1,x.1.2.1,x.1.2.2.1,x.2.1,x.2.2.1,x.2.2.2.1,y)).eval fun y3 =>
 (q279 (q26l d) y3).eval fun y4 =>
 some y4
def q27o (d:Nat) (w:List qjf×Int×Int×Int×Int×Int×Int):Option (List qjf) :=
 (q27d (q26l d) w).eval fun y5 =>
 (q27h (q26l d) y5).eval fun y6 =>
 bif y6.1 then ((q27l (q26l d) y6).eval fun y7 =>
 some y7) else (some y6.2.1)
def q27p (C:q26k) (v:q27j):Dt q27j:=(Dt.bnd (qub (τ:=qje) C.2.2.1 v) fun r1=>(Dt.ret r1))
theorem q27q C v:q404 (regO (qcy f54) 8) false [(3,(.box [.own qje]))] q27k q27p q27k C v:=rgI (by kernel_rfl)
abbrev q27r:Type:=List qjf
def q27s (v:q27r):St:=⟨[(2,.rs 0)],[.rows qje v]⟩
def q27t (C:q26k) (v:q27j):Dt q27r:=(Dt.ret v)
theorem q27u C v:q404 (regO (qcy f54) 9) false [(2,(.own qje))] q27k q27t q27s C v:=rgI (by kernel_rfl)
def q27v (d:Nat) (x:q26g):Option q26h :=
 (q26r (q26l d) x.1.1).eval fun y0 =>
 (q26v (q26l d) y0).eval fun y1 =>
 (q26z (q26l d) y1).eval fun y2 =>
 bif qwy y2.2 then Option.bind (qtr (qtu (q27n d) (q27o d)) (qwx y2.2) y2.1) fun z1 =>
 ((q27p (q26l d) z1).eval fun y8 =>
 (q27t (q26l d) y8).eval fun y9 =>
 some y9) else none
theorem q27w (d:Nat):COK prog (q26j (q27v d)):=by
 have hm:prog.follows .mixedOrders=true:=qjt
 have hT:=tys
 have hC0:OrcOK prog (orc (q26m (q26l d))):=qcs (by
  intro S hS
  simp only [q26m,List.mem_cons,List.not_mem_nil,or_false] at hS
  rcases hS with rfl | rfl | rfl
  · exact q198 d
  · exact qy4 d
  · exact q1d1 d)
 have hC:OrcOK prog (orcS 112 113 qje (q26l d).2.2.1 (orc (q26m (q26l d)))):=(qww (q1d1 d) hC0)
 refine qtz (c:=qcy f54) (fn:=f54) hT (by kernel_rfl) (by kernel_rfl) (by decide) fun x r h w0 φ0 Q hend=>?_
 replace h:q27v d x=some r:=h
 unfold q27v at h
 show Run prog w0 φ0 32 (qcy f54) ⟨[(0,.agg [.fz Riii x.1.1])],[]⟩ Q
 refine q3yx hm hT hC (q26s (q26l d) x.1.1) h fun y0 h=>?_
 refine q3yx hm hT hC (q26w (q26l d) y0) h fun y1 h=>?_
 refine q7y ?_
 refine q3yx hm hT hC (q270 (q26l d) y1) h fun y2 h=>?_
 refine q7z ?_
 obtain ⟨hg1,h⟩:=qu0 h
 obtain ⟨z1,hz1,h⟩:=Option.bind_eq_some_iff.1 h
 refine qty (b0:=2) (α:=Diii×Diii) (X:=List qjf) (Z:=List qjf×Int×Int×Int×Int×Int×Int) (encs:=fun x=>#[.agg #[.int .i64 x.1.1,.int .i64 x.1.2.1,.int .i64 x.1.2.2.1],.agg #[.int .i64 x.2.1,.int .i64 x.2.2.1,.int .i64 x.2.2.2.1]]) (xs:=(qwx y2.2)) (A:=q27n d) (B:=q27o d) (S1:=fun w=>⟨[(3,.ptr 0 0),(4,.ptr 2 0),(5,.ptr 3 0)],[.cells [.rs 1],.rows qje w.1,.cells [.int .i64 w.2.1,.int .i64 w.2.2.1,.int .i64 w.2.2.2.1],.cells [.int .i64 w.2.2.2.2.1,.int .i64 w.2.2.2.2.2.1,.int .i64 w.2.2.2.2.2.2]]⟩) (x0:=y2.1) (z:=z1) (tmE:=fun y=>[(3,.ptr 0 0)]) (keys:=[3]) (obs:=fun y=>[.cells [.rs 1],.rows qje y]) (xp:=fun x=>[(10,.agg [.int .i64 x.1.1,.int .i64 x.1.2.1,.int .i64 x.1.2.2.1]),(11,.agg [.int .i64 x.2.1,.int .i64 x.2.2.1,.int .i64 x.2.2.2.1])]) (ks:=[9]) (fun y n l h=>qu1 (k:=[3]) (tm:=[(3,.ptr 0 0)]) rfl h) (by kernel_rfl) (by kernel_rfl) rfl (by kernel_rfl) (by kernel_rfl) (enters_of Tryz.func147 (by kernel_rfl) rfl) (qx4 hg1) (fun _=>rfl) (fun x t hN=>?xp1) (fun l V φ2 Q2 x y y2 h hD hV hend=>?as1) (fun l V φ2 Q2 w y2 h hD hV hend=>?bd1) hz1 (fun φ1 hl1=>?rs1)
 case xp1 =>
  rw [qu6]
  refine ⟨by simpa using hN,fun n l hn=>?_,fun n hn=>?_⟩
  ·
   simp only [List.mem_cons,List.not_mem_nil,or_false,Prod.mk.injEq] at hn
   rcases hn with ⟨rfl,rfl⟩ | ⟨rfl,rfl⟩
   ·
    exact ⟨_,(qu3 rfl).trans (qu2 (by (try simp only [Array.size_setIfInBounds]);omega)),fun η=>VR.aggL (VRs.cons (.int _ _) (VRs.cons (.int _ _) (VRs.cons (.int _ _) (VRs.nil))))⟩
   ·
    exact ⟨_,qu2 (by (try simp only [Array.size_setIfInBounds]);omega),fun η=>VR.aggL (VRs.cons (.int _ _) (VRs.cons (.int _ _) (VRs.cons (.int _ _) (VRs.nil))))⟩
  ·
   simp only [List.mem_cons,List.not_mem_nil,or_false] at hn
   rcases hn with rfl
   all_goals exact (qu3 rfl).trans ((qu3 rfl))
 case as1 =>
  unfold q27n at h
  show RunI l prog V w0 φ2 32 _ ⟨[(10,.agg [.int .i64 x.1.1,.int .i64 x.1.2.1,.int .i64 x.1.2.2.1]),(11,.agg [.int .i64 x.2.1,.int .i64 x.2.2.1,.int .i64 x.2.2.2.1]),(3,.ptr 0 0)],[.cells [.rs 1],.rows qje y]⟩ Q2
  refine qtl ?_
  refine qtp hm hT hC hV (by kernel_rfl) (by kernel_rfl) (q276 (q26l d) (x.1.1,x.1.2.1,x.1.2.2.1,x.2.1,x.2.2.1,x.2.2.2.1,y)) h ?_
  intro y3 h
  refine qtb ?_
  refine qtp hm hT hC hV (by kernel_rfl) (by kernel_rfl) (q27a (q26l d) y3) h ?_
  intro y4 h
  cases h
  exact hend
 case bd1 =>
  unfold q27o at h
  show RunI l prog V w0 φ2 32 _ ⟨[(3,.ptr 0 0),(4,.ptr 2 0),(5,.ptr 3 0)],[.cells [.rs 1],.rows qje w.1,.cells [.int .i64 w.2.1,.int .i64 w.2.2.1,.int .i64 w.2.2.2.1],.cells [.int .i64 w.2.2.2.2.1,.int .i64 w.2.2.2.2.2.1,.int .i64 w.2.2.2.2.2.2]]⟩ Q2
  refine qtm (qtl ?_)
  refine qtp hm hT hC hV (by kernel_rfl) (by kernel_rfl) (q27e (q26l d) w) h ?_
  intro y5 h
  refine qtb (qtl ?_)
  refine qtp hm hT hC hV (by kernel_rfl) (by kernel_rfl) (q27i (q26l d) y5) h ?_
  intro y6 h
  refine qtb ?_
  refine qto (v:=y6.1) (by kernel_rfl) h ?_ ?_
  ·
   intro h
   refine qtp hm hT hC hV (by kernel_rfl) (by kernel_rfl) (q27m (q26l d) y6) h ?_
   intro y7 h
   refine qtc ?_
   cases h
   exact hend
  ·
   intro h
   refine qti (qtc ?_)
   refine qu4 (s:=⟨[(3,.ptr 0 0)],[.cells [.rs 1],.rows qje y6.2.1]⟩) [4,5,6,19] (by kernel_rfl) ?_
   cases h
   exact hend
 case rs1 =>
  refine q7n (q7k ?_)
  refine q3yx hm hT hC (q27q (q26l d) z1) h fun y8 h=>?_
  refine q3yx hm hT hC (q27u (q26l d) y8) h fun y9 h=>?_
  refine q7x ?_
  cases h
  exact (hend.2 _ hl1 _ (by kernel_rfl)).2
abbrev q27x:List Pk:=[.row qje true,.row Rii true]
abbrev q27y:Type:=qjf×Dii×Unit
abbrev q27z:Type:=Int
def q280 (r:q27z):LV×List Ob:=(.int .i64 r,[])
def q281 (F:q27y→Option q27z):Go.Tx.Spec:=⟨115,q27x,q27z,F,q280⟩
abbrev q282:Type:=(q16d→Option q16e)×Unit
def q283 (d:Nat):q282:=(q16y d,())
def q284 (C:q282):List Go.Tx.Spec:=[q16g C.1]
abbrev q285:Type:=Int×Int×Int×Int×Int×Int
def q286 (v:q285):St:=⟨[(0,.agg [i6 v.1,i6 v.2.1,i6 v.2.2.1,i6 v.2.2.2.1]),(1,.agg [i6 v.2.2.2.2.1,i6 v.2.2.2.2.2])],[]⟩
abbrev q287:Type:=Int×Int×Int×Int×Int×Int
def q288 (v:q287):St:=⟨[(2,.ptr 0 0),(3,.ptr 1 0)],[.cells [i6 v.1,i6 v.2.1,i6 v.2.2.1,i6 v.2.2.2.1],.cells [i6 v.2.2.2.2.1,i6 v.2.2.2.2.2]]⟩
def q289 (C:q282) (v:q285):Dt q287:=(Dt.ret (v.1,v.2.1,v.2.2.1,v.2.2.2.1,v.2.2.2.2.1,v.2.2.2.2.2))
abbrev q405 {V Y:Type}:=@rg q282 V Y tysT (fun C=>(orc (q284 C))) 10
theorem q28a C v:q405 (regO (qcy f115) 0) false (an [2,3]) q286 q289 q288 C v:=rgI (by kernel_rfl)
abbrev q28b:Type:=Bool
def q28c (v:q28b):St:=⟨[(9,.bool v)],[]⟩
def q28d (C:q282) (v:q287):Dt q28b:=(Dt.bnd (C.1 ((v.1,v.2.1,()),(v.2.2.2.2.1,v.2.2.2.2.2,()),())) fun r1=>(Dt.ret (decide (r1 > (0:Int)))))
theorem q28e C v:q405 (regO (qcy f115) 1) false [(9,.any)] q288 q28d q28c C v:=rgI (by kernel_rfl)
abbrev q28f:Type:=Int
def q28g (v:q28f):St:=⟨[(4,i6 v)],[]⟩
def q28h (C:q282) (v:q28b):Dt q28f:=(Dt.ret (1:Int))
theorem q28i C v:q405 (regO (qcy f115) 2) false [(4,.any)] q28c q28h q28g C v:=rgI (by kernel_rfl)
def q28j (C:q282) (v:q28b):Dt q28f:=(Dt.ret (-1:Int))
theorem q28k C v:q405 (regO (qcy f115) 3) false [(4,.any)] q28c q28j q28g C v:=rgI (by kernel_rfl)
def q28l (d:Nat) (x:q27y):Option q27z :=
 (q289 (q283 d) (x.1.1,x.1.2.1,x.1.2.2.1,x.1.2.2.2.1,x.2.1.1,x.2.1.2.1)).eval fun y0 =>
 (q28d (q283 d) y0).eval fun y1 =>
 bif y1 then ((q28h (q283 d) y1).eval fun y2 =>
 some y2) else ((q28j (q283 d) y1).eval fun y3 =>
 some y3)
theorem q28m (d:Nat):COK prog (q281 (q28l d)):=by
 have hm:prog.follows .mixedOrders=true:=qjt
 have hT:=tys
 have hC0:OrcOK prog (orc (q284 (q283 d))):=qcs (by
  intro S hS
  simp only [q284,List.mem_cons,List.not_mem_nil,or_false] at hS
  subst hS;exact q16z d)
 have hC:OrcOK prog (orc (q284 (q283 d))):=hC0
 refine q8e (c:=qcy f115) (fn:=f115) hT (by kernel_rfl) (by kernel_rfl) (by decide) fun x r h w0 φ0 Q hend=>?_
 replace h:q28l d x=some r:=h
 unfold q28l at h
 show Run prog w0 φ0 10 (qcy f115) ⟨[(0,.agg [.int .i64 x.1.1,.int .i64 x.1.2.1,.int .i64 x.1.2.2.1,.int .i64 x.1.2.2.2.1]),(1,.agg [.int .i64 x.2.1.1,.int .i64 x.2.1.2.1])],[]⟩ Q
 refine q3yx hm hT hC (q28a (q283 d) (x.1.1,x.1.2.1,x.1.2.2.1,x.1.2.2.2.1,x.2.1.1,x.2.1.2.1)) h fun y0 h=>?_
 refine q7y ?_
 refine q3yx hm hT hC (q28e (q283 d) y0) h fun y1 h=>?_
 refine q82 (v:=y1) (by kernel_rfl) h ?_ ?_
 ·
  intro h
  refine q3yx hm hT hC (q28i (q283 d) y1) h fun y2 h=>?_
  refine q7x (q7m ?_)
  cases h
  exact (hend _ (by kernel_rfl)).2
 ·
  intro h
  refine q7u (q7k ?_)
  refine q3yx hm hT hC (q28k (q283 d) y1) h fun y3 h=>?_
  refine q7x ?_
  cases h
  exact (hend _ (by kernel_rfl)).2
abbrev q28n:List Pk:=[.row qjh false,.row Rii true,.fn 115 []]
abbrev q28o:Type:=qji×Dii×(Unit)×Unit
abbrev q28p:Type:=Int×Bool
def q28q (r:q28p):LV×List Ob:=(.tup [.int .i64 r.1,.bool r.2],[])
def q28r (F:q28o→Option q28p):Go.Tx.Spec:=⟨114,q28n,q28p,F,q28q⟩
abbrev q28s:Type:=(q27y→Option q27z)×Unit
def q28t (d:Nat):q28s:=(q28l d,())
def q28u (C:q28s):List Go.Tx.Spec:=[q281 C.1]
abbrev q28v:Type:=List qjf×Int×Int
def q28w (v:q28v):St:=⟨[(0,.fz qje v.1),(1,.agg [i6 v.2.1,i6 v.2.2]),(2,.fn 115 [])],[]⟩
abbrev q28x:Type:=List qjf×Int×Int
def q28y (v:q28x):St:=⟨[(0,.fz qje v.1),(2,.fn 115 []),(4,.ptr 0 0)],[.cells [i6 v.2.1,i6 v.2.2]]⟩
def q28z (C:q28s) (v:q28v):Dt q28x:=(Dt.ret (v.1,v.2.1,v.2.2))
abbrev q406 {V Y:Type}:=@rg q28s V Y tysT (fun C=>(orc (q28u C))) 49
theorem q290 C v:q406 (regO (qcy f114) 0) false [(0,(.val qje)),(2,.any),(4,.any)] q28w q28z q28y C v:=rgI (by kernel_rfl)
abbrev q291:Type:=List qjf×Int×Int×Int
def q292 (v:q291):St:=⟨[(0,.fz qje v.1),(2,.fn 115 []),(4,.ptr 0 0),(8,i6 v.2.1)],[.cells [i6 v.2.2.1,i6 v.2.2.2]]⟩
def q293 (C:q28s) (v:q28x):Dt q291:=(Dt.ret (v.1,(List.length v.1:Int),v.2.1,v.2.2))
theorem q294 C v:q406 (regO (qcy f114) 1) false [(0,(.val qje)),(2,.any),(4,.any),(8,.any)] q28y q293 q292 C v:=rgI (by kernel_rfl)
abbrev q295:Type:=List qjf×Int×Int×Int×Int×Int
def q296 (v:q295):St:=⟨[(0,.fz qje v.1),(2,.fn 115 []),(4,.ptr 0 0),(8,i6 v.2.1),(9,i6 v.2.2.1),(10,i6 v.2.2.2.1)],[.cells [i6 v.2.2.2.2.1,i6 v.2.2.2.2.2]]⟩
def q297 (C:q28s) (v:q291):Dt q295:=(Dt.ret (v.1,v.2.1,(0:Int),v.2.1,v.2.2.1,v.2.2.2))
theorem q298 C v:q406 (regO (qcy f114) 2) false [(0,(.val qje)),(2,.any),(4,.any),(8,.any),(9,.any),(10,.any)] q292 q297 q296 C v:=rgI (by kernel_rfl)
abbrev q299:Type:=List qjf×Int×Int×Int×Bool×Int×Int
def q29a (v:q299):St:=⟨[(0,.fz qje v.1),(2,.fn 115 []),(4,.ptr 0 0),(8,i6 v.2.1),(9,i6 v.2.2.1),(10,i6 v.2.2.2.1),(17,.bool v.2.2.2.2.1)],[.cells [i6 v.2.2.2.2.2.1,i6 v.2.2.2.2.2.2]]⟩
def q29b (C:q28s) (v:q295):Dt q299:=(Dt.ret (v.1,v.2.1,v.2.2.1,v.2.2.2.1,(decide (v.2.2.1<v.2.2.2.1)),v.2.2.2.2.1,v.2.2.2.2.2))
theorem q29c C v:q406 (regO (qcy f114) 3) false [(0,(.val qje)),(2,.any),(4,.any),(8,.any),(9,.any),(10,.any),(17,.any)] q296 q29b q29a C v:=rgI (by kernel_rfl)
abbrev q29d:Type:=List qjf×Int×Int×Int×Int×Int×Int
def q29e (v:q29d):St:=⟨[(0,.fz qje v.1),(2,.fn 115 []),(4,.ptr 0 0),(8,i6 v.2.1),(9,i6 v.2.2.1),(10,i6 v.2.2.2.1),(11,i6 v.2.2.2.2.1)],[.cells [i6 v.2.2.2.2.2.1,i6 v.2.2.2.2.2.2]]⟩
def q29f (C:q28s) (v:q299):Dt q29d:=(Dt.ret (v.1,v.2.1,v.2.2.1,v.2.2.2.1,(IntKind.wrap .i64 (shrI .u64 (IntKind.wrap .u64 (IntKind.wrap .i64 (v.2.2.1+v.2.2.2.1))) (1:Int))),v.2.2.2.2.2.1,v.2.2.2.2.2.2))
theorem q29g C v:q406 (regO (qcy f114) 4) false [(0,(.val qje)),(2,.any),(4,.any),(8,.any),(9,.any),(10,.any),(11,.any)] q29a q29f q29e C v:=rgI (by kernel_rfl)
abbrev q29h:Type:=List qjf×Int×Int×Int×Int×Bool×Int×Int
def q29i (v:q29h):St:=⟨[(0,.fz qje v.1),(2,.fn 115 []),(4,.ptr 0 0),(8,i6 v.2.1),(9,i6 v.2.2.1),(10,i6 v.2.2.2.1),(11,i6 v.2.2.2.2.1),(31,.bool v.2.2.2.2.2.1)],[.cells [i6 v.2.2.2.2.2.2.1,i6 v.2.2.2.2.2.2.2]]⟩
def q29j (C:q28s) (v:q29d):Dt q29h:=(Dt.ite (inB v.2.2.2.2.1 (List.length v.1)) (Dt.bnd (C.1 (((elt qjg v.1 (v.2.2.2.2.1).toNat).1,(elt qjg v.1 (v.2.2.2.2.1).toNat).2.1,(elt qjg v.1 (v.2.2.2.2.1).toNat).2.2.1,(elt qjg v.1 (v.2.2.2.2.1).toNat).2.2.2.1,()),(v.2.2.2.2.2.1,v.2.2.2.2.2.2,()),())) fun r1=>(Dt.ret (v.1,v.2.1,v.2.2.1,v.2.2.2.1,v.2.2.2.2.1,(decide (r1<(0:Int))),v.2.2.2.2.2.1,v.2.2.2.2.2.2))) Dt.fail)
theorem q29k C v:q406 (regO (qcy f114) 5) true [(0,(.val qje)),(2,.any),(4,.any),(8,.any),(9,.any),(10,.any),(11,.any),(31,.any)] q29e q29j q29i C v:=rgI (by kernel_rfl)
def q29l (C:q28s) (v:q29h):Dt q295:=(Dt.ret (v.1,v.2.1,(IntKind.wrap .i64 (v.2.2.2.2.1+(1:Int))),v.2.2.2.1,v.2.2.2.2.2.2.1,v.2.2.2.2.2.2.2))
theorem q29m C v:q406 (regO (qcy f114) 6) false [(0,(.val qje)),(2,.any),(4,.any),(8,.any),(9,.any),(10,.any)] q29i q29l q296 C v:=rgI (by kernel_rfl)
def q29n (C:q28s) (v:q29h):Dt q295:=(Dt.ret (v.1,v.2.1,v.2.2.1,v.2.2.2.2.1,v.2.2.2.2.2.2.1,v.2.2.2.2.2.2.2))
theorem q29o C v:q406 (regO (qcy f114) 7) false [(0,(.val qje)),(2,.any),(4,.any),(8,.any),(9,.any),(10,.any)] q29i q29n q296 C v:=rgI (by kernel_rfl)
abbrev q29p:Type:=Int×Bool
def q29q (v:q29p):St:=⟨[(6,i6 v.1),(7,.bool v.2)],[]⟩
def q29r (C:q28s) (v:q299):Dt q29p:=(Dt.ite (decide (v.2.2.1<v.2.1)) (Dt.ite (inB v.2.2.1 (List.length v.1)) (Dt.bnd (C.1 (((elt qjg v.1 (v.2.2.1).toNat).1,(elt qjg v.1 (v.2.2.1).toNat).2.1,(elt qjg v.1 (v.2.2.1).toNat).2.2.1,(elt qjg v.1 (v.2.2.1).toNat).2.2.2.1,()),(v.2.2.2.2.2.1,v.2.2.2.2.2.2,()),())) fun r1=>(Dt.ret (v.2.2.1,(r1==(0:Int))))) Dt.fail) (Dt.ret (v.2.2.1,false)))
theorem q29s C v:q406 (regO (qcy f114) 8) true (an [6,7]) q29a q29r q29q C v:=rgI (by kernel_rfl)
def q29t (d:Nat) (self1:(List qjf×Int×Int×Int×Int×Int)→Option q28p) (x1:List qjf×Int×Int×Int×Int×Int):Option q28p :=
 (q29b (q28t d) x1).eval fun y3 =>
 bif y3.2.2.2.2.1 then ((q29f (q28t d) y3).eval fun y4 =>
 (q29j (q28t d) y4).eval fun y5 =>
 bif y5.2.2.2.2.2.1 then ((q29l (q28t d) y5).eval fun y6 =>
 self1 y6) else ((q29n (q28t d) y5).eval fun y7 =>
 self1 y7)) else ((q29r (q28t d) y3).eval fun y8 =>
 some y8)
def q29u (d:Nat) (x:q28o):Option q28p :=
 (q28z (q28t d) (x.1.1,x.2.1.1,x.2.1.2.1)).eval fun y0 =>
 (q293 (q28t d) y0).eval fun y1 =>
 (q297 (q28t d) y1).eval fun y2 =>
 iter (q29t d ) d y2
theorem q29v (d:Nat):COK prog (q28r (q29u d)):=by
 have hm:prog.follows .mixedOrders=true:=qjt
 have hT:=tys
 have hC0:OrcOK prog (orc (q28u (q28t d))):=qcs (by
  intro S hS
  simp only [q28u,List.mem_cons,List.not_mem_nil,or_false] at hS
  subst hS;exact q28m d)
 have hC:OrcOK prog (orc (q28u (q28t d))):=hC0
 refine q8e (c:=qcy f114) (fn:=f114) hT (by kernel_rfl) (by kernel_rfl) (by decide) fun x r h w0 φ0 Q hend=>?_
 replace h:q29u d x=some r:=h
 unfold q29u at h
 show Run prog w0 φ0 49 (qcy f114) ⟨[(0,.fz qje x.1.1),(1,.agg [.int .i64 x.2.1.1,.int .i64 x.2.1.2.1]),(2,.fn 115 [])],[]⟩ Q
 refine q3yx hm hT hC (q290 (q28t d) (x.1.1,x.2.1.1,x.2.1.2.1)) h fun y0 h=>?_
 refine q3yx hm hT hC (q294 (q28t d) y0) h fun y1 h=>?_
 refine q3yx hm hT hC (q298 (q28t d) y1) h fun y2 h=>?_
 refine q7y (q7z ?_)
 refine q84 (G:=iter (q29t d )) (S:=(fun x1=>⟨[(0,.fz qje x1.1),(2,.fn 115 []),(4,.ptr 0 0),(8,i6 x1.2.1),(9,i6 x1.2.2.1),(10,i6 x1.2.2.2.1)],[.cells [i6 x1.2.2.2.2.1,i6 x1.2.2.2.2.2]]⟩:List qjf×Int×Int×Int×Int×Int→St)) (fun _=>rfl) ?_ d _ h
 intro n1 x1 h K1 hn1
 replace h:q29t d  (iter (q29t d ) n1) x1=some r:=h
 generalize iter (q29t d ) n1=self1 at h hn1
 unfold q29t at h
 refine q7y ?_
 refine q3yx hm hT hC (q29c (q28t d) x1) h fun y3 h=>?_
 refine q82 (v:=y3.2.2.2.2.1) (by kernel_rfl) h ?_ ?_
 ·
  intro h
  refine q7u (q7k (q7z ?_))
  refine q3yx hm hT hC (q29g (q28t d) y3) h fun y4 h=>?_
  refine q3yx hm hT hC (q29k (q28t d) y4) h fun y5 h=>?_
  refine q82 (v:=y5.2.2.2.2.2.1) (by kernel_rfl) h ?_ ?_
  ·
   intro h
   refine q83 hm hT hC (q29m (q28t d) y5) h ?_
   intro y6 h
   refine q7n ?_
   exact hn1 _ h
  ·
   intro h
   refine q83 hm hT hC (q29o (q28t d) y5) h ?_
   intro y7 h
   refine q7n ?_
   exact hn1 _ h
 ·
  intro h
  refine q7w (q7l (q7l (q7p (q7k ?_))))
  refine q3yx hm hT hC (q29s (q28t d) y3) h fun y8 h=>?_
  refine q7x ?_
  cases h
  exact (hend _ (by kernel_rfl)).2
abbrev q29w:List Pk:=[.row qjh false,.row Rii true]
abbrev q29x:Type:=qji×Dii×Unit
abbrev q29y:Type:=Int
def q29z (r:q29y):LV×List Ob:=(.int .i64 r,[])
def q2a0 (F:q29x→Option q29y):Go.Tx.Spec:=⟨55,q29w,q29y,F,q29z⟩
abbrev q2a1:Type:=(q28o→Option q28p)×Unit
def q2a2 (d:Nat):q2a1:=(q29u d,())
def q2a3 (C:q2a1):List Go.Tx.Spec:=[q28r C.1]
abbrev q2a4:Type:=List qjf×Int×Int
def q2a5 (v:q2a4):St:=⟨[(0,.fz qje v.1),(1,.agg [i6 v.2.1,i6 v.2.2])],[]⟩
abbrev q2a6:Type:=List qjf×Int×Int
def q2a7 (v:q2a6):St:=⟨[(0,.fz qje v.1),(3,.ptr 0 0)],[.cells [i6 v.2.1,i6 v.2.2]]⟩
def q2a8 (C:q2a1) (v:q2a4):Dt q2a6:=(Dt.ret (v.1,v.2.1,v.2.2))
abbrev q407 {V Y:Type}:=@rg q2a1 V Y tysT (fun C=>(orc (q2a3 C))) 14
theorem q2a9 C v:q407 (regO (qcy f55) 0) false [(0,(.val qje)),(3,.any)] q2a5 q2a8 q2a7 C v:=rgI (by kernel_rfl)
abbrev q2aa:Type:=Int
def q2ab (v:q2aa):St:=⟨[(5,i6 v)],[]⟩
def q2ac (C:q2a1) (v:q2a6):Dt q2aa:=(Dt.bnd (C.1 ((v.1,()),(v.2.1,v.2.2,()),(()),())) fun r1=>(Dt.ret r1.1))
theorem q2ad C v:q407 (regO (qcy f55) 1) false [(5,.any)] q2a7 q2ac q2ab C v:=rgI (by kernel_rfl)
abbrev q2ae:Type:=Int
def q2af (v:q2ae):St:=⟨[(4,i6 v)],[]⟩
def q2ag (C:q2a1) (v:q2aa):Dt q2ae:=(Dt.ret v)
theorem q2ah C v:q407 (regO (qcy f55) 2) false [(4,.any)] q2ab q2ag q2af C v:=rgI (by kernel_rfl)
def q2ai (d:Nat) (x:q29x):Option q29y :=
 (q2a8 (q2a2 d) (x.1.1,x.2.1.1,x.2.1.2.1)).eval fun y0 =>
 (q2ac (q2a2 d) y0).eval fun y1 =>
 (q2ag (q2a2 d) y1).eval fun y2 =>
 some y2
theorem q2aj (d:Nat):COK prog (q2a0 (q2ai d)):=by
 have hm:prog.follows .mixedOrders=true:=qjt
 have hT:=tys
 have hC0:OrcOK prog (orc (q2a3 (q2a2 d))):=qcs (by
  intro S hS
  simp only [q2a3,List.mem_cons,List.not_mem_nil,or_false] at hS
  subst hS;exact q29v d)
 have hC:OrcOK prog (orc (q2a3 (q2a2 d))):=hC0
 refine q8e (c:=qcy f55) (fn:=f55) hT (by kernel_rfl) (by kernel_rfl) (by decide) fun x r h w0 φ0 Q hend=>?_
 replace h:q2ai d x=some r:=h
 unfold q2ai at h
 show Run prog w0 φ0 14 (qcy f55) ⟨[(0,.fz qje x.1.1),(1,.agg [.int .i64 x.2.1.1,.int .i64 x.2.1.2.1])],[]⟩ Q
 refine q3yx hm hT hC (q2a9 (q2a2 d) (x.1.1,x.2.1.1,x.2.1.2.1)) h fun y0 h=>?_
 refine q3yx hm hT hC (q2ad (q2a2 d) y0) h fun y1 h=>?_
 refine q3yx hm hT hC (q2ah (q2a2 d) y1) h fun y2 h=>?_
 refine q7x ?_
 cases h
 exact (hend _ (by kernel_rfl)).2
abbrev q2ak:List Pk:=[.row qjb true,.row Rii true,.row Rii true]
abbrev q2al:Type:=qjc×Dii×Dii×Unit
abbrev q2am:Type:=List qjf×Int
def q2an (r:q2am):LV×List Ob:=(.tup [.fz qje r.1,.int .i64 r.2],[])
def q2ao (F:q2al→Option q2am):Go.Tx.Spec:=⟨13,q2ak,q2am,F,q2an⟩
abbrev q2ap:Type:=(q171→Option q172)×(q26g→Option q26h)×(q29x→Option q29y)×Unit
def q2aq (d:Nat):q2ap:=(q18n d,q27v d,q2ai d,())
def q2ar (C:q2ap):List Go.Tx.Spec:=[q174 C.1,q26j C.2.1,q2a0 C.2.2.1]
abbrev q2as:Type:=List Diii×Int×Int×Int×Int
def q2at (v:q2as):St:=⟨[(0,.agg [.fz Riii v.1]),(1,.agg [i6 v.2.1,i6 v.2.2.1]),(2,.agg [i6 v.2.2.2.1,i6 v.2.2.2.2])],[]⟩
abbrev q2au:Type:=List Diii×Int×Int×Int×Int
def q2av (v:q2au):St:=⟨[(3,.ptr 0 0),(4,.ptr 1 0),(5,.ptr 2 0)],[.cells [.fz Riii v.1],.cells [i6 v.2.1,i6 v.2.2.1],.cells [i6 v.2.2.2.1,i6 v.2.2.2.2]]⟩
def q2aw (C:q2ap) (v:q2as):Dt q2au:=(Dt.ret (v.1,v.2.1,v.2.2.1,v.2.2.2.1,v.2.2.2.2))
abbrev q408 {V Y:Type}:=@rg q2ap V Y tysT (fun C=>(orc (q2ar C))) 33
theorem q2ax C v:q408 (regO (qcy f13) 0) false [(3,(.box [.val Riii])),(4,.any),(5,.any)] q2at q2aw q2av C v:=rgI (by kernel_rfl)
abbrev q2ay:Type:=Int×List Diii×Int×Int×Int×Int
def q2az (v:q2ay):St:=⟨[(3,.ptr 0 0),(4,.ptr 1 0),(5,.ptr 2 0),(8,i6 v.1)],[.cells [.fz Riii v.2.1],.cells [i6 v.2.2.1,i6 v.2.2.2.1],.cells [i6 v.2.2.2.2.1,i6 v.2.2.2.2.2]]⟩
def q2b0 (C:q2ap) (v:q2au):Dt q2ay:=(Dt.bnd (C.1 ((v.1,()),(([(v.2.1,v.2.2.1,()),(v.2.2.2.1,v.2.2.2.2,())]:List Dii),()),())) fun r1=>(Dt.ret (r1,v.1,v.2.1,v.2.2.1,v.2.2.2.1,v.2.2.2.2)))
theorem q2b1 C v:q408 (regO (qcy f13) 1) false [(3,(.box [.val Riii])),(4,.any),(5,.any),(8,.any)] q2av q2b0 q2az C v:=rgI (by kernel_rfl)
abbrev q2b2:Type:=Int×Bool×List Diii×Int×Int×Int×Int
def q2b3 (v:q2b2):St:=⟨[(3,.ptr 0 0),(4,.ptr 1 0),(5,.ptr 2 0),(8,i6 v.1),(18,.bool v.2.1)],[.cells [.fz Riii v.2.2.1],.cells [i6 v.2.2.2.1,i6 v.2.2.2.2.1],.cells [i6 v.2.2.2.2.2.1,i6 v.2.2.2.2.2.2]]⟩
def q2b4 (C:q2ap) (v:q2ay):Dt q2b2:=(Dt.ret (v.1,(v.1!=(0:Int)),v.2.1,v.2.2.1,v.2.2.2.1,v.2.2.2.2.1,v.2.2.2.2.2))
theorem q2b5 C v:q408 (regO (qcy f13) 2) false [(3,(.box [.val Riii])),(4,.any),(5,.any),(8,.any),(18,.any)] q2az q2b4 q2b3 C v:=rgI (by kernel_rfl)
abbrev q2b6:Type:=List qjf×Int
def q2b7 (v:q2b6):St:=⟨[(6,.fz qje v.1),(7,i6 v.2)],[]⟩
def q2b8 (C:q2ap) (v:q2b2):Dt q2b6:=(Dt.ret (([]:List qjf),v.1))
theorem q2b9 C v:q408 (regO (qcy f13) 3) false [(6,(.val qje)),(7,.any)] q2b3 q2b8 q2b7 C v:=rgI (by kernel_rfl)
abbrev q2ba:Type:=Int×Int×Int×Int×List qjf
def q2bb (v:q2ba):St:=⟨[(4,.ptr 0 0),(5,.ptr 1 0),(9,.rs 2)],[.cells [i6 v.1,i6 v.2.1],.cells [i6 v.2.2.1,i6 v.2.2.2.1],.rows qje v.2.2.2.2]⟩
def q2bc (C:q2ap) (v:q2b2):Dt q2ba:=(Dt.bnd (C.2.1 ((v.2.2.1,()),())) fun r1=>(Dt.ret (v.2.2.2.1,v.2.2.2.2.1,v.2.2.2.2.2.1,v.2.2.2.2.2.2,r1)))
theorem q2bd C v:q408 (regO (qcy f13) 4) false [(4,.any),(5,.any),(9,(.own qje))] q2b3 q2bc q2bb C v:=rgI (by kernel_rfl)
abbrev q2be:Type:=Int×Int×List qjf
def q2bf (v:q2be):St:=⟨[(9,.rs 0),(10,i6 v.1),(11,i6 v.2.1)],[.rows qje v.2.2]⟩
def q2bg (C:q2ap) (v:q2ba):Dt q2be:=(Dt.bnd (C.2.2.1 ((v.2.2.2.2,()),(v.1,v.2.1,()),())) fun r1=>(Dt.bnd (C.2.2.1 ((v.2.2.2.2,()),(v.2.2.1,v.2.2.2.1,()),())) fun r2=>(Dt.ret (r1,r2,v.2.2.2.2))))
theorem q2bh C v:q408 (regO (qcy f13) 5) true [(9,(.own qje)),(10,.any),(11,.any)] q2bb q2bg q2bf C v:=rgI (by kernel_rfl)
def q2bi (C:q2ap) (v:q2be):Dt q2b6:=(Dt.ite (q3j v.1 v.2.1 v.2.1 (List.length v.2.2)) (Dt.ret ((List.drop (v.1).toNat (List.take (v.2.1).toNat v.2.2)),(0:Int))) Dt.fail)
theorem q2bj C v:q408 (regO (qcy f13) 6) false [(6,(.val qje)),(7,.any)] q2bf q2bi q2b7 C v:=rgI (by kernel_rfl)
def q2bk (d:Nat) (x:q2al):Option q2am :=
 (q2aw (q2aq d) (x.1.1,x.2.1.1,x.2.1.2.1,x.2.2.1.1,x.2.2.1.2.1)).eval fun y0 =>
 (q2b0 (q2aq d) y0).eval fun y1 =>
 (q2b4 (q2aq d) y1).eval fun y2 =>
 bif y2.2.1 then ((q2b8 (q2aq d) y2).eval fun y3 =>
 some y3) else ((q2bc (q2aq d) y2).eval fun y4 =>
 (q2bg (q2aq d) y4).eval fun y5 =>
 (q2bi (q2aq d) y5).eval fun y6 =>
 some y6)
theorem q2bl (d:Nat):COK prog (q2ao (q2bk d)):=by
 have hm:prog.follows .mixedOrders=true:=qjt
 have hT:=tys
 have hC0:OrcOK prog (orc (q2ar (q2aq d))):=qcs (by
  intro S hS
  simp only [q2ar,List.mem_cons,List.not_mem_nil,or_false] at hS
  rcases hS with rfl | rfl | rfl
  · exact q18o d
  · exact q27w d
  · exact q2aj d)
 have hC:OrcOK prog (orc (q2ar (q2aq d))):=hC0
 refine q8e (c:=qcy f13) (fn:=f13) hT (by kernel_rfl) (by kernel_rfl) (by decide) fun x r h w0 φ0 Q hend=>?_
 replace h:q2bk d x=some r:=h
 unfold q2bk at h
 show Run prog w0 φ0 33 (qcy f13) ⟨[(0,.agg [.fz Riii x.1.1]),(1,.agg [.int .i64 x.2.1.1,.int .i64 x.2.1.2.1]),(2,.agg [.int .i64 x.2.2.1.1,.int .i64 x.2.2.1.2.1])],[]⟩ Q
 refine q3yx hm hT hC (q2ax (q2aq d) (x.1.1,x.2.1.1,x.2.1.2.1,x.2.2.1.1,x.2.2.1.2.1)) h fun y0 h=>?_
 refine q7y ?_
 refine q3yx hm hT hC (q2b1 (q2aq d) y0) h fun y1 h=>?_
 refine q3yx hm hT hC (q2b5 (q2aq d) y1) h fun y2 h=>?_
 refine q82 (v:=y2.2.1) (by kernel_rfl) h ?_ ?_
 ·
  intro h
  refine q3yx hm hT hC (q2b9 (q2aq d) y2) h fun y3 h=>?_
  refine q7x (q7m ?_)
  cases h
  exact (hend _ (by kernel_rfl)).2
 ·
  intro h
  refine q7u (q7k ?_)
  refine q3yx hm hT hC (q2bd (q2aq d) y2) h fun y4 h=>?_
  refine q3yx hm hT hC (q2bh (q2aq d) y4) h fun y5 h=>?_
  refine q3yx hm hT hC (q2bj (q2aq d) y5) h fun y6 h=>?_
  refine q7x ?_
  cases h
  exact (hend _ (by kernel_rfl)).2
abbrev q2bm:List Pk:=[.row qjb true,.row Rii true,.row Rii true]
abbrev q2bn:Type:=qjc×Dii×Dii×Unit
abbrev q2bo:Type:=Int×Int
def q2bp (r:q2bo):LV×List Ob:=(.tup [.int .i64 r.1,.int .i64 r.2],[])
def q2bq (F:q2bn→Option q2bo):Go.Tx.Spec:=⟨133,q2bm,q2bo,F,q2bp⟩
abbrev q2br:Type:=(q2al→Option q2am)×Unit
def q2bs (d:Nat):q2br:=(q2bk d,())
def q2bt (C:q2br):List Go.Tx.Spec:=[q2ao C.1]
abbrev q2bu:Type:=List Diii×Int×Int×Int×Int
def q2bv (v:q2bu):St:=⟨[(0,.agg [.fz Riii v.1]),(1,.agg [i6 v.2.1,i6 v.2.2.1]),(2,.agg [i6 v.2.2.2.1,i6 v.2.2.2.2])],[]⟩
abbrev q2bw:Type:=List Diii×Int×Int×Int×Int
def q2bx (v:q2bw):St:=⟨[(3,.ptr 0 0),(4,.ptr 1 0),(5,.ptr 2 0)],[.cells [.fz Riii v.1],.cells [i6 v.2.1,i6 v.2.2.1],.cells [i6 v.2.2.2.1,i6 v.2.2.2.2]]⟩
def q2by (C:q2br) (v:q2bu):Dt q2bw:=(Dt.ret (v.1,v.2.1,v.2.2.1,v.2.2.2.1,v.2.2.2.2))
abbrev q409 {V Y:Type}:=@rg q2br V Y tysT (fun C=>(orc (q2bt C))) 20
theorem q2bz C v:q409 (regO (qcy f133) 0) false [(3,(.box [.val Riii])),(4,.any),(5,.any)] q2bv q2by q2bx C v:=rgI (by kernel_rfl)
abbrev q2c0:Type:=List qjf×Int
def q2c1 (v:q2c0):St:=⟨[(8,.fz qje v.1),(9,i6 v.2)],[]⟩
def q2c2 (C:q2br) (v:q2bw):Dt q2c0:=(Dt.bnd (C.1 ((v.1,()),(v.2.1,v.2.2.1,()),(v.2.2.2.1,v.2.2.2.2,()),())) fun r1=>(Dt.ret (r1.1,r1.2)))
theorem q2c3 C v:q409 (regO (qcy f133) 1) false [(8,(.val qje)),(9,.any)] q2bx q2c2 q2c1 C v:=rgI (by kernel_rfl)
abbrev q2c4:Type:=Int×Int
def q2c5 (v:q2c4):St:=⟨[(6,i6 v.1),(7,i6 v.2)],[]⟩
def q2c6 (C:q2br) (v:q2c0):Dt q2c4:=(Dt.ret ((List.length v.1:Int),v.2))
theorem q2c7 C v:q409 (regO (qcy f133) 2) false (an [6,7]) q2c1 q2c6 q2c5 C v:=rgI (by kernel_rfl)
def q2c8 (d:Nat) (x:q2bn):Option q2bo :=
 (q2by (q2bs d) (x.1.1,x.2.1.1,x.2.1.2.1,x.2.2.1.1,x.2.2.1.2.1)).eval fun y0 =>
 (q2c2 (q2bs d) y0).eval fun y1 =>
 (q2c6 (q2bs d) y1).eval fun y2 =>
 some y2
theorem q2c9 (d:Nat):COK prog (q2bq (q2c8 d)):=by
 have hm:prog.follows .mixedOrders=true:=qjt
 have hT:=tys
 have hC0:OrcOK prog (orc (q2bt (q2bs d))):=qcs (by
  intro S hS
  simp only [q2bt,List.mem_cons,List.not_mem_nil,or_false] at hS
  subst hS;exact q2bl d)
 have hC:OrcOK prog (orc (q2bt (q2bs d))):=hC0
 refine q8e (c:=qcy f133) (fn:=f133) hT (by kernel_rfl) (by kernel_rfl) (by decide) fun x r h w0 φ0 Q hend=>?_
 replace h:q2c8 d x=some r:=h
 unfold q2c8 at h
 show Run prog w0 φ0 20 (qcy f133) ⟨[(0,.agg [.fz Riii x.1.1]),(1,.agg [.int .i64 x.2.1.1,.int .i64 x.2.1.2.1]),(2,.agg [.int .i64 x.2.2.1.1,.int .i64 x.2.2.1.2.1])],[]⟩ Q
 refine q3yx hm hT hC (q2bz (q2bs d) (x.1.1,x.2.1.1,x.2.1.2.1,x.2.2.1.1,x.2.2.1.2.1)) h fun y0 h=>?_
 refine q3yx hm hT hC (q2c3 (q2bs d) y0) h fun y1 h=>?_
 refine q3yx hm hT hC (q2c7 (q2bs d) y1) h fun y2 h=>?_
 refine q7x ?_
 cases h
 exact (hend _ (by kernel_rfl)).2
abbrev q2ca:List Pk:=[.row qjb true,.row Rii true,.row Rii true]
abbrev q2cb:Type:=qjc×Dii×Dii×Unit
abbrev q2cc:Type:=Int
def q2cd (r:q2cc):LV×List Ob:=(.int .i64 r,[])
def q2ce (F:q2cb→Option q2cc):Go.Tx.Spec:=⟨75,q2ca,q2cc,F,q2cd⟩
abbrev q2cf:Type:=(q2bn→Option q2bo)×Unit
def q2cg (d:Nat):q2cf:=(q2c8 d,())
def q2ch (C:q2cf):List Go.Tx.Spec:=[q2bq C.1]
abbrev q2ci:Type:=List Diii×Int×Int×Int×Int
def q2cj (v:q2ci):St:=⟨[(0,.agg [.fz Riii v.1]),(1,.agg [i6 v.2.1,i6 v.2.2.1]),(2,.agg [i6 v.2.2.2.1,i6 v.2.2.2.2])],[]⟩
abbrev q2ck:Type:=List Diii×Int×Int×Int×Int
def q2cl (v:q2ck):St:=⟨[(3,.ptr 0 0),(4,.ptr 1 0),(5,.ptr 2 0)],[.cells [.fz Riii v.1],.cells [i6 v.2.1,i6 v.2.2.1],.cells [i6 v.2.2.2.1,i6 v.2.2.2.2]]⟩
def q2cm (C:q2cf) (v:q2ci):Dt q2ck:=(Dt.ret (v.1,v.2.1,v.2.2.1,v.2.2.2.1,v.2.2.2.2))
abbrev q40a {V Y:Type}:=@rg q2cf V Y tysT (fun C=>(orc (q2ch C))) 23
theorem q2cn C v:q40a (regO (qcy f75) 0) false [(3,(.box [.val Riii])),(4,.any),(5,.any)] q2cj q2cm q2cl C v:=rgI (by kernel_rfl)
abbrev q2co:Type:=Int×List Diii
def q2cp (v:q2co):St:=⟨[(3,.ptr 0 0),(8,i6 v.1)],[.cells [.fz Riii v.2]]⟩
def q2cq (C:q2cf) (v:q2ck):Dt q2co:=(Dt.bnd (C.1 ((v.1,()),(v.2.1,v.2.2.1,()),(v.2.2.2.1,v.2.2.2.2,()),())) fun r1=>(Dt.ret (r1.2,v.1)))
theorem q2cr C v:q40a (regO (qcy f75) 1) false [(3,(.box [.val Riii])),(8,.any)] q2cl q2cq q2cp C v:=rgI (by kernel_rfl)
abbrev q2cs:Type:=Int×Bool×List Diii
def q2ct (v:q2cs):St:=⟨[(3,.ptr 0 0),(8,i6 v.1),(17,.bool v.2.1)],[.cells [.fz Riii v.2.2]]⟩
def q2cu (C:q2cf) (v:q2co):Dt q2cs:=(Dt.ret (v.1,(v.1!=(0:Int)),v.2))
theorem q2cv C v:q40a (regO (qcy f75) 2) false [(3,(.box [.val Riii])),(8,.any),(17,.any)] q2cp q2cu q2ct C v:=rgI (by kernel_rfl)
abbrev q2cw:Type:=Int
def q2cx (v:q2cw):St:=⟨[(6,i6 v)],[]⟩
def q2cy (C:q2cf) (v:q2cs):Dt q2cw:=(Dt.ret v.1)
theorem q2cz C v:q40a (regO (qcy f75) 3) false [(6,.any)] q2ct q2cy q2cx C v:=rgI (by kernel_rfl)
abbrev q2d0:Type:=Bool
def q2d1 (v:q2d0):St:=⟨[(22,.bool v)],[]⟩
def q2d2 (C:q2cf) (v:q2cs):Dt q2d0:=(Dt.ret ((List.length v.2.2:Int)==(0:Int)))
theorem q2d3 C v:q40a (regO (qcy f75) 4) false [(22,.any)] q2ct q2d2 q2d1 C v:=rgI (by kernel_rfl)
def q2d4 (C:q2cf) (v:q2d0):Dt q2cw:=(Dt.ret (42:Int))
theorem q2d5 C v:q40a (regO (qcy f75) 5) false [(6,.any)] q2d1 q2d4 q2cx C v:=rgI (by kernel_rfl)
def q2d6 (C:q2cf) (v:q2d0):Dt q2cw:=(Dt.ret (0:Int))
theorem q2d7 C v:q40a (regO (qcy f75) 6) false [(6,.any)] q2d1 q2d6 q2cx C v:=rgI (by kernel_rfl)
def q2d8 (d:Nat) (x:q2cb):Option q2cc :=
 (q2cm (q2cg d) (x.1.1,x.2.1.1,x.2.1.2.1,x.2.2.1.1,x.2.2.1.2.1)).eval fun y0 =>
 (q2cq (q2cg d) y0).eval fun y1 =>
 (q2cu (q2cg d) y1).eval fun y2 =>
 bif y2.2.1 then ((q2cy (q2cg d) y2).eval fun y3 =>
 some y3) else ((q2d2 (q2cg d) y2).eval fun y4 =>
 bif y4 then ((q2d4 (q2cg d) y4).eval fun y5 =>
 some y5) else ((q2d6 (q2cg d) y4).eval fun y6 =>
 some y6))
theorem q2d9 (d:Nat):COK prog (q2ce (q2d8 d)):=by
 have hm:prog.follows .mixedOrders=true:=qjt
 have hT:=tys
 have hC0:OrcOK prog (orc (q2ch (q2cg d))):=qcs (by
  intro S hS
  simp only [q2ch,List.mem_cons,List.not_mem_nil,or_false] at hS
  subst hS;exact q2c9 d)
 have hC:OrcOK prog (orc (q2ch (q2cg d))):=hC0
 refine q8e (c:=qcy f75) (fn:=f75) hT (by kernel_rfl) (by kernel_rfl) (by decide) fun x r h w0 φ0 Q hend=>?_
 replace h:q2d8 d x=some r:=h
 unfold q2d8 at h
 show Run prog w0 φ0 23 (qcy f75) ⟨[(0,.agg [.fz Riii x.1.1]),(1,.agg [.int .i64 x.2.1.1,.int .i64 x.2.1.2.1]),(2,.agg [.int .i64 x.2.2.1.1,.int .i64 x.2.2.1.2.1])],[]⟩ Q
 refine q3yx hm hT hC (q2cn (q2cg d) (x.1.1,x.2.1.1,x.2.1.2.1,x.2.2.1.1,x.2.2.1.2.1)) h fun y0 h=>?_
 refine q7y ?_
 refine q3yx hm hT hC (q2cr (q2cg d) y0) h fun y1 h=>?_
 refine q3yx hm hT hC (q2cv (q2cg d) y1) h fun y2 h=>?_
 refine q82 (v:=y2.2.1) (by kernel_rfl) h ?_ ?_
 ·
  intro h
  refine q3yx hm hT hC (q2cz (q2cg d) y2) h fun y3 h=>?_
  refine q7x (q7m ?_)
  cases h
  exact (hend _ (by kernel_rfl)).2
 ·
  intro h
  refine q7u (q7k (q7y ?_))
  refine q3yx hm hT hC (q2d3 (q2cg d) y2) h fun y4 h=>?_
  refine q82 (v:=y4) (by kernel_rfl) h ?_ ?_
  ·
   intro h
   refine q3yx hm hT hC (q2d5 (q2cg d) y4) h fun y5 h=>?_
   refine q7x (q7m ?_)
   cases h
   exact (hend _ (by kernel_rfl)).2
  ·
   intro h
   refine q7u (q7k ?_)
   refine q3yx hm hT hC (q2d7 (q2cg d) y4) h fun y6 h=>?_
   refine q7x ?_
   cases h
   exact (hend _ (by kernel_rfl)).2
abbrev q2da:List Pk:=[.row qjb true,.row Rii true]
abbrev q2db:Type:=qjc×Dii×Unit
abbrev q2dc:Type:=Int×Int×Int×Int×Int×Int
def q2dd (r:q2dc):LV×List Ob:=(.tup [.agg [.int .i64 r.1,.int .i64 r.2.1,.int .i64 r.2.2.1],.agg [.int .i64 r.2.2.2.1,.int .i64 r.2.2.2.2.1,.int .i64 r.2.2.2.2.2]],[])
def q2de (F:q2db→Option q2dc):Go.Tx.Spec:=⟨76,q2da,q2dc,F,q2dd⟩
abbrev q2df:Type:=(qwf→Option qwg)×(qvo→Option qvp)×Unit
def q2dg (d:Nat):q2df:=(qwk d,qvt d,())
def q2dh (C:q2df):List Go.Tx.Spec:=[qwi C.1,qvr C.2.1]
abbrev q2di:Type:=List Diii×Int×Int
def q2dj (v:q2di):St:=⟨[(0,.agg [.fz Riii v.1]),(1,.agg [i6 v.2.1,i6 v.2.2])],[]⟩
abbrev q2dk:Type:=List Diii×Int×Int×Int×Int×Int×Int×Int×Int
def q2dl (v:q2dk):St:=⟨[(2,.ptr 0 0),(3,.ptr 1 0),(4,.ptr 2 0),(5,.ptr 3 0)],[.cells [.fz Riii v.1],.cells [i6 v.2.1,i6 v.2.2.1],.cells [i6 v.2.2.2.1,i6 v.2.2.2.2.1,i6 v.2.2.2.2.2.1],.cells [i6 v.2.2.2.2.2.2.1,i6 v.2.2.2.2.2.2.2.1,i6 v.2.2.2.2.2.2.2.2]]⟩
def q2dm (C:q2df) (v:q2di):Dt q2dk:=(Dt.ret (v.1,v.2.1,v.2.2,(0:Int),(0:Int),(0:Int),(0:Int),(0:Int),(0:Int)))
abbrev q40b {V Y:Type}:=@rg q2df V Y tysT (fun C=>(orc (q2dh C))) 39
theorem q2dn C v:q40b (regO (qcy f76) 0) false [(2,(.box [.val Riii])),(3,.any),(4,.any),(5,.any)] q2dj q2dm q2dl C v:=rgI (by kernel_rfl)
abbrev q2do:Type:=List Diii×Int×Int×Int×Int×Int×Int×List Di
def q2dp (v:q2do):St:=⟨[(2,.ptr 0 0),(4,.ptr 1 0),(5,.ptr 2 0),(6,.rs 3)],[.cells [.fz Riii v.1],.cells [i6 v.2.1,i6 v.2.2.1,i6 v.2.2.2.1],.cells [i6 v.2.2.2.2.1,i6 v.2.2.2.2.2.1,i6 v.2.2.2.2.2.2.1],.rows Ri v.2.2.2.2.2.2.2]⟩
def q2dq (C:q2df) (v:q2dk):Dt q2do:=(Dt.bnd (C.1 ((v.1,()),(v.2.1,v.2.2.1,()),())) fun r1=>(Dt.ret (v.1,v.2.2.2.1,v.2.2.2.2.1,v.2.2.2.2.2.1,v.2.2.2.2.2.2.1,v.2.2.2.2.2.2.2.1,v.2.2.2.2.2.2.2.2,r1.1)))
theorem q2dr C v:q40b (regO (qcy f76) 1) false [(2,(.box [.val Riii])),(4,.any),(5,.any),(6,(.own Ri))] q2dl q2dq q2dp C v:=rgI (by kernel_rfl)
abbrev q2ds:Type:=List Diii×Int×Int×Int×Int×Int×Int×List Di×Int×Int×Int
def q2dt (v:q2ds):St:=⟨[(2,.ptr 0 0),(4,.ptr 1 0),(5,.ptr 2 0),(6,.rs 3),(8,.ptr 4 0)],[.cells [.fz Riii v.1],.cells [i6 v.2.1,i6 v.2.2.1,i6 v.2.2.2.1],.cells [i6 v.2.2.2.2.1,i6 v.2.2.2.2.2.1,i6 v.2.2.2.2.2.2.1],.rows Ri v.2.2.2.2.2.2.2.1,.cells [i6 v.2.2.2.2.2.2.2.2.1,i6 v.2.2.2.2.2.2.2.2.2.1,i6 v.2.2.2.2.2.2.2.2.2.2]]⟩
def q2du (C:q2df) (v:q2do):Dt q2ds:=(Dt.ite (inB (0:Int) (List.length v.2.2.2.2.2.2.2)) (Dt.bnd (C.2.1 ((v.1,()),((elt zi v.2.2.2.2.2.2.2 ((0:Int)).toNat).1,()),())) fun r1=>(Dt.ret (v.1,v.2.1,v.2.2.1,v.2.2.2.1,v.2.2.2.2.1,v.2.2.2.2.2.1,v.2.2.2.2.2.2.1,v.2.2.2.2.2.2.2,r1.1,r1.2.1,r1.2.2.1))) Dt.fail)
theorem q2dv C v:q40b (regO (qcy f76) 2) true [(2,(.box [.val Riii])),(4,.any),(5,.any),(6,(.own Ri)),(8,.any)] q2dp q2du q2dt C v:=rgI (by kernel_rfl)
abbrev q2dw:Type:=Int×Int×Int×Int×Int×Int×Int×Int×Int×Int×Int×Int
def q2dx (v:q2dw):St:=⟨[(4,.ptr 0 0),(5,.ptr 1 0),(8,.ptr 2 0),(10,.ptr 3 0)],[.cells [i6 v.1,i6 v.2.1,i6 v.2.2.1],.cells [i6 v.2.2.2.1,i6 v.2.2.2.2.1,i6 v.2.2.2.2.2.1],.cells [i6 v.2.2.2.2.2.2.1,i6 v.2.2.2.2.2.2.2.1,i6 v.2.2.2.2.2.2.2.2.1],.cells [i6 v.2.2.2.2.2.2.2.2.2.1,i6 v.2.2.2.2.2.2.2.2.2.2.1,i6 v.2.2.2.2.2.2.2.2.2.2.2]]⟩
def q2dy (C:q2df) (v:q2ds):Dt q2dw:=(Dt.ite (inB (IntKind.wrap .i64 ((List.length v.2.2.2.2.2.2.2.1:Int) - (1:Int))) (List.length v.2.2.2.2.2.2.2.1)) (Dt.bnd (C.2.1 ((v.1,()),((elt zi v.2.2.2.2.2.2.2.1 ((IntKind.wrap .i64 ((List.length v.2.2.2.2.2.2.2.1:Int) - (1:Int)))).toNat).1,()),())) fun r1=>(Dt.ret (v.2.1,v.2.2.1,v.2.2.2.1,v.2.2.2.2.1,v.2.2.2.2.2.1,v.2.2.2.2.2.2.1,v.2.2.2.2.2.2.2.2.1,v.2.2.2.2.2.2.2.2.2.1,v.2.2.2.2.2.2.2.2.2.2,r1.1,r1.2.1,r1.2.2.1))) Dt.fail)
theorem q2dz C v:q40b (regO (qcy f76) 3) true (an [4,5,8,10]) q2dt q2dy q2dx C v:=rgI (by kernel_rfl)
abbrev q2e0:Type:=Int×Int×Int×Int×Int×Int
def q2e1 (v:q2e0):St:=⟨[(4,.ptr 0 0),(5,.ptr 1 0)],[.cells [i6 v.1,i6 v.2.1,i6 v.2.2.1],.cells [i6 v.2.2.2.1,i6 v.2.2.2.2.1,i6 v.2.2.2.2.2]]⟩
def q2e2 (C:q2df) (v:q2dw):Dt q2e0:=(Dt.ret (v.2.2.2.2.2.2.1,v.2.2.2.2.2.2.2.1,v.2.2.2.2.2.2.2.2.1,v.2.2.2.2.2.2.2.2.2.1,v.2.2.2.2.2.2.2.2.2.2.1,v.2.2.2.2.2.2.2.2.2.2.2))
theorem q2e3 C v:q40b (regO (qcy f76) 4) true (an [4,5]) q2dx q2e2 q2e1 C v:=rgI (by kernel_rfl)
def q2e4 (d:Nat) (x:q2db):Option q2dc :=
 (q2dm (q2dg d) (x.1.1,x.2.1.1,x.2.1.2.1)).eval fun y0 =>
 (q2dq (q2dg d) y0).eval fun y1 =>
 (q2du (q2dg d) y1).eval fun y2 =>
 (q2dy (q2dg d) y2).eval fun y3 =>
 (q2e2 (q2dg d) y3).eval fun y4 =>
 some y4
theorem q2e5 (d:Nat):COK prog (q2de (q2e4 d)):=by
 have hm:prog.follows .mixedOrders=true:=qjt
 have hT:=tys
 have hC0:OrcOK prog (orc (q2dh (q2dg d))):=qcs (by
  intro S hS
  simp only [q2dh,List.mem_cons,List.not_mem_nil,or_false] at hS
  rcases hS with rfl | rfl
  · exact qwm d
  · exact qvv d)
 have hC:OrcOK prog (orc (q2dh (q2dg d))):=hC0
 refine q8e (c:=qcy f76) (fn:=f76) hT (by kernel_rfl) (by kernel_rfl) (by decide) fun x r h w0 φ0 Q hend=>?_
 replace h:q2e4 d x=some r:=h
 unfold q2e4 at h
 show Run prog w0 φ0 39 (qcy f76) ⟨[(0,.agg [.fz Riii x.1.1]),(1,.agg [.int .i64 x.2.1.1,.int .i64 x.2.1.2.1])],[]⟩ Q
 refine q3yx hm hT hC (q2dn (q2dg d) (x.1.1,x.2.1.1,x.2.1.2.1)) h fun y0 h=>?_
 refine q3yx hm hT hC (q2dr (q2dg d) y0) h fun y1 h=>?_
 refine q3yx hm hT hC (q2dv (q2dg d) y1) h fun y2 h=>?_
 refine q3yx hm hT hC (q2dz (q2dg d) y2) h fun y3 h=>?_
 refine q3yx hm hT hC (q2e3 (q2dg d) y3) h fun y4 h=>?_
 refine q7x ?_
 cases h
 exact (hend _ (by kernel_rfl)).2
abbrev q2e6:List Pk:=[.row qjb true,.row Rii true]
abbrev q2e7:Type:=qjc×Dii×Unit
abbrev q2e8:Type:=Int×Int×Int
def q2e9 (r:q2e8):LV×List Ob:=(.tup [.int .i64 r.1,.int .i64 r.2.1,.int .i64 r.2.2],[])
def q2ea (F:q2e7→Option q2e8):Go.Tx.Spec:=⟨26,q2e6,q2e8,F,q2e9⟩
abbrev q2eb:Type:=(q2cb→Option q2cc)×(q2db→Option q2dc)×Unit
def q2ec (d:Nat):q2eb:=(q2d8 d,q2e4 d,())
def q2ed (C:q2eb):List Go.Tx.Spec:=[q2ce C.1,q2de C.2.1]
abbrev q2ee:Type:=List Diii×Int×Int
def q2ef (v:q2ee):St:=⟨[(0,.agg [.fz Riii v.1]),(1,.agg [i6 v.2.1,i6 v.2.2])],[]⟩
abbrev q2eg:Type:=List Diii×Int×Int
def q2eh (v:q2eg):St:=⟨[(2,.ptr 0 0),(3,.ptr 1 0)],[.cells [.fz Riii v.1],.cells [i6 v.2.1,i6 v.2.2]]⟩
def q2ei (C:q2eb) (v:q2ee):Dt q2eg:=(Dt.ret (v.1,v.2.1,v.2.2))
abbrev q40c {V Y:Type}:=@rg q2eb V Y tysT (fun C=>(orc (q2ed C))) 27
theorem q2ej C v:q40c (regO (qcy f26) 0) false [(2,(.box [.val Riii])),(3,.any)] q2ef q2ei q2eh C v:=rgI (by kernel_rfl)
abbrev q2ek:Type:=Int×List Diii×Int×Int
def q2el (v:q2ek):St:=⟨[(2,.ptr 0 0),(3,.ptr 1 0),(7,i6 v.1)],[.cells [.fz Riii v.2.1],.cells [i6 v.2.2.1,i6 v.2.2.2]]⟩
def q2em (C:q2eb) (v:q2eg):Dt q2ek:=(Dt.bnd (C.1 ((v.1,()),(v.2.1,v.2.2,()),(v.2.1,v.2.2,()),())) fun r1=>(Dt.ret (r1,v.1,v.2.1,v.2.2)))
theorem q2en C v:q40c (regO (qcy f26) 1) false [(2,(.box [.val Riii])),(3,.any),(7,.any)] q2eh q2em q2el C v:=rgI (by kernel_rfl)
abbrev q2eo:Type:=Int×Bool×List Diii×Int×Int
def q2ep (v:q2eo):St:=⟨[(2,.ptr 0 0),(3,.ptr 1 0),(7,i6 v.1),(15,.bool v.2.1)],[.cells [.fz Riii v.2.2.1],.cells [i6 v.2.2.2.1,i6 v.2.2.2.2]]⟩
def q2eq (C:q2eb) (v:q2ek):Dt q2eo:=(Dt.ret (v.1,(v.1!=(0:Int)),v.2.1,v.2.2.1,v.2.2.2))
theorem q2er C v:q40c (regO (qcy f26) 2) false [(2,(.box [.val Riii])),(3,.any),(7,.any),(15,.any)] q2el q2eq q2ep C v:=rgI (by kernel_rfl)
abbrev q2es:Type:=Int×Int×Int
def q2et (v:q2es):St:=⟨[(4,i6 v.1),(5,i6 v.2.1),(6,i6 v.2.2)],[]⟩
def q2eu (C:q2eb) (v:q2eo):Dt q2es:=(Dt.ret ((0:Int),(0:Int),v.1))
theorem q2ev C v:q40c (regO (qcy f26) 3) false (an [4,5,6]) q2ep q2eu q2et C v:=rgI (by kernel_rfl)
abbrev q2ew:Type:=Int×Int×Int×Int×Int×Int
def q2ex (v:q2ew):St:=⟨[(8,.ptr 0 0),(9,.ptr 1 0)],[.cells [i6 v.1,i6 v.2.1,i6 v.2.2.1],.cells [i6 v.2.2.2.1,i6 v.2.2.2.2.1,i6 v.2.2.2.2.2]]⟩
def q2ey (C:q2eb) (v:q2eo):Dt q2ew:=(Dt.bnd (C.2.1 ((v.2.2.1,()),(v.2.2.2.1,v.2.2.2.2,()),())) fun r1=>(Dt.ret (r1.1,r1.2.1,r1.2.2.1,r1.2.2.2.1,r1.2.2.2.2.1,r1.2.2.2.2.2)))
theorem q2ez C v:q40c (regO (qcy f26) 4) false (an [8,9]) q2ep q2ey q2ex C v:=rgI (by kernel_rfl)
def q2f0 (C:q2eb) (v:q2ew):Dt q2es:=(Dt.ret (v.1,v.2.2.2.1,(0:Int)))
theorem q2f1 C v:q40c (regO (qcy f26) 5) true (an [4,5,6]) q2ex q2f0 q2et C v:=rgI (by kernel_rfl)
def q2f2 (d:Nat) (x:q2e7):Option q2e8 :=
 (q2ei (q2ec d) (x.1.1,x.2.1.1,x.2.1.2.1)).eval fun y0 =>
 (q2em (q2ec d) y0).eval fun y1 =>
 (q2eq (q2ec d) y1).eval fun y2 =>
 bif y2.2.1 then ((q2eu (q2ec d) y2).eval fun y3 =>
 some y3) else ((q2ey (q2ec d) y2).eval fun y4 =>
 (q2f0 (q2ec d) y4).eval fun y5 =>
 some y5)
theorem q2f3 (d:Nat):COK prog (q2ea (q2f2 d)):=by
 have hm:prog.follows .mixedOrders=true:=qjt
 have hT:=tys
 have hC0:OrcOK prog (orc (q2ed (q2ec d))):=qcs (by
  intro S hS
  simp only [q2ed,List.mem_cons,List.not_mem_nil,or_false] at hS
  rcases hS with rfl | rfl
  · exact q2d9 d
  · exact q2e5 d)
 have hC:OrcOK prog (orc (q2ed (q2ec d))):=hC0
 refine q8e (c:=qcy f26) (fn:=f26) hT (by kernel_rfl) (by kernel_rfl) (by decide) fun x r h w0 φ0 Q hend=>?_
 replace h:q2f2 d x=some r:=h
 unfold q2f2 at h
 show Run prog w0 φ0 27 (qcy f26) ⟨[(0,.agg [.fz Riii x.1.1]),(1,.agg [.int .i64 x.2.1.1,.int .i64 x.2.1.2.1])],[]⟩ Q
 refine q3yx hm hT hC (q2ej (q2ec d) (x.1.1,x.2.1.1,x.2.1.2.1)) h fun y0 h=>?_
 refine q7y ?_
 refine q3yx hm hT hC (q2en (q2ec d) y0) h fun y1 h=>?_
 refine q3yx hm hT hC (q2er (q2ec d) y1) h fun y2 h=>?_
 refine q82 (v:=y2.2.1) (by kernel_rfl) h ?_ ?_
 ·
  intro h
  refine q3yx hm hT hC (q2ev (q2ec d) y2) h fun y3 h=>?_
  refine q7x (q7m ?_)
  cases h
  exact (hend _ (by kernel_rfl)).2
 ·
  intro h
  refine q7u (q7k ?_)
  refine q3yx hm hT hC (q2ez (q2ec d) y2) h fun y4 h=>?_
  refine q3yx hm hT hC (q2f1 (q2ec d) y4) h fun y5 h=>?_
  refine q7x ?_
  cases h
  exact (hend _ (by kernel_rfl)).2
abbrev q2f4:List Pk:=[.row qjb true,.row Rii true]
abbrev q2f5:Type:=qjc×Dii×Unit
abbrev q2f6:Type:=Int×Int×Int
def q2f7 (r:q2f6):LV×List Ob:=(.tup [.agg [.int .i64 r.1,.int .i64 r.2.1],.int .i64 r.2.2],[])
def q2f8 (F:q2f5→Option q2f6):Go.Tx.Spec:=⟨28,q2f4,q2f6,F,q2f7⟩
abbrev q2f9:Type:=(q1pb→Option q1pc)×(q1of→Option q1og)×(q2cb→Option q2cc)×(q2db→Option q2dc)×Unit
def q2fa (d:Nat):q2f9:=(q1rv d,q1p8 d,q2d8 d,q2e4 d,())
def q2fb (C:q2f9):List Go.Tx.Spec:=[q1pe C.1,q1oi C.2.1,q2ce C.2.2.1,q2de C.2.2.2.1]
abbrev q2fc:Type:=List Diii×Int×Int
def q2fd (v:q2fc):St:=⟨[(0,.agg [.fz Riii v.1]),(1,.agg [i6 v.2.1,i6 v.2.2])],[]⟩
abbrev q2fe:Type:=List Diii×Int×Int×Int×Int
def q2ff (v:q2fe):St:=⟨[(2,.ptr 0 0),(3,.ptr 1 0),(4,.ptr 2 0)],[.cells [.fz Riii v.1],.cells [i6 v.2.1,i6 v.2.2.1],.cells [i6 v.2.2.2.1,i6 v.2.2.2.2]]⟩
def q2fg (C:q2f9) (v:q2fc):Dt q2fe:=(Dt.ret (v.1,v.2.1,v.2.2,(0:Int),(0:Int)))
abbrev q40d {V Y:Type}:=@rg q2f9 V Y tysT (fun C=>(orc (q2fb C))) 51
theorem q2fh C v:q40d (regO (qcy f28) 0) false [(2,(.box [.val Riii])),(3,.any),(4,.any)] q2fd q2fg q2ff C v:=rgI (by kernel_rfl)
abbrev q2fi:Type:=Int×List Diii×Int×Int×Int×Int
def q2fj (v:q2fi):St:=⟨[(2,.ptr 0 0),(3,.ptr 1 0),(4,.ptr 2 0),(6,i6 v.1)],[.cells [.fz Riii v.2.1],.cells [i6 v.2.2.1,i6 v.2.2.2.1],.cells [i6 v.2.2.2.2.1,i6 v.2.2.2.2.2]]⟩
def q2fk (C:q2f9) (v:q2fe):Dt q2fi:=(Dt.bnd (C.2.2.1 ((v.1,()),(v.2.1,v.2.2.1,()),(v.2.1,v.2.2.1,()),())) fun r1=>(Dt.ret (r1,v.1,v.2.1,v.2.2.1,v.2.2.2.1,v.2.2.2.2)))
theorem q2fl C v:q40d (regO (qcy f28) 1) false [(2,(.box [.val Riii])),(3,.any),(4,.any),(6,.any)] q2ff q2fk q2fj C v:=rgI (by kernel_rfl)
abbrev q2fm:Type:=Int×Bool×List Diii×Int×Int×Int×Int
def q2fn (v:q2fm):St:=⟨[(2,.ptr 0 0),(3,.ptr 1 0),(4,.ptr 2 0),(6,i6 v.1),(17,.bool v.2.1)],[.cells [.fz Riii v.2.2.1],.cells [i6 v.2.2.2.1,i6 v.2.2.2.2.1],.cells [i6 v.2.2.2.2.2.1,i6 v.2.2.2.2.2.2]]⟩
def q2fo (C:q2f9) (v:q2fi):Dt q2fm:=(Dt.ret (v.1,(v.1!=(0:Int)),v.2.1,v.2.2.1,v.2.2.2.1,v.2.2.2.2.1,v.2.2.2.2.2))
theorem q2fp C v:q40d (regO (qcy f28) 2) false [(2,(.box [.val Riii])),(3,.any),(4,.any),(6,.any),(17,.any)] q2fj q2fo q2fn C v:=rgI (by kernel_rfl)
abbrev q2fq:Type:=Int×Int×Int
def q2fr (v:q2fq):St:=⟨[(4,.ptr 0 0),(5,i6 v.1)],[.cells [i6 v.2.1,i6 v.2.2]]⟩
def q2fs (C:q2f9) (v:q2fm):Dt q2fq:=(Dt.ret (v.1,(0:Int),(0:Int)))
theorem q2ft C v:q40d (regO (qcy f28) 3) false (an [4,5]) q2fn q2fs q2fr C v:=rgI (by kernel_rfl)
abbrev q2fu:Type:=Int×Int×Int×Int×Int×Int×Int×Int×Int×Int
def q2fv (v:q2fu):St:=⟨[(3,.ptr 0 0),(4,.ptr 1 0),(7,.ptr 2 0),(8,.ptr 3 0)],[.cells [i6 v.1,i6 v.2.1],.cells [i6 v.2.2.1,i6 v.2.2.2.1],.cells [i6 v.2.2.2.2.1,i6 v.2.2.2.2.2.1,i6 v.2.2.2.2.2.2.1],.cells [i6 v.2.2.2.2.2.2.2.1,i6 v.2.2.2.2.2.2.2.2.1,i6 v.2.2.2.2.2.2.2.2.2]]⟩
def q2fw (C:q2f9) (v:q2fm):Dt q2fu:=(Dt.bnd (C.2.2.2.1 ((v.2.2.1,()),(v.2.2.2.1,v.2.2.2.2.1,()),())) fun r1=>(Dt.ret (v.2.2.2.1,v.2.2.2.2.1,v.2.2.2.2.2.1,v.2.2.2.2.2.2,r1.1,r1.2.1,r1.2.2.1,r1.2.2.2.1,r1.2.2.2.2.1,r1.2.2.2.2.2)))
theorem q2fx C v:q40d (regO (qcy f28) 4) false (an [3,4,7,8]) q2fn q2fw q2fv C v:=rgI (by kernel_rfl)
abbrev q2fy:Type:=Int×Int×Int×Int×Int×Int×Int×Int×Int×Int
def q2fz (v:q2fy):St:=⟨[(3,.ptr 0 0),(4,.ptr 1 0),(8,.ptr 2 0),(9,.ptr 3 0),(10,i6 v.1)],[.cells [i6 v.2.1,i6 v.2.2.1],.cells [i6 v.2.2.2.1,i6 v.2.2.2.2.1],.cells [i6 v.2.2.2.2.2.1,i6 v.2.2.2.2.2.2.1,i6 v.2.2.2.2.2.2.2.1],.cells [i6 v.2.2.2.2.2.2.2.2.1,i6 v.2.2.2.2.2.2.2.2.2]]⟩
def q2g0 (C:q2f9) (v:q2fu):Dt q2fy:=(Dt.bnd (C.1 ((v.2.2.2.2.1,v.2.2.2.2.2.1,v.2.2.2.2.2.2.1,()),(v.1,v.2.1,()),())) fun r1=>(Dt.ret (r1.2.2,v.1,v.2.1,v.2.2.1,v.2.2.2.1,v.2.2.2.2.2.2.2.1,v.2.2.2.2.2.2.2.2.1,v.2.2.2.2.2.2.2.2.2,r1.1,r1.2.1)))
theorem q2g1 C v:q40d (regO (qcy f28) 5) false (an [3,4,8,9,10]) q2fv q2g0 q2fz C v:=rgI (by kernel_rfl)
abbrev q2g2:Type:=Int×Bool×Int×Int×Int×Int×Int×Int×Int×Int×Int
def q2g3 (v:q2g2):St:=⟨[(3,.ptr 0 0),(4,.ptr 1 0),(8,.ptr 2 0),(9,.ptr 3 0),(10,i6 v.1),(33,.bool v.2.1)],[.cells [i6 v.2.2.1,i6 v.2.2.2.1],.cells [i6 v.2.2.2.2.1,i6 v.2.2.2.2.2.1],.cells [i6 v.2.2.2.2.2.2.1,i6 v.2.2.2.2.2.2.2.1,i6 v.2.2.2.2.2.2.2.2.1],.cells [i6 v.2.2.2.2.2.2.2.2.2.1,i6 v.2.2.2.2.2.2.2.2.2.2]]⟩
def q2g4 (C:q2f9) (v:q2fy):Dt q2g2:=(Dt.ret (v.1,(v.1!=(0:Int)),v.2.1,v.2.2.1,v.2.2.2.1,v.2.2.2.2.1,v.2.2.2.2.2.1,v.2.2.2.2.2.2.1,v.2.2.2.2.2.2.2.1,v.2.2.2.2.2.2.2.2.1,v.2.2.2.2.2.2.2.2.2))
theorem q2g5 C v:q40d (regO (qcy f28) 6) false (an [3,4,8,9,10,33]) q2fz q2g4 q2g3 C v:=rgI (by kernel_rfl)
def q2g6 (C:q2f9) (v:q2g2):Dt q2fq:=(Dt.ret (v.1,(0:Int),(0:Int)))
theorem q2g7 C v:q40d (regO (qcy f28) 7) false (an [4,5]) q2g3 q2g6 q2fr C v:=rgI (by kernel_rfl)
abbrev q2g8:Type:=Int×Int×Int×Int×Int×Int×Int
def q2g9 (v:q2g8):St:=⟨[(4,.ptr 0 0),(9,.ptr 1 0),(10,i6 v.1),(11,.ptr 2 0)],[.cells [i6 v.2.1,i6 v.2.2.1],.cells [i6 v.2.2.2.1,i6 v.2.2.2.2.1],.cells [i6 v.2.2.2.2.2.1,i6 v.2.2.2.2.2.2]]⟩
def q2ga (C:q2f9) (v:q2g2):Dt q2g8:=(Dt.bnd (C.1 ((v.2.2.2.2.2.2.1,v.2.2.2.2.2.2.2.1,v.2.2.2.2.2.2.2.2.1,()),(v.2.2.1,v.2.2.2.1,()),())) fun r1=>(Dt.ret (r1.2.2,v.2.2.2.2.1,v.2.2.2.2.2.1,v.2.2.2.2.2.2.2.2.2.1,v.2.2.2.2.2.2.2.2.2.2,r1.1,r1.2.1)))
theorem q2gb C v:q40d (regO (qcy f28) 8) false (an [4,9,10,11]) q2g3 q2ga q2g9 C v:=rgI (by kernel_rfl)
abbrev q2gc:Type:=Int×Bool×Int×Int×Int×Int×Int×Int
def q2gd (v:q2gc):St:=⟨[(4,.ptr 0 0),(9,.ptr 1 0),(10,i6 v.1),(11,.ptr 2 0),(43,.bool v.2.1)],[.cells [i6 v.2.2.1,i6 v.2.2.2.1],.cells [i6 v.2.2.2.2.1,i6 v.2.2.2.2.2.1],.cells [i6 v.2.2.2.2.2.2.1,i6 v.2.2.2.2.2.2.2]]⟩
def q2ge (C:q2f9) (v:q2g8):Dt q2gc:=(Dt.ret (v.1,(v.1!=(0:Int)),v.2.1,v.2.2.1,v.2.2.2.1,v.2.2.2.2.1,v.2.2.2.2.2.1,v.2.2.2.2.2.2))
theorem q2gf C v:q40d (regO (qcy f28) 9) false (an [4,9,10,11,43]) q2g9 q2ge q2gd C v:=rgI (by kernel_rfl)
def q2gg (C:q2f9) (v:q2gc):Dt q2fq:=(Dt.ret (v.1,(0:Int),(0:Int)))
theorem q2gh C v:q40d (regO (qcy f28) 10) false (an [4,5]) q2gd q2gg q2fr C v:=rgI (by kernel_rfl)
def q2gi (C:q2f9) (v:q2gc):Dt q2fq:=(Dt.bnd (C.2.1 ((v.2.2.2.2.1,v.2.2.2.2.2.1,()),(v.2.2.2.2.2.2.1,v.2.2.2.2.2.2.2,()),())) fun r1=>(Dt.ret (r1.2.2,r1.1,r1.2.1)))
theorem q2gj C v:q40d (regO (qcy f28) 11) false (an [4,5]) q2gd q2gi q2fr C v:=rgI (by kernel_rfl)
def q2gk (d:Nat) (x:q2f5):Option q2f6 :=
 (q2fg (q2fa d) (x.1.1,x.2.1.1,x.2.1.2.1)).eval fun y0 =>
 (q2fk (q2fa d) y0).eval fun y1 =>
 (q2fo (q2fa d) y1).eval fun y2 =>
 bif y2.2.1 then ((q2fs (q2fa d) y2).eval fun y3 =>
 some (y3.2.1,y3.2.2,y3.1)) else ((q2fw (q2fa d) y2).eval fun y4 =>
 (q2g0 (q2fa d) y4).eval fun y5 =>
 (q2g4 (q2fa d) y5).eval fun y6 =>
 bif y6.2.1 then ((q2g6 (q2fa d) y6).eval fun y7 =>
 some (y7.2.1,y7.2.2,y7.1)) else ((q2ga (q2fa d) y6).eval fun y8 =>
 (q2ge (q2fa d) y8).eval fun y9 =>
 bif y9.2.1 then ((q2gg (q2fa d) y9).eval fun y10 =>
 some (y10.2.1,y10.2.2,y10.1)) else ((q2gi (q2fa d) y9).eval fun y11 =>
 some (y11.2.1,y11.2.2,y11.1))))
theorem q2gl (d:Nat):COK prog (q2f8 (q2gk d)):=by
 have hm:prog.follows .mixedOrders=true:=qjt
 have hT:=tys
 have hC0:OrcOK prog (orc (q2fb (q2fa d))):=qcs (by
  intro S hS
  simp only [q2fb,List.mem_cons,List.not_mem_nil,or_false] at hS
  rcases hS with rfl | rfl | rfl | rfl
  · exact q1rw d
  · exact q1p9 d
  · exact q2d9 d
  · exact q2e5 d)
 have hC:OrcOK prog (orc (q2fb (q2fa d))):=hC0
 refine q8e (c:=qcy f28) (fn:=f28) hT (by kernel_rfl) (by kernel_rfl) (by decide) fun x r h w0 φ0 Q hend=>?_
 replace h:q2gk d x=some r:=h
 unfold q2gk at h
 show Run prog w0 φ0 51 (qcy f28) ⟨[(0,.agg [.fz Riii x.1.1]),(1,.agg [.int .i64 x.2.1.1,.int .i64 x.2.1.2.1])],[]⟩ Q
 refine q3yx hm hT hC (q2fh (q2fa d) (x.1.1,x.2.1.1,x.2.1.2.1)) h fun y0 h=>?_
 refine q7y ?_
 refine q3yx hm hT hC (q2fl (q2fa d) y0) h fun y1 h=>?_
 refine q3yx hm hT hC (q2fp (q2fa d) y1) h fun y2 h=>?_
 refine q82 (v:=y2.2.1) (by kernel_rfl) h ?_ ?_
 ·
  intro h
  refine q3yx hm hT hC (q2ft (q2fa d) y2) h fun y3 h=>?_
  refine q7x (q7m ?_)
  cases h
  exact (hend _ (by kernel_rfl)).2
 ·
  intro h
  refine q7u (q7k ?_)
  refine q3yx hm hT hC (q2fx (q2fa d) y2) h fun y4 h=>?_
  refine q3yx hm hT hC (q2g1 (q2fa d) y4) h fun y5 h=>?_
  refine q7y ?_
  refine q3yx hm hT hC (q2g5 (q2fa d) y5) h fun y6 h=>?_
  refine q82 (v:=y6.2.1) (by kernel_rfl) h ?_ ?_
  ·
   intro h
   refine q3yx hm hT hC (q2g7 (q2fa d) y6) h fun y7 h=>?_
   refine q7x (q7m ?_)
   cases h
   exact (hend _ (by kernel_rfl)).2
  ·
   intro h
   refine q7u (q7k ?_)
   refine q3yx hm hT hC (q2gb (q2fa d) y6) h fun y8 h=>?_
   refine q7y ?_
   refine q3yx hm hT hC (q2gf (q2fa d) y8) h fun y9 h=>?_
   refine q82 (v:=y9.2.1) (by kernel_rfl) h ?_ ?_
   ·
    intro h
    refine q3yx hm hT hC (q2gh (q2fa d) y9) h fun y10 h=>?_
    refine q7x (q7m ?_)
    cases h
    exact (hend _ (by kernel_rfl)).2
   ·
    intro h
    refine q7u (q7k ?_)
    refine q3yx hm hT hC (q2gj (q2fa d) y9) h fun y11 h=>?_
    refine q7x ?_
    cases h
    exact (hend _ (by kernel_rfl)).2
abbrev q2gm:List Pk:=[.row qjb true,.row Rii true]
abbrev q2gn:Type:=qjc×Dii×Unit
abbrev q2go:Type:=Int×Int
def q2gp (r:q2go):LV×List Ob:=(.tup [.int .i64 r.1,.int .i64 r.2],[])
def q2gq (F:q2gn→Option q2go):Go.Tx.Spec:=⟨30,q2gm,q2go,F,q2gp⟩
abbrev q2gr:Type:=(q2cb→Option q2cc)×(q2db→Option q2dc)×Unit
def q2gs (d:Nat):q2gr:=(q2d8 d,q2e4 d,())
def q2gt (C:q2gr):List Go.Tx.Spec:=[q2ce C.1,q2de C.2.1]
abbrev q2gu:Type:=List Diii×Int×Int
def q2gv (v:q2gu):St:=⟨[(0,.agg [.fz Riii v.1]),(1,.agg [i6 v.2.1,i6 v.2.2])],[]⟩
abbrev q2gw:Type:=List Diii×Int×Int
def q2gx (v:q2gw):St:=⟨[(2,.ptr 0 0),(3,.ptr 1 0)],[.cells [.fz Riii v.1],.cells [i6 v.2.1,i6 v.2.2]]⟩
def q2gy (C:q2gr) (v:q2gu):Dt q2gw:=(Dt.ret (v.1,v.2.1,v.2.2))
abbrev q40e {V Y:Type}:=@rg q2gr V Y tysT (fun C=>(orc (q2gt C))) 27
theorem q2gz C v:q40e (regO (qcy f30) 0) false [(2,(.box [.val Riii])),(3,.any)] q2gv q2gy q2gx C v:=rgI (by kernel_rfl)
abbrev q2h0:Type:=Int×List Diii×Int×Int
def q2h1 (v:q2h0):St:=⟨[(2,.ptr 0 0),(3,.ptr 1 0),(6,i6 v.1)],[.cells [.fz Riii v.2.1],.cells [i6 v.2.2.1,i6 v.2.2.2]]⟩
def q2h2 (C:q2gr) (v:q2gw):Dt q2h0:=(Dt.bnd (C.1 ((v.1,()),(v.2.1,v.2.2,()),(v.2.1,v.2.2,()),())) fun r1=>(Dt.ret (r1,v.1,v.2.1,v.2.2)))
theorem q2h3 C v:q40e (regO (qcy f30) 1) false [(2,(.box [.val Riii])),(3,.any),(6,.any)] q2gx q2h2 q2h1 C v:=rgI (by kernel_rfl)
abbrev q2h4:Type:=Int×Bool×List Diii×Int×Int
def q2h5 (v:q2h4):St:=⟨[(2,.ptr 0 0),(3,.ptr 1 0),(6,i6 v.1),(14,.bool v.2.1)],[.cells [.fz Riii v.2.2.1],.cells [i6 v.2.2.2.1,i6 v.2.2.2.2]]⟩
def q2h6 (C:q2gr) (v:q2h0):Dt q2h4:=(Dt.ret (v.1,(v.1!=(0:Int)),v.2.1,v.2.2.1,v.2.2.2))
theorem q2h7 C v:q40e (regO (qcy f30) 2) false [(2,(.box [.val Riii])),(3,.any),(6,.any),(14,.any)] q2h1 q2h6 q2h5 C v:=rgI (by kernel_rfl)
abbrev q2h8:Type:=Int×Int
def q2h9 (v:q2h8):St:=⟨[(4,i6 v.1),(5,i6 v.2)],[]⟩
def q2ha (C:q2gr) (v:q2h4):Dt q2h8:=(Dt.ret ((0:Int),v.1))
theorem q2hb C v:q40e (regO (qcy f30) 3) false (an [4,5]) q2h5 q2ha q2h9 C v:=rgI (by kernel_rfl)
abbrev q2hc:Type:=Int×Int×Int×Int×Int×Int
def q2hd (v:q2hc):St:=⟨[(7,.ptr 0 0),(8,.ptr 1 0)],[.cells [i6 v.1,i6 v.2.1,i6 v.2.2.1],.cells [i6 v.2.2.2.1,i6 v.2.2.2.2.1,i6 v.2.2.2.2.2]]⟩
def q2he (C:q2gr) (v:q2h4):Dt q2hc:=(Dt.bnd (C.2.1 ((v.2.2.1,()),(v.2.2.2.1,v.2.2.2.2,()),())) fun r1=>(Dt.ret (r1.1,r1.2.1,r1.2.2.1,r1.2.2.2.1,r1.2.2.2.2.1,r1.2.2.2.2.2)))
theorem q2hf C v:q40e (regO (qcy f30) 4) false (an [7,8]) q2h5 q2he q2hd C v:=rgI (by kernel_rfl)
def q2hg (C:q2gr) (v:q2hc):Dt q2h8:=(Dt.ret ((IntKind.wrap .i64 (v.2.2.1 - v.2.2.2.2.2)),(0:Int)))
theorem q2hh C v:q40e (regO (qcy f30) 5) false (an [4,5]) q2hd q2hg q2h9 C v:=rgI (by kernel_rfl)
def q2hi (d:Nat) (x:q2gn):Option q2go :=
 (q2gy (q2gs d) (x.1.1,x.2.1.1,x.2.1.2.1)).eval fun y0 =>
 (q2h2 (q2gs d) y0).eval fun y1 =>
 (q2h6 (q2gs d) y1).eval fun y2 =>
 bif y2.2.1 then ((q2ha (q2gs d) y2).eval fun y3 =>
 some y3) else ((q2he (q2gs d) y2).eval fun y4 =>
 (q2hg (q2gs d) y4).eval fun y5 =>
 some y5)
theorem q2hj (d:Nat):COK prog (q2gq (q2hi d)):=by
 have hm:prog.follows .mixedOrders=true:=qjt
 have hT:=tys
 have hC0:OrcOK prog (orc (q2gt (q2gs d))):=qcs (by
  intro S hS
  simp only [q2gt,List.mem_cons,List.not_mem_nil,or_false] at hS
  rcases hS with rfl | rfl
  · exact q2d9 d
  · exact q2e5 d)
 have hC:OrcOK prog (orc (q2gt (q2gs d))):=hC0
 refine q8e (c:=qcy f30) (fn:=f30) hT (by kernel_rfl) (by kernel_rfl) (by decide) fun x r h w0 φ0 Q hend=>?_
 replace h:q2hi d x=some r:=h
 unfold q2hi at h
 show Run prog w0 φ0 27 (qcy f30) ⟨[(0,.agg [.fz Riii x.1.1]),(1,.agg [.int .i64 x.2.1.1,.int .i64 x.2.1.2.1])],[]⟩ Q
 refine q3yx hm hT hC (q2gz (q2gs d) (x.1.1,x.2.1.1,x.2.1.2.1)) h fun y0 h=>?_
 refine q7y ?_
 refine q3yx hm hT hC (q2h3 (q2gs d) y0) h fun y1 h=>?_
 refine q3yx hm hT hC (q2h7 (q2gs d) y1) h fun y2 h=>?_
 refine q82 (v:=y2.2.1) (by kernel_rfl) h ?_ ?_
 ·
  intro h
  refine q3yx hm hT hC (q2hb (q2gs d) y2) h fun y3 h=>?_
  refine q7x (q7m ?_)
  cases h
  exact (hend _ (by kernel_rfl)).2
 ·
  intro h
  refine q7u (q7k ?_)
  refine q3yx hm hT hC (q2hf (q2gs d) y2) h fun y4 h=>?_
  refine q3yx hm hT hC (q2hh (q2gs d) y4) h fun y5 h=>?_
  refine q7x ?_
  cases h
  exact (hend _ (by kernel_rfl)).2
abbrev q2hk:List Pk:=[.row qjb true,.row Rii true,.row Rii true]
abbrev q2hl:Type:=qjc×Dii×Dii×Unit
abbrev q2hm:Type:=List Diii
def q2hn (r:q2hm):LV×List Ob:=(.rs 0,[.rows Riii r])
def q2ho (F:q2hl→Option q2hm):Go.Tx.Spec:=⟨80,q2hk,q2hm,F,q2hn⟩
abbrev q2hp:Type:=(q2al→Option q2am)×(q2gn→Option q2go)×Unit
def q2hq (d:Nat):q2hp:=(q2bk d,q2hi d,())
def q2hr (C:q2hp):List Go.Tx.Spec:=[q2ao C.1,q2gq C.2.1]
abbrev q2hs:Type:=List Diii×Int×Int×Int×Int
def q2ht (v:q2hs):St:=⟨[(0,.agg [.fz Riii v.1]),(1,.agg [i6 v.2.1,i6 v.2.2.1]),(2,.agg [i6 v.2.2.2.1,i6 v.2.2.2.2])],[]⟩
abbrev q2hu:Type:=List Diii×Int×Int×Int×Int
def q2hv (v:q2hu):St:=⟨[(3,.ptr 0 0),(4,.ptr 1 0),(5,.ptr 2 0)],[.cells [.fz Riii v.1],.cells [i6 v.2.1,i6 v.2.2.1],.cells [i6 v.2.2.2.1,i6 v.2.2.2.2]]⟩
def q2hw (C:q2hp) (v:q2hs):Dt q2hu:=(Dt.ret (v.1,v.2.1,v.2.2.1,v.2.2.2.1,v.2.2.2.2))
abbrev q40f {V Y:Type}:=@rg q2hp V Y tysT (fun C=>(orc (q2hr C))) 64
theorem q2hx C v:q40f (regO (qcy f80) 0) false [(3,(.box [.val Riii])),(4,.any),(5,.any)] q2ht q2hw q2hv C v:=rgI (by kernel_rfl)
abbrev q2hy:Type:=Int×List Diii×Int×Int×Int×Int
def q2hz (v:q2hy):St:=⟨[(3,.ptr 0 0),(4,.ptr 1 0),(5,.ptr 2 0),(7,i6 v.1)],[.cells [.fz Riii v.2.1],.cells [i6 v.2.2.1,i6 v.2.2.2.1],.cells [i6 v.2.2.2.2.1,i6 v.2.2.2.2.2]]⟩
def q2i0 (C:q2hp) (v:q2hu):Dt q2hy:=(Dt.bnd (C.2.1 ((v.1,()),(v.2.1,v.2.2.1,()),())) fun r1=>(Dt.ret (r1.1,v.1,v.2.1,v.2.2.1,v.2.2.2.1,v.2.2.2.2)))
theorem q2i1 C v:q40f (regO (qcy f80) 1) false [(3,(.box [.val Riii])),(4,.any),(5,.any),(7,.any)] q2hv q2i0 q2hz C v:=rgI (by kernel_rfl)
abbrev q2i2:Type:=List Diii×Int×Int×Int×Int×List Diii
def q2i3 (v:q2i2):St:=⟨[(3,.ptr 0 0),(4,.ptr 1 0),(5,.ptr 2 0),(9,.rs 3)],[.cells [.fz Riii v.1],.cells [i6 v.2.1,i6 v.2.2.1],.cells [i6 v.2.2.2.1,i6 v.2.2.2.2.1],.rows Riii v.2.2.2.2.2]⟩
def q2i4 (C:q2hp) (v:q2hy):Dt q2i2:=(Dt.ret (v.2.1,v.2.2.1,v.2.2.2.1,v.2.2.2.2.1,v.2.2.2.2.2,([(v.2.2.1,v.2.2.2.1,v.1,())]:List Diii)))
theorem q2i5 C v:q40f (regO (qcy f80) 2) false [(3,(.box [.val Riii])),(4,.any),(5,.any),(9,(.own Riii))] q2hz q2i4 q2i3 C v:=rgI (by kernel_rfl)
abbrev q2i6:Type:=List qjf×List Diii×List Diii
def q2i7 (v:q2i6):St:=⟨[(3,.ptr 0 0),(9,.rs 1),(10,.fz qje v.1)],[.cells [.fz Riii v.2.1],.rows Riii v.2.2]⟩
def q2i8 (C:q2hp) (v:q2i2):Dt q2i6:=(Dt.bnd (C.1 ((v.1,()),(v.2.1,v.2.2.1,()),(v.2.2.2.1,v.2.2.2.2.1,()),())) fun r1=>(Dt.ret (r1.1,v.1,v.2.2.2.2.2)))
theorem q2i9 C v:q40f (regO (qcy f80) 3) false [(3,(.box [.val Riii])),(9,(.own Riii)),(10,(.val qje))] q2i3 q2i8 q2i7 C v:=rgI (by kernel_rfl)
abbrev q2ia:Type:=List qjf×Int×Int×List Diii×List Diii
def q2ib (v:q2ia):St:=⟨[(3,.ptr 0 0),(9,.rs 1),(33,.fz qje v.1),(34,i6 v.2.1),(35,i6 v.2.2.1)],[.cells [.fz Riii v.2.2.2.1],.rows Riii v.2.2.2.2]⟩
def q2ic (C:q2hp) (v:q2i6):Dt q2ia:=(Dt.ret (v.1,(List.length v.1:Int),(0:Int),v.2.1,v.2.2))
theorem q2id C v:q40f (regO (qcy f80) 4) false [(3,(.box [.val Riii])),(9,(.own Riii)),(33,(.val qje)),(34,.any),(35,.any)] q2i7 q2ic q2ib C v:=rgI (by kernel_rfl)
abbrev q2ie:Type:=List qjf×Int×Int×Bool×List Diii×List Diii
def q2if (v:q2ie):St:=⟨[(3,.ptr 0 0),(9,.rs 1),(33,.fz qje v.1),(34,i6 v.2.1),(35,i6 v.2.2.1),(36,.bool v.2.2.2.1)],[.cells [.fz Riii v.2.2.2.2.1],.rows Riii v.2.2.2.2.2]⟩
def q2ig (C:q2hp) (v:q2ia):Dt q2ie:=(Dt.ret (v.1,v.2.1,v.2.2.1,(decide (v.2.2.1<v.2.1)),v.2.2.2.1,v.2.2.2.2))
theorem q2ih C v:q40f (regO (qcy f80) 5) false [(3,(.box [.val Riii])),(9,(.own Riii)),(33,(.val qje)),(34,.any),(35,.any),(36,.any)] q2ib q2ig q2if C v:=rgI (by kernel_rfl)
abbrev q2ii:Type:=List qjf×Int×Int×List Diii×List Diii×Int×Int×Int×Int
def q2ij (v:q2ii):St:=⟨[(3,.ptr 0 0),(9,.rs 1),(13,.ptr 2 0),(33,.fz qje v.1),(34,i6 v.2.1),(35,i6 v.2.2.1)],[.cells [.fz Riii v.2.2.2.1],.rows Riii v.2.2.2.2.1,.cells [i6 v.2.2.2.2.2.1,i6 v.2.2.2.2.2.2.1,i6 v.2.2.2.2.2.2.2.1,i6 v.2.2.2.2.2.2.2.2]]⟩
def q2ik (C:q2hp) (v:q2ie):Dt q2ii:=(Dt.ite (inB v.2.2.1 (List.length v.1)) (Dt.ret (v.1,v.2.1,v.2.2.1,v.2.2.2.2.1,v.2.2.2.2.2,(elt qjg v.1 (v.2.2.1).toNat).1,(elt qjg v.1 (v.2.2.1).toNat).2.1,(elt qjg v.1 (v.2.2.1).toNat).2.2.1,(elt qjg v.1 (v.2.2.1).toNat).2.2.2.1)) Dt.fail)
theorem q2il C v:q40f (regO (qcy f80) 6) false [(3,(.box [.val Riii])),(9,(.own Riii)),(13,.any),(33,(.val qje)),(34,.any),(35,.any)] q2if q2ik q2ij C v:=rgI (by kernel_rfl)
abbrev q2im:Type:=Int×List qjf×Int×Int×List Diii×List Diii×Int×Int×Int×Int
def q2in (v:q2im):St:=⟨[(3,.ptr 0 0),(9,.rs 1),(13,.ptr 2 0),(14,i6 v.1),(33,.fz qje v.2.1),(34,i6 v.2.2.1),(35,i6 v.2.2.2.1)],[.cells [.fz Riii v.2.2.2.2.1],.rows Riii v.2.2.2.2.2.1,.cells [i6 v.2.2.2.2.2.2.1,i6 v.2.2.2.2.2.2.2.1,i6 v.2.2.2.2.2.2.2.2.1,i6 v.2.2.2.2.2.2.2.2.2]]⟩
def q2io (C:q2hp) (v:q2ii):Dt q2im:=(Dt.bnd (C.2.1 ((v.2.2.2.1,()),(v.2.2.2.2.2.1,v.2.2.2.2.2.2.1,()),())) fun r1=>(Dt.ret (r1.1,v.1,v.2.1,v.2.2.1,v.2.2.2.1,v.2.2.2.2.1,v.2.2.2.2.2.1,v.2.2.2.2.2.2.1,v.2.2.2.2.2.2.2.1,v.2.2.2.2.2.2.2.2)))
theorem q2ip C v:q40f (regO (qcy f80) 7) false [(3,(.box [.val Riii])),(9,(.own Riii)),(13,.any),(14,.any),(33,(.val qje)),(34,.any),(35,.any)] q2ij q2io q2in C v:=rgI (by kernel_rfl)
abbrev q2iq:Type:=Int×List qjf×Int×Int×Bool×List Diii×List Diii×Int×Int×Int×Int
def q2ir (v:q2iq):St:=⟨[(3,.ptr 0 0),(9,.rs 1),(13,.ptr 2 0),(14,i6 v.1),(33,.fz qje v.2.1),(34,i6 v.2.2.1),(35,i6 v.2.2.2.1),(54,.bool v.2.2.2.2.1)],[.cells [.fz Riii v.2.2.2.2.2.1],.rows Riii v.2.2.2.2.2.2.1,.cells [i6 v.2.2.2.2.2.2.2.1,i6 v.2.2.2.2.2.2.2.2.1,i6 v.2.2.2.2.2.2.2.2.2.1,i6 v.2.2.2.2.2.2.2.2.2.2]]⟩
def q2is (C:q2hp) (v:q2im):Dt q2iq:=(Dt.ite (inB (IntKind.wrap .i64 ((List.length v.2.2.2.2.2.1:Int) - (1:Int))) (List.length v.2.2.2.2.2.1)) (Dt.ret (v.1,v.2.1,v.2.2.1,v.2.2.2.1,(v.1!=(elt ziii v.2.2.2.2.2.1 ((IntKind.wrap .i64 ((List.length v.2.2.2.2.2.1:Int) - (1:Int)))).toNat).2.2.1),v.2.2.2.2.1,v.2.2.2.2.2.1,v.2.2.2.2.2.2.1,v.2.2.2.2.2.2.2.1,v.2.2.2.2.2.2.2.2.1,v.2.2.2.2.2.2.2.2.2)) Dt.fail)
theorem q2it C v:q40f (regO (qcy f80) 8) false [(3,(.box [.val Riii])),(9,(.own Riii)),(13,.any),(14,.any),(33,(.val qje)),(34,.any),(35,.any),(54,.any)] q2in q2is q2ir C v:=rgI (by kernel_rfl)
def q2iu (C:q2hp) (v:q2iq):Dt q2ia:=(Dt.ite (apB (List.length v.2.2.2.2.2.2.1) (List.length ([(v.2.2.2.2.2.2.2.1,v.2.2.2.2.2.2.2.2.1,v.1,())]:List Diii))) (Dt.ret (v.2.1,v.2.2.1,v.2.2.2.1,v.2.2.2.2.2.1,(v.2.2.2.2.2.2.1++([(v.2.2.2.2.2.2.2.1,v.2.2.2.2.2.2.2.2.1,v.1,())]:List Diii)))) Dt.fail)
theorem q2iv C v:q40f (regO (qcy f80) 9) false [(3,(.box [.val Riii])),(9,(.own Riii)),(33,(.val qje)),(34,.any),(35,.any)] q2ir q2iu q2ib C v:=rgI (by kernel_rfl)
def q2iw (C:q2hp) (v:q2ia):Dt q2ia:=(Dt.ret (v.1,v.2.1,(IntKind.wrap .i64 (v.2.2.1+(1:Int))),v.2.2.2.1,v.2.2.2.2))
theorem q2ix C v:q40f (regO (qcy f80) 10) false [(3,(.box [.val Riii])),(9,(.own Riii)),(33,(.val qje)),(34,.any),(35,.any)] q2ib q2iw q2ib C v:=rgI (by kernel_rfl)
def q2iy  (d:Nat) (self1:(List qjf×Int×Int×List Diii×List Diii)→Option q2hm) (z:List qjf×Int×Int×List Diii×List Diii):Option (q2hm) :=
 (q2iw (q2hq d) z).eval fun y10 =>
 self1 y10
abbrev q2iz:Type:=List Diii
def q2j0 (v:q2iz):St:=⟨[(6,.rs 0)],[.rows Riii v]⟩
def q2j1 (C:q2hp) (v:q2ie):Dt q2iz:=(Dt.ret v.2.2.2.2.2)
theorem q2j2 C v:q40f (regO (qcy f80) 11) false [(6,(.own Riii))] q2if q2j1 q2j0 C v:=rgI (by kernel_rfl)
def q2j3 (d:Nat) (self1:(List qjf×Int×Int×List Diii×List Diii)→Option q2hm) (x1:List qjf×Int×Int×List Diii×List Diii):Option q2hm :=
 (q2ig (q2hq d) x1).eval fun y5 =>
 bif y5.2.2.2.1 then ((q2ik (q2hq d) y5).eval fun y6 =>
 (q2io (q2hq d) y6).eval fun y7 =>
 (q2is (q2hq d) y7).eval fun y8 =>
 bif y8.2.2.2.2.1 then ((q2iu (q2hq d) y8).eval fun y9 =>
 q2iy d self1 y9) else (q2iy d self1 (y8.2.1,y8.2.2.1,y8.2.2.2.1,y8.2.2.2.2.2.1,y8.2.2.2.2.2.2.1))) else ((q2j1 (q2hq d) y5).eval fun y11 =>
 some y11)
def q2j4 (d:Nat) (x:q2hl):Option q2hm :=
 (q2hw (q2hq d) (x.1.1,x.2.1.1,x.2.1.2.1,x.2.2.1.1,x.2.2.1.2.1)).eval fun y0 =>
 (q2i0 (q2hq d) y0).eval fun y1 =>
 (q2i4 (q2hq d) y1).eval fun y2 =>
 (q2i8 (q2hq d) y2).eval fun y3 =>
 (q2ic (q2hq d) y3).eval fun y4 =>
 iter (q2j3 d ) d y4
theorem q2j5 (d:Nat):COK prog (q2ho (q2j4 d)):=by
 have hm:prog.follows .mixedOrders=true:=qjt
 have hT:=tys
 have hC0:OrcOK prog (orc (q2hr (q2hq d))):=qcs (by
  intro S hS
  simp only [q2hr,List.mem_cons,List.not_mem_nil,or_false] at hS
  rcases hS with rfl | rfl
  · exact q2bl d
  · exact q2hj d)
 have hC:OrcOK prog (orc (q2hr (q2hq d))):=hC0
 refine q8e (c:=qcy f80) (fn:=f80) hT (by kernel_rfl) (by kernel_rfl) (by decide) fun x r h w0 φ0 Q hend=>?_
 replace h:q2j4 d x=some r:=h
 unfold q2j4 at h
 show Run prog w0 φ0 64 (qcy f80) ⟨[(0,.agg [.fz Riii x.1.1]),(1,.agg [.int .i64 x.2.1.1,.int .i64 x.2.1.2.1]),(2,.agg [.int .i64 x.2.2.1.1,.int .i64 x.2.2.1.2.1])],[]⟩ Q
 refine q3yx hm hT hC (q2hx (q2hq d) (x.1.1,x.2.1.1,x.2.1.2.1,x.2.2.1.1,x.2.2.1.2.1)) h fun y0 h=>?_
 refine q3yx hm hT hC (q2i1 (q2hq d) y0) h fun y1 h=>?_
 refine q3yx hm hT hC (q2i5 (q2hq d) y1) h fun y2 h=>?_
 refine q3yx hm hT hC (q2i9 (q2hq d) y2) h fun y3 h=>?_
 refine q7y ?_
 refine q3yx hm hT hC (q2id (q2hq d) y3) h fun y4 h=>?_
 refine q7z ?_
 refine q84 (G:=iter (q2j3 d )) (S:=(fun x1=>⟨[(3,.ptr 0 0),(9,.rs 1),(33,.fz qje x1.1),(34,i6 x1.2.1),(35,i6 x1.2.2.1)],[.cells [.fz Riii x1.2.2.2.1],.rows Riii x1.2.2.2.2]⟩:List qjf×Int×Int×List Diii×List Diii→St)) (fun _=>rfl) ?_ d _ h
 intro n1 x1 h K1 hn1
 replace h:q2j3 d  (iter (q2j3 d ) n1) x1=some r:=h
 generalize iter (q2j3 d ) n1=self1 at h hn1
 unfold q2j3 at h
 refine q3yx hm hT hC (q2ih (q2hq d) x1) h fun y5 h=>?_
 refine q7y ?_
 refine q82 (v:=y5.2.2.2.1) (by kernel_rfl) h ?_ ?_
 ·
  intro h
  refine q7u (q7k ?_)
  refine q81 (r:=r) (F:=q2iy d self1) (S:=(fun z=>⟨[(3,.ptr 0 0),(9,.rs 1),(33,.fz qje z.1),(34,i6 z.2.1),(35,i6 z.2.2.1)],[.cells [.fz Riii z.2.2.2.1],.rows Riii z.2.2.2.2]⟩:List qjf×Int×Int×List Diii×List Diii→St)) ?_ ?_
  ·
   intro z h
   unfold q2iy at h
   refine q83 hm hT hC (q2ix (q2hq d) z) h ?_
   intro y10 h
   exact hn1 _ h
  intro hj2
  refine q7z ?_
  refine q3yx hm hT hC (q2il (q2hq d) y5) h fun y6 h=>?_
  refine q3yx hm hT hC (q2ip (q2hq d) y6) h fun y7 h=>?_
  refine q3yx hm hT hC (q2it (q2hq d) y7) h fun y8 h=>?_
  refine q82 (v:=y8.2.2.2.2.1) (by kernel_rfl) h ?_ ?_
  ·
   intro h
   refine q83 hm hT hC (q2iv (q2hq d) y8) h ?_
   intro y9 h
   refine q7n ?_
   exact hj2 _ h
  ·
   intro h
   refine q7u (q7n ?_)
   refine qcx (s:=⟨[(3,.ptr 0 0),(9,.rs 1),(33,.fz qje y8.2.1),(34,.int .i64 y8.2.2.1),(35,.int .i64 y8.2.2.2.1)],[.cells [.fz Riii y8.2.2.2.2.2.1],.rows Riii y8.2.2.2.2.2.2.1]⟩) [13,14,54] (by kernel_rfl) ?_
   exact hj2 _ h
 ·
  intro h
  refine q7w (q7l (q7l (q7p (q7k ?_))))
  refine q3yx hm hT hC (q2j2 (q2hq d) y5) h fun y11 h=>?_
  refine q7x ?_
  cases h
  exact (hend _ (by kernel_rfl)).2
abbrev q2j6:List Pk:=[.row qjb true,.row Rii true,.row Rii true]
abbrev q2j7:Type:=qjc×Dii×Dii×Unit
abbrev q2j8:Type:=List Dii×Int
def q2j9 (r:q2j8):LV×List Ob:=(.tup [.rs 0,.int .i64 r.2],[.rows Rii r.1])
def q2ja (F:q2j7→Option q2j8):Go.Tx.Spec:=⟨32,q2j6,q2j8,F,q2j9⟩
abbrev q2jb:Type:=(q2cb→Option q2cc)×(q2hl→Option q2hm)×Unit
def q2jc (d:Nat):q2jb:=(q2d8 d,q2j4 d,())
def q2jd (C:q2jb):List Go.Tx.Spec:=[q2ce C.1,q2ho C.2.1]
abbrev q2je:Type:=List Diii×Int×Int×Int×Int
def q2jf (v:q2je):St:=⟨[(0,.agg [.fz Riii v.1]),(1,.agg [i6 v.2.1,i6 v.2.2.1]),(2,.agg [i6 v.2.2.2.1,i6 v.2.2.2.2])],[]⟩
abbrev q2jg:Type:=List Diii×Int×Int×Int×Int
def q2jh (v:q2jg):St:=⟨[(3,.ptr 0 0),(4,.ptr 1 0),(5,.ptr 2 0)],[.cells [.fz Riii v.1],.cells [i6 v.2.1,i6 v.2.2.1],.cells [i6 v.2.2.2.1,i6 v.2.2.2.2]]⟩
def q2ji (C:q2jb) (v:q2je):Dt q2jg:=(Dt.ret (v.1,v.2.1,v.2.2.1,v.2.2.2.1,v.2.2.2.2))
abbrev q40g {V Y:Type}:=@rg q2jb V Y tysT (fun C=>(orc (q2jd C))) 36
theorem q2jj C v:q40g (regO (qcy f32) 0) false [(3,(.box [.val Riii])),(4,.any),(5,.any)] q2jf q2ji q2jh C v:=rgI (by kernel_rfl)
abbrev q2jk:Type:=Int×List Diii×Int×Int×Int×Int
def q2jl (v:q2jk):St:=⟨[(3,.ptr 0 0),(4,.ptr 1 0),(5,.ptr 2 0),(8,i6 v.1)],[.cells [.fz Riii v.2.1],.cells [i6 v.2.2.1,i6 v.2.2.2.1],.cells [i6 v.2.2.2.2.1,i6 v.2.2.2.2.2]]⟩
def q2jm (C:q2jb) (v:q2jg):Dt q2jk:=(Dt.bnd (C.1 ((v.1,()),(v.2.1,v.2.2.1,()),(v.2.2.2.1,v.2.2.2.2,()),())) fun r1=>(Dt.ret (r1,v.1,v.2.1,v.2.2.1,v.2.2.2.1,v.2.2.2.2)))
theorem q2jn C v:q40g (regO (qcy f32) 1) false [(3,(.box [.val Riii])),(4,.any),(5,.any),(8,.any)] q2jh q2jm q2jl C v:=rgI (by kernel_rfl)
abbrev q2jo:Type:=Int×Bool×List Diii×Int×Int×Int×Int
def q2jp (v:q2jo):St:=⟨[(3,.ptr 0 0),(4,.ptr 1 0),(5,.ptr 2 0),(8,i6 v.1),(17,.bool v.2.1)],[.cells [.fz Riii v.2.2.1],.cells [i6 v.2.2.2.1,i6 v.2.2.2.2.1],.cells [i6 v.2.2.2.2.2.1,i6 v.2.2.2.2.2.2]]⟩
def q2jq (C:q2jb) (v:q2jk):Dt q2jo:=(Dt.ret (v.1,(v.1!=(0:Int)),v.2.1,v.2.2.1,v.2.2.2.1,v.2.2.2.2.1,v.2.2.2.2.2))
theorem q2jr C v:q40g (regO (qcy f32) 2) false [(3,(.box [.val Riii])),(4,.any),(5,.any),(8,.any),(17,.any)] q2jl q2jq q2jp C v:=rgI (by kernel_rfl)
abbrev q2js:Type:=Int×List Dii
def q2jt (v:q2js):St:=⟨[(6,.rs 0),(7,i6 v.1)],[.rows Rii v.2]⟩
def q2ju (C:q2jb) (v:q2jo):Dt q2js:=(Dt.ret (v.1,([]:List Dii)))
theorem q2jv C v:q40g (regO (qcy f32) 3) false [(6,(.own Rii)),(7,.any)] q2jp q2ju q2jt C v:=rgI (by kernel_rfl)
abbrev q2jw:Type:=List Diii×Int×Int×Int×Int×List Dii
def q2jx (v:q2jw):St:=⟨[(3,.ptr 0 0),(4,.ptr 1 0),(5,.ptr 2 0),(9,.rs 3)],[.cells [.fz Riii v.1],.cells [i6 v.2.1,i6 v.2.2.1],.cells [i6 v.2.2.2.1,i6 v.2.2.2.2.1],.rows Rii v.2.2.2.2.2]⟩
def q2jy (C:q2jb) (v:q2jo):Dt q2jw:=(Dt.ret (v.2.2.1,v.2.2.2.1,v.2.2.2.2.1,v.2.2.2.2.2.1,v.2.2.2.2.2.2,([]:List Dii)))
theorem q2jz C v:q40g (regO (qcy f32) 4) false [(3,(.box [.val Riii])),(4,.any),(5,.any),(9,(.own Rii))] q2jp q2jy q2jx C v:=rgI (by kernel_rfl)
abbrev q2k0:Type:=List Diii×Int×Int×List Dii
def q2k1 (v:q2k0):St:=⟨[(9,.rs 0),(23,.fz Riii v.1),(24,i6 v.2.1),(25,i6 v.2.2.1)],[.rows Rii v.2.2.2]⟩
def q2k2 (C:q2jb) (v:q2jw):Dt q2k0:=(Dt.bnd (C.2.1 ((v.1,()),(v.2.1,v.2.2.1,()),(v.2.2.2.1,v.2.2.2.2.1,()),())) fun r1=>(Dt.ite (decide (0≤(1:Int))&&decide ((1:Int)≤(List.length r1:Int))) (Dt.ret ((List.drop ((1:Int)).toNat r1),(List.length (List.drop ((1:Int)).toNat r1):Int),(0:Int),v.2.2.2.2.2)) Dt.fail))
theorem q2k3 C v:q40g (regO (qcy f32) 5) false [(9,(.own Rii)),(23,(.val Riii)),(24,.any),(25,.any)] q2jx q2k2 q2k1 C v:=rgI (by kernel_rfl)
abbrev q2k4:Type:=List Diii×Int×Int×Bool×List Dii
def q2k5 (v:q2k4):St:=⟨[(9,.rs 0),(23,.fz Riii v.1),(24,i6 v.2.1),(25,i6 v.2.2.1),(26,.bool v.2.2.2.1)],[.rows Rii v.2.2.2.2]⟩
def q2k6 (C:q2jb) (v:q2k0):Dt q2k4:=(Dt.ret (v.1,v.2.1,v.2.2.1,(decide (v.2.2.1<v.2.1)),v.2.2.2))
theorem q2k7 C v:q40g (regO (qcy f32) 6) false [(9,(.own Rii)),(23,(.val Riii)),(24,.any),(25,.any),(26,.any)] q2k1 q2k6 q2k5 C v:=rgI (by kernel_rfl)
abbrev q2k8:Type:=List Diii×Int×Int×List Dii×Int×Int×Int
def q2k9 (v:q2k8):St:=⟨[(9,.rs 0),(11,.ptr 1 0),(23,.fz Riii v.1),(24,i6 v.2.1),(25,i6 v.2.2.1)],[.rows Rii v.2.2.2.1,.cells [i6 v.2.2.2.2.1,i6 v.2.2.2.2.2.1,i6 v.2.2.2.2.2.2]]⟩
def q2ka (C:q2jb) (v:q2k4):Dt q2k8:=(Dt.ite (inB v.2.2.1 (List.length v.1)) (Dt.ret (v.1,v.2.1,v.2.2.1,v.2.2.2.2,(elt ziii v.1 (v.2.2.1).toNat).1,(elt ziii v.1 (v.2.2.1).toNat).2.1,(elt ziii v.1 (v.2.2.1).toNat).2.2.1)) Dt.fail)
theorem q2kb C v:q40g (regO (qcy f32) 7) false [(9,(.own Rii)),(11,.any),(23,(.val Riii)),(24,.any),(25,.any)] q2k5 q2ka q2k9 C v:=rgI (by kernel_rfl)
def q2kc (C:q2jb) (v:q2k8):Dt q2k0:=(Dt.ite (apB (List.length v.2.2.2.1) (List.length ([(v.2.2.2.2.1,v.2.2.2.2.2.1,())]:List Dii))) (Dt.ret (v.1,v.2.1,v.2.2.1,(v.2.2.2.1++([(v.2.2.2.2.1,v.2.2.2.2.2.1,())]:List Dii)))) Dt.fail)
theorem q2kd C v:q40g (regO (qcy f32) 8) false [(9,(.own Rii)),(23,(.val Riii)),(24,.any),(25,.any)] q2k9 q2kc q2k1 C v:=rgI (by kernel_rfl)
def q2ke (C:q2jb) (v:q2k0):Dt q2k0:=(Dt.ret (v.1,v.2.1,(IntKind.wrap .i64 (v.2.2.1+(1:Int))),v.2.2.2))
theorem q2kf C v:q40g (regO (qcy f32) 9) false [(9,(.own Rii)),(23,(.val Riii)),(24,.any),(25,.any)] q2k1 q2ke q2k1 C v:=rgI (by kernel_rfl)
def q2kg (C:q2jb) (v:q2k4):Dt q2js:=(Dt.ret ((0:Int),v.2.2.2.2))
theorem q2kh C v:q40g (regO (qcy f32) 10) false [(6,(.own Rii)),(7,.any)] q2k5 q2kg q2jt C v:=rgI (by kernel_rfl)
def q2ki (d:Nat) (self1:(List Diii×Int×Int×List Dii)→Option q2j8) (x1:List Diii×Int×Int×List Dii):Option q2j8 :=
 (q2k6 (q2jc d) x1).eval fun y6 =>
 bif y6.2.2.2.1 then ((q2ka (q2jc d) y6).eval fun y7 =>
 (q2kc (q2jc d) y7).eval fun y8 =>
 (q2ke (q2jc d) y8).eval fun y9 =>
 self1 y9) else ((q2kg (q2jc d) y6).eval fun y10 =>
 some (y10.2,y10.1))
def q2kj (d:Nat) (x:q2j7):Option q2j8 :=
 (q2ji (q2jc d) (x.1.1,x.2.1.1,x.2.1.2.1,x.2.2.1.1,x.2.2.1.2.1)).eval fun y0 =>
 (q2jm (q2jc d) y0).eval fun y1 =>
 (q2jq (q2jc d) y1).eval fun y2 =>
 bif y2.2.1 then ((q2ju (q2jc d) y2).eval fun y3 =>
 some (y3.2,y3.1)) else ((q2jy (q2jc d) y2).eval fun y4 =>
 (q2k2 (q2jc d) y4).eval fun y5 =>
 iter (q2ki d ) d y5)
theorem q2kk (d:Nat):COK prog (q2ja (q2kj d)):=by
 have hm:prog.follows .mixedOrders=true:=qjt
 have hT:=tys
 have hC0:OrcOK prog (orc (q2jd (q2jc d))):=qcs (by
  intro S hS
  simp only [q2jd,List.mem_cons,List.not_mem_nil,or_false] at hS
  rcases hS with rfl | rfl
  · exact q2d9 d
  · exact q2j5 d)
 have hC:OrcOK prog (orc (q2jd (q2jc d))):=hC0
 refine q8e (c:=qcy f32) (fn:=f32) hT (by kernel_rfl) (by kernel_rfl) (by decide) fun x r h w0 φ0 Q hend=>?_
 replace h:q2kj d x=some r:=h
 unfold q2kj at h
 show Run prog w0 φ0 36 (qcy f32) ⟨[(0,.agg [.fz Riii x.1.1]),(1,.agg [.int .i64 x.2.1.1,.int .i64 x.2.1.2.1]),(2,.agg [.int .i64 x.2.2.1.1,.int .i64 x.2.2.1.2.1])],[]⟩ Q
 refine q3yx hm hT hC (q2jj (q2jc d) (x.1.1,x.2.1.1,x.2.1.2.1,x.2.2.1.1,x.2.2.1.2.1)) h fun y0 h=>?_
 refine q7y ?_
 refine q3yx hm hT hC (q2jn (q2jc d) y0) h fun y1 h=>?_
 refine q3yx hm hT hC (q2jr (q2jc d) y1) h fun y2 h=>?_
 refine q82 (v:=y2.2.1) (by kernel_rfl) h ?_ ?_
 ·
  intro h
  refine q3yx hm hT hC (q2jv (q2jc d) y2) h fun y3 h=>?_
  refine q7x (q7m ?_)
  cases h
  exact (hend _ (by kernel_rfl)).2
 ·
  intro h
  refine q7u (q7k ?_)
  refine q3yx hm hT hC (q2jz (q2jc d) y2) h fun y4 h=>?_
  refine q7y ?_
  refine q3yx hm hT hC (q2k3 (q2jc d) y4) h fun y5 h=>?_
  refine q7z ?_
  refine q84 (G:=iter (q2ki d )) (S:=(fun x1=>⟨[(9,.rs 0),(23,.fz Riii x1.1),(24,i6 x1.2.1),(25,i6 x1.2.2.1)],[.rows Rii x1.2.2.2]⟩:List Diii×Int×Int×List Dii→St)) (fun _=>rfl) ?_ d _ h
  intro n1 x1 h K1 hn1
  replace h:q2ki d  (iter (q2ki d ) n1) x1=some r:=h
  generalize iter (q2ki d ) n1=self1 at h hn1
  unfold q2ki at h
  refine q3yx hm hT hC (q2k7 (q2jc d) x1) h fun y6 h=>?_
  refine q7y ?_
  refine q82 (v:=y6.2.2.2.1) (by kernel_rfl) h ?_ ?_
  ·
   intro h
   refine q7u (q7k (q7y (q7z ?_)))
   refine q3yx hm hT hC (q2kb (q2jc d) y6) h fun y7 h=>?_
   refine q83 hm hT hC (q2kd (q2jc d) y7) h ?_
   intro y8 h
   refine q7n (q7k ?_)
   refine q83 hm hT hC (q2kf (q2jc d) y8) h ?_
   intro y9 h
   exact hn1 _ h
  ·
   intro h
   refine q7w (q7l (q7l (q7p (q7k ?_))))
   refine q3yx hm hT hC (q2kh (q2jc d) y6) h fun y10 h=>?_
   refine q7x ?_
   cases h
   exact (hend _ (by kernel_rfl)).2
abbrev q2kl:List Pk:=[.row Riii true,.ref Ri]
abbrev q2km:Type:=Diii×Di×Unit
abbrev q2kn:Type:=Bool
def q2ko (r:q2kn):LV×List Ob:=(.bool r,[])
def q2kp (F:q2km→Option q2kn):Go.Tx.Spec:=⟨82,q2kl,q2kn,F,q2ko⟩
abbrev q2kq:Type:=Unit
def q2kr (_d:Nat):q2kq:=()
def q2ks (C:q2kq):List Go.Tx.Spec:=[]
abbrev q2kt:Type:=Int×Int×Int×Di
def q2ku (v:q2kt):St:=⟨[(0,.agg [i6 v.1,i6 v.2.1,i6 v.2.2.1]),(1,.fp Ri v.2.2.2 0)],[]⟩
abbrev q2kv:Type:=Di×Int×Int×Int
def q2kw (v:q2kv):St:=⟨[(1,.fp Ri v.1 0),(2,.ptr 0 0)],[.cells [i6 v.2.1,i6 v.2.2.1,i6 v.2.2.2]]⟩
def q2kx (C:q2kq) (v:q2kt):Dt q2kv:=(Dt.ret (v.2.2.2,v.1,v.2.1,v.2.2.1))
abbrev q40h {V Y:Type}:=@rg q2kq V Y tysT (fun C=>(orc (q2ks C))) 8
theorem q2ky C v:q40h (regO (qcy f82) 0) false (an [1,2]) q2ku q2kx q2kw C v:=rgI (by kernel_rfl)
abbrev q2kz:Type:=Bool
def q2l0 (v:q2kz):St:=⟨[(3,.bool v)],[]⟩
def q2l1 (C:q2kq) (v:q2kv):Dt q2kz:=(Dt.ret (decide (v.2.2.2≥v.1.1)))
theorem q2l2 C v:q40h (regO (qcy f82) 1) false [(3,.any)] q2kw q2l1 q2l0 C v:=rgI (by kernel_rfl)
def q2l3 (d:Nat) (x:q2km):Option q2kn :=
 (q2kx (q2kr d) (x.1.1,x.1.2.1,x.1.2.2.1,x.2.1)).eval fun y0 =>
 (q2l1 (q2kr d) y0).eval fun y1 =>
 some y1
theorem q2l4 (d:Nat):COK prog (q2kp (q2l3 d)):=by
 have hm:prog.follows .mixedOrders=true:=qjt
 have hT:=tys
 have hC0:OrcOK prog (orc (q2ks (q2kr d))):=qcs (by
  intro S hS
  simp only [q2ks,List.mem_cons,List.not_mem_nil,or_false] at hS
  all_goals first | cases hS | exact hS.elim)
 have hC:OrcOK prog (orc (q2ks (q2kr d))):=hC0
 refine q8e (c:=qcy f82) (fn:=f82) hT (by kernel_rfl) (by kernel_rfl) (by decide) fun x r h w0 φ0 Q hend=>?_
 replace h:q2l3 d x=some r:=h
 unfold q2l3 at h
 show Run prog w0 φ0 8 (qcy f82) ⟨[(0,.agg [.int .i64 x.1.1,.int .i64 x.1.2.1,.int .i64 x.1.2.2.1]),(1,.fp Ri x.2.1 0)],[]⟩ Q
 refine q3yx hm hT hC (q2ky (q2kr d) (x.1.1,x.1.2.1,x.1.2.2.1,x.2.1)) h fun y0 h=>?_
 refine q3yx hm hT hC (q2l2 (q2kr d) y0) h fun y1 h=>?_
 refine q7x ?_
 cases h
 exact (hend _ (by kernel_rfl)).2
abbrev q2l5:List Pk:=[.row qjb false,.fn 82 [Ri]]
abbrev q2l6:Type:=qjc×(Di×Unit)×Unit
abbrev q2l7:Type:=Int
def q2l8 (r:q2l7):LV×List Ob:=(.int .i64 r,[])
def q2l9 (F:q2l6→Option q2l7):Go.Tx.Spec:=⟨83,q2l5,q2l7,F,q2l8⟩
abbrev q2la:Type:=(q2km→Option q2kn)×Unit
def q2lb (d:Nat):q2la:=(q2l3 d,())
def q2lc (C:q2la):List Go.Tx.Spec:=[q2kp C.1]
abbrev q2ld:Type:=List Diii×Di
def q2le (v:q2ld):St:=⟨[(0,.fz Riii v.1),(1,.fn 82 [.fp Ri v.2 0])],[]⟩
def q2lf (C:q2la) (v:q2ld):Dt q2ld:=(Dt.ret (v.1,v.2))
abbrev q40i {V Y:Type}:=@rg q2la V Y tysT (fun C=>(orc (q2lc C))) 19
theorem q2lg C v:q40i (regO (qcy f83) 0) false [(0,(.val Riii)),(1,.any)] q2le q2lf q2le C v:=rgI (by kernel_rfl)
abbrev q2lh:Type:=List Diii×Di×Int×Int
def q2li (v:q2lh):St:=⟨[(0,.fz Riii v.1),(1,.fn 82 [.fp Ri v.2.1 0]),(7,i6 v.2.2.1),(8,i6 v.2.2.2)],[]⟩
def q2lj (C:q2la) (v:q2ld):Dt q2lh:=(Dt.ret (v.1,v.2,(List.length v.1:Int),(0:Int)))
theorem q2lk C v:q40i (regO (qcy f83) 1) false [(0,(.val Riii)),(1,.any),(7,.any),(8,.any)] q2le q2lj q2li C v:=rgI (by kernel_rfl)
abbrev q2ll:Type:=List Diii×Di×Int×Int×Bool
def q2lm (v:q2ll):St:=⟨[(0,.fz Riii v.1),(1,.fn 82 [.fp Ri v.2.1 0]),(7,i6 v.2.2.1),(8,i6 v.2.2.2.1),(9,.bool v.2.2.2.2)],[]⟩
def q2ln (C:q2la) (v:q2lh):Dt q2ll:=(Dt.ret (v.1,v.2.1,v.2.2.1,v.2.2.2,(decide (v.2.2.2<v.2.2.1))))
theorem q2lo C v:q40i (regO (qcy f83) 2) false [(0,(.val Riii)),(1,.any),(7,.any),(8,.any),(9,.any)] q2li q2ln q2lm C v:=rgI (by kernel_rfl)
abbrev q2lp:Type:=List Diii×Di×Int×Int×Int
def q2lq (v:q2lp):St:=⟨[(0,.fz Riii v.1),(1,.fn 82 [.fp Ri v.2.1 0]),(5,i6 v.2.2.1),(7,i6 v.2.2.2.1),(8,i6 v.2.2.2.2)],[]⟩
def q2lr (C:q2la) (v:q2ll):Dt q2lp:=(Dt.ret (v.1,v.2.1,v.2.2.2.1,v.2.2.1,v.2.2.2.1))
theorem q2ls C v:q40i (regO (qcy f83) 3) false [(0,(.val Riii)),(1,.any),(5,.any),(7,.any),(8,.any)] q2lm q2lr q2lq C v:=rgI (by kernel_rfl)
abbrev q2lt:Type:=List Diii×Di×Int×Int×Int×Bool
def q2lu (v:q2lt):St:=⟨[(0,.fz Riii v.1),(1,.fn 82 [.fp Ri v.2.1 0]),(5,i6 v.2.2.1),(7,i6 v.2.2.2.1),(8,i6 v.2.2.2.2.1),(16,.bool v.2.2.2.2.2)],[]⟩
def q2lv (C:q2la) (v:q2lp):Dt q2lt:=(Dt.ite (inB v.2.2.1 (List.length v.1)) (Dt.bnd (C.1 (((elt ziii v.1 (v.2.2.1).toNat).1,(elt ziii v.1 (v.2.2.1).toNat).2.1,(elt ziii v.1 (v.2.2.1).toNat).2.2.1,()),v.2.1,())) fun r1=>(Dt.ret (v.1,v.2.1,v.2.2.1,v.2.2.2.1,v.2.2.2.2,r1))) Dt.fail)
theorem q2lw C v:q40i (regO (qcy f83) 4) false [(0,(.val Riii)),(1,.any),(5,.any),(7,.any),(8,.any),(16,.any)] q2lq q2lv q2lu C v:=rgI (by kernel_rfl)
abbrev q2lx:Type:=Int
def q2ly (v:q2lx):St:=⟨[(4,i6 v)],[]⟩
def q2lz (C:q2la) (v:q2lt):Dt q2lx:=(Dt.ret v.2.2.1)
theorem q2m0 C v:q40i (regO (qcy f83) 5) false [(4,.any)] q2lu q2lz q2ly C v:=rgI (by kernel_rfl)
def q2m1 (C:q2la) (v:q2lt):Dt q2lh:=(Dt.ret (v.1,v.2.1,v.2.2.2.1,(IntKind.wrap .i64 (v.2.2.2.2.1+(1:Int)))))
theorem q2m2 C v:q40i (regO (qcy f83) 6) false [(0,(.val Riii)),(1,.any),(7,.any),(8,.any)] q2lu q2m1 q2li C v:=rgI (by kernel_rfl)
def q2m3 (C:q2la) (v:q2ll):Dt q2lx:=(Dt.ret (-1:Int))
theorem q2m4 C v:q40i (regO (qcy f83) 7) false [(4,.any)] q2lm q2m3 q2ly C v:=rgI (by kernel_rfl)
def q2m5 (d:Nat) (self1:(List Diii×Di×Int×Int)→Option q2l7) (x1:List Diii×Di×Int×Int):Option q2l7 :=
 (q2ln (q2lb d) x1).eval fun y2 =>
 bif y2.2.2.2.2 then ((q2lr (q2lb d) y2).eval fun y3 =>
 (q2lv (q2lb d) y3).eval fun y4 =>
 bif y4.2.2.2.2.2 then ((q2lz (q2lb d) y4).eval fun y5 =>
 some y5) else ((q2m1 (q2lb d) y4).eval fun y6 =>
 self1 y6)) else ((q2m3 (q2lb d) y2).eval fun y7 =>
 some y7)
def q2m6 (d:Nat) (x:q2l6):Option q2l7 :=
 (q2lf (q2lb d) (x.1.1,x.2.1.1)).eval fun y0 =>
 (q2lj (q2lb d) y0).eval fun y1 =>
 iter (q2m5 d ) d y1
theorem q2m7 (d:Nat):COK prog (q2l9 (q2m6 d)):=by
 have hm:prog.follows .mixedOrders=true:=qjt
 have hT:=tys
 have hC0:OrcOK prog (orc (q2lc (q2lb d))):=qcs (by
  intro S hS
  simp only [q2lc,List.mem_cons,List.not_mem_nil,or_false] at hS
  subst hS;exact q2l4 d)
 have hC:OrcOK prog (orc (q2lc (q2lb d))):=hC0
 refine q8e (c:=qcy f83) (fn:=f83) hT (by kernel_rfl) (by kernel_rfl) (by decide) fun x r h w0 φ0 Q hend=>?_
 replace h:q2m6 d x=some r:=h
 unfold q2m6 at h
 show Run prog w0 φ0 19 (qcy f83) ⟨[(0,.fz Riii x.1.1),(1,.fn 82 [.fp Ri x.2.1.1 0])],[]⟩ Q
 refine q3yx hm hT hC (q2lg (q2lb d) (x.1.1,x.2.1.1)) h fun y0 h=>?_
 refine q7y ?_
 refine q3yx hm hT hC (q2lk (q2lb d) y0) h fun y1 h=>?_
 refine q7z ?_
 refine q84 (G:=iter (q2m5 d )) (S:=(fun x1=>⟨[(0,.fz Riii x1.1),(1,.fn 82 [.fp Ri x1.2.1 0]),(7,i6 x1.2.2.1),(8,i6 x1.2.2.2)],[]⟩:List Diii×Di×Int×Int→St)) (fun _=>rfl) ?_ d _ h
 intro n1 x1 h K1 hn1
 replace h:q2m5 d  (iter (q2m5 d ) n1) x1=some r:=h
 generalize iter (q2m5 d ) n1=self1 at h hn1
 unfold q2m5 at h
 refine q3yx hm hT hC (q2lo (q2lb d) x1) h fun y2 h=>?_
 refine q7y ?_
 refine q82 (v:=y2.2.2.2.2) (by kernel_rfl) h ?_ ?_
 ·
  intro h
  refine q7u (q7k (q7y (q7z ?_)))
  refine q3yx hm hT hC (q2ls (q2lb d) y2) h fun y3 h=>?_
  refine q3yx hm hT hC (q2lw (q2lb d) y3) h fun y4 h=>?_
  refine q82 (v:=y4.2.2.2.2.2) (by kernel_rfl) h ?_ ?_
  ·
   intro h
   refine q3yx hm hT hC (q2m0 (q2lb d) y4) h fun y5 h=>?_
   refine q7x (q7o (q7m (q7m (q7o (q7m ?_)))))
   cases h
   exact (hend _ (by kernel_rfl)).2
  ·
   intro h
   refine q7u (q7n (q7k ?_))
   refine q83 hm hT hC (q2m2 (q2lb d) y4) h ?_
   intro y6 h
   exact hn1 _ h
 ·
  intro h
  refine q7w (q7l (q7l (q7p (q7k ?_))))
  refine q3yx hm hT hC (q2m4 (q2lb d) y2) h fun y7 h=>?_
  refine q7x ?_
  cases h
  exact (hend _ (by kernel_rfl)).2
abbrev q2m8:List Pk:=[.row qjb true,.row Rii true,.row Rii true]
abbrev q2m9:Type:=qjc×Dii×Dii×Unit
abbrev q2ma:Type:=Int×Int×Int×Int×Int
def q2mb (r:q2ma):LV×List Ob:=(.tup [.agg [.int .i64 r.1,.int .i64 r.2.1],.agg [.int .i64 r.2.2.1,.int .i64 r.2.2.2.1],.int .i64 r.2.2.2.2],[])
def q2mc (F:q2m9→Option q2ma):Go.Tx.Spec:=⟨34,q2m8,q2ma,F,q2mb⟩
abbrev q2md:Type:=(q2f5→Option q2f6)×(q2cb→Option q2cc)×(q2hl→Option q2hm)×(q2l6→Option q2l7)×Unit
def q2me (d:Nat):q2md:=(q2gk d,q2d8 d,q2j4 d,q2m6 d,())
def q2mf (C:q2md):List Go.Tx.Spec:=[q2f8 C.1,q2ce C.2.1,q2ho C.2.2.1,q2l9 C.2.2.2.1]
abbrev q2mg:Type:=List Diii×Int×Int×Int×Int
def q2mh (v:q2mg):St:=⟨[(0,.agg [.fz Riii v.1]),(1,.agg [i6 v.2.1,i6 v.2.2.1]),(2,.agg [i6 v.2.2.2.1,i6 v.2.2.2.2])],[]⟩
abbrev q2mi:Type:=List Diii×Int×Int×Int×Int×Int×Int×Int×Int
def q2mj (v:q2mi):St:=⟨[(3,.ptr 0 0),(4,.ptr 1 0),(5,.ptr 2 0),(6,.ptr 3 0),(7,.ptr 4 0)],[.cells [.fz Riii v.1],.cells [i6 v.2.1,i6 v.2.2.1],.cells [i6 v.2.2.2.1,i6 v.2.2.2.2.1],.cells [i6 v.2.2.2.2.2.1,i6 v.2.2.2.2.2.2.1],.cells [i6 v.2.2.2.2.2.2.2.1,i6 v.2.2.2.2.2.2.2.2]]⟩
def q2mk (C:q2md) (v:q2mg):Dt q2mi:=(Dt.ret (v.1,v.2.1,v.2.2.1,v.2.2.2.1,v.2.2.2.2,(0:Int),(0:Int),(0:Int),(0:Int)))
abbrev q40j {V Y:Type}:=@rg q2md V Y tysT (fun C=>(orc (q2mf C))) 56
theorem q2ml C v:q40j (regO (qcy f34) 0) false [(3,(.box [.val Riii])),(4,.any),(5,.any),(6,.any),(7,.any)] q2mh q2mk q2mj C v:=rgI (by kernel_rfl)
abbrev q2mm:Type:=Int×List Diii×Int×Int×Int×Int×Int×Int×Int×Int
def q2mn (v:q2mm):St:=⟨[(3,.ptr 0 0),(4,.ptr 1 0),(5,.ptr 2 0),(6,.ptr 3 0),(7,.ptr 4 0),(9,i6 v.1)],[.cells [.fz Riii v.2.1],.cells [i6 v.2.2.1,i6 v.2.2.2.1],.cells [i6 v.2.2.2.2.1,i6 v.2.2.2.2.2.1],.cells [i6 v.2.2.2.2.2.2.1,i6 v.2.2.2.2.2.2.2.1],.cells [i6 v.2.2.2.2.2.2.2.2.1,i6 v.2.2.2.2.2.2.2.2.2]]⟩
def q2mo (C:q2md) (v:q2mi):Dt q2mm:=(Dt.bnd (C.2.1 ((v.1,()),(v.2.1,v.2.2.1,()),(v.2.2.2.1,v.2.2.2.2.1,()),())) fun r1=>(Dt.ret (r1,v.1,v.2.1,v.2.2.1,v.2.2.2.1,v.2.2.2.2.1,v.2.2.2.2.2.1,v.2.2.2.2.2.2.1,v.2.2.2.2.2.2.2.1,v.2.2.2.2.2.2.2.2)))
theorem q2mp C v:q40j (regO (qcy f34) 1) false [(3,(.box [.val Riii])),(4,.any),(5,.any),(6,.any),(7,.any),(9,.any)] q2mj q2mo q2mn C v:=rgI (by kernel_rfl)
abbrev q2mq:Type:=Int×Bool×List Diii×Int×Int×Int×Int×Int×Int×Int×Int
def q2mr (v:q2mq):St:=⟨[(3,.ptr 0 0),(4,.ptr 1 0),(5,.ptr 2 0),(6,.ptr 3 0),(7,.ptr 4 0),(9,i6 v.1),(21,.bool v.2.1)],[.cells [.fz Riii v.2.2.1],.cells [i6 v.2.2.2.1,i6 v.2.2.2.2.1],.cells [i6 v.2.2.2.2.2.1,i6 v.2.2.2.2.2.2.1],.cells [i6 v.2.2.2.2.2.2.2.1,i6 v.2.2.2.2.2.2.2.2.1],.cells [i6 v.2.2.2.2.2.2.2.2.2.1,i6 v.2.2.2.2.2.2.2.2.2.2]]⟩
def q2ms (C:q2md) (v:q2mm):Dt q2mq:=(Dt.ret (v.1,(v.1!=(0:Int)),v.2.1,v.2.2.1,v.2.2.2.1,v.2.2.2.2.1,v.2.2.2.2.2.1,v.2.2.2.2.2.2.1,v.2.2.2.2.2.2.2.1,v.2.2.2.2.2.2.2.2.1,v.2.2.2.2.2.2.2.2.2))
theorem q2mt C v:q40j (regO (qcy f34) 2) false [(3,(.box [.val Riii])),(4,.any),(5,.any),(6,.any),(7,.any),(9,.any),(21,.any)] q2mn q2ms q2mr C v:=rgI (by kernel_rfl)
abbrev q2mu:Type:=Int×Int×Int×Int×Int
def q2mv (v:q2mu):St:=⟨[(6,.ptr 0 0),(7,.ptr 1 0),(8,i6 v.1)],[.cells [i6 v.2.1,i6 v.2.2.1],.cells [i6 v.2.2.2.1,i6 v.2.2.2.2]]⟩
def q2mw (C:q2md) (v:q2mq):Dt q2mu:=(Dt.ret (v.1,v.2.2.2.2.2.2.2.1,v.2.2.2.2.2.2.2.2.1,v.2.2.2.2.2.2.2.2.2.1,v.2.2.2.2.2.2.2.2.2.2))
theorem q2mx C v:q40j (regO (qcy f34) 3) true (an [6,7,8]) q2mr q2mw q2mv C v:=rgI (by kernel_rfl)
abbrev q2my:Type:=List Diii×Int×Int×Int×Int×Int×Int×Int×Int×Int
def q2mz (v:q2my):St:=⟨[(3,.ptr 0 0),(4,.ptr 1 0),(5,.ptr 2 0),(6,.ptr 3 0),(7,.ptr 4 0),(10,.ptr 5 0)],[.cells [.fz Riii v.1],.cells [i6 v.2.1,i6 v.2.2.1],.cells [i6 v.2.2.2.1,i6 v.2.2.2.2.1],.cells [i6 v.2.2.2.2.2.1,i6 v.2.2.2.2.2.2.1],.cells [i6 v.2.2.2.2.2.2.2.1,i6 v.2.2.2.2.2.2.2.2.1],.cells [i6 v.2.2.2.2.2.2.2.2.2]]⟩
def q2n0 (C:q2md) (v:q2mq):Dt q2my:=(Dt.ret (v.2.2.1,v.2.2.2.1,v.2.2.2.2.1,v.2.2.2.2.2.1,v.2.2.2.2.2.2.1,v.2.2.2.2.2.2.2.1,v.2.2.2.2.2.2.2.2.1,v.2.2.2.2.2.2.2.2.2.1,v.2.2.2.2.2.2.2.2.2.2,(0:Int)))
theorem q2n1 C v:q40j (regO (qcy f34) 4) false [(3,(.box [.val Riii])),(4,.any),(5,.any),(6,.any),(7,.any),(10,.any)] q2mr q2n0 q2mz C v:=rgI (by kernel_rfl)
abbrev q2n2:Type:=List Diii×Int×Int×Int×Int×Int×Int×Int×Int×Int
def q2n3 (v:q2n2):St:=⟨[(3,.ptr 0 0),(4,.ptr 1 0),(5,.ptr 2 0),(6,.ptr 3 0),(7,.ptr 4 0),(11,.ptr 5 0)],[.cells [.fz Riii v.1],.cells [i6 v.2.1,i6 v.2.2.1],.cells [i6 v.2.2.2.1,i6 v.2.2.2.2.1],.cells [i6 v.2.2.2.2.2.1,i6 v.2.2.2.2.2.2.1],.cells [i6 v.2.2.2.2.2.2.2.1,i6 v.2.2.2.2.2.2.2.2.1],.cells [.fn 82 [.ptr 6 0]],.cells [i6 v.2.2.2.2.2.2.2.2.2]]⟩
def q2n4 (C:q2md) (v:q2my):Dt q2n2:=(Dt.ret (v.1,v.2.1,v.2.2.1,v.2.2.2.1,v.2.2.2.2.1,v.2.2.2.2.2.1,v.2.2.2.2.2.2.1,v.2.2.2.2.2.2.2.1,v.2.2.2.2.2.2.2.2.1,v.2.2.2.2.2.2.2.2.2))
theorem q2n5 C v:q40j (regO (qcy f34) 5) false [(3,(.box [.val Riii])),(4,.any),(5,.any),(6,.any),(7,.any),(11,.any)] q2mz q2n4 q2n3 C v:=rgI (by kernel_rfl)
abbrev q2n6:Type:=List Diii×Int×Int×Int×Int×Int×Int×Int×List Diii
def q2n7 (v:q2n6):St:=⟨[(3,.ptr 0 0),(5,.ptr 1 0),(6,.ptr 2 0),(7,.ptr 3 0),(11,.ptr 4 0),(12,.rs 6)],[.cells [.fz Riii v.1],.cells [i6 v.2.1,i6 v.2.2.1],.cells [i6 v.2.2.2.1,i6 v.2.2.2.2.1],.cells [i6 v.2.2.2.2.2.1,i6 v.2.2.2.2.2.2.1],.cells [.fn 82 [.ptr 5 0]],.cells [i6 v.2.2.2.2.2.2.2.1],.rows Riii v.2.2.2.2.2.2.2.2]⟩
def q2n8 (C:q2md) (v:q2n2):Dt q2n6:=(Dt.bnd (C.2.2.1 ((v.1,()),(v.2.1,v.2.2.1,()),(v.2.2.2.1,v.2.2.2.2.1,()),())) fun r1=>(Dt.ret (v.1,v.2.2.2.1,v.2.2.2.2.1,v.2.2.2.2.2.1,v.2.2.2.2.2.2.1,v.2.2.2.2.2.2.2.1,v.2.2.2.2.2.2.2.2.1,v.2.2.2.2.2.2.2.2.2,r1)))
theorem q2n9 C v:q40j (regO (qcy f34) 6) false [(3,(.box [.val Riii])),(5,.any),(6,.any),(7,.any),(11,.any),(12,(.own Riii))] q2n3 q2n8 q2n7 C v:=rgI (by kernel_rfl)
abbrev q2na:Type:=List Diii×Int×Int×Int×Int×Int×List Diii×Int×Int
def q2nb (v:q2na):St:=⟨[(3,.ptr 0 0),(6,.ptr 1 0),(7,.ptr 2 0),(11,.ptr 3 0),(12,.rs 5),(13,.ptr 6 0)],[.cells [.fz Riii v.1],.cells [i6 v.2.1,i6 v.2.2.1],.cells [i6 v.2.2.2.1,i6 v.2.2.2.2.1],.cells [.fn 82 [.ptr 4 0]],.cells [i6 v.2.2.2.2.2.1],.rows Riii v.2.2.2.2.2.2.1,.cells [i6 v.2.2.2.2.2.2.2.1,i6 v.2.2.2.2.2.2.2.2]]⟩
def q2nc (C:q2md) (v:q2n6):Dt q2na:=(Dt.ret (v.1,v.2.2.2.1,v.2.2.2.2.1,v.2.2.2.2.2.1,v.2.2.2.2.2.2.1,v.2.2.2.2.2.2.2.1,v.2.2.2.2.2.2.2.2,v.2.1,v.2.2.1))
theorem q2nd C v:q40j (regO (qcy f34) 7) false [(3,(.box [.val Riii])),(6,.any),(7,.any),(11,.any),(12,(.own Riii)),(13,.any)] q2n7 q2nc q2nb C v:=rgI (by kernel_rfl)
abbrev q2ne:Type:=Int×List Diii×Int×Int×Int×Int×List Diii×Int×Int
def q2nf (v:q2ne):St:=⟨[(3,.ptr 0 0),(6,.ptr 1 0),(7,.ptr 2 0),(12,.rs 3),(13,.ptr 4 0),(14,i6 v.1)],[.cells [.fz Riii v.2.1],.cells [i6 v.2.2.1,i6 v.2.2.2.1],.cells [i6 v.2.2.2.2.1,i6 v.2.2.2.2.2.1],.rows Riii v.2.2.2.2.2.2.1,.cells [i6 v.2.2.2.2.2.2.2.1,i6 v.2.2.2.2.2.2.2.2]]⟩
def q2ng (C:q2md) (v:q2na):Dt q2ne:=(Dt.bnd (C.2.2.2.1 ((v.2.2.2.2.2.2.1,()),((v.2.2.2.2.2.1,()),()),())) fun r1=>(Dt.ret (r1,v.1,v.2.1,v.2.2.1,v.2.2.2.1,v.2.2.2.2.1,v.2.2.2.2.2.2.1,v.2.2.2.2.2.2.2.1,v.2.2.2.2.2.2.2.2)))
theorem q2nh C v:q40j (regO (qcy f34) 8) false [(3,(.box [.val Riii])),(6,.any),(7,.any),(12,(.own Riii)),(13,.any),(14,.any)] q2nb q2ng q2nf C v:=rgI (by kernel_rfl)
abbrev q2ni:Type:=Int×Bool×List Diii×Int×Int×Int×Int×List Diii×Int×Int
def q2nj (v:q2ni):St:=⟨[(3,.ptr 0 0),(6,.ptr 1 0),(7,.ptr 2 0),(12,.rs 3),(13,.ptr 4 0),(14,i6 v.1),(37,.bool v.2.1)],[.cells [.fz Riii v.2.2.1],.cells [i6 v.2.2.2.1,i6 v.2.2.2.2.1],.cells [i6 v.2.2.2.2.2.1,i6 v.2.2.2.2.2.2.1],.rows Riii v.2.2.2.2.2.2.2.1,.cells [i6 v.2.2.2.2.2.2.2.2.1,i6 v.2.2.2.2.2.2.2.2.2]]⟩
def q2nk (C:q2md) (v:q2ne):Dt q2ni:=(Dt.ret (v.1,(decide (v.1≥(0:Int))),v.2.1,v.2.2.1,v.2.2.2.1,v.2.2.2.2.1,v.2.2.2.2.2.1,v.2.2.2.2.2.2.1,v.2.2.2.2.2.2.2.1,v.2.2.2.2.2.2.2.2))
theorem q2nl C v:q40j (regO (qcy f34) 9) false [(3,(.box [.val Riii])),(6,.any),(7,.any),(12,(.own Riii)),(13,.any),(14,.any),(37,.any)] q2nf q2nk q2nj C v:=rgI (by kernel_rfl)
abbrev q2nm:Type:=List Diii×Int×Int×Int×Int×Int×Int
def q2nn (v:q2nm):St:=⟨[(3,.ptr 0 0),(6,.ptr 1 0),(7,.ptr 2 0),(13,.ptr 3 0)],[.cells [.fz Riii v.1],.cells [i6 v.2.1,i6 v.2.2.1],.cells [i6 v.2.2.2.1,i6 v.2.2.2.2.1],.cells [i6 v.2.2.2.2.2.1,i6 v.2.2.2.2.2.2]]⟩
def q2no (C:q2md) (v:q2ni):Dt q2nm:=(Dt.ite (inB v.1 (List.length v.2.2.2.2.2.2.2.1)) (Dt.ret (v.2.2.1,v.2.2.2.1,v.2.2.2.2.1,v.2.2.2.2.2.1,v.2.2.2.2.2.2.1,(elt ziii v.2.2.2.2.2.2.2.1 (v.1).toNat).1,(elt ziii v.2.2.2.2.2.2.2.1 (v.1).toNat).2.1)) Dt.fail)
theorem q2np C v:q40j (regO (qcy f34) 10) false [(3,(.box [.val Riii])),(6,.any),(7,.any),(13,.any)] q2nj q2no q2nn C v:=rgI (by kernel_rfl)
abbrev q2nq:Type:=Int×Int×Int×Int×Int×Int×Int×Int×Int
def q2nr (v:q2nq):St:=⟨[(6,.ptr 0 0),(7,.ptr 1 0),(8,i6 v.1),(13,.ptr 2 0),(15,.ptr 3 0)],[.cells [i6 v.2.1,i6 v.2.2.1],.cells [i6 v.2.2.2.1,i6 v.2.2.2.2.1],.cells [i6 v.2.2.2.2.2.1,i6 v.2.2.2.2.2.2.1],.cells [i6 v.2.2.2.2.2.2.2.1,i6 v.2.2.2.2.2.2.2.2]]⟩
def q2ns (C:q2md) (v:q2nm):Dt q2nq:=(Dt.bnd (C.1 ((v.1,()),(v.2.2.2.2.2.1,v.2.2.2.2.2.2,()),())) fun r1=>(Dt.ret (r1.2.2,v.2.1,v.2.2.1,v.2.2.2.1,v.2.2.2.2.1,v.2.2.2.2.2.1,v.2.2.2.2.2.2,r1.1,r1.2.1)))
theorem q2nt C v:q40j (regO (qcy f34) 11) false (an [6,7,8,13,15]) q2nn q2ns q2nr C v:=rgI (by kernel_rfl)
abbrev q2nu:Type:=Int×Bool×Int×Int×Int×Int×Int×Int×Int×Int
def q2nv (v:q2nu):St:=⟨[(6,.ptr 0 0),(7,.ptr 1 0),(8,i6 v.1),(13,.ptr 2 0),(15,.ptr 3 0),(50,.bool v.2.1)],[.cells [i6 v.2.2.1,i6 v.2.2.2.1],.cells [i6 v.2.2.2.2.1,i6 v.2.2.2.2.2.1],.cells [i6 v.2.2.2.2.2.2.1,i6 v.2.2.2.2.2.2.2.1],.cells [i6 v.2.2.2.2.2.2.2.2.1,i6 v.2.2.2.2.2.2.2.2.2]]⟩
def q2nw (C:q2md) (v:q2nq):Dt q2nu:=(Dt.ret (v.1,(v.1!=(0:Int)),v.2.1,v.2.2.1,v.2.2.2.1,v.2.2.2.2.1,v.2.2.2.2.2.1,v.2.2.2.2.2.2.1,v.2.2.2.2.2.2.2.1,v.2.2.2.2.2.2.2.2))
theorem q2nx C v:q40j (regO (qcy f34) 12) false (an [6,7,8,13,15,50]) q2nr q2nw q2nv C v:=rgI (by kernel_rfl)
def q2ny (C:q2md) (v:q2nu):Dt q2mu:=(Dt.ret (v.1,v.2.2.1,v.2.2.2.1,v.2.2.2.2.1,v.2.2.2.2.2.1))
theorem q2nz C v:q40j (regO (qcy f34) 13) true (an [6,7,8]) q2nv q2ny q2mv C v:=rgI (by kernel_rfl)
def q2o0 (C:q2md) (v:q2nu):Dt q2mu:=(Dt.ret ((0:Int),v.2.2.2.2.2.2.1,v.2.2.2.2.2.2.2.1,v.2.2.2.2.2.2.2.2.1,v.2.2.2.2.2.2.2.2.2))
theorem q2o1 C v:q40j (regO (qcy f34) 14) true (an [6,7,8]) q2nv q2o0 q2mv C v:=rgI (by kernel_rfl)
def q2o2  (d:Nat)  (z:List Diii×Int×Int×Int×Int×Int×Int):Option (q2ma) :=
 (q2ns (q2me d) z).eval fun y11 =>
 (q2nw (q2me d) y11).eval fun y12 =>
 bif y12.2.1 then ((q2ny (q2me d) y12).eval fun y13 =>
 some (y13.2.1,y13.2.2.1,y13.2.2.2.1,y13.2.2.2.2,y13.1)) else ((q2o0 (q2me d) y12).eval fun y14 =>
 some (y14.2.1,y14.2.2.1,y14.2.2.2.1,y14.2.2.2.2,y14.1))
def q2o3 (d:Nat) (x:q2m9):Option q2ma :=
 (q2mk (q2me d) (x.1.1,x.2.1.1,x.2.1.2.1,x.2.2.1.1,x.2.2.1.2.1)).eval fun y0 =>
 (q2mo (q2me d) y0).eval fun y1 =>
 (q2ms (q2me d) y1).eval fun y2 =>
 bif y2.2.1 then ((q2mw (q2me d) y2).eval fun y3 =>
 some (y3.2.1,y3.2.2.1,y3.2.2.2.1,y3.2.2.2.2,y3.1)) else ((q2n0 (q2me d) y2).eval fun y4 =>
 (q2n4 (q2me d) y4).eval fun y5 =>
 (q2n8 (q2me d) y5).eval fun y6 =>
 (q2nc (q2me d) y6).eval fun y7 =>
 (q2ng (q2me d) y7).eval fun y8 =>
 (q2nk (q2me d) y8).eval fun y9 =>
 bif y9.2.1 then ((q2no (q2me d) y9).eval fun y10 =>
 q2o2 d  y10) else (q2o2 d  (y9.2.2.1,y9.2.2.2.1,y9.2.2.2.2.1,y9.2.2.2.2.2.1,y9.2.2.2.2.2.2.1,y9.2.2.2.2.2.2.2.2.1,y9.2.2.2.2.2.2.2.2.2)))
theorem q2o4 (d:Nat):COK prog (q2mc (q2o3 d)):=by
 have hm:prog.follows .mixedOrders=true:=qjt
 have hT:=tys
 have hC0:OrcOK prog (orc (q2mf (q2me d))):=qcs (by
  intro S hS
  simp only [q2mf,List.mem_cons,List.not_mem_nil,or_false] at hS
  rcases hS with rfl | rfl | rfl | rfl
  · exact q2gl d
  · exact q2d9 d
  · exact q2j5 d
  · exact q2m7 d)
 have hC:OrcOK prog (orc (q2mf (q2me d))):=hC0
 refine q8e (c:=qcy f34) (fn:=f34) hT (by kernel_rfl) (by kernel_rfl) (by decide) fun x r h w0 φ0 Q hend=>?_
 replace h:q2o3 d x=some r:=h
 unfold q2o3 at h
 show Run prog w0 φ0 56 (qcy f34) ⟨[(0,.agg [.fz Riii x.1.1]),(1,.agg [.int .i64 x.2.1.1,.int .i64 x.2.1.2.1]),(2,.agg [.int .i64 x.2.2.1.1,.int .i64 x.2.2.1.2.1])],[]⟩ Q
 refine q3yx hm hT hC (q2ml (q2me d) (x.1.1,x.2.1.1,x.2.1.2.1,x.2.2.1.1,x.2.2.1.2.1)) h fun y0 h=>?_
 refine q7y ?_
 refine q3yx hm hT hC (q2mp (q2me d) y0) h fun y1 h=>?_
 refine q3yx hm hT hC (q2mt (q2me d) y1) h fun y2 h=>?_
 refine q82 (v:=y2.2.1) (by kernel_rfl) h ?_ ?_
 ·
  intro h
  refine q3yx hm hT hC (q2mx (q2me d) y2) h fun y3 h=>?_
  refine q7x (q7m ?_)
  cases h
  exact (hend _ (by kernel_rfl)).2
 ·
  intro h
  refine q7u (q7k ?_)
  refine q3yx hm hT hC (q2n1 (q2me d) y2) h fun y4 h=>?_
  refine q3yx hm hT hC (q2n5 (q2me d) y4) h fun y5 h=>?_
  refine q3yx hm hT hC (q2n9 (q2me d) y5) h fun y6 h=>?_
  refine q3yx hm hT hC (q2nd (q2me d) y6) h fun y7 h=>?_
  refine q81 (r:=r) (F:=q2o2 d ) (S:=(fun z=>⟨[(3,.ptr 0 0),(6,.ptr 1 0),(7,.ptr 2 0),(13,.ptr 3 0)],[.cells [.fz Riii z.1],.cells [i6 z.2.1,i6 z.2.2.1],.cells [i6 z.2.2.2.1,i6 z.2.2.2.2.1],.cells [i6 z.2.2.2.2.2.1,i6 z.2.2.2.2.2.2]]⟩:List Diii×Int×Int×Int×Int×Int×Int→St)) ?_ ?_
  ·
   intro z h
   unfold q2o2 at h
   refine q3yx hm hT hC (q2nt (q2me d) z) h fun y11 h=>?_
   refine q7y ?_
   refine q3yx hm hT hC (q2nx (q2me d) y11) h fun y12 h=>?_
   refine q82 (v:=y12.2.1) (by kernel_rfl) h ?_ ?_
   ·
    intro h
    refine q3yx hm hT hC (q2nz (q2me d) y12) h fun y13 h=>?_
    refine q7x (q7m ?_)
    cases h
    exact (hend _ (by kernel_rfl)).2
   ·
    intro h
    refine q7u (q7k ?_)
    refine q3yx hm hT hC (q2o1 (q2me d) y12) h fun y14 h=>?_
    refine q7x ?_
    cases h
    exact (hend _ (by kernel_rfl)).2
  intro hj1
  refine q3yx hm hT hC (q2nh (q2me d) y7) h fun y8 h=>?_
  refine q3yx hm hT hC (q2nl (q2me d) y8) h fun y9 h=>?_
  refine q82 (v:=y9.2.1) (by kernel_rfl) h ?_ ?_
  ·
   intro h
   refine q83 hm hT hC (q2np (q2me d) y9) h ?_
   intro y10 h
   exact hj1 _ h
  ·
   intro h
   refine q7u ?_
   refine qcx (s:=⟨[(3,.ptr 0 0),(6,.ptr 1 0),(7,.ptr 2 0),(13,.ptr 3 0)],[.cells [.fz Riii y9.2.2.1],.cells [.int .i64 y9.2.2.2.1,.int .i64 y9.2.2.2.2.1],.cells [.int .i64 y9.2.2.2.2.2.1,.int .i64 y9.2.2.2.2.2.2.1],.cells [.int .i64 y9.2.2.2.2.2.2.2.2.1,.int .i64 y9.2.2.2.2.2.2.2.2.2]]⟩) [12,14,37] (by kernel_rfl) ?_
   exact hj1 _ h
end Go.Proofs.YtpfhgnccpiildaaGreat
