/- Walks of the references; the orders agree; examples. -/
import Derived.Test.YtpfhgnccpiildaaGreatGf
set_option linter.unusedSimpArgs false
set_option linter.unusedVariables false
namespace Go.Proofs.YtpfhgnccpiildaaGreat
open Go Go.Tx Go.Proofs.Tryz
set_option maxRecDepth 100000
set_option maxHeartbeats 0
abbrev q26g:List Pk:=[.row qjc true]
abbrev q26h:Type:=qjd×Unit
abbrev q26i:Type:=List qjg
def q26j (r:q26i):LV×List Ob:=(.rs 0,[.rows qjf r])
def q26k (F:q26h→Option q26i):Go.Tx.Spec:=⟨54,q26g,q26i,F,q26j⟩
abbrev q26l:Type:=(q18r→Option q18s)×(qx7→Option qx8)×(q1ck→Option q1cl)×Unit
def q26m (d:Nat):q26l:=(q198 d,qy4 d,q1d1 d,())
def q26n (C:q26l):List Go.Tx.Spec:=[q18u C.1,qxa C.2.1,q1cn C.2.2.1]
abbrev q26o:Type:=List Diii
def q26p (v:q26o):St:=⟨[(0,.agg [.fz Riii v])],[]⟩
abbrev q26q:Type:=List Diii
def q26r (v:q26q):St:=⟨[(1,.ptr 0 0)],[.cells [.fz Riii v]]⟩
def q26s (C:q26l) (v:q26o):Dt q26q:=(Dt.ret v)
abbrev q405 {V Y:Type}:=@rg q26l V Y tysT (fun C=>(orcS 112 113 qjf C.2.2.1 (orc (q26n C)))) 32
theorem q26t C v:q405 (regO (qcz f54) 0) false [(1,(.box [.val Riii]))] q26p q26s q26r C v:=rgI (by kernel_rfl)
abbrev q26u:Type:=List Diii×List qjg
def q26v (v:q26u):St:=⟨[(1,.ptr 0 0),(3,.ptr 1 0)],[.cells [.fz Riii v.1],.cells [.rs 2],.rows qjf v.2]⟩
def q26w (C:q26l) (v:q26q):Dt q26u:=(Dt.ret (v,([]:List qjg)))
theorem q26x C v:q405 (regO (qcz f54) 1) false [(1,(.box [.val Riii])),(3,(.box [.own qjf]))] q26r q26w q26v C v:=rgI (by kernel_rfl)
abbrev q26y:Type:=List qjg×List Diii
def q26z (v:q26y):St:=⟨[(3,.ptr 0 0),(9,.fn 147 [.ptr 2 0])],[.cells [.rs 1],.rows qjf v.1,.cells [.fz Riii v.2]]⟩
def q270 (C:q26l) (v:q26u):Dt q26y:=(Dt.bnd (C.1 ((v.1,()),())) fun r1=>(Dt.ret (v.2,r1)))
theorem q271 C v:q405 (regO (qcz f54) 2) false [(3,(.box [.own qjf])),(9,.any)] q26v q270 q26z C v:=rgI (by kernel_rfl)
abbrev q272:Type:=Int×Int×Int×Int×Int×Int×List qjg
def q273 (v:q272):St:=⟨[(10,.agg [.int .i64 v.1,.int .i64 v.2.1,.int .i64 v.2.2.1]),(11,.agg [.int .i64 v.2.2.2.1,.int .i64 v.2.2.2.2.1,.int .i64 v.2.2.2.2.2.1]),(3,.ptr 0 0)],[.cells [.rs 1],.rows qjf v.2.2.2.2.2.2]⟩
abbrev q274:Type:=Int×Int×Int×List qjg×Int×Int×Int
def q275 (v:q274):St:=⟨[(3,.ptr 0 0),(4,.ptr 2 0),(11,.agg [.int .i64 v.1,.int .i64 v.2.1,.int .i64 v.2.2.1])],[.cells [.rs 1],.rows qjf v.2.2.2.1,.cells [.int .i64 v.2.2.2.2.1,.int .i64 v.2.2.2.2.2.1,.int .i64 v.2.2.2.2.2.2]]⟩
def q276 (C:q26l) (v:q272):Dt q274:=(Dt.ret (v.2.2.2.1,v.2.2.2.2.1,v.2.2.2.2.2.1,v.2.2.2.2.2.2,v.1,v.2.1,v.2.2.1))
theorem q277 C v:q405 (regO (qcz f54) 3) false [(3,(.box [.own qjf])),(4,.any),(11,.any)] q273 q276 q275 C v:=rgI (by kernel_rfl)
abbrev q278:Type:=List qjg×Int×Int×Int×Int×Int×Int
def q279 (v:q278):St:=⟨[(3,.ptr 0 0),(4,.ptr 2 0),(5,.ptr 3 0)],[.cells [.rs 1],.rows qjf v.1,.cells [.int .i64 v.2.1,.int .i64 v.2.2.1,.int .i64 v.2.2.2.1],.cells [.int .i64 v.2.2.2.2.1,.int .i64 v.2.2.2.2.2.1,.int .i64 v.2.2.2.2.2.2]]⟩
def q27a (C:q26l) (v:q274):Dt q278:=(Dt.ret (v.2.2.2.1,v.2.2.2.2.1,v.2.2.2.2.2.1,v.2.2.2.2.2.2,v.1,v.2.1,v.2.2.1))
theorem q27b C v:q405 (regO (qcz f54) 4) false [(3,(.box [.own qjf])),(4,.any),(5,.any)] q275 q27a q279 C v:=rgI (by kernel_rfl)
abbrev q27c:Type:=Int×List qjg×Int×Int×Int×Int×Int×Int×Int×Int
def q27d (v:q27c):St:=⟨[(3,.ptr 0 0),(4,.ptr 2 0),(5,.ptr 3 0),(6,.ptr 4 0),(7,.int .i64 v.1)],[.cells [.rs 1],.rows qjf v.2.1,.cells [.int .i64 v.2.2.1,.int .i64 v.2.2.2.1,.int .i64 v.2.2.2.2.1],.cells [.int .i64 v.2.2.2.2.2.1,.int .i64 v.2.2.2.2.2.2.1,.int .i64 v.2.2.2.2.2.2.2.1],.cells [.int .i64 v.2.2.2.2.2.2.2.2.1,.int .i64 v.2.2.2.2.2.2.2.2.2]]⟩
def q27e (C:q26l) (v:q278):Dt q27c:=(Dt.bnd (C.2.1 ((v.2.1,v.2.2.1,v.2.2.2.1,()),(v.2.2.2.2.1,v.2.2.2.2.2.1,v.2.2.2.2.2.2,()),())) fun r1=>(Dt.ret (r1.2.2,v.1,v.2.1,v.2.2.1,v.2.2.2.1,v.2.2.2.2.1,v.2.2.2.2.2.1,v.2.2.2.2.2.2,r1.1,r1.2.1)))
theorem q27f C v:q405 (regO (qcz f54) 5) false [(3,(.box [.own qjf])),(4,.any),(5,.any),(6,.any),(7,.any)] q279 q27e q27d C v:=rgI (by kernel_rfl)
abbrev q27g:Type:=Bool×List qjg×Int×Int×Int×Int×Int×Int×Int×Int
def q27h (v:q27g):St:=⟨[(3,.ptr 0 0),(4,.ptr 2 0),(5,.ptr 3 0),(6,.ptr 4 0),(19,.bool v.1)],[.cells [.rs 1],.rows qjf v.2.1,.cells [.int .i64 v.2.2.1,.int .i64 v.2.2.2.1,.int .i64 v.2.2.2.2.1],.cells [.int .i64 v.2.2.2.2.2.1,.int .i64 v.2.2.2.2.2.2.1,.int .i64 v.2.2.2.2.2.2.2.1],.cells [.int .i64 v.2.2.2.2.2.2.2.2.1,.int .i64 v.2.2.2.2.2.2.2.2.2]]⟩
def q27i (C:q26l) (v:q27c):Dt q27g:=(Dt.ret ((v.1 == (0:Int)),v.2.1,v.2.2.1,v.2.2.2.1,v.2.2.2.2.1,v.2.2.2.2.2.1,v.2.2.2.2.2.2.1,v.2.2.2.2.2.2.2.1,v.2.2.2.2.2.2.2.2.1,v.2.2.2.2.2.2.2.2.2))
theorem q27j C v:q405 (regO (qcz f54) 6) false [(3,(.box [.own qjf])),(4,.any),(5,.any),(6,.any),(19,.any)] q27d q27i q27h C v:=rgI (by kernel_rfl)
abbrev q27k:Type:=List qjg
def q27l (v:q27k):St:=⟨[(3,.ptr 0 0)],[.cells [.rs 1],.rows qjf v]⟩
def q27m (C:q26l) (v:q27g):Dt q27k:=(Dt.ite (apB (List.length v.2.1) (List.length ([(v.2.2.2.2.2.2.2.2.1,v.2.2.2.2.2.2.2.2.2,v.2.2.1,v.2.2.2.2.2.1,())]:List qjg))) (Dt.ret (v.2.1 ++ ([(v.2.2.2.2.2.2.2.2.1,v.2.2.2.2.2.2.2.2.2,v.2.2.1,v.2.2.2.2.2.1,())]:List qjg))) Dt.fail)
theorem q27n C v:q405 (regO (qcz f54) 7) false [(3,(.box [.own qjf]))] q27h q27m q27l C v:=rgI (by kernel_rfl)
def q27o (d:Nat) (x:Diii×Diii) (y:List qjg):Option (List qjg×Int×Int×Int×Int×Int×Int) :=
 (q276 (q26m d) (x.1.1,x.1.2.1,x.1.2.2.1,x.2.1,x.2.2.1,x.2.2.2.1,y)).eval fun y3 =>
 (q27a (q26m d) y3).eval fun y4 =>
 some y4
def q27p (d:Nat) (w:List qjg×Int×Int×Int×Int×Int×Int):Option (List qjg) :=
 (q27e (q26m d) w).eval fun y5 =>
 (q27i (q26m d) y5).eval fun y6 =>
 bif y6.1 then ((q27m (q26m d) y6).eval fun y7 =>
 some y7) else (some y6.2.1)
def q27q (C:q26l) (v:q27k):Dt q27k:=(Dt.bnd (quc (τ:=qjf) C.2.2.1 v) fun r1=>(Dt.ret r1))
theorem q27r C v:q405 (regO (qcz f54) 8) false [(3,(.box [.own qjf]))] q27l q27q q27l C v:=rgI (by kernel_rfl)
abbrev q27s:Type:=List qjg
def q27t (v:q27s):St:=⟨[(2,.rs 0)],[.rows qjf v]⟩
def q27u (C:q26l) (v:q27k):Dt q27s:=(Dt.ret v)
theorem q27v C v:q405 (regO (qcz f54) 9) false [(2,(.own qjf))] q27l q27u q27t C v:=rgI (by kernel_rfl)
def q27w (d:Nat) (x:q26h):Option q26i :=
 (q26s (q26m d) x.1.1).eval fun y0 =>
 (q26w (q26m d) y0).eval fun y1 =>
 (q270 (q26m d) y1).eval fun y2 =>
 bif qwz y2.2 then Option.bind (qts (qtv (q27o d) (q27p d)) (qwy y2.2) y2.1) fun z1 =>
 ((q27q (q26m d) z1).eval fun y8 =>
 (q27u (q26m d) y8).eval fun y9 =>
 some y9) else none
theorem q27x (d:Nat):COK prog (q26k (q27w d)):=by
 have hm:prog.follows .mixedOrders=true:=qju
 have hT:=tys
 have hC0:OrcOK prog (orc (q26n (q26m d))):=qct (by
  intro S hS
  simp only [q26n,List.mem_cons,List.not_mem_nil,or_false] at hS
  rcases hS with rfl | rfl | rfl
  · exact q199 d
  · exact qy5 d
  · exact q1d2 d)
 have hC:OrcOK prog (orcS 112 113 qjf (q26m d).2.2.1 (orc (q26n (q26m d)))):=(qwx (q1d2 d) hC0)
 refine qu0 (c:=qcz f54) (fn:=f54) hT (by kernel_rfl) (by kernel_rfl) (by decide) fun x r h w0 φ0 Q hend=>?_
 replace h:q27w d x=some r:=h
 unfold q27w at h
 show Run prog w0 φ0 32 (qcz f54) ⟨[(0,.agg [.fz Riii x.1.1])],[]⟩ Q
 refine q3yy hm hT hC (q26t (q26m d) x.1.1) h fun y0 h=>?_
 refine q3yy hm hT hC (q26x (q26m d) y0) h fun y1 h=>?_
 refine q7z ?_
 refine q3yy hm hT hC (q271 (q26m d) y1) h fun y2 h=>?_
 refine q80 ?_
 obtain ⟨hg1,h⟩:=qu1 h
 obtain ⟨z1,hz1,h⟩:=Option.bind_eq_some_iff.1 h
 refine qtz (b0:=2) (α:=Diii×Diii) (X:=List qjg) (Z:=List qjg×Int×Int×Int×Int×Int×Int) (encs:=fun x=>#[.agg #[.int .i64 x.1.1,.int .i64 x.1.2.1,.int .i64 x.1.2.2.1],.agg #[.int .i64 x.2.1,.int .i64 x.2.2.1,.int .i64 x.2.2.2.1]]) (xs:=(qwy y2.2)) (A:=q27o d) (B:=q27p d) (S1:=fun w=>⟨[(3,.ptr 0 0),(4,.ptr 2 0),(5,.ptr 3 0)],[.cells [.rs 1],.rows qjf w.1,.cells [.int .i64 w.2.1,.int .i64 w.2.2.1,.int .i64 w.2.2.2.1],.cells [.int .i64 w.2.2.2.2.1,.int .i64 w.2.2.2.2.2.1,.int .i64 w.2.2.2.2.2.2]]⟩) (x0:=y2.1) (z:=z1) (tmE:=fun y=>[(3,.ptr 0 0)]) (keys:=[3]) (obs:=fun y=>[.cells [.rs 1],.rows qjf y]) (xp:=fun x=>[(10,.agg [.int .i64 x.1.1,.int .i64 x.1.2.1,.int .i64 x.1.2.2.1]),(11,.agg [.int .i64 x.2.1,.int .i64 x.2.2.1,.int .i64 x.2.2.2.1])]) (ks:=[9]) (fun y n l h=>qu2 (k:=[3]) (tm:=[(3,.ptr 0 0)]) rfl h) (by kernel_rfl) (by kernel_rfl) rfl (by kernel_rfl) (by kernel_rfl) (enters_of Tryz.func147 (by kernel_rfl) rfl) (qx5 hg1) (fun _=>rfl) (fun x t hN=>?xp1) (fun l V φ2 Q2 x y y2 h hD hV hend=>?as1) (fun l V φ2 Q2 w y2 h hD hV hend=>?bd1) hz1 (fun φ1 hl1=>?rs1)
 case xp1 =>
  rw [qu7]
  refine ⟨by simpa using hN,fun n l hn=>?_,fun n hn=>?_⟩
  ·
   simp only [List.mem_cons,List.not_mem_nil,or_false,Prod.mk.injEq] at hn
   rcases hn with ⟨rfl,rfl⟩ | ⟨rfl,rfl⟩
   ·
    exact ⟨_,(qu4 rfl).trans (qu3 (by (try simp only [Array.size_setIfInBounds]);omega)),fun η=>VR.aggL (VRs.cons (.int _ _) (VRs.cons (.int _ _) (VRs.cons (.int _ _) (VRs.nil))))⟩
   ·
    exact ⟨_,qu3 (by (try simp only [Array.size_setIfInBounds]);omega),fun η=>VR.aggL (VRs.cons (.int _ _) (VRs.cons (.int _ _) (VRs.cons (.int _ _) (VRs.nil))))⟩
  ·
   simp only [List.mem_cons,List.not_mem_nil,or_false] at hn
   rcases hn with rfl
   all_goals exact (qu4 rfl).trans ((qu4 rfl))
 case as1 =>
  unfold q27o at h
  show RunI l prog V w0 φ2 32 _ ⟨[(10,.agg [.int .i64 x.1.1,.int .i64 x.1.2.1,.int .i64 x.1.2.2.1]),(11,.agg [.int .i64 x.2.1,.int .i64 x.2.2.1,.int .i64 x.2.2.2.1]),(3,.ptr 0 0)],[.cells [.rs 1],.rows qjf y]⟩ Q2
  refine qtm ?_
  refine qtq hm hT hC hV (by kernel_rfl) (by kernel_rfl) (q277 (q26m d) (x.1.1,x.1.2.1,x.1.2.2.1,x.2.1,x.2.2.1,x.2.2.2.1,y)) h ?_
  intro y3 h
  refine qtc ?_
  refine qtq hm hT hC hV (by kernel_rfl) (by kernel_rfl) (q27b (q26m d) y3) h ?_
  intro y4 h
  cases h
  exact hend
 case bd1 =>
  unfold q27p at h
  show RunI l prog V w0 φ2 32 _ ⟨[(3,.ptr 0 0),(4,.ptr 2 0),(5,.ptr 3 0)],[.cells [.rs 1],.rows qjf w.1,.cells [.int .i64 w.2.1,.int .i64 w.2.2.1,.int .i64 w.2.2.2.1],.cells [.int .i64 w.2.2.2.2.1,.int .i64 w.2.2.2.2.2.1,.int .i64 w.2.2.2.2.2.2]]⟩ Q2
  refine qtn (qtm ?_)
  refine qtq hm hT hC hV (by kernel_rfl) (by kernel_rfl) (q27f (q26m d) w) h ?_
  intro y5 h
  refine qtc (qtm ?_)
  refine qtq hm hT hC hV (by kernel_rfl) (by kernel_rfl) (q27j (q26m d) y5) h ?_
  intro y6 h
  refine qtc ?_
  refine qtp (v:=y6.1) (by kernel_rfl) h ?_ ?_
  ·
   intro h
   refine qtq hm hT hC hV (by kernel_rfl) (by kernel_rfl) (q27n (q26m d) y6) h ?_
   intro y7 h
   refine qtd ?_
   cases h
   exact hend
  ·
   intro h
   refine qtj (qtd ?_)
   refine qu5 (s:=⟨[(3,.ptr 0 0)],[.cells [.rs 1],.rows qjf y6.2.1]⟩) [4,5,6,19] (by kernel_rfl) ?_
   cases h
   exact hend
 case rs1 =>
  refine q7o (q7l ?_)
  refine q3yy hm hT hC (q27r (q26m d) z1) h fun y8 h=>?_
  refine q3yy hm hT hC (q27v (q26m d) y8) h fun y9 h=>?_
  refine q7y ?_
  cases h
  exact (hend.2 _ hl1 _ (by kernel_rfl)).2
abbrev q27y:List Pk:=[.row qjf true,.row Rii true]
abbrev q27z:Type:=qjg×Dii×Unit
abbrev q280:Type:=Int
def q281 (r:q280):LV×List Ob:=(.int .i64 r,[])
def q282 (F:q27z→Option q280):Go.Tx.Spec:=⟨115,q27y,q280,F,q281⟩
abbrev q283:Type:=(q16e→Option q16f)×Unit
def q284 (d:Nat):q283:=(q16z d,())
def q285 (C:q283):List Go.Tx.Spec:=[q16h C.1]
abbrev q286:Type:=Int×Int×Int×Int×Int×Int
def q287 (v:q286):St:=⟨[(0,.agg [.int .i64 v.1,.int .i64 v.2.1,.int .i64 v.2.2.1,.int .i64 v.2.2.2.1]),(1,.agg [.int .i64 v.2.2.2.2.1,.int .i64 v.2.2.2.2.2])],[]⟩
abbrev q288:Type:=Int×Int×Int×Int×Int×Int
def q289 (v:q288):St:=⟨[(2,.ptr 0 0),(3,.ptr 1 0)],[.cells [.int .i64 v.1,.int .i64 v.2.1,.int .i64 v.2.2.1,.int .i64 v.2.2.2.1],.cells [.int .i64 v.2.2.2.2.1,.int .i64 v.2.2.2.2.2]]⟩
def q28a (C:q283) (v:q286):Dt q288:=(Dt.ret (v.1,v.2.1,v.2.2.1,v.2.2.2.1,v.2.2.2.2.1,v.2.2.2.2.2))
abbrev q406 {V Y:Type}:=@rg q283 V Y tysT (fun C=>(orc (q285 C))) 10
theorem q28b C v:q406 (regO (qcz f115) 0) false (an [2,3]) q287 q28a q289 C v:=rgI (by kernel_rfl)
abbrev q28c:Type:=Bool
def q28d (v:q28c):St:=⟨[(9,.bool v)],[]⟩
def q28e (C:q283) (v:q288):Dt q28c:=(Dt.bnd (C.1 ((v.1,v.2.1,()),(v.2.2.2.2.1,v.2.2.2.2.2,()),())) fun r1=>(Dt.ret (decide (r1 > (0:Int)))))
theorem q28f C v:q406 (regO (qcz f115) 1) false [(9,.any)] q289 q28e q28d C v:=rgI (by kernel_rfl)
abbrev q28g:Type:=Int
def q28h (v:q28g):St:=⟨[(4,.int .i64 v)],[]⟩
def q28i (C:q283) (v:q28c):Dt q28g:=(Dt.ret (1:Int))
theorem q28j C v:q406 (regO (qcz f115) 2) false [(4,.any)] q28d q28i q28h C v:=rgI (by kernel_rfl)
def q28k (C:q283) (v:q28c):Dt q28g:=(Dt.ret (-1:Int))
theorem q28l C v:q406 (regO (qcz f115) 3) false [(4,.any)] q28d q28k q28h C v:=rgI (by kernel_rfl)
def q28m (d:Nat) (x:q27z):Option q280 :=
 (q28a (q284 d) (x.1.1,x.1.2.1,x.1.2.2.1,x.1.2.2.2.1,x.2.1.1,x.2.1.2.1)).eval fun y0 =>
 (q28e (q284 d) y0).eval fun y1 =>
 bif y1 then ((q28i (q284 d) y1).eval fun y2 =>
 some y2) else ((q28k (q284 d) y1).eval fun y3 =>
 some y3)
theorem q28n (d:Nat):COK prog (q282 (q28m d)):=by
 have hm:prog.follows .mixedOrders=true:=qju
 have hT:=tys
 have hC0:OrcOK prog (orc (q285 (q284 d))):=qct (by
  intro S hS
  simp only [q285,List.mem_cons,List.not_mem_nil,or_false] at hS
  subst hS;exact q170 d)
 have hC:OrcOK prog (orc (q285 (q284 d))):=hC0
 refine q8f (c:=qcz f115) (fn:=f115) hT (by kernel_rfl) (by kernel_rfl) (by decide) fun x r h w0 φ0 Q hend=>?_
 replace h:q28m d x=some r:=h
 unfold q28m at h
 show Run prog w0 φ0 10 (qcz f115) ⟨[(0,.agg [.int .i64 x.1.1,.int .i64 x.1.2.1,.int .i64 x.1.2.2.1,.int .i64 x.1.2.2.2.1]),(1,.agg [.int .i64 x.2.1.1,.int .i64 x.2.1.2.1])],[]⟩ Q
 refine q3yy hm hT hC (q28b (q284 d) (x.1.1,x.1.2.1,x.1.2.2.1,x.1.2.2.2.1,x.2.1.1,x.2.1.2.1)) h fun y0 h=>?_
 refine q7z ?_
 refine q3yy hm hT hC (q28f (q284 d) y0) h fun y1 h=>?_
 refine q83 (v:=y1) (by kernel_rfl) h ?_ ?_
 ·
  intro h
  refine q3yy hm hT hC (q28j (q284 d) y1) h fun y2 h=>?_
  refine q7y (q7n ?_)
  cases h
  exact (hend _ (by kernel_rfl)).2
 ·
  intro h
  refine q7v (q7l ?_)
  refine q3yy hm hT hC (q28l (q284 d) y1) h fun y3 h=>?_
  refine q7y ?_
  cases h
  exact (hend _ (by kernel_rfl)).2
abbrev q28o:List Pk:=[.row qji false,.row Rii true,.fn 115 []]
abbrev q28p:Type:=qjj×Dii×(Unit)×Unit
abbrev q28q:Type:=Int×Bool
def q28r (r:q28q):LV×List Ob:=(.tup [.int .i64 r.1,.bool r.2],[])
def q28s (F:q28p→Option q28q):Go.Tx.Spec:=⟨114,q28o,q28q,F,q28r⟩
abbrev q28t:Type:=(q27z→Option q280)×Unit
def q28u (d:Nat):q28t:=(q28m d,())
def q28v (C:q28t):List Go.Tx.Spec:=[q282 C.1]
abbrev q28w:Type:=List qjg×Int×Int
def q28x (v:q28w):St:=⟨[(0,.fz qjf v.1),(1,.agg [.int .i64 v.2.1,.int .i64 v.2.2]),(2,.fn 115 [])],[]⟩
abbrev q28y:Type:=List qjg×Int×Int
def q28z (v:q28y):St:=⟨[(0,.fz qjf v.1),(2,.fn 115 []),(4,.ptr 0 0)],[.cells [.int .i64 v.2.1,.int .i64 v.2.2]]⟩
def q290 (C:q28t) (v:q28w):Dt q28y:=(Dt.ret (v.1,v.2.1,v.2.2))
abbrev q407 {V Y:Type}:=@rg q28t V Y tysT (fun C=>(orc (q28v C))) 49
theorem q291 C v:q407 (regO (qcz f114) 0) false [(0,(.val qjf)),(2,.any),(4,.any)] q28x q290 q28z C v:=rgI (by kernel_rfl)
abbrev q292:Type:=List qjg×Int×Int×Int
def q293 (v:q292):St:=⟨[(0,.fz qjf v.1),(2,.fn 115 []),(4,.ptr 0 0),(8,.int .i64 v.2.1)],[.cells [.int .i64 v.2.2.1,.int .i64 v.2.2.2]]⟩
def q294 (C:q28t) (v:q28y):Dt q292:=(Dt.ret (v.1,(List.length v.1:Int),v.2.1,v.2.2))
theorem q295 C v:q407 (regO (qcz f114) 1) false [(0,(.val qjf)),(2,.any),(4,.any),(8,.any)] q28z q294 q293 C v:=rgI (by kernel_rfl)
abbrev q296:Type:=List qjg×Int×Int×Int×Int×Int
def q297 (v:q296):St:=⟨[(0,.fz qjf v.1),(2,.fn 115 []),(4,.ptr 0 0),(8,.int .i64 v.2.1),(9,.int .i64 v.2.2.1),(10,.int .i64 v.2.2.2.1)],[.cells [.int .i64 v.2.2.2.2.1,.int .i64 v.2.2.2.2.2]]⟩
def q298 (C:q28t) (v:q292):Dt q296:=(Dt.ret (v.1,v.2.1,(0:Int),v.2.1,v.2.2.1,v.2.2.2))
theorem q299 C v:q407 (regO (qcz f114) 2) false [(0,(.val qjf)),(2,.any),(4,.any),(8,.any),(9,.any),(10,.any)] q293 q298 q297 C v:=rgI (by kernel_rfl)
abbrev q29a:Type:=List qjg×Int×Int×Int×Bool×Int×Int
def q29b (v:q29a):St:=⟨[(0,.fz qjf v.1),(2,.fn 115 []),(4,.ptr 0 0),(8,.int .i64 v.2.1),(9,.int .i64 v.2.2.1),(10,.int .i64 v.2.2.2.1),(17,.bool v.2.2.2.2.1)],[.cells [.int .i64 v.2.2.2.2.2.1,.int .i64 v.2.2.2.2.2.2]]⟩
def q29c (C:q28t) (v:q296):Dt q29a:=(Dt.ret (v.1,v.2.1,v.2.2.1,v.2.2.2.1,(decide (v.2.2.1 < v.2.2.2.1)),v.2.2.2.2.1,v.2.2.2.2.2))
theorem q29d C v:q407 (regO (qcz f114) 3) false [(0,(.val qjf)),(2,.any),(4,.any),(8,.any),(9,.any),(10,.any),(17,.any)] q297 q29c q29b C v:=rgI (by kernel_rfl)
abbrev q29e:Type:=List qjg×Int×Int×Int×Int×Int×Int
def q29f (v:q29e):St:=⟨[(0,.fz qjf v.1),(2,.fn 115 []),(4,.ptr 0 0),(8,.int .i64 v.2.1),(9,.int .i64 v.2.2.1),(10,.int .i64 v.2.2.2.1),(11,.int .i64 v.2.2.2.2.1)],[.cells [.int .i64 v.2.2.2.2.2.1,.int .i64 v.2.2.2.2.2.2]]⟩
def q29g (C:q28t) (v:q29a):Dt q29e:=(Dt.ret (v.1,v.2.1,v.2.2.1,v.2.2.2.1,(IntKind.wrap .i64 (shrI .u64 (IntKind.wrap .u64 (IntKind.wrap .i64 (v.2.2.1 + v.2.2.2.1))) (1:Int))),v.2.2.2.2.2.1,v.2.2.2.2.2.2))
theorem q29h C v:q407 (regO (qcz f114) 4) false [(0,(.val qjf)),(2,.any),(4,.any),(8,.any),(9,.any),(10,.any),(11,.any)] q29b q29g q29f C v:=rgI (by kernel_rfl)
abbrev q29i:Type:=List qjg×Int×Int×Int×Int×Bool×Int×Int
def q29j (v:q29i):St:=⟨[(0,.fz qjf v.1),(2,.fn 115 []),(4,.ptr 0 0),(8,.int .i64 v.2.1),(9,.int .i64 v.2.2.1),(10,.int .i64 v.2.2.2.1),(11,.int .i64 v.2.2.2.2.1),(31,.bool v.2.2.2.2.2.1)],[.cells [.int .i64 v.2.2.2.2.2.2.1,.int .i64 v.2.2.2.2.2.2.2]]⟩
def q29k (C:q28t) (v:q29e):Dt q29i:=(Dt.ite (inB v.2.2.2.2.1 (List.length v.1)) (Dt.bnd (C.1 (((elt qjh v.1 (v.2.2.2.2.1).toNat).1,(elt qjh v.1 (v.2.2.2.2.1).toNat).2.1,(elt qjh v.1 (v.2.2.2.2.1).toNat).2.2.1,(elt qjh v.1 (v.2.2.2.2.1).toNat).2.2.2.1,()),(v.2.2.2.2.2.1,v.2.2.2.2.2.2,()),())) fun r1=>(Dt.ret (v.1,v.2.1,v.2.2.1,v.2.2.2.1,v.2.2.2.2.1,(decide (r1 < (0:Int))),v.2.2.2.2.2.1,v.2.2.2.2.2.2))) Dt.fail)
theorem q29l C v:q407 (regO (qcz f114) 5) true [(0,(.val qjf)),(2,.any),(4,.any),(8,.any),(9,.any),(10,.any),(11,.any),(31,.any)] q29f q29k q29j C v:=rgI (by kernel_rfl)
def q29m (C:q28t) (v:q29i):Dt q296:=(Dt.ret (v.1,v.2.1,(IntKind.wrap .i64 (v.2.2.2.2.1 + (1:Int))),v.2.2.2.1,v.2.2.2.2.2.2.1,v.2.2.2.2.2.2.2))
theorem q29n C v:q407 (regO (qcz f114) 6) false [(0,(.val qjf)),(2,.any),(4,.any),(8,.any),(9,.any),(10,.any)] q29j q29m q297 C v:=rgI (by kernel_rfl)
def q29o (C:q28t) (v:q29i):Dt q296:=(Dt.ret (v.1,v.2.1,v.2.2.1,v.2.2.2.2.1,v.2.2.2.2.2.2.1,v.2.2.2.2.2.2.2))
theorem q29p C v:q407 (regO (qcz f114) 7) false [(0,(.val qjf)),(2,.any),(4,.any),(8,.any),(9,.any),(10,.any)] q29j q29o q297 C v:=rgI (by kernel_rfl)
abbrev q29q:Type:=Int×Bool
def q29r (v:q29q):St:=⟨[(6,.int .i64 v.1),(7,.bool v.2)],[]⟩
def q29s (C:q28t) (v:q29a):Dt q29q:=(Dt.ite (decide (v.2.2.1 < v.2.1)) (Dt.ite (inB v.2.2.1 (List.length v.1)) (Dt.bnd (C.1 (((elt qjh v.1 (v.2.2.1).toNat).1,(elt qjh v.1 (v.2.2.1).toNat).2.1,(elt qjh v.1 (v.2.2.1).toNat).2.2.1,(elt qjh v.1 (v.2.2.1).toNat).2.2.2.1,()),(v.2.2.2.2.2.1,v.2.2.2.2.2.2,()),())) fun r1=>(Dt.ret (v.2.2.1,(r1 == (0:Int))))) Dt.fail) (Dt.ret (v.2.2.1,false)))
theorem q29t C v:q407 (regO (qcz f114) 8) true (an [6,7]) q29b q29s q29r C v:=rgI (by kernel_rfl)
def q29u (d:Nat) (self1:(List qjg×Int×Int×Int×Int×Int)→Option q28q) (x1:List qjg×Int×Int×Int×Int×Int):Option q28q :=
 (q29c (q28u d) x1).eval fun y3 =>
 bif y3.2.2.2.2.1 then ((q29g (q28u d) y3).eval fun y4 =>
 (q29k (q28u d) y4).eval fun y5 =>
 bif y5.2.2.2.2.2.1 then ((q29m (q28u d) y5).eval fun y6 =>
 self1 y6) else ((q29o (q28u d) y5).eval fun y7 =>
 self1 y7)) else ((q29s (q28u d) y3).eval fun y8 =>
 some y8)
def q29v (d:Nat) (x:q28p):Option q28q :=
 (q290 (q28u d) (x.1.1,x.2.1.1,x.2.1.2.1)).eval fun y0 =>
 (q294 (q28u d) y0).eval fun y1 =>
 (q298 (q28u d) y1).eval fun y2 =>
 iter (q29u d ) d y2
theorem q29w (d:Nat):COK prog (q28s (q29v d)):=by
 have hm:prog.follows .mixedOrders=true:=qju
 have hT:=tys
 have hC0:OrcOK prog (orc (q28v (q28u d))):=qct (by
  intro S hS
  simp only [q28v,List.mem_cons,List.not_mem_nil,or_false] at hS
  subst hS;exact q28n d)
 have hC:OrcOK prog (orc (q28v (q28u d))):=hC0
 refine q8f (c:=qcz f114) (fn:=f114) hT (by kernel_rfl) (by kernel_rfl) (by decide) fun x r h w0 φ0 Q hend=>?_
 replace h:q29v d x=some r:=h
 unfold q29v at h
 show Run prog w0 φ0 49 (qcz f114) ⟨[(0,.fz qjf x.1.1),(1,.agg [.int .i64 x.2.1.1,.int .i64 x.2.1.2.1]),(2,.fn 115 [])],[]⟩ Q
 refine q3yy hm hT hC (q291 (q28u d) (x.1.1,x.2.1.1,x.2.1.2.1)) h fun y0 h=>?_
 refine q3yy hm hT hC (q295 (q28u d) y0) h fun y1 h=>?_
 refine q3yy hm hT hC (q299 (q28u d) y1) h fun y2 h=>?_
 refine q7z (q80 ?_)
 refine q85 (G:=iter (q29u d )) (S:=(fun x1=>⟨[(0,.fz qjf x1.1),(2,.fn 115 []),(4,.ptr 0 0),(8,.int .i64 x1.2.1),(9,.int .i64 x1.2.2.1),(10,.int .i64 x1.2.2.2.1)],[.cells [.int .i64 x1.2.2.2.2.1,.int .i64 x1.2.2.2.2.2]]⟩:List qjg×Int×Int×Int×Int×Int→St)) (fun _=>rfl) ?_ d _ h
 intro n1 x1 h K1 hn1
 replace h:q29u d  (iter (q29u d ) n1) x1=some r:=h
 generalize iter (q29u d ) n1=self1 at h hn1
 unfold q29u at h
 refine q7z ?_
 refine q3yy hm hT hC (q29d (q28u d) x1) h fun y3 h=>?_
 refine q83 (v:=y3.2.2.2.2.1) (by kernel_rfl) h ?_ ?_
 ·
  intro h
  refine q7v (q7l (q80 ?_))
  refine q3yy hm hT hC (q29h (q28u d) y3) h fun y4 h=>?_
  refine q3yy hm hT hC (q29l (q28u d) y4) h fun y5 h=>?_
  refine q83 (v:=y5.2.2.2.2.2.1) (by kernel_rfl) h ?_ ?_
  ·
   intro h
   refine q84 hm hT hC (q29n (q28u d) y5) h ?_
   intro y6 h
   refine q7o ?_
   exact hn1 _ h
  ·
   intro h
   refine q84 hm hT hC (q29p (q28u d) y5) h ?_
   intro y7 h
   refine q7o ?_
   exact hn1 _ h
 ·
  intro h
  refine q7x (q7m (q7m (q7q (q7l ?_))))
  refine q3yy hm hT hC (q29t (q28u d) y3) h fun y8 h=>?_
  refine q7y ?_
  cases h
  exact (hend _ (by kernel_rfl)).2
abbrev q29x:List Pk:=[.row qji false,.row Rii true]
abbrev q29y:Type:=qjj×Dii×Unit
abbrev q29z:Type:=Int
def q2a0 (r:q29z):LV×List Ob:=(.int .i64 r,[])
def q2a1 (F:q29y→Option q29z):Go.Tx.Spec:=⟨55,q29x,q29z,F,q2a0⟩
abbrev q2a2:Type:=(q28p→Option q28q)×Unit
def q2a3 (d:Nat):q2a2:=(q29v d,())
def q2a4 (C:q2a2):List Go.Tx.Spec:=[q28s C.1]
abbrev q2a5:Type:=List qjg×Int×Int
def q2a6 (v:q2a5):St:=⟨[(0,.fz qjf v.1),(1,.agg [.int .i64 v.2.1,.int .i64 v.2.2])],[]⟩
abbrev q2a7:Type:=List qjg×Int×Int
def q2a8 (v:q2a7):St:=⟨[(0,.fz qjf v.1),(3,.ptr 0 0)],[.cells [.int .i64 v.2.1,.int .i64 v.2.2]]⟩
def q2a9 (C:q2a2) (v:q2a5):Dt q2a7:=(Dt.ret (v.1,v.2.1,v.2.2))
abbrev q408 {V Y:Type}:=@rg q2a2 V Y tysT (fun C=>(orc (q2a4 C))) 14
theorem q2aa C v:q408 (regO (qcz f55) 0) false [(0,(.val qjf)),(3,.any)] q2a6 q2a9 q2a8 C v:=rgI (by kernel_rfl)
abbrev q2ab:Type:=Int
def q2ac (v:q2ab):St:=⟨[(5,.int .i64 v)],[]⟩
def q2ad (C:q2a2) (v:q2a7):Dt q2ab:=(Dt.bnd (C.1 ((v.1,()),(v.2.1,v.2.2,()),(()),())) fun r1=>(Dt.ret r1.1))
theorem q2ae C v:q408 (regO (qcz f55) 1) false [(5,.any)] q2a8 q2ad q2ac C v:=rgI (by kernel_rfl)
abbrev q2af:Type:=Int
def q2ag (v:q2af):St:=⟨[(4,.int .i64 v)],[]⟩
def q2ah (C:q2a2) (v:q2ab):Dt q2af:=(Dt.ret v)
theorem q2ai C v:q408 (regO (qcz f55) 2) false [(4,.any)] q2ac q2ah q2ag C v:=rgI (by kernel_rfl)
def q2aj (d:Nat) (x:q29y):Option q29z :=
 (q2a9 (q2a3 d) (x.1.1,x.2.1.1,x.2.1.2.1)).eval fun y0 =>
 (q2ad (q2a3 d) y0).eval fun y1 =>
 (q2ah (q2a3 d) y1).eval fun y2 =>
 some y2
theorem q2ak (d:Nat):COK prog (q2a1 (q2aj d)):=by
 have hm:prog.follows .mixedOrders=true:=qju
 have hT:=tys
 have hC0:OrcOK prog (orc (q2a4 (q2a3 d))):=qct (by
  intro S hS
  simp only [q2a4,List.mem_cons,List.not_mem_nil,or_false] at hS
  subst hS;exact q29w d)
 have hC:OrcOK prog (orc (q2a4 (q2a3 d))):=hC0
 refine q8f (c:=qcz f55) (fn:=f55) hT (by kernel_rfl) (by kernel_rfl) (by decide) fun x r h w0 φ0 Q hend=>?_
 replace h:q2aj d x=some r:=h
 unfold q2aj at h
 show Run prog w0 φ0 14 (qcz f55) ⟨[(0,.fz qjf x.1.1),(1,.agg [.int .i64 x.2.1.1,.int .i64 x.2.1.2.1])],[]⟩ Q
 refine q3yy hm hT hC (q2aa (q2a3 d) (x.1.1,x.2.1.1,x.2.1.2.1)) h fun y0 h=>?_
 refine q3yy hm hT hC (q2ae (q2a3 d) y0) h fun y1 h=>?_
 refine q3yy hm hT hC (q2ai (q2a3 d) y1) h fun y2 h=>?_
 refine q7y ?_
 cases h
 exact (hend _ (by kernel_rfl)).2
abbrev q2al:List Pk:=[.row qjc true,.row Rii true,.row Rii true]
abbrev q2am:Type:=qjd×Dii×Dii×Unit
abbrev q2an:Type:=List qjg×Int
def q2ao (r:q2an):LV×List Ob:=(.tup [.fz qjf r.1,.int .i64 r.2],[])
def q2ap (F:q2am→Option q2an):Go.Tx.Spec:=⟨13,q2al,q2an,F,q2ao⟩
abbrev q2aq:Type:=(q172→Option q173)×(q26h→Option q26i)×(q29y→Option q29z)×Unit
def q2ar (d:Nat):q2aq:=(q18o d,q27w d,q2aj d,())
def q2as (C:q2aq):List Go.Tx.Spec:=[q175 C.1,q26k C.2.1,q2a1 C.2.2.1]
abbrev q2at:Type:=List Diii×Int×Int×Int×Int
def q2au (v:q2at):St:=⟨[(0,.agg [.fz Riii v.1]),(1,.agg [.int .i64 v.2.1,.int .i64 v.2.2.1]),(2,.agg [.int .i64 v.2.2.2.1,.int .i64 v.2.2.2.2])],[]⟩
abbrev q2av:Type:=List Diii×Int×Int×Int×Int
def q2aw (v:q2av):St:=⟨[(3,.ptr 0 0),(4,.ptr 1 0),(5,.ptr 2 0)],[.cells [.fz Riii v.1],.cells [.int .i64 v.2.1,.int .i64 v.2.2.1],.cells [.int .i64 v.2.2.2.1,.int .i64 v.2.2.2.2]]⟩
def q2ax (C:q2aq) (v:q2at):Dt q2av:=(Dt.ret (v.1,v.2.1,v.2.2.1,v.2.2.2.1,v.2.2.2.2))
abbrev q409 {V Y:Type}:=@rg q2aq V Y tysT (fun C=>(orc (q2as C))) 33
theorem q2ay C v:q409 (regO (qcz f13) 0) false [(3,(.box [.val Riii])),(4,.any),(5,.any)] q2au q2ax q2aw C v:=rgI (by kernel_rfl)
abbrev q2az:Type:=Int×List Diii×Int×Int×Int×Int
def q2b0 (v:q2az):St:=⟨[(3,.ptr 0 0),(4,.ptr 1 0),(5,.ptr 2 0),(8,.int .i64 v.1)],[.cells [.fz Riii v.2.1],.cells [.int .i64 v.2.2.1,.int .i64 v.2.2.2.1],.cells [.int .i64 v.2.2.2.2.1,.int .i64 v.2.2.2.2.2]]⟩
def q2b1 (C:q2aq) (v:q2av):Dt q2az:=(Dt.bnd (C.1 ((v.1,()),(([(v.2.1,v.2.2.1,()),(v.2.2.2.1,v.2.2.2.2,())]:List Dii),()),())) fun r1=>(Dt.ret (r1,v.1,v.2.1,v.2.2.1,v.2.2.2.1,v.2.2.2.2)))
theorem q2b2 C v:q409 (regO (qcz f13) 1) false [(3,(.box [.val Riii])),(4,.any),(5,.any),(8,.any)] q2aw q2b1 q2b0 C v:=rgI (by kernel_rfl)
abbrev q2b3:Type:=Int×Bool×List Diii×Int×Int×Int×Int
def q2b4 (v:q2b3):St:=⟨[(3,.ptr 0 0),(4,.ptr 1 0),(5,.ptr 2 0),(8,.int .i64 v.1),(18,.bool v.2.1)],[.cells [.fz Riii v.2.2.1],.cells [.int .i64 v.2.2.2.1,.int .i64 v.2.2.2.2.1],.cells [.int .i64 v.2.2.2.2.2.1,.int .i64 v.2.2.2.2.2.2]]⟩
def q2b5 (C:q2aq) (v:q2az):Dt q2b3:=(Dt.ret (v.1,(v.1 != (0:Int)),v.2.1,v.2.2.1,v.2.2.2.1,v.2.2.2.2.1,v.2.2.2.2.2))
theorem q2b6 C v:q409 (regO (qcz f13) 2) false [(3,(.box [.val Riii])),(4,.any),(5,.any),(8,.any),(18,.any)] q2b0 q2b5 q2b4 C v:=rgI (by kernel_rfl)
abbrev q2b7:Type:=List qjg×Int
def q2b8 (v:q2b7):St:=⟨[(6,.fz qjf v.1),(7,.int .i64 v.2)],[]⟩
def q2b9 (C:q2aq) (v:q2b3):Dt q2b7:=(Dt.ret (([]:List qjg),v.1))
theorem q2ba C v:q409 (regO (qcz f13) 3) false [(6,(.val qjf)),(7,.any)] q2b4 q2b9 q2b8 C v:=rgI (by kernel_rfl)
abbrev q2bb:Type:=Int×Int×Int×Int×List qjg
def q2bc (v:q2bb):St:=⟨[(4,.ptr 0 0),(5,.ptr 1 0),(9,.rs 2)],[.cells [.int .i64 v.1,.int .i64 v.2.1],.cells [.int .i64 v.2.2.1,.int .i64 v.2.2.2.1],.rows qjf v.2.2.2.2]⟩
def q2bd (C:q2aq) (v:q2b3):Dt q2bb:=(Dt.bnd (C.2.1 ((v.2.2.1,()),())) fun r1=>(Dt.ret (v.2.2.2.1,v.2.2.2.2.1,v.2.2.2.2.2.1,v.2.2.2.2.2.2,r1)))
theorem q2be C v:q409 (regO (qcz f13) 4) false [(4,.any),(5,.any),(9,(.own qjf))] q2b4 q2bd q2bc C v:=rgI (by kernel_rfl)
abbrev q2bf:Type:=Int×Int×List qjg
def q2bg (v:q2bf):St:=⟨[(9,.rs 0),(10,.int .i64 v.1),(11,.int .i64 v.2.1)],[.rows qjf v.2.2]⟩
def q2bh (C:q2aq) (v:q2bb):Dt q2bf:=(Dt.bnd (C.2.2.1 ((v.2.2.2.2,()),(v.1,v.2.1,()),())) fun r1=>(Dt.bnd (C.2.2.1 ((v.2.2.2.2,()),(v.2.2.1,v.2.2.2.1,()),())) fun r2=>(Dt.ret (r1,r2,v.2.2.2.2))))
theorem q2bi C v:q409 (regO (qcz f13) 5) true [(9,(.own qjf)),(10,.any),(11,.any)] q2bc q2bh q2bg C v:=rgI (by kernel_rfl)
def q2bj (C:q2aq) (v:q2bf):Dt q2b7:=(Dt.ite (q3k v.1 v.2.1 v.2.1 (List.length v.2.2)) (Dt.ret ((List.drop (v.1).toNat (List.take (v.2.1).toNat v.2.2)),(0:Int))) Dt.fail)
theorem q2bk C v:q409 (regO (qcz f13) 6) false [(6,(.val qjf)),(7,.any)] q2bg q2bj q2b8 C v:=rgI (by kernel_rfl)
def q2bl (d:Nat) (x:q2am):Option q2an :=
 (q2ax (q2ar d) (x.1.1,x.2.1.1,x.2.1.2.1,x.2.2.1.1,x.2.2.1.2.1)).eval fun y0 =>
 (q2b1 (q2ar d) y0).eval fun y1 =>
 (q2b5 (q2ar d) y1).eval fun y2 =>
 bif y2.2.1 then ((q2b9 (q2ar d) y2).eval fun y3 =>
 some y3) else ((q2bd (q2ar d) y2).eval fun y4 =>
 (q2bh (q2ar d) y4).eval fun y5 =>
 (q2bj (q2ar d) y5).eval fun y6 =>
 some y6)
theorem q2bm (d:Nat):COK prog (q2ap (q2bl d)):=by
 have hm:prog.follows .mixedOrders=true:=qju
 have hT:=tys
 have hC0:OrcOK prog (orc (q2as (q2ar d))):=qct (by
  intro S hS
  simp only [q2as,List.mem_cons,List.not_mem_nil,or_false] at hS
  rcases hS with rfl | rfl | rfl
  · exact q18p d
  · exact q27x d
  · exact q2ak d)
 have hC:OrcOK prog (orc (q2as (q2ar d))):=hC0
 refine q8f (c:=qcz f13) (fn:=f13) hT (by kernel_rfl) (by kernel_rfl) (by decide) fun x r h w0 φ0 Q hend=>?_
 replace h:q2bl d x=some r:=h
 unfold q2bl at h
 show Run prog w0 φ0 33 (qcz f13) ⟨[(0,.agg [.fz Riii x.1.1]),(1,.agg [.int .i64 x.2.1.1,.int .i64 x.2.1.2.1]),(2,.agg [.int .i64 x.2.2.1.1,.int .i64 x.2.2.1.2.1])],[]⟩ Q
 refine q3yy hm hT hC (q2ay (q2ar d) (x.1.1,x.2.1.1,x.2.1.2.1,x.2.2.1.1,x.2.2.1.2.1)) h fun y0 h=>?_
 refine q7z ?_
 refine q3yy hm hT hC (q2b2 (q2ar d) y0) h fun y1 h=>?_
 refine q3yy hm hT hC (q2b6 (q2ar d) y1) h fun y2 h=>?_
 refine q83 (v:=y2.2.1) (by kernel_rfl) h ?_ ?_
 ·
  intro h
  refine q3yy hm hT hC (q2ba (q2ar d) y2) h fun y3 h=>?_
  refine q7y (q7n ?_)
  cases h
  exact (hend _ (by kernel_rfl)).2
 ·
  intro h
  refine q7v (q7l ?_)
  refine q3yy hm hT hC (q2be (q2ar d) y2) h fun y4 h=>?_
  refine q3yy hm hT hC (q2bi (q2ar d) y4) h fun y5 h=>?_
  refine q3yy hm hT hC (q2bk (q2ar d) y5) h fun y6 h=>?_
  refine q7y ?_
  cases h
  exact (hend _ (by kernel_rfl)).2
abbrev q2bn:List Pk:=[.row qjc true,.row Rii true,.row Rii true]
abbrev q2bo:Type:=qjd×Dii×Dii×Unit
abbrev q2bp:Type:=Int×Int
def q2bq (r:q2bp):LV×List Ob:=(.tup [.int .i64 r.1,.int .i64 r.2],[])
def q2br (F:q2bo→Option q2bp):Go.Tx.Spec:=⟨133,q2bn,q2bp,F,q2bq⟩
abbrev q2bs:Type:=(q2am→Option q2an)×Unit
def q2bt (d:Nat):q2bs:=(q2bl d,())
def q2bu (C:q2bs):List Go.Tx.Spec:=[q2ap C.1]
abbrev q2bv:Type:=List Diii×Int×Int×Int×Int
def q2bw (v:q2bv):St:=⟨[(0,.agg [.fz Riii v.1]),(1,.agg [.int .i64 v.2.1,.int .i64 v.2.2.1]),(2,.agg [.int .i64 v.2.2.2.1,.int .i64 v.2.2.2.2])],[]⟩
abbrev q2bx:Type:=List Diii×Int×Int×Int×Int
def q2by (v:q2bx):St:=⟨[(3,.ptr 0 0),(4,.ptr 1 0),(5,.ptr 2 0)],[.cells [.fz Riii v.1],.cells [.int .i64 v.2.1,.int .i64 v.2.2.1],.cells [.int .i64 v.2.2.2.1,.int .i64 v.2.2.2.2]]⟩
def q2bz (C:q2bs) (v:q2bv):Dt q2bx:=(Dt.ret (v.1,v.2.1,v.2.2.1,v.2.2.2.1,v.2.2.2.2))
abbrev q40a {V Y:Type}:=@rg q2bs V Y tysT (fun C=>(orc (q2bu C))) 20
theorem q2c0 C v:q40a (regO (qcz f133) 0) false [(3,(.box [.val Riii])),(4,.any),(5,.any)] q2bw q2bz q2by C v:=rgI (by kernel_rfl)
abbrev q2c1:Type:=List qjg×Int
def q2c2 (v:q2c1):St:=⟨[(8,.fz qjf v.1),(9,.int .i64 v.2)],[]⟩
def q2c3 (C:q2bs) (v:q2bx):Dt q2c1:=(Dt.bnd (C.1 ((v.1,()),(v.2.1,v.2.2.1,()),(v.2.2.2.1,v.2.2.2.2,()),())) fun r1=>(Dt.ret (r1.1,r1.2)))
theorem q2c4 C v:q40a (regO (qcz f133) 1) false [(8,(.val qjf)),(9,.any)] q2by q2c3 q2c2 C v:=rgI (by kernel_rfl)
abbrev q2c5:Type:=Int×Int
def q2c6 (v:q2c5):St:=⟨[(6,.int .i64 v.1),(7,.int .i64 v.2)],[]⟩
def q2c7 (C:q2bs) (v:q2c1):Dt q2c5:=(Dt.ret ((List.length v.1:Int),v.2))
theorem q2c8 C v:q40a (regO (qcz f133) 2) false (an [6,7]) q2c2 q2c7 q2c6 C v:=rgI (by kernel_rfl)
def q2c9 (d:Nat) (x:q2bo):Option q2bp :=
 (q2bz (q2bt d) (x.1.1,x.2.1.1,x.2.1.2.1,x.2.2.1.1,x.2.2.1.2.1)).eval fun y0 =>
 (q2c3 (q2bt d) y0).eval fun y1 =>
 (q2c7 (q2bt d) y1).eval fun y2 =>
 some y2
theorem q2ca (d:Nat):COK prog (q2br (q2c9 d)):=by
 have hm:prog.follows .mixedOrders=true:=qju
 have hT:=tys
 have hC0:OrcOK prog (orc (q2bu (q2bt d))):=qct (by
  intro S hS
  simp only [q2bu,List.mem_cons,List.not_mem_nil,or_false] at hS
  subst hS;exact q2bm d)
 have hC:OrcOK prog (orc (q2bu (q2bt d))):=hC0
 refine q8f (c:=qcz f133) (fn:=f133) hT (by kernel_rfl) (by kernel_rfl) (by decide) fun x r h w0 φ0 Q hend=>?_
 replace h:q2c9 d x=some r:=h
 unfold q2c9 at h
 show Run prog w0 φ0 20 (qcz f133) ⟨[(0,.agg [.fz Riii x.1.1]),(1,.agg [.int .i64 x.2.1.1,.int .i64 x.2.1.2.1]),(2,.agg [.int .i64 x.2.2.1.1,.int .i64 x.2.2.1.2.1])],[]⟩ Q
 refine q3yy hm hT hC (q2c0 (q2bt d) (x.1.1,x.2.1.1,x.2.1.2.1,x.2.2.1.1,x.2.2.1.2.1)) h fun y0 h=>?_
 refine q3yy hm hT hC (q2c4 (q2bt d) y0) h fun y1 h=>?_
 refine q3yy hm hT hC (q2c8 (q2bt d) y1) h fun y2 h=>?_
 refine q7y ?_
 cases h
 exact (hend _ (by kernel_rfl)).2
abbrev q2cb:List Pk:=[.row qjc true,.row Rii true,.row Rii true]
abbrev q2cc:Type:=qjd×Dii×Dii×Unit
abbrev q2cd:Type:=Int
def q2ce (r:q2cd):LV×List Ob:=(.int .i64 r,[])
def q2cf (F:q2cc→Option q2cd):Go.Tx.Spec:=⟨75,q2cb,q2cd,F,q2ce⟩
abbrev q2cg:Type:=(q2bo→Option q2bp)×Unit
def q2ch (d:Nat):q2cg:=(q2c9 d,())
def q2ci (C:q2cg):List Go.Tx.Spec:=[q2br C.1]
abbrev q2cj:Type:=List Diii×Int×Int×Int×Int
def q2ck (v:q2cj):St:=⟨[(0,.agg [.fz Riii v.1]),(1,.agg [.int .i64 v.2.1,.int .i64 v.2.2.1]),(2,.agg [.int .i64 v.2.2.2.1,.int .i64 v.2.2.2.2])],[]⟩
abbrev q2cl:Type:=List Diii×Int×Int×Int×Int
def q2cm (v:q2cl):St:=⟨[(3,.ptr 0 0),(4,.ptr 1 0),(5,.ptr 2 0)],[.cells [.fz Riii v.1],.cells [.int .i64 v.2.1,.int .i64 v.2.2.1],.cells [.int .i64 v.2.2.2.1,.int .i64 v.2.2.2.2]]⟩
def q2cn (C:q2cg) (v:q2cj):Dt q2cl:=(Dt.ret (v.1,v.2.1,v.2.2.1,v.2.2.2.1,v.2.2.2.2))
abbrev q40b {V Y:Type}:=@rg q2cg V Y tysT (fun C=>(orc (q2ci C))) 23
theorem q2co C v:q40b (regO (qcz f75) 0) false [(3,(.box [.val Riii])),(4,.any),(5,.any)] q2ck q2cn q2cm C v:=rgI (by kernel_rfl)
abbrev q2cp:Type:=Int×List Diii
def q2cq (v:q2cp):St:=⟨[(3,.ptr 0 0),(8,.int .i64 v.1)],[.cells [.fz Riii v.2]]⟩
def q2cr (C:q2cg) (v:q2cl):Dt q2cp:=(Dt.bnd (C.1 ((v.1,()),(v.2.1,v.2.2.1,()),(v.2.2.2.1,v.2.2.2.2,()),())) fun r1=>(Dt.ret (r1.2,v.1)))
theorem q2cs C v:q40b (regO (qcz f75) 1) false [(3,(.box [.val Riii])),(8,.any)] q2cm q2cr q2cq C v:=rgI (by kernel_rfl)
abbrev q2ct:Type:=Int×Bool×List Diii
def q2cu (v:q2ct):St:=⟨[(3,.ptr 0 0),(8,.int .i64 v.1),(17,.bool v.2.1)],[.cells [.fz Riii v.2.2]]⟩
def q2cv (C:q2cg) (v:q2cp):Dt q2ct:=(Dt.ret (v.1,(v.1 != (0:Int)),v.2))
theorem q2cw C v:q40b (regO (qcz f75) 2) false [(3,(.box [.val Riii])),(8,.any),(17,.any)] q2cq q2cv q2cu C v:=rgI (by kernel_rfl)
abbrev q2cx:Type:=Int
def q2cy (v:q2cx):St:=⟨[(6,.int .i64 v)],[]⟩
def q2cz (C:q2cg) (v:q2ct):Dt q2cx:=(Dt.ret v.1)
theorem q2d0 C v:q40b (regO (qcz f75) 3) false [(6,.any)] q2cu q2cz q2cy C v:=rgI (by kernel_rfl)
abbrev q2d1:Type:=Bool
def q2d2 (v:q2d1):St:=⟨[(22,.bool v)],[]⟩
def q2d3 (C:q2cg) (v:q2ct):Dt q2d1:=(Dt.ret ((List.length v.2.2:Int) == (0:Int)))
theorem q2d4 C v:q40b (regO (qcz f75) 4) false [(22,.any)] q2cu q2d3 q2d2 C v:=rgI (by kernel_rfl)
def q2d5 (C:q2cg) (v:q2d1):Dt q2cx:=(Dt.ret (42:Int))
theorem q2d6 C v:q40b (regO (qcz f75) 5) false [(6,.any)] q2d2 q2d5 q2cy C v:=rgI (by kernel_rfl)
def q2d7 (C:q2cg) (v:q2d1):Dt q2cx:=(Dt.ret (0:Int))
theorem q2d8 C v:q40b (regO (qcz f75) 6) false [(6,.any)] q2d2 q2d7 q2cy C v:=rgI (by kernel_rfl)
def q2d9 (d:Nat) (x:q2cc):Option q2cd :=
 (q2cn (q2ch d) (x.1.1,x.2.1.1,x.2.1.2.1,x.2.2.1.1,x.2.2.1.2.1)).eval fun y0 =>
 (q2cr (q2ch d) y0).eval fun y1 =>
 (q2cv (q2ch d) y1).eval fun y2 =>
 bif y2.2.1 then ((q2cz (q2ch d) y2).eval fun y3 =>
 some y3) else ((q2d3 (q2ch d) y2).eval fun y4 =>
 bif y4 then ((q2d5 (q2ch d) y4).eval fun y5 =>
 some y5) else ((q2d7 (q2ch d) y4).eval fun y6 =>
 some y6))
theorem q2da (d:Nat):COK prog (q2cf (q2d9 d)):=by
 have hm:prog.follows .mixedOrders=true:=qju
 have hT:=tys
 have hC0:OrcOK prog (orc (q2ci (q2ch d))):=qct (by
  intro S hS
  simp only [q2ci,List.mem_cons,List.not_mem_nil,or_false] at hS
  subst hS;exact q2ca d)
 have hC:OrcOK prog (orc (q2ci (q2ch d))):=hC0
 refine q8f (c:=qcz f75) (fn:=f75) hT (by kernel_rfl) (by kernel_rfl) (by decide) fun x r h w0 φ0 Q hend=>?_
 replace h:q2d9 d x=some r:=h
 unfold q2d9 at h
 show Run prog w0 φ0 23 (qcz f75) ⟨[(0,.agg [.fz Riii x.1.1]),(1,.agg [.int .i64 x.2.1.1,.int .i64 x.2.1.2.1]),(2,.agg [.int .i64 x.2.2.1.1,.int .i64 x.2.2.1.2.1])],[]⟩ Q
 refine q3yy hm hT hC (q2co (q2ch d) (x.1.1,x.2.1.1,x.2.1.2.1,x.2.2.1.1,x.2.2.1.2.1)) h fun y0 h=>?_
 refine q7z ?_
 refine q3yy hm hT hC (q2cs (q2ch d) y0) h fun y1 h=>?_
 refine q3yy hm hT hC (q2cw (q2ch d) y1) h fun y2 h=>?_
 refine q83 (v:=y2.2.1) (by kernel_rfl) h ?_ ?_
 ·
  intro h
  refine q3yy hm hT hC (q2d0 (q2ch d) y2) h fun y3 h=>?_
  refine q7y (q7n ?_)
  cases h
  exact (hend _ (by kernel_rfl)).2
 ·
  intro h
  refine q7v (q7l (q7z ?_))
  refine q3yy hm hT hC (q2d4 (q2ch d) y2) h fun y4 h=>?_
  refine q83 (v:=y4) (by kernel_rfl) h ?_ ?_
  ·
   intro h
   refine q3yy hm hT hC (q2d6 (q2ch d) y4) h fun y5 h=>?_
   refine q7y (q7n ?_)
   cases h
   exact (hend _ (by kernel_rfl)).2
  ·
   intro h
   refine q7v (q7l ?_)
   refine q3yy hm hT hC (q2d8 (q2ch d) y4) h fun y6 h=>?_
   refine q7y ?_
   cases h
   exact (hend _ (by kernel_rfl)).2
abbrev q2db:List Pk:=[.row qjc true,.row Rii true]
abbrev q2dc:Type:=qjd×Dii×Unit
abbrev q2dd:Type:=Int×Int×Int×Int×Int×Int
def q2de (r:q2dd):LV×List Ob:=(.tup [.agg [.int .i64 r.1,.int .i64 r.2.1,.int .i64 r.2.2.1],.agg [.int .i64 r.2.2.2.1,.int .i64 r.2.2.2.2.1,.int .i64 r.2.2.2.2.2]],[])
def q2df (F:q2dc→Option q2dd):Go.Tx.Spec:=⟨76,q2db,q2dd,F,q2de⟩
abbrev q2dg:Type:=(qwg→Option qwh)×(qvp→Option qvq)×Unit
def q2dh (d:Nat):q2dg:=(qwl d,qvu d,())
def q2di (C:q2dg):List Go.Tx.Spec:=[qwj C.1,qvs C.2.1]
abbrev q2dj:Type:=List Diii×Int×Int
def q2dk (v:q2dj):St:=⟨[(0,.agg [.fz Riii v.1]),(1,.agg [.int .i64 v.2.1,.int .i64 v.2.2])],[]⟩
abbrev q2dl:Type:=List Diii×Int×Int×Int×Int×Int×Int×Int×Int
def q2dm (v:q2dl):St:=⟨[(2,.ptr 0 0),(3,.ptr 1 0),(4,.ptr 2 0),(5,.ptr 3 0)],[.cells [.fz Riii v.1],.cells [.int .i64 v.2.1,.int .i64 v.2.2.1],.cells [.int .i64 v.2.2.2.1,.int .i64 v.2.2.2.2.1,.int .i64 v.2.2.2.2.2.1],.cells [.int .i64 v.2.2.2.2.2.2.1,.int .i64 v.2.2.2.2.2.2.2.1,.int .i64 v.2.2.2.2.2.2.2.2]]⟩
def q2dn (C:q2dg) (v:q2dj):Dt q2dl:=(Dt.ret (v.1,v.2.1,v.2.2,(0:Int),(0:Int),(0:Int),(0:Int),(0:Int),(0:Int)))
abbrev q40c {V Y:Type}:=@rg q2dg V Y tysT (fun C=>(orc (q2di C))) 39
theorem q2do C v:q40c (regO (qcz f76) 0) false [(2,(.box [.val Riii])),(3,.any),(4,.any),(5,.any)] q2dk q2dn q2dm C v:=rgI (by kernel_rfl)
abbrev q2dp:Type:=List Diii×Int×Int×Int×Int×Int×Int×List Di
def q2dq (v:q2dp):St:=⟨[(2,.ptr 0 0),(4,.ptr 1 0),(5,.ptr 2 0),(6,.rs 3)],[.cells [.fz Riii v.1],.cells [.int .i64 v.2.1,.int .i64 v.2.2.1,.int .i64 v.2.2.2.1],.cells [.int .i64 v.2.2.2.2.1,.int .i64 v.2.2.2.2.2.1,.int .i64 v.2.2.2.2.2.2.1],.rows Ri v.2.2.2.2.2.2.2]⟩
def q2dr (C:q2dg) (v:q2dl):Dt q2dp:=(Dt.bnd (C.1 ((v.1,()),(v.2.1,v.2.2.1,()),())) fun r1=>(Dt.ret (v.1,v.2.2.2.1,v.2.2.2.2.1,v.2.2.2.2.2.1,v.2.2.2.2.2.2.1,v.2.2.2.2.2.2.2.1,v.2.2.2.2.2.2.2.2,r1.1)))
theorem q2ds C v:q40c (regO (qcz f76) 1) false [(2,(.box [.val Riii])),(4,.any),(5,.any),(6,(.own Ri))] q2dm q2dr q2dq C v:=rgI (by kernel_rfl)
abbrev q2dt:Type:=List Diii×Int×Int×Int×Int×Int×Int×List Di×Int×Int×Int
def q2du (v:q2dt):St:=⟨[(2,.ptr 0 0),(4,.ptr 1 0),(5,.ptr 2 0),(6,.rs 3),(8,.ptr 4 0)],[.cells [.fz Riii v.1],.cells [.int .i64 v.2.1,.int .i64 v.2.2.1,.int .i64 v.2.2.2.1],.cells [.int .i64 v.2.2.2.2.1,.int .i64 v.2.2.2.2.2.1,.int .i64 v.2.2.2.2.2.2.1],.rows Ri v.2.2.2.2.2.2.2.1,.cells [.int .i64 v.2.2.2.2.2.2.2.2.1,.int .i64 v.2.2.2.2.2.2.2.2.2.1,.int .i64 v.2.2.2.2.2.2.2.2.2.2]]⟩
def q2dv (C:q2dg) (v:q2dp):Dt q2dt:=(Dt.ite (inB (0:Int) (List.length v.2.2.2.2.2.2.2)) (Dt.bnd (C.2.1 ((v.1,()),((elt zi v.2.2.2.2.2.2.2 ((0:Int)).toNat).1,()),())) fun r1=>(Dt.ret (v.1,v.2.1,v.2.2.1,v.2.2.2.1,v.2.2.2.2.1,v.2.2.2.2.2.1,v.2.2.2.2.2.2.1,v.2.2.2.2.2.2.2,r1.1,r1.2.1,r1.2.2.1))) Dt.fail)
theorem q2dw C v:q40c (regO (qcz f76) 2) true [(2,(.box [.val Riii])),(4,.any),(5,.any),(6,(.own Ri)),(8,.any)] q2dq q2dv q2du C v:=rgI (by kernel_rfl)
abbrev q2dx:Type:=Int×Int×Int×Int×Int×Int×Int×Int×Int×Int×Int×Int
def q2dy (v:q2dx):St:=⟨[(4,.ptr 0 0),(5,.ptr 1 0),(8,.ptr 2 0),(10,.ptr 3 0)],[.cells [.int .i64 v.1,.int .i64 v.2.1,.int .i64 v.2.2.1],.cells [.int .i64 v.2.2.2.1,.int .i64 v.2.2.2.2.1,.int .i64 v.2.2.2.2.2.1],.cells [.int .i64 v.2.2.2.2.2.2.1,.int .i64 v.2.2.2.2.2.2.2.1,.int .i64 v.2.2.2.2.2.2.2.2.1],.cells [.int .i64 v.2.2.2.2.2.2.2.2.2.1,.int .i64 v.2.2.2.2.2.2.2.2.2.2.1,.int .i64 v.2.2.2.2.2.2.2.2.2.2.2]]⟩
def q2dz (C:q2dg) (v:q2dt):Dt q2dx:=(Dt.ite (inB (IntKind.wrap .i64 ((List.length v.2.2.2.2.2.2.2.1:Int) - (1:Int))) (List.length v.2.2.2.2.2.2.2.1)) (Dt.bnd (C.2.1 ((v.1,()),((elt zi v.2.2.2.2.2.2.2.1 ((IntKind.wrap .i64 ((List.length v.2.2.2.2.2.2.2.1:Int) - (1:Int)))).toNat).1,()),())) fun r1=>(Dt.ret (v.2.1,v.2.2.1,v.2.2.2.1,v.2.2.2.2.1,v.2.2.2.2.2.1,v.2.2.2.2.2.2.1,v.2.2.2.2.2.2.2.2.1,v.2.2.2.2.2.2.2.2.2.1,v.2.2.2.2.2.2.2.2.2.2,r1.1,r1.2.1,r1.2.2.1))) Dt.fail)
theorem q2e0 C v:q40c (regO (qcz f76) 3) true (an [4,5,8,10]) q2du q2dz q2dy C v:=rgI (by kernel_rfl)
abbrev q2e1:Type:=Int×Int×Int×Int×Int×Int
def q2e2 (v:q2e1):St:=⟨[(4,.ptr 0 0),(5,.ptr 1 0)],[.cells [.int .i64 v.1,.int .i64 v.2.1,.int .i64 v.2.2.1],.cells [.int .i64 v.2.2.2.1,.int .i64 v.2.2.2.2.1,.int .i64 v.2.2.2.2.2]]⟩
def q2e3 (C:q2dg) (v:q2dx):Dt q2e1:=(Dt.ret (v.2.2.2.2.2.2.1,v.2.2.2.2.2.2.2.1,v.2.2.2.2.2.2.2.2.1,v.2.2.2.2.2.2.2.2.2.1,v.2.2.2.2.2.2.2.2.2.2.1,v.2.2.2.2.2.2.2.2.2.2.2))
theorem q2e4 C v:q40c (regO (qcz f76) 4) true (an [4,5]) q2dy q2e3 q2e2 C v:=rgI (by kernel_rfl)
def q2e5 (d:Nat) (x:q2dc):Option q2dd :=
 (q2dn (q2dh d) (x.1.1,x.2.1.1,x.2.1.2.1)).eval fun y0 =>
 (q2dr (q2dh d) y0).eval fun y1 =>
 (q2dv (q2dh d) y1).eval fun y2 =>
 (q2dz (q2dh d) y2).eval fun y3 =>
 (q2e3 (q2dh d) y3).eval fun y4 =>
 some y4
theorem q2e6 (d:Nat):COK prog (q2df (q2e5 d)):=by
 have hm:prog.follows .mixedOrders=true:=qju
 have hT:=tys
 have hC0:OrcOK prog (orc (q2di (q2dh d))):=qct (by
  intro S hS
  simp only [q2di,List.mem_cons,List.not_mem_nil,or_false] at hS
  rcases hS with rfl | rfl
  · exact qwn d
  · exact qvw d)
 have hC:OrcOK prog (orc (q2di (q2dh d))):=hC0
 refine q8f (c:=qcz f76) (fn:=f76) hT (by kernel_rfl) (by kernel_rfl) (by decide) fun x r h w0 φ0 Q hend=>?_
 replace h:q2e5 d x=some r:=h
 unfold q2e5 at h
 show Run prog w0 φ0 39 (qcz f76) ⟨[(0,.agg [.fz Riii x.1.1]),(1,.agg [.int .i64 x.2.1.1,.int .i64 x.2.1.2.1])],[]⟩ Q
 refine q3yy hm hT hC (q2do (q2dh d) (x.1.1,x.2.1.1,x.2.1.2.1)) h fun y0 h=>?_
 refine q3yy hm hT hC (q2ds (q2dh d) y0) h fun y1 h=>?_
 refine q3yy hm hT hC (q2dw (q2dh d) y1) h fun y2 h=>?_
 refine q3yy hm hT hC (q2e0 (q2dh d) y2) h fun y3 h=>?_
 refine q3yy hm hT hC (q2e4 (q2dh d) y3) h fun y4 h=>?_
 refine q7y ?_
 cases h
 exact (hend _ (by kernel_rfl)).2
abbrev q2e7:List Pk:=[.row qjc true,.row Rii true]
abbrev q2e8:Type:=qjd×Dii×Unit
abbrev q2e9:Type:=Int×Int×Int
def q2ea (r:q2e9):LV×List Ob:=(.tup [.int .i64 r.1,.int .i64 r.2.1,.int .i64 r.2.2],[])
def q2eb (F:q2e8→Option q2e9):Go.Tx.Spec:=⟨26,q2e7,q2e9,F,q2ea⟩
abbrev q2ec:Type:=(q2cc→Option q2cd)×(q2dc→Option q2dd)×Unit
def q2ed (d:Nat):q2ec:=(q2d9 d,q2e5 d,())
def q2ee (C:q2ec):List Go.Tx.Spec:=[q2cf C.1,q2df C.2.1]
abbrev q2ef:Type:=List Diii×Int×Int
def q2eg (v:q2ef):St:=⟨[(0,.agg [.fz Riii v.1]),(1,.agg [.int .i64 v.2.1,.int .i64 v.2.2])],[]⟩
abbrev q2eh:Type:=List Diii×Int×Int
def q2ei (v:q2eh):St:=⟨[(2,.ptr 0 0),(3,.ptr 1 0)],[.cells [.fz Riii v.1],.cells [.int .i64 v.2.1,.int .i64 v.2.2]]⟩
def q2ej (C:q2ec) (v:q2ef):Dt q2eh:=(Dt.ret (v.1,v.2.1,v.2.2))
abbrev q40d {V Y:Type}:=@rg q2ec V Y tysT (fun C=>(orc (q2ee C))) 27
theorem q2ek C v:q40d (regO (qcz f26) 0) false [(2,(.box [.val Riii])),(3,.any)] q2eg q2ej q2ei C v:=rgI (by kernel_rfl)
abbrev q2el:Type:=Int×List Diii×Int×Int
def q2em (v:q2el):St:=⟨[(2,.ptr 0 0),(3,.ptr 1 0),(7,.int .i64 v.1)],[.cells [.fz Riii v.2.1],.cells [.int .i64 v.2.2.1,.int .i64 v.2.2.2]]⟩
def q2en (C:q2ec) (v:q2eh):Dt q2el:=(Dt.bnd (C.1 ((v.1,()),(v.2.1,v.2.2,()),(v.2.1,v.2.2,()),())) fun r1=>(Dt.ret (r1,v.1,v.2.1,v.2.2)))
theorem q2eo C v:q40d (regO (qcz f26) 1) false [(2,(.box [.val Riii])),(3,.any),(7,.any)] q2ei q2en q2em C v:=rgI (by kernel_rfl)
abbrev q2ep:Type:=Int×Bool×List Diii×Int×Int
def q2eq (v:q2ep):St:=⟨[(2,.ptr 0 0),(3,.ptr 1 0),(7,.int .i64 v.1),(15,.bool v.2.1)],[.cells [.fz Riii v.2.2.1],.cells [.int .i64 v.2.2.2.1,.int .i64 v.2.2.2.2]]⟩
def q2er (C:q2ec) (v:q2el):Dt q2ep:=(Dt.ret (v.1,(v.1 != (0:Int)),v.2.1,v.2.2.1,v.2.2.2))
theorem q2es C v:q40d (regO (qcz f26) 2) false [(2,(.box [.val Riii])),(3,.any),(7,.any),(15,.any)] q2em q2er q2eq C v:=rgI (by kernel_rfl)
abbrev q2et:Type:=Int×Int×Int
def q2eu (v:q2et):St:=⟨[(4,.int .i64 v.1),(5,.int .i64 v.2.1),(6,.int .i64 v.2.2)],[]⟩
def q2ev (C:q2ec) (v:q2ep):Dt q2et:=(Dt.ret ((0:Int),(0:Int),v.1))
theorem q2ew C v:q40d (regO (qcz f26) 3) false (an [4,5,6]) q2eq q2ev q2eu C v:=rgI (by kernel_rfl)
abbrev q2ex:Type:=Int×Int×Int×Int×Int×Int
def q2ey (v:q2ex):St:=⟨[(8,.ptr 0 0),(9,.ptr 1 0)],[.cells [.int .i64 v.1,.int .i64 v.2.1,.int .i64 v.2.2.1],.cells [.int .i64 v.2.2.2.1,.int .i64 v.2.2.2.2.1,.int .i64 v.2.2.2.2.2]]⟩
def q2ez (C:q2ec) (v:q2ep):Dt q2ex:=(Dt.bnd (C.2.1 ((v.2.2.1,()),(v.2.2.2.1,v.2.2.2.2,()),())) fun r1=>(Dt.ret (r1.1,r1.2.1,r1.2.2.1,r1.2.2.2.1,r1.2.2.2.2.1,r1.2.2.2.2.2)))
theorem q2f0 C v:q40d (regO (qcz f26) 4) false (an [8,9]) q2eq q2ez q2ey C v:=rgI (by kernel_rfl)
def q2f1 (C:q2ec) (v:q2ex):Dt q2et:=(Dt.ret (v.1,v.2.2.2.1,(0:Int)))
theorem q2f2 C v:q40d (regO (qcz f26) 5) true (an [4,5,6]) q2ey q2f1 q2eu C v:=rgI (by kernel_rfl)
def q2f3 (d:Nat) (x:q2e8):Option q2e9 :=
 (q2ej (q2ed d) (x.1.1,x.2.1.1,x.2.1.2.1)).eval fun y0 =>
 (q2en (q2ed d) y0).eval fun y1 =>
 (q2er (q2ed d) y1).eval fun y2 =>
 bif y2.2.1 then ((q2ev (q2ed d) y2).eval fun y3 =>
 some y3) else ((q2ez (q2ed d) y2).eval fun y4 =>
 (q2f1 (q2ed d) y4).eval fun y5 =>
 some y5)
theorem q2f4 (d:Nat):COK prog (q2eb (q2f3 d)):=by
 have hm:prog.follows .mixedOrders=true:=qju
 have hT:=tys
 have hC0:OrcOK prog (orc (q2ee (q2ed d))):=qct (by
  intro S hS
  simp only [q2ee,List.mem_cons,List.not_mem_nil,or_false] at hS
  rcases hS with rfl | rfl
  · exact q2da d
  · exact q2e6 d)
 have hC:OrcOK prog (orc (q2ee (q2ed d))):=hC0
 refine q8f (c:=qcz f26) (fn:=f26) hT (by kernel_rfl) (by kernel_rfl) (by decide) fun x r h w0 φ0 Q hend=>?_
 replace h:q2f3 d x=some r:=h
 unfold q2f3 at h
 show Run prog w0 φ0 27 (qcz f26) ⟨[(0,.agg [.fz Riii x.1.1]),(1,.agg [.int .i64 x.2.1.1,.int .i64 x.2.1.2.1])],[]⟩ Q
 refine q3yy hm hT hC (q2ek (q2ed d) (x.1.1,x.2.1.1,x.2.1.2.1)) h fun y0 h=>?_
 refine q7z ?_
 refine q3yy hm hT hC (q2eo (q2ed d) y0) h fun y1 h=>?_
 refine q3yy hm hT hC (q2es (q2ed d) y1) h fun y2 h=>?_
 refine q83 (v:=y2.2.1) (by kernel_rfl) h ?_ ?_
 ·
  intro h
  refine q3yy hm hT hC (q2ew (q2ed d) y2) h fun y3 h=>?_
  refine q7y (q7n ?_)
  cases h
  exact (hend _ (by kernel_rfl)).2
 ·
  intro h
  refine q7v (q7l ?_)
  refine q3yy hm hT hC (q2f0 (q2ed d) y2) h fun y4 h=>?_
  refine q3yy hm hT hC (q2f2 (q2ed d) y4) h fun y5 h=>?_
  refine q7y ?_
  cases h
  exact (hend _ (by kernel_rfl)).2
abbrev q2f5:List Pk:=[.row qjc true,.row Rii true]
abbrev q2f6:Type:=qjd×Dii×Unit
abbrev q2f7:Type:=Int×Int×Int
def q2f8 (r:q2f7):LV×List Ob:=(.tup [.agg [.int .i64 r.1,.int .i64 r.2.1],.int .i64 r.2.2],[])
def q2f9 (F:q2f6→Option q2f7):Go.Tx.Spec:=⟨28,q2f5,q2f7,F,q2f8⟩
abbrev q2fa:Type:=(q1pc→Option q1pd)×(q1og→Option q1oh)×(q2cc→Option q2cd)×(q2dc→Option q2dd)×Unit
def q2fb (d:Nat):q2fa:=(q1rw d,q1p9 d,q2d9 d,q2e5 d,())
def q2fc (C:q2fa):List Go.Tx.Spec:=[q1pf C.1,q1oj C.2.1,q2cf C.2.2.1,q2df C.2.2.2.1]
abbrev q2fd:Type:=List Diii×Int×Int
def q2fe (v:q2fd):St:=⟨[(0,.agg [.fz Riii v.1]),(1,.agg [.int .i64 v.2.1,.int .i64 v.2.2])],[]⟩
abbrev q2ff:Type:=List Diii×Int×Int×Int×Int
def q2fg (v:q2ff):St:=⟨[(2,.ptr 0 0),(3,.ptr 1 0),(4,.ptr 2 0)],[.cells [.fz Riii v.1],.cells [.int .i64 v.2.1,.int .i64 v.2.2.1],.cells [.int .i64 v.2.2.2.1,.int .i64 v.2.2.2.2]]⟩
def q2fh (C:q2fa) (v:q2fd):Dt q2ff:=(Dt.ret (v.1,v.2.1,v.2.2,(0:Int),(0:Int)))
abbrev q40e {V Y:Type}:=@rg q2fa V Y tysT (fun C=>(orc (q2fc C))) 51
theorem q2fi C v:q40e (regO (qcz f28) 0) false [(2,(.box [.val Riii])),(3,.any),(4,.any)] q2fe q2fh q2fg C v:=rgI (by kernel_rfl)
abbrev q2fj:Type:=Int×List Diii×Int×Int×Int×Int
def q2fk (v:q2fj):St:=⟨[(2,.ptr 0 0),(3,.ptr 1 0),(4,.ptr 2 0),(6,.int .i64 v.1)],[.cells [.fz Riii v.2.1],.cells [.int .i64 v.2.2.1,.int .i64 v.2.2.2.1],.cells [.int .i64 v.2.2.2.2.1,.int .i64 v.2.2.2.2.2]]⟩
def q2fl (C:q2fa) (v:q2ff):Dt q2fj:=(Dt.bnd (C.2.2.1 ((v.1,()),(v.2.1,v.2.2.1,()),(v.2.1,v.2.2.1,()),())) fun r1=>(Dt.ret (r1,v.1,v.2.1,v.2.2.1,v.2.2.2.1,v.2.2.2.2)))
theorem q2fm C v:q40e (regO (qcz f28) 1) false [(2,(.box [.val Riii])),(3,.any),(4,.any),(6,.any)] q2fg q2fl q2fk C v:=rgI (by kernel_rfl)
abbrev q2fn:Type:=Int×Bool×List Diii×Int×Int×Int×Int
def q2fo (v:q2fn):St:=⟨[(2,.ptr 0 0),(3,.ptr 1 0),(4,.ptr 2 0),(6,.int .i64 v.1),(17,.bool v.2.1)],[.cells [.fz Riii v.2.2.1],.cells [.int .i64 v.2.2.2.1,.int .i64 v.2.2.2.2.1],.cells [.int .i64 v.2.2.2.2.2.1,.int .i64 v.2.2.2.2.2.2]]⟩
def q2fp (C:q2fa) (v:q2fj):Dt q2fn:=(Dt.ret (v.1,(v.1 != (0:Int)),v.2.1,v.2.2.1,v.2.2.2.1,v.2.2.2.2.1,v.2.2.2.2.2))
theorem q2fq C v:q40e (regO (qcz f28) 2) false [(2,(.box [.val Riii])),(3,.any),(4,.any),(6,.any),(17,.any)] q2fk q2fp q2fo C v:=rgI (by kernel_rfl)
abbrev q2fr:Type:=Int×Int×Int
def q2fs (v:q2fr):St:=⟨[(4,.ptr 0 0),(5,.int .i64 v.1)],[.cells [.int .i64 v.2.1,.int .i64 v.2.2]]⟩
def q2ft (C:q2fa) (v:q2fn):Dt q2fr:=(Dt.ret (v.1,(0:Int),(0:Int)))
theorem q2fu C v:q40e (regO (qcz f28) 3) false (an [4,5]) q2fo q2ft q2fs C v:=rgI (by kernel_rfl)
abbrev q2fv:Type:=Int×Int×Int×Int×Int×Int×Int×Int×Int×Int
def q2fw (v:q2fv):St:=⟨[(3,.ptr 0 0),(4,.ptr 1 0),(7,.ptr 2 0),(8,.ptr 3 0)],[.cells [.int .i64 v.1,.int .i64 v.2.1],.cells [.int .i64 v.2.2.1,.int .i64 v.2.2.2.1],.cells [.int .i64 v.2.2.2.2.1,.int .i64 v.2.2.2.2.2.1,.int .i64 v.2.2.2.2.2.2.1],.cells [.int .i64 v.2.2.2.2.2.2.2.1,.int .i64 v.2.2.2.2.2.2.2.2.1,.int .i64 v.2.2.2.2.2.2.2.2.2]]⟩
def q2fx (C:q2fa) (v:q2fn):Dt q2fv:=(Dt.bnd (C.2.2.2.1 ((v.2.2.1,()),(v.2.2.2.1,v.2.2.2.2.1,()),())) fun r1=>(Dt.ret (v.2.2.2.1,v.2.2.2.2.1,v.2.2.2.2.2.1,v.2.2.2.2.2.2,r1.1,r1.2.1,r1.2.2.1,r1.2.2.2.1,r1.2.2.2.2.1,r1.2.2.2.2.2)))
theorem q2fy C v:q40e (regO (qcz f28) 4) false (an [3,4,7,8]) q2fo q2fx q2fw C v:=rgI (by kernel_rfl)
abbrev q2fz:Type:=Int×Int×Int×Int×Int×Int×Int×Int×Int×Int
def q2g0 (v:q2fz):St:=⟨[(3,.ptr 0 0),(4,.ptr 1 0),(8,.ptr 2 0),(9,.ptr 3 0),(10,.int .i64 v.1)],[.cells [.int .i64 v.2.1,.int .i64 v.2.2.1],.cells [.int .i64 v.2.2.2.1,.int .i64 v.2.2.2.2.1],.cells [.int .i64 v.2.2.2.2.2.1,.int .i64 v.2.2.2.2.2.2.1,.int .i64 v.2.2.2.2.2.2.2.1],.cells [.int .i64 v.2.2.2.2.2.2.2.2.1,.int .i64 v.2.2.2.2.2.2.2.2.2]]⟩
def q2g1 (C:q2fa) (v:q2fv):Dt q2fz:=(Dt.bnd (C.1 ((v.2.2.2.2.1,v.2.2.2.2.2.1,v.2.2.2.2.2.2.1,()),(v.1,v.2.1,()),())) fun r1=>(Dt.ret (r1.2.2,v.1,v.2.1,v.2.2.1,v.2.2.2.1,v.2.2.2.2.2.2.2.1,v.2.2.2.2.2.2.2.2.1,v.2.2.2.2.2.2.2.2.2,r1.1,r1.2.1)))
theorem q2g2 C v:q40e (regO (qcz f28) 5) false (an [3,4,8,9,10]) q2fw q2g1 q2g0 C v:=rgI (by kernel_rfl)
abbrev q2g3:Type:=Int×Bool×Int×Int×Int×Int×Int×Int×Int×Int×Int
def q2g4 (v:q2g3):St:=⟨[(3,.ptr 0 0),(4,.ptr 1 0),(8,.ptr 2 0),(9,.ptr 3 0),(10,.int .i64 v.1),(33,.bool v.2.1)],[.cells [.int .i64 v.2.2.1,.int .i64 v.2.2.2.1],.cells [.int .i64 v.2.2.2.2.1,.int .i64 v.2.2.2.2.2.1],.cells [.int .i64 v.2.2.2.2.2.2.1,.int .i64 v.2.2.2.2.2.2.2.1,.int .i64 v.2.2.2.2.2.2.2.2.1],.cells [.int .i64 v.2.2.2.2.2.2.2.2.2.1,.int .i64 v.2.2.2.2.2.2.2.2.2.2]]⟩
def q2g5 (C:q2fa) (v:q2fz):Dt q2g3:=(Dt.ret (v.1,(v.1 != (0:Int)),v.2.1,v.2.2.1,v.2.2.2.1,v.2.2.2.2.1,v.2.2.2.2.2.1,v.2.2.2.2.2.2.1,v.2.2.2.2.2.2.2.1,v.2.2.2.2.2.2.2.2.1,v.2.2.2.2.2.2.2.2.2))
theorem q2g6 C v:q40e (regO (qcz f28) 6) false (an [3,4,8,9,10,33]) q2g0 q2g5 q2g4 C v:=rgI (by kernel_rfl)
def q2g7 (C:q2fa) (v:q2g3):Dt q2fr:=(Dt.ret (v.1,(0:Int),(0:Int)))
theorem q2g8 C v:q40e (regO (qcz f28) 7) false (an [4,5]) q2g4 q2g7 q2fs C v:=rgI (by kernel_rfl)
abbrev q2g9:Type:=Int×Int×Int×Int×Int×Int×Int
def q2ga (v:q2g9):St:=⟨[(4,.ptr 0 0),(9,.ptr 1 0),(10,.int .i64 v.1),(11,.ptr 2 0)],[.cells [.int .i64 v.2.1,.int .i64 v.2.2.1],.cells [.int .i64 v.2.2.2.1,.int .i64 v.2.2.2.2.1],.cells [.int .i64 v.2.2.2.2.2.1,.int .i64 v.2.2.2.2.2.2]]⟩
def q2gb (C:q2fa) (v:q2g3):Dt q2g9:=(Dt.bnd (C.1 ((v.2.2.2.2.2.2.1,v.2.2.2.2.2.2.2.1,v.2.2.2.2.2.2.2.2.1,()),(v.2.2.1,v.2.2.2.1,()),())) fun r1=>(Dt.ret (r1.2.2,v.2.2.2.2.1,v.2.2.2.2.2.1,v.2.2.2.2.2.2.2.2.2.1,v.2.2.2.2.2.2.2.2.2.2,r1.1,r1.2.1)))
theorem q2gc C v:q40e (regO (qcz f28) 8) false (an [4,9,10,11]) q2g4 q2gb q2ga C v:=rgI (by kernel_rfl)
abbrev q2gd:Type:=Int×Bool×Int×Int×Int×Int×Int×Int
def q2ge (v:q2gd):St:=⟨[(4,.ptr 0 0),(9,.ptr 1 0),(10,.int .i64 v.1),(11,.ptr 2 0),(43,.bool v.2.1)],[.cells [.int .i64 v.2.2.1,.int .i64 v.2.2.2.1],.cells [.int .i64 v.2.2.2.2.1,.int .i64 v.2.2.2.2.2.1],.cells [.int .i64 v.2.2.2.2.2.2.1,.int .i64 v.2.2.2.2.2.2.2]]⟩
def q2gf (C:q2fa) (v:q2g9):Dt q2gd:=(Dt.ret (v.1,(v.1 != (0:Int)),v.2.1,v.2.2.1,v.2.2.2.1,v.2.2.2.2.1,v.2.2.2.2.2.1,v.2.2.2.2.2.2))
theorem q2gg C v:q40e (regO (qcz f28) 9) false (an [4,9,10,11,43]) q2ga q2gf q2ge C v:=rgI (by kernel_rfl)
def q2gh (C:q2fa) (v:q2gd):Dt q2fr:=(Dt.ret (v.1,(0:Int),(0:Int)))
theorem q2gi C v:q40e (regO (qcz f28) 10) false (an [4,5]) q2ge q2gh q2fs C v:=rgI (by kernel_rfl)
def q2gj (C:q2fa) (v:q2gd):Dt q2fr:=(Dt.bnd (C.2.1 ((v.2.2.2.2.1,v.2.2.2.2.2.1,()),(v.2.2.2.2.2.2.1,v.2.2.2.2.2.2.2,()),())) fun r1=>(Dt.ret (r1.2.2,r1.1,r1.2.1)))
theorem q2gk C v:q40e (regO (qcz f28) 11) false (an [4,5]) q2ge q2gj q2fs C v:=rgI (by kernel_rfl)
def q2gl (d:Nat) (x:q2f6):Option q2f7 :=
 (q2fh (q2fb d) (x.1.1,x.2.1.1,x.2.1.2.1)).eval fun y0 =>
 (q2fl (q2fb d) y0).eval fun y1 =>
 (q2fp (q2fb d) y1).eval fun y2 =>
 bif y2.2.1 then ((q2ft (q2fb d) y2).eval fun y3 =>
 some (y3.2.1,y3.2.2,y3.1)) else ((q2fx (q2fb d) y2).eval fun y4 =>
 (q2g1 (q2fb d) y4).eval fun y5 =>
 (q2g5 (q2fb d) y5).eval fun y6 =>
 bif y6.2.1 then ((q2g7 (q2fb d) y6).eval fun y7 =>
 some (y7.2.1,y7.2.2,y7.1)) else ((q2gb (q2fb d) y6).eval fun y8 =>
 (q2gf (q2fb d) y8).eval fun y9 =>
 bif y9.2.1 then ((q2gh (q2fb d) y9).eval fun y10 =>
 some (y10.2.1,y10.2.2,y10.1)) else ((q2gj (q2fb d) y9).eval fun y11 =>
 some (y11.2.1,y11.2.2,y11.1))))
theorem q2gm (d:Nat):COK prog (q2f9 (q2gl d)):=by
 have hm:prog.follows .mixedOrders=true:=qju
 have hT:=tys
 have hC0:OrcOK prog (orc (q2fc (q2fb d))):=qct (by
  intro S hS
  simp only [q2fc,List.mem_cons,List.not_mem_nil,or_false] at hS
  rcases hS with rfl | rfl | rfl | rfl
  · exact q1rx d
  · exact q1pa d
  · exact q2da d
  · exact q2e6 d)
 have hC:OrcOK prog (orc (q2fc (q2fb d))):=hC0
 refine q8f (c:=qcz f28) (fn:=f28) hT (by kernel_rfl) (by kernel_rfl) (by decide) fun x r h w0 φ0 Q hend=>?_
 replace h:q2gl d x=some r:=h
 unfold q2gl at h
 show Run prog w0 φ0 51 (qcz f28) ⟨[(0,.agg [.fz Riii x.1.1]),(1,.agg [.int .i64 x.2.1.1,.int .i64 x.2.1.2.1])],[]⟩ Q
 refine q3yy hm hT hC (q2fi (q2fb d) (x.1.1,x.2.1.1,x.2.1.2.1)) h fun y0 h=>?_
 refine q7z ?_
 refine q3yy hm hT hC (q2fm (q2fb d) y0) h fun y1 h=>?_
 refine q3yy hm hT hC (q2fq (q2fb d) y1) h fun y2 h=>?_
 refine q83 (v:=y2.2.1) (by kernel_rfl) h ?_ ?_
 ·
  intro h
  refine q3yy hm hT hC (q2fu (q2fb d) y2) h fun y3 h=>?_
  refine q7y (q7n ?_)
  cases h
  exact (hend _ (by kernel_rfl)).2
 ·
  intro h
  refine q7v (q7l ?_)
  refine q3yy hm hT hC (q2fy (q2fb d) y2) h fun y4 h=>?_
  refine q3yy hm hT hC (q2g2 (q2fb d) y4) h fun y5 h=>?_
  refine q7z ?_
  refine q3yy hm hT hC (q2g6 (q2fb d) y5) h fun y6 h=>?_
  refine q83 (v:=y6.2.1) (by kernel_rfl) h ?_ ?_
  ·
   intro h
   refine q3yy hm hT hC (q2g8 (q2fb d) y6) h fun y7 h=>?_
   refine q7y (q7n ?_)
   cases h
   exact (hend _ (by kernel_rfl)).2
  ·
   intro h
   refine q7v (q7l ?_)
   refine q3yy hm hT hC (q2gc (q2fb d) y6) h fun y8 h=>?_
   refine q7z ?_
   refine q3yy hm hT hC (q2gg (q2fb d) y8) h fun y9 h=>?_
   refine q83 (v:=y9.2.1) (by kernel_rfl) h ?_ ?_
   ·
    intro h
    refine q3yy hm hT hC (q2gi (q2fb d) y9) h fun y10 h=>?_
    refine q7y (q7n ?_)
    cases h
    exact (hend _ (by kernel_rfl)).2
   ·
    intro h
    refine q7v (q7l ?_)
    refine q3yy hm hT hC (q2gk (q2fb d) y9) h fun y11 h=>?_
    refine q7y ?_
    cases h
    exact (hend _ (by kernel_rfl)).2
abbrev q2gn:List Pk:=[.row qjc true,.row Rii true]
abbrev q2go:Type:=qjd×Dii×Unit
abbrev q2gp:Type:=Int×Int
def q2gq (r:q2gp):LV×List Ob:=(.tup [.int .i64 r.1,.int .i64 r.2],[])
def q2gr (F:q2go→Option q2gp):Go.Tx.Spec:=⟨30,q2gn,q2gp,F,q2gq⟩
abbrev q2gs:Type:=(q2cc→Option q2cd)×(q2dc→Option q2dd)×Unit
def q2gt (d:Nat):q2gs:=(q2d9 d,q2e5 d,())
def q2gu (C:q2gs):List Go.Tx.Spec:=[q2cf C.1,q2df C.2.1]
abbrev q2gv:Type:=List Diii×Int×Int
def q2gw (v:q2gv):St:=⟨[(0,.agg [.fz Riii v.1]),(1,.agg [.int .i64 v.2.1,.int .i64 v.2.2])],[]⟩
abbrev q2gx:Type:=List Diii×Int×Int
def q2gy (v:q2gx):St:=⟨[(2,.ptr 0 0),(3,.ptr 1 0)],[.cells [.fz Riii v.1],.cells [.int .i64 v.2.1,.int .i64 v.2.2]]⟩
def q2gz (C:q2gs) (v:q2gv):Dt q2gx:=(Dt.ret (v.1,v.2.1,v.2.2))
abbrev q40f {V Y:Type}:=@rg q2gs V Y tysT (fun C=>(orc (q2gu C))) 27
theorem q2h0 C v:q40f (regO (qcz f30) 0) false [(2,(.box [.val Riii])),(3,.any)] q2gw q2gz q2gy C v:=rgI (by kernel_rfl)
abbrev q2h1:Type:=Int×List Diii×Int×Int
def q2h2 (v:q2h1):St:=⟨[(2,.ptr 0 0),(3,.ptr 1 0),(6,.int .i64 v.1)],[.cells [.fz Riii v.2.1],.cells [.int .i64 v.2.2.1,.int .i64 v.2.2.2]]⟩
def q2h3 (C:q2gs) (v:q2gx):Dt q2h1:=(Dt.bnd (C.1 ((v.1,()),(v.2.1,v.2.2,()),(v.2.1,v.2.2,()),())) fun r1=>(Dt.ret (r1,v.1,v.2.1,v.2.2)))
theorem q2h4 C v:q40f (regO (qcz f30) 1) false [(2,(.box [.val Riii])),(3,.any),(6,.any)] q2gy q2h3 q2h2 C v:=rgI (by kernel_rfl)
abbrev q2h5:Type:=Int×Bool×List Diii×Int×Int
def q2h6 (v:q2h5):St:=⟨[(2,.ptr 0 0),(3,.ptr 1 0),(6,.int .i64 v.1),(14,.bool v.2.1)],[.cells [.fz Riii v.2.2.1],.cells [.int .i64 v.2.2.2.1,.int .i64 v.2.2.2.2]]⟩
def q2h7 (C:q2gs) (v:q2h1):Dt q2h5:=(Dt.ret (v.1,(v.1 != (0:Int)),v.2.1,v.2.2.1,v.2.2.2))
theorem q2h8 C v:q40f (regO (qcz f30) 2) false [(2,(.box [.val Riii])),(3,.any),(6,.any),(14,.any)] q2h2 q2h7 q2h6 C v:=rgI (by kernel_rfl)
abbrev q2h9:Type:=Int×Int
def q2ha (v:q2h9):St:=⟨[(4,.int .i64 v.1),(5,.int .i64 v.2)],[]⟩
def q2hb (C:q2gs) (v:q2h5):Dt q2h9:=(Dt.ret ((0:Int),v.1))
theorem q2hc C v:q40f (regO (qcz f30) 3) false (an [4,5]) q2h6 q2hb q2ha C v:=rgI (by kernel_rfl)
abbrev q2hd:Type:=Int×Int×Int×Int×Int×Int
def q2he (v:q2hd):St:=⟨[(7,.ptr 0 0),(8,.ptr 1 0)],[.cells [.int .i64 v.1,.int .i64 v.2.1,.int .i64 v.2.2.1],.cells [.int .i64 v.2.2.2.1,.int .i64 v.2.2.2.2.1,.int .i64 v.2.2.2.2.2]]⟩
def q2hf (C:q2gs) (v:q2h5):Dt q2hd:=(Dt.bnd (C.2.1 ((v.2.2.1,()),(v.2.2.2.1,v.2.2.2.2,()),())) fun r1=>(Dt.ret (r1.1,r1.2.1,r1.2.2.1,r1.2.2.2.1,r1.2.2.2.2.1,r1.2.2.2.2.2)))
theorem q2hg C v:q40f (regO (qcz f30) 4) false (an [7,8]) q2h6 q2hf q2he C v:=rgI (by kernel_rfl)
def q2hh (C:q2gs) (v:q2hd):Dt q2h9:=(Dt.ret ((IntKind.wrap .i64 (v.2.2.1 - v.2.2.2.2.2)),(0:Int)))
theorem q2hi C v:q40f (regO (qcz f30) 5) false (an [4,5]) q2he q2hh q2ha C v:=rgI (by kernel_rfl)
def q2hj (d:Nat) (x:q2go):Option q2gp :=
 (q2gz (q2gt d) (x.1.1,x.2.1.1,x.2.1.2.1)).eval fun y0 =>
 (q2h3 (q2gt d) y0).eval fun y1 =>
 (q2h7 (q2gt d) y1).eval fun y2 =>
 bif y2.2.1 then ((q2hb (q2gt d) y2).eval fun y3 =>
 some y3) else ((q2hf (q2gt d) y2).eval fun y4 =>
 (q2hh (q2gt d) y4).eval fun y5 =>
 some y5)
theorem q2hk (d:Nat):COK prog (q2gr (q2hj d)):=by
 have hm:prog.follows .mixedOrders=true:=qju
 have hT:=tys
 have hC0:OrcOK prog (orc (q2gu (q2gt d))):=qct (by
  intro S hS
  simp only [q2gu,List.mem_cons,List.not_mem_nil,or_false] at hS
  rcases hS with rfl | rfl
  · exact q2da d
  · exact q2e6 d)
 have hC:OrcOK prog (orc (q2gu (q2gt d))):=hC0
 refine q8f (c:=qcz f30) (fn:=f30) hT (by kernel_rfl) (by kernel_rfl) (by decide) fun x r h w0 φ0 Q hend=>?_
 replace h:q2hj d x=some r:=h
 unfold q2hj at h
 show Run prog w0 φ0 27 (qcz f30) ⟨[(0,.agg [.fz Riii x.1.1]),(1,.agg [.int .i64 x.2.1.1,.int .i64 x.2.1.2.1])],[]⟩ Q
 refine q3yy hm hT hC (q2h0 (q2gt d) (x.1.1,x.2.1.1,x.2.1.2.1)) h fun y0 h=>?_
 refine q7z ?_
 refine q3yy hm hT hC (q2h4 (q2gt d) y0) h fun y1 h=>?_
 refine q3yy hm hT hC (q2h8 (q2gt d) y1) h fun y2 h=>?_
 refine q83 (v:=y2.2.1) (by kernel_rfl) h ?_ ?_
 ·
  intro h
  refine q3yy hm hT hC (q2hc (q2gt d) y2) h fun y3 h=>?_
  refine q7y (q7n ?_)
  cases h
  exact (hend _ (by kernel_rfl)).2
 ·
  intro h
  refine q7v (q7l ?_)
  refine q3yy hm hT hC (q2hg (q2gt d) y2) h fun y4 h=>?_
  refine q3yy hm hT hC (q2hi (q2gt d) y4) h fun y5 h=>?_
  refine q7y ?_
  cases h
  exact (hend _ (by kernel_rfl)).2
abbrev q2hl:List Pk:=[.row qjc true,.row Rii true,.row Rii true]
abbrev q2hm:Type:=qjd×Dii×Dii×Unit
abbrev q2hn:Type:=List Diii
def q2ho (r:q2hn):LV×List Ob:=(.rs 0,[.rows Riii r])
def q2hp (F:q2hm→Option q2hn):Go.Tx.Spec:=⟨80,q2hl,q2hn,F,q2ho⟩
abbrev q2hq:Type:=(q2am→Option q2an)×(q2go→Option q2gp)×Unit
def q2hr (d:Nat):q2hq:=(q2bl d,q2hj d,())
def q2hs (C:q2hq):List Go.Tx.Spec:=[q2ap C.1,q2gr C.2.1]
abbrev q2ht:Type:=List Diii×Int×Int×Int×Int
def q2hu (v:q2ht):St:=⟨[(0,.agg [.fz Riii v.1]),(1,.agg [.int .i64 v.2.1,.int .i64 v.2.2.1]),(2,.agg [.int .i64 v.2.2.2.1,.int .i64 v.2.2.2.2])],[]⟩
abbrev q2hv:Type:=List Diii×Int×Int×Int×Int
def q2hw (v:q2hv):St:=⟨[(3,.ptr 0 0),(4,.ptr 1 0),(5,.ptr 2 0)],[.cells [.fz Riii v.1],.cells [.int .i64 v.2.1,.int .i64 v.2.2.1],.cells [.int .i64 v.2.2.2.1,.int .i64 v.2.2.2.2]]⟩
def q2hx (C:q2hq) (v:q2ht):Dt q2hv:=(Dt.ret (v.1,v.2.1,v.2.2.1,v.2.2.2.1,v.2.2.2.2))
abbrev q40g {V Y:Type}:=@rg q2hq V Y tysT (fun C=>(orc (q2hs C))) 64
theorem q2hy C v:q40g (regO (qcz f80) 0) false [(3,(.box [.val Riii])),(4,.any),(5,.any)] q2hu q2hx q2hw C v:=rgI (by kernel_rfl)
abbrev q2hz:Type:=Int×List Diii×Int×Int×Int×Int
def q2i0 (v:q2hz):St:=⟨[(3,.ptr 0 0),(4,.ptr 1 0),(5,.ptr 2 0),(7,.int .i64 v.1)],[.cells [.fz Riii v.2.1],.cells [.int .i64 v.2.2.1,.int .i64 v.2.2.2.1],.cells [.int .i64 v.2.2.2.2.1,.int .i64 v.2.2.2.2.2]]⟩
def q2i1 (C:q2hq) (v:q2hv):Dt q2hz:=(Dt.bnd (C.2.1 ((v.1,()),(v.2.1,v.2.2.1,()),())) fun r1=>(Dt.ret (r1.1,v.1,v.2.1,v.2.2.1,v.2.2.2.1,v.2.2.2.2)))
theorem q2i2 C v:q40g (regO (qcz f80) 1) false [(3,(.box [.val Riii])),(4,.any),(5,.any),(7,.any)] q2hw q2i1 q2i0 C v:=rgI (by kernel_rfl)
abbrev q2i3:Type:=List Diii×Int×Int×Int×Int×List Diii
def q2i4 (v:q2i3):St:=⟨[(3,.ptr 0 0),(4,.ptr 1 0),(5,.ptr 2 0),(9,.rs 3)],[.cells [.fz Riii v.1],.cells [.int .i64 v.2.1,.int .i64 v.2.2.1],.cells [.int .i64 v.2.2.2.1,.int .i64 v.2.2.2.2.1],.rows Riii v.2.2.2.2.2]⟩
def q2i5 (C:q2hq) (v:q2hz):Dt q2i3:=(Dt.ret (v.2.1,v.2.2.1,v.2.2.2.1,v.2.2.2.2.1,v.2.2.2.2.2,([(v.2.2.1,v.2.2.2.1,v.1,())]:List Diii)))
theorem q2i6 C v:q40g (regO (qcz f80) 2) false [(3,(.box [.val Riii])),(4,.any),(5,.any),(9,(.own Riii))] q2i0 q2i5 q2i4 C v:=rgI (by kernel_rfl)
abbrev q2i7:Type:=List qjg×List Diii×List Diii
def q2i8 (v:q2i7):St:=⟨[(3,.ptr 0 0),(9,.rs 1),(10,.fz qjf v.1)],[.cells [.fz Riii v.2.1],.rows Riii v.2.2]⟩
def q2i9 (C:q2hq) (v:q2i3):Dt q2i7:=(Dt.bnd (C.1 ((v.1,()),(v.2.1,v.2.2.1,()),(v.2.2.2.1,v.2.2.2.2.1,()),())) fun r1=>(Dt.ret (r1.1,v.1,v.2.2.2.2.2)))
theorem q2ia C v:q40g (regO (qcz f80) 3) false [(3,(.box [.val Riii])),(9,(.own Riii)),(10,(.val qjf))] q2i4 q2i9 q2i8 C v:=rgI (by kernel_rfl)
abbrev q2ib:Type:=List qjg×Int×Int×List Diii×List Diii
def q2ic (v:q2ib):St:=⟨[(3,.ptr 0 0),(9,.rs 1),(33,.fz qjf v.1),(34,.int .i64 v.2.1),(35,.int .i64 v.2.2.1)],[.cells [.fz Riii v.2.2.2.1],.rows Riii v.2.2.2.2]⟩
def q2id (C:q2hq) (v:q2i7):Dt q2ib:=(Dt.ret (v.1,(List.length v.1:Int),(0:Int),v.2.1,v.2.2))
theorem q2ie C v:q40g (regO (qcz f80) 4) false [(3,(.box [.val Riii])),(9,(.own Riii)),(33,(.val qjf)),(34,.any),(35,.any)] q2i8 q2id q2ic C v:=rgI (by kernel_rfl)
abbrev q2if:Type:=List qjg×Int×Int×Bool×List Diii×List Diii
def q2ig (v:q2if):St:=⟨[(3,.ptr 0 0),(9,.rs 1),(33,.fz qjf v.1),(34,.int .i64 v.2.1),(35,.int .i64 v.2.2.1),(36,.bool v.2.2.2.1)],[.cells [.fz Riii v.2.2.2.2.1],.rows Riii v.2.2.2.2.2]⟩
def q2ih (C:q2hq) (v:q2ib):Dt q2if:=(Dt.ret (v.1,v.2.1,v.2.2.1,(decide (v.2.2.1 < v.2.1)),v.2.2.2.1,v.2.2.2.2))
theorem q2ii C v:q40g (regO (qcz f80) 5) false [(3,(.box [.val Riii])),(9,(.own Riii)),(33,(.val qjf)),(34,.any),(35,.any),(36,.any)] q2ic q2ih q2ig C v:=rgI (by kernel_rfl)
abbrev q2ij:Type:=List qjg×Int×Int×List Diii×List Diii×Int×Int×Int×Int
def q2ik (v:q2ij):St:=⟨[(3,.ptr 0 0),(9,.rs 1),(13,.ptr 2 0),(33,.fz qjf v.1),(34,.int .i64 v.2.1),(35,.int .i64 v.2.2.1)],[.cells [.fz Riii v.2.2.2.1],.rows Riii v.2.2.2.2.1,.cells [.int .i64 v.2.2.2.2.2.1,.int .i64 v.2.2.2.2.2.2.1,.int .i64 v.2.2.2.2.2.2.2.1,.int .i64 v.2.2.2.2.2.2.2.2]]⟩
def q2il (C:q2hq) (v:q2if):Dt q2ij:=(Dt.ite (inB v.2.2.1 (List.length v.1)) (Dt.ret (v.1,v.2.1,v.2.2.1,v.2.2.2.2.1,v.2.2.2.2.2,(elt qjh v.1 (v.2.2.1).toNat).1,(elt qjh v.1 (v.2.2.1).toNat).2.1,(elt qjh v.1 (v.2.2.1).toNat).2.2.1,(elt qjh v.1 (v.2.2.1).toNat).2.2.2.1)) Dt.fail)
theorem q2im C v:q40g (regO (qcz f80) 6) false [(3,(.box [.val Riii])),(9,(.own Riii)),(13,.any),(33,(.val qjf)),(34,.any),(35,.any)] q2ig q2il q2ik C v:=rgI (by kernel_rfl)
abbrev q2in:Type:=Int×List qjg×Int×Int×List Diii×List Diii×Int×Int×Int×Int
def q2io (v:q2in):St:=⟨[(3,.ptr 0 0),(9,.rs 1),(13,.ptr 2 0),(14,.int .i64 v.1),(33,.fz qjf v.2.1),(34,.int .i64 v.2.2.1),(35,.int .i64 v.2.2.2.1)],[.cells [.fz Riii v.2.2.2.2.1],.rows Riii v.2.2.2.2.2.1,.cells [.int .i64 v.2.2.2.2.2.2.1,.int .i64 v.2.2.2.2.2.2.2.1,.int .i64 v.2.2.2.2.2.2.2.2.1,.int .i64 v.2.2.2.2.2.2.2.2.2]]⟩
def q2ip (C:q2hq) (v:q2ij):Dt q2in:=(Dt.bnd (C.2.1 ((v.2.2.2.1,()),(v.2.2.2.2.2.1,v.2.2.2.2.2.2.1,()),())) fun r1=>(Dt.ret (r1.1,v.1,v.2.1,v.2.2.1,v.2.2.2.1,v.2.2.2.2.1,v.2.2.2.2.2.1,v.2.2.2.2.2.2.1,v.2.2.2.2.2.2.2.1,v.2.2.2.2.2.2.2.2)))
theorem q2iq C v:q40g (regO (qcz f80) 7) false [(3,(.box [.val Riii])),(9,(.own Riii)),(13,.any),(14,.any),(33,(.val qjf)),(34,.any),(35,.any)] q2ik q2ip q2io C v:=rgI (by kernel_rfl)
abbrev q2ir:Type:=Int×List qjg×Int×Int×Bool×List Diii×List Diii×Int×Int×Int×Int
def q2is (v:q2ir):St:=⟨[(3,.ptr 0 0),(9,.rs 1),(13,.ptr 2 0),(14,.int .i64 v.1),(33,.fz qjf v.2.1),(34,.int .i64 v.2.2.1),(35,.int .i64 v.2.2.2.1),(54,.bool v.2.2.2.2.1)],[.cells [.fz Riii v.2.2.2.2.2.1],.rows Riii v.2.2.2.2.2.2.1,.cells [.int .i64 v.2.2.2.2.2.2.2.1,.int .i64 v.2.2.2.2.2.2.2.2.1,.int .i64 v.2.2.2.2.2.2.2.2.2.1,.int .i64 v.2.2.2.2.2.2.2.2.2.2]]⟩
def q2it (C:q2hq) (v:q2in):Dt q2ir:=(Dt.ite (inB (IntKind.wrap .i64 ((List.length v.2.2.2.2.2.1:Int) - (1:Int))) (List.length v.2.2.2.2.2.1)) (Dt.ret (v.1,v.2.1,v.2.2.1,v.2.2.2.1,(v.1 != (elt ziii v.2.2.2.2.2.1 ((IntKind.wrap .i64 ((List.length v.2.2.2.2.2.1:Int) - (1:Int)))).toNat).2.2.1),v.2.2.2.2.1,v.2.2.2.2.2.1,v.2.2.2.2.2.2.1,v.2.2.2.2.2.2.2.1,v.2.2.2.2.2.2.2.2.1,v.2.2.2.2.2.2.2.2.2)) Dt.fail)
theorem q2iu C v:q40g (regO (qcz f80) 8) false [(3,(.box [.val Riii])),(9,(.own Riii)),(13,.any),(14,.any),(33,(.val qjf)),(34,.any),(35,.any),(54,.any)] q2io q2it q2is C v:=rgI (by kernel_rfl)
def q2iv (C:q2hq) (v:q2ir):Dt q2ib:=(Dt.ite (apB (List.length v.2.2.2.2.2.2.1) (List.length ([(v.2.2.2.2.2.2.2.1,v.2.2.2.2.2.2.2.2.1,v.1,())]:List Diii))) (Dt.ret (v.2.1,v.2.2.1,v.2.2.2.1,v.2.2.2.2.2.1,(v.2.2.2.2.2.2.1 ++ ([(v.2.2.2.2.2.2.2.1,v.2.2.2.2.2.2.2.2.1,v.1,())]:List Diii)))) Dt.fail)
theorem q2iw C v:q40g (regO (qcz f80) 9) false [(3,(.box [.val Riii])),(9,(.own Riii)),(33,(.val qjf)),(34,.any),(35,.any)] q2is q2iv q2ic C v:=rgI (by kernel_rfl)
def q2ix (C:q2hq) (v:q2ib):Dt q2ib:=(Dt.ret (v.1,v.2.1,(IntKind.wrap .i64 (v.2.2.1 + (1:Int))),v.2.2.2.1,v.2.2.2.2))
theorem q2iy C v:q40g (regO (qcz f80) 10) false [(3,(.box [.val Riii])),(9,(.own Riii)),(33,(.val qjf)),(34,.any),(35,.any)] q2ic q2ix q2ic C v:=rgI (by kernel_rfl)
def q2iz  (d:Nat) (self1:(List qjg×Int×Int×List Diii×List Diii)→Option q2hn) (z:List qjg×Int×Int×List Diii×List Diii):Option (q2hn) :=
 (q2ix (q2hr d) z).eval fun y10 =>
 self1 y10
abbrev q2j0:Type:=List Diii
def q2j1 (v:q2j0):St:=⟨[(6,.rs 0)],[.rows Riii v]⟩
def q2j2 (C:q2hq) (v:q2if):Dt q2j0:=(Dt.ret v.2.2.2.2.2)
theorem q2j3 C v:q40g (regO (qcz f80) 11) false [(6,(.own Riii))] q2ig q2j2 q2j1 C v:=rgI (by kernel_rfl)
def q2j4 (d:Nat) (self1:(List qjg×Int×Int×List Diii×List Diii)→Option q2hn) (x1:List qjg×Int×Int×List Diii×List Diii):Option q2hn :=
 (q2ih (q2hr d) x1).eval fun y5 =>
 bif y5.2.2.2.1 then ((q2il (q2hr d) y5).eval fun y6 =>
 (q2ip (q2hr d) y6).eval fun y7 =>
 (q2it (q2hr d) y7).eval fun y8 =>
 bif y8.2.2.2.2.1 then ((q2iv (q2hr d) y8).eval fun y9 =>
 q2iz d self1 y9) else (q2iz d self1 (y8.2.1,y8.2.2.1,y8.2.2.2.1,y8.2.2.2.2.2.1,y8.2.2.2.2.2.2.1))) else ((q2j2 (q2hr d) y5).eval fun y11 =>
 some y11)
def q2j5 (d:Nat) (x:q2hm):Option q2hn :=
 (q2hx (q2hr d) (x.1.1,x.2.1.1,x.2.1.2.1,x.2.2.1.1,x.2.2.1.2.1)).eval fun y0 =>
 (q2i1 (q2hr d) y0).eval fun y1 =>
 (q2i5 (q2hr d) y1).eval fun y2 =>
 (q2i9 (q2hr d) y2).eval fun y3 =>
 (q2id (q2hr d) y3).eval fun y4 =>
 iter (q2j4 d ) d y4
theorem q2j6 (d:Nat):COK prog (q2hp (q2j5 d)):=by
 have hm:prog.follows .mixedOrders=true:=qju
 have hT:=tys
 have hC0:OrcOK prog (orc (q2hs (q2hr d))):=qct (by
  intro S hS
  simp only [q2hs,List.mem_cons,List.not_mem_nil,or_false] at hS
  rcases hS with rfl | rfl
  · exact q2bm d
  · exact q2hk d)
 have hC:OrcOK prog (orc (q2hs (q2hr d))):=hC0
 refine q8f (c:=qcz f80) (fn:=f80) hT (by kernel_rfl) (by kernel_rfl) (by decide) fun x r h w0 φ0 Q hend=>?_
 replace h:q2j5 d x=some r:=h
 unfold q2j5 at h
 show Run prog w0 φ0 64 (qcz f80) ⟨[(0,.agg [.fz Riii x.1.1]),(1,.agg [.int .i64 x.2.1.1,.int .i64 x.2.1.2.1]),(2,.agg [.int .i64 x.2.2.1.1,.int .i64 x.2.2.1.2.1])],[]⟩ Q
 refine q3yy hm hT hC (q2hy (q2hr d) (x.1.1,x.2.1.1,x.2.1.2.1,x.2.2.1.1,x.2.2.1.2.1)) h fun y0 h=>?_
 refine q3yy hm hT hC (q2i2 (q2hr d) y0) h fun y1 h=>?_
 refine q3yy hm hT hC (q2i6 (q2hr d) y1) h fun y2 h=>?_
 refine q3yy hm hT hC (q2ia (q2hr d) y2) h fun y3 h=>?_
 refine q7z ?_
 refine q3yy hm hT hC (q2ie (q2hr d) y3) h fun y4 h=>?_
 refine q80 ?_
 refine q85 (G:=iter (q2j4 d )) (S:=(fun x1=>⟨[(3,.ptr 0 0),(9,.rs 1),(33,.fz qjf x1.1),(34,.int .i64 x1.2.1),(35,.int .i64 x1.2.2.1)],[.cells [.fz Riii x1.2.2.2.1],.rows Riii x1.2.2.2.2]⟩:List qjg×Int×Int×List Diii×List Diii→St)) (fun _=>rfl) ?_ d _ h
 intro n1 x1 h K1 hn1
 replace h:q2j4 d  (iter (q2j4 d ) n1) x1=some r:=h
 generalize iter (q2j4 d ) n1=self1 at h hn1
 unfold q2j4 at h
 refine q3yy hm hT hC (q2ii (q2hr d) x1) h fun y5 h=>?_
 refine q7z ?_
 refine q83 (v:=y5.2.2.2.1) (by kernel_rfl) h ?_ ?_
 ·
  intro h
  refine q7v (q7l ?_)
  refine q82 (r:=r) (F:=q2iz d self1) (S:=(fun z=>⟨[(3,.ptr 0 0),(9,.rs 1),(33,.fz qjf z.1),(34,.int .i64 z.2.1),(35,.int .i64 z.2.2.1)],[.cells [.fz Riii z.2.2.2.1],.rows Riii z.2.2.2.2]⟩:List qjg×Int×Int×List Diii×List Diii→St)) ?_ ?_
  ·
   intro z h
   unfold q2iz at h
   refine q84 hm hT hC (q2iy (q2hr d) z) h ?_
   intro y10 h
   exact hn1 _ h
  intro hj2
  refine q80 ?_
  refine q3yy hm hT hC (q2im (q2hr d) y5) h fun y6 h=>?_
  refine q3yy hm hT hC (q2iq (q2hr d) y6) h fun y7 h=>?_
  refine q3yy hm hT hC (q2iu (q2hr d) y7) h fun y8 h=>?_
  refine q83 (v:=y8.2.2.2.2.1) (by kernel_rfl) h ?_ ?_
  ·
   intro h
   refine q84 hm hT hC (q2iw (q2hr d) y8) h ?_
   intro y9 h
   refine q7o ?_
   exact hj2 _ h
  ·
   intro h
   refine q7v (q7o ?_)
   refine qcy (s:=⟨[(3,.ptr 0 0),(9,.rs 1),(33,.fz qjf y8.2.1),(34,.int .i64 y8.2.2.1),(35,.int .i64 y8.2.2.2.1)],[.cells [.fz Riii y8.2.2.2.2.2.1],.rows Riii y8.2.2.2.2.2.2.1]⟩) [13,14,54] (by kernel_rfl) ?_
   exact hj2 _ h
 ·
  intro h
  refine q7x (q7m (q7m (q7q (q7l ?_))))
  refine q3yy hm hT hC (q2j3 (q2hr d) y5) h fun y11 h=>?_
  refine q7y ?_
  cases h
  exact (hend _ (by kernel_rfl)).2
abbrev q2j7:List Pk:=[.row qjc true,.row Rii true,.row Rii true]
abbrev q2j8:Type:=qjd×Dii×Dii×Unit
abbrev q2j9:Type:=List Dii×Int
def q2ja (r:q2j9):LV×List Ob:=(.tup [.rs 0,.int .i64 r.2],[.rows Rii r.1])
def q2jb (F:q2j8→Option q2j9):Go.Tx.Spec:=⟨32,q2j7,q2j9,F,q2ja⟩
abbrev q2jc:Type:=(q2cc→Option q2cd)×(q2hm→Option q2hn)×Unit
def q2jd (d:Nat):q2jc:=(q2d9 d,q2j5 d,())
def q2je (C:q2jc):List Go.Tx.Spec:=[q2cf C.1,q2hp C.2.1]
abbrev q2jf:Type:=List Diii×Int×Int×Int×Int
def q2jg (v:q2jf):St:=⟨[(0,.agg [.fz Riii v.1]),(1,.agg [.int .i64 v.2.1,.int .i64 v.2.2.1]),(2,.agg [.int .i64 v.2.2.2.1,.int .i64 v.2.2.2.2])],[]⟩
abbrev q2jh:Type:=List Diii×Int×Int×Int×Int
def q2ji (v:q2jh):St:=⟨[(3,.ptr 0 0),(4,.ptr 1 0),(5,.ptr 2 0)],[.cells [.fz Riii v.1],.cells [.int .i64 v.2.1,.int .i64 v.2.2.1],.cells [.int .i64 v.2.2.2.1,.int .i64 v.2.2.2.2]]⟩
def q2jj (C:q2jc) (v:q2jf):Dt q2jh:=(Dt.ret (v.1,v.2.1,v.2.2.1,v.2.2.2.1,v.2.2.2.2))
abbrev q40h {V Y:Type}:=@rg q2jc V Y tysT (fun C=>(orc (q2je C))) 36
theorem q2jk C v:q40h (regO (qcz f32) 0) false [(3,(.box [.val Riii])),(4,.any),(5,.any)] q2jg q2jj q2ji C v:=rgI (by kernel_rfl)
abbrev q2jl:Type:=Int×List Diii×Int×Int×Int×Int
def q2jm (v:q2jl):St:=⟨[(3,.ptr 0 0),(4,.ptr 1 0),(5,.ptr 2 0),(8,.int .i64 v.1)],[.cells [.fz Riii v.2.1],.cells [.int .i64 v.2.2.1,.int .i64 v.2.2.2.1],.cells [.int .i64 v.2.2.2.2.1,.int .i64 v.2.2.2.2.2]]⟩
def q2jn (C:q2jc) (v:q2jh):Dt q2jl:=(Dt.bnd (C.1 ((v.1,()),(v.2.1,v.2.2.1,()),(v.2.2.2.1,v.2.2.2.2,()),())) fun r1=>(Dt.ret (r1,v.1,v.2.1,v.2.2.1,v.2.2.2.1,v.2.2.2.2)))
theorem q2jo C v:q40h (regO (qcz f32) 1) false [(3,(.box [.val Riii])),(4,.any),(5,.any),(8,.any)] q2ji q2jn q2jm C v:=rgI (by kernel_rfl)
abbrev q2jp:Type:=Int×Bool×List Diii×Int×Int×Int×Int
def q2jq (v:q2jp):St:=⟨[(3,.ptr 0 0),(4,.ptr 1 0),(5,.ptr 2 0),(8,.int .i64 v.1),(17,.bool v.2.1)],[.cells [.fz Riii v.2.2.1],.cells [.int .i64 v.2.2.2.1,.int .i64 v.2.2.2.2.1],.cells [.int .i64 v.2.2.2.2.2.1,.int .i64 v.2.2.2.2.2.2]]⟩
def q2jr (C:q2jc) (v:q2jl):Dt q2jp:=(Dt.ret (v.1,(v.1 != (0:Int)),v.2.1,v.2.2.1,v.2.2.2.1,v.2.2.2.2.1,v.2.2.2.2.2))
theorem q2js C v:q40h (regO (qcz f32) 2) false [(3,(.box [.val Riii])),(4,.any),(5,.any),(8,.any),(17,.any)] q2jm q2jr q2jq C v:=rgI (by kernel_rfl)
abbrev q2jt:Type:=Int×List Dii
def q2ju (v:q2jt):St:=⟨[(6,.rs 0),(7,.int .i64 v.1)],[.rows Rii v.2]⟩
def q2jv (C:q2jc) (v:q2jp):Dt q2jt:=(Dt.ret (v.1,([]:List Dii)))
theorem q2jw C v:q40h (regO (qcz f32) 3) false [(6,(.own Rii)),(7,.any)] q2jq q2jv q2ju C v:=rgI (by kernel_rfl)
abbrev q2jx:Type:=List Diii×Int×Int×Int×Int×List Dii
def q2jy (v:q2jx):St:=⟨[(3,.ptr 0 0),(4,.ptr 1 0),(5,.ptr 2 0),(9,.rs 3)],[.cells [.fz Riii v.1],.cells [.int .i64 v.2.1,.int .i64 v.2.2.1],.cells [.int .i64 v.2.2.2.1,.int .i64 v.2.2.2.2.1],.rows Rii v.2.2.2.2.2]⟩
def q2jz (C:q2jc) (v:q2jp):Dt q2jx:=(Dt.ret (v.2.2.1,v.2.2.2.1,v.2.2.2.2.1,v.2.2.2.2.2.1,v.2.2.2.2.2.2,([]:List Dii)))
theorem q2k0 C v:q40h (regO (qcz f32) 4) false [(3,(.box [.val Riii])),(4,.any),(5,.any),(9,(.own Rii))] q2jq q2jz q2jy C v:=rgI (by kernel_rfl)
abbrev q2k1:Type:=List Diii×Int×Int×List Dii
def q2k2 (v:q2k1):St:=⟨[(9,.rs 0),(23,.fz Riii v.1),(24,.int .i64 v.2.1),(25,.int .i64 v.2.2.1)],[.rows Rii v.2.2.2]⟩
def q2k3 (C:q2jc) (v:q2jx):Dt q2k1:=(Dt.bnd (C.2.1 ((v.1,()),(v.2.1,v.2.2.1,()),(v.2.2.2.1,v.2.2.2.2.1,()),())) fun r1=>(Dt.ite (decide (0≤(1:Int)) && decide ((1:Int)≤(List.length r1:Int))) (Dt.ret ((List.drop ((1:Int)).toNat r1),(List.length (List.drop ((1:Int)).toNat r1):Int),(0:Int),v.2.2.2.2.2)) Dt.fail))
theorem q2k4 C v:q40h (regO (qcz f32) 5) false [(9,(.own Rii)),(23,(.val Riii)),(24,.any),(25,.any)] q2jy q2k3 q2k2 C v:=rgI (by kernel_rfl)
abbrev q2k5:Type:=List Diii×Int×Int×Bool×List Dii
def q2k6 (v:q2k5):St:=⟨[(9,.rs 0),(23,.fz Riii v.1),(24,.int .i64 v.2.1),(25,.int .i64 v.2.2.1),(26,.bool v.2.2.2.1)],[.rows Rii v.2.2.2.2]⟩
def q2k7 (C:q2jc) (v:q2k1):Dt q2k5:=(Dt.ret (v.1,v.2.1,v.2.2.1,(decide (v.2.2.1 < v.2.1)),v.2.2.2))
theorem q2k8 C v:q40h (regO (qcz f32) 6) false [(9,(.own Rii)),(23,(.val Riii)),(24,.any),(25,.any),(26,.any)] q2k2 q2k7 q2k6 C v:=rgI (by kernel_rfl)
abbrev q2k9:Type:=List Diii×Int×Int×List Dii×Int×Int×Int
def q2ka (v:q2k9):St:=⟨[(9,.rs 0),(11,.ptr 1 0),(23,.fz Riii v.1),(24,.int .i64 v.2.1),(25,.int .i64 v.2.2.1)],[.rows Rii v.2.2.2.1,.cells [.int .i64 v.2.2.2.2.1,.int .i64 v.2.2.2.2.2.1,.int .i64 v.2.2.2.2.2.2]]⟩
def q2kb (C:q2jc) (v:q2k5):Dt q2k9:=(Dt.ite (inB v.2.2.1 (List.length v.1)) (Dt.ret (v.1,v.2.1,v.2.2.1,v.2.2.2.2,(elt ziii v.1 (v.2.2.1).toNat).1,(elt ziii v.1 (v.2.2.1).toNat).2.1,(elt ziii v.1 (v.2.2.1).toNat).2.2.1)) Dt.fail)
theorem q2kc C v:q40h (regO (qcz f32) 7) false [(9,(.own Rii)),(11,.any),(23,(.val Riii)),(24,.any),(25,.any)] q2k6 q2kb q2ka C v:=rgI (by kernel_rfl)
def q2kd (C:q2jc) (v:q2k9):Dt q2k1:=(Dt.ite (apB (List.length v.2.2.2.1) (List.length ([(v.2.2.2.2.1,v.2.2.2.2.2.1,())]:List Dii))) (Dt.ret (v.1,v.2.1,v.2.2.1,(v.2.2.2.1 ++ ([(v.2.2.2.2.1,v.2.2.2.2.2.1,())]:List Dii)))) Dt.fail)
theorem q2ke C v:q40h (regO (qcz f32) 8) false [(9,(.own Rii)),(23,(.val Riii)),(24,.any),(25,.any)] q2ka q2kd q2k2 C v:=rgI (by kernel_rfl)
def q2kf (C:q2jc) (v:q2k1):Dt q2k1:=(Dt.ret (v.1,v.2.1,(IntKind.wrap .i64 (v.2.2.1 + (1:Int))),v.2.2.2))
theorem q2kg C v:q40h (regO (qcz f32) 9) false [(9,(.own Rii)),(23,(.val Riii)),(24,.any),(25,.any)] q2k2 q2kf q2k2 C v:=rgI (by kernel_rfl)
def q2kh (C:q2jc) (v:q2k5):Dt q2jt:=(Dt.ret ((0:Int),v.2.2.2.2))
theorem q2ki C v:q40h (regO (qcz f32) 10) false [(6,(.own Rii)),(7,.any)] q2k6 q2kh q2ju C v:=rgI (by kernel_rfl)
def q2kj (d:Nat) (self1:(List Diii×Int×Int×List Dii)→Option q2j9) (x1:List Diii×Int×Int×List Dii):Option q2j9 :=
 (q2k7 (q2jd d) x1).eval fun y6 =>
 bif y6.2.2.2.1 then ((q2kb (q2jd d) y6).eval fun y7 =>
 (q2kd (q2jd d) y7).eval fun y8 =>
 (q2kf (q2jd d) y8).eval fun y9 =>
 self1 y9) else ((q2kh (q2jd d) y6).eval fun y10 =>
 some (y10.2,y10.1))
def q2kk (d:Nat) (x:q2j8):Option q2j9 :=
 (q2jj (q2jd d) (x.1.1,x.2.1.1,x.2.1.2.1,x.2.2.1.1,x.2.2.1.2.1)).eval fun y0 =>
 (q2jn (q2jd d) y0).eval fun y1 =>
 (q2jr (q2jd d) y1).eval fun y2 =>
 bif y2.2.1 then ((q2jv (q2jd d) y2).eval fun y3 =>
 some (y3.2,y3.1)) else ((q2jz (q2jd d) y2).eval fun y4 =>
 (q2k3 (q2jd d) y4).eval fun y5 =>
 iter (q2kj d ) d y5)
theorem q2kl (d:Nat):COK prog (q2jb (q2kk d)):=by
 have hm:prog.follows .mixedOrders=true:=qju
 have hT:=tys
 have hC0:OrcOK prog (orc (q2je (q2jd d))):=qct (by
  intro S hS
  simp only [q2je,List.mem_cons,List.not_mem_nil,or_false] at hS
  rcases hS with rfl | rfl
  · exact q2da d
  · exact q2j6 d)
 have hC:OrcOK prog (orc (q2je (q2jd d))):=hC0
 refine q8f (c:=qcz f32) (fn:=f32) hT (by kernel_rfl) (by kernel_rfl) (by decide) fun x r h w0 φ0 Q hend=>?_
 replace h:q2kk d x=some r:=h
 unfold q2kk at h
 show Run prog w0 φ0 36 (qcz f32) ⟨[(0,.agg [.fz Riii x.1.1]),(1,.agg [.int .i64 x.2.1.1,.int .i64 x.2.1.2.1]),(2,.agg [.int .i64 x.2.2.1.1,.int .i64 x.2.2.1.2.1])],[]⟩ Q
 refine q3yy hm hT hC (q2jk (q2jd d) (x.1.1,x.2.1.1,x.2.1.2.1,x.2.2.1.1,x.2.2.1.2.1)) h fun y0 h=>?_
 refine q7z ?_
 refine q3yy hm hT hC (q2jo (q2jd d) y0) h fun y1 h=>?_
 refine q3yy hm hT hC (q2js (q2jd d) y1) h fun y2 h=>?_
 refine q83 (v:=y2.2.1) (by kernel_rfl) h ?_ ?_
 ·
  intro h
  refine q3yy hm hT hC (q2jw (q2jd d) y2) h fun y3 h=>?_
  refine q7y (q7n ?_)
  cases h
  exact (hend _ (by kernel_rfl)).2
 ·
  intro h
  refine q7v (q7l ?_)
  refine q3yy hm hT hC (q2k0 (q2jd d) y2) h fun y4 h=>?_
  refine q7z ?_
  refine q3yy hm hT hC (q2k4 (q2jd d) y4) h fun y5 h=>?_
  refine q80 ?_
  refine q85 (G:=iter (q2kj d )) (S:=(fun x1=>⟨[(9,.rs 0),(23,.fz Riii x1.1),(24,.int .i64 x1.2.1),(25,.int .i64 x1.2.2.1)],[.rows Rii x1.2.2.2]⟩:List Diii×Int×Int×List Dii→St)) (fun _=>rfl) ?_ d _ h
  intro n1 x1 h K1 hn1
  replace h:q2kj d  (iter (q2kj d ) n1) x1=some r:=h
  generalize iter (q2kj d ) n1=self1 at h hn1
  unfold q2kj at h
  refine q3yy hm hT hC (q2k8 (q2jd d) x1) h fun y6 h=>?_
  refine q7z ?_
  refine q83 (v:=y6.2.2.2.1) (by kernel_rfl) h ?_ ?_
  ·
   intro h
   refine q7v (q7l (q7z (q80 ?_)))
   refine q3yy hm hT hC (q2kc (q2jd d) y6) h fun y7 h=>?_
   refine q84 hm hT hC (q2ke (q2jd d) y7) h ?_
   intro y8 h
   refine q7o (q7l ?_)
   refine q84 hm hT hC (q2kg (q2jd d) y8) h ?_
   intro y9 h
   exact hn1 _ h
  ·
   intro h
   refine q7x (q7m (q7m (q7q (q7l ?_))))
   refine q3yy hm hT hC (q2ki (q2jd d) y6) h fun y10 h=>?_
   refine q7y ?_
   cases h
   exact (hend _ (by kernel_rfl)).2
abbrev q2km:List Pk:=[.row Riii true,.ref Ri]
abbrev q2kn:Type:=Diii×Di×Unit
abbrev q2ko:Type:=Bool
def q2kp (r:q2ko):LV×List Ob:=(.bool r,[])
def q2kq (F:q2kn→Option q2ko):Go.Tx.Spec:=⟨82,q2km,q2ko,F,q2kp⟩
abbrev q2kr:Type:=Unit
def q2ks (_d:Nat):q2kr:=()
def q2kt (C:q2kr):List Go.Tx.Spec:=[]
abbrev q2ku:Type:=Int×Int×Int×Di
def q2kv (v:q2ku):St:=⟨[(0,.agg [.int .i64 v.1,.int .i64 v.2.1,.int .i64 v.2.2.1]),(1,.fp Ri v.2.2.2 0)],[]⟩
abbrev q2kw:Type:=Di×Int×Int×Int
def q2kx (v:q2kw):St:=⟨[(1,.fp Ri v.1 0),(2,.ptr 0 0)],[.cells [.int .i64 v.2.1,.int .i64 v.2.2.1,.int .i64 v.2.2.2]]⟩
def q2ky (C:q2kr) (v:q2ku):Dt q2kw:=(Dt.ret (v.2.2.2,v.1,v.2.1,v.2.2.1))
abbrev q40i {V Y:Type}:=@rg q2kr V Y tysT (fun C=>(orc (q2kt C))) 8
theorem q2kz C v:q40i (regO (qcz f82) 0) false (an [1,2]) q2kv q2ky q2kx C v:=rgI (by kernel_rfl)
abbrev q2l0:Type:=Bool
def q2l1 (v:q2l0):St:=⟨[(3,.bool v)],[]⟩
def q2l2 (C:q2kr) (v:q2kw):Dt q2l0:=(Dt.ret (decide (v.2.2.2 ≥ v.1.1)))
theorem q2l3 C v:q40i (regO (qcz f82) 1) false [(3,.any)] q2kx q2l2 q2l1 C v:=rgI (by kernel_rfl)
def q2l4 (d:Nat) (x:q2kn):Option q2ko :=
 (q2ky (q2ks d) (x.1.1,x.1.2.1,x.1.2.2.1,x.2.1)).eval fun y0 =>
 (q2l2 (q2ks d) y0).eval fun y1 =>
 some y1
theorem q2l5 (d:Nat):COK prog (q2kq (q2l4 d)):=by
 have hm:prog.follows .mixedOrders=true:=qju
 have hT:=tys
 have hC0:OrcOK prog (orc (q2kt (q2ks d))):=qct (by
  intro S hS
  simp only [q2kt,List.mem_cons,List.not_mem_nil,or_false] at hS
  all_goals first | cases hS | exact hS.elim)
 have hC:OrcOK prog (orc (q2kt (q2ks d))):=hC0
 refine q8f (c:=qcz f82) (fn:=f82) hT (by kernel_rfl) (by kernel_rfl) (by decide) fun x r h w0 φ0 Q hend=>?_
 replace h:q2l4 d x=some r:=h
 unfold q2l4 at h
 show Run prog w0 φ0 8 (qcz f82) ⟨[(0,.agg [.int .i64 x.1.1,.int .i64 x.1.2.1,.int .i64 x.1.2.2.1]),(1,.fp Ri x.2.1 0)],[]⟩ Q
 refine q3yy hm hT hC (q2kz (q2ks d) (x.1.1,x.1.2.1,x.1.2.2.1,x.2.1)) h fun y0 h=>?_
 refine q3yy hm hT hC (q2l3 (q2ks d) y0) h fun y1 h=>?_
 refine q7y ?_
 cases h
 exact (hend _ (by kernel_rfl)).2
abbrev q2l6:List Pk:=[.row qjc false,.fn 82 [Ri]]
abbrev q2l7:Type:=qjd×(Di×Unit)×Unit
abbrev q2l8:Type:=Int
def q2l9 (r:q2l8):LV×List Ob:=(.int .i64 r,[])
def q2la (F:q2l7→Option q2l8):Go.Tx.Spec:=⟨83,q2l6,q2l8,F,q2l9⟩
abbrev q2lb:Type:=(q2kn→Option q2ko)×Unit
def q2lc (d:Nat):q2lb:=(q2l4 d,())
def q2ld (C:q2lb):List Go.Tx.Spec:=[q2kq C.1]
abbrev q2le:Type:=List Diii×Di
def q2lf (v:q2le):St:=⟨[(0,.fz Riii v.1),(1,.fn 82 [.fp Ri v.2 0])],[]⟩
def q2lg (C:q2lb) (v:q2le):Dt q2le:=(Dt.ret (v.1,v.2))
abbrev q40j {V Y:Type}:=@rg q2lb V Y tysT (fun C=>(orc (q2ld C))) 19
theorem q2lh C v:q40j (regO (qcz f83) 0) false [(0,(.val Riii)),(1,.any)] q2lf q2lg q2lf C v:=rgI (by kernel_rfl)
abbrev q2li:Type:=List Diii×Di×Int×Int
def q2lj (v:q2li):St:=⟨[(0,.fz Riii v.1),(1,.fn 82 [.fp Ri v.2.1 0]),(7,.int .i64 v.2.2.1),(8,.int .i64 v.2.2.2)],[]⟩
def q2lk (C:q2lb) (v:q2le):Dt q2li:=(Dt.ret (v.1,v.2,(List.length v.1:Int),(0:Int)))
theorem q2ll C v:q40j (regO (qcz f83) 1) false [(0,(.val Riii)),(1,.any),(7,.any),(8,.any)] q2lf q2lk q2lj C v:=rgI (by kernel_rfl)
abbrev q2lm:Type:=List Diii×Di×Int×Int×Bool
def q2ln (v:q2lm):St:=⟨[(0,.fz Riii v.1),(1,.fn 82 [.fp Ri v.2.1 0]),(7,.int .i64 v.2.2.1),(8,.int .i64 v.2.2.2.1),(9,.bool v.2.2.2.2)],[]⟩
def q2lo (C:q2lb) (v:q2li):Dt q2lm:=(Dt.ret (v.1,v.2.1,v.2.2.1,v.2.2.2,(decide (v.2.2.2 < v.2.2.1))))
theorem q2lp C v:q40j (regO (qcz f83) 2) false [(0,(.val Riii)),(1,.any),(7,.any),(8,.any),(9,.any)] q2lj q2lo q2ln C v:=rgI (by kernel_rfl)
abbrev q2lq:Type:=List Diii×Di×Int×Int×Int
def q2lr (v:q2lq):St:=⟨[(0,.fz Riii v.1),(1,.fn 82 [.fp Ri v.2.1 0]),(5,.int .i64 v.2.2.1),(7,.int .i64 v.2.2.2.1),(8,.int .i64 v.2.2.2.2)],[]⟩
def q2ls (C:q2lb) (v:q2lm):Dt q2lq:=(Dt.ret (v.1,v.2.1,v.2.2.2.1,v.2.2.1,v.2.2.2.1))
theorem q2lt C v:q40j (regO (qcz f83) 3) false [(0,(.val Riii)),(1,.any),(5,.any),(7,.any),(8,.any)] q2ln q2ls q2lr C v:=rgI (by kernel_rfl)
abbrev q2lu:Type:=List Diii×Di×Int×Int×Int×Bool
def q2lv (v:q2lu):St:=⟨[(0,.fz Riii v.1),(1,.fn 82 [.fp Ri v.2.1 0]),(5,.int .i64 v.2.2.1),(7,.int .i64 v.2.2.2.1),(8,.int .i64 v.2.2.2.2.1),(16,.bool v.2.2.2.2.2)],[]⟩
def q2lw (C:q2lb) (v:q2lq):Dt q2lu:=(Dt.ite (inB v.2.2.1 (List.length v.1)) (Dt.bnd (C.1 (((elt ziii v.1 (v.2.2.1).toNat).1,(elt ziii v.1 (v.2.2.1).toNat).2.1,(elt ziii v.1 (v.2.2.1).toNat).2.2.1,()),v.2.1,())) fun r1=>(Dt.ret (v.1,v.2.1,v.2.2.1,v.2.2.2.1,v.2.2.2.2,r1))) Dt.fail)
theorem q2lx C v:q40j (regO (qcz f83) 4) false [(0,(.val Riii)),(1,.any),(5,.any),(7,.any),(8,.any),(16,.any)] q2lr q2lw q2lv C v:=rgI (by kernel_rfl)
abbrev q2ly:Type:=Int
def q2lz (v:q2ly):St:=⟨[(4,.int .i64 v)],[]⟩
def q2m0 (C:q2lb) (v:q2lu):Dt q2ly:=(Dt.ret v.2.2.1)
theorem q2m1 C v:q40j (regO (qcz f83) 5) false [(4,.any)] q2lv q2m0 q2lz C v:=rgI (by kernel_rfl)
def q2m2 (C:q2lb) (v:q2lu):Dt q2li:=(Dt.ret (v.1,v.2.1,v.2.2.2.1,(IntKind.wrap .i64 (v.2.2.2.2.1 + (1:Int)))))
theorem q2m3 C v:q40j (regO (qcz f83) 6) false [(0,(.val Riii)),(1,.any),(7,.any),(8,.any)] q2lv q2m2 q2lj C v:=rgI (by kernel_rfl)
def q2m4 (C:q2lb) (v:q2lm):Dt q2ly:=(Dt.ret (-1:Int))
theorem q2m5 C v:q40j (regO (qcz f83) 7) false [(4,.any)] q2ln q2m4 q2lz C v:=rgI (by kernel_rfl)
def q2m6 (d:Nat) (self1:(List Diii×Di×Int×Int)→Option q2l8) (x1:List Diii×Di×Int×Int):Option q2l8 :=
 (q2lo (q2lc d) x1).eval fun y2 =>
 bif y2.2.2.2.2 then ((q2ls (q2lc d) y2).eval fun y3 =>
 (q2lw (q2lc d) y3).eval fun y4 =>
 bif y4.2.2.2.2.2 then ((q2m0 (q2lc d) y4).eval fun y5 =>
 some y5) else ((q2m2 (q2lc d) y4).eval fun y6 =>
 self1 y6)) else ((q2m4 (q2lc d) y2).eval fun y7 =>
 some y7)
def q2m7 (d:Nat) (x:q2l7):Option q2l8 :=
 (q2lg (q2lc d) (x.1.1,x.2.1.1)).eval fun y0 =>
 (q2lk (q2lc d) y0).eval fun y1 =>
 iter (q2m6 d ) d y1
theorem q2m8 (d:Nat):COK prog (q2la (q2m7 d)):=by
 have hm:prog.follows .mixedOrders=true:=qju
 have hT:=tys
 have hC0:OrcOK prog (orc (q2ld (q2lc d))):=qct (by
  intro S hS
  simp only [q2ld,List.mem_cons,List.not_mem_nil,or_false] at hS
  subst hS;exact q2l5 d)
 have hC:OrcOK prog (orc (q2ld (q2lc d))):=hC0
 refine q8f (c:=qcz f83) (fn:=f83) hT (by kernel_rfl) (by kernel_rfl) (by decide) fun x r h w0 φ0 Q hend=>?_
 replace h:q2m7 d x=some r:=h
 unfold q2m7 at h
 show Run prog w0 φ0 19 (qcz f83) ⟨[(0,.fz Riii x.1.1),(1,.fn 82 [.fp Ri x.2.1.1 0])],[]⟩ Q
 refine q3yy hm hT hC (q2lh (q2lc d) (x.1.1,x.2.1.1)) h fun y0 h=>?_
 refine q7z ?_
 refine q3yy hm hT hC (q2ll (q2lc d) y0) h fun y1 h=>?_
 refine q80 ?_
 refine q85 (G:=iter (q2m6 d )) (S:=(fun x1=>⟨[(0,.fz Riii x1.1),(1,.fn 82 [.fp Ri x1.2.1 0]),(7,.int .i64 x1.2.2.1),(8,.int .i64 x1.2.2.2)],[]⟩:List Diii×Di×Int×Int→St)) (fun _=>rfl) ?_ d _ h
 intro n1 x1 h K1 hn1
 replace h:q2m6 d  (iter (q2m6 d ) n1) x1=some r:=h
 generalize iter (q2m6 d ) n1=self1 at h hn1
 unfold q2m6 at h
 refine q3yy hm hT hC (q2lp (q2lc d) x1) h fun y2 h=>?_
 refine q7z ?_
 refine q83 (v:=y2.2.2.2.2) (by kernel_rfl) h ?_ ?_
 ·
  intro h
  refine q7v (q7l (q7z (q80 ?_)))
  refine q3yy hm hT hC (q2lt (q2lc d) y2) h fun y3 h=>?_
  refine q3yy hm hT hC (q2lx (q2lc d) y3) h fun y4 h=>?_
  refine q83 (v:=y4.2.2.2.2.2) (by kernel_rfl) h ?_ ?_
  ·
   intro h
   refine q3yy hm hT hC (q2m1 (q2lc d) y4) h fun y5 h=>?_
   refine q7y (q7p (q7n (q7n (q7p (q7n ?_)))))
   cases h
   exact (hend _ (by kernel_rfl)).2
  ·
   intro h
   refine q7v (q7o (q7l ?_))
   refine q84 hm hT hC (q2m3 (q2lc d) y4) h ?_
   intro y6 h
   exact hn1 _ h
 ·
  intro h
  refine q7x (q7m (q7m (q7q (q7l ?_))))
  refine q3yy hm hT hC (q2m5 (q2lc d) y2) h fun y7 h=>?_
  refine q7y ?_
  cases h
  exact (hend _ (by kernel_rfl)).2
abbrev q2m9:List Pk:=[.row qjc true,.row Rii true,.row Rii true]
abbrev q2ma:Type:=qjd×Dii×Dii×Unit
abbrev q2mb:Type:=Int×Int×Int×Int×Int
def q2mc (r:q2mb):LV×List Ob:=(.tup [.agg [.int .i64 r.1,.int .i64 r.2.1],.agg [.int .i64 r.2.2.1,.int .i64 r.2.2.2.1],.int .i64 r.2.2.2.2],[])
def q2md (F:q2ma→Option q2mb):Go.Tx.Spec:=⟨34,q2m9,q2mb,F,q2mc⟩
abbrev q2me:Type:=(q2f6→Option q2f7)×(q2cc→Option q2cd)×(q2hm→Option q2hn)×(q2l7→Option q2l8)×Unit
def q2mf (d:Nat):q2me:=(q2gl d,q2d9 d,q2j5 d,q2m7 d,())
def q2mg (C:q2me):List Go.Tx.Spec:=[q2f9 C.1,q2cf C.2.1,q2hp C.2.2.1,q2la C.2.2.2.1]
abbrev q2mh:Type:=List Diii×Int×Int×Int×Int
def q2mi (v:q2mh):St:=⟨[(0,.agg [.fz Riii v.1]),(1,.agg [.int .i64 v.2.1,.int .i64 v.2.2.1]),(2,.agg [.int .i64 v.2.2.2.1,.int .i64 v.2.2.2.2])],[]⟩
abbrev q2mj:Type:=List Diii×Int×Int×Int×Int×Int×Int×Int×Int
def q2mk (v:q2mj):St:=⟨[(3,.ptr 0 0),(4,.ptr 1 0),(5,.ptr 2 0),(6,.ptr 3 0),(7,.ptr 4 0)],[.cells [.fz Riii v.1],.cells [.int .i64 v.2.1,.int .i64 v.2.2.1],.cells [.int .i64 v.2.2.2.1,.int .i64 v.2.2.2.2.1],.cells [.int .i64 v.2.2.2.2.2.1,.int .i64 v.2.2.2.2.2.2.1],.cells [.int .i64 v.2.2.2.2.2.2.2.1,.int .i64 v.2.2.2.2.2.2.2.2]]⟩
def q2ml (C:q2me) (v:q2mh):Dt q2mj:=(Dt.ret (v.1,v.2.1,v.2.2.1,v.2.2.2.1,v.2.2.2.2,(0:Int),(0:Int),(0:Int),(0:Int)))
abbrev q40k {V Y:Type}:=@rg q2me V Y tysT (fun C=>(orc (q2mg C))) 56
theorem q2mm C v:q40k (regO (qcz f34) 0) false [(3,(.box [.val Riii])),(4,.any),(5,.any),(6,.any),(7,.any)] q2mi q2ml q2mk C v:=rgI (by kernel_rfl)
abbrev q2mn:Type:=Int×List Diii×Int×Int×Int×Int×Int×Int×Int×Int
def q2mo (v:q2mn):St:=⟨[(3,.ptr 0 0),(4,.ptr 1 0),(5,.ptr 2 0),(6,.ptr 3 0),(7,.ptr 4 0),(9,.int .i64 v.1)],[.cells [.fz Riii v.2.1],.cells [.int .i64 v.2.2.1,.int .i64 v.2.2.2.1],.cells [.int .i64 v.2.2.2.2.1,.int .i64 v.2.2.2.2.2.1],.cells [.int .i64 v.2.2.2.2.2.2.1,.int .i64 v.2.2.2.2.2.2.2.1],.cells [.int .i64 v.2.2.2.2.2.2.2.2.1,.int .i64 v.2.2.2.2.2.2.2.2.2]]⟩
def q2mp (C:q2me) (v:q2mj):Dt q2mn:=(Dt.bnd (C.2.1 ((v.1,()),(v.2.1,v.2.2.1,()),(v.2.2.2.1,v.2.2.2.2.1,()),())) fun r1=>(Dt.ret (r1,v.1,v.2.1,v.2.2.1,v.2.2.2.1,v.2.2.2.2.1,v.2.2.2.2.2.1,v.2.2.2.2.2.2.1,v.2.2.2.2.2.2.2.1,v.2.2.2.2.2.2.2.2)))
theorem q2mq C v:q40k (regO (qcz f34) 1) false [(3,(.box [.val Riii])),(4,.any),(5,.any),(6,.any),(7,.any),(9,.any)] q2mk q2mp q2mo C v:=rgI (by kernel_rfl)
abbrev q2mr:Type:=Int×Bool×List Diii×Int×Int×Int×Int×Int×Int×Int×Int
def q2ms (v:q2mr):St:=⟨[(3,.ptr 0 0),(4,.ptr 1 0),(5,.ptr 2 0),(6,.ptr 3 0),(7,.ptr 4 0),(9,.int .i64 v.1),(21,.bool v.2.1)],[.cells [.fz Riii v.2.2.1],.cells [.int .i64 v.2.2.2.1,.int .i64 v.2.2.2.2.1],.cells [.int .i64 v.2.2.2.2.2.1,.int .i64 v.2.2.2.2.2.2.1],.cells [.int .i64 v.2.2.2.2.2.2.2.1,.int .i64 v.2.2.2.2.2.2.2.2.1],.cells [.int .i64 v.2.2.2.2.2.2.2.2.2.1,.int .i64 v.2.2.2.2.2.2.2.2.2.2]]⟩
def q2mt (C:q2me) (v:q2mn):Dt q2mr:=(Dt.ret (v.1,(v.1 != (0:Int)),v.2.1,v.2.2.1,v.2.2.2.1,v.2.2.2.2.1,v.2.2.2.2.2.1,v.2.2.2.2.2.2.1,v.2.2.2.2.2.2.2.1,v.2.2.2.2.2.2.2.2.1,v.2.2.2.2.2.2.2.2.2))
theorem q2mu C v:q40k (regO (qcz f34) 2) false [(3,(.box [.val Riii])),(4,.any),(5,.any),(6,.any),(7,.any),(9,.any),(21,.any)] q2mo q2mt q2ms C v:=rgI (by kernel_rfl)
abbrev q2mv:Type:=Int×Int×Int×Int×Int
def q2mw (v:q2mv):St:=⟨[(6,.ptr 0 0),(7,.ptr 1 0),(8,.int .i64 v.1)],[.cells [.int .i64 v.2.1,.int .i64 v.2.2.1],.cells [.int .i64 v.2.2.2.1,.int .i64 v.2.2.2.2]]⟩
def q2mx (C:q2me) (v:q2mr):Dt q2mv:=(Dt.ret (v.1,v.2.2.2.2.2.2.2.1,v.2.2.2.2.2.2.2.2.1,v.2.2.2.2.2.2.2.2.2.1,v.2.2.2.2.2.2.2.2.2.2))
theorem q2my C v:q40k (regO (qcz f34) 3) true (an [6,7,8]) q2ms q2mx q2mw C v:=rgI (by kernel_rfl)
abbrev q2mz:Type:=List Diii×Int×Int×Int×Int×Int×Int×Int×Int×Int
def q2n0 (v:q2mz):St:=⟨[(3,.ptr 0 0),(4,.ptr 1 0),(5,.ptr 2 0),(6,.ptr 3 0),(7,.ptr 4 0),(10,.ptr 5 0)],[.cells [.fz Riii v.1],.cells [.int .i64 v.2.1,.int .i64 v.2.2.1],.cells [.int .i64 v.2.2.2.1,.int .i64 v.2.2.2.2.1],.cells [.int .i64 v.2.2.2.2.2.1,.int .i64 v.2.2.2.2.2.2.1],.cells [.int .i64 v.2.2.2.2.2.2.2.1,.int .i64 v.2.2.2.2.2.2.2.2.1],.cells [.int .i64 v.2.2.2.2.2.2.2.2.2]]⟩
def q2n1 (C:q2me) (v:q2mr):Dt q2mz:=(Dt.ret (v.2.2.1,v.2.2.2.1,v.2.2.2.2.1,v.2.2.2.2.2.1,v.2.2.2.2.2.2.1,v.2.2.2.2.2.2.2.1,v.2.2.2.2.2.2.2.2.1,v.2.2.2.2.2.2.2.2.2.1,v.2.2.2.2.2.2.2.2.2.2,(0:Int)))
theorem q2n2 C v:q40k (regO (qcz f34) 4) false [(3,(.box [.val Riii])),(4,.any),(5,.any),(6,.any),(7,.any),(10,.any)] q2ms q2n1 q2n0 C v:=rgI (by kernel_rfl)
abbrev q2n3:Type:=List Diii×Int×Int×Int×Int×Int×Int×Int×Int×Int
def q2n4 (v:q2n3):St:=⟨[(3,.ptr 0 0),(4,.ptr 1 0),(5,.ptr 2 0),(6,.ptr 3 0),(7,.ptr 4 0),(11,.ptr 5 0)],[.cells [.fz Riii v.1],.cells [.int .i64 v.2.1,.int .i64 v.2.2.1],.cells [.int .i64 v.2.2.2.1,.int .i64 v.2.2.2.2.1],.cells [.int .i64 v.2.2.2.2.2.1,.int .i64 v.2.2.2.2.2.2.1],.cells [.int .i64 v.2.2.2.2.2.2.2.1,.int .i64 v.2.2.2.2.2.2.2.2.1],.cells [.fn 82 [.ptr 6 0]],.cells [.int .i64 v.2.2.2.2.2.2.2.2.2]]⟩
def q2n5 (C:q2me) (v:q2mz):Dt q2n3:=(Dt.ret (v.1,v.2.1,v.2.2.1,v.2.2.2.1,v.2.2.2.2.1,v.2.2.2.2.2.1,v.2.2.2.2.2.2.1,v.2.2.2.2.2.2.2.1,v.2.2.2.2.2.2.2.2.1,v.2.2.2.2.2.2.2.2.2))
theorem q2n6 C v:q40k (regO (qcz f34) 5) false [(3,(.box [.val Riii])),(4,.any),(5,.any),(6,.any),(7,.any),(11,.any)] q2n0 q2n5 q2n4 C v:=rgI (by kernel_rfl)
abbrev q2n7:Type:=List Diii×Int×Int×Int×Int×Int×Int×Int×List Diii
def q2n8 (v:q2n7):St:=⟨[(3,.ptr 0 0),(5,.ptr 1 0),(6,.ptr 2 0),(7,.ptr 3 0),(11,.ptr 4 0),(12,.rs 6)],[.cells [.fz Riii v.1],.cells [.int .i64 v.2.1,.int .i64 v.2.2.1],.cells [.int .i64 v.2.2.2.1,.int .i64 v.2.2.2.2.1],.cells [.int .i64 v.2.2.2.2.2.1,.int .i64 v.2.2.2.2.2.2.1],.cells [.fn 82 [.ptr 5 0]],.cells [.int .i64 v.2.2.2.2.2.2.2.1],.rows Riii v.2.2.2.2.2.2.2.2]⟩
def q2n9 (C:q2me) (v:q2n3):Dt q2n7:=(Dt.bnd (C.2.2.1 ((v.1,()),(v.2.1,v.2.2.1,()),(v.2.2.2.1,v.2.2.2.2.1,()),())) fun r1=>(Dt.ret (v.1,v.2.2.2.1,v.2.2.2.2.1,v.2.2.2.2.2.1,v.2.2.2.2.2.2.1,v.2.2.2.2.2.2.2.1,v.2.2.2.2.2.2.2.2.1,v.2.2.2.2.2.2.2.2.2,r1)))
theorem q2na C v:q40k (regO (qcz f34) 6) false [(3,(.box [.val Riii])),(5,.any),(6,.any),(7,.any),(11,.any),(12,(.own Riii))] q2n4 q2n9 q2n8 C v:=rgI (by kernel_rfl)
abbrev q2nb:Type:=List Diii×Int×Int×Int×Int×Int×List Diii×Int×Int
def q2nc (v:q2nb):St:=⟨[(3,.ptr 0 0),(6,.ptr 1 0),(7,.ptr 2 0),(11,.ptr 3 0),(12,.rs 5),(13,.ptr 6 0)],[.cells [.fz Riii v.1],.cells [.int .i64 v.2.1,.int .i64 v.2.2.1],.cells [.int .i64 v.2.2.2.1,.int .i64 v.2.2.2.2.1],.cells [.fn 82 [.ptr 4 0]],.cells [.int .i64 v.2.2.2.2.2.1],.rows Riii v.2.2.2.2.2.2.1,.cells [.int .i64 v.2.2.2.2.2.2.2.1,.int .i64 v.2.2.2.2.2.2.2.2]]⟩
def q2nd (C:q2me) (v:q2n7):Dt q2nb:=(Dt.ret (v.1,v.2.2.2.1,v.2.2.2.2.1,v.2.2.2.2.2.1,v.2.2.2.2.2.2.1,v.2.2.2.2.2.2.2.1,v.2.2.2.2.2.2.2.2,v.2.1,v.2.2.1))
theorem q2ne C v:q40k (regO (qcz f34) 7) false [(3,(.box [.val Riii])),(6,.any),(7,.any),(11,.any),(12,(.own Riii)),(13,.any)] q2n8 q2nd q2nc C v:=rgI (by kernel_rfl)
abbrev q2nf:Type:=Int×List Diii×Int×Int×Int×Int×List Diii×Int×Int
def q2ng (v:q2nf):St:=⟨[(3,.ptr 0 0),(6,.ptr 1 0),(7,.ptr 2 0),(12,.rs 3),(13,.ptr 4 0),(14,.int .i64 v.1)],[.cells [.fz Riii v.2.1],.cells [.int .i64 v.2.2.1,.int .i64 v.2.2.2.1],.cells [.int .i64 v.2.2.2.2.1,.int .i64 v.2.2.2.2.2.1],.rows Riii v.2.2.2.2.2.2.1,.cells [.int .i64 v.2.2.2.2.2.2.2.1,.int .i64 v.2.2.2.2.2.2.2.2]]⟩
def q2nh (C:q2me) (v:q2nb):Dt q2nf:=(Dt.bnd (C.2.2.2.1 ((v.2.2.2.2.2.2.1,()),((v.2.2.2.2.2.1,()),()),())) fun r1=>(Dt.ret (r1,v.1,v.2.1,v.2.2.1,v.2.2.2.1,v.2.2.2.2.1,v.2.2.2.2.2.2.1,v.2.2.2.2.2.2.2.1,v.2.2.2.2.2.2.2.2)))
theorem q2ni C v:q40k (regO (qcz f34) 8) false [(3,(.box [.val Riii])),(6,.any),(7,.any),(12,(.own Riii)),(13,.any),(14,.any)] q2nc q2nh q2ng C v:=rgI (by kernel_rfl)
abbrev q2nj:Type:=Int×Bool×List Diii×Int×Int×Int×Int×List Diii×Int×Int
def q2nk (v:q2nj):St:=⟨[(3,.ptr 0 0),(6,.ptr 1 0),(7,.ptr 2 0),(12,.rs 3),(13,.ptr 4 0),(14,.int .i64 v.1),(37,.bool v.2.1)],[.cells [.fz Riii v.2.2.1],.cells [.int .i64 v.2.2.2.1,.int .i64 v.2.2.2.2.1],.cells [.int .i64 v.2.2.2.2.2.1,.int .i64 v.2.2.2.2.2.2.1],.rows Riii v.2.2.2.2.2.2.2.1,.cells [.int .i64 v.2.2.2.2.2.2.2.2.1,.int .i64 v.2.2.2.2.2.2.2.2.2]]⟩
def q2nl (C:q2me) (v:q2nf):Dt q2nj:=(Dt.ret (v.1,(decide (v.1 ≥ (0:Int))),v.2.1,v.2.2.1,v.2.2.2.1,v.2.2.2.2.1,v.2.2.2.2.2.1,v.2.2.2.2.2.2.1,v.2.2.2.2.2.2.2.1,v.2.2.2.2.2.2.2.2))
theorem q2nm C v:q40k (regO (qcz f34) 9) false [(3,(.box [.val Riii])),(6,.any),(7,.any),(12,(.own Riii)),(13,.any),(14,.any),(37,.any)] q2ng q2nl q2nk C v:=rgI (by kernel_rfl)
abbrev q2nn:Type:=List Diii×Int×Int×Int×Int×Int×Int
def q2no (v:q2nn):St:=⟨[(3,.ptr 0 0),(6,.ptr 1 0),(7,.ptr 2 0),(13,.ptr 3 0)],[.cells [.fz Riii v.1],.cells [.int .i64 v.2.1,.int .i64 v.2.2.1],.cells [.int .i64 v.2.2.2.1,.int .i64 v.2.2.2.2.1],.cells [.int .i64 v.2.2.2.2.2.1,.int .i64 v.2.2.2.2.2.2]]⟩
def q2np (C:q2me) (v:q2nj):Dt q2nn:=(Dt.ite (inB v.1 (List.length v.2.2.2.2.2.2.2.1)) (Dt.ret (v.2.2.1,v.2.2.2.1,v.2.2.2.2.1,v.2.2.2.2.2.1,v.2.2.2.2.2.2.1,(elt ziii v.2.2.2.2.2.2.2.1 (v.1).toNat).1,(elt ziii v.2.2.2.2.2.2.2.1 (v.1).toNat).2.1)) Dt.fail)
theorem q2nq C v:q40k (regO (qcz f34) 10) false [(3,(.box [.val Riii])),(6,.any),(7,.any),(13,.any)] q2nk q2np q2no C v:=rgI (by kernel_rfl)
abbrev q2nr:Type:=Int×Int×Int×Int×Int×Int×Int×Int×Int
def q2ns (v:q2nr):St:=⟨[(6,.ptr 0 0),(7,.ptr 1 0),(8,.int .i64 v.1),(13,.ptr 2 0),(15,.ptr 3 0)],[.cells [.int .i64 v.2.1,.int .i64 v.2.2.1],.cells [.int .i64 v.2.2.2.1,.int .i64 v.2.2.2.2.1],.cells [.int .i64 v.2.2.2.2.2.1,.int .i64 v.2.2.2.2.2.2.1],.cells [.int .i64 v.2.2.2.2.2.2.2.1,.int .i64 v.2.2.2.2.2.2.2.2]]⟩
def q2nt (C:q2me) (v:q2nn):Dt q2nr:=(Dt.bnd (C.1 ((v.1,()),(v.2.2.2.2.2.1,v.2.2.2.2.2.2,()),())) fun r1=>(Dt.ret (r1.2.2,v.2.1,v.2.2.1,v.2.2.2.1,v.2.2.2.2.1,v.2.2.2.2.2.1,v.2.2.2.2.2.2,r1.1,r1.2.1)))
theorem q2nu C v:q40k (regO (qcz f34) 11) false (an [6,7,8,13,15]) q2no q2nt q2ns C v:=rgI (by kernel_rfl)
abbrev q2nv:Type:=Int×Bool×Int×Int×Int×Int×Int×Int×Int×Int
def q2nw (v:q2nv):St:=⟨[(6,.ptr 0 0),(7,.ptr 1 0),(8,.int .i64 v.1),(13,.ptr 2 0),(15,.ptr 3 0),(50,.bool v.2.1)],[.cells [.int .i64 v.2.2.1,.int .i64 v.2.2.2.1],.cells [.int .i64 v.2.2.2.2.1,.int .i64 v.2.2.2.2.2.1],.cells [.int .i64 v.2.2.2.2.2.2.1,.int .i64 v.2.2.2.2.2.2.2.1],.cells [.int .i64 v.2.2.2.2.2.2.2.2.1,.int .i64 v.2.2.2.2.2.2.2.2.2]]⟩
def q2nx (C:q2me) (v:q2nr):Dt q2nv:=(Dt.ret (v.1,(v.1 != (0:Int)),v.2.1,v.2.2.1,v.2.2.2.1,v.2.2.2.2.1,v.2.2.2.2.2.1,v.2.2.2.2.2.2.1,v.2.2.2.2.2.2.2.1,v.2.2.2.2.2.2.2.2))
theorem q2ny C v:q40k (regO (qcz f34) 12) false (an [6,7,8,13,15,50]) q2ns q2nx q2nw C v:=rgI (by kernel_rfl)
def q2nz (C:q2me) (v:q2nv):Dt q2mv:=(Dt.ret (v.1,v.2.2.1,v.2.2.2.1,v.2.2.2.2.1,v.2.2.2.2.2.1))
theorem q2o0 C v:q40k (regO (qcz f34) 13) true (an [6,7,8]) q2nw q2nz q2mw C v:=rgI (by kernel_rfl)
def q2o1 (C:q2me) (v:q2nv):Dt q2mv:=(Dt.ret ((0:Int),v.2.2.2.2.2.2.1,v.2.2.2.2.2.2.2.1,v.2.2.2.2.2.2.2.2.1,v.2.2.2.2.2.2.2.2.2))
theorem q2o2 C v:q40k (regO (qcz f34) 14) true (an [6,7,8]) q2nw q2o1 q2mw C v:=rgI (by kernel_rfl)
def q2o3  (d:Nat)  (z:List Diii×Int×Int×Int×Int×Int×Int):Option (q2mb) :=
 (q2nt (q2mf d) z).eval fun y11 =>
 (q2nx (q2mf d) y11).eval fun y12 =>
 bif y12.2.1 then ((q2nz (q2mf d) y12).eval fun y13 =>
 some (y13.2.1,y13.2.2.1,y13.2.2.2.1,y13.2.2.2.2,y13.1)) else ((q2o1 (q2mf d) y12).eval fun y14 =>
 some (y14.2.1,y14.2.2.1,y14.2.2.2.1,y14.2.2.2.2,y14.1))
def q2o4 (d:Nat) (x:q2ma):Option q2mb :=
 (q2ml (q2mf d) (x.1.1,x.2.1.1,x.2.1.2.1,x.2.2.1.1,x.2.2.1.2.1)).eval fun y0 =>
 (q2mp (q2mf d) y0).eval fun y1 =>
 (q2mt (q2mf d) y1).eval fun y2 =>
 bif y2.2.1 then ((q2mx (q2mf d) y2).eval fun y3 =>
 some (y3.2.1,y3.2.2.1,y3.2.2.2.1,y3.2.2.2.2,y3.1)) else ((q2n1 (q2mf d) y2).eval fun y4 =>
 (q2n5 (q2mf d) y4).eval fun y5 =>
 (q2n9 (q2mf d) y5).eval fun y6 =>
 (q2nd (q2mf d) y6).eval fun y7 =>
 (q2nh (q2mf d) y7).eval fun y8 =>
 (q2nl (q2mf d) y8).eval fun y9 =>
 bif y9.2.1 then ((q2np (q2mf d) y9).eval fun y10 =>
 q2o3 d  y10) else (q2o3 d  (y9.2.2.1,y9.2.2.2.1,y9.2.2.2.2.1,y9.2.2.2.2.2.1,y9.2.2.2.2.2.2.1,y9.2.2.2.2.2.2.2.2.1,y9.2.2.2.2.2.2.2.2.2)))
theorem q2o5 (d:Nat):COK prog (q2md (q2o4 d)):=by
 have hm:prog.follows .mixedOrders=true:=qju
 have hT:=tys
 have hC0:OrcOK prog (orc (q2mg (q2mf d))):=qct (by
  intro S hS
  simp only [q2mg,List.mem_cons,List.not_mem_nil,or_false] at hS
  rcases hS with rfl | rfl | rfl | rfl
  · exact q2gm d
  · exact q2da d
  · exact q2j6 d
  · exact q2m8 d)
 have hC:OrcOK prog (orc (q2mg (q2mf d))):=hC0
 refine q8f (c:=qcz f34) (fn:=f34) hT (by kernel_rfl) (by kernel_rfl) (by decide) fun x r h w0 φ0 Q hend=>?_
 replace h:q2o4 d x=some r:=h
 unfold q2o4 at h
 show Run prog w0 φ0 56 (qcz f34) ⟨[(0,.agg [.fz Riii x.1.1]),(1,.agg [.int .i64 x.2.1.1,.int .i64 x.2.1.2.1]),(2,.agg [.int .i64 x.2.2.1.1,.int .i64 x.2.2.1.2.1])],[]⟩ Q
 refine q3yy hm hT hC (q2mm (q2mf d) (x.1.1,x.2.1.1,x.2.1.2.1,x.2.2.1.1,x.2.2.1.2.1)) h fun y0 h=>?_
 refine q7z ?_
 refine q3yy hm hT hC (q2mq (q2mf d) y0) h fun y1 h=>?_
 refine q3yy hm hT hC (q2mu (q2mf d) y1) h fun y2 h=>?_
 refine q83 (v:=y2.2.1) (by kernel_rfl) h ?_ ?_
 ·
  intro h
  refine q3yy hm hT hC (q2my (q2mf d) y2) h fun y3 h=>?_
  refine q7y (q7n ?_)
  cases h
  exact (hend _ (by kernel_rfl)).2
 ·
  intro h
  refine q7v (q7l ?_)
  refine q3yy hm hT hC (q2n2 (q2mf d) y2) h fun y4 h=>?_
  refine q3yy hm hT hC (q2n6 (q2mf d) y4) h fun y5 h=>?_
  refine q3yy hm hT hC (q2na (q2mf d) y5) h fun y6 h=>?_
  refine q3yy hm hT hC (q2ne (q2mf d) y6) h fun y7 h=>?_
  refine q82 (r:=r) (F:=q2o3 d ) (S:=(fun z=>⟨[(3,.ptr 0 0),(6,.ptr 1 0),(7,.ptr 2 0),(13,.ptr 3 0)],[.cells [.fz Riii z.1],.cells [.int .i64 z.2.1,.int .i64 z.2.2.1],.cells [.int .i64 z.2.2.2.1,.int .i64 z.2.2.2.2.1],.cells [.int .i64 z.2.2.2.2.2.1,.int .i64 z.2.2.2.2.2.2]]⟩:List Diii×Int×Int×Int×Int×Int×Int→St)) ?_ ?_
  ·
   intro z h
   unfold q2o3 at h
   refine q3yy hm hT hC (q2nu (q2mf d) z) h fun y11 h=>?_
   refine q7z ?_
   refine q3yy hm hT hC (q2ny (q2mf d) y11) h fun y12 h=>?_
   refine q83 (v:=y12.2.1) (by kernel_rfl) h ?_ ?_
   ·
    intro h
    refine q3yy hm hT hC (q2o0 (q2mf d) y12) h fun y13 h=>?_
    refine q7y (q7n ?_)
    cases h
    exact (hend _ (by kernel_rfl)).2
   ·
    intro h
    refine q7v (q7l ?_)
    refine q3yy hm hT hC (q2o2 (q2mf d) y12) h fun y14 h=>?_
    refine q7y ?_
    cases h
    exact (hend _ (by kernel_rfl)).2
  intro hj1
  refine q3yy hm hT hC (q2ni (q2mf d) y7) h fun y8 h=>?_
  refine q3yy hm hT hC (q2nm (q2mf d) y8) h fun y9 h=>?_
  refine q83 (v:=y9.2.1) (by kernel_rfl) h ?_ ?_
  ·
   intro h
   refine q84 hm hT hC (q2nq (q2mf d) y9) h ?_
   intro y10 h
   exact hj1 _ h
  ·
   intro h
   refine q7v ?_
   refine qcy (s:=⟨[(3,.ptr 0 0),(6,.ptr 1 0),(7,.ptr 2 0),(13,.ptr 3 0)],[.cells [.fz Riii y9.2.2.1],.cells [.int .i64 y9.2.2.2.1,.int .i64 y9.2.2.2.2.1],.cells [.int .i64 y9.2.2.2.2.2.1,.int .i64 y9.2.2.2.2.2.2.1],.cells [.int .i64 y9.2.2.2.2.2.2.2.2.1,.int .i64 y9.2.2.2.2.2.2.2.2.2]]⟩) [12,14,37] (by kernel_rfl) ?_
   exact hj1 _ h
end Go.Proofs.YtpfhgnccpiildaaGreat
