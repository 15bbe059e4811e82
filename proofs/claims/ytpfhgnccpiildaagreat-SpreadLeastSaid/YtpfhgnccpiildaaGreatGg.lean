/- Walks of the references; the orders agree; examples. -/
import Derived.Test.YtpfhgnccpiildaaGreatGf
set_option linter.unusedSimpArgs false
set_option linter.unusedVariables false
namespace Go.Proofs.YtpfhgnccpiildaaGreat
open Go Go.Tx Go.Proofs.Tryz
set_option maxRecDepth 100000
set_option maxHeartbeats 0
abbrev q266:List Pk:=[.row qj5 true]
abbrev q267:Type:=qj6×Unit
abbrev q268:Type:=List qj9
def q269 (r:q268):LV×List Ob:=(.rs 0,[.rows qj8 r])
def q26a (F:q267→Option q268):Go.Tx.Spec:=⟨54,q266,q268,F,q269⟩
abbrev q26b:Type:=(q18h→Option q18i)×(qwx→Option qwy)×(q1ca→Option q1cb)×Unit
def q26c (d:Nat):q26b:=(q18y d,qxu d,q1cr d,())
def q26d (C:q26b):List Go.Tx.Spec:=[q18k C.1,qx0 C.2.1,q1cd C.2.2.1]
abbrev q26e:Type:=List Diii
def q26f (v:q26e):St:=⟨[(0,.agg [.fz Riii v])],[]⟩
abbrev q26g:Type:=List Diii
def q26h (v:q26g):St:=⟨[(1,.ptr 0 0)],[.cells [.fz Riii v]]⟩
def q26i (C:q26b) (v:q26e):Dt q26g:=(Dt.ret v)
abbrev q3zv {V Y:Type}:=@rg q26b V Y tysT (fun C=>(orcS 112 113 qj8 C.2.2.1 (orc (q26d C)))) 32
theorem q26j C v:q3zv (regO (qct f54) 0) false [(1,(.box [.val Riii]))] q26f q26i q26h C v:=rgI (by kernel_rfl)
abbrev q26k:Type:=List Diii×List qj9
def q26l (v:q26k):St:=⟨[(1,.ptr 0 0),(3,.ptr 1 0)],[.cells [.fz Riii v.1],.cells [.rs 2],.rows qj8 v.2]⟩
def q26m (C:q26b) (v:q26g):Dt q26k:=(Dt.ret (v,([]:List qj9)))
theorem q26n C v:q3zv (regO (qct f54) 1) false [(1,(.box [.val Riii])),(3,(.box [.own qj8]))] q26h q26m q26l C v:=rgI (by kernel_rfl)
abbrev q26o:Type:=List qj9×List Diii
def q26p (v:q26o):St:=⟨[(3,.ptr 0 0),(9,.fn 147 [.ptr 2 0])],[.cells [.rs 1],.rows qj8 v.1,.cells [.fz Riii v.2]]⟩
def q26q (C:q26b) (v:q26k):Dt q26o:=(Dt.bnd (C.1 ((v.1,()),())) fun r1=>(Dt.ret (v.2,r1)))
theorem q26r C v:q3zv (regO (qct f54) 2) false [(3,(.box [.own qj8])),(9,.any)] q26l q26q q26p C v:=rgI (by kernel_rfl)
abbrev q26s:Type:=Int×Int×Int×Int×Int×Int×List qj9
def q26t (v:q26s):St:=⟨[(10,.agg [i6 v.1,i6 v.2.1,i6 v.2.2.1]),(11,.agg [i6 v.2.2.2.1,i6 v.2.2.2.2.1,i6 v.2.2.2.2.2.1]),(3,.ptr 0 0)],[.cells [.rs 1],.rows qj8 v.2.2.2.2.2.2]⟩
abbrev q26u:Type:=Int×Int×Int×List qj9×Int×Int×Int
def q26v (v:q26u):St:=⟨[(3,.ptr 0 0),(4,.ptr 2 0),(11,.agg [i6 v.1,i6 v.2.1,i6 v.2.2.1])],[.cells [.rs 1],.rows qj8 v.2.2.2.1,.cells [i6 v.2.2.2.2.1,i6 v.2.2.2.2.2.1,i6 v.2.2.2.2.2.2]]⟩
def q26w (C:q26b) (v:q26s):Dt q26u:=(Dt.ret (v.2.2.2.1,v.2.2.2.2.1,v.2.2.2.2.2.1,v.2.2.2.2.2.2,v.1,v.2.1,v.2.2.1))
theorem q26x C v:q3zv (regO (qct f54) 3) false [(3,(.box [.own qj8])),(4,.any),(11,.any)] q26t q26w q26v C v:=rgI (by kernel_rfl)
abbrev q26y:Type:=List qj9×Int×Int×Int×Int×Int×Int
def q26z (v:q26y):St:=⟨[(3,.ptr 0 0),(4,.ptr 2 0),(5,.ptr 3 0)],[.cells [.rs 1],.rows qj8 v.1,.cells [i6 v.2.1,i6 v.2.2.1,i6 v.2.2.2.1],.cells [i6 v.2.2.2.2.1,i6 v.2.2.2.2.2.1,i6 v.2.2.2.2.2.2]]⟩
def q270 (C:q26b) (v:q26u):Dt q26y:=(Dt.ret (v.2.2.2.1,v.2.2.2.2.1,v.2.2.2.2.2.1,v.2.2.2.2.2.2,v.1,v.2.1,v.2.2.1))
theorem q271 C v:q3zv (regO (qct f54) 4) false [(3,(.box [.own qj8])),(4,.any),(5,.any)] q26v q270 q26z C v:=rgI (by kernel_rfl)
abbrev q272:Type:=Int×List qj9×Int×Int×Int×Int×Int×Int×Int×Int
def q273 (v:q272):St:=⟨[(3,.ptr 0 0),(4,.ptr 2 0),(5,.ptr 3 0),(6,.ptr 4 0),(7,i6 v.1)],[.cells [.rs 1],.rows qj8 v.2.1,.cells [i6 v.2.2.1,i6 v.2.2.2.1,i6 v.2.2.2.2.1],.cells [i6 v.2.2.2.2.2.1,i6 v.2.2.2.2.2.2.1,i6 v.2.2.2.2.2.2.2.1],.cells [i6 v.2.2.2.2.2.2.2.2.1,i6 v.2.2.2.2.2.2.2.2.2]]⟩
def q274 (C:q26b) (v:q26y):Dt q272:=(Dt.bnd (C.2.1 ((v.2.1,v.2.2.1,v.2.2.2.1,()),(v.2.2.2.2.1,v.2.2.2.2.2.1,v.2.2.2.2.2.2,()),())) fun r1=>(Dt.ret (r1.2.2,v.1,v.2.1,v.2.2.1,v.2.2.2.1,v.2.2.2.2.1,v.2.2.2.2.2.1,v.2.2.2.2.2.2,r1.1,r1.2.1)))
theorem q275 C v:q3zv (regO (qct f54) 5) false [(3,(.box [.own qj8])),(4,.any),(5,.any),(6,.any),(7,.any)] q26z q274 q273 C v:=rgI (by kernel_rfl)
abbrev q276:Type:=Bool×List qj9×Int×Int×Int×Int×Int×Int×Int×Int
def q277 (v:q276):St:=⟨[(3,.ptr 0 0),(4,.ptr 2 0),(5,.ptr 3 0),(6,.ptr 4 0),(19,.bool v.1)],[.cells [.rs 1],.rows qj8 v.2.1,.cells [i6 v.2.2.1,i6 v.2.2.2.1,i6 v.2.2.2.2.1],.cells [i6 v.2.2.2.2.2.1,i6 v.2.2.2.2.2.2.1,i6 v.2.2.2.2.2.2.2.1],.cells [i6 v.2.2.2.2.2.2.2.2.1,i6 v.2.2.2.2.2.2.2.2.2]]⟩
def q278 (C:q26b) (v:q272):Dt q276:=(Dt.ret ((v.1 == (0:Int)),v.2.1,v.2.2.1,v.2.2.2.1,v.2.2.2.2.1,v.2.2.2.2.2.1,v.2.2.2.2.2.2.1,v.2.2.2.2.2.2.2.1,v.2.2.2.2.2.2.2.2.1,v.2.2.2.2.2.2.2.2.2))
theorem q279 C v:q3zv (regO (qct f54) 6) false [(3,(.box [.own qj8])),(4,.any),(5,.any),(6,.any),(19,.any)] q273 q278 q277 C v:=rgI (by kernel_rfl)
abbrev q27a:Type:=List qj9
def q27b (v:q27a):St:=⟨[(3,.ptr 0 0)],[.cells [.rs 1],.rows qj8 v]⟩
def q27c (C:q26b) (v:q276):Dt q27a:=(Dt.ite (apB (List.length v.2.1) (List.length ([(v.2.2.2.2.2.2.2.2.1,v.2.2.2.2.2.2.2.2.2,v.2.2.1,v.2.2.2.2.2.1,())]:List qj9))) (Dt.ret (v.2.1++([(v.2.2.2.2.2.2.2.2.1,v.2.2.2.2.2.2.2.2.2,v.2.2.1,v.2.2.2.2.2.1,())]:List qj9))) Dt.fail)
theorem q27d C v:q3zv (regO (qct f54) 7) false [(3,(.box [.own qj8]))] q277 q27c q27b C v:=rgI (by kernel_rfl)
def q27e (d:Nat) (x:Diii×Diii) (y:List qj9):Option (List qj9×Int×Int×Int×Int×Int×Int) :=
 (q26w (q26c d) (x.1.1,x.1.2.1,x.1.2.2.1,x.2.1,x.2.2.1,x.2.2.2.1,y)).eval fun y3 =>
 (q270 (q26c d) y3).eval fun y4 =>
 some y4
def q27f (d:Nat) (w:List qj9×Int×Int×Int×Int×Int×Int):Option (List qj9) :=
 (q274 (q26c d) w).eval fun y5 =>
 (q278 (q26c d) y5).eval fun y6 =>
 bif y6.1 then ((q27c (q26c d) y6).eval fun y7 =>
 some y7) else (some y6.2.1)
def q27g (C:q26b) (v:q27a):Dt q27a:=(Dt.bnd (qu2 (τ:=qj8) C.2.2.1 v) fun r1=>(Dt.ret r1))
theorem q27h C v:q3zv (regO (qct f54) 8) false [(3,(.box [.own qj8]))] q27b q27g q27b C v:=rgI (by kernel_rfl)
abbrev q27i:Type:=List qj9
def q27j (v:q27i):St:=⟨[(2,.rs 0)],[.rows qj8 v]⟩
def q27k (C:q26b) (v:q27a):Dt q27i:=(Dt.ret v)
theorem q27l C v:q3zv (regO (qct f54) 9) false [(2,(.own qj8))] q27b q27k q27j C v:=rgI (by kernel_rfl)
def q27m (d:Nat) (x:q267):Option q268 :=
 (q26i (q26c d) x.1.1).eval fun y0 =>
 (q26m (q26c d) y0).eval fun y1 =>
 (q26q (q26c d) y1).eval fun y2 =>
 bif qwp y2.2 then Option.bind (qti (qtl (q27e d) (q27f d)) (qwo y2.2) y2.1) fun z1 =>
 ((q27g (q26c d) z1).eval fun y8 =>
 (q27k (q26c d) y8).eval fun y9 =>
 some y9) else none
theorem q27n (d:Nat):COK prog (q26a (q27m d)):=by
 have hm:prog.follows .mixedOrders=true:=mixed
 have hT:=tys
 have hC0:OrcOK prog (orc (q26d (q26c d))):=qcn (by
  intro S hS
  simp only [q26d,List.mem_cons,List.not_mem_nil,or_false] at hS
  rcases hS with rfl | rfl | rfl
  · exact q18z d
  · exact qxv d
  · exact q1cs d)
 have hC:OrcOK prog (orcS 112 113 qj8 (q26c d).2.2.1 (orc (q26d (q26c d)))):=(qwn (q1cs d) hC0)
 refine qtq (c:=qct f54) (fn:=f54) hT (by kernel_rfl) (by kernel_rfl) (by decide) fun x r h w0 φ0 Q hend=>?_
 replace h:q27m d x=some r:=h
 unfold q27m at h
 show Run prog w0 φ0 32 (qct f54) ⟨[(0,.agg [.fz Riii x.1.1])],[]⟩ Q
 refine q3yo hm hT hC (q26j (q26c d) x.1.1) h fun y0 h=>?_
 refine q3yo hm hT hC (q26n (q26c d) y0) h fun y1 h=>?_
 refine q7w ?_
 refine q3yo hm hT hC (q26r (q26c d) y1) h fun y2 h=>?_
 refine q7x ?_
 obtain ⟨hg1,h⟩:=qtr h
 obtain ⟨z1,hz1,h⟩:=Option.bind_eq_some_iff.1 h
 refine qtp (b0:=2) (α:=Diii×Diii) (X:=List qj9) (Z:=List qj9×Int×Int×Int×Int×Int×Int) (encs:=fun x=>#[.agg #[.int .i64 x.1.1,.int .i64 x.1.2.1,.int .i64 x.1.2.2.1],.agg #[.int .i64 x.2.1,.int .i64 x.2.2.1,.int .i64 x.2.2.2.1]]) (xs:=(qwo y2.2)) (A:=q27e d) (B:=q27f d) (S1:=fun w=>⟨[(3,.ptr 0 0),(4,.ptr 2 0),(5,.ptr 3 0)],[.cells [.rs 1],.rows qj8 w.1,.cells [.int .i64 w.2.1,.int .i64 w.2.2.1,.int .i64 w.2.2.2.1],.cells [.int .i64 w.2.2.2.2.1,.int .i64 w.2.2.2.2.2.1,.int .i64 w.2.2.2.2.2.2]]⟩) (x0:=y2.1) (z:=z1) (tmE:=fun y=>[(3,.ptr 0 0)]) (keys:=[3]) (obs:=fun y=>[.cells [.rs 1],.rows qj8 y]) (xp:=fun x=>[(10,.agg [.int .i64 x.1.1,.int .i64 x.1.2.1,.int .i64 x.1.2.2.1]),(11,.agg [.int .i64 x.2.1,.int .i64 x.2.2.1,.int .i64 x.2.2.2.1])]) (ks:=[9]) (fun y n l h=>qts (k:=[3]) (tm:=[(3,.ptr 0 0)]) rfl h) (by kernel_rfl) (by kernel_rfl) rfl (by kernel_rfl) (by kernel_rfl) (enters_of Tryz.func147 (by kernel_rfl) rfl) (qwv hg1) (fun _=>rfl) (fun x t hN=>?xp1) (fun l V φ2 Q2 x y y2 h hD hV hend=>?as1) (fun l V φ2 Q2 w y2 h hD hV hend=>?bd1) hz1 (fun φ1 hl1=>?rs1)
 case xp1 =>
  rw [qtx]
  refine ⟨by simpa using hN,fun n l hn=>?_,fun n hn=>?_⟩
  ·
   simp only [List.mem_cons,List.not_mem_nil,or_false,Prod.mk.injEq] at hn
   rcases hn with ⟨rfl,rfl⟩ | ⟨rfl,rfl⟩
   ·
    exact ⟨_,(qtu rfl).trans (qtt (by (try simp only [Array.size_setIfInBounds]);omega)),fun η=>VR.aggL (VRs.cons (.int _ _) (VRs.cons (.int _ _) (VRs.cons (.int _ _) (VRs.nil))))⟩
   ·
    exact ⟨_,qtt (by (try simp only [Array.size_setIfInBounds]);omega),fun η=>VR.aggL (VRs.cons (.int _ _) (VRs.cons (.int _ _) (VRs.cons (.int _ _) (VRs.nil))))⟩
  ·
   simp only [List.mem_cons,List.not_mem_nil,or_false] at hn
   rcases hn with rfl
   all_goals exact (qtu rfl).trans ((qtu rfl))
 case as1 =>
  unfold q27e at h
  show RunI l prog V w0 φ2 32 _ ⟨[(10,.agg [.int .i64 x.1.1,.int .i64 x.1.2.1,.int .i64 x.1.2.2.1]),(11,.agg [.int .i64 x.2.1,.int .i64 x.2.2.1,.int .i64 x.2.2.2.1]),(3,.ptr 0 0)],[.cells [.rs 1],.rows qj8 y]⟩ Q2
  refine qtc ?_
  refine qtg hm hT hC hV (by kernel_rfl) (by kernel_rfl) (q26x (q26c d) (x.1.1,x.1.2.1,x.1.2.2.1,x.2.1,x.2.2.1,x.2.2.2.1,y)) h ?_
  intro y3 h
  refine qt2 ?_
  refine qtg hm hT hC hV (by kernel_rfl) (by kernel_rfl) (q271 (q26c d) y3) h ?_
  intro y4 h
  cases h
  exact hend
 case bd1 =>
  unfold q27f at h
  show RunI l prog V w0 φ2 32 _ ⟨[(3,.ptr 0 0),(4,.ptr 2 0),(5,.ptr 3 0)],[.cells [.rs 1],.rows qj8 w.1,.cells [.int .i64 w.2.1,.int .i64 w.2.2.1,.int .i64 w.2.2.2.1],.cells [.int .i64 w.2.2.2.2.1,.int .i64 w.2.2.2.2.2.1,.int .i64 w.2.2.2.2.2.2]]⟩ Q2
  refine qtd (qtc ?_)
  refine qtg hm hT hC hV (by kernel_rfl) (by kernel_rfl) (q275 (q26c d) w) h ?_
  intro y5 h
  refine qt2 (qtc ?_)
  refine qtg hm hT hC hV (by kernel_rfl) (by kernel_rfl) (q279 (q26c d) y5) h ?_
  intro y6 h
  refine qt2 ?_
  refine qtf (v:=y6.1) (by kernel_rfl) h ?_ ?_
  ·
   intro h
   refine qtg hm hT hC hV (by kernel_rfl) (by kernel_rfl) (q27d (q26c d) y6) h ?_
   intro y7 h
   refine qt3 ?_
   cases h
   exact hend
  ·
   intro h
   refine qt9 (qt3 ?_)
   refine qtv (s:=⟨[(3,.ptr 0 0)],[.cells [.rs 1],.rows qj8 y6.2.1]⟩) [4,5,6,19] (by kernel_rfl) ?_
   cases h
   exact hend
 case rs1 =>
  refine q7l (q7i ?_)
  refine q3yo hm hT hC (q27h (q26c d) z1) h fun y8 h=>?_
  refine q3yo hm hT hC (q27l (q26c d) y8) h fun y9 h=>?_
  refine q7v ?_
  cases h
  exact (hend.2 _ hl1 _ (by kernel_rfl)).2
abbrev q27o:List Pk:=[.row qj8 true,.row Rii true]
abbrev q27p:Type:=qj9×Dii×Unit
abbrev q27q:Type:=Int
def q27r (r:q27q):LV×List Ob:=(.int .i64 r,[])
def q27s (F:q27p→Option q27q):Go.Tx.Spec:=⟨115,q27o,q27q,F,q27r⟩
abbrev q27t:Type:=(q164→Option q165)×Unit
def q27u (d:Nat):q27t:=(q16p d,())
def q27v (C:q27t):List Go.Tx.Spec:=[q167 C.1]
abbrev q27w:Type:=Int×Int×Int×Int×Int×Int
def q27x (v:q27w):St:=⟨[(0,.agg [i6 v.1,i6 v.2.1,i6 v.2.2.1,i6 v.2.2.2.1]),(1,.agg [i6 v.2.2.2.2.1,i6 v.2.2.2.2.2])],[]⟩
abbrev q27y:Type:=Int×Int×Int×Int×Int×Int
def q27z (v:q27y):St:=⟨[(2,.ptr 0 0),(3,.ptr 1 0)],[.cells [i6 v.1,i6 v.2.1,i6 v.2.2.1,i6 v.2.2.2.1],.cells [i6 v.2.2.2.2.1,i6 v.2.2.2.2.2]]⟩
def q280 (C:q27t) (v:q27w):Dt q27y:=(Dt.ret (v.1,v.2.1,v.2.2.1,v.2.2.2.1,v.2.2.2.2.1,v.2.2.2.2.2))
abbrev q3zw {V Y:Type}:=@rg q27t V Y tysT (fun C=>(orc (q27v C))) 10
theorem q281 C v:q3zw (regO (qct f115) 0) false (an [2,3]) q27x q280 q27z C v:=rgI (by kernel_rfl)
abbrev q282:Type:=Bool
def q283 (v:q282):St:=⟨[(9,.bool v)],[]⟩
def q284 (C:q27t) (v:q27y):Dt q282:=(Dt.bnd (C.1 ((v.1,v.2.1,()),(v.2.2.2.2.1,v.2.2.2.2.2,()),())) fun r1=>(Dt.ret (decide (r1 > (0:Int)))))
theorem q285 C v:q3zw (regO (qct f115) 1) false [(9,.any)] q27z q284 q283 C v:=rgI (by kernel_rfl)
abbrev q286:Type:=Int
def q287 (v:q286):St:=⟨[(4,i6 v)],[]⟩
def q288 (C:q27t) (v:q282):Dt q286:=(Dt.ret (1:Int))
theorem q289 C v:q3zw (regO (qct f115) 2) false [(4,.any)] q283 q288 q287 C v:=rgI (by kernel_rfl)
def q28a (C:q27t) (v:q282):Dt q286:=(Dt.ret (-1:Int))
theorem q28b C v:q3zw (regO (qct f115) 3) false [(4,.any)] q283 q28a q287 C v:=rgI (by kernel_rfl)
def q28c (d:Nat) (x:q27p):Option q27q :=
 (q280 (q27u d) (x.1.1,x.1.2.1,x.1.2.2.1,x.1.2.2.2.1,x.2.1.1,x.2.1.2.1)).eval fun y0 =>
 (q284 (q27u d) y0).eval fun y1 =>
 bif y1 then ((q288 (q27u d) y1).eval fun y2 =>
 some y2) else ((q28a (q27u d) y1).eval fun y3 =>
 some y3)
theorem q28d (d:Nat):COK prog (q27s (q28c d)):=by
 have hm:prog.follows .mixedOrders=true:=mixed
 have hT:=tys
 have hC0:OrcOK prog (orc (q27v (q27u d))):=qcn (by
  intro S hS
  simp only [q27v,List.mem_cons,List.not_mem_nil,or_false] at hS
  subst hS;exact q16q d)
 have hC:OrcOK prog (orc (q27v (q27u d))):=hC0
 refine q8c (c:=qct f115) (fn:=f115) hT (by kernel_rfl) (by kernel_rfl) (by decide) fun x r h w0 φ0 Q hend=>?_
 replace h:q28c d x=some r:=h
 unfold q28c at h
 show Run prog w0 φ0 10 (qct f115) ⟨[(0,.agg [.int .i64 x.1.1,.int .i64 x.1.2.1,.int .i64 x.1.2.2.1,.int .i64 x.1.2.2.2.1]),(1,.agg [.int .i64 x.2.1.1,.int .i64 x.2.1.2.1])],[]⟩ Q
 refine q3yo hm hT hC (q281 (q27u d) (x.1.1,x.1.2.1,x.1.2.2.1,x.1.2.2.2.1,x.2.1.1,x.2.1.2.1)) h fun y0 h=>?_
 refine q7w ?_
 refine q3yo hm hT hC (q285 (q27u d) y0) h fun y1 h=>?_
 refine q80 (v:=y1) (by kernel_rfl) h ?_ ?_
 ·
  intro h
  refine q3yo hm hT hC (q289 (q27u d) y1) h fun y2 h=>?_
  refine q7v (q7k ?_)
  cases h
  exact (hend _ (by kernel_rfl)).2
 ·
  intro h
  refine q7s (q7i ?_)
  refine q3yo hm hT hC (q28b (q27u d) y1) h fun y3 h=>?_
  refine q7v ?_
  cases h
  exact (hend _ (by kernel_rfl)).2
abbrev q28e:List Pk:=[.row qjb false,.row Rii true,.fn 115 []]
abbrev q28f:Type:=qjc×Dii×(Unit)×Unit
abbrev q28g:Type:=Int×Bool
def q28h (r:q28g):LV×List Ob:=(.tup [.int .i64 r.1,.bool r.2],[])
def q28i (F:q28f→Option q28g):Go.Tx.Spec:=⟨114,q28e,q28g,F,q28h⟩
abbrev q28j:Type:=(q27p→Option q27q)×Unit
def q28k (d:Nat):q28j:=(q28c d,())
def q28l (C:q28j):List Go.Tx.Spec:=[q27s C.1]
abbrev q28m:Type:=List qj9×Int×Int
def q28n (v:q28m):St:=⟨[(0,.fz qj8 v.1),(1,.agg [i6 v.2.1,i6 v.2.2]),(2,.fn 115 [])],[]⟩
abbrev q28o:Type:=List qj9×Int×Int
def q28p (v:q28o):St:=⟨[(0,.fz qj8 v.1),(2,.fn 115 []),(4,.ptr 0 0)],[.cells [i6 v.2.1,i6 v.2.2]]⟩
def q28q (C:q28j) (v:q28m):Dt q28o:=(Dt.ret (v.1,v.2.1,v.2.2))
abbrev q3zx {V Y:Type}:=@rg q28j V Y tysT (fun C=>(orc (q28l C))) 49
theorem q28r C v:q3zx (regO (qct f114) 0) false [(0,(.val qj8)),(2,.any),(4,.any)] q28n q28q q28p C v:=rgI (by kernel_rfl)
abbrev q28s:Type:=List qj9×Int×Int×Int
def q28t (v:q28s):St:=⟨[(0,.fz qj8 v.1),(2,.fn 115 []),(4,.ptr 0 0),(8,i6 v.2.1)],[.cells [i6 v.2.2.1,i6 v.2.2.2]]⟩
def q28u (C:q28j) (v:q28o):Dt q28s:=(Dt.ret (v.1,(List.length v.1:Int),v.2.1,v.2.2))
theorem q28v C v:q3zx (regO (qct f114) 1) false [(0,(.val qj8)),(2,.any),(4,.any),(8,.any)] q28p q28u q28t C v:=rgI (by kernel_rfl)
abbrev q28w:Type:=List qj9×Int×Int×Int×Int×Int
def q28x (v:q28w):St:=⟨[(0,.fz qj8 v.1),(2,.fn 115 []),(4,.ptr 0 0),(8,i6 v.2.1),(9,i6 v.2.2.1),(10,i6 v.2.2.2.1)],[.cells [i6 v.2.2.2.2.1,i6 v.2.2.2.2.2]]⟩
def q28y (C:q28j) (v:q28s):Dt q28w:=(Dt.ret (v.1,v.2.1,(0:Int),v.2.1,v.2.2.1,v.2.2.2))
theorem q28z C v:q3zx (regO (qct f114) 2) false [(0,(.val qj8)),(2,.any),(4,.any),(8,.any),(9,.any),(10,.any)] q28t q28y q28x C v:=rgI (by kernel_rfl)
abbrev q290:Type:=List qj9×Int×Int×Int×Bool×Int×Int
def q291 (v:q290):St:=⟨[(0,.fz qj8 v.1),(2,.fn 115 []),(4,.ptr 0 0),(8,i6 v.2.1),(9,i6 v.2.2.1),(10,i6 v.2.2.2.1),(17,.bool v.2.2.2.2.1)],[.cells [i6 v.2.2.2.2.2.1,i6 v.2.2.2.2.2.2]]⟩
def q292 (C:q28j) (v:q28w):Dt q290:=(Dt.ret (v.1,v.2.1,v.2.2.1,v.2.2.2.1,(decide (v.2.2.1<v.2.2.2.1)),v.2.2.2.2.1,v.2.2.2.2.2))
theorem q293 C v:q3zx (regO (qct f114) 3) false [(0,(.val qj8)),(2,.any),(4,.any),(8,.any),(9,.any),(10,.any),(17,.any)] q28x q292 q291 C v:=rgI (by kernel_rfl)
abbrev q294:Type:=List qj9×Int×Int×Int×Int×Int×Int
def q295 (v:q294):St:=⟨[(0,.fz qj8 v.1),(2,.fn 115 []),(4,.ptr 0 0),(8,i6 v.2.1),(9,i6 v.2.2.1),(10,i6 v.2.2.2.1),(11,i6 v.2.2.2.2.1)],[.cells [i6 v.2.2.2.2.2.1,i6 v.2.2.2.2.2.2]]⟩
def q296 (C:q28j) (v:q290):Dt q294:=(Dt.ret (v.1,v.2.1,v.2.2.1,v.2.2.2.1,(IntKind.wrap .i64 (shrI .u64 (IntKind.wrap .u64 (IntKind.wrap .i64 (v.2.2.1+v.2.2.2.1))) (1:Int))),v.2.2.2.2.2.1,v.2.2.2.2.2.2))
theorem q297 C v:q3zx (regO (qct f114) 4) false [(0,(.val qj8)),(2,.any),(4,.any),(8,.any),(9,.any),(10,.any),(11,.any)] q291 q296 q295 C v:=rgI (by kernel_rfl)
abbrev q298:Type:=List qj9×Int×Int×Int×Int×Bool×Int×Int
def q299 (v:q298):St:=⟨[(0,.fz qj8 v.1),(2,.fn 115 []),(4,.ptr 0 0),(8,i6 v.2.1),(9,i6 v.2.2.1),(10,i6 v.2.2.2.1),(11,i6 v.2.2.2.2.1),(31,.bool v.2.2.2.2.2.1)],[.cells [i6 v.2.2.2.2.2.2.1,i6 v.2.2.2.2.2.2.2]]⟩
def q29a (C:q28j) (v:q294):Dt q298:=(Dt.ite (inB v.2.2.2.2.1 (List.length v.1)) (Dt.bnd (C.1 (((elt qja v.1 (v.2.2.2.2.1).toNat).1,(elt qja v.1 (v.2.2.2.2.1).toNat).2.1,(elt qja v.1 (v.2.2.2.2.1).toNat).2.2.1,(elt qja v.1 (v.2.2.2.2.1).toNat).2.2.2.1,()),(v.2.2.2.2.2.1,v.2.2.2.2.2.2,()),())) fun r1=>(Dt.ret (v.1,v.2.1,v.2.2.1,v.2.2.2.1,v.2.2.2.2.1,(decide (r1<(0:Int))),v.2.2.2.2.2.1,v.2.2.2.2.2.2))) Dt.fail)
theorem q29b C v:q3zx (regO (qct f114) 5) true [(0,(.val qj8)),(2,.any),(4,.any),(8,.any),(9,.any),(10,.any),(11,.any),(31,.any)] q295 q29a q299 C v:=rgI (by kernel_rfl)
def q29c (C:q28j) (v:q298):Dt q28w:=(Dt.ret (v.1,v.2.1,(IntKind.wrap .i64 (v.2.2.2.2.1+(1:Int))),v.2.2.2.1,v.2.2.2.2.2.2.1,v.2.2.2.2.2.2.2))
theorem q29d C v:q3zx (regO (qct f114) 6) false [(0,(.val qj8)),(2,.any),(4,.any),(8,.any),(9,.any),(10,.any)] q299 q29c q28x C v:=rgI (by kernel_rfl)
def q29e (C:q28j) (v:q298):Dt q28w:=(Dt.ret (v.1,v.2.1,v.2.2.1,v.2.2.2.2.1,v.2.2.2.2.2.2.1,v.2.2.2.2.2.2.2))
theorem q29f C v:q3zx (regO (qct f114) 7) false [(0,(.val qj8)),(2,.any),(4,.any),(8,.any),(9,.any),(10,.any)] q299 q29e q28x C v:=rgI (by kernel_rfl)
abbrev q29g:Type:=Int×Bool
def q29h (v:q29g):St:=⟨[(6,i6 v.1),(7,.bool v.2)],[]⟩
def q29i (C:q28j) (v:q290):Dt q29g:=(Dt.ite (decide (v.2.2.1<v.2.1)) (Dt.ite (inB v.2.2.1 (List.length v.1)) (Dt.bnd (C.1 (((elt qja v.1 (v.2.2.1).toNat).1,(elt qja v.1 (v.2.2.1).toNat).2.1,(elt qja v.1 (v.2.2.1).toNat).2.2.1,(elt qja v.1 (v.2.2.1).toNat).2.2.2.1,()),(v.2.2.2.2.2.1,v.2.2.2.2.2.2,()),())) fun r1=>(Dt.ret (v.2.2.1,(r1 == (0:Int))))) Dt.fail) (Dt.ret (v.2.2.1,false)))
theorem q29j C v:q3zx (regO (qct f114) 8) true (an [6,7]) q291 q29i q29h C v:=rgI (by kernel_rfl)
def q29k (d:Nat) (self1:(List qj9×Int×Int×Int×Int×Int)→Option q28g) (x1:List qj9×Int×Int×Int×Int×Int):Option q28g :=
 (q292 (q28k d) x1).eval fun y3 =>
 bif y3.2.2.2.2.1 then ((q296 (q28k d) y3).eval fun y4 =>
 (q29a (q28k d) y4).eval fun y5 =>
 bif y5.2.2.2.2.2.1 then ((q29c (q28k d) y5).eval fun y6 =>
 self1 y6) else ((q29e (q28k d) y5).eval fun y7 =>
 self1 y7)) else ((q29i (q28k d) y3).eval fun y8 =>
 some y8)
def q29l (d:Nat) (x:q28f):Option q28g :=
 (q28q (q28k d) (x.1.1,x.2.1.1,x.2.1.2.1)).eval fun y0 =>
 (q28u (q28k d) y0).eval fun y1 =>
 (q28y (q28k d) y1).eval fun y2 =>
 iter (q29k d ) d y2
theorem q29m (d:Nat):COK prog (q28i (q29l d)):=by
 have hm:prog.follows .mixedOrders=true:=mixed
 have hT:=tys
 have hC0:OrcOK prog (orc (q28l (q28k d))):=qcn (by
  intro S hS
  simp only [q28l,List.mem_cons,List.not_mem_nil,or_false] at hS
  subst hS;exact q28d d)
 have hC:OrcOK prog (orc (q28l (q28k d))):=hC0
 refine q8c (c:=qct f114) (fn:=f114) hT (by kernel_rfl) (by kernel_rfl) (by decide) fun x r h w0 φ0 Q hend=>?_
 replace h:q29l d x=some r:=h
 unfold q29l at h
 show Run prog w0 φ0 49 (qct f114) ⟨[(0,.fz qj8 x.1.1),(1,.agg [.int .i64 x.2.1.1,.int .i64 x.2.1.2.1]),(2,.fn 115 [])],[]⟩ Q
 refine q3yo hm hT hC (q28r (q28k d) (x.1.1,x.2.1.1,x.2.1.2.1)) h fun y0 h=>?_
 refine q3yo hm hT hC (q28v (q28k d) y0) h fun y1 h=>?_
 refine q3yo hm hT hC (q28z (q28k d) y1) h fun y2 h=>?_
 refine q7w (q7x ?_)
 refine q82 (G:=iter (q29k d )) (S:=(fun x1=>⟨[(0,.fz qj8 x1.1),(2,.fn 115 []),(4,.ptr 0 0),(8,i6 x1.2.1),(9,i6 x1.2.2.1),(10,i6 x1.2.2.2.1)],[.cells [i6 x1.2.2.2.2.1,i6 x1.2.2.2.2.2]]⟩:List qj9×Int×Int×Int×Int×Int→St)) (fun _=>rfl) ?_ d _ h
 intro n1 x1 h K1 hn1
 replace h:q29k d  (iter (q29k d ) n1) x1=some r:=h
 generalize iter (q29k d ) n1=self1 at h hn1
 unfold q29k at h
 refine q7w ?_
 refine q3yo hm hT hC (q293 (q28k d) x1) h fun y3 h=>?_
 refine q80 (v:=y3.2.2.2.2.1) (by kernel_rfl) h ?_ ?_
 ·
  intro h
  refine q7s (q7i (q7x ?_))
  refine q3yo hm hT hC (q297 (q28k d) y3) h fun y4 h=>?_
  refine q3yo hm hT hC (q29b (q28k d) y4) h fun y5 h=>?_
  refine q80 (v:=y5.2.2.2.2.2.1) (by kernel_rfl) h ?_ ?_
  ·
   intro h
   refine q81 hm hT hC (q29d (q28k d) y5) h ?_
   intro y6 h
   refine q7l ?_
   exact hn1 _ h
  ·
   intro h
   refine q81 hm hT hC (q29f (q28k d) y5) h ?_
   intro y7 h
   refine q7l ?_
   exact hn1 _ h
 ·
  intro h
  refine q7u (q7j (q7j (q7n (q7i ?_))))
  refine q3yo hm hT hC (q29j (q28k d) y3) h fun y8 h=>?_
  refine q7v ?_
  cases h
  exact (hend _ (by kernel_rfl)).2
abbrev q29n:List Pk:=[.row qjb false,.row Rii true]
abbrev q29o:Type:=qjc×Dii×Unit
abbrev q29p:Type:=Int
def q29q (r:q29p):LV×List Ob:=(.int .i64 r,[])
def q29r (F:q29o→Option q29p):Go.Tx.Spec:=⟨55,q29n,q29p,F,q29q⟩
abbrev q29s:Type:=(q28f→Option q28g)×Unit
def q29t (d:Nat):q29s:=(q29l d,())
def q29u (C:q29s):List Go.Tx.Spec:=[q28i C.1]
abbrev q29v:Type:=List qj9×Int×Int
def q29w (v:q29v):St:=⟨[(0,.fz qj8 v.1),(1,.agg [i6 v.2.1,i6 v.2.2])],[]⟩
abbrev q29x:Type:=List qj9×Int×Int
def q29y (v:q29x):St:=⟨[(0,.fz qj8 v.1),(3,.ptr 0 0)],[.cells [i6 v.2.1,i6 v.2.2]]⟩
def q29z (C:q29s) (v:q29v):Dt q29x:=(Dt.ret (v.1,v.2.1,v.2.2))
abbrev q3zy {V Y:Type}:=@rg q29s V Y tysT (fun C=>(orc (q29u C))) 14
theorem q2a0 C v:q3zy (regO (qct f55) 0) false [(0,(.val qj8)),(3,.any)] q29w q29z q29y C v:=rgI (by kernel_rfl)
abbrev q2a1:Type:=Int
def q2a2 (v:q2a1):St:=⟨[(5,i6 v)],[]⟩
def q2a3 (C:q29s) (v:q29x):Dt q2a1:=(Dt.bnd (C.1 ((v.1,()),(v.2.1,v.2.2,()),(()),())) fun r1=>(Dt.ret r1.1))
theorem q2a4 C v:q3zy (regO (qct f55) 1) false [(5,.any)] q29y q2a3 q2a2 C v:=rgI (by kernel_rfl)
abbrev q2a5:Type:=Int
def q2a6 (v:q2a5):St:=⟨[(4,i6 v)],[]⟩
def q2a7 (C:q29s) (v:q2a1):Dt q2a5:=(Dt.ret v)
theorem q2a8 C v:q3zy (regO (qct f55) 2) false [(4,.any)] q2a2 q2a7 q2a6 C v:=rgI (by kernel_rfl)
def q2a9 (d:Nat) (x:q29o):Option q29p :=
 (q29z (q29t d) (x.1.1,x.2.1.1,x.2.1.2.1)).eval fun y0 =>
 (q2a3 (q29t d) y0).eval fun y1 =>
 (q2a7 (q29t d) y1).eval fun y2 =>
 some y2
theorem q2aa (d:Nat):COK prog (q29r (q2a9 d)):=by
 have hm:prog.follows .mixedOrders=true:=mixed
 have hT:=tys
 have hC0:OrcOK prog (orc (q29u (q29t d))):=qcn (by
  intro S hS
  simp only [q29u,List.mem_cons,List.not_mem_nil,or_false] at hS
  subst hS;exact q29m d)
 have hC:OrcOK prog (orc (q29u (q29t d))):=hC0
 refine q8c (c:=qct f55) (fn:=f55) hT (by kernel_rfl) (by kernel_rfl) (by decide) fun x r h w0 φ0 Q hend=>?_
 replace h:q2a9 d x=some r:=h
 unfold q2a9 at h
 show Run prog w0 φ0 14 (qct f55) ⟨[(0,.fz qj8 x.1.1),(1,.agg [.int .i64 x.2.1.1,.int .i64 x.2.1.2.1])],[]⟩ Q
 refine q3yo hm hT hC (q2a0 (q29t d) (x.1.1,x.2.1.1,x.2.1.2.1)) h fun y0 h=>?_
 refine q3yo hm hT hC (q2a4 (q29t d) y0) h fun y1 h=>?_
 refine q3yo hm hT hC (q2a8 (q29t d) y1) h fun y2 h=>?_
 refine q7v ?_
 cases h
 exact (hend _ (by kernel_rfl)).2
abbrev q2ab:List Pk:=[.row qj5 true,.row Rii true,.row Rii true]
abbrev q2ac:Type:=qj6×Dii×Dii×Unit
abbrev q2ad:Type:=List qj9×Int
def q2ae (r:q2ad):LV×List Ob:=(.tup [.fz qj8 r.1,.int .i64 r.2],[])
def q2af (F:q2ac→Option q2ad):Go.Tx.Spec:=⟨13,q2ab,q2ad,F,q2ae⟩
abbrev q2ag:Type:=(q16s→Option q16t)×(q267→Option q268)×(q29o→Option q29p)×Unit
def q2ah (d:Nat):q2ag:=(q18e d,q27m d,q2a9 d,())
def q2ai (C:q2ag):List Go.Tx.Spec:=[q16v C.1,q26a C.2.1,q29r C.2.2.1]
abbrev q2aj:Type:=List Diii×Int×Int×Int×Int
def q2ak (v:q2aj):St:=⟨[(0,.agg [.fz Riii v.1]),(1,.agg [i6 v.2.1,i6 v.2.2.1]),(2,.agg [i6 v.2.2.2.1,i6 v.2.2.2.2])],[]⟩
abbrev q2al:Type:=List Diii×Int×Int×Int×Int
def q2am (v:q2al):St:=⟨[(3,.ptr 0 0),(4,.ptr 1 0),(5,.ptr 2 0)],[.cells [.fz Riii v.1],.cells [i6 v.2.1,i6 v.2.2.1],.cells [i6 v.2.2.2.1,i6 v.2.2.2.2]]⟩
def q2an (C:q2ag) (v:q2aj):Dt q2al:=(Dt.ret (v.1,v.2.1,v.2.2.1,v.2.2.2.1,v.2.2.2.2))
abbrev q3zz {V Y:Type}:=@rg q2ag V Y tysT (fun C=>(orc (q2ai C))) 33
theorem q2ao C v:q3zz (regO (qct f13) 0) false [(3,(.box [.val Riii])),(4,.any),(5,.any)] q2ak q2an q2am C v:=rgI (by kernel_rfl)
abbrev q2ap:Type:=Int×List Diii×Int×Int×Int×Int
def q2aq (v:q2ap):St:=⟨[(3,.ptr 0 0),(4,.ptr 1 0),(5,.ptr 2 0),(8,i6 v.1)],[.cells [.fz Riii v.2.1],.cells [i6 v.2.2.1,i6 v.2.2.2.1],.cells [i6 v.2.2.2.2.1,i6 v.2.2.2.2.2]]⟩
def q2ar (C:q2ag) (v:q2al):Dt q2ap:=(Dt.bnd (C.1 ((v.1,()),(([(v.2.1,v.2.2.1,()),(v.2.2.2.1,v.2.2.2.2,())]:List Dii),()),())) fun r1=>(Dt.ret (r1,v.1,v.2.1,v.2.2.1,v.2.2.2.1,v.2.2.2.2)))
theorem q2as C v:q3zz (regO (qct f13) 1) false [(3,(.box [.val Riii])),(4,.any),(5,.any),(8,.any)] q2am q2ar q2aq C v:=rgI (by kernel_rfl)
abbrev q2at:Type:=Int×Bool×List Diii×Int×Int×Int×Int
def q2au (v:q2at):St:=⟨[(3,.ptr 0 0),(4,.ptr 1 0),(5,.ptr 2 0),(8,i6 v.1),(18,.bool v.2.1)],[.cells [.fz Riii v.2.2.1],.cells [i6 v.2.2.2.1,i6 v.2.2.2.2.1],.cells [i6 v.2.2.2.2.2.1,i6 v.2.2.2.2.2.2]]⟩
def q2av (C:q2ag) (v:q2ap):Dt q2at:=(Dt.ret (v.1,(v.1 != (0:Int)),v.2.1,v.2.2.1,v.2.2.2.1,v.2.2.2.2.1,v.2.2.2.2.2))
theorem q2aw C v:q3zz (regO (qct f13) 2) false [(3,(.box [.val Riii])),(4,.any),(5,.any),(8,.any),(18,.any)] q2aq q2av q2au C v:=rgI (by kernel_rfl)
abbrev q2ax:Type:=List qj9×Int
def q2ay (v:q2ax):St:=⟨[(6,.fz qj8 v.1),(7,i6 v.2)],[]⟩
def q2az (C:q2ag) (v:q2at):Dt q2ax:=(Dt.ret (([]:List qj9),v.1))
theorem q2b0 C v:q3zz (regO (qct f13) 3) false [(6,(.val qj8)),(7,.any)] q2au q2az q2ay C v:=rgI (by kernel_rfl)
abbrev q2b1:Type:=Int×Int×Int×Int×List qj9
def q2b2 (v:q2b1):St:=⟨[(4,.ptr 0 0),(5,.ptr 1 0),(9,.rs 2)],[.cells [i6 v.1,i6 v.2.1],.cells [i6 v.2.2.1,i6 v.2.2.2.1],.rows qj8 v.2.2.2.2]⟩
def q2b3 (C:q2ag) (v:q2at):Dt q2b1:=(Dt.bnd (C.2.1 ((v.2.2.1,()),())) fun r1=>(Dt.ret (v.2.2.2.1,v.2.2.2.2.1,v.2.2.2.2.2.1,v.2.2.2.2.2.2,r1)))
theorem q2b4 C v:q3zz (regO (qct f13) 4) false [(4,.any),(5,.any),(9,(.own qj8))] q2au q2b3 q2b2 C v:=rgI (by kernel_rfl)
abbrev q2b5:Type:=Int×Int×List qj9
def q2b6 (v:q2b5):St:=⟨[(9,.rs 0),(10,i6 v.1),(11,i6 v.2.1)],[.rows qj8 v.2.2]⟩
def q2b7 (C:q2ag) (v:q2b1):Dt q2b5:=(Dt.bnd (C.2.2.1 ((v.2.2.2.2,()),(v.1,v.2.1,()),())) fun r1=>(Dt.bnd (C.2.2.1 ((v.2.2.2.2,()),(v.2.2.1,v.2.2.2.1,()),())) fun r2=>(Dt.ret (r1,r2,v.2.2.2.2))))
theorem q2b8 C v:q3zz (regO (qct f13) 5) true [(9,(.own qj8)),(10,.any),(11,.any)] q2b2 q2b7 q2b6 C v:=rgI (by kernel_rfl)
def q2b9 (C:q2ag) (v:q2b5):Dt q2ax:=(Dt.ite (q3i v.1 v.2.1 v.2.1 (List.length v.2.2)) (Dt.ret ((List.drop (v.1).toNat (List.take (v.2.1).toNat v.2.2)),(0:Int))) Dt.fail)
theorem q2ba C v:q3zz (regO (qct f13) 6) false [(6,(.val qj8)),(7,.any)] q2b6 q2b9 q2ay C v:=rgI (by kernel_rfl)
def q2bb (d:Nat) (x:q2ac):Option q2ad :=
 (q2an (q2ah d) (x.1.1,x.2.1.1,x.2.1.2.1,x.2.2.1.1,x.2.2.1.2.1)).eval fun y0 =>
 (q2ar (q2ah d) y0).eval fun y1 =>
 (q2av (q2ah d) y1).eval fun y2 =>
 bif y2.2.1 then ((q2az (q2ah d) y2).eval fun y3 =>
 some y3) else ((q2b3 (q2ah d) y2).eval fun y4 =>
 (q2b7 (q2ah d) y4).eval fun y5 =>
 (q2b9 (q2ah d) y5).eval fun y6 =>
 some y6)
theorem q2bc (d:Nat):COK prog (q2af (q2bb d)):=by
 have hm:prog.follows .mixedOrders=true:=mixed
 have hT:=tys
 have hC0:OrcOK prog (orc (q2ai (q2ah d))):=qcn (by
  intro S hS
  simp only [q2ai,List.mem_cons,List.not_mem_nil,or_false] at hS
  rcases hS with rfl | rfl | rfl
  · exact q18f d
  · exact q27n d
  · exact q2aa d)
 have hC:OrcOK prog (orc (q2ai (q2ah d))):=hC0
 refine q8c (c:=qct f13) (fn:=f13) hT (by kernel_rfl) (by kernel_rfl) (by decide) fun x r h w0 φ0 Q hend=>?_
 replace h:q2bb d x=some r:=h
 unfold q2bb at h
 show Run prog w0 φ0 33 (qct f13) ⟨[(0,.agg [.fz Riii x.1.1]),(1,.agg [.int .i64 x.2.1.1,.int .i64 x.2.1.2.1]),(2,.agg [.int .i64 x.2.2.1.1,.int .i64 x.2.2.1.2.1])],[]⟩ Q
 refine q3yo hm hT hC (q2ao (q2ah d) (x.1.1,x.2.1.1,x.2.1.2.1,x.2.2.1.1,x.2.2.1.2.1)) h fun y0 h=>?_
 refine q7w ?_
 refine q3yo hm hT hC (q2as (q2ah d) y0) h fun y1 h=>?_
 refine q3yo hm hT hC (q2aw (q2ah d) y1) h fun y2 h=>?_
 refine q80 (v:=y2.2.1) (by kernel_rfl) h ?_ ?_
 ·
  intro h
  refine q3yo hm hT hC (q2b0 (q2ah d) y2) h fun y3 h=>?_
  refine q7v (q7k ?_)
  cases h
  exact (hend _ (by kernel_rfl)).2
 ·
  intro h
  refine q7s (q7i ?_)
  refine q3yo hm hT hC (q2b4 (q2ah d) y2) h fun y4 h=>?_
  refine q3yo hm hT hC (q2b8 (q2ah d) y4) h fun y5 h=>?_
  refine q3yo hm hT hC (q2ba (q2ah d) y5) h fun y6 h=>?_
  refine q7v ?_
  cases h
  exact (hend _ (by kernel_rfl)).2
abbrev q2bd:List Pk:=[.row qj5 true,.row Rii true,.row Rii true]
abbrev q2be:Type:=qj6×Dii×Dii×Unit
abbrev q2bf:Type:=Int×Int
def q2bg (r:q2bf):LV×List Ob:=(.tup [.int .i64 r.1,.int .i64 r.2],[])
def q2bh (F:q2be→Option q2bf):Go.Tx.Spec:=⟨133,q2bd,q2bf,F,q2bg⟩
abbrev q2bi:Type:=(q2ac→Option q2ad)×Unit
def q2bj (d:Nat):q2bi:=(q2bb d,())
def q2bk (C:q2bi):List Go.Tx.Spec:=[q2af C.1]
abbrev q2bl:Type:=List Diii×Int×Int×Int×Int
def q2bm (v:q2bl):St:=⟨[(0,.agg [.fz Riii v.1]),(1,.agg [i6 v.2.1,i6 v.2.2.1]),(2,.agg [i6 v.2.2.2.1,i6 v.2.2.2.2])],[]⟩
abbrev q2bn:Type:=List Diii×Int×Int×Int×Int
def q2bo (v:q2bn):St:=⟨[(3,.ptr 0 0),(4,.ptr 1 0),(5,.ptr 2 0)],[.cells [.fz Riii v.1],.cells [i6 v.2.1,i6 v.2.2.1],.cells [i6 v.2.2.2.1,i6 v.2.2.2.2]]⟩
def q2bp (C:q2bi) (v:q2bl):Dt q2bn:=(Dt.ret (v.1,v.2.1,v.2.2.1,v.2.2.2.1,v.2.2.2.2))
abbrev q400 {V Y:Type}:=@rg q2bi V Y tysT (fun C=>(orc (q2bk C))) 20
theorem q2bq C v:q400 (regO (qct f133) 0) false [(3,(.box [.val Riii])),(4,.any),(5,.any)] q2bm q2bp q2bo C v:=rgI (by kernel_rfl)
abbrev q2br:Type:=List qj9×Int
def q2bs (v:q2br):St:=⟨[(8,.fz qj8 v.1),(9,i6 v.2)],[]⟩
def q2bt (C:q2bi) (v:q2bn):Dt q2br:=(Dt.bnd (C.1 ((v.1,()),(v.2.1,v.2.2.1,()),(v.2.2.2.1,v.2.2.2.2,()),())) fun r1=>(Dt.ret (r1.1,r1.2)))
theorem q2bu C v:q400 (regO (qct f133) 1) false [(8,(.val qj8)),(9,.any)] q2bo q2bt q2bs C v:=rgI (by kernel_rfl)
abbrev q2bv:Type:=Int×Int
def q2bw (v:q2bv):St:=⟨[(6,i6 v.1),(7,i6 v.2)],[]⟩
def q2bx (C:q2bi) (v:q2br):Dt q2bv:=(Dt.ret ((List.length v.1:Int),v.2))
theorem q2by C v:q400 (regO (qct f133) 2) false (an [6,7]) q2bs q2bx q2bw C v:=rgI (by kernel_rfl)
def q2bz (d:Nat) (x:q2be):Option q2bf :=
 (q2bp (q2bj d) (x.1.1,x.2.1.1,x.2.1.2.1,x.2.2.1.1,x.2.2.1.2.1)).eval fun y0 =>
 (q2bt (q2bj d) y0).eval fun y1 =>
 (q2bx (q2bj d) y1).eval fun y2 =>
 some y2
theorem q2c0 (d:Nat):COK prog (q2bh (q2bz d)):=by
 have hm:prog.follows .mixedOrders=true:=mixed
 have hT:=tys
 have hC0:OrcOK prog (orc (q2bk (q2bj d))):=qcn (by
  intro S hS
  simp only [q2bk,List.mem_cons,List.not_mem_nil,or_false] at hS
  subst hS;exact q2bc d)
 have hC:OrcOK prog (orc (q2bk (q2bj d))):=hC0
 refine q8c (c:=qct f133) (fn:=f133) hT (by kernel_rfl) (by kernel_rfl) (by decide) fun x r h w0 φ0 Q hend=>?_
 replace h:q2bz d x=some r:=h
 unfold q2bz at h
 show Run prog w0 φ0 20 (qct f133) ⟨[(0,.agg [.fz Riii x.1.1]),(1,.agg [.int .i64 x.2.1.1,.int .i64 x.2.1.2.1]),(2,.agg [.int .i64 x.2.2.1.1,.int .i64 x.2.2.1.2.1])],[]⟩ Q
 refine q3yo hm hT hC (q2bq (q2bj d) (x.1.1,x.2.1.1,x.2.1.2.1,x.2.2.1.1,x.2.2.1.2.1)) h fun y0 h=>?_
 refine q3yo hm hT hC (q2bu (q2bj d) y0) h fun y1 h=>?_
 refine q3yo hm hT hC (q2by (q2bj d) y1) h fun y2 h=>?_
 refine q7v ?_
 cases h
 exact (hend _ (by kernel_rfl)).2
abbrev q2c1:List Pk:=[.row qj5 true,.row Rii true,.row Rii true]
abbrev q2c2:Type:=qj6×Dii×Dii×Unit
abbrev q2c3:Type:=Int
def q2c4 (r:q2c3):LV×List Ob:=(.int .i64 r,[])
def q2c5 (F:q2c2→Option q2c3):Go.Tx.Spec:=⟨75,q2c1,q2c3,F,q2c4⟩
abbrev q2c6:Type:=(q2be→Option q2bf)×Unit
def q2c7 (d:Nat):q2c6:=(q2bz d,())
def q2c8 (C:q2c6):List Go.Tx.Spec:=[q2bh C.1]
abbrev q2c9:Type:=List Diii×Int×Int×Int×Int
def q2ca (v:q2c9):St:=⟨[(0,.agg [.fz Riii v.1]),(1,.agg [i6 v.2.1,i6 v.2.2.1]),(2,.agg [i6 v.2.2.2.1,i6 v.2.2.2.2])],[]⟩
abbrev q2cb:Type:=List Diii×Int×Int×Int×Int
def q2cc (v:q2cb):St:=⟨[(3,.ptr 0 0),(4,.ptr 1 0),(5,.ptr 2 0)],[.cells [.fz Riii v.1],.cells [i6 v.2.1,i6 v.2.2.1],.cells [i6 v.2.2.2.1,i6 v.2.2.2.2]]⟩
def q2cd (C:q2c6) (v:q2c9):Dt q2cb:=(Dt.ret (v.1,v.2.1,v.2.2.1,v.2.2.2.1,v.2.2.2.2))
abbrev q401 {V Y:Type}:=@rg q2c6 V Y tysT (fun C=>(orc (q2c8 C))) 23
theorem q2ce C v:q401 (regO (qct f75) 0) false [(3,(.box [.val Riii])),(4,.any),(5,.any)] q2ca q2cd q2cc C v:=rgI (by kernel_rfl)
abbrev q2cf:Type:=Int×List Diii
def q2cg (v:q2cf):St:=⟨[(3,.ptr 0 0),(8,i6 v.1)],[.cells [.fz Riii v.2]]⟩
def q2ch (C:q2c6) (v:q2cb):Dt q2cf:=(Dt.bnd (C.1 ((v.1,()),(v.2.1,v.2.2.1,()),(v.2.2.2.1,v.2.2.2.2,()),())) fun r1=>(Dt.ret (r1.2,v.1)))
theorem q2ci C v:q401 (regO (qct f75) 1) false [(3,(.box [.val Riii])),(8,.any)] q2cc q2ch q2cg C v:=rgI (by kernel_rfl)
abbrev q2cj:Type:=Int×Bool×List Diii
def q2ck (v:q2cj):St:=⟨[(3,.ptr 0 0),(8,i6 v.1),(17,.bool v.2.1)],[.cells [.fz Riii v.2.2]]⟩
def q2cl (C:q2c6) (v:q2cf):Dt q2cj:=(Dt.ret (v.1,(v.1 != (0:Int)),v.2))
theorem q2cm C v:q401 (regO (qct f75) 2) false [(3,(.box [.val Riii])),(8,.any),(17,.any)] q2cg q2cl q2ck C v:=rgI (by kernel_rfl)
abbrev q2cn:Type:=Int
def q2co (v:q2cn):St:=⟨[(6,i6 v)],[]⟩
def q2cp (C:q2c6) (v:q2cj):Dt q2cn:=(Dt.ret v.1)
theorem q2cq C v:q401 (regO (qct f75) 3) false [(6,.any)] q2ck q2cp q2co C v:=rgI (by kernel_rfl)
abbrev q2cr:Type:=Bool
def q2cs (v:q2cr):St:=⟨[(22,.bool v)],[]⟩
def q2ct (C:q2c6) (v:q2cj):Dt q2cr:=(Dt.ret ((List.length v.2.2:Int) == (0:Int)))
theorem q2cu C v:q401 (regO (qct f75) 4) false [(22,.any)] q2ck q2ct q2cs C v:=rgI (by kernel_rfl)
def q2cv (C:q2c6) (v:q2cr):Dt q2cn:=(Dt.ret (42:Int))
theorem q2cw C v:q401 (regO (qct f75) 5) false [(6,.any)] q2cs q2cv q2co C v:=rgI (by kernel_rfl)
def q2cx (C:q2c6) (v:q2cr):Dt q2cn:=(Dt.ret (0:Int))
theorem q2cy C v:q401 (regO (qct f75) 6) false [(6,.any)] q2cs q2cx q2co C v:=rgI (by kernel_rfl)
def q2cz (d:Nat) (x:q2c2):Option q2c3 :=
 (q2cd (q2c7 d) (x.1.1,x.2.1.1,x.2.1.2.1,x.2.2.1.1,x.2.2.1.2.1)).eval fun y0 =>
 (q2ch (q2c7 d) y0).eval fun y1 =>
 (q2cl (q2c7 d) y1).eval fun y2 =>
 bif y2.2.1 then ((q2cp (q2c7 d) y2).eval fun y3 =>
 some y3) else ((q2ct (q2c7 d) y2).eval fun y4 =>
 bif y4 then ((q2cv (q2c7 d) y4).eval fun y5 =>
 some y5) else ((q2cx (q2c7 d) y4).eval fun y6 =>
 some y6))
theorem q2d0 (d:Nat):COK prog (q2c5 (q2cz d)):=by
 have hm:prog.follows .mixedOrders=true:=mixed
 have hT:=tys
 have hC0:OrcOK prog (orc (q2c8 (q2c7 d))):=qcn (by
  intro S hS
  simp only [q2c8,List.mem_cons,List.not_mem_nil,or_false] at hS
  subst hS;exact q2c0 d)
 have hC:OrcOK prog (orc (q2c8 (q2c7 d))):=hC0
 refine q8c (c:=qct f75) (fn:=f75) hT (by kernel_rfl) (by kernel_rfl) (by decide) fun x r h w0 φ0 Q hend=>?_
 replace h:q2cz d x=some r:=h
 unfold q2cz at h
 show Run prog w0 φ0 23 (qct f75) ⟨[(0,.agg [.fz Riii x.1.1]),(1,.agg [.int .i64 x.2.1.1,.int .i64 x.2.1.2.1]),(2,.agg [.int .i64 x.2.2.1.1,.int .i64 x.2.2.1.2.1])],[]⟩ Q
 refine q3yo hm hT hC (q2ce (q2c7 d) (x.1.1,x.2.1.1,x.2.1.2.1,x.2.2.1.1,x.2.2.1.2.1)) h fun y0 h=>?_
 refine q7w ?_
 refine q3yo hm hT hC (q2ci (q2c7 d) y0) h fun y1 h=>?_
 refine q3yo hm hT hC (q2cm (q2c7 d) y1) h fun y2 h=>?_
 refine q80 (v:=y2.2.1) (by kernel_rfl) h ?_ ?_
 ·
  intro h
  refine q3yo hm hT hC (q2cq (q2c7 d) y2) h fun y3 h=>?_
  refine q7v (q7k ?_)
  cases h
  exact (hend _ (by kernel_rfl)).2
 ·
  intro h
  refine q7s (q7i (q7w ?_))
  refine q3yo hm hT hC (q2cu (q2c7 d) y2) h fun y4 h=>?_
  refine q80 (v:=y4) (by kernel_rfl) h ?_ ?_
  ·
   intro h
   refine q3yo hm hT hC (q2cw (q2c7 d) y4) h fun y5 h=>?_
   refine q7v (q7k ?_)
   cases h
   exact (hend _ (by kernel_rfl)).2
  ·
   intro h
   refine q7s (q7i ?_)
   refine q3yo hm hT hC (q2cy (q2c7 d) y4) h fun y6 h=>?_
   refine q7v ?_
   cases h
   exact (hend _ (by kernel_rfl)).2
abbrev q2d1:List Pk:=[.row qj5 true,.row Rii true]
abbrev q2d2:Type:=qj6×Dii×Unit
abbrev q2d3:Type:=Int×Int×Int×Int×Int×Int
def q2d4 (r:q2d3):LV×List Ob:=(.tup [.agg [.int .i64 r.1,.int .i64 r.2.1,.int .i64 r.2.2.1],.agg [.int .i64 r.2.2.2.1,.int .i64 r.2.2.2.2.1,.int .i64 r.2.2.2.2.2]],[])
def q2d5 (F:q2d2→Option q2d3):Go.Tx.Spec:=⟨76,q2d1,q2d3,F,q2d4⟩
abbrev q2d6:Type:=(qw6→Option qw7)×(qvf→Option qvg)×Unit
def q2d7 (d:Nat):q2d6:=(qwb d,qvk d,())
def q2d8 (C:q2d6):List Go.Tx.Spec:=[qw9 C.1,qvi C.2.1]
abbrev q2d9:Type:=List Diii×Int×Int
def q2da (v:q2d9):St:=⟨[(0,.agg [.fz Riii v.1]),(1,.agg [i6 v.2.1,i6 v.2.2])],[]⟩
abbrev q2db:Type:=List Diii×Int×Int×Int×Int×Int×Int×Int×Int
def q2dc (v:q2db):St:=⟨[(2,.ptr 0 0),(3,.ptr 1 0),(4,.ptr 2 0),(5,.ptr 3 0)],[.cells [.fz Riii v.1],.cells [i6 v.2.1,i6 v.2.2.1],.cells [i6 v.2.2.2.1,i6 v.2.2.2.2.1,i6 v.2.2.2.2.2.1],.cells [i6 v.2.2.2.2.2.2.1,i6 v.2.2.2.2.2.2.2.1,i6 v.2.2.2.2.2.2.2.2]]⟩
def q2dd (C:q2d6) (v:q2d9):Dt q2db:=(Dt.ret (v.1,v.2.1,v.2.2,(0:Int),(0:Int),(0:Int),(0:Int),(0:Int),(0:Int)))
abbrev q402 {V Y:Type}:=@rg q2d6 V Y tysT (fun C=>(orc (q2d8 C))) 39
theorem q2de C v:q402 (regO (qct f76) 0) false [(2,(.box [.val Riii])),(3,.any),(4,.any),(5,.any)] q2da q2dd q2dc C v:=rgI (by kernel_rfl)
abbrev q2df:Type:=List Diii×Int×Int×Int×Int×Int×Int×List Di
def q2dg (v:q2df):St:=⟨[(2,.ptr 0 0),(4,.ptr 1 0),(5,.ptr 2 0),(6,.rs 3)],[.cells [.fz Riii v.1],.cells [i6 v.2.1,i6 v.2.2.1,i6 v.2.2.2.1],.cells [i6 v.2.2.2.2.1,i6 v.2.2.2.2.2.1,i6 v.2.2.2.2.2.2.1],.rows Ri v.2.2.2.2.2.2.2]⟩
def q2dh (C:q2d6) (v:q2db):Dt q2df:=(Dt.bnd (C.1 ((v.1,()),(v.2.1,v.2.2.1,()),())) fun r1=>(Dt.ret (v.1,v.2.2.2.1,v.2.2.2.2.1,v.2.2.2.2.2.1,v.2.2.2.2.2.2.1,v.2.2.2.2.2.2.2.1,v.2.2.2.2.2.2.2.2,r1.1)))
theorem q2di C v:q402 (regO (qct f76) 1) false [(2,(.box [.val Riii])),(4,.any),(5,.any),(6,(.own Ri))] q2dc q2dh q2dg C v:=rgI (by kernel_rfl)
abbrev q2dj:Type:=List Diii×Int×Int×Int×Int×Int×Int×List Di×Int×Int×Int
def q2dk (v:q2dj):St:=⟨[(2,.ptr 0 0),(4,.ptr 1 0),(5,.ptr 2 0),(6,.rs 3),(8,.ptr 4 0)],[.cells [.fz Riii v.1],.cells [i6 v.2.1,i6 v.2.2.1,i6 v.2.2.2.1],.cells [i6 v.2.2.2.2.1,i6 v.2.2.2.2.2.1,i6 v.2.2.2.2.2.2.1],.rows Ri v.2.2.2.2.2.2.2.1,.cells [i6 v.2.2.2.2.2.2.2.2.1,i6 v.2.2.2.2.2.2.2.2.2.1,i6 v.2.2.2.2.2.2.2.2.2.2]]⟩
def q2dl (C:q2d6) (v:q2df):Dt q2dj:=(Dt.ite (inB (0:Int) (List.length v.2.2.2.2.2.2.2)) (Dt.bnd (C.2.1 ((v.1,()),((elt zi v.2.2.2.2.2.2.2 ((0:Int)).toNat).1,()),())) fun r1=>(Dt.ret (v.1,v.2.1,v.2.2.1,v.2.2.2.1,v.2.2.2.2.1,v.2.2.2.2.2.1,v.2.2.2.2.2.2.1,v.2.2.2.2.2.2.2,r1.1,r1.2.1,r1.2.2.1))) Dt.fail)
theorem q2dm C v:q402 (regO (qct f76) 2) true [(2,(.box [.val Riii])),(4,.any),(5,.any),(6,(.own Ri)),(8,.any)] q2dg q2dl q2dk C v:=rgI (by kernel_rfl)
abbrev q2dn:Type:=Int×Int×Int×Int×Int×Int×Int×Int×Int×Int×Int×Int
def q2do (v:q2dn):St:=⟨[(4,.ptr 0 0),(5,.ptr 1 0),(8,.ptr 2 0),(10,.ptr 3 0)],[.cells [i6 v.1,i6 v.2.1,i6 v.2.2.1],.cells [i6 v.2.2.2.1,i6 v.2.2.2.2.1,i6 v.2.2.2.2.2.1],.cells [i6 v.2.2.2.2.2.2.1,i6 v.2.2.2.2.2.2.2.1,i6 v.2.2.2.2.2.2.2.2.1],.cells [i6 v.2.2.2.2.2.2.2.2.2.1,i6 v.2.2.2.2.2.2.2.2.2.2.1,i6 v.2.2.2.2.2.2.2.2.2.2.2]]⟩
def q2dp (C:q2d6) (v:q2dj):Dt q2dn:=(Dt.ite (inB (IntKind.wrap .i64 ((List.length v.2.2.2.2.2.2.2.1:Int) - (1:Int))) (List.length v.2.2.2.2.2.2.2.1)) (Dt.bnd (C.2.1 ((v.1,()),((elt zi v.2.2.2.2.2.2.2.1 ((IntKind.wrap .i64 ((List.length v.2.2.2.2.2.2.2.1:Int) - (1:Int)))).toNat).1,()),())) fun r1=>(Dt.ret (v.2.1,v.2.2.1,v.2.2.2.1,v.2.2.2.2.1,v.2.2.2.2.2.1,v.2.2.2.2.2.2.1,v.2.2.2.2.2.2.2.2.1,v.2.2.2.2.2.2.2.2.2.1,v.2.2.2.2.2.2.2.2.2.2,r1.1,r1.2.1,r1.2.2.1))) Dt.fail)
theorem q2dq C v:q402 (regO (qct f76) 3) true (an [4,5,8,10]) q2dk q2dp q2do C v:=rgI (by kernel_rfl)
abbrev q2dr:Type:=Int×Int×Int×Int×Int×Int
def q2ds (v:q2dr):St:=⟨[(4,.ptr 0 0),(5,.ptr 1 0)],[.cells [i6 v.1,i6 v.2.1,i6 v.2.2.1],.cells [i6 v.2.2.2.1,i6 v.2.2.2.2.1,i6 v.2.2.2.2.2]]⟩
def q2dt (C:q2d6) (v:q2dn):Dt q2dr:=(Dt.ret (v.2.2.2.2.2.2.1,v.2.2.2.2.2.2.2.1,v.2.2.2.2.2.2.2.2.1,v.2.2.2.2.2.2.2.2.2.1,v.2.2.2.2.2.2.2.2.2.2.1,v.2.2.2.2.2.2.2.2.2.2.2))
theorem q2du C v:q402 (regO (qct f76) 4) true (an [4,5]) q2do q2dt q2ds C v:=rgI (by kernel_rfl)
def q2dv (d:Nat) (x:q2d2):Option q2d3 :=
 (q2dd (q2d7 d) (x.1.1,x.2.1.1,x.2.1.2.1)).eval fun y0 =>
 (q2dh (q2d7 d) y0).eval fun y1 =>
 (q2dl (q2d7 d) y1).eval fun y2 =>
 (q2dp (q2d7 d) y2).eval fun y3 =>
 (q2dt (q2d7 d) y3).eval fun y4 =>
 some y4
theorem q2dw (d:Nat):COK prog (q2d5 (q2dv d)):=by
 have hm:prog.follows .mixedOrders=true:=mixed
 have hT:=tys
 have hC0:OrcOK prog (orc (q2d8 (q2d7 d))):=qcn (by
  intro S hS
  simp only [q2d8,List.mem_cons,List.not_mem_nil,or_false] at hS
  rcases hS with rfl | rfl
  · exact qwd d
  · exact qvm d)
 have hC:OrcOK prog (orc (q2d8 (q2d7 d))):=hC0
 refine q8c (c:=qct f76) (fn:=f76) hT (by kernel_rfl) (by kernel_rfl) (by decide) fun x r h w0 φ0 Q hend=>?_
 replace h:q2dv d x=some r:=h
 unfold q2dv at h
 show Run prog w0 φ0 39 (qct f76) ⟨[(0,.agg [.fz Riii x.1.1]),(1,.agg [.int .i64 x.2.1.1,.int .i64 x.2.1.2.1])],[]⟩ Q
 refine q3yo hm hT hC (q2de (q2d7 d) (x.1.1,x.2.1.1,x.2.1.2.1)) h fun y0 h=>?_
 refine q3yo hm hT hC (q2di (q2d7 d) y0) h fun y1 h=>?_
 refine q3yo hm hT hC (q2dm (q2d7 d) y1) h fun y2 h=>?_
 refine q3yo hm hT hC (q2dq (q2d7 d) y2) h fun y3 h=>?_
 refine q3yo hm hT hC (q2du (q2d7 d) y3) h fun y4 h=>?_
 refine q7v ?_
 cases h
 exact (hend _ (by kernel_rfl)).2
abbrev q2dx:List Pk:=[.row qj5 true,.row Rii true]
abbrev q2dy:Type:=qj6×Dii×Unit
abbrev q2dz:Type:=Int×Int×Int
def q2e0 (r:q2dz):LV×List Ob:=(.tup [.int .i64 r.1,.int .i64 r.2.1,.int .i64 r.2.2],[])
def q2e1 (F:q2dy→Option q2dz):Go.Tx.Spec:=⟨26,q2dx,q2dz,F,q2e0⟩
abbrev q2e2:Type:=(q2c2→Option q2c3)×(q2d2→Option q2d3)×Unit
def q2e3 (d:Nat):q2e2:=(q2cz d,q2dv d,())
def q2e4 (C:q2e2):List Go.Tx.Spec:=[q2c5 C.1,q2d5 C.2.1]
abbrev q2e5:Type:=List Diii×Int×Int
def q2e6 (v:q2e5):St:=⟨[(0,.agg [.fz Riii v.1]),(1,.agg [i6 v.2.1,i6 v.2.2])],[]⟩
abbrev q2e7:Type:=List Diii×Int×Int
def q2e8 (v:q2e7):St:=⟨[(2,.ptr 0 0),(3,.ptr 1 0)],[.cells [.fz Riii v.1],.cells [i6 v.2.1,i6 v.2.2]]⟩
def q2e9 (C:q2e2) (v:q2e5):Dt q2e7:=(Dt.ret (v.1,v.2.1,v.2.2))
abbrev q403 {V Y:Type}:=@rg q2e2 V Y tysT (fun C=>(orc (q2e4 C))) 27
theorem q2ea C v:q403 (regO (qct f26) 0) false [(2,(.box [.val Riii])),(3,.any)] q2e6 q2e9 q2e8 C v:=rgI (by kernel_rfl)
abbrev q2eb:Type:=Int×List Diii×Int×Int
def q2ec (v:q2eb):St:=⟨[(2,.ptr 0 0),(3,.ptr 1 0),(7,i6 v.1)],[.cells [.fz Riii v.2.1],.cells [i6 v.2.2.1,i6 v.2.2.2]]⟩
def q2ed (C:q2e2) (v:q2e7):Dt q2eb:=(Dt.bnd (C.1 ((v.1,()),(v.2.1,v.2.2,()),(v.2.1,v.2.2,()),())) fun r1=>(Dt.ret (r1,v.1,v.2.1,v.2.2)))
theorem q2ee C v:q403 (regO (qct f26) 1) false [(2,(.box [.val Riii])),(3,.any),(7,.any)] q2e8 q2ed q2ec C v:=rgI (by kernel_rfl)
abbrev q2ef:Type:=Int×Bool×List Diii×Int×Int
def q2eg (v:q2ef):St:=⟨[(2,.ptr 0 0),(3,.ptr 1 0),(7,i6 v.1),(15,.bool v.2.1)],[.cells [.fz Riii v.2.2.1],.cells [i6 v.2.2.2.1,i6 v.2.2.2.2]]⟩
def q2eh (C:q2e2) (v:q2eb):Dt q2ef:=(Dt.ret (v.1,(v.1 != (0:Int)),v.2.1,v.2.2.1,v.2.2.2))
theorem q2ei C v:q403 (regO (qct f26) 2) false [(2,(.box [.val Riii])),(3,.any),(7,.any),(15,.any)] q2ec q2eh q2eg C v:=rgI (by kernel_rfl)
abbrev q2ej:Type:=Int×Int×Int
def q2ek (v:q2ej):St:=⟨[(4,i6 v.1),(5,i6 v.2.1),(6,i6 v.2.2)],[]⟩
def q2el (C:q2e2) (v:q2ef):Dt q2ej:=(Dt.ret ((0:Int),(0:Int),v.1))
theorem q2em C v:q403 (regO (qct f26) 3) false (an [4,5,6]) q2eg q2el q2ek C v:=rgI (by kernel_rfl)
abbrev q2en:Type:=Int×Int×Int×Int×Int×Int
def q2eo (v:q2en):St:=⟨[(8,.ptr 0 0),(9,.ptr 1 0)],[.cells [i6 v.1,i6 v.2.1,i6 v.2.2.1],.cells [i6 v.2.2.2.1,i6 v.2.2.2.2.1,i6 v.2.2.2.2.2]]⟩
def q2ep (C:q2e2) (v:q2ef):Dt q2en:=(Dt.bnd (C.2.1 ((v.2.2.1,()),(v.2.2.2.1,v.2.2.2.2,()),())) fun r1=>(Dt.ret (r1.1,r1.2.1,r1.2.2.1,r1.2.2.2.1,r1.2.2.2.2.1,r1.2.2.2.2.2)))
theorem q2eq C v:q403 (regO (qct f26) 4) false (an [8,9]) q2eg q2ep q2eo C v:=rgI (by kernel_rfl)
def q2er (C:q2e2) (v:q2en):Dt q2ej:=(Dt.ret (v.1,v.2.2.2.1,(0:Int)))
theorem q2es C v:q403 (regO (qct f26) 5) true (an [4,5,6]) q2eo q2er q2ek C v:=rgI (by kernel_rfl)
def q2et (d:Nat) (x:q2dy):Option q2dz :=
 (q2e9 (q2e3 d) (x.1.1,x.2.1.1,x.2.1.2.1)).eval fun y0 =>
 (q2ed (q2e3 d) y0).eval fun y1 =>
 (q2eh (q2e3 d) y1).eval fun y2 =>
 bif y2.2.1 then ((q2el (q2e3 d) y2).eval fun y3 =>
 some y3) else ((q2ep (q2e3 d) y2).eval fun y4 =>
 (q2er (q2e3 d) y4).eval fun y5 =>
 some y5)
theorem q2eu (d:Nat):COK prog (q2e1 (q2et d)):=by
 have hm:prog.follows .mixedOrders=true:=mixed
 have hT:=tys
 have hC0:OrcOK prog (orc (q2e4 (q2e3 d))):=qcn (by
  intro S hS
  simp only [q2e4,List.mem_cons,List.not_mem_nil,or_false] at hS
  rcases hS with rfl | rfl
  · exact q2d0 d
  · exact q2dw d)
 have hC:OrcOK prog (orc (q2e4 (q2e3 d))):=hC0
 refine q8c (c:=qct f26) (fn:=f26) hT (by kernel_rfl) (by kernel_rfl) (by decide) fun x r h w0 φ0 Q hend=>?_
 replace h:q2et d x=some r:=h
 unfold q2et at h
 show Run prog w0 φ0 27 (qct f26) ⟨[(0,.agg [.fz Riii x.1.1]),(1,.agg [.int .i64 x.2.1.1,.int .i64 x.2.1.2.1])],[]⟩ Q
 refine q3yo hm hT hC (q2ea (q2e3 d) (x.1.1,x.2.1.1,x.2.1.2.1)) h fun y0 h=>?_
 refine q7w ?_
 refine q3yo hm hT hC (q2ee (q2e3 d) y0) h fun y1 h=>?_
 refine q3yo hm hT hC (q2ei (q2e3 d) y1) h fun y2 h=>?_
 refine q80 (v:=y2.2.1) (by kernel_rfl) h ?_ ?_
 ·
  intro h
  refine q3yo hm hT hC (q2em (q2e3 d) y2) h fun y3 h=>?_
  refine q7v (q7k ?_)
  cases h
  exact (hend _ (by kernel_rfl)).2
 ·
  intro h
  refine q7s (q7i ?_)
  refine q3yo hm hT hC (q2eq (q2e3 d) y2) h fun y4 h=>?_
  refine q3yo hm hT hC (q2es (q2e3 d) y4) h fun y5 h=>?_
  refine q7v ?_
  cases h
  exact (hend _ (by kernel_rfl)).2
abbrev q2ev:List Pk:=[.row qj5 true,.row Rii true]
abbrev q2ew:Type:=qj6×Dii×Unit
abbrev q2ex:Type:=Int×Int×Int
def q2ey (r:q2ex):LV×List Ob:=(.tup [.agg [.int .i64 r.1,.int .i64 r.2.1],.int .i64 r.2.2],[])
def q2ez (F:q2ew→Option q2ex):Go.Tx.Spec:=⟨28,q2ev,q2ex,F,q2ey⟩
abbrev q2f0:Type:=(q1p2→Option q1p3)×(q1o6→Option q1o7)×(q2c2→Option q2c3)×(q2d2→Option q2d3)×Unit
def q2f1 (d:Nat):q2f0:=(q1rm d,q1oz d,q2cz d,q2dv d,())
def q2f2 (C:q2f0):List Go.Tx.Spec:=[q1p5 C.1,q1o9 C.2.1,q2c5 C.2.2.1,q2d5 C.2.2.2.1]
abbrev q2f3:Type:=List Diii×Int×Int
def q2f4 (v:q2f3):St:=⟨[(0,.agg [.fz Riii v.1]),(1,.agg [i6 v.2.1,i6 v.2.2])],[]⟩
abbrev q2f5:Type:=List Diii×Int×Int×Int×Int
def q2f6 (v:q2f5):St:=⟨[(2,.ptr 0 0),(3,.ptr 1 0),(4,.ptr 2 0)],[.cells [.fz Riii v.1],.cells [i6 v.2.1,i6 v.2.2.1],.cells [i6 v.2.2.2.1,i6 v.2.2.2.2]]⟩
def q2f7 (C:q2f0) (v:q2f3):Dt q2f5:=(Dt.ret (v.1,v.2.1,v.2.2,(0:Int),(0:Int)))
abbrev q404 {V Y:Type}:=@rg q2f0 V Y tysT (fun C=>(orc (q2f2 C))) 51
theorem q2f8 C v:q404 (regO (qct f28) 0) false [(2,(.box [.val Riii])),(3,.any),(4,.any)] q2f4 q2f7 q2f6 C v:=rgI (by kernel_rfl)
abbrev q2f9:Type:=Int×List Diii×Int×Int×Int×Int
def q2fa (v:q2f9):St:=⟨[(2,.ptr 0 0),(3,.ptr 1 0),(4,.ptr 2 0),(6,i6 v.1)],[.cells [.fz Riii v.2.1],.cells [i6 v.2.2.1,i6 v.2.2.2.1],.cells [i6 v.2.2.2.2.1,i6 v.2.2.2.2.2]]⟩
def q2fb (C:q2f0) (v:q2f5):Dt q2f9:=(Dt.bnd (C.2.2.1 ((v.1,()),(v.2.1,v.2.2.1,()),(v.2.1,v.2.2.1,()),())) fun r1=>(Dt.ret (r1,v.1,v.2.1,v.2.2.1,v.2.2.2.1,v.2.2.2.2)))
theorem q2fc C v:q404 (regO (qct f28) 1) false [(2,(.box [.val Riii])),(3,.any),(4,.any),(6,.any)] q2f6 q2fb q2fa C v:=rgI (by kernel_rfl)
abbrev q2fd:Type:=Int×Bool×List Diii×Int×Int×Int×Int
def q2fe (v:q2fd):St:=⟨[(2,.ptr 0 0),(3,.ptr 1 0),(4,.ptr 2 0),(6,i6 v.1),(17,.bool v.2.1)],[.cells [.fz Riii v.2.2.1],.cells [i6 v.2.2.2.1,i6 v.2.2.2.2.1],.cells [i6 v.2.2.2.2.2.1,i6 v.2.2.2.2.2.2]]⟩
def q2ff (C:q2f0) (v:q2f9):Dt q2fd:=(Dt.ret (v.1,(v.1 != (0:Int)),v.2.1,v.2.2.1,v.2.2.2.1,v.2.2.2.2.1,v.2.2.2.2.2))
theorem q2fg C v:q404 (regO (qct f28) 2) false [(2,(.box [.val Riii])),(3,.any),(4,.any),(6,.any),(17,.any)] q2fa q2ff q2fe C v:=rgI (by kernel_rfl)
abbrev q2fh:Type:=Int×Int×Int
def q2fi (v:q2fh):St:=⟨[(4,.ptr 0 0),(5,i6 v.1)],[.cells [i6 v.2.1,i6 v.2.2]]⟩
def q2fj (C:q2f0) (v:q2fd):Dt q2fh:=(Dt.ret (v.1,(0:Int),(0:Int)))
theorem q2fk C v:q404 (regO (qct f28) 3) false (an [4,5]) q2fe q2fj q2fi C v:=rgI (by kernel_rfl)
abbrev q2fl:Type:=Int×Int×Int×Int×Int×Int×Int×Int×Int×Int
def q2fm (v:q2fl):St:=⟨[(3,.ptr 0 0),(4,.ptr 1 0),(7,.ptr 2 0),(8,.ptr 3 0)],[.cells [i6 v.1,i6 v.2.1],.cells [i6 v.2.2.1,i6 v.2.2.2.1],.cells [i6 v.2.2.2.2.1,i6 v.2.2.2.2.2.1,i6 v.2.2.2.2.2.2.1],.cells [i6 v.2.2.2.2.2.2.2.1,i6 v.2.2.2.2.2.2.2.2.1,i6 v.2.2.2.2.2.2.2.2.2]]⟩
def q2fn (C:q2f0) (v:q2fd):Dt q2fl:=(Dt.bnd (C.2.2.2.1 ((v.2.2.1,()),(v.2.2.2.1,v.2.2.2.2.1,()),())) fun r1=>(Dt.ret (v.2.2.2.1,v.2.2.2.2.1,v.2.2.2.2.2.1,v.2.2.2.2.2.2,r1.1,r1.2.1,r1.2.2.1,r1.2.2.2.1,r1.2.2.2.2.1,r1.2.2.2.2.2)))
theorem q2fo C v:q404 (regO (qct f28) 4) false (an [3,4,7,8]) q2fe q2fn q2fm C v:=rgI (by kernel_rfl)
abbrev q2fp:Type:=Int×Int×Int×Int×Int×Int×Int×Int×Int×Int
def q2fq (v:q2fp):St:=⟨[(3,.ptr 0 0),(4,.ptr 1 0),(8,.ptr 2 0),(9,.ptr 3 0),(10,i6 v.1)],[.cells [i6 v.2.1,i6 v.2.2.1],.cells [i6 v.2.2.2.1,i6 v.2.2.2.2.1],.cells [i6 v.2.2.2.2.2.1,i6 v.2.2.2.2.2.2.1,i6 v.2.2.2.2.2.2.2.1],.cells [i6 v.2.2.2.2.2.2.2.2.1,i6 v.2.2.2.2.2.2.2.2.2]]⟩
def q2fr (C:q2f0) (v:q2fl):Dt q2fp:=(Dt.bnd (C.1 ((v.2.2.2.2.1,v.2.2.2.2.2.1,v.2.2.2.2.2.2.1,()),(v.1,v.2.1,()),())) fun r1=>(Dt.ret (r1.2.2,v.1,v.2.1,v.2.2.1,v.2.2.2.1,v.2.2.2.2.2.2.2.1,v.2.2.2.2.2.2.2.2.1,v.2.2.2.2.2.2.2.2.2,r1.1,r1.2.1)))
theorem q2fs C v:q404 (regO (qct f28) 5) false (an [3,4,8,9,10]) q2fm q2fr q2fq C v:=rgI (by kernel_rfl)
abbrev q2ft:Type:=Int×Bool×Int×Int×Int×Int×Int×Int×Int×Int×Int
def q2fu (v:q2ft):St:=⟨[(3,.ptr 0 0),(4,.ptr 1 0),(8,.ptr 2 0),(9,.ptr 3 0),(10,i6 v.1),(33,.bool v.2.1)],[.cells [i6 v.2.2.1,i6 v.2.2.2.1],.cells [i6 v.2.2.2.2.1,i6 v.2.2.2.2.2.1],.cells [i6 v.2.2.2.2.2.2.1,i6 v.2.2.2.2.2.2.2.1,i6 v.2.2.2.2.2.2.2.2.1],.cells [i6 v.2.2.2.2.2.2.2.2.2.1,i6 v.2.2.2.2.2.2.2.2.2.2]]⟩
def q2fv (C:q2f0) (v:q2fp):Dt q2ft:=(Dt.ret (v.1,(v.1 != (0:Int)),v.2.1,v.2.2.1,v.2.2.2.1,v.2.2.2.2.1,v.2.2.2.2.2.1,v.2.2.2.2.2.2.1,v.2.2.2.2.2.2.2.1,v.2.2.2.2.2.2.2.2.1,v.2.2.2.2.2.2.2.2.2))
theorem q2fw C v:q404 (regO (qct f28) 6) false (an [3,4,8,9,10,33]) q2fq q2fv q2fu C v:=rgI (by kernel_rfl)
def q2fx (C:q2f0) (v:q2ft):Dt q2fh:=(Dt.ret (v.1,(0:Int),(0:Int)))
theorem q2fy C v:q404 (regO (qct f28) 7) false (an [4,5]) q2fu q2fx q2fi C v:=rgI (by kernel_rfl)
abbrev q2fz:Type:=Int×Int×Int×Int×Int×Int×Int
def q2g0 (v:q2fz):St:=⟨[(4,.ptr 0 0),(9,.ptr 1 0),(10,i6 v.1),(11,.ptr 2 0)],[.cells [i6 v.2.1,i6 v.2.2.1],.cells [i6 v.2.2.2.1,i6 v.2.2.2.2.1],.cells [i6 v.2.2.2.2.2.1,i6 v.2.2.2.2.2.2]]⟩
def q2g1 (C:q2f0) (v:q2ft):Dt q2fz:=(Dt.bnd (C.1 ((v.2.2.2.2.2.2.1,v.2.2.2.2.2.2.2.1,v.2.2.2.2.2.2.2.2.1,()),(v.2.2.1,v.2.2.2.1,()),())) fun r1=>(Dt.ret (r1.2.2,v.2.2.2.2.1,v.2.2.2.2.2.1,v.2.2.2.2.2.2.2.2.2.1,v.2.2.2.2.2.2.2.2.2.2,r1.1,r1.2.1)))
theorem q2g2 C v:q404 (regO (qct f28) 8) false (an [4,9,10,11]) q2fu q2g1 q2g0 C v:=rgI (by kernel_rfl)
abbrev q2g3:Type:=Int×Bool×Int×Int×Int×Int×Int×Int
def q2g4 (v:q2g3):St:=⟨[(4,.ptr 0 0),(9,.ptr 1 0),(10,i6 v.1),(11,.ptr 2 0),(43,.bool v.2.1)],[.cells [i6 v.2.2.1,i6 v.2.2.2.1],.cells [i6 v.2.2.2.2.1,i6 v.2.2.2.2.2.1],.cells [i6 v.2.2.2.2.2.2.1,i6 v.2.2.2.2.2.2.2]]⟩
def q2g5 (C:q2f0) (v:q2fz):Dt q2g3:=(Dt.ret (v.1,(v.1 != (0:Int)),v.2.1,v.2.2.1,v.2.2.2.1,v.2.2.2.2.1,v.2.2.2.2.2.1,v.2.2.2.2.2.2))
theorem q2g6 C v:q404 (regO (qct f28) 9) false (an [4,9,10,11,43]) q2g0 q2g5 q2g4 C v:=rgI (by kernel_rfl)
def q2g7 (C:q2f0) (v:q2g3):Dt q2fh:=(Dt.ret (v.1,(0:Int),(0:Int)))
theorem q2g8 C v:q404 (regO (qct f28) 10) false (an [4,5]) q2g4 q2g7 q2fi C v:=rgI (by kernel_rfl)
def q2g9 (C:q2f0) (v:q2g3):Dt q2fh:=(Dt.bnd (C.2.1 ((v.2.2.2.2.1,v.2.2.2.2.2.1,()),(v.2.2.2.2.2.2.1,v.2.2.2.2.2.2.2,()),())) fun r1=>(Dt.ret (r1.2.2,r1.1,r1.2.1)))
theorem q2ga C v:q404 (regO (qct f28) 11) false (an [4,5]) q2g4 q2g9 q2fi C v:=rgI (by kernel_rfl)
def q2gb (d:Nat) (x:q2ew):Option q2ex :=
 (q2f7 (q2f1 d) (x.1.1,x.2.1.1,x.2.1.2.1)).eval fun y0 =>
 (q2fb (q2f1 d) y0).eval fun y1 =>
 (q2ff (q2f1 d) y1).eval fun y2 =>
 bif y2.2.1 then ((q2fj (q2f1 d) y2).eval fun y3 =>
 some (y3.2.1,y3.2.2,y3.1)) else ((q2fn (q2f1 d) y2).eval fun y4 =>
 (q2fr (q2f1 d) y4).eval fun y5 =>
 (q2fv (q2f1 d) y5).eval fun y6 =>
 bif y6.2.1 then ((q2fx (q2f1 d) y6).eval fun y7 =>
 some (y7.2.1,y7.2.2,y7.1)) else ((q2g1 (q2f1 d) y6).eval fun y8 =>
 (q2g5 (q2f1 d) y8).eval fun y9 =>
 bif y9.2.1 then ((q2g7 (q2f1 d) y9).eval fun y10 =>
 some (y10.2.1,y10.2.2,y10.1)) else ((q2g9 (q2f1 d) y9).eval fun y11 =>
 some (y11.2.1,y11.2.2,y11.1))))
theorem q2gc (d:Nat):COK prog (q2ez (q2gb d)):=by
 have hm:prog.follows .mixedOrders=true:=mixed
 have hT:=tys
 have hC0:OrcOK prog (orc (q2f2 (q2f1 d))):=qcn (by
  intro S hS
  simp only [q2f2,List.mem_cons,List.not_mem_nil,or_false] at hS
  rcases hS with rfl | rfl | rfl | rfl
  · exact q1rn d
  · exact q1p0 d
  · exact q2d0 d
  · exact q2dw d)
 have hC:OrcOK prog (orc (q2f2 (q2f1 d))):=hC0
 refine q8c (c:=qct f28) (fn:=f28) hT (by kernel_rfl) (by kernel_rfl) (by decide) fun x r h w0 φ0 Q hend=>?_
 replace h:q2gb d x=some r:=h
 unfold q2gb at h
 show Run prog w0 φ0 51 (qct f28) ⟨[(0,.agg [.fz Riii x.1.1]),(1,.agg [.int .i64 x.2.1.1,.int .i64 x.2.1.2.1])],[]⟩ Q
 refine q3yo hm hT hC (q2f8 (q2f1 d) (x.1.1,x.2.1.1,x.2.1.2.1)) h fun y0 h=>?_
 refine q7w ?_
 refine q3yo hm hT hC (q2fc (q2f1 d) y0) h fun y1 h=>?_
 refine q3yo hm hT hC (q2fg (q2f1 d) y1) h fun y2 h=>?_
 refine q80 (v:=y2.2.1) (by kernel_rfl) h ?_ ?_
 ·
  intro h
  refine q3yo hm hT hC (q2fk (q2f1 d) y2) h fun y3 h=>?_
  refine q7v (q7k ?_)
  cases h
  exact (hend _ (by kernel_rfl)).2
 ·
  intro h
  refine q7s (q7i ?_)
  refine q3yo hm hT hC (q2fo (q2f1 d) y2) h fun y4 h=>?_
  refine q3yo hm hT hC (q2fs (q2f1 d) y4) h fun y5 h=>?_
  refine q7w ?_
  refine q3yo hm hT hC (q2fw (q2f1 d) y5) h fun y6 h=>?_
  refine q80 (v:=y6.2.1) (by kernel_rfl) h ?_ ?_
  ·
   intro h
   refine q3yo hm hT hC (q2fy (q2f1 d) y6) h fun y7 h=>?_
   refine q7v (q7k ?_)
   cases h
   exact (hend _ (by kernel_rfl)).2
  ·
   intro h
   refine q7s (q7i ?_)
   refine q3yo hm hT hC (q2g2 (q2f1 d) y6) h fun y8 h=>?_
   refine q7w ?_
   refine q3yo hm hT hC (q2g6 (q2f1 d) y8) h fun y9 h=>?_
   refine q80 (v:=y9.2.1) (by kernel_rfl) h ?_ ?_
   ·
    intro h
    refine q3yo hm hT hC (q2g8 (q2f1 d) y9) h fun y10 h=>?_
    refine q7v (q7k ?_)
    cases h
    exact (hend _ (by kernel_rfl)).2
   ·
    intro h
    refine q7s (q7i ?_)
    refine q3yo hm hT hC (q2ga (q2f1 d) y9) h fun y11 h=>?_
    refine q7v ?_
    cases h
    exact (hend _ (by kernel_rfl)).2
abbrev q2gd:List Pk:=[.row qj5 true,.row Rii true]
abbrev q2ge:Type:=qj6×Dii×Unit
abbrev q2gf:Type:=Int×Int
def q2gg (r:q2gf):LV×List Ob:=(.tup [.int .i64 r.1,.int .i64 r.2],[])
def q2gh (F:q2ge→Option q2gf):Go.Tx.Spec:=⟨30,q2gd,q2gf,F,q2gg⟩
abbrev q2gi:Type:=(q2c2→Option q2c3)×(q2d2→Option q2d3)×Unit
def q2gj (d:Nat):q2gi:=(q2cz d,q2dv d,())
def q2gk (C:q2gi):List Go.Tx.Spec:=[q2c5 C.1,q2d5 C.2.1]
abbrev q2gl:Type:=List Diii×Int×Int
def q2gm (v:q2gl):St:=⟨[(0,.agg [.fz Riii v.1]),(1,.agg [i6 v.2.1,i6 v.2.2])],[]⟩
abbrev q2gn:Type:=List Diii×Int×Int
def q2go (v:q2gn):St:=⟨[(2,.ptr 0 0),(3,.ptr 1 0)],[.cells [.fz Riii v.1],.cells [i6 v.2.1,i6 v.2.2]]⟩
def q2gp (C:q2gi) (v:q2gl):Dt q2gn:=(Dt.ret (v.1,v.2.1,v.2.2))
abbrev q405 {V Y:Type}:=@rg q2gi V Y tysT (fun C=>(orc (q2gk C))) 27
theorem q2gq C v:q405 (regO (qct f30) 0) false [(2,(.box [.val Riii])),(3,.any)] q2gm q2gp q2go C v:=rgI (by kernel_rfl)
abbrev q2gr:Type:=Int×List Diii×Int×Int
def q2gs (v:q2gr):St:=⟨[(2,.ptr 0 0),(3,.ptr 1 0),(6,i6 v.1)],[.cells [.fz Riii v.2.1],.cells [i6 v.2.2.1,i6 v.2.2.2]]⟩
def q2gt (C:q2gi) (v:q2gn):Dt q2gr:=(Dt.bnd (C.1 ((v.1,()),(v.2.1,v.2.2,()),(v.2.1,v.2.2,()),())) fun r1=>(Dt.ret (r1,v.1,v.2.1,v.2.2)))
theorem q2gu C v:q405 (regO (qct f30) 1) false [(2,(.box [.val Riii])),(3,.any),(6,.any)] q2go q2gt q2gs C v:=rgI (by kernel_rfl)
abbrev q2gv:Type:=Int×Bool×List Diii×Int×Int
def q2gw (v:q2gv):St:=⟨[(2,.ptr 0 0),(3,.ptr 1 0),(6,i6 v.1),(14,.bool v.2.1)],[.cells [.fz Riii v.2.2.1],.cells [i6 v.2.2.2.1,i6 v.2.2.2.2]]⟩
def q2gx (C:q2gi) (v:q2gr):Dt q2gv:=(Dt.ret (v.1,(v.1 != (0:Int)),v.2.1,v.2.2.1,v.2.2.2))
theorem q2gy C v:q405 (regO (qct f30) 2) false [(2,(.box [.val Riii])),(3,.any),(6,.any),(14,.any)] q2gs q2gx q2gw C v:=rgI (by kernel_rfl)
abbrev q2gz:Type:=Int×Int
def q2h0 (v:q2gz):St:=⟨[(4,i6 v.1),(5,i6 v.2)],[]⟩
def q2h1 (C:q2gi) (v:q2gv):Dt q2gz:=(Dt.ret ((0:Int),v.1))
theorem q2h2 C v:q405 (regO (qct f30) 3) false (an [4,5]) q2gw q2h1 q2h0 C v:=rgI (by kernel_rfl)
abbrev q2h3:Type:=Int×Int×Int×Int×Int×Int
def q2h4 (v:q2h3):St:=⟨[(7,.ptr 0 0),(8,.ptr 1 0)],[.cells [i6 v.1,i6 v.2.1,i6 v.2.2.1],.cells [i6 v.2.2.2.1,i6 v.2.2.2.2.1,i6 v.2.2.2.2.2]]⟩
def q2h5 (C:q2gi) (v:q2gv):Dt q2h3:=(Dt.bnd (C.2.1 ((v.2.2.1,()),(v.2.2.2.1,v.2.2.2.2,()),())) fun r1=>(Dt.ret (r1.1,r1.2.1,r1.2.2.1,r1.2.2.2.1,r1.2.2.2.2.1,r1.2.2.2.2.2)))
theorem q2h6 C v:q405 (regO (qct f30) 4) false (an [7,8]) q2gw q2h5 q2h4 C v:=rgI (by kernel_rfl)
def q2h7 (C:q2gi) (v:q2h3):Dt q2gz:=(Dt.ret ((IntKind.wrap .i64 (v.2.2.1 - v.2.2.2.2.2)),(0:Int)))
theorem q2h8 C v:q405 (regO (qct f30) 5) false (an [4,5]) q2h4 q2h7 q2h0 C v:=rgI (by kernel_rfl)
def q2h9 (d:Nat) (x:q2ge):Option q2gf :=
 (q2gp (q2gj d) (x.1.1,x.2.1.1,x.2.1.2.1)).eval fun y0 =>
 (q2gt (q2gj d) y0).eval fun y1 =>
 (q2gx (q2gj d) y1).eval fun y2 =>
 bif y2.2.1 then ((q2h1 (q2gj d) y2).eval fun y3 =>
 some y3) else ((q2h5 (q2gj d) y2).eval fun y4 =>
 (q2h7 (q2gj d) y4).eval fun y5 =>
 some y5)
theorem q2ha (d:Nat):COK prog (q2gh (q2h9 d)):=by
 have hm:prog.follows .mixedOrders=true:=mixed
 have hT:=tys
 have hC0:OrcOK prog (orc (q2gk (q2gj d))):=qcn (by
  intro S hS
  simp only [q2gk,List.mem_cons,List.not_mem_nil,or_false] at hS
  rcases hS with rfl | rfl
  · exact q2d0 d
  · exact q2dw d)
 have hC:OrcOK prog (orc (q2gk (q2gj d))):=hC0
 refine q8c (c:=qct f30) (fn:=f30) hT (by kernel_rfl) (by kernel_rfl) (by decide) fun x r h w0 φ0 Q hend=>?_
 replace h:q2h9 d x=some r:=h
 unfold q2h9 at h
 show Run prog w0 φ0 27 (qct f30) ⟨[(0,.agg [.fz Riii x.1.1]),(1,.agg [.int .i64 x.2.1.1,.int .i64 x.2.1.2.1])],[]⟩ Q
 refine q3yo hm hT hC (q2gq (q2gj d) (x.1.1,x.2.1.1,x.2.1.2.1)) h fun y0 h=>?_
 refine q7w ?_
 refine q3yo hm hT hC (q2gu (q2gj d) y0) h fun y1 h=>?_
 refine q3yo hm hT hC (q2gy (q2gj d) y1) h fun y2 h=>?_
 refine q80 (v:=y2.2.1) (by kernel_rfl) h ?_ ?_
 ·
  intro h
  refine q3yo hm hT hC (q2h2 (q2gj d) y2) h fun y3 h=>?_
  refine q7v (q7k ?_)
  cases h
  exact (hend _ (by kernel_rfl)).2
 ·
  intro h
  refine q7s (q7i ?_)
  refine q3yo hm hT hC (q2h6 (q2gj d) y2) h fun y4 h=>?_
  refine q3yo hm hT hC (q2h8 (q2gj d) y4) h fun y5 h=>?_
  refine q7v ?_
  cases h
  exact (hend _ (by kernel_rfl)).2
abbrev q2hb:List Pk:=[.row qj5 true,.row Rii true,.row Rii true]
abbrev q2hc:Type:=qj6×Dii×Dii×Unit
abbrev q2hd:Type:=List Diii
def q2he (r:q2hd):LV×List Ob:=(.rs 0,[.rows Riii r])
def q2hf (F:q2hc→Option q2hd):Go.Tx.Spec:=⟨80,q2hb,q2hd,F,q2he⟩
abbrev q2hg:Type:=(q2ac→Option q2ad)×(q2ge→Option q2gf)×Unit
def q2hh (d:Nat):q2hg:=(q2bb d,q2h9 d,())
def q2hi (C:q2hg):List Go.Tx.Spec:=[q2af C.1,q2gh C.2.1]
abbrev q2hj:Type:=List Diii×Int×Int×Int×Int
def q2hk (v:q2hj):St:=⟨[(0,.agg [.fz Riii v.1]),(1,.agg [i6 v.2.1,i6 v.2.2.1]),(2,.agg [i6 v.2.2.2.1,i6 v.2.2.2.2])],[]⟩
abbrev q2hl:Type:=List Diii×Int×Int×Int×Int
def q2hm (v:q2hl):St:=⟨[(3,.ptr 0 0),(4,.ptr 1 0),(5,.ptr 2 0)],[.cells [.fz Riii v.1],.cells [i6 v.2.1,i6 v.2.2.1],.cells [i6 v.2.2.2.1,i6 v.2.2.2.2]]⟩
def q2hn (C:q2hg) (v:q2hj):Dt q2hl:=(Dt.ret (v.1,v.2.1,v.2.2.1,v.2.2.2.1,v.2.2.2.2))
abbrev q406 {V Y:Type}:=@rg q2hg V Y tysT (fun C=>(orc (q2hi C))) 64
theorem q2ho C v:q406 (regO (qct f80) 0) false [(3,(.box [.val Riii])),(4,.any),(5,.any)] q2hk q2hn q2hm C v:=rgI (by kernel_rfl)
abbrev q2hp:Type:=Int×List Diii×Int×Int×Int×Int
def q2hq (v:q2hp):St:=⟨[(3,.ptr 0 0),(4,.ptr 1 0),(5,.ptr 2 0),(7,i6 v.1)],[.cells [.fz Riii v.2.1],.cells [i6 v.2.2.1,i6 v.2.2.2.1],.cells [i6 v.2.2.2.2.1,i6 v.2.2.2.2.2]]⟩
def q2hr (C:q2hg) (v:q2hl):Dt q2hp:=(Dt.bnd (C.2.1 ((v.1,()),(v.2.1,v.2.2.1,()),())) fun r1=>(Dt.ret (r1.1,v.1,v.2.1,v.2.2.1,v.2.2.2.1,v.2.2.2.2)))
theorem q2hs C v:q406 (regO (qct f80) 1) false [(3,(.box [.val Riii])),(4,.any),(5,.any),(7,.any)] q2hm q2hr q2hq C v:=rgI (by kernel_rfl)
abbrev q2ht:Type:=List Diii×Int×Int×Int×Int×List Diii
def q2hu (v:q2ht):St:=⟨[(3,.ptr 0 0),(4,.ptr 1 0),(5,.ptr 2 0),(9,.rs 3)],[.cells [.fz Riii v.1],.cells [i6 v.2.1,i6 v.2.2.1],.cells [i6 v.2.2.2.1,i6 v.2.2.2.2.1],.rows Riii v.2.2.2.2.2]⟩
def q2hv (C:q2hg) (v:q2hp):Dt q2ht:=(Dt.ret (v.2.1,v.2.2.1,v.2.2.2.1,v.2.2.2.2.1,v.2.2.2.2.2,([(v.2.2.1,v.2.2.2.1,v.1,())]:List Diii)))
theorem q2hw C v:q406 (regO (qct f80) 2) false [(3,(.box [.val Riii])),(4,.any),(5,.any),(9,(.own Riii))] q2hq q2hv q2hu C v:=rgI (by kernel_rfl)
abbrev q2hx:Type:=List qj9×List Diii×List Diii
def q2hy (v:q2hx):St:=⟨[(3,.ptr 0 0),(9,.rs 1),(10,.fz qj8 v.1)],[.cells [.fz Riii v.2.1],.rows Riii v.2.2]⟩
def q2hz (C:q2hg) (v:q2ht):Dt q2hx:=(Dt.bnd (C.1 ((v.1,()),(v.2.1,v.2.2.1,()),(v.2.2.2.1,v.2.2.2.2.1,()),())) fun r1=>(Dt.ret (r1.1,v.1,v.2.2.2.2.2)))
theorem q2i0 C v:q406 (regO (qct f80) 3) false [(3,(.box [.val Riii])),(9,(.own Riii)),(10,(.val qj8))] q2hu q2hz q2hy C v:=rgI (by kernel_rfl)
abbrev q2i1:Type:=List qj9×Int×Int×List Diii×List Diii
def q2i2 (v:q2i1):St:=⟨[(3,.ptr 0 0),(9,.rs 1),(33,.fz qj8 v.1),(34,i6 v.2.1),(35,i6 v.2.2.1)],[.cells [.fz Riii v.2.2.2.1],.rows Riii v.2.2.2.2]⟩
def q2i3 (C:q2hg) (v:q2hx):Dt q2i1:=(Dt.ret (v.1,(List.length v.1:Int),(0:Int),v.2.1,v.2.2))
theorem q2i4 C v:q406 (regO (qct f80) 4) false [(3,(.box [.val Riii])),(9,(.own Riii)),(33,(.val qj8)),(34,.any),(35,.any)] q2hy q2i3 q2i2 C v:=rgI (by kernel_rfl)
abbrev q2i5:Type:=List qj9×Int×Int×Bool×List Diii×List Diii
def q2i6 (v:q2i5):St:=⟨[(3,.ptr 0 0),(9,.rs 1),(33,.fz qj8 v.1),(34,i6 v.2.1),(35,i6 v.2.2.1),(36,.bool v.2.2.2.1)],[.cells [.fz Riii v.2.2.2.2.1],.rows Riii v.2.2.2.2.2]⟩
def q2i7 (C:q2hg) (v:q2i1):Dt q2i5:=(Dt.ret (v.1,v.2.1,v.2.2.1,(decide (v.2.2.1<v.2.1)),v.2.2.2.1,v.2.2.2.2))
theorem q2i8 C v:q406 (regO (qct f80) 5) false [(3,(.box [.val Riii])),(9,(.own Riii)),(33,(.val qj8)),(34,.any),(35,.any),(36,.any)] q2i2 q2i7 q2i6 C v:=rgI (by kernel_rfl)
abbrev q2i9:Type:=List qj9×Int×Int×List Diii×List Diii×Int×Int×Int×Int
def q2ia (v:q2i9):St:=⟨[(3,.ptr 0 0),(9,.rs 1),(13,.ptr 2 0),(33,.fz qj8 v.1),(34,i6 v.2.1),(35,i6 v.2.2.1)],[.cells [.fz Riii v.2.2.2.1],.rows Riii v.2.2.2.2.1,.cells [i6 v.2.2.2.2.2.1,i6 v.2.2.2.2.2.2.1,i6 v.2.2.2.2.2.2.2.1,i6 v.2.2.2.2.2.2.2.2]]⟩
def q2ib (C:q2hg) (v:q2i5):Dt q2i9:=(Dt.ite (inB v.2.2.1 (List.length v.1)) (Dt.ret (v.1,v.2.1,v.2.2.1,v.2.2.2.2.1,v.2.2.2.2.2,(elt qja v.1 (v.2.2.1).toNat).1,(elt qja v.1 (v.2.2.1).toNat).2.1,(elt qja v.1 (v.2.2.1).toNat).2.2.1,(elt qja v.1 (v.2.2.1).toNat).2.2.2.1)) Dt.fail)
theorem q2ic C v:q406 (regO (qct f80) 6) false [(3,(.box [.val Riii])),(9,(.own Riii)),(13,.any),(33,(.val qj8)),(34,.any),(35,.any)] q2i6 q2ib q2ia C v:=rgI (by kernel_rfl)
abbrev q2id:Type:=Int×List qj9×Int×Int×List Diii×List Diii×Int×Int×Int×Int
def q2ie (v:q2id):St:=⟨[(3,.ptr 0 0),(9,.rs 1),(13,.ptr 2 0),(14,i6 v.1),(33,.fz qj8 v.2.1),(34,i6 v.2.2.1),(35,i6 v.2.2.2.1)],[.cells [.fz Riii v.2.2.2.2.1],.rows Riii v.2.2.2.2.2.1,.cells [i6 v.2.2.2.2.2.2.1,i6 v.2.2.2.2.2.2.2.1,i6 v.2.2.2.2.2.2.2.2.1,i6 v.2.2.2.2.2.2.2.2.2]]⟩
def q2if (C:q2hg) (v:q2i9):Dt q2id:=(Dt.bnd (C.2.1 ((v.2.2.2.1,()),(v.2.2.2.2.2.1,v.2.2.2.2.2.2.1,()),())) fun r1=>(Dt.ret (r1.1,v.1,v.2.1,v.2.2.1,v.2.2.2.1,v.2.2.2.2.1,v.2.2.2.2.2.1,v.2.2.2.2.2.2.1,v.2.2.2.2.2.2.2.1,v.2.2.2.2.2.2.2.2)))
theorem q2ig C v:q406 (regO (qct f80) 7) false [(3,(.box [.val Riii])),(9,(.own Riii)),(13,.any),(14,.any),(33,(.val qj8)),(34,.any),(35,.any)] q2ia q2if q2ie C v:=rgI (by kernel_rfl)
abbrev q2ih:Type:=Int×List qj9×Int×Int×Bool×List Diii×List Diii×Int×Int×Int×Int
def q2ii (v:q2ih):St:=⟨[(3,.ptr 0 0),(9,.rs 1),(13,.ptr 2 0),(14,i6 v.1),(33,.fz qj8 v.2.1),(34,i6 v.2.2.1),(35,i6 v.2.2.2.1),(54,.bool v.2.2.2.2.1)],[.cells [.fz Riii v.2.2.2.2.2.1],.rows Riii v.2.2.2.2.2.2.1,.cells [i6 v.2.2.2.2.2.2.2.1,i6 v.2.2.2.2.2.2.2.2.1,i6 v.2.2.2.2.2.2.2.2.2.1,i6 v.2.2.2.2.2.2.2.2.2.2]]⟩
def q2ij (C:q2hg) (v:q2id):Dt q2ih:=(Dt.ite (inB (IntKind.wrap .i64 ((List.length v.2.2.2.2.2.1:Int) - (1:Int))) (List.length v.2.2.2.2.2.1)) (Dt.ret (v.1,v.2.1,v.2.2.1,v.2.2.2.1,(v.1 != (elt ziii v.2.2.2.2.2.1 ((IntKind.wrap .i64 ((List.length v.2.2.2.2.2.1:Int) - (1:Int)))).toNat).2.2.1),v.2.2.2.2.1,v.2.2.2.2.2.1,v.2.2.2.2.2.2.1,v.2.2.2.2.2.2.2.1,v.2.2.2.2.2.2.2.2.1,v.2.2.2.2.2.2.2.2.2)) Dt.fail)
theorem q2ik C v:q406 (regO (qct f80) 8) false [(3,(.box [.val Riii])),(9,(.own Riii)),(13,.any),(14,.any),(33,(.val qj8)),(34,.any),(35,.any),(54,.any)] q2ie q2ij q2ii C v:=rgI (by kernel_rfl)
def q2il (C:q2hg) (v:q2ih):Dt q2i1:=(Dt.ite (apB (List.length v.2.2.2.2.2.2.1) (List.length ([(v.2.2.2.2.2.2.2.1,v.2.2.2.2.2.2.2.2.1,v.1,())]:List Diii))) (Dt.ret (v.2.1,v.2.2.1,v.2.2.2.1,v.2.2.2.2.2.1,(v.2.2.2.2.2.2.1++([(v.2.2.2.2.2.2.2.1,v.2.2.2.2.2.2.2.2.1,v.1,())]:List Diii)))) Dt.fail)
theorem q2im C v:q406 (regO (qct f80) 9) false [(3,(.box [.val Riii])),(9,(.own Riii)),(33,(.val qj8)),(34,.any),(35,.any)] q2ii q2il q2i2 C v:=rgI (by kernel_rfl)
def q2in (C:q2hg) (v:q2i1):Dt q2i1:=(Dt.ret (v.1,v.2.1,(IntKind.wrap .i64 (v.2.2.1+(1:Int))),v.2.2.2.1,v.2.2.2.2))
theorem q2io C v:q406 (regO (qct f80) 10) false [(3,(.box [.val Riii])),(9,(.own Riii)),(33,(.val qj8)),(34,.any),(35,.any)] q2i2 q2in q2i2 C v:=rgI (by kernel_rfl)
def q2ip  (d:Nat) (self1:(List qj9×Int×Int×List Diii×List Diii)→Option q2hd) (z:List qj9×Int×Int×List Diii×List Diii):Option (q2hd) :=
 (q2in (q2hh d) z).eval fun y10 =>
 self1 y10
abbrev q2iq:Type:=List Diii
def q2ir (v:q2iq):St:=⟨[(6,.rs 0)],[.rows Riii v]⟩
def q2is (C:q2hg) (v:q2i5):Dt q2iq:=(Dt.ret v.2.2.2.2.2)
theorem q2it C v:q406 (regO (qct f80) 11) false [(6,(.own Riii))] q2i6 q2is q2ir C v:=rgI (by kernel_rfl)
def q2iu (d:Nat) (self1:(List qj9×Int×Int×List Diii×List Diii)→Option q2hd) (x1:List qj9×Int×Int×List Diii×List Diii):Option q2hd :=
 (q2i7 (q2hh d) x1).eval fun y5 =>
 bif y5.2.2.2.1 then ((q2ib (q2hh d) y5).eval fun y6 =>
 (q2if (q2hh d) y6).eval fun y7 =>
 (q2ij (q2hh d) y7).eval fun y8 =>
 bif y8.2.2.2.2.1 then ((q2il (q2hh d) y8).eval fun y9 =>
 q2ip d self1 y9) else (q2ip d self1 (y8.2.1,y8.2.2.1,y8.2.2.2.1,y8.2.2.2.2.2.1,y8.2.2.2.2.2.2.1))) else ((q2is (q2hh d) y5).eval fun y11 =>
 some y11)
def q2iv (d:Nat) (x:q2hc):Option q2hd :=
 (q2hn (q2hh d) (x.1.1,x.2.1.1,x.2.1.2.1,x.2.2.1.1,x.2.2.1.2.1)).eval fun y0 =>
 (q2hr (q2hh d) y0).eval fun y1 =>
 (q2hv (q2hh d) y1).eval fun y2 =>
 (q2hz (q2hh d) y2).eval fun y3 =>
 (q2i3 (q2hh d) y3).eval fun y4 =>
 iter (q2iu d ) d y4
theorem q2iw (d:Nat):COK prog (q2hf (q2iv d)):=by
 have hm:prog.follows .mixedOrders=true:=mixed
 have hT:=tys
 have hC0:OrcOK prog (orc (q2hi (q2hh d))):=qcn (by
  intro S hS
  simp only [q2hi,List.mem_cons,List.not_mem_nil,or_false] at hS
  rcases hS with rfl | rfl
  · exact q2bc d
  · exact q2ha d)
 have hC:OrcOK prog (orc (q2hi (q2hh d))):=hC0
 refine q8c (c:=qct f80) (fn:=f80) hT (by kernel_rfl) (by kernel_rfl) (by decide) fun x r h w0 φ0 Q hend=>?_
 replace h:q2iv d x=some r:=h
 unfold q2iv at h
 show Run prog w0 φ0 64 (qct f80) ⟨[(0,.agg [.fz Riii x.1.1]),(1,.agg [.int .i64 x.2.1.1,.int .i64 x.2.1.2.1]),(2,.agg [.int .i64 x.2.2.1.1,.int .i64 x.2.2.1.2.1])],[]⟩ Q
 refine q3yo hm hT hC (q2ho (q2hh d) (x.1.1,x.2.1.1,x.2.1.2.1,x.2.2.1.1,x.2.2.1.2.1)) h fun y0 h=>?_
 refine q3yo hm hT hC (q2hs (q2hh d) y0) h fun y1 h=>?_
 refine q3yo hm hT hC (q2hw (q2hh d) y1) h fun y2 h=>?_
 refine q3yo hm hT hC (q2i0 (q2hh d) y2) h fun y3 h=>?_
 refine q7w ?_
 refine q3yo hm hT hC (q2i4 (q2hh d) y3) h fun y4 h=>?_
 refine q7x ?_
 refine q82 (G:=iter (q2iu d )) (S:=(fun x1=>⟨[(3,.ptr 0 0),(9,.rs 1),(33,.fz qj8 x1.1),(34,i6 x1.2.1),(35,i6 x1.2.2.1)],[.cells [.fz Riii x1.2.2.2.1],.rows Riii x1.2.2.2.2]⟩:List qj9×Int×Int×List Diii×List Diii→St)) (fun _=>rfl) ?_ d _ h
 intro n1 x1 h K1 hn1
 replace h:q2iu d  (iter (q2iu d ) n1) x1=some r:=h
 generalize iter (q2iu d ) n1=self1 at h hn1
 unfold q2iu at h
 refine q3yo hm hT hC (q2i8 (q2hh d) x1) h fun y5 h=>?_
 refine q7w ?_
 refine q80 (v:=y5.2.2.2.1) (by kernel_rfl) h ?_ ?_
 ·
  intro h
  refine q7s (q7i ?_)
  refine q7z (r:=r) (F:=q2ip d self1) (S:=(fun z=>⟨[(3,.ptr 0 0),(9,.rs 1),(33,.fz qj8 z.1),(34,i6 z.2.1),(35,i6 z.2.2.1)],[.cells [.fz Riii z.2.2.2.1],.rows Riii z.2.2.2.2]⟩:List qj9×Int×Int×List Diii×List Diii→St)) ?_ ?_
  ·
   intro z h
   unfold q2ip at h
   refine q81 hm hT hC (q2io (q2hh d) z) h ?_
   intro y10 h
   exact hn1 _ h
  intro hj2
  refine q7x ?_
  refine q3yo hm hT hC (q2ic (q2hh d) y5) h fun y6 h=>?_
  refine q3yo hm hT hC (q2ig (q2hh d) y6) h fun y7 h=>?_
  refine q3yo hm hT hC (q2ik (q2hh d) y7) h fun y8 h=>?_
  refine q80 (v:=y8.2.2.2.2.1) (by kernel_rfl) h ?_ ?_
  ·
   intro h
   refine q81 hm hT hC (q2im (q2hh d) y8) h ?_
   intro y9 h
   refine q7l ?_
   exact hj2 _ h
  ·
   intro h
   refine q7s (q7l ?_)
   refine qcs (s:=⟨[(3,.ptr 0 0),(9,.rs 1),(33,.fz qj8 y8.2.1),(34,.int .i64 y8.2.2.1),(35,.int .i64 y8.2.2.2.1)],[.cells [.fz Riii y8.2.2.2.2.2.1],.rows Riii y8.2.2.2.2.2.2.1]⟩) [13,14,54] (by kernel_rfl) ?_
   exact hj2 _ h
 ·
  intro h
  refine q7u (q7j (q7j (q7n (q7i ?_))))
  refine q3yo hm hT hC (q2it (q2hh d) y5) h fun y11 h=>?_
  refine q7v ?_
  cases h
  exact (hend _ (by kernel_rfl)).2
abbrev q2ix:List Pk:=[.row qj5 true,.row Rii true,.row Rii true]
abbrev q2iy:Type:=qj6×Dii×Dii×Unit
abbrev q2iz:Type:=List Dii×Int
def q2j0 (r:q2iz):LV×List Ob:=(.tup [.rs 0,.int .i64 r.2],[.rows Rii r.1])
def q2j1 (F:q2iy→Option q2iz):Go.Tx.Spec:=⟨32,q2ix,q2iz,F,q2j0⟩
abbrev q2j2:Type:=(q2c2→Option q2c3)×(q2hc→Option q2hd)×Unit
def q2j3 (d:Nat):q2j2:=(q2cz d,q2iv d,())
def q2j4 (C:q2j2):List Go.Tx.Spec:=[q2c5 C.1,q2hf C.2.1]
abbrev q2j5:Type:=List Diii×Int×Int×Int×Int
def q2j6 (v:q2j5):St:=⟨[(0,.agg [.fz Riii v.1]),(1,.agg [i6 v.2.1,i6 v.2.2.1]),(2,.agg [i6 v.2.2.2.1,i6 v.2.2.2.2])],[]⟩
abbrev q2j7:Type:=List Diii×Int×Int×Int×Int
def q2j8 (v:q2j7):St:=⟨[(3,.ptr 0 0),(4,.ptr 1 0),(5,.ptr 2 0)],[.cells [.fz Riii v.1],.cells [i6 v.2.1,i6 v.2.2.1],.cells [i6 v.2.2.2.1,i6 v.2.2.2.2]]⟩
def q2j9 (C:q2j2) (v:q2j5):Dt q2j7:=(Dt.ret (v.1,v.2.1,v.2.2.1,v.2.2.2.1,v.2.2.2.2))
abbrev q407 {V Y:Type}:=@rg q2j2 V Y tysT (fun C=>(orc (q2j4 C))) 36
theorem q2ja C v:q407 (regO (qct f32) 0) false [(3,(.box [.val Riii])),(4,.any),(5,.any)] q2j6 q2j9 q2j8 C v:=rgI (by kernel_rfl)
abbrev q2jb:Type:=Int×List Diii×Int×Int×Int×Int
def q2jc (v:q2jb):St:=⟨[(3,.ptr 0 0),(4,.ptr 1 0),(5,.ptr 2 0),(8,i6 v.1)],[.cells [.fz Riii v.2.1],.cells [i6 v.2.2.1,i6 v.2.2.2.1],.cells [i6 v.2.2.2.2.1,i6 v.2.2.2.2.2]]⟩
def q2jd (C:q2j2) (v:q2j7):Dt q2jb:=(Dt.bnd (C.1 ((v.1,()),(v.2.1,v.2.2.1,()),(v.2.2.2.1,v.2.2.2.2,()),())) fun r1=>(Dt.ret (r1,v.1,v.2.1,v.2.2.1,v.2.2.2.1,v.2.2.2.2)))
theorem q2je C v:q407 (regO (qct f32) 1) false [(3,(.box [.val Riii])),(4,.any),(5,.any),(8,.any)] q2j8 q2jd q2jc C v:=rgI (by kernel_rfl)
abbrev q2jf:Type:=Int×Bool×List Diii×Int×Int×Int×Int
def q2jg (v:q2jf):St:=⟨[(3,.ptr 0 0),(4,.ptr 1 0),(5,.ptr 2 0),(8,i6 v.1),(17,.bool v.2.1)],[.cells [.fz Riii v.2.2.1],.cells [i6 v.2.2.2.1,i6 v.2.2.2.2.1],.cells [i6 v.2.2.2.2.2.1,i6 v.2.2.2.2.2.2]]⟩
def q2jh (C:q2j2) (v:q2jb):Dt q2jf:=(Dt.ret (v.1,(v.1 != (0:Int)),v.2.1,v.2.2.1,v.2.2.2.1,v.2.2.2.2.1,v.2.2.2.2.2))
theorem q2ji C v:q407 (regO (qct f32) 2) false [(3,(.box [.val Riii])),(4,.any),(5,.any),(8,.any),(17,.any)] q2jc q2jh q2jg C v:=rgI (by kernel_rfl)
abbrev q2jj:Type:=Int×List Dii
def q2jk (v:q2jj):St:=⟨[(6,.rs 0),(7,i6 v.1)],[.rows Rii v.2]⟩
def q2jl (C:q2j2) (v:q2jf):Dt q2jj:=(Dt.ret (v.1,([]:List Dii)))
theorem q2jm C v:q407 (regO (qct f32) 3) false [(6,(.own Rii)),(7,.any)] q2jg q2jl q2jk C v:=rgI (by kernel_rfl)
abbrev q2jn:Type:=List Diii×Int×Int×Int×Int×List Dii
def q2jo (v:q2jn):St:=⟨[(3,.ptr 0 0),(4,.ptr 1 0),(5,.ptr 2 0),(9,.rs 3)],[.cells [.fz Riii v.1],.cells [i6 v.2.1,i6 v.2.2.1],.cells [i6 v.2.2.2.1,i6 v.2.2.2.2.1],.rows Rii v.2.2.2.2.2]⟩
def q2jp (C:q2j2) (v:q2jf):Dt q2jn:=(Dt.ret (v.2.2.1,v.2.2.2.1,v.2.2.2.2.1,v.2.2.2.2.2.1,v.2.2.2.2.2.2,([]:List Dii)))
theorem q2jq C v:q407 (regO (qct f32) 4) false [(3,(.box [.val Riii])),(4,.any),(5,.any),(9,(.own Rii))] q2jg q2jp q2jo C v:=rgI (by kernel_rfl)
abbrev q2jr:Type:=List Diii×Int×Int×List Dii
def q2js (v:q2jr):St:=⟨[(9,.rs 0),(23,.fz Riii v.1),(24,i6 v.2.1),(25,i6 v.2.2.1)],[.rows Rii v.2.2.2]⟩
def q2jt (C:q2j2) (v:q2jn):Dt q2jr:=(Dt.bnd (C.2.1 ((v.1,()),(v.2.1,v.2.2.1,()),(v.2.2.2.1,v.2.2.2.2.1,()),())) fun r1=>(Dt.ite (decide (0≤(1:Int))&&decide ((1:Int)≤(List.length r1:Int))) (Dt.ret ((List.drop ((1:Int)).toNat r1),(List.length (List.drop ((1:Int)).toNat r1):Int),(0:Int),v.2.2.2.2.2)) Dt.fail))
theorem q2ju C v:q407 (regO (qct f32) 5) false [(9,(.own Rii)),(23,(.val Riii)),(24,.any),(25,.any)] q2jo q2jt q2js C v:=rgI (by kernel_rfl)
abbrev q2jv:Type:=List Diii×Int×Int×Bool×List Dii
def q2jw (v:q2jv):St:=⟨[(9,.rs 0),(23,.fz Riii v.1),(24,i6 v.2.1),(25,i6 v.2.2.1),(26,.bool v.2.2.2.1)],[.rows Rii v.2.2.2.2]⟩
def q2jx (C:q2j2) (v:q2jr):Dt q2jv:=(Dt.ret (v.1,v.2.1,v.2.2.1,(decide (v.2.2.1<v.2.1)),v.2.2.2))
theorem q2jy C v:q407 (regO (qct f32) 6) false [(9,(.own Rii)),(23,(.val Riii)),(24,.any),(25,.any),(26,.any)] q2js q2jx q2jw C v:=rgI (by kernel_rfl)
abbrev q2jz:Type:=List Diii×Int×Int×List Dii×Int×Int×Int
def q2k0 (v:q2jz):St:=⟨[(9,.rs 0),(11,.ptr 1 0),(23,.fz Riii v.1),(24,i6 v.2.1),(25,i6 v.2.2.1)],[.rows Rii v.2.2.2.1,.cells [i6 v.2.2.2.2.1,i6 v.2.2.2.2.2.1,i6 v.2.2.2.2.2.2]]⟩
def q2k1 (C:q2j2) (v:q2jv):Dt q2jz:=(Dt.ite (inB v.2.2.1 (List.length v.1)) (Dt.ret (v.1,v.2.1,v.2.2.1,v.2.2.2.2,(elt ziii v.1 (v.2.2.1).toNat).1,(elt ziii v.1 (v.2.2.1).toNat).2.1,(elt ziii v.1 (v.2.2.1).toNat).2.2.1)) Dt.fail)
theorem q2k2 C v:q407 (regO (qct f32) 7) false [(9,(.own Rii)),(11,.any),(23,(.val Riii)),(24,.any),(25,.any)] q2jw q2k1 q2k0 C v:=rgI (by kernel_rfl)
def q2k3 (C:q2j2) (v:q2jz):Dt q2jr:=(Dt.ite (apB (List.length v.2.2.2.1) (List.length ([(v.2.2.2.2.1,v.2.2.2.2.2.1,())]:List Dii))) (Dt.ret (v.1,v.2.1,v.2.2.1,(v.2.2.2.1++([(v.2.2.2.2.1,v.2.2.2.2.2.1,())]:List Dii)))) Dt.fail)
theorem q2k4 C v:q407 (regO (qct f32) 8) false [(9,(.own Rii)),(23,(.val Riii)),(24,.any),(25,.any)] q2k0 q2k3 q2js C v:=rgI (by kernel_rfl)
def q2k5 (C:q2j2) (v:q2jr):Dt q2jr:=(Dt.ret (v.1,v.2.1,(IntKind.wrap .i64 (v.2.2.1+(1:Int))),v.2.2.2))
theorem q2k6 C v:q407 (regO (qct f32) 9) false [(9,(.own Rii)),(23,(.val Riii)),(24,.any),(25,.any)] q2js q2k5 q2js C v:=rgI (by kernel_rfl)
def q2k7 (C:q2j2) (v:q2jv):Dt q2jj:=(Dt.ret ((0:Int),v.2.2.2.2))
theorem q2k8 C v:q407 (regO (qct f32) 10) false [(6,(.own Rii)),(7,.any)] q2jw q2k7 q2jk C v:=rgI (by kernel_rfl)
def q2k9 (d:Nat) (self1:(List Diii×Int×Int×List Dii)→Option q2iz) (x1:List Diii×Int×Int×List Dii):Option q2iz :=
 (q2jx (q2j3 d) x1).eval fun y6 =>
 bif y6.2.2.2.1 then ((q2k1 (q2j3 d) y6).eval fun y7 =>
 (q2k3 (q2j3 d) y7).eval fun y8 =>
 (q2k5 (q2j3 d) y8).eval fun y9 =>
 self1 y9) else ((q2k7 (q2j3 d) y6).eval fun y10 =>
 some (y10.2,y10.1))
def q2ka (d:Nat) (x:q2iy):Option q2iz :=
 (q2j9 (q2j3 d) (x.1.1,x.2.1.1,x.2.1.2.1,x.2.2.1.1,x.2.2.1.2.1)).eval fun y0 =>
 (q2jd (q2j3 d) y0).eval fun y1 =>
 (q2jh (q2j3 d) y1).eval fun y2 =>
 bif y2.2.1 then ((q2jl (q2j3 d) y2).eval fun y3 =>
 some (y3.2,y3.1)) else ((q2jp (q2j3 d) y2).eval fun y4 =>
 (q2jt (q2j3 d) y4).eval fun y5 =>
 iter (q2k9 d ) d y5)
theorem q2kb (d:Nat):COK prog (q2j1 (q2ka d)):=by
 have hm:prog.follows .mixedOrders=true:=mixed
 have hT:=tys
 have hC0:OrcOK prog (orc (q2j4 (q2j3 d))):=qcn (by
  intro S hS
  simp only [q2j4,List.mem_cons,List.not_mem_nil,or_false] at hS
  rcases hS with rfl | rfl
  · exact q2d0 d
  · exact q2iw d)
 have hC:OrcOK prog (orc (q2j4 (q2j3 d))):=hC0
 refine q8c (c:=qct f32) (fn:=f32) hT (by kernel_rfl) (by kernel_rfl) (by decide) fun x r h w0 φ0 Q hend=>?_
 replace h:q2ka d x=some r:=h
 unfold q2ka at h
 show Run prog w0 φ0 36 (qct f32) ⟨[(0,.agg [.fz Riii x.1.1]),(1,.agg [.int .i64 x.2.1.1,.int .i64 x.2.1.2.1]),(2,.agg [.int .i64 x.2.2.1.1,.int .i64 x.2.2.1.2.1])],[]⟩ Q
 refine q3yo hm hT hC (q2ja (q2j3 d) (x.1.1,x.2.1.1,x.2.1.2.1,x.2.2.1.1,x.2.2.1.2.1)) h fun y0 h=>?_
 refine q7w ?_
 refine q3yo hm hT hC (q2je (q2j3 d) y0) h fun y1 h=>?_
 refine q3yo hm hT hC (q2ji (q2j3 d) y1) h fun y2 h=>?_
 refine q80 (v:=y2.2.1) (by kernel_rfl) h ?_ ?_
 ·
  intro h
  refine q3yo hm hT hC (q2jm (q2j3 d) y2) h fun y3 h=>?_
  refine q7v (q7k ?_)
  cases h
  exact (hend _ (by kernel_rfl)).2
 ·
  intro h
  refine q7s (q7i ?_)
  refine q3yo hm hT hC (q2jq (q2j3 d) y2) h fun y4 h=>?_
  refine q7w ?_
  refine q3yo hm hT hC (q2ju (q2j3 d) y4) h fun y5 h=>?_
  refine q7x ?_
  refine q82 (G:=iter (q2k9 d )) (S:=(fun x1=>⟨[(9,.rs 0),(23,.fz Riii x1.1),(24,i6 x1.2.1),(25,i6 x1.2.2.1)],[.rows Rii x1.2.2.2]⟩:List Diii×Int×Int×List Dii→St)) (fun _=>rfl) ?_ d _ h
  intro n1 x1 h K1 hn1
  replace h:q2k9 d  (iter (q2k9 d ) n1) x1=some r:=h
  generalize iter (q2k9 d ) n1=self1 at h hn1
  unfold q2k9 at h
  refine q3yo hm hT hC (q2jy (q2j3 d) x1) h fun y6 h=>?_
  refine q7w ?_
  refine q80 (v:=y6.2.2.2.1) (by kernel_rfl) h ?_ ?_
  ·
   intro h
   refine q7s (q7i (q7w (q7x ?_)))
   refine q3yo hm hT hC (q2k2 (q2j3 d) y6) h fun y7 h=>?_
   refine q81 hm hT hC (q2k4 (q2j3 d) y7) h ?_
   intro y8 h
   refine q7l (q7i ?_)
   refine q81 hm hT hC (q2k6 (q2j3 d) y8) h ?_
   intro y9 h
   exact hn1 _ h
  ·
   intro h
   refine q7u (q7j (q7j (q7n (q7i ?_))))
   refine q3yo hm hT hC (q2k8 (q2j3 d) y6) h fun y10 h=>?_
   refine q7v ?_
   cases h
   exact (hend _ (by kernel_rfl)).2
abbrev q2kc:List Pk:=[.row Riii true,.ref Ri]
abbrev q2kd:Type:=Diii×Di×Unit
abbrev q2ke:Type:=Bool
def q2kf (r:q2ke):LV×List Ob:=(.bool r,[])
def q2kg (F:q2kd→Option q2ke):Go.Tx.Spec:=⟨82,q2kc,q2ke,F,q2kf⟩
abbrev q2kh:Type:=Unit
def q2ki (_d:Nat):q2kh:=()
def q2kj (C:q2kh):List Go.Tx.Spec:=[]
abbrev q2kk:Type:=Int×Int×Int×Di
def q2kl (v:q2kk):St:=⟨[(0,.agg [i6 v.1,i6 v.2.1,i6 v.2.2.1]),(1,.fp Ri v.2.2.2 0)],[]⟩
abbrev q2km:Type:=Di×Int×Int×Int
def q2kn (v:q2km):St:=⟨[(1,.fp Ri v.1 0),(2,.ptr 0 0)],[.cells [i6 v.2.1,i6 v.2.2.1,i6 v.2.2.2]]⟩
def q2ko (C:q2kh) (v:q2kk):Dt q2km:=(Dt.ret (v.2.2.2,v.1,v.2.1,v.2.2.1))
abbrev q408 {V Y:Type}:=@rg q2kh V Y tysT (fun C=>(orc (q2kj C))) 8
theorem q2kp C v:q408 (regO (qct f82) 0) false (an [1,2]) q2kl q2ko q2kn C v:=rgI (by kernel_rfl)
abbrev q2kq:Type:=Bool
def q2kr (v:q2kq):St:=⟨[(3,.bool v)],[]⟩
def q2ks (C:q2kh) (v:q2km):Dt q2kq:=(Dt.ret (decide (v.2.2.2≥v.1.1)))
theorem q2kt C v:q408 (regO (qct f82) 1) false [(3,.any)] q2kn q2ks q2kr C v:=rgI (by kernel_rfl)
def q2ku (d:Nat) (x:q2kd):Option q2ke :=
 (q2ko (q2ki d) (x.1.1,x.1.2.1,x.1.2.2.1,x.2.1)).eval fun y0 =>
 (q2ks (q2ki d) y0).eval fun y1 =>
 some y1
theorem q2kv (d:Nat):COK prog (q2kg (q2ku d)):=by
 have hm:prog.follows .mixedOrders=true:=mixed
 have hT:=tys
 have hC0:OrcOK prog (orc (q2kj (q2ki d))):=qcn (by
  intro S hS
  simp only [q2kj,List.mem_cons,List.not_mem_nil,or_false] at hS
  all_goals first | cases hS | exact hS.elim)
 have hC:OrcOK prog (orc (q2kj (q2ki d))):=hC0
 refine q8c (c:=qct f82) (fn:=f82) hT (by kernel_rfl) (by kernel_rfl) (by decide) fun x r h w0 φ0 Q hend=>?_
 replace h:q2ku d x=some r:=h
 unfold q2ku at h
 show Run prog w0 φ0 8 (qct f82) ⟨[(0,.agg [.int .i64 x.1.1,.int .i64 x.1.2.1,.int .i64 x.1.2.2.1]),(1,.fp Ri x.2.1 0)],[]⟩ Q
 refine q3yo hm hT hC (q2kp (q2ki d) (x.1.1,x.1.2.1,x.1.2.2.1,x.2.1)) h fun y0 h=>?_
 refine q3yo hm hT hC (q2kt (q2ki d) y0) h fun y1 h=>?_
 refine q7v ?_
 cases h
 exact (hend _ (by kernel_rfl)).2
abbrev q2kw:List Pk:=[.row qj5 false,.fn 82 [Ri]]
abbrev q2kx:Type:=qj6×(Di×Unit)×Unit
abbrev q2ky:Type:=Int
def q2kz (r:q2ky):LV×List Ob:=(.int .i64 r,[])
def q2l0 (F:q2kx→Option q2ky):Go.Tx.Spec:=⟨83,q2kw,q2ky,F,q2kz⟩
abbrev q2l1:Type:=(q2kd→Option q2ke)×Unit
def q2l2 (d:Nat):q2l1:=(q2ku d,())
def q2l3 (C:q2l1):List Go.Tx.Spec:=[q2kg C.1]
abbrev q2l4:Type:=List Diii×Di
def q2l5 (v:q2l4):St:=⟨[(0,.fz Riii v.1),(1,.fn 82 [.fp Ri v.2 0])],[]⟩
def q2l6 (C:q2l1) (v:q2l4):Dt q2l4:=(Dt.ret (v.1,v.2))
abbrev q409 {V Y:Type}:=@rg q2l1 V Y tysT (fun C=>(orc (q2l3 C))) 19
theorem q2l7 C v:q409 (regO (qct f83) 0) false [(0,(.val Riii)),(1,.any)] q2l5 q2l6 q2l5 C v:=rgI (by kernel_rfl)
abbrev q2l8:Type:=List Diii×Di×Int×Int
def q2l9 (v:q2l8):St:=⟨[(0,.fz Riii v.1),(1,.fn 82 [.fp Ri v.2.1 0]),(7,i6 v.2.2.1),(8,i6 v.2.2.2)],[]⟩
def q2la (C:q2l1) (v:q2l4):Dt q2l8:=(Dt.ret (v.1,v.2,(List.length v.1:Int),(0:Int)))
theorem q2lb C v:q409 (regO (qct f83) 1) false [(0,(.val Riii)),(1,.any),(7,.any),(8,.any)] q2l5 q2la q2l9 C v:=rgI (by kernel_rfl)
abbrev q2lc:Type:=List Diii×Di×Int×Int×Bool
def q2ld (v:q2lc):St:=⟨[(0,.fz Riii v.1),(1,.fn 82 [.fp Ri v.2.1 0]),(7,i6 v.2.2.1),(8,i6 v.2.2.2.1),(9,.bool v.2.2.2.2)],[]⟩
def q2le (C:q2l1) (v:q2l8):Dt q2lc:=(Dt.ret (v.1,v.2.1,v.2.2.1,v.2.2.2,(decide (v.2.2.2<v.2.2.1))))
theorem q2lf C v:q409 (regO (qct f83) 2) false [(0,(.val Riii)),(1,.any),(7,.any),(8,.any),(9,.any)] q2l9 q2le q2ld C v:=rgI (by kernel_rfl)
abbrev q2lg:Type:=List Diii×Di×Int×Int×Int
def q2lh (v:q2lg):St:=⟨[(0,.fz Riii v.1),(1,.fn 82 [.fp Ri v.2.1 0]),(5,i6 v.2.2.1),(7,i6 v.2.2.2.1),(8,i6 v.2.2.2.2)],[]⟩
def q2li (C:q2l1) (v:q2lc):Dt q2lg:=(Dt.ret (v.1,v.2.1,v.2.2.2.1,v.2.2.1,v.2.2.2.1))
theorem q2lj C v:q409 (regO (qct f83) 3) false [(0,(.val Riii)),(1,.any),(5,.any),(7,.any),(8,.any)] q2ld q2li q2lh C v:=rgI (by kernel_rfl)
abbrev q2lk:Type:=List Diii×Di×Int×Int×Int×Bool
def q2ll (v:q2lk):St:=⟨[(0,.fz Riii v.1),(1,.fn 82 [.fp Ri v.2.1 0]),(5,i6 v.2.2.1),(7,i6 v.2.2.2.1),(8,i6 v.2.2.2.2.1),(16,.bool v.2.2.2.2.2)],[]⟩
def q2lm (C:q2l1) (v:q2lg):Dt q2lk:=(Dt.ite (inB v.2.2.1 (List.length v.1)) (Dt.bnd (C.1 (((elt ziii v.1 (v.2.2.1).toNat).1,(elt ziii v.1 (v.2.2.1).toNat).2.1,(elt ziii v.1 (v.2.2.1).toNat).2.2.1,()),v.2.1,())) fun r1=>(Dt.ret (v.1,v.2.1,v.2.2.1,v.2.2.2.1,v.2.2.2.2,r1))) Dt.fail)
theorem q2ln C v:q409 (regO (qct f83) 4) false [(0,(.val Riii)),(1,.any),(5,.any),(7,.any),(8,.any),(16,.any)] q2lh q2lm q2ll C v:=rgI (by kernel_rfl)
abbrev q2lo:Type:=Int
def q2lp (v:q2lo):St:=⟨[(4,i6 v)],[]⟩
def q2lq (C:q2l1) (v:q2lk):Dt q2lo:=(Dt.ret v.2.2.1)
theorem q2lr C v:q409 (regO (qct f83) 5) false [(4,.any)] q2ll q2lq q2lp C v:=rgI (by kernel_rfl)
def q2ls (C:q2l1) (v:q2lk):Dt q2l8:=(Dt.ret (v.1,v.2.1,v.2.2.2.1,(IntKind.wrap .i64 (v.2.2.2.2.1+(1:Int)))))
theorem q2lt C v:q409 (regO (qct f83) 6) false [(0,(.val Riii)),(1,.any),(7,.any),(8,.any)] q2ll q2ls q2l9 C v:=rgI (by kernel_rfl)
def q2lu (C:q2l1) (v:q2lc):Dt q2lo:=(Dt.ret (-1:Int))
theorem q2lv C v:q409 (regO (qct f83) 7) false [(4,.any)] q2ld q2lu q2lp C v:=rgI (by kernel_rfl)
def q2lw (d:Nat) (self1:(List Diii×Di×Int×Int)→Option q2ky) (x1:List Diii×Di×Int×Int):Option q2ky :=
 (q2le (q2l2 d) x1).eval fun y2 =>
 bif y2.2.2.2.2 then ((q2li (q2l2 d) y2).eval fun y3 =>
 (q2lm (q2l2 d) y3).eval fun y4 =>
 bif y4.2.2.2.2.2 then ((q2lq (q2l2 d) y4).eval fun y5 =>
 some y5) else ((q2ls (q2l2 d) y4).eval fun y6 =>
 self1 y6)) else ((q2lu (q2l2 d) y2).eval fun y7 =>
 some y7)
def q2lx (d:Nat) (x:q2kx):Option q2ky :=
 (q2l6 (q2l2 d) (x.1.1,x.2.1.1)).eval fun y0 =>
 (q2la (q2l2 d) y0).eval fun y1 =>
 iter (q2lw d ) d y1
theorem q2ly (d:Nat):COK prog (q2l0 (q2lx d)):=by
 have hm:prog.follows .mixedOrders=true:=mixed
 have hT:=tys
 have hC0:OrcOK prog (orc (q2l3 (q2l2 d))):=qcn (by
  intro S hS
  simp only [q2l3,List.mem_cons,List.not_mem_nil,or_false] at hS
  subst hS;exact q2kv d)
 have hC:OrcOK prog (orc (q2l3 (q2l2 d))):=hC0
 refine q8c (c:=qct f83) (fn:=f83) hT (by kernel_rfl) (by kernel_rfl) (by decide) fun x r h w0 φ0 Q hend=>?_
 replace h:q2lx d x=some r:=h
 unfold q2lx at h
 show Run prog w0 φ0 19 (qct f83) ⟨[(0,.fz Riii x.1.1),(1,.fn 82 [.fp Ri x.2.1.1 0])],[]⟩ Q
 refine q3yo hm hT hC (q2l7 (q2l2 d) (x.1.1,x.2.1.1)) h fun y0 h=>?_
 refine q7w ?_
 refine q3yo hm hT hC (q2lb (q2l2 d) y0) h fun y1 h=>?_
 refine q7x ?_
 refine q82 (G:=iter (q2lw d )) (S:=(fun x1=>⟨[(0,.fz Riii x1.1),(1,.fn 82 [.fp Ri x1.2.1 0]),(7,i6 x1.2.2.1),(8,i6 x1.2.2.2)],[]⟩:List Diii×Di×Int×Int→St)) (fun _=>rfl) ?_ d _ h
 intro n1 x1 h K1 hn1
 replace h:q2lw d  (iter (q2lw d ) n1) x1=some r:=h
 generalize iter (q2lw d ) n1=self1 at h hn1
 unfold q2lw at h
 refine q3yo hm hT hC (q2lf (q2l2 d) x1) h fun y2 h=>?_
 refine q7w ?_
 refine q80 (v:=y2.2.2.2.2) (by kernel_rfl) h ?_ ?_
 ·
  intro h
  refine q7s (q7i (q7w (q7x ?_)))
  refine q3yo hm hT hC (q2lj (q2l2 d) y2) h fun y3 h=>?_
  refine q3yo hm hT hC (q2ln (q2l2 d) y3) h fun y4 h=>?_
  refine q80 (v:=y4.2.2.2.2.2) (by kernel_rfl) h ?_ ?_
  ·
   intro h
   refine q3yo hm hT hC (q2lr (q2l2 d) y4) h fun y5 h=>?_
   refine q7v (q7m (q7k (q7k (q7m (q7k ?_)))))
   cases h
   exact (hend _ (by kernel_rfl)).2
  ·
   intro h
   refine q7s (q7l (q7i ?_))
   refine q81 hm hT hC (q2lt (q2l2 d) y4) h ?_
   intro y6 h
   exact hn1 _ h
 ·
  intro h
  refine q7u (q7j (q7j (q7n (q7i ?_))))
  refine q3yo hm hT hC (q2lv (q2l2 d) y2) h fun y7 h=>?_
  refine q7v ?_
  cases h
  exact (hend _ (by kernel_rfl)).2
abbrev q2lz:List Pk:=[.row qj5 true,.row Rii true,.row Rii true]
abbrev q2m0:Type:=qj6×Dii×Dii×Unit
abbrev q2m1:Type:=Int×Int×Int×Int×Int
def q2m2 (r:q2m1):LV×List Ob:=(.tup [.agg [.int .i64 r.1,.int .i64 r.2.1],.agg [.int .i64 r.2.2.1,.int .i64 r.2.2.2.1],.int .i64 r.2.2.2.2],[])
def q2m3 (F:q2m0→Option q2m1):Go.Tx.Spec:=⟨34,q2lz,q2m1,F,q2m2⟩
abbrev q2m4:Type:=(q2ew→Option q2ex)×(q2c2→Option q2c3)×(q2hc→Option q2hd)×(q2kx→Option q2ky)×Unit
def q2m5 (d:Nat):q2m4:=(q2gb d,q2cz d,q2iv d,q2lx d,())
def q2m6 (C:q2m4):List Go.Tx.Spec:=[q2ez C.1,q2c5 C.2.1,q2hf C.2.2.1,q2l0 C.2.2.2.1]
abbrev q2m7:Type:=List Diii×Int×Int×Int×Int
def q2m8 (v:q2m7):St:=⟨[(0,.agg [.fz Riii v.1]),(1,.agg [i6 v.2.1,i6 v.2.2.1]),(2,.agg [i6 v.2.2.2.1,i6 v.2.2.2.2])],[]⟩
abbrev q2m9:Type:=List Diii×Int×Int×Int×Int×Int×Int×Int×Int
def q2ma (v:q2m9):St:=⟨[(3,.ptr 0 0),(4,.ptr 1 0),(5,.ptr 2 0),(6,.ptr 3 0),(7,.ptr 4 0)],[.cells [.fz Riii v.1],.cells [i6 v.2.1,i6 v.2.2.1],.cells [i6 v.2.2.2.1,i6 v.2.2.2.2.1],.cells [i6 v.2.2.2.2.2.1,i6 v.2.2.2.2.2.2.1],.cells [i6 v.2.2.2.2.2.2.2.1,i6 v.2.2.2.2.2.2.2.2]]⟩
def q2mb (C:q2m4) (v:q2m7):Dt q2m9:=(Dt.ret (v.1,v.2.1,v.2.2.1,v.2.2.2.1,v.2.2.2.2,(0:Int),(0:Int),(0:Int),(0:Int)))
abbrev q40a {V Y:Type}:=@rg q2m4 V Y tysT (fun C=>(orc (q2m6 C))) 56
theorem q2mc C v:q40a (regO (qct f34) 0) false [(3,(.box [.val Riii])),(4,.any),(5,.any),(6,.any),(7,.any)] q2m8 q2mb q2ma C v:=rgI (by kernel_rfl)
abbrev q2md:Type:=Int×List Diii×Int×Int×Int×Int×Int×Int×Int×Int
def q2me (v:q2md):St:=⟨[(3,.ptr 0 0),(4,.ptr 1 0),(5,.ptr 2 0),(6,.ptr 3 0),(7,.ptr 4 0),(9,i6 v.1)],[.cells [.fz Riii v.2.1],.cells [i6 v.2.2.1,i6 v.2.2.2.1],.cells [i6 v.2.2.2.2.1,i6 v.2.2.2.2.2.1],.cells [i6 v.2.2.2.2.2.2.1,i6 v.2.2.2.2.2.2.2.1],.cells [i6 v.2.2.2.2.2.2.2.2.1,i6 v.2.2.2.2.2.2.2.2.2]]⟩
def q2mf (C:q2m4) (v:q2m9):Dt q2md:=(Dt.bnd (C.2.1 ((v.1,()),(v.2.1,v.2.2.1,()),(v.2.2.2.1,v.2.2.2.2.1,()),())) fun r1=>(Dt.ret (r1,v.1,v.2.1,v.2.2.1,v.2.2.2.1,v.2.2.2.2.1,v.2.2.2.2.2.1,v.2.2.2.2.2.2.1,v.2.2.2.2.2.2.2.1,v.2.2.2.2.2.2.2.2)))
theorem q2mg C v:q40a (regO (qct f34) 1) false [(3,(.box [.val Riii])),(4,.any),(5,.any),(6,.any),(7,.any),(9,.any)] q2ma q2mf q2me C v:=rgI (by kernel_rfl)
abbrev q2mh:Type:=Int×Bool×List Diii×Int×Int×Int×Int×Int×Int×Int×Int
def q2mi (v:q2mh):St:=⟨[(3,.ptr 0 0),(4,.ptr 1 0),(5,.ptr 2 0),(6,.ptr 3 0),(7,.ptr 4 0),(9,i6 v.1),(21,.bool v.2.1)],[.cells [.fz Riii v.2.2.1],.cells [i6 v.2.2.2.1,i6 v.2.2.2.2.1],.cells [i6 v.2.2.2.2.2.1,i6 v.2.2.2.2.2.2.1],.cells [i6 v.2.2.2.2.2.2.2.1,i6 v.2.2.2.2.2.2.2.2.1],.cells [i6 v.2.2.2.2.2.2.2.2.2.1,i6 v.2.2.2.2.2.2.2.2.2.2]]⟩
def q2mj (C:q2m4) (v:q2md):Dt q2mh:=(Dt.ret (v.1,(v.1 != (0:Int)),v.2.1,v.2.2.1,v.2.2.2.1,v.2.2.2.2.1,v.2.2.2.2.2.1,v.2.2.2.2.2.2.1,v.2.2.2.2.2.2.2.1,v.2.2.2.2.2.2.2.2.1,v.2.2.2.2.2.2.2.2.2))
theorem q2mk C v:q40a (regO (qct f34) 2) false [(3,(.box [.val Riii])),(4,.any),(5,.any),(6,.any),(7,.any),(9,.any),(21,.any)] q2me q2mj q2mi C v:=rgI (by kernel_rfl)
abbrev q2ml:Type:=Int×Int×Int×Int×Int
def q2mm (v:q2ml):St:=⟨[(6,.ptr 0 0),(7,.ptr 1 0),(8,i6 v.1)],[.cells [i6 v.2.1,i6 v.2.2.1],.cells [i6 v.2.2.2.1,i6 v.2.2.2.2]]⟩
def q2mn (C:q2m4) (v:q2mh):Dt q2ml:=(Dt.ret (v.1,v.2.2.2.2.2.2.2.1,v.2.2.2.2.2.2.2.2.1,v.2.2.2.2.2.2.2.2.2.1,v.2.2.2.2.2.2.2.2.2.2))
theorem q2mo C v:q40a (regO (qct f34) 3) true (an [6,7,8]) q2mi q2mn q2mm C v:=rgI (by kernel_rfl)
abbrev q2mp:Type:=List Diii×Int×Int×Int×Int×Int×Int×Int×Int×Int
def q2mq (v:q2mp):St:=⟨[(3,.ptr 0 0),(4,.ptr 1 0),(5,.ptr 2 0),(6,.ptr 3 0),(7,.ptr 4 0),(10,.ptr 5 0)],[.cells [.fz Riii v.1],.cells [i6 v.2.1,i6 v.2.2.1],.cells [i6 v.2.2.2.1,i6 v.2.2.2.2.1],.cells [i6 v.2.2.2.2.2.1,i6 v.2.2.2.2.2.2.1],.cells [i6 v.2.2.2.2.2.2.2.1,i6 v.2.2.2.2.2.2.2.2.1],.cells [i6 v.2.2.2.2.2.2.2.2.2]]⟩
def q2mr (C:q2m4) (v:q2mh):Dt q2mp:=(Dt.ret (v.2.2.1,v.2.2.2.1,v.2.2.2.2.1,v.2.2.2.2.2.1,v.2.2.2.2.2.2.1,v.2.2.2.2.2.2.2.1,v.2.2.2.2.2.2.2.2.1,v.2.2.2.2.2.2.2.2.2.1,v.2.2.2.2.2.2.2.2.2.2,(0:Int)))
theorem q2ms C v:q40a (regO (qct f34) 4) false [(3,(.box [.val Riii])),(4,.any),(5,.any),(6,.any),(7,.any),(10,.any)] q2mi q2mr q2mq C v:=rgI (by kernel_rfl)
abbrev q2mt:Type:=List Diii×Int×Int×Int×Int×Int×Int×Int×Int×Int
def q2mu (v:q2mt):St:=⟨[(3,.ptr 0 0),(4,.ptr 1 0),(5,.ptr 2 0),(6,.ptr 3 0),(7,.ptr 4 0),(11,.ptr 5 0)],[.cells [.fz Riii v.1],.cells [i6 v.2.1,i6 v.2.2.1],.cells [i6 v.2.2.2.1,i6 v.2.2.2.2.1],.cells [i6 v.2.2.2.2.2.1,i6 v.2.2.2.2.2.2.1],.cells [i6 v.2.2.2.2.2.2.2.1,i6 v.2.2.2.2.2.2.2.2.1],.cells [.fn 82 [.ptr 6 0]],.cells [i6 v.2.2.2.2.2.2.2.2.2]]⟩
def q2mv (C:q2m4) (v:q2mp):Dt q2mt:=(Dt.ret (v.1,v.2.1,v.2.2.1,v.2.2.2.1,v.2.2.2.2.1,v.2.2.2.2.2.1,v.2.2.2.2.2.2.1,v.2.2.2.2.2.2.2.1,v.2.2.2.2.2.2.2.2.1,v.2.2.2.2.2.2.2.2.2))
theorem q2mw C v:q40a (regO (qct f34) 5) false [(3,(.box [.val Riii])),(4,.any),(5,.any),(6,.any),(7,.any),(11,.any)] q2mq q2mv q2mu C v:=rgI (by kernel_rfl)
abbrev q2mx:Type:=List Diii×Int×Int×Int×Int×Int×Int×Int×List Diii
def q2my (v:q2mx):St:=⟨[(3,.ptr 0 0),(5,.ptr 1 0),(6,.ptr 2 0),(7,.ptr 3 0),(11,.ptr 4 0),(12,.rs 6)],[.cells [.fz Riii v.1],.cells [i6 v.2.1,i6 v.2.2.1],.cells [i6 v.2.2.2.1,i6 v.2.2.2.2.1],.cells [i6 v.2.2.2.2.2.1,i6 v.2.2.2.2.2.2.1],.cells [.fn 82 [.ptr 5 0]],.cells [i6 v.2.2.2.2.2.2.2.1],.rows Riii v.2.2.2.2.2.2.2.2]⟩
def q2mz (C:q2m4) (v:q2mt):Dt q2mx:=(Dt.bnd (C.2.2.1 ((v.1,()),(v.2.1,v.2.2.1,()),(v.2.2.2.1,v.2.2.2.2.1,()),())) fun r1=>(Dt.ret (v.1,v.2.2.2.1,v.2.2.2.2.1,v.2.2.2.2.2.1,v.2.2.2.2.2.2.1,v.2.2.2.2.2.2.2.1,v.2.2.2.2.2.2.2.2.1,v.2.2.2.2.2.2.2.2.2,r1)))
theorem q2n0 C v:q40a (regO (qct f34) 6) false [(3,(.box [.val Riii])),(5,.any),(6,.any),(7,.any),(11,.any),(12,(.own Riii))] q2mu q2mz q2my C v:=rgI (by kernel_rfl)
abbrev q2n1:Type:=List Diii×Int×Int×Int×Int×Int×List Diii×Int×Int
def q2n2 (v:q2n1):St:=⟨[(3,.ptr 0 0),(6,.ptr 1 0),(7,.ptr 2 0),(11,.ptr 3 0),(12,.rs 5),(13,.ptr 6 0)],[.cells [.fz Riii v.1],.cells [i6 v.2.1,i6 v.2.2.1],.cells [i6 v.2.2.2.1,i6 v.2.2.2.2.1],.cells [.fn 82 [.ptr 4 0]],.cells [i6 v.2.2.2.2.2.1],.rows Riii v.2.2.2.2.2.2.1,.cells [i6 v.2.2.2.2.2.2.2.1,i6 v.2.2.2.2.2.2.2.2]]⟩
def q2n3 (C:q2m4) (v:q2mx):Dt q2n1:=(Dt.ret (v.1,v.2.2.2.1,v.2.2.2.2.1,v.2.2.2.2.2.1,v.2.2.2.2.2.2.1,v.2.2.2.2.2.2.2.1,v.2.2.2.2.2.2.2.2,v.2.1,v.2.2.1))
theorem q2n4 C v:q40a (regO (qct f34) 7) false [(3,(.box [.val Riii])),(6,.any),(7,.any),(11,.any),(12,(.own Riii)),(13,.any)] q2my q2n3 q2n2 C v:=rgI (by kernel_rfl)
abbrev q2n5:Type:=Int×List Diii×Int×Int×Int×Int×List Diii×Int×Int
def q2n6 (v:q2n5):St:=⟨[(3,.ptr 0 0),(6,.ptr 1 0),(7,.ptr 2 0),(12,.rs 3),(13,.ptr 4 0),(14,i6 v.1)],[.cells [.fz Riii v.2.1],.cells [i6 v.2.2.1,i6 v.2.2.2.1],.cells [i6 v.2.2.2.2.1,i6 v.2.2.2.2.2.1],.rows Riii v.2.2.2.2.2.2.1,.cells [i6 v.2.2.2.2.2.2.2.1,i6 v.2.2.2.2.2.2.2.2]]⟩
def q2n7 (C:q2m4) (v:q2n1):Dt q2n5:=(Dt.bnd (C.2.2.2.1 ((v.2.2.2.2.2.2.1,()),((v.2.2.2.2.2.1,()),()),())) fun r1=>(Dt.ret (r1,v.1,v.2.1,v.2.2.1,v.2.2.2.1,v.2.2.2.2.1,v.2.2.2.2.2.2.1,v.2.2.2.2.2.2.2.1,v.2.2.2.2.2.2.2.2)))
theorem q2n8 C v:q40a (regO (qct f34) 8) false [(3,(.box [.val Riii])),(6,.any),(7,.any),(12,(.own Riii)),(13,.any),(14,.any)] q2n2 q2n7 q2n6 C v:=rgI (by kernel_rfl)
abbrev q2n9:Type:=Int×Bool×List Diii×Int×Int×Int×Int×List Diii×Int×Int
def q2na (v:q2n9):St:=⟨[(3,.ptr 0 0),(6,.ptr 1 0),(7,.ptr 2 0),(12,.rs 3),(13,.ptr 4 0),(14,i6 v.1),(37,.bool v.2.1)],[.cells [.fz Riii v.2.2.1],.cells [i6 v.2.2.2.1,i6 v.2.2.2.2.1],.cells [i6 v.2.2.2.2.2.1,i6 v.2.2.2.2.2.2.1],.rows Riii v.2.2.2.2.2.2.2.1,.cells [i6 v.2.2.2.2.2.2.2.2.1,i6 v.2.2.2.2.2.2.2.2.2]]⟩
def q2nb (C:q2m4) (v:q2n5):Dt q2n9:=(Dt.ret (v.1,(decide (v.1≥(0:Int))),v.2.1,v.2.2.1,v.2.2.2.1,v.2.2.2.2.1,v.2.2.2.2.2.1,v.2.2.2.2.2.2.1,v.2.2.2.2.2.2.2.1,v.2.2.2.2.2.2.2.2))
theorem q2nc C v:q40a (regO (qct f34) 9) false [(3,(.box [.val Riii])),(6,.any),(7,.any),(12,(.own Riii)),(13,.any),(14,.any),(37,.any)] q2n6 q2nb q2na C v:=rgI (by kernel_rfl)
abbrev q2nd:Type:=List Diii×Int×Int×Int×Int×Int×Int
def q2ne (v:q2nd):St:=⟨[(3,.ptr 0 0),(6,.ptr 1 0),(7,.ptr 2 0),(13,.ptr 3 0)],[.cells [.fz Riii v.1],.cells [i6 v.2.1,i6 v.2.2.1],.cells [i6 v.2.2.2.1,i6 v.2.2.2.2.1],.cells [i6 v.2.2.2.2.2.1,i6 v.2.2.2.2.2.2]]⟩
def q2nf (C:q2m4) (v:q2n9):Dt q2nd:=(Dt.ite (inB v.1 (List.length v.2.2.2.2.2.2.2.1)) (Dt.ret (v.2.2.1,v.2.2.2.1,v.2.2.2.2.1,v.2.2.2.2.2.1,v.2.2.2.2.2.2.1,(elt ziii v.2.2.2.2.2.2.2.1 (v.1).toNat).1,(elt ziii v.2.2.2.2.2.2.2.1 (v.1).toNat).2.1)) Dt.fail)
theorem q2ng C v:q40a (regO (qct f34) 10) false [(3,(.box [.val Riii])),(6,.any),(7,.any),(13,.any)] q2na q2nf q2ne C v:=rgI (by kernel_rfl)
abbrev q2nh:Type:=Int×Int×Int×Int×Int×Int×Int×Int×Int
def q2ni (v:q2nh):St:=⟨[(6,.ptr 0 0),(7,.ptr 1 0),(8,i6 v.1),(13,.ptr 2 0),(15,.ptr 3 0)],[.cells [i6 v.2.1,i6 v.2.2.1],.cells [i6 v.2.2.2.1,i6 v.2.2.2.2.1],.cells [i6 v.2.2.2.2.2.1,i6 v.2.2.2.2.2.2.1],.cells [i6 v.2.2.2.2.2.2.2.1,i6 v.2.2.2.2.2.2.2.2]]⟩
def q2nj (C:q2m4) (v:q2nd):Dt q2nh:=(Dt.bnd (C.1 ((v.1,()),(v.2.2.2.2.2.1,v.2.2.2.2.2.2,()),())) fun r1=>(Dt.ret (r1.2.2,v.2.1,v.2.2.1,v.2.2.2.1,v.2.2.2.2.1,v.2.2.2.2.2.1,v.2.2.2.2.2.2,r1.1,r1.2.1)))
theorem q2nk C v:q40a (regO (qct f34) 11) false (an [6,7,8,13,15]) q2ne q2nj q2ni C v:=rgI (by kernel_rfl)
abbrev q2nl:Type:=Int×Bool×Int×Int×Int×Int×Int×Int×Int×Int
def q2nm (v:q2nl):St:=⟨[(6,.ptr 0 0),(7,.ptr 1 0),(8,i6 v.1),(13,.ptr 2 0),(15,.ptr 3 0),(50,.bool v.2.1)],[.cells [i6 v.2.2.1,i6 v.2.2.2.1],.cells [i6 v.2.2.2.2.1,i6 v.2.2.2.2.2.1],.cells [i6 v.2.2.2.2.2.2.1,i6 v.2.2.2.2.2.2.2.1],.cells [i6 v.2.2.2.2.2.2.2.2.1,i6 v.2.2.2.2.2.2.2.2.2]]⟩
def q2nn (C:q2m4) (v:q2nh):Dt q2nl:=(Dt.ret (v.1,(v.1 != (0:Int)),v.2.1,v.2.2.1,v.2.2.2.1,v.2.2.2.2.1,v.2.2.2.2.2.1,v.2.2.2.2.2.2.1,v.2.2.2.2.2.2.2.1,v.2.2.2.2.2.2.2.2))
theorem q2no C v:q40a (regO (qct f34) 12) false (an [6,7,8,13,15,50]) q2ni q2nn q2nm C v:=rgI (by kernel_rfl)
def q2np (C:q2m4) (v:q2nl):Dt q2ml:=(Dt.ret (v.1,v.2.2.1,v.2.2.2.1,v.2.2.2.2.1,v.2.2.2.2.2.1))
theorem q2nq C v:q40a (regO (qct f34) 13) true (an [6,7,8]) q2nm q2np q2mm C v:=rgI (by kernel_rfl)
def q2nr (C:q2m4) (v:q2nl):Dt q2ml:=(Dt.ret ((0:Int),v.2.2.2.2.2.2.1,v.2.2.2.2.2.2.2.1,v.2.2.2.2.2.2.2.2.1,v.2.2.2.2.2.2.2.2.2))
theorem q2ns C v:q40a (regO (qct f34) 14) true (an [6,7,8]) q2nm q2nr q2mm C v:=rgI (by kernel_rfl)
def q2nt  (d:Nat)  (z:List Diii×Int×Int×Int×Int×Int×Int):Option (q2m1) :=
 (q2nj (q2m5 d) z).eval fun y11 =>
 (q2nn (q2m5 d) y11).eval fun y12 =>
 bif y12.2.1 then ((q2np (q2m5 d) y12).eval fun y13 =>
 some (y13.2.1,y13.2.2.1,y13.2.2.2.1,y13.2.2.2.2,y13.1)) else ((q2nr (q2m5 d) y12).eval fun y14 =>
 some (y14.2.1,y14.2.2.1,y14.2.2.2.1,y14.2.2.2.2,y14.1))
def q2nu (d:Nat) (x:q2m0):Option q2m1 :=
 (q2mb (q2m5 d) (x.1.1,x.2.1.1,x.2.1.2.1,x.2.2.1.1,x.2.2.1.2.1)).eval fun y0 =>
 (q2mf (q2m5 d) y0).eval fun y1 =>
 (q2mj (q2m5 d) y1).eval fun y2 =>
 bif y2.2.1 then ((q2mn (q2m5 d) y2).eval fun y3 =>
 some (y3.2.1,y3.2.2.1,y3.2.2.2.1,y3.2.2.2.2,y3.1)) else ((q2mr (q2m5 d) y2).eval fun y4 =>
 (q2mv (q2m5 d) y4).eval fun y5 =>
 (q2mz (q2m5 d) y5).eval fun y6 =>
 (q2n3 (q2m5 d) y6).eval fun y7 =>
 (q2n7 (q2m5 d) y7).eval fun y8 =>
 (q2nb (q2m5 d) y8).eval fun y9 =>
 bif y9.2.1 then ((q2nf (q2m5 d) y9).eval fun y10 =>
 q2nt d  y10) else (q2nt d  (y9.2.2.1,y9.2.2.2.1,y9.2.2.2.2.1,y9.2.2.2.2.2.1,y9.2.2.2.2.2.2.1,y9.2.2.2.2.2.2.2.2.1,y9.2.2.2.2.2.2.2.2.2)))
theorem q2nv (d:Nat):COK prog (q2m3 (q2nu d)):=by
 have hm:prog.follows .mixedOrders=true:=mixed
 have hT:=tys
 have hC0:OrcOK prog (orc (q2m6 (q2m5 d))):=qcn (by
  intro S hS
  simp only [q2m6,List.mem_cons,List.not_mem_nil,or_false] at hS
  rcases hS with rfl | rfl | rfl | rfl
  · exact q2gc d
  · exact q2d0 d
  · exact q2iw d
  · exact q2ly d)
 have hC:OrcOK prog (orc (q2m6 (q2m5 d))):=hC0
 refine q8c (c:=qct f34) (fn:=f34) hT (by kernel_rfl) (by kernel_rfl) (by decide) fun x r h w0 φ0 Q hend=>?_
 replace h:q2nu d x=some r:=h
 unfold q2nu at h
 show Run prog w0 φ0 56 (qct f34) ⟨[(0,.agg [.fz Riii x.1.1]),(1,.agg [.int .i64 x.2.1.1,.int .i64 x.2.1.2.1]),(2,.agg [.int .i64 x.2.2.1.1,.int .i64 x.2.2.1.2.1])],[]⟩ Q
 refine q3yo hm hT hC (q2mc (q2m5 d) (x.1.1,x.2.1.1,x.2.1.2.1,x.2.2.1.1,x.2.2.1.2.1)) h fun y0 h=>?_
 refine q7w ?_
 refine q3yo hm hT hC (q2mg (q2m5 d) y0) h fun y1 h=>?_
 refine q3yo hm hT hC (q2mk (q2m5 d) y1) h fun y2 h=>?_
 refine q80 (v:=y2.2.1) (by kernel_rfl) h ?_ ?_
 ·
  intro h
  refine q3yo hm hT hC (q2mo (q2m5 d) y2) h fun y3 h=>?_
  refine q7v (q7k ?_)
  cases h
  exact (hend _ (by kernel_rfl)).2
 ·
  intro h
  refine q7s (q7i ?_)
  refine q3yo hm hT hC (q2ms (q2m5 d) y2) h fun y4 h=>?_
  refine q3yo hm hT hC (q2mw (q2m5 d) y4) h fun y5 h=>?_
  refine q3yo hm hT hC (q2n0 (q2m5 d) y5) h fun y6 h=>?_
  refine q3yo hm hT hC (q2n4 (q2m5 d) y6) h fun y7 h=>?_
  refine q7z (r:=r) (F:=q2nt d ) (S:=(fun z=>⟨[(3,.ptr 0 0),(6,.ptr 1 0),(7,.ptr 2 0),(13,.ptr 3 0)],[.cells [.fz Riii z.1],.cells [i6 z.2.1,i6 z.2.2.1],.cells [i6 z.2.2.2.1,i6 z.2.2.2.2.1],.cells [i6 z.2.2.2.2.2.1,i6 z.2.2.2.2.2.2]]⟩:List Diii×Int×Int×Int×Int×Int×Int→St)) ?_ ?_
  ·
   intro z h
   unfold q2nt at h
   refine q3yo hm hT hC (q2nk (q2m5 d) z) h fun y11 h=>?_
   refine q7w ?_
   refine q3yo hm hT hC (q2no (q2m5 d) y11) h fun y12 h=>?_
   refine q80 (v:=y12.2.1) (by kernel_rfl) h ?_ ?_
   ·
    intro h
    refine q3yo hm hT hC (q2nq (q2m5 d) y12) h fun y13 h=>?_
    refine q7v (q7k ?_)
    cases h
    exact (hend _ (by kernel_rfl)).2
   ·
    intro h
    refine q7s (q7i ?_)
    refine q3yo hm hT hC (q2ns (q2m5 d) y12) h fun y14 h=>?_
    refine q7v ?_
    cases h
    exact (hend _ (by kernel_rfl)).2
  intro hj1
  refine q3yo hm hT hC (q2n8 (q2m5 d) y7) h fun y8 h=>?_
  refine q3yo hm hT hC (q2nc (q2m5 d) y8) h fun y9 h=>?_
  refine q80 (v:=y9.2.1) (by kernel_rfl) h ?_ ?_
  ·
   intro h
   refine q81 hm hT hC (q2ng (q2m5 d) y9) h ?_
   intro y10 h
   exact hj1 _ h
  ·
   intro h
   refine q7s ?_
   refine qcs (s:=⟨[(3,.ptr 0 0),(6,.ptr 1 0),(7,.ptr 2 0),(13,.ptr 3 0)],[.cells [.fz Riii y9.2.2.1],.cells [.int .i64 y9.2.2.2.1,.int .i64 y9.2.2.2.2.1],.cells [.int .i64 y9.2.2.2.2.2.1,.int .i64 y9.2.2.2.2.2.2.1],.cells [.int .i64 y9.2.2.2.2.2.2.2.2.1,.int .i64 y9.2.2.2.2.2.2.2.2.2]]⟩) [12,14,37] (by kernel_rfl) ?_
   exact hj1 _ h
end Go.Proofs.YtpfhgnccpiildaaGreat
