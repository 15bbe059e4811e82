/- Walks of the references; the orders agree; examples. -/
import Derived.Test.YtpfhgnccpiildaaGreatGf
set_option linter.unusedSimpArgs false
set_option linter.unusedVariables false
namespace Go.Proofs.YtpfhgnccpiildaaGreat
open Go Go.Tx Go.Proofs.Tryz
set_option maxRecDepth 100000
set_option maxHeartbeats 0
abbrev q26k:List Pk:=[]
abbrev q26l:Type:=Unit
abbrev q26m:Type:=List Diii
def q26n (r:q26m):LV×List Ob:=(.agg [.rs 0],[.rows Riii r])
def q26o (F:q26l→Option q26m):Go.Tx.Spec:=⟨50,q26k,q26m,F,q26n⟩
abbrev q26p:Type:=Unit
def q26q (_d:Nat):q26p:=()
def q26r (C:q26p):List Go.Tx.Spec:=[]
abbrev q26s:Type:=Unit
def q26t (v:q26s):St:=⟨[],[]⟩
abbrev q26u:Type:=List Diii
def q26v (v:q26u):St:=⟨[(0,.ptr 0 0)],[.cells [.rs 1],.rows Riii v]⟩
def q26w (C:q26p) (v:q26s):Dt q26u:=(Dt.ret ([]:List Diii))
abbrev q3g9 {V Y:Type}:=@rg q26p V Y tysT (fun C=>(orc (q26r C))) 2
theorem q26x C v:q3g9 (regO (qct f50) 0) false [(0,(.box [.own Riii]))] q26t q26w q26v C v:=rgI (by kernel_rfl)
def q26y (C:q26p) (v:q26u):Dt q26u:=(Dt.ret ([]:List Diii))
theorem q26z C v:q3g9 (regO (qct f50) 1) false [(0,(.box [.own Riii]))] q26v q26y q26v C v:=rgI (by kernel_rfl)
def q270 (d:Nat) (x:q26l):Option q26m :=
 (q26w (q26q d) ()).eval fun y0 =>
 (q26y (q26q d) y0).eval fun y1 =>
 some y1
theorem q271 (d:Nat):COK prog (q26o (q270 d)):=by
 have hm:prog.follows .mixedOrders=true:=mixed
 have hT:=tys
 have hC0:OrcOK prog (orc (q26r (q26q d))):=qcn (by
  intro S hS
  simp only [q26r,List.mem_cons,List.not_mem_nil,or_false] at hS
  all_goals first | cases hS | exact hS.elim)
 have hC:OrcOK prog (orc (q26r (q26q d))):=hC0
 refine q8c (c:=qct f50) (fn:=f50) hT (by kernel_rfl) (by kernel_rfl) (by decide) fun x r h w0 φ0 Q hend=>?_
 replace h:q270 d x=some r:=h
 unfold q270 at h
 show Run prog w0 φ0 2 (qct f50) ⟨[],[]⟩ Q
 refine q3f2 hm hT hC (q26x (q26q d) ()) h fun y0 h=>?_
 refine q3f2 hm hT hC (q26z (q26q d) y0) h fun y1 h=>?_
 refine q7v ?_
 cases h
 exact (hend _ (by kernel_rfl)).2
abbrev q272:List Pk:=[.row Rii true,.row Rii true]
abbrev q273:Type:=Dii×Dii×Unit
abbrev q274:Type:=Int×Int×Int
def q275 (r:q274):LV×List Ob:=(.tup [.agg [.int .i64 r.1,.int .i64 r.2.1],.int .i64 r.2.2],[])
def q276 (F:q273→Option q274):Go.Tx.Spec:=⟨63,q272,q274,F,q275⟩
abbrev q277:Type:=(qxx→Option qxy)×(q1it→Option q1iu)×(q117→Option q118)×(qm8→Option qm9)×(q1ln→Option q1lo)×(q10j→Option q10k)×Unit
def q278 (d:Nat):q277:=(qye d,q1jf d,q11s d,qmd d,q1mn d,q114 d,())
def q279 (C:q277):List Go.Tx.Spec:=[qy0 C.1,q1iw C.2.1,q11a C.2.2.1,qmb C.2.2.2.1,q1lq C.2.2.2.2.1,q10m C.2.2.2.2.2.1]
abbrev q27a:Type:=Int×Int×Int×Int
def q27b (v:q27a):St:=⟨[(0,.agg [i6 v.1,i6 v.2.1]),(1,.agg [i6 v.2.2.1,i6 v.2.2.2])],[]⟩
abbrev q27c:Type:=Int×Int×Int×Int×Int×Int
def q27d (v:q27c):St:=⟨[(2,.ptr 0 0),(3,.ptr 1 0),(4,.ptr 2 0)],[.cells [i6 v.1,i6 v.2.1],.cells [i6 v.2.2.1,i6 v.2.2.2.1],.cells [i6 v.2.2.2.2.1,i6 v.2.2.2.2.2]]⟩
def q27e (C:q277) (v:q27a):Dt q27c:=(Dt.ret (v.1,v.2.1,v.2.2.1,v.2.2.2,(0:Int),(0:Int)))
abbrev q3ga {V Y:Type}:=@rg q277 V Y tysT (fun C=>(orc (q279 C))) 62
theorem q27f C v:q3ga (regO (qct f63) 0) false (an [2,3,4]) q27b q27e q27d C v:=rgI (by kernel_rfl)
abbrev q27g:Type:=Int×Int×Int×Int×Int×Int×Int
def q27h (v:q27g):St:=⟨[(2,.ptr 0 0),(3,.ptr 1 0),(4,.ptr 2 0),(6,i6 v.1)],[.cells [i6 v.2.1,i6 v.2.2.1],.cells [i6 v.2.2.2.1,i6 v.2.2.2.2.1],.cells [i6 v.2.2.2.2.2.1,i6 v.2.2.2.2.2.2]]⟩
def q27i (C:q277) (v:q27c):Dt q27g:=(Dt.bnd (C.1 ((v.1,v.2.1,()),(v.2.2.1,v.2.2.2.1,()),())) fun r1=>(Dt.ret (r1,v.1,v.2.1,v.2.2.1,v.2.2.2.1,v.2.2.2.2.1,v.2.2.2.2.2)))
theorem q27j C v:q3ga (regO (qct f63) 1) false (an [2,3,4,6]) q27d q27i q27h C v:=rgI (by kernel_rfl)
abbrev q27k:Type:=Int×Bool×Int×Int×Int×Int×Int×Int
def q27l (v:q27k):St:=⟨[(2,.ptr 0 0),(3,.ptr 1 0),(4,.ptr 2 0),(6,i6 v.1),(15,.bool v.2.1)],[.cells [i6 v.2.2.1,i6 v.2.2.2.1],.cells [i6 v.2.2.2.2.1,i6 v.2.2.2.2.2.1],.cells [i6 v.2.2.2.2.2.2.1,i6 v.2.2.2.2.2.2.2]]⟩
def q27m (C:q277) (v:q27g):Dt q27k:=(Dt.ret (v.1,(v.1 != (0:Int)),v.2.1,v.2.2.1,v.2.2.2.1,v.2.2.2.2.1,v.2.2.2.2.2.1,v.2.2.2.2.2.2))
theorem q27n C v:q3ga (regO (qct f63) 2) false (an [2,3,4,6,15]) q27h q27m q27l C v:=rgI (by kernel_rfl)
abbrev q27o:Type:=Int×Int×Int
def q27p (v:q27o):St:=⟨[(4,.ptr 0 0),(5,i6 v.1)],[.cells [i6 v.2.1,i6 v.2.2]]⟩
def q27q (C:q277) (v:q27k):Dt q27o:=(Dt.ret (v.1,(0:Int),(0:Int)))
theorem q27r C v:q3ga (regO (qct f63) 3) false (an [4,5]) q27l q27q q27p C v:=rgI (by kernel_rfl)
abbrev q27s:Type:=Int×Int×Int×Int×Int×Int×Int×Int
def q27t (v:q27s):St:=⟨[(2,.ptr 0 0),(3,.ptr 1 0),(4,.ptr 2 0),(7,i6 v.1),(8,i6 v.2.1)],[.cells [i6 v.2.2.1,i6 v.2.2.2.1],.cells [i6 v.2.2.2.2.1,i6 v.2.2.2.2.2.1],.cells [i6 v.2.2.2.2.2.2.1,i6 v.2.2.2.2.2.2.2]]⟩
def q27u (C:q277) (v:q27k):Dt q27s:=(Dt.bnd (C.2.2.2.2.2.1 ((v.2.2.1,()),())) fun r1=>(Dt.bnd (C.2.1 (((IntKind.wrap .u64 v.2.2.2.2.2.1),()),(r1,()),())) fun r2=>(Dt.bnd (C.2.2.2.2.2.1 ((v.2.2.2.2.1,()),())) fun r3=>(Dt.bnd (C.2.1 (((IntKind.wrap .u64 v.2.2.2.1),()),(r3,()),())) fun r4=>(Dt.ret ((IntKind.wrap .i64 r2),(IntKind.wrap .i64 r4),v.2.2.1,v.2.2.2.1,v.2.2.2.2.1,v.2.2.2.2.2.1,v.2.2.2.2.2.2.1,v.2.2.2.2.2.2.2))))))
theorem q27v C v:q3ga (regO (qct f63) 4) true (an [2,3,4,7,8]) q27l q27u q27t C v:=rgI (by kernel_rfl)
abbrev q27w:Type:=Int×Int×Int×Int×Int×Int×Int×Int×Int×Int
def q27x (v:q27w):St:=⟨[(2,.ptr 0 0),(3,.ptr 1 0),(4,.ptr 2 0),(7,i6 v.1),(8,i6 v.2.1),(9,u6 v.2.2.1),(10,u6 v.2.2.2.1)],[.cells [i6 v.2.2.2.2.1,i6 v.2.2.2.2.2.1],.cells [i6 v.2.2.2.2.2.2.1,i6 v.2.2.2.2.2.2.2.1],.cells [i6 v.2.2.2.2.2.2.2.2.1,i6 v.2.2.2.2.2.2.2.2.2]]⟩
def q27y (C:q277) (v:q27s):Dt q27w:=(Dt.ite (v.2.1 == (0:Int)) Dt.fail (Dt.ite (v.1 == (0:Int)) Dt.fail (Dt.bnd (C.2.2.2.1 (((IntKind.wrap .u64 (IntKind.wrap .i64 (Int.tdiv v.2.2.2.1 v.2.1))),()),((IntKind.wrap .u64 (IntKind.wrap .i64 (Int.tdiv v.2.2.2.2.2.1 v.1))),()),())) fun r1=>(Dt.ret (v.1,v.2.1,r1.1,r1.2,v.2.2.1,v.2.2.2.1,v.2.2.2.2.1,v.2.2.2.2.2.1,v.2.2.2.2.2.2.1,v.2.2.2.2.2.2.2)))))
theorem q27z C v:q3ga (regO (qct f63) 5) true (an [2,3,4,7,8,9,10]) q27t q27y q27x C v:=rgI (by kernel_rfl)
def q280 (C:q277) (v:q27w):Dt q27o:=(Dt.ite (v.1 == (0:Int)) Dt.fail (Dt.ite (v.2.1 == (0:Int)) Dt.fail (Dt.bnd (C.2.2.1 (((IntKind.wrap .i64 (Int.tdiv v.2.2.2.2.1 v.1)),()),((IntKind.wrap .i64 (Int.tdiv v.2.2.2.2.2.2.1 v.2.1)),()),())) fun r1=>(Dt.bnd (C.2.2.2.2.1 ((r1.1,r1.2.1,r1.2.2,()),(v.2.2.1,()),(v.2.2.2.1,()),())) fun r2=>(Dt.ret (r2.2.2,r2.1,r2.2.1))))))
theorem q281 C v:q3ga (regO (qct f63) 6) true (an [4,5]) q27x q280 q27p C v:=rgI (by kernel_rfl)
def q282 (d:Nat) (x:q273):Option q274 :=
 (q27e (q278 d) (x.1.1,x.1.2.1,x.2.1.1,x.2.1.2.1)).eval fun y0 =>
 (q27i (q278 d) y0).eval fun y1 =>
 (q27m (q278 d) y1).eval fun y2 =>
 bif y2.2.1 then ((q27q (q278 d) y2).eval fun y3 =>
 some (y3.2.1,y3.2.2,y3.1)) else ((q27u (q278 d) y2).eval fun y4 =>
 (q27y (q278 d) y4).eval fun y5 =>
 (q280 (q278 d) y5).eval fun y6 =>
 some (y6.2.1,y6.2.2,y6.1))
theorem q283 (d:Nat):COK prog (q276 (q282 d)):=by
 have hm:prog.follows .mixedOrders=true:=mixed
 have hT:=tys
 have hC0:OrcOK prog (orc (q279 (q278 d))):=qcn (by
  intro S hS
  simp only [q279,List.mem_cons,List.not_mem_nil,or_false] at hS
  rcases hS with rfl | rfl | rfl | rfl | rfl | rfl
  · exact qyf d
  · exact q1jg d
  · exact q11t d
  · exact qmf d
  · exact q1mo d
  · exact q115 d)
 have hC:OrcOK prog (orc (q279 (q278 d))):=hC0
 refine q8c (c:=qct f63) (fn:=f63) hT (by kernel_rfl) (by kernel_rfl) (by decide) fun x r h w0 φ0 Q hend=>?_
 replace h:q282 d x=some r:=h
 unfold q282 at h
 show Run prog w0 φ0 62 (qct f63) ⟨[(0,.agg [.int .i64 x.1.1,.int .i64 x.1.2.1]),(1,.agg [.int .i64 x.2.1.1,.int .i64 x.2.1.2.1])],[]⟩ Q
 refine q3f2 hm hT hC (q27f (q278 d) (x.1.1,x.1.2.1,x.2.1.1,x.2.1.2.1)) h fun y0 h=>?_
 refine q7w ?_
 refine q3f2 hm hT hC (q27j (q278 d) y0) h fun y1 h=>?_
 refine q3f2 hm hT hC (q27n (q278 d) y1) h fun y2 h=>?_
 refine q80 (v:=y2.2.1) (by kernel_rfl) h ?_ ?_
 ·
  intro h
  refine q3f2 hm hT hC (q27r (q278 d) y2) h fun y3 h=>?_
  refine q7v (q7k ?_)
  cases h
  exact (hend _ (by kernel_rfl)).2
 ·
  intro h
  refine q7s (q7i ?_)
  refine q3f2 hm hT hC (q27v (q278 d) y2) h fun y4 h=>?_
  refine q3f2 hm hT hC (q27z (q278 d) y4) h fun y5 h=>?_
  refine q3f2 hm hT hC (q281 (q278 d) y5) h fun y6 h=>?_
  refine q7v ?_
  cases h
  exact (hend _ (by kernel_rfl)).2
abbrev q284:List Pk:=[.row qj5 true]
abbrev q285:Type:=qj6×Unit
abbrev q286:Type:=List qj9
def q287 (r:q286):LV×List Ob:=(.rs 0,[.rows qj8 r])
def q288 (F:q285→Option q286):Go.Tx.Spec:=⟨54,q284,q286,F,q287⟩
abbrev q289:Type:=(q18h→Option q18i)×(qwx→Option qwy)×(q1ca→Option q1cb)×Unit
def q28a (d:Nat):q289:=(q18y d,qxu d,q1cr d,())
def q28b (C:q289):List Go.Tx.Spec:=[q18k C.1,qx0 C.2.1,q1cd C.2.2.1]
abbrev q28c:Type:=List Diii
def q28d (v:q28c):St:=⟨[(0,.agg [.fz Riii v])],[]⟩
abbrev q28e:Type:=List Diii
def q28f (v:q28e):St:=⟨[(1,.ptr 0 0)],[.cells [.fz Riii v]]⟩
def q28g (C:q289) (v:q28c):Dt q28e:=(Dt.ret v)
abbrev q3gb {V Y:Type}:=@rg q289 V Y tysT (fun C=>(orcS 112 113 qj8 C.2.2.1 (orc (q28b C)))) 32
theorem q28h C v:q3gb (regO (qct f54) 0) false [(1,(.box [.val Riii]))] q28d q28g q28f C v:=rgI (by kernel_rfl)
abbrev q28i:Type:=List Diii×List qj9
def q28j (v:q28i):St:=⟨[(1,.ptr 0 0),(3,.ptr 1 0)],[.cells [.fz Riii v.1],.cells [.rs 2],.rows qj8 v.2]⟩
def q28k (C:q289) (v:q28e):Dt q28i:=(Dt.ret (v,([]:List qj9)))
theorem q28l C v:q3gb (regO (qct f54) 1) false [(1,(.box [.val Riii])),(3,(.box [.own qj8]))] q28f q28k q28j C v:=rgI (by kernel_rfl)
abbrev q28m:Type:=List qj9×List Diii
def q28n (v:q28m):St:=⟨[(3,.ptr 0 0),(9,.fn 147 [.ptr 2 0])],[.cells [.rs 1],.rows qj8 v.1,.cells [.fz Riii v.2]]⟩
def q28o (C:q289) (v:q28i):Dt q28m:=(Dt.bnd (C.1 ((v.1,()),())) fun r1=>(Dt.ret (v.2,r1)))
theorem q28p C v:q3gb (regO (qct f54) 2) false [(3,(.box [.own qj8])),(9,.any)] q28j q28o q28n C v:=rgI (by kernel_rfl)
abbrev q28q:Type:=Int×Int×Int×Int×Int×Int×List qj9
def q28r (v:q28q):St:=⟨[(10,.agg [i6 v.1,i6 v.2.1,i6 v.2.2.1]),(11,.agg [i6 v.2.2.2.1,i6 v.2.2.2.2.1,i6 v.2.2.2.2.2.1]),(3,.ptr 0 0)],[.cells [.rs 1],.rows qj8 v.2.2.2.2.2.2]⟩
abbrev q28s:Type:=Int×Int×Int×List qj9×Int×Int×Int
def q28t (v:q28s):St:=⟨[(3,.ptr 0 0),(4,.ptr 2 0),(11,.agg [i6 v.1,i6 v.2.1,i6 v.2.2.1])],[.cells [.rs 1],.rows qj8 v.2.2.2.1,.cells [i6 v.2.2.2.2.1,i6 v.2.2.2.2.2.1,i6 v.2.2.2.2.2.2]]⟩
def q28u (C:q289) (v:q28q):Dt q28s:=(Dt.ret (v.2.2.2.1,v.2.2.2.2.1,v.2.2.2.2.2.1,v.2.2.2.2.2.2,v.1,v.2.1,v.2.2.1))
theorem q28v C v:q3gb (regO (qct f54) 3) false [(3,(.box [.own qj8])),(4,.any),(11,.any)] q28r q28u q28t C v:=rgI (by kernel_rfl)
abbrev q28w:Type:=List qj9×Int×Int×Int×Int×Int×Int
def q28x (v:q28w):St:=⟨[(3,.ptr 0 0),(4,.ptr 2 0),(5,.ptr 3 0)],[.cells [.rs 1],.rows qj8 v.1,.cells [i6 v.2.1,i6 v.2.2.1,i6 v.2.2.2.1],.cells [i6 v.2.2.2.2.1,i6 v.2.2.2.2.2.1,i6 v.2.2.2.2.2.2]]⟩
def q28y (C:q289) (v:q28s):Dt q28w:=(Dt.ret (v.2.2.2.1,v.2.2.2.2.1,v.2.2.2.2.2.1,v.2.2.2.2.2.2,v.1,v.2.1,v.2.2.1))
theorem q28z C v:q3gb (regO (qct f54) 4) false [(3,(.box [.own qj8])),(4,.any),(5,.any)] q28t q28y q28x C v:=rgI (by kernel_rfl)
abbrev q290:Type:=Int×List qj9×Int×Int×Int×Int×Int×Int×Int×Int
def q291 (v:q290):St:=⟨[(3,.ptr 0 0),(4,.ptr 2 0),(5,.ptr 3 0),(6,.ptr 4 0),(7,i6 v.1)],[.cells [.rs 1],.rows qj8 v.2.1,.cells [i6 v.2.2.1,i6 v.2.2.2.1,i6 v.2.2.2.2.1],.cells [i6 v.2.2.2.2.2.1,i6 v.2.2.2.2.2.2.1,i6 v.2.2.2.2.2.2.2.1],.cells [i6 v.2.2.2.2.2.2.2.2.1,i6 v.2.2.2.2.2.2.2.2.2]]⟩
def q292 (C:q289) (v:q28w):Dt q290:=(Dt.bnd (C.2.1 ((v.2.1,v.2.2.1,v.2.2.2.1,()),(v.2.2.2.2.1,v.2.2.2.2.2.1,v.2.2.2.2.2.2,()),())) fun r1=>(Dt.ret (r1.2.2,v.1,v.2.1,v.2.2.1,v.2.2.2.1,v.2.2.2.2.1,v.2.2.2.2.2.1,v.2.2.2.2.2.2,r1.1,r1.2.1)))
theorem q293 C v:q3gb (regO (qct f54) 5) false [(3,(.box [.own qj8])),(4,.any),(5,.any),(6,.any),(7,.any)] q28x q292 q291 C v:=rgI (by kernel_rfl)
abbrev q294:Type:=Bool×List qj9×Int×Int×Int×Int×Int×Int×Int×Int
def q295 (v:q294):St:=⟨[(3,.ptr 0 0),(4,.ptr 2 0),(5,.ptr 3 0),(6,.ptr 4 0),(19,.bool v.1)],[.cells [.rs 1],.rows qj8 v.2.1,.cells [i6 v.2.2.1,i6 v.2.2.2.1,i6 v.2.2.2.2.1],.cells [i6 v.2.2.2.2.2.1,i6 v.2.2.2.2.2.2.1,i6 v.2.2.2.2.2.2.2.1],.cells [i6 v.2.2.2.2.2.2.2.2.1,i6 v.2.2.2.2.2.2.2.2.2]]⟩
def q296 (C:q289) (v:q290):Dt q294:=(Dt.ret ((v.1 == (0:Int)),v.2.1,v.2.2.1,v.2.2.2.1,v.2.2.2.2.1,v.2.2.2.2.2.1,v.2.2.2.2.2.2.1,v.2.2.2.2.2.2.2.1,v.2.2.2.2.2.2.2.2.1,v.2.2.2.2.2.2.2.2.2))
theorem q297 C v:q3gb (regO (qct f54) 6) false [(3,(.box [.own qj8])),(4,.any),(5,.any),(6,.any),(19,.any)] q291 q296 q295 C v:=rgI (by kernel_rfl)
abbrev q298:Type:=List qj9
def q299 (v:q298):St:=⟨[(3,.ptr 0 0)],[.cells [.rs 1],.rows qj8 v]⟩
def q29a (C:q289) (v:q294):Dt q298:=(Dt.ite (apB (List.length v.2.1) (List.length ([(v.2.2.2.2.2.2.2.2.1,v.2.2.2.2.2.2.2.2.2,v.2.2.1,v.2.2.2.2.2.1,())]:List qj9))) (Dt.ret (v.2.1++([(v.2.2.2.2.2.2.2.2.1,v.2.2.2.2.2.2.2.2.2,v.2.2.1,v.2.2.2.2.2.1,())]:List qj9))) Dt.fail)
theorem q29b C v:q3gb (regO (qct f54) 7) false [(3,(.box [.own qj8]))] q295 q29a q299 C v:=rgI (by kernel_rfl)
def q29c (d:Nat) (x:Diii×Diii) (y:List qj9):Option (List qj9×Int×Int×Int×Int×Int×Int) :=
 (q28u (q28a d) (x.1.1,x.1.2.1,x.1.2.2.1,x.2.1,x.2.2.1,x.2.2.2.1,y)).eval fun y3 =>
 (q28y (q28a d) y3).eval fun y4 =>
 some y4
def q29d (d:Nat) (w:List qj9×Int×Int×Int×Int×Int×Int):Option (List qj9) :=
 (q292 (q28a d) w).eval fun y5 =>
 (q296 (q28a d) y5).eval fun y6 =>
 bif y6.1 then ((q29a (q28a d) y6).eval fun y7 =>
 some y7) else (some y6.2.1)
def q29e (C:q289) (v:q298):Dt q298:=(Dt.bnd (qu2 (τ:=qj8) C.2.2.1 v) fun r1=>(Dt.ret r1))
theorem q29f C v:q3gb (regO (qct f54) 8) false [(3,(.box [.own qj8]))] q299 q29e q299 C v:=rgI (by kernel_rfl)
abbrev q29g:Type:=List qj9
def q29h (v:q29g):St:=⟨[(2,.rs 0)],[.rows qj8 v]⟩
def q29i (C:q289) (v:q298):Dt q29g:=(Dt.ret v)
theorem q29j C v:q3gb (regO (qct f54) 9) false [(2,(.own qj8))] q299 q29i q29h C v:=rgI (by kernel_rfl)
def q29k (d:Nat) (x:q285):Option q286 :=
 (q28g (q28a d) x.1.1).eval fun y0 =>
 (q28k (q28a d) y0).eval fun y1 =>
 (q28o (q28a d) y1).eval fun y2 =>
 bif qwp y2.2 then Option.bind (qti (qtl (q29c d) (q29d d)) (qwo y2.2) y2.1) fun z1 =>
 ((q29e (q28a d) z1).eval fun y8 =>
 (q29i (q28a d) y8).eval fun y9 =>
 some y9) else none
theorem q29l (d:Nat):COK prog (q288 (q29k d)):=by
 have hm:prog.follows .mixedOrders=true:=mixed
 have hT:=tys
 have hC0:OrcOK prog (orc (q28b (q28a d))):=qcn (by
  intro S hS
  simp only [q28b,List.mem_cons,List.not_mem_nil,or_false] at hS
  rcases hS with rfl | rfl | rfl
  · exact q18z d
  · exact qxv d
  · exact q1cs d)
 have hC:OrcOK prog (orcS 112 113 qj8 (q28a d).2.2.1 (orc (q28b (q28a d)))):=(qwn (q1cs d) hC0)
 refine qtq (c:=qct f54) (fn:=f54) hT (by kernel_rfl) (by kernel_rfl) (by decide) fun x r h w0 φ0 Q hend=>?_
 replace h:q29k d x=some r:=h
 unfold q29k at h
 show Run prog w0 φ0 32 (qct f54) ⟨[(0,.agg [.fz Riii x.1.1])],[]⟩ Q
 refine q3f2 hm hT hC (q28h (q28a d) x.1.1) h fun y0 h=>?_
 refine q3f2 hm hT hC (q28l (q28a d) y0) h fun y1 h=>?_
 refine q7w ?_
 refine q3f2 hm hT hC (q28p (q28a d) y1) h fun y2 h=>?_
 refine q7x ?_
 obtain ⟨hg1,h⟩:=qtr h
 obtain ⟨z1,hz1,h⟩:=Option.bind_eq_some_iff.1 h
 refine qtp (b0:=2) (α:=Diii×Diii) (X:=List qj9) (Z:=List qj9×Int×Int×Int×Int×Int×Int) (encs:=fun x=>#[.agg #[.int .i64 x.1.1,.int .i64 x.1.2.1,.int .i64 x.1.2.2.1],.agg #[.int .i64 x.2.1,.int .i64 x.2.2.1,.int .i64 x.2.2.2.1]]) (xs:=(qwo y2.2)) (A:=q29c d) (B:=q29d d) (S1:=fun w=>⟨[(3,.ptr 0 0),(4,.ptr 2 0),(5,.ptr 3 0)],[.cells [.rs 1],.rows qj8 w.1,.cells [.int .i64 w.2.1,.int .i64 w.2.2.1,.int .i64 w.2.2.2.1],.cells [.int .i64 w.2.2.2.2.1,.int .i64 w.2.2.2.2.2.1,.int .i64 w.2.2.2.2.2.2]]⟩) (x0:=y2.1) (z:=z1) (tmE:=fun y=>[(3,.ptr 0 0)]) (keys:=[3]) (obs:=fun y=>[.cells [.rs 1],.rows qj8 y]) (xp:=fun x=>[(10,.agg [.int .i64 x.1.1,.int .i64 x.1.2.1,.int .i64 x.1.2.2.1]),(11,.agg [.int .i64 x.2.1,.int .i64 x.2.2.1,.int .i64 x.2.2.2.1])]) (ks:=[9]) (fun y n l h=>qts (k:=[3]) (tm:=[(3,.ptr 0 0)]) rfl h) (by kernel_rfl) (by kernel_rfl) rfl (by kernel_rfl) (by kernel_rfl) (enters_of Tryz.func147 (by kernel_rfl) rfl) (qwv hg1) (fun _=>rfl) (fun x t hN=>?xp1) (fun l V φ2 Q2 x y y2 h hD hV hend=>?as1) (fun l V φ2 Q2 w y2 h hD hV hend=>?bd1) hz1 (fun φ1 hl1=>?rs1)
 case xp1 =>
  rw [qtx]
  refine ⟨by simpa using hN,fun n l hn=>?_,fun n hn=>?_⟩
  ·
   simp only [List.mem_cons,List.not_mem_nil,or_false,Prod.mk.injEq] at hn
   rcases hn with ⟨rfl,rfl⟩ | ⟨rfl,rfl⟩
   ·
    exact ⟨_,(qtu rfl).trans (qtt (by (try simp only [Array.size_setIfInBounds]);omega)),fun η=>VR.aggL (VRs.cons (.int _ _) (VRs.cons (.int _ _) (VRs.cons (.int _ _) (VRs.nil))))⟩
   ·
    exact ⟨_,qtt (by (try simp only [Array.size_setIfInBounds]);omega),fun η=>VR.aggL (VRs.cons (.int _ _) (VRs.cons (.int _ _) (VRs.cons (.int _ _) (VRs.nil))))⟩
  ·
   simp only [List.mem_cons,List.not_mem_nil,or_false] at hn
   rcases hn with rfl
   all_goals exact (qtu rfl).trans ((qtu rfl))
 case as1 =>
  unfold q29c at h
  show RunI l prog V w0 φ2 32 _ ⟨[(10,.agg [.int .i64 x.1.1,.int .i64 x.1.2.1,.int .i64 x.1.2.2.1]),(11,.agg [.int .i64 x.2.1,.int .i64 x.2.2.1,.int .i64 x.2.2.2.1]),(3,.ptr 0 0)],[.cells [.rs 1],.rows qj8 y]⟩ Q2
  refine qtc ?_
  refine qtg hm hT hC hV (by kernel_rfl) (by kernel_rfl) (q28v (q28a d) (x.1.1,x.1.2.1,x.1.2.2.1,x.2.1,x.2.2.1,x.2.2.2.1,y)) h ?_
  intro y3 h
  refine qt2 ?_
  refine qtg hm hT hC hV (by kernel_rfl) (by kernel_rfl) (q28z (q28a d) y3) h ?_
  intro y4 h
  cases h
  exact hend
 case bd1 =>
  unfold q29d at h
  show RunI l prog V w0 φ2 32 _ ⟨[(3,.ptr 0 0),(4,.ptr 2 0),(5,.ptr 3 0)],[.cells [.rs 1],.rows qj8 w.1,.cells [.int .i64 w.2.1,.int .i64 w.2.2.1,.int .i64 w.2.2.2.1],.cells [.int .i64 w.2.2.2.2.1,.int .i64 w.2.2.2.2.2.1,.int .i64 w.2.2.2.2.2.2]]⟩ Q2
  refine qtd (qtc ?_)
  refine qtg hm hT hC hV (by kernel_rfl) (by kernel_rfl) (q293 (q28a d) w) h ?_
  intro y5 h
  refine qt2 (qtc ?_)
  refine qtg hm hT hC hV (by kernel_rfl) (by kernel_rfl) (q297 (q28a d) y5) h ?_
  intro y6 h
  refine qt2 ?_
  refine qtf (v:=y6.1) (by kernel_rfl) h ?_ ?_
  ·
   intro h
   refine qtg hm hT hC hV (by kernel_rfl) (by kernel_rfl) (q29b (q28a d) y6) h ?_
   intro y7 h
   refine qt3 ?_
   cases h
   exact hend
  ·
   intro h
   refine qt9 (qt3 ?_)
   refine qtv (s:=⟨[(3,.ptr 0 0)],[.cells [.rs 1],.rows qj8 y6.2.1]⟩) [4,5,6,19] (by kernel_rfl) ?_
   cases h
   exact hend
 case rs1 =>
  refine q7l (q7i ?_)
  refine q3f2 hm hT hC (q29f (q28a d) z1) h fun y8 h=>?_
  refine q3f2 hm hT hC (q29j (q28a d) y8) h fun y9 h=>?_
  refine q7v ?_
  cases h
  exact (hend.2 _ hl1 _ (by kernel_rfl)).2
abbrev q29m:List Pk:=[.row qj8 true,.row Rii true]
abbrev q29n:Type:=qj9×Dii×Unit
abbrev q29o:Type:=Int
def q29p (r:q29o):LV×List Ob:=(.int .i64 r,[])
def q29q (F:q29n→Option q29o):Go.Tx.Spec:=⟨115,q29m,q29o,F,q29p⟩
abbrev q29r:Type:=(q164→Option q165)×Unit
def q29s (d:Nat):q29r:=(q16p d,())
def q29t (C:q29r):List Go.Tx.Spec:=[q167 C.1]
abbrev q29u:Type:=Int×Int×Int×Int×Int×Int
def q29v (v:q29u):St:=⟨[(0,.agg [i6 v.1,i6 v.2.1,i6 v.2.2.1,i6 v.2.2.2.1]),(1,.agg [i6 v.2.2.2.2.1,i6 v.2.2.2.2.2])],[]⟩
abbrev q29w:Type:=Int×Int×Int×Int×Int×Int
def q29x (v:q29w):St:=⟨[(2,.ptr 0 0),(3,.ptr 1 0)],[.cells [i6 v.1,i6 v.2.1,i6 v.2.2.1,i6 v.2.2.2.1],.cells [i6 v.2.2.2.2.1,i6 v.2.2.2.2.2]]⟩
def q29y (C:q29r) (v:q29u):Dt q29w:=(Dt.ret (v.1,v.2.1,v.2.2.1,v.2.2.2.1,v.2.2.2.2.1,v.2.2.2.2.2))
abbrev q3gc {V Y:Type}:=@rg q29r V Y tysT (fun C=>(orc (q29t C))) 10
theorem q29z C v:q3gc (regO (qct f115) 0) false (an [2,3]) q29v q29y q29x C v:=rgI (by kernel_rfl)
abbrev q2a0:Type:=Bool
def q2a1 (v:q2a0):St:=⟨[(9,.bool v)],[]⟩
def q2a2 (C:q29r) (v:q29w):Dt q2a0:=(Dt.bnd (C.1 ((v.1,v.2.1,()),(v.2.2.2.2.1,v.2.2.2.2.2,()),())) fun r1=>(Dt.ret (decide (r1 > (0:Int)))))
theorem q2a3 C v:q3gc (regO (qct f115) 1) false [(9,.any)] q29x q2a2 q2a1 C v:=rgI (by kernel_rfl)
abbrev q2a4:Type:=Int
def q2a5 (v:q2a4):St:=⟨[(4,i6 v)],[]⟩
def q2a6 (C:q29r) (v:q2a0):Dt q2a4:=(Dt.ret (1:Int))
theorem q2a7 C v:q3gc (regO (qct f115) 2) false [(4,.any)] q2a1 q2a6 q2a5 C v:=rgI (by kernel_rfl)
def q2a8 (C:q29r) (v:q2a0):Dt q2a4:=(Dt.ret (-1:Int))
theorem q2a9 C v:q3gc (regO (qct f115) 3) false [(4,.any)] q2a1 q2a8 q2a5 C v:=rgI (by kernel_rfl)
def q2aa (d:Nat) (x:q29n):Option q29o :=
 (q29y (q29s d) (x.1.1,x.1.2.1,x.1.2.2.1,x.1.2.2.2.1,x.2.1.1,x.2.1.2.1)).eval fun y0 =>
 (q2a2 (q29s d) y0).eval fun y1 =>
 bif y1 then ((q2a6 (q29s d) y1).eval fun y2 =>
 some y2) else ((q2a8 (q29s d) y1).eval fun y3 =>
 some y3)
theorem q2ab (d:Nat):COK prog (q29q (q2aa d)):=by
 have hm:prog.follows .mixedOrders=true:=mixed
 have hT:=tys
 have hC0:OrcOK prog (orc (q29t (q29s d))):=qcn (by
  intro S hS
  simp only [q29t,List.mem_cons,List.not_mem_nil,or_false] at hS
  subst hS;exact q16q d)
 have hC:OrcOK prog (orc (q29t (q29s d))):=hC0
 refine q8c (c:=qct f115) (fn:=f115) hT (by kernel_rfl) (by kernel_rfl) (by decide) fun x r h w0 φ0 Q hend=>?_
 replace h:q2aa d x=some r:=h
 unfold q2aa at h
 show Run prog w0 φ0 10 (qct f115) ⟨[(0,.agg [.int .i64 x.1.1,.int .i64 x.1.2.1,.int .i64 x.1.2.2.1,.int .i64 x.1.2.2.2.1]),(1,.agg [.int .i64 x.2.1.1,.int .i64 x.2.1.2.1])],[]⟩ Q
 refine q3f2 hm hT hC (q29z (q29s d) (x.1.1,x.1.2.1,x.1.2.2.1,x.1.2.2.2.1,x.2.1.1,x.2.1.2.1)) h fun y0 h=>?_
 refine q7w ?_
 refine q3f2 hm hT hC (q2a3 (q29s d) y0) h fun y1 h=>?_
 refine q80 (v:=y1) (by kernel_rfl) h ?_ ?_
 ·
  intro h
  refine q3f2 hm hT hC (q2a7 (q29s d) y1) h fun y2 h=>?_
  refine q7v (q7k ?_)
  cases h
  exact (hend _ (by kernel_rfl)).2
 ·
  intro h
  refine q7s (q7i ?_)
  refine q3f2 hm hT hC (q2a9 (q29s d) y1) h fun y3 h=>?_
  refine q7v ?_
  cases h
  exact (hend _ (by kernel_rfl)).2
abbrev q2ac:List Pk:=[.row qjb false,.row Rii true,.fn 115 []]
abbrev q2ad:Type:=qjc×Dii×(Unit)×Unit
abbrev q2ae:Type:=Int×Bool
def q2af (r:q2ae):LV×List Ob:=(.tup [.int .i64 r.1,.bool r.2],[])
def q2ag (F:q2ad→Option q2ae):Go.Tx.Spec:=⟨114,q2ac,q2ae,F,q2af⟩
abbrev q2ah:Type:=(q29n→Option q29o)×Unit
def q2ai (d:Nat):q2ah:=(q2aa d,())
def q2aj (C:q2ah):List Go.Tx.Spec:=[q29q C.1]
abbrev q2ak:Type:=List qj9×Int×Int
def q2al (v:q2ak):St:=⟨[(0,.fz qj8 v.1),(1,.agg [i6 v.2.1,i6 v.2.2]),(2,.fn 115 [])],[]⟩
abbrev q2am:Type:=List qj9×Int×Int
def q2an (v:q2am):St:=⟨[(0,.fz qj8 v.1),(2,.fn 115 []),(4,.ptr 0 0)],[.cells [i6 v.2.1,i6 v.2.2]]⟩
def q2ao (C:q2ah) (v:q2ak):Dt q2am:=(Dt.ret (v.1,v.2.1,v.2.2))
abbrev q3gd {V Y:Type}:=@rg q2ah V Y tysT (fun C=>(orc (q2aj C))) 49
theorem q2ap C v:q3gd (regO (qct f114) 0) false [(0,(.val qj8)),(2,.any),(4,.any)] q2al q2ao q2an C v:=rgI (by kernel_rfl)
abbrev q2aq:Type:=List qj9×Int×Int×Int
def q2ar (v:q2aq):St:=⟨[(0,.fz qj8 v.1),(2,.fn 115 []),(4,.ptr 0 0),(8,i6 v.2.1)],[.cells [i6 v.2.2.1,i6 v.2.2.2]]⟩
def q2as (C:q2ah) (v:q2am):Dt q2aq:=(Dt.ret (v.1,(List.length v.1:Int),v.2.1,v.2.2))
theorem q2at C v:q3gd (regO (qct f114) 1) false [(0,(.val qj8)),(2,.any),(4,.any),(8,.any)] q2an q2as q2ar C v:=rgI (by kernel_rfl)
abbrev q2au:Type:=List qj9×Int×Int×Int×Int×Int
def q2av (v:q2au):St:=⟨[(0,.fz qj8 v.1),(2,.fn 115 []),(4,.ptr 0 0),(8,i6 v.2.1),(9,i6 v.2.2.1),(10,i6 v.2.2.2.1)],[.cells [i6 v.2.2.2.2.1,i6 v.2.2.2.2.2]]⟩
def q2aw (C:q2ah) (v:q2aq):Dt q2au:=(Dt.ret (v.1,v.2.1,(0:Int),v.2.1,v.2.2.1,v.2.2.2))
theorem q2ax C v:q3gd (regO (qct f114) 2) false [(0,(.val qj8)),(2,.any),(4,.any),(8,.any),(9,.any),(10,.any)] q2ar q2aw q2av C v:=rgI (by kernel_rfl)
abbrev q2ay:Type:=List qj9×Int×Int×Int×Bool×Int×Int
def q2az (v:q2ay):St:=⟨[(0,.fz qj8 v.1),(2,.fn 115 []),(4,.ptr 0 0),(8,i6 v.2.1),(9,i6 v.2.2.1),(10,i6 v.2.2.2.1),(17,.bool v.2.2.2.2.1)],[.cells [i6 v.2.2.2.2.2.1,i6 v.2.2.2.2.2.2]]⟩
def q2b0 (C:q2ah) (v:q2au):Dt q2ay:=(Dt.ret (v.1,v.2.1,v.2.2.1,v.2.2.2.1,(decide (v.2.2.1<v.2.2.2.1)),v.2.2.2.2.1,v.2.2.2.2.2))
theorem q2b1 C v:q3gd (regO (qct f114) 3) false [(0,(.val qj8)),(2,.any),(4,.any),(8,.any),(9,.any),(10,.any),(17,.any)] q2av q2b0 q2az C v:=rgI (by kernel_rfl)
abbrev q2b2:Type:=List qj9×Int×Int×Int×Int×Int×Int
def q2b3 (v:q2b2):St:=⟨[(0,.fz qj8 v.1),(2,.fn 115 []),(4,.ptr 0 0),(8,i6 v.2.1),(9,i6 v.2.2.1),(10,i6 v.2.2.2.1),(11,i6 v.2.2.2.2.1)],[.cells [i6 v.2.2.2.2.2.1,i6 v.2.2.2.2.2.2]]⟩
def q2b4 (C:q2ah) (v:q2ay):Dt q2b2:=(Dt.ret (v.1,v.2.1,v.2.2.1,v.2.2.2.1,(IntKind.wrap .i64 (shrI .u64 (IntKind.wrap .u64 (IntKind.wrap .i64 (v.2.2.1+v.2.2.2.1))) (1:Int))),v.2.2.2.2.2.1,v.2.2.2.2.2.2))
theorem q2b5 C v:q3gd (regO (qct f114) 4) false [(0,(.val qj8)),(2,.any),(4,.any),(8,.any),(9,.any),(10,.any),(11,.any)] q2az q2b4 q2b3 C v:=rgI (by kernel_rfl)
abbrev q2b6:Type:=List qj9×Int×Int×Int×Int×Bool×Int×Int
def q2b7 (v:q2b6):St:=⟨[(0,.fz qj8 v.1),(2,.fn 115 []),(4,.ptr 0 0),(8,i6 v.2.1),(9,i6 v.2.2.1),(10,i6 v.2.2.2.1),(11,i6 v.2.2.2.2.1),(31,.bool v.2.2.2.2.2.1)],[.cells [i6 v.2.2.2.2.2.2.1,i6 v.2.2.2.2.2.2.2]]⟩
def q2b8 (C:q2ah) (v:q2b2):Dt q2b6:=(Dt.ite (inB v.2.2.2.2.1 (List.length v.1)) (Dt.bnd (C.1 (((elt qja v.1 (v.2.2.2.2.1).toNat).1,(elt qja v.1 (v.2.2.2.2.1).toNat).2.1,(elt qja v.1 (v.2.2.2.2.1).toNat).2.2.1,(elt qja v.1 (v.2.2.2.2.1).toNat).2.2.2.1,()),(v.2.2.2.2.2.1,v.2.2.2.2.2.2,()),())) fun r1=>(Dt.ret (v.1,v.2.1,v.2.2.1,v.2.2.2.1,v.2.2.2.2.1,(decide (r1<(0:Int))),v.2.2.2.2.2.1,v.2.2.2.2.2.2))) Dt.fail)
theorem q2b9 C v:q3gd (regO (qct f114) 5) true [(0,(.val qj8)),(2,.any),(4,.any),(8,.any),(9,.any),(10,.any),(11,.any),(31,.any)] q2b3 q2b8 q2b7 C v:=rgI (by kernel_rfl)
def q2ba (C:q2ah) (v:q2b6):Dt q2au:=(Dt.ret (v.1,v.2.1,(IntKind.wrap .i64 (v.2.2.2.2.1+(1:Int))),v.2.2.2.1,v.2.2.2.2.2.2.1,v.2.2.2.2.2.2.2))
theorem q2bb C v:q3gd (regO (qct f114) 6) false [(0,(.val qj8)),(2,.any),(4,.any),(8,.any),(9,.any),(10,.any)] q2b7 q2ba q2av C v:=rgI (by kernel_rfl)
def q2bc (C:q2ah) (v:q2b6):Dt q2au:=(Dt.ret (v.1,v.2.1,v.2.2.1,v.2.2.2.2.1,v.2.2.2.2.2.2.1,v.2.2.2.2.2.2.2))
theorem q2bd C v:q3gd (regO (qct f114) 7) false [(0,(.val qj8)),(2,.any),(4,.any),(8,.any),(9,.any),(10,.any)] q2b7 q2bc q2av C v:=rgI (by kernel_rfl)
abbrev q2be:Type:=Int×Bool
def q2bf (v:q2be):St:=⟨[(6,i6 v.1),(7,.bool v.2)],[]⟩
def q2bg (C:q2ah) (v:q2ay):Dt q2be:=(Dt.ite (decide (v.2.2.1<v.2.1)) (Dt.ite (inB v.2.2.1 (List.length v.1)) (Dt.bnd (C.1 (((elt qja v.1 (v.2.2.1).toNat).1,(elt qja v.1 (v.2.2.1).toNat).2.1,(elt qja v.1 (v.2.2.1).toNat).2.2.1,(elt qja v.1 (v.2.2.1).toNat).2.2.2.1,()),(v.2.2.2.2.2.1,v.2.2.2.2.2.2,()),())) fun r1=>(Dt.ret (v.2.2.1,(r1 == (0:Int))))) Dt.fail) (Dt.ret (v.2.2.1,false)))
theorem q2bh C v:q3gd (regO (qct f114) 8) true (an [6,7]) q2az q2bg q2bf C v:=rgI (by kernel_rfl)
def q2bi (d:Nat) (self1:(List qj9×Int×Int×Int×Int×Int)→Option q2ae) (x1:List qj9×Int×Int×Int×Int×Int):Option q2ae :=
 (q2b0 (q2ai d) x1).eval fun y3 =>
 bif y3.2.2.2.2.1 then ((q2b4 (q2ai d) y3).eval fun y4 =>
 (q2b8 (q2ai d) y4).eval fun y5 =>
 bif y5.2.2.2.2.2.1 then ((q2ba (q2ai d) y5).eval fun y6 =>
 self1 y6) else ((q2bc (q2ai d) y5).eval fun y7 =>
 self1 y7)) else ((q2bg (q2ai d) y3).eval fun y8 =>
 some y8)
def q2bj (d:Nat) (x:q2ad):Option q2ae :=
 (q2ao (q2ai d) (x.1.1,x.2.1.1,x.2.1.2.1)).eval fun y0 =>
 (q2as (q2ai d) y0).eval fun y1 =>
 (q2aw (q2ai d) y1).eval fun y2 =>
 iter (q2bi d ) d y2
theorem q2bk (d:Nat):COK prog (q2ag (q2bj d)):=by
 have hm:prog.follows .mixedOrders=true:=mixed
 have hT:=tys
 have hC0:OrcOK prog (orc (q2aj (q2ai d))):=qcn (by
  intro S hS
  simp only [q2aj,List.mem_cons,List.not_mem_nil,or_false] at hS
  subst hS;exact q2ab d)
 have hC:OrcOK prog (orc (q2aj (q2ai d))):=hC0
 refine q8c (c:=qct f114) (fn:=f114) hT (by kernel_rfl) (by kernel_rfl) (by decide) fun x r h w0 φ0 Q hend=>?_
 replace h:q2bj d x=some r:=h
 unfold q2bj at h
 show Run prog w0 φ0 49 (qct f114) ⟨[(0,.fz qj8 x.1.1),(1,.agg [.int .i64 x.2.1.1,.int .i64 x.2.1.2.1]),(2,.fn 115 [])],[]⟩ Q
 refine q3f2 hm hT hC (q2ap (q2ai d) (x.1.1,x.2.1.1,x.2.1.2.1)) h fun y0 h=>?_
 refine q3f2 hm hT hC (q2at (q2ai d) y0) h fun y1 h=>?_
 refine q3f2 hm hT hC (q2ax (q2ai d) y1) h fun y2 h=>?_
 refine q7w (q7x ?_)
 refine q82 (G:=iter (q2bi d )) (S:=(fun x1=>⟨[(0,.fz qj8 x1.1),(2,.fn 115 []),(4,.ptr 0 0),(8,i6 x1.2.1),(9,i6 x1.2.2.1),(10,i6 x1.2.2.2.1)],[.cells [i6 x1.2.2.2.2.1,i6 x1.2.2.2.2.2]]⟩:List qj9×Int×Int×Int×Int×Int→St)) (fun _=>rfl) ?_ d _ h
 intro n1 x1 h K1 hn1
 replace h:q2bi d  (iter (q2bi d ) n1) x1=some r:=h
 generalize iter (q2bi d ) n1=self1 at h hn1
 unfold q2bi at h
 refine q7w ?_
 refine q3f2 hm hT hC (q2b1 (q2ai d) x1) h fun y3 h=>?_
 refine q80 (v:=y3.2.2.2.2.1) (by kernel_rfl) h ?_ ?_
 ·
  intro h
  refine q7s (q7i (q7x ?_))
  refine q3f2 hm hT hC (q2b5 (q2ai d) y3) h fun y4 h=>?_
  refine q3f2 hm hT hC (q2b9 (q2ai d) y4) h fun y5 h=>?_
  refine q80 (v:=y5.2.2.2.2.2.1) (by kernel_rfl) h ?_ ?_
  ·
   intro h
   refine q81 hm hT hC (q2bb (q2ai d) y5) h ?_
   intro y6 h
   refine q7l ?_
   exact hn1 _ h
  ·
   intro h
   refine q81 hm hT hC (q2bd (q2ai d) y5) h ?_
   intro y7 h
   refine q7l ?_
   exact hn1 _ h
 ·
  intro h
  refine q7u (q7j (q7j (q7n (q7i ?_))))
  refine q3f2 hm hT hC (q2bh (q2ai d) y3) h fun y8 h=>?_
  refine q7v ?_
  cases h
  exact (hend _ (by kernel_rfl)).2
abbrev q2bl:List Pk:=[.row qjb false,.row Rii true]
abbrev q2bm:Type:=qjc×Dii×Unit
abbrev q2bn:Type:=Int
def q2bo (r:q2bn):LV×List Ob:=(.int .i64 r,[])
def q2bp (F:q2bm→Option q2bn):Go.Tx.Spec:=⟨55,q2bl,q2bn,F,q2bo⟩
abbrev q2bq:Type:=(q2ad→Option q2ae)×Unit
def q2br (d:Nat):q2bq:=(q2bj d,())
def q2bs (C:q2bq):List Go.Tx.Spec:=[q2ag C.1]
abbrev q2bt:Type:=List qj9×Int×Int
def q2bu (v:q2bt):St:=⟨[(0,.fz qj8 v.1),(1,.agg [i6 v.2.1,i6 v.2.2])],[]⟩
abbrev q2bv:Type:=List qj9×Int×Int
def q2bw (v:q2bv):St:=⟨[(0,.fz qj8 v.1),(3,.ptr 0 0)],[.cells [i6 v.2.1,i6 v.2.2]]⟩
def q2bx (C:q2bq) (v:q2bt):Dt q2bv:=(Dt.ret (v.1,v.2.1,v.2.2))
abbrev q3ge {V Y:Type}:=@rg q2bq V Y tysT (fun C=>(orc (q2bs C))) 14
theorem q2by C v:q3ge (regO (qct f55) 0) false [(0,(.val qj8)),(3,.any)] q2bu q2bx q2bw C v:=rgI (by kernel_rfl)
abbrev q2bz:Type:=Int
def q2c0 (v:q2bz):St:=⟨[(5,i6 v)],[]⟩
def q2c1 (C:q2bq) (v:q2bv):Dt q2bz:=(Dt.bnd (C.1 ((v.1,()),(v.2.1,v.2.2,()),(()),())) fun r1=>(Dt.ret r1.1))
theorem q2c2 C v:q3ge (regO (qct f55) 1) false [(5,.any)] q2bw q2c1 q2c0 C v:=rgI (by kernel_rfl)
abbrev q2c3:Type:=Int
def q2c4 (v:q2c3):St:=⟨[(4,i6 v)],[]⟩
def q2c5 (C:q2bq) (v:q2bz):Dt q2c3:=(Dt.ret v)
theorem q2c6 C v:q3ge (regO (qct f55) 2) false [(4,.any)] q2c0 q2c5 q2c4 C v:=rgI (by kernel_rfl)
def q2c7 (d:Nat) (x:q2bm):Option q2bn :=
 (q2bx (q2br d) (x.1.1,x.2.1.1,x.2.1.2.1)).eval fun y0 =>
 (q2c1 (q2br d) y0).eval fun y1 =>
 (q2c5 (q2br d) y1).eval fun y2 =>
 some y2
theorem q2c8 (d:Nat):COK prog (q2bp (q2c7 d)):=by
 have hm:prog.follows .mixedOrders=true:=mixed
 have hT:=tys
 have hC0:OrcOK prog (orc (q2bs (q2br d))):=qcn (by
  intro S hS
  simp only [q2bs,List.mem_cons,List.not_mem_nil,or_false] at hS
  subst hS;exact q2bk d)
 have hC:OrcOK prog (orc (q2bs (q2br d))):=hC0
 refine q8c (c:=qct f55) (fn:=f55) hT (by kernel_rfl) (by kernel_rfl) (by decide) fun x r h w0 φ0 Q hend=>?_
 replace h:q2c7 d x=some r:=h
 unfold q2c7 at h
 show Run prog w0 φ0 14 (qct f55) ⟨[(0,.fz qj8 x.1.1),(1,.agg [.int .i64 x.2.1.1,.int .i64 x.2.1.2.1])],[]⟩ Q
 refine q3f2 hm hT hC (q2by (q2br d) (x.1.1,x.2.1.1,x.2.1.2.1)) h fun y0 h=>?_
 refine q3f2 hm hT hC (q2c2 (q2br d) y0) h fun y1 h=>?_
 refine q3f2 hm hT hC (q2c6 (q2br d) y1) h fun y2 h=>?_
 refine q7v ?_
 cases h
 exact (hend _ (by kernel_rfl)).2
abbrev q2c9:List Pk:=[.row qj5 true,.row Rii true,.row Rii true]
abbrev q2ca:Type:=qj6×Dii×Dii×Unit
abbrev q2cb:Type:=List qj9×Int
def q2cc (r:q2cb):LV×List Ob:=(.tup [.fz qj8 r.1,.int .i64 r.2],[])
def q2cd (F:q2ca→Option q2cb):Go.Tx.Spec:=⟨13,q2c9,q2cb,F,q2cc⟩
abbrev q2ce:Type:=(q16s→Option q16t)×(q285→Option q286)×(q2bm→Option q2bn)×Unit
def q2cf (d:Nat):q2ce:=(q18e d,q29k d,q2c7 d,())
def q2cg (C:q2ce):List Go.Tx.Spec:=[q16v C.1,q288 C.2.1,q2bp C.2.2.1]
abbrev q2ch:Type:=List Diii×Int×Int×Int×Int
def q2ci (v:q2ch):St:=⟨[(0,.agg [.fz Riii v.1]),(1,.agg [i6 v.2.1,i6 v.2.2.1]),(2,.agg [i6 v.2.2.2.1,i6 v.2.2.2.2])],[]⟩
abbrev q2cj:Type:=List Diii×Int×Int×Int×Int
def q2ck (v:q2cj):St:=⟨[(3,.ptr 0 0),(4,.ptr 1 0),(5,.ptr 2 0)],[.cells [.fz Riii v.1],.cells [i6 v.2.1,i6 v.2.2.1],.cells [i6 v.2.2.2.1,i6 v.2.2.2.2]]⟩
def q2cl (C:q2ce) (v:q2ch):Dt q2cj:=(Dt.ret (v.1,v.2.1,v.2.2.1,v.2.2.2.1,v.2.2.2.2))
abbrev q3gf {V Y:Type}:=@rg q2ce V Y tysT (fun C=>(orc (q2cg C))) 33
theorem q2cm C v:q3gf (regO (qct f13) 0) false [(3,(.box [.val Riii])),(4,.any),(5,.any)] q2ci q2cl q2ck C v:=rgI (by kernel_rfl)
abbrev q2cn:Type:=Int×List Diii×Int×Int×Int×Int
def q2co (v:q2cn):St:=⟨[(3,.ptr 0 0),(4,.ptr 1 0),(5,.ptr 2 0),(8,i6 v.1)],[.cells [.fz Riii v.2.1],.cells [i6 v.2.2.1,i6 v.2.2.2.1],.cells [i6 v.2.2.2.2.1,i6 v.2.2.2.2.2]]⟩
def q2cp (C:q2ce) (v:q2cj):Dt q2cn:=(Dt.bnd (C.1 ((v.1,()),(([(v.2.1,v.2.2.1,()),(v.2.2.2.1,v.2.2.2.2,())]:List Dii),()),())) fun r1=>(Dt.ret (r1,v.1,v.2.1,v.2.2.1,v.2.2.2.1,v.2.2.2.2)))
theorem q2cq C v:q3gf (regO (qct f13) 1) false [(3,(.box [.val Riii])),(4,.any),(5,.any),(8,.any)] q2ck q2cp q2co C v:=rgI (by kernel_rfl)
abbrev q2cr:Type:=Int×Bool×List Diii×Int×Int×Int×Int
def q2cs (v:q2cr):St:=⟨[(3,.ptr 0 0),(4,.ptr 1 0),(5,.ptr 2 0),(8,i6 v.1),(18,.bool v.2.1)],[.cells [.fz Riii v.2.2.1],.cells [i6 v.2.2.2.1,i6 v.2.2.2.2.1],.cells [i6 v.2.2.2.2.2.1,i6 v.2.2.2.2.2.2]]⟩
def q2ct (C:q2ce) (v:q2cn):Dt q2cr:=(Dt.ret (v.1,(v.1 != (0:Int)),v.2.1,v.2.2.1,v.2.2.2.1,v.2.2.2.2.1,v.2.2.2.2.2))
theorem q2cu C v:q3gf (regO (qct f13) 2) false [(3,(.box [.val Riii])),(4,.any),(5,.any),(8,.any),(18,.any)] q2co q2ct q2cs C v:=rgI (by kernel_rfl)
abbrev q2cv:Type:=List qj9×Int
def q2cw (v:q2cv):St:=⟨[(6,.fz qj8 v.1),(7,i6 v.2)],[]⟩
def q2cx (C:q2ce) (v:q2cr):Dt q2cv:=(Dt.ret (([]:List qj9),v.1))
theorem q2cy C v:q3gf (regO (qct f13) 3) false [(6,(.val qj8)),(7,.any)] q2cs q2cx q2cw C v:=rgI (by kernel_rfl)
abbrev q2cz:Type:=Int×Int×Int×Int×List qj9
def q2d0 (v:q2cz):St:=⟨[(4,.ptr 0 0),(5,.ptr 1 0),(9,.rs 2)],[.cells [i6 v.1,i6 v.2.1],.cells [i6 v.2.2.1,i6 v.2.2.2.1],.rows qj8 v.2.2.2.2]⟩
def q2d1 (C:q2ce) (v:q2cr):Dt q2cz:=(Dt.bnd (C.2.1 ((v.2.2.1,()),())) fun r1=>(Dt.ret (v.2.2.2.1,v.2.2.2.2.1,v.2.2.2.2.2.1,v.2.2.2.2.2.2,r1)))
theorem q2d2 C v:q3gf (regO (qct f13) 4) false [(4,.any),(5,.any),(9,(.own qj8))] q2cs q2d1 q2d0 C v:=rgI (by kernel_rfl)
abbrev q2d3:Type:=Int×Int×List qj9
def q2d4 (v:q2d3):St:=⟨[(9,.rs 0),(10,i6 v.1),(11,i6 v.2.1)],[.rows qj8 v.2.2]⟩
def q2d5 (C:q2ce) (v:q2cz):Dt q2d3:=(Dt.bnd (C.2.2.1 ((v.2.2.2.2,()),(v.1,v.2.1,()),())) fun r1=>(Dt.bnd (C.2.2.1 ((v.2.2.2.2,()),(v.2.2.1,v.2.2.2.1,()),())) fun r2=>(Dt.ret (r1,r2,v.2.2.2.2))))
theorem q2d6 C v:q3gf (regO (qct f13) 5) true [(9,(.own qj8)),(10,.any),(11,.any)] q2d0 q2d5 q2d4 C v:=rgI (by kernel_rfl)
def q2d7 (C:q2ce) (v:q2d3):Dt q2cv:=(Dt.ite (q3i v.1 v.2.1 v.2.1 (List.length v.2.2)) (Dt.ret ((List.drop (v.1).toNat (List.take (v.2.1).toNat v.2.2)),(0:Int))) Dt.fail)
theorem q2d8 C v:q3gf (regO (qct f13) 6) false [(6,(.val qj8)),(7,.any)] q2d4 q2d7 q2cw C v:=rgI (by kernel_rfl)
def q2d9 (d:Nat) (x:q2ca):Option q2cb :=
 (q2cl (q2cf d) (x.1.1,x.2.1.1,x.2.1.2.1,x.2.2.1.1,x.2.2.1.2.1)).eval fun y0 =>
 (q2cp (q2cf d) y0).eval fun y1 =>
 (q2ct (q2cf d) y1).eval fun y2 =>
 bif y2.2.1 then ((q2cx (q2cf d) y2).eval fun y3 =>
 some y3) else ((q2d1 (q2cf d) y2).eval fun y4 =>
 (q2d5 (q2cf d) y4).eval fun y5 =>
 (q2d7 (q2cf d) y5).eval fun y6 =>
 some y6)
theorem q2da (d:Nat):COK prog (q2cd (q2d9 d)):=by
 have hm:prog.follows .mixedOrders=true:=mixed
 have hT:=tys
 have hC0:OrcOK prog (orc (q2cg (q2cf d))):=qcn (by
  intro S hS
  simp only [q2cg,List.mem_cons,List.not_mem_nil,or_false] at hS
  rcases hS with rfl | rfl | rfl
  · exact q18f d
  · exact q29l d
  · exact q2c8 d)
 have hC:OrcOK prog (orc (q2cg (q2cf d))):=hC0
 refine q8c (c:=qct f13) (fn:=f13) hT (by kernel_rfl) (by kernel_rfl) (by decide) fun x r h w0 φ0 Q hend=>?_
 replace h:q2d9 d x=some r:=h
 unfold q2d9 at h
 show Run prog w0 φ0 33 (qct f13) ⟨[(0,.agg [.fz Riii x.1.1]),(1,.agg [.int .i64 x.2.1.1,.int .i64 x.2.1.2.1]),(2,.agg [.int .i64 x.2.2.1.1,.int .i64 x.2.2.1.2.1])],[]⟩ Q
 refine q3f2 hm hT hC (q2cm (q2cf d) (x.1.1,x.2.1.1,x.2.1.2.1,x.2.2.1.1,x.2.2.1.2.1)) h fun y0 h=>?_
 refine q7w ?_
 refine q3f2 hm hT hC (q2cq (q2cf d) y0) h fun y1 h=>?_
 refine q3f2 hm hT hC (q2cu (q2cf d) y1) h fun y2 h=>?_
 refine q80 (v:=y2.2.1) (by kernel_rfl) h ?_ ?_
 ·
  intro h
  refine q3f2 hm hT hC (q2cy (q2cf d) y2) h fun y3 h=>?_
  refine q7v (q7k ?_)
  cases h
  exact (hend _ (by kernel_rfl)).2
 ·
  intro h
  refine q7s (q7i ?_)
  refine q3f2 hm hT hC (q2d2 (q2cf d) y2) h fun y4 h=>?_
  refine q3f2 hm hT hC (q2d6 (q2cf d) y4) h fun y5 h=>?_
  refine q3f2 hm hT hC (q2d8 (q2cf d) y5) h fun y6 h=>?_
  refine q7v ?_
  cases h
  exact (hend _ (by kernel_rfl)).2
abbrev q2db:List Pk:=[.row Riii true,.row Riii true,.row Rii true]
abbrev q2dc:Type:=Diii×Diii×Dii×Unit
abbrev q2dd:Type:=Int×Int×Bool×Int
def q2de (r:q2dd):LV×List Ob:=(.tup [.agg [.int .i64 r.1,.int .i64 r.2.1],.bool r.2.2.1,.int .i64 r.2.2.2],[])
def q2df (F:q2dc→Option q2dd):Go.Tx.Spec:=⟨101,q2db,q2dd,F,q2de⟩
abbrev q2dg:Type:=(qwx→Option qwy)×(qoh→Option qoi)×(qux→Option quy)×Unit
def q2dh (d:Nat):q2dg:=(qxu d,qom d,qv2 d,())
def q2di (C:q2dg):List Go.Tx.Spec:=[qx0 C.1,qok C.2.1,qv0 C.2.2.1]
abbrev q2dj:Type:=Int×Int×Int×Int×Int×Int×Int×Int
def q2dk (v:q2dj):St:=⟨[(0,.agg [i6 v.1,i6 v.2.1,i6 v.2.2.1]),(1,.agg [i6 v.2.2.2.1,i6 v.2.2.2.2.1,i6 v.2.2.2.2.2.1]),(2,.agg [i6 v.2.2.2.2.2.2.1,i6 v.2.2.2.2.2.2.2])],[]⟩
abbrev q2dl:Type:=Int×Int×Int×Int×Int×Int×Int×Int×Int×Int
def q2dm (v:q2dl):St:=⟨[(3,.ptr 0 0),(4,.ptr 1 0),(5,.ptr 2 0),(6,.ptr 3 0)],[.cells [i6 v.1,i6 v.2.1,i6 v.2.2.1],.cells [i6 v.2.2.2.1,i6 v.2.2.2.2.1,i6 v.2.2.2.2.2.1],.cells [i6 v.2.2.2.2.2.2.1,i6 v.2.2.2.2.2.2.2.1],.cells [i6 v.2.2.2.2.2.2.2.2.1,i6 v.2.2.2.2.2.2.2.2.2]]⟩
def q2dn (C:q2dg) (v:q2dj):Dt q2dl:=(Dt.ret (v.1,v.2.1,v.2.2.1,v.2.2.2.1,v.2.2.2.2.1,v.2.2.2.2.2.1,v.2.2.2.2.2.2.1,v.2.2.2.2.2.2.2,(0:Int),(0:Int)))
abbrev q3gg {V Y:Type}:=@rg q2dg V Y tysT (fun C=>(orc (q2di C))) 42
theorem q2do C v:q3gg (regO (qct f101) 0) false (an [3,4,5,6]) q2dk q2dn q2dm C v:=rgI (by kernel_rfl)
abbrev q2dp:Type:=Int×Int×Int×Int×Int×Int×Int×Int×Int×Int×Int
def q2dq (v:q2dp):St:=⟨[(3,.ptr 0 0),(4,.ptr 1 0),(5,.ptr 2 0),(6,.ptr 3 0),(9,i6 v.1)],[.cells [i6 v.2.1,i6 v.2.2.1,i6 v.2.2.2.1],.cells [i6 v.2.2.2.2.1,i6 v.2.2.2.2.2.1,i6 v.2.2.2.2.2.2.1],.cells [i6 v.2.2.2.2.2.2.2.1,i6 v.2.2.2.2.2.2.2.2.1],.cells [i6 v.2.2.2.2.2.2.2.2.2.1,i6 v.2.2.2.2.2.2.2.2.2.2]]⟩
def q2dr (C:q2dg) (v:q2dl):Dt q2dp:=(Dt.bnd (C.2.1 ((v.1,v.2.1,v.2.2.1,()),(v.2.2.2.1,v.2.2.2.2.1,v.2.2.2.2.2.1,()),(v.2.2.2.2.2.2.1,v.2.2.2.2.2.2.2.1,()),())) fun r1=>(Dt.ret (r1,v.1,v.2.1,v.2.2.1,v.2.2.2.1,v.2.2.2.2.1,v.2.2.2.2.2.1,v.2.2.2.2.2.2.1,v.2.2.2.2.2.2.2.1,v.2.2.2.2.2.2.2.2.1,v.2.2.2.2.2.2.2.2.2)))
theorem q2ds C v:q3gg (regO (qct f101) 1) false (an [3,4,5,6,9]) q2dm q2dr q2dq C v:=rgI (by kernel_rfl)
abbrev q2dt:Type:=Int×Bool×Int×Int×Int×Int×Int×Int×Int×Int×Int×Int
def q2du (v:q2dt):St:=⟨[(3,.ptr 0 0),(4,.ptr 1 0),(5,.ptr 2 0),(6,.ptr 3 0),(9,i6 v.1),(17,.bool v.2.1)],[.cells [i6 v.2.2.1,i6 v.2.2.2.1,i6 v.2.2.2.2.1],.cells [i6 v.2.2.2.2.2.1,i6 v.2.2.2.2.2.2.1,i6 v.2.2.2.2.2.2.2.1],.cells [i6 v.2.2.2.2.2.2.2.2.1,i6 v.2.2.2.2.2.2.2.2.2.1],.cells [i6 v.2.2.2.2.2.2.2.2.2.2.1,i6 v.2.2.2.2.2.2.2.2.2.2.2]]⟩
def q2dv (C:q2dg) (v:q2dp):Dt q2dt:=(Dt.ret (v.1,(v.1 != (0:Int)),v.2.1,v.2.2.1,v.2.2.2.1,v.2.2.2.2.1,v.2.2.2.2.2.1,v.2.2.2.2.2.2.1,v.2.2.2.2.2.2.2.1,v.2.2.2.2.2.2.2.2.1,v.2.2.2.2.2.2.2.2.2.1,v.2.2.2.2.2.2.2.2.2.2))
theorem q2dw C v:q3gg (regO (qct f101) 2) false (an [3,4,5,6,9,17]) q2dq q2dv q2du C v:=rgI (by kernel_rfl)
abbrev q2dx:Type:=Bool×Int×Int×Int
def q2dy (v:q2dx):St:=⟨[(6,.ptr 0 0),(7,.bool v.1),(8,i6 v.2.1)],[.cells [i6 v.2.2.1,i6 v.2.2.2]]⟩
def q2dz (C:q2dg) (v:q2dt):Dt q2dx:=(Dt.ret (false,v.1,(0:Int),(0:Int)))
theorem q2e0 C v:q3gg (regO (qct f101) 3) false (an [6,7,8]) q2du q2dz q2dy C v:=rgI (by kernel_rfl)
abbrev q2e1:Type:=Bool×Int×Int×Int×Int×Int×Int×Int×Int×Int×Int
def q2e2 (v:q2e1):St:=⟨[(3,.ptr 0 0),(4,.ptr 1 0),(5,.ptr 2 0),(6,.ptr 3 0),(24,.bool v.1)],[.cells [i6 v.2.1,i6 v.2.2.1,i6 v.2.2.2.1],.cells [i6 v.2.2.2.2.1,i6 v.2.2.2.2.2.1,i6 v.2.2.2.2.2.2.1],.cells [i6 v.2.2.2.2.2.2.2.1,i6 v.2.2.2.2.2.2.2.2.1],.cells [i6 v.2.2.2.2.2.2.2.2.2.1,i6 v.2.2.2.2.2.2.2.2.2.2]]⟩
def q2e3 (C:q2dg) (v:q2dt):Dt q2e1:=(Dt.bnd (C.2.2.1 ((v.2.2.2.2.2.1,v.2.2.2.2.2.2.1,v.2.2.2.2.2.2.2.1,()),(v.2.2.1,v.2.2.2.1,v.2.2.2.2.1,()),(v.2.2.2.2.2.2.2.2.1,v.2.2.2.2.2.2.2.2.2.1,()),())) fun r1=>(Dt.ret ((decide (r1 > (0:Int))),v.2.2.1,v.2.2.2.1,v.2.2.2.2.1,v.2.2.2.2.2.1,v.2.2.2.2.2.2.1,v.2.2.2.2.2.2.2.1,v.2.2.2.2.2.2.2.2.1,v.2.2.2.2.2.2.2.2.2.1,v.2.2.2.2.2.2.2.2.2.2.1,v.2.2.2.2.2.2.2.2.2.2.2)))
theorem q2e4 C v:q3gg (regO (qct f101) 4) false (an [3,4,5,6,24]) q2du q2e3 q2e2 C v:=rgI (by kernel_rfl)
def q2e5 (C:q2dg) (v:q2e1):Dt q2dx:=(Dt.ret (true,(0:Int),v.2.2.2.2.2.2.2.1,v.2.2.2.2.2.2.2.2.1))
theorem q2e6 C v:q3gg (regO (qct f101) 5) false (an [6,7,8]) q2e2 q2e5 q2dy C v:=rgI (by kernel_rfl)
abbrev q2e7:Type:=Bool×Int×Int×Int×Int×Int×Int×Int×Int
def q2e8 (v:q2e7):St:=⟨[(3,.ptr 0 0),(4,.ptr 1 0),(6,.ptr 2 0),(30,.bool v.1)],[.cells [i6 v.2.1,i6 v.2.2.1,i6 v.2.2.2.1],.cells [i6 v.2.2.2.2.1,i6 v.2.2.2.2.2.1,i6 v.2.2.2.2.2.2.1],.cells [i6 v.2.2.2.2.2.2.2.1,i6 v.2.2.2.2.2.2.2.2]]⟩
def q2e9 (C:q2dg) (v:q2e1):Dt q2e7:=(Dt.ret ((decide (v.2.2.2.2.2.2.1≤v.2.2.2.1)),v.2.1,v.2.2.1,v.2.2.2.1,v.2.2.2.2.1,v.2.2.2.2.2.1,v.2.2.2.2.2.2.1,v.2.2.2.2.2.2.2.2.2.1,v.2.2.2.2.2.2.2.2.2.2))
theorem q2ea C v:q3gg (regO (qct f101) 6) false (an [3,4,6,30]) q2e2 q2e9 q2e8 C v:=rgI (by kernel_rfl)
def q2eb (C:q2dg) (v:q2e7):Dt q2dx:=(Dt.ret (false,(0:Int),(0:Int),(0:Int)))
theorem q2ec C v:q3gg (regO (qct f101) 7) false (an [6,7,8]) q2e8 q2eb q2dy C v:=rgI (by kernel_rfl)
abbrev q2ed:Type:=Int×Int×Int×Int×Int
def q2ee (v:q2ed):St:=⟨[(6,.ptr 0 0),(10,.ptr 1 0),(11,i6 v.1)],[.cells [i6 v.2.1,i6 v.2.2.1],.cells [i6 v.2.2.2.1,i6 v.2.2.2.2]]⟩
def q2ef (C:q2dg) (v:q2e7):Dt q2ed:=(Dt.bnd (C.1 ((v.2.1,v.2.2.1,v.2.2.2.1,()),(v.2.2.2.2.1,v.2.2.2.2.2.1,v.2.2.2.2.2.2.1,()),())) fun r1=>(Dt.ret (r1.2.2,v.2.2.2.2.2.2.2.1,v.2.2.2.2.2.2.2.2,r1.1,r1.2.1)))
theorem q2eg C v:q3gg (regO (qct f101) 8) false (an [6,10,11]) q2e8 q2ef q2ee C v:=rgI (by kernel_rfl)
def q2eh (C:q2dg) (v:q2ed):Dt q2dx:=(Dt.ret ((v.1 == (0:Int)),v.1,v.2.2.2.1,v.2.2.2.2))
theorem q2ei C v:q3gg (regO (qct f101) 9) false (an [6,7,8]) q2ee q2eh q2dy C v:=rgI (by kernel_rfl)
def q2ej (d:Nat) (x:q2dc):Option q2dd :=
 (q2dn (q2dh d) (x.1.1,x.1.2.1,x.1.2.2.1,x.2.1.1,x.2.1.2.1,x.2.1.2.2.1,x.2.2.1.1,x.2.2.1.2.1)).eval fun y0 =>
 (q2dr (q2dh d) y0).eval fun y1 =>
 (q2dv (q2dh d) y1).eval fun y2 =>
 bif y2.2.1 then ((q2dz (q2dh d) y2).eval fun y3 =>
 some (y3.2.2.1,y3.2.2.2,y3.1,y3.2.1)) else ((q2e3 (q2dh d) y2).eval fun y4 =>
 bif y4.1 then ((q2e5 (q2dh d) y4).eval fun y5 =>
 some (y5.2.2.1,y5.2.2.2,y5.1,y5.2.1)) else ((q2e9 (q2dh d) y4).eval fun y6 =>
 bif y6.1 then ((q2eb (q2dh d) y6).eval fun y7 =>
 some (y7.2.2.1,y7.2.2.2,y7.1,y7.2.1)) else ((q2ef (q2dh d) y6).eval fun y8 =>
 (q2eh (q2dh d) y8).eval fun y9 =>
 some (y9.2.2.1,y9.2.2.2,y9.1,y9.2.1))))
theorem q2ek (d:Nat):COK prog (q2df (q2ej d)):=by
 have hm:prog.follows .mixedOrders=true:=mixed
 have hT:=tys
 have hC0:OrcOK prog (orc (q2di (q2dh d))):=qcn (by
  intro S hS
  simp only [q2di,List.mem_cons,List.not_mem_nil,or_false] at hS
  rcases hS with rfl | rfl | rfl
  · exact qxv d
  · exact qoo d
  · exact qv4 d)
 have hC:OrcOK prog (orc (q2di (q2dh d))):=hC0
 refine q8c (c:=qct f101) (fn:=f101) hT (by kernel_rfl) (by kernel_rfl) (by decide) fun x r h w0 φ0 Q hend=>?_
 replace h:q2ej d x=some r:=h
 unfold q2ej at h
 show Run prog w0 φ0 42 (qct f101) ⟨[(0,.agg [.int .i64 x.1.1,.int .i64 x.1.2.1,.int .i64 x.1.2.2.1]),(1,.agg [.int .i64 x.2.1.1,.int .i64 x.2.1.2.1,.int .i64 x.2.1.2.2.1]),(2,.agg [.int .i64 x.2.2.1.1,.int .i64 x.2.2.1.2.1])],[]⟩ Q
 refine q3f2 hm hT hC (q2do (q2dh d) (x.1.1,x.1.2.1,x.1.2.2.1,x.2.1.1,x.2.1.2.1,x.2.1.2.2.1,x.2.2.1.1,x.2.2.1.2.1)) h fun y0 h=>?_
 refine q7w ?_
 refine q3f2 hm hT hC (q2ds (q2dh d) y0) h fun y1 h=>?_
 refine q3f2 hm hT hC (q2dw (q2dh d) y1) h fun y2 h=>?_
 refine q80 (v:=y2.2.1) (by kernel_rfl) h ?_ ?_
 ·
  intro h
  refine q3f2 hm hT hC (q2e0 (q2dh d) y2) h fun y3 h=>?_
  refine q7v (q7k ?_)
  cases h
  exact (hend _ (by kernel_rfl)).2
 ·
  intro h
  refine q7s (q7i (q7w ?_))
  refine q3f2 hm hT hC (q2e4 (q2dh d) y2) h fun y4 h=>?_
  refine q80 (v:=y4.1) (by kernel_rfl) h ?_ ?_
  ·
   intro h
   refine q3f2 hm hT hC (q2e6 (q2dh d) y4) h fun y5 h=>?_
   refine q7v (q7k ?_)
   cases h
   exact (hend _ (by kernel_rfl)).2
  ·
   intro h
   refine q7s (q7i (q7w ?_))
   refine q3f2 hm hT hC (q2ea (q2dh d) y4) h fun y6 h=>?_
   refine q80 (v:=y6.1) (by kernel_rfl) h ?_ ?_
   ·
    intro h
    refine q3f2 hm hT hC (q2ec (q2dh d) y6) h fun y7 h=>?_
    refine q7v (q7k ?_)
    cases h
    exact (hend _ (by kernel_rfl)).2
   ·
    intro h
    refine q7s (q7i ?_)
    refine q3f2 hm hT hC (q2eg (q2dh d) y6) h fun y8 h=>?_
    refine q3f2 hm hT hC (q2ei (q2dh d) y8) h fun y9 h=>?_
    refine q7v ?_
    cases h
    exact (hend _ (by kernel_rfl)).2
abbrev q2el:List Pk:=[.row Rii true,.row Rii true]
abbrev q2em:Type:=Dii×Dii×Unit
abbrev q2en:Type:=Int
def q2eo (r:q2en):LV×List Ob:=(.int .i64 r,[])
def q2ep (F:q2em→Option q2en):Go.Tx.Spec:=⟨102,q2el,q2en,F,q2eo⟩
abbrev q2eq:Type:=(q14r→Option q14s)×Unit
def q2er (d:Nat):q2eq:=(q161 d,())
def q2es (C:q2eq):List Go.Tx.Spec:=[q14u C.1]
abbrev q2et:Type:=Int×Int×Int×Int
def q2eu (v:q2et):St:=⟨[(0,.agg [i6 v.1,i6 v.2.1]),(1,.agg [i6 v.2.2.1,i6 v.2.2.2])],[]⟩
abbrev q2ev:Type:=Int×Int×Int×Int
def q2ew (v:q2ev):St:=⟨[(2,.ptr 0 0),(3,.ptr 1 0)],[.cells [i6 v.1,i6 v.2.1],.cells [i6 v.2.2.1,i6 v.2.2.2]]⟩
def q2ex (C:q2eq) (v:q2et):Dt q2ev:=(Dt.ret (v.1,v.2.1,v.2.2.1,v.2.2.2))
abbrev q3gh {V Y:Type}:=@rg q2eq V Y tysT (fun C=>(orc (q2es C))) 14
theorem q2ey C v:q3gh (regO (qct f102) 0) false (an [2,3]) q2eu q2ex q2ew C v:=rgI (by kernel_rfl)
abbrev q2ez:Type:=Int
def q2f0 (v:q2ez):St:=⟨[(5,i6 v)],[]⟩
def q2f1 (C:q2eq) (v:q2ev):Dt q2ez:=(Dt.bnd (C.1 ((v.1,v.2.1,()),(v.2.2.1,v.2.2.2,()),())) fun r1=>(Dt.ret r1.1))
theorem q2f2 C v:q3gh (regO (qct f102) 1) false [(5,.any)] q2ew q2f1 q2f0 C v:=rgI (by kernel_rfl)
abbrev q2f3:Type:=Int
def q2f4 (v:q2f3):St:=⟨[(4,i6 v)],[]⟩
def q2f5 (C:q2eq) (v:q2ez):Dt q2f3:=(Dt.ret v)
theorem q2f6 C v:q3gh (regO (qct f102) 2) false [(4,.any)] q2f0 q2f5 q2f4 C v:=rgI (by kernel_rfl)
def q2f7 (d:Nat) (x:q2em):Option q2en :=
 (q2ex (q2er d) (x.1.1,x.1.2.1,x.2.1.1,x.2.1.2.1)).eval fun y0 =>
 (q2f1 (q2er d) y0).eval fun y1 =>
 (q2f5 (q2er d) y1).eval fun y2 =>
 some y2
theorem q2f8 (d:Nat):COK prog (q2ep (q2f7 d)):=by
 have hm:prog.follows .mixedOrders=true:=mixed
 have hT:=tys
 have hC0:OrcOK prog (orc (q2es (q2er d))):=qcn (by
  intro S hS
  simp only [q2es,List.mem_cons,List.not_mem_nil,or_false] at hS
  subst hS;exact q162 d)
 have hC:OrcOK prog (orc (q2es (q2er d))):=hC0
 refine q8c (c:=qct f102) (fn:=f102) hT (by kernel_rfl) (by kernel_rfl) (by decide) fun x r h w0 φ0 Q hend=>?_
 replace h:q2f7 d x=some r:=h
 unfold q2f7 at h
 show Run prog w0 φ0 14 (qct f102) ⟨[(0,.agg [.int .i64 x.1.1,.int .i64 x.1.2.1]),(1,.agg [.int .i64 x.2.1.1,.int .i64 x.2.1.2.1])],[]⟩ Q
 refine q3f2 hm hT hC (q2ey (q2er d) (x.1.1,x.1.2.1,x.2.1.1,x.2.1.2.1)) h fun y0 h=>?_
 refine q3f2 hm hT hC (q2f2 (q2er d) y0) h fun y1 h=>?_
 refine q3f2 hm hT hC (q2f6 (q2er d) y1) h fun y2 h=>?_
 refine q7v ?_
 cases h
 exact (hend _ (by kernel_rfl)).2
abbrev q2f9:List Pk:=[.row qj5 true,.row Rii true]
abbrev q2fa:Type:=qj6×Dii×Unit
abbrev q2fb:Type:=List Diii×Int
def q2fc (r:q2fb):LV×List Ob:=(.tup [.rs 0,.int .i64 r.2],[.rows Riii r.1])
def q2fd (F:q2fa→Option q2fb):Go.Tx.Spec:=⟨51,q2f9,q2fb,F,q2fc⟩
abbrev q2fe:Type:=(qw6→Option qw7)×(qvf→Option qvg)×(q2dc→Option q2dd)×(q2em→Option q2en)×(qoq→Option qor)×Unit
def q2ff (d:Nat):q2fe:=(qwb d,qvk d,q2ej d,q2f7 d,qov d,())
def q2fg (C:q2fe):List Go.Tx.Spec:=[qw9 C.1,qvi C.2.1,q2df C.2.2.1,q2ep C.2.2.2.1,qot C.2.2.2.2.1]
abbrev q2fh:Type:=List Diii×Int×Int
def q2fi (v:q2fh):St:=⟨[(0,.agg [.fz Riii v.1]),(1,.agg [i6 v.2.1,i6 v.2.2])],[]⟩
abbrev q2fj:Type:=List Diii×Int×Int
def q2fk (v:q2fj):St:=⟨[(2,.ptr 0 0),(3,.ptr 1 0)],[.cells [.fz Riii v.1],.cells [i6 v.2.1,i6 v.2.2]]⟩
def q2fl (C:q2fe) (v:q2fh):Dt q2fj:=(Dt.ret (v.1,v.2.1,v.2.2))
abbrev q3gi {V Y:Type}:=@rg q2fe V Y tysT (fun C=>(orc (q2fg C))) 101
theorem q2fm C v:q3gi (regO (qct f51) 0) false [(2,(.box [.val Riii])),(3,.any)] q2fi q2fl q2fk C v:=rgI (by kernel_rfl)
abbrev q2fn:Type:=Int×List Diii×Int×Int×List Di
def q2fo (v:q2fn):St:=⟨[(2,.ptr 0 0),(3,.ptr 1 0),(6,.rs 2),(7,i6 v.1)],[.cells [.fz Riii v.2.1],.cells [i6 v.2.2.1,i6 v.2.2.2.1],.rows Ri v.2.2.2.2]⟩
def q2fp (C:q2fe) (v:q2fj):Dt q2fn:=(Dt.bnd (C.1 ((v.1,()),(v.2.1,v.2.2,()),())) fun r1=>(Dt.ret (r1.2,v.1,v.2.1,v.2.2,r1.1)))
theorem q2fq C v:q3gi (regO (qct f51) 1) false [(2,(.box [.val Riii])),(3,.any),(6,(.own Ri)),(7,.any)] q2fk q2fp q2fo C v:=rgI (by kernel_rfl)
abbrev q2fr:Type:=Int×Bool×List Diii×Int×Int×List Di
def q2fs (v:q2fr):St:=⟨[(2,.ptr 0 0),(3,.ptr 1 0),(6,.rs 2),(7,i6 v.1),(28,.bool v.2.1)],[.cells [.fz Riii v.2.2.1],.cells [i6 v.2.2.2.1,i6 v.2.2.2.2.1],.rows Ri v.2.2.2.2.2]⟩
def q2ft (C:q2fe) (v:q2fn):Dt q2fr:=(Dt.ret (v.1,(v.1 != (0:Int)),v.2.1,v.2.2.1,v.2.2.2.1,v.2.2.2.2))
theorem q2fu C v:q3gi (regO (qct f51) 2) false [(2,(.box [.val Riii])),(3,.any),(6,(.own Ri)),(7,.any),(28,.any)] q2fo q2ft q2fs C v:=rgI (by kernel_rfl)
abbrev q2fv:Type:=Int×List Diii
def q2fw (v:q2fv):St:=⟨[(4,.rs 0),(5,i6 v.1)],[.rows Riii v.2]⟩
def q2fx (C:q2fe) (v:q2fr):Dt q2fv:=(Dt.ret (v.1,([]:List Diii)))
theorem q2fy C v:q3gi (regO (qct f51) 3) false [(4,(.own Riii)),(5,.any)] q2fs q2fx q2fw C v:=rgI (by kernel_rfl)
abbrev q2fz:Type:=Bool×List Diii×Int×Int×List Di
def q2g0 (v:q2fz):St:=⟨[(2,.ptr 0 0),(3,.ptr 1 0),(6,.rs 2),(32,.bool v.1)],[.cells [.fz Riii v.2.1],.cells [i6 v.2.2.1,i6 v.2.2.2.1],.rows Ri v.2.2.2.2]⟩
def q2g1 (C:q2fe) (v:q2fr):Dt q2fz:=(Dt.ret (((List.length v.2.2.2.2.2:Int) == (0:Int)),v.2.2.1,v.2.2.2.1,v.2.2.2.2.1,v.2.2.2.2.2))
theorem q2g2 C v:q3gi (regO (qct f51) 4) false [(2,(.box [.val Riii])),(3,.any),(6,(.own Ri)),(32,.any)] q2fs q2g1 q2g0 C v:=rgI (by kernel_rfl)
def q2g3 (C:q2fe) (v:q2fz):Dt q2fv:=(Dt.ret ((42:Int),([]:List Diii)))
theorem q2g4 C v:q3gi (regO (qct f51) 5) false [(4,(.own Riii)),(5,.any)] q2g0 q2g3 q2fw C v:=rgI (by kernel_rfl)
abbrev q2g5:Type:=List Diii×Int×Int×Int×Int×Int
def q2g6 (v:q2g5):St:=⟨[(2,.ptr 0 0),(3,.ptr 1 0),(8,.ptr 2 0)],[.cells [.fz Riii v.1],.cells [i6 v.2.1,i6 v.2.2.1],.cells [i6 v.2.2.2.1,i6 v.2.2.2.2.1,i6 v.2.2.2.2.2]]⟩
def q2g7 (C:q2fe) (v:q2fz):Dt q2g5:=(Dt.ite (inB (0:Int) (List.length v.2.2.2.2)) (Dt.bnd (C.2.1 ((v.2.1,()),((elt zi v.2.2.2.2 ((0:Int)).toNat).1,()),())) fun r1=>(Dt.ret (v.2.1,v.2.2.1,v.2.2.2.1,r1.1,r1.2.1,r1.2.2.1))) Dt.fail)
theorem q2g8 C v:q3gi (regO (qct f51) 6) true [(2,(.box [.val Riii])),(3,.any),(8,.any)] q2g0 q2g7 q2g6 C v:=rgI (by kernel_rfl)
abbrev q2g9:Type:=List Diii×Int×Int×Int×Int×Int×List Diii
def q2ga (v:q2g9):St:=⟨[(2,.ptr 0 0),(3,.ptr 1 0),(8,.ptr 2 0),(10,.rs 3)],[.cells [.fz Riii v.1],.cells [i6 v.2.1,i6 v.2.2.1],.cells [i6 v.2.2.2.1,i6 v.2.2.2.2.1,i6 v.2.2.2.2.2.1],.rows Riii v.2.2.2.2.2.2]⟩
def q2gb (C:q2fe) (v:q2g5):Dt q2g9:=(Dt.ret (v.1,v.2.1,v.2.2.1,v.2.2.2.1,v.2.2.2.2.1,v.2.2.2.2.2,([(v.2.1,v.2.2.1,v.2.2.2.1,())]:List Diii)))
theorem q2gc C v:q3gi (regO (qct f51) 7) false [(2,(.box [.val Riii])),(3,.any),(8,.any),(10,(.own Riii))] q2g6 q2gb q2ga C v:=rgI (by kernel_rfl)
abbrev q2gd:Type:=List Diii×Int×Int×Int×Int×Int×List Diii×Int×Int×Int
def q2ge (v:q2gd):St:=⟨[(2,.ptr 0 0),(3,.ptr 1 0),(8,.ptr 2 0),(10,.rs 3),(11,.ptr 4 0)],[.cells [.fz Riii v.1],.cells [i6 v.2.1,i6 v.2.2.1],.cells [i6 v.2.2.2.1,i6 v.2.2.2.2.1,i6 v.2.2.2.2.2.1],.rows Riii v.2.2.2.2.2.2.1,.cells [i6 v.2.2.2.2.2.2.2.1,i6 v.2.2.2.2.2.2.2.2.1,i6 v.2.2.2.2.2.2.2.2.2]]⟩
def q2gf (C:q2fe) (v:q2g9):Dt q2gd:=(Dt.ret (v.1,v.2.1,v.2.2.1,v.2.2.2.1,v.2.2.2.2.1,v.2.2.2.2.2.1,v.2.2.2.2.2.2,(0:Int),(0:Int),(0:Int)))
theorem q2gg C v:q3gi (regO (qct f51) 8) false [(2,(.box [.val Riii])),(3,.any),(8,.any),(10,(.own Riii)),(11,.any)] q2ga q2gf q2ge C v:=rgI (by kernel_rfl)
abbrev q2gh:Type:=List Diii×Int×Int×Int×Int×Int×List Diii×Int×Int×Int×Int×Int
def q2gi (v:q2gh):St:=⟨[(2,.ptr 0 0),(3,.ptr 1 0),(8,.ptr 2 0),(10,.rs 3),(11,.ptr 4 0),(12,.ptr 5 0)],[.cells [.fz Riii v.1],.cells [i6 v.2.1,i6 v.2.2.1],.cells [i6 v.2.2.2.1,i6 v.2.2.2.2.1,i6 v.2.2.2.2.2.1],.rows Riii v.2.2.2.2.2.2.1,.cells [i6 v.2.2.2.2.2.2.2.1,i6 v.2.2.2.2.2.2.2.2.1,i6 v.2.2.2.2.2.2.2.2.2.1],.cells [i6 v.2.2.2.2.2.2.2.2.2.2.1,i6 v.2.2.2.2.2.2.2.2.2.2.2]]⟩
def q2gj (C:q2fe) (v:q2gd):Dt q2gh:=(Dt.ret (v.1,v.2.1,v.2.2.1,v.2.2.2.1,v.2.2.2.2.1,v.2.2.2.2.2.1,v.2.2.2.2.2.2.1,v.2.2.2.2.2.2.2.1,v.2.2.2.2.2.2.2.2.1,v.2.2.2.2.2.2.2.2.2,(0:Int),(0:Int)))
theorem q2gk C v:q3gi (regO (qct f51) 9) false [(2,(.box [.val Riii])),(3,.any),(8,.any),(10,(.own Riii)),(11,.any),(12,.any)] q2ge q2gj q2gi C v:=rgI (by kernel_rfl)
abbrev q2gl:Type:=List Diii×Int×Int×List Diii×Int×Int×Int×Int×Int×List Diii×Int×Int×Int×Int×Int
def q2gm (v:q2gl):St:=⟨[(2,.ptr 0 0),(3,.ptr 1 0),(8,.ptr 2 0),(10,.rs 3),(11,.ptr 4 0),(12,.ptr 5 0),(47,.fz Riii v.1),(48,i6 v.2.1),(49,i6 v.2.2.1)],[.cells [.fz Riii v.2.2.2.1],.cells [i6 v.2.2.2.2.1,i6 v.2.2.2.2.2.1],.cells [i6 v.2.2.2.2.2.2.1,i6 v.2.2.2.2.2.2.2.1,i6 v.2.2.2.2.2.2.2.2.1],.rows Riii v.2.2.2.2.2.2.2.2.2.1,.cells [i6 v.2.2.2.2.2.2.2.2.2.2.1,i6 v.2.2.2.2.2.2.2.2.2.2.2.1,i6 v.2.2.2.2.2.2.2.2.2.2.2.2.1],.cells [i6 v.2.2.2.2.2.2.2.2.2.2.2.2.2.1,i6 v.2.2.2.2.2.2.2.2.2.2.2.2.2.2]]⟩
def q2gn (C:q2fe) (v:q2gh):Dt q2gl:=(Dt.ret (v.1,(List.length v.1:Int),(0:Int),v.1,v.2.1,v.2.2.1,v.2.2.2.1,v.2.2.2.2.1,v.2.2.2.2.2.1,v.2.2.2.2.2.2.1,v.2.2.2.2.2.2.2.1,v.2.2.2.2.2.2.2.2.1,v.2.2.2.2.2.2.2.2.2.1,v.2.2.2.2.2.2.2.2.2.2.1,v.2.2.2.2.2.2.2.2.2.2.2))
theorem q2go C v:q3gi (regO (qct f51) 10) false [(2,(.box [.val Riii])),(3,.any),(8,.any),(10,(.own Riii)),(11,.any),(12,.any),(47,(.val Riii)),(48,.any),(49,.any)] q2gi q2gn q2gm C v:=rgI (by kernel_rfl)
abbrev q2gp:Type:=List Diii×Int×Int×Bool×List Diii×Int×Int×Int×Int×Int×List Diii×Int×Int×Int×Int×Int
def q2gq (v:q2gp):St:=⟨[(2,.ptr 0 0),(3,.ptr 1 0),(8,.ptr 2 0),(10,.rs 3),(11,.ptr 4 0),(12,.ptr 5 0),(47,.fz Riii v.1),(48,i6 v.2.1),(49,i6 v.2.2.1),(50,.bool v.2.2.2.1)],[.cells [.fz Riii v.2.2.2.2.1],.cells [i6 v.2.2.2.2.2.1,i6 v.2.2.2.2.2.2.1],.cells [i6 v.2.2.2.2.2.2.2.1,i6 v.2.2.2.2.2.2.2.2.1,i6 v.2.2.2.2.2.2.2.2.2.1],.rows Riii v.2.2.2.2.2.2.2.2.2.2.1,.cells [i6 v.2.2.2.2.2.2.2.2.2.2.2.1,i6 v.2.2.2.2.2.2.2.2.2.2.2.2.1,i6 v.2.2.2.2.2.2.2.2.2.2.2.2.2.1],.cells [i6 v.2.2.2.2.2.2.2.2.2.2.2.2.2.2.1,i6 v.2.2.2.2.2.2.2.2.2.2.2.2.2.2.2]]⟩
def q2gr (C:q2fe) (v:q2gl):Dt q2gp:=(Dt.ret (v.1,v.2.1,v.2.2.1,(decide (v.2.2.1<v.2.1)),v.2.2.2.1,v.2.2.2.2.1,v.2.2.2.2.2.1,v.2.2.2.2.2.2.1,v.2.2.2.2.2.2.2.1,v.2.2.2.2.2.2.2.2.1,v.2.2.2.2.2.2.2.2.2.1,v.2.2.2.2.2.2.2.2.2.2.1,v.2.2.2.2.2.2.2.2.2.2.2.1,v.2.2.2.2.2.2.2.2.2.2.2.2.1,v.2.2.2.2.2.2.2.2.2.2.2.2.2.1,v.2.2.2.2.2.2.2.2.2.2.2.2.2.2))
theorem q2gs C v:q3gi (regO (qct f51) 11) false [(2,(.box [.val Riii])),(3,.any),(8,.any),(10,(.own Riii)),(11,.any),(12,.any),(47,(.val Riii)),(48,.any),(49,.any),(50,.any)] q2gm q2gr q2gq C v:=rgI (by kernel_rfl)
abbrev q2gt:Type:=List Diii×Int×Int×List Diii×Int×Int×Int×Int×Int×List Diii×Int×Int×Int×Int×Int×Int×Int×Int
def q2gu (v:q2gt):St:=⟨[(2,.ptr 0 0),(3,.ptr 1 0),(8,.ptr 2 0),(10,.rs 3),(11,.ptr 4 0),(12,.ptr 5 0),(14,.ptr 6 0),(47,.fz Riii v.1),(48,i6 v.2.1),(49,i6 v.2.2.1)],[.cells [.fz Riii v.2.2.2.1],.cells [i6 v.2.2.2.2.1,i6 v.2.2.2.2.2.1],.cells [i6 v.2.2.2.2.2.2.1,i6 v.2.2.2.2.2.2.2.1,i6 v.2.2.2.2.2.2.2.2.1],.rows Riii v.2.2.2.2.2.2.2.2.2.1,.cells [i6 v.2.2.2.2.2.2.2.2.2.2.1,i6 v.2.2.2.2.2.2.2.2.2.2.2.1,i6 v.2.2.2.2.2.2.2.2.2.2.2.2.1],.cells [i6 v.2.2.2.2.2.2.2.2.2.2.2.2.2.1,i6 v.2.2.2.2.2.2.2.2.2.2.2.2.2.2.1],.cells [i6 v.2.2.2.2.2.2.2.2.2.2.2.2.2.2.2.1,i6 v.2.2.2.2.2.2.2.2.2.2.2.2.2.2.2.2.1,i6 v.2.2.2.2.2.2.2.2.2.2.2.2.2.2.2.2.2]]⟩
def q2gv (C:q2fe) (v:q2gp):Dt q2gt:=(Dt.ite (inB v.2.2.1 (List.length v.1)) (Dt.ret (v.1,v.2.1,v.2.2.1,v.2.2.2.2.1,v.2.2.2.2.2.1,v.2.2.2.2.2.2.1,v.2.2.2.2.2.2.2.1,v.2.2.2.2.2.2.2.2.1,v.2.2.2.2.2.2.2.2.2.1,v.2.2.2.2.2.2.2.2.2.2.1,v.2.2.2.2.2.2.2.2.2.2.2.1,v.2.2.2.2.2.2.2.2.2.2.2.2.1,v.2.2.2.2.2.2.2.2.2.2.2.2.2.1,v.2.2.2.2.2.2.2.2.2.2.2.2.2.2.1,v.2.2.2.2.2.2.2.2.2.2.2.2.2.2.2,(elt ziii v.1 (v.2.2.1).toNat).1,(elt ziii v.1 (v.2.2.1).toNat).2.1,(elt ziii v.1 (v.2.2.1).toNat).2.2.1)) Dt.fail)
theorem q2gw C v:q3gi (regO (qct f51) 12) false [(2,(.box [.val Riii])),(3,.any),(8,.any),(10,(.own Riii)),(11,.any),(12,.any),(14,.any),(47,(.val Riii)),(48,.any),(49,.any)] q2gq q2gv q2gu C v:=rgI (by kernel_rfl)
abbrev q2gx:Type:=Bool×Int×List Diii×Int×Int×List Diii×Int×Int×Int×Int×Int×List Diii×Int×Int×Int×Int×Int×Int×Int×Int×Int×Int
def q2gy (v:q2gx):St:=⟨[(2,.ptr 0 0),(3,.ptr 1 0),(8,.ptr 2 0),(10,.rs 3),(11,.ptr 4 0),(12,.ptr 5 0),(14,.ptr 6 0),(15,.ptr 7 0),(16,.bool v.1),(17,i6 v.2.1),(47,.fz Riii v.2.2.1),(48,i6 v.2.2.2.1),(49,i6 v.2.2.2.2.1)],[.cells [.fz Riii v.2.2.2.2.2.1],.cells [i6 v.2.2.2.2.2.2.1,i6 v.2.2.2.2.2.2.2.1],.cells [i6 v.2.2.2.2.2.2.2.2.1,i6 v.2.2.2.2.2.2.2.2.2.1,i6 v.2.2.2.2.2.2.2.2.2.2.1],.rows Riii v.2.2.2.2.2.2.2.2.2.2.2.1,.cells [i6 v.2.2.2.2.2.2.2.2.2.2.2.2.1,i6 v.2.2.2.2.2.2.2.2.2.2.2.2.2.1,i6 v.2.2.2.2.2.2.2.2.2.2.2.2.2.2.1],.cells [i6 v.2.2.2.2.2.2.2.2.2.2.2.2.2.2.2.1,i6 v.2.2.2.2.2.2.2.2.2.2.2.2.2.2.2.2.1],.cells [i6 v.2.2.2.2.2.2.2.2.2.2.2.2.2.2.2.2.2.1,i6 v.2.2.2.2.2.2.2.2.2.2.2.2.2.2.2.2.2.2.1,i6 v.2.2.2.2.2.2.2.2.2.2.2.2.2.2.2.2.2.2.2.1],.cells [i6 v.2.2.2.2.2.2.2.2.2.2.2.2.2.2.2.2.2.2.2.2.1,i6 v.2.2.2.2.2.2.2.2.2.2.2.2.2.2.2.2.2.2.2.2.2]]⟩
def q2gz (C:q2fe) (v:q2gt):Dt q2gx:=(Dt.bnd (C.2.2.1 ((v.2.2.2.2.2.2.1,v.2.2.2.2.2.2.2.1,v.2.2.2.2.2.2.2.2.1,()),(v.2.2.2.2.2.2.2.2.2.2.2.2.2.2.2.1,v.2.2.2.2.2.2.2.2.2.2.2.2.2.2.2.2.1,v.2.2.2.2.2.2.2.2.2.2.2.2.2.2.2.2.2,()),(v.2.2.2.2.1,v.2.2.2.2.2.1,()),())) fun r1=>(Dt.ret (r1.2.2.1,r1.2.2.2,v.1,v.2.1,v.2.2.1,v.2.2.2.1,v.2.2.2.2.1,v.2.2.2.2.2.1,v.2.2.2.2.2.2.1,v.2.2.2.2.2.2.2.1,v.2.2.2.2.2.2.2.2.1,v.2.2.2.2.2.2.2.2.2.1,v.2.2.2.2.2.2.2.2.2.2.1,v.2.2.2.2.2.2.2.2.2.2.2.1,v.2.2.2.2.2.2.2.2.2.2.2.2.1,v.2.2.2.2.2.2.2.2.2.2.2.2.2.1,v.2.2.2.2.2.2.2.2.2.2.2.2.2.2.1,v.2.2.2.2.2.2.2.2.2.2.2.2.2.2.2.1,v.2.2.2.2.2.2.2.2.2.2.2.2.2.2.2.2.1,v.2.2.2.2.2.2.2.2.2.2.2.2.2.2.2.2.2,r1.1,r1.2.1)))
theorem q2h0 C v:q3gi (regO (qct f51) 13) false [(2,(.box [.val Riii])),(3,.any),(8,.any),(10,(.own Riii)),(11,.any),(12,.any),(14,.any),(15,.any),(16,.any),(17,.any),(47,(.val Riii)),(48,.any),(49,.any)] q2gu q2gz q2gy C v:=rgI (by kernel_rfl)
abbrev q2h1:Type:=List Diii×Int×Int×Bool×List Diii×Int×Int×Int×Int×Int×List Diii×Int×Int×Int×Int×Int×Int×Int×Int×Int×Int
def q2h2 (v:q2h1):St:=⟨[(2,.ptr 0 0),(3,.ptr 1 0),(8,.ptr 2 0),(10,.rs 3),(11,.ptr 4 0),(12,.ptr 5 0),(14,.ptr 6 0),(15,.ptr 7 0),(47,.fz Riii v.1),(48,i6 v.2.1),(49,i6 v.2.2.1),(66,.bool v.2.2.2.1)],[.cells [.fz Riii v.2.2.2.2.1],.cells [i6 v.2.2.2.2.2.1,i6 v.2.2.2.2.2.2.1],.cells [i6 v.2.2.2.2.2.2.2.1,i6 v.2.2.2.2.2.2.2.2.1,i6 v.2.2.2.2.2.2.2.2.2.1],.rows Riii v.2.2.2.2.2.2.2.2.2.2.1,.cells [i6 v.2.2.2.2.2.2.2.2.2.2.2.1,i6 v.2.2.2.2.2.2.2.2.2.2.2.2.1,i6 v.2.2.2.2.2.2.2.2.2.2.2.2.2.1],.cells [i6 v.2.2.2.2.2.2.2.2.2.2.2.2.2.2.1,i6 v.2.2.2.2.2.2.2.2.2.2.2.2.2.2.2.1],.cells [i6 v.2.2.2.2.2.2.2.2.2.2.2.2.2.2.2.2.1,i6 v.2.2.2.2.2.2.2.2.2.2.2.2.2.2.2.2.2.1,i6 v.2.2.2.2.2.2.2.2.2.2.2.2.2.2.2.2.2.2.1],.cells [i6 v.2.2.2.2.2.2.2.2.2.2.2.2.2.2.2.2.2.2.2.1,i6 v.2.2.2.2.2.2.2.2.2.2.2.2.2.2.2.2.2.2.2.2]]⟩
def q2h3 (C:q2fe) (v:q2gx):Dt q2h1:=(Dt.ite (v.2.1 != (0:Int)) (Dt.ret (v.2.2.1,v.2.2.2.1,v.2.2.2.2.1,true,v.2.2.2.2.2.1,v.2.2.2.2.2.2.1,v.2.2.2.2.2.2.2.1,v.2.2.2.2.2.2.2.2.1,v.2.2.2.2.2.2.2.2.2.1,v.2.2.2.2.2.2.2.2.2.2.1,v.2.2.2.2.2.2.2.2.2.2.2.1,v.2.2.2.2.2.2.2.2.2.2.2.2.1,v.2.2.2.2.2.2.2.2.2.2.2.2.2.1,v.2.2.2.2.2.2.2.2.2.2.2.2.2.2.1,v.2.2.2.2.2.2.2.2.2.2.2.2.2.2.2.1,v.2.2.2.2.2.2.2.2.2.2.2.2.2.2.2.2.1,v.2.2.2.2.2.2.2.2.2.2.2.2.2.2.2.2.2.1,v.2.2.2.2.2.2.2.2.2.2.2.2.2.2.2.2.2.2.1,v.2.2.2.2.2.2.2.2.2.2.2.2.2.2.2.2.2.2.2.1,v.2.2.2.2.2.2.2.2.2.2.2.2.2.2.2.2.2.2.2.2.1,v.2.2.2.2.2.2.2.2.2.2.2.2.2.2.2.2.2.2.2.2.2)) (Dt.ret (v.2.2.1,v.2.2.2.1,v.2.2.2.2.1,(!v.1),v.2.2.2.2.2.1,v.2.2.2.2.2.2.1,v.2.2.2.2.2.2.2.1,v.2.2.2.2.2.2.2.2.1,v.2.2.2.2.2.2.2.2.2.1,v.2.2.2.2.2.2.2.2.2.2.1,v.2.2.2.2.2.2.2.2.2.2.2.1,v.2.2.2.2.2.2.2.2.2.2.2.2.1,v.2.2.2.2.2.2.2.2.2.2.2.2.2.1,v.2.2.2.2.2.2.2.2.2.2.2.2.2.2.1,v.2.2.2.2.2.2.2.2.2.2.2.2.2.2.2.1,v.2.2.2.2.2.2.2.2.2.2.2.2.2.2.2.2.1,v.2.2.2.2.2.2.2.2.2.2.2.2.2.2.2.2.2.1,v.2.2.2.2.2.2.2.2.2.2.2.2.2.2.2.2.2.2.1,v.2.2.2.2.2.2.2.2.2.2.2.2.2.2.2.2.2.2.2.1,v.2.2.2.2.2.2.2.2.2.2.2.2.2.2.2.2.2.2.2.2.1,v.2.2.2.2.2.2.2.2.2.2.2.2.2.2.2.2.2.2.2.2.2)))
theorem q2h4 C v:q3gi (regO (qct f51) 14) false [(2,(.box [.val Riii])),(3,.any),(8,.any),(10,(.own Riii)),(11,.any),(12,.any),(14,.any),(15,.any),(47,(.val Riii)),(48,.any),(49,.any),(66,.any)] q2gy q2h3 q2h2 C v:=rgI (by kernel_rfl)
def q2h5 (C:q2fe) (v:q2gl):Dt q2gl:=(Dt.ret (v.1,v.2.1,(IntKind.wrap .i64 (v.2.2.1+(1:Int))),v.2.2.2.1,v.2.2.2.2.1,v.2.2.2.2.2.1,v.2.2.2.2.2.2.1,v.2.2.2.2.2.2.2.1,v.2.2.2.2.2.2.2.2.1,v.2.2.2.2.2.2.2.2.2.1,v.2.2.2.2.2.2.2.2.2.2.1,v.2.2.2.2.2.2.2.2.2.2.2.1,v.2.2.2.2.2.2.2.2.2.2.2.2.1,v.2.2.2.2.2.2.2.2.2.2.2.2.2.1,v.2.2.2.2.2.2.2.2.2.2.2.2.2.2))
theorem q2h6 C v:q3gi (regO (qct f51) 24) false [(2,(.box [.val Riii])),(3,.any),(8,.any),(10,(.own Riii)),(11,.any),(12,.any),(47,(.val Riii)),(48,.any),(49,.any)] q2gm q2h5 q2gm C v:=rgI (by kernel_rfl)
def q2h7  (d:Nat) (self1:(List Diii×Int×Int×Int×Int×Int×List Diii)→Option q2fb) (self2:(List Diii×Int×Int×List Diii×Int×Int×Int×Int×Int×List Diii×Int×Int×Int×Int×Int)→Option q2fb) (z:List Diii×Int×Int×List Diii×Int×Int×Int×Int×Int×List Diii×Int×Int×Int×Int×Int):Option (q2fb) :=
 (q2h5 (q2ff d) z).eval fun y24 =>
 self2 y24
abbrev q2h8:Type:=Int×List Diii×Int×Int×List Diii×Int×Int×Int×Int×Int×List Diii×Int×Int×Int×Int×Int×Int×Int×Int×Int×Int
def q2h9 (v:q2h8):St:=⟨[(2,.ptr 0 0),(3,.ptr 1 0),(8,.ptr 2 0),(10,.rs 3),(11,.ptr 4 0),(12,.ptr 5 0),(14,.ptr 6 0),(15,.ptr 7 0),(18,i6 v.1),(47,.fz Riii v.2.1),(48,i6 v.2.2.1),(49,i6 v.2.2.2.1)],[.cells [.fz Riii v.2.2.2.2.1],.cells [i6 v.2.2.2.2.2.1,i6 v.2.2.2.2.2.2.1],.cells [i6 v.2.2.2.2.2.2.2.1,i6 v.2.2.2.2.2.2.2.2.1,i6 v.2.2.2.2.2.2.2.2.2.1],.rows Riii v.2.2.2.2.2.2.2.2.2.2.1,.cells [i6 v.2.2.2.2.2.2.2.2.2.2.2.1,i6 v.2.2.2.2.2.2.2.2.2.2.2.2.1,i6 v.2.2.2.2.2.2.2.2.2.2.2.2.2.1],.cells [i6 v.2.2.2.2.2.2.2.2.2.2.2.2.2.2.1,i6 v.2.2.2.2.2.2.2.2.2.2.2.2.2.2.2.1],.cells [i6 v.2.2.2.2.2.2.2.2.2.2.2.2.2.2.2.2.1,i6 v.2.2.2.2.2.2.2.2.2.2.2.2.2.2.2.2.2.1,i6 v.2.2.2.2.2.2.2.2.2.2.2.2.2.2.2.2.2.2.1],.cells [i6 v.2.2.2.2.2.2.2.2.2.2.2.2.2.2.2.2.2.2.2.1,i6 v.2.2.2.2.2.2.2.2.2.2.2.2.2.2.2.2.2.2.2.2]]⟩
def q2ha (C:q2fe) (v:q2h1):Dt q2h8:=(Dt.ret ((-1:Int),v.1,v.2.1,v.2.2.1,v.2.2.2.2.1,v.2.2.2.2.2.1,v.2.2.2.2.2.2.1,v.2.2.2.2.2.2.2.1,v.2.2.2.2.2.2.2.2.1,v.2.2.2.2.2.2.2.2.2.1,v.2.2.2.2.2.2.2.2.2.2.1,v.2.2.2.2.2.2.2.2.2.2.2.1,v.2.2.2.2.2.2.2.2.2.2.2.2.1,v.2.2.2.2.2.2.2.2.2.2.2.2.2.1,v.2.2.2.2.2.2.2.2.2.2.2.2.2.2.1,v.2.2.2.2.2.2.2.2.2.2.2.2.2.2.2.1,v.2.2.2.2.2.2.2.2.2.2.2.2.2.2.2.2.1,v.2.2.2.2.2.2.2.2.2.2.2.2.2.2.2.2.2.1,v.2.2.2.2.2.2.2.2.2.2.2.2.2.2.2.2.2.2.1,v.2.2.2.2.2.2.2.2.2.2.2.2.2.2.2.2.2.2.2.1,v.2.2.2.2.2.2.2.2.2.2.2.2.2.2.2.2.2.2.2.2))
theorem q2hb C v:q3gi (regO (qct f51) 15) false [(2,(.box [.val Riii])),(3,.any),(8,.any),(10,(.own Riii)),(11,.any),(12,.any),(14,.any),(15,.any),(18,.any),(47,(.val Riii)),(48,.any),(49,.any)] q2h2 q2ha q2h9 C v:=rgI (by kernel_rfl)
abbrev q2hc:Type:=Int×List Diii×Int×Int×Bool×List Diii×Int×Int×Int×Int×Int×List Diii×Int×Int×Int×Int×Int×Int×Int×Int×Int×Int
def q2hd (v:q2hc):St:=⟨[(2,.ptr 0 0),(3,.ptr 1 0),(8,.ptr 2 0),(10,.rs 3),(11,.ptr 4 0),(12,.ptr 5 0),(14,.ptr 6 0),(15,.ptr 7 0),(18,i6 v.1),(47,.fz Riii v.2.1),(48,i6 v.2.2.1),(49,i6 v.2.2.2.1),(69,.bool v.2.2.2.2.1)],[.cells [.fz Riii v.2.2.2.2.2.1],.cells [i6 v.2.2.2.2.2.2.1,i6 v.2.2.2.2.2.2.2.1],.cells [i6 v.2.2.2.2.2.2.2.2.1,i6 v.2.2.2.2.2.2.2.2.2.1,i6 v.2.2.2.2.2.2.2.2.2.2.1],.rows Riii v.2.2.2.2.2.2.2.2.2.2.2.1,.cells [i6 v.2.2.2.2.2.2.2.2.2.2.2.2.1,i6 v.2.2.2.2.2.2.2.2.2.2.2.2.2.1,i6 v.2.2.2.2.2.2.2.2.2.2.2.2.2.2.1],.cells [i6 v.2.2.2.2.2.2.2.2.2.2.2.2.2.2.2.1,i6 v.2.2.2.2.2.2.2.2.2.2.2.2.2.2.2.2.1],.cells [i6 v.2.2.2.2.2.2.2.2.2.2.2.2.2.2.2.2.2.1,i6 v.2.2.2.2.2.2.2.2.2.2.2.2.2.2.2.2.2.2.1,i6 v.2.2.2.2.2.2.2.2.2.2.2.2.2.2.2.2.2.2.2.1],.cells [i6 v.2.2.2.2.2.2.2.2.2.2.2.2.2.2.2.2.2.2.2.2.1,i6 v.2.2.2.2.2.2.2.2.2.2.2.2.2.2.2.2.2.2.2.2.2]]⟩
def q2he (C:q2fe) (v:q2h8):Dt q2hc:=(Dt.ret (v.1,v.2.1,v.2.2.1,v.2.2.2.1,(decide (v.2.2.2.2.2.2.2.2.2.2.2.2.2.2.2.1 > (0:Int))),v.2.2.2.2.1,v.2.2.2.2.2.1,v.2.2.2.2.2.2.1,v.2.2.2.2.2.2.2.1,v.2.2.2.2.2.2.2.2.1,v.2.2.2.2.2.2.2.2.2.1,v.2.2.2.2.2.2.2.2.2.2.1,v.2.2.2.2.2.2.2.2.2.2.2.1,v.2.2.2.2.2.2.2.2.2.2.2.2.1,v.2.2.2.2.2.2.2.2.2.2.2.2.2.1,v.2.2.2.2.2.2.2.2.2.2.2.2.2.2.1,v.2.2.2.2.2.2.2.2.2.2.2.2.2.2.2.1,v.2.2.2.2.2.2.2.2.2.2.2.2.2.2.2.2.1,v.2.2.2.2.2.2.2.2.2.2.2.2.2.2.2.2.2.1,v.2.2.2.2.2.2.2.2.2.2.2.2.2.2.2.2.2.2.1,v.2.2.2.2.2.2.2.2.2.2.2.2.2.2.2.2.2.2.2.1,v.2.2.2.2.2.2.2.2.2.2.2.2.2.2.2.2.2.2.2.2))
theorem q2hf C v:q3gi (regO (qct f51) 16) false [(2,(.box [.val Riii])),(3,.any),(8,.any),(10,(.own Riii)),(11,.any),(12,.any),(14,.any),(15,.any),(18,.any),(47,(.val Riii)),(48,.any),(49,.any),(69,.any)] q2h9 q2he q2hd C v:=rgI (by kernel_rfl)
def q2hg (C:q2fe) (v:q2hc):Dt q2h8:=(Dt.bnd (C.2.2.2.1 ((v.2.2.2.2.2.2.2.2.2.2.2.2.2.2.2.2.2.2.2.2.1,v.2.2.2.2.2.2.2.2.2.2.2.2.2.2.2.2.2.2.2.2.2,()),(v.2.2.2.2.2.2.2.2.2.2.2.2.2.2.2.1,v.2.2.2.2.2.2.2.2.2.2.2.2.2.2.2.2.1,()),())) fun r1=>(Dt.ret (r1,v.2.1,v.2.2.1,v.2.2.2.1,v.2.2.2.2.2.1,v.2.2.2.2.2.2.1,v.2.2.2.2.2.2.2.1,v.2.2.2.2.2.2.2.2.1,v.2.2.2.2.2.2.2.2.2.1,v.2.2.2.2.2.2.2.2.2.2.1,v.2.2.2.2.2.2.2.2.2.2.2.1,v.2.2.2.2.2.2.2.2.2.2.2.2.1,v.2.2.2.2.2.2.2.2.2.2.2.2.2.1,v.2.2.2.2.2.2.2.2.2.2.2.2.2.2.1,v.2.2.2.2.2.2.2.2.2.2.2.2.2.2.2.1,v.2.2.2.2.2.2.2.2.2.2.2.2.2.2.2.2.1,v.2.2.2.2.2.2.2.2.2.2.2.2.2.2.2.2.2.1,v.2.2.2.2.2.2.2.2.2.2.2.2.2.2.2.2.2.2.1,v.2.2.2.2.2.2.2.2.2.2.2.2.2.2.2.2.2.2.2.1,v.2.2.2.2.2.2.2.2.2.2.2.2.2.2.2.2.2.2.2.2.1,v.2.2.2.2.2.2.2.2.2.2.2.2.2.2.2.2.2.2.2.2.2)))
theorem q2hh C v:q3gi (regO (qct f51) 17) false [(2,(.box [.val Riii])),(3,.any),(8,.any),(10,(.own Riii)),(11,.any),(12,.any),(14,.any),(15,.any),(18,.any),(47,(.val Riii)),(48,.any),(49,.any)] q2hd q2hg q2h9 C v:=rgI (by kernel_rfl)
abbrev q2hi:Type:=Int×List Diii×Int×Int×Bool×List Diii×Int×Int×Int×Int×Int×List Diii×Int×Int×Int×Int×Int×Int×Int×Int×Int×Int
def q2hj (v:q2hi):St:=⟨[(2,.ptr 0 0),(3,.ptr 1 0),(8,.ptr 2 0),(10,.rs 3),(11,.ptr 4 0),(12,.ptr 5 0),(14,.ptr 6 0),(15,.ptr 7 0),(18,i6 v.1),(47,.fz Riii v.2.1),(48,i6 v.2.2.1),(49,i6 v.2.2.2.1),(74,.bool v.2.2.2.2.1)],[.cells [.fz Riii v.2.2.2.2.2.1],.cells [i6 v.2.2.2.2.2.2.1,i6 v.2.2.2.2.2.2.2.1],.cells [i6 v.2.2.2.2.2.2.2.2.1,i6 v.2.2.2.2.2.2.2.2.2.1,i6 v.2.2.2.2.2.2.2.2.2.2.1],.rows Riii v.2.2.2.2.2.2.2.2.2.2.2.1,.cells [i6 v.2.2.2.2.2.2.2.2.2.2.2.2.1,i6 v.2.2.2.2.2.2.2.2.2.2.2.2.2.1,i6 v.2.2.2.2.2.2.2.2.2.2.2.2.2.2.1],.cells [i6 v.2.2.2.2.2.2.2.2.2.2.2.2.2.2.2.1,i6 v.2.2.2.2.2.2.2.2.2.2.2.2.2.2.2.2.1],.cells [i6 v.2.2.2.2.2.2.2.2.2.2.2.2.2.2.2.2.2.1,i6 v.2.2.2.2.2.2.2.2.2.2.2.2.2.2.2.2.2.2.1,i6 v.2.2.2.2.2.2.2.2.2.2.2.2.2.2.2.2.2.2.2.1],.cells [i6 v.2.2.2.2.2.2.2.2.2.2.2.2.2.2.2.2.2.2.2.2.1,i6 v.2.2.2.2.2.2.2.2.2.2.2.2.2.2.2.2.2.2.2.2.2]]⟩
def q2hk (C:q2fe) (v:q2h8):Dt q2hi:=(Dt.ret (v.1,v.2.1,v.2.2.1,v.2.2.2.1,(v.1 == (0:Int)),v.2.2.2.2.1,v.2.2.2.2.2.1,v.2.2.2.2.2.2.1,v.2.2.2.2.2.2.2.1,v.2.2.2.2.2.2.2.2.1,v.2.2.2.2.2.2.2.2.2.1,v.2.2.2.2.2.2.2.2.2.2.1,v.2.2.2.2.2.2.2.2.2.2.2.1,v.2.2.2.2.2.2.2.2.2.2.2.2.1,v.2.2.2.2.2.2.2.2.2.2.2.2.2.1,v.2.2.2.2.2.2.2.2.2.2.2.2.2.2.1,v.2.2.2.2.2.2.2.2.2.2.2.2.2.2.2.1,v.2.2.2.2.2.2.2.2.2.2.2.2.2.2.2.2.1,v.2.2.2.2.2.2.2.2.2.2.2.2.2.2.2.2.2.1,v.2.2.2.2.2.2.2.2.2.2.2.2.2.2.2.2.2.2.1,v.2.2.2.2.2.2.2.2.2.2.2.2.2.2.2.2.2.2.2.1,v.2.2.2.2.2.2.2.2.2.2.2.2.2.2.2.2.2.2.2.2))
theorem q2hl C v:q3gi (regO (qct f51) 18) false [(2,(.box [.val Riii])),(3,.any),(8,.any),(10,(.own Riii)),(11,.any),(12,.any),(14,.any),(15,.any),(18,.any),(47,(.val Riii)),(48,.any),(49,.any),(74,.any)] q2h9 q2hk q2hj C v:=rgI (by kernel_rfl)
abbrev q2hm:Type:=Int×Bool×List Diii×Int×Int×List Diii×Int×Int×Int×Int×Int×List Diii×Int×Int×Int×Int×Int×Int×Int×Int×Int×Int
def q2hn (v:q2hm):St:=⟨[(2,.ptr 0 0),(3,.ptr 1 0),(8,.ptr 2 0),(10,.rs 3),(11,.ptr 4 0),(12,.ptr 5 0),(14,.ptr 6 0),(15,.ptr 7 0),(18,i6 v.1),(19,.bool v.2.1),(47,.fz Riii v.2.2.1),(48,i6 v.2.2.2.1),(49,i6 v.2.2.2.2.1)],[.cells [.fz Riii v.2.2.2.2.2.1],.cells [i6 v.2.2.2.2.2.2.1,i6 v.2.2.2.2.2.2.2.1],.cells [i6 v.2.2.2.2.2.2.2.2.1,i6 v.2.2.2.2.2.2.2.2.2.1,i6 v.2.2.2.2.2.2.2.2.2.2.1],.rows Riii v.2.2.2.2.2.2.2.2.2.2.2.1,.cells [i6 v.2.2.2.2.2.2.2.2.2.2.2.2.1,i6 v.2.2.2.2.2.2.2.2.2.2.2.2.2.1,i6 v.2.2.2.2.2.2.2.2.2.2.2.2.2.2.1],.cells [i6 v.2.2.2.2.2.2.2.2.2.2.2.2.2.2.2.1,i6 v.2.2.2.2.2.2.2.2.2.2.2.2.2.2.2.2.1],.cells [i6 v.2.2.2.2.2.2.2.2.2.2.2.2.2.2.2.2.2.1,i6 v.2.2.2.2.2.2.2.2.2.2.2.2.2.2.2.2.2.2.1,i6 v.2.2.2.2.2.2.2.2.2.2.2.2.2.2.2.2.2.2.2.1],.cells [i6 v.2.2.2.2.2.2.2.2.2.2.2.2.2.2.2.2.2.2.2.2.1,i6 v.2.2.2.2.2.2.2.2.2.2.2.2.2.2.2.2.2.2.2.2.2]]⟩
def q2ho (C:q2fe) (v:q2hi):Dt q2hm:=(Dt.bnd (C.2.2.2.2.1 ((v.2.2.2.2.2.2.2.2.2.2.2.2.2.2.2.2.2.1,v.2.2.2.2.2.2.2.2.2.2.2.2.2.2.2.2.2.2.1,v.2.2.2.2.2.2.2.2.2.2.2.2.2.2.2.2.2.2.2.1,()),(v.2.2.2.2.2.2.2.2.2.2.2.2.1,v.2.2.2.2.2.2.2.2.2.2.2.2.2.1,v.2.2.2.2.2.2.2.2.2.2.2.2.2.2.1,()),(v.2.2.2.2.2.2.2.2.2.2.2.2.2.2.2.2.2.2.2.2.1,v.2.2.2.2.2.2.2.2.2.2.2.2.2.2.2.2.2.2.2.2.2,()),())) fun r1=>(Dt.ret (v.1,r1.1,v.2.1,v.2.2.1,v.2.2.2.1,v.2.2.2.2.2.1,v.2.2.2.2.2.2.1,v.2.2.2.2.2.2.2.1,v.2.2.2.2.2.2.2.2.1,v.2.2.2.2.2.2.2.2.2.1,v.2.2.2.2.2.2.2.2.2.2.1,v.2.2.2.2.2.2.2.2.2.2.2.1,v.2.2.2.2.2.2.2.2.2.2.2.2.1,v.2.2.2.2.2.2.2.2.2.2.2.2.2.1,v.2.2.2.2.2.2.2.2.2.2.2.2.2.2.1,v.2.2.2.2.2.2.2.2.2.2.2.2.2.2.2.1,v.2.2.2.2.2.2.2.2.2.2.2.2.2.2.2.2.1,v.2.2.2.2.2.2.2.2.2.2.2.2.2.2.2.2.2.1,v.2.2.2.2.2.2.2.2.2.2.2.2.2.2.2.2.2.2.1,v.2.2.2.2.2.2.2.2.2.2.2.2.2.2.2.2.2.2.2.1,v.2.2.2.2.2.2.2.2.2.2.2.2.2.2.2.2.2.2.2.2.1,v.2.2.2.2.2.2.2.2.2.2.2.2.2.2.2.2.2.2.2.2.2)))
theorem q2hp C v:q3gi (regO (qct f51) 19) false [(2,(.box [.val Riii])),(3,.any),(8,.any),(10,(.own Riii)),(11,.any),(12,.any),(14,.any),(15,.any),(18,.any),(19,.any),(47,(.val Riii)),(48,.any),(49,.any)] q2hj q2ho q2hn C v:=rgI (by kernel_rfl)
abbrev q2hq:Type:=Int×List Diii×Int×Int×Bool×List Diii×Int×Int×Int×Int×Int×List Diii×Int×Int×Int×Int×Int×Int×Int×Int×Int×Int
def q2hr (v:q2hq):St:=⟨[(2,.ptr 0 0),(3,.ptr 1 0),(8,.ptr 2 0),(10,.rs 3),(11,.ptr 4 0),(12,.ptr 5 0),(14,.ptr 6 0),(15,.ptr 7 0),(18,i6 v.1),(47,.fz Riii v.2.1),(48,i6 v.2.2.1),(49,i6 v.2.2.2.1),(82,.bool v.2.2.2.2.1)],[.cells [.fz Riii v.2.2.2.2.2.1],.cells [i6 v.2.2.2.2.2.2.1,i6 v.2.2.2.2.2.2.2.1],.cells [i6 v.2.2.2.2.2.2.2.2.1,i6 v.2.2.2.2.2.2.2.2.2.1,i6 v.2.2.2.2.2.2.2.2.2.2.1],.rows Riii v.2.2.2.2.2.2.2.2.2.2.2.1,.cells [i6 v.2.2.2.2.2.2.2.2.2.2.2.2.1,i6 v.2.2.2.2.2.2.2.2.2.2.2.2.2.1,i6 v.2.2.2.2.2.2.2.2.2.2.2.2.2.2.1],.cells [i6 v.2.2.2.2.2.2.2.2.2.2.2.2.2.2.2.1,i6 v.2.2.2.2.2.2.2.2.2.2.2.2.2.2.2.2.1],.cells [i6 v.2.2.2.2.2.2.2.2.2.2.2.2.2.2.2.2.2.1,i6 v.2.2.2.2.2.2.2.2.2.2.2.2.2.2.2.2.2.2.1,i6 v.2.2.2.2.2.2.2.2.2.2.2.2.2.2.2.2.2.2.2.1],.cells [i6 v.2.2.2.2.2.2.2.2.2.2.2.2.2.2.2.2.2.2.2.2.1,i6 v.2.2.2.2.2.2.2.2.2.2.2.2.2.2.2.2.2.2.2.2.2]]⟩
def q2hs (C:q2fe) (v:q2hm):Dt q2hq:=(Dt.ret (v.1,v.2.2.1,v.2.2.2.1,v.2.2.2.2.1,v.2.1,v.2.2.2.2.2.1,v.2.2.2.2.2.2.1,v.2.2.2.2.2.2.2.1,v.2.2.2.2.2.2.2.2.1,v.2.2.2.2.2.2.2.2.2.1,v.2.2.2.2.2.2.2.2.2.2.1,v.2.2.2.2.2.2.2.2.2.2.2.1,v.2.2.2.2.2.2.2.2.2.2.2.2.1,v.2.2.2.2.2.2.2.2.2.2.2.2.2.1,v.2.2.2.2.2.2.2.2.2.2.2.2.2.2.1,v.2.2.2.2.2.2.2.2.2.2.2.2.2.2.2.1,v.2.2.2.2.2.2.2.2.2.2.2.2.2.2.2.2.1,v.2.2.2.2.2.2.2.2.2.2.2.2.2.2.2.2.2.1,v.2.2.2.2.2.2.2.2.2.2.2.2.2.2.2.2.2.2.1,v.2.2.2.2.2.2.2.2.2.2.2.2.2.2.2.2.2.2.2.1,v.2.2.2.2.2.2.2.2.2.2.2.2.2.2.2.2.2.2.2.2.1,v.2.2.2.2.2.2.2.2.2.2.2.2.2.2.2.2.2.2.2.2.2))
theorem q2ht C v:q3gi (regO (qct f51) 20) false [(2,(.box [.val Riii])),(3,.any),(8,.any),(10,(.own Riii)),(11,.any),(12,.any),(14,.any),(15,.any),(18,.any),(47,(.val Riii)),(48,.any),(49,.any),(82,.any)] q2hn q2hs q2hr C v:=rgI (by kernel_rfl)
def q2hu (C:q2fe) (v:q2hq):Dt q2h8:=(Dt.ret ((-1:Int),v.2.1,v.2.2.1,v.2.2.2.1,v.2.2.2.2.2.1,v.2.2.2.2.2.2.1,v.2.2.2.2.2.2.2.1,v.2.2.2.2.2.2.2.2.1,v.2.2.2.2.2.2.2.2.2.1,v.2.2.2.2.2.2.2.2.2.2.1,v.2.2.2.2.2.2.2.2.2.2.2.1,v.2.2.2.2.2.2.2.2.2.2.2.2.1,v.2.2.2.2.2.2.2.2.2.2.2.2.2.1,v.2.2.2.2.2.2.2.2.2.2.2.2.2.2.1,v.2.2.2.2.2.2.2.2.2.2.2.2.2.2.2.1,v.2.2.2.2.2.2.2.2.2.2.2.2.2.2.2.2.1,v.2.2.2.2.2.2.2.2.2.2.2.2.2.2.2.2.2.1,v.2.2.2.2.2.2.2.2.2.2.2.2.2.2.2.2.2.2.1,v.2.2.2.2.2.2.2.2.2.2.2.2.2.2.2.2.2.2.2.1,v.2.2.2.2.2.2.2.2.2.2.2.2.2.2.2.2.2.2.2.2.1,v.2.2.2.2.2.2.2.2.2.2.2.2.2.2.2.2.2.2.2.2.2))
theorem q2hv C v:q3gi (regO (qct f51) 21) false [(2,(.box [.val Riii])),(3,.any),(8,.any),(10,(.own Riii)),(11,.any),(12,.any),(14,.any),(15,.any),(18,.any),(47,(.val Riii)),(48,.any),(49,.any)] q2hr q2hu q2h9 C v:=rgI (by kernel_rfl)
abbrev q2hw:Type:=List Diii×Int×Int×Bool×List Diii×Int×Int×Int×Int×Int×List Diii×Int×Int×Int×Int×Int×Int×Int×Int×Int×Int
def q2hx (v:q2hw):St:=⟨[(2,.ptr 0 0),(3,.ptr 1 0),(8,.ptr 2 0),(10,.rs 3),(11,.ptr 4 0),(12,.ptr 5 0),(14,.ptr 6 0),(15,.ptr 7 0),(47,.fz Riii v.1),(48,i6 v.2.1),(49,i6 v.2.2.1),(84,.bool v.2.2.2.1)],[.cells [.fz Riii v.2.2.2.2.1],.cells [i6 v.2.2.2.2.2.1,i6 v.2.2.2.2.2.2.1],.cells [i6 v.2.2.2.2.2.2.2.1,i6 v.2.2.2.2.2.2.2.2.1,i6 v.2.2.2.2.2.2.2.2.2.1],.rows Riii v.2.2.2.2.2.2.2.2.2.2.1,.cells [i6 v.2.2.2.2.2.2.2.2.2.2.2.1,i6 v.2.2.2.2.2.2.2.2.2.2.2.2.1,i6 v.2.2.2.2.2.2.2.2.2.2.2.2.2.1],.cells [i6 v.2.2.2.2.2.2.2.2.2.2.2.2.2.2.1,i6 v.2.2.2.2.2.2.2.2.2.2.2.2.2.2.2.1],.cells [i6 v.2.2.2.2.2.2.2.2.2.2.2.2.2.2.2.2.1,i6 v.2.2.2.2.2.2.2.2.2.2.2.2.2.2.2.2.2.1,i6 v.2.2.2.2.2.2.2.2.2.2.2.2.2.2.2.2.2.2.1],.cells [i6 v.2.2.2.2.2.2.2.2.2.2.2.2.2.2.2.2.2.2.2.1,i6 v.2.2.2.2.2.2.2.2.2.2.2.2.2.2.2.2.2.2.2.2]]⟩
def q2hy (C:q2fe) (v:q2h8):Dt q2hw:=(Dt.ret (v.2.1,v.2.2.1,v.2.2.2.1,(decide (v.1<(0:Int))),v.2.2.2.2.1,v.2.2.2.2.2.1,v.2.2.2.2.2.2.1,v.2.2.2.2.2.2.2.1,v.2.2.2.2.2.2.2.2.1,v.2.2.2.2.2.2.2.2.2.1,v.2.2.2.2.2.2.2.2.2.2.1,v.2.2.2.2.2.2.2.2.2.2.2.1,v.2.2.2.2.2.2.2.2.2.2.2.2.1,v.2.2.2.2.2.2.2.2.2.2.2.2.2.1,v.2.2.2.2.2.2.2.2.2.2.2.2.2.2.1,v.2.2.2.2.2.2.2.2.2.2.2.2.2.2.2.1,v.2.2.2.2.2.2.2.2.2.2.2.2.2.2.2.2.1,v.2.2.2.2.2.2.2.2.2.2.2.2.2.2.2.2.2.1,v.2.2.2.2.2.2.2.2.2.2.2.2.2.2.2.2.2.2.1,v.2.2.2.2.2.2.2.2.2.2.2.2.2.2.2.2.2.2.2.1,v.2.2.2.2.2.2.2.2.2.2.2.2.2.2.2.2.2.2.2.2))
theorem q2hz C v:q3gi (regO (qct f51) 22) false [(2,(.box [.val Riii])),(3,.any),(8,.any),(10,(.own Riii)),(11,.any),(12,.any),(14,.any),(15,.any),(47,(.val Riii)),(48,.any),(49,.any),(84,.any)] q2h9 q2hy q2hx C v:=rgI (by kernel_rfl)
def q2i0 (C:q2fe) (v:q2hw):Dt q2gl:=(Dt.ret (v.1,v.2.1,v.2.2.1,v.2.2.2.2.1,v.2.2.2.2.2.1,v.2.2.2.2.2.2.1,v.2.2.2.2.2.2.2.1,v.2.2.2.2.2.2.2.2.1,v.2.2.2.2.2.2.2.2.2.1,v.2.2.2.2.2.2.2.2.2.2.1,v.2.2.2.2.2.2.2.2.2.2.2.2.2.2.2.2.1,v.2.2.2.2.2.2.2.2.2.2.2.2.2.2.2.2.2.1,v.2.2.2.2.2.2.2.2.2.2.2.2.2.2.2.2.2.2.1,v.2.2.2.2.2.2.2.2.2.2.2.2.2.2.2.2.2.2.2.1,v.2.2.2.2.2.2.2.2.2.2.2.2.2.2.2.2.2.2.2.2))
theorem q2i1 C v:q3gi (regO (qct f51) 23) true [(2,(.box [.val Riii])),(3,.any),(8,.any),(10,(.own Riii)),(11,.any),(12,.any),(47,(.val Riii)),(48,.any),(49,.any)] q2hx q2i0 q2gm C v:=rgI (by kernel_rfl)
def q2i2  (d:Nat) (self1:(List Diii×Int×Int×Int×Int×Int×List Diii)→Option q2fb) (self2:(List Diii×Int×Int×List Diii×Int×Int×Int×Int×Int×List Diii×Int×Int×Int×Int×Int)→Option q2fb) (z:Int×List Diii×Int×Int×List Diii×Int×Int×Int×Int×Int×List Diii×Int×Int×Int×Int×Int×Int×Int×Int×Int×Int):Option (q2fb) :=
 (q2hy (q2ff d) z).eval fun y22 =>
 bif y22.2.2.2.1 then ((q2i0 (q2ff d) y22).eval fun y23 =>
 q2h7 d self1 self2 y23) else (q2h7 d self1 self2 (y22.1,y22.2.1,y22.2.2.1,y22.2.2.2.2.1,y22.2.2.2.2.2.1,y22.2.2.2.2.2.2.1,y22.2.2.2.2.2.2.2.1,y22.2.2.2.2.2.2.2.2.1,y22.2.2.2.2.2.2.2.2.2.1,y22.2.2.2.2.2.2.2.2.2.2.1,y22.2.2.2.2.2.2.2.2.2.2.2.1,y22.2.2.2.2.2.2.2.2.2.2.2.2.1,y22.2.2.2.2.2.2.2.2.2.2.2.2.2.1,y22.2.2.2.2.2.2.2.2.2.2.2.2.2.2.1,y22.2.2.2.2.2.2.2.2.2.2.2.2.2.2.2.1))
def q2i3  (d:Nat) (self1:(List Diii×Int×Int×Int×Int×Int×List Diii)→Option q2fb) (self2:(List Diii×Int×Int×List Diii×Int×Int×Int×Int×Int×List Diii×Int×Int×Int×Int×Int)→Option q2fb) (z:Int×List Diii×Int×Int×List Diii×Int×Int×Int×Int×Int×List Diii×Int×Int×Int×Int×Int×Int×Int×Int×Int×Int):Option (q2fb) :=
 (q2hk (q2ff d) z).eval fun y18 =>
 bif y18.2.2.2.2.1 then ((q2ho (q2ff d) y18).eval fun y19 =>
 (q2hs (q2ff d) y19).eval fun y20 =>
 bif y20.2.2.2.2.1 then ((q2hu (q2ff d) y20).eval fun y21 =>
 q2i2 d self1 self2 y21) else (q2i2 d self1 self2 (y20.1,y20.2.1,y20.2.2.1,y20.2.2.2.1,y20.2.2.2.2.2.1,y20.2.2.2.2.2.2.1,y20.2.2.2.2.2.2.2.1,y20.2.2.2.2.2.2.2.2.1,y20.2.2.2.2.2.2.2.2.2.1,y20.2.2.2.2.2.2.2.2.2.2.1,y20.2.2.2.2.2.2.2.2.2.2.2.1,y20.2.2.2.2.2.2.2.2.2.2.2.2.1,y20.2.2.2.2.2.2.2.2.2.2.2.2.2.1,y20.2.2.2.2.2.2.2.2.2.2.2.2.2.2.1,y20.2.2.2.2.2.2.2.2.2.2.2.2.2.2.2.1,y20.2.2.2.2.2.2.2.2.2.2.2.2.2.2.2.2.1,y20.2.2.2.2.2.2.2.2.2.2.2.2.2.2.2.2.2.1,y20.2.2.2.2.2.2.2.2.2.2.2.2.2.2.2.2.2.2.1,y20.2.2.2.2.2.2.2.2.2.2.2.2.2.2.2.2.2.2.2.1,y20.2.2.2.2.2.2.2.2.2.2.2.2.2.2.2.2.2.2.2.2.1,y20.2.2.2.2.2.2.2.2.2.2.2.2.2.2.2.2.2.2.2.2.2))) else (q2i2 d self1 self2 (y18.1,y18.2.1,y18.2.2.1,y18.2.2.2.1,y18.2.2.2.2.2.1,y18.2.2.2.2.2.2.1,y18.2.2.2.2.2.2.2.1,y18.2.2.2.2.2.2.2.2.1,y18.2.2.2.2.2.2.2.2.2.1,y18.2.2.2.2.2.2.2.2.2.2.1,y18.2.2.2.2.2.2.2.2.2.2.2.1,y18.2.2.2.2.2.2.2.2.2.2.2.2.1,y18.2.2.2.2.2.2.2.2.2.2.2.2.2.1,y18.2.2.2.2.2.2.2.2.2.2.2.2.2.2.1,y18.2.2.2.2.2.2.2.2.2.2.2.2.2.2.2.1,y18.2.2.2.2.2.2.2.2.2.2.2.2.2.2.2.2.1,y18.2.2.2.2.2.2.2.2.2.2.2.2.2.2.2.2.2.1,y18.2.2.2.2.2.2.2.2.2.2.2.2.2.2.2.2.2.2.1,y18.2.2.2.2.2.2.2.2.2.2.2.2.2.2.2.2.2.2.2.1,y18.2.2.2.2.2.2.2.2.2.2.2.2.2.2.2.2.2.2.2.2.1,y18.2.2.2.2.2.2.2.2.2.2.2.2.2.2.2.2.2.2.2.2.2))
abbrev q2i4:Type:=Bool×List Diii×Int×Int×Int×Int×Int×List Diii×Int×Int×Int×Int×Int
def q2i5 (v:q2i4):St:=⟨[(2,.ptr 0 0),(3,.ptr 1 0),(8,.ptr 2 0),(10,.rs 3),(11,.ptr 4 0),(12,.ptr 5 0),(90,.bool v.1)],[.cells [.fz Riii v.2.1],.cells [i6 v.2.2.1,i6 v.2.2.2.1],.cells [i6 v.2.2.2.2.1,i6 v.2.2.2.2.2.1,i6 v.2.2.2.2.2.2.1],.rows Riii v.2.2.2.2.2.2.2.1,.cells [i6 v.2.2.2.2.2.2.2.2.1,i6 v.2.2.2.2.2.2.2.2.2.1,i6 v.2.2.2.2.2.2.2.2.2.2.1],.cells [i6 v.2.2.2.2.2.2.2.2.2.2.2.1,i6 v.2.2.2.2.2.2.2.2.2.2.2.2]]⟩
def q2i6 (C:q2fe) (v:q2gp):Dt q2i4:=(Dt.ret ((v.2.2.2.2.2.2.2.2.2.2.2.2.2.2.2 == (0:Int)),v.2.2.2.2.1,v.2.2.2.2.2.1,v.2.2.2.2.2.2.1,v.2.2.2.2.2.2.2.1,v.2.2.2.2.2.2.2.2.1,v.2.2.2.2.2.2.2.2.2.1,v.2.2.2.2.2.2.2.2.2.2.1,v.2.2.2.2.2.2.2.2.2.2.2.1,v.2.2.2.2.2.2.2.2.2.2.2.2.1,v.2.2.2.2.2.2.2.2.2.2.2.2.2.1,v.2.2.2.2.2.2.2.2.2.2.2.2.2.2.1,v.2.2.2.2.2.2.2.2.2.2.2.2.2.2.2))
theorem q2i7 C v:q3gi (regO (qct f51) 25) false [(2,(.box [.val Riii])),(3,.any),(8,.any),(10,(.own Riii)),(11,.any),(12,.any),(90,.any)] q2gq q2i6 q2i5 C v:=rgI (by kernel_rfl)
def q2i8 (C:q2fe) (v:q2i4):Dt q2fv:=(Dt.ret ((0:Int),v.2.2.2.2.2.2.2.1))
theorem q2i9 C v:q3gi (regO (qct f51) 26) false [(4,(.own Riii)),(5,.any)] q2i5 q2i8 q2fw C v:=rgI (by kernel_rfl)
def q2ia (C:q2fe) (v:q2i4):Dt q2gh:=(Dt.ret (v.2.1,v.2.2.2.2.2.2.2.2.2.2.2.1,v.2.2.2.2.2.2.2.2.2.2.2.2,v.2.2.2.2.2.2.2.2.1,v.2.2.2.2.2.2.2.2.2.1,v.2.2.2.2.2.2.2.2.2.2.1,v.2.2.2.2.2.2.2.1,v.2.2.2.2.2.2.2.2.1,v.2.2.2.2.2.2.2.2.2.1,v.2.2.2.2.2.2.2.2.2.2.1,v.2.2.2.2.2.2.2.2.2.2.2.1,v.2.2.2.2.2.2.2.2.2.2.2.2))
theorem q2ib C v:q3gi (regO (qct f51) 27) true [(2,(.box [.val Riii])),(3,.any),(8,.any),(10,(.own Riii)),(11,.any),(12,.any)] q2i5 q2ia q2gi C v:=rgI (by kernel_rfl)
def q2ic (C:q2fe) (v:q2gh):Dt q2g9:=(Dt.ite (apB (List.length v.2.2.2.2.2.2.1) (List.length ([(v.2.2.2.2.2.2.2.2.2.2.1,v.2.2.2.2.2.2.2.2.2.2.2,v.2.2.2.2.2.2.2.1,())]:List Diii))) (Dt.ret (v.1,v.2.1,v.2.2.1,v.2.2.2.1,v.2.2.2.2.1,v.2.2.2.2.2.1,(v.2.2.2.2.2.2.1++([(v.2.2.2.2.2.2.2.2.2.2.1,v.2.2.2.2.2.2.2.2.2.2.2,v.2.2.2.2.2.2.2.1,())]:List Diii)))) Dt.fail)
theorem q2id C v:q3gi (regO (qct f51) 28) false [(2,(.box [.val Riii])),(3,.any),(8,.any),(10,(.own Riii))] q2gi q2ic q2ga C v:=rgI (by kernel_rfl)
def q2ie (d:Nat) (self1:(List Diii×Int×Int×Int×Int×Int×List Diii)→Option q2fb) (self2:(List Diii×Int×Int×List Diii×Int×Int×Int×Int×Int×List Diii×Int×Int×Int×Int×Int)→Option q2fb) (x2:List Diii×Int×Int×List Diii×Int×Int×Int×Int×Int×List Diii×Int×Int×Int×Int×Int):Option q2fb :=
 (q2gr (q2ff d) x2).eval fun y11 =>
 bif y11.2.2.2.1 then ((q2gv (q2ff d) y11).eval fun y12 =>
 (q2gz (q2ff d) y12).eval fun y13 =>
 (q2h3 (q2ff d) y13).eval fun y14 =>
 bif y14.2.2.2.1 then (q2h7 d self1 self2 (y14.1,y14.2.1,y14.2.2.1,y14.2.2.2.2.1,y14.2.2.2.2.2.1,y14.2.2.2.2.2.2.1,y14.2.2.2.2.2.2.2.1,y14.2.2.2.2.2.2.2.2.1,y14.2.2.2.2.2.2.2.2.2.1,y14.2.2.2.2.2.2.2.2.2.2.1,y14.2.2.2.2.2.2.2.2.2.2.2.1,y14.2.2.2.2.2.2.2.2.2.2.2.2.1,y14.2.2.2.2.2.2.2.2.2.2.2.2.2.1,y14.2.2.2.2.2.2.2.2.2.2.2.2.2.2.1,y14.2.2.2.2.2.2.2.2.2.2.2.2.2.2.2.1)) else ((q2ha (q2ff d) y14).eval fun y15 =>
 (q2he (q2ff d) y15).eval fun y16 =>
 bif y16.2.2.2.2.1 then ((q2hg (q2ff d) y16).eval fun y17 =>
 q2i3 d self1 self2 y17) else (q2i3 d self1 self2 (y16.1,y16.2.1,y16.2.2.1,y16.2.2.2.1,y16.2.2.2.2.2.1,y16.2.2.2.2.2.2.1,y16.2.2.2.2.2.2.2.1,y16.2.2.2.2.2.2.2.2.1,y16.2.2.2.2.2.2.2.2.2.1,y16.2.2.2.2.2.2.2.2.2.2.1,y16.2.2.2.2.2.2.2.2.2.2.2.1,y16.2.2.2.2.2.2.2.2.2.2.2.2.1,y16.2.2.2.2.2.2.2.2.2.2.2.2.2.1,y16.2.2.2.2.2.2.2.2.2.2.2.2.2.2.1,y16.2.2.2.2.2.2.2.2.2.2.2.2.2.2.2.1,y16.2.2.2.2.2.2.2.2.2.2.2.2.2.2.2.2.1,y16.2.2.2.2.2.2.2.2.2.2.2.2.2.2.2.2.2.1,y16.2.2.2.2.2.2.2.2.2.2.2.2.2.2.2.2.2.2.1,y16.2.2.2.2.2.2.2.2.2.2.2.2.2.2.2.2.2.2.2.1,y16.2.2.2.2.2.2.2.2.2.2.2.2.2.2.2.2.2.2.2.2.1,y16.2.2.2.2.2.2.2.2.2.2.2.2.2.2.2.2.2.2.2.2.2)))) else ((q2i6 (q2ff d) y11).eval fun y25 =>
 bif y25.1 then ((q2i8 (q2ff d) y25).eval fun y26 =>
 some (y26.2,y26.1)) else ((q2ia (q2ff d) y25).eval fun y27 =>
 (q2ic (q2ff d) y27).eval fun y28 =>
 self1 y28))
def q2if (d:Nat) (self1:(List Diii×Int×Int×Int×Int×Int×List Diii)→Option q2fb) (x1:List Diii×Int×Int×Int×Int×Int×List Diii):Option q2fb :=
 (q2gf (q2ff d) x1).eval fun y8 =>
 (q2gj (q2ff d) y8).eval fun y9 =>
 (q2gn (q2ff d) y9).eval fun y10 =>
 iter (q2ie d self1) d y10
def q2ig (d:Nat) (x:q2fa):Option q2fb :=
 (q2fl (q2ff d) (x.1.1,x.2.1.1,x.2.1.2.1)).eval fun y0 =>
 (q2fp (q2ff d) y0).eval fun y1 =>
 (q2ft (q2ff d) y1).eval fun y2 =>
 bif y2.2.1 then ((q2fx (q2ff d) y2).eval fun y3 =>
 some (y3.2,y3.1)) else ((q2g1 (q2ff d) y2).eval fun y4 =>
 bif y4.1 then ((q2g3 (q2ff d) y4).eval fun y5 =>
 some (y5.2,y5.1)) else ((q2g7 (q2ff d) y4).eval fun y6 =>
 (q2gb (q2ff d) y6).eval fun y7 =>
 iter (q2if d ) d y7))
theorem q2ih (d:Nat):COK prog (q2fd (q2ig d)):=by
 have hm:prog.follows .mixedOrders=true:=mixed
 have hT:=tys
 have hC0:OrcOK prog (orc (q2fg (q2ff d))):=qcn (by
  intro S hS
  simp only [q2fg,List.mem_cons,List.not_mem_nil,or_false] at hS
  rcases hS with rfl | rfl | rfl | rfl | rfl
  · exact qwd d
  · exact qvm d
  · exact q2ek d
  · exact q2f8 d
  · exact qox d)
 have hC:OrcOK prog (orc (q2fg (q2ff d))):=hC0
 refine q8c (c:=qct f51) (fn:=f51) hT (by kernel_rfl) (by kernel_rfl) (by decide) fun x r h w0 φ0 Q hend=>?_
 replace h:q2ig d x=some r:=h
 unfold q2ig at h
 show Run prog w0 φ0 101 (qct f51) ⟨[(0,.agg [.fz Riii x.1.1]),(1,.agg [.int .i64 x.2.1.1,.int .i64 x.2.1.2.1])],[]⟩ Q
 refine q3f2 hm hT hC (q2fm (q2ff d) (x.1.1,x.2.1.1,x.2.1.2.1)) h fun y0 h=>?_
 refine q3f2 hm hT hC (q2fq (q2ff d) y0) h fun y1 h=>?_
 refine q7w ?_
 refine q3f2 hm hT hC (q2fu (q2ff d) y1) h fun y2 h=>?_
 refine q80 (v:=y2.2.1) (by kernel_rfl) h ?_ ?_
 ·
  intro h
  refine q3f2 hm hT hC (q2fy (q2ff d) y2) h fun y3 h=>?_
  refine q7v (q7k ?_)
  cases h
  exact (hend _ (by kernel_rfl)).2
 ·
  intro h
  refine q7s (q7i (q7w ?_))
  refine q3f2 hm hT hC (q2g2 (q2ff d) y2) h fun y4 h=>?_
  refine q80 (v:=y4.1) (by kernel_rfl) h ?_ ?_
  ·
   intro h
   refine q3f2 hm hT hC (q2g4 (q2ff d) y4) h fun y5 h=>?_
   refine q7v (q7k ?_)
   cases h
   exact (hend _ (by kernel_rfl)).2
  ·
   intro h
   refine q7s (q7i ?_)
   refine q3f2 hm hT hC (q2g8 (q2ff d) y4) h fun y6 h=>?_
   refine q3f2 hm hT hC (q2gc (q2ff d) y6) h fun y7 h=>?_
   refine q7x ?_
   refine q82 (G:=iter (q2if d )) (S:=(fun x1=>⟨[(2,.ptr 0 0),(3,.ptr 1 0),(8,.ptr 2 0),(10,.rs 3)],[.cells [.fz Riii x1.1],.cells [i6 x1.2.1,i6 x1.2.2.1],.cells [i6 x1.2.2.2.1,i6 x1.2.2.2.2.1,i6 x1.2.2.2.2.2.1],.rows Riii x1.2.2.2.2.2.2]⟩:List Diii×Int×Int×Int×Int×Int×List Diii→St)) (fun _=>rfl) ?_ d _ h
   intro n1 x1 h K1 hn1
   replace h:q2if d  (iter (q2if d ) n1) x1=some r:=h
   generalize iter (q2if d ) n1=self1 at h hn1
   unfold q2if at h
   refine q7x ?_
   refine q3f2 hm hT hC (q2gg (q2ff d) x1) h fun y8 h=>?_
   refine q3f2 hm hT hC (q2gk (q2ff d) y8) h fun y9 h=>?_
   refine q7w ?_
   refine q3f2 hm hT hC (q2go (q2ff d) y9) h fun y10 h=>?_
   refine q7x ?_
   refine q82 (G:=iter (q2ie d self1)) (S:=(fun x2=>⟨[(2,.ptr 0 0),(3,.ptr 1 0),(8,.ptr 2 0),(10,.rs 3),(11,.ptr 4 0),(12,.ptr 5 0),(47,.fz Riii x2.1),(48,i6 x2.2.1),(49,i6 x2.2.2.1)],[.cells [.fz Riii x2.2.2.2.1],.cells [i6 x2.2.2.2.2.1,i6 x2.2.2.2.2.2.1],.cells [i6 x2.2.2.2.2.2.2.1,i6 x2.2.2.2.2.2.2.2.1,i6 x2.2.2.2.2.2.2.2.2.1],.rows Riii x2.2.2.2.2.2.2.2.2.2.1,.cells [i6 x2.2.2.2.2.2.2.2.2.2.2.1,i6 x2.2.2.2.2.2.2.2.2.2.2.2.1,i6 x2.2.2.2.2.2.2.2.2.2.2.2.2.1],.cells [i6 x2.2.2.2.2.2.2.2.2.2.2.2.2.2.1,i6 x2.2.2.2.2.2.2.2.2.2.2.2.2.2.2]]⟩:List Diii×Int×Int×List Diii×Int×Int×Int×Int×Int×List Diii×Int×Int×Int×Int×Int→St)) (fun _=>rfl) ?_ d _ h
   intro n2 x2 h K2 hn2
   replace h:q2ie d self1 (iter (q2ie d self1) n2) x2=some r:=h
   generalize iter (q2ie d self1) n2=self2 at h hn2
   unfold q2ie at h
   refine q3f2 hm hT hC (q2gs (q2ff d) x2) h fun y11 h=>?_
   refine q7w ?_
   refine q80 (v:=y11.2.2.2.1) (by kernel_rfl) h ?_ ?_
   ·
    intro h
    refine q7s (q7i ?_)
    refine q7z (r:=r) (F:=q2h7 d self1 self2) (S:=(fun z=>⟨[(2,.ptr 0 0),(3,.ptr 1 0),(8,.ptr 2 0),(10,.rs 3),(11,.ptr 4 0),(12,.ptr 5 0),(47,.fz Riii z.1),(48,i6 z.2.1),(49,i6 z.2.2.1)],[.cells [.fz Riii z.2.2.2.1],.cells [i6 z.2.2.2.2.1,i6 z.2.2.2.2.2.1],.cells [i6 z.2.2.2.2.2.2.1,i6 z.2.2.2.2.2.2.2.1,i6 z.2.2.2.2.2.2.2.2.1],.rows Riii z.2.2.2.2.2.2.2.2.2.1,.cells [i6 z.2.2.2.2.2.2.2.2.2.2.1,i6 z.2.2.2.2.2.2.2.2.2.2.2.1,i6 z.2.2.2.2.2.2.2.2.2.2.2.2.1],.cells [i6 z.2.2.2.2.2.2.2.2.2.2.2.2.2.1,i6 z.2.2.2.2.2.2.2.2.2.2.2.2.2.2]]⟩:List Diii×Int×Int×List Diii×Int×Int×Int×Int×Int×List Diii×Int×Int×Int×Int×Int→St)) ?_ ?_
    ·
     intro z h
     unfold q2h7 at h
     refine q81 hm hT hC (q2h6 (q2ff d) z) h ?_
     intro y24 h
     exact hn2 _ h
    intro hj3
    refine q7x ?_
    refine q3f2 hm hT hC (q2gw (q2ff d) y11) h fun y12 h=>?_
    refine q3f2 hm hT hC (q2h0 (q2ff d) y12) h fun y13 h=>?_
    refine q7w ?_
    refine q3f2 hm hT hC (q2h4 (q2ff d) y13) h fun y14 h=>?_
    refine q80 (v:=y14.2.2.2.1) (by kernel_rfl) h ?_ ?_
    ·
     intro h
     refine q7u (q7j (q7n ?_))
     refine qcs (s:=⟨[(2,.ptr 0 0),(3,.ptr 1 0),(8,.ptr 2 0),(10,.rs 3),(11,.ptr 4 0),(12,.ptr 5 0),(47,.fz Riii y14.1),(48,.int .i64 y14.2.1),(49,.int .i64 y14.2.2.1)],[.cells [.fz Riii y14.2.2.2.2.1],.cells [.int .i64 y14.2.2.2.2.2.1,.int .i64 y14.2.2.2.2.2.2.1],.cells [.int .i64 y14.2.2.2.2.2.2.2.1,.int .i64 y14.2.2.2.2.2.2.2.2.1,.int .i64 y14.2.2.2.2.2.2.2.2.2.1],.rows Riii y14.2.2.2.2.2.2.2.2.2.2.1,.cells [.int .i64 y14.2.2.2.2.2.2.2.2.2.2.2.1,.int .i64 y14.2.2.2.2.2.2.2.2.2.2.2.2.1,.int .i64 y14.2.2.2.2.2.2.2.2.2.2.2.2.2.1],.cells [.int .i64 y14.2.2.2.2.2.2.2.2.2.2.2.2.2.2.1,.int .i64 y14.2.2.2.2.2.2.2.2.2.2.2.2.2.2.2.1]]⟩) [14,15,66] (by kernel_rfl) ?_
     exact hj3 _ h
    ·
     intro h
     refine q7s (q7i ?_)
     refine q3f2 hm hT hC (q2hb (q2ff d) y14) h fun y15 h=>?_
     refine q7z (r:=r) (F:=q2i3 d self1 self2) (S:=(fun z=>⟨[(2,.ptr 0 0),(3,.ptr 1 0),(8,.ptr 2 0),(10,.rs 3),(11,.ptr 4 0),(12,.ptr 5 0),(14,.ptr 6 0),(15,.ptr 7 0),(18,i6 z.1),(47,.fz Riii z.2.1),(48,i6 z.2.2.1),(49,i6 z.2.2.2.1)],[.cells [.fz Riii z.2.2.2.2.1],.cells [i6 z.2.2.2.2.2.1,i6 z.2.2.2.2.2.2.1],.cells [i6 z.2.2.2.2.2.2.2.1,i6 z.2.2.2.2.2.2.2.2.1,i6 z.2.2.2.2.2.2.2.2.2.1],.rows Riii z.2.2.2.2.2.2.2.2.2.2.1,.cells [i6 z.2.2.2.2.2.2.2.2.2.2.2.1,i6 z.2.2.2.2.2.2.2.2.2.2.2.2.1,i6 z.2.2.2.2.2.2.2.2.2.2.2.2.2.1],.cells [i6 z.2.2.2.2.2.2.2.2.2.2.2.2.2.2.1,i6 z.2.2.2.2.2.2.2.2.2.2.2.2.2.2.2.1],.cells [i6 z.2.2.2.2.2.2.2.2.2.2.2.2.2.2.2.2.1,i6 z.2.2.2.2.2.2.2.2.2.2.2.2.2.2.2.2.2.1,i6 z.2.2.2.2.2.2.2.2.2.2.2.2.2.2.2.2.2.2.1],.cells [i6 z.2.2.2.2.2.2.2.2.2.2.2.2.2.2.2.2.2.2.2.1,i6 z.2.2.2.2.2.2.2.2.2.2.2.2.2.2.2.2.2.2.2.2]]⟩:Int×List Diii×Int×Int×List Diii×Int×Int×Int×Int×Int×List Diii×Int×Int×Int×Int×Int×Int×Int×Int×Int×Int→St)) ?_ ?_
     ·
      intro z h
      unfold q2i3 at h
      refine q7z (r:=r) (F:=q2i2 d self1 self2) (S:=(fun z=>⟨[(2,.ptr 0 0),(3,.ptr 1 0),(8,.ptr 2 0),(10,.rs 3),(11,.ptr 4 0),(12,.ptr 5 0),(14,.ptr 6 0),(15,.ptr 7 0),(18,i6 z.1),(47,.fz Riii z.2.1),(48,i6 z.2.2.1),(49,i6 z.2.2.2.1)],[.cells [.fz Riii z.2.2.2.2.1],.cells [i6 z.2.2.2.2.2.1,i6 z.2.2.2.2.2.2.1],.cells [i6 z.2.2.2.2.2.2.2.1,i6 z.2.2.2.2.2.2.2.2.1,i6 z.2.2.2.2.2.2.2.2.2.1],.rows Riii z.2.2.2.2.2.2.2.2.2.2.1,.cells [i6 z.2.2.2.2.2.2.2.2.2.2.2.1,i6 z.2.2.2.2.2.2.2.2.2.2.2.2.1,i6 z.2.2.2.2.2.2.2.2.2.2.2.2.2.1],.cells [i6 z.2.2.2.2.2.2.2.2.2.2.2.2.2.2.1,i6 z.2.2.2.2.2.2.2.2.2.2.2.2.2.2.2.1],.cells [i6 z.2.2.2.2.2.2.2.2.2.2.2.2.2.2.2.2.1,i6 z.2.2.2.2.2.2.2.2.2.2.2.2.2.2.2.2.2.1,i6 z.2.2.2.2.2.2.2.2.2.2.2.2.2.2.2.2.2.2.1],.cells [i6 z.2.2.2.2.2.2.2.2.2.2.2.2.2.2.2.2.2.2.2.1,i6 z.2.2.2.2.2.2.2.2.2.2.2.2.2.2.2.2.2.2.2.2]]⟩:Int×List Diii×Int×Int×List Diii×Int×Int×Int×Int×Int×List Diii×Int×Int×Int×Int×Int×Int×Int×Int×Int×Int→St)) ?_ ?_
      ·
       intro z h
       unfold q2i2 at h
       refine q3f2 hm hT hC (q2hz (q2ff d) z) h fun y22 h=>?_
       refine q80 (v:=y22.2.2.2.1) (by kernel_rfl) h ?_ ?_
       ·
        intro h
        refine q81 hm hT hC (q2i1 (q2ff d) y22) h ?_
        intro y23 h
        refine q7l ?_
        exact hj3 _ h
       ·
        intro h
        refine q7s (q7l ?_)
        refine qcs (s:=⟨[(2,.ptr 0 0),(3,.ptr 1 0),(8,.ptr 2 0),(10,.rs 3),(11,.ptr 4 0),(12,.ptr 5 0),(47,.fz Riii y22.1),(48,.int .i64 y22.2.1),(49,.int .i64 y22.2.2.1),(84,.bool y22.2.2.2.1)],[.cells [.fz Riii y22.2.2.2.2.1],.cells [.int .i64 y22.2.2.2.2.2.1,.int .i64 y22.2.2.2.2.2.2.1],.cells [.int .i64 y22.2.2.2.2.2.2.2.1,.int .i64 y22.2.2.2.2.2.2.2.2.1,.int .i64 y22.2.2.2.2.2.2.2.2.2.1],.rows Riii y22.2.2.2.2.2.2.2.2.2.2.1,.cells [.int .i64 y22.2.2.2.2.2.2.2.2.2.2.2.1,.int .i64 y22.2.2.2.2.2.2.2.2.2.2.2.2.1,.int .i64 y22.2.2.2.2.2.2.2.2.2.2.2.2.2.1],.cells [.int .i64 y22.2.2.2.2.2.2.2.2.2.2.2.2.2.2.1,.int .i64 y22.2.2.2.2.2.2.2.2.2.2.2.2.2.2.2.1]]⟩) [14,15] (by kernel_rfl) ?_
        refine qcs (s:=⟨[(2,.ptr 0 0),(3,.ptr 1 0),(8,.ptr 2 0),(10,.rs 3),(11,.ptr 4 0),(12,.ptr 5 0),(47,.fz Riii y22.1),(48,.int .i64 y22.2.1),(49,.int .i64 y22.2.2.1)],[.cells [.fz Riii y22.2.2.2.2.1],.cells [.int .i64 y22.2.2.2.2.2.1,.int .i64 y22.2.2.2.2.2.2.1],.cells [.int .i64 y22.2.2.2.2.2.2.2.1,.int .i64 y22.2.2.2.2.2.2.2.2.1,.int .i64 y22.2.2.2.2.2.2.2.2.2.1],.rows Riii y22.2.2.2.2.2.2.2.2.2.2.1,.cells [.int .i64 y22.2.2.2.2.2.2.2.2.2.2.2.1,.int .i64 y22.2.2.2.2.2.2.2.2.2.2.2.2.1,.int .i64 y22.2.2.2.2.2.2.2.2.2.2.2.2.2.1],.cells [.int .i64 y22.2.2.2.2.2.2.2.2.2.2.2.2.2.2.1,.int .i64 y22.2.2.2.2.2.2.2.2.2.2.2.2.2.2.2.1]]⟩) [84] (by kernel_rfl) ?_
        exact hj3 _ h
      intro hj5
      refine q3f2 hm hT hC (q2hl (q2ff d) z) h fun y18 h=>?_
      refine q80 (v:=y18.2.2.2.2.1) (by kernel_rfl) h ?_ ?_
      ·
       intro h
       refine q3f2 hm hT hC (q2hp (q2ff d) y18) h fun y19 h=>?_
       refine q3f2 hm hT hC (q2ht (q2ff d) y19) h fun y20 h=>?_
       refine q80 (v:=y20.2.2.2.2.1) (by kernel_rfl) h ?_ ?_
       ·
        intro h
        refine q81 hm hT hC (q2hv (q2ff d) y20) h ?_
        intro y21 h
        exact hj5 _ h
       ·
        intro h
        refine q7s ?_
        refine qcs (s:=⟨[(2,.ptr 0 0),(3,.ptr 1 0),(8,.ptr 2 0),(10,.rs 3),(11,.ptr 4 0),(12,.ptr 5 0),(14,.ptr 6 0),(15,.ptr 7 0),(18,.int .i64 y20.1),(47,.fz Riii y20.2.1),(48,.int .i64 y20.2.2.1),(49,.int .i64 y20.2.2.2.1)],[.cells [.fz Riii y20.2.2.2.2.2.1],.cells [.int .i64 y20.2.2.2.2.2.2.1,.int .i64 y20.2.2.2.2.2.2.2.1],.cells [.int .i64 y20.2.2.2.2.2.2.2.2.1,.int .i64 y20.2.2.2.2.2.2.2.2.2.1,.int .i64 y20.2.2.2.2.2.2.2.2.2.2.1],.rows Riii y20.2.2.2.2.2.2.2.2.2.2.2.1,.cells [.int .i64 y20.2.2.2.2.2.2.2.2.2.2.2.2.1,.int .i64 y20.2.2.2.2.2.2.2.2.2.2.2.2.2.1,.int .i64 y20.2.2.2.2.2.2.2.2.2.2.2.2.2.2.1],.cells [.int .i64 y20.2.2.2.2.2.2.2.2.2.2.2.2.2.2.2.1,.int .i64 y20.2.2.2.2.2.2.2.2.2.2.2.2.2.2.2.2.1],.cells [.int .i64 y20.2.2.2.2.2.2.2.2.2.2.2.2.2.2.2.2.2.1,.int .i64 y20.2.2.2.2.2.2.2.2.2.2.2.2.2.2.2.2.2.2.1,.int .i64 y20.2.2.2.2.2.2.2.2.2.2.2.2.2.2.2.2.2.2.2.1],.cells [.int .i64 y20.2.2.2.2.2.2.2.2.2.2.2.2.2.2.2.2.2.2.2.2.1,.int .i64 y20.2.2.2.2.2.2.2.2.2.2.2.2.2.2.2.2.2.2.2.2.2]]⟩) [82] (by kernel_rfl) ?_
        exact hj5 _ h
      ·
       intro h
       refine q7s ?_
       refine qcs (s:=⟨[(2,.ptr 0 0),(3,.ptr 1 0),(8,.ptr 2 0),(10,.rs 3),(11,.ptr 4 0),(12,.ptr 5 0),(14,.ptr 6 0),(15,.ptr 7 0),(18,.int .i64 y18.1),(47,.fz Riii y18.2.1),(48,.int .i64 y18.2.2.1),(49,.int .i64 y18.2.2.2.1)],[.cells [.fz Riii y18.2.2.2.2.2.1],.cells [.int .i64 y18.2.2.2.2.2.2.1,.int .i64 y18.2.2.2.2.2.2.2.1],.cells [.int .i64 y18.2.2.2.2.2.2.2.2.1,.int .i64 y18.2.2.2.2.2.2.2.2.2.1,.int .i64 y18.2.2.2.2.2.2.2.2.2.2.1],.rows Riii y18.2.2.2.2.2.2.2.2.2.2.2.1,.cells [.int .i64 y18.2.2.2.2.2.2.2.2.2.2.2.2.1,.int .i64 y18.2.2.2.2.2.2.2.2.2.2.2.2.2.1,.int .i64 y18.2.2.2.2.2.2.2.2.2.2.2.2.2.2.1],.cells [.int .i64 y18.2.2.2.2.2.2.2.2.2.2.2.2.2.2.2.1,.int .i64 y18.2.2.2.2.2.2.2.2.2.2.2.2.2.2.2.2.1],.cells [.int .i64 y18.2.2.2.2.2.2.2.2.2.2.2.2.2.2.2.2.2.1,.int .i64 y18.2.2.2.2.2.2.2.2.2.2.2.2.2.2.2.2.2.2.1,.int .i64 y18.2.2.2.2.2.2.2.2.2.2.2.2.2.2.2.2.2.2.2.1],.cells [.int .i64 y18.2.2.2.2.2.2.2.2.2.2.2.2.2.2.2.2.2.2.2.2.1,.int .i64 y18.2.2.2.2.2.2.2.2.2.2.2.2.2.2.2.2.2.2.2.2.2]]⟩) [74] (by kernel_rfl) ?_
       exact hj5 _ h
     intro hj4
     refine q3f2 hm hT hC (q2hf (q2ff d) y15) h fun y16 h=>?_
     refine q80 (v:=y16.2.2.2.2.1) (by kernel_rfl) h ?_ ?_
     ·
      intro h
      refine q81 hm hT hC (q2hh (q2ff d) y16) h ?_
      intro y17 h
      exact hj4 _ h
     ·
      intro h
      refine q7s ?_
      refine qcs (s:=⟨[(2,.ptr 0 0),(3,.ptr 1 0),(8,.ptr 2 0),(10,.rs 3),(11,.ptr 4 0),(12,.ptr 5 0),(14,.ptr 6 0),(15,.ptr 7 0),(18,.int .i64 y16.1),(47,.fz Riii y16.2.1),(48,.int .i64 y16.2.2.1),(49,.int .i64 y16.2.2.2.1)],[.cells [.fz Riii y16.2.2.2.2.2.1],.cells [.int .i64 y16.2.2.2.2.2.2.1,.int .i64 y16.2.2.2.2.2.2.2.1],.cells [.int .i64 y16.2.2.2.2.2.2.2.2.1,.int .i64 y16.2.2.2.2.2.2.2.2.2.1,.int .i64 y16.2.2.2.2.2.2.2.2.2.2.1],.rows Riii y16.2.2.2.2.2.2.2.2.2.2.2.1,.cells [.int .i64 y16.2.2.2.2.2.2.2.2.2.2.2.2.1,.int .i64 y16.2.2.2.2.2.2.2.2.2.2.2.2.2.1,.int .i64 y16.2.2.2.2.2.2.2.2.2.2.2.2.2.2.1],.cells [.int .i64 y16.2.2.2.2.2.2.2.2.2.2.2.2.2.2.2.1,.int .i64 y16.2.2.2.2.2.2.2.2.2.2.2.2.2.2.2.2.1],.cells [.int .i64 y16.2.2.2.2.2.2.2.2.2.2.2.2.2.2.2.2.2.1,.int .i64 y16.2.2.2.2.2.2.2.2.2.2.2.2.2.2.2.2.2.2.1,.int .i64 y16.2.2.2.2.2.2.2.2.2.2.2.2.2.2.2.2.2.2.2.1],.cells [.int .i64 y16.2.2.2.2.2.2.2.2.2.2.2.2.2.2.2.2.2.2.2.2.1,.int .i64 y16.2.2.2.2.2.2.2.2.2.2.2.2.2.2.2.2.2.2.2.2.2]]⟩) [69] (by kernel_rfl) ?_
      exact hj4 _ h
   ·
    intro h
    refine q7u (q7j (q7j (q7n (q7i (q7w ?_)))))
    refine q3f2 hm hT hC (q2i7 (q2ff d) y11) h fun y25 h=>?_
    refine q80 (v:=y25.1) (by kernel_rfl) h ?_ ?_
    ·
     intro h
     refine q3f2 hm hT hC (q2i9 (q2ff d) y25) h fun y26 h=>?_
     refine q7v (q7k (q7m (q7k (q7m ?_))))
     cases h
     exact (hend _ (by kernel_rfl)).2
    ·
     intro h
     refine q7s (q7i ?_)
     refine q3f2 hm hT hC (q2ib (q2ff d) y25) h fun y27 h=>?_
     refine q81 hm hT hC (q2id (q2ff d) y27) h ?_
     intro y28 h
     refine q7l ?_
     exact hn1 _ h
abbrev q2ii:List Pk:=[.row qj5 false]
abbrev q2ij:Type:=qj6×Unit
abbrev q2ik:Type:=Int
def q2il (r:q2ik):LV×List Ob:=(.int .i64 r,[])
def q2im (F:q2ij→Option q2ik):Go.Tx.Spec:=⟨128,q2ii,q2ik,F,q2il⟩
abbrev q2in:Type:=(q2em→Option q2en)×(qmq→Option qmr)×Unit
def q2io (d:Nat):q2in:=(q2f7 d,qmv d,())
def q2ip (C:q2in):List Go.Tx.Spec:=[q2ep C.1,qmt C.2.1]
abbrev q2iq:Type:=List Diii
def q2ir (v:q2iq):St:=⟨[(0,.fz Riii v)],[]⟩
def q2is (C:q2in) (v:q2iq):Dt q2iq:=(Dt.ret v)
abbrev q3gj {V Y:Type}:=@rg q2in V Y tysT (fun C=>(orc (q2ip C))) 60
theorem q2it C v:q3gj (regO (qct f128) 0) false [(0,(.val Riii))] q2ir q2is q2ir C v:=rgI (by kernel_rfl)
abbrev q2iu:Type:=List Diii×Bool
def q2iv (v:q2iu):St:=⟨[(0,.fz Riii v.1),(12,.bool v.2)],[]⟩
def q2iw (C:q2in) (v:q2iq):Dt q2iu:=(Dt.ite (decide ((List.length v:Int)<(1:Int))) (Dt.ret (v,true)) (Dt.ret (v,(decide ((List.length v:Int) > (300:Int))))))
theorem q2ix C v:q3gj (regO (qct f128) 1) false [(0,(.val Riii)),(12,.any)] q2ir q2iw q2iv C v:=rgI (by kernel_rfl)
abbrev q2iy:Type:=Int
def q2iz (v:q2iy):St:=⟨[(2,i6 v)],[]⟩
def q2j0 (C:q2in) (v:q2iu):Dt q2iy:=(Dt.ret (8:Int))
theorem q2j1 C v:q3gj (regO (qct f128) 2) false [(2,.any)] q2iv q2j0 q2iz C v:=rgI (by kernel_rfl)
abbrev q2j2:Type:=List Diii×List Diii×Int×Int
def q2j3 (v:q2j2):St:=⟨[(0,.fz Riii v.1),(13,.fz Riii v.2.1),(14,i6 v.2.2.1),(15,i6 v.2.2.2)],[]⟩
def q2j4 (C:q2in) (v:q2iu):Dt q2j2:=(Dt.ret (v.1,v.1,(List.length v.1:Int),(0:Int)))
theorem q2j5 C v:q3gj (regO (qct f128) 3) false [(0,(.val Riii)),(13,(.val Riii)),(14,.any),(15,.any)] q2iv q2j4 q2j3 C v:=rgI (by kernel_rfl)
abbrev q2j6:Type:=List Diii×List Diii×Int×Int×Bool
def q2j7 (v:q2j6):St:=⟨[(0,.fz Riii v.1),(13,.fz Riii v.2.1),(14,i6 v.2.2.1),(15,i6 v.2.2.2.1),(16,.bool v.2.2.2.2)],[]⟩
def q2j8 (C:q2in) (v:q2j2):Dt q2j6:=(Dt.ret (v.1,v.2.1,v.2.2.1,v.2.2.2,(decide (v.2.2.2<v.2.2.1))))
theorem q2j9 C v:q3gj (regO (qct f128) 4) false [(0,(.val Riii)),(13,(.val Riii)),(14,.any),(15,.any),(16,.any)] q2j3 q2j8 q2j7 C v:=rgI (by kernel_rfl)
abbrev q2ja:Type:=List Diii×Int×List Diii×Int×Int×Int×Int×Int
def q2jb (v:q2ja):St:=⟨[(0,.fz Riii v.1),(3,i6 v.2.1),(4,.ptr 0 0),(13,.fz Riii v.2.2.1),(14,i6 v.2.2.2.1),(15,i6 v.2.2.2.2.1)],[.cells [i6 v.2.2.2.2.2.1,i6 v.2.2.2.2.2.2.1,i6 v.2.2.2.2.2.2.2]]⟩
def q2jc (C:q2in) (v:q2j6):Dt q2ja:=(Dt.ite (inB v.2.2.2.1 (List.length v.2.1)) (Dt.ret (v.1,v.2.2.2.1,v.2.1,v.2.2.1,v.2.2.2.1,(elt ziii v.2.1 (v.2.2.2.1).toNat).1,(elt ziii v.2.1 (v.2.2.2.1).toNat).2.1,(elt ziii v.2.1 (v.2.2.2.1).toNat).2.2.1)) Dt.fail)
theorem q2jd C v:q3gj (regO (qct f128) 5) false [(0,(.val Riii)),(3,.any),(4,.any),(13,(.val Riii)),(14,.any),(15,.any)] q2j7 q2jc q2jb C v:=rgI (by kernel_rfl)
abbrev q2je:Type:=List Diii×Int×List Diii×Int×Int×Bool×Int×Int×Int
def q2jf (v:q2je):St:=⟨[(0,.fz Riii v.1),(3,i6 v.2.1),(4,.ptr 0 0),(13,.fz Riii v.2.2.1),(14,i6 v.2.2.2.1),(15,i6 v.2.2.2.2.1),(33,.bool v.2.2.2.2.2.1)],[.cells [i6 v.2.2.2.2.2.2.1,i6 v.2.2.2.2.2.2.2.1,i6 v.2.2.2.2.2.2.2.2]]⟩
def q2jg (C:q2in) (v:q2ja):Dt q2je:=(Dt.bnd (C.2.1 ((v.2.2.2.2.2.1,v.2.2.2.2.2.2.1,()),())) fun r1=>(Dt.ite (r1 != (0:Int)) (Dt.ret (v.1,v.2.1,v.2.2.1,v.2.2.2.1,v.2.2.2.2.1,true,v.2.2.2.2.2.1,v.2.2.2.2.2.2.1,v.2.2.2.2.2.2.2)) (Dt.ite (decide (v.2.2.2.2.2.2.2<(0:Int))) (Dt.ret (v.1,v.2.1,v.2.2.1,v.2.2.2.1,v.2.2.2.2.1,true,v.2.2.2.2.2.1,v.2.2.2.2.2.2.1,v.2.2.2.2.2.2.2)) (Dt.ret (v.1,v.2.1,v.2.2.1,v.2.2.2.1,v.2.2.2.2.1,(decide (v.2.2.2.2.2.2.2 > (65535:Int))),v.2.2.2.2.2.1,v.2.2.2.2.2.2.1,v.2.2.2.2.2.2.2)))))
theorem q2jh C v:q3gj (regO (qct f128) 6) false [(0,(.val Riii)),(3,.any),(4,.any),(13,(.val Riii)),(14,.any),(15,.any),(33,.any)] q2jb q2jg q2jf C v:=rgI (by kernel_rfl)
def q2ji (C:q2in) (v:q2je):Dt q2iy:=(Dt.ret (8:Int))
theorem q2jj C v:q3gj (regO (qct f128) 7) false [(2,.any)] q2jf q2ji q2iz C v:=rgI (by kernel_rfl)
abbrev q2jk:Type:=List Diii×List Diii×Int×Int×Bool
def q2jl (v:q2jk):St:=⟨[(0,.fz Riii v.1),(13,.fz Riii v.2.1),(14,i6 v.2.2.1),(15,i6 v.2.2.2.1),(58,.bool v.2.2.2.2)],[]⟩
def q2jm (C:q2in) (v:q2je):Dt q2jk:=(Dt.ite (decide (v.2.1 > (0:Int))) (Dt.ite (inB (IntKind.wrap .i64 (v.2.1 - (1:Int))) (List.length v.1)) (Dt.bnd (C.1 (((elt ziii v.1 ((IntKind.wrap .i64 (v.2.1 - (1:Int)))).toNat).1,(elt ziii v.1 ((IntKind.wrap .i64 (v.2.1 - (1:Int)))).toNat).2.1,()),(v.2.2.2.2.2.2.1,v.2.2.2.2.2.2.2.1,()),())) fun r1=>(Dt.ite (decide (r1≥(0:Int))) (Dt.ret (v.1,v.2.2.1,v.2.2.2.1,v.2.2.2.2.1,true)) (Dt.ite (inB (IntKind.wrap .i64 (v.2.1 - (1:Int))) (List.length v.1)) (Dt.ret (v.1,v.2.2.1,v.2.2.2.1,v.2.2.2.2.1,((elt ziii v.1 ((IntKind.wrap .i64 (v.2.1 - (1:Int)))).toNat).2.2.1 == v.2.2.2.2.2.2.2.2))) Dt.fail))) Dt.fail) (Dt.ret (v.1,v.2.2.1,v.2.2.2.1,v.2.2.2.2.1,false)))
theorem q2jn C v:q3gj (regO (qct f128) 8) true [(0,(.val Riii)),(13,(.val Riii)),(14,.any),(15,.any),(58,.any)] q2jf q2jm q2jl C v:=rgI (by kernel_rfl)
def q2jo (C:q2in) (v:q2jk):Dt q2iy:=(Dt.ret (8:Int))
theorem q2jp C v:q3gj (regO (qct f128) 9) false [(2,.any)] q2jl q2jo q2iz C v:=rgI (by kernel_rfl)
def q2jq (C:q2in) (v:q2jk):Dt q2j2:=(Dt.ret (v.1,v.2.1,v.2.2.1,(IntKind.wrap .i64 (v.2.2.2.1+(1:Int)))))
theorem q2jr C v:q3gj (regO (qct f128) 10) false [(0,(.val Riii)),(13,(.val Riii)),(14,.any),(15,.any)] q2jl q2jq q2j3 C v:=rgI (by kernel_rfl)
def q2js (C:q2in) (v:q2j6):Dt q2iy:=(Dt.ret (0:Int))
theorem q2jt C v:q3gj (regO (qct f128) 11) false [(2,.any)] q2j7 q2js q2iz C v:=rgI (by kernel_rfl)
def q2ju (d:Nat) (self1:(List Diii×List Diii×Int×Int)→Option q2ik) (x1:List Diii×List Diii×Int×Int):Option q2ik :=
 (q2j8 (q2io d) x1).eval fun y4 =>
 bif y4.2.2.2.2 then ((q2jc (q2io d) y4).eval fun y5 =>
 (q2jg (q2io d) y5).eval fun y6 =>
 bif y6.2.2.2.2.2.1 then ((q2ji (q2io d) y6).eval fun y7 =>
 some y7) else ((q2jm (q2io d) y6).eval fun y8 =>
 bif y8.2.2.2.2 then ((q2jo (q2io d) y8).eval fun y9 =>
 some y9) else ((q2jq (q2io d) y8).eval fun y10 =>
 self1 y10))) else ((q2js (q2io d) y4).eval fun y11 =>
 some y11)
def q2jv (d:Nat) (x:q2ij):Option q2ik :=
 (q2is (q2io d) x.1.1).eval fun y0 =>
 (q2iw (q2io d) y0).eval fun y1 =>
 bif y1.2 then ((q2j0 (q2io d) y1).eval fun y2 =>
 some y2) else ((q2j4 (q2io d) y1).eval fun y3 =>
 iter (q2ju d ) d y3)
theorem q2jw (d:Nat):COK prog (q2im (q2jv d)):=by
 have hm:prog.follows .mixedOrders=true:=mixed
 have hT:=tys
 have hC0:OrcOK prog (orc (q2ip (q2io d))):=qcn (by
  intro S hS
  simp only [q2ip,List.mem_cons,List.not_mem_nil,or_false] at hS
  rcases hS with rfl | rfl
  · exact q2f8 d
  · exact qmx d)
 have hC:OrcOK prog (orc (q2ip (q2io d))):=hC0
 refine q8c (c:=qct f128) (fn:=f128) hT (by kernel_rfl) (by kernel_rfl) (by decide) fun x r h w0 φ0 Q hend=>?_
 replace h:q2jv d x=some r:=h
 unfold q2jv at h
 show Run prog w0 φ0 60 (qct f128) ⟨[(0,.fz Riii x.1.1)],[]⟩ Q
 refine q3f2 hm hT hC (q2it (q2io d) x.1.1) h fun y0 h=>?_
 refine q7w ?_
 refine q3f2 hm hT hC (q2ix (q2io d) y0) h fun y1 h=>?_
 refine q80 (v:=y1.2) (by kernel_rfl) h ?_ ?_
 ·
  intro h
  refine q3f2 hm hT hC (q2j1 (q2io d) y1) h fun y2 h=>?_
  refine q7v (q7k ?_)
  cases h
  exact (hend _ (by kernel_rfl)).2
 ·
  intro h
  refine q7s (q7i (q7w ?_))
  refine q3f2 hm hT hC (q2j5 (q2io d) y1) h fun y3 h=>?_
  refine q7x ?_
  refine q82 (G:=iter (q2ju d )) (S:=(fun x1=>⟨[(0,.fz Riii x1.1),(13,.fz Riii x1.2.1),(14,i6 x1.2.2.1),(15,i6 x1.2.2.2)],[]⟩:List Diii×List Diii×Int×Int→St)) (fun _=>rfl) ?_ d _ h
  intro n1 x1 h K1 hn1
  replace h:q2ju d  (iter (q2ju d ) n1) x1=some r:=h
  generalize iter (q2ju d ) n1=self1 at h hn1
  unfold q2ju at h
  refine q3f2 hm hT hC (q2j9 (q2io d) x1) h fun y4 h=>?_
  refine q7w ?_
  refine q80 (v:=y4.2.2.2.2) (by kernel_rfl) h ?_ ?_
  ·
   intro h
   refine q7s (q7i (q7w (q7x ?_)))
   refine q3f2 hm hT hC (q2jd (q2io d) y4) h fun y5 h=>?_
   refine q7w ?_
   refine q3f2 hm hT hC (q2jh (q2io d) y5) h fun y6 h=>?_
   refine q80 (v:=y6.2.2.2.2.2.1) (by kernel_rfl) h ?_ ?_
   ·
    intro h
    refine q3f2 hm hT hC (q2jj (q2io d) y6) h fun y7 h=>?_
    refine q7v (q7k (q7m (q7k (q7k (q7m (q7k ?_))))))
    cases h
    exact (hend _ (by kernel_rfl)).2
   ·
    intro h
    refine q7s (q7i ?_)
    refine q3f2 hm hT hC (q2jn (q2io d) y6) h fun y8 h=>?_
    refine q80 (v:=y8.2.2.2.2) (by kernel_rfl) h ?_ ?_
    ·
     intro h
     refine q3f2 hm hT hC (q2jp (q2io d) y8) h fun y9 h=>?_
     refine q7v (q7m (q7k (q7k (q7m (q7k ?_)))))
     cases h
     exact (hend _ (by kernel_rfl)).2
    ·
     intro h
     refine q7s (q7l (q7i ?_))
     refine q81 hm hT hC (q2jr (q2io d) y8) h ?_
     intro y10 h
     exact hn1 _ h
  ·
   intro h
   refine q7u (q7j (q7j (q7n (q7i ?_))))
   refine q3f2 hm hT hC (q2jt (q2io d) y4) h fun y11 h=>?_
   refine q7v ?_
   cases h
   exact (hend _ (by kernel_rfl)).2
abbrev q2jx:List Pk:=[.row Riii true,.row Rii true]
abbrev q2jy:Type:=Diii×Dii×Unit
abbrev q2jz:Type:=Int
def q2k0 (r:q2jz):LV×List Ob:=(.int .i64 r,[])
def q2k1 (F:q2jy→Option q2jz):Go.Tx.Spec:=⟨156,q2jx,q2jz,F,q2k0⟩
abbrev q2k2:Type:=(q2em→Option q2en)×Unit
def q2k3 (d:Nat):q2k2:=(q2f7 d,())
def q2k4 (C:q2k2):List Go.Tx.Spec:=[q2ep C.1]
abbrev q2k5:Type:=Int×Int×Int×Int×Int
def q2k6 (v:q2k5):St:=⟨[(0,.agg [i6 v.1,i6 v.2.1,i6 v.2.2.1]),(1,.agg [i6 v.2.2.2.1,i6 v.2.2.2.2])],[]⟩
abbrev q2k7:Type:=Int×Int×Int×Int×Int
def q2k8 (v:q2k7):St:=⟨[(2,.ptr 0 0),(3,.ptr 1 0)],[.cells [i6 v.1,i6 v.2.1,i6 v.2.2.1],.cells [i6 v.2.2.2.1,i6 v.2.2.2.2]]⟩
def q2k9 (C:q2k2) (v:q2k5):Dt q2k7:=(Dt.ret (v.1,v.2.1,v.2.2.1,v.2.2.2.1,v.2.2.2.2))
abbrev q3gk {V Y:Type}:=@rg q2k2 V Y tysT (fun C=>(orc (q2k4 C))) 9
theorem q2ka C v:q3gk (regO (qct f156) 0) false (an [2,3]) q2k6 q2k9 q2k8 C v:=rgI (by kernel_rfl)
abbrev q2kb:Type:=Int
def q2kc (v:q2kb):St:=⟨[(4,i6 v)],[]⟩
def q2kd (C:q2k2) (v:q2k7):Dt q2kb:=(Dt.bnd (C.1 ((v.1,v.2.1,()),(v.2.2.2.1,v.2.2.2.2,()),())) fun r1=>(Dt.ret r1))
theorem q2ke C v:q3gk (regO (qct f156) 1) false [(4,.any)] q2k8 q2kd q2kc C v:=rgI (by kernel_rfl)
def q2kf (d:Nat) (x:q2jy):Option q2jz :=
 (q2k9 (q2k3 d) (x.1.1,x.1.2.1,x.1.2.2.1,x.2.1.1,x.2.1.2.1)).eval fun y0 =>
 (q2kd (q2k3 d) y0).eval fun y1 =>
 some y1
theorem q2kg (d:Nat):COK prog (q2k1 (q2kf d)):=by
 have hm:prog.follows .mixedOrders=true:=mixed
 have hT:=tys
 have hC0:OrcOK prog (orc (q2k4 (q2k3 d))):=qcn (by
  intro S hS
  simp only [q2k4,List.mem_cons,List.not_mem_nil,or_false] at hS
  subst hS;exact q2f8 d)
 have hC:OrcOK prog (orc (q2k4 (q2k3 d))):=hC0
 refine q8c (c:=qct f156) (fn:=f156) hT (by kernel_rfl) (by kernel_rfl) (by decide) fun x r h w0 φ0 Q hend=>?_
 replace h:q2kf d x=some r:=h
 unfold q2kf at h
 show Run prog w0 φ0 9 (qct f156) ⟨[(0,.agg [.int .i64 x.1.1,.int .i64 x.1.2.1,.int .i64 x.1.2.2.1]),(1,.agg [.int .i64 x.2.1.1,.int .i64 x.2.1.2.1])],[]⟩ Q
 refine q3f2 hm hT hC (q2ka (q2k3 d) (x.1.1,x.1.2.1,x.1.2.2.1,x.2.1.1,x.2.1.2.1)) h fun y0 h=>?_
 refine q3f2 hm hT hC (q2ke (q2k3 d) y0) h fun y1 h=>?_
 refine q7v ?_
 cases h
 exact (hend _ (by kernel_rfl)).2
abbrev q2kh:List Pk:=[.row qj5 false,.row Rii true,.fn 156 []]
abbrev q2ki:Type:=qj6×Dii×(Unit)×Unit
abbrev q2kj:Type:=Int×Bool
def q2kk (r:q2kj):LV×List Ob:=(.tup [.int .i64 r.1,.bool r.2],[])
def q2kl (F:q2ki→Option q2kj):Go.Tx.Spec:=⟨155,q2kh,q2kj,F,q2kk⟩
abbrev q2km:Type:=(q2jy→Option q2jz)×Unit
def q2kn (d:Nat):q2km:=(q2kf d,())
def q2ko (C:q2km):List Go.Tx.Spec:=[q2k1 C.1]
abbrev q2kp:Type:=List Diii×Int×Int
def q2kq (v:q2kp):St:=⟨[(0,.fz Riii v.1),(1,.agg [i6 v.2.1,i6 v.2.2]),(2,.fn 156 [])],[]⟩
abbrev q2kr:Type:=List Diii×Int×Int
def q2ks (v:q2kr):St:=⟨[(0,.fz Riii v.1),(2,.fn 156 []),(4,.ptr 0 0)],[.cells [i6 v.2.1,i6 v.2.2]]⟩
def q2kt (C:q2km) (v:q2kp):Dt q2kr:=(Dt.ret (v.1,v.2.1,v.2.2))
abbrev q3gl {V Y:Type}:=@rg q2km V Y tysT (fun C=>(orc (q2ko C))) 49
theorem q2ku C v:q3gl (regO (qct f155) 0) false [(0,(.val Riii)),(2,.any),(4,.any)] q2kq q2kt q2ks C v:=rgI (by kernel_rfl)
abbrev q2kv:Type:=List Diii×Int×Int×Int
def q2kw (v:q2kv):St:=⟨[(0,.fz Riii v.1),(2,.fn 156 []),(4,.ptr 0 0),(8,i6 v.2.1)],[.cells [i6 v.2.2.1,i6 v.2.2.2]]⟩
def q2kx (C:q2km) (v:q2kr):Dt q2kv:=(Dt.ret (v.1,(List.length v.1:Int),v.2.1,v.2.2))
theorem q2ky C v:q3gl (regO (qct f155) 1) false [(0,(.val Riii)),(2,.any),(4,.any),(8,.any)] q2ks q2kx q2kw C v:=rgI (by kernel_rfl)
abbrev q2kz:Type:=List Diii×Int×Int×Int×Int×Int
def q2l0 (v:q2kz):St:=⟨[(0,.fz Riii v.1),(2,.fn 156 []),(4,.ptr 0 0),(8,i6 v.2.1),(9,i6 v.2.2.1),(10,i6 v.2.2.2.1)],[.cells [i6 v.2.2.2.2.1,i6 v.2.2.2.2.2]]⟩
def q2l1 (C:q2km) (v:q2kv):Dt q2kz:=(Dt.ret (v.1,v.2.1,(0:Int),v.2.1,v.2.2.1,v.2.2.2))
theorem q2l2 C v:q3gl (regO (qct f155) 2) false [(0,(.val Riii)),(2,.any),(4,.any),(8,.any),(9,.any),(10,.any)] q2kw q2l1 q2l0 C v:=rgI (by kernel_rfl)
abbrev q2l3:Type:=List Diii×Int×Int×Int×Bool×Int×Int
def q2l4 (v:q2l3):St:=⟨[(0,.fz Riii v.1),(2,.fn 156 []),(4,.ptr 0 0),(8,i6 v.2.1),(9,i6 v.2.2.1),(10,i6 v.2.2.2.1),(17,.bool v.2.2.2.2.1)],[.cells [i6 v.2.2.2.2.2.1,i6 v.2.2.2.2.2.2]]⟩
def q2l5 (C:q2km) (v:q2kz):Dt q2l3:=(Dt.ret (v.1,v.2.1,v.2.2.1,v.2.2.2.1,(decide (v.2.2.1<v.2.2.2.1)),v.2.2.2.2.1,v.2.2.2.2.2))
theorem q2l6 C v:q3gl (regO (qct f155) 3) false [(0,(.val Riii)),(2,.any),(4,.any),(8,.any),(9,.any),(10,.any),(17,.any)] q2l0 q2l5 q2l4 C v:=rgI (by kernel_rfl)
abbrev q2l7:Type:=List Diii×Int×Int×Int×Int×Int×Int
def q2l8 (v:q2l7):St:=⟨[(0,.fz Riii v.1),(2,.fn 156 []),(4,.ptr 0 0),(8,i6 v.2.1),(9,i6 v.2.2.1),(10,i6 v.2.2.2.1),(11,i6 v.2.2.2.2.1)],[.cells [i6 v.2.2.2.2.2.1,i6 v.2.2.2.2.2.2]]⟩
def q2l9 (C:q2km) (v:q2l3):Dt q2l7:=(Dt.ret (v.1,v.2.1,v.2.2.1,v.2.2.2.1,(IntKind.wrap .i64 (shrI .u64 (IntKind.wrap .u64 (IntKind.wrap .i64 (v.2.2.1+v.2.2.2.1))) (1:Int))),v.2.2.2.2.2.1,v.2.2.2.2.2.2))
theorem q2la C v:q3gl (regO (qct f155) 4) false [(0,(.val Riii)),(2,.any),(4,.any),(8,.any),(9,.any),(10,.any),(11,.any)] q2l4 q2l9 q2l8 C v:=rgI (by kernel_rfl)
abbrev q2lb:Type:=List Diii×Int×Int×Int×Int×Bool×Int×Int
def q2lc (v:q2lb):St:=⟨[(0,.fz Riii v.1),(2,.fn 156 []),(4,.ptr 0 0),(8,i6 v.2.1),(9,i6 v.2.2.1),(10,i6 v.2.2.2.1),(11,i6 v.2.2.2.2.1),(31,.bool v.2.2.2.2.2.1)],[.cells [i6 v.2.2.2.2.2.2.1,i6 v.2.2.2.2.2.2.2]]⟩
def q2ld (C:q2km) (v:q2l7):Dt q2lb:=(Dt.ite (inB v.2.2.2.2.1 (List.length v.1)) (Dt.bnd (C.1 (((elt ziii v.1 (v.2.2.2.2.1).toNat).1,(elt ziii v.1 (v.2.2.2.2.1).toNat).2.1,(elt ziii v.1 (v.2.2.2.2.1).toNat).2.2.1,()),(v.2.2.2.2.2.1,v.2.2.2.2.2.2,()),())) fun r1=>(Dt.ret (v.1,v.2.1,v.2.2.1,v.2.2.2.1,v.2.2.2.2.1,(decide (r1<(0:Int))),v.2.2.2.2.2.1,v.2.2.2.2.2.2))) Dt.fail)
theorem q2le C v:q3gl (regO (qct f155) 5) true [(0,(.val Riii)),(2,.any),(4,.any),(8,.any),(9,.any),(10,.any),(11,.any),(31,.any)] q2l8 q2ld q2lc C v:=rgI (by kernel_rfl)
def q2lf (C:q2km) (v:q2lb):Dt q2kz:=(Dt.ret (v.1,v.2.1,(IntKind.wrap .i64 (v.2.2.2.2.1+(1:Int))),v.2.2.2.1,v.2.2.2.2.2.2.1,v.2.2.2.2.2.2.2))
theorem q2lg C v:q3gl (regO (qct f155) 6) false [(0,(.val Riii)),(2,.any),(4,.any),(8,.any),(9,.any),(10,.any)] q2lc q2lf q2l0 C v:=rgI (by kernel_rfl)
def q2lh (C:q2km) (v:q2lb):Dt q2kz:=(Dt.ret (v.1,v.2.1,v.2.2.1,v.2.2.2.2.1,v.2.2.2.2.2.2.1,v.2.2.2.2.2.2.2))
theorem q2li C v:q3gl (regO (qct f155) 7) false [(0,(.val Riii)),(2,.any),(4,.any),(8,.any),(9,.any),(10,.any)] q2lc q2lh q2l0 C v:=rgI (by kernel_rfl)
abbrev q2lj:Type:=Int×Bool
def q2lk (v:q2lj):St:=⟨[(6,i6 v.1),(7,.bool v.2)],[]⟩
def q2ll (C:q2km) (v:q2l3):Dt q2lj:=(Dt.ite (decide (v.2.2.1<v.2.1)) (Dt.ite (inB v.2.2.1 (List.length v.1)) (Dt.bnd (C.1 (((elt ziii v.1 (v.2.2.1).toNat).1,(elt ziii v.1 (v.2.2.1).toNat).2.1,(elt ziii v.1 (v.2.2.1).toNat).2.2.1,()),(v.2.2.2.2.2.1,v.2.2.2.2.2.2,()),())) fun r1=>(Dt.ret (v.2.2.1,(r1 == (0:Int))))) Dt.fail) (Dt.ret (v.2.2.1,false)))
theorem q2lm C v:q3gl (regO (qct f155) 8) true (an [6,7]) q2l4 q2ll q2lk C v:=rgI (by kernel_rfl)
def q2ln (d:Nat) (self1:(List Diii×Int×Int×Int×Int×Int)→Option q2kj) (x1:List Diii×Int×Int×Int×Int×Int):Option q2kj :=
 (q2l5 (q2kn d) x1).eval fun y3 =>
 bif y3.2.2.2.2.1 then ((q2l9 (q2kn d) y3).eval fun y4 =>
 (q2ld (q2kn d) y4).eval fun y5 =>
 bif y5.2.2.2.2.2.1 then ((q2lf (q2kn d) y5).eval fun y6 =>
 self1 y6) else ((q2lh (q2kn d) y5).eval fun y7 =>
 self1 y7)) else ((q2ll (q2kn d) y3).eval fun y8 =>
 some y8)
def q2lo (d:Nat) (x:q2ki):Option q2kj :=
 (q2kt (q2kn d) (x.1.1,x.2.1.1,x.2.1.2.1)).eval fun y0 =>
 (q2kx (q2kn d) y0).eval fun y1 =>
 (q2l1 (q2kn d) y1).eval fun y2 =>
 iter (q2ln d ) d y2
theorem q2lp (d:Nat):COK prog (q2kl (q2lo d)):=by
 have hm:prog.follows .mixedOrders=true:=mixed
 have hT:=tys
 have hC0:OrcOK prog (orc (q2ko (q2kn d))):=qcn (by
  intro S hS
  simp only [q2ko,List.mem_cons,List.not_mem_nil,or_false] at hS
  subst hS;exact q2kg d)
 have hC:OrcOK prog (orc (q2ko (q2kn d))):=hC0
 refine q8c (c:=qct f155) (fn:=f155) hT (by kernel_rfl) (by kernel_rfl) (by decide) fun x r h w0 φ0 Q hend=>?_
 replace h:q2lo d x=some r:=h
 unfold q2lo at h
 show Run prog w0 φ0 49 (qct f155) ⟨[(0,.fz Riii x.1.1),(1,.agg [.int .i64 x.2.1.1,.int .i64 x.2.1.2.1]),(2,.fn 156 [])],[]⟩ Q
 refine q3f2 hm hT hC (q2ku (q2kn d) (x.1.1,x.2.1.1,x.2.1.2.1)) h fun y0 h=>?_
 refine q3f2 hm hT hC (q2ky (q2kn d) y0) h fun y1 h=>?_
 refine q3f2 hm hT hC (q2l2 (q2kn d) y1) h fun y2 h=>?_
 refine q7w (q7x ?_)
 refine q82 (G:=iter (q2ln d )) (S:=(fun x1=>⟨[(0,.fz Riii x1.1),(2,.fn 156 []),(4,.ptr 0 0),(8,i6 x1.2.1),(9,i6 x1.2.2.1),(10,i6 x1.2.2.2.1)],[.cells [i6 x1.2.2.2.2.1,i6 x1.2.2.2.2.2]]⟩:List Diii×Int×Int×Int×Int×Int→St)) (fun _=>rfl) ?_ d _ h
 intro n1 x1 h K1 hn1
 replace h:q2ln d  (iter (q2ln d ) n1) x1=some r:=h
 generalize iter (q2ln d ) n1=self1 at h hn1
 unfold q2ln at h
 refine q7w ?_
 refine q3f2 hm hT hC (q2l6 (q2kn d) x1) h fun y3 h=>?_
 refine q80 (v:=y3.2.2.2.2.1) (by kernel_rfl) h ?_ ?_
 ·
  intro h
  refine q7s (q7i (q7x ?_))
  refine q3f2 hm hT hC (q2la (q2kn d) y3) h fun y4 h=>?_
  refine q3f2 hm hT hC (q2le (q2kn d) y4) h fun y5 h=>?_
  refine q80 (v:=y5.2.2.2.2.2.1) (by kernel_rfl) h ?_ ?_
  ·
   intro h
   refine q81 hm hT hC (q2lg (q2kn d) y5) h ?_
   intro y6 h
   refine q7l ?_
   exact hn1 _ h
  ·
   intro h
   refine q81 hm hT hC (q2li (q2kn d) y5) h ?_
   intro y7 h
   refine q7l ?_
   exact hn1 _ h
 ·
  intro h
  refine q7u (q7j (q7j (q7n (q7i ?_))))
  refine q3f2 hm hT hC (q2lm (q2kn d) y3) h fun y8 h=>?_
  refine q7v ?_
  cases h
  exact (hend _ (by kernel_rfl)).2
abbrev q2lq:List Pk:=[.row qj5 false,.row Rii true]
abbrev q2lr:Type:=qj6×Dii×Unit
abbrev q2ls:Type:=Int
def q2lt (r:q2ls):LV×List Ob:=(.int .i64 r,[])
def q2lu (F:q2lr→Option q2ls):Go.Tx.Spec:=⟨129,q2lq,q2ls,F,q2lt⟩
abbrev q2lv:Type:=(q2ki→Option q2kj)×Unit
def q2lw (d:Nat):q2lv:=(q2lo d,())
def q2lx (C:q2lv):List Go.Tx.Spec:=[q2kl C.1]
abbrev q2ly:Type:=List Diii×Int×Int
def q2lz (v:q2ly):St:=⟨[(0,.fz Riii v.1),(1,.agg [i6 v.2.1,i6 v.2.2])],[]⟩
abbrev q2m0:Type:=List Diii×Int×Int
def q2m1 (v:q2m0):St:=⟨[(0,.fz Riii v.1),(3,.ptr 0 0)],[.cells [i6 v.2.1,i6 v.2.2]]⟩
def q2m2 (C:q2lv) (v:q2ly):Dt q2m0:=(Dt.ret (v.1,v.2.1,v.2.2))
abbrev q3gm {V Y:Type}:=@rg q2lv V Y tysT (fun C=>(orc (q2lx C))) 18
theorem q2m3 C v:q3gm (regO (qct f129) 0) false [(0,(.val Riii)),(3,.any)] q2lz q2m2 q2m1 C v:=rgI (by kernel_rfl)
abbrev q2m4:Type:=Int×Bool
def q2m5 (v:q2m4):St:=⟨[(5,i6 v.1),(6,.bool v.2)],[]⟩
def q2m6 (C:q2lv) (v:q2m0):Dt q2m4:=(Dt.bnd (C.1 ((v.1,()),(v.2.1,v.2.2,()),(()),())) fun r1=>(Dt.ret (r1.1,r1.2)))
theorem q2m7 C v:q3gm (regO (qct f129) 1) false (an [5,6]) q2m1 q2m6 q2m5 C v:=rgI (by kernel_rfl)
abbrev q2m8:Type:=Int×Bool
def q2m9 (v:q2m8):St:=⟨[(5,i6 v.1),(14,.bool v.2)],[]⟩
def q2ma (C:q2lv) (v:q2m4):Dt q2m8:=(Dt.ret (v.1,(!v.2)))
theorem q2mb C v:q3gm (regO (qct f129) 2) false (an [5,14]) q2m5 q2ma q2m9 C v:=rgI (by kernel_rfl)
abbrev q2mc:Type:=Int
def q2md (v:q2mc):St:=⟨[(5,i6 v)],[]⟩
def q2me (C:q2lv) (v:q2m8):Dt q2mc:=(Dt.ret (IntKind.wrap .i64 (v.1 - (1:Int))))
theorem q2mf C v:q3gm (regO (qct f129) 3) false [(5,.any)] q2m9 q2me q2md C v:=rgI (by kernel_rfl)
abbrev q2mg:Type:=Int
def q2mh (v:q2mg):St:=⟨[(4,i6 v)],[]⟩
def q2mi (C:q2lv) (v:q2mc):Dt q2mg:=(Dt.ret v)
theorem q2mj C v:q3gm (regO (qct f129) 4) false [(4,.any)] q2md q2mi q2mh C v:=rgI (by kernel_rfl)
def q2mk  (d:Nat)  (z:Int):Option (q2ls) :=
 (q2mi (q2lw d) z).eval fun y4 =>
 some y4
def q2ml (d:Nat) (x:q2lr):Option q2ls :=
 (q2m2 (q2lw d) (x.1.1,x.2.1.1,x.2.1.2.1)).eval fun y0 =>
 (q2m6 (q2lw d) y0).eval fun y1 =>
 (q2ma (q2lw d) y1).eval fun y2 =>
 bif y2.2 then ((q2me (q2lw d) y2).eval fun y3 =>
 q2mk d  y3) else (q2mk d  y2.1)
theorem q2mm (d:Nat):COK prog (q2lu (q2ml d)):=by
 have hm:prog.follows .mixedOrders=true:=mixed
 have hT:=tys
 have hC0:OrcOK prog (orc (q2lx (q2lw d))):=qcn (by
  intro S hS
  simp only [q2lx,List.mem_cons,List.not_mem_nil,or_false] at hS
  subst hS;exact q2lp d)
 have hC:OrcOK prog (orc (q2lx (q2lw d))):=hC0
 refine q8c (c:=qct f129) (fn:=f129) hT (by kernel_rfl) (by kernel_rfl) (by decide) fun x r h w0 φ0 Q hend=>?_
 replace h:q2ml d x=some r:=h
 unfold q2ml at h
 show Run prog w0 φ0 18 (qct f129) ⟨[(0,.fz Riii x.1.1),(1,.agg [.int .i64 x.2.1.1,.int .i64 x.2.1.2.1])],[]⟩ Q
 refine q3f2 hm hT hC (q2m3 (q2lw d) (x.1.1,x.2.1.1,x.2.1.2.1)) h fun y0 h=>?_
 refine q3f2 hm hT hC (q2m7 (q2lw d) y0) h fun y1 h=>?_
 refine q7z (r:=r) (F:=q2mk d ) (S:=(fun z=>⟨[(5,i6 z)],[]⟩:Int→St)) ?_ ?_
 ·
  intro z h
  unfold q2mk at h
  refine q3f2 hm hT hC (q2mj (q2lw d) z) h fun y4 h=>?_
  refine q7v ?_
  cases h
  exact (hend _ (by kernel_rfl)).2
 intro hj1
 refine q3f2 hm hT hC (q2mb (q2lw d) y1) h fun y2 h=>?_
 refine q80 (v:=y2.2) (by kernel_rfl) h ?_ ?_
 ·
  intro h
  refine q81 hm hT hC (q2mf (q2lw d) y2) h ?_
  intro y3 h
  exact hj1 _ h
 ·
  intro h
  refine q7s ?_
  refine qcs (s:=⟨[(5,.int .i64 y2.1)],[]⟩) [14] (by kernel_rfl) ?_
  exact hj1 _ h
abbrev q2mn:List Pk:=[.row qj5 false,.row Rii true]
abbrev q2mo:Type:=qj6×Dii×Unit
abbrev q2mp:Type:=Int×Int
def q2mq (r:q2mp):LV×List Ob:=(.tup [.int .i64 r.1,.int .i64 r.2],[])
def q2mr (F:q2mo→Option q2mp):Go.Tx.Spec:=⟨65,q2mn,q2mp,F,q2mq⟩
abbrev q2ms:Type:=(qmq→Option qmr)×(q2ij→Option q2ik)×(q2lr→Option q2ls)×Unit
def q2mt (d:Nat):q2ms:=(qmv d,q2jv d,q2ml d,())
def q2mu (C:q2ms):List Go.Tx.Spec:=[qmt C.1,q2im C.2.1,q2lu C.2.2.1]
abbrev q2mv:Type:=List Diii×Int×Int
def q2mw (v:q2mv):St:=⟨[(0,.fz Riii v.1),(1,.agg [i6 v.2.1,i6 v.2.2])],[]⟩
abbrev q2mx:Type:=List Diii×Int×Int
def q2my (v:q2mx):St:=⟨[(0,.fz Riii v.1),(3,.ptr 0 0)],[.cells [i6 v.2.1,i6 v.2.2]]⟩
def q2mz (C:q2ms) (v:q2mv):Dt q2mx:=(Dt.ret (v.1,v.2.1,v.2.2))
abbrev q3gn {V Y:Type}:=@rg q2ms V Y tysT (fun C=>(orc (q2mu C))) 26
theorem q2n0 C v:q3gn (regO (qct f65) 0) false [(0,(.val Riii)),(3,.any)] q2mw q2mz q2my C v:=rgI (by kernel_rfl)
abbrev q2n1:Type:=List Diii×Int×Int×Int
def q2n2 (v:q2n1):St:=⟨[(0,.fz Riii v.1),(3,.ptr 0 0),(6,i6 v.2.1)],[.cells [i6 v.2.2.1,i6 v.2.2.2]]⟩
def q2n3 (C:q2ms) (v:q2mx):Dt q2n1:=(Dt.bnd (C.2.1 ((v.1,()),())) fun r1=>(Dt.bnd (C.1 ((v.2.1,v.2.2,()),())) fun r2=>(Dt.ret (v.1,(tmax r1 r2),v.2.1,v.2.2))))
theorem q2n4 C v:q3gn (regO (qct f65) 1) true [(0,(.val Riii)),(3,.any),(6,.any)] q2my q2n3 q2n2 C v:=rgI (by kernel_rfl)
abbrev q2n5:Type:=List Diii×Int×Bool×Int×Int
def q2n6 (v:q2n5):St:=⟨[(0,.fz Riii v.1),(3,.ptr 0 0),(6,i6 v.2.1),(14,.bool v.2.2.1)],[.cells [i6 v.2.2.2.1,i6 v.2.2.2.2]]⟩
def q2n7 (C:q2ms) (v:q2n1):Dt q2n5:=(Dt.ret (v.1,v.2.1,(v.2.1 != (0:Int)),v.2.2.1,v.2.2.2))
theorem q2n8 C v:q3gn (regO (qct f65) 2) false [(0,(.val Riii)),(3,.any),(6,.any),(14,.any)] q2n2 q2n7 q2n6 C v:=rgI (by kernel_rfl)
abbrev q2n9:Type:=Int×Int
def q2na (v:q2n9):St:=⟨[(4,i6 v.1),(5,i6 v.2)],[]⟩
def q2nb (C:q2ms) (v:q2n5):Dt q2n9:=(Dt.ret ((0:Int),v.2.1))
theorem q2nc C v:q3gn (regO (qct f65) 3) false (an [4,5]) q2n6 q2nb q2na C v:=rgI (by kernel_rfl)
abbrev q2nd:Type:=List Diii×Int
def q2ne (v:q2nd):St:=⟨[(0,.fz Riii v.1),(7,i6 v.2)],[]⟩
def q2nf (C:q2ms) (v:q2n5):Dt q2nd:=(Dt.bnd (C.2.2.1 ((v.1,()),(v.2.2.2.1,v.2.2.2.2,()),())) fun r1=>(Dt.ret (v.1,r1)))
theorem q2ng C v:q3gn (regO (qct f65) 4) false [(0,(.val Riii)),(7,.any)] q2n6 q2nf q2ne C v:=rgI (by kernel_rfl)
abbrev q2nh:Type:=List Diii×Int×Bool
def q2ni (v:q2nh):St:=⟨[(0,.fz Riii v.1),(7,i6 v.2.1),(20,.bool v.2.2)],[]⟩
def q2nj (C:q2ms) (v:q2nd):Dt q2nh:=(Dt.ret (v.1,v.2,(decide (v.2<(0:Int)))))
theorem q2nk C v:q3gn (regO (qct f65) 5) false [(0,(.val Riii)),(7,.any),(20,.any)] q2ne q2nj q2ni C v:=rgI (by kernel_rfl)
def q2nl (C:q2ms) (v:q2nh):Dt q2n9:=(Dt.ret ((0:Int),(44:Int)))
theorem q2nm C v:q3gn (regO (qct f65) 6) false (an [4,5]) q2ni q2nl q2na C v:=rgI (by kernel_rfl)
def q2nn (C:q2ms) (v:q2nh):Dt q2n9:=(Dt.ite (inB v.2.1 (List.length v.1)) (Dt.ret ((elt ziii v.1 (v.2.1).toNat).2.2.1,(0:Int))) Dt.fail)
theorem q2no C v:q3gn (regO (qct f65) 7) false (an [4,5]) q2ni q2nn q2na C v:=rgI (by kernel_rfl)
def q2np (d:Nat) (x:q2mo):Option q2mp :=
 (q2mz (q2mt d) (x.1.1,x.2.1.1,x.2.1.2.1)).eval fun y0 =>
 (q2n3 (q2mt d) y0).eval fun y1 =>
 (q2n7 (q2mt d) y1).eval fun y2 =>
 bif y2.2.2.1 then ((q2nb (q2mt d) y2).eval fun y3 =>
 some y3) else ((q2nf (q2mt d) y2).eval fun y4 =>
 (q2nj (q2mt d) y4).eval fun y5 =>
 bif y5.2.2 then ((q2nl (q2mt d) y5).eval fun y6 =>
 some y6) else ((q2nn (q2mt d) y5).eval fun y7 =>
 some y7))
theorem q2nq (d:Nat):COK prog (q2mr (q2np d)):=by
 have hm:prog.follows .mixedOrders=true:=mixed
 have hT:=tys
 have hC0:OrcOK prog (orc (q2mu (q2mt d))):=qcn (by
  intro S hS
  simp only [q2mu,List.mem_cons,List.not_mem_nil,or_false] at hS
  rcases hS with rfl | rfl | rfl
  · exact qmx d
  · exact q2jw d
  · exact q2mm d)
 have hC:OrcOK prog (orc (q2mu (q2mt d))):=hC0
 refine q8c (c:=qct f65) (fn:=f65) hT (by kernel_rfl) (by kernel_rfl) (by decide) fun x r h w0 φ0 Q hend=>?_
 replace h:q2np d x=some r:=h
 unfold q2np at h
 show Run prog w0 φ0 26 (qct f65) ⟨[(0,.fz Riii x.1.1),(1,.agg [.int .i64 x.2.1.1,.int .i64 x.2.1.2.1])],[]⟩ Q
 refine q3f2 hm hT hC (q2n0 (q2mt d) (x.1.1,x.2.1.1,x.2.1.2.1)) h fun y0 h=>?_
 refine q7w ?_
 refine q3f2 hm hT hC (q2n4 (q2mt d) y0) h fun y1 h=>?_
 refine q3f2 hm hT hC (q2n8 (q2mt d) y1) h fun y2 h=>?_
 refine q80 (v:=y2.2.2.1) (by kernel_rfl) h ?_ ?_
 ·
  intro h
  refine q3f2 hm hT hC (q2nc (q2mt d) y2) h fun y3 h=>?_
  refine q7v (q7k ?_)
  cases h
  exact (hend _ (by kernel_rfl)).2
 ·
  intro h
  refine q7s (q7i ?_)
  refine q3f2 hm hT hC (q2ng (q2mt d) y2) h fun y4 h=>?_
  refine q7w ?_
  refine q3f2 hm hT hC (q2nk (q2mt d) y4) h fun y5 h=>?_
  refine q80 (v:=y5.2.2) (by kernel_rfl) h ?_ ?_
  ·
   intro h
   refine q3f2 hm hT hC (q2nm (q2mt d) y5) h fun y6 h=>?_
   refine q7v (q7k ?_)
   cases h
   exact (hend _ (by kernel_rfl)).2
  ·
   intro h
   refine q7s (q7i ?_)
   refine q3f2 hm hT hC (q2no (q2mt d) y5) h fun y7 h=>?_
   refine q7v ?_
   cases h
   exact (hend _ (by kernel_rfl)).2
end Go.Proofs.YtpfhgnccpiildaaGreat

namespace Go.Proofs.YtpfhgnccpiildaaGreat
open Go Go.Tx Go.Proofs.Tryz
set_option maxRecDepth 100000
set_option maxHeartbeats 0
abbrev q2nr:List Pk:=[.row Rbuu true]
abbrev q2ns:Type:=Dbuu×Unit
abbrev q2nt:Type:=Int
def q2nu (r:q2nt):LV×List Ob:=(.int .i64 r,[])
def q2nv (F:q2ns→Option q2nt):Go.Tx.Spec:=⟨90,q2nr,q2nt,F,q2nu⟩
abbrev q2nw:Type:=Unit
def q2nx (_d:Nat):q2nw:=()
def q2ny (C:q2nw):List Go.Tx.Spec:=[]
abbrev q2nz:Type:=Bool×Int×Int
def q2o0 (v:q2nz):St:=⟨[(0,.agg [.bool v.1,u6 v.2.1,u6 v.2.2])],[]⟩
abbrev q2o1:Type:=Bool×Int×Int
def q2o2 (v:q2o1):St:=⟨[(1,.ptr 0 0)],[.cells [.bool v.1,u6 v.2.1,u6 v.2.2]]⟩
def q2o3 (C:q2nw) (v:q2nz):Dt q2o1:=(Dt.ret (v.1,v.2.1,v.2.2))
abbrev q3go {V Y:Type}:=@rg q2nw V Y tysT (fun C=>(orc (q2ny C))) 13
theorem q2o4 C v:q3go (regO (qct f90) 0) false [(1,.any)] q2o0 q2o3 q2o2 C v:=rgI (by kernel_rfl)
abbrev q2o5:Type:=Bool×Bool×Int×Int
def q2o6 (v:q2o5):St:=⟨[(1,.ptr 0 0),(10,.bool v.1)],[.cells [.bool v.2.1,u6 v.2.2.1,u6 v.2.2.2]]⟩
def q2o7 (C:q2nw) (v:q2o1):Dt q2o5:=(Dt.ite (v.2.1 == (0:Int)) (Dt.ret ((v.2.2 == (0:Int)),v.1,v.2.1,v.2.2)) (Dt.ret (false,v.1,v.2.1,v.2.2)))
theorem q2o8 C v:q3go (regO (qct f90) 1) false (an [1,10]) q2o2 q2o7 q2o6 C v:=rgI (by kernel_rfl)
abbrev q2o9:Type:=Int
def q2oa (v:q2o9):St:=⟨[(2,i6 v)],[]⟩
def q2ob (C:q2nw) (v:q2o5):Dt q2o9:=(Dt.ret (0:Int))
theorem q2oc C v:q3go (regO (qct f90) 2) false [(2,.any)] q2o6 q2ob q2oa C v:=rgI (by kernel_rfl)
abbrev q2od:Type:=Bool
def q2oe (v:q2od):St:=⟨[(12,.bool v)],[]⟩
def q2of (C:q2nw) (v:q2o5):Dt q2od:=(Dt.ret v.2.1)
theorem q2og C v:q3go (regO (qct f90) 3) false [(12,.any)] q2o6 q2of q2oe C v:=rgI (by kernel_rfl)
def q2oh (C:q2nw) (v:q2od):Dt q2o9:=(Dt.ret (-1:Int))
theorem q2oi C v:q3go (regO (qct f90) 4) false [(2,.any)] q2oe q2oh q2oa C v:=rgI (by kernel_rfl)
def q2oj (C:q2nw) (v:q2od):Dt q2o9:=(Dt.ret (1:Int))
theorem q2ok C v:q3go (regO (qct f90) 5) false [(2,.any)] q2oe q2oj q2oa C v:=rgI (by kernel_rfl)
def q2ol (d:Nat) (x:q2ns):Option q2nt :=
 (q2o3 (q2nx d) (x.1.1,x.1.2.1,x.1.2.2.1)).eval fun y0 =>
 (q2o7 (q2nx d) y0).eval fun y1 =>
 bif y1.1 then ((q2ob (q2nx d) y1).eval fun y2 =>
 some y2) else ((q2of (q2nx d) y1).eval fun y3 =>
 bif y3 then ((q2oh (q2nx d) y3).eval fun y4 =>
 some y4) else ((q2oj (q2nx d) y3).eval fun y5 =>
 some y5))
theorem q2om (d:Nat):COK prog (q2nv (q2ol d)):=by
 have hm:prog.follows .mixedOrders=true:=mixed
 have hT:=tys
 have hC0:OrcOK prog (orc (q2ny (q2nx d))):=qcn (by
  intro S hS
  simp only [q2ny,List.mem_cons,List.not_mem_nil,or_false] at hS
  all_goals first | cases hS | exact hS.elim)
 have hC:OrcOK prog (orc (q2ny (q2nx d))):=hC0
 refine q8c (c:=qct f90) (fn:=f90) hT (by kernel_rfl) (by kernel_rfl) (by decide) fun x r h w0 φ0 Q hend=>?_
 replace h:q2ol d x=some r:=h
 unfold q2ol at h
 show Run prog w0 φ0 13 (qct f90) ⟨[(0,.agg [.bool x.1.1,.int .u64 x.1.2.1,.int .u64 x.1.2.2.1])],[]⟩ Q
 refine q3f2 hm hT hC (q2o4 (q2nx d) (x.1.1,x.1.2.1,x.1.2.2.1)) h fun y0 h=>?_
 refine q7w ?_
 refine q3f2 hm hT hC (q2o8 (q2nx d) y0) h fun y1 h=>?_
 refine q80 (v:=y1.1) (by kernel_rfl) h ?_ ?_
 ·
  intro h
  refine q3f2 hm hT hC (q2oc (q2nx d) y1) h fun y2 h=>?_
  refine q7v (q7k ?_)
  cases h
  exact (hend _ (by kernel_rfl)).2
 ·
  intro h
  refine q7s (q7i (q7w ?_))
  refine q3f2 hm hT hC (q2og (q2nx d) y1) h fun y3 h=>?_
  refine q80 (v:=y3) (by kernel_rfl) h ?_ ?_
  ·
   intro h
   refine q3f2 hm hT hC (q2oi (q2nx d) y3) h fun y4 h=>?_
   refine q7v (q7k ?_)
   cases h
   exact (hend _ (by kernel_rfl)).2
  ·
   intro h
   refine q7s (q7i ?_)
   refine q3f2 hm hT hC (q2ok (q2nx d) y3) h fun y5 h=>?_
   refine q7v ?_
   cases h
   exact (hend _ (by kernel_rfl)).2
abbrev q2on:List Pk:=[.row Rii true,.row Rii true]
abbrev q2oo:Type:=Dii×Dii×Unit
abbrev q2op:Type:=Int
def q2oq (r:q2op):LV×List Ob:=(.int .i64 r,[])
def q2or (F:q2oo→Option q2op):Go.Tx.Spec:=⟨43,q2on,q2op,F,q2oq⟩
abbrev q2os:Type:=(qmh→Option qmi)×(q2ns→Option q2nt)×(q1t4→Option q1t5)×Unit
def q2ot (d:Nat):q2os:=(qmm d,q2ol d,q1u9 d,())
def q2ou (C:q2os):List Go.Tx.Spec:=[qmk C.1,q2nv C.2.1,q1t7 C.2.2.1]
abbrev q2ov:Type:=Int×Int×Int×Int
def q2ow (v:q2ov):St:=⟨[(0,.agg [i6 v.1,i6 v.2.1]),(1,.agg [i6 v.2.2.1,i6 v.2.2.2])],[]⟩
abbrev q2ox:Type:=Int×Int×Int×Int
def q2oy (v:q2ox):St:=⟨[(2,.ptr 0 0),(3,.ptr 1 0)],[.cells [i6 v.1,i6 v.2.1],.cells [i6 v.2.2.1,i6 v.2.2.2]]⟩
def q2oz (C:q2os) (v:q2ov):Dt q2ox:=(Dt.ret (v.1,v.2.1,v.2.2.1,v.2.2.2))
abbrev q3gp {V Y:Type}:=@rg q2os V Y tysT (fun C=>(orc (q2ou C))) 36
theorem q2p0 C v:q3gp (regO (qct f43) 0) false (an [2,3]) q2ow q2oz q2oy C v:=rgI (by kernel_rfl)
abbrev q2p1:Type:=Bool×Int×Int×Bool×Int×Int
def q2p2 (v:q2p1):St:=⟨[(5,.ptr 0 0),(6,.ptr 1 0)],[.cells [.bool v.1,u6 v.2.1,u6 v.2.2.1],.cells [.bool v.2.2.2.1,u6 v.2.2.2.2.1,u6 v.2.2.2.2.2]]⟩
def q2p3 (C:q2os) (v:q2ox):Dt q2p1:=(Dt.bnd (C.1 ((v.1,()),(v.2.2.2,()),())) fun r1=>(Dt.bnd (C.1 ((v.2.2.1,()),(v.2.1,()),())) fun r2=>(Dt.ret (r1.1,r1.2.1,r1.2.2,r2.1,r2.2.1,r2.2.2))))
theorem q2p4 C v:q3gp (regO (qct f43) 1) true (an [5,6]) q2oy q2p3 q2p2 C v:=rgI (by kernel_rfl)
abbrev q2p5:Type:=Bool×Bool×Int×Int×Bool×Int×Int
def q2p6 (v:q2p5):St:=⟨[(5,.ptr 0 0),(6,.ptr 1 0),(21,.bool v.1)],[.cells [.bool v.2.1,u6 v.2.2.1,u6 v.2.2.2.1],.cells [.bool v.2.2.2.2.1,u6 v.2.2.2.2.2.1,u6 v.2.2.2.2.2.2]]⟩
def q2p7 (C:q2os) (v:q2p1):Dt q2p5:=(Dt.bnd (C.2.1 ((v.1,v.2.1,v.2.2.1,()),())) fun r1=>(Dt.bnd (C.2.1 ((v.2.2.2.1,v.2.2.2.2.1,v.2.2.2.2.2,()),())) fun r2=>(Dt.ret ((r1 != r2),v.1,v.2.1,v.2.2.1,v.2.2.2.1,v.2.2.2.2.1,v.2.2.2.2.2))))
theorem q2p8 C v:q3gp (regO (qct f43) 2) true (an [5,6,21]) q2p2 q2p7 q2p6 C v:=rgI (by kernel_rfl)
abbrev q2p9:Type:=Bool
def q2pa (v:q2p9):St:=⟨[(26,.bool v)],[]⟩
def q2pb (C:q2os) (v:q2p5):Dt q2p9:=(Dt.bnd (C.2.1 ((v.2.1,v.2.2.1,v.2.2.2.1,()),())) fun r1=>(Dt.bnd (C.2.1 ((v.2.2.2.2.1,v.2.2.2.2.2.1,v.2.2.2.2.2.2,()),())) fun r2=>(Dt.ret (decide (r1<r2)))))
theorem q2pc C v:q3gp (regO (qct f43) 3) true [(26,.any)] q2p6 q2pb q2pa C v:=rgI (by kernel_rfl)
abbrev q2pd:Type:=Int
def q2pe (v:q2pd):St:=⟨[(4,i6 v)],[]⟩
def q2pf (C:q2os) (v:q2p9):Dt q2pd:=(Dt.ret (-1:Int))
theorem q2pg C v:q3gp (regO (qct f43) 4) false [(4,.any)] q2pa q2pf q2pe C v:=rgI (by kernel_rfl)
def q2ph (C:q2os) (v:q2p9):Dt q2pd:=(Dt.ret (1:Int))
theorem q2pi C v:q3gp (regO (qct f43) 5) false [(4,.any)] q2pa q2ph q2pe C v:=rgI (by kernel_rfl)
abbrev q2pj:Type:=Bool×Bool×Int×Int×Bool×Int×Int
def q2pk (v:q2pj):St:=⟨[(5,.ptr 0 0),(6,.ptr 1 0),(29,.bool v.1)],[.cells [.bool v.2.1,u6 v.2.2.1,u6 v.2.2.2.1],.cells [.bool v.2.2.2.2.1,u6 v.2.2.2.2.2.1,u6 v.2.2.2.2.2.2]]⟩
def q2pl (C:q2os) (v:q2p5):Dt q2pj:=(Dt.bnd (C.2.1 ((v.2.1,v.2.2.1,v.2.2.2.1,()),())) fun r1=>(Dt.ret ((decide (r1<(0:Int))),v.2.1,v.2.2.1,v.2.2.2.1,v.2.2.2.2.1,v.2.2.2.2.2.1,v.2.2.2.2.2.2)))
theorem q2pm C v:q3gp (regO (qct f43) 6) false (an [5,6,29]) q2p6 q2pl q2pk C v:=rgI (by kernel_rfl)
def q2pn (C:q2os) (v:q2pj):Dt q2pd:=(Dt.bnd (C.2.2.1 ((v.2.2.2.2.1,v.2.2.2.2.2.1,v.2.2.2.2.2.2,()),(v.2.1,v.2.2.1,v.2.2.2.1,()),())) fun r1=>(Dt.ret r1))
theorem q2po C v:q3gp (regO (qct f43) 7) false [(4,.any)] q2pk q2pn q2pe C v:=rgI (by kernel_rfl)
def q2pp (C:q2os) (v:q2pj):Dt q2pd:=(Dt.bnd (C.2.2.1 ((v.2.1,v.2.2.1,v.2.2.2.1,()),(v.2.2.2.2.1,v.2.2.2.2.2.1,v.2.2.2.2.2.2,()),())) fun r1=>(Dt.ret r1))
theorem q2pq C v:q3gp (regO (qct f43) 8) false [(4,.any)] q2pk q2pp q2pe C v:=rgI (by kernel_rfl)
def q2pr (d:Nat) (x:q2oo):Option q2op :=
 (q2oz (q2ot d) (x.1.1,x.1.2.1,x.2.1.1,x.2.1.2.1)).eval fun y0 =>
 (q2p3 (q2ot d) y0).eval fun y1 =>
 (q2p7 (q2ot d) y1).eval fun y2 =>
 bif y2.1 then ((q2pb (q2ot d) y2).eval fun y3 =>
 bif y3 then ((q2pf (q2ot d) y3).eval fun y4 =>
 some y4) else ((q2ph (q2ot d) y3).eval fun y5 =>
 some y5)) else ((q2pl (q2ot d) y2).eval fun y6 =>
 bif y6.1 then ((q2pn (q2ot d) y6).eval fun y7 =>
 some y7) else ((q2pp (q2ot d) y6).eval fun y8 =>
 some y8))
theorem q2ps (d:Nat):COK prog (q2or (q2pr d)):=by
 have hm:prog.follows .mixedOrders=true:=mixed
 have hT:=tys
 have hC0:OrcOK prog (orc (q2ou (q2ot d))):=qcn (by
  intro S hS
  simp only [q2ou,List.mem_cons,List.not_mem_nil,or_false] at hS
  rcases hS with rfl | rfl | rfl
  · exact qmo d
  · exact q2om d
  · exact q1ua d)
 have hC:OrcOK prog (orc (q2ou (q2ot d))):=hC0
 refine q8c (c:=qct f43) (fn:=f43) hT (by kernel_rfl) (by kernel_rfl) (by decide) fun x r h w0 φ0 Q hend=>?_
 replace h:q2pr d x=some r:=h
 unfold q2pr at h
 show Run prog w0 φ0 36 (qct f43) ⟨[(0,.agg [.int .i64 x.1.1,.int .i64 x.1.2.1]),(1,.agg [.int .i64 x.2.1.1,.int .i64 x.2.1.2.1])],[]⟩ Q
 refine q3f2 hm hT hC (q2p0 (q2ot d) (x.1.1,x.1.2.1,x.2.1.1,x.2.1.2.1)) h fun y0 h=>?_
 refine q3f2 hm hT hC (q2p4 (q2ot d) y0) h fun y1 h=>?_
 refine q7w ?_
 refine q3f2 hm hT hC (q2p8 (q2ot d) y1) h fun y2 h=>?_
 refine q80 (v:=y2.1) (by kernel_rfl) h ?_ ?_
 ·
  intro h
  refine q7w ?_
  refine q3f2 hm hT hC (q2pc (q2ot d) y2) h fun y3 h=>?_
  refine q80 (v:=y3) (by kernel_rfl) h ?_ ?_
  ·
   intro h
   refine q3f2 hm hT hC (q2pg (q2ot d) y3) h fun y4 h=>?_
   refine q7v (q7k (q7k ?_))
   cases h
   exact (hend _ (by kernel_rfl)).2
  ·
   intro h
   refine q7s (q7i ?_)
   refine q3f2 hm hT hC (q2pi (q2ot d) y3) h fun y5 h=>?_
   refine q7v (q7k ?_)
   cases h
   exact (hend _ (by kernel_rfl)).2
 ·
  intro h
  refine q7s (q7i (q7w ?_))
  refine q3f2 hm hT hC (q2pm (q2ot d) y2) h fun y6 h=>?_
  refine q80 (v:=y6.1) (by kernel_rfl) h ?_ ?_
  ·
   intro h
   refine q3f2 hm hT hC (q2po (q2ot d) y6) h fun y7 h=>?_
   refine q7v (q7k ?_)
   cases h
   exact (hend _ (by kernel_rfl)).2
  ·
   intro h
   refine q7s (q7i ?_)
   refine q3f2 hm hT hC (q2pq (q2ot d) y6) h fun y8 h=>?_
   refine q7v ?_
   cases h
   exact (hend _ (by kernel_rfl)).2
abbrev q2pt:List Pk:=[.row qj5 true,.row Rii true,.row Rii true]
abbrev q2pu:Type:=qj6×Dii×Dii×Unit
abbrev q2pv:Type:=Int
def q2pw (r:q2pv):LV×List Ob:=(.int .i64 r,[])
def q2px (F:q2pu→Option q2pv):Go.Tx.Spec:=⟨11,q2pt,q2pv,F,q2pw⟩
abbrev q2py:Type:=(q2oo→Option q2op)×(qph→Option qpi)×(q1rp→Option q1rq)×Unit
def q2pz (d:Nat):q2py:=(q2pr d,qpm d,q1sc d,())
def q2q0 (C:q2py):List Go.Tx.Spec:=[q2or C.1,qpk C.2.1,q1rs C.2.2.1]
abbrev q2q1:Type:=List Diii×Int×Int×Int×Int
def q2q2 (v:q2q1):St:=⟨[(0,.agg [.fz Riii v.1]),(1,.agg [i6 v.2.1,i6 v.2.2.1]),(2,.agg [i6 v.2.2.2.1,i6 v.2.2.2.2])],[]⟩
abbrev q2q3:Type:=List Diii×Int×Int×Int×Int
def q2q4 (v:q2q3):St:=⟨[(3,.ptr 0 0),(4,.ptr 1 0),(5,.ptr 2 0)],[.cells [.fz Riii v.1],.cells [i6 v.2.1,i6 v.2.2.1],.cells [i6 v.2.2.2.1,i6 v.2.2.2.2]]⟩
def q2q5 (C:q2py) (v:q2q1):Dt q2q3:=(Dt.ret (v.1,v.2.1,v.2.2.1,v.2.2.2.1,v.2.2.2.2))
abbrev q3gq {V Y:Type}:=@rg q2py V Y tysT (fun C=>(orc (q2q0 C))) 24
theorem q2q6 C v:q3gq (regO (qct f11) 0) false [(3,(.box [.val Riii])),(4,.any),(5,.any)] q2q2 q2q5 q2q4 C v:=rgI (by kernel_rfl)
abbrev q2q7:Type:=Int×Int×Int×Int×Int
def q2q8 (v:q2q7):St:=⟨[(4,.ptr 0 0),(5,.ptr 1 0),(7,i6 v.1)],[.cells [i6 v.2.1,i6 v.2.2.1],.cells [i6 v.2.2.2.1,i6 v.2.2.2.2]]⟩
def q2q9 (C:q2py) (v:q2q3):Dt q2q7:=(Dt.bnd (C.2.1 ((v.1,()),())) fun r1=>(Dt.ret (r1,v.2.1,v.2.2.1,v.2.2.2.1,v.2.2.2.2)))
theorem q2qa C v:q3gq (regO (qct f11) 1) false (an [4,5,7]) q2q4 q2q9 q2q8 C v:=rgI (by kernel_rfl)
abbrev q2qb:Type:=Int×Bool×Int×Int×Int×Int
def q2qc (v:q2qb):St:=⟨[(4,.ptr 0 0),(5,.ptr 1 0),(7,i6 v.1),(12,.bool v.2.1)],[.cells [i6 v.2.2.1,i6 v.2.2.2.1],.cells [i6 v.2.2.2.2.1,i6 v.2.2.2.2.2]]⟩
def q2qd (C:q2py) (v:q2q7):Dt q2qb:=(Dt.ret (v.1,(v.1 != (0:Int)),v.2.1,v.2.2.1,v.2.2.2.1,v.2.2.2.2))
theorem q2qe C v:q3gq (regO (qct f11) 2) false (an [4,5,7,12]) q2q8 q2qd q2qc C v:=rgI (by kernel_rfl)
abbrev q2qf:Type:=Int
def q2qg (v:q2qf):St:=⟨[(6,i6 v)],[]⟩
def q2qh (C:q2py) (v:q2qb):Dt q2qf:=(Dt.ret v.1)
theorem q2qi C v:q3gq (regO (qct f11) 3) false [(6,.any)] q2qc q2qh q2qg C v:=rgI (by kernel_rfl)
abbrev q2qj:Type:=Int×Int×Int×Int×Int
def q2qk (v:q2qj):St:=⟨[(4,.ptr 0 0),(5,.ptr 1 0),(8,i6 v.1)],[.cells [i6 v.2.1,i6 v.2.2.1],.cells [i6 v.2.2.2.1,i6 v.2.2.2.2]]⟩
def q2ql (C:q2py) (v:q2qb):Dt q2qj:=(Dt.bnd (C.2.2.1 ((v.2.2.1,v.2.2.2.1,()),(v.2.2.2.2.1,v.2.2.2.2.2,()),())) fun r1=>(Dt.ret (r1,v.2.2.1,v.2.2.2.1,v.2.2.2.2.1,v.2.2.2.2.2)))
theorem q2qm C v:q3gq (regO (qct f11) 4) false (an [4,5,8]) q2qc q2ql q2qk C v:=rgI (by kernel_rfl)
abbrev q2qn:Type:=Int×Bool×Int×Int×Int×Int
def q2qo (v:q2qn):St:=⟨[(4,.ptr 0 0),(5,.ptr 1 0),(8,i6 v.1),(18,.bool v.2.1)],[.cells [i6 v.2.2.1,i6 v.2.2.2.1],.cells [i6 v.2.2.2.2.1,i6 v.2.2.2.2.2]]⟩
def q2qp (C:q2py) (v:q2qj):Dt q2qn:=(Dt.ret (v.1,(v.1 != (0:Int)),v.2.1,v.2.2.1,v.2.2.2.1,v.2.2.2.2))
theorem q2qq C v:q3gq (regO (qct f11) 5) false (an [4,5,8,18]) q2qk q2qp q2qo C v:=rgI (by kernel_rfl)
def q2qr (C:q2py) (v:q2qn):Dt q2qf:=(Dt.ret v.1)
theorem q2qs C v:q3gq (regO (qct f11) 6) false [(6,.any)] q2qo q2qr q2qg C v:=rgI (by kernel_rfl)
abbrev q2qt:Type:=Bool
def q2qu (v:q2qt):St:=⟨[(23,.bool v)],[]⟩
def q2qv (C:q2py) (v:q2qn):Dt q2qt:=(Dt.bnd (C.1 ((v.2.2.1,v.2.2.2.1,()),(v.2.2.2.2.1,v.2.2.2.2.2,()),())) fun r1=>(Dt.ret (decide (r1 > (0:Int)))))
theorem q2qw C v:q3gq (regO (qct f11) 7) false [(23,.any)] q2qo q2qv q2qu C v:=rgI (by kernel_rfl)
def q2qx (C:q2py) (v:q2qt):Dt q2qf:=(Dt.ret (2:Int))
theorem q2qy C v:q3gq (regO (qct f11) 8) false [(6,.any)] q2qu q2qx q2qg C v:=rgI (by kernel_rfl)
def q2qz (C:q2py) (v:q2qt):Dt q2qf:=(Dt.ret (0:Int))
theorem q2r0 C v:q3gq (regO (qct f11) 9) false [(6,.any)] q2qu q2qz q2qg C v:=rgI (by kernel_rfl)
def q2r1 (d:Nat) (x:q2pu):Option q2pv :=
 (q2q5 (q2pz d) (x.1.1,x.2.1.1,x.2.1.2.1,x.2.2.1.1,x.2.2.1.2.1)).eval fun y0 =>
 (q2q9 (q2pz d) y0).eval fun y1 =>
 (q2qd (q2pz d) y1).eval fun y2 =>
 bif y2.2.1 then ((q2qh (q2pz d) y2).eval fun y3 =>
 some y3) else ((q2ql (q2pz d) y2).eval fun y4 =>
 (q2qp (q2pz d) y4).eval fun y5 =>
 bif y5.2.1 then ((q2qr (q2pz d) y5).eval fun y6 =>
 some y6) else ((q2qv (q2pz d) y5).eval fun y7 =>
 bif y7 then ((q2qx (q2pz d) y7).eval fun y8 =>
 some y8) else ((q2qz (q2pz d) y7).eval fun y9 =>
 some y9)))
theorem q2r2 (d:Nat):COK prog (q2px (q2r1 d)):=by
 have hm:prog.follows .mixedOrders=true:=mixed
 have hT:=tys
 have hC0:OrcOK prog (orc (q2q0 (q2pz d))):=qcn (by
  intro S hS
  simp only [q2q0,List.mem_cons,List.not_mem_nil,or_false] at hS
  rcases hS with rfl | rfl | rfl
  · exact q2ps d
  · exact qpo d
  · exact q1sd d)
 have hC:OrcOK prog (orc (q2q0 (q2pz d))):=hC0
 refine q8c (c:=qct f11) (fn:=f11) hT (by kernel_rfl) (by kernel_rfl) (by decide) fun x r h w0 φ0 Q hend=>?_
 replace h:q2r1 d x=some r:=h
 unfold q2r1 at h
 show Run prog w0 φ0 24 (qct f11) ⟨[(0,.agg [.fz Riii x.1.1]),(1,.agg [.int .i64 x.2.1.1,.int .i64 x.2.1.2.1]),(2,.agg [.int .i64 x.2.2.1.1,.int .i64 x.2.2.1.2.1])],[]⟩ Q
 refine q3f2 hm hT hC (q2q6 (q2pz d) (x.1.1,x.2.1.1,x.2.1.2.1,x.2.2.1.1,x.2.2.1.2.1)) h fun y0 h=>?_
 refine q7w ?_
 refine q3f2 hm hT hC (q2qa (q2pz d) y0) h fun y1 h=>?_
 refine q3f2 hm hT hC (q2qe (q2pz d) y1) h fun y2 h=>?_
 refine q80 (v:=y2.2.1) (by kernel_rfl) h ?_ ?_
 ·
  intro h
  refine q3f2 hm hT hC (q2qi (q2pz d) y2) h fun y3 h=>?_
  refine q7v (q7k ?_)
  cases h
  exact (hend _ (by kernel_rfl)).2
 ·
  intro h
  refine q7s (q7i (q7w ?_))
  refine q3f2 hm hT hC (q2qm (q2pz d) y2) h fun y4 h=>?_
  refine q3f2 hm hT hC (q2qq (q2pz d) y4) h fun y5 h=>?_
  refine q80 (v:=y5.2.1) (by kernel_rfl) h ?_ ?_
  ·
   intro h
   refine q3f2 hm hT hC (q2qs (q2pz d) y5) h fun y6 h=>?_
   refine q7v (q7k ?_)
   cases h
   exact (hend _ (by kernel_rfl)).2
  ·
   intro h
   refine q7s (q7i (q7w ?_))
   refine q3f2 hm hT hC (q2qw (q2pz d) y5) h fun y7 h=>?_
   refine q80 (v:=y7) (by kernel_rfl) h ?_ ?_
   ·
    intro h
    refine q3f2 hm hT hC (q2qy (q2pz d) y7) h fun y8 h=>?_
    refine q7v (q7k ?_)
    cases h
    exact (hend _ (by kernel_rfl)).2
   ·
    intro h
    refine q7s (q7i ?_)
    refine q3f2 hm hT hC (q2r0 (q2pz d) y7) h fun y9 h=>?_
    refine q7v ?_
    cases h
    exact (hend _ (by kernel_rfl)).2
abbrev q2r3:List Pk:=[.row qj5 false]
abbrev q2r4:Type:=qj6×Unit
abbrev q2r5:Type:=Int
def q2r6 (r:q2r5):LV×List Ob:=(.int .i64 r,[])
def q2r7 (F:q2r4→Option q2r5):Go.Tx.Spec:=⟨66,q2r3,q2r5,F,q2r6⟩
abbrev q2r8:Type:=(qmz→Option qn0)×(q2oo→Option q2op)×Unit
def q2r9 (d:Nat):q2r8:=(qn4 d,q2pr d,())
def q2ra (C:q2r8):List Go.Tx.Spec:=[qn2 C.1,q2or C.2.1]
abbrev q2rb:Type:=List Diii
def q2rc (v:q2rb):St:=⟨[(0,.fz Riii v)],[]⟩
def q2rd (C:q2r8) (v:q2rb):Dt q2rb:=(Dt.ret v)
abbrev q3gr {V Y:Type}:=@rg q2r8 V Y tysT (fun C=>(orc (q2ra C))) 72
theorem q2re C v:q3gr (regO (qct f66) 0) false [(0,(.val Riii))] q2rc q2rd q2rc C v:=rgI (by kernel_rfl)
abbrev q2rf:Type:=List Diii×Bool
def q2rg (v:q2rf):St:=⟨[(0,.fz Riii v.1),(11,.bool v.2)],[]⟩
def q2rh (C:q2r8) (v:q2rb):Dt q2rf:=(Dt.ite (decide ((List.length v:Int)<(1:Int))) (Dt.ret (v,true)) (Dt.ret (v,(decide ((List.length v:Int) > (300:Int))))))
theorem q2ri C v:q3gr (regO (qct f66) 1) false [(0,(.val Riii)),(11,.any)] q2rc q2rh q2rg C v:=rgI (by kernel_rfl)
abbrev q2rj:Type:=Int
def q2rk (v:q2rj):St:=⟨[(2,i6 v)],[]⟩
def q2rl (C:q2r8) (v:q2rf):Dt q2rj:=(Dt.ret (8:Int))
theorem q2rm C v:q3gr (regO (qct f66) 2) false [(2,.any)] q2rg q2rl q2rk C v:=rgI (by kernel_rfl)
abbrev q2rn:Type:=List Diii×Int
def q2ro (v:q2rn):St:=⟨[(0,.fz Riii v.1),(3,i6 v.2)],[]⟩
def q2rp (C:q2r8) (v:q2rf):Dt q2rn:=(Dt.ret (v.1,(0:Int)))
theorem q2rq C v:q3gr (regO (qct f66) 3) false [(0,(.val Riii)),(3,.any)] q2rg q2rp q2ro C v:=rgI (by kernel_rfl)
abbrev q2rr:Type:=List Diii×Int×Bool
def q2rs (v:q2rr):St:=⟨[(0,.fz Riii v.1),(3,i6 v.2.1),(15,.bool v.2.2)],[]⟩
def q2rt (C:q2r8) (v:q2rn):Dt q2rr:=(Dt.ret (v.1,v.2,(decide (v.2<(List.length v.1:Int)))))
theorem q2ru C v:q3gr (regO (qct f66) 4) false [(0,(.val Riii)),(3,.any),(15,.any)] q2ro q2rt q2rs C v:=rgI (by kernel_rfl)
abbrev q2rv:Type:=List Diii×Int×Bool
def q2rw (v:q2rv):St:=⟨[(0,.fz Riii v.1),(3,i6 v.2.1),(40,.bool v.2.2)],[]⟩
def q2rx (C:q2r8) (v:q2rr):Dt q2rv:=(Dt.ite (inB v.2.1 (List.length v.1)) (Dt.bnd (C.1 (((elt ziii v.1 (v.2.1).toNat).1,(elt ziii v.1 (v.2.1).toNat).2.1,()),())) fun r1=>(Dt.ite (r1 != (0:Int)) (Dt.ret (v.1,v.2.1,true)) (Dt.ite (inB v.2.1 (List.length v.1)) (Dt.ite (decide ((elt ziii v.1 (v.2.1).toNat).2.2.1<(0:Int))) (Dt.ret (v.1,v.2.1,true)) (Dt.ite (inB v.2.1 (List.length v.1)) (Dt.ret (v.1,v.2.1,(decide ((elt ziii v.1 (v.2.1).toNat).2.2.1 > (65535:Int))))) Dt.fail)) Dt.fail))) Dt.fail)
theorem q2ry C v:q3gr (regO (qct f66) 6) false [(0,(.val Riii)),(3,.any),(40,.any)] q2rs q2rx q2rw C v:=rgI (by kernel_rfl)
def q2rz (C:q2r8) (v:q2rv):Dt q2rj:=(Dt.ret (8:Int))
theorem q2s0 C v:q3gr (regO (qct f66) 7) false [(2,.any)] q2rw q2rz q2rk C v:=rgI (by kernel_rfl)
abbrev q2s1:Type:=List Diii×Int×Bool
def q2s2 (v:q2s1):St:=⟨[(0,.fz Riii v.1),(3,i6 v.2.1),(71,.bool v.2.2)],[]⟩
def q2s3 (C:q2r8) (v:q2rv):Dt q2s1:=(Dt.ite (decide (v.2.1 > (0:Int))) (Dt.ite (inB (IntKind.wrap .i64 (v.2.1 - (1:Int))) (List.length v.1)) (Dt.ite (inB v.2.1 (List.length v.1)) (Dt.bnd (C.2.1 (((elt ziii v.1 ((IntKind.wrap .i64 (v.2.1 - (1:Int)))).toNat).1,(elt ziii v.1 ((IntKind.wrap .i64 (v.2.1 - (1:Int)))).toNat).2.1,()),((elt ziii v.1 (v.2.1).toNat).1,(elt ziii v.1 (v.2.1).toNat).2.1,()),())) fun r1=>(Dt.ite (decide (r1≥(0:Int))) (Dt.ret (v.1,v.2.1,true)) (Dt.ite (inB (IntKind.wrap .i64 (v.2.1 - (1:Int))) (List.length v.1)) (Dt.ite (inB v.2.1 (List.length v.1)) (Dt.ret (v.1,v.2.1,((elt ziii v.1 ((IntKind.wrap .i64 (v.2.1 - (1:Int)))).toNat).2.2.1 == (elt ziii v.1 (v.2.1).toNat).2.2.1))) Dt.fail) Dt.fail))) Dt.fail) Dt.fail) (Dt.ret (v.1,v.2.1,false)))
theorem q2s4 C v:q3gr (regO (qct f66) 8) true [(0,(.val Riii)),(3,.any),(71,.any)] q2rw q2s3 q2s2 C v:=rgI (by kernel_rfl)
def q2s5 (C:q2r8) (v:q2s1):Dt q2rj:=(Dt.ret (8:Int))
theorem q2s6 C v:q3gr (regO (qct f66) 9) false [(2,.any)] q2s2 q2s5 q2rk C v:=rgI (by kernel_rfl)
def q2s7 (C:q2r8) (v:q2s1):Dt q2rn:=(Dt.ret (v.1,(IntKind.wrap .i64 (v.2.1+(1:Int)))))
theorem q2s8 C v:q3gr (regO (qct f66) 5) false [(0,(.val Riii)),(3,.any)] q2s2 q2s7 q2ro C v:=rgI (by kernel_rfl)
def q2s9 (C:q2r8) (v:q2rr):Dt q2rj:=(Dt.ret (0:Int))
theorem q2sa C v:q3gr (regO (qct f66) 10) false [(2,.any)] q2rs q2s9 q2rk C v:=rgI (by kernel_rfl)
def q2sb (d:Nat) (self1:(List Diii×Int)→Option q2r5) (x1:List Diii×Int):Option q2r5 :=
 (q2rt (q2r9 d) x1).eval fun y4 =>
 bif y4.2.2 then ((q2rx (q2r9 d) y4).eval fun y6 =>
 bif y6.2.2 then ((q2rz (q2r9 d) y6).eval fun y7 =>
 some y7) else ((q2s3 (q2r9 d) y6).eval fun y8 =>
 bif y8.2.2 then ((q2s5 (q2r9 d) y8).eval fun y9 =>
 some y9) else ((q2s7 (q2r9 d) y8).eval fun y5 =>
 self1 y5))) else ((q2s9 (q2r9 d) y4).eval fun y10 =>
 some y10)
def q2sc (d:Nat) (x:q2r4):Option q2r5 :=
 (q2rd (q2r9 d) x.1.1).eval fun y0 =>
 (q2rh (q2r9 d) y0).eval fun y1 =>
 bif y1.2 then ((q2rl (q2r9 d) y1).eval fun y2 =>
 some y2) else ((q2rp (q2r9 d) y1).eval fun y3 =>
 iter (q2sb d ) d y3)
theorem q2sd (d:Nat):COK prog (q2r7 (q2sc d)):=by
 have hm:prog.follows .mixedOrders=true:=mixed
 have hT:=tys
 have hC0:OrcOK prog (orc (q2ra (q2r9 d))):=qcn (by
  intro S hS
  simp only [q2ra,List.mem_cons,List.not_mem_nil,or_false] at hS
  rcases hS with rfl | rfl
  · exact qn6 d
  · exact q2ps d)
 have hC:OrcOK prog (orc (q2ra (q2r9 d))):=hC0
 refine q8c (c:=qct f66) (fn:=f66) hT (by kernel_rfl) (by kernel_rfl) (by decide) fun x r h w0 φ0 Q hend=>?_
 replace h:q2sc d x=some r:=h
 unfold q2sc at h
 show Run prog w0 φ0 72 (qct f66) ⟨[(0,.fz Riii x.1.1)],[]⟩ Q
 refine q3f2 hm hT hC (q2re (q2r9 d) x.1.1) h fun y0 h=>?_
 refine q7w ?_
 refine q3f2 hm hT hC (q2ri (q2r9 d) y0) h fun y1 h=>?_
 refine q80 (v:=y1.2) (by kernel_rfl) h ?_ ?_
 ·
  intro h
  refine q3f2 hm hT hC (q2rm (q2r9 d) y1) h fun y2 h=>?_
  refine q7v (q7k ?_)
  cases h
  exact (hend _ (by kernel_rfl)).2
 ·
  intro h
  refine q7s (q7i (q7w ?_))
  refine q3f2 hm hT hC (q2rq (q2r9 d) y1) h fun y3 h=>?_
  refine q7x ?_
  refine q82 (G:=iter (q2sb d )) (S:=(fun x1=>⟨[(0,.fz Riii x1.1),(3,i6 x1.2)],[]⟩:List Diii×Int→St)) (fun _=>rfl) ?_ d _ h
  intro n1 x1 h K1 hn1
  replace h:q2sb d  (iter (q2sb d ) n1) x1=some r:=h
  generalize iter (q2sb d ) n1=self1 at h hn1
  unfold q2sb at h
  refine q7w ?_
  refine q3f2 hm hT hC (q2ru (q2r9 d) x1) h fun y4 h=>?_
  refine q80 (v:=y4.2.2) (by kernel_rfl) h ?_ ?_
  ·
   intro h
   refine q7s (q7i (q7w (q7x (q7w ?_))))
   refine q3f2 hm hT hC (q2ry (q2r9 d) y4) h fun y6 h=>?_
   refine q80 (v:=y6.2.2) (by kernel_rfl) h ?_ ?_
   ·
    intro h
    refine q3f2 hm hT hC (q2s0 (q2r9 d) y6) h fun y7 h=>?_
    refine q7v (q7k (q7m (q7k (q7k (q7m (q7k ?_))))))
    cases h
    exact (hend _ (by kernel_rfl)).2
   ·
    intro h
    refine q7s (q7i ?_)
    refine q3f2 hm hT hC (q2s4 (q2r9 d) y6) h fun y8 h=>?_
    refine q80 (v:=y8.2.2) (by kernel_rfl) h ?_ ?_
    ·
     intro h
     refine q3f2 hm hT hC (q2s6 (q2r9 d) y8) h fun y9 h=>?_
     refine q7v (q7m (q7k (q7k (q7m (q7k ?_)))))
     cases h
     exact (hend _ (by kernel_rfl)).2
    ·
     intro h
     refine q7s (q7l (q7i ?_))
     refine q81 hm hT hC (q2s8 (q2r9 d) y8) h ?_
     intro y5 h
     exact hn1 _ h
  ·
   intro h
   refine q7u (q7j (q7j (q7n (q7i ?_))))
   refine q3f2 hm hT hC (q2sa (q2r9 d) y4) h fun y10 h=>?_
   refine q7v ?_
   cases h
   exact (hend _ (by kernel_rfl)).2
end Go.Proofs.YtpfhgnccpiildaaGreat
