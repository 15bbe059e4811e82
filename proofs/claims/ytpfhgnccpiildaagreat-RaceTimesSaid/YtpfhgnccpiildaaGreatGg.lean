/- Walks of the references; the orders agree; examples. -/
import Derived.Test.YtpfhgnccpiildaaGreatGf
set_option linter.unusedSimpArgs false
set_option linter.unusedVariables false
namespace Go.Proofs.YtpfhgnccpiildaaGreat
open Go Go.Tx Go.Proofs.Tryz
set_option maxRecDepth 100000
set_option maxHeartbeats 0
abbrev q266:List Pk:=[.row Riii true,.row Riii true,.row Rii true]
abbrev q267:Type:=Diii×Diii×Dii×Unit
abbrev q268:Type:=Int×Int×Bool×Int
def q269 (r:q268):LV×List Ob:=(.tup [.agg [.int .i64 r.1,.int .i64 r.2.1],.bool r.2.2.1,.int .i64 r.2.2.2],[])
def q26a (F:q267→Option q268):Go.Tx.Spec:=⟨101,q266,q268,F,q269⟩
abbrev q26b:Type:=(qwx→Option qwy)×(qoh→Option qoi)×(qux→Option quy)×Unit
def q26c (d:Nat):q26b:=(qxu d,qom d,qv2 d,())
def q26d (C:q26b):List Go.Tx.Spec:=[qx0 C.1,qok C.2.1,qv0 C.2.2.1]
abbrev q26e:Type:=Int×Int×Int×Int×Int×Int×Int×Int
def q26f (v:q26e):St:=⟨[(0,.agg [i6 v.1,i6 v.2.1,i6 v.2.2.1]),(1,.agg [i6 v.2.2.2.1,i6 v.2.2.2.2.1,i6 v.2.2.2.2.2.1]),(2,.agg [i6 v.2.2.2.2.2.2.1,i6 v.2.2.2.2.2.2.2])],[]⟩
abbrev q26g:Type:=Int×Int×Int×Int×Int×Int×Int×Int×Int×Int
def q26h (v:q26g):St:=⟨[(3,.ptr 0 0),(4,.ptr 1 0),(5,.ptr 2 0),(6,.ptr 3 0)],[.cells [i6 v.1,i6 v.2.1,i6 v.2.2.1],.cells [i6 v.2.2.2.1,i6 v.2.2.2.2.1,i6 v.2.2.2.2.2.1],.cells [i6 v.2.2.2.2.2.2.1,i6 v.2.2.2.2.2.2.2.1],.cells [i6 v.2.2.2.2.2.2.2.2.1,i6 v.2.2.2.2.2.2.2.2.2]]⟩
def q26i (C:q26b) (v:q26e):Dt q26g:=(Dt.ret (v.1,v.2.1,v.2.2.1,v.2.2.2.1,v.2.2.2.2.1,v.2.2.2.2.2.1,v.2.2.2.2.2.2.1,v.2.2.2.2.2.2.2,(0:Int),(0:Int)))
abbrev q359 {V Y:Type}:=@rg q26b V Y tysT (fun C=>(orc (q26d C))) 42
theorem q26j C v:q359 (regO (qct f101) 0) false (an [3,4,5,6]) q26f q26i q26h C v:=rgI (by kernel_rfl)
abbrev q26k:Type:=Int×Int×Int×Int×Int×Int×Int×Int×Int×Int×Int
def q26l (v:q26k):St:=⟨[(3,.ptr 0 0),(4,.ptr 1 0),(5,.ptr 2 0),(6,.ptr 3 0),(9,i6 v.1)],[.cells [i6 v.2.1,i6 v.2.2.1,i6 v.2.2.2.1],.cells [i6 v.2.2.2.2.1,i6 v.2.2.2.2.2.1,i6 v.2.2.2.2.2.2.1],.cells [i6 v.2.2.2.2.2.2.2.1,i6 v.2.2.2.2.2.2.2.2.1],.cells [i6 v.2.2.2.2.2.2.2.2.2.1,i6 v.2.2.2.2.2.2.2.2.2.2]]⟩
def q26m (C:q26b) (v:q26g):Dt q26k:=(Dt.bnd (C.2.1 ((v.1,v.2.1,v.2.2.1,()),(v.2.2.2.1,v.2.2.2.2.1,v.2.2.2.2.2.1,()),(v.2.2.2.2.2.2.1,v.2.2.2.2.2.2.2.1,()),())) fun r1=>(Dt.ret (r1,v.1,v.2.1,v.2.2.1,v.2.2.2.1,v.2.2.2.2.1,v.2.2.2.2.2.1,v.2.2.2.2.2.2.1,v.2.2.2.2.2.2.2.1,v.2.2.2.2.2.2.2.2.1,v.2.2.2.2.2.2.2.2.2)))
theorem q26n C v:q359 (regO (qct f101) 1) false (an [3,4,5,6,9]) q26h q26m q26l C v:=rgI (by kernel_rfl)
abbrev q26o:Type:=Int×Bool×Int×Int×Int×Int×Int×Int×Int×Int×Int×Int
def q26p (v:q26o):St:=⟨[(3,.ptr 0 0),(4,.ptr 1 0),(5,.ptr 2 0),(6,.ptr 3 0),(9,i6 v.1),(17,.bool v.2.1)],[.cells [i6 v.2.2.1,i6 v.2.2.2.1,i6 v.2.2.2.2.1],.cells [i6 v.2.2.2.2.2.1,i6 v.2.2.2.2.2.2.1,i6 v.2.2.2.2.2.2.2.1],.cells [i6 v.2.2.2.2.2.2.2.2.1,i6 v.2.2.2.2.2.2.2.2.2.1],.cells [i6 v.2.2.2.2.2.2.2.2.2.2.1,i6 v.2.2.2.2.2.2.2.2.2.2.2]]⟩
def q26q (C:q26b) (v:q26k):Dt q26o:=(Dt.ret (v.1,(v.1 != (0:Int)),v.2.1,v.2.2.1,v.2.2.2.1,v.2.2.2.2.1,v.2.2.2.2.2.1,v.2.2.2.2.2.2.1,v.2.2.2.2.2.2.2.1,v.2.2.2.2.2.2.2.2.1,v.2.2.2.2.2.2.2.2.2.1,v.2.2.2.2.2.2.2.2.2.2))
theorem q26r C v:q359 (regO (qct f101) 2) false (an [3,4,5,6,9,17]) q26l q26q q26p C v:=rgI (by kernel_rfl)
abbrev q26s:Type:=Bool×Int×Int×Int
def q26t (v:q26s):St:=⟨[(6,.ptr 0 0),(7,.bool v.1),(8,i6 v.2.1)],[.cells [i6 v.2.2.1,i6 v.2.2.2]]⟩
def q26u (C:q26b) (v:q26o):Dt q26s:=(Dt.ret (false,v.1,(0:Int),(0:Int)))
theorem q26v C v:q359 (regO (qct f101) 3) false (an [6,7,8]) q26p q26u q26t C v:=rgI (by kernel_rfl)
abbrev q26w:Type:=Bool×Int×Int×Int×Int×Int×Int×Int×Int×Int×Int
def q26x (v:q26w):St:=⟨[(3,.ptr 0 0),(4,.ptr 1 0),(5,.ptr 2 0),(6,.ptr 3 0),(24,.bool v.1)],[.cells [i6 v.2.1,i6 v.2.2.1,i6 v.2.2.2.1],.cells [i6 v.2.2.2.2.1,i6 v.2.2.2.2.2.1,i6 v.2.2.2.2.2.2.1],.cells [i6 v.2.2.2.2.2.2.2.1,i6 v.2.2.2.2.2.2.2.2.1],.cells [i6 v.2.2.2.2.2.2.2.2.2.1,i6 v.2.2.2.2.2.2.2.2.2.2]]⟩
def q26y (C:q26b) (v:q26o):Dt q26w:=(Dt.bnd (C.2.2.1 ((v.2.2.2.2.2.1,v.2.2.2.2.2.2.1,v.2.2.2.2.2.2.2.1,()),(v.2.2.1,v.2.2.2.1,v.2.2.2.2.1,()),(v.2.2.2.2.2.2.2.2.1,v.2.2.2.2.2.2.2.2.2.1,()),())) fun r1=>(Dt.ret ((decide (r1 > (0:Int))),v.2.2.1,v.2.2.2.1,v.2.2.2.2.1,v.2.2.2.2.2.1,v.2.2.2.2.2.2.1,v.2.2.2.2.2.2.2.1,v.2.2.2.2.2.2.2.2.1,v.2.2.2.2.2.2.2.2.2.1,v.2.2.2.2.2.2.2.2.2.2.1,v.2.2.2.2.2.2.2.2.2.2.2)))
theorem q26z C v:q359 (regO (qct f101) 4) false (an [3,4,5,6,24]) q26p q26y q26x C v:=rgI (by kernel_rfl)
def q270 (C:q26b) (v:q26w):Dt q26s:=(Dt.ret (true,(0:Int),v.2.2.2.2.2.2.2.1,v.2.2.2.2.2.2.2.2.1))
theorem q271 C v:q359 (regO (qct f101) 5) false (an [6,7,8]) q26x q270 q26t C v:=rgI (by kernel_rfl)
abbrev q272:Type:=Bool×Int×Int×Int×Int×Int×Int×Int×Int
def q273 (v:q272):St:=⟨[(3,.ptr 0 0),(4,.ptr 1 0),(6,.ptr 2 0),(30,.bool v.1)],[.cells [i6 v.2.1,i6 v.2.2.1,i6 v.2.2.2.1],.cells [i6 v.2.2.2.2.1,i6 v.2.2.2.2.2.1,i6 v.2.2.2.2.2.2.1],.cells [i6 v.2.2.2.2.2.2.2.1,i6 v.2.2.2.2.2.2.2.2]]⟩
def q274 (C:q26b) (v:q26w):Dt q272:=(Dt.ret ((decide (v.2.2.2.2.2.2.1≤v.2.2.2.1)),v.2.1,v.2.2.1,v.2.2.2.1,v.2.2.2.2.1,v.2.2.2.2.2.1,v.2.2.2.2.2.2.1,v.2.2.2.2.2.2.2.2.2.1,v.2.2.2.2.2.2.2.2.2.2))
theorem q275 C v:q359 (regO (qct f101) 6) false (an [3,4,6,30]) q26x q274 q273 C v:=rgI (by kernel_rfl)
def q276 (C:q26b) (v:q272):Dt q26s:=(Dt.ret (false,(0:Int),(0:Int),(0:Int)))
theorem q277 C v:q359 (regO (qct f101) 7) false (an [6,7,8]) q273 q276 q26t C v:=rgI (by kernel_rfl)
abbrev q278:Type:=Int×Int×Int×Int×Int
def q279 (v:q278):St:=⟨[(6,.ptr 0 0),(10,.ptr 1 0),(11,i6 v.1)],[.cells [i6 v.2.1,i6 v.2.2.1],.cells [i6 v.2.2.2.1,i6 v.2.2.2.2]]⟩
def q27a (C:q26b) (v:q272):Dt q278:=(Dt.bnd (C.1 ((v.2.1,v.2.2.1,v.2.2.2.1,()),(v.2.2.2.2.1,v.2.2.2.2.2.1,v.2.2.2.2.2.2.1,()),())) fun r1=>(Dt.ret (r1.2.2,v.2.2.2.2.2.2.2.1,v.2.2.2.2.2.2.2.2,r1.1,r1.2.1)))
theorem q27b C v:q359 (regO (qct f101) 8) false (an [6,10,11]) q273 q27a q279 C v:=rgI (by kernel_rfl)
def q27c (C:q26b) (v:q278):Dt q26s:=(Dt.ret ((v.1 == (0:Int)),v.1,v.2.2.2.1,v.2.2.2.2))
theorem q27d C v:q359 (regO (qct f101) 9) false (an [6,7,8]) q279 q27c q26t C v:=rgI (by kernel_rfl)
def q27e (d:Nat) (x:q267):Option q268 :=
 (q26i (q26c d) (x.1.1,x.1.2.1,x.1.2.2.1,x.2.1.1,x.2.1.2.1,x.2.1.2.2.1,x.2.2.1.1,x.2.2.1.2.1)).eval fun y0 =>
 (q26m (q26c d) y0).eval fun y1 =>
 (q26q (q26c d) y1).eval fun y2 =>
 bif y2.2.1 then ((q26u (q26c d) y2).eval fun y3 =>
 some (y3.2.2.1,y3.2.2.2,y3.1,y3.2.1)) else ((q26y (q26c d) y2).eval fun y4 =>
 bif y4.1 then ((q270 (q26c d) y4).eval fun y5 =>
 some (y5.2.2.1,y5.2.2.2,y5.1,y5.2.1)) else ((q274 (q26c d) y4).eval fun y6 =>
 bif y6.1 then ((q276 (q26c d) y6).eval fun y7 =>
 some (y7.2.2.1,y7.2.2.2,y7.1,y7.2.1)) else ((q27a (q26c d) y6).eval fun y8 =>
 (q27c (q26c d) y8).eval fun y9 =>
 some (y9.2.2.1,y9.2.2.2,y9.1,y9.2.1))))
theorem q27f (d:Nat):COK prog (q26a (q27e d)):=by
 have hm:prog.follows .mixedOrders=true:=mixed
 have hT:=tys
 have hC0:OrcOK prog (orc (q26d (q26c d))):=qcn (by
  intro S hS
  simp only [q26d,List.mem_cons,List.not_mem_nil,or_false] at hS
  rcases hS with rfl | rfl | rfl
  · exact qxv d
  · exact qoo d
  · exact qv4 d)
 have hC:OrcOK prog (orc (q26d (q26c d))):=hC0
 refine q8c (c:=qct f101) (fn:=f101) hT (by kernel_rfl) (by kernel_rfl) (by decide) fun x r h w0 φ0 Q hend=>?_
 replace h:q27e d x=some r:=h
 unfold q27e at h
 show Run prog w0 φ0 42 (qct f101) ⟨[(0,.agg [.int .i64 x.1.1,.int .i64 x.1.2.1,.int .i64 x.1.2.2.1]),(1,.agg [.int .i64 x.2.1.1,.int .i64 x.2.1.2.1,.int .i64 x.2.1.2.2.1]),(2,.agg [.int .i64 x.2.2.1.1,.int .i64 x.2.2.1.2.1])],[]⟩ Q
 refine q342 hm hT hC (q26j (q26c d) (x.1.1,x.1.2.1,x.1.2.2.1,x.2.1.1,x.2.1.2.1,x.2.1.2.2.1,x.2.2.1.1,x.2.2.1.2.1)) h fun y0 h=>?_
 refine q7w ?_
 refine q342 hm hT hC (q26n (q26c d) y0) h fun y1 h=>?_
 refine q342 hm hT hC (q26r (q26c d) y1) h fun y2 h=>?_
 refine q80 (v:=y2.2.1) (by kernel_rfl) h ?_ ?_
 ·
  intro h
  refine q342 hm hT hC (q26v (q26c d) y2) h fun y3 h=>?_
  refine q7v (q7k ?_)
  cases h
  exact (hend _ (by kernel_rfl)).2
 ·
  intro h
  refine q7s (q7i (q7w ?_))
  refine q342 hm hT hC (q26z (q26c d) y2) h fun y4 h=>?_
  refine q80 (v:=y4.1) (by kernel_rfl) h ?_ ?_
  ·
   intro h
   refine q342 hm hT hC (q271 (q26c d) y4) h fun y5 h=>?_
   refine q7v (q7k ?_)
   cases h
   exact (hend _ (by kernel_rfl)).2
  ·
   intro h
   refine q7s (q7i (q7w ?_))
   refine q342 hm hT hC (q275 (q26c d) y4) h fun y6 h=>?_
   refine q80 (v:=y6.1) (by kernel_rfl) h ?_ ?_
   ·
    intro h
    refine q342 hm hT hC (q277 (q26c d) y6) h fun y7 h=>?_
    refine q7v (q7k ?_)
    cases h
    exact (hend _ (by kernel_rfl)).2
   ·
    intro h
    refine q7s (q7i ?_)
    refine q342 hm hT hC (q27b (q26c d) y6) h fun y8 h=>?_
    refine q342 hm hT hC (q27d (q26c d) y8) h fun y9 h=>?_
    refine q7v ?_
    cases h
    exact (hend _ (by kernel_rfl)).2
abbrev q27g:List Pk:=[.row Rii true,.row Rii true]
abbrev q27h:Type:=Dii×Dii×Unit
abbrev q27i:Type:=Int
def q27j (r:q27i):LV×List Ob:=(.int .i64 r,[])
def q27k (F:q27h→Option q27i):Go.Tx.Spec:=⟨102,q27g,q27i,F,q27j⟩
abbrev q27l:Type:=(q14r→Option q14s)×Unit
def q27m (d:Nat):q27l:=(q161 d,())
def q27n (C:q27l):List Go.Tx.Spec:=[q14u C.1]
abbrev q27o:Type:=Int×Int×Int×Int
def q27p (v:q27o):St:=⟨[(0,.agg [i6 v.1,i6 v.2.1]),(1,.agg [i6 v.2.2.1,i6 v.2.2.2])],[]⟩
abbrev q27q:Type:=Int×Int×Int×Int
def q27r (v:q27q):St:=⟨[(2,.ptr 0 0),(3,.ptr 1 0)],[.cells [i6 v.1,i6 v.2.1],.cells [i6 v.2.2.1,i6 v.2.2.2]]⟩
def q27s (C:q27l) (v:q27o):Dt q27q:=(Dt.ret (v.1,v.2.1,v.2.2.1,v.2.2.2))
abbrev q35a {V Y:Type}:=@rg q27l V Y tysT (fun C=>(orc (q27n C))) 14
theorem q27t C v:q35a (regO (qct f102) 0) false (an [2,3]) q27p q27s q27r C v:=rgI (by kernel_rfl)
abbrev q27u:Type:=Int
def q27v (v:q27u):St:=⟨[(5,i6 v)],[]⟩
def q27w (C:q27l) (v:q27q):Dt q27u:=(Dt.bnd (C.1 ((v.1,v.2.1,()),(v.2.2.1,v.2.2.2,()),())) fun r1=>(Dt.ret r1.1))
theorem q27x C v:q35a (regO (qct f102) 1) false [(5,.any)] q27r q27w q27v C v:=rgI (by kernel_rfl)
abbrev q27y:Type:=Int
def q27z (v:q27y):St:=⟨[(4,i6 v)],[]⟩
def q280 (C:q27l) (v:q27u):Dt q27y:=(Dt.ret v)
theorem q281 C v:q35a (regO (qct f102) 2) false [(4,.any)] q27v q280 q27z C v:=rgI (by kernel_rfl)
def q282 (d:Nat) (x:q27h):Option q27i :=
 (q27s (q27m d) (x.1.1,x.1.2.1,x.2.1.1,x.2.1.2.1)).eval fun y0 =>
 (q27w (q27m d) y0).eval fun y1 =>
 (q280 (q27m d) y1).eval fun y2 =>
 some y2
theorem q283 (d:Nat):COK prog (q27k (q282 d)):=by
 have hm:prog.follows .mixedOrders=true:=mixed
 have hT:=tys
 have hC0:OrcOK prog (orc (q27n (q27m d))):=qcn (by
  intro S hS
  simp only [q27n,List.mem_cons,List.not_mem_nil,or_false] at hS
  subst hS;exact q162 d)
 have hC:OrcOK prog (orc (q27n (q27m d))):=hC0
 refine q8c (c:=qct f102) (fn:=f102) hT (by kernel_rfl) (by kernel_rfl) (by decide) fun x r h w0 φ0 Q hend=>?_
 replace h:q282 d x=some r:=h
 unfold q282 at h
 show Run prog w0 φ0 14 (qct f102) ⟨[(0,.agg [.int .i64 x.1.1,.int .i64 x.1.2.1]),(1,.agg [.int .i64 x.2.1.1,.int .i64 x.2.1.2.1])],[]⟩ Q
 refine q342 hm hT hC (q27t (q27m d) (x.1.1,x.1.2.1,x.2.1.1,x.2.1.2.1)) h fun y0 h=>?_
 refine q342 hm hT hC (q27x (q27m d) y0) h fun y1 h=>?_
 refine q342 hm hT hC (q281 (q27m d) y1) h fun y2 h=>?_
 refine q7v ?_
 cases h
 exact (hend _ (by kernel_rfl)).2
abbrev q284:List Pk:=[.row qj5 true,.row Rii true]
abbrev q285:Type:=qj6×Dii×Unit
abbrev q286:Type:=List Diii×Int
def q287 (r:q286):LV×List Ob:=(.tup [.rs 0,.int .i64 r.2],[.rows Riii r.1])
def q288 (F:q285→Option q286):Go.Tx.Spec:=⟨51,q284,q286,F,q287⟩
abbrev q289:Type:=(qw6→Option qw7)×(qvf→Option qvg)×(q267→Option q268)×(q27h→Option q27i)×(qoq→Option qor)×Unit
def q28a (d:Nat):q289:=(qwb d,qvk d,q27e d,q282 d,qov d,())
def q28b (C:q289):List Go.Tx.Spec:=[qw9 C.1,qvi C.2.1,q26a C.2.2.1,q27k C.2.2.2.1,qot C.2.2.2.2.1]
abbrev q28c:Type:=List Diii×Int×Int
def q28d (v:q28c):St:=⟨[(0,.agg [.fz Riii v.1]),(1,.agg [i6 v.2.1,i6 v.2.2])],[]⟩
abbrev q28e:Type:=List Diii×Int×Int
def q28f (v:q28e):St:=⟨[(2,.ptr 0 0),(3,.ptr 1 0)],[.cells [.fz Riii v.1],.cells [i6 v.2.1,i6 v.2.2]]⟩
def q28g (C:q289) (v:q28c):Dt q28e:=(Dt.ret (v.1,v.2.1,v.2.2))
abbrev q35b {V Y:Type}:=@rg q289 V Y tysT (fun C=>(orc (q28b C))) 101
theorem q28h C v:q35b (regO (qct f51) 0) false [(2,(.box [.val Riii])),(3,.any)] q28d q28g q28f C v:=rgI (by kernel_rfl)
abbrev q28i:Type:=Int×List Diii×Int×Int×List Di
def q28j (v:q28i):St:=⟨[(2,.ptr 0 0),(3,.ptr 1 0),(6,.rs 2),(7,i6 v.1)],[.cells [.fz Riii v.2.1],.cells [i6 v.2.2.1,i6 v.2.2.2.1],.rows Ri v.2.2.2.2]⟩
def q28k (C:q289) (v:q28e):Dt q28i:=(Dt.bnd (C.1 ((v.1,()),(v.2.1,v.2.2,()),())) fun r1=>(Dt.ret (r1.2,v.1,v.2.1,v.2.2,r1.1)))
theorem q28l C v:q35b (regO (qct f51) 1) false [(2,(.box [.val Riii])),(3,.any),(6,(.own Ri)),(7,.any)] q28f q28k q28j C v:=rgI (by kernel_rfl)
abbrev q28m:Type:=Int×Bool×List Diii×Int×Int×List Di
def q28n (v:q28m):St:=⟨[(2,.ptr 0 0),(3,.ptr 1 0),(6,.rs 2),(7,i6 v.1),(28,.bool v.2.1)],[.cells [.fz Riii v.2.2.1],.cells [i6 v.2.2.2.1,i6 v.2.2.2.2.1],.rows Ri v.2.2.2.2.2]⟩
def q28o (C:q289) (v:q28i):Dt q28m:=(Dt.ret (v.1,(v.1 != (0:Int)),v.2.1,v.2.2.1,v.2.2.2.1,v.2.2.2.2))
theorem q28p C v:q35b (regO (qct f51) 2) false [(2,(.box [.val Riii])),(3,.any),(6,(.own Ri)),(7,.any),(28,.any)] q28j q28o q28n C v:=rgI (by kernel_rfl)
abbrev q28q:Type:=Int×List Diii
def q28r (v:q28q):St:=⟨[(4,.rs 0),(5,i6 v.1)],[.rows Riii v.2]⟩
def q28s (C:q289) (v:q28m):Dt q28q:=(Dt.ret (v.1,([]:List Diii)))
theorem q28t C v:q35b (regO (qct f51) 3) false [(4,(.own Riii)),(5,.any)] q28n q28s q28r C v:=rgI (by kernel_rfl)
abbrev q28u:Type:=Bool×List Diii×Int×Int×List Di
def q28v (v:q28u):St:=⟨[(2,.ptr 0 0),(3,.ptr 1 0),(6,.rs 2),(32,.bool v.1)],[.cells [.fz Riii v.2.1],.cells [i6 v.2.2.1,i6 v.2.2.2.1],.rows Ri v.2.2.2.2]⟩
def q28w (C:q289) (v:q28m):Dt q28u:=(Dt.ret (((List.length v.2.2.2.2.2:Int) == (0:Int)),v.2.2.1,v.2.2.2.1,v.2.2.2.2.1,v.2.2.2.2.2))
theorem q28x C v:q35b (regO (qct f51) 4) false [(2,(.box [.val Riii])),(3,.any),(6,(.own Ri)),(32,.any)] q28n q28w q28v C v:=rgI (by kernel_rfl)
def q28y (C:q289) (v:q28u):Dt q28q:=(Dt.ret ((42:Int),([]:List Diii)))
theorem q28z C v:q35b (regO (qct f51) 5) false [(4,(.own Riii)),(5,.any)] q28v q28y q28r C v:=rgI (by kernel_rfl)
abbrev q290:Type:=List Diii×Int×Int×Int×Int×Int
def q291 (v:q290):St:=⟨[(2,.ptr 0 0),(3,.ptr 1 0),(8,.ptr 2 0)],[.cells [.fz Riii v.1],.cells [i6 v.2.1,i6 v.2.2.1],.cells [i6 v.2.2.2.1,i6 v.2.2.2.2.1,i6 v.2.2.2.2.2]]⟩
def q292 (C:q289) (v:q28u):Dt q290:=(Dt.ite (inB (0:Int) (List.length v.2.2.2.2)) (Dt.bnd (C.2.1 ((v.2.1,()),((elt zi v.2.2.2.2 ((0:Int)).toNat).1,()),())) fun r1=>(Dt.ret (v.2.1,v.2.2.1,v.2.2.2.1,r1.1,r1.2.1,r1.2.2.1))) Dt.fail)
theorem q293 C v:q35b (regO (qct f51) 6) true [(2,(.box [.val Riii])),(3,.any),(8,.any)] q28v q292 q291 C v:=rgI (by kernel_rfl)
abbrev q294:Type:=List Diii×Int×Int×Int×Int×Int×List Diii
def q295 (v:q294):St:=⟨[(2,.ptr 0 0),(3,.ptr 1 0),(8,.ptr 2 0),(10,.rs 3)],[.cells [.fz Riii v.1],.cells [i6 v.2.1,i6 v.2.2.1],.cells [i6 v.2.2.2.1,i6 v.2.2.2.2.1,i6 v.2.2.2.2.2.1],.rows Riii v.2.2.2.2.2.2]⟩
def q296 (C:q289) (v:q290):Dt q294:=(Dt.ret (v.1,v.2.1,v.2.2.1,v.2.2.2.1,v.2.2.2.2.1,v.2.2.2.2.2,([(v.2.1,v.2.2.1,v.2.2.2.1,())]:List Diii)))
theorem q297 C v:q35b (regO (qct f51) 7) false [(2,(.box [.val Riii])),(3,.any),(8,.any),(10,(.own Riii))] q291 q296 q295 C v:=rgI (by kernel_rfl)
abbrev q298:Type:=List Diii×Int×Int×Int×Int×Int×List Diii×Int×Int×Int
def q299 (v:q298):St:=⟨[(2,.ptr 0 0),(3,.ptr 1 0),(8,.ptr 2 0),(10,.rs 3),(11,.ptr 4 0)],[.cells [.fz Riii v.1],.cells [i6 v.2.1,i6 v.2.2.1],.cells [i6 v.2.2.2.1,i6 v.2.2.2.2.1,i6 v.2.2.2.2.2.1],.rows Riii v.2.2.2.2.2.2.1,.cells [i6 v.2.2.2.2.2.2.2.1,i6 v.2.2.2.2.2.2.2.2.1,i6 v.2.2.2.2.2.2.2.2.2]]⟩
def q29a (C:q289) (v:q294):Dt q298:=(Dt.ret (v.1,v.2.1,v.2.2.1,v.2.2.2.1,v.2.2.2.2.1,v.2.2.2.2.2.1,v.2.2.2.2.2.2,(0:Int),(0:Int),(0:Int)))
theorem q29b C v:q35b (regO (qct f51) 8) false [(2,(.box [.val Riii])),(3,.any),(8,.any),(10,(.own Riii)),(11,.any)] q295 q29a q299 C v:=rgI (by kernel_rfl)
abbrev q29c:Type:=List Diii×Int×Int×Int×Int×Int×List Diii×Int×Int×Int×Int×Int
def q29d (v:q29c):St:=⟨[(2,.ptr 0 0),(3,.ptr 1 0),(8,.ptr 2 0),(10,.rs 3),(11,.ptr 4 0),(12,.ptr 5 0)],[.cells [.fz Riii v.1],.cells [i6 v.2.1,i6 v.2.2.1],.cells [i6 v.2.2.2.1,i6 v.2.2.2.2.1,i6 v.2.2.2.2.2.1],.rows Riii v.2.2.2.2.2.2.1,.cells [i6 v.2.2.2.2.2.2.2.1,i6 v.2.2.2.2.2.2.2.2.1,i6 v.2.2.2.2.2.2.2.2.2.1],.cells [i6 v.2.2.2.2.2.2.2.2.2.2.1,i6 v.2.2.2.2.2.2.2.2.2.2.2]]⟩
def q29e (C:q289) (v:q298):Dt q29c:=(Dt.ret (v.1,v.2.1,v.2.2.1,v.2.2.2.1,v.2.2.2.2.1,v.2.2.2.2.2.1,v.2.2.2.2.2.2.1,v.2.2.2.2.2.2.2.1,v.2.2.2.2.2.2.2.2.1,v.2.2.2.2.2.2.2.2.2,(0:Int),(0:Int)))
theorem q29f C v:q35b (regO (qct f51) 9) false [(2,(.box [.val Riii])),(3,.any),(8,.any),(10,(.own Riii)),(11,.any),(12,.any)] q299 q29e q29d C v:=rgI (by kernel_rfl)
abbrev q29g:Type:=List Diii×Int×Int×List Diii×Int×Int×Int×Int×Int×List Diii×Int×Int×Int×Int×Int
def q29h (v:q29g):St:=⟨[(2,.ptr 0 0),(3,.ptr 1 0),(8,.ptr 2 0),(10,.rs 3),(11,.ptr 4 0),(12,.ptr 5 0),(47,.fz Riii v.1),(48,i6 v.2.1),(49,i6 v.2.2.1)],[.cells [.fz Riii v.2.2.2.1],.cells [i6 v.2.2.2.2.1,i6 v.2.2.2.2.2.1],.cells [i6 v.2.2.2.2.2.2.1,i6 v.2.2.2.2.2.2.2.1,i6 v.2.2.2.2.2.2.2.2.1],.rows Riii v.2.2.2.2.2.2.2.2.2.1,.cells [i6 v.2.2.2.2.2.2.2.2.2.2.1,i6 v.2.2.2.2.2.2.2.2.2.2.2.1,i6 v.2.2.2.2.2.2.2.2.2.2.2.2.1],.cells [i6 v.2.2.2.2.2.2.2.2.2.2.2.2.2.1,i6 v.2.2.2.2.2.2.2.2.2.2.2.2.2.2]]⟩
def q29i (C:q289) (v:q29c):Dt q29g:=(Dt.ret (v.1,(List.length v.1:Int),(0:Int),v.1,v.2.1,v.2.2.1,v.2.2.2.1,v.2.2.2.2.1,v.2.2.2.2.2.1,v.2.2.2.2.2.2.1,v.2.2.2.2.2.2.2.1,v.2.2.2.2.2.2.2.2.1,v.2.2.2.2.2.2.2.2.2.1,v.2.2.2.2.2.2.2.2.2.2.1,v.2.2.2.2.2.2.2.2.2.2.2))
theorem q29j C v:q35b (regO (qct f51) 10) false [(2,(.box [.val Riii])),(3,.any),(8,.any),(10,(.own Riii)),(11,.any),(12,.any),(47,(.val Riii)),(48,.any),(49,.any)] q29d q29i q29h C v:=rgI (by kernel_rfl)
abbrev q29k:Type:=List Diii×Int×Int×Bool×List Diii×Int×Int×Int×Int×Int×List Diii×Int×Int×Int×Int×Int
def q29l (v:q29k):St:=⟨[(2,.ptr 0 0),(3,.ptr 1 0),(8,.ptr 2 0),(10,.rs 3),(11,.ptr 4 0),(12,.ptr 5 0),(47,.fz Riii v.1),(48,i6 v.2.1),(49,i6 v.2.2.1),(50,.bool v.2.2.2.1)],[.cells [.fz Riii v.2.2.2.2.1],.cells [i6 v.2.2.2.2.2.1,i6 v.2.2.2.2.2.2.1],.cells [i6 v.2.2.2.2.2.2.2.1,i6 v.2.2.2.2.2.2.2.2.1,i6 v.2.2.2.2.2.2.2.2.2.1],.rows Riii v.2.2.2.2.2.2.2.2.2.2.1,.cells [i6 v.2.2.2.2.2.2.2.2.2.2.2.1,i6 v.2.2.2.2.2.2.2.2.2.2.2.2.1,i6 v.2.2.2.2.2.2.2.2.2.2.2.2.2.1],.cells [i6 v.2.2.2.2.2.2.2.2.2.2.2.2.2.2.1,i6 v.2.2.2.2.2.2.2.2.2.2.2.2.2.2.2]]⟩
def q29m (C:q289) (v:q29g):Dt q29k:=(Dt.ret (v.1,v.2.1,v.2.2.1,(decide (v.2.2.1<v.2.1)),v.2.2.2.1,v.2.2.2.2.1,v.2.2.2.2.2.1,v.2.2.2.2.2.2.1,v.2.2.2.2.2.2.2.1,v.2.2.2.2.2.2.2.2.1,v.2.2.2.2.2.2.2.2.2.1,v.2.2.2.2.2.2.2.2.2.2.1,v.2.2.2.2.2.2.2.2.2.2.2.1,v.2.2.2.2.2.2.2.2.2.2.2.2.1,v.2.2.2.2.2.2.2.2.2.2.2.2.2.1,v.2.2.2.2.2.2.2.2.2.2.2.2.2.2))
theorem q29n C v:q35b (regO (qct f51) 11) false [(2,(.box [.val Riii])),(3,.any),(8,.any),(10,(.own Riii)),(11,.any),(12,.any),(47,(.val Riii)),(48,.any),(49,.any),(50,.any)] q29h q29m q29l C v:=rgI (by kernel_rfl)
abbrev q29o:Type:=List Diii×Int×Int×List Diii×Int×Int×Int×Int×Int×List Diii×Int×Int×Int×Int×Int×Int×Int×Int
def q29p (v:q29o):St:=⟨[(2,.ptr 0 0),(3,.ptr 1 0),(8,.ptr 2 0),(10,.rs 3),(11,.ptr 4 0),(12,.ptr 5 0),(14,.ptr 6 0),(47,.fz Riii v.1),(48,i6 v.2.1),(49,i6 v.2.2.1)],[.cells [.fz Riii v.2.2.2.1],.cells [i6 v.2.2.2.2.1,i6 v.2.2.2.2.2.1],.cells [i6 v.2.2.2.2.2.2.1,i6 v.2.2.2.2.2.2.2.1,i6 v.2.2.2.2.2.2.2.2.1],.rows Riii v.2.2.2.2.2.2.2.2.2.1,.cells [i6 v.2.2.2.2.2.2.2.2.2.2.1,i6 v.2.2.2.2.2.2.2.2.2.2.2.1,i6 v.2.2.2.2.2.2.2.2.2.2.2.2.1],.cells [i6 v.2.2.2.2.2.2.2.2.2.2.2.2.2.1,i6 v.2.2.2.2.2.2.2.2.2.2.2.2.2.2.1],.cells [i6 v.2.2.2.2.2.2.2.2.2.2.2.2.2.2.2.1,i6 v.2.2.2.2.2.2.2.2.2.2.2.2.2.2.2.2.1,i6 v.2.2.2.2.2.2.2.2.2.2.2.2.2.2.2.2.2]]⟩
def q29q (C:q289) (v:q29k):Dt q29o:=(Dt.ite (inB v.2.2.1 (List.length v.1)) (Dt.ret (v.1,v.2.1,v.2.2.1,v.2.2.2.2.1,v.2.2.2.2.2.1,v.2.2.2.2.2.2.1,v.2.2.2.2.2.2.2.1,v.2.2.2.2.2.2.2.2.1,v.2.2.2.2.2.2.2.2.2.1,v.2.2.2.2.2.2.2.2.2.2.1,v.2.2.2.2.2.2.2.2.2.2.2.1,v.2.2.2.2.2.2.2.2.2.2.2.2.1,v.2.2.2.2.2.2.2.2.2.2.2.2.2.1,v.2.2.2.2.2.2.2.2.2.2.2.2.2.2.1,v.2.2.2.2.2.2.2.2.2.2.2.2.2.2.2,(elt ziii v.1 (v.2.2.1).toNat).1,(elt ziii v.1 (v.2.2.1).toNat).2.1,(elt ziii v.1 (v.2.2.1).toNat).2.2.1)) Dt.fail)
theorem q29r C v:q35b (regO (qct f51) 12) false [(2,(.box [.val Riii])),(3,.any),(8,.any),(10,(.own Riii)),(11,.any),(12,.any),(14,.any),(47,(.val Riii)),(48,.any),(49,.any)] q29l q29q q29p C v:=rgI (by kernel_rfl)
abbrev q29s:Type:=Bool×Int×List Diii×Int×Int×List Diii×Int×Int×Int×Int×Int×List Diii×Int×Int×Int×Int×Int×Int×Int×Int×Int×Int
def q29t (v:q29s):St:=⟨[(2,.ptr 0 0),(3,.ptr 1 0),(8,.ptr 2 0),(10,.rs 3),(11,.ptr 4 0),(12,.ptr 5 0),(14,.ptr 6 0),(15,.ptr 7 0),(16,.bool v.1),(17,i6 v.2.1),(47,.fz Riii v.2.2.1),(48,i6 v.2.2.2.1),(49,i6 v.2.2.2.2.1)],[.cells [.fz Riii v.2.2.2.2.2.1],.cells [i6 v.2.2.2.2.2.2.1,i6 v.2.2.2.2.2.2.2.1],.cells [i6 v.2.2.2.2.2.2.2.2.1,i6 v.2.2.2.2.2.2.2.2.2.1,i6 v.2.2.2.2.2.2.2.2.2.2.1],.rows Riii v.2.2.2.2.2.2.2.2.2.2.2.1,.cells [i6 v.2.2.2.2.2.2.2.2.2.2.2.2.1,i6 v.2.2.2.2.2.2.2.2.2.2.2.2.2.1,i6 v.2.2.2.2.2.2.2.2.2.2.2.2.2.2.1],.cells [i6 v.2.2.2.2.2.2.2.2.2.2.2.2.2.2.2.1,i6 v.2.2.2.2.2.2.2.2.2.2.2.2.2.2.2.2.1],.cells [i6 v.2.2.2.2.2.2.2.2.2.2.2.2.2.2.2.2.2.1,i6 v.2.2.2.2.2.2.2.2.2.2.2.2.2.2.2.2.2.2.1,i6 v.2.2.2.2.2.2.2.2.2.2.2.2.2.2.2.2.2.2.2.1],.cells [i6 v.2.2.2.2.2.2.2.2.2.2.2.2.2.2.2.2.2.2.2.2.1,i6 v.2.2.2.2.2.2.2.2.2.2.2.2.2.2.2.2.2.2.2.2.2]]⟩
def q29u (C:q289) (v:q29o):Dt q29s:=(Dt.bnd (C.2.2.1 ((v.2.2.2.2.2.2.1,v.2.2.2.2.2.2.2.1,v.2.2.2.2.2.2.2.2.1,()),(v.2.2.2.2.2.2.2.2.2.2.2.2.2.2.2.1,v.2.2.2.2.2.2.2.2.2.2.2.2.2.2.2.2.1,v.2.2.2.2.2.2.2.2.2.2.2.2.2.2.2.2.2,()),(v.2.2.2.2.1,v.2.2.2.2.2.1,()),())) fun r1=>(Dt.ret (r1.2.2.1,r1.2.2.2,v.1,v.2.1,v.2.2.1,v.2.2.2.1,v.2.2.2.2.1,v.2.2.2.2.2.1,v.2.2.2.2.2.2.1,v.2.2.2.2.2.2.2.1,v.2.2.2.2.2.2.2.2.1,v.2.2.2.2.2.2.2.2.2.1,v.2.2.2.2.2.2.2.2.2.2.1,v.2.2.2.2.2.2.2.2.2.2.2.1,v.2.2.2.2.2.2.2.2.2.2.2.2.1,v.2.2.2.2.2.2.2.2.2.2.2.2.2.1,v.2.2.2.2.2.2.2.2.2.2.2.2.2.2.1,v.2.2.2.2.2.2.2.2.2.2.2.2.2.2.2.1,v.2.2.2.2.2.2.2.2.2.2.2.2.2.2.2.2.1,v.2.2.2.2.2.2.2.2.2.2.2.2.2.2.2.2.2,r1.1,r1.2.1)))
theorem q29v C v:q35b (regO (qct f51) 13) false [(2,(.box [.val Riii])),(3,.any),(8,.any),(10,(.own Riii)),(11,.any),(12,.any),(14,.any),(15,.any),(16,.any),(17,.any),(47,(.val Riii)),(48,.any),(49,.any)] q29p q29u q29t C v:=rgI (by kernel_rfl)
abbrev q29w:Type:=List Diii×Int×Int×Bool×List Diii×Int×Int×Int×Int×Int×List Diii×Int×Int×Int×Int×Int×Int×Int×Int×Int×Int
def q29x (v:q29w):St:=⟨[(2,.ptr 0 0),(3,.ptr 1 0),(8,.ptr 2 0),(10,.rs 3),(11,.ptr 4 0),(12,.ptr 5 0),(14,.ptr 6 0),(15,.ptr 7 0),(47,.fz Riii v.1),(48,i6 v.2.1),(49,i6 v.2.2.1),(66,.bool v.2.2.2.1)],[.cells [.fz Riii v.2.2.2.2.1],.cells [i6 v.2.2.2.2.2.1,i6 v.2.2.2.2.2.2.1],.cells [i6 v.2.2.2.2.2.2.2.1,i6 v.2.2.2.2.2.2.2.2.1,i6 v.2.2.2.2.2.2.2.2.2.1],.rows Riii v.2.2.2.2.2.2.2.2.2.2.1,.cells [i6 v.2.2.2.2.2.2.2.2.2.2.2.1,i6 v.2.2.2.2.2.2.2.2.2.2.2.2.1,i6 v.2.2.2.2.2.2.2.2.2.2.2.2.2.1],.cells [i6 v.2.2.2.2.2.2.2.2.2.2.2.2.2.2.1,i6 v.2.2.2.2.2.2.2.2.2.2.2.2.2.2.2.1],.cells [i6 v.2.2.2.2.2.2.2.2.2.2.2.2.2.2.2.2.1,i6 v.2.2.2.2.2.2.2.2.2.2.2.2.2.2.2.2.2.1,i6 v.2.2.2.2.2.2.2.2.2.2.2.2.2.2.2.2.2.2.1],.cells [i6 v.2.2.2.2.2.2.2.2.2.2.2.2.2.2.2.2.2.2.2.1,i6 v.2.2.2.2.2.2.2.2.2.2.2.2.2.2.2.2.2.2.2.2]]⟩
def q29y (C:q289) (v:q29s):Dt q29w:=(Dt.ite (v.2.1 != (0:Int)) (Dt.ret (v.2.2.1,v.2.2.2.1,v.2.2.2.2.1,true,v.2.2.2.2.2.1,v.2.2.2.2.2.2.1,v.2.2.2.2.2.2.2.1,v.2.2.2.2.2.2.2.2.1,v.2.2.2.2.2.2.2.2.2.1,v.2.2.2.2.2.2.2.2.2.2.1,v.2.2.2.2.2.2.2.2.2.2.2.1,v.2.2.2.2.2.2.2.2.2.2.2.2.1,v.2.2.2.2.2.2.2.2.2.2.2.2.2.1,v.2.2.2.2.2.2.2.2.2.2.2.2.2.2.1,v.2.2.2.2.2.2.2.2.2.2.2.2.2.2.2.1,v.2.2.2.2.2.2.2.2.2.2.2.2.2.2.2.2.1,v.2.2.2.2.2.2.2.2.2.2.2.2.2.2.2.2.2.1,v.2.2.2.2.2.2.2.2.2.2.2.2.2.2.2.2.2.2.1,v.2.2.2.2.2.2.2.2.2.2.2.2.2.2.2.2.2.2.2.1,v.2.2.2.2.2.2.2.2.2.2.2.2.2.2.2.2.2.2.2.2.1,v.2.2.2.2.2.2.2.2.2.2.2.2.2.2.2.2.2.2.2.2.2)) (Dt.ret (v.2.2.1,v.2.2.2.1,v.2.2.2.2.1,(!v.1),v.2.2.2.2.2.1,v.2.2.2.2.2.2.1,v.2.2.2.2.2.2.2.1,v.2.2.2.2.2.2.2.2.1,v.2.2.2.2.2.2.2.2.2.1,v.2.2.2.2.2.2.2.2.2.2.1,v.2.2.2.2.2.2.2.2.2.2.2.1,v.2.2.2.2.2.2.2.2.2.2.2.2.1,v.2.2.2.2.2.2.2.2.2.2.2.2.2.1,v.2.2.2.2.2.2.2.2.2.2.2.2.2.2.1,v.2.2.2.2.2.2.2.2.2.2.2.2.2.2.2.1,v.2.2.2.2.2.2.2.2.2.2.2.2.2.2.2.2.1,v.2.2.2.2.2.2.2.2.2.2.2.2.2.2.2.2.2.1,v.2.2.2.2.2.2.2.2.2.2.2.2.2.2.2.2.2.2.1,v.2.2.2.2.2.2.2.2.2.2.2.2.2.2.2.2.2.2.2.1,v.2.2.2.2.2.2.2.2.2.2.2.2.2.2.2.2.2.2.2.2.1,v.2.2.2.2.2.2.2.2.2.2.2.2.2.2.2.2.2.2.2.2.2)))
theorem q29z C v:q35b (regO (qct f51) 14) false [(2,(.box [.val Riii])),(3,.any),(8,.any),(10,(.own Riii)),(11,.any),(12,.any),(14,.any),(15,.any),(47,(.val Riii)),(48,.any),(49,.any),(66,.any)] q29t q29y q29x C v:=rgI (by kernel_rfl)
def q2a0 (C:q289) (v:q29g):Dt q29g:=(Dt.ret (v.1,v.2.1,(IntKind.wrap .i64 (v.2.2.1+(1:Int))),v.2.2.2.1,v.2.2.2.2.1,v.2.2.2.2.2.1,v.2.2.2.2.2.2.1,v.2.2.2.2.2.2.2.1,v.2.2.2.2.2.2.2.2.1,v.2.2.2.2.2.2.2.2.2.1,v.2.2.2.2.2.2.2.2.2.2.1,v.2.2.2.2.2.2.2.2.2.2.2.1,v.2.2.2.2.2.2.2.2.2.2.2.2.1,v.2.2.2.2.2.2.2.2.2.2.2.2.2.1,v.2.2.2.2.2.2.2.2.2.2.2.2.2.2))
theorem q2a1 C v:q35b (regO (qct f51) 24) false [(2,(.box [.val Riii])),(3,.any),(8,.any),(10,(.own Riii)),(11,.any),(12,.any),(47,(.val Riii)),(48,.any),(49,.any)] q29h q2a0 q29h C v:=rgI (by kernel_rfl)
def q2a2  (d:Nat) (self1:(List Diii×Int×Int×Int×Int×Int×List Diii)→Option q286) (self2:(List Diii×Int×Int×List Diii×Int×Int×Int×Int×Int×List Diii×Int×Int×Int×Int×Int)→Option q286) (z:List Diii×Int×Int×List Diii×Int×Int×Int×Int×Int×List Diii×Int×Int×Int×Int×Int):Option (q286) :=
 (q2a0 (q28a d) z).eval fun y24 =>
 self2 y24
abbrev q2a3:Type:=Int×List Diii×Int×Int×List Diii×Int×Int×Int×Int×Int×List Diii×Int×Int×Int×Int×Int×Int×Int×Int×Int×Int
def q2a4 (v:q2a3):St:=⟨[(2,.ptr 0 0),(3,.ptr 1 0),(8,.ptr 2 0),(10,.rs 3),(11,.ptr 4 0),(12,.ptr 5 0),(14,.ptr 6 0),(15,.ptr 7 0),(18,i6 v.1),(47,.fz Riii v.2.1),(48,i6 v.2.2.1),(49,i6 v.2.2.2.1)],[.cells [.fz Riii v.2.2.2.2.1],.cells [i6 v.2.2.2.2.2.1,i6 v.2.2.2.2.2.2.1],.cells [i6 v.2.2.2.2.2.2.2.1,i6 v.2.2.2.2.2.2.2.2.1,i6 v.2.2.2.2.2.2.2.2.2.1],.rows Riii v.2.2.2.2.2.2.2.2.2.2.1,.cells [i6 v.2.2.2.2.2.2.2.2.2.2.2.1,i6 v.2.2.2.2.2.2.2.2.2.2.2.2.1,i6 v.2.2.2.2.2.2.2.2.2.2.2.2.2.1],.cells [i6 v.2.2.2.2.2.2.2.2.2.2.2.2.2.2.1,i6 v.2.2.2.2.2.2.2.2.2.2.2.2.2.2.2.1],.cells [i6 v.2.2.2.2.2.2.2.2.2.2.2.2.2.2.2.2.1,i6 v.2.2.2.2.2.2.2.2.2.2.2.2.2.2.2.2.2.1,i6 v.2.2.2.2.2.2.2.2.2.2.2.2.2.2.2.2.2.2.1],.cells [i6 v.2.2.2.2.2.2.2.2.2.2.2.2.2.2.2.2.2.2.2.1,i6 v.2.2.2.2.2.2.2.2.2.2.2.2.2.2.2.2.2.2.2.2]]⟩
def q2a5 (C:q289) (v:q29w):Dt q2a3:=(Dt.ret ((-1:Int),v.1,v.2.1,v.2.2.1,v.2.2.2.2.1,v.2.2.2.2.2.1,v.2.2.2.2.2.2.1,v.2.2.2.2.2.2.2.1,v.2.2.2.2.2.2.2.2.1,v.2.2.2.2.2.2.2.2.2.1,v.2.2.2.2.2.2.2.2.2.2.1,v.2.2.2.2.2.2.2.2.2.2.2.1,v.2.2.2.2.2.2.2.2.2.2.2.2.1,v.2.2.2.2.2.2.2.2.2.2.2.2.2.1,v.2.2.2.2.2.2.2.2.2.2.2.2.2.2.1,v.2.2.2.2.2.2.2.2.2.2.2.2.2.2.2.1,v.2.2.2.2.2.2.2.2.2.2.2.2.2.2.2.2.1,v.2.2.2.2.2.2.2.2.2.2.2.2.2.2.2.2.2.1,v.2.2.2.2.2.2.2.2.2.2.2.2.2.2.2.2.2.2.1,v.2.2.2.2.2.2.2.2.2.2.2.2.2.2.2.2.2.2.2.1,v.2.2.2.2.2.2.2.2.2.2.2.2.2.2.2.2.2.2.2.2))
theorem q2a6 C v:q35b (regO (qct f51) 15) false [(2,(.box [.val Riii])),(3,.any),(8,.any),(10,(.own Riii)),(11,.any),(12,.any),(14,.any),(15,.any),(18,.any),(47,(.val Riii)),(48,.any),(49,.any)] q29x q2a5 q2a4 C v:=rgI (by kernel_rfl)
abbrev q2a7:Type:=Int×List Diii×Int×Int×Bool×List Diii×Int×Int×Int×Int×Int×List Diii×Int×Int×Int×Int×Int×Int×Int×Int×Int×Int
def q2a8 (v:q2a7):St:=⟨[(2,.ptr 0 0),(3,.ptr 1 0),(8,.ptr 2 0),(10,.rs 3),(11,.ptr 4 0),(12,.ptr 5 0),(14,.ptr 6 0),(15,.ptr 7 0),(18,i6 v.1),(47,.fz Riii v.2.1),(48,i6 v.2.2.1),(49,i6 v.2.2.2.1),(69,.bool v.2.2.2.2.1)],[.cells [.fz Riii v.2.2.2.2.2.1],.cells [i6 v.2.2.2.2.2.2.1,i6 v.2.2.2.2.2.2.2.1],.cells [i6 v.2.2.2.2.2.2.2.2.1,i6 v.2.2.2.2.2.2.2.2.2.1,i6 v.2.2.2.2.2.2.2.2.2.2.1],.rows Riii v.2.2.2.2.2.2.2.2.2.2.2.1,.cells [i6 v.2.2.2.2.2.2.2.2.2.2.2.2.1,i6 v.2.2.2.2.2.2.2.2.2.2.2.2.2.1,i6 v.2.2.2.2.2.2.2.2.2.2.2.2.2.2.1],.cells [i6 v.2.2.2.2.2.2.2.2.2.2.2.2.2.2.2.1,i6 v.2.2.2.2.2.2.2.2.2.2.2.2.2.2.2.2.1],.cells [i6 v.2.2.2.2.2.2.2.2.2.2.2.2.2.2.2.2.2.1,i6 v.2.2.2.2.2.2.2.2.2.2.2.2.2.2.2.2.2.2.1,i6 v.2.2.2.2.2.2.2.2.2.2.2.2.2.2.2.2.2.2.2.1],.cells [i6 v.2.2.2.2.2.2.2.2.2.2.2.2.2.2.2.2.2.2.2.2.1,i6 v.2.2.2.2.2.2.2.2.2.2.2.2.2.2.2.2.2.2.2.2.2]]⟩
def q2a9 (C:q289) (v:q2a3):Dt q2a7:=(Dt.ret (v.1,v.2.1,v.2.2.1,v.2.2.2.1,(decide (v.2.2.2.2.2.2.2.2.2.2.2.2.2.2.2.1 > (0:Int))),v.2.2.2.2.1,v.2.2.2.2.2.1,v.2.2.2.2.2.2.1,v.2.2.2.2.2.2.2.1,v.2.2.2.2.2.2.2.2.1,v.2.2.2.2.2.2.2.2.2.1,v.2.2.2.2.2.2.2.2.2.2.1,v.2.2.2.2.2.2.2.2.2.2.2.1,v.2.2.2.2.2.2.2.2.2.2.2.2.1,v.2.2.2.2.2.2.2.2.2.2.2.2.2.1,v.2.2.2.2.2.2.2.2.2.2.2.2.2.2.1,v.2.2.2.2.2.2.2.2.2.2.2.2.2.2.2.1,v.2.2.2.2.2.2.2.2.2.2.2.2.2.2.2.2.1,v.2.2.2.2.2.2.2.2.2.2.2.2.2.2.2.2.2.1,v.2.2.2.2.2.2.2.2.2.2.2.2.2.2.2.2.2.2.1,v.2.2.2.2.2.2.2.2.2.2.2.2.2.2.2.2.2.2.2.1,v.2.2.2.2.2.2.2.2.2.2.2.2.2.2.2.2.2.2.2.2))
theorem q2aa C v:q35b (regO (qct f51) 16) false [(2,(.box [.val Riii])),(3,.any),(8,.any),(10,(.own Riii)),(11,.any),(12,.any),(14,.any),(15,.any),(18,.any),(47,(.val Riii)),(48,.any),(49,.any),(69,.any)] q2a4 q2a9 q2a8 C v:=rgI (by kernel_rfl)
def q2ab (C:q289) (v:q2a7):Dt q2a3:=(Dt.bnd (C.2.2.2.1 ((v.2.2.2.2.2.2.2.2.2.2.2.2.2.2.2.2.2.2.2.2.1,v.2.2.2.2.2.2.2.2.2.2.2.2.2.2.2.2.2.2.2.2.2,()),(v.2.2.2.2.2.2.2.2.2.2.2.2.2.2.2.1,v.2.2.2.2.2.2.2.2.2.2.2.2.2.2.2.2.1,()),())) fun r1=>(Dt.ret (r1,v.2.1,v.2.2.1,v.2.2.2.1,v.2.2.2.2.2.1,v.2.2.2.2.2.2.1,v.2.2.2.2.2.2.2.1,v.2.2.2.2.2.2.2.2.1,v.2.2.2.2.2.2.2.2.2.1,v.2.2.2.2.2.2.2.2.2.2.1,v.2.2.2.2.2.2.2.2.2.2.2.1,v.2.2.2.2.2.2.2.2.2.2.2.2.1,v.2.2.2.2.2.2.2.2.2.2.2.2.2.1,v.2.2.2.2.2.2.2.2.2.2.2.2.2.2.1,v.2.2.2.2.2.2.2.2.2.2.2.2.2.2.2.1,v.2.2.2.2.2.2.2.2.2.2.2.2.2.2.2.2.1,v.2.2.2.2.2.2.2.2.2.2.2.2.2.2.2.2.2.1,v.2.2.2.2.2.2.2.2.2.2.2.2.2.2.2.2.2.2.1,v.2.2.2.2.2.2.2.2.2.2.2.2.2.2.2.2.2.2.2.1,v.2.2.2.2.2.2.2.2.2.2.2.2.2.2.2.2.2.2.2.2.1,v.2.2.2.2.2.2.2.2.2.2.2.2.2.2.2.2.2.2.2.2.2)))
theorem q2ac C v:q35b (regO (qct f51) 17) false [(2,(.box [.val Riii])),(3,.any),(8,.any),(10,(.own Riii)),(11,.any),(12,.any),(14,.any),(15,.any),(18,.any),(47,(.val Riii)),(48,.any),(49,.any)] q2a8 q2ab q2a4 C v:=rgI (by kernel_rfl)
abbrev q2ad:Type:=Int×List Diii×Int×Int×Bool×List Diii×Int×Int×Int×Int×Int×List Diii×Int×Int×Int×Int×Int×Int×Int×Int×Int×Int
def q2ae (v:q2ad):St:=⟨[(2,.ptr 0 0),(3,.ptr 1 0),(8,.ptr 2 0),(10,.rs 3),(11,.ptr 4 0),(12,.ptr 5 0),(14,.ptr 6 0),(15,.ptr 7 0),(18,i6 v.1),(47,.fz Riii v.2.1),(48,i6 v.2.2.1),(49,i6 v.2.2.2.1),(74,.bool v.2.2.2.2.1)],[.cells [.fz Riii v.2.2.2.2.2.1],.cells [i6 v.2.2.2.2.2.2.1,i6 v.2.2.2.2.2.2.2.1],.cells [i6 v.2.2.2.2.2.2.2.2.1,i6 v.2.2.2.2.2.2.2.2.2.1,i6 v.2.2.2.2.2.2.2.2.2.2.1],.rows Riii v.2.2.2.2.2.2.2.2.2.2.2.1,.cells [i6 v.2.2.2.2.2.2.2.2.2.2.2.2.1,i6 v.2.2.2.2.2.2.2.2.2.2.2.2.2.1,i6 v.2.2.2.2.2.2.2.2.2.2.2.2.2.2.1],.cells [i6 v.2.2.2.2.2.2.2.2.2.2.2.2.2.2.2.1,i6 v.2.2.2.2.2.2.2.2.2.2.2.2.2.2.2.2.1],.cells [i6 v.2.2.2.2.2.2.2.2.2.2.2.2.2.2.2.2.2.1,i6 v.2.2.2.2.2.2.2.2.2.2.2.2.2.2.2.2.2.2.1,i6 v.2.2.2.2.2.2.2.2.2.2.2.2.2.2.2.2.2.2.2.1],.cells [i6 v.2.2.2.2.2.2.2.2.2.2.2.2.2.2.2.2.2.2.2.2.1,i6 v.2.2.2.2.2.2.2.2.2.2.2.2.2.2.2.2.2.2.2.2.2]]⟩
def q2af (C:q289) (v:q2a3):Dt q2ad:=(Dt.ret (v.1,v.2.1,v.2.2.1,v.2.2.2.1,(v.1 == (0:Int)),v.2.2.2.2.1,v.2.2.2.2.2.1,v.2.2.2.2.2.2.1,v.2.2.2.2.2.2.2.1,v.2.2.2.2.2.2.2.2.1,v.2.2.2.2.2.2.2.2.2.1,v.2.2.2.2.2.2.2.2.2.2.1,v.2.2.2.2.2.2.2.2.2.2.2.1,v.2.2.2.2.2.2.2.2.2.2.2.2.1,v.2.2.2.2.2.2.2.2.2.2.2.2.2.1,v.2.2.2.2.2.2.2.2.2.2.2.2.2.2.1,v.2.2.2.2.2.2.2.2.2.2.2.2.2.2.2.1,v.2.2.2.2.2.2.2.2.2.2.2.2.2.2.2.2.1,v.2.2.2.2.2.2.2.2.2.2.2.2.2.2.2.2.2.1,v.2.2.2.2.2.2.2.2.2.2.2.2.2.2.2.2.2.2.1,v.2.2.2.2.2.2.2.2.2.2.2.2.2.2.2.2.2.2.2.1,v.2.2.2.2.2.2.2.2.2.2.2.2.2.2.2.2.2.2.2.2))
theorem q2ag C v:q35b (regO (qct f51) 18) false [(2,(.box [.val Riii])),(3,.any),(8,.any),(10,(.own Riii)),(11,.any),(12,.any),(14,.any),(15,.any),(18,.any),(47,(.val Riii)),(48,.any),(49,.any),(74,.any)] q2a4 q2af q2ae C v:=rgI (by kernel_rfl)
abbrev q2ah:Type:=Int×Bool×List Diii×Int×Int×List Diii×Int×Int×Int×Int×Int×List Diii×Int×Int×Int×Int×Int×Int×Int×Int×Int×Int
def q2ai (v:q2ah):St:=⟨[(2,.ptr 0 0),(3,.ptr 1 0),(8,.ptr 2 0),(10,.rs 3),(11,.ptr 4 0),(12,.ptr 5 0),(14,.ptr 6 0),(15,.ptr 7 0),(18,i6 v.1),(19,.bool v.2.1),(47,.fz Riii v.2.2.1),(48,i6 v.2.2.2.1),(49,i6 v.2.2.2.2.1)],[.cells [.fz Riii v.2.2.2.2.2.1],.cells [i6 v.2.2.2.2.2.2.1,i6 v.2.2.2.2.2.2.2.1],.cells [i6 v.2.2.2.2.2.2.2.2.1,i6 v.2.2.2.2.2.2.2.2.2.1,i6 v.2.2.2.2.2.2.2.2.2.2.1],.rows Riii v.2.2.2.2.2.2.2.2.2.2.2.1,.cells [i6 v.2.2.2.2.2.2.2.2.2.2.2.2.1,i6 v.2.2.2.2.2.2.2.2.2.2.2.2.2.1,i6 v.2.2.2.2.2.2.2.2.2.2.2.2.2.2.1],.cells [i6 v.2.2.2.2.2.2.2.2.2.2.2.2.2.2.2.1,i6 v.2.2.2.2.2.2.2.2.2.2.2.2.2.2.2.2.1],.cells [i6 v.2.2.2.2.2.2.2.2.2.2.2.2.2.2.2.2.2.1,i6 v.2.2.2.2.2.2.2.2.2.2.2.2.2.2.2.2.2.2.1,i6 v.2.2.2.2.2.2.2.2.2.2.2.2.2.2.2.2.2.2.2.1],.cells [i6 v.2.2.2.2.2.2.2.2.2.2.2.2.2.2.2.2.2.2.2.2.1,i6 v.2.2.2.2.2.2.2.2.2.2.2.2.2.2.2.2.2.2.2.2.2]]⟩
def q2aj (C:q289) (v:q2ad):Dt q2ah:=(Dt.bnd (C.2.2.2.2.1 ((v.2.2.2.2.2.2.2.2.2.2.2.2.2.2.2.2.2.1,v.2.2.2.2.2.2.2.2.2.2.2.2.2.2.2.2.2.2.1,v.2.2.2.2.2.2.2.2.2.2.2.2.2.2.2.2.2.2.2.1,()),(v.2.2.2.2.2.2.2.2.2.2.2.2.1,v.2.2.2.2.2.2.2.2.2.2.2.2.2.1,v.2.2.2.2.2.2.2.2.2.2.2.2.2.2.1,()),(v.2.2.2.2.2.2.2.2.2.2.2.2.2.2.2.2.2.2.2.2.1,v.2.2.2.2.2.2.2.2.2.2.2.2.2.2.2.2.2.2.2.2.2,()),())) fun r1=>(Dt.ret (v.1,r1.1,v.2.1,v.2.2.1,v.2.2.2.1,v.2.2.2.2.2.1,v.2.2.2.2.2.2.1,v.2.2.2.2.2.2.2.1,v.2.2.2.2.2.2.2.2.1,v.2.2.2.2.2.2.2.2.2.1,v.2.2.2.2.2.2.2.2.2.2.1,v.2.2.2.2.2.2.2.2.2.2.2.1,v.2.2.2.2.2.2.2.2.2.2.2.2.1,v.2.2.2.2.2.2.2.2.2.2.2.2.2.1,v.2.2.2.2.2.2.2.2.2.2.2.2.2.2.1,v.2.2.2.2.2.2.2.2.2.2.2.2.2.2.2.1,v.2.2.2.2.2.2.2.2.2.2.2.2.2.2.2.2.1,v.2.2.2.2.2.2.2.2.2.2.2.2.2.2.2.2.2.1,v.2.2.2.2.2.2.2.2.2.2.2.2.2.2.2.2.2.2.1,v.2.2.2.2.2.2.2.2.2.2.2.2.2.2.2.2.2.2.2.1,v.2.2.2.2.2.2.2.2.2.2.2.2.2.2.2.2.2.2.2.2.1,v.2.2.2.2.2.2.2.2.2.2.2.2.2.2.2.2.2.2.2.2.2)))
theorem q2ak C v:q35b (regO (qct f51) 19) false [(2,(.box [.val Riii])),(3,.any),(8,.any),(10,(.own Riii)),(11,.any),(12,.any),(14,.any),(15,.any),(18,.any),(19,.any),(47,(.val Riii)),(48,.any),(49,.any)] q2ae q2aj q2ai C v:=rgI (by kernel_rfl)
abbrev q2al:Type:=Int×List Diii×Int×Int×Bool×List Diii×Int×Int×Int×Int×Int×List Diii×Int×Int×Int×Int×Int×Int×Int×Int×Int×Int
def q2am (v:q2al):St:=⟨[(2,.ptr 0 0),(3,.ptr 1 0),(8,.ptr 2 0),(10,.rs 3),(11,.ptr 4 0),(12,.ptr 5 0),(14,.ptr 6 0),(15,.ptr 7 0),(18,i6 v.1),(47,.fz Riii v.2.1),(48,i6 v.2.2.1),(49,i6 v.2.2.2.1),(82,.bool v.2.2.2.2.1)],[.cells [.fz Riii v.2.2.2.2.2.1],.cells [i6 v.2.2.2.2.2.2.1,i6 v.2.2.2.2.2.2.2.1],.cells [i6 v.2.2.2.2.2.2.2.2.1,i6 v.2.2.2.2.2.2.2.2.2.1,i6 v.2.2.2.2.2.2.2.2.2.2.1],.rows Riii v.2.2.2.2.2.2.2.2.2.2.2.1,.cells [i6 v.2.2.2.2.2.2.2.2.2.2.2.2.1,i6 v.2.2.2.2.2.2.2.2.2.2.2.2.2.1,i6 v.2.2.2.2.2.2.2.2.2.2.2.2.2.2.1],.cells [i6 v.2.2.2.2.2.2.2.2.2.2.2.2.2.2.2.1,i6 v.2.2.2.2.2.2.2.2.2.2.2.2.2.2.2.2.1],.cells [i6 v.2.2.2.2.2.2.2.2.2.2.2.2.2.2.2.2.2.1,i6 v.2.2.2.2.2.2.2.2.2.2.2.2.2.2.2.2.2.2.1,i6 v.2.2.2.2.2.2.2.2.2.2.2.2.2.2.2.2.2.2.2.1],.cells [i6 v.2.2.2.2.2.2.2.2.2.2.2.2.2.2.2.2.2.2.2.2.1,i6 v.2.2.2.2.2.2.2.2.2.2.2.2.2.2.2.2.2.2.2.2.2]]⟩
def q2an (C:q289) (v:q2ah):Dt q2al:=(Dt.ret (v.1,v.2.2.1,v.2.2.2.1,v.2.2.2.2.1,v.2.1,v.2.2.2.2.2.1,v.2.2.2.2.2.2.1,v.2.2.2.2.2.2.2.1,v.2.2.2.2.2.2.2.2.1,v.2.2.2.2.2.2.2.2.2.1,v.2.2.2.2.2.2.2.2.2.2.1,v.2.2.2.2.2.2.2.2.2.2.2.1,v.2.2.2.2.2.2.2.2.2.2.2.2.1,v.2.2.2.2.2.2.2.2.2.2.2.2.2.1,v.2.2.2.2.2.2.2.2.2.2.2.2.2.2.1,v.2.2.2.2.2.2.2.2.2.2.2.2.2.2.2.1,v.2.2.2.2.2.2.2.2.2.2.2.2.2.2.2.2.1,v.2.2.2.2.2.2.2.2.2.2.2.2.2.2.2.2.2.1,v.2.2.2.2.2.2.2.2.2.2.2.2.2.2.2.2.2.2.1,v.2.2.2.2.2.2.2.2.2.2.2.2.2.2.2.2.2.2.2.1,v.2.2.2.2.2.2.2.2.2.2.2.2.2.2.2.2.2.2.2.2.1,v.2.2.2.2.2.2.2.2.2.2.2.2.2.2.2.2.2.2.2.2.2))
theorem q2ao C v:q35b (regO (qct f51) 20) false [(2,(.box [.val Riii])),(3,.any),(8,.any),(10,(.own Riii)),(11,.any),(12,.any),(14,.any),(15,.any),(18,.any),(47,(.val Riii)),(48,.any),(49,.any),(82,.any)] q2ai q2an q2am C v:=rgI (by kernel_rfl)
def q2ap (C:q289) (v:q2al):Dt q2a3:=(Dt.ret ((-1:Int),v.2.1,v.2.2.1,v.2.2.2.1,v.2.2.2.2.2.1,v.2.2.2.2.2.2.1,v.2.2.2.2.2.2.2.1,v.2.2.2.2.2.2.2.2.1,v.2.2.2.2.2.2.2.2.2.1,v.2.2.2.2.2.2.2.2.2.2.1,v.2.2.2.2.2.2.2.2.2.2.2.1,v.2.2.2.2.2.2.2.2.2.2.2.2.1,v.2.2.2.2.2.2.2.2.2.2.2.2.2.1,v.2.2.2.2.2.2.2.2.2.2.2.2.2.2.1,v.2.2.2.2.2.2.2.2.2.2.2.2.2.2.2.1,v.2.2.2.2.2.2.2.2.2.2.2.2.2.2.2.2.1,v.2.2.2.2.2.2.2.2.2.2.2.2.2.2.2.2.2.1,v.2.2.2.2.2.2.2.2.2.2.2.2.2.2.2.2.2.2.1,v.2.2.2.2.2.2.2.2.2.2.2.2.2.2.2.2.2.2.2.1,v.2.2.2.2.2.2.2.2.2.2.2.2.2.2.2.2.2.2.2.2.1,v.2.2.2.2.2.2.2.2.2.2.2.2.2.2.2.2.2.2.2.2.2))
theorem q2aq C v:q35b (regO (qct f51) 21) false [(2,(.box [.val Riii])),(3,.any),(8,.any),(10,(.own Riii)),(11,.any),(12,.any),(14,.any),(15,.any),(18,.any),(47,(.val Riii)),(48,.any),(49,.any)] q2am q2ap q2a4 C v:=rgI (by kernel_rfl)
abbrev q2ar:Type:=List Diii×Int×Int×Bool×List Diii×Int×Int×Int×Int×Int×List Diii×Int×Int×Int×Int×Int×Int×Int×Int×Int×Int
def q2as (v:q2ar):St:=⟨[(2,.ptr 0 0),(3,.ptr 1 0),(8,.ptr 2 0),(10,.rs 3),(11,.ptr 4 0),(12,.ptr 5 0),(14,.ptr 6 0),(15,.ptr 7 0),(47,.fz Riii v.1),(48,i6 v.2.1),(49,i6 v.2.2.1),(84,.bool v.2.2.2.1)],[.cells [.fz Riii v.2.2.2.2.1],.cells [i6 v.2.2.2.2.2.1,i6 v.2.2.2.2.2.2.1],.cells [i6 v.2.2.2.2.2.2.2.1,i6 v.2.2.2.2.2.2.2.2.1,i6 v.2.2.2.2.2.2.2.2.2.1],.rows Riii v.2.2.2.2.2.2.2.2.2.2.1,.cells [i6 v.2.2.2.2.2.2.2.2.2.2.2.1,i6 v.2.2.2.2.2.2.2.2.2.2.2.2.1,i6 v.2.2.2.2.2.2.2.2.2.2.2.2.2.1],.cells [i6 v.2.2.2.2.2.2.2.2.2.2.2.2.2.2.1,i6 v.2.2.2.2.2.2.2.2.2.2.2.2.2.2.2.1],.cells [i6 v.2.2.2.2.2.2.2.2.2.2.2.2.2.2.2.2.1,i6 v.2.2.2.2.2.2.2.2.2.2.2.2.2.2.2.2.2.1,i6 v.2.2.2.2.2.2.2.2.2.2.2.2.2.2.2.2.2.2.1],.cells [i6 v.2.2.2.2.2.2.2.2.2.2.2.2.2.2.2.2.2.2.2.1,i6 v.2.2.2.2.2.2.2.2.2.2.2.2.2.2.2.2.2.2.2.2]]⟩
def q2at (C:q289) (v:q2a3):Dt q2ar:=(Dt.ret (v.2.1,v.2.2.1,v.2.2.2.1,(decide (v.1<(0:Int))),v.2.2.2.2.1,v.2.2.2.2.2.1,v.2.2.2.2.2.2.1,v.2.2.2.2.2.2.2.1,v.2.2.2.2.2.2.2.2.1,v.2.2.2.2.2.2.2.2.2.1,v.2.2.2.2.2.2.2.2.2.2.1,v.2.2.2.2.2.2.2.2.2.2.2.1,v.2.2.2.2.2.2.2.2.2.2.2.2.1,v.2.2.2.2.2.2.2.2.2.2.2.2.2.1,v.2.2.2.2.2.2.2.2.2.2.2.2.2.2.1,v.2.2.2.2.2.2.2.2.2.2.2.2.2.2.2.1,v.2.2.2.2.2.2.2.2.2.2.2.2.2.2.2.2.1,v.2.2.2.2.2.2.2.2.2.2.2.2.2.2.2.2.2.1,v.2.2.2.2.2.2.2.2.2.2.2.2.2.2.2.2.2.2.1,v.2.2.2.2.2.2.2.2.2.2.2.2.2.2.2.2.2.2.2.1,v.2.2.2.2.2.2.2.2.2.2.2.2.2.2.2.2.2.2.2.2))
theorem q2au C v:q35b (regO (qct f51) 22) false [(2,(.box [.val Riii])),(3,.any),(8,.any),(10,(.own Riii)),(11,.any),(12,.any),(14,.any),(15,.any),(47,(.val Riii)),(48,.any),(49,.any),(84,.any)] q2a4 q2at q2as C v:=rgI (by kernel_rfl)
def q2av (C:q289) (v:q2ar):Dt q29g:=(Dt.ret (v.1,v.2.1,v.2.2.1,v.2.2.2.2.1,v.2.2.2.2.2.1,v.2.2.2.2.2.2.1,v.2.2.2.2.2.2.2.1,v.2.2.2.2.2.2.2.2.1,v.2.2.2.2.2.2.2.2.2.1,v.2.2.2.2.2.2.2.2.2.2.1,v.2.2.2.2.2.2.2.2.2.2.2.2.2.2.2.2.1,v.2.2.2.2.2.2.2.2.2.2.2.2.2.2.2.2.2.1,v.2.2.2.2.2.2.2.2.2.2.2.2.2.2.2.2.2.2.1,v.2.2.2.2.2.2.2.2.2.2.2.2.2.2.2.2.2.2.2.1,v.2.2.2.2.2.2.2.2.2.2.2.2.2.2.2.2.2.2.2.2))
theorem q2aw C v:q35b (regO (qct f51) 23) true [(2,(.box [.val Riii])),(3,.any),(8,.any),(10,(.own Riii)),(11,.any),(12,.any),(47,(.val Riii)),(48,.any),(49,.any)] q2as q2av q29h C v:=rgI (by kernel_rfl)
def q2ax  (d:Nat) (self1:(List Diii×Int×Int×Int×Int×Int×List Diii)→Option q286) (self2:(List Diii×Int×Int×List Diii×Int×Int×Int×Int×Int×List Diii×Int×Int×Int×Int×Int)→Option q286) (z:Int×List Diii×Int×Int×List Diii×Int×Int×Int×Int×Int×List Diii×Int×Int×Int×Int×Int×Int×Int×Int×Int×Int):Option (q286) :=
 (q2at (q28a d) z).eval fun y22 =>
 bif y22.2.2.2.1 then ((q2av (q28a d) y22).eval fun y23 =>
 q2a2 d self1 self2 y23) else (q2a2 d self1 self2 (y22.1,y22.2.1,y22.2.2.1,y22.2.2.2.2.1,y22.2.2.2.2.2.1,y22.2.2.2.2.2.2.1,y22.2.2.2.2.2.2.2.1,y22.2.2.2.2.2.2.2.2.1,y22.2.2.2.2.2.2.2.2.2.1,y22.2.2.2.2.2.2.2.2.2.2.1,y22.2.2.2.2.2.2.2.2.2.2.2.1,y22.2.2.2.2.2.2.2.2.2.2.2.2.1,y22.2.2.2.2.2.2.2.2.2.2.2.2.2.1,y22.2.2.2.2.2.2.2.2.2.2.2.2.2.2.1,y22.2.2.2.2.2.2.2.2.2.2.2.2.2.2.2.1))
def q2ay  (d:Nat) (self1:(List Diii×Int×Int×Int×Int×Int×List Diii)→Option q286) (self2:(List Diii×Int×Int×List Diii×Int×Int×Int×Int×Int×List Diii×Int×Int×Int×Int×Int)→Option q286) (z:Int×List Diii×Int×Int×List Diii×Int×Int×Int×Int×Int×List Diii×Int×Int×Int×Int×Int×Int×Int×Int×Int×Int):Option (q286) :=
 (q2af (q28a d) z).eval fun y18 =>
 bif y18.2.2.2.2.1 then ((q2aj (q28a d) y18).eval fun y19 =>
 (q2an (q28a d) y19).eval fun y20 =>
 bif y20.2.2.2.2.1 then ((q2ap (q28a d) y20).eval fun y21 =>
 q2ax d self1 self2 y21) else (q2ax d self1 self2 (y20.1,y20.2.1,y20.2.2.1,y20.2.2.2.1,y20.2.2.2.2.2.1,y20.2.2.2.2.2.2.1,y20.2.2.2.2.2.2.2.1,y20.2.2.2.2.2.2.2.2.1,y20.2.2.2.2.2.2.2.2.2.1,y20.2.2.2.2.2.2.2.2.2.2.1,y20.2.2.2.2.2.2.2.2.2.2.2.1,y20.2.2.2.2.2.2.2.2.2.2.2.2.1,y20.2.2.2.2.2.2.2.2.2.2.2.2.2.1,y20.2.2.2.2.2.2.2.2.2.2.2.2.2.2.1,y20.2.2.2.2.2.2.2.2.2.2.2.2.2.2.2.1,y20.2.2.2.2.2.2.2.2.2.2.2.2.2.2.2.2.1,y20.2.2.2.2.2.2.2.2.2.2.2.2.2.2.2.2.2.1,y20.2.2.2.2.2.2.2.2.2.2.2.2.2.2.2.2.2.2.1,y20.2.2.2.2.2.2.2.2.2.2.2.2.2.2.2.2.2.2.2.1,y20.2.2.2.2.2.2.2.2.2.2.2.2.2.2.2.2.2.2.2.2.1,y20.2.2.2.2.2.2.2.2.2.2.2.2.2.2.2.2.2.2.2.2.2))) else (q2ax d self1 self2 (y18.1,y18.2.1,y18.2.2.1,y18.2.2.2.1,y18.2.2.2.2.2.1,y18.2.2.2.2.2.2.1,y18.2.2.2.2.2.2.2.1,y18.2.2.2.2.2.2.2.2.1,y18.2.2.2.2.2.2.2.2.2.1,y18.2.2.2.2.2.2.2.2.2.2.1,y18.2.2.2.2.2.2.2.2.2.2.2.1,y18.2.2.2.2.2.2.2.2.2.2.2.2.1,y18.2.2.2.2.2.2.2.2.2.2.2.2.2.1,y18.2.2.2.2.2.2.2.2.2.2.2.2.2.2.1,y18.2.2.2.2.2.2.2.2.2.2.2.2.2.2.2.1,y18.2.2.2.2.2.2.2.2.2.2.2.2.2.2.2.2.1,y18.2.2.2.2.2.2.2.2.2.2.2.2.2.2.2.2.2.1,y18.2.2.2.2.2.2.2.2.2.2.2.2.2.2.2.2.2.2.1,y18.2.2.2.2.2.2.2.2.2.2.2.2.2.2.2.2.2.2.2.1,y18.2.2.2.2.2.2.2.2.2.2.2.2.2.2.2.2.2.2.2.2.1,y18.2.2.2.2.2.2.2.2.2.2.2.2.2.2.2.2.2.2.2.2.2))
abbrev q2az:Type:=Bool×List Diii×Int×Int×Int×Int×Int×List Diii×Int×Int×Int×Int×Int
def q2b0 (v:q2az):St:=⟨[(2,.ptr 0 0),(3,.ptr 1 0),(8,.ptr 2 0),(10,.rs 3),(11,.ptr 4 0),(12,.ptr 5 0),(90,.bool v.1)],[.cells [.fz Riii v.2.1],.cells [i6 v.2.2.1,i6 v.2.2.2.1],.cells [i6 v.2.2.2.2.1,i6 v.2.2.2.2.2.1,i6 v.2.2.2.2.2.2.1],.rows Riii v.2.2.2.2.2.2.2.1,.cells [i6 v.2.2.2.2.2.2.2.2.1,i6 v.2.2.2.2.2.2.2.2.2.1,i6 v.2.2.2.2.2.2.2.2.2.2.1],.cells [i6 v.2.2.2.2.2.2.2.2.2.2.2.1,i6 v.2.2.2.2.2.2.2.2.2.2.2.2]]⟩
def q2b1 (C:q289) (v:q29k):Dt q2az:=(Dt.ret ((v.2.2.2.2.2.2.2.2.2.2.2.2.2.2.2 == (0:Int)),v.2.2.2.2.1,v.2.2.2.2.2.1,v.2.2.2.2.2.2.1,v.2.2.2.2.2.2.2.1,v.2.2.2.2.2.2.2.2.1,v.2.2.2.2.2.2.2.2.2.1,v.2.2.2.2.2.2.2.2.2.2.1,v.2.2.2.2.2.2.2.2.2.2.2.1,v.2.2.2.2.2.2.2.2.2.2.2.2.1,v.2.2.2.2.2.2.2.2.2.2.2.2.2.1,v.2.2.2.2.2.2.2.2.2.2.2.2.2.2.1,v.2.2.2.2.2.2.2.2.2.2.2.2.2.2.2))
theorem q2b2 C v:q35b (regO (qct f51) 25) false [(2,(.box [.val Riii])),(3,.any),(8,.any),(10,(.own Riii)),(11,.any),(12,.any),(90,.any)] q29l q2b1 q2b0 C v:=rgI (by kernel_rfl)
def q2b3 (C:q289) (v:q2az):Dt q28q:=(Dt.ret ((0:Int),v.2.2.2.2.2.2.2.1))
theorem q2b4 C v:q35b (regO (qct f51) 26) false [(4,(.own Riii)),(5,.any)] q2b0 q2b3 q28r C v:=rgI (by kernel_rfl)
def q2b5 (C:q289) (v:q2az):Dt q29c:=(Dt.ret (v.2.1,v.2.2.2.2.2.2.2.2.2.2.2.1,v.2.2.2.2.2.2.2.2.2.2.2.2,v.2.2.2.2.2.2.2.2.1,v.2.2.2.2.2.2.2.2.2.1,v.2.2.2.2.2.2.2.2.2.2.1,v.2.2.2.2.2.2.2.1,v.2.2.2.2.2.2.2.2.1,v.2.2.2.2.2.2.2.2.2.1,v.2.2.2.2.2.2.2.2.2.2.1,v.2.2.2.2.2.2.2.2.2.2.2.1,v.2.2.2.2.2.2.2.2.2.2.2.2))
theorem q2b6 C v:q35b (regO (qct f51) 27) true [(2,(.box [.val Riii])),(3,.any),(8,.any),(10,(.own Riii)),(11,.any),(12,.any)] q2b0 q2b5 q29d C v:=rgI (by kernel_rfl)
def q2b7 (C:q289) (v:q29c):Dt q294:=(Dt.ite (apB (List.length v.2.2.2.2.2.2.1) (List.length ([(v.2.2.2.2.2.2.2.2.2.2.1,v.2.2.2.2.2.2.2.2.2.2.2,v.2.2.2.2.2.2.2.1,())]:List Diii))) (Dt.ret (v.1,v.2.1,v.2.2.1,v.2.2.2.1,v.2.2.2.2.1,v.2.2.2.2.2.1,(v.2.2.2.2.2.2.1++([(v.2.2.2.2.2.2.2.2.2.2.1,v.2.2.2.2.2.2.2.2.2.2.2,v.2.2.2.2.2.2.2.1,())]:List Diii)))) Dt.fail)
theorem q2b8 C v:q35b (regO (qct f51) 28) false [(2,(.box [.val Riii])),(3,.any),(8,.any),(10,(.own Riii))] q29d q2b7 q295 C v:=rgI (by kernel_rfl)
def q2b9 (d:Nat) (self1:(List Diii×Int×Int×Int×Int×Int×List Diii)→Option q286) (self2:(List Diii×Int×Int×List Diii×Int×Int×Int×Int×Int×List Diii×Int×Int×Int×Int×Int)→Option q286) (x2:List Diii×Int×Int×List Diii×Int×Int×Int×Int×Int×List Diii×Int×Int×Int×Int×Int):Option q286 :=
 (q29m (q28a d) x2).eval fun y11 =>
 bif y11.2.2.2.1 then ((q29q (q28a d) y11).eval fun y12 =>
 (q29u (q28a d) y12).eval fun y13 =>
 (q29y (q28a d) y13).eval fun y14 =>
 bif y14.2.2.2.1 then (q2a2 d self1 self2 (y14.1,y14.2.1,y14.2.2.1,y14.2.2.2.2.1,y14.2.2.2.2.2.1,y14.2.2.2.2.2.2.1,y14.2.2.2.2.2.2.2.1,y14.2.2.2.2.2.2.2.2.1,y14.2.2.2.2.2.2.2.2.2.1,y14.2.2.2.2.2.2.2.2.2.2.1,y14.2.2.2.2.2.2.2.2.2.2.2.1,y14.2.2.2.2.2.2.2.2.2.2.2.2.1,y14.2.2.2.2.2.2.2.2.2.2.2.2.2.1,y14.2.2.2.2.2.2.2.2.2.2.2.2.2.2.1,y14.2.2.2.2.2.2.2.2.2.2.2.2.2.2.2.1)) else ((q2a5 (q28a d) y14).eval fun y15 =>
 (q2a9 (q28a d) y15).eval fun y16 =>
 bif y16.2.2.2.2.1 then ((q2ab (q28a d) y16).eval fun y17 =>
 q2ay d self1 self2 y17) else (q2ay d self1 self2 (y16.1,y16.2.1,y16.2.2.1,y16.2.2.2.1,y16.2.2.2.2.2.1,y16.2.2.2.2.2.2.1,y16.2.2.2.2.2.2.2.1,y16.2.2.2.2.2.2.2.2.1,y16.2.2.2.2.2.2.2.2.2.1,y16.2.2.2.2.2.2.2.2.2.2.1,y16.2.2.2.2.2.2.2.2.2.2.2.1,y16.2.2.2.2.2.2.2.2.2.2.2.2.1,y16.2.2.2.2.2.2.2.2.2.2.2.2.2.1,y16.2.2.2.2.2.2.2.2.2.2.2.2.2.2.1,y16.2.2.2.2.2.2.2.2.2.2.2.2.2.2.2.1,y16.2.2.2.2.2.2.2.2.2.2.2.2.2.2.2.2.1,y16.2.2.2.2.2.2.2.2.2.2.2.2.2.2.2.2.2.1,y16.2.2.2.2.2.2.2.2.2.2.2.2.2.2.2.2.2.2.1,y16.2.2.2.2.2.2.2.2.2.2.2.2.2.2.2.2.2.2.2.1,y16.2.2.2.2.2.2.2.2.2.2.2.2.2.2.2.2.2.2.2.2.1,y16.2.2.2.2.2.2.2.2.2.2.2.2.2.2.2.2.2.2.2.2.2)))) else ((q2b1 (q28a d) y11).eval fun y25 =>
 bif y25.1 then ((q2b3 (q28a d) y25).eval fun y26 =>
 some (y26.2,y26.1)) else ((q2b5 (q28a d) y25).eval fun y27 =>
 (q2b7 (q28a d) y27).eval fun y28 =>
 self1 y28))
def q2ba (d:Nat) (self1:(List Diii×Int×Int×Int×Int×Int×List Diii)→Option q286) (x1:List Diii×Int×Int×Int×Int×Int×List Diii):Option q286 :=
 (q29a (q28a d) x1).eval fun y8 =>
 (q29e (q28a d) y8).eval fun y9 =>
 (q29i (q28a d) y9).eval fun y10 =>
 iter (q2b9 d self1) d y10
def q2bb (d:Nat) (x:q285):Option q286 :=
 (q28g (q28a d) (x.1.1,x.2.1.1,x.2.1.2.1)).eval fun y0 =>
 (q28k (q28a d) y0).eval fun y1 =>
 (q28o (q28a d) y1).eval fun y2 =>
 bif y2.2.1 then ((q28s (q28a d) y2).eval fun y3 =>
 some (y3.2,y3.1)) else ((q28w (q28a d) y2).eval fun y4 =>
 bif y4.1 then ((q28y (q28a d) y4).eval fun y5 =>
 some (y5.2,y5.1)) else ((q292 (q28a d) y4).eval fun y6 =>
 (q296 (q28a d) y6).eval fun y7 =>
 iter (q2ba d ) d y7))
theorem q2bc (d:Nat):COK prog (q288 (q2bb d)):=by
 have hm:prog.follows .mixedOrders=true:=mixed
 have hT:=tys
 have hC0:OrcOK prog (orc (q28b (q28a d))):=qcn (by
  intro S hS
  simp only [q28b,List.mem_cons,List.not_mem_nil,or_false] at hS
  rcases hS with rfl | rfl | rfl | rfl | rfl
  · exact qwd d
  · exact qvm d
  · exact q27f d
  · exact q283 d
  · exact qox d)
 have hC:OrcOK prog (orc (q28b (q28a d))):=hC0
 refine q8c (c:=qct f51) (fn:=f51) hT (by kernel_rfl) (by kernel_rfl) (by decide) fun x r h w0 φ0 Q hend=>?_
 replace h:q2bb d x=some r:=h
 unfold q2bb at h
 show Run prog w0 φ0 101 (qct f51) ⟨[(0,.agg [.fz Riii x.1.1]),(1,.agg [.int .i64 x.2.1.1,.int .i64 x.2.1.2.1])],[]⟩ Q
 refine q342 hm hT hC (q28h (q28a d) (x.1.1,x.2.1.1,x.2.1.2.1)) h fun y0 h=>?_
 refine q342 hm hT hC (q28l (q28a d) y0) h fun y1 h=>?_
 refine q7w ?_
 refine q342 hm hT hC (q28p (q28a d) y1) h fun y2 h=>?_
 refine q80 (v:=y2.2.1) (by kernel_rfl) h ?_ ?_
 ·
  intro h
  refine q342 hm hT hC (q28t (q28a d) y2) h fun y3 h=>?_
  refine q7v (q7k ?_)
  cases h
  exact (hend _ (by kernel_rfl)).2
 ·
  intro h
  refine q7s (q7i (q7w ?_))
  refine q342 hm hT hC (q28x (q28a d) y2) h fun y4 h=>?_
  refine q80 (v:=y4.1) (by kernel_rfl) h ?_ ?_
  ·
   intro h
   refine q342 hm hT hC (q28z (q28a d) y4) h fun y5 h=>?_
   refine q7v (q7k ?_)
   cases h
   exact (hend _ (by kernel_rfl)).2
  ·
   intro h
   refine q7s (q7i ?_)
   refine q342 hm hT hC (q293 (q28a d) y4) h fun y6 h=>?_
   refine q342 hm hT hC (q297 (q28a d) y6) h fun y7 h=>?_
   refine q7x ?_
   refine q82 (G:=iter (q2ba d )) (S:=(fun x1=>⟨[(2,.ptr 0 0),(3,.ptr 1 0),(8,.ptr 2 0),(10,.rs 3)],[.cells [.fz Riii x1.1],.cells [i6 x1.2.1,i6 x1.2.2.1],.cells [i6 x1.2.2.2.1,i6 x1.2.2.2.2.1,i6 x1.2.2.2.2.2.1],.rows Riii x1.2.2.2.2.2.2]⟩:List Diii×Int×Int×Int×Int×Int×List Diii→St)) (fun _=>rfl) ?_ d _ h
   intro n1 x1 h K1 hn1
   replace h:q2ba d  (iter (q2ba d ) n1) x1=some r:=h
   generalize iter (q2ba d ) n1=self1 at h hn1
   unfold q2ba at h
   refine q7x ?_
   refine q342 hm hT hC (q29b (q28a d) x1) h fun y8 h=>?_
   refine q342 hm hT hC (q29f (q28a d) y8) h fun y9 h=>?_
   refine q7w ?_
   refine q342 hm hT hC (q29j (q28a d) y9) h fun y10 h=>?_
   refine q7x ?_
   refine q82 (G:=iter (q2b9 d self1)) (S:=(fun x2=>⟨[(2,.ptr 0 0),(3,.ptr 1 0),(8,.ptr 2 0),(10,.rs 3),(11,.ptr 4 0),(12,.ptr 5 0),(47,.fz Riii x2.1),(48,i6 x2.2.1),(49,i6 x2.2.2.1)],[.cells [.fz Riii x2.2.2.2.1],.cells [i6 x2.2.2.2.2.1,i6 x2.2.2.2.2.2.1],.cells [i6 x2.2.2.2.2.2.2.1,i6 x2.2.2.2.2.2.2.2.1,i6 x2.2.2.2.2.2.2.2.2.1],.rows Riii x2.2.2.2.2.2.2.2.2.2.1,.cells [i6 x2.2.2.2.2.2.2.2.2.2.2.1,i6 x2.2.2.2.2.2.2.2.2.2.2.2.1,i6 x2.2.2.2.2.2.2.2.2.2.2.2.2.1],.cells [i6 x2.2.2.2.2.2.2.2.2.2.2.2.2.2.1,i6 x2.2.2.2.2.2.2.2.2.2.2.2.2.2.2]]⟩:List Diii×Int×Int×List Diii×Int×Int×Int×Int×Int×List Diii×Int×Int×Int×Int×Int→St)) (fun _=>rfl) ?_ d _ h
   intro n2 x2 h K2 hn2
   replace h:q2b9 d self1 (iter (q2b9 d self1) n2) x2=some r:=h
   generalize iter (q2b9 d self1) n2=self2 at h hn2
   unfold q2b9 at h
   refine q342 hm hT hC (q29n (q28a d) x2) h fun y11 h=>?_
   refine q7w ?_
   refine q80 (v:=y11.2.2.2.1) (by kernel_rfl) h ?_ ?_
   ·
    intro h
    refine q7s (q7i ?_)
    refine q7z (r:=r) (F:=q2a2 d self1 self2) (S:=(fun z=>⟨[(2,.ptr 0 0),(3,.ptr 1 0),(8,.ptr 2 0),(10,.rs 3),(11,.ptr 4 0),(12,.ptr 5 0),(47,.fz Riii z.1),(48,i6 z.2.1),(49,i6 z.2.2.1)],[.cells [.fz Riii z.2.2.2.1],.cells [i6 z.2.2.2.2.1,i6 z.2.2.2.2.2.1],.cells [i6 z.2.2.2.2.2.2.1,i6 z.2.2.2.2.2.2.2.1,i6 z.2.2.2.2.2.2.2.2.1],.rows Riii z.2.2.2.2.2.2.2.2.2.1,.cells [i6 z.2.2.2.2.2.2.2.2.2.2.1,i6 z.2.2.2.2.2.2.2.2.2.2.2.1,i6 z.2.2.2.2.2.2.2.2.2.2.2.2.1],.cells [i6 z.2.2.2.2.2.2.2.2.2.2.2.2.2.1,i6 z.2.2.2.2.2.2.2.2.2.2.2.2.2.2]]⟩:List Diii×Int×Int×List Diii×Int×Int×Int×Int×Int×List Diii×Int×Int×Int×Int×Int→St)) ?_ ?_
    ·
     intro z h
     unfold q2a2 at h
     refine q81 hm hT hC (q2a1 (q28a d) z) h ?_
     intro y24 h
     exact hn2 _ h
    intro hj3
    refine q7x ?_
    refine q342 hm hT hC (q29r (q28a d) y11) h fun y12 h=>?_
    refine q342 hm hT hC (q29v (q28a d) y12) h fun y13 h=>?_
    refine q7w ?_
    refine q342 hm hT hC (q29z (q28a d) y13) h fun y14 h=>?_
    refine q80 (v:=y14.2.2.2.1) (by kernel_rfl) h ?_ ?_
    ·
     intro h
     refine q7u (q7j (q7n ?_))
     refine qcs (s:=⟨[(2,.ptr 0 0),(3,.ptr 1 0),(8,.ptr 2 0),(10,.rs 3),(11,.ptr 4 0),(12,.ptr 5 0),(47,.fz Riii y14.1),(48,.int .i64 y14.2.1),(49,.int .i64 y14.2.2.1)],[.cells [.fz Riii y14.2.2.2.2.1],.cells [.int .i64 y14.2.2.2.2.2.1,.int .i64 y14.2.2.2.2.2.2.1],.cells [.int .i64 y14.2.2.2.2.2.2.2.1,.int .i64 y14.2.2.2.2.2.2.2.2.1,.int .i64 y14.2.2.2.2.2.2.2.2.2.1],.rows Riii y14.2.2.2.2.2.2.2.2.2.2.1,.cells [.int .i64 y14.2.2.2.2.2.2.2.2.2.2.2.1,.int .i64 y14.2.2.2.2.2.2.2.2.2.2.2.2.1,.int .i64 y14.2.2.2.2.2.2.2.2.2.2.2.2.2.1],.cells [.int .i64 y14.2.2.2.2.2.2.2.2.2.2.2.2.2.2.1,.int .i64 y14.2.2.2.2.2.2.2.2.2.2.2.2.2.2.2.1]]⟩) [14,15,66] (by kernel_rfl) ?_
     exact hj3 _ h
    ·
     intro h
     refine q7s (q7i ?_)
     refine q342 hm hT hC (q2a6 (q28a d) y14) h fun y15 h=>?_
     refine q7z (r:=r) (F:=q2ay d self1 self2) (S:=(fun z=>⟨[(2,.ptr 0 0),(3,.ptr 1 0),(8,.ptr 2 0),(10,.rs 3),(11,.ptr 4 0),(12,.ptr 5 0),(14,.ptr 6 0),(15,.ptr 7 0),(18,i6 z.1),(47,.fz Riii z.2.1),(48,i6 z.2.2.1),(49,i6 z.2.2.2.1)],[.cells [.fz Riii z.2.2.2.2.1],.cells [i6 z.2.2.2.2.2.1,i6 z.2.2.2.2.2.2.1],.cells [i6 z.2.2.2.2.2.2.2.1,i6 z.2.2.2.2.2.2.2.2.1,i6 z.2.2.2.2.2.2.2.2.2.1],.rows Riii z.2.2.2.2.2.2.2.2.2.2.1,.cells [i6 z.2.2.2.2.2.2.2.2.2.2.2.1,i6 z.2.2.2.2.2.2.2.2.2.2.2.2.1,i6 z.2.2.2.2.2.2.2.2.2.2.2.2.2.1],.cells [i6 z.2.2.2.2.2.2.2.2.2.2.2.2.2.2.1,i6 z.2.2.2.2.2.2.2.2.2.2.2.2.2.2.2.1],.cells [i6 z.2.2.2.2.2.2.2.2.2.2.2.2.2.2.2.2.1,i6 z.2.2.2.2.2.2.2.2.2.2.2.2.2.2.2.2.2.1,i6 z.2.2.2.2.2.2.2.2.2.2.2.2.2.2.2.2.2.2.1],.cells [i6 z.2.2.2.2.2.2.2.2.2.2.2.2.2.2.2.2.2.2.2.1,i6 z.2.2.2.2.2.2.2.2.2.2.2.2.2.2.2.2.2.2.2.2]]⟩:Int×List Diii×Int×Int×List Diii×Int×Int×Int×Int×Int×List Diii×Int×Int×Int×Int×Int×Int×Int×Int×Int×Int→St)) ?_ ?_
     ·
      intro z h
      unfold q2ay at h
      refine q7z (r:=r) (F:=q2ax d self1 self2) (S:=(fun z=>⟨[(2,.ptr 0 0),(3,.ptr 1 0),(8,.ptr 2 0),(10,.rs 3),(11,.ptr 4 0),(12,.ptr 5 0),(14,.ptr 6 0),(15,.ptr 7 0),(18,i6 z.1),(47,.fz Riii z.2.1),(48,i6 z.2.2.1),(49,i6 z.2.2.2.1)],[.cells [.fz Riii z.2.2.2.2.1],.cells [i6 z.2.2.2.2.2.1,i6 z.2.2.2.2.2.2.1],.cells [i6 z.2.2.2.2.2.2.2.1,i6 z.2.2.2.2.2.2.2.2.1,i6 z.2.2.2.2.2.2.2.2.2.1],.rows Riii z.2.2.2.2.2.2.2.2.2.2.1,.cells [i6 z.2.2.2.2.2.2.2.2.2.2.2.1,i6 z.2.2.2.2.2.2.2.2.2.2.2.2.1,i6 z.2.2.2.2.2.2.2.2.2.2.2.2.2.1],.cells [i6 z.2.2.2.2.2.2.2.2.2.2.2.2.2.2.1,i6 z.2.2.2.2.2.2.2.2.2.2.2.2.2.2.2.1],.cells [i6 z.2.2.2.2.2.2.2.2.2.2.2.2.2.2.2.2.1,i6 z.2.2.2.2.2.2.2.2.2.2.2.2.2.2.2.2.2.1,i6 z.2.2.2.2.2.2.2.2.2.2.2.2.2.2.2.2.2.2.1],.cells [i6 z.2.2.2.2.2.2.2.2.2.2.2.2.2.2.2.2.2.2.2.1,i6 z.2.2.2.2.2.2.2.2.2.2.2.2.2.2.2.2.2.2.2.2]]⟩:Int×List Diii×Int×Int×List Diii×Int×Int×Int×Int×Int×List Diii×Int×Int×Int×Int×Int×Int×Int×Int×Int×Int→St)) ?_ ?_
      ·
       intro z h
       unfold q2ax at h
       refine q342 hm hT hC (q2au (q28a d) z) h fun y22 h=>?_
       refine q80 (v:=y22.2.2.2.1) (by kernel_rfl) h ?_ ?_
       ·
        intro h
        refine q81 hm hT hC (q2aw (q28a d) y22) h ?_
        intro y23 h
        refine q7l ?_
        exact hj3 _ h
       ·
        intro h
        refine q7s (q7l ?_)
        refine qcs (s:=⟨[(2,.ptr 0 0),(3,.ptr 1 0),(8,.ptr 2 0),(10,.rs 3),(11,.ptr 4 0),(12,.ptr 5 0),(47,.fz Riii y22.1),(48,.int .i64 y22.2.1),(49,.int .i64 y22.2.2.1),(84,.bool y22.2.2.2.1)],[.cells [.fz Riii y22.2.2.2.2.1],.cells [.int .i64 y22.2.2.2.2.2.1,.int .i64 y22.2.2.2.2.2.2.1],.cells [.int .i64 y22.2.2.2.2.2.2.2.1,.int .i64 y22.2.2.2.2.2.2.2.2.1,.int .i64 y22.2.2.2.2.2.2.2.2.2.1],.rows Riii y22.2.2.2.2.2.2.2.2.2.2.1,.cells [.int .i64 y22.2.2.2.2.2.2.2.2.2.2.2.1,.int .i64 y22.2.2.2.2.2.2.2.2.2.2.2.2.1,.int .i64 y22.2.2.2.2.2.2.2.2.2.2.2.2.2.1],.cells [.int .i64 y22.2.2.2.2.2.2.2.2.2.2.2.2.2.2.1,.int .i64 y22.2.2.2.2.2.2.2.2.2.2.2.2.2.2.2.1]]⟩) [14,15] (by kernel_rfl) ?_
        refine qcs (s:=⟨[(2,.ptr 0 0),(3,.ptr 1 0),(8,.ptr 2 0),(10,.rs 3),(11,.ptr 4 0),(12,.ptr 5 0),(47,.fz Riii y22.1),(48,.int .i64 y22.2.1),(49,.int .i64 y22.2.2.1)],[.cells [.fz Riii y22.2.2.2.2.1],.cells [.int .i64 y22.2.2.2.2.2.1,.int .i64 y22.2.2.2.2.2.2.1],.cells [.int .i64 y22.2.2.2.2.2.2.2.1,.int .i64 y22.2.2.2.2.2.2.2.2.1,.int .i64 y22.2.2.2.2.2.2.2.2.2.1],.rows Riii y22.2.2.2.2.2.2.2.2.2.2.1,.cells [.int .i64 y22.2.2.2.2.2.2.2.2.2.2.2.1,.int .i64 y22.2.2.2.2.2.2.2.2.2.2.2.2.1,.int .i64 y22.2.2.2.2.2.2.2.2.2.2.2.2.2.1],.cells [.int .i64 y22.2.2.2.2.2.2.2.2.2.2.2.2.2.2.1,.int .i64 y22.2.2.2.2.2.2.2.2.2.2.2.2.2.2.2.1]]⟩) [84] (by kernel_rfl) ?_
        exact hj3 _ h
      intro hj5
      refine q342 hm hT hC (q2ag (q28a d) z) h fun y18 h=>?_
      refine q80 (v:=y18.2.2.2.2.1) (by kernel_rfl) h ?_ ?_
      ·
       intro h
       refine q342 hm hT hC (q2ak (q28a d) y18) h fun y19 h=>?_
       refine q342 hm hT hC (q2ao (q28a d) y19) h fun y20 h=>?_
       refine q80 (v:=y20.2.2.2.2.1) (by kernel_rfl) h ?_ ?_
       ·
        intro h
        refine q81 hm hT hC (q2aq (q28a d) y20) h ?_
        intro y21 h
        exact hj5 _ h
       ·
        intro h
        refine q7s ?_
        refine qcs (s:=⟨[(2,.ptr 0 0),(3,.ptr 1 0),(8,.ptr 2 0),(10,.rs 3),(11,.ptr 4 0),(12,.ptr 5 0),(14,.ptr 6 0),(15,.ptr 7 0),(18,.int .i64 y20.1),(47,.fz Riii y20.2.1),(48,.int .i64 y20.2.2.1),(49,.int .i64 y20.2.2.2.1)],[.cells [.fz Riii y20.2.2.2.2.2.1],.cells [.int .i64 y20.2.2.2.2.2.2.1,.int .i64 y20.2.2.2.2.2.2.2.1],.cells [.int .i64 y20.2.2.2.2.2.2.2.2.1,.int .i64 y20.2.2.2.2.2.2.2.2.2.1,.int .i64 y20.2.2.2.2.2.2.2.2.2.2.1],.rows Riii y20.2.2.2.2.2.2.2.2.2.2.2.1,.cells [.int .i64 y20.2.2.2.2.2.2.2.2.2.2.2.2.1,.int .i64 y20.2.2.2.2.2.2.2.2.2.2.2.2.2.1,.int .i64 y20.2.2.2.2.2.2.2.2.2.2.2.2.2.2.1],.cells [.int .i64 y20.2.2.2.2.2.2.2.2.2.2.2.2.2.2.2.1,.int .i64 y20.2.2.2.2.2.2.2.2.2.2.2.2.2.2.2.2.1],.cells [.int .i64 y20.2.2.2.2.2.2.2.2.2.2.2.2.2.2.2.2.2.1,.int .i64 y20.2.2.2.2.2.2.2.2.2.2.2.2.2.2.2.2.2.2.1,.int .i64 y20.2.2.2.2.2.2.2.2.2.2.2.2.2.2.2.2.2.2.2.1],.cells [.int .i64 y20.2.2.2.2.2.2.2.2.2.2.2.2.2.2.2.2.2.2.2.2.1,.int .i64 y20.2.2.2.2.2.2.2.2.2.2.2.2.2.2.2.2.2.2.2.2.2]]⟩) [82] (by kernel_rfl) ?_
        exact hj5 _ h
      ·
       intro h
       refine q7s ?_
       refine qcs (s:=⟨[(2,.ptr 0 0),(3,.ptr 1 0),(8,.ptr 2 0),(10,.rs 3),(11,.ptr 4 0),(12,.ptr 5 0),(14,.ptr 6 0),(15,.ptr 7 0),(18,.int .i64 y18.1),(47,.fz Riii y18.2.1),(48,.int .i64 y18.2.2.1),(49,.int .i64 y18.2.2.2.1)],[.cells [.fz Riii y18.2.2.2.2.2.1],.cells [.int .i64 y18.2.2.2.2.2.2.1,.int .i64 y18.2.2.2.2.2.2.2.1],.cells [.int .i64 y18.2.2.2.2.2.2.2.2.1,.int .i64 y18.2.2.2.2.2.2.2.2.2.1,.int .i64 y18.2.2.2.2.2.2.2.2.2.2.1],.rows Riii y18.2.2.2.2.2.2.2.2.2.2.2.1,.cells [.int .i64 y18.2.2.2.2.2.2.2.2.2.2.2.2.1,.int .i64 y18.2.2.2.2.2.2.2.2.2.2.2.2.2.1,.int .i64 y18.2.2.2.2.2.2.2.2.2.2.2.2.2.2.1],.cells [.int .i64 y18.2.2.2.2.2.2.2.2.2.2.2.2.2.2.2.1,.int .i64 y18.2.2.2.2.2.2.2.2.2.2.2.2.2.2.2.2.1],.cells [.int .i64 y18.2.2.2.2.2.2.2.2.2.2.2.2.2.2.2.2.2.1,.int .i64 y18.2.2.2.2.2.2.2.2.2.2.2.2.2.2.2.2.2.2.1,.int .i64 y18.2.2.2.2.2.2.2.2.2.2.2.2.2.2.2.2.2.2.2.1],.cells [.int .i64 y18.2.2.2.2.2.2.2.2.2.2.2.2.2.2.2.2.2.2.2.2.1,.int .i64 y18.2.2.2.2.2.2.2.2.2.2.2.2.2.2.2.2.2.2.2.2.2]]⟩) [74] (by kernel_rfl) ?_
       exact hj5 _ h
     intro hj4
     refine q342 hm hT hC (q2aa (q28a d) y15) h fun y16 h=>?_
     refine q80 (v:=y16.2.2.2.2.1) (by kernel_rfl) h ?_ ?_
     ·
      intro h
      refine q81 hm hT hC (q2ac (q28a d) y16) h ?_
      intro y17 h
      exact hj4 _ h
     ·
      intro h
      refine q7s ?_
      refine qcs (s:=⟨[(2,.ptr 0 0),(3,.ptr 1 0),(8,.ptr 2 0),(10,.rs 3),(11,.ptr 4 0),(12,.ptr 5 0),(14,.ptr 6 0),(15,.ptr 7 0),(18,.int .i64 y16.1),(47,.fz Riii y16.2.1),(48,.int .i64 y16.2.2.1),(49,.int .i64 y16.2.2.2.1)],[.cells [.fz Riii y16.2.2.2.2.2.1],.cells [.int .i64 y16.2.2.2.2.2.2.1,.int .i64 y16.2.2.2.2.2.2.2.1],.cells [.int .i64 y16.2.2.2.2.2.2.2.2.1,.int .i64 y16.2.2.2.2.2.2.2.2.2.1,.int .i64 y16.2.2.2.2.2.2.2.2.2.2.1],.rows Riii y16.2.2.2.2.2.2.2.2.2.2.2.1,.cells [.int .i64 y16.2.2.2.2.2.2.2.2.2.2.2.2.1,.int .i64 y16.2.2.2.2.2.2.2.2.2.2.2.2.2.1,.int .i64 y16.2.2.2.2.2.2.2.2.2.2.2.2.2.2.1],.cells [.int .i64 y16.2.2.2.2.2.2.2.2.2.2.2.2.2.2.2.1,.int .i64 y16.2.2.2.2.2.2.2.2.2.2.2.2.2.2.2.2.1],.cells [.int .i64 y16.2.2.2.2.2.2.2.2.2.2.2.2.2.2.2.2.2.1,.int .i64 y16.2.2.2.2.2.2.2.2.2.2.2.2.2.2.2.2.2.2.1,.int .i64 y16.2.2.2.2.2.2.2.2.2.2.2.2.2.2.2.2.2.2.2.1],.cells [.int .i64 y16.2.2.2.2.2.2.2.2.2.2.2.2.2.2.2.2.2.2.2.2.1,.int .i64 y16.2.2.2.2.2.2.2.2.2.2.2.2.2.2.2.2.2.2.2.2.2]]⟩) [69] (by kernel_rfl) ?_
      exact hj4 _ h
   ·
    intro h
    refine q7u (q7j (q7j (q7n (q7i (q7w ?_)))))
    refine q342 hm hT hC (q2b2 (q28a d) y11) h fun y25 h=>?_
    refine q80 (v:=y25.1) (by kernel_rfl) h ?_ ?_
    ·
     intro h
     refine q342 hm hT hC (q2b4 (q28a d) y25) h fun y26 h=>?_
     refine q7v (q7k (q7m (q7k (q7m ?_))))
     cases h
     exact (hend _ (by kernel_rfl)).2
    ·
     intro h
     refine q7s (q7i ?_)
     refine q342 hm hT hC (q2b6 (q28a d) y25) h fun y27 h=>?_
     refine q81 hm hT hC (q2b8 (q28a d) y27) h ?_
     intro y28 h
     refine q7l ?_
     exact hn1 _ h
abbrev q2bd:List Pk:=[.row qj5 true,.row Rii true,.row Rii true]
abbrev q2be:Type:=qj6×Dii×Dii×Unit
abbrev q2bf:Type:=Int
def q2bg (r:q2bf):LV×List Ob:=(.int .i64 r,[])
def q2bh (F:q2be→Option q2bf):Go.Tx.Spec:=⟨68,q2bd,q2bf,F,q2bg⟩
abbrev q2bi:Type:=(q14r→Option q14s)×(qp8→Option qp9)×(qmq→Option qmr)×Unit
def q2bj (d:Nat):q2bi:=(q161 d,qpd d,qmv d,())
def q2bk (C:q2bi):List Go.Tx.Spec:=[q14u C.1,qpb C.2.1,qmt C.2.2.1]
abbrev q2bl:Type:=List Diii×Int×Int×Int×Int
def q2bm (v:q2bl):St:=⟨[(0,.agg [.fz Riii v.1]),(1,.agg [i6 v.2.1,i6 v.2.2.1]),(2,.agg [i6 v.2.2.2.1,i6 v.2.2.2.2])],[]⟩
abbrev q2bn:Type:=List Diii×Int×Int×Int×Int
def q2bo (v:q2bn):St:=⟨[(3,.ptr 0 0),(4,.ptr 1 0),(5,.ptr 2 0)],[.cells [.fz Riii v.1],.cells [i6 v.2.1,i6 v.2.2.1],.cells [i6 v.2.2.2.1,i6 v.2.2.2.2]]⟩
def q2bp (C:q2bi) (v:q2bl):Dt q2bn:=(Dt.ret (v.1,v.2.1,v.2.2.1,v.2.2.2.1,v.2.2.2.2))
abbrev q35c {V Y:Type}:=@rg q2bi V Y tysT (fun C=>(orc (q2bk C))) 31
theorem q2bq C v:q35c (regO (qct f68) 0) false [(3,(.box [.val Riii])),(4,.any),(5,.any)] q2bm q2bp q2bo C v:=rgI (by kernel_rfl)
abbrev q2br:Type:=Int×Int×Int×Int×Int
def q2bs (v:q2br):St:=⟨[(4,.ptr 0 0),(5,.ptr 1 0),(7,i6 v.1)],[.cells [i6 v.2.1,i6 v.2.2.1],.cells [i6 v.2.2.2.1,i6 v.2.2.2.2]]⟩
def q2bt (C:q2bi) (v:q2bn):Dt q2br:=(Dt.bnd (C.2.1 ((v.1,()),())) fun r1=>(Dt.ret (r1,v.2.1,v.2.2.1,v.2.2.2.1,v.2.2.2.2)))
theorem q2bu C v:q35c (regO (qct f68) 1) false (an [4,5,7]) q2bo q2bt q2bs C v:=rgI (by kernel_rfl)
abbrev q2bv:Type:=Int×Bool×Int×Int×Int×Int
def q2bw (v:q2bv):St:=⟨[(4,.ptr 0 0),(5,.ptr 1 0),(7,i6 v.1),(13,.bool v.2.1)],[.cells [i6 v.2.2.1,i6 v.2.2.2.1],.cells [i6 v.2.2.2.2.1,i6 v.2.2.2.2.2]]⟩
def q2bx (C:q2bi) (v:q2br):Dt q2bv:=(Dt.ret (v.1,(v.1 != (0:Int)),v.2.1,v.2.2.1,v.2.2.2.1,v.2.2.2.2))
theorem q2by C v:q35c (regO (qct f68) 2) false (an [4,5,7,13]) q2bs q2bx q2bw C v:=rgI (by kernel_rfl)
abbrev q2bz:Type:=Int
def q2c0 (v:q2bz):St:=⟨[(6,i6 v)],[]⟩
def q2c1 (C:q2bi) (v:q2bv):Dt q2bz:=(Dt.ret v.1)
theorem q2c2 C v:q35c (regO (qct f68) 3) false [(6,.any)] q2bw q2c1 q2c0 C v:=rgI (by kernel_rfl)
abbrev q2c3:Type:=Bool×Int×Int×Int×Int
def q2c4 (v:q2c3):St:=⟨[(4,.ptr 0 0),(5,.ptr 1 0),(22,.bool v.1)],[.cells [i6 v.2.1,i6 v.2.2.1],.cells [i6 v.2.2.2.1,i6 v.2.2.2.2]]⟩
def q2c5 (C:q2bi) (v:q2bv):Dt q2c3:=(Dt.bnd (C.2.2.1 ((v.2.2.1,v.2.2.2.1,()),())) fun r1=>(Dt.ite (r1 != (0:Int)) (Dt.ret (true,v.2.2.1,v.2.2.2.1,v.2.2.2.2.1,v.2.2.2.2.2)) (Dt.bnd (C.2.2.1 ((v.2.2.2.2.1,v.2.2.2.2.2,()),())) fun r2=>(Dt.ret ((r2 != (0:Int)),v.2.2.1,v.2.2.2.1,v.2.2.2.2.1,v.2.2.2.2.2)))))
theorem q2c6 C v:q35c (regO (qct f68) 4) false (an [4,5,22]) q2bw q2c5 q2c4 C v:=rgI (by kernel_rfl)
def q2c7 (C:q2bi) (v:q2c3):Dt q2bz:=(Dt.ret (8:Int))
theorem q2c8 C v:q35c (regO (qct f68) 5) false [(6,.any)] q2c4 q2c7 q2c0 C v:=rgI (by kernel_rfl)
abbrev q2c9:Type:=Int
def q2ca (v:q2c9):St:=⟨[(8,i6 v)],[]⟩
def q2cb (C:q2bi) (v:q2c3):Dt q2c9:=(Dt.bnd (C.1 ((v.2.1,v.2.2.1,()),(v.2.2.2.1,v.2.2.2.2,()),())) fun r1=>(Dt.ret r1.1))
theorem q2cc C v:q35c (regO (qct f68) 6) false [(8,.any)] q2c4 q2cb q2ca C v:=rgI (by kernel_rfl)
abbrev q2cd:Type:=Bool
def q2ce (v:q2cd):St:=⟨[(30,.bool v)],[]⟩
def q2cf (C:q2bi) (v:q2c9):Dt q2cd:=(Dt.ret (decide (v > (0:Int))))
theorem q2cg C v:q35c (regO (qct f68) 7) false [(30,.any)] q2ca q2cf q2ce C v:=rgI (by kernel_rfl)
def q2ch (C:q2bi) (v:q2cd):Dt q2bz:=(Dt.ret (2:Int))
theorem q2ci C v:q35c (regO (qct f68) 8) false [(6,.any)] q2ce q2ch q2c0 C v:=rgI (by kernel_rfl)
def q2cj (C:q2bi) (v:q2cd):Dt q2bz:=(Dt.ret (0:Int))
theorem q2ck C v:q35c (regO (qct f68) 9) false [(6,.any)] q2ce q2cj q2c0 C v:=rgI (by kernel_rfl)
def q2cl (d:Nat) (x:q2be):Option q2bf :=
 (q2bp (q2bj d) (x.1.1,x.2.1.1,x.2.1.2.1,x.2.2.1.1,x.2.2.1.2.1)).eval fun y0 =>
 (q2bt (q2bj d) y0).eval fun y1 =>
 (q2bx (q2bj d) y1).eval fun y2 =>
 bif y2.2.1 then ((q2c1 (q2bj d) y2).eval fun y3 =>
 some y3) else ((q2c5 (q2bj d) y2).eval fun y4 =>
 bif y4.1 then ((q2c7 (q2bj d) y4).eval fun y5 =>
 some y5) else ((q2cb (q2bj d) y4).eval fun y6 =>
 (q2cf (q2bj d) y6).eval fun y7 =>
 bif y7 then ((q2ch (q2bj d) y7).eval fun y8 =>
 some y8) else ((q2cj (q2bj d) y7).eval fun y9 =>
 some y9)))
theorem q2cm (d:Nat):COK prog (q2bh (q2cl d)):=by
 have hm:prog.follows .mixedOrders=true:=mixed
 have hT:=tys
 have hC0:OrcOK prog (orc (q2bk (q2bj d))):=qcn (by
  intro S hS
  simp only [q2bk,List.mem_cons,List.not_mem_nil,or_false] at hS
  rcases hS with rfl | rfl | rfl
  · exact q162 d
  · exact qpf d
  · exact qmx d)
 have hC:OrcOK prog (orc (q2bk (q2bj d))):=hC0
 refine q8c (c:=qct f68) (fn:=f68) hT (by kernel_rfl) (by kernel_rfl) (by decide) fun x r h w0 φ0 Q hend=>?_
 replace h:q2cl d x=some r:=h
 unfold q2cl at h
 show Run prog w0 φ0 31 (qct f68) ⟨[(0,.agg [.fz Riii x.1.1]),(1,.agg [.int .i64 x.2.1.1,.int .i64 x.2.1.2.1]),(2,.agg [.int .i64 x.2.2.1.1,.int .i64 x.2.2.1.2.1])],[]⟩ Q
 refine q342 hm hT hC (q2bq (q2bj d) (x.1.1,x.2.1.1,x.2.1.2.1,x.2.2.1.1,x.2.2.1.2.1)) h fun y0 h=>?_
 refine q7w ?_
 refine q342 hm hT hC (q2bu (q2bj d) y0) h fun y1 h=>?_
 refine q342 hm hT hC (q2by (q2bj d) y1) h fun y2 h=>?_
 refine q80 (v:=y2.2.1) (by kernel_rfl) h ?_ ?_
 ·
  intro h
  refine q342 hm hT hC (q2c2 (q2bj d) y2) h fun y3 h=>?_
  refine q7v (q7k ?_)
  cases h
  exact (hend _ (by kernel_rfl)).2
 ·
  intro h
  refine q7s (q7i (q7w ?_))
  refine q342 hm hT hC (q2c6 (q2bj d) y2) h fun y4 h=>?_
  refine q80 (v:=y4.1) (by kernel_rfl) h ?_ ?_
  ·
   intro h
   refine q342 hm hT hC (q2c8 (q2bj d) y4) h fun y5 h=>?_
   refine q7v (q7k ?_)
   cases h
   exact (hend _ (by kernel_rfl)).2
  ·
   intro h
   refine q7s (q7i (q7w ?_))
   refine q342 hm hT hC (q2cc (q2bj d) y4) h fun y6 h=>?_
   refine q342 hm hT hC (q2cg (q2bj d) y6) h fun y7 h=>?_
   refine q80 (v:=y7) (by kernel_rfl) h ?_ ?_
   ·
    intro h
    refine q342 hm hT hC (q2ci (q2bj d) y7) h fun y8 h=>?_
    refine q7v (q7k ?_)
    cases h
    exact (hend _ (by kernel_rfl)).2
   ·
    intro h
    refine q7s (q7i ?_)
    refine q342 hm hT hC (q2ck (q2bj d) y7) h fun y9 h=>?_
    refine q7v ?_
    cases h
    exact (hend _ (by kernel_rfl)).2
abbrev q2cn:List Pk:=[.row Rii true,.row Rii true]
abbrev q2co:Type:=Dii×Dii×Unit
abbrev q2cp:Type:=Bool
def q2cq (r:q2cp):LV×List Ob:=(.bool r,[])
def q2cr (F:q2co→Option q2cp):Go.Tx.Spec:=⟨130,q2cn,q2cp,F,q2cq⟩
abbrev q2cs:Type:=(q14r→Option q14s)×Unit
def q2ct (d:Nat):q2cs:=(q161 d,())
def q2cu (C:q2cs):List Go.Tx.Spec:=[q14u C.1]
abbrev q2cv:Type:=Int×Int×Int×Int
def q2cw (v:q2cv):St:=⟨[(0,.agg [i6 v.1,i6 v.2.1]),(1,.agg [i6 v.2.2.1,i6 v.2.2.2])],[]⟩
abbrev q2cx:Type:=Int×Int×Int×Int
def q2cy (v:q2cx):St:=⟨[(2,.ptr 0 0),(3,.ptr 1 0)],[.cells [i6 v.1,i6 v.2.1],.cells [i6 v.2.2.1,i6 v.2.2.2]]⟩
def q2cz (C:q2cs) (v:q2cv):Dt q2cx:=(Dt.ret (v.1,v.2.1,v.2.2.1,v.2.2.2))
abbrev q35d {V Y:Type}:=@rg q2cs V Y tysT (fun C=>(orc (q2cu C))) 15
theorem q2d0 C v:q35d (regO (qct f130) 0) false (an [2,3]) q2cw q2cz q2cy C v:=rgI (by kernel_rfl)
abbrev q2d1:Type:=Int
def q2d2 (v:q2d1):St:=⟨[(5,i6 v)],[]⟩
def q2d3 (C:q2cs) (v:q2cx):Dt q2d1:=(Dt.bnd (C.1 ((v.1,v.2.1,()),(v.2.2.1,v.2.2.2,()),())) fun r1=>(Dt.ret r1.1))
theorem q2d4 C v:q35d (regO (qct f130) 1) false [(5,.any)] q2cy q2d3 q2d2 C v:=rgI (by kernel_rfl)
abbrev q2d5:Type:=Bool
def q2d6 (v:q2d5):St:=⟨[(4,.bool v)],[]⟩
def q2d7 (C:q2cs) (v:q2d1):Dt q2d5:=(Dt.ret (decide (v<(0:Int))))
theorem q2d8 C v:q35d (regO (qct f130) 2) false [(4,.any)] q2d2 q2d7 q2d6 C v:=rgI (by kernel_rfl)
def q2d9 (d:Nat) (x:q2co):Option q2cp :=
 (q2cz (q2ct d) (x.1.1,x.1.2.1,x.2.1.1,x.2.1.2.1)).eval fun y0 =>
 (q2d3 (q2ct d) y0).eval fun y1 =>
 (q2d7 (q2ct d) y1).eval fun y2 =>
 some y2
theorem q2da (d:Nat):COK prog (q2cr (q2d9 d)):=by
 have hm:prog.follows .mixedOrders=true:=mixed
 have hT:=tys
 have hC0:OrcOK prog (orc (q2cu (q2ct d))):=qcn (by
  intro S hS
  simp only [q2cu,List.mem_cons,List.not_mem_nil,or_false] at hS
  subst hS;exact q162 d)
 have hC:OrcOK prog (orc (q2cu (q2ct d))):=hC0
 refine q8c (c:=qct f130) (fn:=f130) hT (by kernel_rfl) (by kernel_rfl) (by decide) fun x r h w0 φ0 Q hend=>?_
 replace h:q2d9 d x=some r:=h
 unfold q2d9 at h
 show Run prog w0 φ0 15 (qct f130) ⟨[(0,.agg [.int .i64 x.1.1,.int .i64 x.1.2.1]),(1,.agg [.int .i64 x.2.1.1,.int .i64 x.2.1.2.1])],[]⟩ Q
 refine q342 hm hT hC (q2d0 (q2ct d) (x.1.1,x.1.2.1,x.2.1.1,x.2.1.2.1)) h fun y0 h=>?_
 refine q342 hm hT hC (q2d4 (q2ct d) y0) h fun y1 h=>?_
 refine q342 hm hT hC (q2d8 (q2ct d) y1) h fun y2 h=>?_
 refine q7v ?_
 cases h
 exact (hend _ (by kernel_rfl)).2
abbrev q2db:List Pk:=[.row qj5 true,.row Rii true,.row Rii true]
abbrev q2dc:Type:=qj6×Dii×Dii×Unit
abbrev q2dd:Type:=List qji×Int
def q2de (r:q2dd):LV×List Ob:=(.tup [.rs 0,.int .i64 r.2],[.rows qjh r.1])
def q2df (F:q2dc→Option q2dd):Go.Tx.Spec:=⟨69,q2db,q2dd,F,q2de⟩
abbrev q2dg:Type:=(q285→Option q286)×(q2be→Option q2bf)×(q2co→Option q2cp)×Unit
def q2dh (d:Nat):q2dg:=(q2bb d,q2cl d,q2d9 d,())
def q2di (C:q2dg):List Go.Tx.Spec:=[q288 C.1,q2bh C.2.1,q2cr C.2.2.1]
abbrev q2dj:Type:=List Diii×Int×Int×Int×Int
def q2dk (v:q2dj):St:=⟨[(0,.agg [.fz Riii v.1]),(1,.agg [i6 v.2.1,i6 v.2.2.1]),(2,.agg [i6 v.2.2.2.1,i6 v.2.2.2.2])],[]⟩
abbrev q2dl:Type:=List Diii×Int×Int×Int×Int
def q2dm (v:q2dl):St:=⟨[(3,.ptr 0 0),(4,.ptr 1 0),(5,.ptr 2 0)],[.cells [.fz Riii v.1],.cells [i6 v.2.1,i6 v.2.2.1],.cells [i6 v.2.2.2.1,i6 v.2.2.2.2]]⟩
def q2dn (C:q2dg) (v:q2dj):Dt q2dl:=(Dt.ret (v.1,v.2.1,v.2.2.1,v.2.2.2.1,v.2.2.2.2))
abbrev q35e {V Y:Type}:=@rg q2dg V Y tysT (fun C=>(orc (q2di C))) 62
theorem q2do C v:q35e (regO (qct f69) 0) false [(3,(.box [.val Riii])),(4,.any),(5,.any)] q2dk q2dn q2dm C v:=rgI (by kernel_rfl)
abbrev q2dp:Type:=Int×List Diii×Int×Int×Int×Int
def q2dq (v:q2dp):St:=⟨[(3,.ptr 0 0),(4,.ptr 1 0),(5,.ptr 2 0),(8,i6 v.1)],[.cells [.fz Riii v.2.1],.cells [i6 v.2.2.1,i6 v.2.2.2.1],.cells [i6 v.2.2.2.2.1,i6 v.2.2.2.2.2]]⟩
def q2dr (C:q2dg) (v:q2dl):Dt q2dp:=(Dt.bnd (C.2.1 ((v.1,()),(v.2.1,v.2.2.1,()),(v.2.2.2.1,v.2.2.2.2,()),())) fun r1=>(Dt.ret (r1,v.1,v.2.1,v.2.2.1,v.2.2.2.1,v.2.2.2.2)))
theorem q2ds C v:q35e (regO (qct f69) 1) false [(3,(.box [.val Riii])),(4,.any),(5,.any),(8,.any)] q2dm q2dr q2dq C v:=rgI (by kernel_rfl)
abbrev q2dt:Type:=Int×Bool×List Diii×Int×Int×Int×Int
def q2du (v:q2dt):St:=⟨[(3,.ptr 0 0),(4,.ptr 1 0),(5,.ptr 2 0),(8,i6 v.1),(19,.bool v.2.1)],[.cells [.fz Riii v.2.2.1],.cells [i6 v.2.2.2.1,i6 v.2.2.2.2.1],.cells [i6 v.2.2.2.2.2.1,i6 v.2.2.2.2.2.2]]⟩
def q2dv (C:q2dg) (v:q2dp):Dt q2dt:=(Dt.ret (v.1,(v.1 != (0:Int)),v.2.1,v.2.2.1,v.2.2.2.1,v.2.2.2.2.1,v.2.2.2.2.2))
theorem q2dw C v:q35e (regO (qct f69) 2) false [(3,(.box [.val Riii])),(4,.any),(5,.any),(8,.any),(19,.any)] q2dq q2dv q2du C v:=rgI (by kernel_rfl)
abbrev q2dx:Type:=Int×List qji
def q2dy (v:q2dx):St:=⟨[(6,.rs 0),(7,i6 v.1)],[.rows qjh v.2]⟩
def q2dz (C:q2dg) (v:q2dt):Dt q2dx:=(Dt.ret (v.1,([]:List qji)))
theorem q2e0 C v:q35e (regO (qct f69) 3) false [(6,(.own qjh)),(7,.any)] q2du q2dz q2dy C v:=rgI (by kernel_rfl)
abbrev q2e1:Type:=Int×Int×Int×List Diii
def q2e2 (v:q2e1):St:=⟨[(5,.ptr 0 0),(9,.rs 1),(10,i6 v.1)],[.cells [i6 v.2.1,i6 v.2.2.1],.rows Riii v.2.2.2]⟩
def q2e3 (C:q2dg) (v:q2dt):Dt q2e1:=(Dt.bnd (C.1 ((v.2.2.1,()),(v.2.2.2.1,v.2.2.2.2.1,()),())) fun r1=>(Dt.ret (r1.2,v.2.2.2.2.2.1,v.2.2.2.2.2.2,r1.1)))
theorem q2e4 C v:q35e (regO (qct f69) 4) false [(5,.any),(9,(.own Riii)),(10,.any)] q2du q2e3 q2e2 C v:=rgI (by kernel_rfl)
abbrev q2e5:Type:=Int×Bool×Int×Int×List Diii
def q2e6 (v:q2e5):St:=⟨[(5,.ptr 0 0),(9,.rs 1),(10,i6 v.1),(28,.bool v.2.1)],[.cells [i6 v.2.2.1,i6 v.2.2.2.1],.rows Riii v.2.2.2.2]⟩
def q2e7 (C:q2dg) (v:q2e1):Dt q2e5:=(Dt.ret (v.1,(v.1 != (0:Int)),v.2.1,v.2.2.1,v.2.2.2))
theorem q2e8 C v:q35e (regO (qct f69) 5) false [(5,.any),(9,(.own Riii)),(10,.any),(28,.any)] q2e2 q2e7 q2e6 C v:=rgI (by kernel_rfl)
def q2e9 (C:q2dg) (v:q2e5):Dt q2dx:=(Dt.ret (v.1,([]:List qji)))
theorem q2ea C v:q35e (regO (qct f69) 6) false [(6,(.own qjh)),(7,.any)] q2e6 q2e9 q2dy C v:=rgI (by kernel_rfl)
abbrev q2eb:Type:=Int×Int×List Diii×List qji
def q2ec (v:q2eb):St:=⟨[(5,.ptr 0 0),(9,.rs 1),(11,.rs 2)],[.cells [i6 v.1,i6 v.2.1],.rows Riii v.2.2.1,.rows qjh v.2.2.2]⟩
def q2ed (C:q2dg) (v:q2e5):Dt q2eb:=(Dt.ret (v.2.2.1,v.2.2.2.1,v.2.2.2.2,([]:List qji)))
theorem q2ee C v:q35e (regO (qct f69) 7) false [(5,.any),(9,(.own Riii)),(11,(.own qjh))] q2e6 q2ed q2ec C v:=rgI (by kernel_rfl)
abbrev q2ef:Type:=Int×Int×Int×Int×List qji×List Diii
def q2eg (v:q2ef):St:=⟨[(5,.ptr 0 0),(11,.rs 1),(30,.rs 2),(31,i6 v.1),(32,i6 v.2.1)],[.cells [i6 v.2.2.1,i6 v.2.2.2.1],.rows qjh v.2.2.2.2.1,.rows Riii v.2.2.2.2.2]⟩
def q2eh (C:q2dg) (v:q2eb):Dt q2ef:=(Dt.ret ((List.length v.2.2.1:Int),(0:Int),v.1,v.2.1,v.2.2.2,v.2.2.1))
theorem q2ei C v:q35e (regO (qct f69) 8) false [(5,.any),(11,(.own qjh)),(30,(.own Riii)),(31,.any),(32,.any)] q2ec q2eh q2eg C v:=rgI (by kernel_rfl)
abbrev q2ej:Type:=Int×Int×Bool×Int×Int×List qji×List Diii
def q2ek (v:q2ej):St:=⟨[(5,.ptr 0 0),(11,.rs 1),(30,.rs 2),(31,i6 v.1),(32,i6 v.2.1),(33,.bool v.2.2.1)],[.cells [i6 v.2.2.2.1,i6 v.2.2.2.2.1],.rows qjh v.2.2.2.2.2.1,.rows Riii v.2.2.2.2.2.2]⟩
def q2el (C:q2dg) (v:q2ef):Dt q2ej:=(Dt.ret (v.1,v.2.1,(decide (v.2.1<v.1)),v.2.2.1,v.2.2.2.1,v.2.2.2.2.1,v.2.2.2.2.2))
theorem q2em C v:q35e (regO (qct f69) 9) false [(5,.any),(11,(.own qjh)),(30,(.own Riii)),(31,.any),(32,.any),(33,.any)] q2eg q2el q2ek C v:=rgI (by kernel_rfl)
abbrev q2en:Type:=Int×Int×Int×Int×Int×List qji×Int×Int×Int×List Diii
def q2eo (v:q2en):St:=⟨[(5,.ptr 0 0),(11,.rs 1),(12,i6 v.1),(13,.ptr 2 0),(30,.rs 3),(31,i6 v.2.1),(32,i6 v.2.2.1)],[.cells [i6 v.2.2.2.1,i6 v.2.2.2.2.1],.rows qjh v.2.2.2.2.2.1,.cells [i6 v.2.2.2.2.2.2.1,i6 v.2.2.2.2.2.2.2.1,i6 v.2.2.2.2.2.2.2.2.1],.rows Riii v.2.2.2.2.2.2.2.2.2]⟩
def q2ep (C:q2dg) (v:q2ej):Dt q2en:=(Dt.ite (inB v.2.1 (List.length v.2.2.2.2.2.2)) (Dt.ret (v.2.1,v.1,v.2.1,v.2.2.2.1,v.2.2.2.2.1,v.2.2.2.2.2.1,(elt ziii v.2.2.2.2.2.2 (v.2.1).toNat).1,(elt ziii v.2.2.2.2.2.2 (v.2.1).toNat).2.1,(elt ziii v.2.2.2.2.2.2 (v.2.1).toNat).2.2.1,v.2.2.2.2.2.2)) Dt.fail)
theorem q2eq C v:q35e (regO (qct f69) 10) false [(5,.any),(11,(.own qjh)),(12,.any),(13,.any),(30,(.own Riii)),(31,.any),(32,.any)] q2ek q2ep q2eo C v:=rgI (by kernel_rfl)
abbrev q2er:Type:=Int×Int×Int×Bool×Int×Int×List qji×Int×Int×Int×List Diii
def q2es (v:q2er):St:=⟨[(5,.ptr 0 0),(11,.rs 1),(12,i6 v.1),(13,.ptr 2 0),(30,.rs 3),(31,i6 v.2.1),(32,i6 v.2.2.1),(38,.bool v.2.2.2.1)],[.cells [i6 v.2.2.2.2.1,i6 v.2.2.2.2.2.1],.rows qjh v.2.2.2.2.2.2.1,.cells [i6 v.2.2.2.2.2.2.2.1,i6 v.2.2.2.2.2.2.2.2.1,i6 v.2.2.2.2.2.2.2.2.2.1],.rows Riii v.2.2.2.2.2.2.2.2.2.2]⟩
def q2et (C:q2dg) (v:q2en):Dt q2er:=(Dt.ret (v.1,v.2.1,v.2.2.1,(decide (v.1 > (0:Int))),v.2.2.2.1,v.2.2.2.2.1,v.2.2.2.2.2.1,v.2.2.2.2.2.2.1,v.2.2.2.2.2.2.2.1,v.2.2.2.2.2.2.2.2.1,v.2.2.2.2.2.2.2.2.2))
theorem q2eu C v:q35e (regO (qct f69) 11) false [(5,.any),(11,(.own qjh)),(12,.any),(13,.any),(30,(.own Riii)),(31,.any),(32,.any),(38,.any)] q2eo q2et q2es C v:=rgI (by kernel_rfl)
abbrev q2ev:Type:=Int×Int×Int×Bool×Int×Int×List qji×Int×Int×Int×List Diii
def q2ew (v:q2ev):St:=⟨[(5,.ptr 0 0),(11,.rs 1),(12,i6 v.1),(13,.ptr 2 0),(30,.rs 3),(31,i6 v.2.1),(32,i6 v.2.2.1),(43,.bool v.2.2.2.1)],[.cells [i6 v.2.2.2.2.1,i6 v.2.2.2.2.2.1],.rows qjh v.2.2.2.2.2.2.1,.cells [i6 v.2.2.2.2.2.2.2.1,i6 v.2.2.2.2.2.2.2.2.1,i6 v.2.2.2.2.2.2.2.2.2.1],.rows Riii v.2.2.2.2.2.2.2.2.2.2]⟩
def q2ex (C:q2dg) (v:q2er):Dt q2ev:=(Dt.bnd (C.2.2.1 ((v.2.2.2.2.2.2.2.1,v.2.2.2.2.2.2.2.2.1,()),(v.2.2.2.2.1,v.2.2.2.2.2.1,()),())) fun r1=>(Dt.ret (v.1,v.2.1,v.2.2.1,(!r1),v.2.2.2.2.1,v.2.2.2.2.2.1,v.2.2.2.2.2.2.1,v.2.2.2.2.2.2.2.1,v.2.2.2.2.2.2.2.2.1,v.2.2.2.2.2.2.2.2.2.1,v.2.2.2.2.2.2.2.2.2.2)))
theorem q2ey C v:q35e (regO (qct f69) 12) false [(5,.any),(11,(.own qjh)),(12,.any),(13,.any),(30,(.own Riii)),(31,.any),(32,.any),(43,.any)] q2es q2ex q2ew C v:=rgI (by kernel_rfl)
def q2ez (C:q2dg) (v:q2ef):Dt q2dx:=(Dt.ret ((0:Int),v.2.2.2.2.1))
theorem q2f0 C v:q35e (regO (qct f69) 16) false [(6,(.own qjh)),(7,.any)] q2eg q2ez q2dy C v:=rgI (by kernel_rfl)
def q2f1  (d:Nat)  (z:Int×Int×Int×Int×List qji×List Diii):Option (q2dd) :=
 (q2ez (q2dh d) z).eval fun y16 =>
 some (y16.2,y16.1)
abbrev q2f2:Type:=Int×Int×Int×Int×List qji×Int×Int×Int×List Diii
def q2f3 (v:q2f2):St:=⟨[(5,.ptr 0 0),(11,.rs 1),(13,.ptr 2 0),(30,.rs 3),(31,i6 v.1),(32,i6 v.2.1)],[.cells [i6 v.2.2.1,i6 v.2.2.2.1],.rows qjh v.2.2.2.2.1,.cells [i6 v.2.2.2.2.2.1,i6 v.2.2.2.2.2.2.1,i6 v.2.2.2.2.2.2.2.1],.rows Riii v.2.2.2.2.2.2.2.2]⟩
def q2f4 (C:q2dg) (v:q2ev):Dt q2f2:=(Dt.ite (inB (IntKind.wrap .i64 (v.1 - (1:Int))) (List.length v.2.2.2.2.2.2.1)) (Dt.ret (v.2.1,v.2.2.1,v.2.2.2.2.1,v.2.2.2.2.2.1,(List.set v.2.2.2.2.2.2.1 ((IntKind.wrap .i64 (v.1 - (1:Int)))).toNat ((elt qjj v.2.2.2.2.2.2.1 ((IntKind.wrap .i64 (v.1 - (1:Int)))).toNat).1,(elt qjj v.2.2.2.2.2.2.1 ((IntKind.wrap .i64 (v.1 - (1:Int)))).toNat).2.1,v.2.2.2.2.2.2.2.1,v.2.2.2.2.2.2.2.2.1,(elt qjj v.2.2.2.2.2.2.1 ((IntKind.wrap .i64 (v.1 - (1:Int)))).toNat).2.2.2.2.1,())),v.2.2.2.2.2.2.2.1,v.2.2.2.2.2.2.2.2.1,v.2.2.2.2.2.2.2.2.2.1,v.2.2.2.2.2.2.2.2.2.2)) Dt.fail)
theorem q2f5 C v:q35e (regO (qct f69) 13) false [(5,.any),(11,(.own qjh)),(13,.any),(30,(.own Riii)),(31,.any),(32,.any)] q2ew q2f4 q2f3 C v:=rgI (by kernel_rfl)
def q2f6 (C:q2dg) (v:q2f2):Dt q2ef:=(Dt.ite (apB (List.length v.2.2.2.2.1) (List.length ([(v.2.2.2.2.2.1,v.2.2.2.2.2.2.1,v.2.2.1,v.2.2.2.1,v.2.2.2.2.2.2.2.1,())]:List qji))) (Dt.ret (v.1,v.2.1,v.2.2.1,v.2.2.2.1,(v.2.2.2.2.1++([(v.2.2.2.2.2.1,v.2.2.2.2.2.2.1,v.2.2.1,v.2.2.2.1,v.2.2.2.2.2.2.2.1,())]:List qji)),v.2.2.2.2.2.2.2.2)) Dt.fail)
theorem q2f7 C v:q35e (regO (qct f69) 14) false [(5,.any),(11,(.own qjh)),(30,(.own Riii)),(31,.any),(32,.any)] q2f3 q2f6 q2eg C v:=rgI (by kernel_rfl)
def q2f8 (C:q2dg) (v:q2ef):Dt q2ef:=(Dt.ret (v.1,(IntKind.wrap .i64 (v.2.1+(1:Int))),v.2.2.1,v.2.2.2.1,v.2.2.2.2.1,v.2.2.2.2.2))
theorem q2f9 C v:q35e (regO (qct f69) 15) false [(5,.any),(11,(.own qjh)),(30,(.own Riii)),(31,.any),(32,.any)] q2eg q2f8 q2eg C v:=rgI (by kernel_rfl)
def q2fa  (d:Nat) (self2:(Int×Int×Int×Int×List qji×List Diii)→Option q2dd) (z:Int×Int×Int×Int×List qji×Int×Int×Int×List Diii):Option (q2dd) :=
 (q2f6 (q2dh d) z).eval fun y14 =>
 (q2f8 (q2dh d) y14).eval fun y15 =>
 self2 y15
def q2fb (d:Nat) (self2:(Int×Int×Int×Int×List qji×List Diii)→Option q2dd) (x2:Int×Int×Int×Int×List qji×List Diii):Option q2dd :=
 (q2el (q2dh d) x2).eval fun y9 =>
 bif y9.2.2.1 then ((q2ep (q2dh d) y9).eval fun y10 =>
 (q2et (q2dh d) y10).eval fun y11 =>
 bif y11.2.2.2.1 then ((q2ex (q2dh d) y11).eval fun y12 =>
 bif y12.2.2.2.1 then (q2f1 d  (y12.2.1,y12.2.2.1,y12.2.2.2.2.1,y12.2.2.2.2.2.1,y12.2.2.2.2.2.2.1,y12.2.2.2.2.2.2.2.2.2.2)) else ((q2f4 (q2dh d) y12).eval fun y13 =>
 q2fa d self2 y13)) else (q2fa d self2 (y11.2.1,y11.2.2.1,y11.2.2.2.2.1,y11.2.2.2.2.2.1,y11.2.2.2.2.2.2.1,y11.2.2.2.2.2.2.2.1,y11.2.2.2.2.2.2.2.2.1,y11.2.2.2.2.2.2.2.2.2.1,y11.2.2.2.2.2.2.2.2.2.2))) else (q2f1 d  (y9.1,y9.2.1,y9.2.2.2.1,y9.2.2.2.2.1,y9.2.2.2.2.2.1,y9.2.2.2.2.2.2))
def q2fc (d:Nat) (x:q2dc):Option q2dd :=
 (q2dn (q2dh d) (x.1.1,x.2.1.1,x.2.1.2.1,x.2.2.1.1,x.2.2.1.2.1)).eval fun y0 =>
 (q2dr (q2dh d) y0).eval fun y1 =>
 (q2dv (q2dh d) y1).eval fun y2 =>
 bif y2.2.1 then ((q2dz (q2dh d) y2).eval fun y3 =>
 some (y3.2,y3.1)) else ((q2e3 (q2dh d) y2).eval fun y4 =>
 (q2e7 (q2dh d) y4).eval fun y5 =>
 bif y5.2.1 then ((q2e9 (q2dh d) y5).eval fun y6 =>
 some (y6.2,y6.1)) else ((q2ed (q2dh d) y5).eval fun y7 =>
 (q2eh (q2dh d) y7).eval fun y8 =>
 iter (q2fb d ) d y8))
theorem q2fd (d:Nat):COK prog (q2df (q2fc d)):=by
 have hm:prog.follows .mixedOrders=true:=mixed
 have hT:=tys
 have hC0:OrcOK prog (orc (q2di (q2dh d))):=qcn (by
  intro S hS
  simp only [q2di,List.mem_cons,List.not_mem_nil,or_false] at hS
  rcases hS with rfl | rfl | rfl
  · exact q2bc d
  · exact q2cm d
  · exact q2da d)
 have hC:OrcOK prog (orc (q2di (q2dh d))):=hC0
 refine q8c (c:=qct f69) (fn:=f69) hT (by kernel_rfl) (by kernel_rfl) (by decide) fun x r h w0 φ0 Q hend=>?_
 replace h:q2fc d x=some r:=h
 unfold q2fc at h
 show Run prog w0 φ0 62 (qct f69) ⟨[(0,.agg [.fz Riii x.1.1]),(1,.agg [.int .i64 x.2.1.1,.int .i64 x.2.1.2.1]),(2,.agg [.int .i64 x.2.2.1.1,.int .i64 x.2.2.1.2.1])],[]⟩ Q
 refine q342 hm hT hC (q2do (q2dh d) (x.1.1,x.2.1.1,x.2.1.2.1,x.2.2.1.1,x.2.2.1.2.1)) h fun y0 h=>?_
 refine q7w ?_
 refine q342 hm hT hC (q2ds (q2dh d) y0) h fun y1 h=>?_
 refine q342 hm hT hC (q2dw (q2dh d) y1) h fun y2 h=>?_
 refine q80 (v:=y2.2.1) (by kernel_rfl) h ?_ ?_
 ·
  intro h
  refine q342 hm hT hC (q2e0 (q2dh d) y2) h fun y3 h=>?_
  refine q7v (q7k ?_)
  cases h
  exact (hend _ (by kernel_rfl)).2
 ·
  intro h
  refine q7s (q7i ?_)
  refine q342 hm hT hC (q2e4 (q2dh d) y2) h fun y4 h=>?_
  refine q7w ?_
  refine q342 hm hT hC (q2e8 (q2dh d) y4) h fun y5 h=>?_
  refine q80 (v:=y5.2.1) (by kernel_rfl) h ?_ ?_
  ·
   intro h
   refine q342 hm hT hC (q2ea (q2dh d) y5) h fun y6 h=>?_
   refine q7v (q7k ?_)
   cases h
   exact (hend _ (by kernel_rfl)).2
  ·
   intro h
   refine q7s (q7i ?_)
   refine q342 hm hT hC (q2ee (q2dh d) y5) h fun y7 h=>?_
   refine q7z (r:=r) (F:=q2f1 d ) (S:=(fun z=>⟨[(5,.ptr 0 0),(11,.rs 1),(30,.rs 2),(31,i6 z.1),(32,i6 z.2.1)],[.cells [i6 z.2.2.1,i6 z.2.2.2.1],.rows qjh z.2.2.2.2.1,.rows Riii z.2.2.2.2.2]⟩:Int×Int×Int×Int×List qji×List Diii→St)) ?_ ?_
   ·
    intro z h
    unfold q2f1 at h
    refine q342 hm hT hC (q2f0 (q2dh d) z) h fun y16 h=>?_
    refine q7v ?_
    cases h
    exact (hend _ (by kernel_rfl)).2
   intro hj1
   refine q342 hm hT hC (q2ei (q2dh d) y7) h fun y8 h=>?_
   refine q7x ?_
   refine q82 (G:=iter (q2fb d )) (S:=(fun x2=>⟨[(5,.ptr 0 0),(11,.rs 1),(30,.rs 2),(31,i6 x2.1),(32,i6 x2.2.1)],[.cells [i6 x2.2.2.1,i6 x2.2.2.2.1],.rows qjh x2.2.2.2.2.1,.rows Riii x2.2.2.2.2.2]⟩:Int×Int×Int×Int×List qji×List Diii→St)) (fun _=>rfl) ?_ d _ h
   intro n2 x2 h K2 hn2
   replace h:q2fb d  (iter (q2fb d ) n2) x2=some r:=h
   generalize iter (q2fb d ) n2=self2 at h hn2
   unfold q2fb at h
   refine q342 hm hT hC (q2em (q2dh d) x2) h fun y9 h=>?_
   refine q7w ?_
   refine q80 (v:=y9.2.2.1) (by kernel_rfl) h ?_ ?_
   ·
    intro h
    refine q7s (q7i (q7w (q7x ?_)))
    refine q342 hm hT hC (q2eq (q2dh d) y9) h fun y10 h=>?_
    refine q7z (r:=r) (F:=q2fa d self2) (S:=(fun z=>⟨[(5,.ptr 0 0),(11,.rs 1),(13,.ptr 2 0),(30,.rs 3),(31,i6 z.1),(32,i6 z.2.1)],[.cells [i6 z.2.2.1,i6 z.2.2.2.1],.rows qjh z.2.2.2.2.1,.cells [i6 z.2.2.2.2.2.1,i6 z.2.2.2.2.2.2.1,i6 z.2.2.2.2.2.2.2.1],.rows Riii z.2.2.2.2.2.2.2.2]⟩:Int×Int×Int×Int×List qji×Int×Int×Int×List Diii→St)) ?_ ?_
    ·
     intro z h
     unfold q2fa at h
     refine q81 hm hT hC (q2f7 (q2dh d) z) h ?_
     intro y14 h
     refine q7l (q7i ?_)
     refine q81 hm hT hC (q2f9 (q2dh d) y14) h ?_
     intro y15 h
     exact hn2 _ h
    intro hj3
    refine q342 hm hT hC (q2eu (q2dh d) y10) h fun y11 h=>?_
    refine q80 (v:=y11.2.2.2.1) (by kernel_rfl) h ?_ ?_
    ·
     intro h
     refine q7w ?_
     refine q342 hm hT hC (q2ey (q2dh d) y11) h fun y12 h=>?_
     refine q80 (v:=y12.2.2.2.1) (by kernel_rfl) h ?_ ?_
     ·
      intro h
      refine q7u (q7j (q7j ?_))
      refine q7o (by rfl) ?_
      refine q7j (q7j (q7n ?_))
      refine qcs (s:=⟨[(5,.ptr 0 0),(11,.rs 1),(30,.rs 2),(31,.int .i64 y12.2.1),(32,.int .i64 y12.2.2.1)],[.cells [.int .i64 y12.2.2.2.2.1,.int .i64 y12.2.2.2.2.2.1],.rows qjh y12.2.2.2.2.2.2.1,.rows Riii y12.2.2.2.2.2.2.2.2.2.2]⟩) [12,13,43] (by kernel_rfl) ?_
      exact hj1 _ h
     ·
      intro h
      refine q7s (q7i ?_)
      refine q81 hm hT hC (q2f5 (q2dh d) y12) h ?_
      intro y13 h
      exact hj3 _ h
    ·
     intro h
     refine q7s ?_
     refine qcs (s:=⟨[(5,.ptr 0 0),(11,.rs 1),(13,.ptr 2 0),(30,.rs 3),(31,.int .i64 y11.2.1),(32,.int .i64 y11.2.2.1)],[.cells [.int .i64 y11.2.2.2.2.1,.int .i64 y11.2.2.2.2.2.1],.rows qjh y11.2.2.2.2.2.2.1,.cells [.int .i64 y11.2.2.2.2.2.2.2.1,.int .i64 y11.2.2.2.2.2.2.2.2.1,.int .i64 y11.2.2.2.2.2.2.2.2.2.1],.rows Riii y11.2.2.2.2.2.2.2.2.2.2]⟩) [12,38] (by kernel_rfl) ?_
     exact hj3 _ h
   ·
    intro h
    refine q7u (q7j (q7j (q7n ?_)))
    refine qcs (s:=⟨[(5,.ptr 0 0),(11,.rs 1),(30,.rs 2),(31,.int .i64 y9.1),(32,.int .i64 y9.2.1)],[.cells [.int .i64 y9.2.2.2.1,.int .i64 y9.2.2.2.2.1],.rows qjh y9.2.2.2.2.2.1,.rows Riii y9.2.2.2.2.2.2]⟩) [33] (by kernel_rfl) ?_
    exact hj1 _ h
abbrev q2fe:List Pk:=[.row qj5 true,.row Ri false,.row Rii true,.row Rii true]
abbrev q2ff:Type:=qj6×Di×Dii×Dii×Unit
abbrev q2fg:Type:=Int×Int×Int
def q2fh (r:q2fg):LV×List Ob:=(.tup [.agg [.int .i64 r.1,.int .i64 r.2.1],.int .i64 r.2.2],[])
def q2fi (F:q2ff→Option q2fg):Go.Tx.Spec:=⟨20,q2fe,q2fg,F,q2fh⟩
abbrev q2fj:Type:=(qvf→Option qvg)×(q1o6→Option q1o7)×(q2be→Option q2bf)×(q2dc→Option q2dd)×Unit
def q2fk (d:Nat):q2fj:=(qvk d,q1oz d,q2cl d,q2fc d,())
def q2fl (C:q2fj):List Go.Tx.Spec:=[qvi C.1,q1o9 C.2.1,q2bh C.2.2.1,q2df C.2.2.2.1]
abbrev q2fm:Type:=List Diii×Int×Int×Int×Int×Int
def q2fn (v:q2fm):St:=⟨[(0,.agg [.fz Riii v.1]),(1,i6 v.2.1),(2,.agg [i6 v.2.2.1,i6 v.2.2.2.1]),(3,.agg [i6 v.2.2.2.2.1,i6 v.2.2.2.2.2])],[]⟩
abbrev q2fo:Type:=Int×List Diii×Int×Int×Int×Int×Int×Int
def q2fp (v:q2fo):St:=⟨[(1,i6 v.1),(4,.ptr 0 0),(6,.ptr 1 0),(7,.ptr 2 0),(8,.ptr 3 0)],[.cells [.fz Riii v.2.1],.cells [i6 v.2.2.1,i6 v.2.2.2.1],.cells [i6 v.2.2.2.2.1,i6 v.2.2.2.2.2.1],.cells [i6 v.2.2.2.2.2.2.1,i6 v.2.2.2.2.2.2.2]]⟩
def q2fq (C:q2fj) (v:q2fm):Dt q2fo:=(Dt.ret (v.2.1,v.1,v.2.2.1,v.2.2.2.1,v.2.2.2.2.1,v.2.2.2.2.2,(0:Int),(0:Int)))
abbrev q35f {V Y:Type}:=@rg q2fj V Y tysT (fun C=>(orc (q2fl C))) 61
theorem q2fr C v:q35f (regO (qct f20) 0) false [(1,.any),(4,(.box [.val Riii])),(6,.any),(7,.any),(8,.any)] q2fn q2fq q2fp C v:=rgI (by kernel_rfl)
abbrev q2fs:Type:=Int×Int×List Diii×Int×Int×Int×Int×Int×Int
def q2ft (v:q2fs):St:=⟨[(1,i6 v.1),(4,.ptr 0 0),(6,.ptr 1 0),(7,.ptr 2 0),(8,.ptr 3 0),(10,i6 v.2.1)],[.cells [.fz Riii v.2.2.1],.cells [i6 v.2.2.2.1,i6 v.2.2.2.2.1],.cells [i6 v.2.2.2.2.2.1,i6 v.2.2.2.2.2.2.1],.cells [i6 v.2.2.2.2.2.2.2.1,i6 v.2.2.2.2.2.2.2.2]]⟩
def q2fu (C:q2fj) (v:q2fo):Dt q2fs:=(Dt.bnd (C.2.2.1 ((v.2.1,()),(v.2.2.1,v.2.2.2.1,()),(v.2.2.2.2.1,v.2.2.2.2.2.1,()),())) fun r1=>(Dt.ret (v.1,r1,v.2.1,v.2.2.1,v.2.2.2.1,v.2.2.2.2.1,v.2.2.2.2.2.1,v.2.2.2.2.2.2.1,v.2.2.2.2.2.2.2)))
theorem q2fv C v:q35f (regO (qct f20) 1) false [(1,.any),(4,(.box [.val Riii])),(6,.any),(7,.any),(8,.any),(10,.any)] q2fp q2fu q2ft C v:=rgI (by kernel_rfl)
abbrev q2fw:Type:=Int×Int×Bool×List Diii×Int×Int×Int×Int×Int×Int
def q2fx (v:q2fw):St:=⟨[(1,i6 v.1),(4,.ptr 0 0),(6,.ptr 1 0),(7,.ptr 2 0),(8,.ptr 3 0),(10,i6 v.2.1),(22,.bool v.2.2.1)],[.cells [.fz Riii v.2.2.2.1],.cells [i6 v.2.2.2.2.1,i6 v.2.2.2.2.2.1],.cells [i6 v.2.2.2.2.2.2.1,i6 v.2.2.2.2.2.2.2.1],.cells [i6 v.2.2.2.2.2.2.2.2.1,i6 v.2.2.2.2.2.2.2.2.2]]⟩
def q2fy (C:q2fj) (v:q2fs):Dt q2fw:=(Dt.ret (v.1,v.2.1,(v.2.1 != (0:Int)),v.2.2.1,v.2.2.2.1,v.2.2.2.2.1,v.2.2.2.2.2.1,v.2.2.2.2.2.2.1,v.2.2.2.2.2.2.2.1,v.2.2.2.2.2.2.2.2))
theorem q2fz C v:q35f (regO (qct f20) 2) false [(1,.any),(4,(.box [.val Riii])),(6,.any),(7,.any),(8,.any),(10,.any),(22,.any)] q2ft q2fy q2fx C v:=rgI (by kernel_rfl)
abbrev q2g0:Type:=Int×Int×Int
def q2g1 (v:q2g0):St:=⟨[(8,.ptr 0 0),(9,i6 v.1)],[.cells [i6 v.2.1,i6 v.2.2]]⟩
def q2g2 (C:q2fj) (v:q2fw):Dt q2g0:=(Dt.ret (v.2.1,(0:Int),(0:Int)))
theorem q2g3 C v:q35f (regO (qct f20) 3) false (an [8,9]) q2fx q2g2 q2g1 C v:=rgI (by kernel_rfl)
abbrev q2g4:Type:=Int×Int×List Diii×Int×Int×Int×Int×Int×Int
def q2g5 (v:q2g4):St:=⟨[(1,i6 v.1),(4,.ptr 0 0),(6,.ptr 1 0),(7,.ptr 2 0),(8,.ptr 3 0),(12,i6 v.2.1)],[.cells [.fz Riii v.2.2.1],.cells [i6 v.2.2.2.1,i6 v.2.2.2.2.1],.cells [i6 v.2.2.2.2.2.1,i6 v.2.2.2.2.2.2.1],.cells [i6 v.2.2.2.2.2.2.2.1,i6 v.2.2.2.2.2.2.2.2]]⟩
def q2g6 (C:q2fj) (v:q2fw):Dt q2g4:=(Dt.bnd (C.1 ((v.2.2.2.1,()),(v.1,()),())) fun r1=>(Dt.ret (v.1,r1.2.2.2,v.2.2.2.1,v.2.2.2.2.1,v.2.2.2.2.2.1,v.2.2.2.2.2.2.1,v.2.2.2.2.2.2.2.1,v.2.2.2.2.2.2.2.2.1,v.2.2.2.2.2.2.2.2.2)))
theorem q2g7 C v:q35f (regO (qct f20) 4) false [(1,.any),(4,(.box [.val Riii])),(6,.any),(7,.any),(8,.any),(12,.any)] q2fx q2g6 q2g5 C v:=rgI (by kernel_rfl)
abbrev q2g8:Type:=Int×Int×Bool×List Diii×Int×Int×Int×Int×Int×Int
def q2g9 (v:q2g8):St:=⟨[(1,i6 v.1),(4,.ptr 0 0),(6,.ptr 1 0),(7,.ptr 2 0),(8,.ptr 3 0),(12,i6 v.2.1),(32,.bool v.2.2.1)],[.cells [.fz Riii v.2.2.2.1],.cells [i6 v.2.2.2.2.1,i6 v.2.2.2.2.2.1],.cells [i6 v.2.2.2.2.2.2.1,i6 v.2.2.2.2.2.2.2.1],.cells [i6 v.2.2.2.2.2.2.2.2.1,i6 v.2.2.2.2.2.2.2.2.2]]⟩
def q2ga (C:q2fj) (v:q2g4):Dt q2g8:=(Dt.ret (v.1,v.2.1,(v.2.1 != (0:Int)),v.2.2.1,v.2.2.2.1,v.2.2.2.2.1,v.2.2.2.2.2.1,v.2.2.2.2.2.2.1,v.2.2.2.2.2.2.2.1,v.2.2.2.2.2.2.2.2))
theorem q2gb C v:q35f (regO (qct f20) 5) false [(1,.any),(4,(.box [.val Riii])),(6,.any),(7,.any),(8,.any),(12,.any),(32,.any)] q2g5 q2ga q2g9 C v:=rgI (by kernel_rfl)
def q2gc (C:q2fj) (v:q2g8):Dt q2g0:=(Dt.ret (v.2.1,(0:Int),(0:Int)))
theorem q2gd C v:q35f (regO (qct f20) 6) false (an [8,9]) q2g9 q2gc q2g1 C v:=rgI (by kernel_rfl)
abbrev q2ge:Type:=Int×Int×Int×List qji
def q2gf (v:q2ge):St:=⟨[(1,i6 v.1),(8,.ptr 0 0),(13,.rs 1)],[.cells [i6 v.2.1,i6 v.2.2.1],.rows qjh v.2.2.2]⟩
def q2gg (C:q2fj) (v:q2g8):Dt q2ge:=(Dt.bnd (C.2.2.2.1 ((v.2.2.2.1,()),(v.2.2.2.2.1,v.2.2.2.2.2.1,()),(v.2.2.2.2.2.2.1,v.2.2.2.2.2.2.2.1,()),())) fun r1=>(Dt.ret (v.1,v.2.2.2.2.2.2.2.2.1,v.2.2.2.2.2.2.2.2.2,r1.1)))
theorem q2gh C v:q35f (regO (qct f20) 7) false [(1,.any),(8,.any),(13,(.own qjh))] q2g9 q2gg q2gf C v:=rgI (by kernel_rfl)
abbrev q2gi:Type:=Int×Int×Int×Int×Int×List qji
def q2gj (v:q2gi):St:=⟨[(1,i6 v.1),(8,.ptr 0 0),(42,.rs 1),(43,i6 v.2.1),(44,i6 v.2.2.1)],[.cells [i6 v.2.2.2.1,i6 v.2.2.2.2.1],.rows qjh v.2.2.2.2.2]⟩
def q2gk (C:q2fj) (v:q2ge):Dt q2gi:=(Dt.ret (v.1,(List.length v.2.2.2:Int),(0:Int),v.2.1,v.2.2.1,v.2.2.2))
theorem q2gl C v:q35f (regO (qct f20) 8) false [(1,.any),(8,.any),(42,(.own qjh)),(43,.any),(44,.any)] q2gf q2gk q2gj C v:=rgI (by kernel_rfl)
abbrev q2gm:Type:=Int×Int×Int×Bool×Int×Int×List qji
def q2gn (v:q2gm):St:=⟨[(1,i6 v.1),(8,.ptr 0 0),(42,.rs 1),(43,i6 v.2.1),(44,i6 v.2.2.1),(45,.bool v.2.2.2.1)],[.cells [i6 v.2.2.2.2.1,i6 v.2.2.2.2.2.1],.rows qjh v.2.2.2.2.2.2]⟩
def q2go (C:q2fj) (v:q2gi):Dt q2gm:=(Dt.ret (v.1,v.2.1,v.2.2.1,(decide (v.2.2.1<v.2.1)),v.2.2.2.1,v.2.2.2.2.1,v.2.2.2.2.2))
theorem q2gp C v:q35f (regO (qct f20) 9) false [(1,.any),(8,.any),(42,(.own qjh)),(43,.any),(44,.any),(45,.any)] q2gj q2go q2gn C v:=rgI (by kernel_rfl)
abbrev q2gq:Type:=Int×Int×Int×Int×Int×Int×Int×Int×Int×Int×List qji
def q2gr (v:q2gq):St:=⟨[(1,i6 v.1),(8,.ptr 0 0),(16,.ptr 1 0),(42,.rs 2),(43,i6 v.2.1),(44,i6 v.2.2.1)],[.cells [i6 v.2.2.2.1,i6 v.2.2.2.2.1],.cells [i6 v.2.2.2.2.2.1,i6 v.2.2.2.2.2.2.1,i6 v.2.2.2.2.2.2.2.1,i6 v.2.2.2.2.2.2.2.2.1,i6 v.2.2.2.2.2.2.2.2.2.1],.rows qjh v.2.2.2.2.2.2.2.2.2.2]⟩
def q2gs (C:q2fj) (v:q2gm):Dt q2gq:=(Dt.ite (inB v.2.2.1 (List.length v.2.2.2.2.2.2)) (Dt.ret (v.1,v.2.1,v.2.2.1,v.2.2.2.2.1,v.2.2.2.2.2.1,(elt qjj v.2.2.2.2.2.2 (v.2.2.1).toNat).1,(elt qjj v.2.2.2.2.2.2 (v.2.2.1).toNat).2.1,(elt qjj v.2.2.2.2.2.2 (v.2.2.1).toNat).2.2.1,(elt qjj v.2.2.2.2.2.2 (v.2.2.1).toNat).2.2.2.1,(elt qjj v.2.2.2.2.2.2 (v.2.2.1).toNat).2.2.2.2.1,v.2.2.2.2.2.2)) Dt.fail)
theorem q2gt C v:q35f (regO (qct f20) 10) false [(1,.any),(8,.any),(16,.any),(42,(.own qjh)),(43,.any),(44,.any)] q2gn q2gs q2gr C v:=rgI (by kernel_rfl)
abbrev q2gu:Type:=Int×Int×Int×Bool×Int×Int×Int×Int×Int×Int×Int×List qji
def q2gv (v:q2gu):St:=⟨[(1,i6 v.1),(8,.ptr 0 0),(16,.ptr 1 0),(42,.rs 2),(43,i6 v.2.1),(44,i6 v.2.2.1),(51,.bool v.2.2.2.1)],[.cells [i6 v.2.2.2.2.1,i6 v.2.2.2.2.2.1],.cells [i6 v.2.2.2.2.2.2.1,i6 v.2.2.2.2.2.2.2.1,i6 v.2.2.2.2.2.2.2.2.1,i6 v.2.2.2.2.2.2.2.2.2.1,i6 v.2.2.2.2.2.2.2.2.2.2.1],.rows qjh v.2.2.2.2.2.2.2.2.2.2.2]⟩
def q2gw (C:q2fj) (v:q2gq):Dt q2gu:=(Dt.ret (v.1,v.2.1,v.2.2.1,(v.2.2.2.2.2.2.2.2.2.1 == v.1),v.2.2.2.1,v.2.2.2.2.1,v.2.2.2.2.2.1,v.2.2.2.2.2.2.1,v.2.2.2.2.2.2.2.1,v.2.2.2.2.2.2.2.2.1,v.2.2.2.2.2.2.2.2.2.1,v.2.2.2.2.2.2.2.2.2.2))
theorem q2gx C v:q35f (regO (qct f20) 11) false [(1,.any),(8,.any),(16,.any),(42,(.own qjh)),(43,.any),(44,.any),(51,.any)] q2gr q2gw q2gv C v:=rgI (by kernel_rfl)
def q2gy (C:q2fj) (v:q2gu):Dt q2g0:=(Dt.bnd (C.2.1 ((v.2.2.2.2.2.2.2.2.1,v.2.2.2.2.2.2.2.2.2.1,()),(v.2.2.2.2.2.2.1,v.2.2.2.2.2.2.2.1,()),())) fun r1=>(Dt.ret (r1.2.2,r1.1,r1.2.1)))
theorem q2gz C v:q35f (regO (qct f20) 12) false (an [8,9]) q2gv q2gy q2g1 C v:=rgI (by kernel_rfl)
def q2h0 (C:q2fj) (v:q2gu):Dt q2gi:=(Dt.ret (v.1,v.2.1,(IntKind.wrap .i64 (v.2.2.1+(1:Int))),v.2.2.2.2.1,v.2.2.2.2.2.1,v.2.2.2.2.2.2.2.2.2.2.2))
theorem q2h1 C v:q35f (regO (qct f20) 13) false [(1,.any),(8,.any),(42,(.own qjh)),(43,.any),(44,.any)] q2gv q2h0 q2gj C v:=rgI (by kernel_rfl)
def q2h2 (C:q2fj) (v:q2gm):Dt q2g0:=(Dt.ret ((0:Int),(0:Int),(1:Int)))
theorem q2h3 C v:q35f (regO (qct f20) 14) false (an [8,9]) q2gn q2h2 q2g1 C v:=rgI (by kernel_rfl)
def q2h4 (d:Nat) (self1:(Int×Int×Int×Int×Int×List qji)→Option q2fg) (x1:Int×Int×Int×Int×Int×List qji):Option q2fg :=
 (q2go (q2fk d) x1).eval fun y9 =>
 bif y9.2.2.2.1 then ((q2gs (q2fk d) y9).eval fun y10 =>
 (q2gw (q2fk d) y10).eval fun y11 =>
 bif y11.2.2.2.1 then ((q2gy (q2fk d) y11).eval fun y12 =>
 some (y12.2.1,y12.2.2,y12.1)) else ((q2h0 (q2fk d) y11).eval fun y13 =>
 self1 y13)) else ((q2h2 (q2fk d) y9).eval fun y14 =>
 some (y14.2.1,y14.2.2,y14.1))
def q2h5 (d:Nat) (x:q2ff):Option q2fg :=
 (q2fq (q2fk d) (x.1.1,x.2.1.1,x.2.2.1.1,x.2.2.1.2.1,x.2.2.2.1.1,x.2.2.2.1.2.1)).eval fun y0 =>
 (q2fu (q2fk d) y0).eval fun y1 =>
 (q2fy (q2fk d) y1).eval fun y2 =>
 bif y2.2.2.1 then ((q2g2 (q2fk d) y2).eval fun y3 =>
 some (y3.2.1,y3.2.2,y3.1)) else ((q2g6 (q2fk d) y2).eval fun y4 =>
 (q2ga (q2fk d) y4).eval fun y5 =>
 bif y5.2.2.1 then ((q2gc (q2fk d) y5).eval fun y6 =>
 some (y6.2.1,y6.2.2,y6.1)) else ((q2gg (q2fk d) y5).eval fun y7 =>
 (q2gk (q2fk d) y7).eval fun y8 =>
 iter (q2h4 d ) d y8))
theorem q2h6 (d:Nat):COK prog (q2fi (q2h5 d)):=by
 have hm:prog.follows .mixedOrders=true:=mixed
 have hT:=tys
 have hC0:OrcOK prog (orc (q2fl (q2fk d))):=qcn (by
  intro S hS
  simp only [q2fl,List.mem_cons,List.not_mem_nil,or_false] at hS
  rcases hS with rfl | rfl | rfl | rfl
  · exact qvm d
  · exact q1p0 d
  · exact q2cm d
  · exact q2fd d)
 have hC:OrcOK prog (orc (q2fl (q2fk d))):=hC0
 refine q8c (c:=qct f20) (fn:=f20) hT (by kernel_rfl) (by kernel_rfl) (by decide) fun x r h w0 φ0 Q hend=>?_
 replace h:q2h5 d x=some r:=h
 unfold q2h5 at h
 show Run prog w0 φ0 61 (qct f20) ⟨[(0,.agg [.fz Riii x.1.1]),(1,.int .i64 x.2.1.1),(2,.agg [.int .i64 x.2.2.1.1,.int .i64 x.2.2.1.2.1]),(3,.agg [.int .i64 x.2.2.2.1.1,.int .i64 x.2.2.2.1.2.1])],[]⟩ Q
 refine q342 hm hT hC (q2fr (q2fk d) (x.1.1,x.2.1.1,x.2.2.1.1,x.2.2.1.2.1,x.2.2.2.1.1,x.2.2.2.1.2.1)) h fun y0 h=>?_
 refine q7w ?_
 refine q342 hm hT hC (q2fv (q2fk d) y0) h fun y1 h=>?_
 refine q342 hm hT hC (q2fz (q2fk d) y1) h fun y2 h=>?_
 refine q80 (v:=y2.2.2.1) (by kernel_rfl) h ?_ ?_
 ·
  intro h
  refine q342 hm hT hC (q2g3 (q2fk d) y2) h fun y3 h=>?_
  refine q7v (q7k ?_)
  cases h
  exact (hend _ (by kernel_rfl)).2
 ·
  intro h
  refine q7s (q7i (q7w ?_))
  refine q342 hm hT hC (q2g7 (q2fk d) y2) h fun y4 h=>?_
  refine q342 hm hT hC (q2gb (q2fk d) y4) h fun y5 h=>?_
  refine q80 (v:=y5.2.2.1) (by kernel_rfl) h ?_ ?_
  ·
   intro h
   refine q342 hm hT hC (q2gd (q2fk d) y5) h fun y6 h=>?_
   refine q7v (q7k ?_)
   cases h
   exact (hend _ (by kernel_rfl)).2
  ·
   intro h
   refine q7s (q7i ?_)
   refine q342 hm hT hC (q2gh (q2fk d) y5) h fun y7 h=>?_
   refine q7w ?_
   refine q342 hm hT hC (q2gl (q2fk d) y7) h fun y8 h=>?_
   refine q7x ?_
   refine q82 (G:=iter (q2h4 d )) (S:=(fun x1=>⟨[(1,i6 x1.1),(8,.ptr 0 0),(42,.rs 1),(43,i6 x1.2.1),(44,i6 x1.2.2.1)],[.cells [i6 x1.2.2.2.1,i6 x1.2.2.2.2.1],.rows qjh x1.2.2.2.2.2]⟩:Int×Int×Int×Int×Int×List qji→St)) (fun _=>rfl) ?_ d _ h
   intro n1 x1 h K1 hn1
   replace h:q2h4 d  (iter (q2h4 d ) n1) x1=some r:=h
   generalize iter (q2h4 d ) n1=self1 at h hn1
   unfold q2h4 at h
   refine q342 hm hT hC (q2gp (q2fk d) x1) h fun y9 h=>?_
   refine q7w ?_
   refine q80 (v:=y9.2.2.2.1) (by kernel_rfl) h ?_ ?_
   ·
    intro h
    refine q7s (q7i (q7w (q7x ?_)))
    refine q342 hm hT hC (q2gt (q2fk d) y9) h fun y10 h=>?_
    refine q342 hm hT hC (q2gx (q2fk d) y10) h fun y11 h=>?_
    refine q80 (v:=y11.2.2.2.1) (by kernel_rfl) h ?_ ?_
    ·
     intro h
     refine q342 hm hT hC (q2gz (q2fk d) y11) h fun y12 h=>?_
     refine q7v (q7m (q7k (q7k (q7m (q7k ?_)))))
     cases h
     exact (hend _ (by kernel_rfl)).2
    ·
     intro h
     refine q7s (q7l (q7i ?_))
     refine q81 hm hT hC (q2h1 (q2fk d) y11) h ?_
     intro y13 h
     exact hn1 _ h
   ·
    intro h
    refine q7u (q7j (q7j (q7n (q7i ?_))))
    refine q342 hm hT hC (q2h3 (q2fk d) y9) h fun y14 h=>?_
    refine q7v ?_
    cases h
    exact (hend _ (by kernel_rfl)).2
abbrev q2h7:List Pk:=[.row qj5 true,.row Rii true]
abbrev q2h8:Type:=qj6×Dii×Unit
abbrev q2h9:Type:=List Di×Int
def q2ha (r:q2h9):LV×List Ob:=(.tup [.fz Ri r.1,.int .i64 r.2],[])
def q2hb (F:q2h8→Option q2h9):Go.Tx.Spec:=⟨22,q2h7,q2h9,F,q2ha⟩
abbrev q2hc:Type:=(qw6→Option qw7)×Unit
def q2hd (d:Nat):q2hc:=(qwb d,())
def q2he (C:q2hc):List Go.Tx.Spec:=[qw9 C.1]
abbrev q2hf:Type:=List Diii×Int×Int
def q2hg (v:q2hf):St:=⟨[(0,.agg [.fz Riii v.1]),(1,.agg [i6 v.2.1,i6 v.2.2])],[]⟩
abbrev q2hh:Type:=List Diii×Int×Int
def q2hi (v:q2hh):St:=⟨[(2,.ptr 0 0),(3,.ptr 1 0)],[.cells [.fz Riii v.1],.cells [i6 v.2.1,i6 v.2.2]]⟩
def q2hj (C:q2hc) (v:q2hf):Dt q2hh:=(Dt.ret (v.1,v.2.1,v.2.2))
abbrev q35g {V Y:Type}:=@rg q2hc V Y tysT (fun C=>(orc (q2he C))) 22
theorem q2hk C v:q35g (regO (qct f22) 0) false [(2,(.box [.val Riii])),(3,.any)] q2hg q2hj q2hi C v:=rgI (by kernel_rfl)
abbrev q2hl:Type:=Int×List Di
def q2hm (v:q2hl):St:=⟨[(6,.rs 0),(7,i6 v.1)],[.rows Ri v.2]⟩
def q2hn (C:q2hc) (v:q2hh):Dt q2hl:=(Dt.bnd (C.1 ((v.1,()),(v.2.1,v.2.2,()),())) fun r1=>(Dt.ret (r1.2,r1.1)))
theorem q2ho C v:q35g (regO (qct f22) 1) false [(6,(.own Ri)),(7,.any)] q2hi q2hn q2hm C v:=rgI (by kernel_rfl)
abbrev q2hp:Type:=Int×Bool×List Di
def q2hq (v:q2hp):St:=⟨[(6,.rs 0),(7,i6 v.1),(15,.bool v.2.1)],[.rows Ri v.2.2]⟩
def q2hr (C:q2hc) (v:q2hl):Dt q2hp:=(Dt.ret (v.1,(v.1 != (0:Int)),v.2))
theorem q2hs C v:q35g (regO (qct f22) 2) false [(6,(.own Ri)),(7,.any),(15,.any)] q2hm q2hr q2hq C v:=rgI (by kernel_rfl)
abbrev q2ht:Type:=List Di×Int
def q2hu (v:q2ht):St:=⟨[(4,.fz Ri v.1),(5,i6 v.2)],[]⟩
def q2hv (C:q2hc) (v:q2hp):Dt q2ht:=(Dt.ret (([]:List Di),v.1))
theorem q2hw C v:q35g (regO (qct f22) 3) false [(4,(.val Ri)),(5,.any)] q2hq q2hv q2hu C v:=rgI (by kernel_rfl)
def q2hx (C:q2hc) (v:q2hp):Dt q2ht:=(Dt.ite (decide (0≤(tmin (List.length v.2.2:Int) (3:Int)))&&decide ((tmin (List.length v.2.2:Int) (3:Int))≤(List.length v.2.2:Int))) (Dt.ret ((List.take ((tmin (List.length v.2.2:Int) (3:Int))).toNat v.2.2),(0:Int))) Dt.fail)
theorem q2hy C v:q35g (regO (qct f22) 4) false [(4,(.val Ri)),(5,.any)] q2hq q2hx q2hu C v:=rgI (by kernel_rfl)
def q2hz (d:Nat) (x:q2h8):Option q2h9 :=
 (q2hj (q2hd d) (x.1.1,x.2.1.1,x.2.1.2.1)).eval fun y0 =>
 (q2hn (q2hd d) y0).eval fun y1 =>
 (q2hr (q2hd d) y1).eval fun y2 =>
 bif y2.2.1 then ((q2hv (q2hd d) y2).eval fun y3 =>
 some y3) else ((q2hx (q2hd d) y2).eval fun y4 =>
 some y4)
theorem q2i0 (d:Nat):COK prog (q2hb (q2hz d)):=by
 have hm:prog.follows .mixedOrders=true:=mixed
 have hT:=tys
 have hC0:OrcOK prog (orc (q2he (q2hd d))):=qcn (by
  intro S hS
  simp only [q2he,List.mem_cons,List.not_mem_nil,or_false] at hS
  subst hS;exact qwd d)
 have hC:OrcOK prog (orc (q2he (q2hd d))):=hC0
 refine q8c (c:=qct f22) (fn:=f22) hT (by kernel_rfl) (by kernel_rfl) (by decide) fun x r h w0 φ0 Q hend=>?_
 replace h:q2hz d x=some r:=h
 unfold q2hz at h
 show Run prog w0 φ0 22 (qct f22) ⟨[(0,.agg [.fz Riii x.1.1]),(1,.agg [.int .i64 x.2.1.1,.int .i64 x.2.1.2.1])],[]⟩ Q
 refine q342 hm hT hC (q2hk (q2hd d) (x.1.1,x.2.1.1,x.2.1.2.1)) h fun y0 h=>?_
 refine q342 hm hT hC (q2ho (q2hd d) y0) h fun y1 h=>?_
 refine q7w ?_
 refine q342 hm hT hC (q2hs (q2hd d) y1) h fun y2 h=>?_
 refine q80 (v:=y2.2.1) (by kernel_rfl) h ?_ ?_
 ·
  intro h
  refine q342 hm hT hC (q2hw (q2hd d) y2) h fun y3 h=>?_
  refine q7v (q7k ?_)
  cases h
  exact (hend _ (by kernel_rfl)).2
 ·
  intro h
  refine q7s (q7i ?_)
  refine q342 hm hT hC (q2hy (q2hd d) y2) h fun y4 h=>?_
  refine q7v ?_
  cases h
  exact (hend _ (by kernel_rfl)).2
end Go.Proofs.YtpfhgnccpiildaaGreat

namespace Go.Proofs.YtpfhgnccpiildaaGreat
open Go Go.Tx Go.Proofs.Tryz
set_option maxRecDepth 100000
set_option maxHeartbeats 0
abbrev q2i1:List Pk:=[.row Rbuu true]
abbrev q2i2:Type:=Dbuu×Unit
abbrev q2i3:Type:=Int
def q2i4 (r:q2i3):LV×List Ob:=(.int .i64 r,[])
def q2i5 (F:q2i2→Option q2i3):Go.Tx.Spec:=⟨90,q2i1,q2i3,F,q2i4⟩
abbrev q2i6:Type:=Unit
def q2i7 (_d:Nat):q2i6:=()
def q2i8 (C:q2i6):List Go.Tx.Spec:=[]
abbrev q2i9:Type:=Bool×Int×Int
def q2ia (v:q2i9):St:=⟨[(0,.agg [.bool v.1,u6 v.2.1,u6 v.2.2])],[]⟩
abbrev q2ib:Type:=Bool×Int×Int
def q2ic (v:q2ib):St:=⟨[(1,.ptr 0 0)],[.cells [.bool v.1,u6 v.2.1,u6 v.2.2]]⟩
def q2id (C:q2i6) (v:q2i9):Dt q2ib:=(Dt.ret (v.1,v.2.1,v.2.2))
abbrev q35h {V Y:Type}:=@rg q2i6 V Y tysT (fun C=>(orc (q2i8 C))) 13
theorem q2ie C v:q35h (regO (qct f90) 0) false [(1,.any)] q2ia q2id q2ic C v:=rgI (by kernel_rfl)
abbrev q2if:Type:=Bool×Bool×Int×Int
def q2ig (v:q2if):St:=⟨[(1,.ptr 0 0),(10,.bool v.1)],[.cells [.bool v.2.1,u6 v.2.2.1,u6 v.2.2.2]]⟩
def q2ih (C:q2i6) (v:q2ib):Dt q2if:=(Dt.ite (v.2.1 == (0:Int)) (Dt.ret ((v.2.2 == (0:Int)),v.1,v.2.1,v.2.2)) (Dt.ret (false,v.1,v.2.1,v.2.2)))
theorem q2ii C v:q35h (regO (qct f90) 1) false (an [1,10]) q2ic q2ih q2ig C v:=rgI (by kernel_rfl)
abbrev q2ij:Type:=Int
def q2ik (v:q2ij):St:=⟨[(2,i6 v)],[]⟩
def q2il (C:q2i6) (v:q2if):Dt q2ij:=(Dt.ret (0:Int))
theorem q2im C v:q35h (regO (qct f90) 2) false [(2,.any)] q2ig q2il q2ik C v:=rgI (by kernel_rfl)
abbrev q2in:Type:=Bool
def q2io (v:q2in):St:=⟨[(12,.bool v)],[]⟩
def q2ip (C:q2i6) (v:q2if):Dt q2in:=(Dt.ret v.2.1)
theorem q2iq C v:q35h (regO (qct f90) 3) false [(12,.any)] q2ig q2ip q2io C v:=rgI (by kernel_rfl)
def q2ir (C:q2i6) (v:q2in):Dt q2ij:=(Dt.ret (-1:Int))
theorem q2is C v:q35h (regO (qct f90) 4) false [(2,.any)] q2io q2ir q2ik C v:=rgI (by kernel_rfl)
def q2it (C:q2i6) (v:q2in):Dt q2ij:=(Dt.ret (1:Int))
theorem q2iu C v:q35h (regO (qct f90) 5) false [(2,.any)] q2io q2it q2ik C v:=rgI (by kernel_rfl)
def q2iv (d:Nat) (x:q2i2):Option q2i3 :=
 (q2id (q2i7 d) (x.1.1,x.1.2.1,x.1.2.2.1)).eval fun y0 =>
 (q2ih (q2i7 d) y0).eval fun y1 =>
 bif y1.1 then ((q2il (q2i7 d) y1).eval fun y2 =>
 some y2) else ((q2ip (q2i7 d) y1).eval fun y3 =>
 bif y3 then ((q2ir (q2i7 d) y3).eval fun y4 =>
 some y4) else ((q2it (q2i7 d) y3).eval fun y5 =>
 some y5))
theorem q2iw (d:Nat):COK prog (q2i5 (q2iv d)):=by
 have hm:prog.follows .mixedOrders=true:=mixed
 have hT:=tys
 have hC0:OrcOK prog (orc (q2i8 (q2i7 d))):=qcn (by
  intro S hS
  simp only [q2i8,List.mem_cons,List.not_mem_nil,or_false] at hS
  all_goals first | cases hS | exact hS.elim)
 have hC:OrcOK prog (orc (q2i8 (q2i7 d))):=hC0
 refine q8c (c:=qct f90) (fn:=f90) hT (by kernel_rfl) (by kernel_rfl) (by decide) fun x r h w0 φ0 Q hend=>?_
 replace h:q2iv d x=some r:=h
 unfold q2iv at h
 show Run prog w0 φ0 13 (qct f90) ⟨[(0,.agg [.bool x.1.1,.int .u64 x.1.2.1,.int .u64 x.1.2.2.1])],[]⟩ Q
 refine q342 hm hT hC (q2ie (q2i7 d) (x.1.1,x.1.2.1,x.1.2.2.1)) h fun y0 h=>?_
 refine q7w ?_
 refine q342 hm hT hC (q2ii (q2i7 d) y0) h fun y1 h=>?_
 refine q80 (v:=y1.1) (by kernel_rfl) h ?_ ?_
 ·
  intro h
  refine q342 hm hT hC (q2im (q2i7 d) y1) h fun y2 h=>?_
  refine q7v (q7k ?_)
  cases h
  exact (hend _ (by kernel_rfl)).2
 ·
  intro h
  refine q7s (q7i (q7w ?_))
  refine q342 hm hT hC (q2iq (q2i7 d) y1) h fun y3 h=>?_
  refine q80 (v:=y3) (by kernel_rfl) h ?_ ?_
  ·
   intro h
   refine q342 hm hT hC (q2is (q2i7 d) y3) h fun y4 h=>?_
   refine q7v (q7k ?_)
   cases h
   exact (hend _ (by kernel_rfl)).2
  ·
   intro h
   refine q7s (q7i ?_)
   refine q342 hm hT hC (q2iu (q2i7 d) y3) h fun y5 h=>?_
   refine q7v ?_
   cases h
   exact (hend _ (by kernel_rfl)).2
abbrev q2ix:List Pk:=[.row Rii true,.row Rii true]
abbrev q2iy:Type:=Dii×Dii×Unit
abbrev q2iz:Type:=Int
def q2j0 (r:q2iz):LV×List Ob:=(.int .i64 r,[])
def q2j1 (F:q2iy→Option q2iz):Go.Tx.Spec:=⟨43,q2ix,q2iz,F,q2j0⟩
abbrev q2j2:Type:=(qmh→Option qmi)×(q2i2→Option q2i3)×(q1t4→Option q1t5)×Unit
def q2j3 (d:Nat):q2j2:=(qmm d,q2iv d,q1u9 d,())
def q2j4 (C:q2j2):List Go.Tx.Spec:=[qmk C.1,q2i5 C.2.1,q1t7 C.2.2.1]
abbrev q2j5:Type:=Int×Int×Int×Int
def q2j6 (v:q2j5):St:=⟨[(0,.agg [i6 v.1,i6 v.2.1]),(1,.agg [i6 v.2.2.1,i6 v.2.2.2])],[]⟩
abbrev q2j7:Type:=Int×Int×Int×Int
def q2j8 (v:q2j7):St:=⟨[(2,.ptr 0 0),(3,.ptr 1 0)],[.cells [i6 v.1,i6 v.2.1],.cells [i6 v.2.2.1,i6 v.2.2.2]]⟩
def q2j9 (C:q2j2) (v:q2j5):Dt q2j7:=(Dt.ret (v.1,v.2.1,v.2.2.1,v.2.2.2))
abbrev q35i {V Y:Type}:=@rg q2j2 V Y tysT (fun C=>(orc (q2j4 C))) 36
theorem q2ja C v:q35i (regO (qct f43) 0) false (an [2,3]) q2j6 q2j9 q2j8 C v:=rgI (by kernel_rfl)
abbrev q2jb:Type:=Bool×Int×Int×Bool×Int×Int
def q2jc (v:q2jb):St:=⟨[(5,.ptr 0 0),(6,.ptr 1 0)],[.cells [.bool v.1,u6 v.2.1,u6 v.2.2.1],.cells [.bool v.2.2.2.1,u6 v.2.2.2.2.1,u6 v.2.2.2.2.2]]⟩
def q2jd (C:q2j2) (v:q2j7):Dt q2jb:=(Dt.bnd (C.1 ((v.1,()),(v.2.2.2,()),())) fun r1=>(Dt.bnd (C.1 ((v.2.2.1,()),(v.2.1,()),())) fun r2=>(Dt.ret (r1.1,r1.2.1,r1.2.2,r2.1,r2.2.1,r2.2.2))))
theorem q2je C v:q35i (regO (qct f43) 1) true (an [5,6]) q2j8 q2jd q2jc C v:=rgI (by kernel_rfl)
abbrev q2jf:Type:=Bool×Bool×Int×Int×Bool×Int×Int
def q2jg (v:q2jf):St:=⟨[(5,.ptr 0 0),(6,.ptr 1 0),(21,.bool v.1)],[.cells [.bool v.2.1,u6 v.2.2.1,u6 v.2.2.2.1],.cells [.bool v.2.2.2.2.1,u6 v.2.2.2.2.2.1,u6 v.2.2.2.2.2.2]]⟩
def q2jh (C:q2j2) (v:q2jb):Dt q2jf:=(Dt.bnd (C.2.1 ((v.1,v.2.1,v.2.2.1,()),())) fun r1=>(Dt.bnd (C.2.1 ((v.2.2.2.1,v.2.2.2.2.1,v.2.2.2.2.2,()),())) fun r2=>(Dt.ret ((r1 != r2),v.1,v.2.1,v.2.2.1,v.2.2.2.1,v.2.2.2.2.1,v.2.2.2.2.2))))
theorem q2ji C v:q35i (regO (qct f43) 2) true (an [5,6,21]) q2jc q2jh q2jg C v:=rgI (by kernel_rfl)
abbrev q2jj:Type:=Bool
def q2jk (v:q2jj):St:=⟨[(26,.bool v)],[]⟩
def q2jl (C:q2j2) (v:q2jf):Dt q2jj:=(Dt.bnd (C.2.1 ((v.2.1,v.2.2.1,v.2.2.2.1,()),())) fun r1=>(Dt.bnd (C.2.1 ((v.2.2.2.2.1,v.2.2.2.2.2.1,v.2.2.2.2.2.2,()),())) fun r2=>(Dt.ret (decide (r1<r2)))))
theorem q2jm C v:q35i (regO (qct f43) 3) true [(26,.any)] q2jg q2jl q2jk C v:=rgI (by kernel_rfl)
abbrev q2jn:Type:=Int
def q2jo (v:q2jn):St:=⟨[(4,i6 v)],[]⟩
def q2jp (C:q2j2) (v:q2jj):Dt q2jn:=(Dt.ret (-1:Int))
theorem q2jq C v:q35i (regO (qct f43) 4) false [(4,.any)] q2jk q2jp q2jo C v:=rgI (by kernel_rfl)
def q2jr (C:q2j2) (v:q2jj):Dt q2jn:=(Dt.ret (1:Int))
theorem q2js C v:q35i (regO (qct f43) 5) false [(4,.any)] q2jk q2jr q2jo C v:=rgI (by kernel_rfl)
abbrev q2jt:Type:=Bool×Bool×Int×Int×Bool×Int×Int
def q2ju (v:q2jt):St:=⟨[(5,.ptr 0 0),(6,.ptr 1 0),(29,.bool v.1)],[.cells [.bool v.2.1,u6 v.2.2.1,u6 v.2.2.2.1],.cells [.bool v.2.2.2.2.1,u6 v.2.2.2.2.2.1,u6 v.2.2.2.2.2.2]]⟩
def q2jv (C:q2j2) (v:q2jf):Dt q2jt:=(Dt.bnd (C.2.1 ((v.2.1,v.2.2.1,v.2.2.2.1,()),())) fun r1=>(Dt.ret ((decide (r1<(0:Int))),v.2.1,v.2.2.1,v.2.2.2.1,v.2.2.2.2.1,v.2.2.2.2.2.1,v.2.2.2.2.2.2)))
theorem q2jw C v:q35i (regO (qct f43) 6) false (an [5,6,29]) q2jg q2jv q2ju C v:=rgI (by kernel_rfl)
def q2jx (C:q2j2) (v:q2jt):Dt q2jn:=(Dt.bnd (C.2.2.1 ((v.2.2.2.2.1,v.2.2.2.2.2.1,v.2.2.2.2.2.2,()),(v.2.1,v.2.2.1,v.2.2.2.1,()),())) fun r1=>(Dt.ret r1))
theorem q2jy C v:q35i (regO (qct f43) 7) false [(4,.any)] q2ju q2jx q2jo C v:=rgI (by kernel_rfl)
def q2jz (C:q2j2) (v:q2jt):Dt q2jn:=(Dt.bnd (C.2.2.1 ((v.2.1,v.2.2.1,v.2.2.2.1,()),(v.2.2.2.2.1,v.2.2.2.2.2.1,v.2.2.2.2.2.2,()),())) fun r1=>(Dt.ret r1))
theorem q2k0 C v:q35i (regO (qct f43) 8) false [(4,.any)] q2ju q2jz q2jo C v:=rgI (by kernel_rfl)
def q2k1 (d:Nat) (x:q2iy):Option q2iz :=
 (q2j9 (q2j3 d) (x.1.1,x.1.2.1,x.2.1.1,x.2.1.2.1)).eval fun y0 =>
 (q2jd (q2j3 d) y0).eval fun y1 =>
 (q2jh (q2j3 d) y1).eval fun y2 =>
 bif y2.1 then ((q2jl (q2j3 d) y2).eval fun y3 =>
 bif y3 then ((q2jp (q2j3 d) y3).eval fun y4 =>
 some y4) else ((q2jr (q2j3 d) y3).eval fun y5 =>
 some y5)) else ((q2jv (q2j3 d) y2).eval fun y6 =>
 bif y6.1 then ((q2jx (q2j3 d) y6).eval fun y7 =>
 some y7) else ((q2jz (q2j3 d) y6).eval fun y8 =>
 some y8))
theorem q2k2 (d:Nat):COK prog (q2j1 (q2k1 d)):=by
 have hm:prog.follows .mixedOrders=true:=mixed
 have hT:=tys
 have hC0:OrcOK prog (orc (q2j4 (q2j3 d))):=qcn (by
  intro S hS
  simp only [q2j4,List.mem_cons,List.not_mem_nil,or_false] at hS
  rcases hS with rfl | rfl | rfl
  · exact qmo d
  · exact q2iw d
  · exact q1ua d)
 have hC:OrcOK prog (orc (q2j4 (q2j3 d))):=hC0
 refine q8c (c:=qct f43) (fn:=f43) hT (by kernel_rfl) (by kernel_rfl) (by decide) fun x r h w0 φ0 Q hend=>?_
 replace h:q2k1 d x=some r:=h
 unfold q2k1 at h
 show Run prog w0 φ0 36 (qct f43) ⟨[(0,.agg [.int .i64 x.1.1,.int .i64 x.1.2.1]),(1,.agg [.int .i64 x.2.1.1,.int .i64 x.2.1.2.1])],[]⟩ Q
 refine q342 hm hT hC (q2ja (q2j3 d) (x.1.1,x.1.2.1,x.2.1.1,x.2.1.2.1)) h fun y0 h=>?_
 refine q342 hm hT hC (q2je (q2j3 d) y0) h fun y1 h=>?_
 refine q7w ?_
 refine q342 hm hT hC (q2ji (q2j3 d) y1) h fun y2 h=>?_
 refine q80 (v:=y2.1) (by kernel_rfl) h ?_ ?_
 ·
  intro h
  refine q7w ?_
  refine q342 hm hT hC (q2jm (q2j3 d) y2) h fun y3 h=>?_
  refine q80 (v:=y3) (by kernel_rfl) h ?_ ?_
  ·
   intro h
   refine q342 hm hT hC (q2jq (q2j3 d) y3) h fun y4 h=>?_
   refine q7v (q7k (q7k ?_))
   cases h
   exact (hend _ (by kernel_rfl)).2
  ·
   intro h
   refine q7s (q7i ?_)
   refine q342 hm hT hC (q2js (q2j3 d) y3) h fun y5 h=>?_
   refine q7v (q7k ?_)
   cases h
   exact (hend _ (by kernel_rfl)).2
 ·
  intro h
  refine q7s (q7i (q7w ?_))
  refine q342 hm hT hC (q2jw (q2j3 d) y2) h fun y6 h=>?_
  refine q80 (v:=y6.1) (by kernel_rfl) h ?_ ?_
  ·
   intro h
   refine q342 hm hT hC (q2jy (q2j3 d) y6) h fun y7 h=>?_
   refine q7v (q7k ?_)
   cases h
   exact (hend _ (by kernel_rfl)).2
  ·
   intro h
   refine q7s (q7i ?_)
   refine q342 hm hT hC (q2k0 (q2j3 d) y6) h fun y8 h=>?_
   refine q7v ?_
   cases h
   exact (hend _ (by kernel_rfl)).2
abbrev q2k3:List Pk:=[.row Riii true,.row Riii true]
abbrev q2k4:Type:=Diii×Diii×Unit
abbrev q2k5:Type:=Int×Int
def q2k6 (r:q2k5):LV×List Ob:=(.agg [.int .i64 r.1,.int .i64 r.2],[])
def q2k7 (F:q2k4→Option q2k5):Go.Tx.Spec:=⟨157,q2k3,q2k5,F,q2k6⟩
abbrev q2k8:Type:=(qnh→Option qni)×Unit
def q2k9 (d:Nat):q2k8:=(qnm d,())
def q2ka (C:q2k8):List Go.Tx.Spec:=[qnk C.1]
abbrev q2kb:Type:=Int×Int×Int×Int×Int×Int
def q2kc (v:q2kb):St:=⟨[(0,.agg [i6 v.1,i6 v.2.1,i6 v.2.2.1]),(1,.agg [i6 v.2.2.2.1,i6 v.2.2.2.2.1,i6 v.2.2.2.2.2])],[]⟩
abbrev q2kd:Type:=Int×Int×Int×Int×Int×Int×Int×Int
def q2ke (v:q2kd):St:=⟨[(2,.ptr 0 0),(3,.ptr 1 0),(4,.ptr 2 0)],[.cells [i6 v.1,i6 v.2.1,i6 v.2.2.1],.cells [i6 v.2.2.2.1,i6 v.2.2.2.2.1,i6 v.2.2.2.2.2.1],.cells [i6 v.2.2.2.2.2.2.1,i6 v.2.2.2.2.2.2.2]]⟩
def q2kf (C:q2k8) (v:q2kb):Dt q2kd:=(Dt.ret (v.1,v.2.1,v.2.2.1,v.2.2.2.1,v.2.2.2.2.1,v.2.2.2.2.2,(0:Int),(0:Int)))
abbrev q35j {V Y:Type}:=@rg q2k8 V Y tysT (fun C=>(orc (q2ka C))) 22
theorem q2kg C v:q35j (regO (qct f157) 0) false (an [2,3,4]) q2kc q2kf q2ke C v:=rgI (by kernel_rfl)
abbrev q2kh:Type:=Int×Int×Int×Int
def q2ki (v:q2kh):St:=⟨[(4,.ptr 0 0),(5,.ptr 1 0)],[.cells [i6 v.1,i6 v.2.1],.cells [i6 v.2.2.1,i6 v.2.2.2]]⟩
def q2kj (C:q2k8) (v:q2kd):Dt q2kh:=(Dt.bnd (C.1 (((IntKind.wrap .i64 (v.2.1 - v.2.2.2.2.1)),()),((IntKind.wrap .i64 (v.2.2.2.2.2.1 - v.2.2.1)),()),())) fun r1=>(Dt.ret (v.2.2.2.2.2.2.1,v.2.2.2.2.2.2.2,r1.1,r1.2.1)))
theorem q2kk C v:q35j (regO (qct f157) 1) false (an [4,5]) q2ke q2kj q2ki C v:=rgI (by kernel_rfl)
abbrev q2kl:Type:=Int×Int
def q2km (v:q2kl):St:=⟨[(4,.ptr 0 0)],[.cells [i6 v.1,i6 v.2]]⟩
def q2kn (C:q2k8) (v:q2kh):Dt q2kl:=(Dt.ret (v.2.2.1,v.2.2.2))
theorem q2ko C v:q35j (regO (qct f157) 2) false [(4,.any)] q2ki q2kn q2km C v:=rgI (by kernel_rfl)
def q2kp (d:Nat) (x:q2k4):Option q2k5 :=
 (q2kf (q2k9 d) (x.1.1,x.1.2.1,x.1.2.2.1,x.2.1.1,x.2.1.2.1,x.2.1.2.2.1)).eval fun y0 =>
 (q2kj (q2k9 d) y0).eval fun y1 =>
 (q2kn (q2k9 d) y1).eval fun y2 =>
 some y2
theorem q2kq (d:Nat):COK prog (q2k7 (q2kp d)):=by
 have hm:prog.follows .mixedOrders=true:=mixed
 have hT:=tys
 have hC0:OrcOK prog (orc (q2ka (q2k9 d))):=qcn (by
  intro S hS
  simp only [q2ka,List.mem_cons,List.not_mem_nil,or_false] at hS
  subst hS;exact qno d)
 have hC:OrcOK prog (orc (q2ka (q2k9 d))):=hC0
 refine q8c (c:=qct f157) (fn:=f157) hT (by kernel_rfl) (by kernel_rfl) (by decide) fun x r h w0 φ0 Q hend=>?_
 replace h:q2kp d x=some r:=h
 unfold q2kp at h
 show Run prog w0 φ0 22 (qct f157) ⟨[(0,.agg [.int .i64 x.1.1,.int .i64 x.1.2.1,.int .i64 x.1.2.2.1]),(1,.agg [.int .i64 x.2.1.1,.int .i64 x.2.1.2.1,.int .i64 x.2.1.2.2.1])],[]⟩ Q
 refine q342 hm hT hC (q2kg (q2k9 d) (x.1.1,x.1.2.1,x.1.2.2.1,x.2.1.1,x.2.1.2.1,x.2.1.2.2.1)) h fun y0 h=>?_
 refine q342 hm hT hC (q2kk (q2k9 d) y0) h fun y1 h=>?_
 refine q342 hm hT hC (q2ko (q2k9 d) y1) h fun y2 h=>?_
 refine q7v ?_
 cases h
 exact (hend _ (by kernel_rfl)).2
abbrev q2kr:List Pk:=[.row qj5 true,.row Rii true]
abbrev q2ks:Type:=qj6×Dii×Unit
abbrev q2kt:Type:=List Diii
def q2ku (r:q2kt):LV×List Ob:=(.rs 0,[.rows Riii r])
def q2kv (F:q2ks→Option q2kt):Go.Tx.Spec:=⟨131,q2kr,q2kt,F,q2ku⟩
abbrev q2kw:Type:=(q2iy→Option q2iz)×(qpq→Option qpr)×(qwf→Option qwg)×(q2k4→Option q2k5)×Unit
def q2kx (d:Nat):q2kw:=(q2k1 d,qpv d,qwk d,q2kp d,())
def q2ky (C:q2kw):List Go.Tx.Spec:=[q2j1 C.1,qpt C.2.1,qwi C.2.2.1,q2k7 C.2.2.2.1]
abbrev q2kz:Type:=List Diii×Int×Int
def q2l0 (v:q2kz):St:=⟨[(0,.agg [.fz Riii v.1]),(1,.agg [i6 v.2.1,i6 v.2.2])],[]⟩
abbrev q2l1:Type:=List Diii×Int×Int
def q2l2 (v:q2l1):St:=⟨[(2,.ptr 0 0),(3,.ptr 1 0)],[.cells [.fz Riii v.1],.cells [i6 v.2.1,i6 v.2.2]]⟩
def q2l3 (C:q2kw) (v:q2kz):Dt q2l1:=(Dt.ret (v.1,v.2.1,v.2.2))
abbrev q35k {V Y:Type}:=@rg q2kw V Y tysT (fun C=>(orc (q2ky C))) 80
theorem q2l4 C v:q35k (regO (qct f131) 0) false [(2,(.box [.val Riii])),(3,.any)] q2l0 q2l3 q2l2 C v:=rgI (by kernel_rfl)
abbrev q2l5:Type:=List Diii×Int×Int
def q2l6 (v:q2l5):St:=⟨[(2,.ptr 0 0),(5,.ptr 1 0)],[.cells [.fz Riii v.1],.cells [i6 v.2.1,i6 v.2.2]]⟩
def q2l7 (C:q2kw) (v:q2l1):Dt q2l5:=(Dt.ret (v.1,v.2.1,v.2.2))
theorem q2l8 C v:q35k (regO (qct f131) 1) false [(2,(.box [.val Riii])),(5,.any)] q2l2 q2l7 q2l6 C v:=rgI (by kernel_rfl)
abbrev q2l9:Type:=List Diii×List Diii
def q2la (v:q2l9):St:=⟨[(2,.ptr 0 0),(6,.rs 1)],[.cells [.fz Riii v.1],.rows Riii v.2]⟩
def q2lb (C:q2kw) (v:q2l5):Dt q2l9:=(Dt.bnd (C.2.2.1 ((v.1,()),(v.2.1,v.2.2,()),())) fun r1=>(Dt.ite (inB (0:Int) (List.length r1)) (Dt.ret (v.1,([(v.2.1,v.2.2,(elt zi r1 ((0:Int)).toNat).1,())]:List Diii))) Dt.fail))
theorem q2lc C v:q35k (regO (qct f131) 2) true [(2,(.box [.val Riii])),(6,(.own Riii))] q2l6 q2lb q2la C v:=rgI (by kernel_rfl)
abbrev q2ld:Type:=List Diii×List Diii×Int×Int×Int
def q2le (v:q2ld):St:=⟨[(2,.ptr 0 0),(6,.rs 1),(7,.ptr 2 0)],[.cells [.fz Riii v.1],.rows Riii v.2.1,.cells [i6 v.2.2.1,i6 v.2.2.2.1,i6 v.2.2.2.2]]⟩
def q2lf (C:q2kw) (v:q2l9):Dt q2ld:=(Dt.ite (inB (IntKind.wrap .i64 ((List.length v.2:Int) - (1:Int))) (List.length v.2)) (Dt.bnd (C.2.1 ((v.1,()),((elt ziii v.2 ((IntKind.wrap .i64 ((List.length v.2:Int) - (1:Int)))).toNat).2.2.1,()),())) fun r1=>(Dt.ite (inB r1 (List.length v.1)) (Dt.ret (v.1,v.2,(elt ziii v.1 (r1).toNat).1,(elt ziii v.1 (r1).toNat).2.1,(elt ziii v.1 (r1).toNat).2.2.1)) Dt.fail)) Dt.fail)
theorem q2lg C v:q35k (regO (qct f131) 3) true [(2,(.box [.val Riii])),(6,(.own Riii)),(7,.any)] q2la q2lf q2le C v:=rgI (by kernel_rfl)
abbrev q2lh:Type:=Bool×List Diii×List Diii×Int×Int×Int×Int×Int
def q2li (v:q2lh):St:=⟨[(2,.ptr 0 0),(6,.rs 1),(7,.ptr 2 0),(8,.ptr 3 0),(9,.bool v.1)],[.cells [.fz Riii v.2.1],.rows Riii v.2.2.1,.cells [i6 v.2.2.2.1,i6 v.2.2.2.2.1,i6 v.2.2.2.2.2.1],.cells [i6 v.2.2.2.2.2.2.1,i6 v.2.2.2.2.2.2.2]]⟩
def q2lj (C:q2kw) (v:q2ld):Dt q2lh:=(Dt.ret (false,v.1,v.2.1,v.2.2.1,v.2.2.2.1,v.2.2.2.2,(0:Int),(0:Int)))
theorem q2lk C v:q35k (regO (qct f131) 4) false [(2,(.box [.val Riii])),(6,(.own Riii)),(7,.any),(8,.any),(9,.any)] q2le q2lj q2li C v:=rgI (by kernel_rfl)
abbrev q2ll:Type:=Bool×Int×List Diii×List Diii×Int×Int×Int×Int×Int
def q2lm (v:q2ll):St:=⟨[(2,.ptr 0 0),(6,.rs 1),(7,.ptr 2 0),(8,.ptr 3 0),(9,.bool v.1),(10,i6 v.2.1)],[.cells [.fz Riii v.2.2.1],.rows Riii v.2.2.2.1,.cells [i6 v.2.2.2.2.1,i6 v.2.2.2.2.2.1,i6 v.2.2.2.2.2.2.1],.cells [i6 v.2.2.2.2.2.2.2.1,i6 v.2.2.2.2.2.2.2.2]]⟩
def q2ln (C:q2kw) (v:q2lh):Dt q2ll:=(Dt.ret (v.1,(0:Int),v.2.1,v.2.2.1,v.2.2.2.1,v.2.2.2.2.1,v.2.2.2.2.2.1,v.2.2.2.2.2.2.1,v.2.2.2.2.2.2.2))
theorem q2lo C v:q35k (regO (qct f131) 5) false [(2,(.box [.val Riii])),(6,(.own Riii)),(7,.any),(8,.any),(9,.any),(10,.any)] q2li q2ln q2lm C v:=rgI (by kernel_rfl)
abbrev q2lp:Type:=Bool×Int×Bool×List Diii×List Diii×Int×Int×Int×Int×Int
def q2lq (v:q2lp):St:=⟨[(2,.ptr 0 0),(6,.rs 1),(7,.ptr 2 0),(8,.ptr 3 0),(9,.bool v.1),(10,i6 v.2.1),(39,.bool v.2.2.1)],[.cells [.fz Riii v.2.2.2.1],.rows Riii v.2.2.2.2.1,.cells [i6 v.2.2.2.2.2.1,i6 v.2.2.2.2.2.2.1,i6 v.2.2.2.2.2.2.2.1],.cells [i6 v.2.2.2.2.2.2.2.2.1,i6 v.2.2.2.2.2.2.2.2.2]]⟩
def q2lr (C:q2kw) (v:q2ll):Dt q2lp:=(Dt.ret (v.1,v.2.1,(decide (v.2.1<(List.length v.2.2.1:Int))),v.2.2.1,v.2.2.2.1,v.2.2.2.2.1,v.2.2.2.2.2.1,v.2.2.2.2.2.2.1,v.2.2.2.2.2.2.2.1,v.2.2.2.2.2.2.2.2))
theorem q2ls C v:q35k (regO (qct f131) 6) false [(2,(.box [.val Riii])),(6,(.own Riii)),(7,.any),(8,.any),(9,.any),(10,.any),(39,.any)] q2lm q2lr q2lq C v:=rgI (by kernel_rfl)
abbrev q2lt:Type:=Bool×Int×Bool×List Diii×List Diii×Int×Int×Int×Int×Int
def q2lu (v:q2lt):St:=⟨[(2,.ptr 0 0),(6,.rs 1),(7,.ptr 2 0),(8,.ptr 3 0),(9,.bool v.1),(10,i6 v.2.1),(50,.bool v.2.2.1)],[.cells [.fz Riii v.2.2.2.1],.rows Riii v.2.2.2.2.1,.cells [i6 v.2.2.2.2.2.1,i6 v.2.2.2.2.2.2.1,i6 v.2.2.2.2.2.2.2.1],.cells [i6 v.2.2.2.2.2.2.2.2.1,i6 v.2.2.2.2.2.2.2.2.2]]⟩
def q2lv (C:q2kw) (v:q2lp):Dt q2lt:=(Dt.ite (inB v.2.1 (List.length v.2.2.2.1)) (Dt.ret (v.1,v.2.1,(decide ((elt ziii v.2.2.2.1 (v.2.1).toNat).2.2.1≤v.2.2.2.2.2.2.2.1)),v.2.2.2.1,v.2.2.2.2.1,v.2.2.2.2.2.1,v.2.2.2.2.2.2.1,v.2.2.2.2.2.2.2.1,v.2.2.2.2.2.2.2.2.1,v.2.2.2.2.2.2.2.2.2)) Dt.fail)
theorem q2lw C v:q35k (regO (qct f131) 8) true [(2,(.box [.val Riii])),(6,(.own Riii)),(7,.any),(8,.any),(9,.any),(10,.any),(50,.any)] q2lq q2lv q2lu C v:=rgI (by kernel_rfl)
def q2lx (C:q2kw) (v:q2ll):Dt q2ll:=(Dt.ret (v.1,(IntKind.wrap .i64 (v.2.1+(1:Int))),v.2.2.1,v.2.2.2.1,v.2.2.2.2.1,v.2.2.2.2.2.1,v.2.2.2.2.2.2.1,v.2.2.2.2.2.2.2.1,v.2.2.2.2.2.2.2.2))
theorem q2ly C v:q35k (regO (qct f131) 7) false [(2,(.box [.val Riii])),(6,(.own Riii)),(7,.any),(8,.any),(9,.any),(10,.any)] q2lm q2lx q2lm C v:=rgI (by kernel_rfl)
def q2lz  (d:Nat) (self1:(List Diii×List Diii)→Option q2kt) (self2:(Bool×Int×List Diii×List Diii×Int×Int×Int×Int×Int)→Option q2kt) (z:Bool×Int×List Diii×List Diii×Int×Int×Int×Int×Int):Option (q2kt) :=
 (q2lx (q2kx d) z).eval fun y7 =>
 self2 y7
abbrev q2m0:Type:=Bool×Int×List Diii×List Diii×Int×Int×Int×Int×Int×Int×Int
def q2m1 (v:q2m0):St:=⟨[(2,.ptr 0 0),(6,.rs 1),(7,.ptr 2 0),(8,.ptr 3 0),(9,.bool v.1),(10,i6 v.2.1),(11,.ptr 4 0)],[.cells [.fz Riii v.2.2.1],.rows Riii v.2.2.2.1,.cells [i6 v.2.2.2.2.1,i6 v.2.2.2.2.2.1,i6 v.2.2.2.2.2.2.1],.cells [i6 v.2.2.2.2.2.2.2.1,i6 v.2.2.2.2.2.2.2.2.1],.cells [i6 v.2.2.2.2.2.2.2.2.2.1,i6 v.2.2.2.2.2.2.2.2.2.2]]⟩
def q2m2 (C:q2kw) (v:q2lt):Dt q2m0:=(Dt.ite (inB v.2.1 (List.length v.2.2.2.1)) (Dt.bnd (C.2.2.2.1 ((v.2.2.2.2.2.1,v.2.2.2.2.2.2.1,v.2.2.2.2.2.2.2.1,()),((elt ziii v.2.2.2.1 (v.2.1).toNat).1,(elt ziii v.2.2.2.1 (v.2.1).toNat).2.1,(elt ziii v.2.2.2.1 (v.2.1).toNat).2.2.1,()),())) fun r1=>(Dt.ret (v.1,v.2.1,v.2.2.2.1,v.2.2.2.2.1,v.2.2.2.2.2.1,v.2.2.2.2.2.2.1,v.2.2.2.2.2.2.2.1,v.2.2.2.2.2.2.2.2.1,v.2.2.2.2.2.2.2.2.2,r1.1,r1.2))) Dt.fail)
theorem q2m3 C v:q35k (regO (qct f131) 9) true [(2,(.box [.val Riii])),(6,(.own Riii)),(7,.any),(8,.any),(9,.any),(10,.any),(11,.any)] q2lu q2m2 q2m1 C v:=rgI (by kernel_rfl)
abbrev q2m4:Type:=Bool×Int×Bool×List Diii×List Diii×Int×Int×Int×Int×Int×Int×Int
def q2m5 (v:q2m4):St:=⟨[(2,.ptr 0 0),(6,.rs 1),(7,.ptr 2 0),(8,.ptr 3 0),(9,.bool v.1),(10,i6 v.2.1),(11,.ptr 4 0),(65,.bool v.2.2.1)],[.cells [.fz Riii v.2.2.2.1],.rows Riii v.2.2.2.2.1,.cells [i6 v.2.2.2.2.2.1,i6 v.2.2.2.2.2.2.1,i6 v.2.2.2.2.2.2.2.1],.cells [i6 v.2.2.2.2.2.2.2.2.1,i6 v.2.2.2.2.2.2.2.2.2.1],.cells [i6 v.2.2.2.2.2.2.2.2.2.2.1,i6 v.2.2.2.2.2.2.2.2.2.2.2]]⟩
def q2m6 (C:q2kw) (v:q2m0):Dt q2m4:=(Dt.ite (!v.1) (Dt.ret (v.1,v.2.1,true,v.2.2.1,v.2.2.2.1,v.2.2.2.2.1,v.2.2.2.2.2.1,v.2.2.2.2.2.2.1,v.2.2.2.2.2.2.2.1,v.2.2.2.2.2.2.2.2.1,v.2.2.2.2.2.2.2.2.2.1,v.2.2.2.2.2.2.2.2.2.2)) (Dt.bnd (C.1 ((v.2.2.2.2.2.2.2.2.2.1,v.2.2.2.2.2.2.2.2.2.2,()),(v.2.2.2.2.2.2.2.1,v.2.2.2.2.2.2.2.2.1,()),())) fun r1=>(Dt.ret (v.1,v.2.1,(decide (r1<(0:Int))),v.2.2.1,v.2.2.2.1,v.2.2.2.2.1,v.2.2.2.2.2.1,v.2.2.2.2.2.2.1,v.2.2.2.2.2.2.2.1,v.2.2.2.2.2.2.2.2.1,v.2.2.2.2.2.2.2.2.2.1,v.2.2.2.2.2.2.2.2.2.2))))
theorem q2m7 C v:q35k (regO (qct f131) 10) false [(2,(.box [.val Riii])),(6,(.own Riii)),(7,.any),(8,.any),(9,.any),(10,.any),(11,.any),(65,.any)] q2m1 q2m6 q2m5 C v:=rgI (by kernel_rfl)
def q2m8 (C:q2kw) (v:q2m4):Dt q2ll:=(Dt.ret (true,v.2.1,v.2.2.2.1,v.2.2.2.2.1,v.2.2.2.2.2.1,v.2.2.2.2.2.2.1,v.2.2.2.2.2.2.2.1,v.2.2.2.2.2.2.2.2.2.2.1,v.2.2.2.2.2.2.2.2.2.2.2))
theorem q2m9 C v:q35k (regO (qct f131) 11) false [(2,(.box [.val Riii])),(6,(.own Riii)),(7,.any),(8,.any),(9,.any),(10,.any)] q2m5 q2m8 q2lm C v:=rgI (by kernel_rfl)
abbrev q2ma:Type:=Bool×List Diii×List Diii×Int×Int
def q2mb (v:q2ma):St:=⟨[(2,.ptr 0 0),(6,.rs 1),(8,.ptr 2 0),(68,.bool v.1)],[.cells [.fz Riii v.2.1],.rows Riii v.2.2.1,.cells [i6 v.2.2.2.1,i6 v.2.2.2.2]]⟩
def q2mc (C:q2kw) (v:q2lp):Dt q2ma:=(Dt.ret ((!v.1),v.2.2.2.1,v.2.2.2.2.1,v.2.2.2.2.2.2.2.2.1,v.2.2.2.2.2.2.2.2.2))
theorem q2md C v:q35k (regO (qct f131) 12) false [(2,(.box [.val Riii])),(6,(.own Riii)),(8,.any),(68,.any)] q2lq q2mc q2mb C v:=rgI (by kernel_rfl)
abbrev q2me:Type:=List Diii
def q2mf (v:q2me):St:=⟨[(4,.rs 0)],[.rows Riii v]⟩
def q2mg (C:q2kw) (v:q2ma):Dt q2me:=(Dt.ret v.2.2.1)
theorem q2mh C v:q35k (regO (qct f131) 13) false [(4,(.own Riii))] q2mb q2mg q2mf C v:=rgI (by kernel_rfl)
def q2mi (C:q2kw) (v:q2ma):Dt q2l9:=(Dt.bnd (C.2.2.1 ((v.2.1,()),(v.2.2.2.1,v.2.2.2.2,()),())) fun r1=>(Dt.ite (inB (0:Int) (List.length r1)) (Dt.ite (apB (List.length v.2.2.1) (List.length ([(v.2.2.2.1,v.2.2.2.2,(elt zi r1 ((0:Int)).toNat).1,())]:List Diii))) (Dt.ret (v.2.1,(v.2.2.1++([(v.2.2.2.1,v.2.2.2.2,(elt zi r1 ((0:Int)).toNat).1,())]:List Diii)))) Dt.fail) Dt.fail))
theorem q2mj C v:q35k (regO (qct f131) 14) true [(2,(.box [.val Riii])),(6,(.own Riii))] q2mb q2mi q2la C v:=rgI (by kernel_rfl)
def q2mk (d:Nat) (self1:(List Diii×List Diii)→Option q2kt) (self2:(Bool×Int×List Diii×List Diii×Int×Int×Int×Int×Int)→Option q2kt) (x2:Bool×Int×List Diii×List Diii×Int×Int×Int×Int×Int):Option q2kt :=
 (q2lr (q2kx d) x2).eval fun y6 =>
 bif y6.2.2.1 then ((q2lv (q2kx d) y6).eval fun y8 =>
 bif y8.2.2.1 then (q2lz d self1 self2 (y8.1,y8.2.1,y8.2.2.2.1,y8.2.2.2.2.1,y8.2.2.2.2.2.1,y8.2.2.2.2.2.2.1,y8.2.2.2.2.2.2.2.1,y8.2.2.2.2.2.2.2.2.1,y8.2.2.2.2.2.2.2.2.2)) else ((q2m2 (q2kx d) y8).eval fun y9 =>
 (q2m6 (q2kx d) y9).eval fun y10 =>
 bif y10.2.2.1 then ((q2m8 (q2kx d) y10).eval fun y11 =>
 q2lz d self1 self2 y11) else (q2lz d self1 self2 (y10.1,y10.2.1,y10.2.2.2.1,y10.2.2.2.2.1,y10.2.2.2.2.2.1,y10.2.2.2.2.2.2.1,y10.2.2.2.2.2.2.2.1,y10.2.2.2.2.2.2.2.2.1,y10.2.2.2.2.2.2.2.2.2.1)))) else ((q2mc (q2kx d) y6).eval fun y12 =>
 bif y12.1 then ((q2mg (q2kx d) y12).eval fun y13 =>
 some y13) else ((q2mi (q2kx d) y12).eval fun y14 =>
 self1 y14))
def q2ml (d:Nat) (self1:(List Diii×List Diii)→Option q2kt) (x1:List Diii×List Diii):Option q2kt :=
 (q2lf (q2kx d) x1).eval fun y3 =>
 (q2lj (q2kx d) y3).eval fun y4 =>
 (q2ln (q2kx d) y4).eval fun y5 =>
 iter (q2mk d self1) d y5
def q2mm (d:Nat) (x:q2ks):Option q2kt :=
 (q2l3 (q2kx d) (x.1.1,x.2.1.1,x.2.1.2.1)).eval fun y0 =>
 (q2l7 (q2kx d) y0).eval fun y1 =>
 (q2lb (q2kx d) y1).eval fun y2 =>
 iter (q2ml d ) d y2
theorem q2mn (d:Nat):COK prog (q2kv (q2mm d)):=by
 have hm:prog.follows .mixedOrders=true:=mixed
 have hT:=tys
 have hC0:OrcOK prog (orc (q2ky (q2kx d))):=qcn (by
  intro S hS
  simp only [q2ky,List.mem_cons,List.not_mem_nil,or_false] at hS
  rcases hS with rfl | rfl | rfl | rfl
  · exact q2k2 d
  · exact qpx d
  · exact qwm d
  · exact q2kq d)
 have hC:OrcOK prog (orc (q2ky (q2kx d))):=hC0
 refine q8c (c:=qct f131) (fn:=f131) hT (by kernel_rfl) (by kernel_rfl) (by decide) fun x r h w0 φ0 Q hend=>?_
 replace h:q2mm d x=some r:=h
 unfold q2mm at h
 show Run prog w0 φ0 80 (qct f131) ⟨[(0,.agg [.fz Riii x.1.1]),(1,.agg [.int .i64 x.2.1.1,.int .i64 x.2.1.2.1])],[]⟩ Q
 refine q342 hm hT hC (q2l4 (q2kx d) (x.1.1,x.2.1.1,x.2.1.2.1)) h fun y0 h=>?_
 refine q342 hm hT hC (q2l8 (q2kx d) y0) h fun y1 h=>?_
 refine q342 hm hT hC (q2lc (q2kx d) y1) h fun y2 h=>?_
 refine q7x ?_
 refine q82 (G:=iter (q2ml d )) (S:=(fun x1=>⟨[(2,.ptr 0 0),(6,.rs 1)],[.cells [.fz Riii x1.1],.rows Riii x1.2]⟩:List Diii×List Diii→St)) (fun _=>rfl) ?_ d _ h
 intro n1 x1 h K1 hn1
 replace h:q2ml d  (iter (q2ml d ) n1) x1=some r:=h
 generalize iter (q2ml d ) n1=self1 at h hn1
 unfold q2ml at h
 refine q7x ?_
 refine q342 hm hT hC (q2lg (q2kx d) x1) h fun y3 h=>?_
 refine q342 hm hT hC (q2lk (q2kx d) y3) h fun y4 h=>?_
 refine q7w ?_
 refine q342 hm hT hC (q2lo (q2kx d) y4) h fun y5 h=>?_
 refine q7x ?_
 refine q82 (G:=iter (q2mk d self1)) (S:=(fun x2=>⟨[(2,.ptr 0 0),(6,.rs 1),(7,.ptr 2 0),(8,.ptr 3 0),(9,.bool x2.1),(10,i6 x2.2.1)],[.cells [.fz Riii x2.2.2.1],.rows Riii x2.2.2.2.1,.cells [i6 x2.2.2.2.2.1,i6 x2.2.2.2.2.2.1,i6 x2.2.2.2.2.2.2.1],.cells [i6 x2.2.2.2.2.2.2.2.1,i6 x2.2.2.2.2.2.2.2.2]]⟩:Bool×Int×List Diii×List Diii×Int×Int×Int×Int×Int→St)) (fun _=>rfl) ?_ d _ h
 intro n2 x2 h K2 hn2
 replace h:q2mk d self1 (iter (q2mk d self1) n2) x2=some r:=h
 generalize iter (q2mk d self1) n2=self2 at h hn2
 unfold q2mk at h
 refine q7w ?_
 refine q342 hm hT hC (q2ls (q2kx d) x2) h fun y6 h=>?_
 refine q80 (v:=y6.2.2.1) (by kernel_rfl) h ?_ ?_
 ·
  intro h
  refine q7s (q7i ?_)
  refine q7z (r:=r) (F:=q2lz d self1 self2) (S:=(fun z=>⟨[(2,.ptr 0 0),(6,.rs 1),(7,.ptr 2 0),(8,.ptr 3 0),(9,.bool z.1),(10,i6 z.2.1)],[.cells [.fz Riii z.2.2.1],.rows Riii z.2.2.2.1,.cells [i6 z.2.2.2.2.1,i6 z.2.2.2.2.2.1,i6 z.2.2.2.2.2.2.1],.cells [i6 z.2.2.2.2.2.2.2.1,i6 z.2.2.2.2.2.2.2.2]]⟩:Bool×Int×List Diii×List Diii×Int×Int×Int×Int×Int→St)) ?_ ?_
  ·
   intro z h
   unfold q2lz at h
   refine q81 hm hT hC (q2ly (q2kx d) z) h ?_
   intro y7 h
   exact hn2 _ h
  intro hj3
  refine q7x (q7w ?_)
  refine q342 hm hT hC (q2lw (q2kx d) y6) h fun y8 h=>?_
  refine q80 (v:=y8.2.2.1) (by kernel_rfl) h ?_ ?_
  ·
   intro h
   refine q7u (q7j (q7n ?_))
   refine qcs (s:=⟨[(2,.ptr 0 0),(6,.rs 1),(7,.ptr 2 0),(8,.ptr 3 0),(9,.bool y8.1),(10,.int .i64 y8.2.1)],[.cells [.fz Riii y8.2.2.2.1],.rows Riii y8.2.2.2.2.1,.cells [.int .i64 y8.2.2.2.2.2.1,.int .i64 y8.2.2.2.2.2.2.1,.int .i64 y8.2.2.2.2.2.2.2.1],.cells [.int .i64 y8.2.2.2.2.2.2.2.2.1,.int .i64 y8.2.2.2.2.2.2.2.2.2]]⟩) [50] (by kernel_rfl) ?_
   exact hj3 _ h
  ·
   intro h
   refine q7s (q7i ?_)
   refine q342 hm hT hC (q2m3 (q2kx d) y8) h fun y9 h=>?_
   refine q342 hm hT hC (q2m7 (q2kx d) y9) h fun y10 h=>?_
   refine q80 (v:=y10.2.2.1) (by kernel_rfl) h ?_ ?_
   ·
    intro h
    refine q81 hm hT hC (q2m9 (q2kx d) y10) h ?_
    intro y11 h
    refine q7l ?_
    exact hj3 _ h
   ·
    intro h
    refine q7s (q7l ?_)
    refine qcs (s:=⟨[(2,.ptr 0 0),(6,.rs 1),(7,.ptr 2 0),(8,.ptr 3 0),(9,.bool y10.1),(10,.int .i64 y10.2.1)],[.cells [.fz Riii y10.2.2.2.1],.rows Riii y10.2.2.2.2.1,.cells [.int .i64 y10.2.2.2.2.2.1,.int .i64 y10.2.2.2.2.2.2.1,.int .i64 y10.2.2.2.2.2.2.2.1],.cells [.int .i64 y10.2.2.2.2.2.2.2.2.1,.int .i64 y10.2.2.2.2.2.2.2.2.2.1]]⟩) [11,65] (by kernel_rfl) ?_
    exact hj3 _ h
 ·
  intro h
  refine q7u (q7j (q7j (q7n (q7i (q7w ?_)))))
  refine q342 hm hT hC (q2md (q2kx d) y6) h fun y12 h=>?_
  refine q80 (v:=y12.1) (by kernel_rfl) h ?_ ?_
  ·
   intro h
   refine q342 hm hT hC (q2mh (q2kx d) y12) h fun y13 h=>?_
   refine q7v (q7k (q7m (q7k (q7m ?_))))
   cases h
   exact (hend _ (by kernel_rfl)).2
  ·
   intro h
   refine q7s (q7i ?_)
   refine q81 hm hT hC (q2mj (q2kx d) y12) h ?_
   intro y14 h
   refine q7l ?_
   exact hn1 _ h
abbrev q2mo:List Pk:=[.row qj5 true,.row Rii true,.row Rii true]
abbrev q2mp:Type:=qj6×Dii×Dii×Unit
abbrev q2mq:Type:=Int
def q2mr (r:q2mq):LV×List Ob:=(.int .i64 r,[])
def q2ms (F:q2mp→Option q2mq):Go.Tx.Spec:=⟨70,q2mo,q2mq,F,q2mr⟩
abbrev q2mt:Type:=(q2iy→Option q2iz)×(qph→Option qpi)×(q1rp→Option q1rq)×Unit
def q2mu (d:Nat):q2mt:=(q2k1 d,qpm d,q1sc d,())
def q2mv (C:q2mt):List Go.Tx.Spec:=[q2j1 C.1,qpk C.2.1,q1rs C.2.2.1]
abbrev q2mw:Type:=List Diii×Int×Int×Int×Int
def q2mx (v:q2mw):St:=⟨[(0,.agg [.fz Riii v.1]),(1,.agg [i6 v.2.1,i6 v.2.2.1]),(2,.agg [i6 v.2.2.2.1,i6 v.2.2.2.2])],[]⟩
abbrev q2my:Type:=List Diii×Int×Int×Int×Int
def q2mz (v:q2my):St:=⟨[(3,.ptr 0 0),(4,.ptr 1 0),(5,.ptr 2 0)],[.cells [.fz Riii v.1],.cells [i6 v.2.1,i6 v.2.2.1],.cells [i6 v.2.2.2.1,i6 v.2.2.2.2]]⟩
def q2n0 (C:q2mt) (v:q2mw):Dt q2my:=(Dt.ret (v.1,v.2.1,v.2.2.1,v.2.2.2.1,v.2.2.2.2))
abbrev q35l {V Y:Type}:=@rg q2mt V Y tysT (fun C=>(orc (q2mv C))) 20
theorem q2n1 C v:q35l (regO (qct f70) 0) false [(3,(.box [.val Riii])),(4,.any),(5,.any)] q2mx q2n0 q2mz C v:=rgI (by kernel_rfl)
abbrev q2n2:Type:=Bool×List Diii×Int×Int×Int×Int
def q2n3 (v:q2n2):St:=⟨[(3,.ptr 0 0),(4,.ptr 1 0),(5,.ptr 2 0),(9,.bool v.1)],[.cells [.fz Riii v.2.1],.cells [i6 v.2.2.1,i6 v.2.2.2.1],.cells [i6 v.2.2.2.2.1,i6 v.2.2.2.2.2]]⟩
def q2n4 (C:q2mt) (v:q2my):Dt q2n2:=(Dt.bnd (C.2.1 ((v.1,()),())) fun r1=>(Dt.ret ((r1 != (0:Int)),v.1,v.2.1,v.2.2.1,v.2.2.2.1,v.2.2.2.2)))
theorem q2n5 C v:q35l (regO (qct f70) 1) false [(3,(.box [.val Riii])),(4,.any),(5,.any),(9,.any)] q2mz q2n4 q2n3 C v:=rgI (by kernel_rfl)
abbrev q2n6:Type:=Int
def q2n7 (v:q2n6):St:=⟨[(6,i6 v)],[]⟩
def q2n8 (C:q2mt) (v:q2n2):Dt q2n6:=(Dt.bnd (C.2.1 ((v.2.1,()),())) fun r1=>(Dt.ret r1))
theorem q2n9 C v:q35l (regO (qct f70) 2) false [(6,.any)] q2n3 q2n8 q2n7 C v:=rgI (by kernel_rfl)
abbrev q2na:Type:=Bool×Int×Int×Int×Int
def q2nb (v:q2na):St:=⟨[(4,.ptr 0 0),(5,.ptr 1 0),(15,.bool v.1)],[.cells [i6 v.2.1,i6 v.2.2.1],.cells [i6 v.2.2.2.1,i6 v.2.2.2.2]]⟩
def q2nc (C:q2mt) (v:q2n2):Dt q2na:=(Dt.bnd (C.2.2.1 ((v.2.2.1,v.2.2.2.1,()),(v.2.2.2.2.1,v.2.2.2.2.2,()),())) fun r1=>(Dt.ret ((r1 != (0:Int)),v.2.2.1,v.2.2.2.1,v.2.2.2.2.1,v.2.2.2.2.2)))
theorem q2nd C v:q35l (regO (qct f70) 3) false (an [4,5,15]) q2n3 q2nc q2nb C v:=rgI (by kernel_rfl)
def q2ne (C:q2mt) (v:q2na):Dt q2n6:=(Dt.ret (8:Int))
theorem q2nf C v:q35l (regO (qct f70) 4) false [(6,.any)] q2nb q2ne q2n7 C v:=rgI (by kernel_rfl)
abbrev q2ng:Type:=Bool
def q2nh (v:q2ng):St:=⟨[(19,.bool v)],[]⟩
def q2ni (C:q2mt) (v:q2na):Dt q2ng:=(Dt.bnd (C.1 ((v.2.1,v.2.2.1,()),(v.2.2.2.1,v.2.2.2.2,()),())) fun r1=>(Dt.ret (decide (r1 > (0:Int)))))
theorem q2nj C v:q35l (regO (qct f70) 5) false [(19,.any)] q2nb q2ni q2nh C v:=rgI (by kernel_rfl)
def q2nk (C:q2mt) (v:q2ng):Dt q2n6:=(Dt.ret (2:Int))
theorem q2nl C v:q35l (regO (qct f70) 6) false [(6,.any)] q2nh q2nk q2n7 C v:=rgI (by kernel_rfl)
def q2nm (C:q2mt) (v:q2ng):Dt q2n6:=(Dt.ret (0:Int))
theorem q2nn C v:q35l (regO (qct f70) 7) false [(6,.any)] q2nh q2nm q2n7 C v:=rgI (by kernel_rfl)
def q2no (d:Nat) (x:q2mp):Option q2mq :=
 (q2n0 (q2mu d) (x.1.1,x.2.1.1,x.2.1.2.1,x.2.2.1.1,x.2.2.1.2.1)).eval fun y0 =>
 (q2n4 (q2mu d) y0).eval fun y1 =>
 bif y1.1 then ((q2n8 (q2mu d) y1).eval fun y2 =>
 some y2) else ((q2nc (q2mu d) y1).eval fun y3 =>
 bif y3.1 then ((q2ne (q2mu d) y3).eval fun y4 =>
 some y4) else ((q2ni (q2mu d) y3).eval fun y5 =>
 bif y5 then ((q2nk (q2mu d) y5).eval fun y6 =>
 some y6) else ((q2nm (q2mu d) y5).eval fun y7 =>
 some y7)))
theorem q2np (d:Nat):COK prog (q2ms (q2no d)):=by
 have hm:prog.follows .mixedOrders=true:=mixed
 have hT:=tys
 have hC0:OrcOK prog (orc (q2mv (q2mu d))):=qcn (by
  intro S hS
  simp only [q2mv,List.mem_cons,List.not_mem_nil,or_false] at hS
  rcases hS with rfl | rfl | rfl
  · exact q2k2 d
  · exact qpo d
  · exact q1sd d)
 have hC:OrcOK prog (orc (q2mv (q2mu d))):=hC0
 refine q8c (c:=qct f70) (fn:=f70) hT (by kernel_rfl) (by kernel_rfl) (by decide) fun x r h w0 φ0 Q hend=>?_
 replace h:q2no d x=some r:=h
 unfold q2no at h
 show Run prog w0 φ0 20 (qct f70) ⟨[(0,.agg [.fz Riii x.1.1]),(1,.agg [.int .i64 x.2.1.1,.int .i64 x.2.1.2.1]),(2,.agg [.int .i64 x.2.2.1.1,.int .i64 x.2.2.1.2.1])],[]⟩ Q
 refine q342 hm hT hC (q2n1 (q2mu d) (x.1.1,x.2.1.1,x.2.1.2.1,x.2.2.1.1,x.2.2.1.2.1)) h fun y0 h=>?_
 refine q7w ?_
 refine q342 hm hT hC (q2n5 (q2mu d) y0) h fun y1 h=>?_
 refine q80 (v:=y1.1) (by kernel_rfl) h ?_ ?_
 ·
  intro h
  refine q342 hm hT hC (q2n9 (q2mu d) y1) h fun y2 h=>?_
  refine q7v (q7k ?_)
  cases h
  exact (hend _ (by kernel_rfl)).2
 ·
  intro h
  refine q7s (q7i (q7w ?_))
  refine q342 hm hT hC (q2nd (q2mu d) y1) h fun y3 h=>?_
  refine q80 (v:=y3.1) (by kernel_rfl) h ?_ ?_
  ·
   intro h
   refine q342 hm hT hC (q2nf (q2mu d) y3) h fun y4 h=>?_
   refine q7v (q7k ?_)
   cases h
   exact (hend _ (by kernel_rfl)).2
  ·
   intro h
   refine q7s (q7i (q7w ?_))
   refine q342 hm hT hC (q2nj (q2mu d) y3) h fun y5 h=>?_
   refine q80 (v:=y5) (by kernel_rfl) h ?_ ?_
   ·
    intro h
    refine q342 hm hT hC (q2nl (q2mu d) y5) h fun y6 h=>?_
    refine q7v (q7k ?_)
    cases h
    exact (hend _ (by kernel_rfl)).2
   ·
    intro h
    refine q7s (q7i ?_)
    refine q342 hm hT hC (q2nn (q2mu d) y5) h fun y7 h=>?_
    refine q7v ?_
    cases h
    exact (hend _ (by kernel_rfl)).2
abbrev q2nq:List Pk:=[.row qj5 true,.row Rii true,.row Rii true]
abbrev q2nr:Type:=qj6×Dii×Dii×Unit
abbrev q2ns:Type:=List qji
def q2nt (r:q2ns):LV×List Ob:=(.rs 0,[.rows qjh r])
def q2nu (F:q2nr→Option q2ns):Go.Tx.Spec:=⟨72,q2nq,q2ns,F,q2nt⟩
abbrev q2nv:Type:=(q2iy→Option q2iz)×(q2ks→Option q2kt)×Unit
def q2nw (d:Nat):q2nv:=(q2k1 d,q2mm d,())
def q2nx (C:q2nv):List Go.Tx.Spec:=[q2j1 C.1,q2kv C.2.1]
abbrev q2ny:Type:=List Diii×Int×Int×Int×Int
def q2nz (v:q2ny):St:=⟨[(0,.agg [.fz Riii v.1]),(1,.agg [i6 v.2.1,i6 v.2.2.1]),(2,.agg [i6 v.2.2.2.1,i6 v.2.2.2.2])],[]⟩
abbrev q2o0:Type:=List Diii×Int×Int×Int×Int
def q2o1 (v:q2o0):St:=⟨[(3,.ptr 0 0),(4,.ptr 1 0),(5,.ptr 2 0)],[.cells [.fz Riii v.1],.cells [i6 v.2.1,i6 v.2.2.1],.cells [i6 v.2.2.2.1,i6 v.2.2.2.2]]⟩
def q2o2 (C:q2nv) (v:q2ny):Dt q2o0:=(Dt.ret (v.1,v.2.1,v.2.2.1,v.2.2.2.1,v.2.2.2.2))
abbrev q35m {V Y:Type}:=@rg q2nv V Y tysT (fun C=>(orc (q2nx C))) 72
theorem q2o3 C v:q35m (regO (qct f72) 0) false [(3,(.box [.val Riii])),(4,.any),(5,.any)] q2nz q2o2 q2o1 C v:=rgI (by kernel_rfl)
abbrev q2o4:Type:=Int×Int×List Diii
def q2o5 (v:q2o4):St:=⟨[(5,.ptr 0 0),(7,.rs 1)],[.cells [i6 v.1,i6 v.2.1],.rows Riii v.2.2]⟩
def q2o6 (C:q2nv) (v:q2o0):Dt q2o4:=(Dt.bnd (C.2.1 ((v.1,()),(v.2.1,v.2.2.1,()),())) fun r1=>(Dt.ret (v.2.2.2.1,v.2.2.2.2,r1)))
theorem q2o7 C v:q35m (regO (qct f72) 1) false [(5,.any),(7,(.own Riii))] q2o1 q2o6 q2o5 C v:=rgI (by kernel_rfl)
abbrev q2o8:Type:=Int×Int×List Diii×List qji
def q2o9 (v:q2o8):St:=⟨[(5,.ptr 0 0),(7,.rs 1),(8,.rs 2)],[.cells [i6 v.1,i6 v.2.1],.rows Riii v.2.2.1,.rows qjh v.2.2.2]⟩
def q2oa (C:q2nv) (v:q2o4):Dt q2o8:=(Dt.ret (v.1,v.2.1,v.2.2,([]:List qji)))
theorem q2ob C v:q35m (regO (qct f72) 2) false [(5,.any),(7,(.own Riii)),(8,(.own qjh))] q2o5 q2oa q2o9 C v:=rgI (by kernel_rfl)
abbrev q2oc:Type:=Int×Int×Int×List Diii×List qji
def q2od (v:q2oc):St:=⟨[(5,.ptr 0 0),(7,.rs 1),(8,.rs 2),(9,i6 v.1)],[.cells [i6 v.2.1,i6 v.2.2.1],.rows Riii v.2.2.2.1,.rows qjh v.2.2.2.2]⟩
def q2oe (C:q2nv) (v:q2o8):Dt q2oc:=(Dt.ret ((0:Int),v.1,v.2.1,v.2.2.1,v.2.2.2))
theorem q2of C v:q35m (regO (qct f72) 3) false [(5,.any),(7,(.own Riii)),(8,(.own qjh)),(9,.any)] q2o9 q2oe q2od C v:=rgI (by kernel_rfl)
abbrev q2og:Type:=Int×Bool×Int×Int×List Diii×List qji
def q2oh (v:q2og):St:=⟨[(5,.ptr 0 0),(7,.rs 1),(8,.rs 2),(9,i6 v.1),(17,.bool v.2.1)],[.cells [i6 v.2.2.1,i6 v.2.2.2.1],.rows Riii v.2.2.2.2.1,.rows qjh v.2.2.2.2.2]⟩
def q2oi (C:q2nv) (v:q2oc):Dt q2og:=(Dt.ret (v.1,(decide (v.1<(List.length v.2.2.2.1:Int))),v.2.1,v.2.2.1,v.2.2.2.1,v.2.2.2.2))
theorem q2oj C v:q35m (regO (qct f72) 4) false [(5,.any),(7,(.own Riii)),(8,(.own qjh)),(9,.any),(17,.any)] q2od q2oi q2oh C v:=rgI (by kernel_rfl)
abbrev q2ok:Type:=Int×Bool×Int×Int×List Diii×List qji
def q2ol (v:q2ok):St:=⟨[(5,.ptr 0 0),(7,.rs 1),(8,.rs 2),(9,i6 v.1),(31,.bool v.2.1)],[.cells [i6 v.2.2.1,i6 v.2.2.2.1],.rows Riii v.2.2.2.2.1,.rows qjh v.2.2.2.2.2]⟩
def q2om (C:q2nv) (v:q2og):Dt q2ok:=(Dt.ite (decide (v.1 > (0:Int))) (Dt.ite (inB v.1 (List.length v.2.2.2.2.1)) (Dt.bnd (C.1 (((elt ziii v.2.2.2.2.1 (v.1).toNat).1,(elt ziii v.2.2.2.2.1 (v.1).toNat).2.1,()),(v.2.2.1,v.2.2.2.1,()),())) fun r1=>(Dt.ret (v.1,(decide (r1≥(0:Int))),v.2.2.1,v.2.2.2.1,v.2.2.2.2.1,v.2.2.2.2.2))) Dt.fail) (Dt.ret (v.1,false,v.2.2.1,v.2.2.2.1,v.2.2.2.2.1,v.2.2.2.2.2)))
theorem q2on C v:q35m (regO (qct f72) 6) true [(5,.any),(7,(.own Riii)),(8,(.own qjh)),(9,.any),(31,.any)] q2oh q2om q2ol C v:=rgI (by kernel_rfl)
abbrev q2oo:Type:=List qji
def q2op (v:q2oo):St:=⟨[(6,.rs 0)],[.rows qjh v]⟩
def q2oq (C:q2nv) (v:q2ok):Dt q2oo:=(Dt.ret v.2.2.2.2.2)
theorem q2or C v:q35m (regO (qct f72) 7) false [(6,(.own qjh))] q2ol q2oq q2op C v:=rgI (by kernel_rfl)
abbrev q2os:Type:=Int×Int×Int×List Diii×List qji×Int×Int
def q2ot (v:q2os):St:=⟨[(5,.ptr 0 0),(7,.rs 1),(8,.rs 2),(9,i6 v.1),(10,.ptr 3 0)],[.cells [i6 v.2.1,i6 v.2.2.1],.rows Riii v.2.2.2.1,.rows qjh v.2.2.2.2.1,.cells [i6 v.2.2.2.2.2.1,i6 v.2.2.2.2.2.2]]⟩
def q2ou (C:q2nv) (v:q2ok):Dt q2os:=(Dt.ret (v.1,v.2.2.1,v.2.2.2.1,v.2.2.2.2.1,v.2.2.2.2.2,v.2.2.1,v.2.2.2.1))
theorem q2ov C v:q35m (regO (qct f72) 8) false [(5,.any),(7,(.own Riii)),(8,(.own qjh)),(9,.any),(10,.any)] q2ol q2ou q2ot C v:=rgI (by kernel_rfl)
abbrev q2ow:Type:=Int×Bool×Int×Int×List Diii×List qji×Int×Int
def q2ox (v:q2ow):St:=⟨[(5,.ptr 0 0),(7,.rs 1),(8,.rs 2),(9,i6 v.1),(10,.ptr 3 0),(49,.bool v.2.1)],[.cells [i6 v.2.2.1,i6 v.2.2.2.1],.rows Riii v.2.2.2.2.1,.rows qjh v.2.2.2.2.2.1,.cells [i6 v.2.2.2.2.2.2.1,i6 v.2.2.2.2.2.2.2]]⟩
def q2oy (C:q2nv) (v:q2os):Dt q2ow:=(Dt.ite (decide ((IntKind.wrap .i64 (v.1+(1:Int)))<(List.length v.2.2.2.1:Int))) (Dt.ite (inB (IntKind.wrap .i64 (v.1+(1:Int))) (List.length v.2.2.2.1)) (Dt.bnd (C.1 (((elt ziii v.2.2.2.1 ((IntKind.wrap .i64 (v.1+(1:Int)))).toNat).1,(elt ziii v.2.2.2.1 ((IntKind.wrap .i64 (v.1+(1:Int)))).toNat).2.1,()),(v.2.1,v.2.2.1,()),())) fun r1=>(Dt.ret (v.1,(decide (r1<(0:Int))),v.2.1,v.2.2.1,v.2.2.2.1,v.2.2.2.2.1,v.2.2.2.2.2.1,v.2.2.2.2.2.2))) Dt.fail) (Dt.ret (v.1,false,v.2.1,v.2.2.1,v.2.2.2.1,v.2.2.2.2.1,v.2.2.2.2.2.1,v.2.2.2.2.2.2)))
theorem q2oz C v:q35m (regO (qct f72) 9) true [(5,.any),(7,(.own Riii)),(8,(.own qjh)),(9,.any),(10,.any),(49,.any)] q2ot q2oy q2ox C v:=rgI (by kernel_rfl)
def q2p0 (C:q2nv) (v:q2ow):Dt q2os:=(Dt.ite (inB (IntKind.wrap .i64 (v.1+(1:Int))) (List.length v.2.2.2.2.1)) (Dt.ret (v.1,v.2.2.1,v.2.2.2.1,v.2.2.2.2.1,v.2.2.2.2.2.1,(elt ziii v.2.2.2.2.1 ((IntKind.wrap .i64 (v.1+(1:Int)))).toNat).1,(elt ziii v.2.2.2.2.1 ((IntKind.wrap .i64 (v.1+(1:Int)))).toNat).2.1)) Dt.fail)
theorem q2p1 C v:q35m (regO (qct f72) 10) false [(5,.any),(7,(.own Riii)),(8,(.own qjh)),(9,.any),(10,.any)] q2ox q2p0 q2ot C v:=rgI (by kernel_rfl)
def q2p2 (C:q2nv) (v:q2os):Dt q2oc:=(Dt.ite (inB v.1 (List.length v.2.2.2.1)) (Dt.ite (inB v.1 (List.length v.2.2.2.1)) (Dt.ite (apB (List.length v.2.2.2.2.1) (List.length ([((elt ziii v.2.2.2.1 (v.1).toNat).1,(elt ziii v.2.2.2.1 (v.1).toNat).2.1,v.2.2.2.2.2.1,v.2.2.2.2.2.2,(elt ziii v.2.2.2.1 (v.1).toNat).2.2.1,())]:List qji))) (Dt.ret (v.1,v.2.1,v.2.2.1,v.2.2.2.1,(v.2.2.2.2.1++([((elt ziii v.2.2.2.1 (v.1).toNat).1,(elt ziii v.2.2.2.1 (v.1).toNat).2.1,v.2.2.2.2.2.1,v.2.2.2.2.2.2,(elt ziii v.2.2.2.1 (v.1).toNat).2.2.1,())]:List qji)))) Dt.fail) Dt.fail) Dt.fail)
theorem q2p3 C v:q35m (regO (qct f72) 11) true [(5,.any),(7,(.own Riii)),(8,(.own qjh)),(9,.any)] q2ot q2p2 q2od C v:=rgI (by kernel_rfl)
def q2p4 (C:q2nv) (v:q2oc):Dt q2oc:=(Dt.ret ((IntKind.wrap .i64 (v.1+(1:Int))),v.2.1,v.2.2.1,v.2.2.2.1,v.2.2.2.2))
theorem q2p5 C v:q35m (regO (qct f72) 5) false [(5,.any),(7,(.own Riii)),(8,(.own qjh)),(9,.any)] q2od q2p4 q2od C v:=rgI (by kernel_rfl)
def q2p6  (d:Nat) (self1:(Int×Int×Int×List Diii×List qji)→Option q2ns) (z:Int×Int×Int×List Diii×List qji×Int×Int):Option (q2ns) :=
 (q2p2 (q2nw d) z).eval fun y11 =>
 (q2p4 (q2nw d) y11).eval fun y5 =>
 self1 y5
def q2p7 (C:q2nv) (v:q2og):Dt q2oo:=(Dt.ret v.2.2.2.2.2)
theorem q2p8 C v:q35m (regO (qct f72) 12) false [(6,(.own qjh))] q2oh q2p7 q2op C v:=rgI (by kernel_rfl)
def q2p9 (d:Nat) (self1:(Int×Int×Int×List Diii×List qji)→Option q2ns) (x1:Int×Int×Int×List Diii×List qji):Option q2ns :=
 (q2oi (q2nw d) x1).eval fun y4 =>
 bif y4.2.1 then ((q2om (q2nw d) y4).eval fun y6 =>
 bif y6.2.1 then ((q2oq (q2nw d) y6).eval fun y7 =>
 some y7) else ((q2ou (q2nw d) y6).eval fun y8 =>
 (q2oy (q2nw d) y8).eval fun y9 =>
 bif y9.2.1 then ((q2p0 (q2nw d) y9).eval fun y10 =>
 q2p6 d self1 y10) else (q2p6 d self1 (y9.1,y9.2.2.1,y9.2.2.2.1,y9.2.2.2.2.1,y9.2.2.2.2.2.1,y9.2.2.2.2.2.2.1,y9.2.2.2.2.2.2.2)))) else ((q2p7 (q2nw d) y4).eval fun y12 =>
 some y12)
def q2pa (d:Nat) (x:q2nr):Option q2ns :=
 (q2o2 (q2nw d) (x.1.1,x.2.1.1,x.2.1.2.1,x.2.2.1.1,x.2.2.1.2.1)).eval fun y0 =>
 (q2o6 (q2nw d) y0).eval fun y1 =>
 (q2oa (q2nw d) y1).eval fun y2 =>
 (q2oe (q2nw d) y2).eval fun y3 =>
 iter (q2p9 d ) d y3
theorem q2pb (d:Nat):COK prog (q2nu (q2pa d)):=by
 have hm:prog.follows .mixedOrders=true:=mixed
 have hT:=tys
 have hC0:OrcOK prog (orc (q2nx (q2nw d))):=qcn (by
  intro S hS
  simp only [q2nx,List.mem_cons,List.not_mem_nil,or_false] at hS
  rcases hS with rfl | rfl
  · exact q2k2 d
  · exact q2mn d)
 have hC:OrcOK prog (orc (q2nx (q2nw d))):=hC0
 refine q8c (c:=qct f72) (fn:=f72) hT (by kernel_rfl) (by kernel_rfl) (by decide) fun x r h w0 φ0 Q hend=>?_
 replace h:q2pa d x=some r:=h
 unfold q2pa at h
 show Run prog w0 φ0 72 (qct f72) ⟨[(0,.agg [.fz Riii x.1.1]),(1,.agg [.int .i64 x.2.1.1,.int .i64 x.2.1.2.1]),(2,.agg [.int .i64 x.2.2.1.1,.int .i64 x.2.2.1.2.1])],[]⟩ Q
 refine q342 hm hT hC (q2o3 (q2nw d) (x.1.1,x.2.1.1,x.2.1.2.1,x.2.2.1.1,x.2.2.1.2.1)) h fun y0 h=>?_
 refine q342 hm hT hC (q2o7 (q2nw d) y0) h fun y1 h=>?_
 refine q342 hm hT hC (q2ob (q2nw d) y1) h fun y2 h=>?_
 refine q7w ?_
 refine q342 hm hT hC (q2of (q2nw d) y2) h fun y3 h=>?_
 refine q7x ?_
 refine q82 (G:=iter (q2p9 d )) (S:=(fun x1=>⟨[(5,.ptr 0 0),(7,.rs 1),(8,.rs 2),(9,i6 x1.1)],[.cells [i6 x1.2.1,i6 x1.2.2.1],.rows Riii x1.2.2.2.1,.rows qjh x1.2.2.2.2]⟩:Int×Int×Int×List Diii×List qji→St)) (fun _=>rfl) ?_ d _ h
 intro n1 x1 h K1 hn1
 replace h:q2p9 d  (iter (q2p9 d ) n1) x1=some r:=h
 generalize iter (q2p9 d ) n1=self1 at h hn1
 unfold q2p9 at h
 refine q7w ?_
 refine q342 hm hT hC (q2oj (q2nw d) x1) h fun y4 h=>?_
 refine q80 (v:=y4.2.1) (by kernel_rfl) h ?_ ?_
 ·
  intro h
  refine q7s (q7i (q7w (q7x (q7w ?_))))
  refine q342 hm hT hC (q2on (q2nw d) y4) h fun y6 h=>?_
  refine q80 (v:=y6.2.1) (by kernel_rfl) h ?_ ?_
  ·
   intro h
   refine q342 hm hT hC (q2or (q2nw d) y6) h fun y7 h=>?_
   refine q7v (q7k (q7m (q7k (q7k (q7m (q7k ?_))))))
   cases h
   exact (hend _ (by kernel_rfl)).2
  ·
   intro h
   refine q7s (q7i ?_)
   refine q342 hm hT hC (q2ov (q2nw d) y6) h fun y8 h=>?_
   refine q7z (r:=r) (F:=q2p6 d self1) (S:=(fun z=>⟨[(5,.ptr 0 0),(7,.rs 1),(8,.rs 2),(9,i6 z.1),(10,.ptr 3 0)],[.cells [i6 z.2.1,i6 z.2.2.1],.rows Riii z.2.2.2.1,.rows qjh z.2.2.2.2.1,.cells [i6 z.2.2.2.2.2.1,i6 z.2.2.2.2.2.2]]⟩:Int×Int×Int×List Diii×List qji×Int×Int→St)) ?_ ?_
   ·
    intro z h
    unfold q2p6 at h
    refine q81 hm hT hC (q2p3 (q2nw d) z) h ?_
    intro y11 h
    refine q7l (q7i ?_)
    refine q81 hm hT hC (q2p5 (q2nw d) y11) h ?_
    intro y5 h
    exact hn1 _ h
   intro hj2
   refine q342 hm hT hC (q2oz (q2nw d) y8) h fun y9 h=>?_
   refine q80 (v:=y9.2.1) (by kernel_rfl) h ?_ ?_
   ·
    intro h
    refine q81 hm hT hC (q2p1 (q2nw d) y9) h ?_
    intro y10 h
    exact hj2 _ h
   ·
    intro h
    refine q7s ?_
    refine qcs (s:=⟨[(5,.ptr 0 0),(7,.rs 1),(8,.rs 2),(9,.int .i64 y9.1),(10,.ptr 3 0)],[.cells [.int .i64 y9.2.2.1,.int .i64 y9.2.2.2.1],.rows Riii y9.2.2.2.2.1,.rows qjh y9.2.2.2.2.2.1,.cells [.int .i64 y9.2.2.2.2.2.2.1,.int .i64 y9.2.2.2.2.2.2.2]]⟩) [49] (by kernel_rfl) ?_
    exact hj2 _ h
 ·
  intro h
  refine q7u (q7j (q7j (q7n (q7i ?_))))
  refine q342 hm hT hC (q2p8 (q2nw d) y4) h fun y12 h=>?_
  refine q7v ?_
  cases h
  exact (hend _ (by kernel_rfl)).2
abbrev q2pc:List Pk:=[.row qj5 true,.row Ri false,.row Rii true,.row Rii true]
abbrev q2pd:Type:=qj6×Di×Dii×Dii×Unit
abbrev q2pe:Type:=Int×Int×Int
def q2pf (r:q2pe):LV×List Ob:=(.tup [.agg [.int .i64 r.1,.int .i64 r.2.1],.int .i64 r.2.2],[])
def q2pg (F:q2pd→Option q2pe):Go.Tx.Spec:=⟨21,q2pc,q2pe,F,q2pf⟩
abbrev q2ph:Type:=(q2mp→Option q2mq)×(qpq→Option qpr)×(q2nr→Option q2ns)×(q21z→Option q220)×Unit
def q2pi (d:Nat):q2ph:=(q2no d,qpv d,q2pa d,q22m d,())
def q2pj (C:q2ph):List Go.Tx.Spec:=[q2ms C.1,qpt C.2.1,q2nu C.2.2.1,q222 C.2.2.2.1]
abbrev q2pk:Type:=List Diii×Int×Int×Int×Int×Int
def q2pl (v:q2pk):St:=⟨[(0,.agg [.fz Riii v.1]),(1,i6 v.2.1),(2,.agg [i6 v.2.2.1,i6 v.2.2.2.1]),(3,.agg [i6 v.2.2.2.2.1,i6 v.2.2.2.2.2])],[]⟩
abbrev q2pm:Type:=Int×List Diii×Int×Int×Int×Int×Int×Int
def q2pn (v:q2pm):St:=⟨[(1,i6 v.1),(4,.ptr 0 0),(6,.ptr 1 0),(7,.ptr 2 0),(8,.ptr 3 0)],[.cells [.fz Riii v.2.1],.cells [i6 v.2.2.1,i6 v.2.2.2.1],.cells [i6 v.2.2.2.2.1,i6 v.2.2.2.2.2.1],.cells [i6 v.2.2.2.2.2.2.1,i6 v.2.2.2.2.2.2.2]]⟩
def q2po (C:q2ph) (v:q2pk):Dt q2pm:=(Dt.ret (v.2.1,v.1,v.2.2.1,v.2.2.2.1,v.2.2.2.2.1,v.2.2.2.2.2,(0:Int),(0:Int)))
abbrev q35n {V Y:Type}:=@rg q2ph V Y tysT (fun C=>(orc (q2pj C))) 58
theorem q2pp C v:q35n (regO (qct f21) 0) false [(1,.any),(4,(.box [.val Riii])),(6,.any),(7,.any),(8,.any)] q2pl q2po q2pn C v:=rgI (by kernel_rfl)
abbrev q2pq:Type:=Int×Bool×List Diii×Int×Int×Int×Int×Int×Int
def q2pr (v:q2pq):St:=⟨[(1,i6 v.1),(4,.ptr 0 0),(6,.ptr 1 0),(7,.ptr 2 0),(8,.ptr 3 0),(16,.bool v.2.1)],[.cells [.fz Riii v.2.2.1],.cells [i6 v.2.2.2.1,i6 v.2.2.2.2.1],.cells [i6 v.2.2.2.2.2.1,i6 v.2.2.2.2.2.2.1],.cells [i6 v.2.2.2.2.2.2.2.1,i6 v.2.2.2.2.2.2.2.2]]⟩
def q2ps (C:q2ph) (v:q2pm):Dt q2pq:=(Dt.bnd (C.1 ((v.2.1,()),(v.2.2.1,v.2.2.2.1,()),(v.2.2.2.2.1,v.2.2.2.2.2.1,()),())) fun r1=>(Dt.ret (v.1,(r1 != (0:Int)),v.2.1,v.2.2.1,v.2.2.2.1,v.2.2.2.2.1,v.2.2.2.2.2.1,v.2.2.2.2.2.2.1,v.2.2.2.2.2.2.2)))
theorem q2pt C v:q35n (regO (qct f21) 1) false [(1,.any),(4,(.box [.val Riii])),(6,.any),(7,.any),(8,.any),(16,.any)] q2pn q2ps q2pr C v:=rgI (by kernel_rfl)
abbrev q2pu:Type:=Int×Int×Int
def q2pv (v:q2pu):St:=⟨[(8,.ptr 0 0),(9,i6 v.1)],[.cells [i6 v.2.1,i6 v.2.2]]⟩
def q2pw (C:q2ph) (v:q2pq):Dt q2pu:=(Dt.bnd (C.1 ((v.2.2.1,()),(v.2.2.2.1,v.2.2.2.2.1,()),(v.2.2.2.2.2.1,v.2.2.2.2.2.2.1,()),())) fun r1=>(Dt.ret (r1,(0:Int),(0:Int))))
theorem q2px C v:q35n (regO (qct f21) 2) false (an [8,9]) q2pr q2pw q2pv C v:=rgI (by kernel_rfl)
abbrev q2py:Type:=Int×Bool×List Diii×Int×Int×Int×Int×Int×Int
def q2pz (v:q2py):St:=⟨[(1,i6 v.1),(4,.ptr 0 0),(6,.ptr 1 0),(7,.ptr 2 0),(8,.ptr 3 0),(25,.bool v.2.1)],[.cells [.fz Riii v.2.2.1],.cells [i6 v.2.2.2.1,i6 v.2.2.2.2.1],.cells [i6 v.2.2.2.2.2.1,i6 v.2.2.2.2.2.2.1],.cells [i6 v.2.2.2.2.2.2.2.1,i6 v.2.2.2.2.2.2.2.2]]⟩
def q2q0 (C:q2ph) (v:q2pq):Dt q2py:=(Dt.bnd (C.2.1 ((v.2.2.1,()),(v.1,()),())) fun r1=>(Dt.ret (v.1,(decide (r1<(0:Int))),v.2.2.1,v.2.2.2.1,v.2.2.2.2.1,v.2.2.2.2.2.1,v.2.2.2.2.2.2.1,v.2.2.2.2.2.2.2.1,v.2.2.2.2.2.2.2.2)))
theorem q2q1 C v:q35n (regO (qct f21) 3) false [(1,.any),(4,(.box [.val Riii])),(6,.any),(7,.any),(8,.any),(25,.any)] q2pr q2q0 q2pz C v:=rgI (by kernel_rfl)
def q2q2 (C:q2ph) (v:q2py):Dt q2pu:=(Dt.ret ((6:Int),(0:Int),(0:Int)))
theorem q2q3 C v:q35n (regO (qct f21) 4) false (an [8,9]) q2pz q2q2 q2pv C v:=rgI (by kernel_rfl)
abbrev q2q4:Type:=Int×Int×Int×List qji
def q2q5 (v:q2q4):St:=⟨[(1,i6 v.1),(8,.ptr 0 0),(10,.rs 1)],[.cells [i6 v.2.1,i6 v.2.2.1],.rows qjh v.2.2.2]⟩
def q2q6 (C:q2ph) (v:q2py):Dt q2q4:=(Dt.bnd (C.2.2.1 ((v.2.2.1,()),(v.2.2.2.1,v.2.2.2.2.1,()),(v.2.2.2.2.2.1,v.2.2.2.2.2.2.1,()),())) fun r1=>(Dt.ret (v.1,v.2.2.2.2.2.2.2.1,v.2.2.2.2.2.2.2.2,r1)))
theorem q2q7 C v:q35n (regO (qct f21) 5) false [(1,.any),(8,.any),(10,(.own qjh))] q2pz q2q6 q2q5 C v:=rgI (by kernel_rfl)
abbrev q2q8:Type:=Int×Int×Int×Int×List qji
def q2q9 (v:q2q8):St:=⟨[(1,i6 v.1),(8,.ptr 0 0),(10,.rs 1),(11,i6 v.2.1)],[.cells [i6 v.2.2.1,i6 v.2.2.2.1],.rows qjh v.2.2.2.2]⟩
def q2qa (C:q2ph) (v:q2q4):Dt q2q8:=(Dt.ret (v.1,(0:Int),v.2.1,v.2.2.1,v.2.2.2))
theorem q2qb C v:q35n (regO (qct f21) 6) false [(1,.any),(8,.any),(10,(.own qjh)),(11,.any)] q2q5 q2qa q2q9 C v:=rgI (by kernel_rfl)
abbrev q2qc:Type:=Int×Int×Bool×Int×Int×List qji
def q2qd (v:q2qc):St:=⟨[(1,i6 v.1),(8,.ptr 0 0),(10,.rs 1),(11,i6 v.2.1),(34,.bool v.2.2.1)],[.cells [i6 v.2.2.2.1,i6 v.2.2.2.2.1],.rows qjh v.2.2.2.2.2]⟩
def q2qe (C:q2ph) (v:q2q8):Dt q2qc:=(Dt.ret (v.1,v.2.1,(decide (v.2.1<(List.length v.2.2.2.2:Int))),v.2.2.1,v.2.2.2.1,v.2.2.2.2))
theorem q2qf C v:q35n (regO (qct f21) 7) false [(1,.any),(8,.any),(10,(.own qjh)),(11,.any),(34,.any)] q2q9 q2qe q2qd C v:=rgI (by kernel_rfl)
abbrev q2qg:Type:=Int×Int×Bool×Int×Int×List qji
def q2qh (v:q2qg):St:=⟨[(1,i6 v.1),(8,.ptr 0 0),(10,.rs 1),(11,i6 v.2.1),(43,.bool v.2.2.1)],[.cells [i6 v.2.2.2.1,i6 v.2.2.2.2.1],.rows qjh v.2.2.2.2.2]⟩
def q2qi (C:q2ph) (v:q2qc):Dt q2qg:=(Dt.ite (inB v.2.1 (List.length v.2.2.2.2.2)) (Dt.ret (v.1,v.2.1,((elt qjj v.2.2.2.2.2 (v.2.1).toNat).2.2.2.2.1 == v.1),v.2.2.2.1,v.2.2.2.2.1,v.2.2.2.2.2)) Dt.fail)
theorem q2qj C v:q35n (regO (qct f21) 9) false [(1,.any),(8,.any),(10,(.own qjh)),(11,.any),(43,.any)] q2qd q2qi q2qh C v:=rgI (by kernel_rfl)
def q2qk (C:q2ph) (v:q2qg):Dt q2pu:=(Dt.ite (inB v.2.1 (List.length v.2.2.2.2.2)) (Dt.ite (inB v.2.1 (List.length v.2.2.2.2.2)) (Dt.bnd (C.2.2.2.1 (((elt qjj v.2.2.2.2.2 (v.2.1).toNat).2.2.1,(elt qjj v.2.2.2.2.2 (v.2.1).toNat).2.2.2.1,()),((elt qjj v.2.2.2.2.2 (v.2.1).toNat).1,(elt qjj v.2.2.2.2.2 (v.2.1).toNat).2.1,()),())) fun r1=>(Dt.ret (r1.2.2,r1.1,r1.2.1))) Dt.fail) Dt.fail)
theorem q2ql C v:q35n (regO (qct f21) 10) true (an [8,9]) q2qh q2qk q2pv C v:=rgI (by kernel_rfl)
def q2qm (C:q2ph) (v:q2qg):Dt q2q8:=(Dt.ret (v.1,(IntKind.wrap .i64 (v.2.1+(1:Int))),v.2.2.2.1,v.2.2.2.2.1,v.2.2.2.2.2))
theorem q2qn C v:q35n (regO (qct f21) 8) false [(1,.any),(8,.any),(10,(.own qjh)),(11,.any)] q2qh q2qm q2q9 C v:=rgI (by kernel_rfl)
def q2qo (C:q2ph) (v:q2qc):Dt q2pu:=(Dt.ret ((0:Int),(0:Int),(1:Int)))
theorem q2qp C v:q35n (regO (qct f21) 11) false (an [8,9]) q2qd q2qo q2pv C v:=rgI (by kernel_rfl)
def q2qq (d:Nat) (self1:(Int×Int×Int×Int×List qji)→Option q2pe) (x1:Int×Int×Int×Int×List qji):Option q2pe :=
 (q2qe (q2pi d) x1).eval fun y7 =>
 bif y7.2.2.1 then ((q2qi (q2pi d) y7).eval fun y9 =>
 bif y9.2.2.1 then ((q2qk (q2pi d) y9).eval fun y10 =>
 some (y10.2.1,y10.2.2,y10.1)) else ((q2qm (q2pi d) y9).eval fun y8 =>
 self1 y8)) else ((q2qo (q2pi d) y7).eval fun y11 =>
 some (y11.2.1,y11.2.2,y11.1))
def q2qr (d:Nat) (x:q2pd):Option q2pe :=
 (q2po (q2pi d) (x.1.1,x.2.1.1,x.2.2.1.1,x.2.2.1.2.1,x.2.2.2.1.1,x.2.2.2.1.2.1)).eval fun y0 =>
 (q2ps (q2pi d) y0).eval fun y1 =>
 bif y1.2.1 then ((q2pw (q2pi d) y1).eval fun y2 =>
 some (y2.2.1,y2.2.2,y2.1)) else ((q2q0 (q2pi d) y1).eval fun y3 =>
 bif y3.2.1 then ((q2q2 (q2pi d) y3).eval fun y4 =>
 some (y4.2.1,y4.2.2,y4.1)) else ((q2q6 (q2pi d) y3).eval fun y5 =>
 (q2qa (q2pi d) y5).eval fun y6 =>
 iter (q2qq d ) d y6))
theorem q2qs (d:Nat):COK prog (q2pg (q2qr d)):=by
 have hm:prog.follows .mixedOrders=true:=mixed
 have hT:=tys
 have hC0:OrcOK prog (orc (q2pj (q2pi d))):=qcn (by
  intro S hS
  simp only [q2pj,List.mem_cons,List.not_mem_nil,or_false] at hS
  rcases hS with rfl | rfl | rfl | rfl
  · exact q2np d
  · exact qpx d
  · exact q2pb d
  · exact q22n d)
 have hC:OrcOK prog (orc (q2pj (q2pi d))):=hC0
 refine q8c (c:=qct f21) (fn:=f21) hT (by kernel_rfl) (by kernel_rfl) (by decide) fun x r h w0 φ0 Q hend=>?_
 replace h:q2qr d x=some r:=h
 unfold q2qr at h
 show Run prog w0 φ0 58 (qct f21) ⟨[(0,.agg [.fz Riii x.1.1]),(1,.int .i64 x.2.1.1),(2,.agg [.int .i64 x.2.2.1.1,.int .i64 x.2.2.1.2.1]),(3,.agg [.int .i64 x.2.2.2.1.1,.int .i64 x.2.2.2.1.2.1])],[]⟩ Q
 refine q342 hm hT hC (q2pp (q2pi d) (x.1.1,x.2.1.1,x.2.2.1.1,x.2.2.1.2.1,x.2.2.2.1.1,x.2.2.2.1.2.1)) h fun y0 h=>?_
 refine q7w ?_
 refine q342 hm hT hC (q2pt (q2pi d) y0) h fun y1 h=>?_
 refine q80 (v:=y1.2.1) (by kernel_rfl) h ?_ ?_
 ·
  intro h
  refine q342 hm hT hC (q2px (q2pi d) y1) h fun y2 h=>?_
  refine q7v (q7k ?_)
  cases h
  exact (hend _ (by kernel_rfl)).2
 ·
  intro h
  refine q7s (q7i (q7w ?_))
  refine q342 hm hT hC (q2q1 (q2pi d) y1) h fun y3 h=>?_
  refine q80 (v:=y3.2.1) (by kernel_rfl) h ?_ ?_
  ·
   intro h
   refine q342 hm hT hC (q2q3 (q2pi d) y3) h fun y4 h=>?_
   refine q7v (q7k ?_)
   cases h
   exact (hend _ (by kernel_rfl)).2
  ·
   intro h
   refine q7s (q7i ?_)
   refine q342 hm hT hC (q2q7 (q2pi d) y3) h fun y5 h=>?_
   refine q7w ?_
   refine q342 hm hT hC (q2qb (q2pi d) y5) h fun y6 h=>?_
   refine q7x ?_
   refine q82 (G:=iter (q2qq d )) (S:=(fun x1=>⟨[(1,i6 x1.1),(8,.ptr 0 0),(10,.rs 1),(11,i6 x1.2.1)],[.cells [i6 x1.2.2.1,i6 x1.2.2.2.1],.rows qjh x1.2.2.2.2]⟩:Int×Int×Int×Int×List qji→St)) (fun _=>rfl) ?_ d _ h
   intro n1 x1 h K1 hn1
   replace h:q2qq d  (iter (q2qq d ) n1) x1=some r:=h
   generalize iter (q2qq d ) n1=self1 at h hn1
   unfold q2qq at h
   refine q7w ?_
   refine q342 hm hT hC (q2qf (q2pi d) x1) h fun y7 h=>?_
   refine q80 (v:=y7.2.2.1) (by kernel_rfl) h ?_ ?_
   ·
    intro h
    refine q7s (q7i (q7w (q7x ?_)))
    refine q342 hm hT hC (q2qj (q2pi d) y7) h fun y9 h=>?_
    refine q80 (v:=y9.2.2.1) (by kernel_rfl) h ?_ ?_
    ·
     intro h
     refine q342 hm hT hC (q2ql (q2pi d) y9) h fun y10 h=>?_
     refine q7v (q7m (q7k (q7k (q7m (q7k ?_)))))
     cases h
     exact (hend _ (by kernel_rfl)).2
    ·
     intro h
     refine q7s (q7l (q7i ?_))
     refine q81 hm hT hC (q2qn (q2pi d) y9) h ?_
     intro y8 h
     exact hn1 _ h
   ·
    intro h
    refine q7u (q7j (q7j (q7n (q7i ?_))))
    refine q342 hm hT hC (q2qp (q2pi d) y7) h fun y11 h=>?_
    refine q7v ?_
    cases h
    exact (hend _ (by kernel_rfl)).2
abbrev q2qt:List Pk:=[.row qj5 true,.row Rii true]
abbrev q2qu:Type:=qj6×Dii×Unit
abbrev q2qv:Type:=List Di×Int
def q2qw (r:q2qv):LV×List Ob:=(.tup [.rs 0,.int .i64 r.2],[.rows Ri r.1])
def q2qx (F:q2qu→Option q2qv):Go.Tx.Spec:=⟨74,q2qt,q2qv,F,q2qw⟩
abbrev q2qy:Type:=(qvo→Option qvp)×(qwf→Option qwg)×Unit
def q2qz (d:Nat):q2qy:=(qvt d,qwk d,())
def q2r0 (C:q2qy):List Go.Tx.Spec:=[qvr C.1,qwi C.2.1]
abbrev q2r1:Type:=List Diii×Int×Int
def q2r2 (v:q2r1):St:=⟨[(0,.agg [.fz Riii v.1]),(1,.agg [i6 v.2.1,i6 v.2.2])],[]⟩
abbrev q2r3:Type:=List Diii×Int×Int
def q2r4 (v:q2r3):St:=⟨[(2,.ptr 0 0),(3,.ptr 1 0)],[.cells [.fz Riii v.1],.cells [i6 v.2.1,i6 v.2.2]]⟩
def q2r5 (C:q2qy) (v:q2r1):Dt q2r3:=(Dt.ret (v.1,v.2.1,v.2.2))
abbrev q35o {V Y:Type}:=@rg q2qy V Y tysT (fun C=>(orc (q2r0 C))) 16
theorem q2r6 C v:q35o (regO (qct f74) 0) false [(2,(.box [.val Riii])),(3,.any)] q2r2 q2r5 q2r4 C v:=rgI (by kernel_rfl)
abbrev q2r7:Type:=Int×List Diii×Int×Int
def q2r8 (v:q2r7):St:=⟨[(2,.ptr 0 0),(3,.ptr 1 0),(6,i6 v.1)],[.cells [.fz Riii v.2.1],.cells [i6 v.2.2.1,i6 v.2.2.2]]⟩
def q2r9 (C:q2qy) (v:q2r3):Dt q2r7:=(Dt.bnd (C.1 ((v.1,()),(v.2.1,v.2.2,()),())) fun r1=>(Dt.ret (r1,v.1,v.2.1,v.2.2)))
theorem q2ra C v:q35o (regO (qct f74) 1) false [(2,(.box [.val Riii])),(3,.any),(6,.any)] q2r4 q2r9 q2r8 C v:=rgI (by kernel_rfl)
abbrev q2rb:Type:=Int×Bool×List Diii×Int×Int
def q2rc (v:q2rb):St:=⟨[(2,.ptr 0 0),(3,.ptr 1 0),(6,i6 v.1),(11,.bool v.2.1)],[.cells [.fz Riii v.2.2.1],.cells [i6 v.2.2.2.1,i6 v.2.2.2.2]]⟩
def q2rd (C:q2qy) (v:q2r7):Dt q2rb:=(Dt.ret (v.1,(v.1 != (0:Int)),v.2.1,v.2.2.1,v.2.2.2))
theorem q2re C v:q35o (regO (qct f74) 2) false [(2,(.box [.val Riii])),(3,.any),(6,.any),(11,.any)] q2r8 q2rd q2rc C v:=rgI (by kernel_rfl)
abbrev q2rf:Type:=Int×List Di
def q2rg (v:q2rf):St:=⟨[(4,.rs 0),(5,i6 v.1)],[.rows Ri v.2]⟩
def q2rh (C:q2qy) (v:q2rb):Dt q2rf:=(Dt.ret (v.1,([]:List Di)))
theorem q2ri C v:q35o (regO (qct f74) 3) false [(4,(.own Ri)),(5,.any)] q2rc q2rh q2rg C v:=rgI (by kernel_rfl)
def q2rj (C:q2qy) (v:q2rb):Dt q2rf:=(Dt.bnd (C.2.1 ((v.2.2.1,()),(v.2.2.2.1,v.2.2.2.2,()),())) fun r1=>(Dt.ret ((0:Int),r1)))
theorem q2rk C v:q35o (regO (qct f74) 4) false [(4,(.own Ri)),(5,.any)] q2rc q2rj q2rg C v:=rgI (by kernel_rfl)
def q2rl (d:Nat) (x:q2qu):Option q2qv :=
 (q2r5 (q2qz d) (x.1.1,x.2.1.1,x.2.1.2.1)).eval fun y0 =>
 (q2r9 (q2qz d) y0).eval fun y1 =>
 (q2rd (q2qz d) y1).eval fun y2 =>
 bif y2.2.1 then ((q2rh (q2qz d) y2).eval fun y3 =>
 some (y3.2,y3.1)) else ((q2rj (q2qz d) y2).eval fun y4 =>
 some (y4.2,y4.1))
theorem q2rm (d:Nat):COK prog (q2qx (q2rl d)):=by
 have hm:prog.follows .mixedOrders=true:=mixed
 have hT:=tys
 have hC0:OrcOK prog (orc (q2r0 (q2qz d))):=qcn (by
  intro S hS
  simp only [q2r0,List.mem_cons,List.not_mem_nil,or_false] at hS
  rcases hS with rfl | rfl
  · exact qvv d
  · exact qwm d)
 have hC:OrcOK prog (orc (q2r0 (q2qz d))):=hC0
 refine q8c (c:=qct f74) (fn:=f74) hT (by kernel_rfl) (by kernel_rfl) (by decide) fun x r h w0 φ0 Q hend=>?_
 replace h:q2rl d x=some r:=h
 unfold q2rl at h
 show Run prog w0 φ0 16 (qct f74) ⟨[(0,.agg [.fz Riii x.1.1]),(1,.agg [.int .i64 x.2.1.1,.int .i64 x.2.1.2.1])],[]⟩ Q
 refine q342 hm hT hC (q2r6 (q2qz d) (x.1.1,x.2.1.1,x.2.1.2.1)) h fun y0 h=>?_
 refine q7w ?_
 refine q342 hm hT hC (q2ra (q2qz d) y0) h fun y1 h=>?_
 refine q342 hm hT hC (q2re (q2qz d) y1) h fun y2 h=>?_
 refine q80 (v:=y2.2.1) (by kernel_rfl) h ?_ ?_
 ·
  intro h
  refine q342 hm hT hC (q2ri (q2qz d) y2) h fun y3 h=>?_
  refine q7v (q7k ?_)
  cases h
  exact (hend _ (by kernel_rfl)).2
 ·
  intro h
  refine q7s (q7i ?_)
  refine q342 hm hT hC (q2rk (q2qz d) y2) h fun y4 h=>?_
  refine q7v ?_
  cases h
  exact (hend _ (by kernel_rfl)).2
abbrev q2rn:List Pk:=[.row qj5 true,.row Rii true]
abbrev q2ro:Type:=qj6×Dii×Unit
abbrev q2rp:Type:=List Di×Int
def q2rq (r:q2rp):LV×List Ob:=(.tup [.fz Ri r.1,.int .i64 r.2],[])
def q2rr (F:q2ro→Option q2rp):Go.Tx.Spec:=⟨23,q2rn,q2rp,F,q2rq⟩
abbrev q2rs:Type:=(q2qu→Option q2qv)×Unit
def q2rt (d:Nat):q2rs:=(q2rl d,())
def q2ru (C:q2rs):List Go.Tx.Spec:=[q2qx C.1]
abbrev q2rv:Type:=List Diii×Int×Int
def q2rw (v:q2rv):St:=⟨[(0,.agg [.fz Riii v.1]),(1,.agg [i6 v.2.1,i6 v.2.2])],[]⟩
abbrev q2rx:Type:=List Diii×Int×Int
def q2ry (v:q2rx):St:=⟨[(2,.ptr 0 0),(3,.ptr 1 0)],[.cells [.fz Riii v.1],.cells [i6 v.2.1,i6 v.2.2]]⟩
def q2rz (C:q2rs) (v:q2rv):Dt q2rx:=(Dt.ret (v.1,v.2.1,v.2.2))
abbrev q35p {V Y:Type}:=@rg q2rs V Y tysT (fun C=>(orc (q2ru C))) 25
theorem q2s0 C v:q35p (regO (qct f23) 0) false [(2,(.box [.val Riii])),(3,.any)] q2rw q2rz q2ry C v:=rgI (by kernel_rfl)
abbrev q2s1:Type:=Int×List Di
def q2s2 (v:q2s1):St:=⟨[(6,.rs 0),(7,i6 v.1)],[.rows Ri v.2]⟩
def q2s3 (C:q2rs) (v:q2rx):Dt q2s1:=(Dt.bnd (C.1 ((v.1,()),(v.2.1,v.2.2,()),())) fun r1=>(Dt.ret (r1.2,r1.1)))
theorem q2s4 C v:q35p (regO (qct f23) 1) false [(6,(.own Ri)),(7,.any)] q2ry q2s3 q2s2 C v:=rgI (by kernel_rfl)
abbrev q2s5:Type:=Int×Bool×List Di
def q2s6 (v:q2s5):St:=⟨[(6,.rs 0),(7,i6 v.1),(20,.bool v.2.1)],[.rows Ri v.2.2]⟩
def q2s7 (C:q2rs) (v:q2s1):Dt q2s5:=(Dt.ite (v.1 != (0:Int)) (Dt.ret (v.1,true,v.2)) (Dt.ret (v.1,(decide ((List.length v.2:Int)<(3:Int))),v.2)))
theorem q2s8 C v:q35p (regO (qct f23) 2) false [(6,(.own Ri)),(7,.any),(20,.any)] q2s2 q2s7 q2s6 C v:=rgI (by kernel_rfl)
abbrev q2s9:Type:=List Di×Int
def q2sa (v:q2s9):St:=⟨[(4,.fz Ri v.1),(5,i6 v.2)],[]⟩
def q2sb (C:q2rs) (v:q2s5):Dt q2s9:=(Dt.ret (v.2.2,v.1))
theorem q2sc C v:q35p (regO (qct f23) 3) false [(4,(.val Ri)),(5,.any)] q2s6 q2sb q2sa C v:=rgI (by kernel_rfl)
def q2sd (C:q2rs) (v:q2s5):Dt q2s9:=(Dt.ite (decide (0≤(3:Int))&&decide ((3:Int)≤(List.length v.2.2:Int))) (Dt.ret ((List.take ((3:Int)).toNat v.2.2),(0:Int))) Dt.fail)
theorem q2se C v:q35p (regO (qct f23) 4) false [(4,(.val Ri)),(5,.any)] q2s6 q2sd q2sa C v:=rgI (by kernel_rfl)
def q2sf (d:Nat) (x:q2ro):Option q2rp :=
 (q2rz (q2rt d) (x.1.1,x.2.1.1,x.2.1.2.1)).eval fun y0 =>
 (q2s3 (q2rt d) y0).eval fun y1 =>
 (q2s7 (q2rt d) y1).eval fun y2 =>
 bif y2.2.1 then ((q2sb (q2rt d) y2).eval fun y3 =>
 some y3) else ((q2sd (q2rt d) y2).eval fun y4 =>
 some y4)
theorem q2sg (d:Nat):COK prog (q2rr (q2sf d)):=by
 have hm:prog.follows .mixedOrders=true:=mixed
 have hT:=tys
 have hC0:OrcOK prog (orc (q2ru (q2rt d))):=qcn (by
  intro S hS
  simp only [q2ru,List.mem_cons,List.not_mem_nil,or_false] at hS
  subst hS;exact q2rm d)
 have hC:OrcOK prog (orc (q2ru (q2rt d))):=hC0
 refine q8c (c:=qct f23) (fn:=f23) hT (by kernel_rfl) (by kernel_rfl) (by decide) fun x r h w0 φ0 Q hend=>?_
 replace h:q2sf d x=some r:=h
 unfold q2sf at h
 show Run prog w0 φ0 25 (qct f23) ⟨[(0,.agg [.fz Riii x.1.1]),(1,.agg [.int .i64 x.2.1.1,.int .i64 x.2.1.2.1])],[]⟩ Q
 refine q342 hm hT hC (q2s0 (q2rt d) (x.1.1,x.2.1.1,x.2.1.2.1)) h fun y0 h=>?_
 refine q342 hm hT hC (q2s4 (q2rt d) y0) h fun y1 h=>?_
 refine q7w ?_
 refine q342 hm hT hC (q2s8 (q2rt d) y1) h fun y2 h=>?_
 refine q80 (v:=y2.2.1) (by kernel_rfl) h ?_ ?_
 ·
  intro h
  refine q342 hm hT hC (q2sc (q2rt d) y2) h fun y3 h=>?_
  refine q7v (q7k ?_)
  cases h
  exact (hend _ (by kernel_rfl)).2
 ·
  intro h
  refine q7s (q7i ?_)
  refine q342 hm hT hC (q2se (q2rt d) y2) h fun y4 h=>?_
  refine q7v ?_
  cases h
  exact (hend _ (by kernel_rfl)).2
end Go.Proofs.YtpfhgnccpiildaaGreat

namespace Go.Proofs.YtpfhgnccpiildaaGreat
open Go Go.Tx Go.Proofs.Tryz
set_option maxRecDepth 100000
set_option maxHeartbeats 0
abbrev q2sh:List Pk:=[.row qj5 true,.row Ri false,.row Rii true,.row Rii true]
abbrev q2si:Type:=qj6×Di×Dii×Dii×Unit
abbrev q2sj:Type:=Bool
def q2sk (r:q2sj):LV×List Ob:=(.bool r,[])
def q2sl (F:q2si→Option q2sj):Go.Tx.Spec:=⟨4,q2sh,q2sj,F,q2sk⟩
abbrev q2sm:Type:=(qoz→Option qp0)×(qv6→Option qv7)×(q2ff→Option q2fg)×(q2pd→Option q2pe)×(q2h8→Option q2h9)×(q2ro→Option q2rp)×Unit
def q2sn (d:Nat):q2sm:=(qp4 d,qvb d,q2h5 d,q2qr d,q2hz d,q2sf d,())
def q2so (C:q2sm):List Go.Tx.Spec:=[qp2 C.1,qv9 C.2.1,q2fi C.2.2.1,q2pg C.2.2.2.1,q2hb C.2.2.2.2.1,q2rr C.2.2.2.2.2.1]
abbrev q2sp:Type:=List Diii×Int×Int×Int×Int×Int
def q2sq (v:q2sp):St:=⟨[(0,.agg [.fz Riii v.1]),(1,i6 v.2.1),(2,.agg [i6 v.2.2.1,i6 v.2.2.2.1]),(3,.agg [i6 v.2.2.2.2.1,i6 v.2.2.2.2.2])],[]⟩
abbrev q2sr:Type:=Int×List Diii×Int×Int×Int×Int
def q2ss (v:q2sr):St:=⟨[(1,i6 v.1),(4,.ptr 0 0),(6,.ptr 1 0),(7,.ptr 2 0)],[.cells [.fz Riii v.2.1],.cells [i6 v.2.2.1,i6 v.2.2.2.1],.cells [i6 v.2.2.2.2.1,i6 v.2.2.2.2.2]]⟩
def q2st (C:q2sm) (v:q2sp):Dt q2sr:=(Dt.ret (v.2.1,v.1,v.2.2.1,v.2.2.2.1,v.2.2.2.2.1,v.2.2.2.2.2))
abbrev q35q {V Y:Type}:=@rg q2sm V Y tysT (fun C=>(orc (q2so C))) 65
theorem q2su C v:q35q (regO (qct f4) 0) false [(1,.any),(4,(.box [.val Riii])),(6,.any),(7,.any)] q2sq q2st q2ss C v:=rgI (by kernel_rfl)
abbrev q2sv:Type:=Int×Bool×List Diii×Int×Int×Int×Int
def q2sw (v:q2sv):St:=⟨[(1,i6 v.1),(4,.ptr 0 0),(6,.ptr 1 0),(7,.ptr 2 0),(18,.bool v.2.1)],[.cells [.fz Riii v.2.2.1],.cells [i6 v.2.2.2.1,i6 v.2.2.2.2.1],.cells [i6 v.2.2.2.2.2.1,i6 v.2.2.2.2.2.2]]⟩
def q2sx (C:q2sm) (v:q2sr):Dt q2sv:=(Dt.bnd (C.1 ((v.2.1,()),())) fun r1=>(Dt.ret (v.1,r1,v.2.1,v.2.2.1,v.2.2.2.1,v.2.2.2.2.1,v.2.2.2.2.2)))
theorem q2sy C v:q35q (regO (qct f4) 1) false [(1,.any),(4,(.box [.val Riii])),(6,.any),(7,.any),(18,.any)] q2ss q2sx q2sw C v:=rgI (by kernel_rfl)
abbrev q2sz:Type:=Bool
def q2t0 (v:q2sz):St:=⟨[(8,.bool v)],[]⟩
def q2t1 (C:q2sm) (v:q2sv):Dt q2sz:=(Dt.ret true)
theorem q2t2 C v:q35q (regO (qct f4) 2) false [(8,.any)] q2sw q2t1 q2t0 C v:=rgI (by kernel_rfl)
abbrev q2t3:Type:=Int×Int×List Diii×Int×Int×Int×Int×Int×Int
def q2t4 (v:q2t3):St:=⟨[(1,i6 v.1),(4,.ptr 0 0),(6,.ptr 1 0),(7,.ptr 2 0),(9,.ptr 3 0),(10,i6 v.2.1)],[.cells [.fz Riii v.2.2.1],.cells [i6 v.2.2.2.1,i6 v.2.2.2.2.1],.cells [i6 v.2.2.2.2.2.1,i6 v.2.2.2.2.2.2.1],.cells [i6 v.2.2.2.2.2.2.2.1,i6 v.2.2.2.2.2.2.2.2]]⟩
def q2t5 (C:q2sm) (v:q2sv):Dt q2t3:=(Dt.bnd (C.2.2.1 ((v.2.2.1,()),(v.1,()),(v.2.2.2.1,v.2.2.2.2.1,()),(v.2.2.2.2.2.1,v.2.2.2.2.2.2,()),())) fun r1=>(Dt.ret (v.1,r1.2.2,v.2.2.1,v.2.2.2.1,v.2.2.2.2.1,v.2.2.2.2.2.1,v.2.2.2.2.2.2,r1.1,r1.2.1)))
theorem q2t6 C v:q35q (regO (qct f4) 3) false [(1,.any),(4,(.box [.val Riii])),(6,.any),(7,.any),(9,.any),(10,.any)] q2sw q2t5 q2t4 C v:=rgI (by kernel_rfl)
abbrev q2t7:Type:=Int×Int×List Diii×Int×Int×Int×Int×Int×Int
def q2t8 (v:q2t7):St:=⟨[(4,.ptr 0 0),(6,.ptr 1 0),(9,.ptr 2 0),(10,i6 v.1),(11,.ptr 3 0),(12,i6 v.2.1)],[.cells [.fz Riii v.2.2.1],.cells [i6 v.2.2.2.1,i6 v.2.2.2.2.1],.cells [i6 v.2.2.2.2.2.1,i6 v.2.2.2.2.2.2.1],.cells [i6 v.2.2.2.2.2.2.2.1,i6 v.2.2.2.2.2.2.2.2]]⟩
def q2t9 (C:q2sm) (v:q2t3):Dt q2t7:=(Dt.bnd (C.2.2.2.1 ((v.2.2.1,()),(v.1,()),(v.2.2.2.1,v.2.2.2.2.1,()),(v.2.2.2.2.2.1,v.2.2.2.2.2.2.1,()),())) fun r1=>(Dt.ret (v.2.1,r1.2.2,v.2.2.1,v.2.2.2.1,v.2.2.2.2.1,v.2.2.2.2.2.2.2.1,v.2.2.2.2.2.2.2.2,r1.1,r1.2.1)))
theorem q2ta C v:q35q (regO (qct f4) 4) false [(4,(.box [.val Riii])),(6,.any),(9,.any),(10,.any),(11,.any),(12,.any)] q2t4 q2t9 q2t8 C v:=rgI (by kernel_rfl)
abbrev q2tb:Type:=Int×Int×List Di×Int×List Diii×Int×Int×Int×Int×Int×Int
def q2tc (v:q2tb):St:=⟨[(4,.ptr 0 0),(6,.ptr 1 0),(9,.ptr 2 0),(10,i6 v.1),(11,.ptr 3 0),(12,i6 v.2.1),(13,.fz Ri v.2.2.1),(14,i6 v.2.2.2.1)],[.cells [.fz Riii v.2.2.2.2.1],.cells [i6 v.2.2.2.2.2.1,i6 v.2.2.2.2.2.2.1],.cells [i6 v.2.2.2.2.2.2.2.1,i6 v.2.2.2.2.2.2.2.2.1],.cells [i6 v.2.2.2.2.2.2.2.2.2.1,i6 v.2.2.2.2.2.2.2.2.2.2]]⟩
def q2td (C:q2sm) (v:q2t7):Dt q2tb:=(Dt.bnd (C.2.2.2.2.1 ((v.2.2.1,()),(v.2.2.2.1,v.2.2.2.2.1,()),())) fun r1=>(Dt.ret (v.1,v.2.1,r1.1,r1.2,v.2.2.1,v.2.2.2.1,v.2.2.2.2.1,v.2.2.2.2.2.1,v.2.2.2.2.2.2.1,v.2.2.2.2.2.2.2.1,v.2.2.2.2.2.2.2.2)))
theorem q2te C v:q35q (regO (qct f4) 5) false [(4,(.box [.val Riii])),(6,.any),(9,.any),(10,.any),(11,.any),(12,.any),(13,(.val Ri)),(14,.any)] q2t8 q2td q2tc C v:=rgI (by kernel_rfl)
abbrev q2tf:Type:=Int×Int×List Di×Int×List Di×Int×Int×Int×Int×Int
def q2tg (v:q2tf):St:=⟨[(9,.ptr 0 0),(10,i6 v.1),(11,.ptr 1 0),(12,i6 v.2.1),(13,.fz Ri v.2.2.1),(14,i6 v.2.2.2.1),(15,.fz Ri v.2.2.2.2.1),(16,i6 v.2.2.2.2.2.1)],[.cells [i6 v.2.2.2.2.2.2.1,i6 v.2.2.2.2.2.2.2.1],.cells [i6 v.2.2.2.2.2.2.2.2.1,i6 v.2.2.2.2.2.2.2.2.2]]⟩
def q2th (C:q2sm) (v:q2tb):Dt q2tf:=(Dt.bnd (C.2.2.2.2.2.1 ((v.2.2.2.2.1,()),(v.2.2.2.2.2.1,v.2.2.2.2.2.2.1,()),())) fun r1=>(Dt.ret (v.1,v.2.1,v.2.2.1,v.2.2.2.1,r1.1,r1.2,v.2.2.2.2.2.2.2.1,v.2.2.2.2.2.2.2.2.1,v.2.2.2.2.2.2.2.2.2.1,v.2.2.2.2.2.2.2.2.2.2)))
theorem q2ti C v:q35q (regO (qct f4) 6) false [(9,.any),(10,.any),(11,.any),(12,.any),(13,(.val Ri)),(14,.any),(15,(.val Ri)),(16,.any)] q2tc q2th q2tg C v:=rgI (by kernel_rfl)
def q2tj (C:q2sm) (v:q2tf):Dt q2sz:=(Dt.ite ((v.2.2.2.2.2.2.1 == v.2.2.2.2.2.2.2.2.1)&&((v.2.2.2.2.2.2.2.1 == v.2.2.2.2.2.2.2.2.2)&&true)) (Dt.ite (v.1 == v.2.1) (Dt.bnd (C.2.1 ((v.2.2.1,()),(v.2.2.2.2.1,()),())) fun r1=>(Dt.ite r1 (Dt.ret (v.2.2.2.1 == v.2.2.2.2.2.1)) (Dt.ret false))) (Dt.ret false)) (Dt.ret false))
theorem q2tk C v:q35q (regO (qct f4) 7) false [(8,.any)] q2tg q2tj q2t0 C v:=rgI (by kernel_rfl)
def q2tl (d:Nat) (x:q2si):Option q2sj :=
 (q2st (q2sn d) (x.1.1,x.2.1.1,x.2.2.1.1,x.2.2.1.2.1,x.2.2.2.1.1,x.2.2.2.1.2.1)).eval fun y0 =>
 (q2sx (q2sn d) y0).eval fun y1 =>
 bif y1.2.1 then ((q2t1 (q2sn d) y1).eval fun y2 =>
 some y2) else ((q2t5 (q2sn d) y1).eval fun y3 =>
 (q2t9 (q2sn d) y3).eval fun y4 =>
 (q2td (q2sn d) y4).eval fun y5 =>
 (q2th (q2sn d) y5).eval fun y6 =>
 (q2tj (q2sn d) y6).eval fun y7 =>
 some y7)
theorem q2tm (d:Nat):COK prog (q2sl (q2tl d)):=by
 have hm:prog.follows .mixedOrders=true:=mixed
 have hT:=tys
 have hC0:OrcOK prog (orc (q2so (q2sn d))):=qcn (by
  intro S hS
  simp only [q2so,List.mem_cons,List.not_mem_nil,or_false] at hS
  rcases hS with rfl | rfl | rfl | rfl | rfl | rfl
  · exact qp6 d
  · exact qvd d
  · exact q2h6 d
  · exact q2qs d
  · exact q2i0 d
  · exact q2sg d)
 have hC:OrcOK prog (orc (q2so (q2sn d))):=hC0
 refine q8c (c:=qct f4) (fn:=f4) hT (by kernel_rfl) (by kernel_rfl) (by decide) fun x r h w0 φ0 Q hend=>?_
 replace h:q2tl d x=some r:=h
 unfold q2tl at h
 show Run prog w0 φ0 65 (qct f4) ⟨[(0,.agg [.fz Riii x.1.1]),(1,.int .i64 x.2.1.1),(2,.agg [.int .i64 x.2.2.1.1,.int .i64 x.2.2.1.2.1]),(3,.agg [.int .i64 x.2.2.2.1.1,.int .i64 x.2.2.2.1.2.1])],[]⟩ Q
 refine q342 hm hT hC (q2su (q2sn d) (x.1.1,x.2.1.1,x.2.2.1.1,x.2.2.1.2.1,x.2.2.2.1.1,x.2.2.2.1.2.1)) h fun y0 h=>?_
 refine q7w ?_
 refine q342 hm hT hC (q2sy (q2sn d) y0) h fun y1 h=>?_
 refine q80 (v:=y1.2.1) (by kernel_rfl) h ?_ ?_
 ·
  intro h
  refine q342 hm hT hC (q2t2 (q2sn d) y1) h fun y2 h=>?_
  refine q7v (q7k ?_)
  cases h
  exact (hend _ (by kernel_rfl)).2
 ·
  intro h
  refine q7s (q7i ?_)
  refine q342 hm hT hC (q2t6 (q2sn d) y1) h fun y3 h=>?_
  refine q342 hm hT hC (q2ta (q2sn d) y3) h fun y4 h=>?_
  refine q342 hm hT hC (q2te (q2sn d) y4) h fun y5 h=>?_
  refine q342 hm hT hC (q2ti (q2sn d) y5) h fun y6 h=>?_
  refine q342 hm hT hC (q2tk (q2sn d) y6) h fun y7 h=>?_
  refine q7v ?_
  cases h
  exact (hend _ (by kernel_rfl)).2
end Go.Proofs.YtpfhgnccpiildaaGreat

namespace Go.Proofs.YtpfhgnccpiildaaGreat
open Go Go.Tx Go.Pel
theorem q2tn (d:Nat) (a b:Int):q10g d ((a,()),(b,()),())=some (cmpZ a b):=by
  simp only [q10g,qz4,qz8,qzc,qzg,qzk,qzo,qzs,qzu,qzy,q100,q104,q106,q10a,q10c,q10e,qyw,qym,qyq,qyu,Dt.eval,bne_self_eq_false,cond_false]
  unfold cmpZ
  by_cases h1:a<b
  · simp only [h1,decide_true,cond_true,if_true]
  · by_cases h2 : b < a
    · simp only [h1,h2,gt_iff_lt,decide_true,decide_false,cond_true,cond_false,if_true,if_false]
    · simp only [h1,h2,gt_iff_lt,decide_false,cond_false,if_false]
theorem q2to (d:Nat) (a b:Int):q13u d ((a,()),(b,()),())=some (cmpZ a b):=by
  simp only [q13u,q12i,q12m,q12q,q12u,q12y,q132,q136,q138,q13c,q13e,q13i,q13k,q13o,q13q,q13s,q12a,q120,q124,q128,Dt.eval,bne_self_eq_false,cond_false]
  unfold cmpZ
  by_cases h1:a<b
  · simp only [h1,decide_true,cond_true,if_true]
  · by_cases h2 : b < a
    · simp only [h1,h2,gt_iff_lt,decide_true,decide_false,cond_true,cond_false,if_true,if_false]
    · simp only [h1,h2,gt_iff_lt,decide_false,cond_false,if_false]
theorem q2tq (d:Nat) (a:Int) (h:i64B a=true):q114 d ((a,()),())=some (a.natAbs:Int):=by
  have h:=qiq h
  simp only [q114,q10o,q10s,q10w,q110,q112,Dt.eval]
  by_cases h1:a<0
  · simp only [h1, decide_true, cond_true, IntKind.wrap_u64]
    exact congrArg some (by omega:((0:Int) - a % 18446744073709551616) % 18446744073709551616=(a.natAbs:Int))
  · simp only [h1, decide_false, cond_false, IntKind.wrap_u64]
    exact congrArg some (by omega:(a % 18446744073709551616:Int)=(a.natAbs:Int))
theorem q2ts (d:Nat) (a b:Int) (ha:i64B a=true) (hb:i64B b=true):q11s d ((a,()),(b,()),())=some (!((decide (a<0)) == (decide (b<0))),(((a*b).natAbs / 18446744073709551616:Nat):Int),(((a*b).natAbs % 18446744073709551616:Nat):Int)):=by
  have e1:=q2tq d a ha
  have e2:=q2tq d b hb
  have ha':=qiq ha
  have hb':=qiq hb
  have e3:qmd d (((a.natAbs:Int),()),((b.natAbs:Int),()),())=some (((a.natAbs:Int)*(b.natAbs:Int)) / 18446744073709551616,((a.natAbs:Int)*(b.natAbs:Int)) % 18446744073709551616):=by
    rw [qme _ _ (by unfold qmc u64B;simp only [Bool.and_eq_true,decide_eq_true_eq];omega)]
  simp only [q11s,q11c,q11i,q11m,q11q,Dt.eval,e1,e2,e3]
  rw [Int.natAbs_mul]
  simp
theorem ltZ (a b:Int):cmpZ a b=-1∧a<b∨cmpZ a b=0∧a=b∨cmpZ a b=1∧b<a:=by
  unfold cmpZ
  repeat' split
  all_goals omega
theorem q2tt (d:Nat) (n1 n2:Bool) (P Q:Nat):q14o d ((n1,((P / 18446744073709551616:Nat):Int),((P % 18446744073709551616:Nat):Int),()),(n2,((Q / 18446744073709551616:Nat):Int),((Q % 18446744073709551616:Nat):Int),()),())=some (cmpZ (P:Int) (Q:Int)):=by
  simp only [q14o,q142,q148,q14c,q14g,q14k,q14m,Dt.eval,q2to]
  rcases ltZ ((P / 18446744073709551616:Nat):Int) ((Q / 18446744073709551616:Nat):Int) with ⟨h1,h2⟩ | ⟨h1,h2⟩ | ⟨h1,h2⟩
  · simp only [h1, show ((-1 : Int) != 0) = true from rfl, cond_true]
    rw [qkd (by omega)]
  · simp only [h1, show ((0 : Int) != 0) = false from rfl, cond_false]
    rcases ltZ (P:Int) (Q:Int) with ⟨k1,k2⟩ | ⟨k1,k2⟩ | ⟨k1,k2⟩
    · rw [k1,qkd (by omega)]
    · rw [k1,qkf (by omega)]
    · rw [k1,qke (by omega)]
  · simp only [h1, show ((1 : Int) != 0) = true from rfl, cond_true]
    rw [qke (by omega)]
theorem q2tu (d:Nat) (n1 d1 n2 d2:Int) (h1:i64B n1=true) (h2:i64B d1=true) (h3:i64B n2=true) (h4:i64B d2=true):qye d ((n1,d1,()),(n2,d2,()),())=some (tmax (qcv n1 d1) (qcv n2 d2)):=by
  have e1:qmv d ((n1,d1,()),())=some (qcv n1 d1):=qmw _ _ (by unfold qmu;simp only [h1,h2,Bool.and_self])
  have e2:qmv d ((n2,d2,()),())=some (qcv n2 d2):=qmw _ _ (by unfold qmu;simp only [h3,h4,Bool.and_self])
  simp only [qye,qy2,qy8,qyc,Dt.eval,e1,e2]
def cmpR (n1 d1 n2 d2:Int):Int×Int:=if qcv n1 d1=0∧qcv n2 d2=0 then (cmpQ n1 d1 n2 d2,0) else (0,8)
theorem q2tv (d:Nat) (n1 d1 n2 d2:Int) (h1:i64B n1=true) (h2:i64B d1=true) (h3:i64B n2=true) (h4:i64B d2=true):q161 d ((n1,d1,()),(n2,d2,()),())=some (cmpR n1 d1 n2 d2):=by
  unfold cmpR
  have e0:=q2tu d n1 d1 n2 d2 h1 h2 h3 h4
  by_cases hc:qcv n1 d1=0∧qcv n2 d2=0
  · rw [if_pos hc]
    rw [hc.1,hc.2] at e0
    obtain ⟨g1,_,_⟩:=qd2 hc.1
    obtain ⟨g2,_,_⟩:=qd2 hc.2
    have e1:=q2ts d n1 d2 h1 h4
    have e2:=q2ts d n2 d1 h3 h2
    have e3:=q2tn d n1 n2
    simp only [q161,q14w,q152,q156,q15a,q15e,q15i,q15k,q15o,q15s,q15w,q15y,q160,Dt.eval,e0,e1,e2,e3,q2tt,show tmax 0 0=0 from rfl,show ((0:Int) != 0)=false from rfl,cond_false]
    unfold cmpQ
    have p1:0<d1:=by omega
    have p2:0<d2:=by omega
    have s1:(n1<0→n1*d2<0)∧(0≤n1→0≤n1*d2):=⟨fun h=>Int.mul_neg_of_neg_of_pos h p2,fun h=>Int.mul_nonneg h (by omega)⟩
    have s2:(n2<0→n2*d1<0)∧(0≤n2→0≤n2*d1):=⟨fun h=>Int.mul_neg_of_neg_of_pos h p1,fun h=>Int.mul_nonneg h (by omega)⟩
    generalize n1*d2=P at *
    generalize n2*d1=Q at *
    by_cases k1:n1<0<;>by_cases k2:n2<0<;>simp only [k1,k2,decide_true,decide_false,beq_self_eq_true,Bool.not_true,Bool.not_false,cond_true,cond_false,Bool.false_beq,Bool.true_beq]
    · have := s1.1 k1
      have:=s2.1 k2
      rcases ltZ (P.natAbs:Int) (Q.natAbs:Int) with ⟨g1,g2⟩ | ⟨g1,g2⟩ | ⟨g1,g2⟩
      · rw [g1,qke (a:=P) (b:=Q) (by omega)];rfl
      · rw [g1,qkf (a:=P) (b:=Q) (by omega)];rfl
      · rw [g1,qkd (a:=P) (b:=Q) (by omega)];rfl
    · have := s1.1 k1
      have:=s2.2 (by omega)
      rw [qkd (by omega),qkd (by omega)]
    · have := s1.2 (by omega)
      have:=s2.1 k2
      rw [qke (by omega),qke (by omega)]
    · have := s1.2 (by omega)
      have:=s2.2 (by omega)
      rw [show (P.natAbs:Int)=P by omega,show (Q.natAbs:Int)=Q by omega]
  · rw [if_neg hc]
    have e1:tmax (qcv n1 d1) (qcv n2 d2)=8:=by
      unfold tmax
      rcases qd1 n1 d1 with q1 | q1<;>rcases qd1 n2 d2 with q2 | q2
      · exact absurd ⟨q1,q2⟩ hc
      all_goals rw [q1,q2];rfl
    rw [e1] at e0
    simp only [q161,q14w,q152,q156,q15a,q15e,Dt.eval,e0,show ((8:Int) != 0)=true from rfl,cond_true]
theorem q2tx (d:Nat) (P:Int):q2iv d ((decide (P<0),((P.natAbs / 18446744073709551616:Nat):Int),((P.natAbs % 18446744073709551616:Nat):Int),()),())=some (cmpZ P 0):=by
  simp only [q2iv,q2i7,q2id,q2ih,q2il,q2ip,q2ir,q2it,Dt.eval]
  by_cases h0:P=0
  · subst h0;rfl
  · have hne : ¬ (((P.natAbs / 18446744073709551616 : Nat) : Int) = 0 ∧ ((P.natAbs % 18446744073709551616 : Nat) : Int) = 0) := by omega
    have hh:(bif (((P.natAbs / 18446744073709551616:Nat):Int) == 0) then (((P.natAbs % 18446744073709551616:Nat):Int) == 0) else false)=false:=by
      cases h1:(((P.natAbs / 18446744073709551616:Nat):Int) == 0) with
      | false=>rfl
      | true=>rw [cond_true,beq_eq_false_iff_ne];rw [beq_iff_eq] at h1;intro h2;exact hne ⟨h1,h2⟩
    cases h1:(((P.natAbs / 18446744073709551616:Nat):Int) == 0) with
    | false =>
      simp only [cond_false]
      rcases ltZ P 0 with ⟨k1,k2⟩ | ⟨k1,k2⟩ | ⟨k1,k2⟩
      · simp only [k1,k2,decide_true,cond_true]
      · exact absurd k2 h0
      · simp only [k1,show ¬ P<0 by omega,decide_false,cond_false]
    | true =>
      rw [h1,cond_true] at hh
      simp only [cond_true,hh,cond_false]
      rcases ltZ P 0 with ⟨k1,k2⟩ | ⟨k1,k2⟩ | ⟨k1,k2⟩
      · simp only [k1,k2,decide_true,cond_true]
      · exact absurd k2 h0
      · simp only [k1,show ¬ P<0 by omega,decide_false,cond_false]
theorem q2ty (d:Nat) (n1 n2:Bool) (P Q:Nat):q1u9 d ((n1,((P / 18446744073709551616:Nat):Int),((P % 18446744073709551616:Nat):Int),()),(n2,((Q / 18446744073709551616:Nat):Int),((Q % 18446744073709551616:Nat):Int),()),())=some (cmpZ (P:Int) (Q:Int)):=by
  simp only [q1u9,q1t9,q1tf,q1tj,q1tn,q1tr,q1tt,q1tx,q1u1,q1u3,q1u5,q1u7,Dt.eval]
  obtain ⟨a,ha⟩:∃ a:Int,((P / 18446744073709551616:Nat):Int)=a:=⟨_,rfl⟩
  obtain ⟨b,hb⟩:∃ a:Int,((P % 18446744073709551616:Nat):Int)=a:=⟨_,rfl⟩
  obtain ⟨c,hc⟩:∃ a:Int,((Q / 18446744073709551616:Nat):Int)=a:=⟨_,rfl⟩
  obtain ⟨e,he⟩:∃ a:Int,((Q % 18446744073709551616:Nat):Int)=a:=⟨_,rfl⟩
  rw [ha,hb,hc,he]
  rcases ltZ a c with ⟨_,k2⟩ | ⟨_,k2⟩ | ⟨_,k2⟩
  · have e1 : (a != c) = true := by simp; omega
    simp only [e1,k2,decide_true,cond_true]
    rw [qkd (by omega)]
  · have e1 : (a != c) = false := by simp; omega
    simp only [e1,cond_false]
    rcases ltZ b e with ⟨_,g2⟩ | ⟨_,g2⟩ | ⟨_,g2⟩
    · have e2 : (b != e) = true := by simp; omega
      simp only [e2,g2,decide_true,cond_true]
      rw [qkd (by omega)]
    · have e2 : (b != e) = false := by simp; omega
      simp only [e2,cond_false]
      rw [qkf (by omega)]
    · have e2 : (b != e) = true := by simp; omega
      simp only [e2,show ¬ b<e by omega,decide_false,cond_true,cond_false]
      rw [qke (by omega)]
  · have e1 : (a != c) = true := by simp; omega
    simp only [e1,show ¬ a<c by omega,decide_false,cond_true,cond_false]
    rw [qke (by omega)]
theorem q2tz (d:Nat) (n1 d1 n2 d2:Int) (h1:i64B n1=true) (h2:i64B d1=true) (h3:i64B n2=true) (h4:i64B d2=true):q2k1 d ((n1,d1,()),(n2,d2,()),())=some (cmpQ n1 d1 n2 d2):=by
  have e1:qmm d ((n1,()),(d2,()),())=some (decide (n1*d2<0),(((n1*d2).natAbs / 18446744073709551616:Nat):Int),(((n1*d2).natAbs % 18446744073709551616:Nat):Int)):=qmn _ _ (by unfold qml;simp only [h1,h4,Bool.and_self])
  have e2:qmm d ((n2,()),(d1,()),())=some (decide (n2*d1<0),(((n2*d1).natAbs / 18446744073709551616:Nat):Int),(((n2*d1).natAbs % 18446744073709551616:Nat):Int)):=qmn _ _ (by unfold qml;simp only [h3,h2,Bool.and_self])
  unfold cmpQ
  generalize n1*d2=P at *
  generalize n2*d1=Q at *
  have hs:=@qm0 P Q
  have hn:=@qm1 P Q
  have hp:=@qm2 P Q
  simp only [q2k1,q2j3,q2j9,q2jd,q2jh,q2jl,q2jp,q2jr,q2jv,q2jx,q2jz,Dt.eval,e1,e2,q2tx,q2ty]
  by_cases hg:cmpZ P 0=cmpZ Q 0
  · have g1 : (cmpZ P 0 != cmpZ Q 0) = false := by simp [hg]
    simp only [g1,cond_false]
    by_cases h0:cmpZ P 0<0
    · simp only [h0,decide_true,cond_true];rw [hn hg h0]
    · simp only [h0,decide_false,cond_false];rw [hp hg h0]
  · have g1 : (cmpZ P 0 != cmpZ Q 0) = true := by simp [hg]
    simp only [g1,cond_true]
    have:=hs hg
    by_cases h0:cmpZ P 0<cmpZ Q 0
    · rw [if_pos h0] at this;simp only [h0,decide_true,cond_true];rw [this]
    · rw [if_neg h0] at this;simp only [h0,decide_false,cond_false];rw [this]
end Go.Proofs.YtpfhgnccpiildaaGreat
