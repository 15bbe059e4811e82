/- Walks of the references; the orders agree; examples. -/
import Derived.Test.YtoakhncbmpdacaaGf
set_option linter.unusedSimpArgs false
set_option linter.unusedVariables false
namespace Go.Proofs.Ytoakhncbmpdacaa
open Go Go.Tx Go.Proofs.Try
set_option maxRecDepth 100000
set_option maxHeartbeats 0
abbrev q271:List Pk:=[.row Ri false]
abbrev q272:Type:=Di×Unit
abbrev q273:Type:=Bool
def q274 (r:q273):LV×List Ob:=(.bool r,[])
def q275 (F:q272→Option q273):Go.Tx.Spec:=⟨81,q271,q273,F,q274⟩
abbrev q276:Type:=Unit
def q277 (_d:Nat):q276:=()
def q278 (C:q276):List Go.Tx.Spec:=[]
abbrev q279:Type:=Int
def q27a (v:q279):St:=⟨[(0,i6 v)],[]⟩
def q27b (C:q276) (v:q279):Dt q279:=(Dt.ret v)
abbrev q358 {V Y:Type}:=@rg q276 V Y tysT (fun C=>(orc (q278 C))) 6
theorem q27c C v:q358 (regO (qea f81) 0) false [(0,.any)] q27a q27b q27a C v:=rgI (by kernel_rfl)
abbrev q27d:Type:=Bool
def q27e (v:q27d):St:=⟨[(2,.bool v)],[]⟩
def q27f (C:q276) (v:q279):Dt q27d:=(Dt.ret (v != v))
theorem q27g C v:q358 (regO (qea f81) 1) false [(2,.any)] q27a q27f q27e C v:=rgI (by kernel_rfl)
def q27h (d:Nat) (x:q272):Option q273 :=
 (q27b (q277 d) x.1.1).eval fun y0 =>
 (q27f (q277 d) y0).eval fun y1 =>
 some y1
theorem q27i (d:Nat):COK prog (q275 (q27h d)):=by
 have hm:prog.follows .mixedOrders=true:=mixed
 have hT:=tys
 have hC0:OrcOK prog (orc (q278 (q277 d))):=qe4 (by
  intro S hS
  simp only [q278,List.mem_cons,List.not_mem_nil,or_false] at hS
  all_goals first | cases hS | exact hS.elim)
 have hC:OrcOK prog (orc (q278 (q277 d))):=hC0
 refine q9t (c:=qea f81) (fn:=f81) hT (by kernel_rfl) (by kernel_rfl) (by decide) fun x r h w0 φ0 Q hend=>?_
 replace h:q27h d x=some r:=h
 unfold q27h at h
 show Run prog w0 φ0 6 (qea f81) ⟨[(0,.int .i64 x.1.1)],[]⟩ Q
 refine q344 hm hT hC (q27c (q277 d) x.1.1) h fun y0 h=>?_
 refine q344 hm hT hC (q27g (q277 d) y0) h fun y1 h=>?_
 refine q9c ?_
 cases h
 exact (hend _ (by kernel_rfl)).2
abbrev q27j:List Pk:=[.row Ri false,.row Ri false]
abbrev q27k:Type:=Di×Di×Unit
abbrev q27l:Type:=Int
def q27m (r:q27l):LV×List Ob:=(.int .i64 r,[])
def q27n (F:q27k→Option q27l):Go.Tx.Spec:=⟨63,q27j,q27l,F,q27m⟩
abbrev q27o:Type:=(q272→Option q273)×Unit
def q27p (d:Nat):q27o:=(q27h d,())
def q27q (C:q27o):List Go.Tx.Spec:=[q275 C.1]
abbrev q27r:Type:=Int×Int
def q27s (v:q27r):St:=⟨[(0,i6 v.1),(1,i6 v.2)],[]⟩
def q27t (C:q27o) (v:q27r):Dt q27r:=(Dt.ret (v.1,v.2))
abbrev q359 {V Y:Type}:=@rg q27o V Y tysT (fun C=>(orc (q27q C))) 20
theorem q27u C v:q359 (regO (qea f63) 0) false (an [0,1]) q27s q27t q27s C v:=rgI (by kernel_rfl)
abbrev q27v:Type:=Int×Int×Bool
def q27w (v:q27v):St:=⟨[(0,i6 v.1),(1,i6 v.2.1),(5,.bool v.2.2)],[]⟩
def q27x (C:q27o) (v:q27r):Dt q27v:=(Dt.bnd (C.1 ((v.1,()),())) fun r1=>(Dt.ret (v.1,v.2,r1)))
theorem q27y C v:q359 (regO (qea f63) 1) false (an [0,1,5]) q27s q27x q27w C v:=rgI (by kernel_rfl)
abbrev q27z:Type:=Int×Int×Bool×Bool
def q280 (v:q27z):St:=⟨[(0,i6 v.1),(1,i6 v.2.1),(5,.bool v.2.2.1),(6,.bool v.2.2.2)],[]⟩
def q281 (C:q27o) (v:q27v):Dt q27z:=(Dt.bnd (C.1 ((v.2.1,()),())) fun r1=>(Dt.ret (v.1,v.2.1,v.2.2,r1)))
theorem q282 C v:q359 (regO (qea f63) 2) false (an [0,1,5,6]) q27w q281 q280 C v:=rgI (by kernel_rfl)
abbrev q283:Type:=Int×Int×Bool×Bool
def q284 (v:q283):St:=⟨[(0,i6 v.1),(1,i6 v.2.1),(6,.bool v.2.2.1),(11,.bool v.2.2.2)],[]⟩
def q285 (C:q27o) (v:q27z):Dt q283:=(Dt.ret (v.1,v.2.1,v.2.2.2,v.2.2.1))
theorem q286 C v:q359 (regO (qea f63) 3) false (an [0,1,6,11]) q280 q285 q284 C v:=rgI (by kernel_rfl)
abbrev q287:Type:=Bool
def q288 (v:q287):St:=⟨[(12,.bool v)],[]⟩
def q289 (C:q27o) (v:q283):Dt q287:=(Dt.ret v.2.2.1)
theorem q28a C v:q359 (regO (qea f63) 4) false [(12,.any)] q284 q289 q288 C v:=rgI (by kernel_rfl)
abbrev q28b:Type:=Int
def q28c (v:q28b):St:=⟨[(4,i6 v)],[]⟩
def q28d (C:q27o) (v:q287):Dt q28b:=(Dt.ret (0:Int))
theorem q28e C v:q359 (regO (qea f63) 5) false [(4,.any)] q288 q28d q28c C v:=rgI (by kernel_rfl)
def q28f (C:q27o) (v:q287):Dt q28b:=(Dt.ret (-1:Int))
theorem q28g C v:q359 (regO (qea f63) 6) false [(4,.any)] q288 q28f q28c C v:=rgI (by kernel_rfl)
abbrev q28h:Type:=Int×Int×Bool
def q28i (v:q28h):St:=⟨[(0,i6 v.1),(1,i6 v.2.1),(13,.bool v.2.2)],[]⟩
def q28j (C:q27o) (v:q283):Dt q28h:=(Dt.ret (v.1,v.2.1,v.2.2.1))
theorem q28k C v:q359 (regO (qea f63) 7) false (an [0,1,13]) q284 q28j q28i C v:=rgI (by kernel_rfl)
def q28l (C:q27o) (v:q28h):Dt q28b:=(Dt.ret (1:Int))
theorem q28m C v:q359 (regO (qea f63) 8) false [(4,.any)] q28i q28l q28c C v:=rgI (by kernel_rfl)
abbrev q28n:Type:=Int×Int×Bool
def q28o (v:q28n):St:=⟨[(0,i6 v.1),(1,i6 v.2.1),(16,.bool v.2.2)],[]⟩
def q28p (C:q27o) (v:q28h):Dt q28n:=(Dt.ret (v.1,v.2.1,(decide (v.1<v.2.1))))
theorem q28q C v:q359 (regO (qea f63) 9) false (an [0,1,16]) q28i q28p q28o C v:=rgI (by kernel_rfl)
def q28r (C:q27o) (v:q28n):Dt q28b:=(Dt.ret (-1:Int))
theorem q28s C v:q359 (regO (qea f63) 10) false [(4,.any)] q28o q28r q28c C v:=rgI (by kernel_rfl)
abbrev q28t:Type:=Bool
def q28u (v:q28t):St:=⟨[(19,.bool v)],[]⟩
def q28v (C:q27o) (v:q28n):Dt q28t:=(Dt.ret (decide (v.1 > v.2.1)))
theorem q28w C v:q359 (regO (qea f63) 11) false [(19,.any)] q28o q28v q28u C v:=rgI (by kernel_rfl)
def q28x (C:q27o) (v:q28t):Dt q28b:=(Dt.ret (1:Int))
theorem q28y C v:q359 (regO (qea f63) 12) false [(4,.any)] q28u q28x q28c C v:=rgI (by kernel_rfl)
def q28z (C:q27o) (v:q28t):Dt q28b:=(Dt.ret (0:Int))
theorem q290 C v:q359 (regO (qea f63) 13) false [(4,.any)] q28u q28z q28c C v:=rgI (by kernel_rfl)
def q291 (d:Nat) (x:q27k):Option q27l :=
 (q27t (q27p d) (x.1.1,x.2.1.1)).eval fun y0 =>
 (q27x (q27p d) y0).eval fun y1 =>
 (q281 (q27p d) y1).eval fun y2 =>
 (q285 (q27p d) y2).eval fun y3 =>
 bif y3.2.2.2 then ((q289 (q27p d) y3).eval fun y4 =>
 bif y4 then ((q28d (q27p d) y4).eval fun y5 =>
 some y5) else ((q28f (q27p d) y4).eval fun y6 =>
 some y6)) else ((q28j (q27p d) y3).eval fun y7 =>
 bif y7.2.2 then ((q28l (q27p d) y7).eval fun y8 =>
 some y8) else ((q28p (q27p d) y7).eval fun y9 =>
 bif y9.2.2 then ((q28r (q27p d) y9).eval fun y10 =>
 some y10) else ((q28v (q27p d) y9).eval fun y11 =>
 bif y11 then ((q28x (q27p d) y11).eval fun y12 =>
 some y12) else ((q28z (q27p d) y11).eval fun y13 =>
 some y13))))
theorem q292 (d:Nat):COK prog (q27n (q291 d)):=by
 have hm:prog.follows .mixedOrders=true:=mixed
 have hT:=tys
 have hC0:OrcOK prog (orc (q27q (q27p d))):=qe4 (by
  intro S hS
  simp only [q27q,List.mem_cons,List.not_mem_nil,or_false] at hS
  subst hS;exact q27i d)
 have hC:OrcOK prog (orc (q27q (q27p d))):=hC0
 refine q9t (c:=qea f63) (fn:=f63) hT (by kernel_rfl) (by kernel_rfl) (by decide) fun x r h w0 φ0 Q hend=>?_
 replace h:q291 d x=some r:=h
 unfold q291 at h
 show Run prog w0 φ0 20 (qea f63) ⟨[(0,.int .i64 x.1.1),(1,.int .i64 x.2.1.1)],[]⟩ Q
 refine q344 hm hT hC (q27u (q27p d) (x.1.1,x.2.1.1)) h fun y0 h=>?_
 refine q344 hm hT hC (q27y (q27p d) y0) h fun y1 h=>?_
 refine q344 hm hT hC (q282 (q27p d) y1) h fun y2 h=>?_
 refine q9d ?_
 refine q344 hm hT hC (q286 (q27p d) y2) h fun y3 h=>?_
 refine q9h (v:=y3.2.2.2) (by kernel_rfl) h ?_ ?_
 ·
  intro h
  refine q9d ?_
  refine q344 hm hT hC (q28a (q27p d) y3) h fun y4 h=>?_
  refine q9h (v:=y4) (by kernel_rfl) h ?_ ?_
  ·
   intro h
   refine q344 hm hT hC (q28e (q27p d) y4) h fun y5 h=>?_
   refine q9c (q91 (q91 ?_))
   cases h
   exact (hend _ (by kernel_rfl)).2
  ·
   intro h
   refine q99 (q8z ?_)
   refine q344 hm hT hC (q28g (q27p d) y4) h fun y6 h=>?_
   refine q9c (q91 ?_)
   cases h
   exact (hend _ (by kernel_rfl)).2
 ·
  intro h
  refine q99 (q8z (q9d ?_))
  refine q344 hm hT hC (q28k (q27p d) y3) h fun y7 h=>?_
  refine q9h (v:=y7.2.2) (by kernel_rfl) h ?_ ?_
  ·
   intro h
   refine q344 hm hT hC (q28m (q27p d) y7) h fun y8 h=>?_
   refine q9c (q91 ?_)
   cases h
   exact (hend _ (by kernel_rfl)).2
  ·
   intro h
   refine q99 (q8z (q9d ?_))
   refine q344 hm hT hC (q28q (q27p d) y7) h fun y9 h=>?_
   refine q9h (v:=y9.2.2) (by kernel_rfl) h ?_ ?_
   ·
    intro h
    refine q344 hm hT hC (q28s (q27p d) y9) h fun y10 h=>?_
    refine q9c (q91 ?_)
    cases h
    exact (hend _ (by kernel_rfl)).2
   ·
    intro h
    refine q99 (q8z (q9d ?_))
    refine q344 hm hT hC (q28w (q27p d) y9) h fun y11 h=>?_
    refine q9h (v:=y11) (by kernel_rfl) h ?_ ?_
    ·
     intro h
     refine q344 hm hT hC (q28y (q27p d) y11) h fun y12 h=>?_
     refine q9c (q91 ?_)
     cases h
     exact (hend _ (by kernel_rfl)).2
    ·
     intro h
     refine q99 (q8z ?_)
     refine q344 hm hT hC (q290 (q27p d) y11) h fun y13 h=>?_
     refine q9c ?_
     cases h
     exact (hend _ (by kernel_rfl)).2
abbrev q293:List Pk:=[.row Riii true,.row Riii true]
abbrev q294:Type:=Diii×Diii×Unit
abbrev q295:Type:=Int
def q296 (r:q295):LV×List Ob:=(.int .i64 r,[])
def q297 (F:q294→Option q295):Go.Tx.Spec:=⟨80,q293,q295,F,q296⟩
abbrev q298:Type:=(q27k→Option q27l)×Unit
def q299 (d:Nat):q298:=(q291 d,())
def q29a (C:q298):List Go.Tx.Spec:=[q27n C.1]
abbrev q29b:Type:=Int×Int×Int×Int×Int×Int
def q29c (v:q29b):St:=⟨[(0,.agg [i6 v.1,i6 v.2.1,i6 v.2.2.1]),(1,.agg [i6 v.2.2.2.1,i6 v.2.2.2.2.1,i6 v.2.2.2.2.2])],[]⟩
abbrev q29d:Type:=Int×Int×Int×Int×Int×Int
def q29e (v:q29d):St:=⟨[(2,.ptr 0 0),(3,.ptr 1 0)],[.cells [i6 v.1,i6 v.2.1,i6 v.2.2.1],.cells [i6 v.2.2.2.1,i6 v.2.2.2.2.1,i6 v.2.2.2.2.2]]⟩
def q29f (C:q298) (v:q29b):Dt q29d:=(Dt.ret (v.1,v.2.1,v.2.2.1,v.2.2.2.1,v.2.2.2.2.1,v.2.2.2.2.2))
abbrev q35a {V Y:Type}:=@rg q298 V Y tysT (fun C=>(orc (q29a C))) 10
theorem q29g C v:q35a (regO (qea f80) 0) false (an [2,3]) q29c q29f q29e C v:=rgI (by kernel_rfl)
abbrev q29h:Type:=Int
def q29i (v:q29h):St:=⟨[(4,i6 v)],[]⟩
def q29j (C:q298) (v:q29d):Dt q29h:=(Dt.bnd (C.1 ((v.1,()),(v.2.2.2.1,()),())) fun r1=>(Dt.ret r1))
theorem q29k C v:q35a (regO (qea f80) 1) false [(4,.any)] q29e q29j q29i C v:=rgI (by kernel_rfl)
def q29l (d:Nat) (x:q294):Option q295 :=
 (q29f (q299 d) (x.1.1,x.1.2.1,x.1.2.2.1,x.2.1.1,x.2.1.2.1,x.2.1.2.2.1)).eval fun y0 =>
 (q29j (q299 d) y0).eval fun y1 =>
 some y1
theorem q29m (d:Nat):COK prog (q297 (q29l d)):=by
 have hm:prog.follows .mixedOrders=true:=mixed
 have hT:=tys
 have hC0:OrcOK prog (orc (q29a (q299 d))):=qe4 (by
  intro S hS
  simp only [q29a,List.mem_cons,List.not_mem_nil,or_false] at hS
  subst hS;exact q292 d)
 have hC:OrcOK prog (orc (q29a (q299 d))):=hC0
 refine q9t (c:=qea f80) (fn:=f80) hT (by kernel_rfl) (by kernel_rfl) (by decide) fun x r h w0 φ0 Q hend=>?_
 replace h:q29l d x=some r:=h
 unfold q29l at h
 show Run prog w0 φ0 10 (qea f80) ⟨[(0,.agg [.int .i64 x.1.1,.int .i64 x.1.2.1,.int .i64 x.1.2.2.1]),(1,.agg [.int .i64 x.2.1.1,.int .i64 x.2.1.2.1,.int .i64 x.2.1.2.2.1])],[]⟩ Q
 refine q344 hm hT hC (q29g (q299 d) (x.1.1,x.1.2.1,x.1.2.2.1,x.2.1.1,x.2.1.2.1,x.2.1.2.2.1)) h fun y0 h=>?_
 refine q344 hm hT hC (q29k (q299 d) y0) h fun y1 h=>?_
 refine q9c ?_
 cases h
 exact (hend _ (by kernel_rfl)).2
abbrev q29n:List Pk:=[.row qks false,.fn 80 []]
abbrev q29o:Type:=qkt×(Unit)×Unit
abbrev q29p:Type:=Bool
def q29q (r:q29p):LV×List Ob:=(.bool r,[])
def q29r (F:q29o→Option q29p):Go.Tx.Spec:=⟨79,q29n,q29p,F,q29q⟩
abbrev q29s:Type:=(q294→Option q295)×Unit
def q29t (d:Nat):q29s:=(q29l d,())
def q29u (C:q29s):List Go.Tx.Spec:=[q297 C.1]
abbrev q29v:Type:=List Diii
def q29w (v:q29v):St:=⟨[(0,.fz Riii v),(1,.fn 80 [])],[]⟩
def q29x (C:q29s) (v:q29v):Dt q29v:=(Dt.ret v)
abbrev q35b {V Y:Type}:=@rg q29s V Y tysT (fun C=>(orc (q29u C))) 25
theorem q29y C v:q35b (regO (qea f79) 0) false [(0,(.val Riii)),(1,.any)] q29w q29x q29w C v:=rgI (by kernel_rfl)
abbrev q29z:Type:=List Diii×Int
def q2a0 (v:q29z):St:=⟨[(0,.fz Riii v.1),(1,.fn 80 []),(5,i6 v.2)],[]⟩
def q2a1 (C:q29s) (v:q29v):Dt q29z:=(Dt.ret (v,(IntKind.wrap .i64 ((List.length v:Int) - (1:Int)))))
theorem q2a2 C v:q35b (regO (qea f79) 1) false [(0,(.val Riii)),(1,.any),(5,.any)] q29w q2a1 q2a0 C v:=rgI (by kernel_rfl)
abbrev q2a3:Type:=List Diii×Int×Bool
def q2a4 (v:q2a3):St:=⟨[(0,.fz Riii v.1),(1,.fn 80 []),(5,i6 v.2.1),(10,.bool v.2.2)],[]⟩
def q2a5 (C:q29s) (v:q29z):Dt q2a3:=(Dt.ret (v.1,v.2,(decide (v.2 > (0:Int)))))
theorem q2a6 C v:q35b (regO (qea f79) 2) false [(0,(.val Riii)),(1,.any),(5,.any),(10,.any)] q2a0 q2a5 q2a4 C v:=rgI (by kernel_rfl)
abbrev q2a7:Type:=List Diii×Int×Bool
def q2a8 (v:q2a7):St:=⟨[(0,.fz Riii v.1),(1,.fn 80 []),(5,i6 v.2.1),(24,.bool v.2.2)],[]⟩
def q2a9 (C:q29s) (v:q2a3):Dt q2a7:=(Dt.ite (inB v.2.1 (List.length v.1)) (Dt.ite (inB (IntKind.wrap .i64 (v.2.1 - (1:Int))) (List.length v.1)) (Dt.bnd (C.1 (((elt ziii v.1 (v.2.1).toNat).1,(elt ziii v.1 (v.2.1).toNat).2.1,(elt ziii v.1 (v.2.1).toNat).2.2.1,()),((elt ziii v.1 ((IntKind.wrap .i64 (v.2.1 - (1:Int)))).toNat).1,(elt ziii v.1 ((IntKind.wrap .i64 (v.2.1 - (1:Int)))).toNat).2.1,(elt ziii v.1 ((IntKind.wrap .i64 (v.2.1 - (1:Int)))).toNat).2.2.1,()),())) fun r1=>(Dt.ret (v.1,v.2.1,(decide (r1<(0:Int)))))) Dt.fail) Dt.fail)
theorem q2aa C v:q35b (regO (qea f79) 4) true [(0,(.val Riii)),(1,.any),(5,.any),(24,.any)] q2a4 q2a9 q2a8 C v:=rgI (by kernel_rfl)
abbrev q2ab:Type:=Bool
def q2ac (v:q2ab):St:=⟨[(4,.bool v)],[]⟩
def q2ad (C:q29s) (v:q2a7):Dt q2ab:=(Dt.ret false)
theorem q2ae C v:q35b (regO (qea f79) 5) false [(4,.any)] q2a8 q2ad q2ac C v:=rgI (by kernel_rfl)
def q2af (C:q29s) (v:q2a7):Dt q29z:=(Dt.ret (v.1,(IntKind.wrap .i64 (v.2.1 - (1:Int)))))
theorem q2ag C v:q35b (regO (qea f79) 3) false [(0,(.val Riii)),(1,.any),(5,.any)] q2a8 q2af q2a0 C v:=rgI (by kernel_rfl)
def q2ah (C:q29s) (v:q2a3):Dt q2ab:=(Dt.ret true)
theorem q2ai C v:q35b (regO (qea f79) 6) false [(4,.any)] q2a4 q2ah q2ac C v:=rgI (by kernel_rfl)
def q2aj (d:Nat) (self1:(List Diii×Int)→Option q29p) (x1:List Diii×Int):Option q29p :=
 (q2a5 (q29t d) x1).eval fun y2 =>
 bif y2.2.2 then ((q2a9 (q29t d) y2).eval fun y4 =>
 bif y4.2.2 then ((q2ad (q29t d) y4).eval fun y5 =>
 some y5) else ((q2af (q29t d) y4).eval fun y3 =>
 self1 y3)) else ((q2ah (q29t d) y2).eval fun y6 =>
 some y6)
def q2ak (d:Nat) (x:q29o):Option q29p :=
 (q29x (q29t d) x.1.1).eval fun y0 =>
 (q2a1 (q29t d) y0).eval fun y1 =>
 iter (q2aj d ) d y1
theorem q2al (d:Nat):COK prog (q29r (q2ak d)):=by
 have hm:prog.follows .mixedOrders=true:=mixed
 have hT:=tys
 have hC0:OrcOK prog (orc (q29u (q29t d))):=qe4 (by
  intro S hS
  simp only [q29u,List.mem_cons,List.not_mem_nil,or_false] at hS
  subst hS;exact q29m d)
 have hC:OrcOK prog (orc (q29u (q29t d))):=hC0
 refine q9t (c:=qea f79) (fn:=f79) hT (by kernel_rfl) (by kernel_rfl) (by decide) fun x r h w0 φ0 Q hend=>?_
 replace h:q2ak d x=some r:=h
 unfold q2ak at h
 show Run prog w0 φ0 25 (qea f79) ⟨[(0,.fz Riii x.1.1),(1,.fn 80 [])],[]⟩ Q
 refine q344 hm hT hC (q29y (q29t d) x.1.1) h fun y0 h=>?_
 refine q9d ?_
 refine q344 hm hT hC (q2a2 (q29t d) y0) h fun y1 h=>?_
 refine q9e ?_
 refine q9j (G:=iter (q2aj d )) (S:=(fun x1=>⟨[(0,.fz Riii x1.1),(1,.fn 80 []),(5,i6 x1.2)],[]⟩:List Diii×Int→St)) (fun _=>rfl) ?_ d _ h
 intro n1 x1 h K1 hn1
 replace h:q2aj d  (iter (q2aj d ) n1) x1=some r:=h
 generalize iter (q2aj d ) n1=self1 at h hn1
 unfold q2aj at h
 refine q9d ?_
 refine q344 hm hT hC (q2a6 (q29t d) x1) h fun y2 h=>?_
 refine q9h (v:=y2.2.2) (by kernel_rfl) h ?_ ?_
 ·
  intro h
  refine q99 (q8z (q9d (q9e ?_)))
  refine q344 hm hT hC (q2aa (q29t d) y2) h fun y4 h=>?_
  refine q9h (v:=y4.2.2) (by kernel_rfl) h ?_ ?_
  ·
   intro h
   refine q344 hm hT hC (q2ae (q29t d) y4) h fun y5 h=>?_
   refine q9c (q93 (q91 (q91 (q93 (q91 ?_)))))
   cases h
   exact (hend _ (by kernel_rfl)).2
  ·
   intro h
   refine q99 (q92 (q8z ?_))
   refine q9i hm hT hC (q2ag (q29t d) y4) h ?_
   intro y3 h
   exact hn1 _ h
 ·
  intro h
  refine q9b (q90 (q90 (q94 (q8z ?_))))
  refine q344 hm hT hC (q2ai (q29t d) y2) h fun y6 h=>?_
  refine q9c ?_
  cases h
  exact (hend _ (by kernel_rfl)).2
abbrev q2am:List Pk:=[.row qkv true]
abbrev q2an:Type:=qkw×Unit
abbrev q2ao:Type:=Bool
def q2ap (r:q2ao):LV×List Ob:=(.bool r,[])
def q2aq (F:q2an→Option q2ao):Go.Tx.Spec:=⟨60,q2am,q2ao,F,q2ap⟩
abbrev q2ar:Type:=(q29o→Option q29p)×Unit
def q2as (d:Nat):q2ar:=(q2ak d,())
def q2at (C:q2ar):List Go.Tx.Spec:=[q29r C.1]
abbrev q2au:Type:=Int×List Diii
def q2av (v:q2au):St:=⟨[(0,.agg [i6 v.1,.fz Riii v.2])],[]⟩
abbrev q2aw:Type:=Int×List Diii
def q2ax (v:q2aw):St:=⟨[(1,.ptr 0 0)],[.cells [i6 v.1,.fz Riii v.2]]⟩
def q2ay (C:q2ar) (v:q2au):Dt q2aw:=(Dt.ret (v.1,v.2))
abbrev q35c {V Y:Type}:=@rg q2ar V Y tysT (fun C=>(orc (q2at C))) 6
theorem q2az C v:q35c (regO (qea f60) 0) false [(1,(.box [.any,.val Riii]))] q2av q2ay q2ax C v:=rgI (by kernel_rfl)
abbrev q2b0:Type:=Bool
def q2b1 (v:q2b0):St:=⟨[(2,.bool v)],[]⟩
def q2b2 (C:q2ar) (v:q2aw):Dt q2b0:=(Dt.bnd (C.1 ((v.2,()),(()),())) fun r1=>(Dt.ret r1))
theorem q2b3 C v:q35c (regO (qea f60) 1) false [(2,.any)] q2ax q2b2 q2b1 C v:=rgI (by kernel_rfl)
def q2b4 (d:Nat) (x:q2an):Option q2ao :=
 (q2ay (q2as d) (x.1.1,x.1.2.1)).eval fun y0 =>
 (q2b2 (q2as d) y0).eval fun y1 =>
 some y1
theorem q2b5 (d:Nat):COK prog (q2aq (q2b4 d)):=by
 have hm:prog.follows .mixedOrders=true:=mixed
 have hT:=tys
 have hC0:OrcOK prog (orc (q2at (q2as d))):=qe4 (by
  intro S hS
  simp only [q2at,List.mem_cons,List.not_mem_nil,or_false] at hS
  subst hS;exact q2al d)
 have hC:OrcOK prog (orc (q2at (q2as d))):=hC0
 refine q9t (c:=qea f60) (fn:=f60) hT (by kernel_rfl) (by kernel_rfl) (by decide) fun x r h w0 φ0 Q hend=>?_
 replace h:q2b4 d x=some r:=h
 unfold q2b4 at h
 show Run prog w0 φ0 6 (qea f60) ⟨[(0,.agg [.int .i64 x.1.1,.fz Riii x.1.2.1])],[]⟩ Q
 refine q344 hm hT hC (q2az (q2as d) (x.1.1,x.1.2.1)) h fun y0 h=>?_
 refine q344 hm hT hC (q2b3 (q2as d) y0) h fun y1 h=>?_
 refine q9c ?_
 cases h
 exact (hend _ (by kernel_rfl)).2
abbrev q2b6:List Pk:=[.row qks false]
abbrev q2b7:Type:=qkt×Unit
abbrev q2b8:Type:=List Diii
def q2b9 (r:q2b8):LV×List Ob:=(.rs 0,[.rows Riii r])
def q2ba (F:q2b7→Option q2b8):Go.Tx.Spec:=⟨64,q2b6,q2b8,F,q2b9⟩
def q2bb (_d:Nat) (x:q2b7):Option q2b8:=bif apB 0 (List.length x.1.1) then some x.1.1 else none
theorem q2bc (d:Nat):COK prog (q2ba (q2bb d)):=by
 have hm:prog.follows .mixedOrders=true:=mixed
 have hT:=tys
 have hC:OrcOK prog (orc []):=qe4 (fun S hS=>by cases hS)
 refine q9t (c:=qea f64) (fn:=f64) hT (by kernel_rfl) (by kernel_rfl) (by decide) fun x r h w0 φ0 Q hend=>?_
 replace h:q2bb d x=some r:=h
 unfold q2bb at h
 obtain ⟨hc,h⟩:=qeb h
 injection h with h;subst h
 show Run prog w0 φ0 8 (qea f64) ⟨[(0,.fz Riii x.1.1)],[]⟩ Q
 refine q9d (q21s (s2:=⟨[(0,.fz Riii x.1.1)],[]⟩) hm hT hC (by kernel_rfl:treg tysT (orc []) 8 (regO (qea f64) 0) false [(0,.any)] ⟨[(0,.fz Riii x.1.1)],[]⟩ some=some ⟨[(0,.fz Riii x.1.1)],[]⟩) (q8z ?_))
 refine q9d (q9d (q21y (ops:=regO (qea f64) 1) (src:=0) (t1:=3) (t2:=4) (e:=67) rfl rfl rfl rfl rfl rfl rfl rfl rfl (by kernel_rfl) fun b hb=>q8z ?_))
 cases b with
 | true =>
  obtain ⟨l,u⟩:=x
  obtain ⟨l,u2⟩:=l
  have hl:l=[]:=hb rfl
  subst hl
  refine q9h (v:=true) (A:=some ()) (B:=none) (r:=()) (by kernel_rfl) rfl (fun _=>?_) (fun h=>by cases h)
  refine q9d (q21s (s2:=⟨[(2,.rs 0)],[.rows Riii ([]:List Diii)]⟩) hm hT hC (by kernel_rfl:treg tysT (orc []) 8 (regO (qea f64) 2) false [(2,.own Riii)] ⟨[(0,.fz Riii ([]:List Diii)),(4,.bool true)],[]⟩ some=some ⟨[(2,.rs 0)],[.rows Riii ([]:List Diii)]⟩) (q8z (q9c (q91 ?_))))
  exact (hend _ (by kernel_rfl)).2
 | false =>
  refine q9h (v:=false) (A:=none) (B:=some ()) (r:=()) (by kernel_rfl) rfl (fun h=>by cases h) (fun _=>?_)
  refine q99 (q8z ?_)
  have hg:treg tysT (orc []) 8 (regO (qea f64) 3) false [(2,.own Riii)] ⟨[(0,.fz Riii x.1.1),(4,.bool false)],[]⟩ some=some ⟨[(2,.rs 0)],[.rows Riii x.1.1]⟩:=by
   exact (show treg tysT (orc []) 8 (regO (qea f64) 3) false [(2,.own Riii)] ⟨[(0,.fz Riii x.1.1),(4,.bool false)],[]⟩ some=(bif apB 0 (List.length x.1.1) then some ⟨[(2,.rs 0)],[.rows Riii x.1.1]⟩ else none) by kernel_rfl).trans (q21x hc)
  refine q9d (q21s hm hT hC hg (q8z (q9c ?_)))
  exact (hend _ (by kernel_rfl)).2
abbrev q2bd:List Pk:=[.nil,.row Ri false]
abbrev q2be:Type:=Unit×Di×Unit
abbrev q2bf:Type:=List Diii
def q2bg (r:q2bf):LV×List Ob:=(.rs 0,[.rows Riii r])
def q2bh (F:q2be→Option q2bf):Go.Tx.Spec:=⟨84,q2bd,q2bf,F,q2bg⟩
abbrev q2bi:Type:=Unit
def q2bj (_d:Nat):q2bi:=()
def q2bk (C:q2bi):List Go.Tx.Spec:=[]
abbrev q2bl:Type:=Int
def q2bm (v:q2bl):St:=⟨[(0,.nils),(1,i6 v)],[]⟩
def q2bn (C:q2bi) (v:q2bl):Dt q2bl:=(Dt.ret v)
theorem q2bo (C:q2bi) (v:q2bl):treg (litT 27 tysT) (orc (q2bk C)) 27 (regO (qea f84) 0) false [(0,.any),(1,.any)] (q2bm v) some=(q2bn C v).eval fun y=>some (q2bm y):=by kernel_rfl
abbrev q2bp:Type:=Int×Bool
def q2bq (v:q2bp):St:=⟨[(0,.nils),(1,i6 v.1),(6,.bool v.2)],[]⟩
def q2br (C:q2bi) (v:q2bl):Dt q2bp:=(Dt.ret (v,(decide (v<(0:Int)))))
theorem q2bs (C:q2bi) (v:q2bl):treg (litT 27 tysT) (orc (q2bk C)) 27 (regO (qea f84) 1) false [(0,.any),(1,.any),(6,.any)] (q2bm v) some=(q2br C v).eval fun y=>some (q2bq y):=by kernel_rfl
def q2bt (C:q2bi) (v:q2bp):Dt q2bl:=(Dt.ret (IntKind.wrap .i64 (v.1 - (IntKind.wrap .i64 ((0:Int) - (0:Int))))))
theorem q2bu (C:q2bi) (v:q2bp):treg (litT 27 tysT) (orc (q2bk C)) 27 (regO (qea f84) 3) false [(0,.any),(1,.any)] (q2bq v) some=(q2bt C v).eval fun y=>some (q2bm y):=by kernel_rfl
abbrev q2bv:Type:=Int×Bool
def q2bw (v:q2bv):St:=⟨[(0,.nils),(1,i6 v.1),(16,.bool v.2)],[]⟩
def q2bx (C:q2bi) (v:q2bl):Dt q2bv:=(Dt.ret (v,(decide (v > (0:Int)))))
theorem q2by (C:q2bi) (v:q2bl):treg (litT 27 tysT) (orc (q2bk C)) 27 (regO (qea f84) 4) false [(0,.any),(1,.any),(16,.any)] (q2bm v) some=(q2bx C v).eval fun y=>some (q2bw y):=by kernel_rfl
abbrev q2bz:Type:=List Diii
def q2c0 (v:q2bz):St:=⟨[(0,.rs 0)],[.rows Riii v]⟩
def q2c1 (C:q2bi) (v:q2bv):Dt q2bz:=(Dt.ite (decide (0<v.1)&&decide (v.1≤100000)) (Dt.ite (decide (0≤(0:Int))&&decide ((0:Int)≤(List.length (List.replicate (v.1).toNat ziii):Int))) (Dt.ret (List.take ((0:Int)).toNat (List.replicate (v.1).toNat ziii))) Dt.fail) Dt.fail)
theorem q2c2 (C:q2bi) (v:q2bv):treg (litT 27 tysT) (orc (q2bk C)) 27 (regO (qea f84) 5) false [(0,(.own Riii))] (q2bw v) some=(q2c1 C v).eval fun y=>some (q2c0 y):=by kernel_rfl
abbrev q2c3:Type:=List Diii
def q2c4 (v:q2c3):St:=⟨[(4,.rs 0)],[.rows Riii v]⟩
def q2c5 (C:q2bi) (v:q2bz):Dt q2c3:=(Dt.ret v)
theorem q2c6 (C:q2bi) (v:q2bz):treg (litT 27 tysT) (orc (q2bk C)) 27 (regO (qea f84) 6) false [(4,(.own Riii))] (q2c0 v) some=(q2c5 C v).eval fun y=>some (q2c4 y):=by kernel_rfl
def q2c7  (d:Nat)  (z:List Diii):Option (q2bf) :=
 (q2c5 (q2bj d) z).eval fun y6 =>
 some y6
def q2c8  (d:Nat)  (z:Int×Bool):Option (q2bf) :=
 (q2bt (q2bj d) z).eval fun y3 =>
 (q2bx (q2bj d) y3).eval fun y4 =>
 bif y4.2 then ((q2c1 (q2bj d) y4).eval fun y5 =>
 q2c7 d  y5) else (q2c7 d  ([]:List Diii))
def q2c9 (d:Nat) (x:q2be):Option q2bf :=
 (q2bn (q2bj d) x.2.1.1).eval fun y0 =>
 (q2br (q2bj d) y0).eval fun y1 =>
 bif y1.2 then (none) else (q2c8 d  y1)
theorem q2ca (d:Nat):COK prog (q2bh (q2c9 d)):=by
 have hm:prog.follows .mixedOrders=true:=mixed
 have hT:=q1y tys 27
 have hC0:OrcOK prog (orc (q2bk (q2bj d))):=qe4 (by
  intro S hS
  simp only [q2bk,List.mem_cons,List.not_mem_nil,or_false] at hS
  all_goals first | cases hS | exact hS.elim)
 have hC:OrcOK prog (orc (q2bk (q2bj d))):=hC0
 refine q9t (c:=qea f84) (fn:=f84) hT (by kernel_rfl) (by kernel_rfl) (by decide) fun x r h w0 φ0 Q hend=>?_
 replace h:q2c9 d x=some r:=h
 unfold q2c9 at h
 show Run prog w0 φ0 27 (qea f84) ⟨[(0,.nils),(1,.int .i64 x.2.1.1)],[]⟩ Q
 refine q344 hm hT hC (q2bo (q2bj d) x.2.1.1) h fun y0 h=>?_
 refine q9g (r:=r) (F:=q2c8 d ) (S:=(fun z=>⟨[(0,.nils),(1,i6 z.1),(6,.bool z.2)],[]⟩:Int×Bool→St)) ?_ ?_
 ·
  intro z h
  unfold q2c8 at h
  refine q9g (r:=r) (F:=q2c7 d ) (S:=(fun z=>⟨[(0,.rs 0)],[.rows Riii z]⟩:List Diii→St)) ?_ ?_
  ·
   intro z h
   unfold q2c7 at h
   refine q344 hm hT hC (q2c6 (q2bj d) z) h fun y6 h=>?_
   refine q9c ?_
   cases h
   exact (hend _ (by kernel_rfl)).2
  intro hj2
  refine q344 hm hT hC (q2bu (q2bj d) z) h fun y3 h=>?_
  refine q344 hm hT hC (q2by (q2bj d) y3) h fun y4 h=>?_
  refine q9h (v:=y4.2) (by kernel_rfl) h ?_ ?_
  ·
   intro h
   refine q9i hm hT hC (q2c2 (q2bj d) y4) h ?_
   intro y5 h
   exact hj2 _ h
  ·
   intro h
   refine q99 ?_
   refine qec (s:=⟨[(0,.rs 0),(1,.int .i64 y4.1),(16,.bool y4.2)],[.rows Riii ([]:List Diii)]⟩) [(0,.own Riii),(1,.any),(16,.any)] (by kernel_rfl) ?_
   refine qe9 (s:=⟨[(0,.rs 0)],[.rows Riii ([]:List Diii)]⟩) [1,16] (by kernel_rfl) ?_
   exact hj2 _ h
 intro hj1
 refine q344 hm hT hC (q2bs (q2bj d) y0) h fun y1 h=>?_
 refine q9h (v:=y1.2) (by kernel_rfl) h ?_ ?_
 ·
  intro h
  cases h
 ·
  intro h
  refine q99 ?_
  exact hj1 _ h
abbrev q2cb:List Pk:=[.row ql4 false]
abbrev q2cc:Type:=ql5×Unit
abbrev q2cd:Type:=List Diii
def q2ce (r:q2cd):LV×List Ob:=(.rs 0,[.rows Riii r])
def q2cf (F:q2cc→Option q2cd):Go.Tx.Spec:=⟨66,q2cb,q2cd,F,q2ce⟩
abbrev q2cg:Type:=(q2be→Option q2bf)×Unit
def q2ch (d:Nat):q2cg:=(q2c9 d,())
def q2ci (C:q2cg):List Go.Tx.Spec:=[q2bh C.1]
abbrev q2cj:Type:=List qkt
def q2ck (v:q2cj):St:=⟨[(0,.fz qks v)],[]⟩
def q2cl (C:q2cg) (v:q2cj):Dt q2cj:=(Dt.ret v)
abbrev q35e {V Y:Type}:=@rg q2cg V Y tysT (fun C=>(orc (q2ci C))) 36
theorem q2cm C v:q35e (regO (qea f66) 0) false [(0,(.val qks))] q2ck q2cl q2ck C v:=rgI (by kernel_rfl)
abbrev q2cn:Type:=List qkt×Int
def q2co (v:q2cn):St:=⟨[(0,.fz qks v.1),(3,i6 v.2)],[]⟩
def q2cp (C:q2cg) (v:q2cj):Dt q2cn:=(Dt.ret (v,(0:Int)))
theorem q2cq C v:q35e (regO (qea f66) 1) false [(0,(.val qks)),(3,.any)] q2ck q2cp q2co C v:=rgI (by kernel_rfl)
abbrev q2cr:Type:=List qkt×Int×List qkt×Int×Int
def q2cs (v:q2cr):St:=⟨[(0,.fz qks v.1),(3,i6 v.2.1),(9,.fz qks v.2.2.1),(10,i6 v.2.2.2.1),(11,i6 v.2.2.2.2)],[]⟩
def q2ct (C:q2cg) (v:q2cn):Dt q2cr:=(Dt.ret (v.1,v.2,v.1,(List.length v.1:Int),(0:Int)))
theorem q2cu C v:q35e (regO (qea f66) 2) false [(0,(.val qks)),(3,.any),(9,(.val qks)),(10,.any),(11,.any)] q2co q2ct q2cs C v:=rgI (by kernel_rfl)
abbrev q2cv:Type:=List qkt×Int×List qkt×Int×Int×Bool
def q2cw (v:q2cv):St:=⟨[(0,.fz qks v.1),(3,i6 v.2.1),(9,.fz qks v.2.2.1),(10,i6 v.2.2.2.1),(11,i6 v.2.2.2.2.1),(12,.bool v.2.2.2.2.2)],[]⟩
def q2cx (C:q2cg) (v:q2cr):Dt q2cv:=(Dt.ret (v.1,v.2.1,v.2.2.1,v.2.2.2.1,v.2.2.2.2,(decide (v.2.2.2.2<v.2.2.2.1))))
theorem q2cy C v:q35e (regO (qea f66) 3) false [(0,(.val qks)),(3,.any),(9,(.val qks)),(10,.any),(11,.any),(12,.any)] q2cs q2cx q2cw C v:=rgI (by kernel_rfl)
abbrev q2cz:Type:=List qkt×Int×List Diii×List qkt×Int×Int
def q2d0 (v:q2cz):St:=⟨[(0,.fz qks v.1),(3,i6 v.2.1),(5,.fz Riii v.2.2.1),(9,.fz qks v.2.2.2.1),(10,i6 v.2.2.2.2.1),(11,i6 v.2.2.2.2.2)],[]⟩
def q2d1 (C:q2cg) (v:q2cv):Dt q2cz:=(Dt.ite (inB v.2.2.2.2.1 (List.length v.2.2.1)) (Dt.ret (v.1,v.2.1,(elt qku v.2.2.1 (v.2.2.2.2.1).toNat).1,v.2.2.1,v.2.2.2.1,v.2.2.2.2.1)) Dt.fail)
theorem q2d2 C v:q35e (regO (qea f66) 4) false [(0,(.val qks)),(3,.any),(5,(.val Riii)),(9,(.val qks)),(10,.any),(11,.any)] q2cw q2d1 q2d0 C v:=rgI (by kernel_rfl)
def q2d3 (C:q2cg) (v:q2cz):Dt q2cr:=(Dt.ret (v.1,(IntKind.wrap .i64 (v.2.1+(List.length v.2.2.1:Int))),v.2.2.2.1,v.2.2.2.2.1,v.2.2.2.2.2))
theorem q2d4 C v:q35e (regO (qea f66) 5) false [(0,(.val qks)),(3,.any),(9,(.val qks)),(10,.any),(11,.any)] q2d0 q2d3 q2cs C v:=rgI (by kernel_rfl)
abbrev q2d5:Type:=List qkt×Int×List qkt×Int×Int×Bool
def q2d6 (v:q2d5):St:=⟨[(0,.fz qks v.1),(3,i6 v.2.1),(9,.fz qks v.2.2.1),(10,i6 v.2.2.2.1),(11,i6 v.2.2.2.2.1),(20,.bool v.2.2.2.2.2)],[]⟩
def q2d7 (C:q2cg) (v:q2cr):Dt q2d5:=(Dt.ret (v.1,v.2.1,v.2.2.1,v.2.2.2.1,v.2.2.2.2,(decide (v.2.1<(0:Int)))))
theorem q2d8 C v:q35e (regO (qea f66) 6) false [(0,(.val qks)),(3,.any),(9,(.val qks)),(10,.any),(11,.any),(20,.any)] q2cs q2d7 q2d6 C v:=rgI (by kernel_rfl)
def q2d9 (C:q2cg) (v:q2d5):Dt q2cr:=(Dt.ret (v.1,v.2.1,v.2.2.1,v.2.2.2.1,(IntKind.wrap .i64 (v.2.2.2.2.1+(1:Int)))))
theorem q2da C v:q35e (regO (qea f66) 8) false [(0,(.val qks)),(3,.any),(9,(.val qks)),(10,.any),(11,.any)] q2d6 q2d9 q2cs C v:=rgI (by kernel_rfl)
def q2db  (d:Nat) (self1:(List qkt×Int×List qkt×Int×Int)→Option q2cd) (z:List qkt×Int×List qkt×Int×Int×Bool):Option (q2cd) :=
 (q2d9 (q2ch d) z).eval fun y8 =>
 self1 y8
abbrev q2dc:Type:=List qkt×List Diii
def q2dd (v:q2dc):St:=⟨[(0,.fz qks v.1),(6,.rs 0)],[.rows Riii v.2]⟩
def q2de (C:q2cg) (v:q2cv):Dt q2dc:=(Dt.bnd (C.1 ((),(v.2.1,()),())) fun r1=>(Dt.ret (v.1,r1)))
theorem q2df C v:q35e (regO (qea f66) 9) false [(0,(.val qks)),(6,(.own Riii))] q2cw q2de q2dd C v:=rgI (by kernel_rfl)
abbrev q2dg:Type:=List qkt×Int×Int×List Diii
def q2dh (v:q2dg):St:=⟨[(6,.rs 0),(25,.fz qks v.1),(26,i6 v.2.1),(27,i6 v.2.2.1)],[.rows Riii v.2.2.2]⟩
def q2di (C:q2cg) (v:q2dc):Dt q2dg:=(Dt.ret (v.1,(List.length v.1:Int),(0:Int),v.2))
theorem q2dj C v:q35e (regO (qea f66) 10) false [(6,(.own Riii)),(25,(.val qks)),(26,.any),(27,.any)] q2dd q2di q2dh C v:=rgI (by kernel_rfl)
abbrev q2dk:Type:=List qkt×Int×Int×Bool×List Diii
def q2dl (v:q2dk):St:=⟨[(6,.rs 0),(25,.fz qks v.1),(26,i6 v.2.1),(27,i6 v.2.2.1),(28,.bool v.2.2.2.1)],[.rows Riii v.2.2.2.2]⟩
def q2dm (C:q2cg) (v:q2dg):Dt q2dk:=(Dt.ret (v.1,v.2.1,v.2.2.1,(decide (v.2.2.1<v.2.1)),v.2.2.2))
theorem q2dn C v:q35e (regO (qea f66) 11) false [(6,(.own Riii)),(25,(.val qks)),(26,.any),(27,.any),(28,.any)] q2dh q2dm q2dl C v:=rgI (by kernel_rfl)
abbrev q2do:Type:=List Diii×List qkt×Int×Int×List Diii
def q2dp (v:q2do):St:=⟨[(6,.rs 0),(8,.fz Riii v.1),(25,.fz qks v.2.1),(26,i6 v.2.2.1),(27,i6 v.2.2.2.1)],[.rows Riii v.2.2.2.2]⟩
def q2dq (C:q2cg) (v:q2dk):Dt q2do:=(Dt.ite (inB v.2.2.1 (List.length v.1)) (Dt.ret ((elt qku v.1 (v.2.2.1).toNat).1,v.1,v.2.1,v.2.2.1,v.2.2.2.2)) Dt.fail)
theorem q2dr C v:q35e (regO (qea f66) 12) false [(6,(.own Riii)),(8,(.val Riii)),(25,(.val qks)),(26,.any),(27,.any)] q2dl q2dq q2dp C v:=rgI (by kernel_rfl)
def q2ds (C:q2cg) (v:q2do):Dt q2dg:=(Dt.ite (apB (List.length v.2.2.2.2) (List.length v.1)) (Dt.ret (v.2.1,v.2.2.1,v.2.2.2.1,(v.2.2.2.2++v.1))) Dt.fail)
theorem q2dt C v:q35e (regO (qea f66) 13) false [(6,(.own Riii)),(25,(.val qks)),(26,.any),(27,.any)] q2dp q2ds q2dh C v:=rgI (by kernel_rfl)
def q2du (C:q2cg) (v:q2dg):Dt q2dg:=(Dt.ret (v.1,v.2.1,(IntKind.wrap .i64 (v.2.2.1+(1:Int))),v.2.2.2))
theorem q2dv C v:q35e (regO (qea f66) 14) false [(6,(.own Riii)),(25,(.val qks)),(26,.any),(27,.any)] q2dh q2du q2dh C v:=rgI (by kernel_rfl)
abbrev q2dw:Type:=List Diii
def q2dx (v:q2dw):St:=⟨[(2,.rs 0)],[.rows Riii v]⟩
def q2dy (C:q2cg) (v:q2dk):Dt q2dw:=(Dt.ret v.2.2.2.2)
theorem q2dz C v:q35e (regO (qea f66) 15) false [(2,(.own Riii))] q2dl q2dy q2dx C v:=rgI (by kernel_rfl)
def q2e0 (d:Nat) (self3:(List qkt×Int×Int×List Diii)→Option q2cd) (x3:List qkt×Int×Int×List Diii):Option q2cd :=
 (q2dm (q2ch d) x3).eval fun y11 =>
 bif y11.2.2.2.1 then ((q2dq (q2ch d) y11).eval fun y12 =>
 (q2ds (q2ch d) y12).eval fun y13 =>
 (q2du (q2ch d) y13).eval fun y14 =>
 self3 y14) else ((q2dy (q2ch d) y11).eval fun y15 =>
 some y15)
def q2e1 (d:Nat) (self1:(List qkt×Int×List qkt×Int×Int)→Option q2cd) (x1:List qkt×Int×List qkt×Int×Int):Option q2cd :=
 (q2cx (q2ch d) x1).eval fun y3 =>
 bif y3.2.2.2.2.2 then ((q2d1 (q2ch d) y3).eval fun y4 =>
 (q2d3 (q2ch d) y4).eval fun y5 =>
 (q2d7 (q2ch d) y5).eval fun y6 =>
 bif y6.2.2.2.2.2 then (none) else (q2db d self1 y6)) else ((q2de (q2ch d) y3).eval fun y9 =>
 (q2di (q2ch d) y9).eval fun y10 =>
 iter (q2e0 d ) d y10)
def q2e2 (d:Nat) (x:q2cc):Option q2cd :=
 (q2cl (q2ch d) x.1.1).eval fun y0 =>
 (q2cp (q2ch d) y0).eval fun y1 =>
 (q2ct (q2ch d) y1).eval fun y2 =>
 iter (q2e1 d ) d y2
theorem q2e3 (d:Nat):COK prog (q2cf (q2e2 d)):=by
 have hm:prog.follows .mixedOrders=true:=mixed
 have hT:=tys
 have hC0:OrcOK prog (orc (q2ci (q2ch d))):=qe4 (by
  intro S hS
  simp only [q2ci,List.mem_cons,List.not_mem_nil,or_false] at hS
  subst hS;exact q2ca d)
 have hC:OrcOK prog (orc (q2ci (q2ch d))):=hC0
 refine q9t (c:=qea f66) (fn:=f66) hT (by kernel_rfl) (by kernel_rfl) (by decide) fun x r h w0 φ0 Q hend=>?_
 replace h:q2e2 d x=some r:=h
 unfold q2e2 at h
 show Run prog w0 φ0 36 (qea f66) ⟨[(0,.fz qks x.1.1)],[]⟩ Q
 refine q344 hm hT hC (q2cm (q2ch d) x.1.1) h fun y0 h=>?_
 refine q344 hm hT hC (q2cq (q2ch d) y0) h fun y1 h=>?_
 refine q9d ?_
 refine q344 hm hT hC (q2cu (q2ch d) y1) h fun y2 h=>?_
 refine q9e ?_
 refine q9j (G:=iter (q2e1 d )) (S:=(fun x1=>⟨[(0,.fz qks x1.1),(3,i6 x1.2.1),(9,.fz qks x1.2.2.1),(10,i6 x1.2.2.2.1),(11,i6 x1.2.2.2.2)],[]⟩:List qkt×Int×List qkt×Int×Int→St)) (fun _=>rfl) ?_ d _ h
 intro n1 x1 h K1 hn1
 replace h:q2e1 d  (iter (q2e1 d ) n1) x1=some r:=h
 generalize iter (q2e1 d ) n1=self1 at h hn1
 unfold q2e1 at h
 refine q344 hm hT hC (q2cy (q2ch d) x1) h fun y3 h=>?_
 refine q9d ?_
 refine q9h (v:=y3.2.2.2.2.2) (by kernel_rfl) h ?_ ?_
 ·
  intro h
  refine q99 (q8z ?_)
  refine q9g (r:=r) (F:=q2db d self1) (S:=(fun z=>⟨[(0,.fz qks z.1),(3,i6 z.2.1),(9,.fz qks z.2.2.1),(10,i6 z.2.2.2.1),(11,i6 z.2.2.2.2.1),(20,.bool z.2.2.2.2.2)],[]⟩:List qkt×Int×List qkt×Int×Int×Bool→St)) ?_ ?_
  ·
   intro z h
   unfold q2db at h
   refine q9i hm hT hC (q2da (q2ch d) z) h ?_
   intro y8 h
   exact hn1 _ h
  intro hj2
  refine q9e ?_
  refine q344 hm hT hC (q2d2 (q2ch d) y3) h fun y4 h=>?_
  refine q344 hm hT hC (q2d4 (q2ch d) y4) h fun y5 h=>?_
  refine q344 hm hT hC (q2d8 (q2ch d) y5) h fun y6 h=>?_
  refine q9h (v:=y6.2.2.2.2.2) (by kernel_rfl) h ?_ ?_
  ·
   intro h
   cases h
  ·
   intro h
   refine q99 (q92 ?_)
   exact hj2 _ h
 ·
  intro h
  refine q9b (q90 (q90 (q94 (q8z ?_))))
  refine q344 hm hT hC (q2df (q2ch d) y3) h fun y9 h=>?_
  refine q9d ?_
  refine q344 hm hT hC (q2dj (q2ch d) y9) h fun y10 h=>?_
  refine q9e ?_
  refine q9j (G:=iter (q2e0 d )) (S:=(fun x3=>⟨[(6,.rs 0),(25,.fz qks x3.1),(26,i6 x3.2.1),(27,i6 x3.2.2.1)],[.rows Riii x3.2.2.2]⟩:List qkt×Int×Int×List Diii→St)) (fun _=>rfl) ?_ d _ h
  intro n3 x3 h K3 hn3
  replace h:q2e0 d  (iter (q2e0 d ) n3) x3=some r:=h
  generalize iter (q2e0 d ) n3=self3 at h hn3
  unfold q2e0 at h
  refine q344 hm hT hC (q2dn (q2ch d) x3) h fun y11 h=>?_
  refine q9d ?_
  refine q9h (v:=y11.2.2.2.1) (by kernel_rfl) h ?_ ?_
  ·
   intro h
   refine q99 (q8z (q9d (q9e ?_)))
   refine q344 hm hT hC (q2dr (q2ch d) y11) h fun y12 h=>?_
   refine q9i hm hT hC (q2dt (q2ch d) y12) h ?_
   intro y13 h
   refine q92 (q8z ?_)
   refine q9i hm hT hC (q2dv (q2ch d) y13) h ?_
   intro y14 h
   exact hn3 _ h
  ·
   intro h
   refine q9b (q90 (q90 (q94 (q8z ?_))))
   refine q344 hm hT hC (q2dz (q2ch d) y11) h fun y15 h=>?_
   refine q9c ?_
   cases h
   exact (hend _ (by kernel_rfl)).2
end Go.Proofs.Ytoakhncbmpdacaa

namespace Go.Proofs.Ytoakhncbmpdacaa
open Go Go.Tx Go.Proofs.Try
set_option maxRecDepth 100000
set_option maxHeartbeats 0
abbrev q2e4:List Pk:=[.row Riii true,.row Ri false]
abbrev q2e5:Type:=Diii×Di×Unit
abbrev q2e6:Type:=Int
def q2e7 (r:q2e6):LV×List Ob:=(.int .i64 r,[])
def q2e8 (F:q2e5→Option q2e6):Go.Tx.Spec:=⟨62,q2e4,q2e6,F,q2e7⟩
abbrev q2e9:Type:=(q27k→Option q27l)×Unit
def q2ea (d:Nat):q2e9:=(q291 d,())
def q2eb (C:q2e9):List Go.Tx.Spec:=[q27n C.1]
abbrev q2ec:Type:=Int×Int×Int×Int
def q2ed (v:q2ec):St:=⟨[(0,.agg [i6 v.1,i6 v.2.1,i6 v.2.2.1]),(1,i6 v.2.2.2)],[]⟩
abbrev q2ee:Type:=Int×Int×Int×Int
def q2ef (v:q2ee):St:=⟨[(1,i6 v.1),(2,.ptr 0 0)],[.cells [i6 v.2.1,i6 v.2.2.1,i6 v.2.2.2]]⟩
def q2eg (C:q2e9) (v:q2ec):Dt q2ee:=(Dt.ret (v.2.2.2,v.1,v.2.1,v.2.2.1))
abbrev q35f {V Y:Type}:=@rg q2e9 V Y tysT (fun C=>(orc (q2eb C))) 9
theorem q2eh C v:q35f (regO (qea f62) 0) false (an [1,2]) q2ed q2eg q2ef C v:=rgI (by kernel_rfl)
abbrev q2ei:Type:=Int
def q2ej (v:q2ei):St:=⟨[(4,i6 v)],[]⟩
def q2ek (C:q2e9) (v:q2ee):Dt q2ei:=(Dt.bnd (C.1 ((v.2.1,()),(v.1,()),())) fun r1=>(Dt.ret r1))
theorem q2el C v:q35f (regO (qea f62) 1) false [(4,.any)] q2ef q2ek q2ej C v:=rgI (by kernel_rfl)
def q2em (d:Nat) (x:q2e5):Option q2e6 :=
 (q2eg (q2ea d) (x.1.1,x.1.2.1,x.1.2.2.1,x.2.1.1)).eval fun y0 =>
 (q2ek (q2ea d) y0).eval fun y1 =>
 some y1
theorem q2en (d:Nat):COK prog (q2e8 (q2em d)):=by
 have hm:prog.follows .mixedOrders=true:=mixed
 have hT:=tys
 have hC0:OrcOK prog (orc (q2eb (q2ea d))):=qe4 (by
  intro S hS
  simp only [q2eb,List.mem_cons,List.not_mem_nil,or_false] at hS
  subst hS;exact q292 d)
 have hC:OrcOK prog (orc (q2eb (q2ea d))):=hC0
 refine q9t (c:=qea f62) (fn:=f62) hT (by kernel_rfl) (by kernel_rfl) (by decide) fun x r h w0 φ0 Q hend=>?_
 replace h:q2em d x=some r:=h
 unfold q2em at h
 show Run prog w0 φ0 9 (qea f62) ⟨[(0,.agg [.int .i64 x.1.1,.int .i64 x.1.2.1,.int .i64 x.1.2.2.1]),(1,.int .i64 x.2.1.1)],[]⟩ Q
 refine q344 hm hT hC (q2eh (q2ea d) (x.1.1,x.1.2.1,x.1.2.2.1,x.2.1.1)) h fun y0 h=>?_
 refine q344 hm hT hC (q2el (q2ea d) y0) h fun y1 h=>?_
 refine q9c ?_
 cases h
 exact (hend _ (by kernel_rfl)).2
abbrev q2eo:List Pk:=[.row qks false,.row Ri false,.fn 62 []]
abbrev q2ep:Type:=qkt×Di×(Unit)×Unit
abbrev q2eq:Type:=Int×Bool
def q2er (r:q2eq):LV×List Ob:=(.tup [.int .i64 r.1,.bool r.2],[])
def q2es (F:q2ep→Option q2eq):Go.Tx.Spec:=⟨61,q2eo,q2eq,F,q2er⟩
abbrev q2et:Type:=(q2e5→Option q2e6)×Unit
def q2eu (d:Nat):q2et:=(q2em d,())
def q2ev (C:q2et):List Go.Tx.Spec:=[q2e8 C.1]
abbrev q2ew:Type:=List Diii×Int
def q2ex (v:q2ew):St:=⟨[(0,.fz Riii v.1),(1,i6 v.2),(2,.fn 62 [])],[]⟩
def q2ey (C:q2et) (v:q2ew):Dt q2ew:=(Dt.ret (v.1,v.2))
abbrev q35g {V Y:Type}:=@rg q2et V Y tysT (fun C=>(orc (q2ev C))) 49
theorem q2ez C v:q35g (regO (qea f61) 0) false [(0,(.val Riii)),(1,.any),(2,.any)] q2ex q2ey q2ex C v:=rgI (by kernel_rfl)
abbrev q2f0:Type:=List Diii×Int×Int
def q2f1 (v:q2f0):St:=⟨[(0,.fz Riii v.1),(1,i6 v.2.1),(2,.fn 62 []),(8,i6 v.2.2)],[]⟩
def q2f2 (C:q2et) (v:q2ew):Dt q2f0:=(Dt.ret (v.1,v.2,(List.length v.1:Int)))
theorem q2f3 C v:q35g (regO (qea f61) 1) false [(0,(.val Riii)),(1,.any),(2,.any),(8,.any)] q2ex q2f2 q2f1 C v:=rgI (by kernel_rfl)
abbrev q2f4:Type:=List Diii×Int×Int×Int×Int
def q2f5 (v:q2f4):St:=⟨[(0,.fz Riii v.1),(1,i6 v.2.1),(2,.fn 62 []),(8,i6 v.2.2.1),(9,i6 v.2.2.2.1),(10,i6 v.2.2.2.2)],[]⟩
def q2f6 (C:q2et) (v:q2f0):Dt q2f4:=(Dt.ret (v.1,v.2.1,v.2.2,(0:Int),v.2.2))
theorem q2f7 C v:q35g (regO (qea f61) 2) false [(0,(.val Riii)),(1,.any),(2,.any),(8,.any),(9,.any),(10,.any)] q2f1 q2f6 q2f5 C v:=rgI (by kernel_rfl)
abbrev q2f8:Type:=List Diii×Int×Int×Int×Int×Bool
def q2f9 (v:q2f8):St:=⟨[(0,.fz Riii v.1),(1,i6 v.2.1),(2,.fn 62 []),(8,i6 v.2.2.1),(9,i6 v.2.2.2.1),(10,i6 v.2.2.2.2.1),(17,.bool v.2.2.2.2.2)],[]⟩
def q2fa (C:q2et) (v:q2f4):Dt q2f8:=(Dt.ret (v.1,v.2.1,v.2.2.1,v.2.2.2.1,v.2.2.2.2,(decide (v.2.2.2.1<v.2.2.2.2))))
theorem q2fb C v:q35g (regO (qea f61) 3) false [(0,(.val Riii)),(1,.any),(2,.any),(8,.any),(9,.any),(10,.any),(17,.any)] q2f5 q2fa q2f9 C v:=rgI (by kernel_rfl)
abbrev q2fc:Type:=List Diii×Int×Int×Int×Int×Int
def q2fd (v:q2fc):St:=⟨[(0,.fz Riii v.1),(1,i6 v.2.1),(2,.fn 62 []),(8,i6 v.2.2.1),(9,i6 v.2.2.2.1),(10,i6 v.2.2.2.2.1),(11,i6 v.2.2.2.2.2)],[]⟩
def q2fe (C:q2et) (v:q2f8):Dt q2fc:=(Dt.ret (v.1,v.2.1,v.2.2.1,v.2.2.2.1,v.2.2.2.2.1,(IntKind.wrap .i64 (shrI .u64 (IntKind.wrap .u64 (IntKind.wrap .i64 (v.2.2.2.1+v.2.2.2.2.1))) (1:Int)))))
theorem q2ff C v:q35g (regO (qea f61) 4) false [(0,(.val Riii)),(1,.any),(2,.any),(8,.any),(9,.any),(10,.any),(11,.any)] q2f9 q2fe q2fd C v:=rgI (by kernel_rfl)
abbrev q2fg:Type:=List Diii×Int×Int×Int×Int×Int×Bool
def q2fh (v:q2fg):St:=⟨[(0,.fz Riii v.1),(1,i6 v.2.1),(2,.fn 62 []),(8,i6 v.2.2.1),(9,i6 v.2.2.2.1),(10,i6 v.2.2.2.2.1),(11,i6 v.2.2.2.2.2.1),(31,.bool v.2.2.2.2.2.2)],[]⟩
def q2fi (C:q2et) (v:q2fc):Dt q2fg:=(Dt.ite (inB v.2.2.2.2.2 (List.length v.1)) (Dt.bnd (C.1 (((elt ziii v.1 (v.2.2.2.2.2).toNat).1,(elt ziii v.1 (v.2.2.2.2.2).toNat).2.1,(elt ziii v.1 (v.2.2.2.2.2).toNat).2.2.1,()),(v.2.1,()),())) fun r1=>(Dt.ret (v.1,v.2.1,v.2.2.1,v.2.2.2.1,v.2.2.2.2.1,v.2.2.2.2.2,(decide (r1<(0:Int)))))) Dt.fail)
theorem q2fj C v:q35g (regO (qea f61) 5) false [(0,(.val Riii)),(1,.any),(2,.any),(8,.any),(9,.any),(10,.any),(11,.any),(31,.any)] q2fd q2fi q2fh C v:=rgI (by kernel_rfl)
def q2fk (C:q2et) (v:q2fg):Dt q2f4:=(Dt.ret (v.1,v.2.1,v.2.2.1,(IntKind.wrap .i64 (v.2.2.2.2.2.1+(1:Int))),v.2.2.2.2.1))
theorem q2fl C v:q35g (regO (qea f61) 6) false [(0,(.val Riii)),(1,.any),(2,.any),(8,.any),(9,.any),(10,.any)] q2fh q2fk q2f5 C v:=rgI (by kernel_rfl)
def q2fm (C:q2et) (v:q2fg):Dt q2f4:=(Dt.ret (v.1,v.2.1,v.2.2.1,v.2.2.2.1,v.2.2.2.2.2.1))
theorem q2fn C v:q35g (regO (qea f61) 7) false [(0,(.val Riii)),(1,.any),(2,.any),(8,.any),(9,.any),(10,.any)] q2fh q2fm q2f5 C v:=rgI (by kernel_rfl)
abbrev q2fo:Type:=Int×Bool
def q2fp (v:q2fo):St:=⟨[(6,i6 v.1),(7,.bool v.2)],[]⟩
def q2fq (C:q2et) (v:q2f8):Dt q2fo:=(Dt.ite (decide (v.2.2.2.1<v.2.2.1)) (Dt.ite (inB v.2.2.2.1 (List.length v.1)) (Dt.bnd (C.1 (((elt ziii v.1 (v.2.2.2.1).toNat).1,(elt ziii v.1 (v.2.2.2.1).toNat).2.1,(elt ziii v.1 (v.2.2.2.1).toNat).2.2.1,()),(v.2.1,()),())) fun r1=>(Dt.ret (v.2.2.2.1,(r1 == (0:Int))))) Dt.fail) (Dt.ret (v.2.2.2.1,false)))
theorem q2fr C v:q35g (regO (qea f61) 8) false (an [6,7]) q2f9 q2fq q2fp C v:=rgI (by kernel_rfl)
def q2fs (d:Nat) (self1:(List Diii×Int×Int×Int×Int)→Option q2eq) (x1:List Diii×Int×Int×Int×Int):Option q2eq :=
 (q2fa (q2eu d) x1).eval fun y3 =>
 bif y3.2.2.2.2.2 then ((q2fe (q2eu d) y3).eval fun y4 =>
 (q2fi (q2eu d) y4).eval fun y5 =>
 bif y5.2.2.2.2.2.2 then ((q2fk (q2eu d) y5).eval fun y6 =>
 self1 y6) else ((q2fm (q2eu d) y5).eval fun y7 =>
 self1 y7)) else ((q2fq (q2eu d) y3).eval fun y8 =>
 some y8)
def q2ft (d:Nat) (x:q2ep):Option q2eq :=
 (q2ey (q2eu d) (x.1.1,x.2.1.1)).eval fun y0 =>
 (q2f2 (q2eu d) y0).eval fun y1 =>
 (q2f6 (q2eu d) y1).eval fun y2 =>
 iter (q2fs d ) d y2
theorem q2fu (d:Nat):COK prog (q2es (q2ft d)):=by
 have hm:prog.follows .mixedOrders=true:=mixed
 have hT:=tys
 have hC0:OrcOK prog (orc (q2ev (q2eu d))):=qe4 (by
  intro S hS
  simp only [q2ev,List.mem_cons,List.not_mem_nil,or_false] at hS
  subst hS;exact q2en d)
 have hC:OrcOK prog (orc (q2ev (q2eu d))):=hC0
 refine q9t (c:=qea f61) (fn:=f61) hT (by kernel_rfl) (by kernel_rfl) (by decide) fun x r h w0 φ0 Q hend=>?_
 replace h:q2ft d x=some r:=h
 unfold q2ft at h
 show Run prog w0 φ0 49 (qea f61) ⟨[(0,.fz Riii x.1.1),(1,.int .i64 x.2.1.1),(2,.fn 62 [])],[]⟩ Q
 refine q344 hm hT hC (q2ez (q2eu d) (x.1.1,x.2.1.1)) h fun y0 h=>?_
 refine q344 hm hT hC (q2f3 (q2eu d) y0) h fun y1 h=>?_
 refine q344 hm hT hC (q2f7 (q2eu d) y1) h fun y2 h=>?_
 refine q9d (q9e ?_)
 refine q9j (G:=iter (q2fs d )) (S:=(fun x1=>⟨[(0,.fz Riii x1.1),(1,i6 x1.2.1),(2,.fn 62 []),(8,i6 x1.2.2.1),(9,i6 x1.2.2.2.1),(10,i6 x1.2.2.2.2)],[]⟩:List Diii×Int×Int×Int×Int→St)) (fun _=>rfl) ?_ d _ h
 intro n1 x1 h K1 hn1
 replace h:q2fs d  (iter (q2fs d ) n1) x1=some r:=h
 generalize iter (q2fs d ) n1=self1 at h hn1
 unfold q2fs at h
 refine q9d ?_
 refine q344 hm hT hC (q2fb (q2eu d) x1) h fun y3 h=>?_
 refine q9h (v:=y3.2.2.2.2.2) (by kernel_rfl) h ?_ ?_
 ·
  intro h
  refine q99 (q8z (q9e ?_))
  refine q344 hm hT hC (q2ff (q2eu d) y3) h fun y4 h=>?_
  refine q344 hm hT hC (q2fj (q2eu d) y4) h fun y5 h=>?_
  refine q9h (v:=y5.2.2.2.2.2.2) (by kernel_rfl) h ?_ ?_
  ·
   intro h
   refine q9i hm hT hC (q2fl (q2eu d) y5) h ?_
   intro y6 h
   refine q92 ?_
   exact hn1 _ h
  ·
   intro h
   refine q9i hm hT hC (q2fn (q2eu d) y5) h ?_
   intro y7 h
   refine q92 ?_
   exact hn1 _ h
 ·
  intro h
  refine q9b (q90 (q90 (q94 (q8z ?_))))
  refine q344 hm hT hC (q2fr (q2eu d) y3) h fun y8 h=>?_
  refine q9c ?_
  cases h
  exact (hend _ (by kernel_rfl)).2
abbrev q2fv:List Pk:=[.row qkv true,.row Ri false]
abbrev q2fw:Type:=qkw×Di×Unit
abbrev q2fx:Type:=Int×List Diii×Int×List Diii×Int
def q2fy (r:q2fx):LV×List Ob:=(.tup [.agg [.int .i64 r.1,.rs 0],.agg [.int .i64 r.2.2.1,.rs 1],.int .i64 r.2.2.2.2],[.rows Riii r.2.1,.rows Riii r.2.2.2.1])
def q2fz (F:q2fw→Option q2fx):Go.Tx.Spec:=⟨28,q2fv,q2fx,F,q2fy⟩
abbrev q2g0:Type:=(qwp→Option qwq)×(q2an→Option q2ao)×(q2ep→Option q2eq)×(q2b7→Option q2b8)×Unit
def q2g1 (d:Nat):q2g0:=(qyy d,q2b4 d,q2ft d,q2bb d,())
def q2g2 (C:q2g0):List Go.Tx.Spec:=[qws C.1,q2aq C.2.1,q2es C.2.2.1,q2ba C.2.2.2.1]
abbrev q2g3:Type:=Int×List Diii×Int
def q2g4 (v:q2g3):St:=⟨[(0,.agg [i6 v.1,.fz Riii v.2.1]),(1,i6 v.2.2)],[]⟩
abbrev q2g5:Type:=Int×Int×List Diii×Int×List Diii×Int×List Diii
def q2g6 (v:q2g5):St:=⟨[(1,i6 v.1),(2,.ptr 0 0),(4,.ptr 1 0),(5,.ptr 3 0)],[.cells [i6 v.2.1,.fz Riii v.2.2.1],.cells [i6 v.2.2.2.1,.rs 2],.rows Riii v.2.2.2.2.1,.cells [i6 v.2.2.2.2.2.1,.rs 4],.rows Riii v.2.2.2.2.2.2]⟩
def q2g7 (C:q2g0) (v:q2g3):Dt q2g5:=(Dt.ret (v.2.2,v.1,v.2.1,(0:Int),([]:List Diii),(0:Int),([]:List Diii)))
abbrev q35h {V Y:Type}:=@rg q2g0 V Y tysT (fun C=>(orc (q2g2 C))) 126
theorem q2g8 C v:q35h (regO (qea f28) 0) false [(1,.any),(2,(.box [.any,.val Riii])),(4,(.box [.any,.own Riii])),(5,(.box [.any,.own Riii]))] q2g4 q2g7 q2g6 C v:=rgI (by kernel_rfl)
abbrev q2g9:Type:=Int×Int×Int×List Diii×Int×List Diii×Int×List Diii
def q2ga (v:q2g9):St:=⟨[(1,i6 v.1),(2,.ptr 0 0),(4,.ptr 1 0),(5,.ptr 3 0),(7,i6 v.2.1)],[.cells [i6 v.2.2.1,.fz Riii v.2.2.2.1],.cells [i6 v.2.2.2.2.1,.rs 2],.rows Riii v.2.2.2.2.2.1,.cells [i6 v.2.2.2.2.2.2.1,.rs 4],.rows Riii v.2.2.2.2.2.2.2]⟩
def q2gb (C:q2g0) (v:q2g5):Dt q2g9:=(Dt.bnd (C.1 ((v.2.1,v.2.2.1,()),())) fun r1=>(Dt.ret (v.1,r1,v.2.1,v.2.2.1,v.2.2.2.1,v.2.2.2.2.1,v.2.2.2.2.2.1,v.2.2.2.2.2.2)))
theorem q2gc C v:q35h (regO (qea f28) 1) false [(1,.any),(2,(.box [.any,.val Riii])),(4,(.box [.any,.own Riii])),(5,(.box [.any,.own Riii])),(7,.any)] q2g6 q2gb q2ga C v:=rgI (by kernel_rfl)
abbrev q2gd:Type:=Int×Int×Bool×Int×List Diii×Int×List Diii×Int×List Diii
def q2ge (v:q2gd):St:=⟨[(1,i6 v.1),(2,.ptr 0 0),(4,.ptr 1 0),(5,.ptr 3 0),(7,i6 v.2.1),(20,.bool v.2.2.1)],[.cells [i6 v.2.2.2.1,.fz Riii v.2.2.2.2.1],.cells [i6 v.2.2.2.2.2.1,.rs 2],.rows Riii v.2.2.2.2.2.2.1,.cells [i6 v.2.2.2.2.2.2.2.1,.rs 4],.rows Riii v.2.2.2.2.2.2.2.2]⟩
def q2gf (C:q2g0) (v:q2g9):Dt q2gd:=(Dt.ret (v.1,v.2.1,(v.2.1 != (0:Int)),v.2.2.1,v.2.2.2.1,v.2.2.2.2.1,v.2.2.2.2.2.1,v.2.2.2.2.2.2.1,v.2.2.2.2.2.2.2))
theorem q2gg C v:q35h (regO (qea f28) 2) false [(1,.any),(2,(.box [.any,.val Riii])),(4,(.box [.any,.own Riii])),(5,(.box [.any,.own Riii])),(7,.any),(20,.any)] q2ga q2gf q2ge C v:=rgI (by kernel_rfl)
abbrev q2gh:Type:=Int×Int×List Diii×Int×List Diii
def q2gi (v:q2gh):St:=⟨[(4,.ptr 0 0),(5,.ptr 2 0),(6,i6 v.1)],[.cells [i6 v.2.1,.rs 1],.rows Riii v.2.2.1,.cells [i6 v.2.2.2.1,.rs 3],.rows Riii v.2.2.2.2]⟩
def q2gj (C:q2g0) (v:q2gd):Dt q2gh:=(Dt.ret (v.2.1,(0:Int),([]:List Diii),(0:Int),([]:List Diii)))
theorem q2gk C v:q35h (regO (qea f28) 3) false [(4,(.box [.any,.own Riii])),(5,(.box [.any,.own Riii])),(6,.any)] q2ge q2gj q2gi C v:=rgI (by kernel_rfl)
abbrev q2gl:Type:=Int×Bool×Int×List Diii×Int×List Diii×Int×List Diii
def q2gm (v:q2gl):St:=⟨[(1,i6 v.1),(2,.ptr 0 0),(4,.ptr 1 0),(5,.ptr 3 0),(26,.bool v.2.1)],[.cells [i6 v.2.2.1,.fz Riii v.2.2.2.1],.cells [i6 v.2.2.2.2.1,.rs 2],.rows Riii v.2.2.2.2.2.1,.cells [i6 v.2.2.2.2.2.2.1,.rs 4],.rows Riii v.2.2.2.2.2.2.2]⟩
def q2gn (C:q2g0) (v:q2gd):Dt q2gl:=(Dt.bnd (C.2.1 ((v.2.2.2.1,v.2.2.2.2.1,()),())) fun r1=>(Dt.ret (v.1,(!r1),v.2.2.2.1,v.2.2.2.2.1,v.2.2.2.2.2.1,v.2.2.2.2.2.2.1,v.2.2.2.2.2.2.2.1,v.2.2.2.2.2.2.2.2)))
theorem q2go C v:q35h (regO (qea f28) 4) false [(1,.any),(2,(.box [.any,.val Riii])),(4,(.box [.any,.own Riii])),(5,(.box [.any,.own Riii])),(26,.any)] q2ge q2gn q2gm C v:=rgI (by kernel_rfl)
def q2gp (C:q2g0) (v:q2gl):Dt q2gh:=(Dt.ret ((32:Int),(0:Int),([]:List Diii),(0:Int),([]:List Diii)))
theorem q2gq C v:q35h (regO (qea f28) 5) false [(4,(.box [.any,.own Riii])),(5,(.box [.any,.own Riii])),(6,.any)] q2gm q2gp q2gi C v:=rgI (by kernel_rfl)
abbrev q2gr:Type:=Int×Int×List Diii×Int×List Diii×Int×List Diii
def q2gs (v:q2gr):St:=⟨[(2,.ptr 0 0),(4,.ptr 1 0),(5,.ptr 3 0),(8,i6 v.1)],[.cells [i6 v.2.1,.fz Riii v.2.2.1],.cells [i6 v.2.2.2.1,.rs 2],.rows Riii v.2.2.2.2.1,.cells [i6 v.2.2.2.2.2.1,.rs 4],.rows Riii v.2.2.2.2.2.2]⟩
def q2gt (C:q2g0) (v:q2gl):Dt q2gr:=(Dt.bnd (C.2.2.1 ((v.2.2.2.1,()),(v.1,()),(()),())) fun r1=>(Dt.ret (r1.1,v.2.2.1,v.2.2.2.1,v.2.2.2.2.1,v.2.2.2.2.2.1,v.2.2.2.2.2.2.1,v.2.2.2.2.2.2.2)))
theorem q2gu C v:q35h (regO (qea f28) 6) false [(2,(.box [.any,.val Riii])),(4,(.box [.any,.own Riii])),(5,(.box [.any,.own Riii])),(8,.any)] q2gm q2gt q2gs C v:=rgI (by kernel_rfl)
abbrev q2gv:Type:=Int×Int×List Diii×Int×List Diii×Int×List Diii×Int×List Diii×Int×List Diii
def q2gw (v:q2gv):St:=⟨[(2,.ptr 0 0),(4,.ptr 1 0),(5,.ptr 3 0),(8,i6 v.1),(10,.ptr 5 0),(11,.ptr 7 0)],[.cells [i6 v.2.1,.fz Riii v.2.2.1],.cells [i6 v.2.2.2.1,.rs 2],.rows Riii v.2.2.2.2.1,.cells [i6 v.2.2.2.2.2.1,.rs 4],.rows Riii v.2.2.2.2.2.2.1,.cells [i6 v.2.2.2.2.2.2.2.1,.rs 6],.rows Riii v.2.2.2.2.2.2.2.2.1,.cells [i6 v.2.2.2.2.2.2.2.2.2.1,.rs 8],.rows Riii v.2.2.2.2.2.2.2.2.2.2]⟩
def q2gx (C:q2g0) (v:q2gr):Dt q2gv:=(Dt.ite (decide (0≤v.1)&&decide (v.1≤(List.length v.2.2.1:Int))) (Dt.bnd (C.2.2.2.1 (((List.take (v.1).toNat v.2.2.1),()),())) fun r1=>(Dt.ite (decide (0≤v.1)&&decide (v.1≤(List.length v.2.2.1:Int))) (Dt.bnd (C.2.2.2.1 (((List.drop (v.1).toNat v.2.2.1),()),())) fun r2=>(Dt.ret (v.1,v.2.1,v.2.2.1,v.2.2.2.1,v.2.2.2.2.1,v.2.2.2.2.2.1,v.2.2.2.2.2.2,(-1:Int),r1,(-1:Int),r2))) Dt.fail)) Dt.fail)
theorem q2gy C v:q35h (regO (qea f28) 7) true [(2,(.box [.any,.val Riii])),(4,(.box [.any,.own Riii])),(5,(.box [.any,.own Riii])),(8,.any),(10,(.box [.any,.own Riii])),(11,(.box [.any,.own Riii]))] q2gs q2gx q2gw C v:=rgI (by kernel_rfl)
abbrev q2gz:Type:=Int×Int×Int×Int×List Diii×Int×List Diii×Int×List Diii×Int×List Diii×Int×List Diii
def q2h0 (v:q2gz):St:=⟨[(2,.ptr 0 0),(4,.ptr 1 0),(5,.ptr 3 0),(8,i6 v.1),(10,.ptr 5 0),(11,.ptr 7 0),(50,i6 v.2.1),(51,i6 v.2.2.1)],[.cells [i6 v.2.2.2.1,.fz Riii v.2.2.2.2.1],.cells [i6 v.2.2.2.2.2.1,.rs 2],.rows Riii v.2.2.2.2.2.2.1,.cells [i6 v.2.2.2.2.2.2.2.1,.rs 4],.rows Riii v.2.2.2.2.2.2.2.2.1,.cells [i6 v.2.2.2.2.2.2.2.2.2.1,.rs 6],.rows Riii v.2.2.2.2.2.2.2.2.2.2.1,.cells [i6 v.2.2.2.2.2.2.2.2.2.2.2.1,.rs 8],.rows Riii v.2.2.2.2.2.2.2.2.2.2.2.2]⟩
def q2h1 (C:q2g0) (v:q2gv):Dt q2gz:=(Dt.ret (v.1,(List.length v.2.2.2.2.2.2.2.2.2.2:Int),(0:Int),v.2.1,v.2.2.1,v.2.2.2.1,v.2.2.2.2.1,v.2.2.2.2.2.1,v.2.2.2.2.2.2.1,v.2.2.2.2.2.2.2.1,v.2.2.2.2.2.2.2.2.1,v.2.2.2.2.2.2.2.2.2.1,v.2.2.2.2.2.2.2.2.2.2))
theorem q2h2 C v:q35h (regO (qea f28) 8) false [(2,(.box [.any,.val Riii])),(4,(.box [.any,.own Riii])),(5,(.box [.any,.own Riii])),(8,.any),(10,(.box [.any,.own Riii])),(11,(.box [.any,.own Riii])),(50,.any),(51,.any)] q2gw q2h1 q2h0 C v:=rgI (by kernel_rfl)
abbrev q2h3:Type:=Int×Int×Int×Bool×Int×List Diii×Int×List Diii×Int×List Diii×Int×List Diii×Int×List Diii
def q2h4 (v:q2h3):St:=⟨[(2,.ptr 0 0),(4,.ptr 1 0),(5,.ptr 3 0),(8,i6 v.1),(10,.ptr 5 0),(11,.ptr 7 0),(50,i6 v.2.1),(51,i6 v.2.2.1),(52,.bool v.2.2.2.1)],[.cells [i6 v.2.2.2.2.1,.fz Riii v.2.2.2.2.2.1],.cells [i6 v.2.2.2.2.2.2.1,.rs 2],.rows Riii v.2.2.2.2.2.2.2.1,.cells [i6 v.2.2.2.2.2.2.2.2.1,.rs 4],.rows Riii v.2.2.2.2.2.2.2.2.2.1,.cells [i6 v.2.2.2.2.2.2.2.2.2.2.1,.rs 6],.rows Riii v.2.2.2.2.2.2.2.2.2.2.2.1,.cells [i6 v.2.2.2.2.2.2.2.2.2.2.2.2.1,.rs 8],.rows Riii v.2.2.2.2.2.2.2.2.2.2.2.2.2]⟩
def q2h5 (C:q2g0) (v:q2gz):Dt q2h3:=(Dt.ret (v.1,v.2.1,v.2.2.1,(decide (v.2.2.1<v.2.1)),v.2.2.2.1,v.2.2.2.2.1,v.2.2.2.2.2.1,v.2.2.2.2.2.2.1,v.2.2.2.2.2.2.2.1,v.2.2.2.2.2.2.2.2.1,v.2.2.2.2.2.2.2.2.2.1,v.2.2.2.2.2.2.2.2.2.2.1,v.2.2.2.2.2.2.2.2.2.2.2.1,v.2.2.2.2.2.2.2.2.2.2.2.2))
theorem q2h6 C v:q35h (regO (qea f28) 9) false [(2,(.box [.any,.val Riii])),(4,(.box [.any,.own Riii])),(5,(.box [.any,.own Riii])),(8,.any),(10,(.box [.any,.own Riii])),(11,(.box [.any,.own Riii])),(50,.any),(51,.any),(52,.any)] q2h0 q2h5 q2h4 C v:=rgI (by kernel_rfl)
abbrev q2h7:Type:=Int×Int×Int×Int×Int×List Diii×Int×List Diii×Int×List Diii×Int×List Diii×Int×List Diii
def q2h8 (v:q2h7):St:=⟨[(2,.ptr 0 0),(4,.ptr 1 0),(5,.ptr 3 0),(8,i6 v.1),(10,.ptr 5 0),(11,.ptr 7 0),(12,i6 v.2.1),(50,i6 v.2.2.1),(51,i6 v.2.2.2.1)],[.cells [i6 v.2.2.2.2.1,.fz Riii v.2.2.2.2.2.1],.cells [i6 v.2.2.2.2.2.2.1,.rs 2],.rows Riii v.2.2.2.2.2.2.2.1,.cells [i6 v.2.2.2.2.2.2.2.2.1,.rs 4],.rows Riii v.2.2.2.2.2.2.2.2.2.1,.cells [i6 v.2.2.2.2.2.2.2.2.2.2.1,.rs 6],.rows Riii v.2.2.2.2.2.2.2.2.2.2.2.1,.cells [i6 v.2.2.2.2.2.2.2.2.2.2.2.2.1,.rs 8],.rows Riii v.2.2.2.2.2.2.2.2.2.2.2.2.2]⟩
def q2h9 (C:q2g0) (v:q2h3):Dt q2h7:=(Dt.ret (v.1,v.2.2.1,v.2.1,v.2.2.1,v.2.2.2.2.1,v.2.2.2.2.2.1,v.2.2.2.2.2.2.1,v.2.2.2.2.2.2.2.1,v.2.2.2.2.2.2.2.2.1,v.2.2.2.2.2.2.2.2.2.1,v.2.2.2.2.2.2.2.2.2.2.1,v.2.2.2.2.2.2.2.2.2.2.2.1,v.2.2.2.2.2.2.2.2.2.2.2.2.1,v.2.2.2.2.2.2.2.2.2.2.2.2.2))
theorem q2ha C v:q35h (regO (qea f28) 10) false [(2,(.box [.any,.val Riii])),(4,(.box [.any,.own Riii])),(5,(.box [.any,.own Riii])),(8,.any),(10,(.box [.any,.own Riii])),(11,(.box [.any,.own Riii])),(12,.any),(50,.any),(51,.any)] q2h4 q2h9 q2h8 C v:=rgI (by kernel_rfl)
abbrev q2hb:Type:=Int×Nat×Int×Int×Int×List Diii×Int×List Diii×Int×List Diii×Int×List Diii×Int×List Diii
def q2hc (v:q2hb):St:=⟨[(2,.ptr 0 0),(4,.ptr 1 0),(5,.ptr 3 0),(8,i6 v.1),(10,.ptr 5 0),(11,.ptr 7 0),(13,.rp 8 v.2.1 3 0),(50,i6 v.2.2.1),(51,i6 v.2.2.2.1)],[.cells [i6 v.2.2.2.2.1,.fz Riii v.2.2.2.2.2.1],.cells [i6 v.2.2.2.2.2.2.1,.rs 2],.rows Riii v.2.2.2.2.2.2.2.1,.cells [i6 v.2.2.2.2.2.2.2.2.1,.rs 4],.rows Riii v.2.2.2.2.2.2.2.2.2.1,.cells [i6 v.2.2.2.2.2.2.2.2.2.2.1,.rs 6],.rows Riii v.2.2.2.2.2.2.2.2.2.2.2.1,.cells [i6 v.2.2.2.2.2.2.2.2.2.2.2.2.1,.rs 8],.rows Riii v.2.2.2.2.2.2.2.2.2.2.2.2.2]⟩
def q2hd (C:q2g0) (v:q2h7):Dt q2hb:=(Dt.ite (inB v.2.1 (List.length v.2.2.2.2.2.2.2.2.2.2.2.2.2)) (Dt.ret (v.1,(v.2.1).toNat,v.2.2.1,v.2.2.2.1,v.2.2.2.2.1,v.2.2.2.2.2.1,v.2.2.2.2.2.2.1,v.2.2.2.2.2.2.2.1,v.2.2.2.2.2.2.2.2.1,v.2.2.2.2.2.2.2.2.2.1,v.2.2.2.2.2.2.2.2.2.2.1,v.2.2.2.2.2.2.2.2.2.2.2.1,v.2.2.2.2.2.2.2.2.2.2.2.2.1,v.2.2.2.2.2.2.2.2.2.2.2.2.2)) Dt.fail)
theorem q2he C v:q35h (regO (qea f28) 11) false [(2,(.box [.any,.val Riii])),(4,(.box [.any,.own Riii])),(5,(.box [.any,.own Riii])),(8,.any),(10,(.box [.any,.own Riii])),(11,(.box [.any,.own Riii])),(13,.any),(50,.any),(51,.any)] q2h8 q2hd q2hc C v:=rgI (by kernel_rfl)
def q2hf (C:q2g0) (v:q2hb):Dt q2gz:=(Dt.ret (v.1,v.2.2.1,v.2.2.2.1,v.2.2.2.2.1,v.2.2.2.2.2.1,v.2.2.2.2.2.2.1,v.2.2.2.2.2.2.2.1,v.2.2.2.2.2.2.2.2.1,v.2.2.2.2.2.2.2.2.2.1,v.2.2.2.2.2.2.2.2.2.2.1,v.2.2.2.2.2.2.2.2.2.2.2.1,v.2.2.2.2.2.2.2.2.2.2.2.2.1,(List.set (List.set v.2.2.2.2.2.2.2.2.2.2.2.2.2 v.2.1 ((elt ziii v.2.2.2.2.2.2.2.2.2.2.2.2.2 v.2.1).1,(tmax (IntKind.wrap .i64 ((elt ziii v.2.2.2.2.2.2.2.2.2.2.2.2.2 v.2.1).2.1 - v.1)) (-1:Int)),(elt ziii v.2.2.2.2.2.2.2.2.2.2.2.2.2 v.2.1).2.2.1,())) v.2.1 ((elt ziii (List.set v.2.2.2.2.2.2.2.2.2.2.2.2.2 v.2.1 ((elt ziii v.2.2.2.2.2.2.2.2.2.2.2.2.2 v.2.1).1,(tmax (IntKind.wrap .i64 ((elt ziii v.2.2.2.2.2.2.2.2.2.2.2.2.2 v.2.1).2.1 - v.1)) (-1:Int)),(elt ziii v.2.2.2.2.2.2.2.2.2.2.2.2.2 v.2.1).2.2.1,())) v.2.1).1,(elt ziii (List.set v.2.2.2.2.2.2.2.2.2.2.2.2.2 v.2.1 ((elt ziii v.2.2.2.2.2.2.2.2.2.2.2.2.2 v.2.1).1,(tmax (IntKind.wrap .i64 ((elt ziii v.2.2.2.2.2.2.2.2.2.2.2.2.2 v.2.1).2.1 - v.1)) (-1:Int)),(elt ziii v.2.2.2.2.2.2.2.2.2.2.2.2.2 v.2.1).2.2.1,())) v.2.1).2.1,(tmax (IntKind.wrap .i64 ((elt ziii v.2.2.2.2.2.2.2.2.2.2.2.2.2 v.2.1).2.2.1 - v.1)) (-1:Int)),()))))
theorem q2hg C v:q35h (regO (qea f28) 12) true [(2,(.box [.any,.val Riii])),(4,(.box [.any,.own Riii])),(5,(.box [.any,.own Riii])),(8,.any),(10,(.box [.any,.own Riii])),(11,(.box [.any,.own Riii])),(50,.any),(51,.any)] q2hc q2hf q2h0 C v:=rgI (by kernel_rfl)
def q2hh (C:q2g0) (v:q2gz):Dt q2gz:=(Dt.ret (v.1,v.2.1,(IntKind.wrap .i64 (v.2.2.1+(1:Int))),v.2.2.2.1,v.2.2.2.2.1,v.2.2.2.2.2.1,v.2.2.2.2.2.2.1,v.2.2.2.2.2.2.2.1,v.2.2.2.2.2.2.2.2.1,v.2.2.2.2.2.2.2.2.2.1,v.2.2.2.2.2.2.2.2.2.2.1,v.2.2.2.2.2.2.2.2.2.2.2.1,v.2.2.2.2.2.2.2.2.2.2.2.2))
theorem q2hi C v:q35h (regO (qea f28) 13) false [(2,(.box [.any,.val Riii])),(4,(.box [.any,.own Riii])),(5,(.box [.any,.own Riii])),(8,.any),(10,(.box [.any,.own Riii])),(11,(.box [.any,.own Riii])),(50,.any),(51,.any)] q2h0 q2hh q2h0 C v:=rgI (by kernel_rfl)
abbrev q2hj:Type:=Int×Int×List Diii×Int×List Diii×Int×List Diii×Int×List Diii×Int×List Diii
def q2hk (v:q2hj):St:=⟨[(2,.ptr 0 0),(4,.ptr 1 0),(5,.ptr 3 0),(8,i6 v.1),(10,.ptr 5 0),(11,.ptr 7 0),(14,.ptr 5 0),(15,.ptr 7 0)],[.cells [i6 v.2.1,.fz Riii v.2.2.1],.cells [i6 v.2.2.2.1,.rs 2],.rows Riii v.2.2.2.2.1,.cells [i6 v.2.2.2.2.2.1,.rs 4],.rows Riii v.2.2.2.2.2.2.1,.cells [i6 v.2.2.2.2.2.2.2.1,.rs 6],.rows Riii v.2.2.2.2.2.2.2.2.1,.cells [i6 v.2.2.2.2.2.2.2.2.2.1,.rs 8],.rows Riii v.2.2.2.2.2.2.2.2.2.2]⟩
def q2hl (C:q2g0) (v:q2h3):Dt q2hj:=(Dt.ret (v.1,v.2.2.2.2.1,v.2.2.2.2.2.1,v.2.2.2.2.2.2.1,v.2.2.2.2.2.2.2.1,v.2.2.2.2.2.2.2.2.1,v.2.2.2.2.2.2.2.2.2.1,v.2.2.2.2.2.2.2.2.2.2.1,v.2.2.2.2.2.2.2.2.2.2.2.1,v.2.2.2.2.2.2.2.2.2.2.2.2.1,v.2.2.2.2.2.2.2.2.2.2.2.2.2))
theorem q2hm C v:q35h (regO (qea f28) 14) false [(2,(.box [.any,.val Riii])),(4,(.box [.any,.own Riii])),(5,(.box [.any,.own Riii])),(8,.any),(10,(.box [.any,.own Riii])),(11,(.box [.any,.own Riii])),(14,(.box [.any,.own Riii])),(15,(.box [.any,.own Riii]))] q2h4 q2hl q2hk C v:=rgI (by kernel_rfl)
abbrev q2hn:Type:=Int×Int×Int×List Diii×Int×List Diii×Int×List Diii×Int×List Diii×Int×List Diii
def q2ho (v:q2hn):St:=⟨[(2,.ptr 0 0),(4,.ptr 1 0),(5,.ptr 3 0),(8,i6 v.1),(10,.ptr 5 0),(11,.ptr 7 0),(14,.ptr 5 0),(15,.ptr 7 0),(16,i6 v.2.1)],[.cells [i6 v.2.2.1,.fz Riii v.2.2.2.1],.cells [i6 v.2.2.2.2.1,.rs 2],.rows Riii v.2.2.2.2.2.1,.cells [i6 v.2.2.2.2.2.2.1,.rs 4],.rows Riii v.2.2.2.2.2.2.2.1,.cells [i6 v.2.2.2.2.2.2.2.2.1,.rs 6],.rows Riii v.2.2.2.2.2.2.2.2.2.1,.cells [i6 v.2.2.2.2.2.2.2.2.2.2.1,.rs 8],.rows Riii v.2.2.2.2.2.2.2.2.2.2.2]⟩
def q2hp (C:q2g0) (v:q2hj):Dt q2hn:=(Dt.ret (v.1,v.2.1,v.2.1,v.2.2.1,v.2.2.2.1,v.2.2.2.2.1,v.2.2.2.2.2.1,v.2.2.2.2.2.2.1,v.2.2.2.2.2.2.2.1,v.2.2.2.2.2.2.2.2.1,v.2.2.2.2.2.2.2.2.2.1,v.2.2.2.2.2.2.2.2.2.2))
theorem q2hq C v:q35h (regO (qea f28) 15) false [(2,(.box [.any,.val Riii])),(4,(.box [.any,.own Riii])),(5,(.box [.any,.own Riii])),(8,.any),(10,(.box [.any,.own Riii])),(11,(.box [.any,.own Riii])),(14,(.box [.any,.own Riii])),(15,(.box [.any,.own Riii])),(16,.any)] q2hk q2hp q2ho C v:=rgI (by kernel_rfl)
abbrev q2hr:Type:=Int×Int×Bool×Int×List Diii×Int×List Diii×Int×List Diii×Int×List Diii×Int×List Diii
def q2hs (v:q2hr):St:=⟨[(2,.ptr 0 0),(4,.ptr 1 0),(5,.ptr 3 0),(8,i6 v.1),(10,.ptr 5 0),(11,.ptr 7 0),(14,.ptr 5 0),(15,.ptr 7 0),(16,i6 v.2.1),(84,.bool v.2.2.1)],[.cells [i6 v.2.2.2.1,.fz Riii v.2.2.2.2.1],.cells [i6 v.2.2.2.2.2.1,.rs 2],.rows Riii v.2.2.2.2.2.2.1,.cells [i6 v.2.2.2.2.2.2.2.1,.rs 4],.rows Riii v.2.2.2.2.2.2.2.2.1,.cells [i6 v.2.2.2.2.2.2.2.2.2.1,.rs 6],.rows Riii v.2.2.2.2.2.2.2.2.2.2.1,.cells [i6 v.2.2.2.2.2.2.2.2.2.2.2.1,.rs 8],.rows Riii v.2.2.2.2.2.2.2.2.2.2.2.2]⟩
def q2ht (C:q2g0) (v:q2hn):Dt q2hr:=(Dt.ret (v.1,v.2.1,(decide (v.2.1≥(0:Int))),v.2.2.1,v.2.2.2.1,v.2.2.2.2.1,v.2.2.2.2.2.1,v.2.2.2.2.2.2.1,v.2.2.2.2.2.2.2.1,v.2.2.2.2.2.2.2.2.1,v.2.2.2.2.2.2.2.2.2.1,v.2.2.2.2.2.2.2.2.2.2.1,v.2.2.2.2.2.2.2.2.2.2.2))
theorem q2hu (C:q2g0) (v:q2hn):treg tysT (orc (q2g2 C)) 126 (regO (qea f28) 16) false [(2,(.box [.any,.val Riii])),(4,(.box [.any,.own Riii])),(5,(.box [.any,.own Riii])),(8,.any),(10,(.box [.any,.own Riii])),(11,(.box [.any,.own Riii])),(14,(.box [.any,.own Riii])),(15,(.box [.any,.own Riii])),(16,.any),(84,.any)] (q2ho v) some=(q2ht C v).eval fun y=>some (q2hs y):=by kernel_rfl
abbrev q2hv:Type:=Int×Int×Bool×Int×List Diii×Int×List Diii×Int×List Diii×Int×List Diii×Int×List Diii
def q2hw (v:q2hv):St:=⟨[(2,.ptr 0 0),(4,.ptr 1 0),(5,.ptr 3 0),(8,i6 v.1),(10,.ptr 5 0),(11,.ptr 7 0),(14,.ptr 5 0),(15,.ptr 7 0),(16,i6 v.2.1),(87,.bool v.2.2.1)],[.cells [i6 v.2.2.2.1,.fz Riii v.2.2.2.2.1],.cells [i6 v.2.2.2.2.2.1,.rs 2],.rows Riii v.2.2.2.2.2.2.1,.cells [i6 v.2.2.2.2.2.2.2.1,.rs 4],.rows Riii v.2.2.2.2.2.2.2.2.1,.cells [i6 v.2.2.2.2.2.2.2.2.2.1,.rs 6],.rows Riii v.2.2.2.2.2.2.2.2.2.2.1,.cells [i6 v.2.2.2.2.2.2.2.2.2.2.2.1,.rs 8],.rows Riii v.2.2.2.2.2.2.2.2.2.2.2.2]⟩
def q2hx (C:q2g0) (v:q2hr):Dt q2hv:=(Dt.ret (v.1,v.2.1,(decide (v.2.1<v.1)),v.2.2.2.1,v.2.2.2.2.1,v.2.2.2.2.2.1,v.2.2.2.2.2.2.1,v.2.2.2.2.2.2.2.1,v.2.2.2.2.2.2.2.2.1,v.2.2.2.2.2.2.2.2.2.1,v.2.2.2.2.2.2.2.2.2.2.1,v.2.2.2.2.2.2.2.2.2.2.2.1,v.2.2.2.2.2.2.2.2.2.2.2.2))
theorem q2hy (C:q2g0) (v:q2hr):treg tysT (orc (q2g2 C)) 126 (regO (qea f28) 17) false [(2,(.box [.any,.val Riii])),(4,(.box [.any,.own Riii])),(5,(.box [.any,.own Riii])),(8,.any),(10,(.box [.any,.own Riii])),(11,(.box [.any,.own Riii])),(14,(.box [.any,.own Riii])),(15,(.box [.any,.own Riii])),(16,.any),(87,.any)] (q2hs v) some=(q2hx C v).eval fun y=>some (q2hw y):=by kernel_rfl
abbrev q2hz:Type:=Int×Nat×Int×Int×List Diii×Int×List Diii×Int×List Diii×Int×List Diii×Int×List Diii
def q2i0 (v:q2hz):St:=⟨[(2,.ptr 0 0),(4,.ptr 1 0),(5,.ptr 3 0),(8,i6 v.1),(10,.ptr 5 0),(11,.ptr 7 0),(14,.rp 6 v.2.1 3 2),(15,.ptr 7 0),(16,i6 v.2.2.1)],[.cells [i6 v.2.2.2.1,.fz Riii v.2.2.2.2.1],.cells [i6 v.2.2.2.2.2.1,.rs 2],.rows Riii v.2.2.2.2.2.2.1,.cells [i6 v.2.2.2.2.2.2.2.1,.rs 4],.rows Riii v.2.2.2.2.2.2.2.2.1,.cells [i6 v.2.2.2.2.2.2.2.2.2.1,.rs 6],.rows Riii v.2.2.2.2.2.2.2.2.2.2.1,.cells [i6 v.2.2.2.2.2.2.2.2.2.2.2.1,.rs 8],.rows Riii v.2.2.2.2.2.2.2.2.2.2.2.2]⟩
def q2i1 (C:q2g0) (v:q2hv):Dt q2hz:=(Dt.ite (inB v.2.1 (List.length v.2.2.2.2.2.2.2.2.2.2.1)) (Dt.ret (v.1,(v.2.1).toNat,v.2.1,v.2.2.2.1,v.2.2.2.2.1,v.2.2.2.2.2.1,v.2.2.2.2.2.2.1,v.2.2.2.2.2.2.2.1,v.2.2.2.2.2.2.2.2.1,v.2.1,v.2.2.2.2.2.2.2.2.2.2.1,v.2.2.2.2.2.2.2.2.2.2.2.1,v.2.2.2.2.2.2.2.2.2.2.2.2)) Dt.fail)
theorem q2i2 (C:q2g0) (v:q2hv):treg tysT (orc (q2g2 C)) 126 (regO (qea f28) 18) true [(2,(.box [.any,.val Riii])),(4,(.box [.any,.own Riii])),(5,(.box [.any,.own Riii])),(8,.any),(10,(.box [.any,.own Riii])),(11,(.box [.any,.own Riii])),(14,.any),(15,(.box [.any,.own Riii])),(16,.any)] (q2hw v) some=(q2i1 C v).eval fun y=>some (q2i0 y):=by kernel_rfl
def q2i3 (C:q2g0) (v:q2hz):Dt q2hz:=(Dt.ite (inB v.2.2.1 (List.length v.2.2.2.2.1)) (Dt.ret (v.1,v.2.1,(elt ziii v.2.2.2.2.1 (v.2.2.1).toNat).2.2.1,v.2.2.2.1,v.2.2.2.2.1,v.2.2.2.2.2.1,v.2.2.2.2.2.2.1,v.2.2.2.2.2.2.2.1,v.2.2.2.2.2.2.2.2.1,v.2.2.2.2.2.2.2.2.2.1,v.2.2.2.2.2.2.2.2.2.2.1,v.2.2.2.2.2.2.2.2.2.2.2.1,v.2.2.2.2.2.2.2.2.2.2.2.2)) Dt.fail)
theorem q2i4 (C:q2g0) (v:q2hz):treg tysT (orc (q2g2 C)) 126 (regO (qea f28) 19) false [(2,(.box [.any,.val Riii])),(4,(.box [.any,.own Riii])),(5,(.box [.any,.own Riii])),(8,.any),(10,(.box [.any,.own Riii])),(11,(.box [.any,.own Riii])),(14,.any),(15,(.box [.any,.own Riii])),(16,.any)] (q2i0 v) some=(q2i3 C v).eval fun y=>some (q2i0 y):=by kernel_rfl
abbrev q2i5:Type:=Int×Nat×Int×Int×List Diii×Int×List Diii×Int×List Diii×Int×List Diii×Int×List Diii
def q2i6 (v:q2i5):St:=⟨[(2,.ptr 0 0),(4,.ptr 1 0),(5,.ptr 3 0),(8,i6 v.1),(10,.ptr 5 0),(11,.ptr 7 0),(14,.ptr 5 0),(15,.rp 8 v.2.1 3 1),(16,i6 v.2.2.1)],[.cells [i6 v.2.2.2.1,.fz Riii v.2.2.2.2.1],.cells [i6 v.2.2.2.2.2.1,.rs 2],.rows Riii v.2.2.2.2.2.2.1,.cells [i6 v.2.2.2.2.2.2.2.1,.rs 4],.rows Riii v.2.2.2.2.2.2.2.2.1,.cells [i6 v.2.2.2.2.2.2.2.2.2.1,.rs 6],.rows Riii v.2.2.2.2.2.2.2.2.2.2.1,.cells [i6 v.2.2.2.2.2.2.2.2.2.2.2.1,.rs 8],.rows Riii v.2.2.2.2.2.2.2.2.2.2.2.2]⟩
def q2i7 (C:q2g0) (v:q2hv):Dt q2i5:=(Dt.ite (inB (IntKind.wrap .i64 (v.2.1 - v.1)) (List.length v.2.2.2.2.2.2.2.2.2.2.2.2)) (Dt.ret (v.1,((IntKind.wrap .i64 (v.2.1 - v.1))).toNat,v.2.1,v.2.2.2.1,v.2.2.2.2.1,v.2.2.2.2.2.1,v.2.2.2.2.2.2.1,v.2.2.2.2.2.2.2.1,v.2.2.2.2.2.2.2.2.1,v.2.2.2.2.2.2.2.2.2.1,v.2.2.2.2.2.2.2.2.2.2.1,(IntKind.wrap .i64 (v.2.1 - v.1)),v.2.2.2.2.2.2.2.2.2.2.2.2)) Dt.fail)
theorem q2i8 (C:q2g0) (v:q2hv):treg tysT (orc (q2g2 C)) 126 (regO (qea f28) 20) true [(2,(.box [.any,.val Riii])),(4,(.box [.any,.own Riii])),(5,(.box [.any,.own Riii])),(8,.any),(10,(.box [.any,.own Riii])),(11,(.box [.any,.own Riii])),(14,(.box [.any,.own Riii])),(15,.any),(16,.any)] (q2hw v) some=(q2i7 C v).eval fun y=>some (q2i6 y):=by kernel_rfl
def q2i9 (C:q2g0) (v:q2i5):Dt q2i5:=(Dt.ite (inB v.2.2.1 (List.length v.2.2.2.2.1)) (Dt.ret (v.1,v.2.1,(elt ziii v.2.2.2.2.1 (v.2.2.1).toNat).2.1,v.2.2.2.1,v.2.2.2.2.1,v.2.2.2.2.2.1,v.2.2.2.2.2.2.1,v.2.2.2.2.2.2.2.1,v.2.2.2.2.2.2.2.2.1,v.2.2.2.2.2.2.2.2.2.1,v.2.2.2.2.2.2.2.2.2.2.1,v.2.2.2.2.2.2.2.2.2.2.2.1,v.2.2.2.2.2.2.2.2.2.2.2.2)) Dt.fail)
theorem q2ia (C:q2g0) (v:q2i5):treg tysT (orc (q2g2 C)) 126 (regO (qea f28) 21) false [(2,(.box [.any,.val Riii])),(4,(.box [.any,.own Riii])),(5,(.box [.any,.own Riii])),(8,.any),(10,(.box [.any,.own Riii])),(11,(.box [.any,.own Riii])),(14,(.box [.any,.own Riii])),(15,.any),(16,.any)] (q2i6 v) some=(q2i9 C v).eval fun y=>some (q2i6 y):=by kernel_rfl
abbrev q2ib:Type:=Int×List Diii×Int×List Diii×Int×List Diii×Int×List Diii
def q2ic (v:q2ib):St:=⟨[(4,.ptr 0 0),(5,.ptr 2 0),(10,.ptr 4 0),(11,.ptr 6 0)],[.cells [i6 v.1,.rs 1],.rows Riii v.2.1,.cells [i6 v.2.2.1,.rs 3],.rows Riii v.2.2.2.1,.cells [i6 v.2.2.2.2.1,.rs 5],.rows Riii v.2.2.2.2.2.1,.cells [i6 v.2.2.2.2.2.2.1,.rs 7],.rows Riii v.2.2.2.2.2.2.2]⟩
def q2id (C:q2g0) (v:q2hr):Dt q2ib:=(Dt.ret (v.2.2.2.2.2.1,v.2.2.2.2.2.2.1,v.2.2.2.2.2.2.2.1,v.2.2.2.2.2.2.2.2.1,(-1:Int),v.2.2.2.2.2.2.2.2.2.2.1,(-1:Int),v.2.2.2.2.2.2.2.2.2.2.2.2))
theorem q2ie (C:q2g0) (v:q2hr):treg tysT (orc (q2g2 C)) 126 (regO (qea f28) 22) false [(4,(.box [.any,.own Riii])),(5,(.box [.any,.own Riii])),(10,(.box [.any,.own Riii])),(11,(.box [.any,.own Riii]))] (q2hs v) some=(q2id C v).eval fun y=>some (q2ic y):=by kernel_rfl
def q2if (C:q2g0) (v:q2ib):Dt q2gh:=(Dt.ret ((0:Int),v.2.2.2.2.1,v.2.2.2.2.2.1,v.2.2.2.2.2.2.1,v.2.2.2.2.2.2.2))
theorem q2ig (C:q2g0) (v:q2ib):treg tysT (orc (q2g2 C)) 126 (regO (qea f28) 23) true [(4,(.box [.any,.own Riii])),(5,(.box [.any,.own Riii])),(6,.any)] (q2ic v) some=(q2if C v).eval fun y=>some (q2gi y):=by kernel_rfl
def q2ih (d:Nat) (self2:((Int×Int×Int×List Diii×Int×List Diii×Int×List Diii×Int×List Diii×Int×List Diii) ⊕ (Int×Nat×Int×Int×List Diii×Int×List Diii×Int×List Diii×Int×List Diii×Int×List Diii) ⊕ (Int×Nat×Int×Int×List Diii×Int×List Diii×Int×List Diii×Int×List Diii×Int×List Diii) ⊕ (Int×Nat×Nat×Int×Int×List Diii×Int×List Diii×Int×List Diii×Int×List Diii×Int×List Diii))→Option q2fx) (x2:Int×Int×Int×List Diii×Int×List Diii×Int×List Diii×Int×List Diii×Int×List Diii):Option q2fx :=
 (q2ht (q2g1 d) x2).eval fun y16a =>
 bif y16a.2.2.1 then ((q2hx (q2g1 d) y16a).eval fun y17a =>
 bif y17a.2.2.1 then ((q2i1 (q2g1 d) y17a).eval fun y18a =>
 (q2i3 (q2g1 d) y18a).eval fun y19a =>
 self2 (.inr (.inl y19a))) else ((q2i7 (q2g1 d) y17a).eval fun y20a =>
 (q2i9 (q2g1 d) y20a).eval fun y21a =>
 self2 (.inr (.inr (.inl y21a))))) else ((q2id (q2g1 d) y16a).eval fun y22a =>
 (q2if (q2g1 d) y22a).eval fun y23a =>
 some (y23a.2.1,y23a.2.2.1,y23a.2.2.2.1,y23a.2.2.2.2,y23a.1))
abbrev q2ii:Type:=Int×Nat×Int×Bool×Int×List Diii×Int×List Diii×Int×List Diii×Int×List Diii×Int×List Diii
def q2ij (v:q2ii):St:=⟨[(2,.ptr 0 0),(4,.ptr 1 0),(5,.ptr 3 0),(8,i6 v.1),(10,.ptr 5 0),(11,.ptr 7 0),(14,.rp 6 v.2.1 3 2),(15,.ptr 7 0),(16,i6 v.2.2.1),(84,.bool v.2.2.2.1)],[.cells [i6 v.2.2.2.2.1,.fz Riii v.2.2.2.2.2.1],.cells [i6 v.2.2.2.2.2.2.1,.rs 2],.rows Riii v.2.2.2.2.2.2.2.1,.cells [i6 v.2.2.2.2.2.2.2.2.1,.rs 4],.rows Riii v.2.2.2.2.2.2.2.2.2.1,.cells [i6 v.2.2.2.2.2.2.2.2.2.2.1,.rs 6],.rows Riii v.2.2.2.2.2.2.2.2.2.2.2.1,.cells [i6 v.2.2.2.2.2.2.2.2.2.2.2.2.1,.rs 8],.rows Riii v.2.2.2.2.2.2.2.2.2.2.2.2.2]⟩
def q2ik (C:q2g0) (v:q2hz):Dt q2ii:=(Dt.ret (v.1,v.2.1,v.2.2.1,(decide (v.2.2.1≥(0:Int))),v.2.2.2.1,v.2.2.2.2.1,v.2.2.2.2.2.1,v.2.2.2.2.2.2.1,v.2.2.2.2.2.2.2.1,v.2.2.2.2.2.2.2.2.1,v.2.2.2.2.2.2.2.2.2.1,v.2.2.2.2.2.2.2.2.2.2.1,v.2.2.2.2.2.2.2.2.2.2.2.1,v.2.2.2.2.2.2.2.2.2.2.2.2))
theorem q2il (C:q2g0) (v:q2hz):treg tysT (orc (q2g2 C)) 126 (regO (qea f28) 16) false [(2,(.box [.any,.val Riii])),(4,(.box [.any,.own Riii])),(5,(.box [.any,.own Riii])),(8,.any),(10,(.box [.any,.own Riii])),(11,(.box [.any,.own Riii])),(14,.any),(15,(.box [.any,.own Riii])),(16,.any),(84,.any)] (q2i0 v) some=(q2ik C v).eval fun y=>some (q2ij y):=by kernel_rfl
abbrev q2im:Type:=Int×Nat×Int×Bool×Int×List Diii×Int×List Diii×Int×List Diii×Int×List Diii×Int×List Diii
def q2in (v:q2im):St:=⟨[(2,.ptr 0 0),(4,.ptr 1 0),(5,.ptr 3 0),(8,i6 v.1),(10,.ptr 5 0),(11,.ptr 7 0),(14,.rp 6 v.2.1 3 2),(15,.ptr 7 0),(16,i6 v.2.2.1),(87,.bool v.2.2.2.1)],[.cells [i6 v.2.2.2.2.1,.fz Riii v.2.2.2.2.2.1],.cells [i6 v.2.2.2.2.2.2.1,.rs 2],.rows Riii v.2.2.2.2.2.2.2.1,.cells [i6 v.2.2.2.2.2.2.2.2.1,.rs 4],.rows Riii v.2.2.2.2.2.2.2.2.2.1,.cells [i6 v.2.2.2.2.2.2.2.2.2.2.1,.rs 6],.rows Riii v.2.2.2.2.2.2.2.2.2.2.2.1,.cells [i6 v.2.2.2.2.2.2.2.2.2.2.2.2.1,.rs 8],.rows Riii v.2.2.2.2.2.2.2.2.2.2.2.2.2]⟩
def q2io (C:q2g0) (v:q2ii):Dt q2im:=(Dt.ret (v.1,v.2.1,v.2.2.1,(decide (v.2.2.1<v.1)),v.2.2.2.2.1,v.2.2.2.2.2.1,v.2.2.2.2.2.2.1,v.2.2.2.2.2.2.2.1,v.2.2.2.2.2.2.2.2.1,v.2.2.2.2.2.2.2.2.2.1,v.2.2.2.2.2.2.2.2.2.2.1,v.2.2.2.2.2.2.2.2.2.2.2.1,v.2.2.2.2.2.2.2.2.2.2.2.2.1,v.2.2.2.2.2.2.2.2.2.2.2.2.2))
theorem q2ip (C:q2g0) (v:q2ii):treg tysT (orc (q2g2 C)) 126 (regO (qea f28) 17) false [(2,(.box [.any,.val Riii])),(4,(.box [.any,.own Riii])),(5,(.box [.any,.own Riii])),(8,.any),(10,(.box [.any,.own Riii])),(11,(.box [.any,.own Riii])),(14,.any),(15,(.box [.any,.own Riii])),(16,.any),(87,.any)] (q2ij v) some=(q2io C v).eval fun y=>some (q2in y):=by kernel_rfl
def q2iq (C:q2g0) (v:q2im):Dt q2hz:=(Dt.ite (inB v.2.2.1 (List.length v.2.2.2.2.2.2.2.2.2.2.2.1)) (Dt.ret (v.1,(v.2.2.1).toNat,v.2.2.1,v.2.2.2.2.1,v.2.2.2.2.2.1,v.2.2.2.2.2.2.1,v.2.2.2.2.2.2.2.1,v.2.2.2.2.2.2.2.2.1,v.2.2.2.2.2.2.2.2.2.1,v.2.2.2.2.2.2.2.2.2.2.1,(List.set v.2.2.2.2.2.2.2.2.2.2.2.1 v.2.1 ((elt ziii v.2.2.2.2.2.2.2.2.2.2.2.1 v.2.1).1,(elt ziii v.2.2.2.2.2.2.2.2.2.2.2.1 v.2.1).2.1,v.2.2.1,())),v.2.2.2.2.2.2.2.2.2.2.2.2.1,v.2.2.2.2.2.2.2.2.2.2.2.2.2)) Dt.fail)
theorem q2ir (C:q2g0) (v:q2im):treg tysT (orc (q2g2 C)) 126 (regO (qea f28) 18) true [(2,(.box [.any,.val Riii])),(4,(.box [.any,.own Riii])),(5,(.box [.any,.own Riii])),(8,.any),(10,(.box [.any,.own Riii])),(11,(.box [.any,.own Riii])),(14,.any),(15,(.box [.any,.own Riii])),(16,.any)] (q2in v) some=(q2iq C v).eval fun y=>some (q2i0 y):=by kernel_rfl
def q2is (C:q2g0) (v:q2hz):Dt q2hz:=(Dt.ite (inB v.2.2.1 (List.length v.2.2.2.2.1)) (Dt.ret (v.1,v.2.1,(elt ziii v.2.2.2.2.1 (v.2.2.1).toNat).2.2.1,v.2.2.2.1,v.2.2.2.2.1,v.2.2.2.2.2.1,v.2.2.2.2.2.2.1,v.2.2.2.2.2.2.2.1,v.2.2.2.2.2.2.2.2.1,v.2.2.2.2.2.2.2.2.2.1,v.2.2.2.2.2.2.2.2.2.2.1,v.2.2.2.2.2.2.2.2.2.2.2.1,v.2.2.2.2.2.2.2.2.2.2.2.2)) Dt.fail)
theorem q2it (C:q2g0) (v:q2hz):treg tysT (orc (q2g2 C)) 126 (regO (qea f28) 19) false [(2,(.box [.any,.val Riii])),(4,(.box [.any,.own Riii])),(5,(.box [.any,.own Riii])),(8,.any),(10,(.box [.any,.own Riii])),(11,(.box [.any,.own Riii])),(14,.any),(15,(.box [.any,.own Riii])),(16,.any)] (q2i0 v) some=(q2is C v).eval fun y=>some (q2i0 y):=by kernel_rfl
abbrev q2iu:Type:=Int×Nat×Nat×Int×Int×List Diii×Int×List Diii×Int×List Diii×Int×List Diii×Int×List Diii
def q2iv (v:q2iu):St:=⟨[(2,.ptr 0 0),(4,.ptr 1 0),(5,.ptr 3 0),(8,i6 v.1),(10,.ptr 5 0),(11,.ptr 7 0),(14,.rp 6 v.2.1 3 2),(15,.rp 8 v.2.2.1 3 1),(16,i6 v.2.2.2.1)],[.cells [i6 v.2.2.2.2.1,.fz Riii v.2.2.2.2.2.1],.cells [i6 v.2.2.2.2.2.2.1,.rs 2],.rows Riii v.2.2.2.2.2.2.2.1,.cells [i6 v.2.2.2.2.2.2.2.2.1,.rs 4],.rows Riii v.2.2.2.2.2.2.2.2.2.1,.cells [i6 v.2.2.2.2.2.2.2.2.2.2.1,.rs 6],.rows Riii v.2.2.2.2.2.2.2.2.2.2.2.1,.cells [i6 v.2.2.2.2.2.2.2.2.2.2.2.2.1,.rs 8],.rows Riii v.2.2.2.2.2.2.2.2.2.2.2.2.2]⟩
def q2iw (C:q2g0) (v:q2im):Dt q2iu:=(Dt.ite (inB (IntKind.wrap .i64 (v.2.2.1 - v.1)) (List.length v.2.2.2.2.2.2.2.2.2.2.2.2.2)) (Dt.ret (v.1,v.2.1,((IntKind.wrap .i64 (v.2.2.1 - v.1))).toNat,v.2.2.1,v.2.2.2.2.1,v.2.2.2.2.2.1,v.2.2.2.2.2.2.1,v.2.2.2.2.2.2.2.1,v.2.2.2.2.2.2.2.2.1,v.2.2.2.2.2.2.2.2.2.1,v.2.2.2.2.2.2.2.2.2.2.1,v.2.2.2.2.2.2.2.2.2.2.2.1,(IntKind.wrap .i64 (v.2.2.1 - v.1)),v.2.2.2.2.2.2.2.2.2.2.2.2.2)) Dt.fail)
theorem q2ix (C:q2g0) (v:q2im):treg tysT (orc (q2g2 C)) 126 (regO (qea f28) 20) true [(2,(.box [.any,.val Riii])),(4,(.box [.any,.own Riii])),(5,(.box [.any,.own Riii])),(8,.any),(10,(.box [.any,.own Riii])),(11,(.box [.any,.own Riii])),(14,.any),(15,.any),(16,.any)] (q2in v) some=(q2iw C v).eval fun y=>some (q2iv y):=by kernel_rfl
def q2iy (C:q2g0) (v:q2iu):Dt q2iu:=(Dt.ite (inB v.2.2.2.1 (List.length v.2.2.2.2.2.1)) (Dt.ret (v.1,v.2.1,v.2.2.1,(elt ziii v.2.2.2.2.2.1 (v.2.2.2.1).toNat).2.1,v.2.2.2.2.1,v.2.2.2.2.2.1,v.2.2.2.2.2.2.1,v.2.2.2.2.2.2.2.1,v.2.2.2.2.2.2.2.2.1,v.2.2.2.2.2.2.2.2.2.1,v.2.2.2.2.2.2.2.2.2.2.1,v.2.2.2.2.2.2.2.2.2.2.2.1,v.2.2.2.2.2.2.2.2.2.2.2.2.1,v.2.2.2.2.2.2.2.2.2.2.2.2.2)) Dt.fail)
theorem q2iz (C:q2g0) (v:q2iu):treg tysT (orc (q2g2 C)) 126 (regO (qea f28) 21) false [(2,(.box [.any,.val Riii])),(4,(.box [.any,.own Riii])),(5,(.box [.any,.own Riii])),(8,.any),(10,(.box [.any,.own Riii])),(11,(.box [.any,.own Riii])),(14,.any),(15,.any),(16,.any)] (q2iv v) some=(q2iy C v).eval fun y=>some (q2iv y):=by kernel_rfl
def q2j0 (C:q2g0) (v:q2ii):Dt q2ib:=(Dt.ret (v.2.2.2.2.2.2.1,v.2.2.2.2.2.2.2.1,v.2.2.2.2.2.2.2.2.1,v.2.2.2.2.2.2.2.2.2.1,v.2.2.2.2.2.2.2.2.2.2.1,(List.set v.2.2.2.2.2.2.2.2.2.2.2.1 v.2.1 ((elt ziii v.2.2.2.2.2.2.2.2.2.2.2.1 v.2.1).1,(elt ziii v.2.2.2.2.2.2.2.2.2.2.2.1 v.2.1).2.1,(-1:Int),())),(-1:Int),v.2.2.2.2.2.2.2.2.2.2.2.2.2))
theorem q2j1 (C:q2g0) (v:q2ii):treg tysT (orc (q2g2 C)) 126 (regO (qea f28) 22) false [(4,(.box [.any,.own Riii])),(5,(.box [.any,.own Riii])),(10,(.box [.any,.own Riii])),(11,(.box [.any,.own Riii]))] (q2ij v) some=(q2j0 C v).eval fun y=>some (q2ic y):=by kernel_rfl
def q2j2 (C:q2g0) (v:q2ib):Dt q2gh:=(Dt.ret ((0:Int),v.2.2.2.2.1,v.2.2.2.2.2.1,v.2.2.2.2.2.2.1,v.2.2.2.2.2.2.2))
theorem q2j3 (C:q2g0) (v:q2ib):treg tysT (orc (q2g2 C)) 126 (regO (qea f28) 23) true [(4,(.box [.any,.own Riii])),(5,(.box [.any,.own Riii])),(6,.any)] (q2ic v) some=(q2j2 C v).eval fun y=>some (q2gi y):=by kernel_rfl
def q2j4 (d:Nat) (self2:((Int×Int×Int×List Diii×Int×List Diii×Int×List Diii×Int×List Diii×Int×List Diii) ⊕ (Int×Nat×Int×Int×List Diii×Int×List Diii×Int×List Diii×Int×List Diii×Int×List Diii) ⊕ (Int×Nat×Int×Int×List Diii×Int×List Diii×Int×List Diii×Int×List Diii×Int×List Diii) ⊕ (Int×Nat×Nat×Int×Int×List Diii×Int×List Diii×Int×List Diii×Int×List Diii×Int×List Diii))→Option q2fx) (x2:Int×Nat×Int×Int×List Diii×Int×List Diii×Int×List Diii×Int×List Diii×Int×List Diii):Option q2fx :=
 (q2ik (q2g1 d) x2).eval fun y16b =>
 bif y16b.2.2.2.1 then ((q2io (q2g1 d) y16b).eval fun y17b =>
 bif y17b.2.2.2.1 then ((q2iq (q2g1 d) y17b).eval fun y18b =>
 (q2is (q2g1 d) y18b).eval fun y19b =>
 self2 (.inr (.inl y19b))) else ((q2iw (q2g1 d) y17b).eval fun y20b =>
 (q2iy (q2g1 d) y20b).eval fun y21b =>
 self2 (.inr (.inr (.inr y21b))))) else ((q2j0 (q2g1 d) y16b).eval fun y22b =>
 (q2j2 (q2g1 d) y22b).eval fun y23b =>
 some (y23b.2.1,y23b.2.2.1,y23b.2.2.2.1,y23b.2.2.2.2,y23b.1))
abbrev q2j5:Type:=Int×Nat×Int×Bool×Int×List Diii×Int×List Diii×Int×List Diii×Int×List Diii×Int×List Diii
def q2j6 (v:q2j5):St:=⟨[(2,.ptr 0 0),(4,.ptr 1 0),(5,.ptr 3 0),(8,i6 v.1),(10,.ptr 5 0),(11,.ptr 7 0),(14,.ptr 5 0),(15,.rp 8 v.2.1 3 1),(16,i6 v.2.2.1),(84,.bool v.2.2.2.1)],[.cells [i6 v.2.2.2.2.1,.fz Riii v.2.2.2.2.2.1],.cells [i6 v.2.2.2.2.2.2.1,.rs 2],.rows Riii v.2.2.2.2.2.2.2.1,.cells [i6 v.2.2.2.2.2.2.2.2.1,.rs 4],.rows Riii v.2.2.2.2.2.2.2.2.2.1,.cells [i6 v.2.2.2.2.2.2.2.2.2.2.1,.rs 6],.rows Riii v.2.2.2.2.2.2.2.2.2.2.2.1,.cells [i6 v.2.2.2.2.2.2.2.2.2.2.2.2.1,.rs 8],.rows Riii v.2.2.2.2.2.2.2.2.2.2.2.2.2]⟩
def q2j7 (C:q2g0) (v:q2i5):Dt q2j5:=(Dt.ret (v.1,v.2.1,v.2.2.1,(decide (v.2.2.1≥(0:Int))),v.2.2.2.1,v.2.2.2.2.1,v.2.2.2.2.2.1,v.2.2.2.2.2.2.1,v.2.2.2.2.2.2.2.1,v.2.2.2.2.2.2.2.2.1,v.2.2.2.2.2.2.2.2.2.1,v.2.2.2.2.2.2.2.2.2.2.1,v.2.2.2.2.2.2.2.2.2.2.2.1,v.2.2.2.2.2.2.2.2.2.2.2.2))
theorem q2j8 (C:q2g0) (v:q2i5):treg tysT (orc (q2g2 C)) 126 (regO (qea f28) 16) false [(2,(.box [.any,.val Riii])),(4,(.box [.any,.own Riii])),(5,(.box [.any,.own Riii])),(8,.any),(10,(.box [.any,.own Riii])),(11,(.box [.any,.own Riii])),(14,(.box [.any,.own Riii])),(15,.any),(16,.any),(84,.any)] (q2i6 v) some=(q2j7 C v).eval fun y=>some (q2j6 y):=by kernel_rfl
abbrev q2j9:Type:=Int×Nat×Int×Bool×Int×List Diii×Int×List Diii×Int×List Diii×Int×List Diii×Int×List Diii
def q2ja (v:q2j9):St:=⟨[(2,.ptr 0 0),(4,.ptr 1 0),(5,.ptr 3 0),(8,i6 v.1),(10,.ptr 5 0),(11,.ptr 7 0),(14,.ptr 5 0),(15,.rp 8 v.2.1 3 1),(16,i6 v.2.2.1),(87,.bool v.2.2.2.1)],[.cells [i6 v.2.2.2.2.1,.fz Riii v.2.2.2.2.2.1],.cells [i6 v.2.2.2.2.2.2.1,.rs 2],.rows Riii v.2.2.2.2.2.2.2.1,.cells [i6 v.2.2.2.2.2.2.2.2.1,.rs 4],.rows Riii v.2.2.2.2.2.2.2.2.2.1,.cells [i6 v.2.2.2.2.2.2.2.2.2.2.1,.rs 6],.rows Riii v.2.2.2.2.2.2.2.2.2.2.2.1,.cells [i6 v.2.2.2.2.2.2.2.2.2.2.2.2.1,.rs 8],.rows Riii v.2.2.2.2.2.2.2.2.2.2.2.2.2]⟩
def q2jb (C:q2g0) (v:q2j5):Dt q2j9:=(Dt.ret (v.1,v.2.1,v.2.2.1,(decide (v.2.2.1<v.1)),v.2.2.2.2.1,v.2.2.2.2.2.1,v.2.2.2.2.2.2.1,v.2.2.2.2.2.2.2.1,v.2.2.2.2.2.2.2.2.1,v.2.2.2.2.2.2.2.2.2.1,v.2.2.2.2.2.2.2.2.2.2.1,v.2.2.2.2.2.2.2.2.2.2.2.1,v.2.2.2.2.2.2.2.2.2.2.2.2.1,v.2.2.2.2.2.2.2.2.2.2.2.2.2))
theorem q2jc (C:q2g0) (v:q2j5):treg tysT (orc (q2g2 C)) 126 (regO (qea f28) 17) false [(2,(.box [.any,.val Riii])),(4,(.box [.any,.own Riii])),(5,(.box [.any,.own Riii])),(8,.any),(10,(.box [.any,.own Riii])),(11,(.box [.any,.own Riii])),(14,(.box [.any,.own Riii])),(15,.any),(16,.any),(87,.any)] (q2j6 v) some=(q2jb C v).eval fun y=>some (q2ja y):=by kernel_rfl
def q2jd (C:q2g0) (v:q2j9):Dt q2iu:=(Dt.ite (inB v.2.2.1 (List.length v.2.2.2.2.2.2.2.2.2.2.2.1)) (Dt.ret (v.1,(v.2.2.1).toNat,v.2.1,v.2.2.1,v.2.2.2.2.1,v.2.2.2.2.2.1,v.2.2.2.2.2.2.1,v.2.2.2.2.2.2.2.1,v.2.2.2.2.2.2.2.2.1,v.2.2.2.2.2.2.2.2.2.1,v.2.2.1,v.2.2.2.2.2.2.2.2.2.2.2.1,v.2.2.2.2.2.2.2.2.2.2.2.2.1,v.2.2.2.2.2.2.2.2.2.2.2.2.2)) Dt.fail)
theorem q2je (C:q2g0) (v:q2j9):treg tysT (orc (q2g2 C)) 126 (regO (qea f28) 18) true [(2,(.box [.any,.val Riii])),(4,(.box [.any,.own Riii])),(5,(.box [.any,.own Riii])),(8,.any),(10,(.box [.any,.own Riii])),(11,(.box [.any,.own Riii])),(14,.any),(15,.any),(16,.any)] (q2ja v) some=(q2jd C v).eval fun y=>some (q2iv y):=by kernel_rfl
def q2jf (C:q2g0) (v:q2iu):Dt q2iu:=(Dt.ite (inB v.2.2.2.1 (List.length v.2.2.2.2.2.1)) (Dt.ret (v.1,v.2.1,v.2.2.1,(elt ziii v.2.2.2.2.2.1 (v.2.2.2.1).toNat).2.2.1,v.2.2.2.2.1,v.2.2.2.2.2.1,v.2.2.2.2.2.2.1,v.2.2.2.2.2.2.2.1,v.2.2.2.2.2.2.2.2.1,v.2.2.2.2.2.2.2.2.2.1,v.2.2.2.2.2.2.2.2.2.2.1,v.2.2.2.2.2.2.2.2.2.2.2.1,v.2.2.2.2.2.2.2.2.2.2.2.2.1,v.2.2.2.2.2.2.2.2.2.2.2.2.2)) Dt.fail)
theorem q2jg (C:q2g0) (v:q2iu):treg tysT (orc (q2g2 C)) 126 (regO (qea f28) 19) false [(2,(.box [.any,.val Riii])),(4,(.box [.any,.own Riii])),(5,(.box [.any,.own Riii])),(8,.any),(10,(.box [.any,.own Riii])),(11,(.box [.any,.own Riii])),(14,.any),(15,.any),(16,.any)] (q2iv v) some=(q2jf C v).eval fun y=>some (q2iv y):=by kernel_rfl
def q2jh (C:q2g0) (v:q2j9):Dt q2i5:=(Dt.ite (inB (IntKind.wrap .i64 (v.2.2.1 - v.1)) (List.length v.2.2.2.2.2.2.2.2.2.2.2.2.2)) (Dt.ret (v.1,((IntKind.wrap .i64 (v.2.2.1 - v.1))).toNat,v.2.2.1,v.2.2.2.2.1,v.2.2.2.2.2.1,v.2.2.2.2.2.2.1,v.2.2.2.2.2.2.2.1,v.2.2.2.2.2.2.2.2.1,v.2.2.2.2.2.2.2.2.2.1,v.2.2.2.2.2.2.2.2.2.2.1,v.2.2.2.2.2.2.2.2.2.2.2.1,v.2.2.2.2.2.2.2.2.2.2.2.2.1,(List.set v.2.2.2.2.2.2.2.2.2.2.2.2.2 v.2.1 ((elt ziii v.2.2.2.2.2.2.2.2.2.2.2.2.2 v.2.1).1,(IntKind.wrap .i64 (v.2.2.1 - v.1)),(elt ziii v.2.2.2.2.2.2.2.2.2.2.2.2.2 v.2.1).2.2.1,())))) Dt.fail)
theorem q2ji (C:q2g0) (v:q2j9):treg tysT (orc (q2g2 C)) 126 (regO (qea f28) 20) true [(2,(.box [.any,.val Riii])),(4,(.box [.any,.own Riii])),(5,(.box [.any,.own Riii])),(8,.any),(10,(.box [.any,.own Riii])),(11,(.box [.any,.own Riii])),(14,(.box [.any,.own Riii])),(15,.any),(16,.any)] (q2ja v) some=(q2jh C v).eval fun y=>some (q2i6 y):=by kernel_rfl
def q2jj (C:q2g0) (v:q2i5):Dt q2i5:=(Dt.ite (inB v.2.2.1 (List.length v.2.2.2.2.1)) (Dt.ret (v.1,v.2.1,(elt ziii v.2.2.2.2.1 (v.2.2.1).toNat).2.1,v.2.2.2.1,v.2.2.2.2.1,v.2.2.2.2.2.1,v.2.2.2.2.2.2.1,v.2.2.2.2.2.2.2.1,v.2.2.2.2.2.2.2.2.1,v.2.2.2.2.2.2.2.2.2.1,v.2.2.2.2.2.2.2.2.2.2.1,v.2.2.2.2.2.2.2.2.2.2.2.1,v.2.2.2.2.2.2.2.2.2.2.2.2)) Dt.fail)
theorem q2jk (C:q2g0) (v:q2i5):treg tysT (orc (q2g2 C)) 126 (regO (qea f28) 21) false [(2,(.box [.any,.val Riii])),(4,(.box [.any,.own Riii])),(5,(.box [.any,.own Riii])),(8,.any),(10,(.box [.any,.own Riii])),(11,(.box [.any,.own Riii])),(14,(.box [.any,.own Riii])),(15,.any),(16,.any)] (q2i6 v) some=(q2jj C v).eval fun y=>some (q2i6 y):=by kernel_rfl
def q2jl (C:q2g0) (v:q2j5):Dt q2ib:=(Dt.ret (v.2.2.2.2.2.2.1,v.2.2.2.2.2.2.2.1,v.2.2.2.2.2.2.2.2.1,v.2.2.2.2.2.2.2.2.2.1,(-1:Int),v.2.2.2.2.2.2.2.2.2.2.2.1,v.2.2.2.2.2.2.2.2.2.2.2.2.1,(List.set v.2.2.2.2.2.2.2.2.2.2.2.2.2 v.2.1 ((elt ziii v.2.2.2.2.2.2.2.2.2.2.2.2.2 v.2.1).1,(-1:Int),(elt ziii v.2.2.2.2.2.2.2.2.2.2.2.2.2 v.2.1).2.2.1,()))))
theorem q2jm (C:q2g0) (v:q2j5):treg tysT (orc (q2g2 C)) 126 (regO (qea f28) 22) false [(4,(.box [.any,.own Riii])),(5,(.box [.any,.own Riii])),(10,(.box [.any,.own Riii])),(11,(.box [.any,.own Riii]))] (q2j6 v) some=(q2jl C v).eval fun y=>some (q2ic y):=by kernel_rfl
def q2jn (C:q2g0) (v:q2ib):Dt q2gh:=(Dt.ret ((0:Int),v.2.2.2.2.1,v.2.2.2.2.2.1,v.2.2.2.2.2.2.1,v.2.2.2.2.2.2.2))
theorem q2jo (C:q2g0) (v:q2ib):treg tysT (orc (q2g2 C)) 126 (regO (qea f28) 23) true [(4,(.box [.any,.own Riii])),(5,(.box [.any,.own Riii])),(6,.any)] (q2ic v) some=(q2jn C v).eval fun y=>some (q2gi y):=by kernel_rfl
def q2jp (d:Nat) (self2:((Int×Int×Int×List Diii×Int×List Diii×Int×List Diii×Int×List Diii×Int×List Diii) ⊕ (Int×Nat×Int×Int×List Diii×Int×List Diii×Int×List Diii×Int×List Diii×Int×List Diii) ⊕ (Int×Nat×Int×Int×List Diii×Int×List Diii×Int×List Diii×Int×List Diii×Int×List Diii) ⊕ (Int×Nat×Nat×Int×Int×List Diii×Int×List Diii×Int×List Diii×Int×List Diii×Int×List Diii))→Option q2fx) (x2:Int×Nat×Int×Int×List Diii×Int×List Diii×Int×List Diii×Int×List Diii×Int×List Diii):Option q2fx :=
 (q2j7 (q2g1 d) x2).eval fun y16c =>
 bif y16c.2.2.2.1 then ((q2jb (q2g1 d) y16c).eval fun y17c =>
 bif y17c.2.2.2.1 then ((q2jd (q2g1 d) y17c).eval fun y18c =>
 (q2jf (q2g1 d) y18c).eval fun y19c =>
 self2 (.inr (.inr (.inr y19c)))) else ((q2jh (q2g1 d) y17c).eval fun y20c =>
 (q2jj (q2g1 d) y20c).eval fun y21c =>
 self2 (.inr (.inr (.inl y21c))))) else ((q2jl (q2g1 d) y16c).eval fun y22c =>
 (q2jn (q2g1 d) y22c).eval fun y23c =>
 some (y23c.2.1,y23c.2.2.1,y23c.2.2.2.1,y23c.2.2.2.2,y23c.1))
abbrev q2jq:Type:=Int×Nat×Nat×Int×Bool×Int×List Diii×Int×List Diii×Int×List Diii×Int×List Diii×Int×List Diii
def q2jr (v:q2jq):St:=⟨[(2,.ptr 0 0),(4,.ptr 1 0),(5,.ptr 3 0),(8,i6 v.1),(10,.ptr 5 0),(11,.ptr 7 0),(14,.rp 6 v.2.1 3 2),(15,.rp 8 v.2.2.1 3 1),(16,i6 v.2.2.2.1),(84,.bool v.2.2.2.2.1)],[.cells [i6 v.2.2.2.2.2.1,.fz Riii v.2.2.2.2.2.2.1],.cells [i6 v.2.2.2.2.2.2.2.1,.rs 2],.rows Riii v.2.2.2.2.2.2.2.2.1,.cells [i6 v.2.2.2.2.2.2.2.2.2.1,.rs 4],.rows Riii v.2.2.2.2.2.2.2.2.2.2.1,.cells [i6 v.2.2.2.2.2.2.2.2.2.2.2.1,.rs 6],.rows Riii v.2.2.2.2.2.2.2.2.2.2.2.2.1,.cells [i6 v.2.2.2.2.2.2.2.2.2.2.2.2.2.1,.rs 8],.rows Riii v.2.2.2.2.2.2.2.2.2.2.2.2.2.2]⟩
def q2js (C:q2g0) (v:q2iu):Dt q2jq:=(Dt.ret (v.1,v.2.1,v.2.2.1,v.2.2.2.1,(decide (v.2.2.2.1≥(0:Int))),v.2.2.2.2.1,v.2.2.2.2.2.1,v.2.2.2.2.2.2.1,v.2.2.2.2.2.2.2.1,v.2.2.2.2.2.2.2.2.1,v.2.2.2.2.2.2.2.2.2.1,v.2.2.2.2.2.2.2.2.2.2.1,v.2.2.2.2.2.2.2.2.2.2.2.1,v.2.2.2.2.2.2.2.2.2.2.2.2.1,v.2.2.2.2.2.2.2.2.2.2.2.2.2))
theorem q2jt (C:q2g0) (v:q2iu):treg tysT (orc (q2g2 C)) 126 (regO (qea f28) 16) false [(2,(.box [.any,.val Riii])),(4,(.box [.any,.own Riii])),(5,(.box [.any,.own Riii])),(8,.any),(10,(.box [.any,.own Riii])),(11,(.box [.any,.own Riii])),(14,.any),(15,.any),(16,.any),(84,.any)] (q2iv v) some=(q2js C v).eval fun y=>some (q2jr y):=by kernel_rfl
abbrev q2ju:Type:=Int×Nat×Nat×Int×Bool×Int×List Diii×Int×List Diii×Int×List Diii×Int×List Diii×Int×List Diii
def q2jv (v:q2ju):St:=⟨[(2,.ptr 0 0),(4,.ptr 1 0),(5,.ptr 3 0),(8,i6 v.1),(10,.ptr 5 0),(11,.ptr 7 0),(14,.rp 6 v.2.1 3 2),(15,.rp 8 v.2.2.1 3 1),(16,i6 v.2.2.2.1),(87,.bool v.2.2.2.2.1)],[.cells [i6 v.2.2.2.2.2.1,.fz Riii v.2.2.2.2.2.2.1],.cells [i6 v.2.2.2.2.2.2.2.1,.rs 2],.rows Riii v.2.2.2.2.2.2.2.2.1,.cells [i6 v.2.2.2.2.2.2.2.2.2.1,.rs 4],.rows Riii v.2.2.2.2.2.2.2.2.2.2.1,.cells [i6 v.2.2.2.2.2.2.2.2.2.2.2.1,.rs 6],.rows Riii v.2.2.2.2.2.2.2.2.2.2.2.2.1,.cells [i6 v.2.2.2.2.2.2.2.2.2.2.2.2.2.1,.rs 8],.rows Riii v.2.2.2.2.2.2.2.2.2.2.2.2.2.2]⟩
def q2jw (C:q2g0) (v:q2jq):Dt q2ju:=(Dt.ret (v.1,v.2.1,v.2.2.1,v.2.2.2.1,(decide (v.2.2.2.1<v.1)),v.2.2.2.2.2.1,v.2.2.2.2.2.2.1,v.2.2.2.2.2.2.2.1,v.2.2.2.2.2.2.2.2.1,v.2.2.2.2.2.2.2.2.2.1,v.2.2.2.2.2.2.2.2.2.2.1,v.2.2.2.2.2.2.2.2.2.2.2.1,v.2.2.2.2.2.2.2.2.2.2.2.2.1,v.2.2.2.2.2.2.2.2.2.2.2.2.2.1,v.2.2.2.2.2.2.2.2.2.2.2.2.2.2))
theorem q2jx (C:q2g0) (v:q2jq):treg tysT (orc (q2g2 C)) 126 (regO (qea f28) 17) false [(2,(.box [.any,.val Riii])),(4,(.box [.any,.own Riii])),(5,(.box [.any,.own Riii])),(8,.any),(10,(.box [.any,.own Riii])),(11,(.box [.any,.own Riii])),(14,.any),(15,.any),(16,.any),(87,.any)] (q2jr v) some=(q2jw C v).eval fun y=>some (q2jv y):=by kernel_rfl
def q2jy (C:q2g0) (v:q2ju):Dt q2iu:=(Dt.ite (inB v.2.2.2.1 (List.length v.2.2.2.2.2.2.2.2.2.2.2.2.1)) (Dt.ret (v.1,(v.2.2.2.1).toNat,v.2.2.1,v.2.2.2.1,v.2.2.2.2.2.1,v.2.2.2.2.2.2.1,v.2.2.2.2.2.2.2.1,v.2.2.2.2.2.2.2.2.1,v.2.2.2.2.2.2.2.2.2.1,v.2.2.2.2.2.2.2.2.2.2.1,v.2.2.2.2.2.2.2.2.2.2.2.1,(List.set v.2.2.2.2.2.2.2.2.2.2.2.2.1 v.2.1 ((elt ziii v.2.2.2.2.2.2.2.2.2.2.2.2.1 v.2.1).1,(elt ziii v.2.2.2.2.2.2.2.2.2.2.2.2.1 v.2.1).2.1,v.2.2.2.1,())),v.2.2.2.2.2.2.2.2.2.2.2.2.2.1,v.2.2.2.2.2.2.2.2.2.2.2.2.2.2)) Dt.fail)
theorem q2jz (C:q2g0) (v:q2ju):treg tysT (orc (q2g2 C)) 126 (regO (qea f28) 18) true [(2,(.box [.any,.val Riii])),(4,(.box [.any,.own Riii])),(5,(.box [.any,.own Riii])),(8,.any),(10,(.box [.any,.own Riii])),(11,(.box [.any,.own Riii])),(14,.any),(15,.any),(16,.any)] (q2jv v) some=(q2jy C v).eval fun y=>some (q2iv y):=by kernel_rfl
def q2k0 (C:q2g0) (v:q2iu):Dt q2iu:=(Dt.ite (inB v.2.2.2.1 (List.length v.2.2.2.2.2.1)) (Dt.ret (v.1,v.2.1,v.2.2.1,(elt ziii v.2.2.2.2.2.1 (v.2.2.2.1).toNat).2.2.1,v.2.2.2.2.1,v.2.2.2.2.2.1,v.2.2.2.2.2.2.1,v.2.2.2.2.2.2.2.1,v.2.2.2.2.2.2.2.2.1,v.2.2.2.2.2.2.2.2.2.1,v.2.2.2.2.2.2.2.2.2.2.1,v.2.2.2.2.2.2.2.2.2.2.2.1,v.2.2.2.2.2.2.2.2.2.2.2.2.1,v.2.2.2.2.2.2.2.2.2.2.2.2.2)) Dt.fail)
theorem q2k1 (C:q2g0) (v:q2iu):treg tysT (orc (q2g2 C)) 126 (regO (qea f28) 19) false [(2,(.box [.any,.val Riii])),(4,(.box [.any,.own Riii])),(5,(.box [.any,.own Riii])),(8,.any),(10,(.box [.any,.own Riii])),(11,(.box [.any,.own Riii])),(14,.any),(15,.any),(16,.any)] (q2iv v) some=(q2k0 C v).eval fun y=>some (q2iv y):=by kernel_rfl
def q2k2 (C:q2g0) (v:q2ju):Dt q2iu:=(Dt.ite (inB (IntKind.wrap .i64 (v.2.2.2.1 - v.1)) (List.length v.2.2.2.2.2.2.2.2.2.2.2.2.2.2)) (Dt.ret (v.1,v.2.1,((IntKind.wrap .i64 (v.2.2.2.1 - v.1))).toNat,v.2.2.2.1,v.2.2.2.2.2.1,v.2.2.2.2.2.2.1,v.2.2.2.2.2.2.2.1,v.2.2.2.2.2.2.2.2.1,v.2.2.2.2.2.2.2.2.2.1,v.2.2.2.2.2.2.2.2.2.2.1,v.2.2.2.2.2.2.2.2.2.2.2.1,v.2.2.2.2.2.2.2.2.2.2.2.2.1,v.2.2.2.2.2.2.2.2.2.2.2.2.2.1,(List.set v.2.2.2.2.2.2.2.2.2.2.2.2.2.2 v.2.2.1 ((elt ziii v.2.2.2.2.2.2.2.2.2.2.2.2.2.2 v.2.2.1).1,(IntKind.wrap .i64 (v.2.2.2.1 - v.1)),(elt ziii v.2.2.2.2.2.2.2.2.2.2.2.2.2.2 v.2.2.1).2.2.1,())))) Dt.fail)
theorem q2k3 (C:q2g0) (v:q2ju):treg tysT (orc (q2g2 C)) 126 (regO (qea f28) 20) true [(2,(.box [.any,.val Riii])),(4,(.box [.any,.own Riii])),(5,(.box [.any,.own Riii])),(8,.any),(10,(.box [.any,.own Riii])),(11,(.box [.any,.own Riii])),(14,.any),(15,.any),(16,.any)] (q2jv v) some=(q2k2 C v).eval fun y=>some (q2iv y):=by kernel_rfl
def q2k4 (C:q2g0) (v:q2iu):Dt q2iu:=(Dt.ite (inB v.2.2.2.1 (List.length v.2.2.2.2.2.1)) (Dt.ret (v.1,v.2.1,v.2.2.1,(elt ziii v.2.2.2.2.2.1 (v.2.2.2.1).toNat).2.1,v.2.2.2.2.1,v.2.2.2.2.2.1,v.2.2.2.2.2.2.1,v.2.2.2.2.2.2.2.1,v.2.2.2.2.2.2.2.2.1,v.2.2.2.2.2.2.2.2.2.1,v.2.2.2.2.2.2.2.2.2.2.1,v.2.2.2.2.2.2.2.2.2.2.2.1,v.2.2.2.2.2.2.2.2.2.2.2.2.1,v.2.2.2.2.2.2.2.2.2.2.2.2.2)) Dt.fail)
theorem q2k5 (C:q2g0) (v:q2iu):treg tysT (orc (q2g2 C)) 126 (regO (qea f28) 21) false [(2,(.box [.any,.val Riii])),(4,(.box [.any,.own Riii])),(5,(.box [.any,.own Riii])),(8,.any),(10,(.box [.any,.own Riii])),(11,(.box [.any,.own Riii])),(14,.any),(15,.any),(16,.any)] (q2iv v) some=(q2k4 C v).eval fun y=>some (q2iv y):=by kernel_rfl
def q2k6 (C:q2g0) (v:q2jq):Dt q2ib:=(Dt.ret (v.2.2.2.2.2.2.2.1,v.2.2.2.2.2.2.2.2.1,v.2.2.2.2.2.2.2.2.2.1,v.2.2.2.2.2.2.2.2.2.2.1,v.2.2.2.2.2.2.2.2.2.2.2.1,(List.set v.2.2.2.2.2.2.2.2.2.2.2.2.1 v.2.1 ((elt ziii v.2.2.2.2.2.2.2.2.2.2.2.2.1 v.2.1).1,(elt ziii v.2.2.2.2.2.2.2.2.2.2.2.2.1 v.2.1).2.1,(-1:Int),())),v.2.2.2.2.2.2.2.2.2.2.2.2.2.1,(List.set v.2.2.2.2.2.2.2.2.2.2.2.2.2.2 v.2.2.1 ((elt ziii v.2.2.2.2.2.2.2.2.2.2.2.2.2.2 v.2.2.1).1,(-1:Int),(elt ziii v.2.2.2.2.2.2.2.2.2.2.2.2.2.2 v.2.2.1).2.2.1,()))))
theorem q2k7 (C:q2g0) (v:q2jq):treg tysT (orc (q2g2 C)) 126 (regO (qea f28) 22) false [(4,(.box [.any,.own Riii])),(5,(.box [.any,.own Riii])),(10,(.box [.any,.own Riii])),(11,(.box [.any,.own Riii]))] (q2jr v) some=(q2k6 C v).eval fun y=>some (q2ic y):=by kernel_rfl
def q2k8 (C:q2g0) (v:q2ib):Dt q2gh:=(Dt.ret ((0:Int),v.2.2.2.2.1,v.2.2.2.2.2.1,v.2.2.2.2.2.2.1,v.2.2.2.2.2.2.2))
theorem q2k9 (C:q2g0) (v:q2ib):treg tysT (orc (q2g2 C)) 126 (regO (qea f28) 23) true [(4,(.box [.any,.own Riii])),(5,(.box [.any,.own Riii])),(6,.any)] (q2ic v) some=(q2k8 C v).eval fun y=>some (q2gi y):=by kernel_rfl
def q2ka (d:Nat) (self2:((Int×Int×Int×List Diii×Int×List Diii×Int×List Diii×Int×List Diii×Int×List Diii) ⊕ (Int×Nat×Int×Int×List Diii×Int×List Diii×Int×List Diii×Int×List Diii×Int×List Diii) ⊕ (Int×Nat×Int×Int×List Diii×Int×List Diii×Int×List Diii×Int×List Diii×Int×List Diii) ⊕ (Int×Nat×Nat×Int×Int×List Diii×Int×List Diii×Int×List Diii×Int×List Diii×Int×List Diii))→Option q2fx) (x2:Int×Nat×Nat×Int×Int×List Diii×Int×List Diii×Int×List Diii×Int×List Diii×Int×List Diii):Option q2fx :=
 (q2js (q2g1 d) x2).eval fun y16d =>
 bif y16d.2.2.2.2.1 then ((q2jw (q2g1 d) y16d).eval fun y17d =>
 bif y17d.2.2.2.2.1 then ((q2jy (q2g1 d) y17d).eval fun y18d =>
 (q2k0 (q2g1 d) y18d).eval fun y19d =>
 self2 (.inr (.inr (.inr y19d)))) else ((q2k2 (q2g1 d) y17d).eval fun y20d =>
 (q2k4 (q2g1 d) y20d).eval fun y21d =>
 self2 (.inr (.inr (.inr y21d))))) else ((q2k6 (q2g1 d) y16d).eval fun y22d =>
 (q2k8 (q2g1 d) y22d).eval fun y23d =>
 some (y23d.2.1,y23d.2.2.1,y23d.2.2.2.1,y23d.2.2.2.2,y23d.1))
def q2kb (d:Nat) (self2:((Int×Int×Int×List Diii×Int×List Diii×Int×List Diii×Int×List Diii×Int×List Diii) ⊕ (Int×Nat×Int×Int×List Diii×Int×List Diii×Int×List Diii×Int×List Diii×Int×List Diii) ⊕ (Int×Nat×Int×Int×List Diii×Int×List Diii×Int×List Diii×Int×List Diii×Int×List Diii) ⊕ (Int×Nat×Nat×Int×Int×List Diii×Int×List Diii×Int×List Diii×Int×List Diii×Int×List Diii))→Option q2fx) (x2:(Int×Int×Int×List Diii×Int×List Diii×Int×List Diii×Int×List Diii×Int×List Diii) ⊕ (Int×Nat×Int×Int×List Diii×Int×List Diii×Int×List Diii×Int×List Diii×Int×List Diii) ⊕ (Int×Nat×Int×Int×List Diii×Int×List Diii×Int×List Diii×Int×List Diii×Int×List Diii) ⊕ (Int×Nat×Nat×Int×Int×List Diii×Int×List Diii×Int×List Diii×Int×List Diii×Int×List Diii)):Option q2fx :=
 match x2 with
 | (.inl x)=>q2ih d self2 x
 | (.inr (.inl x))=>q2j4 d self2 x
 | (.inr (.inr (.inl x)))=>q2jp d self2 x
 | (.inr (.inr (.inr x)))=>q2ka d self2 x
def q2kc (x:(Int×Int×Int×List Diii×Int×List Diii×Int×List Diii×Int×List Diii×Int×List Diii) ⊕ (Int×Nat×Int×Int×List Diii×Int×List Diii×Int×List Diii×Int×List Diii×Int×List Diii) ⊕ (Int×Nat×Int×Int×List Diii×Int×List Diii×Int×List Diii×Int×List Diii×Int×List Diii) ⊕ (Int×Nat×Nat×Int×Int×List Diii×Int×List Diii×Int×List Diii×Int×List Diii×Int×List Diii)):St :=
 match x with
 | (.inl x2)=>⟨[(2,.ptr 0 0),(4,.ptr 1 0),(5,.ptr 3 0),(8,.int .i64 x2.1),(10,.ptr 5 0),(11,.ptr 7 0),(14,.ptr 5 0),(15,.ptr 7 0),(16,.int .i64 x2.2.1)],[.cells [.int .i64 x2.2.2.1,.fz Riii x2.2.2.2.1],.cells [.int .i64 x2.2.2.2.2.1,.rs 2],.rows Riii x2.2.2.2.2.2.1,.cells [.int .i64 x2.2.2.2.2.2.2.1,.rs 4],.rows Riii x2.2.2.2.2.2.2.2.1,.cells [.int .i64 x2.2.2.2.2.2.2.2.2.1,.rs 6],.rows Riii x2.2.2.2.2.2.2.2.2.2.1,.cells [.int .i64 x2.2.2.2.2.2.2.2.2.2.2.1,.rs 8],.rows Riii x2.2.2.2.2.2.2.2.2.2.2.2]⟩
 | (.inr (.inl x2))=>⟨[(2,.ptr 0 0),(4,.ptr 1 0),(5,.ptr 3 0),(8,.int .i64 x2.1),(10,.ptr 5 0),(11,.ptr 7 0),(14,.rp 6 x2.2.1 3 2),(15,.ptr 7 0),(16,.int .i64 x2.2.2.1)],[.cells [.int .i64 x2.2.2.2.1,.fz Riii x2.2.2.2.2.1],.cells [.int .i64 x2.2.2.2.2.2.1,.rs 2],.rows Riii x2.2.2.2.2.2.2.1,.cells [.int .i64 x2.2.2.2.2.2.2.2.1,.rs 4],.rows Riii x2.2.2.2.2.2.2.2.2.1,.cells [.int .i64 x2.2.2.2.2.2.2.2.2.2.1,.rs 6],.rows Riii x2.2.2.2.2.2.2.2.2.2.2.1,.cells [.int .i64 x2.2.2.2.2.2.2.2.2.2.2.2.1,.rs 8],.rows Riii x2.2.2.2.2.2.2.2.2.2.2.2.2]⟩
 | (.inr (.inr (.inl x2)))=>⟨[(2,.ptr 0 0),(4,.ptr 1 0),(5,.ptr 3 0),(8,.int .i64 x2.1),(10,.ptr 5 0),(11,.ptr 7 0),(14,.ptr 5 0),(15,.rp 8 x2.2.1 3 1),(16,.int .i64 x2.2.2.1)],[.cells [.int .i64 x2.2.2.2.1,.fz Riii x2.2.2.2.2.1],.cells [.int .i64 x2.2.2.2.2.2.1,.rs 2],.rows Riii x2.2.2.2.2.2.2.1,.cells [.int .i64 x2.2.2.2.2.2.2.2.1,.rs 4],.rows Riii x2.2.2.2.2.2.2.2.2.1,.cells [.int .i64 x2.2.2.2.2.2.2.2.2.2.1,.rs 6],.rows Riii x2.2.2.2.2.2.2.2.2.2.2.1,.cells [.int .i64 x2.2.2.2.2.2.2.2.2.2.2.2.1,.rs 8],.rows Riii x2.2.2.2.2.2.2.2.2.2.2.2.2]⟩
 | (.inr (.inr (.inr x2)))=>⟨[(2,.ptr 0 0),(4,.ptr 1 0),(5,.ptr 3 0),(8,.int .i64 x2.1),(10,.ptr 5 0),(11,.ptr 7 0),(14,.rp 6 x2.2.1 3 2),(15,.rp 8 x2.2.2.1 3 1),(16,.int .i64 x2.2.2.2.1)],[.cells [.int .i64 x2.2.2.2.2.1,.fz Riii x2.2.2.2.2.2.1],.cells [.int .i64 x2.2.2.2.2.2.2.1,.rs 2],.rows Riii x2.2.2.2.2.2.2.2.1,.cells [.int .i64 x2.2.2.2.2.2.2.2.2.1,.rs 4],.rows Riii x2.2.2.2.2.2.2.2.2.2.1,.cells [.int .i64 x2.2.2.2.2.2.2.2.2.2.2.1,.rs 6],.rows Riii x2.2.2.2.2.2.2.2.2.2.2.2.1,.cells [.int .i64 x2.2.2.2.2.2.2.2.2.2.2.2.2.1,.rs 8],.rows Riii x2.2.2.2.2.2.2.2.2.2.2.2.2.2]⟩
def q2kd (d:Nat) (self1:(Int×Int×Int×Int×List Diii×Int×List Diii×Int×List Diii×Int×List Diii×Int×List Diii)→Option q2fx) (x1:Int×Int×Int×Int×List Diii×Int×List Diii×Int×List Diii×Int×List Diii×Int×List Diii):Option q2fx :=
 (q2h5 (q2g1 d) x1).eval fun y9 =>
 bif y9.2.2.2.1 then ((q2h9 (q2g1 d) y9).eval fun y10 =>
 (q2hd (q2g1 d) y10).eval fun y11 =>
 (q2hf (q2g1 d) y11).eval fun y12 =>
 (q2hh (q2g1 d) y12).eval fun y13 =>
 self1 y13) else ((q2hl (q2g1 d) y9).eval fun y14 =>
 (q2hp (q2g1 d) y14).eval fun y15 =>
 iter (q2kb d ) d (.inl y15))
def q2ke (d:Nat) (x:q2fw):Option q2fx :=
 (q2g7 (q2g1 d) (x.1.1,x.1.2.1,x.2.1.1)).eval fun y0 =>
 (q2gb (q2g1 d) y0).eval fun y1 =>
 (q2gf (q2g1 d) y1).eval fun y2 =>
 bif y2.2.2.1 then ((q2gj (q2g1 d) y2).eval fun y3 =>
 some (y3.2.1,y3.2.2.1,y3.2.2.2.1,y3.2.2.2.2,y3.1)) else ((q2gn (q2g1 d) y2).eval fun y4 =>
 bif y4.2.1 then ((q2gp (q2g1 d) y4).eval fun y5 =>
 some (y5.2.1,y5.2.2.1,y5.2.2.2.1,y5.2.2.2.2,y5.1)) else ((q2gt (q2g1 d) y4).eval fun y6 =>
 (q2gx (q2g1 d) y6).eval fun y7 =>
 (q2h1 (q2g1 d) y7).eval fun y8 =>
 iter (q2kd d ) d y8))
theorem q2kf (d:Nat):COK prog (q2fz (q2ke d)):=by
 have hm:prog.follows .mixedOrders=true:=mixed
 have hT:=tys
 have hC0:OrcOK prog (orc (q2g2 (q2g1 d))):=qe4 (by
  intro S hS
  simp only [q2g2,List.mem_cons,List.not_mem_nil,or_false] at hS
  rcases hS with rfl | rfl | rfl | rfl
  · exact qyz d
  · exact q2b5 d
  · exact q2fu d
  · exact q2bc d)
 have hC:OrcOK prog (orc (q2g2 (q2g1 d))):=hC0
 refine q9t (c:=qea f28) (fn:=f28) hT (by kernel_rfl) (by kernel_rfl) (by decide) fun x r h w0 φ0 Q hend=>?_
 replace h:q2ke d x=some r:=h
 unfold q2ke at h
 show Run prog w0 φ0 126 (qea f28) ⟨[(0,.agg [.int .i64 x.1.1,.fz Riii x.1.2.1]),(1,.int .i64 x.2.1.1)],[]⟩ Q
 refine q344 hm hT hC (q2g8 (q2g1 d) (x.1.1,x.1.2.1,x.2.1.1)) h fun y0 h=>?_
 refine q9d ?_
 refine q344 hm hT hC (q2gc (q2g1 d) y0) h fun y1 h=>?_
 refine q344 hm hT hC (q2gg (q2g1 d) y1) h fun y2 h=>?_
 refine q9h (v:=y2.2.2.1) (by kernel_rfl) h ?_ ?_
 ·
  intro h
  refine q344 hm hT hC (q2gk (q2g1 d) y2) h fun y3 h=>?_
  refine q9c (q91 ?_)
  cases h
  exact (hend _ (by kernel_rfl)).2
 ·
  intro h
  refine q99 (q8z (q9d ?_))
  refine q344 hm hT hC (q2go (q2g1 d) y2) h fun y4 h=>?_
  refine q9h (v:=y4.2.1) (by kernel_rfl) h ?_ ?_
  ·
   intro h
   refine q344 hm hT hC (q2gq (q2g1 d) y4) h fun y5 h=>?_
   refine q9c (q91 ?_)
   cases h
   exact (hend _ (by kernel_rfl)).2
  ·
   intro h
   refine q99 (q8z ?_)
   refine q344 hm hT hC (q2gu (q2g1 d) y4) h fun y6 h=>?_
   refine q344 hm hT hC (q2gy (q2g1 d) y6) h fun y7 h=>?_
   refine q9d ?_
   refine q344 hm hT hC (q2h2 (q2g1 d) y7) h fun y8 h=>?_
   refine q9e ?_
   refine q9j (G:=iter (q2kd d )) (S:=(fun x1=>⟨[(2,.ptr 0 0),(4,.ptr 1 0),(5,.ptr 3 0),(8,i6 x1.1),(10,.ptr 5 0),(11,.ptr 7 0),(50,i6 x1.2.1),(51,i6 x1.2.2.1)],[.cells [i6 x1.2.2.2.1,.fz Riii x1.2.2.2.2.1],.cells [i6 x1.2.2.2.2.2.1,.rs 2],.rows Riii x1.2.2.2.2.2.2.1,.cells [i6 x1.2.2.2.2.2.2.2.1,.rs 4],.rows Riii x1.2.2.2.2.2.2.2.2.1,.cells [i6 x1.2.2.2.2.2.2.2.2.2.1,.rs 6],.rows Riii x1.2.2.2.2.2.2.2.2.2.2.1,.cells [i6 x1.2.2.2.2.2.2.2.2.2.2.2.1,.rs 8],.rows Riii x1.2.2.2.2.2.2.2.2.2.2.2.2]⟩:Int×Int×Int×Int×List Diii×Int×List Diii×Int×List Diii×Int×List Diii×Int×List Diii→St)) (fun _=>rfl) ?_ d _ h
   intro n1 x1 h K1 hn1
   replace h:q2kd d  (iter (q2kd d ) n1) x1=some r:=h
   generalize iter (q2kd d ) n1=self1 at h hn1
   unfold q2kd at h
   refine q344 hm hT hC (q2h6 (q2g1 d) x1) h fun y9 h=>?_
   refine q9d ?_
   refine q9h (v:=y9.2.2.2.1) (by kernel_rfl) h ?_ ?_
   ·
    intro h
    refine q99 (q8z (q9d (q9e ?_)))
    refine q344 hm hT hC (q2ha (q2g1 d) y9) h fun y10 h=>?_
    refine q344 hm hT hC (q2he (q2g1 d) y10) h fun y11 h=>?_
    refine q9i hm hT hC (q2hg (q2g1 d) y11) h ?_
    intro y12 h
    refine q92 (q8z ?_)
    refine q9i hm hT hC (q2hi (q2g1 d) y12) h ?_
    intro y13 h
    exact hn1 _ h
   ·
    intro h
    refine q9b (q90 (q90 (q94 (q8z ?_))))
    refine q344 hm hT hC (q2hm (q2g1 d) y9) h fun y14 h=>?_
    refine q9d ?_
    refine q344 hm hT hC (q2hq (q2g1 d) y14) h fun y15 h=>?_
    refine q9e ?_
    refine q9j (G:=iter (q2kb d )) (S:=q2kc) (fun _=>rfl) ?_ d _ h
    intro n2 x2 h K2 hn2
    rcases x2 with x2 | x2 | x2 | x2
    ·
     replace h:q2ih d  (iter (q2kb d ) n2) x2=some r:=h
     generalize iter (q2kb d ) n2=self2 at h hn2
     unfold q2ih at h
     show Run prog w0 φ0 126 _ ⟨[(2,.ptr 0 0),(4,.ptr 1 0),(5,.ptr 3 0),(8,.int .i64 x2.1),(10,.ptr 5 0),(11,.ptr 7 0),(14,.ptr 5 0),(15,.ptr 7 0),(16,.int .i64 x2.2.1)],[.cells [.int .i64 x2.2.2.1,.fz Riii x2.2.2.2.1],.cells [.int .i64 x2.2.2.2.2.1,.rs 2],.rows Riii x2.2.2.2.2.2.1,.cells [.int .i64 x2.2.2.2.2.2.2.1,.rs 4],.rows Riii x2.2.2.2.2.2.2.2.1,.cells [.int .i64 x2.2.2.2.2.2.2.2.2.1,.rs 6],.rows Riii x2.2.2.2.2.2.2.2.2.2.1,.cells [.int .i64 x2.2.2.2.2.2.2.2.2.2.2.1,.rs 8],.rows Riii x2.2.2.2.2.2.2.2.2.2.2.2]⟩ _
     refine q9d (q9d ?_)
     refine q9i hm hT hC (q2hu (q2g1 d) x2) h ?_
     intro y16a h
     refine q8z ?_
     refine q9h (v:=y16a.2.2.1) (by kernel_rfl) h ?_ ?_
     ·
      intro h
      refine q99 (q8z (q9e (q9d ?_)))
      refine q9i hm hT hC (q2hy (q2g1 d) y16a) h ?_
      intro y17a h
      refine q8z ?_
      refine q9h (v:=y17a.2.2.1) (by kernel_rfl) h ?_ ?_
      ·
       intro h
       refine q9d ?_
       refine q9i hm hT hC (q2i2 (q2g1 d) y17a) h ?_
       intro y18a h
       refine q8z ?_
       refine q9i hm hT hC (q2i4 (q2g1 d) y18a) h ?_
       intro y19a h
       refine q92 ?_
       exact hn2 _ h
      ·
       intro h
       refine q9d ?_
       refine q9i hm hT hC (q2i8 (q2g1 d) y17a) h ?_
       intro y20a h
       refine q8z ?_
       refine q9i hm hT hC (q2ia (q2g1 d) y20a) h ?_
       intro y21a h
       refine q92 ?_
       exact hn2 _ h
     ·
      intro h
      refine q9b (q90 (q90 (q94 (q8z (q9d ?_)))))
      refine q9i hm hT hC (q2ie (q2g1 d) y16a) h ?_
      intro y22a h
      refine q8z (q9d ?_)
      refine q9i hm hT hC (q2ig (q2g1 d) y22a) h ?_
      intro y23a h
      refine q8z (q9c ?_)
      cases h
      exact (hend _ (by kernel_rfl)).2
    ·
     replace h:q2j4 d  (iter (q2kb d ) n2) x2=some r:=h
     generalize iter (q2kb d ) n2=self2 at h hn2
     unfold q2j4 at h
     show Run prog w0 φ0 126 _ ⟨[(2,.ptr 0 0),(4,.ptr 1 0),(5,.ptr 3 0),(8,.int .i64 x2.1),(10,.ptr 5 0),(11,.ptr 7 0),(14,.rp 6 x2.2.1 3 2),(15,.ptr 7 0),(16,.int .i64 x2.2.2.1)],[.cells [.int .i64 x2.2.2.2.1,.fz Riii x2.2.2.2.2.1],.cells [.int .i64 x2.2.2.2.2.2.1,.rs 2],.rows Riii x2.2.2.2.2.2.2.1,.cells [.int .i64 x2.2.2.2.2.2.2.2.1,.rs 4],.rows Riii x2.2.2.2.2.2.2.2.2.1,.cells [.int .i64 x2.2.2.2.2.2.2.2.2.2.1,.rs 6],.rows Riii x2.2.2.2.2.2.2.2.2.2.2.1,.cells [.int .i64 x2.2.2.2.2.2.2.2.2.2.2.2.1,.rs 8],.rows Riii x2.2.2.2.2.2.2.2.2.2.2.2.2]⟩ _
     refine q9d (q9d ?_)
     refine q9i hm hT hC (q2il (q2g1 d) x2) h ?_
     intro y16b h
     refine q8z ?_
     refine q9h (v:=y16b.2.2.2.1) (by kernel_rfl) h ?_ ?_
     ·
      intro h
      refine q99 (q8z (q9e (q9d ?_)))
      refine q9i hm hT hC (q2ip (q2g1 d) y16b) h ?_
      intro y17b h
      refine q8z ?_
      refine q9h (v:=y17b.2.2.2.1) (by kernel_rfl) h ?_ ?_
      ·
       intro h
       refine q9d ?_
       refine q9i hm hT hC (q2ir (q2g1 d) y17b) h ?_
       intro y18b h
       refine q8z ?_
       refine q9i hm hT hC (q2it (q2g1 d) y18b) h ?_
       intro y19b h
       refine q92 ?_
       exact hn2 _ h
      ·
       intro h
       refine q9d ?_
       refine q9i hm hT hC (q2ix (q2g1 d) y17b) h ?_
       intro y20b h
       refine q8z ?_
       refine q9i hm hT hC (q2iz (q2g1 d) y20b) h ?_
       intro y21b h
       refine q92 ?_
       exact hn2 _ h
     ·
      intro h
      refine q9b (q90 (q90 (q94 (q8z (q9d ?_)))))
      refine q9i hm hT hC (q2j1 (q2g1 d) y16b) h ?_
      intro y22b h
      refine q8z (q9d ?_)
      refine q9i hm hT hC (q2j3 (q2g1 d) y22b) h ?_
      intro y23b h
      refine q8z (q9c ?_)
      cases h
      exact (hend _ (by kernel_rfl)).2
    ·
     replace h:q2jp d  (iter (q2kb d ) n2) x2=some r:=h
     generalize iter (q2kb d ) n2=self2 at h hn2
     unfold q2jp at h
     show Run prog w0 φ0 126 _ ⟨[(2,.ptr 0 0),(4,.ptr 1 0),(5,.ptr 3 0),(8,.int .i64 x2.1),(10,.ptr 5 0),(11,.ptr 7 0),(14,.ptr 5 0),(15,.rp 8 x2.2.1 3 1),(16,.int .i64 x2.2.2.1)],[.cells [.int .i64 x2.2.2.2.1,.fz Riii x2.2.2.2.2.1],.cells [.int .i64 x2.2.2.2.2.2.1,.rs 2],.rows Riii x2.2.2.2.2.2.2.1,.cells [.int .i64 x2.2.2.2.2.2.2.2.1,.rs 4],.rows Riii x2.2.2.2.2.2.2.2.2.1,.cells [.int .i64 x2.2.2.2.2.2.2.2.2.2.1,.rs 6],.rows Riii x2.2.2.2.2.2.2.2.2.2.2.1,.cells [.int .i64 x2.2.2.2.2.2.2.2.2.2.2.2.1,.rs 8],.rows Riii x2.2.2.2.2.2.2.2.2.2.2.2.2]⟩ _
     refine q9d (q9d ?_)
     refine q9i hm hT hC (q2j8 (q2g1 d) x2) h ?_
     intro y16c h
     refine q8z ?_
     refine q9h (v:=y16c.2.2.2.1) (by kernel_rfl) h ?_ ?_
     ·
      intro h
      refine q99 (q8z (q9e (q9d ?_)))
      refine q9i hm hT hC (q2jc (q2g1 d) y16c) h ?_
      intro y17c h
      refine q8z ?_
      refine q9h (v:=y17c.2.2.2.1) (by kernel_rfl) h ?_ ?_
      ·
       intro h
       refine q9d ?_
       refine q9i hm hT hC (q2je (q2g1 d) y17c) h ?_
       intro y18c h
       refine q8z ?_
       refine q9i hm hT hC (q2jg (q2g1 d) y18c) h ?_
       intro y19c h
       refine q92 ?_
       exact hn2 _ h
      ·
       intro h
       refine q9d ?_
       refine q9i hm hT hC (q2ji (q2g1 d) y17c) h ?_
       intro y20c h
       refine q8z ?_
       refine q9i hm hT hC (q2jk (q2g1 d) y20c) h ?_
       intro y21c h
       refine q92 ?_
       exact hn2 _ h
     ·
      intro h
      refine q9b (q90 (q90 (q94 (q8z (q9d ?_)))))
      refine q9i hm hT hC (q2jm (q2g1 d) y16c) h ?_
      intro y22c h
      refine q8z (q9d ?_)
      refine q9i hm hT hC (q2jo (q2g1 d) y22c) h ?_
      intro y23c h
      refine q8z (q9c ?_)
      cases h
      exact (hend _ (by kernel_rfl)).2
    ·
     replace h:q2ka d  (iter (q2kb d ) n2) x2=some r:=h
     generalize iter (q2kb d ) n2=self2 at h hn2
     unfold q2ka at h
     show Run prog w0 φ0 126 _ ⟨[(2,.ptr 0 0),(4,.ptr 1 0),(5,.ptr 3 0),(8,.int .i64 x2.1),(10,.ptr 5 0),(11,.ptr 7 0),(14,.rp 6 x2.2.1 3 2),(15,.rp 8 x2.2.2.1 3 1),(16,.int .i64 x2.2.2.2.1)],[.cells [.int .i64 x2.2.2.2.2.1,.fz Riii x2.2.2.2.2.2.1],.cells [.int .i64 x2.2.2.2.2.2.2.1,.rs 2],.rows Riii x2.2.2.2.2.2.2.2.1,.cells [.int .i64 x2.2.2.2.2.2.2.2.2.1,.rs 4],.rows Riii x2.2.2.2.2.2.2.2.2.2.1,.cells [.int .i64 x2.2.2.2.2.2.2.2.2.2.2.1,.rs 6],.rows Riii x2.2.2.2.2.2.2.2.2.2.2.2.1,.cells [.int .i64 x2.2.2.2.2.2.2.2.2.2.2.2.2.1,.rs 8],.rows Riii x2.2.2.2.2.2.2.2.2.2.2.2.2.2]⟩ _
     refine q9d (q9d ?_)
     refine q9i hm hT hC (q2jt (q2g1 d) x2) h ?_
     intro y16d h
     refine q8z ?_
     refine q9h (v:=y16d.2.2.2.2.1) (by kernel_rfl) h ?_ ?_
     ·
      intro h
      refine q99 (q8z (q9e (q9d ?_)))
      refine q9i hm hT hC (q2jx (q2g1 d) y16d) h ?_
      intro y17d h
      refine q8z ?_
      refine q9h (v:=y17d.2.2.2.2.1) (by kernel_rfl) h ?_ ?_
      ·
       intro h
       refine q9d ?_
       refine q9i hm hT hC (q2jz (q2g1 d) y17d) h ?_
       intro y18d h
       refine q8z ?_
       refine q9i hm hT hC (q2k1 (q2g1 d) y18d) h ?_
       intro y19d h
       refine q92 ?_
       exact hn2 _ h
      ·
       intro h
       refine q9d ?_
       refine q9i hm hT hC (q2k3 (q2g1 d) y17d) h ?_
       intro y20d h
       refine q8z ?_
       refine q9i hm hT hC (q2k5 (q2g1 d) y20d) h ?_
       intro y21d h
       refine q92 ?_
       exact hn2 _ h
     ·
      intro h
      refine q9b (q90 (q90 (q94 (q8z (q9d ?_)))))
      refine q9i hm hT hC (q2k7 (q2g1 d) y16d) h ?_
      intro y22d h
      refine q8z (q9d ?_)
      refine q9i hm hT hC (q2k9 (q2g1 d) y22d) h ?_
      intro y23d h
      refine q8z (q9c ?_)
      cases h
      exact (hend _ (by kernel_rfl)).2
end Go.Proofs.Ytoakhncbmpdacaa
