/- Walks of the references; the orders agree; examples. -/
import Derived.Test.YtpgpbhjkgciggaaRows
import Derived.ProofKit
import Derived.OpenShut
import Derived.ShutString
import Derived.ChangeOld
import Derived.Deep.Slices
import Derived.Test.YtpgpbhjkgciggaaGe
set_option linter.unusedSimpArgs false
set_option linter.unusedVariables false
namespace Go.Proofs.Ytpgpbhjkgciggaa
open Go Go.Tx Go.Proofs.Try
set_option maxRecDepth 100000
set_option maxHeartbeats 0
abbrev q1y0:List Pk:=[.row qka false,.row qka false]
abbrev q1y1:Type:=qkb×qkb×Unit
abbrev q1y2:Type:=Bool
def q1y3 (r:q1y2):LV×List Ob:=(.bool r,[])
def q1y4 (F:q1y1→Option q1y2):Go.Tx.Spec:=⟨10,q1y0,q1y2,F,q1y3⟩
abbrev q1y5:Type:=Unit
def q1y6 (_d:Nat):q1y5:=()
def q1y7 (C:q1y5):List Go.Tx.Spec:=[]
abbrev q1y8:Type:=List Diii×List Diii
def q1y9 (v:q1y8):St:=⟨[(0,.fz Riii v.1),(1,.fz Riii v.2)],[]⟩
def q1ya (C:q1y5) (v:q1y8):Dt q1y8:=(Dt.ret (v.1,v.2))
abbrev q2kn {V Y:Type}:=@rg q1y5 V Y tysT (fun C=>(orc (q1y7 C))) 26
theorem q1yb C v:q2kn (regO (qdv f10) 0) false [(0,(.val Riii)),(1,(.val Riii))] q1y9 q1ya q1y9 C v:=rgI (by kernel_rfl)
abbrev q1yc:Type:=List Diii×List Diii×Bool
def q1yd (v:q1yc):St:=⟨[(0,.fz Riii v.1),(1,.fz Riii v.2.1),(10,.bool v.2.2)],[]⟩
def q1ye (C:q1y5) (v:q1y8):Dt q1yc:=(Dt.ret (v.1,v.2,((List.length v.1:Int) != (List.length v.2:Int))))
theorem q1yf C v:q2kn (regO (qdv f10) 1) false [(0,(.val Riii)),(1,(.val Riii)),(10,.any)] q1y9 q1ye q1yd C v:=rgI (by kernel_rfl)
abbrev q1yg:Type:=Bool
def q1yh (v:q1yg):St:=⟨[(4,.bool v)],[]⟩
def q1yi (C:q1y5) (v:q1yc):Dt q1yg:=(Dt.ret false)
theorem q1yj C v:q2kn (regO (qdv f10) 2) false [(4,.any)] q1yd q1yi q1yh C v:=rgI (by kernel_rfl)
abbrev q1yk:Type:=List Diii×List Diii×Int
def q1yl (v:q1yk):St:=⟨[(0,.fz Riii v.1),(1,.fz Riii v.2.1),(5,i6 v.2.2)],[]⟩
def q1ym (C:q1y5) (v:q1yc):Dt q1yk:=(Dt.ret (v.1,v.2.1,(0:Int)))
theorem q1yn C v:q2kn (regO (qdv f10) 3) false [(0,(.val Riii)),(1,(.val Riii)),(5,.any)] q1yd q1ym q1yl C v:=rgI (by kernel_rfl)
abbrev q1yo:Type:=List Diii×List Diii×Int×Bool
def q1yp (v:q1yo):St:=⟨[(0,.fz Riii v.1),(1,.fz Riii v.2.1),(5,i6 v.2.2.1),(14,.bool v.2.2.2)],[]⟩
def q1yq (C:q1y5) (v:q1yk):Dt q1yo:=(Dt.ret (v.1,v.2.1,v.2.2,(decide (v.2.2<(List.length v.1:Int)))))
theorem q1yr C v:q2kn (regO (qdv f10) 4) false [(0,(.val Riii)),(1,(.val Riii)),(5,.any),(14,.any)] q1yl q1yq q1yp C v:=rgI (by kernel_rfl)
abbrev q1ys:Type:=List Diii×List Diii×Int×Bool
def q1yt (v:q1ys):St:=⟨[(0,.fz Riii v.1),(1,.fz Riii v.2.1),(5,i6 v.2.2.1),(25,.bool v.2.2.2)],[]⟩
def q1yu (C:q1y5) (v:q1yo):Dt q1ys:=(Dt.ite (inB v.2.2.1 (List.length v.1)) (Dt.ite (inB v.2.2.1 (List.length v.2.1)) (Dt.ret (v.1,v.2.1,v.2.2.1,(!(((elt ziii v.1 (v.2.2.1).toNat).1 == (elt ziii v.2.1 (v.2.2.1).toNat).1)&&(((elt ziii v.1 (v.2.2.1).toNat).2.1 == (elt ziii v.2.1 (v.2.2.1).toNat).2.1)&&(((elt ziii v.1 (v.2.2.1).toNat).2.2.1 == (elt ziii v.2.1 (v.2.2.1).toNat).2.2.1)&&true)))))) Dt.fail) Dt.fail)
theorem q1yv C v:q2kn (regO (qdv f10) 6) true [(0,(.val Riii)),(1,(.val Riii)),(5,.any),(25,.any)] q1yp q1yu q1yt C v:=rgI (by kernel_rfl)
def q1yw (C:q1y5) (v:q1ys):Dt q1yg:=(Dt.ret false)
theorem q1yx C v:q2kn (regO (qdv f10) 7) false [(4,.any)] q1yt q1yw q1yh C v:=rgI (by kernel_rfl)
def q1yy (C:q1y5) (v:q1ys):Dt q1yk:=(Dt.ret (v.1,v.2.1,(IntKind.wrap .i64 (v.2.2.1+(1:Int)))))
theorem q1yz C v:q2kn (regO (qdv f10) 5) false [(0,(.val Riii)),(1,(.val Riii)),(5,.any)] q1yt q1yy q1yl C v:=rgI (by kernel_rfl)
def q1z0 (C:q1y5) (v:q1yo):Dt q1yg:=(Dt.ret true)
theorem q1z1 C v:q2kn (regO (qdv f10) 8) false [(4,.any)] q1yp q1z0 q1yh C v:=rgI (by kernel_rfl)
def q1z2 (d:Nat) (self1:(List Diii×List Diii×Int)→Option q1y2) (x1:List Diii×List Diii×Int):Option q1y2 :=
 (q1yq (q1y6 d) x1).eval fun y4 =>
 bif y4.2.2.2 then ((q1yu (q1y6 d) y4).eval fun y6 =>
 bif y6.2.2.2 then ((q1yw (q1y6 d) y6).eval fun y7 =>
 some y7) else ((q1yy (q1y6 d) y6).eval fun y5 =>
 self1 y5)) else ((q1z0 (q1y6 d) y4).eval fun y8 =>
 some y8)
def q1z3 (d:Nat) (x:q1y1):Option q1y2 :=
 (q1ya (q1y6 d) (x.1.1,x.2.1.1)).eval fun y0 =>
 (q1ye (q1y6 d) y0).eval fun y1 =>
 bif y1.2.2 then ((q1yi (q1y6 d) y1).eval fun y2 =>
 some y2) else ((q1ym (q1y6 d) y1).eval fun y3 =>
 iter (q1z2 d ) d y3)
theorem q1z4 (d:Nat):COK prog (q1y4 (q1z3 d)):=by
 have hm:prog.follows .mixedOrders=true:=mixed
 have hT:=tys
 have hC0:OrcOK prog (orc (q1y7 (q1y6 d))):=qdp (by
  intro S hS
  simp only [q1y7,List.mem_cons,List.not_mem_nil,or_false] at hS
  all_goals first | cases hS | exact hS.elim)
 have hC:OrcOK prog (orc (q1y7 (q1y6 d))):=hC0
 refine q9e (c:=qdv f10) (fn:=f10) hT (by kernel_rfl) (by kernel_rfl) (by decide) fun x r h w0 φ0 Q hend=>?_
 replace h:q1z3 d x=some r:=h
 unfold q1z3 at h
 show Run prog w0 φ0 26 (qdv f10) ⟨[(0,.fz Riii x.1.1),(1,.fz Riii x.2.1.1)],[]⟩ Q
 refine q2jr hm hT hC (q1yb (q1y6 d) (x.1.1,x.2.1.1)) h fun y0 h=>?_
 refine q8x ?_
 refine q2jr hm hT hC (q1yf (q1y6 d) y0) h fun y1 h=>?_
 refine q91 (v:=y1.2.2) (by kernel_rfl) h ?_ ?_
 ·
  intro h
  refine q2jr hm hT hC (q1yj (q1y6 d) y1) h fun y2 h=>?_
  refine q8w (q8l ?_)
  cases h
  exact (hend _ (by kernel_rfl)).2
 ·
  intro h
  refine q8t (q8j (q8x ?_))
  refine q2jr hm hT hC (q1yn (q1y6 d) y1) h fun y3 h=>?_
  refine q8y ?_
  refine q93 (G:=iter (q1z2 d )) (S:=(fun x1=>⟨[(0,.fz Riii x1.1),(1,.fz Riii x1.2.1),(5,i6 x1.2.2)],[]⟩:List Diii×List Diii×Int→St)) (fun _=>rfl) ?_ d _ h
  intro n1 x1 h K1 hn1
  replace h:q1z2 d  (iter (q1z2 d ) n1) x1=some r:=h
  generalize iter (q1z2 d ) n1=self1 at h hn1
  unfold q1z2 at h
  refine q8x ?_
  refine q2jr hm hT hC (q1yr (q1y6 d) x1) h fun y4 h=>?_
  refine q91 (v:=y4.2.2.2) (by kernel_rfl) h ?_ ?_
  ·
   intro h
   refine q8t (q8j (q8x (q8y ?_)))
   refine q2jr hm hT hC (q1yv (q1y6 d) y4) h fun y6 h=>?_
   refine q91 (v:=y6.2.2.2) (by kernel_rfl) h ?_ ?_
   ·
    intro h
    refine q2jr hm hT hC (q1yx (q1y6 d) y6) h fun y7 h=>?_
    refine q8w (q8n (q8l (q8l (q8n (q8l ?_)))))
    cases h
    exact (hend _ (by kernel_rfl)).2
   ·
    intro h
    refine q8t (q8m (q8j ?_))
    refine q92 hm hT hC (q1yz (q1y6 d) y6) h ?_
    intro y5 h
    exact hn1 _ h
  ·
   intro h
   refine q8v (q8k (q8k (q8o (q8j ?_))))
   refine q2jr hm hT hC (q1z1 (q1y6 d) y4) h fun y8 h=>?_
   refine q8w ?_
   cases h
   exact (hend _ (by kernel_rfl)).2
end Go.Proofs.Ytpgpbhjkgciggaa

namespace Go.Proofs.Ytpgpbhjkgciggaa
open Go Go.Tx Go.Proofs.Try
set_option maxRecDepth 100000
set_option maxHeartbeats 0
abbrev q28q:List Pk:=[.row qka true,.row Rii true]
abbrev q28r:Type:=qkb×Dii×Unit
abbrev q28s:Type:=Bool
def q28t (r:q28s):LV×List Ob:=(.bool r,[])
def q28u (F:q28r→Option q28s):Go.Tx.Spec:=⟨11,q28q,q28s,F,q28t⟩
abbrev q28v:Type:=(qpy→Option qpz)×(qu3→Option qu4)×Unit
def q28w (d:Nat):q28v:=(qq3 d,qu8 d,())
def q28x (C:q28v):List Go.Tx.Spec:=[qq1 C.1,qu6 C.2.1]
abbrev q28y:Type:=List Diii×Int×Int
def q28z (v:q28y):St:=⟨[(0,.agg [.fz Riii v.1]),(1,.agg [i6 v.2.1,i6 v.2.2])],[]⟩
abbrev q290:Type:=List Diii×Int×Int
def q291 (v:q290):St:=⟨[(2,.ptr 0 0),(3,.ptr 1 0)],[.cells [.fz Riii v.1],.cells [i6 v.2.1,i6 v.2.2]]⟩
def q292 (C:q28v) (v:q28y):Dt q290:=(Dt.ret (v.1,v.2.1,v.2.2))
abbrev q2kx {V Y:Type}:=@rg q28v V Y tysT (fun C=>(orc (q28x C))) 20
theorem q293 C v:q2kx (regO (qdv f11) 0) false [(2,(.box [.val Riii])),(3,.any)] q28z q292 q291 C v:=rgI (by kernel_rfl)
abbrev q294:Type:=Bool
def q295 (v:q294):St:=⟨[(4,.bool v)],[]⟩
def q296 (C:q28v) (v:q290):Dt q294:=(Dt.ite (decide ((List.length v.1:Int) > (0:Int))) (Dt.bnd (C.1 ((v.1,()),())) fun r1=>(Dt.ite (!r1) (Dt.bnd (C.2.1 ((v.1,()),(v.2.1,v.2.2,()),())) fun r2=>(Dt.ret (r2 == (0:Int)))) (Dt.ret false))) (Dt.ret false))
theorem q297 C v:q2kx (regO (qdv f11) 1) false [(4,.any)] q291 q296 q295 C v:=rgI (by kernel_rfl)
def q298 (d:Nat) (x:q28r):Option q28s :=
 (q292 (q28w d) (x.1.1,x.2.1.1,x.2.1.2.1)).eval fun y0 =>
 (q296 (q28w d) y0).eval fun y1 =>
 some y1
theorem q299 (d:Nat):COK prog (q28u (q298 d)):=by
 have hm:prog.follows .mixedOrders=true:=mixed
 have hT:=tys
 have hC0:OrcOK prog (orc (q28x (q28w d))):=qdp (by
  intro S hS
  simp only [q28x,List.mem_cons,List.not_mem_nil,or_false] at hS
  rcases hS with rfl | rfl
  · exact qq5 d
  · exact qua d)
 have hC:OrcOK prog (orc (q28x (q28w d))):=hC0
 refine q9e (c:=qdv f11) (fn:=f11) hT (by kernel_rfl) (by kernel_rfl) (by decide) fun x r h w0 φ0 Q hend=>?_
 replace h:q298 d x=some r:=h
 unfold q298 at h
 show Run prog w0 φ0 20 (qdv f11) ⟨[(0,.agg [.fz Riii x.1.1]),(1,.agg [.int .i64 x.2.1.1,.int .i64 x.2.1.2.1])],[]⟩ Q
 refine q2jr hm hT hC (q293 (q28w d) (x.1.1,x.2.1.1,x.2.1.2.1)) h fun y0 h=>?_
 refine q2jr hm hT hC (q297 (q28w d) y0) h fun y1 h=>?_
 refine q8w ?_
 cases h
 exact (hend _ (by kernel_rfl)).2
abbrev q29a:List Pk:=[]
abbrev q29b:Type:=Unit
abbrev q29c:Type:=List Diii
def q29d (r:q29c):LV×List Ob:=(.agg [.rs 0],[.rows Riii r])
def q29e (F:q29b→Option q29c):Go.Tx.Spec:=⟨17,q29a,q29c,F,q29d⟩
abbrev q29f:Type:=Unit
def q29g (_d:Nat):q29f:=()
def q29h (C:q29f):List Go.Tx.Spec:=[]
abbrev q29i:Type:=Unit
def q29j (v:q29i):St:=⟨[],[]⟩
abbrev q29k:Type:=List Diii
def q29l (v:q29k):St:=⟨[(0,.ptr 0 0)],[.cells [.rs 1],.rows Riii v]⟩
def q29m (C:q29f) (v:q29i):Dt q29k:=(Dt.ret ([]:List Diii))
abbrev q2ky {V Y:Type}:=@rg q29f V Y tysT (fun C=>(orc (q29h C))) 6
theorem q29n C v:q2ky (regO (qdv f17) 0) false [(0,(.box [.own Riii]))] q29j q29m q29l C v:=rgI (by kernel_rfl)
def q29o (C:q29f) (v:q29k):Dt q29k:=(Dt.ret ([((1:Int),(0:Int),(2:Int),()),((2:Int),(6:Int),(-1:Int),()),((5:Int),(0:Int),(0:Int),())]:List Diii))
theorem q29p C v:q2ky (regO (qdv f17) 1) false [(0,(.box [.own Riii]))] q29l q29o q29l C v:=rgI (by kernel_rfl)
def q29q (d:Nat) (x:q29b):Option q29c :=
 (q29m (q29g d) ()).eval fun y0 =>
 (q29o (q29g d) y0).eval fun y1 =>
 some y1
theorem q29r (d:Nat):COK prog (q29e (q29q d)):=by
 have hm:prog.follows .mixedOrders=true:=mixed
 have hT:=tys
 have hC0:OrcOK prog (orc (q29h (q29g d))):=qdp (by
  intro S hS
  simp only [q29h,List.mem_cons,List.not_mem_nil,or_false] at hS
  all_goals first | cases hS | exact hS.elim)
 have hC:OrcOK prog (orc (q29h (q29g d))):=hC0
 refine q9e (c:=qdv f17) (fn:=f17) hT (by kernel_rfl) (by kernel_rfl) (by decide) fun x r h w0 φ0 Q hend=>?_
 replace h:q29q d x=some r:=h
 unfold q29q at h
 show Run prog w0 φ0 6 (qdv f17) ⟨[],[]⟩ Q
 refine q2jr hm hT hC (q29n (q29g d) ()) h fun y0 h=>?_
 refine q2jr hm hT hC (q29p (q29g d) y0) h fun y1 h=>?_
 refine q8w ?_
 cases h
 exact (hend _ (by kernel_rfl)).2
abbrev q29s:List Pk:=[.row Ri false]
abbrev q29t:Type:=Di×Unit
abbrev q29u:Type:=Int×Int
def q29v (r:q29u):LV×List Ob:=(.agg [.int .i64 r.1,.int .i64 r.2],[])
def q29w (F:q29t→Option q29u):Go.Tx.Spec:=⟨16,q29s,q29u,F,q29v⟩
abbrev q29x:Type:=Unit
def q29y (_d:Nat):q29x:=()
def q29z (C:q29x):List Go.Tx.Spec:=[]
abbrev q2a0:Type:=Int
def q2a1 (v:q2a0):St:=⟨[(0,i6 v)],[]⟩
abbrev q2a2:Type:=Int×Int×Int
def q2a3 (v:q2a2):St:=⟨[(0,i6 v.1),(2,.ptr 0 0)],[.cells [i6 v.2.1,i6 v.2.2]]⟩
def q2a4 (C:q29x) (v:q2a0):Dt q2a2:=(Dt.ret (v,(0:Int),(0:Int)))
abbrev q2kz {V Y:Type}:=@rg q29x V Y tysT (fun C=>(orc (q29z C))) 5
theorem q2a5 C v:q2kz (regO (qdv f16) 0) false (an [0,2]) q2a1 q2a4 q2a3 C v:=rgI (by kernel_rfl)
abbrev q2a6:Type:=Int×Int
def q2a7 (v:q2a6):St:=⟨[(2,.ptr 0 0)],[.cells [i6 v.1,i6 v.2]]⟩
def q2a8 (C:q29x) (v:q2a2):Dt q2a6:=(Dt.ret (v.1,(1:Int)))
theorem q2a9 C v:q2kz (regO (qdv f16) 1) false [(2,.any)] q2a3 q2a8 q2a7 C v:=rgI (by kernel_rfl)
def q2aa (d:Nat) (x:q29t):Option q29u :=
 (q2a4 (q29y d) x.1.1).eval fun y0 =>
 (q2a8 (q29y d) y0).eval fun y1 =>
 some y1
theorem q2ab (d:Nat):COK prog (q29w (q2aa d)):=by
 have hm:prog.follows .mixedOrders=true:=mixed
 have hT:=tys
 have hC0:OrcOK prog (orc (q29z (q29y d))):=qdp (by
  intro S hS
  simp only [q29z,List.mem_cons,List.not_mem_nil,or_false] at hS
  all_goals first | cases hS | exact hS.elim)
 have hC:OrcOK prog (orc (q29z (q29y d))):=hC0
 refine q9e (c:=qdv f16) (fn:=f16) hT (by kernel_rfl) (by kernel_rfl) (by decide) fun x r h w0 φ0 Q hend=>?_
 replace h:q2aa d x=some r:=h
 unfold q2aa at h
 show Run prog w0 φ0 5 (qdv f16) ⟨[(0,.int .i64 x.1.1)],[]⟩ Q
 refine q2jr hm hT hC (q2a5 (q29y d) x.1.1) h fun y0 h=>?_
 refine q2jr hm hT hC (q2a9 (q29y d) y0) h fun y1 h=>?_
 refine q8w ?_
 cases h
 exact (hend _ (by kernel_rfl)).2
abbrev q2ac:List Pk:=[]
abbrev q2ad:Type:=Unit
abbrev q2ae:Type:=Bool
def q2af (r:q2ae):LV×List Ob:=(.bool r,[])
def q2ag (F:q2ad→Option q2ae):Go.Tx.Spec:=⟨12,q2ac,q2ae,F,q2af⟩
abbrev q2ah:Type:=(q1y1→Option q1y2)×(q16x→Option q16y)×(q29t→Option q29u)×(q29b→Option q29c)×(q1eb→Option q1ec)×Unit
def q2ai (d:Nat):q2ah:=(q1z3 d,q1a3 d,q2aa d,q29q d,q1fc d,())
def q2aj (C:q2ah):List Go.Tx.Spec:=[q1y4 C.1,q170 C.2.1,q29w C.2.2.1,q29e C.2.2.2.1,q1ee C.2.2.2.2.1]
abbrev q2ak:Type:=Unit
def q2al (v:q2ak):St:=⟨[],[]⟩
def q2am (C:q2ah) (v:q2ak):Dt q2ak:=(Dt.ret ())
abbrev q2l0 {V Y:Type}:=@rg q2ah V Y tysT (fun C=>(orc (q2aj C))) 95
theorem q2an C v:q2l0 (regO (qdv f12) 0) false [] q2al q2am q2al C v:=rgI (by kernel_rfl)
abbrev q2ao:Type:=Int×List Diii
def q2ap (v:q2ao):St:=⟨[(1,.rs 0),(2,i6 v.1)],[.rows Riii v.2]⟩
def q2aq (C:q2ah) (v:q2ak):Dt q2ao:=(Dt.bnd (C.2.2.2.1 (())) fun r1=>(Dt.bnd (C.2.2.1 (((-1:Int),()),())) fun r2=>(Dt.bnd (C.2.1 ((r1,()),(r2.1,r2.2,()),())) fun r3=>(Dt.ret (r3.2,r3.1)))))
theorem q2ar C v:q2l0 (regO (qdv f12) 1) false [(1,(.own Riii)),(2,.any)] q2al q2aq q2ap C v:=rgI (by kernel_rfl)
abbrev q2as:Type:=Int×Int×List Diii×List Diii
def q2at (v:q2as):St:=⟨[(1,.rs 0),(2,i6 v.1),(3,.rs 1),(4,i6 v.2.1)],[.rows Riii v.2.2.1,.rows Riii v.2.2.2]⟩
def q2au (C:q2ah) (v:q2ao):Dt q2as:=(Dt.bnd (C.2.2.2.1 (())) fun r1=>(Dt.bnd (C.2.2.1 (((3:Int),()),())) fun r2=>(Dt.bnd (C.2.1 ((r1,()),(r2.1,r2.2,()),())) fun r3=>(Dt.ret (v.1,r3.2,v.2,r3.1)))))
theorem q2av C v:q2l0 (regO (qdv f12) 2) false [(1,(.own Riii)),(2,.any),(3,(.own Riii)),(4,.any)] q2ap q2au q2at C v:=rgI (by kernel_rfl)
abbrev q2aw:Type:=Int×Int×Int×Int×List Diii×List Diii
def q2ax (v:q2aw):St:=⟨[(1,.rs 0),(2,i6 v.1),(3,.rs 1),(4,i6 v.2.1),(5,i6 v.2.2.1),(6,i6 v.2.2.2.1)],[.rows Riii v.2.2.2.2.1,.rows Riii v.2.2.2.2.2]⟩
def q2ay (C:q2ah) (v:q2as):Dt q2aw:=(Dt.bnd (C.2.2.1 (((2:Int),()),())) fun r1=>(Dt.bnd (C.2.2.2.2.1 ((v.2.2.1,()),(r1.1,r1.2,()),())) fun r2=>(Dt.ret (v.1,v.2.1,r2.1,r2.2,v.2.2.1,v.2.2.2))))
theorem q2az C v:q2l0 (regO (qdv f12) 3) false [(1,(.own Riii)),(2,.any),(3,(.own Riii)),(4,.any),(5,.any),(6,.any)] q2at q2ay q2ax C v:=rgI (by kernel_rfl)
abbrev q2b0:Type:=Int×Int×Int×Int×Int×Int×List Diii×List Diii
def q2b1 (v:q2b0):St:=⟨[(1,.rs 0),(2,i6 v.1),(3,.rs 1),(4,i6 v.2.1),(5,i6 v.2.2.1),(6,i6 v.2.2.2.1),(7,i6 v.2.2.2.2.1),(8,i6 v.2.2.2.2.2.1)],[.rows Riii v.2.2.2.2.2.2.1,.rows Riii v.2.2.2.2.2.2.2]⟩
def q2b2 (C:q2ah) (v:q2aw):Dt q2b0:=(Dt.bnd (C.2.2.1 (((1:Int),()),())) fun r1=>(Dt.bnd (C.2.2.2.2.1 ((v.2.2.2.2.1,()),(r1.1,r1.2,()),())) fun r2=>(Dt.ret (v.1,v.2.1,v.2.2.1,v.2.2.2.1,r2.1,r2.2,v.2.2.2.2.1,v.2.2.2.2.2))))
theorem q2b3 C v:q2l0 (regO (qdv f12) 4) false [(1,(.own Riii)),(2,.any),(3,(.own Riii)),(4,.any),(5,.any),(6,.any),(7,.any),(8,.any)] q2ax q2b2 q2b1 C v:=rgI (by kernel_rfl)
abbrev q2b4:Type:=Int×Int×Int×Int×Int×Int×Int×List Diii×List Diii×List Diii
def q2b5 (v:q2b4):St:=⟨[(1,.rs 0),(2,i6 v.1),(3,.rs 1),(4,i6 v.2.1),(5,i6 v.2.2.1),(6,i6 v.2.2.2.1),(7,i6 v.2.2.2.2.1),(8,i6 v.2.2.2.2.2.1),(9,.rs 2),(10,i6 v.2.2.2.2.2.2.1)],[.rows Riii v.2.2.2.2.2.2.2.1,.rows Riii v.2.2.2.2.2.2.2.2.1,.rows Riii v.2.2.2.2.2.2.2.2.2]⟩
def q2b6 (C:q2ah) (v:q2b0):Dt q2b4:=(Dt.bnd (C.2.2.2.1 (())) fun r1=>(Dt.ite (decide (0≤(1:Int))&&decide ((1:Int)≤(List.length r1:Int))) (Dt.bnd (C.2.2.1 (((-1:Int),()),())) fun r2=>(Dt.bnd (C.2.1 (((List.drop ((1:Int)).toNat r1),()),(r2.1,r2.2,()),())) fun r3=>(Dt.ret (v.1,v.2.1,v.2.2.1,v.2.2.2.1,v.2.2.2.2.1,v.2.2.2.2.2.1,r3.2,v.2.2.2.2.2.2.1,v.2.2.2.2.2.2.2,r3.1)))) Dt.fail))
theorem q2b7 C v:q2l0 (regO (qdv f12) 5) true [(1,(.own Riii)),(2,.any),(3,(.own Riii)),(4,.any),(5,.any),(6,.any),(7,.any),(8,.any),(9,(.own Riii)),(10,.any)] q2b1 q2b6 q2b5 C v:=rgI (by kernel_rfl)
abbrev q2b8:Type:=Bool
def q2b9 (v:q2b8):St:=⟨[(0,.bool v)],[]⟩
def q2ba (C:q2ah) (v:q2b4):Dt q2b8:=(Dt.ite (v.1 == (0:Int)) (Dt.bnd (C.2.2.1 (((-1:Int),()),())) fun r1=>(Dt.bnd (C.2.2.1 (((2:Int),()),())) fun r2=>(Dt.bnd (C.1 ((v.2.2.2.2.2.2.2.1,()),(([(r1.1,r1.2,(2:Int),()),(r2.1,r2.2,(1:Int),())]:List Diii),()),())) fun r3=>(Dt.ite r3 (Dt.ite (v.2.1 == (0:Int)) (Dt.bnd (C.2.2.1 (((3:Int),()),())) fun r4=>(Dt.bnd (C.1 ((v.2.2.2.2.2.2.2.2.1,()),(([(r4.1,r4.2,(1:Int),())]:List Diii),()),())) fun r5=>(Dt.ite r5 (Dt.ite (v.2.2.2.1 == (0:Int)) (Dt.ite (v.2.2.1 == (1:Int)) (Dt.ite (v.2.2.2.2.2.1 == (0:Int)) (Dt.ite (v.2.2.2.2.1 == (2:Int)) (Dt.ite (v.2.2.2.2.2.2.1 == (0:Int)) (Dt.bnd (C.2.2.1 (((-1:Int),()),())) fun r6=>(Dt.bnd (C.2.2.1 (((6:Int),()),())) fun r7=>(Dt.bnd (C.1 ((v.2.2.2.2.2.2.2.2.2,()),(([(r6.1,r6.2,(2:Int),()),(r7.1,r7.2,(5:Int),())]:List Diii),()),())) fun r8=>(Dt.ret r8)))) (Dt.ret false)) (Dt.ret false)) (Dt.ret false)) (Dt.ret false)) (Dt.ret false)) (Dt.ret false)))) (Dt.ret false)) (Dt.ret false))))) (Dt.ret false))
theorem q2bb C v:q2l0 (regO (qdv f12) 6) false [(0,.any)] q2b5 q2ba q2b9 C v:=rgI (by kernel_rfl)
def q2bc (d:Nat) (x:q2ad):Option q2ae :=
 (q2am (q2ai d) ()).eval fun y0 =>
 (q2aq (q2ai d) ()).eval fun y1 =>
 (q2au (q2ai d) y1).eval fun y2 =>
 (q2ay (q2ai d) y2).eval fun y3 =>
 (q2b2 (q2ai d) y3).eval fun y4 =>
 (q2b6 (q2ai d) y4).eval fun y5 =>
 (q2ba (q2ai d) y5).eval fun y6 =>
 some y6
theorem q2bd (d:Nat):COK prog (q2ag (q2bc d)):=by
 have hm:prog.follows .mixedOrders=true:=mixed
 have hT:=tys
 have hC0:OrcOK prog (orc (q2aj (q2ai d))):=qdp (by
  intro S hS
  simp only [q2aj,List.mem_cons,List.not_mem_nil,or_false] at hS
  rcases hS with rfl | rfl | rfl | rfl | rfl
  · exact q1z4 d
  · exact q1a4 d
  · exact q2ab d
  · exact q29r d
  · exact q1fd d)
 have hC:OrcOK prog (orc (q2aj (q2ai d))):=hC0
 refine q9e (c:=qdv f12) (fn:=f12) hT (by kernel_rfl) (by kernel_rfl) (by decide) fun x r h w0 φ0 Q hend=>?_
 replace h:q2bc d x=some r:=h
 unfold q2bc at h
 show Run prog w0 φ0 95 (qdv f12) ⟨[],[]⟩ Q
 refine q2jr hm hT hC (q2an (q2ai d) ()) h fun y0 h=>?_
 refine q2jr hm hT hC (q2ar (q2ai d) ()) h fun y1 h=>?_
 refine q2jr hm hT hC (q2av (q2ai d) y1) h fun y2 h=>?_
 refine q2jr hm hT hC (q2az (q2ai d) y2) h fun y3 h=>?_
 refine q2jr hm hT hC (q2b3 (q2ai d) y3) h fun y4 h=>?_
 refine q2jr hm hT hC (q2b7 (q2ai d) y4) h fun y5 h=>?_
 refine q2jr hm hT hC (q2bb (q2ai d) y5) h fun y6 h=>?_
 refine q8w ?_
 cases h
 exact (hend _ (by kernel_rfl)).2
abbrev q2be:List Pk:=[.row RLiE false,.row Ri false]
abbrev q2bf:Type:=DLiE×Di×Unit
abbrev q2bg:Type:=Bool
def q2bh (r:q2bg):LV×List Ob:=(.bool r,[])
def q2bi (F:q2bf→Option q2bg):Go.Tx.Spec:=⟨13,q2be,q2bg,F,q2bh⟩
abbrev q2bj:Type:=Unit
def q2bk (_d:Nat):q2bj:=()
def q2bl (C:q2bj):List Go.Tx.Spec:=[]
abbrev q2bm:Type:=List Di×Int
def q2bn (v:q2bm):St:=⟨[(0,.fz Ri v.1),(1,i6 v.2)],[]⟩
def q2bo (C:q2bj) (v:q2bm):Dt q2bm:=(Dt.ret (v.1,v.2))
abbrev q2l1 {V Y:Type}:=@rg q2bj V Y tysT (fun C=>(orc (q2bl C))) 18
theorem q2bp C v:q2l1 (regO (qdv f13) 0) false [(0,(.val Ri)),(1,.any)] q2bn q2bo q2bn C v:=rgI (by kernel_rfl)
abbrev q2bq:Type:=List Di×Int×Int
def q2br (v:q2bq):St:=⟨[(0,.fz Ri v.1),(1,i6 v.2.1),(5,i6 v.2.2)],[]⟩
def q2bs (C:q2bj) (v:q2bm):Dt q2bq:=(Dt.ret (v.1,v.2,(0:Int)))
theorem q2bt C v:q2l1 (regO (qdv f13) 1) false [(0,(.val Ri)),(1,.any),(5,.any)] q2bn q2bs q2br C v:=rgI (by kernel_rfl)
abbrev q2bu:Type:=List Di×Int×Int×Bool
def q2bv (v:q2bu):St:=⟨[(0,.fz Ri v.1),(1,i6 v.2.1),(5,i6 v.2.2.1),(9,.bool v.2.2.2)],[]⟩
def q2bw (C:q2bj) (v:q2bq):Dt q2bu:=(Dt.ret (v.1,v.2.1,v.2.2,(decide (v.2.2<(List.length v.1:Int)))))
theorem q2bx C v:q2l1 (regO (qdv f13) 2) false [(0,(.val Ri)),(1,.any),(5,.any),(9,.any)] q2br q2bw q2bv C v:=rgI (by kernel_rfl)
abbrev q2by:Type:=List Di×Int×Int×Bool
def q2bz (v:q2by):St:=⟨[(0,.fz Ri v.1),(1,i6 v.2.1),(5,i6 v.2.2.1),(17,.bool v.2.2.2)],[]⟩
def q2c0 (C:q2bj) (v:q2bu):Dt q2by:=(Dt.ite (inB v.2.2.1 (List.length v.1)) (Dt.ret (v.1,v.2.1,v.2.2.1,((elt zi v.1 (v.2.2.1).toNat).1 == v.2.1))) Dt.fail)
theorem q2c1 C v:q2l1 (regO (qdv f13) 4) false [(0,(.val Ri)),(1,.any),(5,.any),(17,.any)] q2bv q2c0 q2bz C v:=rgI (by kernel_rfl)
abbrev q2c2:Type:=Bool
def q2c3 (v:q2c2):St:=⟨[(4,.bool v)],[]⟩
def q2c4 (C:q2bj) (v:q2by):Dt q2c2:=(Dt.ret true)
theorem q2c5 C v:q2l1 (regO (qdv f13) 5) false [(4,.any)] q2bz q2c4 q2c3 C v:=rgI (by kernel_rfl)
def q2c6 (C:q2bj) (v:q2by):Dt q2bq:=(Dt.ret (v.1,v.2.1,(IntKind.wrap .i64 (v.2.2.1+(1:Int)))))
theorem q2c7 C v:q2l1 (regO (qdv f13) 3) false [(0,(.val Ri)),(1,.any),(5,.any)] q2bz q2c6 q2br C v:=rgI (by kernel_rfl)
def q2c8 (C:q2bj) (v:q2bu):Dt q2c2:=(Dt.ret false)
theorem q2c9 C v:q2l1 (regO (qdv f13) 6) false [(4,.any)] q2bv q2c8 q2c3 C v:=rgI (by kernel_rfl)
def q2ca (d:Nat) (self1:(List Di×Int×Int)→Option q2bg) (x1:List Di×Int×Int):Option q2bg :=
 (q2bw (q2bk d) x1).eval fun y2 =>
 bif y2.2.2.2 then ((q2c0 (q2bk d) y2).eval fun y4 =>
 bif y4.2.2.2 then ((q2c4 (q2bk d) y4).eval fun y5 =>
 some y5) else ((q2c6 (q2bk d) y4).eval fun y3 =>
 self1 y3)) else ((q2c8 (q2bk d) y2).eval fun y6 =>
 some y6)
def q2cb (d:Nat) (x:q2bf):Option q2bg :=
 (q2bo (q2bk d) (x.1.1,x.2.1.1)).eval fun y0 =>
 (q2bs (q2bk d) y0).eval fun y1 =>
 iter (q2ca d ) d y1
theorem q2cc (d:Nat):COK prog (q2bi (q2cb d)):=by
 have hm:prog.follows .mixedOrders=true:=mixed
 have hT:=tys
 have hC0:OrcOK prog (orc (q2bl (q2bk d))):=qdp (by
  intro S hS
  simp only [q2bl,List.mem_cons,List.not_mem_nil,or_false] at hS
  all_goals first | cases hS | exact hS.elim)
 have hC:OrcOK prog (orc (q2bl (q2bk d))):=hC0
 refine q9e (c:=qdv f13) (fn:=f13) hT (by kernel_rfl) (by kernel_rfl) (by decide) fun x r h w0 φ0 Q hend=>?_
 replace h:q2cb d x=some r:=h
 unfold q2cb at h
 show Run prog w0 φ0 18 (qdv f13) ⟨[(0,.fz Ri x.1.1),(1,.int .i64 x.2.1.1)],[]⟩ Q
 refine q2jr hm hT hC (q2bp (q2bk d) (x.1.1,x.2.1.1)) h fun y0 h=>?_
 refine q8x ?_
 refine q2jr hm hT hC (q2bt (q2bk d) y0) h fun y1 h=>?_
 refine q8y ?_
 refine q93 (G:=iter (q2ca d )) (S:=(fun x1=>⟨[(0,.fz Ri x1.1),(1,i6 x1.2.1),(5,i6 x1.2.2)],[]⟩:List Di×Int×Int→St)) (fun _=>rfl) ?_ d _ h
 intro n1 x1 h K1 hn1
 replace h:q2ca d  (iter (q2ca d ) n1) x1=some r:=h
 generalize iter (q2ca d ) n1=self1 at h hn1
 unfold q2ca at h
 refine q8x ?_
 refine q2jr hm hT hC (q2bx (q2bk d) x1) h fun y2 h=>?_
 refine q91 (v:=y2.2.2.2) (by kernel_rfl) h ?_ ?_
 ·
  intro h
  refine q8t (q8j (q8x (q8y ?_)))
  refine q2jr hm hT hC (q2c1 (q2bk d) y2) h fun y4 h=>?_
  refine q91 (v:=y4.2.2.2) (by kernel_rfl) h ?_ ?_
  ·
   intro h
   refine q2jr hm hT hC (q2c5 (q2bk d) y4) h fun y5 h=>?_
   refine q8w (q8n (q8l (q8l (q8n (q8l ?_)))))
   cases h
   exact (hend _ (by kernel_rfl)).2
  ·
   intro h
   refine q8t (q8m (q8j ?_))
   refine q92 hm hT hC (q2c7 (q2bk d) y4) h ?_
   intro y3 h
   exact hn1 _ h
 ·
  intro h
  refine q8v (q8k (q8k (q8o (q8j ?_))))
  refine q2jr hm hT hC (q2c9 (q2bk d) y2) h fun y6 h=>?_
  refine q8w ?_
  cases h
  exact (hend _ (by kernel_rfl)).2
abbrev q2cd:List Pk:=[.row qka true,.row Rii true,.row RLiE false,.row RLiE false]
abbrev q2ce:Type:=qkb×Dii×DLiE×DLiE×Unit
abbrev q2cf:Type:=Bool
def q2cg (r:q2cf):LV×List Ob:=(.bool r,[])
def q2ch (F:q2ce→Option q2cf):Go.Tx.Spec:=⟨4,q2cd,q2cf,F,q2cg⟩
abbrev q2ci:Type:=(q1oo→Option q1op)×(q1y1→Option q1y2)×(q28r→Option q28s)×(q2ad→Option q2ae)×(q2bf→Option q2bg)×(q16x→Option q16y)×Unit
def q2cj (d:Nat):q2ci:=(q1td d,q1z3 d,q298 d,q2bc d,q2cb d,q1a3 d,())
def q2ck (C:q2ci):List Go.Tx.Spec:=[q1or C.1,q1y4 C.2.1,q28u C.2.2.1,q2ag C.2.2.2.1,q2bi C.2.2.2.2.1,q170 C.2.2.2.2.2.1]
abbrev q2cl:Type:=List Diii×Int×Int×List Di×List Di
def q2cm (v:q2cl):St:=⟨[(0,.agg [.fz Riii v.1]),(1,.agg [i6 v.2.1,i6 v.2.2.1]),(2,.fz Ri v.2.2.2.1),(3,.fz Ri v.2.2.2.2)],[]⟩
abbrev q2cn:Type:=List Di×List Di×List Diii×Int×Int
def q2co (v:q2cn):St:=⟨[(2,.fz Ri v.1),(3,.fz Ri v.2.1),(4,.ptr 0 0),(5,.ptr 1 0)],[.cells [.fz Riii v.2.2.1],.cells [i6 v.2.2.2.1,i6 v.2.2.2.2]]⟩
def q2cp (C:q2ci) (v:q2cl):Dt q2cn:=(Dt.ret (v.2.2.2.1,v.2.2.2.2,v.1,v.2.1,v.2.2.1))
abbrev q2l2 {V Y:Type}:=@rg q2ci V Y tysT (fun C=>(orc (q2ck C))) 155
theorem q2cq C v:q2l2 (regO (qdv f4) 0) false [(2,(.val Ri)),(3,(.val Ri)),(4,(.box [.val Riii])),(5,.any)] q2cm q2cp q2co C v:=rgI (by kernel_rfl)
abbrev q2cr:Type:=List Di×List Di×Bool×List Diii×Int×Int
def q2cs (v:q2cr):St:=⟨[(2,.fz Ri v.1),(3,.fz Ri v.2.1),(4,.ptr 0 0),(5,.ptr 1 0),(37,.bool v.2.2.1)],[.cells [.fz Riii v.2.2.2.1],.cells [i6 v.2.2.2.2.1,i6 v.2.2.2.2.2]]⟩
def q2ct (C:q2ci) (v:q2cn):Dt q2cr:=(Dt.bnd (C.2.2.1 ((v.2.2.1,()),(v.2.2.2.1,v.2.2.2.2,()),())) fun r1=>(Dt.ite (!r1) (Dt.ret (v.1,v.2.1,true,v.2.2.1,v.2.2.2.1,v.2.2.2.2)) (Dt.ite (decide ((List.length v.1:Int) > (16:Int))) (Dt.ret (v.1,v.2.1,true,v.2.2.1,v.2.2.2.1,v.2.2.2.2)) (Dt.ret (v.1,v.2.1,(decide ((List.length v.2.1:Int) > (16:Int))),v.2.2.1,v.2.2.2.1,v.2.2.2.2)))))
theorem q2cu C v:q2l2 (regO (qdv f4) 1) false [(2,(.val Ri)),(3,(.val Ri)),(4,(.box [.val Riii])),(5,.any),(37,.any)] q2co q2ct q2cs C v:=rgI (by kernel_rfl)
abbrev q2cv:Type:=Bool
def q2cw (v:q2cv):St:=⟨[(8,.bool v)],[]⟩
def q2cx (C:q2ci) (v:q2cr):Dt q2cv:=(Dt.bnd (C.2.2.2.1 (())) fun r1=>(Dt.ret r1))
theorem q2cy C v:q2l2 (regO (qdv f4) 2) false [(8,.any)] q2cs q2cx q2cw C v:=rgI (by kernel_rfl)
abbrev q2cz:Type:=List Di×List Di×List Diii×Int×Int×List Diii×List Diii
def q2d0 (v:q2cz):St:=⟨[(2,.fz Ri v.1),(3,.fz Ri v.2.1),(4,.ptr 0 0),(5,.ptr 1 0),(9,.ptr 2 0),(10,.ptr 4 0)],[.cells [.fz Riii v.2.2.1],.cells [i6 v.2.2.2.1,i6 v.2.2.2.2.1],.cells [.rs 3],.rows Riii v.2.2.2.2.2.1,.cells [.rs 5],.rows Riii v.2.2.2.2.2.2]⟩
def q2d1 (C:q2ci) (v:q2cr):Dt q2cz:=(Dt.ret (v.1,v.2.1,v.2.2.2.1,v.2.2.2.2.1,v.2.2.2.2.2,([]:List Diii),([]:List Diii)))
theorem q2d2 C v:q2l2 (regO (qdv f4) 3) false [(2,(.val Ri)),(3,(.val Ri)),(4,(.box [.val Riii])),(5,.any),(9,(.box [.own Riii])),(10,(.box [.own Riii]))] q2cs q2d1 q2d0 C v:=rgI (by kernel_rfl)
abbrev q2d3:Type:=List Di×List Di×Int×List Diii×Int×Int×List Diii×List Diii
def q2d4 (v:q2d3):St:=⟨[(2,.fz Ri v.1),(3,.fz Ri v.2.1),(4,.ptr 0 0),(5,.ptr 1 0),(9,.ptr 2 0),(10,.ptr 4 0),(11,i6 v.2.2.1)],[.cells [.fz Riii v.2.2.2.1],.cells [i6 v.2.2.2.2.1,i6 v.2.2.2.2.2.1],.cells [.rs 3],.rows Riii v.2.2.2.2.2.2.1,.cells [.rs 5],.rows Riii v.2.2.2.2.2.2.2]⟩
def q2d5 (C:q2ci) (v:q2cz):Dt q2d3:=(Dt.ret (v.1,v.2.1,(0:Int),v.2.2.1,v.2.2.2.1,v.2.2.2.2.1,v.2.2.2.2.2.1,v.2.2.2.2.2.2))
theorem q2d6 C v:q2l2 (regO (qdv f4) 4) false [(2,(.val Ri)),(3,(.val Ri)),(4,(.box [.val Riii])),(5,.any),(9,(.box [.own Riii])),(10,(.box [.own Riii])),(11,.any)] q2d0 q2d5 q2d4 C v:=rgI (by kernel_rfl)
abbrev q2d7:Type:=List Di×List Di×Int×Bool×List Diii×Int×Int×List Diii×List Diii
def q2d8 (v:q2d7):St:=⟨[(2,.fz Ri v.1),(3,.fz Ri v.2.1),(4,.ptr 0 0),(5,.ptr 1 0),(9,.ptr 2 0),(10,.ptr 4 0),(11,i6 v.2.2.1),(43,.bool v.2.2.2.1)],[.cells [.fz Riii v.2.2.2.2.1],.cells [i6 v.2.2.2.2.2.1,i6 v.2.2.2.2.2.2.1],.cells [.rs 3],.rows Riii v.2.2.2.2.2.2.2.1,.cells [.rs 5],.rows Riii v.2.2.2.2.2.2.2.2]⟩
def q2d9 (C:q2ci) (v:q2d3):Dt q2d7:=(Dt.ret (v.1,v.2.1,v.2.2.1,(decide (v.2.2.1<(List.length v.2.2.2.1:Int))),v.2.2.2.1,v.2.2.2.2.1,v.2.2.2.2.2.1,v.2.2.2.2.2.2.1,v.2.2.2.2.2.2.2))
theorem q2da C v:q2l2 (regO (qdv f4) 5) false [(2,(.val Ri)),(3,(.val Ri)),(4,(.box [.val Riii])),(5,.any),(9,(.box [.own Riii])),(10,(.box [.own Riii])),(11,.any),(43,.any)] q2d4 q2d9 q2d8 C v:=rgI (by kernel_rfl)
abbrev q2db:Type:=List Di×List Di×Int×Bool×Bool×List Diii×Int×Int×List Diii×List Diii
def q2dc (v:q2db):St:=⟨[(2,.fz Ri v.1),(3,.fz Ri v.2.1),(4,.ptr 0 0),(5,.ptr 1 0),(9,.ptr 2 0),(10,.ptr 4 0),(11,i6 v.2.2.1),(12,.bool v.2.2.2.1),(13,.bool v.2.2.2.2.1)],[.cells [.fz Riii v.2.2.2.2.2.1],.cells [i6 v.2.2.2.2.2.2.1,i6 v.2.2.2.2.2.2.2.1],.cells [.rs 3],.rows Riii v.2.2.2.2.2.2.2.2.1,.cells [.rs 5],.rows Riii v.2.2.2.2.2.2.2.2.2]⟩
def q2dd (C:q2ci) (v:q2d7):Dt q2db:=(Dt.bnd (C.2.2.2.2.1 ((v.1,()),(v.2.2.1,()),())) fun r1=>(Dt.bnd (C.2.2.2.2.1 ((v.2.1,()),(v.2.2.1,()),())) fun r2=>(Dt.ret (v.1,v.2.1,v.2.2.1,r1,r2,v.2.2.2.2.1,v.2.2.2.2.2.1,v.2.2.2.2.2.2.1,v.2.2.2.2.2.2.2.1,v.2.2.2.2.2.2.2.2))))
theorem q2de C v:q2l2 (regO (qdv f4) 7) false [(2,(.val Ri)),(3,(.val Ri)),(4,(.box [.val Riii])),(5,.any),(9,(.box [.own Riii])),(10,(.box [.own Riii])),(11,.any),(12,.any),(13,.any)] q2d8 q2dd q2dc C v:=rgI (by kernel_rfl)
abbrev q2df:Type:=List Di×List Di×Int×Bool×Bool×Bool×List Diii×Int×Int×List Diii×List Diii
def q2dg (v:q2df):St:=⟨[(2,.fz Ri v.1),(3,.fz Ri v.2.1),(4,.ptr 0 0),(5,.ptr 1 0),(9,.ptr 2 0),(10,.ptr 4 0),(11,i6 v.2.2.1),(12,.bool v.2.2.2.1),(13,.bool v.2.2.2.2.1),(57,.bool v.2.2.2.2.2.1)],[.cells [.fz Riii v.2.2.2.2.2.2.1],.cells [i6 v.2.2.2.2.2.2.2.1,i6 v.2.2.2.2.2.2.2.2.1],.cells [.rs 3],.rows Riii v.2.2.2.2.2.2.2.2.2.1,.cells [.rs 5],.rows Riii v.2.2.2.2.2.2.2.2.2.2]⟩
def q2dh (C:q2ci) (v:q2db):Dt q2df:=(Dt.ite (!v.2.2.2.1) (Dt.ret (v.1,v.2.1,v.2.2.1,v.2.2.2.1,v.2.2.2.2.1,(!v.2.2.2.2.1),v.2.2.2.2.2.1,v.2.2.2.2.2.2.1,v.2.2.2.2.2.2.2.1,v.2.2.2.2.2.2.2.2.1,v.2.2.2.2.2.2.2.2.2)) (Dt.ret (v.1,v.2.1,v.2.2.1,v.2.2.2.1,v.2.2.2.2.1,false,v.2.2.2.2.2.1,v.2.2.2.2.2.2.1,v.2.2.2.2.2.2.2.1,v.2.2.2.2.2.2.2.2.1,v.2.2.2.2.2.2.2.2.2)))
theorem q2di C v:q2l2 (regO (qdv f4) 8) false [(2,(.val Ri)),(3,(.val Ri)),(4,(.box [.val Riii])),(5,.any),(9,(.box [.own Riii])),(10,(.box [.own Riii])),(11,.any),(12,.any),(13,.any),(57,.any)] q2dc q2dh q2dg C v:=rgI (by kernel_rfl)
def q2dj (C:q2ci) (v:q2df):Dt q2cv:=(Dt.bnd (C.2.2.2.1 (())) fun r1=>(Dt.ret r1))
theorem q2dk C v:q2l2 (regO (qdv f4) 9) false [(8,.any)] q2dg q2dj q2cw C v:=rgI (by kernel_rfl)
abbrev q2dl:Type:=List Di×List Di×Int×Bool×Bool×List Diii×Int×Int×List Diii×List Diii
def q2dm (v:q2dl):St:=⟨[(2,.fz Ri v.1),(3,.fz Ri v.2.1),(4,.ptr 0 0),(5,.ptr 1 0),(9,.ptr 2 0),(10,.ptr 4 0),(11,i6 v.2.2.1),(13,.bool v.2.2.2.1),(59,.bool v.2.2.2.2.1)],[.cells [.fz Riii v.2.2.2.2.2.1],.cells [i6 v.2.2.2.2.2.2.1,i6 v.2.2.2.2.2.2.2.1],.cells [.rs 3],.rows Riii v.2.2.2.2.2.2.2.2.1,.cells [.rs 5],.rows Riii v.2.2.2.2.2.2.2.2.2]⟩
def q2dn (C:q2ci) (v:q2df):Dt q2dl:=(Dt.ret (v.1,v.2.1,v.2.2.1,v.2.2.2.2.1,v.2.2.2.1,v.2.2.2.2.2.2.1,v.2.2.2.2.2.2.2.1,v.2.2.2.2.2.2.2.2.1,v.2.2.2.2.2.2.2.2.2.1,v.2.2.2.2.2.2.2.2.2.2))
theorem q2do C v:q2l2 (regO (qdv f4) 10) false [(2,(.val Ri)),(3,(.val Ri)),(4,(.box [.val Riii])),(5,.any),(9,(.box [.own Riii])),(10,(.box [.own Riii])),(11,.any),(13,.any),(59,.any)] q2dg q2dn q2dm C v:=rgI (by kernel_rfl)
abbrev q2dp:Type:=List Di×List Di×Int×Bool×List Diii×Int×Int×List Diii×List Diii
def q2dq (v:q2dp):St:=⟨[(2,.fz Ri v.1),(3,.fz Ri v.2.1),(4,.ptr 0 0),(5,.ptr 1 0),(9,.ptr 2 0),(10,.ptr 4 0),(11,i6 v.2.2.1),(13,.bool v.2.2.2.1)],[.cells [.fz Riii v.2.2.2.2.1],.cells [i6 v.2.2.2.2.2.1,i6 v.2.2.2.2.2.2.1],.cells [.rs 3],.rows Riii v.2.2.2.2.2.2.2.1,.cells [.rs 5],.rows Riii v.2.2.2.2.2.2.2.2]⟩
def q2dr (C:q2ci) (v:q2dl):Dt q2dp:=(Dt.ite (inB v.2.2.1 (List.length v.2.2.2.2.2.1)) (Dt.ite (apB (List.length v.2.2.2.2.2.2.2.2.1) (List.length ([((elt ziii v.2.2.2.2.2.1 (v.2.2.1).toNat).1,(elt ziii v.2.2.2.2.2.1 (v.2.2.1).toNat).2.1,(elt ziii v.2.2.2.2.2.1 (v.2.2.1).toNat).2.2.1,())]:List Diii))) (Dt.ret (v.1,v.2.1,v.2.2.1,v.2.2.2.1,v.2.2.2.2.2.1,v.2.2.2.2.2.2.1,v.2.2.2.2.2.2.2.1,(v.2.2.2.2.2.2.2.2.1++([((elt ziii v.2.2.2.2.2.1 (v.2.2.1).toNat).1,(elt ziii v.2.2.2.2.2.1 (v.2.2.1).toNat).2.1,(elt ziii v.2.2.2.2.2.1 (v.2.2.1).toNat).2.2.1,())]:List Diii)),v.2.2.2.2.2.2.2.2.2)) Dt.fail) Dt.fail)
theorem q2ds C v:q2l2 (regO (qdv f4) 11) true [(2,(.val Ri)),(3,(.val Ri)),(4,(.box [.val Riii])),(5,.any),(9,(.box [.own Riii])),(10,(.box [.own Riii])),(11,.any),(13,.any)] q2dm q2dr q2dq C v:=rgI (by kernel_rfl)
abbrev q2dt:Type:=List Di×List Di×Int×Bool×List Diii×Int×Int×List Diii×List Diii
def q2du (v:q2dt):St:=⟨[(2,.fz Ri v.1),(3,.fz Ri v.2.1),(4,.ptr 0 0),(5,.ptr 1 0),(9,.ptr 2 0),(10,.ptr 4 0),(11,i6 v.2.2.1),(70,.bool v.2.2.2.1)],[.cells [.fz Riii v.2.2.2.2.1],.cells [i6 v.2.2.2.2.2.1,i6 v.2.2.2.2.2.2.1],.cells [.rs 3],.rows Riii v.2.2.2.2.2.2.2.1,.cells [.rs 5],.rows Riii v.2.2.2.2.2.2.2.2]⟩
def q2dv (C:q2ci) (v:q2dp):Dt q2dt:=(Dt.ret (v.1,v.2.1,v.2.2.1,v.2.2.2.1,v.2.2.2.2.1,v.2.2.2.2.2.1,v.2.2.2.2.2.2.1,v.2.2.2.2.2.2.2.1,v.2.2.2.2.2.2.2.2))
theorem q2dw C v:q2l2 (regO (qdv f4) 12) false [(2,(.val Ri)),(3,(.val Ri)),(4,(.box [.val Riii])),(5,.any),(9,(.box [.own Riii])),(10,(.box [.own Riii])),(11,.any),(70,.any)] q2dq q2dv q2du C v:=rgI (by kernel_rfl)
def q2dx (C:q2ci) (v:q2dt):Dt q2d3:=(Dt.ite (inB v.2.2.1 (List.length v.2.2.2.2.1)) (Dt.ite (apB (List.length v.2.2.2.2.2.2.2.2) (List.length ([((elt ziii v.2.2.2.2.1 (v.2.2.1).toNat).1,(elt ziii v.2.2.2.2.1 (v.2.2.1).toNat).2.1,(elt ziii v.2.2.2.2.1 (v.2.2.1).toNat).2.2.1,())]:List Diii))) (Dt.ret (v.1,v.2.1,v.2.2.1,v.2.2.2.2.1,v.2.2.2.2.2.1,v.2.2.2.2.2.2.1,v.2.2.2.2.2.2.2.1,(v.2.2.2.2.2.2.2.2++([((elt ziii v.2.2.2.2.1 (v.2.2.1).toNat).1,(elt ziii v.2.2.2.2.1 (v.2.2.1).toNat).2.1,(elt ziii v.2.2.2.2.1 (v.2.2.1).toNat).2.2.1,())]:List Diii)))) Dt.fail) Dt.fail)
theorem q2dy C v:q2l2 (regO (qdv f4) 13) true [(2,(.val Ri)),(3,(.val Ri)),(4,(.box [.val Riii])),(5,.any),(9,(.box [.own Riii])),(10,(.box [.own Riii])),(11,.any)] q2du q2dx q2d4 C v:=rgI (by kernel_rfl)
def q2dz (C:q2ci) (v:q2d3):Dt q2d3:=(Dt.ret (v.1,v.2.1,(IntKind.wrap .i64 (v.2.2.1+(1:Int))),v.2.2.2.1,v.2.2.2.2.1,v.2.2.2.2.2.1,v.2.2.2.2.2.2.1,v.2.2.2.2.2.2.2))
theorem q2e0 C v:q2l2 (regO (qdv f4) 6) false [(2,(.val Ri)),(3,(.val Ri)),(4,(.box [.val Riii])),(5,.any),(9,(.box [.own Riii])),(10,(.box [.own Riii])),(11,.any)] q2d4 q2dz q2d4 C v:=rgI (by kernel_rfl)
def q2e1  (d:Nat) (self1:(List Di×List Di×Int×List Diii×Int×Int×List Diii×List Diii)→Option q2cf) (z:List Di×List Di×Int×List Diii×Int×Int×List Diii×List Diii):Option (q2cf) :=
 (q2dz (q2cj d) z).eval fun y6 =>
 self1 y6
def q2e2  (d:Nat) (self1:(List Di×List Di×Int×List Diii×Int×Int×List Diii×List Diii)→Option q2cf) (z:List Di×List Di×Int×Bool×List Diii×Int×Int×List Diii×List Diii):Option (q2cf) :=
 (q2dv (q2cj d) z).eval fun y12 =>
 bif y12.2.2.2.1 then ((q2dx (q2cj d) y12).eval fun y13 =>
 q2e1 d self1 y13) else (q2e1 d self1 (y12.1,y12.2.1,y12.2.2.1,y12.2.2.2.2.1,y12.2.2.2.2.2.1,y12.2.2.2.2.2.2.1,y12.2.2.2.2.2.2.2.1,y12.2.2.2.2.2.2.2.2))
abbrev q2e3:Type:=Bool×List Diii×Int×Int×List Diii×List Diii
def q2e4 (v:q2e3):St:=⟨[(4,.ptr 0 0),(5,.ptr 1 0),(9,.ptr 2 0),(10,.ptr 4 0),(90,.bool v.1)],[.cells [.fz Riii v.2.1],.cells [i6 v.2.2.1,i6 v.2.2.2.1],.cells [.rs 3],.rows Riii v.2.2.2.2.1,.cells [.rs 5],.rows Riii v.2.2.2.2.2]⟩
def q2e5 (C:q2ci) (v:q2d7):Dt q2e3:=(Dt.ite ((List.length v.2.2.2.2.2.2.2.1:Int) == (0:Int)) (Dt.ret (true,v.2.2.2.2.1,v.2.2.2.2.2.1,v.2.2.2.2.2.2.1,v.2.2.2.2.2.2.2.1,v.2.2.2.2.2.2.2.2)) (Dt.ret (((List.length v.2.2.2.2.2.2.2.2:Int) == (0:Int)),v.2.2.2.2.1,v.2.2.2.2.2.1,v.2.2.2.2.2.2.1,v.2.2.2.2.2.2.2.1,v.2.2.2.2.2.2.2.2)))
theorem q2e6 C v:q2l2 (regO (qdv f4) 14) false [(4,(.box [.val Riii])),(5,.any),(9,(.box [.own Riii])),(10,(.box [.own Riii])),(90,.any)] q2d8 q2e5 q2e4 C v:=rgI (by kernel_rfl)
def q2e7 (C:q2ci) (v:q2e3):Dt q2cv:=(Dt.bnd (C.2.2.2.1 (())) fun r1=>(Dt.ret r1))
theorem q2e8 C v:q2l2 (regO (qdv f4) 15) false [(8,.any)] q2e4 q2e7 q2cw C v:=rgI (by kernel_rfl)
abbrev q2e9:Type:=Int×List Diii×Int×Int×List Diii×List Diii
def q2ea (v:q2e9):St:=⟨[(4,.ptr 0 0),(5,.ptr 1 0),(10,.ptr 2 0),(14,.rs 4),(15,i6 v.1)],[.cells [.fz Riii v.2.1],.cells [i6 v.2.2.1,i6 v.2.2.2.1],.cells [.rs 3],.rows Riii v.2.2.2.2.1,.rows Riii v.2.2.2.2.2]⟩
def q2eb (C:q2ci) (v:q2e3):Dt q2e9:=(Dt.bnd (C.2.2.2.2.2.1 ((v.2.2.2.2.1,()),(v.2.2.1,v.2.2.2.1,()),())) fun r1=>(Dt.ret (r1.2,v.2.1,v.2.2.1,v.2.2.2.1,v.2.2.2.2.2,r1.1)))
theorem q2ec C v:q2l2 (regO (qdv f4) 16) false [(4,(.box [.val Riii])),(5,.any),(10,(.box [.own Riii])),(14,(.own Riii)),(15,.any)] q2e4 q2eb q2ea C v:=rgI (by kernel_rfl)
abbrev q2ed:Type:=Int×Int×List Diii×Int×Int×List Diii×List Diii
def q2ee (v:q2ed):St:=⟨[(4,.ptr 0 0),(5,.ptr 1 0),(14,.rs 2),(15,i6 v.1),(16,.rs 3),(17,i6 v.2.1)],[.cells [.fz Riii v.2.2.1],.cells [i6 v.2.2.2.1,i6 v.2.2.2.2.1],.rows Riii v.2.2.2.2.2.1,.rows Riii v.2.2.2.2.2.2]⟩
def q2ef (C:q2ci) (v:q2e9):Dt q2ed:=(Dt.bnd (C.2.2.2.2.2.1 ((v.2.2.2.2.1,()),(v.2.2.1,v.2.2.2.1,()),())) fun r1=>(Dt.ret (v.1,r1.2,v.2.1,v.2.2.1,v.2.2.2.1,v.2.2.2.2.2,r1.1)))
theorem q2eg C v:q2l2 (regO (qdv f4) 17) false [(4,(.box [.val Riii])),(5,.any),(14,(.own Riii)),(15,.any),(16,(.own Riii)),(17,.any)] q2ea q2ef q2ee C v:=rgI (by kernel_rfl)
abbrev q2eh:Type:=Int×Int×Int×List Diii×List Diii×List Diii×List Diii
def q2ei (v:q2eh):St:=⟨[(4,.ptr 0 0),(14,.rs 1),(15,i6 v.1),(16,.rs 2),(17,i6 v.2.1),(18,.rs 3),(19,i6 v.2.2.1)],[.cells [.fz Riii v.2.2.2.1],.rows Riii v.2.2.2.2.1,.rows Riii v.2.2.2.2.2.1,.rows Riii v.2.2.2.2.2.2]⟩
def q2ej (C:q2ci) (v:q2ed):Dt q2eh:=(Dt.bnd (C.2.2.2.2.2.1 ((v.2.2.1,()),(v.2.2.2.1,v.2.2.2.2.1,()),())) fun r1=>(Dt.ret (v.1,v.2.1,r1.2,v.2.2.1,v.2.2.2.2.2.1,v.2.2.2.2.2.2,r1.1)))
theorem q2ek C v:q2l2 (regO (qdv f4) 18) false [(4,(.box [.val Riii])),(14,(.own Riii)),(15,.any),(16,(.own Riii)),(17,.any),(18,(.own Riii)),(19,.any)] q2ee q2ej q2ei C v:=rgI (by kernel_rfl)
abbrev q2el:Type:=Int×Int×Int×Int×List Diii×List Diii×List Diii×List Diii×List Diii
def q2em (v:q2el):St:=⟨[(4,.ptr 0 0),(14,.rs 1),(15,i6 v.1),(16,.rs 2),(17,i6 v.2.1),(18,.rs 3),(19,i6 v.2.2.1),(20,.rs 4),(21,i6 v.2.2.2.1)],[.cells [.fz Riii v.2.2.2.2.1],.rows Riii v.2.2.2.2.2.1,.rows Riii v.2.2.2.2.2.2.1,.rows Riii v.2.2.2.2.2.2.2.1,.rows Riii v.2.2.2.2.2.2.2.2]⟩
def q2en (C:q2ci) (v:q2eh):Dt q2el:=(Dt.bnd (C.1 ((v.2.2.2.1,()),(v.2.2.2.2.1,()),(v.2.2.2.2.2.1,()),())) fun r1=>(Dt.ret (v.1,v.2.1,v.2.2.1,r1.2,v.2.2.2.1,v.2.2.2.2.1,v.2.2.2.2.2.1,v.2.2.2.2.2.2,r1.1)))
theorem q2eo C v:q2l2 (regO (qdv f4) 19) false [(4,(.box [.val Riii])),(14,(.own Riii)),(15,.any),(16,(.own Riii)),(17,.any),(18,(.own Riii)),(19,.any),(20,(.own Riii)),(21,.any)] q2ei q2en q2em C v:=rgI (by kernel_rfl)
abbrev q2ep:Type:=Int×Int×Int×Int×Int×List Diii×List Diii×List Diii
def q2eq (v:q2ep):St:=⟨[(15,i6 v.1),(17,i6 v.2.1),(18,.rs 0),(19,i6 v.2.2.1),(20,.rs 1),(21,i6 v.2.2.2.1),(22,.rs 2),(23,i6 v.2.2.2.2.1)],[.rows Riii v.2.2.2.2.2.1,.rows Riii v.2.2.2.2.2.2.1,.rows Riii v.2.2.2.2.2.2.2]⟩
def q2er (C:q2ci) (v:q2el):Dt q2ep:=(Dt.bnd (C.1 ((v.2.2.2.2.1,()),(v.2.2.2.2.2.2.1,()),(v.2.2.2.2.2.1,()),())) fun r1=>(Dt.ret (v.1,v.2.1,v.2.2.1,v.2.2.2.1,r1.2,v.2.2.2.2.2.2.2.1,v.2.2.2.2.2.2.2.2,r1.1)))
theorem q2es C v:q2l2 (regO (qdv f4) 20) false [(15,.any),(17,.any),(18,(.own Riii)),(19,.any),(20,(.own Riii)),(21,.any),(22,(.own Riii)),(23,.any)] q2em q2er q2eq C v:=rgI (by kernel_rfl)
def q2et (C:q2ci) (v:q2ep):Dt q2cv:=(Dt.ite (v.1 == (0:Int)) (Dt.ite (v.2.1 == (0:Int)) (Dt.ite (v.2.2.1 == (0:Int)) (Dt.ite (v.2.2.2.1 == (0:Int)) (Dt.ite (v.2.2.2.2.1 == (0:Int)) (Dt.bnd (C.2.1 ((v.2.2.2.2.2.2.1,()),(v.2.2.2.2.2.1,()),())) fun r1=>(Dt.ite r1 (Dt.bnd (C.2.1 ((v.2.2.2.2.2.2.2,()),(v.2.2.2.2.2.1,()),())) fun r2=>(Dt.ite r2 (Dt.bnd (C.2.2.2.1 (())) fun r3=>(Dt.ret r3)) (Dt.ret false))) (Dt.ret false))) (Dt.ret false)) (Dt.ret false)) (Dt.ret false)) (Dt.ret false)) (Dt.ret false))
theorem q2eu C v:q2l2 (regO (qdv f4) 21) false [(8,.any)] q2eq q2et q2cw C v:=rgI (by kernel_rfl)
def q2ev (d:Nat) (self1:(List Di×List Di×Int×List Diii×Int×Int×List Diii×List Diii)→Option q2cf) (x1:List Di×List Di×Int×List Diii×Int×Int×List Diii×List Diii):Option q2cf :=
 (q2d9 (q2cj d) x1).eval fun y5 =>
 bif y5.2.2.2.1 then ((q2dd (q2cj d) y5).eval fun y7 =>
 (q2dh (q2cj d) y7).eval fun y8 =>
 bif y8.2.2.2.2.2.1 then ((q2dj (q2cj d) y8).eval fun y9 =>
 some y9) else ((q2dn (q2cj d) y8).eval fun y10 =>
 bif y10.2.2.2.2.1 then ((q2dr (q2cj d) y10).eval fun y11 =>
 q2e2 d self1 y11) else (q2e2 d self1 (y10.1,y10.2.1,y10.2.2.1,y10.2.2.2.1,y10.2.2.2.2.2.1,y10.2.2.2.2.2.2.1,y10.2.2.2.2.2.2.2.1,y10.2.2.2.2.2.2.2.2.1,y10.2.2.2.2.2.2.2.2.2)))) else ((q2e5 (q2cj d) y5).eval fun y14 =>
 bif y14.1 then ((q2e7 (q2cj d) y14).eval fun y15 =>
 some y15) else ((q2eb (q2cj d) y14).eval fun y16 =>
 (q2ef (q2cj d) y16).eval fun y17 =>
 (q2ej (q2cj d) y17).eval fun y18 =>
 (q2en (q2cj d) y18).eval fun y19 =>
 (q2er (q2cj d) y19).eval fun y20 =>
 (q2et (q2cj d) y20).eval fun y21 =>
 some y21))
def q2ew (d:Nat) (x:q2ce):Option q2cf :=
 (q2cp (q2cj d) (x.1.1,x.2.1.1,x.2.1.2.1,x.2.2.1.1,x.2.2.2.1.1)).eval fun y0 =>
 (q2ct (q2cj d) y0).eval fun y1 =>
 bif y1.2.2.1 then ((q2cx (q2cj d) y1).eval fun y2 =>
 some y2) else ((q2d1 (q2cj d) y1).eval fun y3 =>
 (q2d5 (q2cj d) y3).eval fun y4 =>
 iter (q2ev d ) d y4)
theorem q2ex (d:Nat):COK prog (q2ch (q2ew d)):=by
 have hm:prog.follows .mixedOrders=true:=mixed
 have hT:=tys
 have hC0:OrcOK prog (orc (q2ck (q2cj d))):=qdp (by
  intro S hS
  simp only [q2ck,List.mem_cons,List.not_mem_nil,or_false] at hS
  rcases hS with rfl | rfl | rfl | rfl | rfl | rfl
  · exact q1te d
  · exact q1z4 d
  · exact q299 d
  · exact q2bd d
  · exact q2cc d
  · exact q1a4 d)
 have hC:OrcOK prog (orc (q2ck (q2cj d))):=hC0
 refine q9e (c:=qdv f4) (fn:=f4) hT (by kernel_rfl) (by kernel_rfl) (by decide) fun x r h w0 φ0 Q hend=>?_
 replace h:q2ew d x=some r:=h
 unfold q2ew at h
 show Run prog w0 φ0 155 (qdv f4) ⟨[(0,.agg [.fz Riii x.1.1]),(1,.agg [.int .i64 x.2.1.1,.int .i64 x.2.1.2.1]),(2,.fz Ri x.2.2.1.1),(3,.fz Ri x.2.2.2.1.1)],[]⟩ Q
 refine q2jr hm hT hC (q2cq (q2cj d) (x.1.1,x.2.1.1,x.2.1.2.1,x.2.2.1.1,x.2.2.2.1.1)) h fun y0 h=>?_
 refine q8x ?_
 refine q2jr hm hT hC (q2cu (q2cj d) y0) h fun y1 h=>?_
 refine q91 (v:=y1.2.2.1) (by kernel_rfl) h ?_ ?_
 ·
  intro h
  refine q2jr hm hT hC (q2cy (q2cj d) y1) h fun y2 h=>?_
  refine q8w (q8l ?_)
  cases h
  exact (hend _ (by kernel_rfl)).2
 ·
  intro h
  refine q8t (q8j ?_)
  refine q2jr hm hT hC (q2d2 (q2cj d) y1) h fun y3 h=>?_
  refine q8x ?_
  refine q2jr hm hT hC (q2d6 (q2cj d) y3) h fun y4 h=>?_
  refine q8y ?_
  refine q93 (G:=iter (q2ev d )) (S:=(fun x1=>⟨[(2,.fz Ri x1.1),(3,.fz Ri x1.2.1),(4,.ptr 0 0),(5,.ptr 1 0),(9,.ptr 2 0),(10,.ptr 4 0),(11,i6 x1.2.2.1)],[.cells [.fz Riii x1.2.2.2.1],.cells [i6 x1.2.2.2.2.1,i6 x1.2.2.2.2.2.1],.cells [.rs 3],.rows Riii x1.2.2.2.2.2.2.1,.cells [.rs 5],.rows Riii x1.2.2.2.2.2.2.2]⟩:List Di×List Di×Int×List Diii×Int×Int×List Diii×List Diii→St)) (fun _=>rfl) ?_ d _ h
  intro n1 x1 h K1 hn1
  replace h:q2ev d  (iter (q2ev d ) n1) x1=some r:=h
  generalize iter (q2ev d ) n1=self1 at h hn1
  unfold q2ev at h
  refine q8x ?_
  refine q2jr hm hT hC (q2da (q2cj d) x1) h fun y5 h=>?_
  refine q91 (v:=y5.2.2.2.1) (by kernel_rfl) h ?_ ?_
  ·
   intro h
   refine q8t (q8j ?_)
   refine q90 (r:=r) (F:=q2e1 d self1) (S:=(fun z=>⟨[(2,.fz Ri z.1),(3,.fz Ri z.2.1),(4,.ptr 0 0),(5,.ptr 1 0),(9,.ptr 2 0),(10,.ptr 4 0),(11,i6 z.2.2.1)],[.cells [.fz Riii z.2.2.2.1],.cells [i6 z.2.2.2.2.1,i6 z.2.2.2.2.2.1],.cells [.rs 3],.rows Riii z.2.2.2.2.2.2.1,.cells [.rs 5],.rows Riii z.2.2.2.2.2.2.2]⟩:List Di×List Di×Int×List Diii×Int×Int×List Diii×List Diii→St)) ?_ ?_
   ·
    intro z h
    unfold q2e1 at h
    refine q92 hm hT hC (q2e0 (q2cj d) z) h ?_
    intro y6 h
    exact hn1 _ h
   intro hj2
   refine q8y ?_
   refine q2jr hm hT hC (q2de (q2cj d) y5) h fun y7 h=>?_
   refine q8x ?_
   refine q2jr hm hT hC (q2di (q2cj d) y7) h fun y8 h=>?_
   refine q91 (v:=y8.2.2.2.2.2.1) (by kernel_rfl) h ?_ ?_
   ·
    intro h
    refine q2jr hm hT hC (q2dk (q2cj d) y8) h fun y9 h=>?_
    refine q8w (q8l (q8n (q8l (q8l (q8n (q8l ?_))))))
    cases h
    exact (hend _ (by kernel_rfl)).2
   ·
    intro h
    refine q8t (q8j ?_)
    refine q90 (r:=r) (F:=q2e2 d self1) (S:=(fun z=>⟨[(2,.fz Ri z.1),(3,.fz Ri z.2.1),(4,.ptr 0 0),(5,.ptr 1 0),(9,.ptr 2 0),(10,.ptr 4 0),(11,i6 z.2.2.1),(13,.bool z.2.2.2.1)],[.cells [.fz Riii z.2.2.2.2.1],.cells [i6 z.2.2.2.2.2.1,i6 z.2.2.2.2.2.2.1],.cells [.rs 3],.rows Riii z.2.2.2.2.2.2.2.1,.cells [.rs 5],.rows Riii z.2.2.2.2.2.2.2.2]⟩:List Di×List Di×Int×Bool×List Diii×Int×Int×List Diii×List Diii→St)) ?_ ?_
    ·
     intro z h
     unfold q2e2 at h
     refine q2jr hm hT hC (q2dw (q2cj d) z) h fun y12 h=>?_
     refine q91 (v:=y12.2.2.2.1) (by kernel_rfl) h ?_ ?_
     ·
      intro h
      refine q92 hm hT hC (q2dy (q2cj d) y12) h ?_
      intro y13 h
      refine q8m ?_
      exact hj2 _ h
     ·
      intro h
      refine q8t (q8m ?_)
      refine qdu (s:=⟨[(2,.fz Ri y12.1),(3,.fz Ri y12.2.1),(4,.ptr 0 0),(5,.ptr 1 0),(9,.ptr 2 0),(10,.ptr 4 0),(11,.int .i64 y12.2.2.1)],[.cells [.fz Riii y12.2.2.2.2.1],.cells [.int .i64 y12.2.2.2.2.2.1,.int .i64 y12.2.2.2.2.2.2.1],.cells [.rs 3],.rows Riii y12.2.2.2.2.2.2.2.1,.cells [.rs 5],.rows Riii y12.2.2.2.2.2.2.2.2]⟩) [70] (by kernel_rfl) ?_
      exact hj2 _ h
    intro hj3
    refine q2jr hm hT hC (q2do (q2cj d) y8) h fun y10 h=>?_
    refine q91 (v:=y10.2.2.2.2.1) (by kernel_rfl) h ?_ ?_
    ·
     intro h
     refine q92 hm hT hC (q2ds (q2cj d) y10) h ?_
     intro y11 h
     exact hj3 _ h
    ·
     intro h
     refine q8t ?_
     refine qdu (s:=⟨[(2,.fz Ri y10.1),(3,.fz Ri y10.2.1),(4,.ptr 0 0),(5,.ptr 1 0),(9,.ptr 2 0),(10,.ptr 4 0),(11,.int .i64 y10.2.2.1),(13,.bool y10.2.2.2.1)],[.cells [.fz Riii y10.2.2.2.2.2.1],.cells [.int .i64 y10.2.2.2.2.2.2.1,.int .i64 y10.2.2.2.2.2.2.2.1],.cells [.rs 3],.rows Riii y10.2.2.2.2.2.2.2.2.1,.cells [.rs 5],.rows Riii y10.2.2.2.2.2.2.2.2.2]⟩) [59] (by kernel_rfl) ?_
     exact hj3 _ h
  ·
   intro h
   refine q8v (q8k (q8k (q8o (q8j (q8x ?_)))))
   refine q2jr hm hT hC (q2e6 (q2cj d) y5) h fun y14 h=>?_
   refine q91 (v:=y14.1) (by kernel_rfl) h ?_ ?_
   ·
    intro h
    refine q2jr hm hT hC (q2e8 (q2cj d) y14) h fun y15 h=>?_
    refine q8w (q8l ?_)
    cases h
    exact (hend _ (by kernel_rfl)).2
   ·
    intro h
    refine q8t (q8j ?_)
    refine q2jr hm hT hC (q2ec (q2cj d) y14) h fun y16 h=>?_
    refine q2jr hm hT hC (q2eg (q2cj d) y16) h fun y17 h=>?_
    refine q2jr hm hT hC (q2ek (q2cj d) y17) h fun y18 h=>?_
    refine q2jr hm hT hC (q2eo (q2cj d) y18) h fun y19 h=>?_
    refine q2jr hm hT hC (q2es (q2cj d) y19) h fun y20 h=>?_
    refine q2jr hm hT hC (q2eu (q2cj d) y20) h fun y21 h=>?_
    refine q8w ?_
    cases h
    exact (hend _ (by kernel_rfl)).2
end Go.Proofs.Ytpgpbhjkgciggaa

namespace Go
open Go.ChangeShapes Go.WideShapes Go.ChangeAt Go.RowKit
section
variable {H:Type} {enc:TypeId×Value→H} {P:Program} {w:World} {base:Nat} {spare:Nat→Bool} {held:Bool}
theorem q2iy {t:TypeId} {fs:Array Field} {fuel:Nat} {cs:List Value} {x:DataW H×List MemPlace} (hs:P.underlying t=some (.struct fs)) (h:DataW.trod enc P w base spare held fuel t cs=some x)
    {i:Nat} {f:Field} (hf:fs[i]?=some f) {off n:Nat} {ft:TypeId} (ho:f.offset=off) (ht:f.type=ft) (hn:P.cellsOf ft=n):∃ m y,DataW.trod enc P w base spare held m ft ((cs.drop off).take n)=some y:=by
  obtain ⟨xs,m,_,_,_,hlen,hg⟩:=DataW.trod_struct hs h
  have h1:=hg i f hf
  subst ho ht hn
  have hi:i<xs.length:=by rw [hlen];exact (Array.getElem?_eq_some_iff.1 hf).1
  exact ⟨m,xs[i],by rw [h1,List.getElem?_eq_getElem hi]⟩
theorem q2iz {t:TypeId} {k:IntKind} {fuel:Nat} {cs:List Value} {x:DataW H×List MemPlace} (ht:P.underlying t=some (.int k)) (h:DataW.trod enc P w base spare held fuel t cs=some x):∃ n,cs=[.int k n]∧(Lit.int k n).wf=true:=by
  obtain ⟨n,h1,_,h2⟩:=DataW.trod_int ht h;exact ⟨n,h1,h2⟩
theorem q2j0 {n:Int} (h:(Lit.int .i64 n).wf=true):-9223372036854775808≤n∧n≤9223372036854775807:=bounds_i64 h
end
end Go
namespace Go.Proofs.Ytpgpbhjkgciggaa
open Go.ChangeShapes Go.WideShapes Go.ChangeAt Go.RowKit
theorem q2j4:ownKnob Try.prog.godebug=none:=by kernel_rfl
theorem q2j5:laidOutB Try.prog=true:=by kernel_rfl
end Go.Proofs.Ytpgpbhjkgciggaa

namespace Go
open Go.ChangeShapes Go.WideShapes Go.ChangeAt Go.RowKit Go.Deep
theorem q2j6 {α:Type} {p:Nat→α→Prop}:∀ n:Nat,(∀ i,i<n→∃ v,p i v)→∃ l:List α,l.length=n∧∀ (i:Nat) (x:α),l[i]?=some x→p i x
  | 0,_=>⟨[],rfl,fun i x h=>by simp at h⟩
  | n + 1, h => by
    obtain ⟨l,hl,hp⟩:=q2j6 n fun i hi=>h i (by omega)
    obtain ⟨v,hv⟩:=h n (by omega)
    refine ⟨l ++ [v],by simp [hl],fun i x hx=>?_⟩
    rcases Nat.lt_or_ge i n with hi | hi
    · rw [List.getElem?_append_left (by omega)] at hx;exact hp i x hx
    · rw [List.getElem?_append_right (by omega)] at hx
      have:i=n:=by
        have:=(List.getElem?_eq_some_iff.1 hx).1
        simp at this;omega
      subst this
      simp [hl] at hx
      subst hx;exact hv
theorem qd {α:Type} {cells:α→List Value} {k:Nat} (hk:∀ a,(cells a).length=k) (h0:0<k):∀ (l:List α) (j:Nat) (u:Value),(l.flatMap cells)[j]?=some u→∃ x,l[j / k]?=some x∧(cells x)[j % k]?=some u
  | [],j,u,h=>by simp at h
  | x :: l, j, u, h => by
    rw [List.flatMap_cons] at h
    rcases Nat.lt_or_ge j k with hj | hj
    · rw [List.getElem?_append_left (by rw [hk]; exact hj)] at h
      rw [Nat.div_eq_of_lt hj,Nat.mod_eq_of_lt hj]
      exact ⟨x,rfl,h⟩
    · rw [List.getElem?_append_right (by rw [hk]; exact hj), hk] at h
      obtain ⟨y,hy,hu⟩:=qd hk h0 l (j - k) u h
      obtain ⟨m,rfl⟩:∃ m,j=m+k:=⟨j - k,by omega⟩
      rw [Nat.add_sub_cancel] at hy hu
      rw [Nat.add_div_right _ h0,Nat.add_mod_right]
      exact ⟨y,by simpa using hy,hu⟩
theorem q9 {α:Type} {cells:α→List Value} {k:Nat} (hk:∀ a,(cells a).length=k) (l:List α):(l.flatMap cells).length=l.length*k:=by
  induction l with
  | nil=>simp
  | cons x l ih=>rw [List.flatMap_cons,List.length_append,ih,hk,List.length_cons,Nat.add_mul];omega
section
variable {H:Type} {enc:TypeId×Value→H} {P:Program} {w:World} {base:Nat} {held:Bool}
theorem q2j7 {t e:TypeId} {fuel:Nat} {A:Option Addr} {n c:Nat} {x:DataW H×List MemPlace} (ht:P.underlying t=some (.slice e))
    (h:DataW.trod enc P w base (fun _=>true) held fuel t [Value.slice A n c]=some x):A=none→c=0:=by
  rcases open_slice ht h with ⟨hcs,_⟩ | ⟨a,len,cap,m,q,D,Pl,hcs,_⟩
  · simp only [List.cons.injEq, and_true] at hcs
    injection hcs with h1 h2 h3
    intro _;exact h3
  · simp only [List.cons.injEq, and_true] at hcs
    injection hcs with h1 h2 h3
    subst h1;intro h;cases h
theorem q2j8 {α:Type} (cells:α→List Value) (ok:α→Prop) {t e:TypeId} {k fuel:Nat} {A:Option Addr} {n c:Nat} {x:DataW H×List MemPlace}
    (ht:P.underlying t=some (.slice e)) (hC:P.cellsOf e=k) (h0:0<k) (hk:∀ a,(cells a).length=k)
    (hR:∀ (m:Nat) (l:List Value) (y:DataW H×List MemPlace),DataW.trod enc P w base (fun _=>true) held m e l=some y→l.length=k→∃ a,l=cells a∧ok a)
    (h:DataW.trod enc P w base (fun _=>true) held fuel t [Value.slice A n c]=some x) :
    ∃ l:List α,l.length=n∧Sl w k A l.length c (l.flatMap cells)∧(∀ a∈l,ok a)∧(A=none→c=0)∧c≤maxLen:=by
  rcases open_slice ht h with ⟨hcs,_⟩ | ⟨a,len,cap,m,q,D,Pl,hcs,_,hl,hmx,hm,_,hi⟩
  · simp only [List.cons.injEq, and_true] at hcs
    injection hcs with h1 h2 h3
    subst h1 h2 h3
    exact ⟨[],rfl,Sl.nil_ _ _ _ _,(fun _ h=>by cases h),(fun _=>rfl),Nat.zero_le _⟩
  · simp only [List.cons.injEq, and_true] at hcs
    injection hcs with h1 h2 h3
    subst h1 h2 h3
    simp only [if_true] at hm
    subst hm
    obtain ⟨l,hll,hp⟩:=q2j6 (α:=α) (p:=fun i v=>(∀ j u,(cells v)[j]?=some u→w.cell? (a.add (i*k+j))=some u)∧ok v) n (fun i hin=>by
      obtain ⟨cs',hc,ht'⟩:=hi i (by omega)
      rw [hC] at hc
      obtain ⟨_,hcl,hat⟩:=World.cells?_some hc
      obtain ⟨v,rfl,hv⟩:=hR _ _ _ ht' hcl
      refine ⟨v,fun j u hu=>?_,hv⟩
      have hj:j<k:=by rw [← hk v];exact (List.getElem?_eq_some_iff.1 hu).1
      rw [← Go.Deep.add_add,hat j hj,hu])
    refine ⟨l,hll,⟨by omega,by rw [q9 hk,hll],fun hn=>?_⟩,fun v hv=>?_,(fun h=>by cases h),hmx⟩
    · obtain ⟨v0, hv0⟩ : ∃ v, l[0]? = some v := ⟨_, List.getElem?_eq_getElem (by omega)⟩
      obtain ⟨u0,hu0⟩:∃ u,(cells v0)[0]?=some u:=⟨_,List.getElem?_eq_getElem (by rw [hk];exact h0)⟩
      have hc0:=(hp 0 v0 hv0).1 0 u0 hu0
      obtain ⟨b,o,spot⟩:=a
      have hspot:spot=none:=by simpa [Addr.add] using World.cell?_spot hc0
      subst hspot
      refine ⟨b,o,rfl,?_,fun j u hu=>?_⟩
      · have hb := World.block_lt_of_cell? w _ hc0
        simpa [Addr.add] using hb
      · obtain ⟨v, hv, huv⟩ := qd hk h0 l j u hu
        have h1:=(hp _ v hv).1 _ u huv
        have e0:j / k*k+j % k=j:=by rw [Nat.mul_comm];exact Nat.div_add_mod j k
        rw [e0] at h1
        have e1:(⟨b,o,none⟩:Addr).add j=⟨b,o+j,none⟩:=by
          unfold Addr.add;split
          · rename_i h0;rw [h0];rfl
          · rfl
        rw [e1] at h1;exact h1
    · obtain ⟨i, hi'⟩ := List.getElem?_of_mem hv
      exact (hp i v hi').2
end
end Go

namespace Go.Proofs.Ytpgpbhjkgciggaa
open Go.ChangeShapes Go.WideShapes Go.ChangeAt Go.RowKit Go.Pel Go.Deep
theorem q2j9 {α:Type} (l:List α) (h:l.length=1):∃ a,l=[a]:=by
  match l,h with
  | [a],_=>exact ⟨a,rfl⟩
theorem q2ja {α:Type} (l:List α) (h:l.length=2):∃ a b,l=[a,b]:=by
  match l,h with
  | [a,b],_=>exact ⟨a,b,rfl⟩
theorem q2jb {α:Type} (l:List α) (h:l.length=3):∃ a b c,l=[a,b,c]:=by
  match l,h with
  | [a,b,c],_=>exact ⟨a,b,c,rfl⟩
section
variable {H:Type} {enc:TypeId×Value→H} {w:World} {base:Nat} {spare:Nat→Bool} {held:Bool}
theorem q2jc:Try.prog.cellsOf 3=1:=by kernel_rfl
theorem q2jd:Try.prog.cellsOf 2=1:=by kernel_rfl
theorem q2je:Try.prog.cellsOf 42=3:=by kernel_rfl
theorem q2jf:Try.prog.cellsOf 24=1:=by kernel_rfl
theorem q2jg:Try.prog.cellsOf 22=1:=by kernel_rfl
theorem q2jh {fuel:Nat} {l:List Value} {x:DataW H×List MemPlace} (h:DataW.trod enc Try.prog w base spare held fuel 42 l=some x) (hl:l.length=3) :
    ∃ p:Pt,l=[.int .i64 p.id,.int .i64 p.a,.int .i64 p.b]∧p.Fits:=by
  obtain ⟨c0,c1,c2,rfl⟩:=q2jb l hl
  obtain ⟨m4,y4,h4⟩:=q2iy Try.underlying42 h (i:=0) rfl rfl rfl q2jc
  obtain ⟨m5,y5,h5⟩:=q2iy Try.underlying42 h (i:=1) rfl rfl rfl q2jd
  obtain ⟨m6,y6,h6⟩:=q2iy Try.underlying42 h (i:=2) rfl rfl rfl q2jd
  obtain ⟨i,e4,w4⟩:=q2iz Try.underlying3 h4
  obtain ⟨a,e5,w5⟩:=q2iz Try.underlying2 h5
  obtain ⟨b,e6,w6⟩:=q2iz Try.underlying2 h6
  simp at e4 e5 e6
  subst e4 e5 e6
  exact ⟨⟨i,a,b⟩,rfl,⟨q2j0 w4,q2j0 w5,q2j0 w6⟩⟩
theorem q2ji (fuel:Nat) (l:List Value) (x:DataW H×List MemPlace) (h:DataW.trod enc Try.prog w base spare held fuel 42 l=some x) (hl:l.length=3):∃ p:Pt,l=p.cells∧p.Fits:=q2jh h hl
theorem q2jj {fuel:Nat} {l:List Value} {x:DataW H×List MemPlace} (h:DataW.trod enc Try.prog w base (fun _=>true) held fuel 24 l=some x) (hl:l.length=1) :
    ∃ (A:Option Addr) (c:Nat) (m:List Pt),l=[.slice A m.length c]∧Sl w 3 A m.length c (vp m)∧(A=none→c=0)∧∀ p∈m,p.Fits:=by
  obtain ⟨c0,rfl⟩:=q2j9 l hl
  obtain ⟨m0,y0,h0⟩:=q2iy Try.underlying24 h (i:=0) rfl rfl rfl q2jg
  have h0':DataW.trod enc Try.prog w base (fun _=>true) held m0 22 [c0]=some y0:=by simpa using h0
  obtain ⟨A,n,c,rfl⟩:∃ A n c,c0=Value.slice A n c:=by
    rcases open_slice Try.underlying22 h0' with ⟨hcs,_⟩ | ⟨a,len,cap,m,q,D,Pl,hcs,_⟩
    · simp only [List.cons.injEq,and_true] at hcs;exact ⟨_,_,_,hcs⟩
    · simp only [List.cons.injEq,and_true] at hcs;exact ⟨_,_,_,hcs⟩
  have hn:=q2j7 Try.underlying22 h0'
  obtain ⟨pts,rfl,hs,hok,_,_⟩:=q2j8 Pt.cells Pt.Fits Try.underlying22 q2je (by decide) (fun _=>rfl) q2ji h0'
  exact ⟨A,c,pts,rfl,hs,hn,hok⟩
theorem q2jk:Try.prog.cellsOf 36=2:=by kernel_rfl
theorem q2jl {fuel:Nat} {l:List Value} {x:DataW H×List MemPlace} (h:DataW.trod enc Try.prog w base spare held fuel 36 l=some x) (hl:l.length=2) :
    ∃ n d:Int,l=[.int .i64 n,.int .i64 d]∧(-9223372036854775808≤n∧n≤9223372036854775807)∧(-9223372036854775808≤d∧d≤9223372036854775807):=by
  obtain ⟨c0,c1,rfl⟩:=q2ja l hl
  obtain ⟨m4,y4,h4⟩:=q2iy Try.underlying36 h (i:=0) rfl rfl rfl q2jd
  obtain ⟨m5,y5,h5⟩:=q2iy Try.underlying36 h (i:=1) rfl rfl rfl q2jd
  obtain ⟨n,e4,w4⟩:=q2iz Try.underlying2 h4
  obtain ⟨d,e5,w5⟩:=q2iz Try.underlying2 h5
  simp at e4 e5
  subst e4 e5
  exact ⟨n,d,rfl,q2j0 w4,q2j0 w5⟩
end
end Go.Proofs.Ytpgpbhjkgciggaa
