/- Walks of the references; the orders agree; examples. -/
import Derived.Test.YtpgpbhjkgciggaaRows
import Derived.ProofKit
import Derived.OpenShut
import Derived.ShutString
import Derived.ChangeOld
import Derived.Deep.Slices
import Derived.Test.YtpgpbhjkgciggaaGe
set_option linter.unusedSimpArgs false
set_option linter.unusedVariables false
namespace Go.Proofs.Ytpgpbhjkgciggaa
open Go Go.Tx Go.Proofs.Try
set_option maxRecDepth 100000
set_option maxHeartbeats 0
abbrev q1y0:List Pk:=[.row qka false,.row qka false]
abbrev q1y1:Type:=qkb×qkb×Unit
abbrev q1y2:Type:=Bool
def q1y3 (r:q1y2):LV×List Ob:=(.bool r,[])
def q1y4 (F:q1y1→Option q1y2):Go.Tx.Spec:=⟨10,q1y0,q1y2,F,q1y3⟩
abbrev q1y5:Type:=Unit
def q1y6 (_d:Nat):q1y5:=()
def q1y7 (C:q1y5):List Go.Tx.Spec:=[]
abbrev q1y8:Type:=List Diii×List Diii
def q1y9 (v:q1y8):St:=⟨[(0,.fz Riii v.1),(1,.fz Riii v.2)],[]⟩
def q1ya (C:q1y5) (v:q1y8):Dt q1y8:=(Dt.ret (v.1,v.2))
abbrev q2kn {V Y:Type}:=@rg q1y5 V Y tysT (fun C=>(orc (q1y7 C))) 26
theorem q1yb C v:q2kn (regO (qdv f10) 0) false [(0,(.val Riii)),(1,(.val Riii))] q1y9 q1ya q1y9 C v:=rgI (by kernel_rfl)
abbrev q1yc:Type:=List Diii×List Diii×Bool
def q1yd (v:q1yc):St:=⟨[(0,.fz Riii v.1),(1,.fz Riii v.2.1),(10,.bool v.2.2)],[]⟩
def q1ye (C:q1y5) (v:q1y8):Dt q1yc:=(Dt.ret (v.1,v.2,((List.length v.1:Int) != (List.length v.2:Int))))
theorem q1yf C v:q2kn (regO (qdv f10) 1) false [(0,(.val Riii)),(1,(.val Riii)),(10,.any)] q1y9 q1ye q1yd C v:=rgI (by kernel_rfl)
abbrev q1yg:Type:=Bool
def q1yh (v:q1yg):St:=⟨[(4,.bool v)],[]⟩
def q1yi (C:q1y5) (v:q1yc):Dt q1yg:=(Dt.ret false)
theorem q1yj C v:q2kn (regO (qdv f10) 2) false [(4,.any)] q1yd q1yi q1yh C v:=rgI (by kernel_rfl)
abbrev q1yk:Type:=List Diii×List Diii×Int
def q1yl (v:q1yk):St:=⟨[(0,.fz Riii v.1),(1,.fz Riii v.2.1),(5,i6 v.2.2)],[]⟩
def q1ym (C:q1y5) (v:q1yc):Dt q1yk:=(Dt.ret (v.1,v.2.1,(0:Int)))
theorem q1yn C v:q2kn (regO (qdv f10) 3) false [(0,(.val Riii)),(1,(.val Riii)),(5,.any)] q1yd q1ym q1yl C v:=rgI (by kernel_rfl)
abbrev q1yo:Type:=List Diii×List Diii×Int×Bool
def q1yp (v:q1yo):St:=⟨[(0,.fz Riii v.1),(1,.fz Riii v.2.1),(5,i6 v.2.2.1),(14,.bool v.2.2.2)],[]⟩
def q1yq (C:q1y5) (v:q1yk):Dt q1yo:=(Dt.ret (v.1,v.2.1,v.2.2,(decide (v.2.2<(List.length v.1:Int)))))
theorem q1yr C v:q2kn (regO (qdv f10) 4) false [(0,(.val Riii)),(1,(.val Riii)),(5,.any),(14,.any)] q1yl q1yq q1yp C v:=rgI (by kernel_rfl)
abbrev q1ys:Type:=List Diii×List Diii×Int×Bool
def q1yt (v:q1ys):St:=⟨[(0,.fz Riii v.1),(1,.fz Riii v.2.1),(5,i6 v.2.2.1),(25,.bool v.2.2.2)],[]⟩
def q1yu (C:q1y5) (v:q1yo):Dt q1ys:=(Dt.ite (inB v.2.2.1 (List.length v.1)) (Dt.ite (inB v.2.2.1 (List.length v.2.1)) (Dt.ret (v.1,v.2.1,v.2.2.1,(!(((elt ziii v.1 (v.2.2.1).toNat).1 == (elt ziii v.2.1 (v.2.2.1).toNat).1)&&(((elt ziii v.1 (v.2.2.1).toNat).2.1 == (elt ziii v.2.1 (v.2.2.1).toNat).2.1)&&(((elt ziii v.1 (v.2.2.1).toNat).2.2.1 == (elt ziii v.2.1 (v.2.2.1).toNat).2.2.1)&&true)))))) Dt.fail) Dt.fail)
theorem q1yv C v:q2kn (regO (qdv f10) 6) true [(0,(.val Riii)),(1,(.val Riii)),(5,.any),(25,.any)] q1yp q1yu q1yt C v:=rgI (by kernel_rfl)
def q1yw (C:q1y5) (v:q1ys):Dt q1yg:=(Dt.ret false)
theorem q1yx C v:q2kn (regO (qdv f10) 7) false [(4,.any)] q1yt q1yw q1yh C v:=rgI (by kernel_rfl)
def q1yy (C:q1y5) (v:q1ys):Dt q1yk:=(Dt.ret (v.1,v.2.1,(IntKind.wrap .i64 (v.2.2.1+(1:Int)))))
theorem q1yz C v:q2kn (regO (qdv f10) 5) false [(0,(.val Riii)),(1,(.val Riii)),(5,.any)] q1yt q1yy q1yl C v:=rgI (by kernel_rfl)
def q1z0 (C:q1y5) (v:q1yo):Dt q1yg:=(Dt.ret true)
theorem q1z1 C v:q2kn (regO (qdv f10) 8) false [(4,.any)] q1yp q1z0 q1yh C v:=rgI (by kernel_rfl)
def q1z2 (d:Nat) (self1:(List Diii×List Diii×Int)→Option q1y2) (x1:List Diii×List Diii×Int):Option q1y2 :=
 (q1yq (q1y6 d) x1).eval fun y4 =>
 bif y4.2.2.2 then ((q1yu (q1y6 d) y4).eval fun y6 =>
 bif y6.2.2.2 then ((q1yw (q1y6 d) y6).eval fun y7 =>
 some y7) else ((q1yy (q1y6 d) y6).eval fun y5 =>
 self1 y5)) else ((q1z0 (q1y6 d) y4).eval fun y8 =>
 some y8)
def q1z3 (d:Nat) (x:q1y1):Option q1y2 :=
 (q1ya (q1y6 d) (x.1.1,x.2.1.1)).eval fun y0 =>
 (q1ye (q1y6 d) y0).eval fun y1 =>
 bif y1.2.2 then ((q1yi (q1y6 d) y1).eval fun y2 =>
 some y2) else ((q1ym (q1y6 d) y1).eval fun y3 =>
 iter (q1z2 d ) d y3)
theorem q1z4 (d:Nat):COK prog (q1y4 (q1z3 d)):=by
 have hm:prog.follows .mixedOrders=true:=mixed
 have hT:=tys
 have hC0:OrcOK prog (orc (q1y7 (q1y6 d))):=qdp (by
  intro S hS
  simp only [q1y7,List.mem_cons,List.not_mem_nil,or_false] at hS
  all_goals first | cases hS | exact hS.elim)
 have hC:OrcOK prog (orc (q1y7 (q1y6 d))):=hC0
 refine q9e (c:=qdv f10) (fn:=f10) hT (by kernel_rfl) (by kernel_rfl) (by decide) fun x r h w0 φ0 Q hend=>?_
 replace h:q1z3 d x=some r:=h
 unfold q1z3 at h
 show Run prog w0 φ0 26 (qdv f10) ⟨[(0,.fz Riii x.1.1),(1,.fz Riii x.2.1.1)],[]⟩ Q
 refine q2jr hm hT hC (q1yb (q1y6 d) (x.1.1,x.2.1.1)) h fun y0 h=>?_
 refine q8x ?_
 refine q2jr hm hT hC (q1yf (q1y6 d) y0) h fun y1 h=>?_
 refine q91 (v:=y1.2.2) (by kernel_rfl) h ?_ ?_
 ·
  intro h
  refine q2jr hm hT hC (q1yj (q1y6 d) y1) h fun y2 h=>?_
  refine q8w (q8l ?_)
  cases h
  exact (hend _ (by kernel_rfl)).2
 ·
  intro h
  refine q8t (q8j (q8x ?_))
  refine q2jr hm hT hC (q1yn (q1y6 d) y1) h fun y3 h=>?_
  refine q8y ?_
  refine q93 (G:=iter (q1z2 d )) (S:=(fun x1=>⟨[(0,.fz Riii x1.1),(1,.fz Riii x1.2.1),(5,i6 x1.2.2)],[]⟩:List Diii×List Diii×Int→St)) (fun _=>rfl) ?_ d _ h
  intro n1 x1 h K1 hn1
  replace h:q1z2 d  (iter (q1z2 d ) n1) x1=some r:=h
  generalize iter (q1z2 d ) n1=self1 at h hn1
  unfold q1z2 at h
  refine q8x ?_
  refine q2jr hm hT hC (q1yr (q1y6 d) x1) h fun y4 h=>?_
  refine q91 (v:=y4.2.2.2) (by kernel_rfl) h ?_ ?_
  ·
   intro h
   refine q8t (q8j (q8x (q8y ?_)))
   refine q2jr hm hT hC (q1yv (q1y6 d) y4) h fun y6 h=>?_
   refine q91 (v:=y6.2.2.2) (by kernel_rfl) h ?_ ?_
   ·
    intro h
    refine q2jr hm hT hC (q1yx (q1y6 d) y6) h fun y7 h=>?_
    refine q8w (q8n (q8l (q8l (q8n (q8l ?_)))))
    cases h
    exact (hend _ (by kernel_rfl)).2
   ·
    intro h
    refine q8t (q8m (q8j ?_))
    refine q92 hm hT hC (q1yz (q1y6 d) y6) h ?_
    intro y5 h
    exact hn1 _ h
  ·
   intro h
   refine q8v (q8k (q8k (q8o (q8j ?_))))
   refine q2jr hm hT hC (q1z1 (q1y6 d) y4) h fun y8 h=>?_
   refine q8w ?_
   cases h
   exact (hend _ (by kernel_rfl)).2
end Go.Proofs.Ytpgpbhjkgciggaa

namespace Go.Proofs.Ytpgpbhjkgciggaa
open Go Go.Tx Go.Proofs.Try
set_option maxRecDepth 100000
set_option maxHeartbeats 0
abbrev q29a:List Pk:=[]
abbrev q29b:Type:=Unit
abbrev q29c:Type:=List Diii
def q29d (r:q29c):LV×List Ob:=(.agg [.rs 0],[.rows Riii r])
def q29e (F:q29b→Option q29c):Go.Tx.Spec:=⟨17,q29a,q29c,F,q29d⟩
abbrev q29f:Type:=Unit
def q29g (_d:Nat):q29f:=()
def q29h (C:q29f):List Go.Tx.Spec:=[]
abbrev q29i:Type:=Unit
def q29j (v:q29i):St:=⟨[],[]⟩
abbrev q29k:Type:=List Diii
def q29l (v:q29k):St:=⟨[(0,.ptr 0 0)],[.cells [.rs 1],.rows Riii v]⟩
def q29m (C:q29f) (v:q29i):Dt q29k:=(Dt.ret ([]:List Diii))
abbrev q2ky {V Y:Type}:=@rg q29f V Y tysT (fun C=>(orc (q29h C))) 6
theorem q29n C v:q2ky (regO (qdv f17) 0) false [(0,(.box [.own Riii]))] q29j q29m q29l C v:=rgI (by kernel_rfl)
def q29o (C:q29f) (v:q29k):Dt q29k:=(Dt.ret ([((1:Int),(0:Int),(2:Int),()),((2:Int),(6:Int),(-1:Int),()),((5:Int),(0:Int),(0:Int),())]:List Diii))
theorem q29p C v:q2ky (regO (qdv f17) 1) false [(0,(.box [.own Riii]))] q29l q29o q29l C v:=rgI (by kernel_rfl)
def q29q (d:Nat) (x:q29b):Option q29c :=
 (q29m (q29g d) ()).eval fun y0 =>
 (q29o (q29g d) y0).eval fun y1 =>
 some y1
theorem q29r (d:Nat):COK prog (q29e (q29q d)):=by
 have hm:prog.follows .mixedOrders=true:=mixed
 have hT:=tys
 have hC0:OrcOK prog (orc (q29h (q29g d))):=qdp (by
  intro S hS
  simp only [q29h,List.mem_cons,List.not_mem_nil,or_false] at hS
  all_goals first | cases hS | exact hS.elim)
 have hC:OrcOK prog (orc (q29h (q29g d))):=hC0
 refine q9e (c:=qdv f17) (fn:=f17) hT (by kernel_rfl) (by kernel_rfl) (by decide) fun x r h w0 φ0 Q hend=>?_
 replace h:q29q d x=some r:=h
 unfold q29q at h
 show Run prog w0 φ0 6 (qdv f17) ⟨[],[]⟩ Q
 refine q2jr hm hT hC (q29n (q29g d) ()) h fun y0 h=>?_
 refine q2jr hm hT hC (q29p (q29g d) y0) h fun y1 h=>?_
 refine q8w ?_
 cases h
 exact (hend _ (by kernel_rfl)).2
abbrev q29s:List Pk:=[.row Ri false]
abbrev q29t:Type:=Di×Unit
abbrev q29u:Type:=Int×Int
def q29v (r:q29u):LV×List Ob:=(.agg [.int .i64 r.1,.int .i64 r.2],[])
def q29w (F:q29t→Option q29u):Go.Tx.Spec:=⟨16,q29s,q29u,F,q29v⟩
abbrev q29x:Type:=Unit
def q29y (_d:Nat):q29x:=()
def q29z (C:q29x):List Go.Tx.Spec:=[]
abbrev q2a0:Type:=Int
def q2a1 (v:q2a0):St:=⟨[(0,i6 v)],[]⟩
abbrev q2a2:Type:=Int×Int×Int
def q2a3 (v:q2a2):St:=⟨[(0,i6 v.1),(2,.ptr 0 0)],[.cells [i6 v.2.1,i6 v.2.2]]⟩
def q2a4 (C:q29x) (v:q2a0):Dt q2a2:=(Dt.ret (v,(0:Int),(0:Int)))
abbrev q2kz {V Y:Type}:=@rg q29x V Y tysT (fun C=>(orc (q29z C))) 5
theorem q2a5 C v:q2kz (regO (qdv f16) 0) false (an [0,2]) q2a1 q2a4 q2a3 C v:=rgI (by kernel_rfl)
abbrev q2a6:Type:=Int×Int
def q2a7 (v:q2a6):St:=⟨[(2,.ptr 0 0)],[.cells [i6 v.1,i6 v.2]]⟩
def q2a8 (C:q29x) (v:q2a2):Dt q2a6:=(Dt.ret (v.1,(1:Int)))
theorem q2a9 C v:q2kz (regO (qdv f16) 1) false [(2,.any)] q2a3 q2a8 q2a7 C v:=rgI (by kernel_rfl)
def q2aa (d:Nat) (x:q29t):Option q29u :=
 (q2a4 (q29y d) x.1.1).eval fun y0 =>
 (q2a8 (q29y d) y0).eval fun y1 =>
 some y1
theorem q2ab (d:Nat):COK prog (q29w (q2aa d)):=by
 have hm:prog.follows .mixedOrders=true:=mixed
 have hT:=tys
 have hC0:OrcOK prog (orc (q29z (q29y d))):=qdp (by
  intro S hS
  simp only [q29z,List.mem_cons,List.not_mem_nil,or_false] at hS
  all_goals first | cases hS | exact hS.elim)
 have hC:OrcOK prog (orc (q29z (q29y d))):=hC0
 refine q9e (c:=qdv f16) (fn:=f16) hT (by kernel_rfl) (by kernel_rfl) (by decide) fun x r h w0 φ0 Q hend=>?_
 replace h:q2aa d x=some r:=h
 unfold q2aa at h
 show Run prog w0 φ0 5 (qdv f16) ⟨[(0,.int .i64 x.1.1)],[]⟩ Q
 refine q2jr hm hT hC (q2a5 (q29y d) x.1.1) h fun y0 h=>?_
 refine q2jr hm hT hC (q2a9 (q29y d) y0) h fun y1 h=>?_
 refine q8w ?_
 cases h
 exact (hend _ (by kernel_rfl)).2
abbrev q2ac:List Pk:=[]
abbrev q2ad:Type:=Unit
abbrev q2ae:Type:=Bool
def q2af (r:q2ae):LV×List Ob:=(.bool r,[])
def q2ag (F:q2ad→Option q2ae):Go.Tx.Spec:=⟨12,q2ac,q2ae,F,q2af⟩
abbrev q2ah:Type:=(q1y1→Option q1y2)×(q16x→Option q16y)×(q29t→Option q29u)×(q29b→Option q29c)×(q1eb→Option q1ec)×Unit
def q2ai (d:Nat):q2ah:=(q1z3 d,q1a3 d,q2aa d,q29q d,q1fc d,())
def q2aj (C:q2ah):List Go.Tx.Spec:=[q1y4 C.1,q170 C.2.1,q29w C.2.2.1,q29e C.2.2.2.1,q1ee C.2.2.2.2.1]
abbrev q2ak:Type:=Unit
def q2al (v:q2ak):St:=⟨[],[]⟩
def q2am (C:q2ah) (v:q2ak):Dt q2ak:=(Dt.ret ())
abbrev q2l0 {V Y:Type}:=@rg q2ah V Y tysT (fun C=>(orc (q2aj C))) 95
theorem q2an C v:q2l0 (regO (qdv f12) 0) false [] q2al q2am q2al C v:=rgI (by kernel_rfl)
abbrev q2ao:Type:=Int×List Diii
def q2ap (v:q2ao):St:=⟨[(1,.rs 0),(2,i6 v.1)],[.rows Riii v.2]⟩
def q2aq (C:q2ah) (v:q2ak):Dt q2ao:=(Dt.bnd (C.2.2.2.1 (())) fun r1=>(Dt.bnd (C.2.2.1 (((-1:Int),()),())) fun r2=>(Dt.bnd (C.2.1 ((r1,()),(r2.1,r2.2,()),())) fun r3=>(Dt.ret (r3.2,r3.1)))))
theorem q2ar C v:q2l0 (regO (qdv f12) 1) false [(1,(.own Riii)),(2,.any)] q2al q2aq q2ap C v:=rgI (by kernel_rfl)
abbrev q2as:Type:=Int×Int×List Diii×List Diii
def q2at (v:q2as):St:=⟨[(1,.rs 0),(2,i6 v.1),(3,.rs 1),(4,i6 v.2.1)],[.rows Riii v.2.2.1,.rows Riii v.2.2.2]⟩
def q2au (C:q2ah) (v:q2ao):Dt q2as:=(Dt.bnd (C.2.2.2.1 (())) fun r1=>(Dt.bnd (C.2.2.1 (((3:Int),()),())) fun r2=>(Dt.bnd (C.2.1 ((r1,()),(r2.1,r2.2,()),())) fun r3=>(Dt.ret (v.1,r3.2,v.2,r3.1)))))
theorem q2av C v:q2l0 (regO (qdv f12) 2) false [(1,(.own Riii)),(2,.any),(3,(.own Riii)),(4,.any)] q2ap q2au q2at C v:=rgI (by kernel_rfl)
abbrev q2aw:Type:=Int×Int×Int×Int×List Diii×List Diii
def q2ax (v:q2aw):St:=⟨[(1,.rs 0),(2,i6 v.1),(3,.rs 1),(4,i6 v.2.1),(5,i6 v.2.2.1),(6,i6 v.2.2.2.1)],[.rows Riii v.2.2.2.2.1,.rows Riii v.2.2.2.2.2]⟩
def q2ay (C:q2ah) (v:q2as):Dt q2aw:=(Dt.bnd (C.2.2.1 (((2:Int),()),())) fun r1=>(Dt.bnd (C.2.2.2.2.1 ((v.2.2.1,()),(r1.1,r1.2,()),())) fun r2=>(Dt.ret (v.1,v.2.1,r2.1,r2.2,v.2.2.1,v.2.2.2))))
theorem q2az C v:q2l0 (regO (qdv f12) 3) false [(1,(.own Riii)),(2,.any),(3,(.own Riii)),(4,.any),(5,.any),(6,.any)] q2at q2ay q2ax C v:=rgI (by kernel_rfl)
abbrev q2b0:Type:=Int×Int×Int×Int×Int×Int×List Diii×List Diii
def q2b1 (v:q2b0):St:=⟨[(1,.rs 0),(2,i6 v.1),(3,.rs 1),(4,i6 v.2.1),(5,i6 v.2.2.1),(6,i6 v.2.2.2.1),(7,i6 v.2.2.2.2.1),(8,i6 v.2.2.2.2.2.1)],[.rows Riii v.2.2.2.2.2.2.1,.rows Riii v.2.2.2.2.2.2.2]⟩
def q2b2 (C:q2ah) (v:q2aw):Dt q2b0:=(Dt.bnd (C.2.2.1 (((1:Int),()),())) fun r1=>(Dt.bnd (C.2.2.2.2.1 ((v.2.2.2.2.1,()),(r1.1,r1.2,()),())) fun r2=>(Dt.ret (v.1,v.2.1,v.2.2.1,v.2.2.2.1,r2.1,r2.2,v.2.2.2.2.1,v.2.2.2.2.2))))
theorem q2b3 C v:q2l0 (regO (qdv f12) 4) false [(1,(.own Riii)),(2,.any),(3,(.own Riii)),(4,.any),(5,.any),(6,.any),(7,.any),(8,.any)] q2ax q2b2 q2b1 C v:=rgI (by kernel_rfl)
abbrev q2b4:Type:=Int×Int×Int×Int×Int×Int×Int×List Diii×List Diii×List Diii
def q2b5 (v:q2b4):St:=⟨[(1,.rs 0),(2,i6 v.1),(3,.rs 1),(4,i6 v.2.1),(5,i6 v.2.2.1),(6,i6 v.2.2.2.1),(7,i6 v.2.2.2.2.1),(8,i6 v.2.2.2.2.2.1),(9,.rs 2),(10,i6 v.2.2.2.2.2.2.1)],[.rows Riii v.2.2.2.2.2.2.2.1,.rows Riii v.2.2.2.2.2.2.2.2.1,.rows Riii v.2.2.2.2.2.2.2.2.2]⟩
def q2b6 (C:q2ah) (v:q2b0):Dt q2b4:=(Dt.bnd (C.2.2.2.1 (())) fun r1=>(Dt.ite (decide (0≤(1:Int))&&decide ((1:Int)≤(List.length r1:Int))) (Dt.bnd (C.2.2.1 (((-1:Int),()),())) fun r2=>(Dt.bnd (C.2.1 (((List.drop ((1:Int)).toNat r1),()),(r2.1,r2.2,()),())) fun r3=>(Dt.ret (v.1,v.2.1,v.2.2.1,v.2.2.2.1,v.2.2.2.2.1,v.2.2.2.2.2.1,r3.2,v.2.2.2.2.2.2.1,v.2.2.2.2.2.2.2,r3.1)))) Dt.fail))
theorem q2b7 C v:q2l0 (regO (qdv f12) 5) true [(1,(.own Riii)),(2,.any),(3,(.own Riii)),(4,.any),(5,.any),(6,.any),(7,.any),(8,.any),(9,(.own Riii)),(10,.any)] q2b1 q2b6 q2b5 C v:=rgI (by kernel_rfl)
abbrev q2b8:Type:=Bool
def q2b9 (v:q2b8):St:=⟨[(0,.bool v)],[]⟩
def q2ba (C:q2ah) (v:q2b4):Dt q2b8:=(Dt.ite (v.1 == (0:Int)) (Dt.bnd (C.2.2.1 (((-1:Int),()),())) fun r1=>(Dt.bnd (C.2.2.1 (((2:Int),()),())) fun r2=>(Dt.bnd (C.1 ((v.2.2.2.2.2.2.2.1,()),(([(r1.1,r1.2,(2:Int),()),(r2.1,r2.2,(1:Int),())]:List Diii),()),())) fun r3=>(Dt.ite r3 (Dt.ite (v.2.1 == (0:Int)) (Dt.bnd (C.2.2.1 (((3:Int),()),())) fun r4=>(Dt.bnd (C.1 ((v.2.2.2.2.2.2.2.2.1,()),(([(r4.1,r4.2,(1:Int),())]:List Diii),()),())) fun r5=>(Dt.ite r5 (Dt.ite (v.2.2.2.1 == (0:Int)) (Dt.ite (v.2.2.1 == (1:Int)) (Dt.ite (v.2.2.2.2.2.1 == (0:Int)) (Dt.ite (v.2.2.2.2.1 == (2:Int)) (Dt.ite (v.2.2.2.2.2.2.1 == (0:Int)) (Dt.bnd (C.2.2.1 (((-1:Int),()),())) fun r6=>(Dt.bnd (C.2.2.1 (((6:Int),()),())) fun r7=>(Dt.bnd (C.1 ((v.2.2.2.2.2.2.2.2.2,()),(([(r6.1,r6.2,(2:Int),()),(r7.1,r7.2,(5:Int),())]:List Diii),()),())) fun r8=>(Dt.ret r8)))) (Dt.ret false)) (Dt.ret false)) (Dt.ret false)) (Dt.ret false)) (Dt.ret false)) (Dt.ret false)))) (Dt.ret false)) (Dt.ret false))))) (Dt.ret false))
theorem q2bb C v:q2l0 (regO (qdv f12) 6) false [(0,.any)] q2b5 q2ba q2b9 C v:=rgI (by kernel_rfl)
def q2bc (d:Nat) (x:q2ad):Option q2ae :=
 (q2am (q2ai d) ()).eval fun y0 =>
 (q2aq (q2ai d) ()).eval fun y1 =>
 (q2au (q2ai d) y1).eval fun y2 =>
 (q2ay (q2ai d) y2).eval fun y3 =>
 (q2b2 (q2ai d) y3).eval fun y4 =>
 (q2b6 (q2ai d) y4).eval fun y5 =>
 (q2ba (q2ai d) y5).eval fun y6 =>
 some y6
theorem q2bd (d:Nat):COK prog (q2ag (q2bc d)):=by
 have hm:prog.follows .mixedOrders=true:=mixed
 have hT:=tys
 have hC0:OrcOK prog (orc (q2aj (q2ai d))):=qdp (by
  intro S hS
  simp only [q2aj,List.mem_cons,List.not_mem_nil,or_false] at hS
  rcases hS with rfl | rfl | rfl | rfl | rfl
  · exact q1z4 d
  · exact q1a4 d
  · exact q2ab d
  · exact q29r d
  · exact q1fd d)
 have hC:OrcOK prog (orc (q2aj (q2ai d))):=hC0
 refine q9e (c:=qdv f12) (fn:=f12) hT (by kernel_rfl) (by kernel_rfl) (by decide) fun x r h w0 φ0 Q hend=>?_
 replace h:q2bc d x=some r:=h
 unfold q2bc at h
 show Run prog w0 φ0 95 (qdv f12) ⟨[],[]⟩ Q
 refine q2jr hm hT hC (q2an (q2ai d) ()) h fun y0 h=>?_
 refine q2jr hm hT hC (q2ar (q2ai d) ()) h fun y1 h=>?_
 refine q2jr hm hT hC (q2av (q2ai d) y1) h fun y2 h=>?_
 refine q2jr hm hT hC (q2az (q2ai d) y2) h fun y3 h=>?_
 refine q2jr hm hT hC (q2b3 (q2ai d) y3) h fun y4 h=>?_
 refine q2jr hm hT hC (q2b7 (q2ai d) y4) h fun y5 h=>?_
 refine q2jr hm hT hC (q2bb (q2ai d) y5) h fun y6 h=>?_
 refine q8w ?_
 cases h
 exact (hend _ (by kernel_rfl)).2
abbrev q2ey:List Pk:=[]
abbrev q2ez:Type:=Unit
abbrev q2f0:Type:=List Diii
def q2f1 (r:q2f0):LV×List Ob:=(.agg [.rs 0],[.rows Riii r])
def q2f2 (F:q2ez→Option q2f0):Go.Tx.Spec:=⟨15,q2ey,q2f0,F,q2f1⟩
abbrev q2f3:Type:=Unit
def q2f4 (_d:Nat):q2f3:=()
def q2f5 (C:q2f3):List Go.Tx.Spec:=[]
abbrev q2f6:Type:=Unit
def q2f7 (v:q2f6):St:=⟨[],[]⟩
abbrev q2f8:Type:=List Diii
def q2f9 (v:q2f8):St:=⟨[(0,.ptr 0 0)],[.cells [.rs 1],.rows Riii v]⟩
def q2fa (C:q2f3) (v:q2f6):Dt q2f8:=(Dt.ret ([]:List Diii))
abbrev q2l3 {V Y:Type}:=@rg q2f3 V Y tysT (fun C=>(orc (q2f5 C))) 2
theorem q2fb C v:q2l3 (regO (qdv f15) 0) false [(0,(.box [.own Riii]))] q2f7 q2fa q2f9 C v:=rgI (by kernel_rfl)
def q2fc (C:q2f3) (v:q2f8):Dt q2f8:=(Dt.ret ([]:List Diii))
theorem q2fd C v:q2l3 (regO (qdv f15) 1) false [(0,(.box [.own Riii]))] q2f9 q2fc q2f9 C v:=rgI (by kernel_rfl)
def q2fe (d:Nat) (x:q2ez):Option q2f0 :=
 (q2fa (q2f4 d) ()).eval fun y0 =>
 (q2fc (q2f4 d) y0).eval fun y1 =>
 some y1
theorem q2ff (d:Nat):COK prog (q2f2 (q2fe d)):=by
 have hm:prog.follows .mixedOrders=true:=mixed
 have hT:=tys
 have hC0:OrcOK prog (orc (q2f5 (q2f4 d))):=qdp (by
  intro S hS
  simp only [q2f5,List.mem_cons,List.not_mem_nil,or_false] at hS
  all_goals first | cases hS | exact hS.elim)
 have hC:OrcOK prog (orc (q2f5 (q2f4 d))):=hC0
 refine q9e (c:=qdv f15) (fn:=f15) hT (by kernel_rfl) (by kernel_rfl) (by decide) fun x r h w0 φ0 Q hend=>?_
 replace h:q2fe d x=some r:=h
 unfold q2fe at h
 show Run prog w0 φ0 2 (qdv f15) ⟨[],[]⟩ Q
 refine q2jr hm hT hC (q2fb (q2f4 d) ()) h fun y0 h=>?_
 refine q2jr hm hT hC (q2fd (q2f4 d) y0) h fun y1 h=>?_
 refine q8w ?_
 cases h
 exact (hend _ (by kernel_rfl)).2
abbrev q2fg:List Pk:=[]
abbrev q2fh:Type:=Unit
abbrev q2fi:Type:=Bool
def q2fj (r:q2fi):LV×List Ob:=(.bool r,[])
def q2fk (F:q2fh→Option q2fi):Go.Tx.Spec:=⟨5,q2fg,q2fi,F,q2fj⟩
abbrev q2fl:Type:=(q1oo→Option q1op)×(q1y1→Option q1y2)×(q2ad→Option q2ae)×(q16x→Option q16y)×(q2ez→Option q2f0)×(q29t→Option q29u)×(q29b→Option q29c)×(q1eb→Option q1ec)×(q1a6→Option q1a7)×Unit
def q2fm (d:Nat):q2fl:=(q1td d,q1z3 d,q2bc d,q1a3 d,q2fe d,q2aa d,q29q d,q1fc d,q1bi d,())
def q2fn (C:q2fl):List Go.Tx.Spec:=[q1or C.1,q1y4 C.2.1,q2ag C.2.2.1,q170 C.2.2.2.1,q2f2 C.2.2.2.2.1,q29w C.2.2.2.2.2.1,q29e C.2.2.2.2.2.2.1,q1ee C.2.2.2.2.2.2.2.1,q1a9 C.2.2.2.2.2.2.2.2.1]
abbrev q2fo:Type:=Unit
def q2fp (v:q2fo):St:=⟨[],[]⟩
def q2fq (C:q2fl) (v:q2fo):Dt q2fo:=(Dt.ret ())
abbrev q2l4 {V Y:Type}:=@rg q2fl V Y tysT (fun C=>(orc (q2fn C))) 311
theorem q2fr C v:q2l4 (regO (qdv f5) 0) false [] q2fp q2fq q2fp C v:=rgI (by kernel_rfl)
abbrev q2fs:Type:=Int
def q2ft (v:q2fs):St:=⟨[(2,i6 v)],[]⟩
def q2fu (C:q2fl) (v:q2fo):Dt q2fs:=(Dt.bnd (C.2.2.2.2.1 (())) fun r1=>(Dt.bnd (C.2.2.2.2.2.1 (((0:Int),()),())) fun r2=>(Dt.bnd (C.2.2.2.1 ((r1,()),(r2.1,r2.2,()),())) fun r3=>(Dt.ret r3.2))))
theorem q2fv C v:q2l4 (regO (qdv f5) 1) false [(2,.any)] q2fp q2fu q2ft C v:=rgI (by kernel_rfl)
abbrev q2fw:Type:=Int×Int
def q2fx (v:q2fw):St:=⟨[(2,i6 v.1),(4,i6 v.2)],[]⟩
def q2fy (C:q2fl) (v:q2fs):Dt q2fw:=(Dt.bnd (C.2.2.2.2.2.2.1 (())) fun r1=>(Dt.bnd (C.2.2.2.1 ((r1,()),((0:Int),(0:Int),()),())) fun r2=>(Dt.ret (v,r2.2))))
theorem q2fz C v:q2l4 (regO (qdv f5) 2) false (an [2,4]) q2ft q2fy q2fx C v:=rgI (by kernel_rfl)
abbrev q2g0:Type:=Int×Int×Int
def q2g1 (v:q2g0):St:=⟨[(2,i6 v.1),(4,i6 v.2.1),(6,i6 v.2.2)],[]⟩
def q2g2 (C:q2fl) (v:q2fw):Dt q2g0:=(Dt.ite (mkB (65:Int) (65:Int)) (Dt.bnd (C.2.2.2.1 (((List.replicate ((65:Int)).toNat ziii),()),((0:Int),(0:Int),()),())) fun r1=>(Dt.ret (v.1,v.2,r1.2))) Dt.fail)
theorem q2g3 C v:q2l4 (regO (qdv f5) 3) false (an [2,4,6]) q2fx q2g2 q2g1 C v:=rgI (by kernel_rfl)
abbrev q2g4:Type:=Int×Int×Int×Int
def q2g5 (v:q2g4):St:=⟨[(2,i6 v.1),(4,i6 v.2.1),(6,i6 v.2.2.1),(8,i6 v.2.2.2)],[]⟩
def q2g6 (C:q2fl) (v:q2g0):Dt q2g4:=(Dt.bnd (C.2.2.2.2.1 (())) fun r1=>(Dt.bnd (C.2.2.2.1 ((r1,()),((0:Int),(0:Int),()),())) fun r2=>(Dt.ret (v.1,v.2.1,v.2.2,r2.2))))
theorem q2g7 C v:q2l4 (regO (qdv f5) 4) false (an [2,4,6,8]) q2g1 q2g6 q2g5 C v:=rgI (by kernel_rfl)
abbrev q2g8:Type:=Int×Int×Int×Int×List Diii
def q2g9 (v:q2g8):St:=⟨[(2,i6 v.1),(4,i6 v.2.1),(6,i6 v.2.2.1),(8,i6 v.2.2.2.1),(9,.rs 0)],[.rows Riii v.2.2.2.2]⟩
def q2ga (C:q2fl) (v:q2g4):Dt q2g8:=(Dt.bnd (C.2.2.2.2.2.1 (((1:Int),()),())) fun r1=>(Dt.ret (v.1,v.2.1,v.2.2.1,v.2.2.2,([(r1.1,r1.2,(1:Int),())]:List Diii))))
theorem q2gb C v:q2l4 (regO (qdv f5) 5) false [(2,.any),(4,.any),(6,.any),(8,.any),(9,(.own Riii))] q2g5 q2ga q2g9 C v:=rgI (by kernel_rfl)
abbrev q2gc:Type:=Int×Int×Int×Int×List Diii×List Diii
def q2gd (v:q2gc):St:=⟨[(2,i6 v.1),(4,i6 v.2.1),(6,i6 v.2.2.1),(8,i6 v.2.2.2.1),(9,.rs 0),(10,.rs 1)],[.rows Riii v.2.2.2.2.1,.rows Riii v.2.2.2.2.2]⟩
def q2ge (C:q2fl) (v:q2g8):Dt q2gc:=(Dt.ite (mkB (301:Int) (301:Int)) (Dt.ret (v.1,v.2.1,v.2.2.1,v.2.2.2.1,v.2.2.2.2,(List.replicate ((301:Int)).toNat ziii))) Dt.fail)
theorem q2gf C v:q2l4 (regO (qdv f5) 6) false [(2,.any),(4,.any),(6,.any),(8,.any),(9,(.own Riii)),(10,(.own Riii))] q2g9 q2ge q2gd C v:=rgI (by kernel_rfl)
abbrev q2gg:Type:=Int×Int×Int×Int×Int×List Diii×List Diii
def q2gh (v:q2gg):St:=⟨[(2,i6 v.1),(4,i6 v.2.1),(6,i6 v.2.2.1),(8,i6 v.2.2.2.1),(9,.rs 0),(10,.rs 1),(11,i6 v.2.2.2.2.1)],[.rows Riii v.2.2.2.2.2.1,.rows Riii v.2.2.2.2.2.2]⟩
def q2gi (C:q2fl) (v:q2gc):Dt q2gg:=(Dt.ret (v.1,v.2.1,v.2.2.1,v.2.2.2.1,(0:Int),v.2.2.2.2.1,v.2.2.2.2.2))
theorem q2gj C v:q2l4 (regO (qdv f5) 7) false [(2,.any),(4,.any),(6,.any),(8,.any),(9,(.own Riii)),(10,(.own Riii)),(11,.any)] q2gd q2gi q2gh C v:=rgI (by kernel_rfl)
abbrev q2gk:Type:=Int×Int×Int×Int×Int×Bool×List Diii×List Diii
def q2gl (v:q2gk):St:=⟨[(2,i6 v.1),(4,i6 v.2.1),(6,i6 v.2.2.1),(8,i6 v.2.2.2.1),(9,.rs 0),(10,.rs 1),(11,i6 v.2.2.2.2.1),(68,.bool v.2.2.2.2.2.1)],[.rows Riii v.2.2.2.2.2.2.1,.rows Riii v.2.2.2.2.2.2.2]⟩
def q2gm (C:q2fl) (v:q2gg):Dt q2gk:=(Dt.ret (v.1,v.2.1,v.2.2.1,v.2.2.2.1,v.2.2.2.2.1,(decide (v.2.2.2.2.1<(301:Int))),v.2.2.2.2.2.1,v.2.2.2.2.2.2))
theorem q2gn C v:q2l4 (regO (qdv f5) 8) false [(2,.any),(4,.any),(6,.any),(8,.any),(9,(.own Riii)),(10,(.own Riii)),(11,.any),(68,.any)] q2gh q2gm q2gl C v:=rgI (by kernel_rfl)
def q2go (C:q2fl) (v:q2gk):Dt q2gg:=(Dt.bnd (C.2.2.2.2.2.1 ((v.2.2.2.2.1,()),())) fun r1=>(Dt.ite (inB v.2.2.2.2.1 (List.length v.2.2.2.2.2.2.2)) (Dt.ret (v.1,v.2.1,v.2.2.1,v.2.2.2.1,v.2.2.2.2.1,v.2.2.2.2.2.2.1,(List.set v.2.2.2.2.2.2.2 (v.2.2.2.2.1).toNat (r1.1,r1.2,v.2.2.2.2.1,())))) Dt.fail))
theorem q2gp C v:q2l4 (regO (qdv f5) 10) false [(2,.any),(4,.any),(6,.any),(8,.any),(9,(.own Riii)),(10,(.own Riii)),(11,.any)] q2gl q2go q2gh C v:=rgI (by kernel_rfl)
def q2gq (C:q2fl) (v:q2gg):Dt q2gg:=(Dt.ret (v.1,v.2.1,v.2.2.1,v.2.2.2.1,(IntKind.wrap .i64 (v.2.2.2.2.1+(1:Int))),v.2.2.2.2.2.1,v.2.2.2.2.2.2))
theorem q2gr C v:q2l4 (regO (qdv f5) 9) false [(2,.any),(4,.any),(6,.any),(8,.any),(9,(.own Riii)),(10,(.own Riii)),(11,.any)] q2gh q2gq q2gh C v:=rgI (by kernel_rfl)
abbrev q2gs:Type:=Int×Int×Int×Int×List Diii×Int×Bool×List Diii
def q2gt (v:q2gs):St:=⟨[(2,i6 v.1),(4,i6 v.2.1),(6,i6 v.2.2.1),(8,i6 v.2.2.2.1),(9,.rs 0),(10,.fz Riii v.2.2.2.2.1),(11,i6 v.2.2.2.2.2.1),(68,.bool v.2.2.2.2.2.2.1)],[.rows Riii v.2.2.2.2.2.2.2]⟩
abbrev q2gu:Type:=Int×Int×Int×Int×List Diii×List Diii×List qkb
def q2gv (v:q2gu):St:=⟨[(2,i6 v.1),(4,i6 v.2.1),(6,i6 v.2.2.1),(8,i6 v.2.2.2.1),(9,.rs 0),(10,.fz Riii v.2.2.2.2.1),(12,.rs 1)],[.rows Riii v.2.2.2.2.2.1,.rows qka v.2.2.2.2.2.2]⟩
def q2gw (C:q2fl) (v:q2gs):Dt q2gu:=(Dt.bnd (C.2.2.2.2.2.1 (((1:Int),()),())) fun r1=>(Dt.bnd (C.2.2.2.2.2.1 (((1:Int),()),())) fun r2=>(Dt.bnd (C.2.2.2.2.2.1 (((1:Int),()),())) fun r3=>(Dt.bnd (C.2.2.2.2.2.1 (((1:Int),()),())) fun r4=>(Dt.bnd (C.2.2.2.2.2.1 (((2:Int),()),())) fun r5=>(Dt.bnd (C.2.2.2.2.2.1 (((1:Int),()),())) fun r6=>(Dt.bnd (C.2.2.2.2.2.1 (((1:Int),()),())) fun r7=>(Dt.bnd (C.2.2.2.2.2.1 (((2:Int),()),())) fun r8=>(Dt.ret (v.1,v.2.1,v.2.2.1,v.2.2.2.1,v.2.2.2.2.1,v.2.2.2.2.2.2.2,([([],()),(v.2.2.2.2.1,()),(([((0:Int),(0:Int),(1:Int),())]:List Diii),()),(([(r1.1,r1.2,(-1:Int),())]:List Diii),()),(([(r2.1,r2.2,(65536:Int),())]:List Diii),()),(([(r3.1,r3.2,(1:Int),()),(r4.1,r4.2,(2:Int),())]:List Diii),()),(([(r5.1,r5.2,(1:Int),()),(r6.1,r6.2,(2:Int),())]:List Diii),()),(([(r7.1,r7.2,(1:Int),()),(r8.1,r8.2,(1:Int),())]:List Diii),())]:List qkb)))))))))))
theorem q2gx C v:q2l4 (regO (qdv f5) 11) false [(2,.any),(4,.any),(6,.any),(8,.any),(9,(.own Riii)),(10,(.val Riii)),(12,(.own qka))] q2gt q2gw q2gv C v:=rgI (by kernel_rfl)
abbrev q2gy:Type:=Int×Int×Int×Int×List Diii×Int×List Diii×List qkb
def q2gz (v:q2gy):St:=⟨[(2,i6 v.1),(4,i6 v.2.1),(6,i6 v.2.2.1),(8,i6 v.2.2.2.1),(9,.rs 0),(10,.fz Riii v.2.2.2.2.1),(12,.rs 1),(13,i6 v.2.2.2.2.2.1)],[.rows Riii v.2.2.2.2.2.2.1,.rows qka v.2.2.2.2.2.2.2]⟩
def q2h0 (C:q2fl) (v:q2gu):Dt q2gy:=(Dt.ret (v.1,v.2.1,v.2.2.1,v.2.2.2.1,v.2.2.2.2.1,(0:Int),v.2.2.2.2.2.1,v.2.2.2.2.2.2))
theorem q2h1 C v:q2l4 (regO (qdv f5) 12) false [(2,.any),(4,.any),(6,.any),(8,.any),(9,(.own Riii)),(10,(.val Riii)),(12,(.own qka)),(13,.any)] q2gv q2h0 q2gz C v:=rgI (by kernel_rfl)
abbrev q2h2:Type:=Int×Int×Int×Int×List Diii×Int×Bool×List Diii×List qkb
def q2h3 (v:q2h2):St:=⟨[(2,i6 v.1),(4,i6 v.2.1),(6,i6 v.2.2.1),(8,i6 v.2.2.2.1),(9,.rs 0),(10,.fz Riii v.2.2.2.2.1),(12,.rs 1),(13,i6 v.2.2.2.2.2.1),(107,.bool v.2.2.2.2.2.2.1)],[.rows Riii v.2.2.2.2.2.2.2.1,.rows qka v.2.2.2.2.2.2.2.2]⟩
def q2h4 (C:q2fl) (v:q2gy):Dt q2h2:=(Dt.ret (v.1,v.2.1,v.2.2.1,v.2.2.2.1,v.2.2.2.2.1,v.2.2.2.2.2.1,(decide (v.2.2.2.2.2.1<(List.length v.2.2.2.2.2.2.2:Int))),v.2.2.2.2.2.2.1,v.2.2.2.2.2.2.2))
theorem q2h5 C v:q2l4 (regO (qdv f5) 13) false [(2,.any),(4,.any),(6,.any),(8,.any),(9,(.own Riii)),(10,(.val Riii)),(12,(.own qka)),(13,.any),(107,.any)] q2gz q2h4 q2h3 C v:=rgI (by kernel_rfl)
abbrev q2h6:Type:=Int×Int×Int×Int×List Diii×Int×Int×List Diii×List qkb
def q2h7 (v:q2h6):St:=⟨[(2,i6 v.1),(4,i6 v.2.1),(6,i6 v.2.2.1),(8,i6 v.2.2.2.1),(9,.rs 0),(10,.fz Riii v.2.2.2.2.1),(12,.rs 1),(13,i6 v.2.2.2.2.2.1),(15,i6 v.2.2.2.2.2.2.1)],[.rows Riii v.2.2.2.2.2.2.2.1,.rows qka v.2.2.2.2.2.2.2.2]⟩
def q2h8 (C:q2fl) (v:q2h2):Dt q2h6:=(Dt.ite (inB v.2.2.2.2.2.1 (List.length v.2.2.2.2.2.2.2.2)) (Dt.bnd (C.2.2.2.2.2.2.2.1 (((elt qkc v.2.2.2.2.2.2.2.2 (v.2.2.2.2.2.1).toNat).1,()),((0:Int),(0:Int),()),())) fun r1=>(Dt.ret (v.1,v.2.1,v.2.2.1,v.2.2.2.1,v.2.2.2.2.1,v.2.2.2.2.2.1,r1.2,v.2.2.2.2.2.2.2.1,v.2.2.2.2.2.2.2.2))) Dt.fail)
theorem q2h9 C v:q2l4 (regO (qdv f5) 15) false [(2,.any),(4,.any),(6,.any),(8,.any),(9,(.own Riii)),(10,(.val Riii)),(12,(.own qka)),(13,.any),(15,.any)] q2h3 q2h8 q2h7 C v:=rgI (by kernel_rfl)
abbrev q2ha:Type:=Int×Int×Int×Int×List Diii×Int×Int×Int×List Diii×List qkb
def q2hb (v:q2ha):St:=⟨[(2,i6 v.1),(4,i6 v.2.1),(6,i6 v.2.2.1),(8,i6 v.2.2.2.1),(9,.rs 0),(10,.fz Riii v.2.2.2.2.1),(12,.rs 1),(13,i6 v.2.2.2.2.2.1),(15,i6 v.2.2.2.2.2.2.1),(17,i6 v.2.2.2.2.2.2.2.1)],[.rows Riii v.2.2.2.2.2.2.2.2.1,.rows qka v.2.2.2.2.2.2.2.2.2]⟩
def q2hc (C:q2fl) (v:q2h6):Dt q2ha:=(Dt.bnd (C.2.2.2.2.2.2.1 (())) fun r1=>(Dt.ite (inB v.2.2.2.2.2.1 (List.length v.2.2.2.2.2.2.2.2)) (Dt.bnd (C.1 ((r1,()),(v.2.2.2.2.2.2.2.1,()),((elt qkc v.2.2.2.2.2.2.2.2 (v.2.2.2.2.2.1).toNat).1,()),())) fun r2=>(Dt.ret (v.1,v.2.1,v.2.2.1,v.2.2.2.1,v.2.2.2.2.1,v.2.2.2.2.2.1,v.2.2.2.2.2.2.1,r2.2,v.2.2.2.2.2.2.2.1,v.2.2.2.2.2.2.2.2))) Dt.fail))
theorem q2hd C v:q2l4 (regO (qdv f5) 16) true [(2,.any),(4,.any),(6,.any),(8,.any),(9,(.own Riii)),(10,(.val Riii)),(12,(.own qka)),(13,.any),(15,.any),(17,.any)] q2h7 q2hc q2hb C v:=rgI (by kernel_rfl)
abbrev q2he:Type:=Int×Int×Int×Int×List Diii×Int×Int×Int×Int×List Diii×List qkb
def q2hf (v:q2he):St:=⟨[(2,i6 v.1),(4,i6 v.2.1),(6,i6 v.2.2.1),(8,i6 v.2.2.2.1),(9,.rs 0),(10,.fz Riii v.2.2.2.2.1),(12,.rs 1),(13,i6 v.2.2.2.2.2.1),(15,i6 v.2.2.2.2.2.2.1),(17,i6 v.2.2.2.2.2.2.2.1),(19,i6 v.2.2.2.2.2.2.2.2.1)],[.rows Riii v.2.2.2.2.2.2.2.2.2.1,.rows qka v.2.2.2.2.2.2.2.2.2.2]⟩
def q2hg (C:q2fl) (v:q2ha):Dt q2he:=(Dt.bnd (C.2.2.2.2.2.2.1 (())) fun r1=>(Dt.ite (inB v.2.2.2.2.2.1 (List.length v.2.2.2.2.2.2.2.2.2)) (Dt.bnd (C.1 ((r1,()),((elt qkc v.2.2.2.2.2.2.2.2.2 (v.2.2.2.2.2.1).toNat).1,()),(v.2.2.2.2.2.2.2.2.1,()),())) fun r2=>(Dt.ret (v.1,v.2.1,v.2.2.1,v.2.2.2.1,v.2.2.2.2.1,v.2.2.2.2.2.1,v.2.2.2.2.2.2.1,v.2.2.2.2.2.2.2.1,r2.2,v.2.2.2.2.2.2.2.2.1,v.2.2.2.2.2.2.2.2.2))) Dt.fail))
theorem q2hh C v:q2l4 (regO (qdv f5) 17) true [(2,.any),(4,.any),(6,.any),(8,.any),(9,(.own Riii)),(10,(.val Riii)),(12,(.own qka)),(13,.any),(15,.any),(17,.any),(19,.any)] q2hb q2hg q2hf C v:=rgI (by kernel_rfl)
abbrev q2hi:Type:=Int×Int×Int×Int×List Diii×Int×Bool×List Diii×List qkb
def q2hj (v:q2hi):St:=⟨[(2,i6 v.1),(4,i6 v.2.1),(6,i6 v.2.2.1),(8,i6 v.2.2.2.1),(9,.rs 0),(10,.fz Riii v.2.2.2.2.1),(12,.rs 1),(13,i6 v.2.2.2.2.2.1),(156,.bool v.2.2.2.2.2.2.1)],[.rows Riii v.2.2.2.2.2.2.2.1,.rows qka v.2.2.2.2.2.2.2.2]⟩
def q2hk (C:q2fl) (v:q2he):Dt q2hi:=(Dt.ite (inB v.2.2.2.2.2.1 (List.length v.2.2.2.2.2.2.2.2.2.2)) (Dt.bnd (C.2.2.2.2.2.2.2.2.1 (((elt qkc v.2.2.2.2.2.2.2.2.2.2 (v.2.2.2.2.2.1).toNat).1,()),())) fun r1=>(Dt.ite (r1 != (8:Int)) (Dt.ret (v.1,v.2.1,v.2.2.1,v.2.2.2.1,v.2.2.2.2.1,v.2.2.2.2.2.1,true,v.2.2.2.2.2.2.2.2.2.1,v.2.2.2.2.2.2.2.2.2.2)) (Dt.ite (v.2.2.2.2.2.2.1 != (8:Int)) (Dt.ret (v.1,v.2.1,v.2.2.1,v.2.2.2.1,v.2.2.2.2.1,v.2.2.2.2.2.1,true,v.2.2.2.2.2.2.2.2.2.1,v.2.2.2.2.2.2.2.2.2.2)) (Dt.ite (v.2.2.2.2.2.2.2.1 != (8:Int)) (Dt.ret (v.1,v.2.1,v.2.2.1,v.2.2.2.1,v.2.2.2.2.1,v.2.2.2.2.2.1,true,v.2.2.2.2.2.2.2.2.2.1,v.2.2.2.2.2.2.2.2.2.2)) (Dt.ret (v.1,v.2.1,v.2.2.1,v.2.2.2.1,v.2.2.2.2.1,v.2.2.2.2.2.1,(v.2.2.2.2.2.2.2.2.1 != (8:Int)),v.2.2.2.2.2.2.2.2.2.1,v.2.2.2.2.2.2.2.2.2.2)))))) Dt.fail)
theorem q2hl C v:q2l4 (regO (qdv f5) 18) false [(2,.any),(4,.any),(6,.any),(8,.any),(9,(.own Riii)),(10,(.val Riii)),(12,(.own qka)),(13,.any),(156,.any)] q2hf q2hk q2hj C v:=rgI (by kernel_rfl)
abbrev q2hm:Type:=Bool
def q2hn (v:q2hm):St:=⟨[(0,.bool v)],[]⟩
def q2ho (C:q2fl) (v:q2hi):Dt q2hm:=(Dt.ret false)
theorem q2hp C v:q2l4 (regO (qdv f5) 19) false [(0,.any)] q2hj q2ho q2hn C v:=rgI (by kernel_rfl)
def q2hq (C:q2fl) (v:q2hi):Dt q2gy:=(Dt.ret (v.1,v.2.1,v.2.2.1,v.2.2.2.1,v.2.2.2.2.1,(IntKind.wrap .i64 (v.2.2.2.2.2.1+(1:Int))),v.2.2.2.2.2.2.2.1,v.2.2.2.2.2.2.2.2))
theorem q2hr C v:q2l4 (regO (qdv f5) 14) false [(2,.any),(4,.any),(6,.any),(8,.any),(9,(.own Riii)),(10,(.val Riii)),(12,(.own qka)),(13,.any)] q2hj q2hq q2gz C v:=rgI (by kernel_rfl)
abbrev q2hs:Type:=Int×Int×Int×Int×List Diii×Int×List Diii
def q2ht (v:q2hs):St:=⟨[(2,i6 v.1),(4,i6 v.2.1),(6,i6 v.2.2.1),(8,i6 v.2.2.2.1),(9,.rs 0),(10,.fz Riii v.2.2.2.2.1),(21,i6 v.2.2.2.2.2.1)],[.rows Riii v.2.2.2.2.2.2]⟩
def q2hu (C:q2fl) (v:q2h2):Dt q2hs:=(Dt.bnd (C.2.2.2.2.2.1 (((0:Int),()),())) fun r1=>(Dt.bnd (C.2.2.2.2.2.2.2.1 ((v.2.2.2.2.2.2.2.1,()),(r1.1,r1.2,()),())) fun r2=>(Dt.ret (v.1,v.2.1,v.2.2.1,v.2.2.2.1,v.2.2.2.2.1,r2.2,v.2.2.2.2.2.2.2.1))))
theorem q2hv C v:q2l4 (regO (qdv f5) 20) false [(2,.any),(4,.any),(6,.any),(8,.any),(9,(.own Riii)),(10,(.val Riii)),(21,.any)] q2h3 q2hu q2ht C v:=rgI (by kernel_rfl)
abbrev q2hw:Type:=Int×Int×Int×Int×List Diii×Int×Int×List Diii
def q2hx (v:q2hw):St:=⟨[(2,i6 v.1),(4,i6 v.2.1),(6,i6 v.2.2.1),(8,i6 v.2.2.2.1),(9,.rs 0),(10,.fz Riii v.2.2.2.2.1),(21,i6 v.2.2.2.2.2.1),(23,i6 v.2.2.2.2.2.2.1)],[.rows Riii v.2.2.2.2.2.2.2]⟩
def q2hy (C:q2fl) (v:q2hs):Dt q2hw:=(Dt.bnd (C.2.2.2.2.2.2.2.1 ((v.2.2.2.2.2.2,()),((2:Int),(2:Int),()),())) fun r1=>(Dt.ret (v.1,v.2.1,v.2.2.1,v.2.2.2.1,v.2.2.2.2.1,v.2.2.2.2.2.1,r1.2,v.2.2.2.2.2.2)))
theorem q2hz C v:q2l4 (regO (qdv f5) 21) false [(2,.any),(4,.any),(6,.any),(8,.any),(9,(.own Riii)),(10,(.val Riii)),(21,.any),(23,.any)] q2ht q2hy q2hx C v:=rgI (by kernel_rfl)
abbrev q2i0:Type:=Int×Int×Int×Int×Int×Int×Int×Int×List Diii
def q2i1 (v:q2i0):St:=⟨[(2,i6 v.1),(4,i6 v.2.1),(6,i6 v.2.2.1),(8,i6 v.2.2.2.1),(9,.rs 0),(21,i6 v.2.2.2.2.1),(23,i6 v.2.2.2.2.2.1),(24,i6 v.2.2.2.2.2.2.1),(25,i6 v.2.2.2.2.2.2.2.1)],[.rows Riii v.2.2.2.2.2.2.2.2]⟩
def q2i2 (C:q2fl) (v:q2hw):Dt q2i0:=(Dt.ite (decide (0≤(300:Int))&&decide ((300:Int)≤(List.length v.2.2.2.2.1:Int))) (Dt.bnd (C.2.2.2.2.2.1 (((1000:Int),()),())) fun r1=>(Dt.bnd (C.2.2.2.2.2.2.2.1 (((List.take ((300:Int)).toNat v.2.2.2.2.1),()),(r1.1,r1.2,()),())) fun r2=>(Dt.ret (v.1,v.2.1,v.2.2.1,v.2.2.2.1,v.2.2.2.2.2.1,v.2.2.2.2.2.2.1,r2.1,r2.2,v.2.2.2.2.2.2.2)))) Dt.fail)
theorem q2i3 C v:q2l4 (regO (qdv f5) 22) true [(2,.any),(4,.any),(6,.any),(8,.any),(9,(.own Riii)),(21,.any),(23,.any),(24,.any),(25,.any)] q2hx q2i2 q2i1 C v:=rgI (by kernel_rfl)
abbrev q2i4:Type:=Int×Int×Int×Int×Int×Int×Int×Int×Int×List Diii
def q2i5 (v:q2i4):St:=⟨[(2,i6 v.1),(4,i6 v.2.1),(6,i6 v.2.2.1),(8,i6 v.2.2.2.1),(9,.rs 0),(21,i6 v.2.2.2.2.1),(23,i6 v.2.2.2.2.2.1),(24,i6 v.2.2.2.2.2.2.1),(25,i6 v.2.2.2.2.2.2.2.1),(27,i6 v.2.2.2.2.2.2.2.2.1)],[.rows Riii v.2.2.2.2.2.2.2.2.2]⟩
def q2i6 (C:q2fl) (v:q2i0):Dt q2i4:=(Dt.ite (mkB (65:Int) (65:Int)) (Dt.bnd (C.1 (((List.replicate ((65:Int)).toNat ziii),()),([],()),([],()),())) fun r1=>(Dt.ret (v.1,v.2.1,v.2.2.1,v.2.2.2.1,v.2.2.2.2.1,v.2.2.2.2.2.1,v.2.2.2.2.2.2.1,v.2.2.2.2.2.2.2.1,r1.2,v.2.2.2.2.2.2.2.2))) Dt.fail)
theorem q2i7 C v:q2l4 (regO (qdv f5) 23) false [(2,.any),(4,.any),(6,.any),(8,.any),(9,(.own Riii)),(21,.any),(23,.any),(24,.any),(25,.any),(27,.any)] q2i1 q2i6 q2i5 C v:=rgI (by kernel_rfl)
abbrev q2i8:Type:=Int×Int×Int×Int×Int×Int×Int×Int×Int×Int×List Diii
def q2i9 (v:q2i8):St:=⟨[(2,i6 v.1),(4,i6 v.2.1),(6,i6 v.2.2.1),(8,i6 v.2.2.2.1),(9,.rs 0),(21,i6 v.2.2.2.2.1),(23,i6 v.2.2.2.2.2.1),(24,i6 v.2.2.2.2.2.2.1),(25,i6 v.2.2.2.2.2.2.2.1),(27,i6 v.2.2.2.2.2.2.2.2.1),(29,i6 v.2.2.2.2.2.2.2.2.2.1)],[.rows Riii v.2.2.2.2.2.2.2.2.2.2]⟩
def q2ia (C:q2fl) (v:q2i4):Dt q2i8:=(Dt.bnd (C.2.2.2.2.2.2.1 (())) fun r1=>(Dt.bnd (C.2.2.2.2.2.1 (((2:Int),()),())) fun r2=>(Dt.bnd (C.1 ((r1,()),(v.2.2.2.2.2.2.2.2.2,()),(([(r2.1,r2.2,(9:Int),())]:List Diii),()),())) fun r3=>(Dt.ret (v.1,v.2.1,v.2.2.1,v.2.2.2.1,v.2.2.2.2.1,v.2.2.2.2.2.1,v.2.2.2.2.2.2.1,v.2.2.2.2.2.2.2.1,v.2.2.2.2.2.2.2.2.1,r3.2,v.2.2.2.2.2.2.2.2.2)))))
theorem q2ib C v:q2l4 (regO (qdv f5) 24) false [(2,.any),(4,.any),(6,.any),(8,.any),(9,(.own Riii)),(21,.any),(23,.any),(24,.any),(25,.any),(27,.any),(29,.any)] q2i5 q2ia q2i9 C v:=rgI (by kernel_rfl)
abbrev q2ic:Type:=Int×Int×Int×Int×Int×Int×Int×Int×Int×Int×Int×List Diii
def q2id (v:q2ic):St:=⟨[(2,i6 v.1),(4,i6 v.2.1),(6,i6 v.2.2.1),(8,i6 v.2.2.2.1),(9,.rs 0),(21,i6 v.2.2.2.2.1),(23,i6 v.2.2.2.2.2.1),(24,i6 v.2.2.2.2.2.2.1),(25,i6 v.2.2.2.2.2.2.2.1),(27,i6 v.2.2.2.2.2.2.2.2.1),(29,i6 v.2.2.2.2.2.2.2.2.2.1),(31,i6 v.2.2.2.2.2.2.2.2.2.2.1)],[.rows Riii v.2.2.2.2.2.2.2.2.2.2.2]⟩
def q2ie (C:q2fl) (v:q2i8):Dt q2ic:=(Dt.bnd (C.2.2.2.2.2.2.1 (())) fun r1=>(Dt.bnd (C.2.2.2.2.2.1 (((1:Int),()),())) fun r2=>(Dt.bnd (C.1 ((r1,()),(v.2.2.2.2.2.2.2.2.2.2,()),(([(r2.1,r2.2,(9:Int),())]:List Diii),()),())) fun r3=>(Dt.ret (v.1,v.2.1,v.2.2.1,v.2.2.2.1,v.2.2.2.2.1,v.2.2.2.2.2.1,v.2.2.2.2.2.2.1,v.2.2.2.2.2.2.2.1,v.2.2.2.2.2.2.2.2.1,v.2.2.2.2.2.2.2.2.2.1,r3.2,v.2.2.2.2.2.2.2.2.2.2)))))
theorem q2if C v:q2l4 (regO (qdv f5) 25) false [(2,.any),(4,.any),(6,.any),(8,.any),(9,(.own Riii)),(21,.any),(23,.any),(24,.any),(25,.any),(27,.any),(29,.any),(31,.any)] q2i9 q2ie q2id C v:=rgI (by kernel_rfl)
abbrev q2ig:Type:=Int×Int×Int×Int×Int×Int×Int×Int×Int×Int×Int×Int×List Diii×List Diii
def q2ih (v:q2ig):St:=⟨[(2,i6 v.1),(4,i6 v.2.1),(6,i6 v.2.2.1),(8,i6 v.2.2.2.1),(9,.rs 0),(21,i6 v.2.2.2.2.1),(23,i6 v.2.2.2.2.2.1),(24,i6 v.2.2.2.2.2.2.1),(25,i6 v.2.2.2.2.2.2.2.1),(27,i6 v.2.2.2.2.2.2.2.2.1),(29,i6 v.2.2.2.2.2.2.2.2.2.1),(31,i6 v.2.2.2.2.2.2.2.2.2.2.1),(32,.rs 1),(33,i6 v.2.2.2.2.2.2.2.2.2.2.2.1)],[.rows Riii v.2.2.2.2.2.2.2.2.2.2.2.2.1,.rows Riii v.2.2.2.2.2.2.2.2.2.2.2.2.2]⟩
def q2ii (C:q2fl) (v:q2ic):Dt q2ig:=(Dt.bnd (C.2.2.2.2.2.2.1 (())) fun r1=>(Dt.bnd (C.1 ((r1,()),(v.2.2.2.2.2.2.2.2.2.2.2,()),(v.2.2.2.2.2.2.2.2.2.2.2,()),())) fun r2=>(Dt.ret (v.1,v.2.1,v.2.2.1,v.2.2.2.1,v.2.2.2.2.1,v.2.2.2.2.2.1,v.2.2.2.2.2.2.1,v.2.2.2.2.2.2.2.1,v.2.2.2.2.2.2.2.2.1,v.2.2.2.2.2.2.2.2.2.1,v.2.2.2.2.2.2.2.2.2.2.1,r2.2,v.2.2.2.2.2.2.2.2.2.2.2,r2.1))))
theorem q2ij C v:q2l4 (regO (qdv f5) 26) false [(2,.any),(4,.any),(6,.any),(8,.any),(9,(.own Riii)),(21,.any),(23,.any),(24,.any),(25,.any),(27,.any),(29,.any),(31,.any),(32,(.own Riii)),(33,.any)] q2id q2ii q2ih C v:=rgI (by kernel_rfl)
abbrev q2ik:Type:=Int×Int×Int×Int×Int×Int×Int×Int×Int×Int×Int×Int×Int×List Diii×List Diii×List Diii
def q2il (v:q2ik):St:=⟨[(2,i6 v.1),(4,i6 v.2.1),(6,i6 v.2.2.1),(8,i6 v.2.2.2.1),(9,.rs 0),(21,i6 v.2.2.2.2.1),(23,i6 v.2.2.2.2.2.1),(24,i6 v.2.2.2.2.2.2.1),(25,i6 v.2.2.2.2.2.2.2.1),(27,i6 v.2.2.2.2.2.2.2.2.1),(29,i6 v.2.2.2.2.2.2.2.2.2.1),(31,i6 v.2.2.2.2.2.2.2.2.2.2.1),(32,.rs 1),(33,i6 v.2.2.2.2.2.2.2.2.2.2.2.1),(34,.rs 2),(35,i6 v.2.2.2.2.2.2.2.2.2.2.2.2.1)],[.rows Riii v.2.2.2.2.2.2.2.2.2.2.2.2.2.1,.rows Riii v.2.2.2.2.2.2.2.2.2.2.2.2.2.2.1,.rows Riii v.2.2.2.2.2.2.2.2.2.2.2.2.2.2.2]⟩
def q2im (C:q2fl) (v:q2ig):Dt q2ik:=(Dt.bnd (C.2.2.2.2.2.1 (((-5:Int),()),())) fun r1=>(Dt.bnd (C.2.2.2.1 ((([((1:Int),(0:Int),(1:Int),()),((2:Int),(0:Int),(2:Int),()),((3:Int),(0:Int),(2:Int),()),((4:Int),(20:Int),(0:Int),())]:List Diii),()),(r1.1,r1.2,()),())) fun r2=>(Dt.ret (v.1,v.2.1,v.2.2.1,v.2.2.2.1,v.2.2.2.2.1,v.2.2.2.2.2.1,v.2.2.2.2.2.2.1,v.2.2.2.2.2.2.2.1,v.2.2.2.2.2.2.2.2.1,v.2.2.2.2.2.2.2.2.2.1,v.2.2.2.2.2.2.2.2.2.2.1,v.2.2.2.2.2.2.2.2.2.2.2.1,r2.2,v.2.2.2.2.2.2.2.2.2.2.2.2.1,v.2.2.2.2.2.2.2.2.2.2.2.2.2,r2.1))))
theorem q2in C v:q2l4 (regO (qdv f5) 27) false [(2,.any),(4,.any),(6,.any),(8,.any),(9,(.own Riii)),(21,.any),(23,.any),(24,.any),(25,.any),(27,.any),(29,.any),(31,.any),(32,(.own Riii)),(33,.any),(34,(.own Riii)),(35,.any)] q2ih q2im q2il C v:=rgI (by kernel_rfl)
abbrev q2io:Type:=Int×Int×Int×Int×Int×Int×Int×Int×Int×Int×Int×Int×Int×Int×List Diii×List Diii×List Diii×List Diii
def q2ip (v:q2io):St:=⟨[(2,i6 v.1),(4,i6 v.2.1),(6,i6 v.2.2.1),(8,i6 v.2.2.2.1),(9,.rs 0),(21,i6 v.2.2.2.2.1),(23,i6 v.2.2.2.2.2.1),(24,i6 v.2.2.2.2.2.2.1),(25,i6 v.2.2.2.2.2.2.2.1),(27,i6 v.2.2.2.2.2.2.2.2.1),(29,i6 v.2.2.2.2.2.2.2.2.2.1),(31,i6 v.2.2.2.2.2.2.2.2.2.2.1),(32,.rs 1),(33,i6 v.2.2.2.2.2.2.2.2.2.2.2.1),(34,.rs 2),(35,i6 v.2.2.2.2.2.2.2.2.2.2.2.2.1),(36,.rs 3),(37,i6 v.2.2.2.2.2.2.2.2.2.2.2.2.2.1)],[.rows Riii v.2.2.2.2.2.2.2.2.2.2.2.2.2.2.1,.rows Riii v.2.2.2.2.2.2.2.2.2.2.2.2.2.2.2.1,.rows Riii v.2.2.2.2.2.2.2.2.2.2.2.2.2.2.2.2.1,.rows Riii v.2.2.2.2.2.2.2.2.2.2.2.2.2.2.2.2.2]⟩
def q2iq (C:q2fl) (v:q2ik):Dt q2io:=(Dt.bnd (C.2.2.2.2.2.1 (((-5:Int),()),())) fun r1=>(Dt.bnd (C.2.2.2.1 ((([((1:Int),(0:Int),(1:Int),()),((2:Int),(0:Int),(2:Int),()),((3:Int),(0:Int),(2:Int),()),((4:Int),(0:Int),(-1:Int),())]:List Diii),()),(r1.1,r1.2,()),())) fun r2=>(Dt.ret (v.1,v.2.1,v.2.2.1,v.2.2.2.1,v.2.2.2.2.1,v.2.2.2.2.2.1,v.2.2.2.2.2.2.1,v.2.2.2.2.2.2.2.1,v.2.2.2.2.2.2.2.2.1,v.2.2.2.2.2.2.2.2.2.1,v.2.2.2.2.2.2.2.2.2.2.1,v.2.2.2.2.2.2.2.2.2.2.2.1,v.2.2.2.2.2.2.2.2.2.2.2.2.1,r2.2,v.2.2.2.2.2.2.2.2.2.2.2.2.2.1,v.2.2.2.2.2.2.2.2.2.2.2.2.2.2.1,v.2.2.2.2.2.2.2.2.2.2.2.2.2.2.2,r2.1))))
theorem q2ir C v:q2l4 (regO (qdv f5) 28) false [(2,.any),(4,.any),(6,.any),(8,.any),(9,(.own Riii)),(21,.any),(23,.any),(24,.any),(25,.any),(27,.any),(29,.any),(31,.any),(32,(.own Riii)),(33,.any),(34,(.own Riii)),(35,.any),(36,(.own Riii)),(37,.any)] q2il q2iq q2ip C v:=rgI (by kernel_rfl)
def q2is (C:q2fl) (v:q2io):Dt q2hm:=(Dt.ite (v.1 == (42:Int)) (Dt.ite (v.2.1 == (8:Int)) (Dt.ite (v.2.2.1 == (4:Int)) (Dt.ite (v.2.2.2.1 == (8:Int)) (Dt.ite (v.2.2.2.2.1 == (44:Int)) (Dt.ite (v.2.2.2.2.2.1 == (8:Int)) (Dt.ite (v.2.2.2.2.2.2.2.1 == (0:Int)) (Dt.ite (v.2.2.2.2.2.2.1 == (299:Int)) (Dt.ite (v.2.2.2.2.2.2.2.2.1 == (4:Int)) (Dt.ite (v.2.2.2.2.2.2.2.2.2.1 == (2:Int)) (Dt.ite (v.2.2.2.2.2.2.2.2.2.2.1 == (6:Int)) (Dt.ite (v.2.2.2.2.2.2.2.2.2.2.2.1 == (0:Int)) (Dt.bnd (C.2.1 ((v.2.2.2.2.2.2.2.2.2.2.2.2.2.2.2.1,()),(v.2.2.2.2.2.2.2.2.2.2.2.2.2.2.1,()),())) fun r1=>(Dt.ite r1 (Dt.ite (v.2.2.2.2.2.2.2.2.2.2.2.2.1 == (0:Int)) (Dt.bnd (C.2.2.2.2.2.1 (((-5:Int),()),())) fun r2=>(Dt.bnd (C.2.2.2.2.2.1 (((10:Int),()),())) fun r3=>(Dt.bnd (C.2.1 ((v.2.2.2.2.2.2.2.2.2.2.2.2.2.2.2.2.1,()),(([(r2.1,r2.2,(4:Int),()),(r3.1,r3.2,(2:Int),())]:List Diii),()),())) fun r4=>(Dt.ite r4 (Dt.ite (v.2.2.2.2.2.2.2.2.2.2.2.2.2.1 == (0:Int)) (Dt.bnd (C.2.2.2.2.2.1 (((-5:Int),()),())) fun r5=>(Dt.bnd (C.2.2.2.2.2.1 (((0:Int),()),())) fun r6=>(Dt.bnd (C.2.1 ((v.2.2.2.2.2.2.2.2.2.2.2.2.2.2.2.2.2,()),(([(r5.1,r5.2,(4:Int),()),(r6.1,r6.2,(2:Int),())]:List Diii),()),())) fun r7=>(Dt.ite r7 (Dt.bnd (C.2.2.1 (())) fun r8=>(Dt.ret r8)) (Dt.ret false))))) (Dt.ret false)) (Dt.ret false))))) (Dt.ret false)) (Dt.ret false))) (Dt.ret false)) (Dt.ret false)) (Dt.ret false)) (Dt.ret false)) (Dt.ret false)) (Dt.ret false)) (Dt.ret false)) (Dt.ret false)) (Dt.ret false)) (Dt.ret false)) (Dt.ret false)) (Dt.ret false))
theorem q2it C v:q2l4 (regO (qdv f5) 29) false [(0,.any)] q2ip q2is q2hn C v:=rgI (by kernel_rfl)
def q2iu (d:Nat) (self2:(Int×Int×Int×Int×List Diii×Int×List Diii×List qkb)→Option q2fi) (x2:Int×Int×Int×Int×List Diii×Int×List Diii×List qkb):Option q2fi :=
 (q2h4 (q2fm d) x2).eval fun y13 =>
 bif y13.2.2.2.2.2.2.1 then ((q2h8 (q2fm d) y13).eval fun y15 =>
 (q2hc (q2fm d) y15).eval fun y16 =>
 (q2hg (q2fm d) y16).eval fun y17 =>
 (q2hk (q2fm d) y17).eval fun y18 =>
 bif y18.2.2.2.2.2.2.1 then ((q2ho (q2fm d) y18).eval fun y19 =>
 some y19) else ((q2hq (q2fm d) y18).eval fun y14 =>
 self2 y14)) else ((q2hu (q2fm d) y13).eval fun y20 =>
 (q2hy (q2fm d) y20).eval fun y21 =>
 (q2i2 (q2fm d) y21).eval fun y22 =>
 (q2i6 (q2fm d) y22).eval fun y23 =>
 (q2ia (q2fm d) y23).eval fun y24 =>
 (q2ie (q2fm d) y24).eval fun y25 =>
 (q2ii (q2fm d) y25).eval fun y26 =>
 (q2im (q2fm d) y26).eval fun y27 =>
 (q2iq (q2fm d) y27).eval fun y28 =>
 (q2is (q2fm d) y28).eval fun y29 =>
 some y29)
def q2iv (d:Nat) (self1:(Int×Int×Int×Int×Int×List Diii×List Diii)→Option q2fi) (x1:Int×Int×Int×Int×Int×List Diii×List Diii):Option q2fi :=
 (q2gm (q2fm d) x1).eval fun y8 =>
 bif y8.2.2.2.2.2.1 then ((q2go (q2fm d) y8).eval fun y10 =>
 (q2gq (q2fm d) y10).eval fun y9 =>
 self1 y9) else ((q2gw (q2fm d) (y8.1,y8.2.1,y8.2.2.1,y8.2.2.2.1,y8.2.2.2.2.2.2.2,y8.2.2.2.2.1,y8.2.2.2.2.2.1,y8.2.2.2.2.2.2.1)).eval fun y11 =>
 (q2h0 (q2fm d) y11).eval fun y12 =>
 iter (q2iu d ) d y12)
def q2iw (d:Nat) (x:q2fh):Option q2fi :=
 (q2fq (q2fm d) ()).eval fun y0 =>
 (q2fu (q2fm d) ()).eval fun y1 =>
 (q2fy (q2fm d) y1).eval fun y2 =>
 (q2g2 (q2fm d) y2).eval fun y3 =>
 (q2g6 (q2fm d) y3).eval fun y4 =>
 (q2ga (q2fm d) y4).eval fun y5 =>
 (q2ge (q2fm d) y5).eval fun y6 =>
 (q2gi (q2fm d) y6).eval fun y7 =>
 iter (q2iv d ) d y7
theorem q2ix (d:Nat):COK prog (q2fk (q2iw d)):=by
 have hm:prog.follows .mixedOrders=true:=mixed
 have hT:=tys
 have hC0:OrcOK prog (orc (q2fn (q2fm d))):=qdp (by
  intro S hS
  simp only [q2fn,List.mem_cons,List.not_mem_nil,or_false] at hS
  rcases hS with rfl | rfl | rfl | rfl | rfl | rfl | rfl | rfl | rfl
  · exact q1te d
  · exact q1z4 d
  · exact q2bd d
  · exact q1a4 d
  · exact q2ff d
  · exact q2ab d
  · exact q29r d
  · exact q1fd d
  · exact q1bj d)
 have hC:OrcOK prog (orc (q2fn (q2fm d))):=hC0
 refine q9e (c:=qdv f5) (fn:=f5) hT (by kernel_rfl) (by kernel_rfl) (by decide) fun x r h w0 φ0 Q hend=>?_
 replace h:q2iw d x=some r:=h
 unfold q2iw at h
 show Run prog w0 φ0 311 (qdv f5) ⟨[],[]⟩ Q
 refine q2jr hm hT hC (q2fr (q2fm d) ()) h fun y0 h=>?_
 refine q2jr hm hT hC (q2fv (q2fm d) ()) h fun y1 h=>?_
 refine q2jr hm hT hC (q2fz (q2fm d) y1) h fun y2 h=>?_
 refine q2jr hm hT hC (q2g3 (q2fm d) y2) h fun y3 h=>?_
 refine q2jr hm hT hC (q2g7 (q2fm d) y3) h fun y4 h=>?_
 refine q2jr hm hT hC (q2gb (q2fm d) y4) h fun y5 h=>?_
 refine q2jr hm hT hC (q2gf (q2fm d) y5) h fun y6 h=>?_
 refine q8x ?_
 refine q2jr hm hT hC (q2gj (q2fm d) y6) h fun y7 h=>?_
 refine q8y ?_
 refine q93 (G:=iter (q2iv d )) (S:=(fun x1=>⟨[(2,i6 x1.1),(4,i6 x1.2.1),(6,i6 x1.2.2.1),(8,i6 x1.2.2.2.1),(9,.rs 0),(10,.rs 1),(11,i6 x1.2.2.2.2.1)],[.rows Riii x1.2.2.2.2.2.1,.rows Riii x1.2.2.2.2.2.2]⟩:Int×Int×Int×Int×Int×List Diii×List Diii→St)) (fun _=>rfl) ?_ d _ h
 intro n1 x1 h K1 hn1
 replace h:q2iv d  (iter (q2iv d ) n1) x1=some r:=h
 generalize iter (q2iv d ) n1=self1 at h hn1
 unfold q2iv at h
 refine q8x ?_
 refine q2jr hm hT hC (q2gn (q2fm d) x1) h fun y8 h=>?_
 refine q91 (v:=y8.2.2.2.2.2.1) (by kernel_rfl) h ?_ ?_
 ·
  intro h
  refine q8t (q8j (q8x (q8y ?_)))
  refine q92 hm hT hC (q2gp (q2fm d) y8) h ?_
  intro y10 h
  refine q8m (q8j ?_)
  refine q92 hm hT hC (q2gr (q2fm d) y10) h ?_
  intro y9 h
  exact hn1 _ h
 ·
  intro h
  refine q8v (q8k (q8k (q8o (q8j (q8x ?_)))))
  refine qdy (s:=⟨[(2,.int .i64 y8.1),(4,.int .i64 y8.2.1),(6,.int .i64 y8.2.2.1),(8,.int .i64 y8.2.2.2.1),(9,.rs 0),(10,.fz Riii y8.2.2.2.2.2.2.2),(11,.int .i64 y8.2.2.2.2.1),(68,.bool y8.2.2.2.2.2.1)],[.rows Riii y8.2.2.2.2.2.2.1]⟩) [(2,.any),(4,.any),(6,.any),(8,.any),(9,.any),(10,.val Riii),(11,.any),(68,.any)] (by kernel_rfl) ?_
  refine q92 hm hT hC (q2gx (q2fm d) (y8.1,y8.2.1,y8.2.2.1,y8.2.2.2.1,y8.2.2.2.2.2.2.2,y8.2.2.2.2.1,y8.2.2.2.2.2.1,y8.2.2.2.2.2.2.1)) h ?_
  intro y11 h
  refine q8j (q8x ?_)
  refine q2jr hm hT hC (q2h1 (q2fm d) y11) h fun y12 h=>?_
  refine q8y ?_
  refine q93 (G:=iter (q2iu d )) (S:=(fun x2=>⟨[(2,i6 x2.1),(4,i6 x2.2.1),(6,i6 x2.2.2.1),(8,i6 x2.2.2.2.1),(9,.rs 0),(10,.fz Riii x2.2.2.2.2.1),(12,.rs 1),(13,i6 x2.2.2.2.2.2.1)],[.rows Riii x2.2.2.2.2.2.2.1,.rows qka x2.2.2.2.2.2.2.2]⟩:Int×Int×Int×Int×List Diii×Int×List Diii×List qkb→St)) (fun _=>rfl) ?_ d _ h
  intro n2 x2 h K2 hn2
  replace h:q2iu d  (iter (q2iu d ) n2) x2=some r:=h
  generalize iter (q2iu d ) n2=self2 at h hn2
  unfold q2iu at h
  refine q8x ?_
  refine q2jr hm hT hC (q2h5 (q2fm d) x2) h fun y13 h=>?_
  refine q91 (v:=y13.2.2.2.2.2.2.1) (by kernel_rfl) h ?_ ?_
  ·
   intro h
   refine q8t (q8j (q8x (q8y ?_)))
   refine q2jr hm hT hC (q2h9 (q2fm d) y13) h fun y15 h=>?_
   refine q2jr hm hT hC (q2hd (q2fm d) y15) h fun y16 h=>?_
   refine q2jr hm hT hC (q2hh (q2fm d) y16) h fun y17 h=>?_
   refine q2jr hm hT hC (q2hl (q2fm d) y17) h fun y18 h=>?_
   refine q91 (v:=y18.2.2.2.2.2.2.1) (by kernel_rfl) h ?_ ?_
   ·
    intro h
    refine q2jr hm hT hC (q2hp (q2fm d) y18) h fun y19 h=>?_
    refine q8w (q8n (q8l (q8l (q8n (q8l ?_)))))
    cases h
    exact (hend _ (by kernel_rfl)).2
   ·
    intro h
    refine q8t (q8m (q8j ?_))
    refine q92 hm hT hC (q2hr (q2fm d) y18) h ?_
    intro y14 h
    exact hn2 _ h
  ·
   intro h
   refine q8v (q8k (q8k (q8o (q8j ?_))))
   refine q2jr hm hT hC (q2hv (q2fm d) y13) h fun y20 h=>?_
   refine q2jr hm hT hC (q2hz (q2fm d) y20) h fun y21 h=>?_
   refine q2jr hm hT hC (q2i3 (q2fm d) y21) h fun y22 h=>?_
   refine q2jr hm hT hC (q2i7 (q2fm d) y22) h fun y23 h=>?_
   refine q2jr hm hT hC (q2ib (q2fm d) y23) h fun y24 h=>?_
   refine q2jr hm hT hC (q2if (q2fm d) y24) h fun y25 h=>?_
   refine q2jr hm hT hC (q2ij (q2fm d) y25) h fun y26 h=>?_
   refine q2jr hm hT hC (q2in (q2fm d) y26) h fun y27 h=>?_
   refine q2jr hm hT hC (q2ir (q2fm d) y27) h fun y28 h=>?_
   refine q2jr hm hT hC (q2it (q2fm d) y28) h fun y29 h=>?_
   refine q8w ?_
   cases h
   exact (hend _ (by kernel_rfl)).2
end Go.Proofs.Ytpgpbhjkgciggaa

namespace Go
open Go.ChangeShapes Go.WideShapes Go.ChangeAt Go.RowKit
section
variable {H:Type} {enc:TypeId×Value→H} {P:Program} {w:World} {base:Nat} {spare:Nat→Bool} {held:Bool}
end
end Go
namespace Go.Proofs.Ytpgpbhjkgciggaa
open Go.ChangeShapes Go.WideShapes Go.ChangeAt Go.RowKit
theorem q2j4:ownKnob Try.prog.godebug=none:=by kernel_rfl
end Go.Proofs.Ytpgpbhjkgciggaa

namespace Go
open Go.ChangeShapes Go.WideShapes Go.ChangeAt Go.RowKit Go.Deep
theorem qd {α:Type} {cells:α→List Value} {k:Nat} (hk:∀ a,(cells a).length=k) (h0:0<k):∀ (l:List α) (j:Nat) (u:Value),(l.flatMap cells)[j]?=some u→∃ x,l[j / k]?=some x∧(cells x)[j % k]?=some u
  | [],j,u,h=>by simp at h
  | x :: l, j, u, h => by
    rw [List.flatMap_cons] at h
    rcases Nat.lt_or_ge j k with hj | hj
    · rw [List.getElem?_append_left (by rw [hk]; exact hj)] at h
      rw [Nat.div_eq_of_lt hj,Nat.mod_eq_of_lt hj]
      exact ⟨x,rfl,h⟩
    · rw [List.getElem?_append_right (by rw [hk]; exact hj), hk] at h
      obtain ⟨y,hy,hu⟩:=qd hk h0 l (j - k) u h
      obtain ⟨m,rfl⟩:∃ m,j=m+k:=⟨j - k,by omega⟩
      rw [Nat.add_sub_cancel] at hy hu
      rw [Nat.add_div_right _ h0,Nat.add_mod_right]
      exact ⟨y,by simpa using hy,hu⟩
theorem q9 {α:Type} {cells:α→List Value} {k:Nat} (hk:∀ a,(cells a).length=k) (l:List α):(l.flatMap cells).length=l.length*k:=by
  induction l with
  | nil=>simp
  | cons x l ih=>rw [List.flatMap_cons,List.length_append,ih,hk,List.length_cons,Nat.add_mul];omega
section
variable {H:Type} {enc:TypeId×Value→H} {P:Program} {w:World} {base:Nat} {held:Bool}
end
end Go

namespace Go.Proofs.Ytpgpbhjkgciggaa
open Go.ChangeShapes Go.WideShapes Go.ChangeAt Go.RowKit Go.Pel Go.Deep
section
variable {H:Type} {enc:TypeId×Value→H} {w:World} {base:Nat} {spare:Nat→Bool} {held:Bool}
end
end Go.Proofs.Ytpgpbhjkgciggaa
