/- Walks of the references; the orders agree; examples. -/
import Derived.Test.YtpfhgnccpiildaaGreatGd
set_option linter.unusedSimpArgs false
set_option linter.unusedVariables false
namespace Go.Proofs.YtpfhgnccpiildaaGreat
open Go Go.Tx Go.Proofs.Tryz
set_option maxRecDepth 100000
set_option maxHeartbeats 0
abbrev q1da:List Pk:=[.row Ru false]
abbrev q1db:Type:=Du×Unit
abbrev q1dc:Type:=Int
def q1dd (r:q1dc):LV×List Ob:=(.int .i64 r,[])
def q1de (F:q1db→Option q1dc):Go.Tx.Spec:=⟨162,q1da,q1dc,F,q1dd⟩
abbrev q1df:Type:=Unit
def q1dg (_d:Nat):q1df:=()
def q1dh (C:q1df):List Go.Tx.Spec:=[]
abbrev q1di:Type:=Int
def q1dj (v:q1di):St:=⟨[(0,.int .u64 v)],[]⟩
abbrev q1dk:Type:=Int×Int
def q1dl (v:q1dk):St:=⟨[(0,.int .u64 v.1),(2,.int .i64 v.2)],[]⟩
def q1dm (C:q1df) (v:q1di):Dt q1dk:=(Dt.ret (v,(0:Int)))
abbrev q3zg {V Y:Type}:=@rg q1df V Y tysT (fun C=>(orc (q1dh C))) 25
theorem q1dn C v:q3zg (regO (qcz f162) 0) false (an [0,2]) q1dj q1dm q1dl C v:=rgI (by kernel_rfl)
abbrev q1do:Type:=Int×Int×Bool
def q1dp (v:q1do):St:=⟨[(0,.int .u64 v.1),(2,.int .i64 v.2.1),(4,.bool v.2.2)],[]⟩
def q1dq (C:q1df) (v:q1dk):Dt q1do:=(Dt.ret (v.1,v.2,(decide (v.1 ≥ (4294967296:Int)))))
theorem q1dr C v:q3zg (regO (qcz f162) 1) false (an [0,2,4]) q1dl q1dq q1dp C v:=rgI (by kernel_rfl)
def q1ds (C:q1df) (v:q1do):Dt q1di:=(Dt.ret (shrI .u64 v.1 (32:Int)))
theorem q1dt C v:q3zg (regO (qcz f162) 2) false [(0,.any)] q1dp q1ds q1dj C v:=rgI (by kernel_rfl)
def q1du (C:q1df) (v:q1di):Dt q1dk:=(Dt.ret (v,(32:Int)))
theorem q1dv C v:q3zg (regO (qcz f162) 3) false (an [0,2]) q1dj q1du q1dl C v:=rgI (by kernel_rfl)
abbrev q1dw:Type:=Int×Int×Bool
def q1dx (v:q1dw):St:=⟨[(0,.int .u64 v.1),(2,.int .i64 v.2.1),(8,.bool v.2.2)],[]⟩
def q1dy (C:q1df) (v:q1dk):Dt q1dw:=(Dt.ret (v.1,v.2,(decide (v.1 ≥ (65536:Int)))))
theorem q1dz C v:q3zg (regO (qcz f162) 4) false (an [0,2,8]) q1dl q1dy q1dx C v:=rgI (by kernel_rfl)
def q1e0 (C:q1df) (v:q1dw):Dt q1dk:=(Dt.ret ((shrI .u64 v.1 (16:Int)),v.2.1))
theorem q1e1 C v:q3zg (regO (qcz f162) 5) false (an [0,2]) q1dx q1e0 q1dl C v:=rgI (by kernel_rfl)
def q1e2 (C:q1df) (v:q1dk):Dt q1dk:=(Dt.ret (v.1,(IntKind.wrap .i64 (v.2 + (16:Int)))))
theorem q1e3 C v:q3zg (regO (qcz f162) 6) false (an [0,2]) q1dl q1e2 q1dl C v:=rgI (by kernel_rfl)
abbrev q1e4:Type:=Int×Int×Bool
def q1e5 (v:q1e4):St:=⟨[(0,.int .u64 v.1),(2,.int .i64 v.2.1),(14,.bool v.2.2)],[]⟩
def q1e6 (C:q1df) (v:q1dk):Dt q1e4:=(Dt.ret (v.1,v.2,(decide (v.1 ≥ (256:Int)))))
theorem q1e7 C v:q3zg (regO (qcz f162) 7) false (an [0,2,14]) q1dl q1e6 q1e5 C v:=rgI (by kernel_rfl)
def q1e8 (C:q1df) (v:q1e4):Dt q1dk:=(Dt.ret ((shrI .u64 v.1 (8:Int)),v.2.1))
theorem q1e9 C v:q3zg (regO (qcz f162) 8) false (an [0,2]) q1e5 q1e8 q1dl C v:=rgI (by kernel_rfl)
def q1ea (C:q1df) (v:q1dk):Dt q1dk:=(Dt.ret (v.1,(IntKind.wrap .i64 (v.2 + (8:Int)))))
theorem q1eb C v:q3zg (regO (qcz f162) 9) false (an [0,2]) q1dl q1ea q1dl C v:=rgI (by kernel_rfl)
abbrev q1ec:Type:=Int
def q1ed (v:q1ec):St:=⟨[(2,.int .i64 v)],[]⟩
def q1ee (C:q1df) (v:q1dk):Dt q1ec:=(Dt.ite (strB (⟨#[0,1,2,2,3,3,3,3,4,4,4,4,4,4,4,4,5,5,5,5,5,5,5,5,5,5,5,5,5,5,5,5,6,6,6,6,6,6,6,6,6,6,6,6,6,6,6,6,6,6,6,6,6,6,6,6,6,6,6,6,6,6,6,6,7,7,7,7,7,7,7,7,7,7,7,7,7,7,7,7,7,7,7,7,7,7,7,7,7,7,7,7,7,7,7,7,7,7,7,7,7,7,7,7,7,7,7,7,7,7,7,7,7,7,7,7,7,7,7,7,7,7,7,7,7,7,7,7,8,8,8,8,8,8,8,8,8,8,8,8,8,8,8,8,8,8,8,8,8,8,8,8,8,8,8,8,8,8,8,8,8,8,8,8,8,8,8,8,8,8,8,8,8,8,8,8,8,8,8,8,8,8,8,8,8,8,8,8,8,8,8,8,8,8,8,8,8,8,8,8,8,8,8,8,8,8,8,8,8,8,8,8,8,8,8,8,8,8,8,8,8,8,8,8,8,8,8,8,8,8,8,8,8,8,8,8,8,8,8,8,8,8,8,8,8,8,8,8,8,8,8,8,8,8,8,8]⟩:ByteArray) ((IntKind.wrap .u8 v.1))) (Dt.ret (IntKind.wrap .i64 (v.2 + (IntKind.wrap .i64 (q37 (⟨#[0,1,2,2,3,3,3,3,4,4,4,4,4,4,4,4,5,5,5,5,5,5,5,5,5,5,5,5,5,5,5,5,6,6,6,6,6,6,6,6,6,6,6,6,6,6,6,6,6,6,6,6,6,6,6,6,6,6,6,6,6,6,6,6,7,7,7,7,7,7,7,7,7,7,7,7,7,7,7,7,7,7,7,7,7,7,7,7,7,7,7,7,7,7,7,7,7,7,7,7,7,7,7,7,7,7,7,7,7,7,7,7,7,7,7,7,7,7,7,7,7,7,7,7,7,7,7,7,8,8,8,8,8,8,8,8,8,8,8,8,8,8,8,8,8,8,8,8,8,8,8,8,8,8,8,8,8,8,8,8,8,8,8,8,8,8,8,8,8,8,8,8,8,8,8,8,8,8,8,8,8,8,8,8,8,8,8,8,8,8,8,8,8,8,8,8,8,8,8,8,8,8,8,8,8,8,8,8,8,8,8,8,8,8,8,8,8,8,8,8,8,8,8,8,8,8,8,8,8,8,8,8,8,8,8,8,8,8,8,8,8,8,8,8,8,8,8,8,8,8,8,8,8,8,8,8]⟩:ByteArray) ((IntKind.wrap .u8 v.1))))))) Dt.fail)
theorem q1ef C v:q3zg (regO (qcz f162) 10) false [(2,.any)] q1dl q1ee q1ed C v:=rgI (by kernel_rfl)
def q1eg  (d:Nat)  (z:Int×Int):Option (q1dc) :=
 (q1ee (q1dg d) z).eval fun y10 =>
 some y10
def q1eh  (d:Nat)  (z:Int×Int):Option (q1dc) :=
 (q1e6 (q1dg d) z).eval fun y7 =>
 bif y7.2.2 then ((q1e8 (q1dg d) y7).eval fun y8 =>
 (q1ea (q1dg d) y8).eval fun y9 =>
 q1eg d  y9) else (q1eg d  (y7.1,y7.2.1))
def q1ei  (d:Nat)  (z:Int×Int):Option (q1dc) :=
 (q1dy (q1dg d) z).eval fun y4 =>
 bif y4.2.2 then ((q1e0 (q1dg d) y4).eval fun y5 =>
 (q1e2 (q1dg d) y5).eval fun y6 =>
 q1eh d  y6) else (q1eh d  (y4.1,y4.2.1))
def q1ej (d:Nat) (x:q1db):Option q1dc :=
 (q1dm (q1dg d) x.1.1).eval fun y0 =>
 (q1dq (q1dg d) y0).eval fun y1 =>
 bif y1.2.2 then ((q1ds (q1dg d) y1).eval fun y2 =>
 (q1du (q1dg d) y2).eval fun y3 =>
 q1ei d  y3) else (q1ei d  (y1.1,y1.2.1))
theorem q1ek (d:Nat):COK prog (q1de (q1ej d)):=by
 have hm:prog.follows .mixedOrders=true:=qju
 have hT:=tys
 have hC0:OrcOK prog (orc (q1dh (q1dg d))):=qct (by
  intro S hS
  simp only [q1dh,List.mem_cons,List.not_mem_nil,or_false] at hS
  all_goals first | cases hS | exact hS.elim)
 have hC:OrcOK prog (orc (q1dh (q1dg d))):=hC0
 refine q8f (c:=qcz f162) (fn:=f162) hT (by kernel_rfl) (by kernel_rfl) (by decide) fun x r h w0 φ0 Q hend=>?_
 replace h:q1ej d x=some r:=h
 unfold q1ej at h
 show Run prog w0 φ0 25 (qcz f162) ⟨[(0,.int .u64 x.1.1)],[]⟩ Q
 refine q3yy hm hT hC (q1dn (q1dg d) x.1.1) h fun y0 h=>?_
 refine q82 (r:=r) (F:=q1ei d ) (S:=(fun z=>⟨[(0,.int .u64 z.1),(2,.int .i64 z.2)],[]⟩:Int×Int→St)) ?_ ?_
 ·
  intro z h
  unfold q1ei at h
  refine q82 (r:=r) (F:=q1eh d ) (S:=(fun z=>⟨[(0,.int .u64 z.1),(2,.int .i64 z.2)],[]⟩:Int×Int→St)) ?_ ?_
  ·
   intro z h
   unfold q1eh at h
   refine q82 (r:=r) (F:=q1eg d ) (S:=(fun z=>⟨[(0,.int .u64 z.1),(2,.int .i64 z.2)],[]⟩:Int×Int→St)) ?_ ?_
   ·
    intro z h
    unfold q1eg at h
    refine q3yy hm hT hC (q1ef (q1dg d) z) h fun y10 h=>?_
    refine q7y ?_
    cases h
    exact (hend _ (by kernel_rfl)).2
   intro hj3
   refine q3yy hm hT hC (q1e7 (q1dg d) z) h fun y7 h=>?_
   refine q83 (v:=y7.2.2) (by kernel_rfl) h ?_ ?_
   ·
    intro h
    refine q3yy hm hT hC (q1e9 (q1dg d) y7) h fun y8 h=>?_
    refine q84 hm hT hC (q1eb (q1dg d) y8) h ?_
    intro y9 h
    exact hj3 _ h
   ·
    intro h
    refine q7v ?_
    refine qcy (s:=⟨[(0,.int .u64 y7.1),(2,.int .i64 y7.2.1)],[]⟩) [14] (by kernel_rfl) ?_
    exact hj3 _ h
  intro hj2
  refine q3yy hm hT hC (q1dz (q1dg d) z) h fun y4 h=>?_
  refine q83 (v:=y4.2.2) (by kernel_rfl) h ?_ ?_
  ·
   intro h
   refine q3yy hm hT hC (q1e1 (q1dg d) y4) h fun y5 h=>?_
   refine q84 hm hT hC (q1e3 (q1dg d) y5) h ?_
   intro y6 h
   exact hj2 _ h
  ·
   intro h
   refine q7v ?_
   refine qcy (s:=⟨[(0,.int .u64 y4.1),(2,.int .i64 y4.2.1)],[]⟩) [8] (by kernel_rfl) ?_
   exact hj2 _ h
 intro hj1
 refine q3yy hm hT hC (q1dr (q1dg d) y0) h fun y1 h=>?_
 refine q83 (v:=y1.2.2) (by kernel_rfl) h ?_ ?_
 ·
  intro h
  refine q3yy hm hT hC (q1dt (q1dg d) y1) h fun y2 h=>?_
  refine q84 hm hT hC (q1dv (q1dg d) y2) h ?_
  intro y3 h
  exact hj1 _ h
 ·
  intro h
  refine q7v ?_
  refine qcy (s:=⟨[(0,.int .u64 y1.1),(2,.int .i64 y1.2.1)],[]⟩) [4] (by kernel_rfl) ?_
  exact hj1 _ h
abbrev q1el:List Pk:=[.row Ru false]
abbrev q1em:Type:=Du×Unit
abbrev q1en:Type:=Int
def q1eo (r:q1en):LV×List Ob:=(.int .i64 r,[])
def q1ep (F:q1em→Option q1en):Go.Tx.Spec:=⟨146,q1el,q1en,F,q1eo⟩
abbrev q1eq:Type:=(q1db→Option q1dc)×Unit
def q1er (d:Nat):q1eq:=(q1ej d,())
def q1es (C:q1eq):List Go.Tx.Spec:=[q1de C.1]
abbrev q1et:Type:=Int
def q1eu (v:q1et):St:=⟨[(0,.int .u64 v)],[]⟩
def q1ev (C:q1eq) (v:q1et):Dt q1et:=(Dt.ret v)
abbrev q3zh {V Y:Type}:=@rg q1eq V Y tysT (fun C=>(orc (q1es C))) 6
theorem q1ew C v:q3zh (regO (qcz f146) 0) false [(0,.any)] q1eu q1ev q1eu C v:=rgI (by kernel_rfl)
abbrev q1ex:Type:=Int
def q1ey (v:q1ex):St:=⟨[(2,.int .i64 v)],[]⟩
def q1ez (C:q1eq) (v:q1et):Dt q1ex:=(Dt.bnd (C.1 ((v,()),())) fun r1=>(Dt.ret (IntKind.wrap .i64 ((64:Int) - r1))))
theorem q1f0 C v:q3zh (regO (qcz f146) 1) false [(2,.any)] q1eu q1ez q1ey C v:=rgI (by kernel_rfl)
def q1f1 (d:Nat) (x:q1em):Option q1en :=
 (q1ev (q1er d) x.1.1).eval fun y0 =>
 (q1ez (q1er d) y0).eval fun y1 =>
 some y1
theorem q1f2 (d:Nat):COK prog (q1ep (q1f1 d)):=by
 have hm:prog.follows .mixedOrders=true:=qju
 have hT:=tys
 have hC0:OrcOK prog (orc (q1es (q1er d))):=qct (by
  intro S hS
  simp only [q1es,List.mem_cons,List.not_mem_nil,or_false] at hS
  subst hS;exact q1ek d)
 have hC:OrcOK prog (orc (q1es (q1er d))):=hC0
 refine q8f (c:=qcz f146) (fn:=f146) hT (by kernel_rfl) (by kernel_rfl) (by decide) fun x r h w0 φ0 Q hend=>?_
 replace h:q1f1 d x=some r:=h
 unfold q1f1 at h
 show Run prog w0 φ0 6 (qcz f146) ⟨[(0,.int .u64 x.1.1)],[]⟩ Q
 refine q3yy hm hT hC (q1ew (q1er d) x.1.1) h fun y0 h=>?_
 refine q3yy hm hT hC (q1f0 (q1er d) y0) h fun y1 h=>?_
 refine q7y ?_
 cases h
 exact (hend _ (by kernel_rfl)).2
abbrev q1f3:List Pk:=[.row Ru false,.row Ru false,.row Ru false]
abbrev q1f4:Type:=Du×Du×Du×Unit
abbrev q1f5:Type:=Int×Int
def q1f6 (r:q1f5):LV×List Ob:=(.tup [.int .u64 r.1,.int .u64 r.2],[])
def q1f7 (F:q1f4→Option q1f5):Go.Tx.Spec:=⟨108,q1f3,q1f5,F,q1f6⟩
abbrev q1f8:Type:=(q1em→Option q1en)×Unit
def q1f9 (d:Nat):q1f8:=(q1f1 d,())
def q1fa (C:q1f8):List Go.Tx.Spec:=[q1ep C.1]
abbrev q1fb:Type:=Int×Int×Int
def q1fc (v:q1fb):St:=⟨[(0,.int .u64 v.1),(1,.int .u64 v.2.1),(2,.int .u64 v.2.2)],[]⟩
def q1fd (C:q1f8) (v:q1fb):Dt q1fb:=(Dt.ret (v.1,v.2.1,v.2.2))
abbrev q3zi {V Y:Type}:=@rg q1f8 V Y tysT (fun C=>(orc (q1fa C))) 135
theorem q1fe C v:q3zi (regO (qcz f108) 0) false (an [0,1,2]) q1fc q1fd q1fc C v:=rgI (by kernel_rfl)
abbrev q1ff:Type:=Int×Int×Int×Bool
def q1fg (v:q1ff):St:=⟨[(0,.int .u64 v.1),(1,.int .u64 v.2.1),(2,.int .u64 v.2.2.1),(20,.bool v.2.2.2)],[]⟩
def q1fh (C:q1f8) (v:q1fb):Dt q1ff:=(Dt.ret (v.1,v.2.1,v.2.2,(v.2.2 == (0:Int))))
theorem q1fi C v:q3zi (regO (qcz f108) 1) false (an [0,1,2,20]) q1fc q1fh q1fg C v:=rgI (by kernel_rfl)
abbrev q1fj:Type:=Int×Int×Int×Bool
def q1fk (v:q1fj):St:=⟨[(0,.int .u64 v.1),(1,.int .u64 v.2.1),(2,.int .u64 v.2.2.1),(24,.bool v.2.2.2)],[]⟩
def q1fl (C:q1f8) (v:q1ff):Dt q1fj:=(Dt.ret (v.1,v.2.1,v.2.2.1,(decide (v.2.2.1≤v.1))))
theorem q1fm C v:q3zi (regO (qcz f108) 3) false (an [0,1,2,24]) q1fg q1fl q1fk C v:=rgI (by kernel_rfl)
abbrev q1fn:Type:=Int×Int×Int×Bool
def q1fo (v:q1fn):St:=⟨[(0,.int .u64 v.1),(1,.int .u64 v.2.1),(2,.int .u64 v.2.2.1),(27,.bool v.2.2.2)],[]⟩
def q1fp (C:q1f8) (v:q1fj):Dt q1fn:=(Dt.ret (v.1,v.2.1,v.2.2.1,(v.1 == (0:Int))))
theorem q1fq C v:q3zi (regO (qcz f108) 5) false (an [0,1,2,27]) q1fk q1fp q1fo C v:=rgI (by kernel_rfl)
abbrev q1fr:Type:=Int×Int
def q1fs (v:q1fr):St:=⟨[(6,.int .u64 v.1),(7,.int .u64 v.2)],[]⟩
def q1ft (C:q1f8) (v:q1fn):Dt q1fr:=(Dt.ite (v.2.2.1 == (0:Int)) Dt.fail (Dt.ite (v.2.2.1 == (0:Int)) Dt.fail (Dt.ret ((IntKind.wrap .u64 (Int.tdiv v.2.1 v.2.2.1)),(Int.tmod v.2.1 v.2.2.1)))))
theorem q1fu C v:q3zi (regO (qcz f108) 6) true (an [6,7]) q1fo q1ft q1fs C v:=rgI (by kernel_rfl)
abbrev q1fv:Type:=Int×Int×Int×Int
def q1fw (v:q1fv):St:=⟨[(0,.int .u64 v.1),(1,.int .u64 v.2.1),(2,.int .u64 v.2.2.1),(8,.int .u64 v.2.2.2)],[]⟩
def q1fx (C:q1f8) (v:q1fn):Dt q1fv:=(Dt.bnd (C.1 ((v.2.2.1,()),())) fun r1=>(Dt.ret (v.1,v.2.1,v.2.2.1,(IntKind.wrap .u64 r1))))
theorem q1fy C v:q3zi (regO (qcz f108) 7) false (an [0,1,2,8]) q1fo q1fx q1fw C v:=rgI (by kernel_rfl)
def q1fz (C:q1f8) (v:q1fv):Dt q1fv:=(Dt.ite (decide (v.2.2.2 < 0)) Dt.fail (Dt.ret (v.1,v.2.1,(shlI .u64 v.2.2.1 v.2.2.2),v.2.2.2)))
theorem q1g0 C v:q3zi (regO (qcz f108) 8) false (an [0,1,2,8]) q1fw q1fz q1fw C v:=rgI (by kernel_rfl)
abbrev q1g1:Type:=Int×Int×Int×Int×Int
def q1g2 (v:q1g1):St:=⟨[(0,.int .u64 v.1),(1,.int .u64 v.2.1),(2,.int .u64 v.2.2.1),(8,.int .u64 v.2.2.2.1),(9,.int .u64 v.2.2.2.2)],[]⟩
def q1g3 (C:q1f8) (v:q1fv):Dt q1g1:=(Dt.ret (v.1,v.2.1,v.2.2.1,v.2.2.2,(shrI .u64 v.2.2.1 (32:Int))))
theorem q1g4 C v:q3zi (regO (qcz f108) 9) false (an [0,1,2,8,9]) q1fw q1g3 q1g2 C v:=rgI (by kernel_rfl)
abbrev q1g5:Type:=Int×Int×Int×Int×Int×Int
def q1g6 (v:q1g5):St:=⟨[(0,.int .u64 v.1),(1,.int .u64 v.2.1),(2,.int .u64 v.2.2.1),(8,.int .u64 v.2.2.2.1),(9,.int .u64 v.2.2.2.2.1),(10,.int .u64 v.2.2.2.2.2)],[]⟩
def q1g7 (C:q1f8) (v:q1g1):Dt q1g5:=(Dt.ret (v.1,v.2.1,v.2.2.1,v.2.2.2.1,v.2.2.2.2,(andI .u64 v.2.2.1 (4294967295:Int))))
theorem q1g8 C v:q3zi (regO (qcz f108) 10) false (an [0,1,2,8,9,10]) q1g2 q1g7 q1g6 C v:=rgI (by kernel_rfl)
abbrev q1g9:Type:=Int×Int×Int×Int×Int×Int
def q1ga (v:q1g9):St:=⟨[(1,.int .u64 v.1),(2,.int .u64 v.2.1),(8,.int .u64 v.2.2.1),(9,.int .u64 v.2.2.2.1),(10,.int .u64 v.2.2.2.2.1),(11,.int .u64 v.2.2.2.2.2)],[]⟩
def q1gb (C:q1f8) (v:q1g5):Dt q1g9:=(Dt.ite (decide (v.2.2.2.1 < 0)) Dt.fail (Dt.ite (decide ((IntKind.wrap .u64 ((64:Int) - v.2.2.2.1)) < 0)) Dt.fail (Dt.ret (v.2.1,v.2.2.1,v.2.2.2.1,v.2.2.2.2.1,v.2.2.2.2.2,(orI .u64 (shlI .u64 v.1 v.2.2.2.1) (shrI .u64 v.2.1 (IntKind.wrap .u64 ((64:Int) - v.2.2.2.1))))))))
theorem q1gc C v:q3zi (regO (qcz f108) 11) false (an [1,2,8,9,10,11]) q1g6 q1gb q1ga C v:=rgI (by kernel_rfl)
abbrev q1gd:Type:=Int×Int×Int×Int×Int×Int
def q1ge (v:q1gd):St:=⟨[(2,.int .u64 v.1),(8,.int .u64 v.2.1),(9,.int .u64 v.2.2.1),(10,.int .u64 v.2.2.2.1),(11,.int .u64 v.2.2.2.2.1),(12,.int .u64 v.2.2.2.2.2)],[]⟩
def q1gf (C:q1f8) (v:q1g9):Dt q1gd:=(Dt.ite (decide (v.2.2.1 < 0)) Dt.fail (Dt.ret (v.2.1,v.2.2.1,v.2.2.2.1,v.2.2.2.2.1,v.2.2.2.2.2,(shlI .u64 v.1 v.2.2.1))))
theorem q1gg C v:q3zi (regO (qcz f108) 12) false (an [2,8,9,10,11,12]) q1ga q1gf q1ge C v:=rgI (by kernel_rfl)
abbrev q1gh:Type:=Int×Int×Int×Int×Int×Int×Int
def q1gi (v:q1gh):St:=⟨[(2,.int .u64 v.1),(8,.int .u64 v.2.1),(9,.int .u64 v.2.2.1),(10,.int .u64 v.2.2.2.1),(11,.int .u64 v.2.2.2.2.1),(12,.int .u64 v.2.2.2.2.2.1),(13,.int .u64 v.2.2.2.2.2.2)],[]⟩
def q1gj (C:q1f8) (v:q1gd):Dt q1gh:=(Dt.ret (v.1,v.2.1,v.2.2.1,v.2.2.2.1,v.2.2.2.2.1,v.2.2.2.2.2,(shrI .u64 v.2.2.2.2.2 (32:Int))))
theorem q1gk C v:q3zi (regO (qcz f108) 13) false (an [2,8,9,10,11,12,13]) q1ge q1gj q1gi C v:=rgI (by kernel_rfl)
abbrev q1gl:Type:=Int×Int×Int×Int×Int×Int×Int
def q1gm (v:q1gl):St:=⟨[(2,.int .u64 v.1),(8,.int .u64 v.2.1),(9,.int .u64 v.2.2.1),(10,.int .u64 v.2.2.2.1),(11,.int .u64 v.2.2.2.2.1),(13,.int .u64 v.2.2.2.2.2.1),(14,.int .u64 v.2.2.2.2.2.2)],[]⟩
def q1gn (C:q1f8) (v:q1gh):Dt q1gl:=(Dt.ret (v.1,v.2.1,v.2.2.1,v.2.2.2.1,v.2.2.2.2.1,v.2.2.2.2.2.2,(andI .u64 v.2.2.2.2.2.1 (4294967295:Int))))
theorem q1go C v:q3zi (regO (qcz f108) 14) false (an [2,8,9,10,11,13,14]) q1gi q1gn q1gm C v:=rgI (by kernel_rfl)
abbrev q1gp:Type:=Int×Int×Int×Int×Int×Int×Int×Int
def q1gq (v:q1gp):St:=⟨[(2,.int .u64 v.1),(8,.int .u64 v.2.1),(9,.int .u64 v.2.2.1),(10,.int .u64 v.2.2.2.1),(11,.int .u64 v.2.2.2.2.1),(13,.int .u64 v.2.2.2.2.2.1),(14,.int .u64 v.2.2.2.2.2.2.1),(15,.int .u64 v.2.2.2.2.2.2.2)],[]⟩
def q1gr (C:q1f8) (v:q1gl):Dt q1gp:=(Dt.ite (v.2.2.1 == (0:Int)) Dt.fail (Dt.ret (v.1,v.2.1,v.2.2.1,v.2.2.2.1,v.2.2.2.2.1,v.2.2.2.2.2.1,v.2.2.2.2.2.2,(IntKind.wrap .u64 (Int.tdiv v.2.2.2.2.1 v.2.2.1)))))
theorem q1gs C v:q3zi (regO (qcz f108) 15) false (an [2,8,9,10,11,13,14,15]) q1gm q1gr q1gq C v:=rgI (by kernel_rfl)
abbrev q1gt:Type:=Int×Int×Int×Int×Int×Int×Int×Int×Int
def q1gu (v:q1gt):St:=⟨[(2,.int .u64 v.1),(8,.int .u64 v.2.1),(9,.int .u64 v.2.2.1),(10,.int .u64 v.2.2.2.1),(11,.int .u64 v.2.2.2.2.1),(13,.int .u64 v.2.2.2.2.2.1),(14,.int .u64 v.2.2.2.2.2.2.1),(15,.int .u64 v.2.2.2.2.2.2.2.1),(16,.int .u64 v.2.2.2.2.2.2.2.2)],[]⟩
def q1gv (C:q1f8) (v:q1gp):Dt q1gt:=(Dt.ret (v.1,v.2.1,v.2.2.1,v.2.2.2.1,v.2.2.2.2.1,v.2.2.2.2.2.1,v.2.2.2.2.2.2.1,v.2.2.2.2.2.2.2,(IntKind.wrap .u64 (v.2.2.2.2.1 - (IntKind.wrap .u64 (v.2.2.2.2.2.2.2 * v.2.2.1))))))
theorem q1gw C v:q3zi (regO (qcz f108) 16) false (an [2,8,9,10,11,13,14,15,16]) q1gq q1gv q1gu C v:=rgI (by kernel_rfl)
abbrev q1gx:Type:=Int×Int×Int×Int×Int×Int×Int×Int×Int×Bool
def q1gy (v:q1gx):St:=⟨[(2,.int .u64 v.1),(8,.int .u64 v.2.1),(9,.int .u64 v.2.2.1),(10,.int .u64 v.2.2.2.1),(11,.int .u64 v.2.2.2.2.1),(13,.int .u64 v.2.2.2.2.2.1),(14,.int .u64 v.2.2.2.2.2.2.1),(15,.int .u64 v.2.2.2.2.2.2.2.1),(16,.int .u64 v.2.2.2.2.2.2.2.2.1),(78,.bool v.2.2.2.2.2.2.2.2.2)],[]⟩
def q1gz (C:q1f8) (v:q1gt):Dt q1gx:=(Dt.ite (decide (v.2.2.2.2.2.2.2.1 ≥ (4294967296:Int))) (Dt.ret (v.1,v.2.1,v.2.2.1,v.2.2.2.1,v.2.2.2.2.1,v.2.2.2.2.2.1,v.2.2.2.2.2.2.1,v.2.2.2.2.2.2.2.1,v.2.2.2.2.2.2.2.2,true)) (Dt.ret (v.1,v.2.1,v.2.2.1,v.2.2.2.1,v.2.2.2.2.1,v.2.2.2.2.2.1,v.2.2.2.2.2.2.1,v.2.2.2.2.2.2.2.1,v.2.2.2.2.2.2.2.2,(decide ((IntKind.wrap .u64 (v.2.2.2.2.2.2.2.1 * v.2.2.2.1)) > (IntKind.wrap .u64 ((IntKind.wrap .u64 ((4294967296:Int) * v.2.2.2.2.2.2.2.2)) + v.2.2.2.2.2.1)))))))
theorem q1h0 C v:q3zi (regO (qcz f108) 17) false (an [2,8,9,10,11,13,14,15,16,78]) q1gu q1gz q1gy C v:=rgI (by kernel_rfl)
def q1h1 (C:q1f8) (v:q1gx):Dt q1gt:=(Dt.ret (v.1,v.2.1,v.2.2.1,v.2.2.2.1,v.2.2.2.2.1,v.2.2.2.2.2.1,v.2.2.2.2.2.2.1,(IntKind.wrap .u64 (v.2.2.2.2.2.2.2.1 - (1:Int))),v.2.2.2.2.2.2.2.2.1))
theorem q1h2 C v:q3zi (regO (qcz f108) 18) false (an [2,8,9,10,11,13,14,15,16]) q1gy q1h1 q1gu C v:=rgI (by kernel_rfl)
def q1h3 (C:q1f8) (v:q1gt):Dt q1gt:=(Dt.ret (v.1,v.2.1,v.2.2.1,v.2.2.2.1,v.2.2.2.2.1,v.2.2.2.2.2.1,v.2.2.2.2.2.2.1,v.2.2.2.2.2.2.2.1,(IntKind.wrap .u64 (v.2.2.2.2.2.2.2.2 + v.2.2.1))))
theorem q1h4 C v:q3zi (regO (qcz f108) 19) false (an [2,8,9,10,11,13,14,15,16]) q1gu q1h3 q1gu C v:=rgI (by kernel_rfl)
abbrev q1h5:Type:=Int×Int×Int×Int×Int×Int×Int×Int×Int×Bool
def q1h6 (v:q1h5):St:=⟨[(2,.int .u64 v.1),(8,.int .u64 v.2.1),(9,.int .u64 v.2.2.1),(10,.int .u64 v.2.2.2.1),(11,.int .u64 v.2.2.2.2.1),(13,.int .u64 v.2.2.2.2.2.1),(14,.int .u64 v.2.2.2.2.2.2.1),(15,.int .u64 v.2.2.2.2.2.2.2.1),(16,.int .u64 v.2.2.2.2.2.2.2.2.1),(85,.bool v.2.2.2.2.2.2.2.2.2)],[]⟩
def q1h7 (C:q1f8) (v:q1gt):Dt q1h5:=(Dt.ret (v.1,v.2.1,v.2.2.1,v.2.2.2.1,v.2.2.2.2.1,v.2.2.2.2.2.1,v.2.2.2.2.2.2.1,v.2.2.2.2.2.2.2.1,v.2.2.2.2.2.2.2.2,(decide (v.2.2.2.2.2.2.2.2 ≥ (4294967296:Int)))))
theorem q1h8 C v:q3zi (regO (qcz f108) 20) false (an [2,8,9,10,11,13,14,15,16,85]) q1gu q1h7 q1h6 C v:=rgI (by kernel_rfl)
abbrev q1h9:Type:=Int×Int×Int×Int×Int×Int×Int
def q1ha (v:q1h9):St:=⟨[(2,.int .u64 v.1),(8,.int .u64 v.2.1),(9,.int .u64 v.2.2.1),(10,.int .u64 v.2.2.2.1),(14,.int .u64 v.2.2.2.2.1),(15,.int .u64 v.2.2.2.2.2.1),(17,.int .u64 v.2.2.2.2.2.2)],[]⟩
def q1hb (C:q1f8) (v:q1gt):Dt q1h9:=(Dt.ret (v.1,v.2.1,v.2.2.1,v.2.2.2.1,v.2.2.2.2.2.2.1,v.2.2.2.2.2.2.2.1,(IntKind.wrap .u64 ((IntKind.wrap .u64 ((IntKind.wrap .u64 (v.2.2.2.2.1 * (4294967296:Int))) + v.2.2.2.2.2.1)) - (IntKind.wrap .u64 (v.2.2.2.2.2.2.2.1 * v.1))))))
theorem q1hc C v:q3zi (regO (qcz f108) 21) false (an [2,8,9,10,14,15,17]) q1gu q1hb q1ha C v:=rgI (by kernel_rfl)
abbrev q1hd:Type:=Int×Int×Int×Int×Int×Int×Int×Int
def q1he (v:q1hd):St:=⟨[(2,.int .u64 v.1),(8,.int .u64 v.2.1),(9,.int .u64 v.2.2.1),(10,.int .u64 v.2.2.2.1),(14,.int .u64 v.2.2.2.2.1),(15,.int .u64 v.2.2.2.2.2.1),(17,.int .u64 v.2.2.2.2.2.2.1),(18,.int .u64 v.2.2.2.2.2.2.2)],[]⟩
def q1hf (C:q1f8) (v:q1h9):Dt q1hd:=(Dt.ite (v.2.2.1 == (0:Int)) Dt.fail (Dt.ret (v.1,v.2.1,v.2.2.1,v.2.2.2.1,v.2.2.2.2.1,v.2.2.2.2.2.1,v.2.2.2.2.2.2,(IntKind.wrap .u64 (Int.tdiv v.2.2.2.2.2.2 v.2.2.1)))))
theorem q1hg C v:q3zi (regO (qcz f108) 22) false (an [2,8,9,10,14,15,17,18]) q1ha q1hf q1he C v:=rgI (by kernel_rfl)
abbrev q1hh:Type:=Int×Int×Int×Int×Int×Int×Int×Int×Int
def q1hi (v:q1hh):St:=⟨[(2,.int .u64 v.1),(8,.int .u64 v.2.1),(9,.int .u64 v.2.2.1),(10,.int .u64 v.2.2.2.1),(14,.int .u64 v.2.2.2.2.1),(15,.int .u64 v.2.2.2.2.2.1),(16,.int .u64 v.2.2.2.2.2.2.1),(17,.int .u64 v.2.2.2.2.2.2.2.1),(18,.int .u64 v.2.2.2.2.2.2.2.2)],[]⟩
def q1hj (C:q1f8) (v:q1hd):Dt q1hh:=(Dt.ret (v.1,v.2.1,v.2.2.1,v.2.2.2.1,v.2.2.2.2.1,v.2.2.2.2.2.1,(IntKind.wrap .u64 (v.2.2.2.2.2.2.1 - (IntKind.wrap .u64 (v.2.2.2.2.2.2.2 * v.2.2.1)))),v.2.2.2.2.2.2.1,v.2.2.2.2.2.2.2))
theorem q1hk C v:q3zi (regO (qcz f108) 23) false (an [2,8,9,10,14,15,16,17,18]) q1he q1hj q1hi C v:=rgI (by kernel_rfl)
abbrev q1hl:Type:=Int×Int×Int×Int×Int×Int×Int×Int×Int×Bool
def q1hm (v:q1hl):St:=⟨[(2,.int .u64 v.1),(8,.int .u64 v.2.1),(9,.int .u64 v.2.2.1),(10,.int .u64 v.2.2.2.1),(14,.int .u64 v.2.2.2.2.1),(15,.int .u64 v.2.2.2.2.2.1),(16,.int .u64 v.2.2.2.2.2.2.1),(17,.int .u64 v.2.2.2.2.2.2.2.1),(18,.int .u64 v.2.2.2.2.2.2.2.2.1),(113,.bool v.2.2.2.2.2.2.2.2.2)],[]⟩
def q1hn (C:q1f8) (v:q1hh):Dt q1hl:=(Dt.ite (decide (v.2.2.2.2.2.2.2.2 ≥ (4294967296:Int))) (Dt.ret (v.1,v.2.1,v.2.2.1,v.2.2.2.1,v.2.2.2.2.1,v.2.2.2.2.2.1,v.2.2.2.2.2.2.1,v.2.2.2.2.2.2.2.1,v.2.2.2.2.2.2.2.2,true)) (Dt.ret (v.1,v.2.1,v.2.2.1,v.2.2.2.1,v.2.2.2.2.1,v.2.2.2.2.2.1,v.2.2.2.2.2.2.1,v.2.2.2.2.2.2.2.1,v.2.2.2.2.2.2.2.2,(decide ((IntKind.wrap .u64 (v.2.2.2.2.2.2.2.2 * v.2.2.2.1)) > (IntKind.wrap .u64 ((IntKind.wrap .u64 ((4294967296:Int) * v.2.2.2.2.2.2.1)) + v.2.2.2.2.1)))))))
theorem q1ho C v:q3zi (regO (qcz f108) 24) false (an [2,8,9,10,14,15,16,17,18,113]) q1hi q1hn q1hm C v:=rgI (by kernel_rfl)
def q1hp (C:q1f8) (v:q1hl):Dt q1hh:=(Dt.ret (v.1,v.2.1,v.2.2.1,v.2.2.2.1,v.2.2.2.2.1,v.2.2.2.2.2.1,v.2.2.2.2.2.2.1,v.2.2.2.2.2.2.2.1,(IntKind.wrap .u64 (v.2.2.2.2.2.2.2.2.1 - (1:Int)))))
theorem q1hq C v:q3zi (regO (qcz f108) 25) false (an [2,8,9,10,14,15,16,17,18]) q1hm q1hp q1hi C v:=rgI (by kernel_rfl)
def q1hr (C:q1f8) (v:q1hh):Dt q1hh:=(Dt.ret (v.1,v.2.1,v.2.2.1,v.2.2.2.1,v.2.2.2.2.1,v.2.2.2.2.2.1,(IntKind.wrap .u64 (v.2.2.2.2.2.2.1 + v.2.2.1)),v.2.2.2.2.2.2.2.1,v.2.2.2.2.2.2.2.2))
theorem q1hs C v:q3zi (regO (qcz f108) 26) false (an [2,8,9,10,14,15,16,17,18]) q1hi q1hr q1hi C v:=rgI (by kernel_rfl)
abbrev q1ht:Type:=Int×Int×Int×Int×Int×Int×Int×Int×Int×Bool
def q1hu (v:q1ht):St:=⟨[(2,.int .u64 v.1),(8,.int .u64 v.2.1),(9,.int .u64 v.2.2.1),(10,.int .u64 v.2.2.2.1),(14,.int .u64 v.2.2.2.2.1),(15,.int .u64 v.2.2.2.2.2.1),(16,.int .u64 v.2.2.2.2.2.2.1),(17,.int .u64 v.2.2.2.2.2.2.2.1),(18,.int .u64 v.2.2.2.2.2.2.2.2.1),(120,.bool v.2.2.2.2.2.2.2.2.2)],[]⟩
def q1hv (C:q1f8) (v:q1hh):Dt q1ht:=(Dt.ret (v.1,v.2.1,v.2.2.1,v.2.2.2.1,v.2.2.2.2.1,v.2.2.2.2.2.1,v.2.2.2.2.2.2.1,v.2.2.2.2.2.2.2.1,v.2.2.2.2.2.2.2.2,(decide (v.2.2.2.2.2.2.1 ≥ (4294967296:Int)))))
theorem q1hw C v:q3zi (regO (qcz f108) 27) false (an [2,8,9,10,14,15,16,17,18,120]) q1hi q1hv q1hu C v:=rgI (by kernel_rfl)
def q1hx (C:q1f8) (v:q1hh):Dt q1fr:=(Dt.ite (decide (v.2.1 < 0)) Dt.fail (Dt.ret ((IntKind.wrap .u64 ((IntKind.wrap .u64 (v.2.2.2.2.2.1 * (4294967296:Int))) + v.2.2.2.2.2.2.2.2)),(shrI .u64 (IntKind.wrap .u64 ((IntKind.wrap .u64 ((IntKind.wrap .u64 (v.2.2.2.2.2.2.2.1 * (4294967296:Int))) + v.2.2.2.2.1)) - (IntKind.wrap .u64 (v.2.2.2.2.2.2.2.2 * v.1)))) v.2.1))))
theorem q1hy C v:q3zi (regO (qcz f108) 28) false (an [6,7]) q1hi q1hx q1fs C v:=rgI (by kernel_rfl)
def q1hz  (d:Nat)  (z:Int×Int×Int×Int×Int×Int×Int×Int×Int):Option (q1f5) :=
 (q1hx (q1f9 d) z).eval fun y28 =>
 some y28
def q1i0 (d:Nat) (self6:(Int×Int×Int×Int×Int×Int×Int×Int×Int)→Option q1f5) (x6:Int×Int×Int×Int×Int×Int×Int×Int×Int):Option q1f5 :=
 (q1hn (q1f9 d) x6).eval fun y24 =>
 bif y24.2.2.2.2.2.2.2.2.2 then ((q1hp (q1f9 d) y24).eval fun y25 =>
 (q1hr (q1f9 d) y25).eval fun y26 =>
 (q1hv (q1f9 d) y26).eval fun y27 =>
 bif y27.2.2.2.2.2.2.2.2.2 then (q1hz d  (y27.1,y27.2.1,y27.2.2.1,y27.2.2.2.1,y27.2.2.2.2.1,y27.2.2.2.2.2.1,y27.2.2.2.2.2.2.1,y27.2.2.2.2.2.2.2.1,y27.2.2.2.2.2.2.2.2.1)) else (self6 (y27.1,y27.2.1,y27.2.2.1,y27.2.2.2.1,y27.2.2.2.2.1,y27.2.2.2.2.2.1,y27.2.2.2.2.2.2.1,y27.2.2.2.2.2.2.2.1,y27.2.2.2.2.2.2.2.2.1))) else (q1hz d  (y24.1,y24.2.1,y24.2.2.1,y24.2.2.2.1,y24.2.2.2.2.1,y24.2.2.2.2.2.1,y24.2.2.2.2.2.2.1,y24.2.2.2.2.2.2.2.1,y24.2.2.2.2.2.2.2.2.1))
def q1i1  (d:Nat)  (z:Int×Int×Int×Int×Int×Int×Int×Int×Int):Option (q1f5) :=
 (q1hb (q1f9 d) z).eval fun y21 =>
 (q1hf (q1f9 d) y21).eval fun y22 =>
 (q1hj (q1f9 d) y22).eval fun y23 =>
 iter (q1i0 d ) d y23
def q1i2 (d:Nat) (self4:(Int×Int×Int×Int×Int×Int×Int×Int×Int)→Option q1f5) (x4:Int×Int×Int×Int×Int×Int×Int×Int×Int):Option q1f5 :=
 (q1gz (q1f9 d) x4).eval fun y17 =>
 bif y17.2.2.2.2.2.2.2.2.2 then ((q1h1 (q1f9 d) y17).eval fun y18 =>
 (q1h3 (q1f9 d) y18).eval fun y19 =>
 (q1h7 (q1f9 d) y19).eval fun y20 =>
 bif y20.2.2.2.2.2.2.2.2.2 then (q1i1 d  (y20.1,y20.2.1,y20.2.2.1,y20.2.2.2.1,y20.2.2.2.2.1,y20.2.2.2.2.2.1,y20.2.2.2.2.2.2.1,y20.2.2.2.2.2.2.2.1,y20.2.2.2.2.2.2.2.2.1)) else (self4 (y20.1,y20.2.1,y20.2.2.1,y20.2.2.2.1,y20.2.2.2.2.1,y20.2.2.2.2.2.1,y20.2.2.2.2.2.2.1,y20.2.2.2.2.2.2.2.1,y20.2.2.2.2.2.2.2.2.1))) else (q1i1 d  (y17.1,y17.2.1,y17.2.2.1,y17.2.2.2.1,y17.2.2.2.2.1,y17.2.2.2.2.2.1,y17.2.2.2.2.2.2.1,y17.2.2.2.2.2.2.2.1,y17.2.2.2.2.2.2.2.2.1))
def q1i3  (d:Nat)  (z:Int×Int×Int×Bool):Option (q1f5) :=
 (q1fp (q1f9 d) z).eval fun y5 =>
 bif y5.2.2.2 then ((q1ft (q1f9 d) y5).eval fun y6 =>
 some y6) else ((q1fx (q1f9 d) y5).eval fun y7 =>
 (q1fz (q1f9 d) y7).eval fun y8 =>
 (q1g3 (q1f9 d) y8).eval fun y9 =>
 (q1g7 (q1f9 d) y9).eval fun y10 =>
 (q1gb (q1f9 d) y10).eval fun y11 =>
 (q1gf (q1f9 d) y11).eval fun y12 =>
 (q1gj (q1f9 d) y12).eval fun y13 =>
 (q1gn (q1f9 d) y13).eval fun y14 =>
 (q1gr (q1f9 d) y14).eval fun y15 =>
 (q1gv (q1f9 d) y15).eval fun y16 =>
 iter (q1i2 d ) d y16)
def q1i4  (d:Nat)  (z:Int×Int×Int×Bool):Option (q1f5) :=
 (q1fl (q1f9 d) z).eval fun y3 =>
 bif y3.2.2.2 then (none) else (q1i3 d  y3)
def q1i5 (d:Nat) (x:q1f4):Option q1f5 :=
 (q1fd (q1f9 d) (x.1.1,x.2.1.1,x.2.2.1.1)).eval fun y0 =>
 (q1fh (q1f9 d) y0).eval fun y1 =>
 bif y1.2.2.2 then (none) else (q1i4 d  y1)
theorem q1i6 (d:Nat):COK prog (q1f7 (q1i5 d)):=by
 have hm:prog.follows .mixedOrders=true:=qju
 have hT:=tys
 have hC0:OrcOK prog (orc (q1fa (q1f9 d))):=qct (by
  intro S hS
  simp only [q1fa,List.mem_cons,List.not_mem_nil,or_false] at hS
  subst hS;exact q1f2 d)
 have hC:OrcOK prog (orc (q1fa (q1f9 d))):=hC0
 refine q8f (c:=qcz f108) (fn:=f108) hT (by kernel_rfl) (by kernel_rfl) (by decide) fun x r h w0 φ0 Q hend=>?_
 replace h:q1i5 d x=some r:=h
 unfold q1i5 at h
 show Run prog w0 φ0 135 (qcz f108) ⟨[(0,.int .u64 x.1.1),(1,.int .u64 x.2.1.1),(2,.int .u64 x.2.2.1.1)],[]⟩ Q
 refine q3yy hm hT hC (q1fe (q1f9 d) (x.1.1,x.2.1.1,x.2.2.1.1)) h fun y0 h=>?_
 refine q82 (r:=r) (F:=q1i4 d ) (S:=(fun z=>⟨[(0,.int .u64 z.1),(1,.int .u64 z.2.1),(2,.int .u64 z.2.2.1),(20,.bool z.2.2.2)],[]⟩:q1ff→St)) ?_ ?_
 ·
  intro z h
  unfold q1i4 at h
  refine q82 (r:=r) (F:=q1i3 d ) (S:=(fun z=>⟨[(0,.int .u64 z.1),(1,.int .u64 z.2.1),(2,.int .u64 z.2.2.1),(24,.bool z.2.2.2)],[]⟩:q1ff→St)) ?_ ?_
  ·
   intro z h
   unfold q1i3 at h
   refine q7z ?_
   refine q3yy hm hT hC (q1fq (q1f9 d) z) h fun y5 h=>?_
   refine q83 (v:=y5.2.2.2) (by kernel_rfl) h ?_ ?_
   ·
    intro h
    refine q3yy hm hT hC (q1fu (q1f9 d) y5) h fun y6 h=>?_
    refine q7y (q7n ?_)
    cases h
    exact (hend _ (by kernel_rfl)).2
   ·
    intro h
    refine q7v (q7l ?_)
    refine q3yy hm hT hC (q1fy (q1f9 d) y5) h fun y7 h=>?_
    refine q3yy hm hT hC (q1g0 (q1f9 d) y7) h fun y8 h=>?_
    refine q3yy hm hT hC (q1g4 (q1f9 d) y8) h fun y9 h=>?_
    refine q3yy hm hT hC (q1g8 (q1f9 d) y9) h fun y10 h=>?_
    refine q3yy hm hT hC (q1gc (q1f9 d) y10) h fun y11 h=>?_
    refine q3yy hm hT hC (q1gg (q1f9 d) y11) h fun y12 h=>?_
    refine q3yy hm hT hC (q1gk (q1f9 d) y12) h fun y13 h=>?_
    refine q3yy hm hT hC (q1go (q1f9 d) y13) h fun y14 h=>?_
    refine q3yy hm hT hC (q1gs (q1f9 d) y14) h fun y15 h=>?_
    refine q3yy hm hT hC (q1gw (q1f9 d) y15) h fun y16 h=>?_
    refine q82 (r:=r) (F:=q1i1 d ) (S:=(fun z=>⟨[(2,.int .u64 z.1),(8,.int .u64 z.2.1),(9,.int .u64 z.2.2.1),(10,.int .u64 z.2.2.2.1),(11,.int .u64 z.2.2.2.2.1),(13,.int .u64 z.2.2.2.2.2.1),(14,.int .u64 z.2.2.2.2.2.2.1),(15,.int .u64 z.2.2.2.2.2.2.2.1),(16,.int .u64 z.2.2.2.2.2.2.2.2)],[]⟩:q1gt→St)) ?_ ?_
    ·
     intro z h
     unfold q1i1 at h
     refine q3yy hm hT hC (q1hc (q1f9 d) z) h fun y21 h=>?_
     refine q3yy hm hT hC (q1hg (q1f9 d) y21) h fun y22 h=>?_
     refine q3yy hm hT hC (q1hk (q1f9 d) y22) h fun y23 h=>?_
     refine q82 (r:=r) (F:=q1hz d ) (S:=(fun z=>⟨[(2,.int .u64 z.1),(8,.int .u64 z.2.1),(9,.int .u64 z.2.2.1),(10,.int .u64 z.2.2.2.1),(14,.int .u64 z.2.2.2.2.1),(15,.int .u64 z.2.2.2.2.2.1),(16,.int .u64 z.2.2.2.2.2.2.1),(17,.int .u64 z.2.2.2.2.2.2.2.1),(18,.int .u64 z.2.2.2.2.2.2.2.2)],[]⟩:q1gt→St)) ?_ ?_
     ·
      intro z h
      unfold q1hz at h
      refine q3yy hm hT hC (q1hy (q1f9 d) z) h fun y28 h=>?_
      refine q7y ?_
      cases h
      exact (hend _ (by kernel_rfl)).2
     intro hj5
     refine q80 ?_
     refine q85 (G:=iter (q1i0 d )) (S:=(fun x6=>⟨[(2,.int .u64 x6.1),(8,.int .u64 x6.2.1),(9,.int .u64 x6.2.2.1),(10,.int .u64 x6.2.2.2.1),(14,.int .u64 x6.2.2.2.2.1),(15,.int .u64 x6.2.2.2.2.2.1),(16,.int .u64 x6.2.2.2.2.2.2.1),(17,.int .u64 x6.2.2.2.2.2.2.2.1),(18,.int .u64 x6.2.2.2.2.2.2.2.2)],[]⟩:q1gt→St)) (fun _=>rfl) ?_ d _ h
     intro n6 x6 h K6 hn6
     replace h:q1i0 d  (iter (q1i0 d ) n6) x6=some r:=h
     generalize iter (q1i0 d ) n6=self6 at h hn6
     unfold q1i0 at h
     refine q7z ?_
     refine q3yy hm hT hC (q1ho (q1f9 d) x6) h fun y24 h=>?_
     refine q83 (v:=y24.2.2.2.2.2.2.2.2.2) (by kernel_rfl) h ?_ ?_
     ·
      intro h
      refine q7v (q7l (q80 ?_))
      refine q3yy hm hT hC (q1hq (q1f9 d) y24) h fun y25 h=>?_
      refine q3yy hm hT hC (q1hs (q1f9 d) y25) h fun y26 h=>?_
      refine q3yy hm hT hC (q1hw (q1f9 d) y26) h fun y27 h=>?_
      refine q83 (v:=y27.2.2.2.2.2.2.2.2.2) (by kernel_rfl) h ?_ ?_
      ·
       intro h
       refine q7x ?_
       refine q7r (by rfl) ?_
       refine q7m (q7q ?_)
       refine qcy (s:=⟨[(2,.int .u64 y27.1),(8,.int .u64 y27.2.1),(9,.int .u64 y27.2.2.1),(10,.int .u64 y27.2.2.2.1),(14,.int .u64 y27.2.2.2.2.1),(15,.int .u64 y27.2.2.2.2.2.1),(16,.int .u64 y27.2.2.2.2.2.2.1),(17,.int .u64 y27.2.2.2.2.2.2.2.1),(18,.int .u64 y27.2.2.2.2.2.2.2.2.1)],[]⟩) [120] (by kernel_rfl) ?_
       exact hj5 _ h
      ·
       intro h
       refine q7v (q7o ?_)
       refine qcy (s:=⟨[(2,.int .u64 y27.1),(8,.int .u64 y27.2.1),(9,.int .u64 y27.2.2.1),(10,.int .u64 y27.2.2.2.1),(14,.int .u64 y27.2.2.2.2.1),(15,.int .u64 y27.2.2.2.2.2.1),(16,.int .u64 y27.2.2.2.2.2.2.1),(17,.int .u64 y27.2.2.2.2.2.2.2.1),(18,.int .u64 y27.2.2.2.2.2.2.2.2.1)],[]⟩) [120] (by kernel_rfl) ?_
       exact hn6 _ h
     ·
      intro h
      refine q7x (q7m (q7m (q7q ?_)))
      refine qcy (s:=⟨[(2,.int .u64 y24.1),(8,.int .u64 y24.2.1),(9,.int .u64 y24.2.2.1),(10,.int .u64 y24.2.2.2.1),(14,.int .u64 y24.2.2.2.2.1),(15,.int .u64 y24.2.2.2.2.2.1),(16,.int .u64 y24.2.2.2.2.2.2.1),(17,.int .u64 y24.2.2.2.2.2.2.2.1),(18,.int .u64 y24.2.2.2.2.2.2.2.2.1)],[]⟩) [113] (by kernel_rfl) ?_
      exact hj5 _ h
    intro hj3
    refine q80 ?_
    refine q85 (G:=iter (q1i2 d )) (S:=(fun x4=>⟨[(2,.int .u64 x4.1),(8,.int .u64 x4.2.1),(9,.int .u64 x4.2.2.1),(10,.int .u64 x4.2.2.2.1),(11,.int .u64 x4.2.2.2.2.1),(13,.int .u64 x4.2.2.2.2.2.1),(14,.int .u64 x4.2.2.2.2.2.2.1),(15,.int .u64 x4.2.2.2.2.2.2.2.1),(16,.int .u64 x4.2.2.2.2.2.2.2.2)],[]⟩:q1gt→St)) (fun _=>rfl) ?_ d _ h
    intro n4 x4 h K4 hn4
    replace h:q1i2 d  (iter (q1i2 d ) n4) x4=some r:=h
    generalize iter (q1i2 d ) n4=self4 at h hn4
    unfold q1i2 at h
    refine q7z ?_
    refine q3yy hm hT hC (q1h0 (q1f9 d) x4) h fun y17 h=>?_
    refine q83 (v:=y17.2.2.2.2.2.2.2.2.2) (by kernel_rfl) h ?_ ?_
    ·
     intro h
     refine q7v (q7l (q80 ?_))
     refine q3yy hm hT hC (q1h2 (q1f9 d) y17) h fun y18 h=>?_
     refine q3yy hm hT hC (q1h4 (q1f9 d) y18) h fun y19 h=>?_
     refine q3yy hm hT hC (q1h8 (q1f9 d) y19) h fun y20 h=>?_
     refine q83 (v:=y20.2.2.2.2.2.2.2.2.2) (by kernel_rfl) h ?_ ?_
     ·
      intro h
      refine q7x ?_
      refine q7r (by rfl) ?_
      refine q7m (q7q ?_)
      refine qcy (s:=⟨[(2,.int .u64 y20.1),(8,.int .u64 y20.2.1),(9,.int .u64 y20.2.2.1),(10,.int .u64 y20.2.2.2.1),(11,.int .u64 y20.2.2.2.2.1),(13,.int .u64 y20.2.2.2.2.2.1),(14,.int .u64 y20.2.2.2.2.2.2.1),(15,.int .u64 y20.2.2.2.2.2.2.2.1),(16,.int .u64 y20.2.2.2.2.2.2.2.2.1)],[]⟩) [85] (by kernel_rfl) ?_
      exact hj3 _ h
     ·
      intro h
      refine q7v (q7o ?_)
      refine qcy (s:=⟨[(2,.int .u64 y20.1),(8,.int .u64 y20.2.1),(9,.int .u64 y20.2.2.1),(10,.int .u64 y20.2.2.2.1),(11,.int .u64 y20.2.2.2.2.1),(13,.int .u64 y20.2.2.2.2.2.1),(14,.int .u64 y20.2.2.2.2.2.2.1),(15,.int .u64 y20.2.2.2.2.2.2.2.1),(16,.int .u64 y20.2.2.2.2.2.2.2.2.1)],[]⟩) [85] (by kernel_rfl) ?_
      exact hn4 _ h
    ·
     intro h
     refine q7x (q7m (q7m (q7q ?_)))
     refine qcy (s:=⟨[(2,.int .u64 y17.1),(8,.int .u64 y17.2.1),(9,.int .u64 y17.2.2.1),(10,.int .u64 y17.2.2.2.1),(11,.int .u64 y17.2.2.2.2.1),(13,.int .u64 y17.2.2.2.2.2.1),(14,.int .u64 y17.2.2.2.2.2.2.1),(15,.int .u64 y17.2.2.2.2.2.2.2.1),(16,.int .u64 y17.2.2.2.2.2.2.2.2.1)],[]⟩) [78] (by kernel_rfl) ?_
     exact hj3 _ h
  intro hj2
  refine q3yy hm hT hC (q1fm (q1f9 d) z) h fun y3 h=>?_
  refine q83 (v:=y3.2.2.2) (by kernel_rfl) h ?_ ?_
  ·
   intro h
   cases h
  ·
   intro h
   refine q7v ?_
   exact hj2 _ h
 intro hj1
 refine q3yy hm hT hC (q1fi (q1f9 d) y0) h fun y1 h=>?_
 refine q83 (v:=y1.2.2.2) (by kernel_rfl) h ?_ ?_
 ·
  intro h
  cases h
 ·
  intro h
  refine q7v ?_
  exact hj1 _ h
abbrev q1i7:List Pk:=[.row Ru false,.row Ru false,.row Ru false]
abbrev q1i8:Type:=Du×Du×Du×Unit
abbrev q1i9:Type:=Int
def q1ia (r:q1i9):LV×List Ob:=(.int .u64 r,[])
def q1ib (F:q1i8→Option q1i9):Go.Tx.Spec:=⟨107,q1i7,q1i9,F,q1ia⟩
abbrev q1ic:Type:=(q1f4→Option q1f5)×Unit
def q1id (d:Nat):q1ic:=(q1i5 d,())
def q1ie (C:q1ic):List Go.Tx.Spec:=[q1f7 C.1]
abbrev q1if:Type:=Int×Int×Int
def q1ig (v:q1if):St:=⟨[(0,.int .u64 v.1),(1,.int .u64 v.2.1),(2,.int .u64 v.2.2)],[]⟩
def q1ih (C:q1ic) (v:q1if):Dt q1if:=(Dt.ret (v.1,v.2.1,v.2.2))
abbrev q3zj {V Y:Type}:=@rg q1ic V Y tysT (fun C=>(orc (q1ie C))) 19
theorem q1ii C v:q3zj (regO (qcz f107) 0) false (an [0,1,2]) q1ig q1ih q1ig C v:=rgI (by kernel_rfl)
abbrev q1ij:Type:=Int
def q1ik (v:q1ij):St:=⟨[(8,.int .u64 v)],[]⟩
def q1il (C:q1ic) (v:q1if):Dt q1ij:=(Dt.ite (v.2.2 == (0:Int)) Dt.fail (Dt.bnd (C.1 (((Int.tmod v.1 v.2.2),()),(v.2.1,()),(v.2.2,()),())) fun r1=>(Dt.ret r1.2)))
theorem q1im C v:q3zj (regO (qcz f107) 1) false [(8,.any)] q1ig q1il q1ik C v:=rgI (by kernel_rfl)
abbrev q1in:Type:=Int
def q1io (v:q1in):St:=⟨[(6,.int .u64 v)],[]⟩
def q1ip (C:q1ic) (v:q1ij):Dt q1in:=(Dt.ret v)
theorem q1iq C v:q3zj (regO (qcz f107) 2) false [(6,.any)] q1ik q1ip q1io C v:=rgI (by kernel_rfl)
def q1ir (d:Nat) (x:q1i8):Option q1i9 :=
 (q1ih (q1id d) (x.1.1,x.2.1.1,x.2.2.1.1)).eval fun y0 =>
 (q1il (q1id d) y0).eval fun y1 =>
 (q1ip (q1id d) y1).eval fun y2 =>
 some y2
theorem q1is (d:Nat):COK prog (q1ib (q1ir d)):=by
 have hm:prog.follows .mixedOrders=true:=qju
 have hT:=tys
 have hC0:OrcOK prog (orc (q1ie (q1id d))):=qct (by
  intro S hS
  simp only [q1ie,List.mem_cons,List.not_mem_nil,or_false] at hS
  subst hS;exact q1i6 d)
 have hC:OrcOK prog (orc (q1ie (q1id d))):=hC0
 refine q8f (c:=qcz f107) (fn:=f107) hT (by kernel_rfl) (by kernel_rfl) (by decide) fun x r h w0 φ0 Q hend=>?_
 replace h:q1ir d x=some r:=h
 unfold q1ir at h
 show Run prog w0 φ0 19 (qcz f107) ⟨[(0,.int .u64 x.1.1),(1,.int .u64 x.2.1.1),(2,.int .u64 x.2.2.1.1)],[]⟩ Q
 refine q3yy hm hT hC (q1ii (q1id d) (x.1.1,x.2.1.1,x.2.2.1.1)) h fun y0 h=>?_
 refine q3yy hm hT hC (q1im (q1id d) y0) h fun y1 h=>?_
 refine q3yy hm hT hC (q1iq (q1id d) y1) h fun y2 h=>?_
 refine q7y ?_
 cases h
 exact (hend _ (by kernel_rfl)).2
end Go.Proofs.YtpfhgnccpiildaaGreat

namespace Go.Proofs.YtpfhgnccpiildaaGreat
open Go Go.Tx Go.Pel Go.Proofs.Tryz
set_option maxRecDepth 100000
set_option maxHeartbeats 0
abbrev q1it:List Pk:=[.row qjf true]
abbrev q1iu:Type:=qjg×Unit
abbrev q1iv:Type:=Int×Int
def q1iw (r:q1iv):LV×List Ob:=(.agg [.int .i64 r.1,.int .u64 r.2],[])
def q1ix (F:q1iu→Option q1iv):Go.Tx.Spec:=⟨105,q1it,q1iv,F,q1iw⟩
def q1iy (x:q1iu):Bool:=sumB x.1.1 x.1.2.1 x.1.2.2.1 x.1.2.2.2.1
def q1iz (d:Nat) (x:q1iu):Option q1iv:=bif q1iy x then some ((x.1.1 * x.1.2.1 + x.1.2.2.1 * x.1.2.2.2.1) / 18446744073709551616,(x.1.1 * x.1.2.1 + x.1.2.2.1 * x.1.2.2.2.1) % 18446744073709551616) else none
theorem q1j0 (d:Nat) (x:q1iu) (h:q1iy x=true):q1iz d x=some ((x.1.1 * x.1.2.1 + x.1.2.2.1 * x.1.2.2.2.1) / 18446744073709551616,(x.1.1 * x.1.2.1 + x.1.2.2.1 * x.1.2.2.2.1) % 18446744073709551616):=by unfold q1iz;rw [h];rfl
theorem q1j1 (d:Nat):COK prog (q1ix (q1iz d)):=by
 refine qhk (qhl (fn:=f105) (by kernel_rfl) (by kernel_rfl) (by kernel_rfl)) fun x r hx w φ vs hφ hv=>?_
 have hx:q1iz d x=some r:=hx
 unfold q1iz at hx
 obtain ⟨hc,rfl⟩:=qj0 hx
 have hv:VRs (Emb.fro φ) [.agg [.int .i64 x.1.1,.int .i64 x.1.2.1,.int .i64 x.1.2.2.1,.int .i64 x.1.2.2.2.1]] vs:=hv
 obtain ⟨v0,rfl,q0⟩:=vrs1 hv
 have r0:=quw q0;subst r0
 unfold q1iy at hc
 have h1:=hc
 refine (qux h1 w).mono ?_
 rintro e w' ⟨rfl,y,rfl⟩
 exact qhi hφ (VR.aggL (VRs.cons (.int _ _) (VRs.cons (.int _ _) VRs.nil))) y
end Go.Proofs.YtpfhgnccpiildaaGreat
