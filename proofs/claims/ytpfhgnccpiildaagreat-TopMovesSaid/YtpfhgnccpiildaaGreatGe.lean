/- Walks of the references; the orders agree; examples. -/
import Derived.Test.YtpfhgnccpiildaaGreatGd
set_option linter.unusedSimpArgs false
set_option linter.unusedVariables false
namespace Go.Proofs.YtpfhgnccpiildaaGreat
open Go Go.Tx Go.Proofs.Tryz
set_option maxRecDepth 100000
set_option maxHeartbeats 0
abbrev q1d0:List Pk:=[.row Ru false]
abbrev q1d1:Type:=Du×Unit
abbrev q1d2:Type:=Int
def q1d3 (r:q1d2):LV×List Ob:=(.int .i64 r,[])
def q1d4 (F:q1d1→Option q1d2):Go.Tx.Spec:=⟨162,q1d0,q1d2,F,q1d3⟩
abbrev q1d5:Type:=Unit
def q1d6 (_d:Nat):q1d5:=()
def q1d7 (C:q1d5):List Go.Tx.Spec:=[]
abbrev q1d8:Type:=Int
def q1d9 (v:q1d8):St:=⟨[(0,u6 v)],[]⟩
abbrev q1da:Type:=Int×Int
def q1db (v:q1da):St:=⟨[(0,u6 v.1),(2,i6 v.2)],[]⟩
def q1dc (C:q1d5) (v:q1d8):Dt q1da:=(Dt.ret (v,(0:Int)))
abbrev q3fk {V Y:Type}:=@rg q1d5 V Y tysT (fun C=>(orc (q1d7 C))) 25
theorem q1dd C v:q3fk (regO (qct f162) 0) false (an [0,2]) q1d9 q1dc q1db C v:=rgI (by kernel_rfl)
abbrev q1de:Type:=Int×Int×Bool
def q1df (v:q1de):St:=⟨[(0,u6 v.1),(2,i6 v.2.1),(4,.bool v.2.2)],[]⟩
def q1dg (C:q1d5) (v:q1da):Dt q1de:=(Dt.ret (v.1,v.2,(decide (v.1≥(4294967296:Int)))))
theorem q1dh C v:q3fk (regO (qct f162) 1) false (an [0,2,4]) q1db q1dg q1df C v:=rgI (by kernel_rfl)
def q1di (C:q1d5) (v:q1de):Dt q1d8:=(Dt.ret (shrI .u64 v.1 (32:Int)))
theorem q1dj C v:q3fk (regO (qct f162) 2) false [(0,.any)] q1df q1di q1d9 C v:=rgI (by kernel_rfl)
def q1dk (C:q1d5) (v:q1d8):Dt q1da:=(Dt.ret (v,(32:Int)))
theorem q1dl C v:q3fk (regO (qct f162) 3) false (an [0,2]) q1d9 q1dk q1db C v:=rgI (by kernel_rfl)
abbrev q1dm:Type:=Int×Int×Bool
def q1dn (v:q1dm):St:=⟨[(0,u6 v.1),(2,i6 v.2.1),(8,.bool v.2.2)],[]⟩
def q1do (C:q1d5) (v:q1da):Dt q1dm:=(Dt.ret (v.1,v.2,(decide (v.1≥(65536:Int)))))
theorem q1dp C v:q3fk (regO (qct f162) 4) false (an [0,2,8]) q1db q1do q1dn C v:=rgI (by kernel_rfl)
def q1dq (C:q1d5) (v:q1dm):Dt q1da:=(Dt.ret ((shrI .u64 v.1 (16:Int)),v.2.1))
theorem q1dr C v:q3fk (regO (qct f162) 5) false (an [0,2]) q1dn q1dq q1db C v:=rgI (by kernel_rfl)
def q1ds (C:q1d5) (v:q1da):Dt q1da:=(Dt.ret (v.1,(IntKind.wrap .i64 (v.2+(16:Int)))))
theorem q1dt C v:q3fk (regO (qct f162) 6) false (an [0,2]) q1db q1ds q1db C v:=rgI (by kernel_rfl)
abbrev q1du:Type:=Int×Int×Bool
def q1dv (v:q1du):St:=⟨[(0,u6 v.1),(2,i6 v.2.1),(14,.bool v.2.2)],[]⟩
def q1dw (C:q1d5) (v:q1da):Dt q1du:=(Dt.ret (v.1,v.2,(decide (v.1≥(256:Int)))))
theorem q1dx C v:q3fk (regO (qct f162) 7) false (an [0,2,14]) q1db q1dw q1dv C v:=rgI (by kernel_rfl)
def q1dy (C:q1d5) (v:q1du):Dt q1da:=(Dt.ret ((shrI .u64 v.1 (8:Int)),v.2.1))
theorem q1dz C v:q3fk (regO (qct f162) 8) false (an [0,2]) q1dv q1dy q1db C v:=rgI (by kernel_rfl)
def q1e0 (C:q1d5) (v:q1da):Dt q1da:=(Dt.ret (v.1,(IntKind.wrap .i64 (v.2+(8:Int)))))
theorem q1e1 C v:q3fk (regO (qct f162) 9) false (an [0,2]) q1db q1e0 q1db C v:=rgI (by kernel_rfl)
abbrev q1e2:Type:=Int
def q1e3 (v:q1e2):St:=⟨[(2,i6 v)],[]⟩
def q1e4 (C:q1d5) (v:q1da):Dt q1e2:=(Dt.ite (strB (⟨#[0,1,2,2,3,3,3,3,4,4,4,4,4,4,4,4,5,5,5,5,5,5,5,5,5,5,5,5,5,5,5,5,6,6,6,6,6,6,6,6,6,6,6,6,6,6,6,6,6,6,6,6,6,6,6,6,6,6,6,6,6,6,6,6,7,7,7,7,7,7,7,7,7,7,7,7,7,7,7,7,7,7,7,7,7,7,7,7,7,7,7,7,7,7,7,7,7,7,7,7,7,7,7,7,7,7,7,7,7,7,7,7,7,7,7,7,7,7,7,7,7,7,7,7,7,7,7,7,8,8,8,8,8,8,8,8,8,8,8,8,8,8,8,8,8,8,8,8,8,8,8,8,8,8,8,8,8,8,8,8,8,8,8,8,8,8,8,8,8,8,8,8,8,8,8,8,8,8,8,8,8,8,8,8,8,8,8,8,8,8,8,8,8,8,8,8,8,8,8,8,8,8,8,8,8,8,8,8,8,8,8,8,8,8,8,8,8,8,8,8,8,8,8,8,8,8,8,8,8,8,8,8,8,8,8,8,8,8,8,8,8,8,8,8,8,8,8,8,8,8,8,8,8,8,8,8]⟩:ByteArray) ((IntKind.wrap .u8 v.1))) (Dt.ret (IntKind.wrap .i64 (v.2+(IntKind.wrap .i64 (q35 (⟨#[0,1,2,2,3,3,3,3,4,4,4,4,4,4,4,4,5,5,5,5,5,5,5,5,5,5,5,5,5,5,5,5,6,6,6,6,6,6,6,6,6,6,6,6,6,6,6,6,6,6,6,6,6,6,6,6,6,6,6,6,6,6,6,6,7,7,7,7,7,7,7,7,7,7,7,7,7,7,7,7,7,7,7,7,7,7,7,7,7,7,7,7,7,7,7,7,7,7,7,7,7,7,7,7,7,7,7,7,7,7,7,7,7,7,7,7,7,7,7,7,7,7,7,7,7,7,7,7,8,8,8,8,8,8,8,8,8,8,8,8,8,8,8,8,8,8,8,8,8,8,8,8,8,8,8,8,8,8,8,8,8,8,8,8,8,8,8,8,8,8,8,8,8,8,8,8,8,8,8,8,8,8,8,8,8,8,8,8,8,8,8,8,8,8,8,8,8,8,8,8,8,8,8,8,8,8,8,8,8,8,8,8,8,8,8,8,8,8,8,8,8,8,8,8,8,8,8,8,8,8,8,8,8,8,8,8,8,8,8,8,8,8,8,8,8,8,8,8,8,8,8,8,8,8,8,8]⟩:ByteArray) ((IntKind.wrap .u8 v.1))))))) Dt.fail)
theorem q1e5 C v:q3fk (regO (qct f162) 10) false [(2,.any)] q1db q1e4 q1e3 C v:=rgI (by kernel_rfl)
def q1e6  (d:Nat)  (z:Int×Int):Option (q1d2) :=
 (q1e4 (q1d6 d) z).eval fun y10 =>
 some y10
def q1e7  (d:Nat)  (z:Int×Int):Option (q1d2) :=
 (q1dw (q1d6 d) z).eval fun y7 =>
 bif y7.2.2 then ((q1dy (q1d6 d) y7).eval fun y8 =>
 (q1e0 (q1d6 d) y8).eval fun y9 =>
 q1e6 d  y9) else (q1e6 d  (y7.1,y7.2.1))
def q1e8  (d:Nat)  (z:Int×Int):Option (q1d2) :=
 (q1do (q1d6 d) z).eval fun y4 =>
 bif y4.2.2 then ((q1dq (q1d6 d) y4).eval fun y5 =>
 (q1ds (q1d6 d) y5).eval fun y6 =>
 q1e7 d  y6) else (q1e7 d  (y4.1,y4.2.1))
def q1e9 (d:Nat) (x:q1d1):Option q1d2 :=
 (q1dc (q1d6 d) x.1.1).eval fun y0 =>
 (q1dg (q1d6 d) y0).eval fun y1 =>
 bif y1.2.2 then ((q1di (q1d6 d) y1).eval fun y2 =>
 (q1dk (q1d6 d) y2).eval fun y3 =>
 q1e8 d  y3) else (q1e8 d  (y1.1,y1.2.1))
theorem q1ea (d:Nat):COK prog (q1d4 (q1e9 d)):=by
 have hm:prog.follows .mixedOrders=true:=mixed
 have hT:=tys
 have hC0:OrcOK prog (orc (q1d7 (q1d6 d))):=qcn (by
  intro S hS
  simp only [q1d7,List.mem_cons,List.not_mem_nil,or_false] at hS
  all_goals first | cases hS | exact hS.elim)
 have hC:OrcOK prog (orc (q1d7 (q1d6 d))):=hC0
 refine q8c (c:=qct f162) (fn:=f162) hT (by kernel_rfl) (by kernel_rfl) (by decide) fun x r h w0 φ0 Q hend=>?_
 replace h:q1e9 d x=some r:=h
 unfold q1e9 at h
 show Run prog w0 φ0 25 (qct f162) ⟨[(0,.int .u64 x.1.1)],[]⟩ Q
 refine q3f2 hm hT hC (q1dd (q1d6 d) x.1.1) h fun y0 h=>?_
 refine q7z (r:=r) (F:=q1e8 d ) (S:=(fun z=>⟨[(0,u6 z.1),(2,i6 z.2)],[]⟩:Int×Int→St)) ?_ ?_
 ·
  intro z h
  unfold q1e8 at h
  refine q7z (r:=r) (F:=q1e7 d ) (S:=(fun z=>⟨[(0,u6 z.1),(2,i6 z.2)],[]⟩:Int×Int→St)) ?_ ?_
  ·
   intro z h
   unfold q1e7 at h
   refine q7z (r:=r) (F:=q1e6 d ) (S:=(fun z=>⟨[(0,u6 z.1),(2,i6 z.2)],[]⟩:Int×Int→St)) ?_ ?_
   ·
    intro z h
    unfold q1e6 at h
    refine q3f2 hm hT hC (q1e5 (q1d6 d) z) h fun y10 h=>?_
    refine q7v ?_
    cases h
    exact (hend _ (by kernel_rfl)).2
   intro hj3
   refine q3f2 hm hT hC (q1dx (q1d6 d) z) h fun y7 h=>?_
   refine q80 (v:=y7.2.2) (by kernel_rfl) h ?_ ?_
   ·
    intro h
    refine q3f2 hm hT hC (q1dz (q1d6 d) y7) h fun y8 h=>?_
    refine q81 hm hT hC (q1e1 (q1d6 d) y8) h ?_
    intro y9 h
    exact hj3 _ h
   ·
    intro h
    refine q7s ?_
    refine qcs (s:=⟨[(0,.int .u64 y7.1),(2,.int .i64 y7.2.1)],[]⟩) [14] (by kernel_rfl) ?_
    exact hj3 _ h
  intro hj2
  refine q3f2 hm hT hC (q1dp (q1d6 d) z) h fun y4 h=>?_
  refine q80 (v:=y4.2.2) (by kernel_rfl) h ?_ ?_
  ·
   intro h
   refine q3f2 hm hT hC (q1dr (q1d6 d) y4) h fun y5 h=>?_
   refine q81 hm hT hC (q1dt (q1d6 d) y5) h ?_
   intro y6 h
   exact hj2 _ h
  ·
   intro h
   refine q7s ?_
   refine qcs (s:=⟨[(0,.int .u64 y4.1),(2,.int .i64 y4.2.1)],[]⟩) [8] (by kernel_rfl) ?_
   exact hj2 _ h
 intro hj1
 refine q3f2 hm hT hC (q1dh (q1d6 d) y0) h fun y1 h=>?_
 refine q80 (v:=y1.2.2) (by kernel_rfl) h ?_ ?_
 ·
  intro h
  refine q3f2 hm hT hC (q1dj (q1d6 d) y1) h fun y2 h=>?_
  refine q81 hm hT hC (q1dl (q1d6 d) y2) h ?_
  intro y3 h
  exact hj1 _ h
 ·
  intro h
  refine q7s ?_
  refine qcs (s:=⟨[(0,.int .u64 y1.1),(2,.int .i64 y1.2.1)],[]⟩) [4] (by kernel_rfl) ?_
  exact hj1 _ h
abbrev q1eb:List Pk:=[.row Ru false]
abbrev q1ec:Type:=Du×Unit
abbrev q1ed:Type:=Int
def q1ee (r:q1ed):LV×List Ob:=(.int .i64 r,[])
def q1ef (F:q1ec→Option q1ed):Go.Tx.Spec:=⟨146,q1eb,q1ed,F,q1ee⟩
abbrev q1eg:Type:=(q1d1→Option q1d2)×Unit
def q1eh (d:Nat):q1eg:=(q1e9 d,())
def q1ei (C:q1eg):List Go.Tx.Spec:=[q1d4 C.1]
abbrev q1ej:Type:=Int
def q1ek (v:q1ej):St:=⟨[(0,u6 v)],[]⟩
def q1el (C:q1eg) (v:q1ej):Dt q1ej:=(Dt.ret v)
abbrev q3fl {V Y:Type}:=@rg q1eg V Y tysT (fun C=>(orc (q1ei C))) 6
theorem q1em C v:q3fl (regO (qct f146) 0) false [(0,.any)] q1ek q1el q1ek C v:=rgI (by kernel_rfl)
abbrev q1en:Type:=Int
def q1eo (v:q1en):St:=⟨[(2,i6 v)],[]⟩
def q1ep (C:q1eg) (v:q1ej):Dt q1en:=(Dt.bnd (C.1 ((v,()),())) fun r1=>(Dt.ret (IntKind.wrap .i64 ((64:Int) - r1))))
theorem q1eq C v:q3fl (regO (qct f146) 1) false [(2,.any)] q1ek q1ep q1eo C v:=rgI (by kernel_rfl)
def q1er (d:Nat) (x:q1ec):Option q1ed :=
 (q1el (q1eh d) x.1.1).eval fun y0 =>
 (q1ep (q1eh d) y0).eval fun y1 =>
 some y1
theorem q1es (d:Nat):COK prog (q1ef (q1er d)):=by
 have hm:prog.follows .mixedOrders=true:=mixed
 have hT:=tys
 have hC0:OrcOK prog (orc (q1ei (q1eh d))):=qcn (by
  intro S hS
  simp only [q1ei,List.mem_cons,List.not_mem_nil,or_false] at hS
  subst hS;exact q1ea d)
 have hC:OrcOK prog (orc (q1ei (q1eh d))):=hC0
 refine q8c (c:=qct f146) (fn:=f146) hT (by kernel_rfl) (by kernel_rfl) (by decide) fun x r h w0 φ0 Q hend=>?_
 replace h:q1er d x=some r:=h
 unfold q1er at h
 show Run prog w0 φ0 6 (qct f146) ⟨[(0,.int .u64 x.1.1)],[]⟩ Q
 refine q3f2 hm hT hC (q1em (q1eh d) x.1.1) h fun y0 h=>?_
 refine q3f2 hm hT hC (q1eq (q1eh d) y0) h fun y1 h=>?_
 refine q7v ?_
 cases h
 exact (hend _ (by kernel_rfl)).2
abbrev q1et:List Pk:=[.row Ru false,.row Ru false,.row Ru false]
abbrev q1eu:Type:=Du×Du×Du×Unit
abbrev q1ev:Type:=Int×Int
def q1ew (r:q1ev):LV×List Ob:=(.tup [.int .u64 r.1,.int .u64 r.2],[])
def q1ex (F:q1eu→Option q1ev):Go.Tx.Spec:=⟨108,q1et,q1ev,F,q1ew⟩
abbrev q1ey:Type:=(q1ec→Option q1ed)×Unit
def q1ez (d:Nat):q1ey:=(q1er d,())
def q1f0 (C:q1ey):List Go.Tx.Spec:=[q1ef C.1]
abbrev q1f1:Type:=Int×Int×Int
def q1f2 (v:q1f1):St:=⟨[(0,u6 v.1),(1,u6 v.2.1),(2,u6 v.2.2)],[]⟩
def q1f3 (C:q1ey) (v:q1f1):Dt q1f1:=(Dt.ret (v.1,v.2.1,v.2.2))
abbrev q3fm {V Y:Type}:=@rg q1ey V Y tysT (fun C=>(orc (q1f0 C))) 135
theorem q1f4 C v:q3fm (regO (qct f108) 0) false (an [0,1,2]) q1f2 q1f3 q1f2 C v:=rgI (by kernel_rfl)
abbrev q1f5:Type:=Int×Int×Int×Bool
def q1f6 (v:q1f5):St:=⟨[(0,u6 v.1),(1,u6 v.2.1),(2,u6 v.2.2.1),(20,.bool v.2.2.2)],[]⟩
def q1f7 (C:q1ey) (v:q1f1):Dt q1f5:=(Dt.ret (v.1,v.2.1,v.2.2,(v.2.2 == (0:Int))))
theorem q1f8 C v:q3fm (regO (qct f108) 1) false (an [0,1,2,20]) q1f2 q1f7 q1f6 C v:=rgI (by kernel_rfl)
abbrev q1f9:Type:=Int×Int×Int×Bool
def q1fa (v:q1f9):St:=⟨[(0,u6 v.1),(1,u6 v.2.1),(2,u6 v.2.2.1),(24,.bool v.2.2.2)],[]⟩
def q1fb (C:q1ey) (v:q1f5):Dt q1f9:=(Dt.ret (v.1,v.2.1,v.2.2.1,(decide (v.2.2.1≤v.1))))
theorem q1fc C v:q3fm (regO (qct f108) 3) false (an [0,1,2,24]) q1f6 q1fb q1fa C v:=rgI (by kernel_rfl)
abbrev q1fd:Type:=Int×Int×Int×Bool
def q1fe (v:q1fd):St:=⟨[(0,u6 v.1),(1,u6 v.2.1),(2,u6 v.2.2.1),(27,.bool v.2.2.2)],[]⟩
def q1ff (C:q1ey) (v:q1f9):Dt q1fd:=(Dt.ret (v.1,v.2.1,v.2.2.1,(v.1 == (0:Int))))
theorem q1fg C v:q3fm (regO (qct f108) 5) false (an [0,1,2,27]) q1fa q1ff q1fe C v:=rgI (by kernel_rfl)
abbrev q1fh:Type:=Int×Int
def q1fi (v:q1fh):St:=⟨[(6,u6 v.1),(7,u6 v.2)],[]⟩
def q1fj (C:q1ey) (v:q1fd):Dt q1fh:=(Dt.ite (v.2.2.1 == (0:Int)) Dt.fail (Dt.ite (v.2.2.1 == (0:Int)) Dt.fail (Dt.ret ((IntKind.wrap .u64 (Int.tdiv v.2.1 v.2.2.1)),(Int.tmod v.2.1 v.2.2.1)))))
theorem q1fk C v:q3fm (regO (qct f108) 6) true (an [6,7]) q1fe q1fj q1fi C v:=rgI (by kernel_rfl)
abbrev q1fl:Type:=Int×Int×Int×Int
def q1fm (v:q1fl):St:=⟨[(0,u6 v.1),(1,u6 v.2.1),(2,u6 v.2.2.1),(8,u6 v.2.2.2)],[]⟩
def q1fn (C:q1ey) (v:q1fd):Dt q1fl:=(Dt.bnd (C.1 ((v.2.2.1,()),())) fun r1=>(Dt.ret (v.1,v.2.1,v.2.2.1,(IntKind.wrap .u64 r1))))
theorem q1fo C v:q3fm (regO (qct f108) 7) false (an [0,1,2,8]) q1fe q1fn q1fm C v:=rgI (by kernel_rfl)
def q1fp (C:q1ey) (v:q1fl):Dt q1fl:=(Dt.ite (decide (v.2.2.2<0)) Dt.fail (Dt.ret (v.1,v.2.1,(shlI .u64 v.2.2.1 v.2.2.2),v.2.2.2)))
theorem q1fq C v:q3fm (regO (qct f108) 8) false (an [0,1,2,8]) q1fm q1fp q1fm C v:=rgI (by kernel_rfl)
abbrev q1fr:Type:=Int×Int×Int×Int×Int
def q1fs (v:q1fr):St:=⟨[(0,u6 v.1),(1,u6 v.2.1),(2,u6 v.2.2.1),(8,u6 v.2.2.2.1),(9,u6 v.2.2.2.2)],[]⟩
def q1ft (C:q1ey) (v:q1fl):Dt q1fr:=(Dt.ret (v.1,v.2.1,v.2.2.1,v.2.2.2,(shrI .u64 v.2.2.1 (32:Int))))
theorem q1fu C v:q3fm (regO (qct f108) 9) false (an [0,1,2,8,9]) q1fm q1ft q1fs C v:=rgI (by kernel_rfl)
abbrev q1fv:Type:=Int×Int×Int×Int×Int×Int
def q1fw (v:q1fv):St:=⟨[(0,u6 v.1),(1,u6 v.2.1),(2,u6 v.2.2.1),(8,u6 v.2.2.2.1),(9,u6 v.2.2.2.2.1),(10,u6 v.2.2.2.2.2)],[]⟩
def q1fx (C:q1ey) (v:q1fr):Dt q1fv:=(Dt.ret (v.1,v.2.1,v.2.2.1,v.2.2.2.1,v.2.2.2.2,(andI .u64 v.2.2.1 (4294967295:Int))))
theorem q1fy C v:q3fm (regO (qct f108) 10) false (an [0,1,2,8,9,10]) q1fs q1fx q1fw C v:=rgI (by kernel_rfl)
abbrev q1fz:Type:=Int×Int×Int×Int×Int×Int
def q1g0 (v:q1fz):St:=⟨[(1,u6 v.1),(2,u6 v.2.1),(8,u6 v.2.2.1),(9,u6 v.2.2.2.1),(10,u6 v.2.2.2.2.1),(11,u6 v.2.2.2.2.2)],[]⟩
def q1g1 (C:q1ey) (v:q1fv):Dt q1fz:=(Dt.ite (decide (v.2.2.2.1<0)) Dt.fail (Dt.ite (decide ((IntKind.wrap .u64 ((64:Int) - v.2.2.2.1))<0)) Dt.fail (Dt.ret (v.2.1,v.2.2.1,v.2.2.2.1,v.2.2.2.2.1,v.2.2.2.2.2,(orI .u64 (shlI .u64 v.1 v.2.2.2.1) (shrI .u64 v.2.1 (IntKind.wrap .u64 ((64:Int) - v.2.2.2.1))))))))
theorem q1g2 C v:q3fm (regO (qct f108) 11) false (an [1,2,8,9,10,11]) q1fw q1g1 q1g0 C v:=rgI (by kernel_rfl)
abbrev q1g3:Type:=Int×Int×Int×Int×Int×Int
def q1g4 (v:q1g3):St:=⟨[(2,u6 v.1),(8,u6 v.2.1),(9,u6 v.2.2.1),(10,u6 v.2.2.2.1),(11,u6 v.2.2.2.2.1),(12,u6 v.2.2.2.2.2)],[]⟩
def q1g5 (C:q1ey) (v:q1fz):Dt q1g3:=(Dt.ite (decide (v.2.2.1<0)) Dt.fail (Dt.ret (v.2.1,v.2.2.1,v.2.2.2.1,v.2.2.2.2.1,v.2.2.2.2.2,(shlI .u64 v.1 v.2.2.1))))
theorem q1g6 C v:q3fm (regO (qct f108) 12) false (an [2,8,9,10,11,12]) q1g0 q1g5 q1g4 C v:=rgI (by kernel_rfl)
abbrev q1g7:Type:=Int×Int×Int×Int×Int×Int×Int
def q1g8 (v:q1g7):St:=⟨[(2,u6 v.1),(8,u6 v.2.1),(9,u6 v.2.2.1),(10,u6 v.2.2.2.1),(11,u6 v.2.2.2.2.1),(12,u6 v.2.2.2.2.2.1),(13,u6 v.2.2.2.2.2.2)],[]⟩
def q1g9 (C:q1ey) (v:q1g3):Dt q1g7:=(Dt.ret (v.1,v.2.1,v.2.2.1,v.2.2.2.1,v.2.2.2.2.1,v.2.2.2.2.2,(shrI .u64 v.2.2.2.2.2 (32:Int))))
theorem q1ga C v:q3fm (regO (qct f108) 13) false (an [2,8,9,10,11,12,13]) q1g4 q1g9 q1g8 C v:=rgI (by kernel_rfl)
abbrev q1gb:Type:=Int×Int×Int×Int×Int×Int×Int
def q1gc (v:q1gb):St:=⟨[(2,u6 v.1),(8,u6 v.2.1),(9,u6 v.2.2.1),(10,u6 v.2.2.2.1),(11,u6 v.2.2.2.2.1),(13,u6 v.2.2.2.2.2.1),(14,u6 v.2.2.2.2.2.2)],[]⟩
def q1gd (C:q1ey) (v:q1g7):Dt q1gb:=(Dt.ret (v.1,v.2.1,v.2.2.1,v.2.2.2.1,v.2.2.2.2.1,v.2.2.2.2.2.2,(andI .u64 v.2.2.2.2.2.1 (4294967295:Int))))
theorem q1ge C v:q3fm (regO (qct f108) 14) false (an [2,8,9,10,11,13,14]) q1g8 q1gd q1gc C v:=rgI (by kernel_rfl)
abbrev q1gf:Type:=Int×Int×Int×Int×Int×Int×Int×Int
def q1gg (v:q1gf):St:=⟨[(2,u6 v.1),(8,u6 v.2.1),(9,u6 v.2.2.1),(10,u6 v.2.2.2.1),(11,u6 v.2.2.2.2.1),(13,u6 v.2.2.2.2.2.1),(14,u6 v.2.2.2.2.2.2.1),(15,u6 v.2.2.2.2.2.2.2)],[]⟩
def q1gh (C:q1ey) (v:q1gb):Dt q1gf:=(Dt.ite (v.2.2.1 == (0:Int)) Dt.fail (Dt.ret (v.1,v.2.1,v.2.2.1,v.2.2.2.1,v.2.2.2.2.1,v.2.2.2.2.2.1,v.2.2.2.2.2.2,(IntKind.wrap .u64 (Int.tdiv v.2.2.2.2.1 v.2.2.1)))))
theorem q1gi C v:q3fm (regO (qct f108) 15) false (an [2,8,9,10,11,13,14,15]) q1gc q1gh q1gg C v:=rgI (by kernel_rfl)
abbrev q1gj:Type:=Int×Int×Int×Int×Int×Int×Int×Int×Int
def q1gk (v:q1gj):St:=⟨[(2,u6 v.1),(8,u6 v.2.1),(9,u6 v.2.2.1),(10,u6 v.2.2.2.1),(11,u6 v.2.2.2.2.1),(13,u6 v.2.2.2.2.2.1),(14,u6 v.2.2.2.2.2.2.1),(15,u6 v.2.2.2.2.2.2.2.1),(16,u6 v.2.2.2.2.2.2.2.2)],[]⟩
def q1gl (C:q1ey) (v:q1gf):Dt q1gj:=(Dt.ret (v.1,v.2.1,v.2.2.1,v.2.2.2.1,v.2.2.2.2.1,v.2.2.2.2.2.1,v.2.2.2.2.2.2.1,v.2.2.2.2.2.2.2,(IntKind.wrap .u64 (v.2.2.2.2.1 - (IntKind.wrap .u64 (v.2.2.2.2.2.2.2*v.2.2.1))))))
theorem q1gm C v:q3fm (regO (qct f108) 16) false (an [2,8,9,10,11,13,14,15,16]) q1gg q1gl q1gk C v:=rgI (by kernel_rfl)
abbrev q1gn:Type:=Int×Int×Int×Int×Int×Int×Int×Int×Int×Bool
def q1go (v:q1gn):St:=⟨[(2,u6 v.1),(8,u6 v.2.1),(9,u6 v.2.2.1),(10,u6 v.2.2.2.1),(11,u6 v.2.2.2.2.1),(13,u6 v.2.2.2.2.2.1),(14,u6 v.2.2.2.2.2.2.1),(15,u6 v.2.2.2.2.2.2.2.1),(16,u6 v.2.2.2.2.2.2.2.2.1),(78,.bool v.2.2.2.2.2.2.2.2.2)],[]⟩
def q1gp (C:q1ey) (v:q1gj):Dt q1gn:=(Dt.ite (decide (v.2.2.2.2.2.2.2.1≥(4294967296:Int))) (Dt.ret (v.1,v.2.1,v.2.2.1,v.2.2.2.1,v.2.2.2.2.1,v.2.2.2.2.2.1,v.2.2.2.2.2.2.1,v.2.2.2.2.2.2.2.1,v.2.2.2.2.2.2.2.2,true)) (Dt.ret (v.1,v.2.1,v.2.2.1,v.2.2.2.1,v.2.2.2.2.1,v.2.2.2.2.2.1,v.2.2.2.2.2.2.1,v.2.2.2.2.2.2.2.1,v.2.2.2.2.2.2.2.2,(decide ((IntKind.wrap .u64 (v.2.2.2.2.2.2.2.1*v.2.2.2.1)) > (IntKind.wrap .u64 ((IntKind.wrap .u64 ((4294967296:Int)*v.2.2.2.2.2.2.2.2))+v.2.2.2.2.2.1)))))))
theorem q1gq C v:q3fm (regO (qct f108) 17) false (an [2,8,9,10,11,13,14,15,16,78]) q1gk q1gp q1go C v:=rgI (by kernel_rfl)
def q1gr (C:q1ey) (v:q1gn):Dt q1gj:=(Dt.ret (v.1,v.2.1,v.2.2.1,v.2.2.2.1,v.2.2.2.2.1,v.2.2.2.2.2.1,v.2.2.2.2.2.2.1,(IntKind.wrap .u64 (v.2.2.2.2.2.2.2.1 - (1:Int))),v.2.2.2.2.2.2.2.2.1))
theorem q1gs C v:q3fm (regO (qct f108) 18) false (an [2,8,9,10,11,13,14,15,16]) q1go q1gr q1gk C v:=rgI (by kernel_rfl)
def q1gt (C:q1ey) (v:q1gj):Dt q1gj:=(Dt.ret (v.1,v.2.1,v.2.2.1,v.2.2.2.1,v.2.2.2.2.1,v.2.2.2.2.2.1,v.2.2.2.2.2.2.1,v.2.2.2.2.2.2.2.1,(IntKind.wrap .u64 (v.2.2.2.2.2.2.2.2+v.2.2.1))))
theorem q1gu C v:q3fm (regO (qct f108) 19) false (an [2,8,9,10,11,13,14,15,16]) q1gk q1gt q1gk C v:=rgI (by kernel_rfl)
abbrev q1gv:Type:=Int×Int×Int×Int×Int×Int×Int×Int×Int×Bool
def q1gw (v:q1gv):St:=⟨[(2,u6 v.1),(8,u6 v.2.1),(9,u6 v.2.2.1),(10,u6 v.2.2.2.1),(11,u6 v.2.2.2.2.1),(13,u6 v.2.2.2.2.2.1),(14,u6 v.2.2.2.2.2.2.1),(15,u6 v.2.2.2.2.2.2.2.1),(16,u6 v.2.2.2.2.2.2.2.2.1),(85,.bool v.2.2.2.2.2.2.2.2.2)],[]⟩
def q1gx (C:q1ey) (v:q1gj):Dt q1gv:=(Dt.ret (v.1,v.2.1,v.2.2.1,v.2.2.2.1,v.2.2.2.2.1,v.2.2.2.2.2.1,v.2.2.2.2.2.2.1,v.2.2.2.2.2.2.2.1,v.2.2.2.2.2.2.2.2,(decide (v.2.2.2.2.2.2.2.2≥(4294967296:Int)))))
theorem q1gy C v:q3fm (regO (qct f108) 20) false (an [2,8,9,10,11,13,14,15,16,85]) q1gk q1gx q1gw C v:=rgI (by kernel_rfl)
abbrev q1gz:Type:=Int×Int×Int×Int×Int×Int×Int
def q1h0 (v:q1gz):St:=⟨[(2,u6 v.1),(8,u6 v.2.1),(9,u6 v.2.2.1),(10,u6 v.2.2.2.1),(14,u6 v.2.2.2.2.1),(15,u6 v.2.2.2.2.2.1),(17,u6 v.2.2.2.2.2.2)],[]⟩
def q1h1 (C:q1ey) (v:q1gj):Dt q1gz:=(Dt.ret (v.1,v.2.1,v.2.2.1,v.2.2.2.1,v.2.2.2.2.2.2.1,v.2.2.2.2.2.2.2.1,(IntKind.wrap .u64 ((IntKind.wrap .u64 ((IntKind.wrap .u64 (v.2.2.2.2.1*(4294967296:Int)))+v.2.2.2.2.2.1)) - (IntKind.wrap .u64 (v.2.2.2.2.2.2.2.1*v.1))))))
theorem q1h2 C v:q3fm (regO (qct f108) 21) false (an [2,8,9,10,14,15,17]) q1gk q1h1 q1h0 C v:=rgI (by kernel_rfl)
abbrev q1h3:Type:=Int×Int×Int×Int×Int×Int×Int×Int
def q1h4 (v:q1h3):St:=⟨[(2,u6 v.1),(8,u6 v.2.1),(9,u6 v.2.2.1),(10,u6 v.2.2.2.1),(14,u6 v.2.2.2.2.1),(15,u6 v.2.2.2.2.2.1),(17,u6 v.2.2.2.2.2.2.1),(18,u6 v.2.2.2.2.2.2.2)],[]⟩
def q1h5 (C:q1ey) (v:q1gz):Dt q1h3:=(Dt.ite (v.2.2.1 == (0:Int)) Dt.fail (Dt.ret (v.1,v.2.1,v.2.2.1,v.2.2.2.1,v.2.2.2.2.1,v.2.2.2.2.2.1,v.2.2.2.2.2.2,(IntKind.wrap .u64 (Int.tdiv v.2.2.2.2.2.2 v.2.2.1)))))
theorem q1h6 C v:q3fm (regO (qct f108) 22) false (an [2,8,9,10,14,15,17,18]) q1h0 q1h5 q1h4 C v:=rgI (by kernel_rfl)
abbrev q1h7:Type:=Int×Int×Int×Int×Int×Int×Int×Int×Int
def q1h8 (v:q1h7):St:=⟨[(2,u6 v.1),(8,u6 v.2.1),(9,u6 v.2.2.1),(10,u6 v.2.2.2.1),(14,u6 v.2.2.2.2.1),(15,u6 v.2.2.2.2.2.1),(16,u6 v.2.2.2.2.2.2.1),(17,u6 v.2.2.2.2.2.2.2.1),(18,u6 v.2.2.2.2.2.2.2.2)],[]⟩
def q1h9 (C:q1ey) (v:q1h3):Dt q1h7:=(Dt.ret (v.1,v.2.1,v.2.2.1,v.2.2.2.1,v.2.2.2.2.1,v.2.2.2.2.2.1,(IntKind.wrap .u64 (v.2.2.2.2.2.2.1 - (IntKind.wrap .u64 (v.2.2.2.2.2.2.2*v.2.2.1)))),v.2.2.2.2.2.2.1,v.2.2.2.2.2.2.2))
theorem q1ha C v:q3fm (regO (qct f108) 23) false (an [2,8,9,10,14,15,16,17,18]) q1h4 q1h9 q1h8 C v:=rgI (by kernel_rfl)
abbrev q1hb:Type:=Int×Int×Int×Int×Int×Int×Int×Int×Int×Bool
def q1hc (v:q1hb):St:=⟨[(2,u6 v.1),(8,u6 v.2.1),(9,u6 v.2.2.1),(10,u6 v.2.2.2.1),(14,u6 v.2.2.2.2.1),(15,u6 v.2.2.2.2.2.1),(16,u6 v.2.2.2.2.2.2.1),(17,u6 v.2.2.2.2.2.2.2.1),(18,u6 v.2.2.2.2.2.2.2.2.1),(113,.bool v.2.2.2.2.2.2.2.2.2)],[]⟩
def q1hd (C:q1ey) (v:q1h7):Dt q1hb:=(Dt.ite (decide (v.2.2.2.2.2.2.2.2≥(4294967296:Int))) (Dt.ret (v.1,v.2.1,v.2.2.1,v.2.2.2.1,v.2.2.2.2.1,v.2.2.2.2.2.1,v.2.2.2.2.2.2.1,v.2.2.2.2.2.2.2.1,v.2.2.2.2.2.2.2.2,true)) (Dt.ret (v.1,v.2.1,v.2.2.1,v.2.2.2.1,v.2.2.2.2.1,v.2.2.2.2.2.1,v.2.2.2.2.2.2.1,v.2.2.2.2.2.2.2.1,v.2.2.2.2.2.2.2.2,(decide ((IntKind.wrap .u64 (v.2.2.2.2.2.2.2.2*v.2.2.2.1)) > (IntKind.wrap .u64 ((IntKind.wrap .u64 ((4294967296:Int)*v.2.2.2.2.2.2.1))+v.2.2.2.2.1)))))))
theorem q1he C v:q3fm (regO (qct f108) 24) false (an [2,8,9,10,14,15,16,17,18,113]) q1h8 q1hd q1hc C v:=rgI (by kernel_rfl)
def q1hf (C:q1ey) (v:q1hb):Dt q1h7:=(Dt.ret (v.1,v.2.1,v.2.2.1,v.2.2.2.1,v.2.2.2.2.1,v.2.2.2.2.2.1,v.2.2.2.2.2.2.1,v.2.2.2.2.2.2.2.1,(IntKind.wrap .u64 (v.2.2.2.2.2.2.2.2.1 - (1:Int)))))
theorem q1hg C v:q3fm (regO (qct f108) 25) false (an [2,8,9,10,14,15,16,17,18]) q1hc q1hf q1h8 C v:=rgI (by kernel_rfl)
def q1hh (C:q1ey) (v:q1h7):Dt q1h7:=(Dt.ret (v.1,v.2.1,v.2.2.1,v.2.2.2.1,v.2.2.2.2.1,v.2.2.2.2.2.1,(IntKind.wrap .u64 (v.2.2.2.2.2.2.1+v.2.2.1)),v.2.2.2.2.2.2.2.1,v.2.2.2.2.2.2.2.2))
theorem q1hi C v:q3fm (regO (qct f108) 26) false (an [2,8,9,10,14,15,16,17,18]) q1h8 q1hh q1h8 C v:=rgI (by kernel_rfl)
abbrev q1hj:Type:=Int×Int×Int×Int×Int×Int×Int×Int×Int×Bool
def q1hk (v:q1hj):St:=⟨[(2,u6 v.1),(8,u6 v.2.1),(9,u6 v.2.2.1),(10,u6 v.2.2.2.1),(14,u6 v.2.2.2.2.1),(15,u6 v.2.2.2.2.2.1),(16,u6 v.2.2.2.2.2.2.1),(17,u6 v.2.2.2.2.2.2.2.1),(18,u6 v.2.2.2.2.2.2.2.2.1),(120,.bool v.2.2.2.2.2.2.2.2.2)],[]⟩
def q1hl (C:q1ey) (v:q1h7):Dt q1hj:=(Dt.ret (v.1,v.2.1,v.2.2.1,v.2.2.2.1,v.2.2.2.2.1,v.2.2.2.2.2.1,v.2.2.2.2.2.2.1,v.2.2.2.2.2.2.2.1,v.2.2.2.2.2.2.2.2,(decide (v.2.2.2.2.2.2.1≥(4294967296:Int)))))
theorem q1hm C v:q3fm (regO (qct f108) 27) false (an [2,8,9,10,14,15,16,17,18,120]) q1h8 q1hl q1hk C v:=rgI (by kernel_rfl)
def q1hn (C:q1ey) (v:q1h7):Dt q1fh:=(Dt.ite (decide (v.2.1<0)) Dt.fail (Dt.ret ((IntKind.wrap .u64 ((IntKind.wrap .u64 (v.2.2.2.2.2.1*(4294967296:Int)))+v.2.2.2.2.2.2.2.2)),(shrI .u64 (IntKind.wrap .u64 ((IntKind.wrap .u64 ((IntKind.wrap .u64 (v.2.2.2.2.2.2.2.1*(4294967296:Int)))+v.2.2.2.2.1)) - (IntKind.wrap .u64 (v.2.2.2.2.2.2.2.2*v.1)))) v.2.1))))
theorem q1ho C v:q3fm (regO (qct f108) 28) false (an [6,7]) q1h8 q1hn q1fi C v:=rgI (by kernel_rfl)
def q1hp  (d:Nat)  (z:Int×Int×Int×Int×Int×Int×Int×Int×Int):Option (q1ev) :=
 (q1hn (q1ez d) z).eval fun y28 =>
 some y28
def q1hq (d:Nat) (self6:(Int×Int×Int×Int×Int×Int×Int×Int×Int)→Option q1ev) (x6:Int×Int×Int×Int×Int×Int×Int×Int×Int):Option q1ev :=
 (q1hd (q1ez d) x6).eval fun y24 =>
 bif y24.2.2.2.2.2.2.2.2.2 then ((q1hf (q1ez d) y24).eval fun y25 =>
 (q1hh (q1ez d) y25).eval fun y26 =>
 (q1hl (q1ez d) y26).eval fun y27 =>
 bif y27.2.2.2.2.2.2.2.2.2 then (q1hp d  (y27.1,y27.2.1,y27.2.2.1,y27.2.2.2.1,y27.2.2.2.2.1,y27.2.2.2.2.2.1,y27.2.2.2.2.2.2.1,y27.2.2.2.2.2.2.2.1,y27.2.2.2.2.2.2.2.2.1)) else (self6 (y27.1,y27.2.1,y27.2.2.1,y27.2.2.2.1,y27.2.2.2.2.1,y27.2.2.2.2.2.1,y27.2.2.2.2.2.2.1,y27.2.2.2.2.2.2.2.1,y27.2.2.2.2.2.2.2.2.1))) else (q1hp d  (y24.1,y24.2.1,y24.2.2.1,y24.2.2.2.1,y24.2.2.2.2.1,y24.2.2.2.2.2.1,y24.2.2.2.2.2.2.1,y24.2.2.2.2.2.2.2.1,y24.2.2.2.2.2.2.2.2.1))
def q1hr  (d:Nat)  (z:Int×Int×Int×Int×Int×Int×Int×Int×Int):Option (q1ev) :=
 (q1h1 (q1ez d) z).eval fun y21 =>
 (q1h5 (q1ez d) y21).eval fun y22 =>
 (q1h9 (q1ez d) y22).eval fun y23 =>
 iter (q1hq d ) d y23
def q1hs (d:Nat) (self4:(Int×Int×Int×Int×Int×Int×Int×Int×Int)→Option q1ev) (x4:Int×Int×Int×Int×Int×Int×Int×Int×Int):Option q1ev :=
 (q1gp (q1ez d) x4).eval fun y17 =>
 bif y17.2.2.2.2.2.2.2.2.2 then ((q1gr (q1ez d) y17).eval fun y18 =>
 (q1gt (q1ez d) y18).eval fun y19 =>
 (q1gx (q1ez d) y19).eval fun y20 =>
 bif y20.2.2.2.2.2.2.2.2.2 then (q1hr d  (y20.1,y20.2.1,y20.2.2.1,y20.2.2.2.1,y20.2.2.2.2.1,y20.2.2.2.2.2.1,y20.2.2.2.2.2.2.1,y20.2.2.2.2.2.2.2.1,y20.2.2.2.2.2.2.2.2.1)) else (self4 (y20.1,y20.2.1,y20.2.2.1,y20.2.2.2.1,y20.2.2.2.2.1,y20.2.2.2.2.2.1,y20.2.2.2.2.2.2.1,y20.2.2.2.2.2.2.2.1,y20.2.2.2.2.2.2.2.2.1))) else (q1hr d  (y17.1,y17.2.1,y17.2.2.1,y17.2.2.2.1,y17.2.2.2.2.1,y17.2.2.2.2.2.1,y17.2.2.2.2.2.2.1,y17.2.2.2.2.2.2.2.1,y17.2.2.2.2.2.2.2.2.1))
def q1ht  (d:Nat)  (z:Int×Int×Int×Bool):Option (q1ev) :=
 (q1ff (q1ez d) z).eval fun y5 =>
 bif y5.2.2.2 then ((q1fj (q1ez d) y5).eval fun y6 =>
 some y6) else ((q1fn (q1ez d) y5).eval fun y7 =>
 (q1fp (q1ez d) y7).eval fun y8 =>
 (q1ft (q1ez d) y8).eval fun y9 =>
 (q1fx (q1ez d) y9).eval fun y10 =>
 (q1g1 (q1ez d) y10).eval fun y11 =>
 (q1g5 (q1ez d) y11).eval fun y12 =>
 (q1g9 (q1ez d) y12).eval fun y13 =>
 (q1gd (q1ez d) y13).eval fun y14 =>
 (q1gh (q1ez d) y14).eval fun y15 =>
 (q1gl (q1ez d) y15).eval fun y16 =>
 iter (q1hs d ) d y16)
def q1hu  (d:Nat)  (z:Int×Int×Int×Bool):Option (q1ev) :=
 (q1fb (q1ez d) z).eval fun y3 =>
 bif y3.2.2.2 then (none) else (q1ht d  y3)
def q1hv (d:Nat) (x:q1eu):Option q1ev :=
 (q1f3 (q1ez d) (x.1.1,x.2.1.1,x.2.2.1.1)).eval fun y0 =>
 (q1f7 (q1ez d) y0).eval fun y1 =>
 bif y1.2.2.2 then (none) else (q1hu d  y1)
theorem q1hw (d:Nat):COK prog (q1ex (q1hv d)):=by
 have hm:prog.follows .mixedOrders=true:=mixed
 have hT:=tys
 have hC0:OrcOK prog (orc (q1f0 (q1ez d))):=qcn (by
  intro S hS
  simp only [q1f0,List.mem_cons,List.not_mem_nil,or_false] at hS
  subst hS;exact q1es d)
 have hC:OrcOK prog (orc (q1f0 (q1ez d))):=hC0
 refine q8c (c:=qct f108) (fn:=f108) hT (by kernel_rfl) (by kernel_rfl) (by decide) fun x r h w0 φ0 Q hend=>?_
 replace h:q1hv d x=some r:=h
 unfold q1hv at h
 show Run prog w0 φ0 135 (qct f108) ⟨[(0,.int .u64 x.1.1),(1,.int .u64 x.2.1.1),(2,.int .u64 x.2.2.1.1)],[]⟩ Q
 refine q3f2 hm hT hC (q1f4 (q1ez d) (x.1.1,x.2.1.1,x.2.2.1.1)) h fun y0 h=>?_
 refine q7z (r:=r) (F:=q1hu d ) (S:=(fun z=>⟨[(0,u6 z.1),(1,u6 z.2.1),(2,u6 z.2.2.1),(20,.bool z.2.2.2)],[]⟩:q1f5→St)) ?_ ?_
 ·
  intro z h
  unfold q1hu at h
  refine q7z (r:=r) (F:=q1ht d ) (S:=(fun z=>⟨[(0,u6 z.1),(1,u6 z.2.1),(2,u6 z.2.2.1),(24,.bool z.2.2.2)],[]⟩:q1f5→St)) ?_ ?_
  ·
   intro z h
   unfold q1ht at h
   refine q7w ?_
   refine q3f2 hm hT hC (q1fg (q1ez d) z) h fun y5 h=>?_
   refine q80 (v:=y5.2.2.2) (by kernel_rfl) h ?_ ?_
   ·
    intro h
    refine q3f2 hm hT hC (q1fk (q1ez d) y5) h fun y6 h=>?_
    refine q7v (q7k ?_)
    cases h
    exact (hend _ (by kernel_rfl)).2
   ·
    intro h
    refine q7s (q7i ?_)
    refine q3f2 hm hT hC (q1fo (q1ez d) y5) h fun y7 h=>?_
    refine q3f2 hm hT hC (q1fq (q1ez d) y7) h fun y8 h=>?_
    refine q3f2 hm hT hC (q1fu (q1ez d) y8) h fun y9 h=>?_
    refine q3f2 hm hT hC (q1fy (q1ez d) y9) h fun y10 h=>?_
    refine q3f2 hm hT hC (q1g2 (q1ez d) y10) h fun y11 h=>?_
    refine q3f2 hm hT hC (q1g6 (q1ez d) y11) h fun y12 h=>?_
    refine q3f2 hm hT hC (q1ga (q1ez d) y12) h fun y13 h=>?_
    refine q3f2 hm hT hC (q1ge (q1ez d) y13) h fun y14 h=>?_
    refine q3f2 hm hT hC (q1gi (q1ez d) y14) h fun y15 h=>?_
    refine q3f2 hm hT hC (q1gm (q1ez d) y15) h fun y16 h=>?_
    refine q7z (r:=r) (F:=q1hr d ) (S:=(fun z=>⟨[(2,u6 z.1),(8,u6 z.2.1),(9,u6 z.2.2.1),(10,u6 z.2.2.2.1),(11,u6 z.2.2.2.2.1),(13,u6 z.2.2.2.2.2.1),(14,u6 z.2.2.2.2.2.2.1),(15,u6 z.2.2.2.2.2.2.2.1),(16,u6 z.2.2.2.2.2.2.2.2)],[]⟩:q1gj→St)) ?_ ?_
    ·
     intro z h
     unfold q1hr at h
     refine q3f2 hm hT hC (q1h2 (q1ez d) z) h fun y21 h=>?_
     refine q3f2 hm hT hC (q1h6 (q1ez d) y21) h fun y22 h=>?_
     refine q3f2 hm hT hC (q1ha (q1ez d) y22) h fun y23 h=>?_
     refine q7z (r:=r) (F:=q1hp d ) (S:=(fun z=>⟨[(2,u6 z.1),(8,u6 z.2.1),(9,u6 z.2.2.1),(10,u6 z.2.2.2.1),(14,u6 z.2.2.2.2.1),(15,u6 z.2.2.2.2.2.1),(16,u6 z.2.2.2.2.2.2.1),(17,u6 z.2.2.2.2.2.2.2.1),(18,u6 z.2.2.2.2.2.2.2.2)],[]⟩:q1gj→St)) ?_ ?_
     ·
      intro z h
      unfold q1hp at h
      refine q3f2 hm hT hC (q1ho (q1ez d) z) h fun y28 h=>?_
      refine q7v ?_
      cases h
      exact (hend _ (by kernel_rfl)).2
     intro hj5
     refine q7x ?_
     refine q82 (G:=iter (q1hq d )) (S:=(fun x6=>⟨[(2,u6 x6.1),(8,u6 x6.2.1),(9,u6 x6.2.2.1),(10,u6 x6.2.2.2.1),(14,u6 x6.2.2.2.2.1),(15,u6 x6.2.2.2.2.2.1),(16,u6 x6.2.2.2.2.2.2.1),(17,u6 x6.2.2.2.2.2.2.2.1),(18,u6 x6.2.2.2.2.2.2.2.2)],[]⟩:q1gj→St)) (fun _=>rfl) ?_ d _ h
     intro n6 x6 h K6 hn6
     replace h:q1hq d  (iter (q1hq d ) n6) x6=some r:=h
     generalize iter (q1hq d ) n6=self6 at h hn6
     unfold q1hq at h
     refine q7w ?_
     refine q3f2 hm hT hC (q1he (q1ez d) x6) h fun y24 h=>?_
     refine q80 (v:=y24.2.2.2.2.2.2.2.2.2) (by kernel_rfl) h ?_ ?_
     ·
      intro h
      refine q7s (q7i (q7x ?_))
      refine q3f2 hm hT hC (q1hg (q1ez d) y24) h fun y25 h=>?_
      refine q3f2 hm hT hC (q1hi (q1ez d) y25) h fun y26 h=>?_
      refine q3f2 hm hT hC (q1hm (q1ez d) y26) h fun y27 h=>?_
      refine q80 (v:=y27.2.2.2.2.2.2.2.2.2) (by kernel_rfl) h ?_ ?_
      ·
       intro h
       refine q7u ?_
       refine q7o (by rfl) ?_
       refine q7j (q7n ?_)
       refine qcs (s:=⟨[(2,.int .u64 y27.1),(8,.int .u64 y27.2.1),(9,.int .u64 y27.2.2.1),(10,.int .u64 y27.2.2.2.1),(14,.int .u64 y27.2.2.2.2.1),(15,.int .u64 y27.2.2.2.2.2.1),(16,.int .u64 y27.2.2.2.2.2.2.1),(17,.int .u64 y27.2.2.2.2.2.2.2.1),(18,.int .u64 y27.2.2.2.2.2.2.2.2.1)],[]⟩) [120] (by kernel_rfl) ?_
       exact hj5 _ h
      ·
       intro h
       refine q7s (q7l ?_)
       refine qcs (s:=⟨[(2,.int .u64 y27.1),(8,.int .u64 y27.2.1),(9,.int .u64 y27.2.2.1),(10,.int .u64 y27.2.2.2.1),(14,.int .u64 y27.2.2.2.2.1),(15,.int .u64 y27.2.2.2.2.2.1),(16,.int .u64 y27.2.2.2.2.2.2.1),(17,.int .u64 y27.2.2.2.2.2.2.2.1),(18,.int .u64 y27.2.2.2.2.2.2.2.2.1)],[]⟩) [120] (by kernel_rfl) ?_
       exact hn6 _ h
     ·
      intro h
      refine q7u (q7j (q7j (q7n ?_)))
      refine qcs (s:=⟨[(2,.int .u64 y24.1),(8,.int .u64 y24.2.1),(9,.int .u64 y24.2.2.1),(10,.int .u64 y24.2.2.2.1),(14,.int .u64 y24.2.2.2.2.1),(15,.int .u64 y24.2.2.2.2.2.1),(16,.int .u64 y24.2.2.2.2.2.2.1),(17,.int .u64 y24.2.2.2.2.2.2.2.1),(18,.int .u64 y24.2.2.2.2.2.2.2.2.1)],[]⟩) [113] (by kernel_rfl) ?_
      exact hj5 _ h
    intro hj3
    refine q7x ?_
    refine q82 (G:=iter (q1hs d )) (S:=(fun x4=>⟨[(2,u6 x4.1),(8,u6 x4.2.1),(9,u6 x4.2.2.1),(10,u6 x4.2.2.2.1),(11,u6 x4.2.2.2.2.1),(13,u6 x4.2.2.2.2.2.1),(14,u6 x4.2.2.2.2.2.2.1),(15,u6 x4.2.2.2.2.2.2.2.1),(16,u6 x4.2.2.2.2.2.2.2.2)],[]⟩:q1gj→St)) (fun _=>rfl) ?_ d _ h
    intro n4 x4 h K4 hn4
    replace h:q1hs d  (iter (q1hs d ) n4) x4=some r:=h
    generalize iter (q1hs d ) n4=self4 at h hn4
    unfold q1hs at h
    refine q7w ?_
    refine q3f2 hm hT hC (q1gq (q1ez d) x4) h fun y17 h=>?_
    refine q80 (v:=y17.2.2.2.2.2.2.2.2.2) (by kernel_rfl) h ?_ ?_
    ·
     intro h
     refine q7s (q7i (q7x ?_))
     refine q3f2 hm hT hC (q1gs (q1ez d) y17) h fun y18 h=>?_
     refine q3f2 hm hT hC (q1gu (q1ez d) y18) h fun y19 h=>?_
     refine q3f2 hm hT hC (q1gy (q1ez d) y19) h fun y20 h=>?_
     refine q80 (v:=y20.2.2.2.2.2.2.2.2.2) (by kernel_rfl) h ?_ ?_
     ·
      intro h
      refine q7u ?_
      refine q7o (by rfl) ?_
      refine q7j (q7n ?_)
      refine qcs (s:=⟨[(2,.int .u64 y20.1),(8,.int .u64 y20.2.1),(9,.int .u64 y20.2.2.1),(10,.int .u64 y20.2.2.2.1),(11,.int .u64 y20.2.2.2.2.1),(13,.int .u64 y20.2.2.2.2.2.1),(14,.int .u64 y20.2.2.2.2.2.2.1),(15,.int .u64 y20.2.2.2.2.2.2.2.1),(16,.int .u64 y20.2.2.2.2.2.2.2.2.1)],[]⟩) [85] (by kernel_rfl) ?_
      exact hj3 _ h
     ·
      intro h
      refine q7s (q7l ?_)
      refine qcs (s:=⟨[(2,.int .u64 y20.1),(8,.int .u64 y20.2.1),(9,.int .u64 y20.2.2.1),(10,.int .u64 y20.2.2.2.1),(11,.int .u64 y20.2.2.2.2.1),(13,.int .u64 y20.2.2.2.2.2.1),(14,.int .u64 y20.2.2.2.2.2.2.1),(15,.int .u64 y20.2.2.2.2.2.2.2.1),(16,.int .u64 y20.2.2.2.2.2.2.2.2.1)],[]⟩) [85] (by kernel_rfl) ?_
      exact hn4 _ h
    ·
     intro h
     refine q7u (q7j (q7j (q7n ?_)))
     refine qcs (s:=⟨[(2,.int .u64 y17.1),(8,.int .u64 y17.2.1),(9,.int .u64 y17.2.2.1),(10,.int .u64 y17.2.2.2.1),(11,.int .u64 y17.2.2.2.2.1),(13,.int .u64 y17.2.2.2.2.2.1),(14,.int .u64 y17.2.2.2.2.2.2.1),(15,.int .u64 y17.2.2.2.2.2.2.2.1),(16,.int .u64 y17.2.2.2.2.2.2.2.2.1)],[]⟩) [78] (by kernel_rfl) ?_
     exact hj3 _ h
  intro hj2
  refine q3f2 hm hT hC (q1fc (q1ez d) z) h fun y3 h=>?_
  refine q80 (v:=y3.2.2.2) (by kernel_rfl) h ?_ ?_
  ·
   intro h
   cases h
  ·
   intro h
   refine q7s ?_
   exact hj2 _ h
 intro hj1
 refine q3f2 hm hT hC (q1f8 (q1ez d) y0) h fun y1 h=>?_
 refine q80 (v:=y1.2.2.2) (by kernel_rfl) h ?_ ?_
 ·
  intro h
  cases h
 ·
  intro h
  refine q7s ?_
  exact hj1 _ h
abbrev q1hx:List Pk:=[.row Ru false,.row Ru false,.row Ru false]
abbrev q1hy:Type:=Du×Du×Du×Unit
abbrev q1hz:Type:=Int
def q1i0 (r:q1hz):LV×List Ob:=(.int .u64 r,[])
def q1i1 (F:q1hy→Option q1hz):Go.Tx.Spec:=⟨107,q1hx,q1hz,F,q1i0⟩
abbrev q1i2:Type:=(q1eu→Option q1ev)×Unit
def q1i3 (d:Nat):q1i2:=(q1hv d,())
def q1i4 (C:q1i2):List Go.Tx.Spec:=[q1ex C.1]
abbrev q1i5:Type:=Int×Int×Int
def q1i6 (v:q1i5):St:=⟨[(0,u6 v.1),(1,u6 v.2.1),(2,u6 v.2.2)],[]⟩
def q1i7 (C:q1i2) (v:q1i5):Dt q1i5:=(Dt.ret (v.1,v.2.1,v.2.2))
abbrev q3fn {V Y:Type}:=@rg q1i2 V Y tysT (fun C=>(orc (q1i4 C))) 19
theorem q1i8 C v:q3fn (regO (qct f107) 0) false (an [0,1,2]) q1i6 q1i7 q1i6 C v:=rgI (by kernel_rfl)
abbrev q1i9:Type:=Int
def q1ia (v:q1i9):St:=⟨[(8,u6 v)],[]⟩
def q1ib (C:q1i2) (v:q1i5):Dt q1i9:=(Dt.ite (v.2.2 == (0:Int)) Dt.fail (Dt.bnd (C.1 (((Int.tmod v.1 v.2.2),()),(v.2.1,()),(v.2.2,()),())) fun r1=>(Dt.ret r1.2)))
theorem q1ic C v:q3fn (regO (qct f107) 1) false [(8,.any)] q1i6 q1ib q1ia C v:=rgI (by kernel_rfl)
abbrev q1id:Type:=Int
def q1ie (v:q1id):St:=⟨[(6,u6 v)],[]⟩
def q1if (C:q1i2) (v:q1i9):Dt q1id:=(Dt.ret v)
theorem q1ig C v:q3fn (regO (qct f107) 2) false [(6,.any)] q1ia q1if q1ie C v:=rgI (by kernel_rfl)
def q1ih (d:Nat) (x:q1hy):Option q1hz :=
 (q1i7 (q1i3 d) (x.1.1,x.2.1.1,x.2.2.1.1)).eval fun y0 =>
 (q1ib (q1i3 d) y0).eval fun y1 =>
 (q1if (q1i3 d) y1).eval fun y2 =>
 some y2
theorem q1ii (d:Nat):COK prog (q1i1 (q1ih d)):=by
 have hm:prog.follows .mixedOrders=true:=mixed
 have hT:=tys
 have hC0:OrcOK prog (orc (q1i4 (q1i3 d))):=qcn (by
  intro S hS
  simp only [q1i4,List.mem_cons,List.not_mem_nil,or_false] at hS
  subst hS;exact q1hw d)
 have hC:OrcOK prog (orc (q1i4 (q1i3 d))):=hC0
 refine q8c (c:=qct f107) (fn:=f107) hT (by kernel_rfl) (by kernel_rfl) (by decide) fun x r h w0 φ0 Q hend=>?_
 replace h:q1ih d x=some r:=h
 unfold q1ih at h
 show Run prog w0 φ0 19 (qct f107) ⟨[(0,.int .u64 x.1.1),(1,.int .u64 x.2.1.1),(2,.int .u64 x.2.2.1.1)],[]⟩ Q
 refine q3f2 hm hT hC (q1i8 (q1i3 d) (x.1.1,x.2.1.1,x.2.2.1.1)) h fun y0 h=>?_
 refine q3f2 hm hT hC (q1ic (q1i3 d) y0) h fun y1 h=>?_
 refine q3f2 hm hT hC (q1ig (q1i3 d) y1) h fun y2 h=>?_
 refine q7v ?_
 cases h
 exact (hend _ (by kernel_rfl)).2
end Go.Proofs.YtpfhgnccpiildaaGreat

namespace Go.Proofs.YtpfhgnccpiildaaGreat
open Go Go.Tx Go.Pel Go.Proofs.Tryz
set_option maxRecDepth 100000
set_option maxHeartbeats 0
abbrev q1ij:List Pk:=[.row qj8 true]
abbrev q1ik:Type:=qj9×Unit
abbrev q1il:Type:=Int×Int
def q1im (r:q1il):LV×List Ob:=(.agg [.int .i64 r.1,.int .u64 r.2],[])
def q1in (F:q1ik→Option q1il):Go.Tx.Spec:=⟨105,q1ij,q1il,F,q1im⟩
def q1io (x:q1ik):Bool:=sumB x.1.1 x.1.2.1 x.1.2.2.1 x.1.2.2.2.1
def q1ip (d:Nat) (x:q1ik):Option q1il:=bif q1io x then some ((x.1.1*x.1.2.1+x.1.2.2.1*x.1.2.2.2.1) / 18446744073709551616,(x.1.1*x.1.2.1+x.1.2.2.1*x.1.2.2.2.1) % 18446744073709551616) else none
theorem q1iq (d:Nat) (x:q1ik) (h:q1io x=true):q1ip d x=some ((x.1.1*x.1.2.1+x.1.2.2.1*x.1.2.2.2.1) / 18446744073709551616,(x.1.1*x.1.2.1+x.1.2.2.1*x.1.2.2.2.1) % 18446744073709551616):=by unfold q1ip;rw [h];rfl
theorem q1ir (d:Nat):COK prog (q1in (q1ip d)):=by
 refine qhd (qhe (fn:=f105) (by kernel_rfl) (by kernel_rfl) (by kernel_rfl)) fun x r hx w φ vs hφ hv=>?_
 have hx:q1ip d x=some r:=hx
 unfold q1ip at hx
 obtain ⟨hc,rfl⟩:=qit hx
 have hv:VRs (Emb.fro φ) [.agg [.int .i64 x.1.1,.int .i64 x.1.2.1,.int .i64 x.1.2.2.1,.int .i64 x.1.2.2.2.1]] vs:=hv
 obtain ⟨v0,rfl,q0⟩:=vrs1 hv
 have r0:=qul q0;subst r0
 unfold q1io at hc
 have h1:=hc
 refine (qum h1 w).mono ?_
 rintro e w' ⟨rfl,y,rfl⟩
 exact qhb hφ (VR.aggL (VRs.cons (.int _ _) (VRs.cons (.int _ _) VRs.nil))) y
end Go.Proofs.YtpfhgnccpiildaaGreat
