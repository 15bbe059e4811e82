/- Walks of the references; the orders agree; examples. -/
import Derived.Test.YtpfhgnccpiildaaGreatGd
set_option linter.unusedSimpArgs false
set_option linter.unusedVariables false
namespace Go.Proofs.YtpfhgnccpiildaaGreat
open Go Go.Tx Go.Proofs.Tryz
set_option maxRecDepth 100000
set_option maxHeartbeats 0
abbrev q1d9:List Pk:=[.row Ru false]
abbrev q1da:Type:=Du×Unit
abbrev q1db:Type:=Int
def q1dc (r:q1db):LV×List Ob:=(.int .i64 r,[])
def q1dd (F:q1da→Option q1db):Go.Tx.Spec:=⟨162,q1d9,q1db,F,q1dc⟩
abbrev q1de:Type:=Unit
def q1df (_d:Nat):q1de:=()
def q1dg (C:q1de):List Go.Tx.Spec:=[]
abbrev q1dh:Type:=Int
def q1di (v:q1dh):St:=⟨[(0,u6 v)],[]⟩
abbrev q1dj:Type:=Int×Int
def q1dk (v:q1dj):St:=⟨[(0,u6 v.1),(2,i6 v.2)],[]⟩
def q1dl (C:q1de) (v:q1dh):Dt q1dj:=(Dt.ret (v,(0:Int)))
abbrev q3zf {V Y:Type}:=@rg q1de V Y tysT (fun C=>(orc (q1dg C))) 25
theorem q1dm C v:q3zf (regO (qcy f162) 0) false (an [0,2]) q1di q1dl q1dk C v:=rgI (by kernel_rfl)
abbrev q1dn:Type:=Int×Int×Bool
def q1do (v:q1dn):St:=⟨[(0,u6 v.1),(2,i6 v.2.1),(4,.bool v.2.2)],[]⟩
def q1dp (C:q1de) (v:q1dj):Dt q1dn:=(Dt.ret (v.1,v.2,(decide (v.1≥(4294967296:Int)))))
theorem q1dq C v:q3zf (regO (qcy f162) 1) false (an [0,2,4]) q1dk q1dp q1do C v:=rgI (by kernel_rfl)
def q1dr (C:q1de) (v:q1dn):Dt q1dh:=(Dt.ret (shrI .u64 v.1 (32:Int)))
theorem q1ds C v:q3zf (regO (qcy f162) 2) false [(0,.any)] q1do q1dr q1di C v:=rgI (by kernel_rfl)
def q1dt (C:q1de) (v:q1dh):Dt q1dj:=(Dt.ret (v,(32:Int)))
theorem q1du C v:q3zf (regO (qcy f162) 3) false (an [0,2]) q1di q1dt q1dk C v:=rgI (by kernel_rfl)
abbrev q1dv:Type:=Int×Int×Bool
def q1dw (v:q1dv):St:=⟨[(0,u6 v.1),(2,i6 v.2.1),(8,.bool v.2.2)],[]⟩
def q1dx (C:q1de) (v:q1dj):Dt q1dv:=(Dt.ret (v.1,v.2,(decide (v.1≥(65536:Int)))))
theorem q1dy C v:q3zf (regO (qcy f162) 4) false (an [0,2,8]) q1dk q1dx q1dw C v:=rgI (by kernel_rfl)
def q1dz (C:q1de) (v:q1dv):Dt q1dj:=(Dt.ret ((shrI .u64 v.1 (16:Int)),v.2.1))
theorem q1e0 C v:q3zf (regO (qcy f162) 5) false (an [0,2]) q1dw q1dz q1dk C v:=rgI (by kernel_rfl)
def q1e1 (C:q1de) (v:q1dj):Dt q1dj:=(Dt.ret (v.1,(IntKind.wrap .i64 (v.2+(16:Int)))))
theorem q1e2 C v:q3zf (regO (qcy f162) 6) false (an [0,2]) q1dk q1e1 q1dk C v:=rgI (by kernel_rfl)
abbrev q1e3:Type:=Int×Int×Bool
def q1e4 (v:q1e3):St:=⟨[(0,u6 v.1),(2,i6 v.2.1),(14,.bool v.2.2)],[]⟩
def q1e5 (C:q1de) (v:q1dj):Dt q1e3:=(Dt.ret (v.1,v.2,(decide (v.1≥(256:Int)))))
theorem q1e6 C v:q3zf (regO (qcy f162) 7) false (an [0,2,14]) q1dk q1e5 q1e4 C v:=rgI (by kernel_rfl)
def q1e7 (C:q1de) (v:q1e3):Dt q1dj:=(Dt.ret ((shrI .u64 v.1 (8:Int)),v.2.1))
theorem q1e8 C v:q3zf (regO (qcy f162) 8) false (an [0,2]) q1e4 q1e7 q1dk C v:=rgI (by kernel_rfl)
def q1e9 (C:q1de) (v:q1dj):Dt q1dj:=(Dt.ret (v.1,(IntKind.wrap .i64 (v.2+(8:Int)))))
theorem q1ea C v:q3zf (regO (qcy f162) 9) false (an [0,2]) q1dk q1e9 q1dk C v:=rgI (by kernel_rfl)
abbrev q1eb:Type:=Int
def q1ec (v:q1eb):St:=⟨[(2,i6 v)],[]⟩
def q1ed (C:q1de) (v:q1dj):Dt q1eb:=(Dt.ite (strB (⟨#[0,1,2,2,3,3,3,3,4,4,4,4,4,4,4,4,5,5,5,5,5,5,5,5,5,5,5,5,5,5,5,5,6,6,6,6,6,6,6,6,6,6,6,6,6,6,6,6,6,6,6,6,6,6,6,6,6,6,6,6,6,6,6,6,7,7,7,7,7,7,7,7,7,7,7,7,7,7,7,7,7,7,7,7,7,7,7,7,7,7,7,7,7,7,7,7,7,7,7,7,7,7,7,7,7,7,7,7,7,7,7,7,7,7,7,7,7,7,7,7,7,7,7,7,7,7,7,7,8,8,8,8,8,8,8,8,8,8,8,8,8,8,8,8,8,8,8,8,8,8,8,8,8,8,8,8,8,8,8,8,8,8,8,8,8,8,8,8,8,8,8,8,8,8,8,8,8,8,8,8,8,8,8,8,8,8,8,8,8,8,8,8,8,8,8,8,8,8,8,8,8,8,8,8,8,8,8,8,8,8,8,8,8,8,8,8,8,8,8,8,8,8,8,8,8,8,8,8,8,8,8,8,8,8,8,8,8,8,8,8,8,8,8,8,8,8,8,8,8,8,8,8,8,8,8,8]⟩:ByteArray) ((IntKind.wrap .u8 v.1))) (Dt.ret (IntKind.wrap .i64 (v.2+(IntKind.wrap .i64 (q36 (⟨#[0,1,2,2,3,3,3,3,4,4,4,4,4,4,4,4,5,5,5,5,5,5,5,5,5,5,5,5,5,5,5,5,6,6,6,6,6,6,6,6,6,6,6,6,6,6,6,6,6,6,6,6,6,6,6,6,6,6,6,6,6,6,6,6,7,7,7,7,7,7,7,7,7,7,7,7,7,7,7,7,7,7,7,7,7,7,7,7,7,7,7,7,7,7,7,7,7,7,7,7,7,7,7,7,7,7,7,7,7,7,7,7,7,7,7,7,7,7,7,7,7,7,7,7,7,7,7,7,8,8,8,8,8,8,8,8,8,8,8,8,8,8,8,8,8,8,8,8,8,8,8,8,8,8,8,8,8,8,8,8,8,8,8,8,8,8,8,8,8,8,8,8,8,8,8,8,8,8,8,8,8,8,8,8,8,8,8,8,8,8,8,8,8,8,8,8,8,8,8,8,8,8,8,8,8,8,8,8,8,8,8,8,8,8,8,8,8,8,8,8,8,8,8,8,8,8,8,8,8,8,8,8,8,8,8,8,8,8,8,8,8,8,8,8,8,8,8,8,8,8,8,8,8,8,8,8]⟩:ByteArray) ((IntKind.wrap .u8 v.1))))))) Dt.fail)
theorem q1ee C v:q3zf (regO (qcy f162) 10) false [(2,.any)] q1dk q1ed q1ec C v:=rgI (by kernel_rfl)
def q1ef  (d:Nat)  (z:Int×Int):Option (q1db) :=
 (q1ed (q1df d) z).eval fun y10 =>
 some y10
def q1eg  (d:Nat)  (z:Int×Int):Option (q1db) :=
 (q1e5 (q1df d) z).eval fun y7 =>
 bif y7.2.2 then ((q1e7 (q1df d) y7).eval fun y8 =>
 (q1e9 (q1df d) y8).eval fun y9 =>
 q1ef d  y9) else (q1ef d  (y7.1,y7.2.1))
def q1eh  (d:Nat)  (z:Int×Int):Option (q1db) :=
 (q1dx (q1df d) z).eval fun y4 =>
 bif y4.2.2 then ((q1dz (q1df d) y4).eval fun y5 =>
 (q1e1 (q1df d) y5).eval fun y6 =>
 q1eg d  y6) else (q1eg d  (y4.1,y4.2.1))
def q1ei (d:Nat) (x:q1da):Option q1db :=
 (q1dl (q1df d) x.1.1).eval fun y0 =>
 (q1dp (q1df d) y0).eval fun y1 =>
 bif y1.2.2 then ((q1dr (q1df d) y1).eval fun y2 =>
 (q1dt (q1df d) y2).eval fun y3 =>
 q1eh d  y3) else (q1eh d  (y1.1,y1.2.1))
theorem q1ej (d:Nat):COK prog (q1dd (q1ei d)):=by
 have hm:prog.follows .mixedOrders=true:=qjt
 have hT:=tys
 have hC0:OrcOK prog (orc (q1dg (q1df d))):=qcs (by
  intro S hS
  simp only [q1dg,List.mem_cons,List.not_mem_nil,or_false] at hS
  all_goals first | cases hS | exact hS.elim)
 have hC:OrcOK prog (orc (q1dg (q1df d))):=hC0
 refine q8e (c:=qcy f162) (fn:=f162) hT (by kernel_rfl) (by kernel_rfl) (by decide) fun x r h w0 φ0 Q hend=>?_
 replace h:q1ei d x=some r:=h
 unfold q1ei at h
 show Run prog w0 φ0 25 (qcy f162) ⟨[(0,.int .u64 x.1.1)],[]⟩ Q
 refine q3yx hm hT hC (q1dm (q1df d) x.1.1) h fun y0 h=>?_
 refine q81 (r:=r) (F:=q1eh d ) (S:=(fun z=>⟨[(0,u6 z.1),(2,i6 z.2)],[]⟩:Int×Int→St)) ?_ ?_
 ·
  intro z h
  unfold q1eh at h
  refine q81 (r:=r) (F:=q1eg d ) (S:=(fun z=>⟨[(0,u6 z.1),(2,i6 z.2)],[]⟩:Int×Int→St)) ?_ ?_
  ·
   intro z h
   unfold q1eg at h
   refine q81 (r:=r) (F:=q1ef d ) (S:=(fun z=>⟨[(0,u6 z.1),(2,i6 z.2)],[]⟩:Int×Int→St)) ?_ ?_
   ·
    intro z h
    unfold q1ef at h
    refine q3yx hm hT hC (q1ee (q1df d) z) h fun y10 h=>?_
    refine q7x ?_
    cases h
    exact (hend _ (by kernel_rfl)).2
   intro hj3
   refine q3yx hm hT hC (q1e6 (q1df d) z) h fun y7 h=>?_
   refine q82 (v:=y7.2.2) (by kernel_rfl) h ?_ ?_
   ·
    intro h
    refine q3yx hm hT hC (q1e8 (q1df d) y7) h fun y8 h=>?_
    refine q83 hm hT hC (q1ea (q1df d) y8) h ?_
    intro y9 h
    exact hj3 _ h
   ·
    intro h
    refine q7u ?_
    refine qcx (s:=⟨[(0,.int .u64 y7.1),(2,.int .i64 y7.2.1)],[]⟩) [14] (by kernel_rfl) ?_
    exact hj3 _ h
  intro hj2
  refine q3yx hm hT hC (q1dy (q1df d) z) h fun y4 h=>?_
  refine q82 (v:=y4.2.2) (by kernel_rfl) h ?_ ?_
  ·
   intro h
   refine q3yx hm hT hC (q1e0 (q1df d) y4) h fun y5 h=>?_
   refine q83 hm hT hC (q1e2 (q1df d) y5) h ?_
   intro y6 h
   exact hj2 _ h
  ·
   intro h
   refine q7u ?_
   refine qcx (s:=⟨[(0,.int .u64 y4.1),(2,.int .i64 y4.2.1)],[]⟩) [8] (by kernel_rfl) ?_
   exact hj2 _ h
 intro hj1
 refine q3yx hm hT hC (q1dq (q1df d) y0) h fun y1 h=>?_
 refine q82 (v:=y1.2.2) (by kernel_rfl) h ?_ ?_
 ·
  intro h
  refine q3yx hm hT hC (q1ds (q1df d) y1) h fun y2 h=>?_
  refine q83 hm hT hC (q1du (q1df d) y2) h ?_
  intro y3 h
  exact hj1 _ h
 ·
  intro h
  refine q7u ?_
  refine qcx (s:=⟨[(0,.int .u64 y1.1),(2,.int .i64 y1.2.1)],[]⟩) [4] (by kernel_rfl) ?_
  exact hj1 _ h
abbrev q1ek:List Pk:=[.row Ru false]
abbrev q1el:Type:=Du×Unit
abbrev q1em:Type:=Int
def q1en (r:q1em):LV×List Ob:=(.int .i64 r,[])
def q1eo (F:q1el→Option q1em):Go.Tx.Spec:=⟨146,q1ek,q1em,F,q1en⟩
abbrev q1ep:Type:=(q1da→Option q1db)×Unit
def q1eq (d:Nat):q1ep:=(q1ei d,())
def q1er (C:q1ep):List Go.Tx.Spec:=[q1dd C.1]
abbrev q1es:Type:=Int
def q1et (v:q1es):St:=⟨[(0,u6 v)],[]⟩
def q1eu (C:q1ep) (v:q1es):Dt q1es:=(Dt.ret v)
abbrev q3zg {V Y:Type}:=@rg q1ep V Y tysT (fun C=>(orc (q1er C))) 6
theorem q1ev C v:q3zg (regO (qcy f146) 0) false [(0,.any)] q1et q1eu q1et C v:=rgI (by kernel_rfl)
abbrev q1ew:Type:=Int
def q1ex (v:q1ew):St:=⟨[(2,i6 v)],[]⟩
def q1ey (C:q1ep) (v:q1es):Dt q1ew:=(Dt.bnd (C.1 ((v,()),())) fun r1=>(Dt.ret (IntKind.wrap .i64 ((64:Int) - r1))))
theorem q1ez C v:q3zg (regO (qcy f146) 1) false [(2,.any)] q1et q1ey q1ex C v:=rgI (by kernel_rfl)
def q1f0 (d:Nat) (x:q1el):Option q1em :=
 (q1eu (q1eq d) x.1.1).eval fun y0 =>
 (q1ey (q1eq d) y0).eval fun y1 =>
 some y1
theorem q1f1 (d:Nat):COK prog (q1eo (q1f0 d)):=by
 have hm:prog.follows .mixedOrders=true:=qjt
 have hT:=tys
 have hC0:OrcOK prog (orc (q1er (q1eq d))):=qcs (by
  intro S hS
  simp only [q1er,List.mem_cons,List.not_mem_nil,or_false] at hS
  subst hS;exact q1ej d)
 have hC:OrcOK prog (orc (q1er (q1eq d))):=hC0
 refine q8e (c:=qcy f146) (fn:=f146) hT (by kernel_rfl) (by kernel_rfl) (by decide) fun x r h w0 φ0 Q hend=>?_
 replace h:q1f0 d x=some r:=h
 unfold q1f0 at h
 show Run prog w0 φ0 6 (qcy f146) ⟨[(0,.int .u64 x.1.1)],[]⟩ Q
 refine q3yx hm hT hC (q1ev (q1eq d) x.1.1) h fun y0 h=>?_
 refine q3yx hm hT hC (q1ez (q1eq d) y0) h fun y1 h=>?_
 refine q7x ?_
 cases h
 exact (hend _ (by kernel_rfl)).2
abbrev q1f2:List Pk:=[.row Ru false,.row Ru false,.row Ru false]
abbrev q1f3:Type:=Du×Du×Du×Unit
abbrev q1f4:Type:=Int×Int
def q1f5 (r:q1f4):LV×List Ob:=(.tup [.int .u64 r.1,.int .u64 r.2],[])
def q1f6 (F:q1f3→Option q1f4):Go.Tx.Spec:=⟨108,q1f2,q1f4,F,q1f5⟩
abbrev q1f7:Type:=(q1el→Option q1em)×Unit
def q1f8 (d:Nat):q1f7:=(q1f0 d,())
def q1f9 (C:q1f7):List Go.Tx.Spec:=[q1eo C.1]
abbrev q1fa:Type:=Int×Int×Int
def q1fb (v:q1fa):St:=⟨[(0,u6 v.1),(1,u6 v.2.1),(2,u6 v.2.2)],[]⟩
def q1fc (C:q1f7) (v:q1fa):Dt q1fa:=(Dt.ret (v.1,v.2.1,v.2.2))
abbrev q3zh {V Y:Type}:=@rg q1f7 V Y tysT (fun C=>(orc (q1f9 C))) 135
theorem q1fd C v:q3zh (regO (qcy f108) 0) false (an [0,1,2]) q1fb q1fc q1fb C v:=rgI (by kernel_rfl)
abbrev q1fe:Type:=Int×Int×Int×Bool
def q1ff (v:q1fe):St:=⟨[(0,u6 v.1),(1,u6 v.2.1),(2,u6 v.2.2.1),(20,.bool v.2.2.2)],[]⟩
def q1fg (C:q1f7) (v:q1fa):Dt q1fe:=(Dt.ret (v.1,v.2.1,v.2.2,(v.2.2==(0:Int))))
theorem q1fh C v:q3zh (regO (qcy f108) 1) false (an [0,1,2,20]) q1fb q1fg q1ff C v:=rgI (by kernel_rfl)
abbrev q1fi:Type:=Int×Int×Int×Bool
def q1fj (v:q1fi):St:=⟨[(0,u6 v.1),(1,u6 v.2.1),(2,u6 v.2.2.1),(24,.bool v.2.2.2)],[]⟩
def q1fk (C:q1f7) (v:q1fe):Dt q1fi:=(Dt.ret (v.1,v.2.1,v.2.2.1,(decide (v.2.2.1≤v.1))))
theorem q1fl C v:q3zh (regO (qcy f108) 3) false (an [0,1,2,24]) q1ff q1fk q1fj C v:=rgI (by kernel_rfl)
abbrev q1fm:Type:=Int×Int×Int×Bool
def q1fn (v:q1fm):St:=⟨[(0,u6 v.1),(1,u6 v.2.1),(2,u6 v.2.2.1),(27,.bool v.2.2.2)],[]⟩
def q1fo (C:q1f7) (v:q1fi):Dt q1fm:=(Dt.ret (v.1,v.2.1,v.2.2.1,(v.1==(0:Int))))
theorem q1fp C v:q3zh (regO (qcy f108) 5) false (an [0,1,2,27]) q1fj q1fo q1fn C v:=rgI (by kernel_rfl)
abbrev q1fq:Type:=Int×Int
def q1fr (v:q1fq):St:=⟨[(6,u6 v.1),(7,u6 v.2)],[]⟩
def q1fs (C:q1f7) (v:q1fm):Dt q1fq:=(Dt.ite (v.2.2.1==(0:Int)) Dt.fail (Dt.ite (v.2.2.1==(0:Int)) Dt.fail (Dt.ret ((IntKind.wrap .u64 (Int.tdiv v.2.1 v.2.2.1)),(Int.tmod v.2.1 v.2.2.1)))))
theorem q1ft C v:q3zh (regO (qcy f108) 6) true (an [6,7]) q1fn q1fs q1fr C v:=rgI (by kernel_rfl)
abbrev q1fu:Type:=Int×Int×Int×Int
def q1fv (v:q1fu):St:=⟨[(0,u6 v.1),(1,u6 v.2.1),(2,u6 v.2.2.1),(8,u6 v.2.2.2)],[]⟩
def q1fw (C:q1f7) (v:q1fm):Dt q1fu:=(Dt.bnd (C.1 ((v.2.2.1,()),())) fun r1=>(Dt.ret (v.1,v.2.1,v.2.2.1,(IntKind.wrap .u64 r1))))
theorem q1fx C v:q3zh (regO (qcy f108) 7) false (an [0,1,2,8]) q1fn q1fw q1fv C v:=rgI (by kernel_rfl)
def q1fy (C:q1f7) (v:q1fu):Dt q1fu:=(Dt.ite (decide (v.2.2.2<0)) Dt.fail (Dt.ret (v.1,v.2.1,(shlI .u64 v.2.2.1 v.2.2.2),v.2.2.2)))
theorem q1fz C v:q3zh (regO (qcy f108) 8) false (an [0,1,2,8]) q1fv q1fy q1fv C v:=rgI (by kernel_rfl)
abbrev q1g0:Type:=Int×Int×Int×Int×Int
def q1g1 (v:q1g0):St:=⟨[(0,u6 v.1),(1,u6 v.2.1),(2,u6 v.2.2.1),(8,u6 v.2.2.2.1),(9,u6 v.2.2.2.2)],[]⟩
def q1g2 (C:q1f7) (v:q1fu):Dt q1g0:=(Dt.ret (v.1,v.2.1,v.2.2.1,v.2.2.2,(shrI .u64 v.2.2.1 (32:Int))))
theorem q1g3 C v:q3zh (regO (qcy f108) 9) false (an [0,1,2,8,9]) q1fv q1g2 q1g1 C v:=rgI (by kernel_rfl)
abbrev q1g4:Type:=Int×Int×Int×Int×Int×Int
def q1g5 (v:q1g4):St:=⟨[(0,u6 v.1),(1,u6 v.2.1),(2,u6 v.2.2.1),(8,u6 v.2.2.2.1),(9,u6 v.2.2.2.2.1),(10,u6 v.2.2.2.2.2)],[]⟩
def q1g6 (C:q1f7) (v:q1g0):Dt q1g4:=(Dt.ret (v.1,v.2.1,v.2.2.1,v.2.2.2.1,v.2.2.2.2,(andI .u64 v.2.2.1 (4294967295:Int))))
theorem q1g7 C v:q3zh (regO (qcy f108) 10) false (an [0,1,2,8,9,10]) q1g1 q1g6 q1g5 C v:=rgI (by kernel_rfl)
abbrev q1g8:Type:=Int×Int×Int×Int×Int×Int
def q1g9 (v:q1g8):St:=⟨[(1,u6 v.1),(2,u6 v.2.1),(8,u6 v.2.2.1),(9,u6 v.2.2.2.1),(10,u6 v.2.2.2.2.1),(11,u6 v.2.2.2.2.2)],[]⟩
def q1ga (C:q1f7) (v:q1g4):Dt q1g8:=(Dt.ite (decide (v.2.2.2.1<0)) Dt.fail (Dt.ite (decide ((IntKind.wrap .u64 ((64:Int) - v.2.2.2.1))<0)) Dt.fail (Dt.ret (v.2.1,v.2.2.1,v.2.2.2.1,v.2.2.2.2.1,v.2.2.2.2.2,(orI .u64 (shlI .u64 v.1 v.2.2.2.1) (shrI .u64 v.2.1 (IntKind.wrap .u64 ((64:Int) - v.2.2.2.1))))))))
theorem q1gb C v:q3zh (regO (qcy f108) 11) false (an [1,2,8,9,10,11]) q1g5 q1ga q1g9 C v:=rgI (by kernel_rfl)
abbrev q1gc:Type:=Int×Int×Int×Int×Int×Int
def q1gd (v:q1gc):St:=⟨[(2,u6 v.1),(8,u6 v.2.1),(9,u6 v.2.2.1),(10,u6 v.2.2.2.1),(11,u6 v.2.2.2.2.1),(12,u6 v.2.2.2.2.2)],[]⟩
def q1ge (C:q1f7) (v:q1g8):Dt q1gc:=(Dt.ite (decide (v.2.2.1<0)) Dt.fail (Dt.ret (v.2.1,v.2.2.1,v.2.2.2.1,v.2.2.2.2.1,v.2.2.2.2.2,(shlI .u64 v.1 v.2.2.1))))
theorem q1gf C v:q3zh (regO (qcy f108) 12) false (an [2,8,9,10,11,12]) q1g9 q1ge q1gd C v:=rgI (by kernel_rfl)
abbrev q1gg:Type:=Int×Int×Int×Int×Int×Int×Int
def q1gh (v:q1gg):St:=⟨[(2,u6 v.1),(8,u6 v.2.1),(9,u6 v.2.2.1),(10,u6 v.2.2.2.1),(11,u6 v.2.2.2.2.1),(12,u6 v.2.2.2.2.2.1),(13,u6 v.2.2.2.2.2.2)],[]⟩
def q1gi (C:q1f7) (v:q1gc):Dt q1gg:=(Dt.ret (v.1,v.2.1,v.2.2.1,v.2.2.2.1,v.2.2.2.2.1,v.2.2.2.2.2,(shrI .u64 v.2.2.2.2.2 (32:Int))))
theorem q1gj C v:q3zh (regO (qcy f108) 13) false (an [2,8,9,10,11,12,13]) q1gd q1gi q1gh C v:=rgI (by kernel_rfl)
abbrev q1gk:Type:=Int×Int×Int×Int×Int×Int×Int
def q1gl (v:q1gk):St:=⟨[(2,u6 v.1),(8,u6 v.2.1),(9,u6 v.2.2.1),(10,u6 v.2.2.2.1),(11,u6 v.2.2.2.2.1),(13,u6 v.2.2.2.2.2.1),(14,u6 v.2.2.2.2.2.2)],[]⟩
def q1gm (C:q1f7) (v:q1gg):Dt q1gk:=(Dt.ret (v.1,v.2.1,v.2.2.1,v.2.2.2.1,v.2.2.2.2.1,v.2.2.2.2.2.2,(andI .u64 v.2.2.2.2.2.1 (4294967295:Int))))
theorem q1gn C v:q3zh (regO (qcy f108) 14) false (an [2,8,9,10,11,13,14]) q1gh q1gm q1gl C v:=rgI (by kernel_rfl)
abbrev q1go:Type:=Int×Int×Int×Int×Int×Int×Int×Int
def q1gp (v:q1go):St:=⟨[(2,u6 v.1),(8,u6 v.2.1),(9,u6 v.2.2.1),(10,u6 v.2.2.2.1),(11,u6 v.2.2.2.2.1),(13,u6 v.2.2.2.2.2.1),(14,u6 v.2.2.2.2.2.2.1),(15,u6 v.2.2.2.2.2.2.2)],[]⟩
def q1gq (C:q1f7) (v:q1gk):Dt q1go:=(Dt.ite (v.2.2.1==(0:Int)) Dt.fail (Dt.ret (v.1,v.2.1,v.2.2.1,v.2.2.2.1,v.2.2.2.2.1,v.2.2.2.2.2.1,v.2.2.2.2.2.2,(IntKind.wrap .u64 (Int.tdiv v.2.2.2.2.1 v.2.2.1)))))
theorem q1gr C v:q3zh (regO (qcy f108) 15) false (an [2,8,9,10,11,13,14,15]) q1gl q1gq q1gp C v:=rgI (by kernel_rfl)
abbrev q1gs:Type:=Int×Int×Int×Int×Int×Int×Int×Int×Int
def q1gt (v:q1gs):St:=⟨[(2,u6 v.1),(8,u6 v.2.1),(9,u6 v.2.2.1),(10,u6 v.2.2.2.1),(11,u6 v.2.2.2.2.1),(13,u6 v.2.2.2.2.2.1),(14,u6 v.2.2.2.2.2.2.1),(15,u6 v.2.2.2.2.2.2.2.1),(16,u6 v.2.2.2.2.2.2.2.2)],[]⟩
def q1gu (C:q1f7) (v:q1go):Dt q1gs:=(Dt.ret (v.1,v.2.1,v.2.2.1,v.2.2.2.1,v.2.2.2.2.1,v.2.2.2.2.2.1,v.2.2.2.2.2.2.1,v.2.2.2.2.2.2.2,(IntKind.wrap .u64 (v.2.2.2.2.1 - (IntKind.wrap .u64 (v.2.2.2.2.2.2.2*v.2.2.1))))))
theorem q1gv C v:q3zh (regO (qcy f108) 16) false (an [2,8,9,10,11,13,14,15,16]) q1gp q1gu q1gt C v:=rgI (by kernel_rfl)
abbrev q1gw:Type:=Int×Int×Int×Int×Int×Int×Int×Int×Int×Bool
def q1gx (v:q1gw):St:=⟨[(2,u6 v.1),(8,u6 v.2.1),(9,u6 v.2.2.1),(10,u6 v.2.2.2.1),(11,u6 v.2.2.2.2.1),(13,u6 v.2.2.2.2.2.1),(14,u6 v.2.2.2.2.2.2.1),(15,u6 v.2.2.2.2.2.2.2.1),(16,u6 v.2.2.2.2.2.2.2.2.1),(78,.bool v.2.2.2.2.2.2.2.2.2)],[]⟩
def q1gy (C:q1f7) (v:q1gs):Dt q1gw:=(Dt.ite (decide (v.2.2.2.2.2.2.2.1≥(4294967296:Int))) (Dt.ret (v.1,v.2.1,v.2.2.1,v.2.2.2.1,v.2.2.2.2.1,v.2.2.2.2.2.1,v.2.2.2.2.2.2.1,v.2.2.2.2.2.2.2.1,v.2.2.2.2.2.2.2.2,true)) (Dt.ret (v.1,v.2.1,v.2.2.1,v.2.2.2.1,v.2.2.2.2.1,v.2.2.2.2.2.1,v.2.2.2.2.2.2.1,v.2.2.2.2.2.2.2.1,v.2.2.2.2.2.2.2.2,(decide ((IntKind.wrap .u64 (v.2.2.2.2.2.2.2.1*v.2.2.2.1)) > (IntKind.wrap .u64 ((IntKind.wrap .u64 ((4294967296:Int)*v.2.2.2.2.2.2.2.2))+v.2.2.2.2.2.1)))))))
theorem q1gz C v:q3zh (regO (qcy f108) 17) false (an [2,8,9,10,11,13,14,15,16,78]) q1gt q1gy q1gx C v:=rgI (by kernel_rfl)
def q1h0 (C:q1f7) (v:q1gw):Dt q1gs:=(Dt.ret (v.1,v.2.1,v.2.2.1,v.2.2.2.1,v.2.2.2.2.1,v.2.2.2.2.2.1,v.2.2.2.2.2.2.1,(IntKind.wrap .u64 (v.2.2.2.2.2.2.2.1 - (1:Int))),v.2.2.2.2.2.2.2.2.1))
theorem q1h1 C v:q3zh (regO (qcy f108) 18) false (an [2,8,9,10,11,13,14,15,16]) q1gx q1h0 q1gt C v:=rgI (by kernel_rfl)
def q1h2 (C:q1f7) (v:q1gs):Dt q1gs:=(Dt.ret (v.1,v.2.1,v.2.2.1,v.2.2.2.1,v.2.2.2.2.1,v.2.2.2.2.2.1,v.2.2.2.2.2.2.1,v.2.2.2.2.2.2.2.1,(IntKind.wrap .u64 (v.2.2.2.2.2.2.2.2+v.2.2.1))))
theorem q1h3 C v:q3zh (regO (qcy f108) 19) false (an [2,8,9,10,11,13,14,15,16]) q1gt q1h2 q1gt C v:=rgI (by kernel_rfl)
abbrev q1h4:Type:=Int×Int×Int×Int×Int×Int×Int×Int×Int×Bool
def q1h5 (v:q1h4):St:=⟨[(2,u6 v.1),(8,u6 v.2.1),(9,u6 v.2.2.1),(10,u6 v.2.2.2.1),(11,u6 v.2.2.2.2.1),(13,u6 v.2.2.2.2.2.1),(14,u6 v.2.2.2.2.2.2.1),(15,u6 v.2.2.2.2.2.2.2.1),(16,u6 v.2.2.2.2.2.2.2.2.1),(85,.bool v.2.2.2.2.2.2.2.2.2)],[]⟩
def q1h6 (C:q1f7) (v:q1gs):Dt q1h4:=(Dt.ret (v.1,v.2.1,v.2.2.1,v.2.2.2.1,v.2.2.2.2.1,v.2.2.2.2.2.1,v.2.2.2.2.2.2.1,v.2.2.2.2.2.2.2.1,v.2.2.2.2.2.2.2.2,(decide (v.2.2.2.2.2.2.2.2≥(4294967296:Int)))))
theorem q1h7 C v:q3zh (regO (qcy f108) 20) false (an [2,8,9,10,11,13,14,15,16,85]) q1gt q1h6 q1h5 C v:=rgI (by kernel_rfl)
abbrev q1h8:Type:=Int×Int×Int×Int×Int×Int×Int
def q1h9 (v:q1h8):St:=⟨[(2,u6 v.1),(8,u6 v.2.1),(9,u6 v.2.2.1),(10,u6 v.2.2.2.1),(14,u6 v.2.2.2.2.1),(15,u6 v.2.2.2.2.2.1),(17,u6 v.2.2.2.2.2.2)],[]⟩
def q1ha (C:q1f7) (v:q1gs):Dt q1h8:=(Dt.ret (v.1,v.2.1,v.2.2.1,v.2.2.2.1,v.2.2.2.2.2.2.1,v.2.2.2.2.2.2.2.1,(IntKind.wrap .u64 ((IntKind.wrap .u64 ((IntKind.wrap .u64 (v.2.2.2.2.1*(4294967296:Int)))+v.2.2.2.2.2.1)) - (IntKind.wrap .u64 (v.2.2.2.2.2.2.2.1*v.1))))))
theorem q1hb C v:q3zh (regO (qcy f108) 21) false (an [2,8,9,10,14,15,17]) q1gt q1ha q1h9 C v:=rgI (by kernel_rfl)
abbrev q1hc:Type:=Int×Int×Int×Int×Int×Int×Int×Int
def q1hd (v:q1hc):St:=⟨[(2,u6 v.1),(8,u6 v.2.1),(9,u6 v.2.2.1),(10,u6 v.2.2.2.1),(14,u6 v.2.2.2.2.1),(15,u6 v.2.2.2.2.2.1),(17,u6 v.2.2.2.2.2.2.1),(18,u6 v.2.2.2.2.2.2.2)],[]⟩
def q1he (C:q1f7) (v:q1h8):Dt q1hc:=(Dt.ite (v.2.2.1==(0:Int)) Dt.fail (Dt.ret (v.1,v.2.1,v.2.2.1,v.2.2.2.1,v.2.2.2.2.1,v.2.2.2.2.2.1,v.2.2.2.2.2.2,(IntKind.wrap .u64 (Int.tdiv v.2.2.2.2.2.2 v.2.2.1)))))
theorem q1hf C v:q3zh (regO (qcy f108) 22) false (an [2,8,9,10,14,15,17,18]) q1h9 q1he q1hd C v:=rgI (by kernel_rfl)
abbrev q1hg:Type:=Int×Int×Int×Int×Int×Int×Int×Int×Int
def q1hh (v:q1hg):St:=⟨[(2,u6 v.1),(8,u6 v.2.1),(9,u6 v.2.2.1),(10,u6 v.2.2.2.1),(14,u6 v.2.2.2.2.1),(15,u6 v.2.2.2.2.2.1),(16,u6 v.2.2.2.2.2.2.1),(17,u6 v.2.2.2.2.2.2.2.1),(18,u6 v.2.2.2.2.2.2.2.2)],[]⟩
def q1hi (C:q1f7) (v:q1hc):Dt q1hg:=(Dt.ret (v.1,v.2.1,v.2.2.1,v.2.2.2.1,v.2.2.2.2.1,v.2.2.2.2.2.1,(IntKind.wrap .u64 (v.2.2.2.2.2.2.1 - (IntKind.wrap .u64 (v.2.2.2.2.2.2.2*v.2.2.1)))),v.2.2.2.2.2.2.1,v.2.2.2.2.2.2.2))
theorem q1hj C v:q3zh (regO (qcy f108) 23) false (an [2,8,9,10,14,15,16,17,18]) q1hd q1hi q1hh C v:=rgI (by kernel_rfl)
abbrev q1hk:Type:=Int×Int×Int×Int×Int×Int×Int×Int×Int×Bool
def q1hl (v:q1hk):St:=⟨[(2,u6 v.1),(8,u6 v.2.1),(9,u6 v.2.2.1),(10,u6 v.2.2.2.1),(14,u6 v.2.2.2.2.1),(15,u6 v.2.2.2.2.2.1),(16,u6 v.2.2.2.2.2.2.1),(17,u6 v.2.2.2.2.2.2.2.1),(18,u6 v.2.2.2.2.2.2.2.2.1),(113,.bool v.2.2.2.2.2.2.2.2.2)],[]⟩
def q1hm (C:q1f7) (v:q1hg):Dt q1hk:=(Dt.ite (decide (v.2.2.2.2.2.2.2.2≥(4294967296:Int))) (Dt.ret (v.1,v.2.1,v.2.2.1,v.2.2.2.1,v.2.2.2.2.1,v.2.2.2.2.2.1,v.2.2.2.2.2.2.1,v.2.2.2.2.2.2.2.1,v.2.2.2.2.2.2.2.2,true)) (Dt.ret (v.1,v.2.1,v.2.2.1,v.2.2.2.1,v.2.2.2.2.1,v.2.2.2.2.2.1,v.2.2.2.2.2.2.1,v.2.2.2.2.2.2.2.1,v.2.2.2.2.2.2.2.2,(decide ((IntKind.wrap .u64 (v.2.2.2.2.2.2.2.2*v.2.2.2.1)) > (IntKind.wrap .u64 ((IntKind.wrap .u64 ((4294967296:Int)*v.2.2.2.2.2.2.1))+v.2.2.2.2.1)))))))
theorem q1hn C v:q3zh (regO (qcy f108) 24) false (an [2,8,9,10,14,15,16,17,18,113]) q1hh q1hm q1hl C v:=rgI (by kernel_rfl)
def q1ho (C:q1f7) (v:q1hk):Dt q1hg:=(Dt.ret (v.1,v.2.1,v.2.2.1,v.2.2.2.1,v.2.2.2.2.1,v.2.2.2.2.2.1,v.2.2.2.2.2.2.1,v.2.2.2.2.2.2.2.1,(IntKind.wrap .u64 (v.2.2.2.2.2.2.2.2.1 - (1:Int)))))
theorem q1hp C v:q3zh (regO (qcy f108) 25) false (an [2,8,9,10,14,15,16,17,18]) q1hl q1ho q1hh C v:=rgI (by kernel_rfl)
def q1hq (C:q1f7) (v:q1hg):Dt q1hg:=(Dt.ret (v.1,v.2.1,v.2.2.1,v.2.2.2.1,v.2.2.2.2.1,v.2.2.2.2.2.1,(IntKind.wrap .u64 (v.2.2.2.2.2.2.1+v.2.2.1)),v.2.2.2.2.2.2.2.1,v.2.2.2.2.2.2.2.2))
theorem q1hr C v:q3zh (regO (qcy f108) 26) false (an [2,8,9,10,14,15,16,17,18]) q1hh q1hq q1hh C v:=rgI (by kernel_rfl)
abbrev q1hs:Type:=Int×Int×Int×Int×Int×Int×Int×Int×Int×Bool
def q1ht (v:q1hs):St:=⟨[(2,u6 v.1),(8,u6 v.2.1),(9,u6 v.2.2.1),(10,u6 v.2.2.2.1),(14,u6 v.2.2.2.2.1),(15,u6 v.2.2.2.2.2.1),(16,u6 v.2.2.2.2.2.2.1),(17,u6 v.2.2.2.2.2.2.2.1),(18,u6 v.2.2.2.2.2.2.2.2.1),(120,.bool v.2.2.2.2.2.2.2.2.2)],[]⟩
def q1hu (C:q1f7) (v:q1hg):Dt q1hs:=(Dt.ret (v.1,v.2.1,v.2.2.1,v.2.2.2.1,v.2.2.2.2.1,v.2.2.2.2.2.1,v.2.2.2.2.2.2.1,v.2.2.2.2.2.2.2.1,v.2.2.2.2.2.2.2.2,(decide (v.2.2.2.2.2.2.1≥(4294967296:Int)))))
theorem q1hv C v:q3zh (regO (qcy f108) 27) false (an [2,8,9,10,14,15,16,17,18,120]) q1hh q1hu q1ht C v:=rgI (by kernel_rfl)
def q1hw (C:q1f7) (v:q1hg):Dt q1fq:=(Dt.ite (decide (v.2.1<0)) Dt.fail (Dt.ret ((IntKind.wrap .u64 ((IntKind.wrap .u64 (v.2.2.2.2.2.1*(4294967296:Int)))+v.2.2.2.2.2.2.2.2)),(shrI .u64 (IntKind.wrap .u64 ((IntKind.wrap .u64 ((IntKind.wrap .u64 (v.2.2.2.2.2.2.2.1*(4294967296:Int)))+v.2.2.2.2.1)) - (IntKind.wrap .u64 (v.2.2.2.2.2.2.2.2*v.1)))) v.2.1))))
theorem q1hx C v:q3zh (regO (qcy f108) 28) false (an [6,7]) q1hh q1hw q1fr C v:=rgI (by kernel_rfl)
def q1hy  (d:Nat)  (z:Int×Int×Int×Int×Int×Int×Int×Int×Int):Option (q1f4) :=
 (q1hw (q1f8 d) z).eval fun y28 =>
 some y28
def q1hz (d:Nat) (self6:(Int×Int×Int×Int×Int×Int×Int×Int×Int)→Option q1f4) (x6:Int×Int×Int×Int×Int×Int×Int×Int×Int):Option q1f4 :=
 (q1hm (q1f8 d) x6).eval fun y24 =>
 bif y24.2.2.2.2.2.2.2.2.2 then ((q1ho (q1f8 d) y24).eval fun y25 =>
 (q1hq (q1f8 d) y25).eval fun y26 =>
 (q1hu (q1f8 d) y26).eval fun y27 =>
 bif y27.2.2.2.2.2.2.2.2.2 then (q1hy d  (y27.1,y27.2.1,y27.2.2.1,y27.2.2.2.1,y27.2.2.2.2.1,y27.2.2.2.2.2.1,y27.2.2.2.2.2.2.1,y27.2.2.2.2.2.2.2.1,y27.2.2.2.2.2.2.2.2.1)) else (self6 (y27.1,y27.2.1,y27.2.2.1,y27.2.2.2.1,y27.2.2.2.2.1,y27.2.2.2.2.2.1,y27.2.2.2.2.2.2.1,y27.2.2.2.2.2.2.2.1,y27.2.2.2.2.2.2.2.2.1))) else (q1hy d  (y24.1,y24.2.1,y24.2.2.1,y24.2.2.2.1,y24.2.2.2.2.1,y24.2.2.2.2.2.1,y24.2.2.2.2.2.2.1,y24.2.2.2.2.2.2.2.1,y24.2.2.2.2.2.2.2.2.1))
def q1i0  (d:Nat)  (z:Int×Int×Int×Int×Int×Int×Int×Int×Int):Option (q1f4) :=
 (q1ha (q1f8 d) z).eval fun y21 =>
 (q1he (q1f8 d) y21).eval fun y22 =>
 (q1hi (q1f8 d) y22).eval fun y23 =>
 iter (q1hz d ) d y23
def q1i1 (d:Nat) (self4:(Int×Int×Int×Int×Int×Int×Int×Int×Int)→Option q1f4) (x4:Int×Int×Int×Int×Int×Int×Int×Int×Int):Option q1f4 :=
 (q1gy (q1f8 d) x4).eval fun y17 =>
 bif y17.2.2.2.2.2.2.2.2.2 then ((q1h0 (q1f8 d) y17).eval fun y18 =>
 (q1h2 (q1f8 d) y18).eval fun y19 =>
 (q1h6 (q1f8 d) y19).eval fun y20 =>
 bif y20.2.2.2.2.2.2.2.2.2 then (q1i0 d  (y20.1,y20.2.1,y20.2.2.1,y20.2.2.2.1,y20.2.2.2.2.1,y20.2.2.2.2.2.1,y20.2.2.2.2.2.2.1,y20.2.2.2.2.2.2.2.1,y20.2.2.2.2.2.2.2.2.1)) else (self4 (y20.1,y20.2.1,y20.2.2.1,y20.2.2.2.1,y20.2.2.2.2.1,y20.2.2.2.2.2.1,y20.2.2.2.2.2.2.1,y20.2.2.2.2.2.2.2.1,y20.2.2.2.2.2.2.2.2.1))) else (q1i0 d  (y17.1,y17.2.1,y17.2.2.1,y17.2.2.2.1,y17.2.2.2.2.1,y17.2.2.2.2.2.1,y17.2.2.2.2.2.2.1,y17.2.2.2.2.2.2.2.1,y17.2.2.2.2.2.2.2.2.1))
def q1i2  (d:Nat)  (z:Int×Int×Int×Bool):Option (q1f4) :=
 (q1fo (q1f8 d) z).eval fun y5 =>
 bif y5.2.2.2 then ((q1fs (q1f8 d) y5).eval fun y6 =>
 some y6) else ((q1fw (q1f8 d) y5).eval fun y7 =>
 (q1fy (q1f8 d) y7).eval fun y8 =>
 (q1g2 (q1f8 d) y8).eval fun y9 =>
 (q1g6 (q1f8 d) y9).eval fun y10 =>
 (q1ga (q1f8 d) y10).eval fun y11 =>
 (q1ge (q1f8 d) y11).eval fun y12 =>
 (q1gi (q1f8 d) y12).eval fun y13 =>
 (q1gm (q1f8 d) y13).eval fun y14 =>
 (q1gq (q1f8 d) y14).eval fun y15 =>
 (q1gu (q1f8 d) y15).eval fun y16 =>
 iter (q1i1 d ) d y16)
def q1i3  (d:Nat)  (z:Int×Int×Int×Bool):Option (q1f4) :=
 (q1fk (q1f8 d) z).eval fun y3 =>
 bif y3.2.2.2 then (none) else (q1i2 d  y3)
def q1i4 (d:Nat) (x:q1f3):Option q1f4 :=
 (q1fc (q1f8 d) (x.1.1,x.2.1.1,x.2.2.1.1)).eval fun y0 =>
 (q1fg (q1f8 d) y0).eval fun y1 =>
 bif y1.2.2.2 then (none) else (q1i3 d  y1)
theorem q1i5 (d:Nat):COK prog (q1f6 (q1i4 d)):=by
 have hm:prog.follows .mixedOrders=true:=qjt
 have hT:=tys
 have hC0:OrcOK prog (orc (q1f9 (q1f8 d))):=qcs (by
  intro S hS
  simp only [q1f9,List.mem_cons,List.not_mem_nil,or_false] at hS
  subst hS;exact q1f1 d)
 have hC:OrcOK prog (orc (q1f9 (q1f8 d))):=hC0
 refine q8e (c:=qcy f108) (fn:=f108) hT (by kernel_rfl) (by kernel_rfl) (by decide) fun x r h w0 φ0 Q hend=>?_
 replace h:q1i4 d x=some r:=h
 unfold q1i4 at h
 show Run prog w0 φ0 135 (qcy f108) ⟨[(0,.int .u64 x.1.1),(1,.int .u64 x.2.1.1),(2,.int .u64 x.2.2.1.1)],[]⟩ Q
 refine q3yx hm hT hC (q1fd (q1f8 d) (x.1.1,x.2.1.1,x.2.2.1.1)) h fun y0 h=>?_
 refine q81 (r:=r) (F:=q1i3 d ) (S:=(fun z=>⟨[(0,u6 z.1),(1,u6 z.2.1),(2,u6 z.2.2.1),(20,.bool z.2.2.2)],[]⟩:q1fe→St)) ?_ ?_
 ·
  intro z h
  unfold q1i3 at h
  refine q81 (r:=r) (F:=q1i2 d ) (S:=(fun z=>⟨[(0,u6 z.1),(1,u6 z.2.1),(2,u6 z.2.2.1),(24,.bool z.2.2.2)],[]⟩:q1fe→St)) ?_ ?_
  ·
   intro z h
   unfold q1i2 at h
   refine q7y ?_
   refine q3yx hm hT hC (q1fp (q1f8 d) z) h fun y5 h=>?_
   refine q82 (v:=y5.2.2.2) (by kernel_rfl) h ?_ ?_
   ·
    intro h
    refine q3yx hm hT hC (q1ft (q1f8 d) y5) h fun y6 h=>?_
    refine q7x (q7m ?_)
    cases h
    exact (hend _ (by kernel_rfl)).2
   ·
    intro h
    refine q7u (q7k ?_)
    refine q3yx hm hT hC (q1fx (q1f8 d) y5) h fun y7 h=>?_
    refine q3yx hm hT hC (q1fz (q1f8 d) y7) h fun y8 h=>?_
    refine q3yx hm hT hC (q1g3 (q1f8 d) y8) h fun y9 h=>?_
    refine q3yx hm hT hC (q1g7 (q1f8 d) y9) h fun y10 h=>?_
    refine q3yx hm hT hC (q1gb (q1f8 d) y10) h fun y11 h=>?_
    refine q3yx hm hT hC (q1gf (q1f8 d) y11) h fun y12 h=>?_
    refine q3yx hm hT hC (q1gj (q1f8 d) y12) h fun y13 h=>?_
    refine q3yx hm hT hC (q1gn (q1f8 d) y13) h fun y14 h=>?_
    refine q3yx hm hT hC (q1gr (q1f8 d) y14) h fun y15 h=>?_
    refine q3yx hm hT hC (q1gv (q1f8 d) y15) h fun y16 h=>?_
    refine q81 (r:=r) (F:=q1i0 d ) (S:=(fun z=>⟨[(2,u6 z.1),(8,u6 z.2.1),(9,u6 z.2.2.1),(10,u6 z.2.2.2.1),(11,u6 z.2.2.2.2.1),(13,u6 z.2.2.2.2.2.1),(14,u6 z.2.2.2.2.2.2.1),(15,u6 z.2.2.2.2.2.2.2.1),(16,u6 z.2.2.2.2.2.2.2.2)],[]⟩:q1gs→St)) ?_ ?_
    ·
     intro z h
     unfold q1i0 at h
     refine q3yx hm hT hC (q1hb (q1f8 d) z) h fun y21 h=>?_
     refine q3yx hm hT hC (q1hf (q1f8 d) y21) h fun y22 h=>?_
     refine q3yx hm hT hC (q1hj (q1f8 d) y22) h fun y23 h=>?_
     refine q81 (r:=r) (F:=q1hy d ) (S:=(fun z=>⟨[(2,u6 z.1),(8,u6 z.2.1),(9,u6 z.2.2.1),(10,u6 z.2.2.2.1),(14,u6 z.2.2.2.2.1),(15,u6 z.2.2.2.2.2.1),(16,u6 z.2.2.2.2.2.2.1),(17,u6 z.2.2.2.2.2.2.2.1),(18,u6 z.2.2.2.2.2.2.2.2)],[]⟩:q1gs→St)) ?_ ?_
     ·
      intro z h
      unfold q1hy at h
      refine q3yx hm hT hC (q1hx (q1f8 d) z) h fun y28 h=>?_
      refine q7x ?_
      cases h
      exact (hend _ (by kernel_rfl)).2
     intro hj5
     refine q7z ?_
     refine q84 (G:=iter (q1hz d )) (S:=(fun x6=>⟨[(2,u6 x6.1),(8,u6 x6.2.1),(9,u6 x6.2.2.1),(10,u6 x6.2.2.2.1),(14,u6 x6.2.2.2.2.1),(15,u6 x6.2.2.2.2.2.1),(16,u6 x6.2.2.2.2.2.2.1),(17,u6 x6.2.2.2.2.2.2.2.1),(18,u6 x6.2.2.2.2.2.2.2.2)],[]⟩:q1gs→St)) (fun _=>rfl) ?_ d _ h
     intro n6 x6 h K6 hn6
     replace h:q1hz d  (iter (q1hz d ) n6) x6=some r:=h
     generalize iter (q1hz d ) n6=self6 at h hn6
     unfold q1hz at h
     refine q7y ?_
     refine q3yx hm hT hC (q1hn (q1f8 d) x6) h fun y24 h=>?_
     refine q82 (v:=y24.2.2.2.2.2.2.2.2.2) (by kernel_rfl) h ?_ ?_
     ·
      intro h
      refine q7u (q7k (q7z ?_))
      refine q3yx hm hT hC (q1hp (q1f8 d) y24) h fun y25 h=>?_
      refine q3yx hm hT hC (q1hr (q1f8 d) y25) h fun y26 h=>?_
      refine q3yx hm hT hC (q1hv (q1f8 d) y26) h fun y27 h=>?_
      refine q82 (v:=y27.2.2.2.2.2.2.2.2.2) (by kernel_rfl) h ?_ ?_
      ·
       intro h
       refine q7w ?_
       refine q7q (by rfl) ?_
       refine q7l (q7p ?_)
       refine qcx (s:=⟨[(2,.int .u64 y27.1),(8,.int .u64 y27.2.1),(9,.int .u64 y27.2.2.1),(10,.int .u64 y27.2.2.2.1),(14,.int .u64 y27.2.2.2.2.1),(15,.int .u64 y27.2.2.2.2.2.1),(16,.int .u64 y27.2.2.2.2.2.2.1),(17,.int .u64 y27.2.2.2.2.2.2.2.1),(18,.int .u64 y27.2.2.2.2.2.2.2.2.1)],[]⟩) [120] (by kernel_rfl) ?_
       exact hj5 _ h
      ·
       intro h
       refine q7u (q7n ?_)
       refine qcx (s:=⟨[(2,.int .u64 y27.1),(8,.int .u64 y27.2.1),(9,.int .u64 y27.2.2.1),(10,.int .u64 y27.2.2.2.1),(14,.int .u64 y27.2.2.2.2.1),(15,.int .u64 y27.2.2.2.2.2.1),(16,.int .u64 y27.2.2.2.2.2.2.1),(17,.int .u64 y27.2.2.2.2.2.2.2.1),(18,.int .u64 y27.2.2.2.2.2.2.2.2.1)],[]⟩) [120] (by kernel_rfl) ?_
       exact hn6 _ h
     ·
      intro h
      refine q7w (q7l (q7l (q7p ?_)))
      refine qcx (s:=⟨[(2,.int .u64 y24.1),(8,.int .u64 y24.2.1),(9,.int .u64 y24.2.2.1),(10,.int .u64 y24.2.2.2.1),(14,.int .u64 y24.2.2.2.2.1),(15,.int .u64 y24.2.2.2.2.2.1),(16,.int .u64 y24.2.2.2.2.2.2.1),(17,.int .u64 y24.2.2.2.2.2.2.2.1),(18,.int .u64 y24.2.2.2.2.2.2.2.2.1)],[]⟩) [113] (by kernel_rfl) ?_
      exact hj5 _ h
    intro hj3
    refine q7z ?_
    refine q84 (G:=iter (q1i1 d )) (S:=(fun x4=>⟨[(2,u6 x4.1),(8,u6 x4.2.1),(9,u6 x4.2.2.1),(10,u6 x4.2.2.2.1),(11,u6 x4.2.2.2.2.1),(13,u6 x4.2.2.2.2.2.1),(14,u6 x4.2.2.2.2.2.2.1),(15,u6 x4.2.2.2.2.2.2.2.1),(16,u6 x4.2.2.2.2.2.2.2.2)],[]⟩:q1gs→St)) (fun _=>rfl) ?_ d _ h
    intro n4 x4 h K4 hn4
    replace h:q1i1 d  (iter (q1i1 d ) n4) x4=some r:=h
    generalize iter (q1i1 d ) n4=self4 at h hn4
    unfold q1i1 at h
    refine q7y ?_
    refine q3yx hm hT hC (q1gz (q1f8 d) x4) h fun y17 h=>?_
    refine q82 (v:=y17.2.2.2.2.2.2.2.2.2) (by kernel_rfl) h ?_ ?_
    ·
     intro h
     refine q7u (q7k (q7z ?_))
     refine q3yx hm hT hC (q1h1 (q1f8 d) y17) h fun y18 h=>?_
     refine q3yx hm hT hC (q1h3 (q1f8 d) y18) h fun y19 h=>?_
     refine q3yx hm hT hC (q1h7 (q1f8 d) y19) h fun y20 h=>?_
     refine q82 (v:=y20.2.2.2.2.2.2.2.2.2) (by kernel_rfl) h ?_ ?_
     ·
      intro h
      refine q7w ?_
      refine q7q (by rfl) ?_
      refine q7l (q7p ?_)
      refine qcx (s:=⟨[(2,.int .u64 y20.1),(8,.int .u64 y20.2.1),(9,.int .u64 y20.2.2.1),(10,.int .u64 y20.2.2.2.1),(11,.int .u64 y20.2.2.2.2.1),(13,.int .u64 y20.2.2.2.2.2.1),(14,.int .u64 y20.2.2.2.2.2.2.1),(15,.int .u64 y20.2.2.2.2.2.2.2.1),(16,.int .u64 y20.2.2.2.2.2.2.2.2.1)],[]⟩) [85] (by kernel_rfl) ?_
      exact hj3 _ h
     ·
      intro h
      refine q7u (q7n ?_)
      refine qcx (s:=⟨[(2,.int .u64 y20.1),(8,.int .u64 y20.2.1),(9,.int .u64 y20.2.2.1),(10,.int .u64 y20.2.2.2.1),(11,.int .u64 y20.2.2.2.2.1),(13,.int .u64 y20.2.2.2.2.2.1),(14,.int .u64 y20.2.2.2.2.2.2.1),(15,.int .u64 y20.2.2.2.2.2.2.2.1),(16,.int .u64 y20.2.2.2.2.2.2.2.2.1)],[]⟩) [85] (by kernel_rfl) ?_
      exact hn4 _ h
    ·
     intro h
     refine q7w (q7l (q7l (q7p ?_)))
     refine qcx (s:=⟨[(2,.int .u64 y17.1),(8,.int .u64 y17.2.1),(9,.int .u64 y17.2.2.1),(10,.int .u64 y17.2.2.2.1),(11,.int .u64 y17.2.2.2.2.1),(13,.int .u64 y17.2.2.2.2.2.1),(14,.int .u64 y17.2.2.2.2.2.2.1),(15,.int .u64 y17.2.2.2.2.2.2.2.1),(16,.int .u64 y17.2.2.2.2.2.2.2.2.1)],[]⟩) [78] (by kernel_rfl) ?_
     exact hj3 _ h
  intro hj2
  refine q3yx hm hT hC (q1fl (q1f8 d) z) h fun y3 h=>?_
  refine q82 (v:=y3.2.2.2) (by kernel_rfl) h ?_ ?_
  ·
   intro h
   cases h
  ·
   intro h
   refine q7u ?_
   exact hj2 _ h
 intro hj1
 refine q3yx hm hT hC (q1fh (q1f8 d) y0) h fun y1 h=>?_
 refine q82 (v:=y1.2.2.2) (by kernel_rfl) h ?_ ?_
 ·
  intro h
  cases h
 ·
  intro h
  refine q7u ?_
  exact hj1 _ h
abbrev q1i6:List Pk:=[.row Ru false,.row Ru false,.row Ru false]
abbrev q1i7:Type:=Du×Du×Du×Unit
abbrev q1i8:Type:=Int
def q1i9 (r:q1i8):LV×List Ob:=(.int .u64 r,[])
def q1ia (F:q1i7→Option q1i8):Go.Tx.Spec:=⟨107,q1i6,q1i8,F,q1i9⟩
abbrev q1ib:Type:=(q1f3→Option q1f4)×Unit
def q1ic (d:Nat):q1ib:=(q1i4 d,())
def q1id (C:q1ib):List Go.Tx.Spec:=[q1f6 C.1]
abbrev q1ie:Type:=Int×Int×Int
def q1if (v:q1ie):St:=⟨[(0,u6 v.1),(1,u6 v.2.1),(2,u6 v.2.2)],[]⟩
def q1ig (C:q1ib) (v:q1ie):Dt q1ie:=(Dt.ret (v.1,v.2.1,v.2.2))
abbrev q3zi {V Y:Type}:=@rg q1ib V Y tysT (fun C=>(orc (q1id C))) 19
theorem q1ih C v:q3zi (regO (qcy f107) 0) false (an [0,1,2]) q1if q1ig q1if C v:=rgI (by kernel_rfl)
abbrev q1ii:Type:=Int
def q1ij (v:q1ii):St:=⟨[(8,u6 v)],[]⟩
def q1ik (C:q1ib) (v:q1ie):Dt q1ii:=(Dt.ite (v.2.2==(0:Int)) Dt.fail (Dt.bnd (C.1 (((Int.tmod v.1 v.2.2),()),(v.2.1,()),(v.2.2,()),())) fun r1=>(Dt.ret r1.2)))
theorem q1il C v:q3zi (regO (qcy f107) 1) false [(8,.any)] q1if q1ik q1ij C v:=rgI (by kernel_rfl)
abbrev q1im:Type:=Int
def q1in (v:q1im):St:=⟨[(6,u6 v)],[]⟩
def q1io (C:q1ib) (v:q1ii):Dt q1im:=(Dt.ret v)
theorem q1ip C v:q3zi (regO (qcy f107) 2) false [(6,.any)] q1ij q1io q1in C v:=rgI (by kernel_rfl)
def q1iq (d:Nat) (x:q1i7):Option q1i8 :=
 (q1ig (q1ic d) (x.1.1,x.2.1.1,x.2.2.1.1)).eval fun y0 =>
 (q1ik (q1ic d) y0).eval fun y1 =>
 (q1io (q1ic d) y1).eval fun y2 =>
 some y2
theorem q1ir (d:Nat):COK prog (q1ia (q1iq d)):=by
 have hm:prog.follows .mixedOrders=true:=qjt
 have hT:=tys
 have hC0:OrcOK prog (orc (q1id (q1ic d))):=qcs (by
  intro S hS
  simp only [q1id,List.mem_cons,List.not_mem_nil,or_false] at hS
  subst hS;exact q1i5 d)
 have hC:OrcOK prog (orc (q1id (q1ic d))):=hC0
 refine q8e (c:=qcy f107) (fn:=f107) hT (by kernel_rfl) (by kernel_rfl) (by decide) fun x r h w0 φ0 Q hend=>?_
 replace h:q1iq d x=some r:=h
 unfold q1iq at h
 show Run prog w0 φ0 19 (qcy f107) ⟨[(0,.int .u64 x.1.1),(1,.int .u64 x.2.1.1),(2,.int .u64 x.2.2.1.1)],[]⟩ Q
 refine q3yx hm hT hC (q1ih (q1ic d) (x.1.1,x.2.1.1,x.2.2.1.1)) h fun y0 h=>?_
 refine q3yx hm hT hC (q1il (q1ic d) y0) h fun y1 h=>?_
 refine q3yx hm hT hC (q1ip (q1ic d) y1) h fun y2 h=>?_
 refine q7x ?_
 cases h
 exact (hend _ (by kernel_rfl)).2
end Go.Proofs.YtpfhgnccpiildaaGreat

namespace Go.Proofs.YtpfhgnccpiildaaGreat
open Go Go.Tx Go.Pel Go.Proofs.Tryz
set_option maxRecDepth 100000
set_option maxHeartbeats 0
abbrev q1is:List Pk:=[.row qje true]
abbrev q1it:Type:=qjf×Unit
abbrev q1iu:Type:=Int×Int
def q1iv (r:q1iu):LV×List Ob:=(.agg [.int .i64 r.1,.int .u64 r.2],[])
def q1iw (F:q1it→Option q1iu):Go.Tx.Spec:=⟨105,q1is,q1iu,F,q1iv⟩
def q1ix (x:q1it):Bool:=sumB x.1.1 x.1.2.1 x.1.2.2.1 x.1.2.2.2.1
def q1iy (d:Nat) (x:q1it):Option q1iu:=bif q1ix x then some ((x.1.1*x.1.2.1+x.1.2.2.1*x.1.2.2.2.1) / 18446744073709551616,(x.1.1*x.1.2.1+x.1.2.2.1*x.1.2.2.2.1) % 18446744073709551616) else none
theorem q1iz (d:Nat) (x:q1it) (h:q1ix x=true):q1iy d x=some ((x.1.1*x.1.2.1+x.1.2.2.1*x.1.2.2.2.1) / 18446744073709551616,(x.1.1*x.1.2.1+x.1.2.2.1*x.1.2.2.2.1) % 18446744073709551616):=by unfold q1iy;rw [h];rfl
theorem q1j0 (d:Nat):COK prog (q1iw (q1iy d)):=by
 refine qhj (qhk (fn:=f105) (by kernel_rfl) (by kernel_rfl) (by kernel_rfl)) fun x r hx w φ vs hφ hv=>?_
 have hx:q1iy d x=some r:=hx
 unfold q1iy at hx
 obtain ⟨hc,rfl⟩:=qiz hx
 have hv:VRs (Emb.fro φ) [.agg [.int .i64 x.1.1,.int .i64 x.1.2.1,.int .i64 x.1.2.2.1,.int .i64 x.1.2.2.2.1]] vs:=hv
 obtain ⟨v0,rfl,q0⟩:=vrs1 hv
 have r0:=quv q0;subst r0
 unfold q1ix at hc
 have h1:=hc
 refine (quw h1 w).mono ?_
 rintro e w' ⟨rfl,y,rfl⟩
 exact qhh hφ (VR.aggL (VRs.cons (.int _ _) (VRs.cons (.int _ _) VRs.nil))) y
end Go.Proofs.YtpfhgnccpiildaaGreat
